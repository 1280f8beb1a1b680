/- Contracts of the functions that copy, compare, mark and measure. -/
import Derived.Test.YtbonielldgjhiaaGreatProg
import Derived.Test.YtbonielldgjhiaaGreatC
set_option linter.unusedVariables false
set_option linter.unusedSimpArgs false
set_option maxRecDepth 10000
open Go.Proofs
/- The table of the types that the functions of this seat use, and its proof. -/
namespace Go.Al
variable {L : Nat} (h1 : 4096 ≤ L) (h2 : L ≤ 1073741824)
def tt : List (Nat × TI) := [
  (2, ⟨4, false, 0, 1, 8, [.int .i64 0], []⟩),
  (3, ⟨4, false, 0, 1, 8, [.int .i64 0], []⟩),
  (4, ⟨5, false, 0, 1, 1, [.bool false], []⟩),
  (22, ⟨1, false, 91, 1, 24, [.nils], []⟩),
  (23, ⟨1, false, 94, 1, 24, [.nils], []⟩),
  (25, ⟨3, true, 0, 3, 72, [.nils, .nils, .nils], [(0, 1), (1, 1), (2, 1)]⟩),
  (27, ⟨1, false, 75, 1, 24, [.nils], []⟩),
  (30, ⟨1, false, 87, 1, 24, [.nils], []⟩),
  (31, ⟨1, false, 110, 1, 24, [.nils], []⟩),
  (33, ⟨3, true, 0, 3, 72, [.nils, .nils, .nils], [(0, 1), (1, 1), (2, 1)]⟩),
  (42, ⟨1, false, 89, 1, 24, [.nils], []⟩),
  (51, ⟨6, false, 0, 1, 8, [.nilp], []⟩),
  (55, ⟨1, false, 102, 1, 24, [.nils], []⟩),
  (57, ⟨3, true, 0, 6, 96, [.nilp, .nils, .int .i64 0, .nils, .nils, .bool false], [(0, 1), (1, 1), (2, 1), (3, 1), (4, 1), (5, 1)]⟩),
  (60, ⟨6, false, 0, 1, 8, [.nilp], []⟩),
  (63, ⟨1, false, 30, 1, 24, [.nils], []⟩),
  (65, ⟨3, true, 0, 5, 104, [.nils, .nils, .nils, .nils, .bool false], [(0, 1), (1, 1), (2, 1), (3, 1), (4, 1)]⟩),
  (66, ⟨6, false, 0, 1, 8, [.nilp], []⟩),
  (67, ⟨1, false, 66, 1, 24, [.nils], []⟩),
  (68, ⟨1, false, 148, 1, 24, [.nils], []⟩),
  (69, ⟨8, false, 0, 1, 8, [.nilm], []⟩),
  (71, ⟨3, true, 0, 9, 168, [.nils, .nils, .nils, .nils, .bool false, .nilp, .nils, .nils, .nilm], [(0, 5), (5, 1), (6, 1), (7, 1), (8, 1)]⟩),
  (73, ⟨1, false, 2, 1, 24, [.nils], []⟩),
  (75, ⟨3, true, 0, 5, 88, [.int .i64 0, .int .i64 0, .nils, .nils, .nils], [(0, 1), (1, 1), (2, 1), (3, 1), (4, 1)]⟩),
  (87, ⟨3, true, 0, 2, 32, [.int .i64 0, .nils], [(0, 1), (1, 1)]⟩),
  (89, ⟨3, true, 0, 3, 56, [.nils, .int .i64 0, .nils], [(0, 1), (1, 2)]⟩),
  (91, ⟨3, true, 0, 2, 32, [.int .i64 0, .nils], [(0, 1), (1, 1)]⟩),
  (94, ⟨3, true, 0, 8, 112, [.int .i64 0, .int .i64 0, .int .i64 0, .int .i64 0, .nils, .int .i64 0, .nils, .nils], [(0, 1), (1, 1), (2, 1), (3, 2), (5, 2), (7, 1)]⟩),
  (102, ⟨3, true, 0, 3, 24, [.int .i64 0, .int .i64 0, .int .i64 0], [(0, 1), (1, 1), (2, 1)]⟩),
  (106, ⟨3, true, 0, 4, 80, [.nils, .int .i64 0, .nils, .nils], [(0, 1), (1, 1), (2, 1), (3, 1)]⟩),
  (110, ⟨3, true, 0, 8, 112, [.int .i64 0, .int .i64 0, .int .i64 0, .int .i64 0, .nils, .int .i64 0, .nils, .nils], [(0, 1), (1, 1), (2, 1), (3, 2), (5, 2), (7, 1)]⟩),
  (145, ⟨3, true, 0, 6, 112, [.int .i64 0, .nils, .nils, .nils, .nils, .int .i64 0], [(0, 1), (1, 1), (2, 1), (3, 1), (4, 1), (5, 1)]⟩),
  (148, ⟨6, false, 0, 1, 8, [.nilp], []⟩),
  (150, ⟨3, true, 0, 3, 24, [.nilp, .int .i64 0, .nilp], [(0, 1), (1, 1), (2, 1)]⟩),
  (155, ⟨3, true, 0, 10, 144, [.int .i64 0, .int .i64 0, .int .i64 0, .int .i64 0, .nils, .int .i64 0, .nils, .nils, .int .i64 0, .nils], [(0, 8), (8, 1), (9, 1)]⟩)
]
theorem tt2 : TIok Tryz.prog 2 ⟨4, false, 0, 1, 8, [.int .i64 0], []⟩ := ⟨by kernel_rfl, by kernel_rfl, by kernel_rfl, by kernel_rfl, by kernel_rfl, by kernel_rfl, by kernel_rfl⟩
theorem tt3 : TIok Tryz.prog 3 ⟨4, false, 0, 1, 8, [.int .i64 0], []⟩ := ⟨by kernel_rfl, by kernel_rfl, by kernel_rfl, by kernel_rfl, by kernel_rfl, by kernel_rfl, by kernel_rfl⟩
theorem tt4 : TIok Tryz.prog 4 ⟨5, false, 0, 1, 1, [.bool false], []⟩ := ⟨by kernel_rfl, by kernel_rfl, by kernel_rfl, by kernel_rfl, by kernel_rfl, by kernel_rfl, by kernel_rfl⟩
theorem wE : TIok Tryz.prog 22 ⟨1, false, 91, 1, 24, [.nils], []⟩ := ⟨by kernel_rfl, by kernel_rfl, by kernel_rfl, by kernel_rfl, by kernel_rfl, by kernel_rfl, by kernel_rfl⟩
theorem wD : TIok Tryz.prog 23 ⟨1, false, 94, 1, 24, [.nils], []⟩ := ⟨by kernel_rfl, by kernel_rfl, by kernel_rfl, by kernel_rfl, by kernel_rfl, by kernel_rfl, by kernel_rfl⟩
theorem wC : TIok Tryz.prog 25 ⟨3, true, 0, 3, 72, [.nils, .nils, .nils], [(0, 1), (1, 1), (2, 1)]⟩ := ⟨by kernel_rfl, by kernel_rfl, by kernel_rfl, by kernel_rfl, by kernel_rfl, by kernel_rfl, by kernel_rfl⟩
theorem wB : TIok Tryz.prog 27 ⟨1, false, 75, 1, 24, [.nils], []⟩ := ⟨by kernel_rfl, by kernel_rfl, by kernel_rfl, by kernel_rfl, by kernel_rfl, by kernel_rfl, by kernel_rfl⟩
theorem wz : TIok Tryz.prog 30 ⟨1, false, 87, 1, 24, [.nils], []⟩ := ⟨by kernel_rfl, by kernel_rfl, by kernel_rfl, by kernel_rfl, by kernel_rfl, by kernel_rfl, by kernel_rfl⟩
theorem wy : TIok Tryz.prog 31 ⟨1, false, 110, 1, 24, [.nils], []⟩ := ⟨by kernel_rfl, by kernel_rfl, by kernel_rfl, by kernel_rfl, by kernel_rfl, by kernel_rfl, by kernel_rfl⟩
theorem wx : TIok Tryz.prog 33 ⟨3, true, 0, 3, 72, [.nils, .nils, .nils], [(0, 1), (1, 1), (2, 1)]⟩ := ⟨by kernel_rfl, by kernel_rfl, by kernel_rfl, by kernel_rfl, by kernel_rfl, by kernel_rfl, by kernel_rfl⟩
theorem ww : TIok Tryz.prog 42 ⟨1, false, 89, 1, 24, [.nils], []⟩ := ⟨by kernel_rfl, by kernel_rfl, by kernel_rfl, by kernel_rfl, by kernel_rfl, by kernel_rfl, by kernel_rfl⟩
theorem wv : TIok Tryz.prog 51 ⟨6, false, 0, 1, 8, [.nilp], []⟩ := ⟨by kernel_rfl, by kernel_rfl, by kernel_rfl, by kernel_rfl, by kernel_rfl, by kernel_rfl, by kernel_rfl⟩
theorem wu : TIok Tryz.prog 55 ⟨1, false, 102, 1, 24, [.nils], []⟩ := ⟨by kernel_rfl, by kernel_rfl, by kernel_rfl, by kernel_rfl, by kernel_rfl, by kernel_rfl, by kernel_rfl⟩
theorem wt : TIok Tryz.prog 57 ⟨3, true, 0, 6, 96, [.nilp, .nils, .int .i64 0, .nils, .nils, .bool false], [(0, 1), (1, 1), (2, 1), (3, 1), (4, 1), (5, 1)]⟩ := ⟨by kernel_rfl, by kernel_rfl, by kernel_rfl, by kernel_rfl, by kernel_rfl, by kernel_rfl, by kernel_rfl⟩
theorem wr : TIok Tryz.prog 60 ⟨6, false, 0, 1, 8, [.nilp], []⟩ := ⟨by kernel_rfl, by kernel_rfl, by kernel_rfl, by kernel_rfl, by kernel_rfl, by kernel_rfl, by kernel_rfl⟩
theorem wq : TIok Tryz.prog 63 ⟨1, false, 30, 1, 24, [.nils], []⟩ := ⟨by kernel_rfl, by kernel_rfl, by kernel_rfl, by kernel_rfl, by kernel_rfl, by kernel_rfl, by kernel_rfl⟩
theorem wo : TIok Tryz.prog 65 ⟨3, true, 0, 5, 104, [.nils, .nils, .nils, .nils, .bool false], [(0, 1), (1, 1), (2, 1), (3, 1), (4, 1)]⟩ := ⟨by kernel_rfl, by kernel_rfl, by kernel_rfl, by kernel_rfl, by kernel_rfl, by kernel_rfl, by kernel_rfl⟩
theorem wn : TIok Tryz.prog 66 ⟨6, false, 0, 1, 8, [.nilp], []⟩ := ⟨by kernel_rfl, by kernel_rfl, by kernel_rfl, by kernel_rfl, by kernel_rfl, by kernel_rfl, by kernel_rfl⟩
theorem wm : TIok Tryz.prog 67 ⟨1, false, 66, 1, 24, [.nils], []⟩ := ⟨by kernel_rfl, by kernel_rfl, by kernel_rfl, by kernel_rfl, by kernel_rfl, by kernel_rfl, by kernel_rfl⟩
theorem wl : TIok Tryz.prog 68 ⟨1, false, 148, 1, 24, [.nils], []⟩ := ⟨by kernel_rfl, by kernel_rfl, by kernel_rfl, by kernel_rfl, by kernel_rfl, by kernel_rfl, by kernel_rfl⟩
theorem wk : TIok Tryz.prog 69 ⟨8, false, 0, 1, 8, [.nilm], []⟩ := ⟨by kernel_rfl, by kernel_rfl, by kernel_rfl, by kernel_rfl, by kernel_rfl, by kernel_rfl, by kernel_rfl⟩
theorem wj : TIok Tryz.prog 71 ⟨3, true, 0, 9, 168, [.nils, .nils, .nils, .nils, .bool false, .nilp, .nils, .nils, .nilm], [(0, 5), (5, 1), (6, 1), (7, 1), (8, 1)]⟩ := ⟨by kernel_rfl, by kernel_rfl, by kernel_rfl, by kernel_rfl, by kernel_rfl, by kernel_rfl, by kernel_rfl⟩
theorem wi : TIok Tryz.prog 73 ⟨1, false, 2, 1, 24, [.nils], []⟩ := ⟨by kernel_rfl, by kernel_rfl, by kernel_rfl, by kernel_rfl, by kernel_rfl, by kernel_rfl, by kernel_rfl⟩
theorem wh : TIok Tryz.prog 75 ⟨3, true, 0, 5, 88, [.int .i64 0, .int .i64 0, .nils, .nils, .nils], [(0, 1), (1, 1), (2, 1), (3, 1), (4, 1)]⟩ := ⟨by kernel_rfl, by kernel_rfl, by kernel_rfl, by kernel_rfl, by kernel_rfl, by kernel_rfl, by kernel_rfl⟩
theorem wg : TIok Tryz.prog 87 ⟨3, true, 0, 2, 32, [.int .i64 0, .nils], [(0, 1), (1, 1)]⟩ := ⟨by kernel_rfl, by kernel_rfl, by kernel_rfl, by kernel_rfl, by kernel_rfl, by kernel_rfl, by kernel_rfl⟩
theorem we : TIok Tryz.prog 89 ⟨3, true, 0, 3, 56, [.nils, .int .i64 0, .nils], [(0, 1), (1, 2)]⟩ := ⟨by kernel_rfl, by kernel_rfl, by kernel_rfl, by kernel_rfl, by kernel_rfl, by kernel_rfl, by kernel_rfl⟩
theorem wd : TIok Tryz.prog 91 ⟨3, true, 0, 2, 32, [.int .i64 0, .nils], [(0, 1), (1, 1)]⟩ := ⟨by kernel_rfl, by kernel_rfl, by kernel_rfl, by kernel_rfl, by kernel_rfl, by kernel_rfl, by kernel_rfl⟩
theorem wc : TIok Tryz.prog 94 ⟨3, true, 0, 8, 112, [.int .i64 0, .int .i64 0, .int .i64 0, .int .i64 0, .nils, .int .i64 0, .nils, .nils], [(0, 1), (1, 1), (2, 1), (3, 2), (5, 2), (7, 1)]⟩ := ⟨by kernel_rfl, by kernel_rfl, by kernel_rfl, by kernel_rfl, by kernel_rfl, by kernel_rfl, by kernel_rfl⟩
theorem vi : TIok Tryz.prog 102 ⟨3, true, 0, 3, 24, [.int .i64 0, .int .i64 0, .int .i64 0], [(0, 1), (1, 1), (2, 1)]⟩ := ⟨by kernel_rfl, by kernel_rfl, by kernel_rfl, by kernel_rfl, by kernel_rfl, by kernel_rfl, by kernel_rfl⟩
theorem vg : TIok Tryz.prog 106 ⟨3, true, 0, 4, 80, [.nils, .int .i64 0, .nils, .nils], [(0, 1), (1, 1), (2, 1), (3, 1)]⟩ := ⟨by kernel_rfl, by kernel_rfl, by kernel_rfl, by kernel_rfl, by kernel_rfl, by kernel_rfl, by kernel_rfl⟩
theorem vf : TIok Tryz.prog 110 ⟨3, true, 0, 8, 112, [.int .i64 0, .int .i64 0, .int .i64 0, .int .i64 0, .nils, .int .i64 0, .nils, .nils], [(0, 1), (1, 1), (2, 1), (3, 2), (5, 2), (7, 1)]⟩ := ⟨by kernel_rfl, by kernel_rfl, by kernel_rfl, by kernel_rfl, by kernel_rfl, by kernel_rfl, by kernel_rfl⟩
theorem ve : TIok Tryz.prog 145 ⟨3, true, 0, 6, 112, [.int .i64 0, .nils, .nils, .nils, .nils, .int .i64 0], [(0, 1), (1, 1), (2, 1), (3, 1), (4, 1), (5, 1)]⟩ := ⟨by kernel_rfl, by kernel_rfl, by kernel_rfl, by kernel_rfl, by kernel_rfl, by kernel_rfl, by kernel_rfl⟩
theorem vd : TIok Tryz.prog 148 ⟨6, false, 0, 1, 8, [.nilp], []⟩ := ⟨by kernel_rfl, by kernel_rfl, by kernel_rfl, by kernel_rfl, by kernel_rfl, by kernel_rfl, by kernel_rfl⟩
theorem vc : TIok Tryz.prog 150 ⟨3, true, 0, 3, 24, [.nilp, .int .i64 0, .nilp], [(0, 1), (1, 1), (2, 1)]⟩ := ⟨by kernel_rfl, by kernel_rfl, by kernel_rfl, by kernel_rfl, by kernel_rfl, by kernel_rfl, by kernel_rfl⟩
theorem va : TIok Tryz.prog 155 ⟨3, true, 0, 10, 144, [.int .i64 0, .int .i64 0, .int .i64 0, .int .i64 0, .nils, .int .i64 0, .nils, .nils, .int .i64 0, .nils], [(0, 8), (8, 1), (9, 1)]⟩ := ⟨by kernel_rfl, by kernel_rfl, by kernel_rfl, by kernel_rfl, by kernel_rfl, by kernel_rfl, by kernel_rfl⟩
theorem u9 : TTok Tryz.prog tt := ⟨tt2, tt3, tt4, wE, wD, wC, wB, wz, wy, wx, ww, wv, wu, wt, wr, wq, wo, wn, wm, wl, wk, wj, wi, wh, wg, we, wd, wc, vi, vg, vf, ve, vd, vc, va, trivial⟩
theorem qV : TTplain tt = true := by kernel_rfl
theorem s8 : Tryz.prog.follows .mixedOrders = true := by kernel_rfl
theorem jst {σ : Sg} {Q : cf} {all : Array Oper} {o : Oper} {rest : List Oper} {e : List (Nat × A)} {H : List (Nat × B)} {d : Nat} {v : A} (hσ : SgOk σ) (h : ig σ.tt σ.L ⟨e, H⟩ o = some v) (hs : Al.Oper.shorts o = true) (hg : o.guard = none) (hp : o.dst = some d) (hn : Nat.blt d σ.nt = true) (K : AOps σ all Q rest ⟨(d, v) :: e, H⟩) : AOps σ all Q (o :: rest) ⟨e, H⟩ := aa (Val.of hσ h hs) hg hp hn K
theorem aY {σ : Sg} {Q : cf} {all : Array Oper} {o : Oper} {rest : List Oper} {e : List (Nat × A)} {H : List (Nat × B)} {d : Nat} {v : A} {c : Prop} {inst : Decidable c} (hσ : SgOk σ) (h : ig σ.tt σ.L ⟨e, H⟩ o = @ite _ c inst (some v) none) (hs : Al.Oper.shorts o = true) (hg : o.guard = none) (hp : o.dst = some d) (hn : Nat.blt d σ.nt = true) (K : AOps σ all Q rest ⟨(d, v) :: e, H⟩) (hc : c := by first | omega | (simp at *; omega)) : AOps σ all Q (o :: rest) ⟨e, H⟩ := aa (cL hσ h hs hc) hg hp hn K
theorem jfi {σ : Sg} {Q : cf} {all : Array Oper} {o : Oper} {rest : List Oper} {e : List (Nat × A)} {H : List (Nat × B)} {d : Nat} {n : Int} (hσ : SgOk σ) (h : ig σ.tt σ.L ⟨e, H⟩ o = some (.c (.d (.int .i64 (IntKind.i64.wrap n))))) (hs : Al.Oper.shorts o = true) (hg : o.guard = none) (hp : o.dst = some d) (hn : Nat.blt d σ.nt = true) (K : AOps σ all Q rest ⟨(d, .c (.d (.int .i64 n))) :: e, H⟩) (h1 : -9223372036854775808 ≤ n := by first | omega | (simp at *; omega)) (h2 : n ≤ 9223372036854775807 := by first | omega | (simp at *; omega)) : AOps σ all Q (o :: rest) ⟨e, H⟩ := aa (bc hσ h hs h1 h2) hg hp hn K
theorem cy {σ : Sg} {Q : cf} {all : Array Oper} {o : Oper} {rest : List Oper} {e : List (Nat × A)} {H : List (Nat × B)} {d : Nat} (hσ : SgOk σ) {α : Type} {f : α → List D} {xs : List α} {sz t : Nat} {x : Operand} {cl : Call} {i : TI} (ho : o.op = .call cl) (hb : cl.callee = .builtin .len) (ha : cl.args.toList = [x]) (ht : cl.argTypes.toList = [t]) (hs : Al.Oper.shorts o = true)
    (hx : ev ⟨e, H⟩ x = some (.c (.d (.slc sz (xs.map f))))) (hi : lk σ.tt t = some i) (hk : Nat.beq i.kind 1 = true) (hg : o.guard = none) (hp : o.dst = some d) (hn : Nat.blt d σ.nt = true) (K : AOps σ all Q rest ⟨(d, .c (.d (.int .i64 xs.length))) :: e, H⟩) : AOps σ all Q (o :: rest) ⟨e, H⟩ := aa (cU hσ ho hb ha ht hs hx hi hk) hg hp hn K
theorem oE {σ : Sg} {Q : cf} {all : Array Oper} {o : Oper} {rest : List Oper} {e : List (Nat × A)} {H : List (Nat × B)} {d : Nat} (hσ : SgOk σ) {α : Type} [Inhabited α] {f : α → List D} {l : List α} {t : Nat} {x y : Operand} {sz : Nat} {k : IntKind} {n : Nat} {i j : TI} (ho : o.op = .indexAddr t x y) (hs : Al.Oper.shorts o = true) (hx : ev ⟨e, H⟩ x = some (.c (.d (.slc sz (l.map f))))) (hy : ev ⟨e, H⟩ y = some (.c (.d (.int k (n : Int)))))
    (ht : lk σ.tt t = some i) (hk : Nat.beq i.kind 1 = true) (hj : lk σ.tt i.elem = some j) (hz : Nat.beq sz j.size = true) (hg : o.guard = none) (hp : o.dst = some d) (hn : Nat.blt d σ.nt = true) (K : AOps σ all Q rest ⟨(d, .c (.d (.ptr (f (l.getD n default)) 0))) :: e, H⟩) (hl : n < l.length := by first | omega | (simp at *; omega)) : AOps σ all Q (o :: rest) ⟨e, H⟩ := aa (aB hσ ho hs hx hy ht hk hj hz (cq hl)) hg hp hn K
theorem dR {σ : Sg} {Q : cf} {all : Array Oper} {o : Oper} {rest : List Oper} {e : List (Nat × A)} {H : List (Nat × B)} {d : Nat} (hσ : SgOk σ) {α : Type} [Inhabited α] {f : α → List D} {l : List α} {t : Nat} {x y : Operand} {sz : Nat} {k : IntKind} {n : Int} {i j : TI} (ho : o.op = .indexAddr t x y) (hs : Al.Oper.shorts o = true) (hx : ev ⟨e, H⟩ x = some (.c (.d (.slc sz (l.map f))))) (hy : ev ⟨e, H⟩ y = some (.c (.d (.int k n))))
    (ht : lk σ.tt t = some i) (hk : Nat.beq i.kind 1 = true) (hj : lk σ.tt i.elem = some j) (hz : Nat.beq sz j.size = true) (hg : o.guard = none) (hp : o.dst = some d) (hn : Nat.blt d σ.nt = true) (K : AOps σ all Q rest ⟨(d, .c (.d (.ptr (f (l.getD n.toNat default)) 0))) :: e, H⟩) (h0 : 0 ≤ n := by first | omega | (simp at *; omega)) (hl : n < (l.length : Int) := by first | omega | (simp at *; omega)) : AOps σ all Q (o :: rest) ⟨e, H⟩ := aa (aV hσ ho hs hx hy ht hk hj hz h0 (cJ h0 hl)) hg hp hn K
theorem ag {σ : Sg} {Q : Exit → St → Prop} {s : St} {id : Nat} {l : List Oper} {y : Code} (h : AOps σ l.toArray (li (AWP σ y Q) Q) l s) : AWP σ (.seq (.region id l.toArray false) y) Q s := AWP.seq (AWP.region h)
theorem jn {σ : Sg} {Q : Exit → St → Prop} {s : St} {all : Array Oper} (h : Q .normal s) : AOps σ all Q [] s := AOps.nil h
theorem aP {σ : Sg} {Q : Exit → St → Prop} {s : St} {all : Array Oper} {id : Nat} {l : List Oper} {y : Code} (h : AOps σ l.toArray (li (AWP σ y Q) Q) l s) : AOps σ all (li (AWP σ (.seq (.region id l.toArray false) y) Q) Q) [] s := AOps.nil (AWP.seq (AWP.region h))
theorem bg : (∀ {α β : Type} {f : α → β} {l : List α}, (l.map f).length = l.length) ∧ (∀ {α : Type} [BEq α] [LawfulBEq α] {a b : α}, (a == b) = true ↔ a = b) ∧ (∀ {p : Prop} [Decidable p], (decide p = true) = p) ∧ (∀ {p : Prop} [Decidable p], (decide p = false) ↔ ¬ p) ∧ (∀ {b : Bool}, ((!b) = true) = (b = false)) ∧ (∀ {b : Bool}, ((!b) = false) = (b = true)) ∧ ((!true) = false) ∧ ((!false) = true) ∧ (∀ {a b : Int}, ¬ a < b ↔ b ≤ a) ∧ (∀ {a b : Int}, ¬ a ≤ b ↔ b < a) := by
 refine ⟨?_, ?_, ?_, ?_, ?_, ?_, ?_, ?_, ?_, ?_⟩ <;> intros <;> simp
theorem aq {σ : Sg} {Q : cf} {all : Array Oper} {l : List Oper} {e : List (Nat × A)} {H H' : List (Nat × B)} (K : AOps σ all Q l ⟨e, H'⟩) (h : HN H H' := by repeat' (first | apply HN.cons rfl | exact HN.nil rfl | exact BN.row rfl | exact BN.map rfl | apply BN.box rfl | apply MN.cons rfl | exact MN.nil rfl | exact XN.d rfl | exact XN.rs rfl | exact c5)) : AOps σ all Q l ⟨e, H⟩ := qa h K
theorem bZ {σ : Sg} {Q : Exit → St → Prop} {c : Code} {e : List (Nat × A)} {H H' : List (Nat × B)} (K : AWP σ c Q ⟨e, H'⟩) (h : HN H H' := by repeat' (first | apply HN.cons rfl | exact HN.nil rfl | exact BN.row rfl | exact BN.map rfl | apply BN.box rfl | apply MN.cons rfl | exact MN.nil rfl | exact XN.d rfl | exact XN.rs rfl | exact c5)) : AWP σ c Q ⟨e, H⟩ := rv h K
def um (e : List (Nat × A)) : List Nat → Option (List (Nat × A))
  | [] => some []
  | k :: ks => match lk e k, um e ks with
    | some v, some r => some ((k, v) :: r)
    | _, _ => none
theorem mn {e : List (Nat × A)} : ∀ {ks : List Nat} {e' : List (Nat × A)}, um e ks = some e' → envSub e e'
 | [], e', h => by cases h; trivial
 | k :: ks, e', h => by
  unfold um at h
  split at h
  rename_i v r h1 h2
  cases h
  exact ⟨h1, mn h2⟩
  cases h
theorem jf {σ : Sg} {Q : Exit → St → Prop} {all : Array Oper} {l : List Oper} {e e' : List (Nat × A)} {H : List (Nat × B)} (ks : List Nat) (h : um e ks = some e') (K : AOps σ all Q l ⟨e', H⟩) : AOps σ all Q l ⟨e, H⟩ := nA e' (mn h) K
theorem jw {σ : Sg} {Q : Exit → St → Prop} {c : Code} {e e' : List (Nat × A)} {H : List (Nat × B)} (ks : List Nat) (h : um e ks = some e') (K : AWP σ c Q ⟨e', H⟩) : AWP σ c Q ⟨e, H⟩ := oz e' (mn h) K


noncomputable abbrev SG (L nt : Nat) : Sg := ⟨Tryz.prog, tt, L, nt, []⟩
theorem j6 {L nt} (h1 : 4096 ≤ L) (h2 : L ≤ 9223372036854775807) : SgOk (SG L nt) := ⟨u9, qV, h1, h2, s8⟩
theorem jB {L f : Nat} {fn : Func} {c : Code} {args : List A} {Q : A → List (Nat × B) → Prop} (nt : Nat) (h1 : 4096 ≤ L) (h2 : L ≤ 1073741824) (hf : Tryz.prog.funcs[f]? = some fn) (hb : fn.body = some c) (hnt : fn.ntmps = nt) (ha : Nat.ble args.length nt = true) (h : SgOk (SG L nt) → As.fact L args → AWP (SG L nt) c (fun e s => (e = .ret ∨ e = .normal) ∧ ∃ s2, Ent (SG L nt) s s2 ∧ ∃ res, eR tt s2 fn.results.toList = some res ∧ Q res s2.H) ⟨bL 0 args, []⟩) (hn : (fn.name == "runtime.NumGoroutine") = false := by kernel_rfl) : MC Tryz.prog L f args [] Q := have hσ := j6 (nt := nt) h1 (Nat.le_trans h2 (by decide)); MC.body hσ hf hn hb hnt (Nat.le_of_ble_eq_true ha) (h hσ)
theorem jH {L f : Nat} {fn : Func} {c : Code} {args : List A} {Hin : List (Nat × B)} {Q : A → List (Nat × B) → Prop} (nt : Nat) (ks : List Nat) (h1 : 4096 ≤ L) (h2 : L ≤ 1073741824) (hf : Tryz.prog.funcs[f]? = some fn) (hb : fn.body = some c) (hnt : fn.ntmps = nt) (hi : ks = Hin.map (·.1)) (ha : Nat.ble args.length nt = true) (h : SgOk ⟨Tryz.prog, tt, L, nt, ks⟩ → As.fact L args → AWP ⟨Tryz.prog, tt, L, nt, ks⟩ c (fun e s => (e = .ret ∨ e = .normal) ∧ ∃ s2, Ent ⟨Tryz.prog, tt, L, nt, ks⟩ s s2 ∧ ∃ res, eR tt s2 fn.results.toList = some res ∧ Q res s2.H) ⟨bL 0 args, Hin⟩) (hn : (fn.name == "runtime.NumGoroutine") = false := by kernel_rfl) : MC Tryz.prog L f args Hin Q := have hσ := mD (js := ks) (j6 (nt := nt) h1 (Nat.le_trans h2 (by decide))); ru hσ hf hn hb hnt hi (Nat.le_of_ble_eq_true ha) (h hσ)
abbrev MQ {L : Nat} (h1 : 4096 ≤ L) (h2 : L ≤ 1073741824) (f : Nat) (ds : List A) (Hin : List (Nat × B)) (Q : A → List (Nat × B) → Prop) : Prop := MC Tryz.prog L f ds Hin Q
abbrev eI (n : Int) : A := .c (.d (.int .i64 n))
abbrev eB (b : Bool) : A := .c (.d (.bool b))
abbrev bp (xs : List Int) : D := .slc 1 (xs.map fun n => [.int .i64 n])
structure Tm where
  c : Int
  xs : List Int
  deriving Inhabited
abbrev Tm.cells (t : Tm) : List D := [.int .i64 t.c, bp t.xs]
abbrev ptr (cs : List D) : A := .c (.d (.ptr cs 0))
def num (x : Int) : Bool := decide (-1000000 ≤ x) && decide (x ≤ 1000000)
def Tm.ok (t : Tm) : Bool := !(bif (bif !num t.c then true else decide ((10 : Int) < t.xs.length)) then true else bif decide ((0 : Int) < t.xs.length) then decide (t.xs.getD ((t.xs.length : Int) - 1).toNat default = 0) else false) && t.xs.all num
theorem fP {α : Type} {p : α → Bool} {xs : List α} (h : ∀ j (hj : j < xs.length), p xs[j] = true) : xs.all p = true := by
 rw [List.all_eq_true]; intro x hx
 obtain ⟨j, hj, rfl⟩ := List.mem_iff_getElem.1 hx
 exact h j hj
theorem fh {α : Type} {p : α → Bool} {xs : List α} (j : Nat) (hj : j < xs.length) (h : p xs[j] = false) : xs.all p = false := by
 rw [List.all_eq_false]; exact ⟨xs[j], List.getElem_mem _, by simp [h]⟩
theorem aI {α : Type} [Inhabited α] {xs : List α} {j : Nat} (hj : j < xs.length) : xs.getD j default = xs[j] := by simp [hj]

theorem ud {x lo hi : Int} : MQ h1 h2 49 [eI x, eI lo, eI hi] [] (Plain (eB (decide (lo ≤ x) && decide (x ≤ hi)))) := by
 refine av ?_ Z
 refine jB 15 h1 h2 Tryz.func49 Z Z Z fun O hF => ?_
 refine ag (js O Z (aP (j4 O Z Z Z Z (au 3 Z Z Z (fun hx => ac hx Z Z Z (V O Z) Z Z ( ac hx Z Z Z (V O Z) Z Z ( ac hx Z Z Z (V O Z) Z Z ( AN.nil)))) Z Z ?_))))
 first | refine aa (ak O Z Z Z Z Z) Z Z Z ?_ | refine aa (aj O Z Z Z Z Z) Z Z Z ?_ | refine aa (Val.pickB O Z Z Z Z Z) Z Z Z ?_
 refine js O Z (jn (AWP.ret ?_))
 refine ⟨.inl Z, _, Ent.refl, _, Z, ?_⟩
 rw [Bool.cond_false_right]
theorem uV {x : Int} : MQ h1 h2 117 [eI x] [] (Plain (eB (num x))) := by
 refine av ?_ Z
 refine jB 5 h1 h2 Tryz.func117 Z Z Z fun O hF => ?_
 refine ag (js O Z (aP (js O Z (ae O Z Z Z Z (ud h1 h2) (ab Z) Z Z Z Z Z (B0 := 5000) Z (js O Z (jn (AWP.ret ?_)))))))
 refine ⟨.inl Z, _, Ent.refl, _, Z, ?_⟩
 first | rfl | skip
theorem rP {t : Tm} : MQ h1 h2 91 [ptr t.cells] [] (Plain (eB t.ok)) := by
 refine av ?_ Z
 refine jB 49 h1 h2 Tryz.func91 Z Z Z fun O hF => ?_
 have hl : t.xs.length ≤ L := by simpa [As.fact, A.fact, M.fact, D.fact, Ds.fact] using hF.1.2.1.1
 refine ag (js O Z (aP (j4 O Z Z Z Z ?_)))
 first | refine cy O Z Z Z Z Z Z Z Z Z Z Z ?_ | refine js O Z ?_ | refine aY O Z Z Z Z Z ?_
 refine js O Z (jn (AWP.seq (ag (j4 O Z Z Z Z (ae O Z Z Z Z (uV h1 h2) (ab Z) Z Z Z Z Z (B0 := 15000) Z (j2 O Z Z (au 2 Z Z Z (fun hx => ac hx Z Z Z (V O Z) Z Z ( ac hx Z Z Z (V O Z) Z Z ( AN.nil))) Z Z ?_)))))))
 first | refine aa (aj O Z Z Z Z Z) Z Z Z ?_ | refine aa (Val.pickB O Z Z Z Z Z) Z Z Z ?_ | refine aa (ak O Z Z Z Z Z) Z Z Z ?_
 refine js O Z (au 13 Z Z Z (fun hx => ac hx Z Z Z (V O Z) Z Z ( ac hx Z Z Z (V O Z) Z Z ( ac hx Z Z Z (V O Z) Z Z ( kr 9 Z Z Z Z (fun hx' => ac hx' Z Z Z (V O Z) Z Z ( ac hx' Z Z Z (V O Z) Z Z ( ac hx' Z Z Z (V O Z) Z Z ( ac hx' Z Z Z (V O Z) Z Z ( ac hx' Z Z Z (V O Z) Z Z ( ac hx' Z Z Z (bc O Z Z (by first | omega | (simp at *; omega)) (by first | omega | (simp at *; omega))) Z Z ( ac hx' Z Z Z (aV O Z Z Z Z Z Z Z Z (by first | omega | (simp at *; omega)) (cJ (by first | omega | (simp at *; omega)) (by first | omega | (simp at *; omega)))) Z Z ( ac hx' Z Z Z (V O Z) Z Z ( ac hx' Z Z Z (V O Z) Z Z ( AN.nil)))))))))) Z Z ( ac hx Z Z Z (ak O Z Z Z Z Z) Z Z ( AN.nil)))))) Z Z ?_)
 first | refine aa (aj O Z Z Z Z Z) Z Z Z ?_ | refine aa (Val.pickB O Z Z Z Z Z) Z Z Z ?_ | refine aa (ak O Z Z Z Z Z) Z Z Z ?_
 refine jn (AWP.cond O Z Z (fun hc34 => ?_) (fun hc34 => ?_))
 try simp only [bg] at hc34
 refine ag (js O Z (jn (AWP.ret ?_)))
 refine ⟨.inl Z, _, Ent.refl, _, Z, ?_⟩
 simp only [Tm.ok, hc34, Bool.not_true, Bool.false_and]
 try simp only [bg] at hc34
 refine AWP.skip (AWP.seq (ag (js O Z (jn (AWP.block (az (X := Nat) (fun i => ⟨[(0, ptr t.cells), (3, eI t.xs.length), (4, eI i)], []⟩) (fun i => i ≤ t.xs.length ∧ ∀ j (h : j < t.xs.length), j < i → num t.xs[j] = true) (fun i => t.xs.length - i) 0 (Ent.env ⟨Z, Z, Z, trivial⟩) ?_ (fun i hi => ?_)))))))
 exact ⟨Nat.zero_le _, fun j h hj => absurd hj (Nat.not_lt_zero j)⟩
 refine AWP.seq (ag (j3 O Z Z Z (jn (AWP.cond O Z Z (fun hc37 => ?_) (fun hc37 => ?_)))))
 try simp only [bg] at hc37
 refine AWP.skip (AWP.seq (AWP.block (ag (j4 O Z Z Z Z (js O Z ?_)))))
 first | refine dR O Z Z Z Z Z Z Z Z Z Z Z ?_ | refine aY O Z Z Z Z Z ?_
 refine js O Z (ae O Z Z Z Z (uV h1 h2) (ab Z) Z Z Z Z Z (B0 := 48000) Z (js O Z (jn (AWP.cond O Z Z (fun hc48 => ?_) (fun hc48 => ?_)))))
 try simp only [bg] at hc48
 refine ag (js O Z (jn (AWP.ret ?_)))
 refine ⟨.inl Z, _, Ent.refl, _, Z, ?_⟩
 rw [Int.toNat_natCast, aI (by omega)] at hc48
 simp only [Tm.ok, fh i (by omega) hc48, Bool.and_false]
 try simp only [bg] at hc48
 refine AWP.skip (AWP.region (js O Z ?_))
 first | refine ji O Z ?_ | refine aY O Z Z Z Z Z ?_
 refine js O Z (jn ?_)
 refine ⟨i + 1, Ent.env ⟨Z, Z, Z, trivial⟩, ⟨by omega, fun j h hj => ?_⟩, by omega⟩
 by_cases e : j = i
 subst e; rw [Int.toNat_natCast, aI h] at hc48; exact hc48
 exact hi.2 j h (by omega)
 try simp only [bg] at hc37
 refine AWP.exit (ag (js O Z (jn (AWP.ret ?_))))
 refine ⟨.inl Z, _, Ent.refl, _, Z, ?_⟩
 simp only [Tm.ok, hc34, Bool.not_false, Bool.true_and]
 rw [fP (fun j hj => hi.2 j hj (by omega))]
abbrev ba (xs : List Int) : B := .row true 1 (xs.map fun n => [.int .i64 n])
abbrev cD (xs : List Int) : A := .c (.d (bp xs))
theorem sY {xs : List Int} : MQ h1 h2 74 [cD xs] [] (Rows (.c (.rs 0 0 xs.length)) [ba xs]) := by
 refine bF (jB 6 h1 h2 Tryz.func74 Z Z Z fun O hF => ?_)
 have hl : xs.length ≤ L := by simpa [As.fact, A.fact, M.fact, D.fact, Ds.fact] using hF.1.1
 refine ?_
 refine ag (js O Z (aP (AOps.heap (bE O Z Z Z) Z (js O Z (AOps.heap (bD (own := true) O Z Z Z Z Z Z Z Z Z Z Z Z Z Z Z Z (.row Z Z) (.slc (.inr (Scal.map (fun _ => rfl)))) (by simp) Z (by first | omega | (dsimp only [List.length_map, List.length_cons, List.length_nil]; omega) | (simp only [List.length_map, beq_iff_eq, decide_eq_true_eq, decide_eq_false_iff_not, Bool.not_eq_true', Bool.not_eq_false', Bool.not_true, Bool.not_false, Int.not_lt, Int.not_le] at *; omega) | (simp; omega)) (by first | omega | (dsimp only [List.length_map, List.length_cons, List.length_nil]; omega) | (simp only [List.length_map, beq_iff_eq, decide_eq_true_eq, decide_eq_false_iff_not, Bool.not_eq_true', Bool.not_eq_false', Bool.not_true, Bool.not_false, Int.not_lt, Int.not_le] at *; omega) | (simp; omega)) Z Z) Z (js O Z (jn (AWP.ret ?_))))))))
 refine ⟨.inl Z, _, Ent.refl, _, Z, [5], by decide, Z, ?_, ?_⟩
 simp [A.lab, M.lab]
 rfl
theorem sX {xs : List Int} : MQ h1 h2 127 [cD xs] [] (Rows (.c (.rs 0 0 xs.length)) [ba xs]) := by
 refine bF (jB 6 h1 h2 Tryz.func127 Z Z Z fun O hF => ?_)
 have hl : xs.length ≤ L := by simpa [As.fact, A.fact, M.fact, D.fact, Ds.fact] using hF.1.1
 refine ?_
 refine ag (js O Z (aP (AOps.heap (bE O Z Z Z) Z (js O Z (AOps.heap (bD (own := true) O Z Z Z Z Z Z Z Z Z Z Z Z Z Z Z Z (.row Z Z) (.slc (.inr (Scal.map (fun _ => rfl)))) (by simp) Z (by first | omega | (dsimp only [List.length_map, List.length_cons, List.length_nil]; omega) | (simp only [List.length_map, beq_iff_eq, decide_eq_true_eq, decide_eq_false_iff_not, Bool.not_eq_true', Bool.not_eq_false', Bool.not_true, Bool.not_false, Int.not_lt, Int.not_le] at *; omega) | (simp; omega)) (by first | omega | (dsimp only [List.length_map, List.length_cons, List.length_nil]; omega) | (simp only [List.length_map, beq_iff_eq, decide_eq_true_eq, decide_eq_false_iff_not, Bool.not_eq_true', Bool.not_eq_false', Bool.not_true, Bool.not_false, Int.not_lt, Int.not_le] at *; omega) | (simp; omega)) Z Z) Z (js O Z (jn (AWP.ret ?_))))))))
 refine ⟨.inl Z, _, Ent.refl, _, Z, [5], by decide, Z, ?_, ?_⟩
 simp [A.lab, M.lab]
 rfl
theorem c61 {xs : List Int} : MQ h1 h2 79 [cD xs] [] (Rows (.c (.rs 0 0 xs.length)) [ba xs]) := by
 refine bF (jB 22 h1 h2 Tryz.func79 Z Z Z fun O hF => ?_)
 have hl : xs.length ≤ L := by simpa [As.fact, A.fact, M.fact, D.fact, Ds.fact] using hF.1.1
 refine ag (js O Z (aP (js O Z ?_)))
 first | refine cy O Z Z Z Z Z Z Z Z Z Z Z ?_ | refine js O Z ?_ | refine aY O Z Z Z Z Z ?_
 refine AOps.heap (er O Z Z Z Z Z Z Z Z Z (by first | omega | (simp at *; omega)) (by first | omega | (simp at *; omega)) (by first | omega | (simp at *; omega)) (by first | omega | (dsimp only; omega) | (simp only [List.length_map, beq_iff_eq, decide_eq_true_eq, decide_eq_false_iff_not, Bool.not_eq_true', Bool.not_eq_false', Bool.not_true, Bool.not_false, Int.not_lt, Int.not_le] at *; omega)) (by first | omega | (simp at *; omega)) Z Z Z) Z (js O Z (jn (AWP.seq (ag (js O Z (jn (AWP.block (az (X := Nat × List Int) (fun x => ⟨[(0, cD xs), (3, .c (.rs 7 0 xs.length)), (4, eI x.1)], [(7, ba x.2)]⟩) (fun x => x.1 ≤ xs.length ∧ x.2.length = xs.length ∧ ∀ j, j < x.1 → x.2[j]? = xs[j]?) (fun x => xs.length - x.1) (0, List.replicate xs.length 0) (Ent.to ⟨Z, Z, Z, trivial⟩ (by simp [ins, ba])) ?_ (fun x hi => ?_)))))))))
 exact ⟨Nat.zero_le _, List.length_replicate, fun j hj => absurd hj (Nat.not_lt_zero j)⟩
 refine AWP.seq (ag (j2 O Z Z ?_))
 first | refine cy O Z Z Z Z Z Z Z Z Z Z Z ?_ | refine js O Z ?_ | refine aY O Z Z Z Z Z ?_
 refine js O Z (jn (AWP.cond O Z Z (fun hc11 => ?_) (fun hc11 => ?_)))
 try simp only [bg] at hc11
 refine AWP.skip (AWP.seq (AWP.block (AWP.region (j4 O Z Z Z Z ?_))))
 first | refine dR O Z Z Z Z Z Z Z Z Z Z Z ?_ | refine aY O Z Z Z Z Z ?_
 refine js O Z ?_
 first | refine dR O Z Z Z Z Z Z Z Z Z Z Z ?_ | refine aY O Z Z Z Z Z ?_
 refine AOps.heap (bq (ex := [.int .i64 (x.2.getD x.1 default)]) (xs' := (x.2.set x.1 (xs.getD x.1 default)).map fun n => [.int .i64 n]) O Z Z Z Z Z Z Z Z Z Z Z Z Z Z (by simp [hi.2.1, show x.1 < xs.length by omega]) (by simp [List.map_set])) Z (jn (AWP.region (js O Z ?_)))
 first | refine ji O Z ?_ | refine aY O Z Z Z Z Z ?_
 refine js O Z (jn ?_)
 refine ⟨(x.1 + 1, x.2.set x.1 (xs.getD x.1 default)), Ent.to ⟨Z, Z, Z, trivial⟩ Z, ⟨by omega, by simp [hi.2.1], fun j hj => ?_⟩, by omega⟩
 rw [List.getElem?_set]
 split
 rename_i e; subst e; simp [hi.2.1, show x.1 < xs.length by omega]
 exact hi.2.2 j (by omega)
 try simp only [bg] at hc11
 refine AWP.exit (ag (j2 O Z Z (jn (AWP.ret ?_))))
 have e : x.2 = xs := List.ext_getElem? fun j => by
  rcases Nat.lt_or_ge j x.1 with h | h
  ·
   exact hi.2.2 j h
  ·
   rw [List.getElem?_eq_none (by omega), List.getElem?_eq_none (by omega)]
 refine ⟨.inl Z, _, Ent.refl, _, Z, [7], by decide, Z, Z, ?_⟩
 rw [← e]; rfl

theorem xh {xs ys : List Int} : MQ h1 h2 60 [cD xs, cD ys] [] (Plain (eB (decide (xs = ys)))) := by
 refine av ?_ Z
 refine jB 26 h1 h2 Tryz.func60 Z Z Z fun O hF => ?_
 have hl : xs.length ≤ L := by simpa [As.fact, A.fact, M.fact, D.fact, Ds.fact] using hF.1.1
 have hl2 : ys.length ≤ L := by simpa [As.fact, A.fact, M.fact, D.fact, Ds.fact] using hF.2.1.1
 refine ag (js O Z (jn (AWP.seq (ag (js O Z ?_)))))
 first | refine cy O Z Z Z Z Z Z Z Z Z Z Z ?_ | refine js O Z ?_ | refine aY O Z Z Z Z Z ?_
 refine js O Z ?_
 first | refine cy O Z Z Z Z Z Z Z Z Z Z Z ?_ | refine js O Z ?_ | refine aY O Z Z Z Z Z ?_
 refine js O Z (jn (AWP.cond O Z Z (fun hc10 => ?_) (fun hc10 => ?_)))
 try simp only [bg] at hc10
 refine ag (js O Z (jn (AWP.ret ?_)))
 refine ⟨.inl Z, _, Ent.refl, _, Z, ?_⟩
 rw [decide_eq_false (fun e => by subst e; simp at hc10)]
 try simp only [bg] at hc10
 refine AWP.skip (AWP.seq (ag (js O Z (jn (AWP.block (az (X := Nat) (fun i => ⟨[(0, cD xs), (1, cD ys), (5, eI i)], []⟩) (fun i => i ≤ xs.length ∧ ∀ j, j < i → xs[j]? = ys[j]?) (fun i => xs.length - i) 0 (Ent.env ⟨Z, Z, Z, trivial⟩) ?_ (fun i hi => ?_)))))))
 exact ⟨Nat.zero_le _, fun j hj => absurd hj (Nat.not_lt_zero j)⟩
 refine AWP.seq (ag (j2 O Z Z ?_))
 first | refine cy O Z Z Z Z Z Z Z Z Z Z Z ?_ | refine js O Z ?_ | refine aY O Z Z Z Z Z ?_
 refine js O Z (jn (AWP.cond O Z Z (fun hc14 => ?_) (fun hc14 => ?_)))
 try simp only [bg] at hc14
 refine AWP.skip (AWP.seq (AWP.block (AWP.seq (f6 O [_,_,_,_,_,_,_,_,_] [pn [] 0 0, pn [] 0 0, pn [0,1] 0 0, pn [0,1,2] 0 0, pn [] 0 0, pn [] 0 0, pn [4,5] 0 0, pn [4,5,6] 0 0, pn [0,1,2,3,4,5,6,7] 0 0] [] [_] (kc O Z (kc O Z (ai (aV O Z Z Z Z Z Z Z Z (by first | omega | (simp at *; omega)) (cJ (by first | omega | (simp at *; omega)) (by first | omega | (simp at *; omega)))) (kc O Z (kc O Z (kc O Z (ai (aV O Z Z Z Z Z Z Z Z (by first | omega | (simp at *; omega)) (cJ (by first | omega | (simp at *; omega)) (by first | omega | (simp at *; omega)))) (kc O Z (kc O Z trivial))))))))) ?_))))
 refine AWP.cond O Z Z (fun hc25 => ?_) (fun hc25 => ?_)
 try simp only [bg] at hc25
 refine ag (js O Z (jn (AWP.ret ?_)))
 refine ⟨.inl Z, _, Ent.refl, _, Z, ?_⟩
 rw [decide_eq_false (fun e => by subst e; simp at hc25)]
 try simp only [bg] at hc25
 refine AWP.skip (AWP.region (js O Z ?_))
 first | refine ji O Z ?_ | refine aY O Z Z Z Z Z ?_
 refine js O Z (jn ?_)
 refine ⟨i + 1, Ent.env ⟨Z, Z, Z, trivial⟩, ⟨by omega, fun j hj => ?_⟩, by omega⟩
 rcases Nat.lt_or_ge j i with h | h
 exact hi.2 j h
 obtain rfl : j = i := by omega
 rw [Int.toNat_natCast, aI (by omega), aI (by omega)] at hc25
 rw [List.getElem?_eq_getElem (by omega), List.getElem?_eq_getElem (by omega), hc25]
 try simp only [bg] at hc14
 refine AWP.exit (ag (js O Z (jn (AWP.ret ?_))))
 refine ⟨.inl Z, _, Ent.refl, _, Z, ?_⟩
 have e : xs = ys := List.ext_getElem? fun j => by
  rcases Nat.lt_or_ge j i with h | h
  ·
   exact hi.2 j h
  ·
   rw [List.getElem?_eq_none (by omega), List.getElem?_eq_none (by omega)]
 rw [decide_eq_true e]
deriving instance DecidableEq for Tm
abbrev vP (t : Tm) : A := .agg [.d (.int .i64 t.c), .d (bp t.xs)]
abbrev bX (ts : List Tm) : D := .slc 2 (ts.map Tm.cells)
abbrev cr (ts : List Tm) : A := .c (.d (bX ts))
abbrev df (ts : List Tm) : B := .row true 2 (ts.map Tm.cells)

theorem vU {t : Tm} : MQ h1 h2 55 [vP t] [] (Rows (.agg [.d (.int .i64 t.c), .rs 0 0 t.xs.length]) [ba t.xs]) := by
 refine bF (jB 12 h1 h2 Tryz.func55 Z Z Z fun O hF => ?_)
 refine ag (jx O Z Z Z Z Z Z Z Z (jl O Z Z Z Z Z Z (aP (jl O Z Z Z Z Z Z (aP (j3 O Z Z Z (jo O Z Z Z Z Z Z Z Z Z Z Z Z (aP (j2 O Z Z (aU O (B0 := 10000) Z Z Z Z (c61 h1 h2) (ab Z) Z Z Z Z Z Z (js O Z (jo O Z Z Z Z Z Z Z Z Z Z Z Z (aP ?_)))))))))))))
 refine js O Z (jo O Z Z Z Z Z Z Z Z Z Z Z Z (jn (AWP.ret ?_)))
 refine ⟨.inl Z, _, Ent.refl, _, Z, [10000], by decide, Z, Z, Z⟩
theorem vO {s t : Tm} : MQ h1 h2 61 [vP s, vP t] [] (Plain (eB (decide (s = t)))) := by
 refine av ?_ Z
 refine jB 16 h1 h2 Tryz.func61 Z Z Z fun O hF => ?_
 refine ag (jx O Z Z Z Z Z Z Z Z (jx O Z Z Z Z Z Z Z Z (js O Z (jn (AWP.seq (ag (j4 O Z Z Z Z (js O Z (jn (AWP.cond O Z Z (fun hc9 => ?_) (fun hc9 => ?_)))))))))))
 try simp only [bg] at hc9
 refine ag (js O Z (jn (AWP.ret ?_)))
 refine ⟨.inl Z, _, Ent.refl, _, Z, ?_⟩
 rw [decide_eq_false (fun e => hc9 (by rw [e]))]
 try simp only [bg] at hc9
 refine AWP.skip (AWP.seq (ag (j4 O Z Z Z Z (ae O Z Z Z Z (xh h1 h2) (ab Z) Z Z Z Z Z (B0 := 15000) Z (js O Z (jn (AWP.cond O Z Z (fun hc15 => ?_) (fun hc15 => ?_))))))))
 try simp only [bg] at hc15
 refine ag (js O Z (jn (AWP.ret ?_)))
 refine ⟨.inl Z, _, Ent.refl, _, Z, ?_⟩
 rw [decide_eq_false (fun e => hc15 (by rw [e]))]
 try simp only [bg] at hc15
 refine AWP.skip (ag (js O Z (jn (AWP.ret ?_))))
 refine ⟨.inl Z, _, Ent.refl, _, Z, ?_⟩
 have e : s = t := by cases s; cases t; simp_all
 rw [decide_eq_true e]
def dE (left : Int) (n : Nat) : Int := if left < n then -1 else left - n
def Tm.size (t : Tm) : Nat := t.xs.length

theorem c54 {L : Nat} (h1 : 4096 ≤ L) (h2 : L ≤ 9223372036854775807) {xs : List Int} {left : Int} (hl0 : 0 ≤ left) (hl1 : left ≤ 1048576) : MC Tryz.prog L 65 [cD xs, eI left] [] (Plain (eI (dE left xs.length))) := by
 refine av ?_ Z
 have O := j6 (nt := 12) h1 h2
 refine MC.body O Tryz.func65 (by kernel_rfl) Z Z (Nat.le_of_ble_eq_true Z) (fun hF => ?_)
 have hl : xs.length ≤ L := by simpa [As.fact, A.fact, M.fact, D.fact, Ds.fact] using hF.1.1
 refine ag (js O Z (aP (j2 O Z Z ?_)))
 first | refine cy O Z Z Z Z Z Z Z Z Z Z Z ?_ | refine js O Z ?_ | refine aY O Z Z Z Z Z ?_
 first | refine ji O Z ?_ | refine aY O Z Z Z Z Z ?_
 refine js O Z (jn (AWP.seq (ag (j2 O Z Z (jn (AWP.cond O Z Z (fun hc10 => ?_) (fun hc10 => ?_)))))))
 try simp only [bg] at hc10
 refine ag (js O Z (jn (AWP.ret ?_)))
 refine ⟨.inl Z, _, Ent.refl, _, Z, ?_⟩
 rw [show dE left xs.length = -1 from if_pos (by omega)]
 try simp only [bg] at hc10
 refine AWP.skip (ag (j2 O Z Z (jn (AWP.ret ?_))))
 refine ⟨.inl Z, _, Ent.refl, _, Z, ?_⟩
 rw [show dE left xs.length = left - xs.length from if_neg (by omega)]
theorem vV {L : Nat} (h1 : 4096 ≤ L) (h2 : L ≤ 9223372036854775807) {t : Tm} {left : Int} (hl0 : 0 ≤ left) (hl1 : left ≤ 1048576) : MC Tryz.prog L 45 [vP t, eI left] [] (Plain (eI (dE left t.size))) := by
 refine av ?_ Z
 have O := j6 (nt := 12) h1 h2
 refine MC.body O Tryz.func45 (by kernel_rfl) Z Z (Nat.le_of_ble_eq_true Z) (fun hF => ?_)
 refine ag (jx O Z Z Z Z Z Z Z Z (js O Z (aP (j3 O Z Z Z (ae O Z Z Z Z (c54 h1 h2 hl0 hl1) (ab Z) Z Z Z Z Z (B0 := 9000) Z (js O Z (jn (AWP.seq (ag (j2 O Z Z (jn (AWP.cond O Z Z (fun hc10 => ?_) (fun hc10 => ?_)))))))))))))
 try simp only [bg] at hc10
 refine ag (js O Z (jn (AWP.ret ?_)))
 refine ⟨.inl Z, _, Ent.refl, _, Z, ?_⟩
 have : dE left t.size = -1 := by unfold dE Tm.size at *; split at hc10 <;> simp_all <;> omega
 rw [this]
 try simp only [bg] at hc10
 refine AWP.skip (ag (j2 O Z Z (jn (AWP.ret ?_))))
 refine ⟨.inl Z, _, Ent.refl, _, Z, ?_⟩
 rfl
def szs {α : Type} (f : α → Nat) (xs : List α) : Nat := xs.length + (xs.map f).sum
theorem iN {α : Type} [Inhabited α] (f : α → Nat) (xs : List α) (i : Nat) (h : i < xs.length) : ((xs.take (i + 1)).map f).sum = ((xs.take i).map f).sum + f (xs.getD i default) := by
 rw [List.take_add_one, List.map_append, List.sum_append, List.getElem?_eq_getElem h]
 simp [h]
theorem qC {α : Type} (f : α → Nat) (xs : List α) (i : Nat) : ((xs.take i).map f).sum ≤ (xs.map f).sum := by
 conv => rhs; rw [← List.take_append_drop i xs, List.map_append, List.sum_append]
 omega
theorem vX {L : Nat} (h1 : 4096 ≤ L) (h2 : L ≤ 9223372036854775807) {ts : List Tm} {left : Int} (hl0 : 0 ≤ left) (hl1 : left ≤ 1048576) : MC Tryz.prog L 25 [cr ts, eI left] [] (Plain (eI (dE left (Al.szs Tm.size ts)))) := by
 refine av ?_ Z
 have O := j6 (nt := 27) h1 h2
 refine MC.body O Tryz.func25 (by kernel_rfl) Z Z (Nat.le_of_ble_eq_true Z) (fun hF => ?_)
 have hl : ts.length ≤ L := by simpa [As.fact, A.fact, M.fact, D.fact, Ds.fact] using hF.1.1
 refine ag (js O Z (aP (j2 O Z Z ?_)))
 first | refine cy O Z Z Z Z Z Z Z Z Z Z Z ?_ | refine js O Z ?_ | refine aY O Z Z Z Z Z ?_
 first | refine ji O Z ?_ | refine aY O Z Z Z Z Z ?_
 refine js O Z (jn (AWP.seq (ag (j2 O Z Z (jn (AWP.cond O Z Z (fun hc11 => ?_) (fun hc11 => ?_)))))))
 try simp only [bg] at hc11
 refine ag (js O Z (jn (AWP.ret ?_)))
 refine ⟨.inl Z, _, Ent.refl, _, Z, ?_⟩
 rw [show dE left (Al.szs Tm.size ts) = -1 from if_pos (by unfold Al.szs; omega)]
 try simp only [bg] at hc11
 refine AWP.skip (AWP.seq (ag (js O Z (jn (AWP.block (az (X := Nat) (fun i => ⟨[(0, cr ts), (1, eI (left - ts.length - ((ts.take i).map Tm.size).sum)), (5, eI i)], []⟩) (fun i => i ≤ ts.length ∧ (0 : Int) ≤ left - ts.length - ((ts.take i).map Tm.size).sum) (fun i => ts.length - i) 0 (Ent.env ⟨Z, by simp [ar], Z, trivial⟩) ?_ (fun i hi => ?_)))))))
 exact ⟨Nat.zero_le _, by simp; omega⟩
 refine AWP.seq (ag (j2 O Z Z ?_))
 first | refine cy O Z Z Z Z Z Z Z Z Z Z Z ?_ | refine js O Z ?_ | refine aY O Z Z Z Z Z ?_
 refine js O Z (jn (AWP.cond O Z Z (fun hc15 => ?_) (fun hc15 => ?_)))
 try simp only [bg] at hc15
 refine AWP.skip (AWP.seq (AWP.block (ag (j2 O Z Z ?_))))
 first | refine dR O Z Z Z Z Z Z Z Z Z Z Z ?_ | refine aY O Z Z Z Z Z ?_
 refine j2 O Z Z (ae O Z Z Z Z (vV h1 h2 hi.2 (by omega)) (ab Z) Z Z Z Z Z (B0 := 24000) Z (js O Z (aP (j2 O Z Z (jn (AWP.cond O Z Z (fun hc25 => ?_) (fun hc25 => ?_)))))))
 try simp only [bg] at hc25
 refine ag (js O Z (jn (AWP.ret ?_)))
 refine ⟨.inl Z, _, Ent.refl, _, Z, ?_⟩
 have e := iN Tm.size ts i (by omega)
 have e3 := qC Tm.size ts (i + 1)
 rw [Int.toNat_natCast] at hc25
 rw [show dE left (Al.szs Tm.size ts) = -1 from if_pos (by unfold dE at hc25; unfold Al.szs; split at hc25 <;> omega)]
 try simp only [bg] at hc25
 refine AWP.skip (AWP.region (js O Z ?_))
 first | refine ji O Z ?_ | refine aY O Z Z Z Z Z ?_
 refine js O Z (jn ?_)
 have e := iN Tm.size ts i (by omega)
 have e2 : dE (left - ts.length - ((ts.take i).map Tm.size).sum) (ts.getD i default).size = left - ts.length - ((ts.take (i + 1)).map Tm.size).sum := by
  unfold dE at hc25 ⊢
  rw [Int.toNat_natCast] at hc25
  split at hc25 <;> omega
 refine ⟨i + 1, Ent.env ⟨Z, ?_, Z, trivial⟩, ⟨by omega, ?_⟩, by omega⟩
 rw [← e2]; rfl
 rw [← e2]; rw [Int.toNat_natCast] at hc25; omega
 try simp only [bg] at hc15
 refine AWP.exit (ag (j2 O Z Z (jn (AWP.ret ?_))))
 refine ⟨.inl Z, _, Ent.refl, _, Z, ?_⟩
 obtain rfl : i = ts.length := by omega
 have e4 := hi.2
 rw [List.take_length] at e4 ⊢
 rw [show dE left (Al.szs Tm.size ts) = left - ts.length - (ts.map Tm.size).sum from by unfold dE Al.szs; rw [if_neg (by omega)]; omega]

theorem ue {xs ys : List Tm} : MQ h1 h2 34 [cr xs, cr ys] [] (Plain (eB (decide (xs = ys)))) := by
 refine av ?_ Z
 refine jB 27 h1 h2 Tryz.func34 Z Z Z fun O hF => ?_
 have hl : xs.length ≤ L := by simpa [As.fact, A.fact, M.fact, D.fact, Ds.fact] using hF.1.1
 have hl2 : ys.length ≤ L := by simpa [As.fact, A.fact, M.fact, D.fact, Ds.fact] using hF.2.1.1
 refine ag (js O Z (jn (AWP.seq (ag (js O Z ?_)))))
 first | refine cy O Z Z Z Z Z Z Z Z Z Z Z ?_ | refine js O Z ?_ | refine aY O Z Z Z Z Z ?_
 refine js O Z ?_
 first | refine cy O Z Z Z Z Z Z Z Z Z Z Z ?_ | refine js O Z ?_ | refine aY O Z Z Z Z Z ?_
 refine js O Z (jn (AWP.cond O Z Z (fun hc10 => ?_) (fun hc10 => ?_)))
 try simp only [bg] at hc10
 refine ag (js O Z (jn (AWP.ret ?_)))
 refine ⟨.inl Z, _, Ent.refl, _, Z, ?_⟩
 rw [decide_eq_false (fun e => by subst e; simp at hc10)]
 try simp only [bg] at hc10
 refine AWP.skip (AWP.seq (ag (js O Z (jn (AWP.block (az (X := Nat) (fun i => ⟨[(0, cr xs), (1, cr ys), (5, eI i)], []⟩) (fun i => i ≤ xs.length ∧ ∀ j, j < i → xs[j]? = ys[j]?) (fun i => xs.length - i) 0 (Ent.env ⟨Z, Z, Z, trivial⟩) ?_ (fun i hi => ?_)))))))
 exact ⟨Nat.zero_le _, fun j hj => absurd hj (Nat.not_lt_zero j)⟩
 refine AWP.seq (ag (j2 O Z Z ?_))
 first | refine cy O Z Z Z Z Z Z Z Z Z Z Z ?_ | refine js O Z ?_ | refine aY O Z Z Z Z Z ?_
 refine js O Z (jn (AWP.cond O Z Z (fun hc14 => ?_) (fun hc14 => ?_)))
 try simp only [bg] at hc14
 refine AWP.skip (AWP.seq (AWP.block (AWP.seq (f6 O [_,_,_,_,_,_,_,_,_,_] [pn [] 0 0, pn [] 0 0, pn [0,1] 0 0, pn [0,1,2] 0 0, pn [] 0 0, pn [] 0 0, pn [4,5] 0 0, pn [4,5,6] 0 0, pe [0,1,2,3,4,5,6,7] 0, pn [0,1,2,3,4,5,6,7,8] 1 1] [8] [_,_] (kc O Z (kc O Z (ai (aV O Z Z Z Z Z Z Z Z (by first | omega | (simp at *; omega)) (cJ (by first | omega | (simp at *; omega)) (by first | omega | (simp at *; omega)))) (kc O Z (kc O Z (kc O Z (ai (aV O Z Z Z Z Z Z Z Z (by first | omega | (simp at *; omega)) (cJ (by first | omega | (simp at *; omega)) (by first | omega | (simp at *; omega)))) (kc O Z (ai (cb O (B0 := 26000) Z Z Z Z (vO h1 h2) (ab Z) Z Z Z Z Z) (kc O Z trivial)))))))))) ?_))))
 refine AWP.cond O Z Z (fun hc26 => ?_) (fun hc26 => ?_)
 try simp only [bg] at hc26
 refine ag (js O Z (jn (AWP.ret ?_)))
 refine ⟨.inl Z, _, Ent.refl, _, Z, ?_⟩
 rw [decide_eq_false (fun e => by subst e; simp at hc26)]
 try simp only [bg] at hc26
 refine AWP.skip (AWP.region (js O Z ?_))
 first | refine ji O Z ?_ | refine aY O Z Z Z Z Z ?_
 refine js O Z (jn ?_)
 refine ⟨i + 1, Ent.env ⟨Z, Z, Z, trivial⟩, ⟨by omega, fun j hj => ?_⟩, by omega⟩
 rcases Nat.lt_or_ge j i with h | h
 exact hi.2 j h
 obtain rfl : j = i := by omega
 rw [Int.toNat_natCast, aI (by omega), aI (by omega)] at hc26
 rw [List.getElem?_eq_getElem (by omega), List.getElem?_eq_getElem (by omega), hc26]
 try simp only [bg] at hc14
 refine AWP.exit (ag (js O Z (jn (AWP.ret ?_))))
 refine ⟨.inl Z, _, Ent.refl, _, Z, ?_⟩
 have e : xs = ys := List.ext_getElem? fun j => by
  rcases Nat.lt_or_ge j i with h | h
  ·
   exact hi.2 j h
  ·
   rw [List.getElem?_eq_none (by omega), List.getElem?_eq_none (by omega)]
 rw [decide_eq_true e]
theorem vW {ts : List Tm} : MQ h1 h2 30 [cr ts] [] (Rows (.c (.rs 0 0 ts.length)) [df ts]) := by
 refine bF (jB 23 h1 h2 Tryz.func30 Z Z Z fun O hF => ?_)
 have hl : ts.length ≤ L := by simpa [As.fact, A.fact, M.fact, D.fact, Ds.fact] using hF.1.1
 refine ag (js O Z (aP (js O Z ?_)))
 first | refine cy O Z Z Z Z Z Z Z Z Z Z Z ?_ | refine js O Z ?_ | refine aY O Z Z Z Z Z ?_
 refine AOps.heap (er O Z Z Z Z Z Z Z Z Z (by first | omega | (simp at *; omega)) (by first | omega | (simp at *; omega)) (by first | omega | (simp at *; omega)) (by first | omega | (dsimp only; omega) | (simp only [List.length_map, beq_iff_eq, decide_eq_true_eq, decide_eq_false_iff_not, Bool.not_eq_true', Bool.not_eq_false', Bool.not_true, Bool.not_false, Int.not_lt, Int.not_le] at *; omega)) (by first | omega | (simp at *; omega)) Z Z Z) Z (js O Z (jn (AWP.seq (ag (js O Z (jn (AWP.block (az (X := Nat × List Tm) (fun x => ⟨[(0, cr ts), (3, .c (.rs 7 0 ts.length)), (4, eI x.1)], [(7, df x.2)]⟩) (fun x => x.1 ≤ ts.length ∧ x.2.length = ts.length ∧ ∀ j, j < x.1 → x.2[j]? = ts[j]?) (fun x => ts.length - x.1) (0, List.replicate ts.length ⟨0, []⟩) ((Ent.rowLe 7 Z (NLess.replicate (.cons .refl (.cons (.nil (sz := 1)) .nil)))).trans (Ent.to ⟨Z, Z, Z, trivial⟩ (by simp [ins, eH, df]))) ?_ (fun x hi => ?_)))))))))
 exact ⟨Nat.zero_le _, List.length_replicate, fun j hj => absurd hj (Nat.not_lt_zero j)⟩
 refine AWP.seq (ag (j2 O Z Z ?_))
 first | refine cy O Z Z Z Z Z Z Z Z Z Z Z ?_ | refine js O Z ?_ | refine aY O Z Z Z Z Z ?_
 refine js O Z (jn (AWP.cond O Z Z (fun hc11 => ?_) (fun hc11 => ?_)))
 try simp only [bg] at hc11
 refine AWP.skip (AWP.seq (AWP.block (AWP.region (j4 O Z Z Z Z ?_))))
 first | refine dR O Z Z Z Z Z Z Z Z Z Z Z ?_ | refine aY O Z Z Z Z Z ?_
 refine js O Z (aU O (B0 := 21000) Z Z Z Z (vU h1 h2) (ab Z) Z Z Z Z Z Z ?_)
 first | refine dR O Z Z Z Z Z Z Z Z Z Z Z ?_ | refine aY O Z Z Z Z Z ?_
 refine AOps.heap (j0 (ex := (x.2.getD x.1 default).cells) (xs' := (x.2.set x.1 (ts.getD x.1 default)).map Tm.cells) O Z Z Z Z Z Z Z (.d Z (.rs Z (by simp) .nil)) Z Z Z Z Z Z (by simp [hi.2.1, show x.1 < ts.length by omega]) (by simp [List.map_set])) Z (jn (AWP.region (js O Z ?_)))
 first | refine ji O Z ?_ | refine aY O Z Z Z Z Z ?_
 refine js O Z (jn ?_)
 refine ⟨(x.1 + 1, x.2.set x.1 (ts.getD x.1 default)), Ent.to ⟨Z, Z, Z, trivial⟩ Z, ⟨by omega, by simp [hi.2.1], fun j hj => ?_⟩, by omega⟩
 rw [List.getElem?_set]
 split
 rename_i e; subst e; simp [hi.2.1, show x.1 < ts.length by omega]
 exact hi.2.2 j (by omega)
 try simp only [bg] at hc11
 refine AWP.exit (ag (j2 O Z Z (jn (AWP.ret ?_))))
 have e : x.2 = ts := List.ext_getElem? fun j => by
  rcases Nat.lt_or_ge j x.1 with h | h
  ·
   exact hi.2.2 j h
  ·
   rw [List.getElem?_eq_none (by omega), List.getElem?_eq_none (by omega)]
 refine ⟨.inl Z, _, Ent.refl, _, Z, [7], by decide, Z, Z, ?_⟩
 rw [← e]; rfl
structure Sm where
  kind : Int
  var : Int
  event : Int
  sum : Tm
  index : Tm
  facts : List Tm
  deriving Inhabited, DecidableEq
abbrev Sm.cells (s : Sm) : List D := [.int .i64 s.kind, .int .i64 s.var, .int .i64 s.event, .int .i64 s.sum.c, bp s.sum.xs, .int .i64 s.index.c, bp s.index.xs, bX s.facts]
abbrev ut (s : Sm) : A := .agg (s.cells.map .d)
def Sm.size (s : Sm) : Nat := s.sum.size + s.index.size + szs Tm.size s.facts
theorem lY {left : Int} (h : 0 ≤ left) (n : Nat) : dE left n ≤ left := by unfold dE; split <;> omega
theorem e9 {left : Int} {a : Nat} (b : Nat) (h : 0 ≤ dE left a) : dE (dE left a) b = dE left (a + b) := by unfold dE at *; split at h <;> repeat' (first | omega | split)
theorem kb {left : Int} {a : Nat} (b : Nat) (h : dE left a < 0) : dE left (a + b) = -1 := by unfold dE at *; split at h <;> repeat' (first | omega | split)

theorem xb {L : Nat} (h1 : 4096 ≤ L) (h2 : L ≤ 9223372036854775807) {s : Sm} {left : Int} (hl0 : 0 ≤ left) (hl1 : left ≤ 1048576) : MC Tryz.prog L 46 [ut s, eI left] [] (Plain (eI (dE left s.size))) := by
 refine av ?_ Z
 have O := j6 (nt := 24) h1 h2
 refine MC.body O Tryz.func46 (by kernel_rfl) Z Z (Nat.le_of_ble_eq_true Z) (fun hF => ?_)
 refine ag (jx O Z Z Z Z Z Z Z Z (js O Z (aP (j3 O Z Z Z (ae O Z Z Z Z (vV (t := s.sum) h1 h2 hl0 hl1) (ab Z) Z Z Z Z Z (B0 := 9000) Z (js O Z (jn (AWP.seq (ag (j2 O Z Z (jn (AWP.cond O Z Z (fun hc10 => ?_) (fun hc10 => ?_)))))))))))))
 try simp only [bg] at hc10
 refine ag (js O Z (jn (AWP.ret ?_)))
 refine ⟨.inl Z, _, Ent.refl, _, Z, ?_⟩
 unfold Sm.size
 rw [Nat.add_assoc, kb _ hc10]
 try simp only [bg] at hc10
 refine AWP.skip (ag (j3 O Z Z Z ?_))
 have le1 := lY hl0 s.sum.size
 refine ae O Z Z Z Z (vV (t := s.index) h1 h2 hc10 (by omega)) (ab Z) Z Z Z Z Z (B0 := 15000) Z (js O Z (jn (AWP.seq (ag (j2 O Z Z (jn (AWP.cond O Z Z (fun hc16 => ?_) (fun hc16 => ?_))))))))
 try simp only [bg] at hc16
 refine ag (js O Z (jn (AWP.ret ?_)))
 refine ⟨.inl Z, _, Ent.refl, _, Z, ?_⟩
 unfold Sm.size
 rw [e9 _ hc10] at hc16
 rw [kb _ hc16]
 try simp only [bg] at hc16
 refine AWP.skip (ag (j3 O Z Z Z ?_))
 rw [e9 _ hc10] at hc16 ⊢
 have le2 := lY hl0 (s.sum.size + s.index.size)
 refine ae O Z Z Z Z (vX (ts := s.facts) h1 h2 hc16 (by omega)) (ab Z) Z Z Z Z Z (B0 := 21000) Z (js O Z (jn (AWP.seq (ag (j2 O Z Z (jn (AWP.cond O Z Z (fun hc22 => ?_) (fun hc22 => ?_))))))))
 try simp only [bg] at hc22
 refine ag (js O Z (jn (AWP.ret ?_)))
 refine ⟨.inl Z, _, Ent.refl, _, Z, ?_⟩
 rw [e9 _ hc16] at hc22
 unfold dE at hc22 ⊢
 unfold Sm.size
 split at hc22
 rw [if_pos (by omega)]
 omega
 try simp only [bg] at hc22
 refine AWP.skip (ag (j2 O Z Z (jn (AWP.ret ?_))))
 refine ⟨.inl Z, _, Ent.refl, _, Z, ?_⟩
 rw [e9 _ hc16]
 rfl
abbrev eZ (ts : List Sm) : D := .slc 8 (ts.map Sm.cells)
abbrev fk (ts : List Sm) : B := .row true 8 (ts.map Sm.cells)
theorem c53 {L : Nat} (h1 : 4096 ≤ L) (h2 : L ≤ 9223372036854775807) {ts : List Sm} {left : Int} (hl0 : 0 ≤ left) (hl1 : left ≤ 1048576) : MC Tryz.prog L 26 [.c (.d (eZ ts)), eI left] [] (Plain (eI (dE left (Al.szs Sm.size ts)))) := by
 refine av ?_ Z
 have O := j6 (nt := 27) h1 h2
 refine MC.body O Tryz.func26 (by kernel_rfl) Z Z (Nat.le_of_ble_eq_true Z) (fun hF => ?_)
 have hl : ts.length ≤ L := by simpa [As.fact, A.fact, M.fact, D.fact, Ds.fact] using hF.1.1
 refine ag (js O Z (aP (j2 O Z Z ?_)))
 first | refine cy O Z Z Z Z Z Z Z Z Z Z Z ?_ | refine js O Z ?_ | refine aY O Z Z Z Z Z ?_
 first | refine ji O Z ?_ | refine aY O Z Z Z Z Z ?_
 refine js O Z (jn (AWP.seq (ag (j2 O Z Z (jn (AWP.cond O Z Z (fun hc11 => ?_) (fun hc11 => ?_)))))))
 try simp only [bg] at hc11
 refine ag (js O Z (jn (AWP.ret ?_)))
 refine ⟨.inl Z, _, Ent.refl, _, Z, ?_⟩
 rw [show dE left (Al.szs Sm.size ts) = -1 from if_pos (by unfold Al.szs; omega)]
 try simp only [bg] at hc11
 refine AWP.skip (AWP.seq (ag (js O Z (jn (AWP.block (az (X := Nat) (fun i => ⟨[(0, .c (.d (eZ ts))), (1, eI (left - ts.length - ((ts.take i).map Sm.size).sum)), (5, eI i)], []⟩) (fun i => i ≤ ts.length ∧ (0 : Int) ≤ left - ts.length - ((ts.take i).map Sm.size).sum) (fun i => ts.length - i) 0 (Ent.env ⟨Z, by simp [ar], Z, trivial⟩) ?_ (fun i hi => ?_)))))))
 exact ⟨Nat.zero_le _, by simp; omega⟩
 refine AWP.seq (ag (j2 O Z Z ?_))
 first | refine cy O Z Z Z Z Z Z Z Z Z Z Z ?_ | refine js O Z ?_ | refine aY O Z Z Z Z Z ?_
 refine js O Z (jn (AWP.cond O Z Z (fun hc15 => ?_) (fun hc15 => ?_)))
 try simp only [bg] at hc15
 refine AWP.skip (AWP.seq (AWP.block (ag (j2 O Z Z ?_))))
 first | refine dR O Z Z Z Z Z Z Z Z Z Z Z ?_ | refine aY O Z Z Z Z Z ?_
 refine j2 O Z Z (ae O Z Z Z Z (xb h1 h2 hi.2 (by omega)) (ab Z) Z Z Z Z Z (B0 := 24000) Z (js O Z (aP (j2 O Z Z (jn (AWP.cond O Z Z (fun hc25 => ?_) (fun hc25 => ?_)))))))
 try simp only [bg] at hc25
 refine ag (js O Z (jn (AWP.ret ?_)))
 refine ⟨.inl Z, _, Ent.refl, _, Z, ?_⟩
 have e := iN Sm.size ts i (by omega)
 have e3 := qC Sm.size ts (i + 1)
 rw [Int.toNat_natCast] at hc25
 rw [show dE left (Al.szs Sm.size ts) = -1 from if_pos (by unfold dE at hc25; unfold Al.szs; split at hc25 <;> omega)]
 try simp only [bg] at hc25
 refine AWP.skip (AWP.region (js O Z ?_))
 first | refine ji O Z ?_ | refine aY O Z Z Z Z Z ?_
 refine js O Z (jn ?_)
 have e := iN Sm.size ts i (by omega)
 have e2 : dE (left - ts.length - ((ts.take i).map Sm.size).sum) (Sm.size (ts.getD i default)) = left - ts.length - ((ts.take (i + 1)).map Sm.size).sum := by
  unfold dE at hc25 ⊢
  rw [Int.toNat_natCast] at hc25
  split at hc25 <;> omega
 refine ⟨i + 1, Ent.env ⟨Z, ?_, Z, trivial⟩, ⟨by omega, ?_⟩, by omega⟩
 rw [← e2]; rfl
 rw [← e2]; rw [Int.toNat_natCast] at hc25; omega
 try simp only [bg] at hc15
 refine AWP.exit (ag (j2 O Z Z (jn (AWP.ret ?_))))
 refine ⟨.inl Z, _, Ent.refl, _, Z, ?_⟩
 obtain rfl : i = ts.length := by omega
 have e4 := hi.2
 rw [List.take_length] at e4 ⊢
 rw [show dE left (Al.szs Sm.size ts) = left - ts.length - (ts.map Sm.size).sum from by unfold dE Al.szs; rw [if_neg (by omega)]; omega]
structure Pm where
  pre : List Tm
  body : List Sm
  post : List Tm
  deriving Inhabited, DecidableEq
structure Sx where
  vars : List Int
  cells : List Int
  deriving Inhabited, DecidableEq
abbrev Pm.data (p : Pm) : List D := [bX p.pre, eZ p.body, bX p.post]
abbrev aPm (p : Pm) : A := .agg (p.data.map .d)
theorem c8 {L : Nat} (h1 : 4096 ≤ L) (h2 : L ≤ 9223372036854775807) {p : Pm} {left : Int} (hl0 : 0 ≤ left) (hl1 : left ≤ 1048576) : MC Tryz.prog L 7 [aPm p, eI left] [] (Plain (eI (dE left (szs Tm.size p.pre + szs Sm.size p.body + szs Tm.size p.post)))) := by
 refine av ?_ Z
 have O := j6 (nt := 24) h1 h2
 refine MC.body O Tryz.func7 (by kernel_rfl) Z Z (Nat.le_of_ble_eq_true Z) (fun hF => ?_)
 refine ag (jx O Z Z Z Z Z Z Z Z (js O Z (aP (j3 O Z Z Z (ae O Z Z Z Z (vX (ts := p.pre) h1 h2 hl0 hl1) (ab Z) Z Z Z Z Z (B0 := 9000) Z (js O Z (jn (AWP.seq (ag (j2 O Z Z (jn (AWP.cond O Z Z (fun hc10 => ?_) (fun hc10 => ?_)))))))))))))
 try simp only [bg] at hc10
 refine ag (js O Z (jn (AWP.ret ?_)))
 refine ⟨.inl Z, _, Ent.refl, _, Z, ?_⟩
 rw [Nat.add_assoc, kb _ hc10]
 try simp only [bg] at hc10
 refine AWP.skip (ag (j3 O Z Z Z ?_))
 have le1 := lY hl0 (szs Tm.size p.pre)
 refine ae O Z Z Z Z (c53 (ts := p.body) h1 h2 hc10 (by omega)) (ab Z) Z Z Z Z Z (B0 := 15000) Z (js O Z (jn (AWP.seq (ag (j2 O Z Z (jn (AWP.cond O Z Z (fun hc16 => ?_) (fun hc16 => ?_))))))))
 try simp only [bg] at hc16
 refine ag (js O Z (jn (AWP.ret ?_)))
 refine ⟨.inl Z, _, Ent.refl, _, Z, ?_⟩
 rw [e9 _ hc10] at hc16
 rw [kb _ hc16]
 try simp only [bg] at hc16
 refine AWP.skip (ag (j3 O Z Z Z ?_))
 rw [e9 _ hc10] at hc16 ⊢
 have le2 := lY hl0 (szs Tm.size p.pre + szs Sm.size p.body)
 refine ae O Z Z Z Z (vX (ts := p.post) h1 h2 hc16 (by omega)) (ab Z) Z Z Z Z Z (B0 := 21000) Z (js O Z (jn (AWP.seq (ag (j2 O Z Z (jn (AWP.cond O Z Z (fun hc22 => ?_) (fun hc22 => ?_))))))))
 try simp only [bg] at hc22
 refine ag (js O Z (jn (AWP.ret ?_)))
 refine ⟨.inl Z, _, Ent.refl, _, Z, ?_⟩
 rw [e9 _ hc16] at hc22
 unfold dE at hc22 ⊢
 split at hc22
 rw [if_pos (by omega)]
 omega
 try simp only [bg] at hc22
 refine AWP.skip (ag (j2 O Z Z (jn (AWP.ret ?_))))
 refine ⟨.inl Z, _, Ent.refl, _, Z, ?_⟩
 rw [e9 _ hc16]
theorem w8 {s : Sm} : MQ h1 h2 56 [ut s] [] (Rows (.agg [.d (.int .i64 s.kind), .d (.int .i64 s.var), .d (.int .i64 s.event), .d (.int .i64 s.sum.c), .rs 0 0 s.sum.xs.length, .d (.int .i64 s.index.c), .rs 1 0 s.index.xs.length, .rs 2 0 s.facts.length]) [ba s.sum.xs, ba s.index.xs, df s.facts]) := by
 refine bF (jB 26 h1 h2 Tryz.func56 Z Z Z fun O hF => ?_)
 refine ag (jx O Z Z Z Z Z Z Z Z (aq ?_))
 refine jl O Z Z Z Z Z Z (aq ?_)
 refine aP (jl O Z Z Z Z Z Z (aq ?_))
 refine aP (j3 O Z Z Z (jo O Z Z Z Z Z Z Z Z Z Z Z Z (aq ?_)))
 refine aP (j3 O Z Z Z (jo O Z Z Z Z Z Z Z Z Z Z Z Z (aq ?_)))
 refine aP (j3 O Z Z Z (jo O Z Z Z Z Z Z Z Z Z Z Z Z (aq ?_)))
 refine aP (j2 O Z Z (aU O (B0 := 16000) Z Z Z Z (vU h1 h2) (ab Z) Z Z Z Z Z Z (aq ?_)))
 refine js O Z (jo O Z Z Z Z Z Z Z Z Z Z Z Z (aq ?_))
 refine aP (j2 O Z Z (aU O (B0 := 20000) Z Z Z Z (vU h1 h2) (ab Z) Z Z Z Z Z Z (aq ?_)))
 refine js O Z (jo O Z Z Z Z Z Z Z Z Z Z Z Z (aq ?_))
 refine aP (j2 O Z Z (aU O (B0 := 24000) Z Z Z Z (vW h1 h2) (ab Z) Z Z Z Z Z Z (aq ?_)))
 refine js O Z (jo O Z Z Z Z Z Z Z Z Z Z Z Z (aq ?_))
 refine aP (js O Z (jo O Z Z Z Z Z Z Z Z Z Z Z Z (aq ?_)))
 refine jn (AWP.ret ?_)
 refine ⟨.inl Z, _, Ent.refl, _, Z, [16000,20000,24000], by decide, Z, Z, Z⟩
theorem c60 {ts : List Sm} : MQ h1 h2 31 [.c (.d (eZ ts))] [] (Rows (.c (.rs 0 0 ts.length)) [fk ts]) := by
 refine bF (jB 23 h1 h2 Tryz.func31 Z Z Z fun O hF => ?_)
 have hl : ts.length ≤ L := by simpa [As.fact, A.fact, M.fact, D.fact, Ds.fact] using hF.1.1
 refine ag (js O Z (aP (js O Z ?_)))
 first | refine cy O Z Z Z Z Z Z Z Z Z Z Z ?_ | refine js O Z ?_ | refine aY O Z Z Z Z Z ?_
 refine AOps.heap (er O Z Z Z Z Z Z Z Z Z (by first | omega | (simp at *; omega)) (by first | omega | (simp at *; omega)) (by first | omega | (simp at *; omega)) (by first | omega | (dsimp only; omega) | (simp only [List.length_map, beq_iff_eq, decide_eq_true_eq, decide_eq_false_iff_not, Bool.not_eq_true', Bool.not_eq_false', Bool.not_true, Bool.not_false, Int.not_lt, Int.not_le] at *; omega)) (by first | omega | (simp at *; omega)) Z Z Z) Z (js O Z (jn (AWP.seq (ag (js O Z (jn (AWP.block (az (X := Nat × List Sm) (fun x => ⟨[(0, .c (.d (eZ ts))), (3, .c (.rs 7 0 ts.length)), (4, eI x.1)], [(7, fk x.2)]⟩) (fun x => x.1 ≤ ts.length ∧ x.2.length = ts.length ∧ ∀ j, j < x.1 → x.2[j]? = ts[j]?) (fun x => ts.length - x.1) (0, List.replicate ts.length ⟨0, 0, 0, ⟨0, []⟩, ⟨0, []⟩, []⟩) ((Ent.rowLe 7 Z (NLess.replicate (.cons .refl (.cons .refl (.cons .refl (.cons .refl (.cons (.nil (sz := 1)) (.cons .refl (.cons (.nil (sz := 1)) (.cons (.nil (sz := 2)) .nil)))))))))).trans (Ent.to ⟨Z, Z, Z, trivial⟩ (by simp [ins, eH, fk]))) ?_ (fun x hi => ?_)))))))))
 exact ⟨Nat.zero_le _, List.length_replicate, fun j hj => absurd hj (Nat.not_lt_zero j)⟩
 refine AWP.seq (ag (j2 O Z Z ?_))
 first | refine cy O Z Z Z Z Z Z Z Z Z Z Z ?_ | refine js O Z ?_ | refine aY O Z Z Z Z Z ?_
 refine js O Z (jn (AWP.cond O Z Z (fun hc11 => ?_) (fun hc11 => ?_)))
 try simp only [bg] at hc11
 refine AWP.skip (AWP.seq (AWP.block (AWP.region (j4 O Z Z Z Z ?_))))
 first | refine dR O Z Z Z Z Z Z Z Z Z Z Z ?_ | refine aY O Z Z Z Z Z ?_
 refine js O Z (aU O (B0 := 21000) Z Z Z Z (w8 h1 h2) (ab Z) Z Z Z Z Z Z ?_)
 first | refine dR O Z Z Z Z Z Z Z Z Z Z Z ?_ | refine aY O Z Z Z Z Z ?_
 refine AOps.heap (j0 (ex := Sm.cells (x.2.getD x.1 default)) (xs' := (x.2.set x.1 (ts.getD x.1 default)).map Sm.cells) O Z Z Z Z Z Z Z (.d Z (.d Z (.d Z (.d Z (.rs Z (by simp) (.d Z (.rs Z (by simp) (.rs Z (by simp) .nil)))))))) Z Z Z Z Z Z (by simp [hi.2.1, show x.1 < ts.length by omega]) (by simp [List.map_set])) Z (jn (AWP.region (js O Z ?_)))
 first | refine ji O Z ?_ | refine aY O Z Z Z Z Z ?_
 refine js O Z (jn ?_)
 refine ⟨(x.1 + 1, x.2.set x.1 (ts.getD x.1 default)), Ent.to ⟨Z, Z, Z, trivial⟩ Z, ⟨by omega, by simp [hi.2.1], fun j hj => ?_⟩, by omega⟩
 rw [List.getElem?_set]
 split
 rename_i e; subst e; simp [hi.2.1, show x.1 < ts.length by omega]
 exact hi.2.2 j (by omega)
 try simp only [bg] at hc11
 refine AWP.exit (ag (j2 O Z Z (jn (AWP.ret ?_))))
 have e : x.2 = ts := List.ext_getElem? fun j => by
  rcases Nat.lt_or_ge j x.1 with h | h
  ·
   exact hi.2.2 j h
  ·
   rw [List.getElem?_eq_none (by omega), List.getElem?_eq_none (by omega)]
 refine ⟨.inl Z, _, Ent.refl, _, Z, [7], by decide, Z, Z, ?_⟩
 rw [← e]; rfl
theorem rF {p : Pm} : MQ h1 h2 9 [aPm p] [] (Rows (.agg [.rs 0 0 p.pre.length, .rs 1 0 p.body.length, .rs 2 0 p.post.length]) [df p.pre, fk p.body, df p.post]) := by
 refine bF (jB 17 h1 h2 Tryz.func9 Z Z Z fun O hF => ?_)
 refine ag (jx O Z Z Z Z Z Z Z Z (aq ?_))
 refine jl O Z Z Z Z Z Z (aq ?_)
 refine aP (jl O Z Z Z Z Z Z (aq ?_))
 refine aP (j2 O Z Z (aU O (B0 := 7000) Z Z Z Z (vW h1 h2) (ab Z) Z Z Z Z Z Z (aq ?_)))
 refine js O Z (jo O Z Z Z Z Z Z Z Z Z Z Z Z (aq ?_))
 refine aP (j2 O Z Z (aU O (B0 := 11000) Z Z Z Z (c60 h1 h2) (ab Z) Z Z Z Z Z Z (aq ?_)))
 refine js O Z (jo O Z Z Z Z Z Z Z Z Z Z Z Z (aq ?_))
 refine aP (j2 O Z Z (aU O (B0 := 15000) Z Z Z Z (vW h1 h2) (ab Z) Z Z Z Z Z Z (aq ?_)))
 refine js O Z (jo O Z Z Z Z Z Z Z Z Z Z Z Z (aq ?_))
 refine aP (js O Z (jo O Z Z Z Z Z Z Z Z Z Z Z Z (aq ?_)))
 refine jn (AWP.ret ?_)
 refine ⟨.inl Z, _, Ent.refl, _, Z, [7000,11000,15000], by decide, Z, Z, Z⟩
theorem w7 {s t : Sm} : MQ h1 h2 62 [ut s, ut t] [] (Plain (eB (decide (s = t)))) := by
 refine av ?_ Z
 refine jB 38 h1 h2 Tryz.func62 Z Z Z fun O hF => ?_
 refine ag (jx O Z Z Z Z Z Z Z Z (jx O Z Z Z Z Z Z Z Z (js O Z (jn (AWP.seq (ag (j4 O Z Z Z Z (js O Z (jn (AWP.cond O Z Z (fun hc9 => ?_) (fun hc9 => ?_)))))))))))
 try simp only [bg] at hc9
 refine ag (js O Z (jn (AWP.ret ?_)))
 refine ⟨.inl Z, _, Ent.refl, _, Z, ?_⟩
 rw [decide_eq_false (fun e => hc9 (by rw [e]))]
 try simp only [bg] at hc9
 refine AWP.skip (AWP.seq (ag (j4 O Z Z Z Z (js O Z (jn (AWP.cond O Z Z (fun hc14 => ?_) (fun hc14 => ?_)))))))
 try simp only [bg] at hc14
 refine ag (js O Z (jn (AWP.ret ?_)))
 refine ⟨.inl Z, _, Ent.refl, _, Z, ?_⟩
 rw [decide_eq_false (fun e => hc14 (by rw [e]))]
 try simp only [bg] at hc14
 refine AWP.skip (AWP.seq (ag (j4 O Z Z Z Z (js O Z (jn (AWP.cond O Z Z (fun hc19 => ?_) (fun hc19 => ?_)))))))
 try simp only [bg] at hc19
 refine ag (js O Z (jn (AWP.ret ?_)))
 refine ⟨.inl Z, _, Ent.refl, _, Z, ?_⟩
 rw [decide_eq_false (fun e => hc19 (by rw [e]))]
 try simp only [bg] at hc19
 refine AWP.skip (AWP.seq (ag (j4 O Z Z Z Z (ae O Z Z Z Z (vO h1 h2) (ab Z) Z Z Z Z Z (B0 := 25000) Z (js O Z (jn (AWP.cond O Z Z (fun hc25 => ?_) (fun hc25 => ?_))))))))
 try simp only [bg] at hc25
 refine ag (js O Z (jn (AWP.ret ?_)))
 refine ⟨.inl Z, _, Ent.refl, _, Z, ?_⟩
 rw [decide_eq_false (fun e => hc25 (by rw [e]))]
 try simp only [bg] at hc25
 refine AWP.skip (AWP.seq (ag (j4 O Z Z Z Z (ae O Z Z Z Z (vO h1 h2) (ab Z) Z Z Z Z Z (B0 := 31000) Z (js O Z (jn (AWP.cond O Z Z (fun hc31 => ?_) (fun hc31 => ?_))))))))
 try simp only [bg] at hc31
 refine ag (js O Z (jn (AWP.ret ?_)))
 refine ⟨.inl Z, _, Ent.refl, _, Z, ?_⟩
 rw [decide_eq_false (fun e => hc31 (by rw [e]))]
 try simp only [bg] at hc31
 refine AWP.skip (AWP.seq (ag (j4 O Z Z Z Z (ae O Z Z Z Z (ue h1 h2) (ab Z) Z Z Z Z Z (B0 := 37000) Z (js O Z (jn (AWP.cond O Z Z (fun hc37 => ?_) (fun hc37 => ?_))))))))
 try simp only [bg] at hc37
 refine ag (js O Z (jn (AWP.ret ?_)))
 refine ⟨.inl Z, _, Ent.refl, _, Z, ?_⟩
 rw [decide_eq_false (fun e => hc37 (by rw [e]))]
 try simp only [bg] at hc37
 refine AWP.skip (ag (js O Z (jn (AWP.ret ?_))))
 refine ⟨.inl Z, _, Ent.refl, _, Z, ?_⟩
 have e : s = t := by cases s; cases t; simp_all
 rw [decide_eq_true e]
theorem c63 {xs ys : List Sm} : MQ h1 h2 35 [.c (.d (eZ xs)), .c (.d (eZ ys))] [] (Plain (eB (decide (xs = ys)))) := by
 refine av ?_ Z
 refine jB 27 h1 h2 Tryz.func35 Z Z Z fun O hF => ?_
 have hl : xs.length ≤ L := by simpa [As.fact, A.fact, M.fact, D.fact, Ds.fact] using hF.1.1
 have hl2 : ys.length ≤ L := by simpa [As.fact, A.fact, M.fact, D.fact, Ds.fact] using hF.2.1.1
 refine ag (js O Z (jn (AWP.seq (ag (js O Z ?_)))))
 first | refine cy O Z Z Z Z Z Z Z Z Z Z Z ?_ | refine js O Z ?_ | refine aY O Z Z Z Z Z ?_
 refine js O Z ?_
 first | refine cy O Z Z Z Z Z Z Z Z Z Z Z ?_ | refine js O Z ?_ | refine aY O Z Z Z Z Z ?_
 refine js O Z (jn (AWP.cond O Z Z (fun hc10 => ?_) (fun hc10 => ?_)))
 try simp only [bg] at hc10
 refine ag (js O Z (jn (AWP.ret ?_)))
 refine ⟨.inl Z, _, Ent.refl, _, Z, ?_⟩
 rw [decide_eq_false (fun e => by subst e; simp at hc10)]
 try simp only [bg] at hc10
 refine AWP.skip (AWP.seq (ag (js O Z (jn (AWP.block (az (X := Nat) (fun i => ⟨[(0, .c (.d (eZ xs))), (1, .c (.d (eZ ys))), (5, eI i)], []⟩) (fun i => i ≤ xs.length ∧ ∀ j, j < i → xs[j]? = ys[j]?) (fun i => xs.length - i) 0 (Ent.env ⟨Z, Z, Z, trivial⟩) ?_ (fun i hi => ?_)))))))
 exact ⟨Nat.zero_le _, fun j hj => absurd hj (Nat.not_lt_zero j)⟩
 refine AWP.seq (ag (j2 O Z Z ?_))
 first | refine cy O Z Z Z Z Z Z Z Z Z Z Z ?_ | refine js O Z ?_ | refine aY O Z Z Z Z Z ?_
 refine js O Z (jn (AWP.cond O Z Z (fun hc14 => ?_) (fun hc14 => ?_)))
 try simp only [bg] at hc14
 refine AWP.skip (AWP.seq (AWP.block (AWP.seq (f6 O [_,_,_,_,_,_,_,_,_,_] [pn [] 0 0, pn [] 0 0, pn [0,1] 0 0, pn [0,1,2] 0 0, pn [] 0 0, pn [] 0 0, pn [4,5] 0 0, pn [4,5,6] 0 0, pe [0,1,2,3,4,5,6,7] 0, pn [0,1,2,3,4,5,6,7,8] 1 1] [8] [_,_] (kc O Z (kc O Z (ai (aV O Z Z Z Z Z Z Z Z (by first | omega | (simp at *; omega)) (cJ (by first | omega | (simp at *; omega)) (by first | omega | (simp at *; omega)))) (kc O Z (kc O Z (kc O Z (ai (aV O Z Z Z Z Z Z Z Z (by first | omega | (simp at *; omega)) (cJ (by first | omega | (simp at *; omega)) (by first | omega | (simp at *; omega)))) (kc O Z (ai (cb O (B0 := 26000) Z Z Z Z (w7 h1 h2) (ab Z) Z Z Z Z Z) (kc O Z trivial)))))))))) ?_))))
 refine AWP.cond O Z Z (fun hc26 => ?_) (fun hc26 => ?_)
 try simp only [bg] at hc26
 refine ag (js O Z (jn (AWP.ret ?_)))
 refine ⟨.inl Z, _, Ent.refl, _, Z, ?_⟩
 rw [decide_eq_false (fun e => by subst e; simp at hc26)]
 try simp only [bg] at hc26
 refine AWP.skip (AWP.region (js O Z ?_))
 first | refine ji O Z ?_ | refine aY O Z Z Z Z Z ?_
 refine js O Z (jn ?_)
 refine ⟨i + 1, Ent.env ⟨Z, Z, Z, trivial⟩, ⟨by omega, fun j hj => ?_⟩, by omega⟩
 rcases Nat.lt_or_ge j i with h | h
 exact hi.2 j h
 obtain rfl : j = i := by omega
 rw [Int.toNat_natCast, aI (by omega), aI (by omega)] at hc26
 rw [List.getElem?_eq_getElem (by omega), List.getElem?_eq_getElem (by omega), hc26]
 try simp only [bg] at hc14
 refine AWP.exit (ag (js O Z (jn (AWP.ret ?_))))
 refine ⟨.inl Z, _, Ent.refl, _, Z, ?_⟩
 have e : xs = ys := List.ext_getElem? fun j => by
  rcases Nat.lt_or_ge j i with h | h
  ·
   exact hi.2 j h
  ·
   rw [List.getElem?_eq_none (by omega), List.getElem?_eq_none (by omega)]
 rw [decide_eq_true e]
theorem sg {s t : Pm} : MQ h1 h2 12 [aPm s, aPm t] [] (Plain (eB (decide (s = t)))) := by
 refine av ?_ Z
 refine jB 23 h1 h2 Tryz.func12 Z Z Z fun O hF => ?_
 refine ag (jx O Z Z Z Z Z Z Z Z (jx O Z Z Z Z Z Z Z Z (js O Z (jn (AWP.seq (ag (j4 O Z Z Z Z (ae O Z Z Z Z (ue h1 h2) (ab Z) Z Z Z Z Z (B0 := 10000) Z (js O Z (jn (AWP.cond O Z Z (fun hc10 => ?_) (fun hc10 => ?_))))))))))))
 try simp only [bg] at hc10
 refine ag (js O Z (jn (AWP.ret ?_)))
 refine ⟨.inl Z, _, Ent.refl, _, Z, ?_⟩
 rw [decide_eq_false (fun e => hc10 (by rw [e]))]
 try simp only [bg] at hc10
 refine AWP.skip (AWP.seq (ag (j4 O Z Z Z Z (ae O Z Z Z Z (c63 h1 h2) (ab Z) Z Z Z Z Z (B0 := 16000) Z (js O Z (jn (AWP.cond O Z Z (fun hc16 => ?_) (fun hc16 => ?_))))))))
 try simp only [bg] at hc16
 refine ag (js O Z (jn (AWP.ret ?_)))
 refine ⟨.inl Z, _, Ent.refl, _, Z, ?_⟩
 rw [decide_eq_false (fun e => hc16 (by rw [e]))]
 try simp only [bg] at hc16
 refine AWP.skip (AWP.seq (ag (j4 O Z Z Z Z (ae O Z Z Z Z (ue h1 h2) (ab Z) Z Z Z Z Z (B0 := 22000) Z (js O Z (jn (AWP.cond O Z Z (fun hc22 => ?_) (fun hc22 => ?_))))))))
 try simp only [bg] at hc22
 refine ag (js O Z (jn (AWP.ret ?_)))
 refine ⟨.inl Z, _, Ent.refl, _, Z, ?_⟩
 rw [decide_eq_false (fun e => hc22 (by rw [e]))]
 try simp only [bg] at hc22
 refine AWP.skip (ag (js O Z (jn (AWP.ret ?_))))
 refine ⟨.inl Z, _, Ent.refl, _, Z, ?_⟩
 have e : s = t := by cases s; cases t; simp_all
 rw [decide_eq_true e]
def aH {α : Type} (f : Int → α → α) (sz : α → Nat) : Int → List α → List α
  | _, [] => []
  | k, a :: r => f k a :: aH f sz (k + sz a) r
def bf {α : Type} (sz : α → Nat) (l : List α) : Nat := (l.map sz).sum
def mk {α : Type} (f : Int → α → α) (sz : α → Nat) (k : Int) (i : Nat) (l : List α) : List α := aH f sz k (l.take i) ++ l.drop i
section
variable {α : Type} {f : Int → α → α} {sz : α → Nat}
theorem aK : ∀ {k : Int} {l : List α}, (aH f sz k l).length = l.length
 | _, [] => rfl
 | _, a :: r => by simp [aH, aK]
theorem fA {k : Int} {i : Nat} {l : List α} : (mk f sz k i l).length = l.length := by
 simp [mk, aK]; omega
theorem iJ {k : Int} {l : List α} : mk f sz k 0 l = l := by simp [mk, aH]
theorem ko {k : Int} {i : Nat} {l : List α} (h : l.length ≤ i) : mk f sz k i l = aH f sz k l := by
 simp [mk, List.take_of_length_le h, List.drop_of_length_le h]
theorem je {k : Int} {i : Nat} {l : List α} (h : i < l.length) : (mk f sz k i l)[i]? = some l[i] := by
 rw [mk, List.getElem?_append_right (by simp [aK]; omega)]
 simp [aK, Nat.min_eq_left (Nat.le_of_lt h)]
theorem kI : ∀ {k : Int} {l : List α} {a : α}, aH f sz k (l ++ [a]) = aH f sz k l ++ [f (k + bf sz l) a]
 | k, [], a => by simp [aH, bf]
 | k, b :: r, a => by
  have : k + (sz b : Int) + (bf sz r : Int) = k + (bf sz (b :: r) : Int) := by simp [bf]; omega
  simp [aH, kI, this]
theorem eQ {l : List α} {i : Nat} (h : i < l.length) : bf sz (l.take (i + 1)) = bf sz (l.take i) + sz l[i] := by
 rw [List.take_succ_eq_append_getElem h]
 simp only [bf, List.map_append, List.sum_append, List.map_cons, List.map_nil, List.sum_cons, List.sum_nil]; omega
theorem il {l : List α} {i : Nat} : bf sz (l.take i) ≤ bf sz l := by
 have : bf sz l = bf sz (l.take i) + bf sz (l.drop i) := by rw [bf, bf, bf, ← List.sum_append, ← List.map_append, List.take_append_drop]
 omega
theorem gG {k : Int} {i : Nat} {l : List α} (h : i < l.length) : (mk f sz k i l).set i (f (k + bf sz (l.take i)) l[i]) = mk f sz k (i + 1) l := by
 have h1 : (aH f sz k (l.take i)).length = i := by rw [aK, List.length_take]; omega
 rw [mk, List.set_append_right _ _ (by omega), h1, Nat.sub_self, mk, List.take_succ_eq_append_getElem h, kI, List.drop_eq_getElem_cons h, List.set_cons_zero]
 simp only [List.append_assoc, List.singleton_append]
end
abbrev mI : Int → Int → Int := fun k _ => k
abbrev bW : Int → Nat := fun _ => 1
theorem ng {l : List Int} : bf bW l = l.length := by
 induction l with
 | nil => rfl
 | cons a r ih =>
  have : bW a = 1 := rfl
  simp only [bf, List.map_cons, List.sum_cons, List.length_cons] at ih ⊢; omega
theorem lH {k : Int} {xs : List Int} {j : Nat} (h : j < xs.length) : (aH mI bW k xs)[j]? = some (k + j) := by
 have h1 := je (f := mI) (sz := bW) (k := k) (l := xs) h
 have h2 := gG (f := mI) (sz := bW) (k := k) (l := xs) h
 have h3 : (mk mI bW k (j + 1) xs)[j]? = some (k + j) := by
  rw [← h2, List.getElem?_set]
  have e : bf bW (xs.take j) = j := by rw [ng, List.length_take]; omega
  simp [fA, h, e]
 have h4 : (mk mI bW k (j + 1) xs)[j]? = (aH mI bW k (xs.take (j + 1)))[j]? := by
  rw [mk, List.getElem?_append_left (by rw [aK, List.length_take]; omega)]
 have key : ∀ {k : Int} {l : List Int} {n j : Nat}, j < n → (aH mI bW k (l.take n))[j]? = (aH mI bW k l)[j]? := by
  intro k l
  induction l generalizing k with
  | nil => intro n j _; simp
  | cons a r ih =>
   intro n j hj
   cases n with
   | zero => omega
   | succ n =>
    cases j with
    | zero => simp [aH]
    | succ j => simp only [List.take_succ_cons, aH, List.getElem?_cons_succ]; exact ih (by omega)
 rw [← key (Nat.lt_succ_self j), ← h4, h3]
abbrev mT : Int → Tm → Tm := fun k t => ⟨k, aH mI bW (k + 1) t.xs⟩
abbrev nT : Tm → Nat := fun t => 1 + t.xs.length
abbrev mS : Int → Sm → Sm := fun k s =>
  ⟨k, k + 1, k + 1 + 1, ⟨k + 1 + 1 + 1, aH mI bW (k + 1 + 1 + 1 + 1) s.sum.xs⟩, ⟨k + 1 + 1 + 1 + 1 + s.sum.xs.length, aH mI bW (k + 1 + 1 + 1 + 1 + s.sum.xs.length + 1) s.index.xs⟩, aH mT nT (k + 1 + 1 + 1 + 1 + s.sum.xs.length + 1 + s.index.xs.length) s.facts⟩
abbrev nS : Sm → Nat := fun s => 5 + s.sum.xs.length + s.index.xs.length + bf nT s.facts

theorem rB {xs : List Int} {k : Int} (hk0 : 0 ≤ k) (hk1 : k ≤ 1073741824) : MQ h1 h2 38 [.c (.rs 0 0 xs.length), eI k] [(0, ba xs)] (aZ (eI (k + xs.length)) [(0, ba (aH mI bW k xs))]) := by
 refine jH 19 [0] h1 h2 Tryz.func38 Z Z Z Z fun O hF => ?_
 refine fG 0 Z (fun hB => ?_)
 have hl : xs.length ≤ L := by simpa [B.fact] using hB.1
 refine ag (js O Z (jn (AWP.seq (ag (js O Z (jn (AWP.block (az (X := Nat) (fun i => ⟨[(0, .c (.rs 0 0 xs.length)), (1, eI (k + i)), (5, eI i)], [(0, ba (mk mI bW k i xs))]⟩) (fun i => i ≤ xs.length) (fun i => xs.length - i) 0 (Ent.to ⟨Z, by simp [bL, ar], Z, trivial⟩ (by simp [iJ])) ?_ (fun i hi => ?_)))))))))
 exact Nat.zero_le _
 refine AWP.seq (ag (j2 O Z Z ?_))
 first | refine cy O Z Z Z Z Z Z Z Z Z Z Z ?_ | refine js O Z ?_ | refine aY O Z Z Z Z Z ?_
 refine js O Z (jn (AWP.cond O Z Z (fun hc9 => ?_) (fun hc9 => ?_)))
 try simp only [bg] at hc9
 refine AWP.skip (AWP.seq (AWP.block (ag (j3 O Z Z Z ?_))))
 first | refine dR O Z Z Z Z Z Z Z Z Z Z Z ?_ | refine aY O Z Z Z Z Z ?_
 refine AOps.heap (bq (ex := [.int .i64 (xs.getD i default)]) (xs' := (mk mI bW k (i + 1) xs).map fun n => [.int .i64 n]) O Z Z Z Z Z Z Z Z Z Z Z Z Z Z (by simp [je (f := mI) (sz := bW) (k := k) (show i < xs.length by omega), show i < xs.length by omega]) (by rw [← gG (show i < xs.length by omega), ng, List.length_take, Nat.min_eq_left hi]; simp [List.map_set])) Z (jn (AWP.region (js O Z ?_)))
 first | refine ji O Z ?_ | refine aY O Z Z Z Z Z ?_
 refine js O Z (jn (AWP.region (js O Z ?_)))
 first | refine ji O Z ?_ | refine aY O Z Z Z Z Z ?_
 refine js O Z (jn ?_)
 refine ⟨i + 1, Ent.to ⟨Z, ?_, Z, trivial⟩ Z, by omega, by omega⟩
 show some (eI (k + i + 1)) = some (eI (k + (i + 1 : Nat)))
 rw [Int.natCast_add, ← Int.add_assoc]; rfl
 try simp only [bg] at hc9
 refine AWP.exit (ag (j2 O Z Z (jn (AWP.ret ?_))))
 refine ⟨.inl Z, _, Ent.refl, _, Z, ?_⟩
 obtain rfl : i = xs.length := by omega
 rw [ko (Nat.le_refl _)]
 exact ⟨Z, Z⟩
theorem vZ {xs : List Int} {k : Int} (hk0 : 0 ≤ k) (hk1 : k ≤ 1073741824) : MQ h1 h2 40 [cD xs, eI k] [] (Plain (eI (if xs = aH mI bW k xs then k + xs.length else -1))) := by
 refine av ?_ Z
 refine jB 21 h1 h2 Tryz.func40 Z Z Z fun O hF => ?_
 have hl : xs.length ≤ L := by simpa [As.fact, A.fact, M.fact, D.fact, Ds.fact] using hF.1.1
 refine ag (js O Z (jn (AWP.seq (ag (js O Z (jn (AWP.block (az (X := Nat) (fun i => ⟨[(0, cD xs), (1, eI (k + i)), (5, eI i)], []⟩) (fun i => i ≤ xs.length ∧ ∀ j, j < i → xs[j]? = some (k + j)) (fun i => xs.length - i) 0 (Ent.env ⟨Z, by simp [bL, ar], Z, trivial⟩) ?_ (fun i hi => ?_)))))))))
 exact ⟨Nat.zero_le _, fun j hj => absurd hj (Nat.not_lt_zero j)⟩
 refine AWP.seq (ag (j2 O Z Z ?_))
 first | refine cy O Z Z Z Z Z Z Z Z Z Z Z ?_ | refine js O Z ?_ | refine aY O Z Z Z Z Z ?_
 refine js O Z (jn (AWP.cond O Z Z (fun hc9 => ?_) (fun hc9 => ?_)))
 try simp only [bg] at hc9
 refine AWP.skip (AWP.seq (AWP.block (AWP.seq (ag (j2 O Z Z ?_)))))
 first | refine dR O Z Z Z Z Z Z Z Z Z Z Z ?_ | refine aY O Z Z Z Z Z ?_
 refine j3 O Z Z Z (jn (AWP.cond O Z Z (fun hc17 => ?_) (fun hc17 => ?_)))
 try simp only [bg] at hc17
 refine ag (js O Z (jn (AWP.ret ?_)))
 refine ⟨.inl Z, _, Ent.refl, _, Z, ?_⟩
 rw [if_neg (fun e => hc17 ?_)]
 have h1 := lH (k := k) (show i < xs.length by omega)
 rw [← e, List.getElem?_eq_getElem (by omega)] at h1
 rw [Int.toNat_natCast, aI (by omega)]; simpa using h1
 try simp only [bg] at hc17
 refine AWP.skip (AWP.region (js O Z ?_))
 first | refine ji O Z ?_ | refine aY O Z Z Z Z Z ?_
 refine js O Z (jn (AWP.region (js O Z ?_)))
 first | refine ji O Z ?_ | refine aY O Z Z Z Z Z ?_
 refine js O Z (jn ?_)
 refine ⟨i + 1, Ent.env ⟨Z, ?_, Z, trivial⟩, ⟨by omega, fun j hj => ?_⟩, by omega⟩
 show some (eI (k + i + 1)) = some (eI (k + (i + 1 : Nat)))
 rw [Int.natCast_add, ← Int.add_assoc]; rfl
 rcases Nat.lt_or_ge j i with h | h
 exact hi.2 j h
 obtain rfl : j = i := by omega
 rw [Int.toNat_natCast, aI (by omega)] at hc17
 rw [List.getElem?_eq_getElem (by omega)]; simpa using hc17
 try simp only [bg] at hc9
 refine AWP.exit (ag (j2 O Z Z (jn (AWP.ret ?_))))
 refine ⟨.inl Z, _, Ent.refl, _, Z, ?_⟩
 obtain rfl : i = xs.length := by omega
 rw [if_pos (List.ext_getElem? fun j => ?_)]
 rcases Nat.lt_or_ge j xs.length with h | h
 rw [lH h]; exact hi.2 j h
 rw [List.getElem?_eq_none (by omega), List.getElem?_eq_none (by rw [aK]; omega)]

theorem qo {k : Int} : MQ h1 h2 38 [.c (.d (bp [])), eI k] [] (Plain (eI k)) := by
 refine av ?_ Z
 refine jB 19 h1 h2 Tryz.func38 Z Z Z fun O hF => ?_
 refine ag (js O Z (jn (AWP.seq (ag (js O Z (jn (AWP.block (az (X := Nat) (fun i => ⟨[(0, .c (.d (bp []))), (1, eI k), (5, eI 0)], []⟩) (fun i => True) (fun i => 0) 0 (Ent.env ⟨Z, Z, Z, trivial⟩) ?_ (fun i hi => ?_)))))))))
 trivial
 refine AWP.seq (ag (j2 O Z Z ?_))
 first | refine cy O Z Z Z Z Z Z Z Z Z Z Z ?_ | refine js O Z ?_ | refine aY O Z Z Z Z Z ?_
 refine js O Z (jn (AWP.cond O Z Z (fun hc9 => ?_) (fun hc9 => ?_)))
 try simp only [bg] at hc9
 exact absurd hc9 (by simp)
 try simp only [bg] at hc9
 refine AWP.exit (ag (j2 O Z Z (jn (AWP.ret ?_))))
 refine ⟨.inl Z, _, Ent.refl, _, Z, ?_⟩
 first | rfl | skip
theorem rO {k : Int} : MQ h1 h2 36 [.c (.d (bX [])), eI k] [] (Plain (eI k)) := by
 refine av ?_ Z
 refine jB 27 h1 h2 Tryz.func36 Z Z Z fun O hF => ?_
 refine ag (js O Z (jn (AWP.seq (ag (js O Z (jn (AWP.block (az (X := Nat) (fun i => ⟨[(0, .c (.d (bX []))), (1, eI k), (5, eI 0)], []⟩) (fun i => True) (fun i => 0) 0 (Ent.env ⟨Z, Z, Z, trivial⟩) ?_ (fun i hi => ?_)))))))))
 trivial
 refine AWP.seq (ag (j2 O Z Z ?_))
 first | refine cy O Z Z Z Z Z Z Z Z Z Z Z ?_ | refine js O Z ?_ | refine aY O Z Z Z Z Z ?_
 refine js O Z (jn (AWP.cond O Z Z (fun hc9 => ?_) (fun hc9 => ?_)))
 try simp only [bg] at hc9
 exact absurd hc9 (by simp)
 try simp only [bg] at hc9
 refine AWP.exit (ag (j2 O Z Z (jn (AWP.ret ?_))))
 refine ⟨.inl Z, _, Ent.refl, _, Z, ?_⟩
 first | rfl | skip
theorem rA {ts : List Tm} {k : Int} (hk0 : 0 ≤ k) (hk1 : k + bf nT ts ≤ 1073741824) : MQ h1 h2 36 [.c (.rs 0 0 ts.length), eI k] [(0, df ts)] (aZ (eI (k + bf nT ts)) [(0, df (aH mT nT k ts))]) := by
 refine jH 27 [0] h1 h2 Tryz.func36 Z Z Z Z fun O hF => ?_
 refine fG 0 Z (fun hB => ?_)
 have hl : ts.length ≤ L := by simpa [B.fact] using hB.1
 refine ag (js O Z (jn (AWP.seq (ag (js O Z (jn (AWP.block (az (X := Nat) (fun i => ⟨[(0, .c (.rs 0 0 ts.length)), (1, eI (k + bf nT (ts.take i))), (5, eI i)], [(0, df (mk mT nT k i ts))]⟩) (fun i => i ≤ ts.length) (fun i => ts.length - i) 0 (Ent.to ⟨Z, by simp [bL, ar, bf], Z, trivial⟩ (by simp [iJ])) ?_ (fun i hi => ?_)))))))))
 exact Nat.zero_le _
 refine AWP.seq (ag (j2 O Z Z ?_))
 first | refine cy O Z Z Z Z Z Z Z Z Z Z Z ?_ | refine js O Z ?_ | refine aY O Z Z Z Z Z ?_
 refine js O Z (jn (AWP.cond O Z Z (fun hc9 => ?_) (fun hc9 => ?_)))
 try simp only [bg] at hc9
 refine AWP.skip (AWP.seq (AWP.block (ag (j3 O Z Z Z ?_))))
 first | refine dR O Z Z Z Z Z Z Z Z Z Z Z ?_ | refine aY O Z Z Z Z Z ?_
 refine js O Z ?_
 have hcs := eQ (sz := nT) (show i < ts.length by omega)
 have hcl := il (sz := nT) (l := ts) (i := i + 1)
 have hg := je (f := mT) (sz := nT) (k := k) (show i < ts.length by omega)
 have hs := gG (f := mT) (sz := nT) (k := k) (show i < ts.length by omega)
 rw [← aI (show i < ts.length by omega)] at hcs hg hs
 obtain ⟨t, ht⟩ : ∃ t, t = ts.getD i default := ⟨_, rfl⟩
 rw [← ht] at hcs hg hs
 simp only [nT] at hcs
 have hgl : i < (mk mT nT k i ts).length := by rw [fA]; omega
 refine AOps.heap (bq (ex := Tm.cells t) (xs' := ((mk mT nT k i ts).set i ⟨k + bf nT (ts.take i), t.xs⟩).map Tm.cells) O Z Z Z Z Z Z Z Z Z Z Z Z Z Z (by simp [hg]) (by rw [List.map_set]; simp)) Z (aP (js O Z ?_))
 first | refine ji O Z ?_ | refine aY O Z Z Z Z Z ?_
 refine js O Z (jn (AWP.region (j2 O Z Z ?_)))
 first | refine dR O Z Z Z Z Z Z Z Z Z Z Z ?_ | refine aY O Z Z Z Z Z ?_
 refine js O Z (aa (bO O (ex := Tm.cells ⟨k + bf nT (ts.take i), t.xs⟩) Z Z Z Z (by simp [hgl]) Z) Z Z Z (js O Z (cM O (l := 0) (j := 1) (z := 1) (ex := Tm.cells ⟨k + bf nT (ts.take i), t.xs⟩) (ys := (t.xs).map (fun n => [D.int .i64 n])) (ys' := (aH mI bW (k + bf nT (ts.take i) + 1) t.xs).map (fun n => [D.int .i64 n])) (xs' := (mk mT nT k (i + 1) ts).map Tm.cells) Z Z Z Z (.rp (.d Z .nil)) (.rp (.d Z .nil)) Z (by simp [hgl]) Z (rB (xs := t.xs) (k := (k + bf nT (ts.take i) + 1)) h1 h2 (by omega) (by omega)).1 (fun _ => by rw [List.length_map]; exact rB (xs := t.xs) h1 h2 (by omega) (by omega)) (fun hys => ?_) Z (by simp [aK]) Z Z Z Z (by rw [← hs]; simp [List.map_set]) ?_)))
 have hy : t.xs = [] := by simpa using hys
 rw [hy]
 exact (qo h1 h2 (k := (k + bf nT (ts.take i) + 1))).plain (by simp [bf, hy])
 refine js O Z (jn (AWP.region (js O Z ?_)))
 first | refine ji O Z ?_ | refine aY O Z Z Z Z Z ?_
 refine js O Z (jn ?_)
 refine ⟨i + 1, Ent.to ⟨Z, ?_, Z, trivial⟩ Z, by omega, by omega⟩
 rw [hcs]
 exact congrArg (fun z => some (eI z)) (by omega)
 try simp only [bg] at hc9
 refine AWP.exit (ag (j2 O Z Z (jn (AWP.ret ?_))))
 refine ⟨.inl Z, _, Ent.refl, _, Z, ?_⟩
 obtain rfl : i = ts.length := by omega
 rw [ko (Nat.le_refl _), List.take_length]
 exact ⟨Z, Z⟩
theorem c64 {ts : List Sm} {k : Int} (hk0 : 0 ≤ k) (hk1 : k + bf nS ts ≤ 1073741824) : MQ h1 h2 37 [.c (.rs 0 0 ts.length), eI k] [(0, fk ts)] (aZ (eI (k + bf nS ts)) [(0, fk (aH mS nS k ts))]) := by
 refine jH 73 [0] h1 h2 Tryz.func37 Z Z Z Z fun O hF => ?_
 refine fG 0 Z (fun hB => ?_)
 have hl : ts.length ≤ L := by simpa [B.fact] using hB.1
 refine ag (js O Z (jn (AWP.seq (ag (js O Z (jn (AWP.block (az (X := Nat) (fun i => ⟨[(0, .c (.rs 0 0 ts.length)), (1, eI (k + bf nS (ts.take i))), (5, eI i)], [(0, fk (mk mS nS k i ts))]⟩) (fun i => i ≤ ts.length) (fun i => ts.length - i) 0 (Ent.to ⟨Z, by simp [bL, ar, bf], Z, trivial⟩ (by simp [iJ])) ?_ (fun i hi => ?_)))))))))
 exact Nat.zero_le _
 refine AWP.seq (ag (j2 O Z Z ?_))
 first | refine cy O Z Z Z Z Z Z Z Z Z Z Z ?_ | refine js O Z ?_ | refine aY O Z Z Z Z Z ?_
 refine js O Z (jf [9,0,1,5] Z (jn (AWP.cond O Z Z (fun hc9 => ?_) (fun hc9 => ?_))))
 try simp only [bg] at hc9
 refine AWP.skip (AWP.seq (AWP.block (ag (j3 O Z Z Z ?_))))
 first | refine dR O Z Z Z Z Z Z Z Z Z Z Z ?_ | refine aY O Z Z Z Z Z ?_
 refine js O Z (jf [16,14,9,0,1,5] Z ?_)
 obtain ⟨K, hK⟩ : ∃ K, K = k + (bf nS (ts.take i) : Int) := ⟨_, rfl⟩
 rw [← hK]
 have hcs := eQ (sz := nS) (show i < ts.length by omega)
 have hcl := il (sz := nS) (l := ts) (i := i + 1)
 have hg := je (f := mS) (sz := nS) (k := k) (show i < ts.length by omega)
 have hs := gG (f := mS) (sz := nS) (k := k) (show i < ts.length by omega)
 rw [← aI (show i < ts.length by omega)] at hcs hg hs
 obtain ⟨t, ht⟩ : ∃ t, t = ts.getD i default := ⟨_, rfl⟩
 rw [← ht] at hcs hg hs
 rw [← hK] at hs
 simp only [nS] at hcs
 have hb : K + (5 + t.sum.xs.length + t.index.xs.length + bf nT t.facts : Nat) ≤ 1073741824 := by omega
 obtain ⟨R, hR⟩ : ∃ R, R = (mk mS nS k i ts).map Sm.cells := ⟨_, rfl⟩
 have hRl : i < R.length := by rw [hR, List.length_map, fA]; omega
 have hRi : R[i]? = some t.cells := by rw [hR, List.getElem?_map, hg]; rfl
 have hRn : R.set i (mS K t).cells = (mk mS nS k (i + 1) ts).map Sm.cells := by rw [hR, ← hs, List.map_set]
 have e0 : fk (mk mS nS k i ts) = .row true 8 (R.set i t.cells) := by rw [gQ hRi, hR]
 rw [e0]
 refine AOps.heap (bq (ex := [.int .i64 (t.kind), .int .i64 (t.var), .int .i64 (t.event), .int .i64 (t.sum.c), bp (t.sum.xs), .int .i64 (t.index.c), bp (t.index.xs), bX (t.facts)]) (xs' := R.set i [.int .i64 (K), .int .i64 (t.var), .int .i64 (t.event), .int .i64 (t.sum.c), bp (t.sum.xs), .int .i64 (t.index.c), bp (t.index.xs), bX (t.facts)]) O Z Z Z Z Z Z Z Z Z Z Z Z Z Z (by simp [hRl]) (by simp)) Z (aq ?_)
 refine jf [9,0,1,5] Z (aP (js O Z ?_))
 first | refine ji O Z ?_ | refine aY O Z Z Z Z Z ?_
 refine js O Z (jf [1,9,0,5] Z (aP (j3 O Z Z Z ?_)))
 first | refine dR O Z Z Z Z Z Z Z Z Z Z Z ?_ | refine aY O Z Z Z Z Z ?_
 refine js O Z (jf [23,21,1,9,0,5] Z (AOps.heap (bq (ex := [.int .i64 (K), .int .i64 (t.var), .int .i64 (t.event), .int .i64 (t.sum.c), bp (t.sum.xs), .int .i64 (t.index.c), bp (t.index.xs), bX (t.facts)]) (xs' := R.set i [.int .i64 (K), .int .i64 (K + 1), .int .i64 (t.event), .int .i64 (t.sum.c), bp (t.sum.xs), .int .i64 (t.index.c), bp (t.index.xs), bX (t.facts)]) O Z Z Z Z Z Z Z Z Z Z Z Z Z Z (by simp [hRl]) (by simp)) Z (aq ?_)))
 refine jf [1,9,0,5] Z (aP (js O Z ?_))
 first | refine ji O Z ?_ | refine aY O Z Z Z Z Z ?_
 refine js O Z (jf [1,9,0,5] Z (aP (j3 O Z Z Z ?_)))
 first | refine dR O Z Z Z Z Z Z Z Z Z Z Z ?_ | refine aY O Z Z Z Z Z ?_
 refine js O Z (jf [30,28,1,9,0,5] Z (AOps.heap (bq (ex := [.int .i64 (K), .int .i64 (K + 1), .int .i64 (t.event), .int .i64 (t.sum.c), bp (t.sum.xs), .int .i64 (t.index.c), bp (t.index.xs), bX (t.facts)]) (xs' := R.set i [.int .i64 (K), .int .i64 (K + 1), .int .i64 (K + 1 + 1), .int .i64 (t.sum.c), bp (t.sum.xs), .int .i64 (t.index.c), bp (t.index.xs), bX (t.facts)]) O Z Z Z Z Z Z Z Z Z Z Z Z Z Z (by simp [hRl]) (by simp)) Z (aq ?_)))
 refine jf [1,9,0,5] Z (aP (js O Z ?_))
 first | refine ji O Z ?_ | refine aY O Z Z Z Z Z ?_
 refine js O Z (jf [1,9,0,5] Z (aP (j3 O Z Z Z ?_)))
 first | refine dR O Z Z Z Z Z Z Z Z Z Z Z ?_ | refine aY O Z Z Z Z Z ?_
 refine j2 O Z Z (jf [38,35,1,9,0,5] Z (AOps.heap (bq (ex := [.int .i64 (K), .int .i64 (K + 1), .int .i64 (K + 1 + 1), .int .i64 (t.sum.c), bp (t.sum.xs), .int .i64 (t.index.c), bp (t.index.xs), bX (t.facts)]) (xs' := R.set i [.int .i64 (K), .int .i64 (K + 1), .int .i64 (K + 1 + 1), .int .i64 (K + 1 + 1 + 1), bp (t.sum.xs), .int .i64 (t.index.c), bp (t.index.xs), bX (t.facts)]) O Z Z Z Z Z Z Z Z Z Z Z Z Z Z (by simp [hRl]) (by simp)) Z (aq ?_)))
 refine jf [1,9,0,5] Z (aP (js O Z ?_))
 first | refine ji O Z ?_ | refine aY O Z Z Z Z Z ?_
 refine js O Z (jf [1,9,0,5] Z (aP (j2 O Z Z ?_)))
 first | refine dR O Z Z Z Z Z Z Z Z Z Z Z ?_ | refine aY O Z Z Z Z Z ?_
 refine j2 O Z Z (aa (bO O (ex := [.int .i64 (K), .int .i64 (K + 1), .int .i64 (K + 1 + 1), .int .i64 (K + 1 + 1 + 1), bp (t.sum.xs), .int .i64 (t.index.c), bp (t.index.xs), bX (t.facts)]) Z Z Z Z (by simp [hRl]) Z) Z Z Z (js O Z (jf [47,46,1,9,0,5] Z (cM O (l := 0) (j := 4) (z := 1) (ex := [.int .i64 (K), .int .i64 (K + 1), .int .i64 (K + 1 + 1), .int .i64 (K + 1 + 1 + 1), bp (t.sum.xs), .int .i64 (t.index.c), bp (t.index.xs), bX (t.facts)]) (ys := (t.sum.xs).map (fun n => [D.int .i64 n])) (ys' := (aH mI bW (K + 1 + 1 + 1 + 1) t.sum.xs).map (fun n => [D.int .i64 n])) (xs' := R.set i [.int .i64 (K), .int .i64 (K + 1), .int .i64 (K + 1 + 1), .int .i64 (K + 1 + 1 + 1), bp (aH mI bW (K + 1 + 1 + 1 + 1) t.sum.xs), .int .i64 (t.index.c), bp (t.index.xs), bX (t.facts)]) Z Z Z Z (.rp (.d Z .nil)) (.rp (.d Z .nil)) Z (by simp [hRl]) Z (rB (xs := t.sum.xs) (k := (K + 1 + 1 + 1 + 1)) h1 h2 (by omega) (by omega)).1 (fun _ => by rw [List.length_map]; exact rB (xs := t.sum.xs) h1 h2 (by omega) (by omega)) (fun hys => ?_) Z (by simp [aK]) Z Z Z Z (by simp) ?_))))
 have hy : t.sum.xs = [] := by simpa using hys
 rw [hy]
 exact (qo h1 h2 (k := (K + 1 + 1 + 1 + 1))).plain (by simp [bf, hy])
 refine aq ?_
 refine js O Z (jf [1,9,0,5] Z (aP (j3 O Z Z Z ?_)))
 first | refine dR O Z Z Z Z Z Z Z Z Z Z Z ?_ | refine aY O Z Z Z Z Z ?_
 refine j2 O Z Z (jf [54,51,1,9,0,5] Z (AOps.heap (bq (ex := [.int .i64 (K), .int .i64 (K + 1), .int .i64 (K + 1 + 1), .int .i64 (K + 1 + 1 + 1), bp (aH mI bW (K + 1 + 1 + 1 + 1) t.sum.xs), .int .i64 (t.index.c), bp (t.index.xs), bX (t.facts)]) (xs' := R.set i [.int .i64 (K), .int .i64 (K + 1), .int .i64 (K + 1 + 1), .int .i64 (K + 1 + 1 + 1), bp (aH mI bW (K + 1 + 1 + 1 + 1) t.sum.xs), .int .i64 (K + 1 + 1 + 1 + 1 + t.sum.xs.length), bp (t.index.xs), bX (t.facts)]) O Z Z Z Z Z Z Z Z Z Z Z Z Z Z (by simp [hRl]) (by simp)) Z (aq ?_)))
 refine jf [1,9,0,5] Z (aP (js O Z ?_))
 first | refine ji O Z ?_ | refine aY O Z Z Z Z Z ?_
 refine js O Z (jf [1,9,0,5] Z (aP (j2 O Z Z ?_)))
 first | refine dR O Z Z Z Z Z Z Z Z Z Z Z ?_ | refine aY O Z Z Z Z Z ?_
 refine j2 O Z Z (aa (bO O (ex := [.int .i64 (K), .int .i64 (K + 1), .int .i64 (K + 1 + 1), .int .i64 (K + 1 + 1 + 1), bp (aH mI bW (K + 1 + 1 + 1 + 1) t.sum.xs), .int .i64 (K + 1 + 1 + 1 + 1 + t.sum.xs.length), bp (t.index.xs), bX (t.facts)]) Z Z Z Z (by simp [hRl]) Z) Z Z Z (js O Z (jf [63,62,1,9,0,5] Z (cM O (l := 0) (j := 6) (z := 1) (ex := [.int .i64 (K), .int .i64 (K + 1), .int .i64 (K + 1 + 1), .int .i64 (K + 1 + 1 + 1), bp (aH mI bW (K + 1 + 1 + 1 + 1) t.sum.xs), .int .i64 (K + 1 + 1 + 1 + 1 + t.sum.xs.length), bp (t.index.xs), bX (t.facts)]) (ys := (t.index.xs).map (fun n => [D.int .i64 n])) (ys' := (aH mI bW (K + 1 + 1 + 1 + 1 + t.sum.xs.length + 1) t.index.xs).map (fun n => [D.int .i64 n])) (xs' := R.set i [.int .i64 (K), .int .i64 (K + 1), .int .i64 (K + 1 + 1), .int .i64 (K + 1 + 1 + 1), bp (aH mI bW (K + 1 + 1 + 1 + 1) t.sum.xs), .int .i64 (K + 1 + 1 + 1 + 1 + t.sum.xs.length), bp (aH mI bW (K + 1 + 1 + 1 + 1 + t.sum.xs.length + 1) t.index.xs), bX (t.facts)]) Z Z Z Z (.rp (.d Z .nil)) (.rp (.d Z .nil)) Z (by simp [hRl]) Z (rB (xs := t.index.xs) (k := (K + 1 + 1 + 1 + 1 + t.sum.xs.length + 1)) h1 h2 (by omega) (by omega)).1 (fun _ => by rw [List.length_map]; exact rB (xs := t.index.xs) h1 h2 (by omega) (by omega)) (fun hys => ?_) Z (by simp [aK]) Z Z Z Z (by simp) ?_))))
 have hy : t.index.xs = [] := by simpa using hys
 rw [hy]
 exact (qo h1 h2 (k := (K + 1 + 1 + 1 + 1 + t.sum.xs.length + 1))).plain (by simp [bf, hy])
 refine aq ?_
 refine js O Z (jf [1,9,0,5] Z (jn (AWP.region (j2 O Z Z ?_))))
 first | refine dR O Z Z Z Z Z Z Z Z Z Z Z ?_ | refine aY O Z Z Z Z Z ?_
 refine js O Z (aa (bO O (ex := [.int .i64 (K), .int .i64 (K + 1), .int .i64 (K + 1 + 1), .int .i64 (K + 1 + 1 + 1), bp (aH mI bW (K + 1 + 1 + 1 + 1) t.sum.xs), .int .i64 (K + 1 + 1 + 1 + 1 + t.sum.xs.length), bp (aH mI bW (K + 1 + 1 + 1 + 1 + t.sum.xs.length + 1) t.index.xs), bX (t.facts)]) Z Z Z Z (by simp [hRl]) Z) Z Z Z (js O Z (jf [70,69,1,9,0,5] Z (cM O (l := 0) (j := 7) (z := 2) (ex := [.int .i64 (K), .int .i64 (K + 1), .int .i64 (K + 1 + 1), .int .i64 (K + 1 + 1 + 1), bp (aH mI bW (K + 1 + 1 + 1 + 1) t.sum.xs), .int .i64 (K + 1 + 1 + 1 + 1 + t.sum.xs.length), bp (aH mI bW (K + 1 + 1 + 1 + 1 + t.sum.xs.length + 1) t.index.xs), bX (t.facts)]) (ys := (t.facts).map Tm.cells) (ys' := (aH mT nT (K + 1 + 1 + 1 + 1 + t.sum.xs.length + 1 + t.index.xs.length) t.facts).map Tm.cells) (xs' := R.set i [.int .i64 (K), .int .i64 (K + 1), .int .i64 (K + 1 + 1), .int .i64 (K + 1 + 1 + 1), bp (aH mI bW (K + 1 + 1 + 1 + 1) t.sum.xs), .int .i64 (K + 1 + 1 + 1 + 1 + t.sum.xs.length), bp (aH mI bW (K + 1 + 1 + 1 + 1 + t.sum.xs.length + 1) t.index.xs), bX (aH mT nT (K + 1 + 1 + 1 + 1 + t.sum.xs.length + 1 + t.index.xs.length) t.facts)]) Z Z Z Z (.rp (.d Z .nil)) (.rp (.d Z .nil)) Z (by simp [hRl]) Z (rA (ts := t.facts) (k := (K + 1 + 1 + 1 + 1 + t.sum.xs.length + 1 + t.index.xs.length)) h1 h2 (by omega) (by omega)).1 (fun _ => by rw [List.length_map]; exact rA (ts := t.facts) h1 h2 (by omega) (by omega)) (fun hys => ?_) Z (by simp [aK]) Z Z Z Z (by simp) ?_))))
 have hy : t.facts = [] := by simpa using hys
 rw [hy]
 exact (rO h1 h2 (k := (K + 1 + 1 + 1 + 1 + t.sum.xs.length + 1 + t.index.xs.length))).plain (by simp [bf, hy])
 refine aq ?_
 refine js O Z (jf [1,9,0,5] Z (jn (AWP.region (js O Z ?_))))
 first | refine ji O Z ?_ | refine aY O Z Z Z Z Z ?_
 refine js O Z (jf [5,1,9,0] Z (jn ?_))
 refine ⟨i + 1, Ent.to ⟨Z, ?_, Z, trivial⟩ (by rw [fk, ← hRn]), by omega, by omega⟩
 rw [hcs]
 exact congrArg (fun z => some (eI z)) (by omega)
 try simp only [bg] at hc9
 refine AWP.exit (ag (j2 O Z Z (jn (AWP.ret ?_))))
 refine ⟨.inl Z, _, Ent.refl, _, Z, ?_⟩
 obtain rfl : i = ts.length := by omega
 rw [ko (Nat.le_refl _), List.take_length]
 exact ⟨Z, Z⟩
theorem sf {p : Pm} {k : Int} (hk0 : 0 ≤ k) (hk1 : k + bf nT p.pre + bf nS p.body + bf nT p.post ≤ 1073741824) : MQ h1 h2 13 [.agg [.rs 0 0 p.pre.length, .rs 1 0 p.body.length, .rs 2 0 p.post.length], eI k] [(0, df p.pre), (1, fk p.body), (2, df p.post)] (aZ (eI (k + bf nT p.pre + bf nS p.body + bf nT p.post)) [(0, df (aH mT nT k p.pre)), (1, fk (aH mS nS (k + bf nT p.pre) p.body)), (2, df (aH mT nT (k + bf nT p.pre + bf nS p.body) p.post))]) := by
 refine aF 500 Z (jH 18 [500,501,502] h1 h2 Tryz.func13 Z Z Z Z fun O hF => ?_)
 refine ag (jx O Z Z Z Z Z Z Z Z (js O Z (aP (j3 O Z Z Z (jf [7,6,4,2,0,1] Z (ap O [500] (bin := [df p.pre]) Z Z Z Z (rA (ts := p.pre) (k := k) h1 h2 hk0 (by omega)) Z Z Z Z Z Z (B0 := 9000) Z Z (aq ?_)))))))
 refine js O Z (jf [1,4,2,0] Z (aP (j3 O Z Z Z (jf [11,10,1,4,2,0] Z (ap O [501] (bin := [fk p.body]) Z Z Z Z (c64 (ts := p.body) (k := k + bf nT p.pre) h1 h2 (by omega) (by omega)) Z Z Z Z Z Z (B0 := 13000) Z Z (aq ?_))))))
 refine js O Z (jf [1,4,2,0] Z (aP (j3 O Z Z Z (jf [15,14,1,4,2,0] Z (ap O [502] (bin := [df p.post]) Z Z Z Z (rA (ts := p.post) (k := k + bf nT p.pre + bf nS p.body) h1 h2 (by omega) (by omega)) Z Z Z Z Z Z (B0 := 17000) Z Z (aq ?_))))))
 refine js O Z (jf [1,4,2,0] Z (aP (j2 O Z Z (jn (AWP.ret ?_)))))
 refine ⟨.inl Z, _, aT [500,501,502] Z Z (e' := [(4, eI (k + bf nT p.pre + bf nS p.body + bf nT p.post))]) ⟨Z, trivial⟩ Z, _, Z, Z, Z⟩
end Go.Al
