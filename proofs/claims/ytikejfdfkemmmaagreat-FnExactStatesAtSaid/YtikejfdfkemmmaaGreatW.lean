/- What the laws of paths of code share. -/
import Derived.Test.YtikejfdfkemmmaaGreatJ
import Derived.Test.YtikejfdfkemmmaaGreatH
set_option linter.unusedVariables false
set_option linter.unusedSimpArgs false
set_option maxRecDepth 10000
set_option maxHeartbeats 4000000
open Go.Proofs
namespace Go.Al
deriving instance Inhabited, DecidableEq for Pth
theorem rf (ps : List Pt) : bC nP ps = szs Pt.size ps := by
 induction ps with
 | nil => rfl
 | cons p r ih =>
  have := jg p.fs
  have e : nP p = 1 + bC nT p.fs := rfl
  simp only [bC, szs, List.map_cons, List.sum_cons, jI, Pt.size] at *
  omega
theorem te (c : List In) : bC iz c = 2 * c.length := by
 induction c with
 | nil => rfl
 | cons x r ih =>
  rw [show bC iz (x :: r) = 2 + bC iz r by simp [bC], ih, jI]; omega
theorem tP {L S : Nat} {c : List In} (h : D.fact L (jS c)) (hl : c.length ≤ S) : D.fact S (jS c) := by
 simp only [D.fact, bt, c8] at h ⊢
 refine ⟨hl, fun x hx => ?_⟩
 have := h.2 x hx
 exact ⟨this.1, this.2.1, trivial⟩
theorem tO {L S : Nat} {ps : List Pt} (h : D.fact L (gc ps)) (hl : szs Pt.size ps ≤ S) : D.fact S (gc ps) := by
 unfold szs at hl
 simp only [D.fact, bt, c8] at h ⊢
 refine ⟨by omega, fun p hp => ?_⟩
 have h1 := h.2 p hp
 have h2 := kP Pt.size hp
 exact ⟨h1.1, lF h1.2.1 (by show p.size ≤ S; omega), trivial⟩
theorem nq {L S : Nat} {a : An} (h : A.fact L (aAn a)) (hl : a.size ≤ S) : A.fact S (aAn a) := by
 unfold An.size at hl
 exact ⟨lF h.1 (by omega), lF h.2.1 (by omega), tP h.2.2.1 (by omega), tO h.2.2.2.1 (by omega), trivial⟩
theorem zV {a : An} (hz1' : 0 ≤ bO 1048576 a.size) : 1 + bC nT a.pre + bC nT a.post + bC iz a.code + bC nP a.pts ≤ (1073741824 : Int) ∧ a.size ≤ 1073741824 := by
 have g1 := iL hz1' (by decide)
 have k1 := jg a.pre
 have k2 := jg a.post
 have k3 := te a.code
 have k4 := rf a.pts
 have e1 : a.size = szs Tm.size a.pre + szs Tm.size a.post + a.code.length + szs Pt.size a.pts := rfl
 omega
end Go.Al
/- What the laws of annotated code share: the types of their arguments. -/
namespace Go.Proofs.YtikejfdfkemmmaaGreat
open Go.ChangeShapes Go.WideShapes Go.ChangeAt Go.RowKit Go.Al
abbrev sg : List Ty := [.int .i64, .int .i64]
abbrev xR : List Ty := [.int .i64, .slc t6]
abbrev Bw : List Ty := [.slc t6, .slc t6, .slc sg, .slc xR]
theorem y2 : TyOf Tryz.prog 145 sg := .struct Tryz.underlying145 (show FieldsAre Tryz.prog _ (rq ++ (rq ++ [])) 0 from .cons rfl (by kernel_rfl) xU (.cons rfl (by kernel_rfl) xU .nil)) (by kernel_rfl)
theorem AU : TyOf Tryz.prog 23 [.slc sg] := .slc Tryz.underlying23 y2 (by kernel_rfl) (by decide)
theorem y3 : TyOf Tryz.prog 125 xR := .struct Tryz.underlying125 (show FieldsAre Tryz.prog _ (rq ++ ([.slc t6] ++ [])) 0 from .cons rfl (by kernel_rfl) xU (.cons rfl (by kernel_rfl) wl .nil)) (by kernel_rfl)
theorem AT : TyOf Tryz.prog 24 [.slc xR] := .slc Tryz.underlying24 y3 (by kernel_rfl) (by decide)
theorem of50 : TyOf Tryz.prog 26 Bw := .struct Tryz.underlying26 (show FieldsAre Tryz.prog _ ([.slc t6] ++ ([.slc t6] ++ ([.slc sg] ++ ([.slc xR] ++ [])))) 0 from
  .cons Z (by kernel_rfl) wl (.cons Z (by kernel_rfl) wl (.cons Z (by kernel_rfl) AU (.cons Z (by kernel_rfl) AT .nil)))) (by kernel_rfl)
theorem pV {e : List D} (h : FitsL sg e) : ∃ x : In, e = x.cells := by
 cases h with
 | cons a1 h =>
  cases h with
  | cons a2 h =>
   cases h
   obtain ⟨n1, rfl⟩ := gv a1
   obtain ⟨n2, rfl⟩ := gv a2
   exact ⟨⟨n1, n2⟩, Z⟩
theorem pU {e : List D} (h : FitsL xR e) : ∃ p : Pt, e = p.cells := by
 cases h with
 | cons a1 h =>
  cases h with
  | cons a2 h =>
   cases h
   obtain ⟨n1, rfl⟩ := gv a1
   obtain ⟨x2, rfl⟩ := iQ a2
   exact ⟨⟨n1, x2⟩, Z⟩
theorem fits_an {e : List D} (h : FitsL Bw e) : ∃ a : An, e = a.data := by
 cases h with
 | cons a1 h =>
  cases h with
  | cons a2 h =>
   cases h with
   | cons a3 h =>
    cases h with
    | cons a4 h =>
     cases h
     obtain ⟨x1, rfl⟩ := iQ a1
     obtain ⟨x2, rfl⟩ := iQ a2
     cases a3 with
     | slc a3 =>
      cases a4 with
      | slc a4 =>
       obtain ⟨x3, rfl⟩ := fq (g := In.cells) (fun e he => pV he) a3
       obtain ⟨x4, rfl⟩ := fq (g := Pt.cells) (fun e he => pU he) a4
       exact ⟨⟨x1, x2, x3, x4⟩, Z⟩
end Go.Proofs.YtikejfdfkemmmaaGreat
