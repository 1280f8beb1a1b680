/- Annotated code: its functions and what is reached. -/
import Derived.Test.YtikejfdfkemmmaaGreatH
import Derived.Test.YtikejfdfkemmmaaGreatC
import Derived.Test.YtikejfdfkemmmaaGreatE
set_option linter.unusedVariables false
set_option linter.unusedSimpArgs false
set_option maxRecDepth 10000
set_option maxHeartbeats 4000000
open Go.Proofs
namespace Go.Al
variable {L : Nat} (h1 : 4096 ≤ L) (h2 : L ≤ 1073741824)
structure In where
  op : Int
  a : Int
  deriving Inhabited, DecidableEq
abbrev In.cells (x : In) : List D := [.int .i64 x.op, .int .i64 x.a]
abbrev i8 (c : List In) : D := .slc 2 (c.map In.cells)
abbrev i9 (c : List In) : A := .c (.d (i8 c))
abbrev gV (c : List In) : B := .row true 2 (c.map In.cells)
structure Pt where
  k : Int
  fs : List Tm
  deriving Inhabited, DecidableEq
abbrev Pt.cells (p : Pt) : List D := [.int .i64 p.k, em p.fs]
abbrev fR (ps : List Pt) : D := .slc 2 (ps.map Pt.cells)
abbrev sO (ps : List Pt) : A := .c (.d (fR ps))
abbrev gU (ps : List Pt) : B := .row true 2 (ps.map Pt.cells)
def Pt.size (p : Pt) : Nat := szs Tm.size p.fs
structure An where
  pre : List Tm
  post : List Tm
  code : List In
  pts : List Pt
  deriving Inhabited, DecidableEq
abbrev An.data (a : An) : List D := [em a.pre, em a.post, i8 a.code, fR a.pts]
abbrev aAn (a : An) : A := .agg (a.data.map .d)
def An.size (a : An) : Nat := szs Tm.size a.pre + szs Tm.size a.post + a.code.length + szs Pt.size a.pts
abbrev sD : Int → In → In := fun k _ => ⟨k, k + 1⟩
abbrev gI : In → Nat := fun _ => 2
abbrev mP : Int → Pt → Pt := fun k p => ⟨k, bf mT nT (k + 1) p.fs⟩
abbrev nP : Pt → Nat := fun p => 1 + bq nT p.fs
def aT (x : In) : Bool :=
  if x.op = 0 ∨ x.op = 4 then num x.a else if x.op = 1 ∨ x.op = 2 then dp 0 3 x.a else if x.op = 5 ∨ x.op = 6 then dp 0 79 x.a else if x.op = 9 then dp 0 3 x.a
  else if x.op = 3 ∨ x.op = 7 ∨ x.op = 8 ∨ x.op = 10 ∨ x.op = 11 then decide (x.a = 0) else false
def eb (c : List In) : Bool := c.all aT && dp 1 80 c.length
def pN (n : Nat) (ps : List Pt) (i : Nat) : Bool := dp 0 ((n : Int) - 1) (ps.getD i default).k && bW (ps.getD i default).fs 6 && !(decide (0 < i) && decide ((ps.getD i default).k ≤ (ps.getD (i - 1) default).k))
def qD (n : Nat) (ps : List Pt) : Bool := (List.range ps.length).all (pN n ps)
def cy (a : An) : Bool := eb a.code && (bW a.pre 6 && (bW a.post 6 && (decide (a.pts.length ≤ 8) && qD a.code.length a.pts)))
theorem pq {n : Nat} {ps : List Pt} (h : ∀ j, j < ps.length → pN n ps j = true) : qD n ps = true := List.all_eq_true.2 fun j hj => h j (List.mem_range.1 hj)
theorem mX {n : Nat} {ps : List Pt} (j : Nat) (hj : j < ps.length) (h : pN n ps j = false) : qD n ps = false := by
 cases e : qD n ps with
 | false => rfl
 | true => have := List.all_eq_true.1 e j (List.mem_range.2 hj); rw [h] at this; cases this
def qL (x : In) : Bool := decide (x.op = 5) || decide (x.op = 6)
def dq (ps : List Pt) (k : Int) : Bool := ps.any fun p => decide (p.k = k)
def w9 (c : List In) (k : Int) : Bool := c.any fun x => qL x && decide (x.a = k)
def plB (c : List In) (ps : List Pt) (k : Int) : Bool := w9 c k || dq ps k
def vV (pl : Int → Bool) : Nat → List In → List In
  | _, [] => []
  | k, x :: r => if pl (k : Int) = true then [] else x :: vV pl (k + 1) r
def sgt (c : List In) (ps : List Pt) (k : Nat) : List In := match c.drop k with
  | [] => []
  | x :: r => x :: vV (plB c ps) (k + 1) r
def mG : List Int → List In → Bool
  | [], _ => true
  | _ :: _, [] => false
  | o :: os, x :: s => decide (x.op = o) && mG os s
def rt (x : In) : Bool := decide (x.op = 1) || decide (x.op = 3) || decide (x.op = 7)
def wU (s : List In) : Nat × List In :=
  let x := s.getD 0 default
  let y := s.getD 1 default
  if mG [0,4] s = true ∧ num (x.a * y.a) = true then (2, [⟨0, x.a * y.a⟩])
  else if mG [0,0,3] s = true ∧ num (x.a + y.a) = true then (3, [⟨0, x.a + y.a⟩])
  else if mG [0,1,3] s = true ∧ x.a = 0 then (3, [y])
  else if mG [0,1,4,3] s = true ∧ x.a = 0 then (4, [y, s.getD 2 default])
  else if (rt x = true ∨ x.op = 4) ∧ mG [x.op, 0, 3] s = true ∧ y.a = 0 then (3, [x])
  else if rt x = true ∧ mG [x.op, 4] s = true ∧ y.a = 1 then (2, [x])
  else if mG [4,4] s = true ∧ num (x.a * y.a) = true then (2, [⟨4, x.a * y.a⟩])
  else (0, [])
def yx (k less : Int) (x : In) : In := if qL x = true ∧ k < x.a then ⟨x.op, x.a - less⟩ else x
def sPt (k less : Int) (p : Pt) : Pt := if k < p.k then ⟨p.k - less, p.fs⟩ else p
def yv (a : An) (k n : Nat) (by' : List In) : An :=
  ⟨a.pre, a.post, (a.code.take k ++ by' ++ a.code.drop (k + n)).map (yx k ((n : Int) - by'.length)), a.pts.map (sPt k ((n : Int) - by'.length))⟩
abbrev oL (a : An) (k : Nat) : Nat × List In := wU (sgt a.code a.pts k)
def tO (a : An) : Nat → Nat → Option An
  | 0, _ => none
  | f + 1, k => if 0 < (oL a k).1 then some (yv a k (oL a k).1 (oL a k).2) else tO a f (k + 1)
def xa (a : An) : Option An := tO a a.code.length 0
def tU : Nat → An → An
  | 0, a => a
  | f + 1, a => match xa a with
    | none => a
    | some b => tU f b
def oQ (a : An) : An := tU a.code.length a
structure AOk (a : An) : Prop where
  code : ∀ x ∈ a.code, aT x = true
  pts : ∀ p ∈ a.pts, 0 ≤ p.k ∧ p.k ≤ 79
  len : a.code.length ≤ 80
  np : a.pts.length ≤ 8
  npre : a.pre.length ≤ 6
  npost : a.post.length ≤ 6
theorem cV {ts : List Tm} {n : Nat} (h : bW ts n = true) : ts.length ≤ n := by
 simp only [bW, bA, decide_eq_true_eq] at h; omega
theorem tG {a : An} (h : cy a = true) : AOk a := by
 simp only [cy, eb, dp, bA, decide_eq_true_eq] at h
 obtain ⟨⟨h1, h2, h3⟩, h4, h5, h6, h7⟩ := h
 refine ⟨List.all_eq_true.1 h1, fun p hp => ?_, by omega, h6, cV (n := 6) h4, cV (n := 6) h5⟩
 obtain ⟨i, hi, rfl⟩ := List.getElem_of_mem hp
 have := List.all_eq_true.1 h7 i (List.mem_range.2 hi)
 simp only [pN, dp, bA, decide_eq_true_eq, aw hi] at this
 omega
structure RuOk (s : List In) (r : Nat × List In) : Prop where
  n : r.1 ≤ s.length
  lt : r.2.length < r.1
  one : 1 ≤ r.2.length
  two : r.2.length ≤ 2
  jmp : ∀ x ∈ r.2, qL x = false
  ok : (∀ x ∈ s, aT x = true) → ∀ x ∈ r.2, aT x = true
theorem c65 {L : Nat} (h1 : 4096 ≤ L) (h2 : L ≤ 9223372036854775807) {xs : List In} {left : Int} (hl0 : 0 ≤ left) (hl1 : left ≤ 1048576) : MC Tryz.prog L 39 [i9 xs, eI left] [] (Plain (eI (dN left xs.length))) := by
 refine aB ?_ Z
 have O := kb (nt := 12) h1 h2
 refine MC.body O Tryz.func39 (by kernel_rfl) Z Z (Nat.le_of_ble_eq_true Z) (fun hF => ?_)
 have hl : xs.length ≤ L := by simpa [As.fact, A.fact, M.fact, D.fact, Ds.fact] using hF.1.1
 refine ae (js O Z (aN (j2 O Z Z ?_)))
 first | refine bw O Z ?_ | refine js O Z ?_ | refine bb O Z Z ?_
 first | refine ji O Z ?_ | refine bb O Z Z ?_
 refine js O Z (jn (ag (ae (j2 O Z Z (jn (ab O Z Z (fun hc10 => ?_) (fun hc10 => ?_)))))))
 try simp only [aJ] at hc10
 refine ae (js O Z (jr ?_))
 refine ⟨.inl Z, _, aj, _, Z, ?_⟩
 rw [show dN left xs.length = -1 from if_pos (by omega)]
 try simp only [aJ] at hc10
 refine ah (ae (j2 O Z Z (jr ?_)))
 refine ⟨.inl Z, _, aj, _, Z, ?_⟩
 rw [show dN left xs.length = left - xs.length from if_neg (by omega)]
theorem za {L : Nat} (h1 : 4096 ≤ L) (h2 : L ≤ 9223372036854775807) {t : Pt} {left : Int} (hl0 : 0 ≤ left) (hl1 : left ≤ 1048576) : MC Tryz.prog L 75 [.agg (t.cells.map .d), eI left] [] (Plain (eI (dN left t.size))) := by
 refine aB ?_ Z
 have O := kb (nt := 12) h1 h2
 refine MC.body O Tryz.func75 (by kernel_rfl) Z Z (Nat.le_of_ble_eq_true Z) (fun hF => ?_)
 refine ae (jx O Z (js O Z (aN (j3 O Z Z Z (ac O Z Z Z Z (xZ (ts := t.fs) h1 h2 hl0 hl1) (aa Z) Z Z Z Z Z (B0 := 9000) Z (js O Z (jn (ag (ae (j2 O Z Z (jn (ab O Z Z (fun hc10 => ?_) (fun hc10 => ?_)))))))))))))
 try simp only [aJ] at hc10
 refine ae (js O Z (jr ?_))
 refine ⟨.inl Z, _, aj, _, Z, ?_⟩
 have : dN left t.size = -1 := by unfold dN Pt.size at *; split at hc10 <;> simp_all <;> omega
 rw [this]
 try simp only [aJ] at hc10
 refine ah (ae (j2 O Z Z (jr ?_)))
 refine ⟨.inl Z, _, aj, _, Z, ?_⟩
 rfl
theorem c66 {L : Nat} (h1 : 4096 ≤ L) (h2 : L ≤ 9223372036854775807) {ts : List Pt} {left : Int} (hl0 : 0 ≤ left) (hl1 : left ≤ 1048576) : MC Tryz.prog L 40 [.c (.d (fR ts)), eI left] [] (Plain (eI (dN left (Al.szs Pt.size ts)))) := by
 refine aB ?_ Z
 have O := kb (nt := 27) h1 h2
 refine MC.body O Tryz.func40 (by kernel_rfl) Z Z (Nat.le_of_ble_eq_true Z) (fun hF => ?_)
 have hl : ts.length ≤ L := by simpa [As.fact, A.fact, M.fact, D.fact, Ds.fact] using hF.1.1
 refine ae (js O Z (aN (j2 O Z Z ?_)))
 first | refine bw O Z ?_ | refine js O Z ?_ | refine bb O Z Z ?_
 first | refine ji O Z ?_ | refine bb O Z Z ?_
 refine js O Z (jn (ag (ae (j2 O Z Z (jn (ab O Z Z (fun hc11 => ?_) (fun hc11 => ?_)))))))
 try simp only [aJ] at hc11
 refine ae (js O Z (jr ?_))
 refine ⟨.inl Z, _, aj, _, Z, ?_⟩
 rw [show dN left (Al.szs Pt.size ts) = -1 from if_pos (by unfold Al.szs; omega)]
 try simp only [aJ] at hc11
 refine ah (ag (ae (js O Z (jn (am (au (X := Nat) (fun i => ⟨[(0, .c (.d (fR ts))), (1, eI (left - ts.length - ((ts.take i).map Pt.size).sum)), (5, eI i)], []⟩) (fun i => i ≤ ts.length ∧ (0 : Int) ≤ left - ts.length - ((ts.take i).map Pt.size).sum) (fun i => ts.length - i) 0 (Ent.env ⟨Z, by simp [aA], Z, trivial⟩) ?_ (fun i hi => ?_)))))))
 exact ⟨cC _, by simp; omega⟩
 refine ag (ae (j2 O Z Z ?_))
 first | refine bw O Z ?_ | refine js O Z ?_ | refine bb O Z Z ?_
 refine js O Z (jn (ab O Z Z (fun hc15 => ?_) (fun hc15 => ?_)))
 try simp only [aJ] at hc15
 refine ah (ag (am (ae (j2 O Z Z ?_))))
 first | refine ir O Z Z ?_ | refine bb O Z Z ?_
 refine j2 O Z Z (ac O Z Z Z Z (za h1 h2 hi.2 (by omega)) (aa Z) Z Z Z Z Z (B0 := 24000) Z (js O Z (aN (j2 O Z Z (jn (ab O Z Z (fun hc25 => ?_) (fun hc25 => ?_)))))))
 try simp only [aJ] at hc25
 refine ae (js O Z (jr ?_))
 refine ⟨.inl Z, _, aj, _, Z, ?_⟩
 have e := iO Pt.size ts i (by omega)
 have e3 := ri Pt.size ts (i + 1)
 rw [Int.toNat_natCast] at hc25
 rw [show dN left (Al.szs Pt.size ts) = -1 from if_pos (by unfold dN at hc25; unfold Al.szs; split at hc25 <;> omega)]
 try simp only [aJ] at hc25
 refine ah (ak (js O Z ?_))
 first | refine ji O Z ?_ | refine bb O Z Z ?_
 refine js O Z (jn ?_)
 have e := iO Pt.size ts i (by omega)
 have e2 : dN (left - ts.length - ((ts.take i).map Pt.size).sum) (Pt.size (ts.getD i default)) = left - ts.length - ((ts.take (i + 1)).map Pt.size).sum := by
  unfold dN at hc25 ⊢
  rw [Int.toNat_natCast] at hc25
  split at hc25 <;> omega
 refine ⟨i + 1, Ent.env ⟨Z, ?_, Z, trivial⟩, ⟨by omega, ?_⟩, by omega⟩
 rw [← e2]; rfl
 rw [← e2]; rw [Int.toNat_natCast] at hc25; omega
 try simp only [aJ] at hc15
 refine aU (ae (j2 O Z Z (jr ?_)))
 refine ⟨.inl Z, _, aj, _, Z, ?_⟩
 obtain rfl : i = ts.length := by omega
 have e4 := hi.2
 rw [List.take_length] at e4 ⊢
 rw [show dN left (Al.szs Pt.size ts) = left - ts.length - (ts.map Pt.size).sum from by unfold dN Al.szs; rw [if_neg (by omega)]; omega]
theorem vK {L : Nat} (h1 : 4096 ≤ L) (h2 : L ≤ 9223372036854775807) {a : An} {left : Int} (hl0 : 0 ≤ left) (hl1 : left ≤ 1048576) : MC Tryz.prog L 9 [aAn a, eI left] [] (Plain (eI (dN left a.size))) := by
 refine aB ?_ Z
 have O := kb (nt := 30) h1 h2
 refine MC.body O Tryz.func9 (by kernel_rfl) Z Z (Nat.le_of_ble_eq_true Z) (fun hF => ?_)
 refine ae (jx O Z (js O Z (aN (j3 O Z Z Z (ac O Z Z Z Z (xZ (ts := a.pre) h1 h2 hl0 hl1) (aa Z) Z Z Z Z Z (B0 := 9000) Z (js O Z (jn (ag (ae (j2 O Z Z (jn (ab O Z Z (fun hc10 => ?_) (fun hc10 => ?_)))))))))))))
 try simp only [aJ] at hc10
 refine ae (js O Z (jr ?_))
 refine ⟨.inl Z, _, aj, _, Z, ?_⟩
 unfold An.size
 rw [Nat.add_assoc, Nat.add_assoc, l5 _ hc10]
 try simp only [aJ] at hc10
 refine ah (ae (j3 O Z Z Z ?_))
 have le1 := nG hl0 (szs Tm.size a.pre)
 refine ac O Z Z Z Z (xZ (ts := a.post) h1 h2 hc10 (by omega)) (aa Z) Z Z Z Z Z (B0 := 15000) Z (js O Z (jn (ag (ae (j2 O Z Z (jn (ab O Z Z (fun hc16 => ?_) (fun hc16 => ?_))))))))
 try simp only [aJ] at hc16
 refine ae (js O Z (jr ?_))
 refine ⟨.inl Z, _, aj, _, Z, ?_⟩
 unfold An.size
 rw [gi _ hc10] at hc16
 rw [Nat.add_assoc, l5 _ hc16]
 try simp only [aJ] at hc16
 refine ah (ae (j3 O Z Z Z ?_))
 rw [gi _ hc10] at hc16 ⊢
 have le2 := nG hl0 (szs Tm.size a.pre + szs Tm.size a.post)
 refine ac O Z Z Z Z (c65 (xs := a.code) h1 h2 hc16 (by omega)) (aa Z) Z Z Z Z Z (B0 := 21000) Z (js O Z (jn (ag (ae (j2 O Z Z (jn (ab O Z Z (fun hc22 => ?_) (fun hc22 => ?_))))))))
 try simp only [aJ] at hc22
 refine ae (js O Z (jr ?_))
 refine ⟨.inl Z, _, aj, _, Z, ?_⟩
 unfold An.size
 rw [gi _ hc16] at hc22
 rw [l5 _ hc22]
 try simp only [aJ] at hc22
 refine ah (ae (j3 O Z Z Z ?_))
 rw [gi _ hc16] at hc22 ⊢
 have le3 := nG hl0 (szs Tm.size a.pre + szs Tm.size a.post + a.code.length)
 refine ac O Z Z Z Z (c66 (ts := a.pts) h1 h2 hc22 (by omega)) (aa Z) Z Z Z Z Z (B0 := 27000) Z (js O Z (jn (ag (ae (j2 O Z Z (jn (ab O Z Z (fun hc28 => ?_) (fun hc28 => ?_))))))))
 try simp only [aJ] at hc28
 refine ae (js O Z (jr ?_))
 refine ⟨.inl Z, _, aj, _, Z, ?_⟩
 unfold An.size
 rw [gi _ hc22] at hc28
 unfold dN at hc28 ⊢
 split at hc28
 rw [if_pos (by omega)]
 omega
 try simp only [aJ] at hc28
 refine ah (ae (j2 O Z Z (jr ?_)))
 refine ⟨.inl Z, _, aj, _, Z, ?_⟩
 rw [gi _ hc22]
 rfl
variable {x : In}
theorem y8 : MQ h1 h2 85 [.agg (x.cells.map .d)] [] (Rows (.agg [.d (.int .i64 x.op), .d (.int .i64 x.a)]) []) := by
 refine bm (jB 11 h1 h2 Tryz.func85 Z Z Z fun O hF => ?_)
 refine ae (jx O Z (ap ?_))
 refine jl O Z (ap ?_)
 refine aN (jl O Z (ap ?_))
 refine aN (j3 O Z Z Z (jo O Z (ap ?_)))
 refine aN (j3 O Z Z Z (jo O Z (ap ?_)))
 refine aN (js O Z (jo O Z (ap ?_)))
 refine jr ?_
 refine ⟨.inl Z, _, aj, _, Z, [], by decide, Z, Z, Z⟩
variable {ts : List In}
theorem c69 : MQ h1 h2 47 [.c (.d (i8 ts))] [] (Rows (.c (.rs 0 0 ts.length)) [gV ts]) := by
 refine bm (jB 23 h1 h2 Tryz.func47 Z Z Z fun O hF => ?_)
 have hl : ts.length ≤ L := by simpa [As.fact, A.fact, M.fact, D.fact, Ds.fact] using hF.1.1
 refine ae (js O Z (aN (js O Z ?_)))
 first | refine bw O Z ?_ | refine js O Z ?_ | refine bb O Z Z ?_
 refine AOps.heap (co O Z Z Z Z Z Z Z Z Z (by first | omega | (simp at *; omega)) (by first | omega | (simp at *; omega)) (by first | omega | (simp at *; omega)) (by first | omega | (dsimp only; omega) | (simp only [aJ] at *; omega)) (by first | omega | (simp at *; omega)) Z Z Z) Z (js O Z (jn (ag (ae (js O Z (jn (am (au (X := Nat × List In) (fun x => ⟨[(0, .c (.d (i8 ts))), (3, .c (.rs 7 0 ts.length)), (4, eI x.1)], [(7, gV x.2)]⟩) (fun x => x.1 ≤ ts.length ∧ x.2.length = ts.length ∧ ∀ j, j < x.1 → x.2[j]? = ts[j]?) (fun x => ts.length - x.1) (0, List.replicate ts.length ⟨0, 0⟩) ((Ent.rowLe 7 Z (NLess.replicate (.cons .refl (.cons .refl .nil)))).trans (Ent.to ⟨Z, Z, Z, trivial⟩ (by simp [ins, d9, gV]))) ?_ (fun x hi => ?_)))))))))
 exact ⟨cC _, List.length_replicate, fun j hj => absurd hj (Nat.not_lt_zero j)⟩
 refine ag (ae (j2 O Z Z ?_))
 first | refine bw O Z ?_ | refine js O Z ?_ | refine bb O Z Z ?_
 refine js O Z (jn (ab O Z Z (fun hc11 => ?_) (fun hc11 => ?_)))
 try simp only [aJ] at hc11
 refine ah (ag (am (ak (j4 O Z Z Z Z ?_))))
 first | refine ir O Z Z ?_ | refine bb O Z Z ?_
 refine js O Z (aL O (B0 := 21000) Z Z Z Z (y8 h1 h2) (aa Z) Z Z Z Z Z Z ?_)
 first | refine ir O Z Z ?_ | refine bb O Z Z ?_
 refine AOps.heap (gf (ex := In.cells (x.2.getD x.1 default)) (xs' := (x.2.set x.1 (ts.getD x.1 default)).map In.cells) O Z Z Z Z Z Z Z (.d Z (.d Z .nil)) Z Z Z Z Z Z (by simp [hi.2.1, show x.1 < ts.length by omega]) (by simp [List.map_set])) Z (jn (ak (js O Z ?_)))
 first | refine ji O Z ?_ | refine bb O Z Z ?_
 refine js O Z (jn ?_)
 refine ⟨(x.1 + 1, x.2.set x.1 (ts.getD x.1 default)), Ent.to ⟨Z, Z, Z, trivial⟩ Z, ⟨by omega, by simp [hi.2.1], fun j hj => ?_⟩, by omega⟩
 rw [List.getElem?_set]
 split
 rename_i e; subst e; simp [hi.2.1, show x.1 < ts.length by omega]
 exact hi.2.2 j (by omega)
 try simp only [aJ] at hc11
 refine aU (ae (j2 O Z Z (jr ?_)))
 have e : x.2 = ts := List.ext_getElem? fun j => by
  rcases Nat.lt_or_ge j x.1 with h | h
  ·
   exact hi.2.2 j h
  ·
   rw [List.getElem?_eq_none (by omega), List.getElem?_eq_none (by omega)]
 refine ⟨.inl Z, _, aj, _, Z, [7], by decide, Z, Z, ?_⟩
 rw [← e]; rfl
theorem y7 {p : Pt} : MQ h1 h2 86 [.agg (p.cells.map .d)] [] (Rows (.agg [.d (.int .i64 p.k), .rs 0 0 p.fs.length]) [eu p.fs]) := by
 refine bm (jB 12 h1 h2 Tryz.func86 Z Z Z fun O hF => ?_)
 refine ae (jx O Z (ap ?_))
 refine jl O Z (ap ?_)
 refine aN (jl O Z (ap ?_))
 refine aN (j3 O Z Z Z (jo O Z (ap ?_)))
 refine aN (j2 O Z Z (aL O (B0 := 10000) Z Z Z Z (xY h1 h2) (aa Z) Z Z Z Z Z Z (ap ?_)))
 refine js O Z (jo O Z (ap ?_))
 refine aN (js O Z (jo O Z (ap ?_)))
 refine jr ?_
 refine ⟨.inl Z, _, aj, _, Z, [10000], by decide, Z, Z, Z⟩
theorem c70 {ts : List Pt} : MQ h1 h2 48 [.c (.d (fR ts))] [] (Rows (.c (.rs 0 0 ts.length)) [gU ts]) := by
 refine bm (jB 23 h1 h2 Tryz.func48 Z Z Z fun O hF => ?_)
 have hl : ts.length ≤ L := by simpa [As.fact, A.fact, M.fact, D.fact, Ds.fact] using hF.1.1
 refine ae (js O Z (aN (js O Z ?_)))
 first | refine bw O Z ?_ | refine js O Z ?_ | refine bb O Z Z ?_
 refine AOps.heap (co O Z Z Z Z Z Z Z Z Z (by first | omega | (simp at *; omega)) (by first | omega | (simp at *; omega)) (by first | omega | (simp at *; omega)) (by first | omega | (dsimp only; omega) | (simp only [aJ] at *; omega)) (by first | omega | (simp at *; omega)) Z Z Z) Z (js O Z (jn (ag (ae (js O Z (jn (am (au (X := Nat × List Pt) (fun x => ⟨[(0, .c (.d (fR ts))), (3, .c (.rs 7 0 ts.length)), (4, eI x.1)], [(7, gU x.2)]⟩) (fun x => x.1 ≤ ts.length ∧ x.2.length = ts.length ∧ ∀ j, j < x.1 → x.2[j]? = ts[j]?) (fun x => ts.length - x.1) (0, List.replicate ts.length ⟨0, []⟩) ((Ent.rowLe 7 Z (NLess.replicate (.cons .refl (.cons (.nil (sz := 2)) .nil)))).trans (Ent.to ⟨Z, Z, Z, trivial⟩ (by simp [ins, d9, gU]))) ?_ (fun x hi => ?_)))))))))
 exact ⟨cC _, List.length_replicate, fun j hj => absurd hj (Nat.not_lt_zero j)⟩
 refine ag (ae (j2 O Z Z ?_))
 first | refine bw O Z ?_ | refine js O Z ?_ | refine bb O Z Z ?_
 refine js O Z (jn (ab O Z Z (fun hc11 => ?_) (fun hc11 => ?_)))
 try simp only [aJ] at hc11
 refine ah (ag (am (ak (j4 O Z Z Z Z ?_))))
 first | refine ir O Z Z ?_ | refine bb O Z Z ?_
 refine js O Z (aL O (B0 := 21000) Z Z Z Z (y7 h1 h2) (aa Z) Z Z Z Z Z Z ?_)
 first | refine ir O Z Z ?_ | refine bb O Z Z ?_
 refine AOps.heap (gf (ex := Pt.cells (x.2.getD x.1 default)) (xs' := (x.2.set x.1 (ts.getD x.1 default)).map Pt.cells) O Z Z Z Z Z Z Z (.d Z (.rs Z (by simp) .nil)) Z Z Z Z Z Z (by simp [hi.2.1, show x.1 < ts.length by omega]) (by simp [List.map_set])) Z (jn (ak (js O Z ?_)))
 first | refine ji O Z ?_ | refine bb O Z Z ?_
 refine js O Z (jn ?_)
 refine ⟨(x.1 + 1, x.2.set x.1 (ts.getD x.1 default)), Ent.to ⟨Z, Z, Z, trivial⟩ Z, ⟨by omega, by simp [hi.2.1], fun j hj => ?_⟩, by omega⟩
 rw [List.getElem?_set]
 split
 rename_i e; subst e; simp [hi.2.1, show x.1 < ts.length by omega]
 exact hi.2.2 j (by omega)
 try simp only [aJ] at hc11
 refine aU (ae (j2 O Z Z (jr ?_)))
 have e : x.2 = ts := List.ext_getElem? fun j => by
  rcases Nat.lt_or_ge j x.1 with h | h
  ·
   exact hi.2.2 j h
  ·
   rw [List.getElem?_eq_none (by omega), List.getElem?_eq_none (by omega)]
 refine ⟨.inl Z, _, aj, _, Z, [7], by decide, Z, Z, ?_⟩
 rw [← e]; rfl
variable {a : An}
theorem vU : MQ h1 h2 11 [aAn a] [] (Rows (.agg [.rs 0 0 a.pre.length, .rs 1 0 a.post.length, .rs 2 0 a.code.length, .rs 3 0 a.pts.length]) [eu a.pre, eu a.post, gV a.code, gU a.pts]) := by
 refine bm (jB 21 h1 h2 Tryz.func11 Z Z Z fun O hF => ?_)
 refine ae (jx O Z (ap ?_))
 refine jl O Z (ap ?_)
 refine aN (jl O Z (ap ?_))
 refine aN (j2 O Z Z (aL O (B0 := 7000) Z Z Z Z (xY h1 h2) (aa Z) Z Z Z Z Z Z (ap ?_)))
 refine js O Z (jo O Z (ap ?_))
 refine aN (j2 O Z Z (aL O (B0 := 11000) Z Z Z Z (xY h1 h2) (aa Z) Z Z Z Z Z Z (ap ?_)))
 refine js O Z (jo O Z (ap ?_))
 refine aN (j2 O Z Z (aL O (B0 := 15000) Z Z Z Z (c69 h1 h2) (aa Z) Z Z Z Z Z Z (ap ?_)))
 refine js O Z (jo O Z (ap ?_))
 refine aN (j2 O Z Z (aL O (B0 := 19000) Z Z Z Z (c70 h1 h2) (aa Z) Z Z Z Z Z Z (ap ?_)))
 refine js O Z (jo O Z (ap ?_))
 refine aN (js O Z (jo O Z (ap ?_)))
 refine jr ?_
 refine ⟨.inl Z, _, aj, _, Z, [7000,11000,15000,19000], by decide, Z, Z, Z⟩
theorem jU {L : Nat} (h1 : 4096 ≤ L) (h2 : L ≤ 1073741824) {a : An} : MC Tryz.prog L 11 [aAn a] [] (Plain (aAn a)) := (vU h1 h2).frozen (.v (.agg (.cons (.whole rfl (bJ _).symm) (.cons (.whole rfl (bJ _).symm) (.cons (.whole rfl (bJ _).symm) (.cons (.whole rfl (bJ _).symm) .nil))))))
theorem y6 {s t : In} : MQ h1 h2 94 [.agg (s.cells.map .d), .agg (t.cells.map .d)] [] (Plain (eB (decide (s = t)))) := by
 refine aB ?_ Z
 refine jB 15 h1 h2 Tryz.func94 Z Z Z fun O hF => ?_
 refine ae (jx O Z (jx O Z (js O Z (jn (ag (ae (j4 O Z Z Z Z (js O Z (jn (ab O Z Z (fun hc9 => ?_) (fun hc9 => ?_)))))))))))
 try simp only [aJ] at hc9
 refine ae (js O Z (jr ?_))
 refine ⟨.inl Z, _, aj, _, Z, ?_⟩
 rw [decide_eq_false (fun e => hc9 (by rw [e]))]
 try simp only [aJ] at hc9
 refine ah (ag (ae (j4 O Z Z Z Z (js O Z (jn (ab O Z Z (fun hc14 => ?_) (fun hc14 => ?_)))))))
 try simp only [aJ] at hc14
 refine ae (js O Z (jr ?_))
 refine ⟨.inl Z, _, aj, _, Z, ?_⟩
 rw [decide_eq_false (fun e => hc14 (by rw [e]))]
 try simp only [aJ] at hc14
 refine ah (ae (js O Z (jr ?_)))
 refine ⟨.inl Z, _, aj, _, Z, ?_⟩
 have e : s = t := by cases s; cases t; simp_all
 rw [decide_eq_true e]
theorem c74 {xs ys : List In} : MQ h1 h2 53 [.c (.d (i8 xs)), .c (.d (i8 ys))] [] (Plain (eB (decide (xs = ys)))) := by
 refine aB ?_ Z
 refine jB 27 h1 h2 Tryz.func53 Z Z Z fun O hF => ?_
 have hl : xs.length ≤ L := by simpa [As.fact, A.fact, M.fact, D.fact, Ds.fact] using hF.1.1
 have hl2 : ys.length ≤ L := by simpa [As.fact, A.fact, M.fact, D.fact, Ds.fact] using hF.2.1.1
 refine ae (js O Z (jn (ag (ae (js O Z ?_)))))
 first | refine bw O Z ?_ | refine js O Z ?_ | refine bb O Z Z ?_
 refine js O Z ?_
 first | refine bw O Z ?_ | refine js O Z ?_ | refine bb O Z Z ?_
 refine js O Z (jn (ab O Z Z (fun hc10 => ?_) (fun hc10 => ?_)))
 try simp only [aJ] at hc10
 refine ae (js O Z (jr ?_))
 refine ⟨.inl Z, _, aj, _, Z, ?_⟩
 rw [decide_eq_false (fun e => by subst e; simp at hc10)]
 try simp only [aJ] at hc10
 refine ah (ag (ae (js O Z (jn (am (au (X := Nat) (fun i => ⟨[(0, .c (.d (i8 xs))), (1, .c (.d (i8 ys))), (5, eI i)], []⟩) (fun i => i ≤ xs.length ∧ ∀ j, j < i → xs[j]? = ys[j]?) (fun i => xs.length - i) 0 (Ent.env ⟨Z, Z, Z, trivial⟩) ?_ (fun i hi => ?_)))))))
 exact ⟨cC _, fun j hj => absurd hj (Nat.not_lt_zero j)⟩
 refine ag (ae (j2 O Z Z ?_))
 first | refine bw O Z ?_ | refine js O Z ?_ | refine bb O Z Z ?_
 refine js O Z (jn (ab O Z Z (fun hc14 => ?_) (fun hc14 => ?_)))
 try simp only [aJ] at hc14
 refine ah (ag (am (ag (jS O [_,_,_,_,_,_,_,_,_,_] [pn [] 0 0, pn [] 0 0, pn [0,1] 0 0, pn [0,1,2] 0 0, pn [] 0 0, pn [] 0 0, pn [4,5] 0 0, pn [4,5,6] 0 0, pe (rg 0 8) 0, pn (rg 0 9) 1 1] [8] [_,_] (kc O Z (kc O Z (ai (vD O Z) (kc O Z (kc O Z (kc O Z (ai (vD O Z) (kc O Z (ai (bu O (B0 := 26000) Z Z Z Z (y6 h1 h2) (aa Z) Z Z Z Z Z) (kc O Z trivial)))))))))) ?_))))
 refine ab O Z Z (fun hc26 => ?_) (fun hc26 => ?_)
 try simp only [aJ] at hc26
 refine ae (js O Z (jr ?_))
 refine ⟨.inl Z, _, aj, _, Z, ?_⟩
 rw [decide_eq_false (fun e => by subst e; simp at hc26)]
 try simp only [aJ] at hc26
 refine ah (ak (js O Z ?_))
 first | refine ji O Z ?_ | refine bb O Z Z ?_
 refine js O Z (jn ?_)
 refine ⟨i + 1, Ent.env ⟨Z, Z, Z, trivial⟩, ⟨by omega, fun j hj => ?_⟩, by omega⟩
 rcases Nat.lt_or_ge j i with h | h
 exact hi.2 j h
 obtain rfl : j = i := by omega
 rw [Int.toNat_natCast, aw (by omega), aw (by omega)] at hc26
 rw [List.getElem?_eq_getElem (by omega), List.getElem?_eq_getElem (by omega), hc26]
 try simp only [aJ] at hc14
 refine aU (ae (js O Z (jr ?_)))
 refine ⟨.inl Z, _, aj, _, Z, ?_⟩
 have e : xs = ys := List.ext_getElem? fun j => by
  rcases Nat.lt_or_ge j i with h | h
  ·
   exact hi.2 j h
  ·
   rw [List.getElem?_eq_none (by omega), List.getElem?_eq_none (by omega)]
 rw [decide_eq_true e]
theorem y5 {s t : Pt} : MQ h1 h2 95 [.agg (s.cells.map .d), .agg (t.cells.map .d)] [] (Plain (eB (decide (s = t)))) := by
 refine aB ?_ Z
 refine jB 16 h1 h2 Tryz.func95 Z Z Z fun O hF => ?_
 refine ae (jx O Z (jx O Z (js O Z (jn (ag (ae (j4 O Z Z Z Z (js O Z (jn (ab O Z Z (fun hc9 => ?_) (fun hc9 => ?_)))))))))))
 try simp only [aJ] at hc9
 refine ae (js O Z (jr ?_))
 refine ⟨.inl Z, _, aj, _, Z, ?_⟩
 rw [decide_eq_false (fun e => hc9 (by rw [e]))]
 try simp only [aJ] at hc9
 refine ah (ag (ae (j4 O Z Z Z Z (ac O Z Z Z Z (xI h1 h2) (aa Z) Z Z Z Z Z (B0 := 15000) Z (js O Z (jn (ab O Z Z (fun hc15 => ?_) (fun hc15 => ?_))))))))
 try simp only [aJ] at hc15
 refine ae (js O Z (jr ?_))
 refine ⟨.inl Z, _, aj, _, Z, ?_⟩
 rw [decide_eq_false (fun e => hc15 (by rw [e]))]
 try simp only [aJ] at hc15
 refine ah (ae (js O Z (jr ?_)))
 refine ⟨.inl Z, _, aj, _, Z, ?_⟩
 have e : s = t := by cases s; cases t; simp_all
 rw [decide_eq_true e]
theorem c75 {xs ys : List Pt} : MQ h1 h2 54 [.c (.d (fR xs)), .c (.d (fR ys))] [] (Plain (eB (decide (xs = ys)))) := by
 refine aB ?_ Z
 refine jB 27 h1 h2 Tryz.func54 Z Z Z fun O hF => ?_
 have hl : xs.length ≤ L := by simpa [As.fact, A.fact, M.fact, D.fact, Ds.fact] using hF.1.1
 have hl2 : ys.length ≤ L := by simpa [As.fact, A.fact, M.fact, D.fact, Ds.fact] using hF.2.1.1
 refine ae (js O Z (jn (ag (ae (js O Z ?_)))))
 first | refine bw O Z ?_ | refine js O Z ?_ | refine bb O Z Z ?_
 refine js O Z ?_
 first | refine bw O Z ?_ | refine js O Z ?_ | refine bb O Z Z ?_
 refine js O Z (jn (ab O Z Z (fun hc10 => ?_) (fun hc10 => ?_)))
 try simp only [aJ] at hc10
 refine ae (js O Z (jr ?_))
 refine ⟨.inl Z, _, aj, _, Z, ?_⟩
 rw [decide_eq_false (fun e => by subst e; simp at hc10)]
 try simp only [aJ] at hc10
 refine ah (ag (ae (js O Z (jn (am (au (X := Nat) (fun i => ⟨[(0, .c (.d (fR xs))), (1, .c (.d (fR ys))), (5, eI i)], []⟩) (fun i => i ≤ xs.length ∧ ∀ j, j < i → xs[j]? = ys[j]?) (fun i => xs.length - i) 0 (Ent.env ⟨Z, Z, Z, trivial⟩) ?_ (fun i hi => ?_)))))))
 exact ⟨cC _, fun j hj => absurd hj (Nat.not_lt_zero j)⟩
 refine ag (ae (j2 O Z Z ?_))
 first | refine bw O Z ?_ | refine js O Z ?_ | refine bb O Z Z ?_
 refine js O Z (jn (ab O Z Z (fun hc14 => ?_) (fun hc14 => ?_)))
 try simp only [aJ] at hc14
 refine ah (ag (am (ag (jS O [_,_,_,_,_,_,_,_,_,_] [pn [] 0 0, pn [] 0 0, pn [0,1] 0 0, pn [0,1,2] 0 0, pn [] 0 0, pn [] 0 0, pn [4,5] 0 0, pn [4,5,6] 0 0, pe (rg 0 8) 0, pn (rg 0 9) 1 1] [8] [_,_] (kc O Z (kc O Z (ai (vD O Z) (kc O Z (kc O Z (kc O Z (ai (vD O Z) (kc O Z (ai (bu O (B0 := 26000) Z Z Z Z (y5 h1 h2) (aa Z) Z Z Z Z Z) (kc O Z trivial)))))))))) ?_))))
 refine ab O Z Z (fun hc26 => ?_) (fun hc26 => ?_)
 try simp only [aJ] at hc26
 refine ae (js O Z (jr ?_))
 refine ⟨.inl Z, _, aj, _, Z, ?_⟩
 rw [decide_eq_false (fun e => by subst e; simp at hc26)]
 try simp only [aJ] at hc26
 refine ah (ak (js O Z ?_))
 first | refine ji O Z ?_ | refine bb O Z Z ?_
 refine js O Z (jn ?_)
 refine ⟨i + 1, Ent.env ⟨Z, Z, Z, trivial⟩, ⟨by omega, fun j hj => ?_⟩, by omega⟩
 rcases Nat.lt_or_ge j i with h | h
 exact hi.2 j h
 obtain rfl : j = i := by omega
 rw [Int.toNat_natCast, aw (by omega), aw (by omega)] at hc26
 rw [List.getElem?_eq_getElem (by omega), List.getElem?_eq_getElem (by omega), hc26]
 try simp only [aJ] at hc14
 refine aU (ae (js O Z (jr ?_)))
 refine ⟨.inl Z, _, aj, _, Z, ?_⟩
 have e : xs = ys := List.ext_getElem? fun j => by
  rcases Nat.lt_or_ge j i with h | h
  ·
   exact hi.2 j h
  ·
   rw [List.getElem?_eq_none (by omega), List.getElem?_eq_none (by omega)]
 rw [decide_eq_true e]
theorem xK {s t : An} : MQ h1 h2 14 [aAn s, aAn t] [] (Plain (eB (decide (s = t)))) := by
 refine aB ?_ Z
 refine jB 29 h1 h2 Tryz.func14 Z Z Z fun O hF => ?_
 refine ae (jx O Z (jx O Z (js O Z (jn (ag (ae (j4 O Z Z Z Z (ac O Z Z Z Z (xI h1 h2) (aa Z) Z Z Z Z Z (B0 := 10000) Z (js O Z (jn (ab O Z Z (fun hc10 => ?_) (fun hc10 => ?_))))))))))))
 try simp only [aJ] at hc10
 refine ae (js O Z (jr ?_))
 refine ⟨.inl Z, _, aj, _, Z, ?_⟩
 rw [decide_eq_false (fun e => hc10 (by rw [e]))]
 try simp only [aJ] at hc10
 refine ah (ag (ae (j4 O Z Z Z Z (ac O Z Z Z Z (xI h1 h2) (aa Z) Z Z Z Z Z (B0 := 16000) Z (js O Z (jn (ab O Z Z (fun hc16 => ?_) (fun hc16 => ?_))))))))
 try simp only [aJ] at hc16
 refine ae (js O Z (jr ?_))
 refine ⟨.inl Z, _, aj, _, Z, ?_⟩
 rw [decide_eq_false (fun e => hc16 (by rw [e]))]
 try simp only [aJ] at hc16
 refine ah (ag (ae (j4 O Z Z Z Z (ac O Z Z Z Z (c74 h1 h2) (aa Z) Z Z Z Z Z (B0 := 22000) Z (js O Z (jn (ab O Z Z (fun hc22 => ?_) (fun hc22 => ?_))))))))
 try simp only [aJ] at hc22
 refine ae (js O Z (jr ?_))
 refine ⟨.inl Z, _, aj, _, Z, ?_⟩
 rw [decide_eq_false (fun e => hc22 (by rw [e]))]
 try simp only [aJ] at hc22
 refine ah (ag (ae (j4 O Z Z Z Z (ac O Z Z Z Z (c75 h1 h2) (aa Z) Z Z Z Z Z (B0 := 28000) Z (js O Z (jn (ab O Z Z (fun hc28 => ?_) (fun hc28 => ?_))))))))
 try simp only [aJ] at hc28
 refine ae (js O Z (jr ?_))
 refine ⟨.inl Z, _, aj, _, Z, ?_⟩
 rw [decide_eq_false (fun e => hc28 (by rw [e]))]
 try simp only [aJ] at hc28
 refine ah (ae (js O Z (jr ?_)))
 refine ⟨.inl Z, _, aj, _, Z, ?_⟩
 have e : s = t := by cases s; cases t; simp_all
 rw [decide_eq_true e]
variable {k : Int}
theorem c76 (hk0 : 0 ≤ k) (hk1 : k + bq gI ts ≤ 1073741824) : MQ h1 h2 56 [.c (.rs 0 0 ts.length), eI k] [(0, gV ts)] (aY (eI (k + bq gI ts)) [(0, gV (bf sD gI k ts))]) := by
 refine jH 27 [0] h1 h2 Tryz.func56 Z Z Z Z fun O hF => ?_
 refine fq 0 Z (fun hB => ?_)
 have hl : ts.length ≤ L := by simpa [B.fact] using hB.1
 refine ae (js O Z (jn (ag (ae (js O Z (jn (am (au (X := Nat) (fun i => ⟨[(0, .c (.rs 0 0 ts.length)), (1, eI (k + bq gI (ts.take i))), (5, eI i)], [(0, gV (mk sD gI k i ts))]⟩) (fun i => i ≤ ts.length) (fun i => ts.length - i) 0 (Ent.to ⟨Z, by simp [bN, aA, bq], Z, trivial⟩ (by simp [iz])) ?_ (fun i hi => ?_)))))))))
 exact cC _
 refine ag (ae (j2 O Z Z ?_))
 first | refine bw O Z ?_ | refine js O Z ?_ | refine bb O Z Z ?_
 refine js O Z (jf [9,0,1,5] Z (jn (ab O Z Z (fun hc9 => ?_) (fun hc9 => ?_))))
 try simp only [aJ] at hc9
 refine ah (ag (am (ae (j3 O Z Z Z ?_))))
 first | refine ir O Z Z ?_ | refine bb O Z Z ?_
 refine js O Z (jf [16,14,9,0,1,5] Z ?_)
 obtain ⟨K, hK⟩ : ∃ K, K = k + (bq gI (ts.take i) : Int) := ⟨_, rfl⟩
 rw [← hK]
 have hcs := ff (sz := gI) (show i < ts.length by omega)
 have hcl := jg (sz := gI) (l := ts) (i := i + 1)
 have hg := jd (f := sD) (sz := gI) (k := k) (show i < ts.length by omega)
 have hs := go (f := sD) (sz := gI) (k := k) (show i < ts.length by omega)
 rw [← aw (show i < ts.length by omega)] at hcs hg hs
 obtain ⟨t, ht⟩ : ∃ t, t = ts.getD i default := ⟨_, rfl⟩
 rw [← ht] at hcs hg hs
 rw [← hK] at hs
 simp only [gI] at hcs
 obtain ⟨R, hR⟩ : ∃ R, R = (mk sD gI k i ts).map In.cells := ⟨_, rfl⟩
 have hRl : i < R.length := by rw [hR, bJ, fi]; omega
 have hRi : R[i]? = some t.cells := by rw [hR, List.getElem?_map, hg]; rfl
 have hRn : R.set i (sD K t).cells = (mk sD gI k (i + 1) ts).map In.cells := by rw [hR, ← hs, List.map_set]
 have e0 : gV (mk sD gI k i ts) = .row true 2 (R.set i t.cells) := by rw [gz hRi, hR]
 rw [e0]
 refine AOps.heap (ba (ex := [.int .i64 t.op, .int .i64 t.a]) (xs' := R.set i [.int .i64 K, .int .i64 t.a]) O Z Z Z Z Z Z Z Z Z Z Z Z Z Z (by simp [hRl]) (by simp)) Z (ap ?_)
 refine jf [9,0,1,5] Z (aN (js O Z ?_))
 first | refine ji O Z ?_ | refine bb O Z Z ?_
 refine js O Z (jf [1,9,0,5] Z (aN (j3 O Z Z Z ?_)))
 first | refine ir O Z Z ?_ | refine bb O Z Z ?_
 refine js O Z (jf [23,21,1,9,0,5] Z (AOps.heap (ba (ex := [.int .i64 K, .int .i64 t.a]) (xs' := R.set i [.int .i64 K, .int .i64 (K + 1)]) O Z Z Z Z Z Z Z Z Z Z Z Z Z Z (by simp [hRl]) (by simp)) Z (ap ?_)))
 refine jf [1,9,0,5] Z (jn (ak (js O Z ?_)))
 first | refine ji O Z ?_ | refine bb O Z Z ?_
 refine js O Z (jf [1,9,0,5] Z (jn (ak (js O Z ?_))))
 first | refine ji O Z ?_ | refine bb O Z Z ?_
 refine js O Z (jf [5,1,9,0] Z (jn ?_))
 refine ⟨i + 1, Ent.to ⟨Z, ?_, Z, trivial⟩ (by rw [gV, ← hRn]), by omega, by omega⟩
 rw [hcs]
 exact congrArg (fun z => some (eI z)) (by omega)
 try simp only [aJ] at hc9
 refine aU (ae (j2 O Z Z (jr ?_)))
 refine ⟨.inl Z, _, aj, _, Z, ?_⟩
 obtain rfl : i = ts.length := by omega
 rw [km (bH _), List.take_length]
 exact ⟨Z, Z⟩
theorem c77 {ts : List Pt} (hk0 : 0 ≤ k) (hk1 : k + bq nP ts ≤ 1073741824) : MQ h1 h2 57 [.c (.rs 0 0 ts.length), eI k] [(0, gU ts)] (aY (eI (k + bq nP ts)) [(0, gU (bf mP nP k ts))]) := by
 refine jH 27 [0] h1 h2 Tryz.func57 Z Z Z Z fun O hF => ?_
 refine fq 0 Z (fun hB => ?_)
 have hl : ts.length ≤ L := by simpa [B.fact] using hB.1
 refine ae (js O Z (jn (ag (ae (js O Z (jn (am (au (X := Nat) (fun i => ⟨[(0, .c (.rs 0 0 ts.length)), (1, eI (k + bq nP (ts.take i))), (5, eI i)], [(0, gU (mk mP nP k i ts))]⟩) (fun i => i ≤ ts.length) (fun i => ts.length - i) 0 (Ent.to ⟨Z, by simp [bN, aA, bq], Z, trivial⟩ (by simp [iz])) ?_ (fun i hi => ?_)))))))))
 exact cC _
 refine ag (ae (j2 O Z Z ?_))
 first | refine bw O Z ?_ | refine js O Z ?_ | refine bb O Z Z ?_
 refine js O Z (jf [9,0,1,5] Z (jn (ab O Z Z (fun hc9 => ?_) (fun hc9 => ?_))))
 try simp only [aJ] at hc9
 refine ah (ag (am (ae (j3 O Z Z Z ?_))))
 first | refine ir O Z Z ?_ | refine bb O Z Z ?_
 refine js O Z (jf [16,14,9,0,1,5] Z ?_)
 obtain ⟨K, hK⟩ : ∃ K, K = k + (bq nP (ts.take i) : Int) := ⟨_, rfl⟩
 rw [← hK]
 have hcs := ff (sz := nP) (show i < ts.length by omega)
 have hcl := jg (sz := nP) (l := ts) (i := i + 1)
 have hg := jd (f := mP) (sz := nP) (k := k) (show i < ts.length by omega)
 have hs := go (f := mP) (sz := nP) (k := k) (show i < ts.length by omega)
 rw [← aw (show i < ts.length by omega)] at hcs hg hs
 obtain ⟨t, ht⟩ : ∃ t, t = ts.getD i default := ⟨_, rfl⟩
 rw [← ht] at hcs hg hs
 rw [← hK] at hs
 simp only [nP] at hcs
 obtain ⟨R, hR⟩ : ∃ R, R = (mk mP nP k i ts).map Pt.cells := ⟨_, rfl⟩
 have hRl : i < R.length := by rw [hR, bJ, fi]; omega
 have hRi : R[i]? = some t.cells := by rw [hR, List.getElem?_map, hg]; rfl
 have hRn : R.set i (mP K t).cells = (mk mP nP k (i + 1) ts).map Pt.cells := by rw [hR, ← hs, List.map_set]
 have e0 : gU (mk mP nP k i ts) = .row true 2 (R.set i t.cells) := by rw [gz hRi, hR]
 rw [e0]
 refine AOps.heap (ba (ex := [.int .i64 t.k, em t.fs]) (xs' := R.set i [.int .i64 K, em t.fs]) O Z Z Z Z Z Z Z Z Z Z Z Z Z Z (by simp [hRl]) (by simp)) Z (ap ?_)
 refine jf [9,0,1,5] Z (aN (js O Z ?_))
 first | refine ji O Z ?_ | refine bb O Z Z ?_
 refine js O Z (jf [1,9,0,5] Z (jn (ak (j2 O Z Z ?_))))
 first | refine ir O Z Z ?_ | refine bb O Z Z ?_
 refine js O Z (AOps.step (ar O (ex := [.int .i64 K, em t.fs]) Z Z Z Z (by simp [hRl]) Z) Z Z Z (js O Z (jf [24,23,1,9,0,5] Z (fJ O (l := 0) (j := 1) (z := 2) (ex := [.int .i64 K, em t.fs]) (ys := (t.fs).map Tm.cells) (ys' := (bf mT nT (K + 1) t.fs).map Tm.cells) (xs' := R.set i [.int .i64 K, em (bf mT nT (K + 1) t.fs)]) Z Z Z Z (.rp (.d Z .nil)) (.rp (.d Z .nil)) Z (by simp [hRl]) Z (vJ (ts := t.fs) (k := (K + 1)) h1 h2 (by omega) (by omega)).1 (fun _ => by rw [bJ]; exact vJ (ts := t.fs) h1 h2 (by omega) (by omega)) (fun hys => ?_) Z (by simp [bg]) Z Z Z Z (by simp) ?_))))
 have hy : t.fs = [] := by simpa using hys
 rw [hy]
 exact (wj h1 h2 (k := (K + 1))).plain (by simp [bq, hy])
 refine ap ?_
 refine js O Z (jf [1,9,0,5] Z (jn (ak (js O Z ?_))))
 first | refine ji O Z ?_ | refine bb O Z Z ?_
 refine js O Z (jf [5,1,9,0] Z (jn ?_))
 refine ⟨i + 1, Ent.to ⟨Z, ?_, Z, trivial⟩ (by rw [gU, ← hRn]), by omega, by omega⟩
 rw [hcs]
 exact congrArg (fun z => some (eI z)) (by omega)
 try simp only [aJ] at hc9
 refine aU (ae (j2 O Z Z (jr ?_)))
 refine ⟨.inl Z, _, aj, _, Z, ?_⟩
 obtain rfl : i = ts.length := by omega
 rw [km (bH _), List.take_length]
 exact ⟨Z, Z⟩
abbrev uh (a : An) : List (Nat × B) := [(0, eu a.pre), (1, eu a.post), (2, gV a.code), (3, gU a.pts)]
abbrev zb (a : An) : A := .agg [.rs 0 0 a.pre.length, .rs 1 0 a.post.length, .rs 2 0 a.code.length, .rs 3 0 a.pts.length]
def mAn (k : Int) (a : An) : An := ⟨bf mT nT k a.pre, bf mT nT (k + bq nT a.pre) a.post, bf sD gI (k + bq nT a.pre + bq nT a.post) a.code, bf mP nP (k + bq nT a.pre + bq nT a.post + bq gI a.code) a.pts⟩
theorem xJ (hk0 : 0 ≤ k) (hk1 : k + bq nT a.pre + bq nT a.post + bq gI a.code + bq nP a.pts ≤ 1073741824) : MQ h1 h2 15 [zb a, eI k] (uh a) (aY (eI (k + bq nT a.pre + bq nT a.post + bq gI a.code + bq nP a.pts)) (uh (mAn k a))) := by
 refine aI 500 Z (jH 22 [500,501,502,503] h1 h2 Tryz.func15 Z Z Z Z fun O hF => ?_)
 refine ae (jx O Z (js O Z (aN (j3 O Z Z Z (jf [7,6,4,2,0,1] Z (aq O [500] (bin := [eu a.pre]) Z Z Z Z (vJ (ts := a.pre) (k := k) h1 h2 hk0 (by omega)) Z Z Z Z Z Z (B0 := 9000) Z Z (ap ?_)))))))
 refine js O Z (jf [1,4,2,0] Z (aN (j3 O Z Z Z (jf [11,10,1,4,2,0] Z (aq O [501] (bin := [eu a.post]) Z Z Z Z (vJ (ts := a.post) (k := k + bq nT a.pre) h1 h2 (by omega) (by omega)) Z Z Z Z Z Z (B0 := 13000) Z Z (ap ?_))))))
 refine js O Z (jf [1,4,2,0] Z (aN (j3 O Z Z Z (jf [15,14,1,4,2,0] Z (aq O [502] (bin := [gV a.code]) Z Z Z Z (c76 (ts := a.code) (k := k + bq nT a.pre + bq nT a.post) h1 h2 (by omega) (by omega)) Z Z Z Z Z Z (B0 := 17000) Z Z (ap ?_))))))
 refine js O Z (jf [1,4,2,0] Z (aN (j3 O Z Z Z (jf [19,18,1,4,2,0] Z (aq O [503] (bin := [gU a.pts]) Z Z Z Z (c77 (ts := a.pts) (k := k + bq nT a.pre + bq nT a.post + bq gI a.code) h1 h2 (by omega) (by omega)) Z Z Z Z Z Z (B0 := 21000) Z Z (ap ?_))))))
 refine js O Z (jf [1,4,2,0] Z (aN (j2 O Z Z (jr ?_))))
 refine ⟨.inl Z, _, av [500,501,502,503] Z Z (e' := [(4, eI (k + bq nT a.pre + bq nT a.post + bq gI a.code + bq nP a.pts))]) ⟨Z, trivial⟩ Z, _, Z, Z, Z⟩
theorem qK {a : Bool} (h : (!a) = true) : a = false := by simpa using h
theorem mF {a : Bool} (h : (!a) = false) : a = true := by simpa using h
theorem xT {a b : Bool} (h : (bif a then true else b) = false) : a = false ∧ b = false := by cases a <;> cases b <;> simp_all
theorem sP {a b : Bool} (h : (bif a then b else false) = true) : a = true ∧ b = true := by cases a <;> cases b <;> simp_all
theorem tF {α : Type} {p : α → Bool} {xs : List α} (j : Nat) (hj : j < xs.length) (h : p xs[j] = true) : xs.any p = true := List.any_eq_true.2 ⟨xs[j], List.getElem_mem _, h⟩
theorem vA {α : Type} {p : α → Bool} {xs : List α} (h : ∀ j (hj : j < xs.length), p xs[j] = false) : xs.any p = false := List.any_eq_false.2 fun x hx => by
 obtain ⟨j, hj, rfl⟩ := List.mem_iff_getElem.1 hx
 rw [h j hj]; decide
theorem tS (t : Tm) : (bif !t.ok then true else decide ((4 : Int) < t.xs.length)) = !t.term := by
 unfold Tm.term
 cases t.ok
 rfl
 by_cases h : (4 : Int) < t.xs.length
 rw [decide_eq_true h, decide_eq_false (by omega)]; rfl
 rw [decide_eq_false h, decide_eq_true (by omega)]; rfl
theorem y1 : MQ h1 h2 104 [.agg (x.cells.map .d)] [] (Plain (eB (aT x))) := by
 refine aB ?_ Z
 refine jB 37 h1 h2 Tryz.func104 Z Z Z fun O hF => ?_
 refine ae (jx O Z (js O Z (jn (ag (ae (j2 O Z Z (jn (am (ag (ae (j2 O Z Z (jn (ab O Z Z (fun hc5 => ?_) (fun hc5 => ?_))))))))))))))
 try simp only [aJ] at hc5
 refine ah (ab O Z Z (fun hc5 => ?_) (fun hc5 => ?_))
 try simp only [aJ] at hc5
 refine ae (j2 O Z Z (ac O Z Z Z Z (sM h1 h2) (aa Z) Z Z Z Z Z (B0 := 11000) Z (js O Z (jr ?_))))
 refine ⟨.inl Z, _, aj, _, Z, ?_⟩
 unfold aT dp; simp_all
 try simp only [aJ] at hc5
 contradiction
 try simp only [aJ] at hc5
 refine ak (j2 O Z Z (jn (ab O Z Z (fun hc5 => ?_) (fun hc5 => ?_))))
 try simp only [aJ] at hc5
 refine ae (j2 O Z Z (ac O Z Z Z Z (sM h1 h2) (aa Z) Z Z Z Z Z (B0 := 11000) Z (js O Z (jr ?_))))
 refine ⟨.inl Z, _, aj, _, Z, ?_⟩
 unfold aT dp; simp_all
 try simp only [aJ] at hc5
 refine ag (ae (j2 O Z Z (jn (ab O Z Z (fun hc11 => ?_) (fun hc11 => ?_)))))
 try simp only [aJ] at hc11
 refine ah (ab O Z Z (fun hc11 => ?_) (fun hc11 => ?_))
 try simp only [aJ] at hc11
 refine ae (j2 O Z Z (ac O Z Z Z Z (jX h1 h2) (aa Z) Z Z Z Z Z (B0 := 17000) Z (js O Z (jr ?_))))
 refine ⟨.inl Z, _, aj, _, Z, ?_⟩
 unfold aT dp; simp_all
 try simp only [aJ] at hc11
 contradiction
 try simp only [aJ] at hc11
 refine ak (j2 O Z Z (jn (ab O Z Z (fun hc11 => ?_) (fun hc11 => ?_))))
 try simp only [aJ] at hc11
 refine ae (j2 O Z Z (ac O Z Z Z Z (jX h1 h2) (aa Z) Z Z Z Z Z (B0 := 17000) Z (js O Z (jr ?_))))
 refine ⟨.inl Z, _, aj, _, Z, ?_⟩
 unfold aT dp; simp_all
 try simp only [aJ] at hc11
 refine ag (ae (j2 O Z Z (jn (ab O Z Z (fun hc17 => ?_) (fun hc17 => ?_)))))
 try simp only [aJ] at hc17
 refine ah (ab O Z Z (fun hc17 => ?_) (fun hc17 => ?_))
 try simp only [aJ] at hc17
 refine ae (j2 O Z Z (ac O Z Z Z Z (jX h1 h2) (aa Z) Z Z Z Z Z (B0 := 23000) Z (js O Z (jr ?_))))
 refine ⟨.inl Z, _, aj, _, Z, ?_⟩
 unfold aT dp; simp_all
 try simp only [aJ] at hc17
 contradiction
 try simp only [aJ] at hc17
 refine ak (j2 O Z Z (jn (ab O Z Z (fun hc17 => ?_) (fun hc17 => ?_))))
 try simp only [aJ] at hc17
 refine ae (j2 O Z Z (ac O Z Z Z Z (jX h1 h2) (aa Z) Z Z Z Z Z (B0 := 23000) Z (js O Z (jr ?_))))
 refine ⟨.inl Z, _, aj, _, Z, ?_⟩
 unfold aT dp; simp_all
 try simp only [aJ] at hc17
 refine ae (j2 O Z Z (jn (ab O Z Z (fun hc23 => ?_) (fun hc23 => ?_))))
 try simp only [aJ] at hc23
 refine ae (j2 O Z Z (ac O Z Z Z Z (jX h1 h2) (aa Z) Z Z Z Z Z (B0 := 28000) Z (js O Z (jr ?_))))
 refine ⟨.inl Z, _, aj, _, Z, ?_⟩
 unfold aT dp; simp_all
 try simp only [aJ] at hc23
 refine ag (ae (j2 O Z Z (jn (ab O Z Z (fun hc28 => ?_) (fun hc28 => ?_)))))
 try simp only [aJ] at hc28
 refine ah (ab O Z Z (fun hc28 => ?_) (fun hc28 => ?_))
 try simp only [aJ] at hc28
 refine ae (j4 O Z Z Z Z (jr ?_))
 refine ⟨.inl Z, _, aj, _, Z, ?_⟩
 unfold aT dp; simp_all
 try simp only [aJ] at hc28
 contradiction
 try simp only [aJ] at hc28
 refine ae (j2 O Z Z (jn (ab O Z Z (fun hc28 => ?_) (fun hc28 => ?_))))
 try simp only [aJ] at hc28
 refine ah (ab O Z Z (fun hc28 => ?_) (fun hc28 => ?_))
 try simp only [aJ] at hc28
 refine ae (j4 O Z Z Z Z (jr ?_))
 refine ⟨.inl Z, _, aj, _, Z, ?_⟩
 unfold aT dp; simp_all
 try simp only [aJ] at hc28
 contradiction
 try simp only [aJ] at hc28
 refine ae (j2 O Z Z (jn (ab O Z Z (fun hc28 => ?_) (fun hc28 => ?_))))
 try simp only [aJ] at hc28
 refine ah (ab O Z Z (fun hc28 => ?_) (fun hc28 => ?_))
 try simp only [aJ] at hc28
 refine ae (j4 O Z Z Z Z (jr ?_))
 refine ⟨.inl Z, _, aj, _, Z, ?_⟩
 unfold aT dp; simp_all
 try simp only [aJ] at hc28
 contradiction
 try simp only [aJ] at hc28
 refine ae (j2 O Z Z (jn (ab O Z Z (fun hc28 => ?_) (fun hc28 => ?_))))
 try simp only [aJ] at hc28
 refine ah (ab O Z Z (fun hc28 => ?_) (fun hc28 => ?_))
 try simp only [aJ] at hc28
 refine ae (j4 O Z Z Z Z (jr ?_))
 refine ⟨.inl Z, _, aj, _, Z, ?_⟩
 unfold aT dp; simp_all
 try simp only [aJ] at hc28
 contradiction
 try simp only [aJ] at hc28
 refine ak (j2 O Z Z (jn (ab O Z Z (fun hc28 => ?_) (fun hc28 => ?_))))
 try simp only [aJ] at hc28
 refine ae (j4 O Z Z Z Z (jr ?_))
 refine ⟨.inl Z, _, aj, _, Z, ?_⟩
 unfold aT dp; simp_all
 try simp only [aJ] at hc28
 refine ah (ae (js O Z (jr ?_)))
 refine ⟨.inl Z, _, aj, _, Z, ?_⟩
 unfold aT dp; simp_all
variable {c : List In}
theorem y9 : MQ h1 h2 76 [i9 c] [] (Plain (eB (eb c))) := by
 refine aB ?_ Z
 refine jB 19 h1 h2 Tryz.func76 Z Z Z fun O hF => ?_
 have hl : c.length ≤ L := by simpa [As.fact, A.fact, M.fact, D.fact, Ds.fact] using hF.1.1
 refine ae (js O Z (jn (ag (ae (js O Z (jn (am (au (X := Nat) (fun i => ⟨[(0, i9 c), (3, eI i)], []⟩) (fun i => i ≤ c.length ∧ ∀ j (h : j < c.length), j < i → aT c[j] = true) (fun i => c.length - i) 0 (Ent.env ⟨Z, Z, trivial⟩) ?_ (fun i hi => ?_)))))))))
 exact ⟨cC _, fun j h hj => absurd hj (Nat.not_lt_zero j)⟩
 refine ag (ae (j2 O Z Z ?_))
 first | refine bw O Z ?_ | refine js O Z ?_ | refine bb O Z Z ?_
 refine js O Z (jn (ab O Z Z (fun hc7 => ?_) (fun hc7 => ?_)))
 try simp only [aJ] at hc7
 refine ah (ag (am (ae (j2 O Z Z ?_))))
 first | refine ir O Z Z ?_ | refine bb O Z Z ?_
 refine js O Z (ac O Z Z Z Z (y1 h1 h2) (aa Z) Z Z Z Z Z (B0 := 15000) Z (js O Z (jn (ab O Z Z (fun hc15 => ?_) (fun hc15 => ?_)))))
 try simp only [aJ] at hc15
 refine ae (js O Z (jr ?_))
 refine ⟨.inl Z, _, aj, _, Z, ?_⟩
 rw [Int.toNat_natCast, aw (by omega)] at hc15
 rw [eb, eQ i (by omega) hc15, Bool.false_and]
 try simp only [aJ] at hc15
 refine ah (ak (js O Z ?_))
 first | refine ji O Z ?_ | refine bb O Z Z ?_
 refine js O Z (jn ?_)
 refine ⟨i + 1, Ent.env ⟨Z, Z, trivial⟩, ⟨by omega, fun j h hj => ?_⟩, by omega⟩
 by_cases e : j = i
 subst e; rw [Int.toNat_natCast, aw h] at hc15; exact hc15
 exact hi.2 j h (by omega)
 try simp only [aJ] at hc7
 refine aU (ae (js O Z ?_))
 first | refine bw O Z ?_ | refine js O Z ?_ | refine bb O Z Z ?_
 refine ac O Z Z Z Z (jX h1 h2) (aa Z) Z Z Z Z Z (B0 := 19000) Z (js O Z (jr ?_))
 refine ⟨.inl Z, _, aj, _, Z, ?_⟩
 rw [eb, fB (fun j hj => hi.2 j hj (by omega)), Bool.true_and]
 rfl
theorem qR {ts : List Tm} : MQ h1 h2 77 [cm ts] [] (Plain (eB (bW ts 6))) := by
 refine aB ?_ Z
 refine jB 27 h1 h2 Tryz.func77 Z Z Z fun O hF => ?_
 have hl : ts.length ≤ L := by simpa [As.fact, A.fact, M.fact, D.fact, Ds.fact] using hF.1.1
 refine ae (js O Z (jn (ag (ae (js O Z (jn (am (au (X := Nat) (fun i => ⟨[(0, cm ts), (3, eI i)], []⟩) (fun i => i ≤ ts.length ∧ ∀ j (h : j < ts.length), j < i → Tm.term ts[j] = true) (fun i => ts.length - i) 0 (Ent.env ⟨Z, Z, trivial⟩) ?_ (fun i hi => ?_)))))))))
 exact ⟨cC _, fun j h hj => absurd hj (Nat.not_lt_zero j)⟩
 refine ag (ae (j2 O Z Z ?_))
 first | refine bw O Z ?_ | refine js O Z ?_ | refine bb O Z Z ?_
 refine js O Z (jf [7,0,3] Z (jn (ab O Z Z (fun hc7 => ?_) (fun hc7 => ?_))))
 refine ah (ag (am (ae ?_)))
 have hil : i < ts.length := by have := aQ hc7; omega
 refine j2 O Z Z ?_
 first | refine nu O Z Z ?_ | refine ir O Z Z ?_ | refine bb O Z Z ?_
 refine jf [12,7,0,3] Z (ac O Z Z Z Z (sN (t := ts.getD i default) h1 h2) (aa Z) Z Z Z Z Z (B0 := 14000) Z (j2 O Z Z (jf [15,7,0,3] Z (aR 7 Z Z Z (fun hx => AN.step hx Z Z Z (V O Z) Z Z ( AN.step hx Z Z Z (V O Z) Z Z ( AN.step hx Z Z Z (vN O Z) Z Z ( AN.step hx Z Z Z (V O Z) Z Z ( AN.step hx Z Z Z (V O Z) Z Z ( AN.step hx Z Z Z (cp O Z Z Z Z Z Z Z Z) Z Z ( AN.step hx Z Z Z (V O Z) Z Z ( AN.nil)))))))) Z Z ?_))))
 first | refine AOps.step (aM O Z Z Z Z Z) Z Z Z ?_ | refine AOps.step (Val.pickB O Z Z Z Z Z) Z Z Z ?_ | refine AOps.step (aK O Z Z Z Z Z) Z Z Z ?_
 refine jf [23,7,0,3] Z (jn (ab O Z Z (fun hc23 => ?_) (fun hc23 => ?_)))
 refine ae (js O Z (jr ?_))
 refine ⟨.inl Z, _, aj, _, Z, ?_⟩
 have h9 := qK ((tS _).symm.trans hc23)
 rw [aw hil] at h9
 rw [bW, eQ i hil h9, Bool.false_and]
 refine ah (ak (js O Z ?_))
 first | refine ji O Z ?_ | refine bb O Z Z ?_
 refine js O Z (jf [3,23,7,0] Z (jn ?_))
 refine ⟨i + 1, Ent.env ⟨Z, Z, trivial⟩, ⟨by omega, fun j h hj => ?_⟩, by omega⟩
 by_cases e : j = i
 subst e; rw [← aw h]; exact mF ((tS _).symm.trans hc23)
 exact hi.2 j h (by omega)
 refine aU (ae (js O Z ?_))
 first | refine bw O Z ?_ | refine js O Z ?_ | refine bb O Z Z ?_
 refine j2 O Z Z (jf [2,7,0,3] Z (jr ?_))
 refine ⟨.inl Z, _, aj, _, Z, ?_⟩
 have h9 := bB hc7
 rw [bW, fB (fun j hj => hi.2 j hj (by omega)), Bool.true_and]
theorem zd {a : An} {i : Nat} : (bif (bif !(decide (0 ≤ (a.pts.getD i default).k) && decide ((a.pts.getD i default).k ≤ (a.code.length : Int) - 1)) then true else !bW (a.pts.getD i default).fs 6) then true else (bif decide ((0 : Int) < i) then decide ((a.pts.getD i default).k ≤ (a.pts.getD (i - 1) default).k) else false)) = !pN a.code.length a.pts i := by
 unfold pN dp
 rw [show decide ((0 : Int) < i) = decide (0 < i) from decide_eq_decide.2 (by omega)]
 cases decide (0 ≤ (a.pts.getD i default).k) <;> cases decide ((a.pts.getD i default).k ≤ (a.code.length : Int) - 1) <;> cases bW (a.pts.getD i default).fs 6 <;> cases decide (0 < i) <;> cases decide ((a.pts.getD i default).k ≤ (a.pts.getD (i - 1) default).k) <;> rfl
theorem rP {a : An} (h : (bif (bif (bif !eb a.code then true else !bW a.pre 6) then true else !bW a.post 6) then true else decide ((8 : Int) < a.pts.length)) = true) : cy a = false := by
 unfold cy
 rw [show decide (a.pts.length ≤ 8) = !decide ((8 : Int) < a.pts.length) by rw [← decide_not]; exact decide_eq_decide.2 (by omega)]
 generalize eb a.code = b1 at h ⊢
 generalize bW a.pre 6 = b2 at h ⊢
 generalize bW a.post 6 = b3 at h ⊢
 generalize decide ((8 : Int) < a.pts.length) = b at h ⊢
 cases b1 <;> cases b2 <;> cases b3 <;> cases b <;> simp_all
theorem iL {a : An} (h : (bif (bif (bif !eb a.code then true else !bW a.pre 6) then true else !bW a.post 6) then true else decide ((8 : Int) < a.pts.length)) = false) : cy a = qD a.code.length a.pts ∧ a.pts.length ≤ 8 ∧ eb a.code = true := by
 unfold cy
 rw [show decide (a.pts.length ≤ 8) = !decide ((8 : Int) < a.pts.length) by rw [← decide_not]; exact decide_eq_decide.2 (by omega)]
 generalize eb a.code = b1 at h ⊢
 generalize bW a.pre 6 = b2 at h ⊢
 generalize bW a.post 6 = b3 at h ⊢
 by_cases hb : (8 : Int) < a.pts.length
 rw [decide_eq_true hb] at h
 cases b1 <;> cases b2 <;> cases b3 <;> cases h
 rw [decide_eq_false hb] at h ⊢
 have h9 : a.pts.length ≤ 8 := by omega
 cases b1 <;> cases b2 <;> cases b3 <;> simp_all
theorem qd {c : List In} (h : eb c = true) : 1 ≤ c.length ∧ c.length ≤ 80 := by
 simp only [eb, dp, bA, decide_eq_true_eq] at h; omega
theorem vH : MQ h1 h2 41 [ptr a.data] [] (Plain (eB (cy a))) := by
 refine aB ?_ Z
 refine jB 90 h1 h2 Tryz.func41 Z Z Z fun O hF => ?_
 have hl : a.code.length ≤ L := by simpa [As.fact, A.fact, M.fact, D.fact, Ds.fact] using hF.1.2.2.1.1
 have hlp : a.pts.length ≤ L := by simpa [As.fact, A.fact, M.fact, D.fact, Ds.fact] using hF.1.2.2.2.1.1
 refine ae (js O Z (jn (ag (ae (j4 O Z Z Z Z (cR [(8, _), (2, _), (0, _)] [] ⟨Z, Z, Z, trivial⟩ Z (ac O Z Z Z Z (y9 h1 h2) (aa Z) Z Z Z Z Z (B0 := 10000) Z (j2 O Z Z (cR [(11, _), (2, _), (0, _)] [] ⟨Z, Z, Z, trivial⟩ Z (aR 6 Z Z Z (fun hx => AN.step hx Z Z Z (V O Z) Z Z ( AN.step hx Z Z Z (V O Z) Z Z ( AN.step hx Z Z Z (V O Z) Z Z ( AN.step hx Z Z Z (V O Z) Z Z ( db O hx Z Z Z Z (qR h1 h2) (aa Z) Z Z Z Z Z Z Z (B0 := 17000) Z ( AN.step hx Z Z Z (V O Z) Z Z ( AN.nil))))))) Z Z ?_))))))))))
 first | refine AOps.step (aM O Z Z Z Z Z) Z Z Z ?_ | refine AOps.step (Val.pickB O Z Z Z Z Z) Z Z Z ?_ | refine AOps.step (aK O Z Z Z Z Z) Z Z Z ?_
 refine js O Z (cR [(19, _), (2, _), (0, _)] [] ⟨Z, Z, Z, trivial⟩ Z (aR 6 Z Z Z (fun hx => AN.step hx Z Z Z (V O Z) Z Z ( AN.step hx Z Z Z (V O Z) Z Z ( AN.step hx Z Z Z (V O Z) Z Z ( AN.step hx Z Z Z (V O Z) Z Z ( db O hx Z Z Z Z (qR h1 h2) (aa Z) Z Z Z Z Z Z Z (B0 := 25000) Z ( AN.step hx Z Z Z (V O Z) Z Z ( AN.nil))))))) Z Z ?_))
 first | refine AOps.step (aM O Z Z Z Z Z) Z Z Z ?_ | refine AOps.step (Val.pickB O Z Z Z Z Z) Z Z Z ?_ | refine AOps.step (aK O Z Z Z Z Z) Z Z Z ?_
 refine js O Z (cR [(27, _), (2, _), (0, _)] [] ⟨Z, Z, Z, trivial⟩ Z (aR 6 Z Z Z (fun hx => AN.step hx Z Z Z (V O Z) Z Z ( AN.step hx Z Z Z (V O Z) Z Z ( AN.step hx Z Z Z (V O Z) Z Z ( AN.step hx Z Z Z (V O Z) Z Z ( AN.step hx Z Z Z (cp O Z Z Z Z Z Z Z Z) Z Z ( AN.step hx Z Z Z (V O Z) Z Z ( AN.nil))))))) Z Z ?_))
 first | refine AOps.step (aM O Z Z Z Z Z) Z Z Z ?_ | refine AOps.step (Val.pickB O Z Z Z Z Z) Z Z Z ?_ | refine AOps.step (aK O Z Z Z Z Z) Z Z Z ?_
 refine jf [34,2,0] Z (jn (ab O Z Z (fun hc34 => ?_) (fun hc34 => ?_)))
 refine ae (js O Z (jr ?_))
 refine ⟨.inl Z, _, aj, _, Z, ?_⟩
 rw [rP hc34]
 refine ah (ag (ae (js O Z (jn (am (au (X := Nat) (fun i => ⟨[(0, ptr a.data), (3, eI i)], []⟩) (fun i => i ≤ a.pts.length ∧ ∀ j, j < i → pN a.code.length a.pts j = true) (fun i => a.pts.length - i) 0 (Ent.env ⟨Z, Z, trivial⟩) ?_ (fun i hi => ?_)))))))
 exact ⟨cC _, fun j hj => absurd hj (Nat.not_lt_zero j)⟩
 refine ag (ae (j4 O Z Z Z Z (js O Z ?_)))
 first | refine bw O Z ?_ | refine js O Z ?_ | refine bb O Z Z ?_
 refine js O Z (jf [41,0,3] Z (jn (ab O Z Z (fun hc41 => ?_) (fun hc41 => ?_))))
 refine ah (ag (am (ae ?_)))
 have hil : i < a.pts.length := by have := aQ hc41; omega
 refine j4 O Z Z Z Z (js O Z ?_)
 first | refine nu O Z Z ?_ | refine ir O Z Z ?_ | refine bb O Z Z ?_
 refine js O Z (jf [4,41,0,3] Z (jn (ag (cU (F := ⟨[(89, eB (bif (bif !(decide (0 ≤ (a.pts.getD i default).k) && decide ((a.pts.getD i default).k ≤ (a.code.length : Int) - 1)) then true else !bW (a.pts.getD i default).fs 6) then true else (bif decide ((0 : Int) < i) then decide ((a.pts.getD i default).k ≤ (a.pts.getD (i - 1) default).k) else false))), (0, ptr a.data), (3, eI i)], []⟩) ?_ ?_))))
 cases hb7 : !(decide (0 ≤ (a.pts.getD i default).k) && decide ((a.pts.getD i default).k ≤ (a.code.length : Int) - 1)) with
 | true =>
  refine sv O (_ :: _ :: _ :: _ :: _ :: _ :: _ :: _ :: _ :: _ :: _ :: _ :: _ :: _ :: _ :: _ :: _ :: _ :: _ :: _ :: _ :: _ :: _ :: _ :: _ :: _ :: _ :: _ :: _ :: _ :: _ :: _ :: _ :: _ :: _ :: _ :: _ :: _ :: _ :: _ :: []) (pn [] 0 0 :: pn [0] 0 0 :: pn [0,1] 0 0 :: pn [0,1,2] 0 0 :: pn [] 0 0 :: pn [4] 0 0 :: pn [4,5] 0 0 :: pn [4,5,6] 0 0 :: pn (rg 4 4) 0 0 :: pn (rg 4 5) 0 0 :: pe (rg 0 10) 0 :: pn (rg 0 11) 1 1 :: pn (rg 0 12) 1 1 :: pn (rg 0 13) 0 1 :: pn (rg 0 14) 0 1 :: pn (rg 0 15) 0 1 :: pn (rg 0 16) 0 1 :: pn (rg 0 17) 0 1 :: pn (rg 0 18) 0 1 :: pn (rg 0 19) 1 1 :: pn (rg 0 20) 1 1 :: pn (rg 0 21) 0 1 :: pn (rg 0 22) 0 1 :: pn (rg 0 23) 0 1 :: pn (rg 0 24) 0 1 :: pn (rg 0 25) 0 1 :: pn (rg 0 26) 0 1 :: pn (rg 0 27) 0 1 :: pn (rg 0 24) 0 1 :: pn (rg 0 24++[28]) 0 1 :: pn (rg 0 30) 0 1 :: pn (rg 0 31) 0 1 :: pn (rg 0 32) 0 1 :: pn (rg 0 24) 0 1 :: pn (rg 0 24++[33]) 0 1 :: pn (rg 0 24++[33,34]) 0 1 :: pn (rg 0 24++[33,34,35]) 0 1 :: pn (rg 0 37) 0 1 :: pn (rg 0 38) 0 1 :: pn (rg 0 39) 1 1 :: []) [10] [_,_] (kc O Z (kc O Z (kc O Z (kc O Z (kc O Z (kc O Z (kc O Z (kc O Z (ai (cp O Z Z Z Z Z Z Z Z) (ai (vF O Z) (ai (bu O (B0 := 61000) Z Z Z Z (jX h1 h2) (aa Z) Z Z Z Z Z) (kc O Z (ai ((V O Z).cast (v' := eB true) (congrArg eB hb7)) (ai ⟨Z, Z⟩ (ai ⟨Z, Z⟩ (ai ⟨Z, Z⟩ (ai ⟨Z, Z⟩ (ai ⟨Z, Z⟩ (ai ⟨Z, Z⟩ (ai (bd O Z Z Z Z Z) (kc O Z (ai ⟨Z, Z⟩ (ai ⟨Z, Z⟩ (ai ⟨Z, Z⟩ (ai ⟨Z, Z⟩ (ai ⟨Z, Z⟩ (ai ⟨Z, Z⟩ (ai ⟨Z, Z⟩ (ai ⟨Z, Z⟩ (ai ⟨Z, Z⟩ (ai ⟨Z, Z⟩ (ai ⟨Z, Z⟩ (ai ⟨Z, Z⟩ (ai ⟨Z, Z⟩ (ai ⟨Z, Z⟩ (ai ⟨Z, Z⟩ (ai ⟨Z, Z⟩ (ai ⟨Z, Z⟩ (ai ⟨Z, Z⟩ (ai (bd O Z Z Z Z Z) trivial)))))))))))))))))))))))))))))))))))))))) ?_
  exact ⟨Z, Ent.env ⟨Z, Z, Z, trivial⟩⟩
 | false =>
  cases hb7b : !bW (a.pts.getD i default).fs 6 with
  | true =>
   refine sv O (_ :: _ :: _ :: _ :: _ :: _ :: _ :: _ :: _ :: _ :: _ :: _ :: _ :: _ :: _ :: _ :: _ :: _ :: _ :: _ :: _ :: _ :: _ :: _ :: _ :: _ :: _ :: _ :: _ :: _ :: _ :: _ :: _ :: _ :: _ :: _ :: _ :: _ :: _ :: _ :: []) (pn [] 0 0 :: pn [0] 0 0 :: pn [0,1] 0 0 :: pn [0,1,2] 0 0 :: pn [] 0 0 :: pn [4] 0 0 :: pn [4,5] 0 0 :: pn [4,5,6] 0 0 :: pn (rg 4 4) 0 0 :: pn (rg 4 5) 0 0 :: pe (rg 0 10) 0 :: pn (rg 0 11) 1 1 :: pn (rg 0 12) 1 1 :: pn (rg 0 13) 1 1 :: pn (rg 0 14) 1 1 :: pn (rg 0 15) 1 1 :: pn (rg 0 16) 1 1 :: pe (rg 0 17) 1 :: pn (rg 0 18) 2 2 :: pn (rg 0 19) 2 2 :: pn (rg 0 20) 2 2 :: pn (rg 0 21) 0 2 :: pn (rg 0 22) 0 2 :: pn (rg 0 23) 0 2 :: pn (rg 0 24) 0 2 :: pn (rg 0 25) 0 2 :: pn (rg 0 26) 0 2 :: pn (rg 0 27) 0 2 :: pn (rg 0 24) 0 2 :: pn (rg 0 24++[28]) 0 2 :: pn (rg 0 30) 0 2 :: pn (rg 0 31) 0 2 :: pn (rg 0 32) 0 2 :: pn (rg 0 24) 0 2 :: pn (rg 0 24++[33]) 0 2 :: pn (rg 0 24++[33,34]) 0 2 :: pn (rg 0 24++[33,34,35]) 0 2 :: pn (rg 0 37) 0 2 :: pn (rg 0 38) 0 2 :: pn (rg 0 39) 2 2 :: []) [10,17] [_,_,_] (kc O Z (kc O Z (kc O Z (kc O Z (kc O Z (kc O Z (kc O Z (kc O Z (ai (cp O Z Z Z Z Z Z Z Z) (ai (vF O Z) (ai (bu O (B0 := 61000) Z Z Z Z (jX h1 h2) (aa Z) Z Z Z Z Z) (kc O Z (ai ((V O Z).cast (v' := eB false) (congrArg eB hb7)) (kc O Z (kc O Z (kc O Z (kc O Z (ai (bu O (B0 := 68000) Z Z Z Z (qR h1 h2) (aa Z) Z Z Z Z Z) (kc O Z (ai (aH O Z Z Z Z Z) (ai ((V O Z).cast (v' := eB true) (congrArg eB hb7b)) (ai ⟨Z, Z⟩ (ai ⟨Z, Z⟩ (ai ⟨Z, Z⟩ (ai ⟨Z, Z⟩ (ai ⟨Z, Z⟩ (ai ⟨Z, Z⟩ (ai ⟨Z, Z⟩ (ai ⟨Z, Z⟩ (ai ⟨Z, Z⟩ (ai ⟨Z, Z⟩ (ai ⟨Z, Z⟩ (ai ⟨Z, Z⟩ (ai ⟨Z, Z⟩ (ai ⟨Z, Z⟩ (ai ⟨Z, Z⟩ (ai ⟨Z, Z⟩ (ai ⟨Z, Z⟩ (ai ⟨Z, Z⟩ (ai (bd O Z Z Z Z Z) trivial)))))))))))))))))))))))))))))))))))))))) ?_
   exact ⟨Z, Ent.env ⟨Z, Z, Z, trivial⟩⟩
  | false =>
   cases hb7c : decide ((0 : Int) < i) with
   | true =>
    have hi0 : 0 < i := by have := aQ hb7c; omega
    refine sv O (_ :: _ :: _ :: _ :: _ :: _ :: _ :: _ :: _ :: _ :: _ :: _ :: _ :: _ :: _ :: _ :: _ :: _ :: _ :: _ :: _ :: _ :: _ :: _ :: _ :: _ :: _ :: _ :: _ :: _ :: _ :: _ :: _ :: _ :: _ :: _ :: _ :: _ :: _ :: _ :: []) (pn [] 0 0 :: pn [0] 0 0 :: pn [0,1] 0 0 :: pn [0,1,2] 0 0 :: pn [] 0 0 :: pn [4] 0 0 :: pn [4,5] 0 0 :: pn [4,5,6] 0 0 :: pn (rg 4 4) 0 0 :: pn (rg 4 5) 0 0 :: pe (rg 0 10) 0 :: pn (rg 0 11) 1 1 :: pn (rg 0 12) 1 1 :: pn (rg 0 13) 1 1 :: pn (rg 0 14) 1 1 :: pn (rg 0 15) 1 1 :: pn (rg 0 16) 1 1 :: pe (rg 0 17) 1 :: pn (rg 0 18) 2 2 :: pn (rg 0 19) 2 2 :: pn (rg 0 20) 2 2 :: pn (rg 0 21) 2 2 :: pn (rg 0 22) 2 2 :: pn (rg 0 23) 2 2 :: pn (rg 0 24) 2 2 :: pn (rg 0 25) 2 2 :: pn (rg 0 26) 2 2 :: pn (rg 0 27) 2 2 :: pn (rg 0 24) 2 2 :: pn (rg 0 24++[28]) 2 2 :: pn (rg 0 30) 2 2 :: pn (rg 0 31) 2 2 :: pn (rg 0 32) 2 2 :: pn (rg 0 24) 2 2 :: pn (rg 0 24++[33]) 2 2 :: pn (rg 0 24++[33,34]) 2 2 :: pn (rg 0 24++[33,34,35]) 2 2 :: pn (rg 0 37) 2 2 :: pn (rg 0 38) 2 2 :: pn (rg 0 39) 2 2 :: []) [10,17] [_,_,_] (kc O Z (kc O Z (kc O Z (kc O Z (kc O Z (kc O Z (kc O Z (kc O Z (ai (cp O Z Z Z Z Z Z Z Z) (ai (vF O Z) (ai (bu O (B0 := 61000) Z Z Z Z (jX h1 h2) (aa Z) Z Z Z Z Z) (kc O Z (ai ((V O Z).cast (v' := eB false) (congrArg eB hb7)) (kc O Z (kc O Z (kc O Z (kc O Z (ai (bu O (B0 := 68000) Z Z Z Z (qR h1 h2) (aa Z) Z Z Z Z Z) (kc O Z (ai (aH O Z Z Z Z Z) (ai ((V O Z).cast (v' := eB false) (congrArg eB hb7b)) (kc O Z (kc O Z (ai ((V O Z).cast (v' := eB true) (congrArg eB hb7c)) (kc O Z (kc O Z (kc O Z (kc O Z (kc O Z (ai ((vF O Z).cast (v' := eI ((i - 1 : Nat) : Int)) (congrArg eI (by omega))) (ai (vN O Z) (kc O Z (kc O Z (kc O Z (kc O Z (kc O Z (kc O Z (kc O Z (ai (bd O Z Z Z Z Z) (ai (aH O Z Z Z Z Z) trivial)))))))))))))))))))))))))))))))))))))))) ?_
    exact ⟨Z, Ent.env ⟨Z, Z, Z, trivial⟩⟩
   | false =>
    refine sv O (_ :: _ :: _ :: _ :: _ :: _ :: _ :: _ :: _ :: _ :: _ :: _ :: _ :: _ :: _ :: _ :: _ :: _ :: _ :: _ :: _ :: _ :: _ :: _ :: _ :: _ :: _ :: _ :: _ :: _ :: _ :: _ :: _ :: _ :: _ :: _ :: _ :: _ :: _ :: _ :: []) (pn [] 0 0 :: pn [0] 0 0 :: pn [0,1] 0 0 :: pn [0,1,2] 0 0 :: pn [] 0 0 :: pn [4] 0 0 :: pn [4,5] 0 0 :: pn [4,5,6] 0 0 :: pn (rg 4 4) 0 0 :: pn (rg 4 5) 0 0 :: pe (rg 0 10) 0 :: pn (rg 0 11) 1 1 :: pn (rg 0 12) 1 1 :: pn (rg 0 13) 1 1 :: pn (rg 0 14) 1 1 :: pn (rg 0 15) 1 1 :: pn (rg 0 16) 1 1 :: pe (rg 0 17) 1 :: pn (rg 0 18) 2 2 :: pn (rg 0 19) 2 2 :: pn (rg 0 20) 2 2 :: pn (rg 0 21) 2 2 :: pn (rg 0 22) 2 2 :: pn (rg 0 23) 2 2 :: pn (rg 0 24) 0 2 :: pn (rg 0 25) 0 2 :: pn (rg 0 26) 0 2 :: pn (rg 0 27) 0 2 :: pn (rg 0 24) 0 2 :: pn (rg 0 24++[28]) 0 2 :: pn (rg 0 30) 0 2 :: pn (rg 0 31) 0 2 :: pn (rg 0 32) 0 2 :: pn (rg 0 24) 0 2 :: pn (rg 0 24++[33]) 0 2 :: pn (rg 0 24++[33,34]) 0 2 :: pn (rg 0 24++[33,34,35]) 0 2 :: pn (rg 0 37) 0 2 :: pn (rg 0 38) 2 2 :: pn (rg 0 39) 2 2 :: []) [10,17] [_,_,_] (kc O Z (kc O Z (kc O Z (kc O Z (kc O Z (kc O Z (kc O Z (kc O Z (ai (cp O Z Z Z Z Z Z Z Z) (ai (vF O Z) (ai (bu O (B0 := 61000) Z Z Z Z (jX h1 h2) (aa Z) Z Z Z Z Z) (kc O Z (ai ((V O Z).cast (v' := eB false) (congrArg eB hb7)) (kc O Z (kc O Z (kc O Z (kc O Z (ai (bu O (B0 := 68000) Z Z Z Z (qR h1 h2) (aa Z) Z Z Z Z Z) (kc O Z (ai (aH O Z Z Z Z Z) (ai ((V O Z).cast (v' := eB false) (congrArg eB hb7b)) (kc O Z (kc O Z (ai ((V O Z).cast (v' := eB false) (congrArg eB hb7c)) (ai ⟨Z, Z⟩ (ai ⟨Z, Z⟩ (ai ⟨Z, Z⟩ (ai ⟨Z, Z⟩ (ai ⟨Z, Z⟩ (ai ⟨Z, Z⟩ (ai ⟨Z, Z⟩ (ai ⟨Z, Z⟩ (ai ⟨Z, Z⟩ (ai ⟨Z, Z⟩ (ai ⟨Z, Z⟩ (ai ⟨Z, Z⟩ (ai ⟨Z, Z⟩ (ai ⟨Z, Z⟩ (ai (aH O Z Z Z Z Z) (ai (aH O Z Z Z Z Z) trivial)))))))))))))))))))))))))))))))))))))))) ?_
    exact ⟨Z, Ent.env ⟨Z, Z, Z, trivial⟩⟩
 refine ab O Z Z (fun hc89 => ?_) (fun hc89 => ?_)
 refine ae (js O Z (jr ?_))
 refine ⟨.inl Z, _, aj, _, Z, ?_⟩
 rw [(iL hc34).1, mX i hil (qK (zd.symm.trans hc89))]
 refine ah (ak (js O Z ?_))
 first | refine ji O Z ?_ | refine bb O Z Z ?_
 refine js O Z (jf [3,89,0] Z (jn ?_))
 have h9 : pN a.code.length a.pts i = true := mF (zd.symm.trans hc89)
 refine ⟨i + 1, Ent.env ⟨Z, Z, trivial⟩, ⟨by omega, fun j hj => ?_⟩, by omega⟩
 by_cases e : j = i
 subst e; exact h9
 exact hi.2 j (by omega)
 refine aU (ae (js O Z (jr ?_)))
 refine ⟨.inl Z, _, aj, _, Z, ?_⟩
 rw [(iL hc34).1, pq fun j hj => hi.2 j (by have := bB hc41; omega)]
section
set_option linter.unusedSectionVars false
variable {α : Type} [Inhabited α] {f : α → α} {l : List α} {i : Nat} {g : α → List D}
end
structure Fo (a out : An) (k : Nat) : Prop where
  le : k ≤ out.code.length
  eq : oQ out = oQ a
  ok : AOk out
  no : ∀ j, j < k → (oL out j).1 = 0
structure Gn (a out : An) : Prop where
  eq : oQ out = oQ a
  ok : AOk out
theorem wo {x : Int} : MQ h1 h2 179 [eI x] [] (Plain (eB (dp 0 79 x))) := by
 refine aB ?_ Z
 refine jB 5 h1 h2 Tryz.func179 Z Z Z fun O hF => ?_
 refine ae (js O Z (aN (js O Z (ac O Z Z Z Z (mM h1 h2) (aa Z) Z Z Z Z Z (B0 := 5000) Z (js O Z (jr ?_))))))
 refine ⟨.inl Z, _, aj, _, Z, ?_⟩
 first | rfl | skip
theorem yY : MQ h1 h2 162 [.agg (x.cells.map .d)] [] (Plain (eB (aT x))) := by
 refine aB ?_ Z
 refine jB 37 h1 h2 Tryz.func162 Z Z Z fun O hF => ?_
 refine ae (jx O Z (js O Z (jn (ag (ae (j2 O Z Z (jn (am (ag (ae (j2 O Z Z (jn (ab O Z Z (fun hc5 => ?_) (fun hc5 => ?_))))))))))))))
 try simp only [aJ] at hc5
 refine ah (ab O Z Z (fun hc5 => ?_) (fun hc5 => ?_))
 try simp only [aJ] at hc5
 refine ae (j2 O Z Z (jf [9,6,4,3,2,1,0] Z (ac O Z Z Z Z (sL h1 h2) (aa Z) Z Z Z Z Z (B0 := 11000) Z (js O Z (jf [2,6,4,3,1,0] Z (jr ?_))))))
 refine ⟨.inl Z, _, aj, _, Z, ?_⟩
 unfold aT dp; simp_all
 try simp only [aJ] at hc5
 contradiction
 try simp only [aJ] at hc5
 refine ak (j2 O Z Z (jn (ab O Z Z (fun hc5 => ?_) (fun hc5 => ?_))))
 try simp only [aJ] at hc5
 refine ae (j2 O Z Z (jf [9,7,6,4,3,2,1,0] Z (ac O Z Z Z Z (sL h1 h2) (aa Z) Z Z Z Z Z (B0 := 11000) Z (js O Z (jf [2,7,6,4,3,1,0] Z (jr ?_))))))
 refine ⟨.inl Z, _, aj, _, Z, ?_⟩
 unfold aT dp; simp_all
 try simp only [aJ] at hc5
 refine ag (ae (j2 O Z Z (jf [11,7,6,4,3,2,1,0] Z (jn (ab O Z Z (fun hc11 => ?_) (fun hc11 => ?_))))))
 try simp only [aJ] at hc11
 refine ah (ab O Z Z (fun hc11 => ?_) (fun hc11 => ?_))
 try simp only [aJ] at hc11
 refine ae (j2 O Z Z (jf [15,7,6,4,3,2,1,0] Z (ac O Z Z Z Z (wq h1 h2) (aa Z) Z Z Z Z Z (B0 := 17000) Z (js O Z (jf [2,7,6,4,3,1,0] Z (jr ?_))))))
 refine ⟨.inl Z, _, aj, _, Z, ?_⟩
 unfold aT dp; simp_all
 try simp only [aJ] at hc11
 contradiction
 try simp only [aJ] at hc11
 refine ak (j2 O Z Z (jn (ab O Z Z (fun hc11 => ?_) (fun hc11 => ?_))))
 try simp only [aJ] at hc11
 refine ae (j2 O Z Z (jf [15,13,7,6,4,3,2,1,0] Z (ac O Z Z Z Z (wq h1 h2) (aa Z) Z Z Z Z Z (B0 := 17000) Z (js O Z (jf [2,13,7,6,4,3,1,0] Z (jr ?_))))))
 refine ⟨.inl Z, _, aj, _, Z, ?_⟩
 unfold aT dp; simp_all
 try simp only [aJ] at hc11
 refine ag (ae (j2 O Z Z (jf [17,13,7,6,4,3,2,1,0] Z (jn (ab O Z Z (fun hc17 => ?_) (fun hc17 => ?_))))))
 try simp only [aJ] at hc17
 refine ah (ab O Z Z (fun hc17 => ?_) (fun hc17 => ?_))
 try simp only [aJ] at hc17
 refine ae (j2 O Z Z (jf [21,13,7,6,4,3,2,1,0] Z (ac O Z Z Z Z (wo h1 h2) (aa Z) Z Z Z Z Z (B0 := 23000) Z (js O Z (jf [2,13,7,6,4,3,1,0] Z (jr ?_))))))
 refine ⟨.inl Z, _, aj, _, Z, ?_⟩
 unfold aT dp; simp_all
 try simp only [aJ] at hc17
 contradiction
 try simp only [aJ] at hc17
 refine ak (j2 O Z Z (jn (ab O Z Z (fun hc17 => ?_) (fun hc17 => ?_))))
 try simp only [aJ] at hc17
 refine ae (j2 O Z Z (jf [21,19,13,7,6,4,3,2,1,0] Z (ac O Z Z Z Z (wo h1 h2) (aa Z) Z Z Z Z Z (B0 := 23000) Z (js O Z (jf [2,19,13,7,6,4,3,1,0] Z (jr ?_))))))
 refine ⟨.inl Z, _, aj, _, Z, ?_⟩
 unfold aT dp; simp_all
 try simp only [aJ] at hc17
 refine ae (j2 O Z Z (jf [23,19,13,7,6,4,3,2,1,0] Z (jn (ab O Z Z (fun hc23 => ?_) (fun hc23 => ?_)))))
 try simp only [aJ] at hc23
 refine ae (j2 O Z Z (jf [26,19,13,7,6,4,3,2,1,0] Z (ac O Z Z Z Z (yQ h1 h2) (aa Z) Z Z Z Z Z (B0 := 28000) Z (js O Z (jf [2,19,13,7,6,4,3,1,0] Z (jr ?_))))))
 refine ⟨.inl Z, _, aj, _, Z, ?_⟩
 unfold aT dp; simp_all
 try simp only [aJ] at hc23
 refine ag (ae (j2 O Z Z (jf [28,19,13,7,6,4,3,2,1,0] Z (jn (ab O Z Z (fun hc28 => ?_) (fun hc28 => ?_))))))
 try simp only [aJ] at hc28
 refine ah (ab O Z Z (fun hc28 => ?_) (fun hc28 => ?_))
 try simp only [aJ] at hc28
 refine ae (j4 O Z Z Z Z (jf [2,28,19,13,7,6,4,3,1,0] Z (jr ?_)))
 refine ⟨.inl Z, _, aj, _, Z, ?_⟩
 unfold aT dp; simp_all
 try simp only [aJ] at hc28
 contradiction
 try simp only [aJ] at hc28
 refine ae (j2 O Z Z (jn (ab O Z Z (fun hc28 => ?_) (fun hc28 => ?_))))
 try simp only [aJ] at hc28
 refine ah (ab O Z Z (fun hc28 => ?_) (fun hc28 => ?_))
 try simp only [aJ] at hc28
 refine ae (j4 O Z Z Z Z (jf [2,28,30,19,13,7,6,4,3,1,0] Z (jr ?_)))
 refine ⟨.inl Z, _, aj, _, Z, ?_⟩
 unfold aT dp; simp_all
 try simp only [aJ] at hc28
 contradiction
 try simp only [aJ] at hc28
 refine ae (j2 O Z Z (jn (ab O Z Z (fun hc28 => ?_) (fun hc28 => ?_))))
 try simp only [aJ] at hc28
 refine ah (ab O Z Z (fun hc28 => ?_) (fun hc28 => ?_))
 try simp only [aJ] at hc28
 refine ae (j4 O Z Z Z Z (jf [2,28,31,30,19,13,7,6,4,3,1,0] Z (jr ?_)))
 refine ⟨.inl Z, _, aj, _, Z, ?_⟩
 unfold aT dp; simp_all
 try simp only [aJ] at hc28
 contradiction
 try simp only [aJ] at hc28
 refine ae (j2 O Z Z (jn (ab O Z Z (fun hc28 => ?_) (fun hc28 => ?_))))
 try simp only [aJ] at hc28
 refine ah (ab O Z Z (fun hc28 => ?_) (fun hc28 => ?_))
 try simp only [aJ] at hc28
 refine ae (j4 O Z Z Z Z (jf [2,32,31,30,19,13,7,6,4,3,1,0] Z (jr ?_)))
 refine ⟨.inl Z, _, aj, _, Z, ?_⟩
 unfold aT dp; simp_all
 try simp only [aJ] at hc28
 contradiction
 try simp only [aJ] at hc28
 refine ak (j2 O Z Z (jn (ab O Z Z (fun hc28 => ?_) (fun hc28 => ?_))))
 try simp only [aJ] at hc28
 refine ae (j4 O Z Z Z Z (jf [2,33,32,31,30,19,13,7,6,4,3,1,0] Z (jr ?_)))
 refine ⟨.inl Z, _, aj, _, Z, ?_⟩
 unfold aT dp; simp_all
 try simp only [aJ] at hc28
 refine ah (ae (js O Z (jr ?_)))
 refine ⟨.inl Z, _, aj, _, Z, ?_⟩
 unfold aT dp; simp_all
theorem yZ : MQ h1 h2 161 [.agg (x.cells.map .d)] [] (Plain (eB (!aT x))) := by
 refine aB ?_ Z
 refine jB 6 h1 h2 Tryz.func161 Z Z Z fun O hF => ?_
 refine ae (jx O Z (js O Z (aN (js O Z (jf [3,2,0] Z (ac O Z Z Z Z (yY h1 h2) (aa Z) Z Z Z Z Z (B0 := 5000) Z (j2 O Z Z (jf [2,0] Z (jr ?_)))))))))
 refine ⟨.inl Z, _, aj, _, Z, ?_⟩
 first | rfl | skip
theorem yT {p : Pt} : MQ h1 h2 142 [.agg (p.cells.map .d), ptr [.int .i64 k]] [] (Plain (eB (decide (p.k = k)))) := by
 refine aB ?_ Z
 refine jB 8 h1 h2 Tryz.func142 Z Z Z fun O hF => ?_
 refine ae (jx O Z (js O Z (aN (j4 O Z Z Z Z (js O Z (jf [3,0] Z (jr ?_)))))))
 refine ⟨.inl Z, _, aj, _, Z, ?_⟩
 first | rfl | skip
def oJ {α : Type} (p : α → Bool) (l : List α) : Int := if l.any p = true then (l.findIdx p : Nat) else -1
theorem lU {α : Type} {p : α → Bool} {l : List α} (h : ∀ j (hj : j < l.length), p l[j] = false) : oJ p l = -1 := by rw [oJ, if_neg (by rw [vA h]; decide)]
theorem lV {α : Type} {p : α → Bool} {l : List α} {i : Nat} (hi : i < l.length) (h : ∀ j (hj : j < l.length), j < i → p l[j] = false) (hn : p l[i] = true) : oJ p l = i := by
 rw [oJ, if_pos (tF i hi hn)]
 exact congrArg Nat.cast ((List.findIdx_eq hi).2 ⟨hn, fun j hj => by simp [h j (by omega) hj]⟩)
theorem nL {α : Type} {p : α → Bool} {l : List α} : decide (oJ p l ≥ 0) = l.any p := by
 unfold oJ
 cases h : l.any p <;> simp
theorem xg : MQ h1 h2 177 [i9 c, .c (.fn 161 [])] [] (Plain (eI (oJ (fun x : In => !aT x) c))) := by
 refine aB ?_ Z
 refine jB 19 h1 h2 Tryz.func177 Z Z Z fun O hF => ?_
 have hl : c.length ≤ L := by simpa [As.fact, A.fact, M.fact, D.fact, Ds.fact] using hF.1.1
 refine ae (js O Z (jn (ag (ae (js O Z ?_)))))
 first | refine bw O Z ?_ | refine js O Z ?_ | refine bb O Z Z ?_
 refine js O Z (jn (am (au (X := Nat) (fun i => ⟨[(0, i9 c), (1, .c (.fn 161 [])), (7, eI c.length), (8, eI i)], []⟩) (fun i => i ≤ c.length ∧ ∀ j (h : j < c.length), j < i → (fun x : In => !aT x) c[j] = false) (fun i => c.length - i) 0 (Ent.env ⟨Z, Z, Z, Z, trivial⟩) ?_ (fun i hi => ?_))))
 exact ⟨cC _, fun j h hj => absurd hj (Nat.not_lt_zero j)⟩
 refine ae (js O Z (jn (ag (ab O Z Z (fun hc9 => ?_) (fun hc9 => ?_)))))
 refine ah (ag (am (ae ?_)))
 have hil : i < c.length := by have := aQ hc9; omega
 refine j2 O Z Z (aN (j3 O Z Z Z ?_))
 first | refine nu O Z Z ?_ | refine ir O Z Z ?_ | refine bb O Z Z ?_
 refine js O Z (cR [(15, _), (11, _), (5, _), (10, _), (9, _), (0, _), (1, _), (7, _), (8, _)] [] ⟨Z, Z, Z, Z, Z, Z, Z, Z, Z, trivial⟩ Z (ac O Z Z Z Z (yZ (x := c.getD i default) h1 h2) (aa Z) Z Z Z Z Z (B0 := 17000) Z (jf [16,5,10,9,0,1,7,8] Z (jn (ab O Z Z (fun hc16 => ?_) (fun hc16 => ?_))))))
 refine ae (j2 O Z Z (jr ?_))
 refine ⟨.inl Z, _, aj, _, Z, ?_⟩
 rw [aw hil] at hc16
 rw [lV hil hi.2 hc16]
 refine ah (ak ?_)
 first | refine ji O Z ?_ | refine bb O Z Z ?_
 refine js O Z (jn ?_)
 refine ⟨i + 1, Ent.env ⟨Z, Z, Z, Z, trivial⟩, ⟨by omega, fun j h hj => ?_⟩, by omega⟩
 by_cases e : j = i
 subst e; rw [aw h] at hc16; exact hc16
 exact hi.2 j h (by omega)
 refine aU (ae (js O Z (jr ?_)))
 refine ⟨.inl Z, _, aj, _, Z, ?_⟩
 have h9 := bB hc9
 rw [lU (fun j hj => hi.2 j hj (by omega))]
theorem yU {ps : List Pt} : MQ h1 h2 141 [sO ps, .c (.fn 142 [.d (.ptr [.int .i64 k] 0)])] [] (Plain (eI (oJ (fun p : Pt => decide (p.k = k)) ps))) := by
 refine aB ?_ Z
 refine jB 19 h1 h2 Tryz.func141 Z Z Z fun O hF => ?_
 have hl : ps.length ≤ L := by simpa [As.fact, A.fact, M.fact, D.fact, Ds.fact] using hF.1.1
 refine ae (js O Z (jn (ag (ae (js O Z ?_)))))
 first | refine bw O Z ?_ | refine js O Z ?_ | refine bb O Z Z ?_
 refine js O Z (jn (am (au (X := Nat) (fun i => ⟨[(0, sO ps), (1, .c (.fn 142 [.d (.ptr [.int .i64 k] 0)])), (7, eI ps.length), (8, eI i)], []⟩) (fun i => i ≤ ps.length ∧ ∀ j (h : j < ps.length), j < i → (fun p : Pt => decide (p.k = k)) ps[j] = false) (fun i => ps.length - i) 0 (Ent.env ⟨Z, Z, Z, Z, trivial⟩) ?_ (fun i hi => ?_))))
 exact ⟨cC _, fun j h hj => absurd hj (Nat.not_lt_zero j)⟩
 refine ae (js O Z (jn (ag (ab O Z Z (fun hc9 => ?_) (fun hc9 => ?_)))))
 refine ah (ag (am (ae ?_)))
 have hil : i < ps.length := by have := aQ hc9; omega
 refine j2 O Z Z (aN (j3 O Z Z Z ?_))
 first | refine nu O Z Z ?_ | refine ir O Z Z ?_ | refine bb O Z Z ?_
 refine js O Z (cR [(15, _), (11, _), (5, _), (10, _), (9, _), (0, _), (1, _), (7, _), (8, _)] [] ⟨Z, Z, Z, Z, Z, Z, Z, Z, Z, trivial⟩ Z (ac O Z Z Z Z (yT (k := k) (p := ps.getD i default) h1 h2) (aa Z) Z Z Z Z Z (B0 := 17000) Z (jf [16,5,10,9,0,1,7,8] Z (jn (ab O Z Z (fun hc16 => ?_) (fun hc16 => ?_))))))
 refine ae (j2 O Z Z (jr ?_))
 refine ⟨.inl Z, _, aj, _, Z, ?_⟩
 rw [aw hil] at hc16
 rw [lV hil hi.2 hc16]
 refine ah (ak ?_)
 first | refine ji O Z ?_ | refine bb O Z Z ?_
 refine js O Z (jn ?_)
 refine ⟨i + 1, Ent.env ⟨Z, Z, Z, Z, trivial⟩, ⟨by omega, fun j h hj => ?_⟩, by omega⟩
 by_cases e : j = i
 subst e; rw [aw h] at hc16; exact hc16
 exact hi.2 j h (by omega)
 refine aU (ae (js O Z (jr ?_)))
 refine ⟨.inl Z, _, aj, _, Z, ?_⟩
 have h9 := bB hc9
 rw [lU (fun j hj => hi.2 j hj (by omega))]
theorem xk : MQ h1 h2 160 [i9 c, .c (.fn 161 [])] [] (Plain (eB (c.any (fun x : In => !aT x)))) := by
 refine aB ?_ Z
 refine jB 9 h1 h2 Tryz.func160 Z Z Z fun O hF => ?_
 refine ae (js O Z (aN (j2 O Z Z (ac O Z Z Z Z (xg (c := c) h1 h2) (.cons (.c .d) (.cons (.c (.fn .nil)) .nil)) Z Z Z Z Z (B0 := 8000) Z (j2 O Z Z (jr ?_))))))
 refine ⟨.inl Z, _, aj, _, Z, ?_⟩
 exact congrArg eB nL
theorem wt : MQ h1 h2 136 [i9 c] [] (Plain (eB (eb c))) := by
 refine aB ?_ Z
 refine jB 12 h1 h2 Tryz.func136 Z Z Z fun O hF => ?_
 have hl : c.length ≤ L := by simpa [As.fact, A.fact, M.fact, D.fact, Ds.fact] using hF.1.1
 refine ae (js O Z (aN (js O Z ?_)))
 first | refine bw O Z ?_ | refine js O Z ?_ | refine bb O Z Z ?_
 refine ac O Z Z Z Z (ut h1 h2) (aa Z) Z Z Z Z Z (B0 := 6000) Z (ac O Z Z Z Z (mM h1 h2) (aa Z) Z Z Z Z Z (B0 := 7000) Z (js O Z (aR 3 Z Z Z (fun hx => AN.step hx Z Z Z (V O Z) Z Z ( db O hx Z Z Z Z (xk (c := c) h1 h2) (.cons (.c .d) (.cons (.c (.fn .nil)) .nil)) Z Z Z Z Z Z Z (B0 := 10000) Z ( AN.step hx Z Z Z (V O Z) Z Z ( AN.nil)))) Z Z ?_)))
 first | refine AOps.step (aK O Z Z Z Z Z) Z Z Z ?_ | refine AOps.step (aM O Z Z Z Z Z) Z Z Z ?_ | refine AOps.step (Val.pickB O Z Z Z Z Z) Z Z Z ?_
 refine js O Z (jr ?_)
 refine ⟨.inl Z, _, aj, _, Z, ?_⟩
 rw [Bool.cond_false_right, show eb c = _ from Bool.and_comm _ _, List.all_eq_not_any_not]
theorem mL : MQ h1 h2 124 [aAn a, eI k] [] (Plain (eI (oJ (fun p : Pt => decide (p.k = k)) a.pts))) := by
 refine aB ?_ Z
 refine jB 9 h1 h2 Tryz.func124 Z Z Z fun O hF => ?_
 refine ae (jx O Z (ap ?_))
 refine ay (Ent.freeze 2 (e' := [(2, _), (1, _)]) Z (.cons Z (.c (.box (cs := a.data) Z (aC Z))) (fe [1] Z)) (.skip .nil)) ?_
 refine ap ?_
 refine jx O Z (ap ?_)
 refine ay (Ent.freeze 3 (e' := [(3, _), (2, _)]) Z (.cons Z (.c (.box (cs := [.int .i64 k]) Z (aC Z))) (fe [2] Z)) (.skip .nil)) ?_
 refine ap ?_
 refine js O Z (aN (j3 O Z Z Z (jf [7,6,4] Z (ac O Z Z Z Z (yU (ps := a.pts) (k := k) h1 h2) (.cons (.c .d) (.cons (.c (.fn (.cons .d .nil))) .nil)) Z Z Z Z Z (B0 := 9000) Z (js O Z (jf [4] Z (jr ?_)))))))
 refine ⟨.inl Z, _, aj, _, Z, ?_⟩
 first | rfl | skip
theorem xN {a : An} {i : Nat} : (bif (bif !bW (a.pts.getD i default).fs 6 then true else !(dp 0 ((a.code.length : Int) - 1) (a.pts.getD i default).k)) then true else (bif decide ((0 : Int) < i) then decide ((a.pts.getD i default).k ≤ (a.pts.getD (i - 1) default).k) else false)) = !pN a.code.length a.pts i := by
 unfold pN dp
 rw [show decide ((0 : Int) < i) = decide (0 < i) from decide_eq_decide.2 (by omega)]
 cases decide (0 ≤ (a.pts.getD i default).k) <;> cases decide ((a.pts.getD i default).k ≤ (a.code.length : Int) - 1) <;> cases bW (a.pts.getD i default).fs 6 <;> cases decide (0 < i) <;> cases decide ((a.pts.getD i default).k ≤ (a.pts.getD (i - 1) default).k) <;> rfl
theorem xX : MQ h1 h2 121 [aAn a] [] (Plain (eB (cy a))) := by
 refine aB ?_ Z
 refine jB 65 h1 h2 Tryz.func121 Z Z Z fun O hF => ?_
 have hl : a.code.length ≤ L := by simpa [As.fact, A.fact, M.fact, Ms.fact, D.fact, Ds.fact] using hF.1.2.2.1.1
 have hlp : a.pts.length ≤ L := by simpa [As.fact, A.fact, M.fact, Ms.fact, D.fact, Ds.fact] using hF.1.2.2.2.1.1
 refine ae (jx O Z (ap ?_))
 refine ay (Ent.freeze 1 (e' := [(1, _), (0, _)]) Z (.cons Z (.c (.box (cs := a.data) Z (aC Z))) (fe [0] Z)) (.skip .nil)) ?_
 refine ap ?_
 refine js O Z (jn (ag (ae (j2 O Z Z (jf [6,2,1,0] Z (ac O Z Z Z Z (wt h1 h2) (aa Z) Z Z Z Z Z (B0 := 8000) Z (j2 O Z Z (jf [9,2,1,0] Z (aR 4 Z Z Z (fun hx => AN.step hx Z Z Z (V O Z) Z Z ( AN.step hx Z Z Z (V O Z) Z Z ( db O hx Z Z Z Z (pS h1 h2) (aa Z) Z Z Z Z Z Z Z (B0 := 13000) Z ( AN.step hx Z Z Z (V O Z) Z Z ( AN.nil))))) Z Z ?_)))))))))
 first | refine AOps.step (aM O Z Z Z Z Z) Z Z Z ?_ | refine AOps.step (Val.pickB O Z Z Z Z Z) Z Z Z ?_ | refine AOps.step (aK O Z Z Z Z Z) Z Z Z ?_
 refine js O Z (jf [15,2,1,0] Z (aR 4 Z Z Z (fun hx => AN.step hx Z Z Z (V O Z) Z Z ( AN.step hx Z Z Z (V O Z) Z Z ( db O hx Z Z Z Z (pS h1 h2) (aa Z) Z Z Z Z Z Z Z (B0 := 19000) Z ( AN.step hx Z Z Z (V O Z) Z Z ( AN.nil))))) Z Z ?_))
 first | refine AOps.step (aM O Z Z Z Z Z) Z Z Z ?_ | refine AOps.step (Val.pickB O Z Z Z Z Z) Z Z Z ?_ | refine AOps.step (aK O Z Z Z Z Z) Z Z Z ?_
 refine js O Z (jf [21,2,1,0] Z (aR 4 Z Z Z (fun hx => AN.step hx Z Z Z (V O Z) Z Z ( AN.step hx Z Z Z (V O Z) Z Z ( AN.step hx Z Z Z (cp O Z Z Z Z Z Z Z Z) Z Z ( AN.step hx Z Z Z (V O Z) Z Z ( AN.nil))))) Z Z ?_))
 first | refine AOps.step (aM O Z Z Z Z Z) Z Z Z ?_ | refine AOps.step (Val.pickB O Z Z Z Z Z) Z Z Z ?_ | refine AOps.step (aK O Z Z Z Z Z) Z Z Z ?_
 refine jf [26,2,1,0] Z (jn (ab O Z Z (fun hc26 => ?_) (fun hc26 => ?_)))
 refine ae (js O Z (jr ?_))
 refine ⟨.inl Z, _, aj, _, Z, ?_⟩
 rw [rP hc26]
 refine ah (ag (ae (j2 O Z Z ?_)))
 first | refine bw O Z ?_ | refine js O Z ?_ | refine bb O Z Z ?_
 refine js O Z (jf [30,29,28,2,1,0] Z (jn (am (au (X := Nat) (fun i => ⟨[(1, ptr a.data), (28, sO a.pts), (29, eI a.pts.length), (30, eI i)], []⟩) (fun i => i ≤ a.pts.length ∧ ∀ j, j < i → pN a.code.length a.pts j = true) (fun i => a.pts.length - i) 0 (Ent.env ⟨Z, Z, Z, Z, trivial⟩) ?_ (fun i hi => ?_)))))
 exact ⟨cC _, fun j hj => absurd hj (Nat.not_lt_zero j)⟩
 refine ae (js O Z (jn (ag (ab O Z Z (fun hc31 => ?_) (fun hc31 => ?_)))))
 refine ah (ag (am (ae ?_)))
 have hil : i < a.pts.length := by have := aQ hc31; omega
 have hcl := (qd (iL hc26).2.2).2
 refine js O Z ?_
 first | refine nu O Z Z ?_ | refine ir O Z Z ?_ | refine bb O Z Z ?_
 refine js O Z (jf [34,32,31,1,28,29,30] Z (jl O Z (ap ?_)))
 refine js O Z (jf [3,4,34,31,1,28,29,30] Z (jo O Z (ap ?_)))
 refine ay (Ent.freeze 4 (e' := [(4, _), (1, _), (28, _), (29, _), (30, _), (3, _)]) Z (.cons Z (.c (.box (cs := (a.pts.getD i default).cells) Z (aC Z))) (fe [1,28,29,30,3] Z)) (.skip .nil)) ?_
 refine ap ?_
 refine jn (ag (cU (F := ⟨[(63, eB (bif (bif !bW (a.pts.getD i default).fs 6 then true else !(dp 0 ((a.code.length : Int) - 1) (a.pts.getD i default).k)) then true else (bif decide ((0 : Int) < i) then decide ((a.pts.getD i default).k ≤ (a.pts.getD (i - 1) default).k) else false))), (1, ptr a.data), (28, sO a.pts), (29, eI a.pts.length), (30, eI i)], []⟩) ?_ ?_))
 cases hb6 : !bW (a.pts.getD i default).fs 6 with
 | true =>
  refine sv O [_,_,_,_,_,_,_,_,_,_,_,_,_,_,_,_,_,_,_,_,_,_,_,_,_,_,_,_,_] [pn [] 0 0, pn [0] 0 0, pe [0,1] 0, pn [0,1,2] 1 1, pn (rg 0 4) 1 1, pn (rg 0 5) 0 1, pn (rg 0 6) 0 1, pn (rg 0 5) 0 1, pn [0,1,2,3,4,7] 0 1, pn [0,1,2,3,4,7,8] 0 1, pn (rg 0 10) 0 1, pn (rg 0 11) 0 1, pn (rg 0 12) 1 1, pn (rg 0 13) 1 1, pn (rg 0 14) 0 1, pn (rg 0 15) 0 1, pn (rg 0 16) 0 1, pn (rg 0 17) 0 1, pn (rg 0 18) 0 1, pn (rg 0 17) 0 1, pn (rg 0 17++[19]) 0 1, pn (rg 0 21) 0 1, pn (rg 0 22) 0 1, pn (rg 0 23) 0 1, pn (rg 0 17) 0 1, pn (rg 0 17++[24]) 0 1, pn (rg 0 26) 0 1, pn (rg 0 27) 0 1, pn (rg 0 28) 1 1] [2] [_,_] (kc O Z (kc O Z (ai (bu O (B0 := 38000) Z Z Z Z (pS h1 h2) (aa Z) Z Z Z Z Z) (ai ((V O Z).cast (v' := eB true) (congrArg eB hb6)) (kc O Z (ai ⟨Z, Z⟩ (ai ⟨Z, Z⟩ (ai ⟨Z, Z⟩ (ai ⟨Z, Z⟩ (ai ⟨Z, Z⟩ (ai ⟨Z, Z⟩ (ai ⟨Z, Z⟩ (ai (bd O Z Z Z Z Z) (kc O Z (ai ⟨Z, Z⟩ (ai ⟨Z, Z⟩ (ai ⟨Z, Z⟩ (ai ⟨Z, Z⟩ (ai ⟨Z, Z⟩ (ai ⟨Z, Z⟩ (ai ⟨Z, Z⟩ (ai ⟨Z, Z⟩ (ai ⟨Z, Z⟩ (ai ⟨Z, Z⟩ (ai ⟨Z, Z⟩ (ai ⟨Z, Z⟩ (ai ⟨Z, Z⟩ (ai ⟨Z, Z⟩ (ai (bd O Z Z Z Z Z) trivial))))))))))))))))))))))))))))) ?_
  exact ⟨Z, Ent.env ⟨Z, Z, Z, Z, Z, trivial⟩⟩
 | false =>
  cases hb6b : !(dp 0 ((a.code.length : Int) - 1) (a.pts.getD i default).k) with
  | true =>
   refine sv O [_,_,_,_,_,_,_,_,_,_,_,_,_,_,_,_,_,_,_,_,_,_,_,_,_,_,_,_,_] [pn [] 0 0, pn [0] 0 0, pe [0,1] 0, pn [0,1,2] 1 1, pn (rg 0 4) 1 1, pn (rg 0 5) 1 1, pn (rg 0 6) 1 1, pn (rg 0 5) 1 1, pn [0,1,2,3,4,7] 1 1, pn [0,1,2,3,4,7,8] 1 1, pe (rg 0 10) 1, pn (rg 0 11) 2 2, pn (rg 0 12) 2 2, pn (rg 0 13) 2 2, pn (rg 0 14) 0 2, pn (rg 0 15) 0 2, pn (rg 0 16) 0 2, pn (rg 0 17) 0 2, pn (rg 0 18) 0 2, pn (rg 0 17) 0 2, pn (rg 0 17++[19]) 0 2, pn (rg 0 21) 0 2, pn (rg 0 22) 0 2, pn (rg 0 23) 0 2, pn (rg 0 17) 0 2, pn (rg 0 17++[24]) 0 2, pn (rg 0 26) 0 2, pn (rg 0 27) 0 2, pn (rg 0 28) 2 2] [2,10] [_,_,_] (kc O Z (kc O Z (ai (bu O (B0 := 38000) Z Z Z Z (pS h1 h2) (aa Z) Z Z Z Z Z) (ai ((V O Z).cast (v' := eB false) (congrArg eB hb6)) (kc O Z (kc O Z (kc O Z (kc O Z (kc O Z (ai (cp O Z Z Z Z Z Z Z Z) (ai (bu O (B0 := 46000) Z Z Z Z (qx (k := (a.pts.getD i default).k) (n := a.code.length) h1 h2 (by omega)) (aa Z) Z Z Z Z Z) (ai ((V O Z).cast (v' := eB true) (congrArg eB hb6b)) (ai (aH O Z Z Z Z Z) (kc O Z (ai ⟨Z, Z⟩ (ai ⟨Z, Z⟩ (ai ⟨Z, Z⟩ (ai ⟨Z, Z⟩ (ai ⟨Z, Z⟩ (ai ⟨Z, Z⟩ (ai ⟨Z, Z⟩ (ai ⟨Z, Z⟩ (ai ⟨Z, Z⟩ (ai ⟨Z, Z⟩ (ai ⟨Z, Z⟩ (ai ⟨Z, Z⟩ (ai ⟨Z, Z⟩ (ai ⟨Z, Z⟩ (ai (bd O Z Z Z Z Z) trivial))))))))))))))))))))))))))))) ?_
   exact ⟨Z, Ent.env ⟨Z, Z, Z, Z, Z, trivial⟩⟩
  | false =>
   cases hb6c : decide ((0 : Int) < i) with
   | true =>
    have hi0 : 0 < i := by have := aQ hb6c; omega
    refine sv O [_,_,_,_,_,_,_,_,_,_,_,_,_,_,_,_,_,_,_,_,_,_,_,_,_,_,_,_,_] [pn [] 0 0, pn [0] 0 0, pe [0,1] 0, pn [0,1,2] 1 1, pn (rg 0 4) 1 1, pn (rg 0 5) 1 1, pn (rg 0 6) 1 1, pn (rg 0 5) 1 1, pn [0,1,2,3,4,7] 1 1, pn [0,1,2,3,4,7,8] 1 1, pe (rg 0 10) 1, pn (rg 0 11) 2 2, pn (rg 0 12) 2 2, pn (rg 0 13) 2 2, pn (rg 0 14) 2 2, pn (rg 0 15) 2 2, pn (rg 0 16) 2 2, pn (rg 0 17) 2 2, pn (rg 0 18) 2 2, pn (rg 0 17) 2 2, pn (rg 0 17++[19]) 2 2, pn (rg 0 21) 2 2, pn (rg 0 22) 2 2, pn (rg 0 23) 2 2, pn (rg 0 17) 2 2, pn (rg 0 17++[24]) 2 2, pn (rg 0 26) 2 2, pn (rg 0 27) 2 2, pn (rg 0 28) 2 2] [2,10] [_,_,_] (kc O Z (kc O Z (ai (bu O (B0 := 38000) Z Z Z Z (pS h1 h2) (aa Z) Z Z Z Z Z) (ai ((V O Z).cast (v' := eB false) (congrArg eB hb6)) (kc O Z (kc O Z (kc O Z (kc O Z (kc O Z (ai (cp O Z Z Z Z Z Z Z Z) (ai (bu O (B0 := 46000) Z Z Z Z (qx (k := (a.pts.getD i default).k) (n := a.code.length) h1 h2 (by omega)) (aa Z) Z Z Z Z Z) (ai ((V O Z).cast (v' := eB false) (congrArg eB hb6b)) (ai (aH O Z Z Z Z Z) (kc O Z (kc O Z (ai ((V O Z).cast (v' := eB true) (congrArg eB hb6c)) (kc O Z (kc O Z (kc O Z (kc O Z (ai ((vF O Z).cast (v' := eI ((i - 1 : Nat) : Int)) (congrArg eI (by omega))) (ai (vN O Z) (kc O Z (kc O Z (kc O Z (kc O Z (kc O Z (ai (bd O Z Z Z Z Z) (ai (aH O Z Z Z Z Z) trivial))))))))))))))))))))))))))))) ?_
    exact ⟨Z, Ent.env ⟨Z, Z, Z, Z, Z, trivial⟩⟩
   | false =>
    refine sv O [_,_,_,_,_,_,_,_,_,_,_,_,_,_,_,_,_,_,_,_,_,_,_,_,_,_,_,_,_] [pn [] 0 0, pn [0] 0 0, pe [0,1] 0, pn [0,1,2] 1 1, pn (rg 0 4) 1 1, pn (rg 0 5) 1 1, pn (rg 0 6) 1 1, pn (rg 0 5) 1 1, pn [0,1,2,3,4,7] 1 1, pn [0,1,2,3,4,7,8] 1 1, pe (rg 0 10) 1, pn (rg 0 11) 2 2, pn (rg 0 12) 2 2, pn (rg 0 13) 2 2, pn (rg 0 14) 2 2, pn (rg 0 15) 2 2, pn (rg 0 16) 2 2, pn (rg 0 17) 0 2, pn (rg 0 18) 0 2, pn (rg 0 17) 0 2, pn (rg 0 17++[19]) 0 2, pn (rg 0 21) 0 2, pn (rg 0 22) 0 2, pn (rg 0 23) 0 2, pn (rg 0 17) 0 2, pn (rg 0 17++[24]) 0 2, pn (rg 0 26) 0 2, pn (rg 0 27) 2 2, pn (rg 0 28) 2 2] [2,10] [_,_,_] (kc O Z (kc O Z (ai (bu O (B0 := 38000) Z Z Z Z (pS h1 h2) (aa Z) Z Z Z Z Z) (ai ((V O Z).cast (v' := eB false) (congrArg eB hb6)) (kc O Z (kc O Z (kc O Z (kc O Z (kc O Z (ai (cp O Z Z Z Z Z Z Z Z) (ai (bu O (B0 := 46000) Z Z Z Z (qx (k := (a.pts.getD i default).k) (n := a.code.length) h1 h2 (by omega)) (aa Z) Z Z Z Z Z) (ai ((V O Z).cast (v' := eB false) (congrArg eB hb6b)) (ai (aH O Z Z Z Z Z) (kc O Z (kc O Z (ai ((V O Z).cast (v' := eB false) (congrArg eB hb6c)) (kc O Z (ai ⟨Z, Z⟩ (ai ⟨Z, Z⟩ (ai ⟨Z, Z⟩ (ai ⟨Z, Z⟩ (ai ⟨Z, Z⟩ (ai ⟨Z, Z⟩ (ai ⟨Z, Z⟩ (ai ⟨Z, Z⟩ (ai ⟨Z, Z⟩ (ai ⟨Z, Z⟩ (ai (aH O Z Z Z Z Z) (ai (aH O Z Z Z Z Z) trivial))))))))))))))))))))))))))))) ?_
    exact ⟨Z, Ent.env ⟨Z, Z, Z, Z, Z, trivial⟩⟩
 refine ab O Z Z (fun hc63 => ?_) (fun hc63 => ?_)
 refine ae (js O Z (jr ?_))
 refine ⟨.inl Z, _, aj, _, Z, ?_⟩
 rw [(iL hc26).1, mX i hil (qK (xN.symm.trans hc63))]
 refine ah (ak ?_)
 first | refine ji O Z ?_ | refine bb O Z Z ?_
 refine js O Z (jn ?_)
 have h9 : pN a.code.length a.pts i = true := mF (xN.symm.trans hc63)
 refine ⟨i + 1, Ent.env ⟨Z, Z, Z, Z, trivial⟩, ⟨by omega, fun j hj => ?_⟩, by omega⟩
 by_cases e : j = i
 subst e; exact h9
 exact hi.2 j (by omega)
 refine aU (ae (js O Z (jr ?_)))
 refine ⟨.inl Z, _, aj, _, Z, ?_⟩
 rw [(iL hc26).1, pq fun j hj => hi.2 j (by have := bB hc31; omega)]
structure WkOk (a : An) (d : List Bool) : Prop where
  len : d.length = a.code.length
  xW : a.code.length ≤ 80
  jmp : ∀ x ∈ a.code, -1000000 ≤ x.a ∧ x.a ≤ 1000000 ∧ (qL x = true → 0 ≤ x.a)
  pts : ∀ p ∈ a.pts, 0 ≤ p.k ∧ p.k ≤ 79
structure Cs where
  code : List In
  pts : List Pt
  fr : List Int
  to : List Int
mutual
/-- Each element has a place of its own, and behind it the statements that it dP. -/
def Tr.cok (n : Nat) : Tr → Prop
  | .node s a ks => (0 ≤ a ∧ a < n) ∧ (s.sum.term = true ∧ s.index.term = true) ∧ (tN s = true ∧ (ks.length : Int) = uf s.kind) ∧ Trs.cok n ks
def Trs.cok (n : Nat) : List Tr → Prop
  | [] => True
  | t :: r => t.cok n ∧ Trs.cok n r
end
mutual
def Tr.nodes : Tr → Nat
  | .node _ _ ks => 1 + Trs.nodes ks
def Trs.nodes : List Tr → Nat
  | [] => 0
  | t :: r => t.nodes + Trs.nodes r
end
structure CsLe (m : Nat) (c d : Cs) : Prop where
  code : d.code.length ≤ c.code.length + 30 * m
  pts : d.pts.length ≤ c.pts.length + m
  fr : d.fr.length = c.fr.length
  to : d.to.length = c.to.length
  ge : c.code.length ≤ d.code.length
def tg (x : In) (k : Int) : List Int :=
  if x.op = 11 then [] else if x.op = 5 then [x.a] else if x.op = 6 then (if x.a < k + 1 then [x.a, k + 1] else if x.a = k + 1 then [k + 1] else [k + 1, x.a]) else [k + 1]
theorem ki {x : In} {k : Int} : (tg x k).length ≤ 2 := by
 unfold tg; split
 simp
 split
 simp
 split
 split
 simp
 split <;> simp
 simp
inductive Rch (c : List In) (st : List Int) : Nat → Prop
  | start {z : Int} : z ∈ st → 0 ≤ z → z < c.length → Rch c st z.toNat
  | step {k : Nat} {z : Int} : Rch c st k → z ∈ tg (c.getD k default) k → 0 ≤ z → z < c.length → Rch c st z.toNat
open Classical in
structure Rsh (c : List In) (st : List Int) (u : List Bool) (ws : List Int) : Prop where
  len : u.length = c.length
  nn : ∀ z ∈ ws, 0 ≤ z ∧ z ≤ 100
  sd : ∀ k, k < c.length → u.getD k default = true → Rch c st k
  sw : ∀ z ∈ ws, z < c.length → Rch c st z.toNat
  cl : ∀ k, k < c.length → u.getD k default = true → ∀ z ∈ tg (c.getD k default) k, 0 ≤ z → z < c.length → u.getD z.toNat default = true ∨ z ∈ ws
  cs : ∀ z ∈ st, 0 ≤ z → z < c.length → u.getD z.toNat default = true ∨ z ∈ ws
def gW (u : List Bool) : Nat := u.count false
theorem cP {u : List Bool} {j k : Nat} (hj : j < u.length) : (u.set j true).getD k default = true ↔ (k = j ∨ u.getD k default = true) := by
 rw [List.getD_eq_getElem?_getD, List.getD_eq_getElem?_getD, List.getElem?_set]
 by_cases h : j = k
 subst h; simp [hj]
 rw [if_neg h]
 constructor
 intro g; exact .inr g
 rintro (rfl | g)
 exact absurd Z h
 exact g
theorem se {u : List Bool} {j : Nat} (hj : j < u.length) (h : u.getD j default = false) : gW (u.set j true) + 1 = gW u := by
 unfold gW
 rw [aw hj] at h
 have hp : 0 < u.count false := List.count_pos_iff.2 (h ▸ List.getElem_mem hj)
 rw [List.count_set hj]
 simp [h]
 omega
theorem qe {n : Nat} : gW (List.replicate n false) = n := by simp [gW]
structure DpOk (a : An) : Prop where
  xW : a.code.length ≤ 80
  jmp : ∀ x ∈ a.code, -1000000 ≤ x.a ∧ x.a ≤ 1000000 ∧ (qL x = true → 0 ≤ x.a)
  pts : ∀ p ∈ a.pts, 0 ≤ p.k ∧ p.k ≤ 79
theorem fv {α β : Type} [Inhabited α] {l : List α} {f : α → β} {n j : Nat} (h : n < l.length) (hj : j = n) : (l.map f)[j]? = some (f (l.getD n default)) := by subst hj; simp [h]
theorem sB {α β : Type} {l : List α} {f : α → β} {n j : Nat} {v : α} {ds : β} (hj : j = n) (hd : ds = f v) : (l.map f).set j ds = (l.set n v).map f := by subst hj; subst hd; rw [List.map_set]
theorem gO {σ : Sg} {o : Oper} {s : St} (hσ : SgOk σ) {t l off m sz : Nat} {x lo : Operand} {k : IntKind} {own : Bool} {xs : List (List D)} {i ti : TI} (ho : o.op = .slice t x (some lo) none none) (hs : Al.Oper.shorts o = true) (hx : ev s x = some (.c (.rs l off (m + 1)))) (hh : ev s lo = some (.c (.d (.int k 1)))) (hl : lk s.H l = some (.row own sz xs))
    (hi' : lk σ.tt t = some i) (hk : Nat.beq i.kind 1 = true) (ht : lk σ.tt i.elem = some ti) (hz : Nat.beq sz ti.size = true) : Val σ s o (.c (.rs l (off + 1) m)) := by
 refine Val.of hσ ?_ hs
 simp [fz, ho, opt, hx, hh, hZ, hi', hk, ht, hz, nat?, hl]
theorem xx : MQ h1 h2 198 [.c (.d (.int .u64 2))] [] (Plain (eI 2)) := by
 refine aB ?_ Z
 refine jB 25 h1 h2 Tryz.func198 Z Z Z fun O hF => ?_
 refine ae (js O Z (jn (ag (ae (j2 O Z Z (jn (ab O Z Z (fun hc4 => ?_) (fun hc4 => ?_))))))))
 exact absurd hc4 (by decide)
 refine ah (ag (ae (j2 O Z Z (jn (ab O Z Z (fun hc8 => ?_) (fun hc8 => ?_))))))
 exact absurd hc8 (by decide)
 refine ah (ag (ae (j2 O Z Z (jn (ab O Z Z (fun hc14 => ?_) (fun hc14 => ?_))))))
 exact absurd hc14 (by decide)
 refine ah (ae (j2 O Z Z (AOps.step ((Val.conv O (k' := .u8) (dt := .int .u64) (b := true) Z Z Z (by kernel_rfl) (by kernel_rfl)).cast (v' := .c (.d (.int .u8 2))) Z) Z Z Z (AOps.step (Val.of O (v := .c (.d (.int .u8 2))) (by kernel_rfl) (by kernel_rfl)) Z Z Z (AOps.step ((Val.conv O (k' := .i64) (dt := .int .u8) (b := true) Z Z Z (by kernel_rfl) (by kernel_rfl)).cast (v' := eI 2) Z) Z Z Z (AOps.step ((aG O Z Z (by decide) (by decide)).cast (v' := eI 2) Z) Z Z Z (js O Z (jr ?_))))))))
 refine ⟨.inl Z, _, aj, _, Z, ?_⟩
 rfl
theorem xA : MQ h1 h2 183 [.c (.d (.int .u64 2))] [] (Plain (eI 2)) := by
 refine aB ?_ Z
 refine jB 8 h1 h2 Tryz.func183 Z Z Z fun O hF => ?_
 refine ae (js O Z (jn (ag (ab O Z Z (fun hc => ?_) (fun hc => ?_)))))
 cases hc
 refine ah (ae (js O Z (ac O Z Z Z Z (xx h1 h2) (aa Z) Z Z Z Z Z (B0 := 8000) Z (js O Z (jr ?_)))))
 refine ⟨.inl Z, _, aj, _, Z, ?_⟩
 rfl
theorem xw {x : Int} : MQ h1 h2 204 [eI x] [] (Plain (eB false)) := by
 refine aB ?_ Z
 refine jB 6 h1 h2 Tryz.func204 Z Z Z fun O hF => ?_
 refine ae (js O Z (aN (j4 O Z Z Z Z (jr ?_))))
 refine ⟨.inl Z, _, aj, _, Z, ?_⟩
 simp
theorem xy {x y : Int} : MQ h1 h2 194 [eI x, eI y] [] (Plain (eB (decide (x < y)))) := by
 refine aB ?_ Z
 refine jB 17 h1 h2 Tryz.func194 Z Z Z fun O hF => ?_
 refine ae (js O Z (aN (js O Z (ac O Z Z Z Z (xw (x := x) h1 h2) (aa Z) Z Z Z Z Z (B0 := 7000) Z (js O Z (AOps.skip Z Z Z Z Z Z (AOps.skip Z Z Z Z Z Z (AOps.skip Z Z Z Z Z Z (AOps.step (aH O Z Z Z Z Z) Z Z Z (js O Z (bp Z (js O Z (bp Z (js O Z (bp Z (js O Z (AOps.step (aH O Z Z Z Z Z) Z Z Z (js O Z (jr ?_)))))))))))))))))))
 refine ⟨.inl Z, _, aj, _, Z, ?_⟩
 rfl
def pM (x y : Int) : List Int := if y < x then [y, x] else [x, y]
theorem wS {x y : Int} (h : y < x) : pM x y = [y, x] := if_pos h
theorem wT {x y : Int} (h : ¬ y < x) : pM x y = [x, y] := if_neg h
theorem xE {a b : Bool} (h : (bif a then b else false) = true) : a = true ∧ b = true := by cases a <;> cases b <;> simp_all
variable {b : Int}
theorem xz {a : Int} : MQ h1 h2 188 [.c (.rs 0 0 2), eI 0, eI 2] [(0, aE [a, b])] (aY (.tup []) [(0, aE (pM a b))]) := by
 refine aI 500 Z (jH 49 [500] h1 h2 Tryz.func188 Z Z Z Z fun O hF => ?_)
 refine ae (js O Z (AOps.step ((aG O Z Z (by decide) (by decide)).cast (v' := eI 1) Z) Z Z Z (js O Z (jf [6,0,1,2] Z (jn (am (au (X := Int × List Int) (fun x => ⟨[(0, .c (.rs 500 0 2)), (1, eI 0), (2, eI 2), (6, eI x.1)], [(500, aE x.2)]⟩) (fun x => (x.1 = 1 ∧ x.2 = [a, b]) ∨ (x.1 = 2 ∧ x.2 = pM a b)) (fun x => (2 - x.1).toNat) (1, [a, b]) (Ent.to ⟨Z, Z, Z, Z, trivial⟩ Z) ?_ (fun x hi => ?_))))))))
 exact .inl ⟨Z, Z⟩
 refine ag (ae (j3 O Z Z Z (jf [12,0,1,2,6] Z (jn (ab O Z Z (fun hc12 => ?_) (fun hc12 => ?_))))))
 refine ah (ag (am (ae ?_)))
 obtain ⟨ex1, ex2⟩ : x.1 = 1 ∧ x.2 = [a, b] := hi.resolve_right (fun g => by rw [g.1] at hc12; exact absurd hc12 (by decide))
 rw [ex1, ex2]
 refine j2 O Z Z (jn (am (au (X := Int × List Int) (fun z => ⟨[(0, .c (.rs 500 0 2)), (1, eI 0), (2, eI 2), (6, eI 1), (7, eI z.1)], [(500, aE z.2)]⟩) (fun z => (z.1 = 1 ∧ z.2 = [a, b]) ∨ (z.1 = 0 ∧ z.2 = [b, a] ∧ b < a)) (fun z => z.1.toNat) (1, [a, b]) (Ent.to ⟨Z, Z, Z, Z, Z, trivial⟩ Z) ?_ (fun z hi => ?_))))
 exact .inl ⟨Z, Z⟩
 refine ag (ag (cU ⟨[(30, eB (bif decide ((0 : Int) < z.1) then decide (b < a) else false)), (0, .c (.rs 500 0 2)), (1, eI 0), (2, eI 2), (6, eI 1), (7, eI z.1)], [(500, aE z.2)]⟩ ?_ ?_))
 cases hb4 : decide ((0 : Int) < z.1) with
 | true =>
  obtain ⟨g1, g2⟩ : z.1 = 1 ∧ z.2 = [a, b] := hi.resolve_right (fun g => by have := aQ hb4; omega)
  rw [g1, g2]
  refine sv O [_,_,_,_,_,_,_,_,_,_,_,_,_,_,_] [pn [] 0 0, pn [] 0 0, pn [0,1] 0 0, pn [0,1,2] 0 0, pn (rg 0 4) 0 0, pn (rg 0 4) 0 0, pn (rg 0 6) 0 0, pn (rg 0 7) 0 0, pn (rg 0 4) 0 0, pn (rg 0 4) 0 0, pn [0,1,2,3,9] 0 0, pn [0,1,2,3,8,9,10] 0 0, pn (rg 0 4++rg 8 4) 0 0, pe (rg 0 13) 0, pn (rg 0 14) 1 1] [13] [_,_] (kc O Z (kc O Z (ai ((V O Z).cast (v' := eB true) Z) (kc O Z (kc O Z (kc O Z (ai ((V O Z).cast (v' := .c (.pt 500 1 0)) Z) (ai (ar O (ex := [.int .i64 b]) Z Z Z Z Z Z) (kc O Z (kc O Z (ai ((aG O Z Z (by decide) (by decide)).cast (v' := eI 0) Z) (ai ((V O Z).cast (v' := .c (.pt 500 0 0)) Z) (ai (ar O (ex := [.int .i64 a]) Z Z Z Z Z Z) (ai (bu O (B0 := 30000) Z Z Z Z (xy (x := b) (y := a) h1 h2) (aa Z) Z Z Z Z Z) (ai (bd O Z Z Z Z Z) trivial))))))))))))))) ?_
  exact ⟨Z, Ent.to ⟨Z, Z, Z, Z, Z, Z, trivial⟩ Z⟩
 | false =>
  refine sv O [_,_,_,_,_,_,_,_,_,_,_,_,_,_,_] [pn [] 0 0, pn [] 0 0, pn [0,1] 0 0, pn [0,1,2] 0 0, pn (rg 0 4) 0 0, pn (rg 0 4) 0 0, pn (rg 0 6) 0 0, pn (rg 0 7) 0 0, pn (rg 0 4) 0 0, pn (rg 0 4) 0 0, pn [0,1,2,3,9] 0 0, pn [0,1,2,3,8,9,10] 0 0, pn (rg 0 4++rg 8 4) 0 0, pn (rg 0 13) 0 0, pn (rg 0 14) 0 0] [] [_] (kc O Z (kc O Z (ai ((V O Z).cast (v' := eB false) (congrArg eB hb4)) (kc O Z (ai ⟨Z, Z⟩ (ai ⟨Z, Z⟩ (ai ⟨Z, Z⟩ (ai ⟨Z, Z⟩ (ai ⟨Z, Z⟩ (ai ⟨Z, Z⟩ (ai ⟨Z, Z⟩ (ai ⟨Z, Z⟩ (ai ⟨Z, Z⟩ (ai ⟨Z, Z⟩ (ai (aH O Z Z Z Z Z) trivial))))))))))))))) ?_
  exact ⟨Z, Ent.to ⟨Z, Z, Z, Z, Z, Z, trivial⟩ Z⟩
 refine ab O Z Z (fun hc30 => ?_) (fun hc30 => ?_)
 refine ah (ag (am ?_))
 obtain ⟨hc8, hc9⟩ := xE hc30
 have hlt : b < a := aQ hc9
 obtain ⟨ez1, ez2⟩ : z.1 = 1 ∧ z.2 = [a, b] := hi.resolve_right (fun g => by have := aQ hc8; omega)
 rw [ez1, ez2]
 refine jS O [_,_,_,_,_,_,_,_,_,_,_,_,_,_,_,_,_,_] [pn [] 0 0, pn [] 0 0, pn [] 0 1, pn [] 0 1, pn [3] 0 1, pn [] 0 0, pn [] 0 0, pn [6] 0 0, pn [5,6,7] 0 0, pn (rg 5 4) 0 0, pn [] 0 0, pn [] 0 0, pn [10,11] 0 0, pn [10,11,12] 0 0, pn ([0,1]++rg 5 9) 0 0, pe ([0,1]++rg 5 10) 0, pn (rg 0 16) 1 1, pe (rg 0 17) 1] [15,17] [_,_,_] (kc O Z (kc O Z (ai (kc O Z (V O Z)) (ai (kc O Z (V O Z)) (ai (ai ((aG O Z Z (by decide) (by decide)).cast (v' := eI 0) Z) ((aG O Z Z (by decide) (by decide)).cast (v' := eI 0) Z)) (kc O Z (kc O Z (ai ((aG O Z Z (by decide) (by decide)).cast (v' := eI 0) Z) (ai ((V O Z).cast (v' := .c (.pt 500 0 0)) Z) (ai (ar O (ex := [.int .i64 a]) Z Z Z Z Z Z) (kc O Z (kc O Z (ai ((V O Z).cast (v' := .c (.pt 500 1 0)) Z) (ai (ar O (ex := [.int .i64 b]) Z Z Z Z Z Z) (ai ((V O Z).cast (v' := .c (.pt 500 1 0)) Z) (ai (cX (ex := [.int .i64 b]) (xs' := [a, a].map (fun n => [D.int .i64 n])) O Z Z Z Z Z Z Z Z Z Z Z Z Z Z Z Z Z Z) (ai ((V O Z).cast (v' := .c (.pt 500 0 0)) Z) (ai (cX (ex := [.int .i64 a]) (xs' := [b, a].map (fun n => [D.int .i64 n])) O Z Z Z Z Z Z Z Z Z Z Z Z Z Z Z Z Z Z) trivial)))))))))))))))))) ?_
 refine jw [30,0,1,2,6,7] Z (ct ?_)
 refine ak (js O Z (AOps.step ((aG O Z Z (by decide) (by decide)).cast (v' := eI 0) Z) Z Z Z (js O Z (jf [7,30,0,1,2,6] Z (jn ?_)))))
 refine ⟨(0, [b, a]), Ent.to ⟨Z, Z, Z, Z, Z, trivial⟩ Z, .inr ⟨Z, Z, hlt⟩, by show (0 : Int).toNat < (1 : Int).toNat; decide⟩
 refine aU (ak ?_)
 have hz9 : pM a b = z.2 := by
  rcases hi with ⟨g1, g2⟩ | ⟨g1, g2, g3⟩
  rw [g2]; exact wT (fun g => by rw [g1, decide_eq_true g] at hc30; cases hc30)
  rw [g2]; exact wS g3
 refine js O Z (AOps.step ((aG O Z Z (by decide) (by decide)).cast (v' := eI 2) Z) Z Z Z (js O Z (jf [6,30,0,1,2,7] Z (jn ?_))))
 refine ⟨(2, pM a b), Ent.to ⟨Z, Z, Z, Z, trivial⟩ (by rw [hz9]), .inr ⟨Z, Z⟩, by show ((2 : Int) - 2).toNat < ((2 : Int) - 1).toNat; decide⟩
 refine aU ?_
 show _ ∧ _
 obtain ⟨ex1, ex2⟩ : x.1 = 2 ∧ x.2 = pM a b := hi.resolve_left (fun g => by rw [g.1] at hc12; exact absurd hc12 (by decide))
 rw [ex2]
 refine ⟨.inr Z, _, aj, _, Z, Z, Z⟩
theorem xC {a : Int} : MQ h1 h2 182 [.c (.rs 0 0 2), eI 0, eI 2, eI 2] [(0, aE [a, b])] (aY (.tup []) [(0, aE (pM a b))]) := by
 refine aI 500 Z (jH 134 [500] h1 h2 Tryz.func182 Z Z Z Z fun O hF => ?_)
 refine ae (js O Z (aN (js O Z (jn (am (au (X := Unit) (fun _u => ⟨[(0, .c (.rs 500 0 2)), (1, eI 0), (2, eI 2)], [(500, aE [a, b])]⟩) (fun _u => True) (fun _u => 0) () (Ent.to ⟨Z, Z, Z, trivial⟩ Z) ?_ (fun _ hi => ?_)))))))
 trivial
 refine am (ae (j2 O Z Z (AOps.step ((aG O Z Z (by decide) (by decide)).cast (v' := eI 2) Z) Z Z Z (js O Z (jf [10,0,1,2] Z (jn (ag (ae (j2 O Z Z (jn (ab O Z Z (fun hc23 => ?_) (fun hc23 => ?_))))))))))))
 refine ae (j3 O Z Z Z (aq O [500] (bin := [aE [a, b]]) Z Z Z Z (xz (a := a) (b := b) h1 h2) Z Z Z Z Z Z (B0 := 28000) Z Z (ap ?_)))
 refine jf [23,22,10,0,1,2] Z (jr ?_)
 refine ⟨.inl Z, _, aj, _, Z, Z, Z⟩
 exact absurd hc23 (by decide)
theorem xD {a : Int} : MQ h1 h2 166 [.c (.rs 0 0 2)] [(0, aE [a, b])] (aY (.tup []) [(0, aE (pM a b))]) := by
 refine aI 500 Z (jH 11 [500] h1 h2 Tryz.func166 Z Z Z Z fun O hF => ?_)
 refine ae (js O Z ?_)
 first | refine bw O Z ?_ | refine js O Z ?_ | refine bb O Z Z ?_
 refine js O Z (jf [2,0] Z (jn (ak (j3 O Z Z Z (AOps.step ((Val.conv O (k' := .u64) (dt := .int .i64) (b := true) Z Z Z (by kernel_rfl) (by kernel_rfl)).cast (v' := .c (.d (.int .u64 2))) Z) Z Z Z (jf [8,6,5,0] Z (ac O Z Z Z Z (xA h1 h2) (aa Z) Z Z Z Z Z (B0 := 10000) Z (jf [9,6,5,0] Z (aq O [500] (bin := [aE [a, b]]) Z Z Z Z (xC (a := a) (b := b) h1 h2) Z Z Z Z Z Z (B0 := 11000) Z Z (ap ?_))))))))))
 refine jf [0] Z (jn ?_)
 show _ ∧ _
 refine ⟨.inr Z, _, aj, _, Z, Z, Z⟩
theorem rM {a : Int} : MQ h1 h2 167 [.c (.rs 0 0 2)] [(0, aE [a, a])] (aY (.c (.rs 0 0 1)) [(0, aE [a, 0])]) := by
 refine aI 500 Z (jH 61 [500] h1 h2 Tryz.func167 Z Z Z Z fun O hF => ?_)
 refine ae (js O Z (jn (ag (ae (js O Z ?_)))))
 first | refine bw O Z ?_ | refine js O Z ?_ | refine bb O Z Z ?_
 refine js O Z (jf [8,2,0] Z (jn (ab O Z Z (fun hc8 => ?_) (fun hc8 => ?_))))
 exact absurd hc8 (by decide)
 refine ah (ag (ae (js O Z (jn (am (au (X := Int) (fun k => ⟨[(0, .c (.rs 500 0 2)), (3, eI k)], [(500, aE [a, a])]⟩) (fun k => k = 1 ∨ (k = 2 ∧ False)) (fun k => (2 - k).toNat) 1 (Ent.to ⟨Z, Z, trivial⟩ Z) ?_ (fun k hi => ?_)))))))
 exact .inl Z
 refine ag (ae (j2 O Z Z ?_))
 first | refine bw O Z ?_ | refine js O Z ?_ | refine bb O Z Z ?_
 refine js O Z (jf [13,0,3] Z (jn (ab O Z Z (fun hc13 => ?_) (fun hc13 => ?_))))
 refine ah (ag (am (ag ?_)))
 obtain ek : k = 1 := hi.resolve_right (fun g => g.2)
 rw [ek]
 refine jS O [_,_,_,_,_,_,_,_,_,_] [pn [] 0 0, pn [] 0 0, pn [0,1] 0 0, pn [0,1,2] 0 0, pn [] 0 0, pn [] 0 0, pn [5] 0 0, pn [4,5,6] 0 0, pn (rg 4 4) 0 0, pn (rg 0 9) 0 0] [] [_] (kc O Z (kc O Z (ai ((V O Z).cast (v' := .c (.pt 500 1 0)) Z) (ai (ar O (ex := [.int .i64 a]) Z Z Z Z Z Z) (kc O Z (kc O Z (ai ((aG O Z Z (by decide) (by decide)).cast (v' := eI 0) Z) (ai ((V O Z).cast (v' := .c (.pt 500 0 0)) Z) (ai (ar O (ex := [.int .i64 a]) Z Z Z Z Z Z) (kc O Z trivial)))))))))) ?_
 refine jw [25,13,0,3] Z (ct ?_)
 refine ab O Z Z (fun hc25 => ?_) (fun hc25 => ?_)
 refine ae (j2 O Z Z (AOps.step (gO O Z Z Z Z Z Z Z Z Z) Z Z Z (js O Z (jf [4,25,13,0,3] Z (jn (ag (ae (js O Z (jn (am (au (X := Unit) (fun _u => ⟨[(0, .c (.rs 500 0 2)), (3, eI 1), (4, .c (.rs 500 1 1)), (5, eI 1)], [(500, aE [a, a])]⟩) (fun _u => True) (fun _u => 0) () (Ent.to ⟨Z, Z, Z, Z, trivial⟩ Z) ?_ (fun _ hi => ?_))))))))))))
 trivial
 refine ag (ae (j2 O Z Z ?_))
 first | refine bw O Z ?_ | refine js O Z ?_ | refine bb O Z Z ?_
 refine js O Z (jf [32,0,3,4,5] Z (jn (ab O Z Z (fun hc32 => ?_) (fun hc32 => ?_))))
 exact absurd hc32 (by decide)
 refine aU (ae (j2 O Z Z (AOps.step (gO O Z Z Z Z Z Z Z Z Z) Z Z Z (jf [56,32,0,3,4,5] Z (AOps.heap (qn (z := .int .i64 0) (ex := [.int .i64 a]) (xs' := [a, 0].map (fun n => [D.int .i64 n])) O Z Z Z Z Z Z Z Z Z Z Z Z Z Z Z Z Z Z Z) Z (ap ?_))))))
 refine ap ?_
 refine aN (j2 O Z Z (AOps.step (fM O Z Z Z Z Z Z Z Z Z (m := 1) Z (by decide)) Z Z Z (js O Z (jf [2,56,32,0,3,4,5] Z (jr ?_)))))
 refine ⟨.inl Z, _, aj, _, Z, Z, Z⟩
 exact absurd hc25 (by rw [decide_eq_true Z]; decide)
 refine aU (ae (j2 O Z Z (jr ?_)))
 have ek : k = 1 := hi.resolve_right (fun g => g.2)
 rw [ek] at hc13
 exact absurd hc13 (by decide)
theorem rL {a : Int} (hab : ¬ b = a) : MQ h1 h2 167 [.c (.rs 0 0 2)] [(0, aE [a, b])] (aY (.c (.rs 0 0 2)) [(0, aE [a, b])]) := by
 refine aI 500 Z (jH 61 [500] h1 h2 Tryz.func167 Z Z Z Z fun O hF => ?_)
 refine ae (js O Z (jn (ag (ae (js O Z ?_)))))
 first | refine bw O Z ?_ | refine js O Z ?_ | refine bb O Z Z ?_
 refine js O Z (jf [8,2,0] Z (jn (ab O Z Z (fun hc8 => ?_) (fun hc8 => ?_))))
 exact absurd hc8 (by decide)
 refine ah (ag (ae (js O Z (jn (am (au (X := Int) (fun k => ⟨[(0, .c (.rs 500 0 2)), (3, eI k)], [(500, aE [a, b])]⟩) (fun k => k = 1 ∨ k = 2) (fun k => (2 - k).toNat) 1 (Ent.to ⟨Z, Z, trivial⟩ Z) ?_ (fun k hi => ?_)))))))
 exact .inl Z
 refine ag (ae (j2 O Z Z ?_))
 first | refine bw O Z ?_ | refine js O Z ?_ | refine bb O Z Z ?_
 refine js O Z (jf [13,0,3] Z (jn (ab O Z Z (fun hc13 => ?_) (fun hc13 => ?_))))
 refine ah (ag (am (ag ?_)))
 obtain ek : k = 1 := hi.resolve_right (fun g => by rw [g] at hc13; exact absurd hc13 (by decide))
 rw [ek]
 refine jS O [_,_,_,_,_,_,_,_,_,_] [pn [] 0 0, pn [] 0 0, pn [0,1] 0 0, pn [0,1,2] 0 0, pn [] 0 0, pn [] 0 0, pn [5] 0 0, pn [4,5,6] 0 0, pn (rg 4 4) 0 0, pn (rg 0 9) 0 0] [] [_] (kc O Z (kc O Z (ai ((V O Z).cast (v' := .c (.pt 500 1 0)) Z) (ai (ar O (ex := [.int .i64 b]) Z Z Z Z Z Z) (kc O Z (kc O Z (ai ((aG O Z Z (by decide) (by decide)).cast (v' := eI 0) Z) (ai ((V O Z).cast (v' := .c (.pt 500 0 0)) Z) (ai (ar O (ex := [.int .i64 a]) Z Z Z Z Z Z) (kc O Z trivial)))))))))) ?_
 refine jw [25,13,0,3] Z (ct ?_)
 refine ab O Z Z (fun hc25 => ?_) (fun hc25 => ?_)
 exact absurd (aQ hc25) hab
 refine ah (ak (js O Z (AOps.step ((aG O Z Z (by decide) (by decide)).cast (v' := eI 2) Z) Z Z Z (js O Z (jf [3,25,13,0] Z (jn ?_))))))
 refine ⟨2, Ent.to ⟨Z, Z, trivial⟩ Z, .inr Z, by show ((2 : Int) - 2).toNat < ((2 : Int) - 1).toNat; decide⟩
 refine aU (ae (j2 O Z Z (jr ?_)))
 refine ⟨.inl Z, _, aj, _, Z, Z, Z⟩
theorem rh {x k : Int} : (if x < k then [x, k] else if x = k then [k] else [k, x]) = if x = k then [k] else pM k x := by
 unfold pM
 by_cases h1 : x < k
 rw [if_pos h1, if_neg (by omega), if_pos h1]
 rw [if_neg h1, if_neg h1]
theorem sY {a b : Int} : ∃ p q, pM a b = [p, q] ∧ (a ≠ b → ¬ q = p) ∧ (a = b → p = b ∧ q = b) := by
 unfold pM
 by_cases h : b < a
 exact ⟨b, a, if_pos h, fun h => h, fun h => ⟨Z, h⟩⟩
 exact ⟨a, b, if_neg h, fun h g => h g.symm, fun h => ⟨h, Z⟩⟩
theorem jz {p : Prop} [Decidable p] (h : decide p = false) : ¬ p := bB h
theorem ud {k : Nat} (hk : k < c.length) (hc : c.length ≤ 1000) : MQ h1 h2 140 [i9 c, eI k] [] (Rows (.c (.rs 0 0 (tg (c.getD k default) k).length)) [aE (tg (c.getD k default) k)]) := by
 refine bm (jB 35 h1 h2 Tryz.func140 Z Z Z fun O hF => ?_)
 refine ae (js O Z (aN (j2 O Z Z (AOps.step (aS O Z Z Z Z Z Z Z Z (c9 hk)) Z Z Z (j2 O Z Z ?_)))))
 first | refine ji O Z ?_ | refine bb O Z Z ?_
 refine jf [13,11,4] Z (jl O Z (ap ?_))
 refine jo O Z (ap ?_)
 refine js O Z (jf [6,5,4] Z (jn (ag (ae (j2 O Z Z (jn (am (ae (j2 O Z Z (jn (ab O Z Z (fun hc16 => ?_) (fun hc16 => ?_))))))))))))
 refine ae (js O Z (jr ?_))
 rw [tg, if_pos (aQ hc16)]
 refine ⟨.inl Z, _, (dk 4 900 1 true Z Z).trans (Ent.to (e' := [(4, _)]) ⟨Z, trivial⟩ Z), _, Z, [900], by decide, Z, Z, Z⟩
 refine ae (j2 O Z Z (jf [18,17,15,14,6,5,4] Z (jn (ab O Z Z (fun hc18 => ?_) (fun hc18 => ?_)))))
 refine ae (j2 O Z Z (jf [21,17,15,14,6,5,4] Z (AOps.heap (bi O Z Z Z) Z (ap ?_))))
 refine js O Z (jf [4,17,15,14,6,5] Z (jr ?_))
 rw [tg, if_neg (jz hc16), if_pos (aQ hc18)]
 refine ⟨.inl Z, _, aj, _, Z, [22], by decide, Z, Z, Z⟩
 refine ae (j2 O Z Z (jf [23,17,15,14,6,5,4] Z (jn (ab O Z Z (fun hc23 => ?_) (fun hc23 => ?_)))))
 refine ae (j3 O Z Z Z (jf [27,25,17,15,14,6,5,4] Z (AOps.heap (bi O Z Z Z) Z (ap ?_))))
 refine js O Z (jf [7,17,15,14,6,5,4] Z (aN (js O Z (aq O [28] (bin := [aE [((k : Int) + 1), (c.getD k default).a]]) Z Z Z Z (xD (a := ((k : Int) + 1)) (b := (c.getD k default).a) h1 h2) Z Z Z Z Z Z (B0 := 31000) Z Z ?_))))
 obtain ⟨p, q, epq, hpq, hpe⟩ := sY (a := ((k : Int) + 1)) (b := (c.getD k default).a)
 refine ap ?_
 rw [epq]
 refine jf [7,17,15,14,6,5,4] Z (aN (js O Z ?_))
 cases hb32 : decide (((k : Int) + 1) = (c.getD k default).a) with
 | true =>
  obtain ⟨ep, eq⟩ := hpe (aQ hb32)
  rw [ep, eq]
  first | refine aq O [28] (bin := [aE [(c.getD k default).a, (c.getD k default).a]]) Z Z Z Z (rM (a := (c.getD k default).a) h1 h2) Z Z Z Z Z Z (B0 := 33000) Z Z ?_ | refine aq O [28] (bin := [aE [p, q]]) Z Z Z Z (rL (a := p) (b := q) h1 h2 hne) Z Z Z Z Z Z (B0 := 33000) Z Z ?_
  refine ap ?_
  refine js O Z (jf [4,7,17,15,14,6,5] Z (jr ?_))
  have hE := aQ hb32
  rw [tg, if_neg (jz hc16), if_neg (jz hc18), if_pos (aQ hc23), rh, if_pos hE.symm]
  rw [hE]
  refine ⟨.inl Z, _, Ent.cut 28 1 Z, _, Z, [28], by decide, Z, Z, Z⟩
 | false =>
  have hne := hpq (bB hb32)
  first | refine aq O [28] (bin := [aE [(c.getD k default).a, (c.getD k default).a]]) Z Z Z Z (rM (a := (c.getD k default).a) h1 h2) Z Z Z Z Z Z (B0 := 33000) Z Z ?_ | refine aq O [28] (bin := [aE [p, q]]) Z Z Z Z (rL (a := p) (b := q) h1 h2 hne) Z Z Z Z Z Z (B0 := 33000) Z Z ?_
  refine ap ?_
  refine js O Z (jf [4,7,17,15,14,6,5] Z (jr ?_))
  have hE := bB hb32
  rw [tg, if_neg (jz hc16), if_neg (jz hc18), if_pos (aQ hc23), rh, if_neg (fun g => hE g.symm), epq]
  refine ⟨.inl Z, _, aj, _, Z, [28], by decide, Z, Z, Z⟩
 refine ah (ae (js O Z (jf [33,17,15,14,6,5,4] Z (AOps.heap (bi O Z Z Z) Z (ap ?_)))))
 refine js O Z (jf [4,17,15,14,6,5] Z (jr ?_))
 rw [tg, if_neg (jz hc16), if_neg (jz hc18), if_neg (jz hc23)]
 refine ⟨.inl Z, _, aj, _, Z, [34], by decide, Z, Z, Z⟩
theorem po {ws : List Int} {z : Int} : ((ws ++ [z]).map (fun n => [D.int .i64 n])).take ws.length = ws.map (fun n => [D.int .i64 n]) := by simp
theorem pC {z : Int} {n : Nat} : dp 0 ((n : Int) - 1) z = true ↔ 0 ≤ z ∧ z < n := by unfold dp; simp only [bA, decide_eq_true_eq]; omega
end Go.Al
