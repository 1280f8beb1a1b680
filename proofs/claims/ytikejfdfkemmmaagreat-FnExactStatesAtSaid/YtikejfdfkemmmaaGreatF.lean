/- Annotated code: its functions and what is reached. -/
import Derived.Test.YtikejfdfkemmmaaGreatH
import Derived.Test.YtikejfdfkemmmaaGreatC
import Derived.Test.YtikejfdfkemmmaaGreatE
set_option linter.unusedVariables false
set_option linter.unusedSimpArgs false
set_option maxRecDepth 10000
set_option maxHeartbeats 4000000
open Go.Proofs
namespace Go.Al
variable {L : Nat} (h1 : 4096 ≤ L) (h2 : L ≤ 1073741824)
structure In where
  op : Int
  a : Int
  deriving Inhabited, DecidableEq
abbrev In.cells (x : In) : List D := [.int .i64 x.op, .int .i64 x.a]
abbrev jS (c : List In) : D := .slc 2 (c.map In.cells)
abbrev jT (c : List In) : A := .c (.d (jS c))
abbrev jR (c : List In) : B := .row true 2 (c.map In.cells)
structure Pt where
  k : Int
  fs : List Tm
  deriving Inhabited, DecidableEq
abbrev Pt.cells (p : Pt) : List D := [.int .i64 p.k, fH p.fs]
abbrev gc (ps : List Pt) : D := .slc 2 (ps.map Pt.cells)
abbrev um (ps : List Pt) : A := .c (.d (gc ps))
abbrev jO (ps : List Pt) : B := .row true 2 (ps.map Pt.cells)
def Pt.size (p : Pt) : Nat := szs Tm.size p.fs
structure An where
  pre : List Tm
  post : List Tm
  code : List In
  pts : List Pt
  deriving Inhabited, DecidableEq
abbrev An.data (a : An) : List D := [fH a.pre, fH a.post, jS a.code, gc a.pts]
abbrev aAn (a : An) : A := .agg (a.data.map .d)
def An.size (a : An) : Nat := szs Tm.size a.pre + szs Tm.size a.post + a.code.length + szs Pt.size a.pts
abbrev ub : Int → In → In := fun k _ => ⟨k, k + 1⟩
abbrev iz : In → Nat := fun _ => 2
abbrev mP : Int → Pt → Pt := fun k p => ⟨k, bq mT nT (k + 1) p.fs⟩
abbrev nP : Pt → Nat := fun p => 1 + bC nT p.fs
def aV (x : In) : Bool :=
  if x.op = 0 ∨ x.op = 4 then num x.a else if x.op = 1 ∨ x.op = 2 then da 0 3 x.a else if x.op = 5 ∨ x.op = 6 then da 0 79 x.a else if x.op = 9 then da 0 3 x.a
  else if x.op = 3 ∨ x.op = 7 ∨ x.op = 8 ∨ x.op = 10 ∨ x.op = 11 then decide (x.a = 0) else false
def eo (c : List In) : Bool := c.all aV && da 1 80 c.length
def rv (n : Nat) (ps : List Pt) (i : Nat) : Bool := da 0 ((n : Int) - 1) (ps.getD i default).k && cf (ps.getD i default).fs 6 && !(decide (0 < i) && decide ((ps.getD i default).k ≤ (ps.getD (i - 1) default).k))
def sj (n : Nat) (ps : List Pt) : Bool := (List.range ps.length).all (rv n ps)
def cK (a : An) : Bool := eo a.code && (cf a.pre 6 && (cf a.post 6 && (decide (a.pts.length ≤ 8) && sj a.code.length a.pts)))
theorem qV {n : Nat} {ps : List Pt} (h : ∀ j, j < ps.length → rv n ps j = true) : sj n ps = true := List.all_eq_true.2 fun j hj => h j (List.mem_range.1 hj)
theorem oc {n : Nat} {ps : List Pt} (j : Nat) (hj : j < ps.length) (h : rv n ps j = false) : sj n ps = false := by
 cases e : sj n ps with
 | false => rfl
 | true => have := List.all_eq_true.1 e j (List.mem_range.2 hj); rw [h] at this; cases this
def sr (x : In) : Bool := decide (x.op = 5) || decide (x.op = 6)
def dB (ps : List Pt) (k : Int) : Bool := ps.any fun p => decide (p.k = k)
def zc (c : List In) (k : Int) : Bool := c.any fun x => sr x && decide (x.a = k)
def plB (c : List In) (ps : List Pt) (k : Int) : Bool := zc c k || dB ps k
def xZ (pl : Int → Bool) : Nat → List In → List In
  | _, [] => []
  | k, x :: r => if pl (k : Int) = true then [] else x :: xZ pl (k + 1) r
def sgt (c : List In) (ps : List Pt) (k : Nat) : List In := match c.drop k with
  | [] => []
  | x :: r => x :: xZ (plB c ps) (k + 1) r
def nN : List Int → List In → Bool
  | [], _ => true
  | _ :: _, [] => false
  | o :: os, x :: s => decide (x.op = o) && nN os s
def sY (x : In) : Bool := decide (x.op = 1) || decide (x.op = 3) || decide (x.op = 7)
def yS (s : List In) : Nat × List In :=
  let x := s.getD 0 default
  let y := s.getD 1 default
  if nN [0,4] s = true ∧ num (x.a * y.a) = true then (2, [⟨0, x.a * y.a⟩])
  else if nN [0,0,3] s = true ∧ num (x.a + y.a) = true then (3, [⟨0, x.a + y.a⟩])
  else if nN [0,1,3] s = true ∧ x.a = 0 then (3, [y])
  else if nN [0,1,4,3] s = true ∧ x.a = 0 then (4, [y, s.getD 2 default])
  else if (sY x = true ∨ x.op = 4) ∧ nN [x.op, 0, 3] s = true ∧ y.a = 0 then (3, [x])
  else if sY x = true ∧ nN [x.op, 4] s = true ∧ y.a = 1 then (2, [x])
  else if nN [4,4] s = true ∧ num (x.a * y.a) = true then (2, [⟨4, x.a * y.a⟩])
  else (0, [])
def AP (k less : Int) (x : In) : In := if sr x = true ∧ k < x.a then ⟨x.op, x.a - less⟩ else x
def sPt (k less : Int) (p : Pt) : Pt := if k < p.k then ⟨p.k - less, p.fs⟩ else p
def AM (a : An) (k n : Nat) (by' : List In) : An :=
  ⟨a.pre, a.post, (a.code.take k ++ by' ++ a.code.drop (k + n)).map (AP k ((n : Int) - by'.length)), a.pts.map (sPt k ((n : Int) - by'.length))⟩
abbrev qs (a : An) (k : Nat) : Nat × List In := yS (sgt a.code a.pts k)
def vp (a : An) : Nat → Nat → Option An
  | 0, _ => none
  | f + 1, k => if 0 < (qs a k).1 then some (AM a k (qs a k).1 (qs a k).2) else vp a f (k + 1)
def zf (a : An) : Option An := vp a a.code.length 0
def vw : Nat → An → An
  | 0, a => a
  | f + 1, a => match zf a with
    | none => a
    | some b => vw f b
def qx (a : An) : An := vw a.code.length a
structure AOk (a : An) : Prop where
  code : ∀ x ∈ a.code, aV x = true
  pts : ∀ p ∈ a.pts, 0 ≤ p.k ∧ p.k ≤ 79
  len : a.code.length ≤ 80
  np : a.pts.length ≤ 8
  npre : a.pre.length ≤ 6
  npost : a.post.length ≤ 6
theorem cP {ts : List Tm} {n : Nat} (h : cf ts n = true) : ts.length ≤ n := by
 simp only [cf, bF, decide_eq_true_eq] at h; omega
theorem u9 {a : An} (h : cK a = true) : AOk a := by
 simp only [cK, eo, da, bF, decide_eq_true_eq] at h
 obtain ⟨⟨h1, h2, h3⟩, h4, h5, h6, h7⟩ := h
 refine ⟨List.all_eq_true.1 h1, fun p hp => ?_, by omega, h6, cP (n := 6) h4, cP (n := 6) h5⟩
 obtain ⟨i, hi, rfl⟩ := List.getElem_of_mem hp
 have := List.all_eq_true.1 h7 i (List.mem_range.2 hi)
 simp only [rv, da, bF, decide_eq_true_eq, ar hi] at this
 omega
structure RuOk (s : List In) (r : Nat × List In) : Prop where
  n : r.1 ≤ s.length
  lt : r.2.length < r.1
  one : 1 ≤ r.2.length
  two : r.2.length ≤ 2
  jmp : ∀ x ∈ r.2, sr x = false
  ok : (∀ x ∈ s, aV x = true) → ∀ x ∈ r.2, aV x = true
theorem c65 {L : Nat} (h1 : 4096 ≤ L) (h2 : L ≤ 9223372036854775807) {xs : List In} {left : Int} (hl0 : 0 ≤ left) (hl1 : left ≤ 1048576) : MC Tryz.prog L 39 [jT xs, eI left] [] (Plain (eI (bO left xs.length))) := by
 refine aA ?_ Z
 have O := gk (nt := 12) h1 h2
 refine MC.body O Tryz.func39 (by kernel_rfl) Z Z (Nat.le_of_ble_eq_true Z) (fun hF => ?_)
 have hl : xs.length ≤ L := by simpa [As.fact, A.fact, M.fact, D.fact, Ds.fact] using hF.1.1
 refine ac (js O Z (aP (j2 O Z Z ?_)))
 first | refine bo O Z ?_ | refine js O Z ?_ | refine aU O Z Z ?_
 first | refine ji O Z ?_ | refine aU O Z Z ?_
 refine js O Z (jn (af (ac (j2 O Z Z (jn (ab O Z Z (fun hc10 => ?_) (fun hc10 => ?_)))))))
 try simp only [aN] at hc10
 refine ac (js O Z (jr ?_))
 refine ⟨.inl Z, _, ak, _, Z, ?_⟩
 rw [show bO left xs.length = -1 from if_pos (by omega)]
 try simp only [aN] at hc10
 refine ah (ac (j2 O Z Z (jr ?_)))
 refine ⟨.inl Z, _, ak, _, Z, ?_⟩
 rw [show bO left xs.length = left - xs.length from if_neg (by omega)]
theorem Br {L : Nat} (h1 : 4096 ≤ L) (h2 : L ≤ 9223372036854775807) {t : Pt} {left : Int} (hl0 : 0 ≤ left) (hl1 : left ≤ 1048576) : MC Tryz.prog L 75 [.agg (t.cells.map .d), eI left] [] (Plain (eI (bO left t.size))) := by
 refine aA ?_ Z
 have O := gk (nt := 12) h1 h2
 refine MC.body O Tryz.func75 (by kernel_rfl) Z Z (Nat.le_of_ble_eq_true Z) (fun hF => ?_)
 refine ac (jx O Z (js O Z (aP (j3 O Z Z Z (ae O Z Z Z Z (Ah (ts := t.fs) h1 h2 hl0 hl1) (aa Z) Z Z Z Z Z (B0 := 9000) Z (js O Z (jn (af (ac (j2 O Z Z (jn (ab O Z Z (fun hc10 => ?_) (fun hc10 => ?_)))))))))))))
 try simp only [aN] at hc10
 refine ac (js O Z (jr ?_))
 refine ⟨.inl Z, _, ak, _, Z, ?_⟩
 have : bO left t.size = -1 := by unfold bO Pt.size at *; split at hc10 <;> simp_all <;> omega
 rw [this]
 try simp only [aN] at hc10
 refine ah (ac (j2 O Z Z (jr ?_)))
 refine ⟨.inl Z, _, ak, _, Z, ?_⟩
 rfl
theorem c66 {L : Nat} (h1 : 4096 ≤ L) (h2 : L ≤ 9223372036854775807) {ts : List Pt} {left : Int} (hl0 : 0 ≤ left) (hl1 : left ≤ 1048576) : MC Tryz.prog L 40 [.c (.d (gc ts)), eI left] [] (Plain (eI (bO left (Al.szs Pt.size ts)))) := by
 refine aA ?_ Z
 have O := gk (nt := 27) h1 h2
 refine MC.body O Tryz.func40 (by kernel_rfl) Z Z (Nat.le_of_ble_eq_true Z) (fun hF => ?_)
 have hl : ts.length ≤ L := by simpa [As.fact, A.fact, M.fact, D.fact, Ds.fact] using hF.1.1
 refine ac (js O Z (aP (j2 O Z Z ?_)))
 first | refine bo O Z ?_ | refine js O Z ?_ | refine aU O Z Z ?_
 first | refine ji O Z ?_ | refine aU O Z Z ?_
 refine js O Z (jn (af (ac (j2 O Z Z (jn (ab O Z Z (fun hc11 => ?_) (fun hc11 => ?_)))))))
 try simp only [aN] at hc11
 refine ac (js O Z (jr ?_))
 refine ⟨.inl Z, _, ak, _, Z, ?_⟩
 rw [show bO left (Al.szs Pt.size ts) = -1 from if_pos (by unfold Al.szs; omega)]
 try simp only [aN] at hc11
 refine ah (af (ac (js O Z (jn (am (ap (X := Nat) (fun i => ⟨[(0, .c (.d (gc ts))), (1, eI (left - ts.length - ((ts.take i).map Pt.size).sum)), (5, eI i)], []⟩) (fun i => i ≤ ts.length ∧ (0 : Int) ≤ left - ts.length - ((ts.take i).map Pt.size).sum) (fun i => ts.length - i) 0 (Ent.env ⟨Z, by simp [aB], Z, trivial⟩) ?_ (fun i hi => ?_)))))))
 exact ⟨cm _, by simp; omega⟩
 refine af (ac (j2 O Z Z ?_))
 first | refine bo O Z ?_ | refine js O Z ?_ | refine aU O Z Z ?_
 refine js O Z (jn (ab O Z Z (fun hc15 => ?_) (fun hc15 => ?_)))
 try simp only [aN] at hc15
 refine ah (af (am (ac (j2 O Z Z ?_))))
 first | refine f7 O Z Z ?_ | refine aU O Z Z ?_
 refine j2 O Z Z (ae O Z Z Z Z (Br h1 h2 hi.2 (by omega)) (aa Z) Z Z Z Z Z (B0 := 24000) Z (js O Z (aP (j2 O Z Z (jn (ab O Z Z (fun hc25 => ?_) (fun hc25 => ?_)))))))
 try simp only [aN] at hc25
 refine ac (js O Z (jr ?_))
 refine ⟨.inl Z, _, ak, _, Z, ?_⟩
 have e := fj Pt.size ts i (by omega)
 have e3 := pg Pt.size ts (i + 1)
 rw [Int.toNat_natCast] at hc25
 rw [show bO left (Al.szs Pt.size ts) = -1 from if_pos (by unfold bO at hc25; unfold Al.szs; split at hc25 <;> omega)]
 try simp only [aN] at hc25
 refine ah (aj (js O Z ?_))
 first | refine ji O Z ?_ | refine aU O Z Z ?_
 refine js O Z (jn ?_)
 have e := fj Pt.size ts i (by omega)
 have e2 : bO (left - ts.length - ((ts.take i).map Pt.size).sum) (Pt.size (ts.getD i default)) = left - ts.length - ((ts.take (i + 1)).map Pt.size).sum := by
  unfold bO at hc25 ⊢
  rw [Int.toNat_natCast] at hc25
  split at hc25 <;> omega
 refine ⟨i + 1, Ent.env ⟨Z, ?_, Z, trivial⟩, ⟨by omega, ?_⟩, by omega⟩
 rw [← e2]; rfl
 rw [← e2]; rw [Int.toNat_natCast] at hc25; omega
 try simp only [aN] at hc15
 refine aQ (ac (j2 O Z Z (jr ?_)))
 refine ⟨.inl Z, _, ak, _, Z, ?_⟩
 obtain rfl : i = ts.length := by omega
 have e4 := hi.2
 rw [List.take_length] at e4 ⊢
 rw [show bO left (Al.szs Pt.size ts) = left - ts.length - (ts.map Pt.size).sum from by unfold bO Al.szs; rw [if_neg (by omega)]; omega]
theorem wh {L : Nat} (h1 : 4096 ≤ L) (h2 : L ≤ 9223372036854775807) {a : An} {left : Int} (hl0 : 0 ≤ left) (hl1 : left ≤ 1048576) : MC Tryz.prog L 9 [aAn a, eI left] [] (Plain (eI (bO left a.size))) := by
 refine aA ?_ Z
 have O := gk (nt := 30) h1 h2
 refine MC.body O Tryz.func9 (by kernel_rfl) Z Z (Nat.le_of_ble_eq_true Z) (fun hF => ?_)
 refine ac (jx O Z (js O Z (aP (j3 O Z Z Z (ae O Z Z Z Z (Ah (ts := a.pre) h1 h2 hl0 hl1) (aa Z) Z Z Z Z Z (B0 := 9000) Z (js O Z (jn (af (ac (j2 O Z Z (jn (ab O Z Z (fun hc10 => ?_) (fun hc10 => ?_)))))))))))))
 try simp only [aN] at hc10
 refine ac (js O Z (jr ?_))
 refine ⟨.inl Z, _, ak, _, Z, ?_⟩
 unfold An.size
 rw [Nat.add_assoc, Nat.add_assoc, ng _ hc10]
 try simp only [aN] at hc10
 refine ah (ac (j3 O Z Z Z ?_))
 have le1 := eU hl0 (szs Tm.size a.pre)
 refine ae O Z Z Z Z (Ah (ts := a.post) h1 h2 hc10 (by omega)) (aa Z) Z Z Z Z Z (B0 := 15000) Z (js O Z (jn (af (ac (j2 O Z Z (jn (ab O Z Z (fun hc16 => ?_) (fun hc16 => ?_))))))))
 try simp only [aN] at hc16
 refine ac (js O Z (jr ?_))
 refine ⟨.inl Z, _, ak, _, Z, ?_⟩
 unfold An.size
 rw [gL _ hc10] at hc16
 rw [Nat.add_assoc, ng _ hc16]
 try simp only [aN] at hc16
 refine ah (ac (j3 O Z Z Z ?_))
 rw [gL _ hc10] at hc16 ⊢
 have le2 := eU hl0 (szs Tm.size a.pre + szs Tm.size a.post)
 refine ae O Z Z Z Z (c65 (xs := a.code) h1 h2 hc16 (by omega)) (aa Z) Z Z Z Z Z (B0 := 21000) Z (js O Z (jn (af (ac (j2 O Z Z (jn (ab O Z Z (fun hc22 => ?_) (fun hc22 => ?_))))))))
 try simp only [aN] at hc22
 refine ac (js O Z (jr ?_))
 refine ⟨.inl Z, _, ak, _, Z, ?_⟩
 unfold An.size
 rw [gL _ hc16] at hc22
 rw [ng _ hc22]
 try simp only [aN] at hc22
 refine ah (ac (j3 O Z Z Z ?_))
 rw [gL _ hc16] at hc22 ⊢
 have le3 := eU hl0 (szs Tm.size a.pre + szs Tm.size a.post + a.code.length)
 refine ae O Z Z Z Z (c66 (ts := a.pts) h1 h2 hc22 (by omega)) (aa Z) Z Z Z Z Z (B0 := 27000) Z (js O Z (jn (af (ac (j2 O Z Z (jn (ab O Z Z (fun hc28 => ?_) (fun hc28 => ?_))))))))
 try simp only [aN] at hc28
 refine ac (js O Z (jr ?_))
 refine ⟨.inl Z, _, ak, _, Z, ?_⟩
 unfold An.size
 rw [gL _ hc22] at hc28
 unfold bO at hc28 ⊢
 split at hc28
 rw [if_pos (by omega)]
 omega
 try simp only [aN] at hc28
 refine ah (ac (j2 O Z Z (jr ?_)))
 refine ⟨.inl Z, _, ak, _, Z, ?_⟩
 rw [gL _ hc22]
 rfl
variable {x : In}
theorem Bp : MQ h1 h2 85 [.agg (x.cells.map .d)] [] (Rows (.agg [.d (.int .i64 x.op), .d (.int .i64 x.a)]) []) := by
 refine bh (jB 11 h1 h2 Tryz.func85 Z Z Z fun O hF => ?_)
 refine ac (jx O Z (ao ?_))
 refine jl O Z (ao ?_)
 refine aP (jl O Z (ao ?_))
 refine aP (j3 O Z Z Z (jo O Z (ao ?_)))
 refine aP (j3 O Z Z Z (jo O Z (ao ?_)))
 refine aP (js O Z (jo O Z (ao ?_)))
 refine jr ?_
 refine ⟨.inl Z, _, ak, _, Z, [], by decide, Z, Z, Z⟩
variable {ts : List In}
theorem c69 : MQ h1 h2 47 [.c (.d (jS ts))] [] (Rows (.c (.rs 0 0 ts.length)) [jR ts]) := by
 refine bh (jB 23 h1 h2 Tryz.func47 Z Z Z fun O hF => ?_)
 have hl : ts.length ≤ L := by simpa [As.fact, A.fact, M.fact, D.fact, Ds.fact] using hF.1.1
 refine ac (js O Z (aP (js O Z ?_)))
 first | refine bo O Z ?_ | refine js O Z ?_ | refine aU O Z Z ?_
 refine AOps.heap (cd O Z Z Z Z Z Z Z Z Z (by first | omega | (simp at *; omega)) (by first | omega | (simp at *; omega)) (by first | omega | (simp at *; omega)) (by first | omega | (dsimp only; omega) | (simp only [aN] at *; omega)) (by first | omega | (simp at *; omega)) Z Z Z) Z (js O Z (jn (af (ac (js O Z (jn (am (ap (X := Nat × List In) (fun x => ⟨[(0, .c (.d (jS ts))), (3, .c (.rs 7 0 ts.length)), (4, eI x.1)], [(7, jR x.2)]⟩) (fun x => x.1 ≤ ts.length ∧ x.2.length = ts.length ∧ ∀ j, j < x.1 → x.2[j]? = ts[j]?) (fun x => ts.length - x.1) (0, List.replicate ts.length ⟨0, 0⟩) ((Ent.rowLe 7 Z (NLess.replicate (.cons .refl (.cons .refl .nil)))).trans (Ent.to ⟨Z, Z, Z, trivial⟩ (by simp [ins, dV, jR]))) ?_ (fun x hi => ?_)))))))))
 exact ⟨cm _, List.length_replicate, fun j hj => absurd hj (Nat.not_lt_zero j)⟩
 refine af (ac (j2 O Z Z ?_))
 first | refine bo O Z ?_ | refine js O Z ?_ | refine aU O Z Z ?_
 refine js O Z (jn (ab O Z Z (fun hc11 => ?_) (fun hc11 => ?_)))
 try simp only [aN] at hc11
 refine ah (af (am (aj (j4 O Z Z Z Z ?_))))
 first | refine f7 O Z Z ?_ | refine aU O Z Z ?_
 refine js O Z (aI O (B0 := 21000) Z Z Z Z (Bp h1 h2) (aa Z) Z Z Z Z Z Z ?_)
 first | refine f7 O Z Z ?_ | refine aU O Z Z ?_
 refine AOps.heap (eR (ex := In.cells (x.2.getD x.1 default)) (xs' := (x.2.set x.1 (ts.getD x.1 default)).map In.cells) O Z Z Z Z Z Z Z (.d Z (.d Z .nil)) Z Z Z Z Z Z (by simp [hi.2.1, show x.1 < ts.length by omega]) (by simp [List.map_set])) Z (jn (aj (js O Z ?_)))
 first | refine ji O Z ?_ | refine aU O Z Z ?_
 refine js O Z (jn ?_)
 refine ⟨(x.1 + 1, x.2.set x.1 (ts.getD x.1 default)), Ent.to ⟨Z, Z, Z, trivial⟩ Z, ⟨by omega, by simp [hi.2.1], fun j hj => ?_⟩, by omega⟩
 rw [List.getElem?_set]
 split
 rename_i e; subst e; simp [hi.2.1, show x.1 < ts.length by omega]
 exact hi.2.2 j (by omega)
 try simp only [aN] at hc11
 refine aQ (ac (j2 O Z Z (jr ?_)))
 have e : x.2 = ts := List.ext_getElem? fun j => by
  rcases Nat.lt_or_ge j x.1 with h | h
  ·
   exact hi.2.2 j h
  ·
   rw [List.getElem?_eq_none (by omega), List.getElem?_eq_none (by omega)]
 refine ⟨.inl Z, _, ak, _, Z, [7], by decide, Z, Z, ?_⟩
 rw [← e]; rfl
theorem Bo {p : Pt} : MQ h1 h2 86 [.agg (p.cells.map .d)] [] (Rows (.agg [.d (.int .i64 p.k), .rs 0 0 p.fs.length]) [fO p.fs]) := by
 refine bh (jB 12 h1 h2 Tryz.func86 Z Z Z fun O hF => ?_)
 refine ac (jx O Z (ao ?_))
 refine jl O Z (ao ?_)
 refine aP (jl O Z (ao ?_))
 refine aP (j3 O Z Z Z (jo O Z (ao ?_)))
 refine aP (j2 O Z Z (aI O (B0 := 10000) Z Z Z Z (Ag h1 h2) (aa Z) Z Z Z Z Z Z (ao ?_)))
 refine js O Z (jo O Z (ao ?_))
 refine aP (js O Z (jo O Z (ao ?_)))
 refine jr ?_
 refine ⟨.inl Z, _, ak, _, Z, [10000], by decide, Z, Z, Z⟩
theorem c70 {ts : List Pt} : MQ h1 h2 48 [.c (.d (gc ts))] [] (Rows (.c (.rs 0 0 ts.length)) [jO ts]) := by
 refine bh (jB 23 h1 h2 Tryz.func48 Z Z Z fun O hF => ?_)
 have hl : ts.length ≤ L := by simpa [As.fact, A.fact, M.fact, D.fact, Ds.fact] using hF.1.1
 refine ac (js O Z (aP (js O Z ?_)))
 first | refine bo O Z ?_ | refine js O Z ?_ | refine aU O Z Z ?_
 refine AOps.heap (cd O Z Z Z Z Z Z Z Z Z (by first | omega | (simp at *; omega)) (by first | omega | (simp at *; omega)) (by first | omega | (simp at *; omega)) (by first | omega | (dsimp only; omega) | (simp only [aN] at *; omega)) (by first | omega | (simp at *; omega)) Z Z Z) Z (js O Z (jn (af (ac (js O Z (jn (am (ap (X := Nat × List Pt) (fun x => ⟨[(0, .c (.d (gc ts))), (3, .c (.rs 7 0 ts.length)), (4, eI x.1)], [(7, jO x.2)]⟩) (fun x => x.1 ≤ ts.length ∧ x.2.length = ts.length ∧ ∀ j, j < x.1 → x.2[j]? = ts[j]?) (fun x => ts.length - x.1) (0, List.replicate ts.length ⟨0, []⟩) ((Ent.rowLe 7 Z (NLess.replicate (.cons .refl (.cons (.nil (sz := 2)) .nil)))).trans (Ent.to ⟨Z, Z, Z, trivial⟩ (by simp [ins, dV, jO]))) ?_ (fun x hi => ?_)))))))))
 exact ⟨cm _, List.length_replicate, fun j hj => absurd hj (Nat.not_lt_zero j)⟩
 refine af (ac (j2 O Z Z ?_))
 first | refine bo O Z ?_ | refine js O Z ?_ | refine aU O Z Z ?_
 refine js O Z (jn (ab O Z Z (fun hc11 => ?_) (fun hc11 => ?_)))
 try simp only [aN] at hc11
 refine ah (af (am (aj (j4 O Z Z Z Z ?_))))
 first | refine f7 O Z Z ?_ | refine aU O Z Z ?_
 refine js O Z (aI O (B0 := 21000) Z Z Z Z (Bo h1 h2) (aa Z) Z Z Z Z Z Z ?_)
 first | refine f7 O Z Z ?_ | refine aU O Z Z ?_
 refine AOps.heap (eR (ex := Pt.cells (x.2.getD x.1 default)) (xs' := (x.2.set x.1 (ts.getD x.1 default)).map Pt.cells) O Z Z Z Z Z Z Z (.d Z (.rs Z (by simp) .nil)) Z Z Z Z Z Z (by simp [hi.2.1, show x.1 < ts.length by omega]) (by simp [List.map_set])) Z (jn (aj (js O Z ?_)))
 first | refine ji O Z ?_ | refine aU O Z Z ?_
 refine js O Z (jn ?_)
 refine ⟨(x.1 + 1, x.2.set x.1 (ts.getD x.1 default)), Ent.to ⟨Z, Z, Z, trivial⟩ Z, ⟨by omega, by simp [hi.2.1], fun j hj => ?_⟩, by omega⟩
 rw [List.getElem?_set]
 split
 rename_i e; subst e; simp [hi.2.1, show x.1 < ts.length by omega]
 exact hi.2.2 j (by omega)
 try simp only [aN] at hc11
 refine aQ (ac (j2 O Z Z (jr ?_)))
 have e : x.2 = ts := List.ext_getElem? fun j => by
  rcases Nat.lt_or_ge j x.1 with h | h
  ·
   exact hi.2.2 j h
  ·
   rw [List.getElem?_eq_none (by omega), List.getElem?_eq_none (by omega)]
 refine ⟨.inl Z, _, ak, _, Z, [7], by decide, Z, Z, ?_⟩
 rw [← e]; rfl
variable {a : An}
theorem xY : MQ h1 h2 11 [aAn a] [] (Rows (.agg [.rs 0 0 a.pre.length, .rs 1 0 a.post.length, .rs 2 0 a.code.length, .rs 3 0 a.pts.length]) [fO a.pre, fO a.post, jR a.code, jO a.pts]) := by
 refine bh (jB 21 h1 h2 Tryz.func11 Z Z Z fun O hF => ?_)
 refine ac (jx O Z (ao ?_))
 refine jl O Z (ao ?_)
 refine aP (jl O Z (ao ?_))
 refine aP (j2 O Z Z (aI O (B0 := 7000) Z Z Z Z (Ag h1 h2) (aa Z) Z Z Z Z Z Z (ao ?_)))
 refine js O Z (jo O Z (ao ?_))
 refine aP (j2 O Z Z (aI O (B0 := 11000) Z Z Z Z (Ag h1 h2) (aa Z) Z Z Z Z Z Z (ao ?_)))
 refine js O Z (jo O Z (ao ?_))
 refine aP (j2 O Z Z (aI O (B0 := 15000) Z Z Z Z (c69 h1 h2) (aa Z) Z Z Z Z Z Z (ao ?_)))
 refine js O Z (jo O Z (ao ?_))
 refine aP (j2 O Z Z (aI O (B0 := 19000) Z Z Z Z (c70 h1 h2) (aa Z) Z Z Z Z Z Z (ao ?_)))
 refine js O Z (jo O Z (ao ?_))
 refine aP (js O Z (jo O Z (ao ?_)))
 refine jr ?_
 refine ⟨.inl Z, _, ak, _, Z, [7000,11000,15000,19000], by decide, Z, Z, Z⟩
theorem mg {L : Nat} (h1 : 4096 ≤ L) (h2 : L ≤ 1073741824) {a : An} : MC Tryz.prog L 11 [aAn a] [] (Plain (aAn a)) := (xY h1 h2).frozen (.v (.agg (.cons (.whole rfl (bt _).symm) (.cons (.whole rfl (bt _).symm) (.cons (.whole rfl (bt _).symm) (.cons (.whole rfl (bt _).symm) .nil))))))
theorem Bn {s t : In} : MQ h1 h2 94 [.agg (s.cells.map .d), .agg (t.cells.map .d)] [] (Plain (eB (decide (s = t)))) := by
 refine aA ?_ Z
 refine jB 15 h1 h2 Tryz.func94 Z Z Z fun O hF => ?_
 refine ac (jx O Z (jx O Z (js O Z (jn (af (ac (j4 O Z Z Z Z (js O Z (jn (ab O Z Z (fun hc9 => ?_) (fun hc9 => ?_)))))))))))
 try simp only [aN] at hc9
 refine ac (js O Z (jr ?_))
 refine ⟨.inl Z, _, ak, _, Z, ?_⟩
 rw [decide_eq_false (fun e => hc9 (by rw [e]))]
 try simp only [aN] at hc9
 refine ah (af (ac (j4 O Z Z Z Z (js O Z (jn (ab O Z Z (fun hc14 => ?_) (fun hc14 => ?_)))))))
 try simp only [aN] at hc14
 refine ac (js O Z (jr ?_))
 refine ⟨.inl Z, _, ak, _, Z, ?_⟩
 rw [decide_eq_false (fun e => hc14 (by rw [e]))]
 try simp only [aN] at hc14
 refine ah (ac (js O Z (jr ?_)))
 refine ⟨.inl Z, _, ak, _, Z, ?_⟩
 have e : s = t := by cases s; cases t; simp_all
 rw [decide_eq_true e]
theorem c74 {xs ys : List In} : MQ h1 h2 53 [.c (.d (jS xs)), .c (.d (jS ys))] [] (Plain (eB (decide (xs = ys)))) := by
 refine aA ?_ Z
 refine jB 27 h1 h2 Tryz.func53 Z Z Z fun O hF => ?_
 have hl : xs.length ≤ L := by simpa [As.fact, A.fact, M.fact, D.fact, Ds.fact] using hF.1.1
 have hl2 : ys.length ≤ L := by simpa [As.fact, A.fact, M.fact, D.fact, Ds.fact] using hF.2.1.1
 refine ac (js O Z (jn (af (ac (js O Z ?_)))))
 first | refine bo O Z ?_ | refine js O Z ?_ | refine aU O Z Z ?_
 refine js O Z ?_
 first | refine bo O Z ?_ | refine js O Z ?_ | refine aU O Z Z ?_
 refine js O Z (jn (ab O Z Z (fun hc10 => ?_) (fun hc10 => ?_)))
 try simp only [aN] at hc10
 refine ac (js O Z (jr ?_))
 refine ⟨.inl Z, _, ak, _, Z, ?_⟩
 rw [decide_eq_false (fun e => by subst e; simp at hc10)]
 try simp only [aN] at hc10
 refine ah (af (ac (js O Z (jn (am (ap (X := Nat) (fun i => ⟨[(0, .c (.d (jS xs))), (1, .c (.d (jS ys))), (5, eI i)], []⟩) (fun i => i ≤ xs.length ∧ ∀ j, j < i → xs[j]? = ys[j]?) (fun i => xs.length - i) 0 (Ent.env ⟨Z, Z, Z, trivial⟩) ?_ (fun i hi => ?_)))))))
 exact ⟨cm _, fun j hj => absurd hj (Nat.not_lt_zero j)⟩
 refine af (ac (j2 O Z Z ?_))
 first | refine bo O Z ?_ | refine js O Z ?_ | refine aU O Z Z ?_
 refine js O Z (jn (ab O Z Z (fun hc14 => ?_) (fun hc14 => ?_)))
 try simp only [aN] at hc14
 refine ah (af (am (af (fI O [_,_,_,_,_,_,_,_,_,_] [pn [] 0 0, pn [] 0 0, pn [0,1] 0 0, pn [0,1,2] 0 0, pn [] 0 0, pn [] 0 0, pn [4,5] 0 0, pn [4,5,6] 0 0, pe (rg 0 8) 0, pn (rg 0 9) 1 1] [8] [_,_] (kc O Z (kc O Z (ai (vD O Z) (kc O Z (kc O Z (kc O Z (ai (vD O Z) (kc O Z (ai (bm O (B0 := 26000) Z Z Z Z (Bn h1 h2) (aa Z) Z Z Z Z Z) (kc O Z trivial)))))))))) ?_))))
 refine ab O Z Z (fun hc26 => ?_) (fun hc26 => ?_)
 try simp only [aN] at hc26
 refine ac (js O Z (jr ?_))
 refine ⟨.inl Z, _, ak, _, Z, ?_⟩
 rw [decide_eq_false (fun e => by subst e; simp at hc26)]
 try simp only [aN] at hc26
 refine ah (aj (js O Z ?_))
 first | refine ji O Z ?_ | refine aU O Z Z ?_
 refine js O Z (jn ?_)
 refine ⟨i + 1, Ent.env ⟨Z, Z, Z, trivial⟩, ⟨by omega, fun j hj => ?_⟩, by omega⟩
 rcases Nat.lt_or_ge j i with h | h
 exact hi.2 j h
 obtain rfl : j = i := by omega
 rw [Int.toNat_natCast, ar (by omega), ar (by omega)] at hc26
 rw [List.getElem?_eq_getElem (by omega), List.getElem?_eq_getElem (by omega), hc26]
 try simp only [aN] at hc14
 refine aQ (ac (js O Z (jr ?_)))
 refine ⟨.inl Z, _, ak, _, Z, ?_⟩
 have e : xs = ys := List.ext_getElem? fun j => by
  rcases Nat.lt_or_ge j i with h | h
  ·
   exact hi.2 j h
  ·
   rw [List.getElem?_eq_none (by omega), List.getElem?_eq_none (by omega)]
 rw [decide_eq_true e]
theorem Bm {s t : Pt} : MQ h1 h2 95 [.agg (s.cells.map .d), .agg (t.cells.map .d)] [] (Plain (eB (decide (s = t)))) := by
 refine aA ?_ Z
 refine jB 16 h1 h2 Tryz.func95 Z Z Z fun O hF => ?_
 refine ac (jx O Z (jx O Z (js O Z (jn (af (ac (j4 O Z Z Z Z (js O Z (jn (ab O Z Z (fun hc9 => ?_) (fun hc9 => ?_)))))))))))
 try simp only [aN] at hc9
 refine ac (js O Z (jr ?_))
 refine ⟨.inl Z, _, ak, _, Z, ?_⟩
 rw [decide_eq_false (fun e => hc9 (by rw [e]))]
 try simp only [aN] at hc9
 refine ah (af (ac (j4 O Z Z Z Z (ae O Z Z Z Z (Ai h1 h2) (aa Z) Z Z Z Z Z (B0 := 15000) Z (js O Z (jn (ab O Z Z (fun hc15 => ?_) (fun hc15 => ?_))))))))
 try simp only [aN] at hc15
 refine ac (js O Z (jr ?_))
 refine ⟨.inl Z, _, ak, _, Z, ?_⟩
 rw [decide_eq_false (fun e => hc15 (by rw [e]))]
 try simp only [aN] at hc15
 refine ah (ac (js O Z (jr ?_)))
 refine ⟨.inl Z, _, ak, _, Z, ?_⟩
 have e : s = t := by cases s; cases t; simp_all
 rw [decide_eq_true e]
theorem c75 {xs ys : List Pt} : MQ h1 h2 54 [.c (.d (gc xs)), .c (.d (gc ys))] [] (Plain (eB (decide (xs = ys)))) := by
 refine aA ?_ Z
 refine jB 27 h1 h2 Tryz.func54 Z Z Z fun O hF => ?_
 have hl : xs.length ≤ L := by simpa [As.fact, A.fact, M.fact, D.fact, Ds.fact] using hF.1.1
 have hl2 : ys.length ≤ L := by simpa [As.fact, A.fact, M.fact, D.fact, Ds.fact] using hF.2.1.1
 refine ac (js O Z (jn (af (ac (js O Z ?_)))))
 first | refine bo O Z ?_ | refine js O Z ?_ | refine aU O Z Z ?_
 refine js O Z ?_
 first | refine bo O Z ?_ | refine js O Z ?_ | refine aU O Z Z ?_
 refine js O Z (jn (ab O Z Z (fun hc10 => ?_) (fun hc10 => ?_)))
 try simp only [aN] at hc10
 refine ac (js O Z (jr ?_))
 refine ⟨.inl Z, _, ak, _, Z, ?_⟩
 rw [decide_eq_false (fun e => by subst e; simp at hc10)]
 try simp only [aN] at hc10
 refine ah (af (ac (js O Z (jn (am (ap (X := Nat) (fun i => ⟨[(0, .c (.d (gc xs))), (1, .c (.d (gc ys))), (5, eI i)], []⟩) (fun i => i ≤ xs.length ∧ ∀ j, j < i → xs[j]? = ys[j]?) (fun i => xs.length - i) 0 (Ent.env ⟨Z, Z, Z, trivial⟩) ?_ (fun i hi => ?_)))))))
 exact ⟨cm _, fun j hj => absurd hj (Nat.not_lt_zero j)⟩
 refine af (ac (j2 O Z Z ?_))
 first | refine bo O Z ?_ | refine js O Z ?_ | refine aU O Z Z ?_
 refine js O Z (jn (ab O Z Z (fun hc14 => ?_) (fun hc14 => ?_)))
 try simp only [aN] at hc14
 refine ah (af (am (af (fI O [_,_,_,_,_,_,_,_,_,_] [pn [] 0 0, pn [] 0 0, pn [0,1] 0 0, pn [0,1,2] 0 0, pn [] 0 0, pn [] 0 0, pn [4,5] 0 0, pn [4,5,6] 0 0, pe (rg 0 8) 0, pn (rg 0 9) 1 1] [8] [_,_] (kc O Z (kc O Z (ai (vD O Z) (kc O Z (kc O Z (kc O Z (ai (vD O Z) (kc O Z (ai (bm O (B0 := 26000) Z Z Z Z (Bm h1 h2) (aa Z) Z Z Z Z Z) (kc O Z trivial)))))))))) ?_))))
 refine ab O Z Z (fun hc26 => ?_) (fun hc26 => ?_)
 try simp only [aN] at hc26
 refine ac (js O Z (jr ?_))
 refine ⟨.inl Z, _, ak, _, Z, ?_⟩
 rw [decide_eq_false (fun e => by subst e; simp at hc26)]
 try simp only [aN] at hc26
 refine ah (aj (js O Z ?_))
 first | refine ji O Z ?_ | refine aU O Z Z ?_
 refine js O Z (jn ?_)
 refine ⟨i + 1, Ent.env ⟨Z, Z, Z, trivial⟩, ⟨by omega, fun j hj => ?_⟩, by omega⟩
 rcases Nat.lt_or_ge j i with h | h
 exact hi.2 j h
 obtain rfl : j = i := by omega
 rw [Int.toNat_natCast, ar (by omega), ar (by omega)] at hc26
 rw [List.getElem?_eq_getElem (by omega), List.getElem?_eq_getElem (by omega), hc26]
 try simp only [aN] at hc14
 refine aQ (ac (js O Z (jr ?_)))
 refine ⟨.inl Z, _, ak, _, Z, ?_⟩
 have e : xs = ys := List.ext_getElem? fun j => by
  rcases Nat.lt_or_ge j i with h | h
  ·
   exact hi.2 j h
  ·
   rw [List.getElem?_eq_none (by omega), List.getElem?_eq_none (by omega)]
 rw [decide_eq_true e]
theorem z2 {s t : An} : MQ h1 h2 14 [aAn s, aAn t] [] (Plain (eB (decide (s = t)))) := by
 refine aA ?_ Z
 refine jB 29 h1 h2 Tryz.func14 Z Z Z fun O hF => ?_
 refine ac (jx O Z (jx O Z (js O Z (jn (af (ac (j4 O Z Z Z Z (ae O Z Z Z Z (Ai h1 h2) (aa Z) Z Z Z Z Z (B0 := 10000) Z (js O Z (jn (ab O Z Z (fun hc10 => ?_) (fun hc10 => ?_))))))))))))
 try simp only [aN] at hc10
 refine ac (js O Z (jr ?_))
 refine ⟨.inl Z, _, ak, _, Z, ?_⟩
 rw [decide_eq_false (fun e => hc10 (by rw [e]))]
 try simp only [aN] at hc10
 refine ah (af (ac (j4 O Z Z Z Z (ae O Z Z Z Z (Ai h1 h2) (aa Z) Z Z Z Z Z (B0 := 16000) Z (js O Z (jn (ab O Z Z (fun hc16 => ?_) (fun hc16 => ?_))))))))
 try simp only [aN] at hc16
 refine ac (js O Z (jr ?_))
 refine ⟨.inl Z, _, ak, _, Z, ?_⟩
 rw [decide_eq_false (fun e => hc16 (by rw [e]))]
 try simp only [aN] at hc16
 refine ah (af (ac (j4 O Z Z Z Z (ae O Z Z Z Z (c74 h1 h2) (aa Z) Z Z Z Z Z (B0 := 22000) Z (js O Z (jn (ab O Z Z (fun hc22 => ?_) (fun hc22 => ?_))))))))
 try simp only [aN] at hc22
 refine ac (js O Z (jr ?_))
 refine ⟨.inl Z, _, ak, _, Z, ?_⟩
 rw [decide_eq_false (fun e => hc22 (by rw [e]))]
 try simp only [aN] at hc22
 refine ah (af (ac (j4 O Z Z Z Z (ae O Z Z Z Z (c75 h1 h2) (aa Z) Z Z Z Z Z (B0 := 28000) Z (js O Z (jn (ab O Z Z (fun hc28 => ?_) (fun hc28 => ?_))))))))
 try simp only [aN] at hc28
 refine ac (js O Z (jr ?_))
 refine ⟨.inl Z, _, ak, _, Z, ?_⟩
 rw [decide_eq_false (fun e => hc28 (by rw [e]))]
 try simp only [aN] at hc28
 refine ah (ac (js O Z (jr ?_)))
 refine ⟨.inl Z, _, ak, _, Z, ?_⟩
 have e : s = t := by cases s; cases t; simp_all
 rw [decide_eq_true e]
variable {k : Int}
theorem c76 (hk0 : 0 ≤ k) (hk1 : k + bC iz ts ≤ 1073741824) : MQ h1 h2 56 [.c (.rs 0 0 ts.length), eI k] [(0, jR ts)] (bb (eI (k + bC iz ts)) [(0, jR (bq ub iz k ts))]) := by
 refine jH 27 [0] h1 h2 Tryz.func56 Z Z Z Z fun O hF => ?_
 refine fG 0 Z (fun hB => ?_)
 have hl : ts.length ≤ L := by simpa [B.fact] using hB.1
 refine ac (js O Z (jn (af (ac (js O Z (jn (am (ap (X := Nat) (fun i => ⟨[(0, .c (.rs 0 0 ts.length)), (1, eI (k + bC iz (ts.take i))), (5, eI i)], [(0, jR (mk ub iz k i ts))]⟩) (fun i => i ≤ ts.length) (fun i => ts.length - i) 0 (Ent.to ⟨Z, by simp [bT, aB, bC], Z, trivial⟩ (by simp [i8])) ?_ (fun i hi => ?_)))))))))
 exact cm _
 refine af (ac (j2 O Z Z ?_))
 first | refine bo O Z ?_ | refine js O Z ?_ | refine aU O Z Z ?_
 refine js O Z (jf [9,0,1,5] Z (jn (ab O Z Z (fun hc9 => ?_) (fun hc9 => ?_))))
 try simp only [aN] at hc9
 refine ah (af (am (ac (j3 O Z Z Z ?_))))
 first | refine f7 O Z Z ?_ | refine aU O Z Z ?_
 refine js O Z (jf [16,14,9,0,1,5] Z ?_)
 obtain ⟨K, hK⟩ : ∃ K, K = k + (bC iz (ts.take i) : Int) := ⟨_, rfl⟩
 rw [← hK]
 have hcs := gy (sz := iz) (show i < ts.length by omega)
 have hcl := ll (sz := iz) (l := ts) (i := i + 1)
 have hg := jY (f := ub) (sz := iz) (k := k) (show i < ts.length by omega)
 have hs := gQ (f := ub) (sz := iz) (k := k) (show i < ts.length by omega)
 rw [← ar (show i < ts.length by omega)] at hcs hg hs
 obtain ⟨t, ht⟩ : ∃ t, t = ts.getD i default := ⟨_, rfl⟩
 rw [← ht] at hcs hg hs
 rw [← hK] at hs
 simp only [iz] at hcs
 obtain ⟨R, hR⟩ : ∃ R, R = (mk ub iz k i ts).map In.cells := ⟨_, rfl⟩
 have hRl : i < R.length := by rw [hR, bt, fz]; omega
 have hRi : R[i]? = some t.cells := by rw [hR, List.getElem?_map, hg]; rfl
 have hRn : R.set i (ub K t).cells = (mk ub iz k (i + 1) ts).map In.cells := by rw [hR, ← hs, List.map_set]
 have e0 : jR (mk ub iz k i ts) = .row true 2 (R.set i t.cells) := by rw [fw hRi, hR]
 rw [e0]
 refine AOps.heap (bd (ex := [.int .i64 t.op, .int .i64 t.a]) (xs' := R.set i [.int .i64 K, .int .i64 t.a]) O Z Z Z Z Z Z Z Z Z Z Z Z Z Z (by simp [hRl]) (by simp)) Z (ao ?_)
 refine jf [9,0,1,5] Z (aP (js O Z ?_))
 first | refine ji O Z ?_ | refine aU O Z Z ?_
 refine js O Z (jf [1,9,0,5] Z (aP (j3 O Z Z Z ?_)))
 first | refine f7 O Z Z ?_ | refine aU O Z Z ?_
 refine js O Z (jf [23,21,1,9,0,5] Z (AOps.heap (bd (ex := [.int .i64 K, .int .i64 t.a]) (xs' := R.set i [.int .i64 K, .int .i64 (K + 1)]) O Z Z Z Z Z Z Z Z Z Z Z Z Z Z (by simp [hRl]) (by simp)) Z (ao ?_)))
 refine jf [1,9,0,5] Z (jn (aj (js O Z ?_)))
 first | refine ji O Z ?_ | refine aU O Z Z ?_
 refine js O Z (jf [1,9,0,5] Z (jn (aj (js O Z ?_))))
 first | refine ji O Z ?_ | refine aU O Z Z ?_
 refine js O Z (jf [5,1,9,0] Z (jn ?_))
 refine ⟨i + 1, Ent.to ⟨Z, ?_, Z, trivial⟩ (by rw [jR, ← hRn]), by omega, by omega⟩
 rw [hcs]
 exact congrArg (fun z => some (eI z)) (by omega)
 try simp only [aN] at hc9
 refine aQ (ac (j2 O Z Z (jr ?_)))
 refine ⟨.inl Z, _, ak, _, Z, ?_⟩
 obtain rfl : i = ts.length := by omega
 rw [li (bw _), List.take_length]
 exact ⟨Z, Z⟩
theorem c77 {ts : List Pt} (hk0 : 0 ≤ k) (hk1 : k + bC nP ts ≤ 1073741824) : MQ h1 h2 57 [.c (.rs 0 0 ts.length), eI k] [(0, jO ts)] (bb (eI (k + bC nP ts)) [(0, jO (bq mP nP k ts))]) := by
 refine jH 27 [0] h1 h2 Tryz.func57 Z Z Z Z fun O hF => ?_
 refine fG 0 Z (fun hB => ?_)
 have hl : ts.length ≤ L := by simpa [B.fact] using hB.1
 refine ac (js O Z (jn (af (ac (js O Z (jn (am (ap (X := Nat) (fun i => ⟨[(0, .c (.rs 0 0 ts.length)), (1, eI (k + bC nP (ts.take i))), (5, eI i)], [(0, jO (mk mP nP k i ts))]⟩) (fun i => i ≤ ts.length) (fun i => ts.length - i) 0 (Ent.to ⟨Z, by simp [bT, aB, bC], Z, trivial⟩ (by simp [i8])) ?_ (fun i hi => ?_)))))))))
 exact cm _
 refine af (ac (j2 O Z Z ?_))
 first | refine bo O Z ?_ | refine js O Z ?_ | refine aU O Z Z ?_
 refine js O Z (jf [9,0,1,5] Z (jn (ab O Z Z (fun hc9 => ?_) (fun hc9 => ?_))))
 try simp only [aN] at hc9
 refine ah (af (am (ac (j3 O Z Z Z ?_))))
 first | refine f7 O Z Z ?_ | refine aU O Z Z ?_
 refine js O Z (jf [16,14,9,0,1,5] Z ?_)
 obtain ⟨K, hK⟩ : ∃ K, K = k + (bC nP (ts.take i) : Int) := ⟨_, rfl⟩
 rw [← hK]
 have hcs := gy (sz := nP) (show i < ts.length by omega)
 have hcl := ll (sz := nP) (l := ts) (i := i + 1)
 have hg := jY (f := mP) (sz := nP) (k := k) (show i < ts.length by omega)
 have hs := gQ (f := mP) (sz := nP) (k := k) (show i < ts.length by omega)
 rw [← ar (show i < ts.length by omega)] at hcs hg hs
 obtain ⟨t, ht⟩ : ∃ t, t = ts.getD i default := ⟨_, rfl⟩
 rw [← ht] at hcs hg hs
 rw [← hK] at hs
 simp only [nP] at hcs
 obtain ⟨R, hR⟩ : ∃ R, R = (mk mP nP k i ts).map Pt.cells := ⟨_, rfl⟩
 have hRl : i < R.length := by rw [hR, bt, fz]; omega
 have hRi : R[i]? = some t.cells := by rw [hR, List.getElem?_map, hg]; rfl
 have hRn : R.set i (mP K t).cells = (mk mP nP k (i + 1) ts).map Pt.cells := by rw [hR, ← hs, List.map_set]
 have e0 : jO (mk mP nP k i ts) = .row true 2 (R.set i t.cells) := by rw [fw hRi, hR]
 rw [e0]
 refine AOps.heap (bd (ex := [.int .i64 t.k, fH t.fs]) (xs' := R.set i [.int .i64 K, fH t.fs]) O Z Z Z Z Z Z Z Z Z Z Z Z Z Z (by simp [hRl]) (by simp)) Z (ao ?_)
 refine jf [9,0,1,5] Z (aP (js O Z ?_))
 first | refine ji O Z ?_ | refine aU O Z Z ?_
 refine js O Z (jf [1,9,0,5] Z (jn (aj (j2 O Z Z ?_))))
 first | refine f7 O Z Z ?_ | refine aU O Z Z ?_
 refine js O Z (AOps.step (av O (ex := [.int .i64 K, fH t.fs]) Z Z Z Z (by simp [hRl]) Z) Z Z Z (js O Z (jf [24,23,1,9,0,5] Z (iX O (l := 0) (j := 1) (z := 2) (ex := [.int .i64 K, fH t.fs]) (ys := (t.fs).map Tm.cells) (ys' := (bq mT nT (K + 1) t.fs).map Tm.cells) (xs' := R.set i [.int .i64 K, fH (bq mT nT (K + 1) t.fs)]) Z Z Z Z (.rp (.d Z .nil)) (.rp (.d Z .nil)) Z (by simp [hRl]) Z (zZ (ts := t.fs) (k := (K + 1)) h1 h2 (by omega) (by omega)).1 (fun _ => by rw [bt]; exact zZ (ts := t.fs) h1 h2 (by omega) (by omega)) (fun hys => ?_) Z (by simp [bv]) Z Z Z Z (by simp) ?_))))
 have hy : t.fs = [] := by simpa using hys
 rw [hy]
 exact (A5 h1 h2 (k := (K + 1))).plain (by simp [bC, hy])
 refine ao ?_
 refine js O Z (jf [1,9,0,5] Z (jn (aj (js O Z ?_))))
 first | refine ji O Z ?_ | refine aU O Z Z ?_
 refine js O Z (jf [5,1,9,0] Z (jn ?_))
 refine ⟨i + 1, Ent.to ⟨Z, ?_, Z, trivial⟩ (by rw [jO, ← hRn]), by omega, by omega⟩
 rw [hcs]
 exact congrArg (fun z => some (eI z)) (by omega)
 try simp only [aN] at hc9
 refine aQ (ac (j2 O Z Z (jr ?_)))
 refine ⟨.inl Z, _, ak, _, Z, ?_⟩
 obtain rfl : i = ts.length := by omega
 rw [li (bw _), List.take_length]
 exact ⟨Z, Z⟩
abbrev wd (a : An) : List (Nat × B) := [(0, fO a.pre), (1, fO a.post), (2, jR a.code), (3, jO a.pts)]
abbrev Bt (a : An) : A := .agg [.rs 0 0 a.pre.length, .rs 1 0 a.post.length, .rs 2 0 a.code.length, .rs 3 0 a.pts.length]
def mAn (k : Int) (a : An) : An := ⟨bq mT nT k a.pre, bq mT nT (k + bC nT a.pre) a.post, bq ub iz (k + bC nT a.pre + bC nT a.post) a.code, bq mP nP (k + bC nT a.pre + bC nT a.post + bC iz a.code) a.pts⟩
theorem BH (hk0 : 0 ≤ k) (hk1 : k + bC nT a.pre + bC nT a.post + bC iz a.code + bC nP a.pts ≤ 1073741824) : MQ h1 h2 15 [Bt a, eI k] (wd a) (bb (eI (k + bC nT a.pre + bC nT a.post + bC iz a.code + bC nP a.pts)) (wd (mAn k a))) := by
 refine aJ 500 Z (jH 22 [500,501,502,503] h1 h2 Tryz.func15 Z Z Z Z fun O hF => ?_)
 refine ac (jx O Z (js O Z (aP (j3 O Z Z Z (jf [7,6,4,2,0,1] Z (ay O [500] (bin := [fO a.pre]) Z Z Z Z (zZ (ts := a.pre) (k := k) h1 h2 hk0 (by omega)) Z Z Z Z Z Z (B0 := 9000) Z Z (ao ?_)))))))
 refine js O Z (jf [1,4,2,0] Z (aP (j3 O Z Z Z (jf [11,10,1,4,2,0] Z (ay O [501] (bin := [fO a.post]) Z Z Z Z (zZ (ts := a.post) (k := k + bC nT a.pre) h1 h2 (by omega) (by omega)) Z Z Z Z Z Z (B0 := 13000) Z Z (ao ?_))))))
 refine js O Z (jf [1,4,2,0] Z (aP (j3 O Z Z Z (jf [15,14,1,4,2,0] Z (ay O [502] (bin := [jR a.code]) Z Z Z Z (c76 (ts := a.code) (k := k + bC nT a.pre + bC nT a.post) h1 h2 (by omega) (by omega)) Z Z Z Z Z Z (B0 := 17000) Z Z (ao ?_))))))
 refine js O Z (jf [1,4,2,0] Z (aP (j3 O Z Z Z (jf [19,18,1,4,2,0] Z (ay O [503] (bin := [jO a.pts]) Z Z Z Z (c77 (ts := a.pts) (k := k + bC nT a.pre + bC nT a.post + bC iz a.code) h1 h2 (by omega) (by omega)) Z Z Z Z Z Z (B0 := 21000) Z Z (ao ?_))))))
 refine js O Z (jf [1,4,2,0] Z (aP (j2 O Z Z (jr ?_))))
 refine ⟨.inl Z, _, aw [500,501,502,503] Z Z (e' := [(4, eI (k + bC nT a.pre + bC nT a.post + bC iz a.code + bC nP a.pts))]) ⟨Z, trivial⟩ Z, _, Z, Z, Z⟩
theorem jQ {a : Bool} (h : (!a) = true) : a = false := by simpa using h
theorem gi {a : Bool} (h : (!a) = false) : a = true := by simpa using h
theorem Ab {a b : Bool} (h : (bif a then true else b) = false) : a = false ∧ b = false := by cases a <;> cases b <;> simp_all
theorem uo {a b : Bool} (h : (bif a then b else false) = true) : a = true ∧ b = true := by cases a <;> cases b <;> simp_all
theorem u7 {α : Type} {p : α → Bool} {xs : List α} (j : Nat) (hj : j < xs.length) (h : p xs[j] = true) : xs.any p = true := List.any_eq_true.2 ⟨xs[j], List.getElem_mem _, h⟩
theorem xJ {α : Type} {p : α → Bool} {xs : List α} (h : ∀ j (hj : j < xs.length), p xs[j] = false) : xs.any p = false := List.any_eq_false.2 fun x hx => by
 obtain ⟨j, hj, rfl⟩ := List.mem_iff_getElem.1 hx
 rw [h j hj]; decide
theorem vt (t : Tm) : (bif !t.ok then true else decide ((4 : Int) < t.xs.length)) = !t.term := by
 unfold Tm.term
 cases t.ok
 rfl
 by_cases h : (4 : Int) < t.xs.length
 rw [decide_eq_true h, decide_eq_false (by omega)]; rfl
 rw [decide_eq_false h, decide_eq_true (by omega)]; rfl
theorem Bk : MQ h1 h2 104 [.agg (x.cells.map .d)] [] (Plain (eB (aV x))) := by
 refine aA ?_ Z
 refine jB 37 h1 h2 Tryz.func104 Z Z Z fun O hF => ?_
 refine ac (jx O Z (js O Z (jn (af (ac (j2 O Z Z (jn (am (af (ac (j2 O Z Z (jn (ab O Z Z (fun hc5 => ?_) (fun hc5 => ?_))))))))))))))
 try simp only [aN] at hc5
 refine ah (ab O Z Z (fun hc5 => ?_) (fun hc5 => ?_))
 try simp only [aN] at hc5
 refine ac (j2 O Z Z (ae O Z Z Z Z (ul h1 h2) (aa Z) Z Z Z Z Z (B0 := 11000) Z (js O Z (jr ?_))))
 refine ⟨.inl Z, _, ak, _, Z, ?_⟩
 unfold aV da; simp_all
 try simp only [aN] at hc5
 contradiction
 try simp only [aN] at hc5
 refine aj (j2 O Z Z (jn (ab O Z Z (fun hc5 => ?_) (fun hc5 => ?_))))
 try simp only [aN] at hc5
 refine ac (j2 O Z Z (ae O Z Z Z Z (ul h1 h2) (aa Z) Z Z Z Z Z (B0 := 11000) Z (js O Z (jr ?_))))
 refine ⟨.inl Z, _, ak, _, Z, ?_⟩
 unfold aV da; simp_all
 try simp only [aN] at hc5
 refine af (ac (j2 O Z Z (jn (ab O Z Z (fun hc11 => ?_) (fun hc11 => ?_)))))
 try simp only [aN] at hc11
 refine ah (ab O Z Z (fun hc11 => ?_) (fun hc11 => ?_))
 try simp only [aN] at hc11
 refine ac (j2 O Z Z (ae O Z Z Z Z (kX h1 h2) (aa Z) Z Z Z Z Z (B0 := 17000) Z (js O Z (jr ?_))))
 refine ⟨.inl Z, _, ak, _, Z, ?_⟩
 unfold aV da; simp_all
 try simp only [aN] at hc11
 contradiction
 try simp only [aN] at hc11
 refine aj (j2 O Z Z (jn (ab O Z Z (fun hc11 => ?_) (fun hc11 => ?_))))
 try simp only [aN] at hc11
 refine ac (j2 O Z Z (ae O Z Z Z Z (kX h1 h2) (aa Z) Z Z Z Z Z (B0 := 17000) Z (js O Z (jr ?_))))
 refine ⟨.inl Z, _, ak, _, Z, ?_⟩
 unfold aV da; simp_all
 try simp only [aN] at hc11
 refine af (ac (j2 O Z Z (jn (ab O Z Z (fun hc17 => ?_) (fun hc17 => ?_)))))
 try simp only [aN] at hc17
 refine ah (ab O Z Z (fun hc17 => ?_) (fun hc17 => ?_))
 try simp only [aN] at hc17
 refine ac (j2 O Z Z (ae O Z Z Z Z (kX h1 h2) (aa Z) Z Z Z Z Z (B0 := 23000) Z (js O Z (jr ?_))))
 refine ⟨.inl Z, _, ak, _, Z, ?_⟩
 unfold aV da; simp_all
 try simp only [aN] at hc17
 contradiction
 try simp only [aN] at hc17
 refine aj (j2 O Z Z (jn (ab O Z Z (fun hc17 => ?_) (fun hc17 => ?_))))
 try simp only [aN] at hc17
 refine ac (j2 O Z Z (ae O Z Z Z Z (kX h1 h2) (aa Z) Z Z Z Z Z (B0 := 23000) Z (js O Z (jr ?_))))
 refine ⟨.inl Z, _, ak, _, Z, ?_⟩
 unfold aV da; simp_all
 try simp only [aN] at hc17
 refine ac (j2 O Z Z (jn (ab O Z Z (fun hc23 => ?_) (fun hc23 => ?_))))
 try simp only [aN] at hc23
 refine ac (j2 O Z Z (ae O Z Z Z Z (kX h1 h2) (aa Z) Z Z Z Z Z (B0 := 28000) Z (js O Z (jr ?_))))
 refine ⟨.inl Z, _, ak, _, Z, ?_⟩
 unfold aV da; simp_all
 try simp only [aN] at hc23
 refine af (ac (j2 O Z Z (jn (ab O Z Z (fun hc28 => ?_) (fun hc28 => ?_)))))
 try simp only [aN] at hc28
 refine ah (ab O Z Z (fun hc28 => ?_) (fun hc28 => ?_))
 try simp only [aN] at hc28
 refine ac (j4 O Z Z Z Z (jr ?_))
 refine ⟨.inl Z, _, ak, _, Z, ?_⟩
 unfold aV da; simp_all
 try simp only [aN] at hc28
 contradiction
 try simp only [aN] at hc28
 refine ac (j2 O Z Z (jn (ab O Z Z (fun hc28 => ?_) (fun hc28 => ?_))))
 try simp only [aN] at hc28
 refine ah (ab O Z Z (fun hc28 => ?_) (fun hc28 => ?_))
 try simp only [aN] at hc28
 refine ac (j4 O Z Z Z Z (jr ?_))
 refine ⟨.inl Z, _, ak, _, Z, ?_⟩
 unfold aV da; simp_all
 try simp only [aN] at hc28
 contradiction
 try simp only [aN] at hc28
 refine ac (j2 O Z Z (jn (ab O Z Z (fun hc28 => ?_) (fun hc28 => ?_))))
 try simp only [aN] at hc28
 refine ah (ab O Z Z (fun hc28 => ?_) (fun hc28 => ?_))
 try simp only [aN] at hc28
 refine ac (j4 O Z Z Z Z (jr ?_))
 refine ⟨.inl Z, _, ak, _, Z, ?_⟩
 unfold aV da; simp_all
 try simp only [aN] at hc28
 contradiction
 try simp only [aN] at hc28
 refine ac (j2 O Z Z (jn (ab O Z Z (fun hc28 => ?_) (fun hc28 => ?_))))
 try simp only [aN] at hc28
 refine ah (ab O Z Z (fun hc28 => ?_) (fun hc28 => ?_))
 try simp only [aN] at hc28
 refine ac (j4 O Z Z Z Z (jr ?_))
 refine ⟨.inl Z, _, ak, _, Z, ?_⟩
 unfold aV da; simp_all
 try simp only [aN] at hc28
 contradiction
 try simp only [aN] at hc28
 refine aj (j2 O Z Z (jn (ab O Z Z (fun hc28 => ?_) (fun hc28 => ?_))))
 try simp only [aN] at hc28
 refine ac (j4 O Z Z Z Z (jr ?_))
 refine ⟨.inl Z, _, ak, _, Z, ?_⟩
 unfold aV da; simp_all
 try simp only [aN] at hc28
 refine ah (ac (js O Z (jr ?_)))
 refine ⟨.inl Z, _, ak, _, Z, ?_⟩
 unfold aV da; simp_all
variable {c : List In}
theorem Bq : MQ h1 h2 76 [jT c] [] (Plain (eB (eo c))) := by
 refine aA ?_ Z
 refine jB 19 h1 h2 Tryz.func76 Z Z Z fun O hF => ?_
 have hl : c.length ≤ L := by simpa [As.fact, A.fact, M.fact, D.fact, Ds.fact] using hF.1.1
 refine ac (js O Z (jn (af (ac (js O Z (jn (am (ap (X := Nat) (fun i => ⟨[(0, jT c), (3, eI i)], []⟩) (fun i => i ≤ c.length ∧ ∀ j (h : j < c.length), j < i → aV c[j] = true) (fun i => c.length - i) 0 (Ent.env ⟨Z, Z, trivial⟩) ?_ (fun i hi => ?_)))))))))
 exact ⟨cm _, fun j h hj => absurd hj (Nat.not_lt_zero j)⟩
 refine af (ac (j2 O Z Z ?_))
 first | refine bo O Z ?_ | refine js O Z ?_ | refine aU O Z Z ?_
 refine js O Z (jn (ab O Z Z (fun hc7 => ?_) (fun hc7 => ?_)))
 try simp only [aN] at hc7
 refine ah (af (am (ac (j2 O Z Z ?_))))
 first | refine f7 O Z Z ?_ | refine aU O Z Z ?_
 refine js O Z (ae O Z Z Z Z (Bk h1 h2) (aa Z) Z Z Z Z Z (B0 := 15000) Z (js O Z (jn (ab O Z Z (fun hc15 => ?_) (fun hc15 => ?_)))))
 try simp only [aN] at hc15
 refine ac (js O Z (jr ?_))
 refine ⟨.inl Z, _, ak, _, Z, ?_⟩
 rw [Int.toNat_natCast, ar (by omega)] at hc15
 rw [eo, gU i (by omega) hc15, Bool.false_and]
 try simp only [aN] at hc15
 refine ah (aj (js O Z ?_))
 first | refine ji O Z ?_ | refine aU O Z Z ?_
 refine js O Z (jn ?_)
 refine ⟨i + 1, Ent.env ⟨Z, Z, trivial⟩, ⟨by omega, fun j h hj => ?_⟩, by omega⟩
 by_cases e : j = i
 subst e; rw [Int.toNat_natCast, ar h] at hc15; exact hc15
 exact hi.2 j h (by omega)
 try simp only [aN] at hc7
 refine aQ (ac (js O Z ?_))
 first | refine bo O Z ?_ | refine js O Z ?_ | refine aU O Z Z ?_
 refine ae O Z Z Z Z (kX h1 h2) (aa Z) Z Z Z Z Z (B0 := 19000) Z (js O Z (jr ?_))
 refine ⟨.inl Z, _, ak, _, Z, ?_⟩
 rw [eo, j7 (fun j hj => hi.2 j hj (by omega)), Bool.true_and]
 rfl
theorem sC {ts : List Tm} : MQ h1 h2 77 [cD ts] [] (Plain (eB (cf ts 6))) := by
 refine aA ?_ Z
 refine jB 27 h1 h2 Tryz.func77 Z Z Z fun O hF => ?_
 have hl : ts.length ≤ L := by simpa [As.fact, A.fact, M.fact, D.fact, Ds.fact] using hF.1.1
 refine ac (js O Z (jn (af (ac (js O Z (jn (am (ap (X := Nat) (fun i => ⟨[(0, cD ts), (3, eI i)], []⟩) (fun i => i ≤ ts.length ∧ ∀ j (h : j < ts.length), j < i → Tm.term ts[j] = true) (fun i => ts.length - i) 0 (Ent.env ⟨Z, Z, trivial⟩) ?_ (fun i hi => ?_)))))))))
 exact ⟨cm _, fun j h hj => absurd hj (Nat.not_lt_zero j)⟩
 refine af (ac (j2 O Z Z ?_))
 first | refine bo O Z ?_ | refine js O Z ?_ | refine aU O Z Z ?_
 refine js O Z (jf [7,0,3] Z (jn (ab O Z Z (fun hc7 => ?_) (fun hc7 => ?_))))
 refine ah (af (am (ac ?_)))
 have hil : i < ts.length := by have := aR hc7; omega
 refine j2 O Z Z ?_
 first | refine kV O Z Z ?_ | refine f7 O Z Z ?_ | refine aU O Z Z ?_
 refine jf [12,7,0,3] Z (ae O Z Z Z Z (yp (t := ts.getD i default) h1 h2) (aa Z) Z Z Z Z Z (B0 := 14000) Z (j2 O Z Z (jf [15,7,0,3] Z (aS 7 Z Z Z (fun hx => AN.step hx Z Z Z (V O Z) Z Z ( AN.step hx Z Z Z (V O Z) Z Z ( AN.step hx Z Z Z (vN O Z) Z Z ( AN.step hx Z Z Z (V O Z) Z Z ( AN.step hx Z Z Z (V O Z) Z Z ( AN.step hx Z Z Z (bZ O Z Z Z Z Z Z Z Z) Z Z ( AN.step hx Z Z Z (V O Z) Z Z ( AN.nil)))))))) Z Z ?_))))
 first | refine AOps.step (aK O Z Z Z Z Z) Z Z Z ?_ | refine AOps.step (Val.pickB O Z Z Z Z Z) Z Z Z ?_ | refine AOps.step (aM O Z Z Z Z Z) Z Z Z ?_
 refine jf [23,7,0,3] Z (jn (ab O Z Z (fun hc23 => ?_) (fun hc23 => ?_)))
 refine ac (js O Z (jr ?_))
 refine ⟨.inl Z, _, ak, _, Z, ?_⟩
 have h9 := jQ ((vt _).symm.trans hc23)
 rw [ar hil] at h9
 rw [cf, gU i hil h9, Bool.false_and]
 refine ah (aj (js O Z ?_))
 first | refine ji O Z ?_ | refine aU O Z Z ?_
 refine js O Z (jf [3,23,7,0] Z (jn ?_))
 refine ⟨i + 1, Ent.env ⟨Z, Z, trivial⟩, ⟨by omega, fun j h hj => ?_⟩, by omega⟩
 by_cases e : j = i
 subst e; rw [← ar h]; exact gi ((vt _).symm.trans hc23)
 exact hi.2 j h (by omega)
 refine aQ (ac (js O Z ?_))
 first | refine bo O Z ?_ | refine js O Z ?_ | refine aU O Z Z ?_
 refine j2 O Z Z (jf [2,7,0,3] Z (jr ?_))
 refine ⟨.inl Z, _, ak, _, Z, ?_⟩
 have h9 := bn hc7
 rw [cf, j7 (fun j hj => hi.2 j hj (by omega)), Bool.true_and]
theorem Bu {a : An} {i : Nat} : (bif (bif !(decide (0 ≤ (a.pts.getD i default).k) && decide ((a.pts.getD i default).k ≤ (a.code.length : Int) - 1)) then true else !cf (a.pts.getD i default).fs 6) then true else (bif decide ((0 : Int) < i) then decide ((a.pts.getD i default).k ≤ (a.pts.getD (i - 1) default).k) else false)) = !rv a.code.length a.pts i := by
 unfold rv da
 rw [show decide ((0 : Int) < i) = decide (0 < i) from decide_eq_decide.2 (by omega)]
 cases decide (0 ≤ (a.pts.getD i default).k) <;> cases decide ((a.pts.getD i default).k ≤ (a.code.length : Int) - 1) <;> cases cf (a.pts.getD i default).fs 6 <;> cases decide (0 < i) <;> cases decide ((a.pts.getD i default).k ≤ (a.pts.getD (i - 1) default).k) <;> rfl
theorem tv {a : An} (h : (bif (bif (bif !eo a.code then true else !cf a.pre 6) then true else !cf a.post 6) then true else decide ((8 : Int) < a.pts.length)) = true) : cK a = false := by
 unfold cK
 rw [show decide (a.pts.length ≤ 8) = !decide ((8 : Int) < a.pts.length) by rw [← decide_not]; exact decide_eq_decide.2 (by omega)]
 generalize eo a.code = b1 at h ⊢
 generalize cf a.pre 6 = b2 at h ⊢
 generalize cf a.post 6 = b3 at h ⊢
 generalize decide ((8 : Int) < a.pts.length) = b at h ⊢
 cases b1 <;> cases b2 <;> cases b3 <;> cases b <;> simp_all
theorem jm {a : An} (h : (bif (bif (bif !eo a.code then true else !cf a.pre 6) then true else !cf a.post 6) then true else decide ((8 : Int) < a.pts.length)) = false) : cK a = sj a.code.length a.pts ∧ a.pts.length ≤ 8 ∧ eo a.code = true := by
 unfold cK
 rw [show decide (a.pts.length ≤ 8) = !decide ((8 : Int) < a.pts.length) by rw [← decide_not]; exact decide_eq_decide.2 (by omega)]
 generalize eo a.code = b1 at h ⊢
 generalize cf a.pre 6 = b2 at h ⊢
 generalize cf a.post 6 = b3 at h ⊢
 by_cases hb : (8 : Int) < a.pts.length
 rw [decide_eq_true hb] at h
 cases b1 <;> cases b2 <;> cases b3 <;> cases h
 rw [decide_eq_false hb] at h ⊢
 have h9 : a.pts.length ≤ 8 := by omega
 cases b1 <;> cases b2 <;> cases b3 <;> simp_all
theorem rN {c : List In} (h : eo c = true) : 1 ≤ c.length ∧ c.length ≤ 80 := by
 simp only [eo, da, bF, decide_eq_true_eq] at h; omega
theorem vi : MQ h1 h2 41 [ptr a.data] [] (Plain (eB (cK a))) := by
 refine aA ?_ Z
 refine jB 90 h1 h2 Tryz.func41 Z Z Z fun O hF => ?_
 have hl : a.code.length ≤ L := by simpa [As.fact, A.fact, M.fact, D.fact, Ds.fact] using hF.1.2.2.1.1
 have hlp : a.pts.length ≤ L := by simpa [As.fact, A.fact, M.fact, D.fact, Ds.fact] using hF.1.2.2.2.1.1
 refine ac (js O Z (jn (af (ac (j4 O Z Z Z Z (dP [(8, _), (2, _), (0, _)] [] ⟨Z, Z, Z, trivial⟩ Z (ae O Z Z Z Z (Bq h1 h2) (aa Z) Z Z Z Z Z (B0 := 10000) Z (j2 O Z Z (dP [(11, _), (2, _), (0, _)] [] ⟨Z, Z, Z, trivial⟩ Z (aS 6 Z Z Z (fun hx => AN.step hx Z Z Z (V O Z) Z Z ( AN.step hx Z Z Z (V O Z) Z Z ( AN.step hx Z Z Z (V O Z) Z Z ( AN.step hx Z Z Z (V O Z) Z Z ( dI O hx Z Z Z Z (sC h1 h2) (aa Z) Z Z Z Z Z Z Z (B0 := 17000) Z ( AN.step hx Z Z Z (V O Z) Z Z ( AN.nil))))))) Z Z ?_))))))))))
 first | refine AOps.step (aK O Z Z Z Z Z) Z Z Z ?_ | refine AOps.step (Val.pickB O Z Z Z Z Z) Z Z Z ?_ | refine AOps.step (aM O Z Z Z Z Z) Z Z Z ?_
 refine js O Z (dP [(19, _), (2, _), (0, _)] [] ⟨Z, Z, Z, trivial⟩ Z (aS 6 Z Z Z (fun hx => AN.step hx Z Z Z (V O Z) Z Z ( AN.step hx Z Z Z (V O Z) Z Z ( AN.step hx Z Z Z (V O Z) Z Z ( AN.step hx Z Z Z (V O Z) Z Z ( dI O hx Z Z Z Z (sC h1 h2) (aa Z) Z Z Z Z Z Z Z (B0 := 25000) Z ( AN.step hx Z Z Z (V O Z) Z Z ( AN.nil))))))) Z Z ?_))
 first | refine AOps.step (aK O Z Z Z Z Z) Z Z Z ?_ | refine AOps.step (Val.pickB O Z Z Z Z Z) Z Z Z ?_ | refine AOps.step (aM O Z Z Z Z Z) Z Z Z ?_
 refine js O Z (dP [(27, _), (2, _), (0, _)] [] ⟨Z, Z, Z, trivial⟩ Z (aS 6 Z Z Z (fun hx => AN.step hx Z Z Z (V O Z) Z Z ( AN.step hx Z Z Z (V O Z) Z Z ( AN.step hx Z Z Z (V O Z) Z Z ( AN.step hx Z Z Z (V O Z) Z Z ( AN.step hx Z Z Z (bZ O Z Z Z Z Z Z Z Z) Z Z ( AN.step hx Z Z Z (V O Z) Z Z ( AN.nil))))))) Z Z ?_))
 first | refine AOps.step (aK O Z Z Z Z Z) Z Z Z ?_ | refine AOps.step (Val.pickB O Z Z Z Z Z) Z Z Z ?_ | refine AOps.step (aM O Z Z Z Z Z) Z Z Z ?_
 refine jf [34,2,0] Z (jn (ab O Z Z (fun hc34 => ?_) (fun hc34 => ?_)))
 refine ac (js O Z (jr ?_))
 refine ⟨.inl Z, _, ak, _, Z, ?_⟩
 rw [tv hc34]
 refine ah (af (ac (js O Z (jn (am (ap (X := Nat) (fun i => ⟨[(0, ptr a.data), (3, eI i)], []⟩) (fun i => i ≤ a.pts.length ∧ ∀ j, j < i → rv a.code.length a.pts j = true) (fun i => a.pts.length - i) 0 (Ent.env ⟨Z, Z, trivial⟩) ?_ (fun i hi => ?_)))))))
 exact ⟨cm _, fun j hj => absurd hj (Nat.not_lt_zero j)⟩
 refine af (ac (j4 O Z Z Z Z (js O Z ?_)))
 first | refine bo O Z ?_ | refine js O Z ?_ | refine aU O Z Z ?_
 refine js O Z (jf [41,0,3] Z (jn (ab O Z Z (fun hc41 => ?_) (fun hc41 => ?_))))
 refine ah (af (am (ac ?_)))
 have hil : i < a.pts.length := by have := aR hc41; omega
 refine j4 O Z Z Z Z (js O Z ?_)
 first | refine kV O Z Z ?_ | refine f7 O Z Z ?_ | refine aU O Z Z ?_
 refine js O Z (jf [4,41,0,3] Z (jn (af (c6 (F := ⟨[(89, eB (bif (bif !(decide (0 ≤ (a.pts.getD i default).k) && decide ((a.pts.getD i default).k ≤ (a.code.length : Int) - 1)) then true else !cf (a.pts.getD i default).fs 6) then true else (bif decide ((0 : Int) < i) then decide ((a.pts.getD i default).k ≤ (a.pts.getD (i - 1) default).k) else false))), (0, ptr a.data), (3, eI i)], []⟩) ?_ ?_))))
 cases hb7 : !(decide (0 ≤ (a.pts.getD i default).k) && decide ((a.pts.getD i default).k ≤ (a.code.length : Int) - 1)) with
 | true =>
  refine t7 O (_ :: _ :: _ :: _ :: _ :: _ :: _ :: _ :: _ :: _ :: _ :: _ :: _ :: _ :: _ :: _ :: _ :: _ :: _ :: _ :: _ :: _ :: _ :: _ :: _ :: _ :: _ :: _ :: _ :: _ :: _ :: _ :: _ :: _ :: _ :: _ :: _ :: _ :: _ :: _ :: []) (pn [] 0 0 :: pn [0] 0 0 :: pn [0,1] 0 0 :: pn [0,1,2] 0 0 :: pn [] 0 0 :: pn [4] 0 0 :: pn [4,5] 0 0 :: pn [4,5,6] 0 0 :: pn (rg 4 4) 0 0 :: pn (rg 4 5) 0 0 :: pe (rg 0 10) 0 :: pn (rg 0 11) 1 1 :: pn (rg 0 12) 1 1 :: pn (rg 0 13) 0 1 :: pn (rg 0 14) 0 1 :: pn (rg 0 15) 0 1 :: pn (rg 0 16) 0 1 :: pn (rg 0 17) 0 1 :: pn (rg 0 18) 0 1 :: pn (rg 0 19) 1 1 :: pn (rg 0 20) 1 1 :: pn (rg 0 21) 0 1 :: pn (rg 0 22) 0 1 :: pn (rg 0 23) 0 1 :: pn (rg 0 24) 0 1 :: pn (rg 0 25) 0 1 :: pn (rg 0 26) 0 1 :: pn (rg 0 27) 0 1 :: pn (rg 0 24) 0 1 :: pn (rg 0 24++[28]) 0 1 :: pn (rg 0 30) 0 1 :: pn (rg 0 31) 0 1 :: pn (rg 0 32) 0 1 :: pn (rg 0 24) 0 1 :: pn (rg 0 24++[33]) 0 1 :: pn (rg 0 24++[33,34]) 0 1 :: pn (rg 0 24++[33,34,35]) 0 1 :: pn (rg 0 37) 0 1 :: pn (rg 0 38) 0 1 :: pn (rg 0 39) 1 1 :: []) [10] [_,_] (kc O Z (kc O Z (kc O Z (kc O Z (kc O Z (kc O Z (kc O Z (kc O Z (ai (bZ O Z Z Z Z Z Z Z Z) (ai (vF O Z) (ai (bm O (B0 := 61000) Z Z Z Z (kX h1 h2) (aa Z) Z Z Z Z Z) (kc O Z (ai ((V O Z).cast (v' := eB true) (congrArg eB hb7)) (ai ⟨Z, Z⟩ (ai ⟨Z, Z⟩ (ai ⟨Z, Z⟩ (ai ⟨Z, Z⟩ (ai ⟨Z, Z⟩ (ai ⟨Z, Z⟩ (ai (ba O Z Z Z Z Z) (kc O Z (ai ⟨Z, Z⟩ (ai ⟨Z, Z⟩ (ai ⟨Z, Z⟩ (ai ⟨Z, Z⟩ (ai ⟨Z, Z⟩ (ai ⟨Z, Z⟩ (ai ⟨Z, Z⟩ (ai ⟨Z, Z⟩ (ai ⟨Z, Z⟩ (ai ⟨Z, Z⟩ (ai ⟨Z, Z⟩ (ai ⟨Z, Z⟩ (ai ⟨Z, Z⟩ (ai ⟨Z, Z⟩ (ai ⟨Z, Z⟩ (ai ⟨Z, Z⟩ (ai ⟨Z, Z⟩ (ai ⟨Z, Z⟩ (ai (ba O Z Z Z Z Z) trivial)))))))))))))))))))))))))))))))))))))))) ?_
  exact ⟨Z, Ent.env ⟨Z, Z, Z, trivial⟩⟩
 | false =>
  cases hb7b : !cf (a.pts.getD i default).fs 6 with
  | true =>
   refine t7 O (_ :: _ :: _ :: _ :: _ :: _ :: _ :: _ :: _ :: _ :: _ :: _ :: _ :: _ :: _ :: _ :: _ :: _ :: _ :: _ :: _ :: _ :: _ :: _ :: _ :: _ :: _ :: _ :: _ :: _ :: _ :: _ :: _ :: _ :: _ :: _ :: _ :: _ :: _ :: _ :: []) (pn [] 0 0 :: pn [0] 0 0 :: pn [0,1] 0 0 :: pn [0,1,2] 0 0 :: pn [] 0 0 :: pn [4] 0 0 :: pn [4,5] 0 0 :: pn [4,5,6] 0 0 :: pn (rg 4 4) 0 0 :: pn (rg 4 5) 0 0 :: pe (rg 0 10) 0 :: pn (rg 0 11) 1 1 :: pn (rg 0 12) 1 1 :: pn (rg 0 13) 1 1 :: pn (rg 0 14) 1 1 :: pn (rg 0 15) 1 1 :: pn (rg 0 16) 1 1 :: pe (rg 0 17) 1 :: pn (rg 0 18) 2 2 :: pn (rg 0 19) 2 2 :: pn (rg 0 20) 2 2 :: pn (rg 0 21) 0 2 :: pn (rg 0 22) 0 2 :: pn (rg 0 23) 0 2 :: pn (rg 0 24) 0 2 :: pn (rg 0 25) 0 2 :: pn (rg 0 26) 0 2 :: pn (rg 0 27) 0 2 :: pn (rg 0 24) 0 2 :: pn (rg 0 24++[28]) 0 2 :: pn (rg 0 30) 0 2 :: pn (rg 0 31) 0 2 :: pn (rg 0 32) 0 2 :: pn (rg 0 24) 0 2 :: pn (rg 0 24++[33]) 0 2 :: pn (rg 0 24++[33,34]) 0 2 :: pn (rg 0 24++[33,34,35]) 0 2 :: pn (rg 0 37) 0 2 :: pn (rg 0 38) 0 2 :: pn (rg 0 39) 2 2 :: []) [10,17] [_,_,_] (kc O Z (kc O Z (kc O Z (kc O Z (kc O Z (kc O Z (kc O Z (kc O Z (ai (bZ O Z Z Z Z Z Z Z Z) (ai (vF O Z) (ai (bm O (B0 := 61000) Z Z Z Z (kX h1 h2) (aa Z) Z Z Z Z Z) (kc O Z (ai ((V O Z).cast (v' := eB false) (congrArg eB hb7)) (kc O Z (kc O Z (kc O Z (kc O Z (ai (bm O (B0 := 68000) Z Z Z Z (sC h1 h2) (aa Z) Z Z Z Z Z) (kc O Z (ai (aF O Z Z Z Z Z) (ai ((V O Z).cast (v' := eB true) (congrArg eB hb7b)) (ai ⟨Z, Z⟩ (ai ⟨Z, Z⟩ (ai ⟨Z, Z⟩ (ai ⟨Z, Z⟩ (ai ⟨Z, Z⟩ (ai ⟨Z, Z⟩ (ai ⟨Z, Z⟩ (ai ⟨Z, Z⟩ (ai ⟨Z, Z⟩ (ai ⟨Z, Z⟩ (ai ⟨Z, Z⟩ (ai ⟨Z, Z⟩ (ai ⟨Z, Z⟩ (ai ⟨Z, Z⟩ (ai ⟨Z, Z⟩ (ai ⟨Z, Z⟩ (ai ⟨Z, Z⟩ (ai ⟨Z, Z⟩ (ai (ba O Z Z Z Z Z) trivial)))))))))))))))))))))))))))))))))))))))) ?_
   exact ⟨Z, Ent.env ⟨Z, Z, Z, trivial⟩⟩
  | false =>
   cases hb7c : decide ((0 : Int) < i) with
   | true =>
    have hi0 : 0 < i := by have := aR hb7c; omega
    refine t7 O (_ :: _ :: _ :: _ :: _ :: _ :: _ :: _ :: _ :: _ :: _ :: _ :: _ :: _ :: _ :: _ :: _ :: _ :: _ :: _ :: _ :: _ :: _ :: _ :: _ :: _ :: _ :: _ :: _ :: _ :: _ :: _ :: _ :: _ :: _ :: _ :: _ :: _ :: _ :: _ :: []) (pn [] 0 0 :: pn [0] 0 0 :: pn [0,1] 0 0 :: pn [0,1,2] 0 0 :: pn [] 0 0 :: pn [4] 0 0 :: pn [4,5] 0 0 :: pn [4,5,6] 0 0 :: pn (rg 4 4) 0 0 :: pn (rg 4 5) 0 0 :: pe (rg 0 10) 0 :: pn (rg 0 11) 1 1 :: pn (rg 0 12) 1 1 :: pn (rg 0 13) 1 1 :: pn (rg 0 14) 1 1 :: pn (rg 0 15) 1 1 :: pn (rg 0 16) 1 1 :: pe (rg 0 17) 1 :: pn (rg 0 18) 2 2 :: pn (rg 0 19) 2 2 :: pn (rg 0 20) 2 2 :: pn (rg 0 21) 2 2 :: pn (rg 0 22) 2 2 :: pn (rg 0 23) 2 2 :: pn (rg 0 24) 2 2 :: pn (rg 0 25) 2 2 :: pn (rg 0 26) 2 2 :: pn (rg 0 27) 2 2 :: pn (rg 0 24) 2 2 :: pn (rg 0 24++[28]) 2 2 :: pn (rg 0 30) 2 2 :: pn (rg 0 31) 2 2 :: pn (rg 0 32) 2 2 :: pn (rg 0 24) 2 2 :: pn (rg 0 24++[33]) 2 2 :: pn (rg 0 24++[33,34]) 2 2 :: pn (rg 0 24++[33,34,35]) 2 2 :: pn (rg 0 37) 2 2 :: pn (rg 0 38) 2 2 :: pn (rg 0 39) 2 2 :: []) [10,17] [_,_,_] (kc O Z (kc O Z (kc O Z (kc O Z (kc O Z (kc O Z (kc O Z (kc O Z (ai (bZ O Z Z Z Z Z Z Z Z) (ai (vF O Z) (ai (bm O (B0 := 61000) Z Z Z Z (kX h1 h2) (aa Z) Z Z Z Z Z) (kc O Z (ai ((V O Z).cast (v' := eB false) (congrArg eB hb7)) (kc O Z (kc O Z (kc O Z (kc O Z (ai (bm O (B0 := 68000) Z Z Z Z (sC h1 h2) (aa Z) Z Z Z Z Z) (kc O Z (ai (aF O Z Z Z Z Z) (ai ((V O Z).cast (v' := eB false) (congrArg eB hb7b)) (kc O Z (kc O Z (ai ((V O Z).cast (v' := eB true) (congrArg eB hb7c)) (kc O Z (kc O Z (kc O Z (kc O Z (kc O Z (ai ((vF O Z).cast (v' := eI ((i - 1 : Nat) : Int)) (congrArg eI (by omega))) (ai (vN O Z) (kc O Z (kc O Z (kc O Z (kc O Z (kc O Z (kc O Z (kc O Z (ai (ba O Z Z Z Z Z) (ai (aF O Z Z Z Z Z) trivial)))))))))))))))))))))))))))))))))))))))) ?_
    exact ⟨Z, Ent.env ⟨Z, Z, Z, trivial⟩⟩
   | false =>
    refine t7 O (_ :: _ :: _ :: _ :: _ :: _ :: _ :: _ :: _ :: _ :: _ :: _ :: _ :: _ :: _ :: _ :: _ :: _ :: _ :: _ :: _ :: _ :: _ :: _ :: _ :: _ :: _ :: _ :: _ :: _ :: _ :: _ :: _ :: _ :: _ :: _ :: _ :: _ :: _ :: _ :: []) (pn [] 0 0 :: pn [0] 0 0 :: pn [0,1] 0 0 :: pn [0,1,2] 0 0 :: pn [] 0 0 :: pn [4] 0 0 :: pn [4,5] 0 0 :: pn [4,5,6] 0 0 :: pn (rg 4 4) 0 0 :: pn (rg 4 5) 0 0 :: pe (rg 0 10) 0 :: pn (rg 0 11) 1 1 :: pn (rg 0 12) 1 1 :: pn (rg 0 13) 1 1 :: pn (rg 0 14) 1 1 :: pn (rg 0 15) 1 1 :: pn (rg 0 16) 1 1 :: pe (rg 0 17) 1 :: pn (rg 0 18) 2 2 :: pn (rg 0 19) 2 2 :: pn (rg 0 20) 2 2 :: pn (rg 0 21) 2 2 :: pn (rg 0 22) 2 2 :: pn (rg 0 23) 2 2 :: pn (rg 0 24) 0 2 :: pn (rg 0 25) 0 2 :: pn (rg 0 26) 0 2 :: pn (rg 0 27) 0 2 :: pn (rg 0 24) 0 2 :: pn (rg 0 24++[28]) 0 2 :: pn (rg 0 30) 0 2 :: pn (rg 0 31) 0 2 :: pn (rg 0 32) 0 2 :: pn (rg 0 24) 0 2 :: pn (rg 0 24++[33]) 0 2 :: pn (rg 0 24++[33,34]) 0 2 :: pn (rg 0 24++[33,34,35]) 0 2 :: pn (rg 0 37) 0 2 :: pn (rg 0 38) 2 2 :: pn (rg 0 39) 2 2 :: []) [10,17] [_,_,_] (kc O Z (kc O Z (kc O Z (kc O Z (kc O Z (kc O Z (kc O Z (kc O Z (ai (bZ O Z Z Z Z Z Z Z Z) (ai (vF O Z) (ai (bm O (B0 := 61000) Z Z Z Z (kX h1 h2) (aa Z) Z Z Z Z Z) (kc O Z (ai ((V O Z).cast (v' := eB false) (congrArg eB hb7)) (kc O Z (kc O Z (kc O Z (kc O Z (ai (bm O (B0 := 68000) Z Z Z Z (sC h1 h2) (aa Z) Z Z Z Z Z) (kc O Z (ai (aF O Z Z Z Z Z) (ai ((V O Z).cast (v' := eB false) (congrArg eB hb7b)) (kc O Z (kc O Z (ai ((V O Z).cast (v' := eB false) (congrArg eB hb7c)) (ai ⟨Z, Z⟩ (ai ⟨Z, Z⟩ (ai ⟨Z, Z⟩ (ai ⟨Z, Z⟩ (ai ⟨Z, Z⟩ (ai ⟨Z, Z⟩ (ai ⟨Z, Z⟩ (ai ⟨Z, Z⟩ (ai ⟨Z, Z⟩ (ai ⟨Z, Z⟩ (ai ⟨Z, Z⟩ (ai ⟨Z, Z⟩ (ai ⟨Z, Z⟩ (ai ⟨Z, Z⟩ (ai (aF O Z Z Z Z Z) (ai (aF O Z Z Z Z Z) trivial)))))))))))))))))))))))))))))))))))))))) ?_
    exact ⟨Z, Ent.env ⟨Z, Z, Z, trivial⟩⟩
 refine ab O Z Z (fun hc89 => ?_) (fun hc89 => ?_)
 refine ac (js O Z (jr ?_))
 refine ⟨.inl Z, _, ak, _, Z, ?_⟩
 rw [(jm hc34).1, oc i hil (jQ (Bu.symm.trans hc89))]
 refine ah (aj (js O Z ?_))
 first | refine ji O Z ?_ | refine aU O Z Z ?_
 refine js O Z (jf [3,89,0] Z (jn ?_))
 have h9 : rv a.code.length a.pts i = true := gi (Bu.symm.trans hc89)
 refine ⟨i + 1, Ent.env ⟨Z, Z, trivial⟩, ⟨by omega, fun j hj => ?_⟩, by omega⟩
 by_cases e : j = i
 subst e; exact h9
 exact hi.2 j (by omega)
 refine aQ (ac (js O Z (jr ?_)))
 refine ⟨.inl Z, _, ak, _, Z, ?_⟩
 rw [(jm hc34).1, qV fun j hj => hi.2 j (by have := bn hc41; omega)]
section
set_option linter.unusedSectionVars false
variable {α : Type} [Inhabited α] {f : α → α} {l : List α} {i : Nat} {g : α → List D}
end
structure Fo (a out : An) (k : Nat) : Prop where
  le : k ≤ out.code.length
  eq : qx out = qx a
  ok : AOk out
  no : ∀ j, j < k → (qs out j).1 = 0
structure Gn (a out : An) : Prop where
  eq : qx out = qx a
  ok : AOk out
theorem ym {x : Int} : MQ h1 h2 179 [eI x] [] (Plain (eB (da 0 79 x))) := by
 refine aA ?_ Z
 refine jB 5 h1 h2 Tryz.func179 Z Z Z fun O hF => ?_
 refine ac (js O Z (aP (js O Z (ae O Z Z Z Z (nU h1 h2) (aa Z) Z Z Z Z Z (B0 := 5000) Z (js O Z (jr ?_))))))
 refine ⟨.inl Z, _, ak, _, Z, ?_⟩
 first | rfl | skip
theorem Bi : MQ h1 h2 162 [.agg (x.cells.map .d)] [] (Plain (eB (aV x))) := by
 refine aA ?_ Z
 refine jB 37 h1 h2 Tryz.func162 Z Z Z fun O hF => ?_
 refine ac (jx O Z (js O Z (jn (af (ac (j2 O Z Z (jn (am (af (ac (j2 O Z Z (jn (ab O Z Z (fun hc5 => ?_) (fun hc5 => ?_))))))))))))))
 try simp only [aN] at hc5
 refine ah (ab O Z Z (fun hc5 => ?_) (fun hc5 => ?_))
 try simp only [aN] at hc5
 refine ac (j2 O Z Z (jf [9,6,4,3,2,1,0] Z (ae O Z Z Z Z (uk h1 h2) (aa Z) Z Z Z Z Z (B0 := 11000) Z (js O Z (jf [2,6,4,3,1,0] Z (jr ?_))))))
 refine ⟨.inl Z, _, ak, _, Z, ?_⟩
 unfold aV da; simp_all
 try simp only [aN] at hc5
 contradiction
 try simp only [aN] at hc5
 refine aj (j2 O Z Z (jn (ab O Z Z (fun hc5 => ?_) (fun hc5 => ?_))))
 try simp only [aN] at hc5
 refine ac (j2 O Z Z (jf [9,7,6,4,3,2,1,0] Z (ae O Z Z Z Z (uk h1 h2) (aa Z) Z Z Z Z Z (B0 := 11000) Z (js O Z (jf [2,7,6,4,3,1,0] Z (jr ?_))))))
 refine ⟨.inl Z, _, ak, _, Z, ?_⟩
 unfold aV da; simp_all
 try simp only [aN] at hc5
 refine af (ac (j2 O Z Z (jf [11,7,6,4,3,2,1,0] Z (jn (ab O Z Z (fun hc11 => ?_) (fun hc11 => ?_))))))
 try simp only [aN] at hc11
 refine ah (ab O Z Z (fun hc11 => ?_) (fun hc11 => ?_))
 try simp only [aN] at hc11
 refine ac (j2 O Z Z (jf [15,7,6,4,3,2,1,0] Z (ae O Z Z Z Z (yn h1 h2) (aa Z) Z Z Z Z Z (B0 := 17000) Z (js O Z (jf [2,7,6,4,3,1,0] Z (jr ?_))))))
 refine ⟨.inl Z, _, ak, _, Z, ?_⟩
 unfold aV da; simp_all
 try simp only [aN] at hc11
 contradiction
 try simp only [aN] at hc11
 refine aj (j2 O Z Z (jn (ab O Z Z (fun hc11 => ?_) (fun hc11 => ?_))))
 try simp only [aN] at hc11
 refine ac (j2 O Z Z (jf [15,13,7,6,4,3,2,1,0] Z (ae O Z Z Z Z (yn h1 h2) (aa Z) Z Z Z Z Z (B0 := 17000) Z (js O Z (jf [2,13,7,6,4,3,1,0] Z (jr ?_))))))
 refine ⟨.inl Z, _, ak, _, Z, ?_⟩
 unfold aV da; simp_all
 try simp only [aN] at hc11
 refine af (ac (j2 O Z Z (jf [17,13,7,6,4,3,2,1,0] Z (jn (ab O Z Z (fun hc17 => ?_) (fun hc17 => ?_))))))
 try simp only [aN] at hc17
 refine ah (ab O Z Z (fun hc17 => ?_) (fun hc17 => ?_))
 try simp only [aN] at hc17
 refine ac (j2 O Z Z (jf [21,13,7,6,4,3,2,1,0] Z (ae O Z Z Z Z (ym h1 h2) (aa Z) Z Z Z Z Z (B0 := 23000) Z (js O Z (jf [2,13,7,6,4,3,1,0] Z (jr ?_))))))
 refine ⟨.inl Z, _, ak, _, Z, ?_⟩
 unfold aV da; simp_all
 try simp only [aN] at hc17
 contradiction
 try simp only [aN] at hc17
 refine aj (j2 O Z Z (jn (ab O Z Z (fun hc17 => ?_) (fun hc17 => ?_))))
 try simp only [aN] at hc17
 refine ac (j2 O Z Z (jf [21,19,13,7,6,4,3,2,1,0] Z (ae O Z Z Z Z (ym h1 h2) (aa Z) Z Z Z Z Z (B0 := 23000) Z (js O Z (jf [2,19,13,7,6,4,3,1,0] Z (jr ?_))))))
 refine ⟨.inl Z, _, ak, _, Z, ?_⟩
 unfold aV da; simp_all
 try simp only [aN] at hc17
 refine ac (j2 O Z Z (jf [23,19,13,7,6,4,3,2,1,0] Z (jn (ab O Z Z (fun hc23 => ?_) (fun hc23 => ?_)))))
 try simp only [aN] at hc23
 refine ac (j2 O Z Z (jf [26,19,13,7,6,4,3,2,1,0] Z (ae O Z Z Z Z (Ba h1 h2) (aa Z) Z Z Z Z Z (B0 := 28000) Z (js O Z (jf [2,19,13,7,6,4,3,1,0] Z (jr ?_))))))
 refine ⟨.inl Z, _, ak, _, Z, ?_⟩
 unfold aV da; simp_all
 try simp only [aN] at hc23
 refine af (ac (j2 O Z Z (jf [28,19,13,7,6,4,3,2,1,0] Z (jn (ab O Z Z (fun hc28 => ?_) (fun hc28 => ?_))))))
 try simp only [aN] at hc28
 refine ah (ab O Z Z (fun hc28 => ?_) (fun hc28 => ?_))
 try simp only [aN] at hc28
 refine ac (j4 O Z Z Z Z (jf [2,28,19,13,7,6,4,3,1,0] Z (jr ?_)))
 refine ⟨.inl Z, _, ak, _, Z, ?_⟩
 unfold aV da; simp_all
 try simp only [aN] at hc28
 contradiction
 try simp only [aN] at hc28
 refine ac (j2 O Z Z (jn (ab O Z Z (fun hc28 => ?_) (fun hc28 => ?_))))
 try simp only [aN] at hc28
 refine ah (ab O Z Z (fun hc28 => ?_) (fun hc28 => ?_))
 try simp only [aN] at hc28
 refine ac (j4 O Z Z Z Z (jf [2,28,30,19,13,7,6,4,3,1,0] Z (jr ?_)))
 refine ⟨.inl Z, _, ak, _, Z, ?_⟩
 unfold aV da; simp_all
 try simp only [aN] at hc28
 contradiction
 try simp only [aN] at hc28
 refine ac (j2 O Z Z (jn (ab O Z Z (fun hc28 => ?_) (fun hc28 => ?_))))
 try simp only [aN] at hc28
 refine ah (ab O Z Z (fun hc28 => ?_) (fun hc28 => ?_))
 try simp only [aN] at hc28
 refine ac (j4 O Z Z Z Z (jf [2,28,31,30,19,13,7,6,4,3,1,0] Z (jr ?_)))
 refine ⟨.inl Z, _, ak, _, Z, ?_⟩
 unfold aV da; simp_all
 try simp only [aN] at hc28
 contradiction
 try simp only [aN] at hc28
 refine ac (j2 O Z Z (jn (ab O Z Z (fun hc28 => ?_) (fun hc28 => ?_))))
 try simp only [aN] at hc28
 refine ah (ab O Z Z (fun hc28 => ?_) (fun hc28 => ?_))
 try simp only [aN] at hc28
 refine ac (j4 O Z Z Z Z (jf [2,32,31,30,19,13,7,6,4,3,1,0] Z (jr ?_)))
 refine ⟨.inl Z, _, ak, _, Z, ?_⟩
 unfold aV da; simp_all
 try simp only [aN] at hc28
 contradiction
 try simp only [aN] at hc28
 refine aj (j2 O Z Z (jn (ab O Z Z (fun hc28 => ?_) (fun hc28 => ?_))))
 try simp only [aN] at hc28
 refine ac (j4 O Z Z Z Z (jf [2,33,32,31,30,19,13,7,6,4,3,1,0] Z (jr ?_)))
 refine ⟨.inl Z, _, ak, _, Z, ?_⟩
 unfold aV da; simp_all
 try simp only [aN] at hc28
 refine ah (ac (js O Z (jr ?_)))
 refine ⟨.inl Z, _, ak, _, Z, ?_⟩
 unfold aV da; simp_all
theorem Bj : MQ h1 h2 161 [.agg (x.cells.map .d)] [] (Plain (eB (!aV x))) := by
 refine aA ?_ Z
 refine jB 6 h1 h2 Tryz.func161 Z Z Z fun O hF => ?_
 refine ac (jx O Z (js O Z (aP (js O Z (jf [3,2,0] Z (ae O Z Z Z Z (Bi h1 h2) (aa Z) Z Z Z Z Z (B0 := 5000) Z (j2 O Z Z (jf [2,0] Z (jr ?_)))))))))
 refine ⟨.inl Z, _, ak, _, Z, ?_⟩
 first | rfl | skip
theorem Bd {p : Pt} : MQ h1 h2 142 [.agg (p.cells.map .d), ptr [.int .i64 k]] [] (Plain (eB (decide (p.k = k)))) := by
 refine aA ?_ Z
 refine jB 8 h1 h2 Tryz.func142 Z Z Z fun O hF => ?_
 refine ac (jx O Z (js O Z (aP (j4 O Z Z Z Z (js O Z (jf [3,0] Z (jr ?_)))))))
 refine ⟨.inl Z, _, ak, _, Z, ?_⟩
 first | rfl | skip
def qp {α : Type} (p : α → Bool) (l : List α) : Int := if l.any p = true then (l.findIdx p : Nat) else -1
theorem nc {α : Type} {p : α → Bool} {l : List α} (h : ∀ j (hj : j < l.length), p l[j] = false) : qp p l = -1 := by rw [qp, if_neg (by rw [xJ h]; decide)]
theorem nd {α : Type} {p : α → Bool} {l : List α} {i : Nat} (hi : i < l.length) (h : ∀ j (hj : j < l.length), j < i → p l[j] = false) (hn : p l[i] = true) : qp p l = i := by
 rw [qp, if_pos (u7 i hi hn)]
 exact congrArg Nat.cast ((List.findIdx_eq hi).2 ⟨hn, fun j hj => by simp [h j (by omega) hj]⟩)
theorem po {α : Type} {p : α → Bool} {l : List α} : decide (qp p l ≥ 0) = l.any p := by
 unfold qp
 cases h : l.any p <;> simp
theorem zm : MQ h1 h2 177 [jT c, .c (.fn 161 [])] [] (Plain (eI (qp (fun x : In => !aV x) c))) := by
 refine aA ?_ Z
 refine jB 19 h1 h2 Tryz.func177 Z Z Z fun O hF => ?_
 have hl : c.length ≤ L := by simpa [As.fact, A.fact, M.fact, D.fact, Ds.fact] using hF.1.1
 refine ac (js O Z (jn (af (ac (js O Z ?_)))))
 first | refine bo O Z ?_ | refine js O Z ?_ | refine aU O Z Z ?_
 refine js O Z (jn (am (ap (X := Nat) (fun i => ⟨[(0, jT c), (1, .c (.fn 161 [])), (7, eI c.length), (8, eI i)], []⟩) (fun i => i ≤ c.length ∧ ∀ j (h : j < c.length), j < i → (fun x : In => !aV x) c[j] = false) (fun i => c.length - i) 0 (Ent.env ⟨Z, Z, Z, Z, trivial⟩) ?_ (fun i hi => ?_))))
 exact ⟨cm _, fun j h hj => absurd hj (Nat.not_lt_zero j)⟩
 refine ac (js O Z (jn (af (ab O Z Z (fun hc9 => ?_) (fun hc9 => ?_)))))
 refine ah (af (am (ac ?_)))
 have hil : i < c.length := by have := aR hc9; omega
 refine j2 O Z Z (aP (j3 O Z Z Z ?_))
 first | refine kV O Z Z ?_ | refine f7 O Z Z ?_ | refine aU O Z Z ?_
 refine js O Z (dP [(15, _), (11, _), (5, _), (10, _), (9, _), (0, _), (1, _), (7, _), (8, _)] [] ⟨Z, Z, Z, Z, Z, Z, Z, Z, Z, trivial⟩ Z (ae O Z Z Z Z (Bj (x := c.getD i default) h1 h2) (aa Z) Z Z Z Z Z (B0 := 17000) Z (jf [16,5,10,9,0,1,7,8] Z (jn (ab O Z Z (fun hc16 => ?_) (fun hc16 => ?_))))))
 refine ac (j2 O Z Z (jr ?_))
 refine ⟨.inl Z, _, ak, _, Z, ?_⟩
 rw [ar hil] at hc16
 rw [nd hil hi.2 hc16]
 refine ah (aj ?_)
 first | refine ji O Z ?_ | refine aU O Z Z ?_
 refine js O Z (jn ?_)
 refine ⟨i + 1, Ent.env ⟨Z, Z, Z, Z, trivial⟩, ⟨by omega, fun j h hj => ?_⟩, by omega⟩
 by_cases e : j = i
 subst e; rw [ar h] at hc16; exact hc16
 exact hi.2 j h (by omega)
 refine aQ (ac (js O Z (jr ?_)))
 refine ⟨.inl Z, _, ak, _, Z, ?_⟩
 have h9 := bn hc9
 rw [nc (fun j hj => hi.2 j hj (by omega))]
theorem Be {ps : List Pt} : MQ h1 h2 141 [um ps, .c (.fn 142 [.d (.ptr [.int .i64 k] 0)])] [] (Plain (eI (qp (fun p : Pt => decide (p.k = k)) ps))) := by
 refine aA ?_ Z
 refine jB 19 h1 h2 Tryz.func141 Z Z Z fun O hF => ?_
 have hl : ps.length ≤ L := by simpa [As.fact, A.fact, M.fact, D.fact, Ds.fact] using hF.1.1
 refine ac (js O Z (jn (af (ac (js O Z ?_)))))
 first | refine bo O Z ?_ | refine js O Z ?_ | refine aU O Z Z ?_
 refine js O Z (jn (am (ap (X := Nat) (fun i => ⟨[(0, um ps), (1, .c (.fn 142 [.d (.ptr [.int .i64 k] 0)])), (7, eI ps.length), (8, eI i)], []⟩) (fun i => i ≤ ps.length ∧ ∀ j (h : j < ps.length), j < i → (fun p : Pt => decide (p.k = k)) ps[j] = false) (fun i => ps.length - i) 0 (Ent.env ⟨Z, Z, Z, Z, trivial⟩) ?_ (fun i hi => ?_))))
 exact ⟨cm _, fun j h hj => absurd hj (Nat.not_lt_zero j)⟩
 refine ac (js O Z (jn (af (ab O Z Z (fun hc9 => ?_) (fun hc9 => ?_)))))
 refine ah (af (am (ac ?_)))
 have hil : i < ps.length := by have := aR hc9; omega
 refine j2 O Z Z (aP (j3 O Z Z Z ?_))
 first | refine kV O Z Z ?_ | refine f7 O Z Z ?_ | refine aU O Z Z ?_
 refine js O Z (dP [(15, _), (11, _), (5, _), (10, _), (9, _), (0, _), (1, _), (7, _), (8, _)] [] ⟨Z, Z, Z, Z, Z, Z, Z, Z, Z, trivial⟩ Z (ae O Z Z Z Z (Bd (k := k) (p := ps.getD i default) h1 h2) (aa Z) Z Z Z Z Z (B0 := 17000) Z (jf [16,5,10,9,0,1,7,8] Z (jn (ab O Z Z (fun hc16 => ?_) (fun hc16 => ?_))))))
 refine ac (j2 O Z Z (jr ?_))
 refine ⟨.inl Z, _, ak, _, Z, ?_⟩
 rw [ar hil] at hc16
 rw [nd hil hi.2 hc16]
 refine ah (aj ?_)
 first | refine ji O Z ?_ | refine aU O Z Z ?_
 refine js O Z (jn ?_)
 refine ⟨i + 1, Ent.env ⟨Z, Z, Z, Z, trivial⟩, ⟨by omega, fun j h hj => ?_⟩, by omega⟩
 by_cases e : j = i
 subst e; rw [ar h] at hc16; exact hc16
 exact hi.2 j h (by omega)
 refine aQ (ac (js O Z (jr ?_)))
 refine ⟨.inl Z, _, ak, _, Z, ?_⟩
 have h9 := bn hc9
 rw [nc (fun j hj => hi.2 j hj (by omega))]
theorem zq : MQ h1 h2 160 [jT c, .c (.fn 161 [])] [] (Plain (eB (c.any (fun x : In => !aV x)))) := by
 refine aA ?_ Z
 refine jB 9 h1 h2 Tryz.func160 Z Z Z fun O hF => ?_
 refine ac (js O Z (aP (j2 O Z Z (ae O Z Z Z Z (zm (c := c) h1 h2) (.cons (.c .d) (.cons (.c (.fn .nil)) .nil)) Z Z Z Z Z (B0 := 8000) Z (j2 O Z Z (jr ?_))))))
 refine ⟨.inl Z, _, ak, _, Z, ?_⟩
 exact congrArg eB po
theorem yq : MQ h1 h2 136 [jT c] [] (Plain (eB (eo c))) := by
 refine aA ?_ Z
 refine jB 12 h1 h2 Tryz.func136 Z Z Z fun O hF => ?_
 have hl : c.length ≤ L := by simpa [As.fact, A.fact, M.fact, D.fact, Ds.fact] using hF.1.1
 refine ac (js O Z (aP (js O Z ?_)))
 first | refine bo O Z ?_ | refine js O Z ?_ | refine aU O Z Z ?_
 refine ae O Z Z Z Z (rB h1 h2) (aa Z) Z Z Z Z Z (B0 := 6000) Z (ae O Z Z Z Z (nU h1 h2) (aa Z) Z Z Z Z Z (B0 := 7000) Z (js O Z (aS 3 Z Z Z (fun hx => AN.step hx Z Z Z (V O Z) Z Z ( dI O hx Z Z Z Z (zq (c := c) h1 h2) (.cons (.c .d) (.cons (.c (.fn .nil)) .nil)) Z Z Z Z Z Z Z (B0 := 10000) Z ( AN.step hx Z Z Z (V O Z) Z Z ( AN.nil)))) Z Z ?_)))
 first | refine AOps.step (aM O Z Z Z Z Z) Z Z Z ?_ | refine AOps.step (aK O Z Z Z Z Z) Z Z Z ?_ | refine AOps.step (Val.pickB O Z Z Z Z Z) Z Z Z ?_
 refine js O Z (jr ?_)
 refine ⟨.inl Z, _, ak, _, Z, ?_⟩
 rw [Bool.cond_false_right, show eo c = _ from Bool.and_comm _ _, List.all_eq_not_any_not]
theorem nS : MQ h1 h2 124 [aAn a, eI k] [] (Plain (eI (qp (fun p : Pt => decide (p.k = k)) a.pts))) := by
 refine aA ?_ Z
 refine jB 9 h1 h2 Tryz.func124 Z Z Z fun O hF => ?_
 refine ac (jx O Z (ao ?_))
 refine AOps.to (Ent.freeze 2 (e' := [(2, _), (1, _)]) Z (.cons Z (.c (.box (cs := a.data) Z (aq Z))) (fe [1] Z)) (.skip .nil)) ?_
 refine ao ?_
 refine jx O Z (ao ?_)
 refine AOps.to (Ent.freeze 3 (e' := [(3, _), (2, _)]) Z (.cons Z (.c (.box (cs := [.int .i64 k]) Z (aq Z))) (fe [2] Z)) (.skip .nil)) ?_
 refine ao ?_
 refine js O Z (aP (j3 O Z Z Z (jf [7,6,4] Z (ae O Z Z Z Z (Be (ps := a.pts) (k := k) h1 h2) (.cons (.c .d) (.cons (.c (.fn (.cons .d .nil))) .nil)) Z Z Z Z Z (B0 := 9000) Z (js O Z (jf [4] Z (jr ?_)))))))
 refine ⟨.inl Z, _, ak, _, Z, ?_⟩
 first | rfl | skip
theorem z5 {a : An} {i : Nat} : (bif (bif !cf (a.pts.getD i default).fs 6 then true else !(da 0 ((a.code.length : Int) - 1) (a.pts.getD i default).k)) then true else (bif decide ((0 : Int) < i) then decide ((a.pts.getD i default).k ≤ (a.pts.getD (i - 1) default).k) else false)) = !rv a.code.length a.pts i := by
 unfold rv da
 rw [show decide ((0 : Int) < i) = decide (0 < i) from decide_eq_decide.2 (by omega)]
 cases decide (0 ≤ (a.pts.getD i default).k) <;> cases decide ((a.pts.getD i default).k ≤ (a.code.length : Int) - 1) <;> cases cf (a.pts.getD i default).fs 6 <;> cases decide (0 < i) <;> cases decide ((a.pts.getD i default).k ≤ (a.pts.getD (i - 1) default).k) <;> rfl
theorem Af : MQ h1 h2 121 [aAn a] [] (Plain (eB (cK a))) := by
 refine aA ?_ Z
 refine jB 65 h1 h2 Tryz.func121 Z Z Z fun O hF => ?_
 have hl : a.code.length ≤ L := by simpa [As.fact, A.fact, M.fact, Ms.fact, D.fact, Ds.fact] using hF.1.2.2.1.1
 have hlp : a.pts.length ≤ L := by simpa [As.fact, A.fact, M.fact, Ms.fact, D.fact, Ds.fact] using hF.1.2.2.2.1.1
 refine ac (jx O Z (ao ?_))
 refine AOps.to (Ent.freeze 1 (e' := [(1, _), (0, _)]) Z (.cons Z (.c (.box (cs := a.data) Z (aq Z))) (fe [0] Z)) (.skip .nil)) ?_
 refine ao ?_
 refine js O Z (jn (af (ac (j2 O Z Z (jf [6,2,1,0] Z (ae O Z Z Z Z (yq h1 h2) (aa Z) Z Z Z Z Z (B0 := 8000) Z (j2 O Z Z (jf [9,2,1,0] Z (aS 4 Z Z Z (fun hx => AN.step hx Z Z Z (V O Z) Z Z ( AN.step hx Z Z Z (V O Z) Z Z ( dI O hx Z Z Z Z (rC h1 h2) (aa Z) Z Z Z Z Z Z Z (B0 := 13000) Z ( AN.step hx Z Z Z (V O Z) Z Z ( AN.nil))))) Z Z ?_)))))))))
 first | refine AOps.step (aK O Z Z Z Z Z) Z Z Z ?_ | refine AOps.step (Val.pickB O Z Z Z Z Z) Z Z Z ?_ | refine AOps.step (aM O Z Z Z Z Z) Z Z Z ?_
 refine js O Z (jf [15,2,1,0] Z (aS 4 Z Z Z (fun hx => AN.step hx Z Z Z (V O Z) Z Z ( AN.step hx Z Z Z (V O Z) Z Z ( dI O hx Z Z Z Z (rC h1 h2) (aa Z) Z Z Z Z Z Z Z (B0 := 19000) Z ( AN.step hx Z Z Z (V O Z) Z Z ( AN.nil))))) Z Z ?_))
 first | refine AOps.step (aK O Z Z Z Z Z) Z Z Z ?_ | refine AOps.step (Val.pickB O Z Z Z Z Z) Z Z Z ?_ | refine AOps.step (aM O Z Z Z Z Z) Z Z Z ?_
 refine js O Z (jf [21,2,1,0] Z (aS 4 Z Z Z (fun hx => AN.step hx Z Z Z (V O Z) Z Z ( AN.step hx Z Z Z (V O Z) Z Z ( AN.step hx Z Z Z (bZ O Z Z Z Z Z Z Z Z) Z Z ( AN.step hx Z Z Z (V O Z) Z Z ( AN.nil))))) Z Z ?_))
 first | refine AOps.step (aK O Z Z Z Z Z) Z Z Z ?_ | refine AOps.step (Val.pickB O Z Z Z Z Z) Z Z Z ?_ | refine AOps.step (aM O Z Z Z Z Z) Z Z Z ?_
 refine jf [26,2,1,0] Z (jn (ab O Z Z (fun hc26 => ?_) (fun hc26 => ?_)))
 refine ac (js O Z (jr ?_))
 refine ⟨.inl Z, _, ak, _, Z, ?_⟩
 rw [tv hc26]
 refine ah (af (ac (j2 O Z Z ?_)))
 first | refine bo O Z ?_ | refine js O Z ?_ | refine aU O Z Z ?_
 refine js O Z (jf [30,29,28,2,1,0] Z (jn (am (ap (X := Nat) (fun i => ⟨[(1, ptr a.data), (28, um a.pts), (29, eI a.pts.length), (30, eI i)], []⟩) (fun i => i ≤ a.pts.length ∧ ∀ j, j < i → rv a.code.length a.pts j = true) (fun i => a.pts.length - i) 0 (Ent.env ⟨Z, Z, Z, Z, trivial⟩) ?_ (fun i hi => ?_)))))
 exact ⟨cm _, fun j hj => absurd hj (Nat.not_lt_zero j)⟩
 refine ac (js O Z (jn (af (ab O Z Z (fun hc31 => ?_) (fun hc31 => ?_)))))
 refine ah (af (am (ac ?_)))
 have hil : i < a.pts.length := by have := aR hc31; omega
 have hcl := (rN (jm hc26).2.2).2
 refine js O Z ?_
 first | refine kV O Z Z ?_ | refine f7 O Z Z ?_ | refine aU O Z Z ?_
 refine js O Z (jf [34,32,31,1,28,29,30] Z (jl O Z (ao ?_)))
 refine js O Z (jf [3,4,34,31,1,28,29,30] Z (jo O Z (ao ?_)))
 refine AOps.to (Ent.freeze 4 (e' := [(4, _), (1, _), (28, _), (29, _), (30, _), (3, _)]) Z (.cons Z (.c (.box (cs := (a.pts.getD i default).cells) Z (aq Z))) (fe [1,28,29,30,3] Z)) (.skip .nil)) ?_
 refine ao ?_
 refine jn (af (c6 (F := ⟨[(63, eB (bif (bif !cf (a.pts.getD i default).fs 6 then true else !(da 0 ((a.code.length : Int) - 1) (a.pts.getD i default).k)) then true else (bif decide ((0 : Int) < i) then decide ((a.pts.getD i default).k ≤ (a.pts.getD (i - 1) default).k) else false))), (1, ptr a.data), (28, um a.pts), (29, eI a.pts.length), (30, eI i)], []⟩) ?_ ?_))
 cases hb6 : !cf (a.pts.getD i default).fs 6 with
 | true =>
  refine t7 O [_,_,_,_,_,_,_,_,_,_,_,_,_,_,_,_,_,_,_,_,_,_,_,_,_,_,_,_,_] [pn [] 0 0, pn [0] 0 0, pe [0,1] 0, pn [0,1,2] 1 1, pn (rg 0 4) 1 1, pn (rg 0 5) 0 1, pn (rg 0 6) 0 1, pn (rg 0 5) 0 1, pn [0,1,2,3,4,7] 0 1, pn [0,1,2,3,4,7,8] 0 1, pn (rg 0 10) 0 1, pn (rg 0 11) 0 1, pn (rg 0 12) 1 1, pn (rg 0 13) 1 1, pn (rg 0 14) 0 1, pn (rg 0 15) 0 1, pn (rg 0 16) 0 1, pn (rg 0 17) 0 1, pn (rg 0 18) 0 1, pn (rg 0 17) 0 1, pn (rg 0 17++[19]) 0 1, pn (rg 0 21) 0 1, pn (rg 0 22) 0 1, pn (rg 0 23) 0 1, pn (rg 0 17) 0 1, pn (rg 0 17++[24]) 0 1, pn (rg 0 26) 0 1, pn (rg 0 27) 0 1, pn (rg 0 28) 1 1] [2] [_,_] (kc O Z (kc O Z (ai (bm O (B0 := 38000) Z Z Z Z (rC h1 h2) (aa Z) Z Z Z Z Z) (ai ((V O Z).cast (v' := eB true) (congrArg eB hb6)) (kc O Z (ai ⟨Z, Z⟩ (ai ⟨Z, Z⟩ (ai ⟨Z, Z⟩ (ai ⟨Z, Z⟩ (ai ⟨Z, Z⟩ (ai ⟨Z, Z⟩ (ai ⟨Z, Z⟩ (ai (ba O Z Z Z Z Z) (kc O Z (ai ⟨Z, Z⟩ (ai ⟨Z, Z⟩ (ai ⟨Z, Z⟩ (ai ⟨Z, Z⟩ (ai ⟨Z, Z⟩ (ai ⟨Z, Z⟩ (ai ⟨Z, Z⟩ (ai ⟨Z, Z⟩ (ai ⟨Z, Z⟩ (ai ⟨Z, Z⟩ (ai ⟨Z, Z⟩ (ai ⟨Z, Z⟩ (ai ⟨Z, Z⟩ (ai ⟨Z, Z⟩ (ai (ba O Z Z Z Z Z) trivial))))))))))))))))))))))))))))) ?_
  exact ⟨Z, Ent.env ⟨Z, Z, Z, Z, Z, trivial⟩⟩
 | false =>
  cases hb6b : !(da 0 ((a.code.length : Int) - 1) (a.pts.getD i default).k) with
  | true =>
   refine t7 O [_,_,_,_,_,_,_,_,_,_,_,_,_,_,_,_,_,_,_,_,_,_,_,_,_,_,_,_,_] [pn [] 0 0, pn [0] 0 0, pe [0,1] 0, pn [0,1,2] 1 1, pn (rg 0 4) 1 1, pn (rg 0 5) 1 1, pn (rg 0 6) 1 1, pn (rg 0 5) 1 1, pn [0,1,2,3,4,7] 1 1, pn [0,1,2,3,4,7,8] 1 1, pe (rg 0 10) 1, pn (rg 0 11) 2 2, pn (rg 0 12) 2 2, pn (rg 0 13) 2 2, pn (rg 0 14) 0 2, pn (rg 0 15) 0 2, pn (rg 0 16) 0 2, pn (rg 0 17) 0 2, pn (rg 0 18) 0 2, pn (rg 0 17) 0 2, pn (rg 0 17++[19]) 0 2, pn (rg 0 21) 0 2, pn (rg 0 22) 0 2, pn (rg 0 23) 0 2, pn (rg 0 17) 0 2, pn (rg 0 17++[24]) 0 2, pn (rg 0 26) 0 2, pn (rg 0 27) 0 2, pn (rg 0 28) 2 2] [2,10] [_,_,_] (kc O Z (kc O Z (ai (bm O (B0 := 38000) Z Z Z Z (rC h1 h2) (aa Z) Z Z Z Z Z) (ai ((V O Z).cast (v' := eB false) (congrArg eB hb6)) (kc O Z (kc O Z (kc O Z (kc O Z (kc O Z (ai (bZ O Z Z Z Z Z Z Z Z) (ai (bm O (B0 := 46000) Z Z Z Z (sb (k := (a.pts.getD i default).k) (n := a.code.length) h1 h2 (by omega)) (aa Z) Z Z Z Z Z) (ai ((V O Z).cast (v' := eB true) (congrArg eB hb6b)) (ai (aF O Z Z Z Z Z) (kc O Z (ai ⟨Z, Z⟩ (ai ⟨Z, Z⟩ (ai ⟨Z, Z⟩ (ai ⟨Z, Z⟩ (ai ⟨Z, Z⟩ (ai ⟨Z, Z⟩ (ai ⟨Z, Z⟩ (ai ⟨Z, Z⟩ (ai ⟨Z, Z⟩ (ai ⟨Z, Z⟩ (ai ⟨Z, Z⟩ (ai ⟨Z, Z⟩ (ai ⟨Z, Z⟩ (ai ⟨Z, Z⟩ (ai (ba O Z Z Z Z Z) trivial))))))))))))))))))))))))))))) ?_
   exact ⟨Z, Ent.env ⟨Z, Z, Z, Z, Z, trivial⟩⟩
  | false =>
   cases hb6c : decide ((0 : Int) < i) with
   | true =>
    have hi0 : 0 < i := by have := aR hb6c; omega
    refine t7 O [_,_,_,_,_,_,_,_,_,_,_,_,_,_,_,_,_,_,_,_,_,_,_,_,_,_,_,_,_] [pn [] 0 0, pn [0] 0 0, pe [0,1] 0, pn [0,1,2] 1 1, pn (rg 0 4) 1 1, pn (rg 0 5) 1 1, pn (rg 0 6) 1 1, pn (rg 0 5) 1 1, pn [0,1,2,3,4,7] 1 1, pn [0,1,2,3,4,7,8] 1 1, pe (rg 0 10) 1, pn (rg 0 11) 2 2, pn (rg 0 12) 2 2, pn (rg 0 13) 2 2, pn (rg 0 14) 2 2, pn (rg 0 15) 2 2, pn (rg 0 16) 2 2, pn (rg 0 17) 2 2, pn (rg 0 18) 2 2, pn (rg 0 17) 2 2, pn (rg 0 17++[19]) 2 2, pn (rg 0 21) 2 2, pn (rg 0 22) 2 2, pn (rg 0 23) 2 2, pn (rg 0 17) 2 2, pn (rg 0 17++[24]) 2 2, pn (rg 0 26) 2 2, pn (rg 0 27) 2 2, pn (rg 0 28) 2 2] [2,10] [_,_,_] (kc O Z (kc O Z (ai (bm O (B0 := 38000) Z Z Z Z (rC h1 h2) (aa Z) Z Z Z Z Z) (ai ((V O Z).cast (v' := eB false) (congrArg eB hb6)) (kc O Z (kc O Z (kc O Z (kc O Z (kc O Z (ai (bZ O Z Z Z Z Z Z Z Z) (ai (bm O (B0 := 46000) Z Z Z Z (sb (k := (a.pts.getD i default).k) (n := a.code.length) h1 h2 (by omega)) (aa Z) Z Z Z Z Z) (ai ((V O Z).cast (v' := eB false) (congrArg eB hb6b)) (ai (aF O Z Z Z Z Z) (kc O Z (kc O Z (ai ((V O Z).cast (v' := eB true) (congrArg eB hb6c)) (kc O Z (kc O Z (kc O Z (kc O Z (ai ((vF O Z).cast (v' := eI ((i - 1 : Nat) : Int)) (congrArg eI (by omega))) (ai (vN O Z) (kc O Z (kc O Z (kc O Z (kc O Z (kc O Z (ai (ba O Z Z Z Z Z) (ai (aF O Z Z Z Z Z) trivial))))))))))))))))))))))))))))) ?_
    exact ⟨Z, Ent.env ⟨Z, Z, Z, Z, Z, trivial⟩⟩
   | false =>
    refine t7 O [_,_,_,_,_,_,_,_,_,_,_,_,_,_,_,_,_,_,_,_,_,_,_,_,_,_,_,_,_] [pn [] 0 0, pn [0] 0 0, pe [0,1] 0, pn [0,1,2] 1 1, pn (rg 0 4) 1 1, pn (rg 0 5) 1 1, pn (rg 0 6) 1 1, pn (rg 0 5) 1 1, pn [0,1,2,3,4,7] 1 1, pn [0,1,2,3,4,7,8] 1 1, pe (rg 0 10) 1, pn (rg 0 11) 2 2, pn (rg 0 12) 2 2, pn (rg 0 13) 2 2, pn (rg 0 14) 2 2, pn (rg 0 15) 2 2, pn (rg 0 16) 2 2, pn (rg 0 17) 0 2, pn (rg 0 18) 0 2, pn (rg 0 17) 0 2, pn (rg 0 17++[19]) 0 2, pn (rg 0 21) 0 2, pn (rg 0 22) 0 2, pn (rg 0 23) 0 2, pn (rg 0 17) 0 2, pn (rg 0 17++[24]) 0 2, pn (rg 0 26) 0 2, pn (rg 0 27) 2 2, pn (rg 0 28) 2 2] [2,10] [_,_,_] (kc O Z (kc O Z (ai (bm O (B0 := 38000) Z Z Z Z (rC h1 h2) (aa Z) Z Z Z Z Z) (ai ((V O Z).cast (v' := eB false) (congrArg eB hb6)) (kc O Z (kc O Z (kc O Z (kc O Z (kc O Z (ai (bZ O Z Z Z Z Z Z Z Z) (ai (bm O (B0 := 46000) Z Z Z Z (sb (k := (a.pts.getD i default).k) (n := a.code.length) h1 h2 (by omega)) (aa Z) Z Z Z Z Z) (ai ((V O Z).cast (v' := eB false) (congrArg eB hb6b)) (ai (aF O Z Z Z Z Z) (kc O Z (kc O Z (ai ((V O Z).cast (v' := eB false) (congrArg eB hb6c)) (kc O Z (ai ⟨Z, Z⟩ (ai ⟨Z, Z⟩ (ai ⟨Z, Z⟩ (ai ⟨Z, Z⟩ (ai ⟨Z, Z⟩ (ai ⟨Z, Z⟩ (ai ⟨Z, Z⟩ (ai ⟨Z, Z⟩ (ai ⟨Z, Z⟩ (ai ⟨Z, Z⟩ (ai (aF O Z Z Z Z Z) (ai (aF O Z Z Z Z Z) trivial))))))))))))))))))))))))))))) ?_
    exact ⟨Z, Ent.env ⟨Z, Z, Z, Z, Z, trivial⟩⟩
 refine ab O Z Z (fun hc63 => ?_) (fun hc63 => ?_)
 refine ac (js O Z (jr ?_))
 refine ⟨.inl Z, _, ak, _, Z, ?_⟩
 rw [(jm hc26).1, oc i hil (jQ (z5.symm.trans hc63))]
 refine ah (aj ?_)
 first | refine ji O Z ?_ | refine aU O Z Z ?_
 refine js O Z (jn ?_)
 have h9 : rv a.code.length a.pts i = true := gi (z5.symm.trans hc63)
 refine ⟨i + 1, Ent.env ⟨Z, Z, Z, Z, trivial⟩, ⟨by omega, fun j hj => ?_⟩, by omega⟩
 by_cases e : j = i
 subst e; exact h9
 exact hi.2 j (by omega)
 refine aQ (ac (js O Z (jr ?_)))
 refine ⟨.inl Z, _, ak, _, Z, ?_⟩
 rw [(jm hc26).1, qV fun j hj => hi.2 j (by have := bn hc31; omega)]
structure WkOk (a : An) (d : List Bool) : Prop where
  len : d.length = a.code.length
  Ae : a.code.length ≤ 80
  jmp : ∀ x ∈ a.code, -1000000 ≤ x.a ∧ x.a ≤ 1000000 ∧ (sr x = true → 0 ≤ x.a)
  pts : ∀ p ∈ a.pts, 0 ≤ p.k ∧ p.k ≤ 79
structure Cs where
  code : List In
  pts : List Pt
  fr : List Int
  to : List Int
mutual
/-- Each element has a place of its own, and behind it the statements that it dW. -/
def Tr.cok (n : Nat) : Tr → Prop
  | .node s a ks => (0 ≤ a ∧ a < n) ∧ (s.sum.term = true ∧ s.index.term = true) ∧ (vo s = true ∧ (ks.length : Int) = wc s.kind) ∧ Trs.cok n ks
def Trs.cok (n : Nat) : List Tr → Prop
  | [] => True
  | t :: r => t.cok n ∧ Trs.cok n r
end
mutual
def Tr.nodes : Tr → Nat
  | .node _ _ ks => 1 + Trs.nodes ks
def Trs.nodes : List Tr → Nat
  | [] => 0
  | t :: r => t.nodes + Trs.nodes r
end
structure CsLe (m : Nat) (c d : Cs) : Prop where
  code : d.code.length ≤ c.code.length + 30 * m
  pts : d.pts.length ≤ c.pts.length + m
  fr : d.fr.length = c.fr.length
  to : d.to.length = c.to.length
  ge : c.code.length ≤ d.code.length
abbrev di (k : Int) (s : Bool × List Int) (x : Int) : Bool × List Int := if s.1 = false ∧ k ≤ x then (true, (if k < x then s.2 ++ [k] else s.2) ++ [x]) else (s.1, s.2 ++ [x])
def dA (k : Int) (xs : List Int) : Bool × List Int := xs.foldl (di k) (false, [])
def mf (k : Int) (xs : List Int) : List Int := if (dA k xs).1 = true then (dA k xs).2 else (dA k xs).2 ++ [k]
theorem g9 {k x : Int} {xs : List Int} : dA k (xs ++ [x]) = di k (dA k xs) x := by simp [dA, List.foldl_append]
theorem j8 {k : Int} {xs : List Int} {i : Nat} (h : i < xs.length) : dA k (xs.take (i + 1)) = di k (dA k (xs.take i)) (xs.getD i default) := by
 rw [List.take_succ_eq_append_getElem h, g9, ar h]
theorem n9 {k : Int} (xs : List Int) : (dA k xs).2.length ≤ xs.length + 1 ∧ ((dA k xs).1 = false → (dA k xs).2.length = xs.length) := by
 have key : ∀ (ys : List Int) (s : Bool × List Int) (m : Nat), s.2.length ≤ m + 1 → (s.1 = false → s.2.length = m) →
    (ys.foldl (di k) s).2.length ≤ m + ys.length + 1 ∧ ((ys.foldl (di k) s).1 = false → (ys.foldl (di k) s).2.length = m + ys.length) := by
  intro ys
  induction ys with
  | nil => intro s m h1 h2; exact ⟨by simpa using h1, by simpa using h2⟩
  | cons y ys ih =>
    intro s m h1 h2
    rw [List.foldl_cons, jI]
    have := ih (di k s y) (m + 1) ?_ ?_
    · exact ⟨by omega, fun h => by have := this.2 h; omega⟩
    · unfold di
      split
      · rename_i h
        have := h2 h.1
        split <;> simp <;> omega
      · simp; omega
    · unfold di
      split
      · intro h; cases h
      · intro h
        have := h2 h
        simp; omega
 have := key xs (false, []) 0 (by simp) (by simp)
 simpa [dA] using this
def tg (x : In) (k : Int) : List Int :=
  if x.op = 11 then [] else if x.op = 5 then [x.a] else if x.op = 6 then (if x.a < k + 1 then [x.a, k + 1] else if x.a = k + 1 then [k + 1] else [k + 1, x.a]) else [k + 1]
theorem lg {x : In} {k : Int} : (tg x k).length ≤ 2 := by
 unfold tg; split
 simp
 split
 simp
 split
 split
 simp
 split <;> simp
 simp
inductive Rch (c : List In) (st : List Int) : Nat → Prop
  | start {z : Int} : z ∈ st → 0 ≤ z → z < c.length → Rch c st z.toNat
  | step {k : Nat} {z : Int} : Rch c st k → z ∈ tg (c.getD k default) k → 0 ≤ z → z < c.length → Rch c st z.toNat
open Classical in
structure Rsh (c : List In) (st : List Int) (u : List Bool) (ws : List Int) : Prop where
  len : u.length = c.length
  nn : ∀ z ∈ ws, 0 ≤ z ∧ z ≤ 100
  sd : ∀ k, k < c.length → u.getD k default = true → Rch c st k
  sw : ∀ z ∈ ws, z < c.length → Rch c st z.toNat
  cl : ∀ k, k < c.length → u.getD k default = true → ∀ z ∈ tg (c.getD k default) k, 0 ≤ z → z < c.length → u.getD z.toNat default = true ∨ z ∈ ws
  cs : ∀ z ∈ st, 0 ≤ z → z < c.length → u.getD z.toNat default = true ∨ z ∈ ws
def fd (u : List Bool) : Nat := u.count false
theorem cY {u : List Bool} {j k : Nat} (hj : j < u.length) : (u.set j true).getD k default = true ↔ (k = j ∨ u.getD k default = true) := by
 rw [List.getD_eq_getElem?_getD, List.getD_eq_getElem?_getD, List.getElem?_set]
 by_cases h : j = k
 subst h; simp [hj]
 rw [if_neg h]
 constructor
 intro g; exact .inr g
 rintro (rfl | g)
 exact absurd Z h
 exact g
theorem oB {u : List Bool} {j : Nat} (hj : j < u.length) (h : u.getD j default = false) : fd (u.set j true) + 1 = fd u := by
 unfold fd
 rw [ar hj] at h
 have hp : 0 < u.count false := List.count_pos_iff.2 (h ▸ List.getElem_mem hj)
 rw [List.count_set hj]
 simp [h]
 omega
theorem rO {n : Nat} : fd (List.replicate n false) = n := by simp [fd]
structure DpOk (a : An) : Prop where
  Ae : a.code.length ≤ 80
  jmp : ∀ x ∈ a.code, -1000000 ≤ x.a ∧ x.a ≤ 1000000 ∧ (sr x = true → 0 ≤ x.a)
  pts : ∀ p ∈ a.pts, 0 ≤ p.k ∧ p.k ≤ 79
theorem yV {k : Int} {xs : List Int} {x : Nat × Bool × List Int} (h : x.1 < xs.length) (he : x.2 = dA k (xs.take x.1)) (h1 : x.2.1 = false) (h2 : k ≤ xs.getD x.1 default) (h3 : k < xs.getD x.1 default) : (true, x.2.2 ++ [k] ++ [xs.getD x.1 default]) = dA k (xs.take (x.1 + 1)) := by
 rw [j8 h, ← he]; show _ = if _ then _ else _; rw [if_pos ⟨h1, h2⟩, if_pos h3]
theorem yW {k : Int} {xs : List Int} {x : Nat × Bool × List Int} (h : x.1 < xs.length) (he : x.2 = dA k (xs.take x.1)) (h1 : x.2.1 = false) (h2 : k ≤ xs.getD x.1 default) (h3 : ¬ k < xs.getD x.1 default) : (true, x.2.2 ++ [xs.getD x.1 default]) = dA k (xs.take (x.1 + 1)) := by
 rw [j8 h, ← he]; show _ = if _ then _ else _; rw [if_pos ⟨h1, h2⟩, if_neg h3]
theorem yX {k : Int} {xs : List Int} {x : Nat × Bool × List Int} (h : x.1 < xs.length) (he : x.2 = dA k (xs.take x.1)) (h1 : ¬ (x.2.1 = false ∧ k ≤ xs.getD x.1 default)) : (x.2.1, x.2.2 ++ [xs.getD x.1 default]) = dA k (xs.take (x.1 + 1)) := by
 rw [j8 h, ← he]; show _ = if _ then _ else _; rw [if_neg h1]
theorem tD {k : Int} {xs : List Int} {x : Nat × Bool × List Int} (h : ¬ x.1 < xs.length) (he : x.2 = dA k (xs.take x.1)) (h1 : x.2.1 = false) : mf k xs = x.2.2 ++ [k] := by
 rw [List.take_of_length_le (by omega)] at he
 unfold mf; rw [← he, if_neg (by rw [h1]; decide)]
theorem tC {k : Int} {xs : List Int} {x : Nat × Bool × List Int} (h : ¬ x.1 < xs.length) (he : x.2 = dA k (xs.take x.1)) (h1 : x.2.1 = true) : mf k xs = x.2.2 := by
 rw [List.take_of_length_le (by omega)] at he
 unfold mf; rw [← he, if_pos h1]
theorem wG {a : Bool} {k x : Int} (h : (bif !a then decide (k ≤ x) else false) = true) : a = false ∧ k ≤ x := by cases a <;> simp_all
theorem wH {a : Bool} {k x : Int} (h : (bif !a then decide (k ≤ x) else false) = false) : ¬ (a = false ∧ k ≤ x) := by cases a <;> simp_all
theorem fM {α β : Type} [Inhabited α] {l : List α} {f : α → β} {n j : Nat} (h : n < l.length) (hj : j = n) : (l.map f)[j]? = some (f (l.getD n default)) := by subst hj; simp [h]
theorem t9 {α β : Type} {l : List α} {f : α → β} {n j : Nat} {v : α} {ds : β} (hj : j = n) (hd : ds = f v) : (l.map f).set j ds = (l.set n v).map f := by subst hj; subst hd; rw [List.map_set]
theorem iv {σ : Sg} {o : Oper} {s : St} (hσ : SgOk σ) {t l off m sz : Nat} {x lo : Operand} {k : IntKind} {own : Bool} {xs : List (List D)} {i ti : TI} (ho : o.op = .slice t x (some lo) none none) (hs : Al.Oper.shorts o = true) (hx : ev s x = some (.c (.rs l off (m + 1)))) (hh : ev s lo = some (.c (.d (.int k 1)))) (hl : lk s.H l = some (.row own sz xs))
    (hi' : lk σ.tt t = some i) (hk : Nat.beq i.kind 1 = true) (ht : lk σ.tt i.elem = some ti) (hz : Nat.beq sz ti.size = true) : Val σ s o (.c (.rs l (off + 1) m)) := by
 refine Val.of hσ ?_ hs
 simp [ff, ho, opt, hx, hh, iK, hi', hk, ht, hz, nat?, hl]
theorem xG {xs : List Int} (hl : xs.length ≤ 1000) : MQ h1 h2 102 [bM xs, eI k] [] (Rows (.c (.rs 0 0 (mf k xs).length)) [aD (mf k xs)]) := by
 refine bh (jB 49 h1 h2 Tryz.func102 Z Z Z fun O hF => ?_)
 refine ac (js O Z (aP (AOps.heap (aZ O Z Z Z) Z (ao ?_))))
 refine js O Z (aP (js O Z (jn (af (ac (js O Z (jn (am (ap (X := Nat × Bool × List Int) (fun x => ⟨[(0, bM xs), (1, eI k), (5, .c (.rs 900 0 x.2.2.length)), (6, eB x.2.1), (7, eI x.1)], [(900, aD x.2.2)]⟩) (fun x => x.1 ≤ xs.length ∧ x.2 = dA k (xs.take x.1)) (fun x => xs.length - x.1) (0, false, []) ((ag 8 900 Z Z).trans (Ent.to ⟨Z, Z, Z, Z, Z, trivial⟩ Z)) ?_ (fun x hi => ?_))))))))))
 exact ⟨cm _, Z⟩
 refine af (ac (j2 O Z Z ?_))
 first | refine bo O Z ?_ | refine js O Z ?_ | refine aU O Z Z ?_
 refine js O Z (jf [12,0,1,5,6,7] Z (jn (ab O Z Z (fun hc12 => ?_) (fun hc12 => ?_))))
 refine ah (af (am (af (ac ?_))))
 have hxl : x.1 < xs.length := by have := aR hc12; omega
 have hle : x.2.2.length ≤ 1002 := by have := (n9 (k := k) (xs.take x.1)).1; rw [← hi.2, List.length_take] at this; omega
 refine j3 O Z Z Z (jf [17,12,0,1,5,6,7] Z (aS 6 Z Z Z (fun hx => AN.step hx Z Z Z (V O Z) Z Z ( AN.step hx Z Z Z (V O Z) Z Z ( AN.step hx Z Z Z (vN O Z) Z Z ( AN.step hx Z Z Z (V O Z) Z Z ( AN.step hx Z Z Z (V O Z) Z Z ( AN.step hx Z Z Z (V O Z) Z Z ( AN.nil))))))) Z Z ?_))
 first | refine AOps.step (aM O Z Z Z Z Z) Z Z Z ?_ | refine AOps.step (aK O Z Z Z Z Z) Z Z Z ?_ | refine AOps.step (Val.pickB O Z Z Z Z Z) Z Z Z ?_
 refine jf [24,12,0,1,5,6,7] Z (jn (ab O Z Z (fun hc24 => ?_) (fun hc24 => ?_)))
 refine ac (js O Z (aP ?_))
 have hpt := wG hc24
 refine j2 O Z Z ?_
 first | refine kV O Z Z ?_ | refine f7 O Z Z ?_ | refine aU O Z Z ?_
 refine j3 O Z Z Z (jf [30,6,24,12,0,1,5,7] Z (jn (ab O Z Z (fun hc30 => ?_) (fun hc30 => ?_))))
 refine aj (j2 O Z Z (AOps.heap (aZ O Z Z Z) Z (ao ?_)))
 refine jf [33,31,30,6,24,12,0,1,5,7] Z (AOps.heap (bj (xs := (x.2.2).map fun n => [D.int .i64 n]) (zs := (x.2.2 ++ [k]).map fun n => [D.int .i64 n]) (n := (x.2.2 ++ [k]).length) O Z Z Z Z Z Z Z Z Z Z Z Z Z Z Z Z (.row Z (bt _).symm) Z Z (by decide) Z (by simp; omega) (by simp; omega) (List.map_append (f := fun n => [D.int .i64 n]) (l₁ := x.2.2) (l₂ := [k])).symm (bt _)) Z (ao ?_))
 refine ao ?_
 refine js O Z (jf [5,30,6,24,12,0,1,7] Z (jn (aj (j3 O Z Z Z ?_))))
 first | refine kV O Z Z ?_ | refine f7 O Z Z ?_ | refine aU O Z Z ?_
 refine js O Z (jf [39,35,5,30,6,24,12,0,1,7] Z (AOps.heap (aZ O Z Z Z) Z (ao ?_)))
 refine jf [40,35,5,30,6,24,12,0,1,7] Z ?_
 first | refine AOps.heap (bj (xs := (x.2.2 ++ [k]).map fun n => [D.int .i64 n]) (zs := (x.2.2 ++ [k] ++ [(xs.getD x.1 default)]).map fun n => [D.int .i64 n]) (n := (x.2.2 ++ [k] ++ [(xs.getD x.1 default)]).length) O Z Z Z Z Z Z Z Z Z Z Z Z Z Z Z Z (.row Z (bt _).symm) Z Z (by decide) Z (by simp; omega) (by simp; omega) (List.map_append (f := fun n => [D.int .i64 n]) (l₁ := x.2.2 ++ [k]) (l₂ := [(xs.getD x.1 default)])).symm (bt _)) Z ?_ | refine AOps.heap (bj (xs := (x.2.2).map fun n => [D.int .i64 n]) (zs := (x.2.2 ++ [(xs.getD x.1 default)]).map fun n => [D.int .i64 n]) (n := (x.2.2 ++ [(xs.getD x.1 default)]).length) O Z Z Z Z Z Z Z Z Z Z Z Z Z Z Z Z (.row Z (bt _).symm) Z Z (by decide) Z (by simp; omega) (by simp; omega) (List.map_append (f := fun n => [D.int .i64 n]) (l₁ := x.2.2) (l₂ := [(xs.getD x.1 default)])).symm (bt _)) Z ?_
 refine ao ?_
 refine ao ?_
 refine js O Z (jf [5,30,6,24,12,0,1,7] Z (jn (aj (js O Z ?_))))
 first | refine ji O Z ?_ | refine aU O Z Z ?_
 refine js O Z (jf [7,5,30,6,24,12,0,1] Z (jn ?_))
 refine ⟨(x.1 + 1, true, x.2.2 ++ [k] ++ [(xs.getD x.1 default)]), ((aw [41] (e' := [(0, _), (1, _), (5, _), (6, _), (7, _)]) Z Z ⟨Z, Z, Z, Z, Z, trivial⟩ Z).trans (ag 41 900 Z Z)), ⟨by show x.1 + 1 ≤ _; omega, yV hxl hi.2 hpt.1 hpt.2 (aR hc30)⟩, by show xs.length - (x.1 + 1) < xs.length - x.1; omega⟩
 refine ah (aj (j3 O Z Z Z ?_))
 first | refine kV O Z Z ?_ | refine f7 O Z Z ?_ | refine aU O Z Z ?_
 refine js O Z (jf [39,35,30,6,24,12,0,1,5,7] Z (AOps.heap (aZ O Z Z Z) Z (ao ?_)))
 refine jf [40,35,30,6,24,12,0,1,5,7] Z ?_
 first | refine AOps.heap (bj (xs := (x.2.2 ++ [k]).map fun n => [D.int .i64 n]) (zs := (x.2.2 ++ [k] ++ [(xs.getD x.1 default)]).map fun n => [D.int .i64 n]) (n := (x.2.2 ++ [k] ++ [(xs.getD x.1 default)]).length) O Z Z Z Z Z Z Z Z Z Z Z Z Z Z Z Z (.row Z (bt _).symm) Z Z (by decide) Z (by simp; omega) (by simp; omega) (List.map_append (f := fun n => [D.int .i64 n]) (l₁ := x.2.2 ++ [k]) (l₂ := [(xs.getD x.1 default)])).symm (bt _)) Z ?_ | refine AOps.heap (bj (xs := (x.2.2).map fun n => [D.int .i64 n]) (zs := (x.2.2 ++ [(xs.getD x.1 default)]).map fun n => [D.int .i64 n]) (n := (x.2.2 ++ [(xs.getD x.1 default)]).length) O Z Z Z Z Z Z Z Z Z Z Z Z Z Z Z Z (.row Z (bt _).symm) Z Z (by decide) Z (by simp; omega) (by simp; omega) (List.map_append (f := fun n => [D.int .i64 n]) (l₁ := x.2.2) (l₂ := [(xs.getD x.1 default)])).symm (bt _)) Z ?_
 refine ao ?_
 refine ao ?_
 refine js O Z (jf [5,30,6,24,12,0,1,7] Z (jn (aj (js O Z ?_))))
 first | refine ji O Z ?_ | refine aU O Z Z ?_
 refine js O Z (jf [7,5,30,6,24,12,0,1] Z (jn ?_))
 refine ⟨(x.1 + 1, true, x.2.2 ++ [(xs.getD x.1 default)]), ((aw [41] (e' := [(0, _), (1, _), (5, _), (6, _), (7, _)]) Z Z ⟨Z, Z, Z, Z, Z, trivial⟩ Z).trans (ag 41 900 Z Z)), ⟨by show x.1 + 1 ≤ _; omega, yW hxl hi.2 hpt.1 hpt.2 (bn hc30)⟩, by show xs.length - (x.1 + 1) < xs.length - x.1; omega⟩
 refine ah (aj (j3 O Z Z Z ?_))
 first | refine kV O Z Z ?_ | refine f7 O Z Z ?_ | refine aU O Z Z ?_
 refine js O Z (jf [39,35,24,12,0,1,5,6,7] Z (AOps.heap (aZ O Z Z Z) Z (ao ?_)))
 refine jf [40,35,24,12,0,1,5,6,7] Z ?_
 first | refine AOps.heap (bj (xs := (x.2.2 ++ [k]).map fun n => [D.int .i64 n]) (zs := (x.2.2 ++ [k] ++ [(xs.getD x.1 default)]).map fun n => [D.int .i64 n]) (n := (x.2.2 ++ [k] ++ [(xs.getD x.1 default)]).length) O Z Z Z Z Z Z Z Z Z Z Z Z Z Z Z Z (.row Z (bt _).symm) Z Z (by decide) Z (by simp; omega) (by simp; omega) (List.map_append (f := fun n => [D.int .i64 n]) (l₁ := x.2.2 ++ [k]) (l₂ := [(xs.getD x.1 default)])).symm (bt _)) Z ?_ | refine AOps.heap (bj (xs := (x.2.2).map fun n => [D.int .i64 n]) (zs := (x.2.2 ++ [(xs.getD x.1 default)]).map fun n => [D.int .i64 n]) (n := (x.2.2 ++ [(xs.getD x.1 default)]).length) O Z Z Z Z Z Z Z Z Z Z Z Z Z Z Z Z (.row Z (bt _).symm) Z Z (by decide) Z (by simp; omega) (by simp; omega) (List.map_append (f := fun n => [D.int .i64 n]) (l₁ := x.2.2) (l₂ := [(xs.getD x.1 default)])).symm (bt _)) Z ?_
 refine ao ?_
 refine ao ?_
 refine js O Z (jf [5,24,12,0,1,6,7] Z (jn (aj (js O Z ?_))))
 first | refine ji O Z ?_ | refine aU O Z Z ?_
 refine js O Z (jf [7,5,24,12,0,1,6] Z (jn ?_))
 refine ⟨(x.1 + 1, x.2.1, x.2.2 ++ [(xs.getD x.1 default)]), ((aw [41] (e' := [(0, _), (1, _), (5, _), (6, _), (7, _)]) Z Z ⟨Z, Z, Z, Z, Z, trivial⟩ Z).trans (ag 41 900 Z Z)), ⟨by show x.1 + 1 ≤ _; omega, yX hxl hi.2 (wH hc24)⟩, by show xs.length - (x.1 + 1) < xs.length - x.1; omega⟩
 refine aQ (af (ac ?_))
 have hxl : ¬ x.1 < xs.length := by have := bn hc12; omega
 have hle : x.2.2.length ≤ 1002 := by have := (n9 (k := k) (xs.take x.1)).1; rw [← hi.2, List.length_take] at this; omega
 refine j2 O Z Z (jn (ab O Z Z (fun hc43 => ?_) (fun hc43 => ?_)))
 refine aj (j2 O Z Z (AOps.heap (aZ O Z Z Z) Z (ao ?_)))
 refine jf [46,44,43,42,12,0,1,5,6,7] Z (AOps.heap (bj (xs := (x.2.2).map fun n => [D.int .i64 n]) (zs := (x.2.2 ++ [k]).map fun n => [D.int .i64 n]) (n := (x.2.2 ++ [k]).length) O Z Z Z Z Z Z Z Z Z Z Z Z Z Z Z Z (.row Z (bt _).symm) Z Z (by decide) Z (by simp; omega) (by simp; omega) (List.map_append (f := fun n => [D.int .i64 n]) (l₁ := x.2.2) (l₂ := [k])).symm (bt _)) Z (ao ?_))
 refine ao ?_
 refine js O Z (jf [5,43,42,12,0,1,6,7] Z (aP (j2 O Z Z (jr ?_))))
 rw [tD hxl hi.2 (jQ hc43)]
 refine ⟨.inl Z, _, ak, _, Z, [47], by decide, Z, Z, Z⟩
 refine ah (ac (j2 O Z Z (jr ?_)))
 rw [tC hxl hi.2 (gi hc43)]
 refine ⟨.inl Z, _, ak, _, Z, [900], by decide, Z, Z, Z⟩
theorem zP : MQ h1 h2 198 [.c (.d (.int .u64 2))] [] (Plain (eI 2)) := by
 refine aA ?_ Z
 refine jB 25 h1 h2 Tryz.func198 Z Z Z fun O hF => ?_
 refine ac (js O Z (jn (af (ac (j2 O Z Z (jn (ab O Z Z (fun hc4 => ?_) (fun hc4 => ?_))))))))
 exact absurd hc4 (by decide)
 refine ah (af (ac (j2 O Z Z (jn (ab O Z Z (fun hc8 => ?_) (fun hc8 => ?_))))))
 exact absurd hc8 (by decide)
 refine ah (af (ac (j2 O Z Z (jn (ab O Z Z (fun hc14 => ?_) (fun hc14 => ?_))))))
 exact absurd hc14 (by decide)
 refine ah (ac (j2 O Z Z (AOps.step ((Val.conv O (k' := .u8) (dt := .int .u64) (b := true) Z Z Z (by kernel_rfl) (by kernel_rfl)).cast (v' := .c (.d (.int .u8 2))) Z) Z Z Z (AOps.step (Val.of O (v := .c (.d (.int .u8 2))) (by kernel_rfl) (by kernel_rfl)) Z Z Z (AOps.step ((Val.conv O (k' := .i64) (dt := .int .u8) (b := true) Z Z Z (by kernel_rfl) (by kernel_rfl)).cast (v' := eI 2) Z) Z Z Z (AOps.step ((az O Z Z (by decide) (by decide)).cast (v' := eI 2) Z) Z Z Z (js O Z (jr ?_))))))))
 refine ⟨.inl Z, _, ak, _, Z, ?_⟩
 rfl
theorem zS : MQ h1 h2 183 [.c (.d (.int .u64 2))] [] (Plain (eI 2)) := by
 refine aA ?_ Z
 refine jB 8 h1 h2 Tryz.func183 Z Z Z fun O hF => ?_
 refine ac (js O Z (jn (af (ab O Z Z (fun hc => ?_) (fun hc => ?_)))))
 cases hc
 refine ah (ac (js O Z (ae O Z Z Z Z (zP h1 h2) (aa Z) Z Z Z Z Z (B0 := 8000) Z (js O Z (jr ?_)))))
 refine ⟨.inl Z, _, ak, _, Z, ?_⟩
 rfl
theorem zO {x : Int} : MQ h1 h2 204 [eI x] [] (Plain (eB false)) := by
 refine aA ?_ Z
 refine jB 6 h1 h2 Tryz.func204 Z Z Z fun O hF => ?_
 refine ac (js O Z (aP (j4 O Z Z Z Z (jr ?_))))
 refine ⟨.inl Z, _, ak, _, Z, ?_⟩
 simp
theorem zQ {x y : Int} : MQ h1 h2 194 [eI x, eI y] [] (Plain (eB (decide (x < y)))) := by
 refine aA ?_ Z
 refine jB 17 h1 h2 Tryz.func194 Z Z Z fun O hF => ?_
 refine ac (js O Z (aP (js O Z (ae O Z Z Z Z (zO (x := x) h1 h2) (aa Z) Z Z Z Z Z (B0 := 7000) Z (js O Z (AOps.skip Z Z Z Z Z Z (AOps.skip Z Z Z Z Z Z (AOps.skip Z Z Z Z Z Z (AOps.step (aF O Z Z Z Z Z) Z Z Z (js O Z (bz Z (js O Z (bz Z (js O Z (bz Z (js O Z (AOps.step (aF O Z Z Z Z Z) Z Z Z (js O Z (jr ?_)))))))))))))))))))
 refine ⟨.inl Z, _, ak, _, Z, ?_⟩
 rfl
def ru (x y : Int) : List Int := if y < x then [y, x] else [x, y]
theorem yQ {x y : Int} (h : y < x) : ru x y = [y, x] := if_pos h
theorem yR {x y : Int} (h : ¬ y < x) : ru x y = [x, y] := if_neg h
theorem sP {a b : Bool} (h : (bif a then b else false) = true) : a = true ∧ b = true := by cases a <;> cases b <;> simp_all
theorem wb {a b : Bool} (h : (bif a then b else false) = false) : a = false ∨ b = false := by cases a <;> cases b <;> simp_all
variable {b : Int}
theorem zR {a : Int} : MQ h1 h2 188 [.c (.rs 0 0 2), eI 0, eI 2] [(0, aD [a, b])] (bb (.tup []) [(0, aD (ru a b))]) := by
 refine aJ 500 Z (jH 49 [500] h1 h2 Tryz.func188 Z Z Z Z fun O hF => ?_)
 refine ac (js O Z (AOps.step ((az O Z Z (by decide) (by decide)).cast (v' := eI 1) Z) Z Z Z (js O Z (jf [6,0,1,2] Z (jn (am (ap (X := Int × List Int) (fun x => ⟨[(0, .c (.rs 500 0 2)), (1, eI 0), (2, eI 2), (6, eI x.1)], [(500, aD x.2)]⟩) (fun x => (x.1 = 1 ∧ x.2 = [a, b]) ∨ (x.1 = 2 ∧ x.2 = ru a b)) (fun x => (2 - x.1).toNat) (1, [a, b]) (Ent.to ⟨Z, Z, Z, Z, trivial⟩ Z) ?_ (fun x hi => ?_))))))))
 exact .inl ⟨Z, Z⟩
 refine af (ac (j3 O Z Z Z (jf [12,0,1,2,6] Z (jn (ab O Z Z (fun hc12 => ?_) (fun hc12 => ?_))))))
 refine ah (af (am (ac ?_)))
 obtain ⟨ex1, ex2⟩ : x.1 = 1 ∧ x.2 = [a, b] := hi.resolve_right (fun g => by rw [g.1] at hc12; exact absurd hc12 (by decide))
 rw [ex1, ex2]
 refine j2 O Z Z (jn (am (ap (X := Int × List Int) (fun z => ⟨[(0, .c (.rs 500 0 2)), (1, eI 0), (2, eI 2), (6, eI 1), (7, eI z.1)], [(500, aD z.2)]⟩) (fun z => (z.1 = 1 ∧ z.2 = [a, b]) ∨ (z.1 = 0 ∧ z.2 = [b, a] ∧ b < a)) (fun z => z.1.toNat) (1, [a, b]) (Ent.to ⟨Z, Z, Z, Z, Z, trivial⟩ Z) ?_ (fun z hi => ?_))))
 exact .inl ⟨Z, Z⟩
 refine af (af (c6 ⟨[(30, eB (bif decide ((0 : Int) < z.1) then decide (b < a) else false)), (0, .c (.rs 500 0 2)), (1, eI 0), (2, eI 2), (6, eI 1), (7, eI z.1)], [(500, aD z.2)]⟩ ?_ ?_))
 cases hb4 : decide ((0 : Int) < z.1) with
 | true =>
  obtain ⟨g1, g2⟩ : z.1 = 1 ∧ z.2 = [a, b] := hi.resolve_right (fun g => by have := aR hb4; omega)
  rw [g1, g2]
  refine t7 O [_,_,_,_,_,_,_,_,_,_,_,_,_,_,_] [pn [] 0 0, pn [] 0 0, pn [0,1] 0 0, pn [0,1,2] 0 0, pn (rg 0 4) 0 0, pn (rg 0 4) 0 0, pn (rg 0 6) 0 0, pn (rg 0 7) 0 0, pn (rg 0 4) 0 0, pn (rg 0 4) 0 0, pn [0,1,2,3,9] 0 0, pn [0,1,2,3,8,9,10] 0 0, pn (rg 0 4++rg 8 4) 0 0, pe (rg 0 13) 0, pn (rg 0 14) 1 1] [13] [_,_] (kc O Z (kc O Z (ai ((V O Z).cast (v' := eB true) Z) (kc O Z (kc O Z (kc O Z (ai ((V O Z).cast (v' := .c (.pt 500 1 0)) Z) (ai (av O (ex := [.int .i64 b]) Z Z Z Z Z Z) (kc O Z (kc O Z (ai ((az O Z Z (by decide) (by decide)).cast (v' := eI 0) Z) (ai ((V O Z).cast (v' := .c (.pt 500 0 0)) Z) (ai (av O (ex := [.int .i64 a]) Z Z Z Z Z Z) (ai (bm O (B0 := 30000) Z Z Z Z (zQ (x := b) (y := a) h1 h2) (aa Z) Z Z Z Z Z) (ai (ba O Z Z Z Z Z) trivial))))))))))))))) ?_
  exact ⟨Z, Ent.to ⟨Z, Z, Z, Z, Z, Z, trivial⟩ Z⟩
 | false =>
  refine t7 O [_,_,_,_,_,_,_,_,_,_,_,_,_,_,_] [pn [] 0 0, pn [] 0 0, pn [0,1] 0 0, pn [0,1,2] 0 0, pn (rg 0 4) 0 0, pn (rg 0 4) 0 0, pn (rg 0 6) 0 0, pn (rg 0 7) 0 0, pn (rg 0 4) 0 0, pn (rg 0 4) 0 0, pn [0,1,2,3,9] 0 0, pn [0,1,2,3,8,9,10] 0 0, pn (rg 0 4++rg 8 4) 0 0, pn (rg 0 13) 0 0, pn (rg 0 14) 0 0] [] [_] (kc O Z (kc O Z (ai ((V O Z).cast (v' := eB false) (congrArg eB hb4)) (kc O Z (ai ⟨Z, Z⟩ (ai ⟨Z, Z⟩ (ai ⟨Z, Z⟩ (ai ⟨Z, Z⟩ (ai ⟨Z, Z⟩ (ai ⟨Z, Z⟩ (ai ⟨Z, Z⟩ (ai ⟨Z, Z⟩ (ai ⟨Z, Z⟩ (ai ⟨Z, Z⟩ (ai (aF O Z Z Z Z Z) trivial))))))))))))))) ?_
  exact ⟨Z, Ent.to ⟨Z, Z, Z, Z, Z, Z, trivial⟩ Z⟩
 refine ab O Z Z (fun hc30 => ?_) (fun hc30 => ?_)
 refine ah (af (am ?_))
 obtain ⟨hc8, hc9⟩ := sP hc30
 have hlt : b < a := aR hc9
 obtain ⟨ez1, ez2⟩ : z.1 = 1 ∧ z.2 = [a, b] := hi.resolve_right (fun g => by have := aR hc8; omega)
 rw [ez1, ez2]
 refine fI O [_,_,_,_,_,_,_,_,_,_,_,_,_,_,_,_,_,_] [pn [] 0 0, pn [] 0 0, pn [] 0 1, pn [] 0 1, pn [3] 0 1, pn [] 0 0, pn [] 0 0, pn [6] 0 0, pn [5,6,7] 0 0, pn (rg 5 4) 0 0, pn [] 0 0, pn [] 0 0, pn [10,11] 0 0, pn [10,11,12] 0 0, pn ([0,1]++rg 5 9) 0 0, pe ([0,1]++rg 5 10) 0, pn (rg 0 16) 1 1, pe (rg 0 17) 1] [15,17] [_,_,_] (kc O Z (kc O Z (ai (kc O Z (V O Z)) (ai (kc O Z (V O Z)) (ai (ai ((az O Z Z (by decide) (by decide)).cast (v' := eI 0) Z) ((az O Z Z (by decide) (by decide)).cast (v' := eI 0) Z)) (kc O Z (kc O Z (ai ((az O Z Z (by decide) (by decide)).cast (v' := eI 0) Z) (ai ((V O Z).cast (v' := .c (.pt 500 0 0)) Z) (ai (av O (ex := [.int .i64 a]) Z Z Z Z Z Z) (kc O Z (kc O Z (ai ((V O Z).cast (v' := .c (.pt 500 1 0)) Z) (ai (av O (ex := [.int .i64 b]) Z Z Z Z Z Z) (ai ((V O Z).cast (v' := .c (.pt 500 1 0)) Z) (ai (cI (ex := [.int .i64 b]) (xs' := [a, a].map (fun n => [D.int .i64 n])) O Z Z Z Z Z Z Z Z Z Z Z Z Z Z Z Z Z Z) (ai ((V O Z).cast (v' := .c (.pt 500 0 0)) Z) (ai (cI (ex := [.int .i64 a]) (xs' := [b, a].map (fun n => [D.int .i64 n])) O Z Z Z Z Z Z Z Z Z Z Z Z Z Z Z Z Z Z) trivial)))))))))))))))))) ?_
 refine jw [30,0,1,2,6,7] Z (ch ?_)
 refine aj (js O Z (AOps.step ((az O Z Z (by decide) (by decide)).cast (v' := eI 0) Z) Z Z Z (js O Z (jf [7,30,0,1,2,6] Z (jn ?_)))))
 refine ⟨(0, [b, a]), Ent.to ⟨Z, Z, Z, Z, Z, trivial⟩ Z, .inr ⟨Z, Z, hlt⟩, by show (0 : Int).toNat < (1 : Int).toNat; decide⟩
 refine aQ (aj ?_)
 have hz9 : ru a b = z.2 := by
  rcases hi with ⟨g1, g2⟩ | ⟨g1, g2, g3⟩
  rw [g2]; exact yR (fun g => by rw [g1, decide_eq_true g] at hc30; cases hc30)
  rw [g2]; exact yQ g3
 refine js O Z (AOps.step ((az O Z Z (by decide) (by decide)).cast (v' := eI 2) Z) Z Z Z (js O Z (jf [6,30,0,1,2,7] Z (jn ?_))))
 refine ⟨(2, ru a b), Ent.to ⟨Z, Z, Z, Z, trivial⟩ (by rw [hz9]), .inr ⟨Z, Z⟩, by show ((2 : Int) - 2).toNat < ((2 : Int) - 1).toNat; decide⟩
 refine aQ ?_
 show _ ∧ _
 obtain ⟨ex1, ex2⟩ : x.1 = 2 ∧ x.2 = ru a b := hi.resolve_left (fun g => by rw [g.1] at hc12; exact absurd hc12 (by decide))
 rw [ex2]
 refine ⟨.inr Z, _, ak, _, Z, Z, Z⟩
theorem zT {a : Int} : MQ h1 h2 182 [.c (.rs 0 0 2), eI 0, eI 2, eI 2] [(0, aD [a, b])] (bb (.tup []) [(0, aD (ru a b))]) := by
 refine aJ 500 Z (jH 134 [500] h1 h2 Tryz.func182 Z Z Z Z fun O hF => ?_)
 refine ac (js O Z (aP (js O Z (jn (am (ap (X := Unit) (fun _u => ⟨[(0, .c (.rs 500 0 2)), (1, eI 0), (2, eI 2)], [(500, aD [a, b])]⟩) (fun _u => True) (fun _u => 0) () (Ent.to ⟨Z, Z, Z, trivial⟩ Z) ?_ (fun _ hi => ?_)))))))
 trivial
 refine am (ac (j2 O Z Z (AOps.step ((az O Z Z (by decide) (by decide)).cast (v' := eI 2) Z) Z Z Z (js O Z (jf [10,0,1,2] Z (jn (af (ac (j2 O Z Z (jn (ab O Z Z (fun hc23 => ?_) (fun hc23 => ?_))))))))))))
 refine ac (j3 O Z Z Z (ay O [500] (bin := [aD [a, b]]) Z Z Z Z (zR (a := a) (b := b) h1 h2) Z Z Z Z Z Z (B0 := 28000) Z Z (ao ?_)))
 refine jf [23,22,10,0,1,2] Z (jr ?_)
 refine ⟨.inl Z, _, ak, _, Z, Z, Z⟩
 exact absurd hc23 (by decide)
theorem zU {a : Int} : MQ h1 h2 166 [.c (.rs 0 0 2)] [(0, aD [a, b])] (bb (.tup []) [(0, aD (ru a b))]) := by
 refine aJ 500 Z (jH 11 [500] h1 h2 Tryz.func166 Z Z Z Z fun O hF => ?_)
 refine ac (js O Z ?_)
 first | refine bo O Z ?_ | refine js O Z ?_ | refine aU O Z Z ?_
 refine js O Z (jf [2,0] Z (jn (aj (j3 O Z Z Z (AOps.step ((Val.conv O (k' := .u64) (dt := .int .i64) (b := true) Z Z Z (by kernel_rfl) (by kernel_rfl)).cast (v' := .c (.d (.int .u64 2))) Z) Z Z Z (jf [8,6,5,0] Z (ae O Z Z Z Z (zS h1 h2) (aa Z) Z Z Z Z Z (B0 := 10000) Z (jf [9,6,5,0] Z (ay O [500] (bin := [aD [a, b]]) Z Z Z Z (zT (a := a) (b := b) h1 h2) Z Z Z Z Z Z (B0 := 11000) Z Z (ao ?_))))))))))
 refine jf [0] Z (jn ?_)
 show _ ∧ _
 refine ⟨.inr Z, _, ak, _, Z, Z, Z⟩
theorem tp {a : Int} : MQ h1 h2 167 [.c (.rs 0 0 2)] [(0, aD [a, a])] (bb (.c (.rs 0 0 1)) [(0, aD [a, 0])]) := by
 refine aJ 500 Z (jH 61 [500] h1 h2 Tryz.func167 Z Z Z Z fun O hF => ?_)
 refine ac (js O Z (jn (af (ac (js O Z ?_)))))
 first | refine bo O Z ?_ | refine js O Z ?_ | refine aU O Z Z ?_
 refine js O Z (jf [8,2,0] Z (jn (ab O Z Z (fun hc8 => ?_) (fun hc8 => ?_))))
 exact absurd hc8 (by decide)
 refine ah (af (ac (js O Z (jn (am (ap (X := Int) (fun k => ⟨[(0, .c (.rs 500 0 2)), (3, eI k)], [(500, aD [a, a])]⟩) (fun k => k = 1 ∨ (k = 2 ∧ False)) (fun k => (2 - k).toNat) 1 (Ent.to ⟨Z, Z, trivial⟩ Z) ?_ (fun k hi => ?_)))))))
 exact .inl Z
 refine af (ac (j2 O Z Z ?_))
 first | refine bo O Z ?_ | refine js O Z ?_ | refine aU O Z Z ?_
 refine js O Z (jf [13,0,3] Z (jn (ab O Z Z (fun hc13 => ?_) (fun hc13 => ?_))))
 refine ah (af (am (af ?_)))
 obtain ek : k = 1 := hi.resolve_right (fun g => g.2)
 rw [ek]
 refine fI O [_,_,_,_,_,_,_,_,_,_] [pn [] 0 0, pn [] 0 0, pn [0,1] 0 0, pn [0,1,2] 0 0, pn [] 0 0, pn [] 0 0, pn [5] 0 0, pn [4,5,6] 0 0, pn (rg 4 4) 0 0, pn (rg 0 9) 0 0] [] [_] (kc O Z (kc O Z (ai ((V O Z).cast (v' := .c (.pt 500 1 0)) Z) (ai (av O (ex := [.int .i64 a]) Z Z Z Z Z Z) (kc O Z (kc O Z (ai ((az O Z Z (by decide) (by decide)).cast (v' := eI 0) Z) (ai ((V O Z).cast (v' := .c (.pt 500 0 0)) Z) (ai (av O (ex := [.int .i64 a]) Z Z Z Z Z Z) (kc O Z trivial)))))))))) ?_
 refine jw [25,13,0,3] Z (ch ?_)
 refine ab O Z Z (fun hc25 => ?_) (fun hc25 => ?_)
 refine ac (j2 O Z Z (AOps.step (iv O Z Z Z Z Z Z Z Z Z) Z Z Z (js O Z (jf [4,25,13,0,3] Z (jn (af (ac (js O Z (jn (am (ap (X := Unit) (fun _u => ⟨[(0, .c (.rs 500 0 2)), (3, eI 1), (4, .c (.rs 500 1 1)), (5, eI 1)], [(500, aD [a, a])]⟩) (fun _u => True) (fun _u => 0) () (Ent.to ⟨Z, Z, Z, Z, trivial⟩ Z) ?_ (fun _ hi => ?_))))))))))))
 trivial
 refine af (ac (j2 O Z Z ?_))
 first | refine bo O Z ?_ | refine js O Z ?_ | refine aU O Z Z ?_
 refine js O Z (jf [32,0,3,4,5] Z (jn (ab O Z Z (fun hc32 => ?_) (fun hc32 => ?_))))
 exact absurd hc32 (by decide)
 refine aQ (ac (j2 O Z Z (AOps.step (iv O Z Z Z Z Z Z Z Z Z) Z Z Z (jf [56,32,0,3,4,5] Z (AOps.heap (rY (z := .int .i64 0) (ex := [.int .i64 a]) (xs' := [a, 0].map (fun n => [D.int .i64 n])) O Z Z Z Z Z Z Z Z Z Z Z Z Z Z Z Z Z Z Z) Z (ao ?_))))))
 refine ao ?_
 refine aP (j2 O Z Z (AOps.step (f4 O Z Z Z Z Z Z Z Z Z (m := 1) Z (by decide)) Z Z Z (js O Z (jf [2,56,32,0,3,4,5] Z (jr ?_)))))
 refine ⟨.inl Z, _, ak, _, Z, Z, Z⟩
 exact absurd hc25 (by rw [decide_eq_true Z]; decide)
 refine aQ (ac (j2 O Z Z (jr ?_)))
 have ek : k = 1 := hi.resolve_right (fun g => g.2)
 rw [ek] at hc13
 exact absurd hc13 (by decide)
theorem tn {a : Int} (hab : ¬ b = a) : MQ h1 h2 167 [.c (.rs 0 0 2)] [(0, aD [a, b])] (bb (.c (.rs 0 0 2)) [(0, aD [a, b])]) := by
 refine aJ 500 Z (jH 61 [500] h1 h2 Tryz.func167 Z Z Z Z fun O hF => ?_)
 refine ac (js O Z (jn (af (ac (js O Z ?_)))))
 first | refine bo O Z ?_ | refine js O Z ?_ | refine aU O Z Z ?_
 refine js O Z (jf [8,2,0] Z (jn (ab O Z Z (fun hc8 => ?_) (fun hc8 => ?_))))
 exact absurd hc8 (by decide)
 refine ah (af (ac (js O Z (jn (am (ap (X := Int) (fun k => ⟨[(0, .c (.rs 500 0 2)), (3, eI k)], [(500, aD [a, b])]⟩) (fun k => k = 1 ∨ k = 2) (fun k => (2 - k).toNat) 1 (Ent.to ⟨Z, Z, trivial⟩ Z) ?_ (fun k hi => ?_)))))))
 exact .inl Z
 refine af (ac (j2 O Z Z ?_))
 first | refine bo O Z ?_ | refine js O Z ?_ | refine aU O Z Z ?_
 refine js O Z (jf [13,0,3] Z (jn (ab O Z Z (fun hc13 => ?_) (fun hc13 => ?_))))
 refine ah (af (am (af ?_)))
 obtain ek : k = 1 := hi.resolve_right (fun g => by rw [g] at hc13; exact absurd hc13 (by decide))
 rw [ek]
 refine fI O [_,_,_,_,_,_,_,_,_,_] [pn [] 0 0, pn [] 0 0, pn [0,1] 0 0, pn [0,1,2] 0 0, pn [] 0 0, pn [] 0 0, pn [5] 0 0, pn [4,5,6] 0 0, pn (rg 4 4) 0 0, pn (rg 0 9) 0 0] [] [_] (kc O Z (kc O Z (ai ((V O Z).cast (v' := .c (.pt 500 1 0)) Z) (ai (av O (ex := [.int .i64 b]) Z Z Z Z Z Z) (kc O Z (kc O Z (ai ((az O Z Z (by decide) (by decide)).cast (v' := eI 0) Z) (ai ((V O Z).cast (v' := .c (.pt 500 0 0)) Z) (ai (av O (ex := [.int .i64 a]) Z Z Z Z Z Z) (kc O Z trivial)))))))))) ?_
 refine jw [25,13,0,3] Z (ch ?_)
 refine ab O Z Z (fun hc25 => ?_) (fun hc25 => ?_)
 exact absurd (aR hc25) hab
 refine ah (aj (js O Z (AOps.step ((az O Z Z (by decide) (by decide)).cast (v' := eI 2) Z) Z Z Z (js O Z (jf [3,25,13,0] Z (jn ?_))))))
 refine ⟨2, Ent.to ⟨Z, Z, trivial⟩ Z, .inr Z, by show ((2 : Int) - 2).toNat < ((2 : Int) - 1).toNat; decide⟩
 refine aQ (ac (j2 O Z Z (jr ?_)))
 refine ⟨.inl Z, _, ak, _, Z, Z, Z⟩
theorem sT {x k : Int} : (if x < k then [x, k] else if x = k then [k] else [k, x]) = if x = k then [k] else ru k x := by
 unfold ru
 by_cases h1 : x < k
 rw [if_pos h1, if_neg (by omega), if_pos h1]
 rw [if_neg h1, if_neg h1]
theorem uz {a b : Int} : ∃ p q, ru a b = [p, q] ∧ (a ≠ b → ¬ q = p) ∧ (a = b → p = b ∧ q = b) := by
 unfold ru
 by_cases h : b < a
 exact ⟨b, a, if_pos h, fun h => h, fun h => ⟨Z, h⟩⟩
 exact ⟨a, b, if_neg h, fun h g => h g.symm, fun h => ⟨h, Z⟩⟩
theorem ko {p : Prop} [Decidable p] (h : decide p = false) : ¬ p := bn h
theorem v9 {k : Nat} (hk : k < c.length) (hc : c.length ≤ 1000) : MQ h1 h2 140 [jT c, eI k] [] (Rows (.c (.rs 0 0 (tg (c.getD k default) k).length)) [aD (tg (c.getD k default) k)]) := by
 refine bh (jB 35 h1 h2 Tryz.func140 Z Z Z fun O hF => ?_)
 refine ac (js O Z (aP (j2 O Z Z (AOps.step (aL O Z Z Z Z Z Z Z Z (cB hk)) Z Z Z (j2 O Z Z ?_)))))
 first | refine ji O Z ?_ | refine aU O Z Z ?_
 refine jf [13,11,4] Z (jl O Z (ao ?_))
 refine jo O Z (ao ?_)
 refine js O Z (jf [6,5,4] Z (jn (af (ac (j2 O Z Z (jn (am (ac (j2 O Z Z (jn (ab O Z Z (fun hc16 => ?_) (fun hc16 => ?_))))))))))))
 refine ac (js O Z (jr ?_))
 rw [tg, if_pos (aR hc16)]
 refine ⟨.inl Z, _, (cw 4 900 1 true Z Z).trans (Ent.to (e' := [(4, _)]) ⟨Z, trivial⟩ Z), _, Z, [900], by decide, Z, Z, Z⟩
 refine ac (j2 O Z Z (jf [18,17,15,14,6,5,4] Z (jn (ab O Z Z (fun hc18 => ?_) (fun hc18 => ?_)))))
 refine ac (j2 O Z Z (jf [21,17,15,14,6,5,4] Z (AOps.heap (aZ O Z Z Z) Z (ao ?_))))
 refine js O Z (jf [4,17,15,14,6,5] Z (jr ?_))
 rw [tg, if_neg (ko hc16), if_pos (aR hc18)]
 refine ⟨.inl Z, _, ak, _, Z, [22], by decide, Z, Z, Z⟩
 refine ac (j2 O Z Z (jf [23,17,15,14,6,5,4] Z (jn (ab O Z Z (fun hc23 => ?_) (fun hc23 => ?_)))))
 refine ac (j3 O Z Z Z (jf [27,25,17,15,14,6,5,4] Z (AOps.heap (aZ O Z Z Z) Z (ao ?_))))
 refine js O Z (jf [7,17,15,14,6,5,4] Z (aP (js O Z (ay O [28] (bin := [aD [((k : Int) + 1), (c.getD k default).a]]) Z Z Z Z (zU (a := ((k : Int) + 1)) (b := (c.getD k default).a) h1 h2) Z Z Z Z Z Z (B0 := 31000) Z Z ?_))))
 obtain ⟨p, q, epq, hpq, hpe⟩ := uz (a := ((k : Int) + 1)) (b := (c.getD k default).a)
 refine ao ?_
 rw [epq]
 refine jf [7,17,15,14,6,5,4] Z (aP (js O Z ?_))
 cases hb32 : decide (((k : Int) + 1) = (c.getD k default).a) with
 | true =>
  obtain ⟨ep, eq⟩ := hpe (aR hb32)
  rw [ep, eq]
  first | refine ay O [28] (bin := [aD [(c.getD k default).a, (c.getD k default).a]]) Z Z Z Z (tp (a := (c.getD k default).a) h1 h2) Z Z Z Z Z Z (B0 := 33000) Z Z ?_ | refine ay O [28] (bin := [aD [p, q]]) Z Z Z Z (tn (a := p) (b := q) h1 h2 hne) Z Z Z Z Z Z (B0 := 33000) Z Z ?_
  refine ao ?_
  refine js O Z (jf [4,7,17,15,14,6,5] Z (jr ?_))
  have hE := aR hb32
  rw [tg, if_neg (ko hc16), if_neg (ko hc18), if_pos (aR hc23), sT, if_pos hE.symm]
  rw [hE]
  refine ⟨.inl Z, _, Ent.cut 28 1 Z, _, Z, [28], by decide, Z, Z, Z⟩
 | false =>
  have hne := hpq (bn hb32)
  first | refine ay O [28] (bin := [aD [(c.getD k default).a, (c.getD k default).a]]) Z Z Z Z (tp (a := (c.getD k default).a) h1 h2) Z Z Z Z Z Z (B0 := 33000) Z Z ?_ | refine ay O [28] (bin := [aD [p, q]]) Z Z Z Z (tn (a := p) (b := q) h1 h2 hne) Z Z Z Z Z Z (B0 := 33000) Z Z ?_
  refine ao ?_
  refine js O Z (jf [4,7,17,15,14,6,5] Z (jr ?_))
  have hE := bn hb32
  rw [tg, if_neg (ko hc16), if_neg (ko hc18), if_pos (aR hc23), sT, if_neg (fun g => hE g.symm), epq]
  refine ⟨.inl Z, _, ak, _, Z, [28], by decide, Z, Z, Z⟩
 refine ah (ac (js O Z (jf [33,17,15,14,6,5,4] Z (AOps.heap (aZ O Z Z Z) Z (ao ?_)))))
 refine js O Z (jf [4,17,15,14,6,5] Z (jr ?_))
 rw [tg, if_neg (ko hc16), if_neg (ko hc18), if_neg (ko hc23)]
 refine ⟨.inl Z, _, ak, _, Z, [34], by decide, Z, Z, Z⟩
theorem qR {ws : List Int} {z : Int} : ((ws ++ [z]).map (fun n => [D.int .i64 n])).take ws.length = ws.map (fun n => [D.int .i64 n]) := by simp
theorem rc {z : Int} {n : Nat} : da 0 ((n : Int) - 1) z = true ↔ 0 ≤ z ∧ z < n := by unfold da; simp only [bF, decide_eq_true_eq]; omega
end Go.Al
