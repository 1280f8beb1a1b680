/- Annotated code; sizes, copies, marks. -/
import Derived.Test.YtnepkogijffmjaaGreatH
namespace Go.Al
open Go.Proofs
set_option linter.unusedVariables false
set_option linter.unusedSimpArgs false
set_option maxRecDepth 10000
/-! Annotated code, and what its folding comes to. -/
structure In where
  op : Int
  a : Int
  deriving Inhabited, DecidableEq
abbrev In.cells (x : In) : List D := [.int .i64 x.op, .int .i64 x.a]
abbrev insD (c : List In) : D := .slc 2 (c.map In.cells)
abbrev ains (c : List In) : A := .c (.d (insD c))
abbrev irow (c : List In) : B := .row true 2 (c.map In.cells)
structure Pt where
  k : Int
  fs : List Tm
  deriving Inhabited, DecidableEq
abbrev Pt.cells (p : Pt) : List D := [.int .i64 p.k, tms p.fs]
abbrev ptsD (ps : List Pt) : D := .slc 2 (ps.map Pt.cells)
abbrev apts (ps : List Pt) : A := .c (.d (ptsD ps))
abbrev prow (ps : List Pt) : B := .row true 2 (ps.map Pt.cells)
def Pt.size (p : Pt) : Nat := szs Tm.size p.fs
structure An where
  pre : List Tm
  post : List Tm
  code : List In
  pts : List Pt
  deriving Inhabited, DecidableEq
abbrev An.data (a : An) : List D := [tms a.pre, tms a.post, insD a.code, ptsD a.pts]
abbrev aAn (a : An) : A := .agg (a.data.map .d)
def An.size (a : An) : Nat := szs Tm.size a.pre + szs Tm.size a.post + a.code.length + szs Pt.size a.pts
abbrev mIn : Int → In → In := fun k _ => ⟨k, k + 1⟩
abbrev nIn : In → Nat := fun _ => 2
abbrev mP : Int → Pt → Pt := fun k p => ⟨k, markL mT nT (k + 1) p.fs⟩
abbrev nP : Pt → Nat := fun p => 1 + cnt nT p.fs
/-- A valid instruction. -/
def instrB (x : In) : Bool :=
  if x.op = 0 ∨ x.op = 4 then num x.a else if x.op = 1 ∨ x.op = 2 then inB 0 3 x.a else if x.op = 5 ∨ x.op = 6 then inB 0 79 x.a else if x.op = 9 then inB 0 3 x.a
  else if x.op = 3 ∨ x.op = 7 ∨ x.op = 8 ∨ x.op = 10 ∨ x.op = 11 then decide (x.a = 0) else false
def codeB (c : List In) : Bool := c.all instrB && inB 1 80 c.length
def ptB (n : Nat) (ps : List Pt) (i : Nat) : Bool := inB 0 ((n : Int) - 1) (ps.getD i default).k && terms (ps.getD i default).fs 6 && !(decide (0 < i) && decide ((ps.getD i default).k ≤ (ps.getD (i - 1) default).k))
def ptsB (n : Nat) (ps : List Pt) : Bool := (List.range ps.length).all (ptB n ps)
def annB (a : An) : Bool := codeB a.code && (terms a.pre 6 && (terms a.post 6 && (decide (a.pts.length ≤ 8) && ptsB a.code.length a.pts)))
theorem ptsB_of {n : Nat} {ps : List Pt} (h : ∀ j, j < ps.length → ptB n ps j = true) : ptsB n ps = true := List.all_eq_true.2 fun j hj => h j (List.mem_range.1 hj)
theorem ptsB_not {n : Nat} {ps : List Pt} (j : Nat) (hj : j < ps.length) (h : ptB n ps j = false) : ptsB n ps = false := by
  cases e : ptsB n ps with
  | false => rfl
  | true => have := List.all_eq_true.1 e j (List.mem_range.2 hj); rw [h] at this; cases this
def jmpB (x : In) : Bool := decide (x.op = 5) || decide (x.op = 6)
def ptAt (ps : List Pt) (k : Int) : Bool := ps.any fun p => decide (p.k = k)
def jmpTo (c : List In) (k : Int) : Bool := c.any fun x => jmpB x && decide (x.a = k)
def plB (c : List In) (ps : List Pt) (k : Int) : Bool := jmpTo c k || ptAt ps k
def segF (pl : Int → Bool) : Nat → List In → List In
  | _, [] => []
  | k, x :: r => if pl (k : Int) = true then [] else x :: segF pl (k + 1) r
def sgt (c : List In) (ps : List Pt) (k : Nat) : List In := match c.drop k with
  | [] => []
  | x :: r => x :: segF (plB c ps) (k + 1) r
def hasR : List Int → List In → Bool
  | [], _ => true
  | _ :: _, [] => false
  | o :: os, x :: s => decide (x.op = o) && hasR os s
def plainB (x : In) : Bool := decide (x.op = 1) || decide (x.op = 3) || decide (x.op = 7)
def ruleR (s : List In) : Nat × List In :=
  let x := s.getD 0 default
  let y := s.getD 1 default
  if hasR [0, 4] s = true ∧ num (x.a * y.a) = true then (2, [⟨0, x.a * y.a⟩])
  else if hasR [0, 0, 3] s = true ∧ num (x.a + y.a) = true then (3, [⟨0, x.a + y.a⟩])
  else if hasR [0, 1, 3] s = true ∧ x.a = 0 then (3, [y])
  else if hasR [0, 1, 4, 3] s = true ∧ x.a = 0 then (4, [y, s.getD 2 default])
  else if (plainB x = true ∨ x.op = 4) ∧ hasR [x.op, 0, 3] s = true ∧ y.a = 0 then (3, [x])
  else if plainB x = true ∧ hasR [x.op, 4] s = true ∧ y.a = 1 then (2, [x])
  else if hasR [4, 4] s = true ∧ num (x.a * y.a) = true then (2, [⟨4, x.a * y.a⟩])
  else (0, [])
def sMap (k less : Int) (x : In) : In := if jmpB x = true ∧ k < x.a then ⟨x.op, x.a - less⟩ else x
def sPt (k less : Int) (p : Pt) : Pt := if k < p.k then ⟨p.k - less, p.fs⟩ else p
def splR (a : An) (k n : Nat) (by' : List In) : An :=
  ⟨a.pre, a.post, (a.code.take k ++ by' ++ a.code.drop (k + n)).map (sMap k ((n : Int) - by'.length)), a.pts.map (sPt k ((n : Int) - by'.length))⟩
abbrev ruleA (a : An) (k : Nat) : Nat × List In := ruleR (sgt a.code a.pts k)
def stepF (a : An) : Nat → Nat → Option An
  | 0, _ => none
  | f + 1, k => if 0 < (ruleA a k).1 then some (splR a k (ruleA a k).1 (ruleA a k).2) else stepF a f (k + 1)
def foldS (a : An) : Option An := stepF a a.code.length 0
def foldF : Nat → An → An
  | 0, a => a
  | f + 1, a => match foldS a with
    | none => a
    | some b => foldF f b
def foldR (a : An) : An := foldF a.code.length a
/-- What is true of valid code, and stays true. -/
structure AOk (a : An) : Prop where
  code : ∀ x ∈ a.code, instrB x = true
  pts : ∀ p ∈ a.pts, 0 ≤ p.k ∧ p.k ≤ 79
  len : a.code.length ≤ 80
  np : a.pts.length ≤ 8
  npre : a.pre.length ≤ 6
  npost : a.post.length ≤ 6
theorem terms_len {ts : List Tm} {n : Nat} (h : terms ts n = true) : ts.length ≤ n := by
  simp only [terms, Bool.and_eq_true, decide_eq_true_eq] at h; omega
theorem annB_ok {a : An} (h : annB a = true) : AOk a := by
  simp only [annB, codeB, inB, Bool.and_eq_true, decide_eq_true_eq] at h
  obtain ⟨⟨h1, h2, h3⟩, h4, h5, h6, h7⟩ := h
  refine ⟨List.all_eq_true.1 h1, fun p hp => ?_, by omega, h6, terms_len (n := 6) h4, terms_len (n := 6) h5⟩
  obtain ⟨i, hi, rfl⟩ := List.getElem_of_mem hp
  have := List.all_eq_true.1 h7 i (List.mem_range.2 hi)
  simp only [ptB, inB, Bool.and_eq_true, decide_eq_true_eq, getD_lt hi] at this
  omega
/-- What a rule that applies is like. -/
structure RuOk (s : List In) (r : Nat × List In) : Prop where
  n : r.1 ≤ s.length
  lt : r.2.length < r.1
  one : 1 ≤ r.2.length
  two : r.2.length ≤ 2
  jmp : ∀ x ∈ r.2, jmpB x = false
  ok : (∀ x ∈ s, instrB x = true) → ∀ x ∈ r.2, instrB x = true
theorem mem_getD {s : List In} {i : Nat} (h : i < s.length) : s.getD i default ∈ s := by rw [getD_lt h]; exact List.getElem_mem h
end Go.Al
namespace Go.Al
open Go.Proofs
set_option linter.unusedVariables false
set_option linter.unusedSimpArgs false
set_option maxRecDepth 10000
set_option maxHeartbeats 4000000
theorem c65 {L : Nat} (h1 : 4096 ≤ L) (h2 : L ≤ 9223372036854775807) {xs : List In} {left : Int} (hl0 : 0 ≤ left) (hl1 : left ≤ 1048576) : MC Tryz.prog L 39 [ains xs, eI left] [] (Plain (eI (szr left xs.length))) := by
 refine MC.alone ?_ rfl
 have hσ := SGok (nt := 12) h1 h2
 refine MC.body hσ Tryz.func39 (by kernel_rfl) rfl rfl (Nat.le_of_ble_eq_true rfl) (fun hF => ?_)
 have hl : xs.length ≤ L := by simpa [As.fact, A.fact, M.fact, D.fact, Ds.fact] using hF.1.1
 refine jsr ?_
 refine jst hσ rfl rfl rfl rfl rfl ?_
 refine jns ?_
 iterate 2 refine jst hσ rfl rfl rfl rfl rfl ?_
 first | refine jle hσ rfl rfl rfl rfl rfl rfl rfl rfl rfl rfl rfl ?_ | refine jst hσ rfl rfl rfl rfl rfl ?_ | refine jvf hσ rfl rfl rfl rfl rfl ?_
 first | refine jfi hσ rfl rfl rfl rfl rfl ?_ | refine jvf hσ rfl rfl rfl rfl rfl ?_
 refine jst hσ rfl rfl rfl rfl rfl ?_
 refine jn ?_
 refine AWP.seq ?_
 refine jsr ?_
 iterate 2 refine jst hσ rfl rfl rfl rfl rfl ?_
 refine jn ?_
 refine AWP.cond hσ rfl rfl (fun hc10 => ?_) (fun hc10 => ?_)
 ·
  try simp only [jcs] at hc10
  refine jsr ?_
  refine jst hσ rfl rfl rfl rfl rfl ?_
  refine jn ?_
  refine AWP.ret ?_
  refine ⟨.inl rfl, _, Ent.refl, _, rfl, ?_⟩
  rw [show szr left xs.length = -1 from if_pos (by omega)]
 ·
  try simp only [jcs] at hc10
  refine AWP.skip ?_
  refine jsr ?_
  iterate 2 refine jst hσ rfl rfl rfl rfl rfl ?_
  refine jn ?_
  refine AWP.ret ?_
  refine ⟨.inl rfl, _, Ent.refl, _, rfl, ?_⟩
  rw [show szr left xs.length = left - xs.length from if_neg (by omega)]
theorem c116 {L : Nat} (h1 : 4096 ≤ L) (h2 : L ≤ 9223372036854775807) {t : Pt} {left : Int} (hl0 : 0 ≤ left) (hl1 : left ≤ 1048576) : MC Tryz.prog L 69 [.agg (t.cells.map .d), eI left] [] (Plain (eI (szr left t.size))) := by
 refine MC.alone ?_ rfl
 have hσ := SGok (nt := 12) h1 h2
 refine MC.body hσ Tryz.func69 (by kernel_rfl) rfl rfl (Nat.le_of_ble_eq_true rfl) (fun hF => ?_)
 refine jsr ?_
 refine AOps.heap (HS.box hσ rfl rfl rfl rfl rfl rfl rfl) rfl ?_
 refine jst hσ rfl rfl rfl rfl rfl ?_
 refine jns ?_
 iterate 3 refine jst hσ rfl rfl rfl rfl rfl ?_
 refine AOps.lone hσ rfl rfl rfl rfl (c52 (ts := t.fs) h1 h2 hl0 hl1) (VAs.self rfl) rfl rfl rfl rfl rfl (B0 := 9000) rfl ?_
 refine jst hσ rfl rfl rfl rfl rfl ?_
 refine jn ?_
 refine AWP.seq ?_
 refine jsr ?_
 iterate 2 refine jst hσ rfl rfl rfl rfl rfl ?_
 refine jn ?_
 refine AWP.cond hσ rfl rfl (fun hc10 => ?_) (fun hc10 => ?_)
 ·
  try simp only [jcs] at hc10
  refine jsr ?_
  refine jst hσ rfl rfl rfl rfl rfl ?_
  refine jn ?_
  refine AWP.ret ?_
  refine ⟨.inl rfl, _, Ent.refl, _, rfl, ?_⟩
  have : szr left t.size = -1 := by unfold szr Pt.size at *; split at hc10 <;> simp_all <;> omega
  rw [this]
 ·
  try simp only [jcs] at hc10
  refine AWP.skip ?_
  refine jsr ?_
  iterate 2 refine jst hσ rfl rfl rfl rfl rfl ?_
  refine jn ?_
  refine AWP.ret ?_
  refine ⟨.inl rfl, _, Ent.refl, _, rfl, ?_⟩
  rfl
theorem c66 {L : Nat} (h1 : 4096 ≤ L) (h2 : L ≤ 9223372036854775807) {ts : List Pt} {left : Int} (hl0 : 0 ≤ left) (hl1 : left ≤ 1048576) : MC Tryz.prog L 40 [.c (.d (ptsD ts)), eI left] [] (Plain (eI (szr left (Al.szs Pt.size ts)))) := by
 refine MC.alone ?_ rfl
 have hσ := SGok (nt := 27) h1 h2
 refine MC.body hσ Tryz.func40 (by kernel_rfl) rfl rfl (Nat.le_of_ble_eq_true rfl) (fun hF => ?_)
 have hl : ts.length ≤ L := by simpa [As.fact, A.fact, M.fact, D.fact, Ds.fact] using hF.1.1
 refine jsr ?_
 refine jst hσ rfl rfl rfl rfl rfl ?_
 refine jns ?_
 iterate 2 refine jst hσ rfl rfl rfl rfl rfl ?_
 first | refine jle hσ rfl rfl rfl rfl rfl rfl rfl rfl rfl rfl rfl ?_ | refine jst hσ rfl rfl rfl rfl rfl ?_ | refine jvf hσ rfl rfl rfl rfl rfl ?_
 first | refine jfi hσ rfl rfl rfl rfl rfl ?_ | refine jvf hσ rfl rfl rfl rfl rfl ?_
 refine jst hσ rfl rfl rfl rfl rfl ?_
 refine jn ?_
 refine AWP.seq ?_
 refine jsr ?_
 iterate 2 refine jst hσ rfl rfl rfl rfl rfl ?_
 refine jn ?_
 refine AWP.cond hσ rfl rfl (fun hc11 => ?_) (fun hc11 => ?_)
 ·
  try simp only [jcs] at hc11
  refine jsr ?_
  refine jst hσ rfl rfl rfl rfl rfl ?_
  refine jn ?_
  refine AWP.ret ?_
  refine ⟨.inl rfl, _, Ent.refl, _, rfl, ?_⟩
  rw [show szr left (Al.szs Pt.size ts) = -1 from if_pos (by unfold Al.szs; omega)]
 ·
  try simp only [jcs] at hc11
  refine AWP.skip ?_
  refine AWP.seq ?_
  refine jsr ?_
  refine jst hσ rfl rfl rfl rfl rfl ?_
  refine jn ?_
  refine AWP.block ?_
  refine AWP.loopP (X := Nat) (fun i => ⟨[(0, .c (.d (ptsD ts))), (1, eI (left - ts.length - ((ts.take i).map Pt.size).sum)), (5, eI i)], []⟩) (fun i => i ≤ ts.length ∧ (0 : Int) ≤ left - ts.length - ((ts.take i).map Pt.size).sum) (fun i => ts.length - i) 0 (Ent.env ⟨rfl, by simp [lk_cons], rfl, trivial⟩) ?_ (fun i hi => ?_)
  ·
   exact ⟨Nat.zero_le _, by simp; omega⟩
  refine AWP.seq ?_
  refine jsr ?_
  iterate 2 refine jst hσ rfl rfl rfl rfl rfl ?_
  first | refine jle hσ rfl rfl rfl rfl rfl rfl rfl rfl rfl rfl rfl ?_ | refine jst hσ rfl rfl rfl rfl rfl ?_ | refine jvf hσ rfl rfl rfl rfl rfl ?_
  refine jst hσ rfl rfl rfl rfl rfl ?_
  refine jn ?_
  refine AWP.cond hσ rfl rfl (fun hc15 => ?_) (fun hc15 => ?_)
  ·
   try simp only [jcs] at hc15
   refine AWP.skip ?_
   refine AWP.seq ?_
   refine AWP.block ?_
   refine jsr ?_
   iterate 2 refine jst hσ rfl rfl rfl rfl rfl ?_
   first | refine jix hσ rfl rfl rfl rfl rfl rfl rfl rfl rfl rfl rfl ?_ | refine jvf hσ rfl rfl rfl rfl rfl ?_
   iterate 2 refine jst hσ rfl rfl rfl rfl rfl ?_
   refine AOps.lone hσ rfl rfl rfl rfl (c116 h1 h2 hi.2 (by omega)) (VAs.self rfl) rfl rfl rfl rfl rfl (B0 := 24000) rfl ?_
   refine jst hσ rfl rfl rfl rfl rfl ?_
   refine jns ?_
   iterate 2 refine jst hσ rfl rfl rfl rfl rfl ?_
   refine jn ?_
   refine AWP.cond hσ rfl rfl (fun hc25 => ?_) (fun hc25 => ?_)
   ·
    try simp only [jcs] at hc25
    refine jsr ?_
    refine jst hσ rfl rfl rfl rfl rfl ?_
    refine jn ?_
    refine AWP.ret ?_
    refine ⟨.inl rfl, _, Ent.refl, _, rfl, ?_⟩
    have e := sum_take Pt.size ts i (by omega)
    have e3 := sum_le Pt.size ts (i + 1)
    rw [Int.toNat_natCast] at hc25
    rw [show szr left (Al.szs Pt.size ts) = -1 from if_pos (by unfold szr at hc25; unfold Al.szs; split at hc25 <;> omega)]
   ·
    try simp only [jcs] at hc25
    refine AWP.skip ?_
    refine AWP.region ?_
    refine jst hσ rfl rfl rfl rfl rfl ?_
    first | refine jfi hσ rfl rfl rfl rfl rfl ?_ | refine jvf hσ rfl rfl rfl rfl rfl ?_
    refine jst hσ rfl rfl rfl rfl rfl ?_
    refine jn ?_
    have e := sum_take Pt.size ts i (by omega)
    have e2 : szr (left - ts.length - ((ts.take i).map Pt.size).sum) (Pt.size (ts.getD i default)) = left - ts.length - ((ts.take (i + 1)).map Pt.size).sum := by
     unfold szr at hc25 ⊢
     rw [Int.toNat_natCast] at hc25
     split at hc25 <;> omega
    refine ⟨i + 1, Ent.env ⟨rfl, ?_, rfl, trivial⟩, ⟨by omega, ?_⟩, by omega⟩
    ·
     rw [← e2]; rfl
    ·
     rw [← e2]; rw [Int.toNat_natCast] at hc25; omega
  ·
   try simp only [jcs] at hc15
   refine AWP.exit ?_
   refine jsr ?_
   iterate 2 refine jst hσ rfl rfl rfl rfl rfl ?_
   refine jn ?_
   refine AWP.ret ?_
   refine ⟨.inl rfl, _, Ent.refl, _, rfl, ?_⟩
   obtain rfl : i = ts.length := by omega
   have e4 := hi.2
   rw [List.take_length] at e4 ⊢
   rw [show szr left (Al.szs Pt.size ts) = left - ts.length - (ts.map Pt.size).sum from by unfold szr Al.szs; rw [if_neg (by omega)]; omega]
theorem c22 {L : Nat} (h1 : 4096 ≤ L) (h2 : L ≤ 9223372036854775807) {a : An} {left : Int} (hl0 : 0 ≤ left) (hl1 : left ≤ 1048576) : MC Tryz.prog L 14 [aAn a, eI left] [] (Plain (eI (szr left a.size))) := by
 refine MC.alone ?_ rfl
 have hσ := SGok (nt := 30) h1 h2
 refine MC.body hσ Tryz.func14 (by kernel_rfl) rfl rfl (Nat.le_of_ble_eq_true rfl) (fun hF => ?_)
 refine jsr ?_
 refine AOps.heap (HS.box hσ rfl rfl rfl rfl rfl rfl rfl) rfl ?_
 refine jst hσ rfl rfl rfl rfl rfl ?_
 refine jns ?_
 iterate 3 refine jst hσ rfl rfl rfl rfl rfl ?_
 refine AOps.lone hσ rfl rfl rfl rfl (c52 (ts := a.pre) h1 h2 hl0 hl1) (VAs.self rfl) rfl rfl rfl rfl rfl (B0 := 9000) rfl ?_
 refine jst hσ rfl rfl rfl rfl rfl ?_
 refine jn ?_
 refine AWP.seq ?_
 refine jsr ?_
 iterate 2 refine jst hσ rfl rfl rfl rfl rfl ?_
 refine jn ?_
 refine AWP.cond hσ rfl rfl (fun hc10 => ?_) (fun hc10 => ?_)
 ·
  try simp only [jcs] at hc10
  refine jsr ?_
  refine jst hσ rfl rfl rfl rfl rfl ?_
  refine jn ?_
  refine AWP.ret ?_
  refine ⟨.inl rfl, _, Ent.refl, _, rfl, ?_⟩
  unfold An.size
  rw [Nat.add_assoc, Nat.add_assoc, szr_neg _ hc10]
 ·
  try simp only [jcs] at hc10
  refine AWP.skip ?_
  refine jsr ?_
  iterate 3 refine jst hσ rfl rfl rfl rfl rfl ?_
  have le1 := szr_le hl0 (szs Tm.size a.pre)
  refine AOps.lone hσ rfl rfl rfl rfl (c52 (ts := a.post) h1 h2 hc10 (by omega)) (VAs.self rfl) rfl rfl rfl rfl rfl (B0 := 15000) rfl ?_
  refine jst hσ rfl rfl rfl rfl rfl ?_
  refine jn ?_
  refine AWP.seq ?_
  refine jsr ?_
  iterate 2 refine jst hσ rfl rfl rfl rfl rfl ?_
  refine jn ?_
  refine AWP.cond hσ rfl rfl (fun hc16 => ?_) (fun hc16 => ?_)
  ·
   try simp only [jcs] at hc16
   refine jsr ?_
   refine jst hσ rfl rfl rfl rfl rfl ?_
   refine jn ?_
   refine AWP.ret ?_
   refine ⟨.inl rfl, _, Ent.refl, _, rfl, ?_⟩
   unfold An.size
   rw [szr_add _ hc10] at hc16
   rw [Nat.add_assoc, szr_neg _ hc16]
  ·
   try simp only [jcs] at hc16
   refine AWP.skip ?_
   refine jsr ?_
   iterate 3 refine jst hσ rfl rfl rfl rfl rfl ?_
   rw [szr_add _ hc10] at hc16 ⊢
   have le2 := szr_le hl0 (szs Tm.size a.pre + szs Tm.size a.post)
   refine AOps.lone hσ rfl rfl rfl rfl (c65 (xs := a.code) h1 h2 hc16 (by omega)) (VAs.self rfl) rfl rfl rfl rfl rfl (B0 := 21000) rfl ?_
   refine jst hσ rfl rfl rfl rfl rfl ?_
   refine jn ?_
   refine AWP.seq ?_
   refine jsr ?_
   iterate 2 refine jst hσ rfl rfl rfl rfl rfl ?_
   refine jn ?_
   refine AWP.cond hσ rfl rfl (fun hc22 => ?_) (fun hc22 => ?_)
   ·
    try simp only [jcs] at hc22
    refine jsr ?_
    refine jst hσ rfl rfl rfl rfl rfl ?_
    refine jn ?_
    refine AWP.ret ?_
    refine ⟨.inl rfl, _, Ent.refl, _, rfl, ?_⟩
    unfold An.size
    rw [szr_add _ hc16] at hc22
    rw [szr_neg _ hc22]
   ·
    try simp only [jcs] at hc22
    refine AWP.skip ?_
    refine jsr ?_
    iterate 3 refine jst hσ rfl rfl rfl rfl rfl ?_
    rw [szr_add _ hc16] at hc22 ⊢
    have le3 := szr_le hl0 (szs Tm.size a.pre + szs Tm.size a.post + a.code.length)
    refine AOps.lone hσ rfl rfl rfl rfl (c66 (ts := a.pts) h1 h2 hc22 (by omega)) (VAs.self rfl) rfl rfl rfl rfl rfl (B0 := 27000) rfl ?_
    refine jst hσ rfl rfl rfl rfl rfl ?_
    refine jn ?_
    refine AWP.seq ?_
    refine jsr ?_
    iterate 2 refine jst hσ rfl rfl rfl rfl rfl ?_
    refine jn ?_
    refine AWP.cond hσ rfl rfl (fun hc28 => ?_) (fun hc28 => ?_)
    ·
     try simp only [jcs] at hc28
     refine jsr ?_
     refine jst hσ rfl rfl rfl rfl rfl ?_
     refine jn ?_
     refine AWP.ret ?_
     refine ⟨.inl rfl, _, Ent.refl, _, rfl, ?_⟩
     unfold An.size
     rw [szr_add _ hc22] at hc28
     unfold szr at hc28 ⊢
     split at hc28
     ·
      rw [if_pos (by omega)]
     ·
      omega
    ·
     try simp only [jcs] at hc28
     refine AWP.skip ?_
     refine jsr ?_
     iterate 2 refine jst hσ rfl rfl rfl rfl rfl ?_
     refine jn ?_
     refine AWP.ret ?_
     refine ⟨.inl rfl, _, Ent.refl, _, rfl, ?_⟩
     rw [szr_add _ hc22]
     rfl
theorem c122 {L : Nat} (h1 : 4096 ≤ L) (h2 : L ≤ 1073741824) {x : In} : MC Tryz.prog L 73 [.agg (x.cells.map .d)] [] (Rows (.agg [.d (.int .i64 x.op), .d (.int .i64 x.a)]) []) := by
 refine MC.rows ?_
 have hσ := SGok (nt := 11) h1 (Nat.le_trans h2 (by decide))
 refine MC.body hσ Tryz.func73 (by kernel_rfl) rfl rfl (Nat.le_of_ble_eq_true rfl) (fun hF => ?_)
 refine jsr ?_
 refine AOps.heap (HS.box hσ rfl rfl rfl rfl rfl rfl rfl) rfl ?_
 refine jnm ?_
 refine AOps.heap (HS.alloc hσ rfl rfl rfl rfl rfl) rfl ?_
 refine jnm ?_
 refine jns ?_
 refine AOps.heap (HS.alloc hσ rfl rfl rfl rfl rfl) rfl ?_
 refine jnm ?_
 refine jns ?_
 iterate 3 refine jst hσ rfl rfl rfl rfl rfl ?_
 refine AOps.heap (HS.storeBox hσ rfl rfl rfl rfl rfl rfl rfl rfl rfl rfl rfl) rfl ?_
 refine jnm ?_
 refine jns ?_
 iterate 3 refine jst hσ rfl rfl rfl rfl rfl ?_
 refine AOps.heap (HS.storeBox hσ rfl rfl rfl rfl rfl rfl rfl rfl rfl rfl rfl) rfl ?_
 refine jnm ?_
 refine jns ?_
 refine jst hσ rfl rfl rfl rfl rfl ?_
 refine AOps.heap (HS.storeBox hσ rfl rfl rfl rfl rfl rfl rfl rfl rfl rfl rfl) rfl ?_
 refine jnm ?_
 refine jn ?_
 refine AWP.ret ?_
 refine ⟨.inl rfl, _, Ent.refl, _, rfl, [], by decide, rfl, rfl, rfl⟩
theorem c69 {L : Nat} (h1 : 4096 ≤ L) (h2 : L ≤ 1073741824) {ts : List In} : MC Tryz.prog L 42 [.c (.d (insD ts))] [] (Rows (.c (.rs 0 0 ts.length)) [irow ts]) := by
 refine MC.rows ?_
 have hσ := SGok (nt := 23) h1 (Nat.le_trans h2 (by decide))
 refine MC.body hσ Tryz.func42 (by kernel_rfl) rfl rfl (Nat.le_of_ble_eq_true rfl) (fun hF => ?_)
 have hl : ts.length ≤ L := by simpa [As.fact, A.fact, M.fact, D.fact, Ds.fact] using hF.1.1
 refine jsr ?_
 refine jst hσ rfl rfl rfl rfl rfl ?_
 refine jns ?_
 refine jst hσ rfl rfl rfl rfl rfl ?_
 first | refine jle hσ rfl rfl rfl rfl rfl rfl rfl rfl rfl rfl rfl ?_ | refine jst hσ rfl rfl rfl rfl rfl ?_ | refine jvf hσ rfl rfl rfl rfl rfl ?_
 refine AOps.heap (HS.make hσ rfl rfl rfl rfl rfl rfl rfl rfl rfl (by first | omega | (simp at *; omega)) (by first | omega | (simp at *; omega)) (by first | omega | (simp at *; omega)) (by first | omega | (dsimp only; omega) | (simp only [List.length_map, beq_iff_eq, decide_eq_true_eq, decide_eq_false_iff_not, Bool.not_eq_true', Bool.not_eq_false', Bool.not_true, Bool.not_false, Int.not_lt, Int.not_le] at *; omega)) (by first | omega | (simp at *; omega)) rfl rfl rfl) rfl ?_
 refine jst hσ rfl rfl rfl rfl rfl ?_
 refine jn ?_
 refine AWP.seq ?_
 refine jsr ?_
 refine jst hσ rfl rfl rfl rfl rfl ?_
 refine jn ?_
 refine AWP.block ?_
 refine AWP.loopP (X := Nat × List In) (fun x => ⟨[(0, .c (.d (insD ts))), (3, .c (.rs 7 0 ts.length)), (4, eI x.1)], [(7, irow x.2)]⟩) (fun x => x.1 ≤ ts.length ∧ x.2.length = ts.length ∧ ∀ j, j < x.1 → x.2[j]? = ts[j]?) (fun x => ts.length - x.1) (0, List.replicate ts.length ⟨0, 0⟩) ((Ent.rowLe 7 rfl (NLess.replicate (.cons .refl (.cons .refl .nil)))).trans (Ent.to ⟨rfl, rfl, rfl, trivial⟩ (by simp [ins, rowAt, irow]))) ?_ (fun x hi => ?_)
 ·
  exact ⟨Nat.zero_le _, List.length_replicate, fun j hj => absurd hj (Nat.not_lt_zero j)⟩
 refine AWP.seq ?_
 refine jsr ?_
 iterate 2 refine jst hσ rfl rfl rfl rfl rfl ?_
 first | refine jle hσ rfl rfl rfl rfl rfl rfl rfl rfl rfl rfl rfl ?_ | refine jst hσ rfl rfl rfl rfl rfl ?_ | refine jvf hσ rfl rfl rfl rfl rfl ?_
 refine jst hσ rfl rfl rfl rfl rfl ?_
 refine jn ?_
 refine AWP.cond hσ rfl rfl (fun hc11 => ?_) (fun hc11 => ?_)
 ·
  try simp only [jcs] at hc11
  refine AWP.skip ?_
  refine AWP.seq ?_
  refine AWP.block ?_
  refine AWP.region ?_
  iterate 4 refine jst hσ rfl rfl rfl rfl rfl ?_
  first | refine jix hσ rfl rfl rfl rfl rfl rfl rfl rfl rfl rfl rfl ?_ | refine jvf hσ rfl rfl rfl rfl rfl ?_
  refine jst hσ rfl rfl rfl rfl rfl ?_
  refine AOps.rows hσ (B0 := 21000) rfl rfl rfl rfl (c122 h1 h2) (VAs.self rfl) rfl rfl rfl rfl rfl rfl ?_
  first | refine jix hσ rfl rfl rfl rfl rfl rfl rfl rfl rfl rfl rfl ?_ | refine jvf hσ rfl rfl rfl rfl rfl ?_
  refine AOps.heap (HS.storeAbs (ex := In.cells (x.2.getD x.1 default)) (xs' := (x.2.set x.1 (ts.getD x.1 default)).map In.cells) hσ rfl rfl rfl rfl rfl rfl rfl (.d rfl (.d rfl .nil)) rfl rfl rfl rfl rfl rfl (by simp [hi.2.1, show x.1 < ts.length by omega]) (by simp [List.map_set])) rfl ?_
  refine jn ?_
  refine AWP.region ?_
  refine jst hσ rfl rfl rfl rfl rfl ?_
  first | refine jfi hσ rfl rfl rfl rfl rfl ?_ | refine jvf hσ rfl rfl rfl rfl rfl ?_
  refine jst hσ rfl rfl rfl rfl rfl ?_
  refine jn ?_
  refine ⟨(x.1 + 1, x.2.set x.1 (ts.getD x.1 default)), Ent.to ⟨rfl, rfl, rfl, trivial⟩ rfl, ⟨by omega, by simp [hi.2.1], fun j hj => ?_⟩, by omega⟩
  rw [List.getElem?_set]
  split
  ·
   rename_i e; subst e; simp [hi.2.1, show x.1 < ts.length by omega]
  ·
   exact hi.2.2 j (by omega)
 ·
  try simp only [jcs] at hc11
  refine AWP.exit ?_
  refine jsr ?_
  iterate 2 refine jst hσ rfl rfl rfl rfl rfl ?_
  refine jn ?_
  refine AWP.ret ?_
  have e : x.2 = ts := List.ext_getElem? fun j => by
   rcases Nat.lt_or_ge j x.1 with h | h
   ·
    exact hi.2.2 j h
   ·
    rw [List.getElem?_eq_none (by omega), List.getElem?_eq_none (by omega)]
  refine ⟨.inl rfl, _, Ent.refl, _, rfl, [7], by decide, rfl, rfl, ?_⟩
  rw [← e]; rfl
theorem c123 {L : Nat} (h1 : 4096 ≤ L) (h2 : L ≤ 1073741824) {p : Pt} : MC Tryz.prog L 74 [.agg (p.cells.map .d)] [] (Rows (.agg [.d (.int .i64 p.k), .rs 0 0 p.fs.length]) [trow p.fs]) := by
 refine MC.rows ?_
 have hσ := SGok (nt := 12) h1 (Nat.le_trans h2 (by decide))
 refine MC.body hσ Tryz.func74 (by kernel_rfl) rfl rfl (Nat.le_of_ble_eq_true rfl) (fun hF => ?_)
 refine jsr ?_
 refine AOps.heap (HS.box hσ rfl rfl rfl rfl rfl rfl rfl) rfl ?_
 refine jnm ?_
 refine AOps.heap (HS.alloc hσ rfl rfl rfl rfl rfl) rfl ?_
 refine jnm ?_
 refine jns ?_
 refine AOps.heap (HS.alloc hσ rfl rfl rfl rfl rfl) rfl ?_
 refine jnm ?_
 refine jns ?_
 iterate 3 refine jst hσ rfl rfl rfl rfl rfl ?_
 refine AOps.heap (HS.storeBox hσ rfl rfl rfl rfl rfl rfl rfl rfl rfl rfl rfl) rfl ?_
 refine jnm ?_
 refine jns ?_
 iterate 2 refine jst hσ rfl rfl rfl rfl rfl ?_
 refine AOps.rows hσ (B0 := 10000) rfl rfl rfl rfl (c59 h1 h2) (VAs.self rfl) rfl rfl rfl rfl rfl rfl ?_
 refine jnm ?_
 refine jst hσ rfl rfl rfl rfl rfl ?_
 refine AOps.heap (HS.storeBox hσ rfl rfl rfl rfl rfl rfl rfl rfl rfl rfl rfl) rfl ?_
 refine jnm ?_
 refine jns ?_
 refine jst hσ rfl rfl rfl rfl rfl ?_
 refine AOps.heap (HS.storeBox hσ rfl rfl rfl rfl rfl rfl rfl rfl rfl rfl rfl) rfl ?_
 refine jnm ?_
 refine jn ?_
 refine AWP.ret ?_
 refine ⟨.inl rfl, _, Ent.refl, _, rfl, [10000], by decide, rfl, rfl, rfl⟩
theorem c70 {L : Nat} (h1 : 4096 ≤ L) (h2 : L ≤ 1073741824) {ts : List Pt} : MC Tryz.prog L 43 [.c (.d (ptsD ts))] [] (Rows (.c (.rs 0 0 ts.length)) [prow ts]) := by
 refine MC.rows ?_
 have hσ := SGok (nt := 23) h1 (Nat.le_trans h2 (by decide))
 refine MC.body hσ Tryz.func43 (by kernel_rfl) rfl rfl (Nat.le_of_ble_eq_true rfl) (fun hF => ?_)
 have hl : ts.length ≤ L := by simpa [As.fact, A.fact, M.fact, D.fact, Ds.fact] using hF.1.1
 refine jsr ?_
 refine jst hσ rfl rfl rfl rfl rfl ?_
 refine jns ?_
 refine jst hσ rfl rfl rfl rfl rfl ?_
 first | refine jle hσ rfl rfl rfl rfl rfl rfl rfl rfl rfl rfl rfl ?_ | refine jst hσ rfl rfl rfl rfl rfl ?_ | refine jvf hσ rfl rfl rfl rfl rfl ?_
 refine AOps.heap (HS.make hσ rfl rfl rfl rfl rfl rfl rfl rfl rfl (by first | omega | (simp at *; omega)) (by first | omega | (simp at *; omega)) (by first | omega | (simp at *; omega)) (by first | omega | (dsimp only; omega) | (simp only [List.length_map, beq_iff_eq, decide_eq_true_eq, decide_eq_false_iff_not, Bool.not_eq_true', Bool.not_eq_false', Bool.not_true, Bool.not_false, Int.not_lt, Int.not_le] at *; omega)) (by first | omega | (simp at *; omega)) rfl rfl rfl) rfl ?_
 refine jst hσ rfl rfl rfl rfl rfl ?_
 refine jn ?_
 refine AWP.seq ?_
 refine jsr ?_
 refine jst hσ rfl rfl rfl rfl rfl ?_
 refine jn ?_
 refine AWP.block ?_
 refine AWP.loopP (X := Nat × List Pt) (fun x => ⟨[(0, .c (.d (ptsD ts))), (3, .c (.rs 7 0 ts.length)), (4, eI x.1)], [(7, prow x.2)]⟩) (fun x => x.1 ≤ ts.length ∧ x.2.length = ts.length ∧ ∀ j, j < x.1 → x.2[j]? = ts[j]?) (fun x => ts.length - x.1) (0, List.replicate ts.length ⟨0, []⟩) ((Ent.rowLe 7 rfl (NLess.replicate (.cons .refl (.cons (.nil (sz := 2)) .nil)))).trans (Ent.to ⟨rfl, rfl, rfl, trivial⟩ (by simp [ins, rowAt, prow]))) ?_ (fun x hi => ?_)
 ·
  exact ⟨Nat.zero_le _, List.length_replicate, fun j hj => absurd hj (Nat.not_lt_zero j)⟩
 refine AWP.seq ?_
 refine jsr ?_
 iterate 2 refine jst hσ rfl rfl rfl rfl rfl ?_
 first | refine jle hσ rfl rfl rfl rfl rfl rfl rfl rfl rfl rfl rfl ?_ | refine jst hσ rfl rfl rfl rfl rfl ?_ | refine jvf hσ rfl rfl rfl rfl rfl ?_
 refine jst hσ rfl rfl rfl rfl rfl ?_
 refine jn ?_
 refine AWP.cond hσ rfl rfl (fun hc11 => ?_) (fun hc11 => ?_)
 ·
  try simp only [jcs] at hc11
  refine AWP.skip ?_
  refine AWP.seq ?_
  refine AWP.block ?_
  refine AWP.region ?_
  iterate 4 refine jst hσ rfl rfl rfl rfl rfl ?_
  first | refine jix hσ rfl rfl rfl rfl rfl rfl rfl rfl rfl rfl rfl ?_ | refine jvf hσ rfl rfl rfl rfl rfl ?_
  refine jst hσ rfl rfl rfl rfl rfl ?_
  refine AOps.rows hσ (B0 := 21000) rfl rfl rfl rfl (c123 h1 h2) (VAs.self rfl) rfl rfl rfl rfl rfl rfl ?_
  first | refine jix hσ rfl rfl rfl rfl rfl rfl rfl rfl rfl rfl rfl ?_ | refine jvf hσ rfl rfl rfl rfl rfl ?_
  refine AOps.heap (HS.storeAbs (ex := Pt.cells (x.2.getD x.1 default)) (xs' := (x.2.set x.1 (ts.getD x.1 default)).map Pt.cells) hσ rfl rfl rfl rfl rfl rfl rfl (.d rfl (.rs rfl (by simp) .nil)) rfl rfl rfl rfl rfl rfl (by simp [hi.2.1, show x.1 < ts.length by omega]) (by simp [List.map_set])) rfl ?_
  refine jn ?_
  refine AWP.region ?_
  refine jst hσ rfl rfl rfl rfl rfl ?_
  first | refine jfi hσ rfl rfl rfl rfl rfl ?_ | refine jvf hσ rfl rfl rfl rfl rfl ?_
  refine jst hσ rfl rfl rfl rfl rfl ?_
  refine jn ?_
  refine ⟨(x.1 + 1, x.2.set x.1 (ts.getD x.1 default)), Ent.to ⟨rfl, rfl, rfl, trivial⟩ rfl, ⟨by omega, by simp [hi.2.1], fun j hj => ?_⟩, by omega⟩
  rw [List.getElem?_set]
  split
  ·
   rename_i e; subst e; simp [hi.2.1, show x.1 < ts.length by omega]
  ·
   exact hi.2.2 j (by omega)
 ·
  try simp only [jcs] at hc11
  refine AWP.exit ?_
  refine jsr ?_
  iterate 2 refine jst hσ rfl rfl rfl rfl rfl ?_
  refine jn ?_
  refine AWP.ret ?_
  have e : x.2 = ts := List.ext_getElem? fun j => by
   rcases Nat.lt_or_ge j x.1 with h | h
   ·
    exact hi.2.2 j h
   ·
    rw [List.getElem?_eq_none (by omega), List.getElem?_eq_none (by omega)]
  refine ⟨.inl rfl, _, Ent.refl, _, rfl, [7], by decide, rfl, rfl, ?_⟩
  rw [← e]; rfl
theorem c24 {L : Nat} (h1 : 4096 ≤ L) (h2 : L ≤ 1073741824) {a : An} : MC Tryz.prog L 16 [aAn a] [] (Rows (.agg [.rs 0 0 a.pre.length, .rs 1 0 a.post.length, .rs 2 0 a.code.length, .rs 3 0 a.pts.length]) [trow a.pre, trow a.post, irow a.code, prow a.pts]) := by
 refine MC.rows ?_
 have hσ := SGok (nt := 21) h1 (Nat.le_trans h2 (by decide))
 refine MC.body hσ Tryz.func16 (by kernel_rfl) rfl rfl (Nat.le_of_ble_eq_true rfl) (fun hF => ?_)
 refine jsr ?_
 refine AOps.heap (HS.box hσ rfl rfl rfl rfl rfl rfl rfl) rfl ?_
 refine jnm ?_
 refine AOps.heap (HS.alloc hσ rfl rfl rfl rfl rfl) rfl ?_
 refine jnm ?_
 refine jns ?_
 refine AOps.heap (HS.alloc hσ rfl rfl rfl rfl rfl) rfl ?_
 refine jnm ?_
 refine jns ?_
 iterate 2 refine jst hσ rfl rfl rfl rfl rfl ?_
 refine AOps.rows hσ (B0 := 7000) rfl rfl rfl rfl (c59 h1 h2) (VAs.self rfl) rfl rfl rfl rfl rfl rfl ?_
 refine jnm ?_
 refine jst hσ rfl rfl rfl rfl rfl ?_
 refine AOps.heap (HS.storeBox hσ rfl rfl rfl rfl rfl rfl rfl rfl rfl rfl rfl) rfl ?_
 refine jnm ?_
 refine jns ?_
 iterate 2 refine jst hσ rfl rfl rfl rfl rfl ?_
 refine AOps.rows hσ (B0 := 11000) rfl rfl rfl rfl (c59 h1 h2) (VAs.self rfl) rfl rfl rfl rfl rfl rfl ?_
 refine jnm ?_
 refine jst hσ rfl rfl rfl rfl rfl ?_
 refine AOps.heap (HS.storeBox hσ rfl rfl rfl rfl rfl rfl rfl rfl rfl rfl rfl) rfl ?_
 refine jnm ?_
 refine jns ?_
 iterate 2 refine jst hσ rfl rfl rfl rfl rfl ?_
 refine AOps.rows hσ (B0 := 15000) rfl rfl rfl rfl (c69 h1 h2) (VAs.self rfl) rfl rfl rfl rfl rfl rfl ?_
 refine jnm ?_
 refine jst hσ rfl rfl rfl rfl rfl ?_
 refine AOps.heap (HS.storeBox hσ rfl rfl rfl rfl rfl rfl rfl rfl rfl rfl rfl) rfl ?_
 refine jnm ?_
 refine jns ?_
 iterate 2 refine jst hσ rfl rfl rfl rfl rfl ?_
 refine AOps.rows hσ (B0 := 19000) rfl rfl rfl rfl (c70 h1 h2) (VAs.self rfl) rfl rfl rfl rfl rfl rfl ?_
 refine jnm ?_
 refine jst hσ rfl rfl rfl rfl rfl ?_
 refine AOps.heap (HS.storeBox hσ rfl rfl rfl rfl rfl rfl rfl rfl rfl rfl rfl) rfl ?_
 refine jnm ?_
 refine jns ?_
 refine jst hσ rfl rfl rfl rfl rfl ?_
 refine AOps.heap (HS.storeBox hσ rfl rfl rfl rfl rfl rfl rfl rfl rfl rfl rfl) rfl ?_
 refine jnm ?_
 refine jn ?_
 refine AWP.ret ?_
 refine ⟨.inl rfl, _, Ent.refl, _, rfl, [7000, 11000, 15000, 19000], by decide, rfl, rfl, rfl⟩
theorem c24d {L : Nat} (h1 : 4096 ≤ L) (h2 : L ≤ 1073741824) {a : An} : MC Tryz.prog L 16 [aAn a] [] (Plain (aAn a)) := (c24 h1 h2).frozen (.v (.agg (.cons (.whole rfl (List.length_map _).symm) (.cons (.whole rfl (List.length_map _).symm) (.cons (.whole rfl (List.length_map _).symm) (.cons (.whole rfl (List.length_map _).symm) .nil))))))
theorem c133 {L : Nat} (h1 : 4096 ≤ L) (h2 : L ≤ 1073741824) {s t : In} : MC Tryz.prog L 64 [.agg (s.cells.map .d), .agg (t.cells.map .d)] [] (Plain (eB (decide (s = t)))) := by
 refine MC.alone ?_ rfl
 have hσ := SGok (nt := 15) h1 (Nat.le_trans h2 (by decide))
 refine MC.body hσ Tryz.func64 (by kernel_rfl) rfl rfl (Nat.le_of_ble_eq_true rfl) (fun hF => ?_)
 refine jsr ?_
 refine AOps.heap (HS.box hσ rfl rfl rfl rfl rfl rfl rfl) rfl ?_
 refine AOps.heap (HS.box hσ rfl rfl rfl rfl rfl rfl rfl) rfl ?_
 refine jst hσ rfl rfl rfl rfl rfl ?_
 refine jn ?_
 refine AWP.seq ?_
 refine jsr ?_
 iterate 5 refine jst hσ rfl rfl rfl rfl rfl ?_
 refine jn ?_
 refine AWP.cond hσ rfl rfl (fun hc9 => ?_) (fun hc9 => ?_)
 ·
  try simp only [jcs] at hc9
  refine jsr ?_
  refine jst hσ rfl rfl rfl rfl rfl ?_
  refine jn ?_
  refine AWP.ret ?_
  refine ⟨.inl rfl, _, Ent.refl, _, rfl, ?_⟩
  rw [decide_eq_false (fun e => hc9 (by rw [e]))]
 ·
  try simp only [jcs] at hc9
  refine AWP.skip ?_
  refine AWP.seq ?_
  refine jsr ?_
  iterate 5 refine jst hσ rfl rfl rfl rfl rfl ?_
  refine jn ?_
  refine AWP.cond hσ rfl rfl (fun hc14 => ?_) (fun hc14 => ?_)
  ·
   try simp only [jcs] at hc14
   refine jsr ?_
   refine jst hσ rfl rfl rfl rfl rfl ?_
   refine jn ?_
   refine AWP.ret ?_
   refine ⟨.inl rfl, _, Ent.refl, _, rfl, ?_⟩
   rw [decide_eq_false (fun e => hc14 (by rw [e]))]
  ·
   try simp only [jcs] at hc14
   refine AWP.skip ?_
   refine jsr ?_
   refine jst hσ rfl rfl rfl rfl rfl ?_
   refine jn ?_
   refine AWP.ret ?_
   refine ⟨.inl rfl, _, Ent.refl, _, rfl, ?_⟩
   have e : s = t := by cases s; cases t; simp_all
   rw [decide_eq_true e]
theorem c74 {L : Nat} (h1 : 4096 ≤ L) (h2 : L ≤ 1073741824) {xs ys : List In} : MC Tryz.prog L 29 [.c (.d (insD xs)), .c (.d (insD ys))] [] (Plain (eB (decide (xs = ys)))) := by
 refine MC.alone ?_ rfl
 have hσ := SGok (nt := 27) h1 (Nat.le_trans h2 (by decide))
 refine MC.body hσ Tryz.func29 (by kernel_rfl) rfl rfl (Nat.le_of_ble_eq_true rfl) (fun hF => ?_)
 have hl : xs.length ≤ L := by simpa [As.fact, A.fact, M.fact, D.fact, Ds.fact] using hF.1.1
 have hl2 : ys.length ≤ L := by simpa [As.fact, A.fact, M.fact, D.fact, Ds.fact] using hF.2.1.1
 refine jsr ?_
 refine jst hσ rfl rfl rfl rfl rfl ?_
 refine jn ?_
 refine AWP.seq ?_
 refine jsr ?_
 refine jst hσ rfl rfl rfl rfl rfl ?_
 first | refine jle hσ rfl rfl rfl rfl rfl rfl rfl rfl rfl rfl rfl ?_ | refine jst hσ rfl rfl rfl rfl rfl ?_ | refine jvf hσ rfl rfl rfl rfl rfl ?_
 refine jst hσ rfl rfl rfl rfl rfl ?_
 first | refine jle hσ rfl rfl rfl rfl rfl rfl rfl rfl rfl rfl rfl ?_ | refine jst hσ rfl rfl rfl rfl rfl ?_ | refine jvf hσ rfl rfl rfl rfl rfl ?_
 refine jst hσ rfl rfl rfl rfl rfl ?_
 refine jn ?_
 refine AWP.cond hσ rfl rfl (fun hc10 => ?_) (fun hc10 => ?_)
 ·
  try simp only [jcs] at hc10
  refine jsr ?_
  refine jst hσ rfl rfl rfl rfl rfl ?_
  refine jn ?_
  refine AWP.ret ?_
  refine ⟨.inl rfl, _, Ent.refl, _, rfl, ?_⟩
  rw [decide_eq_false (fun e => by subst e; simp at hc10)]
 ·
  try simp only [jcs] at hc10
  refine AWP.skip ?_
  refine AWP.seq ?_
  refine jsr ?_
  refine jst hσ rfl rfl rfl rfl rfl ?_
  refine jn ?_
  refine AWP.block ?_
  refine AWP.loopP (X := Nat) (fun i => ⟨[(0, .c (.d (insD xs))), (1, .c (.d (insD ys))), (5, eI i)], []⟩) (fun i => i ≤ xs.length ∧ ∀ j, j < i → xs[j]? = ys[j]?) (fun i => xs.length - i) 0 (Ent.env ⟨rfl, rfl, rfl, trivial⟩) ?_ (fun i hi => ?_)
  ·
   exact ⟨Nat.zero_le _, fun j hj => absurd hj (Nat.not_lt_zero j)⟩
  refine AWP.seq ?_
  refine jsr ?_
  iterate 2 refine jst hσ rfl rfl rfl rfl rfl ?_
  first | refine jle hσ rfl rfl rfl rfl rfl rfl rfl rfl rfl rfl rfl ?_ | refine jst hσ rfl rfl rfl rfl rfl ?_ | refine jvf hσ rfl rfl rfl rfl rfl ?_
  refine jst hσ rfl rfl rfl rfl rfl ?_
  refine jn ?_
  refine AWP.cond hσ rfl rfl (fun hc14 => ?_) (fun hc14 => ?_)
  ·
   try simp only [jcs] at hc14
   refine AWP.skip ?_
   refine AWP.seq ?_
   refine AWP.block ?_
   refine AWP.seq ?_
   refine AWP.drawR hσ _ [_, _, _, _, _, _, _, _, _, _] [⟨[], 0, 0, none⟩, ⟨[], 0, 0, none⟩, ⟨[0, 1], 0, 0, none⟩, ⟨[0, 1, 2], 0, 0, none⟩, ⟨[], 0, 0, none⟩, ⟨[], 0, 0, none⟩, ⟨[4, 5], 0, 0, none⟩, ⟨[4, 5, 6], 0, 0, none⟩, ⟨[0, 1, 2, 3, 4, 5, 6, 7], 0, 0, some 0⟩, ⟨[0, 1, 2, 3, 4, 5, 6, 7, 8], 1, 1, none⟩] [8] [_, _] rfl rfl (by decide) (by decide) (by kernel_rfl) (And.intro (Val.of hσ rfl rfl) (And.intro (Val.of hσ rfl rfl) (And.intro (Val.indexD hσ rfl rfl rfl rfl rfl rfl rfl rfl (by first | omega | (simp at *; omega)) (idx_get (by first | omega | (simp at *; omega)) (by first | omega | (simp at *; omega)))) (And.intro (Val.of hσ rfl rfl) (And.intro (Val.of hσ rfl rfl) (And.intro (Val.of hσ rfl rfl) (And.intro (Val.indexD hσ rfl rfl rfl rfl rfl rfl rfl rfl (by first | omega | (simp at *; omega)) (idx_get (by first | omega | (simp at *; omega)) (by first | omega | (simp at *; omega)))) (And.intro (Val.of hσ rfl rfl) (And.intro (Eff.lone hσ (B0 := 26000) rfl rfl rfl rfl (c133 h1 h2) (VAs.self rfl) rfl rfl rfl rfl rfl) (And.intro (Val.of hσ rfl rfl) trivial)))))))))) ?_
   refine AWP.cond hσ rfl rfl (fun hc26 => ?_) (fun hc26 => ?_)
   ·
    try simp only [jcs] at hc26
    refine jsr ?_
    refine jst hσ rfl rfl rfl rfl rfl ?_
    refine jn ?_
    refine AWP.ret ?_
    refine ⟨.inl rfl, _, Ent.refl, _, rfl, ?_⟩
    rw [decide_eq_false (fun e => by subst e; simp at hc26)]
   ·
    try simp only [jcs] at hc26
    refine AWP.skip ?_
    refine AWP.region ?_
    refine jst hσ rfl rfl rfl rfl rfl ?_
    first | refine jfi hσ rfl rfl rfl rfl rfl ?_ | refine jvf hσ rfl rfl rfl rfl rfl ?_
    refine jst hσ rfl rfl rfl rfl rfl ?_
    refine jn ?_
    refine ⟨i + 1, Ent.env ⟨rfl, rfl, rfl, trivial⟩, ⟨by omega, fun j hj => ?_⟩, by omega⟩
    rcases Nat.lt_or_ge j i with h | h
    ·
     exact hi.2 j h
    ·
     obtain rfl : j = i := by omega
     rw [Int.toNat_natCast, getD_lt (by omega), getD_lt (by omega)] at hc26
     rw [List.getElem?_eq_getElem (by omega), List.getElem?_eq_getElem (by omega), hc26]
  ·
   try simp only [jcs] at hc14
   refine AWP.exit ?_
   refine jsr ?_
   refine jst hσ rfl rfl rfl rfl rfl ?_
   refine jn ?_
   refine AWP.ret ?_
   refine ⟨.inl rfl, _, Ent.refl, _, rfl, ?_⟩
   have e : xs = ys := List.ext_getElem? fun j => by
    rcases Nat.lt_or_ge j i with h | h
    ·
     exact hi.2 j h
    ·
     rw [List.getElem?_eq_none (by omega), List.getElem?_eq_none (by omega)]
   rw [decide_eq_true e]
theorem c134 {L : Nat} (h1 : 4096 ≤ L) (h2 : L ≤ 1073741824) {s t : Pt} : MC Tryz.prog L 65 [.agg (s.cells.map .d), .agg (t.cells.map .d)] [] (Plain (eB (decide (s = t)))) := by
 refine MC.alone ?_ rfl
 have hσ := SGok (nt := 16) h1 (Nat.le_trans h2 (by decide))
 refine MC.body hσ Tryz.func65 (by kernel_rfl) rfl rfl (Nat.le_of_ble_eq_true rfl) (fun hF => ?_)
 refine jsr ?_
 refine AOps.heap (HS.box hσ rfl rfl rfl rfl rfl rfl rfl) rfl ?_
 refine AOps.heap (HS.box hσ rfl rfl rfl rfl rfl rfl rfl) rfl ?_
 refine jst hσ rfl rfl rfl rfl rfl ?_
 refine jn ?_
 refine AWP.seq ?_
 refine jsr ?_
 iterate 5 refine jst hσ rfl rfl rfl rfl rfl ?_
 refine jn ?_
 refine AWP.cond hσ rfl rfl (fun hc9 => ?_) (fun hc9 => ?_)
 ·
  try simp only [jcs] at hc9
  refine jsr ?_
  refine jst hσ rfl rfl rfl rfl rfl ?_
  refine jn ?_
  refine AWP.ret ?_
  refine ⟨.inl rfl, _, Ent.refl, _, rfl, ?_⟩
  rw [decide_eq_false (fun e => hc9 (by rw [e]))]
 ·
  try simp only [jcs] at hc9
  refine AWP.skip ?_
  refine AWP.seq ?_
  refine jsr ?_
  iterate 4 refine jst hσ rfl rfl rfl rfl rfl ?_
  refine AOps.lone hσ rfl rfl rfl rfl (c35 h1 h2) (VAs.self rfl) rfl rfl rfl rfl rfl (B0 := 15000) rfl ?_
  refine jst hσ rfl rfl rfl rfl rfl ?_
  refine jn ?_
  refine AWP.cond hσ rfl rfl (fun hc15 => ?_) (fun hc15 => ?_)
  ·
   try simp only [jcs] at hc15
   refine jsr ?_
   refine jst hσ rfl rfl rfl rfl rfl ?_
   refine jn ?_
   refine AWP.ret ?_
   refine ⟨.inl rfl, _, Ent.refl, _, rfl, ?_⟩
   rw [decide_eq_false (fun e => hc15 (by rw [e]))]
  ·
   try simp only [jcs] at hc15
   refine AWP.skip ?_
   refine jsr ?_
   refine jst hσ rfl rfl rfl rfl rfl ?_
   refine jn ?_
   refine AWP.ret ?_
   refine ⟨.inl rfl, _, Ent.refl, _, rfl, ?_⟩
   have e : s = t := by cases s; cases t; simp_all
   rw [decide_eq_true e]
theorem c75 {L : Nat} (h1 : 4096 ≤ L) (h2 : L ≤ 1073741824) {xs ys : List Pt} : MC Tryz.prog L 30 [.c (.d (ptsD xs)), .c (.d (ptsD ys))] [] (Plain (eB (decide (xs = ys)))) := by
 refine MC.alone ?_ rfl
 have hσ := SGok (nt := 27) h1 (Nat.le_trans h2 (by decide))
 refine MC.body hσ Tryz.func30 (by kernel_rfl) rfl rfl (Nat.le_of_ble_eq_true rfl) (fun hF => ?_)
 have hl : xs.length ≤ L := by simpa [As.fact, A.fact, M.fact, D.fact, Ds.fact] using hF.1.1
 have hl2 : ys.length ≤ L := by simpa [As.fact, A.fact, M.fact, D.fact, Ds.fact] using hF.2.1.1
 refine jsr ?_
 refine jst hσ rfl rfl rfl rfl rfl ?_
 refine jn ?_
 refine AWP.seq ?_
 refine jsr ?_
 refine jst hσ rfl rfl rfl rfl rfl ?_
 first | refine jle hσ rfl rfl rfl rfl rfl rfl rfl rfl rfl rfl rfl ?_ | refine jst hσ rfl rfl rfl rfl rfl ?_ | refine jvf hσ rfl rfl rfl rfl rfl ?_
 refine jst hσ rfl rfl rfl rfl rfl ?_
 first | refine jle hσ rfl rfl rfl rfl rfl rfl rfl rfl rfl rfl rfl ?_ | refine jst hσ rfl rfl rfl rfl rfl ?_ | refine jvf hσ rfl rfl rfl rfl rfl ?_
 refine jst hσ rfl rfl rfl rfl rfl ?_
 refine jn ?_
 refine AWP.cond hσ rfl rfl (fun hc10 => ?_) (fun hc10 => ?_)
 ·
  try simp only [jcs] at hc10
  refine jsr ?_
  refine jst hσ rfl rfl rfl rfl rfl ?_
  refine jn ?_
  refine AWP.ret ?_
  refine ⟨.inl rfl, _, Ent.refl, _, rfl, ?_⟩
  rw [decide_eq_false (fun e => by subst e; simp at hc10)]
 ·
  try simp only [jcs] at hc10
  refine AWP.skip ?_
  refine AWP.seq ?_
  refine jsr ?_
  refine jst hσ rfl rfl rfl rfl rfl ?_
  refine jn ?_
  refine AWP.block ?_
  refine AWP.loopP (X := Nat) (fun i => ⟨[(0, .c (.d (ptsD xs))), (1, .c (.d (ptsD ys))), (5, eI i)], []⟩) (fun i => i ≤ xs.length ∧ ∀ j, j < i → xs[j]? = ys[j]?) (fun i => xs.length - i) 0 (Ent.env ⟨rfl, rfl, rfl, trivial⟩) ?_ (fun i hi => ?_)
  ·
   exact ⟨Nat.zero_le _, fun j hj => absurd hj (Nat.not_lt_zero j)⟩
  refine AWP.seq ?_
  refine jsr ?_
  iterate 2 refine jst hσ rfl rfl rfl rfl rfl ?_
  first | refine jle hσ rfl rfl rfl rfl rfl rfl rfl rfl rfl rfl rfl ?_ | refine jst hσ rfl rfl rfl rfl rfl ?_ | refine jvf hσ rfl rfl rfl rfl rfl ?_
  refine jst hσ rfl rfl rfl rfl rfl ?_
  refine jn ?_
  refine AWP.cond hσ rfl rfl (fun hc14 => ?_) (fun hc14 => ?_)
  ·
   try simp only [jcs] at hc14
   refine AWP.skip ?_
   refine AWP.seq ?_
   refine AWP.block ?_
   refine AWP.seq ?_
   refine AWP.drawR hσ _ [_, _, _, _, _, _, _, _, _, _] [⟨[], 0, 0, none⟩, ⟨[], 0, 0, none⟩, ⟨[0, 1], 0, 0, none⟩, ⟨[0, 1, 2], 0, 0, none⟩, ⟨[], 0, 0, none⟩, ⟨[], 0, 0, none⟩, ⟨[4, 5], 0, 0, none⟩, ⟨[4, 5, 6], 0, 0, none⟩, ⟨[0, 1, 2, 3, 4, 5, 6, 7], 0, 0, some 0⟩, ⟨[0, 1, 2, 3, 4, 5, 6, 7, 8], 1, 1, none⟩] [8] [_, _] rfl rfl (by decide) (by decide) (by kernel_rfl) (And.intro (Val.of hσ rfl rfl) (And.intro (Val.of hσ rfl rfl) (And.intro (Val.indexD hσ rfl rfl rfl rfl rfl rfl rfl rfl (by first | omega | (simp at *; omega)) (idx_get (by first | omega | (simp at *; omega)) (by first | omega | (simp at *; omega)))) (And.intro (Val.of hσ rfl rfl) (And.intro (Val.of hσ rfl rfl) (And.intro (Val.of hσ rfl rfl) (And.intro (Val.indexD hσ rfl rfl rfl rfl rfl rfl rfl rfl (by first | omega | (simp at *; omega)) (idx_get (by first | omega | (simp at *; omega)) (by first | omega | (simp at *; omega)))) (And.intro (Val.of hσ rfl rfl) (And.intro (Eff.lone hσ (B0 := 26000) rfl rfl rfl rfl (c134 h1 h2) (VAs.self rfl) rfl rfl rfl rfl rfl) (And.intro (Val.of hσ rfl rfl) trivial)))))))))) ?_
   refine AWP.cond hσ rfl rfl (fun hc26 => ?_) (fun hc26 => ?_)
   ·
    try simp only [jcs] at hc26
    refine jsr ?_
    refine jst hσ rfl rfl rfl rfl rfl ?_
    refine jn ?_
    refine AWP.ret ?_
    refine ⟨.inl rfl, _, Ent.refl, _, rfl, ?_⟩
    rw [decide_eq_false (fun e => by subst e; simp at hc26)]
   ·
    try simp only [jcs] at hc26
    refine AWP.skip ?_
    refine AWP.region ?_
    refine jst hσ rfl rfl rfl rfl rfl ?_
    first | refine jfi hσ rfl rfl rfl rfl rfl ?_ | refine jvf hσ rfl rfl rfl rfl rfl ?_
    refine jst hσ rfl rfl rfl rfl rfl ?_
    refine jn ?_
    refine ⟨i + 1, Ent.env ⟨rfl, rfl, rfl, trivial⟩, ⟨by omega, fun j hj => ?_⟩, by omega⟩
    rcases Nat.lt_or_ge j i with h | h
    ·
     exact hi.2 j h
    ·
     obtain rfl : j = i := by omega
     rw [Int.toNat_natCast, getD_lt (by omega), getD_lt (by omega)] at hc26
     rw [List.getElem?_eq_getElem (by omega), List.getElem?_eq_getElem (by omega), hc26]
  ·
   try simp only [jcs] at hc14
   refine AWP.exit ?_
   refine jsr ?_
   refine jst hσ rfl rfl rfl rfl rfl ?_
   refine jn ?_
   refine AWP.ret ?_
   refine ⟨.inl rfl, _, Ent.refl, _, rfl, ?_⟩
   have e : xs = ys := List.ext_getElem? fun j => by
    rcases Nat.lt_or_ge j i with h | h
    ·
     exact hi.2 j h
    ·
     rw [List.getElem?_eq_none (by omega), List.getElem?_eq_none (by omega)]
   rw [decide_eq_true e]
theorem c26 {L : Nat} (h1 : 4096 ≤ L) (h2 : L ≤ 1073741824) {s t : An} : MC Tryz.prog L 9 [aAn s, aAn t] [] (Plain (eB (decide (s = t)))) := by
 refine MC.alone ?_ rfl
 have hσ := SGok (nt := 29) h1 (Nat.le_trans h2 (by decide))
 refine MC.body hσ Tryz.func9 (by kernel_rfl) rfl rfl (Nat.le_of_ble_eq_true rfl) (fun hF => ?_)
 refine jsr ?_
 refine AOps.heap (HS.box hσ rfl rfl rfl rfl rfl rfl rfl) rfl ?_
 refine AOps.heap (HS.box hσ rfl rfl rfl rfl rfl rfl rfl) rfl ?_
 refine jst hσ rfl rfl rfl rfl rfl ?_
 refine jn ?_
 refine AWP.seq ?_
 refine jsr ?_
 iterate 4 refine jst hσ rfl rfl rfl rfl rfl ?_
 refine AOps.lone hσ rfl rfl rfl rfl (c35 h1 h2) (VAs.self rfl) rfl rfl rfl rfl rfl (B0 := 10000) rfl ?_
 refine jst hσ rfl rfl rfl rfl rfl ?_
 refine jn ?_
 refine AWP.cond hσ rfl rfl (fun hc10 => ?_) (fun hc10 => ?_)
 ·
  try simp only [jcs] at hc10
  refine jsr ?_
  refine jst hσ rfl rfl rfl rfl rfl ?_
  refine jn ?_
  refine AWP.ret ?_
  refine ⟨.inl rfl, _, Ent.refl, _, rfl, ?_⟩
  rw [decide_eq_false (fun e => hc10 (by rw [e]))]
 ·
  try simp only [jcs] at hc10
  refine AWP.skip ?_
  refine AWP.seq ?_
  refine jsr ?_
  iterate 4 refine jst hσ rfl rfl rfl rfl rfl ?_
  refine AOps.lone hσ rfl rfl rfl rfl (c35 h1 h2) (VAs.self rfl) rfl rfl rfl rfl rfl (B0 := 16000) rfl ?_
  refine jst hσ rfl rfl rfl rfl rfl ?_
  refine jn ?_
  refine AWP.cond hσ rfl rfl (fun hc16 => ?_) (fun hc16 => ?_)
  ·
   try simp only [jcs] at hc16
   refine jsr ?_
   refine jst hσ rfl rfl rfl rfl rfl ?_
   refine jn ?_
   refine AWP.ret ?_
   refine ⟨.inl rfl, _, Ent.refl, _, rfl, ?_⟩
   rw [decide_eq_false (fun e => hc16 (by rw [e]))]
  ·
   try simp only [jcs] at hc16
   refine AWP.skip ?_
   refine AWP.seq ?_
   refine jsr ?_
   iterate 4 refine jst hσ rfl rfl rfl rfl rfl ?_
   refine AOps.lone hσ rfl rfl rfl rfl (c74 h1 h2) (VAs.self rfl) rfl rfl rfl rfl rfl (B0 := 22000) rfl ?_
   refine jst hσ rfl rfl rfl rfl rfl ?_
   refine jn ?_
   refine AWP.cond hσ rfl rfl (fun hc22 => ?_) (fun hc22 => ?_)
   ·
    try simp only [jcs] at hc22
    refine jsr ?_
    refine jst hσ rfl rfl rfl rfl rfl ?_
    refine jn ?_
    refine AWP.ret ?_
    refine ⟨.inl rfl, _, Ent.refl, _, rfl, ?_⟩
    rw [decide_eq_false (fun e => hc22 (by rw [e]))]
   ·
    try simp only [jcs] at hc22
    refine AWP.skip ?_
    refine AWP.seq ?_
    refine jsr ?_
    iterate 4 refine jst hσ rfl rfl rfl rfl rfl ?_
    refine AOps.lone hσ rfl rfl rfl rfl (c75 h1 h2) (VAs.self rfl) rfl rfl rfl rfl rfl (B0 := 28000) rfl ?_
    refine jst hσ rfl rfl rfl rfl rfl ?_
    refine jn ?_
    refine AWP.cond hσ rfl rfl (fun hc28 => ?_) (fun hc28 => ?_)
    ·
     try simp only [jcs] at hc28
     refine jsr ?_
     refine jst hσ rfl rfl rfl rfl rfl ?_
     refine jn ?_
     refine AWP.ret ?_
     refine ⟨.inl rfl, _, Ent.refl, _, rfl, ?_⟩
     rw [decide_eq_false (fun e => hc28 (by rw [e]))]
    ·
     try simp only [jcs] at hc28
     refine AWP.skip ?_
     refine jsr ?_
     refine jst hσ rfl rfl rfl rfl rfl ?_
     refine jn ?_
     refine AWP.ret ?_
     refine ⟨.inl rfl, _, Ent.refl, _, rfl, ?_⟩
     have e : s = t := by cases s; cases t; simp_all
     rw [decide_eq_true e]
theorem c76n {L : Nat} (h1 : 4096 ≤ L) (h2 : L ≤ 1073741824) {k : Int} : MC Tryz.prog L 34 [.c (.d (insD [])), eI k] [] (Plain (eI k)) := by
 refine MC.alone ?_ rfl
 have hσ := SGok (nt := 27) h1 (Nat.le_trans h2 (by decide))
 refine MC.body hσ Tryz.func34 (by kernel_rfl) rfl rfl (Nat.le_of_ble_eq_true rfl) (fun hF => ?_)
 refine jsr ?_
 refine jst hσ rfl rfl rfl rfl rfl ?_
 refine jn ?_
 refine AWP.seq ?_
 refine jsr ?_
 refine jst hσ rfl rfl rfl rfl rfl ?_
 refine jn ?_
 refine AWP.block ?_
 refine AWP.loopP (X := Nat) (fun i => ⟨[(0, .c (.d (insD []))), (1, eI k), (5, eI 0)], []⟩) (fun i => True) (fun i => 0) 0 (Ent.env ⟨rfl, rfl, rfl, trivial⟩) ?_ (fun i hi => ?_)
 ·
  trivial
 refine AWP.seq ?_
 refine jsr ?_
 iterate 2 refine jst hσ rfl rfl rfl rfl rfl ?_
 first | refine jle hσ rfl rfl rfl rfl rfl rfl rfl rfl rfl rfl rfl ?_ | refine jst hσ rfl rfl rfl rfl rfl ?_ | refine jvf hσ rfl rfl rfl rfl rfl ?_
 refine jst hσ rfl rfl rfl rfl rfl ?_
 refine jn ?_
 refine AWP.cond hσ rfl rfl (fun hc9 => ?_) (fun hc9 => ?_)
 ·
  try simp only [jcs] at hc9
  exact absurd hc9 (by simp)
 ·
  try simp only [jcs] at hc9
  refine AWP.exit ?_
  refine jsr ?_
  iterate 2 refine jst hσ rfl rfl rfl rfl rfl ?_
  refine jn ?_
  refine AWP.ret ?_
  refine ⟨.inl rfl, _, Ent.refl, _, rfl, ?_⟩
  first | rfl | skip
theorem c77n {L : Nat} (h1 : 4096 ≤ L) (h2 : L ≤ 1073741824) {k : Int} : MC Tryz.prog L 35 [.c (.d (ptsD [])), eI k] [] (Plain (eI k)) := by
 refine MC.alone ?_ rfl
 have hσ := SGok (nt := 27) h1 (Nat.le_trans h2 (by decide))
 refine MC.body hσ Tryz.func35 (by kernel_rfl) rfl rfl (Nat.le_of_ble_eq_true rfl) (fun hF => ?_)
 refine jsr ?_
 refine jst hσ rfl rfl rfl rfl rfl ?_
 refine jn ?_
 refine AWP.seq ?_
 refine jsr ?_
 refine jst hσ rfl rfl rfl rfl rfl ?_
 refine jn ?_
 refine AWP.block ?_
 refine AWP.loopP (X := Nat) (fun i => ⟨[(0, .c (.d (ptsD []))), (1, eI k), (5, eI 0)], []⟩) (fun i => True) (fun i => 0) 0 (Ent.env ⟨rfl, rfl, rfl, trivial⟩) ?_ (fun i hi => ?_)
 ·
  trivial
 refine AWP.seq ?_
 refine jsr ?_
 iterate 2 refine jst hσ rfl rfl rfl rfl rfl ?_
 first | refine jle hσ rfl rfl rfl rfl rfl rfl rfl rfl rfl rfl rfl ?_ | refine jst hσ rfl rfl rfl rfl rfl ?_ | refine jvf hσ rfl rfl rfl rfl rfl ?_
 refine jst hσ rfl rfl rfl rfl rfl ?_
 refine jn ?_
 refine AWP.cond hσ rfl rfl (fun hc9 => ?_) (fun hc9 => ?_)
 ·
  try simp only [jcs] at hc9
  exact absurd hc9 (by simp)
 ·
  try simp only [jcs] at hc9
  refine AWP.exit ?_
  refine jsr ?_
  iterate 2 refine jst hσ rfl rfl rfl rfl rfl ?_
  refine jn ?_
  refine AWP.ret ?_
  refine ⟨.inl rfl, _, Ent.refl, _, rfl, ?_⟩
  first | rfl | skip
theorem c76 {L : Nat} (h1 : 4096 ≤ L) (h2 : L ≤ 1073741824) {ts : List In} {k : Int} (hk0 : 0 ≤ k) (hk1 : k + cnt nIn ts ≤ 1073741824) : MC Tryz.prog L 34 [.c (.rs 0 0 ts.length), eI k] [(0, irow ts)] (Outs (eI (k + cnt nIn ts)) [(0, irow (markL mIn nIn k ts))]) := by
 have hσ := SgOk.withIns (js := [0]) (SGok (nt := 27) h1 (Nat.le_trans h2 (by decide)))
 refine MC.bodyH hσ Tryz.func34 (by kernel_rfl) rfl rfl rfl (Nat.le_of_ble_eq_true rfl) (fun hF => ?_)
 refine AWP.factH 0 rfl (fun hB => ?_)
 have hl : ts.length ≤ L := by simpa [B.fact] using hB.1
 refine jsr ?_
 refine jst hσ rfl rfl rfl rfl rfl ?_
 refine jn ?_
 refine AWP.seq ?_
 refine jsr ?_
 refine jst hσ rfl rfl rfl rfl rfl ?_
 refine jn ?_
 refine AWP.block ?_
 refine AWP.loopP (X := Nat) (fun i => ⟨[(0, .c (.rs 0 0 ts.length)), (1, eI (k + cnt nIn (ts.take i))), (5, eI i)], [(0, irow (mk mIn nIn k i ts))]⟩) (fun i => i ≤ ts.length) (fun i => ts.length - i) 0 (Ent.to ⟨rfl, by simp [numbered, lk_cons, cnt], rfl, trivial⟩ (by simp [mk_zero])) ?_ (fun i hi => ?_)
 ·
  exact Nat.zero_le _
 refine AWP.seq ?_
 refine jsr ?_
 iterate 2 refine jst hσ rfl rfl rfl rfl rfl ?_
 first | refine jle hσ rfl rfl rfl rfl rfl rfl rfl rfl rfl rfl rfl ?_ | refine jst hσ rfl rfl rfl rfl rfl ?_ | refine jvf hσ rfl rfl rfl rfl rfl ?_
 refine jst hσ rfl rfl rfl rfl rfl ?_
 refine jf [9, 0, 1, 5] rfl ?_
 refine jn ?_
 refine AWP.cond hσ rfl rfl (fun hc9 => ?_) (fun hc9 => ?_)
 ·
  try simp only [jcs] at hc9
  refine AWP.skip ?_
  refine AWP.seq ?_
  refine AWP.block ?_
  refine jsr ?_
  iterate 3 refine jst hσ rfl rfl rfl rfl rfl ?_
  first | refine jix hσ rfl rfl rfl rfl rfl rfl rfl rfl rfl rfl rfl ?_ | refine jvf hσ rfl rfl rfl rfl rfl ?_
  refine jst hσ rfl rfl rfl rfl rfl ?_
  refine jf [16, 14, 9, 0, 1, 5] rfl ?_
  obtain ⟨K, hK⟩ : ∃ K, K = k + (cnt nIn (ts.take i) : Int) := ⟨_, rfl⟩
  rw [← hK]
  have hcs := cnt_succ (sz := nIn) (show i < ts.length by omega)
  have hcl := cnt_le (sz := nIn) (l := ts) (i := i + 1)
  have hg := mk_get (f := mIn) (sz := nIn) (k := k) (show i < ts.length by omega)
  have hs := mk_succ (f := mIn) (sz := nIn) (k := k) (show i < ts.length by omega)
  rw [← getD_lt (show i < ts.length by omega)] at hcs hg hs
  obtain ⟨t, ht⟩ : ∃ t, t = ts.getD i default := ⟨_, rfl⟩
  rw [← ht] at hcs hg hs
  rw [← hK] at hs
  simp only [nIn] at hcs
  obtain ⟨R, hR⟩ : ∃ R, R = (mk mIn nIn k i ts).map In.cells := ⟨_, rfl⟩
  have hRl : i < R.length := by rw [hR, List.length_map, mk_length]; omega
  have hRi : R[i]? = some t.cells := by rw [hR, List.getElem?_map, hg]; rfl
  have hRn : R.set i (mIn K t).cells = (mk mIn nIn k (i + 1) ts).map In.cells := by rw [hR, ← hs, List.map_set]
  have e0 : irow (mk mIn nIn k i ts) = .row true 2 (R.set i t.cells) := by rw [set_self' hRi, hR]
  rw [e0]
  refine AOps.heap (HS.storeRow (ex := [.int .i64 t.op, .int .i64 t.a]) (xs' := R.set i [.int .i64 K, .int .i64 t.a]) hσ rfl rfl rfl rfl rfl rfl rfl rfl rfl rfl rfl rfl rfl rfl (by simp [hRl]) (by simp)) rfl ?_
  refine jnm ?_
  refine jf [9, 0, 1, 5] rfl ?_
  refine jns ?_
  refine jst hσ rfl rfl rfl rfl rfl ?_
  first | refine jfi hσ rfl rfl rfl rfl rfl ?_ | refine jvf hσ rfl rfl rfl rfl rfl ?_
  refine jst hσ rfl rfl rfl rfl rfl ?_
  refine jf [1, 9, 0, 5] rfl ?_
  refine jns ?_
  iterate 3 refine jst hσ rfl rfl rfl rfl rfl ?_
  first | refine jix hσ rfl rfl rfl rfl rfl rfl rfl rfl rfl rfl rfl ?_ | refine jvf hσ rfl rfl rfl rfl rfl ?_
  refine jst hσ rfl rfl rfl rfl rfl ?_
  refine jf [23, 21, 1, 9, 0, 5] rfl ?_
  refine AOps.heap (HS.storeRow (ex := [.int .i64 K, .int .i64 t.a]) (xs' := R.set i [.int .i64 K, .int .i64 (K + 1)]) hσ rfl rfl rfl rfl rfl rfl rfl rfl rfl rfl rfl rfl rfl rfl (by simp [hRl]) (by simp)) rfl ?_
  refine jnm ?_
  refine jf [1, 9, 0, 5] rfl ?_
  refine jn ?_
  refine AWP.region ?_
  refine jst hσ rfl rfl rfl rfl rfl ?_
  first | refine jfi hσ rfl rfl rfl rfl rfl ?_ | refine jvf hσ rfl rfl rfl rfl rfl ?_
  refine jst hσ rfl rfl rfl rfl rfl ?_
  refine jf [1, 9, 0, 5] rfl ?_
  refine jn ?_
  refine AWP.region ?_
  refine jst hσ rfl rfl rfl rfl rfl ?_
  first | refine jfi hσ rfl rfl rfl rfl rfl ?_ | refine jvf hσ rfl rfl rfl rfl rfl ?_
  refine jst hσ rfl rfl rfl rfl rfl ?_
  refine jf [5, 1, 9, 0] rfl ?_
  refine jn ?_
  refine ⟨i + 1, Ent.to ⟨rfl, ?_, rfl, trivial⟩ (by rw [irow, ← hRn]), by omega, by omega⟩
  rw [hcs]
  exact congrArg (fun z => some (eI z)) (by omega)
 ·
  try simp only [jcs] at hc9
  refine AWP.exit ?_
  refine jsr ?_
  iterate 2 refine jst hσ rfl rfl rfl rfl rfl ?_
  refine jn ?_
  refine AWP.ret ?_
  refine ⟨.inl rfl, _, Ent.refl, _, rfl, ?_⟩
  obtain rfl : i = ts.length := by omega
  rw [mk_all (Nat.le_refl _), List.take_length]
  exact ⟨rfl, rfl⟩
theorem c77 {L : Nat} (h1 : 4096 ≤ L) (h2 : L ≤ 1073741824) {ts : List Pt} {k : Int} (hk0 : 0 ≤ k) (hk1 : k + cnt nP ts ≤ 1073741824) : MC Tryz.prog L 35 [.c (.rs 0 0 ts.length), eI k] [(0, prow ts)] (Outs (eI (k + cnt nP ts)) [(0, prow (markL mP nP k ts))]) := by
 have hσ := SgOk.withIns (js := [0]) (SGok (nt := 27) h1 (Nat.le_trans h2 (by decide)))
 refine MC.bodyH hσ Tryz.func35 (by kernel_rfl) rfl rfl rfl (Nat.le_of_ble_eq_true rfl) (fun hF => ?_)
 refine AWP.factH 0 rfl (fun hB => ?_)
 have hl : ts.length ≤ L := by simpa [B.fact] using hB.1
 refine jsr ?_
 refine jst hσ rfl rfl rfl rfl rfl ?_
 refine jn ?_
 refine AWP.seq ?_
 refine jsr ?_
 refine jst hσ rfl rfl rfl rfl rfl ?_
 refine jn ?_
 refine AWP.block ?_
 refine AWP.loopP (X := Nat) (fun i => ⟨[(0, .c (.rs 0 0 ts.length)), (1, eI (k + cnt nP (ts.take i))), (5, eI i)], [(0, prow (mk mP nP k i ts))]⟩) (fun i => i ≤ ts.length) (fun i => ts.length - i) 0 (Ent.to ⟨rfl, by simp [numbered, lk_cons, cnt], rfl, trivial⟩ (by simp [mk_zero])) ?_ (fun i hi => ?_)
 ·
  exact Nat.zero_le _
 refine AWP.seq ?_
 refine jsr ?_
 iterate 2 refine jst hσ rfl rfl rfl rfl rfl ?_
 first | refine jle hσ rfl rfl rfl rfl rfl rfl rfl rfl rfl rfl rfl ?_ | refine jst hσ rfl rfl rfl rfl rfl ?_ | refine jvf hσ rfl rfl rfl rfl rfl ?_
 refine jst hσ rfl rfl rfl rfl rfl ?_
 refine jf [9, 0, 1, 5] rfl ?_
 refine jn ?_
 refine AWP.cond hσ rfl rfl (fun hc9 => ?_) (fun hc9 => ?_)
 ·
  try simp only [jcs] at hc9
  refine AWP.skip ?_
  refine AWP.seq ?_
  refine AWP.block ?_
  refine jsr ?_
  iterate 3 refine jst hσ rfl rfl rfl rfl rfl ?_
  first | refine jix hσ rfl rfl rfl rfl rfl rfl rfl rfl rfl rfl rfl ?_ | refine jvf hσ rfl rfl rfl rfl rfl ?_
  refine jst hσ rfl rfl rfl rfl rfl ?_
  refine jf [16, 14, 9, 0, 1, 5] rfl ?_
  obtain ⟨K, hK⟩ : ∃ K, K = k + (cnt nP (ts.take i) : Int) := ⟨_, rfl⟩
  rw [← hK]
  have hcs := cnt_succ (sz := nP) (show i < ts.length by omega)
  have hcl := cnt_le (sz := nP) (l := ts) (i := i + 1)
  have hg := mk_get (f := mP) (sz := nP) (k := k) (show i < ts.length by omega)
  have hs := mk_succ (f := mP) (sz := nP) (k := k) (show i < ts.length by omega)
  rw [← getD_lt (show i < ts.length by omega)] at hcs hg hs
  obtain ⟨t, ht⟩ : ∃ t, t = ts.getD i default := ⟨_, rfl⟩
  rw [← ht] at hcs hg hs
  rw [← hK] at hs
  simp only [nP] at hcs
  obtain ⟨R, hR⟩ : ∃ R, R = (mk mP nP k i ts).map Pt.cells := ⟨_, rfl⟩
  have hRl : i < R.length := by rw [hR, List.length_map, mk_length]; omega
  have hRi : R[i]? = some t.cells := by rw [hR, List.getElem?_map, hg]; rfl
  have hRn : R.set i (mP K t).cells = (mk mP nP k (i + 1) ts).map Pt.cells := by rw [hR, ← hs, List.map_set]
  have e0 : prow (mk mP nP k i ts) = .row true 2 (R.set i t.cells) := by rw [set_self' hRi, hR]
  rw [e0]
  refine AOps.heap (HS.storeRow (ex := [.int .i64 t.k, tms t.fs]) (xs' := R.set i [.int .i64 K, tms t.fs]) hσ rfl rfl rfl rfl rfl rfl rfl rfl rfl rfl rfl rfl rfl rfl (by simp [hRl]) (by simp)) rfl ?_
  refine jnm ?_
  refine jf [9, 0, 1, 5] rfl ?_
  refine jns ?_
  refine jst hσ rfl rfl rfl rfl rfl ?_
  first | refine jfi hσ rfl rfl rfl rfl rfl ?_ | refine jvf hσ rfl rfl rfl rfl rfl ?_
  refine jst hσ rfl rfl rfl rfl rfl ?_
  refine jf [1, 9, 0, 5] rfl ?_
  refine jn ?_
  refine AWP.region ?_
  iterate 2 refine jst hσ rfl rfl rfl rfl rfl ?_
  first | refine jix hσ rfl rfl rfl rfl rfl rfl rfl rfl rfl rfl rfl ?_ | refine jvf hσ rfl rfl rfl rfl rfl ?_
  refine jst hσ rfl rfl rfl rfl rfl ?_
  refine AOps.step (Val.loadRow hσ (ex := [.int .i64 K, tms t.fs]) rfl rfl rfl rfl (by simp [hRl]) rfl) rfl rfl rfl ?_
  refine jst hσ rfl rfl rfl rfl rfl ?_
  refine jf [24, 23, 1, 9, 0, 5] rfl ?_
  refine AOps.innRp hσ (l := 0) (j := 1) (z := 2) (ex := [.int .i64 K, tms t.fs]) (ys := (t.fs).map Tm.cells) (ys' := (markL mT nT (K + 1) t.fs).map Tm.cells) (xs' := R.set i [.int .i64 K, tms (markL mT nT (K + 1) t.fs)]) rfl rfl rfl rfl (.rp (.d rfl .nil)) (.rp (.d rfl .nil)) rfl (by simp [hRl]) rfl (c40 (ts := t.fs) (k := (K + 1)) h1 h2 (by omega) (by omega)).1 (fun _ => by rw [List.length_map]; exact c40 (ts := t.fs) h1 h2 (by omega) (by omega)) (fun hys => ?_) rfl (by simp [markL_length]) rfl rfl rfl rfl (by simp) ?_
  ·
   have hy : t.fs = [] := by simpa using hys
   rw [hy]
   exact (c40n h1 h2 (k := (K + 1))).plain (by simp [cnt, hy])
  refine jnm ?_
  refine jst hσ rfl rfl rfl rfl rfl ?_
  refine jf [1, 9, 0, 5] rfl ?_
  refine jn ?_
  refine AWP.region ?_
  refine jst hσ rfl rfl rfl rfl rfl ?_
  first | refine jfi hσ rfl rfl rfl rfl rfl ?_ | refine jvf hσ rfl rfl rfl rfl rfl ?_
  refine jst hσ rfl rfl rfl rfl rfl ?_
  refine jf [5, 1, 9, 0] rfl ?_
  refine jn ?_
  refine ⟨i + 1, Ent.to ⟨rfl, ?_, rfl, trivial⟩ (by rw [prow, ← hRn]), by omega, by omega⟩
  rw [hcs]
  exact congrArg (fun z => some (eI z)) (by omega)
 ·
  try simp only [jcs] at hc9
  refine AWP.exit ?_
  refine jsr ?_
  iterate 2 refine jst hσ rfl rfl rfl rfl rfl ?_
  refine jn ?_
  refine AWP.ret ?_
  refine ⟨.inl rfl, _, Ent.refl, _, rfl, ?_⟩
  obtain rfl : i = ts.length := by omega
  rw [mk_all (Nat.le_refl _), List.take_length]
  exact ⟨rfl, rfl⟩
abbrev anRow (a : An) : List (Nat × B) := [(0, trow a.pre), (1, trow a.post), (2, irow a.code), (3, prow a.pts)]
abbrev anRs (a : An) : A := .agg [.rs 0 0 a.pre.length, .rs 1 0 a.post.length, .rs 2 0 a.code.length, .rs 3 0 a.pts.length]
def mAn (k : Int) (a : An) : An := ⟨markL mT nT k a.pre, markL mT nT (k + cnt nT a.pre) a.post, markL mIn nIn (k + cnt nT a.pre + cnt nT a.post) a.code, markL mP nP (k + cnt nT a.pre + cnt nT a.post + cnt nIn a.code) a.pts⟩
theorem c27 {L : Nat} (h1 : 4096 ≤ L) (h2 : L ≤ 1073741824) {a : An} {k : Int} (hk0 : 0 ≤ k) (hk1 : k + cnt nT a.pre + cnt nT a.post + cnt nIn a.code + cnt nP a.pts ≤ 1073741824) : MC Tryz.prog L 12 [anRs a, eI k] (anRow a) (Outs (eI (k + cnt nT a.pre + cnt nT a.post + cnt nIn a.code + cnt nP a.pts)) (anRow (mAn k a))) := by
 refine MC.shift 500 rfl ?_
 have hσ := SgOk.withIns (js := [500, 501, 502, 503]) (SGok (nt := 22) h1 (Nat.le_trans h2 (by decide)))
 refine MC.bodyH hσ Tryz.func12 (by kernel_rfl) rfl rfl rfl (Nat.le_of_ble_eq_true rfl) (fun hF => ?_)
 refine jsr ?_
 refine AOps.heap (HS.box hσ rfl rfl rfl rfl rfl rfl rfl) rfl ?_
 refine jst hσ rfl rfl rfl rfl rfl ?_
 refine jns ?_
 iterate 3 refine jst hσ rfl rfl rfl rfl rfl ?_
 refine jf [7, 6, 4, 2, 0, 1] rfl ?_
 refine AOps.inn hσ [500] (bin := [trow a.pre]) rfl rfl rfl rfl (c40 (ts := a.pre) (k := k) h1 h2 hk0 (by omega)) rfl rfl rfl rfl rfl rfl (B0 := 9000) rfl rfl ?_
 refine jnm ?_
 refine jst hσ rfl rfl rfl rfl rfl ?_
 refine jf [1, 4, 2, 0] rfl ?_
 refine jns ?_
 iterate 3 refine jst hσ rfl rfl rfl rfl rfl ?_
 refine jf [11, 10, 1, 4, 2, 0] rfl ?_
 refine AOps.inn hσ [501] (bin := [trow a.post]) rfl rfl rfl rfl (c40 (ts := a.post) (k := k + cnt nT a.pre) h1 h2 (by omega) (by omega)) rfl rfl rfl rfl rfl rfl (B0 := 13000) rfl rfl ?_
 refine jnm ?_
 refine jst hσ rfl rfl rfl rfl rfl ?_
 refine jf [1, 4, 2, 0] rfl ?_
 refine jns ?_
 iterate 3 refine jst hσ rfl rfl rfl rfl rfl ?_
 refine jf [15, 14, 1, 4, 2, 0] rfl ?_
 refine AOps.inn hσ [502] (bin := [irow a.code]) rfl rfl rfl rfl (c76 (ts := a.code) (k := k + cnt nT a.pre + cnt nT a.post) h1 h2 (by omega) (by omega)) rfl rfl rfl rfl rfl rfl (B0 := 17000) rfl rfl ?_
 refine jnm ?_
 refine jst hσ rfl rfl rfl rfl rfl ?_
 refine jf [1, 4, 2, 0] rfl ?_
 refine jns ?_
 iterate 3 refine jst hσ rfl rfl rfl rfl rfl ?_
 refine jf [19, 18, 1, 4, 2, 0] rfl ?_
 refine AOps.inn hσ [503] (bin := [prow a.pts]) rfl rfl rfl rfl (c77 (ts := a.pts) (k := k + cnt nT a.pre + cnt nT a.post + cnt nIn a.code) h1 h2 (by omega) (by omega)) rfl rfl rfl rfl rfl rfl (B0 := 21000) rfl rfl ?_
 refine jnm ?_
 refine jst hσ rfl rfl rfl rfl rfl ?_
 refine jf [1, 4, 2, 0] rfl ?_
 refine jns ?_
 iterate 2 refine jst hσ rfl rfl rfl rfl rfl ?_
 refine jn ?_
 refine AWP.ret ?_
 refine ⟨.inl rfl, _, Ent.sel [500, 501, 502, 503] rfl rfl (e' := [(4, eI (k + cnt nT a.pre + cnt nT a.post + cnt nIn a.code + cnt nP a.pts))]) ⟨rfl, trivial⟩ rfl, _, rfl, rfl, rfl⟩
theorem c27n {L : Nat} (h1 : 4096 ≤ L) (h2 : L ≤ 1073741824) {k : Int} : MC Tryz.prog L 12 [aAn ⟨[], [], [], []⟩, eI k] [] (Plain (eI k)) := by
 refine MC.alone ?_ rfl
 have hσ := SGok (nt := 22) h1 (Nat.le_trans h2 (by decide))
 refine MC.body hσ Tryz.func12 (by kernel_rfl) rfl rfl (Nat.le_of_ble_eq_true rfl) (fun hF => ?_)
 refine jsr ?_
 refine AOps.heap (HS.box hσ rfl rfl rfl rfl rfl rfl rfl) rfl ?_
 refine jnm ?_
 refine jst hσ rfl rfl rfl rfl rfl ?_
 refine jns ?_
 iterate 3 refine jst hσ rfl rfl rfl rfl rfl ?_
 refine jf [7, 6, 4, 2, 0, 1] rfl ?_
 refine AOps.lone hσ rfl rfl rfl rfl (c40n (k := k) h1 h2) (VAs.self rfl) rfl rfl rfl rfl rfl (B0 := 9000) rfl ?_
 refine jst hσ rfl rfl rfl rfl rfl ?_
 refine jf [1, 4, 2, 0] rfl ?_
 refine jns ?_
 iterate 3 refine jst hσ rfl rfl rfl rfl rfl ?_
 refine jf [11, 10, 1, 4, 2, 0] rfl ?_
 refine AOps.lone hσ rfl rfl rfl rfl (c40n (k := k) h1 h2) (VAs.self rfl) rfl rfl rfl rfl rfl (B0 := 13000) rfl ?_
 refine jst hσ rfl rfl rfl rfl rfl ?_
 refine jf [1, 4, 2, 0] rfl ?_
 refine jns ?_
 iterate 3 refine jst hσ rfl rfl rfl rfl rfl ?_
 refine jf [15, 14, 1, 4, 2, 0] rfl ?_
 refine AOps.lone hσ rfl rfl rfl rfl (c76n (k := k) h1 h2) (VAs.self rfl) rfl rfl rfl rfl rfl (B0 := 17000) rfl ?_
 refine jst hσ rfl rfl rfl rfl rfl ?_
 refine jf [1, 4, 2, 0] rfl ?_
 refine jns ?_
 iterate 3 refine jst hσ rfl rfl rfl rfl rfl ?_
 refine jf [19, 18, 1, 4, 2, 0] rfl ?_
 refine AOps.lone hσ rfl rfl rfl rfl (c77n (k := k) h1 h2) (VAs.self rfl) rfl rfl rfl rfl rfl (B0 := 21000) rfl ?_
 refine jst hσ rfl rfl rfl rfl rfl ?_
 refine jf [1, 4, 2, 0] rfl ?_
 refine jns ?_
 iterate 2 refine jst hσ rfl rfl rfl rfl rfl ?_
 refine jn ?_
 refine AWP.ret ?_
 refine ⟨.inl rfl, _, Ent.refl, _, rfl, ?_⟩
 rfl
theorem c78 {L : Nat} (h1 : 4096 ≤ L) (h2 : L ≤ 1073741824) {ts : List In} {k : Int} (hk0 : 0 ≤ k) (hk1 : k + cnt nIn ts ≤ 1073741824) : MC Tryz.prog L 37 [ains (markL mIn nIn k ts), eI k] [] (Plain (eI (k + cnt nIn ts))) := by
 refine MC.alone ?_ rfl
 have hσ := SGok (nt := 31) h1 (Nat.le_trans h2 (by decide))
 refine MC.body hσ Tryz.func37 (by kernel_rfl) rfl rfl (Nat.le_of_ble_eq_true rfl) (fun hF => ?_)
 have hlm := markL_length (f := mIn) (sz := nIn) (k := k) (l := ts)
 have hl : (markL mIn nIn k ts).length ≤ L := by simpa [As.fact, A.fact, M.fact, D.fact, Ds.fact] using hF.1.1
 refine jsr ?_
 refine jst hσ rfl rfl rfl rfl rfl ?_
 refine jn ?_
 refine AWP.seq ?_
 refine jsr ?_
 refine jst hσ rfl rfl rfl rfl rfl ?_
 refine jn ?_
 refine AWP.block ?_
 refine AWP.loopP (X := Nat) (fun i => ⟨[(0, ains (markL mIn nIn k ts)), (1, eI (k + cnt nIn (ts.take i))), (5, eI i)], []⟩) (fun i => i ≤ ts.length) (fun i => ts.length - i) 0 (Ent.env ⟨rfl, by simp [numbered, lk_cons, cnt], rfl, trivial⟩) ?_ (fun i hi => ?_)
 ·
  exact Nat.zero_le _
 refine AWP.seq ?_
 refine jsr ?_
 iterate 2 refine jst hσ rfl rfl rfl rfl rfl ?_
 first | refine jle hσ rfl rfl rfl rfl rfl rfl rfl rfl rfl rfl rfl ?_ | refine jst hσ rfl rfl rfl rfl rfl ?_ | refine jvf hσ rfl rfl rfl rfl rfl ?_
 refine jst hσ rfl rfl rfl rfl rfl ?_
 refine jf [9, 0, 1, 5] rfl ?_
 refine jn ?_
 refine AWP.cond hσ rfl rfl (fun hc9 => ?_) (fun hc9 => ?_)
 ·
  skip
  refine AWP.skip ?_
  refine AWP.seq ?_
  refine AWP.block ?_
  refine AWP.seq ?_
  refine jsr ?_
  have hil : i < ts.length := by have h9 := of_decide_eq_true hc9; omega
  have hg := markL_getD (f := mIn) (sz := nIn) (k := k) hil
  have hcs := cnt_succ (sz := nIn) hil
  have hcl := cnt_le (sz := nIn) (l := ts) (i := i + 1)
  rw [← getD_lt hil] at hcs
  obtain ⟨t, ht⟩ : ∃ t, t = ts.getD i default := ⟨_, rfl⟩
  rw [← ht] at hg hcs
  simp only [nIn] at hcs
  obtain ⟨K, hK⟩ : ∃ K, K = k + (cnt nIn (ts.take i) : Int) := ⟨_, rfl⟩
  rw [← hK] at hg ⊢
  iterate 2 refine jst hσ rfl rfl rfl rfl rfl ?_
  refine AOps.step ((Val.indexN hσ rfl rfl rfl rfl rfl rfl rfl rfl (idxN (by omega))).cast (v' := ptr (In.cells (mIn K t))) (by rw [hg])) rfl rfl rfl ?_
  iterate 4 refine jst hσ rfl rfl rfl rfl rfl ?_
  refine jf [18, 9, 0, 1, 5] rfl ?_
  refine jn ?_
  refine AWP.cond hσ rfl rfl (fun hc18 => ?_) (fun hc18 => ?_)
  ·
   skip
   exact absurd hc18 (by simp)
  ·
   skip
   refine AWP.skip ?_
   refine jsr ?_
   refine jst hσ rfl rfl rfl rfl rfl ?_
   first | refine jfi hσ rfl rfl rfl rfl rfl ?_ | refine jvf hσ rfl rfl rfl rfl rfl ?_
   refine jst hσ rfl rfl rfl rfl rfl ?_
   refine jf [1, 18, 9, 0, 5] rfl ?_
   refine jn ?_
   refine AWP.seq ?_
   refine jsr ?_
   iterate 2 refine jst hσ rfl rfl rfl rfl rfl ?_
   refine AOps.step ((Val.indexN hσ rfl rfl rfl rfl rfl rfl rfl rfl (idxN (by omega))).cast (v' := ptr (In.cells (mIn K t))) (by rw [hg])) rfl rfl rfl ?_
   iterate 4 refine jst hσ rfl rfl rfl rfl rfl ?_
   refine jf [27, 1, 18, 9, 0, 5] rfl ?_
   refine jn ?_
   refine AWP.cond hσ rfl rfl (fun hc27 => ?_) (fun hc27 => ?_)
   ·
    skip
    exact absurd hc27 (by simp)
   ·
    skip
    refine AWP.skip ?_
    refine AWP.region ?_
    refine jst hσ rfl rfl rfl rfl rfl ?_
    first | refine jfi hσ rfl rfl rfl rfl rfl ?_ | refine jvf hσ rfl rfl rfl rfl rfl ?_
    refine jst hσ rfl rfl rfl rfl rfl ?_
    refine jf [1, 27, 18, 9, 0, 5] rfl ?_
    refine jn ?_
    refine AWP.region ?_
    refine jst hσ rfl rfl rfl rfl rfl ?_
    first | refine jfi hσ rfl rfl rfl rfl rfl ?_ | refine jvf hσ rfl rfl rfl rfl rfl ?_
    refine jst hσ rfl rfl rfl rfl rfl ?_
    refine jf [5, 1, 27, 18, 9, 0] rfl ?_
    refine jn ?_
    refine ⟨i + 1, Ent.env ⟨rfl, ?_, rfl, trivial⟩, by omega, by omega⟩
    rw [hcs]
    exact congrArg (fun z => some (eI z)) (by omega)
 ·
  skip
  refine AWP.exit ?_
  refine jsr ?_
  iterate 2 refine jst hσ rfl rfl rfl rfl rfl ?_
  refine jn ?_
  refine AWP.ret ?_
  refine ⟨.inl rfl, _, Ent.refl, _, rfl, ?_⟩
  have h9 := of_decide_eq_false hc9
  obtain rfl : i = ts.length := by omega
  rw [List.take_length]
theorem c79 {L : Nat} (h1 : 4096 ≤ L) (h2 : L ≤ 1073741824) {ts : List Pt} {k : Int} (hk0 : 0 ≤ k) (hk1 : k + cnt nP ts ≤ 1073741824) : MC Tryz.prog L 38 [apts (markL mP nP k ts), eI k] [] (Plain (eI (k + cnt nP ts))) := by
 refine MC.alone ?_ rfl
 have hσ := SGok (nt := 31) h1 (Nat.le_trans h2 (by decide))
 refine MC.body hσ Tryz.func38 (by kernel_rfl) rfl rfl (Nat.le_of_ble_eq_true rfl) (fun hF => ?_)
 have hlm := markL_length (f := mP) (sz := nP) (k := k) (l := ts)
 have hl : (markL mP nP k ts).length ≤ L := by simpa [As.fact, A.fact, M.fact, D.fact, Ds.fact] using hF.1.1
 refine jsr ?_
 refine jst hσ rfl rfl rfl rfl rfl ?_
 refine jn ?_
 refine AWP.seq ?_
 refine jsr ?_
 refine jst hσ rfl rfl rfl rfl rfl ?_
 refine jn ?_
 refine AWP.block ?_
 refine AWP.loopP (X := Nat) (fun i => ⟨[(0, apts (markL mP nP k ts)), (1, eI (k + cnt nP (ts.take i))), (5, eI i)], []⟩) (fun i => i ≤ ts.length) (fun i => ts.length - i) 0 (Ent.env ⟨rfl, by simp [numbered, lk_cons, cnt], rfl, trivial⟩) ?_ (fun i hi => ?_)
 ·
  exact Nat.zero_le _
 refine AWP.seq ?_
 refine jsr ?_
 iterate 2 refine jst hσ rfl rfl rfl rfl rfl ?_
 first | refine jle hσ rfl rfl rfl rfl rfl rfl rfl rfl rfl rfl rfl ?_ | refine jst hσ rfl rfl rfl rfl rfl ?_ | refine jvf hσ rfl rfl rfl rfl rfl ?_
 refine jst hσ rfl rfl rfl rfl rfl ?_
 refine jf [9, 0, 1, 5] rfl ?_
 refine jn ?_
 refine AWP.cond hσ rfl rfl (fun hc9 => ?_) (fun hc9 => ?_)
 ·
  skip
  refine AWP.skip ?_
  refine AWP.seq ?_
  refine AWP.block ?_
  refine AWP.seq ?_
  refine jsr ?_
  have hil : i < ts.length := by have h9 := of_decide_eq_true hc9; omega
  have hg := markL_getD (f := mP) (sz := nP) (k := k) hil
  have hcs := cnt_succ (sz := nP) hil
  have hcl := cnt_le (sz := nP) (l := ts) (i := i + 1)
  rw [← getD_lt hil] at hcs
  obtain ⟨t, ht⟩ : ∃ t, t = ts.getD i default := ⟨_, rfl⟩
  rw [← ht] at hg hcs
  simp only [nP] at hcs
  obtain ⟨K, hK⟩ : ∃ K, K = k + (cnt nP (ts.take i) : Int) := ⟨_, rfl⟩
  rw [← hK] at hg ⊢
  iterate 2 refine jst hσ rfl rfl rfl rfl rfl ?_
  refine AOps.step ((Val.indexN hσ rfl rfl rfl rfl rfl rfl rfl rfl (idxN (by omega))).cast (v' := ptr (Pt.cells (mP K t))) (by rw [hg])) rfl rfl rfl ?_
  iterate 4 refine jst hσ rfl rfl rfl rfl rfl ?_
  refine jf [18, 9, 0, 1, 5] rfl ?_
  refine jn ?_
  refine AWP.cond hσ rfl rfl (fun hc18 => ?_) (fun hc18 => ?_)
  ·
   skip
   exact absurd hc18 (by simp)
  ·
   skip
   refine AWP.skip ?_
   refine jsr ?_
   refine jst hσ rfl rfl rfl rfl rfl ?_
   first | refine jfi hσ rfl rfl rfl rfl rfl ?_ | refine jvf hσ rfl rfl rfl rfl rfl ?_
   refine jst hσ rfl rfl rfl rfl rfl ?_
   refine jf [1, 18, 9, 0, 5] rfl ?_
   refine jns ?_
   iterate 2 refine jst hσ rfl rfl rfl rfl rfl ?_
   refine AOps.step ((Val.indexN hσ rfl rfl rfl rfl rfl rfl rfl rfl (idxN (by omega))).cast (v' := ptr (Pt.cells (mP K t))) (by rw [hg])) rfl rfl rfl ?_
   iterate 3 refine jst hσ rfl rfl rfl rfl rfl ?_
   refine jf [26, 25, 1, 18, 9, 0, 5] rfl ?_
   refine AOps.lone hσ rfl rfl rfl rfl (c41 (ts := t.fs) (k := K + 1) h1 h2 (by omega) (by omega)) (VAs.self rfl) rfl rfl rfl rfl rfl (B0 := 28000) rfl ?_
   refine jst hσ rfl rfl rfl rfl rfl ?_
   refine jf [1, 18, 9, 0, 5] rfl ?_
   refine jns ?_
   iterate 2 refine jst hσ rfl rfl rfl rfl rfl ?_
   refine jn ?_
   refine AWP.cond hσ rfl rfl (fun hc29 => ?_) (fun hc29 => ?_)
   ·
    skip
    exact absurd (of_decide_eq_true hc29) (by omega)
   ·
    skip
    refine AWP.skip ?_
    refine AWP.region ?_
    refine jst hσ rfl rfl rfl rfl rfl ?_
    first | refine jfi hσ rfl rfl rfl rfl rfl ?_ | refine jvf hσ rfl rfl rfl rfl rfl ?_
    refine jst hσ rfl rfl rfl rfl rfl ?_
    refine jf [5, 29, 28, 1, 18, 9, 0] rfl ?_
    refine jn ?_
    refine ⟨i + 1, Ent.env ⟨rfl, ?_, rfl, trivial⟩, by omega, by omega⟩
    rw [hcs]
    exact congrArg (fun z => some (eI z)) (by omega)
 ·
  skip
  refine AWP.exit ?_
  refine jsr ?_
  iterate 2 refine jst hσ rfl rfl rfl rfl rfl ?_
  refine jn ?_
  refine AWP.ret ?_
  refine ⟨.inl rfl, _, Ent.refl, _, rfl, ?_⟩
  have h9 := of_decide_eq_false hc9
  obtain rfl : i = ts.length := by omega
  rw [List.take_length]
theorem c28 {L : Nat} (h1 : 4096 ≤ L) (h2 : L ≤ 1073741824) {a : An} {k : Int} (hk0 : 0 ≤ k) (hk1 : k + cnt nT a.pre + cnt nT a.post + cnt nIn a.code + cnt nP a.pts ≤ 1073741824) : MC Tryz.prog L 13 [aAn (mAn k a), eI k] [] (Plain (eI (k + cnt nT a.pre + cnt nT a.post + cnt nIn a.code + cnt nP a.pts))) := by
 refine MC.alone ?_ rfl
 have hσ := SGok (nt := 30) h1 (Nat.le_trans h2 (by decide))
 refine MC.body hσ Tryz.func13 (by kernel_rfl) rfl rfl (Nat.le_of_ble_eq_true rfl) (fun hF => ?_)
 refine jsr ?_
 refine AOps.heap (HS.box hσ rfl rfl rfl rfl rfl rfl rfl) rfl ?_
 refine jst hσ rfl rfl rfl rfl rfl ?_
 refine jns ?_
 iterate 3 refine jst hσ rfl rfl rfl rfl rfl ?_
 refine jf [7, 6, 4, 2, 0, 1] rfl ?_
 refine AOps.lone hσ rfl rfl rfl rfl (c41 (ts := a.pre) (k := k) h1 h2 hk0 (by omega)) (VAs.self rfl) rfl rfl rfl rfl rfl (B0 := 9000) rfl ?_
 refine jst hσ rfl rfl rfl rfl rfl ?_
 refine jf [1, 4, 2, 0] rfl ?_
 refine jn ?_
 refine AWP.seq ?_
 refine jsr ?_
 iterate 2 refine jst hσ rfl rfl rfl rfl rfl ?_
 refine jn ?_
 refine AWP.cond hσ rfl rfl (fun hc10 => ?_) (fun hc10 => ?_)
 ·
  skip
  exact absurd (of_decide_eq_true hc10) (by omega)
 ·
  skip
  refine AWP.skip ?_
  refine jsr ?_
  iterate 3 refine jst hσ rfl rfl rfl rfl rfl ?_
  refine jf [13, 12, 9, 1, 4, 2, 0] rfl ?_
  refine AOps.lone hσ rfl rfl rfl rfl (c41 (ts := a.post) (k := k + cnt nT a.pre) h1 h2 (by omega) (by omega)) (VAs.self rfl) rfl rfl rfl rfl rfl (B0 := 15000) rfl ?_
  refine jst hσ rfl rfl rfl rfl rfl ?_
  refine jf [1, 9, 4, 2, 0] rfl ?_
  refine jn ?_
  refine AWP.seq ?_
  refine jsr ?_
  iterate 2 refine jst hσ rfl rfl rfl rfl rfl ?_
  refine jn ?_
  refine AWP.cond hσ rfl rfl (fun hc16 => ?_) (fun hc16 => ?_)
  ·
   skip
   exact absurd (of_decide_eq_true hc16) (by omega)
  ·
   skip
   refine AWP.skip ?_
   refine jsr ?_
   iterate 3 refine jst hσ rfl rfl rfl rfl rfl ?_
   refine jf [19, 18, 15, 1, 9, 4, 2, 0] rfl ?_
   refine AOps.lone hσ rfl rfl rfl rfl (c78 (ts := a.code) (k := k + cnt nT a.pre + cnt nT a.post) h1 h2 (by omega) (by omega)) (VAs.self rfl) rfl rfl rfl rfl rfl (B0 := 21000) rfl ?_
   refine jst hσ rfl rfl rfl rfl rfl ?_
   refine jf [1, 15, 9, 4, 2, 0] rfl ?_
   refine jn ?_
   refine AWP.seq ?_
   refine jsr ?_
   iterate 2 refine jst hσ rfl rfl rfl rfl rfl ?_
   refine jn ?_
   refine AWP.cond hσ rfl rfl (fun hc22 => ?_) (fun hc22 => ?_)
   ·
    skip
    exact absurd (of_decide_eq_true hc22) (by omega)
   ·
    skip
    refine AWP.skip ?_
    refine jsr ?_
    iterate 3 refine jst hσ rfl rfl rfl rfl rfl ?_
    refine jf [25, 24, 21, 1, 15, 9, 4, 2, 0] rfl ?_
    refine AOps.lone hσ rfl rfl rfl rfl (c79 (ts := a.pts) (k := k + cnt nT a.pre + cnt nT a.post + cnt nIn a.code) h1 h2 (by omega) (by omega)) (VAs.self rfl) rfl rfl rfl rfl rfl (B0 := 27000) rfl ?_
    refine jst hσ rfl rfl rfl rfl rfl ?_
    refine jf [1, 21, 15, 9, 4, 2, 0] rfl ?_
    refine jn ?_
    refine AWP.seq ?_
    refine jsr ?_
    iterate 2 refine jst hσ rfl rfl rfl rfl rfl ?_
    refine jn ?_
    refine AWP.cond hσ rfl rfl (fun hc28 => ?_) (fun hc28 => ?_)
    ·
     skip
     exact absurd (of_decide_eq_true hc28) (by omega)
    ·
     skip
     refine AWP.skip ?_
     refine jsr ?_
     iterate 2 refine jst hσ rfl rfl rfl rfl rfl ?_
     refine jf [4, 27, 1, 21, 15, 9, 2, 0] rfl ?_
     refine jn ?_
     refine AWP.ret ?_
     refine ⟨.inl rfl, _, Ent.refl, _, rfl, ?_⟩
     rfl
end Go.Al
namespace Go.Al
open Go.Proofs
set_option linter.unusedVariables false
set_option linter.unusedSimpArgs false
set_option maxRecDepth 10000
set_option maxHeartbeats 4000000
theorem notF {a : Bool} (h : (!a) = true) : a = false := by simpa using h
theorem notT {a : Bool} (h : (!a) = false) : a = true := by simpa using h
theorem orF {a b : Bool} (h : (bif a then true else b) = false) : a = false ∧ b = false := by cases a <;> cases b <;> simp_all
theorem andT {a b : Bool} (h : (bif a then b else false) = true) : a = true ∧ b = true := by cases a <;> cases b <;> simp_all
theorem any_yes {α : Type} {p : α → Bool} {xs : List α} (j : Nat) (hj : j < xs.length) (h : p xs[j] = true) : xs.any p = true := List.any_eq_true.2 ⟨xs[j], List.getElem_mem _, h⟩
theorem any_no {α : Type} {p : α → Bool} {xs : List α} (h : ∀ j (hj : j < xs.length), p xs[j] = false) : xs.any p = false := List.any_eq_false.2 fun x hx => by
  obtain ⟨j, hj, rfl⟩ := List.mem_iff_getElem.1 hx
  rw [h j hj]; decide
theorem nterm (t : Tm) : (bif !t.ok then true else decide ((4 : Int) < t.xs.length)) = !t.term := by
  unfold Tm.term
  cases t.ok
  · rfl
  · by_cases h : (4 : Int) < t.xs.length
    · rw [decide_eq_true h, decide_eq_false (by omega)]; rfl
    · rw [decide_eq_false h, decide_eq_true (by omega)]; rfl
theorem c163 {L : Nat} (h1 : 4096 ≤ L) (h2 : L ≤ 1073741824) {x : In} : MC Tryz.prog L 89 [.agg (x.cells.map .d)] [] (Plain (eB (instrB x))) := by
 refine MC.alone ?_ rfl
 have hσ := SGok (nt := 37) h1 (Nat.le_trans h2 (by decide))
 refine MC.body hσ Tryz.func89 (by kernel_rfl) rfl rfl (Nat.le_of_ble_eq_true rfl) (fun hF => ?_)
 refine jsr ?_
 refine AOps.heap (HS.box hσ rfl rfl rfl rfl rfl rfl rfl) rfl ?_
 refine jst hσ rfl rfl rfl rfl rfl ?_
 refine jn ?_
 refine AWP.seq ?_
 refine jsr ?_
 iterate 2 refine jst hσ rfl rfl rfl rfl rfl ?_
 refine jn ?_
 refine AWP.block ?_
 refine AWP.seq ?_
 refine jsr ?_
 iterate 2 refine jst hσ rfl rfl rfl rfl rfl ?_
 refine jn ?_
 refine AWP.cond hσ rfl rfl (fun hc5 => ?_) (fun hc5 => ?_)
 ·
  try simp only [jcs] at hc5
  refine AWP.skip ?_
  refine AWP.cond hσ rfl rfl (fun hc5 => ?_) (fun hc5 => ?_)
  ·
   try simp only [jcs] at hc5
   refine jsr ?_
   iterate 2 refine jst hσ rfl rfl rfl rfl rfl ?_
   refine AOps.lone hσ rfl rfl rfl rfl (c165 h1 h2) (VAs.self rfl) rfl rfl rfl rfl rfl (B0 := 11000) rfl ?_
   refine jst hσ rfl rfl rfl rfl rfl ?_
   refine jn ?_
   refine AWP.ret ?_
   refine ⟨.inl rfl, _, Ent.refl, _, rfl, ?_⟩
   unfold instrB inB; simp_all
  ·
   try simp only [jcs] at hc5
   contradiction
 ·
  try simp only [jcs] at hc5
  refine AWP.region ?_
  iterate 2 refine jst hσ rfl rfl rfl rfl rfl ?_
  refine jn ?_
  refine AWP.cond hσ rfl rfl (fun hc5 => ?_) (fun hc5 => ?_)
  ·
   try simp only [jcs] at hc5
   refine jsr ?_
   iterate 2 refine jst hσ rfl rfl rfl rfl rfl ?_
   refine AOps.lone hσ rfl rfl rfl rfl (c165 h1 h2) (VAs.self rfl) rfl rfl rfl rfl rfl (B0 := 11000) rfl ?_
   refine jst hσ rfl rfl rfl rfl rfl ?_
   refine jn ?_
   refine AWP.ret ?_
   refine ⟨.inl rfl, _, Ent.refl, _, rfl, ?_⟩
   unfold instrB inB; simp_all
  ·
   try simp only [jcs] at hc5
   refine AWP.seq ?_
   refine jsr ?_
   iterate 2 refine jst hσ rfl rfl rfl rfl rfl ?_
   refine jn ?_
   refine AWP.cond hσ rfl rfl (fun hc11 => ?_) (fun hc11 => ?_)
   ·
    try simp only [jcs] at hc11
    refine AWP.skip ?_
    refine AWP.cond hσ rfl rfl (fun hc11 => ?_) (fun hc11 => ?_)
    ·
     try simp only [jcs] at hc11
     refine jsr ?_
     iterate 2 refine jst hσ rfl rfl rfl rfl rfl ?_
     refine AOps.lone hσ rfl rfl rfl rfl (c84 h1 h2) (VAs.self rfl) rfl rfl rfl rfl rfl (B0 := 17000) rfl ?_
     refine jst hσ rfl rfl rfl rfl rfl ?_
     refine jn ?_
     refine AWP.ret ?_
     refine ⟨.inl rfl, _, Ent.refl, _, rfl, ?_⟩
     unfold instrB inB; simp_all
    ·
     try simp only [jcs] at hc11
     contradiction
   ·
    try simp only [jcs] at hc11
    refine AWP.region ?_
    iterate 2 refine jst hσ rfl rfl rfl rfl rfl ?_
    refine jn ?_
    refine AWP.cond hσ rfl rfl (fun hc11 => ?_) (fun hc11 => ?_)
    ·
     try simp only [jcs] at hc11
     refine jsr ?_
     iterate 2 refine jst hσ rfl rfl rfl rfl rfl ?_
     refine AOps.lone hσ rfl rfl rfl rfl (c84 h1 h2) (VAs.self rfl) rfl rfl rfl rfl rfl (B0 := 17000) rfl ?_
     refine jst hσ rfl rfl rfl rfl rfl ?_
     refine jn ?_
     refine AWP.ret ?_
     refine ⟨.inl rfl, _, Ent.refl, _, rfl, ?_⟩
     unfold instrB inB; simp_all
    ·
     try simp only [jcs] at hc11
     refine AWP.seq ?_
     refine jsr ?_
     iterate 2 refine jst hσ rfl rfl rfl rfl rfl ?_
     refine jn ?_
     refine AWP.cond hσ rfl rfl (fun hc17 => ?_) (fun hc17 => ?_)
     ·
      try simp only [jcs] at hc17
      refine AWP.skip ?_
      refine AWP.cond hσ rfl rfl (fun hc17 => ?_) (fun hc17 => ?_)
      ·
       try simp only [jcs] at hc17
       refine jsr ?_
       iterate 2 refine jst hσ rfl rfl rfl rfl rfl ?_
       refine AOps.lone hσ rfl rfl rfl rfl (c84 h1 h2) (VAs.self rfl) rfl rfl rfl rfl rfl (B0 := 23000) rfl ?_
       refine jst hσ rfl rfl rfl rfl rfl ?_
       refine jn ?_
       refine AWP.ret ?_
       refine ⟨.inl rfl, _, Ent.refl, _, rfl, ?_⟩
       unfold instrB inB; simp_all
      ·
       try simp only [jcs] at hc17
       contradiction
     ·
      try simp only [jcs] at hc17
      refine AWP.region ?_
      iterate 2 refine jst hσ rfl rfl rfl rfl rfl ?_
      refine jn ?_
      refine AWP.cond hσ rfl rfl (fun hc17 => ?_) (fun hc17 => ?_)
      ·
       try simp only [jcs] at hc17
       refine jsr ?_
       iterate 2 refine jst hσ rfl rfl rfl rfl rfl ?_
       refine AOps.lone hσ rfl rfl rfl rfl (c84 h1 h2) (VAs.self rfl) rfl rfl rfl rfl rfl (B0 := 23000) rfl ?_
       refine jst hσ rfl rfl rfl rfl rfl ?_
       refine jn ?_
       refine AWP.ret ?_
       refine ⟨.inl rfl, _, Ent.refl, _, rfl, ?_⟩
       unfold instrB inB; simp_all
      ·
       try simp only [jcs] at hc17
       refine jsr ?_
       iterate 2 refine jst hσ rfl rfl rfl rfl rfl ?_
       refine jn ?_
       refine AWP.cond hσ rfl rfl (fun hc23 => ?_) (fun hc23 => ?_)
       ·
        try simp only [jcs] at hc23
        refine jsr ?_
        iterate 2 refine jst hσ rfl rfl rfl rfl rfl ?_
        refine AOps.lone hσ rfl rfl rfl rfl (c84 h1 h2) (VAs.self rfl) rfl rfl rfl rfl rfl (B0 := 28000) rfl ?_
        refine jst hσ rfl rfl rfl rfl rfl ?_
        refine jn ?_
        refine AWP.ret ?_
        refine ⟨.inl rfl, _, Ent.refl, _, rfl, ?_⟩
        unfold instrB inB; simp_all
       ·
        try simp only [jcs] at hc23
        refine AWP.seq ?_
        refine jsr ?_
        iterate 2 refine jst hσ rfl rfl rfl rfl rfl ?_
        refine jn ?_
        refine AWP.cond hσ rfl rfl (fun hc28 => ?_) (fun hc28 => ?_)
        ·
         try simp only [jcs] at hc28
         refine AWP.skip ?_
         refine AWP.cond hσ rfl rfl (fun hc28 => ?_) (fun hc28 => ?_)
         ·
          try simp only [jcs] at hc28
          refine jsr ?_
          iterate 4 refine jst hσ rfl rfl rfl rfl rfl ?_
          refine jn ?_
          refine AWP.ret ?_
          refine ⟨.inl rfl, _, Ent.refl, _, rfl, ?_⟩
          unfold instrB inB; simp_all
         ·
          try simp only [jcs] at hc28
          contradiction
        ·
         try simp only [jcs] at hc28
         refine jsr ?_
         iterate 2 refine jst hσ rfl rfl rfl rfl rfl ?_
         refine jn ?_
         refine AWP.cond hσ rfl rfl (fun hc28 => ?_) (fun hc28 => ?_)
         ·
          try simp only [jcs] at hc28
          refine AWP.skip ?_
          refine AWP.cond hσ rfl rfl (fun hc28 => ?_) (fun hc28 => ?_)
          ·
           try simp only [jcs] at hc28
           refine jsr ?_
           iterate 4 refine jst hσ rfl rfl rfl rfl rfl ?_
           refine jn ?_
           refine AWP.ret ?_
           refine ⟨.inl rfl, _, Ent.refl, _, rfl, ?_⟩
           unfold instrB inB; simp_all
          ·
           try simp only [jcs] at hc28
           contradiction
         ·
          try simp only [jcs] at hc28
          refine jsr ?_
          iterate 2 refine jst hσ rfl rfl rfl rfl rfl ?_
          refine jn ?_
          refine AWP.cond hσ rfl rfl (fun hc28 => ?_) (fun hc28 => ?_)
          ·
           try simp only [jcs] at hc28
           refine AWP.skip ?_
           refine AWP.cond hσ rfl rfl (fun hc28 => ?_) (fun hc28 => ?_)
           ·
            try simp only [jcs] at hc28
            refine jsr ?_
            iterate 4 refine jst hσ rfl rfl rfl rfl rfl ?_
            refine jn ?_
            refine AWP.ret ?_
            refine ⟨.inl rfl, _, Ent.refl, _, rfl, ?_⟩
            unfold instrB inB; simp_all
           ·
            try simp only [jcs] at hc28
            contradiction
          ·
           try simp only [jcs] at hc28
           refine jsr ?_
           iterate 2 refine jst hσ rfl rfl rfl rfl rfl ?_
           refine jn ?_
           refine AWP.cond hσ rfl rfl (fun hc28 => ?_) (fun hc28 => ?_)
           ·
            try simp only [jcs] at hc28
            refine AWP.skip ?_
            refine AWP.cond hσ rfl rfl (fun hc28 => ?_) (fun hc28 => ?_)
            ·
             try simp only [jcs] at hc28
             refine jsr ?_
             iterate 4 refine jst hσ rfl rfl rfl rfl rfl ?_
             refine jn ?_
             refine AWP.ret ?_
             refine ⟨.inl rfl, _, Ent.refl, _, rfl, ?_⟩
             unfold instrB inB; simp_all
            ·
             try simp only [jcs] at hc28
             contradiction
           ·
            try simp only [jcs] at hc28
            refine AWP.region ?_
            iterate 2 refine jst hσ rfl rfl rfl rfl rfl ?_
            refine jn ?_
            refine AWP.cond hσ rfl rfl (fun hc28 => ?_) (fun hc28 => ?_)
            ·
             try simp only [jcs] at hc28
             refine jsr ?_
             iterate 4 refine jst hσ rfl rfl rfl rfl rfl ?_
             refine jn ?_
             refine AWP.ret ?_
             refine ⟨.inl rfl, _, Ent.refl, _, rfl, ?_⟩
             unfold instrB inB; simp_all
            ·
             try simp only [jcs] at hc28
             refine AWP.skip ?_
             refine jsr ?_
             refine jst hσ rfl rfl rfl rfl rfl ?_
             refine jn ?_
             refine AWP.ret ?_
             refine ⟨.inl rfl, _, Ent.refl, _, rfl, ?_⟩
             unfold instrB inB; simp_all
theorem c166 {L : Nat} (h1 : 4096 ≤ L) (h2 : L ≤ 1073741824) {x : In} : MC Tryz.prog L 99 [.agg (x.cells.map .d)] [] (Plain (eB (jmpB x))) := by
 refine MC.alone ?_ rfl
 have hσ := SGok (nt := 11) h1 (Nat.le_trans h2 (by decide))
 refine MC.body hσ Tryz.func99 (by kernel_rfl) rfl rfl (Nat.le_of_ble_eq_true rfl) (fun hF => ?_)
 refine jsr ?_
 refine AOps.heap (HS.box hσ rfl rfl rfl rfl rfl rfl rfl) rfl ?_
 refine jst hσ rfl rfl rfl rfl rfl ?_
 refine jns ?_
 iterate 4 refine jst hσ rfl rfl rfl rfl rfl ?_
 refine AOps.gr 3 rfl rfl rfl (fun hx => AN.step hx rfl rfl rfl (Val.of hσ rfl rfl) rfl rfl ( AN.step hx rfl rfl rfl (Val.of hσ rfl rfl) rfl rfl ( AN.step hx rfl rfl rfl (Val.of hσ rfl rfl) rfl rfl ( AN.nil)))) rfl rfl ?_
 first | refine AOps.step (Val.pickF hσ rfl rfl rfl rfl rfl) rfl rfl rfl ?_ | refine AOps.step (Val.pickB hσ rfl rfl rfl rfl rfl) rfl rfl rfl ?_ | refine AOps.step (Val.pickT hσ rfl rfl rfl rfl rfl) rfl rfl rfl ?_
 refine jst hσ rfl rfl rfl rfl rfl ?_
 refine jn ?_
 refine AWP.ret ?_
 refine ⟨.inl rfl, _, Ent.refl, _, rfl, ?_⟩
 unfold jmpB; cases decide (x.op = 5) <;> rfl
theorem c117 {L : Nat} (h1 : 4096 ≤ L) (h2 : L ≤ 1073741824) {c : List In} : MC Tryz.prog L 53 [ains c] [] (Plain (eB (codeB c))) := by
 refine MC.alone ?_ rfl
 have hσ := SGok (nt := 19) h1 (Nat.le_trans h2 (by decide))
 refine MC.body hσ Tryz.func53 (by kernel_rfl) rfl rfl (Nat.le_of_ble_eq_true rfl) (fun hF => ?_)
 have hl : c.length ≤ L := by simpa [As.fact, A.fact, M.fact, D.fact, Ds.fact] using hF.1.1
 refine jsr ?_
 refine jst hσ rfl rfl rfl rfl rfl ?_
 refine jn ?_
 refine AWP.seq ?_
 refine jsr ?_
 refine jst hσ rfl rfl rfl rfl rfl ?_
 refine jn ?_
 refine AWP.block ?_
 refine AWP.loopP (X := Nat) (fun i => ⟨[(0, ains c), (3, eI i)], []⟩) (fun i => i ≤ c.length ∧ ∀ j (h : j < c.length), j < i → instrB c[j] = true) (fun i => c.length - i) 0 (Ent.env ⟨rfl, rfl, trivial⟩) ?_ (fun i hi => ?_)
 ·
  exact ⟨Nat.zero_le _, fun j h hj => absurd hj (Nat.not_lt_zero j)⟩
 refine AWP.seq ?_
 refine jsr ?_
 iterate 2 refine jst hσ rfl rfl rfl rfl rfl ?_
 first | refine jle hσ rfl rfl rfl rfl rfl rfl rfl rfl rfl rfl rfl ?_ | refine jst hσ rfl rfl rfl rfl rfl ?_ | refine jvf hσ rfl rfl rfl rfl rfl ?_
 refine jst hσ rfl rfl rfl rfl rfl ?_
 refine jn ?_
 refine AWP.cond hσ rfl rfl (fun hc7 => ?_) (fun hc7 => ?_)
 ·
  try simp only [jcs] at hc7
  refine AWP.skip ?_
  refine AWP.seq ?_
  refine AWP.block ?_
  refine jsr ?_
  iterate 2 refine jst hσ rfl rfl rfl rfl rfl ?_
  first | refine jix hσ rfl rfl rfl rfl rfl rfl rfl rfl rfl rfl rfl ?_ | refine jvf hσ rfl rfl rfl rfl rfl ?_
  refine jst hσ rfl rfl rfl rfl rfl ?_
  refine AOps.lone hσ rfl rfl rfl rfl (c163 h1 h2) (VAs.self rfl) rfl rfl rfl rfl rfl (B0 := 15000) rfl ?_
  refine jst hσ rfl rfl rfl rfl rfl ?_
  refine jn ?_
  refine AWP.cond hσ rfl rfl (fun hc15 => ?_) (fun hc15 => ?_)
  ·
   try simp only [jcs] at hc15
   refine jsr ?_
   refine jst hσ rfl rfl rfl rfl rfl ?_
   refine jn ?_
   refine AWP.ret ?_
   refine ⟨.inl rfl, _, Ent.refl, _, rfl, ?_⟩
   rw [Int.toNat_natCast, getD_lt (by omega)] at hc15
   rw [codeB, all_not i (by omega) hc15, Bool.false_and]
  ·
   try simp only [jcs] at hc15
   refine AWP.skip ?_
   refine AWP.region ?_
   refine jst hσ rfl rfl rfl rfl rfl ?_
   first | refine jfi hσ rfl rfl rfl rfl rfl ?_ | refine jvf hσ rfl rfl rfl rfl rfl ?_
   refine jst hσ rfl rfl rfl rfl rfl ?_
   refine jn ?_
   refine ⟨i + 1, Ent.env ⟨rfl, rfl, trivial⟩, ⟨by omega, fun j h hj => ?_⟩, by omega⟩
   by_cases e : j = i
   ·
    subst e; rw [Int.toNat_natCast, getD_lt h] at hc15; exact hc15
   ·
    exact hi.2 j h (by omega)
 ·
  try simp only [jcs] at hc7
  refine AWP.exit ?_
  refine jsr ?_
  refine jst hσ rfl rfl rfl rfl rfl ?_
  first | refine jle hσ rfl rfl rfl rfl rfl rfl rfl rfl rfl rfl rfl ?_ | refine jst hσ rfl rfl rfl rfl rfl ?_ | refine jvf hσ rfl rfl rfl rfl rfl ?_
  refine AOps.lone hσ rfl rfl rfl rfl (c84 h1 h2) (VAs.self rfl) rfl rfl rfl rfl rfl (B0 := 19000) rfl ?_
  refine jst hσ rfl rfl rfl rfl rfl ?_
  refine jn ?_
  refine AWP.ret ?_
  refine ⟨.inl rfl, _, Ent.refl, _, rfl, ?_⟩
  rw [codeB, all_of (fun j hj => hi.2 j hj (by omega)), Bool.true_and]
  rfl
theorem c118 {L : Nat} (h1 : 4096 ≤ L) (h2 : L ≤ 1073741824) {ts : List Tm} : MC Tryz.prog L 54 [atms ts] [] (Plain (eB (terms ts 6))) := by
 refine MC.alone ?_ rfl
 have hσ := SGok (nt := 27) h1 (Nat.le_trans h2 (by decide))
 refine MC.body hσ Tryz.func54 (by kernel_rfl) rfl rfl (Nat.le_of_ble_eq_true rfl) (fun hF => ?_)
 have hl : ts.length ≤ L := by simpa [As.fact, A.fact, M.fact, D.fact, Ds.fact] using hF.1.1
 refine jsr ?_
 refine jst hσ rfl rfl rfl rfl rfl ?_
 refine jn ?_
 refine AWP.seq ?_
 refine jsr ?_
 refine jst hσ rfl rfl rfl rfl rfl ?_
 refine jn ?_
 refine AWP.block ?_
 refine AWP.loopP (X := Nat) (fun i => ⟨[(0, atms ts), (3, eI i)], []⟩) (fun i => i ≤ ts.length ∧ ∀ j (h : j < ts.length), j < i → Tm.term ts[j] = true) (fun i => ts.length - i) 0 (Ent.env ⟨rfl, rfl, trivial⟩) ?_ (fun i hi => ?_)
 ·
  exact ⟨Nat.zero_le _, fun j h hj => absurd hj (Nat.not_lt_zero j)⟩
 refine AWP.seq ?_
 refine jsr ?_
 iterate 2 refine jst hσ rfl rfl rfl rfl rfl ?_
 first | refine jle hσ rfl rfl rfl rfl rfl rfl rfl rfl rfl rfl rfl ?_ | refine jst hσ rfl rfl rfl rfl rfl ?_ | refine jvf hσ rfl rfl rfl rfl rfl ?_
 refine jst hσ rfl rfl rfl rfl rfl ?_
 refine jf [7, 0, 3] rfl ?_
 refine jn ?_
 refine AWP.cond hσ rfl rfl (fun hc7 => ?_) (fun hc7 => ?_)
 ·
  skip
  refine AWP.skip ?_
  refine AWP.seq ?_
  refine AWP.block ?_
  refine jsr ?_
  have hil : i < ts.length := by have := of_decide_eq_true hc7; omega
  iterate 2 refine jst hσ rfl rfl rfl rfl rfl ?_
  first | refine jin hσ rfl rfl rfl rfl rfl rfl rfl rfl rfl rfl rfl ?_ | refine jix hσ rfl rfl rfl rfl rfl rfl rfl rfl rfl rfl rfl ?_ | refine jvf hσ rfl rfl rfl rfl rfl ?_
  refine jf [12, 7, 0, 3] rfl ?_
  refine AOps.lone hσ rfl rfl rfl rfl (c136 (t := ts.getD i default) h1 h2) (VAs.self rfl) rfl rfl rfl rfl rfl (B0 := 14000) rfl ?_
  iterate 2 refine jst hσ rfl rfl rfl rfl rfl ?_
  refine jf [15, 7, 0, 3] rfl ?_
  refine AOps.gr 7 rfl rfl rfl (fun hx => AN.step hx rfl rfl rfl (Val.of hσ rfl rfl) rfl rfl ( AN.step hx rfl rfl rfl (Val.of hσ rfl rfl) rfl rfl ( AN.step hx rfl rfl rfl (Val.indexN hσ rfl rfl rfl rfl rfl rfl rfl rfl (idxN (by first | omega | (simp at *; omega)))) rfl rfl ( AN.step hx rfl rfl rfl (Val.of hσ rfl rfl) rfl rfl ( AN.step hx rfl rfl rfl (Val.of hσ rfl rfl) rfl rfl ( AN.step hx rfl rfl rfl (Val.lenD hσ rfl rfl rfl rfl rfl rfl rfl rfl) rfl rfl ( AN.step hx rfl rfl rfl (Val.of hσ rfl rfl) rfl rfl ( AN.nil)))))))) rfl rfl ?_
  first | refine AOps.step (Val.pickF hσ rfl rfl rfl rfl rfl) rfl rfl rfl ?_ | refine AOps.step (Val.pickB hσ rfl rfl rfl rfl rfl) rfl rfl rfl ?_ | refine AOps.step (Val.pickT hσ rfl rfl rfl rfl rfl) rfl rfl rfl ?_
  refine jf [23, 7, 0, 3] rfl ?_
  refine jn ?_
  refine AWP.cond hσ rfl rfl (fun hc23 => ?_) (fun hc23 => ?_)
  ·
   skip
   refine jsr ?_
   refine jst hσ rfl rfl rfl rfl rfl ?_
   refine jn ?_
   refine AWP.ret ?_
   refine ⟨.inl rfl, _, Ent.refl, _, rfl, ?_⟩
   have h9 := notF ((nterm _).symm.trans hc23)
   rw [getD_lt hil] at h9
   rw [terms, all_not i hil h9, Bool.false_and]
  ·
   skip
   refine AWP.skip ?_
   refine AWP.region ?_
   refine jst hσ rfl rfl rfl rfl rfl ?_
   first | refine jfi hσ rfl rfl rfl rfl rfl ?_ | refine jvf hσ rfl rfl rfl rfl rfl ?_
   refine jst hσ rfl rfl rfl rfl rfl ?_
   refine jf [3, 23, 7, 0] rfl ?_
   refine jn ?_
   refine ⟨i + 1, Ent.env ⟨rfl, rfl, trivial⟩, ⟨by omega, fun j h hj => ?_⟩, by omega⟩
   by_cases e : j = i
   ·
    subst e; rw [← getD_lt h]; exact notT ((nterm _).symm.trans hc23)
   ·
    exact hi.2 j h (by omega)
 ·
  skip
  refine AWP.exit ?_
  refine jsr ?_
  refine jst hσ rfl rfl rfl rfl rfl ?_
  first | refine jle hσ rfl rfl rfl rfl rfl rfl rfl rfl rfl rfl rfl ?_ | refine jst hσ rfl rfl rfl rfl rfl ?_ | refine jvf hσ rfl rfl rfl rfl rfl ?_
  iterate 2 refine jst hσ rfl rfl rfl rfl rfl ?_
  refine jf [2, 7, 0, 3] rfl ?_
  refine jn ?_
  refine AWP.ret ?_
  refine ⟨.inl rfl, _, Ent.refl, _, rfl, ?_⟩
  have h9 := of_decide_eq_false hc7
  rw [terms, all_of (fun j hj => hi.2 j hj (by omega)), Bool.true_and]
end Go.Al
