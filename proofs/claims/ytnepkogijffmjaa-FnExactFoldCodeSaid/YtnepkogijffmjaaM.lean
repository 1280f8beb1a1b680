/- What the program's folding comes to; the reference's folding. -/
import Derived.Test.YtnepkogijffmjaaL
namespace Go.Al
open Go.Proofs
set_option linter.unusedVariables false
set_option linter.unusedSimpArgs false
set_option maxRecDepth 10000
/-! What the program's folding comes to, and that it is the reference's. -/
abbrev cntT (d : List Bool) (n : Nat) : Nat := (d.take n).count true
def lessI (d : List Bool) (x : In) : In := if jmpB x = true then ⟨x.op, x.a - cntT d x.a.toNat⟩ else x
def lessP (d : List Bool) (p : Pt) : Pt := ⟨p.k - cntT d p.k.toNat, p.fs⟩
def keepL : List Bool → List In → List In
  | b :: d, x :: c => if b = true then keepL d c else x :: keepL d c
  | _, _ => []
def withoutR (d : List Bool) (a : An) : An := ⟨a.pre, a.post, (keepL d a.code).map (lessI d), a.pts.map (lessP d)⟩
theorem keepL_append : ∀ {d1 d2 : List Bool} {c1 c2 : List In}, d1.length = c1.length → keepL (d1 ++ d2) (c1 ++ c2) = keepL d1 c1 ++ keepL d2 c2
  | [], d2, [], c2, _ => rfl
  | [], _, _ :: _, _, h => by simp at h
  | _ :: _, _, [], _, h => by simp at h
  | b :: d1, d2, x :: c1, c2, h => by
    have := keepL_append (d1 := d1) (d2 := d2) (c1 := c1) (c2 := c2) (by simpa using h)
    simp only [List.cons_append, keepL]
    split
    · exact this
    · rw [this]; rfl
theorem keepL_true : ∀ {n : Nat} {c : List In}, keepL (List.replicate n true) c = []
  | 0, c => by cases c <;> rfl
  | n + 1, [] => rfl
  | n + 1, x :: c => by rw [List.replicate_succ, keepL, if_pos rfl]; exact keepL_true
theorem keepL_false : ∀ {n : Nat} {c : List In}, n = c.length → keepL (List.replicate n false) c = c
  | 0, [], _ => rfl
  | 0, _ :: _, h => by simp at h
  | n + 1, [], h => by simp at h
  | n + 1, x :: c, h => by rw [List.replicate_succ, keepL, if_neg (by decide), keepL_false (by simpa using h)]
theorem keepL_succ {d : List Bool} {c : List In} {i : Nat} (h1 : i < d.length) (h2 : i < c.length) :
    keepL (d.take (i + 1)) (c.take (i + 1)) = keepL (d.take i) (c.take i) ++ (if d.getD i default = true then [] else [c.getD i default]) := by
  rw [List.take_succ_eq_append_getElem h1, List.take_succ_eq_append_getElem h2, keepL_append (by simp; omega), getD_lt h1, getD_lt h2]
  simp only [keepL]
theorem keepL_len : ∀ {d : List Bool} {c : List In}, (keepL d c).length ≤ c.length
  | [], _ => by simp [keepL]
  | _ :: _, [] => by simp [keepL]
  | b :: d, x :: c => by
    have := keepL_len (d := d) (c := c)
    rw [keepL]; split <;> simp <;> omega
theorem cntT_succ {d : List Bool} {i : Nat} (h : i < d.length) : cntT d (i + 1) = cntT d i + (if d.getD i default = true then 1 else 0) := by
  rw [cntT, List.take_succ_eq_append_getElem h, List.count_append, getD_lt h]
  cases d[i] <;> rfl
theorem cntT_le {d : List Bool} {i : Nat} : cntT d i ≤ i := by
  have h1 := List.count_le_length (a := true) (l := d.take i)
  rw [List.length_take] at h1; show List.count true (d.take i) ≤ i; omega
theorem cntT_len {d : List Bool} {i : Nat} : cntT d i ≤ d.length := by
  have h1 := List.count_le_length (a := true) (l := d.take i)
  rw [List.length_take] at h1; show List.count true (d.take i) ≤ d.length; omega
/-- The states of the loop that lays the new instructions. -/
def cI (c by' : List In) (k i : Nat) : List In := c.take k ++ (by'.take i ++ c.drop (k + min i by'.length))
def dI (N k m i : Nat) : List Bool := List.replicate (k + m) false ++ (List.replicate (i - m) true ++ List.replicate (N - k - max i m) false)
theorem cI_zero {c b : List In} {k : Nat} : cI c b k 0 = c := by simp [cI]
theorem dI_zero {N k m : Nat} (h : k + m ≤ N) : dI N k m 0 = List.replicate N false := by
  rw [dI, show N - k - max 0 m = N - (k + m) by omega, Nat.zero_sub, List.replicate_zero, List.nil_append, List.replicate_append_replicate, show k + m + (N - (k + m)) = N by omega]
theorem cI_len {c b : List In} {k i : Nat} (h : k + b.length ≤ c.length) : (cI c b k i).length = c.length := by
  simp only [cI, List.length_append, List.length_take, List.length_drop]; omega
theorem dI_len {N k m i : Nat} (h : k + i ≤ N) (hm : k + m ≤ N) : (dI N k m i).length = N := by
  simp only [dI, List.length_append, List.length_replicate]; omega
theorem cI_set {c b : List In} {k i : Nat} (hb : i < b.length) (h : k + b.length ≤ c.length) : (cI c b k i).set (k + i) (b.getD i default) = cI c b k (i + 1) := by
  unfold cI
  have hk : (c.take k).length = k := by rw [List.length_take]; omega
  have hi : (b.take i).length = i := by rw [List.length_take]; omega
  rw [List.set_append_right _ _ (by omega), hk, List.set_append_right _ _ (by omega), hi, Nat.min_eq_left (Nat.le_of_lt hb), show k + i - k - i = 0 by omega, List.drop_eq_getElem_cons (show k + i < c.length by omega), List.set_cons_zero,
    Nat.min_eq_left hb, getD_lt hb, List.take_succ_eq_append_getElem hb, List.append_assoc]
  rfl
theorem cI_same {c b : List In} {k i : Nat} (hb : b.length ≤ i) : cI c b k (i + 1) = cI c b k i := by
  unfold cI
  rw [List.take_of_length_le hb, List.take_of_length_le (show b.length ≤ i + 1 by omega), Nat.min_eq_right hb, Nat.min_eq_right (show b.length ≤ i + 1 by omega)]
theorem dI_set {N k m i : Nat} (hm : m ≤ i) (h : k + i < N) : (dI N k m i).set (k + i) true = dI N k m (i + 1) := by
  unfold dI
  rw [List.set_append_right _ _ (by rw [List.length_replicate]; omega), List.length_replicate, List.set_append_right _ _ (by rw [List.length_replicate]; omega), List.length_replicate,
    show k + i - (k + m) - (i - m) = 0 by omega, show N - k - max i m = (N - k - max (i + 1) m) + 1 by omega, List.replicate_succ, List.set_cons_zero, show i + 1 - m = (i - m) + 1 by omega, List.replicate_succ']
  simp
theorem dI_same {N k m i : Nat} (hm : i < m) : dI N k m (i + 1) = dI N k m i := by
  unfold dI
  rw [show i + 1 - m = 0 by omega, show i - m = 0 by omega, show max (i + 1) m = max i m by omega]
theorem cntT_dI {N k m n z : Nat} (hm : m ≤ n) (h : k + n ≤ N) : cntT (dI N k m n) z = min (z - (k + m)) (n - m) := by
  unfold cntT dI
  rw [List.take_append, List.count_append, List.take_append, List.count_append, List.take_replicate, List.take_replicate, List.take_replicate, List.count_replicate, List.count_replicate, List.count_replicate]
  simp
theorem without_spl {a : An} {k : Nat} (hA : AOk a) (hr : 0 < (ruleA a k).1) :
    withoutR (dI a.code.length k (ruleA a k).2.length (ruleA a k).1) ⟨a.pre, a.post, cI a.code (ruleA a k).2 k (ruleA a k).1, a.pts⟩ = splR a k (ruleA a k).1 (ruleA a k).2 := by
  have hk := rule_in hr
  have hok := ruleR_ok hr
  have hl1 : (ruleA a k).2.length < (ruleA a k).1 := hok.lt
  have hpl : ∀ {z : Int}, plB a.code a.pts z = true → z ≤ k ∨ ((k + (ruleA a k).1 : Nat) : Int) ≤ z := fun hz => rule_place hr hz
  have hnj : ∀ x ∈ (ruleA a k).2, jmpB x = false := hok.jmp
  generalize (ruleA a k).1 = n at *
  generalize (ruleA a k).2 = b at *
  have hkeep : keepL (dI a.code.length k b.length n) (cI a.code b k n) = a.code.take k ++ b ++ a.code.drop (k + n) := by
    unfold dI cI
    have e1 : a.code.drop (k + b.length) = (a.code.drop (k + b.length)).take (n - b.length) ++ a.code.drop (k + n) := by
      conv => lhs; rw [← List.take_append_drop (n - b.length) (a.code.drop (k + b.length))]
      rw [List.drop_drop, show k + b.length + (n - b.length) = k + n by omega]
    rw [Nat.min_eq_right (Nat.le_of_lt hl1), List.take_of_length_le (Nat.le_of_lt hl1), Nat.max_eq_left (Nat.le_of_lt hl1), e1, ← List.append_assoc (List.take k a.code) b]
    rw [keepL_append (by rw [List.length_replicate, List.length_append, List.length_take]; omega), keepL_false (by rw [List.length_append, List.length_take]; omega),
      keepL_append (by rw [List.length_replicate, List.length_take, List.length_drop]; omega), keepL_true, keepL_false (by rw [List.length_drop]; omega)]
    rfl
  have hcnt : ∀ {z : Int}, 0 ≤ z → (z ≤ k ∨ ((k + n : Nat) : Int) ≤ z) → ((cntT (dI a.code.length k b.length n) z.toNat : Nat) : Int) = if (k : Int) < z then (n : Int) - b.length else 0 := by
    intro z h0 hz
    rw [cntT_dI (Nat.le_of_lt hl1) hk]
    split <;> omega
  unfold withoutR splR
  simp only [hkeep]
  congr 1
  · refine List.map_congr_left fun x hx => ?_
    unfold lessI sMap
    cases hj : jmpB x with
    | false => simp
    | true =>
      have hx' : x ∈ a.code := by
        simp only [List.append_assoc, List.mem_append] at hx
        rcases hx with hx | hx | hx
        · exact List.mem_of_mem_take hx
        · rw [hnj x hx] at hj; cases hj
        · exact List.mem_of_mem_drop hx
      have hi := hA.code x hx'
      have h0 : 0 ≤ x.a := by
        simp only [jmpB, Bool.or_eq_true, decide_eq_true_eq] at hj
        unfold instrB at hi
        rw [if_neg (by omega), if_neg (by omega), if_pos hj] at hi
        simp only [inB, Bool.and_eq_true, decide_eq_true_eq] at hi; omega
      rw [if_pos rfl, hcnt h0 (hpl (by rw [plB, jmpTo_of hx' hj]; rfl))]
      by_cases hz : (k : Int) < x.a
      · rw [if_pos hz, if_pos ⟨rfl, hz⟩]
      · rw [if_neg hz, if_neg (fun h => hz h.2)]; simp
  · refine List.map_congr_left fun p hp => ?_
    have h0 := (hA.pts p hp).1
    unfold lessP sPt
    rw [hcnt h0 (hpl (by rw [plB, ptAt_of hp, Bool.or_true]))]
    by_cases hz : (k : Int) < p.k
    · rw [if_pos hz, if_pos hz]
    · rw [if_neg hz, if_neg hz]; simp
/-- The instructions up to the next place. -/
theorem segF_take {pl : Int → Bool} : ∀ {m : Nat} {l : List In} {k : Nat}, (∀ i, i < m → pl ((k + i : Nat) : Int) = false) → (l.length ≤ m ∨ pl ((k + m : Nat) : Int) = true) → segF pl k l = l.take m
  | m, [], k, _, _ => by simp [segF]
  | 0, x :: r, k, _, h => by
    have : pl (k : Int) = true := by simpa using h
    rw [segF, if_pos this]; rfl
  | m + 1, x :: r, k, h1, h2 => by
    have h0 : ¬ pl (k : Int) = true := by simpa using h1 0 (Nat.zero_lt_succ _)
    have e := segF_take (pl := pl) (m := m) (l := r) (k := k + 1) (fun i hi => by have := h1 (i + 1) (by omega); rwa [show k + (i + 1) = k + 1 + i by omega] at this)
      (by rcases h2 with h2 | h2
          · exact .inl (by rw [List.length_cons] at h2; omega)
          · exact .inr (by rwa [show k + 1 + m = k + (m + 1) by omega]))
    rw [segF, if_neg h0, List.take_succ_cons, e]
theorem sgt_take {c : List In} {ps : List Pt} {k e : Nat} (hk : k < e) (he : e ≤ c.length) (h1 : ∀ j, k < j → j < e → plB c ps (j : Int) = false) (h2 : c.length ≤ e ∨ plB c ps (e : Int) = true) : sgt c ps k = (c.drop k).take (e - k) := by
  rw [sgt, List.drop_eq_getElem_cons (show k < c.length by omega), show e - k = (e - k - 1) + 1 by omega, List.take_succ_cons]
  show c[k] :: segF (plB c ps) (k + 1) (c.drop (k + 1)) = _
  rw [segF_take (m := e - k - 1) (fun i hi => h1 _ (by omega) (by omega)) (by
    rw [List.length_drop]
    rcases h2 with h2 | h2
    · exact .inl (by omega)
    · exact .inr (by rwa [show k + 1 + (e - k - 1) = e by omega]))]
theorem stepR_at {a : An} {k : Nat} (hk : k < a.code.length) (h : 0 < (ruleA a k).1) (h0 : ∀ j, j < k → (ruleA a j).1 = 0) : stepR a = some (splR a k (ruleA a k).1 (ruleA a k).2) :=
  stepF_at h (Nat.zero_le _) (by omega) fun i _ hi => h0 i hi
theorem stepR_no {a : An} (h0 : ∀ j, j < a.code.length → (ruleA a j).1 = 0) : stepR a = none := stepF_none fun i _ hi => h0 i (by omega)
/-- The reference's loop: a state that is folded on. -/
structure Fo (a out : An) (k : Nat) : Prop where
  le : k ≤ out.code.length
  eq : foldR out = foldR a
  ok : AOk out
  no : ∀ j, j < k → (ruleA out j).1 = 0
theorem Fo.zero {a : An} (h : AOk a) : Fo a a 0 := ⟨Nat.zero_le _, rfl, h, fun j hj => absurd hj (Nat.not_lt_zero j)⟩
theorem Fo.skip {a out : An} {k : Nat} (h : Fo a out k) (hk : k < out.code.length) (h0 : (ruleA out k).1 = 0) : Fo a out (k + 1) :=
  ⟨hk, h.eq, h.ok, fun j hj => by
    by_cases e : j = k
    · subst e; exact h0
    · exact h.no j (by omega)⟩
theorem Fo.step {a out : An} {k : Nat} (h : Fo a out k) (hk : k < out.code.length) (h0 : 0 < (ruleA out k).1) : Fo a (splR out k (ruleA out k).1 (ruleA out k).2) 0 :=
  ⟨Nat.zero_le _, (foldR_some (stepR_at hk h0 h.no)).symm.trans h.eq, h.ok.spl h0, fun j hj => absurd hj (Nat.not_lt_zero j)⟩
theorem Fo.done {a out : An} {k : Nat} (h : Fo a out k) (hk : out.code.length ≤ k) : foldR a = out := by
  rw [← h.eq]; exact foldR_none (stepR_no fun j hj => h.no j (by omega))
/-- The program's loop. -/
structure Gn (a out : An) : Prop where
  eq : foldR out = foldR a
  ok : AOk out
theorem Gn.zero {a : An} (h : AOk a) : Gn a a := ⟨rfl, h⟩
theorem Gn.step {a out b : An} (h : Gn a out) (hs : stepR out = some b) : Gn a b ∧ b.code.length < out.code.length := by
  refine ⟨⟨(foldR_some hs).symm.trans h.eq, ?_⟩, stepR_lt hs⟩
  obtain ⟨j, _, _, h3, h4, _⟩ := stepF_some hs
  subst h4; exact h.ok.spl h3
theorem Gn.done {a out : An} (h : Gn a out) (hs : stepR out = none) : foldR a = out := by rw [← h.eq]; exact foldR_none hs
end Go.Al
namespace Go.Al
open Go.Proofs
set_option linter.unusedVariables false
set_option linter.unusedSimpArgs false
set_option maxRecDepth 10000
set_option maxHeartbeats 4000000
theorem jmp_cond {x : In} {k l : Int} (h : (bif jmpB x then decide (k < x.a) else false) = true) : sMap k l x = ⟨x.op, x.a - l⟩ := by
  obtain ⟨h1, h2⟩ := andT h
  unfold sMap; rw [if_pos ⟨h1, of_decide_eq_true h2⟩]
theorem jmp_cond' {x : In} {k l : Int} (h : (bif jmpB x then decide (k < x.a) else false) = false) : sMap k l x = x := by
  unfold sMap; rw [if_neg (fun c => by rw [c.1, decide_eq_true c.2] at h; cases h)]
theorem c121 {L : Nat} (h1 : 4096 ≤ L) (h2 : L ≤ 1073741824) {a : An} {k n : Nat} {b : List In} (hkn : k + n ≤ a.code.length) (h80 : a.code.length ≤ 80) (hbn : b.length ≤ n) (hx : ∀ x ∈ newC a k n b, -1000000 ≤ x.a ∧ x.a ≤ 1000000) (hp : ∀ p ∈ a.pts, 0 ≤ p.k ∧ p.k ≤ 79) : MC Try.prog L 38 [ptr a.data, eI k, eI n, ains b] [] (Rows (anRs (splR a k n b)) [trow a.pre, trow a.post, irow (splR a k n b).code, prow (splR a k n b).pts]) := by
 refine MC.rows ?_
 have hσ := SGok (nt := 101) h1 (Nat.le_trans h2 (by decide))
 refine MC.body hσ Try.func38 (by kernel_rfl) rfl rfl (Nat.le_of_ble_eq_true rfl) (fun hF => ?_)
 have hl : a.code.length ≤ L := by simpa [As.fact, A.fact, M.fact, D.fact, Ds.fact] using hF.1.2.2.1.1
 have hlp : a.pts.length ≤ L := by simpa [As.fact, A.fact, M.fact, D.fact, Ds.fact] using hF.1.2.2.2.1.1
 have hcl : (splR a k n b).code.length = (newC a k n b).length := by simp [splR]
 have hnl : (newC a k n b).length + n = a.code.length + b.length := by simp only [newC, List.length_append, List.length_take, List.length_drop]; omega
 refine AWP.seq ?_
 refine AWP.region ?_
 refine AOps.heap (HS.alloc hσ rfl rfl rfl rfl rfl) rfl ?_
 apply AOps.norm
 ·
  repeat' (first | exact HN.nil rfl | apply HN.cons rfl | exact BN.row rfl | exact BN.map rfl | apply BN.box rfl | exact MN.nil rfl | apply MN.cons rfl | exact XN.d rfl | exact XN.rs rfl | exact XN.self)
 refine AOps.nil ?_
 refine AWP.seq ?_
 refine AWP.region ?_
 refine AOps.step (Val.of hσ rfl rfl) rfl rfl rfl ?_
 refine AOps.rows hσ (B0 := 15000) rfl rfl rfl rfl (c119 (a := a) h1 h2) (VAs.self rfl) rfl rfl rfl rfl rfl rfl ?_
 apply AOps.norm
 ·
  repeat' (first | exact HN.nil rfl | apply HN.cons rfl | exact BN.row rfl | exact BN.map rfl | apply BN.box rfl | exact MN.nil rfl | apply MN.cons rfl | exact XN.d rfl | exact XN.rs rfl | exact XN.self)
 refine AOps.forget [(14, _), (8, _), (0, _), (1, _), (2, _), (3, _)] ⟨rfl, rfl, rfl, rfl, rfl, rfl, trivial⟩ ?_
 refine AOps.heap (HS.alloc hσ rfl rfl rfl rfl rfl) rfl ?_
 apply AOps.norm
 ·
  repeat' (first | exact HN.nil rfl | apply HN.cons rfl | exact BN.row rfl | exact BN.map rfl | apply BN.box rfl | exact MN.nil rfl | apply MN.cons rfl | exact XN.d rfl | exact XN.rs rfl | exact XN.self)
 refine AOps.heap (HS.storeBox hσ rfl rfl rfl rfl rfl rfl rfl rfl rfl rfl rfl) rfl ?_
 apply AOps.norm
 ·
  repeat' (first | exact HN.nil rfl | apply HN.cons rfl | exact BN.row rfl | exact BN.map rfl | apply BN.box rfl | exact MN.nil rfl | apply MN.cons rfl | exact XN.d rfl | exact XN.rs rfl | exact XN.self)
 refine AOps.nil ?_
 refine AWP.seq ?_
 refine AWP.region ?_
 refine AOps.step (Val.of hσ rfl rfl) rfl rfl rfl ?_
 refine AOps.step (Val.of hσ rfl rfl) rfl rfl rfl ?_
 refine AOps.step ((Val.lenD hσ rfl rfl rfl rfl rfl rfl rfl rfl).cast (v' := eI b.length) (by simp)) rfl rfl rfl ?_
 first | refine AOps.step (Val.fits64 hσ rfl rfl (by first | omega | (simp at *; omega)) (by first | omega | (simp at *; omega))) rfl rfl rfl ?_ | refine AOps.step (Val.vif hσ rfl rfl (by first | omega | (simp at *; omega))) rfl rfl rfl ?_
 refine AOps.step (Val.of hσ rfl rfl) rfl rfl rfl ?_
 refine AOps.forget [(10, _), (9, _), (14, _), (8, _), (0, _), (1, _), (2, _), (3, _)] ⟨rfl, rfl, rfl, rfl, rfl, rfl, rfl, rfl, trivial⟩ ?_
 refine AOps.nil ?_
 refine AWP.seq ?_
 refine AWP.region ?_
 refine AOps.heap (HS.lit hσ rfl rfl rfl) rfl ?_
 apply AOps.norm
 ·
  repeat' (first | exact HN.nil rfl | apply HN.cons rfl | exact BN.row rfl | exact BN.map rfl | apply BN.box rfl | exact MN.nil rfl | apply MN.cons rfl | exact XN.d rfl | exact XN.rs rfl | exact XN.self)
 refine AOps.step (Val.of hσ rfl rfl) rfl rfl rfl ?_
 refine AOps.step (Val.of hσ rfl rfl) rfl rfl rfl ?_
 refine AOps.step (Val.of hσ rfl rfl) rfl rfl rfl ?_
 refine AOps.step (Val.of hσ rfl rfl) rfl rfl rfl ?_
 refine AOps.step (Val.of hσ rfl rfl) rfl rfl rfl ?_
 refine AOps.step (Val.sliceD (sz := 2) (xs := a.code.map In.cells) (a := 0) (b := k) (ys := (a.code.take k).map In.cells) hσ rfl rfl rfl rfl rfl rfl rfl rfl rfl rfl nat_i ⟨Nat.zero_le _, by simp; omega⟩ (by simp [List.map_take])) rfl rfl rfl ?_
 refine AOps.forget [(25, _), (19, _), (10, _), (9, _), (14, _), (8, _), (0, _), (1, _), (2, _), (3, _)] ⟨rfl, rfl, rfl, rfl, rfl, rfl, rfl, rfl, rfl, rfl, trivial⟩ ?_
 refine AOps.heap (HS.appCopy (own := true) (xs := []) (ys := (a.code.take k).map In.cells) (zs := (a.code.take k).map In.cells) (n := (a.code.take k).length) hσ rfl rfl rfl rfl rfl rfl rfl rfl rfl rfl rfl rfl rfl rfl rfl rfl (.row rfl rfl) (.slc (.inr in_scal)) in_size rfl (by simp; omega) (by simp; omega) rfl (by simp)) rfl ?_
 apply AOps.norm
 ·
  repeat' (first | exact HN.nil rfl | apply HN.cons rfl | exact BN.row rfl | exact BN.map rfl | apply BN.box rfl | exact MN.nil rfl | apply MN.cons rfl | exact XN.d rfl | exact XN.rs rfl | exact XN.self)
 apply AOps.norm
 ·
  repeat' (first | exact HN.nil rfl | apply HN.cons rfl | exact BN.row rfl | exact BN.map rfl | apply BN.box rfl | exact MN.nil rfl | apply MN.cons rfl | exact XN.d rfl | exact XN.rs rfl | exact XN.self)
 refine AOps.step (Val.of hσ rfl rfl) rfl rfl rfl ?_
 refine AOps.forget [(27, _), (26, _), (10, _), (9, _), (14, _), (8, _), (0, _), (1, _), (2, _), (3, _)] ⟨rfl, rfl, rfl, rfl, rfl, rfl, rfl, rfl, rfl, rfl, trivial⟩ ?_
 refine AOps.heap (HS.appCopy (own := true) (xs := (a.code.take k).map In.cells) (ys := b.map In.cells) (zs := ((a.code.take k) ++ b).map In.cells) (n := ((a.code.take k) ++ b).length) hσ rfl rfl rfl rfl rfl rfl rfl rfl rfl rfl rfl rfl rfl rfl rfl rfl (.row rfl (by simp)) (.slc (.inr in_scal)) in_size rfl (by simp; omega) (by simp; omega) (by simp) (by simp)) rfl ?_
 apply AOps.norm
 ·
  repeat' (first | exact HN.nil rfl | apply HN.cons rfl | exact BN.row rfl | exact BN.map rfl | apply BN.box rfl | exact MN.nil rfl | apply MN.cons rfl | exact XN.d rfl | exact XN.rs rfl | exact XN.self)
 apply AOps.norm
 ·
  repeat' (first | exact HN.nil rfl | apply HN.cons rfl | exact BN.row rfl | exact BN.map rfl | apply BN.box rfl | exact MN.nil rfl | apply MN.cons rfl | exact XN.d rfl | exact XN.rs rfl | exact XN.self)
 refine AOps.step (Val.of hσ rfl rfl) rfl rfl rfl ?_
 refine AOps.forget [(29, _), (28, _), (10, _), (9, _), (14, _), (8, _), (0, _), (1, _), (2, _), (3, _)] ⟨rfl, rfl, rfl, rfl, rfl, rfl, rfl, rfl, rfl, rfl, trivial⟩ ?_
 refine AOps.heap (HS.storeBox hσ rfl rfl rfl rfl rfl rfl rfl rfl rfl rfl rfl) rfl ?_
 apply AOps.norm
 ·
  repeat' (first | exact HN.nil rfl | apply HN.cons rfl | exact BN.row rfl | exact BN.map rfl | apply BN.box rfl | exact MN.nil rfl | apply MN.cons rfl | exact XN.d rfl | exact XN.rs rfl | exact XN.self)
 refine AOps.forget [(10, _), (9, _), (14, _), (8, _), (0, _), (1, _), (2, _), (3, _)] ⟨rfl, rfl, rfl, rfl, rfl, rfl, rfl, rfl, trivial⟩ ?_
 refine AOps.nil ?_
 refine AWP.seq ?_
 refine AWP.drawP hσ _ [_, _, _, _, _, _, _, _, _, _, _, _, _] [⟨[], 0, 0, none⟩, ⟨[0], 0, 0, none⟩, ⟨[], 0, 0, none⟩, ⟨[2], 0, 0, none⟩, ⟨[2, 3], 0, 0, none⟩, ⟨[2, 3, 4], 0, 0, none⟩, ⟨[], 0, 0, none⟩, ⟨[], 0, 0, none⟩, ⟨[6, 7], 0, 0, none⟩, ⟨[2, 3, 4, 5, 6, 7, 8], 0, 0, none⟩, ⟨[0, 1, 2, 3, 4, 5, 6, 7, 8, 9], 0, 0, some 0⟩, ⟨[0, 1, 2, 3, 4, 5, 6, 7, 8, 9, 10], 1, 1, none⟩, ⟨[0, 1, 2, 3, 4, 5, 6, 7, 8, 9, 10, 11], 0, 0, some 1⟩] [10, 12] [_, _, _] [[28], []] rfl rfl (by decide) (by decide) (by kernel_rfl) (And.intro (And.intro (Val.of hσ rfl rfl) rfl) (And.intro (And.intro (Val.of hσ rfl rfl) rfl) (And.intro (And.intro (Val.of hσ rfl rfl) rfl) (And.intro (And.intro (Val.of hσ rfl rfl) rfl) (And.intro (And.intro (Val.of hσ rfl rfl) rfl) (And.intro (And.intro (Val.of hσ rfl rfl) rfl) (And.intro (And.intro (Val.of hσ rfl rfl) rfl) (And.intro (And.intro (Val.of hσ rfl rfl) rfl) (And.intro (And.intro (Val.fits64 hσ rfl rfl (by first | omega | (simp at *; omega)) (by first | omega | (simp at *; omega))) rfl) (And.intro (And.intro (Val.sliceD (sz := 2) (xs := a.code.map In.cells) (a := k + n) (b := (a.code.map In.cells).length) (ys := (a.code.drop (k + n)).map In.cells) hσ rfl rfl rfl rfl rfl rfl rfl rfl rfl (nat_e (by omega)) rfl ⟨by simp; omega, Nat.le_refl _⟩ (by rw [List.take_of_length_le (by simp), List.map_drop])) rfl) (And.intro (And.intro (Eff.appCopy (own := true) (xs := ((a.code.take k) ++ b).map In.cells) (ys := (a.code.drop (k + n)).map In.cells) (zs := (newC a k n b).map In.cells) (n := (splR a k n b).code.length) hσ rfl rfl rfl rfl rfl rfl rfl rfl rfl rfl rfl rfl rfl rfl rfl rfl (.row rfl (by simp)) (.slc (.inr in_scal)) in_size rfl (by simp; omega) (by simp; omega) (by simp) (by rw [List.length_map, hcl]) rfl) rfl) (And.intro (And.intro (Val.of hσ rfl rfl) rfl) (And.intro (And.intro (Eff.p (Eff.storeBox hσ rfl rfl rfl rfl rfl rfl rfl rfl rfl rfl rfl rfl rfl)) rfl) trivial))))))))))))) ?_
 refine AWP.forget [(10, _), (9, _), (14, _), (8, _), (0, _), (1, _), (2, _), (3, _)] ⟨rfl, rfl, rfl, rfl, rfl, rfl, rfl, rfl, trivial⟩ ?_
 apply AWP.norm
 ·
  repeat' (first | exact HN.nil rfl | apply HN.cons rfl | exact BN.row rfl | exact BN.map rfl | apply BN.box rfl | exact MN.nil rfl | apply MN.cons rfl | exact XN.d rfl | exact XN.rs rfl | exact XN.self)
 refine AWP.seq ?_
 refine AWP.seq ?_
 refine AWP.region ?_
 refine AOps.step (Val.of hσ rfl rfl) rfl rfl rfl ?_
 refine AOps.nil ?_
 refine AWP.block ?_
 refine AWP.loopP (X := Nat) (fun i => ⟨[(1, eI k), (8, .c (.pt 8 0 0)), (9, .c (.pt 9 0 0)), (10, eI ((n : Int) - b.length)), (11, eI i)], [(8, .box [.d .nils, .d .nils, .d .nils, .d .nils]), (9, .box [.rs 15000 0 a.pre.length, .rs 15001 0 a.post.length, .rs 900 0 (splR a k n b).code.length, .rs 15003 0 a.pts.length]), (900, .row true 2 ((upS (sMap k ((n : Int) - b.length)) (newC a k n b) i).map In.cells)), (15000, trow a.pre), (15001, trow a.post), (15003, prow a.pts)]⟩) (fun i => i ≤ (newC a k n b).length) (fun i => (newC a k n b).length - i) 0 (((Ent.sel [8, 9, 40, 15000, 15001, 15003] (e' := [(1, _), (8, _), (9, _), (10, _), (11, _)]) rfl rfl ⟨rfl, rfl, rfl, rfl, rfl, trivial⟩ rfl).trans (Ent.sub2 40 900 rfl rfl)).trans (Ent.to ⟨rfl, rfl, rfl, rfl, rfl, trivial⟩ rfl)) ?_ (fun i hi => ?_)
 ·
  exact Nat.zero_le _
 refine AWP.seq ?_
 refine AWP.seq ?_
 refine AWP.region ?_
 refine AOps.step (Val.of hσ rfl rfl) rfl rfl rfl ?_
 refine AOps.step (Val.of hσ rfl rfl) rfl rfl rfl ?_
 refine AOps.step (Val.of hσ rfl rfl) rfl rfl rfl ?_
 first | refine AOps.step (Val.lenD hσ rfl rfl rfl rfl rfl rfl rfl rfl) rfl rfl rfl ?_ | refine AOps.step (Val.of hσ rfl rfl) rfl rfl rfl ?_ | refine AOps.step (Val.vif hσ rfl rfl (by first | omega | (simp at *; omega))) rfl rfl rfl ?_
 refine AOps.step (Val.of hσ rfl rfl) rfl rfl rfl ?_
 refine AOps.forget [(46, _), (1, _), (8, _), (9, _), (10, _), (11, _)] ⟨rfl, rfl, rfl, rfl, rfl, rfl, trivial⟩ ?_
 refine AOps.nil ?_
 refine AWP.cond hσ rfl rfl (fun hc46 => ?_) (fun hc46 => ?_)
 ·
  skip
  refine AWP.skip ?_
  refine AWP.seq ?_
  refine AWP.block ?_
  refine AWP.seq ?_
  have hil : i < (newC a k n b).length := by have := of_decide_eq_true hc46; omega
  refine AWP.mid ⟨[(64, eB (bif jmpB ((newC a k n b).getD i default) then decide ((k : Int) < ((newC a k n b).getD i default).a) else false)), (1, eI k), (8, .c (.pt 8 0 0)), (9, .c (.pt 9 0 0)), (10, eI ((n : Int) - b.length)), (11, eI i)], [(8, .box [.d .nils, .d .nils, .d .nils, .d .nils]), (9, .box [.rs 15000 0 a.pre.length, .rs 15001 0 a.post.length, .rs 900 0 (splR a k n b).code.length, .rs 15003 0 a.pts.length]), (900, .row true 2 ((upS (sMap k ((n : Int) - b.length)) (newC a k n b) i).map In.cells)), (15000, trow a.pre), (15001, trow a.post), (15003, prow a.pts)]⟩ ?_ ?_
  ·
   skip
   refine AWP.region ?_
   have hil : i < (newC a k n b).length := by have := of_decide_eq_true hc46; omega
   refine AOps.step (Val.of hσ rfl rfl) rfl rfl rfl ?_
   refine AOps.step (Val.of hσ rfl rfl) rfl rfl rfl ?_
   refine AOps.step (Val.of hσ rfl rfl) rfl rfl rfl ?_
   first | refine AOps.step (Val.indexN hσ rfl rfl rfl rfl rfl rfl rfl rfl (idxN (by first | omega | (simp at *; omega)))) rfl rfl rfl ?_ | refine AOps.step (Val.indexD hσ rfl rfl rfl rfl rfl rfl rfl rfl (by first | omega | (simp at *; omega)) (idx_get (by first | omega | (simp at *; omega)) (by first | omega | (simp at *; omega)))) rfl rfl rfl ?_ | refine AOps.step (Val.vif hσ rfl rfl (by first | omega | (simp at *; omega))) rfl rfl rfl ?_
   refine AOps.step (Val.loadRow hσ (ex := ((newC a k n b).getD i default).cells) rfl rfl rfl rfl (upS_getj hil (by simp)) rfl) rfl rfl rfl ?_
   refine AOps.forget [(53, _), (46, _), (1, _), (8, _), (9, _), (10, _), (11, _)] ⟨rfl, rfl, rfl, rfl, rfl, rfl, rfl, trivial⟩ ?_
   refine AOps.lone hσ rfl rfl rfl rfl (c166 h1 h2) (VAs.self rfl) rfl rfl rfl rfl rfl (B0 := 55000) rfl ?_
   cases hb55 : jmpB ((newC a k n b).getD i default) with
   | true =>
    refine AOps.step (Val.of hσ rfl rfl) rfl rfl rfl ?_
    refine AOps.forget [(55, _), (46, _), (1, _), (8, _), (9, _), (10, _), (11, _)] ⟨rfl, rfl, rfl, rfl, rfl, rfl, rfl, trivial⟩ ?_
    refine AOps.live rfl rfl rfl rfl rfl ?_
    refine AOps.step (Val.of hσ rfl rfl) rfl rfl rfl ?_
    refine AOps.live rfl rfl rfl rfl rfl ?_
    refine AOps.step (Val.of hσ rfl rfl) rfl rfl rfl ?_
    refine AOps.forget [(57, _), (55, _), (46, _), (1, _), (8, _), (9, _), (10, _), (11, _)] ⟨rfl, rfl, rfl, rfl, rfl, rfl, rfl, rfl, trivial⟩ ?_
    refine AOps.live rfl rfl rfl rfl rfl ?_
    refine AOps.step (Val.of hσ rfl rfl) rfl rfl rfl ?_
    refine AOps.live rfl rfl rfl rfl rfl ?_
    first | refine AOps.step (Val.indexN hσ rfl rfl rfl rfl rfl rfl rfl rfl (idxN (by first | omega | (simp at *; omega)))) rfl rfl rfl ?_ | refine AOps.step (Val.indexD hσ rfl rfl rfl rfl rfl rfl rfl rfl (by first | omega | (simp at *; omega)) (idx_get (by first | omega | (simp at *; omega)) (by first | omega | (simp at *; omega)))) rfl rfl rfl ?_ | refine AOps.step (Val.vif hσ rfl rfl (by first | omega | (simp at *; omega))) rfl rfl rfl ?_
    refine AOps.forget [(59, _), (55, _), (46, _), (1, _), (8, _), (9, _), (10, _), (11, _)] ⟨rfl, rfl, rfl, rfl, rfl, rfl, rfl, rfl, trivial⟩ ?_
    refine AOps.live rfl rfl rfl rfl rfl ?_
    refine AOps.step (Val.of hσ rfl rfl) rfl rfl rfl ?_
    refine AOps.forget [(60, _), (55, _), (46, _), (1, _), (8, _), (9, _), (10, _), (11, _)] ⟨rfl, rfl, rfl, rfl, rfl, rfl, rfl, rfl, trivial⟩ ?_
    refine AOps.live rfl rfl rfl rfl rfl ?_
    refine AOps.step (Val.loadRow hσ (ex := ((newC a k n b).getD i default).cells) rfl rfl rfl rfl (upS_getj hil (by simp)) rfl) rfl rfl rfl ?_
    refine AOps.forget [(61, _), (55, _), (46, _), (1, _), (8, _), (9, _), (10, _), (11, _)] ⟨rfl, rfl, rfl, rfl, rfl, rfl, rfl, rfl, trivial⟩ ?_
    refine AOps.live rfl rfl rfl rfl rfl ?_
    refine AOps.step (Val.of hσ rfl rfl) rfl rfl rfl ?_
    refine AOps.live rfl rfl rfl rfl rfl ?_
    refine AOps.step (Val.of hσ rfl rfl) rfl rfl rfl ?_
    refine AOps.step (Val.pickY hσ rfl rfl rfl rfl rfl) rfl rfl rfl ?_
    refine AOps.forget [(64, _), (46, _), (1, _), (8, _), (9, _), (10, _), (11, _)] ⟨rfl, rfl, rfl, rfl, rfl, rfl, rfl, trivial⟩ ?_
    refine AOps.nil ?_
    exact ⟨rfl, Ent.to ⟨rfl, rfl, rfl, rfl, rfl, rfl, trivial⟩ rfl⟩
   | false =>
    refine AOps.step (Val.of hσ rfl rfl) rfl rfl rfl ?_
    refine AOps.forget [(55, _), (46, _), (1, _), (8, _), (9, _), (10, _), (11, _)] ⟨rfl, rfl, rfl, rfl, rfl, rfl, rfl, trivial⟩ ?_
    refine AOps.skip rfl rfl rfl rfl rfl rfl ?_
    refine AOps.skip rfl rfl rfl rfl rfl rfl ?_
    refine AOps.forget [(57, _), (55, _), (46, _), (1, _), (8, _), (9, _), (10, _), (11, _)] ⟨rfl, rfl, rfl, rfl, rfl, rfl, rfl, rfl, trivial⟩ ?_
    refine AOps.skip rfl rfl rfl rfl rfl rfl ?_
    refine AOps.skip rfl rfl rfl rfl rfl rfl ?_
    refine AOps.forget [(59, _), (55, _), (46, _), (1, _), (8, _), (9, _), (10, _), (11, _)] ⟨rfl, rfl, rfl, rfl, rfl, rfl, rfl, rfl, trivial⟩ ?_
    refine AOps.skip rfl rfl rfl rfl rfl rfl ?_
    refine AOps.forget [(60, _), (55, _), (46, _), (1, _), (8, _), (9, _), (10, _), (11, _)] ⟨rfl, rfl, rfl, rfl, rfl, rfl, rfl, rfl, trivial⟩ ?_
    refine AOps.skip rfl rfl rfl rfl rfl rfl ?_
    refine AOps.forget [(61, _), (55, _), (46, _), (1, _), (8, _), (9, _), (10, _), (11, _)] ⟨rfl, rfl, rfl, rfl, rfl, rfl, rfl, rfl, trivial⟩ ?_
    refine AOps.skip rfl rfl rfl rfl rfl rfl ?_
    refine AOps.skip rfl rfl rfl rfl rfl rfl ?_
    refine AOps.step (Val.pickN hσ rfl rfl rfl rfl rfl) rfl rfl rfl ?_
    refine AOps.forget [(64, _), (46, _), (1, _), (8, _), (9, _), (10, _), (11, _)] ⟨rfl, rfl, rfl, rfl, rfl, rfl, rfl, trivial⟩ ?_
    refine AOps.nil ?_
    exact ⟨rfl, Ent.to ⟨rfl, rfl, rfl, rfl, rfl, rfl, trivial⟩ rfl⟩
  refine AWP.cond hσ rfl rfl (fun hc64 => ?_) (fun hc64 => ?_)
  ·
   skip
   refine AWP.region ?_
   refine AOps.step (Val.of hσ rfl rfl) rfl rfl rfl ?_
   refine AOps.step (Val.of hσ rfl rfl) rfl rfl rfl ?_
   refine AOps.step (Val.of hσ rfl rfl) rfl rfl rfl ?_
   first | refine AOps.step (Val.indexN hσ rfl rfl rfl rfl rfl rfl rfl rfl (idxN (by first | omega | (simp at *; omega)))) rfl rfl rfl ?_ | refine AOps.step (Val.indexD hσ rfl rfl rfl rfl rfl rfl rfl rfl (by first | omega | (simp at *; omega)) (idx_get (by first | omega | (simp at *; omega)) (by first | omega | (simp at *; omega)))) rfl rfl rfl ?_ | refine AOps.step (Val.vif hσ rfl rfl (by first | omega | (simp at *; omega))) rfl rfl rfl ?_
   refine AOps.step (Val.of hσ rfl rfl) rfl rfl rfl ?_
   have hxi := hx _ (mem_getD hil)
   refine AOps.step (Val.loadRow hσ (ex := ((newC a k n b).getD i default).cells) rfl rfl rfl rfl (upS_getj hil (by simp)) rfl) rfl rfl rfl ?_
   refine AOps.step (Val.of hσ rfl rfl) rfl rfl rfl ?_
   first | refine AOps.step (Val.fits64 hσ rfl rfl (by first | omega | (simp at *; omega)) (by first | omega | (simp at *; omega))) rfl rfl rfl ?_ | refine AOps.step (Val.vif hσ rfl rfl (by first | omega | (simp at *; omega))) rfl rfl rfl ?_
   first | refine AOps.step (Val.indexN hσ rfl rfl rfl rfl rfl rfl rfl rfl (idxN (by first | omega | (simp at *; omega)))) rfl rfl rfl ?_ | refine AOps.step (Val.indexD hσ rfl rfl rfl rfl rfl rfl rfl rfl (by first | omega | (simp at *; omega)) (idx_get (by first | omega | (simp at *; omega)) (by first | omega | (simp at *; omega)))) rfl rfl rfl ?_ | refine AOps.step (Val.vif hσ rfl rfl (by first | omega | (simp at *; omega))) rfl rfl rfl ?_
   refine AOps.step (Val.of hσ rfl rfl) rfl rfl rfl ?_
   refine AOps.forget [(74, _), (72, _), (64, _), (1, _), (8, _), (9, _), (10, _), (11, _)] ⟨rfl, rfl, rfl, rfl, rfl, rfl, rfl, rfl, trivial⟩ ?_
   refine AOps.heap (HS.storeRow (ex := ((newC a k n b).getD i default).cells) (xs' := (upS (sMap k ((n : Int) - b.length)) (newC a k n b) (i + 1)).map In.cells) hσ rfl rfl rfl rfl rfl rfl rfl rfl rfl rfl rfl rfl rfl rfl (upS_getj hil (by simp)) (upS_rowj hil (by simp) (by rw [jmp_cond hc64]; rfl))) rfl ?_
   apply AOps.norm
   ·
    repeat' (first | exact HN.nil rfl | apply HN.cons rfl | exact BN.row rfl | exact BN.map rfl | apply BN.box rfl | exact MN.nil rfl | apply MN.cons rfl | exact XN.d rfl | exact XN.rs rfl | exact XN.self)
   apply AOps.norm
   ·
    repeat' (first | exact HN.nil rfl | apply HN.cons rfl | exact BN.row rfl | exact BN.map rfl | apply BN.box rfl | exact MN.nil rfl | apply MN.cons rfl | exact XN.d rfl | exact XN.rs rfl | exact XN.self)
   refine AOps.forget [(64, _), (1, _), (8, _), (9, _), (10, _), (11, _)] ⟨rfl, rfl, rfl, rfl, rfl, rfl, trivial⟩ ?_
   refine AOps.nil ?_
   refine AWP.region ?_
   refine AOps.step (Val.of hσ rfl rfl) rfl rfl rfl ?_
   first | refine AOps.step (Val.fits64 hσ rfl rfl (by first | omega | (simp at *; omega)) (by first | omega | (simp at *; omega))) rfl rfl rfl ?_ | refine AOps.step (Val.vif hσ rfl rfl (by first | omega | (simp at *; omega))) rfl rfl rfl ?_
   refine AOps.step (Val.of hσ rfl rfl) rfl rfl rfl ?_
   refine AOps.forget [(11, _), (64, _), (1, _), (8, _), (9, _), (10, _)] ⟨rfl, rfl, rfl, rfl, rfl, rfl, trivial⟩ ?_
   refine AOps.nil ?_
   refine ⟨i + 1, Ent.to ⟨rfl, rfl, rfl, rfl, rfl, trivial⟩ rfl, by omega, by omega⟩
  ·
   skip
   refine AWP.skip ?_
   refine AWP.region ?_
   refine AOps.step (Val.of hσ rfl rfl) rfl rfl rfl ?_
   first | refine AOps.step (Val.fits64 hσ rfl rfl (by first | omega | (simp at *; omega)) (by first | omega | (simp at *; omega))) rfl rfl rfl ?_ | refine AOps.step (Val.vif hσ rfl rfl (by first | omega | (simp at *; omega))) rfl rfl rfl ?_
   refine AOps.step (Val.of hσ rfl rfl) rfl rfl rfl ?_
   refine AOps.forget [(11, _), (64, _), (1, _), (8, _), (9, _), (10, _)] ⟨rfl, rfl, rfl, rfl, rfl, rfl, trivial⟩ ?_
   refine AOps.nil ?_
   have e9 : upS (sMap k ((n : Int) - b.length)) (newC a k n b) (i + 1) = upS (sMap k ((n : Int) - b.length)) (newC a k n b) i := upS_skip hil (jmp_cond' hc64)
   rw [← e9]
   refine ⟨i + 1, Ent.to ⟨rfl, rfl, rfl, rfl, rfl, trivial⟩ rfl, by omega, by omega⟩
 ·
  skip
  refine AWP.exit ?_
  refine AWP.seq ?_
  refine AWP.seq ?_
  refine AWP.region ?_
  obtain rfl : i = (newC a k n b).length := by have := of_decide_eq_false hc46; omega
  rw [upS_all]
  refine AOps.step (Val.of hσ rfl rfl) rfl rfl rfl ?_
  refine AOps.nil ?_
  refine AWP.block ?_
  refine AWP.loopP (X := Nat) (fun i => ⟨[(1, eI k), (8, .c (.pt 8 0 0)), (9, .c (.pt 9 0 0)), (10, eI ((n : Int) - b.length)), (12, eI i)], [(8, .box [.d .nils, .d .nils, .d .nils, .d .nils]), (9, .box [.rs 15000 0 a.pre.length, .rs 15001 0 a.post.length, .rs 900 0 (splR a k n b).code.length, .rs 15003 0 a.pts.length]), (900, irow (splR a k n b).code), (15000, trow a.pre), (15001, trow a.post), (15003, .row true 2 ((upS (sPt k ((n : Int) - b.length)) a.pts i).map Pt.cells))]⟩) (fun i => i ≤ a.pts.length) (fun i => a.pts.length - i) 0 (Ent.to ⟨rfl, rfl, rfl, rfl, rfl, trivial⟩ rfl) ?_ (fun i hi => ?_)
  ·
   exact Nat.zero_le _
  refine AWP.seq ?_
  refine AWP.seq ?_
  refine AWP.region ?_
  refine AOps.step (Val.of hσ rfl rfl) rfl rfl rfl ?_
  refine AOps.step (Val.of hσ rfl rfl) rfl rfl rfl ?_
  refine AOps.step (Val.of hσ rfl rfl) rfl rfl rfl ?_
  first | refine AOps.step (Val.lenD hσ rfl rfl rfl rfl rfl rfl rfl rfl) rfl rfl rfl ?_ | refine AOps.step (Val.of hσ rfl rfl) rfl rfl rfl ?_ | refine AOps.step (Val.vif hσ rfl rfl (by first | omega | (simp at *; omega))) rfl rfl rfl ?_
  refine AOps.step (Val.of hσ rfl rfl) rfl rfl rfl ?_
  refine AOps.forget [(79, _), (1, _), (8, _), (9, _), (10, _), (12, _)] ⟨rfl, rfl, rfl, rfl, rfl, rfl, trivial⟩ ?_
  refine AOps.nil ?_
  refine AWP.cond hσ rfl rfl (fun hc79 => ?_) (fun hc79 => ?_)
  ·
   skip
   refine AWP.skip ?_
   refine AWP.seq ?_
   refine AWP.block ?_
   refine AWP.seq ?_
   refine AWP.region ?_
   have hil : i < a.pts.length := by have := of_decide_eq_true hc79; omega
   refine AOps.step (Val.of hσ rfl rfl) rfl rfl rfl ?_
   refine AOps.step (Val.of hσ rfl rfl) rfl rfl rfl ?_
   refine AOps.step (Val.of hσ rfl rfl) rfl rfl rfl ?_
   first | refine AOps.step (Val.indexN hσ rfl rfl rfl rfl rfl rfl rfl rfl (idxN (by first | omega | (simp at *; omega)))) rfl rfl rfl ?_ | refine AOps.step (Val.indexD hσ rfl rfl rfl rfl rfl rfl rfl rfl (by first | omega | (simp at *; omega)) (idx_get (by first | omega | (simp at *; omega)) (by first | omega | (simp at *; omega)))) rfl rfl rfl ?_ | refine AOps.step (Val.vif hσ rfl rfl (by first | omega | (simp at *; omega))) rfl rfl rfl ?_
   refine AOps.step (Val.of hσ rfl rfl) rfl rfl rfl ?_
   refine AOps.step (Val.loadRow hσ (ex := (a.pts.getD i default).cells) rfl rfl rfl rfl (upS_getj hil (by simp)) rfl) rfl rfl rfl ?_
   refine AOps.step (Val.of hσ rfl rfl) rfl rfl rfl ?_
   refine AOps.step (Val.of hσ rfl rfl) rfl rfl rfl ?_
   refine AOps.forget [(89, _), (79, _), (1, _), (8, _), (9, _), (10, _), (12, _)] ⟨rfl, rfl, rfl, rfl, rfl, rfl, rfl, trivial⟩ ?_
   refine AOps.nil ?_
   refine AWP.cond hσ rfl rfl (fun hc89 => ?_) (fun hc89 => ?_)
   ·
    skip
    refine AWP.region ?_
    refine AOps.step (Val.of hσ rfl rfl) rfl rfl rfl ?_
    refine AOps.step (Val.of hσ rfl rfl) rfl rfl rfl ?_
    refine AOps.step (Val.of hσ rfl rfl) rfl rfl rfl ?_
    first | refine AOps.step (Val.indexN hσ rfl rfl rfl rfl rfl rfl rfl rfl (idxN (by first | omega | (simp at *; omega)))) rfl rfl rfl ?_ | refine AOps.step (Val.indexD hσ rfl rfl rfl rfl rfl rfl rfl rfl (by first | omega | (simp at *; omega)) (idx_get (by first | omega | (simp at *; omega)) (by first | omega | (simp at *; omega)))) rfl rfl rfl ?_ | refine AOps.step (Val.vif hσ rfl rfl (by first | omega | (simp at *; omega))) rfl rfl rfl ?_
    refine AOps.step (Val.of hσ rfl rfl) rfl rfl rfl ?_
    have hpi := hp _ (mem_gd hil)
    refine AOps.step (Val.loadRow hσ (ex := (a.pts.getD i default).cells) rfl rfl rfl rfl (upS_getj hil (by simp)) rfl) rfl rfl rfl ?_
    refine AOps.step (Val.of hσ rfl rfl) rfl rfl rfl ?_
    first | refine AOps.step (Val.fits64 hσ rfl rfl (by first | omega | (simp at *; omega)) (by first | omega | (simp at *; omega))) rfl rfl rfl ?_ | refine AOps.step (Val.vif hσ rfl rfl (by first | omega | (simp at *; omega))) rfl rfl rfl ?_
    first | refine AOps.step (Val.indexN hσ rfl rfl rfl rfl rfl rfl rfl rfl (idxN (by first | omega | (simp at *; omega)))) rfl rfl rfl ?_ | refine AOps.step (Val.indexD hσ rfl rfl rfl rfl rfl rfl rfl rfl (by first | omega | (simp at *; omega)) (idx_get (by first | omega | (simp at *; omega)) (by first | omega | (simp at *; omega)))) rfl rfl rfl ?_ | refine AOps.step (Val.vif hσ rfl rfl (by first | omega | (simp at *; omega))) rfl rfl rfl ?_
    refine AOps.step (Val.of hσ rfl rfl) rfl rfl rfl ?_
    refine AOps.forget [(99, _), (97, _), (89, _), (79, _), (1, _), (8, _), (9, _), (10, _), (12, _)] ⟨rfl, rfl, rfl, rfl, rfl, rfl, rfl, rfl, rfl, trivial⟩ ?_
    refine AOps.heap (HS.storeRow (ex := (a.pts.getD i default).cells) (xs' := (upS (sPt k ((n : Int) - b.length)) a.pts (i + 1)).map Pt.cells) hσ rfl rfl rfl rfl rfl rfl rfl rfl rfl rfl rfl rfl rfl rfl (upS_getj hil (by simp)) (upS_rowj hil (by simp) (by unfold sPt; rw [if_pos (of_decide_eq_true hc89)]; rfl))) rfl ?_
    apply AOps.norm
    ·
     repeat' (first | exact HN.nil rfl | apply HN.cons rfl | exact BN.row rfl | exact BN.map rfl | apply BN.box rfl | exact MN.nil rfl | apply MN.cons rfl | exact XN.d rfl | exact XN.rs rfl | exact XN.self)
    apply AOps.norm
    ·
     repeat' (first | exact HN.nil rfl | apply HN.cons rfl | exact BN.row rfl | exact BN.map rfl | apply BN.box rfl | exact MN.nil rfl | apply MN.cons rfl | exact XN.d rfl | exact XN.rs rfl | exact XN.self)
    refine AOps.forget [(89, _), (79, _), (1, _), (8, _), (9, _), (10, _), (12, _)] ⟨rfl, rfl, rfl, rfl, rfl, rfl, rfl, trivial⟩ ?_
    refine AOps.nil ?_
    refine AWP.region ?_
    refine AOps.step (Val.of hσ rfl rfl) rfl rfl rfl ?_
    first | refine AOps.step (Val.fits64 hσ rfl rfl (by first | omega | (simp at *; omega)) (by first | omega | (simp at *; omega))) rfl rfl rfl ?_ | refine AOps.step (Val.vif hσ rfl rfl (by first | omega | (simp at *; omega))) rfl rfl rfl ?_
    refine AOps.step (Val.of hσ rfl rfl) rfl rfl rfl ?_
    refine AOps.forget [(12, _), (89, _), (79, _), (1, _), (8, _), (9, _), (10, _)] ⟨rfl, rfl, rfl, rfl, rfl, rfl, rfl, trivial⟩ ?_
    refine AOps.nil ?_
    refine ⟨i + 1, Ent.to ⟨rfl, rfl, rfl, rfl, rfl, trivial⟩ rfl, by omega, by omega⟩
   ·
    skip
    refine AWP.skip ?_
    refine AWP.region ?_
    refine AOps.step (Val.of hσ rfl rfl) rfl rfl rfl ?_
    first | refine AOps.step (Val.fits64 hσ rfl rfl (by first | omega | (simp at *; omega)) (by first | omega | (simp at *; omega))) rfl rfl rfl ?_ | refine AOps.step (Val.vif hσ rfl rfl (by first | omega | (simp at *; omega))) rfl rfl rfl ?_
    refine AOps.step (Val.of hσ rfl rfl) rfl rfl rfl ?_
    refine AOps.forget [(12, _), (89, _), (79, _), (1, _), (8, _), (9, _), (10, _)] ⟨rfl, rfl, rfl, rfl, rfl, rfl, rfl, trivial⟩ ?_
    refine AOps.nil ?_
    have e9 : upS (sPt k ((n : Int) - b.length)) a.pts (i + 1) = upS (sPt k ((n : Int) - b.length)) a.pts i := upS_skip hil (by unfold sPt; rw [if_neg (of_decide_eq_false hc89)])
    rw [← e9]
    refine ⟨i + 1, Ent.to ⟨rfl, rfl, rfl, rfl, rfl, trivial⟩ rfl, by omega, by omega⟩
  ·
   skip
   refine AWP.exit ?_
   refine AWP.seq ?_
   refine AWP.region ?_
   refine AOps.step (Val.of hσ rfl rfl) rfl rfl rfl ?_
   refine AOps.heap (HS.storeBox hσ rfl rfl rfl rfl rfl rfl rfl rfl rfl rfl rfl) rfl ?_
   apply AOps.norm
   ·
    repeat' (first | exact HN.nil rfl | apply HN.cons rfl | exact BN.row rfl | exact BN.map rfl | apply BN.box rfl | exact MN.nil rfl | apply MN.cons rfl | exact XN.d rfl | exact XN.rs rfl | exact XN.self)
   refine AOps.nil ?_
   refine AWP.ret ?_
   obtain rfl : i = a.pts.length := by have := of_decide_eq_false hc79; omega
   rw [upS_all]
   have hpl : a.pts.length = (splR a k n b).pts.length := by simp [splR]
   rw [hpl]
   refine ⟨.inl rfl, _, Ent.refl, _, rfl, [15000, 15001, 900, 15003], by decide, rfl, rfl, rfl⟩
end Go.Al
namespace Go.Al
open Go.Proofs
set_option linter.unusedVariables false
set_option linter.unusedSimpArgs false
set_option maxRecDepth 10000
set_option maxHeartbeats 4000000
theorem newC_in {a : An} (h : AOk a) {k : Nat} (hr : 0 < (ruleA a k).1) : ∀ x ∈ newC a k (ruleA a k).1 (ruleA a k).2, -1000000 ≤ x.a ∧ x.a ≤ 1000000 := by
  have hs : ∀ x ∈ sgt a.code a.pts k, instrB x = true := fun x hx => by
    obtain ⟨i, hi, rfl⟩ := List.getElem_of_mem hx
    have h1 := sgt_le (c := a.code) (ps := a.pts) (k := k)
    have := sgt_getD hi
    rw [getD_lt hi, getD_lt (by omega)] at this
    rw [this]; exact h.code _ (List.getElem_mem _)
  intro x hx
  simp only [newC, List.append_assoc, List.mem_append] at hx
  rcases hx with hx | hx | hx
  · exact instr_a (h.code x (List.mem_of_mem_take hx))
  · exact instr_a ((ruleR_ok hr).ok hs x hx)
  · exact instr_a (h.code x (List.mem_of_mem_drop hx))
abbrev anBs (a : An) : List B := [trow a.pre, trow a.post, irow a.code, prow a.pts]
theorem c68 {L : Nat} (h1 : 4096 ≤ L) (h2 : L ≤ 1073741824) {a : An} (hA : AOk a) : MC Try.prog L 15 [ptr a.data] [] (Rows (anRs (foldR a)) (anBs (foldR a))) := by
 refine MC.rows ?_
 have hσ := SGok (nt := 28) h1 (Nat.le_trans h2 (by decide))
 refine MC.body hσ Try.func15 (by kernel_rfl) rfl rfl (Nat.le_of_ble_eq_true rfl) (fun hF => ?_)
 refine AWP.seq ?_
 refine AWP.region ?_
 refine AOps.heap (HS.alloc hσ rfl rfl rfl rfl rfl) rfl ?_
 apply AOps.norm
 ·
  repeat' (first | exact HN.nil rfl | apply HN.cons rfl | exact BN.row rfl | exact BN.map rfl | apply BN.box rfl | exact MN.nil rfl | apply MN.cons rfl | exact XN.d rfl | exact XN.rs rfl | exact XN.self)
 refine AOps.nil ?_
 refine AWP.seq ?_
 refine AWP.region ?_
 refine AOps.step (Val.of hσ rfl rfl) rfl rfl rfl ?_
 refine AOps.forget [(7, _), (2, _)] ⟨rfl, rfl, trivial⟩ ?_
 refine AOps.rows hσ (B0 := 9000) rfl rfl rfl rfl (c119 (a := a) h1 h2) (VAs.self rfl) rfl rfl rfl rfl rfl rfl ?_
 apply AOps.norm
 ·
  repeat' (first | exact HN.nil rfl | apply HN.cons rfl | exact BN.row rfl | exact BN.map rfl | apply BN.box rfl | exact MN.nil rfl | apply MN.cons rfl | exact XN.d rfl | exact XN.rs rfl | exact XN.self)
 refine AOps.forget [(8, _), (2, _)] ⟨rfl, rfl, trivial⟩ ?_
 refine AOps.heap (HS.alloc hσ rfl rfl rfl rfl rfl) rfl ?_
 apply AOps.norm
 ·
  repeat' (first | exact HN.nil rfl | apply HN.cons rfl | exact BN.row rfl | exact BN.map rfl | apply BN.box rfl | exact MN.nil rfl | apply MN.cons rfl | exact XN.d rfl | exact XN.rs rfl | exact XN.self)
 refine AOps.heap (HS.storeBox hσ rfl rfl rfl rfl rfl rfl rfl rfl rfl rfl rfl) rfl ?_
 apply AOps.norm
 ·
  repeat' (first | exact HN.nil rfl | apply HN.cons rfl | exact BN.row rfl | exact BN.map rfl | apply BN.box rfl | exact MN.nil rfl | apply MN.cons rfl | exact XN.d rfl | exact XN.rs rfl | exact XN.self)
 refine AOps.nil ?_
 refine AWP.seq ?_
 refine AWP.seq ?_
 refine AWP.region ?_
 refine AOps.step (Val.of hσ rfl rfl) rfl rfl rfl ?_
 refine AOps.nil ?_
 refine AWP.block ?_
 refine AWP.loopP (X := An × Nat) (fun x => ⟨[(2, .c (.pt 2 0 0)), (3, .c (.pt 3 0 0)), (4, eI x.2)], [(2, .box [.d .nils, .d .nils, .d .nils, .d .nils]), (3, .box [.rs 900 0 x.1.pre.length, .rs 901 0 x.1.post.length, .rs 902 0 x.1.code.length, .rs 903 0 x.1.pts.length]), (900, trow x.1.pre), (901, trow x.1.post), (902, irow x.1.code), (903, prow x.1.pts)]⟩) (fun x => Fo a x.1 x.2) (fun x => x.1.code.length * 100 + (x.1.code.length - x.2)) (a, 0) ((((((Ent.sel [2, 3, 9000, 9001, 9002, 9003] (e' := [(2, _), (3, _), (4, _)]) rfl rfl ⟨rfl, rfl, rfl, trivial⟩ rfl).trans (Ent.sub2 9000 900 rfl rfl)).trans (Ent.sub2 9001 901 rfl rfl)).trans (Ent.sub2 9002 902 rfl rfl)).trans (Ent.sub2 9003 903 rfl rfl)).trans (Ent.to ⟨rfl, rfl, rfl, trivial⟩ rfl)) ?_ (fun x hi => ?_)
 ·
  exact Fo.zero hA
 have h80 := hi.ok.len
 refine AWP.seq ?_
 refine AWP.seq ?_
 refine AWP.region ?_
 refine AOps.step (Val.of hσ rfl rfl) rfl rfl rfl ?_
 refine AOps.step (Val.of hσ rfl rfl) rfl rfl rfl ?_
 refine AOps.step (Val.of hσ rfl rfl) rfl rfl rfl ?_
 first | refine AOps.step (Val.lenD hσ rfl rfl rfl rfl rfl rfl rfl rfl) rfl rfl rfl ?_ | refine AOps.step (Val.of hσ rfl rfl) rfl rfl rfl ?_ | refine AOps.step (Val.vif hσ rfl rfl (by first | omega | (simp at *; omega))) rfl rfl rfl ?_
 refine AOps.step (Val.of hσ rfl rfl) rfl rfl rfl ?_
 refine AOps.forget [(13, _), (2, _), (3, _), (4, _)] ⟨rfl, rfl, rfl, rfl, trivial⟩ ?_
 refine AOps.nil ?_
 refine AWP.cond hσ rfl rfl (fun hc13 => ?_) (fun hc13 => ?_)
 ·
  skip
  refine AWP.skip ?_
  refine AWP.seq ?_
  refine AWP.block ?_
  refine AWP.seq ?_
  refine AWP.region ?_
  refine AOps.step (Val.of hσ rfl rfl) rfl rfl rfl ?_
  have hk : x.2 < x.1.code.length := by have := of_decide_eq_true hc13; omega
  refine AOps.rows hσ (B0 := 19000) rfl rfl rfl rfl (c120 (a := x.1) (k := x.2) h1 h2 hi.ok hk) (.cons (.c (.pb rfl (.cons (.whole rfl (List.length_map _).symm) (.cons (.whole rfl (List.length_map _).symm) (.cons (.whole rfl (List.length_map _).symm) (.cons (.whole rfl (List.length_map _).symm) .nil)))))) (.cons (.c .d) .nil)) rfl rfl rfl rfl rfl rfl ?_
  apply AOps.norm
  ·
   repeat' (first | exact HN.nil rfl | apply HN.cons rfl | exact BN.row rfl | exact BN.map rfl | apply BN.box rfl | exact MN.nil rfl | apply MN.cons rfl | exact XN.d rfl | exact XN.rs rfl | exact XN.self)
  refine AOps.step (Val.of hσ rfl rfl) rfl rfl rfl ?_
  refine AOps.step (Val.of hσ rfl rfl) rfl rfl rfl ?_
  refine AOps.step (Val.of hσ rfl rfl) rfl rfl rfl ?_
  refine AOps.step (Val.of hσ rfl rfl) rfl rfl rfl ?_
  refine AOps.step (Val.of hσ rfl rfl) rfl rfl rfl ?_
  refine AOps.forget [(6, _), (5, _), (13, _), (2, _), (3, _), (4, _)] ⟨rfl, rfl, rfl, rfl, rfl, rfl, trivial⟩ ?_
  refine AOps.nil ?_
  refine AWP.seq ?_
  refine AWP.region ?_
  refine AOps.step (Val.of hσ rfl rfl) rfl rfl rfl ?_
  refine AOps.step (Val.of hσ rfl rfl) rfl rfl rfl ?_
  refine AOps.nil ?_
  refine AWP.cond hσ rfl rfl (fun hc22 => ?_) (fun hc22 => ?_)
  ·
   skip
   refine AWP.seq ?_
   refine AWP.region ?_
   refine AOps.step (Val.of hσ rfl rfl) rfl rfl rfl ?_
   refine AOps.step (Val.of hσ rfl rfl) rfl rfl rfl ?_
   refine AOps.step (Val.of hσ rfl rfl) rfl rfl rfl ?_
   refine AOps.forget [(25, _), (24, _), (23, _), (22, _), (21, _), (5, _), (13, _), (2, _), (3, _), (4, _)] ⟨rfl, rfl, rfl, rfl, rfl, rfl, rfl, rfl, rfl, rfl, trivial⟩ ?_
   have hr : 0 < (ruleA x.1 x.2).1 := by have := of_decide_eq_true hc22; omega
   have hin := rule_in hr
   have hrl : (ruleA x.1 x.2).2.length ≤ (ruleA x.1 x.2).1 := Nat.le_of_lt (ruleR_ok hr).lt
   have hsl := rule_lt hr
   refine AOps.rows hσ (B0 := 27000) rfl rfl rfl rfl (c121 (a := x.1) (k := x.2) (n := (ruleA x.1 x.2).1) (b := (ruleA x.1 x.2).2) h1 h2 hin hi.ok.len hrl (newC_in hi.ok hr) hi.ok.pts) (.cons (.c (.pb rfl (.cons (.whole rfl (List.length_map _).symm) (.cons (.whole rfl (List.length_map _).symm) (.cons (.whole rfl (List.length_map _).symm) (.cons (.whole rfl (List.length_map _).symm) .nil)))))) (.cons (.c .d) (.cons (.c .d) (.cons (.c (.whole rfl (List.length_map _).symm)) .nil)))) rfl rfl rfl rfl rfl rfl ?_
   apply AOps.norm
   ·
    repeat' (first | exact HN.nil rfl | apply HN.cons rfl | exact BN.row rfl | exact BN.map rfl | apply BN.box rfl | exact MN.nil rfl | apply MN.cons rfl | exact XN.d rfl | exact XN.rs rfl | exact XN.self)
   refine AOps.forget [(26, _), (22, _), (21, _), (5, _), (13, _), (2, _), (3, _), (4, _)] ⟨rfl, rfl, rfl, rfl, rfl, rfl, rfl, rfl, trivial⟩ ?_
   refine AOps.heap (HS.storeBox hσ rfl rfl rfl rfl rfl rfl rfl rfl rfl rfl rfl) rfl ?_
   apply AOps.norm
   ·
    repeat' (first | exact HN.nil rfl | apply HN.cons rfl | exact BN.row rfl | exact BN.map rfl | apply BN.box rfl | exact MN.nil rfl | apply MN.cons rfl | exact XN.d rfl | exact XN.rs rfl | exact XN.self)
   refine AOps.nil ?_
   refine AWP.region ?_
   refine AOps.step (Val.of hσ rfl rfl) rfl rfl rfl ?_
   refine AOps.nil ?_
   refine AWP.region ?_
   refine AOps.step (Val.of hσ rfl rfl) rfl rfl rfl ?_
   first | refine AOps.step (Val.fits64 hσ rfl rfl (by first | omega | (simp at *; omega)) (by first | omega | (simp at *; omega))) rfl rfl rfl ?_ | refine AOps.step (Val.vif hσ rfl rfl (by first | omega | (simp at *; omega))) rfl rfl rfl ?_
   refine AOps.step (Val.of hσ rfl rfl) rfl rfl rfl ?_
   refine AOps.forget [(4, _), (26, _), (22, _), (21, _), (5, _), (13, _), (2, _), (3, _)] ⟨rfl, rfl, rfl, rfl, rfl, rfl, rfl, rfl, trivial⟩ ?_
   refine AOps.nil ?_
   refine ⟨((splR x.1 x.2 (ruleA x.1 x.2).1 (ruleA x.1 x.2).2), 0), (((((Ent.sel [2, 3, 27000, 27001, 27002, 27003] (e' := [(2, _), (3, _), (4, _)]) rfl rfl ⟨rfl, rfl, rfl, trivial⟩ rfl).trans (Ent.sub2 27000 900 rfl rfl)).trans (Ent.sub2 27001 901 rfl rfl)).trans (Ent.sub2 27002 902 rfl rfl)).trans (Ent.sub2 27003 903 rfl rfl)).trans (Ent.to ⟨rfl, rfl, rfl, trivial⟩ rfl), hi.step hk hr, by show ((splR x.1 x.2 (ruleA x.1 x.2).1 (ruleA x.1 x.2).2)).code.length * 100 + (((splR x.1 x.2 (ruleA x.1 x.2).1 (ruleA x.1 x.2).2)).code.length - 0) < x.1.code.length * 100 + (x.1.code.length - x.2); omega⟩
  ·
   skip
   refine AWP.skip ?_
   refine AWP.region ?_
   refine AOps.step (Val.of hσ rfl rfl) rfl rfl rfl ?_
   first | refine AOps.step (Val.fits64 hσ rfl rfl (by first | omega | (simp at *; omega)) (by first | omega | (simp at *; omega))) rfl rfl rfl ?_ | refine AOps.step (Val.vif hσ rfl rfl (by first | omega | (simp at *; omega))) rfl rfl rfl ?_
   refine AOps.step (Val.of hσ rfl rfl) rfl rfl rfl ?_
   refine AOps.forget [(4, _), (22, _), (21, _), (6, _), (5, _), (13, _), (2, _), (3, _)] ⟨rfl, rfl, rfl, rfl, rfl, rfl, rfl, rfl, trivial⟩ ?_
   refine AOps.nil ?_
   refine ⟨(x.1, x.2 + 1), (Ent.sel [2, 3, 900, 901, 902, 903] (e' := [(2, _), (3, _), (4, _)]) rfl rfl ⟨rfl, rfl, rfl, trivial⟩ rfl).trans (Ent.to ⟨rfl, rfl, rfl, trivial⟩ rfl), hi.skip hk (by have := of_decide_eq_false hc22; omega), by show x.1.code.length * 100 + (x.1.code.length - (x.2 + 1)) < x.1.code.length * 100 + (x.1.code.length - x.2); omega⟩
 ·
  skip
  refine AWP.exit ?_
  refine AWP.seq ?_
  refine AWP.region ?_
  refine AOps.step (Val.of hσ rfl rfl) rfl rfl rfl ?_
  refine AOps.heap (HS.storeBox hσ rfl rfl rfl rfl rfl rfl rfl rfl rfl rfl rfl) rfl ?_
  apply AOps.norm
  ·
   repeat' (first | exact HN.nil rfl | apply HN.cons rfl | exact BN.row rfl | exact BN.map rfl | apply BN.box rfl | exact MN.nil rfl | apply MN.cons rfl | exact XN.d rfl | exact XN.rs rfl | exact XN.self)
  refine AOps.nil ?_
  refine AWP.ret ?_
  rw [show foldR a = x.1 from hi.done (by have := of_decide_eq_false hc13; omega)]
  refine ⟨.inl rfl, _, Ent.refl, _, rfl, [900, 901, 902, 903], by decide, rfl, rfl, rfl⟩
theorem c68d {L : Nat} (h1 : 4096 ≤ L) (h2 : L ≤ 1073741824) {a : An} (hA : AOk a) : MC Try.prog L 15 [ptr a.data] [] (Plain (aAn (foldR a))) := (c68 h1 h2 hA).frozen (.v (.agg (.cons (.whole rfl (List.length_map _).symm) (.cons (.whole rfl (List.length_map _).symm) (.cons (.whole rfl (List.length_map _).symm) (.cons (.whole rfl (List.length_map _).symm) .nil))))))
theorem c23v {L : Nat} (h1 : 4096 ≤ L) (h2 : L ≤ 1073741824) {a : An} (hv : annB a = true) : MC Try.prog L 5 [aAn a] [] (Plain (.tup [aAn (foldR a), eB true])) := by
 refine MC.data ?_
 have hσ := SGok (nt := 8) h1 (Nat.le_trans h2 (by decide))
 refine MC.body hσ Try.func5 (by kernel_rfl) rfl rfl (Nat.le_of_ble_eq_true rfl) (fun hF => ?_)
 refine AWP.seq ?_
 refine AWP.region ?_
 refine AOps.heap (HS.box hσ rfl rfl rfl rfl rfl rfl rfl) rfl ?_
 apply AOps.norm
 ·
  repeat' (first | exact HN.nil rfl | apply HN.cons rfl | exact BN.row rfl | exact BN.map rfl | apply BN.box rfl | exact MN.nil rfl | apply MN.cons rfl | exact XN.d rfl | exact XN.rs rfl | exact XN.self)
 refine AOps.to (Ent.freeze 1 (e' := [(1, _), (0, _)]) rfl (.cons rfl (.c (.box (cs := a.data) rfl (VMs.self rfl))) (.cons rfl (.keep rfl) .nil)) (.skip .nil)) ?_
 apply AOps.norm
 ·
  repeat' (first | exact HN.nil rfl | apply HN.cons rfl | exact BN.row rfl | exact BN.map rfl | apply BN.box rfl | exact MN.nil rfl | apply MN.cons rfl | exact XN.d rfl | exact XN.rs rfl | exact XN.self)
 refine AOps.forget [(1, _)] ⟨rfl, trivial⟩ ?_
 refine AOps.heap (HS.alloc hσ rfl rfl rfl rfl rfl) rfl ?_
 apply AOps.norm
 ·
  repeat' (first | exact HN.nil rfl | apply HN.cons rfl | exact BN.row rfl | exact BN.map rfl | apply BN.box rfl | exact MN.nil rfl | apply MN.cons rfl | exact XN.d rfl | exact XN.rs rfl | exact XN.self)
 refine AOps.step (Val.of hσ rfl rfl) rfl rfl rfl ?_
 refine AOps.nil ?_
 refine AWP.seq ?_
 refine AWP.seq ?_
 refine AWP.region ?_
 refine AOps.lone hσ rfl rfl rfl rfl ((c67 (a := a) h1 h2).plain (u := eB true) (by rw [hv])) (VAs.self rfl) rfl rfl rfl rfl rfl (B0 := 5000) rfl ?_
 refine AOps.step (Val.of hσ rfl rfl) rfl rfl rfl ?_
 refine AOps.nil ?_
 refine AWP.cond hσ rfl rfl (fun hc5 => ?_) (fun hc5 => ?_)
 ·
  skip
  cases hc5
 ·
  skip
  refine AWP.skip ?_
  refine AWP.seq ?_
  refine AWP.region ?_
  refine AOps.plainD hσ rfl rfl rfl rfl (c68d (a := a) h1 h2 (annB_ok hv)) (VAs.self rfl) rfl rfl rfl rfl (B0 := 8000) rfl rfl ?_
  refine AOps.forget [(7, _), (4, _), (3, _), (2, _), (1, _)] ⟨rfl, rfl, rfl, rfl, rfl, trivial⟩ ?_
  refine AOps.heap (HS.storeBox hσ rfl rfl rfl rfl rfl rfl rfl rfl rfl rfl rfl) rfl ?_
  apply AOps.norm
  ·
   repeat' (first | exact HN.nil rfl | apply HN.cons rfl | exact BN.row rfl | exact BN.map rfl | apply BN.box rfl | exact MN.nil rfl | apply MN.cons rfl | exact XN.d rfl | exact XN.rs rfl | exact XN.self)
  refine AOps.step (Val.of hσ rfl rfl) rfl rfl rfl ?_
  refine AOps.nil ?_
  refine AWP.ret ?_
  refine ⟨.inl rfl, _, Ent.refl, _, rfl, ?_⟩
  exact .tup (.cons (.agg (VMs.self rfl)) (.cons (.c .d) .nil))
theorem c23n {L : Nat} (h1 : 4096 ≤ L) (h2 : L ≤ 1073741824) {a : An} (hv : annB a = false) : MC Try.prog L 5 [aAn a] [] (Plain (.tup [aAn ⟨[], [], [], []⟩, eB false])) := by
 refine MC.data ?_
 have hσ := SGok (nt := 8) h1 (Nat.le_trans h2 (by decide))
 refine MC.body hσ Try.func5 (by kernel_rfl) rfl rfl (Nat.le_of_ble_eq_true rfl) (fun hF => ?_)
 refine AWP.seq ?_
 refine AWP.region ?_
 refine AOps.heap (HS.box hσ rfl rfl rfl rfl rfl rfl rfl) rfl ?_
 apply AOps.norm
 ·
  repeat' (first | exact HN.nil rfl | apply HN.cons rfl | exact BN.row rfl | exact BN.map rfl | apply BN.box rfl | exact MN.nil rfl | apply MN.cons rfl | exact XN.d rfl | exact XN.rs rfl | exact XN.self)
 refine AOps.to (Ent.freeze 1 (e' := [(1, _), (0, _)]) rfl (.cons rfl (.c (.box (cs := a.data) rfl (VMs.self rfl))) (.cons rfl (.keep rfl) .nil)) (.skip .nil)) ?_
 apply AOps.norm
 ·
  repeat' (first | exact HN.nil rfl | apply HN.cons rfl | exact BN.row rfl | exact BN.map rfl | apply BN.box rfl | exact MN.nil rfl | apply MN.cons rfl | exact XN.d rfl | exact XN.rs rfl | exact XN.self)
 refine AOps.forget [(1, _)] ⟨rfl, trivial⟩ ?_
 refine AOps.heap (HS.alloc hσ rfl rfl rfl rfl rfl) rfl ?_
 apply AOps.norm
 ·
  repeat' (first | exact HN.nil rfl | apply HN.cons rfl | exact BN.row rfl | exact BN.map rfl | apply BN.box rfl | exact MN.nil rfl | apply MN.cons rfl | exact XN.d rfl | exact XN.rs rfl | exact XN.self)
 refine AOps.step (Val.of hσ rfl rfl) rfl rfl rfl ?_
 refine AOps.nil ?_
 refine AWP.seq ?_
 refine AWP.seq ?_
 refine AWP.region ?_
 refine AOps.lone hσ rfl rfl rfl rfl ((c67 (a := a) h1 h2).plain (u := eB false) (by rw [hv])) (VAs.self rfl) rfl rfl rfl rfl rfl (B0 := 5000) rfl ?_
 refine AOps.step (Val.of hσ rfl rfl) rfl rfl rfl ?_
 refine AOps.nil ?_
 refine AWP.cond hσ rfl rfl (fun hc5 => ?_) (fun hc5 => ?_)
 ·
  skip
  refine AWP.seq ?_
  refine AWP.region ?_
  refine AOps.step (Val.of hσ rfl rfl) rfl rfl rfl ?_
  refine AOps.forget [(6, _), (4, _), (3, _), (2, _), (1, _)] ⟨rfl, rfl, rfl, rfl, rfl, trivial⟩ ?_
  refine AOps.heap (HS.storeBox hσ rfl rfl rfl rfl rfl rfl rfl rfl rfl rfl rfl) rfl ?_
  apply AOps.norm
  ·
   repeat' (first | exact HN.nil rfl | apply HN.cons rfl | exact BN.row rfl | exact BN.map rfl | apply BN.box rfl | exact MN.nil rfl | apply MN.cons rfl | exact XN.d rfl | exact XN.rs rfl | exact XN.self)
  refine AOps.step (Val.of hσ rfl rfl) rfl rfl rfl ?_
  refine AOps.nil ?_
  refine AWP.ret ?_
  refine ⟨.inl rfl, _, Ent.refl, _, rfl, ?_⟩
  exact .tup (.cons (.agg (.cons .nils (.cons .nils (.cons .nils (.cons .nils .nil))))) (.cons (.c .d) .nil))
 ·
  skip
  cases hc5
end Go.Al
