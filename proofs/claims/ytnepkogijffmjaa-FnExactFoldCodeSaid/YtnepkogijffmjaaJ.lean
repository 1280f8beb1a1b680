/- Annotated code, and what its folding comes to; sizes, copies, marks. -/
import Derived.Test.YtnepkogijffmjaaH
namespace Go.Al
open Go.Proofs
set_option linter.unusedVariables false
set_option linter.unusedSimpArgs false
set_option maxRecDepth 10000
/-! Annotated code, and what its folding comes to. -/
structure In where
  op : Int
  a : Int
  deriving Inhabited, DecidableEq
abbrev In.cells (x : In) : List D := [.int .i64 x.op, .int .i64 x.a]
abbrev insD (c : List In) : D := .slc 2 (c.map In.cells)
abbrev ains (c : List In) : A := .c (.d (insD c))
abbrev irow (c : List In) : B := .row true 2 (c.map In.cells)
structure Pt where
  k : Int
  fs : List Tm
  deriving Inhabited, DecidableEq
abbrev Pt.cells (p : Pt) : List D := [.int .i64 p.k, tms p.fs]
abbrev ptsD (ps : List Pt) : D := .slc 2 (ps.map Pt.cells)
abbrev apts (ps : List Pt) : A := .c (.d (ptsD ps))
abbrev prow (ps : List Pt) : B := .row true 2 (ps.map Pt.cells)
def Pt.size (p : Pt) : Nat := szs Tm.size p.fs
structure An where
  pre : List Tm
  post : List Tm
  code : List In
  pts : List Pt
  deriving Inhabited, DecidableEq
abbrev An.data (a : An) : List D := [tms a.pre, tms a.post, insD a.code, ptsD a.pts]
abbrev aAn (a : An) : A := .agg (a.data.map .d)
def An.size (a : An) : Nat := szs Tm.size a.pre + szs Tm.size a.post + a.code.length + szs Pt.size a.pts
abbrev mIn : Int → In → In := fun k _ => ⟨k, k + 1⟩
abbrev nIn : In → Nat := fun _ => 2
abbrev mP : Int → Pt → Pt := fun k p => ⟨k, markL mT nT (k + 1) p.fs⟩
abbrev nP : Pt → Nat := fun p => 1 + cnt nT p.fs
/-- A valid instruction. -/
def instrB (x : In) : Bool :=
  if x.op = 0 ∨ x.op = 4 then num x.a else if x.op = 1 ∨ x.op = 2 then inB 0 3 x.a else if x.op = 5 ∨ x.op = 6 then inB 0 79 x.a else if x.op = 9 then inB 0 3 x.a
  else if x.op = 3 ∨ x.op = 7 ∨ x.op = 8 ∨ x.op = 10 ∨ x.op = 11 then decide (x.a = 0) else false
def codeB (c : List In) : Bool := c.all instrB && inB 1 80 c.length
def ptB (n : Nat) (ps : List Pt) (i : Nat) : Bool := inB 0 ((n : Int) - 1) (ps.getD i default).k && terms (ps.getD i default).fs 6 && !(decide (0 < i) && decide ((ps.getD i default).k ≤ (ps.getD (i - 1) default).k))
def ptsB (n : Nat) (ps : List Pt) : Bool := (List.range ps.length).all (ptB n ps)
def annB (a : An) : Bool := codeB a.code && (terms a.pre 6 && (terms a.post 6 && (decide (a.pts.length ≤ 8) && ptsB a.code.length a.pts)))
theorem ptsB_of {n : Nat} {ps : List Pt} (h : ∀ j, j < ps.length → ptB n ps j = true) : ptsB n ps = true := List.all_eq_true.2 fun j hj => h j (List.mem_range.1 hj)
theorem ptsB_not {n : Nat} {ps : List Pt} (j : Nat) (hj : j < ps.length) (h : ptB n ps j = false) : ptsB n ps = false := by
  cases e : ptsB n ps with
  | false => rfl
  | true => have := List.all_eq_true.1 e j (List.mem_range.2 hj); rw [h] at this; cases this
def jmpB (x : In) : Bool := decide (x.op = 5) || decide (x.op = 6)
def ptAt (ps : List Pt) (k : Int) : Bool := ps.any fun p => decide (p.k = k)
def jmpTo (c : List In) (k : Int) : Bool := c.any fun x => jmpB x && decide (x.a = k)
def plB (c : List In) (ps : List Pt) (k : Int) : Bool := jmpTo c k || ptAt ps k
def segF (pl : Int → Bool) : Nat → List In → List In
  | _, [] => []
  | k, x :: r => if pl (k : Int) = true then [] else x :: segF pl (k + 1) r
def sgt (c : List In) (ps : List Pt) (k : Nat) : List In := match c.drop k with
  | [] => []
  | x :: r => x :: segF (plB c ps) (k + 1) r
def hasR : List Int → List In → Bool
  | [], _ => true
  | _ :: _, [] => false
  | o :: os, x :: s => decide (x.op = o) && hasR os s
def plainB (x : In) : Bool := decide (x.op = 1) || decide (x.op = 3) || decide (x.op = 7)
def ruleR (s : List In) : Nat × List In :=
  let x := s.getD 0 default
  let y := s.getD 1 default
  if hasR [0, 4] s = true ∧ num (x.a * y.a) = true then (2, [⟨0, x.a * y.a⟩])
  else if hasR [0, 0, 3] s = true ∧ num (x.a + y.a) = true then (3, [⟨0, x.a + y.a⟩])
  else if hasR [0, 1, 3] s = true ∧ x.a = 0 then (3, [y])
  else if hasR [0, 1, 4, 3] s = true ∧ x.a = 0 then (4, [y, s.getD 2 default])
  else if (plainB x = true ∨ x.op = 4) ∧ hasR [x.op, 0, 3] s = true ∧ y.a = 0 then (3, [x])
  else if plainB x = true ∧ hasR [x.op, 4] s = true ∧ y.a = 1 then (2, [x])
  else if hasR [4, 4] s = true ∧ num (x.a * y.a) = true then (2, [⟨4, x.a * y.a⟩])
  else (0, [])
def sMap (k less : Int) (x : In) : In := if jmpB x = true ∧ k < x.a then ⟨x.op, x.a - less⟩ else x
def sPt (k less : Int) (p : Pt) : Pt := if k < p.k then ⟨p.k - less, p.fs⟩ else p
def splR (a : An) (k n : Nat) (by' : List In) : An :=
  ⟨a.pre, a.post, (a.code.take k ++ by' ++ a.code.drop (k + n)).map (sMap k ((n : Int) - by'.length)), a.pts.map (sPt k ((n : Int) - by'.length))⟩
abbrev ruleA (a : An) (k : Nat) : Nat × List In := ruleR (sgt a.code a.pts k)
def stepF (a : An) : Nat → Nat → Option An
  | 0, _ => none
  | f + 1, k => if 0 < (ruleA a k).1 then some (splR a k (ruleA a k).1 (ruleA a k).2) else stepF a f (k + 1)
def stepR (a : An) : Option An := stepF a a.code.length 0
def foldF : Nat → An → An
  | 0, a => a
  | f + 1, a => match stepR a with
    | none => a
    | some b => foldF f b
def foldR (a : An) : An := foldF a.code.length a
/-- What is true of valid code, and stays true. -/
structure AOk (a : An) : Prop where
  code : ∀ x ∈ a.code, instrB x = true
  pts : ∀ p ∈ a.pts, 0 ≤ p.k ∧ p.k ≤ 79
  len : a.code.length ≤ 80
  np : a.pts.length ≤ 8
  npre : a.pre.length ≤ 6
  npost : a.post.length ≤ 6
theorem terms_len {ts : List Tm} {n : Nat} (h : terms ts n = true) : ts.length ≤ n := by
  simp only [terms, Bool.and_eq_true, decide_eq_true_eq] at h; omega
theorem annB_ok {a : An} (h : annB a = true) : AOk a := by
  simp only [annB, codeB, inB, Bool.and_eq_true, decide_eq_true_eq] at h
  obtain ⟨⟨h1, h2, h3⟩, h4, h5, h6, h7⟩ := h
  refine ⟨List.all_eq_true.1 h1, fun p hp => ?_, by omega, h6, terms_len (n := 6) h4, terms_len (n := 6) h5⟩
  obtain ⟨i, hi, rfl⟩ := List.getElem_of_mem hp
  have := List.all_eq_true.1 h7 i (List.mem_range.2 hi)
  simp only [ptB, inB, Bool.and_eq_true, decide_eq_true_eq, getD_lt hi] at this
  omega
theorem segF_get {pl : Int → Bool} : ∀ {l : List In} {k : Nat}, ∃ n, segF pl k l = l.take n ∧ ∀ i, i < n → i < l.length → pl ((k + i : Nat) : Int) = false
  | [], k => ⟨0, by simp [segF], fun i h _ => absurd h (Nat.not_lt_zero i)⟩
  | x :: r, k => by
    by_cases h : pl (k : Int) = true
    · exact ⟨0, by simp [segF, h], fun i h _ => absurd h (Nat.not_lt_zero i)⟩
    · obtain ⟨n, e, hn⟩ := segF_get (pl := pl) (l := r) (k := k + 1)
      refine ⟨n + 1, by simp [segF, h, e], fun i hi hl => ?_⟩
      cases i with
      | zero => simpa using h
      | succ i =>
        have := hn i (by omega) (by simpa using hl)
        rwa [show k + (i + 1) = k + 1 + i by omega]
theorem sgt_get {c : List In} {ps : List Pt} {k : Nat} (hk : k < c.length) : ∃ n, sgt c ps k = (c.drop k).take (n + 1) ∧ ∀ i, 0 < i → i < n + 1 → k + i < c.length → plB c ps ((k + i : Nat) : Int) = false := by
  obtain ⟨n, e, h⟩ := segF_get (pl := plB c ps) (l := c.drop (k + 1)) (k := k + 1)
  refine ⟨n, ?_, fun i h0 hi hl => ?_⟩
  · rw [sgt, List.drop_eq_getElem_cons hk]
    show c[k] :: segF (plB c ps) (k + 1) (c.drop (k + 1)) = c[k] :: (c.drop (k + 1)).take n
    rw [e]
  · have := h (i - 1) (by omega) (by rw [List.length_drop]; omega)
    rwa [show k + 1 + (i - 1) = k + i by omega] at this
theorem sgt_pos {c : List In} {ps : List Pt} {k : Nat} (hk : k < c.length) : 0 < (sgt c ps k).length := by
  rw [sgt, List.drop_eq_getElem_cons hk]; exact Nat.zero_lt_succ _
theorem sgt_le {c : List In} {ps : List Pt} {k : Nat} : (sgt c ps k).length ≤ c.length - k := by
  rcases Nat.lt_or_ge k c.length with h | h
  · obtain ⟨n, e, _⟩ := sgt_get (ps := ps) h
    rw [e, List.length_take, List.length_drop]; omega
  · rw [sgt, List.drop_of_length_le h]; exact Nat.zero_le _
theorem sgt_getD {c : List In} {ps : List Pt} {k i : Nat} (hi : i < (sgt c ps k).length) : (sgt c ps k).getD i default = c.getD (k + i) default := by
  have h1 := sgt_le (c := c) (ps := ps) (k := k)
  have hk : k < c.length := by omega
  obtain ⟨n, e, _⟩ := sgt_get (ps := ps) hk
  rw [e] at hi ⊢
  rw [List.length_take, List.length_drop] at hi
  rw [getD_lt (by rw [List.length_take, List.length_drop]; omega), getD_lt (by omega), List.getElem_take, List.getElem_drop]
theorem sgt_place {c : List In} {ps : List Pt} {k i : Nat} (h0 : 0 < i) (hi : i < (sgt c ps k).length) : plB c ps ((k + i : Nat) : Int) = false := by
  have h1 := sgt_le (c := c) (ps := ps) (k := k)
  have hk : k < c.length := by omega
  obtain ⟨n, e, h⟩ := sgt_get (ps := ps) hk
  rw [e, List.length_take, List.length_drop] at hi
  exact h i h0 (by omega) (by omega)
theorem hasR_len : ∀ {os : List Int} {s : List In}, hasR os s = true → os.length ≤ s.length
  | [], _, _ => Nat.zero_le _
  | _ :: _, [], h => by cases h
  | o :: os, x :: s, h => by
    simp only [hasR, Bool.and_eq_true] at h
    have := hasR_len h.2
    simp only [List.length_cons]; omega
theorem hasR_get : ∀ {os : List Int} {s : List In}, hasR os s = true → ∀ i, i < os.length → (s.getD i default).op = os.getD i default
  | [], _, _, i, h => absurd h (Nat.not_lt_zero i)
  | _ :: _, [], h, _, _ => by cases h
  | o :: os, x :: s, h, i, hi => by
    simp only [hasR, Bool.and_eq_true, decide_eq_true_eq] at h
    cases i with
    | zero => simpa using h.1
    | succ i => simpa using hasR_get h.2 i (by simpa using hi)
/-- What a rule that applies is like. -/
structure RuOk (s : List In) (r : Nat × List In) : Prop where
  n : r.1 ≤ s.length
  lt : r.2.length < r.1
  one : 1 ≤ r.2.length
  two : r.2.length ≤ 2
  jmp : ∀ x ∈ r.2, jmpB x = false
  ok : (∀ x ∈ s, instrB x = true) → ∀ x ∈ r.2, instrB x = true
theorem plain_nj {x : In} (h : plainB x = true) : jmpB x = false := by
  simp only [plainB, Bool.or_eq_true, decide_eq_true_eq] at h
  simp only [jmpB, Bool.or_eq_false_iff, decide_eq_false_iff_not]; omega
theorem mem_getD {s : List In} {i : Nat} (h : i < s.length) : s.getD i default ∈ s := by rw [getD_lt h]; exact List.getElem_mem h
theorem nj {x : In} {o : Int} (h : x.op = o) (h5 : o ≠ 5) (h6 : o ≠ 6) : jmpB x = false := by
  simp only [jmpB, Bool.or_eq_false_iff, decide_eq_false_iff_not, h]; exact ⟨h5, h6⟩
theorem instr_num {o a : Int} (h : o = 0 ∨ o = 4) (hn : num a = true) : instrB ⟨o, a⟩ = true := by
  unfold instrB; rw [if_pos h]; exact hn
theorem ruleR_ok {s : List In} (h : 0 < (ruleR s).1) : RuOk s (ruleR s) := by
  unfold ruleR at h ⊢
  simp only at h ⊢
  split at h
  · rename_i c; have l := hasR_len c.1; rw [if_pos c]
    exact ⟨l, by simp, by simp, by simp, by simp [jmpB], fun _ x hx => by simp at hx; subst hx; exact instr_num (.inl rfl) c.2⟩
  · rename_i c1; rw [if_neg c1]
    split at h
    · rename_i c; have l := hasR_len c.1; rw [if_pos c]
      exact ⟨l, by simp, by simp, by simp, by simp [jmpB], fun _ x hx => by simp at hx; subst hx; exact instr_num (.inl rfl) c.2⟩
    · rename_i c2; rw [if_neg c2]
      split at h
      · rename_i c; have l := hasR_len c.1; rw [if_pos c]
        have g := hasR_get c.1 1 (by decide)
        exact ⟨l, by simp, by simp, by simp, fun x hx => by simp only [List.mem_singleton] at hx; subst hx; exact nj g (by decide) (by decide), fun hs x hx => by simp only [List.mem_singleton] at hx; subst hx; exact hs _ (mem_getD (Nat.lt_of_lt_of_le (by decide) l))⟩
      · rename_i c3; rw [if_neg c3]
        split at h
        · rename_i c; have l := hasR_len c.1; rw [if_pos c]
          have g := hasR_get c.1 1 (by decide); have g2 := hasR_get c.1 2 (by decide)
          refine ⟨l, by simp, by simp, by simp, fun x hx => ?_, fun hs x hx => ?_⟩
          · simp only [List.mem_cons, List.not_mem_nil, or_false] at hx
            rcases hx with hx | hx
            · subst hx; exact nj g (by decide) (by decide)
            · subst hx; exact nj g2 (by decide) (by decide)
          · simp only [List.mem_cons, List.not_mem_nil, or_false] at hx
            rcases hx with hx | hx
            · subst hx; exact hs _ (mem_getD (Nat.lt_of_lt_of_le (by decide) l))
            · subst hx; exact hs _ (mem_getD (Nat.lt_of_lt_of_le (by decide) l))
        · rename_i c4; rw [if_neg c4]
          split at h
          · rename_i c; have l := hasR_len c.2.1; rw [if_pos c]
            refine ⟨l, by simp, by simp, by simp, fun x hx => ?_, fun hs x hx => ?_⟩
            · simp only [List.mem_singleton] at hx; subst hx
              rcases c.1 with h | h
              · exact plain_nj h
              · exact nj h (by decide) (by decide)
            · simp only [List.mem_singleton] at hx; subst hx
              exact hs _ (mem_getD (Nat.lt_of_lt_of_le (Nat.zero_lt_succ _) l))
          · rename_i c5; rw [if_neg c5]
            split at h
            · rename_i c; have l := hasR_len c.2.1; rw [if_pos c]
              refine ⟨l, by simp, by simp, by simp, fun x hx => ?_, fun hs x hx => ?_⟩
              · simp only [List.mem_singleton] at hx; subst hx; exact plain_nj c.1
              · simp only [List.mem_singleton] at hx; subst hx
                exact hs _ (mem_getD (Nat.lt_of_lt_of_le (Nat.zero_lt_succ _) l))
            · rename_i c6; rw [if_neg c6]
              split at h
              · rename_i c; have l := hasR_len c.1; rw [if_pos c]
                exact ⟨l, by simp, by simp, by simp, by simp [jmpB], fun _ x hx => by simp at hx; subst hx; exact instr_num (.inr rfl) c.2⟩
              · exact absurd h (by decide)
theorem splR_len {a : An} {k n : Nat} {b : List In} (h : k + n ≤ a.code.length) : (splR a k n b).code.length + n = a.code.length + b.length := by
  simp only [splR, List.length_map, List.length_append, List.length_take, List.length_drop]; omega
theorem rule_in {a : An} {k : Nat} (h : 0 < (ruleA a k).1) : k + (ruleA a k).1 ≤ a.code.length := by
  have h1 : (ruleA a k).1 ≤ (sgt a.code a.pts k).length := (ruleR_ok h).n
  have h2 := sgt_le (c := a.code) (ps := a.pts) (k := k)
  have h3 : 0 < (ruleA a k).1 := h
  omega
theorem rule_lt {a : An} {k : Nat} (h : 0 < (ruleA a k).1) : (splR a k (ruleA a k).1 (ruleA a k).2).code.length < a.code.length := by
  have h1 := splR_len (b := (ruleA a k).2) (rule_in h)
  have h2 : (ruleA a k).2.length < (ruleA a k).1 := (ruleR_ok h).lt
  omega
theorem stepF_some {a b : An} : ∀ {f k : Nat}, stepF a f k = some b → ∃ j, k ≤ j ∧ j < k + f ∧ 0 < (ruleA a j).1 ∧ b = splR a j (ruleA a j).1 (ruleA a j).2 ∧ ∀ i, k ≤ i → i < j → (ruleA a i).1 = 0
  | 0, k, h => by cases h
  | f + 1, k, h => by
    rw [stepF] at h
    split at h
    · rename_i h0
      simp only [Option.some.injEq] at h
      exact ⟨k, Nat.le_refl _, by omega, h0, h.symm, fun i h1 h2 => by omega⟩
    · rename_i h0
      obtain ⟨j, h1, h2, h3, h4, h5⟩ := stepF_some h
      refine ⟨j, by omega, by omega, h3, h4, fun i hi hj => ?_⟩
      rcases Nat.eq_or_lt_of_le hi with e | e
      · subst e; omega
      · exact h5 i e hj
theorem stepF_none {a : An} : ∀ {f k : Nat}, (∀ i, k ≤ i → i < k + f → (ruleA a i).1 = 0) → stepF a f k = none
  | 0, k, _ => rfl
  | f + 1, k, h => by
    rw [stepF, if_neg (by rw [h k (Nat.le_refl _) (by omega)]; decide)]
    exact stepF_none fun i h1 h2 => h i (by omega) (by omega)
theorem stepF_at {a : An} {j : Nat} (h : 0 < (ruleA a j).1) : ∀ {f k : Nat}, k ≤ j → j < k + f → (∀ i, k ≤ i → i < j → (ruleA a i).1 = 0) → stepF a f k = some (splR a j (ruleA a j).1 (ruleA a j).2)
  | 0, k, h1, h2, _ => by omega
  | f + 1, k, h1, h2, h3 => by
    rw [stepF]
    rcases Nat.eq_or_lt_of_le h1 with e | e
    · subst e; rw [if_pos h]
    · rw [if_neg (by rw [h3 k (Nat.le_refl _) e]; decide)]
      exact stepF_at h (by omega) (by omega) fun i h4 h5 => h3 i (by omega) h5
theorem stepR_lt {a b : An} (h : stepR a = some b) : b.code.length < a.code.length := by
  obtain ⟨j, _, _, h3, h4, _⟩ := stepF_some h
  subst h4; exact rule_lt h3
theorem foldF_eq : ∀ {f g : Nat} {a : An}, a.code.length ≤ f → a.code.length ≤ g → foldF f a = foldF g a
  | 0, 0, a, _, _ => rfl
  | 0, g + 1, a, h, _ => by
    have : stepR a = none := by rw [stepR, Nat.le_zero.1 h]; rfl
    show a = (match stepR a with | none => a | some b => foldF g b)
    rw [this]
  | f + 1, 0, a, _, h => by
    have : stepR a = none := by rw [stepR, Nat.le_zero.1 h]; rfl
    show (match stepR a with | none => a | some b => foldF f b) = a
    rw [this]
  | f + 1, g + 1, a, h1, h2 => by
    rw [foldF, foldF]
    cases e : stepR a with
    | none => rfl
    | some b =>
      have := stepR_lt e
      exact foldF_eq (by omega) (by omega)
theorem foldR_some {a b : An} (h : stepR a = some b) : foldR a = foldR b := by
  have h1 := stepR_lt h
  show foldF a.code.length a = foldF b.code.length b
  obtain ⟨n, e⟩ : ∃ n, a.code.length = n + 1 := ⟨a.code.length - 1, by omega⟩
  rw [e, foldF, h]
  exact foldF_eq (by omega) (Nat.le_refl _)
theorem foldR_none {a : An} (h : stepR a = none) : foldR a = a := by
  show foldF a.code.length a = a
  cases e : a.code.length with
  | zero => rfl
  | succ n => rw [foldF, h]
theorem sMap_ok {k l : Int} {x : In} (h0 : 0 ≤ k) (hl0 : 0 ≤ l) (hx : instrB x = true) (hp : jmpB x = true → k < x.a → k + l ≤ x.a) : instrB (sMap k l x) = true := by
  unfold sMap
  split
  · rename_i c
    have hj := c.1
    have h2 := hp c.1 c.2
    simp only [jmpB, Bool.or_eq_true, decide_eq_true_eq] at hj
    unfold instrB at hx ⊢
    simp only at hx ⊢
    rw [if_neg (by omega), if_neg (by omega), if_pos hj] at hx ⊢
    simp only [inB, Bool.and_eq_true, decide_eq_true_eq] at hx ⊢
    omega
  · exact hx
theorem jmpTo_of {c : List In} {x : In} (h : x ∈ c) (hj : jmpB x = true) : jmpTo c x.a = true := List.any_eq_true.2 ⟨x, h, by rw [hj]; simp⟩
theorem ptAt_of {ps : List Pt} {p : Pt} (h : p ∈ ps) : ptAt ps p.k = true := List.any_eq_true.2 ⟨p, h, by simp⟩
/-- No place lies inside of what a rule replaces. -/
theorem rule_place {a : An} {k : Nat} (h : 0 < (ruleA a k).1) {z : Int} (hz : plB a.code a.pts z = true) : z ≤ k ∨ ((k + (ruleA a k).1 : Nat) : Int) ≤ z := by
  have h1 : (ruleA a k).1 ≤ (sgt a.code a.pts k).length := (ruleR_ok h).n
  rcases Int.lt_or_le (k : Int) z with h2 | h2
  · right
    rcases Int.lt_or_le z ((k + (ruleA a k).1 : Nat) : Int) with h3 | h3
    · have := sgt_place (c := a.code) (ps := a.pts) (k := k) (i := z.toNat - k) (by omega) (by omega)
      rw [show ((k + (z.toNat - k) : Nat) : Int) = z by omega, hz] at this; cases this
    · exact h3
  · exact .inl h2
theorem AOk.spl {a : An} (h : AOk a) {k : Nat} (hr : 0 < (ruleA a k).1) : AOk (splR a k (ruleA a k).1 (ruleA a k).2) := by
  have hk := rule_in hr
  have hlt := rule_lt hr
  have hok := ruleR_ok hr
  have hs : ∀ x ∈ sgt a.code a.pts k, instrB x = true := fun x hx => by
    obtain ⟨i, hi, rfl⟩ := List.getElem_of_mem hx
    have h1 := sgt_le (c := a.code) (ps := a.pts) (k := k)
    have := sgt_getD hi
    rw [getD_lt hi, getD_lt (by omega)] at this
    rw [this]; exact h.code _ (List.getElem_mem _)
  obtain ⟨n, hn⟩ : ∃ n, n = (ruleA a k).1 := ⟨_, rfl⟩
  obtain ⟨b, hb⟩ : ∃ b, b = (ruleA a k).2 := ⟨_, rfl⟩
  have hl1 : (ruleA a k).2.length < (ruleA a k).1 := hok.lt
  have hl2 : 1 ≤ (ruleA a k).2.length := hok.one
  rw [← hn] at hk; rw [← hn, ← hb] at hl1; rw [← hb] at hl2
  refine ⟨fun x hx => ?_, fun p hp => ?_, by have := h.len; omega, ?_, h.npre, h.npost⟩
  · simp only [splR, List.mem_map, ← hn, ← hb] at hx
    obtain ⟨y, hy, rfl⟩ := hx
    simp only [List.append_assoc, List.mem_append] at hy
    have hc : ∀ y ∈ a.code, instrB (sMap k ((n : Int) - b.length) y) = true := fun y hy => by
      refine sMap_ok (by omega) (by omega) (h.code y hy) fun hj hlt => ?_
      have := rule_place hr (show plB a.code a.pts y.a = true by rw [plB, jmpTo_of hy hj]; rfl)
      rw [← hn] at this; omega
    rcases hy with hy | hy | hy
    · exact hc y (List.mem_of_mem_take hy)
    · refine sMap_ok (by omega) (by omega) (hok.ok hs y (hb ▸ hy)) fun hj => ?_
      rw [hok.jmp y (hb ▸ hy)] at hj; cases hj
    · exact hc y (List.mem_of_mem_drop hy)
  · simp only [splR, List.mem_map, ← hn, ← hb] at hp
    obtain ⟨q, hq, rfl⟩ := hp
    have h0 := h.pts q hq
    have := rule_place hr (show plB a.code a.pts q.k = true by rw [plB, ptAt_of hq, Bool.or_true])
    rw [← hn] at this
    unfold sPt; split
    · show 0 ≤ q.k - _ ∧ q.k - _ ≤ 79; omega
    · exact h0
  · simp only [splR, List.length_map]; exact h.np
end Go.Al
namespace Go.Al
open Go.Proofs
set_option linter.unusedVariables false
set_option linter.unusedSimpArgs false
set_option maxRecDepth 10000
set_option maxHeartbeats 4000000
theorem c65 {L : Nat} (h1 : 4096 ≤ L) (h2 : L ≤ 9223372036854775807) {xs : List In} {left : Int} (hl0 : 0 ≤ left) (hl1 : left ≤ 1048576) : MC Try.prog L 12 [ains xs, eI left] [] (Plain (eI (szr left xs.length))) := by
 refine MC.alone ?_ rfl
 have hσ := SGok (nt := 12) h1 h2
 refine MC.body hσ Try.func12 (by kernel_rfl) rfl rfl (Nat.le_of_ble_eq_true rfl) (fun hF => ?_)
 have hl : xs.length ≤ L := by simpa [As.fact, A.fact, M.fact, D.fact, Ds.fact] using hF.1.1
 refine AWP.seq ?_
 refine AWP.region ?_
 refine AOps.step (Val.of hσ rfl rfl) rfl rfl rfl ?_
 refine AOps.nil ?_
 refine AWP.seq ?_
 refine AWP.region ?_
 refine AOps.step (Val.of hσ rfl rfl) rfl rfl rfl ?_
 refine AOps.step (Val.of hσ rfl rfl) rfl rfl rfl ?_
 first | refine AOps.step (Val.lenD hσ rfl rfl rfl rfl rfl rfl rfl rfl) rfl rfl rfl ?_ | refine AOps.step (Val.of hσ rfl rfl) rfl rfl rfl ?_ | refine AOps.step (Val.vif hσ rfl rfl (by first | omega | (simp at *; omega))) rfl rfl rfl ?_
 first | refine AOps.step (Val.fits64 hσ rfl rfl (by first | omega | (simp at *; omega)) (by first | omega | (simp at *; omega))) rfl rfl rfl ?_ | refine AOps.step (Val.vif hσ rfl rfl (by first | omega | (simp at *; omega))) rfl rfl rfl ?_
 refine AOps.step (Val.of hσ rfl rfl) rfl rfl rfl ?_
 refine AOps.nil ?_
 refine AWP.seq ?_
 refine AWP.seq ?_
 refine AWP.region ?_
 refine AOps.step (Val.of hσ rfl rfl) rfl rfl rfl ?_
 refine AOps.step (Val.of hσ rfl rfl) rfl rfl rfl ?_
 refine AOps.nil ?_
 refine AWP.cond hσ rfl rfl (fun hc10 => ?_) (fun hc10 => ?_)
 ·
  try simp only [List.length_map, beq_iff_eq, decide_eq_true_eq, decide_eq_false_iff_not, Bool.not_eq_true', Bool.not_eq_false', Bool.not_true, Bool.not_false, Int.not_lt, Int.not_le] at hc10
  refine AWP.seq ?_
  refine AWP.region ?_
  refine AOps.step (Val.of hσ rfl rfl) rfl rfl rfl ?_
  refine AOps.nil ?_
  refine AWP.ret ?_
  refine ⟨.inl rfl, _, Ent.refl, _, rfl, ?_⟩
  rw [show szr left xs.length = -1 from if_pos (by omega)]
 ·
  try simp only [List.length_map, beq_iff_eq, decide_eq_true_eq, decide_eq_false_iff_not, Bool.not_eq_true', Bool.not_eq_false', Bool.not_true, Bool.not_false, Int.not_lt, Int.not_le] at hc10
  refine AWP.skip ?_
  refine AWP.seq ?_
  refine AWP.region ?_
  refine AOps.step (Val.of hσ rfl rfl) rfl rfl rfl ?_
  refine AOps.step (Val.of hσ rfl rfl) rfl rfl rfl ?_
  refine AOps.nil ?_
  refine AWP.ret ?_
  refine ⟨.inl rfl, _, Ent.refl, _, rfl, ?_⟩
  rw [show szr left xs.length = left - xs.length from if_neg (by omega)]
theorem c116 {L : Nat} (h1 : 4096 ≤ L) (h2 : L ≤ 9223372036854775807) {t : Pt} {left : Int} (hl0 : 0 ≤ left) (hl1 : left ≤ 1048576) : MC Try.prog L 32 [.agg (t.cells.map .d), eI left] [] (Plain (eI (szr left t.size))) := by
 refine MC.alone ?_ rfl
 have hσ := SGok (nt := 12) h1 h2
 refine MC.body hσ Try.func32 (by kernel_rfl) rfl rfl (Nat.le_of_ble_eq_true rfl) (fun hF => ?_)
 refine AWP.seq ?_
 refine AWP.region ?_
 refine AOps.heap (HS.box hσ rfl rfl rfl rfl rfl rfl rfl) rfl ?_
 refine AOps.step (Val.of hσ rfl rfl) rfl rfl rfl ?_
 refine AOps.nil ?_
 refine AWP.seq ?_
 refine AWP.region ?_
 refine AOps.step (Val.of hσ rfl rfl) rfl rfl rfl ?_
 refine AOps.step (Val.of hσ rfl rfl) rfl rfl rfl ?_
 refine AOps.step (Val.of hσ rfl rfl) rfl rfl rfl ?_
 refine AOps.lone hσ rfl rfl rfl rfl (c52 (ts := t.fs) h1 h2 hl0 hl1) (VAs.self rfl) rfl rfl rfl rfl rfl (B0 := 9000) rfl ?_
 refine AOps.step (Val.of hσ rfl rfl) rfl rfl rfl ?_
 refine AOps.nil ?_
 refine AWP.seq ?_
 refine AWP.seq ?_
 refine AWP.region ?_
 refine AOps.step (Val.of hσ rfl rfl) rfl rfl rfl ?_
 refine AOps.step (Val.of hσ rfl rfl) rfl rfl rfl ?_
 refine AOps.nil ?_
 refine AWP.cond hσ rfl rfl (fun hc10 => ?_) (fun hc10 => ?_)
 ·
  try simp only [List.length_map, beq_iff_eq, decide_eq_true_eq, decide_eq_false_iff_not, Bool.not_eq_true', Bool.not_eq_false', Bool.not_true, Bool.not_false, Int.not_lt, Int.not_le] at hc10
  refine AWP.seq ?_
  refine AWP.region ?_
  refine AOps.step (Val.of hσ rfl rfl) rfl rfl rfl ?_
  refine AOps.nil ?_
  refine AWP.ret ?_
  refine ⟨.inl rfl, _, Ent.refl, _, rfl, ?_⟩
  have : szr left t.size = -1 := by unfold szr Pt.size at *; split at hc10 <;> simp_all <;> omega
  rw [this]
 ·
  try simp only [List.length_map, beq_iff_eq, decide_eq_true_eq, decide_eq_false_iff_not, Bool.not_eq_true', Bool.not_eq_false', Bool.not_true, Bool.not_false, Int.not_lt, Int.not_le] at hc10
  refine AWP.skip ?_
  refine AWP.seq ?_
  refine AWP.region ?_
  refine AOps.step (Val.of hσ rfl rfl) rfl rfl rfl ?_
  refine AOps.step (Val.of hσ rfl rfl) rfl rfl rfl ?_
  refine AOps.nil ?_
  refine AWP.ret ?_
  refine ⟨.inl rfl, _, Ent.refl, _, rfl, ?_⟩
  rfl
theorem c66 {L : Nat} (h1 : 4096 ≤ L) (h2 : L ≤ 9223372036854775807) {ts : List Pt} {left : Int} (hl0 : 0 ≤ left) (hl1 : left ≤ 1048576) : MC Try.prog L 13 [.c (.d (ptsD ts)), eI left] [] (Plain (eI (szr left (Al.szs Pt.size ts)))) := by
 refine MC.alone ?_ rfl
 have hσ := SGok (nt := 27) h1 h2
 refine MC.body hσ Try.func13 (by kernel_rfl) rfl rfl (Nat.le_of_ble_eq_true rfl) (fun hF => ?_)
 have hl : ts.length ≤ L := by simpa [As.fact, A.fact, M.fact, D.fact, Ds.fact] using hF.1.1
 refine AWP.seq ?_
 refine AWP.region ?_
 refine AOps.step (Val.of hσ rfl rfl) rfl rfl rfl ?_
 refine AOps.nil ?_
 refine AWP.seq ?_
 refine AWP.region ?_
 refine AOps.step (Val.of hσ rfl rfl) rfl rfl rfl ?_
 refine AOps.step (Val.of hσ rfl rfl) rfl rfl rfl ?_
 first | refine AOps.step (Val.lenD hσ rfl rfl rfl rfl rfl rfl rfl rfl) rfl rfl rfl ?_ | refine AOps.step (Val.of hσ rfl rfl) rfl rfl rfl ?_ | refine AOps.step (Val.vif hσ rfl rfl (by first | omega | (simp at *; omega))) rfl rfl rfl ?_
 first | refine AOps.step (Val.fits64 hσ rfl rfl (by first | omega | (simp at *; omega)) (by first | omega | (simp at *; omega))) rfl rfl rfl ?_ | refine AOps.step (Val.vif hσ rfl rfl (by first | omega | (simp at *; omega))) rfl rfl rfl ?_
 refine AOps.step (Val.of hσ rfl rfl) rfl rfl rfl ?_
 refine AOps.nil ?_
 refine AWP.seq ?_
 refine AWP.seq ?_
 refine AWP.region ?_
 refine AOps.step (Val.of hσ rfl rfl) rfl rfl rfl ?_
 refine AOps.step (Val.of hσ rfl rfl) rfl rfl rfl ?_
 refine AOps.nil ?_
 refine AWP.cond hσ rfl rfl (fun hc11 => ?_) (fun hc11 => ?_)
 ·
  try simp only [List.length_map, beq_iff_eq, decide_eq_true_eq, decide_eq_false_iff_not, Bool.not_eq_true', Bool.not_eq_false', Bool.not_true, Bool.not_false, Int.not_lt, Int.not_le] at hc11
  refine AWP.seq ?_
  refine AWP.region ?_
  refine AOps.step (Val.of hσ rfl rfl) rfl rfl rfl ?_
  refine AOps.nil ?_
  refine AWP.ret ?_
  refine ⟨.inl rfl, _, Ent.refl, _, rfl, ?_⟩
  rw [show szr left (Al.szs Pt.size ts) = -1 from if_pos (by unfold Al.szs; omega)]
 ·
  try simp only [List.length_map, beq_iff_eq, decide_eq_true_eq, decide_eq_false_iff_not, Bool.not_eq_true', Bool.not_eq_false', Bool.not_true, Bool.not_false, Int.not_lt, Int.not_le] at hc11
  refine AWP.skip ?_
  refine AWP.seq ?_
  refine AWP.seq ?_
  refine AWP.region ?_
  refine AOps.step (Val.of hσ rfl rfl) rfl rfl rfl ?_
  refine AOps.nil ?_
  refine AWP.block ?_
  refine AWP.loopP (X := Nat) (fun i => ⟨[(0, .c (.d (ptsD ts))), (1, eI (left - ts.length - ((ts.take i).map Pt.size).sum)), (5, eI i)], []⟩) (fun i => i ≤ ts.length ∧ (0 : Int) ≤ left - ts.length - ((ts.take i).map Pt.size).sum) (fun i => ts.length - i) 0 (Ent.env ⟨rfl, by simp [lk_cons], rfl, trivial⟩) ?_ (fun i hi => ?_)
  ·
   exact ⟨Nat.zero_le _, by simp; omega⟩
  refine AWP.seq ?_
  refine AWP.seq ?_
  refine AWP.region ?_
  refine AOps.step (Val.of hσ rfl rfl) rfl rfl rfl ?_
  refine AOps.step (Val.of hσ rfl rfl) rfl rfl rfl ?_
  first | refine AOps.step (Val.lenD hσ rfl rfl rfl rfl rfl rfl rfl rfl) rfl rfl rfl ?_ | refine AOps.step (Val.of hσ rfl rfl) rfl rfl rfl ?_ | refine AOps.step (Val.vif hσ rfl rfl (by first | omega | (simp at *; omega))) rfl rfl rfl ?_
  refine AOps.step (Val.of hσ rfl rfl) rfl rfl rfl ?_
  refine AOps.nil ?_
  refine AWP.cond hσ rfl rfl (fun hc15 => ?_) (fun hc15 => ?_)
  ·
   try simp only [List.length_map, beq_iff_eq, decide_eq_true_eq, decide_eq_false_iff_not, Bool.not_eq_true', Bool.not_eq_false', Bool.not_true, Bool.not_false, Int.not_lt, Int.not_le] at hc15
   refine AWP.skip ?_
   refine AWP.seq ?_
   refine AWP.block ?_
   refine AWP.seq ?_
   refine AWP.region ?_
   refine AOps.step (Val.of hσ rfl rfl) rfl rfl rfl ?_
   refine AOps.step (Val.of hσ rfl rfl) rfl rfl rfl ?_
   first | refine AOps.step (Val.indexD hσ rfl rfl rfl rfl rfl rfl rfl rfl (by first | omega | (simp at *; omega)) (idx_get (by first | omega | (simp at *; omega)) (by first | omega | (simp at *; omega)))) rfl rfl rfl ?_ | refine AOps.step (Val.vif hσ rfl rfl (by first | omega | (simp at *; omega))) rfl rfl rfl ?_
   refine AOps.step (Val.of hσ rfl rfl) rfl rfl rfl ?_
   refine AOps.step (Val.of hσ rfl rfl) rfl rfl rfl ?_
   refine AOps.lone hσ rfl rfl rfl rfl (c116 h1 h2 hi.2 (by omega)) (VAs.self rfl) rfl rfl rfl rfl rfl (B0 := 24000) rfl ?_
   refine AOps.step (Val.of hσ rfl rfl) rfl rfl rfl ?_
   refine AOps.nil ?_
   refine AWP.seq ?_
   refine AWP.region ?_
   refine AOps.step (Val.of hσ rfl rfl) rfl rfl rfl ?_
   refine AOps.step (Val.of hσ rfl rfl) rfl rfl rfl ?_
   refine AOps.nil ?_
   refine AWP.cond hσ rfl rfl (fun hc25 => ?_) (fun hc25 => ?_)
   ·
    try simp only [List.length_map, beq_iff_eq, decide_eq_true_eq, decide_eq_false_iff_not, Bool.not_eq_true', Bool.not_eq_false', Bool.not_true, Bool.not_false, Int.not_lt, Int.not_le] at hc25
    refine AWP.seq ?_
    refine AWP.region ?_
    refine AOps.step (Val.of hσ rfl rfl) rfl rfl rfl ?_
    refine AOps.nil ?_
    refine AWP.ret ?_
    refine ⟨.inl rfl, _, Ent.refl, _, rfl, ?_⟩
    have e := sum_take Pt.size ts i (by omega)
    have e3 := sum_le Pt.size ts (i + 1)
    rw [Int.toNat_natCast] at hc25
    rw [show szr left (Al.szs Pt.size ts) = -1 from if_pos (by unfold szr at hc25; unfold Al.szs; split at hc25 <;> omega)]
   ·
    try simp only [List.length_map, beq_iff_eq, decide_eq_true_eq, decide_eq_false_iff_not, Bool.not_eq_true', Bool.not_eq_false', Bool.not_true, Bool.not_false, Int.not_lt, Int.not_le] at hc25
    refine AWP.skip ?_
    refine AWP.region ?_
    refine AOps.step (Val.of hσ rfl rfl) rfl rfl rfl ?_
    first | refine AOps.step (Val.fits64 hσ rfl rfl (by first | omega | (simp at *; omega)) (by first | omega | (simp at *; omega))) rfl rfl rfl ?_ | refine AOps.step (Val.vif hσ rfl rfl (by first | omega | (simp at *; omega))) rfl rfl rfl ?_
    refine AOps.step (Val.of hσ rfl rfl) rfl rfl rfl ?_
    refine AOps.nil ?_
    have e := sum_take Pt.size ts i (by omega)
    have e2 : szr (left - ts.length - ((ts.take i).map Pt.size).sum) (Pt.size (ts.getD i default)) = left - ts.length - ((ts.take (i + 1)).map Pt.size).sum := by
     unfold szr at hc25 ⊢
     rw [Int.toNat_natCast] at hc25
     split at hc25 <;> omega
    refine ⟨i + 1, Ent.env ⟨rfl, ?_, rfl, trivial⟩, ⟨by omega, ?_⟩, by omega⟩
    ·
     rw [← e2]; rfl
    ·
     rw [← e2]; rw [Int.toNat_natCast] at hc25; omega
  ·
   try simp only [List.length_map, beq_iff_eq, decide_eq_true_eq, decide_eq_false_iff_not, Bool.not_eq_true', Bool.not_eq_false', Bool.not_true, Bool.not_false, Int.not_lt, Int.not_le] at hc15
   refine AWP.exit ?_
   refine AWP.seq ?_
   refine AWP.region ?_
   refine AOps.step (Val.of hσ rfl rfl) rfl rfl rfl ?_
   refine AOps.step (Val.of hσ rfl rfl) rfl rfl rfl ?_
   refine AOps.nil ?_
   refine AWP.ret ?_
   refine ⟨.inl rfl, _, Ent.refl, _, rfl, ?_⟩
   obtain rfl : i = ts.length := by omega
   have e4 := hi.2
   rw [List.take_length] at e4 ⊢
   rw [show szr left (Al.szs Pt.size ts) = left - ts.length - (ts.map Pt.size).sum from by unfold szr Al.szs; rw [if_neg (by omega)]; omega]
theorem c22 {L : Nat} (h1 : 4096 ≤ L) (h2 : L ≤ 9223372036854775807) {a : An} {left : Int} (hl0 : 0 ≤ left) (hl1 : left ≤ 1048576) : MC Try.prog L 4 [aAn a, eI left] [] (Plain (eI (szr left a.size))) := by
 refine MC.alone ?_ rfl
 have hσ := SGok (nt := 30) h1 h2
 refine MC.body hσ Try.func4 (by kernel_rfl) rfl rfl (Nat.le_of_ble_eq_true rfl) (fun hF => ?_)
 refine AWP.seq ?_
 refine AWP.region ?_
 refine AOps.heap (HS.box hσ rfl rfl rfl rfl rfl rfl rfl) rfl ?_
 refine AOps.step (Val.of hσ rfl rfl) rfl rfl rfl ?_
 refine AOps.nil ?_
 refine AWP.seq ?_
 refine AWP.region ?_
 refine AOps.step (Val.of hσ rfl rfl) rfl rfl rfl ?_
 refine AOps.step (Val.of hσ rfl rfl) rfl rfl rfl ?_
 refine AOps.step (Val.of hσ rfl rfl) rfl rfl rfl ?_
 refine AOps.lone hσ rfl rfl rfl rfl (c52 (ts := a.pre) h1 h2 hl0 hl1) (VAs.self rfl) rfl rfl rfl rfl rfl (B0 := 9000) rfl ?_
 refine AOps.step (Val.of hσ rfl rfl) rfl rfl rfl ?_
 refine AOps.nil ?_
 refine AWP.seq ?_
 refine AWP.seq ?_
 refine AWP.region ?_
 refine AOps.step (Val.of hσ rfl rfl) rfl rfl rfl ?_
 refine AOps.step (Val.of hσ rfl rfl) rfl rfl rfl ?_
 refine AOps.nil ?_
 refine AWP.cond hσ rfl rfl (fun hc10 => ?_) (fun hc10 => ?_)
 ·
  try simp only [List.length_map, beq_iff_eq, decide_eq_true_eq, decide_eq_false_iff_not, Bool.not_eq_true', Bool.not_eq_false', Bool.not_true, Bool.not_false, Int.not_lt, Int.not_le] at hc10
  refine AWP.seq ?_
  refine AWP.region ?_
  refine AOps.step (Val.of hσ rfl rfl) rfl rfl rfl ?_
  refine AOps.nil ?_
  refine AWP.ret ?_
  refine ⟨.inl rfl, _, Ent.refl, _, rfl, ?_⟩
  unfold An.size
  rw [Nat.add_assoc, Nat.add_assoc, szr_neg _ hc10]
 ·
  try simp only [List.length_map, beq_iff_eq, decide_eq_true_eq, decide_eq_false_iff_not, Bool.not_eq_true', Bool.not_eq_false', Bool.not_true, Bool.not_false, Int.not_lt, Int.not_le] at hc10
  refine AWP.skip ?_
  refine AWP.seq ?_
  refine AWP.region ?_
  refine AOps.step (Val.of hσ rfl rfl) rfl rfl rfl ?_
  refine AOps.step (Val.of hσ rfl rfl) rfl rfl rfl ?_
  refine AOps.step (Val.of hσ rfl rfl) rfl rfl rfl ?_
  have le1 := szr_le hl0 (szs Tm.size a.pre)
  refine AOps.lone hσ rfl rfl rfl rfl (c52 (ts := a.post) h1 h2 hc10 (by omega)) (VAs.self rfl) rfl rfl rfl rfl rfl (B0 := 15000) rfl ?_
  refine AOps.step (Val.of hσ rfl rfl) rfl rfl rfl ?_
  refine AOps.nil ?_
  refine AWP.seq ?_
  refine AWP.seq ?_
  refine AWP.region ?_
  refine AOps.step (Val.of hσ rfl rfl) rfl rfl rfl ?_
  refine AOps.step (Val.of hσ rfl rfl) rfl rfl rfl ?_
  refine AOps.nil ?_
  refine AWP.cond hσ rfl rfl (fun hc16 => ?_) (fun hc16 => ?_)
  ·
   try simp only [List.length_map, beq_iff_eq, decide_eq_true_eq, decide_eq_false_iff_not, Bool.not_eq_true', Bool.not_eq_false', Bool.not_true, Bool.not_false, Int.not_lt, Int.not_le] at hc16
   refine AWP.seq ?_
   refine AWP.region ?_
   refine AOps.step (Val.of hσ rfl rfl) rfl rfl rfl ?_
   refine AOps.nil ?_
   refine AWP.ret ?_
   refine ⟨.inl rfl, _, Ent.refl, _, rfl, ?_⟩
   unfold An.size
   rw [szr_add _ hc10] at hc16
   rw [Nat.add_assoc, szr_neg _ hc16]
  ·
   try simp only [List.length_map, beq_iff_eq, decide_eq_true_eq, decide_eq_false_iff_not, Bool.not_eq_true', Bool.not_eq_false', Bool.not_true, Bool.not_false, Int.not_lt, Int.not_le] at hc16
   refine AWP.skip ?_
   refine AWP.seq ?_
   refine AWP.region ?_
   refine AOps.step (Val.of hσ rfl rfl) rfl rfl rfl ?_
   refine AOps.step (Val.of hσ rfl rfl) rfl rfl rfl ?_
   refine AOps.step (Val.of hσ rfl rfl) rfl rfl rfl ?_
   rw [szr_add _ hc10] at hc16 ⊢
   have le2 := szr_le hl0 (szs Tm.size a.pre + szs Tm.size a.post)
   refine AOps.lone hσ rfl rfl rfl rfl (c65 (xs := a.code) h1 h2 hc16 (by omega)) (VAs.self rfl) rfl rfl rfl rfl rfl (B0 := 21000) rfl ?_
   refine AOps.step (Val.of hσ rfl rfl) rfl rfl rfl ?_
   refine AOps.nil ?_
   refine AWP.seq ?_
   refine AWP.seq ?_
   refine AWP.region ?_
   refine AOps.step (Val.of hσ rfl rfl) rfl rfl rfl ?_
   refine AOps.step (Val.of hσ rfl rfl) rfl rfl rfl ?_
   refine AOps.nil ?_
   refine AWP.cond hσ rfl rfl (fun hc22 => ?_) (fun hc22 => ?_)
   ·
    try simp only [List.length_map, beq_iff_eq, decide_eq_true_eq, decide_eq_false_iff_not, Bool.not_eq_true', Bool.not_eq_false', Bool.not_true, Bool.not_false, Int.not_lt, Int.not_le] at hc22
    refine AWP.seq ?_
    refine AWP.region ?_
    refine AOps.step (Val.of hσ rfl rfl) rfl rfl rfl ?_
    refine AOps.nil ?_
    refine AWP.ret ?_
    refine ⟨.inl rfl, _, Ent.refl, _, rfl, ?_⟩
    unfold An.size
    rw [szr_add _ hc16] at hc22
    rw [szr_neg _ hc22]
   ·
    try simp only [List.length_map, beq_iff_eq, decide_eq_true_eq, decide_eq_false_iff_not, Bool.not_eq_true', Bool.not_eq_false', Bool.not_true, Bool.not_false, Int.not_lt, Int.not_le] at hc22
    refine AWP.skip ?_
    refine AWP.seq ?_
    refine AWP.region ?_
    refine AOps.step (Val.of hσ rfl rfl) rfl rfl rfl ?_
    refine AOps.step (Val.of hσ rfl rfl) rfl rfl rfl ?_
    refine AOps.step (Val.of hσ rfl rfl) rfl rfl rfl ?_
    rw [szr_add _ hc16] at hc22 ⊢
    have le3 := szr_le hl0 (szs Tm.size a.pre + szs Tm.size a.post + a.code.length)
    refine AOps.lone hσ rfl rfl rfl rfl (c66 (ts := a.pts) h1 h2 hc22 (by omega)) (VAs.self rfl) rfl rfl rfl rfl rfl (B0 := 27000) rfl ?_
    refine AOps.step (Val.of hσ rfl rfl) rfl rfl rfl ?_
    refine AOps.nil ?_
    refine AWP.seq ?_
    refine AWP.seq ?_
    refine AWP.region ?_
    refine AOps.step (Val.of hσ rfl rfl) rfl rfl rfl ?_
    refine AOps.step (Val.of hσ rfl rfl) rfl rfl rfl ?_
    refine AOps.nil ?_
    refine AWP.cond hσ rfl rfl (fun hc28 => ?_) (fun hc28 => ?_)
    ·
     try simp only [List.length_map, beq_iff_eq, decide_eq_true_eq, decide_eq_false_iff_not, Bool.not_eq_true', Bool.not_eq_false', Bool.not_true, Bool.not_false, Int.not_lt, Int.not_le] at hc28
     refine AWP.seq ?_
     refine AWP.region ?_
     refine AOps.step (Val.of hσ rfl rfl) rfl rfl rfl ?_
     refine AOps.nil ?_
     refine AWP.ret ?_
     refine ⟨.inl rfl, _, Ent.refl, _, rfl, ?_⟩
     unfold An.size
     rw [szr_add _ hc22] at hc28
     unfold szr at hc28 ⊢
     split at hc28
     ·
      rw [if_pos (by omega)]
     ·
      omega
    ·
     try simp only [List.length_map, beq_iff_eq, decide_eq_true_eq, decide_eq_false_iff_not, Bool.not_eq_true', Bool.not_eq_false', Bool.not_true, Bool.not_false, Int.not_lt, Int.not_le] at hc28
     refine AWP.skip ?_
     refine AWP.seq ?_
     refine AWP.region ?_
     refine AOps.step (Val.of hσ rfl rfl) rfl rfl rfl ?_
     refine AOps.step (Val.of hσ rfl rfl) rfl rfl rfl ?_
     refine AOps.nil ?_
     refine AWP.ret ?_
     refine ⟨.inl rfl, _, Ent.refl, _, rfl, ?_⟩
     rw [szr_add _ hc22]
     rfl
theorem c122 {L : Nat} (h1 : 4096 ≤ L) (h2 : L ≤ 1073741824) {x : In} : MC Try.prog L 40 [.agg (x.cells.map .d)] [] (Rows (.agg [.d (.int .i64 x.op), .d (.int .i64 x.a)]) []) := by
 refine MC.rows ?_
 have hσ := SGok (nt := 11) h1 (Nat.le_trans h2 (by decide))
 refine MC.body hσ Try.func40 (by kernel_rfl) rfl rfl (Nat.le_of_ble_eq_true rfl) (fun hF => ?_)
 refine AWP.seq ?_
 refine AWP.region ?_
 refine AOps.heap (HS.box hσ rfl rfl rfl rfl rfl rfl rfl) rfl ?_
 apply AOps.norm
 ·
  repeat' (first | exact HN.nil rfl | apply HN.cons rfl | exact BN.row rfl | exact BN.map rfl | apply BN.box rfl | exact MN.nil rfl | apply MN.cons rfl | exact XN.d rfl | exact XN.rs rfl | exact XN.self)
 refine AOps.heap (HS.alloc hσ rfl rfl rfl rfl rfl) rfl ?_
 apply AOps.norm
 ·
  repeat' (first | exact HN.nil rfl | apply HN.cons rfl | exact BN.row rfl | exact BN.map rfl | apply BN.box rfl | exact MN.nil rfl | apply MN.cons rfl | exact XN.d rfl | exact XN.rs rfl | exact XN.self)
 refine AOps.nil ?_
 refine AWP.seq ?_
 refine AWP.region ?_
 refine AOps.heap (HS.alloc hσ rfl rfl rfl rfl rfl) rfl ?_
 apply AOps.norm
 ·
  repeat' (first | exact HN.nil rfl | apply HN.cons rfl | exact BN.row rfl | exact BN.map rfl | apply BN.box rfl | exact MN.nil rfl | apply MN.cons rfl | exact XN.d rfl | exact XN.rs rfl | exact XN.self)
 refine AOps.nil ?_
 refine AWP.seq ?_
 refine AWP.region ?_
 refine AOps.step (Val.of hσ rfl rfl) rfl rfl rfl ?_
 refine AOps.step (Val.of hσ rfl rfl) rfl rfl rfl ?_
 refine AOps.step (Val.of hσ rfl rfl) rfl rfl rfl ?_
 refine AOps.heap (HS.storeBox hσ rfl rfl rfl rfl rfl rfl rfl rfl rfl rfl rfl) rfl ?_
 apply AOps.norm
 ·
  repeat' (first | exact HN.nil rfl | apply HN.cons rfl | exact BN.row rfl | exact BN.map rfl | apply BN.box rfl | exact MN.nil rfl | apply MN.cons rfl | exact XN.d rfl | exact XN.rs rfl | exact XN.self)
 refine AOps.nil ?_
 refine AWP.seq ?_
 refine AWP.region ?_
 refine AOps.step (Val.of hσ rfl rfl) rfl rfl rfl ?_
 refine AOps.step (Val.of hσ rfl rfl) rfl rfl rfl ?_
 refine AOps.step (Val.of hσ rfl rfl) rfl rfl rfl ?_
 refine AOps.heap (HS.storeBox hσ rfl rfl rfl rfl rfl rfl rfl rfl rfl rfl rfl) rfl ?_
 apply AOps.norm
 ·
  repeat' (first | exact HN.nil rfl | apply HN.cons rfl | exact BN.row rfl | exact BN.map rfl | apply BN.box rfl | exact MN.nil rfl | apply MN.cons rfl | exact XN.d rfl | exact XN.rs rfl | exact XN.self)
 refine AOps.nil ?_
 refine AWP.seq ?_
 refine AWP.region ?_
 refine AOps.step (Val.of hσ rfl rfl) rfl rfl rfl ?_
 refine AOps.heap (HS.storeBox hσ rfl rfl rfl rfl rfl rfl rfl rfl rfl rfl rfl) rfl ?_
 apply AOps.norm
 ·
  repeat' (first | exact HN.nil rfl | apply HN.cons rfl | exact BN.row rfl | exact BN.map rfl | apply BN.box rfl | exact MN.nil rfl | apply MN.cons rfl | exact XN.d rfl | exact XN.rs rfl | exact XN.self)
 refine AOps.nil ?_
 refine AWP.ret ?_
 refine ⟨.inl rfl, _, Ent.refl, _, rfl, [], by decide, rfl, rfl, rfl⟩
theorem c69 {L : Nat} (h1 : 4096 ≤ L) (h2 : L ≤ 1073741824) {ts : List In} : MC Try.prog L 17 [.c (.d (insD ts))] [] (Rows (.c (.rs 0 0 ts.length)) [irow ts]) := by
 refine MC.rows ?_
 have hσ := SGok (nt := 23) h1 (Nat.le_trans h2 (by decide))
 refine MC.body hσ Try.func17 (by kernel_rfl) rfl rfl (Nat.le_of_ble_eq_true rfl) (fun hF => ?_)
 have hl : ts.length ≤ L := by simpa [As.fact, A.fact, M.fact, D.fact, Ds.fact] using hF.1.1
 refine AWP.seq ?_
 refine AWP.region ?_
 refine AOps.step (Val.of hσ rfl rfl) rfl rfl rfl ?_
 refine AOps.nil ?_
 refine AWP.seq ?_
 refine AWP.region ?_
 refine AOps.step (Val.of hσ rfl rfl) rfl rfl rfl ?_
 first | refine AOps.step (Val.lenD hσ rfl rfl rfl rfl rfl rfl rfl rfl) rfl rfl rfl ?_ | refine AOps.step (Val.of hσ rfl rfl) rfl rfl rfl ?_ | refine AOps.step (Val.vif hσ rfl rfl (by first | omega | (simp at *; omega))) rfl rfl rfl ?_
 refine AOps.heap (HS.make hσ rfl rfl rfl rfl rfl rfl rfl rfl rfl (by first | omega | (simp at *; omega)) (by first | omega | (simp at *; omega)) (by first | omega | (simp at *; omega)) (by first | omega | (dsimp only; omega) | (simp at *; omega)) (by first | omega | (simp at *; omega)) rfl rfl rfl) rfl ?_
 refine AOps.step (Val.of hσ rfl rfl) rfl rfl rfl ?_
 refine AOps.nil ?_
 refine AWP.seq ?_
 refine AWP.seq ?_
 refine AWP.region ?_
 refine AOps.step (Val.of hσ rfl rfl) rfl rfl rfl ?_
 refine AOps.nil ?_
 refine AWP.block ?_
 refine AWP.loopP (X := Nat × List In) (fun x => ⟨[(0, .c (.d (insD ts))), (3, .c (.rs 7 0 ts.length)), (4, eI x.1)], [(7, irow x.2)]⟩) (fun x => x.1 ≤ ts.length ∧ x.2.length = ts.length ∧ ∀ j, j < x.1 → x.2[j]? = ts[j]?) (fun x => ts.length - x.1) (0, List.replicate ts.length ⟨0, 0⟩) ((Ent.rowLe 7 rfl (NLess.replicate (.cons .refl (.cons .refl .nil)))).trans (Ent.to ⟨rfl, rfl, rfl, trivial⟩ (by simp [ins, rowAt, irow]))) ?_ (fun x hi => ?_)
 ·
  exact ⟨Nat.zero_le _, List.length_replicate, fun j hj => absurd hj (Nat.not_lt_zero j)⟩
 refine AWP.seq ?_
 refine AWP.seq ?_
 refine AWP.region ?_
 refine AOps.step (Val.of hσ rfl rfl) rfl rfl rfl ?_
 refine AOps.step (Val.of hσ rfl rfl) rfl rfl rfl ?_
 first | refine AOps.step (Val.lenD hσ rfl rfl rfl rfl rfl rfl rfl rfl) rfl rfl rfl ?_ | refine AOps.step (Val.of hσ rfl rfl) rfl rfl rfl ?_ | refine AOps.step (Val.vif hσ rfl rfl (by first | omega | (simp at *; omega))) rfl rfl rfl ?_
 refine AOps.step (Val.of hσ rfl rfl) rfl rfl rfl ?_
 refine AOps.nil ?_
 refine AWP.cond hσ rfl rfl (fun hc11 => ?_) (fun hc11 => ?_)
 ·
  try simp only [List.length_map, beq_iff_eq, decide_eq_true_eq, decide_eq_false_iff_not, Bool.not_eq_true', Bool.not_eq_false', Bool.not_true, Bool.not_false, Int.not_lt, Int.not_le] at hc11
  refine AWP.skip ?_
  refine AWP.seq ?_
  refine AWP.block ?_
  refine AWP.region ?_
  refine AOps.step (Val.of hσ rfl rfl) rfl rfl rfl ?_
  refine AOps.step (Val.of hσ rfl rfl) rfl rfl rfl ?_
  refine AOps.step (Val.of hσ rfl rfl) rfl rfl rfl ?_
  refine AOps.step (Val.of hσ rfl rfl) rfl rfl rfl ?_
  first | refine AOps.step (Val.indexD hσ rfl rfl rfl rfl rfl rfl rfl rfl (by first | omega | (simp at *; omega)) (idx_get (by first | omega | (simp at *; omega)) (by first | omega | (simp at *; omega)))) rfl rfl rfl ?_ | refine AOps.step (Val.vif hσ rfl rfl (by first | omega | (simp at *; omega))) rfl rfl rfl ?_
  refine AOps.step (Val.of hσ rfl rfl) rfl rfl rfl ?_
  refine AOps.rows hσ (B0 := 21000) rfl rfl rfl rfl (c122 h1 h2) (VAs.self rfl) rfl rfl rfl rfl rfl rfl ?_
  first | refine AOps.step (Val.indexD hσ rfl rfl rfl rfl rfl rfl rfl rfl (by first | omega | (simp at *; omega)) (idx_get (by first | omega | (simp at *; omega)) (by first | omega | (simp at *; omega)))) rfl rfl rfl ?_ | refine AOps.step (Val.vif hσ rfl rfl (by first | omega | (simp at *; omega))) rfl rfl rfl ?_
  refine AOps.heap (HS.storeAbs (ex := In.cells (x.2.getD x.1 default)) (xs' := (x.2.set x.1 (ts.getD x.1 default)).map In.cells) hσ rfl rfl rfl rfl rfl rfl rfl (.d rfl (.d rfl .nil)) rfl rfl rfl rfl rfl rfl (by simp [hi.2.1, show x.1 < ts.length by omega]) (by simp [List.map_set])) rfl ?_
  refine AOps.nil ?_
  refine AWP.region ?_
  refine AOps.step (Val.of hσ rfl rfl) rfl rfl rfl ?_
  first | refine AOps.step (Val.fits64 hσ rfl rfl (by first | omega | (simp at *; omega)) (by first | omega | (simp at *; omega))) rfl rfl rfl ?_ | refine AOps.step (Val.vif hσ rfl rfl (by first | omega | (simp at *; omega))) rfl rfl rfl ?_
  refine AOps.step (Val.of hσ rfl rfl) rfl rfl rfl ?_
  refine AOps.nil ?_
  refine ⟨(x.1 + 1, x.2.set x.1 (ts.getD x.1 default)), Ent.to ⟨rfl, rfl, rfl, trivial⟩ rfl, ⟨by omega, by simp [hi.2.1], fun j hj => ?_⟩, by omega⟩
  rw [List.getElem?_set]
  split
  ·
   rename_i e; subst e; simp [hi.2.1, show x.1 < ts.length by omega]
  ·
   exact hi.2.2 j (by omega)
 ·
  try simp only [List.length_map, beq_iff_eq, decide_eq_true_eq, decide_eq_false_iff_not, Bool.not_eq_true', Bool.not_eq_false', Bool.not_true, Bool.not_false, Int.not_lt, Int.not_le] at hc11
  refine AWP.exit ?_
  refine AWP.seq ?_
  refine AWP.region ?_
  refine AOps.step (Val.of hσ rfl rfl) rfl rfl rfl ?_
  refine AOps.step (Val.of hσ rfl rfl) rfl rfl rfl ?_
  refine AOps.nil ?_
  refine AWP.ret ?_
  have e : x.2 = ts := List.ext_getElem? fun j => by
   rcases Nat.lt_or_ge j x.1 with h | h
   ·
    exact hi.2.2 j h
   ·
    rw [List.getElem?_eq_none (by omega), List.getElem?_eq_none (by omega)]
  refine ⟨.inl rfl, _, Ent.refl, _, rfl, [7], by decide, rfl, rfl, ?_⟩
  rw [← e]; rfl
theorem c123 {L : Nat} (h1 : 4096 ≤ L) (h2 : L ≤ 1073741824) {p : Pt} : MC Try.prog L 41 [.agg (p.cells.map .d)] [] (Rows (.agg [.d (.int .i64 p.k), .rs 0 0 p.fs.length]) [trow p.fs]) := by
 refine MC.rows ?_
 have hσ := SGok (nt := 12) h1 (Nat.le_trans h2 (by decide))
 refine MC.body hσ Try.func41 (by kernel_rfl) rfl rfl (Nat.le_of_ble_eq_true rfl) (fun hF => ?_)
 refine AWP.seq ?_
 refine AWP.region ?_
 refine AOps.heap (HS.box hσ rfl rfl rfl rfl rfl rfl rfl) rfl ?_
 apply AOps.norm
 ·
  repeat' (first | exact HN.nil rfl | apply HN.cons rfl | exact BN.row rfl | exact BN.map rfl | apply BN.box rfl | exact MN.nil rfl | apply MN.cons rfl | exact XN.d rfl | exact XN.rs rfl | exact XN.self)
 refine AOps.heap (HS.alloc hσ rfl rfl rfl rfl rfl) rfl ?_
 apply AOps.norm
 ·
  repeat' (first | exact HN.nil rfl | apply HN.cons rfl | exact BN.row rfl | exact BN.map rfl | apply BN.box rfl | exact MN.nil rfl | apply MN.cons rfl | exact XN.d rfl | exact XN.rs rfl | exact XN.self)
 refine AOps.nil ?_
 refine AWP.seq ?_
 refine AWP.region ?_
 refine AOps.heap (HS.alloc hσ rfl rfl rfl rfl rfl) rfl ?_
 apply AOps.norm
 ·
  repeat' (first | exact HN.nil rfl | apply HN.cons rfl | exact BN.row rfl | exact BN.map rfl | apply BN.box rfl | exact MN.nil rfl | apply MN.cons rfl | exact XN.d rfl | exact XN.rs rfl | exact XN.self)
 refine AOps.nil ?_
 refine AWP.seq ?_
 refine AWP.region ?_
 refine AOps.step (Val.of hσ rfl rfl) rfl rfl rfl ?_
 refine AOps.step (Val.of hσ rfl rfl) rfl rfl rfl ?_
 refine AOps.step (Val.of hσ rfl rfl) rfl rfl rfl ?_
 refine AOps.heap (HS.storeBox hσ rfl rfl rfl rfl rfl rfl rfl rfl rfl rfl rfl) rfl ?_
 apply AOps.norm
 ·
  repeat' (first | exact HN.nil rfl | apply HN.cons rfl | exact BN.row rfl | exact BN.map rfl | apply BN.box rfl | exact MN.nil rfl | apply MN.cons rfl | exact XN.d rfl | exact XN.rs rfl | exact XN.self)
 refine AOps.nil ?_
 refine AWP.seq ?_
 refine AWP.region ?_
 refine AOps.step (Val.of hσ rfl rfl) rfl rfl rfl ?_
 refine AOps.step (Val.of hσ rfl rfl) rfl rfl rfl ?_
 refine AOps.rows hσ (B0 := 10000) rfl rfl rfl rfl (c59 h1 h2) (VAs.self rfl) rfl rfl rfl rfl rfl rfl ?_
 apply AOps.norm
 ·
  repeat' (first | exact HN.nil rfl | apply HN.cons rfl | exact BN.row rfl | exact BN.map rfl | apply BN.box rfl | exact MN.nil rfl | apply MN.cons rfl | exact XN.d rfl | exact XN.rs rfl | exact XN.self)
 refine AOps.step (Val.of hσ rfl rfl) rfl rfl rfl ?_
 refine AOps.heap (HS.storeBox hσ rfl rfl rfl rfl rfl rfl rfl rfl rfl rfl rfl) rfl ?_
 apply AOps.norm
 ·
  repeat' (first | exact HN.nil rfl | apply HN.cons rfl | exact BN.row rfl | exact BN.map rfl | apply BN.box rfl | exact MN.nil rfl | apply MN.cons rfl | exact XN.d rfl | exact XN.rs rfl | exact XN.self)
 refine AOps.nil ?_
 refine AWP.seq ?_
 refine AWP.region ?_
 refine AOps.step (Val.of hσ rfl rfl) rfl rfl rfl ?_
 refine AOps.heap (HS.storeBox hσ rfl rfl rfl rfl rfl rfl rfl rfl rfl rfl rfl) rfl ?_
 apply AOps.norm
 ·
  repeat' (first | exact HN.nil rfl | apply HN.cons rfl | exact BN.row rfl | exact BN.map rfl | apply BN.box rfl | exact MN.nil rfl | apply MN.cons rfl | exact XN.d rfl | exact XN.rs rfl | exact XN.self)
 refine AOps.nil ?_
 refine AWP.ret ?_
 refine ⟨.inl rfl, _, Ent.refl, _, rfl, [10000], by decide, rfl, rfl, rfl⟩
theorem c70 {L : Nat} (h1 : 4096 ≤ L) (h2 : L ≤ 1073741824) {ts : List Pt} : MC Try.prog L 18 [.c (.d (ptsD ts))] [] (Rows (.c (.rs 0 0 ts.length)) [prow ts]) := by
 refine MC.rows ?_
 have hσ := SGok (nt := 23) h1 (Nat.le_trans h2 (by decide))
 refine MC.body hσ Try.func18 (by kernel_rfl) rfl rfl (Nat.le_of_ble_eq_true rfl) (fun hF => ?_)
 have hl : ts.length ≤ L := by simpa [As.fact, A.fact, M.fact, D.fact, Ds.fact] using hF.1.1
 refine AWP.seq ?_
 refine AWP.region ?_
 refine AOps.step (Val.of hσ rfl rfl) rfl rfl rfl ?_
 refine AOps.nil ?_
 refine AWP.seq ?_
 refine AWP.region ?_
 refine AOps.step (Val.of hσ rfl rfl) rfl rfl rfl ?_
 first | refine AOps.step (Val.lenD hσ rfl rfl rfl rfl rfl rfl rfl rfl) rfl rfl rfl ?_ | refine AOps.step (Val.of hσ rfl rfl) rfl rfl rfl ?_ | refine AOps.step (Val.vif hσ rfl rfl (by first | omega | (simp at *; omega))) rfl rfl rfl ?_
 refine AOps.heap (HS.make hσ rfl rfl rfl rfl rfl rfl rfl rfl rfl (by first | omega | (simp at *; omega)) (by first | omega | (simp at *; omega)) (by first | omega | (simp at *; omega)) (by first | omega | (dsimp only; omega) | (simp at *; omega)) (by first | omega | (simp at *; omega)) rfl rfl rfl) rfl ?_
 refine AOps.step (Val.of hσ rfl rfl) rfl rfl rfl ?_
 refine AOps.nil ?_
 refine AWP.seq ?_
 refine AWP.seq ?_
 refine AWP.region ?_
 refine AOps.step (Val.of hσ rfl rfl) rfl rfl rfl ?_
 refine AOps.nil ?_
 refine AWP.block ?_
 refine AWP.loopP (X := Nat × List Pt) (fun x => ⟨[(0, .c (.d (ptsD ts))), (3, .c (.rs 7 0 ts.length)), (4, eI x.1)], [(7, prow x.2)]⟩) (fun x => x.1 ≤ ts.length ∧ x.2.length = ts.length ∧ ∀ j, j < x.1 → x.2[j]? = ts[j]?) (fun x => ts.length - x.1) (0, List.replicate ts.length ⟨0, []⟩) ((Ent.rowLe 7 rfl (NLess.replicate (.cons .refl (.cons (.nil (sz := 2)) .nil)))).trans (Ent.to ⟨rfl, rfl, rfl, trivial⟩ (by simp [ins, rowAt, prow]))) ?_ (fun x hi => ?_)
 ·
  exact ⟨Nat.zero_le _, List.length_replicate, fun j hj => absurd hj (Nat.not_lt_zero j)⟩
 refine AWP.seq ?_
 refine AWP.seq ?_
 refine AWP.region ?_
 refine AOps.step (Val.of hσ rfl rfl) rfl rfl rfl ?_
 refine AOps.step (Val.of hσ rfl rfl) rfl rfl rfl ?_
 first | refine AOps.step (Val.lenD hσ rfl rfl rfl rfl rfl rfl rfl rfl) rfl rfl rfl ?_ | refine AOps.step (Val.of hσ rfl rfl) rfl rfl rfl ?_ | refine AOps.step (Val.vif hσ rfl rfl (by first | omega | (simp at *; omega))) rfl rfl rfl ?_
 refine AOps.step (Val.of hσ rfl rfl) rfl rfl rfl ?_
 refine AOps.nil ?_
 refine AWP.cond hσ rfl rfl (fun hc11 => ?_) (fun hc11 => ?_)
 ·
  try simp only [List.length_map, beq_iff_eq, decide_eq_true_eq, decide_eq_false_iff_not, Bool.not_eq_true', Bool.not_eq_false', Bool.not_true, Bool.not_false, Int.not_lt, Int.not_le] at hc11
  refine AWP.skip ?_
  refine AWP.seq ?_
  refine AWP.block ?_
  refine AWP.region ?_
  refine AOps.step (Val.of hσ rfl rfl) rfl rfl rfl ?_
  refine AOps.step (Val.of hσ rfl rfl) rfl rfl rfl ?_
  refine AOps.step (Val.of hσ rfl rfl) rfl rfl rfl ?_
  refine AOps.step (Val.of hσ rfl rfl) rfl rfl rfl ?_
  first | refine AOps.step (Val.indexD hσ rfl rfl rfl rfl rfl rfl rfl rfl (by first | omega | (simp at *; omega)) (idx_get (by first | omega | (simp at *; omega)) (by first | omega | (simp at *; omega)))) rfl rfl rfl ?_ | refine AOps.step (Val.vif hσ rfl rfl (by first | omega | (simp at *; omega))) rfl rfl rfl ?_
  refine AOps.step (Val.of hσ rfl rfl) rfl rfl rfl ?_
  refine AOps.rows hσ (B0 := 21000) rfl rfl rfl rfl (c123 h1 h2) (VAs.self rfl) rfl rfl rfl rfl rfl rfl ?_
  first | refine AOps.step (Val.indexD hσ rfl rfl rfl rfl rfl rfl rfl rfl (by first | omega | (simp at *; omega)) (idx_get (by first | omega | (simp at *; omega)) (by first | omega | (simp at *; omega)))) rfl rfl rfl ?_ | refine AOps.step (Val.vif hσ rfl rfl (by first | omega | (simp at *; omega))) rfl rfl rfl ?_
  refine AOps.heap (HS.storeAbs (ex := Pt.cells (x.2.getD x.1 default)) (xs' := (x.2.set x.1 (ts.getD x.1 default)).map Pt.cells) hσ rfl rfl rfl rfl rfl rfl rfl (.d rfl (.rs rfl (by simp) .nil)) rfl rfl rfl rfl rfl rfl (by simp [hi.2.1, show x.1 < ts.length by omega]) (by simp [List.map_set])) rfl ?_
  refine AOps.nil ?_
  refine AWP.region ?_
  refine AOps.step (Val.of hσ rfl rfl) rfl rfl rfl ?_
  first | refine AOps.step (Val.fits64 hσ rfl rfl (by first | omega | (simp at *; omega)) (by first | omega | (simp at *; omega))) rfl rfl rfl ?_ | refine AOps.step (Val.vif hσ rfl rfl (by first | omega | (simp at *; omega))) rfl rfl rfl ?_
  refine AOps.step (Val.of hσ rfl rfl) rfl rfl rfl ?_
  refine AOps.nil ?_
  refine ⟨(x.1 + 1, x.2.set x.1 (ts.getD x.1 default)), Ent.to ⟨rfl, rfl, rfl, trivial⟩ rfl, ⟨by omega, by simp [hi.2.1], fun j hj => ?_⟩, by omega⟩
  rw [List.getElem?_set]
  split
  ·
   rename_i e; subst e; simp [hi.2.1, show x.1 < ts.length by omega]
  ·
   exact hi.2.2 j (by omega)
 ·
  try simp only [List.length_map, beq_iff_eq, decide_eq_true_eq, decide_eq_false_iff_not, Bool.not_eq_true', Bool.not_eq_false', Bool.not_true, Bool.not_false, Int.not_lt, Int.not_le] at hc11
  refine AWP.exit ?_
  refine AWP.seq ?_
  refine AWP.region ?_
  refine AOps.step (Val.of hσ rfl rfl) rfl rfl rfl ?_
  refine AOps.step (Val.of hσ rfl rfl) rfl rfl rfl ?_
  refine AOps.nil ?_
  refine AWP.ret ?_
  have e : x.2 = ts := List.ext_getElem? fun j => by
   rcases Nat.lt_or_ge j x.1 with h | h
   ·
    exact hi.2.2 j h
   ·
    rw [List.getElem?_eq_none (by omega), List.getElem?_eq_none (by omega)]
  refine ⟨.inl rfl, _, Ent.refl, _, rfl, [7], by decide, rfl, rfl, ?_⟩
  rw [← e]; rfl
theorem c24 {L : Nat} (h1 : 4096 ≤ L) (h2 : L ≤ 1073741824) {a : An} : MC Try.prog L 6 [aAn a] [] (Rows (.agg [.rs 0 0 a.pre.length, .rs 1 0 a.post.length, .rs 2 0 a.code.length, .rs 3 0 a.pts.length]) [trow a.pre, trow a.post, irow a.code, prow a.pts]) := by
 refine MC.rows ?_
 have hσ := SGok (nt := 21) h1 (Nat.le_trans h2 (by decide))
 refine MC.body hσ Try.func6 (by kernel_rfl) rfl rfl (Nat.le_of_ble_eq_true rfl) (fun hF => ?_)
 refine AWP.seq ?_
 refine AWP.region ?_
 refine AOps.heap (HS.box hσ rfl rfl rfl rfl rfl rfl rfl) rfl ?_
 apply AOps.norm
 ·
  repeat' (first | exact HN.nil rfl | apply HN.cons rfl | exact BN.row rfl | exact BN.map rfl | apply BN.box rfl | exact MN.nil rfl | apply MN.cons rfl | exact XN.d rfl | exact XN.rs rfl | exact XN.self)
 refine AOps.heap (HS.alloc hσ rfl rfl rfl rfl rfl) rfl ?_
 apply AOps.norm
 ·
  repeat' (first | exact HN.nil rfl | apply HN.cons rfl | exact BN.row rfl | exact BN.map rfl | apply BN.box rfl | exact MN.nil rfl | apply MN.cons rfl | exact XN.d rfl | exact XN.rs rfl | exact XN.self)
 refine AOps.nil ?_
 refine AWP.seq ?_
 refine AWP.region ?_
 refine AOps.heap (HS.alloc hσ rfl rfl rfl rfl rfl) rfl ?_
 apply AOps.norm
 ·
  repeat' (first | exact HN.nil rfl | apply HN.cons rfl | exact BN.row rfl | exact BN.map rfl | apply BN.box rfl | exact MN.nil rfl | apply MN.cons rfl | exact XN.d rfl | exact XN.rs rfl | exact XN.self)
 refine AOps.nil ?_
 refine AWP.seq ?_
 refine AWP.region ?_
 refine AOps.step (Val.of hσ rfl rfl) rfl rfl rfl ?_
 refine AOps.step (Val.of hσ rfl rfl) rfl rfl rfl ?_
 refine AOps.rows hσ (B0 := 7000) rfl rfl rfl rfl (c59 h1 h2) (VAs.self rfl) rfl rfl rfl rfl rfl rfl ?_
 apply AOps.norm
 ·
  repeat' (first | exact HN.nil rfl | apply HN.cons rfl | exact BN.row rfl | exact BN.map rfl | apply BN.box rfl | exact MN.nil rfl | apply MN.cons rfl | exact XN.d rfl | exact XN.rs rfl | exact XN.self)
 refine AOps.step (Val.of hσ rfl rfl) rfl rfl rfl ?_
 refine AOps.heap (HS.storeBox hσ rfl rfl rfl rfl rfl rfl rfl rfl rfl rfl rfl) rfl ?_
 apply AOps.norm
 ·
  repeat' (first | exact HN.nil rfl | apply HN.cons rfl | exact BN.row rfl | exact BN.map rfl | apply BN.box rfl | exact MN.nil rfl | apply MN.cons rfl | exact XN.d rfl | exact XN.rs rfl | exact XN.self)
 refine AOps.nil ?_
 refine AWP.seq ?_
 refine AWP.region ?_
 refine AOps.step (Val.of hσ rfl rfl) rfl rfl rfl ?_
 refine AOps.step (Val.of hσ rfl rfl) rfl rfl rfl ?_
 refine AOps.rows hσ (B0 := 11000) rfl rfl rfl rfl (c59 h1 h2) (VAs.self rfl) rfl rfl rfl rfl rfl rfl ?_
 apply AOps.norm
 ·
  repeat' (first | exact HN.nil rfl | apply HN.cons rfl | exact BN.row rfl | exact BN.map rfl | apply BN.box rfl | exact MN.nil rfl | apply MN.cons rfl | exact XN.d rfl | exact XN.rs rfl | exact XN.self)
 refine AOps.step (Val.of hσ rfl rfl) rfl rfl rfl ?_
 refine AOps.heap (HS.storeBox hσ rfl rfl rfl rfl rfl rfl rfl rfl rfl rfl rfl) rfl ?_
 apply AOps.norm
 ·
  repeat' (first | exact HN.nil rfl | apply HN.cons rfl | exact BN.row rfl | exact BN.map rfl | apply BN.box rfl | exact MN.nil rfl | apply MN.cons rfl | exact XN.d rfl | exact XN.rs rfl | exact XN.self)
 refine AOps.nil ?_
 refine AWP.seq ?_
 refine AWP.region ?_
 refine AOps.step (Val.of hσ rfl rfl) rfl rfl rfl ?_
 refine AOps.step (Val.of hσ rfl rfl) rfl rfl rfl ?_
 refine AOps.rows hσ (B0 := 15000) rfl rfl rfl rfl (c69 h1 h2) (VAs.self rfl) rfl rfl rfl rfl rfl rfl ?_
 apply AOps.norm
 ·
  repeat' (first | exact HN.nil rfl | apply HN.cons rfl | exact BN.row rfl | exact BN.map rfl | apply BN.box rfl | exact MN.nil rfl | apply MN.cons rfl | exact XN.d rfl | exact XN.rs rfl | exact XN.self)
 refine AOps.step (Val.of hσ rfl rfl) rfl rfl rfl ?_
 refine AOps.heap (HS.storeBox hσ rfl rfl rfl rfl rfl rfl rfl rfl rfl rfl rfl) rfl ?_
 apply AOps.norm
 ·
  repeat' (first | exact HN.nil rfl | apply HN.cons rfl | exact BN.row rfl | exact BN.map rfl | apply BN.box rfl | exact MN.nil rfl | apply MN.cons rfl | exact XN.d rfl | exact XN.rs rfl | exact XN.self)
 refine AOps.nil ?_
 refine AWP.seq ?_
 refine AWP.region ?_
 refine AOps.step (Val.of hσ rfl rfl) rfl rfl rfl ?_
 refine AOps.step (Val.of hσ rfl rfl) rfl rfl rfl ?_
 refine AOps.rows hσ (B0 := 19000) rfl rfl rfl rfl (c70 h1 h2) (VAs.self rfl) rfl rfl rfl rfl rfl rfl ?_
 apply AOps.norm
 ·
  repeat' (first | exact HN.nil rfl | apply HN.cons rfl | exact BN.row rfl | exact BN.map rfl | apply BN.box rfl | exact MN.nil rfl | apply MN.cons rfl | exact XN.d rfl | exact XN.rs rfl | exact XN.self)
 refine AOps.step (Val.of hσ rfl rfl) rfl rfl rfl ?_
 refine AOps.heap (HS.storeBox hσ rfl rfl rfl rfl rfl rfl rfl rfl rfl rfl rfl) rfl ?_
 apply AOps.norm
 ·
  repeat' (first | exact HN.nil rfl | apply HN.cons rfl | exact BN.row rfl | exact BN.map rfl | apply BN.box rfl | exact MN.nil rfl | apply MN.cons rfl | exact XN.d rfl | exact XN.rs rfl | exact XN.self)
 refine AOps.nil ?_
 refine AWP.seq ?_
 refine AWP.region ?_
 refine AOps.step (Val.of hσ rfl rfl) rfl rfl rfl ?_
 refine AOps.heap (HS.storeBox hσ rfl rfl rfl rfl rfl rfl rfl rfl rfl rfl rfl) rfl ?_
 apply AOps.norm
 ·
  repeat' (first | exact HN.nil rfl | apply HN.cons rfl | exact BN.row rfl | exact BN.map rfl | apply BN.box rfl | exact MN.nil rfl | apply MN.cons rfl | exact XN.d rfl | exact XN.rs rfl | exact XN.self)
 refine AOps.nil ?_
 refine AWP.ret ?_
 refine ⟨.inl rfl, _, Ent.refl, _, rfl, [7000, 11000, 15000, 19000], by decide, rfl, rfl, rfl⟩
theorem c24d {L : Nat} (h1 : 4096 ≤ L) (h2 : L ≤ 1073741824) {a : An} : MC Try.prog L 6 [aAn a] [] (Plain (aAn a)) := (c24 h1 h2).frozen (.v (.agg (.cons (.whole rfl (List.length_map _).symm) (.cons (.whole rfl (List.length_map _).symm) (.cons (.whole rfl (List.length_map _).symm) (.cons (.whole rfl (List.length_map _).symm) .nil))))))
theorem c133 {L : Nat} (h1 : 4096 ≤ L) (h2 : L ≤ 1073741824) {s t : In} : MC Try.prog L 54 [.agg (s.cells.map .d), .agg (t.cells.map .d)] [] (Plain (eB (decide (s = t)))) := by
 refine MC.alone ?_ rfl
 have hσ := SGok (nt := 15) h1 (Nat.le_trans h2 (by decide))
 refine MC.body hσ Try.func54 (by kernel_rfl) rfl rfl (Nat.le_of_ble_eq_true rfl) (fun hF => ?_)
 refine AWP.seq ?_
 refine AWP.region ?_
 refine AOps.heap (HS.box hσ rfl rfl rfl rfl rfl rfl rfl) rfl ?_
 refine AOps.heap (HS.box hσ rfl rfl rfl rfl rfl rfl rfl) rfl ?_
 refine AOps.step (Val.of hσ rfl rfl) rfl rfl rfl ?_
 refine AOps.nil ?_
 refine AWP.seq ?_
 refine AWP.seq ?_
 refine AWP.region ?_
 refine AOps.step (Val.of hσ rfl rfl) rfl rfl rfl ?_
 refine AOps.step (Val.of hσ rfl rfl) rfl rfl rfl ?_
 refine AOps.step (Val.of hσ rfl rfl) rfl rfl rfl ?_
 refine AOps.step (Val.of hσ rfl rfl) rfl rfl rfl ?_
 refine AOps.step (Val.of hσ rfl rfl) rfl rfl rfl ?_
 refine AOps.nil ?_
 refine AWP.cond hσ rfl rfl (fun hc9 => ?_) (fun hc9 => ?_)
 ·
  try simp only [List.length_map, beq_iff_eq, decide_eq_true_eq, decide_eq_false_iff_not, Bool.not_eq_true', Bool.not_eq_false', Bool.not_true, Bool.not_false, Int.not_lt, Int.not_le] at hc9
  refine AWP.seq ?_
  refine AWP.region ?_
  refine AOps.step (Val.of hσ rfl rfl) rfl rfl rfl ?_
  refine AOps.nil ?_
  refine AWP.ret ?_
  refine ⟨.inl rfl, _, Ent.refl, _, rfl, ?_⟩
  rw [decide_eq_false (fun e => hc9 (by rw [e]))]
 ·
  try simp only [List.length_map, beq_iff_eq, decide_eq_true_eq, decide_eq_false_iff_not, Bool.not_eq_true', Bool.not_eq_false', Bool.not_true, Bool.not_false, Int.not_lt, Int.not_le] at hc9
  refine AWP.skip ?_
  refine AWP.seq ?_
  refine AWP.seq ?_
  refine AWP.region ?_
  refine AOps.step (Val.of hσ rfl rfl) rfl rfl rfl ?_
  refine AOps.step (Val.of hσ rfl rfl) rfl rfl rfl ?_
  refine AOps.step (Val.of hσ rfl rfl) rfl rfl rfl ?_
  refine AOps.step (Val.of hσ rfl rfl) rfl rfl rfl ?_
  refine AOps.step (Val.of hσ rfl rfl) rfl rfl rfl ?_
  refine AOps.nil ?_
  refine AWP.cond hσ rfl rfl (fun hc14 => ?_) (fun hc14 => ?_)
  ·
   try simp only [List.length_map, beq_iff_eq, decide_eq_true_eq, decide_eq_false_iff_not, Bool.not_eq_true', Bool.not_eq_false', Bool.not_true, Bool.not_false, Int.not_lt, Int.not_le] at hc14
   refine AWP.seq ?_
   refine AWP.region ?_
   refine AOps.step (Val.of hσ rfl rfl) rfl rfl rfl ?_
   refine AOps.nil ?_
   refine AWP.ret ?_
   refine ⟨.inl rfl, _, Ent.refl, _, rfl, ?_⟩
   rw [decide_eq_false (fun e => hc14 (by rw [e]))]
  ·
   try simp only [List.length_map, beq_iff_eq, decide_eq_true_eq, decide_eq_false_iff_not, Bool.not_eq_true', Bool.not_eq_false', Bool.not_true, Bool.not_false, Int.not_lt, Int.not_le] at hc14
   refine AWP.skip ?_
   refine AWP.seq ?_
   refine AWP.region ?_
   refine AOps.step (Val.of hσ rfl rfl) rfl rfl rfl ?_
   refine AOps.nil ?_
   refine AWP.ret ?_
   refine ⟨.inl rfl, _, Ent.refl, _, rfl, ?_⟩
   have e : s = t := by cases s; cases t; simp_all
   rw [decide_eq_true e]
theorem c74 {L : Nat} (h1 : 4096 ≤ L) (h2 : L ≤ 1073741824) {xs ys : List In} : MC Try.prog L 23 [.c (.d (insD xs)), .c (.d (insD ys))] [] (Plain (eB (decide (xs = ys)))) := by
 refine MC.alone ?_ rfl
 have hσ := SGok (nt := 27) h1 (Nat.le_trans h2 (by decide))
 refine MC.body hσ Try.func23 (by kernel_rfl) rfl rfl (Nat.le_of_ble_eq_true rfl) (fun hF => ?_)
 have hl : xs.length ≤ L := by simpa [As.fact, A.fact, M.fact, D.fact, Ds.fact] using hF.1.1
 have hl2 : ys.length ≤ L := by simpa [As.fact, A.fact, M.fact, D.fact, Ds.fact] using hF.2.1.1
 refine AWP.seq ?_
 refine AWP.region ?_
 refine AOps.step (Val.of hσ rfl rfl) rfl rfl rfl ?_
 refine AOps.nil ?_
 refine AWP.seq ?_
 refine AWP.seq ?_
 refine AWP.region ?_
 refine AOps.step (Val.of hσ rfl rfl) rfl rfl rfl ?_
 first | refine AOps.step (Val.lenD hσ rfl rfl rfl rfl rfl rfl rfl rfl) rfl rfl rfl ?_ | refine AOps.step (Val.of hσ rfl rfl) rfl rfl rfl ?_ | refine AOps.step (Val.vif hσ rfl rfl (by first | omega | (simp at *; omega))) rfl rfl rfl ?_
 refine AOps.step (Val.of hσ rfl rfl) rfl rfl rfl ?_
 first | refine AOps.step (Val.lenD hσ rfl rfl rfl rfl rfl rfl rfl rfl) rfl rfl rfl ?_ | refine AOps.step (Val.of hσ rfl rfl) rfl rfl rfl ?_ | refine AOps.step (Val.vif hσ rfl rfl (by first | omega | (simp at *; omega))) rfl rfl rfl ?_
 refine AOps.step (Val.of hσ rfl rfl) rfl rfl rfl ?_
 refine AOps.nil ?_
 refine AWP.cond hσ rfl rfl (fun hc10 => ?_) (fun hc10 => ?_)
 ·
  try simp only [List.length_map, beq_iff_eq, decide_eq_true_eq, decide_eq_false_iff_not, Bool.not_eq_true', Bool.not_eq_false', Bool.not_true, Bool.not_false, Int.not_lt, Int.not_le] at hc10
  refine AWP.seq ?_
  refine AWP.region ?_
  refine AOps.step (Val.of hσ rfl rfl) rfl rfl rfl ?_
  refine AOps.nil ?_
  refine AWP.ret ?_
  refine ⟨.inl rfl, _, Ent.refl, _, rfl, ?_⟩
  rw [decide_eq_false (fun e => by subst e; simp at hc10)]
 ·
  try simp only [List.length_map, beq_iff_eq, decide_eq_true_eq, decide_eq_false_iff_not, Bool.not_eq_true', Bool.not_eq_false', Bool.not_true, Bool.not_false, Int.not_lt, Int.not_le] at hc10
  refine AWP.skip ?_
  refine AWP.seq ?_
  refine AWP.seq ?_
  refine AWP.region ?_
  refine AOps.step (Val.of hσ rfl rfl) rfl rfl rfl ?_
  refine AOps.nil ?_
  refine AWP.block ?_
  refine AWP.loopP (X := Nat) (fun i => ⟨[(0, .c (.d (insD xs))), (1, .c (.d (insD ys))), (5, eI i)], []⟩) (fun i => i ≤ xs.length ∧ ∀ j, j < i → xs[j]? = ys[j]?) (fun i => xs.length - i) 0 (Ent.env ⟨rfl, rfl, rfl, trivial⟩) ?_ (fun i hi => ?_)
  ·
   exact ⟨Nat.zero_le _, fun j hj => absurd hj (Nat.not_lt_zero j)⟩
  refine AWP.seq ?_
  refine AWP.seq ?_
  refine AWP.region ?_
  refine AOps.step (Val.of hσ rfl rfl) rfl rfl rfl ?_
  refine AOps.step (Val.of hσ rfl rfl) rfl rfl rfl ?_
  first | refine AOps.step (Val.lenD hσ rfl rfl rfl rfl rfl rfl rfl rfl) rfl rfl rfl ?_ | refine AOps.step (Val.of hσ rfl rfl) rfl rfl rfl ?_ | refine AOps.step (Val.vif hσ rfl rfl (by first | omega | (simp at *; omega))) rfl rfl rfl ?_
  refine AOps.step (Val.of hσ rfl rfl) rfl rfl rfl ?_
  refine AOps.nil ?_
  refine AWP.cond hσ rfl rfl (fun hc14 => ?_) (fun hc14 => ?_)
  ·
   try simp only [List.length_map, beq_iff_eq, decide_eq_true_eq, decide_eq_false_iff_not, Bool.not_eq_true', Bool.not_eq_false', Bool.not_true, Bool.not_false, Int.not_lt, Int.not_le] at hc14
   refine AWP.skip ?_
   refine AWP.seq ?_
   refine AWP.block ?_
   refine AWP.seq ?_
   refine AWP.drawR hσ _ [_, _, _, _, _, _, _, _, _, _] [⟨[], 0, 0, none⟩, ⟨[], 0, 0, none⟩, ⟨[0, 1], 0, 0, none⟩, ⟨[0, 1, 2], 0, 0, none⟩, ⟨[], 0, 0, none⟩, ⟨[], 0, 0, none⟩, ⟨[4, 5], 0, 0, none⟩, ⟨[4, 5, 6], 0, 0, none⟩, ⟨[0, 1, 2, 3, 4, 5, 6, 7], 0, 0, some 0⟩, ⟨[0, 1, 2, 3, 4, 5, 6, 7, 8], 1, 1, none⟩] [8] [_, _] rfl rfl (by decide) (by decide) (by kernel_rfl) (And.intro (Val.of hσ rfl rfl) (And.intro (Val.of hσ rfl rfl) (And.intro (Val.indexD hσ rfl rfl rfl rfl rfl rfl rfl rfl (by first | omega | (simp at *; omega)) (idx_get (by first | omega | (simp at *; omega)) (by first | omega | (simp at *; omega)))) (And.intro (Val.of hσ rfl rfl) (And.intro (Val.of hσ rfl rfl) (And.intro (Val.of hσ rfl rfl) (And.intro (Val.indexD hσ rfl rfl rfl rfl rfl rfl rfl rfl (by first | omega | (simp at *; omega)) (idx_get (by first | omega | (simp at *; omega)) (by first | omega | (simp at *; omega)))) (And.intro (Val.of hσ rfl rfl) (And.intro (Eff.lone hσ (B0 := 26000) rfl rfl rfl rfl (c133 h1 h2) (VAs.self rfl) rfl rfl rfl rfl rfl) (And.intro (Val.of hσ rfl rfl) trivial)))))))))) ?_
   refine AWP.cond hσ rfl rfl (fun hc26 => ?_) (fun hc26 => ?_)
   ·
    try simp only [List.length_map, beq_iff_eq, decide_eq_true_eq, decide_eq_false_iff_not, Bool.not_eq_true', Bool.not_eq_false', Bool.not_true, Bool.not_false, Int.not_lt, Int.not_le] at hc26
    refine AWP.seq ?_
    refine AWP.region ?_
    refine AOps.step (Val.of hσ rfl rfl) rfl rfl rfl ?_
    refine AOps.nil ?_
    refine AWP.ret ?_
    refine ⟨.inl rfl, _, Ent.refl, _, rfl, ?_⟩
    rw [decide_eq_false (fun e => by subst e; simp at hc26)]
   ·
    try simp only [List.length_map, beq_iff_eq, decide_eq_true_eq, decide_eq_false_iff_not, Bool.not_eq_true', Bool.not_eq_false', Bool.not_true, Bool.not_false, Int.not_lt, Int.not_le] at hc26
    refine AWP.skip ?_
    refine AWP.region ?_
    refine AOps.step (Val.of hσ rfl rfl) rfl rfl rfl ?_
    first | refine AOps.step (Val.fits64 hσ rfl rfl (by first | omega | (simp at *; omega)) (by first | omega | (simp at *; omega))) rfl rfl rfl ?_ | refine AOps.step (Val.vif hσ rfl rfl (by first | omega | (simp at *; omega))) rfl rfl rfl ?_
    refine AOps.step (Val.of hσ rfl rfl) rfl rfl rfl ?_
    refine AOps.nil ?_
    refine ⟨i + 1, Ent.env ⟨rfl, rfl, rfl, trivial⟩, ⟨by omega, fun j hj => ?_⟩, by omega⟩
    rcases Nat.lt_or_ge j i with h | h
    ·
     exact hi.2 j h
    ·
     obtain rfl : j = i := by omega
     rw [Int.toNat_natCast, getD_lt (by omega), getD_lt (by omega)] at hc26
     rw [List.getElem?_eq_getElem (by omega), List.getElem?_eq_getElem (by omega), hc26]
  ·
   try simp only [List.length_map, beq_iff_eq, decide_eq_true_eq, decide_eq_false_iff_not, Bool.not_eq_true', Bool.not_eq_false', Bool.not_true, Bool.not_false, Int.not_lt, Int.not_le] at hc14
   refine AWP.exit ?_
   refine AWP.seq ?_
   refine AWP.region ?_
   refine AOps.step (Val.of hσ rfl rfl) rfl rfl rfl ?_
   refine AOps.nil ?_
   refine AWP.ret ?_
   refine ⟨.inl rfl, _, Ent.refl, _, rfl, ?_⟩
   have e : xs = ys := List.ext_getElem? fun j => by
    rcases Nat.lt_or_ge j i with h | h
    ·
     exact hi.2 j h
    ·
     rw [List.getElem?_eq_none (by omega), List.getElem?_eq_none (by omega)]
   rw [decide_eq_true e]
theorem c134 {L : Nat} (h1 : 4096 ≤ L) (h2 : L ≤ 1073741824) {s t : Pt} : MC Try.prog L 55 [.agg (s.cells.map .d), .agg (t.cells.map .d)] [] (Plain (eB (decide (s = t)))) := by
 refine MC.alone ?_ rfl
 have hσ := SGok (nt := 16) h1 (Nat.le_trans h2 (by decide))
 refine MC.body hσ Try.func55 (by kernel_rfl) rfl rfl (Nat.le_of_ble_eq_true rfl) (fun hF => ?_)
 refine AWP.seq ?_
 refine AWP.region ?_
 refine AOps.heap (HS.box hσ rfl rfl rfl rfl rfl rfl rfl) rfl ?_
 refine AOps.heap (HS.box hσ rfl rfl rfl rfl rfl rfl rfl) rfl ?_
 refine AOps.step (Val.of hσ rfl rfl) rfl rfl rfl ?_
 refine AOps.nil ?_
 refine AWP.seq ?_
 refine AWP.seq ?_
 refine AWP.region ?_
 refine AOps.step (Val.of hσ rfl rfl) rfl rfl rfl ?_
 refine AOps.step (Val.of hσ rfl rfl) rfl rfl rfl ?_
 refine AOps.step (Val.of hσ rfl rfl) rfl rfl rfl ?_
 refine AOps.step (Val.of hσ rfl rfl) rfl rfl rfl ?_
 refine AOps.step (Val.of hσ rfl rfl) rfl rfl rfl ?_
 refine AOps.nil ?_
 refine AWP.cond hσ rfl rfl (fun hc9 => ?_) (fun hc9 => ?_)
 ·
  try simp only [List.length_map, beq_iff_eq, decide_eq_true_eq, decide_eq_false_iff_not, Bool.not_eq_true', Bool.not_eq_false', Bool.not_true, Bool.not_false, Int.not_lt, Int.not_le] at hc9
  refine AWP.seq ?_
  refine AWP.region ?_
  refine AOps.step (Val.of hσ rfl rfl) rfl rfl rfl ?_
  refine AOps.nil ?_
  refine AWP.ret ?_
  refine ⟨.inl rfl, _, Ent.refl, _, rfl, ?_⟩
  rw [decide_eq_false (fun e => hc9 (by rw [e]))]
 ·
  try simp only [List.length_map, beq_iff_eq, decide_eq_true_eq, decide_eq_false_iff_not, Bool.not_eq_true', Bool.not_eq_false', Bool.not_true, Bool.not_false, Int.not_lt, Int.not_le] at hc9
  refine AWP.skip ?_
  refine AWP.seq ?_
  refine AWP.seq ?_
  refine AWP.region ?_
  refine AOps.step (Val.of hσ rfl rfl) rfl rfl rfl ?_
  refine AOps.step (Val.of hσ rfl rfl) rfl rfl rfl ?_
  refine AOps.step (Val.of hσ rfl rfl) rfl rfl rfl ?_
  refine AOps.step (Val.of hσ rfl rfl) rfl rfl rfl ?_
  refine AOps.lone hσ rfl rfl rfl rfl (c35 h1 h2) (VAs.self rfl) rfl rfl rfl rfl rfl (B0 := 15000) rfl ?_
  refine AOps.step (Val.of hσ rfl rfl) rfl rfl rfl ?_
  refine AOps.nil ?_
  refine AWP.cond hσ rfl rfl (fun hc15 => ?_) (fun hc15 => ?_)
  ·
   try simp only [List.length_map, beq_iff_eq, decide_eq_true_eq, decide_eq_false_iff_not, Bool.not_eq_true', Bool.not_eq_false', Bool.not_true, Bool.not_false, Int.not_lt, Int.not_le] at hc15
   refine AWP.seq ?_
   refine AWP.region ?_
   refine AOps.step (Val.of hσ rfl rfl) rfl rfl rfl ?_
   refine AOps.nil ?_
   refine AWP.ret ?_
   refine ⟨.inl rfl, _, Ent.refl, _, rfl, ?_⟩
   rw [decide_eq_false (fun e => hc15 (by rw [e]))]
  ·
   try simp only [List.length_map, beq_iff_eq, decide_eq_true_eq, decide_eq_false_iff_not, Bool.not_eq_true', Bool.not_eq_false', Bool.not_true, Bool.not_false, Int.not_lt, Int.not_le] at hc15
   refine AWP.skip ?_
   refine AWP.seq ?_
   refine AWP.region ?_
   refine AOps.step (Val.of hσ rfl rfl) rfl rfl rfl ?_
   refine AOps.nil ?_
   refine AWP.ret ?_
   refine ⟨.inl rfl, _, Ent.refl, _, rfl, ?_⟩
   have e : s = t := by cases s; cases t; simp_all
   rw [decide_eq_true e]
theorem c75 {L : Nat} (h1 : 4096 ≤ L) (h2 : L ≤ 1073741824) {xs ys : List Pt} : MC Try.prog L 24 [.c (.d (ptsD xs)), .c (.d (ptsD ys))] [] (Plain (eB (decide (xs = ys)))) := by
 refine MC.alone ?_ rfl
 have hσ := SGok (nt := 27) h1 (Nat.le_trans h2 (by decide))
 refine MC.body hσ Try.func24 (by kernel_rfl) rfl rfl (Nat.le_of_ble_eq_true rfl) (fun hF => ?_)
 have hl : xs.length ≤ L := by simpa [As.fact, A.fact, M.fact, D.fact, Ds.fact] using hF.1.1
 have hl2 : ys.length ≤ L := by simpa [As.fact, A.fact, M.fact, D.fact, Ds.fact] using hF.2.1.1
 refine AWP.seq ?_
 refine AWP.region ?_
 refine AOps.step (Val.of hσ rfl rfl) rfl rfl rfl ?_
 refine AOps.nil ?_
 refine AWP.seq ?_
 refine AWP.seq ?_
 refine AWP.region ?_
 refine AOps.step (Val.of hσ rfl rfl) rfl rfl rfl ?_
 first | refine AOps.step (Val.lenD hσ rfl rfl rfl rfl rfl rfl rfl rfl) rfl rfl rfl ?_ | refine AOps.step (Val.of hσ rfl rfl) rfl rfl rfl ?_ | refine AOps.step (Val.vif hσ rfl rfl (by first | omega | (simp at *; omega))) rfl rfl rfl ?_
 refine AOps.step (Val.of hσ rfl rfl) rfl rfl rfl ?_
 first | refine AOps.step (Val.lenD hσ rfl rfl rfl rfl rfl rfl rfl rfl) rfl rfl rfl ?_ | refine AOps.step (Val.of hσ rfl rfl) rfl rfl rfl ?_ | refine AOps.step (Val.vif hσ rfl rfl (by first | omega | (simp at *; omega))) rfl rfl rfl ?_
 refine AOps.step (Val.of hσ rfl rfl) rfl rfl rfl ?_
 refine AOps.nil ?_
 refine AWP.cond hσ rfl rfl (fun hc10 => ?_) (fun hc10 => ?_)
 ·
  try simp only [List.length_map, beq_iff_eq, decide_eq_true_eq, decide_eq_false_iff_not, Bool.not_eq_true', Bool.not_eq_false', Bool.not_true, Bool.not_false, Int.not_lt, Int.not_le] at hc10
  refine AWP.seq ?_
  refine AWP.region ?_
  refine AOps.step (Val.of hσ rfl rfl) rfl rfl rfl ?_
  refine AOps.nil ?_
  refine AWP.ret ?_
  refine ⟨.inl rfl, _, Ent.refl, _, rfl, ?_⟩
  rw [decide_eq_false (fun e => by subst e; simp at hc10)]
 ·
  try simp only [List.length_map, beq_iff_eq, decide_eq_true_eq, decide_eq_false_iff_not, Bool.not_eq_true', Bool.not_eq_false', Bool.not_true, Bool.not_false, Int.not_lt, Int.not_le] at hc10
  refine AWP.skip ?_
  refine AWP.seq ?_
  refine AWP.seq ?_
  refine AWP.region ?_
  refine AOps.step (Val.of hσ rfl rfl) rfl rfl rfl ?_
  refine AOps.nil ?_
  refine AWP.block ?_
  refine AWP.loopP (X := Nat) (fun i => ⟨[(0, .c (.d (ptsD xs))), (1, .c (.d (ptsD ys))), (5, eI i)], []⟩) (fun i => i ≤ xs.length ∧ ∀ j, j < i → xs[j]? = ys[j]?) (fun i => xs.length - i) 0 (Ent.env ⟨rfl, rfl, rfl, trivial⟩) ?_ (fun i hi => ?_)
  ·
   exact ⟨Nat.zero_le _, fun j hj => absurd hj (Nat.not_lt_zero j)⟩
  refine AWP.seq ?_
  refine AWP.seq ?_
  refine AWP.region ?_
  refine AOps.step (Val.of hσ rfl rfl) rfl rfl rfl ?_
  refine AOps.step (Val.of hσ rfl rfl) rfl rfl rfl ?_
  first | refine AOps.step (Val.lenD hσ rfl rfl rfl rfl rfl rfl rfl rfl) rfl rfl rfl ?_ | refine AOps.step (Val.of hσ rfl rfl) rfl rfl rfl ?_ | refine AOps.step (Val.vif hσ rfl rfl (by first | omega | (simp at *; omega))) rfl rfl rfl ?_
  refine AOps.step (Val.of hσ rfl rfl) rfl rfl rfl ?_
  refine AOps.nil ?_
  refine AWP.cond hσ rfl rfl (fun hc14 => ?_) (fun hc14 => ?_)
  ·
   try simp only [List.length_map, beq_iff_eq, decide_eq_true_eq, decide_eq_false_iff_not, Bool.not_eq_true', Bool.not_eq_false', Bool.not_true, Bool.not_false, Int.not_lt, Int.not_le] at hc14
   refine AWP.skip ?_
   refine AWP.seq ?_
   refine AWP.block ?_
   refine AWP.seq ?_
   refine AWP.drawR hσ _ [_, _, _, _, _, _, _, _, _, _] [⟨[], 0, 0, none⟩, ⟨[], 0, 0, none⟩, ⟨[0, 1], 0, 0, none⟩, ⟨[0, 1, 2], 0, 0, none⟩, ⟨[], 0, 0, none⟩, ⟨[], 0, 0, none⟩, ⟨[4, 5], 0, 0, none⟩, ⟨[4, 5, 6], 0, 0, none⟩, ⟨[0, 1, 2, 3, 4, 5, 6, 7], 0, 0, some 0⟩, ⟨[0, 1, 2, 3, 4, 5, 6, 7, 8], 1, 1, none⟩] [8] [_, _] rfl rfl (by decide) (by decide) (by kernel_rfl) (And.intro (Val.of hσ rfl rfl) (And.intro (Val.of hσ rfl rfl) (And.intro (Val.indexD hσ rfl rfl rfl rfl rfl rfl rfl rfl (by first | omega | (simp at *; omega)) (idx_get (by first | omega | (simp at *; omega)) (by first | omega | (simp at *; omega)))) (And.intro (Val.of hσ rfl rfl) (And.intro (Val.of hσ rfl rfl) (And.intro (Val.of hσ rfl rfl) (And.intro (Val.indexD hσ rfl rfl rfl rfl rfl rfl rfl rfl (by first | omega | (simp at *; omega)) (idx_get (by first | omega | (simp at *; omega)) (by first | omega | (simp at *; omega)))) (And.intro (Val.of hσ rfl rfl) (And.intro (Eff.lone hσ (B0 := 26000) rfl rfl rfl rfl (c134 h1 h2) (VAs.self rfl) rfl rfl rfl rfl rfl) (And.intro (Val.of hσ rfl rfl) trivial)))))))))) ?_
   refine AWP.cond hσ rfl rfl (fun hc26 => ?_) (fun hc26 => ?_)
   ·
    try simp only [List.length_map, beq_iff_eq, decide_eq_true_eq, decide_eq_false_iff_not, Bool.not_eq_true', Bool.not_eq_false', Bool.not_true, Bool.not_false, Int.not_lt, Int.not_le] at hc26
    refine AWP.seq ?_
    refine AWP.region ?_
    refine AOps.step (Val.of hσ rfl rfl) rfl rfl rfl ?_
    refine AOps.nil ?_
    refine AWP.ret ?_
    refine ⟨.inl rfl, _, Ent.refl, _, rfl, ?_⟩
    rw [decide_eq_false (fun e => by subst e; simp at hc26)]
   ·
    try simp only [List.length_map, beq_iff_eq, decide_eq_true_eq, decide_eq_false_iff_not, Bool.not_eq_true', Bool.not_eq_false', Bool.not_true, Bool.not_false, Int.not_lt, Int.not_le] at hc26
    refine AWP.skip ?_
    refine AWP.region ?_
    refine AOps.step (Val.of hσ rfl rfl) rfl rfl rfl ?_
    first | refine AOps.step (Val.fits64 hσ rfl rfl (by first | omega | (simp at *; omega)) (by first | omega | (simp at *; omega))) rfl rfl rfl ?_ | refine AOps.step (Val.vif hσ rfl rfl (by first | omega | (simp at *; omega))) rfl rfl rfl ?_
    refine AOps.step (Val.of hσ rfl rfl) rfl rfl rfl ?_
    refine AOps.nil ?_
    refine ⟨i + 1, Ent.env ⟨rfl, rfl, rfl, trivial⟩, ⟨by omega, fun j hj => ?_⟩, by omega⟩
    rcases Nat.lt_or_ge j i with h | h
    ·
     exact hi.2 j h
    ·
     obtain rfl : j = i := by omega
     rw [Int.toNat_natCast, getD_lt (by omega), getD_lt (by omega)] at hc26
     rw [List.getElem?_eq_getElem (by omega), List.getElem?_eq_getElem (by omega), hc26]
  ·
   try simp only [List.length_map, beq_iff_eq, decide_eq_true_eq, decide_eq_false_iff_not, Bool.not_eq_true', Bool.not_eq_false', Bool.not_true, Bool.not_false, Int.not_lt, Int.not_le] at hc14
   refine AWP.exit ?_
   refine AWP.seq ?_
   refine AWP.region ?_
   refine AOps.step (Val.of hσ rfl rfl) rfl rfl rfl ?_
   refine AOps.nil ?_
   refine AWP.ret ?_
   refine ⟨.inl rfl, _, Ent.refl, _, rfl, ?_⟩
   have e : xs = ys := List.ext_getElem? fun j => by
    rcases Nat.lt_or_ge j i with h | h
    ·
     exact hi.2 j h
    ·
     rw [List.getElem?_eq_none (by omega), List.getElem?_eq_none (by omega)]
   rw [decide_eq_true e]
theorem c26 {L : Nat} (h1 : 4096 ≤ L) (h2 : L ≤ 1073741824) {s t : An} : MC Try.prog L 8 [aAn s, aAn t] [] (Plain (eB (decide (s = t)))) := by
 refine MC.alone ?_ rfl
 have hσ := SGok (nt := 29) h1 (Nat.le_trans h2 (by decide))
 refine MC.body hσ Try.func8 (by kernel_rfl) rfl rfl (Nat.le_of_ble_eq_true rfl) (fun hF => ?_)
 refine AWP.seq ?_
 refine AWP.region ?_
 refine AOps.heap (HS.box hσ rfl rfl rfl rfl rfl rfl rfl) rfl ?_
 refine AOps.heap (HS.box hσ rfl rfl rfl rfl rfl rfl rfl) rfl ?_
 refine AOps.step (Val.of hσ rfl rfl) rfl rfl rfl ?_
 refine AOps.nil ?_
 refine AWP.seq ?_
 refine AWP.seq ?_
 refine AWP.region ?_
 refine AOps.step (Val.of hσ rfl rfl) rfl rfl rfl ?_
 refine AOps.step (Val.of hσ rfl rfl) rfl rfl rfl ?_
 refine AOps.step (Val.of hσ rfl rfl) rfl rfl rfl ?_
 refine AOps.step (Val.of hσ rfl rfl) rfl rfl rfl ?_
 refine AOps.lone hσ rfl rfl rfl rfl (c35 h1 h2) (VAs.self rfl) rfl rfl rfl rfl rfl (B0 := 10000) rfl ?_
 refine AOps.step (Val.of hσ rfl rfl) rfl rfl rfl ?_
 refine AOps.nil ?_
 refine AWP.cond hσ rfl rfl (fun hc10 => ?_) (fun hc10 => ?_)
 ·
  try simp only [List.length_map, beq_iff_eq, decide_eq_true_eq, decide_eq_false_iff_not, Bool.not_eq_true', Bool.not_eq_false', Bool.not_true, Bool.not_false, Int.not_lt, Int.not_le] at hc10
  refine AWP.seq ?_
  refine AWP.region ?_
  refine AOps.step (Val.of hσ rfl rfl) rfl rfl rfl ?_
  refine AOps.nil ?_
  refine AWP.ret ?_
  refine ⟨.inl rfl, _, Ent.refl, _, rfl, ?_⟩
  rw [decide_eq_false (fun e => hc10 (by rw [e]))]
 ·
  try simp only [List.length_map, beq_iff_eq, decide_eq_true_eq, decide_eq_false_iff_not, Bool.not_eq_true', Bool.not_eq_false', Bool.not_true, Bool.not_false, Int.not_lt, Int.not_le] at hc10
  refine AWP.skip ?_
  refine AWP.seq ?_
  refine AWP.seq ?_
  refine AWP.region ?_
  refine AOps.step (Val.of hσ rfl rfl) rfl rfl rfl ?_
  refine AOps.step (Val.of hσ rfl rfl) rfl rfl rfl ?_
  refine AOps.step (Val.of hσ rfl rfl) rfl rfl rfl ?_
  refine AOps.step (Val.of hσ rfl rfl) rfl rfl rfl ?_
  refine AOps.lone hσ rfl rfl rfl rfl (c35 h1 h2) (VAs.self rfl) rfl rfl rfl rfl rfl (B0 := 16000) rfl ?_
  refine AOps.step (Val.of hσ rfl rfl) rfl rfl rfl ?_
  refine AOps.nil ?_
  refine AWP.cond hσ rfl rfl (fun hc16 => ?_) (fun hc16 => ?_)
  ·
   try simp only [List.length_map, beq_iff_eq, decide_eq_true_eq, decide_eq_false_iff_not, Bool.not_eq_true', Bool.not_eq_false', Bool.not_true, Bool.not_false, Int.not_lt, Int.not_le] at hc16
   refine AWP.seq ?_
   refine AWP.region ?_
   refine AOps.step (Val.of hσ rfl rfl) rfl rfl rfl ?_
   refine AOps.nil ?_
   refine AWP.ret ?_
   refine ⟨.inl rfl, _, Ent.refl, _, rfl, ?_⟩
   rw [decide_eq_false (fun e => hc16 (by rw [e]))]
  ·
   try simp only [List.length_map, beq_iff_eq, decide_eq_true_eq, decide_eq_false_iff_not, Bool.not_eq_true', Bool.not_eq_false', Bool.not_true, Bool.not_false, Int.not_lt, Int.not_le] at hc16
   refine AWP.skip ?_
   refine AWP.seq ?_
   refine AWP.seq ?_
   refine AWP.region ?_
   refine AOps.step (Val.of hσ rfl rfl) rfl rfl rfl ?_
   refine AOps.step (Val.of hσ rfl rfl) rfl rfl rfl ?_
   refine AOps.step (Val.of hσ rfl rfl) rfl rfl rfl ?_
   refine AOps.step (Val.of hσ rfl rfl) rfl rfl rfl ?_
   refine AOps.lone hσ rfl rfl rfl rfl (c74 h1 h2) (VAs.self rfl) rfl rfl rfl rfl rfl (B0 := 22000) rfl ?_
   refine AOps.step (Val.of hσ rfl rfl) rfl rfl rfl ?_
   refine AOps.nil ?_
   refine AWP.cond hσ rfl rfl (fun hc22 => ?_) (fun hc22 => ?_)
   ·
    try simp only [List.length_map, beq_iff_eq, decide_eq_true_eq, decide_eq_false_iff_not, Bool.not_eq_true', Bool.not_eq_false', Bool.not_true, Bool.not_false, Int.not_lt, Int.not_le] at hc22
    refine AWP.seq ?_
    refine AWP.region ?_
    refine AOps.step (Val.of hσ rfl rfl) rfl rfl rfl ?_
    refine AOps.nil ?_
    refine AWP.ret ?_
    refine ⟨.inl rfl, _, Ent.refl, _, rfl, ?_⟩
    rw [decide_eq_false (fun e => hc22 (by rw [e]))]
   ·
    try simp only [List.length_map, beq_iff_eq, decide_eq_true_eq, decide_eq_false_iff_not, Bool.not_eq_true', Bool.not_eq_false', Bool.not_true, Bool.not_false, Int.not_lt, Int.not_le] at hc22
    refine AWP.skip ?_
    refine AWP.seq ?_
    refine AWP.seq ?_
    refine AWP.region ?_
    refine AOps.step (Val.of hσ rfl rfl) rfl rfl rfl ?_
    refine AOps.step (Val.of hσ rfl rfl) rfl rfl rfl ?_
    refine AOps.step (Val.of hσ rfl rfl) rfl rfl rfl ?_
    refine AOps.step (Val.of hσ rfl rfl) rfl rfl rfl ?_
    refine AOps.lone hσ rfl rfl rfl rfl (c75 h1 h2) (VAs.self rfl) rfl rfl rfl rfl rfl (B0 := 28000) rfl ?_
    refine AOps.step (Val.of hσ rfl rfl) rfl rfl rfl ?_
    refine AOps.nil ?_
    refine AWP.cond hσ rfl rfl (fun hc28 => ?_) (fun hc28 => ?_)
    ·
     try simp only [List.length_map, beq_iff_eq, decide_eq_true_eq, decide_eq_false_iff_not, Bool.not_eq_true', Bool.not_eq_false', Bool.not_true, Bool.not_false, Int.not_lt, Int.not_le] at hc28
     refine AWP.seq ?_
     refine AWP.region ?_
     refine AOps.step (Val.of hσ rfl rfl) rfl rfl rfl ?_
     refine AOps.nil ?_
     refine AWP.ret ?_
     refine ⟨.inl rfl, _, Ent.refl, _, rfl, ?_⟩
     rw [decide_eq_false (fun e => hc28 (by rw [e]))]
    ·
     try simp only [List.length_map, beq_iff_eq, decide_eq_true_eq, decide_eq_false_iff_not, Bool.not_eq_true', Bool.not_eq_false', Bool.not_true, Bool.not_false, Int.not_lt, Int.not_le] at hc28
     refine AWP.skip ?_
     refine AWP.seq ?_
     refine AWP.region ?_
     refine AOps.step (Val.of hσ rfl rfl) rfl rfl rfl ?_
     refine AOps.nil ?_
     refine AWP.ret ?_
     refine ⟨.inl rfl, _, Ent.refl, _, rfl, ?_⟩
     have e : s = t := by cases s; cases t; simp_all
     rw [decide_eq_true e]
theorem c76n {L : Nat} (h1 : 4096 ≤ L) (h2 : L ≤ 1073741824) {k : Int} : MC Try.prog L 26 [.c (.d (insD [])), eI k] [] (Plain (eI k)) := by
 refine MC.alone ?_ rfl
 have hσ := SGok (nt := 27) h1 (Nat.le_trans h2 (by decide))
 refine MC.body hσ Try.func26 (by kernel_rfl) rfl rfl (Nat.le_of_ble_eq_true rfl) (fun hF => ?_)
 refine AWP.seq ?_
 refine AWP.region ?_
 refine AOps.step (Val.of hσ rfl rfl) rfl rfl rfl ?_
 refine AOps.nil ?_
 refine AWP.seq ?_
 refine AWP.seq ?_
 refine AWP.region ?_
 refine AOps.step (Val.of hσ rfl rfl) rfl rfl rfl ?_
 refine AOps.nil ?_
 refine AWP.block ?_
 refine AWP.loopP (X := Nat) (fun i => ⟨[(0, .c (.d (insD []))), (1, eI k), (5, eI 0)], []⟩) (fun i => True) (fun i => 0) 0 (Ent.env ⟨rfl, rfl, rfl, trivial⟩) ?_ (fun i hi => ?_)
 ·
  trivial
 refine AWP.seq ?_
 refine AWP.seq ?_
 refine AWP.region ?_
 refine AOps.step (Val.of hσ rfl rfl) rfl rfl rfl ?_
 refine AOps.step (Val.of hσ rfl rfl) rfl rfl rfl ?_
 first | refine AOps.step (Val.lenD hσ rfl rfl rfl rfl rfl rfl rfl rfl) rfl rfl rfl ?_ | refine AOps.step (Val.of hσ rfl rfl) rfl rfl rfl ?_ | refine AOps.step (Val.vif hσ rfl rfl (by first | omega | (simp at *; omega))) rfl rfl rfl ?_
 refine AOps.step (Val.of hσ rfl rfl) rfl rfl rfl ?_
 refine AOps.nil ?_
 refine AWP.cond hσ rfl rfl (fun hc9 => ?_) (fun hc9 => ?_)
 ·
  try simp only [List.length_map, beq_iff_eq, decide_eq_true_eq, decide_eq_false_iff_not, Bool.not_eq_true', Bool.not_eq_false', Bool.not_true, Bool.not_false, Int.not_lt, Int.not_le] at hc9
  exact absurd hc9 (by simp)
 ·
  try simp only [List.length_map, beq_iff_eq, decide_eq_true_eq, decide_eq_false_iff_not, Bool.not_eq_true', Bool.not_eq_false', Bool.not_true, Bool.not_false, Int.not_lt, Int.not_le] at hc9
  refine AWP.exit ?_
  refine AWP.seq ?_
  refine AWP.region ?_
  refine AOps.step (Val.of hσ rfl rfl) rfl rfl rfl ?_
  refine AOps.step (Val.of hσ rfl rfl) rfl rfl rfl ?_
  refine AOps.nil ?_
  refine AWP.ret ?_
  refine ⟨.inl rfl, _, Ent.refl, _, rfl, ?_⟩
  first | rfl | skip
theorem c77n {L : Nat} (h1 : 4096 ≤ L) (h2 : L ≤ 1073741824) {k : Int} : MC Try.prog L 27 [.c (.d (ptsD [])), eI k] [] (Plain (eI k)) := by
 refine MC.alone ?_ rfl
 have hσ := SGok (nt := 27) h1 (Nat.le_trans h2 (by decide))
 refine MC.body hσ Try.func27 (by kernel_rfl) rfl rfl (Nat.le_of_ble_eq_true rfl) (fun hF => ?_)
 refine AWP.seq ?_
 refine AWP.region ?_
 refine AOps.step (Val.of hσ rfl rfl) rfl rfl rfl ?_
 refine AOps.nil ?_
 refine AWP.seq ?_
 refine AWP.seq ?_
 refine AWP.region ?_
 refine AOps.step (Val.of hσ rfl rfl) rfl rfl rfl ?_
 refine AOps.nil ?_
 refine AWP.block ?_
 refine AWP.loopP (X := Nat) (fun i => ⟨[(0, .c (.d (ptsD []))), (1, eI k), (5, eI 0)], []⟩) (fun i => True) (fun i => 0) 0 (Ent.env ⟨rfl, rfl, rfl, trivial⟩) ?_ (fun i hi => ?_)
 ·
  trivial
 refine AWP.seq ?_
 refine AWP.seq ?_
 refine AWP.region ?_
 refine AOps.step (Val.of hσ rfl rfl) rfl rfl rfl ?_
 refine AOps.step (Val.of hσ rfl rfl) rfl rfl rfl ?_
 first | refine AOps.step (Val.lenD hσ rfl rfl rfl rfl rfl rfl rfl rfl) rfl rfl rfl ?_ | refine AOps.step (Val.of hσ rfl rfl) rfl rfl rfl ?_ | refine AOps.step (Val.vif hσ rfl rfl (by first | omega | (simp at *; omega))) rfl rfl rfl ?_
 refine AOps.step (Val.of hσ rfl rfl) rfl rfl rfl ?_
 refine AOps.nil ?_
 refine AWP.cond hσ rfl rfl (fun hc9 => ?_) (fun hc9 => ?_)
 ·
  try simp only [List.length_map, beq_iff_eq, decide_eq_true_eq, decide_eq_false_iff_not, Bool.not_eq_true', Bool.not_eq_false', Bool.not_true, Bool.not_false, Int.not_lt, Int.not_le] at hc9
  exact absurd hc9 (by simp)
 ·
  try simp only [List.length_map, beq_iff_eq, decide_eq_true_eq, decide_eq_false_iff_not, Bool.not_eq_true', Bool.not_eq_false', Bool.not_true, Bool.not_false, Int.not_lt, Int.not_le] at hc9
  refine AWP.exit ?_
  refine AWP.seq ?_
  refine AWP.region ?_
  refine AOps.step (Val.of hσ rfl rfl) rfl rfl rfl ?_
  refine AOps.step (Val.of hσ rfl rfl) rfl rfl rfl ?_
  refine AOps.nil ?_
  refine AWP.ret ?_
  refine ⟨.inl rfl, _, Ent.refl, _, rfl, ?_⟩
  first | rfl | skip
theorem c76 {L : Nat} (h1 : 4096 ≤ L) (h2 : L ≤ 1073741824) {ts : List In} {k : Int} (hk0 : 0 ≤ k) (hk1 : k + cnt nIn ts ≤ 1073741824) : MC Try.prog L 26 [.c (.rs 0 0 ts.length), eI k] [(0, irow ts)] (Outs (eI (k + cnt nIn ts)) [(0, irow (markL mIn nIn k ts))]) := by
 have hσ := SgOk.withIns (js := [0]) (SGok (nt := 27) h1 (Nat.le_trans h2 (by decide)))
 refine MC.bodyH hσ Try.func26 (by kernel_rfl) rfl rfl rfl (Nat.le_of_ble_eq_true rfl) (fun hF => ?_)
 refine AWP.factH 0 rfl (fun hB => ?_)
 have hl : ts.length ≤ L := by simpa [B.fact] using hB.1
 refine AWP.seq ?_
 refine AWP.region ?_
 refine AOps.step (Val.of hσ rfl rfl) rfl rfl rfl ?_
 refine AOps.nil ?_
 refine AWP.seq ?_
 refine AWP.seq ?_
 refine AWP.region ?_
 refine AOps.step (Val.of hσ rfl rfl) rfl rfl rfl ?_
 refine AOps.nil ?_
 refine AWP.block ?_
 refine AWP.loopP (X := Nat) (fun i => ⟨[(0, .c (.rs 0 0 ts.length)), (1, eI (k + cnt nIn (ts.take i))), (5, eI i)], [(0, irow (mk mIn nIn k i ts))]⟩) (fun i => i ≤ ts.length) (fun i => ts.length - i) 0 (Ent.to ⟨rfl, by simp [numbered, lk_cons, cnt], rfl, trivial⟩ (by simp [mk_zero])) ?_ (fun i hi => ?_)
 ·
  exact Nat.zero_le _
 refine AWP.seq ?_
 refine AWP.seq ?_
 refine AWP.region ?_
 refine AOps.step (Val.of hσ rfl rfl) rfl rfl rfl ?_
 refine AOps.step (Val.of hσ rfl rfl) rfl rfl rfl ?_
 first | refine AOps.step (Val.lenD hσ rfl rfl rfl rfl rfl rfl rfl rfl) rfl rfl rfl ?_ | refine AOps.step (Val.of hσ rfl rfl) rfl rfl rfl ?_ | refine AOps.step (Val.vif hσ rfl rfl (by first | omega | (simp at *; omega))) rfl rfl rfl ?_
 refine AOps.step (Val.of hσ rfl rfl) rfl rfl rfl ?_
 refine AOps.forget [(9, _), (0, _), (1, _), (5, _)] ⟨rfl, rfl, rfl, rfl, trivial⟩ ?_
 refine AOps.nil ?_
 refine AWP.cond hσ rfl rfl (fun hc9 => ?_) (fun hc9 => ?_)
 ·
  try simp only [List.length_map, beq_iff_eq, decide_eq_true_eq, decide_eq_false_iff_not, Bool.not_eq_true', Bool.not_eq_false', Bool.not_true, Bool.not_false, Int.not_lt, Int.not_le] at hc9
  refine AWP.skip ?_
  refine AWP.seq ?_
  refine AWP.block ?_
  refine AWP.seq ?_
  refine AWP.region ?_
  refine AOps.step (Val.of hσ rfl rfl) rfl rfl rfl ?_
  refine AOps.step (Val.of hσ rfl rfl) rfl rfl rfl ?_
  refine AOps.step (Val.of hσ rfl rfl) rfl rfl rfl ?_
  first | refine AOps.step (Val.indexD hσ rfl rfl rfl rfl rfl rfl rfl rfl (by first | omega | (simp at *; omega)) (idx_get (by first | omega | (simp at *; omega)) (by first | omega | (simp at *; omega)))) rfl rfl rfl ?_ | refine AOps.step (Val.vif hσ rfl rfl (by first | omega | (simp at *; omega))) rfl rfl rfl ?_
  refine AOps.step (Val.of hσ rfl rfl) rfl rfl rfl ?_
  refine AOps.forget [(16, _), (14, _), (9, _), (0, _), (1, _), (5, _)] ⟨rfl, rfl, rfl, rfl, rfl, rfl, trivial⟩ ?_
  obtain ⟨K, hK⟩ : ∃ K, K = k + (cnt nIn (ts.take i) : Int) := ⟨_, rfl⟩
  rw [← hK]
  have hcs := cnt_succ (sz := nIn) (show i < ts.length by omega)
  have hcl := cnt_le (sz := nIn) (l := ts) (i := i + 1)
  have hg := mk_get (f := mIn) (sz := nIn) (k := k) (show i < ts.length by omega)
  have hs := mk_succ (f := mIn) (sz := nIn) (k := k) (show i < ts.length by omega)
  rw [← getD_lt (show i < ts.length by omega)] at hcs hg hs
  obtain ⟨t, ht⟩ : ∃ t, t = ts.getD i default := ⟨_, rfl⟩
  rw [← ht] at hcs hg hs
  rw [← hK] at hs
  simp only [nIn] at hcs
  obtain ⟨R, hR⟩ : ∃ R, R = (mk mIn nIn k i ts).map In.cells := ⟨_, rfl⟩
  have hRl : i < R.length := by rw [hR, List.length_map, mk_length]; omega
  have hRi : R[i]? = some t.cells := by rw [hR, List.getElem?_map, hg]; rfl
  have hRn : R.set i (mIn K t).cells = (mk mIn nIn k (i + 1) ts).map In.cells := by rw [hR, ← hs, List.map_set]
  have e0 : irow (mk mIn nIn k i ts) = .row true 2 (R.set i t.cells) := by rw [set_self' hRi, hR]
  rw [e0]
  refine AOps.heap (HS.storeRow (ex := [.int .i64 t.op, .int .i64 t.a]) (xs' := R.set i [.int .i64 K, .int .i64 t.a]) hσ rfl rfl rfl rfl rfl rfl rfl rfl rfl rfl rfl rfl rfl rfl (by simp [hRl]) (by simp)) rfl ?_
  apply AOps.norm
  ·
   repeat' (first | exact HN.nil rfl | apply HN.cons rfl | exact BN.row rfl | exact BN.map rfl | apply BN.box rfl | exact MN.nil rfl | apply MN.cons rfl | exact XN.d rfl | exact XN.rs rfl | exact XN.self)
  refine AOps.forget [(9, _), (0, _), (1, _), (5, _)] ⟨rfl, rfl, rfl, rfl, trivial⟩ ?_
  refine AOps.nil ?_
  refine AWP.seq ?_
  refine AWP.region ?_
  refine AOps.step (Val.of hσ rfl rfl) rfl rfl rfl ?_
  first | refine AOps.step (Val.fits64 hσ rfl rfl (by first | omega | (simp at *; omega)) (by first | omega | (simp at *; omega))) rfl rfl rfl ?_ | refine AOps.step (Val.vif hσ rfl rfl (by first | omega | (simp at *; omega))) rfl rfl rfl ?_
  refine AOps.step (Val.of hσ rfl rfl) rfl rfl rfl ?_
  refine AOps.forget [(1, _), (9, _), (0, _), (5, _)] ⟨rfl, rfl, rfl, rfl, trivial⟩ ?_
  refine AOps.nil ?_
  refine AWP.seq ?_
  refine AWP.region ?_
  refine AOps.step (Val.of hσ rfl rfl) rfl rfl rfl ?_
  refine AOps.step (Val.of hσ rfl rfl) rfl rfl rfl ?_
  refine AOps.step (Val.of hσ rfl rfl) rfl rfl rfl ?_
  first | refine AOps.step (Val.indexD hσ rfl rfl rfl rfl rfl rfl rfl rfl (by first | omega | (simp at *; omega)) (idx_get (by first | omega | (simp at *; omega)) (by first | omega | (simp at *; omega)))) rfl rfl rfl ?_ | refine AOps.step (Val.vif hσ rfl rfl (by first | omega | (simp at *; omega))) rfl rfl rfl ?_
  refine AOps.step (Val.of hσ rfl rfl) rfl rfl rfl ?_
  refine AOps.forget [(23, _), (21, _), (1, _), (9, _), (0, _), (5, _)] ⟨rfl, rfl, rfl, rfl, rfl, rfl, trivial⟩ ?_
  refine AOps.heap (HS.storeRow (ex := [.int .i64 K, .int .i64 t.a]) (xs' := R.set i [.int .i64 K, .int .i64 (K + 1)]) hσ rfl rfl rfl rfl rfl rfl rfl rfl rfl rfl rfl rfl rfl rfl (by simp [hRl]) (by simp)) rfl ?_
  apply AOps.norm
  ·
   repeat' (first | exact HN.nil rfl | apply HN.cons rfl | exact BN.row rfl | exact BN.map rfl | apply BN.box rfl | exact MN.nil rfl | apply MN.cons rfl | exact XN.d rfl | exact XN.rs rfl | exact XN.self)
  refine AOps.forget [(1, _), (9, _), (0, _), (5, _)] ⟨rfl, rfl, rfl, rfl, trivial⟩ ?_
  refine AOps.nil ?_
  refine AWP.region ?_
  refine AOps.step (Val.of hσ rfl rfl) rfl rfl rfl ?_
  first | refine AOps.step (Val.fits64 hσ rfl rfl (by first | omega | (simp at *; omega)) (by first | omega | (simp at *; omega))) rfl rfl rfl ?_ | refine AOps.step (Val.vif hσ rfl rfl (by first | omega | (simp at *; omega))) rfl rfl rfl ?_
  refine AOps.step (Val.of hσ rfl rfl) rfl rfl rfl ?_
  refine AOps.forget [(1, _), (9, _), (0, _), (5, _)] ⟨rfl, rfl, rfl, rfl, trivial⟩ ?_
  refine AOps.nil ?_
  refine AWP.region ?_
  refine AOps.step (Val.of hσ rfl rfl) rfl rfl rfl ?_
  first | refine AOps.step (Val.fits64 hσ rfl rfl (by first | omega | (simp at *; omega)) (by first | omega | (simp at *; omega))) rfl rfl rfl ?_ | refine AOps.step (Val.vif hσ rfl rfl (by first | omega | (simp at *; omega))) rfl rfl rfl ?_
  refine AOps.step (Val.of hσ rfl rfl) rfl rfl rfl ?_
  refine AOps.forget [(5, _), (1, _), (9, _), (0, _)] ⟨rfl, rfl, rfl, rfl, trivial⟩ ?_
  refine AOps.nil ?_
  refine ⟨i + 1, Ent.to ⟨rfl, ?_, rfl, trivial⟩ (by rw [irow, ← hRn]), by omega, by omega⟩
  rw [hcs]
  exact congrArg (fun z => some (eI z)) (by omega)
 ·
  try simp only [List.length_map, beq_iff_eq, decide_eq_true_eq, decide_eq_false_iff_not, Bool.not_eq_true', Bool.not_eq_false', Bool.not_true, Bool.not_false, Int.not_lt, Int.not_le] at hc9
  refine AWP.exit ?_
  refine AWP.seq ?_
  refine AWP.region ?_
  refine AOps.step (Val.of hσ rfl rfl) rfl rfl rfl ?_
  refine AOps.step (Val.of hσ rfl rfl) rfl rfl rfl ?_
  refine AOps.nil ?_
  refine AWP.ret ?_
  refine ⟨.inl rfl, _, Ent.refl, _, rfl, ?_⟩
  obtain rfl : i = ts.length := by omega
  rw [mk_all (Nat.le_refl _), List.take_length]
  exact ⟨rfl, rfl⟩
theorem c77 {L : Nat} (h1 : 4096 ≤ L) (h2 : L ≤ 1073741824) {ts : List Pt} {k : Int} (hk0 : 0 ≤ k) (hk1 : k + cnt nP ts ≤ 1073741824) : MC Try.prog L 27 [.c (.rs 0 0 ts.length), eI k] [(0, prow ts)] (Outs (eI (k + cnt nP ts)) [(0, prow (markL mP nP k ts))]) := by
 have hσ := SgOk.withIns (js := [0]) (SGok (nt := 27) h1 (Nat.le_trans h2 (by decide)))
 refine MC.bodyH hσ Try.func27 (by kernel_rfl) rfl rfl rfl (Nat.le_of_ble_eq_true rfl) (fun hF => ?_)
 refine AWP.factH 0 rfl (fun hB => ?_)
 have hl : ts.length ≤ L := by simpa [B.fact] using hB.1
 refine AWP.seq ?_
 refine AWP.region ?_
 refine AOps.step (Val.of hσ rfl rfl) rfl rfl rfl ?_
 refine AOps.nil ?_
 refine AWP.seq ?_
 refine AWP.seq ?_
 refine AWP.region ?_
 refine AOps.step (Val.of hσ rfl rfl) rfl rfl rfl ?_
 refine AOps.nil ?_
 refine AWP.block ?_
 refine AWP.loopP (X := Nat) (fun i => ⟨[(0, .c (.rs 0 0 ts.length)), (1, eI (k + cnt nP (ts.take i))), (5, eI i)], [(0, prow (mk mP nP k i ts))]⟩) (fun i => i ≤ ts.length) (fun i => ts.length - i) 0 (Ent.to ⟨rfl, by simp [numbered, lk_cons, cnt], rfl, trivial⟩ (by simp [mk_zero])) ?_ (fun i hi => ?_)
 ·
  exact Nat.zero_le _
 refine AWP.seq ?_
 refine AWP.seq ?_
 refine AWP.region ?_
 refine AOps.step (Val.of hσ rfl rfl) rfl rfl rfl ?_
 refine AOps.step (Val.of hσ rfl rfl) rfl rfl rfl ?_
 first | refine AOps.step (Val.lenD hσ rfl rfl rfl rfl rfl rfl rfl rfl) rfl rfl rfl ?_ | refine AOps.step (Val.of hσ rfl rfl) rfl rfl rfl ?_ | refine AOps.step (Val.vif hσ rfl rfl (by first | omega | (simp at *; omega))) rfl rfl rfl ?_
 refine AOps.step (Val.of hσ rfl rfl) rfl rfl rfl ?_
 refine AOps.forget [(9, _), (0, _), (1, _), (5, _)] ⟨rfl, rfl, rfl, rfl, trivial⟩ ?_
 refine AOps.nil ?_
 refine AWP.cond hσ rfl rfl (fun hc9 => ?_) (fun hc9 => ?_)
 ·
  try simp only [List.length_map, beq_iff_eq, decide_eq_true_eq, decide_eq_false_iff_not, Bool.not_eq_true', Bool.not_eq_false', Bool.not_true, Bool.not_false, Int.not_lt, Int.not_le] at hc9
  refine AWP.skip ?_
  refine AWP.seq ?_
  refine AWP.block ?_
  refine AWP.seq ?_
  refine AWP.region ?_
  refine AOps.step (Val.of hσ rfl rfl) rfl rfl rfl ?_
  refine AOps.step (Val.of hσ rfl rfl) rfl rfl rfl ?_
  refine AOps.step (Val.of hσ rfl rfl) rfl rfl rfl ?_
  first | refine AOps.step (Val.indexD hσ rfl rfl rfl rfl rfl rfl rfl rfl (by first | omega | (simp at *; omega)) (idx_get (by first | omega | (simp at *; omega)) (by first | omega | (simp at *; omega)))) rfl rfl rfl ?_ | refine AOps.step (Val.vif hσ rfl rfl (by first | omega | (simp at *; omega))) rfl rfl rfl ?_
  refine AOps.step (Val.of hσ rfl rfl) rfl rfl rfl ?_
  refine AOps.forget [(16, _), (14, _), (9, _), (0, _), (1, _), (5, _)] ⟨rfl, rfl, rfl, rfl, rfl, rfl, trivial⟩ ?_
  obtain ⟨K, hK⟩ : ∃ K, K = k + (cnt nP (ts.take i) : Int) := ⟨_, rfl⟩
  rw [← hK]
  have hcs := cnt_succ (sz := nP) (show i < ts.length by omega)
  have hcl := cnt_le (sz := nP) (l := ts) (i := i + 1)
  have hg := mk_get (f := mP) (sz := nP) (k := k) (show i < ts.length by omega)
  have hs := mk_succ (f := mP) (sz := nP) (k := k) (show i < ts.length by omega)
  rw [← getD_lt (show i < ts.length by omega)] at hcs hg hs
  obtain ⟨t, ht⟩ : ∃ t, t = ts.getD i default := ⟨_, rfl⟩
  rw [← ht] at hcs hg hs
  rw [← hK] at hs
  simp only [nP] at hcs
  obtain ⟨R, hR⟩ : ∃ R, R = (mk mP nP k i ts).map Pt.cells := ⟨_, rfl⟩
  have hRl : i < R.length := by rw [hR, List.length_map, mk_length]; omega
  have hRi : R[i]? = some t.cells := by rw [hR, List.getElem?_map, hg]; rfl
  have hRn : R.set i (mP K t).cells = (mk mP nP k (i + 1) ts).map Pt.cells := by rw [hR, ← hs, List.map_set]
  have e0 : prow (mk mP nP k i ts) = .row true 2 (R.set i t.cells) := by rw [set_self' hRi, hR]
  rw [e0]
  refine AOps.heap (HS.storeRow (ex := [.int .i64 t.k, tms t.fs]) (xs' := R.set i [.int .i64 K, tms t.fs]) hσ rfl rfl rfl rfl rfl rfl rfl rfl rfl rfl rfl rfl rfl rfl (by simp [hRl]) (by simp)) rfl ?_
  apply AOps.norm
  ·
   repeat' (first | exact HN.nil rfl | apply HN.cons rfl | exact BN.row rfl | exact BN.map rfl | apply BN.box rfl | exact MN.nil rfl | apply MN.cons rfl | exact XN.d rfl | exact XN.rs rfl | exact XN.self)
  refine AOps.forget [(9, _), (0, _), (1, _), (5, _)] ⟨rfl, rfl, rfl, rfl, trivial⟩ ?_
  refine AOps.nil ?_
  refine AWP.seq ?_
  refine AWP.region ?_
  refine AOps.step (Val.of hσ rfl rfl) rfl rfl rfl ?_
  first | refine AOps.step (Val.fits64 hσ rfl rfl (by first | omega | (simp at *; omega)) (by first | omega | (simp at *; omega))) rfl rfl rfl ?_ | refine AOps.step (Val.vif hσ rfl rfl (by first | omega | (simp at *; omega))) rfl rfl rfl ?_
  refine AOps.step (Val.of hσ rfl rfl) rfl rfl rfl ?_
  refine AOps.forget [(1, _), (9, _), (0, _), (5, _)] ⟨rfl, rfl, rfl, rfl, trivial⟩ ?_
  refine AOps.nil ?_
  refine AWP.region ?_
  refine AOps.step (Val.of hσ rfl rfl) rfl rfl rfl ?_
  refine AOps.step (Val.of hσ rfl rfl) rfl rfl rfl ?_
  first | refine AOps.step (Val.indexD hσ rfl rfl rfl rfl rfl rfl rfl rfl (by first | omega | (simp at *; omega)) (idx_get (by first | omega | (simp at *; omega)) (by first | omega | (simp at *; omega)))) rfl rfl rfl ?_ | refine AOps.step (Val.vif hσ rfl rfl (by first | omega | (simp at *; omega))) rfl rfl rfl ?_
  refine AOps.step (Val.of hσ rfl rfl) rfl rfl rfl ?_
  refine AOps.step (Val.loadRow hσ (ex := [.int .i64 K, tms t.fs]) rfl rfl rfl rfl (by simp [hRl]) rfl) rfl rfl rfl ?_
  refine AOps.step (Val.of hσ rfl rfl) rfl rfl rfl ?_
  refine AOps.forget [(24, _), (23, _), (1, _), (9, _), (0, _), (5, _)] ⟨rfl, rfl, rfl, rfl, rfl, rfl, trivial⟩ ?_
  refine AOps.innRp hσ (l := 0) (j := 1) (z := 2) (ex := [.int .i64 K, tms t.fs]) (ys := (t.fs).map Tm.cells) (ys' := (markL mT nT (K + 1) t.fs).map Tm.cells) (xs' := R.set i [.int .i64 K, tms (markL mT nT (K + 1) t.fs)]) rfl rfl rfl rfl (.rp (.d rfl .nil)) (.rp (.d rfl .nil)) rfl (by simp [hRl]) rfl (c40 (ts := t.fs) (k := (K + 1)) h1 h2 (by omega) (by omega)).1 (fun _ => by rw [List.length_map]; exact c40 (ts := t.fs) h1 h2 (by omega) (by omega)) (fun hys => ?_) rfl (by simp [markL_length]) rfl rfl rfl rfl (by simp) ?_
  ·
   have hy : t.fs = [] := by simpa using hys
   rw [hy]
   exact (c40n h1 h2 (k := (K + 1))).plain (by simp [cnt, hy])
  apply AOps.norm
  ·
   repeat' (first | exact HN.nil rfl | apply HN.cons rfl | exact BN.row rfl | exact BN.map rfl | apply BN.box rfl | exact MN.nil rfl | apply MN.cons rfl | exact XN.d rfl | exact XN.rs rfl | exact XN.self)
  refine AOps.step (Val.of hσ rfl rfl) rfl rfl rfl ?_
  refine AOps.forget [(1, _), (9, _), (0, _), (5, _)] ⟨rfl, rfl, rfl, rfl, trivial⟩ ?_
  refine AOps.nil ?_
  refine AWP.region ?_
  refine AOps.step (Val.of hσ rfl rfl) rfl rfl rfl ?_
  first | refine AOps.step (Val.fits64 hσ rfl rfl (by first | omega | (simp at *; omega)) (by first | omega | (simp at *; omega))) rfl rfl rfl ?_ | refine AOps.step (Val.vif hσ rfl rfl (by first | omega | (simp at *; omega))) rfl rfl rfl ?_
  refine AOps.step (Val.of hσ rfl rfl) rfl rfl rfl ?_
  refine AOps.forget [(5, _), (1, _), (9, _), (0, _)] ⟨rfl, rfl, rfl, rfl, trivial⟩ ?_
  refine AOps.nil ?_
  refine ⟨i + 1, Ent.to ⟨rfl, ?_, rfl, trivial⟩ (by rw [prow, ← hRn]), by omega, by omega⟩
  rw [hcs]
  exact congrArg (fun z => some (eI z)) (by omega)
 ·
  try simp only [List.length_map, beq_iff_eq, decide_eq_true_eq, decide_eq_false_iff_not, Bool.not_eq_true', Bool.not_eq_false', Bool.not_true, Bool.not_false, Int.not_lt, Int.not_le] at hc9
  refine AWP.exit ?_
  refine AWP.seq ?_
  refine AWP.region ?_
  refine AOps.step (Val.of hσ rfl rfl) rfl rfl rfl ?_
  refine AOps.step (Val.of hσ rfl rfl) rfl rfl rfl ?_
  refine AOps.nil ?_
  refine AWP.ret ?_
  refine ⟨.inl rfl, _, Ent.refl, _, rfl, ?_⟩
  obtain rfl : i = ts.length := by omega
  rw [mk_all (Nat.le_refl _), List.take_length]
  exact ⟨rfl, rfl⟩
abbrev anRow (a : An) : List (Nat × B) := [(0, trow a.pre), (1, trow a.post), (2, irow a.code), (3, prow a.pts)]
abbrev anRs (a : An) : A := .agg [.rs 0 0 a.pre.length, .rs 1 0 a.post.length, .rs 2 0 a.code.length, .rs 3 0 a.pts.length]
def mAn (k : Int) (a : An) : An := ⟨markL mT nT k a.pre, markL mT nT (k + cnt nT a.pre) a.post, markL mIn nIn (k + cnt nT a.pre + cnt nT a.post) a.code, markL mP nP (k + cnt nT a.pre + cnt nT a.post + cnt nIn a.code) a.pts⟩
theorem c27 {L : Nat} (h1 : 4096 ≤ L) (h2 : L ≤ 1073741824) {a : An} {k : Int} (hk0 : 0 ≤ k) (hk1 : k + cnt nT a.pre + cnt nT a.post + cnt nIn a.code + cnt nP a.pts ≤ 1073741824) : MC Try.prog L 9 [anRs a, eI k] (anRow a) (Outs (eI (k + cnt nT a.pre + cnt nT a.post + cnt nIn a.code + cnt nP a.pts)) (anRow (mAn k a))) := by
 refine MC.shift 500 rfl ?_
 have hσ := SgOk.withIns (js := [500, 501, 502, 503]) (SGok (nt := 22) h1 (Nat.le_trans h2 (by decide)))
 refine MC.bodyH hσ Try.func9 (by kernel_rfl) rfl rfl rfl (Nat.le_of_ble_eq_true rfl) (fun hF => ?_)
 refine AWP.seq ?_
 refine AWP.region ?_
 refine AOps.heap (HS.box hσ rfl rfl rfl rfl rfl rfl rfl) rfl ?_
 refine AOps.step (Val.of hσ rfl rfl) rfl rfl rfl ?_
 refine AOps.nil ?_
 refine AWP.seq ?_
 refine AWP.region ?_
 refine AOps.step (Val.of hσ rfl rfl) rfl rfl rfl ?_
 refine AOps.step (Val.of hσ rfl rfl) rfl rfl rfl ?_
 refine AOps.step (Val.of hσ rfl rfl) rfl rfl rfl ?_
 refine AOps.forget [(7, _), (6, _), (4, _), (2, _), (0, _), (1, _)] ⟨rfl, rfl, rfl, rfl, rfl, rfl, trivial⟩ ?_
 refine AOps.inn hσ [500] (bin := [trow a.pre]) rfl rfl rfl rfl (c40 (ts := a.pre) (k := k) h1 h2 hk0 (by omega)) rfl rfl rfl rfl rfl rfl (B0 := 9000) rfl rfl ?_
 apply AOps.norm
 ·
  repeat' (first | exact HN.nil rfl | apply HN.cons rfl | exact BN.row rfl | exact BN.map rfl | apply BN.box rfl | exact MN.nil rfl | apply MN.cons rfl | exact XN.d rfl | exact XN.rs rfl | exact XN.self)
 refine AOps.step (Val.of hσ rfl rfl) rfl rfl rfl ?_
 refine AOps.forget [(1, _), (4, _), (2, _), (0, _)] ⟨rfl, rfl, rfl, rfl, trivial⟩ ?_
 refine AOps.nil ?_
 refine AWP.seq ?_
 refine AWP.region ?_
 refine AOps.step (Val.of hσ rfl rfl) rfl rfl rfl ?_
 refine AOps.step (Val.of hσ rfl rfl) rfl rfl rfl ?_
 refine AOps.step (Val.of hσ rfl rfl) rfl rfl rfl ?_
 refine AOps.forget [(11, _), (10, _), (1, _), (4, _), (2, _), (0, _)] ⟨rfl, rfl, rfl, rfl, rfl, rfl, trivial⟩ ?_
 refine AOps.inn hσ [501] (bin := [trow a.post]) rfl rfl rfl rfl (c40 (ts := a.post) (k := k + cnt nT a.pre) h1 h2 (by omega) (by omega)) rfl rfl rfl rfl rfl rfl (B0 := 13000) rfl rfl ?_
 apply AOps.norm
 ·
  repeat' (first | exact HN.nil rfl | apply HN.cons rfl | exact BN.row rfl | exact BN.map rfl | apply BN.box rfl | exact MN.nil rfl | apply MN.cons rfl | exact XN.d rfl | exact XN.rs rfl | exact XN.self)
 refine AOps.step (Val.of hσ rfl rfl) rfl rfl rfl ?_
 refine AOps.forget [(1, _), (4, _), (2, _), (0, _)] ⟨rfl, rfl, rfl, rfl, trivial⟩ ?_
 refine AOps.nil ?_
 refine AWP.seq ?_
 refine AWP.region ?_
 refine AOps.step (Val.of hσ rfl rfl) rfl rfl rfl ?_
 refine AOps.step (Val.of hσ rfl rfl) rfl rfl rfl ?_
 refine AOps.step (Val.of hσ rfl rfl) rfl rfl rfl ?_
 refine AOps.forget [(15, _), (14, _), (1, _), (4, _), (2, _), (0, _)] ⟨rfl, rfl, rfl, rfl, rfl, rfl, trivial⟩ ?_
 refine AOps.inn hσ [502] (bin := [irow a.code]) rfl rfl rfl rfl (c76 (ts := a.code) (k := k + cnt nT a.pre + cnt nT a.post) h1 h2 (by omega) (by omega)) rfl rfl rfl rfl rfl rfl (B0 := 17000) rfl rfl ?_
 apply AOps.norm
 ·
  repeat' (first | exact HN.nil rfl | apply HN.cons rfl | exact BN.row rfl | exact BN.map rfl | apply BN.box rfl | exact MN.nil rfl | apply MN.cons rfl | exact XN.d rfl | exact XN.rs rfl | exact XN.self)
 refine AOps.step (Val.of hσ rfl rfl) rfl rfl rfl ?_
 refine AOps.forget [(1, _), (4, _), (2, _), (0, _)] ⟨rfl, rfl, rfl, rfl, trivial⟩ ?_
 refine AOps.nil ?_
 refine AWP.seq ?_
 refine AWP.region ?_
 refine AOps.step (Val.of hσ rfl rfl) rfl rfl rfl ?_
 refine AOps.step (Val.of hσ rfl rfl) rfl rfl rfl ?_
 refine AOps.step (Val.of hσ rfl rfl) rfl rfl rfl ?_
 refine AOps.forget [(19, _), (18, _), (1, _), (4, _), (2, _), (0, _)] ⟨rfl, rfl, rfl, rfl, rfl, rfl, trivial⟩ ?_
 refine AOps.inn hσ [503] (bin := [prow a.pts]) rfl rfl rfl rfl (c77 (ts := a.pts) (k := k + cnt nT a.pre + cnt nT a.post + cnt nIn a.code) h1 h2 (by omega) (by omega)) rfl rfl rfl rfl rfl rfl (B0 := 21000) rfl rfl ?_
 apply AOps.norm
 ·
  repeat' (first | exact HN.nil rfl | apply HN.cons rfl | exact BN.row rfl | exact BN.map rfl | apply BN.box rfl | exact MN.nil rfl | apply MN.cons rfl | exact XN.d rfl | exact XN.rs rfl | exact XN.self)
 refine AOps.step (Val.of hσ rfl rfl) rfl rfl rfl ?_
 refine AOps.forget [(1, _), (4, _), (2, _), (0, _)] ⟨rfl, rfl, rfl, rfl, trivial⟩ ?_
 refine AOps.nil ?_
 refine AWP.seq ?_
 refine AWP.region ?_
 refine AOps.step (Val.of hσ rfl rfl) rfl rfl rfl ?_
 refine AOps.step (Val.of hσ rfl rfl) rfl rfl rfl ?_
 refine AOps.nil ?_
 refine AWP.ret ?_
 refine ⟨.inl rfl, _, Ent.sel [500, 501, 502, 503] rfl rfl (e' := [(4, eI (k + cnt nT a.pre + cnt nT a.post + cnt nIn a.code + cnt nP a.pts))]) ⟨rfl, trivial⟩ rfl, _, rfl, rfl, rfl⟩
theorem c27n {L : Nat} (h1 : 4096 ≤ L) (h2 : L ≤ 1073741824) {k : Int} : MC Try.prog L 9 [aAn ⟨[], [], [], []⟩, eI k] [] (Plain (eI k)) := by
 refine MC.alone ?_ rfl
 have hσ := SGok (nt := 22) h1 (Nat.le_trans h2 (by decide))
 refine MC.body hσ Try.func9 (by kernel_rfl) rfl rfl (Nat.le_of_ble_eq_true rfl) (fun hF => ?_)
 refine AWP.seq ?_
 refine AWP.region ?_
 refine AOps.heap (HS.box hσ rfl rfl rfl rfl rfl rfl rfl) rfl ?_
 apply AOps.norm
 ·
  repeat' (first | exact HN.nil rfl | apply HN.cons rfl | exact BN.row rfl | exact BN.map rfl | apply BN.box rfl | exact MN.nil rfl | apply MN.cons rfl | exact XN.d rfl | exact XN.rs rfl | exact XN.self)
 refine AOps.step (Val.of hσ rfl rfl) rfl rfl rfl ?_
 refine AOps.nil ?_
 refine AWP.seq ?_
 refine AWP.region ?_
 refine AOps.step (Val.of hσ rfl rfl) rfl rfl rfl ?_
 refine AOps.step (Val.of hσ rfl rfl) rfl rfl rfl ?_
 refine AOps.step (Val.of hσ rfl rfl) rfl rfl rfl ?_
 refine AOps.forget [(7, _), (6, _), (4, _), (2, _), (0, _), (1, _)] ⟨rfl, rfl, rfl, rfl, rfl, rfl, trivial⟩ ?_
 refine AOps.lone hσ rfl rfl rfl rfl (c40n (k := k) h1 h2) (VAs.self rfl) rfl rfl rfl rfl rfl (B0 := 9000) rfl ?_
 refine AOps.step (Val.of hσ rfl rfl) rfl rfl rfl ?_
 refine AOps.forget [(1, _), (4, _), (2, _), (0, _)] ⟨rfl, rfl, rfl, rfl, trivial⟩ ?_
 refine AOps.nil ?_
 refine AWP.seq ?_
 refine AWP.region ?_
 refine AOps.step (Val.of hσ rfl rfl) rfl rfl rfl ?_
 refine AOps.step (Val.of hσ rfl rfl) rfl rfl rfl ?_
 refine AOps.step (Val.of hσ rfl rfl) rfl rfl rfl ?_
 refine AOps.forget [(11, _), (10, _), (1, _), (4, _), (2, _), (0, _)] ⟨rfl, rfl, rfl, rfl, rfl, rfl, trivial⟩ ?_
 refine AOps.lone hσ rfl rfl rfl rfl (c40n (k := k) h1 h2) (VAs.self rfl) rfl rfl rfl rfl rfl (B0 := 13000) rfl ?_
 refine AOps.step (Val.of hσ rfl rfl) rfl rfl rfl ?_
 refine AOps.forget [(1, _), (4, _), (2, _), (0, _)] ⟨rfl, rfl, rfl, rfl, trivial⟩ ?_
 refine AOps.nil ?_
 refine AWP.seq ?_
 refine AWP.region ?_
 refine AOps.step (Val.of hσ rfl rfl) rfl rfl rfl ?_
 refine AOps.step (Val.of hσ rfl rfl) rfl rfl rfl ?_
 refine AOps.step (Val.of hσ rfl rfl) rfl rfl rfl ?_
 refine AOps.forget [(15, _), (14, _), (1, _), (4, _), (2, _), (0, _)] ⟨rfl, rfl, rfl, rfl, rfl, rfl, trivial⟩ ?_
 refine AOps.lone hσ rfl rfl rfl rfl (c76n (k := k) h1 h2) (VAs.self rfl) rfl rfl rfl rfl rfl (B0 := 17000) rfl ?_
 refine AOps.step (Val.of hσ rfl rfl) rfl rfl rfl ?_
 refine AOps.forget [(1, _), (4, _), (2, _), (0, _)] ⟨rfl, rfl, rfl, rfl, trivial⟩ ?_
 refine AOps.nil ?_
 refine AWP.seq ?_
 refine AWP.region ?_
 refine AOps.step (Val.of hσ rfl rfl) rfl rfl rfl ?_
 refine AOps.step (Val.of hσ rfl rfl) rfl rfl rfl ?_
 refine AOps.step (Val.of hσ rfl rfl) rfl rfl rfl ?_
 refine AOps.forget [(19, _), (18, _), (1, _), (4, _), (2, _), (0, _)] ⟨rfl, rfl, rfl, rfl, rfl, rfl, trivial⟩ ?_
 refine AOps.lone hσ rfl rfl rfl rfl (c77n (k := k) h1 h2) (VAs.self rfl) rfl rfl rfl rfl rfl (B0 := 21000) rfl ?_
 refine AOps.step (Val.of hσ rfl rfl) rfl rfl rfl ?_
 refine AOps.forget [(1, _), (4, _), (2, _), (0, _)] ⟨rfl, rfl, rfl, rfl, trivial⟩ ?_
 refine AOps.nil ?_
 refine AWP.seq ?_
 refine AWP.region ?_
 refine AOps.step (Val.of hσ rfl rfl) rfl rfl rfl ?_
 refine AOps.step (Val.of hσ rfl rfl) rfl rfl rfl ?_
 refine AOps.nil ?_
 refine AWP.ret ?_
 refine ⟨.inl rfl, _, Ent.refl, _, rfl, ?_⟩
 rfl
theorem c78 {L : Nat} (h1 : 4096 ≤ L) (h2 : L ≤ 1073741824) {ts : List In} {k : Int} (hk0 : 0 ≤ k) (hk1 : k + cnt nIn ts ≤ 1073741824) : MC Try.prog L 29 [ains (markL mIn nIn k ts), eI k] [] (Plain (eI (k + cnt nIn ts))) := by
 refine MC.alone ?_ rfl
 have hσ := SGok (nt := 31) h1 (Nat.le_trans h2 (by decide))
 refine MC.body hσ Try.func29 (by kernel_rfl) rfl rfl (Nat.le_of_ble_eq_true rfl) (fun hF => ?_)
 have hlm := markL_length (f := mIn) (sz := nIn) (k := k) (l := ts)
 have hl : (markL mIn nIn k ts).length ≤ L := by simpa [As.fact, A.fact, M.fact, D.fact, Ds.fact] using hF.1.1
 refine AWP.seq ?_
 refine AWP.region ?_
 refine AOps.step (Val.of hσ rfl rfl) rfl rfl rfl ?_
 refine AOps.nil ?_
 refine AWP.seq ?_
 refine AWP.seq ?_
 refine AWP.region ?_
 refine AOps.step (Val.of hσ rfl rfl) rfl rfl rfl ?_
 refine AOps.nil ?_
 refine AWP.block ?_
 refine AWP.loopP (X := Nat) (fun i => ⟨[(0, ains (markL mIn nIn k ts)), (1, eI (k + cnt nIn (ts.take i))), (5, eI i)], []⟩) (fun i => i ≤ ts.length) (fun i => ts.length - i) 0 (Ent.env ⟨rfl, by simp [numbered, lk_cons, cnt], rfl, trivial⟩) ?_ (fun i hi => ?_)
 ·
  exact Nat.zero_le _
 refine AWP.seq ?_
 refine AWP.seq ?_
 refine AWP.region ?_
 refine AOps.step (Val.of hσ rfl rfl) rfl rfl rfl ?_
 refine AOps.step (Val.of hσ rfl rfl) rfl rfl rfl ?_
 first | refine AOps.step (Val.lenD hσ rfl rfl rfl rfl rfl rfl rfl rfl) rfl rfl rfl ?_ | refine AOps.step (Val.of hσ rfl rfl) rfl rfl rfl ?_ | refine AOps.step (Val.vif hσ rfl rfl (by first | omega | (simp at *; omega))) rfl rfl rfl ?_
 refine AOps.step (Val.of hσ rfl rfl) rfl rfl rfl ?_
 refine AOps.forget [(9, _), (0, _), (1, _), (5, _)] ⟨rfl, rfl, rfl, rfl, trivial⟩ ?_
 refine AOps.nil ?_
 refine AWP.cond hσ rfl rfl (fun hc9 => ?_) (fun hc9 => ?_)
 ·
  skip
  refine AWP.skip ?_
  refine AWP.seq ?_
  refine AWP.block ?_
  refine AWP.seq ?_
  refine AWP.seq ?_
  refine AWP.region ?_
  have hil : i < ts.length := by have h9 := of_decide_eq_true hc9; omega
  have hg := markL_getD (f := mIn) (sz := nIn) (k := k) hil
  have hcs := cnt_succ (sz := nIn) hil
  have hcl := cnt_le (sz := nIn) (l := ts) (i := i + 1)
  rw [← getD_lt hil] at hcs
  obtain ⟨t, ht⟩ : ∃ t, t = ts.getD i default := ⟨_, rfl⟩
  rw [← ht] at hg hcs
  simp only [nIn] at hcs
  obtain ⟨K, hK⟩ : ∃ K, K = k + (cnt nIn (ts.take i) : Int) := ⟨_, rfl⟩
  rw [← hK] at hg ⊢
  refine AOps.step (Val.of hσ rfl rfl) rfl rfl rfl ?_
  refine AOps.step (Val.of hσ rfl rfl) rfl rfl rfl ?_
  refine AOps.step ((Val.indexN hσ rfl rfl rfl rfl rfl rfl rfl rfl (idxN (by omega))).cast (v' := ptr (In.cells (mIn K t))) (by rw [hg])) rfl rfl rfl ?_
  refine AOps.step (Val.of hσ rfl rfl) rfl rfl rfl ?_
  refine AOps.step (Val.of hσ rfl rfl) rfl rfl rfl ?_
  refine AOps.step (Val.of hσ rfl rfl) rfl rfl rfl ?_
  refine AOps.step (Val.of hσ rfl rfl) rfl rfl rfl ?_
  refine AOps.forget [(18, _), (9, _), (0, _), (1, _), (5, _)] ⟨rfl, rfl, rfl, rfl, rfl, trivial⟩ ?_
  refine AOps.nil ?_
  refine AWP.cond hσ rfl rfl (fun hc18 => ?_) (fun hc18 => ?_)
  ·
   skip
   exact absurd hc18 (by simp)
  ·
   skip
   refine AWP.skip ?_
   refine AWP.seq ?_
   refine AWP.region ?_
   refine AOps.step (Val.of hσ rfl rfl) rfl rfl rfl ?_
   first | refine AOps.step (Val.fits64 hσ rfl rfl (by first | omega | (simp at *; omega)) (by first | omega | (simp at *; omega))) rfl rfl rfl ?_ | refine AOps.step (Val.vif hσ rfl rfl (by first | omega | (simp at *; omega))) rfl rfl rfl ?_
   refine AOps.step (Val.of hσ rfl rfl) rfl rfl rfl ?_
   refine AOps.forget [(1, _), (18, _), (9, _), (0, _), (5, _)] ⟨rfl, rfl, rfl, rfl, rfl, trivial⟩ ?_
   refine AOps.nil ?_
   refine AWP.seq ?_
   refine AWP.seq ?_
   refine AWP.region ?_
   refine AOps.step (Val.of hσ rfl rfl) rfl rfl rfl ?_
   refine AOps.step (Val.of hσ rfl rfl) rfl rfl rfl ?_
   refine AOps.step ((Val.indexN hσ rfl rfl rfl rfl rfl rfl rfl rfl (idxN (by omega))).cast (v' := ptr (In.cells (mIn K t))) (by rw [hg])) rfl rfl rfl ?_
   refine AOps.step (Val.of hσ rfl rfl) rfl rfl rfl ?_
   refine AOps.step (Val.of hσ rfl rfl) rfl rfl rfl ?_
   refine AOps.step (Val.of hσ rfl rfl) rfl rfl rfl ?_
   refine AOps.step (Val.of hσ rfl rfl) rfl rfl rfl ?_
   refine AOps.forget [(27, _), (1, _), (18, _), (9, _), (0, _), (5, _)] ⟨rfl, rfl, rfl, rfl, rfl, rfl, trivial⟩ ?_
   refine AOps.nil ?_
   refine AWP.cond hσ rfl rfl (fun hc27 => ?_) (fun hc27 => ?_)
   ·
    skip
    exact absurd hc27 (by simp)
   ·
    skip
    refine AWP.skip ?_
    refine AWP.region ?_
    refine AOps.step (Val.of hσ rfl rfl) rfl rfl rfl ?_
    first | refine AOps.step (Val.fits64 hσ rfl rfl (by first | omega | (simp at *; omega)) (by first | omega | (simp at *; omega))) rfl rfl rfl ?_ | refine AOps.step (Val.vif hσ rfl rfl (by first | omega | (simp at *; omega))) rfl rfl rfl ?_
    refine AOps.step (Val.of hσ rfl rfl) rfl rfl rfl ?_
    refine AOps.forget [(1, _), (27, _), (18, _), (9, _), (0, _), (5, _)] ⟨rfl, rfl, rfl, rfl, rfl, rfl, trivial⟩ ?_
    refine AOps.nil ?_
    refine AWP.region ?_
    refine AOps.step (Val.of hσ rfl rfl) rfl rfl rfl ?_
    first | refine AOps.step (Val.fits64 hσ rfl rfl (by first | omega | (simp at *; omega)) (by first | omega | (simp at *; omega))) rfl rfl rfl ?_ | refine AOps.step (Val.vif hσ rfl rfl (by first | omega | (simp at *; omega))) rfl rfl rfl ?_
    refine AOps.step (Val.of hσ rfl rfl) rfl rfl rfl ?_
    refine AOps.forget [(5, _), (1, _), (27, _), (18, _), (9, _), (0, _)] ⟨rfl, rfl, rfl, rfl, rfl, rfl, trivial⟩ ?_
    refine AOps.nil ?_
    refine ⟨i + 1, Ent.env ⟨rfl, ?_, rfl, trivial⟩, by omega, by omega⟩
    rw [hcs]
    exact congrArg (fun z => some (eI z)) (by omega)
 ·
  skip
  refine AWP.exit ?_
  refine AWP.seq ?_
  refine AWP.region ?_
  refine AOps.step (Val.of hσ rfl rfl) rfl rfl rfl ?_
  refine AOps.step (Val.of hσ rfl rfl) rfl rfl rfl ?_
  refine AOps.nil ?_
  refine AWP.ret ?_
  refine ⟨.inl rfl, _, Ent.refl, _, rfl, ?_⟩
  have h9 := of_decide_eq_false hc9
  obtain rfl : i = ts.length := by omega
  rw [List.take_length]
theorem c79 {L : Nat} (h1 : 4096 ≤ L) (h2 : L ≤ 1073741824) {ts : List Pt} {k : Int} (hk0 : 0 ≤ k) (hk1 : k + cnt nP ts ≤ 1073741824) : MC Try.prog L 30 [apts (markL mP nP k ts), eI k] [] (Plain (eI (k + cnt nP ts))) := by
 refine MC.alone ?_ rfl
 have hσ := SGok (nt := 31) h1 (Nat.le_trans h2 (by decide))
 refine MC.body hσ Try.func30 (by kernel_rfl) rfl rfl (Nat.le_of_ble_eq_true rfl) (fun hF => ?_)
 have hlm := markL_length (f := mP) (sz := nP) (k := k) (l := ts)
 have hl : (markL mP nP k ts).length ≤ L := by simpa [As.fact, A.fact, M.fact, D.fact, Ds.fact] using hF.1.1
 refine AWP.seq ?_
 refine AWP.region ?_
 refine AOps.step (Val.of hσ rfl rfl) rfl rfl rfl ?_
 refine AOps.nil ?_
 refine AWP.seq ?_
 refine AWP.seq ?_
 refine AWP.region ?_
 refine AOps.step (Val.of hσ rfl rfl) rfl rfl rfl ?_
 refine AOps.nil ?_
 refine AWP.block ?_
 refine AWP.loopP (X := Nat) (fun i => ⟨[(0, apts (markL mP nP k ts)), (1, eI (k + cnt nP (ts.take i))), (5, eI i)], []⟩) (fun i => i ≤ ts.length) (fun i => ts.length - i) 0 (Ent.env ⟨rfl, by simp [numbered, lk_cons, cnt], rfl, trivial⟩) ?_ (fun i hi => ?_)
 ·
  exact Nat.zero_le _
 refine AWP.seq ?_
 refine AWP.seq ?_
 refine AWP.region ?_
 refine AOps.step (Val.of hσ rfl rfl) rfl rfl rfl ?_
 refine AOps.step (Val.of hσ rfl rfl) rfl rfl rfl ?_
 first | refine AOps.step (Val.lenD hσ rfl rfl rfl rfl rfl rfl rfl rfl) rfl rfl rfl ?_ | refine AOps.step (Val.of hσ rfl rfl) rfl rfl rfl ?_ | refine AOps.step (Val.vif hσ rfl rfl (by first | omega | (simp at *; omega))) rfl rfl rfl ?_
 refine AOps.step (Val.of hσ rfl rfl) rfl rfl rfl ?_
 refine AOps.forget [(9, _), (0, _), (1, _), (5, _)] ⟨rfl, rfl, rfl, rfl, trivial⟩ ?_
 refine AOps.nil ?_
 refine AWP.cond hσ rfl rfl (fun hc9 => ?_) (fun hc9 => ?_)
 ·
  skip
  refine AWP.skip ?_
  refine AWP.seq ?_
  refine AWP.block ?_
  refine AWP.seq ?_
  refine AWP.seq ?_
  refine AWP.region ?_
  have hil : i < ts.length := by have h9 := of_decide_eq_true hc9; omega
  have hg := markL_getD (f := mP) (sz := nP) (k := k) hil
  have hcs := cnt_succ (sz := nP) hil
  have hcl := cnt_le (sz := nP) (l := ts) (i := i + 1)
  rw [← getD_lt hil] at hcs
  obtain ⟨t, ht⟩ : ∃ t, t = ts.getD i default := ⟨_, rfl⟩
  rw [← ht] at hg hcs
  simp only [nP] at hcs
  obtain ⟨K, hK⟩ : ∃ K, K = k + (cnt nP (ts.take i) : Int) := ⟨_, rfl⟩
  rw [← hK] at hg ⊢
  refine AOps.step (Val.of hσ rfl rfl) rfl rfl rfl ?_
  refine AOps.step (Val.of hσ rfl rfl) rfl rfl rfl ?_
  refine AOps.step ((Val.indexN hσ rfl rfl rfl rfl rfl rfl rfl rfl (idxN (by omega))).cast (v' := ptr (Pt.cells (mP K t))) (by rw [hg])) rfl rfl rfl ?_
  refine AOps.step (Val.of hσ rfl rfl) rfl rfl rfl ?_
  refine AOps.step (Val.of hσ rfl rfl) rfl rfl rfl ?_
  refine AOps.step (Val.of hσ rfl rfl) rfl rfl rfl ?_
  refine AOps.step (Val.of hσ rfl rfl) rfl rfl rfl ?_
  refine AOps.forget [(18, _), (9, _), (0, _), (1, _), (5, _)] ⟨rfl, rfl, rfl, rfl, rfl, trivial⟩ ?_
  refine AOps.nil ?_
  refine AWP.cond hσ rfl rfl (fun hc18 => ?_) (fun hc18 => ?_)
  ·
   skip
   exact absurd hc18 (by simp)
  ·
   skip
   refine AWP.skip ?_
   refine AWP.seq ?_
   refine AWP.region ?_
   refine AOps.step (Val.of hσ rfl rfl) rfl rfl rfl ?_
   first | refine AOps.step (Val.fits64 hσ rfl rfl (by first | omega | (simp at *; omega)) (by first | omega | (simp at *; omega))) rfl rfl rfl ?_ | refine AOps.step (Val.vif hσ rfl rfl (by first | omega | (simp at *; omega))) rfl rfl rfl ?_
   refine AOps.step (Val.of hσ rfl rfl) rfl rfl rfl ?_
   refine AOps.forget [(1, _), (18, _), (9, _), (0, _), (5, _)] ⟨rfl, rfl, rfl, rfl, rfl, trivial⟩ ?_
   refine AOps.nil ?_
   refine AWP.seq ?_
   refine AWP.region ?_
   refine AOps.step (Val.of hσ rfl rfl) rfl rfl rfl ?_
   refine AOps.step (Val.of hσ rfl rfl) rfl rfl rfl ?_
   refine AOps.step ((Val.indexN hσ rfl rfl rfl rfl rfl rfl rfl rfl (idxN (by omega))).cast (v' := ptr (Pt.cells (mP K t))) (by rw [hg])) rfl rfl rfl ?_
   refine AOps.step (Val.of hσ rfl rfl) rfl rfl rfl ?_
   refine AOps.step (Val.of hσ rfl rfl) rfl rfl rfl ?_
   refine AOps.step (Val.of hσ rfl rfl) rfl rfl rfl ?_
   refine AOps.forget [(26, _), (25, _), (1, _), (18, _), (9, _), (0, _), (5, _)] ⟨rfl, rfl, rfl, rfl, rfl, rfl, rfl, trivial⟩ ?_
   refine AOps.lone hσ rfl rfl rfl rfl (c41 (ts := t.fs) (k := K + 1) h1 h2 (by omega) (by omega)) (VAs.self rfl) rfl rfl rfl rfl rfl (B0 := 28000) rfl ?_
   refine AOps.step (Val.of hσ rfl rfl) rfl rfl rfl ?_
   refine AOps.forget [(1, _), (18, _), (9, _), (0, _), (5, _)] ⟨rfl, rfl, rfl, rfl, rfl, trivial⟩ ?_
   refine AOps.nil ?_
   refine AWP.seq ?_
   refine AWP.region ?_
   refine AOps.step (Val.of hσ rfl rfl) rfl rfl rfl ?_
   refine AOps.step (Val.of hσ rfl rfl) rfl rfl rfl ?_
   refine AOps.nil ?_
   refine AWP.cond hσ rfl rfl (fun hc29 => ?_) (fun hc29 => ?_)
   ·
    skip
    exact absurd (of_decide_eq_true hc29) (by omega)
   ·
    skip
    refine AWP.skip ?_
    refine AWP.region ?_
    refine AOps.step (Val.of hσ rfl rfl) rfl rfl rfl ?_
    first | refine AOps.step (Val.fits64 hσ rfl rfl (by first | omega | (simp at *; omega)) (by first | omega | (simp at *; omega))) rfl rfl rfl ?_ | refine AOps.step (Val.vif hσ rfl rfl (by first | omega | (simp at *; omega))) rfl rfl rfl ?_
    refine AOps.step (Val.of hσ rfl rfl) rfl rfl rfl ?_
    refine AOps.forget [(5, _), (29, _), (28, _), (1, _), (18, _), (9, _), (0, _)] ⟨rfl, rfl, rfl, rfl, rfl, rfl, rfl, trivial⟩ ?_
    refine AOps.nil ?_
    refine ⟨i + 1, Ent.env ⟨rfl, ?_, rfl, trivial⟩, by omega, by omega⟩
    rw [hcs]
    exact congrArg (fun z => some (eI z)) (by omega)
 ·
  skip
  refine AWP.exit ?_
  refine AWP.seq ?_
  refine AWP.region ?_
  refine AOps.step (Val.of hσ rfl rfl) rfl rfl rfl ?_
  refine AOps.step (Val.of hσ rfl rfl) rfl rfl rfl ?_
  refine AOps.nil ?_
  refine AWP.ret ?_
  refine ⟨.inl rfl, _, Ent.refl, _, rfl, ?_⟩
  have h9 := of_decide_eq_false hc9
  obtain rfl : i = ts.length := by omega
  rw [List.take_length]
theorem c28 {L : Nat} (h1 : 4096 ≤ L) (h2 : L ≤ 1073741824) {a : An} {k : Int} (hk0 : 0 ≤ k) (hk1 : k + cnt nT a.pre + cnt nT a.post + cnt nIn a.code + cnt nP a.pts ≤ 1073741824) : MC Try.prog L 10 [aAn (mAn k a), eI k] [] (Plain (eI (k + cnt nT a.pre + cnt nT a.post + cnt nIn a.code + cnt nP a.pts))) := by
 refine MC.alone ?_ rfl
 have hσ := SGok (nt := 30) h1 (Nat.le_trans h2 (by decide))
 refine MC.body hσ Try.func10 (by kernel_rfl) rfl rfl (Nat.le_of_ble_eq_true rfl) (fun hF => ?_)
 refine AWP.seq ?_
 refine AWP.region ?_
 refine AOps.heap (HS.box hσ rfl rfl rfl rfl rfl rfl rfl) rfl ?_
 refine AOps.step (Val.of hσ rfl rfl) rfl rfl rfl ?_
 refine AOps.nil ?_
 refine AWP.seq ?_
 refine AWP.region ?_
 refine AOps.step (Val.of hσ rfl rfl) rfl rfl rfl ?_
 refine AOps.step (Val.of hσ rfl rfl) rfl rfl rfl ?_
 refine AOps.step (Val.of hσ rfl rfl) rfl rfl rfl ?_
 refine AOps.forget [(7, _), (6, _), (4, _), (2, _), (0, _), (1, _)] ⟨rfl, rfl, rfl, rfl, rfl, rfl, trivial⟩ ?_
 refine AOps.lone hσ rfl rfl rfl rfl (c41 (ts := a.pre) (k := k) h1 h2 hk0 (by omega)) (VAs.self rfl) rfl rfl rfl rfl rfl (B0 := 9000) rfl ?_
 refine AOps.step (Val.of hσ rfl rfl) rfl rfl rfl ?_
 refine AOps.forget [(1, _), (4, _), (2, _), (0, _)] ⟨rfl, rfl, rfl, rfl, trivial⟩ ?_
 refine AOps.nil ?_
 refine AWP.seq ?_
 refine AWP.seq ?_
 refine AWP.region ?_
 refine AOps.step (Val.of hσ rfl rfl) rfl rfl rfl ?_
 refine AOps.step (Val.of hσ rfl rfl) rfl rfl rfl ?_
 refine AOps.nil ?_
 refine AWP.cond hσ rfl rfl (fun hc10 => ?_) (fun hc10 => ?_)
 ·
  skip
  exact absurd (of_decide_eq_true hc10) (by omega)
 ·
  skip
  refine AWP.skip ?_
  refine AWP.seq ?_
  refine AWP.region ?_
  refine AOps.step (Val.of hσ rfl rfl) rfl rfl rfl ?_
  refine AOps.step (Val.of hσ rfl rfl) rfl rfl rfl ?_
  refine AOps.step (Val.of hσ rfl rfl) rfl rfl rfl ?_
  refine AOps.forget [(13, _), (12, _), (9, _), (1, _), (4, _), (2, _), (0, _)] ⟨rfl, rfl, rfl, rfl, rfl, rfl, rfl, trivial⟩ ?_
  refine AOps.lone hσ rfl rfl rfl rfl (c41 (ts := a.post) (k := k + cnt nT a.pre) h1 h2 (by omega) (by omega)) (VAs.self rfl) rfl rfl rfl rfl rfl (B0 := 15000) rfl ?_
  refine AOps.step (Val.of hσ rfl rfl) rfl rfl rfl ?_
  refine AOps.forget [(1, _), (9, _), (4, _), (2, _), (0, _)] ⟨rfl, rfl, rfl, rfl, rfl, trivial⟩ ?_
  refine AOps.nil ?_
  refine AWP.seq ?_
  refine AWP.seq ?_
  refine AWP.region ?_
  refine AOps.step (Val.of hσ rfl rfl) rfl rfl rfl ?_
  refine AOps.step (Val.of hσ rfl rfl) rfl rfl rfl ?_
  refine AOps.nil ?_
  refine AWP.cond hσ rfl rfl (fun hc16 => ?_) (fun hc16 => ?_)
  ·
   skip
   exact absurd (of_decide_eq_true hc16) (by omega)
  ·
   skip
   refine AWP.skip ?_
   refine AWP.seq ?_
   refine AWP.region ?_
   refine AOps.step (Val.of hσ rfl rfl) rfl rfl rfl ?_
   refine AOps.step (Val.of hσ rfl rfl) rfl rfl rfl ?_
   refine AOps.step (Val.of hσ rfl rfl) rfl rfl rfl ?_
   refine AOps.forget [(19, _), (18, _), (15, _), (1, _), (9, _), (4, _), (2, _), (0, _)] ⟨rfl, rfl, rfl, rfl, rfl, rfl, rfl, rfl, trivial⟩ ?_
   refine AOps.lone hσ rfl rfl rfl rfl (c78 (ts := a.code) (k := k + cnt nT a.pre + cnt nT a.post) h1 h2 (by omega) (by omega)) (VAs.self rfl) rfl rfl rfl rfl rfl (B0 := 21000) rfl ?_
   refine AOps.step (Val.of hσ rfl rfl) rfl rfl rfl ?_
   refine AOps.forget [(1, _), (15, _), (9, _), (4, _), (2, _), (0, _)] ⟨rfl, rfl, rfl, rfl, rfl, rfl, trivial⟩ ?_
   refine AOps.nil ?_
   refine AWP.seq ?_
   refine AWP.seq ?_
   refine AWP.region ?_
   refine AOps.step (Val.of hσ rfl rfl) rfl rfl rfl ?_
   refine AOps.step (Val.of hσ rfl rfl) rfl rfl rfl ?_
   refine AOps.nil ?_
   refine AWP.cond hσ rfl rfl (fun hc22 => ?_) (fun hc22 => ?_)
   ·
    skip
    exact absurd (of_decide_eq_true hc22) (by omega)
   ·
    skip
    refine AWP.skip ?_
    refine AWP.seq ?_
    refine AWP.region ?_
    refine AOps.step (Val.of hσ rfl rfl) rfl rfl rfl ?_
    refine AOps.step (Val.of hσ rfl rfl) rfl rfl rfl ?_
    refine AOps.step (Val.of hσ rfl rfl) rfl rfl rfl ?_
    refine AOps.forget [(25, _), (24, _), (21, _), (1, _), (15, _), (9, _), (4, _), (2, _), (0, _)] ⟨rfl, rfl, rfl, rfl, rfl, rfl, rfl, rfl, rfl, trivial⟩ ?_
    refine AOps.lone hσ rfl rfl rfl rfl (c79 (ts := a.pts) (k := k + cnt nT a.pre + cnt nT a.post + cnt nIn a.code) h1 h2 (by omega) (by omega)) (VAs.self rfl) rfl rfl rfl rfl rfl (B0 := 27000) rfl ?_
    refine AOps.step (Val.of hσ rfl rfl) rfl rfl rfl ?_
    refine AOps.forget [(1, _), (21, _), (15, _), (9, _), (4, _), (2, _), (0, _)] ⟨rfl, rfl, rfl, rfl, rfl, rfl, rfl, trivial⟩ ?_
    refine AOps.nil ?_
    refine AWP.seq ?_
    refine AWP.seq ?_
    refine AWP.region ?_
    refine AOps.step (Val.of hσ rfl rfl) rfl rfl rfl ?_
    refine AOps.step (Val.of hσ rfl rfl) rfl rfl rfl ?_
    refine AOps.nil ?_
    refine AWP.cond hσ rfl rfl (fun hc28 => ?_) (fun hc28 => ?_)
    ·
     skip
     exact absurd (of_decide_eq_true hc28) (by omega)
    ·
     skip
     refine AWP.skip ?_
     refine AWP.seq ?_
     refine AWP.region ?_
     refine AOps.step (Val.of hσ rfl rfl) rfl rfl rfl ?_
     refine AOps.step (Val.of hσ rfl rfl) rfl rfl rfl ?_
     refine AOps.forget [(4, _), (27, _), (1, _), (21, _), (15, _), (9, _), (2, _), (0, _)] ⟨rfl, rfl, rfl, rfl, rfl, rfl, rfl, rfl, trivial⟩ ?_
     refine AOps.nil ?_
     refine AWP.ret ?_
     refine ⟨.inl rfl, _, Ent.refl, _, rfl, ?_⟩
     rfl
end Go.Al
namespace Go.Al
open Go.Proofs
set_option linter.unusedVariables false
set_option linter.unusedSimpArgs false
set_option maxRecDepth 10000
set_option maxHeartbeats 4000000
theorem notF {a : Bool} (h : (!a) = true) : a = false := by simpa using h
theorem notT {a : Bool} (h : (!a) = false) : a = true := by simpa using h
theorem orF {a b : Bool} (h : (bif a then true else b) = false) : a = false ∧ b = false := by cases a <;> cases b <;> simp_all
theorem andT {a b : Bool} (h : (bif a then b else false) = true) : a = true ∧ b = true := by cases a <;> cases b <;> simp_all
theorem andF {a b : Bool} (h : (bif a then b else false) = false) : (a && b) = false := by cases a <;> cases b <;> simp_all
theorem any_yes {α : Type} {p : α → Bool} {xs : List α} (j : Nat) (hj : j < xs.length) (h : p xs[j] = true) : xs.any p = true := List.any_eq_true.2 ⟨xs[j], List.getElem_mem _, h⟩
theorem any_no {α : Type} {p : α → Bool} {xs : List α} (h : ∀ j (hj : j < xs.length), p xs[j] = false) : xs.any p = false := List.any_eq_false.2 fun x hx => by
  obtain ⟨j, hj, rfl⟩ := List.mem_iff_getElem.1 hx
  rw [h j hj]; decide
theorem nterm (t : Tm) : (bif !t.ok then true else decide ((4 : Int) < t.xs.length)) = !t.term := by
  unfold Tm.term
  cases t.ok
  · rfl
  · by_cases h : (4 : Int) < t.xs.length
    · rw [decide_eq_true h, decide_eq_false (by omega)]; rfl
    · rw [decide_eq_false h, decide_eq_true (by omega)]; rfl
theorem c163 {L : Nat} (h1 : 4096 ≤ L) (h2 : L ≤ 1073741824) {x : In} : MC Try.prog L 59 [.agg (x.cells.map .d)] [] (Plain (eB (instrB x))) := by
 refine MC.alone ?_ rfl
 have hσ := SGok (nt := 37) h1 (Nat.le_trans h2 (by decide))
 refine MC.body hσ Try.func59 (by kernel_rfl) rfl rfl (Nat.le_of_ble_eq_true rfl) (fun hF => ?_)
 refine AWP.seq ?_
 refine AWP.region ?_
 refine AOps.heap (HS.box hσ rfl rfl rfl rfl rfl rfl rfl) rfl ?_
 refine AOps.step (Val.of hσ rfl rfl) rfl rfl rfl ?_
 refine AOps.nil ?_
 refine AWP.seq ?_
 refine AWP.seq ?_
 refine AWP.region ?_
 refine AOps.step (Val.of hσ rfl rfl) rfl rfl rfl ?_
 refine AOps.step (Val.of hσ rfl rfl) rfl rfl rfl ?_
 refine AOps.nil ?_
 refine AWP.block ?_
 refine AWP.seq ?_
 refine AWP.seq ?_
 refine AWP.region ?_
 refine AOps.step (Val.of hσ rfl rfl) rfl rfl rfl ?_
 refine AOps.step (Val.of hσ rfl rfl) rfl rfl rfl ?_
 refine AOps.nil ?_
 refine AWP.cond hσ rfl rfl (fun hc5 => ?_) (fun hc5 => ?_)
 ·
  try simp only [List.length_map, beq_iff_eq, decide_eq_true_eq, decide_eq_false_iff_not, Bool.not_eq_true', Bool.not_eq_false', Bool.not_true, Bool.not_false, Int.not_lt, Int.not_le] at hc5
  refine AWP.skip ?_
  refine AWP.cond hσ rfl rfl (fun hc5 => ?_) (fun hc5 => ?_)
  ·
   try simp only [List.length_map, beq_iff_eq, decide_eq_true_eq, decide_eq_false_iff_not, Bool.not_eq_true', Bool.not_eq_false', Bool.not_true, Bool.not_false, Int.not_lt, Int.not_le] at hc5
   refine AWP.seq ?_
   refine AWP.region ?_
   refine AOps.step (Val.of hσ rfl rfl) rfl rfl rfl ?_
   refine AOps.step (Val.of hσ rfl rfl) rfl rfl rfl ?_
   refine AOps.lone hσ rfl rfl rfl rfl (c165 h1 h2) (VAs.self rfl) rfl rfl rfl rfl rfl (B0 := 11000) rfl ?_
   refine AOps.step (Val.of hσ rfl rfl) rfl rfl rfl ?_
   refine AOps.nil ?_
   refine AWP.ret ?_
   refine ⟨.inl rfl, _, Ent.refl, _, rfl, ?_⟩
   unfold instrB inB; simp_all
  ·
   try simp only [List.length_map, beq_iff_eq, decide_eq_true_eq, decide_eq_false_iff_not, Bool.not_eq_true', Bool.not_eq_false', Bool.not_true, Bool.not_false, Int.not_lt, Int.not_le] at hc5
   contradiction
 ·
  try simp only [List.length_map, beq_iff_eq, decide_eq_true_eq, decide_eq_false_iff_not, Bool.not_eq_true', Bool.not_eq_false', Bool.not_true, Bool.not_false, Int.not_lt, Int.not_le] at hc5
  refine AWP.region ?_
  refine AOps.step (Val.of hσ rfl rfl) rfl rfl rfl ?_
  refine AOps.step (Val.of hσ rfl rfl) rfl rfl rfl ?_
  refine AOps.nil ?_
  refine AWP.cond hσ rfl rfl (fun hc5 => ?_) (fun hc5 => ?_)
  ·
   try simp only [List.length_map, beq_iff_eq, decide_eq_true_eq, decide_eq_false_iff_not, Bool.not_eq_true', Bool.not_eq_false', Bool.not_true, Bool.not_false, Int.not_lt, Int.not_le] at hc5
   refine AWP.seq ?_
   refine AWP.region ?_
   refine AOps.step (Val.of hσ rfl rfl) rfl rfl rfl ?_
   refine AOps.step (Val.of hσ rfl rfl) rfl rfl rfl ?_
   refine AOps.lone hσ rfl rfl rfl rfl (c165 h1 h2) (VAs.self rfl) rfl rfl rfl rfl rfl (B0 := 11000) rfl ?_
   refine AOps.step (Val.of hσ rfl rfl) rfl rfl rfl ?_
   refine AOps.nil ?_
   refine AWP.ret ?_
   refine ⟨.inl rfl, _, Ent.refl, _, rfl, ?_⟩
   unfold instrB inB; simp_all
  ·
   try simp only [List.length_map, beq_iff_eq, decide_eq_true_eq, decide_eq_false_iff_not, Bool.not_eq_true', Bool.not_eq_false', Bool.not_true, Bool.not_false, Int.not_lt, Int.not_le] at hc5
   refine AWP.seq ?_
   refine AWP.seq ?_
   refine AWP.region ?_
   refine AOps.step (Val.of hσ rfl rfl) rfl rfl rfl ?_
   refine AOps.step (Val.of hσ rfl rfl) rfl rfl rfl ?_
   refine AOps.nil ?_
   refine AWP.cond hσ rfl rfl (fun hc11 => ?_) (fun hc11 => ?_)
   ·
    try simp only [List.length_map, beq_iff_eq, decide_eq_true_eq, decide_eq_false_iff_not, Bool.not_eq_true', Bool.not_eq_false', Bool.not_true, Bool.not_false, Int.not_lt, Int.not_le] at hc11
    refine AWP.skip ?_
    refine AWP.cond hσ rfl rfl (fun hc11 => ?_) (fun hc11 => ?_)
    ·
     try simp only [List.length_map, beq_iff_eq, decide_eq_true_eq, decide_eq_false_iff_not, Bool.not_eq_true', Bool.not_eq_false', Bool.not_true, Bool.not_false, Int.not_lt, Int.not_le] at hc11
     refine AWP.seq ?_
     refine AWP.region ?_
     refine AOps.step (Val.of hσ rfl rfl) rfl rfl rfl ?_
     refine AOps.step (Val.of hσ rfl rfl) rfl rfl rfl ?_
     refine AOps.lone hσ rfl rfl rfl rfl (c84 h1 h2) (VAs.self rfl) rfl rfl rfl rfl rfl (B0 := 17000) rfl ?_
     refine AOps.step (Val.of hσ rfl rfl) rfl rfl rfl ?_
     refine AOps.nil ?_
     refine AWP.ret ?_
     refine ⟨.inl rfl, _, Ent.refl, _, rfl, ?_⟩
     unfold instrB inB; simp_all
    ·
     try simp only [List.length_map, beq_iff_eq, decide_eq_true_eq, decide_eq_false_iff_not, Bool.not_eq_true', Bool.not_eq_false', Bool.not_true, Bool.not_false, Int.not_lt, Int.not_le] at hc11
     contradiction
   ·
    try simp only [List.length_map, beq_iff_eq, decide_eq_true_eq, decide_eq_false_iff_not, Bool.not_eq_true', Bool.not_eq_false', Bool.not_true, Bool.not_false, Int.not_lt, Int.not_le] at hc11
    refine AWP.region ?_
    refine AOps.step (Val.of hσ rfl rfl) rfl rfl rfl ?_
    refine AOps.step (Val.of hσ rfl rfl) rfl rfl rfl ?_
    refine AOps.nil ?_
    refine AWP.cond hσ rfl rfl (fun hc11 => ?_) (fun hc11 => ?_)
    ·
     try simp only [List.length_map, beq_iff_eq, decide_eq_true_eq, decide_eq_false_iff_not, Bool.not_eq_true', Bool.not_eq_false', Bool.not_true, Bool.not_false, Int.not_lt, Int.not_le] at hc11
     refine AWP.seq ?_
     refine AWP.region ?_
     refine AOps.step (Val.of hσ rfl rfl) rfl rfl rfl ?_
     refine AOps.step (Val.of hσ rfl rfl) rfl rfl rfl ?_
     refine AOps.lone hσ rfl rfl rfl rfl (c84 h1 h2) (VAs.self rfl) rfl rfl rfl rfl rfl (B0 := 17000) rfl ?_
     refine AOps.step (Val.of hσ rfl rfl) rfl rfl rfl ?_
     refine AOps.nil ?_
     refine AWP.ret ?_
     refine ⟨.inl rfl, _, Ent.refl, _, rfl, ?_⟩
     unfold instrB inB; simp_all
    ·
     try simp only [List.length_map, beq_iff_eq, decide_eq_true_eq, decide_eq_false_iff_not, Bool.not_eq_true', Bool.not_eq_false', Bool.not_true, Bool.not_false, Int.not_lt, Int.not_le] at hc11
     refine AWP.seq ?_
     refine AWP.seq ?_
     refine AWP.region ?_
     refine AOps.step (Val.of hσ rfl rfl) rfl rfl rfl ?_
     refine AOps.step (Val.of hσ rfl rfl) rfl rfl rfl ?_
     refine AOps.nil ?_
     refine AWP.cond hσ rfl rfl (fun hc17 => ?_) (fun hc17 => ?_)
     ·
      try simp only [List.length_map, beq_iff_eq, decide_eq_true_eq, decide_eq_false_iff_not, Bool.not_eq_true', Bool.not_eq_false', Bool.not_true, Bool.not_false, Int.not_lt, Int.not_le] at hc17
      refine AWP.skip ?_
      refine AWP.cond hσ rfl rfl (fun hc17 => ?_) (fun hc17 => ?_)
      ·
       try simp only [List.length_map, beq_iff_eq, decide_eq_true_eq, decide_eq_false_iff_not, Bool.not_eq_true', Bool.not_eq_false', Bool.not_true, Bool.not_false, Int.not_lt, Int.not_le] at hc17
       refine AWP.seq ?_
       refine AWP.region ?_
       refine AOps.step (Val.of hσ rfl rfl) rfl rfl rfl ?_
       refine AOps.step (Val.of hσ rfl rfl) rfl rfl rfl ?_
       refine AOps.lone hσ rfl rfl rfl rfl (c84 h1 h2) (VAs.self rfl) rfl rfl rfl rfl rfl (B0 := 23000) rfl ?_
       refine AOps.step (Val.of hσ rfl rfl) rfl rfl rfl ?_
       refine AOps.nil ?_
       refine AWP.ret ?_
       refine ⟨.inl rfl, _, Ent.refl, _, rfl, ?_⟩
       unfold instrB inB; simp_all
      ·
       try simp only [List.length_map, beq_iff_eq, decide_eq_true_eq, decide_eq_false_iff_not, Bool.not_eq_true', Bool.not_eq_false', Bool.not_true, Bool.not_false, Int.not_lt, Int.not_le] at hc17
       contradiction
     ·
      try simp only [List.length_map, beq_iff_eq, decide_eq_true_eq, decide_eq_false_iff_not, Bool.not_eq_true', Bool.not_eq_false', Bool.not_true, Bool.not_false, Int.not_lt, Int.not_le] at hc17
      refine AWP.region ?_
      refine AOps.step (Val.of hσ rfl rfl) rfl rfl rfl ?_
      refine AOps.step (Val.of hσ rfl rfl) rfl rfl rfl ?_
      refine AOps.nil ?_
      refine AWP.cond hσ rfl rfl (fun hc17 => ?_) (fun hc17 => ?_)
      ·
       try simp only [List.length_map, beq_iff_eq, decide_eq_true_eq, decide_eq_false_iff_not, Bool.not_eq_true', Bool.not_eq_false', Bool.not_true, Bool.not_false, Int.not_lt, Int.not_le] at hc17
       refine AWP.seq ?_
       refine AWP.region ?_
       refine AOps.step (Val.of hσ rfl rfl) rfl rfl rfl ?_
       refine AOps.step (Val.of hσ rfl rfl) rfl rfl rfl ?_
       refine AOps.lone hσ rfl rfl rfl rfl (c84 h1 h2) (VAs.self rfl) rfl rfl rfl rfl rfl (B0 := 23000) rfl ?_
       refine AOps.step (Val.of hσ rfl rfl) rfl rfl rfl ?_
       refine AOps.nil ?_
       refine AWP.ret ?_
       refine ⟨.inl rfl, _, Ent.refl, _, rfl, ?_⟩
       unfold instrB inB; simp_all
      ·
       try simp only [List.length_map, beq_iff_eq, decide_eq_true_eq, decide_eq_false_iff_not, Bool.not_eq_true', Bool.not_eq_false', Bool.not_true, Bool.not_false, Int.not_lt, Int.not_le] at hc17
       refine AWP.seq ?_
       refine AWP.region ?_
       refine AOps.step (Val.of hσ rfl rfl) rfl rfl rfl ?_
       refine AOps.step (Val.of hσ rfl rfl) rfl rfl rfl ?_
       refine AOps.nil ?_
       refine AWP.cond hσ rfl rfl (fun hc23 => ?_) (fun hc23 => ?_)
       ·
        try simp only [List.length_map, beq_iff_eq, decide_eq_true_eq, decide_eq_false_iff_not, Bool.not_eq_true', Bool.not_eq_false', Bool.not_true, Bool.not_false, Int.not_lt, Int.not_le] at hc23
        refine AWP.seq ?_
        refine AWP.region ?_
        refine AOps.step (Val.of hσ rfl rfl) rfl rfl rfl ?_
        refine AOps.step (Val.of hσ rfl rfl) rfl rfl rfl ?_
        refine AOps.lone hσ rfl rfl rfl rfl (c84 h1 h2) (VAs.self rfl) rfl rfl rfl rfl rfl (B0 := 28000) rfl ?_
        refine AOps.step (Val.of hσ rfl rfl) rfl rfl rfl ?_
        refine AOps.nil ?_
        refine AWP.ret ?_
        refine ⟨.inl rfl, _, Ent.refl, _, rfl, ?_⟩
        unfold instrB inB; simp_all
       ·
        try simp only [List.length_map, beq_iff_eq, decide_eq_true_eq, decide_eq_false_iff_not, Bool.not_eq_true', Bool.not_eq_false', Bool.not_true, Bool.not_false, Int.not_lt, Int.not_le] at hc23
        refine AWP.seq ?_
        refine AWP.seq ?_
        refine AWP.region ?_
        refine AOps.step (Val.of hσ rfl rfl) rfl rfl rfl ?_
        refine AOps.step (Val.of hσ rfl rfl) rfl rfl rfl ?_
        refine AOps.nil ?_
        refine AWP.cond hσ rfl rfl (fun hc28 => ?_) (fun hc28 => ?_)
        ·
         try simp only [List.length_map, beq_iff_eq, decide_eq_true_eq, decide_eq_false_iff_not, Bool.not_eq_true', Bool.not_eq_false', Bool.not_true, Bool.not_false, Int.not_lt, Int.not_le] at hc28
         refine AWP.skip ?_
         refine AWP.cond hσ rfl rfl (fun hc28 => ?_) (fun hc28 => ?_)
         ·
          try simp only [List.length_map, beq_iff_eq, decide_eq_true_eq, decide_eq_false_iff_not, Bool.not_eq_true', Bool.not_eq_false', Bool.not_true, Bool.not_false, Int.not_lt, Int.not_le] at hc28
          refine AWP.seq ?_
          refine AWP.region ?_
          refine AOps.step (Val.of hσ rfl rfl) rfl rfl rfl ?_
          refine AOps.step (Val.of hσ rfl rfl) rfl rfl rfl ?_
          refine AOps.step (Val.of hσ rfl rfl) rfl rfl rfl ?_
          refine AOps.step (Val.of hσ rfl rfl) rfl rfl rfl ?_
          refine AOps.nil ?_
          refine AWP.ret ?_
          refine ⟨.inl rfl, _, Ent.refl, _, rfl, ?_⟩
          unfold instrB inB; simp_all
         ·
          try simp only [List.length_map, beq_iff_eq, decide_eq_true_eq, decide_eq_false_iff_not, Bool.not_eq_true', Bool.not_eq_false', Bool.not_true, Bool.not_false, Int.not_lt, Int.not_le] at hc28
          contradiction
        ·
         try simp only [List.length_map, beq_iff_eq, decide_eq_true_eq, decide_eq_false_iff_not, Bool.not_eq_true', Bool.not_eq_false', Bool.not_true, Bool.not_false, Int.not_lt, Int.not_le] at hc28
         refine AWP.seq ?_
         refine AWP.region ?_
         refine AOps.step (Val.of hσ rfl rfl) rfl rfl rfl ?_
         refine AOps.step (Val.of hσ rfl rfl) rfl rfl rfl ?_
         refine AOps.nil ?_
         refine AWP.cond hσ rfl rfl (fun hc28 => ?_) (fun hc28 => ?_)
         ·
          try simp only [List.length_map, beq_iff_eq, decide_eq_true_eq, decide_eq_false_iff_not, Bool.not_eq_true', Bool.not_eq_false', Bool.not_true, Bool.not_false, Int.not_lt, Int.not_le] at hc28
          refine AWP.skip ?_
          refine AWP.cond hσ rfl rfl (fun hc28 => ?_) (fun hc28 => ?_)
          ·
           try simp only [List.length_map, beq_iff_eq, decide_eq_true_eq, decide_eq_false_iff_not, Bool.not_eq_true', Bool.not_eq_false', Bool.not_true, Bool.not_false, Int.not_lt, Int.not_le] at hc28
           refine AWP.seq ?_
           refine AWP.region ?_
           refine AOps.step (Val.of hσ rfl rfl) rfl rfl rfl ?_
           refine AOps.step (Val.of hσ rfl rfl) rfl rfl rfl ?_
           refine AOps.step (Val.of hσ rfl rfl) rfl rfl rfl ?_
           refine AOps.step (Val.of hσ rfl rfl) rfl rfl rfl ?_
           refine AOps.nil ?_
           refine AWP.ret ?_
           refine ⟨.inl rfl, _, Ent.refl, _, rfl, ?_⟩
           unfold instrB inB; simp_all
          ·
           try simp only [List.length_map, beq_iff_eq, decide_eq_true_eq, decide_eq_false_iff_not, Bool.not_eq_true', Bool.not_eq_false', Bool.not_true, Bool.not_false, Int.not_lt, Int.not_le] at hc28
           contradiction
         ·
          try simp only [List.length_map, beq_iff_eq, decide_eq_true_eq, decide_eq_false_iff_not, Bool.not_eq_true', Bool.not_eq_false', Bool.not_true, Bool.not_false, Int.not_lt, Int.not_le] at hc28
          refine AWP.seq ?_
          refine AWP.region ?_
          refine AOps.step (Val.of hσ rfl rfl) rfl rfl rfl ?_
          refine AOps.step (Val.of hσ rfl rfl) rfl rfl rfl ?_
          refine AOps.nil ?_
          refine AWP.cond hσ rfl rfl (fun hc28 => ?_) (fun hc28 => ?_)
          ·
           try simp only [List.length_map, beq_iff_eq, decide_eq_true_eq, decide_eq_false_iff_not, Bool.not_eq_true', Bool.not_eq_false', Bool.not_true, Bool.not_false, Int.not_lt, Int.not_le] at hc28
           refine AWP.skip ?_
           refine AWP.cond hσ rfl rfl (fun hc28 => ?_) (fun hc28 => ?_)
           ·
            try simp only [List.length_map, beq_iff_eq, decide_eq_true_eq, decide_eq_false_iff_not, Bool.not_eq_true', Bool.not_eq_false', Bool.not_true, Bool.not_false, Int.not_lt, Int.not_le] at hc28
            refine AWP.seq ?_
            refine AWP.region ?_
            refine AOps.step (Val.of hσ rfl rfl) rfl rfl rfl ?_
            refine AOps.step (Val.of hσ rfl rfl) rfl rfl rfl ?_
            refine AOps.step (Val.of hσ rfl rfl) rfl rfl rfl ?_
            refine AOps.step (Val.of hσ rfl rfl) rfl rfl rfl ?_
            refine AOps.nil ?_
            refine AWP.ret ?_
            refine ⟨.inl rfl, _, Ent.refl, _, rfl, ?_⟩
            unfold instrB inB; simp_all
           ·
            try simp only [List.length_map, beq_iff_eq, decide_eq_true_eq, decide_eq_false_iff_not, Bool.not_eq_true', Bool.not_eq_false', Bool.not_true, Bool.not_false, Int.not_lt, Int.not_le] at hc28
            contradiction
          ·
           try simp only [List.length_map, beq_iff_eq, decide_eq_true_eq, decide_eq_false_iff_not, Bool.not_eq_true', Bool.not_eq_false', Bool.not_true, Bool.not_false, Int.not_lt, Int.not_le] at hc28
           refine AWP.seq ?_
           refine AWP.region ?_
           refine AOps.step (Val.of hσ rfl rfl) rfl rfl rfl ?_
           refine AOps.step (Val.of hσ rfl rfl) rfl rfl rfl ?_
           refine AOps.nil ?_
           refine AWP.cond hσ rfl rfl (fun hc28 => ?_) (fun hc28 => ?_)
           ·
            try simp only [List.length_map, beq_iff_eq, decide_eq_true_eq, decide_eq_false_iff_not, Bool.not_eq_true', Bool.not_eq_false', Bool.not_true, Bool.not_false, Int.not_lt, Int.not_le] at hc28
            refine AWP.skip ?_
            refine AWP.cond hσ rfl rfl (fun hc28 => ?_) (fun hc28 => ?_)
            ·
             try simp only [List.length_map, beq_iff_eq, decide_eq_true_eq, decide_eq_false_iff_not, Bool.not_eq_true', Bool.not_eq_false', Bool.not_true, Bool.not_false, Int.not_lt, Int.not_le] at hc28
             refine AWP.seq ?_
             refine AWP.region ?_
             refine AOps.step (Val.of hσ rfl rfl) rfl rfl rfl ?_
             refine AOps.step (Val.of hσ rfl rfl) rfl rfl rfl ?_
             refine AOps.step (Val.of hσ rfl rfl) rfl rfl rfl ?_
             refine AOps.step (Val.of hσ rfl rfl) rfl rfl rfl ?_
             refine AOps.nil ?_
             refine AWP.ret ?_
             refine ⟨.inl rfl, _, Ent.refl, _, rfl, ?_⟩
             unfold instrB inB; simp_all
            ·
             try simp only [List.length_map, beq_iff_eq, decide_eq_true_eq, decide_eq_false_iff_not, Bool.not_eq_true', Bool.not_eq_false', Bool.not_true, Bool.not_false, Int.not_lt, Int.not_le] at hc28
             contradiction
           ·
            try simp only [List.length_map, beq_iff_eq, decide_eq_true_eq, decide_eq_false_iff_not, Bool.not_eq_true', Bool.not_eq_false', Bool.not_true, Bool.not_false, Int.not_lt, Int.not_le] at hc28
            refine AWP.region ?_
            refine AOps.step (Val.of hσ rfl rfl) rfl rfl rfl ?_
            refine AOps.step (Val.of hσ rfl rfl) rfl rfl rfl ?_
            refine AOps.nil ?_
            refine AWP.cond hσ rfl rfl (fun hc28 => ?_) (fun hc28 => ?_)
            ·
             try simp only [List.length_map, beq_iff_eq, decide_eq_true_eq, decide_eq_false_iff_not, Bool.not_eq_true', Bool.not_eq_false', Bool.not_true, Bool.not_false, Int.not_lt, Int.not_le] at hc28
             refine AWP.seq ?_
             refine AWP.region ?_
             refine AOps.step (Val.of hσ rfl rfl) rfl rfl rfl ?_
             refine AOps.step (Val.of hσ rfl rfl) rfl rfl rfl ?_
             refine AOps.step (Val.of hσ rfl rfl) rfl rfl rfl ?_
             refine AOps.step (Val.of hσ rfl rfl) rfl rfl rfl ?_
             refine AOps.nil ?_
             refine AWP.ret ?_
             refine ⟨.inl rfl, _, Ent.refl, _, rfl, ?_⟩
             unfold instrB inB; simp_all
            ·
             try simp only [List.length_map, beq_iff_eq, decide_eq_true_eq, decide_eq_false_iff_not, Bool.not_eq_true', Bool.not_eq_false', Bool.not_true, Bool.not_false, Int.not_lt, Int.not_le] at hc28
             refine AWP.skip ?_
             refine AWP.seq ?_
             refine AWP.region ?_
             refine AOps.step (Val.of hσ rfl rfl) rfl rfl rfl ?_
             refine AOps.nil ?_
             refine AWP.ret ?_
             refine ⟨.inl rfl, _, Ent.refl, _, rfl, ?_⟩
             unfold instrB inB; simp_all
theorem c166 {L : Nat} (h1 : 4096 ≤ L) (h2 : L ≤ 1073741824) {x : In} : MC Try.prog L 64 [.agg (x.cells.map .d)] [] (Plain (eB (jmpB x))) := by
 refine MC.alone ?_ rfl
 have hσ := SGok (nt := 11) h1 (Nat.le_trans h2 (by decide))
 refine MC.body hσ Try.func64 (by kernel_rfl) rfl rfl (Nat.le_of_ble_eq_true rfl) (fun hF => ?_)
 refine AWP.seq ?_
 refine AWP.region ?_
 refine AOps.heap (HS.box hσ rfl rfl rfl rfl rfl rfl rfl) rfl ?_
 refine AOps.step (Val.of hσ rfl rfl) rfl rfl rfl ?_
 refine AOps.nil ?_
 refine AWP.seq ?_
 refine AWP.region ?_
 refine AOps.step (Val.of hσ rfl rfl) rfl rfl rfl ?_
 refine AOps.step (Val.of hσ rfl rfl) rfl rfl rfl ?_
 refine AOps.step (Val.of hσ rfl rfl) rfl rfl rfl ?_
 refine AOps.step (Val.of hσ rfl rfl) rfl rfl rfl ?_
 refine AOps.gr 3 rfl rfl rfl (fun hx => AN.step hx rfl rfl rfl (Val.of hσ rfl rfl) rfl rfl ( AN.step hx rfl rfl rfl (Val.of hσ rfl rfl) rfl rfl ( AN.step hx rfl rfl rfl (Val.of hσ rfl rfl) rfl rfl ( AN.nil)))) rfl rfl ?_
 first | refine AOps.step (Val.pickF hσ rfl rfl rfl rfl rfl) rfl rfl rfl ?_ | refine AOps.step (Val.pickB hσ rfl rfl rfl rfl rfl) rfl rfl rfl ?_ | refine AOps.step (Val.pickT hσ rfl rfl rfl rfl rfl) rfl rfl rfl ?_
 refine AOps.step (Val.of hσ rfl rfl) rfl rfl rfl ?_
 refine AOps.nil ?_
 refine AWP.ret ?_
 refine ⟨.inl rfl, _, Ent.refl, _, rfl, ?_⟩
 unfold jmpB; cases decide (x.op = 5) <;> rfl
theorem c117 {L : Nat} (h1 : 4096 ≤ L) (h2 : L ≤ 1073741824) {c : List In} : MC Try.prog L 33 [ains c] [] (Plain (eB (codeB c))) := by
 refine MC.alone ?_ rfl
 have hσ := SGok (nt := 19) h1 (Nat.le_trans h2 (by decide))
 refine MC.body hσ Try.func33 (by kernel_rfl) rfl rfl (Nat.le_of_ble_eq_true rfl) (fun hF => ?_)
 have hl : c.length ≤ L := by simpa [As.fact, A.fact, M.fact, D.fact, Ds.fact] using hF.1.1
 refine AWP.seq ?_
 refine AWP.region ?_
 refine AOps.step (Val.of hσ rfl rfl) rfl rfl rfl ?_
 refine AOps.nil ?_
 refine AWP.seq ?_
 refine AWP.seq ?_
 refine AWP.region ?_
 refine AOps.step (Val.of hσ rfl rfl) rfl rfl rfl ?_
 refine AOps.nil ?_
 refine AWP.block ?_
 refine AWP.loopP (X := Nat) (fun i => ⟨[(0, ains c), (3, eI i)], []⟩) (fun i => i ≤ c.length ∧ ∀ j (h : j < c.length), j < i → instrB c[j] = true) (fun i => c.length - i) 0 (Ent.env ⟨rfl, rfl, trivial⟩) ?_ (fun i hi => ?_)
 ·
  exact ⟨Nat.zero_le _, fun j h hj => absurd hj (Nat.not_lt_zero j)⟩
 refine AWP.seq ?_
 refine AWP.seq ?_
 refine AWP.region ?_
 refine AOps.step (Val.of hσ rfl rfl) rfl rfl rfl ?_
 refine AOps.step (Val.of hσ rfl rfl) rfl rfl rfl ?_
 first | refine AOps.step (Val.lenD hσ rfl rfl rfl rfl rfl rfl rfl rfl) rfl rfl rfl ?_ | refine AOps.step (Val.of hσ rfl rfl) rfl rfl rfl ?_ | refine AOps.step (Val.vif hσ rfl rfl (by first | omega | (simp at *; omega))) rfl rfl rfl ?_
 refine AOps.step (Val.of hσ rfl rfl) rfl rfl rfl ?_
 refine AOps.nil ?_
 refine AWP.cond hσ rfl rfl (fun hc7 => ?_) (fun hc7 => ?_)
 ·
  try simp only [List.length_map, beq_iff_eq, decide_eq_true_eq, decide_eq_false_iff_not, Bool.not_eq_true', Bool.not_eq_false', Bool.not_true, Bool.not_false, Int.not_lt, Int.not_le] at hc7
  refine AWP.skip ?_
  refine AWP.seq ?_
  refine AWP.block ?_
  refine AWP.seq ?_
  refine AWP.region ?_
  refine AOps.step (Val.of hσ rfl rfl) rfl rfl rfl ?_
  refine AOps.step (Val.of hσ rfl rfl) rfl rfl rfl ?_
  first | refine AOps.step (Val.indexD hσ rfl rfl rfl rfl rfl rfl rfl rfl (by first | omega | (simp at *; omega)) (idx_get (by first | omega | (simp at *; omega)) (by first | omega | (simp at *; omega)))) rfl rfl rfl ?_ | refine AOps.step (Val.vif hσ rfl rfl (by first | omega | (simp at *; omega))) rfl rfl rfl ?_
  refine AOps.step (Val.of hσ rfl rfl) rfl rfl rfl ?_
  refine AOps.lone hσ rfl rfl rfl rfl (c163 h1 h2) (VAs.self rfl) rfl rfl rfl rfl rfl (B0 := 15000) rfl ?_
  refine AOps.step (Val.of hσ rfl rfl) rfl rfl rfl ?_
  refine AOps.nil ?_
  refine AWP.cond hσ rfl rfl (fun hc15 => ?_) (fun hc15 => ?_)
  ·
   try simp only [List.length_map, beq_iff_eq, decide_eq_true_eq, decide_eq_false_iff_not, Bool.not_eq_true', Bool.not_eq_false', Bool.not_true, Bool.not_false, Int.not_lt, Int.not_le] at hc15
   refine AWP.seq ?_
   refine AWP.region ?_
   refine AOps.step (Val.of hσ rfl rfl) rfl rfl rfl ?_
   refine AOps.nil ?_
   refine AWP.ret ?_
   refine ⟨.inl rfl, _, Ent.refl, _, rfl, ?_⟩
   rw [Int.toNat_natCast, getD_lt (by omega)] at hc15
   rw [codeB, all_not i (by omega) hc15, Bool.false_and]
  ·
   try simp only [List.length_map, beq_iff_eq, decide_eq_true_eq, decide_eq_false_iff_not, Bool.not_eq_true', Bool.not_eq_false', Bool.not_true, Bool.not_false, Int.not_lt, Int.not_le] at hc15
   refine AWP.skip ?_
   refine AWP.region ?_
   refine AOps.step (Val.of hσ rfl rfl) rfl rfl rfl ?_
   first | refine AOps.step (Val.fits64 hσ rfl rfl (by first | omega | (simp at *; omega)) (by first | omega | (simp at *; omega))) rfl rfl rfl ?_ | refine AOps.step (Val.vif hσ rfl rfl (by first | omega | (simp at *; omega))) rfl rfl rfl ?_
   refine AOps.step (Val.of hσ rfl rfl) rfl rfl rfl ?_
   refine AOps.nil ?_
   refine ⟨i + 1, Ent.env ⟨rfl, rfl, trivial⟩, ⟨by omega, fun j h hj => ?_⟩, by omega⟩
   by_cases e : j = i
   ·
    subst e; rw [Int.toNat_natCast, getD_lt h] at hc15; exact hc15
   ·
    exact hi.2 j h (by omega)
 ·
  try simp only [List.length_map, beq_iff_eq, decide_eq_true_eq, decide_eq_false_iff_not, Bool.not_eq_true', Bool.not_eq_false', Bool.not_true, Bool.not_false, Int.not_lt, Int.not_le] at hc7
  refine AWP.exit ?_
  refine AWP.seq ?_
  refine AWP.region ?_
  refine AOps.step (Val.of hσ rfl rfl) rfl rfl rfl ?_
  first | refine AOps.step (Val.lenD hσ rfl rfl rfl rfl rfl rfl rfl rfl) rfl rfl rfl ?_ | refine AOps.step (Val.of hσ rfl rfl) rfl rfl rfl ?_ | refine AOps.step (Val.vif hσ rfl rfl (by first | omega | (simp at *; omega))) rfl rfl rfl ?_
  refine AOps.lone hσ rfl rfl rfl rfl (c84 h1 h2) (VAs.self rfl) rfl rfl rfl rfl rfl (B0 := 19000) rfl ?_
  refine AOps.step (Val.of hσ rfl rfl) rfl rfl rfl ?_
  refine AOps.nil ?_
  refine AWP.ret ?_
  refine ⟨.inl rfl, _, Ent.refl, _, rfl, ?_⟩
  rw [codeB, all_of (fun j hj => hi.2 j hj (by omega)), Bool.true_and]
  rfl
theorem c118 {L : Nat} (h1 : 4096 ≤ L) (h2 : L ≤ 1073741824) {ts : List Tm} : MC Try.prog L 34 [atms ts] [] (Plain (eB (terms ts 6))) := by
 refine MC.alone ?_ rfl
 have hσ := SGok (nt := 27) h1 (Nat.le_trans h2 (by decide))
 refine MC.body hσ Try.func34 (by kernel_rfl) rfl rfl (Nat.le_of_ble_eq_true rfl) (fun hF => ?_)
 have hl : ts.length ≤ L := by simpa [As.fact, A.fact, M.fact, D.fact, Ds.fact] using hF.1.1
 refine AWP.seq ?_
 refine AWP.region ?_
 refine AOps.step (Val.of hσ rfl rfl) rfl rfl rfl ?_
 refine AOps.nil ?_
 refine AWP.seq ?_
 refine AWP.seq ?_
 refine AWP.region ?_
 refine AOps.step (Val.of hσ rfl rfl) rfl rfl rfl ?_
 refine AOps.nil ?_
 refine AWP.block ?_
 refine AWP.loopP (X := Nat) (fun i => ⟨[(0, atms ts), (3, eI i)], []⟩) (fun i => i ≤ ts.length ∧ ∀ j (h : j < ts.length), j < i → Tm.term ts[j] = true) (fun i => ts.length - i) 0 (Ent.env ⟨rfl, rfl, trivial⟩) ?_ (fun i hi => ?_)
 ·
  exact ⟨Nat.zero_le _, fun j h hj => absurd hj (Nat.not_lt_zero j)⟩
 refine AWP.seq ?_
 refine AWP.seq ?_
 refine AWP.region ?_
 refine AOps.step (Val.of hσ rfl rfl) rfl rfl rfl ?_
 refine AOps.step (Val.of hσ rfl rfl) rfl rfl rfl ?_
 first | refine AOps.step (Val.lenD hσ rfl rfl rfl rfl rfl rfl rfl rfl) rfl rfl rfl ?_ | refine AOps.step (Val.of hσ rfl rfl) rfl rfl rfl ?_ | refine AOps.step (Val.vif hσ rfl rfl (by first | omega | (simp at *; omega))) rfl rfl rfl ?_
 refine AOps.step (Val.of hσ rfl rfl) rfl rfl rfl ?_
 refine AOps.forget [(7, _), (0, _), (3, _)] ⟨rfl, rfl, rfl, trivial⟩ ?_
 refine AOps.nil ?_
 refine AWP.cond hσ rfl rfl (fun hc7 => ?_) (fun hc7 => ?_)
 ·
  skip
  refine AWP.skip ?_
  refine AWP.seq ?_
  refine AWP.block ?_
  refine AWP.seq ?_
  refine AWP.region ?_
  have hil : i < ts.length := by have := of_decide_eq_true hc7; omega
  refine AOps.step (Val.of hσ rfl rfl) rfl rfl rfl ?_
  refine AOps.step (Val.of hσ rfl rfl) rfl rfl rfl ?_
  first | refine AOps.step (Val.indexN hσ rfl rfl rfl rfl rfl rfl rfl rfl (idxN (by first | omega | (simp at *; omega)))) rfl rfl rfl ?_ | refine AOps.step (Val.indexD hσ rfl rfl rfl rfl rfl rfl rfl rfl (by first | omega | (simp at *; omega)) (idx_get (by first | omega | (simp at *; omega)) (by first | omega | (simp at *; omega)))) rfl rfl rfl ?_ | refine AOps.step (Val.vif hσ rfl rfl (by first | omega | (simp at *; omega))) rfl rfl rfl ?_
  refine AOps.forget [(12, _), (7, _), (0, _), (3, _)] ⟨rfl, rfl, rfl, rfl, trivial⟩ ?_
  refine AOps.lone hσ rfl rfl rfl rfl (c136 (t := ts.getD i default) h1 h2) (VAs.self rfl) rfl rfl rfl rfl rfl (B0 := 14000) rfl ?_
  refine AOps.step (Val.of hσ rfl rfl) rfl rfl rfl ?_
  refine AOps.step (Val.of hσ rfl rfl) rfl rfl rfl ?_
  refine AOps.forget [(15, _), (7, _), (0, _), (3, _)] ⟨rfl, rfl, rfl, rfl, trivial⟩ ?_
  refine AOps.gr 7 rfl rfl rfl (fun hx => AN.step hx rfl rfl rfl (Val.of hσ rfl rfl) rfl rfl ( AN.step hx rfl rfl rfl (Val.of hσ rfl rfl) rfl rfl ( AN.step hx rfl rfl rfl (Val.indexN hσ rfl rfl rfl rfl rfl rfl rfl rfl (idxN (by first | omega | (simp at *; omega)))) rfl rfl ( AN.step hx rfl rfl rfl (Val.of hσ rfl rfl) rfl rfl ( AN.step hx rfl rfl rfl (Val.of hσ rfl rfl) rfl rfl ( AN.step hx rfl rfl rfl (Val.lenD hσ rfl rfl rfl rfl rfl rfl rfl rfl) rfl rfl ( AN.step hx rfl rfl rfl (Val.of hσ rfl rfl) rfl rfl ( AN.nil)))))))) rfl rfl ?_
  first | refine AOps.step (Val.pickF hσ rfl rfl rfl rfl rfl) rfl rfl rfl ?_ | refine AOps.step (Val.pickB hσ rfl rfl rfl rfl rfl) rfl rfl rfl ?_ | refine AOps.step (Val.pickT hσ rfl rfl rfl rfl rfl) rfl rfl rfl ?_
  refine AOps.forget [(23, _), (7, _), (0, _), (3, _)] ⟨rfl, rfl, rfl, rfl, trivial⟩ ?_
  refine AOps.nil ?_
  refine AWP.cond hσ rfl rfl (fun hc23 => ?_) (fun hc23 => ?_)
  ·
   skip
   refine AWP.seq ?_
   refine AWP.region ?_
   refine AOps.step (Val.of hσ rfl rfl) rfl rfl rfl ?_
   refine AOps.nil ?_
   refine AWP.ret ?_
   refine ⟨.inl rfl, _, Ent.refl, _, rfl, ?_⟩
   have h9 := notF ((nterm _).symm.trans hc23)
   rw [getD_lt hil] at h9
   rw [terms, all_not i hil h9, Bool.false_and]
  ·
   skip
   refine AWP.skip ?_
   refine AWP.region ?_
   refine AOps.step (Val.of hσ rfl rfl) rfl rfl rfl ?_
   first | refine AOps.step (Val.fits64 hσ rfl rfl (by first | omega | (simp at *; omega)) (by first | omega | (simp at *; omega))) rfl rfl rfl ?_ | refine AOps.step (Val.vif hσ rfl rfl (by first | omega | (simp at *; omega))) rfl rfl rfl ?_
   refine AOps.step (Val.of hσ rfl rfl) rfl rfl rfl ?_
   refine AOps.forget [(3, _), (23, _), (7, _), (0, _)] ⟨rfl, rfl, rfl, rfl, trivial⟩ ?_
   refine AOps.nil ?_
   refine ⟨i + 1, Ent.env ⟨rfl, rfl, trivial⟩, ⟨by omega, fun j h hj => ?_⟩, by omega⟩
   by_cases e : j = i
   ·
    subst e; rw [← getD_lt h]; exact notT ((nterm _).symm.trans hc23)
   ·
    exact hi.2 j h (by omega)
 ·
  skip
  refine AWP.exit ?_
  refine AWP.seq ?_
  refine AWP.region ?_
  refine AOps.step (Val.of hσ rfl rfl) rfl rfl rfl ?_
  first | refine AOps.step (Val.lenD hσ rfl rfl rfl rfl rfl rfl rfl rfl) rfl rfl rfl ?_ | refine AOps.step (Val.of hσ rfl rfl) rfl rfl rfl ?_ | refine AOps.step (Val.vif hσ rfl rfl (by first | omega | (simp at *; omega))) rfl rfl rfl ?_
  refine AOps.step (Val.of hσ rfl rfl) rfl rfl rfl ?_
  refine AOps.step (Val.of hσ rfl rfl) rfl rfl rfl ?_
  refine AOps.forget [(2, _), (7, _), (0, _), (3, _)] ⟨rfl, rfl, rfl, rfl, trivial⟩ ?_
  refine AOps.nil ?_
  refine AWP.ret ?_
  refine ⟨.inl rfl, _, Ent.refl, _, rfl, ?_⟩
  have h9 := of_decide_eq_false hc7
  rw [terms, all_of (fun j hj => hi.2 j hj (by omega)), Bool.true_and]
theorem c207 {L : Nat} (h1 : 4096 ≤ L) (h2 : L ≤ 1073741824) {a : An} {k : Int} : MC Try.prog L 91 [ptr a.data, eI k] [] (Plain (eB (ptAt a.pts k))) := by
 refine MC.alone ?_ rfl
 have hσ := SGok (nt := 25) h1 (Nat.le_trans h2 (by decide))
 refine MC.body hσ Try.func91 (by kernel_rfl) rfl rfl (Nat.le_of_ble_eq_true rfl) (fun hF => ?_)
 have hlp : a.pts.length ≤ L := by simpa [As.fact, A.fact, M.fact, D.fact, Ds.fact] using hF.1.2.2.2.1.1
 refine AWP.seq ?_
 refine AWP.region ?_
 refine AOps.step (Val.of hσ rfl rfl) rfl rfl rfl ?_
 refine AOps.nil ?_
 refine AWP.seq ?_
 refine AWP.seq ?_
 refine AWP.region ?_
 refine AOps.step (Val.of hσ rfl rfl) rfl rfl rfl ?_
 refine AOps.nil ?_
 refine AWP.block ?_
 refine AWP.loopP (X := Nat) (fun i => ⟨[(0, ptr a.data), (1, eI k), (5, eI i)], []⟩) (fun i => i ≤ a.pts.length ∧ ∀ j (h : j < a.pts.length), j < i → (fun p : Pt => decide (p.k = k)) a.pts[j] = false) (fun i => a.pts.length - i) 0 (Ent.env ⟨rfl, rfl, rfl, trivial⟩) ?_ (fun i hi => ?_)
 ·
  exact ⟨Nat.zero_le _, fun j h hj => absurd hj (Nat.not_lt_zero j)⟩
 refine AWP.seq ?_
 refine AWP.seq ?_
 refine AWP.region ?_
 refine AOps.step (Val.of hσ rfl rfl) rfl rfl rfl ?_
 refine AOps.step (Val.of hσ rfl rfl) rfl rfl rfl ?_
 refine AOps.step (Val.of hσ rfl rfl) rfl rfl rfl ?_
 refine AOps.step (Val.of hσ rfl rfl) rfl rfl rfl ?_
 refine AOps.step (Val.of hσ rfl rfl) rfl rfl rfl ?_
 first | refine AOps.step (Val.lenD hσ rfl rfl rfl rfl rfl rfl rfl rfl) rfl rfl rfl ?_ | refine AOps.step (Val.of hσ rfl rfl) rfl rfl rfl ?_ | refine AOps.step (Val.vif hσ rfl rfl (by first | omega | (simp at *; omega))) rfl rfl rfl ?_
 refine AOps.step (Val.of hσ rfl rfl) rfl rfl rfl ?_
 refine AOps.forget [(12, _), (0, _), (1, _), (5, _)] ⟨rfl, rfl, rfl, rfl, trivial⟩ ?_
 refine AOps.nil ?_
 refine AWP.cond hσ rfl rfl (fun hc12 => ?_) (fun hc12 => ?_)
 ·
  skip
  refine AWP.skip ?_
  refine AWP.seq ?_
  refine AWP.block ?_
  refine AWP.seq ?_
  refine AWP.region ?_
  have hil : i < a.pts.length := by have := of_decide_eq_true hc12; omega
  refine AOps.step (Val.of hσ rfl rfl) rfl rfl rfl ?_
  refine AOps.step (Val.of hσ rfl rfl) rfl rfl rfl ?_
  refine AOps.step (Val.of hσ rfl rfl) rfl rfl rfl ?_
  refine AOps.step (Val.of hσ rfl rfl) rfl rfl rfl ?_
  refine AOps.step (Val.of hσ rfl rfl) rfl rfl rfl ?_
  first | refine AOps.step (Val.indexN hσ rfl rfl rfl rfl rfl rfl rfl rfl (idxN (by first | omega | (simp at *; omega)))) rfl rfl rfl ?_ | refine AOps.step (Val.indexD hσ rfl rfl rfl rfl rfl rfl rfl rfl (by first | omega | (simp at *; omega)) (idx_get (by first | omega | (simp at *; omega)) (by first | omega | (simp at *; omega)))) rfl rfl rfl ?_ | refine AOps.step (Val.vif hσ rfl rfl (by first | omega | (simp at *; omega))) rfl rfl rfl ?_
  refine AOps.step (Val.of hσ rfl rfl) rfl rfl rfl ?_
  refine AOps.step (Val.of hσ rfl rfl) rfl rfl rfl ?_
  refine AOps.step (Val.of hσ rfl rfl) rfl rfl rfl ?_
  refine AOps.step (Val.of hσ rfl rfl) rfl rfl rfl ?_
  refine AOps.forget [(24, _), (12, _), (0, _), (1, _), (5, _)] ⟨rfl, rfl, rfl, rfl, rfl, trivial⟩ ?_
  refine AOps.nil ?_
  refine AWP.cond hσ rfl rfl (fun hc24 => ?_) (fun hc24 => ?_)
  ·
   skip
   refine AWP.seq ?_
   refine AWP.region ?_
   refine AOps.step (Val.of hσ rfl rfl) rfl rfl rfl ?_
   refine AOps.nil ?_
   refine AWP.ret ?_
   refine ⟨.inl rfl, _, Ent.refl, _, rfl, ?_⟩
   rw [show ptAt a.pts k = true from any_yes i hil (by rw [← getD_lt hil]; exact hc24)]
  ·
   skip
   refine AWP.skip ?_
   refine AWP.region ?_
   refine AOps.step (Val.of hσ rfl rfl) rfl rfl rfl ?_
   first | refine AOps.step (Val.fits64 hσ rfl rfl (by first | omega | (simp at *; omega)) (by first | omega | (simp at *; omega))) rfl rfl rfl ?_ | refine AOps.step (Val.vif hσ rfl rfl (by first | omega | (simp at *; omega))) rfl rfl rfl ?_
   refine AOps.step (Val.of hσ rfl rfl) rfl rfl rfl ?_
   refine AOps.forget [(5, _), (24, _), (12, _), (0, _), (1, _)] ⟨rfl, rfl, rfl, rfl, rfl, trivial⟩ ?_
   refine AOps.nil ?_
   refine ⟨i + 1, Ent.env ⟨rfl, rfl, rfl, trivial⟩, ⟨by omega, fun j h hj => ?_⟩, by omega⟩
   by_cases e : j = i
   ·
    subst e; rw [← getD_lt h]; exact hc24
   ·
    exact hi.2 j h (by omega)
 ·
  skip
  refine AWP.exit ?_
  refine AWP.seq ?_
  refine AWP.region ?_
  refine AOps.step (Val.of hσ rfl rfl) rfl rfl rfl ?_
  refine AOps.nil ?_
  refine AWP.ret ?_
  refine ⟨.inl rfl, _, Ent.refl, _, rfl, ?_⟩
  have h9 := of_decide_eq_false hc12
  rw [show ptAt a.pts k = false from any_no fun j hj => hi.2 j hj (by omega)]
theorem c192 {L : Nat} (h1 : 4096 ≤ L) (h2 : L ≤ 1073741824) {a : An} {k : Int} : MC Try.prog L 83 [ptr a.data, eI k] [] (Plain (eB (plB a.code a.pts k))) := by
 refine MC.alone ?_ rfl
 have hσ := SGok (nt := 38) h1 (Nat.le_trans h2 (by decide))
 refine MC.body hσ Try.func83 (by kernel_rfl) rfl rfl (Nat.le_of_ble_eq_true rfl) (fun hF => ?_)
 have hl : a.code.length ≤ L := by simpa [As.fact, A.fact, M.fact, D.fact, Ds.fact] using hF.1.2.2.1.1
 refine AWP.seq ?_
 refine AWP.region ?_
 refine AOps.step (Val.of hσ rfl rfl) rfl rfl rfl ?_
 refine AOps.nil ?_
 refine AWP.seq ?_
 refine AWP.seq ?_
 refine AWP.region ?_
 refine AOps.step (Val.of hσ rfl rfl) rfl rfl rfl ?_
 refine AOps.nil ?_
 refine AWP.block ?_
 refine AWP.loopP (X := Nat) (fun i => ⟨[(0, ptr a.data), (1, eI k), (5, eI i)], []⟩) (fun i => i ≤ a.code.length ∧ ∀ j (h : j < a.code.length), j < i → (fun x : In => jmpB x && decide (x.a = k)) a.code[j] = false) (fun i => a.code.length - i) 0 (Ent.env ⟨rfl, rfl, rfl, trivial⟩) ?_ (fun i hi => ?_)
 ·
  exact ⟨Nat.zero_le _, fun j h hj => absurd hj (Nat.not_lt_zero j)⟩
 refine AWP.seq ?_
 refine AWP.seq ?_
 refine AWP.region ?_
 refine AOps.step (Val.of hσ rfl rfl) rfl rfl rfl ?_
 refine AOps.step (Val.of hσ rfl rfl) rfl rfl rfl ?_
 refine AOps.step (Val.of hσ rfl rfl) rfl rfl rfl ?_
 refine AOps.step (Val.of hσ rfl rfl) rfl rfl rfl ?_
 refine AOps.step (Val.of hσ rfl rfl) rfl rfl rfl ?_
 first | refine AOps.step (Val.lenD hσ rfl rfl rfl rfl rfl rfl rfl rfl) rfl rfl rfl ?_ | refine AOps.step (Val.of hσ rfl rfl) rfl rfl rfl ?_ | refine AOps.step (Val.vif hσ rfl rfl (by first | omega | (simp at *; omega))) rfl rfl rfl ?_
 refine AOps.step (Val.of hσ rfl rfl) rfl rfl rfl ?_
 refine AOps.forget [(12, _), (0, _), (1, _), (5, _)] ⟨rfl, rfl, rfl, rfl, trivial⟩ ?_
 refine AOps.nil ?_
 refine AWP.cond hσ rfl rfl (fun hc12 => ?_) (fun hc12 => ?_)
 ·
  skip
  refine AWP.skip ?_
  refine AWP.seq ?_
  refine AWP.block ?_
  refine AWP.seq ?_
  refine AWP.region ?_
  have hil : i < a.code.length := by have := of_decide_eq_true hc12; omega
  refine AOps.step (Val.of hσ rfl rfl) rfl rfl rfl ?_
  refine AOps.step (Val.of hσ rfl rfl) rfl rfl rfl ?_
  refine AOps.step (Val.of hσ rfl rfl) rfl rfl rfl ?_
  refine AOps.step (Val.of hσ rfl rfl) rfl rfl rfl ?_
  refine AOps.step (Val.of hσ rfl rfl) rfl rfl rfl ?_
  first | refine AOps.step (Val.indexN hσ rfl rfl rfl rfl rfl rfl rfl rfl (idxN (by first | omega | (simp at *; omega)))) rfl rfl rfl ?_ | refine AOps.step (Val.indexD hσ rfl rfl rfl rfl rfl rfl rfl rfl (by first | omega | (simp at *; omega)) (idx_get (by first | omega | (simp at *; omega)) (by first | omega | (simp at *; omega)))) rfl rfl rfl ?_ | refine AOps.step (Val.vif hσ rfl rfl (by first | omega | (simp at *; omega))) rfl rfl rfl ?_
  refine AOps.step (Val.of hσ rfl rfl) rfl rfl rfl ?_
  refine AOps.reset [(21, _), (12, _), (0, _), (1, _), (5, _)] [] ⟨rfl, rfl, rfl, rfl, rfl, trivial⟩ rfl ?_
  refine AOps.lone hσ rfl rfl rfl rfl (c166 (x := a.code.getD i default) h1 h2) (VAs.self rfl) rfl rfl rfl rfl rfl (B0 := 23000) rfl ?_
  refine AOps.step (Val.of hσ rfl rfl) rfl rfl rfl ?_
  refine AOps.reset [(23, _), (12, _), (0, _), (1, _), (5, _)] [] ⟨rfl, rfl, rfl, rfl, rfl, trivial⟩ rfl ?_
  refine AOps.gr 10 rfl rfl rfl (fun hx => AN.step hx rfl rfl rfl (Val.of hσ rfl rfl) rfl rfl ( AN.step hx rfl rfl rfl (Val.of hσ rfl rfl) rfl rfl ( AN.step hx rfl rfl rfl (Val.of hσ rfl rfl) rfl rfl ( AN.step hx rfl rfl rfl (Val.of hσ rfl rfl) rfl rfl ( AN.step hx rfl rfl rfl (Val.of hσ rfl rfl) rfl rfl ( AN.step hx rfl rfl rfl (Val.indexN hσ rfl rfl rfl rfl rfl rfl rfl rfl (idxN (by first | omega | (simp at *; omega)))) rfl rfl ( AN.step hx rfl rfl rfl (Val.of hσ rfl rfl) rfl rfl ( AN.step hx rfl rfl rfl (Val.of hσ rfl rfl) rfl rfl ( AN.step hx rfl rfl rfl (Val.of hσ rfl rfl) rfl rfl ( AN.step hx rfl rfl rfl (Val.of hσ rfl rfl) rfl rfl ( AN.nil))))))))))) rfl rfl ?_
  first | refine AOps.step (Val.pickT hσ rfl rfl rfl rfl rfl) rfl rfl rfl ?_ | refine AOps.step (Val.pickF hσ rfl rfl rfl rfl rfl) rfl rfl rfl ?_ | refine AOps.step (Val.pickB hσ rfl rfl rfl rfl rfl) rfl rfl rfl ?_
  refine AOps.forget [(34, _), (12, _), (0, _), (1, _), (5, _)] ⟨rfl, rfl, rfl, rfl, rfl, trivial⟩ ?_
  refine AOps.nil ?_
  refine AWP.cond hσ rfl rfl (fun hc34 => ?_) (fun hc34 => ?_)
  ·
   skip
   refine AWP.seq ?_
   refine AWP.region ?_
   refine AOps.step (Val.of hσ rfl rfl) rfl rfl rfl ?_
   refine AOps.nil ?_
   refine AWP.ret ?_
   refine ⟨.inl rfl, _, Ent.refl, _, rfl, ?_⟩
   obtain ⟨h7, h8⟩ := andT hc34
   have h9 : jmpTo a.code k = true := any_yes i hil (by rw [← getD_lt hil, h7, h8]; rfl)
   rw [show plB a.code a.pts k = true by rw [plB, h9, Bool.true_or]]
  ·
   skip
   refine AWP.skip ?_
   refine AWP.region ?_
   refine AOps.step (Val.of hσ rfl rfl) rfl rfl rfl ?_
   first | refine AOps.step (Val.fits64 hσ rfl rfl (by first | omega | (simp at *; omega)) (by first | omega | (simp at *; omega))) rfl rfl rfl ?_ | refine AOps.step (Val.vif hσ rfl rfl (by first | omega | (simp at *; omega))) rfl rfl rfl ?_
   refine AOps.step (Val.of hσ rfl rfl) rfl rfl rfl ?_
   refine AOps.forget [(5, _), (34, _), (12, _), (0, _), (1, _)] ⟨rfl, rfl, rfl, rfl, rfl, trivial⟩ ?_
   refine AOps.nil ?_
   refine ⟨i + 1, Ent.env ⟨rfl, rfl, rfl, trivial⟩, ⟨by omega, fun j h hj => ?_⟩, by omega⟩
   by_cases e : j = i
   ·
    subst e; rw [← getD_lt h]; exact (andF hc34)
   ·
    exact hi.2 j h (by omega)
 ·
  skip
  refine AWP.exit ?_
  refine AWP.seq ?_
  refine AWP.region ?_
  refine AOps.step (Val.of hσ rfl rfl) rfl rfl rfl ?_
  refine AOps.step (Val.of hσ rfl rfl) rfl rfl rfl ?_
  refine AOps.lone hσ rfl rfl rfl rfl (c207 (a := a) (k := k) h1 h2) (VAs.self rfl) rfl rfl rfl rfl rfl (B0 := 38000) rfl ?_
  refine AOps.step (Val.of hσ rfl rfl) rfl rfl rfl ?_
  refine AOps.forget [(4, _), (12, _), (0, _), (1, _), (5, _)] ⟨rfl, rfl, rfl, rfl, rfl, trivial⟩ ?_
  refine AOps.nil ?_
  refine AWP.ret ?_
  refine ⟨.inl rfl, _, Ent.refl, _, rfl, ?_⟩
  have h9 := of_decide_eq_false hc12
  rw [show plB a.code a.pts k = ptAt a.pts k by rw [plB, show jmpTo a.code k = false from any_no fun j hj => hi.2 j hj (by omega), Bool.false_or]]
end Go.Al
