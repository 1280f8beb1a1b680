/- Rows, stages, cuts and proofs; the first functions of the reference's prover. -/
import Derived.Test.YtegcggeaempllaaGreatJ
namespace Go.Al
open Go.Proofs
set_option linter.unusedVariables false
set_option linter.unusedSimpArgs false
/-! ### The prover: rows, stages, cuts, proofs -/
structure Rw where
  c : Int
  xs : List Int
  ms : List Int
  deriving Inhabited
abbrev Rw.cells (r : Rw) : List D := [.int .i64 r.c, ints r.xs, ints r.ms]
abbrev Rw.tm (r : Rw) : Tm := ⟨r.c, trim r.xs⟩
abbrev Rw.comb (r : Rw) : List D := [.int .i64 r.c, ints (trim r.xs), ints r.ms]
def padTo (xs : List Int) (i : Nat) : List Int := (List.range i).map fun k => xs.getD k 0
abbrev pad (xs : List Int) : List Int := padTo xs 10
theorem padTo_length {xs : List Int} {i : Nat} : (padTo xs i).length = i := by simp [padTo]
theorem padTo_succ {xs : List Int} {i : Nat} : padTo xs (i + 1) = padTo xs i ++ [xs.getD i 0] := by simp [padTo, List.range_succ]
def unitL (n i : Nat) : List Int := (List.replicate n (0 : Int)).set i 1
theorem unitL_length {n i : Nat} : (unitL n i).length = n := by simp [unitL]
abbrev row0 (ts : List Tm) (i : Nat) : Rw := ⟨(ts.getD i default).c, pad (ts.getD i default).xs, unitL ts.length i⟩
def rowsTo (ts : List Tm) (i : Nat) : List Rw := (List.range i).map (row0 ts)
theorem rowsTo_length {ts : List Tm} {i : Nat} : (rowsTo ts i).length = i := by simp [rowsTo]
theorem rowsTo_succ {ts : List Tm} {i : Nat} : rowsTo ts (i + 1) = rowsTo ts i ++ [row0 ts i] := by simp [rowsTo, List.range_succ]
abbrev rows0 (ts : List Tm) : List Rw := rowsTo ts ts.length
/-! trim -/
theorem dropW_app : ∀ {ys : List Int}, ∃ z : Nat, ys.reverse = (ys.dropWhile (· == 0)).reverse ++ List.replicate z 0
  | [] => ⟨0, rfl⟩
  | y :: ys => by
    by_cases h : y = 0
    · subst h
      obtain ⟨z, hz⟩ := dropW_app (ys := ys)
      refine ⟨z + 1, ?_⟩
      rw [List.reverse_cons, hz, List.replicate_succ', List.append_assoc]
      rfl
    · refine ⟨0, ?_⟩
      rw [List.dropWhile_cons_of_neg (by simpa using h)]
      simp
theorem trim_app (xs : List Int) : ∃ z : Nat, xs = trim xs ++ List.replicate z 0 := by
  obtain ⟨z, hz⟩ := dropW_app (ys := xs.reverse)
  rw [List.reverse_reverse] at hz
  exact ⟨z, hz⟩
theorem trim_getD (xs : List Int) (k : Nat) : (trim xs).getD k 0 = xs.getD k 0 := by
  obtain ⟨z, hz⟩ := trim_app xs
  conv => rhs; rw [hz]
  rw [List.getD_eq_getElem?_getD, List.getD_eq_getElem?_getD, List.getElem?_append]
  split
  · rfl
  · rename_i h
    rw [List.getElem?_eq_none (by omega), List.getElem?_replicate]
    split <;> rfl
theorem trim_length (xs : List Int) : (trim xs).length ≤ xs.length := by
  obtain ⟨z, hz⟩ := trim_app xs
  have := congrArg List.length hz
  rw [List.length_append] at this
  omega
theorem trim_all {p : Int → Bool} (h0 : p 0 = true) (xs : List Int) : (trim xs).all p = xs.all p := by
  obtain ⟨z, hz⟩ := trim_app xs
  conv => rhs; rw [hz]
  rw [List.all_append]
  have : (List.replicate z (0 : Int)).all p = true := by
    rw [List.all_eq_true]; intro x hx
    rw [List.eq_of_mem_replicate hx]; exact h0
  rw [this, Bool.and_true]
theorem dropW_map {f : Int → Int} : ∀ {ys : List Int}, (∀ y ∈ ys, f y = 0 ↔ y = 0) → (ys.map f).dropWhile (· == 0) = (ys.dropWhile (· == 0)).map f
  | [], _ => rfl
  | y :: ys, h => by
    by_cases h0 : y = 0
    · have hf : f y = 0 := (h y (by simp)).2 h0
      rw [List.map_cons, List.dropWhile_cons_of_pos (by simpa using hf), List.dropWhile_cons_of_pos (by simpa using h0)]
      exact dropW_map fun z hz => h z (by simp [hz])
    · have hf : f y ≠ 0 := fun e => h0 ((h y (by simp)).1 e)
      rw [List.map_cons, List.dropWhile_cons_of_neg (by simpa using hf), List.dropWhile_cons_of_neg (by simpa using h0), List.map_cons]
theorem trim_map {f : Int → Int} {xs : List Int} (h : ∀ x ∈ xs, f x = 0 ↔ x = 0) : trim (xs.map f) = (trim xs).map f := by
  unfold trim
  rw [← List.map_reverse, dropW_map (fun y hy => h y (by simpa using hy)), List.map_reverse]
theorem dropW_head {ys : List Int} : ys.dropWhile (· == 0) = [] ∨ ∃ y r, ys.dropWhile (· == 0) = y :: r ∧ y ≠ 0 := by
  induction ys with
  | nil => exact .inl rfl
  | cons y ys ih =>
    by_cases h : y = 0
    · rw [List.dropWhile_cons_of_pos (by simpa using h)]; exact ih
    · rw [List.dropWhile_cons_of_neg (by simpa using h)]; exact .inr ⟨y, ys, rfl, h⟩
theorem trim_end (xs : List Int) : trim xs = [] ∨ (trim xs).getD ((trim xs).length - 1) default ≠ 0 := by
  unfold trim
  rcases dropW_head (ys := xs.reverse) with h | ⟨y, r, h, hy⟩
  · rw [h]; exact .inl rfl
  · rw [h]
    refine .inr ?_
    rw [List.reverse_cons]
    simp [hy]
theorem tm_ok {r : Rw} (hl : r.xs.length = 10) : r.tm.ok = (num r.c && r.xs.all num) := by
  have h : r.tm.ok = true ↔ (num r.c && r.xs.all num) = true := by
    rw [ok_iff, Bool.and_eq_true]
    have h1 := trim_length r.xs
    have h2 := trim_end r.xs
    have h3 : (trim r.xs).all num = r.xs.all num := trim_all (by decide) r.xs
    constructor
    · rintro ⟨a, b, _⟩
      exact ⟨a, by rw [← h3]; exact b⟩
    · rintro ⟨a, b⟩
      exact ⟨a, by show (trim r.xs).all num = true; rw [h3]; exact b, by show (trim r.xs).length ≤ 10; omega, h2⟩
  cases h1 : r.tm.ok <;> cases h2 : (num r.c && r.xs.all num) <;> simp_all
/-! gcd -/
theorem gcdL_app (xs ys : List Int) : gcdL (xs ++ ys) = ys.foldl (fun g x => Nat.gcd g x.natAbs) (gcdL xs) := by unfold gcdL; rw [List.foldl_append]
theorem gcdL_snoc (xs : List Int) (x : Int) : gcdL (xs ++ [x]) = Nat.gcd (gcdL xs) x.natAbs := by rw [gcdL_app]; rfl
theorem gcdL_one (x : Int) : gcdL [x] = x.natAbs := by show Nat.gcd 0 x.natAbs = _; rw [Nat.gcd_zero_left]
theorem gcdL_two (x y : Int) : gcdL [x, y] = Nat.gcd x.natAbs y.natAbs := by show Nat.gcd (Nat.gcd 0 x.natAbs) y.natAbs = _; rw [Nat.gcd_zero_left]
theorem foldl_zeros : ∀ {z g : Nat}, (List.replicate z (0 : Int)).foldl (fun g x => Nat.gcd g x.natAbs) g = g
  | 0, g => rfl
  | z + 1, g => by
    rw [List.replicate_succ, List.foldl_cons]
    show List.foldl _ (Nat.gcd g 0) _ = g
    rw [Nat.gcd_zero_right]; exact foldl_zeros
theorem gcdL_trim (c : Int) (xs ms : List Int) : gcdL (c :: trim xs ++ ms) = gcdL (c :: xs ++ ms) := by
  obtain ⟨z, hz⟩ := trim_app xs
  conv => rhs; rw [hz]
  show gcdL ((c :: trim xs) ++ ms) = gcdL ((c :: (trim xs ++ List.replicate z 0)) ++ ms)
  rw [gcdL_app, gcdL_app (c :: (trim xs ++ List.replicate z 0)), ← List.cons_append, gcdL_app (c :: trim xs) (List.replicate z 0), foldl_zeros]
theorem foldl_gcd_le {B : Nat} : ∀ {xs : List Int} {g : Nat}, g ≤ B → (∀ x ∈ xs, x.natAbs ≤ B) → xs.foldl (fun g x => Nat.gcd g x.natAbs) g ≤ B
  | [], g, h, _ => h
  | x :: xs, g, h, hx => by
    rw [List.foldl_cons]
    refine foldl_gcd_le ?_ (fun y hy => hx y (by simp [hy]))
    have h1 := hx x (by simp)
    rcases Nat.eq_zero_or_pos x.natAbs with h0 | h0
    · show Nat.gcd g x.natAbs ≤ B
      rw [h0, Nat.gcd_zero_right]; exact h
    · exact Nat.le_trans (Nat.gcd_le_right _ h0) h1
theorem gcdL_le' {B : Nat} {xs : List Int} (h : ∀ x ∈ xs, x.natAbs ≤ B) : gcdL xs ≤ B := foldl_gcd_le (Nat.zero_le _) h
theorem gcdL_pos {xs : List Int} {x : Int} (hx : x ∈ xs) (h : x ≠ 0) : 0 < gcdL xs := by
  have := gcdL_dvd hx
  rcases Nat.eq_zero_or_pos (gcdL xs) with h0 | h0
  · rw [h0] at this
    have := Nat.eq_zero_of_zero_dvd this
    omega
  · exact h0
theorem tdiv_zero_iff {x : Int} {g : Nat} (h : g ∣ x.natAbs) (hg : 0 < g) : x.tdiv g = 0 ↔ x = 0 := by
  constructor
  · intro e
    have e1 : (x.tdiv g).natAbs = 0 := by rw [e]; rfl
    rw [Int.natAbs_tdiv, Int.natAbs_natCast] at e1
    obtain ⟨q, hq⟩ := h
    rw [hq] at e1
    change g * q / g = 0 at e1
    rw [Nat.mul_div_cancel_left _ hg] at e1
    rw [e1, Nat.mul_zero] at hq
    omega
  · intro e; subst e; simp
theorem tdiv_pos' {x : Int} {g : Nat} (h : g ∣ x.natAbs) (hg : 0 < g) (hx : 0 < x) : 0 < x.tdiv g := by
  have h1 : 0 ≤ x.tdiv g := Int.tdiv_nonneg (by omega) (by omega)
  have h2 : x.tdiv g ≠ 0 := fun e => by have := (tdiv_zero_iff h hg).1 e; omega
  omega
/-! the combination of two rows -/
def lin (n m : Int) (xs ys : List Int) (i : Nat) : List Int := (List.range i).map fun k => n * xs.getD k default + m * ys.getD k default
theorem lin_length {n m : Int} {xs ys : List Int} {i : Nat} : (lin n m xs ys i).length = i := by simp [lin]
theorem lin_succ {n m : Int} {xs ys : List Int} {i : Nat} : lin n m xs ys (i + 1) = lin n m xs ys i ++ [n * xs.getD i default + m * ys.getD i default] := by simp [lin, List.range_succ]
theorem lin_mem {n m : Int} {xs ys : List Int} {i : Nat} {x : Int} (h : x ∈ lin n m xs ys i) : ∃ k, k < i ∧ x = n * xs.getD k default + m * ys.getD k default := by
  unfold lin at h
  obtain ⟨k, hk, rfl⟩ := List.mem_map.1 h
  exact ⟨k, List.mem_range.1 hk, rfl⟩
abbrev gcd0 (p q : Rw) (k : Nat) : Nat := Nat.gcd (p.xs.getD k default).natAbs (q.xs.getD k default).natAbs
abbrev mulM (p q : Rw) (k : Nat) : Int := (p.xs.getD k default).tdiv (gcd0 p q k)
abbrev mulN (p q : Rw) (k : Nat) : Int := (-(q.xs.getD k default)).tdiv (gcd0 p q k)
abbrev rawR (p q : Rw) (k : Nat) : Rw := ⟨mulN p q k * p.c + mulM p q k * q.c, lin (mulN p q k) (mulM p q k) p.xs q.xs p.xs.length, lin (mulN p q k) (mulM p q k) p.ms q.ms p.ms.length⟩
abbrev gcdR (r : Rw) : Nat := gcdL (r.c :: r.xs ++ r.ms)
def divR (r : Rw) (g : Nat) : Rw := ⟨r.c.tdiv g, r.xs.map (fun x => x.tdiv g), r.ms.map fun x => x.tdiv g⟩
abbrev mixR (p q : Rw) (k : Nat) : Rw := divR (rawR p q k) (gcdR (rawR p q k))
def okR (r : Rw) : Bool := (num r.c && r.xs.all num) && r.ms.all num
structure ROk (n : Nat) (r : Rw) : Prop where
  c : num r.c = true
  xs : r.xs.all num = true
  l : r.xs.length = 10
  ms : r.ms.all co = true
  n : r.ms.length = n
  pos : ∃ x ∈ r.ms, 0 < x
theorem all_get {p : Int → Bool} {xs : List Int} (h : xs.all p = true) (h0 : p 0 = true) (k : Nat) : p (xs.getD k default) = true := by
  by_cases hk : k < xs.length
  · rw [getD_lt hk]; exact List.all_eq_true.1 h _ (List.getElem_mem hk)
  · rw [List.getD_eq_getElem?_getD, List.getElem?_eq_none (by omega)]; exact h0
theorem ROk.get {n : Nat} {r : Rw} (h : ROk n r) (k : Nat) : -1000000 ≤ r.xs.getD k default ∧ r.xs.getD k default ≤ 1000000 := num_iff.1 (all_get h.xs (by decide) k)
theorem co_iff {x : Int} : co x = true ↔ 0 ≤ x ∧ x ≤ 1000000 := by simp [co]
theorem ROk.mul {n : Nat} {r : Rw} (h : ROk n r) (k : Nat) : 0 ≤ r.ms.getD k default ∧ r.ms.getD k default ≤ 1000000 := co_iff.1 (all_get h.ms (by decide) k)
theorem ROk.tm {n : Nat} {r : Rw} (h : ROk n r) : r.tm.ok = true := by rw [tm_ok h.l, h.c, h.xs]; rfl
theorem muls_in {n : Nat} {p q : Rw} {k : Nat} (hp : ROk n p) (hq : ROk n q) (h1 : 0 < p.xs.getD k default) (h2 : q.xs.getD k default < 0) :
    (0 < gcd0 p q k ∧ gcd0 p q k ≤ 1000000) ∧ (1 ≤ mulM p q k ∧ mulM p q k ≤ 1000000) ∧ (1 ≤ mulN p q k ∧ mulN p q k ≤ 1000000) := by
  have b1 := hp.get k
  have b2 := hq.get k
  have g1 : 0 < gcd0 p q k := Nat.gcd_pos_of_pos_left _ (by omega)
  have g2 : gcd0 p q k ≤ (p.xs.getD k default).natAbs := Nat.gcd_le_left _ (by omega)
  have d1 : gcd0 p q k ∣ (p.xs.getD k default).natAbs := Nat.gcd_dvd_left _ _
  have d2 : gcd0 p q k ∣ (-(q.xs.getD k default)).natAbs := by rw [Int.natAbs_neg]; exact Nat.gcd_dvd_right _ _
  have m1 := tdiv_pos' d1 g1 h1
  have m2 := tdiv_pos' d2 g1 (x := -(q.xs.getD k default)) (by omega)
  have m3 := tdiv_in (a := p.xs.getD k default) (b := gcd0 p q k) (by omega)
  have m4 := tdiv_in (a := -(q.xs.getD k default)) (b := gcd0 p q k) (by omega)
  exact ⟨⟨g1, by omega⟩, ⟨by show 1 ≤ Int.tdiv _ _; omega, m3.2⟩, ⟨by show 1 ≤ Int.tdiv _ _; omega, m4.2⟩⟩
theorem mul_bd {a b : Int} (h1 : -1000000 ≤ a ∧ a ≤ 1000000) (h2 : -1000000 ≤ b ∧ b ≤ 1000000) : -1000000000000 ≤ a * b ∧ a * b ≤ 1000000000000 :=
  mul_num (num_iff.2 h1) (num_iff.2 h2)
theorem lin_in {a b x y : Int} (h1 : 1 ≤ a ∧ a ≤ 1000000) (h2 : 1 ≤ b ∧ b ≤ 1000000) (hx : -1000000 ≤ x ∧ x ≤ 1000000) (hy : -1000000 ≤ y ∧ y ≤ 1000000) :
    -2000000000000 ≤ a * x + b * y ∧ a * x + b * y ≤ 2000000000000 := by
  have q1 := mul_bd (a := a) (b := x) (by omega) hx
  have q2 := mul_bd (a := b) (b := y) (by omega) hy
  omega
theorem raw_in {n : Nat} {p q : Rw} {k : Nat} (hp : ROk n p) (hq : ROk n q) (h1 : 0 < p.xs.getD k default) (h2 : q.xs.getD k default < 0) :
    (∀ x ∈ (rawR p q k).c :: (rawR p q k).xs ++ (rawR p q k).ms, -2000000000000 ≤ x ∧ x ≤ 2000000000000) ∧ (∀ x ∈ (rawR p q k).ms, 0 ≤ x) ∧ (∃ x ∈ (rawR p q k).ms, 0 < x) := by
  obtain ⟨_, hm, hn⟩ := muls_in hp hq h1 h2
  refine ⟨fun x hx => ?_, fun x hx => ?_, ?_⟩
  · rw [List.mem_append, List.mem_cons] at hx
    rcases hx with (rfl | hx) | hx
    · exact lin_in hn hm (num_iff.1 hp.c) (num_iff.1 hq.c)
    · obtain ⟨i, _, rfl⟩ := lin_mem hx
      exact lin_in hn hm (hp.get i) (hq.get i)
    · obtain ⟨i, _, rfl⟩ := lin_mem hx
      have := hp.mul i
      have := hq.mul i
      exact lin_in hn hm (by omega) (by omega)
  · obtain ⟨i, _, rfl⟩ := lin_mem hx
    have := Int.mul_nonneg (a := mulN p q k) (b := p.ms.getD i default) (by omega) (hp.mul i).1
    have := Int.mul_nonneg (a := mulM p q k) (b := q.ms.getD i default) (by omega) (hq.mul i).1
    omega
  · obtain ⟨x, hx, h0⟩ := hp.pos
    obtain ⟨i, hi, rfl⟩ := List.mem_iff_getElem.1 hx
    refine ⟨_, List.mem_map.2 ⟨i, List.mem_range.2 hi, rfl⟩, ?_⟩
    rw [← getD_lt hi] at h0
    have := Int.mul_pos (a := mulN p q k) (b := p.ms.getD i default) (by omega) h0
    have := Int.mul_nonneg (a := mulM p q k) (b := q.ms.getD i default) (by omega) (hq.mul i).1
    omega
theorem gcdR_in {n : Nat} {p q : Rw} {k : Nat} (hp : ROk n p) (hq : ROk n q) (h1 : 0 < p.xs.getD k default) (h2 : q.xs.getD k default < 0) :
    0 < gcdR (rawR p q k) ∧ gcdR (rawR p q k) ≤ 2000000000000 := by
  obtain ⟨a, _, ⟨x, hx, h0⟩⟩ := raw_in hp hq h1 h2
  exact ⟨gcdL_pos (x := x) (List.mem_append_right _ hx) (by omega), gcdL_le' fun y hy => by have := a y hy; omega⟩
theorem gcdR_dvd {r : Rw} : gcdR r ∣ r.c.natAbs ∧ (∀ x ∈ r.xs, gcdR r ∣ x.natAbs) ∧ ∀ x ∈ r.ms, gcdR r ∣ x.natAbs :=
  ⟨gcdL_dvd (by simp), fun x hx => gcdL_dvd (by simp [hx]), fun x hx => gcdL_dvd (by simp [hx])⟩
theorem mix_length {n : Nat} {p q : Rw} {k : Nat} (hp : ROk n p) : (mixR p q k).xs.length = 10 ∧ (mixR p q k).ms.length = n :=
  ⟨by show (List.map _ (lin _ _ _ _ _)).length = 10; rw [List.length_map, lin_length, hp.l], by show (List.map _ (lin _ _ _ _ _)).length = n; rw [List.length_map, lin_length, hp.n]⟩
theorem mix_ok {n : Nat} {p q : Rw} {k : Nat} (hp : ROk n p) (hq : ROk n q) (h1 : 0 < p.xs.getD k default) (h2 : q.xs.getD k default < 0) (h : okR (mixR p q k) = true) : ROk n (mixR p q k) := by
  obtain ⟨a, b, ⟨x, hx, h0⟩⟩ := raw_in hp hq h1 h2
  have hg := gcdR_in hp hq h1 h2
  have hd := gcdR_dvd (r := rawR p q k)
  simp only [okR, Bool.and_eq_true] at h
  refine ⟨h.1.1, h.1.2, (mix_length hp).1, ?_, (mix_length hp).2, ?_⟩
  · have h9 := List.all_eq_true.1 h.2
    rw [List.all_eq_true]
    intro y hy
    have h3 := num_iff.1 (h9 y hy)
    obtain ⟨z, hz, rfl⟩ := List.mem_map.1 hy
    exact co_iff.2 ⟨Int.tdiv_nonneg (b z hz) (by omega), h3.2⟩
  · exact ⟨_, List.mem_map.2 ⟨x, hx, rfl⟩, tdiv_pos' (hd.2.2 x hx) hg.1 h0⟩
theorem div_trim {r : Rw} (h : 0 < gcdR r) : trim (r.xs.map fun x => x.tdiv (gcdR r)) = (trim r.xs).map fun x => x.tdiv (gcdR r) :=
  trim_map fun x hx => tdiv_zero_iff (gcdR_dvd.2.1 x hx) h
/-! stages -/
def goJ (p : Rw) (k b : Nat) : List Rw → List Rw → Option (List Rw)
  | [], new => some new
  | q :: qs, new => if p.xs.getD k default ≤ 0 ∨ 0 ≤ q.xs.getD k default then goJ p k b qs new
    else if okR (mixR p q k) = true ∧ b + new.length ≠ 60 then goJ p k b qs (new ++ [mixR p q k]) else none
def goI (k b : Nat) (rs : List Rw) : List Rw → List Rw → Option (List Rw)
  | [], new => some new
  | p :: ps, new => match goJ p k b rs new with
    | none => none
    | some y => goI k b rs ps y
def keepR (k : Nat) (rs : List Rw) : List Rw := rs.filter fun r => decide (r.xs.getD k default = 0)
abbrev stageR (k : Nat) (rs : List Rw) : Option (List Rw) := goI k (keepR k rs).length rs rs []
def elimK : Nat → Nat → List Rw → List Rw → Option (List Rw × List Rw)
  | 0, _, rs, news => some (rs, news)
  | f + 1, k, rs, news => match stageR k rs with
    | none => none
    | some new => elimK f (k + 1) (keepR k rs ++ new) (news ++ new)
abbrev everyR (ts : List Tm) : Option (List Rw × List Rw) := elimK 10 0 (rows0 ts) []
def AllR (n : Nat) (rs : List Rw) : Prop := ∀ r ∈ rs, ROk n r
theorem AllR.nil {n : Nat} : AllR n [] := fun r h => by cases h
theorem AllR.app {n : Nat} {a b : List Rw} (h1 : AllR n a) (h2 : AllR n b) : AllR n (a ++ b) := fun r h => by
  rcases List.mem_append.1 h with h | h
  · exact h1 r h
  · exact h2 r h
theorem AllR.snoc {n : Nat} {a : List Rw} {r : Rw} (h1 : AllR n a) (h2 : ROk n r) : AllR n (a ++ [r]) := h1.app fun x hx => by simp at hx; subst hx; exact h2
theorem AllR.get {n : Nat} {a : List Rw} (h : AllR n a) {i : Nat} (hi : i < a.length) : ROk n (a.getD i default) := by rw [getD_lt hi]; exact h _ (List.getElem_mem hi)
theorem goJ_cons {p : Rw} {k b : Nat} {rs new : List Rw} {j : Nat} (h : j < rs.length) : goJ p k b (rs.drop j) new =
    if p.xs.getD k default ≤ 0 ∨ 0 ≤ (rs.getD j default).xs.getD k default then goJ p k b (rs.drop (j + 1)) new
    else if okR (mixR p (rs.getD j default) k) = true ∧ b + new.length ≠ 60 then goJ p k b (rs.drop (j + 1)) (new ++ [mixR p (rs.getD j default) k]) else none := by
  rw [List.drop_eq_getElem_cons h, getD_lt h]; rfl
theorem goJ_end {p : Rw} {k b : Nat} {rs new : List Rw} {j : Nat} (h : rs.length ≤ j) : goJ p k b (rs.drop j) new = some new := by
  rw [List.drop_of_length_le h]; rfl
theorem goI_cons {k b : Nat} {rs new : List Rw} {i : Nat} (h : i < rs.length) : goI k b rs (rs.drop i) new =
    match goJ (rs.getD i default) k b rs new with
    | none => none
    | some y => goI k b rs (rs.drop (i + 1)) y := by
  rw [List.drop_eq_getElem_cons h, getD_lt h]; rfl
theorem goI_end {k b : Nat} {rs new : List Rw} {i : Nat} (h : rs.length ≤ i) : goI k b rs (rs.drop i) new = some new := by
  rw [List.drop_of_length_le h]; rfl
theorem goJ_ok {n : Nat} {p : Rw} {k b : Nat} (hp : ROk n p) : ∀ {qs new y : List Rw}, AllR n qs → AllR n new → b + new.length ≤ 60 → goJ p k b qs new = some y → AllR n y ∧ b + y.length ≤ 60
  | [], new, y, _, hn, hl, h => by
    simp only [goJ, Option.some.injEq] at h; subst h; exact ⟨hn, hl⟩
  | q :: qs, new, y, hq, hn, hl, h => by
    have hqs : AllR n qs := fun r hr => hq r (by simp [hr])
    unfold goJ at h
    split at h
    · exact goJ_ok hp hqs hn hl h
    · rename_i h0
      have hb : 0 < p.xs.getD k default ∧ q.xs.getD k default < 0 := ⟨by omega, by omega⟩
      split at h
      · rename_i h3
        exact goJ_ok hp hqs (hn.snoc (mix_ok hp (hq q (by simp)) hb.1 hb.2 h3.1)) (by rw [List.length_append, List.length_singleton]; omega) h
      · cases h
theorem goI_ok {n k b : Nat} {rs : List Rw} (hr : AllR n rs) : ∀ {ps new y : List Rw}, AllR n ps → AllR n new → b + new.length ≤ 60 → goI k b rs ps new = some y → AllR n y ∧ b + y.length ≤ 60
  | [], new, y, _, hn, hl, h => by
    simp only [goI, Option.some.injEq] at h; subst h; exact ⟨hn, hl⟩
  | p :: ps, new, y, hq, hn, hl, h => by
    unfold goI at h
    split at h
    · cases h
    · rename_i z hz
      obtain ⟨h1, h2⟩ := goJ_ok (hq p (by simp)) hr hn hl hz
      exact goI_ok hr (fun r h => hq r (by simp [h])) h1 h2 h
theorem keepR_le {k : Nat} {rs : List Rw} : (keepR k rs).length ≤ rs.length := List.length_filter_le _ _
theorem keepR_ok {n k : Nat} {rs : List Rw} (h : AllR n rs) : AllR n (keepR k rs) := fun r hr => h r ((List.mem_filter.1 hr).1)
theorem keepR_T {k i : Nat} {rs : List Rw} (h : i < rs.length) (h0 : (rs.getD i default).xs.getD k default = 0) : keepR k (rs.take (i + 1)) = keepR k (rs.take i) ++ [rs.getD i default] := by
  unfold keepR
  rw [List.take_succ_eq_append_getElem h, List.filter_append, ← getD_lt h, List.filter_cons_of_pos (by simpa using h0)]; rfl
theorem keepR_F {k i : Nat} {rs : List Rw} (h : i < rs.length) (h0 : (rs.getD i default).xs.getD k default ≠ 0) : keepR k (rs.take (i + 1)) = keepR k (rs.take i) := by
  unfold keepR
  rw [List.take_succ_eq_append_getElem h, List.filter_append, ← getD_lt h, List.filter_cons_of_neg (by simpa using h0), List.filter_nil, List.append_nil]
theorem stageR_ok {n k : Nat} {rs new : List Rw} (h : AllR n rs) (hl : rs.length ≤ 60) (hs : stageR k rs = some new) : AllR n (keepR k rs ++ new) ∧ (keepR k rs ++ new).length ≤ 60 ∧ AllR n new ∧ new.length ≤ 60 := by
  have h1 := keepR_le (k := k) (rs := rs)
  obtain ⟨h2, h3⟩ := goI_ok h h .nil (by simp only [List.length_nil]; omega) hs
  exact ⟨(keepR_ok h).app h2, by rw [List.length_append]; exact h3, h2, by omega⟩
theorem elimK_succ {f k : Nat} {rs news new : List Rw} (h : stageR k rs = some new) : elimK (f + 1) k rs news = elimK f (k + 1) (keepR k rs ++ new) (news ++ new) := by
  rw [elimK, h]
theorem elimK_none {f k : Nat} {rs news : List Rw} (h : stageR k rs = none) : elimK (f + 1) k rs news = none := by
  rw [elimK, h]
theorem elimK_ok {n : Nat} : ∀ {f k : Nat} {rs news a b : List Rw}, AllR n rs → rs.length ≤ 60 → AllR n news → elimK f k rs news = some (a, b) → AllR n a ∧ a.length ≤ 60 ∧ AllR n b ∧ b.length ≤ news.length + 60 * f
  | 0, k, rs, news, a, b, h1, h2, h3, h => by
    simp only [elimK, Option.some.injEq, Prod.mk.injEq] at h
    obtain ⟨rfl, rfl⟩ := h
    exact ⟨h1, h2, h3, by omega⟩
  | f + 1, k, rs, news, a, b, h1, h2, h3, h => by
    cases hs : stageR k rs with
    | none => rw [elimK_none hs] at h; cases h
    | some new =>
      rw [elimK_succ hs] at h
      obtain ⟨g1, g2, g3, g4⟩ := stageR_ok h1 h2 hs
      obtain ⟨e1, e2, e3, e4⟩ := elimK_ok g1 g2 (h3.app g3) h
      rw [List.length_append] at e4
      exact ⟨e1, e2, e3, by omega⟩
/-- Facts: valid terms, not too many. -/
structure Fs (ts : List Tm) : Prop where
  ok : ∀ t ∈ ts, t.ok = true
  len : ts.length ≤ 14
theorem Fs.ctx {ts : List Tm} (h : Fs ts) : CtxOk ts := ⟨h.ok, by have := h.len; omega⟩
theorem Fs.get {ts : List Tm} (h : Fs ts) {i : Nat} (hi : i < ts.length) : (ts.getD i default).ok = true := h.ctx.get hi
theorem Fs.snoc {ts : List Tm} {t : Tm} (h : Fs ts) (ht : t.ok = true) (hl : ts.length ≠ 14) : Fs (ts ++ [t]) := ⟨fun u hu => by
  rcases List.mem_append.1 hu with hu | hu
  · exact h.ok u hu
  · simp at hu; subst hu; exact ht, by have := h.len; rw [List.length_append, List.length_singleton]; omega⟩
theorem Fs.all {ts : List Tm} (h : Fs ts) : allOk ts 14 = true := by
  have := h.len
  simp only [allOk, Bool.and_eq_true, decide_eq_true_eq, List.all_eq_true]
  exact ⟨h.ok, by omega⟩
theorem unit_co {n i : Nat} : (unitL n i).all co = true := by
  rw [List.all_eq_true]
  intro x hx
  rcases List.mem_or_eq_of_mem_set hx with h | h
  · rw [List.eq_of_mem_replicate h]; decide
  · rw [h]; decide
theorem row0_ok {ts : List Tm} (h : Fs ts) {i : Nat} (hi : i < ts.length) : ROk ts.length (row0 ts i) := by
  have ht := Small.of (h.get hi)
  refine ⟨ht.c, ?_, padTo_length, unit_co, unitL_length, ⟨1, ?_, by decide⟩⟩
  · rw [List.all_eq_true]
    intro x hx
    obtain ⟨k, _, rfl⟩ := List.mem_map.1 hx
    exact ht.get k
  · exact List.mem_iff_getElem.2 ⟨i, by rw [unitL_length]; exact hi, by simp [unitL]⟩
theorem rows0_ok {ts : List Tm} (h : Fs ts) : AllR ts.length (rows0 ts) := fun r hr => by
  obtain ⟨i, hi, rfl⟩ := List.mem_map.1 hr
  exact row0_ok h (List.mem_range.1 hi)
theorem pad_trim {xs : List Int} (h : xs.length ≤ 10) (he : xs = [] ∨ xs.getD (xs.length - 1) default ≠ 0) : trim (pad xs) = xs := by
  have h1 : pad xs = xs ++ List.replicate (10 - xs.length) 0 := by
    refine List.ext_getElem (by simp [padTo]; omega) fun k h2 h3 => ?_
    rw [List.getElem_append]
    have h5 : (pad xs)[k] = xs.getD k 0 := by simp [padTo]
    rw [h5]
    split
    · rename_i h4; simp [h4]
    · rename_i h4; simp [Nat.not_lt.1 h4]
  rw [h1]
  have h2 : ∀ z : Nat, trim (xs ++ List.replicate z 0) = trim xs := by
    intro z
    induction z with
    | zero => simp
    | succ z ih => rw [List.replicate_succ', ← List.append_assoc, trim_zero, ih]
  rw [h2, trim_last he]
theorem row0_tm {ts : List Tm} (h : Fs ts) {i : Nat} (hi : i < ts.length) : (row0 ts i).tm = ts.getD i default := by
  obtain ⟨_, _, h3, h4⟩ := ok_iff.1 (h.get hi)
  show (⟨(ts.getD i default).c, trim (pad (ts.getD i default).xs)⟩ : Tm) = _
  rw [pad_trim h3 h4]
theorem every_ok {ts : List Tm} (h : Fs ts) {a b : List Rw} (he : everyR ts = some (a, b)) : AllR ts.length a ∧ a.length ≤ 60 ∧ AllR ts.length b ∧ b.length ≤ 600 := by
  have := h.len
  obtain ⟨h1, h2, h3, h4⟩ := elimK_ok (rows0_ok h) (by rw [rowsTo_length]; omega) .nil he
  exact ⟨h1, h2, h3, by simpa using h4⟩
/-! refutations, cuts -/
def findN : List Rw → Option Rw
  | [] => none
  | r :: rs => if r.c < 0 then some r else findN rs
theorem findN_cons {rs : List Rw} {i : Nat} (h : i < rs.length) : findN (rs.drop i) = if (rs.getD i default).c < 0 then some (rs.getD i default) else findN (rs.drop (i + 1)) := by
  rw [List.drop_eq_getElem_cons h, getD_lt h]; rfl
theorem findN_end {rs : List Rw} {i : Nat} (h : rs.length ≤ i) : findN (rs.drop i) = none := by rw [List.drop_of_length_le h]; rfl
def refR (ts : List Tm) : List Int × Bool := match everyR ts with
  | none => ([], false)
  | some z => match findN z.1 with
    | none => ([], false)
    | some r => (r.ms, true)
theorem findN_mem : ∀ {rs : List Rw} {r : Rw}, findN rs = some r → r ∈ rs
  | [], r, h => by cases h
  | x :: rs, r, h => by
    unfold findN at h
    split at h
    · simp only [Option.some.injEq] at h; subst h; simp
    · exact List.mem_cons_of_mem _ (findN_mem h)
theorem refR_ok {ts : List Tm} (h : Fs ts) (h2 : (refR ts).2 = true) : (refR ts).1.all co = true ∧ (refR ts).1.length = ts.length := by
  unfold refR at h2 ⊢
  split at h2
  · cases h2
  · rename_i z hz
    split at h2
    · cases h2
    · rename_i r hr
      have := (every_ok h (a := z.1) (b := z.2) hz).1 r (findN_mem hr)
      exact ⟨this.ms, this.n⟩
def knownB (ts : List Tm) (t : Tm) : Bool := ts.any fun u => decide (u = t)
def noTm : Tm × Bool := (⟨0, []⟩, false)
def sharpR (ts : List Tm) (t : Tm) : Tm × Bool := if gcdL t.xs < 2 ∨ t.c.tmod (gcdL t.xs) = 0 then noTm else ((tightS t).1, (tightS t).2 && !knownB ts (tightS t).1)
theorem sharp_ok {ts : List Tm} {t : Tm} (h : (sharpR ts t).2 = true) : (sharpR ts t).1.ok = true := by
  unfold sharpR at h ⊢
  split at h
  · cases h
  · rename_i h1
    rw [if_neg h1]
    simp only [Bool.and_eq_true] at h
    exact tightS_ok h.1
def findC (ts : List Tm) : List Rw → Option Rw
  | [] => none
  | r :: rs => if (sharpR ts r.tm).2 = true then some r else findC ts rs
theorem findC_cons {ts : List Tm} {rs : List Rw} {i : Nat} (h : i < rs.length) : findC ts (rs.drop i) = if (sharpR ts (rs.getD i default).tm).2 = true then some (rs.getD i default) else findC ts (rs.drop (i + 1)) := by
  rw [List.drop_eq_getElem_cons h, getD_lt h]; rfl
theorem findC_end {ts : List Tm} {rs : List Rw} {i : Nat} (h : rs.length ≤ i) : findC ts (rs.drop i) = none := by rw [List.drop_of_length_le h]; rfl
theorem findC_mem {ts : List Tm} : ∀ {rs : List Rw} {r : Rw}, findC ts rs = some r → r ∈ rs ∧ (sharpR ts r.tm).2 = true
  | [], r, h => by cases h
  | x :: rs, r, h => by
    unfold findC at h
    split at h
    · rename_i h1
      simp only [Option.some.injEq] at h; subst h; exact ⟨by simp, h1⟩
    · exact ⟨List.mem_cons_of_mem _ (findC_mem h).1, (findC_mem h).2⟩
/-- The row of the first cut. -/
def cutR (ts : List Tm) : Option Rw := match everyR ts with
  | none => none
  | some z => findC ts z.2
theorem cutR_ok {ts : List Tm} (h : Fs ts) {r : Rw} (hr : cutR ts = some r) : ROk ts.length r ∧ (sharpR ts r.tm).2 = true := by
  unfold cutR at hr
  split at hr
  · cases hr
  · rename_i z hz
    exact ⟨(every_ok h (a := z.1) (b := z.2) hz).2.2.1 r (findC_mem hr).1, (findC_mem hr).2⟩
/-- The first fact that can be tightened. -/
def tigF (ts : List Tm) : Nat → Nat → Option Nat
  | 0, _ => none
  | f + 1, i => if (sharpR ts (ts.getD i default)).2 = true then some i else tigF ts f (i + 1)
abbrev tigR (ts : List Tm) : Option Nat := tigF ts ts.length 0
theorem tigF_some {ts : List Tm} : ∀ {f i j : Nat}, tigF ts f i = some j → i ≤ j ∧ j < i + f ∧ (sharpR ts (ts.getD j default)).2 = true
  | 0, i, j, h => by cases h
  | f + 1, i, j, h => by
    unfold tigF at h
    split at h
    · rename_i h1
      simp only [Option.some.injEq] at h; subst h; exact ⟨Nat.le_refl _, by omega, h1⟩
    · obtain ⟨a, b, c⟩ := tigF_some h
      exact ⟨by omega, by omega, c⟩
abbrev tigNd (i : Nat) : Nd := ⟨3, (i : Int), ⟨0, []⟩, []⟩
abbrev splNd (t : Tm) : Nd := ⟨2, 0, t, []⟩
abbrev cloNd (ms : List Int) : Nd := ⟨1, 0, ⟨0, []⟩, ms⟩
abbrev cutMs (r : Rw) : List Int := r.ms ++ [(gcdL r.tm.xs : Int)]
def prvF : Nat → List Tm → Option (List Nd × List Nd)
  | 0, _ => none
  | f + 1, ts => match tigR ts with
    | some i => if ts.length = 14 then none else (prvF f (ts ++ [(sharpR ts (ts.getD i default)).1])).map fun z => (tigNd i :: z.1, z.2)
    | none => if (refR ts).2 = true then some ([cloNd (refR ts).1], []) else match cutR ts with
      | none => none
      | some r => if ts.length = 14 then none else if (oppT (sharpR ts r.tm).1).2 = true then
          (prvF f (ts ++ [(sharpR ts r.tm).1])).map fun z => (splNd (sharpR ts r.tm).1 :: z.1, z.2 ++ [cloNd (cutMs r)]) else none
/-! the program's way -/
abbrev Wk := List Nd × Bool
def wrt (b : Int) (s : Wk) (n : Nd) : Wk := if (s.1.length : Int) = b ∨ n.mul.all co = false then (s.1, true) else (s.1 ++ [n], s.2)
def addF (ts : List Tm) (s : Wk) : Wk := (s.1, if ts.length = 14 then true else s.2)
def wrk (b : Int) : Nat → List Tm → Wk → Wk
  | 0, _, s => s
  | f + 1, ts, s => if s.2 = true then s else match tigR ts with
    | some i => wrk b f (ts ++ [(sharpR ts (ts.getD i default)).1]) (addF ts (wrt b s (tigNd i)))
    | none => if (refR ts).2 = true then wrt b s (cloNd (refR ts).1) else match cutR ts with
      | none => (s.1, true)
      | some r => if (oppT (sharpR ts r.tm).1).2 = true then
          wrt b (wrk b f (ts ++ [(sharpR ts r.tm).1]) (addF ts (wrt b s (splNd (sharpR ts r.tm).1)))) (cloNd (cutMs r)) else (s.1, true)
theorem wrk_failed {b : Int} {f : Nat} {ts : List Tm} {s : Wk} (h : s.2 = true) : wrk b f ts s = s := by
  cases f with
  | zero => rfl
  | succ f => rw [wrk, if_pos h]
theorem wrt_len {b : Int} {s : Wk} {n : Nd} (hb : (s.1.length : Int) ≤ b) : ((wrt b s n).1.length : Int) ≤ b := by
  unfold wrt
  split
  · exact hb
  · rename_i h
    simp only [List.length_append, List.length_singleton]; omega
theorem wrk_len {b : Int} : ∀ {f : Nat} {ts : List Tm} {s : Wk}, (s.1.length : Int) ≤ b → ((wrk b f ts s).1.length : Int) ≤ b
  | 0, ts, s, h => h
  | f + 1, ts, s, h => by
    rw [wrk]
    split
    · exact h
    · split
      · exact wrk_len (wrt_len (s := s) h)
      · split
        · exact wrt_len h
        · split
          · exact h
          · split
            · exact wrt_len (wrk_len (wrt_len (s := s) h))
            · exact h
theorem wrt_failed {b : Int} {s : Wk} {n : Nd} (h : s.2 = true) : (wrt b s n).2 = true := by
  unfold wrt
  split
  · rfl
  · exact h
theorem wrt_ok {b : Int} {N : List Nd} {n : Nd} (hm : n.mul.all co = true) (hb : (N.length : Int) < b) : wrt b (N, false) n = (N ++ [n], false) := by
  unfold wrt
  rw [if_neg]
  rintro (h | h)
  · simp only at h; omega
  · rw [hm] at h; cases h
theorem wrt_full {b : Int} {s : Wk} {n : Nd} (hb : (s.1.length : Int) = b) : (wrt b s n).2 = true := by
  unfold wrt; rw [if_pos (.inl hb)]
theorem cut_co {n : Nat} {r : Rw} (h : ROk n r) : (cutMs r).all co = true := by
  rw [List.all_append, h.ms, Bool.true_and]
  have h1 : gcdL r.tm.xs ≤ 1000000 := by
    have := gcdL_le (xs := r.tm.xs) (Small.of h.tm).xs (Nat.le_refl _)
    rwa [List.take_length] at this
  show (co (gcdL r.tm.xs : Int) && true) = true
  rw [Bool.and_true]
  exact co_iff.2 ⟨by omega, by omega⟩
/-- What the program's way comes to. -/
theorem wrk_eq {b : Int} : ∀ {f : Nat} {ts : List Tm} {N : List Nd}, Fs ts → 15 ≤ f + ts.length → (N.length : Int) ≤ b →
    (∀ z, prvF f ts = some z → (N.length + (z.1 ++ z.2).length : Int) ≤ b → wrk b f ts (N, false) = (N ++ (z.1 ++ z.2), false)) ∧
    ((∀ z, prvF f ts = some z → b < (N.length + (z.1 ++ z.2).length : Int)) → (wrk b f ts (N, false)).2 = true)
  | 0, ts, N, h, hf, hb => by have := h.len; omega
  | f + 1, ts, N, h, hf, hb => by
    rw [prvF, wrk]
    simp only [Bool.false_eq_true, if_false]
    cases ht : tigR ts with
    | some i =>
      obtain ⟨_, hi, hs⟩ := tigF_some ht
      have hx := sharp_ok hs
      simp only
      by_cases hl : ts.length = 14
      · have e : (wrk b f (ts ++ [(sharpR ts (ts.getD i default)).1]) (addF ts (wrt b (N, false) (tigNd i)))).2 = true := by
          have : (addF ts (wrt b (N, false) (tigNd i))).2 = true := by unfold addF; rw [if_pos hl]
          rw [wrk_failed this]; exact this
        rw [if_pos hl]
        exact ⟨fun z hz => (by cases hz), fun _ => e⟩
      · rw [if_neg hl]
        have hfs := h.snoc hx hl
        by_cases hN : (N.length : Int) < b
        · have e : addF ts (wrt b (N, false) (tigNd i)) = (N ++ [tigNd i], false) := by
            rw [wrt_ok rfl hN]; unfold addF; rw [if_neg hl]
          rw [e]
          obtain ⟨q1, q2⟩ := wrk_eq (f := f) (N := N ++ [tigNd i]) (b := b) hfs (by rw [List.length_append, List.length_singleton]; omega) (by rw [List.length_append, List.length_singleton]; omega)
          refine ⟨fun z hz hzl => ?_, fun hno => ?_⟩
          · obtain ⟨y, hy, rfl⟩ := Option.map_eq_some_iff.1 hz
            rw [q1 y hy (by simp only [List.length_append, List.length_cons, List.length_singleton, List.length_nil] at hzl ⊢; omega)]
            simp
          · refine q2 fun y hy => ?_
            have := hno (tigNd i :: y.1, y.2) (by rw [hy]; rfl)
            simp only [List.length_append, List.length_cons, List.length_singleton, List.length_nil] at this ⊢; omega
        · have e : (addF ts (wrt b (N, false) (tigNd i))).2 = true := by
            unfold addF; rw [if_neg hl]; exact wrt_full (by show (N.length : Int) = b; omega)
          rw [wrk_failed e]
          refine ⟨fun z hz hzl => ?_, fun _ => e⟩
          obtain ⟨y, hy, rfl⟩ := Option.map_eq_some_iff.1 hz
          simp only [List.length_append, List.length_cons] at hzl; omega
    | none =>
      simp only
      by_cases hr : (refR ts).2 = true
      · rw [if_pos hr, if_pos hr]
        have hm := (refR_ok h hr).1
        refine ⟨fun z hz hzl => ?_, fun hno => ?_⟩
        · simp only [Option.some.injEq] at hz; subst hz
          simp only [List.length_append, List.length_cons, List.length_nil] at hzl
          rw [wrt_ok hm (by omega)]; rfl
        · have := hno _ rfl
          simp only [List.length_append, List.length_cons, List.length_nil] at this
          exact wrt_full (by show (N.length : Int) = b; omega)
      · rw [if_neg hr, if_neg hr]
        cases hc : cutR ts with
        | none => exact ⟨fun z hz => (by cases hz), fun _ => rfl⟩
        | some r =>
          obtain ⟨hro, hsr⟩ := cutR_ok h hc
          have hx := sharp_ok hsr
          simp only
          by_cases ho : (oppT (sharpR ts r.tm).1).2 = true
          · rw [if_pos ho, if_pos ho]
            by_cases hl : ts.length = 14
            · have e : (addF ts (wrt b (N, false) (splNd (sharpR ts r.tm).1))).2 = true := by unfold addF; rw [if_pos hl]
              rw [if_pos hl, wrk_failed e]
              exact ⟨fun z hz => (by cases hz), fun _ => wrt_failed e⟩
            · rw [if_neg hl]
              have hfs := h.snoc hx hl
              by_cases hN : (N.length : Int) < b
              · have e : addF ts (wrt b (N, false) (splNd (sharpR ts r.tm).1)) = (N ++ [splNd (sharpR ts r.tm).1], false) := by
                  rw [wrt_ok rfl hN]; unfold addF; rw [if_neg hl]
                rw [e]
                have hb2 : ((N ++ [splNd (sharpR ts r.tm).1]).length : Int) ≤ b := by rw [List.length_append, List.length_singleton]; omega
                obtain ⟨q1, q2⟩ := wrk_eq (f := f) (N := N ++ [splNd (sharpR ts r.tm).1]) hfs (by rw [List.length_append, List.length_singleton]; omega) hb2
                refine ⟨fun z hz hzl => ?_, fun hno => ?_⟩
                · obtain ⟨y, hy, rfl⟩ := Option.map_eq_some_iff.1 hz
                  simp only [List.length_append, List.length_cons, List.length_singleton, List.length_nil] at hzl
                  rw [q1 y hy (by simp only [List.length_append, List.length_cons, List.length_singleton, List.length_nil]; omega)]
                  rw [wrt_ok (cut_co hro) (by simp only [List.length_append, List.length_cons, List.length_singleton, List.length_nil]; omega)]
                  simp
                · cases hy : prvF f (ts ++ [(sharpR ts r.tm).1]) with
                  | none => exact wrt_failed (q2 fun y hy' => by rw [hy] at hy'; cases hy')
                  | some y =>
                    have h1 := hno _ (by rw [hy]; rfl)
                    simp only [List.length_append, List.length_cons, List.length_singleton, List.length_nil] at h1
                    by_cases hle : ((N ++ [splNd (sharpR ts r.tm).1]).length + (y.1 ++ y.2).length : Int) ≤ b
                    · have h2 := q1 y hy hle
                      simp only [List.length_append, List.length_cons, List.length_singleton, List.length_nil] at hle
                      rw [h2]
                      refine wrt_full ?_
                      simp only [List.length_append, List.length_cons, List.length_singleton, List.length_nil]; omega
                    · exact wrt_failed (q2 fun y' hy' => by rw [hy] at hy'; simp only [Option.some.injEq] at hy'; subst hy'; omega)
              · have e : (addF ts (wrt b (N, false) (splNd (sharpR ts r.tm).1))).2 = true := by
                  unfold addF; rw [if_neg hl]; exact wrt_full (by show (N.length : Int) = b; omega)
                rw [wrk_failed e]
                refine ⟨fun z hz hzl => ?_, fun _ => wrt_failed e⟩
                obtain ⟨y, hy, rfl⟩ := Option.map_eq_some_iff.1 hz
                simp only [List.length_append, List.length_cons] at hzl; omega
          · rw [if_neg ho, if_neg ho]
            refine ⟨fun z hz hzl => ?_, fun _ => rfl⟩
            split at hz <;> cases hz
/-- The proof of a sequent within a budget. -/
def provS (s : Sq) (b : Int) : List Nd × Bool := if (oppT s.goal).2 = true then
    match prvF (15 - (s.facts.length + 1)) (s.facts ++ [(oppT s.goal).1]) with
    | none => ([], false)
    | some z => if ((z.1 ++ z.2).length : Int) ≤ b then (z.1 ++ z.2, true) else ([], false)
  else ([], false)
def budB (b : Int) : Bool := decide (1 ≤ b) && decide (b ≤ 60)
def prvS (s : Sq) (b : Int) : List Nd × Bool := if (seqB s && budB b) = true then provS s b else ([], false)
end Go.Al
namespace Go.Al
open Go.Proofs
set_option linter.unusedVariables false
/-! ### What the functions of the prover answer -/
def ixL (bs : List Bool) : Nat → List Int
  | 0 => []
  | i + 1 => if bs.getD i default = true then ixL bs i ++ [(i : Int)] else ixL bs i
/-- A number put to its place among rising ones. -/
abbrev putStep (k : Int) (s : Bool × List Int) (x : Int) : Bool × List Int := if s.1 = false ∧ k ≤ x then (true, (if k < x then s.2 ++ [k] else s.2) ++ [x]) else (s.1, s.2 ++ [x])
def putF (k : Int) (xs : List Int) : Bool × List Int := xs.foldl (putStep k) (false, [])
def putL (k : Int) (xs : List Int) : List Int := if (putF k xs).1 = true then (putF k xs).2 else (putF k xs).2 ++ [k]
/-! lists of sequents -/
def sqsB (ss : List Sq) : Bool := ss.all seqB && decide ((ss.length : Int) ≤ 60)
def allP (b : Int) : List Sq → List (List Nd)
  | [] => []
  | s :: ss => if (provS s b).2 = true then (provS s b).1 :: allP b ss else []
/-- The proofs before an index, if all of them are found. -/
theorem allP_all {b : Int} : ∀ {ss : List Sq}, (∀ s ∈ ss, (provS s b).2 = true) → allP b ss = ss.map fun s => (provS s b).1
  | [], _ => rfl
  | s :: ss, h => by rw [allP, if_pos (h s (by simp)), allP_all fun x hx => h x (by simp [hx])]; rfl
theorem allP_app {b : Int} : ∀ {ss rs : List Sq}, (∀ s ∈ ss, (provS s b).2 = true) → allP b (ss ++ rs) = (ss.map fun s => (provS s b).1) ++ allP b rs
  | [], _, _ => rfl
  | s :: ss, rs, h => by rw [List.cons_append, allP, if_pos (h s (by simp)), allP_app fun x hx => h x (by simp [hx])]; rfl
theorem allP_stop {b : Int} {ss : List Sq} {i : Nat} (hi : i < ss.length) (h : ∀ j (hj : j < ss.length), j < i → (provS ss[j] b).2 = true) (h2 : (provS (ss.getD i default) b).2 = false) :
    allP b ss = (ss.take i).map fun s => (provS s b).1 := by
  conv => lhs; rw [← List.take_append_drop i ss]
  rw [allP_app (fun s hs => ?_), List.drop_eq_getElem_cons hi, ← getD_lt hi, allP, if_neg (by rw [h2]; decide), List.append_nil]
  obtain ⟨j, hj, rfl⟩ := List.mem_iff_getElem.1 hs
  rw [List.length_take] at hj
  rw [List.getElem_take]
  exact h j (by omega) (by omega)
theorem allP_done {b : Int} {ss : List Sq} (h : ∀ j (hj : j < ss.length), (provS ss[j] b).2 = true) : allP b ss = ss.map fun s => (provS s b).1 := allP_all fun s hs => by
  obtain ⟨j, hj, rfl⟩ := List.mem_iff_getElem.1 hs
  exact h j hj
def firstS (ss : List Sq) (b : Int) : Int × Bool := if (sqsB ss && budB b) = true then (if (allP b ss).length = ss.length then -1 else ((allP b ss).length : Int), true) else (0, false)
def allS (ss : List Sq) (b : Int) : List (List Nd) × Bool := if (sqsB ss && budB b) = true then (if (allP b ss).length < ss.length then ([], false) else (allP b ss, true)) else ([], false)
def coreS (s : Sq) (b : Int) : List Int × Bool := if (prvS s b).2 = true then (ixL (usedN nz (prvS s b).1 s.facts.length (prvS s b).1.length) s.facts.length, true) else ([], false)
end Go.Al
namespace Go.Al
open Go.Proofs
set_option linter.unusedVariables false
set_option linter.unusedSimpArgs false
set_option maxRecDepth 10000
theorem tight_ok2 {t : Tm} (h : t.ok = true) (hg : ¬ gcdL t.xs < 2) : (tightS t).2 = true := by rw [← tight_eq h, tightI, if_neg hg]
theorem c1071 {L : Nat} (h1 : 4096 ≤ L) (h2 : L ≤ 1073741824) {xs ys : List Int} : MC Tryz.prog L 106 [aints xs, aints ys] [] (Plain (eB (decide (xs = ys)))) := by
 refine MC.alone ?_ rfl
 have hσ := SGok (nt := 26) h1 (Nat.le_trans h2 (by decide))
 refine MC.body hσ Tryz.func106 (by kernel_rfl) rfl rfl (Nat.le_of_ble_eq_true rfl) (fun hF => ?_)
 have hl : xs.length ≤ L := by simpa [As.fact, A.fact, M.fact, D.fact, Ds.fact] using hF.1.1
 have hl2 : ys.length ≤ L := by simpa [As.fact, A.fact, M.fact, D.fact, Ds.fact] using hF.2.1.1
 refine jsr ?_
 refine jst hσ rfl rfl rfl rfl rfl ?_
 refine jn ?_
 refine AWP.seq ?_
 refine jsr ?_
 refine jst hσ rfl rfl rfl rfl rfl ?_
 first | refine jle hσ rfl rfl rfl rfl rfl rfl rfl rfl rfl rfl rfl ?_ | refine jst hσ rfl rfl rfl rfl rfl ?_ | refine jvf hσ rfl rfl rfl rfl rfl ?_
 refine jst hσ rfl rfl rfl rfl rfl ?_
 first | refine jle hσ rfl rfl rfl rfl rfl rfl rfl rfl rfl rfl rfl ?_ | refine jst hσ rfl rfl rfl rfl rfl ?_ | refine jvf hσ rfl rfl rfl rfl rfl ?_
 refine jst hσ rfl rfl rfl rfl rfl ?_
 refine jn ?_
 refine AWP.cond hσ rfl rfl (fun hc10 => ?_) (fun hc10 => ?_)
 ·
  try simp only [jcs] at hc10
  refine jsr ?_
  refine jst hσ rfl rfl rfl rfl rfl ?_
  refine jn ?_
  refine AWP.ret ?_
  refine ⟨.inl rfl, _, Ent.refl, _, rfl, ?_⟩
  rw [decide_eq_false (fun e => by subst e; simp at hc10)]
 ·
  try simp only [jcs] at hc10
  refine AWP.skip ?_
  refine AWP.seq ?_
  refine jsr ?_
  refine jst hσ rfl rfl rfl rfl rfl ?_
  refine jn ?_
  refine AWP.block ?_
  refine AWP.loopP (X := Nat) (fun i => ⟨[(0, aints xs), (1, aints ys), (5, eI i)], []⟩) (fun i => i ≤ xs.length ∧ ∀ j, j < i → xs[j]? = ys[j]?) (fun i => xs.length - i) 0 (Ent.env ⟨rfl, rfl, rfl, trivial⟩) ?_ (fun i hi => ?_)
  ·
   exact ⟨Nat.zero_le _, fun j hj => absurd hj (Nat.not_lt_zero j)⟩
  refine AWP.seq ?_
  refine jsr ?_
  iterate 2 refine jst hσ rfl rfl rfl rfl rfl ?_
  first | refine jle hσ rfl rfl rfl rfl rfl rfl rfl rfl rfl rfl rfl ?_ | refine jst hσ rfl rfl rfl rfl rfl ?_ | refine jvf hσ rfl rfl rfl rfl rfl ?_
  refine jst hσ rfl rfl rfl rfl rfl ?_
  refine jn ?_
  refine AWP.cond hσ rfl rfl (fun hc14 => ?_) (fun hc14 => ?_)
  ·
   try simp only [jcs] at hc14
   refine AWP.skip ?_
   refine AWP.seq ?_
   refine AWP.block ?_
   refine AWP.seq ?_
   refine AWP.drawR hσ _ [_, _, _, _, _, _, _, _, _] [⟨[], 0, 0, none⟩, ⟨[], 0, 0, none⟩, ⟨[0, 1], 0, 0, none⟩, ⟨[0, 1, 2], 0, 0, none⟩, ⟨[], 0, 0, none⟩, ⟨[], 0, 0, none⟩, ⟨[4, 5], 0, 0, none⟩, ⟨[4, 5, 6], 0, 0, none⟩, ⟨[0, 1, 2, 3, 4, 5, 6, 7], 0, 0, none⟩] [] [_] rfl rfl (by decide) (by decide) (by kernel_rfl) (And.intro (Val.of hσ rfl rfl) (And.intro (Val.of hσ rfl rfl) (And.intro (Val.indexN hσ rfl rfl rfl rfl rfl rfl rfl rfl (idxN (by first | omega | (simp at *; omega)))) (And.intro (Val.of hσ rfl rfl) (And.intro (Val.of hσ rfl rfl) (And.intro (Val.of hσ rfl rfl) (And.intro (Val.indexN hσ rfl rfl rfl rfl rfl rfl rfl rfl (idxN (by first | omega | (simp at *; omega)))) (And.intro (Val.of hσ rfl rfl) (And.intro (Val.of hσ rfl rfl) trivial))))))))) ?_
   refine AWP.cond hσ rfl rfl (fun hc25 => ?_) (fun hc25 => ?_)
   ·
    try simp only [jcs] at hc25
    refine jsr ?_
    refine jst hσ rfl rfl rfl rfl rfl ?_
    refine jn ?_
    refine AWP.ret ?_
    refine ⟨.inl rfl, _, Ent.refl, _, rfl, ?_⟩
    rw [decide_eq_false (fun e => by subst e; simp at hc25)]
   ·
    try simp only [jcs] at hc25
    refine AWP.skip ?_
    refine AWP.region ?_
    refine jst hσ rfl rfl rfl rfl rfl ?_
    first | refine jfi hσ rfl rfl rfl rfl rfl ?_ | refine jvf hσ rfl rfl rfl rfl rfl ?_
    refine jst hσ rfl rfl rfl rfl rfl ?_
    refine jn ?_
    refine ⟨i + 1, Ent.env ⟨rfl, rfl, rfl, trivial⟩, ⟨by omega, fun j hj => ?_⟩, by omega⟩
    rcases Nat.lt_or_ge j i with h | h
    ·
     exact hi.2 j h
    ·
     obtain rfl : j = i := by omega
     rw [getD_lt (by omega), getD_lt (by omega)] at hc25
     rw [List.getElem?_eq_getElem (by omega), List.getElem?_eq_getElem (by omega), hc25]
  ·
   try simp only [jcs] at hc14
   refine AWP.exit ?_
   refine jsr ?_
   refine jst hσ rfl rfl rfl rfl rfl ?_
   refine jn ?_
   refine AWP.ret ?_
   refine ⟨.inl rfl, _, Ent.refl, _, rfl, ?_⟩
   have e : xs = ys := List.ext_getElem? fun j => by
    rcases Nat.lt_or_ge j i with h | h
    ·
     exact hi.2 j h
    ·
     rw [List.getElem?_eq_none (by omega), List.getElem?_eq_none (by omega)]
   rw [decide_eq_true e]
theorem c1068t {L : Nat} (h1 : 4096 ≤ L) (h2 : L ≤ 1073741824) {a b : Tm} (h : a.c = b.c) : MC Tryz.prog L 102 [ptr a.cells, ptr b.cells] [] (Plain (eB (decide (a = b)))) := by
 refine MC.alone ?_ rfl
 have hσ := SGok (nt := 25) h1 (Nat.le_trans h2 (by decide))
 refine MC.body hσ Tryz.func102 (by kernel_rfl) rfl rfl (Nat.le_of_ble_eq_true rfl) (fun hF => ?_)
 refine jsr ?_
 refine jst hσ rfl rfl rfl rfl rfl ?_
 refine jn ?_
 refine AWP.seq ?_
 refine AWP.drawG hσ _ [_, _, _, _, _, _, _, _, _, _, _, _, _, _, _, _, _, _, _, _, _] [⟨[], 0, 0, none⟩, ⟨[0], 0, 0, none⟩, ⟨[0, 1], 0, 0, none⟩, ⟨[0, 1, 2], 0, 0, none⟩, ⟨[], 0, 0, none⟩, ⟨[4], 0, 0, none⟩, ⟨[4, 5], 0, 0, none⟩, ⟨[4, 5, 6], 0, 0, none⟩, ⟨[0, 1, 2, 3, 4, 5, 6, 7], 0, 0, none⟩, ⟨[0, 1, 2, 3, 4, 5, 6, 7, 8], 0, 0, none⟩, ⟨[0, 1, 2, 3, 4, 5, 6, 7, 8, 9], 0, 0, none⟩, ⟨[0, 1, 2, 3, 4, 5, 6, 7, 8, 9, 10], 0, 0, none⟩, ⟨[0, 1, 2, 3, 4, 5, 6, 7, 8, 9, 10, 11], 0, 0, none⟩, ⟨[0, 1, 2, 3, 4, 5, 6, 7, 8, 9, 10, 11, 12], 0, 0, none⟩, ⟨[0, 1, 2, 3, 4, 5, 6, 7, 8, 9], 0, 0, none⟩, ⟨[0, 1, 2, 3, 4, 5, 6, 7, 8, 9, 14], 0, 0, none⟩, ⟨[0, 1, 2, 3, 4, 5, 6, 7, 8, 9, 14, 15], 0, 0, none⟩, ⟨[0, 1, 2, 3, 4, 5, 6, 7, 8, 9, 14, 15, 16], 0, 0, none⟩, ⟨[0, 1, 2, 3, 4, 5, 6, 7, 8, 9, 10, 11, 12, 13, 14, 15, 16, 17], 0, 0, some 0⟩, ⟨[0, 1, 2, 3, 4, 5, 6, 7, 8, 9, 10, 11, 12, 13, 14, 15, 16, 17, 18], 1, 1, none⟩, ⟨[0, 1, 2, 3, 4, 5, 6, 7, 8, 9, 10, 11, 12, 13, 14, 15, 16, 17, 18, 19], 1, 1, none⟩] [18] [_, _] rfl rfl (by decide) (by decide) (by kernel_rfl) (And.intro (Val.of hσ rfl rfl) (And.intro (Val.of hσ rfl rfl) (And.intro (Val.of hσ rfl rfl) (And.intro (Val.of hσ rfl rfl) (And.intro (Val.of hσ rfl rfl) (And.intro (Val.of hσ rfl rfl) (And.intro (Val.of hσ rfl rfl) (And.intro (Val.of hσ rfl rfl) (And.intro ((Val.of hσ rfl rfl).cast (v' := eB true) (by rw [decide_eq_true h])) (And.intro (Val.of hσ rfl rfl) (And.intro (Val.of hσ rfl rfl) (And.intro (Val.of hσ rfl rfl) (And.intro (Val.of hσ rfl rfl) (And.intro (Val.of hσ rfl rfl) (And.intro (Val.of hσ rfl rfl) (And.intro (Val.of hσ rfl rfl) (And.intro (Val.of hσ rfl rfl) (And.intro (Val.of hσ rfl rfl) (And.intro (Eff.lone hσ (B0 := 24000) rfl rfl rfl rfl (c1071 h1 h2) (VAs.self rfl) rfl rfl rfl rfl rfl) (And.intro (Val.pickY hσ rfl rfl rfl rfl rfl) (And.intro (Val.of hσ rfl rfl) trivial))))))))))))))))))))) ?_
 refine AWP.ret ?_
 refine ⟨.inl rfl, _, Ent.refl, _, rfl, ?_⟩
 rw [show decide (a = b) = decide (a.xs = b.xs) from decide_eq_decide.2 ⟨fun e => by rw [e], fun e => by cases a; cases b; simp_all⟩]
theorem c1068f {L : Nat} (h1 : 4096 ≤ L) (h2 : L ≤ 1073741824) {a b : Tm} (h : ¬ a.c = b.c) : MC Tryz.prog L 102 [ptr a.cells, ptr b.cells] [] (Plain (eB (decide (a = b)))) := by
 refine MC.alone ?_ rfl
 have hσ := SGok (nt := 25) h1 (Nat.le_trans h2 (by decide))
 refine MC.body hσ Tryz.func102 (by kernel_rfl) rfl rfl (Nat.le_of_ble_eq_true rfl) (fun hF => ?_)
 refine jsr ?_
 refine jst hσ rfl rfl rfl rfl rfl ?_
 refine jn ?_
 refine AWP.seq ?_
 refine AWP.drawG hσ _ [_, _, _, _, _, _, _, _, _, _, _, _, _, _, _, _, _, _, _, _, _] [⟨[], 0, 0, none⟩, ⟨[0], 0, 0, none⟩, ⟨[0, 1], 0, 0, none⟩, ⟨[0, 1, 2], 0, 0, none⟩, ⟨[], 0, 0, none⟩, ⟨[4], 0, 0, none⟩, ⟨[4, 5], 0, 0, none⟩, ⟨[4, 5, 6], 0, 0, none⟩, ⟨[0, 1, 2, 3, 4, 5, 6, 7], 0, 0, none⟩, ⟨[0, 1, 2, 3, 4, 5, 6, 7, 8], 0, 0, none⟩, ⟨[0, 1, 2, 3, 4, 5, 6, 7, 8, 9], 0, 0, none⟩, ⟨[0, 1, 2, 3, 4, 5, 6, 7, 8, 9, 10], 0, 0, none⟩, ⟨[0, 1, 2, 3, 4, 5, 6, 7, 8, 9, 10, 11], 0, 0, none⟩, ⟨[0, 1, 2, 3, 4, 5, 6, 7, 8, 9, 10, 11, 12], 0, 0, none⟩, ⟨[0, 1, 2, 3, 4, 5, 6, 7, 8, 9], 0, 0, none⟩, ⟨[0, 1, 2, 3, 4, 5, 6, 7, 8, 9, 14], 0, 0, none⟩, ⟨[0, 1, 2, 3, 4, 5, 6, 7, 8, 9, 14, 15], 0, 0, none⟩, ⟨[0, 1, 2, 3, 4, 5, 6, 7, 8, 9, 14, 15, 16], 0, 0, none⟩, ⟨[0, 1, 2, 3, 4, 5, 6, 7, 8, 9, 10, 11, 12, 13, 14, 15, 16, 17], 0, 0, none⟩, ⟨[0, 1, 2, 3, 4, 5, 6, 7, 8, 9, 10, 11, 12, 13, 14, 15, 16, 17, 18], 0, 0, none⟩, ⟨[0, 1, 2, 3, 4, 5, 6, 7, 8, 9, 10, 11, 12, 13, 14, 15, 16, 17, 18, 19], 0, 0, none⟩] [] [_] rfl rfl (by decide) (by decide) (by kernel_rfl) (And.intro (Val.of hσ rfl rfl) (And.intro (Val.of hσ rfl rfl) (And.intro (Val.of hσ rfl rfl) (And.intro (Val.of hσ rfl rfl) (And.intro (Val.of hσ rfl rfl) (And.intro (Val.of hσ rfl rfl) (And.intro (Val.of hσ rfl rfl) (And.intro (Val.of hσ rfl rfl) (And.intro ((Val.of hσ rfl rfl).cast (v' := eB false) (by rw [decide_eq_false h])) (And.intro (Val.of hσ rfl rfl) (And.intro ⟨rfl, rfl⟩ (And.intro ⟨rfl, rfl⟩ (And.intro ⟨rfl, rfl⟩ (And.intro ⟨rfl, rfl⟩ (And.intro ⟨rfl, rfl⟩ (And.intro ⟨rfl, rfl⟩ (And.intro ⟨rfl, rfl⟩ (And.intro ⟨rfl, rfl⟩ (And.intro ⟨rfl, rfl⟩ (And.intro (Val.pickN hσ rfl rfl rfl rfl rfl) (And.intro (Val.of hσ rfl rfl) trivial))))))))))))))))))))) ?_
 refine AWP.ret ?_
 refine ⟨.inl rfl, _, Ent.refl, _, rfl, ?_⟩
 rw [decide_eq_false (fun e => h (by rw [e]))]
theorem c1068 {L : Nat} (h1 : 4096 ≤ L) (h2 : L ≤ 1073741824) {a b : Tm} : MC Tryz.prog L 102 [ptr a.cells, ptr b.cells] [] (Plain (eB (decide (a = b)))) := by
 by_cases h : a.c = b.c
 ·
  exact c1068t h1 h2 h
 ·
  exact c1068f h1 h2 h
theorem c1062 {L : Nat} (h1 : 4096 ≤ L) (h2 : L ≤ 1073741824) {ts : List Tm} {t : Tm} : MC Tryz.prog L 89 [atms ts, ptr t.cells] [] (Plain (eB (knownB ts t))) := by
 refine MC.alone ?_ rfl
 have hσ := SGok (nt := 17) h1 (Nat.le_trans h2 (by decide))
 refine MC.body hσ Tryz.func89 (by kernel_rfl) rfl rfl (Nat.le_of_ble_eq_true rfl) (fun hF => ?_)
 have hl : ts.length ≤ L := by simpa [As.fact, A.fact, M.fact, D.fact, Ds.fact] using hF.1.1
 refine jsr ?_
 refine jst hσ rfl rfl rfl rfl rfl ?_
 refine jn ?_
 refine AWP.seq ?_
 refine jsr ?_
 refine jst hσ rfl rfl rfl rfl rfl ?_
 refine jn ?_
 refine AWP.block ?_
 refine AWP.loopP (X := Nat) (fun i => ⟨[(0, atms ts), (1, ptr t.cells), (5, eI i)], []⟩) (fun i => i ≤ ts.length ∧ ∀ j (h : j < ts.length), j < i → decide (ts[j] = t) = false) (fun i => ts.length - i) 0 (Ent.env ⟨rfl, rfl, rfl, trivial⟩) ?_ (fun i hi => ?_)
 ·
  exact ⟨Nat.zero_le _, fun j h hj => absurd hj (Nat.not_lt_zero j)⟩
 refine AWP.seq ?_
 refine jsr ?_
 iterate 2 refine jst hσ rfl rfl rfl rfl rfl ?_
 first | refine jle hσ rfl rfl rfl rfl rfl rfl rfl rfl rfl rfl rfl ?_ | refine jst hσ rfl rfl rfl rfl rfl ?_ | refine jvf hσ rfl rfl rfl rfl rfl ?_
 refine jst hσ rfl rfl rfl rfl rfl ?_
 refine jn ?_
 refine AWP.cond hσ rfl rfl (fun hc9 => ?_) (fun hc9 => ?_)
 ·
  try simp only [jcs] at hc9
  refine AWP.skip ?_
  refine AWP.seq ?_
  refine AWP.block ?_
  refine jsr ?_
  iterate 2 refine jst hσ rfl rfl rfl rfl rfl ?_
  first | refine jin hσ rfl rfl rfl rfl rfl rfl rfl rfl rfl rfl rfl ?_ | refine jix hσ rfl rfl rfl rfl rfl rfl rfl rfl rfl rfl rfl ?_ | refine jvf hσ rfl rfl rfl rfl rfl ?_
  refine jst hσ rfl rfl rfl rfl rfl ?_
  refine AOps.lone hσ rfl rfl rfl rfl (c1068 (a := ts.getD i default) (b := t) h1 h2) (VAs.self rfl) rfl rfl rfl rfl rfl (B0 := 17000) rfl ?_
  refine jn ?_
  refine AWP.cond hσ rfl rfl (fun hc16 => ?_) (fun hc16 => ?_)
  ·
   try simp only [jcs] at hc16
   refine jsr ?_
   refine jst hσ rfl rfl rfl rfl rfl ?_
   refine jn ?_
   refine AWP.ret ?_
   refine ⟨.inl rfl, _, Ent.refl, _, rfl, ?_⟩
   rw [getD_lt (by omega)] at hc16
   rw [show knownB ts t = true from List.any_eq_true.2 ⟨ts[i], List.getElem_mem _, decide_eq_true hc16⟩]
  ·
   try simp only [jcs] at hc16
   refine AWP.skip ?_
   refine AWP.region ?_
   refine jst hσ rfl rfl rfl rfl rfl ?_
   first | refine jfi hσ rfl rfl rfl rfl rfl ?_ | refine jvf hσ rfl rfl rfl rfl rfl ?_
   refine jst hσ rfl rfl rfl rfl rfl ?_
   refine jn ?_
   refine ⟨i + 1, Ent.env ⟨rfl, rfl, rfl, trivial⟩, ⟨by omega, fun j h hj => ?_⟩, by omega⟩
   by_cases e : j = i
   ·
    subst e; rw [getD_lt h] at hc16; exact decide_eq_false hc16
   ·
    exact hi.2 j h (by omega)
 ·
  try simp only [jcs] at hc9
  refine AWP.exit ?_
  refine jsr ?_
  refine jst hσ rfl rfl rfl rfl rfl ?_
  refine jn ?_
  refine AWP.ret ?_
  refine ⟨.inl rfl, _, Ent.refl, _, rfl, ?_⟩
  rw [show knownB ts t = false from List.any_eq_false.2 fun x hx => by
   obtain ⟨j, hj, rfl⟩ := List.mem_iff_getElem.1 hx
   simpa using hi.2 j hj (by omega)]
theorem c1072 {L : Nat} (h1 : 4096 ≤ L) (h2 : L ≤ 1073741824) {a b : Int} (ha : 0 ≤ a ∧ a ≤ 4000000000000) (hb : -4000000000000 ≤ b ∧ b ≤ 4000000000000) : MC Tryz.prog L 107 [eI a, eI b] [] (Plain (eI (Nat.gcd a.natAbs b.natAbs))) := by
 refine MC.alone ?_ rfl
 have hσ := SGok (nt := 18) h1 (Nat.le_trans h2 (by decide))
 refine MC.body hσ Tryz.func107 (by kernel_rfl) rfl rfl (Nat.le_of_ble_eq_true rfl) (fun hF => ?_)
 refine jsr ?_
 refine jst hσ rfl rfl rfl rfl rfl ?_
 refine jns ?_
 iterate 2 refine jst hσ rfl rfl rfl rfl rfl ?_
 refine jfi hσ rfl rfl rfl rfl rfl ?_
 refine AOps.lone hσ rfl rfl rfl rfl (c209 h1 h2) (VAs.self rfl) rfl rfl rfl rfl rfl (B0 := 10000) rfl ?_
 refine jst hσ rfl rfl rfl rfl rfl ?_
 refine jn ?_
 refine AWP.seq ?_
 refine AWP.block ?_
 refine AWP.loopP (X := Nat × Nat) (fun z => ⟨[(0, eI z.1), (1, eI z.2)], []⟩) (fun z => Nat.gcd z.1 z.2 = Nat.gcd a.natAbs b.natAbs ∧ z.1 ≤ 4000000000000 ∧ z.2 ≤ 4000000000000) (fun z => z.2) (a.natAbs, b.natAbs) (Ent.env ⟨congrArg (fun z => some (eI z)) (show a = (a.natAbs : Int) by omega), congrArg (fun z => some (eI z)) (mx_abs b), trivial⟩) ?_ (fun z hi => ?_)
 ·
  exact ⟨rfl, by show a.natAbs ≤ _; omega, by show b.natAbs ≤ _; omega⟩
 have hz : -4000000000000 ≤ (z.1 : Int).tmod z.2 ∧ (z.1 : Int).tmod z.2 ≤ 4000000000000 := by have := Nat.mod_le z.1 z.2; rw [← Int.ofNat_tmod]; omega
 refine AWP.seq ?_
 refine jsr ?_
 iterate 2 refine jst hσ rfl rfl rfl rfl rfl ?_
 refine jn ?_
 refine AWP.cond hσ rfl rfl (fun hc11 => ?_) (fun hc11 => ?_)
 ·
  try simp only [jcs] at hc11
  refine AWP.skip ?_
  refine AWP.block ?_
  refine jsr ?_
  iterate 2 refine jst hσ rfl rfl rfl rfl rfl ?_
  first | refine AOps.step (Val.rem64 hσ rfl rfl rfl rfl (by first | omega | (simp at *; omega)) (by first | omega | (simp at *; omega)) (by first | omega | (simp at *; omega))) rfl rfl rfl ?_ | refine jfi hσ rfl rfl rfl rfl rfl ?_
  refine jst hσ rfl rfl rfl rfl rfl ?_
  refine jns ?_
  iterate 2 refine jst hσ rfl rfl rfl rfl rfl ?_
  refine jn ?_
  refine AWP.region ?_
  iterate 2 refine jst hσ rfl rfl rfl rfl rfl ?_
  refine jn ?_
  have hm : z.1 % z.2 < z.2 := Nat.mod_lt _ (by omega)
  refine ⟨(z.2, z.1 % z.2), Ent.env ⟨rfl, rfl, trivial⟩, ⟨?_, hi.2.2, by show z.1 % z.2 ≤ 4000000000000; omega⟩, hm⟩
  show Nat.gcd z.2 (z.1 % z.2) = _
  rw [← hi.1, Nat.gcd_comm z.2, ← Nat.gcd_rec, Nat.gcd_comm]
 ·
  try simp only [jcs] at hc11
  refine AWP.exit ?_
  refine jsr ?_
  iterate 2 refine jst hσ rfl rfl rfl rfl rfl ?_
  refine jn ?_
  refine AWP.ret ?_
  refine ⟨.inl rfl, _, Ent.refl, _, rfl, ?_⟩
  have hz0 : z.2 = 0 := by omega
  rw [← hi.1, hz0, Nat.gcd_zero_right]
theorem c1057 {L : Nat} (h1 : 4096 ≤ L) (h2 : L ≤ 1073741824) {r : Rw} (h : r.tm.ok = true) : MC Tryz.prog L 73 [ptr r.cells] [] (Plain (aTm' r.tm)) := by
 refine MC.data ?_
 have hσ := SGok (nt := 18) h1 (Nat.le_trans h2 (by decide))
 refine MC.body hσ Tryz.func73 (by kernel_rfl) rfl rfl (Nat.le_of_ble_eq_true rfl) (fun hF => ?_)
 refine jsr ?_
 refine AOps.heap (HS.alloc hσ rfl rfl rfl rfl rfl) rfl ?_
 refine jn ?_
 refine AWP.seq ?_
 refine AWP.drawF2 hσ _ [_, _, _, _, _, _, _, _, _, _, _, _, _, _, _] [⟨[], 0, 0, none⟩, ⟨[0], 0, 0, none⟩, ⟨[0, 1], 0, 0, none⟩, ⟨[0, 1, 2], 0, 0, none⟩, ⟨[], 0, 0, none⟩, ⟨[4], 0, 0, none⟩, ⟨[4, 5], 0, 0, none⟩, ⟨[4, 5, 6], 0, 0, none⟩, ⟨[0, 1, 2, 3, 4, 5, 6, 7], 0, 0, some 0⟩, ⟨[0, 1, 2, 3, 4, 5, 6, 7, 8], 1, 1, none⟩, ⟨[0, 1, 2, 3, 4, 5, 6, 7, 8, 9], 1, 1, none⟩, ⟨[0, 1, 2, 3, 4, 5, 6, 7, 8, 9], 1, 2, none⟩, ⟨[], 0, 1, none⟩, ⟨[0, 1, 2, 3, 4, 5, 6, 7, 8, 9, 10, 12], 0, 0, some 1⟩, ⟨[0, 1, 2, 3, 4, 5, 6, 7, 8, 9, 10, 11, 12, 13], 2, 2, none⟩] [8, 13] 12 3 (.box [.d (.int .i64 0), .d .nils]) [_, _] [_] [] rfl rfl (by decide) (by decide) (by decide) rfl (by kernel_rfl) (And.intro (And.intro (and_flip (Val.of hσ rfl rfl) (Val.of hσ rfl rfl)) rfl) (And.intro (And.intro (and_flip (Val.of hσ rfl rfl) (Val.of hσ rfl rfl)) rfl) (And.intro (And.intro (and_flip (Val.of hσ rfl rfl) (Val.of hσ rfl rfl)) rfl) (And.intro (And.intro (and_flip (Val.of hσ rfl rfl) (Val.of hσ rfl rfl)) rfl) (And.intro (And.intro (and_flip (Val.of hσ rfl rfl) (Val.of hσ rfl rfl)) rfl) (And.intro (And.intro (and_flip (Val.of hσ rfl rfl) (Val.of hσ rfl rfl)) rfl) (And.intro (And.intro (and_flip (Val.of hσ rfl rfl) (Val.of hσ rfl rfl)) rfl) (And.intro (And.intro (and_flip (Val.of hσ rfl rfl) (Val.of hσ rfl rfl)) rfl) (And.intro (And.intro (and_flip (Eff.p (Eff.plainD hσ (B0 := 15000) rfl rfl rfl rfl ((c199 (c := r.c) (xs := r.xs) h1 h2).plain (u := .tup [aTm' r.tm, eB true]) (by rw [mkT, if_pos h])) (VAs.self rfl) rfl rfl rfl rfl rfl)) (Eff.p (Eff.plainD hσ (B0 := 15000) rfl rfl rfl rfl ((c199 (c := r.c) (xs := r.xs) h1 h2).plain (u := .tup [aTm' r.tm, eB true]) (by rw [mkT, if_pos h])) (VAs.self rfl) rfl rfl rfl rfl rfl))) rfl) (And.intro (And.intro (and_flip (Val.of hσ rfl rfl) (Val.of hσ rfl rfl)) rfl) (And.intro (And.intro (and_flip (Val.of hσ rfl rfl) (Val.of hσ rfl rfl)) rfl) (And.intro (And.intro (And.intro (and_flip (Val.of hσ rfl rfl) (Val.of hσ rfl rfl)) rfl) (And.intro (and_flip (Val.of hσ rfl rfl) (Val.of hσ rfl rfl)) rfl)) (And.intro (And.intro (And.intro (Eff.p (Eff.alloc hσ rfl rfl rfl rfl rfl rfl)) rfl) (And.intro (Eff.p (Eff.alloc hσ rfl rfl rfl rfl rfl rfl)) rfl)) (And.intro (And.intro (and_flip trivial (Eff.p (Eff.storeBox hσ rfl rfl rfl rfl rfl rfl rfl rfl rfl rfl rfl rfl rfl))) rfl) (And.intro (And.intro (and_flip trivial (Val.of hσ rfl rfl)) rfl) trivial))))))))))))))) ?_
 refine AWP.forget [(3, _), (2, _)] ⟨rfl, rfl, trivial⟩ ?_
 refine jnw ?_
 refine jsr ?_
 refine jst hσ rfl rfl rfl rfl rfl ?_
 refine AOps.heap (HS.storeBox hσ rfl rfl rfl rfl rfl rfl rfl rfl rfl rfl rfl) rfl ?_
 refine jn ?_
 refine AWP.ret ?_
 refine ⟨.inl rfl, _, Ent.refl, _, rfl, ?_⟩
 exact .v (.agg (VMs.self rfl))
theorem c182h {L : Nat} (h1 : 4096 ≤ L) (h2 : L ≤ 1073741824) {ts : List Tm} {a : Nat} {t : Tm} (hget : (ts.map Tm.cells)[a]? = some t.cells) (ht : Small t) (ht10 : t.xs.length ≤ 10) : MC Tryz.prog L 88 [.c (.pt 0 a 0)] [(0, drow ts)] (Outs (resTm (tightS t)) [(0, drow ts)]) := by
 refine MC.shift 500 rfl ?_
 refine MC.dataH ?_
 have hσ := SgOk.withIns (js := [500]) (SGok (nt := 55) h1 (Nat.le_trans h2 (by decide)))
 refine MC.bodyH hσ Tryz.func88 (by kernel_rfl) rfl rfl rfl (Nat.le_of_ble_eq_true rfl) (fun hF => ?_)
 refine jsr ?_
 refine AOps.heap (HS.alloc hσ rfl rfl rfl rfl rfl) rfl ?_
 refine jst hσ rfl rfl rfl rfl rfl ?_
 refine jns ?_
 refine jst hσ rfl rfl rfl rfl rfl ?_
 refine AOps.lone hσ rfl rfl rfl rfl (c198 (t := t) h1 h2 ht.xs) (.cons (.c (.pe rfl hget)) .nil) rfl rfl rfl rfl rfl (B0 := 10000) rfl ?_
 refine jst hσ rfl rfl rfl rfl rfl ?_
 refine jf4 4 3 2 0 rfl rfl rfl rfl ?_
 refine jn ?_
 refine AWP.seq ?_
 refine jsr ?_
 iterate 2 refine jst hσ rfl rfl rfl rfl rfl ?_
 refine jn ?_
 refine AWP.cond hσ rfl rfl (fun hc11 => ?_) (fun hc11 => ?_)
 ·
  try simp only [jcs] at hc11
  refine jsr ?_
  refine jst hσ rfl rfl rfl rfl rfl ?_
  refine jf6 12 10 4 3 2 0 rfl rfl rfl rfl rfl rfl ?_
  refine AOps.heap (HS.storeBox hσ rfl rfl rfl rfl rfl rfl rfl rfl rfl rfl rfl) rfl ?_
  refine jst hσ rfl rfl rfl rfl rfl ?_
  refine jn ?_
  refine AWP.ret ?_
  refine ⟨.inl rfl, _, Ent.refl, _, rfl, ?_⟩
  refine ⟨?_, rfl⟩
  rw [show tightS t = (⟨0, []⟩, false) from if_pos (by omega)]
  exact .tup (.cons (.agg (.cons .d (.cons .nils .nil))) (.cons (.c .d) .nil))
 ·
  try simp only [jcs] at hc11
  refine AWP.skip ?_
  refine jsr ?_
  have hxl := ht10
  obtain ⟨g, hg⟩ : ∃ g : Int, g = (gcdL t.xs : Int) := ⟨_, rfl⟩
  rw [← hg]
  rw [← hg] at hc11
  refine AOps.heap (HS.lit hσ rfl rfl rfl) rfl ?_
  refine jst hσ rfl rfl rfl rfl rfl ?_
  refine jf6 5 10 4 3 2 0 rfl rfl rfl rfl rfl rfl ?_
  refine jn ?_
  refine AWP.seq ?_
  refine jsr ?_
  refine jst hσ rfl rfl rfl rfl rfl ?_
  refine jn ?_
  refine AWP.block ?_
  refine AWP.loopP (X := Nat) (fun i => ⟨[(0, .c (.pt 500 a 0)), (2, .c (.pt 2 0 0)), (4, eI g), (5, .c (.rs 900 0 i)), (6, eI i)], [(2, .box [.d (.int .i64 0), .d .nils]), (900, nrow ((t.xs.map fun x => x.tdiv g).take i)), (500, drow ts)]⟩) (fun i => i ≤ t.xs.length) (fun i => t.xs.length - i) 0 ((Ent.sub2 13 900 rfl rfl).trans (Ent.to ⟨rfl, rfl, rfl, rfl, rfl, trivial⟩ rfl)) ?_ (fun i hi => ?_)
  ·
   exact Nat.zero_le _
  refine AWP.seq ?_
  refine jsr ?_
  iterate 4 refine jst hσ rfl rfl rfl rfl rfl ?_
  refine AOps.step (Val.loadRow hσ (ex := t.cells) rfl rfl rfl rfl hget rfl) rfl rfl rfl ?_
  first | refine jle hσ rfl rfl rfl rfl rfl rfl rfl rfl rfl rfl rfl ?_ | refine jst hσ rfl rfl rfl rfl rfl ?_ | refine jvf hσ rfl rfl rfl rfl rfl ?_
  refine jst hσ rfl rfl rfl rfl rfl ?_
  refine jf6 20 0 2 4 5 6 rfl rfl rfl rfl rfl rfl ?_
  refine jn ?_
  refine AWP.cond hσ rfl rfl (fun hc20 => ?_) (fun hc20 => ?_)
  ·
   try simp only [jcs] at hc20
   refine AWP.skip ?_
   refine AWP.seq ?_
   refine AWP.block ?_
   refine AWP.region ?_
   have hx := tdiv_in (b := g) (num_iff.1 (List.all_eq_true.1 ht.xs _ (List.getElem_mem (show i < t.xs.length by omega))))
   rw [← getD_lt (by omega)] at hx
   iterate 4 refine jst hσ rfl rfl rfl rfl rfl ?_
   refine AOps.step (Val.loadRow hσ (ex := t.cells) rfl rfl rfl rfl hget rfl) rfl rfl rfl ?_
   refine jst hσ rfl rfl rfl rfl rfl ?_
   first | refine jin hσ rfl rfl rfl rfl rfl rfl rfl rfl rfl rfl rfl ?_ | refine jix hσ rfl rfl rfl rfl rfl rfl rfl rfl rfl rfl rfl ?_ | refine jvf hσ rfl rfl rfl rfl rfl ?_
   iterate 2 refine jst hσ rfl rfl rfl rfl rfl ?_
   refine AOps.step (Val.quo64 hσ rfl rfl rfl rfl (by omega) (by omega) (by omega)) rfl rfl rfl ?_
   refine jf8 32 23 20 0 2 4 5 6 rfl rfl rfl rfl rfl rfl rfl rfl ?_
   refine AOps.heap (HS.lit hσ rfl rfl rfl) rfl ?_
   refine jf8 33 23 20 0 2 4 5 6 rfl rfl rfl rfl rfl rfl rfl rfl ?_
   refine AOps.heap (HS.appMove (zs := ((t.xs.map fun x => x.tdiv g).take (i + 1)).map fun n => [.int .i64 n]) (n := i + 1) hσ rfl rfl rfl rfl rfl rfl rfl rfl rfl rfl rfl rfl rfl rfl rfl rfl (.row rfl (by simp; omega)) rfl rfl (by decide) rfl (by simp; omega) (by simp; omega) (by rw [List.take_succ_eq_append_getElem (by simp; omega), List.map_append, List.getElem_map, getD_lt (by omega)]; rfl) (by simp; omega)) rfl ?_
   refine jst hσ rfl rfl rfl rfl rfl ?_
   refine jf6 5 20 0 2 4 6 rfl rfl rfl rfl rfl rfl ?_
   refine jn ?_
   refine AWP.region ?_
   refine jst hσ rfl rfl rfl rfl rfl ?_
   first | refine jfi hσ rfl rfl rfl rfl rfl ?_ | refine jvf hσ rfl rfl rfl rfl rfl ?_
   refine jst hσ rfl rfl rfl rfl rfl ?_
   refine jf6 6 5 20 0 2 4 rfl rfl rfl rfl rfl rfl ?_
   refine jn ?_
   refine ⟨i + 1, ((Ent.sel [2, 34, 500] (e' := [(0, _), (2, _), (4, _), (5, _), (6, _)]) rfl rfl ⟨rfl, rfl, rfl, rfl, rfl, trivial⟩ rfl).trans (Ent.sub2 34 900 rfl rfl)), by omega, by omega⟩
  ·
   try simp only [jcs] at hc20
   refine AWP.exit ?_
   refine jsr ?_
   have hc0 := num_iff.1 ht.c
   have hq := tdiv_in (b := g) hc0
   have hr := tmod_in (b := g) hc0
   obtain rfl : i = t.xs.length := by omega
   rw [List.take_of_length_le (by simp)]
   refine AOps.to (Ent.freeze 900 (e' := [(2, _), (4, _), (5, _), (0, _)]) rfl (.cons rfl (.keep rfl) (.cons rfl (.keep rfl) (.cons rfl (.c (.row rfl (by simp))) (.cons rfl (.keep rfl) .nil)))) (.cons rfl (.box (.cons (.keep rfl) (.cons (.keep rfl) .nil))) (.skip (.cons rfl .row .nil)))) ?_
   iterate 3 refine jst hσ rfl rfl rfl rfl rfl ?_
   refine AOps.step (Val.loadRow hσ (ex := t.cells) rfl rfl rfl rfl hget rfl) rfl rfl rfl ?_
   refine jst hσ rfl rfl rfl rfl rfl ?_
   first | refine AOps.step (Val.quo64 hσ rfl rfl rfl rfl (by first | omega | (simp at *; omega)) (by first | omega | (simp at *; omega)) (by first | omega | (simp at *; omega))) rfl rfl rfl ?_ | refine jfi hσ rfl rfl rfl rfl rfl ?_
   refine jst hσ rfl rfl rfl rfl rfl ?_
   refine jf5 7 2 4 5 0 rfl rfl rfl rfl rfl ?_
   refine jn ?_
   refine AWP.seq ?_
   refine jsr ?_
   iterate 3 refine jst hσ rfl rfl rfl rfl rfl ?_
   refine AOps.step (Val.loadRow hσ (ex := t.cells) rfl rfl rfl rfl hget rfl) rfl rfl rfl ?_
   refine jst hσ rfl rfl rfl rfl rfl ?_
   first | refine AOps.step (Val.rem64 hσ rfl rfl rfl rfl (by first | omega | (simp at *; omega)) (by first | omega | (simp at *; omega)) (by first | omega | (simp at *; omega))) rfl rfl rfl ?_ | refine jfi hσ rfl rfl rfl rfl rfl ?_
   refine jst hσ rfl rfl rfl rfl rfl ?_
   refine jf6 47 7 2 4 5 0 rfl rfl rfl rfl rfl rfl ?_
   refine jn ?_
   refine AWP.cond hσ rfl rfl (fun hc47 => ?_) (fun hc47 => ?_)
   ·
    try simp only [jcs] at hc47
    refine AWP.region ?_
    refine jst hσ rfl rfl rfl rfl rfl ?_
    first | refine jfi hσ rfl rfl rfl rfl rfl ?_ | refine jvf hσ rfl rfl rfl rfl rfl ?_
    refine jst hσ rfl rfl rfl rfl rfl ?_
    refine jf6 7 47 2 4 5 0 rfl rfl rfl rfl rfl rfl ?_
    refine jns ?_
    iterate 2 refine jst hσ rfl rfl rfl rfl rfl ?_
    refine AOps.plainD hσ rfl rfl rfl rfl (c199 (c := _) (xs := t.xs.map fun x => x.tdiv g) h1 h2) (VAs.self rfl) rfl rfl rfl rfl (B0 := 53000) rfl rfl ?_
    iterate 2 refine jst hσ rfl rfl rfl rfl rfl ?_
    refine jf8 54 53 7 47 2 4 5 0 rfl rfl rfl rfl rfl rfl rfl rfl ?_
    refine AOps.heap (HS.storeBox hσ rfl rfl rfl rfl rfl rfl rfl rfl rfl rfl rfl) rfl ?_
    refine jst hσ rfl rfl rfl rfl rfl ?_
    refine jf7 3 7 47 2 4 5 0 rfl rfl rfl rfl rfl rfl rfl ?_
    refine jn ?_
    refine AWP.ret ?_
    refine ⟨.inl rfl, _, Ent.refl, _, rfl, ?_⟩
    refine ⟨?_, rfl⟩
    rw [show tightS t = mkT (t.c.tdiv g - 1) (t.xs.map fun x => x.tdiv g) by rw [hg, tightS, if_neg (by omega), if_pos (by rw [← hg]; exact hc47)]]
    exact .tup (.cons (.agg (VMs.self rfl)) (.cons (.c .d) .nil))
   ·
    try simp only [jcs] at hc47
    refine AWP.skip ?_
    refine jsr ?_
    iterate 2 refine jst hσ rfl rfl rfl rfl rfl ?_
    refine AOps.plainD hσ rfl rfl rfl rfl (c199 (c := _) (xs := t.xs.map fun x => x.tdiv g) h1 h2) (VAs.self rfl) rfl rfl rfl rfl (B0 := 53000) rfl rfl ?_
    iterate 2 refine jst hσ rfl rfl rfl rfl rfl ?_
    refine jf8 54 53 47 7 2 4 5 0 rfl rfl rfl rfl rfl rfl rfl rfl ?_
    refine AOps.heap (HS.storeBox hσ rfl rfl rfl rfl rfl rfl rfl rfl rfl rfl rfl) rfl ?_
    refine jst hσ rfl rfl rfl rfl rfl ?_
    refine jf7 3 47 7 2 4 5 0 rfl rfl rfl rfl rfl rfl rfl ?_
    refine jn ?_
    refine AWP.ret ?_
    refine ⟨.inl rfl, _, Ent.refl, _, rfl, ?_⟩
    refine ⟨?_, rfl⟩
    rw [show tightS t = mkT (t.c.tdiv g) (t.xs.map fun x => x.tdiv g) by rw [hg, tightS, if_neg (by omega), if_neg (by rw [← hg]; omega)]]
    exact .tup (.cons (.agg (VMs.self rfl)) (.cons (.c .d) .nil))
theorem c1055p {L : Nat} (h1 : 4096 ≤ L) (h2 : L ≤ 1073741824) {ts : List Tm} {a : Nat} {t : Tm} (hget : (ts.map Tm.cells)[a]? = some t.cells) (ht : t.ok = true) : MC Tryz.prog L 71 [.c (.rs 0 0 ts.length), .c (.pt 0 a 0)] [(0, drow ts)] (Outs (resTm (sharpR ts t)) [(0, drow ts)]) := by
 refine MC.shift 500 rfl ?_
 refine MC.dataH ?_
 have hσ := SgOk.withIns (js := [500]) (SGok (nt := 35) h1 (Nat.le_trans h2 (by decide)))
 refine MC.bodyH hσ Tryz.func71 (by kernel_rfl) rfl rfl rfl (Nat.le_of_ble_eq_true rfl) (fun hF => ?_)
 have hs := Small.of ht
 have hc := num_iff.1 hs.c
 have hr := tmod_in (a := t.c) (b := gcdL t.xs) hc
 refine jsr ?_
 refine AOps.heap (HS.alloc hσ rfl rfl rfl rfl rfl) rfl ?_
 refine jst hσ rfl rfl rfl rfl rfl ?_
 refine jns ?_
 refine jst hσ rfl rfl rfl rfl rfl ?_
 refine AOps.lone hσ rfl rfl rfl rfl (c198 (t := t) h1 h2 hs.xs) (.cons (.c (.pe rfl hget)) .nil) rfl rfl rfl rfl rfl (B0 := 11000) rfl ?_
 refine jst hσ rfl rfl rfl rfl rfl ?_
 refine jf5 6 5 4 0 1 rfl rfl rfl rfl rfl ?_
 refine jn ?_
 refine AWP.seq ?_
 refine jsr ?_
 iterate 3 refine jst hσ rfl rfl rfl rfl rfl ?_
 refine jf6 13 6 5 4 0 1 rfl rfl rfl rfl rfl rfl ?_
 refine AOps.gr 7 rfl rfl rfl (fun hx => AN.step hx rfl rfl rfl (Val.of hσ rfl rfl) rfl rfl ( AN.step hx rfl rfl rfl (Val.of hσ rfl rfl) rfl rfl ( AN.step hx rfl rfl rfl (Val.of hσ rfl rfl) rfl rfl ( AN.step hx rfl rfl rfl (Val.loadRow hσ (ex := t.cells) rfl rfl rfl rfl hget rfl) rfl rfl ( AN.step hx rfl rfl rfl (Val.of hσ rfl rfl) rfl rfl ( AN.step hx rfl rfl rfl (Val.rem64 hσ rfl rfl rfl rfl (by first | omega | (simp at *; omega)) (by first | omega | (simp at *; omega)) (by first | omega | (simp at *; omega))) rfl rfl ( AN.step hx rfl rfl rfl (Val.of hσ rfl rfl) rfl rfl ( AN.nil)))))))) rfl rfl ?_
 first | refine AOps.step (Val.pickF hσ rfl rfl rfl rfl rfl) rfl rfl rfl ?_ | refine AOps.step (Val.pickB hσ rfl rfl rfl rfl rfl) rfl rfl rfl ?_ | refine AOps.step (Val.pickT hσ rfl rfl rfl rfl rfl) rfl rfl rfl ?_
 refine jf5 21 5 4 0 1 rfl rfl rfl rfl rfl ?_
 refine jn ?_
 refine AWP.cond hσ rfl rfl (fun hc21 => ?_) (fun hc21 => ?_)
 ·
  try simp only [jcs] at hc21
  refine jsr ?_
  refine jst hσ rfl rfl rfl rfl rfl ?_
  refine jf5 22 5 4 0 1 rfl rfl rfl rfl rfl ?_
  refine AOps.heap (HS.storeBox hσ rfl rfl rfl rfl rfl rfl rfl rfl rfl rfl rfl) rfl ?_
  refine jst hσ rfl rfl rfl rfl rfl ?_
  refine jn ?_
  refine AWP.ret ?_
  refine ⟨.inl rfl, _, Ent.refl, _, rfl, ?_⟩
  refine ⟨?_, rfl⟩
  have hn : gcdL t.xs < 2 ∨ t.c.tmod (gcdL t.xs) = 0 := by by_cases h9 : gcdL t.xs < 2; exact .inl h9; refine .inr ?_; simpa [show ¬ (gcdL t.xs : Int) < 2 by omega] using hc21
  rw [show sharpR ts t = noTm from if_pos hn]
  exact .tup (.cons (.agg (.cons .d (.cons .nils .nil))) (.cons (.c .d) .nil))
 ·
  try simp only [jcs] at hc21
  refine AWP.skip ?_
  refine jsr ?_
  have hn : ¬ (gcdL t.xs < 2 ∨ t.c.tmod (gcdL t.xs) = 0) := by intro h9; rcases h9 with h9 | h9 <;> simp [h9] at hc21 <;> omega
  have hok := tight_ok2 ht (fun h => hn (.inl h))
  refine jst hσ rfl rfl rfl rfl rfl ?_
  refine jf5 24 5 4 0 1 rfl rfl rfl rfl rfl ?_
  refine AOps.inn hσ [500] (bin := [drow ts]) rfl rfl rfl rfl (c182h h1 h2 hget hs (ok_len ht)) rfl rfl rfl rfl rfl rfl (B0 := 26000) rfl rfl ?_
  refine jnm ?_
  iterate 3 refine jst hσ rfl rfl rfl rfl rfl ?_
  refine jf6 27 26 5 4 0 1 rfl rfl rfl rfl rfl rfl ?_
  refine AOps.heap (HS.alloc hσ rfl rfl rfl rfl rfl) rfl ?_
  refine AOps.heap (HS.storeBox hσ rfl rfl rfl rfl rfl rfl rfl rfl rfl rfl rfl) rfl ?_
  refine jst hσ rfl rfl rfl rfl rfl ?_
  refine jf6 8 7 5 4 0 1 rfl rfl rfl rfl rfl rfl ?_
  refine jn ?_
  refine AWP.seq ?_
  refine AWP.forget [(8, _), (7, _), (4, _), (0, _), (1, _)] ⟨rfl, rfl, rfl, rfl, rfl, trivial⟩ ?_
  rw [hok]
  refine AWP.drawG hσ _ [_, _, _, _, _, _, _, _, _] [⟨[], 0, 1, none⟩, ⟨[], 0, 0, none⟩, ⟨[1], 0, 0, none⟩, ⟨[1, 2], 0, 0, none⟩, ⟨[1, 2, 3], 0, 0, some 0⟩, ⟨[1, 2, 3, 4], 1, 2, none⟩, ⟨[1, 2, 3, 4, 5], 1, 2, none⟩, ⟨[0, 1, 2, 3, 4], 0, 0, some 1⟩, ⟨[0, 1, 2, 3, 4, 5, 6, 7], 2, 2, none⟩] [4, 7] [_, _, _] rfl rfl (by decide) (by decide) (by kernel_rfl) (And.intro (And.intro (Val.of hσ rfl rfl) (Val.of hσ rfl rfl)) (And.intro (Val.of hσ rfl rfl) (And.intro (Val.of hσ rfl rfl) (And.intro (Val.of hσ rfl rfl) (And.intro (Eff.lone hσ (B0 := 33000) rfl rfl rfl rfl (c1062 (ts := ts) (t := (tightS t).1) h1 h2) (.cons (.c (.whole rfl (List.length_map _).symm)) (.cons (.c (.pb (cs := Tm.cells (tightS t).1) rfl (VMs.self rfl))) .nil)) rfl rfl rfl rfl rfl) (And.intro (And.intro (Val.of hσ rfl rfl) (Val.of hσ rfl rfl)) (And.intro (And.intro (Val.pickY hσ rfl rfl rfl rfl rfl) (Val.pickY hσ rfl rfl rfl rfl rfl)) (And.intro (Eff.storeBox hσ rfl rfl rfl rfl rfl rfl rfl rfl rfl rfl rfl rfl rfl) (And.intro (Val.of hσ rfl rfl) trivial))))))))) ?_
  refine AWP.forget [(5, _), (7, _), (4, _), (1, _)] ⟨rfl, rfl, rfl, rfl, trivial⟩ ?_
  refine jnw ?_
  refine AWP.ret ?_
  refine ⟨.inl rfl, _, Ent.refl, _, rfl, ?_⟩
  refine ⟨?_, rfl⟩
  rw [show sharpR ts t = ((tightS t).1, !knownB ts (tightS t).1) by unfold sharpR; rw [if_neg hn, hok]; rfl]
  exact .tup (.cons (.agg (VMs.self rfl)) (.cons (.c .d) .nil))
theorem c1055q {L : Nat} (h1 : 4096 ≤ L) (h2 : L ≤ 1073741824) {ts : List Tm} {t : Tm} (ht : t.ok = true) : MC Tryz.prog L 71 [.c (.rs 0 0 ts.length), ptr t.cells] [(0, drow ts)] (Outs (resTm (sharpR ts t)) [(0, drow ts)]) := by
 refine MC.shift 500 rfl ?_
 refine MC.dataH ?_
 have hσ := SgOk.withIns (js := [500]) (SGok (nt := 35) h1 (Nat.le_trans h2 (by decide)))
 refine MC.bodyH hσ Tryz.func71 (by kernel_rfl) rfl rfl rfl (Nat.le_of_ble_eq_true rfl) (fun hF => ?_)
 have hs := Small.of ht
 have hc := num_iff.1 hs.c
 have hr := tmod_in (a := t.c) (b := gcdL t.xs) hc
 refine jsr ?_
 refine AOps.heap (HS.alloc hσ rfl rfl rfl rfl rfl) rfl ?_
 refine jst hσ rfl rfl rfl rfl rfl ?_
 refine jns ?_
 refine jst hσ rfl rfl rfl rfl rfl ?_
 refine AOps.lone hσ rfl rfl rfl rfl (c198 (t := t) h1 h2 hs.xs) (VAs.self rfl) rfl rfl rfl rfl rfl (B0 := 11000) rfl ?_
 refine jst hσ rfl rfl rfl rfl rfl ?_
 refine jf5 6 5 4 0 1 rfl rfl rfl rfl rfl ?_
 refine jn ?_
 refine AWP.seq ?_
 refine jsr ?_
 iterate 3 refine jst hσ rfl rfl rfl rfl rfl ?_
 refine jf6 13 6 5 4 0 1 rfl rfl rfl rfl rfl rfl ?_
 refine AOps.gr 7 rfl rfl rfl (fun hx => AN.step hx rfl rfl rfl (Val.of hσ rfl rfl) rfl rfl ( AN.step hx rfl rfl rfl (Val.of hσ rfl rfl) rfl rfl ( AN.step hx rfl rfl rfl (Val.of hσ rfl rfl) rfl rfl ( AN.step hx rfl rfl rfl (Val.of hσ rfl rfl) rfl rfl ( AN.step hx rfl rfl rfl (Val.of hσ rfl rfl) rfl rfl ( AN.step hx rfl rfl rfl (Val.rem64 hσ rfl rfl rfl rfl (by first | omega | (simp at *; omega)) (by first | omega | (simp at *; omega)) (by first | omega | (simp at *; omega))) rfl rfl ( AN.step hx rfl rfl rfl (Val.of hσ rfl rfl) rfl rfl ( AN.nil)))))))) rfl rfl ?_
 first | refine AOps.step (Val.pickF hσ rfl rfl rfl rfl rfl) rfl rfl rfl ?_ | refine AOps.step (Val.pickB hσ rfl rfl rfl rfl rfl) rfl rfl rfl ?_ | refine AOps.step (Val.pickT hσ rfl rfl rfl rfl rfl) rfl rfl rfl ?_
 refine jf5 21 5 4 0 1 rfl rfl rfl rfl rfl ?_
 refine jn ?_
 refine AWP.cond hσ rfl rfl (fun hc21 => ?_) (fun hc21 => ?_)
 ·
  try simp only [jcs] at hc21
  refine jsr ?_
  refine jst hσ rfl rfl rfl rfl rfl ?_
  refine jf5 22 5 4 0 1 rfl rfl rfl rfl rfl ?_
  refine AOps.heap (HS.storeBox hσ rfl rfl rfl rfl rfl rfl rfl rfl rfl rfl rfl) rfl ?_
  refine jst hσ rfl rfl rfl rfl rfl ?_
  refine jn ?_
  refine AWP.ret ?_
  refine ⟨.inl rfl, _, Ent.refl, _, rfl, ?_⟩
  refine ⟨?_, rfl⟩
  have hn : gcdL t.xs < 2 ∨ t.c.tmod (gcdL t.xs) = 0 := by by_cases h9 : gcdL t.xs < 2; exact .inl h9; refine .inr ?_; simpa [show ¬ (gcdL t.xs : Int) < 2 by omega] using hc21
  rw [show sharpR ts t = noTm from if_pos hn]
  exact .tup (.cons (.agg (.cons .d (.cons .nils .nil))) (.cons (.c .d) .nil))
 ·
  try simp only [jcs] at hc21
  refine AWP.skip ?_
  refine jsr ?_
  have hn : ¬ (gcdL t.xs < 2 ∨ t.c.tmod (gcdL t.xs) = 0) := by intro h9; rcases h9 with h9 | h9 <;> simp [h9] at hc21 <;> omega
  have hok := tight_ok2 ht (fun h => hn (.inl h))
  refine jst hσ rfl rfl rfl rfl rfl ?_
  refine jf5 24 5 4 0 1 rfl rfl rfl rfl rfl ?_
  refine AOps.plainD hσ rfl rfl rfl rfl (c182 (t := t) h1 h2 hs) (VAs.self rfl) rfl rfl rfl rfl (B0 := 26000) rfl rfl ?_
  iterate 3 refine jst hσ rfl rfl rfl rfl rfl ?_
  refine jf6 27 26 5 4 0 1 rfl rfl rfl rfl rfl rfl ?_
  refine AOps.heap (HS.alloc hσ rfl rfl rfl rfl rfl) rfl ?_
  refine AOps.heap (HS.storeBox hσ rfl rfl rfl rfl rfl rfl rfl rfl rfl rfl rfl) rfl ?_
  refine jst hσ rfl rfl rfl rfl rfl ?_
  refine jf6 8 7 5 4 0 1 rfl rfl rfl rfl rfl rfl ?_
  refine jn ?_
  refine AWP.seq ?_
  refine AWP.forget [(8, _), (7, _), (4, _), (0, _), (1, _)] ⟨rfl, rfl, rfl, rfl, rfl, trivial⟩ ?_
  rw [hok]
  refine AWP.drawG hσ _ [_, _, _, _, _, _, _, _, _] [⟨[], 0, 1, none⟩, ⟨[], 0, 0, none⟩, ⟨[1], 0, 0, none⟩, ⟨[1, 2], 0, 0, none⟩, ⟨[1, 2, 3], 0, 0, some 0⟩, ⟨[1, 2, 3, 4], 1, 2, none⟩, ⟨[1, 2, 3, 4, 5], 1, 2, none⟩, ⟨[0, 1, 2, 3, 4], 0, 0, some 1⟩, ⟨[0, 1, 2, 3, 4, 5, 6, 7], 2, 2, none⟩] [4, 7] [_, _, _] rfl rfl (by decide) (by decide) (by kernel_rfl) (And.intro (And.intro (Val.of hσ rfl rfl) (Val.of hσ rfl rfl)) (And.intro (Val.of hσ rfl rfl) (And.intro (Val.of hσ rfl rfl) (And.intro (Val.of hσ rfl rfl) (And.intro (Eff.lone hσ (B0 := 33000) rfl rfl rfl rfl (c1062 (ts := ts) (t := (tightS t).1) h1 h2) (.cons (.c (.whole rfl (List.length_map _).symm)) (.cons (.c (.pb (cs := Tm.cells (tightS t).1) rfl (VMs.self rfl))) .nil)) rfl rfl rfl rfl rfl) (And.intro (And.intro (Val.of hσ rfl rfl) (Val.of hσ rfl rfl)) (And.intro (And.intro (Val.pickY hσ rfl rfl rfl rfl rfl) (Val.pickY hσ rfl rfl rfl rfl rfl)) (And.intro (Eff.storeBox hσ rfl rfl rfl rfl rfl rfl rfl rfl rfl rfl rfl rfl rfl) (And.intro (Val.of hσ rfl rfl) trivial))))))))) ?_
  refine AWP.forget [(5, _), (7, _), (4, _), (1, _)] ⟨rfl, rfl, rfl, rfl, trivial⟩ ?_
  refine jnw ?_
  refine AWP.ret ?_
  refine ⟨.inl rfl, _, Ent.refl, _, rfl, ?_⟩
  refine ⟨?_, rfl⟩
  rw [show sharpR ts t = ((tightS t).1, !knownB ts (tightS t).1) by unfold sharpR; rw [if_neg hn, hok]; rfl]
  exact .tup (.cons (.agg (VMs.self rfl)) (.cons (.c .d) .nil))
end Go.Al
namespace Go.Al
open Go.Proofs
set_option linter.unusedVariables false
set_option linter.unusedSimpArgs false
set_option maxRecDepth 10000
abbrev arws (rs : List Rw) : A := .c (.d (.slc 3 (rs.map Rw.cells)))
abbrev rwrow (rs : List Rw) : B := .row false 3 (rs.map Rw.cells)
abbrev aRw (r : Rw) : A := .agg (r.cells.map .d)
theorem unit_set {n i : Nat} : (List.replicate n [D.int .i64 0]).set (0 + ((i : Nat) : Int).toNat) [D.int .i64 1] = (unitL n i).map fun n => [D.int .i64 n] := by
  unfold unitL
  rw [List.map_set, List.map_replicate, Nat.zero_add, Int.toNat_natCast]
theorem c1063 {L : Nat} (h1 : 4096 ≤ L) (h2 : L ≤ 1073741824) {ts : List Tm} (hf : Fs ts) : MC Tryz.prog L 90 [.c (.rs 0 0 ts.length)] [(0, drow ts)] (Outs (arws (rows0 ts)) [(0, drow ts)]) := by
 refine MC.shift 500 rfl ?_
 refine MC.dataH ?_
 have hσ := SgOk.withIns (js := [500]) (SGok (nt := 46) h1 (Nat.le_trans h2 (by decide)))
 refine MC.bodyH hσ Tryz.func90 (by kernel_rfl) rfl rfl rfl (Nat.le_of_ble_eq_true rfl) (fun hF => ?_)
 have hlen := hf.len
 refine jsr ?_
 refine jst hσ rfl rfl rfl rfl rfl ?_
 refine jns ?_
 refine AOps.heap (HS.litD hσ rfl rfl rfl rfl rfl rfl rfl rfl rfl rfl rfl) rfl ?_
 refine jnm ?_
 refine jst hσ rfl rfl rfl rfl rfl ?_
 refine jn ?_
 refine AWP.seq ?_
 refine jsr ?_
 refine jst hσ rfl rfl rfl rfl rfl ?_
 refine jn ?_
 refine AWP.block ?_
 refine AWP.loopP (X := Nat) (fun i => ⟨[(0, .c (.rs 500 0 ts.length)), (3, .c (.rs 900 0 i)), (4, eI i)], [(900, rwrow (rowsTo ts i)), (500, drow ts)]⟩) (fun i => i ≤ ts.length) (fun i => ts.length - i) 0 ((Ent.sub2 7 900 rfl rfl).trans (Ent.to ⟨rfl, rfl, rfl, trivial⟩ rfl)) ?_ (fun i hi => ?_)
 ·
  exact Nat.zero_le _
 refine AWP.seq ?_
 refine jsr ?_
 iterate 2 refine jst hσ rfl rfl rfl rfl rfl ?_
 first | refine jle hσ rfl rfl rfl rfl rfl rfl rfl rfl rfl rfl rfl ?_ | refine jst hσ rfl rfl rfl rfl rfl ?_ | refine jvf hσ rfl rfl rfl rfl rfl ?_
 refine jst hσ rfl rfl rfl rfl rfl ?_
 refine jf4 11 0 3 4 rfl rfl rfl rfl ?_
 refine jn ?_
 refine AWP.cond hσ rfl rfl (fun hc11 => ?_) (fun hc11 => ?_)
 ·
  try simp only [jcs] at hc11
  refine AWP.skip ?_
  refine AWP.seq ?_
  refine AWP.block ?_
  refine AWP.seq ?_
  have hget : (ts.map Tm.cells)[0 + ((i : Nat) : Int).toNat]? = some (ts.getD i default).cells := by rw [Nat.zero_add, Int.toNat_natCast, List.getElem?_map, List.getElem?_eq_getElem (by omega), getD_lt (by omega)]; rfl
  refine AWP.drawF2 hσ _ [_, _, _, _, _, _, _, _, _, _, _] [⟨[], 0, 1, none⟩, ⟨[], 0, 1, none⟩, ⟨[0, 1], 0, 1, none⟩, ⟨[0, 1, 2], 0, 1, none⟩, ⟨[0, 1, 2, 3], 0, 1, none⟩, ⟨[], 0, 0, none⟩, ⟨[5], 0, 0, none⟩, ⟨[5, 6], 0, 0, some 0⟩, ⟨[0, 1, 2, 3, 4, 5, 6, 7], 1, 1, none⟩, ⟨[], 0, 1, none⟩, ⟨[0, 1, 2, 3, 4, 5, 6, 7, 8, 9], 0, 0, some 1⟩] [7, 10] 9 5 (.box [.d (.int .i64 0), .d .nils, .d .nils]) [_, _] [_] [] rfl rfl (by decide) (by decide) (by decide) rfl (by kernel_rfl) (And.intro (And.intro (And.intro (and_flip (Val.of hσ rfl rfl) (Val.of hσ rfl rfl)) rfl) (And.intro (and_flip (Val.of hσ rfl rfl) (Val.of hσ rfl rfl)) rfl)) (And.intro (And.intro (And.intro (and_flip (Val.of hσ rfl rfl) (Val.of hσ rfl rfl)) rfl) (And.intro (and_flip (Val.of hσ rfl rfl) (Val.of hσ rfl rfl)) rfl)) (And.intro (And.intro (And.intro (and_flip (Val.vif hσ rfl rfl (by first | omega | (simp at *; omega))) (Val.vif hσ rfl rfl (by first | omega | (simp at *; omega)))) rfl) (And.intro (and_flip (Val.vif hσ rfl rfl (by first | omega | (simp at *; omega))) (Val.vif hσ rfl rfl (by first | omega | (simp at *; omega)))) rfl)) (And.intro (And.intro (And.intro (and_flip (Val.of hσ rfl rfl) (Val.of hσ rfl rfl)) rfl) (And.intro (and_flip (Val.of hσ rfl rfl) (Val.of hσ rfl rfl)) rfl)) (And.intro (And.intro (And.intro (and_flip (Val.loadRow hσ (ex := (ts.getD i default).cells) rfl rfl rfl rfl hget rfl) (Val.loadRow hσ (ex := (ts.getD i default).cells) rfl rfl rfl rfl hget rfl)) rfl) (And.intro (and_flip (Val.loadRow hσ (ex := (ts.getD i default).cells) rfl rfl rfl rfl hget rfl) (Val.loadRow hσ (ex := (ts.getD i default).cells) rfl rfl rfl rfl hget rfl)) rfl)) (And.intro (And.intro (and_flip (Val.of hσ rfl rfl) (Val.of hσ rfl rfl)) rfl) (And.intro (And.intro (and_flip (Val.vif hσ rfl rfl (by first | omega | (simp at *; omega))) (Val.vif hσ rfl rfl (by first | omega | (simp at *; omega)))) rfl) (And.intro (And.intro (and_flip (Eff.p (Eff.make hσ rfl rfl rfl rfl rfl rfl rfl rfl rfl (by first | omega | (simp at *; omega)) (by first | omega | (simp at *; omega)) (by first | omega | (simp at *; omega)) (by first | omega | (dsimp only; omega) | (simp only [List.length_map, beq_iff_eq, decide_eq_true_eq, decide_eq_false_iff_not, Bool.not_eq_true', Bool.not_eq_false', Bool.not_true, Bool.not_false, Int.not_lt, Int.not_le] at *; omega)) (by first | omega | (simp at *; omega)) rfl rfl rfl rfl)) (Eff.p (Eff.make hσ rfl rfl rfl rfl rfl rfl rfl rfl rfl (by first | omega | (simp at *; omega)) (by first | omega | (simp at *; omega)) (by first | omega | (simp at *; omega)) (by first | omega | (dsimp only; omega) | (simp only [List.length_map, beq_iff_eq, decide_eq_true_eq, decide_eq_false_iff_not, Bool.not_eq_true', Bool.not_eq_false', Bool.not_true, Bool.not_false, Int.not_lt, Int.not_le] at *; omega)) (by first | omega | (simp at *; omega)) rfl rfl rfl rfl))) rfl) (And.intro (And.intro (and_flip (Val.of hσ rfl rfl) (Val.of hσ rfl rfl)) rfl) (And.intro (And.intro (And.intro (Eff.p (Eff.alloc hσ rfl rfl rfl rfl rfl rfl)) rfl) (And.intro (Eff.p (Eff.alloc hσ rfl rfl rfl rfl rfl rfl)) rfl)) (And.intro (And.intro (and_flip trivial (Eff.p (Eff.storeBox hσ rfl rfl rfl rfl rfl rfl rfl rfl rfl rfl rfl rfl rfl))) rfl) trivial))))))))))) ?_
  refine AWP.forget [(5, _), (11, _), (0, _), (3, _), (4, _)] ⟨rfl, rfl, rfl, rfl, rfl, trivial⟩ ?_
  refine jnw ?_
  refine AWP.seq ?_
  refine jsr ?_
  refine jst hσ rfl rfl rfl rfl rfl ?_
  refine jn ?_
  refine AWP.block ?_
  refine AWP.loopP (X := Nat) (fun j => ⟨[(0, .c (.rs 500 0 ts.length)), (3, .c (.rs 900 0 i)), (4, eI i), (5, .c (.pt 5 0 0)), (6, eI j)], [(5, .box [.d (.int .i64 (ts.getD i default).c), .rs 901 0 j, .rs 21 0 ts.length]), (21, .row true 1 (List.replicate ts.length [.int .i64 0])), (900, rwrow (rowsTo ts i)), (500, drow ts), (901, nrow (padTo (ts.getD i default).xs j))]⟩) (fun j => j ≤ 10) (fun j => 10 - j) 0 (((Ent.sel [5, 21, 900, 500] (e' := [(0, _), (3, _), (4, _), (5, _), (6, _)]) rfl rfl ⟨rfl, rfl, rfl, rfl, rfl, trivial⟩ rfl).trans (Ent.nameBox 5 901 1 true 1 rfl rfl rfl)).trans (Ent.to ⟨rfl, rfl, rfl, rfl, rfl, trivial⟩ rfl)) ?_ (fun j hi => ?_)
  ·
   exact Nat.zero_le _
  refine AWP.seq ?_
  refine jsr ?_
  iterate 2 refine jst hσ rfl rfl rfl rfl rfl ?_
  refine jn ?_
  refine AWP.cond hσ rfl rfl (fun hc24 => ?_) (fun hc24 => ?_)
  ·
   try simp only [jcs] at hc24
   refine AWP.skip ?_
   refine AWP.seq ?_
   refine AWP.block ?_
   refine AWP.drawP hσ _ [_, _, _, _, _, _, _, _, _, _, _] [⟨[], 0, 2, none⟩, ⟨[0], 0, 2, none⟩, ⟨[], 0, 0, none⟩, ⟨[], 0, 0, none⟩, ⟨[2, 3], 0, 0, none⟩, ⟨[], 0, 0, none⟩, ⟨[2, 3, 4, 5], 0, 0, some 0⟩, ⟨[2, 3, 4, 5, 6], 0, 0, some 1⟩, ⟨[0, 1, 2, 3, 4, 5, 6, 7], 0, 0, some 2⟩, ⟨[0, 1, 2, 3, 4, 5, 6, 7, 8], 3, 3, none⟩, ⟨[0, 1, 2, 3, 4, 5, 6, 7, 8, 9], 0, 0, some 3⟩] [6, 7, 8, 10] [_, _, _, _, _] [[], [], [901, 34], []] rfl rfl (by decide) (by decide) (by kernel_rfl) (And.intro (And.intro (And.intro (Val.of hσ rfl rfl) rfl) (And.intro (And.intro (Val.of hσ rfl rfl) rfl) (And.intro (Val.of hσ rfl rfl) rfl))) (And.intro (And.intro (And.intro (Val.of hσ rfl rfl) rfl) (And.intro (And.intro (Val.of hσ rfl rfl) rfl) (And.intro (Val.of hσ rfl rfl) rfl))) (And.intro (And.intro (Val.of hσ rfl rfl) rfl) (And.intro (And.intro (Val.of hσ rfl rfl) rfl) (And.intro (And.intro (Val.vif hσ rfl rfl (by first | omega | (simp at *; omega))) rfl) (And.intro (And.intro (Val.of hσ rfl rfl) rfl) (And.intro (And.intro (Eff.p (Eff.lone hσ (B0 := 34000) rfl rfl rfl rfl (c208 (t := ts.getD i default) (i := j) h1 h2 (by omega)) (.cons (.c (.pe rfl hget)) (.cons (.c .d) .nil)) rfl rfl rfl rfl rfl)) rfl) (And.intro (And.intro (Eff.p (Eff.lit1 hσ rfl rfl rfl rfl rfl rfl rfl rfl rfl rfl rfl rfl rfl)) rfl) (And.intro (And.intro (Eff.appMove (zs := (padTo (ts.getD i default).xs (j + 1)).map fun n => [.int .i64 n]) (n := j + 1) hσ rfl rfl rfl rfl rfl rfl rfl rfl rfl rfl rfl rfl rfl rfl rfl rfl (.row rfl (by simp [padTo_length])) rfl rfl (by decide) rfl (by simp [padTo_length]; omega) (by simp [padTo_length]; omega) (by rw [padTo_succ, List.map_append]; rfl) (by simp [padTo_length]) rfl) rfl) (And.intro (And.intro (Val.of hσ rfl rfl) rfl) (And.intro (And.intro (Eff.p (Eff.storeBox hσ rfl rfl rfl rfl rfl rfl rfl rfl rfl rfl rfl rfl rfl)) rfl) trivial))))))))))) ?_
   refine AWP.forget [(24, _), (23, _), (0, _), (3, _), (4, _), (5, _), (6, _)] ⟨rfl, rfl, rfl, rfl, rfl, rfl, rfl, trivial⟩ ?_
   refine jnw ?_
   refine AWP.region ?_
   refine jst hσ rfl rfl rfl rfl rfl ?_
   first | refine jfi hσ rfl rfl rfl rfl rfl ?_ | refine jvf hσ rfl rfl rfl rfl rfl ?_
   refine jst hσ rfl rfl rfl rfl rfl ?_
   refine jf7 6 24 23 0 3 4 5 rfl rfl rfl rfl rfl rfl rfl ?_
   refine jn ?_
   refine ⟨j + 1, ((Ent.sel [5, 21, 900, 500, 35] (e' := [(0, _), (3, _), (4, _), (5, _), (6, _)]) rfl rfl ⟨rfl, rfl, rfl, rfl, rfl, trivial⟩ rfl).trans (Ent.sub2 35 901 rfl rfl)), by omega, by omega⟩
  ·
   try simp only [jcs] at hc24
   refine AWP.exit ?_
   refine jsr ?_
   obtain rfl : j = 10 := by omega
   iterate 3 refine jst hσ rfl rfl rfl rfl rfl ?_
   first | refine jin hσ rfl rfl rfl rfl rfl rfl rfl rfl rfl rfl rfl ?_ | refine jix hσ rfl rfl rfl rfl rfl rfl rfl rfl rfl rfl rfl ?_ | refine jvf hσ rfl rfl rfl rfl rfl ?_
   refine jf8 40 24 23 0 3 4 5 6 rfl rfl rfl rfl rfl rfl rfl rfl ?_
   refine AOps.heap (HS.storeRow (ex := [.int .i64 0]) (xs' := (unitL ts.length i).map (fun n => [D.int .i64 n])) hσ rfl rfl rfl rfl rfl rfl rfl rfl rfl rfl rfl rfl rfl rfl (by rw [Nat.zero_add, Int.toNat_natCast, List.getElem?_replicate, if_pos (by omega)]) unit_set) rfl ?_
   refine jnm ?_
   refine jn ?_
   refine AWP.region ?_
   refine AOps.to (Ent.freeze 901 (e' := [(3, _), (5, _), (0, _), (4, _)]) rfl (.cons rfl (.keep rfl) (.cons rfl (.keep rfl) (.cons rfl (.keep rfl) (.cons rfl (.keep rfl) .nil)))) (.cons rfl (.box (.cons (.keep rfl) (.cons (.row rfl (by simp [padTo_length])) (.cons (.keep rfl) .nil)))) (.cons rfl .row (.cons rfl .row (.cons rfl .row (.skip .nil)))))) ?_
   refine AOps.to (Ent.freeze 21 (e' := [(3, _), (5, _), (0, _), (4, _)]) rfl (.cons rfl (.keep rfl) (.cons rfl (.keep rfl) (.cons rfl (.keep rfl) (.cons rfl (.keep rfl) .nil)))) (.cons rfl (.box (.cons (.keep rfl) (.cons (.keep rfl) (.cons (.row rfl (by simp [unitL_length])) .nil)))) (.skip (.cons rfl .row (.cons rfl .row .nil))))) ?_
   iterate 2 refine jst hσ rfl rfl rfl rfl rfl ?_
   refine AOps.heap (HS.litD hσ rfl rfl rfl rfl rfl rfl rfl rfl rfl rfl rfl) rfl ?_
   refine jnm ?_
   refine jf6 43 41 3 5 0 4 rfl rfl rfl rfl rfl rfl ?_
   refine AOps.heap (HS.appCopy (own := false) (zs := (rowsTo ts (i + 1)).map Rw.cells) (n := i + 1) hσ rfl rfl rfl rfl rfl rfl rfl rfl rfl rfl rfl rfl rfl rfl rfl rfl (.row rfl (by simp [rowsTo_length])) (.whole rfl rfl (.inr ⟨rfl, rfl⟩)) (by simp) rfl (by simp [rowsTo_length]; omega) (by simp [rowsTo_length]; omega) (by rw [rowsTo_succ, List.map_append]; rfl) (by simp [rowsTo_length])) rfl ?_
   refine jnm ?_
   refine jst hσ rfl rfl rfl rfl rfl ?_
   refine jf4 3 5 0 4 rfl rfl rfl rfl ?_
   refine jn ?_
   refine AWP.region ?_
   refine jst hσ rfl rfl rfl rfl rfl ?_
   first | refine jfi hσ rfl rfl rfl rfl rfl ?_ | refine jvf hσ rfl rfl rfl rfl rfl ?_
   refine jst hσ rfl rfl rfl rfl rfl ?_
   refine jf4 4 3 5 0 rfl rfl rfl rfl ?_
   refine jn ?_
   refine ⟨i + 1, ((Ent.sel [44, 500] (e' := [(0, _), (3, _), (4, _)]) rfl rfl ⟨rfl, rfl, rfl, trivial⟩ rfl).trans (Ent.sub2 44 900 rfl rfl)), by omega, by omega⟩
 ·
  try simp only [jcs] at hc11
  refine AWP.exit ?_
  refine jsr ?_
  iterate 2 refine jst hσ rfl rfl rfl rfl rfl ?_
  refine jn ?_
  refine AWP.ret ?_
  refine ⟨.inl rfl, _, Ent.refl, _, rfl, ?_⟩
  refine ⟨?_, rfl⟩
  obtain rfl : i = ts.length := by omega
  exact .v (.c (.whole rfl (by simp [rowsTo_length])))
end Go.Al
namespace Go.Al
open Go.Proofs
set_option linter.unusedVariables false
set_option linter.unusedSimpArgs false
set_option maxRecDepth 10000
set_option maxHeartbeats 4000000
theorem lin_at {n m : Int} {xs ys : List Int} {i : Nat} : ((lin n m xs ys (i + 1)).map fun n => [D.int .i64 n])[0 + ((i : Nat) : Int).toNat]? = some [D.int .i64 (n * xs.getD i default + m * ys.getD i default)] := by
  rw [Nat.zero_add, Int.toNat_natCast, lin_succ, List.map_append, List.getElem?_append_right (by simp [lin_length])]
  simp [lin_length]
def finF (c0 : Bool) (xs : List Int) (g : Int) (i : Nat) : Bool := c0 && (xs.take i).all fun x => num (x.tdiv g)
theorem finF_zero {c0 : Bool} {xs : List Int} {g : Int} : finF c0 xs g 0 = c0 := by simp [finF]
theorem finF_succ {c0 : Bool} {xs : List Int} {g : Int} {i : Nat} (h : i < xs.length) : finF c0 xs g (i + 1) = (finF c0 xs g i && num ((xs.getD i default).tdiv g)) := by
  unfold finF
  rw [List.take_succ_eq_append_getElem h, List.all_append, getD_lt h, Bool.and_assoc]
  simp
theorem okR_fin {r : Rw} {g : Nat} : okR (divR r g) = finF (finF (num (r.c.tdiv g)) r.xs g r.xs.length) r.ms g r.ms.length := by
  simp [okR, divR, finF, List.all_map, Function.comp_def]
theorem tdiv_bd {a b B : Int} (h : -B ≤ a ∧ a ≤ B) : -B ≤ a.tdiv b ∧ a.tdiv b ≤ B := by
  have h1 : (a.tdiv b).natAbs ≤ a.natAbs := by rw [Int.natAbs_tdiv]; exact Nat.div_le_self _ _
  omega
theorem lin_bd {a b : Int} {xs ys : List Int} {i : Nat} (h1 : 1 ≤ a ∧ a ≤ 1000000) (h2 : 1 ≤ b ∧ b ≤ 1000000) (hx : ∀ k, -1000000 ≤ xs.getD k default ∧ xs.getD k default ≤ 1000000) (hy : ∀ k, -1000000 ≤ ys.getD k default ∧ ys.getD k default ≤ 1000000) :
    ∀ x ∈ lin a b xs ys i, -2000000000000 ≤ x ∧ x ≤ 2000000000000 := fun x h => by
  obtain ⟨k, _, rfl⟩ := lin_mem h
  exact lin_in h1 h2 (hx k) (hy k)
theorem gc_le {C : Int} {l : List Int} (hC : -2000000000000 ≤ C ∧ C ≤ 2000000000000) (hl : ∀ x ∈ l, -2000000000000 ≤ x ∧ x ≤ 2000000000000) : gcdL (C :: l) ≤ 2000000000000 := gcdL_le' fun x hx => by
  rcases List.mem_cons.1 hx with rfl | hx
  · omega
  · have := hl x hx; omega
theorem app_bd {a b : List Int} (ha : ∀ x ∈ a, -2000000000000 ≤ x ∧ x ≤ 2000000000000) (hb : ∀ x ∈ b, -2000000000000 ≤ x ∧ x ≤ 2000000000000) : ∀ x ∈ a ++ b, -2000000000000 ≤ x ∧ x ≤ 2000000000000 := fun x hx => by
  rcases List.mem_append.1 hx with hx | hx
  · exact ha x hx
  · exact hb x hx
theorem mkq_at {xs : List Int} {g : Int} {i : Nat} (h : i < xs.length) : ((mkq xs g (i + 1)).map fun n => [D.int .i64 n])[0 + ((i : Nat) : Int).toNat]? = some [D.int .i64 ((xs.getD i default).tdiv g)] := by
  rw [Nat.zero_add, Int.toNat_natCast, ← mkq_succ h, List.map_set, List.getElem?_set]
  simp [mkq_length, h]
theorem mem_getD {xs : List Int} {i : Nat} (h : i < xs.length) : xs.getD i default ∈ xs := by rw [getD_lt h]; exact List.getElem_mem h
theorem c1069 {L : Nat} (h1 : 4096 ≤ L) (h2 : L ≤ 1073741824) {n : Nat} {p q : Rw} {k : Nat} (hp : ROk n p) (hq : ROk n q) (hk : k < 10) (hx : 0 < p.xs.getD k default) (hy : q.xs.getD k default < 0) (hn : n ≤ 1000) : MC Tryz.prog L 103 [ptr p.cells, ptr q.cells, eI k] [] (Plain (.tup [aRw (mixR p q k), eB (okR (mixR p q k))])) := by
 refine MC.data ?_
 have hσ := SGok (nt := 196) h1 (Nat.le_trans h2 (by decide))
 refine MC.body hσ Tryz.func103 (by kernel_rfl) rfl rfl (Nat.le_of_ble_eq_true rfl) (fun hF => ?_)
 obtain ⟨hg0, hm0, hn0⟩ := muls_in hp hq hx hy
 have hb1 := hp.get k
 have hb2 := hq.get k
 have lp := hp.l
 have lq := hq.l
 have lpm := hp.n
 have lqm := hq.n
 have hd1 := tdiv_in (a := p.xs.getD k default) (b := ((gcd0 p q k : Nat) : Int)) (by omega)
 have hd2 := tdiv_in (a := -(q.xs.getD k default)) (b := ((gcd0 p q k : Nat) : Int)) (by omega)
 obtain ⟨m, em⟩ : ∃ m, m = mulM p q k := ⟨_, rfl⟩
 obtain ⟨nn, en⟩ : ∃ m, m = mulN p q k := ⟨_, rfl⟩
 rw [← em] at hm0
 rw [← en] at hn0
 have hc1 := mul_bd (a := nn) (b := p.c) (by omega) (num_iff.1 hp.c)
 have hc2 := mul_bd (a := m) (b := q.c) (by omega) (num_iff.1 hq.c)
 have hpm : ∀ j, -1000000 ≤ p.ms.getD j default ∧ p.ms.getD j default ≤ 1000000 := fun j => by have := hp.mul j; omega
 have hqm : ∀ j, -1000000 ≤ q.ms.getD j default ∧ q.ms.getD j default ≤ 1000000 := fun j => by have := hq.mul j; omega
 refine jsr ?_
 refine AOps.heap (HS.alloc hσ rfl rfl rfl rfl rfl) rfl ?_
 refine jnm ?_
 refine jst hσ rfl rfl rfl rfl rfl ?_
 refine jns ?_
 iterate 5 refine jst hσ rfl rfl rfl rfl rfl ?_
 first | refine jin hσ rfl rfl rfl rfl rfl rfl rfl rfl rfl rfl rfl ?_ | refine jix hσ rfl rfl rfl rfl rfl rfl rfl rfl rfl rfl rfl ?_ | refine jvf hσ rfl rfl rfl rfl rfl ?_
 iterate 2 refine jst hσ rfl rfl rfl rfl rfl ?_
 refine jf6 8 7 6 0 1 2 rfl rfl rfl rfl rfl rfl ?_
 refine jns ?_
 iterate 5 refine jst hσ rfl rfl rfl rfl rfl ?_
 first | refine jin hσ rfl rfl rfl rfl rfl rfl rfl rfl rfl rfl rfl ?_ | refine jix hσ rfl rfl rfl rfl rfl rfl rfl rfl rfl rfl rfl ?_ | refine jvf hσ rfl rfl rfl rfl rfl ?_
 refine jst hσ rfl rfl rfl rfl rfl ?_
 refine AOps.step ((Val.fits64 hσ rfl rfl (by omega) (by omega)).cast (v' := eI (-(q.xs.getD k default))) (by rw [Int.zero_sub])) rfl rfl rfl ?_
 refine jst hσ rfl rfl rfl rfl rfl ?_
 refine jf7 9 8 7 6 0 1 2 rfl rfl rfl rfl rfl rfl rfl ?_
 refine jns ?_
 iterate 2 refine jst hσ rfl rfl rfl rfl rfl ?_
 refine AOps.lone hσ rfl rfl rfl rfl ((c1072 (a := p.xs.getD k default) (b := -(q.xs.getD k default)) h1 h2 (by omega) (by omega)).plain (u := eI (gcd0 p q k)) (by rw [Int.natAbs_neg])) (VAs.self rfl) rfl rfl rfl rfl rfl (B0 := 35000) rfl ?_
 refine jst hσ rfl rfl rfl rfl rfl ?_
 refine jf8 10 9 8 7 6 0 1 2 rfl rfl rfl rfl rfl rfl rfl rfl ?_
 refine jns ?_
 iterate 2 refine jst hσ rfl rfl rfl rfl rfl ?_
 refine AOps.step ((Val.quo64 hσ rfl rfl rfl rfl (by omega) (by omega) (by omega)).cast (v' := eI m) (by rw [em])) rfl rfl rfl ?_
 refine jst hσ rfl rfl rfl rfl rfl ?_
 refine jf8 8 10 9 7 6 0 1 2 rfl rfl rfl rfl rfl rfl rfl rfl ?_
 refine jns ?_
 iterate 2 refine jst hσ rfl rfl rfl rfl rfl ?_
 refine AOps.step ((Val.quo64 hσ rfl rfl rfl rfl (by omega) (by omega) (by omega)).cast (v' := eI nn) (by rw [en])) rfl rfl rfl ?_
 refine jst hσ rfl rfl rfl rfl rfl ?_
 refine jf8 9 8 10 7 6 0 1 2 rfl rfl rfl rfl rfl rfl rfl rfl ?_
 refine jn ?_
 refine AWP.seq ?_
 refine AWP.drawF2 hσ _ [_, _, _, _, _, _, _, _, _, _, _, _, _, _, _, _] [⟨[], 0, 0, none⟩, ⟨[], 0, 0, none⟩, ⟨[1], 0, 0, none⟩, ⟨[1, 2], 0, 0, none⟩, ⟨[1, 2, 3], 0, 0, none⟩, ⟨[0, 1, 2, 3, 4], 0, 0, none⟩, ⟨[], 0, 0, none⟩, ⟨[], 0, 0, none⟩, ⟨[7], 0, 0, none⟩, ⟨[7, 8], 0, 0, none⟩, ⟨[7, 8, 9], 0, 0, none⟩, ⟨[6, 7, 8, 9, 10], 0, 0, none⟩, ⟨[0, 1, 2, 3, 4, 5, 6, 7, 8, 9, 10, 11], 0, 0, none⟩, ⟨[0, 1, 2, 3, 4, 5, 6, 7, 8, 9, 10, 11, 12], 0, 0, none⟩, ⟨[], 0, 0, none⟩, ⟨[0, 1, 2, 3, 4, 5, 6, 7, 8, 9, 10, 11, 12, 13, 14], 0, 0, some 0⟩] [15] 14 11 (.box [.d (.int .i64 0), .d .nils, .d .nils]) [_] [_] [] rfl rfl (by decide) (by decide) (by decide) rfl (by kernel_rfl) (And.intro (And.intro (and_flip (Val.of hσ rfl rfl) (Val.of hσ rfl rfl)) rfl) (And.intro (And.intro (and_flip (Val.of hσ rfl rfl) (Val.of hσ rfl rfl)) rfl) (And.intro (And.intro (and_flip (Val.of hσ rfl rfl) (Val.of hσ rfl rfl)) rfl) (And.intro (And.intro (and_flip (Val.of hσ rfl rfl) (Val.of hσ rfl rfl)) rfl) (And.intro (And.intro (and_flip (Val.of hσ rfl rfl) (Val.of hσ rfl rfl)) rfl) (And.intro (And.intro (and_flip (Val.fits64 hσ rfl rfl (by first | omega | (simp at *; omega)) (by first | omega | (simp at *; omega))) (Val.fits64 hσ rfl rfl (by first | omega | (simp at *; omega)) (by first | omega | (simp at *; omega)))) rfl) (And.intro (And.intro (and_flip (Val.of hσ rfl rfl) (Val.of hσ rfl rfl)) rfl) (And.intro (And.intro (and_flip (Val.of hσ rfl rfl) (Val.of hσ rfl rfl)) rfl) (And.intro (And.intro (and_flip (Val.of hσ rfl rfl) (Val.of hσ rfl rfl)) rfl) (And.intro (And.intro (and_flip (Val.of hσ rfl rfl) (Val.of hσ rfl rfl)) rfl) (And.intro (And.intro (and_flip (Val.of hσ rfl rfl) (Val.of hσ rfl rfl)) rfl) (And.intro (And.intro (and_flip (Val.fits64 hσ rfl rfl (by first | omega | (simp at *; omega)) (by first | omega | (simp at *; omega))) (Val.fits64 hσ rfl rfl (by first | omega | (simp at *; omega)) (by first | omega | (simp at *; omega)))) rfl) (And.intro (And.intro (and_flip (Val.fits64 hσ rfl rfl (by first | omega | (simp at *; omega)) (by first | omega | (simp at *; omega))) (Val.fits64 hσ rfl rfl (by first | omega | (simp at *; omega)) (by first | omega | (simp at *; omega)))) rfl) (And.intro (And.intro (and_flip (Val.of hσ rfl rfl) (Val.of hσ rfl rfl)) rfl) (And.intro (And.intro (Eff.p (Eff.alloc hσ rfl rfl rfl rfl rfl rfl)) rfl) (And.intro (And.intro (and_flip trivial (Eff.p (Eff.storeBox hσ rfl rfl rfl rfl rfl rfl rfl rfl rfl rfl rfl rfl rfl))) rfl) trivial)))))))))))))))) ?_
 refine AWP.forget [(11, _), (9, _), (8, _), (10, _), (7, _), (6, _), (0, _), (1, _), (2, _)] ⟨rfl, rfl, rfl, rfl, rfl, rfl, rfl, rfl, rfl, trivial⟩ ?_
 refine jnw ?_
 refine jsr ?_
 obtain ⟨C, eC⟩ : ∃ C, C = nn * p.c + m * q.c := ⟨_, rfl⟩
 have hC : -2000000000000 ≤ C ∧ C ≤ 2000000000000 := by omega
 rw [← eC]
 iterate 2 refine jst hσ rfl rfl rfl rfl rfl ?_
 refine jf10 56 11 9 8 10 7 6 0 1 2 rfl rfl rfl rfl rfl rfl rfl rfl rfl rfl ?_
 refine AOps.lone hσ rfl rfl rfl rfl ((c1072 (a := 0) (b := C) h1 h2 (by decide) (by omega)).plain (u := eI (gcdL [C])) (by rw [gcdL_one]; exact congrArg (fun z : Nat => eI z) (Nat.gcd_zero_left _))) (VAs.self rfl) rfl rfl rfl rfl rfl (B0 := 58000) rfl ?_
 refine jst hσ rfl rfl rfl rfl rfl ?_
 refine jf9 10 11 9 8 7 6 0 1 2 rfl rfl rfl rfl rfl rfl rfl rfl rfl ?_
 refine jn ?_
 refine AWP.seq ?_
 refine jsr ?_
 refine jst hσ rfl rfl rfl rfl rfl ?_
 refine jn ?_
 refine AWP.block ?_
 refine AWP.loopP (X := Nat) (fun i => ⟨[(0, ptr p.cells), (1, ptr q.cells), (6, .c (.pt 6 0 0)), (8, eI m), (9, eI nn), (10, eI (gcdL (C :: lin nn m p.xs q.xs i))), (11, .c (.pt 11 0 0)), (12, eI i)], [(6, .box [.d (.int .i64 0), .d .nils, .d .nils]), (11, .box [.d (.int .i64 C), .rs 900 0 i, .d .nils]), (900, nrow (lin nn m p.xs q.xs i))]⟩) (fun i => i ≤ p.xs.length) (fun i => p.xs.length - i) 0 ((Ent.nameBox 11 900 1 true 1 rfl rfl rfl).trans (Ent.to ⟨rfl, rfl, rfl, rfl, rfl, rfl, rfl, rfl, trivial⟩ rfl)) ?_ (fun i hi => ?_)
 ·
  exact Nat.zero_le _
 refine AWP.seq ?_
 refine jsr ?_
 iterate 5 refine jst hσ rfl rfl rfl rfl rfl ?_
 first | refine jle hσ rfl rfl rfl rfl rfl rfl rfl rfl rfl rfl rfl ?_ | refine jst hσ rfl rfl rfl rfl rfl ?_ | refine jvf hσ rfl rfl rfl rfl rfl ?_
 refine jst hσ rfl rfl rfl rfl rfl ?_
 refine jf9 64 0 1 6 8 9 10 11 12 rfl rfl rfl rfl rfl rfl rfl rfl rfl ?_
 refine jn ?_
 refine AWP.cond hσ rfl rfl (fun hc64 => ?_) (fun hc64 => ?_)
 ·
  try simp only [jcs] at hc64
  refine AWP.skip ?_
  refine AWP.seq ?_
  refine AWP.block ?_
  refine AWP.seq ?_
  have f1 := mul_bd (a := nn) (b := p.xs.getD i default) (by omega) (hp.get i)
  have f2 := mul_bd (a := m) (b := q.xs.getD i default) (by omega) (hq.get i)
  have hgl := gc_le hC (l := lin nn m p.xs q.xs i) (lin_bd hn0 hm0 hp.get hq.get)
  refine AWP.drawP hσ _ [_, _, _, _, _, _, _, _, _, _, _, _, _, _, _, _, _, _, _, _, _, _, _, _, _] [⟨[], 0, 1, none⟩, ⟨[0], 0, 1, none⟩, ⟨[], 0, 0, none⟩, ⟨[], 0, 0, none⟩, ⟨[3], 0, 0, none⟩, ⟨[3, 4], 0, 0, none⟩, ⟨[3, 4, 5], 0, 0, none⟩, ⟨[], 0, 0, none⟩, ⟨[3, 4, 5, 6, 7], 0, 0, none⟩, ⟨[3, 4, 5, 6, 7, 8], 0, 0, none⟩, ⟨[2, 3, 4, 5, 6, 7, 8, 9], 0, 0, none⟩, ⟨[], 0, 0, none⟩, ⟨[], 0, 0, none⟩, ⟨[12], 0, 0, none⟩, ⟨[12, 13], 0, 0, none⟩, ⟨[12, 13, 14], 0, 0, none⟩, ⟨[], 0, 0, none⟩, ⟨[12, 13, 14, 15, 16], 0, 0, none⟩, ⟨[12, 13, 14, 15, 16, 17], 0, 0, none⟩, ⟨[11, 12, 13, 14, 15, 16, 17, 18], 0, 0, none⟩, ⟨[2, 3, 4, 5, 6, 7, 8, 9, 10, 11, 12, 13, 14, 15, 16, 17, 18, 19], 0, 0, none⟩, ⟨[2, 3, 4, 5, 6, 7, 8, 9, 10, 11, 12, 13, 14, 15, 16, 17, 18, 19, 20], 0, 0, some 0⟩, ⟨[0, 1, 2, 3, 4, 5, 6, 7, 8, 9, 10, 11, 12, 13, 14, 15, 16, 17, 18, 19, 20, 21], 0, 0, some 1⟩, ⟨[0, 1, 2, 3, 4, 5, 6, 7, 8, 9, 10, 11, 12, 13, 14, 15, 16, 17, 18, 19, 20, 21, 22], 2, 2, none⟩, ⟨[0, 1, 2, 3, 4, 5, 6, 7, 8, 9, 10, 11, 12, 13, 14, 15, 16, 17, 18, 19, 20, 21, 22, 23], 0, 0, some 2⟩] [21, 22, 24] [_, _, _, _] [[], [900, 88], []] rfl rfl (by decide) (by decide) (by kernel_rfl) (And.intro (And.intro (And.intro (Val.of hσ rfl rfl) rfl) (And.intro (Val.of hσ rfl rfl) rfl)) (And.intro (And.intro (And.intro (Val.of hσ rfl rfl) rfl) (And.intro (Val.of hσ rfl rfl) rfl)) (And.intro (And.intro (Val.of hσ rfl rfl) rfl) (And.intro (And.intro (Val.of hσ rfl rfl) rfl) (And.intro (And.intro (Val.of hσ rfl rfl) rfl) (And.intro (And.intro (Val.of hσ rfl rfl) rfl) (And.intro (And.intro (Val.of hσ rfl rfl) rfl) (And.intro (And.intro (Val.of hσ rfl rfl) rfl) (And.intro (And.intro (Val.indexN hσ rfl rfl rfl rfl rfl rfl rfl rfl (idxN (by first | omega | (simp at *; omega)))) rfl) (And.intro (And.intro (Val.of hσ rfl rfl) rfl) (And.intro (And.intro (Val.fits64 hσ rfl rfl (by first | omega | (simp at *; omega)) (by first | omega | (simp at *; omega))) rfl) (And.intro (And.intro (Val.of hσ rfl rfl) rfl) (And.intro (And.intro (Val.of hσ rfl rfl) rfl) (And.intro (And.intro (Val.of hσ rfl rfl) rfl) (And.intro (And.intro (Val.of hσ rfl rfl) rfl) (And.intro (And.intro (Val.of hσ rfl rfl) rfl) (And.intro (And.intro (Val.of hσ rfl rfl) rfl) (And.intro (And.intro (Val.indexN hσ rfl rfl rfl rfl rfl rfl rfl rfl (idxN (by first | omega | (simp at *; omega)))) rfl) (And.intro (And.intro (Val.of hσ rfl rfl) rfl) (And.intro (And.intro (Val.fits64 hσ rfl rfl (by first | omega | (simp at *; omega)) (by first | omega | (simp at *; omega))) rfl) (And.intro (And.intro (Val.fits64 hσ rfl rfl (by first | omega | (simp at *; omega)) (by first | omega | (simp at *; omega))) rfl) (And.intro (And.intro (Eff.p (Eff.lit1 hσ rfl rfl rfl rfl rfl rfl rfl rfl rfl rfl rfl rfl rfl)) rfl) (And.intro (And.intro (Eff.appMove (zs := (lin nn m p.xs q.xs (i + 1)).map fun n => [.int .i64 n]) (n := i + 1) hσ rfl rfl rfl rfl rfl rfl rfl rfl rfl rfl rfl rfl rfl rfl rfl rfl (.row rfl (by simp [lin_length])) rfl rfl (by decide) rfl (by simp [lin_length]; omega) (by simp [lin_length]; omega) (by rw [lin_succ, List.map_append]; rfl) (by simp [lin_length]) rfl) rfl) (And.intro (And.intro (Val.of hσ rfl rfl) rfl) (And.intro (And.intro (Eff.p (Eff.storeBox hσ rfl rfl rfl rfl rfl rfl rfl rfl rfl rfl rfl rfl rfl)) rfl) trivial))))))))))))))))))))))))) ?_
  refine AWP.forget [(64, _), (0, _), (1, _), (6, _), (8, _), (9, _), (10, _), (11, _), (12, _)] ⟨rfl, rfl, rfl, rfl, rfl, rfl, rfl, rfl, rfl, trivial⟩ ?_
  refine jnw ?_
  refine AWP.region ?_
  iterate 4 refine jst hσ rfl rfl rfl rfl rfl ?_
  first | refine jin hσ rfl rfl rfl rfl rfl rfl rfl rfl rfl rfl rfl ?_ | refine jix hσ rfl rfl rfl rfl rfl rfl rfl rfl rfl rfl rfl ?_ | refine jvf hσ rfl rfl rfl rfl rfl ?_
  refine AOps.step (Val.loadRow hσ (ex := [.int .i64 (nn * p.xs.getD i default + m * q.xs.getD i default)]) rfl rfl rfl rfl lin_at rfl) rfl rfl rfl ?_
  refine jf11 96 91 64 0 1 6 8 9 10 11 12 rfl rfl rfl rfl rfl rfl rfl rfl rfl rfl rfl ?_
  refine AOps.lone hσ rfl rfl rfl rfl ((c1072 (a := (gcdL (C :: lin nn m p.xs q.xs i) : Nat)) (b := nn * p.xs.getD i default + m * q.xs.getD i default) h1 h2 (by omega) (by omega)).plain (u := eI (gcdL (C :: lin nn m p.xs q.xs (i + 1)))) (by rw [Int.natAbs_natCast, lin_succ, ← List.cons_append, gcdL_snoc])) (VAs.self rfl) rfl rfl rfl rfl rfl (B0 := 98000) rfl ?_
  refine jst hσ rfl rfl rfl rfl rfl ?_
  refine jf9 10 64 0 1 6 8 9 11 12 rfl rfl rfl rfl rfl rfl rfl rfl rfl ?_
  refine jn ?_
  refine AWP.region ?_
  refine jst hσ rfl rfl rfl rfl rfl ?_
  first | refine jfi hσ rfl rfl rfl rfl rfl ?_ | refine jvf hσ rfl rfl rfl rfl rfl ?_
  refine jst hσ rfl rfl rfl rfl rfl ?_
  refine jf9 12 10 64 0 1 6 8 9 11 rfl rfl rfl rfl rfl rfl rfl rfl rfl ?_
  refine jn ?_
  refine ⟨i + 1, ((Ent.sel [6, 11, 89] (e' := [(0, _), (1, _), (6, _), (8, _), (9, _), (10, _), (11, _), (12, _)]) rfl rfl ⟨rfl, rfl, rfl, rfl, rfl, rfl, rfl, rfl, trivial⟩ rfl).trans (Ent.sub2 89 900 rfl rfl)), by omega, by omega⟩
 ·
  try simp only [jcs] at hc64
  refine AWP.exit ?_
  refine AWP.seq ?_
  refine jsr ?_
  obtain rfl : i = p.xs.length := by omega
  obtain ⟨X, eX⟩ : ∃ X, X = lin nn m p.xs q.xs p.xs.length := ⟨_, rfl⟩
  have lXp : X.length = p.xs.length := by rw [eX, lin_length]
  have hXb : ∀ x ∈ X, -2000000000000 ≤ x ∧ x ≤ 2000000000000 := by rw [eX]; exact lin_bd hn0 hm0 hp.get hq.get
  rw [← eX]
  refine jst hσ rfl rfl rfl rfl rfl ?_
  refine jn ?_
  refine AWP.block ?_
  refine AWP.loopP (X := Nat) (fun j => ⟨[(0, ptr p.cells), (1, ptr q.cells), (6, .c (.pt 6 0 0)), (8, eI m), (9, eI nn), (10, eI (gcdL (C :: X ++ lin nn m p.ms q.ms j))), (11, .c (.pt 11 0 0)), (13, eI j)], [(6, .box [.d (.int .i64 0), .d .nils, .d .nils]), (11, .box [.d (.int .i64 C), .rs 900 0 p.xs.length, .rs 901 0 j]), (900, nrow X), (901, nrow (lin nn m p.ms q.ms j))]⟩) (fun j => j ≤ p.ms.length) (fun j => p.ms.length - j) 0 ((Ent.nameBox 11 901 1 true 2 rfl rfl rfl).trans (Ent.to ⟨rfl, rfl, rfl, rfl, rfl, congrArg (fun z => some (eI (gcdL z))) (List.append_nil (C :: X)).symm, rfl, rfl, trivial⟩ rfl)) ?_ (fun j hi => ?_)
  ·
   exact Nat.zero_le _
  refine AWP.seq ?_
  refine jsr ?_
  iterate 5 refine jst hσ rfl rfl rfl rfl rfl ?_
  first | refine jle hσ rfl rfl rfl rfl rfl rfl rfl rfl rfl rfl rfl ?_ | refine jst hσ rfl rfl rfl rfl rfl ?_ | refine jvf hσ rfl rfl rfl rfl rfl ?_
  refine jst hσ rfl rfl rfl rfl rfl ?_
  refine jf9 104 0 1 6 8 9 10 11 13 rfl rfl rfl rfl rfl rfl rfl rfl rfl ?_
  refine jn ?_
  refine AWP.cond hσ rfl rfl (fun hc104 => ?_) (fun hc104 => ?_)
  ·
   try simp only [jcs] at hc104
   refine AWP.skip ?_
   refine AWP.seq ?_
   refine AWP.block ?_
   refine AWP.seq ?_
   have f1 := mul_bd (a := nn) (b := p.ms.getD j default) (by omega) (hpm j)
   have f2 := mul_bd (a := m) (b := q.ms.getD j default) (by omega) (hqm j)
   have hgl : gcdL (C :: X ++ lin nn m p.ms q.ms j) ≤ 2000000000000 := gc_le hC (app_bd hXb (lin_bd hn0 hm0 hpm hqm))
   refine AWP.drawP hσ _ [_, _, _, _, _, _, _, _, _, _, _, _, _, _, _, _, _, _, _, _, _, _, _, _, _] [⟨[], 0, 1, none⟩, ⟨[0], 0, 1, none⟩, ⟨[], 0, 0, none⟩, ⟨[], 0, 0, none⟩, ⟨[3], 0, 0, none⟩, ⟨[3, 4], 0, 0, none⟩, ⟨[3, 4, 5], 0, 0, none⟩, ⟨[], 0, 0, none⟩, ⟨[3, 4, 5, 6, 7], 0, 0, none⟩, ⟨[3, 4, 5, 6, 7, 8], 0, 0, none⟩, ⟨[2, 3, 4, 5, 6, 7, 8, 9], 0, 0, none⟩, ⟨[], 0, 0, none⟩, ⟨[], 0, 0, none⟩, ⟨[12], 0, 0, none⟩, ⟨[12, 13], 0, 0, none⟩, ⟨[12, 13, 14], 0, 0, none⟩, ⟨[], 0, 0, none⟩, ⟨[12, 13, 14, 15, 16], 0, 0, none⟩, ⟨[12, 13, 14, 15, 16, 17], 0, 0, none⟩, ⟨[11, 12, 13, 14, 15, 16, 17, 18], 0, 0, none⟩, ⟨[2, 3, 4, 5, 6, 7, 8, 9, 10, 11, 12, 13, 14, 15, 16, 17, 18, 19], 0, 0, none⟩, ⟨[2, 3, 4, 5, 6, 7, 8, 9, 10, 11, 12, 13, 14, 15, 16, 17, 18, 19, 20], 0, 0, some 0⟩, ⟨[0, 1, 2, 3, 4, 5, 6, 7, 8, 9, 10, 11, 12, 13, 14, 15, 16, 17, 18, 19, 20, 21], 0, 0, some 1⟩, ⟨[0, 1, 2, 3, 4, 5, 6, 7, 8, 9, 10, 11, 12, 13, 14, 15, 16, 17, 18, 19, 20, 21, 22], 2, 2, none⟩, ⟨[0, 1, 2, 3, 4, 5, 6, 7, 8, 9, 10, 11, 12, 13, 14, 15, 16, 17, 18, 19, 20, 21, 22, 23], 0, 0, some 2⟩] [21, 22, 24] [_, _, _, _] [[], [901, 128], []] rfl rfl (by decide) (by decide) (by kernel_rfl) (And.intro (And.intro (And.intro (Val.of hσ rfl rfl) rfl) (And.intro (Val.of hσ rfl rfl) rfl)) (And.intro (And.intro (And.intro (Val.of hσ rfl rfl) rfl) (And.intro (Val.of hσ rfl rfl) rfl)) (And.intro (And.intro (Val.of hσ rfl rfl) rfl) (And.intro (And.intro (Val.of hσ rfl rfl) rfl) (And.intro (And.intro (Val.of hσ rfl rfl) rfl) (And.intro (And.intro (Val.of hσ rfl rfl) rfl) (And.intro (And.intro (Val.of hσ rfl rfl) rfl) (And.intro (And.intro (Val.of hσ rfl rfl) rfl) (And.intro (And.intro (Val.indexN hσ rfl rfl rfl rfl rfl rfl rfl rfl (idxN (by first | omega | (simp at *; omega)))) rfl) (And.intro (And.intro (Val.of hσ rfl rfl) rfl) (And.intro (And.intro (Val.fits64 hσ rfl rfl (by first | omega | (simp at *; omega)) (by first | omega | (simp at *; omega))) rfl) (And.intro (And.intro (Val.of hσ rfl rfl) rfl) (And.intro (And.intro (Val.of hσ rfl rfl) rfl) (And.intro (And.intro (Val.of hσ rfl rfl) rfl) (And.intro (And.intro (Val.of hσ rfl rfl) rfl) (And.intro (And.intro (Val.of hσ rfl rfl) rfl) (And.intro (And.intro (Val.of hσ rfl rfl) rfl) (And.intro (And.intro (Val.indexN hσ rfl rfl rfl rfl rfl rfl rfl rfl (idxN (by first | omega | (simp at *; omega)))) rfl) (And.intro (And.intro (Val.of hσ rfl rfl) rfl) (And.intro (And.intro (Val.fits64 hσ rfl rfl (by first | omega | (simp at *; omega)) (by first | omega | (simp at *; omega))) rfl) (And.intro (And.intro (Val.fits64 hσ rfl rfl (by first | omega | (simp at *; omega)) (by first | omega | (simp at *; omega))) rfl) (And.intro (And.intro (Eff.p (Eff.lit1 hσ rfl rfl rfl rfl rfl rfl rfl rfl rfl rfl rfl rfl rfl)) rfl) (And.intro (And.intro (Eff.appMove (zs := (lin nn m p.ms q.ms (j + 1)).map fun n => [.int .i64 n]) (n := j + 1) hσ rfl rfl rfl rfl rfl rfl rfl rfl rfl rfl rfl rfl rfl rfl rfl rfl (.row rfl (by simp [lin_length])) rfl rfl (by decide) rfl (by simp [lin_length]; omega) (by simp [lin_length]; omega) (by rw [lin_succ, List.map_append]; rfl) (by simp [lin_length]) rfl) rfl) (And.intro (And.intro (Val.of hσ rfl rfl) rfl) (And.intro (And.intro (Eff.p (Eff.storeBox hσ rfl rfl rfl rfl rfl rfl rfl rfl rfl rfl rfl rfl rfl)) rfl) trivial))))))))))))))))))))))))) ?_
   refine AWP.forget [(104, _), (0, _), (1, _), (6, _), (8, _), (9, _), (10, _), (11, _), (13, _)] ⟨rfl, rfl, rfl, rfl, rfl, rfl, rfl, rfl, rfl, trivial⟩ ?_
   refine jnw ?_
   refine AWP.region ?_
   iterate 4 refine jst hσ rfl rfl rfl rfl rfl ?_
   first | refine jin hσ rfl rfl rfl rfl rfl rfl rfl rfl rfl rfl rfl ?_ | refine jix hσ rfl rfl rfl rfl rfl rfl rfl rfl rfl rfl rfl ?_ | refine jvf hσ rfl rfl rfl rfl rfl ?_
   refine AOps.step (Val.loadRow hσ (ex := [.int .i64 (nn * p.ms.getD j default + m * q.ms.getD j default)]) rfl rfl rfl rfl lin_at rfl) rfl rfl rfl ?_
   refine jf11 136 131 104 0 1 6 8 9 10 11 13 rfl rfl rfl rfl rfl rfl rfl rfl rfl rfl rfl ?_
   refine AOps.lone hσ rfl rfl rfl rfl ((c1072 (a := (gcdL (C :: X ++ lin nn m p.ms q.ms j) : Nat)) (b := nn * p.ms.getD j default + m * q.ms.getD j default) h1 h2 (by omega) (by omega)).plain (u := eI (gcdL (C :: X ++ lin nn m p.ms q.ms (j + 1)))) (by rw [Int.natAbs_natCast, lin_succ, ← List.append_assoc, gcdL_snoc])) (VAs.self rfl) rfl rfl rfl rfl rfl (B0 := 138000) rfl ?_
   refine jst hσ rfl rfl rfl rfl rfl ?_
   refine jf9 10 104 0 1 6 8 9 11 13 rfl rfl rfl rfl rfl rfl rfl rfl rfl ?_
   refine jn ?_
   refine AWP.region ?_
   refine jst hσ rfl rfl rfl rfl rfl ?_
   first | refine jfi hσ rfl rfl rfl rfl rfl ?_ | refine jvf hσ rfl rfl rfl rfl rfl ?_
   refine jst hσ rfl rfl rfl rfl rfl ?_
   refine jf9 13 10 104 0 1 6 8 9 11 rfl rfl rfl rfl rfl rfl rfl rfl rfl ?_
   refine jn ?_
   refine ⟨j + 1, ((Ent.sel [6, 11, 900, 129] (e' := [(0, _), (1, _), (6, _), (8, _), (9, _), (10, _), (11, _), (13, _)]) rfl rfl ⟨rfl, rfl, rfl, rfl, rfl, rfl, rfl, rfl, trivial⟩ rfl).trans (Ent.sub2 129 901 rfl rfl)), by omega, by omega⟩
  ·
   try simp only [jcs] at hc104
   refine AWP.exit ?_
   refine jsr ?_
   obtain rfl : j = p.ms.length := by omega
   obtain ⟨Y, eY⟩ : ∃ Y, Y = lin nn m p.ms q.ms p.ms.length := ⟨_, rfl⟩
   have lYp : Y.length = p.ms.length := by rw [eY, lin_length]
   have hYb : ∀ x ∈ Y, -2000000000000 ≤ x ∧ x ≤ 2000000000000 := by rw [eY]; exact lin_bd hn0 hm0 hpm hqm
   rw [← eY]
   obtain ⟨G, eG⟩ : ∃ G, G = gcdL (C :: X ++ Y) := ⟨_, rfl⟩
   rw [← eG]
   have hG : 0 < G ∧ G ≤ 2000000000000 := by rw [eG, eC, eX, eY, em, en]; exact gcdR_in hp hq hx hy
   have hq0 := tdiv_bd (b := (G : Int)) hC
   iterate 3 refine jst hσ rfl rfl rfl rfl rfl ?_
   first | refine AOps.step (Val.quo64 hσ rfl rfl rfl rfl (by first | omega | (simp at *; omega)) (by first | omega | (simp at *; omega)) (by first | omega | (simp at *; omega))) rfl rfl rfl ?_ | refine jfi hσ rfl rfl rfl rfl rfl ?_
   refine jst hσ rfl rfl rfl rfl rfl ?_
   refine jf11 142 141 104 0 1 6 8 9 10 11 13 rfl rfl rfl rfl rfl rfl rfl rfl rfl rfl rfl ?_
   refine AOps.heap (HS.storeBox hσ rfl rfl rfl rfl rfl rfl rfl rfl rfl rfl rfl) rfl ?_
   refine jnm ?_
   refine jf9 104 0 1 6 8 9 10 11 13 rfl rfl rfl rfl rfl rfl rfl rfl rfl ?_
   refine jns ?_
   iterate 2 refine jst hσ rfl rfl rfl rfl rfl ?_
   refine jf10 144 104 0 1 6 8 9 10 11 13 rfl rfl rfl rfl rfl rfl rfl rfl rfl rfl ?_
   refine AOps.lone hσ rfl rfl rfl rfl (c165 h1 h2) (VAs.self rfl) rfl rfl rfl rfl rfl (B0 := 146000) rfl ?_
   refine jst hσ rfl rfl rfl rfl rfl ?_
   refine jf10 14 104 0 1 6 8 9 10 11 13 rfl rfl rfl rfl rfl rfl rfl rfl rfl rfl ?_
   refine jn ?_
   refine AWP.seq ?_
   refine jsr ?_
   refine jst hσ rfl rfl rfl rfl rfl ?_
   refine jn ?_
   refine AWP.block ?_
   refine AWP.loopP (X := Nat) (fun i => ⟨[(6, .c (.pt 6 0 0)), (10, eI G), (11, .c (.pt 11 0 0)), (14, eB (finF (num (C.tdiv G)) X G i)), (15, eI i)], [(6, .box [.d (.int .i64 0), .d .nils, .d .nils]), (11, .box [.d (.int .i64 (C.tdiv G)), .rs 900 0 p.xs.length, .rs 901 0 p.ms.length]), (900, nrow (mkq X G i)), (901, nrow Y)]⟩) (fun i => i ≤ p.xs.length) (fun i => p.xs.length - i) 0 (((Ent.sel [6, 11, 900, 901] (e' := [(6, _), (10, _), (11, _), (14, _), (15, _)]) rfl rfl ⟨rfl, rfl, rfl, rfl, rfl, trivial⟩ rfl)).trans (Ent.to ⟨rfl, rfl, rfl, congrArg (fun z => some (eB z)) finF_zero.symm, rfl, trivial⟩ (by rw [mkq_zero]; rfl))) ?_ (fun i hi => ?_)
   ·
    exact Nat.zero_le _
   refine AWP.seq ?_
   refine jsr ?_
   iterate 3 refine jst hσ rfl rfl rfl rfl rfl ?_
   first | refine jle hσ rfl rfl rfl rfl rfl rfl rfl rfl rfl rfl rfl ?_ | refine jst hσ rfl rfl rfl rfl rfl ?_ | refine jvf hσ rfl rfl rfl rfl rfl ?_
   refine jst hσ rfl rfl rfl rfl rfl ?_
   refine jf6 150 6 10 11 14 15 rfl rfl rfl rfl rfl rfl ?_
   refine jn ?_
   refine AWP.cond hσ rfl rfl (fun hc150 => ?_) (fun hc150 => ?_)
   ·
    try simp only [jcs] at hc150
    refine AWP.skip ?_
    refine AWP.seq ?_
    refine AWP.block ?_
    refine jsr ?_
    have hil : i < X.length := by omega
    have hxi := tdiv_bd (b := (G : Int)) (hXb _ (mem_getD hil))
    iterate 3 refine jst hσ rfl rfl rfl rfl rfl ?_
    first | refine jin hσ rfl rfl rfl rfl rfl rfl rfl rfl rfl rfl rfl ?_ | refine jix hσ rfl rfl rfl rfl rfl rfl rfl rfl rfl rfl rfl ?_ | refine jvf hσ rfl rfl rfl rfl rfl ?_
    refine AOps.step (Val.loadRow hσ (ex := [.int .i64 (X.getD i default)]) rfl rfl rfl rfl (by rw [Nat.zero_add]; exact mkq_get (by omega)) rfl) rfl rfl rfl ?_
    refine jst hσ rfl rfl rfl rfl rfl ?_
    first | refine AOps.step (Val.quo64 hσ rfl rfl rfl rfl (by first | omega | (simp at *; omega)) (by first | omega | (simp at *; omega)) (by first | omega | (simp at *; omega))) rfl rfl rfl ?_ | refine jfi hσ rfl rfl rfl rfl rfl ?_
    first | refine jin hσ rfl rfl rfl rfl rfl rfl rfl rfl rfl rfl rfl ?_ | refine jix hσ rfl rfl rfl rfl rfl rfl rfl rfl rfl rfl rfl ?_ | refine jvf hσ rfl rfl rfl rfl rfl ?_
    refine jf8 160 159 150 6 10 11 14 15 rfl rfl rfl rfl rfl rfl rfl rfl ?_
    refine AOps.heap (HS.storeRow (ex := [.int .i64 (X.getD i default)]) (xs' := (mkq X G (i + 1)).map (fun n => [D.int .i64 n])) hσ rfl rfl rfl rfl rfl rfl rfl rfl rfl rfl rfl rfl rfl rfl (by rw [Nat.zero_add]; exact mkq_get (by omega)) (by rw [← mkq_succ (by omega), List.map_set, Nat.zero_add]; rfl)) rfl ?_
    refine jnm ?_
    refine jf6 150 6 10 11 14 15 rfl rfl rfl rfl rfl rfl ?_
    refine jn ?_
    refine AWP.region ?_
    iterate 2 refine jst hσ rfl rfl rfl rfl rfl ?_
    refine jf7 162 150 6 10 11 14 15 rfl rfl rfl rfl rfl rfl rfl ?_
    refine AOps.gr 6 rfl rfl rfl (fun hx => AN.step hx rfl rfl rfl (Val.of hσ rfl rfl) rfl rfl ( AN.step hx rfl rfl rfl (Val.of hσ rfl rfl) rfl rfl ( AN.step hx rfl rfl rfl (Val.of hσ rfl rfl) rfl rfl ( AN.step hx rfl rfl rfl (Val.vif hσ rfl rfl (by first | omega | (simp at *; omega))) rfl rfl ( AN.step hx rfl rfl rfl (Val.loadRow hσ (ex := [.int .i64 ((X.getD i default).tdiv G)]) rfl rfl rfl rfl (mkq_at (by omega)) rfl) rfl rfl ( AN.lone hσ hx rfl rfl rfl rfl (c165 h1 h2) (VAs.self rfl) rfl rfl rfl rfl rfl rfl rfl (B0 := 169000) rfl ( AN.nil))))))) rfl rfl ?_
    first | refine AOps.step (Val.pickT hσ rfl rfl rfl rfl rfl) rfl rfl rfl ?_ | refine AOps.step (Val.pickF hσ rfl rfl rfl rfl rfl) rfl rfl rfl ?_ | refine AOps.step (Val.pickB hσ rfl rfl rfl rfl rfl) rfl rfl rfl ?_
    refine jst hσ rfl rfl rfl rfl rfl ?_
    refine jf6 14 150 6 10 11 15 rfl rfl rfl rfl rfl rfl ?_
    refine jn ?_
    refine AWP.region ?_
    refine jst hσ rfl rfl rfl rfl rfl ?_
    first | refine jfi hσ rfl rfl rfl rfl rfl ?_ | refine jvf hσ rfl rfl rfl rfl rfl ?_
    refine jst hσ rfl rfl rfl rfl rfl ?_
    refine jf6 15 14 150 6 10 11 rfl rfl rfl rfl rfl rfl ?_
    refine jn ?_
    refine ⟨i + 1, Ent.to ⟨rfl, rfl, rfl, congrArg (fun z => some (eB z)) (by rw [finF_succ (by omega), Bool.cond_false_right]), rfl, trivial⟩ rfl, by omega, by omega⟩
   ·
    try simp only [jcs] at hc150
    refine AWP.exit ?_
    refine AWP.seq ?_
    refine jsr ?_
    obtain rfl : i = p.xs.length := by omega
    refine jst hσ rfl rfl rfl rfl rfl ?_
    refine jn ?_
    refine AWP.block ?_
    refine AWP.loopP (X := Nat) (fun j => ⟨[(6, .c (.pt 6 0 0)), (10, eI G), (11, .c (.pt 11 0 0)), (14, eB (finF (finF (num (C.tdiv G)) X G p.xs.length) Y G j)), (16, eI j)], [(6, .box [.d (.int .i64 0), .d .nils, .d .nils]), (11, .box [.d (.int .i64 (C.tdiv G)), .rs 900 0 p.xs.length, .rs 901 0 p.ms.length]), (900, nrow (mkq X G p.xs.length)), (901, nrow (mkq Y G j))]⟩) (fun j => j ≤ p.ms.length) (fun j => p.ms.length - j) 0 (((Ent.sel [6, 11, 900, 901] (e' := [(6, _), (10, _), (11, _), (14, _), (16, _)]) rfl rfl ⟨rfl, rfl, rfl, rfl, rfl, trivial⟩ rfl)).trans (Ent.to ⟨rfl, rfl, rfl, congrArg (fun z => some (eB z)) finF_zero.symm, rfl, trivial⟩ (by rw [mkq_zero]; rfl))) ?_ (fun j hi => ?_)
    ·
     exact Nat.zero_le _
    refine AWP.seq ?_
    refine jsr ?_
    iterate 3 refine jst hσ rfl rfl rfl rfl rfl ?_
    first | refine jle hσ rfl rfl rfl rfl rfl rfl rfl rfl rfl rfl rfl ?_ | refine jst hσ rfl rfl rfl rfl rfl ?_ | refine jvf hσ rfl rfl rfl rfl rfl ?_
    refine jst hσ rfl rfl rfl rfl rfl ?_
    refine jf6 174 6 10 11 14 16 rfl rfl rfl rfl rfl rfl ?_
    refine jn ?_
    refine AWP.cond hσ rfl rfl (fun hc174 => ?_) (fun hc174 => ?_)
    ·
     try simp only [jcs] at hc174
     refine AWP.skip ?_
     refine AWP.seq ?_
     refine AWP.block ?_
     refine jsr ?_
     have hjl : j < Y.length := by omega
     have hyj := tdiv_bd (b := (G : Int)) (hYb _ (mem_getD hjl))
     iterate 3 refine jst hσ rfl rfl rfl rfl rfl ?_
     first | refine jin hσ rfl rfl rfl rfl rfl rfl rfl rfl rfl rfl rfl ?_ | refine jix hσ rfl rfl rfl rfl rfl rfl rfl rfl rfl rfl rfl ?_ | refine jvf hσ rfl rfl rfl rfl rfl ?_
     refine AOps.step (Val.loadRow hσ (ex := [.int .i64 (Y.getD j default)]) rfl rfl rfl rfl (by rw [Nat.zero_add]; exact mkq_get (by omega)) rfl) rfl rfl rfl ?_
     refine jst hσ rfl rfl rfl rfl rfl ?_
     first | refine AOps.step (Val.quo64 hσ rfl rfl rfl rfl (by first | omega | (simp at *; omega)) (by first | omega | (simp at *; omega)) (by first | omega | (simp at *; omega))) rfl rfl rfl ?_ | refine jfi hσ rfl rfl rfl rfl rfl ?_
     first | refine jin hσ rfl rfl rfl rfl rfl rfl rfl rfl rfl rfl rfl ?_ | refine jix hσ rfl rfl rfl rfl rfl rfl rfl rfl rfl rfl rfl ?_ | refine jvf hσ rfl rfl rfl rfl rfl ?_
     refine jf8 184 183 174 6 10 11 14 16 rfl rfl rfl rfl rfl rfl rfl rfl ?_
     refine AOps.heap (HS.storeRow (ex := [.int .i64 (Y.getD j default)]) (xs' := (mkq Y G (j + 1)).map (fun n => [D.int .i64 n])) hσ rfl rfl rfl rfl rfl rfl rfl rfl rfl rfl rfl rfl rfl rfl (by rw [Nat.zero_add]; exact mkq_get (by omega)) (by rw [← mkq_succ (by omega), List.map_set, Nat.zero_add]; rfl)) rfl ?_
     refine jnm ?_
     refine jf6 174 6 10 11 14 16 rfl rfl rfl rfl rfl rfl ?_
     refine jn ?_
     refine AWP.region ?_
     iterate 2 refine jst hσ rfl rfl rfl rfl rfl ?_
     refine jf7 186 174 6 10 11 14 16 rfl rfl rfl rfl rfl rfl rfl ?_
     refine AOps.gr 6 rfl rfl rfl (fun hx => AN.step hx rfl rfl rfl (Val.of hσ rfl rfl) rfl rfl ( AN.step hx rfl rfl rfl (Val.of hσ rfl rfl) rfl rfl ( AN.step hx rfl rfl rfl (Val.of hσ rfl rfl) rfl rfl ( AN.step hx rfl rfl rfl (Val.vif hσ rfl rfl (by first | omega | (simp at *; omega))) rfl rfl ( AN.step hx rfl rfl rfl (Val.loadRow hσ (ex := [.int .i64 ((Y.getD j default).tdiv G)]) rfl rfl rfl rfl (mkq_at (by omega)) rfl) rfl rfl ( AN.lone hσ hx rfl rfl rfl rfl (c165 h1 h2) (VAs.self rfl) rfl rfl rfl rfl rfl rfl rfl (B0 := 193000) rfl ( AN.nil))))))) rfl rfl ?_
     first | refine AOps.step (Val.pickT hσ rfl rfl rfl rfl rfl) rfl rfl rfl ?_ | refine AOps.step (Val.pickF hσ rfl rfl rfl rfl rfl) rfl rfl rfl ?_ | refine AOps.step (Val.pickB hσ rfl rfl rfl rfl rfl) rfl rfl rfl ?_
     refine jst hσ rfl rfl rfl rfl rfl ?_
     refine jf6 14 174 6 10 11 16 rfl rfl rfl rfl rfl rfl ?_
     refine jn ?_
     refine AWP.region ?_
     refine jst hσ rfl rfl rfl rfl rfl ?_
     first | refine jfi hσ rfl rfl rfl rfl rfl ?_ | refine jvf hσ rfl rfl rfl rfl rfl ?_
     refine jst hσ rfl rfl rfl rfl rfl ?_
     refine jf6 16 14 174 6 10 11 rfl rfl rfl rfl rfl rfl ?_
     refine jn ?_
     refine ⟨j + 1, Ent.to ⟨rfl, rfl, rfl, congrArg (fun z => some (eB z)) (by rw [finF_succ (by omega), Bool.cond_false_right]), rfl, trivial⟩ rfl, by omega, by omega⟩
    ·
     try simp only [jcs] at hc174
     refine AWP.exit ?_
     refine jsr ?_
     iterate 2 refine jst hσ rfl rfl rfl rfl rfl ?_
     refine AOps.heap (HS.storeBox hσ rfl rfl rfl rfl rfl rfl rfl rfl rfl rfl rfl) rfl ?_
     refine jnm ?_
     refine jst hσ rfl rfl rfl rfl rfl ?_
     refine jf7 7 174 6 10 11 14 16 rfl rfl rfl rfl rfl rfl rfl ?_
     refine jn ?_
     refine AWP.ret ?_
     refine ⟨.inl rfl, _, Ent.refl, _, rfl, ?_⟩
     obtain rfl : j = p.ms.length := by omega
     have e1 : mkq X G p.xs.length = X.map (fun x => x.tdiv G) := by rw [← lXp]; exact mkq_all
     have e2 : mkq Y G p.ms.length = Y.map (fun x => x.tdiv G) := by rw [← lYp]; exact mkq_all
     rw [e1, e2]
     rw [show mixR p q k = divR ⟨C, X, Y⟩ G by subst eG; subst eY; subst eX; subst eC; subst em; subst en; rfl, okR_fin]
     show VR _ _ (.tup [aRw (divR ⟨C, X, Y⟩ G), eB (finF (finF (num (C.tdiv G)) X G X.length) Y G Y.length)])
     rw [lXp, lYp]
     exact .tup (.cons (.agg (.cons .d (.cons (.whole rfl (by simp [divR, lXp])) (.cons (.whole rfl (by simp [divR, lYp])) .nil)))) (.cons (.c .d) .nil))
end Go.Al
