/- Proofs of lists of sequents; the prover, in plain Lean. -/
import Derived.Test.YtbkloknmpkgmbaaH
import Derived.Test.YtbkloknmpkgmbaaC
set_option linter.unusedVariables false
set_option linter.unusedSimpArgs false
set_option maxRecDepth 10000
open Go.Proofs
namespace Go.Al
variable {L : Nat} (h1 : 4096 ≤ L) (h2 : L ≤ 1073741824)
abbrev rV (ps : List (List Nd)) : B := .row true 1 (ps.map vV)
structure NdAt (n : Nat) (x : Nd) : Prop where
  close : x.kind = 1 → n + 1 ≤ x.mul.length ∧ x.mul.length ≤ 20
  fact : x.kind = 3 → 0 ≤ x.fact ∧ x.fact ≤ 19
  kind : x.kind = 1 ∨ x.kind = 2 ∨ x.kind = 3
structure MvOk (xz to : Int → Int) (x : Nd) : Prop where
  kind : x.kind = 1 ∨ x.kind = 2 ∨ x.kind = 3
  fact : x.kind = 3 → 0 ≤ x.fact ∧ x.fact ≤ 19
  len : x.kind = 1 → x.mul.length ≤ 20
  cntb : x.kind = 1 → 0 ≤ xz x.mul.length ∧ xz x.mul.length ≤ 1000
  rng : x.kind = 1 → ∀ i : Nat, i < x.mul.length → to i < xz x.mul.length
abbrev bH (p : List Nd) : B := .row false 5 (p.map Nd.cells)
theorem uA {ts : List Nd} : MQ h1 h2 22 [c7 ts] [] (Rows (.c (.rs 0 0 ts.length)) [rH ts]) := by
 refine cy (jB 26 h1 h2 Try.func22 Z Z Z fun O hF => ?_)
 have hl : ts.length ≤ L := by simpa [As.fact, A.fact, M.fact, D.fact, Ds.fact] using hF.1.1
 refine ag (js O Z (aP (js O Z (jn (ac (ag (js O Z (cj O Z (js O Z (jn (ah (al (X := Nat) (fun i => ⟨[(3, .c (.rs 900 0 i)), (6, c7 ts), (7, eI ts.length), (8, eI i)], [(900, rH (ts.take i))]⟩) (fun i => i ≤ ts.length) (fun i => ts.length - i) 0 ((bF 3 900 5 true Z Z).trans (Ent.to ⟨Z, Z, Z, Z, trivial⟩ Z)) ?_ (fun i hi => ?_)))))))))))))
 exact b9 _
 refine ag (js O Z (jn (ac (ae O Z Z (fun hc9 => ?_) (fun hc9 => ?_)))))
 try simp only [ba] at hc9
 refine aj (ac (ah (ag (fR O Z Z (js O Z (jf [11,9,3,6,7,8] Z (jl O Z (av ?_))))))))
 refine jo O Z (av ?_)
 refine jn (ac (j7 O [_,_,_,_,_,_,_,_,_,_] [pn [] 0 0, pn [0] 0 0, pe [0,1] 0, pn [] 0 1, pn [3] 0 1, pe (rg 0 5) 1, pn (rg 0 5) 1 2, pe (rg 0 7) 2, pn (rg 0 8) 3 3, pe (rg 0 9) 3] [2,5,7,9] [_,_,_,_,_] (kc O Z (kc O Z (ai (lx O (B0 := 15000) Z Z Z Z (uq (t := (ts.getD i default).term) h1 h2) (aa Z) Z Z Z Z Z) (ai (kc O Z (V O Z)) (ai (kc O Z (V O Z)) (ai (lx O (B0 := 18000) Z Z Z Z (tb (xs := (ts.getD i default).mul) h1 h2) (aa Z) Z Z Z Z Z) (ai (kc O Z (V O Z)) (ai (eS O Z Z Z) (kc O Z (ai (eS O Z Z Z) trivial)))))))))) ?_))
 refine jw [5,11,9,3,6,7,8] Z (dL ?_)
 refine af (j2 O Z Z (az (am [900,15000,18000] (e' := [(21, _), (20, _), (6, _), (7, _), (8, _)]) Z Z ⟨Z, Z, Z, Z, Z, trivial⟩ Z) (AOps.heap (mB (ds := Nd.cells (ts.getD i default)) O Z Z Z Z Z Z Z Z Z Z (.d Z (.d Z (.d Z (.rs Z (bp _).symm (.rs Z (bp _).symm .nil))))) Z Z Z) Z (av ?_))))
 refine av ?_
 refine jf [22,20,6,7,8] Z (AOps.heap (bw (zs := (ts.take (i + 1)).map Nd.cells) (n := i + 1) O Z Z Z Z Z Z Z Z Z Z Z Z Z Z Z Z (.row Z (by simp; omega)) Z Z (by decide) Z (by simp; omega) (by simp; omega) (by rw [List.take_succ_eq_append_getElem (by omega), List.map_append, ar (by omega)]; rfl) (by simp; omega)) Z (av ?_))
 refine av ?_
 refine js O Z (jf [3,6,7,8] Z (jn (af (ji O Z (js O Z (jn ?_))))))
 refine ⟨i + 1, ((am [23] (e' := [(3, _), (6, _), (7, _), (8, _)]) Z Z ⟨Z, Z, Z, Z, trivial⟩ Z).trans (au 23 900 Z Z)), by omega, by omega⟩
 try simp only [ba] at hc9
 refine aD (ag (j2 O Z Z (jr ?_)))
 obtain rfl : i = ts.length := by omega
 rw [List.take_length]
 refine ⟨.inl Z, _, ak, _, Z, [900], by decide, Z, Z, Z⟩
structure Rw where
  c : Int
  xs : List Int
  ms : List Int
  deriving Inhabited
abbrev Rw.cells (r : Rw) : List D := [.int .i64 r.c, dk r.xs, dk r.ms]
abbrev Rw.tm (r : Rw) : Tm := ⟨r.c, aN r.xs⟩
abbrev Rw.comb (r : Rw) : List D := [.int .i64 r.c, dk (aN r.xs), dk r.ms]
def gk (xs : List Int) (i : Nat) : List Int := (List.range i).map fun k => xs.getD k 0
abbrev vU (xs : List Int) : List Int := gk xs 10
theorem cD {xs : List Int} {i : Nat} : (gk xs i).length = i := by simp [gk]
theorem oX {xs : List Int} {i : Nat} : gk xs (i + 1) = gk xs i ++ [xs.getD i 0] := by simp [gk, List.range_succ]
def fu (n i : Nat) : List Int := (List.replicate n (0 : Int)).set i 1
theorem dZ {n i : Nat} : (fu n i).length = n := by simp [fu]
abbrev mI (ts : List Tm) (i : Nat) : Rw := ⟨(ts.getD i default).c, vU (ts.getD i default).xs, fu ts.length i⟩
def c8 (ts : List Tm) (i : Nat) : List Rw := (List.range i).map (mI ts)
theorem bf {ts : List Tm} {i : Nat} : (c8 ts i).length = i := by simp [c8]
theorem kd {ts : List Tm} {i : Nat} : c8 ts (i + 1) = c8 ts i ++ [mI ts i] := by simp [c8, List.range_succ]
abbrev ny (ts : List Tm) : List Rw := c8 ts ts.length
theorem mu : ∀ {ys : List Int}, ∃ z : Nat, ys.reverse = (ys.dropWhile (· == 0)).reverse ++ List.replicate z 0
 | [] => ⟨0, rfl⟩
 | y :: ys => by
  by_cases h : y = 0
  subst h
  obtain ⟨z, hz⟩ := mu (ys := ys)
  refine ⟨z + 1, ?_⟩
  rw [List.reverse_cons, hz, List.replicate_succ', ef]
  rfl
  refine ⟨0, ?_⟩
  rw [List.dropWhile_cons_of_neg (by simpa using h)]
  simp
theorem fB (xs : List Int) : ∃ z : Nat, xs = aN xs ++ List.replicate z 0 := by
 obtain ⟨z, hz⟩ := mu (ys := xs.reverse)
 rw [List.reverse_reverse] at hz
 exact ⟨z, hz⟩
theorem cB (xs : List Int) (k : Nat) : (aN xs).getD k 0 = xs.getD k 0 := by
 obtain ⟨z, hz⟩ := fB xs
 conv => rhs; rw [hz]
 rw [List.getD_eq_getElem?_getD, List.getD_eq_getElem?_getD, List.getElem?_append]
 split
 rfl
 rename_i h
 rw [List.getElem?_eq_none (by omega), List.getElem?_replicate]
 split <;> rfl
theorem j9 (xs : List Int) : (aN xs).length ≤ xs.length := by
 obtain ⟨z, hz⟩ := fB xs
 have := congrArg List.length hz
 rw [bK] at this
 omega
theorem sf {p : Int → Bool} (h0 : p 0 = true) (xs : List Int) : (aN xs).all p = xs.all p := by
 obtain ⟨z, hz⟩ := fB xs
 conv => rhs; rw [hz]
 rw [List.all_append]
 have : (List.replicate z (0 : Int)).all p = true := by
  rw [List.all_eq_true]; intro x hx
  rw [List.eq_of_mem_replicate hx]; exact h0
 rw [this, Bool.and_true]
theorem mt {f : Int → Int} : ∀ {ys : List Int}, (∀ y ∈ ys, f y = 0 ↔ y = 0) → (ys.map f).dropWhile (· == 0) = (ys.dropWhile (· == 0)).map f
 | [], _ => rfl
 | y :: ys, h => by
  by_cases h0 : y = 0
  have hf : f y = 0 := (h y (by simp)).2 h0
  rw [List.map_cons, List.dropWhile_cons_of_pos (by simpa using hf), List.dropWhile_cons_of_pos (by simpa using h0)]
  exact mt fun z hz => h z (by simp [hz])
  have hf : f y ≠ 0 := fun e => h0 ((h y (by simp)).1 e)
  rw [List.map_cons, List.dropWhile_cons_of_neg (by simpa using hf), List.dropWhile_cons_of_neg (by simpa using h0), List.map_cons]
theorem sd {f : Int → Int} {xs : List Int} (h : ∀ x ∈ xs, f x = 0 ↔ x = 0) : aN (xs.map f) = (aN xs).map f := by
 unfold aN
 rw [← List.map_reverse, mt (fun y hy => h y (by simpa using hy)), List.map_reverse]
theorem ph {ys : List Int} : ys.dropWhile (· == 0) = [] ∨ ∃ y r, ys.dropWhile (· == 0) = y :: r ∧ y ≠ 0 := by
 induction ys with
 | nil => exact .inl Z
 | cons y ys ih =>
  by_cases h : y = 0
  rw [List.dropWhile_cons_of_pos (by simpa using h)]; exact ih
  rw [List.dropWhile_cons_of_neg (by simpa using h)]; exact .inr ⟨y, ys, rfl, h⟩
theorem se (xs : List Int) : aN xs = [] ∨ (aN xs).getD ((aN xs).length - 1) default ≠ 0 := by
 unfold aN
 rcases ph (ys := xs.reverse) with h | ⟨y, r, h, hy⟩
 rw [h]; exact .inl Z
 rw [h]
 refine .inr ?_
 rw [List.reverse_cons]
 simp [hy]
theorem t7 {r : Rw} (hl : r.xs.length = 10) : r.tm.ok = (num r.c && r.xs.all num) := by
 have h : r.tm.ok = true ↔ (num r.c && r.xs.all num) = true := by
  rw [uZ, aX]
  have h1 := j9 r.xs
  have h2 := se r.xs
  have h3 : (aN r.xs).all num = r.xs.all num := sf (by decide) r.xs
  constructor
  rintro ⟨a, b, _⟩
  exact ⟨a, by rw [← h3]; exact b⟩
  rintro ⟨a, b⟩
  exact ⟨a, by show (aN r.xs).all num = true; rw [h3]; exact b, by show (aN r.xs).length ≤ 10; omega, h2⟩
 cases h1 : r.tm.ok <;> cases h2 : (num r.c && r.xs.all num) <;> simp_all
theorem i7 (xs ys : List Int) : aE (xs ++ ys) = ys.foldl (fun g x => Nat.gcd g x.natAbs) (aE xs) := by unfold aE; rw [List.foldl_append]
theorem mi (xs : List Int) (x : Int) : aE (xs ++ [x]) = Nat.gcd (aE xs) x.natAbs := by rw [i7]; rfl
theorem sK (x : Int) : aE [x] = x.natAbs := by show Nat.gcd 0 x.natAbs = _; rw [Nat.gcd_zero_left]
theorem sI (x y : Int) : aE [x, y] = Nat.gcd x.natAbs y.natAbs := by show Nat.gcd (Nat.gcd 0 x.natAbs) y.natAbs = _; rw [Nat.gcd_zero_left]
theorem km : ∀ {z g : Nat}, (List.replicate z (0 : Int)).foldl (fun g x => Nat.gcd g x.natAbs) g = g
 | 0, g => rfl
 | z + 1, g => by
  rw [List.replicate_succ, List.foldl_cons]
  show List.foldl _ (Nat.gcd g 0) _ = g
  rw [Nat.gcd_zero_right]; exact km
theorem qT (c : Int) (xs ms : List Int) : aE (c :: aN xs ++ ms) = aE (c :: xs ++ ms) := by
 obtain ⟨z, hz⟩ := fB xs
 conv => rhs; rw [hz]
 show aE ((c :: aN xs) ++ ms) = aE ((c :: (aN xs ++ List.replicate z 0)) ++ ms)
 rw [i7, i7 (c :: (aN xs ++ List.replicate z 0)), ← List.cons_append, i7 (c :: aN xs) (List.replicate z 0), km]
theorem je {B : Nat} : ∀ {xs : List Int} {g : Nat}, g ≤ B → (∀ x ∈ xs, x.natAbs ≤ B) → xs.foldl (fun g x => Nat.gcd g x.natAbs) g ≤ B
 | [], g, h, _ => h
 | x :: xs, g, h, hx => by
  rw [List.foldl_cons]
  refine je ?_ (fun y hy => hx y (by simp [hy]))
  have h1 := hx x (by simp)
  rcases Nat.eq_zero_or_pos x.natAbs with h0 | h0
  show Nat.gcd g x.natAbs ≤ B
  rw [h0, Nat.gcd_zero_right]; exact h
  exact Nat.le_trans (Nat.gcd_le_right _ h0) h1
theorem lj {B : Nat} {xs : List Int} (h : ∀ x ∈ xs, x.natAbs ≤ B) : aE xs ≤ B := je (b9 _) h
theorem sJ {xs : List Int} {x : Int} (hx : x ∈ xs) (h : x ≠ 0) : 0 < aE xs := by
 have := fE hx
 rcases Nat.eq_zero_or_pos (aE xs) with h0 | h0
 rw [h0] at this
 have := Nat.eq_zero_of_zero_dvd this
 omega
 exact h0
theorem ik {x : Int} {g : Nat} (h : g ∣ x.natAbs) (hg : 0 < g) : x.tdiv g = 0 ↔ x = 0 := by
 constructor
 intro e
 have e1 : (x.tdiv g).natAbs = 0 := by rw [e]; rfl
 rw [Int.natAbs_tdiv, Int.natAbs_natCast] at e1
 obtain ⟨q, hq⟩ := h
 rw [hq] at e1
 change g * q / g = 0 at e1
 rw [Nat.mul_div_cancel_left _ hg] at e1
 rw [e1, Nat.mul_zero] at hq
 omega
 intro e; subst e; simp
theorem jK {x : Int} {g : Nat} (h : g ∣ x.natAbs) (hg : 0 < g) (hx : 0 < x) : 0 < x.tdiv g := by
 have h1 : 0 ≤ x.tdiv g := Int.tdiv_nonneg (by omega) (by omega)
 have h2 : x.tdiv g ≠ 0 := fun e => by have := (ik h hg).1 e; omega
 omega
def eW (n m : Int) (xs ys : List Int) (i : Nat) : List Int := (List.range i).map fun k => n * xs.getD k default + m * ys.getD k default
theorem aS {n m : Int} {xs ys : List Int} {i : Nat} : (eW n m xs ys i).length = i := by simp [eW]
theorem fD {n m : Int} {xs ys : List Int} {i : Nat} : eW n m xs ys (i + 1) = eW n m xs ys i ++ [n * xs.getD i default + m * ys.getD i default] := by simp [eW, List.range_succ]
theorem kF {n m : Int} {xs ys : List Int} {i : Nat} {x : Int} (h : x ∈ eW n m xs ys i) : ∃ k, k < i ∧ x = n * xs.getD k default + m * ys.getD k default := by
 unfold eW at h
 obtain ⟨k, hk, rfl⟩ := List.mem_map.1 h
 exact ⟨k, List.mem_range.1 hk, Z⟩
abbrev dN (p q : Rw) (k : Nat) : Nat := Nat.gcd (p.xs.getD k default).natAbs (q.xs.getD k default).natAbs
abbrev jt (p q : Rw) (k : Nat) : Int := (p.xs.getD k default).tdiv (dN p q k)
abbrev jq (p q : Rw) (k : Nat) : Int := (-(q.xs.getD k default)).tdiv (dN p q k)
abbrev iv (p q : Rw) (k : Nat) : Rw := ⟨jq p q k * p.c + jt p q k * q.c, eW (jq p q k) (jt p q k) p.xs q.xs p.xs.length, eW (jq p q k) (jt p q k) p.ms q.ms p.ms.length⟩
abbrev mL (r : Rw) : Nat := aE (r.c :: r.xs ++ r.ms)
def jv (r : Rw) (g : Nat) : Rw := ⟨r.c.tdiv g, r.xs.map (fun x => x.tdiv g), r.ms.map fun x => x.tdiv g⟩
abbrev cv (p q : Rw) (k : Nat) : Rw := jv (iv p q k) (mL (iv p q k))
def pE (r : Rw) : Bool := (num r.c && r.xs.all num) && r.ms.all num
structure ROk (n : Nat) (r : Rw) : Prop where
  c : num r.c = true
  xs : r.xs.all num = true
  l : r.xs.length = 10
  ms : r.ms.all co = true
  n : r.ms.length = n
  pos : ∃ x ∈ r.ms, 0 < x
theorem qo {p : Int → Bool} {xs : List Int} (h : xs.all p = true) (h0 : p 0 = true) (k : Nat) : p (xs.getD k default) = true := by
 by_cases hk : k < xs.length
 rw [ar hk]; exact List.all_eq_true.1 h _ (List.getElem_mem hk)
 rw [List.getD_eq_getElem?_getD, List.getElem?_eq_none (by omega)]; exact h0
theorem ROk.get {n : Nat} {r : Rw} (h : ROk n r) (k : Nat) : -1000000 ≤ r.xs.getD k default ∧ r.xs.getD k default ≤ 1000000 := xA.1 (qo h.xs (by decide) k)
theorem yl {x : Int} : co x = true ↔ 0 ≤ x ∧ x ≤ 1000000 := by simp [co]
theorem ROk.mul {n : Nat} {r : Rw} (h : ROk n r) (k : Nat) : 0 ≤ r.ms.getD k default ∧ r.ms.getD k default ≤ 1000000 := yl.1 (qo h.ms (by decide) k)
theorem ROk.tm {n : Nat} {r : Rw} (h : ROk n r) : r.tm.ok = true := by rw [t7 h.l, h.c, h.xs]; rfl
theorem m5 {n : Nat} {p q : Rw} {k : Nat} (hp : ROk n p) (hq : ROk n q) (h1 : 0 < p.xs.getD k default) (h2 : q.xs.getD k default < 0) :
    (0 < dN p q k ∧ dN p q k ≤ 1000000) ∧ (1 ≤ jt p q k ∧ jt p q k ≤ 1000000) ∧ (1 ≤ jq p q k ∧ jq p q k ≤ 1000000) := by
 have b1 := hp.get k
 have b2 := hq.get k
 have g1 : 0 < dN p q k := Nat.gcd_pos_of_pos_left _ (by omega)
 have g2 : dN p q k ≤ (p.xs.getD k default).natAbs := Nat.gcd_le_left _ (by omega)
 have d1 : dN p q k ∣ (p.xs.getD k default).natAbs := Nat.gcd_dvd_left _ _
 have d2 : dN p q k ∣ (-(q.xs.getD k default)).natAbs := by rw [Int.natAbs_neg]; exact Nat.gcd_dvd_right _ _
 have m1 := jK d1 g1 h1
 have m2 := jK d2 g1 (x := -(q.xs.getD k default)) (by omega)
 have m3 := ce (a := p.xs.getD k default) (b := dN p q k) (by omega)
 have m4 := ce (a := -(q.xs.getD k default)) (b := dN p q k) (by omega)
 exact ⟨⟨g1, by omega⟩, ⟨by show 1 ≤ Int.tdiv _ _; omega, m3.2⟩, ⟨by show 1 ≤ Int.tdiv _ _; omega, m4.2⟩⟩
theorem dS {a b : Int} (h1 : -1000000 ≤ a ∧ a ≤ 1000000) (h2 : -1000000 ≤ b ∧ b ≤ 1000000) : -1000000000000 ≤ a * b ∧ a * b ≤ 1000000000000 :=
  cN (xA.2 h1) (xA.2 h2)
theorem mQ {a b x y : Int} (h1 : 1 ≤ a ∧ a ≤ 1000000) (h2 : 1 ≤ b ∧ b ≤ 1000000) (hx : -1000000 ≤ x ∧ x ≤ 1000000) (hy : -1000000 ≤ y ∧ y ≤ 1000000) :
    -2000000000000 ≤ a * x + b * y ∧ a * x + b * y ≤ 2000000000000 := by
 have q1 := dS (a := a) (b := x) (by omega) hx
 have q2 := dS (a := b) (b := y) (by omega) hy
 omega
theorem rT {n : Nat} {p q : Rw} {k : Nat} (hp : ROk n p) (hq : ROk n q) (h1 : 0 < p.xs.getD k default) (h2 : q.xs.getD k default < 0) :
    (∀ x ∈ (iv p q k).c :: (iv p q k).xs ++ (iv p q k).ms, -2000000000000 ≤ x ∧ x ≤ 2000000000000) ∧ (∀ x ∈ (iv p q k).ms, 0 ≤ x) ∧ (∃ x ∈ (iv p q k).ms, 0 < x) := by
 obtain ⟨_, hm, hn⟩ := m5 hp hq h1 h2
 refine ⟨fun x hx => ?_, fun x hx => ?_, ?_⟩
 rw [List.mem_append, List.mem_cons] at hx
 rcases hx with (rfl | hx) | hx
 exact mQ hn hm (xA.1 hp.c) (xA.1 hq.c)
 obtain ⟨i, _, rfl⟩ := kF hx
 exact mQ hn hm (hp.get i) (hq.get i)
 obtain ⟨i, _, rfl⟩ := kF hx
 have := hp.mul i
 have := hq.mul i
 exact mQ hn hm (by omega) (by omega)
 obtain ⟨i, _, rfl⟩ := kF hx
 have := Int.mul_nonneg (a := jq p q k) (b := p.ms.getD i default) (by omega) (hp.mul i).1
 have := Int.mul_nonneg (a := jt p q k) (b := q.ms.getD i default) (by omega) (hq.mul i).1
 omega
 obtain ⟨x, hx, h0⟩ := hp.pos
 obtain ⟨i, hi, rfl⟩ := List.mem_iff_getElem.1 hx
 refine ⟨_, List.mem_map.2 ⟨i, List.mem_range.2 hi, Z⟩, ?_⟩
 rw [← ar hi] at h0
 have := Int.mul_pos (a := jq p q k) (b := p.ms.getD i default) (by omega) h0
 have := Int.mul_nonneg (a := jt p q k) (b := q.ms.getD i default) (by omega) (hq.mul i).1
 omega
theorem kI {n : Nat} {p q : Rw} {k : Nat} (hp : ROk n p) (hq : ROk n q) (h1 : 0 < p.xs.getD k default) (h2 : q.xs.getD k default < 0) :
    0 < mL (iv p q k) ∧ mL (iv p q k) ≤ 2000000000000 := by
 obtain ⟨a, _, ⟨x, hx, h0⟩⟩ := rT hp hq h1 h2
 exact ⟨sJ (x := x) (List.mem_append_right _ hx) (by omega), lj fun y hy => by have := a y hy; omega⟩
theorem nX {r : Rw} : mL r ∣ r.c.natAbs ∧ (∀ x ∈ r.xs, mL r ∣ x.natAbs) ∧ ∀ x ∈ r.ms, mL r ∣ x.natAbs :=
  ⟨fE (by simp), fun x hx => fE (by simp [hx]), fun x hx => fE (by simp [hx])⟩
theorem lD {n : Nat} {p q : Rw} {k : Nat} (hp : ROk n p) : (cv p q k).xs.length = 10 ∧ (cv p q k).ms.length = n :=
  ⟨by show (List.map _ (eW _ _ _ _ _)).length = 10; rw [bp, aS, hp.l], by show (List.map _ (eW _ _ _ _ _)).length = n; rw [bp, aS, hp.n]⟩
theorem mO {n : Nat} {p q : Rw} {k : Nat} (hp : ROk n p) (hq : ROk n q) (h1 : 0 < p.xs.getD k default) (h2 : q.xs.getD k default < 0) (h : pE (cv p q k) = true) : ROk n (cv p q k) := by
 obtain ⟨a, b, ⟨x, hx, h0⟩⟩ := rT hp hq h1 h2
 have hg := kI hp hq h1 h2
 have hd := nX (r := iv p q k)
 simp only [pE, aX] at h
 refine ⟨h.1.1, h.1.2, (lD hp).1, ?_, (lD hp).2, ?_⟩
 have h9 := List.all_eq_true.1 h.2
 rw [List.all_eq_true]
 intro y hy
 have h3 := xA.1 (h9 y hy)
 obtain ⟨z, hz, rfl⟩ := List.mem_map.1 hy
 exact yl.2 ⟨Int.tdiv_nonneg (b z hz) (by omega), h3.2⟩
 exact ⟨_, List.mem_map.2 ⟨x, hx, Z⟩, jK (hd.2.2 x hx) hg.1 h0⟩
theorem sM {r : Rw} (h : 0 < mL r) : aN (r.xs.map fun x => x.tdiv (mL r)) = (aN r.xs).map fun x => x.tdiv (mL r) :=
  sd fun x hx => ik (nX.2.1 x hx) h
def np (p : Rw) (k b : Nat) : List Rw → List Rw → Option (List Rw)
  | [], new => some new
  | q :: qs, new => if p.xs.getD k default ≤ 0 ∨ 0 ≤ q.xs.getD k default then np p k b qs new
    else if pE (cv p q k) = true ∧ b + new.length ≠ 60 then np p k b qs (new ++ [cv p q k]) else none
def mF (k b : Nat) (rs : List Rw) : List Rw → List Rw → Option (List Rw)
  | [], new => some new
  | p :: ps, new => match np p k b rs new with
    | none => none
    | some y => mF k b rs ps y
def bu (k : Nat) (rs : List Rw) : List Rw := rs.filter fun r => decide (r.xs.getD k default = 0)
abbrev cO (k : Nat) (rs : List Rw) : Option (List Rw) := mF k (bu k rs).length rs rs []
def ep : Nat → Nat → List Rw → List Rw → Option (List Rw × List Rw)
  | 0, _, rs, news => some (rs, news)
  | f + 1, k, rs, news => match cO k rs with
    | none => none
    | some new => ep f (k + 1) (bu k rs ++ new) (news ++ new)
abbrev bQ (ts : List Tm) : Option (List Rw × List Rw) := ep 10 0 (ny ts) []
def AllR (n : Nat) (rs : List Rw) : Prop := ∀ r ∈ rs, ROk n r
theorem AllR.nil {n : Nat} : AllR n [] := fun r h => by cases h
theorem AllR.app {n : Nat} {a b : List Rw} (h1 : AllR n a) (h2 : AllR n b) : AllR n (a ++ b) := fun r h => by
 rcases List.mem_append.1 h with h | h
 exact h1 r h
 exact h2 r h
theorem AllR.snoc {n : Nat} {a : List Rw} {r : Rw} (h1 : AllR n a) (h2 : ROk n r) : AllR n (a ++ [r]) := h1.app fun x hx => by simp at hx; subst hx; exact h2
theorem AllR.get {n : Nat} {a : List Rw} (h : AllR n a) {i : Nat} (hi : i < a.length) : ROk n (a.getD i default) := by rw [ar hi]; exact h _ (List.getElem_mem hi)
theorem nW {p : Rw} {k b : Nat} {rs new : List Rw} {j : Nat} (h : j < rs.length) : np p k b (rs.drop j) new =
    if p.xs.getD k default ≤ 0 ∨ 0 ≤ (rs.getD j default).xs.getD k default then np p k b (rs.drop (j + 1)) new
    else if pE (cv p (rs.getD j default) k) = true ∧ b + new.length ≠ 60 then np p k b (rs.drop (j + 1)) (new ++ [cv p (rs.getD j default) k]) else none := by
 rw [List.drop_eq_getElem_cons h, ar h]; rfl
theorem qc {p : Rw} {k b : Nat} {rs new : List Rw} {j : Nat} (h : rs.length ≤ j) : np p k b (rs.drop j) new = some new := by
 rw [List.drop_of_length_le h]; rfl
theorem i6 {k b : Nat} {rs new : List Rw} {i : Nat} (h : i < rs.length) : mF k b rs (rs.drop i) new =
    match np (rs.getD i default) k b rs new with
    | none => none
    | some y => mF k b rs (rs.drop (i + 1)) y := by
  rw [List.drop_eq_getElem_cons h, ar h]; rfl
theorem qe {k b : Nat} {rs new : List Rw} {i : Nat} (h : rs.length ≤ i) : mF k b rs (rs.drop i) new = some new := by
 rw [List.drop_of_length_le h]; rfl
theorem oJ {n : Nat} {p : Rw} {k b : Nat} (hp : ROk n p) : ∀ {qs new y : List Rw}, AllR n qs → AllR n new → b + new.length ≤ 60 → np p k b qs new = some y → AllR n y ∧ b + y.length ≤ 60
 | [], new, y, _, hn, hl, h => by
  simp only [np, cY] at h; subst h; exact ⟨hn, hl⟩
 | q :: qs, new, y, hq, hn, hl, h => by
  have hqs : AllR n qs := fun r hr => hq r (by simp [hr])
  unfold np at h
  split at h
  exact oJ hp hqs hn hl h
  rename_i h0
  have hb : 0 < p.xs.getD k default ∧ q.xs.getD k default < 0 := ⟨by omega, by omega⟩
  split at h
  rename_i h3
  exact oJ hp hqs (hn.snoc (mO hp (hq q (by simp)) hb.1 hb.2 h3.1)) (by rw [bK, cZ]; omega) h
  cases h
theorem r4 {n k b : Nat} {rs : List Rw} (hr : AllR n rs) : ∀ {ps new y : List Rw}, AllR n ps → AllR n new → b + new.length ≤ 60 → mF k b rs ps new = some y → AllR n y ∧ b + y.length ≤ 60
 | [], new, y, _, hn, hl, h => by
  simp only [mF, cY] at h; subst h; exact ⟨hn, hl⟩
 | p :: ps, new, y, hq, hn, hl, h => by
  unfold mF at h
  split at h
  cases h
  rename_i z hz
  obtain ⟨h1, h2⟩ := oJ (hq p (by simp)) hr hn hl hz
  exact r4 hr (fun r h => hq r (by simp [h])) h1 h2 h
theorem dF {k : Nat} {rs : List Rw} : (bu k rs).length ≤ rs.length := List.length_filter_le _ _
theorem sE {n k : Nat} {rs : List Rw} (h : AllR n rs) : AllR n (bu k rs) := fun r hr => h r ((List.mem_filter.1 hr).1)
theorem qa {k i : Nat} {rs : List Rw} (h : i < rs.length) (h0 : (rs.getD i default).xs.getD k default = 0) : bu k (rs.take (i + 1)) = bu k (rs.take i) ++ [rs.getD i default] := by
 unfold bu
 rw [List.take_succ_eq_append_getElem h, List.filter_append, ← ar h, List.filter_cons_of_pos (by simpa using h0)]; rfl
theorem qb {k i : Nat} {rs : List Rw} (h : i < rs.length) (h0 : (rs.getD i default).xs.getD k default ≠ 0) : bu k (rs.take (i + 1)) = bu k (rs.take i) := by
 unfold bu
 rw [List.take_succ_eq_append_getElem h, List.filter_append, ← ar h, List.filter_cons_of_neg (by simpa using h0), List.filter_nil, List.append_nil]
theorem jL {n k : Nat} {rs new : List Rw} (h : AllR n rs) (hl : rs.length ≤ 60) (hs : cO k rs = some new) : AllR n (bu k rs ++ new) ∧ (bu k rs ++ new).length ≤ 60 ∧ AllR n new ∧ new.length ≤ 60 := by
 have h1 := dF (k := k) (rs := rs)
 obtain ⟨h2, h3⟩ := r4 h h .nil (by simp only [List.length_nil]; omega) hs
 exact ⟨(sE h).app h2, by rw [bK]; exact h3, h2, by omega⟩
theorem f8 {f k : Nat} {rs news new : List Rw} (h : cO k rs = some new) : ep (f + 1) k rs news = ep f (k + 1) (bu k rs ++ new) (news ++ new) := by
 rw [ep, h]
theorem f9 {f k : Nat} {rs news : List Rw} (h : cO k rs = none) : ep (f + 1) k rs news = none := by
 rw [ep, h]
theorem n7 {n : Nat} : ∀ {f k : Nat} {rs news a b : List Rw}, AllR n rs → rs.length ≤ 60 → AllR n news → ep f k rs news = some (a, b) → AllR n a ∧ a.length ≤ 60 ∧ AllR n b ∧ b.length ≤ news.length + 60 * f
 | 0, k, rs, news, a, b, h1, h2, h3, h => by
  simp only [ep, cY, Prod.mk.injEq] at h
  obtain ⟨rfl, rfl⟩ := h
  exact ⟨h1, h2, h3, by omega⟩
 | f + 1, k, rs, news, a, b, h1, h2, h3, h => by
  cases hs : cO k rs with
  | none => rw [f9 hs] at h; cases h
  | some new =>
   rw [f8 hs] at h
   obtain ⟨g1, g2, g3, g4⟩ := jL h1 h2 hs
   obtain ⟨e1, e2, e3, e4⟩ := n7 g1 g2 (h3.app g3) h
   rw [bK] at e4
   exact ⟨e1, e2, e3, by omega⟩
structure Fs (ts : List Tm) : Prop where
  ok : ∀ t ∈ ts, t.ok = true
  len : ts.length ≤ 14
theorem Fs.ctx {ts : List Tm} (h : Fs ts) : CtxOk ts := ⟨h.ok, by have := h.len; omega⟩
theorem Fs.get {ts : List Tm} (h : Fs ts) {i : Nat} (hi : i < ts.length) : (ts.getD i default).ok = true := h.ctx.get hi
theorem Fs.snoc {ts : List Tm} {t : Tm} (h : Fs ts) (ht : t.ok = true) (hl : ts.length ≠ 14) : Fs (ts ++ [t]) := ⟨fun u hu => by
 rcases List.mem_append.1 hu with hu | hu
 exact h.ok u hu
 simp at hu; subst hu; exact ht, by have := h.len; rw [bK, cZ]; omega⟩
theorem Fs.all {ts : List Tm} (h : Fs ts) : fA ts 14 = true := by
 have := h.len
 simp only [fA, aX, decide_eq_true_eq, List.all_eq_true]
 exact ⟨h.ok, by omega⟩
theorem tq {n i : Nat} : (fu n i).all co = true := by
 rw [List.all_eq_true]
 intro x hx
 rcases List.mem_or_eq_of_mem_set hx with h | h
 rw [List.eq_of_mem_replicate h]; decide
 rw [h]; decide
theorem pZ {ts : List Tm} (h : Fs ts) {i : Nat} (hi : i < ts.length) : ROk ts.length (mI ts i) := by
 have ht := bh (h.get hi)
 refine ⟨ht.c, ?_, cD, tq, dZ, ⟨1, ?_, by decide⟩⟩
 rw [List.all_eq_true]
 intro x hx
 obtain ⟨k, _, rfl⟩ := List.mem_map.1 hx
 exact ht.get k
 exact List.mem_iff_getElem.2 ⟨i, by rw [dZ]; exact hi, by simp [fu]⟩
theorem k6 {ts : List Tm} (h : Fs ts) : AllR ts.length (ny ts) := fun r hr => by
 obtain ⟨i, hi, rfl⟩ := List.mem_map.1 hr
 exact pZ h (List.mem_range.1 hi)
theorem sr {xs : List Int} (h : xs.length ≤ 10) (he : xs = [] ∨ xs.getD (xs.length - 1) default ≠ 0) : aN (vU xs) = xs := by
 have h1 : vU xs = xs ++ List.replicate (10 - xs.length) 0 := by
  refine List.ext_getElem (by simp [gk]; omega) fun k h2 h3 => ?_
  rw [List.getElem_append]
  have h5 : (vU xs)[k] = xs.getD k 0 := by simp [gk]
  rw [h5]
  split
  rename_i h4; simp [h4]
  rename_i h4; simp [Nat.not_lt.1 h4]
 rw [h1]
 have h2 : ∀ z : Nat, aN (xs ++ List.replicate z 0) = aN xs := by
  intro z
  induction z with
  | zero => simp
  | succ z ih => rw [List.replicate_succ', ← ef, ma, ih]
 rw [h2, mb he]
theorem tC {ts : List Tm} (h : Fs ts) {i : Nat} (hi : i < ts.length) : (mI ts i).tm = ts.getD i default := by
 obtain ⟨_, _, h3, h4⟩ := uZ.1 (h.get hi)
 show (⟨(ts.getD i default).c, aN (vU (ts.getD i default).xs)⟩ : Tm) = _
 rw [sr h3 h4]
theorem fF {ts : List Tm} (h : Fs ts) {a b : List Rw} (he : bQ ts = some (a, b)) : AllR ts.length a ∧ a.length ≤ 60 ∧ AllR ts.length b ∧ b.length ≤ 600 := by
 have := h.len
 obtain ⟨h1, h2, h3, h4⟩ := n7 (k6 h) (by rw [bf]; omega) .nil he
 exact ⟨h1, h2, h3, by simpa using h4⟩
def eo : List Rw → Option Rw
  | [] => none
  | r :: rs => if r.c < 0 then some r else eo rs
theorem lH {rs : List Rw} {i : Nat} (h : i < rs.length) : eo (rs.drop i) = if (rs.getD i default).c < 0 then some (rs.getD i default) else eo (rs.drop (i + 1)) := by
 rw [List.drop_eq_getElem_cons h, ar h]; rfl
theorem ml {rs : List Rw} {i : Nat} (h : rs.length ≤ i) : eo (rs.drop i) = none := by rw [List.drop_of_length_le h]; rfl
def bO (ts : List Tm) : List Int × Bool := match bQ ts with
  | none => ([], false)
  | some z => match eo z.1 with
    | none => ([], false)
    | some r => (r.ms, true)
theorem jS : ∀ {rs : List Rw} {r : Rw}, eo rs = some r → r ∈ rs
 | [], r, h => by cases h
 | x :: rs, r, h => by
  unfold eo at h
  split at h
  simp only [cY] at h; subst h; simp
  exact List.mem_cons_of_mem _ (jS h)
theorem kC {ts : List Tm} (h : Fs ts) (h2 : (bO ts).2 = true) : (bO ts).1.all co = true ∧ (bO ts).1.length = ts.length := by
 unfold bO at h2 ⊢
 split at h2
 cases h2
 rename_i z hz
 split at h2
 cases h2
 rename_i r hr
 have := (fF h (a := z.1) (b := z.2) hz).1 r (jS hr)
 exact ⟨this.ms, this.n⟩
def ew (ts : List Tm) (t : Tm) : Bool := ts.any fun u => decide (u = t)
def s5 : Tm × Bool := (⟨0, []⟩, false)
def an (ts : List Tm) (t : Tm) : Tm × Bool := if aE t.xs < 2 ∨ t.c.tmod (aE t.xs) = 0 then s5 else ((aM t).1, (aM t).2 && !ew ts (aM t).1)
theorem b0 {ts : List Tm} {t : Tm} (h : (an ts t).2 = true) : (an ts t).1.ok = true := by
 unfold an at h ⊢
 split at h
 cases h
 rename_i h1
 rw [if_neg h1]
 simp only [aX] at h
 exact fG h.1
def gl (ts : List Tm) : List Rw → Option Rw
  | [] => none
  | r :: rs => if (an ts r.tm).2 = true then some r else gl ts rs
theorem lI {ts : List Tm} {rs : List Rw} {i : Nat} (h : i < rs.length) : gl ts (rs.drop i) = if (an ts (rs.getD i default).tm).2 = true then some (rs.getD i default) else gl ts (rs.drop (i + 1)) := by
 rw [List.drop_eq_getElem_cons h, ar h]; rfl
theorem mn {ts : List Tm} {rs : List Rw} {i : Nat} (h : rs.length ≤ i) : gl ts (rs.drop i) = none := by rw [List.drop_of_length_le h]; rfl
theorem fL {ts : List Tm} : ∀ {rs : List Rw} {r : Rw}, gl ts rs = some r → r ∈ rs ∧ (an ts r.tm).2 = true
 | [], r, h => by cases h
 | x :: rs, r, h => by
  unfold gl at h
  split at h
  rename_i h1
  simp only [cY] at h; subst h; exact ⟨by simp, h1⟩
  exact ⟨List.mem_cons_of_mem _ (fL h).1, (fL h).2⟩
def cG (ts : List Tm) : Option Rw := match bQ ts with
  | none => none
  | some z => gl ts z.2
theorem fd {ts : List Tm} (h : Fs ts) {r : Rw} (hr : cG ts = some r) : ROk ts.length r ∧ (an ts r.tm).2 = true := by
 unfold cG at hr
 split at hr
 cases hr
 rename_i z hz
 exact ⟨(fF h (a := z.1) (b := z.2) hz).2.2.1 r (fL hr).1, (fL hr).2⟩
def kP (ts : List Tm) : Nat → Nat → Option Nat
  | 0, _ => none
  | f + 1, i => if (an ts (ts.getD i default)).2 = true then some i else kP ts f (i + 1)
abbrev dj (ts : List Tm) : Option Nat := kP ts ts.length 0
theorem fH {ts : List Tm} : ∀ {f i j : Nat}, kP ts f i = some j → i ≤ j ∧ j < i + f ∧ (an ts (ts.getD j default)).2 = true
 | 0, i, j, h => by cases h
 | f + 1, i, j, h => by
  unfold kP at h
  split at h
  rename_i h1
  simp only [cY] at h; subst h; exact ⟨cu _, by omega, h1⟩
  obtain ⟨a, b, c⟩ := fH h
  exact ⟨by omega, by omega, c⟩
abbrev ci (i : Nat) : Nd := ⟨3, (i : Int), ⟨0, []⟩, []⟩
abbrev bN (t : Tm) : Nd := ⟨2, 0, t, []⟩
abbrev bA (ms : List Int) : Nd := ⟨1, 0, ⟨0, []⟩, ms⟩
abbrev cF (r : Rw) : List Int := r.ms ++ [(aE r.tm.xs : Int)]
def fh : Nat → List Tm → Option (List Nd × List Nd)
  | 0, _ => none
  | f + 1, ts => match dj ts with
    | some i => if ts.length = 14 then none else (fh f (ts ++ [(an ts (ts.getD i default)).1])).map fun z => (ci i :: z.1, z.2)
    | none => if (bO ts).2 = true then some ([bA (bO ts).1], []) else match cG ts with
      | none => none
      | some r => if ts.length = 14 then none else if (aT (an ts r.tm).1).2 = true then
          (fh f (ts ++ [(an ts r.tm).1])).map fun z => (bN (an ts r.tm).1 :: z.1, z.2 ++ [bA (cF r)]) else none
abbrev Wk := List Nd × Bool
def eV (b : Int) (s : Wk) (n : Nd) : Wk := if (s.1.length : Int) = b ∨ n.mul.all co = false then (s.1, true) else (s.1 ++ [n], s.2)
def cw (ts : List Tm) (s : Wk) : Wk := (s.1, if ts.length = 14 then true else s.2)
def fp (b : Int) : Nat → List Tm → Wk → Wk
  | 0, _, s => s
  | f + 1, ts, s => if s.2 = true then s else match dj ts with
    | some i => fp b f (ts ++ [(an ts (ts.getD i default)).1]) (cw ts (eV b s (ci i)))
    | none => if (bO ts).2 = true then eV b s (bA (bO ts).1) else match cG ts with
      | none => (s.1, true)
      | some r => if (aT (an ts r.tm).1).2 = true then
          eV b (fp b f (ts ++ [(an ts r.tm).1]) (cw ts (eV b s (bN (an ts r.tm).1)))) (bA (cF r)) else (s.1, true)
theorem eJ {b : Int} {f : Nat} {ts : List Tm} {s : Wk} (h : s.2 = true) : fp b f ts s = s := by
 cases f with
 | zero => rfl
 | succ f => rw [fp, if_pos h]
theorem iT {b : Int} {s : Wk} {n : Nd} (hb : (s.1.length : Int) ≤ b) : ((eV b s n).1.length : Int) ≤ b := by
 unfold eV
 split
 exact hb
 rename_i h
 simp only [bK, cZ]; omega
theorem iU {b : Int} : ∀ {f : Nat} {ts : List Tm} {s : Wk}, (s.1.length : Int) ≤ b → ((fp b f ts s).1.length : Int) ≤ b
 | 0, ts, s, h => h
 | f + 1, ts, s, h => by
  rw [fp]
  split
  exact h
  split
  exact iU (iT (s := s) h)
  split
  exact iT h
  split
  exact h
  split
  exact iT (iU (iT (s := s) h))
  exact h
theorem f5 {b : Int} {s : Wk} {n : Nd} (h : s.2 = true) : (eV b s n).2 = true := by
 unfold eV
 split
 rfl
 exact h
theorem mM {b : Int} {N : List Nd} {n : Nd} (hm : n.mul.all co = true) (hb : (N.length : Int) < b) : eV b (N, false) n = (N ++ [n], false) := by
 unfold eV
 rw [if_neg]
 rintro (h | h)
 simp only at h; omega
 rw [hm] at h; cases h
theorem iZ {b : Int} {s : Wk} {n : Nd} (hb : (s.1.length : Int) = b) : (eV b s n).2 = true := by
 unfold eV; rw [if_pos (.inl hb)]
theorem oM {n : Nat} {r : Rw} (h : ROk n r) : (cF r).all co = true := by
 rw [List.all_append, h.ms, Bool.true_and]
 have h1 : aE r.tm.xs ≤ 1000000 := by
  have := kJ (xs := r.tm.xs) (bh h.tm).xs (cu _)
  rwa [List.take_length] at this
 show (co (aE r.tm.xs : Int) && true) = true
 rw [Bool.and_true]
 exact yl.2 ⟨by omega, by omega⟩
theorem oC {b : Int} : ∀ {f : Nat} {ts : List Tm} {N : List Nd}, Fs ts → 15 ≤ f + ts.length → (N.length : Int) ≤ b →
    (∀ z, fh f ts = some z → (N.length + (z.1 ++ z.2).length : Int) ≤ b → fp b f ts (N, false) = (N ++ (z.1 ++ z.2), false)) ∧
    ((∀ z, fh f ts = some z → b < (N.length + (z.1 ++ z.2).length : Int)) → (fp b f ts (N, false)).2 = true)
 | 0, ts, N, h, hf, hb => by have := h.len; omega
 | f + 1, ts, N, h, hf, hb => by
  rw [fh, fp]
  simp only [Bool.false_eq_true, if_false]
  cases ht : dj ts with
  | some i =>
   obtain ⟨_, hi, hs⟩ := fH ht
   have hx := b0 hs
   simp only
   by_cases hl : ts.length = 14
   have e : (fp b f (ts ++ [(an ts (ts.getD i default)).1]) (cw ts (eV b (N, false) (ci i)))).2 = true := by
    have : (cw ts (eV b (N, false) (ci i))).2 = true := by unfold cw; rw [if_pos hl]
    rw [eJ this]; exact this
   rw [if_pos hl]
   exact ⟨fun z hz => (by cases hz), fun _ => e⟩
   rw [if_neg hl]
   have hfs := h.snoc hx hl
   by_cases hN : (N.length : Int) < b
   have e : cw ts (eV b (N, false) (ci i)) = (N ++ [ci i], false) := by
    rw [mM Z hN]; unfold cw; rw [if_neg hl]
   rw [e]
   obtain ⟨q1, q2⟩ := oC (f := f) (N := N ++ [ci i]) (b := b) hfs (by rw [bK, cZ]; omega) (by rw [bK, cZ]; omega)
   refine ⟨fun z hz hzl => ?_, fun hno => ?_⟩
   obtain ⟨y, hy, rfl⟩ := Option.map_eq_some_iff.1 hz
   rw [q1 y hy (by simp only [bK, dp, cZ, List.length_nil] at hzl ⊢; omega)]
   simp
   refine q2 fun y hy => ?_
   have := hno (ci i :: y.1, y.2) (by rw [hy]; rfl)
   simp only [bK, dp, cZ, List.length_nil] at this ⊢; omega
   have e : (cw ts (eV b (N, false) (ci i))).2 = true := by
    unfold cw; rw [if_neg hl]; exact iZ (by show (N.length : Int) = b; omega)
   rw [eJ e]
   refine ⟨fun z hz hzl => ?_, fun _ => e⟩
   obtain ⟨y, hy, rfl⟩ := Option.map_eq_some_iff.1 hz
   simp only [bK, dp] at hzl; omega
  | none =>
   simp only
   by_cases hr : (bO ts).2 = true
   rw [if_pos hr, if_pos hr]
   have hm := (kC h hr).1
   refine ⟨fun z hz hzl => ?_, fun hno => ?_⟩
   simp only [cY] at hz; subst hz
   simp only [bK, dp, List.length_nil] at hzl
   rw [mM hm (by omega)]; rfl
   have := hno _ Z
   simp only [bK, dp, List.length_nil] at this
   exact iZ (by show (N.length : Int) = b; omega)
   rw [if_neg hr, if_neg hr]
   cases hc : cG ts with
   | none => exact ⟨fun z hz => (by cases hz), fun _ => rfl⟩
   | some r =>
    obtain ⟨hro, hsr⟩ := fd h hc
    have hx := b0 hsr
    simp only
    by_cases ho : (aT (an ts r.tm).1).2 = true
    rw [if_pos ho, if_pos ho]
    by_cases hl : ts.length = 14
    have e : (cw ts (eV b (N, false) (bN (an ts r.tm).1))).2 = true := by unfold cw; rw [if_pos hl]
    rw [if_pos hl, eJ e]
    exact ⟨fun z hz => (by cases hz), fun _ => f5 e⟩
    rw [if_neg hl]
    have hfs := h.snoc hx hl
    by_cases hN : (N.length : Int) < b
    have e : cw ts (eV b (N, false) (bN (an ts r.tm).1)) = (N ++ [bN (an ts r.tm).1], false) := by
     rw [mM Z hN]; unfold cw; rw [if_neg hl]
    rw [e]
    have hb2 : ((N ++ [bN (an ts r.tm).1]).length : Int) ≤ b := by rw [bK, cZ]; omega
    obtain ⟨q1, q2⟩ := oC (f := f) (N := N ++ [bN (an ts r.tm).1]) hfs (by rw [bK, cZ]; omega) hb2
    refine ⟨fun z hz hzl => ?_, fun hno => ?_⟩
    obtain ⟨y, hy, rfl⟩ := Option.map_eq_some_iff.1 hz
    simp only [bK, dp, cZ, List.length_nil] at hzl
    rw [q1 y hy (by simp only [bK, dp, cZ, List.length_nil]; omega)]
    rw [mM (oM hro) (by simp only [bK, dp, cZ, List.length_nil]; omega)]
    simp
    cases hy : fh f (ts ++ [(an ts r.tm).1]) with
    | none => exact f5 (q2 fun y hy' => by rw [hy] at hy'; cases hy')
    | some y =>
     have h1 := hno _ (by rw [hy]; rfl)
     simp only [bK, dp, cZ, List.length_nil] at h1
     by_cases hle : ((N ++ [bN (an ts r.tm).1]).length + (y.1 ++ y.2).length : Int) ≤ b
     have h2 := q1 y hy hle
     simp only [bK, dp, cZ, List.length_nil] at hle
     rw [h2]
     refine iZ ?_
     simp only [bK, dp, cZ, List.length_nil]; omega
     exact f5 (q2 fun y' hy' => by rw [hy] at hy'; simp only [cY] at hy'; subst hy'; omega)
    have e : (cw ts (eV b (N, false) (bN (an ts r.tm).1))).2 = true := by
     unfold cw; rw [if_neg hl]; exact iZ (by show (N.length : Int) = b; omega)
    rw [eJ e]
    refine ⟨fun z hz hzl => ?_, fun _ => f5 e⟩
    obtain ⟨y, hy, rfl⟩ := Option.map_eq_some_iff.1 hz
    simp only [bK, dp] at hzl; omega
    rw [if_neg ho, if_neg ho]
    refine ⟨fun z hz hzl => ?_, fun _ => rfl⟩
    split at hz <;> cases hz
def aU (s : Sq) (b : Int) : List Nd × Bool := if (aT s.goal).2 = true then
    match fh (15 - (s.facts.length + 1)) (s.facts ++ [(aT s.goal).1]) with
    | none => ([], false)
    | some z => if ((z.1 ++ z.2).length : Int) ≤ b then (z.1 ++ z.2, true) else ([], false)
  else ([], false)
def e5 (b : Int) : Bool := decide (1 ≤ b) && decide (b ≤ 60)
def bD (s : Sq) (b : Int) : List Nd × Bool := if (bX s && e5 b) = true then aU s b else ([], false)
def lS (bs : List Bool) : Nat → List Int
  | 0 => []
  | i + 1 => if bs.getD i default = true then lS bs i ++ [(i : Int)] else lS bs i
theorem wK {bs : List Bool} {i : Nat} (h : bs.getD i default = true) : lS bs (i + 1) = lS bs i ++ [(i : Int)] := if_pos h
theorem wL {bs : List Bool} {i : Nat} (h : bs.getD i default = false) : lS bs (i + 1) = lS bs i := if_neg (by rw [h]; decide)
theorem iJ {bs : List Bool} : ∀ {i : Nat}, (lS bs i).length ≤ i
 | 0 => by simp [lS]
 | i + 1 => by
  have := iJ (bs := bs) (i := i)
  rw [lS]; split
  simp; omega
  omega
def iu (ss : List Sq) : Bool := ss.all bX && decide ((ss.length : Int) ≤ 60)
def dP (b : Int) : List Sq → List (List Nd)
  | [] => []
  | s :: ss => if (aU s b).2 = true then (aU s b).1 :: dP b ss else []
theorem od {b : Int} : ∀ {ss : List Sq}, (∀ s ∈ ss, (aU s b).2 = true) → dP b ss = ss.map fun s => (aU s b).1
 | [], _ => rfl
 | s :: ss, h => by rw [dP, if_pos (h s (by simp)), od fun x hx => h x (by simp [hx])]; rfl
theorem oc {b : Int} : ∀ {ss rs : List Sq}, (∀ s ∈ ss, (aU s b).2 = true) → dP b (ss ++ rs) = (ss.map fun s => (aU s b).1) ++ dP b rs
 | [], _, _ => rfl
 | s :: ss, rs, h => by rw [List.cons_append, dP, if_pos (h s (by simp)), oc fun x hx => h x (by simp [hx])]; rfl
theorem qY {b : Int} {ss : List Sq} {i : Nat} (hi : i < ss.length) (h : ∀ j (hj : j < ss.length), j < i → (aU ss[j] b).2 = true) (h2 : (aU (ss.getD i default) b).2 = false) :
    dP b ss = (ss.take i).map fun s => (aU s b).1 := by
 conv => lhs; rw [← List.take_append_drop i ss]
 rw [oc (fun s hs => ?_), List.drop_eq_getElem_cons hi, ← ar hi, dP, if_neg (by rw [h2]; decide), List.append_nil]
 obtain ⟨j, hj, rfl⟩ := List.mem_iff_getElem.1 hs
 rw [List.length_take] at hj
 rw [List.getElem_take]
 exact h j (by omega) (by omega)
theorem mA {b : Int} {ss : List Sq} (h : ∀ j (hj : j < ss.length), (aU ss[j] b).2 = true) : dP b ss = ss.map fun s => (aU s b).1 := od fun s hs => by
 obtain ⟨j, hj, rfl⟩ := List.mem_iff_getElem.1 hs
 exact h j hj
def dr (ss : List Sq) (b : Int) : Int × Bool := if (iu ss && e5 b) = true then (if (dP b ss).length = ss.length then -1 else ((dP b ss).length : Int), true) else (0, false)
def kT (ss : List Sq) (b : Int) : List (List Nd) × Bool := if (iu ss && e5 b) = true then (if (dP b ss).length < ss.length then ([], false) else (dP b ss, true)) else ([], false)
def fz (s : Sq) (b : Int) : List Int × Bool := if (bD s b).2 = true then (lS (dV nz (bD s b).1 s.facts.length (bD s b).1.length) s.facts.length, true) else ([], false)
end Go.Al
