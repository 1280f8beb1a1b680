/- Proofs of lists of sequents; the prover, in plain Lean. -/
import Derived.Test.YtbkloknmpkgmbaaGreatH
import Derived.Test.YtbkloknmpkgmbaaGreatC
set_option linter.unusedVariables false
set_option linter.unusedSimpArgs false
set_option maxRecDepth 10000
open Go.Proofs
namespace Go.Al
variable {L : Nat} (h1 : 4096 ≤ L) (h2 : L ≤ 1073741824)
abbrev fV (ps : List (List Nd)) : B := .row true 1 (ps.map qE)
theorem AI {xs ys : List (List Nd)} : MQ h1 h2 29 [.c (.d (r5 xs)), .c (.d (r5 ys))] [] (Plain (eB (decide (xs = ys)))) := by
 refine aA ?_ Z
 refine jB 27 h1 h2 Tryz.func29 Z Z Z fun O hF => ?_
 have hl : xs.length ≤ L := by simpa [As.fact, A.fact, M.fact, D.fact, Ds.fact] using hF.1.1
 have hl2 : ys.length ≤ L := by simpa [As.fact, A.fact, M.fact, D.fact, Ds.fact] using hF.2.1.1
 refine ah (js O Z (jn (ag (ah (js O Z (cu O Z (js O Z (cu O Z (js O Z (jn (ae O Z Z (fun hc10 => ?_) (fun hc10 => ?_))))))))))))
 try simp only [aT] at hc10
 refine ah (js O Z (jr ?_))
 refine ⟨.inl Z, _, am, _, Z, ?_⟩
 rw [decide_eq_false (fun e => by subst e; simp at hc10)]
 try simp only [aT] at hc10
 refine aj (ag (ah (js O Z (jn (ao (aq (X := Nat) (fun i => ⟨[(0, .c (.d (r5 xs))), (1, .c (.d (r5 ys))), (5, eI i)], []⟩) (fun i => i ≤ xs.length ∧ ∀ j, j < i → xs[j]? = ys[j]?) (fun i => xs.length - i) 0 (Ent.env ⟨Z, Z, Z, trivial⟩) ?_ (fun i hi => ?_)))))))
 exact ⟨ct _, fun j hj => absurd hj (Nat.not_lt_zero j)⟩
 refine ag (ah (j2 O Z Z (cu O Z (js O Z (jn (ae O Z Z (fun hc14 => ?_) (fun hc14 => ?_)))))))
 try simp only [aT] at hc14
 refine aj (ag (ao (ag (gL O [_,_,_,_,_,_,_,_,_,_] [pn [] 0 0, pn [] 0 0, pn [0,1] 0 0, pn [0,1,2] 0 0, pn [] 0 0, pn [] 0 0, pn [4,5] 0 0, pn [4,5,6] 0 0, pe (rg 0 8) 0, pn (rg 0 9) 1 1] [8] [_,_] (kc O Z (kc O Z (ai (vD O Z) (kc O Z (kc O Z (kc O Z (ai (vD O Z) (kc O Z (ai (bw O (B0 := 26000) Z Z Z Z (c37 h1 h2) (aa Z) Z Z Z Z Z) (kc O Z trivial)))))))))) ?_))))
 refine ae O Z Z (fun hc26 => ?_) (fun hc26 => ?_)
 try simp only [aT] at hc26
 refine ah (js O Z (jr ?_))
 refine ⟨.inl Z, _, am, _, Z, ?_⟩
 rw [decide_eq_false (fun e => by subst e; simp at hc26)]
 try simp only [aT] at hc26
 refine aj (ak (js O Z (ji O Z (js O Z (jn ?_)))))
 refine ⟨i + 1, Ent.env ⟨Z, Z, Z, trivial⟩, ⟨by omega, fun j hj => ?_⟩, by omega⟩
 rcases Nat.lt_or_ge j i with h | h
 exact hi.2 j h
 obtain rfl : j = i := by omega
 rw [Int.toNat_natCast, ax (by omega), ax (by omega)] at hc26
 rw [List.getElem?_eq_getElem (by omega), List.getElem?_eq_getElem (by omega), hc26]
 try simp only [aT] at hc14
 refine aO (ah (js O Z (jr ?_)))
 refine ⟨.inl Z, _, am, _, Z, ?_⟩
 have e : xs = ys := List.ext_getElem? fun j => by
  rcases Nat.lt_or_ge j i with h | h
  ·
   exact hi.2 j h
  ·
   rw [List.getElem?_eq_none (by omega), List.getElem?_eq_none (by omega)]
 rw [decide_eq_true e]
structure NdAt (n : Nat) (x : Nd) : Prop where
  close : x.kind = 1 → n + 1 ≤ x.mul.length ∧ x.mul.length ≤ 20
  fact : x.kind = 3 → 0 ≤ x.fact ∧ x.fact ≤ 19
  kind : x.kind = 1 ∨ x.kind = 2 ∨ x.kind = 3
structure MvOk (cn to : Int → Int) (x : Nd) : Prop where
  kind : x.kind = 1 ∨ x.kind = 2 ∨ x.kind = 3
  fact : x.kind = 3 → 0 ≤ x.fact ∧ x.fact ≤ 19
  len : x.kind = 1 → x.mul.length ≤ 20
  cntb : x.kind = 1 → 0 ≤ cn x.mul.length ∧ cn x.mul.length ≤ 1000
  rng : x.kind = 1 → ∀ i : Nat, i < x.mul.length → to i < cn x.mul.length
abbrev cQ (p : List Nd) : B := .row false 5 (p.map Nd.cells)
variable {ts : List Nd}
theorem C1 {k : Int} (hk0 : 0 ≤ k) (hk1 : k + cn nN ts ≤ 1073741824) : MQ h1 h2 68 [vi (bb mN nN k ts), eI k] [] (Plain (eI (k + cn nN ts))) := by
 refine aA ?_ Z
 refine jB 60 h1 h2 Tryz.func68 Z Z Z fun O hF => ?_
 have hlm := bq (f := mN) (sz := nN) (k := k) (l := ts)
 have hl : (bb mN nN k ts).length ≤ L := by simpa [As.fact, A.fact, M.fact, D.fact, Ds.fact] using hF.1.1
 refine ah (js O Z (jn (ag (ah (js O Z (jn (ao (aq (X := Nat) (fun i => ⟨[(0, vi (bb mN nN k ts)), (1, eI (k + cn nN (ts.take i))), (5, eI i)], []⟩) (fun i => i ≤ ts.length) (fun i => ts.length - i) 0 (Ent.env ⟨Z, by simp [cg, aF, cn], Z, trivial⟩) ?_ (fun i hi => ?_)))))))))
 exact ct _
 refine ag (ah (j2 O Z Z (cu O Z (js O Z (jf [9,0,1,5] Z (jn (ae O Z Z (fun hc9 => ?_) (fun hc9 => ?_))))))))
 refine aj (ag (ao (ag (ah ?_))))
 have hil : i < ts.length := by have h9 := bC hc9; omega
 have hg := kv (f := mN) (sz := nN) (k := k) hil
 have hcs := gU (sz := nN) hil
 have hcl := lP (sz := nN) (l := ts) (i := i + 1)
 rw [← ax hil] at hcs
 obtain ⟨t, ht⟩ : ∃ t, t = ts.getD i default := ⟨_, rfl⟩
 rw [← ht] at hg hcs
 simp only [nN] at hcs
 obtain ⟨K, hK⟩ : ∃ K, K = k + (cn nN (ts.take i) : Int) := ⟨_, rfl⟩
 rw [← hK] at hg ⊢
 refine j2 O Z Z (ac ((aP O Z Z Z Z Z Z Z Z (dc (by omega))).cast (v' := ptr (Nd.cells (mN K t))) (by rw [hg])) Z Z Z (j4 O Z Z Z Z (jf [18,9,0,1,5] Z (jn (ae O Z Z (fun hc18 => ?_) (fun hc18 => ?_))))))
 exact absurd hc18 (by simp)
 refine aj (ah (js O Z (ji O Z (js O Z (jf [1,18,9,0,5] Z (jn (ag (ah (j2 O Z Z (ac ((aP O Z Z Z Z Z Z Z Z (dc (by omega))).cast (v' := ptr (Nd.cells (mN K t))) (by rw [hg])) Z Z Z (j4 O Z Z Z Z (jf [27,1,18,9,0,5] Z (jn (ae O Z Z (fun hc27 => ?_) (fun hc27 => ?_)))))))))))))))
 exact absurd hc27 (by simp)
 refine aj (ah (js O Z (ji O Z (js O Z (jf [1,27,18,9,0,5] Z (jn (ag (ah (j2 O Z Z (ac ((aP O Z Z Z Z Z Z Z Z (dc (by omega))).cast (v' := ptr (Nd.cells (mN K t))) (by rw [hg])) Z Z Z (j4 O Z Z Z Z (js O Z (jf [37,1,27,18,9,0,5] Z (jn (ae O Z Z (fun hc37 => ?_) (fun hc37 => ?_))))))))))))))))
 exact absurd hc37 (by simp)
 refine aj (ah (js O Z (ji O Z (js O Z (jf [1,37,27,18,9,0,5] Z (aV (j2 O Z Z (ac ((aP O Z Z Z Z Z Z Z Z (dc (by omega))).cast (v' := ptr (Nd.cells (mN K t))) (by rw [hg])) Z Z Z (j4 O Z Z Z Z (jf [46,45,1,37,27,18,9,0,5] Z (ap O Z Z Z Z ((Ez (xs := bb mI cv (K + 1 + 1 + 1) t.term.xs) (k := K + 1 + 1 + 1) h1 h2 (by omega) (by omega)).plain (congrArg eI (nY t.term.xs (K + 1 + 1 + 1)))) (aa Z) Z Z Z Z Z (B0 := 48000) Z (js O Z (jf [1,37,27,18,9,0,5] Z (jn (ag (ah (j2 O Z Z (jn (ae O Z Z (fun hc49 => ?_) (fun hc49 => ?_))))))))))))))))))))
 exact absurd (bC hc49) (by omega)
 refine aj (ah (j2 O Z Z (ac ((aP O Z Z Z Z Z Z Z Z (dc (by omega))).cast (v' := ptr (Nd.cells (mN K t))) (by rw [hg])) Z Z Z (j3 O Z Z Z (jf [55,54,49,48,1,37,27,18,9,0,5] Z (ap O Z Z Z Z ((Ez (xs := bb mI cv (K + 1 + 1 + 1 + t.term.xs.length) t.mul) (k := K + 1 + 1 + 1 + t.term.xs.length) h1 h2 (by omega) (by omega)).plain (congrArg eI (nY t.mul (K + 1 + 1 + 1 + t.term.xs.length)))) (aa Z) Z Z Z Z Z (B0 := 57000) Z (js O Z (jf [1,49,48,37,27,18,9,0,5] Z (aV (j2 O Z Z (jn (ae O Z Z (fun hc58 => ?_) (fun hc58 => ?_)))))))))))))
 exact absurd (bC hc58) (by omega)
 refine aj (ak (js O Z (ji O Z (js O Z (jf [5,58,57,1,49,48,37,27,18,9,0] Z (jn ?_))))))
 refine ⟨i + 1, Ent.env ⟨Z, ?_, Z, trivial⟩, by omega, by omega⟩
 rw [hcs]
 exact congrArg (fun z => some (eI z)) (by omega)
 refine aO (ah (j2 O Z Z (jr ?_)))
 refine ⟨.inl Z, _, am, _, Z, ?_⟩
 have h9 := cH hc9
 obtain rfl : i = ts.length := by omega
 rw [List.take_length]
theorem yN : MQ h1 h2 150 [vi ts] [] (Rows (.c (.rs 0 0 ts.length)) [mo ts]) := by
 refine bI (jB 26 h1 h2 Tryz.func150 Z Z Z fun O hF => ?_)
 have hl : ts.length ≤ L := by simpa [As.fact, A.fact, M.fact, D.fact, Ds.fact] using hF.1.1
 refine ah (js O Z (aV (js O Z (jn (ag (ah (js O Z (cu O Z (js O Z (jn (ao (aq (X := Nat) (fun i => ⟨[(3, .c (.rs 900 0 i)), (6, vi ts), (7, eI ts.length), (8, eI i)], [(900, mo (ts.take i))]⟩) (fun i => i ≤ ts.length) (fun i => ts.length - i) 0 ((cb 3 900 5 true Z Z).trans (Ent.to ⟨Z, Z, Z, Z, trivial⟩ Z)) ?_ (fun i hi => ?_)))))))))))))
 exact ct _
 refine ah (js O Z (jn (ag (ae O Z Z (fun hc9 => ?_) (fun hc9 => ?_)))))
 try simp only [aT] at hc9
 refine aj (ag (ao (ah (iM O Z Z (js O Z (jf [11,9,3,6,7,8] Z (jl O Z (au ?_))))))))
 refine jo O Z (au ?_)
 refine jn (ag (gL O [_,_,_,_,_,_,_,_,_,_] [pn [] 0 0, pn [0] 0 0, pe [0,1] 0, pn [] 0 1, pn [3] 0 1, pe (rg 0 5) 1, pn (rg 0 5) 1 2, pe (rg 0 7) 2, pn (rg 0 8) 3 3, pe (rg 0 9) 3] [2,5,7,9] [_,_,_,_,_] (kc O Z (kc O Z (ai (dg O (B0 := 15000) Z Z Z Z (oG (t := (ts.getD i default).term) h1 h2) (aa Z) Z Z Z Z Z) (ai (kc O Z (V O Z)) (ai (kc O Z (V O Z)) (ai (dg O (B0 := 18000) Z Z Z Z (ve (xs := (ts.getD i default).mul) h1 h2) (aa Z) Z Z Z Z Z) (ai (kc O Z (V O Z)) (ai (eS O Z Z Z) (kc O Z (ai (eS O Z Z Z) trivial)))))))))) ?_))
 refine jw [5,11,9,3,6,7,8] Z (b9 ?_)
 refine ak (j2 O Z Z (ay (aw [900,15000,18000] (e' := [(21, _), (20, _), (6, _), (7, _), (8, _)]) Z Z ⟨Z, Z, Z, Z, Z, trivial⟩ Z) (AOps.heap (jZ (ds := Nd.cells (ts.getD i default)) O Z Z Z Z Z Z Z Z Z Z (.d Z (.d Z (.d Z (.rs Z (bz _).symm (.rs Z (bz _).symm .nil))))) Z Z Z) Z (au ?_))))
 refine au ?_
 refine jf [22,20,6,7,8] Z (AOps.heap (cm (zs := (ts.take (i + 1)).map Nd.cells) (n := i + 1) O Z Z Z Z Z Z Z Z Z Z Z Z Z Z Z Z (.row Z (by simp; omega)) Z Z (by decide) Z (by simp; omega) (by simp; omega) (by rw [List.take_succ_eq_append_getElem (by omega), List.map_append, ax (by omega)]; rfl) (by simp; omega)) Z (au ?_))
 refine au ?_
 refine js O Z (jf [3,6,7,8] Z (jn (ak (ji O Z (js O Z (jn ?_))))))
 refine ⟨i + 1, ((aw [23] (e' := [(3, _), (6, _), (7, _), (8, _)]) Z Z ⟨Z, Z, Z, Z, trivial⟩ Z).trans (af 23 900 Z Z)), by omega, by omega⟩
 try simp only [aT] at hc9
 refine aO (ah (j2 O Z Z (jr ?_)))
 obtain rfl : i = ts.length := by omega
 rw [List.take_length]
 refine ⟨.inl Z, _, am, _, Z, [900], by decide, Z, Z, Z⟩
structure Rw where
  c : Int
  xs : List Int
  ms : List Int
  deriving Inhabited
abbrev Rw.cells (r : Rw) : List D := [.int .i64 r.c, bj r.xs, bj r.ms]
abbrev Rw.tm (r : Rw) : Tm := ⟨r.c, bF r.xs⟩
abbrev Rw.comb (r : Rw) : List D := [.int .i64 r.c, bj (bF r.xs), bj r.ms]
def j8 (xs : List Int) (i : Nat) : List Int := (List.range i).map fun k => xs.getD k 0
abbrev AR (xs : List Int) : List Int := j8 xs 10
theorem dR {xs : List Int} {i : Nat} : (j8 xs i).length = i := by simp [j8]
theorem sE {xs : List Int} {i : Nat} : j8 xs (i + 1) = j8 xs i ++ [xs.getD i 0] := by simp [j8, List.range_succ]
def iD (n i : Nat) : List Int := (List.replicate n (0 : Int)).set i 1
theorem fK {n i : Nat} : (iD n i).length = n := by simp [iD]
abbrev qG (ts : List Tm) (i : Nat) : Rw := ⟨(ts.getD i default).c, AR (ts.getD i default).xs, iD ts.length i⟩
def eL (ts : List Tm) (i : Nat) : List Rw := (List.range i).map (qG ts)
theorem bR {ts : List Tm} {i : Nat} : (eL ts i).length = i := by simp [eL]
theorem mw {ts : List Tm} {i : Nat} : eL ts (i + 1) = eL ts i ++ [qG ts i] := by simp [eL, List.range_succ]
abbrev qN (ts : List Tm) : List Rw := eL ts ts.length
theorem pk : ∀ {ys : List Int}, ∃ z : Nat, ys.reverse = (ys.dropWhile (· == 0)).reverse ++ List.replicate z 0
 | [] => ⟨0, rfl⟩
 | y :: ys => by
  by_cases h : y = 0
  subst h
  obtain ⟨z, hz⟩ := pk (ys := ys)
  refine ⟨z + 1, ?_⟩
  rw [List.reverse_cons, hz, List.replicate_succ', eP]
  rfl
  refine ⟨0, ?_⟩
  rw [List.dropWhile_cons_of_neg (by simpa using h)]
  simp
theorem gQ (xs : List Int) : ∃ z : Nat, xs = bF xs ++ List.replicate z 0 := by
 obtain ⟨z, hz⟩ := pk (ys := xs.reverse)
 rw [List.reverse_reverse] at hz
 exact ⟨z, hz⟩
theorem e6 (xs : List Int) (k : Nat) : (bF xs).getD k 0 = xs.getD k 0 := by
 obtain ⟨z, hz⟩ := gQ xs
 conv => rhs; rw [hz]
 rw [List.getD_eq_getElem?_getD, List.getD_eq_getElem?_getD, List.getElem?_append]
 split
 rfl
 rename_i h
 rw [List.getElem?_eq_none (by omega), List.getElem?_replicate]
 split <;> rfl
theorem mt (xs : List Int) : (bF xs).length ≤ xs.length := by
 obtain ⟨z, hz⟩ := gQ xs
 have := congrArg List.length hz
 rw [ce] at this
 omega
theorem wk {p : Int → Bool} (h0 : p 0 = true) (xs : List Int) : (bF xs).all p = xs.all p := by
 obtain ⟨z, hz⟩ := gQ xs
 conv => rhs; rw [hz]
 rw [List.all_append]
 have : (List.replicate z (0 : Int)).all p = true := by
  rw [List.all_eq_true]; intro x hx
  rw [List.eq_of_mem_replicate hx]; exact h0
 rw [this, Bool.and_true]
theorem pj {f : Int → Int} : ∀ {ys : List Int}, (∀ y ∈ ys, f y = 0 ↔ y = 0) → (ys.map f).dropWhile (· == 0) = (ys.dropWhile (· == 0)).map f
 | [], _ => rfl
 | y :: ys, h => by
  by_cases h0 : y = 0
  have hf : f y = 0 := (h y (by simp)).2 h0
  rw [List.map_cons, List.dropWhile_cons_of_pos (by simpa using hf), List.dropWhile_cons_of_pos (by simpa using h0)]
  exact pj fun z hz => h z (by simp [hz])
  have hf : f y ≠ 0 := fun e => h0 ((h y (by simp)).1 e)
  rw [List.map_cons, List.dropWhile_cons_of_neg (by simpa using hf), List.dropWhile_cons_of_neg (by simpa using h0), List.map_cons]
theorem wi {f : Int → Int} {xs : List Int} (h : ∀ x ∈ xs, f x = 0 ↔ x = 0) : bF (xs.map f) = (bF xs).map f := by
 unfold bF
 rw [← List.map_reverse, pj (fun y hy => h y (by simpa using hy)), List.map_reverse]
theorem sN {ys : List Int} : ys.dropWhile (· == 0) = [] ∨ ∃ y r, ys.dropWhile (· == 0) = y :: r ∧ y ≠ 0 := by
 induction ys with
 | nil => exact .inl Z
 | cons y ys ih =>
  by_cases h : y = 0
  rw [List.dropWhile_cons_of_pos (by simpa using h)]; exact ih
  rw [List.dropWhile_cons_of_neg (by simpa using h)]; exact .inr ⟨y, ys, rfl, h⟩
theorem wj (xs : List Int) : bF xs = [] ∨ (bF xs).getD ((bF xs).length - 1) default ≠ 0 := by
 unfold bF
 rcases sN (ys := xs.reverse) with h | ⟨y, r, h, hy⟩
 rw [h]; exact .inl Z
 rw [h]
 refine .inr ?_
 rw [List.reverse_cons]
 simp [hy]
theorem yh {r : Rw} (hl : r.xs.length = 10) : r.tm.ok = (num r.c && r.xs.all num) := by
 have h : r.tm.ok = true ↔ (num r.c && r.xs.all num) = true := by
  rw [zn, bP]
  have h1 := mt r.xs
  have h2 := wj r.xs
  have h3 : (bF r.xs).all num = r.xs.all num := wk (by decide) r.xs
  constructor
  rintro ⟨a, b, _⟩
  exact ⟨a, by rw [← h3]; exact b⟩
  rintro ⟨a, b⟩
  exact ⟨a, by show (bF r.xs).all num = true; rw [h3]; exact b, by show (bF r.xs).length ≤ 10; omega, h2⟩
 cases h1 : r.tm.ok <;> cases h2 : (num r.c && r.xs.all num) <;> simp_all
theorem lc (xs ys : List Int) : bk (xs ++ ys) = ys.foldl (fun g x => Nat.gcd g x.natAbs) (bk xs) := by unfold bk; rw [List.foldl_append]
theorem o0 (xs : List Int) (x : Int) : bk (xs ++ [x]) = Nat.gcd (bk xs) x.natAbs := by rw [lc]; rfl
theorem wO (x : Int) : bk [x] = x.natAbs := by show Nat.gcd 0 x.natAbs = _; rw [Nat.gcd_zero_left]
theorem wM (x y : Int) : bk [x, y] = Nat.gcd x.natAbs y.natAbs := by show Nat.gcd (Nat.gcd 0 x.natAbs) y.natAbs = _; rw [Nat.gcd_zero_left]
theorem mE : ∀ {z g : Nat}, (List.replicate z (0 : Int)).foldl (fun g x => Nat.gcd g x.natAbs) g = g
 | 0, g => rfl
 | z + 1, g => by
  rw [List.replicate_succ, List.foldl_cons]
  show List.foldl _ (Nat.gcd g 0) _ = g
  rw [Nat.gcd_zero_right]; exact mE
theorem uo (c : Int) (xs ms : List Int) : bk (c :: bF xs ++ ms) = bk (c :: xs ++ ms) := by
 obtain ⟨z, hz⟩ := gQ xs
 conv => rhs; rw [hz]
 show bk ((c :: bF xs) ++ ms) = bk ((c :: (bF xs ++ List.replicate z 0)) ++ ms)
 rw [lc, lc (c :: (bF xs ++ List.replicate z 0)), ← List.cons_append, lc (c :: bF xs) (List.replicate z 0), mE]
theorem lr {B : Nat} : ∀ {xs : List Int} {g : Nat}, g ≤ B → (∀ x ∈ xs, x.natAbs ≤ B) → xs.foldl (fun g x => Nat.gcd g x.natAbs) g ≤ B
 | [], g, h, _ => h
 | x :: xs, g, h, hx => by
  rw [List.foldl_cons]
  refine lr ?_ (fun y hy => hx y (by simp [hy]))
  have h1 := hx x (by simp)
  rcases Nat.eq_zero_or_pos x.natAbs with h0 | h0
  show Nat.gcd g x.natAbs ≤ B
  rw [h0, Nat.gcd_zero_right]; exact h
  exact Nat.le_trans (Nat.gcd_le_right _ h0) h1
theorem nD {B : Nat} {xs : List Int} (h : ∀ x ∈ xs, x.natAbs ≤ B) : bk xs ≤ B := lr (ct _) h
theorem wN {xs : List Int} {x : Int} (hx : x ∈ xs) (h : x ≠ 0) : 0 < bk xs := by
 have := i8 hx
 rcases Nat.eq_zero_or_pos (bk xs) with h0 | h0
 rw [h0] at this
 have := Nat.eq_zero_of_zero_dvd this
 omega
 exact h0
theorem kb {x : Int} {g : Nat} (h : g ∣ x.natAbs) (hg : 0 < g) : x.tdiv g = 0 ↔ x = 0 := by
 constructor
 intro e
 have e1 : (x.tdiv g).natAbs = 0 := by rw [e]; rfl
 rw [Int.natAbs_tdiv, Int.natAbs_natCast] at e1
 obtain ⟨q, hq⟩ := h
 rw [hq] at e1
 change g * q / g = 0 at e1
 rw [Nat.mul_div_cancel_left _ hg] at e1
 rw [e1, Nat.mul_zero] at hq
 omega
 intro e; subst e; simp
theorem lW {x : Int} {g : Nat} (h : g ∣ x.natAbs) (hg : 0 < g) (hx : 0 < x) : 0 < x.tdiv g := by
 have h1 : 0 ≤ x.tdiv g := Int.tdiv_nonneg (by omega) (by omega)
 have h2 : x.tdiv g ≠ 0 := fun e => by have := (kb h hg).1 e; omega
 omega
def jz (n m : Int) (xs ys : List Int) (i : Nat) : List Int := (List.range i).map fun k => n * xs.getD k default + m * ys.getD k default
theorem bG {n m : Int} {xs ys : List Int} {i : Nat} : (jz n m xs ys i).length = i := by simp [jz]
theorem gS {n m : Int} {xs ys : List Int} {i : Nat} : jz n m xs ys (i + 1) = jz n m xs ys i ++ [n * xs.getD i default + m * ys.getD i default] := by simp [jz, List.range_succ]
theorem m8 {n m : Int} {xs ys : List Int} {i : Nat} {x : Int} (h : x ∈ jz n m xs ys i) : ∃ k, k < i ∧ x = n * xs.getD k default + m * ys.getD k default := by
 unfold jz at h
 obtain ⟨k, hk, rfl⟩ := List.mem_map.1 h
 exact ⟨k, List.mem_range.1 hk, Z⟩
abbrev j5 (p q : Rw) (k : Nat) : Nat := Nat.gcd (p.xs.getD k default).natAbs (q.xs.getD k default).natAbs
abbrev pH (p q : Rw) (k : Nat) : Int := (p.xs.getD k default).tdiv (j5 p q k)
abbrev pG (p q : Rw) (k : Nat) : Int := (-(q.xs.getD k default)).tdiv (j5 p q k)
abbrev ow (p q : Rw) (k : Nat) : Rw := ⟨pG p q k * p.c + pH p q k * q.c, jz (pG p q k) (pH p q k) p.xs q.xs p.xs.length, jz (pG p q k) (pH p q k) p.ms q.ms p.ms.length⟩
abbrev pK (r : Rw) : Nat := bk (r.c :: r.xs ++ r.ms)
def lD (r : Rw) (g : Nat) : Rw := ⟨r.c.tdiv g, r.xs.map (fun x => x.tdiv g), r.ms.map fun x => x.tdiv g⟩
abbrev eU (p q : Rw) (k : Nat) : Rw := lD (ow p q k) (pK (ow p q k))
def uV (r : Rw) : Bool := (num r.c && r.xs.all num) && r.ms.all num
structure ROk (n : Nat) (r : Rw) : Prop where
  c : num r.c = true
  xs : r.xs.all num = true
  l : r.xs.length = 10
  ms : r.ms.all co = true
  n : r.ms.length = n
  pos : ∃ x ∈ r.ms, 0 < x
theorem tS {p : Int → Bool} {xs : List Int} (h : xs.all p = true) (h0 : p 0 = true) (k : Nat) : p (xs.getD k default) = true := by
 by_cases hk : k < xs.length
 rw [ax hk]; exact List.all_eq_true.1 h _ (List.getElem_mem hk)
 rw [List.getD_eq_getElem?_getD, List.getElem?_eq_none (by omega)]; exact h0
theorem ROk.get {n : Nat} {r : Rw} (h : ROk n r) (k : Nat) : -1000000 ≤ r.xs.getD k default ∧ r.xs.getD k default ≤ 1000000 := Db.1 (tS h.xs (by decide) k)
theorem Ep {x : Int} : co x = true ↔ 0 ≤ x ∧ x ≤ 1000000 := by simp [co]
theorem ROk.mul {n : Nat} {r : Rw} (h : ROk n r) (k : Nat) : 0 ≤ r.ms.getD k default ∧ r.ms.getD k default ≤ 1000000 := Ep.1 (tS h.ms (by decide) k)
theorem ROk.tm {n : Nat} {r : Rw} (h : ROk n r) : r.tm.ok = true := by rw [yh h.l, h.c, h.xs]; rfl
theorem qf {n : Nat} {p q : Rw} {k : Nat} (hp : ROk n p) (hq : ROk n q) (h1 : 0 < p.xs.getD k default) (h2 : q.xs.getD k default < 0) :
    (0 < j5 p q k ∧ j5 p q k ≤ 1000000) ∧ (1 ≤ pH p q k ∧ pH p q k ≤ 1000000) ∧ (1 ≤ pG p q k ∧ pG p q k ≤ 1000000) := by
 have b1 := hp.get k
 have b2 := hq.get k
 have g1 : 0 < j5 p q k := Nat.gcd_pos_of_pos_left _ (by omega)
 have g2 : j5 p q k ≤ (p.xs.getD k default).natAbs := Nat.gcd_le_left _ (by omega)
 have d1 : j5 p q k ∣ (p.xs.getD k default).natAbs := Nat.gcd_dvd_left _ _
 have d2 : j5 p q k ∣ (-(q.xs.getD k default)).natAbs := by rw [Int.natAbs_neg]; exact Nat.gcd_dvd_right _ _
 have m1 := lW d1 g1 h1
 have m2 := lW d2 g1 (x := -(q.xs.getD k default)) (by omega)
 have m3 := dN (a := p.xs.getD k default) (b := j5 p q k) (by omega)
 have m4 := dN (a := -(q.xs.getD k default)) (b := j5 p q k) (by omega)
 exact ⟨⟨g1, by omega⟩, ⟨by show 1 ≤ Int.tdiv _ _; omega, m3.2⟩, ⟨by show 1 ≤ Int.tdiv _ _; omega, m4.2⟩⟩
theorem fB {a b : Int} (h1 : -1000000 ≤ a ∧ a ≤ 1000000) (h2 : -1000000 ≤ b ∧ b ≤ 1000000) : -1000000000000 ≤ a * b ∧ a * b ≤ 1000000000000 :=
  dZ (Db.2 h1) (Db.2 h2)
theorem pT {a b x y : Int} (h1 : 1 ≤ a ∧ a ≤ 1000000) (h2 : 1 ≤ b ∧ b ≤ 1000000) (hx : -1000000 ≤ x ∧ x ≤ 1000000) (hy : -1000000 ≤ y ∧ y ≤ 1000000) :
    -2000000000000 ≤ a * x + b * y ∧ a * x + b * y ≤ 2000000000000 := by
 have q1 := fB (a := a) (b := x) (by omega) hx
 have q2 := fB (a := b) (b := y) (by omega) hy
 omega
theorem vK {n : Nat} {p q : Rw} {k : Nat} (hp : ROk n p) (hq : ROk n q) (h1 : 0 < p.xs.getD k default) (h2 : q.xs.getD k default < 0) :
    (∀ x ∈ (ow p q k).c :: (ow p q k).xs ++ (ow p q k).ms, -2000000000000 ≤ x ∧ x ≤ 2000000000000) ∧ (∀ x ∈ (ow p q k).ms, 0 ≤ x) ∧ (∃ x ∈ (ow p q k).ms, 0 < x) := by
 obtain ⟨_, hm, hn⟩ := qf hp hq h1 h2
 refine ⟨fun x hx => ?_, fun x hx => ?_, ?_⟩
 rw [List.mem_append, List.mem_cons] at hx
 rcases hx with (rfl | hx) | hx
 exact pT hn hm (Db.1 hp.c) (Db.1 hq.c)
 obtain ⟨i, _, rfl⟩ := m8 hx
 exact pT hn hm (hp.get i) (hq.get i)
 obtain ⟨i, _, rfl⟩ := m8 hx
 have := hp.mul i
 have := hq.mul i
 exact pT hn hm (by omega) (by omega)
 obtain ⟨i, _, rfl⟩ := m8 hx
 have := Int.mul_nonneg (a := pG p q k) (b := p.ms.getD i default) (by omega) (hp.mul i).1
 have := Int.mul_nonneg (a := pH p q k) (b := q.ms.getD i default) (by omega) (hq.mul i).1
 omega
 obtain ⟨x, hx, h0⟩ := hp.pos
 obtain ⟨i, hi, rfl⟩ := List.mem_iff_getElem.1 hx
 refine ⟨_, List.mem_map.2 ⟨i, List.mem_range.2 hi, Z⟩, ?_⟩
 rw [← ax hi] at h0
 have := Int.mul_pos (a := pG p q k) (b := p.ms.getD i default) (by omega) h0
 have := Int.mul_nonneg (a := pH p q k) (b := q.ms.getD i default) (by omega) (hq.mul i).1
 omega
theorem qm {n : Nat} {p q : Rw} {k : Nat} (hp : ROk n p) (hq : ROk n q) (h1 : 0 < p.xs.getD k default) (h2 : q.xs.getD k default < 0) :
    0 < pK (ow p q k) ∧ pK (ow p q k) ≤ 2000000000000 := by
 obtain ⟨a, _, ⟨x, hx, h0⟩⟩ := vK hp hq h1 h2
 exact ⟨wN (x := x) (List.mem_append_right _ hx) (by omega), nD fun y hy => by have := a y hy; omega⟩
theorem wL {r : Rw} : pK r ∣ r.c.natAbs ∧ (∀ x ∈ r.xs, pK r ∣ x.natAbs) ∧ ∀ x ∈ r.ms, pK r ∣ x.natAbs :=
  ⟨i8 (by simp), fun x hx => i8 (by simp [hx]), fun x hx => i8 (by simp [hx])⟩
theorem nR {n : Nat} {p q : Rw} {k : Nat} (hp : ROk n p) : (eU p q k).xs.length = 10 ∧ (eU p q k).ms.length = n :=
  ⟨by show (List.map _ (jz _ _ _ _ _)).length = 10; rw [bz, bG, hp.l], by show (List.map _ (jz _ _ _ _ _)).length = n; rw [bz, bG, hp.n]⟩
theorem sc {n : Nat} {p q : Rw} {k : Nat} (hp : ROk n p) (hq : ROk n q) (h1 : 0 < p.xs.getD k default) (h2 : q.xs.getD k default < 0) (h : uV (eU p q k) = true) : ROk n (eU p q k) := by
 obtain ⟨a, b, ⟨x, hx, h0⟩⟩ := vK hp hq h1 h2
 have hg := qm hp hq h1 h2
 have hd := wL (r := ow p q k)
 simp only [uV, bP] at h
 refine ⟨h.1.1, h.1.2, (nR hp).1, ?_, (nR hp).2, ?_⟩
 have h9 := List.all_eq_true.1 h.2
 rw [List.all_eq_true]
 intro y hy
 have h3 := Db.1 (h9 y hy)
 obtain ⟨z, hz, rfl⟩ := List.mem_map.1 hy
 exact Ep.2 ⟨Int.tdiv_nonneg (b z hz) (by omega), h3.2⟩
 exact ⟨_, List.mem_map.2 ⟨x, hx, Z⟩, lW (hd.2.2 x hx) hg.1 h0⟩
theorem wU {r : Rw} (h : 0 < pK r) : bF (r.xs.map fun x => x.tdiv (pK r)) = (bF r.xs).map fun x => x.tdiv (pK r) :=
  wi fun x hx => kb (wL.2.1 x hx) h
def r3 (p : Rw) (k b : Nat) : List Rw → List Rw → Option (List Rw)
  | [], new => some new
  | q :: qs, new => if p.xs.getD k default ≤ 0 ∨ 0 ≤ q.xs.getD k default then r3 p k b qs new
    else if uV (eU p q k) = true ∧ b + new.length ≠ 60 then r3 p k b qs (new ++ [eU p q k]) else none
def rW (k b : Nat) (rs : List Rw) : List Rw → List Rw → Option (List Rw)
  | [], new => some new
  | p :: ps, new => match r3 p k b rs new with
    | none => none
    | some y => rW k b rs ps y
def cD (k : Nat) (rs : List Rw) : List Rw := rs.filter fun r => decide (r.xs.getD k default = 0)
abbrev eJ (k : Nat) (rs : List Rw) : Option (List Rw) := rW k (cD k rs).length rs rs []
def gP : Nat → Nat → List Rw → List Rw → Option (List Rw × List Rw)
  | 0, _, rs, news => some (rs, news)
  | f + 1, k, rs, news => match eJ k rs with
    | none => none
    | some new => gP f (k + 1) (cD k rs ++ new) (news ++ new)
abbrev c9 (ts : List Tm) : Option (List Rw × List Rw) := gP 10 0 (qN ts) []
def AllR (n : Nat) (rs : List Rw) : Prop := ∀ r ∈ rs, ROk n r
theorem AllR.nil {n : Nat} : AllR n [] := fun r h => by cases h
theorem AllR.app {n : Nat} {a b : List Rw} (h1 : AllR n a) (h2 : AllR n b) : AllR n (a ++ b) := fun r h => by
 rcases List.mem_append.1 h with h | h
 exact h1 r h
 exact h2 r h
theorem AllR.snoc {n : Nat} {a : List Rw} {r : Rw} (h1 : AllR n a) (h2 : ROk n r) : AllR n (a ++ [r]) := h1.app fun x hx => by simp at hx; subst hx; exact h2
theorem AllR.get {n : Nat} {a : List Rw} (h : AllR n a) {i : Nat} (hi : i < a.length) : ROk n (a.getD i default) := by rw [ax hi]; exact h _ (List.getElem_mem hi)
theorem ru {p : Rw} {k b : Nat} {rs new : List Rw} {j : Nat} (h : j < rs.length) : r3 p k b (rs.drop j) new =
    if p.xs.getD k default ≤ 0 ∨ 0 ≤ (rs.getD j default).xs.getD k default then r3 p k b (rs.drop (j + 1)) new
    else if uV (eU p (rs.getD j default) k) = true ∧ b + new.length ≠ 60 then r3 p k b (rs.drop (j + 1)) (new ++ [eU p (rs.getD j default) k]) else none := by
 rw [List.drop_eq_getElem_cons h, ax h]; rfl
theorem tJ {p : Rw} {k b : Nat} {rs new : List Rw} {j : Nat} (h : rs.length ≤ j) : r3 p k b (rs.drop j) new = some new := by
 rw [List.drop_of_length_le h]; rfl
theorem k9 {k b : Nat} {rs new : List Rw} {i : Nat} (h : i < rs.length) : rW k b rs (rs.drop i) new =
    match r3 (rs.getD i default) k b rs new with
    | none => none
    | some y => rW k b rs (rs.drop (i + 1)) y := by
  rw [List.drop_eq_getElem_cons h, ax h]; rfl
theorem tK {k b : Nat} {rs new : List Rw} {i : Nat} (h : rs.length ≤ i) : rW k b rs (rs.drop i) new = some new := by
 rw [List.drop_of_length_le h]; rfl
theorem sg {n : Nat} {p : Rw} {k b : Nat} (hp : ROk n p) : ∀ {qs new y : List Rw}, AllR n qs → AllR n new → b + new.length ≤ 60 → r3 p k b qs new = some y → AllR n y ∧ b + y.length ≤ 60
 | [], new, y, _, hn, hl, h => by
  simp only [r3, eD] at h; subst h; exact ⟨hn, hl⟩
 | q :: qs, new, y, hq, hn, hl, h => by
  have hqs : AllR n qs := fun r hr => hq r (by simp [hr])
  unfold r3 at h
  split at h
  exact sg hp hqs hn hl h
  rename_i h0
  have hb : 0 < p.xs.getD k default ∧ q.xs.getD k default < 0 := ⟨by omega, by omega⟩
  split at h
  rename_i h3
  exact sg hp hqs (hn.snoc (sc hp (hq q (by simp)) hb.1 hb.2 h3.1)) (by rw [ce, dj]; omega) h
  cases h
theorem vV {n k b : Nat} {rs : List Rw} (hr : AllR n rs) : ∀ {ps new y : List Rw}, AllR n ps → AllR n new → b + new.length ≤ 60 → rW k b rs ps new = some y → AllR n y ∧ b + y.length ≤ 60
 | [], new, y, _, hn, hl, h => by
  simp only [rW, eD] at h; subst h; exact ⟨hn, hl⟩
 | p :: ps, new, y, hq, hn, hl, h => by
  unfold rW at h
  split at h
  cases h
  rename_i z hz
  obtain ⟨h1, h2⟩ := sg (hq p (by simp)) hr hn hl hz
  exact vV hr (fun r h => hq r (by simp [h])) h1 h2 h
theorem fm {k : Nat} {rs : List Rw} : (cD k rs).length ≤ rs.length := List.length_filter_le _ _
theorem wI {n k : Nat} {rs : List Rw} (h : AllR n rs) : AllR n (cD k rs) := fun r hr => h r ((List.mem_filter.1 hr).1)
theorem tH {k i : Nat} {rs : List Rw} (h : i < rs.length) (h0 : (rs.getD i default).xs.getD k default = 0) : cD k (rs.take (i + 1)) = cD k (rs.take i) ++ [rs.getD i default] := by
 unfold cD
 rw [List.take_succ_eq_append_getElem h, List.filter_append, ← ax h, List.filter_cons_of_pos (by simpa using h0)]; rfl
theorem tI {k i : Nat} {rs : List Rw} (h : i < rs.length) (h0 : (rs.getD i default).xs.getD k default ≠ 0) : cD k (rs.take (i + 1)) = cD k (rs.take i) := by
 unfold cD
 rw [List.take_succ_eq_append_getElem h, List.filter_append, ← ax h, List.filter_cons_of_neg (by simpa using h0), List.filter_nil, List.append_nil]
theorem lY {n k : Nat} {rs new : List Rw} (h : AllR n rs) (hl : rs.length ≤ 60) (hs : eJ k rs = some new) : AllR n (cD k rs ++ new) ∧ (cD k rs ++ new).length ≤ 60 ∧ AllR n new ∧ new.length ≤ 60 := by
 have h1 := fm (k := k) (rs := rs)
 obtain ⟨h2, h3⟩ := vV h h .nil (by simp only [List.length_nil]; omega) hs
 exact ⟨(wI h).app h2, by rw [ce]; exact h3, h2, by omega⟩
theorem kB {f k : Nat} {rs news new : List Rw} (h : eJ k rs = some new) : gP (f + 1) k rs news = gP f (k + 1) (cD k rs ++ new) (news ++ new) := by
 rw [gP, h]
theorem kC {f k : Nat} {rs news : List Rw} (h : eJ k rs = none) : gP (f + 1) k rs news = none := by
 rw [gP, h]
theorem rC {n : Nat} : ∀ {f k : Nat} {rs news a b : List Rw}, AllR n rs → rs.length ≤ 60 → AllR n news → gP f k rs news = some (a, b) → AllR n a ∧ a.length ≤ 60 ∧ AllR n b ∧ b.length ≤ news.length + 60 * f
 | 0, k, rs, news, a, b, h1, h2, h3, h => by
  simp only [gP, eD, Prod.mk.injEq] at h
  obtain ⟨rfl, rfl⟩ := h
  exact ⟨h1, h2, h3, by omega⟩
 | f + 1, k, rs, news, a, b, h1, h2, h3, h => by
  cases hs : eJ k rs with
  | none => rw [kC hs] at h; cases h
  | some new =>
   rw [kB hs] at h
   obtain ⟨g1, g2, g3, g4⟩ := lY h1 h2 hs
   obtain ⟨e1, e2, e3, e4⟩ := rC g1 g2 (h3.app g3) h
   rw [ce] at e4
   exact ⟨e1, e2, e3, by omega⟩
structure Fs (ts : List Tm) : Prop where
  ok : ∀ t ∈ ts, t.ok = true
  len : ts.length ≤ 14
theorem Fs.ctx {ts : List Tm} (h : Fs ts) : CtxOk ts := ⟨h.ok, by have := h.len; omega⟩
theorem Fs.get {ts : List Tm} (h : Fs ts) {i : Nat} (hi : i < ts.length) : (ts.getD i default).ok = true := h.ctx.get hi
theorem Fs.snoc {ts : List Tm} {t : Tm} (h : Fs ts) (ht : t.ok = true) (hl : ts.length ≠ 14) : Fs (ts ++ [t]) := ⟨fun u hu => by
 rcases List.mem_append.1 hu with hu | hu
 exact h.ok u hu
 simp at hu; subst hu; exact ht, by have := h.len; rw [ce, dj]; omega⟩
theorem Fs.all {ts : List Tm} (h : Fs ts) : eH ts 14 = true := by
 have := h.len
 simp only [eH, bP, decide_eq_true_eq, List.all_eq_true]
 exact ⟨h.ok, by omega⟩
theorem xw {n i : Nat} : (iD n i).all co = true := by
 rw [List.all_eq_true]
 intro x hx
 rcases List.mem_or_eq_of_mem_set hx with h | h
 rw [List.eq_of_mem_replicate h]; decide
 rw [h]; decide
theorem xE {ts : List Tm} (h : Fs ts) {i : Nat} (hi : i < ts.length) : ROk ts.length (qG ts i) := by
 have ht := Small.of (h.get hi)
 refine ⟨ht.c, ?_, dR, xw, fK, ⟨1, ?_, by decide⟩⟩
 rw [List.all_eq_true]
 intro x hx
 obtain ⟨k, _, rfl⟩ := List.mem_map.1 hx
 exact ht.get k
 exact List.mem_iff_getElem.2 ⟨i, by rw [fK]; exact hi, by simp [iD]⟩
theorem nv {ts : List Tm} (h : Fs ts) : AllR ts.length (qN ts) := fun r hr => by
 obtain ⟨i, hi, rfl⟩ := List.mem_map.1 hr
 exact xE h (List.mem_range.1 hi)
theorem wz {xs : List Int} (h : xs.length ≤ 10) (he : xs = [] ∨ xs.getD (xs.length - 1) default ≠ 0) : bF (AR xs) = xs := by
 have h1 : AR xs = xs ++ List.replicate (10 - xs.length) 0 := by
  refine List.ext_getElem (by simp [j8]; omega) fun k h2 h3 => ?_
  rw [List.getElem_append]
  have h5 : (AR xs)[k] = xs.getD k 0 := by simp [j8]
  rw [h5]
  split
  rename_i h4; simp [h4]
  rename_i h4; simp [Nat.not_lt.1 h4]
 rw [h1]
 have h2 : ∀ z : Nat, bF (xs ++ List.replicate z 0) = bF xs := by
  intro z
  induction z with
  | zero => simp
  | succ z ih => rw [List.replicate_succ', ← eP, oN, ih]
 rw [h2, oO he]
theorem xD {ts : List Tm} (h : Fs ts) {i : Nat} (hi : i < ts.length) : (qG ts i).tm = ts.getD i default := by
 obtain ⟨_, _, h3, h4⟩ := zn.1 (h.get hi)
 show (⟨(ts.getD i default).c, bF (AR (ts.getD i default).xs)⟩ : Tm) = _
 rw [wz h3 h4]
theorem gT {ts : List Tm} (h : Fs ts) {a b : List Rw} (he : c9 ts = some (a, b)) : AllR ts.length a ∧ a.length ≤ 60 ∧ AllR ts.length b ∧ b.length ≤ 600 := by
 have := h.len
 obtain ⟨h1, h2, h3, h4⟩ := rC (nv h) (by rw [bR]; omega) .nil he
 exact ⟨h1, h2, h3, by simpa using h4⟩
def gO : List Rw → Option Rw
  | [] => none
  | r :: rs => if r.c < 0 then some r else gO rs
theorem n5 {rs : List Rw} {i : Nat} (h : i < rs.length) : gO (rs.drop i) = if (rs.getD i default).c < 0 then some (rs.getD i default) else gO (rs.drop (i + 1)) := by
 rw [List.drop_eq_getElem_cons h, ax h]; rfl
theorem pd {rs : List Rw} {i : Nat} (h : rs.length ≤ i) : gO (rs.drop i) = none := by rw [List.drop_of_length_le h]; rfl
def db (ts : List Tm) : List Int × Bool := match c9 ts with
  | none => ([], false)
  | some z => match gO z.1 with
    | none => ([], false)
    | some r => (r.ms, true)
theorem pc : ∀ {rs : List Rw} {r : Rw}, gO rs = some r → r ∈ rs
 | [], r, h => by cases h
 | x :: rs, r, h => by
  unfold gO at h
  split at h
  simp only [eD] at h; subst h; simp
  exact List.mem_cons_of_mem _ (pc h)
theorem qc {ts : List Tm} (h : Fs ts) (h2 : (db ts).2 = true) : (db ts).1.all co = true ∧ (db ts).1.length = ts.length := by
 unfold db at h2 ⊢
 split at h2
 cases h2
 rename_i z hz
 split at h2
 cases h2
 rename_i r hr
 have := (gT h (a := z.1) (b := z.2) hz).1 r (pc hr)
 exact ⟨this.ms, this.n⟩
def fX (ts : List Tm) (t : Tm) : Bool := ts.any fun u => decide (u = t)
def xe : Tm × Bool := (⟨0, []⟩, false)
def aI (ts : List Tm) (t : Tm) : Tm × Bool := if bk t.xs < 2 ∨ t.c.tmod (bk t.xs) = 0 then xe else ((bS t).1, (bS t).2 && !fX ts (bS t).1)
theorem dE {ts : List Tm} {t : Tm} (h : (aI ts t).2 = true) : (aI ts t).1.ok = true := by
 unfold aI at h ⊢
 split at h
 cases h
 rename_i h1
 rw [if_neg h1]
 simp only [bP] at h
 exact t8 h.1
def iI (ts : List Tm) : List Rw → Option Rw
  | [] => none
  | r :: rs => if (aI ts r.tm).2 = true then some r else iI ts rs
theorem n7 {ts : List Tm} {rs : List Rw} {i : Nat} (h : i < rs.length) : iI ts (rs.drop i) = if (aI ts (rs.getD i default).tm).2 = true then some (rs.getD i default) else iI ts (rs.drop (i + 1)) := by
 rw [List.drop_eq_getElem_cons h, ax h]; rfl
theorem pf {ts : List Tm} {rs : List Rw} {i : Nat} (h : rs.length ≤ i) : iI ts (rs.drop i) = none := by rw [List.drop_of_length_le h]; rfl
theorem jV {ts : List Tm} : ∀ {rs : List Rw} {r : Rw}, iI ts rs = some r → r ∈ rs ∧ (aI ts r.tm).2 = true
 | [], r, h => by cases h
 | x :: rs, r, h => by
  unfold iI at h
  split at h
  rename_i h1
  simp only [eD] at h; subst h; exact ⟨by simp, h1⟩
  exact ⟨List.mem_cons_of_mem _ (jV h).1, (jV h).2⟩
def ew (ts : List Tm) : Option Rw := match c9 ts with
  | none => none
  | some z => iI ts z.2
theorem jK {ts : List Tm} (h : Fs ts) {r : Rw} (hr : ew ts = some r) : ROk ts.length r ∧ (aI ts r.tm).2 = true := by
 unfold ew at hr
 split at hr
 cases hr
 rename_i z hz
 exact ⟨(gT h (a := z.1) (b := z.2) hz).2.2.1 r (jV hr).1, (jV hr).2⟩
def ne (ts : List Tm) : Nat → Nat → Option Nat
  | 0, _ => none
  | f + 1, i => if (aI ts (ts.getD i default)).2 = true then some i else ne ts f (i + 1)
abbrev eR (ts : List Tm) : Option Nat := ne ts ts.length 0
theorem jP {ts : List Tm} : ∀ {f i j : Nat}, ne ts f i = some j → i ≤ j ∧ j < i + f ∧ (aI ts (ts.getD j default)).2 = true
 | 0, i, j, h => by cases h
 | f + 1, i, j, h => by
  unfold ne at h
  split at h
  rename_i h1
  simp only [eD] at h; subst h; exact ⟨cC _, by omega, h1⟩
  obtain ⟨a, b, c⟩ := jP h
  exact ⟨by omega, by omega, c⟩
abbrev dD (i : Nat) : Nd := ⟨3, (i : Int), ⟨0, []⟩, []⟩
abbrev c5 (t : Tm) : Nd := ⟨2, 0, t, []⟩
abbrev cR (ms : List Int) : Nd := ⟨1, 0, ⟨0, []⟩, ms⟩
abbrev fi (r : Rw) : List Int := r.ms ++ [(bk r.tm.xs : Int)]
def hZ : Nat → List Tm → Option (List Nd × List Nd)
  | 0, _ => none
  | f + 1, ts => match eR ts with
    | some i => if ts.length = 14 then none else (hZ f (ts ++ [(aI ts (ts.getD i default)).1])).map fun z => (dD i :: z.1, z.2)
    | none => if (db ts).2 = true then some ([cR (db ts).1], []) else match ew ts with
      | none => none
      | some r => if ts.length = 14 then none else if (aR (aI ts r.tm).1).2 = true then
          (hZ f (ts ++ [(aI ts r.tm).1])).map fun z => (c5 (aI ts r.tm).1 :: z.1, z.2 ++ [cR (fi r)]) else none
abbrev Wk := List Nd × Bool
def gh (b : Int) (s : Wk) (n : Nd) : Wk := if (s.1.length : Int) = b ∨ n.mul.all co = false then (s.1, true) else (s.1 ++ [n], s.2)
def dM (ts : List Tm) (s : Wk) : Wk := (s.1, if ts.length = 14 then true else s.2)
def gK (b : Int) : Nat → List Tm → Wk → Wk
  | 0, _, s => s
  | f + 1, ts, s => if s.2 = true then s else match eR ts with
    | some i => gK b f (ts ++ [(aI ts (ts.getD i default)).1]) (dM ts (gh b s (dD i)))
    | none => if (db ts).2 = true then gh b s (cR (db ts).1) else match ew ts with
      | none => (s.1, true)
      | some r => if (aR (aI ts r.tm).1).2 = true then
          gh b (gK b f (ts ++ [(aI ts r.tm).1]) (dM ts (gh b s (c5 (aI ts r.tm).1)))) (cR (fi r)) else (s.1, true)
theorem f8 {b : Int} {f : Nat} {ts : List Tm} {s : Wk} (h : s.2 = true) : gK b f ts s = s := by
 cases f with
 | zero => rfl
 | succ f => rw [gK, if_pos h]
theorem kM {b : Int} {s : Wk} {n : Nd} (hb : (s.1.length : Int) ≤ b) : ((gh b s n).1.length : Int) ≤ b := by
 unfold gh
 split
 exact hb
 rename_i h
 simp only [ce, dj]; omega
theorem kN {b : Int} : ∀ {f : Nat} {ts : List Tm} {s : Wk}, (s.1.length : Int) ≤ b → ((gK b f ts s).1.length : Int) ≤ b
 | 0, ts, s, h => h
 | f + 1, ts, s, h => by
  rw [gK]
  split
  exact h
  split
  exact kN (kM (s := s) h)
  split
  exact kM h
  split
  exact h
  split
  exact kM (kN (kM (s := s) h))
  exact h
theorem ir {b : Int} {s : Wk} {n : Nd} (h : s.2 = true) : (gh b s n).2 = true := by
 unfold gh
 split
 rfl
 exact h
theorem pO {b : Int} {N : List Nd} {n : Nd} (hm : n.mul.all co = true) (hb : (N.length : Int) < b) : gh b (N, false) n = (N ++ [n], false) := by
 unfold gh
 rw [if_neg]
 rintro (h | h)
 simp only at h; omega
 rw [hm] at h; cases h
theorem kS {b : Int} {s : Wk} {n : Nd} (hb : (s.1.length : Int) = b) : (gh b s n).2 = true := by
 unfold gh; rw [if_pos (.inl hb)]
theorem vW {n : Nat} {r : Rw} (h : ROk n r) : (fi r).all co = true := by
 rw [List.all_append, h.ms, Bool.true_and]
 have h1 : bk r.tm.xs ≤ 1000000 := by
  have := nb (xs := r.tm.xs) (Small.of h.tm).xs (cC _)
  rwa [List.take_length] at this
 show (co (bk r.tm.xs : Int) && true) = true
 rw [Bool.and_true]
 exact Ep.2 ⟨by omega, by omega⟩
theorem r8 {b : Int} : ∀ {f : Nat} {ts : List Tm} {N : List Nd}, Fs ts → 15 ≤ f + ts.length → (N.length : Int) ≤ b →
    (∀ z, hZ f ts = some z → (N.length + (z.1 ++ z.2).length : Int) ≤ b → gK b f ts (N, false) = (N ++ (z.1 ++ z.2), false)) ∧
    ((∀ z, hZ f ts = some z → b < (N.length + (z.1 ++ z.2).length : Int)) → (gK b f ts (N, false)).2 = true)
 | 0, ts, N, h, hf, hb => by have := h.len; omega
 | f + 1, ts, N, h, hf, hb => by
  rw [hZ, gK]
  simp only [Bool.false_eq_true, if_false]
  cases ht : eR ts with
  | some i =>
   obtain ⟨_, hi, hs⟩ := jP ht
   have hx := dE hs
   simp only
   by_cases hl : ts.length = 14
   have e : (gK b f (ts ++ [(aI ts (ts.getD i default)).1]) (dM ts (gh b (N, false) (dD i)))).2 = true := by
    have : (dM ts (gh b (N, false) (dD i))).2 = true := by unfold dM; rw [if_pos hl]
    rw [f8 this]; exact this
   rw [if_pos hl]
   exact ⟨fun z hz => (by cases hz), fun _ => e⟩
   rw [if_neg hl]
   have hfs := h.snoc hx hl
   by_cases hN : (N.length : Int) < b
   have e : dM ts (gh b (N, false) (dD i)) = (N ++ [dD i], false) := by
    rw [pO Z hN]; unfold dM; rw [if_neg hl]
   rw [e]
   obtain ⟨q1, q2⟩ := r8 (f := f) (N := N ++ [dD i]) (b := b) hfs (by rw [ce, dj]; omega) (by rw [ce, dj]; omega)
   refine ⟨fun z hz hzl => ?_, fun hno => ?_⟩
   obtain ⟨y, hy, rfl⟩ := Option.map_eq_some_iff.1 hz
   rw [q1 y hy (by simp only [ce, dL, dj, List.length_nil] at hzl ⊢; omega)]
   simp
   refine q2 fun y hy => ?_
   have := hno (dD i :: y.1, y.2) (by rw [hy]; rfl)
   simp only [ce, dL, dj, List.length_nil] at this ⊢; omega
   have e : (dM ts (gh b (N, false) (dD i))).2 = true := by
    unfold dM; rw [if_neg hl]; exact kS (by show (N.length : Int) = b; omega)
   rw [f8 e]
   refine ⟨fun z hz hzl => ?_, fun _ => e⟩
   obtain ⟨y, hy, rfl⟩ := Option.map_eq_some_iff.1 hz
   simp only [ce, dL] at hzl; omega
  | none =>
   simp only
   by_cases hr : (db ts).2 = true
   rw [if_pos hr, if_pos hr]
   have hm := (qc h hr).1
   refine ⟨fun z hz hzl => ?_, fun hno => ?_⟩
   simp only [eD] at hz; subst hz
   simp only [ce, dL, List.length_nil] at hzl
   rw [pO hm (by omega)]; rfl
   have := hno _ Z
   simp only [ce, dL, List.length_nil] at this
   exact kS (by show (N.length : Int) = b; omega)
   rw [if_neg hr, if_neg hr]
   cases hc : ew ts with
   | none => exact ⟨fun z hz => (by cases hz), fun _ => rfl⟩
   | some r =>
    obtain ⟨hro, hsr⟩ := jK h hc
    have hx := dE hsr
    simp only
    by_cases ho : (aR (aI ts r.tm).1).2 = true
    rw [if_pos ho, if_pos ho]
    by_cases hl : ts.length = 14
    have e : (dM ts (gh b (N, false) (c5 (aI ts r.tm).1))).2 = true := by unfold dM; rw [if_pos hl]
    rw [if_pos hl, f8 e]
    exact ⟨fun z hz => (by cases hz), fun _ => ir e⟩
    rw [if_neg hl]
    have hfs := h.snoc hx hl
    by_cases hN : (N.length : Int) < b
    have e : dM ts (gh b (N, false) (c5 (aI ts r.tm).1)) = (N ++ [c5 (aI ts r.tm).1], false) := by
     rw [pO Z hN]; unfold dM; rw [if_neg hl]
    rw [e]
    have hb2 : ((N ++ [c5 (aI ts r.tm).1]).length : Int) ≤ b := by rw [ce, dj]; omega
    obtain ⟨q1, q2⟩ := r8 (f := f) (N := N ++ [c5 (aI ts r.tm).1]) hfs (by rw [ce, dj]; omega) hb2
    refine ⟨fun z hz hzl => ?_, fun hno => ?_⟩
    obtain ⟨y, hy, rfl⟩ := Option.map_eq_some_iff.1 hz
    simp only [ce, dL, dj, List.length_nil] at hzl
    rw [q1 y hy (by simp only [ce, dL, dj, List.length_nil]; omega)]
    rw [pO (vW hro) (by simp only [ce, dL, dj, List.length_nil]; omega)]
    simp
    cases hy : hZ f (ts ++ [(aI ts r.tm).1]) with
    | none => exact ir (q2 fun y hy' => by rw [hy] at hy'; cases hy')
    | some y =>
     have h1 := hno _ (by rw [hy]; rfl)
     simp only [ce, dL, dj, List.length_nil] at h1
     by_cases hle : ((N ++ [c5 (aI ts r.tm).1]).length + (y.1 ++ y.2).length : Int) ≤ b
     have h2 := q1 y hy hle
     simp only [ce, dL, dj, List.length_nil] at hle
     rw [h2]
     refine kS ?_
     simp only [ce, dL, dj, List.length_nil]; omega
     exact ir (q2 fun y' hy' => by rw [hy] at hy'; simp only [eD] at hy'; subst hy'; omega)
    have e : (dM ts (gh b (N, false) (c5 (aI ts r.tm).1))).2 = true := by
     unfold dM; rw [if_neg hl]; exact kS (by show (N.length : Int) = b; omega)
    rw [f8 e]
    refine ⟨fun z hz hzl => ?_, fun _ => ir e⟩
    obtain ⟨y, hy, rfl⟩ := Option.map_eq_some_iff.1 hz
    simp only [ce, dL] at hzl; omega
    rw [if_neg ho, if_neg ho]
    refine ⟨fun z hz hzl => ?_, fun _ => rfl⟩
    split at hz <;> cases hz
def cI (s : Sq) (b : Int) : List Nd × Bool := if (aR s.goal).2 = true then
    match hZ (15 - (s.facts.length + 1)) (s.facts ++ [(aR s.goal).1]) with
    | none => ([], false)
    | some z => if ((z.1 ++ z.2).length : Int) ≤ b then (z.1 ++ z.2, true) else ([], false)
  else ([], false)
def gG (b : Int) : Bool := decide (1 ≤ b) && decide (b ≤ 60)
def fw (s : Sq) (b : Int) : List Nd × Bool := if (dA s && gG b) = true then cI s b else ([], false)
def tY (ss : List Sq) : Bool := ss.all dA && decide ((ss.length : Int) ≤ 60)
def gm (b : Int) : List Sq → List (List Nd)
  | [] => []
  | s :: ss => if (cI s b).2 = true then (cI s b).1 :: gm b ss else []
theorem nJ {b : Int} : ∀ {ss : List Sq}, (∀ s ∈ ss, (cI s b).2 = true) → gm b ss = ss.map fun s => (cI s b).1
 | [], _ => rfl
 | s :: ss, h => by rw [gm, if_pos (h s (by simp)), nJ fun x hx => h x (by simp [hx])]; rfl
theorem rH {b : Int} : ∀ {ss rs : List Sq}, (∀ s ∈ ss, (cI s b).2 = true) → gm b (ss ++ rs) = (ss.map fun s => (cI s b).1) ++ gm b rs
 | [], _, _ => rfl
 | s :: ss, rs, h => by rw [List.cons_append, gm, if_pos (h s (by simp)), rH fun x hx => h x (by simp [hx])]; rfl
theorem uB {b : Int} {ss : List Sq} {i : Nat} (hi : i < ss.length) (h : ∀ j (hj : j < ss.length), j < i → (cI ss[j] b).2 = true) (h2 : (cI (ss.getD i default) b).2 = false) :
    gm b ss = (ss.take i).map fun s => (cI s b).1 := by
 conv => lhs; rw [← List.take_append_drop i ss]
 rw [rH (fun s hs => ?_), List.drop_eq_getElem_cons hi, ← ax hi, gm, if_neg (by rw [h2]; decide), List.append_nil]
 obtain ⟨j, hj, rfl⟩ := List.mem_iff_getElem.1 hs
 rw [List.length_take] at hj
 rw [List.getElem_take]
 exact h j (by omega) (by omega)
theorem pr {b : Int} {ss : List Sq} (h : ∀ j (hj : j < ss.length), (cI ss[j] b).2 = true) : gm b ss = ss.map fun s => (cI s b).1 := nJ fun s hs => by
 obtain ⟨j, hj, rfl⟩ := List.mem_iff_getElem.1 hs
 exact h j hj
end Go.Al
