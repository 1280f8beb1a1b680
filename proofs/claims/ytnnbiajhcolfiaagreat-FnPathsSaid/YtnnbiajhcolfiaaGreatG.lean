/- A program and a state are drawn. -/
import Derived.Test.YtnnbiajhcolfiaaGreatF
import Derived.Test.YtnnbiajhcolfiaaGreatC
set_option linter.unusedVariables false
set_option linter.unusedSimpArgs false
set_option maxRecDepth 10000
set_option maxHeartbeats 4000000
open Go.Proofs
namespace Go.Al
variable {L : Nat} (h1 : 4096 ≤ L) (h2 : L ≤ 1073741824)
theorem th {k : Nat} : (List.replicate (k + 1) [D.int .i64 0])[0 + k]? = some [D.int .i64 0] := by simp
theorem tg {k : Nat} {n : Int} : (List.replicate (k + 1) [D.int .i64 0]).set (0 + k) [D.int .i64 n] = ((List.replicate k 0 ++ [n] : List Int)).map fun n => [D.int .i64 n] := by
 rw [List.replicate_succ', Nat.zero_add, List.set_append_right _ _ (by simp)]; simp
theorem y5 {c n : Int} {k : Nat} (hk : k < 10) : MQ h1 h2 22 [eI c, eI k, eI n] [] (Plain (cT (uk c k n))) := by
 refine MC.data (jB 24 h1 h2 Tryz.func22 Z Z Z fun O hF => ?_)
 refine ag (jl O Z (ap ?_))
 refine bn (js O Z ?_)
 first | refine ji O Z ?_ | refine fI O Z Z ?_
 refine jf [11,6,0,1,2] Z (AOps.heap (ep O Z Z Z Z Z Z Z Z Z (by first | omega | (simp at *; omega)) (by first | omega | (simp at *; omega)) (by first | omega | (simp at *; omega)) (by first | omega | (dsimp only; omega) | (simp only [cf] at *; omega)) (by first | omega | (simp at *; omega)) Z Z Z) Z (ap ?_))
 refine js O Z (jf [7,6,0,1,2] Z (bn (j3 O Z Z Z ?_)))
 first | refine r6 O Z Z ?_ | refine pq O Z Z ?_ | refine fI O Z Z ?_
 refine jf [16,15,7,6,0,1] Z (AOps.heap (cv (ex := [.int .i64 0]) (xs' := ((List.replicate k 0 ++ [n] : List Int)).map (fun n : Int => [D.int .i64 n])) O Z Z Z Z Z Z Z Z Z Z Z Z Z Z th tg) Z (ap ?_))
 refine jf [7,6,0,1] Z (bn (au (am [6,12] (e' := [(0, _), (6, _), (7, _)]) Z Z ⟨Z, Z, Z, trivial⟩ Z) (au (Ent.freeze 12 (e' := [(0, _), (6, _), (7, _)]) Z (.cons Z (.keep Z) (.cons Z (.keep Z) (.cons Z (.c (.row Z (by simp))) .nil))) (.cons Z (.box (fk Z)) (.skip .nil))) ?_)))
 refine j2 O Z Z (jf [19,18,6,7] Z (ay O Z Z Z Z (ui (c := c) (xs := List.replicate k 0 ++ [n]) h1 h2) (af Z) Z Z Z Z (B0 := 21000) Z Z (j3 O Z Z Z (jf [22,21,6,7] Z (jl O Z (ap ?_))))))
 refine jo O Z (ap ?_)
 refine js O Z (jf [8,6,7] Z (bn (js O Z (jo O Z (ap ?_)))))
 refine jr ?_
 refine ⟨.inl Z, _, av, _, Z, ?_⟩
 exact .v (.agg (aC Z))
abbrev gv (ss : List Sm) : B := .row false 8 (ss.map Sm.cells)
theorem td {α : Type} [Inhabited α] {xs ys : List α} {i : Nat} (h : xs.take i = ys.take i) (h1 : i < xs.length) (h2 : i < ys.length) (e : xs.getD i default = ys.getD i default) : xs.take (i + 1) = ys.take (i + 1) := by
 rw [List.take_succ_eq_append_getElem h1, List.take_succ_eq_append_getElem h2, h]
 rw [aM h1, aM h2] at e
 rw [e]
theorem uu {α : Type} [Inhabited α] {xs ys : List α} {i : Nat} (e : xs.getD i default ≠ ys.getD i default) : xs ≠ ys := fun h => e (by rw [h])
theorem uv {α : Type} {xs ys : List α} (h1 : xs.length = ys.length) (h : xs.take xs.length = ys.take xs.length) : xs = ys := by
 rw [List.take_length, h1, List.take_length] at h; exact h
variable {xs ys : List Int}
theorem y6 : MQ h1 h2 12 [cz xs, cz ys] [] (Plain (eB (decide (xs = ys)))) := by
 refine aY ?_ Z
 refine jB 26 h1 h2 Tryz.func12 Z Z Z fun O hF => ?_
 have hl : xs.length ≤ L := by have := hF; simp [As.fact, A.fact, M.fact, D.fact, Ds.fact] at this; omega
 refine ag (js O Z (jn (ah (ag (js O Z ?_)))))
 first | refine eK O Z ?_ | refine js O Z ?_ | refine fI O Z Z ?_
 refine js O Z ?_
 first | refine eK O Z ?_ | refine js O Z ?_ | refine fI O Z Z ?_
 refine js O Z (jf [10,4,0,1] Z (jn (ae O Z Z (fun hc10 => ?_) (fun hc10 => ?_))))
 try simp only [cf] at hc10
 refine ag (js O Z (jr ?_))
 refine ⟨.inl Z, _, av, _, Z, ?_⟩
 rw [decide_eq_false (fun e => hc10 (by rw [e]))]
 try simp only [cf] at hc10
 refine ak (ah (ag (js O Z (jn (aq (aH (X := Nat) (fun i => ⟨[(0, cz xs), (1, cz ys), (5, eI i)], []⟩) (fun i => xs.length = ys.length ∧ i ≤ xs.length ∧ xs.take i = ys.take i) (fun i => xs.length - i) 0 (Ent.to ⟨Z, Z, Z, trivial⟩ Z) ?_ (fun i hi => ?_)))))))
 exact ⟨by first | omega | simpa using hc10, dF _, Z⟩
 refine ah (ag (j2 O Z Z ?_))
 first | refine eK O Z ?_ | refine js O Z ?_ | refine fI O Z Z ?_
 refine js O Z (jf [14,0,1,5] Z (jn (ae O Z Z (fun hc14 => ?_) (fun hc14 => ?_))))
 try simp only [cf] at hc14
 refine ak (ah (aq (ah (fc O [_,_,_,_,_,_,_,_,_] [pn [] 0 0, pn [] 0 0, pn [0,1] 0 0, pn [0,1,2] 0 0, pn [] 0 0, pn [] 0 0, pn [4,5] 0 0, pn [4,5,6] 0 0, pn (rg 0 8) 0 0] [] [_] (kc O Z (kc O Z (ai (vN O Z) (kc O Z (kc O Z (kc O Z (ai (vN O Z) (kc O Z (kc O Z trivial))))))))) ?_))))
 refine jw [25,14,0,1,5] Z (bK ?_)
 refine ae O Z Z (fun hc25 => ?_) (fun hc25 => ?_)
 try simp only [cf] at hc25
 refine ag (js O Z (jr ?_))
 refine ⟨.inl Z, _, av, _, Z, ?_⟩
 rw [decide_eq_false (uu (by simpa using hc25))]
 try simp only [cf] at hc25
 refine ak (an (js O Z ?_))
 first | refine ji O Z ?_ | refine fI O Z Z ?_
 refine js O Z (jf [5,25,14,0,1] Z (jn ?_))
 refine ⟨i + 1, Ent.to ⟨Z, Z, Z, trivial⟩ Z, ⟨hi.1, by omega, td hi.2.2 (by omega) (by omega) (by simpa using hc25)⟩, by omega⟩
 try simp only [cf] at hc14
 refine bH (ag (js O Z (jr ?_)))
 refine ⟨.inl Z, _, av, _, Z, ?_⟩
 obtain rfl : i = xs.length := by omega
 rw [decide_eq_true (uv hi.1 hi.2.2)]
theorem qG : MQ h1 h2 5 [.c (.d (bys xs)), .c (.d (bys ys))] [] (Plain (eB (bif decide ((1048576 : Int) < xs.length) then true else decide ((1048576 : Int) < ys.length)))) := by
 refine aY ?_ Z
 refine jB 13 h1 h2 Tryz.func5 Z Z Z fun O hF => ?_
 refine ag (js O Z (bn (js O Z ?_)))
 first | refine eK O Z ?_ | refine js O Z ?_ | refine fI O Z Z ?_
 refine j2 O Z Z (jf [8,4,1] Z (aw 3 Z Z Z (fun hx => ab hx Z Z Z (V O Z) Z Z ( ab hx Z Z Z (b9 O Z Z Z Z Z Z Z Z) Z Z ( ab hx Z Z Z (V O Z) Z Z ( AN.nil)))) Z Z ?_))
 first | refine aa (bi O Z Z Z Z Z) Z Z Z ?_ | refine aa (Val.pickB O Z Z Z Z Z) Z Z Z ?_ | refine aa (ar O Z Z Z Z Z) Z Z Z ?_
 refine js O Z (jf [4] Z (jr ?_))
 refine ⟨.inl Z, _, av, _, Z, ?_⟩
 rfl
def dg (ts : List Tm) (vars : List Int) : Bool := ts.all fun t => decide (0 ≤ aT t vars)
theorem qW {ts : List Tm} {vars : List Int} {i : Nat} (h : i < ts.length) (hn : aT (ts.getD i default) vars < 0) : dg ts vars = false := by
 unfold dg
 rw [List.all_eq_false]
 refine ⟨ts[i], List.getElem_mem h, ?_⟩
 rw [aM h] at hn
 rw [decide_eq_false (by omega)]; exact Bool.false_ne_true
theorem oH {ts : List Tm} {vars : List Int} (h : ∀ j, j < ts.length → 0 ≤ aT (ts.getD j default) vars) : dg ts vars = true := by
 unfold dg
 rw [List.all_eq_true]
 intro t ht
 obtain ⟨j, hj, rfl⟩ := List.mem_iff_getElem.1 ht
 have := h j hj
 rw [aM hj] at this
 exact decide_eq_true this
theorem oo {ts : List Tm} (h : ∀ t ∈ ts, t.term = true) {i : Nat} (hi : i < ts.length) : (ts.getD i default).term = true := by
 rw [aM hi]; exact h _ (List.getElem_mem hi)
variable {ts : List Tm}
theorem y3 {vars cells : List Int} (ht : ∀ t ∈ ts, t.term = true) (hv : ck vars 4 = true) : MQ h1 h2 24 [cW ts, ptr [cG vars, cG cells]] [] (Plain (eB (dg ts vars))) := by
 refine aY ?_ Z
 refine jB 18 h1 h2 Tryz.func24 Z Z Z fun O hF => ?_
 have hl : ts.length ≤ L := by have := hF; simp [As.fact, A.fact, M.fact, D.fact, Ds.fact] at this; omega
 refine ag (js O Z (jn (ah (ag (js O Z (jn (aq (aH (X := Nat) (fun i => ⟨[(0, cW ts), (1, ptr [cG vars, cG cells]), (5, eI i)], []⟩) (fun i => i ≤ ts.length ∧ ∀ j, j < i → 0 ≤ aT (ts.getD j default) vars) (fun i => ts.length - i) 0 (Ent.to ⟨Z, Z, Z, trivial⟩ Z) ?_ (fun i hi => ?_)))))))))
 exact ⟨dF _, fun j hj => absurd hj (Nat.not_lt_zero j)⟩
 refine ah (ag (j2 O Z Z ?_))
 first | refine eK O Z ?_ | refine js O Z ?_ | refine fI O Z Z ?_
 refine js O Z (jf [9,0,1,5] Z (jn (ae O Z Z (fun hc9 => ?_) (fun hc9 => ?_))))
 try simp only [cf] at hc9
 refine ak (ah (aq (ag (j2 O Z Z ?_))))
 first | refine r6 O Z Z ?_ | refine pq O Z Z ?_ | refine fI O Z Z ?_
 refine js O Z (jf [15,14,9,0,1,5] Z (aB O Z Z Z Z (AI (t := ts.getD i default) (vars := vars) (cells := cells) h1 h2 (oo ht (by omega)) hv) (af Z) Z Z Z Z Z (B0 := 17000) Z (js O Z (jf [17,9,0,1,5] Z (jn (ae O Z Z (fun hc17 => ?_) (fun hc17 => ?_)))))))
 try simp only [cf] at hc17
 refine ag (js O Z (jr ?_))
 refine ⟨.inl Z, _, av, _, Z, ?_⟩
 rw [qW (i := i) (by omega) (by simpa using hc17)]
 try simp only [cf] at hc17
 refine ak (an (js O Z ?_))
 first | refine ji O Z ?_ | refine fI O Z Z ?_
 refine js O Z (jf [5,17,9,0,1] Z (jn ?_))
 refine ⟨i + 1, Ent.to ⟨Z, Z, Z, trivial⟩ Z, ⟨by omega, fun j hj => ?_⟩, by omega⟩
 rcases Nat.lt_or_ge j i with h | h
 exact hi.2 j h
 obtain rfl : j = i := by omega
 have := hc17; simp at this; exact this
 try simp only [cf] at hc9
 refine bH (ag (js O Z (jr ?_)))
 refine ⟨.inl Z, _, av, _, Z, ?_⟩
 obtain rfl : i = ts.length := by omega
 rw [oH hi.2]
def k9 : Nat → Src → List Int → List Int × Src
  | 0, s, xs => (xs, s)
  | k + 1, s, xs => k9 k (s.pick 9).2 (xs ++ [(s.pick 9).1 - 2])
theorem pJ : ∀ {k : Nat} {s : Src} {xs : List Int}, (k9 k s xs).2.at_ ≤ s.at_ + 2 * k
 | 0, s, xs => cN _
 | k + 1, s, xs => by
  have h1 := pJ (k := k) (s := (s.pick 9).2) (xs := xs ++ [(s.pick 9).1 - 2])
  have h2 := bj (s := s) (n := 9)
  rw [k9]; omega
theorem pH : ∀ {k : Nat} {s : Src} {xs : List Int}, s.Ok → (k9 k s xs).2.Ok
 | 0, s, xs, h => h
 | k + 1, s, xs, h => by rw [k9]; exact pH h.pick
theorem nG : ∀ {k : Nat} {s : Src} {xs : List Int}, (k9 k s xs).1.length = xs.length + k
 | 0, s, xs => rfl
 | k + 1, s, xs => by rw [k9, nG, de, gt]; omega
theorem pI : ∀ {k : Nat} {s : Src} {xs : List Int}, s.Ok → (∀ n ∈ xs, -2 ≤ n ∧ n ≤ 6) → ∀ n ∈ (k9 k s xs).1, -2 ≤ n ∧ n ≤ 6
 | 0, s, xs, h, hx => hx
 | k + 1, s, xs, h, hx => by
  have h0 := ch h (n := 9) (by omega)
  rw [k9]
  refine pI h.pick (fun n hn => ?_)
  rcases List.mem_append.1 hn with h1 | h1
  exact hx n h1
  rw [List.mem_singleton.1 h1]; omega
abbrev kU (xs : List Int) : B := .row false 1 (xs.map fun n => [D.int .i64 n])
def uf (vs cs : List Int) (s : Src) : Sx × Src := if (s.pick 8).1 = 0 then (⟨vs.set 0 ([1000000000, -1000000000].getD (((s.pick 8).2.pick 2).1.toNat) default), cs⟩, ((s.pick 8).2.pick 2).2) else (⟨vs, cs⟩, (s.pick 8).2)
def ug (vs : List Int) (c : List Int × Src) : Sx × Src := uf vs c.1 c.2
def rh (v : List Int × Src) : Sx × Src := ug v.1 (k9 8 v.2 [])
def ln (s : Src) : Sx × Src := rh (k9 4 s [])
theorem y4 {s : Src} (hs : s.Ok) (ha : s.at_ ≤ 999999800) : MQ h1 h2 23 [.c (.pt 0 0 0)] [(0, bb s)] (aS (.agg [.rs 1 0 (ln s).1.vars.length, .rs 2 0 (ln s).1.cells.length]) [(0, bb (ln s).2), (1, kU (ln s).1.vars), (2, kU (ln s).1.cells)]) := by
 refine MC.shift 500 Z (MC.keep [500,501,502] (bs := [bb (ln s).2, kU (ln s).1.vars, kU (ln s).1.cells]) Z Z (jH 42 [500] h1 h2 Tryz.func23 Z Z Z Z fun O hF => ?_))
 refine bK ?_
 obtain ⟨R, hR⟩ : ∃ R, R = ln s := ⟨_, rfl⟩
 rw [← hR]
 refine ag (jl O Z (ap ?_))
 refine bn (AOps.heap (bA O Z Z Z Z Z Z Z Z Z Z Z) Z (ap ?_))
 refine ap ?_
 refine AOps.heap (bA O Z Z Z Z Z Z Z Z Z Z Z) Z (ap ?_)
 refine ap ?_
 refine js O Z (jf [8,2,0] Z (jl O Z (ap ?_)))
 refine jo O Z (ap ?_)
 refine jn (ah (ag (js O Z (jn (aq (aH (X := Nat × Src × List Int) (fun x => ⟨[(0, .c (.pt 500 0 0)), (2, .c (.pt 2 0 0)), (3, .c (.pt 3 0 0)), (4, eI (x.1 : Nat))], [(2, .box [.d .nils, .d .nils]), (3, .box [.rs 900 0 x.2.2.length, .rs 7 0 0]), (7, kU []), (500, bb x.2.1), (900, kU x.2.2)]⟩) (fun x => x.2.1.Ok ∧ k9 4 s [] = k9 (4 - x.1) x.2.1 x.2.2 ∧ x.2.2.length = x.1 ∧ x.1 ≤ 4 ∧ x.2.1.at_ ≤ s.at_ + 2 * x.1) (fun x => 4 - x.1) (0, s, []) ((ac 6 900 Z Z).trans ((am [2,3,7,500,900] (e' := [(0, _), (2, _), (3, _), (4, _)]) Z Z ⟨Z, Z, Z, Z, trivial⟩ Z).trans (Ent.to ⟨Z, Z, Z, Z, trivial⟩ Z))) ?_ (fun x hi => ?_)))))))
 exact ⟨hs, Z, Z, dF _, cN _⟩
 refine ah (ag (j2 O Z Z (jn (ae O Z Z (fun hc10 => ?_) (fun hc10 => ?_)))))
 refine ak (ah (aq ?_))
 have hk := bz hc10
 have hp := ch hi.1 (n := 9) (by omega)
 have hat := bj (s := x.2.1) (n := 9)
 refine jj O [_,_,_,_,_,_,_,_,_] [pn [] 0 2, pn [0] 0 2, pn [] 0 0, pe [2] 0, pn [2,3] 1 1, pe [2,3,4] 1, pe (rg 0 6) 2, pn (rg 0 7) 3 3, pe (rg 0 8) 3] [3,5,6,8] [_,_,_,_,_] [[], [], [900], []] (ai (ka O Z Z (ka O Z Z (kw O Z Z))) (ai (ka O Z Z (ka O Z Z (kw O Z Z))) (ka O Z Z (ai (ai (aI (bO O [500] (bin := [bb x.2.1]) Z Z Z Z (eT (s := x.2.1) (n := 9) h1 h2 hi.1 (by omega) (by omega) (by omega)) Z Z Z Z Z (B0 := 17000) Z Z Z Z Z Z)) Z) (ai (ai (bc O Z Z (by omega) (by omega)) Z) (ai (ai (aI (jS O Z Z Z Z Z Z Z Z Z Z Z Z Z)) Z) (ai (ai (cm (own := false) (xs := x.2.2.map (fun n : Int => [D.int .i64 n])) (ys := [[.int .i64 ((x.2.1.pick 9).1 - 2)]]) (zs := (x.2.2 ++ [(x.2.1.pick 9).1 - 2]).map (fun n : Int => [D.int .i64 n])) (n := (x.2.2 ++ [(x.2.1.pick 9).1 - 2]).length) O Z Z Z Z Z Z Z Z Z Z Z Z Z Z Z Z (.row Z (cw _).symm) (.whole Z Z (.inr ⟨Z, Z⟩)) (by simp) Z (by simp; omega) (by simp; omega) (by simp) (by simp) Z) Z) (ka O Z Z (ai (ai (aI (eS O Z Z Z)) Z) trivial))))))))) ?_
 refine jw [10,9,0,2,3,4] Z (bK ?_)
 refine an (js O Z ?_)
 first | refine ji O Z ?_ | refine fI O Z Z ?_
 refine js O Z (jf [4,10,9,0,2,3] Z (jn ?_))
 refine ⟨(x.1 + 1, (x.2.1.pick 9).2, x.2.2 ++ [(x.2.1.pick 9).1 - 2]), ((ac 19 900 Z Z).trans (am [2,3,7,500,900] (e' := [(0, _), (2, _), (3, _), (4, _)]) Z Z ⟨Z, Z, Z, Z, trivial⟩ Z)).trans (Ent.to ⟨Z, Z, Z, ?_, trivial⟩ Z), ⟨hi.1.pick, ?_, by simp only [de, gt]; omega, by simp only; omega, by simp only; omega⟩, by simp only; omega⟩
 exact congrArg (fun z => some (eI z)) (by simp only; omega)
 rw [hi.2.1, show 4 - x.1 = (4 - (x.1 + 1)) + 1 by omega, k9]
 refine bH (ah (ag (js O Z (jn (aq ?_)))))
 have hk := cp hc10
 obtain ⟨k1, s1, xs1⟩ := x
 simp only at hi hk
 obtain rfl : k1 = 4 := by omega
 obtain ⟨ho1, ho2, ho3, ho4, ho5⟩ := hi
 rw [show ln s = rh (xs1, s1) from congrArg rh ho2] at hR
 refine aH (X := Nat × Src × List Int) (fun y => ⟨[(0, .c (.pt 500 0 0)), (2, .c (.pt 2 0 0)), (3, .c (.pt 3 0 0)), (5, eI (y.1 : Nat))], [(2, .box [.d .nils, .d .nils]), (3, .box [.rs 900 0 xs1.length, .rs 901 0 y.2.2.length]), (500, bb y.2.1), (900, kU xs1), (901, kU y.2.2)]⟩) (fun y => y.2.1.Ok ∧ k9 8 s1 [] = k9 (8 - y.1) y.2.1 y.2.2 ∧ y.2.2.length = y.1 ∧ y.1 ≤ 8 ∧ y.2.1.at_ ≤ s1.at_ + 2 * y.1) (fun y => 8 - y.1) (0, s1, []) ((ac 7 901 Z Z).trans ((am [2,3,500,900,901] (e' := [(0, _), (2, _), (3, _), (5, _)]) Z Z ⟨Z, Z, Z, Z, trivial⟩ Z).trans (Ent.to ⟨Z, Z, Z, Z, trivial⟩ Z))) ?_ (fun y hi => ?_)
 exact ⟨ho1, Z, Z, dF _, cN _⟩
 refine ah (ag (j2 O Z Z (jn (ae O Z Z (fun hc22 => ?_) (fun hc22 => ?_)))))
 refine ak (ah (aq ?_))
 have hk := bz hc22
 have hp := ch hi.1 (n := 9) (by omega)
 have hat := bj (s := y.2.1) (n := 9)
 refine jj O [_,_,_,_,_,_,_,_,_] [pn [] 0 2, pn [0] 0 2, pn [] 0 0, pe [2] 0, pn [2,3] 1 1, pe [2,3,4] 1, pe (rg 0 6) 2, pn (rg 0 7) 3 3, pe (rg 0 8) 3] [3,5,6,8] [_,_,_,_,_] [[], [], [901], []] (ai (ka O Z Z (ka O Z Z (kw O Z Z))) (ai (ka O Z Z (ka O Z Z (kw O Z Z))) (ka O Z Z (ai (ai (aI (bO O [500] (bin := [bb y.2.1]) Z Z Z Z (eT (s := y.2.1) (n := 9) h1 h2 hi.1 (by omega) (by omega) (by omega)) Z Z Z Z Z (B0 := 29000) Z Z Z Z Z Z)) Z) (ai (ai (bc O Z Z (by omega) (by omega)) Z) (ai (ai (aI (jS O Z Z Z Z Z Z Z Z Z Z Z Z Z)) Z) (ai (ai (cm (own := false) (xs := y.2.2.map (fun n : Int => [D.int .i64 n])) (ys := [[.int .i64 ((y.2.1.pick 9).1 - 2)]]) (zs := (y.2.2 ++ [(y.2.1.pick 9).1 - 2]).map (fun n : Int => [D.int .i64 n])) (n := (y.2.2 ++ [(y.2.1.pick 9).1 - 2]).length) O Z Z Z Z Z Z Z Z Z Z Z Z Z Z Z Z (.row Z (cw _).symm) (.whole Z Z (.inr ⟨Z, Z⟩)) (by simp) Z (by simp; omega) (by simp; omega) (by simp) (by simp) Z) Z) (ka O Z Z (ai (ai (aI (eS O Z Z Z)) Z) trivial))))))))) ?_
 refine jw [22,21,0,2,3,5] Z (bK ?_)
 refine an (js O Z ?_)
 first | refine ji O Z ?_ | refine fI O Z Z ?_
 refine js O Z (jf [5,22,21,0,2,3] Z (jn ?_))
 refine ⟨(y.1 + 1, (y.2.1.pick 9).2, y.2.2 ++ [(y.2.1.pick 9).1 - 2]), ((ac 31 901 Z Z).trans (am [2,3,500,900,901] (e' := [(0, _), (2, _), (3, _), (5, _)]) Z Z ⟨Z, Z, Z, Z, trivial⟩ Z)).trans (Ent.to ⟨Z, Z, Z, ?_, trivial⟩ Z), ⟨hi.1.pick, ?_, by simp only [de, gt]; omega, by simp only; omega, by simp only; omega⟩, by simp only; omega⟩
 exact congrArg (fun z => some (eI z)) (by simp only; omega)
 rw [hi.2.1, show 8 - y.1 = (8 - (y.1 + 1)) + 1 by omega, k9]
 refine bH (ah (ag ?_))
 have hk := cp hc22
 obtain ⟨k2, s2, ys2⟩ := y
 simp only at hi hk
 obtain rfl : k2 = 8 := by omega
 obtain ⟨hq1, hq2, hq3, hq4, hq5⟩ := hi
 rw [show rh (xs1, s1) = uf xs1 ys2 s2 from congrArg (ug xs1) hq2] at hR
 have hat2 := bj (s := s2) (n := 8)
 refine js O Z (aj O [500] (bin := [bb s2]) Z Z Z Z (ju (s := s2) (n := 8) h1 h2 hq1 (by omega) (by omega) (by omega)) Z Z Z Z Z Z (B0 := 35000) Z Z (ap ?_))
 refine jn (ae O Z Z (fun hc34 => ?_) (fun hc34 => ?_))
 refine rS O _ [_,_,_,_,_,_,_] [pn [] 0 1, pn [0] 0 1, pn [] 0 0, pn [] 0 0, pe [2,3] 0, pn (rg 0 5) 1 1, pe (rg 0 6) 1] [4,6] 0 [_,_,_] [] Z Z (by decide) (by decide) (by decide) Z (by kernel_rfl) (ai (ai (ai (aI (mY (V O Z) Z Z)) Z) (ai (aI (mY (V O Z) Z Z)) Z)) (ai (ai (ai (aF trivial (.inl (V O Z))) Z) (ai (aF trivial (.inl (V O Z))) Z)) (ai (ai (aF (.inl (V O Z)) (.inl (V O Z))) Z) (ai (ai (aF (.inr (mZ O Z Z Z Z Z Z Z Z Z Z Z Z Z (by repeat' (first | exact .nil | refine .skip ?_ | refine .cons Z .row ?_ | refine .cons Z (.box (FMs.keep Z)) ?_)))) (.inr (mZ O Z Z Z Z Z Z Z Z Z Z Z Z Z (by repeat' (first | exact .nil | refine .skip ?_ | refine .cons Z .row ?_ | refine .cons Z (.box (FMs.keep Z)) ?_))))) Z) (ai (ai (aF (aI (bO O [500] (bin := [bb (s2.pick 8).2]) Z Z Z Z (n6 (s := (s2.pick 8).2) (xs := [1000000000, -1000000000]) h1 h2 hq1.pick (by omega) (by decide) (by decide)) Z Z Z Z Z (B0 := 40000) Z Z Z Z Z Z)) (aI (bO O [500] (bin := [bb (s2.pick 8).2]) Z Z Z Z (n6 (s := (s2.pick 8).2) (xs := [1000000000, -1000000000]) h1 h2 hq1.pick (by omega) (by decide) (by decide)) Z Z Z Z Z (B0 := 40000) Z Z Z Z Z Z))) Z) (ai (ai (aF trivial (.inl (eX (c := (0:Int) ≤ 0 ∧ (0:Int) < ((xs1.length:Nat):Int)) (v := .c (.pt 900 0 0)) O Z Z (by omega)))) Z) (ai (ai (aF trivial (aI (cu (ex := [.int .i64 (xs1.getD 0 default)]) (xs' := (xs1.set 0 ([1000000000, -1000000000].getD (((s2.pick 8).2.pick 2).1.toNat) default)).map (fun n : Int => [D.int .i64 n])) O Z Z Z Z Z Z Z Z Z Z Z Z Z Z Z (cU (by omega)) (by rw [List.map_set]; rfl) Z))) Z) trivial))))))) ?_
 refine jw [34,33,22,21,0,2,3,5] Z (bK ?_)
 refine ag (js O Z (jo O Z (ap ?_)))
 refine jr ?_
 have ho := bz hc34
 rw [show R = (⟨xs1.set 0 ([1000000000, -1000000000].getD (((s2.pick 8).2.pick 2).1.toNat) default), ys2⟩, ((s2.pick 8).2.pick 2).2) from hR.trans (if_pos ho)]
 simp only [List.length_set]
 refine ⟨.inl trivial, _, (ac 900 501 Z Z).trans (ac 901 502 Z Z), _, Z, Z, Z⟩
 refine ak (ag (js O Z (jo O Z (ap ?_))))
 refine jr ?_
 have ho := cp hc34
 rw [show R = (⟨xs1, ys2⟩, (s2.pick 8).2) from hR.trans (if_neg ho)]
 refine ⟨.inl Z, _, (ac 900 501 Z Z).trans (ac 901 502 Z Z), _, Z, Z, Z⟩
def pk : Nat → Src → List Int → List Int × Src
  | 0, s, vs => (vs, s)
  | k + 1, s, vs => pk k (s.pick 13).2 (vs.set (3 - k) ((s.pick 13).1 - 4))
def mh : Nat → List Tm → Src → List Int → List Int
  | 0, _, _, vs => vs
  | n + 1, ts, s, vs => if dg ts vs = true then vs else mh n ts (pk 4 s vs).2 (pk 4 s vs).1
def fh (ys : List Int) (ts : List Tm) : Sx := ⟨mh 30 ts (ln ⟨ys, 0, 0⟩).2 (ln ⟨ys, 0, 0⟩).1.vars, (ln ⟨ys, 0, 0⟩).1.cells⟩
theorem nB {vs : List Int} {n : Nat} (hl : vs.length = n) (h : ∀ v ∈ vs, jk v = true) : ck vs n = true := by
 unfold ck
 rw [decide_eq_true (by omega), List.all_eq_true.2 h]; rfl
theorem oB {vs : List Int} {n : Nat} (h : ck vs n = true) : vs.length = n := by
 unfold ck at h
 cases hl : decide ((vs.length : Int) = n) with
 | true => have := bz hl; omega
 | false => rw [hl] at h; simp at h
theorem tE {vs : List Int} {n : Nat} (h : ck vs n = true) : ∀ v ∈ vs, jk v = true := by
 unfold ck at h
 cases ha : vs.all jk with
 | true => exact List.all_eq_true.1 ha
 | false => rw [ha] at h; simp at h
theorem pN {v : Int} (h : -1000000000 ≤ v ∧ v ≤ 1000000000) : jk v = true := by
 unfold jk; simp; omega
theorem lH {vs : List Int} {n j : Nat} {v : Int} (h : ck vs n = true) (hv : -1000000000 ≤ v ∧ v ≤ 1000000000) : ck (vs.set j v) n = true :=
  nB (by rw [List.length_set]; exact oB h) (fun u hu => by
 rcases List.mem_or_eq_of_mem_set hu with h1 | h1
 exact tE h u h1
 rw [h1]; exact pN hv)
theorem sT {s : Src} (h : s.Ok) : ck (ln s).1.vars 4 = true ∧ ck (ln s).1.cells 8 = true ∧ (ln s).2.Ok := by
 have a1 := pH (k := 4) (xs := []) h
 have a2 := pI (k := 4) (xs := []) h (fun n hn => by cases hn)
 have a3 := nG (k := 4) (s := s) (xs := [])
 have b1 := pH (k := 8) (xs := []) a1
 have b2 := pI (k := 8) (xs := []) a1 (fun n hn => by cases hn)
 have b3 := nG (k := 8) (s := (k9 4 s []).2) (xs := [])
 unfold ln rh ug
 generalize k9 8 (k9 4 s []).2 [] = c at b1 b2 b3
 generalize k9 4 s [] = v at a1 a2 a3
 have hv : ck v.1 4 = true := nB (by rw [a3]; rfl) (fun u hu => pN (by have := a2 u hu; omega))
 have hc : ck c.1 8 = true := nB (by rw [b3]; rfl) (fun u hu => pN (by have := b2 u hu; omega))
 have hp := ch (b1.pick (n := 8)) (n := 2) (by omega)
 unfold uf; split
 refine ⟨lH hv ?_, hc, b1.pick.pick⟩
 generalize ((c.2.pick 8).2.pick 2).1 = z at hp
 rcases (show z = 0 ∨ z = 1 by omega) with rfl | rfl <;> decide
 exact ⟨hv, hc, b1.pick⟩
theorem wz {s : Src} : (ln s).2.at_ ≤ s.at_ + 30 := by
 have h1 := pJ (k := 4) (s := s) (xs := [])
 have h2 := pJ (k := 8) (s := (k9 4 s []).2) (xs := [])
 unfold ln rh ug
 generalize k9 8 (k9 4 s []).2 [] = c at h2
 have h3 := bj (s := c.2) (n := 8)
 have h4 := bj (s := (c.2.pick 8).2) (n := 2)
 unfold uf; split
 show (((c.2.pick 8).2.pick 2).2).at_ ≤ _; omega
 show ((c.2.pick 8).2).at_ ≤ _; omega
theorem sA : ∀ {k : Nat} {s : Src} {vs : List Int}, s.Ok → ck vs 4 = true → ck (pk k s vs).1 4 = true ∧ (pk k s vs).2.Ok
 | 0, s, vs, h, hv => ⟨hv, h⟩
 | k + 1, s, vs, h, hv => by
  have hp := ch h (n := 13) (by omega)
  rw [pk]; exact sA h.pick (lH hv (by omega))
theorem qP : ∀ {n : Nat} {ts : List Tm} {s : Src} {vs : List Int}, s.Ok → ck vs 4 = true → ck (mh n ts s vs) 4 = true
 | 0, ts, s, vs, h, hv => hv
 | n + 1, ts, s, vs, h, hv => by
  rw [mh]; split
  exact hv
  exact qP (sA h hv).2 (sA h hv).1
theorem nM {ys : List Int} {ts : List Tm} (h : ∀ n ∈ ys, 0 ≤ n ∧ n ≤ 255) : sa (fh ys ts) = true := by
 obtain ⟨a, b, c⟩ := sT (s := ⟨ys, 0, 0⟩) ⟨h⟩
 have := qP (n := 30) (ts := ts) c a
 unfold sa fh
 simp only [this, b]; rfl
theorem tm {n : Nat} {ts : List Tm} {s : Src} {vs : List Int} (h : n = 0 ∨ dg ts vs = true) : mh n ts s vs = vs := by
 rcases h with rfl | h
 rfl
 cases n with
 | zero => rfl
 | succ n => rw [mh, if_pos h]
theorem tZ {a b : Bool} (h : (bif a then !b else false) = true) : a = true ∧ b = false := by cases a <;> cases b <;> simp_all
theorem uY {n : Nat} {b : Bool} {p : Prop} (h : p ∧ n ≤ 30) (hc : (bif decide ((n : Int) < 30) then !b else false) = false) : 30 - n = 0 ∨ b = true := by
 cases b with
 | true => exact .inr Z
 | false =>
  left
  cases hd : decide ((n : Int) < 30) with
  | true => rw [hd] at hc; cases hc
  | false => have := cp hd; omega
theorem sF (hy : ∀ n ∈ ys, 0 ≤ n ∧ n ≤ 255) (ht : ∀ t ∈ ts, t.term = true) : MQ h1 h2 7 [.c (.d (bys ys)), cW ts] [] (Plain (vM (fh ys ts))) := by
 refine MC.data (jB 34 h1 h2 Tryz.func7 Z Z Z fun O hF => ?_)
 obtain ⟨R, hR⟩ : ∃ R, R = fh ys ts := ⟨_, rfl⟩
 rw [← hR]
 have hs : (⟨ys, 0, 0⟩ : Src).Ok := ⟨hy⟩
 have ha : (⟨ys, 0, 0⟩ : Src).at_ = 0 := rfl
 refine ag (jl O Z (ap ?_))
 refine bn (js O Z (jf [9,4,1] Z (aj O [] (bin := []) Z Z Z Z (vu (xs := ys) h1 h2) Z Z Z Z Z Z (B0 := 11000) Z Z (ap ?_))))
 refine js O Z (jf [5,4,1] Z (bn (js O Z (aj O [11000] (bin := [bb ⟨ys, 0, 0⟩]) Z Z Z Z (y4 (s := ⟨ys, 0, 0⟩) h1 h2 hs (by omega)) Z Z Z Z Z Z (B0 := 13000) Z Z (ap ?_)))))
 obtain ⟨hd1, hd2, hd3⟩ := sT hs
 have hd4 := wz (s := ⟨ys, 0, 0⟩)
 rw [show fh ys ts = ⟨mh 30 ts (ln ⟨ys, 0, 0⟩).2 (ln ⟨ys, 0, 0⟩).1.vars, (ln ⟨ys, 0, 0⟩).1.cells⟩ from Z] at hR
 obtain ⟨d, hd⟩ : ∃ d, d = ln ⟨ys, 0, 0⟩ := ⟨_, rfl⟩
 rw [← hd] at hd1 hd2 hd3 hd4 hR ⊢
 obtain ⟨C, hC⟩ : ∃ C, C = d.1.cells := ⟨_, rfl⟩
 rw [← hC] at hR ⊢
 refine jf [12,5,4,1] Z (jl O Z (ap ?_))
 refine jo O Z (ap ?_)
 refine jn (ah (ag (js O Z (jn (aq (aH (X := Nat × Src × List Int) (fun x => ⟨[(1, cW ts), (4, .c (.pt 4 0 0)), (5, .c (.pt 11000 0 0)), (6, .c (.pt 6 0 0)), (7, eI (x.1 : Nat))], [(4, .box [.d .nils, .d .nils]), (6, .box [.rs 900 0 x.2.2.length, .rs 901 0 C.length]), (900, kU x.2.2), (901, kU C), (11000, bb x.2.1)]⟩) (fun x => x.2.1.Ok ∧ ck x.2.2 4 = true ∧ mh 30 ts d.2 d.1.vars = mh (30 - x.1) ts x.2.1 x.2.2 ∧ x.1 ≤ 30 ∧ x.2.1.at_ ≤ d.2.at_ + 8 * x.1) (fun x => 30 - x.1) (0, d.2, d.1.vars) (((ac 13001 900 Z Z).trans (ac 13002 901 Z Z)).trans ((am [4,6,900,901,11000] (e' := [(1, _), (4, _), (5, _), (6, _), (7, _)]) Z Z ⟨Z, Z, Z, Z, Z, trivial⟩ Z).trans (Ent.to ⟨Z, Z, Z, Z, Z, trivial⟩ (by rw [hC]; rfl)))) ?_ (fun x hi => ?_)))))))
 exact ⟨hd3, hd1, Z, dF _, cN _⟩
 refine ah (ag (j3 O Z Z Z (jf [15,1,4,5,6,7] Z (aw 3 Z Z Z (fun hx => ab hx Z Z Z (V O Z) Z Z ( bG O hx Z Z Z Z (y3 (ts := ts) (vars := x.2.2) (cells := C) h1 h2 ht hi.2.1) (.cons (.c .d) (.cons (.c (.pb Z (.cons (.whole Z (cw _).symm) (.cons (.whole Z (cw _).symm) .nil)))) .nil)) Z Z Z Z Z Z Z (B0 := 18000) Z ( ab hx Z Z Z (V O Z) Z Z ( AN.nil)))) Z Z ?_))))
 first | refine aa (ar O Z Z Z Z Z) Z Z Z ?_ | refine aa (bi O Z Z Z Z Z) Z Z Z ?_ | refine aa (Val.pickB O Z Z Z Z Z) Z Z Z ?_
 refine jf [19,1,4,5,6,7] Z (jn (ae O Z Z (fun hc19 => ?_) (fun hc19 => ?_)))
 refine ak (ah (aq (ag (js O Z (jn (aq ?_))))))
 have hi0 := hi
 refine aH (X := Nat × Src × List Int) (fun y => ⟨[(1, cW ts), (4, .c (.pt 4 0 0)), (5, .c (.pt 11000 0 0)), (6, .c (.pt 6 0 0)), (7, eI (x.1 : Nat)), (8, eI (y.1 : Nat))], [(4, .box [.d .nils, .d .nils]), (6, .box [.rs 900 0 y.2.2.length, .rs 901 0 C.length]), (900, kU y.2.2), (901, kU C), (11000, bb y.2.1)]⟩) (fun y => y.2.1.Ok ∧ ck y.2.2 4 = true ∧ pk 4 x.2.1 x.2.2 = pk (4 - y.1) y.2.1 y.2.2 ∧ y.1 ≤ 4 ∧ y.2.1.at_ ≤ x.2.1.at_ + 2 * y.1) (fun y => 4 - y.1) (0, x.2.1, x.2.2) ((am [4,6,900,901,11000] (e' := [(1, _), (4, _), (5, _), (6, _), (7, _), (8, _)]) Z Z ⟨Z, Z, Z, Z, Z, Z, trivial⟩ Z).trans (Ent.to ⟨Z, Z, Z, Z, Z, Z, trivial⟩ Z)) ?_ (fun y hi => ?_)
 exact ⟨hi.1, hi.2.1, Z, dF _, cN _⟩
 refine ah (ag (j2 O Z Z (jn (ae O Z Z (fun hc23 => ?_) (fun hc23 => ?_)))))
 refine ak (ah (aq ?_))
 have hk := bz hc23
 have hvl : y.2.2.length = 4 := oB (n := 4) hi.2.1
 have hp := ch hi.1 (n := 13) (by omega)
 have hat := bj (s := y.2.1) (n := 13)
 refine fc O [_,_,_,_,_,_,_,_] [pn [] 0 1, pn [0] 0 1, pn [] 0 1, pn [] 0 0, pe [3] 0, pn [3,4] 1 1, pn (rg 0 6) 1 1, pe (rg 0 7) 1] [4,7] [_,_,_] (ai (kc O Z (V O Z)) (ai (kc O Z (V O Z)) (ai (kc O Z (V O Z)) (kc O Z (ai (bO O [11000] (bin := [bb y.2.1]) Z Z Z Z (eT (s := y.2.1) (n := 13) h1 h2 hi.1 (by omega) (by omega) (by omega)) Z Z Z Z Z (B0 := 31000) Z Z Z Z Z Z) (ai (bc O Z Z (by omega) (by omega)) (ai (eX (c := (0:Int) ≤ (y.1:Nat) ∧ ((y.1:Nat):Int) < ((y.2.2.length:Nat):Int)) (v := .c (.pt 900 (0 + y.1) 0)) O Z Z (by omega)) (ai (cu (ex := [.int .i64 (y.2.2.getD y.1 default)]) (xs' := (y.2.2.set y.1 ((y.2.1.pick 13).1 - 4)).map (fun n : Int => [D.int .i64 n])) O Z Z Z Z Z Z Z Z Z Z Z Z Z Z Z (sk (by omega)) (by rw [Nat.zero_add, List.map_set]; rfl) Z) trivial)))))))) ?_
 refine jw [23,22,1,4,5,6,7,8] Z (bK ?_)
 refine an (js O Z ?_)
 first | refine ji O Z ?_ | refine fI O Z Z ?_
 refine js O Z (jf [8,23,22,1,4,5,6,7] Z (jn ?_))
 refine ⟨(y.1 + 1, (y.2.1.pick 13).2, y.2.2.set y.1 ((y.2.1.pick 13).1 - 4)), (am [4,6,900,901,11000] (e' := [(1, _), (4, _), (5, _), (6, _), (7, _), (8, _)]) Z Z ⟨Z, Z, Z, Z, Z, Z, trivial⟩ Z).trans (Ent.to ⟨Z, Z, Z, Z, Z, ?_, trivial⟩ ?_), ⟨hi.1.pick, lH hi.2.1 (by omega), ?_, by simp only; omega, by simp only; omega⟩, by simp only; omega⟩
 exact congrArg (fun z => some (eI z)) (by simp only; omega)
 simp only [List.length_set]; rfl
 rw [hi.2.2.1, show 4 - y.1 = (4 - (y.1 + 1)) + 1 by omega, pk, show 3 - (4 - (y.1 + 1)) = y.1 by omega]
 refine bH (an ?_)
 have hk := cp hc23
 obtain ⟨hk1, hk2⟩ := tZ hc19
 have hk3 := bz hk1
 refine js O Z ?_
 first | refine ji O Z ?_ | refine fI O Z Z ?_
 refine js O Z (jf [7,23,22,1,4,5,6,8] Z (jn ?_))
 obtain ⟨j, s1, v1⟩ := y
 simp only at hi hk
 obtain rfl : j = 4 := by omega
 obtain ⟨hi1, hi2, hi3, hi4, hi5⟩ := hi
 refine ⟨(x.1 + 1, s1, v1), (am [4,6,900,901,11000] (e' := [(1, _), (4, _), (5, _), (6, _), (7, _)]) Z Z ⟨Z, Z, Z, Z, Z, trivial⟩ Z).trans (Ent.to ⟨Z, Z, Z, Z, ?_, trivial⟩ Z), ⟨hi1, hi2, ?_, by simp only; omega, by simp only; omega⟩, by simp only; omega⟩
 exact congrArg (fun z => some (eI z)) (by simp only; omega)
 rw [hi0.2.2.1, show 30 - x.1 = (30 - (x.1 + 1)) + 1 by omega, mh, if_neg (by rw [hk2]; decide), show pk 4 x.2.1 x.2.2 = (v1, s1) from hi3]
 refine bH (ag (js O Z (jo O Z (ap ?_))))
 refine jr ?_
 refine ⟨.inl Z, _, av, _, Z, ?_⟩
 have hx := tm (s := x.2.1) (uY (p := True) ⟨trivial, hi.2.2.2.1⟩ hc19)
 rw [show R = ⟨x.2.2, C⟩ from hR.trans (by rw [hi.2.2.1, hx])]
 exact .v (.agg (.cons (.whole Z (cw _).symm) (.cons (.whole Z (cw _).symm) .nil)))
end Go.Al
