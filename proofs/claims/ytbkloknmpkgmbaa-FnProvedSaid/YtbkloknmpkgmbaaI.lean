/- The program proves. -/
import Derived.Test.YtbkloknmpkgmbaaC
import Derived.Test.YtbkloknmpkgmbaaG
set_option linter.unusedVariables false
set_option linter.unusedSimpArgs false
set_option maxRecDepth 10000
set_option maxHeartbeats 4000000
open Go.Proofs
namespace Go.Al
variable {L : Nat} (h1 : 4096 ≤ L) (h2 : L ≤ 1073741824)
theorem wO {x : Int} (hx : -4000000000000 ≤ x ∧ x ≤ 4000000000000) : MQ h1 h2 70 [eI x] [] (Plain (eI x.natAbs)) := by
 refine aw ?_ Z
 refine jB 7 h1 h2 Try.func70 Z Z Z fun O hF => ?_
 refine ag (js O Z (aP (j2 O Z Z (ji O Z (j2 O Z Z (jr ?_))))))
 refine ⟨.inl Z, _, ak, _, Z, ?_⟩
 exact congrArg eI (show (if 0 - x > x then 0 - x else x) = (x.natAbs : Int) by split <;> omega)
variable {xs : List Int}
theorem wR (ht : ∀ x ∈ xs, -4000000000000 ≤ x ∧ x ≤ 4000000000000) : MQ h1 h2 45 [aQ xs] [] (Plain (eI (aE xs))) := by
 refine aw ?_ Z
 refine jB 26 h1 h2 Try.func45 Z Z Z fun O hF => ?_
 have hl : xs.length ≤ L := by simpa [As.fact, A.fact, M.fact, D.fact, Ds.fact] using hF.1.1
 refine ag (js O Z (aP (js O Z (jn (ac (ag (js O Z (cj O Z (js O Z (jn (ah (al (X := Nat) (fun i => ⟨[(3, eI (aE (xs.take i))), (8, aQ xs), (9, eI xs.length), (10, eI i)], []⟩) (fun i => i ≤ xs.length) (fun i => xs.length - i) 0 (Ent.env ⟨Z, Z, Z, Z, trivial⟩) ?_ (fun i hi => ?_)))))))))))))
 exact b9 _
 refine ag (js O Z (jn (ac (ae O Z Z (fun hc11 => ?_) (fun hc11 => ?_)))))
 try simp only [ba] at hc11
 refine aj (ac (ah (ag ?_)))
 have hi0 := hi
 have hx := ht _ (List.getElem_mem (show i < xs.length by omega))
 rw [← ar (by omega)] at hx
 have hgs := hY (xs := xs) (i := i) (by omega)
 have hgl : aE (xs.take i) ≤ 4000000000000 := lj fun x hx => by have := ht x (List.mem_of_mem_take hx); omega
 refine AOps.step (aY O Z Z Z Z Z Z Z Z (fi (by omega))) Z Z Z (j2 O Z Z (jf [5,11,3,8,9,10] Z (aP (j2 O Z Z (jf [15,14,11,3,8,9,10] Z (ao O Z Z Z Z (wO (x := xs.getD i default) h1 h2 hx) (aa Z) Z Z Z Z Z (B0 := 17000) Z (j2 O Z Z (jf [7,6,11,3,8,9,10] Z (jn (ac (ah (al (X := Nat × Nat) (fun z => ⟨[(8, aQ xs), (9, eI xs.length), (10, eI i), (6, eI z.1), (7, eI z.2)], []⟩) (fun z => Nat.gcd z.1 z.2 = Nat.gcd (aE (xs.take i)) (xs.getD i default).natAbs ∧ z.1 ≤ 4000000000000 ∧ z.2 ≤ 4000000000000) (fun z => z.2) (aE (xs.take i), (xs.getD i default).natAbs) (Ent.env ⟨Z, Z, Z, Z, Z, trivial⟩) ?_ (fun z hi => ?_)))))))))))))
 exact ⟨Z, hgl, by show (xs.getD i default).natAbs ≤ 4000000000000; omega⟩
 have hz : -4000000000000 ≤ (z.1 : Int).tmod z.2 ∧ (z.1 : Int).tmod z.2 ≤ 4000000000000 := by have := Nat.mod_le z.1 z.2; rw [← Int.ofNat_tmod]; omega
 refine ac (ag (j2 O Z Z (jn (ae O Z Z (fun hc18 => ?_) (fun hc18 => ?_)))))
 try simp only [ba] at hc18
 refine aj (ah (j0 O _ [_,_,_,_,_,_] [pn [] 0 0, pn [] 0 0, pn [] 0 0, pn [1,2] 0 0, pn [0,1] 0 0, pn (rg 0 5) 0 0] [] [[], [], [6], [6], [], [6]] [_] Z Z (by decide) (by decide) (by kernel_rfl) (kc O Z (kc O Z (kc O Z (ai (fN O Z Z Z Z (by omega) (by omega) (by omega)) (kc O Z (kc O Z trivial)))))) ?_))
 have hm : z.1 % z.2 < z.2 := Nat.mod_lt _ (by omega)
 refine ⟨(z.2, z.1 % z.2), Ent.env ⟨Z, Z, Z, Z, Z, trivial⟩, ⟨?_, hi.2.2, by show z.1 % z.2 ≤ 4000000000000; omega⟩, hm⟩
 show Nat.gcd z.2 (z.1 % z.2) = _
 rw [← hi.1, Nat.gcd_comm z.2, ← Nat.gcd_rec, Nat.gcd_comm]
 try simp only [ba] at hc18
 refine aD (af (j2 O Z Z (jn (af (ji O Z (js O Z (jn ?_)))))))
 have hz0 : z.2 = 0 := by omega
 have hz1 : z.1 = aE (xs.take (i + 1)) := by rw [hgs, ← hi.1, hz0, Nat.gcd_zero_right]
 rw [hz1]
 exact ⟨i + 1, Ent.env ⟨Z, Z, Z, Z, trivial⟩, by omega, by omega⟩
 try simp only [ba] at hc11
 refine aD (ag (j2 O Z Z (jr ?_)))
 refine ⟨.inl Z, _, ak, _, Z, ?_⟩
 obtain rfl : i = xs.length := by omega
 rw [List.take_length]
theorem uT {xs : List Int} {n : Nat} (h0 : 0 < n) (h : n ≤ xs.length) : (xs.map fun n => [D.int .i64 n])[0 + ((n : Int) - 1).toNat]? = some [D.int .i64 (xs.getD (n - 1) default)] := by
 rw [Nat.zero_add, show ((n : Int) - 1).toNat = n - 1 by omega, List.getElem?_map, List.getElem?_eq_getElem (by omega), ar (by omega)]; rfl
theorem wQ {c : Int} (hl : xs.length ≤ L) : MQ h1 h2 80 [.agg [.d (.int .i64 c), .rs 0 0 xs.length]] [(0, bW xs)] (bR (.agg [.d (.int .i64 c), .rs 0 0 (aN xs).length]) [(0, bW xs)]) := by
 refine MC.shift 500 Z (MC.keep [500] (bs := [bW xs]) Z Z (jH 26 [500] h1 h2 Try.func80 Z Z Z Z fun O hF => ?_))
 refine ag (jx O Z (jf [1] Z (jl O Z (aP (j2 O Z Z (bz O Z Z (js O Z (jf [3,2,1] Z (jn (ac (ah (al (X := Nat) (fun n => ⟨[(1, .c (.pt 1 0 0)), (2, .c (.pt 2 0 0)), (3, eI n)], [(1, .box [.d (.int .i64 c), .rs 500 0 xs.length]), (2, .box [.d (.int .i64 0), .d .nils]), (500, bW xs)]⟩) (fun n => n ≤ xs.length ∧ aN (xs.take n) = aN xs) (fun n => n) xs.length (Ent.env ⟨Z, Z, Z, trivial⟩) ?_ (fun n hi => ?_)))))))))))))
 exact ⟨cu _, by rw [List.take_length]⟩
 refine ac (ag (j3 O Z Z Z (jf [9,1,2,3] Z (aB 7 Z Z Z (fun hx => AN.step hx Z Z Z (V O Z) Z Z ( AN.step hx Z Z Z (V O Z) Z Z ( AN.step hx Z Z Z (V O Z) Z Z ( AN.step hx Z Z Z (vF O Z) Z Z ( AN.step hx Z Z Z (vI O Z Z) Z Z ( AN.step hx Z Z Z (aF O (ex := [.int .i64 (xs.getD (n - 1) default)]) Z Z Z Z (uT (by first | omega | (simp at *; omega)) (by first | omega | (simp at *; omega))) Z) Z Z ( AN.step hx Z Z Z (V O Z) Z Z ( AN.nil)))))))) Z Z (AOps.step (aA O Z Z Z Z Z) Z Z Z (jf [17,1,2,3] Z (jn (ae O Z Z (fun hc17 => ?_) (fun hc17 => ?_)))))))))
 refine aj (ah (af (js O Z (ji O Z (js O Z (jf [3,17,1,2] Z (jn ?_)))))))
 rw [Bool.cond_false_right, aX, decide_eq_true_eq, decide_eq_true_eq] at hc17
 obtain ⟨k, hk⟩ : ∃ k, n = k + 1 := ⟨n - 1, by omega⟩
 subst hk
 have hk2 : ((k + 1 : Nat) : Int) - 1 = k := by omega
 refine ⟨k, Ent.to ⟨Z, Z, by rw [hk2]; rfl, trivial⟩ Z, ⟨by omega, ?_⟩, Nat.lt_succ_self k⟩
 rw [← hi.2, jG (by omega) (by simpa using hc17.2)]
 refine aD (ag (j3 O Z Z Z ?_))
 have hd : aN (xs.take n) = xs.take n := gZ hi.1 (by
  rw [Bool.cond_false_right] at hc17
  rcases Nat.eq_zero_or_pos n with h0 | h0
  ·
   exact .inl h0
  ·
   refine .inr (fun h9 => ?_)
   rw [h9] at hc17; simp at hc17; omega)
 have ht : (aN xs).length = n := by have := hi.1; rw [← hi.2, hd, List.length_take]; omega
 refine AOps.step ((gV O Z Z ⟨by omega, by omega⟩).cast (v' := .c (.rs 500 0 (aN xs).length)) (by rw [ht]; simp)) Z Z Z (js O Z (jf [24,23,17,1,2,3] Z (jo O Z (jf [17,1,2,3] Z (aP (js O Z (jo O Z (jr ?_))))))))
 refine ⟨.inl Z, _, ak, _, Z, ?_⟩
 exact ⟨Z, Z⟩
theorem wP {L : Nat} (h1 : 4096 ≤ L) (h2 : L ≤ 1073741824) {c : Int} {xs : List Int} {n : Nat} (hl : xs.length = n) (hn : n ≤ L) : MC Try.prog L 80 [.agg [.d (.int .i64 c), .rs 0 0 n]] [(0, bW xs)] (bR (.agg [.d (.int .i64 c), .rs 0 0 (aN xs).length]) [(0, bW xs)]) := by
 subst hl; exact wQ h1 h2 (by omega)
variable {ts : List Tm} {ms : List Int}
theorem wS (hc : CtxOk ts) (hm : ms.all num = true) (hle : ts.length ≤ ms.length) : MQ h1 h2 62 [bo ts, aQ ms] [] (Rows (.agg [.d (.int .i64 (aR Tm.c ts ms)), .rs 0 0 (aN (be ts ms)).length]) [bW (be ts ms)]) := by
 refine cy (jB 55 h1 h2 Try.func62 Z Z Z fun O hF => ?_)
 have hl : ms.length ≤ L := by simpa [As.fact, A.fact, M.fact, D.fact, Ds.fact] using hF.2.1.1
 have hlc := hc.len
 refine ag (jl O Z (aP (AOps.heap (gX O Z Z Z Z Z Z Z Z Z (by first | omega | (simp at *; omega)) (by first | omega | (simp at *; omega)) (by first | omega | (simp at *; omega)) (by first | omega | (dsimp only; omega) | (simp only [ba] at *; omega)) (by first | omega | (simp at *; omega)) Z Z Z) Z (js O Z (jf [11,4,0,1] Z (jl O Z (jo O Z (jn (ac (ag (js O Z (cj O Z (js O Z (jn (ah (al (X := Nat) (fun i => ⟨[(1, aQ ms), (4, .c (.pt 4 0 0)), (5, .c (.pt 5 0 0)), (12, bo ts), (13, eI ts.length), (14, eI i)], [(4, .box [.d (.int .i64 0), .d .nils]), (5, .box [.d (.int .i64 (aR Tm.c (ts.take i) (ms.take i))), .rs 10 0 10]), (10, bW (be (ts.take i) (ms.take i)))]⟩) (fun i => i ≤ ts.length) (fun i => ts.length - i) 0 (Ent.to ⟨Z, Z, Z, Z, Z, Z, trivial⟩ Z) ?_ (fun i hi => ?_)))))))))))))))))
 exact b9 _
 refine ag (js O Z (jn (ac (ae O Z Z (fun hc15 => ?_) (fun hc15 => ?_)))))
 try simp only [ba] at hc15
 refine aj (ac (ah (ag (js O Z (fR O Z Z (js O Z (jf [18,16,15,1,4,5,12,13,14] Z (jl O Z (js O Z (jf [6,7,18,15,1,4,5,12,13,14] Z (jo O Z (jn (ac ?_)))))))))))))
 have hi0 := hi
 have hts := bh (hc.get (show i < ts.length by omega))
 have hd1 := fY (f := Tm.c) (ts := ts) (ms := ms) (fun t ht => (bh (hc.ok t ht)).c) hm hi (by omega)
 have hd2 := ee (f := Tm.c) (ts := ts) (ms := ms) (i := i) (by omega) (by omega)
 have hmi : num (ms.getD i default) = true := by rw [ar (by omega)]; exact List.all_eq_true.1 hm _ (List.getElem_mem _)
 have hmu := cN hmi hts.c
 refine j7 O [_,_,_,_,_,_,_,_,_,_,_,_] [pn [] 0 0, pn [0] 0 0, pn [] 0 0, pn [] 0 0, pn [2,3] 0 0, pn [2,3,4] 0 0, pn [] 0 0, pn [6] 0 0, pn (rg 2 6) 0 0, pn (rg 0 9) 0 0, pn (rg 0 10) 0 0, pe (rg 0 11) 0] [11] [_,_] (kc O Z (kc O Z (kc O Z (kc O Z (ai (vN O Z) (kc O Z (kc O Z (kc O Z (ai (vF O Z) (ai (vF O Z) (kc O Z (ai (eS O Z Z Z) trivial)))))))))))) ?_
 refine jw [6,7,18,15,1,4,5,12,13,14] Z (dL ?_)
 refine ag (j2 O Z Z (cj O Z (js O Z (jn (ah (al (X := Nat) (fun j => ⟨[(1, aQ ms), (4, .c (.pt 4 0 0)), (5, .c (.pt 5 0 0)), (12, bo ts), (13, eI ts.length), (14, eI i), (6, eI i), (31, aQ (ts.getD i default).xs), (32, eI (ts.getD i default).xs.length), (33, eI j)], [(4, .box [.d (.int .i64 0), .d .nils]), (5, .box [.d (.int .i64 (aR Tm.c (ts.take i) (ms.take i) + ms.getD i default * (ts.getD i default).c)), .rs 10 0 10]), (10, bW (c6 ts ms i j))]⟩) (fun j => j ≤ (ts.getD i default).xs.length) (fun j => (ts.getD i default).xs.length - j) 0 (((am [4,5,10] (e' := [(1, _), (4, _), (5, _), (12, _), (13, _), (14, _), (6, _), (31, _), (32, _), (33, _)]) Z Z ⟨Z, Z, Z, Z, Z, Z, Z, Z, Z, Z, trivial⟩ Z)).trans (Ent.to ⟨Z, Z, Z, Z, Z, Z, Z, Z, Z, Z, trivial⟩ (by rw [jO]; rfl))) ?_ (fun j hi => ?_)))))))
 exact b9 _
 refine ag (js O Z (jn (ac (ae O Z Z (fun hc34 => ?_) (fun hc34 => ?_)))))
 try simp only [ba] at hc34
 refine aj (ac (ah (ag (js O Z (fR O Z Z (j3 O Z Z Z (jf [9,8,34,1,4,5,12,13,14,6,31,32,33] Z (jn ?_))))))))
 have hjl : j < 10 := by have := kW (hc.get (show i < ts.length by omega)); omega
 have hpj := i1 (ts := ts) (ms := ms) (i := i) hjl
 have hps := jP (ts := ts) (ms := ms) (i := i) hjl
 have hpl := bU (ts := ts) (ms := ms) (i := i) (j := j)
 have hd3 := fY (f := ix j) (ts := ts) (ms := ms) (fun t ht => (bh (hc.ok t ht)).get j) hm hi0 (by omega)
 have hmx := cN hmi (hts.get j)
 rw [show (ts.getD i default).xs.getD j 0 = (ts.getD i default).xs.getD j default from Z] at hmx
 refine j7 O [_,_,_,_,_,_,_,_,_,_,_,_,_,_] [pn [] 0 0, pn [0] 0 0, pn [] 0 0, pn [0,1,2] 0 0, pn (rg 0 4) 0 0, pn [] 0 0, pn [] 0 0, pn [5,6] 0 0, pn [5,6,7] 0 0, pn [] 0 0, pn (rg 5 5) 0 0, pn (rg 0 11) 0 0, pn (rg 0 12) 0 0, pe (rg 0 13) 0] [13] [_,_] (kc O Z (kc O Z (kc O Z (ai (vI O Z Z) (ai (aF O (ex := [.int .i64 ((c6 ts ms i j).getD j default)]) Z Z Z Z (oA (by omega)) Z) (kc O Z (kc O Z (ai (vN O Z) (kc O Z (kc O Z (ai (vF O Z) (ai (vF O Z) (ai (vI O Z Z) (ai (gi (ex := [.int .i64 ((c6 ts ms i j).getD j default)]) (xs' := (c6 ts ms i (j + 1)).map (fun n => [D.int .i64 n])) O Z Z Z Z Z Z Z Z Z Z Z Z Z Z Z (oA (by omega)) (by rw [← hps, List.map_set]; simp only [Int.toNat_natCast, Nat.zero_add]; rfl) Z) trivial)))))))))))))) ?_
 refine jw [34,1,4,5,12,13,14,6,31,32,33] Z (dL ?_)
 refine af (ji O Z (js O Z (jn ?_)))
 refine ⟨j + 1, Ent.to ⟨Z, Z, Z, Z, Z, Z, Z, Z, Z, Z, trivial⟩ Z, by omega, by omega⟩
 try simp only [ba] at hc34
 refine aD (af (ji O Z (js O Z (jn ?_))))
 refine ⟨i + 1, ((am [4,5,10] (e' := [(1, _), (4, _), (5, _), (12, _), (13, _), (14, _)]) Z Z ⟨Z, Z, Z, Z, Z, Z, trivial⟩ Z)).trans (Ent.to ⟨Z, Z, Z, Z, Z, Z, trivial⟩ ?_), by omega, by omega⟩
 rw [hd2, ← k9 (j := j) (by omega) (by omega) (by omega)]; rfl
 try simp only [ba] at hc15
 refine aD (ag ?_)
 obtain rfl : i = ts.length := by omega
 rw [gD hle, jY hle]
 have hcl : (be ts ms).length = 10 := gg
 refine az ((am [4,5,10] (e' := [(4, _), (5, _)]) Z Z ⟨Z, Z, trivial⟩ Z)) (js O Z (aH O [10] (bin := [bW (be ts ms)]) Z Z Z Z (wP (c := aR Tm.c ts ms) (xs := be ts ms) (n := 10) h1 h2 hcl (by omega)) Z Z Z Z Z Z (B0 := 55000) Z Z (av ?_)))
 refine jf [54,4,5] Z (jo O Z (jr ?_))
 refine ⟨.inl Z, _, ak, _, Z, [10], by decide, Z, Z, Z⟩
variable {t : Tm}
theorem nA {k : Nat} : MQ h1 h2 85 [dn t, eI k] [] (Plain (eI (t.xs.getD k default))) := by
 refine aw ?_ Z
 refine jB 15 h1 h2 Try.func85 Z Z Z fun O hF => ?_
 have hl : t.xs.length ≤ L := by simpa [As.fact, A.fact, M.fact, Ms.fact, D.fact, Ds.fact] using hF.1.2.1.1
 refine ag (jx O Z (js O Z (jn (ac (ag (j3 O Z Z Z (cj O Z (js O Z (jf [9,4,2,0,1] Z (jn (ae O Z Z (fun hc9 => ?_) (fun hc9 => ?_))))))))))))
 try simp only [ba] at hc9
 refine ag (j3 O Z Z Z (fR O Z Z (j2 O Z Z (jf [4,2,0,1] Z (jr ?_)))))
 refine ⟨.inl Z, _, ak, _, Z, ?_⟩
 rfl
 try simp only [ba] at hc9
 refine aj (ag (js O Z (jr ?_)))
 refine ⟨.inl Z, _, ak, _, Z, ?_⟩
 rw [List.getD_eq_getElem?_getD, List.getElem?_eq_none (by omega)]; rfl
theorem w5 {ys : List Int} : MQ h1 h2 94 [aQ xs, aQ ys] [] (Plain (eB (decide (xs = ys)))) := by
 refine aw ?_ Z
 refine jB 26 h1 h2 Try.func94 Z Z Z fun O hF => ?_
 have hl : xs.length ≤ L := by simpa [As.fact, A.fact, M.fact, D.fact, Ds.fact] using hF.1.1
 have hl2 : ys.length ≤ L := by simpa [As.fact, A.fact, M.fact, D.fact, Ds.fact] using hF.2.1.1
 refine ag (js O Z (jn (ac (ag (js O Z (cj O Z (js O Z (cj O Z (js O Z (jn (ae O Z Z (fun hc10 => ?_) (fun hc10 => ?_))))))))))))
 try simp only [ba] at hc10
 refine ag (js O Z (jr ?_))
 refine ⟨.inl Z, _, ak, _, Z, ?_⟩
 rw [decide_eq_false (fun e => by subst e; simp at hc10)]
 try simp only [ba] at hc10
 refine aj (ac (ag (js O Z (cj O Z (js O Z (jn (ah (al (X := Nat) (fun i => ⟨[(0, aQ xs), (1, aQ ys), (12, eI xs.length), (13, eI i)], []⟩) (fun i => i ≤ xs.length ∧ ∀ j, j < i → xs[j]? = ys[j]?) (fun i => xs.length - i) 0 (Ent.env ⟨Z, Z, Z, Z, trivial⟩) ?_ (fun i hi => ?_)))))))))
 exact ⟨b9 _, fun j hj => absurd hj (Nat.not_lt_zero j)⟩
 refine ag (js O Z (jn (ac (ae O Z Z (fun hc14 => ?_) (fun hc14 => ?_)))))
 try simp only [ba] at hc14
 refine aj (ac (ah (ag (j2 O Z Z (jn (ac (j7 O [_,_,_,_,_,_,_,_,_] [pn [] 0 0, pn [] 0 0, pn [0,1] 0 0, pn [0,1,2] 0 0, pn [] 0 0, pn [] 0 0, pn [4,5] 0 0, pn [4,5,6] 0 0, pn (rg 0 8) 0 0] [] [_] (kc O Z (kc O Z (ai (vN O Z) (kc O Z (kc O Z (kc O Z (ai (vN O Z) (kc O Z (kc O Z trivial))))))))) ?_)))))))
 refine ae O Z Z (fun hc24 => ?_) (fun hc24 => ?_)
 try simp only [ba] at hc24
 refine ag (js O Z (jr ?_))
 refine ⟨.inl Z, _, ak, _, Z, ?_⟩
 rw [decide_eq_false (fun e => by subst e; simp at hc24)]
 try simp only [ba] at hc24
 refine aj (af (ji O Z (js O Z (jn ?_))))
 refine ⟨i + 1, Ent.env ⟨Z, Z, Z, Z, trivial⟩, ⟨by omega, fun j hj => ?_⟩, by omega⟩
 rcases Nat.lt_or_ge j i with h | h
 exact hi.2 j h
 obtain rfl : j = i := by omega
 rw [ar (by omega), ar (by omega)] at hc24
 rw [List.getElem?_eq_getElem (by omega), List.getElem?_eq_getElem (by omega), hc24]
 try simp only [ba] at hc14
 refine aD (ag (js O Z (jr ?_)))
 refine ⟨.inl Z, _, ak, _, Z, ?_⟩
 have e : xs = ys := List.ext_getElem? fun j => by
  rcases Nat.lt_or_ge j i with h | h
  ·
   exact hi.2 j h
  ·
   rw [List.getElem?_eq_none (by omega), List.getElem?_eq_none (by omega)]
 rw [decide_eq_true e]
theorem uQ {a b : Tm} : (bif decide (a.c = b.c) then decide (a.xs = b.xs) else false) = decide (a = b) := by
 cases a; cases b; simp [Bool.cond_false_right]
def mK (t : Tm) : List Tm → Nat → Int
  | [], _ => -1
  | u :: us, i => if t = u then (i : Int) else mK t us (i + 1)
theorem qQ {t : Tm} {ts : List Tm} {i : Nat} (h : i < ts.length) : mK t (ts.drop i) i = if t = ts.getD i default then (i : Int) else mK t (ts.drop (i + 1)) (i + 1) := by
 rw [List.drop_eq_getElem_cons h, ar h]; rfl
theorem sF {t : Tm} {ts : List Tm} {i : Nat} (h : ts.length ≤ i) : mK t (ts.drop i) i = -1 := by rw [List.drop_of_length_le h]; rfl
theorem nU {t : Tm} : ∀ {us : List Tm} {i : Nat}, decide (mK t us i ≥ 0) = ew us t
 | [], _ => rfl
 | u :: us, i => by
  rw [mK, ew, List.any_cons]
  by_cases h : t = u
  rw [if_pos h, decide_eq_true h.symm, Bool.true_or]; exact decide_eq_true (by omega)
  rw [if_neg h, show decide (u = t) = false from decide_eq_false (fun e => h e.symm), Bool.false_or]; exact nU
theorem w8 {a b : Tm} : MQ h1 h2 83 [dn a, dn b] [] (Plain (eB (decide (a = b)))) := by
 refine aw ?_ Z
 refine jB 17 h1 h2 Try.func83 Z Z Z fun O hF => ?_
 refine ag (jx O Z (jx O Z (js O Z (aP (j4 O Z Z Z Z (j2 O Z Z (aB 5 Z Z Z (fun hx => AN.step hx Z Z Z (V O Z) Z Z ( AN.step hx Z Z Z (V O Z) Z Z ( AN.step hx Z Z Z (V O Z) Z Z ( AN.step hx Z Z Z (V O Z) Z Z ( bl O hx Z Z Z Z (w5 (xs := a.xs) (ys := b.xs) h1 h2) (aa Z) Z Z Z Z Z Z Z (B0 := 16000) Z ( AN.nil)))))) Z Z (AOps.step (aA O Z Z Z Z Z) Z Z Z (js O Z (jr ?_))))))))))
 refine ⟨.inl Z, _, ak, _, Z, ?_⟩
 exact congrArg eB uQ
theorem wT : MQ h1 h2 93 [bo ts, .c (.fb 83 (t.cells.map .d))] [] (Plain (eI (mK t ts 0))) := by
 refine aw ?_ Z
 refine jB 19 h1 h2 Try.func93 Z Z Z fun O hF => ?_
 have hl : ts.length ≤ L := by simpa [As.fact, A.fact, M.fact, D.fact, Ds.fact] using hF.1.1
 refine ag (js O Z (jn (ac (ag (js O Z (cj O Z (js O Z (jn (ah (al (X := Nat) (fun i => ⟨[(0, bo ts), (1, .c (.fb 83 (t.cells.map .d))), (7, eI ts.length), (8, eI i)], []⟩) (fun i => i ≤ ts.length ∧ mK t (ts.drop i) i = mK t ts 0) (fun i => ts.length - i) 0 (Ent.env ⟨Z, Z, Z, Z, trivial⟩) ?_ (fun i hi => ?_)))))))))))
 exact ⟨b9 _, Z⟩
 refine ag (js O Z (jn (ac (ae O Z Z (fun hc9 => ?_) (fun hc9 => ?_)))))
 refine aj (ac (ah (ag ?_)))
 have hil : i < ts.length := by have := cI hc9; omega
 have hkc := qQ (t := t) hil
 refine j2 O Z Z (aP (j3 O Z Z Z (fR O Z Z (js O Z (jf [15,11,5,10,9,0,1,7,8] Z (pC O Z Z Z Z (w8 (a := t) (b := ts.getD i default) h1 h2) (aa Z) Z Z Z Z Z (B0 := 17000) Z (jf [16,5,10,9,0,1,7,8] Z (jn (ae O Z Z (fun hc16 => ?_) (fun hc16 => ?_))))))))))
 refine ag (j2 O Z Z (jr ?_))
 refine ⟨.inl Z, _, ak, _, Z, ?_⟩
 rw [if_pos (cI hc16), hi.2] at hkc
 rw [hkc]
 refine aj (af (ji O Z (js O Z (jn ?_))))
 rw [if_neg (dh hc16)] at hkc
 exact ⟨i + 1, Ent.env ⟨Z, Z, Z, Z, trivial⟩, ⟨by omega, hkc.symm.trans hi.2⟩, by omega⟩
 refine aD (ag (js O Z (jr ?_)))
 refine ⟨.inl Z, _, ak, _, Z, ?_⟩
 have h9 := hi.2
 rw [sF (by have := dh hc9; omega)] at h9
 rw [← h9]
theorem wX : MQ h1 h2 82 [bo ts, .c (.fb 83 (t.cells.map .d))] [] (Plain (eB (ew ts t))) := by
 refine aw ?_ Z
 refine jB 9 h1 h2 Try.func82 Z Z Z fun O hF => ?_
 refine ag (js O Z (aP (j2 O Z Z (ao O Z Z Z Z (wT (ts := ts) (t := t) h1 h2) (.cons (.c .d) (.cons (.c (.fb (aC Z))) .nil)) Z Z Z Z Z (B0 := 8000) Z (j2 O Z Z (jr ?_))))))
 refine ⟨.inl Z, _, ak, _, Z, ?_⟩
 exact congrArg eB nU
theorem xc : MQ h1 h2 64 [bo ts, dn t] [] (Plain (eB (ew ts t))) := by
 refine aw ?_ Z
 refine jB 9 h1 h2 Try.func64 Z Z Z fun O hF => ?_
 refine ag (jx O Z (js O Z (aP (j2 O Z Z (AOps.step (q5 (ms := t.cells.map .d) O Z Z Z Z Z) Z Z Z (ao O Z Z Z Z (wX (ts := ts) (t := t) h1 h2) (.cons (.c .d) (.cons (.c (.fb (aC Z))) .nil)) Z Z Z Z Z (B0 := 9000) Z (js O Z (jr ?_))))))))
 refine ⟨.inl Z, _, ak, _, Z, ?_⟩
 first | rfl | skip
theorem xb : MQ h1 h2 67 [bo ts] [] (Plain (eB (fA ts 14))) := by
 refine aw ?_ Z
 refine jB 5 h1 h2 Try.func67 Z Z Z fun O hF => ?_
 refine ag (js O Z (aP (js O Z (ao O Z Z Z Z (we h1 h2) (aa Z) Z Z Z Z Z (B0 := 5000) Z (js O Z (jr ?_))))))
 refine ⟨.inl Z, _, ak, _, Z, ?_⟩
 first | rfl | skip
def fq (n : Nat) : List Int := (List.range n).map Int.ofNat
theorem bT {n : Nat} : (fq n).length = n := by simp [fq]
theorem qF {n : Nat} : fq (n + 1) = fq n ++ [(n : Int)] := by simp [fq, List.range_succ]
theorem sg {n k : Nat} (h : k < n) : (fq n).getD k default = k := by rw [ar (by rw [bT]; exact h)]; simp [fq]
theorem uv {n : Nat} (hn : n ≤ 1000) : MQ h1 h2 69 [eI n] [] (Plain (aQ (fq n))) := by
 refine MC.data (jB 15 h1 h2 Try.func69 Z Z Z fun O hF => ?_)
 refine ag (js O Z (aP (js O Z (jn (ac (ag (j2 O Z Z (jn (ah (al (X := Nat) (fun i => ⟨[(3, .c (.rs 900 0 i)), (5, eI n), (6, eI i)], [(900, bW (fq i))]⟩) (fun i => i ≤ n) (fun i => n - i) 0 ((bF 3 900 1 true Z Z).trans (Ent.to ⟨Z, Z, Z, trivial⟩ Z)) ?_ (fun i hi => ?_)))))))))))
 exact b9 _
 refine ag (js O Z (jn (ac (ae O Z Z (fun hc7 => ?_) (fun hc7 => ?_)))))
 try simp only [ba] at hc7
 refine aj (ac (ah (ag (j2 O Z Z (jn (af (j2 O Z Z (jf [10,9,8,7,3,5,6] Z (AOps.heap (bq O Z Z Z) Z (av ?_))))))))))
 refine jf [11,9,8,7,3,5,6] Z (AOps.heap (bw (zs := ((fq (i + 1))).map fun n => [.int .i64 n]) (n := i + 1) O Z Z Z Z Z Z Z Z Z Z Z Z Z Z Z Z (.row Z (by simp [bT])) Z Z (by decide) Z (by simp [bT]; omega) (by simp [bT]; omega) (by rw [qF, List.map_append]; rfl) (by simp [bT])) Z (av ?_))
 refine js O Z (jf [3,8,7,5,6] Z (jn (af (ji O Z (js O Z (jn ?_))))))
 refine ⟨i + 1, ((am [12] (e' := [(3, _), (5, _), (6, _)]) Z Z ⟨Z, Z, Z, trivial⟩ Z).trans (au 12 900 Z Z)), by omega, by omega⟩
 try simp only [ba] at hc7
 refine aD (ag (j2 O Z Z (jr ?_)))
 refine ⟨.inl Z, _, ak, _, Z, ?_⟩
 obtain rfl : i = n := by omega
 exact .v (.c (.whole Z (by simp [bT])))
theorem uz (ht : t.ok = true) : MQ h1 h2 39 [dn t, bo ts] [] (Plain (fw (an ts t))) := by
 refine MC.data (jB 35 h1 h2 Try.func39 Z Z Z fun O hF => ?_)
 have hs := bh ht
 have hc := xA.1 hs.c
 have hr := dY (a := t.c) (b := aE t.xs) hc
 refine ag (jx O Z (av ?_))
 refine jf [2,1] Z (jl O Z (av ?_))
 refine js O Z (aP (j2 O Z Z (jf [10,5,4,2,1] Z (ao O Z Z Z Z (s8 (xs := t.xs) h1 h2 hs.xs) (aa Z) Z Z Z Z Z (B0 := 12000) Z (js O Z (jf [6,5,4,2,1] Z (jn (ac (ag (j3 O Z Z Z (jf [14,6,5,4,2,1] Z (aB 5 Z Z Z (fun hx => AN.step hx Z Z Z (V O Z) Z Z ( AN.step hx Z Z Z (V O Z) Z Z ( AN.step hx Z Z Z (V O Z) Z Z ( AN.step hx Z Z Z (vR O Z Z Z Z) Z Z ( AN.step hx Z Z Z (V O Z) Z Z ( AN.nil)))))) Z Z (AOps.step (ay O Z Z Z Z Z) Z Z Z (jf [20,5,4,2,1] Z (jn (ae O Z Z (fun hc20 => ?_) (fun hc20 => ?_)))))))))))))))))
 refine ag (js O Z (jf [21,5,4,2,1] Z (jo O Z (av ?_))))
 refine js O Z (jr ?_)
 refine ⟨.inl Z, _, ak, _, Z, ?_⟩
 have hn : aE t.xs < 2 ∨ t.c.tmod (aE t.xs) = 0 := by by_cases h9 : aE t.xs < 2; exact .inl h9; refine .inr ?_; simpa [show ¬ (aE t.xs : Int) ≤ 1 by omega] using hc20
 rw [show an ts t = s5 from if_pos hn]
 exact .tup (.cons (.agg (.cons .d (.cons .nils .nil))) (.cons (.c .d) .nil))
 refine aj (ag (js O Z (jf [23,5,4,2,1] Z (ab O Z Z Z Z (wg (t := t) h1 h2 hs) (aa Z) Z Z Z Z (B0 := 25000) Z Z (js O Z ?_)))))
 have hn : ¬ (aE t.xs < 2 ∨ t.c.tmod (aE t.xs) = 0) := by intro h9; rcases h9 with h9 | h9 <;> simp [h9] at hc20 <;> omega
 have hok := jI ht (fun h => hn (.inl h))
 rw [dC ht]
 refine j2 O Z Z (jf [26,25,5,4,2,1] Z (jl O Z (av ?_)))
 refine jo O Z (av ?_)
 refine js O Z (jf [8,7,5,4,2,1] Z (jn (ac (jw [8,7,4,2,1] Z ?_))))
 rw [hok]
 refine pF O [_,_,_,_,_,_,_,_,_,_] [pn [] 0 1, pn [] 0 0, pn [1] 0 0, pn [1,2] 0 0, pn [1,2] 0 0, pe (rg 1 4) 0, pn (rg 1 5) 1 2, pn (rg 1 6) 1 2, pe (rg 0 6) 1, pn (rg 0 9) 2 2] [5,8] [_,_,_] (ai (kc O Z (V O Z)) (kc O Z (kc O Z (kc O Z (kc O Z (ai (bj O (B0 := 33000) Z Z Z Z (xc (ts := ts) (t := (aM t).1) h1 h2) (aa Z) Z Z Z Z Z) (ai (kc O Z (V O Z)) (ai (ai (bm O Z Z Z Z Z) (bm O Z Z Z Z Z)) (ai (eS O Z Z Z) (kc O Z trivial)))))))))) ?_
 refine jw [5,7,4,2] Z (dL ?_)
 refine fT ?_
 refine ⟨.inl Z, _, ak, _, Z, ?_⟩
 rw [show an ts t = ((aM t).1, !ew ts (aM t).1) by unfold an; rw [if_neg hn, hok]; rfl]
 exact .tup (.cons (.agg (aC Z)) (.cons (.c .d) .nil))
abbrev vZ (r : Rw) : A := .agg (r.comb.map .d)
theorem qC {xs : List Int} : xs.take (aN xs).length = aN xs := by
 obtain ⟨z, hz⟩ := fB xs
 exact (congrArg (fun l => l.take (aN xs).length) hz).trans List.take_left
theorem sc {xs : List Int} {x : Int} (h : x ∈ aN xs) : x ∈ xs := by
 obtain ⟨z, hz⟩ := fB xs
 rw [hz]; exact List.mem_append_left _ h
theorem wE {p q : Rw} {n m : Int} : aR Tm.c [p.tm, q.tm] [n, m] = n * p.c + m * q.c := by
 show n * p.c + (m * q.c + 0) = n * p.c + m * q.c
 omega
theorem uW {p q : Rw} {n m : Int} (hl : p.xs.length = 10) : be [p.tm, q.tm] [n, m] = eW n m p.xs q.xs p.xs.length := by
 show (List.range 10).map _ = eW _ _ _ _ p.xs.length
 rw [hl]
 unfold eW
 apply List.map_congr_left
 intro i _
 show n * (aN p.xs).getD i 0 + (m * (aN q.xs).getD i 0 + 0) = _
 rw [cB, cB]
 show n * p.xs.getD i default + (m * q.xs.getD i default + 0) = _
 omega
theorem nS {C : Int} {X Y : List Int} {G : Nat} (hG : G = aE (C :: X ++ Y)) (h0 : 0 < G) (hl : X.length = 10) :
    vZ (jv ⟨C, X, Y⟩ G) = .agg [.d (.int .i64 (C.tdiv G)), .d (dk ((aN X).map fun x => x.tdiv G)), .d (dk (Y.map fun x => x.tdiv G))] ∧
    pE (jv ⟨C, X, Y⟩ G) = ((⟨C.tdiv G, (aN X).map fun x => x.tdiv G⟩ : Tm).ok && (Y.map fun x => x.tdiv G).all num) := by
 have e : aN (X.map fun x => x.tdiv G) = (aN X).map fun x => x.tdiv G := by
  subst hG
  exact sM (r := ⟨C, X, Y⟩) h0
 constructor
 show A.agg [.d (.int .i64 (C.tdiv G)), .d (dk (aN (X.map fun x => x.tdiv G))), .d (dk (Y.map fun x => x.tdiv G))] = _
 rw [e]
 have h1 := t7 (r := jv ⟨C, X, Y⟩ G) (by show (X.map _).length = 10; rw [bp, hl])
 have h2 : (jv ⟨C, X, Y⟩ G).tm = ⟨C.tdiv G, (aN X).map fun x => x.tdiv G⟩ := by
  show (⟨C.tdiv G, aN (X.map fun x => x.tdiv G)⟩ : Tm) = _
  rw [e]
 rw [h2] at h1
 rw [h1]; rfl
theorem pU {a b : Int} (ha : -1000000 ≤ a ∧ a ≤ 1000000) (hb : -1000000 ≤ b ∧ b ≤ 1000000) : [a, b].all num = true := by
 simp only [List.all_cons, List.all_nil, Bool.and_true, aX]
 exact ⟨xA.2 ha, xA.2 hb⟩
theorem tu {n : Nat} {p q : Rw} (hp : ROk n p) (hq : ROk n q) : CtxOk [p.tm, q.tm] := ⟨fun t ht => by
 rcases List.mem_cons.1 ht with rfl | ht
 exact hp.tm
 rw [List.mem_singleton.1 ht]; exact hq.tm, by simp⟩
theorem mh {xs : List Int} : Scal (xs.map fun n => [D.int .i64 n]) := Scal.map fun _ => rfl
theorem w7 {n : Nat} {p q : Rw} {k : Nat} (hp : ROk n p) (hq : ROk n q) (hk : k < 10) (hx : 0 < p.xs.getD k default) (hy : q.xs.getD k default < 0) (hn : n ≤ 1000) : MQ h1 h2 86 [vZ p, vZ q, eI k] [] (Plain (.tup [vZ (cv p q k), eB (pE (cv p q k))])) := by
 refine MC.data (jB 120 h1 h2 Try.func86 Z Z Z fun O hF => ?_)
 obtain ⟨hg0, hm0, hn0⟩ := m5 hp hq hx hy
 have hb1 := hp.get k
 have hb2 := hq.get k
 have lp := hp.l
 have lq := hq.l
 have lpm := hp.n
 have lqm := hq.n
 have hd1 := ce (a := p.xs.getD k default) (b := ((dN p q k : Nat) : Int)) (by omega)
 have hd2 := ce (a := -(q.xs.getD k default)) (b := ((dN p q k : Nat) : Int)) (by omega)
 obtain ⟨m, em⟩ : ∃ m, m = jt p q k := ⟨_, rfl⟩
 obtain ⟨nn, en⟩ : ∃ m, m = jq p q k := ⟨_, rfl⟩
 rw [← em] at hm0
 rw [← en] at hn0
 have hc1 := dS (a := nn) (b := p.c) (by omega) (xA.1 hp.c)
 have hc2 := dS (a := m) (b := q.c) (by omega) (xA.1 hq.c)
 have hpm : ∀ j, -1000000 ≤ p.ms.getD j default ∧ p.ms.getD j default ≤ 1000000 := fun j => by have := hp.mul j; omega
 have hqm : ∀ j, -1000000 ≤ q.ms.getD j default ∧ q.ms.getD j default ≤ 1000000 := fun j => by have := hq.mul j; omega
 refine ag (jx O Z (av ?_))
 refine az (Ent.freeze 3 (e' := [(3, _), (1, _), (2, _)]) Z (.cons Z (.c (.box (cs := Rw.comb p) Z (aC Z))) (fe [1,2] Z)) (.skip .nil)) ?_
 refine av ?_
 refine jx O Z (av ?_)
 refine az (Ent.freeze 4 (e' := [(4, _), (3, _), (2, _)]) Z (.cons Z (.c (.box (cs := Rw.comb q) Z (aC Z))) (fe [3,2] Z)) (.skip .nil)) ?_
 refine av ?_
 refine jl O Z (av ?_)
 refine js O Z (jn (ac (j7 O [_,_,_,_,_,_,_,_,_,_,_] [pn [] 0 0, pn [0] 0 0, pn [] 0 0, pe [0,1,2] 0, pn [] 0 1, pn [4] 0 1, pn [] 0 1, pe (rg 0 7) 1, pn (rg 0 8) 2 2, pn (rg 0 8) 2 2, pn (rg 0 10) 2 2] [3,7] [_,_,_] (kc O Z (kc O Z (kc O Z (ai (bj O (B0 := 20000) Z Z Z Z ((nA (t := p.tm) (k := k) h1 h2).plain (u := eI (p.xs.getD k default)) (congrArg eI (cB p.xs k))) (aa Z) Z Z Z Z Z) (ai (kc O Z (V O Z)) (ai (kc O Z (V O Z)) (ai (kc O Z (V O Z)) (ai (bj O (B0 := 24000) Z Z Z Z ((nA (t := q.tm) (k := k) h1 h2).plain (u := eI (q.xs.getD k default)) (congrArg eI (cB q.xs k))) (aa Z) Z Z Z Z Z) (ai ((aZ O Z Z (by omega) (by omega)).cast (v' := eI (-(q.xs.getD k default))) (by rw [Int.zero_sub])) (kc O Z (kc O Z trivial))))))))))) ?_)))
 refine jw [9,8,7,6,4,3] Z (dL ?_)
 refine ag (j2 O Z Z (AOps.heap (bq O Z Z Z) Z (av ?_)))
 refine jf [27,9,8,7,6,4,3] Z (ao O Z Z Z Z ((s8 (xs := [p.xs.getD k default, -(q.xs.getD k default)]) h1 h2 (pU hb1 (by omega))).plain (u := eI (dN p q k)) (by rw [sI, Int.natAbs_neg])) (.cons (.c (.whole Z Z)) .nil) Z Z Z Z Z (B0 := 29000) Z (js O Z (jf [10,9,8,7,6,4,3] Z (jn (ac (j0 O _ [_,_,_,_,_,_,_,_] [pn [] 0 0, pn [] 0 0, pn [0,1] 0 0, pn [] 0 0, pn [] 0 0, pn [3,4] 0 0, pn [0,1,2] 0 0, pn (rg 0 7) 0 0] [] [[], [], [], [8], [8], [8], [], [8]] [_] Z Z (by decide) (by decide) (by kernel_rfl) (kc O Z (kc O Z (ai ((cT O Z Z Z Z (by omega) (by omega) (by omega)).cast (v' := eI m) (by rw [em])) (kc O Z (kc O Z (ai ((cT O Z Z Z Z (by omega) (by omega) (by omega)).cast (v' := eI nn) (by rw [en])) (kc O Z (kc O Z trivial)))))))) ?_))))))
 refine ag (j4 O Z Z Z Z (jf [38,36,9,8,34,33,32,31,30,29,10,7,6,4,3] Z (AOps.heap (bd O Z Z Z Z Z Z Z Z Z Z Z) Z (av ?_))))
 refine j2 O Z Z (jf [41,40,39,9,8,34,33,32,31,30,29,10,7,6,4,3] Z (AOps.heap (bq O Z Z Z) Z (av ?_)))
 refine jf [42,39,9,8,34,33,32,31,30,29,10,7,6,4,3] Z (fP O (B0 := 44000) Z Z Z Z (wS (ts := [p.tm, q.tm]) (ms := [nn, m]) h1 h2 (tu hp hq) (pU (by omega) (by omega)) (cu _)) (.cons (.c (.whole Z Z)) (.cons (.c (.whole Z Z)) .nil)) Z Z Z Z Z Z (av ?_))
 refine jf [43,9,8,34,33,32,31,30,29,10,7,6,4,3] Z ?_
 obtain ⟨C, eC⟩ : ∃ C, C = nn * p.c + m * q.c := ⟨_, rfl⟩
 have hC : -2000000000000 ≤ C ∧ C ≤ 2000000000000 := by omega
 obtain ⟨X, eX⟩ : ∃ X, X = eW nn m p.xs q.xs p.xs.length := ⟨_, rfl⟩
 have lX : X.length = 10 := by rw [eX, aS, lp]
 have hXb : ∀ x ∈ X, -2000000000000 ≤ x ∧ x ≤ 2000000000000 := by rw [eX]; exact jE hn0 hm0 hp.get hq.get
 rw [wE, uW lp, ← eC, ← eX]
 refine az (Ent.cut 44000 (aN X).length Z) (av ?_)
 rw [← List.map_take, qC]
 obtain ⟨XT, eT⟩ : ∃ XT, XT = aN X := ⟨_, rfl⟩
 rw [← eT]
 have lT : XT.length ≤ 10 := by rw [eT, ← lX]; exact j9 X
 have hTb : ∀ x ∈ XT, -2000000000000 ≤ x ∧ x ≤ 2000000000000 := fun x hx => hXb x (sc (by rwa [eT] at hx))
 refine jl O Z (av ?_)
 refine av ?_
 refine jo O Z (av ?_)
 refine aP (js O Z (jn (ac (ag (j2 O Z Z (cj O Z (js O Z (jf [47,46,12,11,43,9,8,34,33,32,31,30,29,10,7,6,4,3] Z (jn (ah (al (X := Nat) (fun i => ⟨[(3, ptr p.comb), (4, ptr q.comb), (6, .c (.pt 6 0 0)), (8, eI m), (9, eI nn), (11, .c (.pt 11 0 0)), (12, .c (.rs 900 0 i)), (46, eI p.ms.length), (47, eI i)], [(6, .box [.d (.int .i64 0), .d .nils, .d .nils]), (11, .box [.d (.int .i64 C), .rs 44000 0 XT.length]), (44000, bW XT), (900, bW (eW nn m p.ms q.ms i))]⟩) (fun i => i ≤ p.ms.length) (fun i => p.ms.length - i) 0 (((bF 12 900 1 true Z Z).trans (am [6,11,44000,900] (e' := [(3, _), (4, _), (6, _), (8, _), (9, _), (11, _), (12, _), (46, _), (47, _)]) Z Z ⟨Z, Z, Z, Z, Z, Z, Z, Z, Z, trivial⟩ Z)).trans (Ent.to ⟨Z, Z, Z, Z, Z, Z, Z, Z, Z, trivial⟩ Z)) ?_ (fun i hi => ?_))))))))))))
 exact b9 _
 refine ag (js O Z (jn (ac (ae O Z Z (fun hc48 => ?_) (fun hc48 => ?_)))))
 try simp only [ba] at hc48
 refine aj (ac (ah (ag (j2 O Z Z (jn ?_)))))
 have f1 := dS (a := nn) (b := p.ms.getD i default) (by omega) (hpm i)
 have f2 := dS (a := m) (b := q.ms.getD i default) (by omega) (hqm i)
 refine tZ O [_,_,_,_,_,_,_,_,_,_,_,_,_,_,_,_,_,_,_] [pn [] 0 1, pn [] 0 0, pn [] 0 0, pn [2] 0 0, pn [] 0 0, pn [2,3,4] 0 0, pn (rg 2 4) 0 0, pn (rg 1 6) 0 0, pn [] 0 0, pn [] 0 0, pn [9] 0 0, pn [] 0 0, pn [9,10,11] 0 0, pn (rg 9 4) 0 0, pn (rg 8 6) 0 0, pn (rg 1 14) 0 0, pe (rg 1 15) 0, pe (rg 0 17) 1, pn (rg 0 18) 2 2] [16,17] [_,_,_] [[], [900,66]] (ai (ka O Z Z (kw O Z Z)) (ka O Z Z (ka O Z Z (ka O Z Z (ka O Z Z (ai (ai (vN O Z) Z) (ka O Z Z (ai (ai (vF O Z) Z) (ka O Z Z (ka O Z Z (ka O Z Z (ka O Z Z (ai (ai (vN O Z) Z) (ka O Z Z (ai (ai (vF O Z) Z) (ai (ai (vF O Z) Z) (ai (ai (bc (gF O Z Z Z Z Z Z Z Z Z Z Z Z Z)) Z) (ai (ai (dK (zs := (eW nn m p.ms q.ms (i + 1)).map fun n => [.int .i64 n]) (n := i + 1) O Z Z Z Z Z Z Z Z Z Z Z Z Z Z Z Z (.row Z (by simp [aS])) Z Z (by decide) Z (by simp [aS]; omega) (by simp [aS]; omega) (by rw [fD, List.map_append]; rfl) (by simp [aS]) Z) Z) (ka O Z Z trivial))))))))))))))))))) ?_
 refine jw [12,49,48,3,4,6,8,9,11,46,47] Z (dL ?_)
 refine af (ji O Z (js O Z (jn ?_)))
 refine ⟨i + 1, ((am [6,11,44000,67] (e' := [(3, _), (4, _), (6, _), (8, _), (9, _), (11, _), (12, _), (46, _), (47, _)]) Z Z ⟨Z, Z, Z, Z, Z, Z, Z, Z, Z, trivial⟩ Z).trans (au 67 900 Z Z)), by omega, by omega⟩
 try simp only [ba] at hc48
 refine aD (ag ?_)
 obtain rfl : i = p.ms.length := by omega
 obtain ⟨Y, eY⟩ : ∃ Y, Y = eW nn m p.ms q.ms p.ms.length := ⟨_, rfl⟩
 have lYp : Y.length = p.ms.length := by rw [eY, aS]
 have hYb : ∀ x ∈ Y, -2000000000000 ≤ x ∧ x ≤ 2000000000000 := by rw [eY]; exact jE hn0 hm0 hpm hqm
 rw [← eY, ← lYp]
 obtain ⟨G, eG⟩ : ∃ G, G = aE (C :: X ++ Y) := ⟨_, rfl⟩
 have hG : 0 < G ∧ G ≤ 2000000000000 := by rw [eG, eC, eX, eY, em, en]; exact kI hp hq hx hy
 have hq0 := gP (b := (G : Int)) hC
 have hall : ∀ x ∈ C :: XT ++ Y, -4000000000000 ≤ x ∧ x ≤ 4000000000000 := fun x hx => by rcases List.mem_append.1 hx with hx | hx; (rcases List.mem_cons.1 hx with rfl | hx; omega; have := hTb x hx; omega); have := hYb x hx; omega
 refine j2 O Z Z (jf [70,48,3,4,6,8,9,11,12,46,47] Z (AOps.heap (bq O Z Z Z) Z (av ?_)))
 refine av ?_
 refine j2 O Z Z (jf [73,71,48,3,4,6,8,9,11,12,46,47] Z (AOps.heap (aI (own := true) (xs := [[.int .i64 C]]) (ys := XT.map (fun n => [D.int .i64 n])) (zs := (C :: XT).map (fun n => [D.int .i64 n])) (n := (C :: XT).length) O Z Z Z Z Z Z Z Z Z Z Z Z Z Z Z Z (.row Z Z) (.whole Z (bp _).symm (.inl mh)) (by simp) Z (by simp; omega) (by simp; omega) Z (bp _)) Z (av ?_)))
 refine av ?_
 refine js O Z (jf [75,74,48,3,4,6,8,9,11,12,46,47] Z (AOps.heap (aI (own := true) (xs := (C :: XT).map (fun n => [D.int .i64 n])) (ys := Y.map (fun n => [D.int .i64 n])) (zs := (C :: XT ++ Y).map (fun n => [D.int .i64 n])) (n := (C :: XT ++ Y).length) O Z Z Z Z Z Z Z Z Z Z Z Z Z Z Z Z (.row Z (bp _).symm) (.whole Z (bp _).symm (.inl mh)) (by simp) Z (by simp; omega) (by simp; omega) (by rw [← List.map_append]) (bp _)) Z (av ?_)))
 refine av ?_
 refine jf [76,48,3,4,6,8,9,11,12,46,47] Z (ao O Z Z Z Z ((wR (xs := C :: XT ++ Y) h1 h2 hall).plain (u := eI G) (by rw [eT, qT, ← eG])) (.cons (.c (.whole Z (bp _).symm)) .nil) Z Z Z Z Z (B0 := 78000) Z (js O Z (jf [10,48,3,4,6,8,9,11,12,46,47] Z (aP (j3 O Z Z Z (AOps.step (vQ O Z Z Z Z) Z Z Z (js O Z (jf [82,81,10,48,3,4,6,8,9,11,12,46,47] Z (jo O Z (av ?_))))))))))
 refine jf [10,48,3,4,6,8,9,11,12,46,47] Z (jn (ac (ag (j2 O Z Z (bz O Z Z (js O Z (jf [86,85,10,48,3,4,6,8,9,11,12,46,47] Z (jn (ah (al (X := Nat) (fun i => ⟨[(6, .c (.pt 6 0 0)), (10, eI G), (11, .c (.pt 11 0 0)), (12, .c (.rs 900 0 Y.length)), (85, eI XT.length), (86, eI i)], [(6, .box [.d (.int .i64 0), .d .nils, .d .nils]), (11, .box [.d (.int .i64 (C.tdiv G)), .rs 44000 0 XT.length]), (900, bW Y), (44000, bW (j5 XT G i))]⟩) (fun i => i ≤ XT.length) (fun i => XT.length - i) 0 (((am [6,11,900,44000] (e' := [(6, _), (10, _), (11, _), (12, _), (85, _), (86, _)]) Z Z ⟨Z, Z, Z, Z, Z, Z, trivial⟩ Z)).trans (Ent.to ⟨Z, Z, Z, Z, Z, Z, trivial⟩ (by rw [gv]; rfl))) ?_ (fun i hi => ?_)))))))))))
 exact b9 _
 refine ag (js O Z (jn (ac (ae O Z Z (fun hc87 => ?_) (fun hc87 => ?_)))))
 try simp only [ba] at hc87
 refine aj (ac (ah (ag ?_)))
 have hil : i < XT.length := by omega
 have hxi := gP (b := (G : Int)) (hTb _ (kE hil))
 refine j2 O Z Z (jn (af (j3 O Z Z Z (bz O Z Z (AOps.step (aF O (ex := [.int .i64 (XT.getD i default)]) Z Z Z Z (by rw [Nat.zero_add]; exact dx (by omega)) Z) Z Z Z (js O Z (AOps.step (vQ O Z Z Z Z) Z Z Z (bz O Z Z (jf [96,95,88,87,6,10,11,12,85,86] Z (AOps.heap (bt (ex := [.int .i64 (XT.getD i default)]) (xs' := (j5 XT G (i + 1)).map (fun n => [D.int .i64 n])) O Z Z Z Z Z Z Z Z Z Z Z Z Z Z (by rw [Nat.zero_add]; exact dx (by omega)) (by rw [← fC (by omega), List.map_set, Nat.zero_add]; rfl)) Z (av ?_)))))))))))
 refine jf [88,87,6,10,11,12,85,86] Z (jn (af (ji O Z (js O Z (jn ?_)))))
 refine ⟨i + 1, Ent.to ⟨Z, Z, Z, Z, Z, Z, trivial⟩ Z, by omega, by omega⟩
 try simp only [ba] at hc87
 refine aD (ac (ag ?_))
 obtain rfl : i = XT.length := by omega
 rw [gS]
 refine js O Z (bz O Z Z (js O Z (jn (ah (al (X := Nat) (fun j => ⟨[(6, .c (.pt 6 0 0)), (10, eI G), (11, .c (.pt 11 0 0)), (12, .c (.rs 900 0 Y.length)), (99, eI Y.length), (100, eI j)], [(6, .box [.d (.int .i64 0), .d .nils, .d .nils]), (11, .box [.d (.int .i64 (C.tdiv G)), .rs 44000 0 XT.length]), (900, bW (j5 Y G j)), (44000, bW (XT.map fun x => x.tdiv G))]⟩) (fun j => j ≤ Y.length) (fun j => Y.length - j) 0 (((am [6,11,900,44000] (e' := [(6, _), (10, _), (11, _), (12, _), (99, _), (100, _)]) Z Z ⟨Z, Z, Z, Z, Z, Z, trivial⟩ Z)).trans (Ent.to ⟨Z, Z, Z, Z, Z, Z, trivial⟩ (by rw [gv]; rfl))) ?_ (fun j hi => ?_))))))
 exact b9 _
 refine ag (js O Z (jn (ac (ae O Z Z (fun hc101 => ?_) (fun hc101 => ?_)))))
 try simp only [ba] at hc101
 refine aj (ac (ah (ag ?_)))
 have hjl : j < Y.length := by omega
 have hyj := gP (b := (G : Int)) (hYb _ (kE hjl))
 refine j2 O Z Z (jn (af (j2 O Z Z (bz O Z Z (AOps.step (aF O (ex := [.int .i64 (Y.getD j default)]) Z Z Z Z (by rw [Nat.zero_add]; exact dx (by omega)) Z) Z Z Z (js O Z (AOps.step (vQ O Z Z Z Z) Z Z Z (bz O Z Z (jf [109,108,102,101,6,10,11,12,99,100] Z (AOps.heap (bt (ex := [.int .i64 (Y.getD j default)]) (xs' := (j5 Y G (j + 1)).map (fun n => [D.int .i64 n])) O Z Z Z Z Z Z Z Z Z Z Z Z Z Z (by rw [Nat.zero_add]; exact dx (by omega)) (by rw [← fC (by omega), List.map_set, Nat.zero_add]; rfl)) Z (av ?_)))))))))))
 refine jf [102,101,6,10,11,12,99,100] Z (jn (af (ji O Z (js O Z (jn ?_)))))
 refine ⟨j + 1, Ent.to ⟨Z, Z, Z, Z, Z, Z, trivial⟩ Z, by omega, by omega⟩
 try simp only [ba] at hc101
 refine aD (ac ?_)
 cases hb23 : (⟨C.tdiv G, XT.map fun x => x.tdiv G⟩ : Tm).ok with
 | true =>
  obtain rfl : j = Y.length := by omega
  rw [gS]
  refine gY (Ent.freeze 44000 (e' := [(6, _), (11, _), (12, _)]) Z (fe [6,11,12] Z) (.cons Z (.box (fk Z)) (.cons Z (.box (.cons (.keep Z) (.cons (.row Z (by simp)) .nil))) (.cons Z .row (.skip .nil))))) ?_
  refine gY (Ent.freeze 900 (e' := [(6, _), (11, _), (12, _)]) Z (.cons Z (.keep Z) (.cons Z (.keep Z) (.cons Z (.c (.row Z (by simp))) .nil))) (.cons Z (.box (fk Z)) (.cons Z (.box (fk Z)) (.skip .nil)))) ?_
  refine pF O [_,_,_,_,_,_,_,_,_,_,_] [pn [] 0 2, pn [] 0 2, pn [0,1] 0 2, pn [] 0 0, pe [3] 0, pn [3,4] 1 1, pn [3,4,5] 1 1, pe (rg 3 4) 1, pn (rg 3 5) 2 3, pe (rg 0 8) 2, pn (rg 0 10) 3 3] [4,7,9] [_,_,_,_] (ai (kc O Z (kc O Z (V O Z))) (ai (kc O Z (kc O Z (V O Z))) (ai (kc O Z (kc O Z (V O Z))) (kc O Z (ai (bj O (B0 := 116000) Z Z Z Z (nu (t := ⟨C.tdiv G, XT.map fun x => x.tdiv G⟩) h1 h2) (aa Z) Z Z Z Z Z) (ai ((V O Z).cast (v' := eB true) (congrArg eB hb23)) (kc O Z (ai (bj O (B0 := 119000) Z Z Z Z (rz (xs := Y.map fun x => x.tdiv G) h1 h2) (aa Z) Z Z Z Z Z) (ai (ai (bm O Z Z Z Z Z) (bm O Z Z Z Z Z)) (ai (eS O Z Z Z) (kc O Z trivial))))))))))) ?_
  refine jw [7,6,11,12] Z (dL ?_)
  refine fT ?_
  refine ⟨.inl Z, _, ak, _, Z, ?_⟩
  obtain ⟨q1, q2⟩ := nS eG hG.1 lX
  rw [show cv p q k = jv ⟨C, X, Y⟩ G by subst eG; subst eY; subst eX; subst eC; subst em; subst en; rfl, q1, q2, ← eT, hb23, Bool.true_and]
  exact .tup (.cons (.agg (aC Z)) (.cons (.c .d) .nil))
 | false =>
  obtain rfl : j = Y.length := by omega
  rw [gS]
  refine gY (Ent.freeze 44000 (e' := [(6, _), (11, _), (12, _)]) Z (fe [6,11,12] Z) (.cons Z (.box (fk Z)) (.cons Z (.box (.cons (.keep Z) (.cons (.row Z (by simp)) .nil))) (.cons Z .row (.skip .nil))))) ?_
  refine gY (Ent.freeze 900 (e' := [(6, _), (11, _), (12, _)]) Z (.cons Z (.keep Z) (.cons Z (.keep Z) (.cons Z (.c (.row Z (by simp))) .nil))) (.cons Z (.box (fk Z)) (.cons Z (.box (fk Z)) (.skip .nil)))) ?_
  refine pF O [_,_,_,_,_,_,_,_,_,_,_] [pn [] 0 1, pn [] 0 1, pn [0,1] 0 1, pn [] 0 0, pe [3] 0, pn [3,4] 1 1, pn [3,4,5] 0 2, pn (rg 3 4) 0 2, pn (rg 3 5) 1 2, pe (rg 0 8) 1, pn (rg 0 10) 2 2] [4,9] [_,_,_] (ai (kc O Z (V O Z)) (ai (kc O Z (V O Z)) (ai (kc O Z (V O Z)) (kc O Z (ai (bj O (B0 := 116000) Z Z Z Z (nu (t := ⟨C.tdiv G, XT.map fun x => x.tdiv G⟩) h1 h2) (aa Z) Z Z Z Z Z) (ai ((V O Z).cast (v' := eB false) (congrArg eB hb23)) (ai ⟨Z, Z⟩ (ai ⟨Z, Z⟩ (ai (ai (bb O Z Z Z Z Z) (bb O Z Z Z Z Z)) (ai (eS O Z Z Z) (kc O Z trivial))))))))))) ?_
  refine jw [7,6,11,12] Z (dL ?_)
  refine fT ?_
  refine ⟨.inl Z, _, ak, _, Z, ?_⟩
  obtain ⟨q1, q2⟩ := nS eG hG.1 lX
  rw [show cv p q k = jv ⟨C, X, Y⟩ G by subst eG; subst eY; subst eX; subst eC; subst em; subst en; rfl, q1, q2, ← eT, hb23, Bool.false_and]
  exact .tup (.cons (.agg (aC Z)) (.cons (.c .d) .nil))
set_option maxHeartbeats 8000000
abbrev te (rs : List Rw) : A := .c (.d (.slc 3 (rs.map Rw.comb)))
abbrev gm (rs : List Rw) : B := .row false 3 (rs.map Rw.comb)
abbrev wD (z : List Rw × List Rw × Bool) : A := .tup [te z.1, te z.2.1, eB z.2.2]
theorem li {rs : List Rw} {i : Nat} (h : i < rs.length) : (rs.map Rw.comb)[0 + ((i : Nat) : Int).toNat]? = some (rs.getD i default).comb := by
 rw [Nat.zero_add, Int.toNat_natCast, List.getElem?_map, List.getElem?_eq_getElem h, ar h]; rfl
theorem qJ {ts : List Tm} (h : Fs ts) {i : Nat} (hi : i < ts.length) : (mI ts i).comb = [.int .i64 (ts.getD i default).c, dk (ts.getD i default).xs, dk (fu ts.length i)] := by
 have e : (mI ts i).tm = ts.getD i default := tC h hi
 have e1 : aN (mI ts i).xs = (ts.getD i default).xs := congrArg Tm.xs e
 show [D.int .i64 (ts.getD i default).c, dk (aN (mI ts i).xs), dk (fu ts.length i)] = _
 rw [e1]
theorem uw (hf : Fs ts) : MQ h1 h2 68 [bo ts, aQ (fq 10)] [] (Plain (wD (sY ts))) := by
 refine MC.data (jB 120 h1 h2 Try.func68 Z Z Z fun O hF => ?_)
 have hlen := hf.len
 refine ag (j3 O Z Z Z (aP (j2 O Z Z (jn (ac (ag (js O Z (cj O Z (js O Z (jn (ah (al (X := Nat) (fun i => ⟨[(0, bo ts), (1, aQ (fq 10)), (7, .c (.rs 900 0 i)), (8, .c (.d .nils)), (23, bo ts), (24, eI ts.length), (25, eI i)], [(900, gm (c8 ts i))]⟩) (fun i => i ≤ ts.length) (fun i => ts.length - i) 0 ((bF 7 900 3 false Z Z).trans (Ent.to ⟨Z, Z, Z, Z, Z, Z, Z, trivial⟩ Z)) ?_ (fun i hi => ?_)))))))))))))
 exact b9 _
 refine ag (js O Z (jn (ac (ae O Z Z (fun hc26 => ?_) (fun hc26 => ?_)))))
 refine aj (ac (ah (ag ?_)))
 have hil : i < ts.length := by have := cI hc26; omega
 refine js O Z (fR O Z Z (js O Z (jf [29,27,26,0,1,7,8,23,24,25] Z (jl O Z (av ?_)))))
 refine js O Z (jf [9,10,29,26,0,1,7,8,23,24,25] Z (jo O Z (av ?_)))
 refine aP (js O Z (cj O Z (jf [31,9,10,29,26,0,1,7,8,23,24,25] Z (AOps.heap (gX O Z Z Z Z Z Z Z Z Z (by first | omega | (simp at *; omega)) (by first | omega | (simp at *; omega)) (by first | omega | (simp at *; omega)) (by first | omega | (dsimp only; omega) | (simp only [ba] at *; omega)) (by first | omega | (simp at *; omega)) Z Z Z) Z (av ?_)))))
 refine js O Z (jf [11,9,10,29,26,0,1,7,8,23,24,25] Z (aP (j2 O Z Z (bz O Z Z (jf [35,11,10,29,26,0,1,7,8,23,24,25] Z (AOps.heap (bt (ex := [.int .i64 0]) (xs' := (fu ts.length i).map (fun n => [D.int .i64 n])) O Z Z Z Z Z Z Z Z Z Z Z Z Z Z (by rw [Nat.zero_add, Int.toNat_natCast, List.getElem?_replicate, if_pos (by omega)]) nH) Z ?_))))))
 refine av ?_
 refine jn (af (az (Ent.freeze 32 (e' := [(0, _), (1, _), (7, _), (8, _), (10, _), (11, _), (23, _), (24, _), (25, _)]) Z (.cons Z (.keep Z) (.cons Z (.keep Z) (.cons Z (.keep Z) (.cons Z (.keep Z) (.cons Z (.keep Z) (.cons Z (.c (.row Z (by simp [dZ]))) (fe [23,24,25] Z))))))) (.cons Z (.box (fk Z)) (.skip (.cons Z .row .nil)))) ?_))
 refine j4 O Z Z Z Z (jf [39,36,0,1,7,8,10,11,23,24,25] Z (AOps.heap (bd O Z Z Z Z Z Z Z Z Z Z Z) Z (av ?_)))
 refine jf [40,36,0,1,7,8,10,11,23,24,25] Z (AOps.heap (aI (own := false) (xs := (c8 ts i).map Rw.comb) (ys := [[.int .i64 (ts.getD i default).c, dk (ts.getD i default).xs, dk (fu ts.length i)]]) (zs := (c8 ts (i + 1)).map Rw.comb) (n := i + 1) O Z Z Z Z Z Z Z Z Z Z Z Z Z Z Z Z (.row Z (by simp [bf])) (.whole Z Z (.inr ⟨Z, Z⟩)) (by simp) Z (by simp [bf]; omega) (by simp [bf]; omega) (by rw [kd, List.map_append, ← qJ hf hil]; rfl) (by simp [bf])) Z (av ?_))
 refine av ?_
 refine js O Z (jf [7,0,1,8,10,11,23,24,25] Z (jn (af (ji O Z (js O Z (jn ?_))))))
 refine ⟨i + 1, ((am [41] (e' := [(0, _), (1, _), (7, _), (8, _), (23, _), (24, _), (25, _)]) Z Z ⟨Z, Z, Z, Z, Z, Z, Z, trivial⟩ Z).trans (au 41 900 Z Z)), by omega, by omega⟩
 refine aD (ac (ag ?_))
 obtain rfl : i = ts.length := by have := dh hc26; omega
 refine js O Z (cj O Z (js O Z (jn (ah (al (X := Nat × List Rw × List Rw) (fun x => ⟨[(43, aQ (fq 10)), (44, eI (fq 10).length), (45, eI x.1), (7, .c (.rs 900 0 x.2.1.length)), (8, .c (.rs 901 0 x.2.2.length))], [(900, gm x.2.1), (901, gm x.2.2)]⟩) (fun x => x.1 ≤ 10 ∧ ep (10 - x.1) x.1 x.2.1 x.2.2 = bQ ts ∧ AllR ts.length x.2.1 ∧ x.2.1.length ≤ 60 ∧ AllR ts.length x.2.2 ∧ x.2.2.length ≤ 60 * x.1) (fun x => 10 - x.1) (0, ny ts, []) ((bF 8 901 3 false Z Z).trans (Ent.to ⟨Z, Z, Z, congrArg (fun n => some (A.c (.rs 900 0 n))) bf.symm, Z, trivial⟩ Z)) ?_ (fun x hi => ?_))))))
 exact ⟨b9 _, Z, k6 hf, by show (c8 ts ts.length).length ≤ 60; rw [bf]; omega, AllR.nil, b9 _⟩
 refine ag (js O Z (jn (ac (ae O Z Z (fun hc46 => ?_) (fun hc46 => ?_)))))
 refine aj (ac (ah (ag ?_)))
 obtain ⟨hx1, hx2, hx3, hx4, hx5, hx6⟩ := hi
 have hxl : x.1 < 10 := by have := cI hc46; simp only [bT] at this; omega
 obtain ⟨k, ek⟩ : ∃ k, k = x.1 := ⟨_, rfl⟩
 obtain ⟨rs, ers⟩ : ∃ k, k = x.2.1 := ⟨_, rfl⟩
 obtain ⟨NW, eNW⟩ : ∃ k, k = x.2.2 := ⟨_, rfl⟩
 rw [← ek, ← ers, ← eNW] at hx2
 rw [← ers] at hx3 hx4
 rw [← eNW] at hx5 hx6
 rw [← ek] at hx6 hxl
 rw [← ek, ← ers, ← eNW]
 refine AOps.step (aY O Z Z Z Z Z Z Z Z (fi (by rw [bT]; omega))) Z Z Z (AOps.step ((V O Z).cast (v' := eI k) (congrArg eI (sg hxl))) Z Z Z (js O Z (jf [13,46,43,44,45,7,8] Z (aP (js O Z (jn (ac (ag (js O Z (bz O Z Z (js O Z (jn (ah (al (X := Nat) (fun i => ⟨[(43, aQ (fq 10)), (44, eI (fq 10).length), (45, eI k), (7, .c (.rs 900 0 rs.length)), (8, .c (.rs 901 0 NW.length)), (13, eI k), (14, .c (.rs 902 0 (bu k (rs.take i)).length)), (49, .c (.rs 900 0 rs.length)), (50, eI rs.length), (51, eI i)], [(900, gm rs), (901, gm NW), (902, gm (bu k (rs.take i)))]⟩) (fun i => i ≤ rs.length) (fun i => rs.length - i) 0 ((bF 14 902 3 false Z Z).trans (Ent.to ⟨Z, Z, Z, Z, Z, Z, Z, Z, Z, Z, trivial⟩ Z)) ?_ (fun i hi => ?_)))))))))))))))
 exact b9 _
 refine ag (js O Z (jn (ac (ae O Z Z (fun hc52 => ?_) (fun hc52 => ?_)))))
 refine aj (ac (ah (ag ?_)))
 have hil : i < rs.length := by have := cI hc52; omega
 have hget := li hil
 refine bz O Z Z (AOps.step (aF O (ex := (rs.getD i default).comb) Z Z Z Z hget Z) Z Z Z (jf [54,52,43,44,45,7,8,13,14,49,50,51] Z (jl O Z (av ?_))))
 refine jo O Z (av ?_)
 refine aP (j3 O Z Z Z (jf [57,56,16,54,52,43,44,45,7,8,13,14,49,50,51] Z (ao O Z Z Z Z (((nA (t := (rs.getD i default).tm) (k := k) h1 h2).plain (u := eI ((rs.getD i default).xs.getD k default)) (congrArg eI (cB (rs.getD i default).xs k)))) (aa Z) Z Z Z Z Z (B0 := 59000) Z (js O Z (jf [59,16,54,52,43,44,45,7,8,13,14,49,50,51] Z (jn (ae O Z Z (fun hc59 => ?_) (fun hc59 => ?_))))))))
 refine af (j2 O Z Z (AOps.heap (bd O Z Z Z Z Z Z Z Z Z Z Z) Z (av ?_)))
 refine jf [62,60,59,16,54,52,43,44,45,7,8,13,14,49,50,51] Z ?_
 have hki := dF (k := k) (rs := rs.take (i + 1))
 have hkj := dF (k := k) (rs := rs.take i)
 rw [List.length_take] at hki hkj
 refine AOps.heap (aI (own := false) (xs := (bu k (rs.take i)).map Rw.comb) (ys := [Rw.comb (rs.getD i default)]) (zs := (bu k (rs.take (i + 1))).map Rw.comb) (n := (bu k (rs.take (i + 1))).length) O Z Z Z Z Z Z Z Z Z Z Z Z Z Z Z Z (.row Z (bp _).symm) (.whole Z Z (.inr ⟨Z, Z⟩)) (by simp) Z (by simp only [bp, bK, cZ, dp, List.length_nil]; omega) (by simp only [bp, bK, cZ, dp, List.length_nil]; omega) (by rw [qa hil (cI hc59), List.map_append]; rfl) (bp _)) Z (av ?_)
 refine av ?_
 refine js O Z (jf [14,59,16,54,52,43,44,45,7,8,13,49,50,51] Z (jn (af (ji O Z (js O Z (jn ?_))))))
 refine ⟨i + 1, ((am [900,901,63] (e' := [(43, _), (44, _), (45, _), (7, _), (8, _), (13, _), (14, _), (49, _), (50, _), (51, _)]) Z Z ⟨Z, Z, Z, Z, Z, Z, Z, Z, Z, Z, trivial⟩ Z).trans (au 63 902 Z Z)), by omega, by omega⟩
 refine aj (af (ji O Z (js O Z (jn ?_))))
 have hkf := qb (k := k) (i := i) (rs := rs) hil (dh hc59)
 rw [← hkf]
 refine ⟨i + 1, ((am [900,901,902] (e' := [(43, _), (44, _), (45, _), (7, _), (8, _), (13, _), (14, _), (49, _), (50, _), (51, _)]) Z Z ⟨Z, Z, Z, Z, Z, Z, Z, Z, Z, Z, trivial⟩ Z)).trans (Ent.to ⟨Z, Z, Z, Z, Z, Z, Z, Z, Z, Z, trivial⟩ Z), by omega, by omega⟩
 refine aD (ac (ag ?_))
 have hie : i = rs.length := by have := dh hc52; omega
 subst hie
 rw [List.take_length]
 have hkl := dF (k := k) (rs := rs)
 obtain ⟨KP, eK⟩ : ∃ KP, KP = bu k rs := ⟨_, rfl⟩
 rw [← eK]
 rw [← eK] at hkl
 refine js O Z (bz O Z Z (js O Z (jn (ah (al (X := Nat × List Rw) (fun y => ⟨[(43, aQ (fq 10)), (44, eI (fq 10).length), (45, eI k), (7, .c (.rs 900 0 rs.length)), (8, .c (.rs 901 0 (NW ++ y.2).length)), (13, eI k), (14, .c (.rs 902 0 (KP ++ y.2).length)), (65, .c (.rs 900 0 rs.length)), (66, eI rs.length), (67, eI y.1)], [(900, gm rs), (901, gm (NW ++ y.2)), (902, gm (KP ++ y.2))]⟩) (fun y => y.1 ≤ rs.length ∧ mF k KP.length rs (rs.drop y.1) y.2 = mF k KP.length rs rs [] ∧ AllR ts.length y.2 ∧ (KP ++ y.2).length ≤ 60) (fun y => rs.length - y.1) (0, []) (((am [900,901,902] (e' := [(43, _), (44, _), (45, _), (7, _), (8, _), (13, _), (14, _), (65, _), (66, _), (67, _)]) Z Z ⟨Z, Z, Z, Z, Z, Z, Z, Z, Z, Z, trivial⟩ Z)).trans (Ent.to ⟨Z, Z, Z, Z, (by simp only [List.append_nil]; rfl), Z, (by simp only [List.append_nil]; rfl), Z, Z, Z, trivial⟩ (by simp only [List.append_nil]; rfl))) ?_ (fun y hi => ?_))))))
 exact ⟨b9 _, Z, AllR.nil, by rw [List.append_nil]; omega⟩
 refine ag (js O Z (jn (ac (ae O Z Z (fun hc68 => ?_) (fun hc68 => ?_)))))
 refine aj (ac (ah (ag ?_)))
 obtain ⟨hy1, hy2, hy3, hy4⟩ := hi
 have hyl : y.1 < rs.length := by have := cI hc68; omega
 have hget := li hyl
 refine bz O Z Z (AOps.step (aF O (ex := (rs.getD y.1 default).comb) Z Z Z Z hget Z) Z Z Z (jf [70,68,43,44,45,7,8,13,14,65,66,67] Z (jl O Z (av ?_))))
 refine jo O Z (av ?_)
 refine aP (js O Z (bz O Z Z (js O Z (jn (ah (al (X := Nat × List Rw) (fun z => ⟨[(43, aQ (fq 10)), (44, eI (fq 10).length), (45, eI k), (7, .c (.rs 900 0 rs.length)), (8, .c (.rs 901 0 (NW ++ z.2).length)), (13, eI k), (14, .c (.rs 902 0 (KP ++ z.2).length)), (65, .c (.rs 900 0 rs.length)), (66, eI rs.length), (67, eI y.1), (18, .c (.pt 18 0 0)), (71, .c (.rs 900 0 rs.length)), (72, eI rs.length), (73, eI z.1)], [(18, .box ((rs.getD y.1 default).comb.map .d)), (900, gm rs), (901, gm (NW ++ z.2)), (902, gm (KP ++ z.2))]⟩) (fun z => z.1 ≤ rs.length ∧ np (rs.getD y.1 default) k KP.length (rs.drop z.1) z.2 = np (rs.getD y.1 default) k KP.length rs y.2 ∧ AllR ts.length z.2 ∧ (KP ++ z.2).length ≤ 60) (fun z => rs.length - z.1) (0, y.2) (((am [18,900,901,902] (e' := [(43, _), (44, _), (45, _), (7, _), (8, _), (13, _), (14, _), (65, _), (66, _), (67, _), (18, _), (71, _), (72, _), (73, _)]) Z Z ⟨Z, Z, Z, Z, Z, Z, Z, Z, Z, Z, Z, Z, Z, Z, trivial⟩ Z)).trans (Ent.to ⟨Z, Z, Z, Z, Z, Z, Z, Z, Z, Z, Z, Z, Z, Z, trivial⟩ Z)) ?_ (fun z hi => ?_)))))))
 exact ⟨b9 _, Z, hy3, hy4⟩
 refine ag (js O Z (jn (ac (ae O Z Z (fun hc74 => ?_) (fun hc74 => ?_)))))
 refine aj (ac (ah (ag ?_)))
 obtain ⟨hz1, hz2, hz3, hz4⟩ := hi
 have hzl : z.1 < rs.length := by have := cI hc74; omega
 have hgetz := li hzl
 have hpi := hx3.get hyl
 have hqj := hx3.get hzl
 have hkz := hz4
 have hgj := nW (p := (rs.getD y.1 default)) (k := k) (b := KP.length) (rs := rs) (new := z.2) (j := z.1) hzl
 refine bz O Z Z (AOps.step (aF O (ex := (rs.getD z.1 default).comb) Z Z Z Z hgetz Z) Z Z Z (jf [76,74,43,44,45,7,8,13,14,65,66,67,18,71,72,73] Z (jl O Z (av ?_))))
 refine jo O Z (av ?_)
 refine jn (ac (ag (j3 O Z Z Z (jf [79,78,20,76,74,43,44,45,7,8,13,14,65,66,67,18,71,72,73] Z (ao O Z Z Z Z (((nA (t := (rs.getD y.1 default).tm) (k := k) h1 h2).plain (u := eI ((rs.getD y.1 default).xs.getD k default)) (congrArg eI (cB (rs.getD y.1 default).xs k)))) (aa Z) Z Z Z Z Z (B0 := 81000) Z (j2 O Z Z (jf [82,20,76,74,43,44,45,7,8,13,14,65,66,67,18,71,72,73] Z (aB 5 Z Z Z (fun hx => AN.step hx Z Z Z (V O Z) Z Z ( AN.step hx Z Z Z (V O Z) Z Z ( AN.step hx Z Z Z (V O Z) Z Z ( bl O hx Z Z Z Z (((nA (t := (rs.getD z.1 default).tm) (k := k) h1 h2).plain (u := eI ((rs.getD z.1 default).xs.getD k default)) (congrArg eI (cB (rs.getD z.1 default).xs k)))) (aa Z) Z Z Z Z Z Z Z (B0 := 87000) Z ( AN.step hx Z Z Z (V O Z) Z Z ( AN.nil)))))) Z Z (AOps.step (ay O Z Z Z Z Z) Z Z Z (jf [88,20,76,74,43,44,45,7,8,13,14,65,66,67,18,71,72,73] Z (jn (ae O Z Z (fun hc88 => ?_) (fun hc88 => ?_)))))))))))))
 refine aD (af (ji O Z (js O Z (jn ?_))))
 rw [if_pos (wl hc88)] at hgj
 refine ⟨(z.1 + 1, z.2), ((am [18,900,901,902] (e' := [(43, _), (44, _), (45, _), (7, _), (8, _), (13, _), (14, _), (65, _), (66, _), (67, _), (18, _), (71, _), (72, _), (73, _)]) Z Z ⟨Z, Z, Z, Z, Z, Z, Z, Z, Z, Z, Z, Z, Z, Z, trivial⟩ Z)).trans (Ent.to ⟨Z, Z, Z, Z, Z, Z, Z, Z, Z, Z, Z, Z, Z, Z, trivial⟩ Z), ⟨by show z.1 + 1 ≤ _; omega, hgj.symm.trans hz2, hz3, hz4⟩, by show rs.length - (z.1 + 1) < rs.length - z.1; omega⟩
 refine aj (ag ?_)
 have hcc := wm hc88
 rw [if_neg hcc] at hgj
 have hpk : 0 < (rs.getD y.1 default).xs.getD k default := by omega
 have hqk : (rs.getD z.1 default).xs.getD k default < 0 := by omega
 refine j3 O Z Z Z (ab O Z Z Z Z (w7 (n := ts.length) (p := (rs.getD y.1 default)) (q := (rs.getD z.1 default)) (k := k) h1 h2 hpi hqj hxl hpk hqk (by omega)) (aa Z) Z Z Z Z (B0 := 94000) Z Z (j3 O Z Z Z (jf [95,94,88,20,76,74,43,44,45,7,8,13,14,65,66,67,18,71,72,73] Z (jl O Z (av ?_)))))
 refine jo O Z (av ?_)
 refine js O Z (jf [22,21,88,20,76,74,43,44,45,7,8,13,14,65,66,67,18,71,72,73] Z (jn (ac (ag (j3 O Z Z Z (jf [98,21,88,20,76,74,43,44,45,7,8,13,14,65,66,67,18,71,72,73] Z (aB 3 Z Z Z (fun hx => AN.step hx Z Z Z (V O Z) Z Z ( AN.step hx Z Z Z (vI O Z Z) Z Z ( AN.step hx Z Z Z (V O Z) Z Z ( AN.nil)))) Z Z (AOps.step (ay O Z Z Z Z Z) Z Z Z (jf [102,21,88,20,76,74,43,44,45,7,8,13,14,65,66,67,18,71,72,73] Z (jn (ae O Z Z (fun hc102 => ?_) (fun hc102 => ?_))))))))))))
 refine ag (j3 O Z Z Z (jr ?_))
 refine ⟨.inl Z, _, ak, _, Z, ?_⟩
 have hno9 := ug hc102
 have hno : ¬ (pE (cv (rs.getD y.1 default) (rs.getD z.1 default) k) = true ∧ KP.length + z.2.length ≠ 60) := fun h => hno9 ⟨h.1, by rw [bK]; exact h.2⟩
 rw [if_neg hno] at hgj
 have hgi := i6 (k := k) (b := KP.length) (rs := rs) (new := y.2) (i := y.1) hyl
 rw [← hz2, hgj] at hgi
 have hs : cO k rs = none := by show mF k (bu k rs).length rs rs [] = none; rw [← eK, ← hy2]; exact hgi
 have he : bQ ts = none := by rw [← hx2, show 10 - k = (10 - (k + 1)) + 1 by omega, f9 hs]
 rw [lm he]
 exact .tup (.cons (.c .nils) (.cons (.c .nils) (.cons (.c .d) .nil)))
 refine aj (ag ?_)
 have hyes9 := uh hc102
 have hyes : pE (cv (rs.getD y.1 default) (rs.getD z.1 default) k) = true ∧ KP.length + z.2.length ≠ 60 := ⟨hyes9.1, by have := hyes9.2; rwa [bK] at this⟩
 have hk59 : KP.length + z.2.length ≤ 60 := by rw [← bK]; exact hkz
 refine j2 O Z Z (AOps.heap (bd O Z Z Z Z Z Z Z Z Z Z Z) Z (av ?_))
 refine jf [105,103,102,21,88,20,76,74,43,44,45,7,8,13,14,65,66,67,18,71,72,73] Z (AOps.heap (aI (own := false) (xs := (KP ++ z.2).map Rw.comb) (ys := [Rw.comb (cv (rs.getD y.1 default) (rs.getD z.1 default) k)]) (zs := (KP ++ (z.2 ++ [cv (rs.getD y.1 default) (rs.getD z.1 default) k])).map Rw.comb) (n := (KP ++ (z.2 ++ [cv (rs.getD y.1 default) (rs.getD z.1 default) k])).length) O Z Z Z Z Z Z Z Z Z Z Z Z Z Z Z Z (.row Z (bp _).symm) (.whole Z Z (.inr ⟨Z, Z⟩)) (by simp) Z (by simp only [bp, bK, cZ, dp, List.length_nil]; omega) (by simp only [bp, bK, cZ, dp, List.length_nil]; omega) (by rw [← ef, List.map_append (l₁ := KP ++ z.2)]; rfl) (bp _)) Z (av ?_))
 refine av ?_
 refine js O Z (jf [14,102,21,88,20,76,74,43,44,45,7,8,13,65,66,67,18,71,72,73] Z (jn (af (j2 O Z Z (AOps.heap (bd O Z Z Z Z Z Z Z Z Z Z Z) Z (av ?_))))))
 refine jf [109,107,14,102,21,88,20,76,74,43,44,45,7,8,13,65,66,67,18,71,72,73] Z (AOps.heap (aI (own := false) (xs := (NW ++ z.2).map Rw.comb) (ys := [Rw.comb (cv (rs.getD y.1 default) (rs.getD z.1 default) k)]) (zs := (NW ++ (z.2 ++ [cv (rs.getD y.1 default) (rs.getD z.1 default) k])).map Rw.comb) (n := (NW ++ (z.2 ++ [cv (rs.getD y.1 default) (rs.getD z.1 default) k])).length) O Z Z Z Z Z Z Z Z Z Z Z Z Z Z Z Z (.row Z (bp _).symm) (.whole Z Z (.inr ⟨Z, Z⟩)) (by simp) Z (by simp only [bp, bK, cZ, dp, List.length_nil]; omega) (by simp only [bp, bK, cZ, dp, List.length_nil]; omega) (by rw [← ef, List.map_append (l₁ := NW ++ z.2)]; rfl) (bp _)) Z (av ?_))
 refine av ?_
 refine js O Z (jf [8,14,102,21,88,20,76,74,43,44,45,7,13,65,66,67,18,71,72,73] Z (jn (af (ji O Z (js O Z (jn ?_))))))
 rw [if_pos hyes] at hgj
 refine ⟨(z.1 + 1, z.2 ++ [cv (rs.getD y.1 default) (rs.getD z.1 default) k]), ((((am [18,900,110,106] (e' := [(43, _), (44, _), (45, _), (7, _), (8, _), (13, _), (14, _), (65, _), (66, _), (67, _), (18, _), (71, _), (72, _), (73, _)]) Z Z ⟨Z, Z, Z, Z, Z, Z, Z, Z, Z, Z, Z, Z, Z, Z, trivial⟩ Z).trans (au 110 901 Z Z)).trans (au 106 902 Z Z))).trans (Ent.to ⟨Z, Z, Z, Z, Z, Z, Z, Z, Z, Z, Z, Z, Z, Z, trivial⟩ Z), ⟨by show z.1 + 1 ≤ _; omega, hgj.symm.trans hz2, hz3.snoc (mO hpi hqj hpk hqk hyes.1), by rw [bK] at hkz ⊢; rw [bK, cZ]; omega⟩, by show rs.length - (z.1 + 1) < rs.length - z.1; omega⟩
 refine aD (af (ji O Z (js O Z (jn ?_))))
 obtain ⟨hz1, hz2, hz3, hz4⟩ := hi
 have hze : rs.length ≤ z.1 := by have := dh hc74; omega
 rw [qc hze] at hz2
 have hgi := i6 (k := k) (b := KP.length) (rs := rs) (new := y.2) (i := y.1) hyl
 rw [← hz2] at hgi
 refine ⟨(y.1 + 1, z.2), ((am [900,901,902] (e' := [(43, _), (44, _), (45, _), (7, _), (8, _), (13, _), (14, _), (65, _), (66, _), (67, _)]) Z Z ⟨Z, Z, Z, Z, Z, Z, Z, Z, Z, Z, trivial⟩ Z)).trans (Ent.to ⟨Z, Z, Z, Z, Z, Z, Z, Z, Z, Z, trivial⟩ Z), ⟨by show y.1 + 1 ≤ _; omega, hgi.symm.trans hy2, hz3, hz4⟩, by show rs.length - (y.1 + 1) < rs.length - y.1; omega⟩
 refine aD (ac (ag ?_))
 have hk60 := hi.2.2.2
 refine js O Z (bz O Z Z (js O Z (jf [115,68,43,44,45,7,8,13,14,65,66,67] Z (jn (ae O Z Z (fun hc115 => ?_) (fun hc115 => ?_))))))
 exact absurd (cI hc115) (by omega)
 refine aj (af (j2 O Z Z (jn (af (ji O Z (js O Z (jn ?_)))))))
 obtain ⟨hy1, hy2, hy3, hy4⟩ := hi
 have hye : rs.length ≤ y.1 := by have := dh hc68; omega
 rw [qe hye] at hy2
 have hs : cO k rs = some y.2 := by show mF k (bu k rs).length rs rs [] = _; rw [← eK]; exact hy2.symm
 have hso := jL hx3 hx4 hs
 subst eK
 refine ⟨(k + 1, bu k rs ++ y.2, NW ++ y.2), ((((am [902,901] (e' := [(43, _), (44, _), (45, _), (7, _), (8, _)]) Z Z ⟨Z, Z, Z, Z, Z, trivial⟩ Z).trans (au 902 900 Z Z))).trans (Ent.to ⟨Z, Z, Z, Z, Z, trivial⟩ Z)), ⟨by show k + 1 ≤ 10; omega, ?_, hso.1, hso.2.1, hx5.app hso.2.2.1, ?_⟩, ?_⟩
 show ep (10 - (k + 1)) (k + 1) _ _ = _
 rw [← hx2, show 10 - k = (10 - (k + 1)) + 1 by omega, f8 hs]
 show (NW ++ y.2).length ≤ 60 * (k + 1)
 have := hso.2.2.2; rw [bK]; omega
 show 10 - (k + 1) < 10 - k; omega
 refine aD (ag (j4 O Z Z Z Z (js O Z (jf [6,5,4,46,43,44,45,7,8] Z (jr ?_)))))
 refine ⟨.inl Z, _, ak, _, Z, ?_⟩
 obtain ⟨hx1, hx2, hx3, hx4, hx5, hx6⟩ := hi
 have hxe : x.1 = 10 := by have := dh hc46; simp only [bT] at this; omega
 rw [hxe] at hx2
 have he : bQ ts = some x.2 := hx2.symm
 rw [eF he]
 exact .tup (.cons (.c (.whole Z (bp _).symm)) (.cons (.c (.whole Z (bp _).symm)) (.cons (.c .d) .nil)))
theorem um {L : Nat} (h1 : 4096 ≤ L) (h2 : L ≤ 1073741824) {ts : List Tm} {t : Tm} (h0 : 0 < ts.length) (hl : ts.length ≤ 1000) : MC Try.prog L 66 [bo ts, dn t] [] (Plain (bo (ts ++ [t]))) := by
 cases ts with
 | nil => exact absurd h0 (by decide)
 | cons c r => exact s9 (c := c) (r := r) (t := t) h1 h2 hl
def rk (ts : List Tm) : Tm × Rw × Bool := match cG ts with
  | none => (⟨0, []⟩, ⟨0, [], []⟩, false)
  | some r => ((an ts r.tm).1, r, true)
abbrev wC (z : Tm × Rw × Bool) : A := .tup [dn z.1, vZ z.2.1, eB z.2.2]
theorem ja {ts : List Tm} (h : cG ts = none) : rk ts = (⟨0, []⟩, ⟨0, [], []⟩, false) := by unfold rk; rw [h]
theorem i9 {ts : List Tm} {r : Rw} (h : cG ts = some r) : rk ts = ((an ts r.tm).1, r, true) := by unfold rk; rw [h]
theorem va {ts : List Tm} (h : Fs ts) : (rk ts).1.ok = true := by
 cases hc : cG ts with
 | none => rw [ja hc]; decide
 | some r => rw [i9 hc]; exact b0 (fd h hc).2
theorem xg (hf : Fs ts) : MQ h1 h2 42 [bo ts] [] (Plain (rF (bO ts))) := by
 refine MC.data (jB 35 h1 h2 Try.func42 Z Z Z fun O hF => ?_)
 refine ag (j2 O Z Z (jn (ac (ag (js O Z (ao O Z Z Z Z ((xb (ts := ts) h1 h2).plain (u := eB true) (congrArg eB hf.all)) (aa Z) Z Z Z Z Z (B0 := 11000) Z (js O Z (jf [11,3,2,0] Z (jn (ae O Z Z (fun hc11 => ?_) (fun hc11 => ?_)))))))))))
 exact absurd hc11 (by decide)
 refine aj (ag (js O Z (jf [13,3,2,0] Z (ab O Z Z Z Z (uv (n := 10) h1 h2 (by omega)) (aa Z) Z Z Z Z (B0 := 15000) Z Z (ab O Z Z Z Z (uw (ts := ts) h1 h2 hf) (aa Z) Z Z Z Z (B0 := 16000) Z Z (j4 O Z Z Z Z (j3 O Z Z Z (jf [6,4,3,2,0] Z (jn (ac (ag (j2 O Z Z (jf [20,4,3,2,0] Z (jn (ae O Z Z (fun hc20 => ?_) (fun hc20 => ?_))))))))))))))))
 refine ag (j2 O Z Z (jr ?_))
 refine ⟨.inl Z, _, ak, _, Z, ?_⟩
 rw [p8 (pN (vL hc20))]
 exact .tup (.cons (.c .nils) (.cons (.c .d) .nil))
 refine aj (ac (ag ?_))
 obtain ⟨z, hz⟩ := pM (ts := ts) (sX hc20)
 rw [eF hz]
 obtain ⟨ha, hal, hb, hbl⟩ := fF hf (a := z.1) (b := z.2) hz
 refine js O Z (cj O Z (js O Z (jf [23,22,21,3,2,0] Z (jn (ah (al (X := Nat) (fun i => ⟨[(21, te z.1), (22, eI z.1.length), (23, eI i)], []⟩) (fun i => i ≤ z.1.length ∧ eo (z.1.drop i) = eo z.1) (fun i => z.1.length - i) 0 (Ent.to ⟨Z, Z, Z, trivial⟩ Z) ?_ (fun i hi => ?_)))))))
 exact ⟨b9 _, Z⟩
 refine ag (js O Z (jn (ac (ae O Z Z (fun hc24 => ?_) (fun hc24 => ?_)))))
 refine aj (ac (ah (ag ?_)))
 have hil : i < z.1.length := by have := cI hc24; omega
 have hfc := lH (rs := z.1) hil
 refine AOps.step (aY O Z Z Z Z Z Z Z Z (fi hil)) Z Z Z (js O Z (jf [26,24,21,22,23] Z (jl O Z (av ?_))))
 refine jo O Z (av ?_)
 refine aP (j4 O Z Z Z Z (jf [30,8,26,24,21,22,23] Z (jn (ae O Z Z (fun hc30 => ?_) (fun hc30 => ?_)))))
 refine ag (j2 O Z Z (jf [32,30,8,26,24,21,22,23] Z (ab O Z Z Z Z (uo (xs := (z.1.getD i default).ms) h1 h2) (aa Z) Z Z Z Z (B0 := 34000) Z Z (j2 O Z Z (jf [3,2,30,8,26,24,21,22,23] Z (jr ?_))))))
 refine ⟨.inl Z, _, ak, _, Z, ?_⟩
 rw [if_pos (cI hc30), hi.2] at hfc
 rw [rR hz hfc]
 exact .tup (.cons (.c .d) (.cons (.c .d) .nil))
 refine aj (af (ji O Z (js O Z (jn ?_))))
 rw [if_neg (dh hc30)] at hfc
 refine ⟨i + 1, ((am [] (e' := [(21, _), (22, _), (23, _)]) Z Z ⟨Z, Z, Z, trivial⟩ Z).trans ak), ⟨by omega, hfc.symm.trans hi.2⟩, by omega⟩
 refine aD (ag (j2 O Z Z (jr ?_)))
 refine ⟨.inl Z, _, ak, _, Z, ?_⟩
 have hle : z.1.length ≤ i := by have := dh hc24; omega
 have h9 := hi.2
 rw [ml hle] at h9
 rw [rS hz h9.symm]
 exact .tup (.cons (.c .nils) (.cons (.c .d) .nil))
theorem xf (hf : Fs ts) : MQ h1 h2 43 [bo ts] [] (Plain (wC (rk ts))) := by
 refine MC.data (jB 42 h1 h2 Try.func43 Z Z Z fun O hF => ?_)
 refine ag (jl O Z (av ?_))
 refine jl O Z (av ?_)
 refine js O Z (aP (js O Z (ab O Z Z Z Z (uv (n := 10) h1 h2 (by omega)) (aa Z) Z Z Z Z (B0 := 15000) Z Z (ab O Z Z Z Z (uw (ts := ts) h1 h2 hf) (aa Z) Z Z Z Z (B0 := 16000) Z Z (j4 O Z Z Z Z (j3 O Z Z Z (jf [7,6,4,3,2,0] Z (jn (ac (ag (j2 O Z Z (jf [20,6,4,3,2,0] Z (jn (ae O Z Z (fun hc20 => ?_) (fun hc20 => ?_)))))))))))))))
 refine ag (j2 O Z Z (jf [22,21,6,4,3,2,0] Z (jo O Z (av ?_))))
 refine jf [22,6,4,3,2,0] Z (jo O Z (av ?_))
 refine js O Z (jr ?_)
 refine ⟨.inl Z, _, ak, _, Z, ?_⟩
 rw [ja (qh (pN (vL hc20)))]
 exact .tup (.cons (.agg (.cons .d (.cons .nils .nil))) (.cons (.agg (.cons .d (.cons .nils (.cons .nils .nil)))) (.cons (.c .d) .nil)))
 refine aj (ac (ag ?_))
 obtain ⟨z, hz⟩ := pM (ts := ts) (sX hc20)
 rw [eF hz]
 obtain ⟨ha, hal, hb, hbl⟩ := fF hf (a := z.1) (b := z.2) hz
 refine js O Z (cj O Z (js O Z (jf [25,24,23,4,3,2,0] Z (jn (ah (al (X := Nat) (fun i => ⟨[(0, bo ts), (2, .c (.pt 2 0 0)), (3, .c (.pt 3 0 0)), (23, te z.2), (24, eI z.2.length), (25, eI i)], [(2, .box [.d (.int .i64 0), .d .nils]), (3, .box [.d (.int .i64 0), .d .nils, .d .nils])]⟩) (fun i => i ≤ z.2.length ∧ gl ts (z.2.drop i) = gl ts z.2) (fun i => z.2.length - i) 0 (Ent.to ⟨Z, Z, Z, Z, Z, Z, trivial⟩ Z) ?_ (fun i hi => ?_)))))))
 exact ⟨b9 _, Z⟩
 refine ag (js O Z (jn (ac (ae O Z Z (fun hc26 => ?_) (fun hc26 => ?_)))))
 refine aj (ac (ah (ag ?_)))
 have hil : i < z.2.length := by have := cI hc26; omega
 have hfc := lI (ts := ts) (rs := z.2) hil
 have hro := hb.get hil
 refine AOps.step (aY O Z Z Z Z Z Z Z Z (fi hil)) Z Z Z (js O Z (jf [28,26,0,2,3,23,24,25] Z (jl O Z (av ?_))))
 refine jo O Z (av ?_)
 refine aP (j3 O Z Z Z (jf [32,31,9,28,26,0,2,3,23,24,25] Z (ab O Z Z Z Z (uz (ts := ts) (t := (z.2.getD i default).tm) h1 h2 hro.tm) (aa Z) Z Z Z Z (B0 := 34000) Z Z (j3 O Z Z Z (jf [35,34,9,28,26,0,2,3,23,24,25] Z (jl O Z (av ?_)))))))
 refine jo O Z (av ?_)
 refine js O Z (jf [11,10,9,28,26,0,2,3,23,24,25] Z (aP (js O Z (jn (ae O Z Z (fun hc36 => ?_) (fun hc36 => ?_))))))
 refine ac (j7 O [_,_,_,_,_] [pn [] 0 0, pn [] 0 1, pe [0] 0, pe [0,1,2] 1, pn (rg 0 4) 2 2] [2,3] [_,_,_] (kc O Z (ai (kc O Z (V O Z)) (ai (eS O Z Z Z) (ai (eS O Z Z Z) (kc O Z trivial))))) ?_)
 refine jw [4,36,11,10,9,28,26,0,2,3,23,24,25] Z (dL ?_)
 refine fT ?_
 refine ⟨.inl Z, _, ak, _, Z, ?_⟩
 rw [if_pos hc36, hi.2, ← kL hz] at hfc
 rw [i9 hfc]
 exact .tup (.cons (.agg (aC Z)) (.cons (.agg (aC Z)) (.cons (.c .d) .nil)))
 refine aj (af (ji O Z (js O Z (jn ?_))))
 rw [if_neg (by rw [hc36]; decide)] at hfc
 refine ⟨i + 1, ((am [2,3] (e' := [(0, _), (2, _), (3, _), (23, _), (24, _), (25, _)]) Z Z ⟨Z, Z, Z, Z, Z, Z, trivial⟩ Z).trans ak), ⟨by omega, hfc.symm.trans hi.2⟩, by omega⟩
 refine aD (ag (j2 O Z Z (jo O Z (av ?_))))
 refine jf [41,26,0,2,3,23,24,25] Z (jo O Z (av ?_))
 refine js O Z (jr ?_)
 refine ⟨.inl Z, _, ak, _, Z, ?_⟩
 have hle : z.2.length ≤ i := by have := dh hc26; omega
 have h9 := hi.2
 rw [mn hle, ← kL hz] at h9
 rw [ja h9.symm]
 exact .tup (.cons (.agg (.cons .d (.cons .nils .nil))) (.cons (.agg (.cons .d (.cons .nils (.cons .nils .nil)))) (.cons (.c .d) .nil)))
abbrev el (b : Int) (s : Wk) (l : Nat) : B := .box [.d (.int .i64 b), .rs l 0 s.1.length, .d (.bool s.2)]
theorem t4 {b : Int} {s : Wk} {n : Nd} (h : decide ((s.1.length : Int) = b) = true) : eV b s n = (s.1, true) := if_pos (.inl (cI h))
theorem t6 {b : Int} {s : Wk} {n : Nd} (h : (!(n.mul.all co)) = true) : eV b s n = (s.1, true) := if_pos (.inr (by simpa using h))
theorem t5 {b : Int} {s : Wk} {n : Nd} (h : decide ((s.1.length : Int) = b) = false) (h2 : (!(n.mul.all co)) = false) : eV b s n = (s.1 ++ [n], s.2) := if_neg (by
  rintro (h3 | h3)
  · exact dh h h3
  · rw [h3] at h2; cases h2)
variable {b : Int}
theorem rK {s : Wk} {n : Nd} {x y : D} (hx : VM [] (.d x) (.d (dk n.term.xs))) (hy : VM [] (.d y) (.d (dk n.mul))) (hl : s.1.length ≤ 1000) : MQ h1 h2 40 [.c (.pt 0 0 0), .agg [.d (.int .i64 n.kind), .d (.int .i64 n.fact), .d (.int .i64 n.term.c), .d x, .d y]] [(0, el b s 1), (1, bH s.1)] (bR (.tup []) [(0, el b (eV b s n) 2), (2, bH (eV b s n).1)]) := by
 refine MC.shift 500 Z (jH 34 [500,501] h1 h2 Try.func40 Z Z Z Z fun O hF => ?_)
 refine ag (jx O Z (av ?_))
 refine az (Ent.freeze 3 (e' := [(3, _), (0, _)]) Z (.cons Z (.c (.box (cs := Nd.cells n) Z (.cons .d (.cons .d (.cons .d (.cons hx (.cons hy .nil))))))) (fe [0] Z)) (.skip (.cons Z (.box (fk Z)) (.cons Z .row .nil)))) ?_
 refine av ?_
 refine jn (ac (ac ?_))
 cases hb1 : decide ((s.1.length : Int) = b) with
 | true =>
  refine pF O [_,_,_,_,_,_,_,_,_,_,_,_,_,_,_,_,_] [pn [] 0 0, pn [0] 0 0, pn [0,1] 0 0, pn [0,1,2] 0 0, pn (rg 0 4) 0 0, pe (rg 0 5) 0, pn [] 0 1, pn [6] 0 1, pn [6,7] 0 1, pn [6,7,8] 0 1, pn (rg 0 10) 1 1, pn (rg 0 11) 1 1, pn (rg 0 12) 0 1, pn (rg 0 13) 0 1, pn (rg 0 14) 0 1, pn (rg 0 15) 0 1, pn (rg 0 16) 1 1] [5] [_,_] (kc O Z (kc O Z (kc O Z (kc O Z (ai (vI O Z Z) (ai (bj O (B0 := 10000) Z Z Z Z (rA (n := s.1.length) h1 h2) (aa Z) Z Z Z Z Z) (ai (kc O Z (V O Z)) (ai (kc O Z (V O Z)) (ai (kc O Z (V O Z)) (ai (kc O Z (V O Z)) (kc O Z (ai ((V O Z).cast (v' := eB true) (congrArg eB hb1)) (ai ⟨Z, Z⟩ (ai ⟨Z, Z⟩ (ai ⟨Z, Z⟩ (ai ⟨Z, Z⟩ (ai (bm O Z Z Z Z Z) trivial))))))))))))))))) ?_
  refine jw [20,3,0] Z (dL ?_)
  refine ae O Z Z (fun hc20 => ?_) (fun hc20 => ?_)
  refine ag (j3 O Z Z Z (jf [23,3,0] Z (jo O Z (av ?_))))
  refine jr ?_
  rw [t4 hb1]
  refine ⟨.inl Z, _, ((am [500,501] (e' := []) Z Z trivial Z).trans (au 501 502 Z Z)), _, Z, Z, Z⟩
  cases hc20
 | false =>
  refine pF O [_,_,_,_,_,_,_,_,_,_,_,_,_,_,_,_,_] [pn [] 0 0, pn [0] 0 0, pn [0,1] 0 0, pn [0,1,2] 0 0, pn (rg 0 4) 0 0, pe (rg 0 5) 0, pn [] 0 1, pn [6] 0 1, pn [6,7] 0 1, pn [6,7,8] 0 1, pn (rg 0 10) 1 1, pn (rg 0 11) 1 1, pn (rg 0 12) 1 1, pn (rg 0 13) 1 1, pe (rg 0 14) 1, pn (rg 0 15) 2 2, pn (rg 0 16) 2 2] [5,14] [_,_,_] (kc O Z (kc O Z (kc O Z (kc O Z (ai (vI O Z Z) (ai (bj O (B0 := 10000) Z Z Z Z (rA (n := s.1.length) h1 h2) (aa Z) Z Z Z Z Z) (ai (kc O Z (V O Z)) (ai (kc O Z (V O Z)) (ai (kc O Z (V O Z)) (ai (kc O Z (V O Z)) (kc O Z (ai ((V O Z).cast (v' := eB false) (congrArg eB hb1)) (kc O Z (kc O Z (ai (bj O (B0 := 19000) Z Z Z Z (rz (xs := Nd.mul n) h1 h2) (aa Z) Z Z Z Z Z) (kc O Z (ai (bb O Z Z Z Z Z) trivial))))))))))))))))) ?_
  refine jw [20,3,0] Z (dL ?_)
  refine ae O Z Z (fun hc20 => ?_) (fun hc20 => ?_)
  refine ag (j3 O Z Z Z (jf [23,3,0] Z (jo O Z (av ?_))))
  refine jr ?_
  rw [t6 hc20]
  refine ⟨.inl Z, _, ((am [500,501] (e' := []) Z Z trivial Z).trans (au 501 502 Z Z)), _, Z, Z, Z⟩
  refine aj (jw [3,0] Z (tZ O [_,_,_,_,_,_,_,_,_,_,_] [pn [] 0 2, pn [] 0 1, pn [1] 0 1, pn [1,2] 0 1, pn [1,2,3] 0 1, pn [] 0 0, pe [5] 0, pe (rg 1 6) 1, pn (rg 0 8) 2 2, pn (rg 0 9) 2 2, pe (rg 0 10) 2] [6,7,10] [_,_,_,_] [[], [501], []] (ai (ka O Z Z (ka O Z Z (kw O Z Z))) (ai (ka O Z Z (kw O Z Z)) (ai (ka O Z Z (kw O Z Z)) (ai (ka O Z Z (kw O Z Z)) (ai (ka O Z Z (kw O Z Z)) (ka O Z Z (ai (ai (bc (df O Z Z Z Z Z Z Z Z Z Z Z Z Z Z)) Z) (ai (ai (cX (own := false) (xs := s.1.map Nd.cells) (ys := [Nd.cells n]) (zs := (s.1 ++ [n]).map Nd.cells) (n := (s.1 ++ [n]).length) O Z Z Z Z Z Z Z Z Z Z Z Z Z Z Z Z (.row Z (bp _).symm) (.whole Z Z (.inr ⟨Z, Z⟩)) (by simp) Z (by simp only [bp, bK, cZ, dp, List.length_nil]; omega) (by simp only [bp, bK, cZ, dp, List.length_nil]; omega) (by simp) (bp _) Z) Z) (ka O Z Z (ka O Z Z (ai (ai (bc (eS O Z Z Z)) Z) trivial))))))))))) ?_))
  show _ ∧ _
  rw [t5 hb1 hc20]
  refine ⟨.inr Z, _, ((am [500,31] (e' := []) Z Z trivial Z).trans (au 31 502 Z Z)), _, Z, Z, Z⟩
theorem vz {s : Wk} (hl : s.1.length ≤ 1000) : MQ h1 h2 40 [.c (.pt 0 0 0), .agg [.d (.int .i64 1), .d (.int .i64 0), .d (.int .i64 0), .d .nils, .rs 2 0 ms.length]] [(0, el b s 1), (1, bH s.1), (2, bW ms)] (bR (.tup []) [(0, el b (eV b s (bA ms)) 3), (3, bH (eV b s (bA ms)).1)]) := by
 refine MC.shift 500 Z (jH 34 [500,501,502] h1 h2 Try.func40 Z Z Z Z fun O hF => ?_)
 refine ag (jx O Z (av ?_))
 refine az (Ent.freeze 502 (e' := [(3, _), (0, _)]) Z (fe [3,0] Z) (.cons Z (.box (.cons (.keep Z) (.cons (.keep Z) (.cons (.keep Z) (.cons (.keep Z) (.cons (.row Z (bp _).symm) .nil)))))) (.cons Z (.box (fk Z)) (.cons Z .row (.skip .nil))))) ?_
 refine az (Ent.freeze 3 (e' := [(3, _), (0, _)]) Z (.cons Z (.c (.box (cs := Nd.cells (bA ms)) Z (.cons .d (.cons .d (.cons .d (.cons .nils (.cons .d .nil))))))) (fe [0] Z)) (.skip (.cons Z (.box (fk Z)) (.cons Z .row .nil)))) ?_
 refine av ?_
 refine jn (ac (ac ?_))
 cases hb1 : decide ((s.1.length : Int) = b) with
 | true =>
  refine pF O [_,_,_,_,_,_,_,_,_,_,_,_,_,_,_,_,_] [pn [] 0 0, pn [0] 0 0, pn [0,1] 0 0, pn [0,1,2] 0 0, pn (rg 0 4) 0 0, pe (rg 0 5) 0, pn [] 0 1, pn [6] 0 1, pn [6,7] 0 1, pn [6,7,8] 0 1, pn (rg 0 10) 1 1, pn (rg 0 11) 1 1, pn (rg 0 12) 0 1, pn (rg 0 13) 0 1, pn (rg 0 14) 0 1, pn (rg 0 15) 0 1, pn (rg 0 16) 1 1] [5] [_,_] (kc O Z (kc O Z (kc O Z (kc O Z (ai (vI O Z Z) (ai (bj O (B0 := 10000) Z Z Z Z (rA (n := s.1.length) h1 h2) (aa Z) Z Z Z Z Z) (ai (kc O Z (V O Z)) (ai (kc O Z (V O Z)) (ai (kc O Z (V O Z)) (ai (kc O Z (V O Z)) (kc O Z (ai ((V O Z).cast (v' := eB true) (congrArg eB hb1)) (ai ⟨Z, Z⟩ (ai ⟨Z, Z⟩ (ai ⟨Z, Z⟩ (ai ⟨Z, Z⟩ (ai (bm O Z Z Z Z Z) trivial))))))))))))))))) ?_
  refine jw [20,3,0] Z (dL ?_)
  refine ae O Z Z (fun hc20 => ?_) (fun hc20 => ?_)
  refine ag (j3 O Z Z Z (jf [23,3,0] Z (jo O Z (av ?_))))
  refine jr ?_
  rw [t4 hb1]
  refine ⟨.inl Z, _, ((am [500,501] (e' := []) Z Z trivial Z).trans (au 501 503 Z Z)), _, Z, Z, Z⟩
  cases hc20
 | false =>
  refine pF O [_,_,_,_,_,_,_,_,_,_,_,_,_,_,_,_,_] [pn [] 0 0, pn [0] 0 0, pn [0,1] 0 0, pn [0,1,2] 0 0, pn (rg 0 4) 0 0, pe (rg 0 5) 0, pn [] 0 1, pn [6] 0 1, pn [6,7] 0 1, pn [6,7,8] 0 1, pn (rg 0 10) 1 1, pn (rg 0 11) 1 1, pn (rg 0 12) 1 1, pn (rg 0 13) 1 1, pe (rg 0 14) 1, pn (rg 0 15) 2 2, pn (rg 0 16) 2 2] [5,14] [_,_,_] (kc O Z (kc O Z (kc O Z (kc O Z (ai (vI O Z Z) (ai (bj O (B0 := 10000) Z Z Z Z (rA (n := s.1.length) h1 h2) (aa Z) Z Z Z Z Z) (ai (kc O Z (V O Z)) (ai (kc O Z (V O Z)) (ai (kc O Z (V O Z)) (ai (kc O Z (V O Z)) (kc O Z (ai ((V O Z).cast (v' := eB false) (congrArg eB hb1)) (kc O Z (kc O Z (ai (bj O (B0 := 19000) Z Z Z Z (rz (xs := Nd.mul (bA ms)) h1 h2) (aa Z) Z Z Z Z Z) (kc O Z (ai (bb O Z Z Z Z Z) trivial))))))))))))))))) ?_
  refine jw [20,3,0] Z (dL ?_)
  refine ae O Z Z (fun hc20 => ?_) (fun hc20 => ?_)
  refine ag (j3 O Z Z Z (jf [23,3,0] Z (jo O Z (av ?_))))
  refine jr ?_
  rw [t6 hc20]
  refine ⟨.inl Z, _, ((am [500,501] (e' := []) Z Z trivial Z).trans (au 501 503 Z Z)), _, Z, Z, Z⟩
  refine aj (jw [3,0] Z (tZ O [_,_,_,_,_,_,_,_,_,_,_] [pn [] 0 2, pn [] 0 1, pn [1] 0 1, pn [1,2] 0 1, pn [1,2,3] 0 1, pn [] 0 0, pe [5] 0, pe (rg 1 6) 1, pn (rg 0 8) 2 2, pn (rg 0 9) 2 2, pe (rg 0 10) 2] [6,7,10] [_,_,_,_] [[], [501], []] (ai (ka O Z Z (ka O Z Z (kw O Z Z))) (ai (ka O Z Z (kw O Z Z)) (ai (ka O Z Z (kw O Z Z)) (ai (ka O Z Z (kw O Z Z)) (ai (ka O Z Z (kw O Z Z)) (ka O Z Z (ai (ai (bc (df O Z Z Z Z Z Z Z Z Z Z Z Z Z Z)) Z) (ai (ai (cX (own := false) (xs := s.1.map Nd.cells) (ys := [Nd.cells (bA ms)]) (zs := (s.1 ++ [(bA ms)]).map Nd.cells) (n := (s.1 ++ [(bA ms)]).length) O Z Z Z Z Z Z Z Z Z Z Z Z Z Z Z Z (.row Z (bp _).symm) (.whole Z Z (.inr ⟨Z, Z⟩)) (by simp) Z (by simp only [bp, bK, cZ, dp, List.length_nil]; omega) (by simp only [bp, bK, cZ, dp, List.length_nil]; omega) (by simp) (bp _) Z) Z) (ka O Z Z (ka O Z Z (ai (ai (bc (eS O Z Z Z)) Z) trivial))))))))))) ?_))
  show _ ∧ _
  rw [t5 hb1 hc20]
  refine ⟨.inr Z, _, ((am [500,31] (e' := []) Z Z trivial Z).trans (au 31 503 Z Z)), _, Z, Z, Z⟩
theorem vH {ts : List Tm} {s : Wk} (h : decide ((ts.length : Int) = 14) = true) : cw ts s = (s.1, true) := by unfold cw; rw [if_pos (by have := cI h; omega)]
theorem vJ {ts : List Tm} {s : Wk} (h : decide ((ts.length : Int) = 14) = false) : cw ts s = s := by unfold cw; rw [if_neg (by have := dh h; omega)]
theorem uy {s : Wk} (h0 : 0 < ts.length) (hl : ts.length ≤ 1000) : MQ h1 h2 41 [.c (.pt 0 0 0), bo ts, dn t] [(0, el b s 1), (1, bH s.1)] (bR (bo (ts ++ [t])) [(0, el b (cw ts s) 1), (1, bH (cw ts s).1)]) := by
 refine MC.shift 500 Z (jH 16 [500,501] h1 h2 Try.func41 Z Z Z Z fun O hF => ?_)
 refine ag (jx O Z (av ?_))
 refine az (Ent.freeze 5 (e' := [(5, _), (0, _), (1, _)]) Z (.cons Z (.c (.box (cs := Tm.cells t) Z (aC Z))) (fe [0,1] Z)) (.skip (.cons Z (.box (fk Z)) (.cons Z .row .nil)))) ?_
 refine av ?_
 refine js O Z (jn (ac (ag (js O Z (cj O Z (js O Z (jf [9,6,5,0,1] Z (jn (ae O Z Z (fun hc9 => ?_) (fun hc9 => ?_))))))))))
 refine af (j3 O Z Z Z (jf [12,6,5,1] Z (jo O Z (av ?_))))
 refine aP (j2 O Z Z (jf [14,13,12,6,1] Z (ab O Z Z Z Z (um (ts := ts) (t := t) h1 h2 h0 hl) (aa Z) Z Z Z Z (B0 := 16000) Z Z (js O Z (jf [6,12,1] Z (jr ?_))))))
 rw [vH hc9]
 refine ⟨.inl Z, _, ak, _, Z, Z, Z⟩
 refine aj (ag (j2 O Z Z (jf [14,13,6,0,1] Z (ab O Z Z Z Z (um (ts := ts) (t := t) h1 h2 h0 hl) (aa Z) Z Z Z Z (B0 := 16000) Z Z (js O Z (jf [6,0,1] Z (jr ?_)))))))
 rw [vJ hc9]
 refine ⟨.inl Z, _, ak, _, Z, Z, Z⟩
structure WkI (b : Int) (g : Nat) (ts : List Tm) (s : Wk) : Prop where
  f : Fs ts ∨ s.2 = true
  a : 15 ≤ g + ts.length
  n0 : 0 < ts.length
  n1 : ts.length ≤ 15
  l : (s.1.length : Int) ≤ b
theorem oe {b : Int} {ts : List Tm} {s : Wk} {n : Nd} (h : (s.1.length : Int) ≤ b) : ((cw ts (eV b s n)).1.length : Int) ≤ b := iT (n := n) h
theorem WkI.add {b : Int} {g : Nat} {ts : List Tm} {s : Wk} {t : Tm} {n : Nd} (h : WkI b (g + 1) ts s) (hf : Fs ts) (ht : t.ok = true) : WkI b g (ts ++ [t]) (cw ts (eV b s n)) := by
 have hl := hf.len
 have ha := h.a
 refine ⟨?_, by rw [bK, cZ]; omega, by rw [bK, cZ]; omega, by rw [bK, cZ]; omega, oe h.l⟩
 by_cases e : ts.length = 14
 exact .inr (by unfold cw; rw [if_pos e])
 exact .inl (hf.snoc ht e)
theorem tj {b : Int} {g : Nat} {T : List Tm} {S : Wk} {i : Nat} (h : S.2 = false) (ht : dj T = some i) : fp b (g + 1) T S = fp b g (T ++ [(an T (T.getD i default)).1]) (cw T (eV b S (ci i))) := by
 rw [fp, if_neg (by rw [h]; decide), ht]
theorem tl {b : Int} {g : Nat} {T : List Tm} {S : Wk} (h : S.2 = false) (ht : dj T = none) (hr : (bO T).2 = true) : fp b (g + 1) T S = eV b S (bA (bO T).1) := by
 rw [fp, if_neg (by rw [h]; decide), ht]; simp only; rw [if_pos hr]
theorem tn {b : Int} {g : Nat} {T : List Tm} {S : Wk} (h : S.2 = false) (ht : dj T = none) (hr : (bO T).2 = false) (hb : ((rk T).2.2 && (cJ (rk T).1).ok) = false) : fp b (g + 1) T S = (S.1, true) := by
 rw [fp, if_neg (by rw [h]; decide), ht]; simp only; rw [if_neg (by rw [hr]; decide)]
 cases hc : cG T with
 | none => rfl
 | some r =>
  rw [i9 hc, Bool.true_and] at hb
  simp only; rw [if_neg (by rw [ij, hb]; decide)]
theorem tk {b : Int} {g : Nat} {T : List Tm} {S : Wk} {r : Rw} (h : S.2 = false) (ht : dj T = none) (hr : (bO T).2 = false) (hc : cG T = some r) (ho : (aT (an T r.tm).1).2 = true) :
    fp b (g + 1) T S = eV b (fp b g (T ++ [(an T r.tm).1]) (cw T (eV b S (bN (an T r.tm).1)))) (bA (cF r)) := by
 rw [fp, if_neg (by rw [h]; decide), ht]; simp only; rw [if_neg (by rw [hr]; decide), hc]; simp only; rw [if_pos ho]
theorem wM {ts : List Tm} (h : (rk ts).2.2 = true) : ∃ r, cG ts = some r := by
 cases hc : cG ts with
 | none => rw [ja hc] at h; cases h
 | some r => exact ⟨r, Z⟩
theorem vA (hb : 1 ≤ b ∧ b ≤ 60) {F : Nat} (ih : ∀ g : Nat, g < F → ∀ (ts : List Tm) (s : Wk), WkI b g ts s → MQ h1 h2 21 [.c (.pt 0 0 0), bo ts] [(0, el b s 1), (1, bH s.1)] (bR (.tup []) [(0, el b (fp b g ts s) 2), (2, bH (fp b g ts s).1)])) {s : Wk} (hw : WkI b F ts s) : MQ h1 h2 21 [.c (.pt 0 0 0), bo ts] [(0, el b s 1), (1, bH s.1)] (bR (.tup []) [(0, el b (fp b F ts s) 2), (2, bH (fp b F ts s).1)]) := by
 refine MC.shift 500 Z (jH 93 [500,501] h1 h2 Try.func21 Z Z Z Z fun O hF => ?_)
 refine ah (al (X := Nat × List Tm × Wk) (fun x => ⟨[(0, .c (.pt 500 0 0)), (1, bo x.2.1)], [(500, el b x.2.2 902), (902, bH x.2.2.1)]⟩) (fun x => x.1 ≤ F ∧ WkI b x.1 x.2.1 x.2.2 ∧ fp b x.1 x.2.1 x.2.2 = fp b F ts s) (fun x => 16 - x.2.1.length) (F, ts, s) ((au 501 902 Z Z).trans (Ent.to ⟨Z, Z, trivial⟩ Z)) ?_ (fun x hi => ?_))
 exact ⟨cu _, hw, Z⟩
 refine ac (ag (j4 O Z Z Z Z (js O Z (jf [18,0,1] Z (jn (ae O Z Z (fun hc18 => ?_) (fun hc18 => ?_)))))))
 refine aj (ah (ag ?_))
 obtain ⟨hx1, hx2, hx3⟩ := hi
 have hS2 : x.2.2.2 = false := vL hc18
 have hfs : Fs x.2.1 := hx2.f.resolve_right (by rw [hS2]; decide)
 have hlen := hfs.len
 obtain ⟨T, eT⟩ : ∃ T, T = x.2.1 := ⟨_, rfl⟩
 obtain ⟨S, eS⟩ : ∃ S, S = x.2.2 := ⟨_, rfl⟩
 obtain ⟨g, eg⟩ : ∃ g, x.1 = g + 1 := ⟨x.1 - 1, by have := hx2.a; omega⟩
 rw [← eT, ← eS, eg] at hx2 hx3
 rw [eg] at hx1
 rw [← eT] at hfs hlen
 rw [← eS] at hS2
 rw [← eT, ← eS]
 refine js O Z (jn (ac (ag (js O Z (cj O Z (js O Z (jn (ah (al (X := Nat) (fun i => ⟨[(0, .c (.pt 500 0 0)), (1, bo T), (4, eB false), (19, bo T), (20, eI T.length), (21, eI i)], [(500, el b S 902), (902, bH S.1)]⟩) (fun i => i ≤ T.length ∧ kP T (T.length - i) i = dj T) (fun i => T.length - i) 0 (Ent.to ⟨Z, Z, Z, Z, Z, Z, trivial⟩ Z) ?_ (fun i hi => ?_))))))))))
 exact ⟨b9 _, Z⟩
 refine ag (js O Z (jn (ac (ae O Z Z (fun hc22 => ?_) (fun hc22 => ?_)))))
 refine aj (ac (ah (ag ?_)))
 have hil : i < T.length := by have := cI hc22; omega
 have hti := hfs.get hil
 refine js O Z (fR O Z Z (js O Z (jf [25,23,22,0,1,4,19,20,21] Z (jl O Z (av ?_)))))
 refine js O Z (jf [5,6,25,22,0,1,4,19,20,21] Z (jo O Z (av ?_)))
 refine aP (j2 O Z Z (ab O Z Z Z Z (uz (ts := T) (t := T.getD i default) h1 h2 hti) (aa Z) Z Z Z Z (B0 := 30000) Z Z (j3 O Z Z Z (jf [31,30,5,6,25,22,0,1,4,19,20,21] Z (jl O Z (av ?_))))))
 refine jo O Z (av ?_)
 refine js O Z (jf [8,7,5,6,25,22,0,1,4,19,20,21] Z (aP (js O Z (jn (ae O Z Z (fun hc32 => ?_) (fun hc32 => ?_))))))
 refine ag ?_
 have htg := rO hil hc32
 rw [hi.2] at htg
 have hwe := tj (b := b) (g := g) hS2 htg
 refine j3 O Z Z Z (jf [35,33,32,8,7,6,25,22,0,1,4,19,20,21] Z (aH O [500,902] (bin := [el b S 1, bH S.1]) Z Z Z Z (rK (b := b) (s := S) (n := ci i) (x := .nils) (y := .nils) h1 h2 .nils .nils (by have := hx2.l; omega)) Z Z Z Z Z Z (B0 := 37000) Z Z (av ?_)))
 refine jf [32,8,7,6,25,22,0,1,4,19,20,21] Z (aP (j3 O Z Z Z (aH O [500,37002] (bin := [el b (eV b S (ci i)) 1, bH (eV b S (ci i)).1]) Z Z Z Z (uy (b := b) (s := (eV b S (ci i))) (ts := T) (t := (an T (T.getD i default)).1) h1 h2 hx2.n0 (by omega)) Z Z Z Z Z Z (B0 := 41000) Z Z (av ?_))))
 refine js O Z (jf [1,32,8,7,6,25,22,0,4,19,20,21] Z (aP (js O Z (jn (aD (ac (ag (js O Z (jn (ae O Z Z (fun hc42 => ?_) (fun hc42 => ?_)))))))))))
 refine aD ?_
 refine ⟨(g, T ++ [(an T (T.getD i default)).1], cw T (eV b S (ci i))), ((am [500,37002] (e' := [(0, _), (1, _)]) Z Z ⟨Z, Z, trivial⟩ Z).trans (au 37002 902 Z Z)), ⟨by show g ≤ F; omega, hx2.add hfs (b0 hc32), hwe.symm.trans hx3⟩, by show 16 - (T ++ [(an T (T.getD i default)).1]).length < 16 - T.length; rw [bK, cZ]; omega⟩
 cases hc42
 refine aj (af (ji O Z (js O Z (jn ?_))))
 have hg9 := rP hil hc32
 refine ⟨i + 1, ((am [500,902] (e' := [(0, _), (1, _), (4, _), (19, _), (20, _), (21, _)]) Z Z ⟨Z, Z, Z, Z, Z, Z, trivial⟩ Z)).trans (Ent.to ⟨Z, Z, Z, Z, Z, Z, trivial⟩ Z), ⟨by omega, hg9.symm.trans hi.2⟩, by omega⟩
 refine aD (ac (ag (js O Z (jn (ae O Z Z (fun hc42 => ?_) (fun hc42 => ?_))))))
 cases hc42
 refine aj (ac (ag ?_))
 have hie : i = T.length := by have := dh hc22; omega
 have h9 := hi.2
 rw [hie, Nat.sub_self] at h9
 have htn : dj T = none := h9.symm
 refine js O Z (ab O Z Z Z Z (xg (ts := T) h1 h2 hfs) (aa Z) Z Z Z Z (B0 := 46000) Z Z (j4 O Z Z Z Z (js O Z (jf [10,9,42,22,0,1,4,19,20,21] Z (aP (js O Z (jn (ae O Z Z (fun hc48 => ?_) (fun hc48 => ?_)))))))))
 refine ag (j3 O Z Z Z (jf [51,49,48,10,42,22,0,1,4,19,20,21] Z (aH O [500,902] (bin := [el b S 1, bH S.1]) Z Z Z Z (rK (b := b) (s := S) (n := bA (bO T).1) (x := .nils) (y := dk (bO T).1) h1 h2 .nils .d (by have := hx2.l; omega)) Z Z Z Z Z Z (B0 := 53000) Z Z (av ?_))))
 refine jf [48,10,42,22,0,1,4,19,20,21] Z (jr ?_)
 rw [← hx3, tl hS2 htn hc48]
 refine ⟨.inl Z, _, ((am [500,53002] (e' := []) Z Z trivial Z).trans (au 53002 502 Z Z)), _, Z, Z, Z⟩
 refine aj (ag (js O Z (ab O Z Z Z Z (xf (ts := T) h1 h2 hfs) (aa Z) Z Z Z Z (B0 := 56000) Z Z (j4 O Z Z Z Z (jf [58,57,56,48,10,9,42,22,0,1,4,19,20,21] Z (jl O Z (av ?_)))))))
 refine jl O Z (av ?_)
 refine jo O Z (av ?_)
 refine jf [12,11,58,57,48,10,9,42,22,0,1,4,19,20,21] Z (jo O Z (av ?_))
 refine js O Z (jf [13,12,11,48,10,9,42,22,0,1,4,19,20,21] Z (jn (ac (ag (j3 O Z Z Z (jf [61,12,11,48,10,9,42,22,0,1,4,19,20,21] Z (aB 4 Z Z Z (fun hx => AN.step hx Z Z Z (V O Z) Z Z ( mE O hx Z Z Z Z (ta (t := (rk T).1) h1 h2 (va hfs)) (aa Z) (B0 := 64000) Z Z Z Z Z Z Z Z ( bl O hx Z Z Z Z (nu (t := cJ (rk T).1) h1 h2) (aa Z) Z Z Z Z Z Z Z (B0 := 65000) Z ( AN.step hx Z Z Z (V O Z) Z Z ( AN.nil))))) Z Z (AOps.step (ay O Z Z Z Z Z) Z Z Z (jf [66,12,11,48,10,9,42,22,0,1,4,19,20,21] Z (jn (ae O Z Z (fun hc66 => ?_) (fun hc66 => ?_))))))))))))
 refine ag (j3 O Z Z Z (jf [69,66,12,11,48,10,9,42,22,0,1,4,19,20,21] Z (jo O Z (av ?_))))
 refine jr ?_
 rw [← hx3, tn hS2 htn hc48 (vS hc66)]
 refine ⟨.inl Z, _, ((am [500,902] (e' := []) Z Z trivial Z).trans (au 902 502 Z Z)), _, Z, Z, Z⟩
 refine aj (ag ?_)
 obtain ⟨hf1, hf2⟩ := vT hc66
 obtain ⟨r, hcr⟩ := wM hf1
 obtain ⟨hro, hsr⟩ := fd hfs hcr
 have hTo := b0 hsr
 have hrn := hro.n
 rw [i9 hcr] at hf2 ⊢
 dsimp only
 have hop : (aT (an T r.tm).1).2 = true := by rw [ij]; exact hf2
 have hwc := tk (b := b) (g := g) hS2 htn hc48 hcr hop
 have hl3 : ((fp b g (T ++ [(an T r.tm).1]) (cw T (eV b S (bN (an T r.tm).1)))).1.length : Int) ≤ b := iU (oe hx2.l)
 refine j2 O Z Z (ab O Z Z Z Z (uM (t := (an T r.tm).1) h1 h2) (aa Z) Z Z Z Z (B0 := 73000) Z Z (js O Z (jf [73,70,66,12,11,48,10,9,42,22,0,1,4,19,20,21] Z (aH O [500,902] (bin := [el b S 1, bH S.1]) Z Z Z Z (rK (b := b) (s := S) (n := bN (an T r.tm).1) (x := dk (an T r.tm).1.xs) (y := .nils) h1 h2 .d .nils (by have := hx2.l; omega)) Z Z Z Z Z Z (B0 := 75000) Z Z (av ?_)))))
 refine jf [66,12,11,48,10,9,42,22,0,1,4,19,20,21] Z (aP (j4 O Z Z Z Z (aH O [500,75002] (bin := [el b (eV b S (bN (an T r.tm).1)) 1, bH (eV b S (bN (an T r.tm).1)).1]) Z Z Z Z (uy (b := b) (s := (eV b S (bN (an T r.tm).1))) (ts := T) (t := (an T r.tm).1) h1 h2 hx2.n0 (by omega)) Z Z Z Z Z Z (B0 := 80000) Z Z (av ?_))))
 refine jf [79,75,66,12,11,48,10,9,42,22,0,1,4,19,20,21] Z (aH O [500,75002] (bin := [el b (cw T (eV b S (bN (an T r.tm).1))) 1, bH (cw T (eV b S (bN (an T r.tm).1))).1]) Z Z Z Z (ih g (by omega) (T ++ [(an T r.tm).1]) (cw T (eV b S (bN (an T r.tm).1))) (hx2.add hfs hTo)) Z Z Z Z Z Z (B0 := 81000) Z Z (av ?_))
 refine jf [66,12,11,48,10,9,42,22,0,1,4,19,20,21] Z (jn (ac (tZ O [_,_,_,_,_,_,_,_,_,_,_,_] [pn [] 0 4, pn [] 0 0, pn [1] 0 0, pe [1,2] 0, pn [] 0 1, pn [4] 0 1, pn [4,5] 0 1, pe (rg 1 6) 1, pe (rg 1 7) 2, pe (rg 1 8) 3, pn (rg 1 9) 4 4, pe (rg 0 11) 4] [3,7,8,9,11] [_,_,_,_,_,_] [[], [], [], [85000,89], [81002,90]] (ai (ka O Z Z (ka O Z Z (ka O Z Z (ka O Z Z (kw O Z Z))))) (ka O Z Z (ka O Z Z (ai (ai (bc (cU O (B0 := 85000) Z Z Z Z (tb (xs := r.ms) h1 h2) (aa Z) Z Z Z Z)) Z) (ai (ka O Z Z (kw O Z Z)) (ai (ka O Z Z (kw O Z Z)) (ai (ka O Z Z (kw O Z Z)) (ai (ai (bc (bj O (B0 := 89000) Z Z Z Z (s8 (xs := aN r.xs) h1 h2 (bh hro.tm).xs) (aa Z) Z Z Z Z Z)) Z) (ai (ai (bc (gF O Z Z Z Z Z Z Z Z Z Z Z Z Z)) Z) (ai (ai (dK (zs := (cF r).map fun n => [.int .i64 n]) (n := (cF r).length) O Z Z Z Z Z Z Z Z Z Z Z Z Z Z Z Z (.row Z (bp _).symm) Z Z (by decide) Z (by simp; omega) (by simp; omega) (List.map_append (f := fun n => [D.int .i64 n]) (l₁ := r.ms) (l₂ := [(aE r.tm.xs : Int)])).symm (bp _) Z) Z) (ka O Z Z (ai (ai (sV O [500,81002,90] [81002,90] (bin := [el b (fp b g (T ++ [(an T r.tm).1]) (cw T (eV b S (bN (an T r.tm).1)))) 1, bH (fp b g (T ++ [(an T r.tm).1]) (cw T (eV b S (bN (an T r.tm).1)))).1, bW (cF r)]) Z Z Z Z (vz (b := b) (s := (fp b g (T ++ [(an T r.tm).1]) (cw T (eV b S (bN (an T r.tm).1))))) (ms := cF r) h1 h2 (by omega)) Z Z Z Z Z (B0 := 93000) Z Z Z Z Z Z Z) Z) trivial)))))))))))) ?_)))
 refine jw [66,12,11,48,10,9,42,22,0,1,4,19,20,21] Z (dL ?_)
 refine fT ?_
 rw [← hx3, hwc]
 refine ⟨.inl Z, _, ((am [500,93003] (e' := []) Z Z trivial Z).trans (au 93003 502 Z Z)), _, Z, Z, Z⟩
 refine aD ?_
 show _ ∧ _
 obtain ⟨hx1, hx2, hx3⟩ := hi
 rw [← hx3, eJ (sX hc18)]
 refine ⟨.inr Z, _, ((am [500,902] (e' := []) Z Z trivial Z).trans (au 902 502 Z Z)), _, Z, Z, Z⟩
theorem uB {L : Nat} (h1 : 4096 ≤ L) (h2 : L ≤ 1073741824) {b : Int} (hb : 1 ≤ b ∧ b ≤ 60) : ∀ (F : Nat) (ts : List Tm) (s : Wk), WkI b F ts s → MC Try.prog L 21 [.c (.pt 0 0 0), bo ts] [(0, el b s 1), (1, bH s.1)] (bR (.tup []) [(0, el b (fp b F ts s) 2), (2, bH (fp b F ts s).1)]) := by
 intro F
 induction F using Nat.strongRecOn with
 | _ F ih => intro ts s hw; exact vA h1 h2 hb ih hw
theorem nK {s : Sq} {b : Int} (h : ((dO s).2 && e5 b) = false) : bD s b = ([], false) := by
 unfold bD
 split
 rename_i h1
 rw [aX] at h1
 rw [h1.2, Bool.and_true, gU h1.1, oN] at h
 exact k8 h
 rfl
theorem ui {s : Sq} (hok : (aT s.goal).2 = true) : (iw s).1 = s.facts ++ [(aT s.goal).1] := by unfold iw; rw [if_pos hok]
theorem nD {s : Sq} {b : Int} (hs : bX s = true) (hok : (aT s.goal).2 = true) (hb : 0 ≤ b) :
    ((fp b (15 - (s.facts ++ [(aT s.goal).1]).length) (s.facts ++ [(aT s.goal).1]) ([], false)).2 = true → aU s b = ([], false)) ∧
    ((fp b (15 - (s.facts ++ [(aT s.goal).1]).length) (s.facts ++ [(aT s.goal).1]) ([], false)).2 = false → aU s b = ((fp b (15 - (s.facts ++ [(aT s.goal).1]).length) (s.facts ++ [(aT s.goal).1]) ([], false)).1, true)) := by
 have hf := iW hs hok
 have hlen := hf.len
 obtain ⟨q1, q2⟩ := oC (b := b) (f := 15 - (s.facts ++ [(aT s.goal).1]).length) (N := []) hf (by omega) (by simpa using hb)
 cases hz : c5 (s.facts ++ [(aT s.goal).1]) with
 | none =>
  have h2 := q2 fun z h => by rw [show fh _ _ = none from hz] at h; cases h
  exact ⟨fun _ => fI hok hz, fun h => by rw [h2] at h; cases h⟩
 | some z =>
  have hpv := jN (b := b) hok hz
  by_cases hl : ((z.1 ++ z.2).length : Int) ≤ b
  have h1 := q1 z hz (by simp only [List.length_nil]; omega)
  rw [if_pos hl] at hpv
  rw [h1]
  exact ⟨fun h => (by cases h), fun _ => hpv⟩
  rw [if_neg hl] at hpv
  have h2 := q2 fun y hy => by
   rw [show fh _ _ = some z from hz] at hy
   simp only [cY] at hy; subst hy
   simp only [List.length_nil]; omega
  exact ⟨fun _ => hpv, fun h => by rw [h2] at h; cases h⟩
theorem wF {s : Sq} {b : Int} (h : (bD s b).2 = true) : bX s = true ∧ e5 b = true := by
 unfold bD at h
 split at h
 rename_i h1; simpa using h1
 cases h
theorem nB : MQ h1 h2 20 [eI b] [] (Plain (eB (e5 b))) := by
 refine aw ?_ Z
 refine jB 5 h1 h2 Try.func20 Z Z Z fun O hF => ?_
 refine ag (js O Z (aP (js O Z (ao O Z Z Z Z (rB h1 h2) (aa Z) Z Z Z Z Z (B0 := 5000) Z (js O Z (jr ?_))))))
 refine ⟨.inl Z, _, ak, _, Z, ?_⟩
 rfl
variable {s : Sq}
theorem pQ : MQ h1 h2 6 [iP s, eI b] [] (Plain (gj (bD s b))) := by
 refine MC.data (jB 36 h1 h2 Try.func6 Z Z Z fun O hF => ?_)
 refine ag (jx O Z (av ?_))
 refine az (Ent.freeze 2 (e' := [(2, _), (1, _)]) Z (.cons Z (.c (.box (cs := Sq.cells s) Z (aC Z))) (fe [1] Z)) (.skip .nil)) ?_
 refine av ?_
 refine j2 O Z Z (aP (js O Z (jf [10,5,4,1] Z (ab O Z Z Z Z (td (s := s) h1 h2) (aa Z) Z Z Z Z (B0 := 12000) Z Z (j4 O Z Z Z Z (js O Z (jf [7,6,5,4,1] Z (jn (ac (ag (j3 O Z Z Z (jf [16,6,5,4,1] Z (aB 3 Z Z Z (fun hx => AN.step hx Z Z Z (V O Z) Z Z ( bl O hx Z Z Z Z (nB h1 h2) (aa Z) Z Z Z Z Z Z Z (B0 := 19000) Z ( AN.step hx Z Z Z (V O Z) Z Z ( AN.nil)))) Z Z (AOps.step (ay O Z Z Z Z Z) Z Z Z (jf [20,6,5,4,1] Z (jn (ae O Z Z (fun hc20 => ?_) (fun hc20 => ?_))))))))))))))))))
 refine ag (j2 O Z Z (jr ?_))
 refine ⟨.inl Z, _, ak, _, Z, ?_⟩
 rw [nK (vS hc20)]
 exact dE
 refine aj (ag ?_)
 obtain ⟨hq1, hq2⟩ := vT hc20
 obtain ⟨hq3, hq4⟩ := kY hq1
 have hok : (aT s.goal).2 = true := by rw [ij]; exact hq4
 have hfc := iW hq3 hok
 have hlen := hfc.len
 have hbb := kN hq2
 obtain ⟨hw1, hw2⟩ := nD (b := b) hq3 hok (by omega)
 have hpe := jC (b := b) hq3 hq2
 have hwl : ((fp b (15 - (s.facts ++ [(aT s.goal).1]).length) (s.facts ++ [(aT s.goal).1]) ([], false)).1.length : Int) ≤ b := iU (by show (0 : Int) ≤ b; omega)
 rw [gU hq3, ui hok]
 refine j2 O Z Z (jf [22,6,5,4,1] Z (jx O Z (av ?_)))
 refine js O Z (jf [8,6,5,4,1] Z (aP (j2 O Z Z (jf [25,24,8,5,4,1] Z (az (dJ 23 901 5 false 1 Z Z Z) (aH O [23,901] (bin := [el b ([], false) 1, bH []]) Z Z Z Z (uB (b := b) h1 h2 hbb (15 - (s.facts ++ [(aT s.goal).1]).length) (s.facts ++ [(aT s.goal).1]) ([], false) ⟨.inl hfc, by omega, by simp, by omega, by show (0 : Int) ≤ b; omega⟩) Z Z Z Z Z Z (B0 := 27000) Z Z (av ?_)))))))
 refine jf [8,5,4,1] Z (jn (ac (ag (j4 O Z Z Z Z (jf [30,8,5,4,1] Z (jn (ae O Z Z (fun hc30 => ?_) (fun hc30 => ?_))))))))
 refine ag (j2 O Z Z (jr ?_))
 refine ⟨.inl Z, _, ak, _, Z, ?_⟩
 rw [hpe, hw1 hc30]
 exact dE
 refine aj (ag (j4 O Z Z Z Z (jf [34,8,5,4,1] Z (fP O (B0 := 36000) Z Z Z Z (uA (ts := (fp b (15 - (s.facts ++ [(aT s.goal).1]).length) (s.facts ++ [(aT s.goal).1]) ([], false)).1) h1 h2) (.cons (.c (.whole Z (bp _).symm)) .nil) Z Z Z Z Z Z (av ?_)))))
 refine j2 O Z Z (jf [5,4,8,1] Z (jr ?_))
 refine ⟨.inl Z, _, ak, _, Z, ?_⟩
 rw [hpe, hw2 hc30]
 exact .tup (.cons (.c (.whole Z (bp _).symm)) (.cons (.c .d) .nil))
def mG : List Sq → Nat → Int
  | [], _ => -1
  | u :: us, i => if bX u = true then mG us (i + 1) else (i : Int)
theorem qB {ss : List Sq} {i : Nat} (h : i < ss.length) : mG (ss.drop i) i = if bX (ss.getD i default) = true then mG (ss.drop (i + 1)) (i + 1) else (i : Int) := by
 rw [List.drop_eq_getElem_cons h, ar h]; rfl
theorem sa {ss : List Sq} {i : Nat} (h : ss.length ≤ i) : mG (ss.drop i) i = -1 := by rw [List.drop_of_length_le h]; rfl
theorem nG : ∀ {us : List Sq} {i : Nat}, decide (mG us i ≥ 0) = !us.all bX
 | [], _ => rfl
 | u :: us, i => by
  rw [mG, List.all_cons]
  by_cases h : bX u = true
  rw [if_pos h, h, Bool.true_and]; exact nG
  rw [if_neg h]
  have h' : bX u = false := by simpa using h
  rw [h', Bool.false_and]; exact decide_eq_true (by omega)
theorem xk : MQ h1 h2 56 [iP s] [] (Plain (eB (!bX s))) := by
 refine aw ?_ Z
 refine jB 6 h1 h2 Try.func56 Z Z Z fun O hF => ?_
 refine ag (jx O Z (js O Z (aP (js O Z (jf [3,2,0] Z (ao O Z Z Z Z (wh (s := s) h1 h2) (aa Z) Z Z Z Z Z (B0 := 5000) Z (j2 O Z Z (jf [2,0] Z (jr ?_)))))))))
 refine ⟨.inl Z, _, ak, _, Z, ?_⟩
 rfl
variable {ss : List Sq}
theorem xe : MQ h1 h2 79 [ft ss, .c (.fn 56 [])] [] (Plain (eI (mG ss 0))) := by
 refine aw ?_ Z
 refine jB 19 h1 h2 Try.func79 Z Z Z fun O hF => ?_
 have hl : ss.length ≤ L := by simpa [As.fact, A.fact, M.fact, D.fact, Ds.fact] using hF.1.1
 refine ag (js O Z (jn (ac (ag (js O Z (cj O Z (js O Z (jn (ah (al (X := Nat) (fun i => ⟨[(0, ft ss), (1, .c (.fn 56 [])), (7, eI ss.length), (8, eI i)], []⟩) (fun i => i ≤ ss.length ∧ mG (ss.drop i) i = mG ss 0) (fun i => ss.length - i) 0 (Ent.env ⟨Z, Z, Z, Z, trivial⟩) ?_ (fun i hi => ?_)))))))))))
 exact ⟨b9 _, Z⟩
 refine ag (js O Z (jn (ac (ae O Z Z (fun hc9 => ?_) (fun hc9 => ?_)))))
 refine aj (ac (ah (ag ?_)))
 have hil : i < ss.length := by have := cI hc9; omega
 have hkc := qB hil
 refine j2 O Z Z (aP (j3 O Z Z Z (fR O Z Z (js O Z (jf [15,11,5,10,9,0,1,7,8] Z (ao O Z Z Z Z (xk (s := ss.getD i default) h1 h2) (aa Z) Z Z Z Z Z (B0 := 17000) Z (jf [16,5,10,9,0,1,7,8] Z (jn (ae O Z Z (fun hc16 => ?_) (fun hc16 => ?_))))))))))
 refine ag (j2 O Z Z (jr ?_))
 refine ⟨.inl Z, _, ak, _, Z, ?_⟩
 rw [if_neg (by rw [vL hc16]; decide), hi.2] at hkc
 rw [hkc]
 refine aj (af (ji O Z (js O Z (jn ?_))))
 rw [if_pos (sX hc16)] at hkc
 exact ⟨i + 1, Ent.env ⟨Z, Z, Z, Z, trivial⟩, ⟨by omega, hkc.symm.trans hi.2⟩, by omega⟩
 refine aD (ag (js O Z (jr ?_)))
 refine ⟨.inl Z, _, ak, _, Z, ?_⟩
 have h9 := hi.2
 rw [sa (by have := dh hc9; omega)] at h9
 rw [← h9]
theorem xl : MQ h1 h2 55 [ft ss, .c (.fn 56 [])] [] (Plain (eB (!ss.all bX))) := by
 refine aw ?_ Z
 refine jB 9 h1 h2 Try.func55 Z Z Z fun O hF => ?_
 refine ag (js O Z (aP (j2 O Z Z (ao O Z Z Z Z (xe (ss := ss) h1 h2) (.cons (.c .d) (.cons (.c (.fn .nil)) .nil)) Z Z Z Z Z (B0 := 8000) Z (j2 O Z Z (jr ?_))))))
 refine ⟨.inl Z, _, ak, _, Z, ?_⟩
 exact congrArg eB nG
theorem rL : MQ h1 h2 28 [ft ss] [] (Plain (eB (iu ss))) := by
 refine aw ?_ Z
 refine jB 11 h1 h2 Try.func28 Z Z Z fun O hF => ?_
 refine ag (js O Z (aP (js O Z (cj O Z (j2 O Z Z (aB 3 Z Z Z (fun hx => AN.step hx Z Z Z (V O Z) Z Z ( bl O hx Z Z Z Z (xl (ss := ss) h1 h2) (.cons (.c .d) (.cons (.c (.fn .nil)) .nil)) Z Z Z Z Z Z Z (B0 := 9000) Z ( AN.step hx Z Z Z (V O Z) Z Z ( AN.nil)))) Z Z (AOps.step (aA O Z Z Z Z Z) Z Z Z (js O Z (jr ?_)))))))))
 refine ⟨.inl Z, _, ak, _, Z, ?_⟩
 rw [Bool.cond_false_right, Bool.not_not, Bool.and_comm]; rfl
theorem pk {b : Int} {ss : List Sq} {i : Nat} (hi : i < ss.length) (h : ∀ j (hj : j < ss.length), j < i → (aU ss[j] b).2 = true) (h2 : (aU (ss.getD i default) b).2 = false) : (dP b ss).length = i := by
 rw [qY hi h h2, bp, List.length_take]; omega
theorem xq : MQ h1 h2 11 [ft ss, eI b] [] (Plain (t9 (dr ss b))) := by
 refine jB 35 h1 h2 Try.func11 Z Z Z fun O hF => ?_
 have hl : ss.length ≤ L := by simpa [As.fact, A.fact, M.fact, D.fact, Ds.fact] using hF.1.1
 refine ag (j2 O Z Z (jn (ac (ag (js O Z (ao O Z Z Z Z (rL h1 h2) (aa Z) Z Z Z Z Z (B0 := 12000) Z (j2 O Z Z (jf [13,5,4,0,1] Z (aB 3 Z Z Z (fun hx => AN.step hx Z Z Z (V O Z) Z Z ( bl O hx Z Z Z Z (nB h1 h2) (aa Z) Z Z Z Z Z Z Z (B0 := 16000) Z ( AN.step hx Z Z Z (V O Z) Z Z ( AN.nil)))) Z Z ?_)))))))))
 first | refine AOps.step (ay O Z Z Z Z Z) Z Z Z ?_ | refine AOps.step (Val.pickB O Z Z Z Z Z) Z Z Z ?_ | refine AOps.step (aA O Z Z Z Z Z) Z Z Z ?_
 refine jf [17,5,4,0,1] Z (jn (ae O Z Z (fun hc17 => ?_) (fun hc17 => ?_)))
 refine ag (j2 O Z Z (jr ?_))
 refine ⟨.inl Z, _, ak, _, Z, ?_⟩
 rw [qU (vS hc17)]
 exact ⟨Z, Z⟩
 refine aj (ac (ag ?_))
 obtain ⟨hq1, hq2⟩ := vT hc17
 obtain ⟨hq3, hq4⟩ := pW hq1
 refine js O Z ?_
 first | refine cj O Z ?_ | refine js O Z ?_ | refine bz O Z Z ?_
 refine js O Z (jn (ah (al (X := Nat) (fun i => ⟨[(1, eI b), (18, ft ss), (19, eI ss.length), (20, eI i)], []⟩) (fun i => i ≤ ss.length ∧ ∀ j (h : j < ss.length), j < i → (aU ss[j] b).2 = true) (fun i => ss.length - i) 0 (Ent.to ⟨Z, Z, Z, Z, trivial⟩ Z) ?_ (fun i hi => ?_))))
 exact ⟨b9 _, fun j h hj => absurd hj (Nat.not_lt_zero j)⟩
 refine ag (js O Z (jn (ac (ae O Z Z (fun hc21 => ?_) (fun hc21 => ?_)))))
 refine aj (ac (ah (ag ?_)))
 have hil : i < ss.length := by have := cI hc21; omega
 refine js O Z ?_
 first | refine fR O Z Z ?_ | refine j6 O Z Z ?_ | refine bz O Z Z ?_
 refine js O Z (jf [24,22,21,1,18,19,20] Z (jl O Z (av ?_)))
 refine js O Z (jf [6,7,24,21,1,18,19,20] Z (jo O Z (av ?_)))
 refine aP (j2 O Z Z (ab O Z Z Z Z ((pQ (s := (ss.getD i default)) (b := b) h1 h2).plain (u := gj (aU (ss.getD i default) b)) (by rw [jC (qn hq3 hil) hq2])) (aa Z) Z Z Z Z (B0 := 29000) Z Z (j4 O Z Z Z Z (js O Z (jf [9,6,7,24,21,1,18,19,20] Z (aP (j2 O Z Z (jf [32,6,7,24,21,1,18,19,20] Z (jn (ae O Z Z (fun hc32 => ?_) (fun hc32 => ?_)))))))))))
 refine ag (j3 O Z Z Z (jf [5,4,32,7,24,21,1,18,19,20] Z (jr ?_)))
 have hal := pk hil hi.2 (vL hc32)
 rw [nY hq1 hq2, if_neg (by omega), hal]
 refine ⟨.inl Z, _, (am [] (e' := [(4, _), (5, _)]) Z Z ⟨Z, Z, trivial⟩ Z), _, Z, Z, Z⟩
 refine aj (af ?_)
 first | refine ji O Z ?_ | refine bz O Z Z ?_
 refine js O Z (jn ?_)
 refine ⟨i + 1, ((am [] (e' := [(1, _), (18, _), (19, _), (20, _)]) Z Z ⟨Z, Z, Z, Z, trivial⟩ Z).trans ak), ⟨by omega, fun j h hj => ?_⟩, by omega⟩
 by_cases e : j = i
 subst e; rw [ar h] at hc32; exact sX hc32
 exact hi.2 j h (by omega)
 refine aD (ag (j2 O Z Z (jr ?_)))
 have hal : (dP b ss).length = ss.length := by rw [mA fun j hj => hi.2 j hj (by have := dh hc21; omega), bp]
 rw [nY hq1 hq2, if_pos hal]
 refine ⟨.inl Z, _, (am [] (e' := [(4, _), (5, _)]) Z Z ⟨Z, Z, trivial⟩ Z), _, Z, Z, Z⟩
theorem xp : MQ h1 h2 9 [iP s, eI b] [] (Plain (pI (fz s b))) := by
 refine MC.data (jB 37 h1 h2 Try.func9 Z Z Z fun O hF => ?_)
 refine ag (jx O Z (av ?_))
 refine az (Ent.freeze 2 (e' := [(2, _), (1, _)]) Z (.cons Z (.c (.box (cs := Sq.cells s) Z (aC Z))) (fe [1] Z)) (.skip .nil)) ?_
 refine av ?_
 refine j2 O Z Z (aP (j2 O Z Z (jf [13,12,5,4,2] Z (ab O Z Z Z Z (pQ (s := s) (b := b) h1 h2) (aa Z) Z Z Z Z (B0 := 15000) Z Z (j4 O Z Z Z Z (js O Z (jf [7,6,5,4,2] Z (jn (ac (ag (j2 O Z Z (jf [18,6,5,4,2] Z (jn (ae O Z Z (fun hc18 => ?_) (fun hc18 => ?_)))))))))))))))
 refine ag (j2 O Z Z (jr ?_))
 refine ⟨.inl Z, _, ak, _, Z, ?_⟩
 rw [tU (vL hc18)]
 exact si
 refine aj (ag (js O Z (jn (ac (ag ?_)))))
 obtain ⟨hq1, hq2⟩ := wF (sX hc18)
 have hpe := jC (b := b) hq1 hq2
 obtain ⟨hnd, hpl⟩ := tG (b := b) hq1 (by rw [← hpe]; exact sX hc18)
 rw [← hpe] at hnd
 have hn13 := (cC hq1).2.1
 refine j3 O Z Z Z ?_
 first | refine cj O Z ?_ | refine js O Z ?_ | refine bz O Z Z ?_
 refine jf [22,19,8,5,4,2] Z (ab O Z Z Z Z (c99 (p := (bD s b).1) (n := s.facts.length) h1 h2 (by omega) hnd) (aa Z) Z Z Z Z (B0 := 24000) Z Z ?_)
 obtain ⟨U, eU⟩ : ∃ U, U = (dV nz (bD s b).1 s.facts.length (bD s b).1.length) := ⟨_, rfl⟩
 have lU : U.length = s.facts.length := by rw [eU, dg]
 rw [← eU]
 refine j2 O Z Z (jf [25,24,23,8,5,4,2] Z (jn (ah (al (X := Nat) (fun i => ⟨[(8, .c (.rs 900 0 (lS U i).length)), (23, .c (.d (r8 U))), (24, eI U.length), (25, eI i)], [(900, bW (lS U i))]⟩) (fun i => i ≤ U.length) (fun i => U.length - i) 0 ((bF 8 900 1 true Z Z).trans (Ent.to ⟨Z, Z, congrArg (fun n : Nat => some (eI n)) (bp _), Z, trivial⟩ Z)) ?_ (fun i hi => ?_)))))
 exact b9 _
 refine ag (js O Z (jn (ac (ae O Z Z (fun hc26 => ?_) (fun hc26 => ?_)))))
 refine aj (ac (ah (ag ?_)))
 have hil : i < U.length := by have := cI hc26; omega
 refine js O Z ?_
 first | refine fR O Z Z ?_ | refine j6 O Z Z ?_ | refine bz O Z Z ?_
 refine j3 O Z Z Z (jf [10,9,26,8,23,24,25] Z (aP (js O Z (jn (ae O Z Z (fun hc30 => ?_) (fun hc30 => ?_))))))
 refine af (j2 O Z Z (jf [32,31,30,10,26,8,23,24,25] Z (AOps.heap (bq O Z Z Z) Z (av ?_))))
 refine jf [33,31,30,10,26,8,23,24,25] Z ?_
 have hil2 := iJ (bs := U) (i := i)
 have hx9 : lS U (i + 1) = lS U i ++ [(i : Int)] := wK hc30
 refine AOps.heap (bw (zs := ((lS U (i + 1))).map fun n => [.int .i64 n]) (n := (lS U (i + 1)).length) O Z Z Z Z Z Z Z Z Z Z Z Z Z Z Z Z (.row Z (by simp)) Z Z (by decide) Z (by simp; omega) (by simp; omega) (by rw [hx9, List.map_append]; rfl) (by simp)) Z (av ?_)
 refine js O Z (jf [8,30,10,26,23,24,25] Z (jn (af ?_)))
 first | refine ji O Z ?_ | refine bz O Z Z ?_
 refine js O Z (jn ?_)
 refine ⟨i + 1, ((am [34] (e' := [(8, _), (23, _), (24, _), (25, _)]) Z Z ⟨Z, Z, Z, Z, trivial⟩ Z).trans (au 34 900 Z Z)), by omega, by omega⟩
 refine aj (af ?_)
 first | refine ji O Z ?_ | refine bz O Z Z ?_
 refine js O Z (jn ?_)
 have hx9 : lS U (i + 1) = lS U i := wL hc30
 rw [← hx9]
 refine ⟨i + 1, Ent.to ⟨Z, Z, Z, Z, trivial⟩ Z, by omega, by omega⟩
 refine aD (ag (j3 O Z Z Z (jr ?_)))
 refine ⟨.inl Z, _, ak, _, Z, ?_⟩
 have hie : i = s.facts.length := by have := dh hc26; omega
 rw [sN (sX hc18), ← eU, ← hie]
 exact .tup (.cons (.c (.whole Z (by simp))) (.cons (.c .d) .nil))
end Go.Al
