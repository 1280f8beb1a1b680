/- The program proves. -/
import Derived.Test.YtbkloknmpkgmbaaGreatC
import Derived.Test.YtbkloknmpkgmbaaGreatG
set_option linter.unusedVariables false
set_option linter.unusedSimpArgs false
set_option maxRecDepth 10000
set_option maxHeartbeats 4000000
open Go.Proofs
namespace Go.Al
variable {L : Nat} (h1 : 4096 ≤ L) (h2 : L ≤ 1073741824)
theorem Ca {x : Int} (hx : -4000000000000 ≤ x ∧ x ≤ 4000000000000) : MQ h1 h2 210 [eI x] [] (Plain (eI x.natAbs)) := by
 refine aA ?_ Z
 refine jB 7 h1 h2 Tryz.func210 Z Z Z fun O hF => ?_
 refine ah (js O Z (aV (j2 O Z Z (ji O Z (j2 O Z Z (jr ?_))))))
 refine ⟨.inl Z, _, am, _, Z, ?_⟩
 exact congrArg eI (show (if 0 - x > x then 0 - x else x) = (x.natAbs : Int) by split <;> omega)
variable {xs : List Int}
theorem Cd (ht : ∀ x ∈ xs, -4000000000000 ≤ x ∧ x ≤ 4000000000000) : MQ h1 h2 189 [bH xs] [] (Plain (eI (bk xs))) := by
 refine aA ?_ Z
 refine jB 26 h1 h2 Tryz.func189 Z Z Z fun O hF => ?_
 have hl : xs.length ≤ L := by simpa [As.fact, A.fact, M.fact, D.fact, Ds.fact] using hF.1.1
 refine ah (js O Z (aV (js O Z (jn (ag (ah (js O Z (cu O Z (js O Z (jn (ao (aq (X := Nat) (fun i => ⟨[(3, eI (bk (xs.take i))), (8, bH xs), (9, eI xs.length), (10, eI i)], []⟩) (fun i => i ≤ xs.length) (fun i => xs.length - i) 0 (Ent.env ⟨Z, Z, Z, Z, trivial⟩) ?_ (fun i hi => ?_)))))))))))))
 exact ct _
 refine ah (js O Z (jn (ag (ae O Z Z (fun hc11 => ?_) (fun hc11 => ?_)))))
 try simp only [aT] at hc11
 refine aj (ag (ao (ah ?_)))
 have hi0 := hi
 have hx := ht _ (List.getElem_mem (show i < xs.length by omega))
 rw [← ax (by omega)] at hx
 have hgs := jT (xs := xs) (i := i) (by omega)
 have hgl : bk (xs.take i) ≤ 4000000000000 := nD fun x hx => by have := ht x (List.mem_of_mem_take hx); omega
 refine ac (aP O Z Z Z Z Z Z Z Z (dc (by omega))) Z Z Z (j2 O Z Z (jf [5,11,3,8,9,10] Z (aV (j2 O Z Z (jf [15,14,11,3,8,9,10] Z (ap O Z Z Z Z (Ca (x := xs.getD i default) h1 h2 hx) (aa Z) Z Z Z Z Z (B0 := 17000) Z (j2 O Z Z (jf [7,6,11,3,8,9,10] Z (jn (ag (ao (aq (X := Nat × Nat) (fun z => ⟨[(8, bH xs), (9, eI xs.length), (10, eI i), (6, eI z.1), (7, eI z.2)], []⟩) (fun z => Nat.gcd z.1 z.2 = Nat.gcd (bk (xs.take i)) (xs.getD i default).natAbs ∧ z.1 ≤ 4000000000000 ∧ z.2 ≤ 4000000000000) (fun z => z.2) (bk (xs.take i), (xs.getD i default).natAbs) (Ent.env ⟨Z, Z, Z, Z, Z, trivial⟩) ?_ (fun z hi => ?_)))))))))))))
 exact ⟨Z, hgl, by show (xs.getD i default).natAbs ≤ 4000000000000; omega⟩
 have hz : -4000000000000 ≤ (z.1 : Int).tmod z.2 ∧ (z.1 : Int).tmod z.2 ≤ 4000000000000 := by have := Nat.mod_le z.1 z.2; rw [← Int.ofNat_tmod]; omega
 refine ag (ah (j2 O Z Z (jn (ae O Z Z (fun hc18 => ?_) (fun hc18 => ?_)))))
 try simp only [aT] at hc18
 refine aj (ao (mh O _ [_,_,_,_,_,_] [pn [] 0 0, pn [] 0 0, pn [] 0 0, pn [1,2] 0 0, pn [0,1] 0 0, pn (rg 0 5) 0 0] [] [[], [], [6], [6], [], [6]] [_] Z Z (by decide) (by decide) (by kernel_rfl) (kc O Z (kc O Z (kc O Z (ai (mg O Z Z Z Z (by omega) (by omega) (by omega)) (kc O Z (kc O Z trivial)))))) ?_))
 have hm : z.1 % z.2 < z.2 := Nat.mod_lt _ (by omega)
 refine ⟨(z.2, z.1 % z.2), Ent.env ⟨Z, Z, Z, Z, Z, trivial⟩, ⟨?_, hi.2.2, by show z.1 % z.2 ≤ 4000000000000; omega⟩, hm⟩
 show Nat.gcd z.2 (z.1 % z.2) = _
 rw [← hi.1, Nat.gcd_comm z.2, ← Nat.gcd_rec, Nat.gcd_comm]
 try simp only [aT] at hc18
 refine aO (ak (j2 O Z Z (jn (ak (ji O Z (js O Z (jn ?_)))))))
 have hz0 : z.2 = 0 := by omega
 have hz1 : z.1 = bk (xs.take (i + 1)) := by rw [hgs, ← hi.1, hz0, Nat.gcd_zero_right]
 rw [hz1]
 exact ⟨i + 1, Ent.env ⟨Z, Z, Z, Z, trivial⟩, by omega, by omega⟩
 try simp only [aT] at hc11
 refine aO (ah (j2 O Z Z (jr ?_)))
 refine ⟨.inl Z, _, am, _, Z, ?_⟩
 obtain rfl : i = xs.length := by omega
 rw [List.take_length]
theorem zi {xs : List Int} {n : Nat} (h0 : 0 < n) (h : n ≤ xs.length) : (xs.map fun n => [D.int .i64 n])[0 + ((n : Int) - 1).toNat]? = some [D.int .i64 (xs.getD (n - 1) default)] := by
 rw [Nat.zero_add, show ((n : Int) - 1).toNat = n - 1 by omega, List.getElem?_map, List.getElem?_eq_getElem (by omega), ax (by omega)]; rfl
theorem Cc {c : Int} (hl : xs.length ≤ L) : MQ h1 h2 211 [.agg [.d (.int .i64 c), .rs 0 0 xs.length]] [(0, aX xs)] (bc (.agg [.d (.int .i64 c), .rs 0 0 (bF xs).length]) [(0, aX xs)]) := by
 refine aJ 500 Z (MC.keep [500] (bs := [aX xs]) Z Z (jH 26 [500] h1 h2 Tryz.func211 Z Z Z Z fun O hF => ?_))
 refine ah (jx O Z (jf [1] Z (jl O Z (aV (j2 O Z Z (dk O Z Z (js O Z (jf [3,2,1] Z (jn (ag (ao (aq (X := Nat) (fun n => ⟨[(1, .c (.pt 1 0 0)), (2, .c (.pt 2 0 0)), (3, eI n)], [(1, .box [.d (.int .i64 c), .rs 500 0 xs.length]), (2, .box [.d (.int .i64 0), .d .nils]), (500, aX xs)]⟩) (fun n => n ≤ xs.length ∧ bF (xs.take n) = bF xs) (fun n => n) xs.length (Ent.env ⟨Z, Z, Z, trivial⟩) ?_ (fun n hi => ?_)))))))))))))
 exact ⟨cC _, by rw [List.take_length]⟩
 refine ag (ah (j3 O Z Z Z (jf [9,1,2,3] Z (az 7 Z Z Z (fun hx => ab hx Z Z Z (V O Z) Z Z ( ab hx Z Z Z (V O Z) Z Z ( ab hx Z Z Z (V O Z) Z Z ( ab hx Z Z Z (vF O Z) Z Z ( ab hx Z Z Z (vI O Z Z) Z Z ( ab hx Z Z Z (aS O (ex := [.int .i64 (xs.getD (n - 1) default)]) Z Z Z Z (zi (by first | omega | (simp at *; omega)) (by first | omega | (simp at *; omega))) Z) Z Z ( ab hx Z Z Z (V O Z) Z Z ( AN.nil)))))))) Z Z (ac (aC O Z Z Z Z Z) Z Z Z (jf [17,1,2,3] Z (jn (ae O Z Z (fun hc17 => ?_) (fun hc17 => ?_)))))))))
 refine aj (ao (ak (js O Z (ji O Z (js O Z (jf [3,17,1,2] Z (jn ?_)))))))
 rw [Bool.cond_false_right, bP, decide_eq_true_eq, decide_eq_true_eq] at hc17
 obtain ⟨k, hk⟩ : ∃ k, n = k + 1 := ⟨n - 1, by omega⟩
 subst hk
 have hk2 : ((k + 1 : Nat) : Int) - 1 = k := by omega
 refine ⟨k, Ent.to ⟨Z, Z, by rw [hk2]; rfl, trivial⟩ Z, ⟨by omega, ?_⟩, Nat.lt_succ_self k⟩
 rw [← hi.2, lR (by omega) (by simpa using hc17.2)]
 refine aO (ah (j3 O Z Z Z ?_))
 have hd : bF (xs.take n) = xs.take n := jN hi.1 (by
  rw [Bool.cond_false_right] at hc17
  rcases Nat.eq_zero_or_pos n with h0 | h0
  ·
   exact .inl h0
  ·
   refine .inr (fun h9 => ?_)
   rw [h9] at hc17; simp at hc17; omega)
 have ht : (bF xs).length = n := by have := hi.1; rw [← hi.2, hd, List.length_take]; omega
 refine ac ((fJ O Z Z ⟨by omega, by omega⟩).cast (v' := .c (.rs 500 0 (bF xs).length)) (by rw [ht]; simp)) Z Z Z (js O Z (jf [24,23,17,1,2,3] Z (jo O Z (jf [17,1,2,3] Z (aV (js O Z (jo O Z (jr ?_))))))))
 refine ⟨.inl Z, _, am, _, Z, ?_⟩
 exact ⟨Z, Z⟩
theorem Cb {L : Nat} (h1 : 4096 ≤ L) (h2 : L ≤ 1073741824) {c : Int} {xs : List Int} {n : Nat} (hl : xs.length = n) (hn : n ≤ L) : MC Tryz.prog L 211 [.agg [.d (.int .i64 c), .rs 0 0 n]] [(0, aX xs)] (bc (.agg [.d (.int .i64 c), .rs 0 0 (bF xs).length]) [(0, aX xs)]) := by
 subst hl; exact Cc h1 h2 (by omega)
variable {ts : List Tm} {ms : List Int}
theorem Ck (hc : CtxOk ts) (hm : ms.all num = true) (hle : ts.length ≤ ms.length) : MQ h1 h2 190 [bN ts, bH ms] [] (Rows (.agg [.d (.int .i64 (cO Tm.c ts ms)), .rs 0 0 (bF (cx ts ms)).length]) [aX (cx ts ms)]) := by
 refine bI (jB 55 h1 h2 Tryz.func190 Z Z Z fun O hF => ?_)
 have hl : ms.length ≤ L := by simpa [As.fact, A.fact, M.fact, D.fact, Ds.fact] using hF.2.1.1
 have hlc := hc.len
 refine ah (jl O Z (aV (AOps.heap (ea O Z Z Z Z Z Z Z Z Z (by first | omega | (simp at *; omega)) (by first | omega | (simp at *; omega)) (by first | omega | (simp at *; omega)) (by first | omega | (dsimp only; omega) | (simp only [aT] at *; omega)) (by first | omega | (simp at *; omega)) Z Z Z) Z (js O Z (jf [11,4,0,1] Z (jl O Z (jo O Z (jn (ag (ah (js O Z (cu O Z (js O Z (jn (ao (aq (X := Nat) (fun i => ⟨[(1, bH ms), (4, .c (.pt 4 0 0)), (5, .c (.pt 5 0 0)), (12, bN ts), (13, eI ts.length), (14, eI i)], [(4, .box [.d (.int .i64 0), .d .nils]), (5, .box [.d (.int .i64 (cO Tm.c (ts.take i) (ms.take i))), .rs 10 0 10]), (10, aX (cx (ts.take i) (ms.take i)))]⟩) (fun i => i ≤ ts.length) (fun i => ts.length - i) 0 (Ent.to ⟨Z, Z, Z, Z, Z, Z, trivial⟩ Z) ?_ (fun i hi => ?_)))))))))))))))))
 exact ct _
 refine ah (js O Z (jn (ag (ae O Z Z (fun hc15 => ?_) (fun hc15 => ?_)))))
 try simp only [aT] at hc15
 refine aj (ag (ao (ah (js O Z (iM O Z Z (js O Z (jf [18,16,15,1,4,5,12,13,14] Z (jl O Z (js O Z (jf [6,7,18,15,1,4,5,12,13,14] Z (jo O Z (jn (ag ?_)))))))))))))
 have hi0 := hi
 have hts := Small.of (hc.get (show i < ts.length by omega))
 have hd1 := im (f := Tm.c) (ts := ts) (ms := ms) (fun t ht => (Small.of (hc.ok t ht)).c) hm hi (by omega)
 have hd2 := fR (f := Tm.c) (ts := ts) (ms := ms) (i := i) (by omega) (by omega)
 have hmi : num (ms.getD i default) = true := by rw [ax (by omega)]; exact List.all_eq_true.1 hm _ (List.getElem_mem _)
 have hmu := dZ hmi hts.c
 refine gL O [_,_,_,_,_,_,_,_,_,_,_,_] [pn [] 0 0, pn [0] 0 0, pn [] 0 0, pn [] 0 0, pn [2,3] 0 0, pn [2,3,4] 0 0, pn [] 0 0, pn [6] 0 0, pn (rg 2 6) 0 0, pn (rg 0 9) 0 0, pn (rg 0 10) 0 0, pe (rg 0 11) 0] [11] [_,_] (kc O Z (kc O Z (kc O Z (kc O Z (ai (vN O Z) (kc O Z (kc O Z (kc O Z (ai (vF O Z) (ai (vF O Z) (kc O Z (ai (eS O Z Z Z) trivial)))))))))))) ?_
 refine jw [6,7,18,15,1,4,5,12,13,14] Z (b9 ?_)
 refine ah (j2 O Z Z (cu O Z (js O Z (jn (ao (aq (X := Nat) (fun j => ⟨[(1, bH ms), (4, .c (.pt 4 0 0)), (5, .c (.pt 5 0 0)), (12, bN ts), (13, eI ts.length), (14, eI i), (6, eI i), (31, bH (ts.getD i default).xs), (32, eI (ts.getD i default).xs.length), (33, eI j)], [(4, .box [.d (.int .i64 0), .d .nils]), (5, .box [.d (.int .i64 (cO Tm.c (ts.take i) (ms.take i) + ms.getD i default * (ts.getD i default).c)), .rs 10 0 10]), (10, aX (eF ts ms i j))]⟩) (fun j => j ≤ (ts.getD i default).xs.length) (fun j => (ts.getD i default).xs.length - j) 0 (((aw [4,5,10] (e' := [(1, _), (4, _), (5, _), (12, _), (13, _), (14, _), (6, _), (31, _), (32, _), (33, _)]) Z Z ⟨Z, Z, Z, Z, Z, Z, Z, Z, Z, Z, trivial⟩ Z)).trans (Ent.to ⟨Z, Z, Z, Z, Z, Z, Z, Z, Z, Z, trivial⟩ (by rw [l3]; rfl))) ?_ (fun j hi => ?_)))))))
 exact ct _
 refine ah (js O Z (jn (ag (ae O Z Z (fun hc34 => ?_) (fun hc34 => ?_)))))
 try simp only [aT] at hc34
 refine aj (ag (ao (ah (js O Z (iM O Z Z (j3 O Z Z Z (jf [9,8,34,1,4,5,12,13,14,6,31,32,33] Z (jn ?_))))))))
 have hjl : j < 10 := by have := lK (hc.get (show i < ts.length by omega)); omega
 have hpj := kW (ts := ts) (ms := ms) (i := i) hjl
 have hps := l4 (ts := ts) (ms := ms) (i := i) hjl
 have hpl := dI (ts := ts) (ms := ms) (i := i) (j := j)
 have hd3 := im (f := qK j) (ts := ts) (ms := ms) (fun t ht => (Small.of (hc.ok t ht)).get j) hm hi0 (by omega)
 have hmx := dZ hmi (hts.get j)
 rw [show (ts.getD i default).xs.getD j 0 = (ts.getD i default).xs.getD j default from Z] at hmx
 refine gL O [_,_,_,_,_,_,_,_,_,_,_,_,_,_] [pn [] 0 0, pn [0] 0 0, pn [] 0 0, pn [0,1,2] 0 0, pn (rg 0 4) 0 0, pn [] 0 0, pn [] 0 0, pn [5,6] 0 0, pn [5,6,7] 0 0, pn [] 0 0, pn (rg 5 5) 0 0, pn (rg 0 11) 0 0, pn (rg 0 12) 0 0, pe (rg 0 13) 0] [13] [_,_] (kc O Z (kc O Z (kc O Z (ai (vI O Z Z) (ai (aS O (ex := [.int .i64 ((eF ts ms i j).getD j default)]) Z Z Z Z (t2 (by omega)) Z) (kc O Z (kc O Z (ai (vN O Z) (kc O Z (kc O Z (ai (vF O Z) (ai (vF O Z) (ai (vI O Z Z) (ai (dt (ex := [.int .i64 ((eF ts ms i j).getD j default)]) (xs' := (eF ts ms i (j + 1)).map (fun n => [D.int .i64 n])) O Z Z Z Z Z Z Z Z Z Z Z Z Z Z Z (t2 (by omega)) (by rw [← hps, List.map_set]; simp only [Int.toNat_natCast, Nat.zero_add]; rfl) Z) trivial)))))))))))))) ?_
 refine jw [34,1,4,5,12,13,14,6,31,32,33] Z (b9 ?_)
 refine ak (ji O Z (js O Z (jn ?_)))
 refine ⟨j + 1, Ent.to ⟨Z, Z, Z, Z, Z, Z, Z, Z, Z, Z, trivial⟩ Z, by omega, by omega⟩
 try simp only [aT] at hc34
 refine aO (ak (ji O Z (js O Z (jn ?_))))
 refine ⟨i + 1, ((aw [4,5,10] (e' := [(1, _), (4, _), (5, _), (12, _), (13, _), (14, _)]) Z Z ⟨Z, Z, Z, Z, Z, Z, trivial⟩ Z)).trans (Ent.to ⟨Z, Z, Z, Z, Z, Z, trivial⟩ ?_), by omega, by omega⟩
 rw [hd2, ← nz (j := j) (by omega) (by omega) (by omega)]; rfl
 try simp only [aT] at hc15
 refine aO (ah ?_)
 obtain rfl : i = ts.length := by omega
 rw [lm hle, pp hle]
 have hcl : (cx ts ms).length = 10 := iy
 refine ay ((aw [4,5,10] (e' := [(4, _), (5, _)]) Z Z ⟨Z, Z, trivial⟩ Z)) (js O Z (aB O [10] (bin := [aX (cx ts ms)]) Z Z Z Z (Cb (c := cO Tm.c ts ms) (xs := cx ts ms) (n := 10) h1 h2 hcl (by omega)) Z Z Z Z Z Z (B0 := 55000) Z Z (au ?_)))
 refine jf [54,4,5] Z (jo O Z (jr ?_))
 refine ⟨.inl Z, _, am, _, Z, [10], by decide, Z, Z, Z⟩
variable {t : Tm}
theorem qR {k : Nat} : MQ h1 h2 216 [cL t, eI k] [] (Plain (eI (t.xs.getD k default))) := by
 refine aA ?_ Z
 refine jB 15 h1 h2 Tryz.func216 Z Z Z fun O hF => ?_
 have hl : t.xs.length ≤ L := by simpa [As.fact, A.fact, M.fact, Ms.fact, D.fact, Ds.fact] using hF.1.2.1.1
 refine ah (jx O Z (js O Z (jn (ag (ah (j3 O Z Z Z (cu O Z (js O Z (jf [9,4,2,0,1] Z (jn (ae O Z Z (fun hc9 => ?_) (fun hc9 => ?_))))))))))))
 try simp only [aT] at hc9
 refine ah (j3 O Z Z Z (iM O Z Z (j2 O Z Z (jf [4,2,0,1] Z (jr ?_)))))
 refine ⟨.inl Z, _, am, _, Z, ?_⟩
 rfl
 try simp only [aT] at hc9
 refine aj (ah (js O Z (jr ?_)))
 refine ⟨.inl Z, _, am, _, Z, ?_⟩
 rw [List.getD_eq_getElem?_getD, List.getElem?_eq_none (by omega)]; rfl
theorem CH {ys : List Int} : MQ h1 h2 220 [bH xs, bH ys] [] (Plain (eB (decide (xs = ys)))) := by
 refine aA ?_ Z
 refine jB 26 h1 h2 Tryz.func220 Z Z Z fun O hF => ?_
 have hl : xs.length ≤ L := by simpa [As.fact, A.fact, M.fact, D.fact, Ds.fact] using hF.1.1
 have hl2 : ys.length ≤ L := by simpa [As.fact, A.fact, M.fact, D.fact, Ds.fact] using hF.2.1.1
 refine ah (js O Z (jn (ag (ah (js O Z (cu O Z (js O Z (cu O Z (js O Z (jn (ae O Z Z (fun hc10 => ?_) (fun hc10 => ?_))))))))))))
 try simp only [aT] at hc10
 refine ah (js O Z (jr ?_))
 refine ⟨.inl Z, _, am, _, Z, ?_⟩
 rw [decide_eq_false (fun e => by subst e; simp at hc10)]
 try simp only [aT] at hc10
 refine aj (ag (ah (js O Z (cu O Z (js O Z (jn (ao (aq (X := Nat) (fun i => ⟨[(0, bH xs), (1, bH ys), (12, eI xs.length), (13, eI i)], []⟩) (fun i => i ≤ xs.length ∧ ∀ j, j < i → xs[j]? = ys[j]?) (fun i => xs.length - i) 0 (Ent.env ⟨Z, Z, Z, Z, trivial⟩) ?_ (fun i hi => ?_)))))))))
 exact ⟨ct _, fun j hj => absurd hj (Nat.not_lt_zero j)⟩
 refine ah (js O Z (jn (ag (ae O Z Z (fun hc14 => ?_) (fun hc14 => ?_)))))
 try simp only [aT] at hc14
 refine aj (ag (ao (ah (j2 O Z Z (jn (ag (gL O [_,_,_,_,_,_,_,_,_] [pn [] 0 0, pn [] 0 0, pn [0,1] 0 0, pn [0,1,2] 0 0, pn [] 0 0, pn [] 0 0, pn [4,5] 0 0, pn [4,5,6] 0 0, pn (rg 0 8) 0 0] [] [_] (kc O Z (kc O Z (ai (vN O Z) (kc O Z (kc O Z (kc O Z (ai (vN O Z) (kc O Z (kc O Z trivial))))))))) ?_)))))))
 refine ae O Z Z (fun hc24 => ?_) (fun hc24 => ?_)
 try simp only [aT] at hc24
 refine ah (js O Z (jr ?_))
 refine ⟨.inl Z, _, am, _, Z, ?_⟩
 rw [decide_eq_false (fun e => by subst e; simp at hc24)]
 try simp only [aT] at hc24
 refine aj (ak (ji O Z (js O Z (jn ?_))))
 refine ⟨i + 1, Ent.env ⟨Z, Z, Z, Z, trivial⟩, ⟨by omega, fun j hj => ?_⟩, by omega⟩
 rcases Nat.lt_or_ge j i with h | h
 exact hi.2 j h
 obtain rfl : j = i := by omega
 rw [ax (by omega), ax (by omega)] at hc24
 rw [List.getElem?_eq_getElem (by omega), List.getElem?_eq_getElem (by omega), hc24]
 try simp only [aT] at hc14
 refine aO (ah (js O Z (jr ?_)))
 refine ⟨.inl Z, _, am, _, Z, ?_⟩
 have e : xs = ys := List.ext_getElem? fun j => by
  rcases Nat.lt_or_ge j i with h | h
  ·
   exact hi.2 j h
  ·
   rw [List.getElem?_eq_none (by omega), List.getElem?_eq_none (by omega)]
 rw [decide_eq_true e]
theorem zd {a b : Tm} : (bif decide (a.c = b.c) then decide (a.xs = b.xs) else false) = decide (a = b) := by
 cases a; cases b; simp [Bool.cond_false_right]
def pJ (t : Tm) : List Tm → Nat → Int
  | [], _ => -1
  | u :: us, i => if t = u then (i : Int) else pJ t us (i + 1)
theorem uk {t : Tm} {ts : List Tm} {i : Nat} (h : i < ts.length) : pJ t (ts.drop i) i = if t = ts.getD i default then (i : Int) else pJ t (ts.drop (i + 1)) (i + 1) := by
 rw [List.drop_eq_getElem_cons h, ax h]; rfl
theorem wJ {t : Tm} {ts : List Tm} {i : Nat} (h : ts.length ≤ i) : pJ t (ts.drop i) i = -1 := by rw [List.drop_of_length_le h]; rfl
theorem rn {t : Tm} : ∀ {us : List Tm} {i : Nat}, decide (pJ t us i ≥ 0) = fX us t
 | [], _ => rfl
 | u :: us, i => by
  rw [pJ, fX, List.any_cons]
  by_cases h : t = u
  rw [if_pos h, decide_eq_true h.symm, Bool.true_or]; exact decide_eq_true (by omega)
  rw [if_neg h, show decide (u = t) = false from decide_eq_false (fun e => h e.symm), Bool.false_or]; exact rn
theorem CK {a b : Tm} : MQ h1 h2 215 [cL a, cL b] [] (Plain (eB (decide (a = b)))) := by
 refine aA ?_ Z
 refine jB 17 h1 h2 Tryz.func215 Z Z Z fun O hF => ?_
 refine ah (jx O Z (jx O Z (js O Z (aV (j4 O Z Z Z Z (j2 O Z Z (az 5 Z Z Z (fun hx => ab hx Z Z Z (V O Z) Z Z ( ab hx Z Z Z (V O Z) Z Z ( ab hx Z Z Z (V O Z) Z Z ( ab hx Z Z Z (V O Z) Z Z ( bv O hx Z Z Z Z (CH (xs := a.xs) (ys := b.xs) h1 h2) (aa Z) Z Z Z Z Z Z Z (B0 := 16000) Z ( AN.nil)))))) Z Z (ac (aC O Z Z Z Z Z) Z Z Z (js O Z (jr ?_))))))))))
 refine ⟨.inl Z, _, am, _, Z, ?_⟩
 exact congrArg eB zd
theorem Cl : MQ h1 h2 176 [bN ts, .c (.fb 215 (t.cells.map .d))] [] (Plain (eI (pJ t ts 0))) := by
 refine aA ?_ Z
 refine jB 19 h1 h2 Tryz.func176 Z Z Z fun O hF => ?_
 have hl : ts.length ≤ L := by simpa [As.fact, A.fact, M.fact, D.fact, Ds.fact] using hF.1.1
 refine ah (js O Z (jn (ag (ah (js O Z (cu O Z (js O Z (jn (ao (aq (X := Nat) (fun i => ⟨[(0, bN ts), (1, .c (.fb 215 (t.cells.map .d))), (7, eI ts.length), (8, eI i)], []⟩) (fun i => i ≤ ts.length ∧ pJ t (ts.drop i) i = pJ t ts 0) (fun i => ts.length - i) 0 (Ent.env ⟨Z, Z, Z, Z, trivial⟩) ?_ (fun i hi => ?_)))))))))))
 exact ⟨ct _, Z⟩
 refine ah (js O Z (jn (ag (ae O Z Z (fun hc9 => ?_) (fun hc9 => ?_)))))
 refine aj (ag (ao (ah ?_)))
 have hil : i < ts.length := by have := bC hc9; omega
 have hkc := uk (t := t) hil
 refine j2 O Z Z (aV (j3 O Z Z Z (iM O Z Z (js O Z (jf [15,11,5,10,9,0,1,7,8] Z (s6 O Z Z Z Z (CK (a := t) (b := ts.getD i default) h1 h2) (aa Z) Z Z Z Z Z (B0 := 17000) Z (jf [16,5,10,9,0,1,7,8] Z (jn (ae O Z Z (fun hc16 => ?_) (fun hc16 => ?_))))))))))
 refine ah (j2 O Z Z (jr ?_))
 refine ⟨.inl Z, _, am, _, Z, ?_⟩
 rw [if_pos (bC hc16), hi.2] at hkc
 rw [hkc]
 refine aj (ak (ji O Z (js O Z (jn ?_))))
 rw [if_neg (cH hc16)] at hkc
 exact ⟨i + 1, Ent.env ⟨Z, Z, Z, Z, trivial⟩, ⟨by omega, hkc.symm.trans hi.2⟩, by omega⟩
 refine aO (ah (js O Z (jr ?_)))
 refine ⟨.inl Z, _, am, _, Z, ?_⟩
 have h9 := hi.2
 rw [wJ (by have := cH hc9; omega)] at h9
 rw [← h9]
theorem Cn : MQ h1 h2 136 [bN ts, .c (.fb 215 (t.cells.map .d))] [] (Plain (eB (fX ts t))) := by
 refine aA ?_ Z
 refine jB 9 h1 h2 Tryz.func136 Z Z Z fun O hF => ?_
 refine ah (js O Z (aV (j2 O Z Z (ap O Z Z Z Z (Cl (ts := ts) (t := t) h1 h2) (.cons (.c .d) (.cons (.c (.fb (aE Z))) .nil)) Z Z Z Z Z (B0 := 8000) Z (j2 O Z Z (jr ?_))))))
 refine ⟨.inl Z, _, am, _, Z, ?_⟩
 exact congrArg eB rn
theorem CO : MQ h1 h2 205 [bN ts, cL t] [] (Plain (eB (fX ts t))) := by
 refine aA ?_ Z
 refine jB 9 h1 h2 Tryz.func205 Z Z Z fun O hF => ?_
 refine ah (jx O Z (js O Z (aV (j2 O Z Z (ac (uD (ms := t.cells.map .d) O Z Z Z Z Z) Z Z Z (ap O Z Z Z Z (Cn (ts := ts) (t := t) h1 h2) (.cons (.c .d) (.cons (.c (.fb (aE Z))) .nil)) Z Z Z Z Z (B0 := 9000) Z (js O Z (jr ?_))))))))
 refine ⟨.inl Z, _, am, _, Z, ?_⟩
 first | rfl | skip
theorem CN : MQ h1 h2 207 [bN ts] [] (Plain (eB (eH ts 14))) := by
 refine aA ?_ Z
 refine jB 5 h1 h2 Tryz.func207 Z Z Z fun O hF => ?_
 refine ah (js O Z (aV (js O Z (ap O Z Z Z Z (y5 h1 h2) (aa Z) Z Z Z Z Z (B0 := 5000) Z (js O Z (jr ?_))))))
 refine ⟨.inl Z, _, am, _, Z, ?_⟩
 first | rfl | skip
def gM (n : Nat) : List Int := (List.range n).map Int.ofNat
theorem c6 {n : Nat} : (gM n).length = n := by simp [gM]
theorem t9 {n : Nat} : gM (n + 1) = gM n ++ [(n : Int)] := by simp [gM, List.range_succ]
theorem wm {n k : Nat} (h : k < n) : (gM n).getD k default = k := by rw [ax (by rw [c6]; exact h)]; simp [gM]
theorem yI {n : Nat} (hn : n ≤ 1000) : MQ h1 h2 209 [eI n] [] (Plain (bH (gM n))) := by
 refine MC.data (jB 15 h1 h2 Tryz.func209 Z Z Z fun O hF => ?_)
 refine ah (js O Z (aV (js O Z (jn (ag (ah (j2 O Z Z (jn (ao (aq (X := Nat) (fun i => ⟨[(3, .c (.rs 900 0 i)), (5, eI n), (6, eI i)], [(900, aX (gM i))]⟩) (fun i => i ≤ n) (fun i => n - i) 0 ((cb 3 900 1 true Z Z).trans (Ent.to ⟨Z, Z, Z, trivial⟩ Z)) ?_ (fun i hi => ?_)))))))))))
 exact ct _
 refine ah (js O Z (jn (ag (ae O Z Z (fun hc7 => ?_) (fun hc7 => ?_)))))
 try simp only [aT] at hc7
 refine aj (ag (ao (ah (j2 O Z Z (jn (ak (j2 O Z Z (jf [10,9,8,7,3,5,6] Z (AOps.heap (bA O Z Z Z) Z (au ?_))))))))))
 refine jf [11,9,8,7,3,5,6] Z (AOps.heap (cm (zs := ((gM (i + 1))).map fun n => [.int .i64 n]) (n := i + 1) O Z Z Z Z Z Z Z Z Z Z Z Z Z Z Z Z (.row Z (by simp [c6])) Z Z (by decide) Z (by simp [c6]; omega) (by simp [c6]; omega) (by rw [t9, List.map_append]; rfl) (by simp [c6])) Z (au ?_))
 refine js O Z (jf [3,8,7,5,6] Z (jn (ak (ji O Z (js O Z (jn ?_))))))
 refine ⟨i + 1, ((aw [12] (e' := [(3, _), (5, _), (6, _)]) Z Z ⟨Z, Z, Z, trivial⟩ Z).trans (af 12 900 Z Z)), by omega, by omega⟩
 try simp only [aT] at hc7
 refine aO (ah (j2 O Z Z (jr ?_)))
 refine ⟨.inl Z, _, am, _, Z, ?_⟩
 obtain rfl : i = n := by omega
 exact .v (.c (.whole Z (by simp [c6])))
theorem yM (ht : t.ok = true) : MQ h1 h2 184 [cL t, bN ts] [] (Plain (gn (aI ts t))) := by
 refine MC.data (jB 35 h1 h2 Tryz.func184 Z Z Z fun O hF => ?_)
 have hs := Small.of ht
 have hc := Db.1 hs.c
 have hr := gq (a := t.c) (b := bk t.xs) hc
 refine ah (jx O Z (au ?_))
 refine jf [2,1] Z (jl O Z (au ?_))
 refine js O Z (aV (j2 O Z Z (jf [10,5,4,2,1] Z (ap O Z Z Z Z (xg (xs := t.xs) h1 h2 hs.xs) (aa Z) Z Z Z Z Z (B0 := 12000) Z (js O Z (jf [6,5,4,2,1] Z (jn (ag (ah (j3 O Z Z Z (jf [14,6,5,4,2,1] Z (az 5 Z Z Z (fun hx => ab hx Z Z Z (V O Z) Z Z ( ab hx Z Z Z (V O Z) Z Z ( ab hx Z Z Z (V O Z) Z Z ( ab hx Z Z Z (vR O Z Z Z Z) Z Z ( ab hx Z Z Z (V O Z) Z Z ( AN.nil)))))) Z Z (ac (aL O Z Z Z Z Z) Z Z Z (jf [20,5,4,2,1] Z (jn (ae O Z Z (fun hc20 => ?_) (fun hc20 => ?_)))))))))))))))))
 refine ah (js O Z (jf [21,5,4,2,1] Z (jo O Z (au ?_))))
 refine js O Z (jr ?_)
 refine ⟨.inl Z, _, am, _, Z, ?_⟩
 have hn : bk t.xs < 2 ∨ t.c.tmod (bk t.xs) = 0 := by by_cases h9 : bk t.xs < 2; exact .inl h9; refine .inr ?_; simpa [show ¬ (bk t.xs : Int) ≤ 1 by omega] using hc20
 rw [show aI ts t = xe from if_pos hn]
 exact .tup (.cons (.agg (.cons .d (.cons .nils .nil))) (.cons (.c .d) .nil))
 refine aj (ah (js O Z (jf [23,5,4,2,1] Z (ar O Z Z Z Z (D9 (t := t) h1 h2 hs) (aa Z) Z Z Z Z (B0 := 25000) Z Z (js O Z ?_)))))
 have hn : ¬ (bk t.xs < 2 ∨ t.c.tmod (bk t.xs) = 0) := by intro h9; rcases h9 with h9 | h9 <;> simp [h9] at hc20 <;> omega
 have hok := lU ht (fun h => hn (.inl h))
 rw [q9 ht]
 refine j2 O Z Z (jf [26,25,5,4,2,1] Z (jl O Z (au ?_)))
 refine jo O Z (au ?_)
 refine js O Z (jf [8,7,5,4,2,1] Z (jn (ag (jw [8,7,4,2,1] Z ?_))))
 rw [hok]
 refine uW O [_,_,_,_,_,_,_,_,_,_] [pn [] 0 1, pn [] 0 0, pn [1] 0 0, pn [1,2] 0 0, pn [1,2] 0 0, pe (rg 1 4) 0, pn (rg 1 5) 1 2, pn (rg 1 6) 1 2, pe (rg 0 6) 1, pn (rg 0 9) 2 2] [5,8] [_,_,_] (ai (kc O Z (V O Z)) (kc O Z (kc O Z (kc O Z (kc O Z (ai (bw O (B0 := 33000) Z Z Z Z (CO (ts := ts) (t := (bS t).1) h1 h2) (aa Z) Z Z Z Z Z) (ai (kc O Z (V O Z)) (ai (ai (cy O Z Z Z Z Z) (cy O Z Z Z Z Z)) (ai (eS O Z Z Z) (kc O Z trivial)))))))))) ?_
 refine jw [5,7,4,2] Z (b9 ?_)
 refine dz ?_
 refine ⟨.inl Z, _, am, _, Z, ?_⟩
 rw [show aI ts t = ((bS t).1, !fX ts (bS t).1) by unfold aI; rw [if_neg hn, hok]; rfl]
 exact .tup (.cons (.agg (aE Z)) (.cons (.c .d) .nil))
abbrev A1 (r : Rw) : A := .agg (r.comb.map .d)
theorem t6 {xs : List Int} : xs.take (bF xs).length = bF xs := by
 obtain ⟨z, hz⟩ := gQ xs
 exact (congrArg (fun l => l.take (bF xs).length) hz).trans List.take_left
theorem wh {xs : List Int} {x : Int} (h : x ∈ bF xs) : x ∈ xs := by
 obtain ⟨z, hz⟩ := gQ xs
 rw [hz]; exact List.mem_append_left _ h
theorem BZ {p q : Rw} {n m : Int} : cO Tm.c [p.tm, q.tm] [n, m] = n * p.c + m * q.c := by
 show n * p.c + (m * q.c + 0) = n * p.c + m * q.c
 omega
theorem zj {p q : Rw} {n m : Int} (hl : p.xs.length = 10) : cx [p.tm, q.tm] [n, m] = jz n m p.xs q.xs p.xs.length := by
 show (List.range 10).map _ = jz _ _ _ _ p.xs.length
 rw [hl]
 unfold jz
 apply List.map_congr_left
 intro i _
 show n * (bF p.xs).getD i 0 + (m * (bF q.xs).getD i 0 + 0) = _
 rw [e6, e6]
 show n * p.xs.getD i default + (m * q.xs.getD i default + 0) = _
 omega
theorem rk {C : Int} {X Y : List Int} {G : Nat} (hG : G = bk (C :: X ++ Y)) (h0 : 0 < G) (hl : X.length = 10) :
    A1 (lD ⟨C, X, Y⟩ G) = .agg [.d (.int .i64 (C.tdiv G)), .d (bj ((bF X).map fun x => x.tdiv G)), .d (bj (Y.map fun x => x.tdiv G))] ∧
    uV (lD ⟨C, X, Y⟩ G) = ((⟨C.tdiv G, (bF X).map fun x => x.tdiv G⟩ : Tm).ok && (Y.map fun x => x.tdiv G).all num) := by
 have e : bF (X.map fun x => x.tdiv G) = (bF X).map fun x => x.tdiv G := by
  subst hG
  exact wU (r := ⟨C, X, Y⟩) h0
 constructor
 show A.agg [.d (.int .i64 (C.tdiv G)), .d (bj (bF (X.map fun x => x.tdiv G))), .d (bj (Y.map fun x => x.tdiv G))] = _
 rw [e]
 have h1 := yh (r := lD ⟨C, X, Y⟩ G) (by show (X.map _).length = 10; rw [bz, hl])
 have h2 : (lD ⟨C, X, Y⟩ G).tm = ⟨C.tdiv G, (bF X).map fun x => x.tdiv G⟩ := by
  show (⟨C.tdiv G, bF (X.map fun x => x.tdiv G)⟩ : Tm) = _
  rw [e]
 rw [h2] at h1
 rw [h1]; rfl
theorem tC {a b : Int} (ha : -1000000 ≤ a ∧ a ≤ 1000000) (hb : -1000000 ≤ b ∧ b ≤ 1000000) : [a, b].all num = true := by
 simp only [List.all_cons, List.all_nil, Bool.and_true, bP]
 exact ⟨Db.2 ha, Db.2 hb⟩
theorem xx {n : Nat} {p q : Rw} (hp : ROk n p) (hq : ROk n q) : CtxOk [p.tm, q.tm] := ⟨fun t ht => by
 rcases List.mem_cons.1 ht with rfl | ht
 exact hp.tm
 rw [List.mem_singleton.1 ht]; exact hq.tm, by simp⟩
theorem oZ {xs : List Int} : Scal (xs.map fun n => [D.int .i64 n]) := Scal.map fun _ => rfl
theorem CJ {n : Nat} {p q : Rw} {k : Nat} (hp : ROk n p) (hq : ROk n q) (hk : k < 10) (hx : 0 < p.xs.getD k default) (hy : q.xs.getD k default < 0) (hn : n ≤ 1000) : MQ h1 h2 217 [A1 p, A1 q, eI k] [] (Plain (.tup [A1 (eU p q k), eB (uV (eU p q k))])) := by
 refine MC.data (jB 120 h1 h2 Tryz.func217 Z Z Z fun O hF => ?_)
 obtain ⟨hg0, hm0, hn0⟩ := qf hp hq hx hy
 have hb1 := hp.get k
 have hb2 := hq.get k
 have lp := hp.l
 have lq := hq.l
 have lpm := hp.n
 have lqm := hq.n
 have hd1 := dN (a := p.xs.getD k default) (b := ((j5 p q k : Nat) : Int)) (by omega)
 have hd2 := dN (a := -(q.xs.getD k default)) (b := ((j5 p q k : Nat) : Int)) (by omega)
 obtain ⟨m, em⟩ : ∃ m, m = pH p q k := ⟨_, rfl⟩
 obtain ⟨nn, en⟩ : ∃ m, m = pG p q k := ⟨_, rfl⟩
 rw [← em] at hm0
 rw [← en] at hn0
 have hc1 := fB (a := nn) (b := p.c) (by omega) (Db.1 hp.c)
 have hc2 := fB (a := m) (b := q.c) (by omega) (Db.1 hq.c)
 have hpm : ∀ j, -1000000 ≤ p.ms.getD j default ∧ p.ms.getD j default ≤ 1000000 := fun j => by have := hp.mul j; omega
 have hqm : ∀ j, -1000000 ≤ q.ms.getD j default ∧ q.ms.getD j default ≤ 1000000 := fun j => by have := hq.mul j; omega
 refine ah (jx O Z (au ?_))
 refine ay (Ent.freeze 3 (e' := [(3, _), (1, _), (2, _)]) Z (.cons Z (.c (.box (cs := Rw.comb p) Z (aE Z))) (fe [1,2] Z)) (.skip .nil)) ?_
 refine au ?_
 refine jx O Z (au ?_)
 refine ay (Ent.freeze 4 (e' := [(4, _), (3, _), (2, _)]) Z (.cons Z (.c (.box (cs := Rw.comb q) Z (aE Z))) (fe [3,2] Z)) (.skip .nil)) ?_
 refine au ?_
 refine jl O Z (au ?_)
 refine js O Z (jn (ag (gL O [_,_,_,_,_,_,_,_,_,_,_] [pn [] 0 0, pn [0] 0 0, pn [] 0 0, pe [0,1,2] 0, pn [] 0 1, pn [4] 0 1, pn [] 0 1, pe (rg 0 7) 1, pn (rg 0 8) 2 2, pn (rg 0 8) 2 2, pn (rg 0 10) 2 2] [3,7] [_,_,_] (kc O Z (kc O Z (kc O Z (ai (bw O (B0 := 20000) Z Z Z Z ((qR (t := p.tm) (k := k) h1 h2).plain (u := eI (p.xs.getD k default)) (congrArg eI (e6 p.xs k))) (aa Z) Z Z Z Z Z) (ai (kc O Z (V O Z)) (ai (kc O Z (V O Z)) (ai (kc O Z (V O Z)) (ai (bw O (B0 := 24000) Z Z Z Z ((qR (t := q.tm) (k := k) h1 h2).plain (u := eI (q.xs.getD k default)) (congrArg eI (e6 q.xs k))) (aa Z) Z Z Z Z Z) (ai ((cz O Z Z (by omega) (by omega)).cast (v' := eI (-(q.xs.getD k default))) (by rw [Int.zero_sub])) (kc O Z (kc O Z trivial))))))))))) ?_)))
 refine jw [9,8,7,6,4,3] Z (b9 ?_)
 refine ah (j2 O Z Z (AOps.heap (bA O Z Z Z) Z (au ?_)))
 refine jf [27,9,8,7,6,4,3] Z (ap O Z Z Z Z ((xg (xs := [p.xs.getD k default, -(q.xs.getD k default)]) h1 h2 (tC hb1 (by omega))).plain (u := eI (j5 p q k)) (by rw [wM, Int.natAbs_neg])) (.cons (.c (.whole Z Z)) .nil) Z Z Z Z Z (B0 := 29000) Z (js O Z (jf [10,9,8,7,6,4,3] Z (jn (ag (mh O _ [_,_,_,_,_,_,_,_] [pn [] 0 0, pn [] 0 0, pn [0,1] 0 0, pn [] 0 0, pn [] 0 0, pn [3,4] 0 0, pn [0,1,2] 0 0, pn (rg 0 7) 0 0] [] [[], [], [], [8], [8], [8], [], [8]] [_] Z Z (by decide) (by decide) (by kernel_rfl) (kc O Z (kc O Z (ai ((e8 O Z Z Z Z (by omega) (by omega) (by omega)).cast (v' := eI m) (by rw [em])) (kc O Z (kc O Z (ai ((e8 O Z Z Z Z (by omega) (by omega) (by omega)).cast (v' := eI nn) (by rw [en])) (kc O Z (kc O Z trivial)))))))) ?_))))))
 refine ah (j4 O Z Z Z Z (jf [38,36,9,8,34,33,32,31,30,29,10,7,6,4,3] Z (AOps.heap (bE O Z Z Z Z Z Z Z Z Z Z Z) Z (au ?_))))
 refine j2 O Z Z (jf [41,40,39,9,8,34,33,32,31,30,29,10,7,6,4,3] Z (AOps.heap (bA O Z Z Z) Z (au ?_)))
 refine jf [42,39,9,8,34,33,32,31,30,29,10,7,6,4,3] Z (bn O (B0 := 44000) Z Z Z Z (Ck (ts := [p.tm, q.tm]) (ms := [nn, m]) h1 h2 (xx hp hq) (tC (by omega) (by omega)) (cC _)) (.cons (.c (.whole Z Z)) (.cons (.c (.whole Z Z)) .nil)) Z Z Z Z Z Z (au ?_))
 refine jf [43,9,8,34,33,32,31,30,29,10,7,6,4,3] Z ?_
 obtain ⟨C, eC⟩ : ∃ C, C = nn * p.c + m * q.c := ⟨_, rfl⟩
 have hC : -2000000000000 ≤ C ∧ C ≤ 2000000000000 := by omega
 obtain ⟨X, eX⟩ : ∃ X, X = jz nn m p.xs q.xs p.xs.length := ⟨_, rfl⟩
 have lX : X.length = 10 := by rw [eX, bG, lp]
 have hXb : ∀ x ∈ X, -2000000000000 ≤ x ∧ x ≤ 2000000000000 := by rw [eX]; exact lM hn0 hm0 hp.get hq.get
 rw [BZ, zj lp, ← eC, ← eX]
 refine ay (Ent.cut 44000 (bF X).length Z) (au ?_)
 rw [← List.map_take, t6]
 obtain ⟨XT, eT⟩ : ∃ XT, XT = bF X := ⟨_, rfl⟩
 rw [← eT]
 have lT : XT.length ≤ 10 := by rw [eT, ← lX]; exact mt X
 have hTb : ∀ x ∈ XT, -2000000000000 ≤ x ∧ x ≤ 2000000000000 := fun x hx => hXb x (wh (by rwa [eT] at hx))
 refine jl O Z (au ?_)
 refine au ?_
 refine jo O Z (au ?_)
 refine aV (js O Z (jn (ag (ah (j2 O Z Z (cu O Z (js O Z (jf [47,46,12,11,43,9,8,34,33,32,31,30,29,10,7,6,4,3] Z (jn (ao (aq (X := Nat) (fun i => ⟨[(3, ptr p.comb), (4, ptr q.comb), (6, .c (.pt 6 0 0)), (8, eI m), (9, eI nn), (11, .c (.pt 11 0 0)), (12, .c (.rs 900 0 i)), (46, eI p.ms.length), (47, eI i)], [(6, .box [.d (.int .i64 0), .d .nils, .d .nils]), (11, .box [.d (.int .i64 C), .rs 44000 0 XT.length]), (44000, aX XT), (900, aX (jz nn m p.ms q.ms i))]⟩) (fun i => i ≤ p.ms.length) (fun i => p.ms.length - i) 0 (((cb 12 900 1 true Z Z).trans (aw [6,11,44000,900] (e' := [(3, _), (4, _), (6, _), (8, _), (9, _), (11, _), (12, _), (46, _), (47, _)]) Z Z ⟨Z, Z, Z, Z, Z, Z, Z, Z, Z, trivial⟩ Z)).trans (Ent.to ⟨Z, Z, Z, Z, Z, Z, Z, Z, Z, trivial⟩ Z)) ?_ (fun i hi => ?_))))))))))))
 exact ct _
 refine ah (js O Z (jn (ag (ae O Z Z (fun hc48 => ?_) (fun hc48 => ?_)))))
 try simp only [aT] at hc48
 refine aj (ag (ao (ah (j2 O Z Z (jn ?_)))))
 have f1 := fB (a := nn) (b := p.ms.getD i default) (by omega) (hpm i)
 have f2 := fB (a := m) (b := q.ms.getD i default) (by omega) (hqm i)
 refine jA O [_,_,_,_,_,_,_,_,_,_,_,_,_,_,_,_,_,_,_] [pn [] 0 1, pn [] 0 0, pn [] 0 0, pn [2] 0 0, pn [] 0 0, pn [2,3,4] 0 0, pn (rg 2 4) 0 0, pn (rg 1 6) 0 0, pn [] 0 0, pn [] 0 0, pn [9] 0 0, pn [] 0 0, pn [9,10,11] 0 0, pn (rg 9 4) 0 0, pn (rg 8 6) 0 0, pn (rg 1 14) 0 0, pe (rg 1 15) 0, pe (rg 0 17) 1, pn (rg 0 18) 2 2] [16,17] [_,_,_] [[], [900,66]] (ai (ka O Z Z (kw O Z Z)) (ka O Z Z (ka O Z Z (ka O Z Z (ka O Z Z (ai (ai (vN O Z) Z) (ka O Z Z (ai (ai (vF O Z) Z) (ka O Z Z (ka O Z Z (ka O Z Z (ka O Z Z (ai (ai (vN O Z) Z) (ka O Z Z (ai (ai (vF O Z) Z) (ai (ai (vF O Z) Z) (ai (ai (aG (jg O Z Z Z Z Z Z Z Z Z Z Z Z Z)) Z) (ai (ai (dm (zs := (jz nn m p.ms q.ms (i + 1)).map fun n => [.int .i64 n]) (n := i + 1) O Z Z Z Z Z Z Z Z Z Z Z Z Z Z Z Z (.row Z (by simp [bG])) Z Z (by decide) Z (by simp [bG]; omega) (by simp [bG]; omega) (by rw [gS, List.map_append]; rfl) (by simp [bG]) Z) Z) (ka O Z Z trivial))))))))))))))))))) ?_
 refine jw [12,49,48,3,4,6,8,9,11,46,47] Z (b9 ?_)
 refine ak (ji O Z (js O Z (jn ?_)))
 refine ⟨i + 1, ((aw [6,11,44000,67] (e' := [(3, _), (4, _), (6, _), (8, _), (9, _), (11, _), (12, _), (46, _), (47, _)]) Z Z ⟨Z, Z, Z, Z, Z, Z, Z, Z, Z, trivial⟩ Z).trans (af 67 900 Z Z)), by omega, by omega⟩
 try simp only [aT] at hc48
 refine aO (ah ?_)
 obtain rfl : i = p.ms.length := by omega
 obtain ⟨Y, eY⟩ : ∃ Y, Y = jz nn m p.ms q.ms p.ms.length := ⟨_, rfl⟩
 have lYp : Y.length = p.ms.length := by rw [eY, bG]
 have hYb : ∀ x ∈ Y, -2000000000000 ≤ x ∧ x ≤ 2000000000000 := by rw [eY]; exact lM hn0 hm0 hpm hqm
 rw [← eY, ← lYp]
 obtain ⟨G, eG⟩ : ∃ G, G = bk (C :: X ++ Y) := ⟨_, rfl⟩
 have hG : 0 < G ∧ G ≤ 2000000000000 := by rw [eG, eC, eX, eY, em, en]; exact qm hp hq hx hy
 have hq0 := jC (b := (G : Int)) hC
 have hall : ∀ x ∈ C :: XT ++ Y, -4000000000000 ≤ x ∧ x ≤ 4000000000000 := fun x hx => by rcases List.mem_append.1 hx with hx | hx; (rcases List.mem_cons.1 hx with rfl | hx; omega; have := hTb x hx; omega); have := hYb x hx; omega
 refine j2 O Z Z (jf [70,48,3,4,6,8,9,11,12,46,47] Z (AOps.heap (bA O Z Z Z) Z (au ?_)))
 refine au ?_
 refine j2 O Z Z (jf [73,71,48,3,4,6,8,9,11,12,46,47] Z (AOps.heap (aU (own := true) (xs := [[.int .i64 C]]) (ys := XT.map (fun n => [D.int .i64 n])) (zs := (C :: XT).map (fun n => [D.int .i64 n])) (n := (C :: XT).length) O Z Z Z Z Z Z Z Z Z Z Z Z Z Z Z Z (.row Z Z) (.whole Z (bz _).symm (.inl oZ)) (by simp) Z (by simp; omega) (by simp; omega) Z (bz _)) Z (au ?_)))
 refine au ?_
 refine js O Z (jf [75,74,48,3,4,6,8,9,11,12,46,47] Z (AOps.heap (aU (own := true) (xs := (C :: XT).map (fun n => [D.int .i64 n])) (ys := Y.map (fun n => [D.int .i64 n])) (zs := (C :: XT ++ Y).map (fun n => [D.int .i64 n])) (n := (C :: XT ++ Y).length) O Z Z Z Z Z Z Z Z Z Z Z Z Z Z Z Z (.row Z (bz _).symm) (.whole Z (bz _).symm (.inl oZ)) (by simp) Z (by simp; omega) (by simp; omega) (by rw [← List.map_append]) (bz _)) Z (au ?_)))
 refine au ?_
 refine jf [76,48,3,4,6,8,9,11,12,46,47] Z (ap O Z Z Z Z ((Cd (xs := C :: XT ++ Y) h1 h2 hall).plain (u := eI G) (by rw [eT, uo, ← eG])) (.cons (.c (.whole Z (bz _).symm)) .nil) Z Z Z Z Z (B0 := 78000) Z (js O Z (jf [10,48,3,4,6,8,9,11,12,46,47] Z (aV (j3 O Z Z Z (ac (vQ O Z Z Z Z) Z Z Z (js O Z (jf [82,81,10,48,3,4,6,8,9,11,12,46,47] Z (jo O Z (au ?_))))))))))
 refine jf [10,48,3,4,6,8,9,11,12,46,47] Z (jn (ag (ah (j2 O Z Z (dk O Z Z (js O Z (jf [86,85,10,48,3,4,6,8,9,11,12,46,47] Z (jn (ao (aq (X := Nat) (fun i => ⟨[(6, .c (.pt 6 0 0)), (10, eI G), (11, .c (.pt 11 0 0)), (12, .c (.rs 900 0 Y.length)), (85, eI XT.length), (86, eI i)], [(6, .box [.d (.int .i64 0), .d .nils, .d .nils]), (11, .box [.d (.int .i64 (C.tdiv G)), .rs 44000 0 XT.length]), (900, aX Y), (44000, aX (mj XT G i))]⟩) (fun i => i ≤ XT.length) (fun i => XT.length - i) 0 (((aw [6,11,900,44000] (e' := [(6, _), (10, _), (11, _), (12, _), (85, _), (86, _)]) Z Z ⟨Z, Z, Z, Z, Z, Z, trivial⟩ Z)).trans (Ent.to ⟨Z, Z, Z, Z, Z, Z, trivial⟩ (by rw [iZ]; rfl))) ?_ (fun i hi => ?_)))))))))))
 exact ct _
 refine ah (js O Z (jn (ag (ae O Z Z (fun hc87 => ?_) (fun hc87 => ?_)))))
 try simp only [aT] at hc87
 refine aj (ag (ao (ah ?_)))
 have hil : i < XT.length := by omega
 have hxi := jC (b := (G : Int)) (hTb _ (m7 hil))
 refine j2 O Z Z (jn (ak (j3 O Z Z Z (dk O Z Z (ac (aS O (ex := [.int .i64 (XT.getD i default)]) Z Z Z Z (by rw [Nat.zero_add]; exact fc (by omega)) Z) Z Z Z (js O Z (ac (vQ O Z Z Z Z) Z Z Z (dk O Z Z (jf [96,95,88,87,6,10,11,12,85,86] Z (AOps.heap (bg (ex := [.int .i64 (XT.getD i default)]) (xs' := (mj XT G (i + 1)).map (fun n => [D.int .i64 n])) O Z Z Z Z Z Z Z Z Z Z Z Z Z Z (by rw [Nat.zero_add]; exact fc (by omega)) (by rw [← gR (by omega), List.map_set, Nat.zero_add]; rfl)) Z (au ?_)))))))))))
 refine jf [88,87,6,10,11,12,85,86] Z (jn (ak (ji O Z (js O Z (jn ?_)))))
 refine ⟨i + 1, Ent.to ⟨Z, Z, Z, Z, Z, Z, trivial⟩ Z, by omega, by omega⟩
 try simp only [aT] at hc87
 refine aO (ag (ah ?_))
 obtain rfl : i = XT.length := by omega
 rw [jF]
 refine js O Z (dk O Z Z (js O Z (jn (ao (aq (X := Nat) (fun j => ⟨[(6, .c (.pt 6 0 0)), (10, eI G), (11, .c (.pt 11 0 0)), (12, .c (.rs 900 0 Y.length)), (99, eI Y.length), (100, eI j)], [(6, .box [.d (.int .i64 0), .d .nils, .d .nils]), (11, .box [.d (.int .i64 (C.tdiv G)), .rs 44000 0 XT.length]), (900, aX (mj Y G j)), (44000, aX (XT.map fun x => x.tdiv G))]⟩) (fun j => j ≤ Y.length) (fun j => Y.length - j) 0 (((aw [6,11,900,44000] (e' := [(6, _), (10, _), (11, _), (12, _), (99, _), (100, _)]) Z Z ⟨Z, Z, Z, Z, Z, Z, trivial⟩ Z)).trans (Ent.to ⟨Z, Z, Z, Z, Z, Z, trivial⟩ (by rw [iZ]; rfl))) ?_ (fun j hi => ?_))))))
 exact ct _
 refine ah (js O Z (jn (ag (ae O Z Z (fun hc101 => ?_) (fun hc101 => ?_)))))
 try simp only [aT] at hc101
 refine aj (ag (ao (ah ?_)))
 have hjl : j < Y.length := by omega
 have hyj := jC (b := (G : Int)) (hYb _ (m7 hjl))
 refine j2 O Z Z (jn (ak (j2 O Z Z (dk O Z Z (ac (aS O (ex := [.int .i64 (Y.getD j default)]) Z Z Z Z (by rw [Nat.zero_add]; exact fc (by omega)) Z) Z Z Z (js O Z (ac (vQ O Z Z Z Z) Z Z Z (dk O Z Z (jf [109,108,102,101,6,10,11,12,99,100] Z (AOps.heap (bg (ex := [.int .i64 (Y.getD j default)]) (xs' := (mj Y G (j + 1)).map (fun n => [D.int .i64 n])) O Z Z Z Z Z Z Z Z Z Z Z Z Z Z (by rw [Nat.zero_add]; exact fc (by omega)) (by rw [← gR (by omega), List.map_set, Nat.zero_add]; rfl)) Z (au ?_)))))))))))
 refine jf [102,101,6,10,11,12,99,100] Z (jn (ak (ji O Z (js O Z (jn ?_)))))
 refine ⟨j + 1, Ent.to ⟨Z, Z, Z, Z, Z, Z, trivial⟩ Z, by omega, by omega⟩
 try simp only [aT] at hc101
 refine aO (ag ?_)
 cases hb23 : (⟨C.tdiv G, XT.map fun x => x.tdiv G⟩ : Tm).ok with
 | true =>
  obtain rfl : j = Y.length := by omega
  rw [jF]
  refine iq (Ent.freeze 44000 (e' := [(6, _), (11, _), (12, _)]) Z (fe [6,11,12] Z) (.cons Z (.box (fk Z)) (.cons Z (.box (.cons (.keep Z) (.cons (.row Z (by simp)) .nil))) (.cons Z .row (.skip .nil))))) ?_
  refine iq (Ent.freeze 900 (e' := [(6, _), (11, _), (12, _)]) Z (.cons Z (.keep Z) (.cons Z (.keep Z) (.cons Z (.c (.row Z (by simp))) .nil))) (.cons Z (.box (fk Z)) (.cons Z (.box (fk Z)) (.skip .nil)))) ?_
  refine uW O [_,_,_,_,_,_,_,_,_,_,_] [pn [] 0 2, pn [] 0 2, pn [0,1] 0 2, pn [] 0 0, pe [3] 0, pn [3,4] 1 1, pn [3,4,5] 1 1, pe (rg 3 4) 1, pn (rg 3 5) 2 3, pe (rg 0 8) 2, pn (rg 0 10) 3 3] [4,7,9] [_,_,_,_] (ai (kc O Z (kc O Z (V O Z))) (ai (kc O Z (kc O Z (V O Z))) (ai (kc O Z (kc O Z (V O Z))) (kc O Z (ai (bw O (B0 := 116000) Z Z Z Z (mU (t := ⟨C.tdiv G, XT.map fun x => x.tdiv G⟩) h1 h2) (aa Z) Z Z Z Z Z) (ai ((V O Z).cast (v' := eB true) (congrArg eB hb23)) (kc O Z (ai (bw O (B0 := 119000) Z Z Z Z (xj (xs := Y.map fun x => x.tdiv G) h1 h2) (aa Z) Z Z Z Z Z) (ai (ai (cy O Z Z Z Z Z) (cy O Z Z Z Z Z)) (ai (eS O Z Z Z) (kc O Z trivial))))))))))) ?_
  refine jw [7,6,11,12] Z (b9 ?_)
  refine dz ?_
  refine ⟨.inl Z, _, am, _, Z, ?_⟩
  obtain ⟨q1, q2⟩ := rk eG hG.1 lX
  rw [show eU p q k = lD ⟨C, X, Y⟩ G by subst eG; subst eY; subst eX; subst eC; subst em; subst en; rfl, q1, q2, ← eT, hb23, Bool.true_and]
  exact .tup (.cons (.agg (aE Z)) (.cons (.c .d) .nil))
 | false =>
  obtain rfl : j = Y.length := by omega
  rw [jF]
  refine iq (Ent.freeze 44000 (e' := [(6, _), (11, _), (12, _)]) Z (fe [6,11,12] Z) (.cons Z (.box (fk Z)) (.cons Z (.box (.cons (.keep Z) (.cons (.row Z (by simp)) .nil))) (.cons Z .row (.skip .nil))))) ?_
  refine iq (Ent.freeze 900 (e' := [(6, _), (11, _), (12, _)]) Z (.cons Z (.keep Z) (.cons Z (.keep Z) (.cons Z (.c (.row Z (by simp))) .nil))) (.cons Z (.box (fk Z)) (.cons Z (.box (fk Z)) (.skip .nil)))) ?_
  refine uW O [_,_,_,_,_,_,_,_,_,_,_] [pn [] 0 1, pn [] 0 1, pn [0,1] 0 1, pn [] 0 0, pe [3] 0, pn [3,4] 1 1, pn [3,4,5] 0 2, pn (rg 3 4) 0 2, pn (rg 3 5) 1 2, pe (rg 0 8) 1, pn (rg 0 10) 2 2] [4,9] [_,_,_] (ai (kc O Z (V O Z)) (ai (kc O Z (V O Z)) (ai (kc O Z (V O Z)) (kc O Z (ai (bw O (B0 := 116000) Z Z Z Z (mU (t := ⟨C.tdiv G, XT.map fun x => x.tdiv G⟩) h1 h2) (aa Z) Z Z Z Z Z) (ai ((V O Z).cast (v' := eB false) (congrArg eB hb23)) (ai ⟨Z, Z⟩ (ai ⟨Z, Z⟩ (ai (ai (cF O Z Z Z Z Z) (cF O Z Z Z Z Z)) (ai (eS O Z Z Z) (kc O Z trivial))))))))))) ?_
  refine jw [7,6,11,12] Z (b9 ?_)
  refine dz ?_
  refine ⟨.inl Z, _, am, _, Z, ?_⟩
  obtain ⟨q1, q2⟩ := rk eG hG.1 lX
  rw [show eU p q k = lD ⟨C, X, Y⟩ G by subst eG; subst eY; subst eX; subst eC; subst em; subst en; rfl, q1, q2, ← eT, hb23, Bool.false_and]
  exact .tup (.cons (.agg (aE Z)) (.cons (.c .d) .nil))
set_option maxHeartbeats 8000000
abbrev xn (rs : List Rw) : A := .c (.d (.slc 3 (rs.map Rw.comb)))
abbrev iK (rs : List Rw) : B := .row false 3 (rs.map Rw.comb)
abbrev BY (z : List Rw × List Rw × Bool) : A := .tup [xn z.1, xn z.2.1, eB z.2.2]
theorem nC {rs : List Rw} {i : Nat} (h : i < rs.length) : (rs.map Rw.comb)[0 + ((i : Nat) : Int).toNat]? = some (rs.getD i default).comb := by
 rw [Nat.zero_add, Int.toNat_natCast, List.getElem?_map, List.getElem?_eq_getElem h, ax h]; rfl
theorem ue {ts : List Tm} (h : Fs ts) {i : Nat} (hi : i < ts.length) : (qG ts i).comb = [.int .i64 (ts.getD i default).c, bj (ts.getD i default).xs, bj (iD ts.length i)] := by
 have e : (qG ts i).tm = ts.getD i default := xD h hi
 have e1 : bF (qG ts i).xs = (ts.getD i default).xs := congrArg Tm.xs e
 show [D.int .i64 (ts.getD i default).c, bj (bF (qG ts i).xs), bj (iD ts.length i)] = _
 rw [e1]
theorem yJ (hf : Fs ts) : MQ h1 h2 208 [bN ts, bH (gM 10)] [] (Plain (BY (w9 ts))) := by
 refine MC.data (jB 120 h1 h2 Tryz.func208 Z Z Z fun O hF => ?_)
 have hlen := hf.len
 refine ah (j3 O Z Z Z (aV (j2 O Z Z (jn (ag (ah (js O Z (cu O Z (js O Z (jn (ao (aq (X := Nat) (fun i => ⟨[(0, bN ts), (1, bH (gM 10)), (7, .c (.rs 900 0 i)), (8, .c (.d .nils)), (23, bN ts), (24, eI ts.length), (25, eI i)], [(900, iK (eL ts i))]⟩) (fun i => i ≤ ts.length) (fun i => ts.length - i) 0 ((cb 7 900 3 false Z Z).trans (Ent.to ⟨Z, Z, Z, Z, Z, Z, Z, trivial⟩ Z)) ?_ (fun i hi => ?_)))))))))))))
 exact ct _
 refine ah (js O Z (jn (ag (ae O Z Z (fun hc26 => ?_) (fun hc26 => ?_)))))
 refine aj (ag (ao (ah ?_)))
 have hil : i < ts.length := by have := bC hc26; omega
 refine js O Z (iM O Z Z (js O Z (jf [29,27,26,0,1,7,8,23,24,25] Z (jl O Z (au ?_)))))
 refine js O Z (jf [9,10,29,26,0,1,7,8,23,24,25] Z (jo O Z (au ?_)))
 refine aV (js O Z (cu O Z (jf [31,9,10,29,26,0,1,7,8,23,24,25] Z (AOps.heap (ea O Z Z Z Z Z Z Z Z Z (by first | omega | (simp at *; omega)) (by first | omega | (simp at *; omega)) (by first | omega | (simp at *; omega)) (by first | omega | (dsimp only; omega) | (simp only [aT] at *; omega)) (by first | omega | (simp at *; omega)) Z Z Z) Z (au ?_)))))
 refine js O Z (jf [11,9,10,29,26,0,1,7,8,23,24,25] Z (aV (j2 O Z Z (dk O Z Z (jf [35,11,10,29,26,0,1,7,8,23,24,25] Z (AOps.heap (bg (ex := [.int .i64 0]) (xs' := (iD ts.length i).map (fun n => [D.int .i64 n])) O Z Z Z Z Z Z Z Z Z Z Z Z Z Z (by rw [Nat.zero_add, Int.toNat_natCast, List.getElem?_replicate, if_pos (by omega)]) qY) Z ?_))))))
 refine au ?_
 refine jn (ak (ay (Ent.freeze 32 (e' := [(0, _), (1, _), (7, _), (8, _), (10, _), (11, _), (23, _), (24, _), (25, _)]) Z (.cons Z (.keep Z) (.cons Z (.keep Z) (.cons Z (.keep Z) (.cons Z (.keep Z) (.cons Z (.keep Z) (.cons Z (.c (.row Z (by simp [fK]))) (fe [23,24,25] Z))))))) (.cons Z (.box (fk Z)) (.skip (.cons Z .row .nil)))) ?_))
 refine j4 O Z Z Z Z (jf [39,36,0,1,7,8,10,11,23,24,25] Z (AOps.heap (bE O Z Z Z Z Z Z Z Z Z Z Z) Z (au ?_)))
 refine jf [40,36,0,1,7,8,10,11,23,24,25] Z (AOps.heap (aU (own := false) (xs := (eL ts i).map Rw.comb) (ys := [[.int .i64 (ts.getD i default).c, bj (ts.getD i default).xs, bj (iD ts.length i)]]) (zs := (eL ts (i + 1)).map Rw.comb) (n := i + 1) O Z Z Z Z Z Z Z Z Z Z Z Z Z Z Z Z (.row Z (by simp [bR])) (.whole Z Z (.inr ⟨Z, Z⟩)) (by simp) Z (by simp [bR]; omega) (by simp [bR]; omega) (by rw [mw, List.map_append, ← ue hf hil]; rfl) (by simp [bR])) Z (au ?_))
 refine au ?_
 refine js O Z (jf [7,0,1,8,10,11,23,24,25] Z (jn (ak (ji O Z (js O Z (jn ?_))))))
 refine ⟨i + 1, ((aw [41] (e' := [(0, _), (1, _), (7, _), (8, _), (23, _), (24, _), (25, _)]) Z Z ⟨Z, Z, Z, Z, Z, Z, Z, trivial⟩ Z).trans (af 41 900 Z Z)), by omega, by omega⟩
 refine aO (ag (ah ?_))
 obtain rfl : i = ts.length := by have := cH hc26; omega
 refine js O Z (cu O Z (js O Z (jn (ao (aq (X := Nat × List Rw × List Rw) (fun x => ⟨[(43, bH (gM 10)), (44, eI (gM 10).length), (45, eI x.1), (7, .c (.rs 900 0 x.2.1.length)), (8, .c (.rs 901 0 x.2.2.length))], [(900, iK x.2.1), (901, iK x.2.2)]⟩) (fun x => x.1 ≤ 10 ∧ gP (10 - x.1) x.1 x.2.1 x.2.2 = c9 ts ∧ AllR ts.length x.2.1 ∧ x.2.1.length ≤ 60 ∧ AllR ts.length x.2.2 ∧ x.2.2.length ≤ 60 * x.1) (fun x => 10 - x.1) (0, qN ts, []) ((cb 8 901 3 false Z Z).trans (Ent.to ⟨Z, Z, Z, congrArg (fun n => some (A.c (.rs 900 0 n))) bR.symm, Z, trivial⟩ Z)) ?_ (fun x hi => ?_))))))
 exact ⟨ct _, Z, nv hf, by show (eL ts ts.length).length ≤ 60; rw [bR]; omega, AllR.nil, ct _⟩
 refine ah (js O Z (jn (ag (ae O Z Z (fun hc46 => ?_) (fun hc46 => ?_)))))
 refine aj (ag (ao (ah ?_)))
 obtain ⟨hx1, hx2, hx3, hx4, hx5, hx6⟩ := hi
 have hxl : x.1 < 10 := by have := bC hc46; simp only [c6] at this; omega
 obtain ⟨k, ek⟩ : ∃ k, k = x.1 := ⟨_, rfl⟩
 obtain ⟨rs, ers⟩ : ∃ k, k = x.2.1 := ⟨_, rfl⟩
 obtain ⟨NW, eNW⟩ : ∃ k, k = x.2.2 := ⟨_, rfl⟩
 rw [← ek, ← ers, ← eNW] at hx2
 rw [← ers] at hx3 hx4
 rw [← eNW] at hx5 hx6
 rw [← ek] at hx6 hxl
 rw [← ek, ← ers, ← eNW]
 refine ac (aP O Z Z Z Z Z Z Z Z (dc (by rw [c6]; omega))) Z Z Z (ac ((V O Z).cast (v' := eI k) (congrArg eI (wm hxl))) Z Z Z (js O Z (jf [13,46,43,44,45,7,8] Z (aV (js O Z (jn (ag (ah (js O Z (dk O Z Z (js O Z (jn (ao (aq (X := Nat) (fun i => ⟨[(43, bH (gM 10)), (44, eI (gM 10).length), (45, eI k), (7, .c (.rs 900 0 rs.length)), (8, .c (.rs 901 0 NW.length)), (13, eI k), (14, .c (.rs 902 0 (cD k (rs.take i)).length)), (49, .c (.rs 900 0 rs.length)), (50, eI rs.length), (51, eI i)], [(900, iK rs), (901, iK NW), (902, iK (cD k (rs.take i)))]⟩) (fun i => i ≤ rs.length) (fun i => rs.length - i) 0 ((cb 14 902 3 false Z Z).trans (Ent.to ⟨Z, Z, Z, Z, Z, Z, Z, Z, Z, Z, trivial⟩ Z)) ?_ (fun i hi => ?_)))))))))))))))
 exact ct _
 refine ah (js O Z (jn (ag (ae O Z Z (fun hc52 => ?_) (fun hc52 => ?_)))))
 refine aj (ag (ao (ah ?_)))
 have hil : i < rs.length := by have := bC hc52; omega
 have hget := nC hil
 refine dk O Z Z (ac (aS O (ex := (rs.getD i default).comb) Z Z Z Z hget Z) Z Z Z (jf [54,52,43,44,45,7,8,13,14,49,50,51] Z (jl O Z (au ?_))))
 refine jo O Z (au ?_)
 refine aV (j3 O Z Z Z (jf [57,56,16,54,52,43,44,45,7,8,13,14,49,50,51] Z (ap O Z Z Z Z (((qR (t := (rs.getD i default).tm) (k := k) h1 h2).plain (u := eI ((rs.getD i default).xs.getD k default)) (congrArg eI (e6 (rs.getD i default).xs k)))) (aa Z) Z Z Z Z Z (B0 := 59000) Z (js O Z (jf [59,16,54,52,43,44,45,7,8,13,14,49,50,51] Z (jn (ae O Z Z (fun hc59 => ?_) (fun hc59 => ?_))))))))
 refine ak (j2 O Z Z (AOps.heap (bE O Z Z Z Z Z Z Z Z Z Z Z) Z (au ?_)))
 refine jf [62,60,59,16,54,52,43,44,45,7,8,13,14,49,50,51] Z ?_
 have hki := fm (k := k) (rs := rs.take (i + 1))
 have hkj := fm (k := k) (rs := rs.take i)
 rw [List.length_take] at hki hkj
 refine AOps.heap (aU (own := false) (xs := (cD k (rs.take i)).map Rw.comb) (ys := [Rw.comb (rs.getD i default)]) (zs := (cD k (rs.take (i + 1))).map Rw.comb) (n := (cD k (rs.take (i + 1))).length) O Z Z Z Z Z Z Z Z Z Z Z Z Z Z Z Z (.row Z (bz _).symm) (.whole Z Z (.inr ⟨Z, Z⟩)) (by simp) Z (by simp only [bz, ce, dj, dL, List.length_nil]; omega) (by simp only [bz, ce, dj, dL, List.length_nil]; omega) (by rw [tH hil (bC hc59), List.map_append]; rfl) (bz _)) Z (au ?_)
 refine au ?_
 refine js O Z (jf [14,59,16,54,52,43,44,45,7,8,13,49,50,51] Z (jn (ak (ji O Z (js O Z (jn ?_))))))
 refine ⟨i + 1, ((aw [900,901,63] (e' := [(43, _), (44, _), (45, _), (7, _), (8, _), (13, _), (14, _), (49, _), (50, _), (51, _)]) Z Z ⟨Z, Z, Z, Z, Z, Z, Z, Z, Z, Z, trivial⟩ Z).trans (af 63 902 Z Z)), by omega, by omega⟩
 refine aj (ak (ji O Z (js O Z (jn ?_))))
 have hkf := tI (k := k) (i := i) (rs := rs) hil (cH hc59)
 rw [← hkf]
 refine ⟨i + 1, ((aw [900,901,902] (e' := [(43, _), (44, _), (45, _), (7, _), (8, _), (13, _), (14, _), (49, _), (50, _), (51, _)]) Z Z ⟨Z, Z, Z, Z, Z, Z, Z, Z, Z, Z, trivial⟩ Z)).trans (Ent.to ⟨Z, Z, Z, Z, Z, Z, Z, Z, Z, Z, trivial⟩ Z), by omega, by omega⟩
 refine aO (ag (ah ?_))
 have hie : i = rs.length := by have := cH hc52; omega
 subst hie
 rw [List.take_length]
 have hkl := fm (k := k) (rs := rs)
 obtain ⟨KP, eK⟩ : ∃ KP, KP = cD k rs := ⟨_, rfl⟩
 rw [← eK]
 rw [← eK] at hkl
 refine js O Z (dk O Z Z (js O Z (jn (ao (aq (X := Nat × List Rw) (fun y => ⟨[(43, bH (gM 10)), (44, eI (gM 10).length), (45, eI k), (7, .c (.rs 900 0 rs.length)), (8, .c (.rs 901 0 (NW ++ y.2).length)), (13, eI k), (14, .c (.rs 902 0 (KP ++ y.2).length)), (65, .c (.rs 900 0 rs.length)), (66, eI rs.length), (67, eI y.1)], [(900, iK rs), (901, iK (NW ++ y.2)), (902, iK (KP ++ y.2))]⟩) (fun y => y.1 ≤ rs.length ∧ rW k KP.length rs (rs.drop y.1) y.2 = rW k KP.length rs rs [] ∧ AllR ts.length y.2 ∧ (KP ++ y.2).length ≤ 60) (fun y => rs.length - y.1) (0, []) (((aw [900,901,902] (e' := [(43, _), (44, _), (45, _), (7, _), (8, _), (13, _), (14, _), (65, _), (66, _), (67, _)]) Z Z ⟨Z, Z, Z, Z, Z, Z, Z, Z, Z, Z, trivial⟩ Z)).trans (Ent.to ⟨Z, Z, Z, Z, (by simp only [List.append_nil]; rfl), Z, (by simp only [List.append_nil]; rfl), Z, Z, Z, trivial⟩ (by simp only [List.append_nil]; rfl))) ?_ (fun y hi => ?_))))))
 exact ⟨ct _, Z, AllR.nil, by rw [List.append_nil]; omega⟩
 refine ah (js O Z (jn (ag (ae O Z Z (fun hc68 => ?_) (fun hc68 => ?_)))))
 refine aj (ag (ao (ah ?_)))
 obtain ⟨hy1, hy2, hy3, hy4⟩ := hi
 have hyl : y.1 < rs.length := by have := bC hc68; omega
 have hget := nC hyl
 refine dk O Z Z (ac (aS O (ex := (rs.getD y.1 default).comb) Z Z Z Z hget Z) Z Z Z (jf [70,68,43,44,45,7,8,13,14,65,66,67] Z (jl O Z (au ?_))))
 refine jo O Z (au ?_)
 refine aV (js O Z (dk O Z Z (js O Z (jn (ao (aq (X := Nat × List Rw) (fun z => ⟨[(43, bH (gM 10)), (44, eI (gM 10).length), (45, eI k), (7, .c (.rs 900 0 rs.length)), (8, .c (.rs 901 0 (NW ++ z.2).length)), (13, eI k), (14, .c (.rs 902 0 (KP ++ z.2).length)), (65, .c (.rs 900 0 rs.length)), (66, eI rs.length), (67, eI y.1), (18, .c (.pt 18 0 0)), (71, .c (.rs 900 0 rs.length)), (72, eI rs.length), (73, eI z.1)], [(18, .box ((rs.getD y.1 default).comb.map .d)), (900, iK rs), (901, iK (NW ++ z.2)), (902, iK (KP ++ z.2))]⟩) (fun z => z.1 ≤ rs.length ∧ r3 (rs.getD y.1 default) k KP.length (rs.drop z.1) z.2 = r3 (rs.getD y.1 default) k KP.length rs y.2 ∧ AllR ts.length z.2 ∧ (KP ++ z.2).length ≤ 60) (fun z => rs.length - z.1) (0, y.2) (((aw [18,900,901,902] (e' := [(43, _), (44, _), (45, _), (7, _), (8, _), (13, _), (14, _), (65, _), (66, _), (67, _), (18, _), (71, _), (72, _), (73, _)]) Z Z ⟨Z, Z, Z, Z, Z, Z, Z, Z, Z, Z, Z, Z, Z, Z, trivial⟩ Z)).trans (Ent.to ⟨Z, Z, Z, Z, Z, Z, Z, Z, Z, Z, Z, Z, Z, Z, trivial⟩ Z)) ?_ (fun z hi => ?_)))))))
 exact ⟨ct _, Z, hy3, hy4⟩
 refine ah (js O Z (jn (ag (ae O Z Z (fun hc74 => ?_) (fun hc74 => ?_)))))
 refine aj (ag (ao (ah ?_)))
 obtain ⟨hz1, hz2, hz3, hz4⟩ := hi
 have hzl : z.1 < rs.length := by have := bC hc74; omega
 have hgetz := nC hzl
 have hpi := hx3.get hyl
 have hqj := hx3.get hzl
 have hkz := hz4
 have hgj := ru (p := (rs.getD y.1 default)) (k := k) (b := KP.length) (rs := rs) (new := z.2) (j := z.1) hzl
 refine dk O Z Z (ac (aS O (ex := (rs.getD z.1 default).comb) Z Z Z Z hgetz Z) Z Z Z (jf [76,74,43,44,45,7,8,13,14,65,66,67,18,71,72,73] Z (jl O Z (au ?_))))
 refine jo O Z (au ?_)
 refine jn (ag (ah (j3 O Z Z Z (jf [79,78,20,76,74,43,44,45,7,8,13,14,65,66,67,18,71,72,73] Z (ap O Z Z Z Z (((qR (t := (rs.getD y.1 default).tm) (k := k) h1 h2).plain (u := eI ((rs.getD y.1 default).xs.getD k default)) (congrArg eI (e6 (rs.getD y.1 default).xs k)))) (aa Z) Z Z Z Z Z (B0 := 81000) Z (j2 O Z Z (jf [82,20,76,74,43,44,45,7,8,13,14,65,66,67,18,71,72,73] Z (az 5 Z Z Z (fun hx => ab hx Z Z Z (V O Z) Z Z ( ab hx Z Z Z (V O Z) Z Z ( ab hx Z Z Z (V O Z) Z Z ( bv O hx Z Z Z Z (((qR (t := (rs.getD z.1 default).tm) (k := k) h1 h2).plain (u := eI ((rs.getD z.1 default).xs.getD k default)) (congrArg eI (e6 (rs.getD z.1 default).xs k)))) (aa Z) Z Z Z Z Z Z Z (B0 := 87000) Z ( ab hx Z Z Z (V O Z) Z Z ( AN.nil)))))) Z Z (ac (aL O Z Z Z Z Z) Z Z Z (jf [88,20,76,74,43,44,45,7,8,13,14,65,66,67,18,71,72,73] Z (jn (ae O Z Z (fun hc88 => ?_) (fun hc88 => ?_)))))))))))))
 refine aO (ak (ji O Z (js O Z (jn ?_))))
 rw [if_pos (Bp hc88)] at hgj
 refine ⟨(z.1 + 1, z.2), ((aw [18,900,901,902] (e' := [(43, _), (44, _), (45, _), (7, _), (8, _), (13, _), (14, _), (65, _), (66, _), (67, _), (18, _), (71, _), (72, _), (73, _)]) Z Z ⟨Z, Z, Z, Z, Z, Z, Z, Z, Z, Z, Z, Z, Z, Z, trivial⟩ Z)).trans (Ent.to ⟨Z, Z, Z, Z, Z, Z, Z, Z, Z, Z, Z, Z, Z, Z, trivial⟩ Z), ⟨by show z.1 + 1 ≤ _; omega, hgj.symm.trans hz2, hz3, hz4⟩, by show rs.length - (z.1 + 1) < rs.length - z.1; omega⟩
 refine aj (ah ?_)
 have hcc := Bq hc88
 rw [if_neg hcc] at hgj
 have hpk : 0 < (rs.getD y.1 default).xs.getD k default := by omega
 have hqk : (rs.getD z.1 default).xs.getD k default < 0 := by omega
 refine j3 O Z Z Z (ar O Z Z Z Z (CJ (n := ts.length) (p := (rs.getD y.1 default)) (q := (rs.getD z.1 default)) (k := k) h1 h2 hpi hqj hxl hpk hqk (by omega)) (aa Z) Z Z Z Z (B0 := 94000) Z Z (j3 O Z Z Z (jf [95,94,88,20,76,74,43,44,45,7,8,13,14,65,66,67,18,71,72,73] Z (jl O Z (au ?_)))))
 refine jo O Z (au ?_)
 refine js O Z (jf [22,21,88,20,76,74,43,44,45,7,8,13,14,65,66,67,18,71,72,73] Z (jn (ag (ah (j3 O Z Z Z (jf [98,21,88,20,76,74,43,44,45,7,8,13,14,65,66,67,18,71,72,73] Z (az 3 Z Z Z (fun hx => ab hx Z Z Z (V O Z) Z Z ( ab hx Z Z Z (vI O Z Z) Z Z ( ab hx Z Z Z (V O Z) Z Z ( AN.nil)))) Z Z (ac (aL O Z Z Z Z Z) Z Z Z (jf [102,21,88,20,76,74,43,44,45,7,8,13,14,65,66,67,18,71,72,73] Z (jn (ae O Z Z (fun hc102 => ?_) (fun hc102 => ?_))))))))))))
 refine ah (j3 O Z Z Z (jr ?_))
 refine ⟨.inl Z, _, am, _, Z, ?_⟩
 have hno9 := yq hc102
 have hno : ¬ (uV (eU (rs.getD y.1 default) (rs.getD z.1 default) k) = true ∧ KP.length + z.2.length ≠ 60) := fun h => hno9 ⟨h.1, by rw [ce]; exact h.2⟩
 rw [if_neg hno] at hgj
 have hgi := k9 (k := k) (b := KP.length) (rs := rs) (new := y.2) (i := y.1) hyl
 rw [← hz2, hgj] at hgi
 have hs : eJ k rs = none := by show rW k (cD k rs).length rs rs [] = none; rw [← eK, ← hy2]; exact hgi
 have he : c9 ts = none := by rw [← hx2, show 10 - k = (10 - (k + 1)) + 1 by omega, kC hs]
 rw [nG he]
 exact .tup (.cons (.c .nils) (.cons (.c .nils) (.cons (.c .d) .nil)))
 refine aj (ah ?_)
 have hyes9 := yr hc102
 have hyes : uV (eU (rs.getD y.1 default) (rs.getD z.1 default) k) = true ∧ KP.length + z.2.length ≠ 60 := ⟨hyes9.1, by have := hyes9.2; rwa [ce] at this⟩
 have hk59 : KP.length + z.2.length ≤ 60 := by rw [← ce]; exact hkz
 refine j2 O Z Z (AOps.heap (bE O Z Z Z Z Z Z Z Z Z Z Z) Z (au ?_))
 refine jf [105,103,102,21,88,20,76,74,43,44,45,7,8,13,14,65,66,67,18,71,72,73] Z (AOps.heap (aU (own := false) (xs := (KP ++ z.2).map Rw.comb) (ys := [Rw.comb (eU (rs.getD y.1 default) (rs.getD z.1 default) k)]) (zs := (KP ++ (z.2 ++ [eU (rs.getD y.1 default) (rs.getD z.1 default) k])).map Rw.comb) (n := (KP ++ (z.2 ++ [eU (rs.getD y.1 default) (rs.getD z.1 default) k])).length) O Z Z Z Z Z Z Z Z Z Z Z Z Z Z Z Z (.row Z (bz _).symm) (.whole Z Z (.inr ⟨Z, Z⟩)) (by simp) Z (by simp only [bz, ce, dj, dL, List.length_nil]; omega) (by simp only [bz, ce, dj, dL, List.length_nil]; omega) (by rw [← eP, List.map_append (l₁ := KP ++ z.2)]; rfl) (bz _)) Z (au ?_))
 refine au ?_
 refine js O Z (jf [14,102,21,88,20,76,74,43,44,45,7,8,13,65,66,67,18,71,72,73] Z (jn (ak (j2 O Z Z (AOps.heap (bE O Z Z Z Z Z Z Z Z Z Z Z) Z (au ?_))))))
 refine jf [109,107,14,102,21,88,20,76,74,43,44,45,7,8,13,65,66,67,18,71,72,73] Z (AOps.heap (aU (own := false) (xs := (NW ++ z.2).map Rw.comb) (ys := [Rw.comb (eU (rs.getD y.1 default) (rs.getD z.1 default) k)]) (zs := (NW ++ (z.2 ++ [eU (rs.getD y.1 default) (rs.getD z.1 default) k])).map Rw.comb) (n := (NW ++ (z.2 ++ [eU (rs.getD y.1 default) (rs.getD z.1 default) k])).length) O Z Z Z Z Z Z Z Z Z Z Z Z Z Z Z Z (.row Z (bz _).symm) (.whole Z Z (.inr ⟨Z, Z⟩)) (by simp) Z (by simp only [bz, ce, dj, dL, List.length_nil]; omega) (by simp only [bz, ce, dj, dL, List.length_nil]; omega) (by rw [← eP, List.map_append (l₁ := NW ++ z.2)]; rfl) (bz _)) Z (au ?_))
 refine au ?_
 refine js O Z (jf [8,14,102,21,88,20,76,74,43,44,45,7,13,65,66,67,18,71,72,73] Z (jn (ak (ji O Z (js O Z (jn ?_))))))
 rw [if_pos hyes] at hgj
 refine ⟨(z.1 + 1, z.2 ++ [eU (rs.getD y.1 default) (rs.getD z.1 default) k]), ((((aw [18,900,110,106] (e' := [(43, _), (44, _), (45, _), (7, _), (8, _), (13, _), (14, _), (65, _), (66, _), (67, _), (18, _), (71, _), (72, _), (73, _)]) Z Z ⟨Z, Z, Z, Z, Z, Z, Z, Z, Z, Z, Z, Z, Z, Z, trivial⟩ Z).trans (af 110 901 Z Z)).trans (af 106 902 Z Z))).trans (Ent.to ⟨Z, Z, Z, Z, Z, Z, Z, Z, Z, Z, Z, Z, Z, Z, trivial⟩ Z), ⟨by show z.1 + 1 ≤ _; omega, hgj.symm.trans hz2, hz3.snoc (sc hpi hqj hpk hqk hyes.1), by rw [ce] at hkz ⊢; rw [ce, dj]; omega⟩, by show rs.length - (z.1 + 1) < rs.length - z.1; omega⟩
 refine aO (ak (ji O Z (js O Z (jn ?_))))
 obtain ⟨hz1, hz2, hz3, hz4⟩ := hi
 have hze : rs.length ≤ z.1 := by have := cH hc74; omega
 rw [tJ hze] at hz2
 have hgi := k9 (k := k) (b := KP.length) (rs := rs) (new := y.2) (i := y.1) hyl
 rw [← hz2] at hgi
 refine ⟨(y.1 + 1, z.2), ((aw [900,901,902] (e' := [(43, _), (44, _), (45, _), (7, _), (8, _), (13, _), (14, _), (65, _), (66, _), (67, _)]) Z Z ⟨Z, Z, Z, Z, Z, Z, Z, Z, Z, Z, trivial⟩ Z)).trans (Ent.to ⟨Z, Z, Z, Z, Z, Z, Z, Z, Z, Z, trivial⟩ Z), ⟨by show y.1 + 1 ≤ _; omega, hgi.symm.trans hy2, hz3, hz4⟩, by show rs.length - (y.1 + 1) < rs.length - y.1; omega⟩
 refine aO (ag (ah ?_))
 have hk60 := hi.2.2.2
 refine js O Z (dk O Z Z (js O Z (jf [115,68,43,44,45,7,8,13,14,65,66,67] Z (jn (ae O Z Z (fun hc115 => ?_) (fun hc115 => ?_))))))
 exact absurd (bC hc115) (by omega)
 refine aj (ak (j2 O Z Z (jn (ak (ji O Z (js O Z (jn ?_)))))))
 obtain ⟨hy1, hy2, hy3, hy4⟩ := hi
 have hye : rs.length ≤ y.1 := by have := cH hc68; omega
 rw [tK hye] at hy2
 have hs : eJ k rs = some y.2 := by show rW k (cD k rs).length rs rs [] = _; rw [← eK]; exact hy2.symm
 have hso := lY hx3 hx4 hs
 subst eK
 refine ⟨(k + 1, cD k rs ++ y.2, NW ++ y.2), ((((aw [902,901] (e' := [(43, _), (44, _), (45, _), (7, _), (8, _)]) Z Z ⟨Z, Z, Z, Z, Z, trivial⟩ Z).trans (af 902 900 Z Z))).trans (Ent.to ⟨Z, Z, Z, Z, Z, trivial⟩ Z)), ⟨by show k + 1 ≤ 10; omega, ?_, hso.1, hso.2.1, hx5.app hso.2.2.1, ?_⟩, ?_⟩
 show gP (10 - (k + 1)) (k + 1) _ _ = _
 rw [← hx2, show 10 - k = (10 - (k + 1)) + 1 by omega, kB hs]
 show (NW ++ y.2).length ≤ 60 * (k + 1)
 have := hso.2.2.2; rw [ce]; omega
 show 10 - (k + 1) < 10 - k; omega
 refine aO (ah (j4 O Z Z Z Z (js O Z (jf [6,5,4,46,43,44,45,7,8] Z (jr ?_)))))
 refine ⟨.inl Z, _, am, _, Z, ?_⟩
 obtain ⟨hx1, hx2, hx3, hx4, hx5, hx6⟩ := hi
 have hxe : x.1 = 10 := by have := cH hc46; simp only [c6] at this; omega
 rw [hxe] at hx2
 have he : c9 ts = some x.2 := hx2.symm
 rw [f6 he]
 exact .tup (.cons (.c (.whole Z (bz _).symm)) (.cons (.c (.whole Z (bz _).symm)) (.cons (.c .d) .nil)))
theorem yz {L : Nat} (h1 : 4096 ≤ L) (h2 : L ≤ 1073741824) {ts : List Tm} {t : Tm} (h0 : 0 < ts.length) (hl : ts.length ≤ 1000) : MC Tryz.prog L 206 [bN ts, cL t] [] (Plain (bN (ts ++ [t]))) := by
 cases ts with
 | nil => exact absurd h0 (by decide)
 | cons c r => exact Ea (c := c) (r := r) (t := t) h1 h2 hl
def uY (ts : List Tm) : Tm × Rw × Bool := match ew ts with
  | none => (⟨0, []⟩, ⟨0, [], []⟩, false)
  | some r => ((aI ts r.tm).1, r, true)
abbrev BX (z : Tm × Rw × Bool) : A := .tup [cL z.1, A1 z.2.1, eB z.2.2]
theorem lj {ts : List Tm} (h : ew ts = none) : uY ts = (⟨0, []⟩, ⟨0, [], []⟩, false) := by unfold uY; rw [h]
theorem li {ts : List Tm} {r : Rw} (h : ew ts = some r) : uY ts = ((aI ts r.tm).1, r, true) := by unfold uY; rw [h]
theorem zA {ts : List Tm} (h : Fs ts) : (uY ts).1.ok = true := by
 cases hc : ew ts with
 | none => rw [lj hc]; decide
 | some r => rw [li hc]; exact dE (jK h hc).2
theorem CT (hf : Fs ts) : MQ h1 h2 187 [bN ts] [] (Plain (vm (db ts))) := by
 refine MC.data (jB 35 h1 h2 Tryz.func187 Z Z Z fun O hF => ?_)
 refine ah (j2 O Z Z (jn (ag (ah (js O Z (ap O Z Z Z Z ((CN (ts := ts) h1 h2).plain (u := eB true) (congrArg eB hf.all)) (aa Z) Z Z Z Z Z (B0 := 11000) Z (js O Z (jf [11,3,2,0] Z (jn (ae O Z Z (fun hc11 => ?_) (fun hc11 => ?_)))))))))))
 exact absurd hc11 (by decide)
 refine aj (ah (js O Z (jf [13,3,2,0] Z (ar O Z Z Z Z (yI (n := 10) h1 h2 (by omega)) (aa Z) Z Z Z Z (B0 := 15000) Z Z (ar O Z Z Z Z (yJ (ts := ts) h1 h2 hf) (aa Z) Z Z Z Z (B0 := 16000) Z Z (j4 O Z Z Z Z (j3 O Z Z Z (jf [6,4,3,2,0] Z (jn (ag (ah (j2 O Z Z (jf [20,4,3,2,0] Z (jn (ae O Z Z (fun hc20 => ?_) (fun hc20 => ?_))))))))))))))))
 refine ah (j2 O Z Z (jr ?_))
 refine ⟨.inl Z, _, am, _, Z, ?_⟩
 rw [tF (tj (AT hc20))]
 exact .tup (.cons (.c .nils) (.cons (.c .d) .nil))
 refine aj (ag (ah ?_))
 obtain ⟨z, hz⟩ := th (ts := ts) (AC hc20)
 rw [f6 hz]
 obtain ⟨ha, hal, hb, hbl⟩ := gT hf (a := z.1) (b := z.2) hz
 refine js O Z (cu O Z (js O Z (jf [23,22,21,3,2,0] Z (jn (ao (aq (X := Nat) (fun i => ⟨[(21, xn z.1), (22, eI z.1.length), (23, eI i)], []⟩) (fun i => i ≤ z.1.length ∧ gO (z.1.drop i) = gO z.1) (fun i => z.1.length - i) 0 (Ent.to ⟨Z, Z, Z, trivial⟩ Z) ?_ (fun i hi => ?_)))))))
 exact ⟨ct _, Z⟩
 refine ah (js O Z (jn (ag (ae O Z Z (fun hc24 => ?_) (fun hc24 => ?_)))))
 refine aj (ag (ao (ah ?_)))
 have hil : i < z.1.length := by have := bC hc24; omega
 have hfc := n5 (rs := z.1) hil
 refine ac (aP O Z Z Z Z Z Z Z Z (dc hil)) Z Z Z (js O Z (jf [26,24,21,22,23] Z (jl O Z (au ?_))))
 refine jo O Z (au ?_)
 refine aV (j4 O Z Z Z Z (jf [30,8,26,24,21,22,23] Z (jn (ae O Z Z (fun hc30 => ?_) (fun hc30 => ?_)))))
 refine ah (j2 O Z Z (jf [32,30,8,26,24,21,22,23] Z (ar O Z Z Z Z (yA (xs := (z.1.getD i default).ms) h1 h2) (aa Z) Z Z Z Z (B0 := 34000) Z Z (j2 O Z Z (jf [3,2,30,8,26,24,21,22,23] Z (jr ?_))))))
 refine ⟨.inl Z, _, am, _, Z, ?_⟩
 rw [if_pos (bC hc30), hi.2] at hfc
 rw [vH hz hfc]
 exact .tup (.cons (.c .d) (.cons (.c .d) .nil))
 refine aj (ak (ji O Z (js O Z (jn ?_))))
 rw [if_neg (cH hc30)] at hfc
 refine ⟨i + 1, ((aw [] (e' := [(21, _), (22, _), (23, _)]) Z Z ⟨Z, Z, Z, trivial⟩ Z).trans am), ⟨by omega, hfc.symm.trans hi.2⟩, by omega⟩
 refine aO (ah (j2 O Z Z (jr ?_)))
 refine ⟨.inl Z, _, am, _, Z, ?_⟩
 have hle : z.1.length ≤ i := by have := cH hc24; omega
 have h9 := hi.2
 rw [pd hle] at h9
 rw [vJ hz h9.symm]
 exact .tup (.cons (.c .nils) (.cons (.c .d) .nil))
theorem CR (hf : Fs ts) : MQ h1 h2 188 [bN ts] [] (Plain (BX (uY ts))) := by
 refine MC.data (jB 42 h1 h2 Tryz.func188 Z Z Z fun O hF => ?_)
 refine ah (jl O Z (au ?_))
 refine jl O Z (au ?_)
 refine js O Z (aV (js O Z (ar O Z Z Z Z (yI (n := 10) h1 h2 (by omega)) (aa Z) Z Z Z Z (B0 := 15000) Z Z (ar O Z Z Z Z (yJ (ts := ts) h1 h2 hf) (aa Z) Z Z Z Z (B0 := 16000) Z Z (j4 O Z Z Z Z (j3 O Z Z Z (jf [7,6,4,3,2,0] Z (jn (ag (ah (j2 O Z Z (jf [20,6,4,3,2,0] Z (jn (ae O Z Z (fun hc20 => ?_) (fun hc20 => ?_)))))))))))))))
 refine ah (j2 O Z Z (jf [22,21,6,4,3,2,0] Z (jo O Z (au ?_))))
 refine jf [22,6,4,3,2,0] Z (jo O Z (au ?_))
 refine js O Z (jr ?_)
 refine ⟨.inl Z, _, am, _, Z, ?_⟩
 rw [lj (tM (tj (AT hc20)))]
 exact .tup (.cons (.agg (.cons .d (.cons .nils .nil))) (.cons (.agg (.cons .d (.cons .nils (.cons .nils .nil)))) (.cons (.c .d) .nil)))
 refine aj (ag (ah ?_))
 obtain ⟨z, hz⟩ := th (ts := ts) (AC hc20)
 rw [f6 hz]
 obtain ⟨ha, hal, hb, hbl⟩ := gT hf (a := z.1) (b := z.2) hz
 refine js O Z (cu O Z (js O Z (jf [25,24,23,4,3,2,0] Z (jn (ao (aq (X := Nat) (fun i => ⟨[(0, bN ts), (2, .c (.pt 2 0 0)), (3, .c (.pt 3 0 0)), (23, xn z.2), (24, eI z.2.length), (25, eI i)], [(2, .box [.d (.int .i64 0), .d .nils]), (3, .box [.d (.int .i64 0), .d .nils, .d .nils])]⟩) (fun i => i ≤ z.2.length ∧ iI ts (z.2.drop i) = iI ts z.2) (fun i => z.2.length - i) 0 (Ent.to ⟨Z, Z, Z, Z, Z, Z, trivial⟩ Z) ?_ (fun i hi => ?_)))))))
 exact ⟨ct _, Z⟩
 refine ah (js O Z (jn (ag (ae O Z Z (fun hc26 => ?_) (fun hc26 => ?_)))))
 refine aj (ag (ao (ah ?_)))
 have hil : i < z.2.length := by have := bC hc26; omega
 have hfc := n7 (ts := ts) (rs := z.2) hil
 have hro := hb.get hil
 refine ac (aP O Z Z Z Z Z Z Z Z (dc hil)) Z Z Z (js O Z (jf [28,26,0,2,3,23,24,25] Z (jl O Z (au ?_))))
 refine jo O Z (au ?_)
 refine aV (j3 O Z Z Z (jf [32,31,9,28,26,0,2,3,23,24,25] Z (ar O Z Z Z Z (yM (ts := ts) (t := (z.2.getD i default).tm) h1 h2 hro.tm) (aa Z) Z Z Z Z (B0 := 34000) Z Z (j3 O Z Z Z (jf [35,34,9,28,26,0,2,3,23,24,25] Z (jl O Z (au ?_)))))))
 refine jo O Z (au ?_)
 refine js O Z (jf [11,10,9,28,26,0,2,3,23,24,25] Z (aV (js O Z (jn (ae O Z Z (fun hc36 => ?_) (fun hc36 => ?_))))))
 refine ag (gL O [_,_,_,_,_] [pn [] 0 0, pn [] 0 1, pe [0] 0, pe [0,1,2] 1, pn (rg 0 4) 2 2] [2,3] [_,_,_] (kc O Z (ai (kc O Z (V O Z)) (ai (eS O Z Z Z) (ai (eS O Z Z Z) (kc O Z trivial))))) ?_)
 refine jw [4,36,11,10,9,28,26,0,2,3,23,24,25] Z (b9 ?_)
 refine dz ?_
 refine ⟨.inl Z, _, am, _, Z, ?_⟩
 rw [if_pos hc36, hi.2, ← nc hz] at hfc
 rw [li hfc]
 exact .tup (.cons (.agg (aE Z)) (.cons (.agg (aE Z)) (.cons (.c .d) .nil)))
 refine aj (ak (ji O Z (js O Z (jn ?_))))
 rw [if_neg (by rw [hc36]; decide)] at hfc
 refine ⟨i + 1, ((aw [2,3] (e' := [(0, _), (2, _), (3, _), (23, _), (24, _), (25, _)]) Z Z ⟨Z, Z, Z, Z, Z, Z, trivial⟩ Z).trans am), ⟨by omega, hfc.symm.trans hi.2⟩, by omega⟩
 refine aO (ah (j2 O Z Z (jo O Z (au ?_))))
 refine jf [41,26,0,2,3,23,24,25] Z (jo O Z (au ?_))
 refine js O Z (jr ?_)
 refine ⟨.inl Z, _, am, _, Z, ?_⟩
 have hle : z.2.length ≤ i := by have := cH hc26; omega
 have h9 := hi.2
 rw [pf hle, ← nc hz] at h9
 rw [lj h9.symm]
 exact .tup (.cons (.agg (.cons .d (.cons .nils .nil))) (.cons (.agg (.cons .d (.cons .nils (.cons .nils .nil)))) (.cons (.c .d) .nil)))
abbrev fS (b : Int) (s : Wk) (l : Nat) : B := .box [.d (.int .i64 b), .rs l 0 s.1.length, .d (.bool s.2)]
theorem yb {b : Int} {s : Wk} {n : Nd} (h : decide ((s.1.length : Int) = b) = true) : gh b s n = (s.1, true) := if_pos (.inl (bC h))
theorem yd {b : Int} {s : Wk} {n : Nd} (h : (!(n.mul.all co)) = true) : gh b s n = (s.1, true) := if_pos (.inr (by simpa using h))
theorem yc {b : Int} {s : Wk} {n : Nd} (h : decide ((s.1.length : Int) = b) = false) (h2 : (!(n.mul.all co)) = false) : gh b s n = (s.1 ++ [n], s.2) := if_neg (by
  rintro (h3 | h3)
  · exact cH h h3
  · rw [h3] at h2; cases h2)
variable {b : Int}
theorem vv {s : Wk} {n : Nd} {x y : D} (hx : VM [] (.d x) (.d (bj n.term.xs))) (hy : VM [] (.d y) (.d (bj n.mul))) (hl : s.1.length ≤ 1000) : MQ h1 h2 185 [.c (.pt 0 0 0), .agg [.d (.int .i64 n.kind), .d (.int .i64 n.fact), .d (.int .i64 n.term.c), .d x, .d y]] [(0, fS b s 1), (1, cQ s.1)] (bc (.tup []) [(0, fS b (gh b s n) 2), (2, cQ (gh b s n).1)]) := by
 refine aJ 500 Z (jH 34 [500,501] h1 h2 Tryz.func185 Z Z Z Z fun O hF => ?_)
 refine ah (jx O Z (au ?_))
 refine ay (Ent.freeze 3 (e' := [(3, _), (0, _)]) Z (.cons Z (.c (.box (cs := Nd.cells n) Z (.cons .d (.cons .d (.cons .d (.cons hx (.cons hy .nil))))))) (fe [0] Z)) (.skip (.cons Z (.box (fk Z)) (.cons Z .row .nil)))) ?_
 refine au ?_
 refine jn (ag (ag ?_))
 cases hb1 : decide ((s.1.length : Int) = b) with
 | true =>
  refine uW O [_,_,_,_,_,_,_,_,_,_,_,_,_,_,_,_,_] [pn [] 0 0, pn [0] 0 0, pn [0,1] 0 0, pn [0,1,2] 0 0, pn (rg 0 4) 0 0, pe (rg 0 5) 0, pn [] 0 1, pn [6] 0 1, pn [6,7] 0 1, pn [6,7,8] 0 1, pn (rg 0 10) 1 1, pn (rg 0 11) 1 1, pn (rg 0 12) 0 1, pn (rg 0 13) 0 1, pn (rg 0 14) 0 1, pn (rg 0 15) 0 1, pn (rg 0 16) 1 1] [5] [_,_] (kc O Z (kc O Z (kc O Z (kc O Z (ai (vI O Z Z) (ai (bw O (B0 := 10000) Z Z Z Z (vf (n := s.1.length) h1 h2) (aa Z) Z Z Z Z Z) (ai (kc O Z (V O Z)) (ai (kc O Z (V O Z)) (ai (kc O Z (V O Z)) (ai (kc O Z (V O Z)) (kc O Z (ai ((V O Z).cast (v' := eB true) (congrArg eB hb1)) (ai ⟨Z, Z⟩ (ai ⟨Z, Z⟩ (ai ⟨Z, Z⟩ (ai ⟨Z, Z⟩ (ai (cy O Z Z Z Z Z) trivial))))))))))))))))) ?_
  refine jw [20,3,0] Z (b9 ?_)
  refine ae O Z Z (fun hc20 => ?_) (fun hc20 => ?_)
  refine ah (j3 O Z Z Z (jf [23,3,0] Z (jo O Z (au ?_))))
  refine jr ?_
  rw [yb hb1]
  refine ⟨.inl Z, _, ((aw [500,501] (e' := []) Z Z trivial Z).trans (af 501 502 Z Z)), _, Z, Z, Z⟩
  cases hc20
 | false =>
  refine uW O [_,_,_,_,_,_,_,_,_,_,_,_,_,_,_,_,_] [pn [] 0 0, pn [0] 0 0, pn [0,1] 0 0, pn [0,1,2] 0 0, pn (rg 0 4) 0 0, pe (rg 0 5) 0, pn [] 0 1, pn [6] 0 1, pn [6,7] 0 1, pn [6,7,8] 0 1, pn (rg 0 10) 1 1, pn (rg 0 11) 1 1, pn (rg 0 12) 1 1, pn (rg 0 13) 1 1, pe (rg 0 14) 1, pn (rg 0 15) 2 2, pn (rg 0 16) 2 2] [5,14] [_,_,_] (kc O Z (kc O Z (kc O Z (kc O Z (ai (vI O Z Z) (ai (bw O (B0 := 10000) Z Z Z Z (vf (n := s.1.length) h1 h2) (aa Z) Z Z Z Z Z) (ai (kc O Z (V O Z)) (ai (kc O Z (V O Z)) (ai (kc O Z (V O Z)) (ai (kc O Z (V O Z)) (kc O Z (ai ((V O Z).cast (v' := eB false) (congrArg eB hb1)) (kc O Z (kc O Z (ai (bw O (B0 := 19000) Z Z Z Z (xj (xs := Nd.mul n) h1 h2) (aa Z) Z Z Z Z Z) (kc O Z (ai (cF O Z Z Z Z Z) trivial))))))))))))))))) ?_
  refine jw [20,3,0] Z (b9 ?_)
  refine ae O Z Z (fun hc20 => ?_) (fun hc20 => ?_)
  refine ah (j3 O Z Z Z (jf [23,3,0] Z (jo O Z (au ?_))))
  refine jr ?_
  rw [yd hc20]
  refine ⟨.inl Z, _, ((aw [500,501] (e' := []) Z Z trivial Z).trans (af 501 502 Z Z)), _, Z, Z, Z⟩
  refine aj (jw [3,0] Z (jA O [_,_,_,_,_,_,_,_,_,_,_] [pn [] 0 2, pn [] 0 1, pn [1] 0 1, pn [1,2] 0 1, pn [1,2,3] 0 1, pn [] 0 0, pe [5] 0, pe (rg 1 6) 1, pn (rg 0 8) 2 2, pn (rg 0 9) 2 2, pe (rg 0 10) 2] [6,7,10] [_,_,_,_] [[], [501], []] (ai (ka O Z Z (ka O Z Z (kw O Z Z))) (ai (ka O Z Z (kw O Z Z)) (ai (ka O Z Z (kw O Z Z)) (ai (ka O Z Z (kw O Z Z)) (ai (ka O Z Z (kw O Z Z)) (ka O Z Z (ai (ai (aG (ck O Z Z Z Z Z Z Z Z Z Z Z Z Z Z)) Z) (ai (ai (bU (own := false) (xs := s.1.map Nd.cells) (ys := [Nd.cells n]) (zs := (s.1 ++ [n]).map Nd.cells) (n := (s.1 ++ [n]).length) O Z Z Z Z Z Z Z Z Z Z Z Z Z Z Z Z (.row Z (bz _).symm) (.whole Z Z (.inr ⟨Z, Z⟩)) (by simp) Z (by simp only [bz, ce, dj, dL, List.length_nil]; omega) (by simp only [bz, ce, dj, dL, List.length_nil]; omega) (by simp) (bz _) Z) Z) (ka O Z Z (ka O Z Z (ai (ai (aG (eS O Z Z Z)) Z) trivial))))))))))) ?_))
  show _ ∧ _
  rw [yc hb1 hc20]
  refine ⟨.inr Z, _, ((aw [500,31] (e' := []) Z Z trivial Z).trans (af 31 502 Z Z)), _, Z, Z, Z⟩
theorem Aq {s : Wk} (hl : s.1.length ≤ 1000) : MQ h1 h2 185 [.c (.pt 0 0 0), .agg [.d (.int .i64 1), .d (.int .i64 0), .d (.int .i64 0), .d .nils, .rs 2 0 ms.length]] [(0, fS b s 1), (1, cQ s.1), (2, aX ms)] (bc (.tup []) [(0, fS b (gh b s (cR ms)) 3), (3, cQ (gh b s (cR ms)).1)]) := by
 refine aJ 500 Z (jH 34 [500,501,502] h1 h2 Tryz.func185 Z Z Z Z fun O hF => ?_)
 refine ah (jx O Z (au ?_))
 refine ay (Ent.freeze 502 (e' := [(3, _), (0, _)]) Z (fe [3,0] Z) (.cons Z (.box (.cons (.keep Z) (.cons (.keep Z) (.cons (.keep Z) (.cons (.keep Z) (.cons (.row Z (bz _).symm) .nil)))))) (.cons Z (.box (fk Z)) (.cons Z .row (.skip .nil))))) ?_
 refine ay (Ent.freeze 3 (e' := [(3, _), (0, _)]) Z (.cons Z (.c (.box (cs := Nd.cells (cR ms)) Z (.cons .d (.cons .d (.cons .d (.cons .nils (.cons .d .nil))))))) (fe [0] Z)) (.skip (.cons Z (.box (fk Z)) (.cons Z .row .nil)))) ?_
 refine au ?_
 refine jn (ag (ag ?_))
 cases hb1 : decide ((s.1.length : Int) = b) with
 | true =>
  refine uW O [_,_,_,_,_,_,_,_,_,_,_,_,_,_,_,_,_] [pn [] 0 0, pn [0] 0 0, pn [0,1] 0 0, pn [0,1,2] 0 0, pn (rg 0 4) 0 0, pe (rg 0 5) 0, pn [] 0 1, pn [6] 0 1, pn [6,7] 0 1, pn [6,7,8] 0 1, pn (rg 0 10) 1 1, pn (rg 0 11) 1 1, pn (rg 0 12) 0 1, pn (rg 0 13) 0 1, pn (rg 0 14) 0 1, pn (rg 0 15) 0 1, pn (rg 0 16) 1 1] [5] [_,_] (kc O Z (kc O Z (kc O Z (kc O Z (ai (vI O Z Z) (ai (bw O (B0 := 10000) Z Z Z Z (vf (n := s.1.length) h1 h2) (aa Z) Z Z Z Z Z) (ai (kc O Z (V O Z)) (ai (kc O Z (V O Z)) (ai (kc O Z (V O Z)) (ai (kc O Z (V O Z)) (kc O Z (ai ((V O Z).cast (v' := eB true) (congrArg eB hb1)) (ai ⟨Z, Z⟩ (ai ⟨Z, Z⟩ (ai ⟨Z, Z⟩ (ai ⟨Z, Z⟩ (ai (cy O Z Z Z Z Z) trivial))))))))))))))))) ?_
  refine jw [20,3,0] Z (b9 ?_)
  refine ae O Z Z (fun hc20 => ?_) (fun hc20 => ?_)
  refine ah (j3 O Z Z Z (jf [23,3,0] Z (jo O Z (au ?_))))
  refine jr ?_
  rw [yb hb1]
  refine ⟨.inl Z, _, ((aw [500,501] (e' := []) Z Z trivial Z).trans (af 501 503 Z Z)), _, Z, Z, Z⟩
  cases hc20
 | false =>
  refine uW O [_,_,_,_,_,_,_,_,_,_,_,_,_,_,_,_,_] [pn [] 0 0, pn [0] 0 0, pn [0,1] 0 0, pn [0,1,2] 0 0, pn (rg 0 4) 0 0, pe (rg 0 5) 0, pn [] 0 1, pn [6] 0 1, pn [6,7] 0 1, pn [6,7,8] 0 1, pn (rg 0 10) 1 1, pn (rg 0 11) 1 1, pn (rg 0 12) 1 1, pn (rg 0 13) 1 1, pe (rg 0 14) 1, pn (rg 0 15) 2 2, pn (rg 0 16) 2 2] [5,14] [_,_,_] (kc O Z (kc O Z (kc O Z (kc O Z (ai (vI O Z Z) (ai (bw O (B0 := 10000) Z Z Z Z (vf (n := s.1.length) h1 h2) (aa Z) Z Z Z Z Z) (ai (kc O Z (V O Z)) (ai (kc O Z (V O Z)) (ai (kc O Z (V O Z)) (ai (kc O Z (V O Z)) (kc O Z (ai ((V O Z).cast (v' := eB false) (congrArg eB hb1)) (kc O Z (kc O Z (ai (bw O (B0 := 19000) Z Z Z Z (xj (xs := Nd.mul (cR ms)) h1 h2) (aa Z) Z Z Z Z Z) (kc O Z (ai (cF O Z Z Z Z Z) trivial))))))))))))))))) ?_
  refine jw [20,3,0] Z (b9 ?_)
  refine ae O Z Z (fun hc20 => ?_) (fun hc20 => ?_)
  refine ah (j3 O Z Z Z (jf [23,3,0] Z (jo O Z (au ?_))))
  refine jr ?_
  rw [yd hc20]
  refine ⟨.inl Z, _, ((aw [500,501] (e' := []) Z Z trivial Z).trans (af 501 503 Z Z)), _, Z, Z, Z⟩
  refine aj (jw [3,0] Z (jA O [_,_,_,_,_,_,_,_,_,_,_] [pn [] 0 2, pn [] 0 1, pn [1] 0 1, pn [1,2] 0 1, pn [1,2,3] 0 1, pn [] 0 0, pe [5] 0, pe (rg 1 6) 1, pn (rg 0 8) 2 2, pn (rg 0 9) 2 2, pe (rg 0 10) 2] [6,7,10] [_,_,_,_] [[], [501], []] (ai (ka O Z Z (ka O Z Z (kw O Z Z))) (ai (ka O Z Z (kw O Z Z)) (ai (ka O Z Z (kw O Z Z)) (ai (ka O Z Z (kw O Z Z)) (ai (ka O Z Z (kw O Z Z)) (ka O Z Z (ai (ai (aG (ck O Z Z Z Z Z Z Z Z Z Z Z Z Z Z)) Z) (ai (ai (bU (own := false) (xs := s.1.map Nd.cells) (ys := [Nd.cells (cR ms)]) (zs := (s.1 ++ [(cR ms)]).map Nd.cells) (n := (s.1 ++ [(cR ms)]).length) O Z Z Z Z Z Z Z Z Z Z Z Z Z Z Z Z (.row Z (bz _).symm) (.whole Z Z (.inr ⟨Z, Z⟩)) (by simp) Z (by simp only [bz, ce, dj, dL, List.length_nil]; omega) (by simp only [bz, ce, dj, dL, List.length_nil]; omega) (by simp) (bz _) Z) Z) (ka O Z Z (ka O Z Z (ai (ai (aG (eS O Z Z Z)) Z) trivial))))))))))) ?_))
  show _ ∧ _
  rw [yc hb1 hc20]
  refine ⟨.inr Z, _, ((aw [500,31] (e' := []) Z Z trivial Z).trans (af 31 503 Z Z)), _, Z, Z, Z⟩
theorem Ay {ts : List Tm} {s : Wk} (h : decide ((ts.length : Int) = 14) = true) : dM ts s = (s.1, true) := by unfold dM; rw [if_pos (by have := bC h; omega)]
theorem Az {ts : List Tm} {s : Wk} (h : decide ((ts.length : Int) = 14) = false) : dM ts s = s := by unfold dM; rw [if_neg (by have := cH h; omega)]
theorem yL {s : Wk} (h0 : 0 < ts.length) (hl : ts.length ≤ 1000) : MQ h1 h2 186 [.c (.pt 0 0 0), bN ts, cL t] [(0, fS b s 1), (1, cQ s.1)] (bc (bN (ts ++ [t])) [(0, fS b (dM ts s) 1), (1, cQ (dM ts s).1)]) := by
 refine aJ 500 Z (jH 16 [500,501] h1 h2 Tryz.func186 Z Z Z Z fun O hF => ?_)
 refine ah (jx O Z (au ?_))
 refine ay (Ent.freeze 5 (e' := [(5, _), (0, _), (1, _)]) Z (.cons Z (.c (.box (cs := Tm.cells t) Z (aE Z))) (fe [0,1] Z)) (.skip (.cons Z (.box (fk Z)) (.cons Z .row .nil)))) ?_
 refine au ?_
 refine js O Z (jn (ag (ah (js O Z (cu O Z (js O Z (jf [9,6,5,0,1] Z (jn (ae O Z Z (fun hc9 => ?_) (fun hc9 => ?_))))))))))
 refine ak (j3 O Z Z Z (jf [12,6,5,1] Z (jo O Z (au ?_))))
 refine aV (j2 O Z Z (jf [14,13,12,6,1] Z (ar O Z Z Z Z (yz (ts := ts) (t := t) h1 h2 h0 hl) (aa Z) Z Z Z Z (B0 := 16000) Z Z (js O Z (jf [6,12,1] Z (jr ?_))))))
 rw [Ay hc9]
 refine ⟨.inl Z, _, am, _, Z, Z, Z⟩
 refine aj (ah (j2 O Z Z (jf [14,13,6,0,1] Z (ar O Z Z Z Z (yz (ts := ts) (t := t) h1 h2 h0 hl) (aa Z) Z Z Z Z (B0 := 16000) Z Z (js O Z (jf [6,0,1] Z (jr ?_)))))))
 rw [Az hc9]
 refine ⟨.inl Z, _, am, _, Z, Z, Z⟩
structure WkI (b : Int) (g : Nat) (ts : List Tm) (s : Wk) : Prop where
  f : Fs ts ∨ s.2 = true
  a : 15 ≤ g + ts.length
  n0 : 0 < ts.length
  n1 : ts.length ≤ 15
  l : (s.1.length : Int) ≤ b
theorem rI {b : Int} {ts : List Tm} {s : Wk} {n : Nd} (h : (s.1.length : Int) ≤ b) : ((dM ts (gh b s n)).1.length : Int) ≤ b := kM (n := n) h
theorem WkI.add {b : Int} {g : Nat} {ts : List Tm} {s : Wk} {t : Tm} {n : Nd} (h : WkI b (g + 1) ts s) (hf : Fs ts) (ht : t.ok = true) : WkI b g (ts ++ [t]) (dM ts (gh b s n)) := by
 have hl := hf.len
 have ha := h.a
 refine ⟨?_, by rw [ce, dj]; omega, by rw [ce, dj]; omega, by rw [ce, dj]; omega, rI h.l⟩
 by_cases e : ts.length = 14
 exact .inr (by unfold dM; rw [if_pos e])
 exact .inl (hf.snoc ht e)
theorem xq {b : Int} {g : Nat} {T : List Tm} {S : Wk} {i : Nat} (h : S.2 = false) (ht : eR T = some i) : gK b (g + 1) T S = gK b g (T ++ [(aI T (T.getD i default)).1]) (dM T (gh b S (dD i))) := by
 rw [gK, if_neg (by rw [h]; decide), ht]
theorem xt {b : Int} {g : Nat} {T : List Tm} {S : Wk} (h : S.2 = false) (ht : eR T = none) (hr : (db T).2 = true) : gK b (g + 1) T S = gh b S (cR (db T).1) := by
 rw [gK, if_neg (by rw [h]; decide), ht]; simp only; rw [if_pos hr]
theorem xu {b : Int} {g : Nat} {T : List Tm} {S : Wk} (h : S.2 = false) (ht : eR T = none) (hr : (db T).2 = false) (hb : ((uY T).2.2 && (gk (uY T).1).ok) = false) : gK b (g + 1) T S = (S.1, true) := by
 rw [gK, if_neg (by rw [h]; decide), ht]; simp only; rw [if_neg (by rw [hr]; decide)]
 cases hc : ew T with
 | none => rfl
 | some r =>
  rw [li hc, Bool.true_and] at hb
  simp only; rw [if_neg (by rw [oC, hb]; decide)]
theorem xr {b : Int} {g : Nat} {T : List Tm} {S : Wk} {r : Rw} (h : S.2 = false) (ht : eR T = none) (hr : (db T).2 = false) (hc : ew T = some r) (ho : (aR (aI T r.tm).1).2 = true) :
    gK b (g + 1) T S = gh b (gK b g (T ++ [(aI T r.tm).1]) (dM T (gh b S (c5 (aI T r.tm).1)))) (cR (fi r)) := by
 rw [gK, if_neg (by rw [h]; decide), ht]; simp only; rw [if_neg (by rw [hr]; decide), hc]; simp only; rw [if_pos ho]
theorem B9 {ts : List Tm} (h : (uY ts).2.2 = true) : ∃ r, ew ts = some r := by
 cases hc : ew ts with
 | none => rw [lj hc] at h; cases h
 | some r => exact ⟨r, Z⟩
theorem Ar (hb : 1 ≤ b ∧ b ≤ 60) {F : Nat} (ih : ∀ g : Nat, g < F → ∀ (ts : List Tm) (s : Wk), WkI b g ts s → MQ h1 h2 149 [.c (.pt 0 0 0), bN ts] [(0, fS b s 1), (1, cQ s.1)] (bc (.tup []) [(0, fS b (gK b g ts s) 2), (2, cQ (gK b g ts s).1)])) {s : Wk} (hw : WkI b F ts s) : MQ h1 h2 149 [.c (.pt 0 0 0), bN ts] [(0, fS b s 1), (1, cQ s.1)] (bc (.tup []) [(0, fS b (gK b F ts s) 2), (2, cQ (gK b F ts s).1)]) := by
 refine aJ 500 Z (jH 93 [500,501] h1 h2 Tryz.func149 Z Z Z Z fun O hF => ?_)
 refine ao (aq (X := Nat × List Tm × Wk) (fun x => ⟨[(0, .c (.pt 500 0 0)), (1, bN x.2.1)], [(500, fS b x.2.2 902), (902, cQ x.2.2.1)]⟩) (fun x => x.1 ≤ F ∧ WkI b x.1 x.2.1 x.2.2 ∧ gK b x.1 x.2.1 x.2.2 = gK b F ts s) (fun x => 16 - x.2.1.length) (F, ts, s) ((af 501 902 Z Z).trans (Ent.to ⟨Z, Z, trivial⟩ Z)) ?_ (fun x hi => ?_))
 exact ⟨cC _, hw, Z⟩
 refine ag (ah (j4 O Z Z Z Z (js O Z (jf [18,0,1] Z (jn (ae O Z Z (fun hc18 => ?_) (fun hc18 => ?_)))))))
 refine aj (ao (ah ?_))
 obtain ⟨hx1, hx2, hx3⟩ := hi
 have hS2 : x.2.2.2 = false := AT hc18
 have hfs : Fs x.2.1 := hx2.f.resolve_right (by rw [hS2]; decide)
 have hlen := hfs.len
 obtain ⟨T, eT⟩ : ∃ T, T = x.2.1 := ⟨_, rfl⟩
 obtain ⟨S, eS⟩ : ∃ S, S = x.2.2 := ⟨_, rfl⟩
 obtain ⟨g, eg⟩ : ∃ g, x.1 = g + 1 := ⟨x.1 - 1, by have := hx2.a; omega⟩
 rw [← eT, ← eS, eg] at hx2 hx3
 rw [eg] at hx1
 rw [← eT] at hfs hlen
 rw [← eS] at hS2
 rw [← eT, ← eS]
 refine js O Z (jn (ag (ah (js O Z (cu O Z (js O Z (jn (ao (aq (X := Nat) (fun i => ⟨[(0, .c (.pt 500 0 0)), (1, bN T), (4, eB false), (19, bN T), (20, eI T.length), (21, eI i)], [(500, fS b S 902), (902, cQ S.1)]⟩) (fun i => i ≤ T.length ∧ ne T (T.length - i) i = eR T) (fun i => T.length - i) 0 (Ent.to ⟨Z, Z, Z, Z, Z, Z, trivial⟩ Z) ?_ (fun i hi => ?_))))))))))
 exact ⟨ct _, Z⟩
 refine ah (js O Z (jn (ag (ae O Z Z (fun hc22 => ?_) (fun hc22 => ?_)))))
 refine aj (ag (ao (ah ?_)))
 have hil : i < T.length := by have := bC hc22; omega
 have hti := hfs.get hil
 refine js O Z (iM O Z Z (js O Z (jf [25,23,22,0,1,4,19,20,21] Z (jl O Z (au ?_)))))
 refine js O Z (jf [5,6,25,22,0,1,4,19,20,21] Z (jo O Z (au ?_)))
 refine aV (j2 O Z Z (ar O Z Z Z Z (yM (ts := T) (t := T.getD i default) h1 h2 hti) (aa Z) Z Z Z Z (B0 := 30000) Z Z (j3 O Z Z Z (jf [31,30,5,6,25,22,0,1,4,19,20,21] Z (jl O Z (au ?_))))))
 refine jo O Z (au ?_)
 refine js O Z (jf [8,7,5,6,25,22,0,1,4,19,20,21] Z (aV (js O Z (jn (ae O Z Z (fun hc32 => ?_) (fun hc32 => ?_))))))
 refine ah ?_
 have htg := vz hil hc32
 rw [hi.2] at htg
 have hwe := xq (b := b) (g := g) hS2 htg
 refine j3 O Z Z Z (jf [35,33,32,8,7,6,25,22,0,1,4,19,20,21] Z (aB O [500,902] (bin := [fS b S 1, cQ S.1]) Z Z Z Z (vv (b := b) (s := S) (n := dD i) (x := .nils) (y := .nils) h1 h2 .nils .nils (by have := hx2.l; omega)) Z Z Z Z Z Z (B0 := 37000) Z Z (au ?_)))
 refine jf [32,8,7,6,25,22,0,1,4,19,20,21] Z (aV (j3 O Z Z Z (aB O [500,37002] (bin := [fS b (gh b S (dD i)) 1, cQ (gh b S (dD i)).1]) Z Z Z Z (yL (b := b) (s := (gh b S (dD i))) (ts := T) (t := (aI T (T.getD i default)).1) h1 h2 hx2.n0 (by omega)) Z Z Z Z Z Z (B0 := 41000) Z Z (au ?_))))
 refine js O Z (jf [1,32,8,7,6,25,22,0,4,19,20,21] Z (aV (js O Z (jn (aO (ag (ah (js O Z (jn (ae O Z Z (fun hc42 => ?_) (fun hc42 => ?_)))))))))))
 refine aO ?_
 refine ⟨(g, T ++ [(aI T (T.getD i default)).1], dM T (gh b S (dD i))), ((aw [500,37002] (e' := [(0, _), (1, _)]) Z Z ⟨Z, Z, trivial⟩ Z).trans (af 37002 902 Z Z)), ⟨by show g ≤ F; omega, hx2.add hfs (dE hc32), hwe.symm.trans hx3⟩, by show 16 - (T ++ [(aI T (T.getD i default)).1]).length < 16 - T.length; rw [ce, dj]; omega⟩
 cases hc42
 refine aj (ak (ji O Z (js O Z (jn ?_))))
 have hg9 := vA hil hc32
 refine ⟨i + 1, ((aw [500,902] (e' := [(0, _), (1, _), (4, _), (19, _), (20, _), (21, _)]) Z Z ⟨Z, Z, Z, Z, Z, Z, trivial⟩ Z)).trans (Ent.to ⟨Z, Z, Z, Z, Z, Z, trivial⟩ Z), ⟨by omega, hg9.symm.trans hi.2⟩, by omega⟩
 refine aO (ag (ah (js O Z (jn (ae O Z Z (fun hc42 => ?_) (fun hc42 => ?_))))))
 cases hc42
 refine aj (ag (ah ?_))
 have hie : i = T.length := by have := cH hc22; omega
 have h9 := hi.2
 rw [hie, Nat.sub_self] at h9
 have htn : eR T = none := h9.symm
 refine js O Z (ar O Z Z Z Z (CT (ts := T) h1 h2 hfs) (aa Z) Z Z Z Z (B0 := 46000) Z Z (j4 O Z Z Z Z (js O Z (jf [10,9,42,22,0,1,4,19,20,21] Z (aV (js O Z (jn (ae O Z Z (fun hc48 => ?_) (fun hc48 => ?_)))))))))
 refine ah (j3 O Z Z Z (jf [51,49,48,10,42,22,0,1,4,19,20,21] Z (aB O [500,902] (bin := [fS b S 1, cQ S.1]) Z Z Z Z (vv (b := b) (s := S) (n := cR (db T).1) (x := .nils) (y := bj (db T).1) h1 h2 .nils .d (by have := hx2.l; omega)) Z Z Z Z Z Z (B0 := 53000) Z Z (au ?_))))
 refine jf [48,10,42,22,0,1,4,19,20,21] Z (jr ?_)
 rw [← hx3, xt hS2 htn hc48]
 refine ⟨.inl Z, _, ((aw [500,53002] (e' := []) Z Z trivial Z).trans (af 53002 502 Z Z)), _, Z, Z, Z⟩
 refine aj (ah (js O Z (ar O Z Z Z Z (CR (ts := T) h1 h2 hfs) (aa Z) Z Z Z Z (B0 := 56000) Z Z (j4 O Z Z Z Z (jf [58,57,56,48,10,9,42,22,0,1,4,19,20,21] Z (jl O Z (au ?_)))))))
 refine jl O Z (au ?_)
 refine jo O Z (au ?_)
 refine jf [12,11,58,57,48,10,9,42,22,0,1,4,19,20,21] Z (jo O Z (au ?_))
 refine js O Z (jf [13,12,11,48,10,9,42,22,0,1,4,19,20,21] Z (jn (ag (ah (j3 O Z Z Z (jf [61,12,11,48,10,9,42,22,0,1,4,19,20,21] Z (az 4 Z Z Z (fun hx => ab hx Z Z Z (V O Z) Z Z ( pC O hx Z Z Z Z (xh (t := (uY T).1) h1 h2 (zA hfs)) (aa Z) (B0 := 64000) Z Z Z Z Z Z Z Z ( bv O hx Z Z Z Z (mU (t := gk (uY T).1) h1 h2) (aa Z) Z Z Z Z Z Z Z (B0 := 65000) Z ( ab hx Z Z Z (V O Z) Z Z ( AN.nil))))) Z Z (ac (aL O Z Z Z Z Z) Z Z Z (jf [66,12,11,48,10,9,42,22,0,1,4,19,20,21] Z (jn (ae O Z Z (fun hc66 => ?_) (fun hc66 => ?_))))))))))))
 refine ah (j3 O Z Z Z (jf [69,66,12,11,48,10,9,42,22,0,1,4,19,20,21] Z (jo O Z (au ?_))))
 refine jr ?_
 rw [← hx3, xu hS2 htn hc48 (Df hc66)]
 refine ⟨.inl Z, _, ((aw [500,902] (e' := []) Z Z trivial Z).trans (af 902 502 Z Z)), _, Z, Z, Z⟩
 refine aj (ah ?_)
 obtain ⟨hf1, hf2⟩ := C5 hc66
 obtain ⟨r, hcr⟩ := B9 hf1
 obtain ⟨hro, hsr⟩ := jK hfs hcr
 have hTo := dE hsr
 have hrn := hro.n
 rw [li hcr] at hf2 ⊢
 dsimp only
 have hop : (aR (aI T r.tm).1).2 = true := by rw [oC]; exact hf2
 have hwc := xr (b := b) (g := g) hS2 htn hc48 hcr hop
 have hl3 : ((gK b g (T ++ [(aI T r.tm).1]) (dM T (gh b S (c5 (aI T r.tm).1)))).1.length : Int) ≤ b := kN (rI hx2.l)
 refine j2 O Z Z (ar O Z Z Z Z (xl (t := (aI T r.tm).1) h1 h2) (aa Z) Z Z Z Z (B0 := 73000) Z Z (js O Z (jf [73,70,66,12,11,48,10,9,42,22,0,1,4,19,20,21] Z (aB O [500,902] (bin := [fS b S 1, cQ S.1]) Z Z Z Z (vv (b := b) (s := S) (n := c5 (aI T r.tm).1) (x := bj (aI T r.tm).1.xs) (y := .nils) h1 h2 .d .nils (by have := hx2.l; omega)) Z Z Z Z Z Z (B0 := 75000) Z Z (au ?_)))))
 refine jf [66,12,11,48,10,9,42,22,0,1,4,19,20,21] Z (aV (j4 O Z Z Z Z (aB O [500,75002] (bin := [fS b (gh b S (c5 (aI T r.tm).1)) 1, cQ (gh b S (c5 (aI T r.tm).1)).1]) Z Z Z Z (yL (b := b) (s := (gh b S (c5 (aI T r.tm).1))) (ts := T) (t := (aI T r.tm).1) h1 h2 hx2.n0 (by omega)) Z Z Z Z Z Z (B0 := 80000) Z Z (au ?_))))
 refine jf [79,75,66,12,11,48,10,9,42,22,0,1,4,19,20,21] Z (aB O [500,75002] (bin := [fS b (dM T (gh b S (c5 (aI T r.tm).1))) 1, cQ (dM T (gh b S (c5 (aI T r.tm).1))).1]) Z Z Z Z (ih g (by omega) (T ++ [(aI T r.tm).1]) (dM T (gh b S (c5 (aI T r.tm).1))) (hx2.add hfs hTo)) Z Z Z Z Z Z (B0 := 81000) Z Z (au ?_))
 refine jf [66,12,11,48,10,9,42,22,0,1,4,19,20,21] Z (jn (ag (jA O [_,_,_,_,_,_,_,_,_,_,_,_] [pn [] 0 4, pn [] 0 0, pn [1] 0 0, pe [1,2] 0, pn [] 0 1, pn [4] 0 1, pn [4,5] 0 1, pe (rg 1 6) 1, pe (rg 1 7) 2, pe (rg 1 8) 3, pn (rg 1 9) 4 4, pe (rg 0 11) 4] [3,7,8,9,11] [_,_,_,_,_,_] [[], [], [], [85000,89], [81002,90]] (ai (ka O Z Z (ka O Z Z (ka O Z Z (ka O Z Z (kw O Z Z))))) (ka O Z Z (ka O Z Z (ai (ai (aG (dv O (B0 := 85000) Z Z Z Z (ve (xs := r.ms) h1 h2) (aa Z) Z Z Z Z)) Z) (ai (ka O Z Z (kw O Z Z)) (ai (ka O Z Z (kw O Z Z)) (ai (ka O Z Z (kw O Z Z)) (ai (ai (aG (bw O (B0 := 89000) Z Z Z Z (xg (xs := bF r.xs) h1 h2 (Small.of hro.tm).xs) (aa Z) Z Z Z Z Z)) Z) (ai (ai (aG (jg O Z Z Z Z Z Z Z Z Z Z Z Z Z)) Z) (ai (ai (dm (zs := (fi r).map fun n => [.int .i64 n]) (n := (fi r).length) O Z Z Z Z Z Z Z Z Z Z Z Z Z Z Z Z (.row Z (bz _).symm) Z Z (by decide) Z (by simp; omega) (by simp; omega) (List.map_append (f := fun n => [D.int .i64 n]) (l₁ := r.ms) (l₂ := [(bk r.tm.xs : Int)])).symm (bz _) Z) Z) (ka O Z Z (ai (ai (bX O [500,81002,90] [81002,90] (bin := [fS b (gK b g (T ++ [(aI T r.tm).1]) (dM T (gh b S (c5 (aI T r.tm).1)))) 1, cQ (gK b g (T ++ [(aI T r.tm).1]) (dM T (gh b S (c5 (aI T r.tm).1)))).1, aX (fi r)]) Z Z Z Z (Aq (b := b) (s := (gK b g (T ++ [(aI T r.tm).1]) (dM T (gh b S (c5 (aI T r.tm).1))))) (ms := fi r) h1 h2 (by omega)) Z Z Z Z Z (B0 := 93000) Z Z Z Z Z Z Z) Z) trivial)))))))))))) ?_)))
 refine jw [66,12,11,48,10,9,42,22,0,1,4,19,20,21] Z (b9 ?_)
 refine dz ?_
 rw [← hx3, hwc]
 refine ⟨.inl Z, _, ((aw [500,93003] (e' := []) Z Z trivial Z).trans (af 93003 502 Z Z)), _, Z, Z, Z⟩
 refine aO ?_
 show _ ∧ _
 obtain ⟨hx1, hx2, hx3⟩ := hi
 rw [← hx3, f8 (AC hc18)]
 refine ⟨.inr Z, _, ((aw [500,902] (e' := []) Z Z trivial Z).trans (af 902 502 Z Z)), _, Z, Z, Z⟩
theorem yO {L : Nat} (h1 : 4096 ≤ L) (h2 : L ≤ 1073741824) {b : Int} (hb : 1 ≤ b ∧ b ≤ 60) : ∀ (F : Nat) (ts : List Tm) (s : Wk), WkI b F ts s → MC Tryz.prog L 149 [.c (.pt 0 0 0), bN ts] [(0, fS b s 1), (1, cQ s.1)] (bc (.tup []) [(0, fS b (gK b F ts s) 2), (2, cQ (gK b F ts s).1)]) := by
 intro F
 induction F using Nat.strongRecOn with
 | _ F ih => intro ts s hw; exact Ar h1 h2 hb ih hw
theorem rh {s : Sq} {b : Int} (h : ((ox s).2 && gG b) = false) : fw s b = ([], false) := by
 unfold fw
 split
 rename_i h1
 rw [bP] at h1
 rw [h1.2, Bool.and_true, qn h1.1, vX] at h
 exact ny h
 rfl
theorem yw {s : Sq} (hok : (aR s.goal).2 = true) : (pL s).1 = s.facts ++ [(aR s.goal).1] := by unfold pL; rw [if_pos hok]
theorem qV {s : Sq} {b : Int} (hs : dA s = true) (hok : (aR s.goal).2 = true) (hb : 0 ≤ b) :
    ((gK b (15 - (s.facts ++ [(aR s.goal).1]).length) (s.facts ++ [(aR s.goal).1]) ([], false)).2 = true → cI s b = ([], false)) ∧
    ((gK b (15 - (s.facts ++ [(aR s.goal).1]).length) (s.facts ++ [(aR s.goal).1]) ([], false)).2 = false → cI s b = ((gK b (15 - (s.facts ++ [(aR s.goal).1]).length) (s.facts ++ [(aR s.goal).1]) ([], false)).1, true)) := by
 have hf := kO hs hok
 have hlen := hf.len
 obtain ⟨q1, q2⟩ := r8 (b := b) (f := 15 - (s.facts ++ [(aR s.goal).1]).length) (N := []) hf (by omega) (by simpa using hb)
 cases hz : eE (s.facts ++ [(aR s.goal).1]) with
 | none =>
  have h2 := q2 fun z h => by rw [show hZ _ _ = none from hz] at h; cases h
  exact ⟨fun _ => gY hok hz, fun h => by rw [h2] at h; cases h⟩
 | some z =>
  have hpv := lZ (b := b) hok hz
  by_cases hl : ((z.1 ++ z.2).length : Int) ≤ b
  have h1 := q1 z hz (by simp only [List.length_nil]; omega)
  rw [if_pos hl] at hpv
  rw [h1]
  exact ⟨fun h => (by cases h), fun _ => hpv⟩
  rw [if_neg hl] at hpv
  have h2 := q2 fun y hy => by
   rw [show hZ _ _ = some z from hz] at hy
   simp only [eD] at hy; subst hy
   simp only [List.length_nil]; omega
  exact ⟨fun _ => hpv, fun h => by rw [h2] at h; cases h⟩
theorem B2 {s : Sq} {b : Int} (h : (fw s b).2 = true) : dA s = true ∧ gG b = true := by
 unfold fw at h
 split at h
 rename_i h1; simpa using h1
 cases h
theorem qS : MQ h1 h2 104 [eI b] [] (Plain (eB (gG b))) := by
 refine aA ?_ Z
 refine jB 5 h1 h2 Tryz.func104 Z Z Z fun O hF => ?_
 refine ah (js O Z (aV (js O Z (ap O Z Z Z Z (vg h1 h2) (aa Z) Z Z Z Z Z (B0 := 5000) Z (js O Z (jr ?_))))))
 refine ⟨.inl Z, _, am, _, Z, ?_⟩
 rfl
theorem C0 {s : Sq} : MQ h1 h2 105 [AZ s, eI b] [] (Plain (oB (fw s b))) := by
 refine MC.data (jB 36 h1 h2 Tryz.func105 Z Z Z fun O hF => ?_)
 refine ah (jx O Z (au ?_))
 refine ay (Ent.freeze 2 (e' := [(2, _), (1, _)]) Z (.cons Z (.c (.box (cs := Sq.cells s) Z (aE Z))) (fe [1] Z)) (.skip .nil)) ?_
 refine au ?_
 refine j2 O Z Z (aV (js O Z (jf [10,5,4,1] Z (ar O Z Z Z Z (Bm (s := s) h1 h2) (aa Z) Z Z Z Z (B0 := 12000) Z Z (j4 O Z Z Z Z (js O Z (jf [7,6,5,4,1] Z (jn (ag (ah (j3 O Z Z Z (jf [16,6,5,4,1] Z (az 3 Z Z Z (fun hx => ab hx Z Z Z (V O Z) Z Z ( bv O hx Z Z Z Z (qS h1 h2) (aa Z) Z Z Z Z Z Z Z (B0 := 19000) Z ( ab hx Z Z Z (V O Z) Z Z ( AN.nil)))) Z Z (ac (aL O Z Z Z Z Z) Z Z Z (jf [20,6,5,4,1] Z (jn (ae O Z Z (fun hc20 => ?_) (fun hc20 => ?_))))))))))))))))))
 refine ah (j2 O Z Z (jr ?_))
 refine ⟨.inl Z, _, am, _, Z, ?_⟩
 rw [rh (Df hc20)]
 exact f3
 refine aj (ah ?_)
 obtain ⟨hq1, hq2⟩ := C5 hc20
 obtain ⟨hq3, hq4⟩ := si hq1
 have hok : (aR s.goal).2 = true := by rw [oC]; exact hq4
 have hfc := kO hq3 hok
 have hlen := hfc.len
 have hbb := jL hq2
 obtain ⟨hw1, hw2⟩ := qV (b := b) hq3 hok (by omega)
 have hpe := lI (b := b) hq3 hq2
 have hwl : ((gK b (15 - (s.facts ++ [(aR s.goal).1]).length) (s.facts ++ [(aR s.goal).1]) ([], false)).1.length : Int) ≤ b := kN (by show (0 : Int) ≤ b; omega)
 rw [qn hq3, yw hok]
 refine j2 O Z Z (jf [22,6,5,4,1] Z (jx O Z (au ?_)))
 refine js O Z (jf [8,6,5,4,1] Z (aV (j2 O Z Z (jf [25,24,8,5,4,1] Z (ay (cd 23 901 5 false 1 Z Z Z) (aB O [23,901] (bin := [fS b ([], false) 1, cQ []]) Z Z Z Z (yO (b := b) h1 h2 hbb (15 - (s.facts ++ [(aR s.goal).1]).length) (s.facts ++ [(aR s.goal).1]) ([], false) ⟨.inl hfc, by omega, by simp, by omega, by show (0 : Int) ≤ b; omega⟩) Z Z Z Z Z Z (B0 := 27000) Z Z (au ?_)))))))
 refine jf [8,5,4,1] Z (jn (ag (ah (j4 O Z Z Z Z (jf [30,8,5,4,1] Z (jn (ae O Z Z (fun hc30 => ?_) (fun hc30 => ?_))))))))
 refine ah (j2 O Z Z (jr ?_))
 refine ⟨.inl Z, _, am, _, Z, ?_⟩
 rw [hpe, hw1 hc30]
 exact f3
 refine aj (ah (j4 O Z Z Z Z (jf [34,8,5,4,1] Z (bn O (B0 := 36000) Z Z Z Z (yN (ts := (gK b (15 - (s.facts ++ [(aR s.goal).1]).length) (s.facts ++ [(aR s.goal).1]) ([], false)).1) h1 h2) (.cons (.c (.whole Z (bz _).symm)) .nil) Z Z Z Z Z Z (au ?_)))))
 refine j2 O Z Z (jf [5,4,8,1] Z (jr ?_))
 refine ⟨.inl Z, _, am, _, Z, ?_⟩
 rw [hpe, hw2 hc30]
 exact .tup (.cons (.c (.whole Z (bz _).symm)) (.cons (.c .d) .nil))
def pE : List Sq → Nat → Int
  | [], _ => -1
  | u :: us, i => if dA u = true then pE us (i + 1) else (i : Int)
theorem t5 {ss : List Sq} {i : Nat} (h : i < ss.length) : pE (ss.drop i) i = if dA (ss.getD i default) = true then pE (ss.drop (i + 1)) (i + 1) else (i : Int) := by
 rw [List.drop_eq_getElem_cons h, ax h]; rfl
theorem we {ss : List Sq} {i : Nat} (h : ss.length ≤ i) : pE (ss.drop i) i = -1 := by rw [List.drop_of_length_le h]; rfl
theorem qX : ∀ {us : List Sq} {i : Nat}, decide (pE us i ≥ 0) = !us.all dA
 | [], _ => rfl
 | u :: us, i => by
  rw [pE, List.all_cons]
  by_cases h : dA u = true
  rw [if_pos h, h, Bool.true_and]; exact qX
  rw [if_neg h]
  have h' : dA u = false := by simpa using h
  rw [h', Bool.false_and]; exact decide_eq_true (by omega)
theorem CX {s : Sq} : MQ h1 h2 147 [AZ s] [] (Plain (eB (!dA s))) := by
 refine aA ?_ Z
 refine jB 6 h1 h2 Tryz.func147 Z Z Z fun O hF => ?_
 refine ah (jx O Z (js O Z (aV (js O Z (jf [3,2,0] Z (ap O Z Z Z Z (xi (s := s) h1 h2) (aa Z) Z Z Z Z Z (B0 := 5000) Z (j2 O Z Z (jf [2,0] Z (jr ?_)))))))))
 refine ⟨.inl Z, _, am, _, Z, ?_⟩
 rfl
variable {ss : List Sq}
theorem CQ : MQ h1 h2 182 [lE ss, .c (.fn 147 [])] [] (Plain (eI (pE ss 0))) := by
 refine aA ?_ Z
 refine jB 19 h1 h2 Tryz.func182 Z Z Z fun O hF => ?_
 have hl : ss.length ≤ L := by simpa [As.fact, A.fact, M.fact, D.fact, Ds.fact] using hF.1.1
 refine ah (js O Z (jn (ag (ah (js O Z (cu O Z (js O Z (jn (ao (aq (X := Nat) (fun i => ⟨[(0, lE ss), (1, .c (.fn 147 [])), (7, eI ss.length), (8, eI i)], []⟩) (fun i => i ≤ ss.length ∧ pE (ss.drop i) i = pE ss 0) (fun i => ss.length - i) 0 (Ent.env ⟨Z, Z, Z, Z, trivial⟩) ?_ (fun i hi => ?_)))))))))))
 exact ⟨ct _, Z⟩
 refine ah (js O Z (jn (ag (ae O Z Z (fun hc9 => ?_) (fun hc9 => ?_)))))
 refine aj (ag (ao (ah ?_)))
 have hil : i < ss.length := by have := bC hc9; omega
 have hkc := t5 hil
 refine j2 O Z Z (aV (j3 O Z Z Z (iM O Z Z (js O Z (jf [15,11,5,10,9,0,1,7,8] Z (ap O Z Z Z Z (CX (s := ss.getD i default) h1 h2) (aa Z) Z Z Z Z Z (B0 := 17000) Z (jf [16,5,10,9,0,1,7,8] Z (jn (ae O Z Z (fun hc16 => ?_) (fun hc16 => ?_))))))))))
 refine ah (j2 O Z Z (jr ?_))
 refine ⟨.inl Z, _, am, _, Z, ?_⟩
 rw [if_neg (by rw [AT hc16]; decide), hi.2] at hkc
 rw [hkc]
 refine aj (ak (ji O Z (js O Z (jn ?_))))
 rw [if_pos (AC hc16)] at hkc
 exact ⟨i + 1, Ent.env ⟨Z, Z, Z, Z, trivial⟩, ⟨by omega, hkc.symm.trans hi.2⟩, by omega⟩
 refine aO (ah (js O Z (jr ?_)))
 refine ⟨.inl Z, _, am, _, Z, ?_⟩
 have h9 := hi.2
 rw [we (by have := cH hc9; omega)] at h9
 rw [← h9]
theorem CY : MQ h1 h2 146 [lE ss, .c (.fn 147 [])] [] (Plain (eB (!ss.all dA))) := by
 refine aA ?_ Z
 refine jB 9 h1 h2 Tryz.func146 Z Z Z fun O hF => ?_
 refine ah (js O Z (aV (j2 O Z Z (ap O Z Z Z Z (CQ (ss := ss) h1 h2) (.cons (.c .d) (.cons (.c (.fn .nil)) .nil)) Z Z Z Z Z (B0 := 8000) Z (j2 O Z Z (jr ?_))))))
 refine ⟨.inl Z, _, am, _, Z, ?_⟩
 exact congrArg eB qX
theorem vw : MQ h1 h2 103 [lE ss] [] (Plain (eB (tY ss))) := by
 refine aA ?_ Z
 refine jB 11 h1 h2 Tryz.func103 Z Z Z fun O hF => ?_
 refine ah (js O Z (aV (js O Z (cu O Z (j2 O Z Z (az 3 Z Z Z (fun hx => ab hx Z Z Z (V O Z) Z Z ( bv O hx Z Z Z Z (CY (ss := ss) h1 h2) (.cons (.c .d) (.cons (.c (.fn .nil)) .nil)) Z Z Z Z Z Z Z (B0 := 9000) Z ( ab hx Z Z Z (V O Z) Z Z ( AN.nil)))) Z Z (ac (aC O Z Z Z Z Z) Z Z Z (js O Z (jr ?_)))))))))
 refine ⟨.inl Z, _, am, _, Z, ?_⟩
 rw [Bool.cond_false_right, Bool.not_not, Bool.and_comm]; rfl
end Go.Al
