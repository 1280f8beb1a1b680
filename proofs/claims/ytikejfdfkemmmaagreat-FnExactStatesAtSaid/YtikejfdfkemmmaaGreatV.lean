/- The laws of policies and code. -/
import Derived.Test.YtikejfdfkemmmaaGreatW
import Derived.Test.YtikejfdfkemmmaaGreatP
set_option linter.unusedVariables false
set_option linter.unusedSimpArgs false
set_option maxRecDepth 10000
set_option maxHeartbeats 4000000
open Go.Proofs
namespace Go.Al
variable {L : Nat} (h1 : 4096 ≤ L) (h2 : L ≤ 1073741824)
variable {a : An}
theorem xn {P : ce} {r : List (List Int)} {m0 : Nat} (hm0 : m0 = r.length) (hcc : 1 + bC nL r ≤ (1073741824 : Int)) (cs : MQ h1 h2 32 [aPol P, aAn a] [] (Plain (.tup [kK r, eB true]))) (ci : MQ h1 h2 33 [aPol P, aAn a] [] (Rows (.tup [.c (.rs 0 0 m0), eB true]) [gf r])) (hz1 : 0 ≤ bO 1048576 (Al.szs List.length P)) (hz2 : 0 ≤ bO (bO 1048576 (Al.szs List.length P)) a.size) (hcp : 1 + bC nL P + bC nT a.pre + bC nT a.post + bC iz a.code + bC nP a.pts ≤ (1073741824 : Int)) : MQ h1 h2 8 [aPol P, aAn a] [] (Plain (eB true)) := by
 refine aA ?_ Z
 refine jB 119 h1 h2 Tryz.func8 Z Z Z fun O hF => ?_
 subst hm0
 have hbig : L ≤ 9223372036854775807 := Nat.le_trans h2 (by decide)
 refine ac (jx O Z (ao ?_))
 refine jf [2,1] Z (jx O Z (ao ?_))
 refine js O Z (aP (js O Z (aP (j2 O Z Z (ae O Z Z Z Z (ip (P := P) (left := 1048576) h1 hbig (by decide) (by decide)) (aa Z) Z Z Z Z Z (B0 := 20000) Z (js O Z (jf [5,4,3,2,1] Z (jn (af (ac (j2 O Z Z (jn (ab O Z Z (fun hc21 => ?_) (fun hc21 => ?_))))))))))))))
 exact absurd (aR hc21) (by omega)
 refine ah (ac (j2 O Z Z (jf [23,22,20,5,4,3,2,1] Z ?_)))
 have hle0 := eU (left := 1048576) (by decide) (Al.szs List.length P)
 refine ae O Z Z Z Z (wh (a := a) (left := bO 1048576 (Al.szs List.length P)) h1 hbig hz1 (by omega)) (aa Z) Z Z Z Z Z (B0 := 25000) Z (js O Z (jf [5,20,4,3,2,1] Z (jn (af (ac (j2 O Z Z (jn (ab O Z Z (fun hc26 => ?_) (fun hc26 => ?_)))))))))
 exact absurd (aR hc26) (by omega)
 refine ah (af (jw [25,5,20,4,3,2,1] Z (fI O [_,_,_,_,_,_,_,_,_,_] [pn [] 0 0, pe [0] 0, pn [] 0 1, pe [0,1,2] 1, pe (rg 0 4) 2, pn (rg 0 5) 3 3, pn (rg 0 6) 3 3, pn (rg 0 6) 3 3, pn (rg 0 7) 3 3, pn (rg 0 9) 3 3] [1,3,4] [_,_,_,_] (kc O Z (ai (aC O (B0 := 30000) Z Z Z Z (eX (P := P) h1 h2) (aa Z) Z Z Z Z Z) (ai (kc O Z (V O Z)) (ai (aC O (B0 := 32000) Z Z Z Z (mg (a := a) h1 h2) (aa Z) Z Z Z Z Z) (ai (aC O (B0 := 33000) Z Z Z Z (cs) (aa Z) Z Z Z Z Z) (kc O Z (kc O Z (kc O Z (kc O Z (kc O Z trivial)))))))))) ?_)))
 refine jw [7,6,25,5,20,4,3,2,1] Z (ch ?_)
 refine ac (js O Z (aI O (B0 := 37000) Z Z Z Z (nZ (P := P) h1 h2) (aa Z) Z Z Z Z Z Z (ao ?_)))
 refine jf [36,7,6,25,5,20,4,3,2,1] Z (jl O Z (ao ?_))
 refine jo O Z (ao ?_)
 refine aP (js O Z (aI O (B0 := 39000) Z Z Z Z (xY (a := a) h1 h2) (aa Z) Z Z Z Z Z Z (ao ?_)))
 refine jf [38,8,36,7,6,25,5,20,4,3,2,1] Z (jl O Z (ao ?_))
 refine jo O Z (ao ?_)
 refine aP (j2 O Z Z (aI O (B0 := 43000) Z Z Z Z (ci) (.cons (.agg (.cons (.whole Z (bt _).symm) .nil)) (.cons (.agg (.cons (.whole Z (bt _).symm) (.cons (.whole Z (bt _).symm) (.cons (.whole Z (bt _).symm) (.cons (.whole Z (bt _).symm) .nil))))) .nil)) Z Z Z Z Z Z (ao ?_)))
 refine j4 O Z Z Z Z (js O Z (jf [11,10,9,38,8,36,7,6,25,5,20,4,3,2,1] Z (jn (af (ac (j2 O Z Z (ae O Z Z Z Z ((lc (xs := r) (ys := r) h1 h2).plain (u := eB true) (by simp)) (.cons (.c (.whole Z (bt _).symm)) (.cons (.c .d) .nil)) Z Z Z Z Z (B0 := 48000) Z (j2 O Z Z (jf [49,11,10,9,38,8,36,7,6,25,5,20,4,3,2,1] Z (bz Z (js O Z (bz Z (js O Z (bz Z (js O Z (AOps.step (aF O Z Z Z Z Z) Z Z Z (jf [53,11,10,9,38,8,36,7,6,25,5,20,4,3,2,1] Z (jn (ab O Z Z (fun hc53 => ?_) (fun hc53 => ?_))))))))))))))))))))
 exact absurd (show false = true from hc53) (by decide)
 refine ah (af (af (jw [11,10,9,38,8,36,7,6,25,5,20,4,3,2,1] Z (fI O [_,_,_,_,_] [pn [] 0 1, pn [] 0 0, pe [1] 0, pe [0,1,2] 1, pn (rg 0 4) 2 2] [2,3] [_,_,_] (ai (kc O Z (V O Z)) (kc O Z (ai (aC O (B0 := 57000) Z Z Z Z (eX (P := P) h1 h2) (aa Z) Z Z Z Z Z) (ai (bm O (B0 := 58000) Z Z Z Z ((qG (s := P) (t := P) h1 h2).plain (u := eB true) (by simp)) (.cons (.agg (.cons (.whole Z (bt _).symm) .nil)) (.cons (.agg (aq Z)) .nil)) Z Z Z Z Z) (kc O Z trivial))))) ?_))))
 refine jw [58,11,10,9,38,8,36,7,6,25,5,20,4,3,2,1] Z (ch ?_)
 refine ab O Z Z (fun hc58 => ?_) (fun hc58 => ?_)
 exact absurd (show false = true from hc58) (by decide)
 refine ah (af (af (jw [11,10,9,38,8,36,7,6,25,5,20,4,3,2,1] Z (fI O [_,_,_,_,_] [pn [] 0 1, pn [] 0 0, pe [1] 0, pe [0,1,2] 1, pn (rg 0 4) 2 2] [2,3] [_,_,_] (ai (kc O Z (V O Z)) (kc O Z (ai (aC O (B0 := 62000) Z Z Z Z (mg (a := a) h1 h2) (aa Z) Z Z Z Z Z) (ai (bm O (B0 := 63000) Z Z Z Z ((z2 (s := a) (t := a) h1 h2).plain (u := eB true) (by simp)) (.cons (.agg (.cons (.whole Z (bt _).symm) (.cons (.whole Z (bt _).symm) (.cons (.whole Z (bt _).symm) (.cons (.whole Z (bt _).symm) .nil))))) (.cons (.agg (aq Z)) .nil)) Z Z Z Z Z) (kc O Z trivial))))) ?_))))
 refine jw [63,11,10,9,38,8,36,7,6,25,5,20,4,3,2,1] Z (ch ?_)
 refine ab O Z Z (fun hc63 => ?_) (fun hc63 => ?_)
 exact absurd (show false = true from hc63) (by decide)
 refine ah (ac (js O Z (aP (j2 O Z Z (jf [65,64,12,11,10,9,38,8,36,7,6,25,5,20,4,3,2,1] Z (ay O [37000] (bin := [gf P]) Z Z Z Z (vT (P := P) (k := 1) h1 h2 (by decide) (by omega)) Z Z Z Z Z Z (B0 := 67000) Z Z (ao ?_)))))))
 refine js O Z (jf [12,11,10,9,38,8,36,7,6,25,5,20,4,3,2,1] Z (aP (j2 O Z Z (ay O [39000,39001,39002,39003] (bin := [fO a.pre, fO a.post, jR a.code, jO a.pts]) Z Z Z Z (BH (a := a) (k := 1 + bC nL P) h1 h2 (by omega) (by omega)) Z Z Z Z Z Z (B0 := 70000) Z Z (ao ?_)))))
 refine js O Z (jf [12,11,10,9,38,8,36,7,6,25,5,20,4,3,2,1] Z (jn (af (ac (j2 O Z Z ?_)))))
 rw [decide_eq_false (show ¬ (1 + bC nL P + bC nT a.pre + bC nT a.post + bC iz a.code + bC nP a.pts : Int) < 0 by omega)]
 refine js O Z (jf [72,12,11,10,9,38,8,36,7,6,25,5,20,4,3,2,1] Z (bz Z (js O Z (bz Z (js O Z (bz Z (ae O Z Z Z Z ((lc (xs := r) (ys := r) h1 h2).plain (u := eB true) (by simp)) (.cons (.c (.whole Z (bt _).symm)) (.cons (.c .d) .nil)) Z Z Z Z Z (B0 := 76000) Z (jf [75,72,12,11,10,9,38,8,36,7,6,25,5,20,4,3,2,1] Z (bz Z (js O Z (AOps.step (aF O Z Z Z Z Z) Z Z Z (js O Z (jf [78,12,11,10,9,38,8,36,7,6,25,5,20,4,3,2,1] Z (bz Z (js O Z (bz Z (js O Z (bz Z (js O Z (AOps.step (aF O Z Z Z Z Z) Z Z Z (jf [82,12,11,10,9,38,8,36,7,6,25,5,20,4,3,2,1] Z (jn (ab O Z Z (fun hc82 => ?_) (fun hc82 => ?_))))))))))))))))))))))))
 exact absurd (show false = true from hc82) (by decide)
 refine ah (ac (js O Z (aP (j2 O Z Z (jf [84,83,13,12,11,10,9,38,8,36,7,6,25,5,20,4,3,2,1] Z (ay O [43000] (bin := [gf r]) Z Z Z Z (vS (ts := r) (k := 1) h1 h2 (by decide) (by omega)) Z Z Z Z Z Z (B0 := 86000) Z Z (ao ?_)))))))
 refine js O Z (jf [13,12,11,10,9,38,8,36,7,6,25,5,20,4,3,2,1] Z (aP (js O Z (aP (j2 O Z Z (ae O Z Z Z Z (qF (ts := r) (k := 1) h1 h2 (by decide) (by omega)) (.cons (.c (.whole Z (by rw [bt, bv]))) (.cons (.c .d) .nil)) Z Z Z Z Z (B0 := 89000) Z (js O Z (jf [14,13,12,11,10,9,38,8,36,7,6,25,5,20,4,3,2,1] Z (jn (af (ac (j2 O Z Z (jn (ab O Z Z (fun hc90 => ?_) (fun hc90 => ?_)))))))))))))))
 exact absurd (aR hc90) (by omega)
 refine ah (af (ac (j3 O Z Z Z (jf [93,89,14,13,12,11,10,9,38,8,36,7,6,25,5,20,4,3,2,1] Z (jn (ab O Z Z (fun hc93 => ?_) (fun hc93 => ?_)))))))
 exact absurd hc93 (by simp)
 refine ah (af (jw [89,14,13,12,11,10,9,38,8,36,7,6,25,5,20,4,3,2,1] Z (fI O [_,_,_,_,_,_,_,_,_,_] [pn [] 0 0, pe [0] 0, pn [] 0 1, pe [0,1,2] 1, pe (rg 0 4) 2, pn (rg 0 5) 3 3, pn (rg 0 6) 3 3, pn (rg 0 6) 3 3, pn (rg 0 7) 3 3, pn (rg 0 9) 3 3] [1,3,4] [_,_,_,_] (kc O Z (ai (aC O (B0 := 97000) Z Z Z Z (eX (P := P) h1 h2) (aa Z) Z Z Z Z Z) (ai (kc O Z (V O Z)) (ai (aC O (B0 := 99000) Z Z Z Z (mg (a := a) h1 h2) (aa Z) Z Z Z Z Z) (ai (cC O (B0 := 100000) Z Z Z Z (ci) (aa Z) Z Z Z Z Z) (kc O Z (kc O Z (kc O Z (kc O Z (kc O Z trivial)))))))))) ?_)))
 refine jw [16,15,89,14,13,12,11,10,9,38,8,36,7,6,25,5,20,4,3,2,1] Z (ch ?_)
 refine af (ac (j2 O Z Z (jf [103,102,16,89,14,13,12,11,10,9,38,8,36,7,6,25,5,20,4,3,2,1] Z (ae O Z Z Z Z ((lc (xs := r) (ys := r) h1 h2).plain (u := eB true) (by simp)) (.cons (.c (.whole Z (bt _).symm)) (.cons (.c .d) .nil)) Z Z Z Z Z (B0 := 105000) Z (j2 O Z Z (jf [106,16,89,14,13,12,11,10,9,38,8,36,7,6,25,5,20,4,3,2,1] Z (bz Z (js O Z (jf [107,106,89,14,13,12,11,10,9,38,8,36,7,6,25,5,20,4,3,2,1] Z (bz Z (js O Z (bz Z (js O Z (AOps.step (aF O Z Z Z Z Z) Z Z Z (jf [110,89,14,13,12,11,10,9,38,8,36,7,6,25,5,20,4,3,2,1] Z (jn (ab O Z Z (fun hc110 => ?_) (fun hc110 => ?_))))))))))))))))))
 exact absurd (show false = true from hc110) (by decide)
 refine ah (ac (js O Z (aP (j2 O Z Z (jf [112,111,14,89,13,12,11,10,9,38,8,36,7,6,25,5,20,4,3,2,1] Z (ae O Z Z Z Z (qF (ts := r) (k := 1) h1 h2 (by decide) (by omega)) (.cons (.c (.whole Z (by rw [bt, bv]))) (.cons (.c .d) .nil)) Z Z Z Z Z (B0 := 114000) Z (js O Z (jf [14,89,13,12,11,10,9,38,8,36,7,6,25,5,20,4,3,2,1] Z (jn (af (ac (j2 O Z Z (jn (ab O Z Z (fun hc115 => ?_) (fun hc115 => ?_)))))))))))))))
 exact absurd (aR hc115) (by omega)
 refine ah (af (ac (j3 O Z Z Z (jf [118,114,14,89,13,12,11,10,9,38,8,36,7,6,25,5,20,4,3,2,1] Z (jn (ab O Z Z (fun hc118 => ?_) (fun hc118 => ?_)))))))
 exact absurd hc118 (by simp)
 refine ah (ac (js O Z (jr ?_)))
 refine ⟨.inl Z, _, ak, _, Z, ?_⟩
 rfl
theorem px {P : ce} (cs : MQ h1 h2 32 [aPol P, aAn a] [] (Plain (.tup [kK ([] : List (List Int)), eB false]))) (ci : MQ h1 h2 33 [aPol P, aAn a] [] (Rows (.tup [.c (.d .nils), eB false]) [])) (hz1 : 0 ≤ bO 1048576 (Al.szs List.length P)) (hz2 : 0 ≤ bO (bO 1048576 (Al.szs List.length P)) a.size) (hcp : 1 + bC nL P + bC nT a.pre + bC nT a.post + bC iz a.code + bC nP a.pts ≤ (1073741824 : Int)) : MQ h1 h2 8 [aPol P, aAn a] [] (Plain (eB true)) := by
 refine aA ?_ Z
 refine jB 119 h1 h2 Tryz.func8 Z Z Z fun O hF => ?_
 have hbig : L ≤ 9223372036854775807 := Nat.le_trans h2 (by decide)
 refine ac (jx O Z (ao ?_))
 refine jf [2,1] Z (jx O Z (ao ?_))
 refine js O Z (aP (js O Z (aP (j2 O Z Z (ae O Z Z Z Z (ip (P := P) (left := 1048576) h1 hbig (by decide) (by decide)) (aa Z) Z Z Z Z Z (B0 := 20000) Z (js O Z (jf [5,4,3,2,1] Z (jn (af (ac (j2 O Z Z (jn (ab O Z Z (fun hc21 => ?_) (fun hc21 => ?_))))))))))))))
 exact absurd (aR hc21) (by omega)
 refine ah (ac (j2 O Z Z (jf [23,22,20,5,4,3,2,1] Z ?_)))
 have hle0 := eU (left := 1048576) (by decide) (Al.szs List.length P)
 refine ae O Z Z Z Z (wh (a := a) (left := bO 1048576 (Al.szs List.length P)) h1 hbig hz1 (by omega)) (aa Z) Z Z Z Z Z (B0 := 25000) Z (js O Z (jf [5,20,4,3,2,1] Z (jn (af (ac (j2 O Z Z (jn (ab O Z Z (fun hc26 => ?_) (fun hc26 => ?_)))))))))
 exact absurd (aR hc26) (by omega)
 refine ah (af (jw [25,5,20,4,3,2,1] Z (fI O [_,_,_,_,_,_,_,_,_,_] [pn [] 0 0, pe [0] 0, pn [] 0 1, pe [0,1,2] 1, pe (rg 0 4) 2, pn (rg 0 5) 3 3, pn (rg 0 6) 3 3, pn (rg 0 6) 3 3, pn (rg 0 7) 3 3, pn (rg 0 9) 3 3] [1,3,4] [_,_,_,_] (kc O Z (ai (aC O (B0 := 30000) Z Z Z Z (eX (P := P) h1 h2) (aa Z) Z Z Z Z Z) (ai (kc O Z (V O Z)) (ai (aC O (B0 := 32000) Z Z Z Z (mg (a := a) h1 h2) (aa Z) Z Z Z Z Z) (ai (aC O (B0 := 33000) Z Z Z Z (cs) (aa Z) Z Z Z Z Z) (kc O Z (kc O Z (kc O Z (kc O Z (kc O Z trivial)))))))))) ?_)))
 refine jw [7,6,25,5,20,4,3,2,1] Z (ch ?_)
 refine ac (js O Z (aI O (B0 := 37000) Z Z Z Z (nZ (P := P) h1 h2) (aa Z) Z Z Z Z Z Z (ao ?_)))
 refine jf [36,7,6,25,5,20,4,3,2,1] Z (jl O Z (ao ?_))
 refine jo O Z (ao ?_)
 refine aP (js O Z (aI O (B0 := 39000) Z Z Z Z (xY (a := a) h1 h2) (aa Z) Z Z Z Z Z Z (ao ?_)))
 refine jf [38,8,36,7,6,25,5,20,4,3,2,1] Z (jl O Z (ao ?_))
 refine jo O Z (ao ?_)
 refine aP (j2 O Z Z (aI O (B0 := 43000) Z Z Z Z (ci) (.cons (.agg (.cons (.whole Z (bt _).symm) .nil)) (.cons (.agg (.cons (.whole Z (bt _).symm) (.cons (.whole Z (bt _).symm) (.cons (.whole Z (bt _).symm) (.cons (.whole Z (bt _).symm) .nil))))) .nil)) Z Z Z Z Z Z (ao ?_)))
 refine j4 O Z Z Z Z (js O Z (jf [11,10,9,38,8,36,7,6,25,5,20,4,3,2,1] Z (jn (af (ac (j2 O Z Z (ae O Z Z Z Z ((lc (xs := ([] : List (List Int))) (ys := ([] : List (List Int))) h1 h2).plain (u := eB true) (by simp)) (.cons (.c .nils) (.cons (.c .d) .nil)) Z Z Z Z Z (B0 := 48000) Z (j2 O Z Z (jf [49,11,10,9,38,8,36,7,6,25,5,20,4,3,2,1] Z (bz Z (js O Z (bz Z (js O Z (bz Z (js O Z (AOps.step (aF O Z Z Z Z Z) Z Z Z (jf [53,11,10,9,38,8,36,7,6,25,5,20,4,3,2,1] Z (jn (ab O Z Z (fun hc53 => ?_) (fun hc53 => ?_))))))))))))))))))))
 exact absurd (show false = true from hc53) (by decide)
 refine ah (af (af (jw [11,10,9,38,8,36,7,6,25,5,20,4,3,2,1] Z (fI O [_,_,_,_,_] [pn [] 0 1, pn [] 0 0, pe [1] 0, pe [0,1,2] 1, pn (rg 0 4) 2 2] [2,3] [_,_,_] (ai (kc O Z (V O Z)) (kc O Z (ai (aC O (B0 := 57000) Z Z Z Z (eX (P := P) h1 h2) (aa Z) Z Z Z Z Z) (ai (bm O (B0 := 58000) Z Z Z Z ((qG (s := P) (t := P) h1 h2).plain (u := eB true) (by simp)) (.cons (.agg (.cons (.whole Z (bt _).symm) .nil)) (.cons (.agg (aq Z)) .nil)) Z Z Z Z Z) (kc O Z trivial))))) ?_))))
 refine jw [58,11,10,9,38,8,36,7,6,25,5,20,4,3,2,1] Z (ch ?_)
 refine ab O Z Z (fun hc58 => ?_) (fun hc58 => ?_)
 exact absurd (show false = true from hc58) (by decide)
 refine ah (af (af (jw [11,10,9,38,8,36,7,6,25,5,20,4,3,2,1] Z (fI O [_,_,_,_,_] [pn [] 0 1, pn [] 0 0, pe [1] 0, pe [0,1,2] 1, pn (rg 0 4) 2 2] [2,3] [_,_,_] (ai (kc O Z (V O Z)) (kc O Z (ai (aC O (B0 := 62000) Z Z Z Z (mg (a := a) h1 h2) (aa Z) Z Z Z Z Z) (ai (bm O (B0 := 63000) Z Z Z Z ((z2 (s := a) (t := a) h1 h2).plain (u := eB true) (by simp)) (.cons (.agg (.cons (.whole Z (bt _).symm) (.cons (.whole Z (bt _).symm) (.cons (.whole Z (bt _).symm) (.cons (.whole Z (bt _).symm) .nil))))) (.cons (.agg (aq Z)) .nil)) Z Z Z Z Z) (kc O Z trivial))))) ?_))))
 refine jw [63,11,10,9,38,8,36,7,6,25,5,20,4,3,2,1] Z (ch ?_)
 refine ab O Z Z (fun hc63 => ?_) (fun hc63 => ?_)
 exact absurd (show false = true from hc63) (by decide)
 refine ah (ac (js O Z (aP (j2 O Z Z (jf [65,64,12,11,10,9,38,8,36,7,6,25,5,20,4,3,2,1] Z (ay O [37000] (bin := [gf P]) Z Z Z Z (vT (P := P) (k := 1) h1 h2 (by decide) (by omega)) Z Z Z Z Z Z (B0 := 67000) Z Z (ao ?_)))))))
 refine js O Z (jf [12,11,10,9,38,8,36,7,6,25,5,20,4,3,2,1] Z (aP (j2 O Z Z (ay O [39000,39001,39002,39003] (bin := [fO a.pre, fO a.post, jR a.code, jO a.pts]) Z Z Z Z (BH (a := a) (k := 1 + bC nL P) h1 h2 (by omega) (by omega)) Z Z Z Z Z Z (B0 := 70000) Z Z (ao ?_)))))
 refine js O Z (jf [12,11,10,9,38,8,36,7,6,25,5,20,4,3,2,1] Z (jn (af (ac (j2 O Z Z ?_)))))
 rw [decide_eq_false (show ¬ (1 + bC nL P + bC nT a.pre + bC nT a.post + bC iz a.code + bC nP a.pts : Int) < 0 by omega)]
 refine js O Z (jf [72,12,11,10,9,38,8,36,7,6,25,5,20,4,3,2,1] Z (bz Z (js O Z (bz Z (js O Z (bz Z (ae O Z Z Z Z ((lc (xs := ([] : List (List Int))) (ys := ([] : List (List Int))) h1 h2).plain (u := eB true) (by simp)) (.cons (.c .nils) (.cons (.c .d) .nil)) Z Z Z Z Z (B0 := 76000) Z (jf [75,72,12,11,10,9,38,8,36,7,6,25,5,20,4,3,2,1] Z (bz Z (js O Z (AOps.step (aF O Z Z Z Z Z) Z Z Z (js O Z (jf [78,12,11,10,9,38,8,36,7,6,25,5,20,4,3,2,1] Z (bz Z (js O Z (bz Z (js O Z (bz Z (js O Z (AOps.step (aF O Z Z Z Z Z) Z Z Z (jf [82,12,11,10,9,38,8,36,7,6,25,5,20,4,3,2,1] Z (jn (ab O Z Z (fun hc82 => ?_) (fun hc82 => ?_))))))))))))))))))))))))
 exact absurd (show false = true from hc82) (by decide)
 refine ah (ac (js O Z (aP (j2 O Z Z (jf [84,83,13,12,11,10,9,38,8,36,7,6,25,5,20,4,3,2,1] Z (ae O Z Z Z Z (xd (k := 1) h1 h2) (.cons (.c .nils) (.cons (.c .d) .nil)) Z Z Z Z Z (B0 := 86000) Z (js O Z (jf [13,12,11,10,9,38,8,36,7,6,25,5,20,4,3,2,1] Z (aP (js O Z (aP (j2 O Z Z (ae O Z Z Z Z ((qF (ts := ([] : List (List Int))) (k := 1) h1 h2 (by decide) (by decide)).plain (u := eI 1) Z) (.cons (.c .nils) (.cons (.c .d) .nil)) Z Z Z Z Z (B0 := 89000) Z (js O Z (jf [14,13,12,11,10,9,38,8,36,7,6,25,5,20,4,3,2,1] Z (jn (af (ac (j2 O Z Z (jn (ab O Z Z (fun hc90 => ?_) (fun hc90 => ?_))))))))))))))))))))))
 exact absurd (aR hc90) (by decide)
 refine ah (af (ac (j3 O Z Z Z (jf [93,89,14,13,12,11,10,9,38,8,36,7,6,25,5,20,4,3,2,1] Z (jn (ab O Z Z (fun hc93 => ?_) (fun hc93 => ?_)))))))
 exact absurd hc93 (by simp)
 refine ah (af (jw [89,14,13,12,11,10,9,38,8,36,7,6,25,5,20,4,3,2,1] Z (fI O [_,_,_,_,_,_,_,_,_,_] [pn [] 0 0, pe [0] 0, pn [] 0 1, pe [0,1,2] 1, pe (rg 0 4) 2, pn (rg 0 5) 3 3, pn (rg 0 6) 3 3, pn (rg 0 6) 3 3, pn (rg 0 7) 3 3, pn (rg 0 9) 3 3] [1,3,4] [_,_,_,_] (kc O Z (ai (aC O (B0 := 97000) Z Z Z Z (eX (P := P) h1 h2) (aa Z) Z Z Z Z Z) (ai (kc O Z (V O Z)) (ai (aC O (B0 := 99000) Z Z Z Z (mg (a := a) h1 h2) (aa Z) Z Z Z Z Z) (ai (cC O (B0 := 100000) Z Z Z Z (ci) (aa Z) Z Z Z Z Z) (kc O Z (kc O Z (kc O Z (kc O Z (kc O Z trivial)))))))))) ?_)))
 refine jw [16,15,89,14,13,12,11,10,9,38,8,36,7,6,25,5,20,4,3,2,1] Z (ch ?_)
 refine af (ac (j2 O Z Z (jf [103,102,16,89,14,13,12,11,10,9,38,8,36,7,6,25,5,20,4,3,2,1] Z (ae O Z Z Z Z ((lc (xs := ([] : List (List Int))) (ys := ([] : List (List Int))) h1 h2).plain (u := eB true) (by simp)) (.cons (.c .nils) (.cons (.c .d) .nil)) Z Z Z Z Z (B0 := 105000) Z (j2 O Z Z (jf [106,16,89,14,13,12,11,10,9,38,8,36,7,6,25,5,20,4,3,2,1] Z (bz Z (js O Z (jf [107,106,89,14,13,12,11,10,9,38,8,36,7,6,25,5,20,4,3,2,1] Z (bz Z (js O Z (bz Z (js O Z (AOps.step (aF O Z Z Z Z Z) Z Z Z (jf [110,89,14,13,12,11,10,9,38,8,36,7,6,25,5,20,4,3,2,1] Z (jn (ab O Z Z (fun hc110 => ?_) (fun hc110 => ?_))))))))))))))))))
 exact absurd (show false = true from hc110) (by decide)
 refine ah (ac (js O Z (aP (j2 O Z Z (jf [112,111,14,89,13,12,11,10,9,38,8,36,7,6,25,5,20,4,3,2,1] Z (ae O Z Z Z Z ((qF (ts := ([] : List (List Int))) (k := 1) h1 h2 (by decide) (by decide)).plain (u := eI 1) Z) (.cons (.c .nils) (.cons (.c .d) .nil)) Z Z Z Z Z (B0 := 114000) Z (js O Z (jf [14,89,13,12,11,10,9,38,8,36,7,6,25,5,20,4,3,2,1] Z (jn (af (ac (j2 O Z Z (jn (ab O Z Z (fun hc115 => ?_) (fun hc115 => ?_)))))))))))))))
 exact absurd (aR hc115) (by decide)
 refine ah (af (ac (j3 O Z Z Z (jf [118,114,14,89,13,12,11,10,9,38,8,36,7,6,25,5,20,4,3,2,1] Z (jn (ab O Z Z (fun hc118 => ?_) (fun hc118 => ?_)))))))
 exact absurd hc118 (by simp)
 refine ah (ac (js O Z (jr ?_)))
 refine ⟨.inl Z, _, ak, _, Z, ?_⟩
 rfl
theorem xp {L : Nat} (h1 : 4096 ≤ L) (h2 : L ≤ 9223372036854775807) {P : ce} {a : An} (hz : bO 1048576 (Al.szs List.length P) < 0) : MC Tryz.prog L 8 [aPol P, aAn a] [] (Plain (eB true)) := by
 refine aA ?_ Z
 have O := gk (nt := 119) h1 h2
 refine MC.body O Tryz.func8 (by kernel_rfl) Z Z (Nat.le_of_ble_eq_true Z) (fun hF => ?_)
 refine ac (jx O Z (ao ?_))
 refine jf [2,1] Z (jx O Z (ao ?_))
 refine js O Z (aP (js O Z (aP (j2 O Z Z (ae O Z Z Z Z (ip (P := P) (left := 1048576) h1 h2 (by decide) (by decide)) (aa Z) Z Z Z Z Z (B0 := 20000) Z (js O Z (jf [5,4,3,2,1] Z (jn (af (ac (j2 O Z Z (jn (ab O Z Z (fun hc21 => ?_) (fun hc21 => ?_))))))))))))))
 refine ac (js O Z (jr ?_))
 refine ⟨.inl Z, _, ak, _, Z, ?_⟩
 rfl
 exact absurd (bn hc21) (fun h => h hz)
theorem xo {L : Nat} (h1 : 4096 ≤ L) (h2 : L ≤ 9223372036854775807) {P : ce} {a : An} (hz1 : 0 ≤ bO 1048576 (Al.szs List.length P)) (hz : bO (bO 1048576 (Al.szs List.length P)) a.size < 0) : MC Tryz.prog L 8 [aPol P, aAn a] [] (Plain (eB true)) := by
 refine aA ?_ Z
 have O := gk (nt := 119) h1 h2
 refine MC.body O Tryz.func8 (by kernel_rfl) Z Z (Nat.le_of_ble_eq_true Z) (fun hF => ?_)
 refine ac (jx O Z (ao ?_))
 refine jf [2,1] Z (jx O Z (ao ?_))
 refine js O Z (aP (js O Z (aP (j2 O Z Z (ae O Z Z Z Z (ip (P := P) (left := 1048576) h1 h2 (by decide) (by decide)) (aa Z) Z Z Z Z Z (B0 := 20000) Z (js O Z (jf [5,4,3,2,1] Z (jn (af (ac (j2 O Z Z (jn (ab O Z Z (fun hc21 => ?_) (fun hc21 => ?_))))))))))))))
 exact absurd (aR hc21) (Int.not_lt.2 hz1)
 refine ah (ac (j2 O Z Z (jf [23,22,20,5,4,3,2,1] Z ?_)))
 have hle0 := eU (left := 1048576) (by decide) (Al.szs List.length P)
 refine ae O Z Z Z Z (wh (a := a) (left := bO 1048576 (Al.szs List.length P)) h1 h2 hz1 (by omega)) (aa Z) Z Z Z Z Z (B0 := 25000) Z (js O Z (jf [5,20,4,3,2,1] Z (jn (af (ac (j2 O Z Z (jn (ab O Z Z (fun hc26 => ?_) (fun hc26 => ?_)))))))))
 refine ac (js O Z (jr ?_))
 refine ⟨.inl Z, _, ak, _, Z, ?_⟩
 rfl
 exact absurd (bn hc26) (fun h => h hz)
theorem ne {P : ce}  {x : Bool} {y : Bool} (cs : MQ h1 h2 26 [aPol P, aAn a] [] (Plain (.tup [eB x, eB y]))) (ci : MQ h1 h2 28 [aPol P, aAn a] [] (Rows (.tup [eB x, eB y]) [])) (hz1 : 0 ≤ bO 1048576 (Al.szs List.length P)) (hz2 : 0 ≤ bO (bO 1048576 (Al.szs List.length P)) a.size) (hcp : 1 + bC nL P + bC nT a.pre + bC nT a.post + bC iz a.code + bC nP a.pts ≤ (1073741824 : Int)) : MQ h1 h2 6 [aPol P, aAn a] [] (Plain (eB true)) := by
 refine aA ?_ Z
 refine jB 58 h1 h2 Tryz.func6 Z Z Z fun O hF => ?_
 have hbig : L ≤ 9223372036854775807 := Nat.le_trans h2 (by decide)
 refine ac (jx O Z (ao ?_))
 refine jf [2,1] Z (jx O Z (ao ?_))
 refine js O Z (aP (js O Z (aP (j2 O Z Z (ae O Z Z Z Z (ip (P := P) (left := 1048576) h1 hbig (by decide) (by decide)) (aa Z) Z Z Z Z Z (B0 := 15000) Z (js O Z (jf [5,4,3,2,1] Z (jn (af (ac (j2 O Z Z (jn (ab O Z Z (fun hc16 => ?_) (fun hc16 => ?_))))))))))))))
 exact absurd (aR hc16) (by omega)
 refine ah (ac (j2 O Z Z (jf [18,17,15,5,4,3,2,1] Z ?_)))
 have hle0 := eU (left := 1048576) (by decide) (Al.szs List.length P)
 refine ae O Z Z Z Z (wh (a := a) (left := bO 1048576 (Al.szs List.length P)) h1 hbig hz1 (by omega)) (aa Z) Z Z Z Z Z (B0 := 20000) Z (js O Z (jf [5,15,4,3,2,1] Z (jn (af (ac (j2 O Z Z (jn (ab O Z Z (fun hc21 => ?_) (fun hc21 => ?_)))))))))
 exact absurd (aR hc21) (by omega)
 refine ah (af (jw [20,5,15,4,3,2,1] Z (fI O [_,_,_,_,_,_,_,_,_,_] [pn [] 0 0, pe [0] 0, pn [] 0 1, pe [0,1,2] 1, pe (rg 0 4) 2, pn (rg 0 5) 3 3, pn (rg 0 6) 3 3, pn (rg 0 6) 3 3, pn (rg 0 7) 3 3, pn (rg 0 9) 3 3] [1,3,4] [_,_,_,_] (kc O Z (ai (aC O (B0 := 25000) Z Z Z Z (eX (P := P) h1 h2) (aa Z) Z Z Z Z Z) (ai (kc O Z (V O Z)) (ai (aC O (B0 := 27000) Z Z Z Z (mg (a := a) h1 h2) (aa Z) Z Z Z Z Z) (ai (aC O (B0 := 28000) Z Z Z Z (cs) (aa Z) Z Z Z Z Z) (kc O Z (kc O Z (kc O Z (kc O Z (kc O Z trivial)))))))))) ?_)))
 refine jw [7,6,20,5,15,4,3,2,1] Z (ch ?_)
 refine ac (js O Z (aI O (B0 := 32000) Z Z Z Z (nZ (P := P) h1 h2) (aa Z) Z Z Z Z Z Z (ao ?_)))
 refine jf [31,7,6,20,5,15,4,3,2,1] Z (jl O Z (ao ?_))
 refine jo O Z (ao ?_)
 refine aP (js O Z (aI O (B0 := 34000) Z Z Z Z (xY (a := a) h1 h2) (aa Z) Z Z Z Z Z Z (ao ?_)))
 refine jf [33,8,31,7,6,20,5,15,4,3,2,1] Z (jl O Z (ao ?_))
 refine jo O Z (ao ?_)
 refine aP (j2 O Z Z (aI O (B0 := 38000) Z Z Z Z (ci) (.cons (.agg (.cons (.whole Z (bt _).symm) .nil)) (.cons (.agg (.cons (.whole Z (bt _).symm) (.cons (.whole Z (bt _).symm) (.cons (.whole Z (bt _).symm) (.cons (.whole Z (bt _).symm) .nil))))) .nil)) Z Z Z Z Z Z (ao ?_)))
 refine j4 O Z Z Z Z (js O Z (jf [11,10,9,33,8,31,7,6,20,5,15,4,3,2,1] Z (jn (af (ac (j2 O Z Z (AOps.step ((V O Z).cast (v' := eB false) (congrArg eB (by cases x <;> rfl))) rfl rfl rfl (js O Z (jf [43,11,9,33,8,31,7,20,5,15,4,3,2,1] Z (bz Z (js O Z (jf [44,43,9,33,8,31,7,20,5,15,4,3,2,1] Z (bz Z (js O Z (jf [45,44,43,9,33,8,31,20,5,15,4,3,2,1] Z (bz Z (AOps.step ((V O Z).cast (v' := eB false) (congrArg eB (by cases y <;> rfl))) rfl rfl rfl (AOps.step (aF O Z Z Z Z Z) Z Z Z (jf [47,9,33,8,31,20,5,15,4,3,2,1] Z (jn (ab O Z Z (fun hc47 => ?_) (fun hc47 => ?_))))))))))))))))))))))
 exact absurd (show false = true from hc47) (by decide)
 refine ah (af (af (jw [9,33,8,31,20,5,15,4,3,2,1] Z (fI O [_,_,_,_,_] [pn [] 0 1, pn [] 0 0, pe [1] 0, pe [0,1,2] 1, pn (rg 0 4) 2 2] [2,3] [_,_,_] (ai (kc O Z (V O Z)) (kc O Z (ai (aC O (B0 := 51000) Z Z Z Z (eX (P := P) h1 h2) (aa Z) Z Z Z Z Z) (ai (bm O (B0 := 52000) Z Z Z Z ((qG (s := P) (t := P) h1 h2).plain (u := eB true) (by simp)) (.cons (.agg (.cons (.whole Z (bt _).symm) .nil)) (.cons (.agg (aq Z)) .nil)) Z Z Z Z Z) (kc O Z trivial))))) ?_))))
 refine jw [52,9,33,8,31,20,5,15,4,3,2,1] Z (ch ?_)
 refine ab O Z Z (fun hc52 => ?_) (fun hc52 => ?_)
 exact absurd (show false = true from hc52) (by decide)
 refine ah (af (af (jw [9,33,8,31,20,5,15,4,3,2,1] Z (fI O [_,_,_,_,_] [pn [] 0 1, pn [] 0 0, pe [1] 0, pe [0,1,2] 1, pn (rg 0 4) 2 2] [2,3] [_,_,_] (ai (kc O Z (V O Z)) (kc O Z (ai (aC O (B0 := 56000) Z Z Z Z (mg (a := a) h1 h2) (aa Z) Z Z Z Z Z) (ai (bm O (B0 := 57000) Z Z Z Z ((z2 (s := a) (t := a) h1 h2).plain (u := eB true) (by simp)) (.cons (.agg (.cons (.whole Z (bt _).symm) (.cons (.whole Z (bt _).symm) (.cons (.whole Z (bt _).symm) (.cons (.whole Z (bt _).symm) .nil))))) (.cons (.agg (aq Z)) .nil)) Z Z Z Z Z) (kc O Z trivial))))) ?_))))
 refine jw [57,9,33,8,31,20,5,15,4,3,2,1] Z (ch ?_)
 refine ab O Z Z (fun hc57 => ?_) (fun hc57 => ?_)
 exact absurd (show false = true from hc57) (by decide)
 refine ah (ac (js O Z (jr ?_)))
 refine ⟨.inl Z, _, ak, _, Z, ?_⟩
 rfl
theorem xu {L : Nat} (h1 : 4096 ≤ L) (h2 : L ≤ 9223372036854775807) {P : ce} {a : An} (hz : bO 1048576 (Al.szs List.length P) < 0) : MC Tryz.prog L 6 [aPol P, aAn a] [] (Plain (eB true)) := by
 refine aA ?_ Z
 have O := gk (nt := 58) h1 h2
 refine MC.body O Tryz.func6 (by kernel_rfl) Z Z (Nat.le_of_ble_eq_true Z) (fun hF => ?_)
 refine ac (jx O Z (ao ?_))
 refine jf [2,1] Z (jx O Z (ao ?_))
 refine js O Z (aP (js O Z (aP (j2 O Z Z (ae O Z Z Z Z (ip (P := P) (left := 1048576) h1 h2 (by decide) (by decide)) (aa Z) Z Z Z Z Z (B0 := 15000) Z (js O Z (jf [5,4,3,2,1] Z (jn (af (ac (j2 O Z Z (jn (ab O Z Z (fun hc16 => ?_) (fun hc16 => ?_))))))))))))))
 refine ac (js O Z (jr ?_))
 refine ⟨.inl Z, _, ak, _, Z, ?_⟩
 rfl
 exact absurd (bn hc16) (fun h => h hz)
theorem xt {L : Nat} (h1 : 4096 ≤ L) (h2 : L ≤ 9223372036854775807) {P : ce} {a : An} (hz1 : 0 ≤ bO 1048576 (Al.szs List.length P)) (hz : bO (bO 1048576 (Al.szs List.length P)) a.size < 0) : MC Tryz.prog L 6 [aPol P, aAn a] [] (Plain (eB true)) := by
 refine aA ?_ Z
 have O := gk (nt := 58) h1 h2
 refine MC.body O Tryz.func6 (by kernel_rfl) Z Z (Nat.le_of_ble_eq_true Z) (fun hF => ?_)
 refine ac (jx O Z (ao ?_))
 refine jf [2,1] Z (jx O Z (ao ?_))
 refine js O Z (aP (js O Z (aP (j2 O Z Z (ae O Z Z Z Z (ip (P := P) (left := 1048576) h1 h2 (by decide) (by decide)) (aa Z) Z Z Z Z Z (B0 := 15000) Z (js O Z (jf [5,4,3,2,1] Z (jn (af (ac (j2 O Z Z (jn (ab O Z Z (fun hc16 => ?_) (fun hc16 => ?_))))))))))))))
 exact absurd (aR hc16) (Int.not_lt.2 hz1)
 refine ah (ac (j2 O Z Z (jf [18,17,15,5,4,3,2,1] Z ?_)))
 have hle0 := eU (left := 1048576) (by decide) (Al.szs List.length P)
 refine ae O Z Z Z Z (wh (a := a) (left := bO 1048576 (Al.szs List.length P)) h1 h2 hz1 (by omega)) (aa Z) Z Z Z Z Z (B0 := 20000) Z (js O Z (jf [5,15,4,3,2,1] Z (jn (af (ac (j2 O Z Z (jn (ab O Z Z (fun hc21 => ?_) (fun hc21 => ?_)))))))))
 refine ac (js O Z (jr ?_))
 refine ⟨.inl Z, _, ak, _, Z, ?_⟩
 rfl
 exact absurd (bn hc21) (fun h => h hz)
theorem lq {P : ce}  {x : Int} {y : Int} {z : Bool} (cs : MQ h1 h2 30 [aPol P, aAn a] [] (Plain (.tup [eI x, eI y, eB z]))) (ci : MQ h1 h2 31 [aPol P, aAn a] [] (Rows (.tup [eI x, eI y, eB z]) [])) (hz1 : 0 ≤ bO 1048576 (Al.szs List.length P)) (hz2 : 0 ≤ bO (bO 1048576 (Al.szs List.length P)) a.size) (hcp : 1 + bC nL P + bC nT a.pre + bC nT a.post + bC iz a.code + bC nP a.pts ≤ (1073741824 : Int)) : MQ h1 h2 7 [aPol P, aAn a] [] (Plain (eB true)) := by
 refine aA ?_ Z
 refine jB 67 h1 h2 Tryz.func7 Z Z Z fun O hF => ?_
 have hbig : L ≤ 9223372036854775807 := Nat.le_trans h2 (by decide)
 refine ac (jx O Z (ao ?_))
 refine jf [2,1] Z (jx O Z (ao ?_))
 refine js O Z (aP (js O Z (aP (j2 O Z Z (ae O Z Z Z Z (ip (P := P) (left := 1048576) h1 hbig (by decide) (by decide)) (aa Z) Z Z Z Z Z (B0 := 17000) Z (js O Z (jf [5,4,3,2,1] Z (jn (af (ac (j2 O Z Z (jn (ab O Z Z (fun hc18 => ?_) (fun hc18 => ?_))))))))))))))
 exact absurd (aR hc18) (by omega)
 refine ah (ac (j2 O Z Z (jf [20,19,17,5,4,3,2,1] Z ?_)))
 have hle0 := eU (left := 1048576) (by decide) (Al.szs List.length P)
 refine ae O Z Z Z Z (wh (a := a) (left := bO 1048576 (Al.szs List.length P)) h1 hbig hz1 (by omega)) (aa Z) Z Z Z Z Z (B0 := 22000) Z (js O Z (jf [5,17,4,3,2,1] Z (jn (af (ac (j2 O Z Z (jn (ab O Z Z (fun hc23 => ?_) (fun hc23 => ?_)))))))))
 exact absurd (aR hc23) (by omega)
 refine ah (af (jw [22,5,17,4,3,2,1] Z (fI O [_,_,_,_,_,_,_,_,_,_,_,_] [pn [] 0 0, pe [0] 0, pn [] 0 1, pe [0,1,2] 1, pe (rg 0 4) 2, pn (rg 0 5) 3 3, pn (rg 0 6) 3 3, pn (rg 0 6) 3 3, pn (rg 0 6) 3 3, pn (rg 0 7) 3 3, pn (rg 0 8++[9]) 3 3, pn (rg 0 11) 3 3] [1,3,4] [_,_,_,_] (kc O Z (ai (aC O (B0 := 27000) Z Z Z Z (eX (P := P) h1 h2) (aa Z) Z Z Z Z Z) (ai (kc O Z (V O Z)) (ai (aC O (B0 := 29000) Z Z Z Z (mg (a := a) h1 h2) (aa Z) Z Z Z Z Z) (ai (aC O (B0 := 30000) Z Z Z Z (cs) (aa Z) Z Z Z Z Z) (kc O Z (kc O Z (kc O Z (kc O Z (kc O Z (kc O Z (kc O Z trivial)))))))))))) ?_)))
 refine jw [8,7,6,22,5,17,4,3,2,1] Z (ch ?_)
 refine ac (js O Z (aI O (B0 := 35000) Z Z Z Z (nZ (P := P) h1 h2) (aa Z) Z Z Z Z Z Z (ao ?_)))
 refine jf [34,8,7,6,22,5,17,4,3,2,1] Z (jl O Z (ao ?_))
 refine jo O Z (ao ?_)
 refine aP (js O Z (aI O (B0 := 37000) Z Z Z Z (xY (a := a) h1 h2) (aa Z) Z Z Z Z Z Z (ao ?_)))
 refine jf [36,9,34,8,7,6,22,5,17,4,3,2,1] Z (jl O Z (ao ?_))
 refine jo O Z (ao ?_)
 refine aP (j2 O Z Z (aI O (B0 := 41000) Z Z Z Z (ci) (.cons (.agg (.cons (.whole Z (bt _).symm) .nil)) (.cons (.agg (.cons (.whole Z (bt _).symm) (.cons (.whole Z (bt _).symm) (.cons (.whole Z (bt _).symm) (.cons (.whole Z (bt _).symm) .nil))))) .nil)) Z Z Z Z Z Z (ao ?_)))
 refine j4 O Z Z Z Z (j3 O Z Z Z (jf [13,12,11,10,36,9,34,8,7,6,22,5,17,4,3,2,1] Z (jn (af (ac (j2 O Z Z (AOps.step ((V O Z).cast (v' := eB false) (congrArg eB (by simp))) Z Z Z (js O Z (jf [47,13,12,10,36,9,34,8,7,22,5,17,4,3,2,1] Z (bz Z (js O Z (jf [48,47,13,10,36,9,34,8,7,22,5,17,4,3,2,1] Z (bz Z (js O Z (jf [49,48,47,13,10,36,9,34,8,22,5,17,4,3,2,1] Z (bz Z (AOps.step ((V O Z).cast (v' := eB false) (congrArg eB (by simp))) Z Z Z (AOps.step (aF O Z Z Z Z Z) Z Z Z (js O Z (jf [52,13,10,36,9,34,8,22,5,17,4,3,2,1] Z (bz Z (js O Z (jf [53,52,10,36,9,34,8,22,5,17,4,3,2,1] Z (bz Z (js O Z (jf [54,53,52,10,36,9,34,22,5,17,4,3,2,1] Z (bz Z (AOps.step ((V O Z).cast (v' := eB false) (congrArg eB (by cases z <;> rfl))) rfl rfl rfl (AOps.step (aF O Z Z Z Z Z) Z Z Z ?_)))))))))))))))))))))))))))))
 refine jf [56,10,36,9,34,22,5,17,4,3,2,1] Z (jn (ab O Z Z (fun hc56 => ?_) (fun hc56 => ?_)))
 exact absurd (show false = true from hc56) (by decide)
 refine ah (af (af (jw [10,36,9,34,22,5,17,4,3,2,1] Z (fI O [_,_,_,_,_] [pn [] 0 1, pn [] 0 0, pe [1] 0, pe [0,1,2] 1, pn (rg 0 4) 2 2] [2,3] [_,_,_] (ai (kc O Z (V O Z)) (kc O Z (ai (aC O (B0 := 60000) Z Z Z Z (eX (P := P) h1 h2) (aa Z) Z Z Z Z Z) (ai (bm O (B0 := 61000) Z Z Z Z ((qG (s := P) (t := P) h1 h2).plain (u := eB true) (by simp)) (.cons (.agg (.cons (.whole Z (bt _).symm) .nil)) (.cons (.agg (aq Z)) .nil)) Z Z Z Z Z) (kc O Z trivial))))) ?_))))
 refine jw [61,10,36,9,34,22,5,17,4,3,2,1] Z (ch ?_)
 refine ab O Z Z (fun hc61 => ?_) (fun hc61 => ?_)
 exact absurd (show false = true from hc61) (by decide)
 refine ah (af (af (jw [10,36,9,34,22,5,17,4,3,2,1] Z (fI O [_,_,_,_,_] [pn [] 0 1, pn [] 0 0, pe [1] 0, pe [0,1,2] 1, pn (rg 0 4) 2 2] [2,3] [_,_,_] (ai (kc O Z (V O Z)) (kc O Z (ai (aC O (B0 := 65000) Z Z Z Z (mg (a := a) h1 h2) (aa Z) Z Z Z Z Z) (ai (bm O (B0 := 66000) Z Z Z Z ((z2 (s := a) (t := a) h1 h2).plain (u := eB true) (by simp)) (.cons (.agg (.cons (.whole Z (bt _).symm) (.cons (.whole Z (bt _).symm) (.cons (.whole Z (bt _).symm) (.cons (.whole Z (bt _).symm) .nil))))) (.cons (.agg (aq Z)) .nil)) Z Z Z Z Z) (kc O Z trivial))))) ?_))))
 refine jw [66,10,36,9,34,22,5,17,4,3,2,1] Z (ch ?_)
 refine ab O Z Z (fun hc66 => ?_) (fun hc66 => ?_)
 exact absurd (show false = true from hc66) (by decide)
 refine ah (ac (js O Z (jr ?_)))
 refine ⟨.inl Z, _, ak, _, Z, ?_⟩
 rfl
theorem xr {L : Nat} (h1 : 4096 ≤ L) (h2 : L ≤ 9223372036854775807) {P : ce} {a : An} (hz : bO 1048576 (Al.szs List.length P) < 0) : MC Tryz.prog L 7 [aPol P, aAn a] [] (Plain (eB true)) := by
 refine aA ?_ Z
 have O := gk (nt := 67) h1 h2
 refine MC.body O Tryz.func7 (by kernel_rfl) Z Z (Nat.le_of_ble_eq_true Z) (fun hF => ?_)
 refine ac (jx O Z (ao ?_))
 refine jf [2,1] Z (jx O Z (ao ?_))
 refine js O Z (aP (js O Z (aP (j2 O Z Z (ae O Z Z Z Z (ip (P := P) (left := 1048576) h1 h2 (by decide) (by decide)) (aa Z) Z Z Z Z Z (B0 := 17000) Z (js O Z (jf [5,4,3,2,1] Z (jn (af (ac (j2 O Z Z (jn (ab O Z Z (fun hc18 => ?_) (fun hc18 => ?_))))))))))))))
 refine ac (js O Z (jr ?_))
 refine ⟨.inl Z, _, ak, _, Z, ?_⟩
 rfl
 exact absurd (bn hc18) (fun h => h hz)
theorem xq {L : Nat} (h1 : 4096 ≤ L) (h2 : L ≤ 9223372036854775807) {P : ce} {a : An} (hz1 : 0 ≤ bO 1048576 (Al.szs List.length P)) (hz : bO (bO 1048576 (Al.szs List.length P)) a.size < 0) : MC Tryz.prog L 7 [aPol P, aAn a] [] (Plain (eB true)) := by
 refine aA ?_ Z
 have O := gk (nt := 67) h1 h2
 refine MC.body O Tryz.func7 (by kernel_rfl) Z Z (Nat.le_of_ble_eq_true Z) (fun hF => ?_)
 refine ac (jx O Z (ao ?_))
 refine jf [2,1] Z (jx O Z (ao ?_))
 refine js O Z (aP (js O Z (aP (j2 O Z Z (ae O Z Z Z Z (ip (P := P) (left := 1048576) h1 h2 (by decide) (by decide)) (aa Z) Z Z Z Z Z (B0 := 17000) Z (js O Z (jf [5,4,3,2,1] Z (jn (af (ac (j2 O Z Z (jn (ab O Z Z (fun hc18 => ?_) (fun hc18 => ?_))))))))))))))
 exact absurd (aR hc18) (Int.not_lt.2 hz1)
 refine ah (ac (j2 O Z Z (jf [20,19,17,5,4,3,2,1] Z ?_)))
 have hle0 := eU (left := 1048576) (by decide) (Al.szs List.length P)
 refine ae O Z Z Z Z (wh (a := a) (left := bO 1048576 (Al.szs List.length P)) h1 h2 hz1 (by omega)) (aa Z) Z Z Z Z Z (B0 := 22000) Z (js O Z (jf [5,17,4,3,2,1] Z (jn (af (ac (j2 O Z Z (jn (ab O Z Z (fun hc23 => ?_) (fun hc23 => ?_)))))))))
 refine ac (js O Z (jr ?_))
 refine ⟨.inl Z, _, ak, _, Z, ?_⟩
 rfl
 exact absurd (bn hc23) (fun h => h hz)
theorem lG {L S : Nat} {P : List (List Int)} (h : D.fact L (fL P)) (hl : szs List.length P ≤ S) : D.fact S (fL P) := by
 unfold szs at hl
 simp only [D.fact, bt, c8] at h ⊢
 refine ⟨by omega, fun p hp => ?_⟩
 have h1 := h.2 p hp
 have h2 := kP List.length hp
 exact ⟨mS h1.1 (by omega), trivial⟩
theorem uX (P : List (List Int)) : bC nL P ≤ szs List.length P := by
 unfold szs
 show (P.map List.length).sum ≤ _
 omega
theorem wR {U : Mx} {n : Nat} (h : ∀ u ∈ U, u.length = n) : bC nL (iY U) ≤ n * U.length := by
 induction U with
 | nil => exact cm _
 | cons u U ih =>
  have h1 := ih fun x hx => h x (by simp [hx])
  have h2 := h u (by simp)
  have h3 := dO (bs := u) (i := u.length)
  have e : bC nL (iY (u :: U)) = (cV u u.length).length + bC nL (iY U) := rfl
  rw [e, jI, Nat.mul_add]; omega
theorem tW {P : ce} {ps : List Pth} {m : Nat} : ∀ u ∈ dd P ps m, u.length = P.length := by
 intro u hu
 unfold dd at hu
 obtain ⟨i, _, rfl⟩ := List.mem_map.1 hu
 simp
theorem kb {a : An} :
    (cK a = false ∧ MC Tryz.prog 1073741824 19 [aAn a] [] (Rows (.tup [.c (.d .nils), eB false]) [])) ∨
    (cK a = true ∧ MC Tryz.prog 1073741824 19 [aAn a] [] (Rows (.tup [.c (.d .nils), eB false]) []) ∧ ∃ ps cs, MC Tryz.prog 1073741824 61 [ptr a.data] [] (Plain (.tup [.c (.d (dc ps)), .c (.d (me cs)), eB false]))) ∨
    (cK a = true ∧ ∃ ps cs, MC Tryz.prog 1073741824 19 [aAn a] [] (Rows (.tup [.c (.rs 0 0 ps.length), eB true]) [aG ps]) ∧ MC Tryz.prog 1073741824 61 [ptr a.data] [] (Plain (.tup [.c (.d (dc ps)), .c (.d (me cs)), eB true])) ∧ (∀ p ∈ ps, PthB a.pts.length p) ∧ ps.length ≤ 1073741824 ∧ a.pts.length ≤ 8) := by
 cases hv : cK a with
 | false => exact .inl ⟨rfl, pw (by decide) (bw _) (td (by decide) (bw _) (fun h => by rw [hv] at h; cases h))⟩
 | true =>
  right
  have hva := fV hv
  cases hcl : dF a with
  | false => exact .inl ⟨Z, pw (by decide) (bw _) (td (by decide) (bw _) (fun _ => hcl)), _, _, w3 (by decide) (bw _) hva hcl⟩
  | true =>
   obtain ⟨he, hpl⟩ := vA hva (a.pts.length + 1) (bw _)
   have hA := w1 (L := 1073741824) (by decide) (bw _) hva hcl (by decide)
   have hpb := tf hva (n := a.pts.length + 1) (bw _)
   have hP := uW (L := 1073741824) (by decide) (bw _) (by decide) hv hcl
   have hQ := tU (L := 1073741824) (by decide) (bw _) (by decide) hv hcl
   rw [show uc a = ew a (a.pts.length + 1) from Z] at hA
   generalize kW a (a.pts.length + 1) = x at he hpl hP hQ hpb
   generalize ew a (a.pts.length + 1) = y at he hA
   cases hb : x.bad with
   | true =>
    rw [show y.bad = true from he.bad ▸ hb] at hA
    exact .inl ⟨Z, pw (by decide) (bw _) (hQ hb), _, _, hA⟩
   | false =>
    have e := he.eq hb
    subst e
    rw [hb] at hA
    exact .inr ⟨Z, _, _, xm (by decide) (bw _) (hP hb), hA, hpb, by have := hpl hb; omega, hva.ok.np⟩
theorem j9 {P : ce} {a : An} (hz1 : 0 ≤ bO 1048576 (szs List.length P)) (hz2 : 0 ≤ bO (bO 1048576 (szs List.length P)) a.size) : 1 + bC nL P + bC nT a.pre + bC nT a.post + bC iz a.code + bC nP a.pts ≤ (1073741824 : Int) ∧ a.size ≤ 1073741824 ∧ szs List.length P ≤ 1073741824 := by
 have g1 := iL hz1 (by decide)
 have g2 : 0 ≤ bO 1048576 a.size := by
  unfold bO at hz2 ⊢
  unfold bO at g1
  split at hz2 <;> split <;> simp_all <;> omega
 have g3 := zV g2
 have g4 := iL g2 (by decide)
 have k1 := uX P
 have k2 := jg a.pre
 have k3 := jg a.post
 have k4 := te a.code
 have k5 := rf a.pts
 have e1 : a.size = szs Tm.size a.pre + szs Tm.size a.post + a.code.length + szs Pt.size a.pts := rfl
 omega
theorem law1229 {L : Nat} (h1 : 4096 ≤ L) (h2 : L ≤ 9223372036854775807) {P : ce} {a : An} : MC Tryz.prog L 8 [aPol P, aAn a] [] (Plain (eB true)) := by
 by_cases hz1 : bO 1048576 (szs List.length P) < 0
 exact xp h1 h2 hz1
 have hz1' : 0 ≤ bO 1048576 (szs List.length P) := by omega
 by_cases hz2 : bO (bO 1048576 (szs List.length P)) a.size < 0
 exact xo h1 h2 hz1' hz2
 have hz2' : 0 ≤ bO (bO 1048576 (szs List.length P)) a.size := by omega
 obtain ⟨hcp, hsz, hsp⟩ := j9 hz1' hz2'
 refine MC.facts ⟨_, _, Tryz.func8, by kernel_rfl, Z⟩ fun hF => ?_
 refine nv (L0 := 1073741824) Z ?_ ?_
 exact ⟨⟨lG hF.1.1 hsp, trivial⟩, nq hF.2.1 hsz, trivial⟩
 cases hp : dD P with
 | false => exact px (by decide) (bw _) (xe (by decide) (bw _) hp) (pq (by decide) (bw _) (pp (by decide) (bw _) hp)) hz1' hz2' hcp
 | true =>
  have hP := ni hp
  rcases kb (a := a) with ⟨hv, hI⟩ | ⟨hv, hI, ps, cs, hA⟩ | ⟨hv, ps, cs, hI, hA, hb, hl, hm⟩
  exact px (by decide) (bw _) (xf (by decide) (bw _) hp hv) (pq (by decide) (bw _) (j5 (by decide) (bw _) hp hI)) hz1' hz2' hcp
  exact px (by decide) (bw _) (xg (by decide) (bw _) hp hv hA) (pq (by decide) (bw _) (j5 (by decide) (bw _) hp hI)) hz1' hz2' hcp
  have k1 := wR (tW (P := P) (ps := ps) (m := a.pts.length))
  rw [fU] at k1
  have k2 : P.length * (a.pts.length + 1) ≤ 12 * 9 := Nat.mul_le_mul hP.hi (by omega)
  exact xn (r := iY (dd P ps a.pts.length)) (by decide) (bw _) Z (by omega) (zG (by decide) (bw _) hp hv hA hP hm hb) (zF (by decide) (bw _) (sN (by decide) (bw _) hp hI hP hb hm hl) hP hm) hz1' hz2' hcp
theorem law1227 {L : Nat} (h1 : 4096 ≤ L) (h2 : L ≤ 9223372036854775807) {P : ce} {a : An} : MC Tryz.prog L 6 [aPol P, aAn a] [] (Plain (eB true)) := by
 by_cases hz1 : bO 1048576 (szs List.length P) < 0
 exact xu h1 h2 hz1
 have hz1' : 0 ≤ bO 1048576 (szs List.length P) := by omega
 by_cases hz2 : bO (bO 1048576 (szs List.length P)) a.size < 0
 exact xt h1 h2 hz1' hz2
 have hz2' : 0 ≤ bO (bO 1048576 (szs List.length P)) a.size := by omega
 obtain ⟨hcp, hsz, hsp⟩ := j9 hz1' hz2'
 refine MC.facts ⟨_, _, Tryz.func6, by kernel_rfl, Z⟩ fun hF => ?_
 refine nv (L0 := 1073741824) Z ?_ ?_
 exact ⟨⟨lG hF.1.1 hsp, trivial⟩, nq hF.2.1 hsz, trivial⟩
 cases hp : dD P with
 | false => exact ne (x := false) (y := false) (by decide) (bw _) (xk (by decide) (bw _) hp) (qH (z := false) (by decide) (bw _) (j6 (by decide) (bw _) (pp (by decide) (bw _) hp))) hz1' hz2' hcp
 | true =>
  have hP := ni hp
  rcases kb (a := a) with ⟨hv, hI⟩ | ⟨hv, hI, ps, cs, hA⟩ | ⟨hv, ps, cs, hI, hA, hb, hl, hm⟩
  exact ne (x := false) (y := false) (by decide) (bw _) (xl (by decide) (bw _) hp hv) (qH (z := false) (by decide) (bw _) (j6 (by decide) (bw _) (j5 (by decide) (bw _) hp hI))) hz1' hz2' hcp
  exact ne (x := false) (y := false) (by decide) (bw _) (vU (by decide) (bw _) hp hv (wZ (by decide) (bw _) hA)) (qH (z := false) (by decide) (bw _) (j6 (by decide) (bw _) (j5 (by decide) (bw _) hp hI))) hz1' hz2' hcp
  exact ne (y := true) (by decide) (bw _) (vU (by decide) (bw _) hp hv (zC (by decide) (bw _) hA hP hm hb)) (qH (z := true) (by decide) (bw _) (vQ (by decide) (bw _) (sN (by decide) (bw _) hp hI hP hb hm hl) hP hb hm hl)) hz1' hz2' hcp
theorem law1228 {L : Nat} (h1 : 4096 ≤ L) (h2 : L ≤ 9223372036854775807) {P : ce} {a : An} : MC Tryz.prog L 7 [aPol P, aAn a] [] (Plain (eB true)) := by
 by_cases hz1 : bO 1048576 (szs List.length P) < 0
 exact xr h1 h2 hz1
 have hz1' : 0 ≤ bO 1048576 (szs List.length P) := by omega
 by_cases hz2 : bO (bO 1048576 (szs List.length P)) a.size < 0
 exact xq h1 h2 hz1' hz2
 have hz2' : 0 ≤ bO (bO 1048576 (szs List.length P)) a.size := by omega
 obtain ⟨hcp, hsz, hsp⟩ := j9 hz1' hz2'
 refine MC.facts ⟨_, _, Tryz.func7, by kernel_rfl, Z⟩ fun hF => ?_
 refine nv (L0 := 1073741824) Z ?_ ?_
 exact ⟨⟨lG hF.1.1 hsp, trivial⟩, nq hF.2.1 hsz, trivial⟩
 cases hp : dD P with
 | false => exact lq (x := 0) (y := 0) (z := false) (by decide) (bw _) (xh (by decide) (bw _) hp) (pu (by decide) (bw _) (j6 (by decide) (bw _) (pp (by decide) (bw _) hp))) hz1' hz2' hcp
 | true =>
  have hP := ni hp
  rcases kb (a := a) with ⟨hv, hI⟩ | ⟨hv, hI, ps, cs, hA⟩ | ⟨hv, ps, cs, hI, hA, hb, hl, hm⟩
  exact lq (x := 0) (y := 0) (z := false) (by decide) (bw _) (xi (by decide) (bw _) hp hv) (pu (by decide) (bw _) (j6 (by decide) (bw _) (j5 (by decide) (bw _) hp hI))) hz1' hz2' hcp
  exact lq (x := 0) (y := 0) (z := false) (by decide) (bw _) (xj (by decide) (bw _) hp hv hA) (pu (by decide) (bw _) (j6 (by decide) (bw _) (j5 (by decide) (bw _) hp hI))) hz1' hz2' hcp
  have hS := zI (L := 1073741824) (by decide) (bw _) hp hv hA hP hm hb
  have hR := zH (L := 1073741824) (by decide) (bw _) (vQ (by decide) (bw _) (sN (by decide) (bw _) hp hI hP hb hm hl) hP hb hm hl)
  by_cases ho : rA (gh P (dd P ps a.pts.length) 0 ps) < 0
  rw [if_pos ho] at hS hR
  exact lq (x := 0) (y := 0) (z := false) (by decide) (bw _) hS hR hz1' hz2' hcp
  rw [if_neg ho] at hS hR
  exact lq (z := true) (by decide) (bw _) hS hR hz1' hz2' hcp
end Go.Al
/- What the laws of policies share: the types of their arguments. -/
namespace Go.Proofs.YtikejfdfkemmmaaGreat
open Go.ChangeShapes Go.WideShapes Go.ChangeAt Go.RowKit Go.Al
theorem yZ : TyOf Tryz.prog 49 [.slc [.slc rq]] := .slc Tryz.underlying49 x7 (by kernel_rfl) (by decide)
theorem of902 : TyOf Tryz.prog 51 [.slc [.slc rq]] := .struct Tryz.underlying51 (show FieldsAre Tryz.prog _ ([.slc [.slc rq]] ++ []) 0 from .cons rfl (by kernel_rfl) yZ .nil) (by kernel_rfl)
theorem fits_pol {e : List D} (h : FitsL [.slc [.slc rq]] e) : ∃ P : ce, e = [fL P] := by
 obtain ⟨d, rfl, hd⟩ := ow h
 cases hd with
 | slc a1 =>
  obtain ⟨x, rfl⟩ := fq (g := mC) (fun e he => by
   obtain ⟨d, rfl, hd⟩ := ow he
   obtain ⟨xs, rfl⟩ := mO hd
   exact ⟨xs, Z⟩) a1
  exact ⟨x, Z⟩
end Go.Proofs.YtikejfdfkemmmaaGreat
