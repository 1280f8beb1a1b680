/- The program's functions for paths of code. -/
import Derived.Test.YtikejfdfkemmmaaGreatG
import Derived.Test.YtikejfdfkemmmaaGreatH
import Derived.Test.YtikejfdfkemmmaaGreatC
set_option linter.unusedVariables false
set_option linter.unusedSimpArgs false
set_option maxRecDepth 10000
set_option maxHeartbeats 4000000
open Go.Proofs
namespace Go.Al
variable {L : Nat} (h1 : 4096 ≤ L) (h2 : L ≤ 1073741824)
abbrev aIn (x : In) : A := .agg (x.cells.map .d)
variable {x : In}
theorem xl : MQ h1 h2 139 [aIn x] [] (Plain (.tup [eI (mv x).1, eI (mv x).2])) := by
 refine MC.data (jB 20 h1 h2 Tryz.func139 Z Z Z fun O hF => ?_)
 refine ae (jx O Z (ap ?_))
 refine ay (Ent.freeze 1 (e' := [(1, _), (0, _)]) Z (.cons Z (.c (.box (cs := In.cells x) Z (aC Z))) (fe [0] Z)) (.skip .nil)) ?_
 refine ap ?_
 refine j2 O Z Z (jn (ag (ae (j2 O Z Z (jn (am (ag (ae (j2 O Z Z (jn (ab O Z Z (fun hc6 => ?_) (fun hc6 => ?_))))))))))))
 try simp only [aJ] at hc6
 refine ah (ab O Z Z (fun hc6 => ?_) (fun hc6 => ?_))
 try simp only [aJ] at hc6
 refine ae (j2 O Z Z (jr ?_))
 refine ⟨.inl Z, _, aj, _, Z, ?_⟩
 rw [show mv x = (0, 1) by unfold mv; simp_all]
 exact .tup (.cons (.c .d) (.cons (.c .d) .nil))
 try simp only [aJ] at hc6
 contradiction
 try simp only [aJ] at hc6
 refine ak (j2 O Z Z (jn (ab O Z Z (fun hc6 => ?_) (fun hc6 => ?_))))
 try simp only [aJ] at hc6
 refine ae (j2 O Z Z (jr ?_))
 refine ⟨.inl Z, _, aj, _, Z, ?_⟩
 rw [show mv x = (0, 1) by unfold mv; simp_all]
 exact .tup (.cons (.c .d) (.cons (.c .d) .nil))
 try simp only [aJ] at hc6
 refine ag (ae (j2 O Z Z (jn (ab O Z Z (fun hc9 => ?_) (fun hc9 => ?_)))))
 try simp only [aJ] at hc9
 refine ah (ab O Z Z (fun hc9 => ?_) (fun hc9 => ?_))
 try simp only [aJ] at hc9
 refine ae (j2 O Z Z (jr ?_))
 refine ⟨.inl Z, _, aj, _, Z, ?_⟩
 rw [show mv x = (1, 0) by unfold mv; simp_all]
 exact .tup (.cons (.c .d) (.cons (.c .d) .nil))
 try simp only [aJ] at hc9
 contradiction
 try simp only [aJ] at hc9
 refine ae (j2 O Z Z (jn (ab O Z Z (fun hc9 => ?_) (fun hc9 => ?_))))
 try simp only [aJ] at hc9
 refine ah (ab O Z Z (fun hc9 => ?_) (fun hc9 => ?_))
 try simp only [aJ] at hc9
 refine ae (j2 O Z Z (jr ?_))
 refine ⟨.inl Z, _, aj, _, Z, ?_⟩
 rw [show mv x = (1, 0) by unfold mv; simp_all]
 exact .tup (.cons (.c .d) (.cons (.c .d) .nil))
 try simp only [aJ] at hc9
 contradiction
 try simp only [aJ] at hc9
 refine ak (j2 O Z Z (jn (ab O Z Z (fun hc9 => ?_) (fun hc9 => ?_))))
 try simp only [aJ] at hc9
 refine ae (j2 O Z Z (jr ?_))
 refine ⟨.inl Z, _, aj, _, Z, ?_⟩
 rw [show mv x = (1, 0) by unfold mv; simp_all]
 exact .tup (.cons (.c .d) (.cons (.c .d) .nil))
 try simp only [aJ] at hc9
 refine ae (j2 O Z Z (jn (ab O Z Z (fun hc13 => ?_) (fun hc13 => ?_))))
 try simp only [aJ] at hc13
 refine ae (j2 O Z Z (jr ?_))
 refine ⟨.inl Z, _, aj, _, Z, ?_⟩
 rw [show mv x = (2, 1) by unfold mv; simp_all]
 exact .tup (.cons (.c .d) (.cons (.c .d) .nil))
 try simp only [aJ] at hc13
 refine ag (ae (j2 O Z Z (jn (ab O Z Z (fun hc15 => ?_) (fun hc15 => ?_)))))
 try simp only [aJ] at hc15
 refine ah (ab O Z Z (fun hc15 => ?_) (fun hc15 => ?_))
 try simp only [aJ] at hc15
 refine ae (j2 O Z Z (jr ?_))
 refine ⟨.inl Z, _, aj, _, Z, ?_⟩
 rw [show mv x = (1, 1) by unfold mv; simp_all]
 exact .tup (.cons (.c .d) (.cons (.c .d) .nil))
 try simp only [aJ] at hc15
 contradiction
 try simp only [aJ] at hc15
 refine ak (j2 O Z Z (jn (ab O Z Z (fun hc15 => ?_) (fun hc15 => ?_))))
 try simp only [aJ] at hc15
 refine ae (j2 O Z Z (jr ?_))
 refine ⟨.inl Z, _, aj, _, Z, ?_⟩
 rw [show mv x = (1, 1) by unfold mv; simp_all]
 exact .tup (.cons (.c .d) (.cons (.c .d) .nil))
 try simp only [aJ] at hc15
 refine ae (j2 O Z Z (jn (ab O Z Z (fun hc18 => ?_) (fun hc18 => ?_))))
 try simp only [aJ] at hc18
 refine ae (j2 O Z Z (jr ?_))
 refine ⟨.inl Z, _, aj, _, Z, ?_⟩
 rw [show mv x = (2, 0) by unfold mv; simp_all]
 exact .tup (.cons (.c .d) (.cons (.c .d) .nil))
 try simp only [aJ] at hc18
 refine ah (ae (j2 O Z Z (jr ?_)))
 refine ⟨.inl Z, _, aj, _, Z, ?_⟩
 rw [show mv x = (0, 0) by unfold mv; simp_all]
 exact .tup (.cons (.c .d) (.cons (.c .d) .nil))
theorem t1 {c : List In} (hcb : eb c = true) (h80 : c.length ≤ 80) (h0n : 0 < c.length) : MQ h1 h2 122 [i9 c] [] (Rows (qN (fP c qT)) (qM (fP c qT))) := by
 refine bm (jB 106 h1 h2 Tryz.func122 Z Z Z fun O hF => ?_)
 refine ae (j2 O Z Z (jn (ag (ae (js O Z (ac O Z Z Z Z ((wt (c := c) h1 h2).plain (u := eB true) (by rw [hcb])) (aa Z) Z Z Z Z Z (B0 := 16000) Z (js O Z (jf [16,3,2,0] Z (jn (ab O Z Z (fun hc16 => ?_) (fun hc16 => ?_)))))))))))
 cases hc16
 refine ah (ae (js O Z ?_))
 first | refine bw O Z ?_ | refine js O Z ?_ | refine bb O Z Z ?_
 refine jf [18,3,2,0] Z (AOps.heap (co O Z Z Z Z Z Z Z Z Z (by first | omega | (simp at *; omega)) (by first | omega | (simp at *; omega)) (by first | omega | (simp at *; omega)) (by first | omega | (dsimp only; omega) | (simp only [aJ] at *; omega)) (by first | omega | (simp at *; omega)) Z Z Z) Z (ap ?_))
 refine js O Z (jf [4,3,2,0] Z (jn (ag (ae (js O Z ?_)))))
 first | refine bw O Z ?_ | refine js O Z ?_ | refine bb O Z Z ?_
 refine js O Z (jn (am (au (X := Nat) (fun i => ⟨[(0, i9 c), (4, .c (.rs 19 0 c.length)), (21, eI c.length), (22, eI i)], [(19, aE (dQ c.length i))]⟩) (fun i => i ≤ c.length) (fun i => c.length - i) 0 (Ent.to ⟨Z, Z, Z, Z, trivial⟩ (by rw [kP, aE, List.map_replicate]; rfl)) ?_ (fun i hi => ?_))))
 exact cC _
 refine ae (js O Z (jn (ag (ab O Z Z (fun hc23 => ?_) (fun hc23 => ?_)))))
 refine ah (ag (am (ae (j2 O Z Z (jn (ak (j2 O Z Z ?_)))))))
 have hil : i < c.length := by have := aQ hc23; omega
 have hfl := gA (n := c.length) (i := i) (by omega)
 refine AOps.step (aP O Z Z (by omega)) Z Z Z (jf [27,24,23,0,4,21,22] Z (AOps.heap (ba (ex := [.int .i64 ((dQ c.length i).getD i default)]) (xs' := (dQ c.length (i + 1)).map (fun n => [D.int .i64 n])) O Z Z Z Z Z Z Z Z Z Z Z Z Z Z (fv (by omega) (by omega)) (by rw [← lC hil]; exact sB (by omega) Z)) Z (ap ?_)))
 refine ap ?_
 refine jn (ak ?_)
 first | refine ji O Z ?_ | refine bb O Z Z ?_
 refine js O Z (jn ?_)
 refine ⟨i + 1, Ent.to ⟨Z, Z, Z, Z, trivial⟩ Z, by omega, by omega⟩
 refine aU (ae ?_)
 have hin : i = c.length := by have := bB hc23; omega
 have hfl := gA (n := c.length) (i := i) (by omega)
 refine js O Z (AOps.step (aP O Z Z (by omega)) Z Z Z (jf [30,23,0,4,21,22] Z (AOps.heap (ba (ex := [.int .i64 ((dQ c.length i).getD 0 default)]) (xs' := (pP c.length).map (fun n => [D.int .i64 n])) O Z Z Z Z Z Z Z Z Z Z Z Z Z Z (fv (by omega) (by omega)) (by rw [hin, lD]; exact sB (by omega) Z)) Z (ap ?_))))
 refine ap ?_
 refine jn (ag (ae (AOps.heap (bi O Z Z Z) Z (ap ?_))))
 refine js O Z (jn (am (au (X := List Int × List Int) (fun x => ⟨[(0, i9 c), (4, .c (.rs 19 0 c.length)), (6, .c (.rs 901 0 x.2.length))], [(19, aE x.1), (901, aE x.2)]⟩) (fun x => HSr c qT x.1 x.2 ∧ x.2.length + eR x.1 ≤ c.length) (fun x => 2 * eR x.1 + x.2.length) (pP c.length, [0]) (((av [19,31] (e' := [(0, _), (4, _), (6, _)]) Z Z ⟨Z, Z, Z, trivial⟩ Z).trans (af 31 901 Z Z)).trans (Ent.to ⟨Z, Z, Z, trivial⟩ Z)) ?_ (fun x hi => ?_))))
 exact ⟨ne h0n, by have := ly h0n; show 1 + eR (pP c.length) ≤ _; omega⟩
 refine ag (ae ?_)
 obtain ⟨u, e_u⟩ : ∃ u, u = x.1 := ⟨_, rfl⟩
 obtain ⟨ws, e_ws⟩ : ∃ ws, ws = x.2 := ⟨_, rfl⟩
 rw [← e_u, ← e_ws] at hi ⊢
 obtain ⟨jW, i5⟩ := hi
 have hul := jW.len
 refine js O Z ?_
 first | refine bw O Z ?_ | refine js O Z ?_ | refine bb O Z Z ?_
 refine js O Z (jf [34,0,4,6] Z (jn (ab O Z Z (fun hc34 => ?_) (fun hc34 => ?_))))
 refine ah (am (ae ?_))
 obtain ⟨w2, z, ez⟩ : ∃ w2 z, ws = w2 ++ [z] := by rcases List.eq_nil_or_concat ws with h9 | ⟨w2, z, h9⟩; rw [h9] at hc34; cases hc34; exact ⟨w2, z, by rw [h9, List.concat_eq_append]⟩
 rw [ez] at jW i5
 rw [c7, gF] at i5
 have hzz := jW.nn z (by simp)
 obtain ⟨k, rfl⟩ : ∃ k : Nat, z = (k : Int) := ⟨z.toNat, by omega⟩
 rw [ez, show (w2 ++ [(k : Int)]).length = w2.length + 1 by simp]
 have hdm : ∀ y, y ∈ w2 ++ [(k : Int)] ↔ y = (k : Int) ∨ y ∈ w2 := fun y => by rw [List.mem_append, List.mem_singleton]; exact Or.comm
 have hkm : (k : Int) ∈ w2 ++ [(k : Int)] := (hdm k).2 (.inl Z)
 obtain ⟨hkn, hk0, hkr, hkc⟩ := jW.mem hkm
 have hlo := jW.lo k hkn
 have hmv := dv (x := (c.getD k default))
 refine j2 O Z Z ?_
 first | refine bw O Z ?_ | refine js O Z ?_ | refine bb O Z Z ?_
 refine AOps.step ((aG O Z Z (by omega) (by omega)).cast (v' := eI (w2.length : Nat)) (congrArg eI (by omega))) Z Z Z (AOps.step (aP O Z Z (by omega)) Z Z Z (AOps.step (ar O (ex := [.int .i64 (k : Int)]) Z Z Z Z (by simp) Z) Z Z Z (js O Z (jf [7,34,0,4,6] Z (aN (j2 O Z Z ?_))))))
 first | refine bw O Z ?_ | refine js O Z ?_ | refine bb O Z Z ?_
 refine AOps.step ((aG O Z Z (by omega) (by omega)).cast (v' := eI (w2.length : Nat)) (congrArg eI (by omega))) Z Z Z (AOps.step (fM O Z Z Z Z Z Z Z Z Z Z (Nat.le_succ _)) Z Z Z (ay (Ent.cut 901 w2.length Z) (ap ?_)))
 rw [po]
 refine js O Z (jf [6,7,34,0,4] Z (aN (j2 O Z Z (AOps.step (aS O Z Z Z Z Z Z Z Z (c9 hkn)) Z Z Z (js O Z (jf [50,6,7,34,0,4] Z (ax O Z Z Z Z (xl (x := (c.getD k default)) h1 h2) (aa Z) Z Z Z Z (B0 := 52000) Z Z (j4 O Z Z Z Z (js O Z (jf [9,8,6,7,34,0,4] Z (aN (j2 O Z Z (AOps.step (aP O Z Z (by omega)) Z Z Z (AOps.step (ar O (ex := [.int .i64 (u.getD k default)]) Z Z Z Z (fv (by omega) (by omega)) Z) Z Z Z (js O Z ?_)))))))))))))))
 first | refine ji O Z ?_ | refine bb O Z Z ?_
 refine js O Z (jf [10,9,6,7,34,0,4] Z (aN (j2 O Z Z ?_)))
 first | refine ji O Z ?_ | refine bb O Z Z ?_
 refine js O Z (jf [11,10,6,7,34,0,4] Z (jn (ag (ag (cU ⟨[(68, eB (bif decide (u.getD k default - (mv (c.getD k default)).1 < 0) then true else decide (6 < fw c u k))), (0, i9 c), (4, .c (.rs 19 0 c.length)), (6, .c (.rs 901 0 w2.length)), (7, eI (k : Nat)), (11, eI (fw c u k))], [(19, aE u), (901, aE w2)]⟩ ?_ ?_)))))
 refine ak (j3 O Z Z Z ?_)
 cases hb66 : decide (u.getD k default - (mv (c.getD k default)).1 < 0) with
 | true =>
  refine jf [65,11,10,6,7,34,0,4] Z (AOps.skip Z Z Z Z Z Z (AOps.skip Z Z Z Z Z Z (AOps.step (bd O Z Z Z Z Z) Z Z Z (jf [68,11,10,6,7,34,0,4] Z (jn ?_)))))
  exact ⟨Z, (av [19,901] (e' := [(68, _), (0, _), (4, _), (6, _), (7, _), (11, _)]) Z Z ⟨Z, Z, Z, Z, Z, Z, trivial⟩ Z).trans (Ent.to ⟨Z, Z, Z, Z, Z, Z, trivial⟩ Z)⟩
 | false =>
  refine jf [65,11,10,6,7,34,0,4] Z (bp Z (js O Z (bp Z (js O Z (AOps.step (aH O Z Z Z Z Z) Z Z Z (jf [68,11,10,6,7,34,0,4] Z (jn ?_)))))))
  exact ⟨Z, (av [19,901] (e' := [(68, _), (0, _), (4, _), (6, _), (7, _), (11, _)]) Z Z ⟨Z, Z, Z, Z, Z, Z, trivial⟩ Z).trans (Ent.to ⟨Z, Z, Z, Z, Z, Z, trivial⟩ Z)⟩
 refine ab O Z Z (fun hc68 => ?_) (fun hc68 => ?_)
 refine ae (j2 O Z Z (jr ?_))
 have q3 := hc68
 rw [dS (jW.nol hkm (fun h => by rw [decide_eq_false (show ¬ (u.getD k default - (mv (c.getD k default)).1 < 0) by omega), decide_eq_false (show ¬ 6 < fw c u k by omega)] at q3; cases q3))]
 refine ⟨.inl Z, _, aj, _, Z, [], by decide, Z, Z, Z⟩
 refine ah (ae ?_)
 obtain ⟨hq1, hq2⟩ := xT hc68
 have hq1 := bB hq1
 have hq2 := bB hq2
 have htl := ki (x := (c.getD k default)) (k := k)
 refine j2 O Z Z (aL O (B0 := 72000) Z Z Z Z (ud (c := c) (k := k) h1 h2 hkn (by omega)) (aa Z) Z Z Z Z Z Z (ap ?_))
 first | refine bw O Z ?_ | refine js O Z ?_ | refine bb O Z Z ?_
 refine js O Z (jf [73,72,71,68,0,4,6,7,11] Z (jn (am ?_)))
 obtain ⟨M, hM⟩ : ∃ M, M = tg (c.getD k default) k := ⟨_, rfl⟩
 have hM2 : M.length ≤ 2 := by rw [hM]; exact ki
 obtain ⟨B, hB⟩ : ∃ B, B = fw c u k := ⟨_, rfl⟩
 rw [← hM, ← hB]
 refine au (X := List Int × List Int × Nat) (fun y => ⟨[(0, i9 c), (4, .c (.rs 19 0 c.length)), (6, .c (.rs 903 0 y.2.1.length)), (11, eI B), (71, .c (.rs 72000 0 M.length)), (72, eI M.length), (73, eI (y.2.2 : Nat))], [(19, aE y.1), (903, aE y.2.1), (72000, aE M)]⟩) (fun y => HSi c qT y.1 y.2.1 M k y.2.2 ∧ y.2.1.length + 1 + eR y.1 ≤ c.length ∧ 2 * eR y.1 + y.2.1.length ≤ 2 * eR u + w2.length ∧ fw c y.1 k = B) (fun y => M.length - y.2.2) (u, w2, 0) (((av [19,901,72000] (e' := [(0, _), (4, _), (6, _), (11, _), (71, _), (72, _), (73, _)]) Z Z ⟨Z, Z, Z, Z, Z, Z, Z, trivial⟩ Z).trans (af 901 903 Z Z)).trans (Ent.to ⟨Z, Z, Z, Z, Z, Z, Z, trivial⟩ Z)) ?_ (fun y hi => ?_)
 exact ⟨jW.take hdm trivial (by omega) (by omega), by show w2.length + 1 + eR u ≤ _; omega, bH _, hB.symm⟩
 refine ae ?_
 obtain ⟨u2, e_u2⟩ : ∃ u2, u2 = y.1 := ⟨_, rfl⟩
 obtain ⟨v2, e_v2⟩ : ∃ v2, v2 = y.2.1 := ⟨_, rfl⟩
 obtain ⟨j, e_j⟩ : ∃ j, j = y.2.2 := ⟨_, rfl⟩
 rw [← e_u2, ← e_v2, ← e_j] at hi ⊢
 obtain ⟨hj1, hj2, hj3, hj4⟩ := hi
 have hul2 := hj1.len
 have hBe := hj1.be
 refine js O Z (jn (ag (ab O Z Z (fun hc74 => ?_) (fun hc74 => ?_))))
 refine ah (ag (am (ae ?_)))
 have hjm : j < M.length := by have := aQ hc74; omega
 obtain ⟨z, hz⟩ : ∃ z, z = M.getD j default := ⟨_, rfl⟩
 have hzt : z ∈ ny c k := by rw [hz, aw hjm]; show _ ∈ tg _ _; rw [← hM]; exact List.getElem_mem _
 refine AOps.step (aP O Z Z (by omega)) Z Z Z (AOps.step (ar O (ex := [.int .i64 z]) Z Z Z Z (by rw [fv hjm (by omega), hz]) Z) Z Z Z (js O Z (jf [13,74,0,4,6,11,71,72,73] Z (jn (am (ae (j2 O Z Z ?_)))))))
 first | refine bw O Z ?_ | refine js O Z ?_ | refine bb O Z Z ?_
 refine jf [80,78,13,74,0,4,6,11,71,72,73] Z (ac O Z Z Z Z (qx (k := z) (n := c.length) h1 h2 (by omega)) (aa Z) Z Z Z Z Z (B0 := 82000) Z (j2 O Z Z (jf [77,13,74,0,4,6,11,71,72,73] Z (jn (ab O Z Z (fun hc77 => ?_) (fun hc77 => ?_))))))
 refine ae (j2 O Z Z (jr ?_))
 rw [dS (hj1.nox hzt (fun h => by rw [(pC (z := z)).2 h] at hc77; cases hc77))]
 refine ⟨.inl Z, _, aj, _, Z, [], by decide, Z, Z, Z⟩
 refine ae ?_
 obtain ⟨hz0, hzn⟩ := (pC (z := z)).1 (mF hc77)
 refine j2 O Z Z (AOps.step (aP O Z Z (by omega)) Z Z Z (AOps.step (ar O (ex := [.int .i64 (u2.getD z.toNat default)]) Z Z Z Z (fv (by omega) (by omega)) Z) Z Z Z (j2 O Z Z (jf [83,77,13,74,0,4,6,11,71,72,73] Z (jn (ab O Z Z (fun hc83 => ?_) (fun hc83 => ?_)))))))
 refine ae ?_
 have hzl := aQ hc83
 have hzm : M.getD j default = z := hz.symm
 have hvn : v2.length ≤ 1000 := by omega
 refine j3 O Z Z Z (AOps.step (aP O Z Z (by omega)) Z Z Z (jf [92,91,83,77,13,74,0,4,6,11,71,72,73] Z (AOps.heap (ba (ex := [.int .i64 ((u2).getD z.toNat default)]) (xs' := (u2.set z.toNat B).map (fun n => [D.int .i64 n])) O Z Z Z Z Z Z Z Z Z Z Z Z Z Z (fv (by omega) (by omega)) (sB (v := B) (by omega) Z)) Z (ap ?_))))
 refine ap ?_
 refine jf [83,77,13,74,0,4,6,11,71,72,73] Z (jn (ak (j2 O Z Z (AOps.heap (bi O Z Z Z) Z (ap ?_)))))
 refine jf [95,93,83,77,13,74,0,4,6,11,71,72,73] Z (AOps.heap (ce (zs := (v2 ++ [z]).map fun n => [.int .i64 n]) (n := (v2 ++ [z]).length) O Z Z Z Z Z Z Z Z Z Z Z Z Z Z Z Z (.row Z (bJ _).symm) Z Z (by decide) Z (by simp; omega) (by simp; omega) (by simp) (by simp)) Z (ap ?_))
 refine ap ?_
 refine js O Z (jf [6,83,77,13,74,0,4,11,71,72,73] Z (jn (ak ?_)))
 first | refine ji O Z ?_ | refine bb O Z Z ?_
 refine js O Z (jn ?_)
 have hng := ku (u := u2) (j := z.toNat) (v := B) (by omega) hzl (by rw [← hj4]; have := hj1.kk.2; have := dv (x := (c.getD k default)); show 0 ≤ _ - _ + _; omega)
 refine ⟨(u2.set z.toNat B, v2 ++ [z], j + 1), ((av [19,96,72000] (e' := [(0, _), (4, _), (6, _), (11, _), (71, _), (72, _), (73, _)]) Z Z ⟨Z, Z, Z, Z, Z, Z, Z, trivial⟩ Z).trans (af 96 903 Z Z)).trans (Ent.to ⟨Z, Z, Z, Z, Z, Z, Z, trivial⟩ Z), ⟨?_, ?_, ?_, ?_⟩, by show M.length - (j + 1) < M.length - j; omega⟩
 rw [← hj4]; exact hj1.new hjm hzm hzt hz0 hzn hzl (fun y => by rw [List.mem_append, List.mem_singleton]; exact Or.comm)
 show (v2 ++ [z]).length + 1 + eR (u2.set z.toNat B) ≤ _; rw [c7, gF]; omega
 show 2 * eR (u2.set z.toNat B) + (v2 ++ [z]).length ≤ _; rw [c7, gF]; omega
 rw [← hj4]; exact hj1.bes hzl hz0 hzn
 refine ae ?_
 have hzg := bB hc83
 refine j2 O Z Z (AOps.step (aP O Z Z (by omega)) Z Z Z (AOps.step (ar O (ex := [.int .i64 (u2.getD z.toNat default)]) Z Z Z Z (fv (by omega) (by omega)) Z) Z Z Z (j3 O Z Z Z (jf [97,83,77,13,74,0,4,6,11,71,72,73] Z (jn (ab O Z Z (fun hc97 => ?_) (fun hc97 => ?_)))))))
 refine ae (j2 O Z Z (jr ?_))
 rw [dS (hj1.noe hzt hz0 hzn (by omega) (fun h => by rw [hj4] at h; rw [decide_eq_true h] at hc97; cases hc97))]
 refine ⟨.inl Z, _, aj, _, Z, [], by decide, Z, Z, Z⟩
 refine ah (ak ?_)
 first | refine ji O Z ?_ | refine bb O Z Z ?_
 refine js O Z (jn ?_)
 have hzB : (u2.getD z.toNat default) = B := by have h9 := hc97; cases hq : decide ((u2.getD z.toNat default) = B) with | true => exact aQ hq | false => rw [hq] at h9; cases h9
 refine ⟨(u2, v2, j + 1), (av [19,903,72000] (e' := [(0, _), (4, _), (6, _), (11, _), (71, _), (72, _), (73, _)]) Z Z ⟨Z, Z, Z, Z, Z, Z, Z, trivial⟩ Z).trans (Ent.to ⟨Z, Z, Z, Z, Z, Z, Z, trivial⟩ Z), ⟨hj1.old hjm hz.symm hz0 hzn (hzB.trans hj4.symm), hj2, hj3, hj4⟩, by show M.length - (j + 1) < M.length - j; omega⟩
 refine aU ?_
 have hjm : M.length ≤ j := by have := bB hc74; omega
 refine ⟨(u2, v2), ((av [19,903] (e' := [(0, _), (4, _), (6, _)]) Z Z ⟨Z, Z, Z, trivial⟩ Z).trans (af 903 901 Z Z)).trans (Ent.to ⟨Z, Z, Z, trivial⟩ Z), ⟨hj1.end_ hjm (fun y hy => by rw [hM]; exact hy), by show v2.length + eR u2 ≤ _; omega⟩, by show 2 * eR u2 + v2.length < 2 * eR u + (w2.length + 1); omega⟩
 refine aU (ae (j3 O Z Z Z (jr ?_)))
 have hw0 : ws = [] := by cases ws with | nil => rfl | cons z w2 => have h9 : ¬ (0 : Int) < ((z :: w2).length : Nat) := bB hc34; rw [i3] at h9; omega
 rw [hw0] at jW
 rw [iR jW.done]
 refine ⟨.inl Z, _, aj, _, by rw [← hul]; rfl, [19], by decide, Z, Z, Z⟩
variable {a : An}
theorem sg (hv : cy a = false) : MQ h1 h2 87 [aAn a] [] (Rows (.tup [.c (.d .nils), eB false]) []) := by
 refine bm (jB 34 h1 h2 Tryz.func87 Z Z Z fun O hF => ?_)
 refine ae (jx O Z (ap ?_))
 refine ay (Ent.freeze 1 (e' := [(1, _), (0, _)]) Z (.cons Z (.c (.box (cs := a.data) Z (aC Z))) (fe [0] Z)) (.skip .nil)) ?_
 refine ap ?_
 refine j2 O Z Z (jn (ag (ae (js O Z (ac O Z Z Z Z ((xX (a := a) h1 h2).plain (u := eB false) (by rw [hv])) (aa Z) Z Z Z Z Z (B0 := 10000) Z (js O Z (jf [10,3,2,1,0] Z (jn (ab O Z Z (fun hc10 => ?_) (fun hc10 => ?_))))))))))
 refine ae (j2 O Z Z (jr ?_))
 refine ⟨.inl Z, _, aj, _, Z, [], by decide, Z, Z, Z⟩
 cases hc10
theorem tC (hv : cy a = true) (hq : fP a.code qT = none) : MQ h1 h2 87 [aAn a] [] (Rows (qN (fP a.code (qP a.pts))) (qM (fP a.code (qP a.pts)))) := by
 refine bm (jB 34 h1 h2 Tryz.func87 Z Z Z fun O hF => ?_)
 have hva := cv hv
 have h85 := t1 (c := a.code) h1 h2 (by simp only [cy, bA] at hv; exact hv.1) hva.ok.len hva.n0
 rw [hq] at h85
 refine ae (jx O Z (ap ?_))
 refine ay (Ent.freeze 1 (e' := [(1, _), (0, _)]) Z (.cons Z (.c (.box (cs := a.data) Z (aC Z))) (fe [0] Z)) (.skip .nil)) ?_
 refine ap ?_
 refine j2 O Z Z (jn (ag (ae (js O Z (ac O Z Z Z Z ((xX (a := a) h1 h2).plain (u := eB true) (by rw [hv])) (aa Z) Z Z Z Z Z (B0 := 10000) Z (js O Z (jf [10,3,2,1,0] Z (jn (ab O Z Z (fun hc10 => ?_) (fun hc10 => ?_))))))))))
 cases hc10
 refine ah (ae (j2 O Z Z (jf [13,3,2,1,0] Z (aL O (B0 := 15000) Z Z Z Z (h85) (aa Z) Z Z Z Z Z Z (ap ?_)))))
 refine j4 O Z Z Z Z (js O Z (jf [5,4,3,2,1,0] Z (jn (ag (ae (j2 O Z Z (jf [18,4,3,2,1,0] Z (jn (ab O Z Z (fun hc18 => ?_) (fun hc18 => ?_))))))))))
 refine ae (j2 O Z Z (jr ?_))
 rw [rZ hq]
 refine ⟨.inl Z, _, aj, _, Z, [], by decide, Z, Z, Z⟩
 cases hc18
theorem tB (hv : cy a = true) {h : List Int} (hq : fP a.code qT = some h) : MQ h1 h2 87 [aAn a] [] (Rows (qN (fP a.code (qP a.pts))) (qM (fP a.code (qP a.pts)))) := by
 refine bm (jB 34 h1 h2 Tryz.func87 Z Z Z fun O hF => ?_)
 have hva := cv hv
 have h85 := t1 (c := a.code) h1 h2 (by simp only [cy, bA] at hv; exact hv.1) hva.ok.len hva.n0
 rw [hq] at h85
 have hhl := (rA hq).len
 have h80 := hva.ok.len
 have h8 := hva.ok.np
 have hpp := tl (ps := a.pts) (fun p hp => (hva.pts p hp).2) hq
 refine ae (jx O Z (ap ?_))
 refine ay (Ent.freeze 1 (e' := [(1, _), (0, _)]) Z (.cons Z (.c (.box (cs := a.data) Z (aC Z))) (fe [0] Z)) (.skip .nil)) ?_
 refine ap ?_
 refine j2 O Z Z (jn (ag (ae (js O Z (ac O Z Z Z Z ((xX (a := a) h1 h2).plain (u := eB true) (by rw [hv])) (aa Z) Z Z Z Z Z (B0 := 10000) Z (js O Z (jf [10,3,2,1,0] Z (jn (ab O Z Z (fun hc10 => ?_) (fun hc10 => ?_))))))))))
 cases hc10
 refine ah (ae (j2 O Z Z (jf [13,3,2,1,0] Z (aL O (B0 := 15000) Z Z Z Z (h85) (aa Z) Z Z Z Z Z Z (ap ?_)))))
 refine j4 O Z Z Z Z (js O Z (jf [5,4,3,2,1,0] Z (jn (ag (ae (j2 O Z Z (jf [18,4,3,2,1,0] Z (jn (ab O Z Z (fun hc18 => ?_) (fun hc18 => ?_))))))))))
 cases hc18
 refine ah (ag (ae (j2 O Z Z ?_)))
 first | refine bw O Z ?_ | refine js O Z ?_ | refine bb O Z Z ?_
 refine js O Z (jf [22,21,20,4,3,2,1,0] Z (jn (am (au (X := Nat) (fun i => ⟨[(4, .c (.rs 15000 0 h.length)), (20, .c (.d (fR a.pts))), (21, eI a.pts.length), (22, eI i)], [(15000, aE h)]⟩) (fun i => i ≤ a.pts.length ∧ ∀ j (hj : j < a.pts.length), j < i → h.getD a.pts[j].k.toNat default ≤ 0) (fun i => a.pts.length - i) 0 ((av [15000] (e' := [(4, _), (20, _), (21, _), (22, _)]) Z Z ⟨Z, Z, Z, Z, trivial⟩ Z).trans (Ent.to ⟨Z, Z, Z, Z, trivial⟩ Z)) ?_ (fun i hi => ?_)))))
 exact ⟨cC _, fun j h hj => absurd hj (Nat.not_lt_zero j)⟩
 refine ae (js O Z (jn (ag (ab O Z Z (fun hc23 => ?_) (fun hc23 => ?_)))))
 refine ah (ag (am (ae ?_)))
 have hil : i < a.pts.length := by have := aQ hc23; omega
 have hpk := (hva.pt hil).2
 refine AOps.step (aS O Z Z Z Z Z Z Z Z (c9 hil)) Z Z Z (js O Z (jf [25,23,4,20,21,22] Z (jl O Z (ap ?_))))
 refine jo O Z (ap ?_)
 refine aN (j3 O Z Z Z (AOps.step (aP O Z Z (by omega)) Z Z Z (AOps.step (ar O (ex := [.int .i64 (h.getD (a.pts.getD i default).k.toNat default)]) Z Z Z Z (fv (by omega) (by omega)) Z) Z Z Z (js O Z (jf [31,7,25,23,4,20,21,22] Z (jn (ab O Z Z (fun hc31 => ?_) (fun hc31 => ?_))))))))
 refine ae (j2 O Z Z (jr ?_))
 rw [hpp, if_neg (fun g => by have h9 := aQ hc31; have h7 := g _ (List.getElem_mem hil); rw [← aw hil] at h7; omega)]
 refine ⟨.inl Z, _, aj, _, Z, [], by decide, Z, Z, Z⟩
 refine ah (ak ?_)
 first | refine ji O Z ?_ | refine bb O Z Z ?_
 refine js O Z (jn ?_)
 refine ⟨i + 1, (av [15000] (e' := [(4, _), (20, _), (21, _), (22, _)]) Z Z ⟨Z, Z, Z, Z, trivial⟩ Z).trans (Ent.to ⟨Z, Z, Z, Z, trivial⟩ Z), ⟨by omega, fun j h hj => ?_⟩, by omega⟩
 by_cases e : j = i
 subst e; rw [← aw h]; exact Int.not_lt.1 (bB hc31)
 exact hi.2 j h (by omega)
 refine aU (ae (j3 O Z Z Z (jr ?_)))
 have hin : i = a.pts.length := by have := bB hc23; omega
 rw [hpp, if_pos (fun p hp => by obtain ⟨j, hj, rfl⟩ := List.getElem_of_mem hp; exact hi.2 j hj (by omega))]
 refine ⟨.inl Z, _, aj, _, Z, [15000], by decide, Z, Z, Z⟩
theorem oY {L : Nat} (h1 : 4096 ≤ L) (h2 : L ≤ 1073741824) {a : An} (hv : cy a = true) : MC Tryz.prog L 87 [aAn a] [] (Rows (qN (fP a.code (qP a.pts))) (qM (fP a.code (qP a.pts)))) := by
 cases hq : fP a.code qT with
 | none => exact tC h1 h2 hv hq
 | some h => exact tB h1 h2 hv hq
def mD (a : An) (M : List Int) (i : Nat) : List Int := (M.take i).filter (fun z => dd a.code.length z && !dq a.pts z)
theorem nb {a : An} {M : List Int} {i : Nat} (h : i < M.length) : mD a M (i + 1) = if (dd a.code.length (M.getD i default) && !dq a.pts (M.getD i default)) = true then mD a M i ++ [M.getD i default] else mD a M i := by
 unfold mD
 rw [List.take_succ_eq_append_getElem h, List.filter_append, aw h]
 cases hq : (dd a.code.length M[i] && !dq a.pts M[i])
 rw [if_neg (by decide), List.filter_cons_of_neg (by rw [hq]; decide)]; simp
 rw [if_pos Z, List.filter_cons_of_pos (by rw [hq]), List.filter_nil]
theorem tD {a : An} {M : List Int} {i : Nat} : (mD a M i).length ≤ i := Nat.le_trans (List.length_filter_le _ _) (by rw [List.length_take]; exact Nat.min_le_left _ _)
theorem pF {a : An} {k : Nat} : (gT a k).length ≤ 2 := Nat.le_trans (List.length_filter_le _ _) ki
theorem rO {a : An} {k : Nat} : ∀ y ∈ gT a k, 0 ≤ y ∧ y < a.code.length := fun y hy => (xR.1 hy).2.1
theorem s5 {ps : List Pt} {k : Int} : decide (dr ps k < 0) = !dq ps k := by
 rw [← gm]
 by_cases g : dr ps k < 0
 rw [decide_eq_true g, decide_eq_false (by omega)]; rfl
 rw [decide_eq_false g, decide_eq_true (by omega)]; rfl
theorem t0 {k : Nat} (hk : k < a.code.length) (hc : a.code.length ≤ 1000) : MQ h1 h2 125 [aAn a, eI k] [] (Rows (.c (.rs 0 0 (gT a k).length)) [aE (gT a k)]) := by
 refine bm (jB 34 h1 h2 Tryz.func125 Z Z Z fun O hF => ?_)
 refine ae (jx O Z (ap ?_))
 refine ay (Ent.freeze 2 (e' := [(2, _), (0, _), (1, _)]) Z (.cons Z (.c (.box (cs := a.data) Z (aC Z))) (fe [0,1] Z)) (.skip .nil)) ?_
 refine ap ?_
 refine js O Z (aN (js O Z (jn (ag (ae (j2 O Z Z ?_))))))
 have htl := ki (x := (a.code.getD k default)) (k := k)
 refine js O Z (jf [10,9,5,4,2,0] Z (aL O (B0 := 12000) Z Z Z Z (ud (c := a.code) (k := k) h1 h2 hk hc) (aa Z) Z Z Z Z Z Z (ap ?_)))
 first | refine bw O Z ?_ | refine js O Z ?_ | refine bb O Z Z ?_
 refine js O Z (jf [13,12,11,5,4,2,0] Z (jn (am ?_)))
 obtain ⟨M, hM⟩ : ∃ M, M = tg (a.code.getD k default) k := ⟨_, rfl⟩
 have hM2 : M.length ≤ 2 := by rw [hM]; exact ki
 rw [← hM]
 refine au (X := Nat) (fun i => ⟨[(2, ptr a.data), (5, .c (.rs 900 0 (mD a M i).length)), (11, .c (.rs 12000 0 M.length)), (12, eI M.length), (13, eI (i : Nat))], [(900, aE (mD a M i)), (12000, aE M)]⟩) (fun i => i ≤ M.length) (fun i => M.length - i) 0 ((dk 5 900 1 true Z Z).trans ((av [900,12000] (e' := [(2, _), (5, _), (11, _), (12, _), (13, _)]) Z Z ⟨Z, Z, Z, Z, Z, trivial⟩ Z).trans (Ent.to ⟨Z, Z, Z, Z, Z, trivial⟩ Z))) ?_ (fun i hi => ?_)
 exact cC _
 refine ae (js O Z (jn (ag (ab O Z Z (fun hc14 => ?_) (fun hc14 => ?_)))))
 refine ah (ag (am (ae ?_)))
 have hjm : i < M.length := by have := aQ hc14; omega
 obtain ⟨z, hz⟩ : ∃ z, z = M.getD i default := ⟨_, rfl⟩
 have hbl := tD (a := a) (M := M) (i := i)
 refine AOps.step (aP O Z Z (by omega)) Z Z Z (AOps.step (ar O (ex := [.int .i64 z]) Z Z Z Z (by rw [fv hjm (by omega), hz]) Z) Z Z Z (js O Z (jf [7,14,2,5,11,12,13] Z (jn (ag (cU ⟨[(27, eB (bif dd a.code.length z then !dq a.pts z else false)), (7, eI z), (2, ptr a.data), (5, .c (.rs 900 0 (mD a M i).length)), (11, .c (.rs 12000 0 M.length)), (12, eI M.length), (13, eI (i : Nat))], [(900, aE (mD a M i)), (12000, aE M)]⟩ ?_ ?_))))))
 refine ak (j3 O Z Z Z ?_)
 first | refine bw O Z ?_ | refine js O Z ?_ | refine bb O Z Z ?_
 refine jf [20,17,7,14,2,5,11,12,13] Z (ac O Z Z Z Z ((qx (k := z) (n := a.code.length) h1 h2 (by omega)).plain (u := eB (dd a.code.length z)) Z) (aa Z) Z Z Z Z Z (B0 := 22000) Z (js O Z ?_))
 cases hb23 : dd a.code.length z with
 | true =>
  refine jf [22,7,14,2,5,11,12,13] Z (bp Z (js O Z (bp Z (js O Z (bp Z (ac O Z Z Z Z (mL (a := a) (k := z) h1 h2) (aa Z) Z Z Z Z Z (B0 := 26000) Z (jf [25,22,7,14,2,5,11,12,13] Z (bp Z (AOps.step ((V O Z).cast (v' := eB (!dq a.pts z)) (congrArg eB s5)) Z Z Z (AOps.step (bd O Z Z Z Z Z) Z Z Z (jf [27,7,14,2,5,11,12,13] Z (jn ?_))))))))))))
  exact ⟨Z, (av [900,12000] (e' := [(27, _), (7, _), (2, _), (5, _), (11, _), (12, _), (13, _)]) Z Z ⟨Z, Z, Z, Z, Z, Z, Z, trivial⟩ Z).trans (Ent.to ⟨Z, Z, Z, Z, Z, Z, Z, trivial⟩ Z)⟩
 | false =>
  refine jf [22,7,14,2,5,11,12,13] Z (AOps.skip Z Z Z Z Z Z (AOps.skip Z Z Z Z Z Z (AOps.skip Z Z Z Z Z Z (jf [25,22,7,14,2,5,11,12,13] Z (AOps.skip Z Z Z Z Z Z (AOps.step (aH O Z Z Z Z Z) Z Z Z (jf [27,7,14,2,5,11,12,13] Z (jn ?_))))))))
  exact ⟨Z, (av [900,12000] (e' := [(27, _), (7, _), (2, _), (5, _), (11, _), (12, _), (13, _)]) Z Z ⟨Z, Z, Z, Z, Z, Z, Z, trivial⟩ Z).trans (Ent.to ⟨Z, Z, Z, Z, Z, Z, Z, trivial⟩ Z)⟩
 refine ab O Z Z (fun hc27 => ?_) (fun hc27 => ?_)
 refine ak (j2 O Z Z (AOps.heap (bi O Z Z Z) Z (ap ?_)))
 refine jf [30,28,27,7,2,5,11,12,13] Z (AOps.heap (ce (zs := (mD a M i ++ [z]).map fun n => [.int .i64 n]) (n := (mD a M i ++ [z]).length) O Z Z Z Z Z Z Z Z Z Z Z Z Z Z Z Z (.row Z (bJ _).symm) Z Z (by decide) Z (by simp; omega) (by simp; omega) (by simp) (by simp)) Z (ap ?_))
 refine ap ?_
 refine js O Z (jf [5,27,7,2,11,12,13] Z (jn (ak ?_)))
 first | refine ji O Z ?_ | refine bb O Z Z ?_
 refine js O Z (jn ?_)
 have hx9 : mD a M (i + 1) = mD a M i ++ [z] := by rw [nb hjm, ← hz, if_pos (by obtain ⟨q1, q2⟩ := sP hc27; rw [q1, q2]; rfl)]
 refine ⟨i + 1, (((av [31,12000] (e' := [(2, _), (5, _), (11, _), (12, _), (13, _)]) Z Z ⟨Z, Z, Z, Z, Z, trivial⟩ Z).trans (af 31 900 Z Z))).trans (Ent.to ⟨Z, by rw [hx9]; rfl, Z, Z, Z, trivial⟩ (by rw [hx9]; rfl)), by omega, by omega⟩
 refine ah (ak ?_)
 first | refine ji O Z ?_ | refine bb O Z Z ?_
 refine js O Z (jn ?_)
 have hx9 : mD a M (i + 1) = mD a M i := by rw [nb hjm, ← hz, if_neg (by have h9 := hc27; intro g; rw [bA] at g; rw [g.1, g.2] at h9; cases h9)]
 refine ⟨i + 1, ((av [900,12000] (e' := [(2, _), (5, _), (11, _), (12, _), (13, _)]) Z Z ⟨Z, Z, Z, Z, Z, trivial⟩ Z)).trans (Ent.to ⟨Z, by rw [hx9]; rfl, Z, Z, Z, trivial⟩ (by rw [hx9]; rfl)), by omega, by omega⟩
 refine aU (ae (j2 O Z Z (jr ?_)))
 have hin : i = M.length := by have := bB hc14; omega
 rw [show gT a k = mD a M i by rw [hin, mD, List.take_length, hM]; rfl]
 refine ⟨.inl Z, _, aj, _, Z, [900], by decide, Z, Z, Z⟩
noncomputable def ns (a : An) (i : Nat) : List Bool := (bP a).take i ++ List.replicate (a.code.length - i) false
theorem cF {a : An} : (bP a).length = a.code.length := by simp [bP]
theorem pu {a : An} {i : Nat} (h : i < a.code.length) : (bP a)[i]'(by rw [cF]; exact h) = iw a i := by simp [bP]
theorem tb {a : An} {i : Nat} (h : i ≤ a.code.length) : (ns a i).length = a.code.length := by
 simp only [ns, c7, List.length_take, List.length_replicate, cF]; omega
theorem rV {a : An} : ns a 0 = List.replicate a.code.length false := by simp [ns]
theorem tc {a : An} : ns a a.code.length = bP a := by
 unfold ns; rw [Nat.sub_self, List.replicate_zero, List.append_nil, List.take_of_length_le (by rw [cF]; exact bH _)]
theorem ta {a : An} {i : Nat} (h : i < a.code.length) : (ns a i).set i (iw a i) = ns a (i + 1) := by
 unfold ns
 obtain ⟨m, hm⟩ : ∃ m, a.code.length = i + 1 + m := ⟨a.code.length - (i + 1), by omega⟩
 have ht : ((bP a).take i).length = i := by rw [List.length_take, cF]; omega
 rw [hm, show i + 1 + m - i = m + 1 by omega, show i + 1 + m - (i + 1) = m by omega, List.set_append_right _ _ (by omega), ht, Nat.sub_self, List.replicate_succ, List.set_cons_zero,
  List.take_succ_eq_append_getElem (by rw [cF]; exact h), pu h, ef]; rfl
theorem rW {a : An} {i : Nat} (h : i < a.code.length) (hf : iw a i = false) : ns a (i + 1) = ns a i := by
 unfold ns
 obtain ⟨m, hm⟩ : ∃ m, a.code.length = i + 1 + m := ⟨a.code.length - (i + 1), by omega⟩
 rw [hm, show i + 1 + m - i = m + 1 by omega, show i + 1 + m - (i + 1) = m by omega, List.replicate_succ, List.take_succ_eq_append_getElem (by rw [cF]; exact h), pu h, hf, ef]; rfl
theorem sk {n : Nat} : dE (List.replicate n false) = .row true 1 (List.replicate n [.bool false]) := congrArg (B.row true 1) List.map_replicate
theorem pH {u : List Bool} : u.all (!·) = !u.any (fun b => b) := by
 induction u with
 | nil => rfl
 | cons b u ih => rw [List.all_cons, List.any_cons, ih]; cases b <;> rfl
theorem qZ (h80 : a.code.length ≤ 80) : MQ h1 h2 89 [aAn a] [] (Rows (.c (.rs 0 0 a.code.length)) [dE (bP a)]) := by
 refine bm (jB 63 h1 h2 Tryz.func89 Z Z Z fun O hF => ?_)
 refine ae (jx O Z (ap ?_))
 refine ay (Ent.freeze 1 (e' := [(1, _), (0, _)]) Z (.cons Z (.c (.box (cs := a.data) Z (aC Z))) (fe [0] Z)) (.skip .nil)) ?_
 refine ap ?_
 refine js O Z (aN (j2 O Z Z ?_))
 first | refine bw O Z ?_ | refine js O Z ?_ | refine bb O Z Z ?_
 refine jf [10,2,1,0] Z (AOps.heap (co O Z Z Z Z Z Z Z Z Z (by first | omega | (simp at *; omega)) (by first | omega | (simp at *; omega)) (by first | omega | (simp at *; omega)) (by first | omega | (dsimp only; omega) | (simp only [aJ] at *; omega)) (by first | omega | (simp at *; omega)) Z Z Z) Z (ap ?_))
 refine js O Z (jf [3,2,1,0] Z (jn (ag (ae (js O Z ?_)))))
 first | refine bw O Z ?_ | refine js O Z ?_ | refine bb O Z Z ?_
 refine js O Z (jn (am (au (X := Nat) (fun i => ⟨[(1, ptr a.data), (3, .c (.rs 11 0 a.code.length)), (13, eI a.code.length), (14, eI i)], [(11, dE (ns a i))]⟩) (fun i => i ≤ a.code.length) (fun i => a.code.length - i) 0 (Ent.to ⟨Z, Z, Z, Z, trivial⟩ (by rw [rV, dE, List.map_replicate]; rfl)) ?_ (fun i hi => ?_))))
 exact cC _
 refine ae (js O Z (jn (ag (ab O Z Z (fun hc15 => ?_) (fun hc15 => ?_)))))
 refine ah (ag (am (ae ?_)))
 have hil : i < a.code.length := by have := aQ hc15; omega
 have hol := tb (a := a) (i := i) (by omega)
 refine j2 O Z Z (jn (ag (ae (j2 O Z Z (ac O Z Z Z Z (mL (a := a) (k := (i : Int)) h1 h2) (aa Z) Z Z Z Z Z (B0 := 20000) Z (AOps.step ((V O Z).cast (v' := eB (dq a.pts (i : Int))) (congrArg eB gm)) Z Z Z (jf [20,4,16,15,1,3,13,14] Z (jn (ab O Z Z (fun hc20 => ?_) (fun hc20 => ?_))))))))))
 refine aU (ak ?_)
 first | refine ji O Z ?_ | refine bb O Z Z ?_
 refine js O Z (jn ?_)
 refine ⟨i + 1, (av [11] (e' := [(1, _), (3, _), (13, _), (14, _)]) Z Z ⟨Z, Z, Z, Z, trivial⟩ Z).trans (Ent.to ⟨Z, Z, Z, Z, trivial⟩ (by rw [rW hil (pw hc20)]; rfl)), by omega, by omega⟩
 refine ah (ae (js O Z ?_))
 first | refine bw O Z ?_ | refine js O Z ?_ | refine bb O Z Z ?_
 refine jf [22,20,4,16,15,1,3,13,14] Z (AOps.heap (co O Z Z Z Z Z Z Z Z Z (by first | omega | (simp at *; omega)) (by first | omega | (simp at *; omega)) (by first | omega | (simp at *; omega)) (by first | omega | (dsimp only; omega) | (simp only [aJ] at *; omega)) (by first | omega | (simp at *; omega)) Z Z Z) Z (ap ?_))
 refine js O Z (jf [5,20,4,16,15,1,3,13,14] Z (jn (ag (ae (j2 O Z Z (aL O (B0 := 27000) Z Z Z Z (t0 (a := a) (k := i) h1 h2 hil (by omega)) (aa Z) Z Z Z Z Z Z (ap ?_)))))))
 refine js O Z (jf [6,5,20,4,16,15,1,3,13,14] Z (jn (am ?_)))
 have hpt : dq a.pts (i : Int) = false := hc20
 have hbl0 := pF (a := a) (k := i)
 refine au (X := List Bool × List Int) (fun x => ⟨[(1, ptr a.data), (3, .c (.rs 11 0 a.code.length)), (4, eI i), (5, .c (.rs 23 0 a.code.length)), (6, .c (.rs 901 0 x.2.length)), (13, eI a.code.length), (14, eI i)], [(11, dE (ns a i)), (23, dE x.1), (901, aE x.2)]⟩) (fun x => GR (gT a) a.code.length (gT a i) x.1 x.2 ∧ x.2.length + 3 * gW x.1 ≤ 3 * a.code.length + 2) (fun x => 3 * gW x.1 + x.2.length) (List.replicate a.code.length false, gT a i) (((av [11,23,27000] (e' := [(1, _), (3, _), (4, _), (5, _), (6, _), (13, _), (14, _)]) Z Z ⟨Z, Z, Z, Z, Z, Z, Z, trivial⟩ Z).trans (af 27000 901 Z Z)).trans (Ent.to ⟨Z, Z, Z, Z, Z, Z, Z, trivial⟩ (by show _ = [_, (23, dE (List.replicate a.code.length false)), _]; rw [sk]; rfl))) ?_ (fun x hi => ?_)
 exact ⟨GR.zero rO, by show (gT a i).length + 3 * gW (List.replicate a.code.length false) ≤ _; rw [qe]; omega⟩
 refine ag (ae ?_)
 obtain ⟨u, e_u⟩ : ∃ u, u = x.1 := ⟨_, rfl⟩
 obtain ⟨ws, e_ws⟩ : ∃ ws, ws = x.2 := ⟨_, rfl⟩
 rw [← e_u, ← e_ws] at hi ⊢
 obtain ⟨jW, i5⟩ := hi
 have hul := jW.len
 have hwl : ws.length ≤ 400 := by omega
 have hcu : gW u ≤ a.code.length := by rw [← hul]; exact List.count_le_length
 refine js O Z ?_
 first | refine bw O Z ?_ | refine js O Z ?_ | refine bb O Z Z ?_
 refine js O Z (jf [29,1,3,4,5,6,13,14] Z (jn (ab O Z Z (fun hc29 => ?_) (fun hc29 => ?_))))
 refine ah (am (ae ?_))
 obtain ⟨w2, z, ez⟩ : ∃ w2 z, ws = w2 ++ [z] := by rcases List.eq_nil_or_concat ws with h9 | ⟨w2, z, h9⟩; rw [h9] at hc29; cases hc29; exact ⟨w2, z, by rw [h9, List.concat_eq_append]⟩
 rw [ez] at jW i5 hwl
 rw [c7, gF] at i5 hwl
 have hzz := jW.nn z (by simp)
 obtain ⟨k, rfl⟩ : ∃ k : Nat, z = (k : Int) := ⟨z.toNat, by omega⟩
 rw [ez, show (w2 ++ [(k : Int)]).length = w2.length + 1 by simp]
 have hkn : k < a.code.length := by omega
 refine j2 O Z Z ?_
 first | refine bw O Z ?_ | refine js O Z ?_ | refine bb O Z Z ?_
 refine AOps.step ((aG O Z Z (by omega) (by omega)).cast (v' := eI (w2.length : Nat)) (congrArg eI (by omega))) Z Z Z (AOps.step (aP O Z Z (by omega)) Z Z Z (AOps.step (ar O (ex := [.int .i64 (k : Int)]) Z Z Z Z (by simp) Z) Z Z Z (js O Z (jf [7,29,1,3,4,5,6,13,14] Z (aN (j2 O Z Z ?_))))))
 first | refine bw O Z ?_ | refine js O Z ?_ | refine bb O Z Z ?_
 refine AOps.step ((aG O Z Z (by omega) (by omega)).cast (v' := eI (w2.length : Nat)) (congrArg eI (by omega))) Z Z Z (AOps.step (fM O Z Z Z Z Z Z Z Z Z Z (Nat.le_succ _)) Z Z Z (ay (Ent.cut 901 w2.length Z) (ap ?_)))
 rw [po]
 refine js O Z (jf [6,7,29,1,3,4,5,13,14] Z (aN (j2 O Z Z (AOps.step (aP O Z Z (by omega)) Z Z Z (AOps.step (ar O (ex := bL (u.getD k default)) Z Z Z Z (fv (by omega) (by omega)) Z) Z Z Z (js O Z (jf [45,6,7,29,1,3,4,5,13,14] Z (jn (ab O Z Z (fun hc45 => ?_) (fun hc45 => ?_))))))))))
 refine ae ?_
 have hc9 : u.getD k default = false := qK hc45
 have hcs := se (u := u) (j := k) (by omega) hc9
 have hbl := pF (a := a) (k := k)
 refine j2 O Z Z (AOps.step (aP O Z Z (by omega)) Z Z Z (jf [48,45,6,7,29,1,3,4,5,13,14] Z (AOps.heap (ba (ex := bL (u.getD k default)) (xs' := (u.set k true).map bL) O Z Z Z Z Z Z Z Z Z Z Z Z Z Z (fv (by omega) (by omega)) (sB (v := true) (by omega) Z)) Z (ap ?_))))
 refine ap ?_
 refine jn (ak (j3 O Z Z Z (aL O (B0 := 53000) Z Z Z Z (t0 (a := a) (k := k) h1 h2 hkn (by omega)) (aa Z) Z Z Z Z Z Z (ap ?_))))
 refine jf [52,49,48,45,6,7,29,1,3,4,5,13,14] Z (AOps.heap (ce (zs := (w2 ++ gT a k).map (fun n => [D.int .i64 n])) (n := (w2 ++ gT a k).length) O Z Z Z Z Z Z Z Z Z Z Z Z Z Z Z Z (.row Z (bJ _).symm) Z (bJ _).symm (by decide) Z (by simp only [bJ]; omega) (by show _ * 8 ≤ _; simp only [bJ]; omega) (by rw [List.map_append]) (bJ _)) Z (ap ?_))
 refine ap ?_
 refine js O Z (jf [6,48,45,7,29,1,3,4,5,13,14] Z (jn ?_))
 have hin := tJ (fun k _ => rO) jW (ws' := w2) (fun y => by rw [List.mem_append, List.mem_singleton]; exact Or.comm)
 refine ⟨(u.set k true, w2 ++ gT a k), ((av [11,23,53] (e' := [(1, _), (3, _), (4, _), (5, _), (6, _), (13, _), (14, _)]) Z Z ⟨Z, Z, Z, Z, Z, Z, Z, trivial⟩ Z).trans (af 53 901 Z Z)).trans (Ent.to ⟨Z, Z, Z, Z, Z, Z, Z, trivial⟩ Z), ⟨hin, ?_⟩, ?_⟩
 show (w2 ++ gT a k).length + 3 * gW (u.set k true) ≤ _
 rw [c7]; omega
 show 3 * gW (u.set k true) + (w2 ++ gT a k).length < 3 * gW u + (w2.length + 1)
 rw [c7]; omega
 refine ah ?_
 refine ⟨(u, w2), (av [11,23,901] (e' := [(1, _), (3, _), (4, _), (5, _), (6, _), (13, _), (14, _)]) Z Z ⟨Z, Z, Z, Z, Z, Z, Z, trivial⟩ Z).trans (Ent.to ⟨Z, Z, Z, Z, Z, Z, Z, trivial⟩ Z), ⟨jW.out (z := (k : Int)) (ws' := w2) (fun y => by rw [List.mem_append, List.mem_singleton]; exact Or.comm) (by rw [Int.toNat_natCast]; exact mF hc45), by show w2.length + 3 * gW u ≤ _; omega⟩, by show 3 * gW u + w2.length < 3 * gW u + (w2.length + 1); omega⟩
 refine aU (ak ?_)
 have hw0 : ws = [] := by cases ws with | nil => rfl | cons z w2 => have h9 : ¬ (0 : Int) < ((z :: w2).length : Nat) := bB hc29; rw [i3] at h9; omega
 rw [hw0] at jW
 have hO : u.getD i default = iw a i := by rw [jW.done]; exact (mb hpt).symm
 refine j4 O Z Z Z Z (AOps.step (aP O Z Z (by omega)) Z Z Z (AOps.step (ar O (ex := bL (u.getD i default)) Z Z Z Z (fv (by omega) (by omega)) Z) Z Z Z (AOps.step (aP O Z Z (by omega)) Z Z Z (jf [60,59,29,1,3,4,5,6,13,14] Z (AOps.heap (ba (ex := bL ((ns a i).getD i default)) (xs' := (ns a (i + 1)).map bL) O Z Z Z Z Z Z Z Z Z Z Z Z Z Z (fv (by omega) (by omega)) (by rw [← ta hil]; exact sB (v := iw a i) (by omega) (by rw [hO]; rfl))) Z (ap ?_))))))
 refine ap ?_
 refine jf [29,1,3,4,5,6,13,14] Z (jn (ak ?_))
 first | refine ji O Z ?_ | refine bb O Z Z ?_
 refine js O Z (jn ?_)
 refine ⟨i + 1, (av [11] (e' := [(1, _), (3, _), (13, _), (14, _)]) Z Z ⟨Z, Z, Z, Z, trivial⟩ Z).trans (Ent.to ⟨Z, Z, Z, Z, trivial⟩ Z), by omega, by omega⟩
 refine aU (ae (j2 O Z Z (jr ?_)))
 have hin : i = a.code.length := by have := bB hc15; omega
 rw [hin, tc]
 refine ⟨.inl Z, _, aj, _, Z, [11], by decide, Z, Z, Z⟩
variable {u : List Bool}
theorem xm (hl : u.length ≤ 1000) : MQ h1 h2 123 [.c (.rs 0 0 u.length), eB true] [(0, dE u)] (aY (eI (oJ (fun b => b) u)) [(0, dE u)]) := by
 refine aI 500 Z (nd (jH 19 [500] h1 h2 Tryz.func123 Z Z Z Z fun O hF => ?_))
 refine ae (js O Z (jn (ag (ae (js O Z ?_)))))
 first | refine bw O Z ?_ | refine js O Z ?_ | refine bb O Z Z ?_
 refine js O Z (jn (am (au (X := Nat) (fun i => ⟨[(0, .c (.rs 500 0 u.length)), (1, eB true), (7, eI u.length), (8, eI i)], [(500, dE u)]⟩) (fun i => i ≤ u.length ∧ ∀ j (h : j < u.length), j < i → (fun b => b) u[j] = false) (fun i => u.length - i) 0 (Ent.to ⟨Z, Z, Z, Z, trivial⟩ Z) ?_ (fun i hi => ?_))))
 exact ⟨cC _, fun j h hj => absurd hj (Nat.not_lt_zero j)⟩
 refine ae (js O Z (jn (ag (ab O Z Z (fun hc9 => ?_) (fun hc9 => ?_)))))
 refine ah (ag (am (ae ?_)))
 have hil : i < u.length := by have := aQ hc9; omega
 refine j2 O Z Z (aN (j3 O Z Z Z (AOps.step (aP O Z Z (by omega)) Z Z Z (AOps.step (ar O (ex := bL (u.getD i default)) Z Z Z Z (fv (by omega) (by omega)) Z) Z Z Z (js O Z (jf [16,5,10,9,0,1,7,8] Z (jn (ab O Z Z (fun hc16 => ?_) (fun hc16 => ?_)))))))))
 refine ae (j2 O Z Z (jr ?_))
 refine ⟨.inl Z, _, aj, _, Z, ?_⟩
 refine ⟨?_, Z⟩
 rw [show oJ (fun b => b) u = i from lV hil hi.2 (by rw [← aw hil]; cases hu : u.getD i default with | true => rfl | false => rw [hu] at hc16; exact absurd hc16 (by decide))]
 exact .v (.c .d)
 refine ah (ak ?_)
 first | refine ji O Z ?_ | refine bb O Z Z ?_
 refine js O Z (jn ?_)
 refine ⟨i + 1, Ent.to ⟨Z, Z, Z, Z, trivial⟩ Z, ⟨by omega, fun j h hj => ?_⟩, by omega⟩
 by_cases e : j = i
 subst e; show u[j] = false; rw [← aw h]; cases hu : u.getD j default with | false => rfl | true => rw [hu] at hc16; exact absurd hc16 (by decide)
 exact hi.2 j h (by omega)
 refine aU (ae (js O Z (jr ?_)))
 refine ⟨.inl Z, _, aj, _, Z, ?_⟩
 refine ⟨?_, Z⟩
 have h9 := bB hc9
 rw [show oJ (fun b => b) u = -1 from lU fun j hj => hi.2 j hj (by omega)]
 exact .v (.c .d)
theorem q8 (hl : u.length ≤ 1000) : MQ h1 h2 88 [.c (.rs 0 0 u.length), eB true] [(0, dE u)] (aY (eB (u.any (fun b => b))) [(0, dE u)]) := by
 refine aI 500 Z (nd (jH 9 [500] h1 h2 Tryz.func88 Z Z Z Z fun O hF => ?_))
 refine ae (js O Z (aN (j2 O Z Z (jf [6,5,4] Z (aq O [500] (bin := [dE u]) Z Z Z Z (xm (u := u) h1 h2 hl) Z Z Z Z Z Z (B0 := 8000) Z Z (ap ?_))))))
 refine AOps.step ((V O Z).cast (v' := eB (u.any (fun b => b))) (congrArg eB nL)) Z Z Z (js O Z (jf [4] Z (jr ?_)))
 refine ⟨.inl Z, _, aj, _, Z, ?_⟩
 refine ⟨?_, Z⟩
 exact .v (.c .d)
variable {t : Tm}
theorem vq : MQ h1 h2 173 [cM t] [] (Rows (.tup [.agg [.d (.int .i64 (j8 t).1.c), .rs 0 0 (j8 t).1.xs.length], eB (j8 t).2]) [aE (j8 t).1.xs]) := by
 refine bm (jB 10 h1 h2 Tryz.func173 Z Z Z fun O hF => ?_)
 refine ae (jx O Z (ap ?_))
 refine jf [1] Z (jl O Z (ap ?_))
 refine js O Z (jn (ag (ae (js O Z (ac O Z Z Z Z (j9 (t := t) h1 h2) (aa Z) Z Z Z Z Z (B0 := 6000) Z (js O Z (jf [6,3,2,1] Z (jn (ab O Z Z (fun hc6 => ?_) (fun hc6 => ?_))))))))))
 refine ae (js O Z (jf [7,3,2,1] Z (jo O Z (ap ?_))))
 refine js O Z (jr ?_)
 have hok : t.ok = false := by simpa using hc6
 rw [show j8 t = (⟨0, []⟩, false) from if_neg (by rw [hok]; decide)]
 refine ⟨.inl Z, _, cx 2 900 1 true 1 Z Z Z, _, Z, [900], by decide, Z, Z, Z⟩
 refine ah (ae (js O Z (jf [8,3,2,1] Z (aL O (B0 := 10000) Z Z Z Z (oS (t := t) h1 h2) (aa Z) Z Z Z Z Z Z (ap ?_)))))
 refine jf [9,3,2,1] Z (jo O Z (ap ?_))
 refine js O Z (jr ?_)
 have hok : t.ok = true := by simpa using hc6
 rw [show j8 t = (t, true) from if_pos hok]
 refine ⟨.inl Z, _, aj, _, Z, [10000], by decide, Z, Z, Z⟩
theorem vr {vs : List Tm} (ht : t.ok = true) (hv : ee vs 10 = true) (hle : t.xs.length ≤ vs.length) : MQ h1 h2 184 [cM t, cm vs] [] (Rows (.tup [.agg [.d (.int .i64 (dV t vs).1.c), .rs 0 0 (dV t vs).1.xs.length], eB (dV t vs).2]) [aE (dV t vs).1.xs]) := by
 refine bm (jB 64 h1 h2 Tryz.func184 Z Z Z fun O hF => ?_)
 have htl := kl ht
 refine ae (jx O Z (ap ?_))
 refine jf [2,1] Z (jl O Z (ap ?_))
 refine js O Z (jn (ag (ae (js O Z (ac O Z Z Z Z (j9 (t := t) h1 h2) (aa Z) Z Z Z Z Z (B0 := 13000) Z (j2 O Z Z (jf [14,5,4,2,1] Z (aR 3 Z Z Z (fun hx => AN.step hx Z Z Z (V O Z) Z Z ( db O hx Z Z Z Z (wl (ts := vs) (n := 10) h1 h2) (aa Z) Z Z Z Z Z Z Z (B0 := 17000) Z ( AN.step hx Z Z Z (V O Z) Z Z ( AN.nil)))) Z Z (AOps.step (aM O Z Z Z Z Z) Z Z Z (jf [18,5,4,2,1] Z (jn (ab O Z Z (fun hc18 => ?_) (fun hc18 => ?_)))))))))))))
 exact absurd hc18 (by rw [hv, ht]; decide)
 refine ah (ae (j3 O Z Z Z (jf [22,5,4,2,1] Z (AOps.heap (dy O Z Z Z Z Z Z Z Z Z Z Z) Z (ap ?_)))))
 refine ay (Ent.rowLe 23 Z (.cons (.cons .refl (.cons (.nil (sz := 1)) .nil)) .nil)) (ap ?_)
 refine ap ?_
 refine jf [23,5,4,2,1] Z (AOps.heap (bi O Z Z Z) Z (ap ?_))
 refine j2 O Z Z (jf [7,6,5,4,2,1] Z (jn (ag (ae (j2 O Z Z (bw O Z (js O Z (jn (am (au (X := Nat) (fun i => ⟨[(1, cm vs), (2, .c (.pt 2 0 0)), (4, .c (.pt 4 0 0)), (6, .c (.rs 906 0 (i + 1))), (7, .c (.rs 907 0 (i + 1))), (26, cw t.xs), (27, eI t.xs.length), (28, eI i)], [(2, .box [.d (.int .i64 t.c), .d (eh t.xs)]), (4, .box [.d (.int .i64 0), .d .nils]), (906, .row false 2 ((⟨t.c, []⟩ :: vs.take i).map Tm.cells)), (907, aE (1 :: t.xs.take i))]⟩) (fun i => i ≤ t.xs.length) (fun i => t.xs.length - i) 0 ((((av [2,4,23,24] (e' := [(1, _), (2, _), (4, _), (6, _), (7, _), (26, _), (27, _), (28, _)]) Z Z ⟨Z, Z, Z, Z, Z, Z, Z, Z, trivial⟩ Z).trans (af 23 906 Z Z)).trans (af 24 907 Z Z)).trans (Ent.to ⟨Z, Z, Z, Z, Z, Z, Z, Z, trivial⟩ Z)) ?_ (fun i hi => ?_)))))))))))
 exact cC _
 refine ae (js O Z (jn (ag (ab O Z Z (fun hc29 => ?_) (fun hc29 => ?_)))))
 refine ah (ag (am (ae (js O Z (nu O Z Z (j3 O Z Z Z (jf [9,8,29,1,2,4,6,7,26,27,28] Z (aN ?_))))))))
 have hil : i < t.xs.length := by have := aQ hc29; omega
 have hvl : vs.length ≤ 10 := by have := (nV hv).2; omega
 refine js O Z (ji O Z (jf [34,9,8,29,1,2,4,6,7,26,27,28] Z (AOps.heap (co O Z Z Z Z Z Z Z Z Z (by first | omega | (simp at *; omega)) (by first | omega | (simp at *; omega)) (by first | omega | (simp at *; omega)) (by first | omega | (dsimp only; omega) | (simp only [aJ] at *; omega)) (by first | omega | (simp at *; omega)) Z Z Z) Z (ap ?_))))
 refine js O Z (jf [36,9,8,29,1,2,4,6,7,26,27,28] Z (jl O Z (ap ?_)))
 refine jo O Z (ap ?_)
 refine aN (j3 O Z Z Z (bb O Z Z (jf [40,10,36,9,8,29,1,2,4,6,7,26,27,28] Z (AOps.heap (ba (ex := [.int .i64 0]) (xs' := ((List.replicate i 0 ++ [1] : List Int)).map (fun n => [D.int .i64 n])) O Z Z Z Z Z Z Z Z Z Z Z Z Z Z jZ jY) Z (ap ?_)))))
 refine jn (ag (ae (j2 O Z Z (bw O Z (js O Z (jf [44,40,10,36,9,8,29,1,2,4,6,7,26,27,28] Z (jn (ab O Z Z (fun hc44 => ?_) (fun hc44 => ?_)))))))))
 refine ak (j2 O Z Z (nu O Z Z (js O Z (jf [48,44,40,10,36,9,8,29,1,2,4,6,7,26,27,28] Z (jo O Z (ap ?_))))))
 refine jn (ak (j2 O Z Z (AOps.heap (dy O Z Z Z Z Z Z Z Z Z Z Z) Z (ap ?_))))
 refine jf [51,49,48,44,40,10,36,9,8,29,1,2,4,6,7,26,27,28] Z (AOps.heap (bI (own := false) (xs := ((⟨t.c, []⟩ : Tm) :: vs.take i).map Tm.cells) (ys := [Tm.cells (vs.getD i default)]) (zs := ((⟨t.c, []⟩ : Tm) :: vs.take (i + 1)).map Tm.cells) (n := i + 2) O Z Z Z Z Z Z Z Z Z Z Z Z Z Z Z Z (.row Z (by simp; omega)) (.whole Z Z (.inr ⟨Z, Z⟩)) (by simp) Z (by simp; omega) (by simp; omega) (by rw [List.take_succ_eq_append_getElem (by omega), ← List.cons_append, List.map_append, aw (by omega)]; rfl) (by simp; omega)) Z (ap ?_))
 refine ay (av [2,4,52,907] (e' := [(52, _), (9, _), (7, _), (1, _), (2, _), (4, _), (26, _), (27, _), (28, _)]) Z Z ⟨Z, Z, Z, Z, Z, Z, Z, Z, Z, trivial⟩ Z) (ap ?_)
 refine j2 O Z Z (jf [54,53,52,7,1,2,4,26,27,28] Z (AOps.heap (bi O Z Z Z) Z (ap ?_)))
 refine jf [55,53,52,7,1,2,4,26,27,28] Z (AOps.heap (ce (zs := (1 :: t.xs.take (i + 1)).map fun n => [.int .i64 n]) (n := i + 2) O Z Z Z Z Z Z Z Z Z Z Z Z Z Z Z Z (.row Z (by simp; omega)) Z Z (by decide) Z (by simp; omega) (by simp; omega) (by rw [show t.xs.take (i + 1) = t.xs.take i ++ [t.xs.getD i default] by rw [List.take_succ_eq_append_getElem (by omega), aw (by omega)], ← List.cons_append, List.map_append]; rfl) (by simp; omega)) Z (ap ?_))
 refine j2 O Z Z (jf [7,6,1,2,4,26,27,28] Z (jn (ak (ji O Z (js O Z (jn ?_))))))
 refine ⟨i + 1, (((av [2,4,52,56] (e' := [(1, _), (2, _), (4, _), (6, _), (7, _), (26, _), (27, _), (28, _)]) Z Z ⟨Z, Z, Z, Z, Z, Z, Z, Z, trivial⟩ Z).trans (af 52 906 Z Z)).trans (af 56 907 Z Z)), by omega, by omega⟩
 exact absurd hc44 (by simp; omega)
 refine aU (ae ?_)
 have hvl : vs.length ≤ 10 := by have := (nV hv).2; omega
 obtain rfl : i = t.xs.length := by have := bB hc29; omega
 rw [List.take_length]
 refine ay (Ent.freeze 906 (e' := [(6, _), (7, _), (4, _), (2, _)]) Z (.cons Z (.c (.row Z (by simp; omega))) (fe [7,4,2] Z)) (.cons Z (.box (fk Z)) (.cons Z (.box (fk Z)) (.skip (.cons Z .row .nil))))) ?_
 refine ay (Ent.freeze 907 (e' := [(6, _), (7, _), (4, _), (2, _)]) Z (.cons Z (.keep Z) (.cons Z (.c (.row Z (by simp))) (fe [4,2] Z))) (.cons Z (.box (fk Z)) (.cons Z (.box (fk Z)) (.skip .nil)))) ?_
 refine j2 O Z Z (ax O Z Z Z Z (qQ (ts := ⟨t.c, []⟩ :: vs.take t.xs.length) (ms := 1 :: t.xs) h1 h2 (sW ht hv) (by have := (Small.of ht).xs; rw [List.all_cons, this]; decide) (by simp; omega)) (aa Z) Z Z Z Z (B0 := 61000) Z Z (jf [60,6,7,4,2] Z (aL O (B0 := 62000) Z Z Z Z (vq (t := ea (⟨t.c, []⟩ :: vs.take t.xs.length) (1 :: t.xs)) h1 h2) (aa Z) Z Z Z Z Z Z (ap ?_))))
 refine j2 O Z Z (jf [63,62,6,7,4,2] Z (jo O Z (ap ?_)))
 refine js O Z (jf [5,6,7,4,2] Z (jr ?_))
 rw [← rS]
 refine ⟨.inl Z, _, aj, _, Z, [62000], by decide, Z, Z, Z⟩
theorem flag_true {g : Gs} : g.flag true = ⟨g.paths, g.conds, true⟩ := by simp [Gs.flag]
theorem flag_false {g : Gs} : g.flag false = g := by simp [Gs.flag]
structure Pc where
  post : D
  starts : D
  body : D
  loops : D
  behind : D
  num : D
abbrev aD (ps : List Pth) : B := .row true 5 (ps.map Pth.cells)
abbrev az (ss : List Sq) : B := .row true 3 (ss.map Sq.cells)
abbrev iB (c : Pc) (g : Gs) (i j k : Nat) : B := .box [.d c.post, .d c.starts, .rs i 0 g.paths.length, .rs j 0 g.conds.length, .d (.bool g.bad), .d c.body, .d c.loops, .d c.behind, .d c.num]
abbrev iW (sn l : Nat) (frm : Int) (w : Pw) (i j k : Nat) : B := .box [.d (.int .i64 frm), .rs i 0 w.vars.length, .rs l 0 sn, .rs j 0 w.facts.length, .rs k 0 w.ev.length, .d (.int .i64 (w.sym : Int))]
abbrev iH (sn : Nat) (st : List Tm) (c : Pc) (g : Gs) (frm : Int) (w : Pw) : List (Nat × B) := [(0, iB c g 1 2 3), (1, aD g.paths), (2, az g.conds), (3, ao st), (4, iW sn 3 frm w 5 6 7), (5, ao w.vars), (6, ao w.facts), (7, aE w.ev)]

variable {c : Pc} {g : Gs} {ok : Bool} {st : List Tm}
theorem xr {k : Int} {xs : List Int} : MQ h1 h2 171 [.c (.pt 0 0 0), (.agg [.d (.int .i64 k), .rs 4 0 xs.length]), eB ok] [(0, iB c g 1 2 3), (1, aD g.paths), (2, az g.conds), (3, ao st), (4, aE xs)] (aY (.agg [.d (.int .i64 k), .rs 4 0 xs.length]) [(0, iB c (g.flag (!ok)) 1 2 3), (1, aD (g.flag (!ok)).paths), (2, az (g.flag (!ok)).conds), (3, ao st), (4, aE xs)]) := by
 refine aI 500 Z (MC.keep [500,501,502,503,504] (bs := [iB c (g.flag (!ok)) 501 502 503, aD (g.flag (!ok)).paths, az (g.flag (!ok)).conds, ao st, aE xs]) Z Z (jH 13 [500,501,502,503,504] h1 h2 Tryz.func171 Z Z Z Z fun O hF => ?_))
 refine ct ?_
 refine ae (jx O Z (ap ?_))
 refine jf [4,0,2] Z (jl O Z (ap ?_))
 refine jn (ag (ae (j2 O Z Z (jf [8,6,4,0] Z (jn (ab O Z Z (fun hc8 => ?_) (fun hc8 => ?_)))))))
 refine ak (j3 O Z Z Z (jf [11,6,4] Z (jo O Z (ap ?_))))
 refine aN (js O Z (jf [12,11,6] Z (jo O Z (ap ?_))))
 refine jr ?_
 have hok : ok = false := by simpa using hc8
 subst hok
 rw [show g.flag (!false) = ⟨g.paths, g.conds, true⟩ from flag_true]
 refine ⟨.inl Z, _, aj, _, Z, Z, Z⟩
 refine ah (ae (js O Z (jf [12,6,0] Z (jo O Z (ap ?_)))))
 refine jr ?_
 have hok : ok = true := by simpa using hc8
 subst hok
 rw [show g.flag (!true) = g from flag_false]
 refine ⟨.inl Z, _, aj, _, Z, Z, Z⟩
variable {frm : Int} {w : Pw} {sn : Nat}
theorem xu (ht : t.ok = true) (hv : ee w.vars 10 = true) (hle : t.xs.length ≤ w.vars.length) : MQ h1 h2 168 [.c (.pt 0 0 0), .c (.pt 4 0 0), cM t] (iH sn st c g frm w) (aY (cM (dV t w.vars).1) (iH sn st c (iv w t g) frm w)) := by
 refine aI 500 Z (MC.keep [500,501,502,503,504,505,506,507] (bs := [iB c (iv w t g) 501 502 503, aD (iv w t g).paths, az (iv w t g).conds, ao st, iW sn 503 frm w 505 506 507, ao w.vars, ao w.facts, aE w.ev]) Z Z (jH 17 [500,501,502,503,504,505,506,507] h1 h2 Tryz.func168 Z Z Z Z fun O hF => ?_))
 refine ct ?_
 refine ae (jx O Z (ap ?_))
 refine ay (Ent.freeze 5 (e' := [(5, _), (0, _), (1, _)]) Z (.cons Z (.c (.box (cs := Tm.cells t) Z (aC Z))) (fe [0,1] Z)) (.skip (.cons Z (.box (fk Z)) (.cons Z .row (.cons Z .row (.cons Z .row (.cons Z (.box (fk Z)) (.cons Z .row (.cons Z .row (.cons Z .row .nil)))))))))) ?_
 refine ap ?_
 refine jl O Z (ap ?_)
 refine jn (ag (jS O [_,_,_,_,_,_,_,_,_,_,_] [pn [] 0 1, pn [] 0 0, pn [] 0 0, pn [2] 0 0, pn [2,3] 0 0, pn [2,3,4] 0 0, pe (rg 1 5) 0, pn (rg 1 6) 1 1, pn (rg 1 6) 1 1, pe (rg 0 9) 1, pe (rg 0 10) 2] [6,9,10] [_,_,_,_] (ai (kc O Z (V O Z)) (kc O Z (kc O Z (kc O Z (kc O Z (kc O Z (ai (cQ O (B0 := 14000) Z Z Z Z (vr (t := t) (vs := w.vars) h1 h2 ht hv hle) (.cons (.agg (aC Z)) (.cons (.c (.whole Z (bJ _).symm)) .nil)) Z Z Z Z Z) (kc O Z (kc O Z (ai (bQ O [500,501,502,503,14000] (bin := [iB c g 1 2 3, aD g.paths, az g.conds, ao st, aE (dV t w.vars).1.xs]) Z Z Z Z (xr (st := st) (c := c) (g := g) (k := (dV t w.vars).1.c) (xs := (dV t w.vars).1.xs) (ok := (dV t w.vars).2) h1 h2) Z Z Z Z Z (B0 := 17000) Z Z Z Z Z Z) (ai (eS O Z Z Z) trivial))))))))))) ?_))
 refine jw [6] Z (ct ?_)
 refine i6 ?_
 refine ⟨.inl Z, _, Ent.freeze 14000 (e' := [(6, _)]) Z (fe [6] Z) (.cons Z (.box (.cons (.keep Z) (.cons (.row Z (bJ _).symm) .nil))) (.cons Z (.box (fk Z)) (.cons Z .row (.cons Z .row (.cons Z .row (.cons Z (.box (fk Z)) (.cons Z .row (.cons Z .row (.cons Z .row (.skip .nil)))))))))), _, Z, Z, Z⟩
abbrev zl (sn : Nat) (st : List Tm) (c : Pc) (g : Gs) (frm : Int) (w : Pw) : List (Nat × B) := [(0, iB c g 1 8 3), (1, aD g.paths), (3, ao st), (4, iW sn 3 frm w 5 6 7), (5, ao w.vars), (6, ao w.facts), (7, aE w.ev), (8, az g.conds)]
def cu (w : Pw) (t : Tm) (g : Gs) : Gs := (g.goal w t).flag (!t.ok)
theorem mS (hg : g.conds.length + 1 ≤ L) : MQ h1 h2 153 [.c (.pt 0 0 0), .c (.pt 4 0 0), cM t] (iH sn st c g frm w) (aY (.tup []) (zl sn st c (cu w t g) frm w)) := by
 refine aI 500 Z (MC.keep [500,501,503,504,505,506,507,508] (bs := [iB c (cu w t g) 501 508 503, aD (cu w t g).paths, ao st, iW sn 503 frm w 505 506 507, ao w.vars, ao w.facts, aE w.ev, az (cu w t g).conds]) Z Z (jH 31 [500,501,502,503,504,505,506,507] h1 h2 Tryz.func153 Z Z Z Z fun O hF => ?_))
 refine ct ?_
 refine ae (jx O Z (ap ?_))
 refine ay (Ent.freeze 5 (e' := [(5, _), (0, _), (1, _)]) Z (.cons Z (.c (.box (cs := Tm.cells t) Z (aC Z))) (fe [0,1] Z)) (.skip (.cons Z (.box (fk Z)) (.cons Z .row (.cons Z .row (.cons Z .row (.cons Z (.box (fk Z)) (.cons Z .row (.cons Z .row (.cons Z .row .nil)))))))))) ?_
 refine ap ?_
 refine jn (ag (pO O [_,_,_,_,_,_,_,_,_,_] [pn [] 0 0, pn [0] 0 0, pn [0,1] 0 0, pn [0,1,2] 0 0, pe [0,1,2,3] 0, pn [] 0 1, pe [0,1,2,3,4,5] 1, pn [0,1,2,3,4,5,6] 2 2, pn [] 0 2, pe [0,1,2,3,4,5,6,7,8] 2] [4,6,9] 8 6 (.box [.d .nils, .d (.int .i64 0), .d .nils]) [_,_,_] [_] [[], [], []] (kf O Z Z Z (kf O Z Z Z (kf O Z Z Z (kf O Z Z Z (ai (ai (aF (aO (cQ O (B0 := 12000) Z Z Z Z (sJ (ts := w.facts) h1 h2) (.cons (.c (.whole Z (bJ _).symm)) .nil) Z Z Z Z Z)) (aO (cQ O (B0 := 12000) Z Z Z Z (sJ (ts := w.facts) h1 h2) (.cons (.c (.whole Z (bJ _).symm)) .nil) Z Z Z Z Z))) Z) (ai (kf O Z Z Z (kg O Z Z Z)) (ai (ai (aF (aO (cQ O (B0 := 14000) Z Z Z Z (oS (t := t) h1 h2) (aa Z) Z Z Z Z Z)) (aO (cQ O (B0 := 14000) Z Z Z Z (oS (t := t) h1 h2) (aa Z) Z Z Z Z Z))) Z) (kf O Z Z Z (ai (ai (ai (aO (Eff.alloc O Z Z Z Z Z Z)) Z) (ai (ai (aO (Eff.alloc O Z Z Z Z Z Z)) Z) (ai (aO (Eff.alloc O Z Z Z Z Z Z)) Z))) (ai (ai (aF trivial (aO (eS O Z Z Z))) Z) trivial)))))))))) ?_))
 refine jw [6,5,0] Z (ct ?_)
 refine ag (ae (js O Z (ac O Z Z Z Z (j9 (t := t) h1 h2) (aa Z) Z Z Z Z Z (B0 := 17000) Z (js O Z (jf [17,6,5,0] Z (jn (ab O Z Z (fun hc17 => ?_) (fun hc17 => ?_))))))))
 refine ak (j3 O Z Z Z (jf [20,6,5,0] Z (jo O Z (ap ?_))))
 refine jn (kX O [_,_,_,_,_,_,_,_,_,_,_] [pn [] 0 2, pn [] 0 1, pn [1] 0 1, pn [1,2] 0 1, pn [1,2,3] 0 1, pn [] 0 0, pe [5] 0, pe (rg 1 6) 1, pn (rg 0 8) 2 2, pn (rg 0 9) 2 2, pe (rg 0 10) 2] [6,7,10] [_,_,_,_] [[12000,14000], [502,27], []] (ai (ka O Z Z (ka O Z Z (kw O Z Z))) (ai (ka O Z Z (kw O Z Z)) (ai (ka O Z Z (kw O Z Z)) (ai (ka O Z Z (kw O Z Z)) (ai (ka O Z Z (kw O Z Z)) (ka O Z Z (ai (ai (gg [12000,14000] (ds := Sq.cells (⟨w.facts, t⟩ : Sq)) O Z Z Z Z Z Z Z Z Z Z Z Z (fun e => .rs Z (bJ _).symm (.d Z (.rs Z (bJ _).symm .nil))) Z Z) Z) (ai (ai (gh (xs := g.conds.map Sq.cells) (ys := [Sq.cells (⟨w.facts, t⟩ : Sq)]) (zs := (g.conds ++ [(⟨w.facts, t⟩ : Sq)]).map Sq.cells) (n := (g.conds ++ [(⟨w.facts, t⟩ : Sq)]).length) O Z Z Z Z Z Z Z Z Z Z Z Z Z Z Z Z (.row Z (bJ _).symm) Z Z (by decide) Z (by simp; omega) (by simp; omega) (by simp) (by simp) Z) Z) (ka O Z Z (ka O Z Z (ai (ai (aO (eS O Z Z Z)) Z) trivial))))))))))) ?_)
 show _ ∧ _
 have hok : t.ok = false := by simpa using hc17
 rw [show cu w t g = ⟨g.paths, g.conds ++ [(⟨w.facts, t⟩ : Sq)], true⟩ by rw [cu, hok]; simp [Gs.flag, Gs.goal]]
 refine ⟨.inr Z, _, af 28 508 Z Z, _, Z, Z, Z⟩
 refine ah (jw [6,5,0] Z (kX O [_,_,_,_,_,_,_,_,_,_,_] [pn [] 0 2, pn [] 0 1, pn [1] 0 1, pn [1,2] 0 1, pn [1,2,3] 0 1, pn [] 0 0, pe [5] 0, pe (rg 1 6) 1, pn (rg 0 8) 2 2, pn (rg 0 9) 2 2, pe (rg 0 10) 2] [6,7,10] [_,_,_,_] [[12000,14000], [502,27], []] (ai (ka O Z Z (ka O Z Z (kw O Z Z))) (ai (ka O Z Z (kw O Z Z)) (ai (ka O Z Z (kw O Z Z)) (ai (ka O Z Z (kw O Z Z)) (ai (ka O Z Z (kw O Z Z)) (ka O Z Z (ai (ai (gg [12000,14000] (ds := Sq.cells (⟨w.facts, t⟩ : Sq)) O Z Z Z Z Z Z Z Z Z Z Z Z (fun e => .rs Z (bJ _).symm (.d Z (.rs Z (bJ _).symm .nil))) Z Z) Z) (ai (ai (gh (xs := g.conds.map Sq.cells) (ys := [Sq.cells (⟨w.facts, t⟩ : Sq)]) (zs := (g.conds ++ [(⟨w.facts, t⟩ : Sq)]).map Sq.cells) (n := (g.conds ++ [(⟨w.facts, t⟩ : Sq)]).length) O Z Z Z Z Z Z Z Z Z Z Z Z Z Z Z Z (.row Z (bJ _).symm) Z Z (by decide) Z (by simp; omega) (by simp; omega) (by simp) (by simp) Z) Z) (ka O Z Z (ka O Z Z (ai (ai (aO (eS O Z Z Z)) Z) trivial))))))))))) ?_))
 show _ ∧ _
 have hok : t.ok = true := by simpa using hc17
 rw [show cu w t g = ⟨g.paths, g.conds ++ [(⟨w.facts, t⟩ : Sq)], g.bad⟩ by rw [cu, hok]; simp [Gs.flag, Gs.goal]]
 refine ⟨.inr Z, _, af 28 508 Z Z, _, Z, Z, Z⟩
abbrev zk (sn : Nat) (st : List Tm) (c : Pc) (g : Gs) (frm : Int) (w : Pw) : List (Nat × B) := [(0, iB c g 1 2 3), (1, aD g.paths), (2, az g.conds), (3, ao st), (4, iW sn 3 frm w 5 9 7), (5, ao w.vars), (7, aE w.ev), (9, ao w.facts)]
theorem od {g : Gs} : g.flag true = ⟨g.paths, g.conds, true⟩ := by simp [Gs.flag]
theorem jK {g : Gs} : g.flag false = g := by simp [Gs.flag]
theorem pf (hl : w.facts.length ≤ 1000) : MQ h1 h2 154 [.c (.pt 0 0 0), .c (.pt 4 0 0), cM t] (iH sn st c g frm w) (aY (.tup []) (zk sn st c (g.flag (w.fact t).long) frm (w.fact t))) := by
 refine aI 500 Z (MC.keep [500,501,502,503,504,505,507,509] (bs := [iB c (g.flag (w.fact t).long) 501 502 503, aD (g.flag (w.fact t).long).paths, az (g.flag (w.fact t).long).conds, ao st, iW sn 503 frm (w.fact t) 505 509 507, ao (w.fact t).vars, aE (w.fact t).ev, ao (w.fact t).facts]) Z Z (jH 25 [500,501,502,503,504,505,506,507] h1 h2 Tryz.func154 Z Z Z Z fun O hF => ?_))
 refine ct ?_
 refine ae (jx O Z (ap ?_))
 refine ay (Ent.freeze 5 (e' := [(5, _), (0, _), (1, _)]) Z (.cons Z (.c (.box (cs := Tm.cells t) Z (aC Z))) (fe [0,1] Z)) (.skip (.cons Z (.box (fk Z)) (.cons Z .row (.cons Z .row (.cons Z .row (.cons Z (.box (fk Z)) (.cons Z .row (.cons Z .row (.cons Z .row .nil)))))))))) ?_
 refine ap ?_
 refine jn (ag (pO O [_,_,_,_,_,_,_,_,_,_,_] [pn [] 0 1, pn [] 0 0, pn [1] 0 0, pn [1,2] 0 0, pn [1,2,3] 0 0, pn [] 0 0, pn [5] 0 0, pe [1,2,3,4,5,6] 0, pn [0,1,2,3,4,5,6,7] 1 1, pn [0,1,2,3,4,5,6,7,8] 1 1, pe [0,1,2,3,4,5,6,7,8,9] 1] [7,10] 6 12 (.row false 2 [Tm.cells t]) [_] [_,_] [[506], []] (ai (kf O Z Z Z (kg O Z Z Z)) (kf O Z Z Z (kf O Z Z Z (kf O Z Z Z (kf O Z Z Z (kf O Z Z Z (ai (ai (aO (bU O Z Z Z Z Z Z Z Z Z Z Z Z Z Z)) Z) (ai (ai (aF trivial (bK (own := false) (xs := w.facts.map Tm.cells) (ys := [Tm.cells t]) (zs := ((w.facts ++ [t])).map Tm.cells) (n := (w.facts ++ [t]).length) O Z Z Z Z Z Z Z Z Z Z Z Z Z Z Z Z (.row Z (bJ _).symm) (.whole Z Z (.inr ⟨Z, Z⟩)) (by simp) Z (by simp; omega) (by simp; omega) (by simp) (by simp) Z)) Z) (ai (ai (aF trivial (V O Z)) Z) (ai (ai (aF trivial (V O Z)) Z) (ai (ai (aF trivial (aO (eS O Z Z Z))) Z) trivial))))))))))) ?_))
 refine jw [0,1] Z (ct ?_)
 refine ae (j4 O Z Z Z Z (AOps.step (aP O Z Z (by simp only [c7, gF]; omega)) Z Z Z (js O Z (jf [21,0,1] Z (jn (ab O Z Z (fun hc21 => ?_) (fun hc21 => ?_)))))))
 refine ak (j3 O Z Z Z (jf [24,1] Z (jo O Z (ap ?_))))
 refine jn ?_
 show _ ∧ _
 have hlo : (w.fact t).long = true := decide_eq_true (by show 12 < (w.facts ++ [t]).length; have := aQ hc21; omega)
 rw [hlo, od]
 refine ⟨.inr Z, _, af 13 509 Z Z, _, Z, Z, Z⟩
 refine ah ?_
 show _ ∧ _
 have hlo : (w.fact t).long = false := decide_eq_false (by show ¬ 12 < (w.facts ++ [t]).length; have := bB hc21; omega)
 rw [hlo, jK]
 refine ⟨.inr Z, _, af 13 509 Z Z, _, Z, Z, Z⟩
theorem qf {w : Pw} {t : Tm} {g : Gs} (ht : t.ok = true) : cu w (bz t).1 (cu w t g) = aZ bz w t g := by
 simp only [cu, aZ, bz, ht, Gs.goal, Gs.flag, Bool.not_true, Bool.or_false]
theorem uw {t : Tm} (ht : t.ok = true) : CtxOk [⟨7, []⟩, t] := by
 refine ⟨fun u hu => ?_, by simp⟩
 rcases List.mem_cons.1 hu with rfl | hu
 decide
 rcases List.mem_cons.1 hu with rfl | hu
 exact ht
 cases hu
theorem pg (ht : t.ok = true) (hg : g.conds.length + 2 ≤ L) : MQ h1 h2 151 [.c (.pt 0 0 0), .c (.pt 4 0 0), cM t] (iH sn st c g frm w) (aY (.tup []) (zl sn st c (aZ bz w t g) frm w)) := by
 refine aI 500 Z (MC.keep [500,501,503,504,505,506,507,508] (bs := [iB c (aZ bz w t g) 501 508 503, aD (aZ bz w t g).paths, ao st, iW sn 503 frm w 505 506 507, ao w.vars, ao w.facts, aE w.ev, az (aZ bz w t g).conds]) Z Z (jH 20 [500,501,502,503,504,505,506,507] h1 h2 Tryz.func151 Z Z Z Z fun O hF => ?_))
 refine ct ?_
 refine ae (jx O Z (ap ?_))
 refine ay (Ent.freeze 5 (e' := [(5, _), (0, _), (1, _)]) Z (.cons Z (.c (.box (cs := Tm.cells t) Z (aC Z))) (fe [0,1] Z)) (.skip (.cons Z (.box (fk Z)) (.cons Z .row (.cons Z .row (.cons Z .row (.cons Z (.box (fk Z)) (.cons Z .row (.cons Z .row (.cons Z .row .nil)))))))))) ?_
 refine ap ?_
 refine aN (j3 O Z Z Z (aq O [500,501,502,503,504,505,506,507] (bin := [iB c g 1 2 3, aD g.paths, az g.conds, ao st, iW sn 3 frm w 5 6 7, ao w.vars, ao w.facts, aE w.ev]) Z Z Z Z (mS (sn := sn) (st := st) (c := c) (g := g) (frm := frm) (w := w) (t := t) h1 h2 (by omega)) Z Z Z Z Z Z (B0 := 11000) Z Z (ap ?_)))
 refine jf [5,0,1] Z (aN (j2 O Z Z (AOps.heap (dy O Z Z Z Z Z Z Z Z Z Z Z) Z (ap ?_))))
 refine ay (Ent.rowLe 13 Z (.cons (.cons .refl (.cons (.nil (sz := 1)) .nil)) (.cons (.cons .refl (.cons .refl .nil)) .nil))) (ap ?_)
 refine ap ?_
 refine jf [13,5,0,1] Z (AOps.heap (bi O Z Z Z) Z (ap ?_))
 refine ay (Ent.freeze 13 (e' := [(14, _), (13, _), (0, _), (1, _)]) Z (.cons Z (.keep Z) (.cons Z (.c (.row Z Z)) (fe [0,1] Z))) (.skip (.cons Z .row (.cons Z (.box (fk Z)) (.cons Z .row (.cons Z .row (.cons Z (.box (fk Z)) (.cons Z .row (.cons Z .row (.cons Z .row (.cons Z .row .nil))))))))))) ?_
 refine ay (Ent.freeze 14 (e' := [(14, _), (13, _), (0, _), (1, _)]) Z (.cons Z (.c (.row Z Z)) (fe [13,0,1] Z)) (.skip (.cons Z (.box (fk Z)) (.cons Z .row (.cons Z .row (.cons Z (.box (fk Z)) (.cons Z .row (.cons Z .row (.cons Z .row (.cons Z .row .nil)))))))))) ?_
 refine ap ?_
 refine ax O Z Z Z Z (qQ (ts := [⟨7, []⟩, t]) (ms := [1, -1]) h1 h2 (uw ht) (by decide) (bH _)) (aa Z) Z Z Z Z (B0 := 16000) Z Z (jf [15,0,1] Z (jl O Z (ap ?_)))
 refine jo O Z (ap ?_)
 refine jn (ak (j3 O Z Z Z (aq O [500,501,11008,503,504,505,506,507] (bin := [iB c (cu w t g) 1 2 3, aD (cu w t g).paths, az (cu w t g).conds, ao st, iW sn 3 frm w 5 6 7, ao w.vars, ao w.facts, aE w.ev]) Z Z Z Z (mS (sn := sn) (st := st) (c := c) (g := (cu w t g)) (frm := frm) (w := w) (t := (bz t).1) h1 h2 (by simp only [cu, Gs.flag, Gs.goal, c7, gF]; omega)) Z Z Z Z Z Z (B0 := 20000) Z Z (ap ?_))))
 refine jf [6,15,0,1] Z (jn ?_)
 show _ ∧ _
 rw [← qf ht]
 refine ⟨.inr Z, _, af 20008 508 Z Z, _, Z, Z, Z⟩
abbrev iHE (sn : Nat) (st : List Tm) (c : Pc) (g : Gs) (frm : Int) (w : Pw) : List (Nat × B) := [(0, iB c g 9 8 3), (3, ao st), (4, iW sn 3 frm w 5 6 7), (5, ao w.vars), (6, ao w.facts), (7, aE w.ev), (8, az g.conds), (9, aD g.paths)]
theorem pW {w : Pw} {t : Tm} {g : Gs} : cu w (dV t w.vars).1 (iv w t g) = bh w g t := by
 simp only [cu, uA, bh, Gs.flag, Bool.not_true, Bool.or_false]
theorem sU {w : Pw} (hw : CtxOk w.vars) (hv : w.vars.length = 4) : ee w.vars 10 = true := by
 unfold ee
 rw [List.all_eq_true.2 hw.ok, decide_eq_true (by omega)]; rfl
theorem t8 {to : Int} {fs : List Tm} (hw : CtxOk w.vars) (hv : w.vars.length = 4) (hf : TsOk fs) (hg : g.conds.length + fs.length ≤ L) (hp : g.paths.length + 1 ≤ L) : MQ h1 h2 143 [.c (.pt 0 0 0), .c (.pt 4 0 0), eI to, cm fs] (iH sn st c g frm w) (aY (.tup []) (iHE sn st c (cg frm w to fs g) frm w)) := by
 refine aI 500 Z (MC.keep [500,503,504,505,506,507,508,509] (bs := [iB c (cg frm w to fs g) 509 508 503, ao st, iW sn 503 frm w 505 506 507, ao w.vars, ao w.facts, aE w.ev, az (cg frm w to fs g).conds, aD (cg frm w to fs g).paths]) Z Z (jH 63 [500,501,502,503,504,505,506,507] h1 h2 Tryz.func143 Z Z Z Z fun O hF => ?_))
 refine ct ?_
 have hpe : (fs.foldl (bh w) g).paths.length = g.paths.length := congrArg List.length dG
 have hva := sU hw hv
 have hll : fs.length ≤ L := by omega
 refine ag (ae (js O Z (bw O Z (js O Z (jn (am (au (X := Nat) (fun i => ⟨[(0, .c (.pt 500 0 0)), (1, .c (.pt 504 0 0)), (2, eI to), (10, cm fs), (11, eI fs.length), (12, eI i)], [(500, iB c ((fs.take i).foldl (bh w) g) 501 902 503), (501, aD ((fs.take i).foldl (bh w) g).paths), (503, ao st), (504, iW sn 503 frm w 505 506 507), (505, ao w.vars), (506, ao w.facts), (507, aE w.ev), (902, az ((fs.take i).foldl (bh w) g).conds)]⟩) (fun i => i ≤ fs.length) (fun i => fs.length - i) 0 (((av [500,501,503,504,505,506,507,502] (e' := [(0, _), (1, _), (2, _), (10, _), (11, _), (12, _)]) Z Z ⟨Z, Z, Z, Z, Z, Z, trivial⟩ Z).trans (af 502 902 Z Z)).trans (Ent.to ⟨Z, Z, Z, Z, Z, Z, trivial⟩ Z)) ?_ (fun i hi => ?_))))))))
 exact cC _
 refine ae (js O Z (jn (ag (ab O Z Z (fun hc13 => ?_) (fun hc13 => ?_)))))
 refine ah (ag (am (ae (nu O Z Z (js O Z (jf [15,13,0,1,2,10,11,12] Z (jl O Z (ap ?_))))))))
 refine jo O Z (ap ?_)
 refine jn (ak (j4 O Z Z Z Z (js O Z ?_)))
 have hil : i < fs.length := by have := aQ hc13; omega
 have hfi := hf.get hil
 have hci := ij (w := w) (fs := fs.take i) (g := g)
 rw [List.length_take, Nat.min_eq_left (by omega)] at hci
 refine aq O [500,501,902,503,504,505,506,507] (bin := [iB c ((fs.take i).foldl (bh w) g) 1 2 3, aD ((fs.take i).foldl (bh w) g).paths, az ((fs.take i).foldl (bh w) g).conds, ao st, iW sn 3 frm w 5 6 7, ao w.vars, ao w.facts, aE w.ev]) Z Z Z Z (xu (sn := sn) (st := st) (c := c) (g := ((fs.take i).foldl (bh w) g)) (frm := frm) (w := w) (t := (fs.getD i default)) h1 h2 hfi.1 hva (by omega)) Z Z Z Z Z Z (B0 := 22000) Z Z (ap ?_)
 refine jf [21,17,16,9,15,13,0,1,2,10,11,12] Z (aq O [500,501,902,503,504,505,506,507] (bin := [iB c (iv w (fs.getD i default) ((fs.take i).foldl (bh w) g)) 1 2 3, aD (iv w (fs.getD i default) ((fs.take i).foldl (bh w) g)).paths, az (iv w (fs.getD i default) ((fs.take i).foldl (bh w) g)).conds, ao st, iW sn 3 frm w 5 6 7, ao w.vars, ao w.facts, aE w.ev]) Z Z Z Z (mS (sn := sn) (st := st) (c := c) (g := (iv w (fs.getD i default) ((fs.take i).foldl (bh w) g))) (frm := frm) (w := w) (t := (dV (fs.getD i default) w.vars).1) h1 h2 (show ((fs.take i).foldl (bh w) g).conds.length + 1 ≤ L by omega)) Z Z Z Z Z Z (B0 := 23000) Z Z (ap ?_))
 refine jf [9,15,13,0,1,2,10,11,12] Z (jn (ak (ji O Z (js O Z (jn ?_)))))
 refine ⟨i + 1, ((av [500,501,503,504,505,506,507,23008] (e' := [(0, _), (1, _), (2, _), (10, _), (11, _), (12, _)]) Z Z ⟨Z, Z, Z, Z, Z, Z, trivial⟩ Z).trans (af 23008 902 Z Z)).trans (Ent.to ⟨Z, Z, Z, Z, Z, Z, trivial⟩ (by rw [lB hil, ← pW]; rfl)), by omega, by omega⟩
 refine aU (ag ?_)
 obtain rfl : i = fs.length := by have := bB hc13; omega
 rw [List.take_length]
 refine kX O [_,_,_,_,_,_,_,_,_,_,_,_,_,_,_,_,_,_,_,_,_,_,_,_,_,_,_,_,_,_,_] [pn [] 0 5, pn [] 0 4, pn [1] 0 4, pn [1,2] 0 4, pn [1,2,3] 0 4, pn [] 0 3, pn [5] 0 3, pn [5,6] 0 3, pn [5,6,7] 0 3, pn [] 0 3, pn [] 0 0, pn [10] 0 0, pn [10,11] 0 0, pn [10,11,12] 0 0, pe (rg 10 4) 0, pn [] 0 1, pn [15] 0 1, pn [15,16] 0 1, pn [15,16,17] 0 1, pe (rg 10 9) 1, pn [] 0 2, pn [20] 0 2, pn [20,21] 0 2, pn [20,21,22] 0 2, pe (rg 10 14) 2, pn (rg 5 20) 3 3, pe (rg 5 21) 3, pe (rg 1 26) 4, pn (rg 0 28) 5 5, pn (rg 0 29) 5 5, pe (rg 0 30) 5] [14,19,24,26,27,30] [_,_,_,_,_,_,_] [[], [], [], [39000,44000,49000], [501,50], []] (ai (ka O Z Z (ka O Z Z (ka O Z Z (ka O Z Z (ka O Z Z (kw O Z Z)))))) (ai (ka O Z Z (ka O Z Z (ka O Z Z (ka O Z Z (kw O Z Z))))) (ai (ka O Z Z (ka O Z Z (ka O Z Z (ka O Z Z (kw O Z Z))))) (ai (ka O Z Z (ka O Z Z (ka O Z Z (ka O Z Z (kw O Z Z))))) (ai (ka O Z Z (ka O Z Z (ka O Z Z (ka O Z Z (kw O Z Z))))) (ai (ka O Z Z (ka O Z Z (ka O Z Z (kw O Z Z)))) (ai (ka O Z Z (ka O Z Z (ka O Z Z (kw O Z Z)))) (ai (ka O Z Z (ka O Z Z (ka O Z Z (kw O Z Z)))) (ai (ka O Z Z (ka O Z Z (ka O Z Z (kw O Z Z)))) (ai (ka O Z Z (ka O Z Z (ka O Z Z (kw O Z Z)))) (ka O Z Z (ka O Z Z (ka O Z Z (ka O Z Z (ai (ai (aO (cQ O (B0 := 39000) Z Z Z Z (sJ (ts := w.facts) h1 h2) (.cons (.c (.whole Z (bJ _).symm)) .nil) Z Z Z Z Z)) Z) (ai (ka O Z Z (kw O Z Z)) (ai (ka O Z Z (kw O Z Z)) (ai (ka O Z Z (kw O Z Z)) (ai (ka O Z Z (kw O Z Z)) (ai (ai (aO (cQ O (B0 := 44000) Z Z Z Z (sJ (ts := w.vars) h1 h2) (.cons (.c (.whole Z (bJ _).symm)) .nil) Z Z Z Z Z)) Z) (ai (ka O Z Z (ka O Z Z (kw O Z Z))) (ai (ka O Z Z (ka O Z Z (kw O Z Z))) (ai (ka O Z Z (ka O Z Z (kw O Z Z))) (ai (ka O Z Z (ka O Z Z (kw O Z Z))) (ai (ai (aO (cQ O (B0 := 49000) Z Z Z Z (uq (xs := w.ev) h1 h2) (.cons (.c (.whole Z (bJ _).symm)) .nil) Z Z Z Z Z)) Z) (ka O Z Z (ai (ai (gg [39000,44000,49000] (ds := Pth.cells (⟨frm, to, w.facts, w.vars, w.ev⟩ : Pth)) O Z Z Z Z Z Z Z Z Z Z Z Z (fun e => .d Z (.d Z (.rs Z (bJ _).symm (.rs Z (bJ _).symm (.rs Z (bJ _).symm .nil))))) Z Z) Z) (ai (ai (gh (xs := (fs.foldl (bh w) g).paths.map Pth.cells) (ys := [Pth.cells (⟨frm, to, w.facts, w.vars, w.ev⟩ : Pth)]) (zs := ((fs.foldl (bh w) g).paths ++ [(⟨frm, to, w.facts, w.vars, w.ev⟩ : Pth)]).map Pth.cells) (n := ((fs.foldl (bh w) g).paths ++ [(⟨frm, to, w.facts, w.vars, w.ev⟩ : Pth)]).length) O Z Z Z Z Z Z Z Z Z Z Z Z Z Z Z Z (.row Z (bJ _).symm) Z Z (by decide) Z (by simp; omega) (by simp; omega) (by simp) (by simp) Z) Z) (ka O Z Z (ka O Z Z (ai (ai (aO (eS O Z Z Z)) Z) trivial))))))))))))))))))))))))))))))) ?_
 refine jw [13,0,1,2,10,11,12] Z (ct ?_)
 refine ae (j4 O Z Z Z Z (AOps.step (aP O Z Z (by simp only [c7, gF]; omega)) Z Z Z (js O Z (jf [59,13,0,1,2,10,11,12] Z (jn (ab O Z Z (fun hc59 => ?_) (fun hc59 => ?_)))))))
 refine ak (j3 O Z Z Z (jf [62,59,13,0,1,2,10,11,12] Z (jo O Z (ap ?_))))
 refine jn ?_
 show _ ∧ _
 have hlo : decide (200 < (fs.foldl (bh w) g).paths.length + 1) = true := decide_eq_true (by show 200 < (fs.foldl (bh w) g).paths.length + 1; have := aQ hc59; rw [c7, gF] at this; omega)
 rw [show (cg frm w to fs g) = ⟨(fs.foldl (bh w) g).paths ++ [(⟨frm, to, w.facts, w.vars, w.ev⟩ : Pth)], (fs.foldl (bh w) g).conds, true⟩ by unfold cg ew; rw [hlo]; simp]
 refine ⟨.inr Z, _, (af 51 509 Z Z).trans (af 902 508 Z Z), _, Z, Z, Z⟩
 refine ah ?_
 show _ ∧ _
 have hlo : decide (200 < (fs.foldl (bh w) g).paths.length + 1) = false := decide_eq_false (by show ¬ 200 < (fs.foldl (bh w) g).paths.length + 1; have := bB hc59; rw [c7, gF] at this; omega)
 rw [show (cg frm w to fs g) = ⟨(fs.foldl (bh w) g).paths ++ [(⟨frm, to, w.facts, w.vars, w.ev⟩ : Pth)], (fs.foldl (bh w) g).conds, (fs.foldl (bh w) g).bad⟩ by unfold cg ew; rw [hlo]; simp]
 refine ⟨.inr Z, _, (af 51 509 Z Z).trans (af 902 508 Z Z), _, Z, Z, Z⟩
theorem vu (hs : w.sym = 10) : MQ h1 h2 152 [.c (.pt 0 0 0), .c (.pt 4 0 0)] (iH sn st c g frm w) (aY (.agg [.d (.int .i64 0), .d .nils]) (iH sn st c (⟨g.paths, g.conds, true⟩ : Gs) frm w)) := by
 refine aI 500 Z (MC.keep [500,501,502,503,504,505,506,507] (bs := [iB c (⟨g.paths, g.conds, true⟩ : Gs) 501 502 503, aD (⟨g.paths, g.conds, true⟩ : Gs).paths, az (⟨g.paths, g.conds, true⟩ : Gs).conds, ao st, iW sn 503 frm w 505 506 507, ao w.vars, ao w.facts, aE w.ev]) Z Z (jH 27 [500,501,502,503,504,505,506,507] h1 h2 Tryz.func152 Z Z Z Z fun O hF => ?_))
 refine ct ?_
 refine ae (jl O Z (ap ?_))
 refine jn (ag (ae (j4 O Z Z Z Z (js O Z (jf [9,4,0,1] Z (jn (ab O Z Z (fun hc9 => ?_) (fun hc9 => ?_))))))))
 refine ae (j3 O Z Z Z (jf [12,4,1] Z (jo O Z (ap ?_))))
 refine aN (js O Z (jo O Z (ap ?_)))
 refine jr ?_
 refine ⟨.inl Z, _, aj, _, Z, Z, Z⟩
 exact absurd (bB hc9) (by omega)
theorem xt (hs : w.sym < 10) : MQ h1 h2 152 [.c (.pt 0 0 0), .c (.pt 4 0 0)] (iH sn st c g frm w) (aY (cM (gG w.sym)) (iH sn st c g frm (⟨w.vars, w.facts, w.ev, w.sym + 1⟩ : Pw))) := by
 refine aI 500 Z (MC.keep [500,501,502,503,504,505,506,507] (bs := [iB c g 501 502 503, aD g.paths, az g.conds, ao st, iW sn 503 frm (⟨w.vars, w.facts, w.ev, w.sym + 1⟩ : Pw) 505 506 507, ao (⟨w.vars, w.facts, w.ev, w.sym + 1⟩ : Pw).vars, ao (⟨w.vars, w.facts, w.ev, w.sym + 1⟩ : Pw).facts, aE (⟨w.vars, w.facts, w.ev, w.sym + 1⟩ : Pw).ev]) Z Z (jH 27 [500,501,502,503,504,505,506,507] h1 h2 Tryz.func152 Z Z Z Z fun O hF => ?_))
 refine ct ?_
 refine ae (jl O Z (ap ?_))
 refine jn (ag (ae (j4 O Z Z Z Z (js O Z (jf [9,4,0,1] Z (jn (ab O Z Z (fun hc9 => ?_) (fun hc9 => ?_))))))))
 exact absurd (aQ hc9) (by omega)
 refine ah (ae (j4 O Z Z Z Z (AOps.step ((vF O Z).cast (v' := eI ((w.sym + 1 : Nat) : Int)) (congrArg eI (by omega))) Z Z Z (j2 O Z Z (jf [20,18,4,0,1] Z (jo O Z (ap ?_)))))))
 refine jf [4,0,1] Z (aN (j4 O Z Z Z Z (AOps.step ((vF O Z).cast (v' := eI ((w.sym : Nat) : Int)) (congrArg eI (by omega))) Z Z Z (jf [25,4,0,1] Z (ax O Z Z Z Z (t9 (k := w.sym) h1 h2 hs) (aa Z) Z Z Z Z (B0 := 27000) Z Z (jf [26,4,0,1] Z (jo O Z (ap ?_))))))))
 refine jr ?_
 refine ⟨.inl Z, _, aj, _, Z, Z, Z⟩
theorem xf {c : Tm} {r : List Tm} (hl : (c :: r).length ≤ 1000) : MQ h1 h2 155 [.c (.rs 0 0 (c :: r).length)] [(0, ao (c :: r))] (aY (.c (.rs 1 0 (c :: r).length)) [(0, ao (c :: r)), (1, ao (c :: r))]) := by
 refine aI 500 Z (MC.keep [500,501] (bs := [ao (c :: r), ao (c :: r)]) Z Z (jH 8 [500] h1 h2 Tryz.func155 Z Z Z Z fun O hF => ?_))
 refine ct ?_
 refine ae (js O Z (jn (ag (ae (j2 O Z Z (jn (ab O Z Z (fun hc4 => ?_) (fun hc4 => ?_))))))))
 exact absurd (show false = true from hc4) (by decide)
 refine ah (ae (AOps.heap (bi O Z Z Z) Z (ap ?_)))
 refine js O Z (jf [6,5,3,2,0] Z ?_)
 have hl2 := hl
 simp only [i3] at hl2
 refine ay (ck 5 Z) (AOps.heap (bI (own := false) (zs := (c :: r).map Tm.cells) (n := (c :: r).length) O Z Z Z Z Z Z Z Z Z Z Z Z Z Z Z Z (.row Z Z) (.whole Z (by simp) (.inr ⟨Z, Z⟩)) (by simp) Z (by simp; omega) (by simp; omega) Z (by simp)) Z (ap ?_))
 refine js O Z (jf [2,3,0] Z (jr ?_))
 refine ⟨.inl Z, _, af 7 501 Z Z, _, Z, Z, Z⟩
theorem xd : MQ h1 h2 155 [.c (.rs 0 0 0)] [(0, ao [])] (aY (.c (.rs 1 0 0)) [(0, ao []), (1, ao [])]) := by
 refine aI 500 Z (MC.keep [500,501] (bs := [ao [], ao []]) Z Z (jH 8 [500] h1 h2 Tryz.func155 Z Z Z Z fun O hF => ?_))
 refine ct ?_
 refine ae (js O Z (jn (ag (ae (js O Z (jR O Z Z Z Z Z Z Z Z Z Z (fun b => ?_)))))))
 refine jn (ab O Z Z (fun hc4 => ?_) (fun hc4 => ?_))
 refine ae (js O Z (jr ?_))
 refine ⟨.inl Z, _, dk 2 501 2 false Z Z, _, Z, Z, Z⟩
 refine ah (ae (AOps.heap (bi O Z Z Z) Z (ap ?_)))
 refine js O Z (jf [6,5,3,2,0] Z (ay (ck 5 Z) (AOps.heap (bI (own := false) (zs := []) (n := 0) O Z Z Z Z Z Z Z Z Z Z Z Z Z Z Z Z (.row Z Z) (.whole Z (by simp) (.inr ⟨Z, Z⟩)) (by simp) Z (by simp) (by simp) Z (by simp)) Z (ap ?_))))
 refine js O Z (jf [2,3,0] Z (jr ?_))
 refine ⟨.inl Z, _, af 7 501 Z Z, _, Z, Z, Z⟩
theorem qW {L : Nat} (h1 : 4096 ≤ L) (h2 : L ≤ 1073741824) {ts : List Tm} (hl : ts.length ≤ 1000) : MC Tryz.prog L 155 [.c (.rs 0 0 ts.length)] [(0, ao ts)] (aY (.c (.rs 1 0 ts.length)) [(0, ao ts), (1, ao ts)]) := by
 cases ts with
 | nil => exact xd h1 h2
 | cons c r => exact xf h1 h2 hl
theorem vp {c : Int} {r : List Int} (hl : (c :: r).length ≤ 1000) : MQ h1 h2 187 [.c (.rs 0 0 (c :: r).length)] [(0, aE (c :: r))] (aY (.c (.rs 1 0 (c :: r).length)) [(0, aE (c :: r)), (1, aE (c :: r))]) := by
 refine aI 500 Z (MC.keep [500,501] (bs := [aE (c :: r), aE (c :: r)]) Z Z (jH 8 [500] h1 h2 Tryz.func187 Z Z Z Z fun O hF => ?_))
 refine ct ?_
 refine ae (js O Z (jn (ag (ae (j2 O Z Z (jn (ab O Z Z (fun hc4 => ?_) (fun hc4 => ?_))))))))
 exact absurd (show false = true from hc4) (by decide)
 refine ah (ae (AOps.heap (bi O Z Z Z) Z (ap ?_)))
 refine js O Z (jf [6,5,3,2,0] Z ?_)
 have hl2 := hl
 simp only [i3] at hl2
 refine AOps.heap (bI (own := true) (zs := (c :: r).map (fun n => [D.int .i64 n])) (n := (c :: r).length) O Z Z Z Z Z Z Z Z Z Z Z Z Z Z Z Z (.row Z Z) (.whole Z (by simp) (.inl (Scal.map (fun a => rfl)))) (by simp) Z (by simp; omega) (by simp; omega) Z (by simp)) Z (ap ?_)
 refine js O Z (jf [2,3,0] Z (jr ?_))
 refine ⟨.inl Z, _, af 7 501 Z Z, _, Z, Z, Z⟩
theorem vo : MQ h1 h2 187 [.c (.rs 0 0 0)] [(0, aE [])] (aY (.c (.rs 1 0 0)) [(0, aE []), (1, aE [])]) := by
 refine aI 500 Z (MC.keep [500,501] (bs := [aE [], aE []]) Z Z (jH 8 [500] h1 h2 Tryz.func187 Z Z Z Z fun O hF => ?_))
 refine ct ?_
 refine ae (js O Z (jn (ag (ae (js O Z (jR O Z Z Z Z Z Z Z Z Z Z (fun b => ?_)))))))
 refine jn (ab O Z Z (fun hc4 => ?_) (fun hc4 => ?_))
 refine ae (js O Z (jr ?_))
 refine ⟨.inl Z, _, dk 2 501 1 true Z Z, _, Z, Z, Z⟩
 refine ah (ae (AOps.heap (bi O Z Z Z) Z (ap ?_)))
 refine js O Z (jf [6,5,3,2,0] Z (AOps.heap (bI (own := true) (zs := []) (n := 0) O Z Z Z Z Z Z Z Z Z Z Z Z Z Z Z Z (.row Z Z) (.whole Z (by simp) (.inl (Scal.map (fun a => rfl)))) (by simp) Z (by simp) (by simp) Z (by simp)) Z (ap ?_)))
 refine js O Z (jf [2,3,0] Z (jr ?_))
 refine ⟨.inl Z, _, af 7 501 Z Z, _, Z, Z, Z⟩
theorem vn {L : Nat} (h1 : 4096 ≤ L) (h2 : L ≤ 1073741824) {ts : List Int} (hl : ts.length ≤ 1000) : MC Tryz.prog L 187 [.c (.rs 0 0 ts.length)] [(0, aE ts)] (aY (.c (.rs 1 0 ts.length)) [(0, aE ts), (1, aE ts)]) := by
 cases ts with
 | nil => exact vo h1 h2
 | cons c r => exact vp h1 h2 hl
abbrev wA (st : List Tm) (l : Nat) (frm : Int) (w : Pw) (i j k : Nat) : A := .agg [.d (.int .i64 frm), .rs i 0 w.vars.length, .rs l 0 st.length, .rs j 0 w.facts.length, .rs k 0 w.ev.length, .d (.int .i64 (w.sym : Int))]
theorem t7 (hv : w.vars.length ≤ 1000) (hl : w.facts.length ≤ 1000) (he : w.ev.length ≤ 1000) (hs : st.length ≤ 1000) : MQ h1 h2 175 [wA st 3 frm w 0 1 2] [(0, ao w.vars), (1, ao w.facts), (2, aE w.ev), (3, ao st)] (aY (wA st 7 frm w 4 5 6) [(0, ao w.vars), (1, ao w.facts), (2, aE w.ev), (3, ao st), (4, ao w.vars), (5, ao w.facts), (6, aE w.ev), (7, ao st)]) := by
 refine aI 500 Z (MC.keep [500,501,502,503,504,505,506,507] (bs := [ao w.vars, ao w.facts, aE w.ev, ao st, ao w.vars, ao w.facts, aE w.ev, ao st]) Z Z (jH 20 [500,501,502,503] h1 h2 Tryz.func175 Z Z Z Z fun O hF => ?_))
 refine ct ?_
 refine ae (jx O Z (ap ?_))
 refine jf [1] Z (jl O Z (ap ?_))
 refine jn (ag (jS O [_,_,_,_,_,_,_,_,_,_,_,_,_,_,_,_,_,_,_,_] [pn [] 0 0, pn [0] 0 0, pe [0,1] 0, pn [] 0 1, pn [3] 0 1, pe (rg 0 5) 1, pn [] 0 2, pn [6] 0 2, pe (rg 0 8) 2, pn [] 0 3, pn [9] 0 3, pe (rg 0 11) 3, pn [0,1,2,3,4,6,7,9,10] 1 4, pe (rg 0 13) 4, pn (rg 0 14) 5 5, pe (rg 0 15) 5, pn (rg 0 16) 6 6, pe (rg 0 17) 6, pn (rg 0 18) 7 7, pe (rg 0 19) 7] [2,5,8,11,13,15,17,19] [_,_,_,_,_,_,_,_,_] (kc O Z (kc O Z (ai (bQ O [500] (bin := [ao w.vars]) Z Z Z Z (qW h1 h2 hv) Z Z Z Z Z (B0 := 6000) Z Z Z Z Z Z) (ai (kc O Z (V O Z)) (ai (kc O Z (V O Z)) (ai (bQ O [503] (bin := [ao st]) Z Z Z Z (qW h1 h2 hs) Z Z Z Z Z (B0 := 9000) Z Z Z Z Z Z) (ai (kc O Z (kc O Z (V O Z))) (ai (kc O Z (kc O Z (V O Z))) (ai (bQ O [501] (bin := [ao w.facts]) Z Z Z Z (qW h1 h2 hl) Z Z Z Z Z (B0 := 12000) Z Z Z Z Z Z) (ai (kc O Z (kc O Z (kc O Z (V O Z)))) (ai (kc O Z (kc O Z (kc O Z (V O Z)))) (ai (bQ O [502] (bin := [aE w.ev]) Z Z Z Z (vn h1 h2 he) Z Z Z Z Z (B0 := 15000) Z Z Z Z Z Z) (ai (kc O Z (kc O Z (kc O Z (V O Z)))) (ai (eS O Z Z Z) (kc O Z (ai (eS O Z Z Z) (kc O Z (ai (eS O Z Z Z) (kc O Z (ai (eS O Z Z Z) trivial)))))))))))))))))))) ?_))
 refine jw [2,1] Z (ct ?_)
 refine ae (js O Z (jo O Z (ap ?_)))
 refine jr ?_
 refine ⟨.inl Z, _, (((af 6001 504 Z Z).trans (af 12001 505 Z Z)).trans (af 15001 506 Z Z)).trans (af 9001 507 Z Z), _, Z, Z, Z⟩
theorem nS : MQ h1 h2 171 [.c (.pt 0 0 0), cM t, eB ok] [(0, iB c g 1 2 3), (1, aD g.paths), (2, az g.conds), (3, ao st)] (aY (cM t) [(0, iB c (g.flag (!ok)) 1 2 3), (1, aD (g.flag (!ok)).paths), (2, az (g.flag (!ok)).conds), (3, ao st)]) := by
 refine aI 500 Z (MC.keep [500,501,502,503] (bs := [iB c (g.flag (!ok)) 501 502 503, aD (g.flag (!ok)).paths, az (g.flag (!ok)).conds, ao st]) Z Z (jH 13 [500,501,502,503] h1 h2 Tryz.func171 Z Z Z Z fun O hF => ?_))
 refine ct ?_
 refine ae (jx O Z (ap ?_))
 refine jf [4,0,2] Z (jl O Z (ap ?_))
 refine jn (ag (ae (j2 O Z Z (jf [8,6,4,0] Z (jn (ab O Z Z (fun hc8 => ?_) (fun hc8 => ?_)))))))
 refine ak (j3 O Z Z Z (jf [11,6,4] Z (jo O Z (ap ?_))))
 refine aN (js O Z (jf [12,11,6] Z (jo O Z (ap ?_))))
 refine jr ?_
 have hok : ok = false := by simpa using hc8
 subst hok
 rw [show g.flag (!false) = ⟨g.paths, g.conds, true⟩ from flag_true]
 refine ⟨.inl Z, _, aj, _, Z, Z, Z⟩
 refine ah (ae (js O Z (jf [12,6,0] Z (jo O Z (ap ?_)))))
 refine jr ?_
 have hok : ok = true := by simpa using hc8
 subst hok
 rw [show g.flag (!true) = g from flag_false]
 refine ⟨.inl Z, _, aj, _, Z, Z, Z⟩
abbrev xB (d : D) : B := .box [.d d]
abbrev pB (l : Nat) : B := .box [.pt l 0 0]
abbrev bX (x : In) : B := .box [.d (.int .i64 x.op), .d (.int .i64 x.a)]
abbrev iT (st : List Tm) (c : Pc) (g : Gs) (w : Pw) (d8 : D) (x : In) : List (Nat × B) := [(0, iB c g 1 2 3), (1, aD g.paths), (2, az g.conds), (3, ao st), (4, ao w.vars), (5, ao w.facts), (6, aE w.ev), (7, pB 0), (8, xB d8), (9, bX x)]
abbrev oT (c : Pc) (g : Gs) (d8 : D) (x : In) : List (Nat × B) := [(0, iB c g 10 11 3), (7, pB 0), (8, xB d8), (9, bX x), (10, aD g.paths), (11, az g.conds)]
abbrev cZ (w : Pw) (t : Tm) (g : Gs) : Gs := (g.flag (!(bM t).2)).flag (w.fact t).long
def mN (Y : Pw → Gs → Gs) : Prop := ∀ u g, g.bad = true → Y u g = g
theorem uy {Y : Pw → Gs → Gs} (hY : mN Y) {w : Pw} {t u : Tm} {g : Gs} (hb : (Y (w.fact t) (cZ w t g)).bad = false) : (Y (w.fact t) (cZ w t g)).flag (w.fact u).long = Y (w.fact t) (cZ w t g) := by
 have h2 : (cZ w t g).bad = false := by
  cases h : (cZ w t g).bad with
  | false => rfl
  | true => rw [hY _ _ h, h] at hb; cases hb
 have h3 : (w.fact t).long = false := by simp [cZ, Gs.flag] at h2; exact h2.2
 rw [j1 (t := u) (u := t), h3, jK]
theorem wR {Y N : Pw → Gs → Gs} (hY : mN Y) (hN : mN N) {w : Pw} {t : Tm} {g : Gs} (h : (g.flag (!(bM t).2)).bad = true) : fT Y N w t g = g.flag (!(bM t).2) := by
 rw [fT, kA h, hY _ _ h, hN _ _ h]
theorem wQ {Y N : Pw → Gs → Gs} (hY : mN Y) (hN : mN N) {w : Pw} {t : Tm} {g : Gs} (h : (cZ w t g).bad = true) : fT Y N w t g = cZ w t g := by
 rw [fT, hY _ _ h, hN _ _ h]
theorem wP {Y N : Pw → Gs → Gs} (hN : mN N) {w : Pw} {t : Tm} {g : Gs} (h : (Y (w.fact t) (cZ w t g)).bad = true) : fT Y N w t g = Y (w.fact t) (cZ w t g) := by
 rw [fT, hN _ _ h]
theorem vt {L : Nat} (h1 : 4096 ≤ L) (h2 : L ≤ 1073741824) {c : Pc} {g : Gs} {frm : Int} {w : Pw} {st : List Tm} {t : Tm} (hl : w.facts.length ≤ 1000) (he : g.flag (w.fact t).long = g) : MC Tryz.prog L 154 [.c (.pt 0 0 0), .c (.pt 4 0 0), cM t] (iH st.length st c g frm w) (aY (.tup []) (zk st.length st c g frm (w.fact t))) := by
 have h := pf h1 h2 (sn := st.length) (st := st) (c := c) (g := g) (frm := frm) (w := w) (t := t) hl
 rw [he] at h
 exact h
theorem vv {d8 : D} {fy fn : Nat} {Y N : Pw → Gs → Gs} (hY : mN Y) (hN : mN N) (ht : t.ok = true) (hv : w.vars.length ≤ 1000) (hl : w.facts.length ≤ 1000) (he : w.ev.length ≤ 1000) (hs : st.length ≤ 1000)
  (hy : (cZ w t g).bad = false → MQ h1 h2 fy [wA st 3 frm (w.fact t) 4 5 6, .c (.pt 7 0 0), .c (.pt 8 0 0)] (iT st c (cZ w t g) (w.fact t) d8 x) (aY (.tup []) (oT c (Y (w.fact t) (cZ w t g)) d8 x))) (hn : (Y (w.fact t) (cZ w t g)).bad = false → MQ h1 h2 fn [wA st 3 frm (w.fact (bM t).1) 4 5 6, .c (.pt 7 0 0), .c (.pt 9 0 0)] (iT st c (Y (w.fact t) (cZ w t g)) (w.fact (bM t).1) d8 x) (aY (.tup []) (oT c (N (w.fact (bM t).1) (Y (w.fact t) (cZ w t g))) d8 x))) :
  MQ h1 h2 148 [.c (.pt 0 0 0), wA st 3 frm w 4 5 6, cM t, .c (.fn fy [.pt 7 0 0, .pt 8 0 0]), .c (.fn fn [.pt 7 0 0, .pt 9 0 0])] (iT st c g w d8 x) (aY (.tup []) (oT c (fT Y N w t g) d8 x)) := by
 refine aI 500 Z (MC.keep [500,507,508,509,510,511] (bs := [iB c (fT Y N w t g) 510 511 503, pB 500, xB d8, bX x, aD (fT Y N w t g).paths, az (fT Y N w t g).conds]) Z Z (jH 53 [500,501,502,503,504,505,506,507,508,509] h1 h2 Tryz.func148 Z Z Z Z fun O hF => ?_))
 refine ct ?_
 refine ae (jx O Z (ap ?_))
 refine jf [6,0,2,3,4] Z (jx O Z (ap ?_))
 refine ay (Ent.freeze 7 (e' := [(7, _), (6, _), (0, _), (3, _), (4, _)]) Z (.cons Z (.c (.box (cs := Tm.cells t) Z (aC Z))) (fe [6,0,3,4] Z)) (.cons Z (.box (fk Z)) (.skip (.cons Z (.box (fk Z)) (.cons Z .row (.cons Z .row (.cons Z .row (.cons Z .row (.cons Z .row (.cons Z .row (.cons Z (.box (fk Z)) (.cons Z (.box (fk Z)) (.cons Z (.box (fk Z)) .nil))))))))))))) ?_
 refine ap ?_
 refine aN (j2 O Z Z (ax O Z Z Z Z (xq (t := t) h1 h2 ht) (aa Z) Z Z Z Z (B0 := 16000) Z Z (j2 O Z Z (jf [17,16,13,7,6,0,3,4] Z (aq O [500,501,502,503] (bin := [iB c g 1 2 3, aD g.paths, az g.conds, ao st]) Z Z Z Z (nS (st := st) (c := c) (g := g) (t := (bM t).1) (ok := (bM t).2) h1 h2) Z Z Z Z Z Z (B0 := 19000) Z Z (ap ?_))))))
 refine jf [18,7,6,0,3,4] Z (jl O Z (ap ?_))
 refine jo O Z (ap ?_)
 refine ay (Ent.freeze 10 (e' := [(10, _), (6, _), (7, _), (0, _), (3, _), (4, _)]) Z (.cons Z (.c (.box (cs := Tm.cells (bM t).1) Z (aC Z))) (fe [6,7,0,3,4] Z)) (.cons Z (.box (fk Z)) (.skip (.cons Z .row (.cons Z .row (.cons Z .row (.cons Z (.box (fk Z)) (.cons Z (.box (fk Z)) (.cons Z (.box (fk Z)) (.cons Z (.box (fk Z)) (.cons Z .row (.cons Z .row (.cons Z .row .nil))))))))))))) ?_
 refine ap ?_
 refine jn (ag (ae (j4 O Z Z Z Z (jf [22,10,6,7,0,3,4] Z (jn (ab O Z Z (fun hc22 => ?_) (fun hc22 => ?_)))))))
 refine i6 ?_
 rw [wR hY hN hc22]
 refine ⟨.inl Z, _, (af 501 510 Z Z).trans (af 502 511 Z Z), _, Z, Z, Z⟩
 refine ah (ae (js O Z (jf [23,10,6,7,0,3,4] Z (aq O [504,505,506,503] (bin := [ao w.vars, ao w.facts, aE w.ev, ao st]) Z Z Z Z (t7 (frm := frm) (w := w) (st := st) h1 h2 hv hl he hs) Z Z Z Z Z Z (B0 := 25000) Z Z (ap ?_)))))
 refine jf [24,10,6,7,0,3,4] Z (jl O Z (ap ?_))
 refine jo O Z (ap ?_)
 refine aN (j2 O Z Z (aq O [500,501,502,25007,11,25004,25005,25006] (bin := [iB c (g.flag (!(bM t).2)) 1 2 3, aD (g.flag (!(bM t).2)).paths, az (g.flag (!(bM t).2)).conds, ao st, iW st.length 3 frm w 5 6 7, ao w.vars, ao w.facts, aE w.ev]) Z Z Z Z (pf (sn := st.length) (st := st) (c := c) (g := (g.flag (!(bM t).2))) (frm := frm) (w := w) (t := t) h1 h2 hl) Z Z Z Z Z Z (B0 := 28000) Z Z (ap ?_)))
 refine jf [11,24,10,6,7,0,3,4] Z (jn (ag (ae (j4 O Z Z Z Z (js O Z (jf [32,11,24,10,6,7,0,3,4] Z (jn (ab O Z Z (fun hc32 => ?_) (fun hc32 => ?_)))))))))
 refine ak (j2 O Z Z (jf [34,33,11,24,10,6,7,0,4] Z (aq O [500,501,502,25007,25004,28009,25006,507,508,509] (bin := [iB c (cZ w t g) 1 2 3, aD (cZ w t g).paths, az (cZ w t g).conds, ao st, ao (w.fact t).vars, ao (w.fact t).facts, aE (w.fact t).ev, pB 0, xB d8, bX x]) Z Z Z Z (hy (by simpa using hc32)) Z Z Z Z Z Z (B0 := 36000) Z Z (ap ?_))))
 refine jf [11,24,10,6,7,0,4] Z (jn (ag (ae (j4 O Z Z Z Z (jf [39,11,24,10,6,7,0,4] Z (jn (ab O Z Z (fun hc39 => ?_) (fun hc39 => ?_))))))))
 refine i6 ?_
 rw [wP hN hc39]
 refine ⟨.inl Z, _, (af 36010 510 Z Z).trans (af 36011 511 Z Z), _, Z, Z, Z⟩
 refine ah (ae (js O Z (jf [40,11,24,10,6,7,0,4] Z (aq O [504,505,506,503] (bin := [ao w.vars, ao w.facts, aE w.ev, ao st]) Z Z Z Z (t7 (frm := frm) (w := w) (st := st) h1 h2 hv hl he hs) Z Z Z Z Z Z (B0 := 42000) Z Z (ap ?_)))))
 refine jf [41,11,24,10,6,7,0,4] Z (jl O Z (ap ?_))
 refine jo O Z (ap ?_)
 refine aN (j2 O Z Z (aq O [500,36010,36011,42007,12,42004,42005,42006] (bin := [iB c (Y (w.fact t) (cZ w t g)) 1 2 3, aD (Y (w.fact t) (cZ w t g)).paths, az (Y (w.fact t) (cZ w t g)).conds, ao st, iW st.length 3 frm w 5 6 7, ao w.vars, ao w.facts, aE w.ev]) Z Z Z Z (vt (st := st) (c := c) (g := (Y (w.fact t) (cZ w t g))) (frm := frm) (w := w) (t := (bM t).1) h1 h2 hl (uy hY hc39)) Z Z Z Z Z Z (B0 := 45000) Z Z (ap ?_)))
 refine jf [12,41,11,24,10,6,7,0,4] Z (aN (j4 O Z Z Z Z (js O Z (jf [49,12,41,11,24,10,6,7,0,4] Z (jn (ab O Z Z (fun hc49 => ?_) (fun hc49 => ?_)))))))
 refine ak (j2 O Z Z (jf [51,50,12,41,11,24,10,6,7,0] Z (aq O [500,36010,36011,42007,42004,45009,42006,507,508,509] (bin := [iB c (Y (w.fact t) (cZ w t g)) 1 2 3, aD (Y (w.fact t) (cZ w t g)).paths, az (Y (w.fact t) (cZ w t g)).conds, ao st, ao (w.fact (bM t).1).vars, ao (w.fact (bM t).1).facts, aE (w.fact (bM t).1).ev, pB 0, xB d8, bX x]) Z Z Z Z (hn hc39) Z Z Z Z Z Z (B0 := 53000) Z Z (ap ?_))))
 refine jf [12,41,11,24,10,6,7,0] Z (jn ?_)
 show _ ∧ _
 refine ⟨.inr Z, _, (af 53010 510 Z Z).trans (af 53011 511 Z Z), _, Z, Z, Z⟩
 exact absurd (show (!(Y (w.fact t) (cZ w t g)).bad) = false from hc49) (by rw [show (Y (w.fact t) (cZ w t g)).bad = false from hc39]; decide)
 refine ah (ag (ae (j4 O Z Z Z Z (jf [39,11,24,10,6,7,0,3,4] Z (jn (ab O Z Z (fun hc39 => ?_) (fun hc39 => ?_)))))))
 refine i6 ?_
 rw [wQ hY hN hc39]
 refine ⟨.inl Z, _, (af 501 510 Z Z).trans (af 502 511 Z Z), _, Z, Z, Z⟩
 exact absurd (show (!(cZ w t g).bad) = false from hc32) (by rw [show (cZ w t g).bad = false from hc39]; decide)
theorem oV {u : Tm} (hu : u.ok = true) (ht : t.ok = true) : MQ h1 h2 146 [cM u, cM t] [] (Plain (eM (dY u t))) := by
 refine MC.data (jB 23 h1 h2 Tryz.func146 Z Z Z fun O hF => ?_)
 refine ae (jx O Z (ap ?_))
 refine jf [2,1] Z (jx O Z (ap ?_))
 refine jf [3,2] Z (jl O Z (ap ?_))
 refine js O Z (jn (ag (ae (js O Z (ac O Z Z Z Z ((j9 (t := u) h1 h2).plain (u := eB true) (by rw [hu])) (aa Z) Z Z Z Z Z (B0 := 8000) Z (j2 O Z Z (jf [9,5,4,3,2] Z (bp Z (js O Z (bp Z (ac O Z Z Z Z ((j9 (t := t) h1 h2).plain (u := eB true) (by rw [ht])) (aa Z) Z Z Z Z Z (B0 := 12000) Z (jf [11,9,5,4,3,2] Z (bp Z (js O Z (AOps.step (aH O Z Z Z Z Z) Z Z Z (jf [13,5,4,3,2] Z (jn (ab O Z Z (fun hc13 => ?_) (fun hc13 => ?_)))))))))))))))))))
 exact absurd hc13 (by decide)
 refine ah (ae (j2 O Z Z (jf [16,15,5,4,3,2] Z (AOps.heap (dy O Z Z Z Z Z Z Z Z Z Z Z) Z (ap ?_)))))
 refine ap ?_
 refine jf [17,5,4,3,2] Z (AOps.heap (bi O Z Z Z) Z (ap ?_))
 refine ay (Ent.freeze 17 (e' := [(17, _), (18, _), (2, _), (3, _), (4, _)]) Z (.cons Z (.c (.row Z Z)) (fe [18,2,3,4] Z)) (.cons Z (.box (fk Z)) (.cons Z (.box (fk Z)) (.cons Z (.box (fk Z)) (.skip (.cons Z .row .nil)))))) ?_
 refine ay (Ent.freeze 18 (e' := [(17, _), (18, _), (2, _), (3, _), (4, _)]) Z (.cons Z (.keep Z) (.cons Z (.c (.row Z Z)) (fe [2,3,4] Z))) (.cons Z (.box (fk Z)) (.cons Z (.box (fk Z)) (.cons Z (.box (fk Z)) (.skip .nil))))) ?_
 refine ap ?_
 refine ax O rfl rfl rfl rfl (qQ (ts := [u, t]) (ms := [1,1]) h1 h2 ⟨fun x hx => by simp only [List.mem_cons, List.not_mem_nil, or_false] at hx; rcases hx with rfl | rfl; exact hu; exact ht, by show (2 : Nat) ≤ 1000; decide⟩ (by decide) (bH _)) (aa rfl) rfl rfl rfl rfl (B0 := 20000) rfl rfl (jf [19,2,3,4] Z (ax O Z Z Z Z ((q9 (t := ea [u, t] [1,1]) h1 h2).plain (u := eM (dY u t)) Z) (aa Z) Z Z Z Z (B0 := 21000) Z Z (j2 O Z Z (jf [22,21,2,3,4] Z (jo O Z (ap ?_))))))
 refine js O Z (jf [5,2,3,4] Z (jr ?_))
 refine ⟨.inl Z, _, aj, _, Z, ?_⟩
 exact .tup (.cons (.agg (aC Z)) (.cons (.c .d) .nil))
theorem oU {n : Int} (ht : t.ok = true) (hn : num n = true) : MQ h1 h2 147 [cM t, eI n] [] (Plain (eM (dW t n))) := by
 refine MC.data (jB 23 h1 h2 Tryz.func147 Z Z Z fun O hF => ?_)
 refine ae (jx O Z (ap ?_))
 refine jf [2,1] Z (jl O Z (ap ?_))
 refine js O Z (jn (ag (ae (js O Z (ac O Z Z Z Z ((j9 (t := t) h1 h2).plain (u := eB true) (by rw [ht])) (aa Z) Z Z Z Z Z (B0 := 8000) Z (j2 O Z Z (jf [9,5,4,2,1] Z (bp Z (js O Z (bp Z (ac O Z Z Z Z ((sL (x := n) h1 h2).plain (u := eB true) (by rw [hn])) (aa Z) Z Z Z Z Z (B0 := 12000) Z (jf [11,9,5,4,2,1] Z (bp Z (js O Z (AOps.step (aH O Z Z Z Z Z) Z Z Z (jf [13,5,4,2,1] Z (jn (ab O Z Z (fun hc13 => ?_) (fun hc13 => ?_)))))))))))))))))))
 exact absurd hc13 (by decide)
 refine ah (ae (js O Z (jf [15,5,4,2,1] Z (AOps.heap (dy O Z Z Z Z Z Z Z Z Z Z Z) Z (ap ?_)))))
 refine ap ?_
 refine js O Z (jf [17,16,5,4,2,1] Z (AOps.heap (bi O Z Z Z) Z (ap ?_)))
 refine ay (Ent.freeze 16 (e' := [(16, _), (18, _), (2, _), (4, _)]) Z (.cons Z (.c (.row Z Z)) (fe [18,2,4] Z)) (.cons Z (.box (fk Z)) (.cons Z (.box (fk Z)) (.skip (.cons Z .row .nil))))) ?_
 refine ay (Ent.freeze 18 (e' := [(16, _), (18, _), (2, _), (4, _)]) Z (.cons Z (.keep Z) (.cons Z (.c (.row Z Z)) (fe [2,4] Z))) (.cons Z (.box (fk Z)) (.cons Z (.box (fk Z)) (.skip .nil)))) ?_
 refine ap ?_
 refine ax O rfl rfl rfl rfl (qQ (ts := [t]) (ms := [n]) h1 h2 ⟨fun x hx => by simp only [List.mem_singleton] at hx; subst hx; exact ht, by show (1 : Nat) ≤ 1000; decide⟩ (by simp [hn]) (bH _)) (aa rfl) rfl rfl rfl rfl (B0 := 20000) rfl rfl (jf [19,2,4] Z (ax O Z Z Z Z ((q9 (t := ea [t] [n]) h1 h2).plain (u := eM (dW t n)) Z) (aa Z) Z Z Z Z (B0 := 21000) Z Z (j2 O Z Z (jf [22,21,2,4] Z (jo O Z (ap ?_))))))
 refine js O Z (jf [5,2,4] Z (jr ?_))
 refine ⟨.inl Z, _, aj, _, Z, ?_⟩
 exact .tup (.cons (.agg (aC Z)) (.cons (.c .d) .nil))
abbrev zj (st : List Tm) (c : Pc) (g : Gs) (frm : Int) (w : Pw) : List (Nat × B) := [(0, iB c g 1 2 3), (1, aD g.paths), (2, az g.conds), (4, iW st.length 8 frm w 5 6 7), (5, ao w.vars), (6, ao w.facts), (7, aE w.ev), (8, ao st)]
theorem kd (hl : st.length ≤ 1000) : MQ h1 h2 144 [.c (.pt 0 0 0), .c (.pt 4 0 0), cM t, eB ok] (iH st.length st c g frm w) (aY (.tup []) (zj (st ++ [t]) c (aV t ok ⟨w, st, g⟩).g frm w)) := by
 refine aI 500 Z (MC.keep [500,501,502,504,505,506,507,508] (bs := [iB c (aV t ok ⟨w, st, g⟩).g 501 502 503, aD (aV t ok ⟨w, st, g⟩).g.paths, az (aV t ok ⟨w, st, g⟩).g.conds, iW (st ++ [t]).length 508 frm w 505 506 507, ao w.vars, ao w.facts, aE w.ev, ao (st ++ [t])]) Z Z (jH 33 [500,501,502,503,504,505,506,507] h1 h2 Tryz.func144 Z Z Z Z fun O hF => ?_))
 refine ct ?_
 refine ae (jx O Z (ap ?_))
 refine ay (Ent.freeze 6 (e' := [(6, _), (0, _), (1, _), (3, _)]) Z (.cons Z (.c (.box (cs := Tm.cells t) Z (aC Z))) (fe [0,1,3] Z)) (.skip (.cons Z (.box (fk Z)) (.cons Z .row (.cons Z .row (.cons Z .row (.cons Z (.box (fk Z)) (.cons Z .row (.cons Z .row (.cons Z .row .nil)))))))))) ?_
 refine ap ?_
 refine jn (ag (kX O [_,_,_,_,_,_,_,_,_,_,_,_,_,_,_,_] [pn [] 0 3, pn [] 0 2, pn [1] 0 2, pn [1,2] 0 2, pn [1,2,3] 0 2, pn [] 0 0, pn [5] 0 0, pn [5,6] 0 0, pn [] 0 0, pn [] 0 0, pe (rg 5 5) 0, pe (rg 5 6) 1, pe (rg 1 11) 2, pn (rg 0 13) 3 3, pn (rg 0 14) 3 3, pe (rg 0 15) 3] [10,11,12,15] [_,_,_,_,_] [[], [], [503], []] (ai (ka O Z Z (ka O Z Z (ka O Z Z (kw O Z Z)))) (ai (ka O Z Z (ka O Z Z (kw O Z Z))) (ai (ka O Z Z (ka O Z Z (kw O Z Z))) (ai (ka O Z Z (ka O Z Z (kw O Z Z))) (ai (ka O Z Z (ka O Z Z (kw O Z Z))) (ka O Z Z (ka O Z Z (ka O Z Z (ka O Z Z (ka O Z Z (ai (ai (aO (bQ O [500,501,502,503] (bin := [iB c g 1 2 3, aD g.paths, az g.conds, ao st]) Z Z Z Z (nS (st := st) (c := c) (g := g) (t := t) (ok := ok) h1 h2) Z Z Z Z Z (B0 := 19000) Z Z Z Z Z Z)) Z) (ai (ai (aO (bU O Z Z Z Z Z Z Z Z Z Z Z Z Z Z)) Z) (ai (ai (bK (own := false) (xs := st.map Tm.cells) (ys := [Tm.cells t]) (zs := ((st ++ [t])).map Tm.cells) (n := (st ++ [t]).length) O Z Z Z Z Z Z Z Z Z Z Z Z Z Z Z Z (.row Z (bJ _).symm) (.whole Z Z (.inr ⟨Z, Z⟩)) (by simp) Z (by simp; omega) (by simp; omega) (by simp) (by simp) Z) Z) (ka O Z Z (ka O Z Z (ai (ai (aO (eS O Z Z Z)) Z) trivial)))))))))))))))) ?_))
 refine jw [0,1] Z (ct ?_)
 refine ae (j4 O Z Z Z Z (AOps.step (aP O Z Z (by simp only [c7, gF]; omega)) Z Z Z (js O Z (jf [28,0,1] Z (jn (ab O Z Z (fun hc28 => ?_) (fun hc28 => ?_)))))))
 refine ak (j4 O Z Z Z Z (jf [32,0,1] Z (jo O Z (ap ?_))))
 refine jn ?_
 show _ ∧ _
 have hlo : decide (6 < (st ++ [t]).length) = true := decide_eq_true (by have := aQ hc28; omega)
 rw [show (aV t ok ⟨w, st, g⟩).g = (g.flag (!ok)).flag (decide (6 < (st ++ [t]).length)) from Z, hlo, flag_true]
 refine ⟨.inr Z, _, af 20 508 Z Z, _, Z, Z, Z⟩
 refine ah ?_
 show _ ∧ _
 have hlo : decide (6 < (st ++ [t]).length) = false := decide_eq_false (by have := bB hc28; omega)
 rw [show (aV t ok ⟨w, st, g⟩).g = (g.flag (!ok)).flag (decide (6 < (st ++ [t]).length)) from Z, hlo, flag_false]
 refine ⟨.inr Z, _, af 20 508 Z Z, _, Z, Z, Z⟩
theorem uP {n : Int} (hl : st.length ≤ 1000) : MQ h1 h2 144 [.c (.pt 0 0 0), .c (.pt 4 0 0), .agg [.d (.int .i64 n), .d .nils], eB ok] (iH st.length st c g frm w) (aY (.tup []) (zj (st ++ [(⟨n, []⟩ : Tm)]) c (aV (⟨n, []⟩ : Tm) ok ⟨w, st, g⟩).g frm w)) := by
 refine aI 500 Z (MC.keep [500,501,502,504,505,506,507,508] (bs := [iB c (aV (⟨n, []⟩ : Tm) ok ⟨w, st, g⟩).g 501 502 503, aD (aV (⟨n, []⟩ : Tm) ok ⟨w, st, g⟩).g.paths, az (aV (⟨n, []⟩ : Tm) ok ⟨w, st, g⟩).g.conds, iW (st ++ [(⟨n, []⟩ : Tm)]).length 508 frm w 505 506 507, ao w.vars, ao w.facts, aE w.ev, ao (st ++ [(⟨n, []⟩ : Tm)])]) Z Z (jH 33 [500,501,502,503,504,505,506,507] h1 h2 Tryz.func144 Z Z Z Z fun O hF => ?_))
 refine ct ?_
 refine ae (jx O Z (ap ?_))
 refine ay (Ent.freeze 6 (e' := [(6, _), (0, _), (1, _), (3, _)]) Z (.cons Z (.c (.box (cs := Tm.cells (⟨n, []⟩ : Tm)) Z (.cons .d (.cons .nils .nil)))) (fe [0,1,3] Z)) (.skip (.cons Z (.box (fk Z)) (.cons Z .row (.cons Z .row (.cons Z .row (.cons Z (.box (fk Z)) (.cons Z .row (.cons Z .row (.cons Z .row .nil)))))))))) ?_
 refine ap ?_
 refine jn (ag (kX O [_,_,_,_,_,_,_,_,_,_,_,_,_,_,_,_] [pn [] 0 3, pn [] 0 2, pn [1] 0 2, pn [1,2] 0 2, pn [1,2,3] 0 2, pn [] 0 0, pn [5] 0 0, pn [5,6] 0 0, pn [] 0 0, pn [] 0 0, pe (rg 5 5) 0, pe (rg 5 6) 1, pe (rg 1 11) 2, pn (rg 0 13) 3 3, pn (rg 0 14) 3 3, pe (rg 0 15) 3] [10,11,12,15] [_,_,_,_,_] [[], [], [503], []] (ai (ka O Z Z (ka O Z Z (ka O Z Z (kw O Z Z)))) (ai (ka O Z Z (ka O Z Z (kw O Z Z))) (ai (ka O Z Z (ka O Z Z (kw O Z Z))) (ai (ka O Z Z (ka O Z Z (kw O Z Z))) (ai (ka O Z Z (ka O Z Z (kw O Z Z))) (ka O Z Z (ka O Z Z (ka O Z Z (ka O Z Z (ka O Z Z (ai (ai (aO (bQ O [500,501,502,503] (bin := [iB c g 1 2 3, aD g.paths, az g.conds, ao st]) Z Z Z Z (nS (st := st) (c := c) (g := g) (t := (⟨n, []⟩ : Tm)) (ok := ok) h1 h2) Z Z Z Z Z (B0 := 19000) Z Z Z Z Z Z)) Z) (ai (ai (aO (bU O Z Z Z Z Z Z Z Z Z Z Z Z Z Z)) Z) (ai (ai (bK (own := false) (xs := st.map Tm.cells) (ys := [Tm.cells (⟨n, []⟩ : Tm)]) (zs := ((st ++ [(⟨n, []⟩ : Tm)])).map Tm.cells) (n := (st ++ [(⟨n, []⟩ : Tm)]).length) O Z Z Z Z Z Z Z Z Z Z Z Z Z Z Z Z (.row Z (bJ _).symm) (.whole Z Z (.inr ⟨Z, Z⟩)) (by simp) Z (by simp; omega) (by simp; omega) (by simp) (by simp) Z) Z) (ka O Z Z (ka O Z Z (ai (ai (aO (eS O Z Z Z)) Z) trivial)))))))))))))))) ?_))
 refine jw [0,1] Z (ct ?_)
 refine ae (j4 O Z Z Z Z (AOps.step (aP O Z Z (by simp only [c7, gF]; omega)) Z Z Z (js O Z (jf [28,0,1] Z (jn (ab O Z Z (fun hc28 => ?_) (fun hc28 => ?_)))))))
 refine ak (j4 O Z Z Z Z (jf [32,0,1] Z (jo O Z (ap ?_))))
 refine jn ?_
 show _ ∧ _
 have hlo : decide (6 < (st ++ [(⟨n, []⟩ : Tm)]).length) = true := decide_eq_true (by have := aQ hc28; omega)
 rw [show (aV (⟨n, []⟩ : Tm) ok ⟨w, st, g⟩).g = (g.flag (!ok)).flag (decide (6 < (st ++ [(⟨n, []⟩ : Tm)]).length)) from Z, hlo, flag_true]
 refine ⟨.inr Z, _, af 20 508 Z Z, _, Z, Z, Z⟩
 refine ah ?_
 show _ ∧ _
 have hlo : decide (6 < (st ++ [(⟨n, []⟩ : Tm)]).length) = false := decide_eq_false (by have := bB hc28; omega)
 rw [show (aV (⟨n, []⟩ : Tm) ok ⟨w, st, g⟩).g = (g.flag (!ok)).flag (decide (6 < (st ++ [(⟨n, []⟩ : Tm)]).length)) from Z, hlo, flag_false]
 refine ⟨.inr Z, _, af 20 508 Z Z, _, Z, Z, Z⟩
theorem fV {k : Nat} (hk : k ≤ st.length) (hl : st.length ≤ 1000) : MQ h1 h2 145 [.c (.pt 0 0 0), .c (.pt 4 0 0), eI k] (iH st.length st c g frm w) (aY (.c (.rs 3 (st.length - k) k)) (iH (st.length - k) st c g frm w)) := by
 refine aI 500 Z (MC.keep [500,501,502,503,504,505,506,507] (bs := [iB c g 501 502 503, aD g.paths, az g.conds, ao st, iW (st.length - k) 503 frm w 505 506 507, ao w.vars, ao w.facts, aE w.ev]) Z Z (jH 41 [500,501,502,503,504,505,506,507] h1 h2 Tryz.func145 Z Z Z Z fun O hF => ?_))
 refine ct ?_
 refine ae (js O Z (aN (j4 O Z Z Z Z ?_)))
 first | refine bw O Z ?_ | refine js O Z ?_ | refine bb O Z Z ?_
 refine js O Z (AOps.step ((aG O Z Z (by omega) (by omega)).cast (v' := eI ((st.length - k) : Nat)) (congrArg eI (by omega))) Z Z Z (js O Z (jf [7,6,0,1,2] Z (jn (ag (ae (j2 O Z Z (jn (ab O Z Z (fun hc17 => ?_) (fun hc17 => ?_))))))))))
 exact absurd (aQ hc17) (by omega)
 refine ah (ae (j4 O Z Z Z Z (js O Z (AOps.step ((aP O Z Z (by omega)).cast (v' := .c (.rs 503 (st.length - k) k)) (by show A.c (.rs 503 _ _) = _; rw [Nat.zero_add, Int.toNat_natCast, show st.length - (st.length - k) = k by omega])) Z Z Z (js O Z (jf [8,16,7,6,0,1,2] Z (aN (j4 O Z Z Z Z (j3 O Z Z Z (AOps.step (oB O Z Z Z Z Z Z Z Z Z Z Z (Nat.sub_le _ _)) Z Z Z (j2 O Z Z (jf [39,37,8,16,7,6,0,1,2] Z (jo O Z (ap ?_))))))))))))))
 refine jf [8,16,7,6,0,1,2] Z (aN (j2 O Z Z (jf [6,16,7,0,1,2] Z (jr ?_))))
 refine ⟨.inl Z, _, aj, _, Z, Z, Z⟩
theorem jj (hk : st.length < 1) : MQ h1 h2 145 [.c (.pt 0 0 0), .c (.pt 4 0 0), eI 1] (iH st.length st c g frm w) (aY (cm [tz]) (iH st.length st c (g.flag true) frm w)) := by
 refine aI 500 Z (MC.keep [500,501,502,503,504,505,506,507] (bs := [iB c (g.flag true) 501 502 503, aD (g.flag true).paths, az (g.flag true).conds, ao st, iW st.length 503 frm w 505 506 507, ao w.vars, ao w.facts, aE w.ev]) Z Z (jH 41 [500,501,502,503,504,505,506,507] h1 h2 Tryz.func145 Z Z Z Z fun O hF => ?_))
 refine ct ?_
 rw [show g.flag true = ⟨g.paths, g.conds, true⟩ from flag_true]
 refine ae (js O Z (aN (j4 O Z Z Z Z ?_)))
 first | refine bw O Z ?_ | refine js O Z ?_ | refine bb O Z Z ?_
 refine js O Z (AOps.step ((aG O Z Z (by omega) (by omega)).cast (v' := eI ((st.length : Int) - 1)) Z) Z Z Z (js O Z (jf [7,6,0,1,2] Z (jn (ag (ae (j2 O Z Z (jn (ab O Z Z (fun hc17 => ?_) (fun hc17 => ?_))))))))))
 refine ae (j4 O Z Z Z Z (jf [21,16,7,6,1,2] Z (jo O Z (ap ?_))))
 refine aN (js O Z (AOps.heap (co O Z Z Z Z Z Z Z Z Z (by first | omega | (simp at *; omega)) (by first | omega | (simp at *; omega)) (by first | omega | (simp at *; omega)) (by first | omega | (dsimp only; omega) | (simp only [aJ] at *; omega)) (by first | omega | (simp at *; omega)) Z Z Z) Z (ap ?_)))
 refine js O Z (jf [6,21,16,7,1,2] Z (jr ?_))
 refine ⟨.inl Z, _, (Ent.rowLe 23 Z (.cons (.cons .refl (.cons (.nil (sz := 1)) .nil)) .nil)).trans (Ent.freeze 23 (e' := [(6, _)]) Z (.cons Z (.c (.row Z Z)) .nil) (.skip (.cons Z (.box (fk Z)) (.cons Z .row (.cons Z .row (.cons Z .row (.cons Z (.box (fk Z)) (.cons Z .row (.cons Z .row (.cons Z .row .nil)))))))))), _, Z, Z, Z⟩
 exact absurd (bB hc17) (by omega)
theorem rD (hk : st.length < 2) : MQ h1 h2 145 [.c (.pt 0 0 0), .c (.pt 4 0 0), eI 2] (iH st.length st c g frm w) (aY (cm [tz, tz]) (iH st.length st c (g.flag true) frm w)) := by
 refine aI 500 Z (MC.keep [500,501,502,503,504,505,506,507] (bs := [iB c (g.flag true) 501 502 503, aD (g.flag true).paths, az (g.flag true).conds, ao st, iW st.length 503 frm w 505 506 507, ao w.vars, ao w.facts, aE w.ev]) Z Z (jH 41 [500,501,502,503,504,505,506,507] h1 h2 Tryz.func145 Z Z Z Z fun O hF => ?_))
 refine ct ?_
 rw [show g.flag true = ⟨g.paths, g.conds, true⟩ from flag_true]
 refine ae (js O Z (aN (j4 O Z Z Z Z ?_)))
 first | refine bw O Z ?_ | refine js O Z ?_ | refine bb O Z Z ?_
 refine js O Z (AOps.step ((aG O Z Z (by omega) (by omega)).cast (v' := eI ((st.length : Int) - 2)) Z) Z Z Z (js O Z (jf [7,6,0,1,2] Z (jn (ag (ae (j2 O Z Z (jn (ab O Z Z (fun hc17 => ?_) (fun hc17 => ?_))))))))))
 refine ae (j4 O Z Z Z Z (jf [21,16,7,6,1,2] Z (jo O Z (ap ?_))))
 refine aN (js O Z (AOps.heap (co O Z Z Z Z Z Z Z Z Z (by first | omega | (simp at *; omega)) (by first | omega | (simp at *; omega)) (by first | omega | (simp at *; omega)) (by first | omega | (dsimp only; omega) | (simp only [aJ] at *; omega)) (by first | omega | (simp at *; omega)) Z Z Z) Z (ap ?_)))
 refine js O Z (jf [6,21,16,7,1,2] Z (jr ?_))
 refine ⟨.inl Z, _, (Ent.rowLe 23 Z (.cons (.cons .refl (.cons (.nil (sz := 1)) .nil)) (.cons (.cons .refl (.cons (.nil (sz := 1)) .nil)) .nil))).trans (Ent.freeze 23 (e' := [(6, _)]) Z (.cons Z (.c (.row Z Z)) .nil) (.skip (.cons Z (.box (fk Z)) (.cons Z .row (.cons Z .row (.cons Z .row (.cons Z (.box (fk Z)) (.cons Z .row (.cons Z .row (.cons Z .row .nil)))))))))), _, Z, Z, Z⟩
 exact absurd (bB hc17) (by omega)
abbrev iF (st : List Tm) (c : Pc) (g : Gs) (w : Pw) : List (Nat × B) := [(0, iB c g 1 2 3), (1, aD g.paths), (2, az g.conds), (3, ao st), (4, ao w.vars), (5, ao w.facts), (6, aE w.ev)]
abbrev oF (c : Pc) (g : Gs) : List (Nat × B) := [(0, iB c g 10 11 3), (10, aD g.paths), (11, az g.conds)]
abbrev nF (L : Nat) (c : Pc) (frm : Int) (w : Pw) (st : List Tm) (g : Gs) (z : Int) (b : Bool) (g' : Gs) : Prop := MC Tryz.prog L 127 [.c (.pt 0 0 0), wA st 3 frm w 4 5 6, eI z, eB b] (iF st c g w) (aY (.tup []) (oF c g'))
abbrev bO (SS : List (List Tm)) (a : An) : Pc := ⟨.nils, .slc 1 (SS.map fun f => [em f]), em a.pre, em a.post, i8 a.code, fR a.pts⟩
theorem xj {g' : Gs} {z : Int} (ih : nF L c frm w st g z false g') : MQ h1 h2 149 [wA st 3 frm w 4 5 6, .c (.pt 7 0 0), .c (.pt 8 0 0)] (iT st c g w (.int .i64 z) x) (aY (.tup []) (oT c g' (.int .i64 z) x)) := by
 refine aI 500 Z (MC.keep [500,507,508,509,510,511] (bs := [iB c g' 510 511 503, pB 500, xB (.int .i64 z), bX x, aD g'.paths, az g'.conds]) Z Z (jH 8 [500,501,502,503,504,505,506,507,508,509] h1 h2 Tryz.func149 Z Z Z Z fun O hF => ?_))
 refine ct ?_
 refine ae (jx O Z (ap ?_))
 refine jn (ak (j3 O Z Z Z (jf [6,5,4,0] Z (aq O [500,501,502,503,504,505,506] (bin := [iB c g 1 2 3, aD g.paths, az g.conds, ao st, ao w.vars, ao w.facts, aE w.ev]) Z Z Z Z (ih) Z Z Z Z Z Z (B0 := 8000) Z Z (ap ?_)))))
 refine jf [0] Z (jn ?_)
 show _ ∧ _
 refine ⟨.inr Z, _, (af 8010 510 Z Z).trans (af 8011 511 Z Z), _, Z, Z, Z⟩
theorem xi {g' : Gs} {d8 : D} (ih : nF L c frm w st g x.a false g') : MQ h1 h2 150 [wA st 3 frm w 4 5 6, .c (.pt 7 0 0), .c (.pt 9 0 0)] (iT st c g w d8 x) (aY (.tup []) (oT c g' d8 x)) := by
 refine aI 500 Z (MC.keep [500,507,508,509,510,511] (bs := [iB c g' 510 511 503, pB 500, xB d8, bX x, aD g'.paths, az g'.conds]) Z Z (jH 9 [500,501,502,503,504,505,506,507,508,509] h1 h2 Tryz.func150 Z Z Z Z fun O hF => ?_))
 refine ct ?_
 refine ae (jx O Z (ap ?_))
 refine jn (ak (j4 O Z Z Z Z (jf [7,5,4,0] Z (aq O [500,501,502,503,504,505,506] (bin := [iB c g 1 2 3, aD g.paths, az g.conds, ao st, ao w.vars, ao w.facts, aE w.ev]) Z Z Z Z (ih) Z Z Z Z Z Z (B0 := 9000) Z Z (ap ?_)))))
 refine jf [0] Z (jn ?_)
 show _ ∧ _
 refine ⟨.inr Z, _, (af 9010 510 Z Z).trans (af 9011 511 Z Z), _, Z, Z, Z⟩
def tK (w : Pw) : Tm := if w.sym = 10 then ⟨0, []⟩ else gG w.sym
abbrev mC (w : Pw) : Pw := ⟨w.vars, w.facts, w.ev, min (w.sym + 1) 10⟩
abbrev lc (w : Pw) (g : Gs) : Gs := g.flag (decide (w.sym = 10))
theorem rH {L : Nat} (h1 : 4096 ≤ L) (h2 : L ≤ 1073741824) {c : Pc} {g : Gs} {frm : Int} {w : Pw} {st : List Tm} {sn : Nat} (hs : w.sym ≤ 10) : MC Tryz.prog L 152 [.c (.pt 0 0 0), .c (.pt 4 0 0)] (iH sn st c g frm w) (aY (cM (tK w)) (iH sn st c (lc w g) frm (mC w))) := by
 by_cases h : w.sym = 10
 have e : mC w = w := by obtain ⟨a, b, c, d⟩ := w; simp only at h; subst h; rfl
 rw [tK, if_pos h, e, lc, decide_eq_true h, Go.Al.flag_true]
 exact sm (fun h => RA.zero h) (vu h1 h2 h)
 have e : min (w.sym + 1) 10 = w.sym + 1 := by omega
 rw [tK, if_neg h, mC, e, lc, decide_eq_false h, Go.Al.flag_false]
 exact xt h1 h2 (by omega)
section
variable {x : In} {w : Pw} {st : List Tm} {g : Gs}
theorem qv (h : st.length = 0) : p0 1 st = tz ∧ pR 1 st = st ∧ pG 1 st g = g.flag true := by
 unfold p0 pR pG; rw [nI (by omega)]; exact ⟨rfl, rfl, rfl⟩
theorem uj (h : st.length < 2) : p0 2 st = tz ∧ p1 2 st = tz ∧ pR 2 st = st ∧ pG 2 st g = g.flag true := by
 unfold p0 p1 pR pG; rw [nI h]; exact ⟨rfl, rfl, rfl, rfl⟩
theorem jW (h : 1 ≤ st.length) : p0 1 st = bn st ∧ pR 1 st = cH st ∧ pG 1 st g = g := ⟨qF h, jv h, jy h⟩
theorem i5 (h : 2 ≤ st.length) : p0 2 st = i4 st ∧ p1 2 st = bn st ∧ pR 2 st = mz st ∧ pG 2 st g = g := ⟨ul h, vX h, jv h, jy h⟩
theorem yH (e : x.op = 0) : bZ x w st g = aV ⟨x.a, []⟩ true ⟨w, st, g⟩ := if_pos e
theorem yG (e : x.op = 1) : bZ x w st g = aV (w.vars.getD x.a.toNat tz) true ⟨w, st, g⟩ := by unfold bZ; rw [if_neg (by omega), if_pos e]
theorem wd (e : x.op = 2) : bZ x w st g = ⟨w.set x.a.toNat (p0 1 st), pR 1 st, pG 1 st g⟩ := by unfold bZ; rw [if_neg (by omega), if_neg (by omega), if_pos e]
theorem wc (e : x.op = 3) : bZ x w st g = aV (dY (p0 2 st) (p1 2 st)).1 (dY (p0 2 st) (p1 2 st)).2 ⟨w, pR 2 st, pG 2 st g⟩ := by unfold bZ; rw [if_neg (by omega), if_neg (by omega), if_neg (by omega), if_pos e]
theorem wb (e : x.op = 4) : bZ x w st g = aV (dW (p0 1 st) x.a).1 (dW (p0 1 st) x.a).2 ⟨w, pR 1 st, pG 1 st g⟩ := by unfold bZ; rw [if_neg (by omega), if_neg (by omega), if_neg (by omega), if_neg (by omega), if_pos e]
theorem yF (e : x.op = 5) : bZ x w st g = ⟨w, st, g⟩ := by unfold bZ; simp [e]
theorem wa (e : x.op = 7) (hs : w.sym ≤ 10) : bZ x w st g = aV (tK w) true ⟨mC w, pR 1 st, lc w (aZ bz w (p0 1 st) (pG 1 st g))⟩ := by
 unfold bZ; rw [if_neg (by omega), if_neg (by omega), if_neg (by omega), if_neg (by omega), if_neg (by omega), if_pos e]
 by_cases h0 : w.sym = 10
 rw [if_pos h0, tK, if_pos h0, lc, decide_eq_true h0]
 obtain ⟨a, b, c, d⟩ := w; simp only at h0; subst h0; rfl
 rw [if_neg h0, tK, if_neg h0, lc, decide_eq_false h0, eU, mC, show min (w.sym + 1) 10 = w.sym + 1 by omega]
theorem v9 (e : x.op = 8) : bZ x w st g = ⟨w, pR 2 st, aZ bz w (p0 2 st) (pG 2 st g)⟩ := by unfold bZ; rw [if_neg (by omega), if_neg (by omega), if_neg (by omega), if_neg (by omega), if_neg (by omega), if_neg (by omega), if_pos e]
theorem yE (e : x.op = 9) : bZ x w st g = ⟨⟨w.vars, w.facts, w.ev ++ [x.a], w.sym⟩, st, g⟩ := by unfold bZ; rw [if_neg (by omega), if_neg (by omega), if_neg (by omega), if_neg (by omega), if_neg (by omega), if_neg (by omega), if_neg (by omega), if_pos e]
theorem tT (e : x.op = 10) : bZ x w st g = ⟨w.fact (p0 1 st), pR 1 st, ((pG 1 st g).goal w (p0 1 st)).flag (w.fact (p0 1 st)).long⟩ := by unfold bZ; rw [if_neg (by omega), if_neg (by omega), if_neg (by omega), if_neg (by omega), if_neg (by omega), if_neg (by omega), if_neg (by omega), if_neg (by omega), if_pos e]
theorem m4 {t : Tm} (ht : t.ok = true) : cu w t g = g.goal w t := by unfold cu; rw [ht]; exact eU
end
inductive Way (x : In) (st : List Tm) : Prop
  | o0 : x.op = 0 → Way x st
  | o1 : x.op = 1 → Way x st
  | l2 : x.op = 2 → st.length = 0 → Way x st
  | h2 : x.op = 2 → 1 ≤ st.length → Way x st
  | l3 : x.op = 3 → st.length < 2 → Way x st
  | h3 : x.op = 3 → 2 ≤ st.length → Way x st
  | l4 : x.op = 4 → st.length = 0 → Way x st
  | h4 : x.op = 4 → 1 ≤ st.length → Way x st
  | o5 : x.op = 5 → Way x st
  | l7 : x.op = 7 → st.length = 0 → Way x st
  | h7 : x.op = 7 → 1 ≤ st.length → Way x st
  | l8 : x.op = 8 → st.length < 2 → Way x st
  | h8 : x.op = 8 → 2 ≤ st.length → Way x st
  | o9 : x.op = 9 → Way x st
  | l10 : x.op = 10 → st.length = 0 → Way x st
  | h10 : x.op = 10 → 1 ≤ st.length → Way x st
inductive Plc (a : An) (z : Int) (b : Bool) (st : List Tm) : Prop
  | out : dd a.code.length z = false → Plc a z b st
  | pt0 : dd a.code.length z = true → (!b && decide (0 ≤ dr a.pts z)) = true → st.length = 0 → Plc a z b st
  | ptn : dd a.code.length z = true → (!b && decide (0 ≤ dr a.pts z)) = true → 0 < st.length → Plc a z b st
  | halt : dd a.code.length z = true → (!b && decide (0 ≤ dr a.pts z)) = false → (a.code.getD z.toNat default).op = 11 → Plc a z b st
  | l6 : dd a.code.length z = true → (!b && decide (0 ≤ dr a.pts z)) = false → (a.code.getD z.toNat default).op = 6 → st.length = 0 → Plc a z b st
  | h6 : dd a.code.length z = true → (!b && decide (0 ≤ dr a.pts z)) = false → (a.code.getD z.toNat default).op = 6 → 1 ≤ st.length → Plc a z b st
  | leaf : dd a.code.length z = true → (!b && decide (0 ≤ dr a.pts z)) = false → (a.code.getD z.toNat default).op ≠ 11 → (a.code.getD z.toNat default).op ≠ 6 → Way (a.code.getD z.toNat default) st → Plc a z b st
theorem wX {x : In} (h : aT x = true) : 0 ≤ x.op ∧ x.op ≤ 11 := by
 unfold aT at h
 split at h
 omega
 split at h
 omega
 split at h
 omega
 split at h
 omega
 split at h
 omega
 cases h
theorem sT {x : In} {st : List Tm} (h : aT x = true) (h11 : x.op ≠ 11) (h6 : x.op ≠ 6) : Way x st := by
 have hop := wX h
 by_cases e0 : x.op = 0
 exact .o0 e0
 by_cases e1 : x.op = 1
 exact .o1 e1
 by_cases e5 : x.op = 5
 exact .o5 e5
 by_cases e9 : x.op = 9
 exact .o9 e9
 by_cases s0 : st.length = 0
 by_cases e2 : x.op = 2
 exact .l2 e2 s0
 by_cases e3 : x.op = 3
 exact .l3 e3 (by omega)
 by_cases e4 : x.op = 4
 exact .l4 e4 s0
 by_cases e7 : x.op = 7
 exact .l7 e7 s0
 by_cases e8 : x.op = 8
 exact .l8 e8 (by omega)
 exact .l10 (by omega) s0
 by_cases e2 : x.op = 2
 exact .h2 e2 (by omega)
 by_cases e4 : x.op = 4
 exact .h4 e4 (by omega)
 by_cases e7 : x.op = 7
 exact .h7 e7 (by omega)
 by_cases e10 : x.op = 10
 exact .h10 e10 (by omega)
 by_cases s1 : st.length < 2
 by_cases e3 : x.op = 3
 exact .l3 e3 s1
 exact .l8 (by omega) s1
 by_cases e3 : x.op = 3
 exact .h3 e3 (by omega)
 exact .h8 (by omega) (by omega)
theorem s7 {a : An} (ha : ∀ x ∈ a.code, aT x = true) {z : Int} {b : Bool} {st : List Tm} : Plc a z b st := by
 cases hi : dd a.code.length z with
 | false => exact .out hi
 | true =>
  have hin := tj.1 hi
  cases hp : (!b && decide (0 ≤ dr a.pts z)) with
  | true =>
   by_cases s0 : st.length = 0
   exact .pt0 hi hp s0
   exact .ptn hi hp (by omega)
  | false =>
   have hx : aT (a.code.getD z.toNat default) = true := by rw [aw (by omega)]; exact ha _ (List.getElem_mem (by omega))
   by_cases h11 : (a.code.getD z.toNat default).op = 11
   exact .halt hi hp h11
   by_cases h6 : (a.code.getD z.toNat default).op = 6
   by_cases s0 : st.length = 0
   exact .l6 hi hp h6 s0
   exact .h6 hi hp h6 (by omega)
   exact .leaf hi hp h11 h6 (sT hx h11 h6)
structure CX where
  n : Nat
  z : Int
  b : Bool
  w : Pw
  st : List Tm
  g : Gs
structure CI (a : An) (frm : Int) (N : Nat) (G : Gs) (x : CX) : Prop where
  fu : FuOk a x.n x.z x.b
  le : x.n ≤ N
  hN : N ≤ 100
  w : x.g.bad = false → CW x.n x.w x.st
  g : x.g.bad = false → GC x.n x.g
  eq : dD iq a frm x.n x.z x.b x.w x.st x.g = G
theorem CI.leaf {a : An} {frm : Int} {N n : Nat} {G : Gs} {z : Int} {b : Bool} {w : Pw} {st : List Tm} {g : Gs} {x : In} (hcl : cL a = true) (hxi : aT x = true) (h : CI a frm N G ⟨n + 1, z, b, w, st, g⟩) (hb : g.bad = false) (hi : dd a.code.length z = true) (hp : (!b && decide (0 ≤ dr a.pts z)) = false)
    (hx : a.code.getD z.toNat default = x) (h11 : x.op ≠ 11) (h6 : x.op ≠ 6) : CI a frm N G ⟨n, i2 x z, false, (bZ x w st g).w, (bZ x w st g).st, (bZ x w st g).g⟩ := by
 subst hx
 have hn : n + 1 ≤ N := h.le
 have hN := h.hN
 refine ⟨h.fu.step hcl hi hp (ru hi h11 h6), by show n ≤ N; omega, h.hN, fun hq => (h.w hb).leaf hxi hq, fun _ => (h.g hb).more (show n + 1 ≤ 100 by omega) w8.1 w8.2.1 w8.2.2, ?_⟩
 have e := h.eq
 show dD iq a frm n _ false (bZ _ w st g).w (bZ _ w st g).st (bZ _ w st g).g = G
 rw [← e, fg hb hi hp h11 h6]
 rfl
end Go.Al
