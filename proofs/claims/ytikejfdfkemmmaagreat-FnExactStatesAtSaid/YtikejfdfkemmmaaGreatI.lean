/- The program's functions for paths of code. -/
import Derived.Test.YtikejfdfkemmmaaGreatG
import Derived.Test.YtikejfdfkemmmaaGreatH
import Derived.Test.YtikejfdfkemmmaaGreatC
set_option linter.unusedVariables false
set_option linter.unusedSimpArgs false
set_option maxRecDepth 10000
set_option maxHeartbeats 4000000
open Go.Proofs
namespace Go.Al
variable {L : Nat} (h1 : 4096 ≤ L) (h2 : L ≤ 1073741824)
abbrev aIn (x : In) : A := .agg (x.cells.map .d)
variable {x : In}
theorem zr : MQ h1 h2 139 [aIn x] [] (Plain (.tup [eI (mv x).1, eI (mv x).2])) := by
 refine MC.data (jB 20 h1 h2 Tryz.func139 Z Z Z fun O hF => ?_)
 refine ac (jx O Z (ao ?_))
 refine AOps.to (Ent.freeze 1 (e' := [(1, _), (0, _)]) Z (.cons Z (.c (.box (cs := In.cells x) Z (aq Z))) (fe [0] Z)) (.skip .nil)) ?_
 refine ao ?_
 refine j2 O Z Z (jn (af (ac (j2 O Z Z (jn (am (af (ac (j2 O Z Z (jn (ab O Z Z (fun hc6 => ?_) (fun hc6 => ?_))))))))))))
 try simp only [aN] at hc6
 refine ah (ab O Z Z (fun hc6 => ?_) (fun hc6 => ?_))
 try simp only [aN] at hc6
 refine ac (j2 O Z Z (jr ?_))
 refine ⟨.inl Z, _, ak, _, Z, ?_⟩
 rw [show mv x = (0, 1) by unfold mv; simp_all]
 exact .tup (.cons (.c .d) (.cons (.c .d) .nil))
 try simp only [aN] at hc6
 contradiction
 try simp only [aN] at hc6
 refine aj (j2 O Z Z (jn (ab O Z Z (fun hc6 => ?_) (fun hc6 => ?_))))
 try simp only [aN] at hc6
 refine ac (j2 O Z Z (jr ?_))
 refine ⟨.inl Z, _, ak, _, Z, ?_⟩
 rw [show mv x = (0, 1) by unfold mv; simp_all]
 exact .tup (.cons (.c .d) (.cons (.c .d) .nil))
 try simp only [aN] at hc6
 refine af (ac (j2 O Z Z (jn (ab O Z Z (fun hc9 => ?_) (fun hc9 => ?_)))))
 try simp only [aN] at hc9
 refine ah (ab O Z Z (fun hc9 => ?_) (fun hc9 => ?_))
 try simp only [aN] at hc9
 refine ac (j2 O Z Z (jr ?_))
 refine ⟨.inl Z, _, ak, _, Z, ?_⟩
 rw [show mv x = (1, 0) by unfold mv; simp_all]
 exact .tup (.cons (.c .d) (.cons (.c .d) .nil))
 try simp only [aN] at hc9
 contradiction
 try simp only [aN] at hc9
 refine ac (j2 O Z Z (jn (ab O Z Z (fun hc9 => ?_) (fun hc9 => ?_))))
 try simp only [aN] at hc9
 refine ah (ab O Z Z (fun hc9 => ?_) (fun hc9 => ?_))
 try simp only [aN] at hc9
 refine ac (j2 O Z Z (jr ?_))
 refine ⟨.inl Z, _, ak, _, Z, ?_⟩
 rw [show mv x = (1, 0) by unfold mv; simp_all]
 exact .tup (.cons (.c .d) (.cons (.c .d) .nil))
 try simp only [aN] at hc9
 contradiction
 try simp only [aN] at hc9
 refine aj (j2 O Z Z (jn (ab O Z Z (fun hc9 => ?_) (fun hc9 => ?_))))
 try simp only [aN] at hc9
 refine ac (j2 O Z Z (jr ?_))
 refine ⟨.inl Z, _, ak, _, Z, ?_⟩
 rw [show mv x = (1, 0) by unfold mv; simp_all]
 exact .tup (.cons (.c .d) (.cons (.c .d) .nil))
 try simp only [aN] at hc9
 refine ac (j2 O Z Z (jn (ab O Z Z (fun hc13 => ?_) (fun hc13 => ?_))))
 try simp only [aN] at hc13
 refine ac (j2 O Z Z (jr ?_))
 refine ⟨.inl Z, _, ak, _, Z, ?_⟩
 rw [show mv x = (2, 1) by unfold mv; simp_all]
 exact .tup (.cons (.c .d) (.cons (.c .d) .nil))
 try simp only [aN] at hc13
 refine af (ac (j2 O Z Z (jn (ab O Z Z (fun hc15 => ?_) (fun hc15 => ?_)))))
 try simp only [aN] at hc15
 refine ah (ab O Z Z (fun hc15 => ?_) (fun hc15 => ?_))
 try simp only [aN] at hc15
 refine ac (j2 O Z Z (jr ?_))
 refine ⟨.inl Z, _, ak, _, Z, ?_⟩
 rw [show mv x = (1, 1) by unfold mv; simp_all]
 exact .tup (.cons (.c .d) (.cons (.c .d) .nil))
 try simp only [aN] at hc15
 contradiction
 try simp only [aN] at hc15
 refine aj (j2 O Z Z (jn (ab O Z Z (fun hc15 => ?_) (fun hc15 => ?_))))
 try simp only [aN] at hc15
 refine ac (j2 O Z Z (jr ?_))
 refine ⟨.inl Z, _, ak, _, Z, ?_⟩
 rw [show mv x = (1, 1) by unfold mv; simp_all]
 exact .tup (.cons (.c .d) (.cons (.c .d) .nil))
 try simp only [aN] at hc15
 refine ac (j2 O Z Z (jn (ab O Z Z (fun hc18 => ?_) (fun hc18 => ?_))))
 try simp only [aN] at hc18
 refine ac (j2 O Z Z (jr ?_))
 refine ⟨.inl Z, _, ak, _, Z, ?_⟩
 rw [show mv x = (2, 0) by unfold mv; simp_all]
 exact .tup (.cons (.c .d) (.cons (.c .d) .nil))
 try simp only [aN] at hc18
 refine ah (ac (j2 O Z Z (jr ?_)))
 refine ⟨.inl Z, _, ak, _, Z, ?_⟩
 rw [show mv x = (0, 0) by unfold mv; simp_all]
 exact .tup (.cons (.c .d) (.cons (.c .d) .nil))
theorem vG {c : List In} (hcb : eo c = true) (h80 : c.length ≤ 80) (h0n : 0 < c.length) : MQ h1 h2 122 [jT c] [] (Rows (sv (f9 c qT)) (su (f9 c qT))) := by
 refine bh (jB 106 h1 h2 Tryz.func122 Z Z Z fun O hF => ?_)
 refine ac (j2 O Z Z (jn (af (ac (js O Z (ae O Z Z Z Z ((yq (c := c) h1 h2).plain (u := eB true) (by rw [hcb])) (aa Z) Z Z Z Z Z (B0 := 16000) Z (js O Z (jf [16,3,2,0] Z (jn (ab O Z Z (fun hc16 => ?_) (fun hc16 => ?_)))))))))))
 cases hc16
 refine ah (ac (js O Z ?_))
 first | refine bo O Z ?_ | refine js O Z ?_ | refine aU O Z Z ?_
 refine jf [18,3,2,0] Z (AOps.heap (cd O Z Z Z Z Z Z Z Z Z (by first | omega | (simp at *; omega)) (by first | omega | (simp at *; omega)) (by first | omega | (simp at *; omega)) (by first | omega | (dsimp only; omega) | (simp only [aN] at *; omega)) (by first | omega | (simp at *; omega)) Z Z Z) Z (ao ?_))
 refine js O Z (jf [4,3,2,0] Z (jn (af (ac (js O Z ?_)))))
 first | refine bo O Z ?_ | refine js O Z ?_ | refine aU O Z Z ?_
 refine js O Z (jn (am (ap (X := Nat) (fun i => ⟨[(0, jT c), (4, .c (.rs 19 0 c.length)), (21, eI c.length), (22, eI i)], [(19, aD (dX c.length i))]⟩) (fun i => i ≤ c.length) (fun i => c.length - i) 0 (Ent.to ⟨Z, Z, Z, Z, trivial⟩ (by rw [lV, aD, List.map_replicate]; rfl)) ?_ (fun i hi => ?_))))
 exact cm _
 refine ac (js O Z (jn (af (ab O Z Z (fun hc23 => ?_) (fun hc23 => ?_)))))
 refine ah (af (am (ac (j2 O Z Z (jn (aj (j2 O Z Z ?_)))))))
 have hil : i < c.length := by have := aR hc23; omega
 have hfl := ic (n := c.length) (i := i) (by omega)
 refine AOps.step (aO O Z Z (by omega)) Z Z Z (jf [27,24,23,0,4,21,22] Z (AOps.heap (bd (ex := [.int .i64 ((dX c.length i).getD i default)]) (xs' := (dX c.length (i + 1)).map (fun n => [D.int .i64 n])) O Z Z Z Z Z Z Z Z Z Z Z Z Z Z (fM (by omega) (by omega)) (by rw [← mQ hil]; exact t9 (by omega) Z)) Z (ao ?_)))
 refine ao ?_
 refine jn (aj ?_)
 first | refine ji O Z ?_ | refine aU O Z Z ?_
 refine js O Z (jn ?_)
 refine ⟨i + 1, Ent.to ⟨Z, Z, Z, Z, trivial⟩ Z, by omega, by omega⟩
 refine aQ (ac ?_)
 have hin : i = c.length := by have := bn hc23; omega
 have hfl := ic (n := c.length) (i := i) (by omega)
 refine js O Z (AOps.step (aO O Z Z (by omega)) Z Z Z (jf [30,23,0,4,21,22] Z (AOps.heap (bd (ex := [.int .i64 ((dX c.length i).getD 0 default)]) (xs' := (ry c.length).map (fun n => [D.int .i64 n])) O Z Z Z Z Z Z Z Z Z Z Z Z Z Z (fM (by omega) (by omega)) (by rw [hin, mR]; exact t9 (by omega) Z)) Z (ao ?_))))
 refine ao ?_
 refine jn (af (ac (AOps.heap (aZ O Z Z Z) Z (ao ?_))))
 refine js O Z (jn (am (ap (X := List Int × List Int) (fun x => ⟨[(0, jT c), (4, .c (.rs 19 0 c.length)), (6, .c (.rs 901 0 x.2.length))], [(19, aD x.1), (901, aD x.2)]⟩) (fun x => HSr c qT x.1 x.2 ∧ x.2.length + eT x.1 ≤ c.length) (fun x => 2 * eT x.1 + x.2.length) (ry c.length, [0]) (((aw [19,31] (e' := [(0, _), (4, _), (6, _)]) Z Z ⟨Z, Z, Z, trivial⟩ Z).trans (ag 31 901 Z Z)).trans (Ent.to ⟨Z, Z, Z, trivial⟩ Z)) ?_ (fun x hi => ?_))))
 exact ⟨oH h0n, by have := mG h0n; show 1 + eT (ry c.length) ≤ _; omega⟩
 refine af (ac ?_)
 obtain ⟨u, e_u⟩ : ∃ u, u = x.1 := ⟨_, rfl⟩
 obtain ⟨ws, e_ws⟩ : ∃ ws, ws = x.2 := ⟨_, rfl⟩
 rw [← e_u, ← e_ws] at hi ⊢
 obtain ⟨kM, jM⟩ := hi
 have hul := kM.len
 refine js O Z ?_
 first | refine bo O Z ?_ | refine js O Z ?_ | refine aU O Z Z ?_
 refine js O Z (jf [34,0,4,6] Z (jn (ab O Z Z (fun hc34 => ?_) (fun hc34 => ?_))))
 refine ah (am (ac ?_))
 obtain ⟨w2, z, ez⟩ : ∃ w2 z, ws = w2 ++ [z] := by rcases List.eq_nil_or_concat ws with h9 | ⟨w2, z, h9⟩; rw [h9] at hc34; cases hc34; exact ⟨w2, z, by rw [h9, List.concat_eq_append]⟩
 rw [ez] at kM jM
 rw [c9, ij] at jM
 have hzz := kM.nn z (by simp)
 obtain ⟨k, rfl⟩ : ∃ k : Nat, z = (k : Int) := ⟨z.toNat, by omega⟩
 rw [ez, show (w2 ++ [(k : Int)]).length = w2.length + 1 by simp]
 have hdm : ∀ y, y ∈ w2 ++ [(k : Int)] ↔ y = (k : Int) ∨ y ∈ w2 := fun y => by rw [List.mem_append, List.mem_singleton]; exact Or.comm
 have hkm : (k : Int) ∈ w2 ++ [(k : Int)] := (hdm k).2 (.inl Z)
 obtain ⟨hkn, hk0, hkr, hkc⟩ := kM.mem hkm
 have hlo := kM.lo k hkn
 have hmv := dG (x := (c.getD k default))
 refine j2 O Z Z ?_
 first | refine bo O Z ?_ | refine js O Z ?_ | refine aU O Z Z ?_
 refine AOps.step ((az O Z Z (by omega) (by omega)).cast (v' := eI (w2.length : Nat)) (congrArg eI (by omega))) Z Z Z (AOps.step (aO O Z Z (by omega)) Z Z Z (AOps.step (av O (ex := [.int .i64 (k : Int)]) Z Z Z Z (by simp) Z) Z Z Z (js O Z (jf [7,34,0,4,6] Z (aP (j2 O Z Z ?_))))))
 first | refine bo O Z ?_ | refine js O Z ?_ | refine aU O Z Z ?_
 refine AOps.step ((az O Z Z (by omega) (by omega)).cast (v' := eI (w2.length : Nat)) (congrArg eI (by omega))) Z Z Z (AOps.step (f4 O Z Z Z Z Z Z Z Z Z Z (Nat.le_succ _)) Z Z Z (AOps.to (Ent.cut 901 w2.length Z) (ao ?_)))
 rw [qR]
 refine js O Z (jf [6,7,34,0,4] Z (aP (j2 O Z Z (AOps.step (aL O Z Z Z Z Z Z Z Z (cB hkn)) Z Z Z (js O Z (jf [50,6,7,34,0,4] Z (ax O Z Z Z Z (zr (x := (c.getD k default)) h1 h2) (aa Z) Z Z Z Z (B0 := 52000) Z Z (j4 O Z Z Z Z (js O Z (jf [9,8,6,7,34,0,4] Z (aP (j2 O Z Z (AOps.step (aO O Z Z (by omega)) Z Z Z (AOps.step (av O (ex := [.int .i64 (u.getD k default)]) Z Z Z Z (fM (by omega) (by omega)) Z) Z Z Z (js O Z ?_)))))))))))))))
 first | refine ji O Z ?_ | refine aU O Z Z ?_
 refine js O Z (jf [10,9,6,7,34,0,4] Z (aP (j2 O Z Z ?_)))
 first | refine ji O Z ?_ | refine aU O Z Z ?_
 refine js O Z (jf [11,10,6,7,34,0,4] Z (jn (af (af (c6 ⟨[(68, eB (bif decide (u.getD k default - (mv (c.getD k default)).1 < 0) then true else decide (6 < fN c u k))), (0, jT c), (4, .c (.rs 19 0 c.length)), (6, .c (.rs 901 0 w2.length)), (7, eI (k : Nat)), (11, eI (fN c u k))], [(19, aD u), (901, aD w2)]⟩ ?_ ?_)))))
 refine aj (j3 O Z Z Z ?_)
 cases hb66 : decide (u.getD k default - (mv (c.getD k default)).1 < 0) with
 | true =>
  refine jf [65,11,10,6,7,34,0,4] Z (AOps.skip Z Z Z Z Z Z (AOps.skip Z Z Z Z Z Z (AOps.step (ba O Z Z Z Z Z) Z Z Z (jf [68,11,10,6,7,34,0,4] Z (jn ?_)))))
  exact ⟨Z, (aw [19,901] (e' := [(68, _), (0, _), (4, _), (6, _), (7, _), (11, _)]) Z Z ⟨Z, Z, Z, Z, Z, Z, trivial⟩ Z).trans (Ent.to ⟨Z, Z, Z, Z, Z, Z, trivial⟩ Z)⟩
 | false =>
  refine jf [65,11,10,6,7,34,0,4] Z (bz Z (js O Z (bz Z (js O Z (AOps.step (aF O Z Z Z Z Z) Z Z Z (jf [68,11,10,6,7,34,0,4] Z (jn ?_)))))))
  exact ⟨Z, (aw [19,901] (e' := [(68, _), (0, _), (4, _), (6, _), (7, _), (11, _)]) Z Z ⟨Z, Z, Z, Z, Z, Z, trivial⟩ Z).trans (Ent.to ⟨Z, Z, Z, Z, Z, Z, trivial⟩ Z)⟩
 refine ab O Z Z (fun hc68 => ?_) (fun hc68 => ?_)
 refine ac (j2 O Z Z (jr ?_))
 have q3 := hc68
 rw [dZ (kM.nol hkm (fun h => by rw [decide_eq_false (show ¬ (u.getD k default - (mv (c.getD k default)).1 < 0) by omega), decide_eq_false (show ¬ 6 < fN c u k by omega)] at q3; cases q3))]
 refine ⟨.inl Z, _, ak, _, Z, [], by decide, Z, Z, Z⟩
 refine ah (ac ?_)
 obtain ⟨hq1, hq2⟩ := Ab hc68
 have hq1 := bn hq1
 have hq2 := bn hq2
 have htl := lg (x := (c.getD k default)) (k := k)
 refine j2 O Z Z (aI O (B0 := 72000) Z Z Z Z (v9 (c := c) (k := k) h1 h2 hkn (by omega)) (aa Z) Z Z Z Z Z Z (ao ?_))
 first | refine bo O Z ?_ | refine js O Z ?_ | refine aU O Z Z ?_
 refine js O Z (jf [73,72,71,68,0,4,6,7,11] Z (jn (am ?_)))
 obtain ⟨M, hM⟩ : ∃ M, M = tg (c.getD k default) k := ⟨_, rfl⟩
 have hM2 : M.length ≤ 2 := by rw [hM]; exact lg
 obtain ⟨B, hB⟩ : ∃ B, B = fN c u k := ⟨_, rfl⟩
 rw [← hM, ← hB]
 refine ap (X := List Int × List Int × Nat) (fun y => ⟨[(0, jT c), (4, .c (.rs 19 0 c.length)), (6, .c (.rs 903 0 y.2.1.length)), (11, eI B), (71, .c (.rs 72000 0 M.length)), (72, eI M.length), (73, eI (y.2.2 : Nat))], [(19, aD y.1), (903, aD y.2.1), (72000, aD M)]⟩) (fun y => HSi c qT y.1 y.2.1 M k y.2.2 ∧ y.2.1.length + 1 + eT y.1 ≤ c.length ∧ 2 * eT y.1 + y.2.1.length ≤ 2 * eT u + w2.length ∧ fN c y.1 k = B) (fun y => M.length - y.2.2) (u, w2, 0) (((aw [19,901,72000] (e' := [(0, _), (4, _), (6, _), (11, _), (71, _), (72, _), (73, _)]) Z Z ⟨Z, Z, Z, Z, Z, Z, Z, trivial⟩ Z).trans (ag 901 903 Z Z)).trans (Ent.to ⟨Z, Z, Z, Z, Z, Z, Z, trivial⟩ Z)) ?_ (fun y hi => ?_)
 exact ⟨kM.take hdm trivial (by omega) (by omega), by show w2.length + 1 + eT u ≤ _; omega, bw _, hB.symm⟩
 refine ac ?_
 obtain ⟨u2, e_u2⟩ : ∃ u2, u2 = y.1 := ⟨_, rfl⟩
 obtain ⟨v2, e_v2⟩ : ∃ v2, v2 = y.2.1 := ⟨_, rfl⟩
 obtain ⟨j, e_j⟩ : ∃ j, j = y.2.2 := ⟨_, rfl⟩
 rw [← e_u2, ← e_v2, ← e_j] at hi ⊢
 obtain ⟨hj1, hj2, hj3, hj4⟩ := hi
 have hul2 := hj1.len
 have hBe := hj1.be
 refine js O Z (jn (af (ab O Z Z (fun hc74 => ?_) (fun hc74 => ?_))))
 refine ah (af (am (ac ?_)))
 have hjm : j < M.length := by have := aR hc74; omega
 obtain ⟨z, hz⟩ : ∃ z, z = M.getD j default := ⟨_, rfl⟩
 have hzt : z ∈ oU c k := by rw [hz, ar hjm]; show _ ∈ tg _ _; rw [← hM]; exact List.getElem_mem _
 refine AOps.step (aO O Z Z (by omega)) Z Z Z (AOps.step (av O (ex := [.int .i64 z]) Z Z Z Z (by rw [fM hjm (by omega), hz]) Z) Z Z Z (js O Z (jf [13,74,0,4,6,11,71,72,73] Z (jn (am (ac (j2 O Z Z ?_)))))))
 first | refine bo O Z ?_ | refine js O Z ?_ | refine aU O Z Z ?_
 refine jf [80,78,13,74,0,4,6,11,71,72,73] Z (ae O Z Z Z Z (sb (k := z) (n := c.length) h1 h2 (by omega)) (aa Z) Z Z Z Z Z (B0 := 82000) Z (j2 O Z Z (jf [77,13,74,0,4,6,11,71,72,73] Z (jn (ab O Z Z (fun hc77 => ?_) (fun hc77 => ?_))))))
 refine ac (j2 O Z Z (jr ?_))
 rw [dZ (hj1.nox hzt (fun h => by rw [(rc (z := z)).2 h] at hc77; cases hc77))]
 refine ⟨.inl Z, _, ak, _, Z, [], by decide, Z, Z, Z⟩
 refine ac ?_
 obtain ⟨hz0, hzn⟩ := (rc (z := z)).1 (gi hc77)
 refine j2 O Z Z (AOps.step (aO O Z Z (by omega)) Z Z Z (AOps.step (av O (ex := [.int .i64 (u2.getD z.toNat default)]) Z Z Z Z (fM (by omega) (by omega)) Z) Z Z Z (j2 O Z Z (jf [83,77,13,74,0,4,6,11,71,72,73] Z (jn (ab O Z Z (fun hc83 => ?_) (fun hc83 => ?_)))))))
 refine ac ?_
 have hzl := aR hc83
 have hzm : M.getD j default = z := hz.symm
 have hvn : v2.length ≤ 1000 := by omega
 refine j3 O Z Z Z (AOps.step (aO O Z Z (by omega)) Z Z Z (jf [92,91,83,77,13,74,0,4,6,11,71,72,73] Z (AOps.heap (bd (ex := [.int .i64 ((u2).getD z.toNat default)]) (xs' := (u2.set z.toNat B).map (fun n => [D.int .i64 n])) O Z Z Z Z Z Z Z Z Z Z Z Z Z Z (fM (by omega) (by omega)) (t9 (v := B) (by omega) Z)) Z (ao ?_))))
 refine ao ?_
 refine jf [83,77,13,74,0,4,6,11,71,72,73] Z (jn (aj (j2 O Z Z (AOps.heap (aZ O Z Z Z) Z (ao ?_)))))
 refine jf [95,93,83,77,13,74,0,4,6,11,71,72,73] Z (AOps.heap (bj (zs := (v2 ++ [z]).map fun n => [.int .i64 n]) (n := (v2 ++ [z]).length) O Z Z Z Z Z Z Z Z Z Z Z Z Z Z Z Z (.row Z (bt _).symm) Z Z (by decide) Z (by simp; omega) (by simp; omega) (by simp) (by simp)) Z (ao ?_))
 refine ao ?_
 refine js O Z (jf [6,83,77,13,74,0,4,11,71,72,73] Z (jn (aj ?_)))
 first | refine ji O Z ?_ | refine aU O Z Z ?_
 refine js O Z (jn ?_)
 have hng := ly (u := u2) (j := z.toNat) (v := B) (by omega) hzl (by rw [← hj4]; have := hj1.kk.2; have := dG (x := (c.getD k default)); show 0 ≤ _ - _ + _; omega)
 refine ⟨(u2.set z.toNat B, v2 ++ [z], j + 1), ((aw [19,96,72000] (e' := [(0, _), (4, _), (6, _), (11, _), (71, _), (72, _), (73, _)]) Z Z ⟨Z, Z, Z, Z, Z, Z, Z, trivial⟩ Z).trans (ag 96 903 Z Z)).trans (Ent.to ⟨Z, Z, Z, Z, Z, Z, Z, trivial⟩ Z), ⟨?_, ?_, ?_, ?_⟩, by show M.length - (j + 1) < M.length - j; omega⟩
 rw [← hj4]; exact hj1.new hjm hzm hzt hz0 hzn hzl (fun y => by rw [List.mem_append, List.mem_singleton]; exact Or.comm)
 show (v2 ++ [z]).length + 1 + eT (u2.set z.toNat B) ≤ _; rw [c9, ij]; omega
 show 2 * eT (u2.set z.toNat B) + (v2 ++ [z]).length ≤ _; rw [c9, ij]; omega
 rw [← hj4]; exact hj1.bes hzl hz0 hzn
 refine ac ?_
 have hzg := bn hc83
 refine j2 O Z Z (AOps.step (aO O Z Z (by omega)) Z Z Z (AOps.step (av O (ex := [.int .i64 (u2.getD z.toNat default)]) Z Z Z Z (fM (by omega) (by omega)) Z) Z Z Z (j3 O Z Z Z (jf [97,83,77,13,74,0,4,6,11,71,72,73] Z (jn (ab O Z Z (fun hc97 => ?_) (fun hc97 => ?_)))))))
 refine ac (j2 O Z Z (jr ?_))
 rw [dZ (hj1.noe hzt hz0 hzn (by omega) (fun h => by rw [hj4] at h; rw [decide_eq_true h] at hc97; cases hc97))]
 refine ⟨.inl Z, _, ak, _, Z, [], by decide, Z, Z, Z⟩
 refine ah (aj ?_)
 first | refine ji O Z ?_ | refine aU O Z Z ?_
 refine js O Z (jn ?_)
 have hzB : (u2.getD z.toNat default) = B := by have h9 := hc97; cases hq : decide ((u2.getD z.toNat default) = B) with | true => exact aR hq | false => rw [hq] at h9; cases h9
 refine ⟨(u2, v2, j + 1), (aw [19,903,72000] (e' := [(0, _), (4, _), (6, _), (11, _), (71, _), (72, _), (73, _)]) Z Z ⟨Z, Z, Z, Z, Z, Z, Z, trivial⟩ Z).trans (Ent.to ⟨Z, Z, Z, Z, Z, Z, Z, trivial⟩ Z), ⟨hj1.old hjm hz.symm hz0 hzn (hzB.trans hj4.symm), hj2, hj3, hj4⟩, by show M.length - (j + 1) < M.length - j; omega⟩
 refine aQ ?_
 have hjm : M.length ≤ j := by have := bn hc74; omega
 refine ⟨(u2, v2), ((aw [19,903] (e' := [(0, _), (4, _), (6, _)]) Z Z ⟨Z, Z, Z, trivial⟩ Z).trans (ag 903 901 Z Z)).trans (Ent.to ⟨Z, Z, Z, trivial⟩ Z), ⟨hj1.end_ hjm (fun y hy => by rw [hM]; exact hy), by show v2.length + eT u2 ≤ _; omega⟩, by show 2 * eT u2 + v2.length < 2 * eT u + (w2.length + 1); omega⟩
 refine aQ (ac (j3 O Z Z Z (jr ?_)))
 have hw0 : ws = [] := by cases ws with | nil => rfl | cons z w2 => have h9 : ¬ (0 : Int) < ((z :: w2).length : Nat) := bn hc34; rw [jI] at h9; omega
 rw [hw0] at kM
 rw [jv kM.done]
 refine ⟨.inl Z, _, ak, _, by rw [← hul]; rfl, [19], by decide, Z, Z, Z⟩
variable {a : An}
theorem tY (hv : cK a = false) : MQ h1 h2 87 [aAn a] [] (Rows (.tup [.c (.d .nils), eB false]) []) := by
 refine bh (jB 34 h1 h2 Tryz.func87 Z Z Z fun O hF => ?_)
 refine ac (jx O Z (ao ?_))
 refine AOps.to (Ent.freeze 1 (e' := [(1, _), (0, _)]) Z (.cons Z (.c (.box (cs := a.data) Z (aq Z))) (fe [0] Z)) (.skip .nil)) ?_
 refine ao ?_
 refine j2 O Z Z (jn (af (ac (js O Z (ae O Z Z Z Z ((Af (a := a) h1 h2).plain (u := eB false) (by rw [hv])) (aa Z) Z Z Z Z Z (B0 := 10000) Z (js O Z (jf [10,3,2,1,0] Z (jn (ab O Z Z (fun hc10 => ?_) (fun hc10 => ?_))))))))))
 refine ac (j2 O Z Z (jr ?_))
 refine ⟨.inl Z, _, ak, _, Z, [], by decide, Z, Z, Z⟩
 cases hc10
theorem u4 (hv : cK a = true) (hq : f9 a.code qT = none) : MQ h1 h2 87 [aAn a] [] (Rows (sv (f9 a.code (qP a.pts))) (su (f9 a.code (qP a.pts)))) := by
 refine bh (jB 34 h1 h2 Tryz.func87 Z Z Z fun O hF => ?_)
 have hva := fV hv
 have h85 := vG (c := a.code) h1 h2 (by simp only [cK, bF] at hv; exact hv.1) hva.ok.len hva.n0
 rw [hq] at h85
 refine ac (jx O Z (ao ?_))
 refine AOps.to (Ent.freeze 1 (e' := [(1, _), (0, _)]) Z (.cons Z (.c (.box (cs := a.data) Z (aq Z))) (fe [0] Z)) (.skip .nil)) ?_
 refine ao ?_
 refine j2 O Z Z (jn (af (ac (js O Z (ae O Z Z Z Z ((Af (a := a) h1 h2).plain (u := eB true) (by rw [hv])) (aa Z) Z Z Z Z Z (B0 := 10000) Z (js O Z (jf [10,3,2,1,0] Z (jn (ab O Z Z (fun hc10 => ?_) (fun hc10 => ?_))))))))))
 cases hc10
 refine ah (ac (j2 O Z Z (jf [13,3,2,1,0] Z (aI O (B0 := 15000) Z Z Z Z (h85) (aa Z) Z Z Z Z Z Z (ao ?_)))))
 refine j4 O Z Z Z Z (js O Z (jf [5,4,3,2,1,0] Z (jn (af (ac (j2 O Z Z (jf [18,4,3,2,1,0] Z (jn (ab O Z Z (fun hc18 => ?_) (fun hc18 => ?_))))))))))
 refine ac (j2 O Z Z (jr ?_))
 rw [tL hq]
 refine ⟨.inl Z, _, ak, _, Z, [], by decide, Z, Z, Z⟩
 cases hc18
theorem u3 (hv : cK a = true) {h : List Int} (hq : f9 a.code qT = some h) : MQ h1 h2 87 [aAn a] [] (Rows (sv (f9 a.code (qP a.pts))) (su (f9 a.code (qP a.pts)))) := by
 refine bh (jB 34 h1 h2 Tryz.func87 Z Z Z fun O hF => ?_)
 have hva := fV hv
 have h85 := vG (c := a.code) h1 h2 (by simp only [cK, bF] at hv; exact hv.1) hva.ok.len hva.n0
 rw [hq] at h85
 have hhl := (s9 hq).len
 have h80 := hva.ok.len
 have h8 := hva.ok.np
 have hpp := uT (ps := a.pts) (fun p hp => (hva.pts p hp).2) hq
 refine ac (jx O Z (ao ?_))
 refine AOps.to (Ent.freeze 1 (e' := [(1, _), (0, _)]) Z (.cons Z (.c (.box (cs := a.data) Z (aq Z))) (fe [0] Z)) (.skip .nil)) ?_
 refine ao ?_
 refine j2 O Z Z (jn (af (ac (js O Z (ae O Z Z Z Z ((Af (a := a) h1 h2).plain (u := eB true) (by rw [hv])) (aa Z) Z Z Z Z Z (B0 := 10000) Z (js O Z (jf [10,3,2,1,0] Z (jn (ab O Z Z (fun hc10 => ?_) (fun hc10 => ?_))))))))))
 cases hc10
 refine ah (ac (j2 O Z Z (jf [13,3,2,1,0] Z (aI O (B0 := 15000) Z Z Z Z (h85) (aa Z) Z Z Z Z Z Z (ao ?_)))))
 refine j4 O Z Z Z Z (js O Z (jf [5,4,3,2,1,0] Z (jn (af (ac (j2 O Z Z (jf [18,4,3,2,1,0] Z (jn (ab O Z Z (fun hc18 => ?_) (fun hc18 => ?_))))))))))
 cases hc18
 refine ah (af (ac (j2 O Z Z ?_)))
 first | refine bo O Z ?_ | refine js O Z ?_ | refine aU O Z Z ?_
 refine js O Z (jf [22,21,20,4,3,2,1,0] Z (jn (am (ap (X := Nat) (fun i => ⟨[(4, .c (.rs 15000 0 h.length)), (20, .c (.d (gc a.pts))), (21, eI a.pts.length), (22, eI i)], [(15000, aD h)]⟩) (fun i => i ≤ a.pts.length ∧ ∀ j (hj : j < a.pts.length), j < i → h.getD a.pts[j].k.toNat default ≤ 0) (fun i => a.pts.length - i) 0 ((aw [15000] (e' := [(4, _), (20, _), (21, _), (22, _)]) Z Z ⟨Z, Z, Z, Z, trivial⟩ Z).trans (Ent.to ⟨Z, Z, Z, Z, trivial⟩ Z)) ?_ (fun i hi => ?_)))))
 exact ⟨cm _, fun j h hj => absurd hj (Nat.not_lt_zero j)⟩
 refine ac (js O Z (jn (af (ab O Z Z (fun hc23 => ?_) (fun hc23 => ?_)))))
 refine ah (af (am (ac ?_)))
 have hil : i < a.pts.length := by have := aR hc23; omega
 have hpk := (hva.pt hil).2
 refine AOps.step (aL O Z Z Z Z Z Z Z Z (cB hil)) Z Z Z (js O Z (jf [25,23,4,20,21,22] Z (jl O Z (ao ?_))))
 refine jo O Z (ao ?_)
 refine aP (j3 O Z Z Z (AOps.step (aO O Z Z (by omega)) Z Z Z (AOps.step (av O (ex := [.int .i64 (h.getD (a.pts.getD i default).k.toNat default)]) Z Z Z Z (fM (by omega) (by omega)) Z) Z Z Z (js O Z (jf [31,7,25,23,4,20,21,22] Z (jn (ab O Z Z (fun hc31 => ?_) (fun hc31 => ?_))))))))
 refine ac (j2 O Z Z (jr ?_))
 rw [hpp, if_neg (fun g => by have h9 := aR hc31; have h7 := g _ (List.getElem_mem hil); rw [← ar hil] at h7; omega)]
 refine ⟨.inl Z, _, ak, _, Z, [], by decide, Z, Z, Z⟩
 refine ah (aj ?_)
 first | refine ji O Z ?_ | refine aU O Z Z ?_
 refine js O Z (jn ?_)
 refine ⟨i + 1, (aw [15000] (e' := [(4, _), (20, _), (21, _), (22, _)]) Z Z ⟨Z, Z, Z, Z, trivial⟩ Z).trans (Ent.to ⟨Z, Z, Z, Z, trivial⟩ Z), ⟨by omega, fun j h hj => ?_⟩, by omega⟩
 by_cases e : j = i
 subst e; rw [← ar h]; exact Int.not_lt.1 (bn hc31)
 exact hi.2 j h (by omega)
 refine aQ (ac (j3 O Z Z Z (jr ?_)))
 have hin : i = a.pts.length := by have := bn hc23; omega
 rw [hpp, if_pos (fun p hp => by obtain ⟨j, hj, rfl⟩ := List.getElem_of_mem hp; exact hi.2 j hj (by omega))]
 refine ⟨.inl Z, _, ak, _, Z, [15000], by decide, Z, Z, Z⟩
theorem qE {L : Nat} (h1 : 4096 ≤ L) (h2 : L ≤ 1073741824) {a : An} (hv : cK a = true) : MC Tryz.prog L 87 [aAn a] [] (Rows (sv (f9 a.code (qP a.pts))) (su (f9 a.code (qP a.pts)))) := by
 cases hq : f9 a.code qT with
 | none => exact u4 h1 h2 hv hq
 | some h => exact u3 h1 h2 hv hq
def nK (a : An) (M : List Int) (i : Nat) : List Int := (M.take i).filter (fun z => dk a.code.length z && !dB a.pts z)
theorem oD {a : An} {M : List Int} {i : Nat} (h : i < M.length) : nK a M (i + 1) = if (dk a.code.length (M.getD i default) && !dB a.pts (M.getD i default)) = true then nK a M i ++ [M.getD i default] else nK a M i := by
 unfold nK
 rw [List.take_succ_eq_append_getElem h, List.filter_append, ar h]
 cases hq : (dk a.code.length M[i] && !dB a.pts M[i])
 rw [if_neg (by decide), List.filter_cons_of_neg (by rw [hq]; decide)]; simp
 rw [if_pos Z, List.filter_cons_of_pos (by rw [hq]), List.filter_nil]
theorem u5 {a : An} {M : List Int} {i : Nat} : (nK a M i).length ≤ i := Nat.le_trans (List.length_filter_le _ _) (by rw [List.length_take]; exact Nat.min_le_left _ _)
theorem ri {a : An} {k : Nat} : (iC a k).length ≤ 2 := Nat.le_trans (List.length_filter_le _ _) lg
theorem tq {a : An} {k : Nat} : ∀ y ∈ iC a k, 0 ≤ y ∧ y < a.code.length := fun y hy => (z9.1 hy).2.1
theorem uE {ps : List Pt} {k : Int} : decide (dC ps k < 0) = !dB ps k := by
 rw [← gO]
 by_cases g : dC ps k < 0
 rw [decide_eq_true g, decide_eq_false (by omega)]; rfl
 rw [decide_eq_false g, decide_eq_true (by omega)]; rfl
theorem vE {k : Nat} (hk : k < a.code.length) (hc : a.code.length ≤ 1000) : MQ h1 h2 125 [aAn a, eI k] [] (Rows (.c (.rs 0 0 (iC a k).length)) [aD (iC a k)]) := by
 refine bh (jB 34 h1 h2 Tryz.func125 Z Z Z fun O hF => ?_)
 refine ac (jx O Z (ao ?_))
 refine AOps.to (Ent.freeze 2 (e' := [(2, _), (0, _), (1, _)]) Z (.cons Z (.c (.box (cs := a.data) Z (aq Z))) (fe [0,1] Z)) (.skip .nil)) ?_
 refine ao ?_
 refine js O Z (aP (js O Z (jn (af (ac (j2 O Z Z ?_))))))
 have htl := lg (x := (a.code.getD k default)) (k := k)
 refine js O Z (jf [10,9,5,4,2,0] Z (aI O (B0 := 12000) Z Z Z Z (v9 (c := a.code) (k := k) h1 h2 hk hc) (aa Z) Z Z Z Z Z Z (ao ?_)))
 first | refine bo O Z ?_ | refine js O Z ?_ | refine aU O Z Z ?_
 refine js O Z (jf [13,12,11,5,4,2,0] Z (jn (am ?_)))
 obtain ⟨M, hM⟩ : ∃ M, M = tg (a.code.getD k default) k := ⟨_, rfl⟩
 have hM2 : M.length ≤ 2 := by rw [hM]; exact lg
 rw [← hM]
 refine ap (X := Nat) (fun i => ⟨[(2, ptr a.data), (5, .c (.rs 900 0 (nK a M i).length)), (11, .c (.rs 12000 0 M.length)), (12, eI M.length), (13, eI (i : Nat))], [(900, aD (nK a M i)), (12000, aD M)]⟩) (fun i => i ≤ M.length) (fun i => M.length - i) 0 ((cw 5 900 1 true Z Z).trans ((aw [900,12000] (e' := [(2, _), (5, _), (11, _), (12, _), (13, _)]) Z Z ⟨Z, Z, Z, Z, Z, trivial⟩ Z).trans (Ent.to ⟨Z, Z, Z, Z, Z, trivial⟩ Z))) ?_ (fun i hi => ?_)
 exact cm _
 refine ac (js O Z (jn (af (ab O Z Z (fun hc14 => ?_) (fun hc14 => ?_)))))
 refine ah (af (am (ac ?_)))
 have hjm : i < M.length := by have := aR hc14; omega
 obtain ⟨z, hz⟩ : ∃ z, z = M.getD i default := ⟨_, rfl⟩
 have hbl := u5 (a := a) (M := M) (i := i)
 refine AOps.step (aO O Z Z (by omega)) Z Z Z (AOps.step (av O (ex := [.int .i64 z]) Z Z Z Z (by rw [fM hjm (by omega), hz]) Z) Z Z Z (js O Z (jf [7,14,2,5,11,12,13] Z (jn (af (c6 ⟨[(27, eB (bif dk a.code.length z then !dB a.pts z else false)), (7, eI z), (2, ptr a.data), (5, .c (.rs 900 0 (nK a M i).length)), (11, .c (.rs 12000 0 M.length)), (12, eI M.length), (13, eI (i : Nat))], [(900, aD (nK a M i)), (12000, aD M)]⟩ ?_ ?_))))))
 refine aj (j3 O Z Z Z ?_)
 first | refine bo O Z ?_ | refine js O Z ?_ | refine aU O Z Z ?_
 refine jf [20,17,7,14,2,5,11,12,13] Z (ae O Z Z Z Z ((sb (k := z) (n := a.code.length) h1 h2 (by omega)).plain (u := eB (dk a.code.length z)) Z) (aa Z) Z Z Z Z Z (B0 := 22000) Z (js O Z ?_))
 cases hb23 : dk a.code.length z with
 | true =>
  refine jf [22,7,14,2,5,11,12,13] Z (bz Z (js O Z (bz Z (js O Z (bz Z (ae O Z Z Z Z (nS (a := a) (k := z) h1 h2) (aa Z) Z Z Z Z Z (B0 := 26000) Z (jf [25,22,7,14,2,5,11,12,13] Z (bz Z (AOps.step ((V O Z).cast (v' := eB (!dB a.pts z)) (congrArg eB uE)) Z Z Z (AOps.step (ba O Z Z Z Z Z) Z Z Z (jf [27,7,14,2,5,11,12,13] Z (jn ?_))))))))))))
  exact ⟨Z, (aw [900,12000] (e' := [(27, _), (7, _), (2, _), (5, _), (11, _), (12, _), (13, _)]) Z Z ⟨Z, Z, Z, Z, Z, Z, Z, trivial⟩ Z).trans (Ent.to ⟨Z, Z, Z, Z, Z, Z, Z, trivial⟩ Z)⟩
 | false =>
  refine jf [22,7,14,2,5,11,12,13] Z (AOps.skip Z Z Z Z Z Z (AOps.skip Z Z Z Z Z Z (AOps.skip Z Z Z Z Z Z (jf [25,22,7,14,2,5,11,12,13] Z (AOps.skip Z Z Z Z Z Z (AOps.step (aF O Z Z Z Z Z) Z Z Z (jf [27,7,14,2,5,11,12,13] Z (jn ?_))))))))
  exact ⟨Z, (aw [900,12000] (e' := [(27, _), (7, _), (2, _), (5, _), (11, _), (12, _), (13, _)]) Z Z ⟨Z, Z, Z, Z, Z, Z, Z, trivial⟩ Z).trans (Ent.to ⟨Z, Z, Z, Z, Z, Z, Z, trivial⟩ Z)⟩
 refine ab O Z Z (fun hc27 => ?_) (fun hc27 => ?_)
 refine aj (j2 O Z Z (AOps.heap (aZ O Z Z Z) Z (ao ?_)))
 refine jf [30,28,27,7,2,5,11,12,13] Z (AOps.heap (bj (zs := (nK a M i ++ [z]).map fun n => [.int .i64 n]) (n := (nK a M i ++ [z]).length) O Z Z Z Z Z Z Z Z Z Z Z Z Z Z Z Z (.row Z (bt _).symm) Z Z (by decide) Z (by simp; omega) (by simp; omega) (by simp) (by simp)) Z (ao ?_))
 refine ao ?_
 refine js O Z (jf [5,27,7,2,11,12,13] Z (jn (aj ?_)))
 first | refine ji O Z ?_ | refine aU O Z Z ?_
 refine js O Z (jn ?_)
 have hx9 : nK a M (i + 1) = nK a M i ++ [z] := by rw [oD hjm, ← hz, if_pos (by obtain ⟨q1, q2⟩ := uo hc27; rw [q1, q2]; rfl)]
 refine ⟨i + 1, (((aw [31,12000] (e' := [(2, _), (5, _), (11, _), (12, _), (13, _)]) Z Z ⟨Z, Z, Z, Z, Z, trivial⟩ Z).trans (ag 31 900 Z Z))).trans (Ent.to ⟨Z, by rw [hx9]; rfl, Z, Z, Z, trivial⟩ (by rw [hx9]; rfl)), by omega, by omega⟩
 refine ah (aj ?_)
 first | refine ji O Z ?_ | refine aU O Z Z ?_
 refine js O Z (jn ?_)
 have hx9 : nK a M (i + 1) = nK a M i := by rw [oD hjm, ← hz, if_neg (by have h9 := hc27; intro g; rw [bF] at g; rw [g.1, g.2] at h9; cases h9)]
 refine ⟨i + 1, ((aw [900,12000] (e' := [(2, _), (5, _), (11, _), (12, _), (13, _)]) Z Z ⟨Z, Z, Z, Z, Z, trivial⟩ Z)).trans (Ent.to ⟨Z, by rw [hx9]; rfl, Z, Z, Z, trivial⟩ (by rw [hx9]; rfl)), by omega, by omega⟩
 refine aQ (ac (j2 O Z Z (jr ?_)))
 have hin : i = M.length := by have := bn hc14; omega
 rw [show iC a k = nK a M i by rw [hin, nK, List.take_length, hM]; rfl]
 refine ⟨.inl Z, _, ak, _, Z, [900], by decide, Z, Z, Z⟩
noncomputable def oR (a : An) (i : Nat) : List Bool := (bQ a).take i ++ List.replicate (a.code.length - i) false
theorem cO {a : An} : (bQ a).length = a.code.length := by simp [bQ]
theorem qX {a : An} {i : Nat} (h : i < a.code.length) : (bQ a)[i]'(by rw [cO]; exact h) = i2 a i := by simp [bQ]
theorem uK {a : An} {i : Nat} (h : i ≤ a.code.length) : (oR a i).length = a.code.length := by
 simp only [oR, c9, List.length_take, List.length_replicate, cO]; omega
theorem tG {a : An} : oR a 0 = List.replicate a.code.length false := by simp [oR]
theorem uL {a : An} : oR a a.code.length = bQ a := by
 unfold oR; rw [Nat.sub_self, List.replicate_zero, List.append_nil, List.take_of_length_le (by rw [cO]; exact bw _)]
theorem uJ {a : An} {i : Nat} (h : i < a.code.length) : (oR a i).set i (i2 a i) = oR a (i + 1) := by
 unfold oR
 obtain ⟨m, hm⟩ : ∃ m, a.code.length = i + 1 + m := ⟨a.code.length - (i + 1), by omega⟩
 have ht : ((bQ a).take i).length = i := by rw [List.length_take, cO]; omega
 rw [hm, show i + 1 + m - i = m + 1 by omega, show i + 1 + m - (i + 1) = m by omega, List.set_append_right _ _ (by omega), ht, Nat.sub_self, List.replicate_succ, List.set_cons_zero,
  List.take_succ_eq_append_getElem (by rw [cO]; exact h), qX h, er]; rfl
theorem tH {a : An} {i : Nat} (h : i < a.code.length) (hf : i2 a i = false) : oR a (i + 1) = oR a i := by
 unfold oR
 obtain ⟨m, hm⟩ : ∃ m, a.code.length = i + 1 + m := ⟨a.code.length - (i + 1), by omega⟩
 rw [hm, show i + 1 + m - i = m + 1 by omega, show i + 1 + m - (i + 1) = m by omega, List.replicate_succ, List.take_succ_eq_append_getElem (by rw [cO]; exact h), qX h, hf, er]; rfl
theorem t0 {n : Nat} : dN (List.replicate n false) = .row true 1 (List.replicate n [.bool false]) := congrArg (B.row true 1) List.map_replicate
theorem rj {u : List Bool} : u.all (!·) = !u.any (fun b => b) := by
 induction u with
 | nil => rfl
 | cons b u ih => rw [List.all_cons, List.any_cons, ih]; cases b <;> rfl
theorem sK (h80 : a.code.length ≤ 80) : MQ h1 h2 89 [aAn a] [] (Rows (.c (.rs 0 0 a.code.length)) [dN (bQ a)]) := by
 refine bh (jB 63 h1 h2 Tryz.func89 Z Z Z fun O hF => ?_)
 refine ac (jx O Z (ao ?_))
 refine AOps.to (Ent.freeze 1 (e' := [(1, _), (0, _)]) Z (.cons Z (.c (.box (cs := a.data) Z (aq Z))) (fe [0] Z)) (.skip .nil)) ?_
 refine ao ?_
 refine js O Z (aP (j2 O Z Z ?_))
 first | refine bo O Z ?_ | refine js O Z ?_ | refine aU O Z Z ?_
 refine jf [10,2,1,0] Z (AOps.heap (cd O Z Z Z Z Z Z Z Z Z (by first | omega | (simp at *; omega)) (by first | omega | (simp at *; omega)) (by first | omega | (simp at *; omega)) (by first | omega | (dsimp only; omega) | (simp only [aN] at *; omega)) (by first | omega | (simp at *; omega)) Z Z Z) Z (ao ?_))
 refine js O Z (jf [3,2,1,0] Z (jn (af (ac (js O Z ?_)))))
 first | refine bo O Z ?_ | refine js O Z ?_ | refine aU O Z Z ?_
 refine js O Z (jn (am (ap (X := Nat) (fun i => ⟨[(1, ptr a.data), (3, .c (.rs 11 0 a.code.length)), (13, eI a.code.length), (14, eI i)], [(11, dN (oR a i))]⟩) (fun i => i ≤ a.code.length) (fun i => a.code.length - i) 0 (Ent.to ⟨Z, Z, Z, Z, trivial⟩ (by rw [tG, dN, List.map_replicate]; rfl)) ?_ (fun i hi => ?_))))
 exact cm _
 refine ac (js O Z (jn (af (ab O Z Z (fun hc15 => ?_) (fun hc15 => ?_)))))
 refine ah (af (am (ac ?_)))
 have hil : i < a.code.length := by have := aR hc15; omega
 have hol := uK (a := a) (i := i) (by omega)
 refine j2 O Z Z (jn (af (ac (j2 O Z Z (ae O Z Z Z Z (nS (a := a) (k := (i : Int)) h1 h2) (aa Z) Z Z Z Z Z (B0 := 20000) Z (AOps.step ((V O Z).cast (v' := eB (dB a.pts (i : Int))) (congrArg eB gO)) Z Z Z (jf [20,4,16,15,1,3,13,14] Z (jn (ab O Z Z (fun hc20 => ?_) (fun hc20 => ?_))))))))))
 refine aQ (aj ?_)
 first | refine ji O Z ?_ | refine aU O Z Z ?_
 refine js O Z (jn ?_)
 refine ⟨i + 1, (aw [11] (e' := [(1, _), (3, _), (13, _), (14, _)]) Z Z ⟨Z, Z, Z, Z, trivial⟩ Z).trans (Ent.to ⟨Z, Z, Z, Z, trivial⟩ (by rw [tH hil (qY hc20)]; rfl)), by omega, by omega⟩
 refine ah (ac (js O Z ?_))
 first | refine bo O Z ?_ | refine js O Z ?_ | refine aU O Z Z ?_
 refine jf [22,20,4,16,15,1,3,13,14] Z (AOps.heap (cd O Z Z Z Z Z Z Z Z Z (by first | omega | (simp at *; omega)) (by first | omega | (simp at *; omega)) (by first | omega | (simp at *; omega)) (by first | omega | (dsimp only; omega) | (simp only [aN] at *; omega)) (by first | omega | (simp at *; omega)) Z Z Z) Z (ao ?_))
 refine js O Z (jf [5,20,4,16,15,1,3,13,14] Z (jn (af (ac (j2 O Z Z (aI O (B0 := 27000) Z Z Z Z (vE (a := a) (k := i) h1 h2 hil (by omega)) (aa Z) Z Z Z Z Z Z (ao ?_)))))))
 refine js O Z (jf [6,5,20,4,16,15,1,3,13,14] Z (jn (am ?_)))
 have hpt : dB a.pts (i : Int) = false := hc20
 have hbl0 := ri (a := a) (k := i)
 refine ap (X := List Bool × List Int) (fun x => ⟨[(1, ptr a.data), (3, .c (.rs 11 0 a.code.length)), (4, eI i), (5, .c (.rs 23 0 a.code.length)), (6, .c (.rs 901 0 x.2.length)), (13, eI a.code.length), (14, eI i)], [(11, dN (oR a i)), (23, dN x.1), (901, aD x.2)]⟩) (fun x => GR (iC a) a.code.length (iC a i) x.1 x.2 ∧ x.2.length + 3 * fd x.1 ≤ 3 * a.code.length + 2) (fun x => 3 * fd x.1 + x.2.length) (List.replicate a.code.length false, iC a i) (((aw [11,23,27000] (e' := [(1, _), (3, _), (4, _), (5, _), (6, _), (13, _), (14, _)]) Z Z ⟨Z, Z, Z, Z, Z, Z, Z, trivial⟩ Z).trans (ag 27000 901 Z Z)).trans (Ent.to ⟨Z, Z, Z, Z, Z, Z, Z, trivial⟩ (by show _ = [_, (23, dN (List.replicate a.code.length false)), _]; rw [t0]; rfl))) ?_ (fun x hi => ?_)
 exact ⟨GR.zero tq, by show (iC a i).length + 3 * fd (List.replicate a.code.length false) ≤ _; rw [rO]; omega⟩
 refine af (ac ?_)
 obtain ⟨u, e_u⟩ : ∃ u, u = x.1 := ⟨_, rfl⟩
 obtain ⟨ws, e_ws⟩ : ∃ ws, ws = x.2 := ⟨_, rfl⟩
 rw [← e_u, ← e_ws] at hi ⊢
 obtain ⟨kM, jM⟩ := hi
 have hul := kM.len
 have hwl : ws.length ≤ 400 := by omega
 have hcu : fd u ≤ a.code.length := by rw [← hul]; exact List.count_le_length
 refine js O Z ?_
 first | refine bo O Z ?_ | refine js O Z ?_ | refine aU O Z Z ?_
 refine js O Z (jf [29,1,3,4,5,6,13,14] Z (jn (ab O Z Z (fun hc29 => ?_) (fun hc29 => ?_))))
 refine ah (am (ac ?_))
 obtain ⟨w2, z, ez⟩ : ∃ w2 z, ws = w2 ++ [z] := by rcases List.eq_nil_or_concat ws with h9 | ⟨w2, z, h9⟩; rw [h9] at hc29; cases hc29; exact ⟨w2, z, by rw [h9, List.concat_eq_append]⟩
 rw [ez] at kM jM hwl
 rw [c9, ij] at jM hwl
 have hzz := kM.nn z (by simp)
 obtain ⟨k, rfl⟩ : ∃ k : Nat, z = (k : Int) := ⟨z.toNat, by omega⟩
 rw [ez, show (w2 ++ [(k : Int)]).length = w2.length + 1 by simp]
 have hkn : k < a.code.length := by omega
 refine j2 O Z Z ?_
 first | refine bo O Z ?_ | refine js O Z ?_ | refine aU O Z Z ?_
 refine AOps.step ((az O Z Z (by omega) (by omega)).cast (v' := eI (w2.length : Nat)) (congrArg eI (by omega))) Z Z Z (AOps.step (aO O Z Z (by omega)) Z Z Z (AOps.step (av O (ex := [.int .i64 (k : Int)]) Z Z Z Z (by simp) Z) Z Z Z (js O Z (jf [7,29,1,3,4,5,6,13,14] Z (aP (j2 O Z Z ?_))))))
 first | refine bo O Z ?_ | refine js O Z ?_ | refine aU O Z Z ?_
 refine AOps.step ((az O Z Z (by omega) (by omega)).cast (v' := eI (w2.length : Nat)) (congrArg eI (by omega))) Z Z Z (AOps.step (f4 O Z Z Z Z Z Z Z Z Z Z (Nat.le_succ _)) Z Z Z (AOps.to (Ent.cut 901 w2.length Z) (ao ?_)))
 rw [qR]
 refine js O Z (jf [6,7,29,1,3,4,5,13,14] Z (aP (j2 O Z Z (AOps.step (aO O Z Z (by omega)) Z Z Z (AOps.step (av O (ex := bL (u.getD k default)) Z Z Z Z (fM (by omega) (by omega)) Z) Z Z Z (js O Z (jf [45,6,7,29,1,3,4,5,13,14] Z (jn (ab O Z Z (fun hc45 => ?_) (fun hc45 => ?_))))))))))
 refine ac ?_
 have hc9 : u.getD k default = false := jQ hc45
 have hcs := oB (u := u) (j := k) (by omega) hc9
 have hbl := ri (a := a) (k := k)
 refine j2 O Z Z (AOps.step (aO O Z Z (by omega)) Z Z Z (jf [48,45,6,7,29,1,3,4,5,13,14] Z (AOps.heap (bd (ex := bL (u.getD k default)) (xs' := (u.set k true).map bL) O Z Z Z Z Z Z Z Z Z Z Z Z Z Z (fM (by omega) (by omega)) (t9 (v := true) (by omega) Z)) Z (ao ?_))))
 refine ao ?_
 refine jn (aj (j3 O Z Z Z (aI O (B0 := 53000) Z Z Z Z (vE (a := a) (k := k) h1 h2 hkn (by omega)) (aa Z) Z Z Z Z Z Z (ao ?_))))
 refine jf [52,49,48,45,6,7,29,1,3,4,5,13,14] Z (AOps.heap (bj (zs := (w2 ++ iC a k).map (fun n => [D.int .i64 n])) (n := (w2 ++ iC a k).length) O Z Z Z Z Z Z Z Z Z Z Z Z Z Z Z Z (.row Z (bt _).symm) Z (bt _).symm (by decide) Z (by simp only [bt]; omega) (by show _ * 8 ≤ _; simp only [bt]; omega) (by rw [List.map_append]) (bt _)) Z (ao ?_))
 refine ao ?_
 refine js O Z (jf [6,48,45,7,29,1,3,4,5,13,14] Z (jn ?_))
 have hin := GR.into (fun k _ => tq) kM (ws' := w2) (fun y => by rw [List.mem_append, List.mem_singleton]; exact Or.comm)
 refine ⟨(u.set k true, w2 ++ iC a k), ((aw [11,23,53] (e' := [(1, _), (3, _), (4, _), (5, _), (6, _), (13, _), (14, _)]) Z Z ⟨Z, Z, Z, Z, Z, Z, Z, trivial⟩ Z).trans (ag 53 901 Z Z)).trans (Ent.to ⟨Z, Z, Z, Z, Z, Z, Z, trivial⟩ Z), ⟨hin, ?_⟩, ?_⟩
 show (w2 ++ iC a k).length + 3 * fd (u.set k true) ≤ _
 rw [c9]; omega
 show 3 * fd (u.set k true) + (w2 ++ iC a k).length < 3 * fd u + (w2.length + 1)
 rw [c9]; omega
 refine ah ?_
 refine ⟨(u, w2), (aw [11,23,901] (e' := [(1, _), (3, _), (4, _), (5, _), (6, _), (13, _), (14, _)]) Z Z ⟨Z, Z, Z, Z, Z, Z, Z, trivial⟩ Z).trans (Ent.to ⟨Z, Z, Z, Z, Z, Z, Z, trivial⟩ Z), ⟨kM.out (z := (k : Int)) (ws' := w2) (fun y => by rw [List.mem_append, List.mem_singleton]; exact Or.comm) (by rw [Int.toNat_natCast]; exact gi hc45), by show w2.length + 3 * fd u ≤ _; omega⟩, by show 3 * fd u + w2.length < 3 * fd u + (w2.length + 1); omega⟩
 refine aQ (aj ?_)
 have hw0 : ws = [] := by cases ws with | nil => rfl | cons z w2 => have h9 : ¬ (0 : Int) < ((z :: w2).length : Nat) := bn hc29; rw [jI] at h9; omega
 rw [hw0] at kM
 have hO : u.getD i default = i2 a i := by rw [kM.done]; exact (nj hpt).symm
 refine j4 O Z Z Z Z (AOps.step (aO O Z Z (by omega)) Z Z Z (AOps.step (av O (ex := bL (u.getD i default)) Z Z Z Z (fM (by omega) (by omega)) Z) Z Z Z (AOps.step (aO O Z Z (by omega)) Z Z Z (jf [60,59,29,1,3,4,5,6,13,14] Z (AOps.heap (bd (ex := bL ((oR a i).getD i default)) (xs' := (oR a (i + 1)).map bL) O Z Z Z Z Z Z Z Z Z Z Z Z Z Z (fM (by omega) (by omega)) (by rw [← uJ hil]; exact t9 (v := i2 a i) (by omega) (by rw [hO]; rfl))) Z (ao ?_))))))
 refine ao ?_
 refine jf [29,1,3,4,5,6,13,14] Z (jn (aj ?_))
 first | refine ji O Z ?_ | refine aU O Z Z ?_
 refine js O Z (jn ?_)
 refine ⟨i + 1, (aw [11] (e' := [(1, _), (3, _), (13, _), (14, _)]) Z Z ⟨Z, Z, Z, Z, trivial⟩ Z).trans (Ent.to ⟨Z, Z, Z, Z, trivial⟩ Z), by omega, by omega⟩
 refine aQ (ac (j2 O Z Z (jr ?_)))
 have hin : i = a.code.length := by have := bn hc15; omega
 rw [hin, uL]
 refine ⟨.inl Z, _, ak, _, Z, [11], by decide, Z, Z, Z⟩
variable {u : List Bool}
theorem zt (hl : u.length ≤ 1000) : MQ h1 h2 123 [.c (.rs 0 0 u.length), eB true] [(0, dN u)] (bb (eI (qp (fun b => b) u)) [(0, dN u)]) := by
 refine aJ 500 Z (oG (jH 19 [500] h1 h2 Tryz.func123 Z Z Z Z fun O hF => ?_))
 refine ac (js O Z (jn (af (ac (js O Z ?_)))))
 first | refine bo O Z ?_ | refine js O Z ?_ | refine aU O Z Z ?_
 refine js O Z (jn (am (ap (X := Nat) (fun i => ⟨[(0, .c (.rs 500 0 u.length)), (1, eB true), (7, eI u.length), (8, eI i)], [(500, dN u)]⟩) (fun i => i ≤ u.length ∧ ∀ j (h : j < u.length), j < i → (fun b => b) u[j] = false) (fun i => u.length - i) 0 (Ent.to ⟨Z, Z, Z, Z, trivial⟩ Z) ?_ (fun i hi => ?_))))
 exact ⟨cm _, fun j h hj => absurd hj (Nat.not_lt_zero j)⟩
 refine ac (js O Z (jn (af (ab O Z Z (fun hc9 => ?_) (fun hc9 => ?_)))))
 refine ah (af (am (ac ?_)))
 have hil : i < u.length := by have := aR hc9; omega
 refine j2 O Z Z (aP (j3 O Z Z Z (AOps.step (aO O Z Z (by omega)) Z Z Z (AOps.step (av O (ex := bL (u.getD i default)) Z Z Z Z (fM (by omega) (by omega)) Z) Z Z Z (js O Z (jf [16,5,10,9,0,1,7,8] Z (jn (ab O Z Z (fun hc16 => ?_) (fun hc16 => ?_)))))))))
 refine ac (j2 O Z Z (jr ?_))
 refine ⟨.inl Z, _, ak, _, Z, ?_⟩
 refine ⟨?_, Z⟩
 rw [show qp (fun b => b) u = i from nd hil hi.2 (by rw [← ar hil]; cases hu : u.getD i default with | true => rfl | false => rw [hu] at hc16; exact absurd hc16 (by decide))]
 exact .v (.c .d)
 refine ah (aj ?_)
 first | refine ji O Z ?_ | refine aU O Z Z ?_
 refine js O Z (jn ?_)
 refine ⟨i + 1, Ent.to ⟨Z, Z, Z, Z, trivial⟩ Z, ⟨by omega, fun j h hj => ?_⟩, by omega⟩
 by_cases e : j = i
 subst e; show u[j] = false; rw [← ar h]; cases hu : u.getD j default with | false => rfl | true => rw [hu] at hc16; exact absurd hc16 (by decide)
 exact hi.2 j h (by omega)
 refine aQ (ac (js O Z (jr ?_)))
 refine ⟨.inl Z, _, ak, _, Z, ?_⟩
 refine ⟨?_, Z⟩
 have h9 := bn hc9
 rw [show qp (fun b => b) u = -1 from nc fun j hj => hi.2 j hj (by omega)]
 exact .v (.c .d)
theorem sL (hl : u.length ≤ 1000) : MQ h1 h2 88 [.c (.rs 0 0 u.length), eB true] [(0, dN u)] (bb (eB (u.any (fun b => b))) [(0, dN u)]) := by
 refine aJ 500 Z (oG (jH 9 [500] h1 h2 Tryz.func88 Z Z Z Z fun O hF => ?_))
 refine ac (js O Z (aP (j2 O Z Z (jf [6,5,4] Z (ay O [500] (bin := [dN u]) Z Z Z Z (zt (u := u) h1 h2 hl) Z Z Z Z Z Z (B0 := 8000) Z Z (ao ?_))))))
 refine AOps.step ((V O Z).cast (v' := eB (u.any (fun b => b))) (congrArg eB po)) Z Z Z (js O Z (jf [4] Z (jr ?_)))
 refine ⟨.inl Z, _, ak, _, Z, ?_⟩
 refine ⟨?_, Z⟩
 exact .v (.c .d)
variable {t : Tm}
theorem xz : MQ h1 h2 173 [cU t] [] (Rows (.tup [.agg [.d (.int .i64 (kZ t).1.c), .rs 0 0 (kZ t).1.xs.length], eB (kZ t).2]) [aD (kZ t).1.xs]) := by
 refine bh (jB 10 h1 h2 Tryz.func173 Z Z Z fun O hF => ?_)
 refine ac (jx O Z (ao ?_))
 refine jf [1] Z (jl O Z (ao ?_))
 refine js O Z (jn (af (ac (js O Z (ae O Z Z Z Z (mh (t := t) h1 h2) (aa Z) Z Z Z Z Z (B0 := 6000) Z (js O Z (jf [6,3,2,1] Z (jn (ab O Z Z (fun hc6 => ?_) (fun hc6 => ?_))))))))))
 refine ac (js O Z (jf [7,3,2,1] Z (jo O Z (ao ?_))))
 refine js O Z (jr ?_)
 have hok : t.ok = false := by simpa using hc6
 rw [show kZ t = (⟨0, []⟩, false) from if_neg (by rw [hok]; decide)]
 refine ⟨.inl Z, _, cE 2 900 1 true 1 Z Z Z, _, Z, [900], by decide, Z, Z, Z⟩
 refine ah (ac (js O Z (jf [8,3,2,1] Z (aI O (B0 := 10000) Z Z Z Z (qz (t := t) h1 h2) (aa Z) Z Z Z Z Z Z (ao ?_)))))
 refine jf [9,3,2,1] Z (jo O Z (ao ?_))
 refine js O Z (jr ?_)
 have hok : t.ok = true := by simpa using hc6
 rw [show kZ t = (t, true) from if_pos hok]
 refine ⟨.inl Z, _, ak, _, Z, [10000], by decide, Z, Z, Z⟩
theorem xA {vs : List Tm} (ht : t.ok = true) (hv : go vs 10 = true) (hle : t.xs.length ≤ vs.length) : MQ h1 h2 184 [cU t, cD vs] [] (Rows (.tup [.agg [.d (.int .i64 (eb t vs).1.c), .rs 0 0 (eb t vs).1.xs.length], eB (eb t vs).2]) [aD (eb t vs).1.xs]) := by
 refine bh (jB 64 h1 h2 Tryz.func184 Z Z Z fun O hF => ?_)
 have htl := pj ht
 refine ac (jx O Z (ao ?_))
 refine jf [2,1] Z (jl O Z (ao ?_))
 refine js O Z (jn (af (ac (js O Z (ae O Z Z Z Z (mh (t := t) h1 h2) (aa Z) Z Z Z Z Z (B0 := 13000) Z (j2 O Z Z (jf [14,5,4,2,1] Z (aS 3 Z Z Z (fun hx => AN.step hx Z Z Z (V O Z) Z Z ( dI O hx Z Z Z Z (A8 (ts := vs) (n := 10) h1 h2) (aa Z) Z Z Z Z Z Z Z (B0 := 17000) Z ( AN.step hx Z Z Z (V O Z) Z Z ( AN.nil)))) Z Z (AOps.step (aK O Z Z Z Z Z) Z Z Z (jf [18,5,4,2,1] Z (jn (ab O Z Z (fun hc18 => ?_) (fun hc18 => ?_)))))))))))))
 exact absurd hc18 (by rw [hv, ht]; decide)
 refine ah (ac (j3 O Z Z Z (jf [22,5,4,2,1] Z (AOps.heap (cH O Z Z Z Z Z Z Z Z Z Z Z) Z (ao ?_)))))
 refine AOps.to (Ent.rowLe 23 Z (.cons (.cons .refl (.cons (.nil (sz := 1)) .nil)) .nil)) (ao ?_)
 refine ao ?_
 refine jf [23,5,4,2,1] Z (AOps.heap (aZ O Z Z Z) Z (ao ?_))
 refine j2 O Z Z (jf [7,6,5,4,2,1] Z (jn (af (ac (j2 O Z Z (bo O Z (js O Z (jn (am (ap (X := Nat) (fun i => ⟨[(1, cD vs), (2, .c (.pt 2 0 0)), (4, .c (.pt 4 0 0)), (6, .c (.rs 906 0 (i + 1))), (7, .c (.rs 907 0 (i + 1))), (26, bM t.xs), (27, eI t.xs.length), (28, eI i)], [(2, .box [.d (.int .i64 t.c), .d (gj t.xs)]), (4, .box [.d (.int .i64 0), .d .nils]), (906, .row false 2 ((⟨t.c, []⟩ :: vs.take i).map Tm.cells)), (907, aD (1 :: t.xs.take i))]⟩) (fun i => i ≤ t.xs.length) (fun i => t.xs.length - i) 0 ((((aw [2,4,23,24] (e' := [(1, _), (2, _), (4, _), (6, _), (7, _), (26, _), (27, _), (28, _)]) Z Z ⟨Z, Z, Z, Z, Z, Z, Z, Z, trivial⟩ Z).trans (ag 23 906 Z Z)).trans (ag 24 907 Z Z)).trans (Ent.to ⟨Z, Z, Z, Z, Z, Z, Z, Z, trivial⟩ Z)) ?_ (fun i hi => ?_)))))))))))
 exact cm _
 refine ac (js O Z (jn (af (ab O Z Z (fun hc29 => ?_) (fun hc29 => ?_)))))
 refine ah (af (am (ac (js O Z (kV O Z Z (j3 O Z Z Z (jf [9,8,29,1,2,4,6,7,26,27,28] Z (aP ?_))))))))
 have hil : i < t.xs.length := by have := aR hc29; omega
 have hvl : vs.length ≤ 10 := by have := (pC hv).2; omega
 refine js O Z (ji O Z (jf [34,9,8,29,1,2,4,6,7,26,27,28] Z (AOps.heap (cd O Z Z Z Z Z Z Z Z Z (by first | omega | (simp at *; omega)) (by first | omega | (simp at *; omega)) (by first | omega | (simp at *; omega)) (by first | omega | (dsimp only; omega) | (simp only [aN] at *; omega)) (by first | omega | (simp at *; omega)) Z Z Z) Z (ao ?_))))
 refine js O Z (jf [36,9,8,29,1,2,4,6,7,26,27,28] Z (jl O Z (ao ?_)))
 refine jo O Z (ao ?_)
 refine aP (j3 O Z Z Z (aU O Z Z (jf [40,10,36,9,8,29,1,2,4,6,7,26,27,28] Z (AOps.heap (bd (ex := [.int .i64 0]) (xs' := ((List.replicate i 0 ++ [1] : List Int)).map (fun n => [D.int .i64 n])) O Z Z Z Z Z Z Z Z Z Z Z Z Z Z kO kN) Z (ao ?_)))))
 refine jn (af (ac (j2 O Z Z (bo O Z (js O Z (jf [44,40,10,36,9,8,29,1,2,4,6,7,26,27,28] Z (jn (ab O Z Z (fun hc44 => ?_) (fun hc44 => ?_)))))))))
 refine aj (j2 O Z Z (kV O Z Z (js O Z (jf [48,44,40,10,36,9,8,29,1,2,4,6,7,26,27,28] Z (jo O Z (ao ?_))))))
 refine jn (aj (j2 O Z Z (AOps.heap (cH O Z Z Z Z Z Z Z Z Z Z Z) Z (ao ?_))))
 refine jf [51,49,48,44,40,10,36,9,8,29,1,2,4,6,7,26,27,28] Z (AOps.heap (bH (own := false) (xs := ((⟨t.c, []⟩ : Tm) :: vs.take i).map Tm.cells) (ys := [Tm.cells (vs.getD i default)]) (zs := ((⟨t.c, []⟩ : Tm) :: vs.take (i + 1)).map Tm.cells) (n := i + 2) O Z Z Z Z Z Z Z Z Z Z Z Z Z Z Z Z (.row Z (by simp; omega)) (.whole Z Z (.inr ⟨Z, Z⟩)) (by simp) Z (by simp; omega) (by simp; omega) (by rw [List.take_succ_eq_append_getElem (by omega), ← List.cons_append, List.map_append, ar (by omega)]; rfl) (by simp; omega)) Z (ao ?_))
 refine AOps.to (aw [2,4,52,907] (e' := [(52, _), (9, _), (7, _), (1, _), (2, _), (4, _), (26, _), (27, _), (28, _)]) Z Z ⟨Z, Z, Z, Z, Z, Z, Z, Z, Z, trivial⟩ Z) (ao ?_)
 refine j2 O Z Z (jf [54,53,52,7,1,2,4,26,27,28] Z (AOps.heap (aZ O Z Z Z) Z (ao ?_)))
 refine jf [55,53,52,7,1,2,4,26,27,28] Z (AOps.heap (bj (zs := (1 :: t.xs.take (i + 1)).map fun n => [.int .i64 n]) (n := i + 2) O Z Z Z Z Z Z Z Z Z Z Z Z Z Z Z Z (.row Z (by simp; omega)) Z Z (by decide) Z (by simp; omega) (by simp; omega) (by rw [show t.xs.take (i + 1) = t.xs.take i ++ [t.xs.getD i default] by rw [List.take_succ_eq_append_getElem (by omega), ar (by omega)], ← List.cons_append, List.map_append]; rfl) (by simp; omega)) Z (ao ?_))
 refine j2 O Z Z (jf [7,6,1,2,4,26,27,28] Z (jn (aj (ji O Z (js O Z (jn ?_))))))
 refine ⟨i + 1, (((aw [2,4,52,56] (e' := [(1, _), (2, _), (4, _), (6, _), (7, _), (26, _), (27, _), (28, _)]) Z Z ⟨Z, Z, Z, Z, Z, Z, Z, Z, trivial⟩ Z).trans (ag 52 906 Z Z)).trans (ag 56 907 Z Z)), by omega, by omega⟩
 exact absurd hc44 (by simp; omega)
 refine aQ (ac ?_)
 have hvl : vs.length ≤ 10 := by have := (pC hv).2; omega
 obtain rfl : i = t.xs.length := by have := bn hc29; omega
 rw [List.take_length]
 refine AOps.to (Ent.freeze 906 (e' := [(6, _), (7, _), (4, _), (2, _)]) Z (.cons Z (.c (.row Z (by simp; omega))) (fe [7,4,2] Z)) (.cons Z (.box (fk Z)) (.cons Z (.box (fk Z)) (.skip (.cons Z .row .nil))))) ?_
 refine AOps.to (Ent.freeze 907 (e' := [(6, _), (7, _), (4, _), (2, _)]) Z (.cons Z (.keep Z) (.cons Z (.c (.row Z (by simp))) (fe [4,2] Z))) (.cons Z (.box (fk Z)) (.cons Z (.box (fk Z)) (.skip .nil)))) ?_
 refine j2 O Z Z (ax O Z Z Z Z (sB (ts := ⟨t.c, []⟩ :: vs.take t.xs.length) (ms := 1 :: t.xs) h1 h2 (ux ht hv) (by have := (Small.of ht).xs; rw [List.all_cons, this]; decide) (by simp; omega)) (aa Z) Z Z Z Z (B0 := 61000) Z Z (jf [60,6,7,4,2] Z (aI O (B0 := 62000) Z Z Z Z (xz (t := em (⟨t.c, []⟩ :: vs.take t.xs.length) (1 :: t.xs)) h1 h2) (aa Z) Z Z Z Z Z Z (ao ?_))))
 refine j2 O Z Z (jf [63,62,6,7,4,2] Z (jo O Z (ao ?_)))
 refine js O Z (jf [5,6,7,4,2] Z (jr ?_))
 rw [← tB]
 refine ⟨.inl Z, _, ak, _, Z, [62000], by decide, Z, Z, Z⟩
theorem flag_true {g : Gs} : g.flag true = ⟨g.paths, g.conds, true⟩ := by simp [Gs.flag]
theorem flag_false {g : Gs} : g.flag false = g := by simp [Gs.flag]
structure Pc where
  post : D
  starts : D
  body : D
  loops : D
  behind : D
  num : D
abbrev aG (ps : List Pth) : B := .row true 5 (ps.map Pth.cells)
abbrev aH (ss : List Sq) : B := .row true 3 (ss.map Sq.cells)
abbrev iB (c : Pc) (g : Gs) (i j k : Nat) : B := .box [.d c.post, .d c.starts, .rs i 0 g.paths.length, .rs j 0 g.conds.length, .d (.bool g.bad), .d c.body, .d c.loops, .d c.behind, .d c.num]
abbrev iW (sn l : Nat) (frm : Int) (w : Pw) (i j k : Nat) : B := .box [.d (.int .i64 frm), .rs i 0 w.vars.length, .rs l 0 sn, .rs j 0 w.facts.length, .rs k 0 w.ev.length, .d (.int .i64 (w.sym : Int))]
abbrev iH (sn : Nat) (st : List Tm) (c : Pc) (g : Gs) (frm : Int) (w : Pw) : List (Nat × B) := [(0, iB c g 1 2 3), (1, aG g.paths), (2, aH g.conds), (3, au st), (4, iW sn 3 frm w 5 6 7), (5, au w.vars), (6, au w.facts), (7, aD w.ev)]

variable {c : Pc} {g : Gs} {ok : Bool} {st : List Tm}
theorem zK {k : Int} {xs : List Int} : MQ h1 h2 171 [.c (.pt 0 0 0), (.agg [.d (.int .i64 k), .rs 4 0 xs.length]), eB ok] [(0, iB c g 1 2 3), (1, aG g.paths), (2, aH g.conds), (3, au st), (4, aD xs)] (bb (.agg [.d (.int .i64 k), .rs 4 0 xs.length]) [(0, iB c (g.flag (!ok)) 1 2 3), (1, aG (g.flag (!ok)).paths), (2, aH (g.flag (!ok)).conds), (3, au st), (4, aD xs)]) := by
 refine aJ 500 Z (MC.keep [500,501,502,503,504] (bs := [iB c (g.flag (!ok)) 501 502 503, aG (g.flag (!ok)).paths, aH (g.flag (!ok)).conds, au st, aD xs]) Z Z (jH 13 [500,501,502,503,504] h1 h2 Tryz.func171 Z Z Z Z fun O hF => ?_))
 refine ch ?_
 refine ac (jx O Z (ao ?_))
 refine jf [4,0,2] Z (jl O Z (ao ?_))
 refine jn (af (ac (j2 O Z Z (jf [8,6,4,0] Z (jn (ab O Z Z (fun hc8 => ?_) (fun hc8 => ?_)))))))
 refine aj (j3 O Z Z Z (jf [11,6,4] Z (jo O Z (ao ?_))))
 refine aP (js O Z (jf [12,11,6] Z (jo O Z (ao ?_))))
 refine jr ?_
 have hok : ok = false := by simpa using hc8
 subst hok
 rw [show g.flag (!false) = ⟨g.paths, g.conds, true⟩ from flag_true]
 refine ⟨.inl Z, _, ak, _, Z, Z, Z⟩
 refine ah (ac (js O Z (jf [12,6,0] Z (jo O Z (ao ?_)))))
 refine jr ?_
 have hok : ok = true := by simpa using hc8
 subst hok
 rw [show g.flag (!true) = g from flag_false]
 refine ⟨.inl Z, _, ak, _, Z, Z, Z⟩
variable {frm : Int} {w : Pw} {sn : Nat}
theorem zM (ht : t.ok = true) (hv : go w.vars 10 = true) (hle : t.xs.length ≤ w.vars.length) : MQ h1 h2 168 [.c (.pt 0 0 0), .c (.pt 4 0 0), cU t] (iH sn st c g frm w) (bb (cU (eb t w.vars).1) (iH sn st c (i1 w t g) frm w)) := by
 refine aJ 500 Z (MC.keep [500,501,502,503,504,505,506,507] (bs := [iB c (i1 w t g) 501 502 503, aG (i1 w t g).paths, aH (i1 w t g).conds, au st, iW sn 503 frm w 505 506 507, au w.vars, au w.facts, aD w.ev]) Z Z (jH 17 [500,501,502,503,504,505,506,507] h1 h2 Tryz.func168 Z Z Z Z fun O hF => ?_))
 refine ch ?_
 refine ac (jx O Z (ao ?_))
 refine AOps.to (Ent.freeze 5 (e' := [(5, _), (0, _), (1, _)]) Z (.cons Z (.c (.box (cs := Tm.cells t) Z (aq Z))) (fe [0,1] Z)) (.skip (.cons Z (.box (fk Z)) (.cons Z .row (.cons Z .row (.cons Z .row (.cons Z (.box (fk Z)) (.cons Z .row (.cons Z .row (.cons Z .row .nil)))))))))) ?_
 refine ao ?_
 refine jl O Z (ao ?_)
 refine jn (af (fI O [_,_,_,_,_,_,_,_,_,_,_] [pn [] 0 1, pn [] 0 0, pn [] 0 0, pn [2] 0 0, pn [2,3] 0 0, pn [2,3,4] 0 0, pe (rg 1 5) 0, pn (rg 1 6) 1 1, pn (rg 1 6) 1 1, pe (rg 0 9) 1, pe (rg 0 10) 2] [6,9,10] [_,_,_,_] (ai (kc O Z (V O Z)) (kc O Z (kc O Z (kc O Z (kc O Z (kc O Z (ai (cC O (B0 := 14000) Z Z Z Z (xA (t := t) (vs := w.vars) h1 h2 ht hv hle) (.cons (.agg (aq Z)) (.cons (.c (.whole Z (bt _).symm)) .nil)) Z Z Z Z Z) (kc O Z (kc O Z (ai (bR O [500,501,502,503,14000] (bin := [iB c g 1 2 3, aG g.paths, aH g.conds, au st, aD (eb t w.vars).1.xs]) Z Z Z Z (zK (st := st) (c := c) (g := g) (k := (eb t w.vars).1.c) (xs := (eb t w.vars).1.xs) (ok := (eb t w.vars).2) h1 h2) Z Z Z Z Z (B0 := 17000) Z Z Z Z Z Z) (ai (eS O Z Z Z) trivial))))))))))) ?_))
 refine jw [6] Z (ch ?_)
 refine iZ ?_
 refine ⟨.inl Z, _, Ent.freeze 14000 (e' := [(6, _)]) Z (fe [6] Z) (.cons Z (.box (.cons (.keep Z) (.cons (.row Z (bt _).symm) .nil))) (.cons Z (.box (fk Z)) (.cons Z .row (.cons Z .row (.cons Z .row (.cons Z (.box (fk Z)) (.cons Z .row (.cons Z .row (.cons Z .row (.skip .nil)))))))))), _, Z, Z, Z⟩
abbrev BC (sn : Nat) (st : List Tm) (c : Pc) (g : Gs) (frm : Int) (w : Pw) : List (Nat × B) := [(0, iB c g 1 8 3), (1, aG g.paths), (3, au st), (4, iW sn 3 frm w 5 6 7), (5, au w.vars), (6, au w.facts), (7, aD w.ev), (8, aH g.conds)]
def cz (w : Pw) (t : Tm) (g : Gs) : Gs := (g.goal w t).flag (!t.ok)
theorem n3 (hg : g.conds.length + 1 ≤ L) : MQ h1 h2 153 [.c (.pt 0 0 0), .c (.pt 4 0 0), cU t] (iH sn st c g frm w) (bb (.tup []) (BC sn st c (cz w t g) frm w)) := by
 refine aJ 500 Z (MC.keep [500,501,503,504,505,506,507,508] (bs := [iB c (cz w t g) 501 508 503, aG (cz w t g).paths, au st, iW sn 503 frm w 505 506 507, au w.vars, au w.facts, aD w.ev, aH (cz w t g).conds]) Z Z (jH 31 [500,501,502,503,504,505,506,507] h1 h2 Tryz.func153 Z Z Z Z fun O hF => ?_))
 refine ch ?_
 refine ac (jx O Z (ao ?_))
 refine AOps.to (Ent.freeze 5 (e' := [(5, _), (0, _), (1, _)]) Z (.cons Z (.c (.box (cs := Tm.cells t) Z (aq Z))) (fe [0,1] Z)) (.skip (.cons Z (.box (fk Z)) (.cons Z .row (.cons Z .row (.cons Z .row (.cons Z (.box (fk Z)) (.cons Z .row (.cons Z .row (.cons Z .row .nil)))))))))) ?_
 refine ao ?_
 refine jn (af (rx O [_,_,_,_,_,_,_,_,_,_] [pn [] 0 0, pn [0] 0 0, pn [0,1] 0 0, pn [0,1,2] 0 0, pe [0,1,2,3] 0, pn [] 0 1, pe [0,1,2,3,4,5] 1, pn [0,1,2,3,4,5,6] 2 2, pn [] 0 2, pe [0,1,2,3,4,5,6,7,8] 2] [4,6,9] 8 6 (.box [.d .nils, .d (.int .i64 0), .d .nils]) [_,_,_] [_] [[], [], []] (kf O Z Z Z (kf O Z Z Z (kf O Z Z Z (kf O Z Z Z (ai (ai (aE (aT (cC O (B0 := 12000) Z Z Z Z (uh (ts := w.facts) h1 h2) (.cons (.c (.whole Z (bt _).symm)) .nil) Z Z Z Z Z)) (aT (cC O (B0 := 12000) Z Z Z Z (uh (ts := w.facts) h1 h2) (.cons (.c (.whole Z (bt _).symm)) .nil) Z Z Z Z Z))) Z) (ai (kf O Z Z Z (kg O Z Z Z)) (ai (ai (aE (aT (cC O (B0 := 14000) Z Z Z Z (qz (t := t) h1 h2) (aa Z) Z Z Z Z Z)) (aT (cC O (B0 := 14000) Z Z Z Z (qz (t := t) h1 h2) (aa Z) Z Z Z Z Z))) Z) (kf O Z Z Z (ai (ai (ai (aT (Eff.alloc O Z Z Z Z Z Z)) Z) (ai (ai (aT (Eff.alloc O Z Z Z Z Z Z)) Z) (ai (aT (Eff.alloc O Z Z Z Z Z Z)) Z))) (ai (ai (aE trivial (aT (eS O Z Z Z))) Z) trivial)))))))))) ?_))
 refine jw [6,5,0] Z (ch ?_)
 refine af (ac (js O Z (ae O Z Z Z Z (mh (t := t) h1 h2) (aa Z) Z Z Z Z Z (B0 := 17000) Z (js O Z (jf [17,6,5,0] Z (jn (ab O Z Z (fun hc17 => ?_) (fun hc17 => ?_))))))))
 refine aj (j3 O Z Z Z (jf [20,6,5,0] Z (jo O Z (ao ?_))))
 refine jn (mb O [_,_,_,_,_,_,_,_,_,_,_] [pn [] 0 2, pn [] 0 1, pn [1] 0 1, pn [1,2] 0 1, pn [1,2,3] 0 1, pn [] 0 0, pe [5] 0, pe (rg 1 6) 1, pn (rg 0 8) 2 2, pn (rg 0 9) 2 2, pe (rg 0 10) 2] [6,7,10] [_,_,_,_] [[12000,14000], [502,27], []] (ai (ka O Z Z (ka O Z Z (kw O Z Z))) (ai (ka O Z Z (kw O Z Z)) (ai (ka O Z Z (kw O Z Z)) (ai (ka O Z Z (kw O Z Z)) (ai (ka O Z Z (kw O Z Z)) (ka O Z Z (ai (ai (gJ [12000,14000] (ds := Sq.cells (⟨w.facts, t⟩ : Sq)) O Z Z Z Z Z Z Z Z Z Z Z Z (fun e => .rs Z (bt _).symm (.d Z (.rs Z (bt _).symm .nil))) Z Z) Z) (ai (ai (gK (xs := g.conds.map Sq.cells) (ys := [Sq.cells (⟨w.facts, t⟩ : Sq)]) (zs := (g.conds ++ [(⟨w.facts, t⟩ : Sq)]).map Sq.cells) (n := (g.conds ++ [(⟨w.facts, t⟩ : Sq)]).length) O Z Z Z Z Z Z Z Z Z Z Z Z Z Z Z Z (.row Z (bt _).symm) Z Z (by decide) Z (by simp; omega) (by simp; omega) (by simp) (by simp) Z) Z) (ka O Z Z (ka O Z Z (ai (ai (aT (eS O Z Z Z)) Z) trivial))))))))))) ?_)
 show _ ∧ _
 have hok : t.ok = false := by simpa using hc17
 rw [show cz w t g = ⟨g.paths, g.conds ++ [(⟨w.facts, t⟩ : Sq)], true⟩ by rw [cz, hok]; simp [Gs.flag, Gs.goal]]
 refine ⟨.inr Z, _, ag 28 508 Z Z, _, Z, Z, Z⟩
 refine ah (jw [6,5,0] Z (mb O [_,_,_,_,_,_,_,_,_,_,_] [pn [] 0 2, pn [] 0 1, pn [1] 0 1, pn [1,2] 0 1, pn [1,2,3] 0 1, pn [] 0 0, pe [5] 0, pe (rg 1 6) 1, pn (rg 0 8) 2 2, pn (rg 0 9) 2 2, pe (rg 0 10) 2] [6,7,10] [_,_,_,_] [[12000,14000], [502,27], []] (ai (ka O Z Z (ka O Z Z (kw O Z Z))) (ai (ka O Z Z (kw O Z Z)) (ai (ka O Z Z (kw O Z Z)) (ai (ka O Z Z (kw O Z Z)) (ai (ka O Z Z (kw O Z Z)) (ka O Z Z (ai (ai (gJ [12000,14000] (ds := Sq.cells (⟨w.facts, t⟩ : Sq)) O Z Z Z Z Z Z Z Z Z Z Z Z (fun e => .rs Z (bt _).symm (.d Z (.rs Z (bt _).symm .nil))) Z Z) Z) (ai (ai (gK (xs := g.conds.map Sq.cells) (ys := [Sq.cells (⟨w.facts, t⟩ : Sq)]) (zs := (g.conds ++ [(⟨w.facts, t⟩ : Sq)]).map Sq.cells) (n := (g.conds ++ [(⟨w.facts, t⟩ : Sq)]).length) O Z Z Z Z Z Z Z Z Z Z Z Z Z Z Z Z (.row Z (bt _).symm) Z Z (by decide) Z (by simp; omega) (by simp; omega) (by simp) (by simp) Z) Z) (ka O Z Z (ka O Z Z (ai (ai (aT (eS O Z Z Z)) Z) trivial))))))))))) ?_))
 show _ ∧ _
 have hok : t.ok = true := by simpa using hc17
 rw [show cz w t g = ⟨g.paths, g.conds ++ [(⟨w.facts, t⟩ : Sq)], g.bad⟩ by rw [cz, hok]; simp [Gs.flag, Gs.goal]]
 refine ⟨.inr Z, _, ag 28 508 Z Z, _, Z, Z, Z⟩
abbrev BB (sn : Nat) (st : List Tm) (c : Pc) (g : Gs) (frm : Int) (w : Pw) : List (Nat × B) := [(0, iB c g 1 2 3), (1, aG g.paths), (2, aH g.conds), (3, au st), (4, iW sn 3 frm w 5 9 7), (5, au w.vars), (7, aD w.ev), (9, au w.facts)]
theorem pT {g : Gs} : g.flag true = ⟨g.paths, g.conds, true⟩ := by simp [Gs.flag]
theorem ky {g : Gs} : g.flag false = g := by simp [Gs.flag]
theorem qI (hl : w.facts.length ≤ 1000) : MQ h1 h2 154 [.c (.pt 0 0 0), .c (.pt 4 0 0), cU t] (iH sn st c g frm w) (bb (.tup []) (BB sn st c (g.flag (w.fact t).long) frm (w.fact t))) := by
 refine aJ 500 Z (MC.keep [500,501,502,503,504,505,507,509] (bs := [iB c (g.flag (w.fact t).long) 501 502 503, aG (g.flag (w.fact t).long).paths, aH (g.flag (w.fact t).long).conds, au st, iW sn 503 frm (w.fact t) 505 509 507, au (w.fact t).vars, aD (w.fact t).ev, au (w.fact t).facts]) Z Z (jH 25 [500,501,502,503,504,505,506,507] h1 h2 Tryz.func154 Z Z Z Z fun O hF => ?_))
 refine ch ?_
 refine ac (jx O Z (ao ?_))
 refine AOps.to (Ent.freeze 5 (e' := [(5, _), (0, _), (1, _)]) Z (.cons Z (.c (.box (cs := Tm.cells t) Z (aq Z))) (fe [0,1] Z)) (.skip (.cons Z (.box (fk Z)) (.cons Z .row (.cons Z .row (.cons Z .row (.cons Z (.box (fk Z)) (.cons Z .row (.cons Z .row (.cons Z .row .nil)))))))))) ?_
 refine ao ?_
 refine jn (af (rx O [_,_,_,_,_,_,_,_,_,_,_] [pn [] 0 1, pn [] 0 0, pn [1] 0 0, pn [1,2] 0 0, pn [1,2,3] 0 0, pn [] 0 0, pn [5] 0 0, pe [1,2,3,4,5,6] 0, pn [0,1,2,3,4,5,6,7] 1 1, pn [0,1,2,3,4,5,6,7,8] 1 1, pe [0,1,2,3,4,5,6,7,8,9] 1] [7,10] 6 12 (.row false 2 [Tm.cells t]) [_] [_,_] [[506], []] (ai (kf O Z Z Z (kg O Z Z Z)) (kf O Z Z Z (kf O Z Z Z (kf O Z Z Z (kf O Z Z Z (kf O Z Z Z (ai (ai (aT (b9 O Z Z Z Z Z Z Z Z Z Z Z Z Z Z)) Z) (ai (ai (aE trivial (bN (own := false) (xs := w.facts.map Tm.cells) (ys := [Tm.cells t]) (zs := ((w.facts ++ [t])).map Tm.cells) (n := (w.facts ++ [t]).length) O Z Z Z Z Z Z Z Z Z Z Z Z Z Z Z Z (.row Z (bt _).symm) (.whole Z Z (.inr ⟨Z, Z⟩)) (by simp) Z (by simp; omega) (by simp; omega) (by simp) (by simp) Z)) Z) (ai (ai (aE trivial (V O Z)) Z) (ai (ai (aE trivial (V O Z)) Z) (ai (ai (aE trivial (aT (eS O Z Z Z))) Z) trivial))))))))))) ?_))
 refine jw [0,1] Z (ch ?_)
 refine ac (j4 O Z Z Z Z (AOps.step (aO O Z Z (by simp only [c9, ij]; omega)) Z Z Z (js O Z (jf [21,0,1] Z (jn (ab O Z Z (fun hc21 => ?_) (fun hc21 => ?_)))))))
 refine aj (j3 O Z Z Z (jf [24,1] Z (jo O Z (ao ?_))))
 refine jn ?_
 show _ ∧ _
 have hlo : (w.fact t).long = true := decide_eq_true (by show 12 < (w.facts ++ [t]).length; have := aR hc21; omega)
 rw [hlo, pT]
 refine ⟨.inr Z, _, ag 13 509 Z Z, _, Z, Z, Z⟩
 refine ah ?_
 show _ ∧ _
 have hlo : (w.fact t).long = false := decide_eq_false (by show ¬ 12 < (w.facts ++ [t]).length; have := bn hc21; omega)
 rw [hlo, ky]
 refine ⟨.inr Z, _, ag 13 509 Z Z, _, Z, Z, Z⟩
theorem rP {w : Pw} {t : Tm} {g : Gs} (ht : t.ok = true) : cz w (bE t).1 (cz w t g) = aY bE w t g := by
 simp only [cz, aY, bE, ht, Gs.goal, Gs.flag, Bool.not_true, Bool.or_false]
theorem wu {t : Tm} (ht : t.ok = true) : CtxOk [⟨7, []⟩, t] := by
 refine ⟨fun u hu => ?_, by simp⟩
 rcases List.mem_cons.1 hu with rfl | hu
 decide
 rcases List.mem_cons.1 hu with rfl | hu
 exact ht
 cases hu
theorem qJ (ht : t.ok = true) (hg : g.conds.length + 2 ≤ L) : MQ h1 h2 151 [.c (.pt 0 0 0), .c (.pt 4 0 0), cU t] (iH sn st c g frm w) (bb (.tup []) (BC sn st c (aY bE w t g) frm w)) := by
 refine aJ 500 Z (MC.keep [500,501,503,504,505,506,507,508] (bs := [iB c (aY bE w t g) 501 508 503, aG (aY bE w t g).paths, au st, iW sn 503 frm w 505 506 507, au w.vars, au w.facts, aD w.ev, aH (aY bE w t g).conds]) Z Z (jH 20 [500,501,502,503,504,505,506,507] h1 h2 Tryz.func151 Z Z Z Z fun O hF => ?_))
 refine ch ?_
 refine ac (jx O Z (ao ?_))
 refine AOps.to (Ent.freeze 5 (e' := [(5, _), (0, _), (1, _)]) Z (.cons Z (.c (.box (cs := Tm.cells t) Z (aq Z))) (fe [0,1] Z)) (.skip (.cons Z (.box (fk Z)) (.cons Z .row (.cons Z .row (.cons Z .row (.cons Z (.box (fk Z)) (.cons Z .row (.cons Z .row (.cons Z .row .nil)))))))))) ?_
 refine ao ?_
 refine aP (j3 O Z Z Z (ay O [500,501,502,503,504,505,506,507] (bin := [iB c g 1 2 3, aG g.paths, aH g.conds, au st, iW sn 3 frm w 5 6 7, au w.vars, au w.facts, aD w.ev]) Z Z Z Z (n3 (sn := sn) (st := st) (c := c) (g := g) (frm := frm) (w := w) (t := t) h1 h2 (by omega)) Z Z Z Z Z Z (B0 := 11000) Z Z (ao ?_)))
 refine jf [5,0,1] Z (aP (j2 O Z Z (AOps.heap (cH O Z Z Z Z Z Z Z Z Z Z Z) Z (ao ?_))))
 refine AOps.to (Ent.rowLe 13 Z (.cons (.cons .refl (.cons (.nil (sz := 1)) .nil)) (.cons (.cons .refl (.cons .refl .nil)) .nil))) (ao ?_)
 refine ao ?_
 refine jf [13,5,0,1] Z (AOps.heap (aZ O Z Z Z) Z (ao ?_))
 refine AOps.to (Ent.freeze 13 (e' := [(14, _), (13, _), (0, _), (1, _)]) Z (.cons Z (.keep Z) (.cons Z (.c (.row Z Z)) (fe [0,1] Z))) (.skip (.cons Z .row (.cons Z (.box (fk Z)) (.cons Z .row (.cons Z .row (.cons Z (.box (fk Z)) (.cons Z .row (.cons Z .row (.cons Z .row (.cons Z .row .nil))))))))))) ?_
 refine AOps.to (Ent.freeze 14 (e' := [(14, _), (13, _), (0, _), (1, _)]) Z (.cons Z (.c (.row Z Z)) (fe [13,0,1] Z)) (.skip (.cons Z (.box (fk Z)) (.cons Z .row (.cons Z .row (.cons Z (.box (fk Z)) (.cons Z .row (.cons Z .row (.cons Z .row (.cons Z .row .nil)))))))))) ?_
 refine ao ?_
 refine ax O Z Z Z Z (sB (ts := [⟨7, []⟩, t]) (ms := [1, -1]) h1 h2 (wu ht) (by decide) (bw _)) (aa Z) Z Z Z Z (B0 := 16000) Z Z (jf [15,0,1] Z (jl O Z (ao ?_)))
 refine jo O Z (ao ?_)
 refine jn (aj (j3 O Z Z Z (ay O [500,501,11008,503,504,505,506,507] (bin := [iB c (cz w t g) 1 2 3, aG (cz w t g).paths, aH (cz w t g).conds, au st, iW sn 3 frm w 5 6 7, au w.vars, au w.facts, aD w.ev]) Z Z Z Z (n3 (sn := sn) (st := st) (c := c) (g := (cz w t g)) (frm := frm) (w := w) (t := (bE t).1) h1 h2 (by simp only [cz, Gs.flag, Gs.goal, c9, ij]; omega)) Z Z Z Z Z Z (B0 := 20000) Z Z (ao ?_))))
 refine jf [6,15,0,1] Z (jn ?_)
 show _ ∧ _
 rw [← rP ht]
 refine ⟨.inr Z, _, ag 20008 508 Z Z, _, Z, Z, Z⟩
abbrev iHE (sn : Nat) (st : List Tm) (c : Pc) (g : Gs) (frm : Int) (w : Pw) : List (Nat × B) := [(0, iB c g 9 8 3), (3, au st), (4, iW sn 3 frm w 5 6 7), (5, au w.vars), (6, au w.facts), (7, aD w.ev), (8, aH g.conds), (9, aG g.paths)]
theorem rG {w : Pw} {t : Tm} {g : Gs} : cz w (eb t w.vars).1 (i1 w t g) = bf w g t := by
 simp only [cz, wB, bf, Gs.flag, Bool.not_true, Bool.or_false]
theorem uu {w : Pw} (hw : CtxOk w.vars) (hv : w.vars.length = 4) : go w.vars 10 = true := by
 unfold go
 rw [List.all_eq_true.2 hw.ok, decide_eq_true (by omega)]; rfl
theorem vW {to : Int} {fs : List Tm} (hw : CtxOk w.vars) (hv : w.vars.length = 4) (hf : TsOk fs) (hg : g.conds.length + fs.length ≤ L) (hp : g.paths.length + 1 ≤ L) : MQ h1 h2 143 [.c (.pt 0 0 0), .c (.pt 4 0 0), eI to, cD fs] (iH sn st c g frm w) (bb (.tup []) (iHE sn st c (cj frm w to fs g) frm w)) := by
 refine aJ 500 Z (MC.keep [500,503,504,505,506,507,508,509] (bs := [iB c (cj frm w to fs g) 509 508 503, au st, iW sn 503 frm w 505 506 507, au w.vars, au w.facts, aD w.ev, aH (cj frm w to fs g).conds, aG (cj frm w to fs g).paths]) Z Z (jH 63 [500,501,502,503,504,505,506,507] h1 h2 Tryz.func143 Z Z Z Z fun O hF => ?_))
 refine ch ?_
 have hpe : (fs.foldl (bf w) g).paths.length = g.paths.length := congrArg List.length dq
 have hva := uu hw hv
 have hll : fs.length ≤ L := by omega
 refine af (ac (js O Z (bo O Z (js O Z (jn (am (ap (X := Nat) (fun i => ⟨[(0, .c (.pt 500 0 0)), (1, .c (.pt 504 0 0)), (2, eI to), (10, cD fs), (11, eI fs.length), (12, eI i)], [(500, iB c ((fs.take i).foldl (bf w) g) 501 902 503), (501, aG ((fs.take i).foldl (bf w) g).paths), (503, au st), (504, iW sn 503 frm w 505 506 507), (505, au w.vars), (506, au w.facts), (507, aD w.ev), (902, aH ((fs.take i).foldl (bf w) g).conds)]⟩) (fun i => i ≤ fs.length) (fun i => fs.length - i) 0 (((aw [500,501,503,504,505,506,507,502] (e' := [(0, _), (1, _), (2, _), (10, _), (11, _), (12, _)]) Z Z ⟨Z, Z, Z, Z, Z, Z, trivial⟩ Z).trans (ag 502 902 Z Z)).trans (Ent.to ⟨Z, Z, Z, Z, Z, Z, trivial⟩ Z)) ?_ (fun i hi => ?_))))))))
 exact cm _
 refine ac (js O Z (jn (af (ab O Z Z (fun hc13 => ?_) (fun hc13 => ?_)))))
 refine ah (af (am (ac (kV O Z Z (js O Z (jf [15,13,0,1,2,10,11,12] Z (jl O Z (ao ?_))))))))
 refine jo O Z (ao ?_)
 refine jn (aj (j4 O Z Z Z Z (js O Z ?_)))
 have hil : i < fs.length := by have := aR hc13; omega
 have hfi := hf.get hil
 have hci := iP (w := w) (fs := fs.take i) (g := g)
 rw [List.length_take, Nat.min_eq_left (by omega)] at hci
 refine ay O [500,501,902,503,504,505,506,507] (bin := [iB c ((fs.take i).foldl (bf w) g) 1 2 3, aG ((fs.take i).foldl (bf w) g).paths, aH ((fs.take i).foldl (bf w) g).conds, au st, iW sn 3 frm w 5 6 7, au w.vars, au w.facts, aD w.ev]) Z Z Z Z (zM (sn := sn) (st := st) (c := c) (g := ((fs.take i).foldl (bf w) g)) (frm := frm) (w := w) (t := (fs.getD i default)) h1 h2 hfi.1 hva (by omega)) Z Z Z Z Z Z (B0 := 22000) Z Z (ao ?_)
 refine jf [21,17,16,9,15,13,0,1,2,10,11,12] Z (ay O [500,501,902,503,504,505,506,507] (bin := [iB c (i1 w (fs.getD i default) ((fs.take i).foldl (bf w) g)) 1 2 3, aG (i1 w (fs.getD i default) ((fs.take i).foldl (bf w) g)).paths, aH (i1 w (fs.getD i default) ((fs.take i).foldl (bf w) g)).conds, au st, iW sn 3 frm w 5 6 7, au w.vars, au w.facts, aD w.ev]) Z Z Z Z (n3 (sn := sn) (st := st) (c := c) (g := (i1 w (fs.getD i default) ((fs.take i).foldl (bf w) g))) (frm := frm) (w := w) (t := (eb (fs.getD i default) w.vars).1) h1 h2 (show ((fs.take i).foldl (bf w) g).conds.length + 1 ≤ L by omega)) Z Z Z Z Z Z (B0 := 23000) Z Z (ao ?_))
 refine jf [9,15,13,0,1,2,10,11,12] Z (jn (aj (ji O Z (js O Z (jn ?_)))))
 refine ⟨i + 1, ((aw [500,501,503,504,505,506,507,23008] (e' := [(0, _), (1, _), (2, _), (10, _), (11, _), (12, _)]) Z Z ⟨Z, Z, Z, Z, Z, Z, trivial⟩ Z).trans (ag 23008 902 Z Z)).trans (Ent.to ⟨Z, Z, Z, Z, Z, Z, trivial⟩ (by rw [mM hil, ← rG]; rfl)), by omega, by omega⟩
 refine aQ (af ?_)
 obtain rfl : i = fs.length := by have := bn hc13; omega
 rw [List.take_length]
 refine mb O [_,_,_,_,_,_,_,_,_,_,_,_,_,_,_,_,_,_,_,_,_,_,_,_,_,_,_,_,_,_,_] [pn [] 0 5, pn [] 0 4, pn [1] 0 4, pn [1,2] 0 4, pn [1,2,3] 0 4, pn [] 0 3, pn [5] 0 3, pn [5,6] 0 3, pn [5,6,7] 0 3, pn [] 0 3, pn [] 0 0, pn [10] 0 0, pn [10,11] 0 0, pn [10,11,12] 0 0, pe (rg 10 4) 0, pn [] 0 1, pn [15] 0 1, pn [15,16] 0 1, pn [15,16,17] 0 1, pe (rg 10 9) 1, pn [] 0 2, pn [20] 0 2, pn [20,21] 0 2, pn [20,21,22] 0 2, pe (rg 10 14) 2, pn (rg 5 20) 3 3, pe (rg 5 21) 3, pe (rg 1 26) 4, pn (rg 0 28) 5 5, pn (rg 0 29) 5 5, pe (rg 0 30) 5] [14,19,24,26,27,30] [_,_,_,_,_,_,_] [[], [], [], [39000,44000,49000], [501,50], []] (ai (ka O Z Z (ka O Z Z (ka O Z Z (ka O Z Z (ka O Z Z (kw O Z Z)))))) (ai (ka O Z Z (ka O Z Z (ka O Z Z (ka O Z Z (kw O Z Z))))) (ai (ka O Z Z (ka O Z Z (ka O Z Z (ka O Z Z (kw O Z Z))))) (ai (ka O Z Z (ka O Z Z (ka O Z Z (ka O Z Z (kw O Z Z))))) (ai (ka O Z Z (ka O Z Z (ka O Z Z (ka O Z Z (kw O Z Z))))) (ai (ka O Z Z (ka O Z Z (ka O Z Z (kw O Z Z)))) (ai (ka O Z Z (ka O Z Z (ka O Z Z (kw O Z Z)))) (ai (ka O Z Z (ka O Z Z (ka O Z Z (kw O Z Z)))) (ai (ka O Z Z (ka O Z Z (ka O Z Z (kw O Z Z)))) (ai (ka O Z Z (ka O Z Z (ka O Z Z (kw O Z Z)))) (ka O Z Z (ka O Z Z (ka O Z Z (ka O Z Z (ai (ai (aT (cC O (B0 := 39000) Z Z Z Z (uh (ts := w.facts) h1 h2) (.cons (.c (.whole Z (bt _).symm)) .nil) Z Z Z Z Z)) Z) (ai (ka O Z Z (kw O Z Z)) (ai (ka O Z Z (kw O Z Z)) (ai (ka O Z Z (kw O Z Z)) (ai (ka O Z Z (kw O Z Z)) (ai (ai (aT (cC O (B0 := 44000) Z Z Z Z (uh (ts := w.vars) h1 h2) (.cons (.c (.whole Z (bt _).symm)) .nil) Z Z Z Z Z)) Z) (ai (ka O Z Z (ka O Z Z (kw O Z Z))) (ai (ka O Z Z (ka O Z Z (kw O Z Z))) (ai (ka O Z Z (ka O Z Z (kw O Z Z))) (ai (ka O Z Z (ka O Z Z (kw O Z Z))) (ai (ai (aT (cC O (B0 := 49000) Z Z Z Z (wn (xs := w.ev) h1 h2) (.cons (.c (.whole Z (bt _).symm)) .nil) Z Z Z Z Z)) Z) (ka O Z Z (ai (ai (gJ [39000,44000,49000] (ds := Pth.cells (⟨frm, to, w.facts, w.vars, w.ev⟩ : Pth)) O Z Z Z Z Z Z Z Z Z Z Z Z (fun e => .d Z (.d Z (.rs Z (bt _).symm (.rs Z (bt _).symm (.rs Z (bt _).symm .nil))))) Z Z) Z) (ai (ai (gK (xs := (fs.foldl (bf w) g).paths.map Pth.cells) (ys := [Pth.cells (⟨frm, to, w.facts, w.vars, w.ev⟩ : Pth)]) (zs := ((fs.foldl (bf w) g).paths ++ [(⟨frm, to, w.facts, w.vars, w.ev⟩ : Pth)]).map Pth.cells) (n := ((fs.foldl (bf w) g).paths ++ [(⟨frm, to, w.facts, w.vars, w.ev⟩ : Pth)]).length) O Z Z Z Z Z Z Z Z Z Z Z Z Z Z Z Z (.row Z (bt _).symm) Z Z (by decide) Z (by simp; omega) (by simp; omega) (by simp) (by simp) Z) Z) (ka O Z Z (ka O Z Z (ai (ai (aT (eS O Z Z Z)) Z) trivial))))))))))))))))))))))))))))))) ?_
 refine jw [13,0,1,2,10,11,12] Z (ch ?_)
 refine ac (j4 O Z Z Z Z (AOps.step (aO O Z Z (by simp only [c9, ij]; omega)) Z Z Z (js O Z (jf [59,13,0,1,2,10,11,12] Z (jn (ab O Z Z (fun hc59 => ?_) (fun hc59 => ?_)))))))
 refine aj (j3 O Z Z Z (jf [62,59,13,0,1,2,10,11,12] Z (jo O Z (ao ?_))))
 refine jn ?_
 show _ ∧ _
 have hlo : decide (200 < (fs.foldl (bf w) g).paths.length + 1) = true := decide_eq_true (by show 200 < (fs.foldl (bf w) g).paths.length + 1; have := aR hc59; rw [c9, ij] at this; omega)
 rw [show (cj frm w to fs g) = ⟨(fs.foldl (bf w) g).paths ++ [(⟨frm, to, w.facts, w.vars, w.ev⟩ : Pth)], (fs.foldl (bf w) g).conds, true⟩ by unfold cj el; rw [hlo]; simp]
 refine ⟨.inr Z, _, (ag 51 509 Z Z).trans (ag 902 508 Z Z), _, Z, Z, Z⟩
 refine ah ?_
 show _ ∧ _
 have hlo : decide (200 < (fs.foldl (bf w) g).paths.length + 1) = false := decide_eq_false (by show ¬ 200 < (fs.foldl (bf w) g).paths.length + 1; have := bn hc59; rw [c9, ij] at this; omega)
 rw [show (cj frm w to fs g) = ⟨(fs.foldl (bf w) g).paths ++ [(⟨frm, to, w.facts, w.vars, w.ev⟩ : Pth)], (fs.foldl (bf w) g).conds, (fs.foldl (bf w) g).bad⟩ by unfold cj el; rw [hlo]; simp]
 refine ⟨.inr Z, _, (ag 51 509 Z Z).trans (ag 902 508 Z Z), _, Z, Z, Z⟩
theorem xD (hs : w.sym = 10) : MQ h1 h2 152 [.c (.pt 0 0 0), .c (.pt 4 0 0)] (iH sn st c g frm w) (bb (.agg [.d (.int .i64 0), .d .nils]) (iH sn st c (⟨g.paths, g.conds, true⟩ : Gs) frm w)) := by
 refine aJ 500 Z (MC.keep [500,501,502,503,504,505,506,507] (bs := [iB c (⟨g.paths, g.conds, true⟩ : Gs) 501 502 503, aG (⟨g.paths, g.conds, true⟩ : Gs).paths, aH (⟨g.paths, g.conds, true⟩ : Gs).conds, au st, iW sn 503 frm w 505 506 507, au w.vars, au w.facts, aD w.ev]) Z Z (jH 27 [500,501,502,503,504,505,506,507] h1 h2 Tryz.func152 Z Z Z Z fun O hF => ?_))
 refine ch ?_
 refine ac (jl O Z (ao ?_))
 refine jn (af (ac (j4 O Z Z Z Z (js O Z (jf [9,4,0,1] Z (jn (ab O Z Z (fun hc9 => ?_) (fun hc9 => ?_))))))))
 refine ac (j3 O Z Z Z (jf [12,4,1] Z (jo O Z (ao ?_))))
 refine aP (js O Z (jo O Z (ao ?_)))
 refine jr ?_
 refine ⟨.inl Z, _, ak, _, Z, Z, Z⟩
 exact absurd (bn hc9) (by omega)
theorem zL (hs : w.sym < 10) : MQ h1 h2 152 [.c (.pt 0 0 0), .c (.pt 4 0 0)] (iH sn st c g frm w) (bb (cU (ik w.sym)) (iH sn st c g frm (⟨w.vars, w.facts, w.ev, w.sym + 1⟩ : Pw))) := by
 refine aJ 500 Z (MC.keep [500,501,502,503,504,505,506,507] (bs := [iB c g 501 502 503, aG g.paths, aH g.conds, au st, iW sn 503 frm (⟨w.vars, w.facts, w.ev, w.sym + 1⟩ : Pw) 505 506 507, au (⟨w.vars, w.facts, w.ev, w.sym + 1⟩ : Pw).vars, au (⟨w.vars, w.facts, w.ev, w.sym + 1⟩ : Pw).facts, aD (⟨w.vars, w.facts, w.ev, w.sym + 1⟩ : Pw).ev]) Z Z (jH 27 [500,501,502,503,504,505,506,507] h1 h2 Tryz.func152 Z Z Z Z fun O hF => ?_))
 refine ch ?_
 refine ac (jl O Z (ao ?_))
 refine jn (af (ac (j4 O Z Z Z Z (js O Z (jf [9,4,0,1] Z (jn (ab O Z Z (fun hc9 => ?_) (fun hc9 => ?_))))))))
 exact absurd (aR hc9) (by omega)
 refine ah (ac (j4 O Z Z Z Z (AOps.step ((vF O Z).cast (v' := eI ((w.sym + 1 : Nat) : Int)) (congrArg eI (by omega))) Z Z Z (j2 O Z Z (jf [20,18,4,0,1] Z (jo O Z (ao ?_)))))))
 refine jf [4,0,1] Z (aP (j4 O Z Z Z Z (AOps.step ((vF O Z).cast (v' := eI ((w.sym : Nat) : Int)) (congrArg eI (by omega))) Z Z Z (jf [25,4,0,1] Z (ax O Z Z Z Z (vX (k := w.sym) h1 h2 hs) (aa Z) Z Z Z Z (B0 := 27000) Z Z (jf [26,4,0,1] Z (jo O Z (ao ?_))))))))
 refine jr ?_
 refine ⟨.inl Z, _, ak, _, Z, Z, Z⟩
theorem zl {c : Tm} {r : List Tm} (hl : (c :: r).length ≤ 1000) : MQ h1 h2 155 [.c (.rs 0 0 (c :: r).length)] [(0, au (c :: r))] (bb (.c (.rs 1 0 (c :: r).length)) [(0, au (c :: r)), (1, au (c :: r))]) := by
 refine aJ 500 Z (MC.keep [500,501] (bs := [au (c :: r), au (c :: r)]) Z Z (jH 8 [500] h1 h2 Tryz.func155 Z Z Z Z fun O hF => ?_))
 refine ch ?_
 refine ac (js O Z (jn (af (ac (j2 O Z Z (jn (ab O Z Z (fun hc4 => ?_) (fun hc4 => ?_))))))))
 exact absurd (show false = true from hc4) (by decide)
 refine ah (ac (AOps.heap (aZ O Z Z Z) Z (ao ?_)))
 refine js O Z (jf [6,5,3,2,0] Z ?_)
 have hl2 := hl
 simp only [jI] at hl2
 refine AOps.to (ct 5 Z) (AOps.heap (bH (own := false) (zs := (c :: r).map Tm.cells) (n := (c :: r).length) O Z Z Z Z Z Z Z Z Z Z Z Z Z Z Z Z (.row Z Z) (.whole Z (by simp) (.inr ⟨Z, Z⟩)) (by simp) Z (by simp; omega) (by simp; omega) Z (by simp)) Z (ao ?_))
 refine js O Z (jf [2,3,0] Z (jr ?_))
 refine ⟨.inl Z, _, ag 7 501 Z Z, _, Z, Z, Z⟩
theorem zj : MQ h1 h2 155 [.c (.rs 0 0 0)] [(0, au [])] (bb (.c (.rs 1 0 0)) [(0, au []), (1, au [])]) := by
 refine aJ 500 Z (MC.keep [500,501] (bs := [au [], au []]) Z Z (jH 8 [500] h1 h2 Tryz.func155 Z Z Z Z fun O hF => ?_))
 refine ch ?_
 refine ac (js O Z (jn (af (ac (js O Z (kG O Z Z Z Z Z Z Z Z Z Z (fun b => ?_)))))))
 refine jn (ab O Z Z (fun hc4 => ?_) (fun hc4 => ?_))
 refine ac (js O Z (jr ?_))
 refine ⟨.inl Z, _, cw 2 501 2 false Z Z, _, Z, Z, Z⟩
 refine ah (ac (AOps.heap (aZ O Z Z Z) Z (ao ?_)))
 refine js O Z (jf [6,5,3,2,0] Z (AOps.to (ct 5 Z) (AOps.heap (bH (own := false) (zs := []) (n := 0) O Z Z Z Z Z Z Z Z Z Z Z Z Z Z Z Z (.row Z Z) (.whole Z (by simp) (.inr ⟨Z, Z⟩)) (by simp) Z (by simp) (by simp) Z (by simp)) Z (ao ?_))))
 refine js O Z (jf [2,3,0] Z (jr ?_))
 refine ⟨.inl Z, _, ag 7 501 Z Z, _, Z, Z, Z⟩
theorem sG {L : Nat} (h1 : 4096 ≤ L) (h2 : L ≤ 1073741824) {ts : List Tm} (hl : ts.length ≤ 1000) : MC Tryz.prog L 155 [.c (.rs 0 0 ts.length)] [(0, au ts)] (bb (.c (.rs 1 0 ts.length)) [(0, au ts), (1, au ts)]) := by
 cases ts with
 | nil => exact zj h1 h2
 | cons c r => exact zl h1 h2 hl
theorem xy {c : Int} {r : List Int} (hl : (c :: r).length ≤ 1000) : MQ h1 h2 187 [.c (.rs 0 0 (c :: r).length)] [(0, aD (c :: r))] (bb (.c (.rs 1 0 (c :: r).length)) [(0, aD (c :: r)), (1, aD (c :: r))]) := by
 refine aJ 500 Z (MC.keep [500,501] (bs := [aD (c :: r), aD (c :: r)]) Z Z (jH 8 [500] h1 h2 Tryz.func187 Z Z Z Z fun O hF => ?_))
 refine ch ?_
 refine ac (js O Z (jn (af (ac (j2 O Z Z (jn (ab O Z Z (fun hc4 => ?_) (fun hc4 => ?_))))))))
 exact absurd (show false = true from hc4) (by decide)
 refine ah (ac (AOps.heap (aZ O Z Z Z) Z (ao ?_)))
 refine js O Z (jf [6,5,3,2,0] Z ?_)
 have hl2 := hl
 simp only [jI] at hl2
 refine AOps.heap (bH (own := true) (zs := (c :: r).map (fun n => [D.int .i64 n])) (n := (c :: r).length) O Z Z Z Z Z Z Z Z Z Z Z Z Z Z Z Z (.row Z Z) (.whole Z (by simp) (.inl (Scal.map (fun a => rfl)))) (by simp) Z (by simp; omega) (by simp; omega) Z (by simp)) Z (ao ?_)
 refine js O Z (jf [2,3,0] Z (jr ?_))
 refine ⟨.inl Z, _, ag 7 501 Z Z, _, Z, Z, Z⟩
theorem xx : MQ h1 h2 187 [.c (.rs 0 0 0)] [(0, aD [])] (bb (.c (.rs 1 0 0)) [(0, aD []), (1, aD [])]) := by
 refine aJ 500 Z (MC.keep [500,501] (bs := [aD [], aD []]) Z Z (jH 8 [500] h1 h2 Tryz.func187 Z Z Z Z fun O hF => ?_))
 refine ch ?_
 refine ac (js O Z (jn (af (ac (js O Z (kG O Z Z Z Z Z Z Z Z Z Z (fun b => ?_)))))))
 refine jn (ab O Z Z (fun hc4 => ?_) (fun hc4 => ?_))
 refine ac (js O Z (jr ?_))
 refine ⟨.inl Z, _, cw 2 501 1 true Z Z, _, Z, Z, Z⟩
 refine ah (ac (AOps.heap (aZ O Z Z Z) Z (ao ?_)))
 refine js O Z (jf [6,5,3,2,0] Z (AOps.heap (bH (own := true) (zs := []) (n := 0) O Z Z Z Z Z Z Z Z Z Z Z Z Z Z Z Z (.row Z Z) (.whole Z (by simp) (.inl (Scal.map (fun a => rfl)))) (by simp) Z (by simp) (by simp) Z (by simp)) Z (ao ?_)))
 refine js O Z (jf [2,3,0] Z (jr ?_))
 refine ⟨.inl Z, _, ag 7 501 Z Z, _, Z, Z, Z⟩
theorem xw {L : Nat} (h1 : 4096 ≤ L) (h2 : L ≤ 1073741824) {ts : List Int} (hl : ts.length ≤ 1000) : MC Tryz.prog L 187 [.c (.rs 0 0 ts.length)] [(0, aD ts)] (bb (.c (.rs 1 0 ts.length)) [(0, aD ts), (1, aD ts)]) := by
 cases ts with
 | nil => exact xx h1 h2
 | cons c r => exact xy h1 h2 hl
abbrev wA (st : List Tm) (l : Nat) (frm : Int) (w : Pw) (i j k : Nat) : A := .agg [.d (.int .i64 frm), .rs i 0 w.vars.length, .rs l 0 st.length, .rs j 0 w.facts.length, .rs k 0 w.ev.length, .d (.int .i64 (w.sym : Int))]
theorem vV (hv : w.vars.length ≤ 1000) (hl : w.facts.length ≤ 1000) (he : w.ev.length ≤ 1000) (hs : st.length ≤ 1000) : MQ h1 h2 175 [wA st 3 frm w 0 1 2] [(0, au w.vars), (1, au w.facts), (2, aD w.ev), (3, au st)] (bb (wA st 7 frm w 4 5 6) [(0, au w.vars), (1, au w.facts), (2, aD w.ev), (3, au st), (4, au w.vars), (5, au w.facts), (6, aD w.ev), (7, au st)]) := by
 refine aJ 500 Z (MC.keep [500,501,502,503,504,505,506,507] (bs := [au w.vars, au w.facts, aD w.ev, au st, au w.vars, au w.facts, aD w.ev, au st]) Z Z (jH 20 [500,501,502,503] h1 h2 Tryz.func175 Z Z Z Z fun O hF => ?_))
 refine ch ?_
 refine ac (jx O Z (ao ?_))
 refine jf [1] Z (jl O Z (ao ?_))
 refine jn (af (fI O [_,_,_,_,_,_,_,_,_,_,_,_,_,_,_,_,_,_,_,_] [pn [] 0 0, pn [0] 0 0, pe [0,1] 0, pn [] 0 1, pn [3] 0 1, pe (rg 0 5) 1, pn [] 0 2, pn [6] 0 2, pe (rg 0 8) 2, pn [] 0 3, pn [9] 0 3, pe (rg 0 11) 3, pn [0,1,2,3,4,6,7,9,10] 1 4, pe (rg 0 13) 4, pn (rg 0 14) 5 5, pe (rg 0 15) 5, pn (rg 0 16) 6 6, pe (rg 0 17) 6, pn (rg 0 18) 7 7, pe (rg 0 19) 7] [2,5,8,11,13,15,17,19] [_,_,_,_,_,_,_,_,_] (kc O Z (kc O Z (ai (bR O [500] (bin := [au w.vars]) Z Z Z Z (sG h1 h2 hv) Z Z Z Z Z (B0 := 6000) Z Z Z Z Z Z) (ai (kc O Z (V O Z)) (ai (kc O Z (V O Z)) (ai (bR O [503] (bin := [au st]) Z Z Z Z (sG h1 h2 hs) Z Z Z Z Z (B0 := 9000) Z Z Z Z Z Z) (ai (kc O Z (kc O Z (V O Z))) (ai (kc O Z (kc O Z (V O Z))) (ai (bR O [501] (bin := [au w.facts]) Z Z Z Z (sG h1 h2 hl) Z Z Z Z Z (B0 := 12000) Z Z Z Z Z Z) (ai (kc O Z (kc O Z (kc O Z (V O Z)))) (ai (kc O Z (kc O Z (kc O Z (V O Z)))) (ai (bR O [502] (bin := [aD w.ev]) Z Z Z Z (xw h1 h2 he) Z Z Z Z Z (B0 := 15000) Z Z Z Z Z Z) (ai (kc O Z (kc O Z (kc O Z (V O Z)))) (ai (eS O Z Z Z) (kc O Z (ai (eS O Z Z Z) (kc O Z (ai (eS O Z Z Z) (kc O Z (ai (eS O Z Z Z) trivial)))))))))))))))))))) ?_))
 refine jw [2,1] Z (ch ?_)
 refine ac (js O Z (jo O Z (ao ?_)))
 refine jr ?_
 refine ⟨.inl Z, _, (((ag 6001 504 Z Z).trans (ag 12001 505 Z Z)).trans (ag 15001 506 Z Z)).trans (ag 9001 507 Z Z), _, Z, Z, Z⟩
theorem py : MQ h1 h2 171 [.c (.pt 0 0 0), cU t, eB ok] [(0, iB c g 1 2 3), (1, aG g.paths), (2, aH g.conds), (3, au st)] (bb (cU t) [(0, iB c (g.flag (!ok)) 1 2 3), (1, aG (g.flag (!ok)).paths), (2, aH (g.flag (!ok)).conds), (3, au st)]) := by
 refine aJ 500 Z (MC.keep [500,501,502,503] (bs := [iB c (g.flag (!ok)) 501 502 503, aG (g.flag (!ok)).paths, aH (g.flag (!ok)).conds, au st]) Z Z (jH 13 [500,501,502,503] h1 h2 Tryz.func171 Z Z Z Z fun O hF => ?_))
 refine ch ?_
 refine ac (jx O Z (ao ?_))
 refine jf [4,0,2] Z (jl O Z (ao ?_))
 refine jn (af (ac (j2 O Z Z (jf [8,6,4,0] Z (jn (ab O Z Z (fun hc8 => ?_) (fun hc8 => ?_)))))))
 refine aj (j3 O Z Z Z (jf [11,6,4] Z (jo O Z (ao ?_))))
 refine aP (js O Z (jf [12,11,6] Z (jo O Z (ao ?_))))
 refine jr ?_
 have hok : ok = false := by simpa using hc8
 subst hok
 rw [show g.flag (!false) = ⟨g.paths, g.conds, true⟩ from flag_true]
 refine ⟨.inl Z, _, ak, _, Z, Z, Z⟩
 refine ah (ac (js O Z (jf [12,6,0] Z (jo O Z (ao ?_)))))
 refine jr ?_
 have hok : ok = true := by simpa using hc8
 subst hok
 rw [show g.flag (!true) = g from flag_false]
 refine ⟨.inl Z, _, ak, _, Z, Z, Z⟩
abbrev xB (d : D) : B := .box [.d d]
abbrev pB (l : Nat) : B := .box [.pt l 0 0]
abbrev bX (x : In) : B := .box [.d (.int .i64 x.op), .d (.int .i64 x.a)]
abbrev iT (st : List Tm) (c : Pc) (g : Gs) (w : Pw) (d8 : D) (x : In) : List (Nat × B) := [(0, iB c g 1 2 3), (1, aG g.paths), (2, aH g.conds), (3, au st), (4, au w.vars), (5, au w.facts), (6, aD w.ev), (7, pB 0), (8, xB d8), (9, bX x)]
abbrev oT (c : Pc) (g : Gs) (d8 : D) (x : In) : List (Nat × B) := [(0, iB c g 10 11 3), (7, pB 0), (8, xB d8), (9, bX x), (10, aG g.paths), (11, aH g.conds)]
abbrev db (w : Pw) (t : Tm) (g : Gs) : Gs := (g.flag (!(bK t).2)).flag (w.fact t).long
def nV (Y : Pw → Gs → Gs) : Prop := ∀ u g, g.bad = true → Y u g = g
theorem ww {Y : Pw → Gs → Gs} (hY : nV Y) {w : Pw} {t u : Tm} {g : Gs} (hb : (Y (w.fact t) (db w t g)).bad = false) : (Y (w.fact t) (db w t g)).flag (w.fact u).long = Y (w.fact t) (db w t g) := by
 have h2 : (db w t g).bad = false := by
  cases h : (db w t g).bad with
  | false => rfl
  | true => rw [hY _ _ h, h] at hb; cases hb
 have h3 : (w.fact t).long = false := by simp [db, Gs.flag] at h2; exact h2.2
 rw [i9 (t := u) (u := t), h3, ky]
theorem yP {Y N : Pw → Gs → Gs} (hY : nV Y) (hN : nV N) {w : Pw} {t : Tm} {g : Gs} (h : (g.flag (!(bK t).2)).bad = true) : ga Y N w t g = g.flag (!(bK t).2) := by
 rw [ga, lE h, hY _ _ h, hN _ _ h]
theorem yO {Y N : Pw → Gs → Gs} (hY : nV Y) (hN : nV N) {w : Pw} {t : Tm} {g : Gs} (h : (db w t g).bad = true) : ga Y N w t g = db w t g := by
 rw [ga, hY _ _ h, hN _ _ h]
theorem yN {Y N : Pw → Gs → Gs} (hN : nV N) {w : Pw} {t : Tm} {g : Gs} (h : (Y (w.fact t) (db w t g)).bad = true) : ga Y N w t g = Y (w.fact t) (db w t g) := by
 rw [ga, hN _ _ h]
theorem xC {L : Nat} (h1 : 4096 ≤ L) (h2 : L ≤ 1073741824) {c : Pc} {g : Gs} {frm : Int} {w : Pw} {st : List Tm} {t : Tm} (hl : w.facts.length ≤ 1000) (he : g.flag (w.fact t).long = g) : MC Tryz.prog L 154 [.c (.pt 0 0 0), .c (.pt 4 0 0), cU t] (iH st.length st c g frm w) (bb (.tup []) (BB st.length st c g frm (w.fact t))) := by
 have h := qI h1 h2 (sn := st.length) (st := st) (c := c) (g := g) (frm := frm) (w := w) (t := t) hl
 rw [he] at h
 exact h
theorem xE {d8 : D} {fy fn : Nat} {Y N : Pw → Gs → Gs} (hY : nV Y) (hN : nV N) (ht : t.ok = true) (hv : w.vars.length ≤ 1000) (hl : w.facts.length ≤ 1000) (he : w.ev.length ≤ 1000) (hs : st.length ≤ 1000)
  (hy : (db w t g).bad = false → MQ h1 h2 fy [wA st 3 frm (w.fact t) 4 5 6, .c (.pt 7 0 0), .c (.pt 8 0 0)] (iT st c (db w t g) (w.fact t) d8 x) (bb (.tup []) (oT c (Y (w.fact t) (db w t g)) d8 x))) (hn : (Y (w.fact t) (db w t g)).bad = false → MQ h1 h2 fn [wA st 3 frm (w.fact (bK t).1) 4 5 6, .c (.pt 7 0 0), .c (.pt 9 0 0)] (iT st c (Y (w.fact t) (db w t g)) (w.fact (bK t).1) d8 x) (bb (.tup []) (oT c (N (w.fact (bK t).1) (Y (w.fact t) (db w t g))) d8 x))) :
  MQ h1 h2 148 [.c (.pt 0 0 0), wA st 3 frm w 4 5 6, cU t, .c (.fn fy [.pt 7 0 0, .pt 8 0 0]), .c (.fn fn [.pt 7 0 0, .pt 9 0 0])] (iT st c g w d8 x) (bb (.tup []) (oT c (ga Y N w t g) d8 x)) := by
 refine aJ 500 Z (MC.keep [500,507,508,509,510,511] (bs := [iB c (ga Y N w t g) 510 511 503, pB 500, xB d8, bX x, aG (ga Y N w t g).paths, aH (ga Y N w t g).conds]) Z Z (jH 53 [500,501,502,503,504,505,506,507,508,509] h1 h2 Tryz.func148 Z Z Z Z fun O hF => ?_))
 refine ch ?_
 refine ac (jx O Z (ao ?_))
 refine jf [6,0,2,3,4] Z (jx O Z (ao ?_))
 refine AOps.to (Ent.freeze 7 (e' := [(7, _), (6, _), (0, _), (3, _), (4, _)]) Z (.cons Z (.c (.box (cs := Tm.cells t) Z (aq Z))) (fe [6,0,3,4] Z)) (.cons Z (.box (fk Z)) (.skip (.cons Z (.box (fk Z)) (.cons Z .row (.cons Z .row (.cons Z .row (.cons Z .row (.cons Z .row (.cons Z .row (.cons Z (.box (fk Z)) (.cons Z (.box (fk Z)) (.cons Z (.box (fk Z)) .nil))))))))))))) ?_
 refine ao ?_
 refine aP (j2 O Z Z (ax O Z Z Z Z (zJ (t := t) h1 h2 ht) (aa Z) Z Z Z Z (B0 := 16000) Z Z (j2 O Z Z (jf [17,16,13,7,6,0,3,4] Z (ay O [500,501,502,503] (bin := [iB c g 1 2 3, aG g.paths, aH g.conds, au st]) Z Z Z Z (py (st := st) (c := c) (g := g) (t := (bK t).1) (ok := (bK t).2) h1 h2) Z Z Z Z Z Z (B0 := 19000) Z Z (ao ?_))))))
 refine jf [18,7,6,0,3,4] Z (jl O Z (ao ?_))
 refine jo O Z (ao ?_)
 refine AOps.to (Ent.freeze 10 (e' := [(10, _), (6, _), (7, _), (0, _), (3, _), (4, _)]) Z (.cons Z (.c (.box (cs := Tm.cells (bK t).1) Z (aq Z))) (fe [6,7,0,3,4] Z)) (.cons Z (.box (fk Z)) (.skip (.cons Z .row (.cons Z .row (.cons Z .row (.cons Z (.box (fk Z)) (.cons Z (.box (fk Z)) (.cons Z (.box (fk Z)) (.cons Z (.box (fk Z)) (.cons Z .row (.cons Z .row (.cons Z .row .nil))))))))))))) ?_
 refine ao ?_
 refine jn (af (ac (j4 O Z Z Z Z (jf [22,10,6,7,0,3,4] Z (jn (ab O Z Z (fun hc22 => ?_) (fun hc22 => ?_)))))))
 refine iZ ?_
 rw [yP hY hN hc22]
 refine ⟨.inl Z, _, (ag 501 510 Z Z).trans (ag 502 511 Z Z), _, Z, Z, Z⟩
 refine ah (ac (js O Z (jf [23,10,6,7,0,3,4] Z (ay O [504,505,506,503] (bin := [au w.vars, au w.facts, aD w.ev, au st]) Z Z Z Z (vV (frm := frm) (w := w) (st := st) h1 h2 hv hl he hs) Z Z Z Z Z Z (B0 := 25000) Z Z (ao ?_)))))
 refine jf [24,10,6,7,0,3,4] Z (jl O Z (ao ?_))
 refine jo O Z (ao ?_)
 refine aP (j2 O Z Z (ay O [500,501,502,25007,11,25004,25005,25006] (bin := [iB c (g.flag (!(bK t).2)) 1 2 3, aG (g.flag (!(bK t).2)).paths, aH (g.flag (!(bK t).2)).conds, au st, iW st.length 3 frm w 5 6 7, au w.vars, au w.facts, aD w.ev]) Z Z Z Z (qI (sn := st.length) (st := st) (c := c) (g := (g.flag (!(bK t).2))) (frm := frm) (w := w) (t := t) h1 h2 hl) Z Z Z Z Z Z (B0 := 28000) Z Z (ao ?_)))
 refine jf [11,24,10,6,7,0,3,4] Z (jn (af (ac (j4 O Z Z Z Z (js O Z (jf [32,11,24,10,6,7,0,3,4] Z (jn (ab O Z Z (fun hc32 => ?_) (fun hc32 => ?_)))))))))
 refine aj (j2 O Z Z (jf [34,33,11,24,10,6,7,0,4] Z (ay O [500,501,502,25007,25004,28009,25006,507,508,509] (bin := [iB c (db w t g) 1 2 3, aG (db w t g).paths, aH (db w t g).conds, au st, au (w.fact t).vars, au (w.fact t).facts, aD (w.fact t).ev, pB 0, xB d8, bX x]) Z Z Z Z (hy (by simpa using hc32)) Z Z Z Z Z Z (B0 := 36000) Z Z (ao ?_))))
 refine jf [11,24,10,6,7,0,4] Z (jn (af (ac (j4 O Z Z Z Z (jf [39,11,24,10,6,7,0,4] Z (jn (ab O Z Z (fun hc39 => ?_) (fun hc39 => ?_))))))))
 refine iZ ?_
 rw [yN hN hc39]
 refine ⟨.inl Z, _, (ag 36010 510 Z Z).trans (ag 36011 511 Z Z), _, Z, Z, Z⟩
 refine ah (ac (js O Z (jf [40,11,24,10,6,7,0,4] Z (ay O [504,505,506,503] (bin := [au w.vars, au w.facts, aD w.ev, au st]) Z Z Z Z (vV (frm := frm) (w := w) (st := st) h1 h2 hv hl he hs) Z Z Z Z Z Z (B0 := 42000) Z Z (ao ?_)))))
 refine jf [41,11,24,10,6,7,0,4] Z (jl O Z (ao ?_))
 refine jo O Z (ao ?_)
 refine aP (j2 O Z Z (ay O [500,36010,36011,42007,12,42004,42005,42006] (bin := [iB c (Y (w.fact t) (db w t g)) 1 2 3, aG (Y (w.fact t) (db w t g)).paths, aH (Y (w.fact t) (db w t g)).conds, au st, iW st.length 3 frm w 5 6 7, au w.vars, au w.facts, aD w.ev]) Z Z Z Z (xC (st := st) (c := c) (g := (Y (w.fact t) (db w t g))) (frm := frm) (w := w) (t := (bK t).1) h1 h2 hl (ww hY hc39)) Z Z Z Z Z Z (B0 := 45000) Z Z (ao ?_)))
 refine jf [12,41,11,24,10,6,7,0,4] Z (aP (j4 O Z Z Z Z (js O Z (jf [49,12,41,11,24,10,6,7,0,4] Z (jn (ab O Z Z (fun hc49 => ?_) (fun hc49 => ?_)))))))
 refine aj (j2 O Z Z (jf [51,50,12,41,11,24,10,6,7,0] Z (ay O [500,36010,36011,42007,42004,45009,42006,507,508,509] (bin := [iB c (Y (w.fact t) (db w t g)) 1 2 3, aG (Y (w.fact t) (db w t g)).paths, aH (Y (w.fact t) (db w t g)).conds, au st, au (w.fact (bK t).1).vars, au (w.fact (bK t).1).facts, aD (w.fact (bK t).1).ev, pB 0, xB d8, bX x]) Z Z Z Z (hn hc39) Z Z Z Z Z Z (B0 := 53000) Z Z (ao ?_))))
 refine jf [12,41,11,24,10,6,7,0] Z (jn ?_)
 show _ ∧ _
 refine ⟨.inr Z, _, (ag 53010 510 Z Z).trans (ag 53011 511 Z Z), _, Z, Z, Z⟩
 exact absurd (show (!(Y (w.fact t) (db w t g)).bad) = false from hc49) (by rw [show (Y (w.fact t) (db w t g)).bad = false from hc39]; decide)
 refine ah (af (ac (j4 O Z Z Z Z (jf [39,11,24,10,6,7,0,3,4] Z (jn (ab O Z Z (fun hc39 => ?_) (fun hc39 => ?_)))))))
 refine iZ ?_
 rw [yO hY hN hc39]
 refine ⟨.inl Z, _, (ag 501 510 Z Z).trans (ag 502 511 Z Z), _, Z, Z, Z⟩
 exact absurd (show (!(db w t g).bad) = false from hc32) (by rw [show (db w t g).bad = false from hc39]; decide)
theorem qB {u : Tm} (hu : u.ok = true) (ht : t.ok = true) : MQ h1 h2 146 [cU u, cU t] [] (Plain (eM (eg u t))) := by
 refine MC.data (jB 23 h1 h2 Tryz.func146 Z Z Z fun O hF => ?_)
 refine ac (jx O Z (ao ?_))
 refine jf [2,1] Z (jx O Z (ao ?_))
 refine jf [3,2] Z (jl O Z (ao ?_))
 refine js O Z (jn (af (ac (js O Z (ae O Z Z Z Z ((mh (t := u) h1 h2).plain (u := eB true) (by rw [hu])) (aa Z) Z Z Z Z Z (B0 := 8000) Z (j2 O Z Z (jf [9,5,4,3,2] Z (bz Z (js O Z (bz Z (ae O Z Z Z Z ((mh (t := t) h1 h2).plain (u := eB true) (by rw [ht])) (aa Z) Z Z Z Z Z (B0 := 12000) Z (jf [11,9,5,4,3,2] Z (bz Z (js O Z (AOps.step (aF O Z Z Z Z Z) Z Z Z (jf [13,5,4,3,2] Z (jn (ab O Z Z (fun hc13 => ?_) (fun hc13 => ?_)))))))))))))))))))
 exact absurd hc13 (by decide)
 refine ah (ac (j2 O Z Z (jf [16,15,5,4,3,2] Z (AOps.heap (cH O Z Z Z Z Z Z Z Z Z Z Z) Z (ao ?_)))))
 refine ao ?_
 refine jf [17,5,4,3,2] Z (AOps.heap (aZ O Z Z Z) Z (ao ?_))
 refine AOps.to (Ent.freeze 17 (e' := [(17, _), (18, _), (2, _), (3, _), (4, _)]) Z (.cons Z (.c (.row Z Z)) (fe [18,2,3,4] Z)) (.cons Z (.box (fk Z)) (.cons Z (.box (fk Z)) (.cons Z (.box (fk Z)) (.skip (.cons Z .row .nil)))))) ?_
 refine AOps.to (Ent.freeze 18 (e' := [(17, _), (18, _), (2, _), (3, _), (4, _)]) Z (.cons Z (.keep Z) (.cons Z (.c (.row Z Z)) (fe [2,3,4] Z))) (.cons Z (.box (fk Z)) (.cons Z (.box (fk Z)) (.cons Z (.box (fk Z)) (.skip .nil))))) ?_
 refine ao ?_
 refine ax O rfl rfl rfl rfl (sB (ts := [u, t]) (ms := [1,1]) h1 h2 ⟨fun x hx => by simp only [List.mem_cons, List.not_mem_nil, or_false] at hx; rcases hx with rfl | rfl; exact hu; exact ht, by show (2 : Nat) ≤ 1000; decide⟩ (by decide) (bw _)) (aa rfl) rfl rfl rfl rfl (B0 := 20000) rfl rfl (jf [19,2,3,4] Z (ax O Z Z Z Z ((sO (t := em [u, t] [1,1]) h1 h2).plain (u := eM (eg u t)) Z) (aa Z) Z Z Z Z (B0 := 21000) Z Z (j2 O Z Z (jf [22,21,2,3,4] Z (jo O Z (ao ?_))))))
 refine js O Z (jf [5,2,3,4] Z (jr ?_))
 refine ⟨.inl Z, _, ak, _, Z, ?_⟩
 exact .tup (.cons (.agg (aq Z)) (.cons (.c .d) .nil))
theorem qA {n : Int} (ht : t.ok = true) (hn : num n = true) : MQ h1 h2 147 [cU t, eI n] [] (Plain (eM (ee t n))) := by
 refine MC.data (jB 23 h1 h2 Tryz.func147 Z Z Z fun O hF => ?_)
 refine ac (jx O Z (ao ?_))
 refine jf [2,1] Z (jl O Z (ao ?_))
 refine js O Z (jn (af (ac (js O Z (ae O Z Z Z Z ((mh (t := t) h1 h2).plain (u := eB true) (by rw [ht])) (aa Z) Z Z Z Z Z (B0 := 8000) Z (j2 O Z Z (jf [9,5,4,2,1] Z (bz Z (js O Z (bz Z (ae O Z Z Z Z ((uk (x := n) h1 h2).plain (u := eB true) (by rw [hn])) (aa Z) Z Z Z Z Z (B0 := 12000) Z (jf [11,9,5,4,2,1] Z (bz Z (js O Z (AOps.step (aF O Z Z Z Z Z) Z Z Z (jf [13,5,4,2,1] Z (jn (ab O Z Z (fun hc13 => ?_) (fun hc13 => ?_)))))))))))))))))))
 exact absurd hc13 (by decide)
 refine ah (ac (js O Z (jf [15,5,4,2,1] Z (AOps.heap (cH O Z Z Z Z Z Z Z Z Z Z Z) Z (ao ?_)))))
 refine ao ?_
 refine js O Z (jf [17,16,5,4,2,1] Z (AOps.heap (aZ O Z Z Z) Z (ao ?_)))
 refine AOps.to (Ent.freeze 16 (e' := [(16, _), (18, _), (2, _), (4, _)]) Z (.cons Z (.c (.row Z Z)) (fe [18,2,4] Z)) (.cons Z (.box (fk Z)) (.cons Z (.box (fk Z)) (.skip (.cons Z .row .nil))))) ?_
 refine AOps.to (Ent.freeze 18 (e' := [(16, _), (18, _), (2, _), (4, _)]) Z (.cons Z (.keep Z) (.cons Z (.c (.row Z Z)) (fe [2,4] Z))) (.cons Z (.box (fk Z)) (.cons Z (.box (fk Z)) (.skip .nil)))) ?_
 refine ao ?_
 refine ax O rfl rfl rfl rfl (sB (ts := [t]) (ms := [n]) h1 h2 ⟨fun x hx => by simp only [List.mem_singleton] at hx; subst hx; exact ht, by show (1 : Nat) ≤ 1000; decide⟩ (by simp [hn]) (bw _)) (aa rfl) rfl rfl rfl rfl (B0 := 20000) rfl rfl (jf [19,2,4] Z (ax O Z Z Z Z ((sO (t := em [t] [n]) h1 h2).plain (u := eM (ee t n)) Z) (aa Z) Z Z Z Z (B0 := 21000) Z Z (j2 O Z Z (jf [22,21,2,4] Z (jo O Z (ao ?_))))))
 refine js O Z (jf [5,2,4] Z (jr ?_))
 refine ⟨.inl Z, _, ak, _, Z, ?_⟩
 exact .tup (.cons (.agg (aq Z)) (.cons (.c .d) .nil))
abbrev BA (st : List Tm) (c : Pc) (g : Gs) (frm : Int) (w : Pw) : List (Nat × B) := [(0, iB c g 1 2 3), (1, aG g.paths), (2, aH g.conds), (4, iW st.length 8 frm w 5 6 7), (5, au w.vars), (6, au w.facts), (7, aD w.ev), (8, au st)]
theorem k8 (hl : st.length ≤ 1000) : MQ h1 h2 144 [.c (.pt 0 0 0), .c (.pt 4 0 0), cU t, eB ok] (iH st.length st c g frm w) (bb (.tup []) (BA (st ++ [t]) c (aW t ok ⟨w, st, g⟩).g frm w)) := by
 refine aJ 500 Z (MC.keep [500,501,502,504,505,506,507,508] (bs := [iB c (aW t ok ⟨w, st, g⟩).g 501 502 503, aG (aW t ok ⟨w, st, g⟩).g.paths, aH (aW t ok ⟨w, st, g⟩).g.conds, iW (st ++ [t]).length 508 frm w 505 506 507, au w.vars, au w.facts, aD w.ev, au (st ++ [t])]) Z Z (jH 33 [500,501,502,503,504,505,506,507] h1 h2 Tryz.func144 Z Z Z Z fun O hF => ?_))
 refine ch ?_
 refine ac (jx O Z (ao ?_))
 refine AOps.to (Ent.freeze 6 (e' := [(6, _), (0, _), (1, _), (3, _)]) Z (.cons Z (.c (.box (cs := Tm.cells t) Z (aq Z))) (fe [0,1,3] Z)) (.skip (.cons Z (.box (fk Z)) (.cons Z .row (.cons Z .row (.cons Z .row (.cons Z (.box (fk Z)) (.cons Z .row (.cons Z .row (.cons Z .row .nil)))))))))) ?_
 refine ao ?_
 refine jn (af (mb O [_,_,_,_,_,_,_,_,_,_,_,_,_,_,_,_] [pn [] 0 3, pn [] 0 2, pn [1] 0 2, pn [1,2] 0 2, pn [1,2,3] 0 2, pn [] 0 0, pn [5] 0 0, pn [5,6] 0 0, pn [] 0 0, pn [] 0 0, pe (rg 5 5) 0, pe (rg 5 6) 1, pe (rg 1 11) 2, pn (rg 0 13) 3 3, pn (rg 0 14) 3 3, pe (rg 0 15) 3] [10,11,12,15] [_,_,_,_,_] [[], [], [503], []] (ai (ka O Z Z (ka O Z Z (ka O Z Z (kw O Z Z)))) (ai (ka O Z Z (ka O Z Z (kw O Z Z))) (ai (ka O Z Z (ka O Z Z (kw O Z Z))) (ai (ka O Z Z (ka O Z Z (kw O Z Z))) (ai (ka O Z Z (ka O Z Z (kw O Z Z))) (ka O Z Z (ka O Z Z (ka O Z Z (ka O Z Z (ka O Z Z (ai (ai (aT (bR O [500,501,502,503] (bin := [iB c g 1 2 3, aG g.paths, aH g.conds, au st]) Z Z Z Z (py (st := st) (c := c) (g := g) (t := t) (ok := ok) h1 h2) Z Z Z Z Z (B0 := 19000) Z Z Z Z Z Z)) Z) (ai (ai (aT (b9 O Z Z Z Z Z Z Z Z Z Z Z Z Z Z)) Z) (ai (ai (bN (own := false) (xs := st.map Tm.cells) (ys := [Tm.cells t]) (zs := ((st ++ [t])).map Tm.cells) (n := (st ++ [t]).length) O Z Z Z Z Z Z Z Z Z Z Z Z Z Z Z Z (.row Z (bt _).symm) (.whole Z Z (.inr ⟨Z, Z⟩)) (by simp) Z (by simp; omega) (by simp; omega) (by simp) (by simp) Z) Z) (ka O Z Z (ka O Z Z (ai (ai (aT (eS O Z Z Z)) Z) trivial)))))))))))))))) ?_))
 refine jw [0,1] Z (ch ?_)
 refine ac (j4 O Z Z Z Z (AOps.step (aO O Z Z (by simp only [c9, ij]; omega)) Z Z Z (js O Z (jf [28,0,1] Z (jn (ab O Z Z (fun hc28 => ?_) (fun hc28 => ?_)))))))
 refine aj (j4 O Z Z Z Z (jf [32,0,1] Z (jo O Z (ao ?_))))
 refine jn ?_
 show _ ∧ _
 have hlo : decide (6 < (st ++ [t]).length) = true := decide_eq_true (by have := aR hc28; omega)
 rw [show (aW t ok ⟨w, st, g⟩).g = (g.flag (!ok)).flag (decide (6 < (st ++ [t]).length)) from Z, hlo, flag_true]
 refine ⟨.inr Z, _, ag 20 508 Z Z, _, Z, Z, Z⟩
 refine ah ?_
 show _ ∧ _
 have hlo : decide (6 < (st ++ [t]).length) = false := decide_eq_false (by have := bn hc28; omega)
 rw [show (aW t ok ⟨w, st, g⟩).g = (g.flag (!ok)).flag (decide (6 < (st ++ [t]).length)) from Z, hlo, flag_false]
 refine ⟨.inr Z, _, ag 20 508 Z Z, _, Z, Z, Z⟩
theorem wU {n : Int} (hl : st.length ≤ 1000) : MQ h1 h2 144 [.c (.pt 0 0 0), .c (.pt 4 0 0), .agg [.d (.int .i64 n), .d .nils], eB ok] (iH st.length st c g frm w) (bb (.tup []) (BA (st ++ [(⟨n, []⟩ : Tm)]) c (aW (⟨n, []⟩ : Tm) ok ⟨w, st, g⟩).g frm w)) := by
 refine aJ 500 Z (MC.keep [500,501,502,504,505,506,507,508] (bs := [iB c (aW (⟨n, []⟩ : Tm) ok ⟨w, st, g⟩).g 501 502 503, aG (aW (⟨n, []⟩ : Tm) ok ⟨w, st, g⟩).g.paths, aH (aW (⟨n, []⟩ : Tm) ok ⟨w, st, g⟩).g.conds, iW (st ++ [(⟨n, []⟩ : Tm)]).length 508 frm w 505 506 507, au w.vars, au w.facts, aD w.ev, au (st ++ [(⟨n, []⟩ : Tm)])]) Z Z (jH 33 [500,501,502,503,504,505,506,507] h1 h2 Tryz.func144 Z Z Z Z fun O hF => ?_))
 refine ch ?_
 refine ac (jx O Z (ao ?_))
 refine AOps.to (Ent.freeze 6 (e' := [(6, _), (0, _), (1, _), (3, _)]) Z (.cons Z (.c (.box (cs := Tm.cells (⟨n, []⟩ : Tm)) Z (.cons .d (.cons .nils .nil)))) (fe [0,1,3] Z)) (.skip (.cons Z (.box (fk Z)) (.cons Z .row (.cons Z .row (.cons Z .row (.cons Z (.box (fk Z)) (.cons Z .row (.cons Z .row (.cons Z .row .nil)))))))))) ?_
 refine ao ?_
 refine jn (af (mb O [_,_,_,_,_,_,_,_,_,_,_,_,_,_,_,_] [pn [] 0 3, pn [] 0 2, pn [1] 0 2, pn [1,2] 0 2, pn [1,2,3] 0 2, pn [] 0 0, pn [5] 0 0, pn [5,6] 0 0, pn [] 0 0, pn [] 0 0, pe (rg 5 5) 0, pe (rg 5 6) 1, pe (rg 1 11) 2, pn (rg 0 13) 3 3, pn (rg 0 14) 3 3, pe (rg 0 15) 3] [10,11,12,15] [_,_,_,_,_] [[], [], [503], []] (ai (ka O Z Z (ka O Z Z (ka O Z Z (kw O Z Z)))) (ai (ka O Z Z (ka O Z Z (kw O Z Z))) (ai (ka O Z Z (ka O Z Z (kw O Z Z))) (ai (ka O Z Z (ka O Z Z (kw O Z Z))) (ai (ka O Z Z (ka O Z Z (kw O Z Z))) (ka O Z Z (ka O Z Z (ka O Z Z (ka O Z Z (ka O Z Z (ai (ai (aT (bR O [500,501,502,503] (bin := [iB c g 1 2 3, aG g.paths, aH g.conds, au st]) Z Z Z Z (py (st := st) (c := c) (g := g) (t := (⟨n, []⟩ : Tm)) (ok := ok) h1 h2) Z Z Z Z Z (B0 := 19000) Z Z Z Z Z Z)) Z) (ai (ai (aT (b9 O Z Z Z Z Z Z Z Z Z Z Z Z Z Z)) Z) (ai (ai (bN (own := false) (xs := st.map Tm.cells) (ys := [Tm.cells (⟨n, []⟩ : Tm)]) (zs := ((st ++ [(⟨n, []⟩ : Tm)])).map Tm.cells) (n := (st ++ [(⟨n, []⟩ : Tm)]).length) O Z Z Z Z Z Z Z Z Z Z Z Z Z Z Z Z (.row Z (bt _).symm) (.whole Z Z (.inr ⟨Z, Z⟩)) (by simp) Z (by simp; omega) (by simp; omega) (by simp) (by simp) Z) Z) (ka O Z Z (ka O Z Z (ai (ai (aT (eS O Z Z Z)) Z) trivial)))))))))))))))) ?_))
 refine jw [0,1] Z (ch ?_)
 refine ac (j4 O Z Z Z Z (AOps.step (aO O Z Z (by simp only [c9, ij]; omega)) Z Z Z (js O Z (jf [28,0,1] Z (jn (ab O Z Z (fun hc28 => ?_) (fun hc28 => ?_)))))))
 refine aj (j4 O Z Z Z Z (jf [32,0,1] Z (jo O Z (ao ?_))))
 refine jn ?_
 show _ ∧ _
 have hlo : decide (6 < (st ++ [(⟨n, []⟩ : Tm)]).length) = true := decide_eq_true (by have := aR hc28; omega)
 rw [show (aW (⟨n, []⟩ : Tm) ok ⟨w, st, g⟩).g = (g.flag (!ok)).flag (decide (6 < (st ++ [(⟨n, []⟩ : Tm)]).length)) from Z, hlo, flag_true]
 refine ⟨.inr Z, _, ag 20 508 Z Z, _, Z, Z, Z⟩
 refine ah ?_
 show _ ∧ _
 have hlo : decide (6 < (st ++ [(⟨n, []⟩ : Tm)]).length) = false := decide_eq_false (by have := bn hc28; omega)
 rw [show (aW (⟨n, []⟩ : Tm) ok ⟨w, st, g⟩).g = (g.flag (!ok)).flag (decide (6 < (st ++ [(⟨n, []⟩ : Tm)]).length)) from Z, hlo, flag_false]
 refine ⟨.inr Z, _, ag 20 508 Z Z, _, Z, Z, Z⟩
theorem gp {k : Nat} (hk : k ≤ st.length) (hl : st.length ≤ 1000) : MQ h1 h2 145 [.c (.pt 0 0 0), .c (.pt 4 0 0), eI k] (iH st.length st c g frm w) (bb (.c (.rs 3 (st.length - k) k)) (iH (st.length - k) st c g frm w)) := by
 refine aJ 500 Z (MC.keep [500,501,502,503,504,505,506,507] (bs := [iB c g 501 502 503, aG g.paths, aH g.conds, au st, iW (st.length - k) 503 frm w 505 506 507, au w.vars, au w.facts, aD w.ev]) Z Z (jH 41 [500,501,502,503,504,505,506,507] h1 h2 Tryz.func145 Z Z Z Z fun O hF => ?_))
 refine ch ?_
 refine ac (js O Z (aP (j4 O Z Z Z Z ?_)))
 first | refine bo O Z ?_ | refine js O Z ?_ | refine aU O Z Z ?_
 refine js O Z (AOps.step ((az O Z Z (by omega) (by omega)).cast (v' := eI ((st.length - k) : Nat)) (congrArg eI (by omega))) Z Z Z (js O Z (jf [7,6,0,1,2] Z (jn (af (ac (j2 O Z Z (jn (ab O Z Z (fun hc17 => ?_) (fun hc17 => ?_))))))))))
 exact absurd (aR hc17) (by omega)
 refine ah (ac (j4 O Z Z Z Z (js O Z (AOps.step ((aO O Z Z (by omega)).cast (v' := .c (.rs 503 (st.length - k) k)) (by show A.c (.rs 503 _ _) = _; rw [Nat.zero_add, Int.toNat_natCast, show st.length - (st.length - k) = k by omega])) Z Z Z (js O Z (jf [8,16,7,6,0,1,2] Z (aP (j4 O Z Z Z Z (j3 O Z Z Z (AOps.step (qi O Z Z Z Z Z Z Z Z Z Z Z (Nat.sub_le _ _)) Z Z Z (j2 O Z Z (jf [39,37,8,16,7,6,0,1,2] Z (jo O Z (ao ?_))))))))))))))
 refine jf [8,16,7,6,0,1,2] Z (aP (j2 O Z Z (jf [6,16,7,0,1,2] Z (jr ?_))))
 refine ⟨.inl Z, _, ak, _, Z, Z, Z⟩
theorem j1 (hk : st.length < 1) : MQ h1 h2 145 [.c (.pt 0 0 0), .c (.pt 4 0 0), eI 1] (iH st.length st c g frm w) (bb (cD [tz]) (iH st.length st c (g.flag true) frm w)) := by
 refine aJ 500 Z (MC.keep [500,501,502,503,504,505,506,507] (bs := [iB c (g.flag true) 501 502 503, aG (g.flag true).paths, aH (g.flag true).conds, au st, iW st.length 503 frm w 505 506 507, au w.vars, au w.facts, aD w.ev]) Z Z (jH 41 [500,501,502,503,504,505,506,507] h1 h2 Tryz.func145 Z Z Z Z fun O hF => ?_))
 refine ch ?_
 rw [show g.flag true = ⟨g.paths, g.conds, true⟩ from flag_true]
 refine ac (js O Z (aP (j4 O Z Z Z Z ?_)))
 first | refine bo O Z ?_ | refine js O Z ?_ | refine aU O Z Z ?_
 refine js O Z (AOps.step ((az O Z Z (by omega) (by omega)).cast (v' := eI ((st.length : Int) - 1)) Z) Z Z Z (js O Z (jf [7,6,0,1,2] Z (jn (af (ac (j2 O Z Z (jn (ab O Z Z (fun hc17 => ?_) (fun hc17 => ?_))))))))))
 refine ac (j4 O Z Z Z Z (jf [21,16,7,6,1,2] Z (jo O Z (ao ?_))))
 refine aP (js O Z (AOps.heap (cd O Z Z Z Z Z Z Z Z Z (by first | omega | (simp at *; omega)) (by first | omega | (simp at *; omega)) (by first | omega | (simp at *; omega)) (by first | omega | (dsimp only; omega) | (simp only [aN] at *; omega)) (by first | omega | (simp at *; omega)) Z Z Z) Z (ao ?_)))
 refine js O Z (jf [6,21,16,7,1,2] Z (jr ?_))
 refine ⟨.inl Z, _, (Ent.rowLe 23 Z (.cons (.cons .refl (.cons (.nil (sz := 1)) .nil)) .nil)).trans (Ent.freeze 23 (e' := [(6, _)]) Z (.cons Z (.c (.row Z Z)) .nil) (.skip (.cons Z (.box (fk Z)) (.cons Z .row (.cons Z .row (.cons Z .row (.cons Z (.box (fk Z)) (.cons Z .row (.cons Z .row (.cons Z .row .nil)))))))))), _, Z, Z, Z⟩
 exact absurd (bn hc17) (by omega)
theorem tj (hk : st.length < 2) : MQ h1 h2 145 [.c (.pt 0 0 0), .c (.pt 4 0 0), eI 2] (iH st.length st c g frm w) (bb (cD [tz, tz]) (iH st.length st c (g.flag true) frm w)) := by
 refine aJ 500 Z (MC.keep [500,501,502,503,504,505,506,507] (bs := [iB c (g.flag true) 501 502 503, aG (g.flag true).paths, aH (g.flag true).conds, au st, iW st.length 503 frm w 505 506 507, au w.vars, au w.facts, aD w.ev]) Z Z (jH 41 [500,501,502,503,504,505,506,507] h1 h2 Tryz.func145 Z Z Z Z fun O hF => ?_))
 refine ch ?_
 rw [show g.flag true = ⟨g.paths, g.conds, true⟩ from flag_true]
 refine ac (js O Z (aP (j4 O Z Z Z Z ?_)))
 first | refine bo O Z ?_ | refine js O Z ?_ | refine aU O Z Z ?_
 refine js O Z (AOps.step ((az O Z Z (by omega) (by omega)).cast (v' := eI ((st.length : Int) - 2)) Z) Z Z Z (js O Z (jf [7,6,0,1,2] Z (jn (af (ac (j2 O Z Z (jn (ab O Z Z (fun hc17 => ?_) (fun hc17 => ?_))))))))))
 refine ac (j4 O Z Z Z Z (jf [21,16,7,6,1,2] Z (jo O Z (ao ?_))))
 refine aP (js O Z (AOps.heap (cd O Z Z Z Z Z Z Z Z Z (by first | omega | (simp at *; omega)) (by first | omega | (simp at *; omega)) (by first | omega | (simp at *; omega)) (by first | omega | (dsimp only; omega) | (simp only [aN] at *; omega)) (by first | omega | (simp at *; omega)) Z Z Z) Z (ao ?_)))
 refine js O Z (jf [6,21,16,7,1,2] Z (jr ?_))
 refine ⟨.inl Z, _, (Ent.rowLe 23 Z (.cons (.cons .refl (.cons (.nil (sz := 1)) .nil)) (.cons (.cons .refl (.cons (.nil (sz := 1)) .nil)) .nil))).trans (Ent.freeze 23 (e' := [(6, _)]) Z (.cons Z (.c (.row Z Z)) .nil) (.skip (.cons Z (.box (fk Z)) (.cons Z .row (.cons Z .row (.cons Z .row (.cons Z (.box (fk Z)) (.cons Z .row (.cons Z .row (.cons Z .row .nil)))))))))), _, Z, Z, Z⟩
 exact absurd (bn hc17) (by omega)
abbrev iF (st : List Tm) (c : Pc) (g : Gs) (w : Pw) : List (Nat × B) := [(0, iB c g 1 2 3), (1, aG g.paths), (2, aH g.conds), (3, au st), (4, au w.vars), (5, au w.facts), (6, aD w.ev)]
abbrev oF (c : Pc) (g : Gs) : List (Nat × B) := [(0, iB c g 10 11 3), (10, aG g.paths), (11, aH g.conds)]
abbrev pf (L : Nat) (c : Pc) (frm : Int) (w : Pw) (st : List Tm) (g : Gs) (z : Int) (b : Bool) (g' : Gs) : Prop := MC Tryz.prog L 127 [.c (.pt 0 0 0), wA st 3 frm w 4 5 6, eI z, eB b] (iF st c g w) (bb (.tup []) (oF c g'))
abbrev bS (SS : List (List Tm)) (a : An) : Pc := ⟨.nils, .slc 1 (SS.map fun f => [fH f]), fH a.pre, fH a.post, jS a.code, gc a.pts⟩
theorem zp {g' : Gs} {z : Int} (ih : pf L c frm w st g z false g') : MQ h1 h2 149 [wA st 3 frm w 4 5 6, .c (.pt 7 0 0), .c (.pt 8 0 0)] (iT st c g w (.int .i64 z) x) (bb (.tup []) (oT c g' (.int .i64 z) x)) := by
 refine aJ 500 Z (MC.keep [500,507,508,509,510,511] (bs := [iB c g' 510 511 503, pB 500, xB (.int .i64 z), bX x, aG g'.paths, aH g'.conds]) Z Z (jH 8 [500,501,502,503,504,505,506,507,508,509] h1 h2 Tryz.func149 Z Z Z Z fun O hF => ?_))
 refine ch ?_
 refine ac (jx O Z (ao ?_))
 refine jn (aj (j3 O Z Z Z (jf [6,5,4,0] Z (ay O [500,501,502,503,504,505,506] (bin := [iB c g 1 2 3, aG g.paths, aH g.conds, au st, au w.vars, au w.facts, aD w.ev]) Z Z Z Z (ih) Z Z Z Z Z Z (B0 := 8000) Z Z (ao ?_)))))
 refine jf [0] Z (jn ?_)
 show _ ∧ _
 refine ⟨.inr Z, _, (ag 8010 510 Z Z).trans (ag 8011 511 Z Z), _, Z, Z, Z⟩
theorem zo {g' : Gs} {d8 : D} (ih : pf L c frm w st g x.a false g') : MQ h1 h2 150 [wA st 3 frm w 4 5 6, .c (.pt 7 0 0), .c (.pt 9 0 0)] (iT st c g w d8 x) (bb (.tup []) (oT c g' d8 x)) := by
 refine aJ 500 Z (MC.keep [500,507,508,509,510,511] (bs := [iB c g' 510 511 503, pB 500, xB d8, bX x, aG g'.paths, aH g'.conds]) Z Z (jH 9 [500,501,502,503,504,505,506,507,508,509] h1 h2 Tryz.func150 Z Z Z Z fun O hF => ?_))
 refine ch ?_
 refine ac (jx O Z (ao ?_))
 refine jn (aj (j4 O Z Z Z Z (jf [7,5,4,0] Z (ay O [500,501,502,503,504,505,506] (bin := [iB c g 1 2 3, aG g.paths, aH g.conds, au st, au w.vars, au w.facts, aD w.ev]) Z Z Z Z (ih) Z Z Z Z Z Z (B0 := 9000) Z Z (ao ?_)))))
 refine jf [0] Z (jn ?_)
 show _ ∧ _
 refine ⟨.inr Z, _, (ag 9010 510 Z Z).trans (ag 9011 511 Z Z), _, Z, Z, Z⟩
def vg (w : Pw) : Tm := if w.sym = 10 then ⟨0, []⟩ else ik w.sym
abbrev nJ (w : Pw) : Pw := ⟨w.vars, w.facts, w.ev, min (w.sym + 1) 10⟩
abbrev mj (w : Pw) (g : Gs) : Gs := g.flag (decide (w.sym = 10))
theorem tl {L : Nat} (h1 : 4096 ≤ L) (h2 : L ≤ 1073741824) {c : Pc} {g : Gs} {frm : Int} {w : Pw} {st : List Tm} {sn : Nat} (hs : w.sym ≤ 10) : MC Tryz.prog L 152 [.c (.pt 0 0 0), .c (.pt 4 0 0)] (iH sn st c g frm w) (bb (cU (vg w)) (iH sn st c (mj w g) frm (nJ w))) := by
 by_cases h : w.sym = 10
 have e : nJ w = w := by obtain ⟨a, b, c, d⟩ := w; simp only at h; subst h; rfl
 rw [vg, if_pos h, e, mj, decide_eq_true h, Go.Al.flag_true]
 exact t3 (fun h => RA.zero h) (xD h1 h2 h)
 have e : min (w.sym + 1) 10 = w.sym + 1 := by omega
 rw [vg, if_neg h, nJ, e, mj, decide_eq_false h, Go.Al.flag_false]
 exact zL h1 h2 (by omega)
section
variable {x : In} {w : Pw} {st : List Tm} {g : Gs}
theorem sa (h : st.length = 0) : p0 1 st = tz ∧ pR 1 st = st ∧ pG 1 st g = g.flag true := by
 unfold p0 pR pG; rw [ph (by omega)]; exact ⟨rfl, rfl, rfl⟩
theorem wg (h : st.length < 2) : p0 2 st = tz ∧ p1 2 st = tz ∧ pR 2 st = st ∧ pG 2 st g = g.flag true := by
 unfold p0 p1 pR pG; rw [ph h]; exact ⟨rfl, rfl, rfl, rfl⟩
theorem kM (h : 1 ≤ st.length) : p0 1 st = bg st ∧ pR 1 st = cJ st ∧ pG 1 st g = g := ⟨sk h, kl h, km h⟩
theorem jM (h : 2 ≤ st.length) : p0 2 st = jK st ∧ p1 2 st = bg st ∧ pR 2 st = nH st ∧ pG 2 st g = g := ⟨wj h, x6 h, kl h, km h⟩
theorem AZ (e : x.op = 0) : cg x w st g = aW ⟨x.a, []⟩ true ⟨w, st, g⟩ := if_pos e
theorem AY (e : x.op = 1) : cg x w st g = aW (w.vars.getD x.a.toNat tz) true ⟨w, st, g⟩ := by unfold cg; rw [if_neg (by omega), if_pos e]
theorem ye (e : x.op = 2) : cg x w st g = ⟨w.set x.a.toNat (p0 1 st), pR 1 st, pG 1 st g⟩ := by unfold cg; rw [if_neg (by omega), if_neg (by omega), if_pos e]
theorem yd (e : x.op = 3) : cg x w st g = aW (eg (p0 2 st) (p1 2 st)).1 (eg (p0 2 st) (p1 2 st)).2 ⟨w, pR 2 st, pG 2 st g⟩ := by unfold cg; rw [if_neg (by omega), if_neg (by omega), if_neg (by omega), if_pos e]
theorem yc (e : x.op = 4) : cg x w st g = aW (ee (p0 1 st) x.a).1 (ee (p0 1 st) x.a).2 ⟨w, pR 1 st, pG 1 st g⟩ := by unfold cg; rw [if_neg (by omega), if_neg (by omega), if_neg (by omega), if_neg (by omega), if_pos e]
theorem AX (e : x.op = 5) : cg x w st g = ⟨w, st, g⟩ := by unfold cg; simp [e]
theorem yb (e : x.op = 7) (hs : w.sym ≤ 10) : cg x w st g = aW (vg w) true ⟨nJ w, pR 1 st, mj w (aY bE w (p0 1 st) (pG 1 st g))⟩ := by
 unfold cg; rw [if_neg (by omega), if_neg (by omega), if_neg (by omega), if_neg (by omega), if_neg (by omega), if_pos e]
 by_cases h0 : w.sym = 10
 rw [if_pos h0, vg, if_pos h0, mj, decide_eq_true h0]
 obtain ⟨a, b, c, d⟩ := w; simp only at h0; subst h0; rfl
 rw [if_neg h0, vg, if_neg h0, mj, decide_eq_false h0, eW, nJ, show min (w.sym + 1) 10 = w.sym + 1 by omega]
theorem ya (e : x.op = 8) : cg x w st g = ⟨w, pR 2 st, aY bE w (p0 2 st) (pG 2 st g)⟩ := by unfold cg; rw [if_neg (by omega), if_neg (by omega), if_neg (by omega), if_neg (by omega), if_neg (by omega), if_neg (by omega), if_pos e]
theorem AW (e : x.op = 9) : cg x w st g = ⟨⟨w.vars, w.facts, w.ev ++ [x.a], w.sym⟩, st, g⟩ := by unfold cg; rw [if_neg (by omega), if_neg (by omega), if_neg (by omega), if_neg (by omega), if_neg (by omega), if_neg (by omega), if_neg (by omega), if_pos e]
theorem vu (e : x.op = 10) : cg x w st g = ⟨w.fact (p0 1 st), pR 1 st, ((pG 1 st g).goal w (p0 1 st)).flag (w.fact (p0 1 st)).long⟩ := by unfold cg; rw [if_neg (by omega), if_neg (by omega), if_neg (by omega), if_neg (by omega), if_neg (by omega), if_neg (by omega), if_neg (by omega), if_neg (by omega), if_pos e]
theorem ot {t : Tm} (ht : t.ok = true) : cz w t g = g.goal w t := by unfold cz; rw [ht]; exact eW
end
inductive Way (x : In) (st : List Tm) : Prop
  | o0 : x.op = 0 → Way x st
  | o1 : x.op = 1 → Way x st
  | l2 : x.op = 2 → st.length = 0 → Way x st
  | h2 : x.op = 2 → 1 ≤ st.length → Way x st
  | l3 : x.op = 3 → st.length < 2 → Way x st
  | h3 : x.op = 3 → 2 ≤ st.length → Way x st
  | l4 : x.op = 4 → st.length = 0 → Way x st
  | h4 : x.op = 4 → 1 ≤ st.length → Way x st
  | o5 : x.op = 5 → Way x st
  | l7 : x.op = 7 → st.length = 0 → Way x st
  | h7 : x.op = 7 → 1 ≤ st.length → Way x st
  | l8 : x.op = 8 → st.length < 2 → Way x st
  | h8 : x.op = 8 → 2 ≤ st.length → Way x st
  | o9 : x.op = 9 → Way x st
  | l10 : x.op = 10 → st.length = 0 → Way x st
  | h10 : x.op = 10 → 1 ≤ st.length → Way x st
inductive Plc (a : An) (z : Int) (b : Bool) (st : List Tm) : Prop
  | out : dk a.code.length z = false → Plc a z b st
  | pt0 : dk a.code.length z = true → (!b && decide (0 ≤ dC a.pts z)) = true → st.length = 0 → Plc a z b st
  | ptn : dk a.code.length z = true → (!b && decide (0 ≤ dC a.pts z)) = true → 0 < st.length → Plc a z b st
  | halt : dk a.code.length z = true → (!b && decide (0 ≤ dC a.pts z)) = false → (a.code.getD z.toNat default).op = 11 → Plc a z b st
  | l6 : dk a.code.length z = true → (!b && decide (0 ≤ dC a.pts z)) = false → (a.code.getD z.toNat default).op = 6 → st.length = 0 → Plc a z b st
  | h6 : dk a.code.length z = true → (!b && decide (0 ≤ dC a.pts z)) = false → (a.code.getD z.toNat default).op = 6 → 1 ≤ st.length → Plc a z b st
  | leaf : dk a.code.length z = true → (!b && decide (0 ≤ dC a.pts z)) = false → (a.code.getD z.toNat default).op ≠ 11 → (a.code.getD z.toNat default).op ≠ 6 → Way (a.code.getD z.toNat default) st → Plc a z b st
theorem yY {x : In} (h : aV x = true) : 0 ≤ x.op ∧ x.op ≤ 11 := by
 unfold aV at h
 split at h
 omega
 split at h
 omega
 split at h
 omega
 split at h
 omega
 split at h
 omega
 cases h
theorem ut {x : In} {st : List Tm} (h : aV x = true) (h11 : x.op ≠ 11) (h6 : x.op ≠ 6) : Way x st := by
 have hop := yY h
 by_cases e0 : x.op = 0
 exact .o0 e0
 by_cases e1 : x.op = 1
 exact .o1 e1
 by_cases e5 : x.op = 5
 exact .o5 e5
 by_cases e9 : x.op = 9
 exact .o9 e9
 by_cases s0 : st.length = 0
 by_cases e2 : x.op = 2
 exact .l2 e2 s0
 by_cases e3 : x.op = 3
 exact .l3 e3 (by omega)
 by_cases e4 : x.op = 4
 exact .l4 e4 s0
 by_cases e7 : x.op = 7
 exact .l7 e7 s0
 by_cases e8 : x.op = 8
 exact .l8 e8 (by omega)
 exact .l10 (by omega) s0
 by_cases e2 : x.op = 2
 exact .h2 e2 (by omega)
 by_cases e4 : x.op = 4
 exact .h4 e4 (by omega)
 by_cases e7 : x.op = 7
 exact .h7 e7 (by omega)
 by_cases e10 : x.op = 10
 exact .h10 e10 (by omega)
 by_cases s1 : st.length < 2
 by_cases e3 : x.op = 3
 exact .l3 e3 s1
 exact .l8 (by omega) s1
 by_cases e3 : x.op = 3
 exact .h3 e3 (by omega)
 exact .h8 (by omega) (by omega)
theorem uG {a : An} (ha : ∀ x ∈ a.code, aV x = true) {z : Int} {b : Bool} {st : List Tm} : Plc a z b st := by
 cases hi : dk a.code.length z with
 | false => exact .out hi
 | true =>
  have hin := uS.1 hi
  cases hp : (!b && decide (0 ≤ dC a.pts z)) with
  | true =>
   by_cases s0 : st.length = 0
   exact .pt0 hi hp s0
   exact .ptn hi hp (by omega)
  | false =>
   have hx : aV (a.code.getD z.toNat default) = true := by rw [ar (by omega)]; exact ha _ (List.getElem_mem (by omega))
   by_cases h11 : (a.code.getD z.toNat default).op = 11
   exact .halt hi hp h11
   by_cases h6 : (a.code.getD z.toNat default).op = 6
   by_cases s0 : st.length = 0
   exact .l6 hi hp h6 s0
   exact .h6 hi hp h6 (by omega)
   exact .leaf hi hp h11 h6 (ut hx h11 h6)
structure CX where
  n : Nat
  z : Int
  b : Bool
  w : Pw
  st : List Tm
  g : Gs
structure CI (a : An) (frm : Int) (N : Nat) (G : Gs) (x : CX) : Prop where
  fu : FuOk a x.n x.z x.b
  le : x.n ≤ N
  hN : N ≤ 100
  w : x.g.bad = false → CW x.n x.w x.st
  g : x.g.bad = false → GC x.n x.g
  eq : dL jL a frm x.n x.z x.b x.w x.st x.g = G
theorem CI.leaf {a : An} {frm : Int} {N n : Nat} {G : Gs} {z : Int} {b : Bool} {w : Pw} {st : List Tm} {g : Gs} {x : In} (hcl : dF a = true) (hxi : aV x = true) (h : CI a frm N G ⟨n + 1, z, b, w, st, g⟩) (hb : g.bad = false) (hi : dk a.code.length z = true) (hp : (!b && decide (0 ≤ dC a.pts z)) = false)
    (hx : a.code.getD z.toNat default = x) (h11 : x.op ≠ 11) (h6 : x.op ≠ 6) : CI a frm N G ⟨n, jJ x z, false, (cg x w st g).w, (cg x w st g).st, (cg x w st g).g⟩ := by
 subst hx
 have hn : n + 1 ≤ N := h.le
 have hN := h.hN
 refine ⟨h.fu.step hcl hi hp (s3 hi h11 h6), by show n ≤ N; omega, h.hN, fun hq => (h.w hb).leaf hxi hq, fun _ => (h.g hb).more (show n + 1 ≤ 100 by omega) zb.1 zb.2.1 zb.2.2, ?_⟩
 have e := h.eq
 show dL jL a frm n _ false (cg _ w st g).w (cg _ w st g).st (cg _ w st g).g = G
 rw [← e, ft hb hi hp h11 h6]
 rfl
end Go.Al
