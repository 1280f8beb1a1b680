/- The laws, walked. -/
import Derived.Test.YtegcggeaempllaaR
namespace Go.Al
open Go.Proofs
set_option linter.unusedVariables false
set_option linter.unusedSimpArgs false
set_option maxRecDepth 10000
set_option maxHeartbeats 4000000
theorem prv_guard {s : Sq} {b : Int} (hv : (prvS s b).2 = true) (h : ((ctxI s).2 && budB b) = false) : False := by rw [prv_bad9 h] at hv; cases hv
theorem prv_work {s : Sq} {b : Int} (h1 : (ctxI s).2 = true) (h2 : budB b = true) : ((wrk b (15 - (s.facts ++ [(oppT s.goal).1]).length) (s.facts ++ [(oppT s.goal).1]) ([], false)).2 = true → prvS s b = ([], false)) ∧
    ((wrk b (15 - (s.facts ++ [(oppT s.goal).1]).length) (s.facts ++ [(oppT s.goal).1]) ([], false)).2 = false → prvS s b = ((wrk b (15 - (s.facts ++ [(oppT s.goal).1]).length) (s.facts ++ [(oppT s.goal).1]) ([], false)).1, true)) := by
  obtain ⟨h3, h4⟩ := ctxI_2 h1
  rw [prv_in h3 h2]
  exact wrk_prov h3 (by rw [opp_2]; exact h4) (by have := budB_in h2; omega)
theorem c1019v {L : Nat} (h1 : 4096 ≤ L) (h2 : L ≤ 1073741824) {s : Sq} {b : Int} (hv : (prvS s b).2 = true) : MC Try.prog L 24 [aSq s, eI b] [] (Rows (.tup [.c (.rs 0 0 (prvS s b).1.length), eB true]) [ndrow (prvS s b).1]) := by
 refine MC.rows ?_
 have hσ := SGok (nt := 36) h1 (Nat.le_trans h2 (by decide))
 refine MC.body hσ Try.func24 (by kernel_rfl) rfl rfl (Nat.le_of_ble_eq_true rfl) (fun hF => ?_)
 refine jsr ?_
 refine AOps.heap (HS.box hσ rfl rfl rfl rfl rfl rfl rfl) rfl ?_
 refine jnm ?_
 refine AOps.to (Ent.freeze 2 (e' := [(2, _), (1, _)]) rfl (.cons rfl (.c (.box (cs := Sq.cells s) rfl (VMs.self rfl))) (.cons rfl (.keep rfl) .nil)) (.skip .nil)) ?_
 refine jnm ?_
 iterate 2 refine jst hσ rfl rfl rfl rfl rfl ?_
 refine jns ?_
 refine jst hσ rfl rfl rfl rfl rfl ?_
 refine jf4 10 5 4 1 rfl rfl rfl rfl ?_
 refine AOps.plainD hσ rfl rfl rfl rfl (c144 (s := s) h1 h2) (VAs.self rfl) rfl rfl rfl rfl (B0 := 12000) rfl rfl ?_
 iterate 5 refine jst hσ rfl rfl rfl rfl rfl ?_
 refine jf5 7 6 5 4 1 rfl rfl rfl rfl rfl ?_
 refine jn ?_
 refine AWP.seq ?_
 refine jsr ?_
 iterate 3 refine jst hσ rfl rfl rfl rfl rfl ?_
 refine jf5 16 6 5 4 1 rfl rfl rfl rfl rfl ?_
 refine AOps.gr 3 rfl rfl rfl (fun hx => AN.step hx rfl rfl rfl (Val.of hσ rfl rfl) rfl rfl ( AN.lone hσ hx rfl rfl rfl rfl (c1037 h1 h2) (VAs.self rfl) rfl rfl rfl rfl rfl rfl rfl (B0 := 19000) rfl ( AN.step hx rfl rfl rfl (Val.of hσ rfl rfl) rfl rfl ( AN.nil)))) rfl rfl ?_
 first | refine AOps.step (Val.pickF hσ rfl rfl rfl rfl rfl) rfl rfl rfl ?_ | refine AOps.step (Val.pickB hσ rfl rfl rfl rfl rfl) rfl rfl rfl ?_ | refine AOps.step (Val.pickT hσ rfl rfl rfl rfl rfl) rfl rfl rfl ?_
 refine jf5 20 6 5 4 1 rfl rfl rfl rfl rfl ?_
 refine jn ?_
 refine AWP.cond hσ rfl rfl (fun hc20 => ?_) (fun hc20 => ?_)
 ·
  skip
  exact (prv_guard hv (pvT hc20)).elim
 ·
  skip
  refine AWP.skip ?_
  refine jsr ?_
  obtain ⟨hq1, hq2⟩ := pvF hc20
  obtain ⟨hq3, hq4⟩ := ctxI_2 hq1
  have hok : (oppT s.goal).2 = true := by rw [opp_2]; exact hq4
  have hfc := seq_ctx hq3 hok
  have hlen := hfc.len
  have hbb := budB_in hq2
  obtain ⟨hw1, hw2⟩ := prv_work hq1 hq2
  have hwl : ((wrk b (15 - (s.facts ++ [(oppT s.goal).1]).length) (s.facts ++ [(oppT s.goal).1]) ([], false)).1.length : Int) ≤ b := wrk_len (by show (0 : Int) ≤ b; omega)
  rw [ctxI_eq hq3, ctx_1 hok]
  iterate 2 refine jst hσ rfl rfl rfl rfl rfl ?_
  refine jf5 22 6 5 4 1 rfl rfl rfl rfl rfl ?_
  refine AOps.heap (HS.box hσ rfl rfl rfl rfl rfl rfl rfl) rfl ?_
  refine jnm ?_
  refine jst hσ rfl rfl rfl rfl rfl ?_
  refine jf5 8 6 5 4 1 rfl rfl rfl rfl rfl ?_
  refine jns ?_
  iterate 2 refine jst hσ rfl rfl rfl rfl rfl ?_
  refine jf6 25 24 8 5 4 1 rfl rfl rfl rfl rfl rfl ?_
  refine AOps.to (Ent.nameBox 23 901 5 false 1 rfl rfl rfl) ?_
  refine AOps.inn hσ [23, 901] (bin := [pbox b ([], false) 1, nrows []]) rfl rfl rfl rfl (c1040 (b := b) h1 h2 hbb (15 - (s.facts ++ [(oppT s.goal).1]).length) (s.facts ++ [(oppT s.goal).1]) ([], false) ⟨.inl hfc, by omega, by simp, by omega, by show (0 : Int) ≤ b; omega⟩) rfl rfl rfl rfl rfl rfl (B0 := 27000) rfl rfl ?_
  refine jnm ?_
  refine jf4 8 5 4 1 rfl rfl rfl rfl ?_
  refine jn ?_
  refine AWP.seq ?_
  refine jsr ?_
  iterate 4 refine jst hσ rfl rfl rfl rfl rfl ?_
  refine jf5 30 8 5 4 1 rfl rfl rfl rfl rfl ?_
  refine jn ?_
  refine AWP.cond hσ rfl rfl (fun hc30 => ?_) (fun hc30 => ?_)
  ·
   skip
   rw [hw1 hc30] at hv; cases hv
  ·
   skip
   refine AWP.skip ?_
   refine jsr ?_
   iterate 4 refine jst hσ rfl rfl rfl rfl rfl ?_
   refine jf5 34 8 5 4 1 rfl rfl rfl rfl rfl ?_
   refine AOps.rows hσ (B0 := 36000) rfl rfl rfl rfl (c1041 (ts := (wrk b (15 - (s.facts ++ [(oppT s.goal).1]).length) (s.facts ++ [(oppT s.goal).1]) ([], false)).1) h1 h2) (.cons (.c (.whole rfl (List.length_map _).symm)) .nil) rfl rfl rfl rfl rfl rfl ?_
   refine jnm ?_
   iterate 2 refine jst hσ rfl rfl rfl rfl rfl ?_
   refine jf4 5 4 8 1 rfl rfl rfl rfl ?_
   refine jn ?_
   refine AWP.ret ?_
   rw [hw2 hc30]
   refine ⟨.inl rfl, _, Ent.refl, _, rfl, [36000], by decide, rfl, rfl, rfl⟩
theorem c1019n {L : Nat} (h1 : 4096 ≤ L) (h2 : L ≤ 1073741824) {s : Sq} {b : Int} (hv : (prvS s b).2 = false) : MC Try.prog L 24 [aSq s, eI b] [] (Rows (.tup [.c (.d .nils), eB false]) []) := by
 refine MC.rows ?_
 have hσ := SGok (nt := 36) h1 (Nat.le_trans h2 (by decide))
 refine MC.body hσ Try.func24 (by kernel_rfl) rfl rfl (Nat.le_of_ble_eq_true rfl) (fun hF => ?_)
 refine jsr ?_
 refine AOps.heap (HS.box hσ rfl rfl rfl rfl rfl rfl rfl) rfl ?_
 refine jnm ?_
 refine AOps.to (Ent.freeze 2 (e' := [(2, _), (1, _)]) rfl (.cons rfl (.c (.box (cs := Sq.cells s) rfl (VMs.self rfl))) (.cons rfl (.keep rfl) .nil)) (.skip .nil)) ?_
 refine jnm ?_
 iterate 2 refine jst hσ rfl rfl rfl rfl rfl ?_
 refine jns ?_
 refine jst hσ rfl rfl rfl rfl rfl ?_
 refine jf4 10 5 4 1 rfl rfl rfl rfl ?_
 refine AOps.plainD hσ rfl rfl rfl rfl (c144 (s := s) h1 h2) (VAs.self rfl) rfl rfl rfl rfl (B0 := 12000) rfl rfl ?_
 iterate 5 refine jst hσ rfl rfl rfl rfl rfl ?_
 refine jf5 7 6 5 4 1 rfl rfl rfl rfl rfl ?_
 refine jn ?_
 refine AWP.seq ?_
 refine jsr ?_
 iterate 3 refine jst hσ rfl rfl rfl rfl rfl ?_
 refine jf5 16 6 5 4 1 rfl rfl rfl rfl rfl ?_
 refine AOps.gr 3 rfl rfl rfl (fun hx => AN.step hx rfl rfl rfl (Val.of hσ rfl rfl) rfl rfl ( AN.lone hσ hx rfl rfl rfl rfl (c1037 h1 h2) (VAs.self rfl) rfl rfl rfl rfl rfl rfl rfl (B0 := 19000) rfl ( AN.step hx rfl rfl rfl (Val.of hσ rfl rfl) rfl rfl ( AN.nil)))) rfl rfl ?_
 first | refine AOps.step (Val.pickF hσ rfl rfl rfl rfl rfl) rfl rfl rfl ?_ | refine AOps.step (Val.pickB hσ rfl rfl rfl rfl rfl) rfl rfl rfl ?_ | refine AOps.step (Val.pickT hσ rfl rfl rfl rfl rfl) rfl rfl rfl ?_
 refine jf5 20 6 5 4 1 rfl rfl rfl rfl rfl ?_
 refine jn ?_
 refine AWP.cond hσ rfl rfl (fun hc20 => ?_) (fun hc20 => ?_)
 ·
  skip
  refine jsr ?_
  iterate 2 refine jst hσ rfl rfl rfl rfl rfl ?_
  refine jn ?_
  refine AWP.ret ?_
  refine ⟨.inl rfl, _, Ent.refl, _, rfl, [], by decide, rfl, rfl, rfl⟩
 ·
  skip
  refine AWP.skip ?_
  refine jsr ?_
  obtain ⟨hq1, hq2⟩ := pvF hc20
  obtain ⟨hq3, hq4⟩ := ctxI_2 hq1
  have hok : (oppT s.goal).2 = true := by rw [opp_2]; exact hq4
  have hfc := seq_ctx hq3 hok
  have hlen := hfc.len
  have hbb := budB_in hq2
  obtain ⟨hw1, hw2⟩ := prv_work hq1 hq2
  have hwl : ((wrk b (15 - (s.facts ++ [(oppT s.goal).1]).length) (s.facts ++ [(oppT s.goal).1]) ([], false)).1.length : Int) ≤ b := wrk_len (by show (0 : Int) ≤ b; omega)
  rw [ctxI_eq hq3, ctx_1 hok]
  iterate 2 refine jst hσ rfl rfl rfl rfl rfl ?_
  refine jf5 22 6 5 4 1 rfl rfl rfl rfl rfl ?_
  refine AOps.heap (HS.box hσ rfl rfl rfl rfl rfl rfl rfl) rfl ?_
  refine jnm ?_
  refine jst hσ rfl rfl rfl rfl rfl ?_
  refine jf5 8 6 5 4 1 rfl rfl rfl rfl rfl ?_
  refine jns ?_
  iterate 2 refine jst hσ rfl rfl rfl rfl rfl ?_
  refine jf6 25 24 8 5 4 1 rfl rfl rfl rfl rfl rfl ?_
  refine AOps.to (Ent.nameBox 23 901 5 false 1 rfl rfl rfl) ?_
  refine AOps.inn hσ [23, 901] (bin := [pbox b ([], false) 1, nrows []]) rfl rfl rfl rfl (c1040 (b := b) h1 h2 hbb (15 - (s.facts ++ [(oppT s.goal).1]).length) (s.facts ++ [(oppT s.goal).1]) ([], false) ⟨.inl hfc, by omega, by simp, by omega, by show (0 : Int) ≤ b; omega⟩) rfl rfl rfl rfl rfl rfl (B0 := 27000) rfl rfl ?_
  refine jnm ?_
  refine jf4 8 5 4 1 rfl rfl rfl rfl ?_
  refine jn ?_
  refine AWP.seq ?_
  refine jsr ?_
  iterate 4 refine jst hσ rfl rfl rfl rfl rfl ?_
  refine jf5 30 8 5 4 1 rfl rfl rfl rfl rfl ?_
  refine jn ?_
  refine AWP.cond hσ rfl rfl (fun hc30 => ?_) (fun hc30 => ?_)
  ·
   skip
   refine jsr ?_
   iterate 2 refine jst hσ rfl rfl rfl rfl rfl ?_
   refine jn ?_
   refine AWP.ret ?_
   refine ⟨.inl rfl, _, Ent.refl, _, rfl, [], by decide, rfl, rfl, rfl⟩
  ·
   skip
   rw [hw2 hc30] at hv; cases hv
theorem c1005v {L : Nat} (h1 : 4096 ≤ L) (h2 : L ≤ 1073741824) {s : Sq} {b : Int} {r : List Nd} {m0 : Nat} (hm0 : m0 = r.length) (hcc : 1 + cnt nN r ≤ (1073741824 : Int)) (cs : MC Try.prog L 23 [aSq s, eI b] [] (Plain (.tup [ands r, eB true]))) (ci : MC Try.prog L 24 [aSq s, eI b] [] (Rows (.tup [.c (.rs 0 0 m0), eB true]) [ndrow r])) (hz1 : 0 ≤ szr 1048576 s.size) (hcp : 1 + cnt nT s.facts + s.goal.xs.length ≤ (1073741824 : Int)) : MC Try.prog L 5 [aSq s, eI b] [] (Plain (eB true)) := by
 refine MC.alone ?_ rfl
 have hσ := SGok (nt := 101) h1 (Nat.le_trans h2 (by decide))
 refine MC.body hσ Try.func5 (by kernel_rfl) rfl rfl (Nat.le_of_ble_eq_true rfl) (fun hF => ?_)
 subst hm0
 have hbig : L ≤ 9223372036854775807 := Nat.le_trans h2 (by decide)
 refine jsr ?_
 refine AOps.heap (HS.box hσ rfl rfl rfl rfl rfl rfl rfl) rfl ?_
 refine jnm ?_
 refine jst hσ rfl rfl rfl rfl rfl ?_
 refine jns ?_
 refine jst hσ rfl rfl rfl rfl rfl ?_
 refine jns ?_
 iterate 2 refine jst hσ rfl rfl rfl rfl rfl ?_
 refine AOps.lone hσ rfl rfl rfl rfl (c29 (s := s) (left := 1048576) h1 hbig (by decide) (by decide)) (VAs.self rfl) rfl rfl rfl rfl rfl (B0 := 19000) rfl ?_
 refine jst hσ rfl rfl rfl rfl rfl ?_
 refine jf5 5 4 2 0 1 rfl rfl rfl rfl rfl ?_
 refine jn ?_
 refine AWP.seq ?_
 refine jsr ?_
 iterate 2 refine jst hσ rfl rfl rfl rfl rfl ?_
 refine jn ?_
 refine AWP.cond hσ rfl rfl (fun hc20 => ?_) (fun hc20 => ?_)
 ·
  skip
  exact absurd (of_decide_eq_true hc20) (by omega)
 ·
  skip
  refine AWP.skip ?_
  refine jsr ?_
  refine jst hσ rfl rfl rfl rfl rfl ?_
  refine jf7 22 19 5 4 2 0 1 rfl rfl rfl rfl rfl rfl rfl ?_
  refine AOps.plainD hσ rfl rfl rfl rfl (c32d (s := s) h1 h2) (VAs.self rfl) rfl rfl rfl rfl (B0 := 24000) rfl rfl ?_
  refine jst hσ rfl rfl rfl rfl rfl ?_
  refine jf8 24 23 19 5 4 2 0 1 rfl rfl rfl rfl rfl rfl rfl rfl ?_
  refine AOps.plainD hσ rfl rfl rfl rfl (cs) (VAs.self rfl) rfl rfl rfl rfl (B0 := 26000) rfl rfl ?_
  iterate 5 refine jst hσ rfl rfl rfl rfl rfl ?_
  refine jf8 7 6 19 5 4 2 0 1 rfl rfl rfl rfl rfl rfl rfl rfl ?_
  refine jns ?_
  refine jst hσ rfl rfl rfl rfl rfl ?_
  refine AOps.rows hσ (B0 := 30000) rfl rfl rfl rfl (c32 (s := s) h1 h2) (VAs.self rfl) rfl rfl rfl rfl rfl rfl ?_
  refine jnm ?_
  refine jf9 29 7 6 19 5 4 2 0 1 rfl rfl rfl rfl rfl rfl rfl rfl rfl ?_
  refine AOps.heap (HS.alloc hσ rfl rfl rfl rfl rfl) rfl ?_
  refine jnm ?_
  refine AOps.heap (HS.storeBox hσ rfl rfl rfl rfl rfl rfl rfl rfl rfl rfl rfl) rfl ?_
  refine jnm ?_
  refine jns ?_
  iterate 2 refine jst hσ rfl rfl rfl rfl rfl ?_
  refine AOps.rows hσ (B0 := 34000) rfl rfl rfl rfl (ci) (.cons (.agg (.cons (.whole rfl (List.length_map _).symm) (.cons .d (.cons (.whole rfl (List.length_map _).symm) .nil)))) (.cons (.c .d) .nil)) rfl rfl rfl rfl rfl rfl ?_
  refine jnm ?_
  iterate 5 refine jst hσ rfl rfl rfl rfl rfl ?_
  refine jf12 10 9 8 29 7 6 19 5 4 2 0 1 rfl rfl rfl rfl rfl rfl rfl rfl rfl rfl rfl rfl ?_
  refine jn ?_
  refine AWP.seq ?_
  refine jsr ?_
  iterate 2 refine jst hσ rfl rfl rfl rfl rfl ?_
  refine AOps.lone hσ rfl rfl rfl rfl ((c37 (xs := r) (ys := r) h1 h2).plain (u := eB true) (by simp)) (.cons (.c (.whole rfl (List.length_map _).symm)) (.cons (.c .d) .nil)) rfl rfl rfl rfl rfl (B0 := 39000) rfl ?_
  iterate 2 refine jst hσ rfl rfl rfl rfl rfl ?_
  refine AOps.forget [(40, _), (10, _), (9, _), (8, _), (29, _), (7, _), (6, _), (19, _), (5, _), (4, _), (2, _), (0, _), (1, _)] ⟨rfl, rfl, rfl, rfl, rfl, rfl, rfl, rfl, rfl, rfl, rfl, rfl, rfl, trivial⟩ ?_
  refine AOps.live rfl rfl rfl rfl rfl ?_
  refine jst hσ rfl rfl rfl rfl rfl ?_
  refine AOps.live rfl rfl rfl rfl rfl ?_
  refine jst hσ rfl rfl rfl rfl rfl ?_
  refine AOps.live rfl rfl rfl rfl rfl ?_
  refine jst hσ rfl rfl rfl rfl rfl ?_
  refine AOps.step (Val.pickN hσ rfl rfl rfl rfl rfl) rfl rfl rfl ?_
  refine AOps.forget [(44, _), (10, _), (9, _), (8, _), (29, _), (7, _), (6, _), (19, _), (5, _), (4, _), (2, _), (0, _), (1, _)] ⟨rfl, rfl, rfl, rfl, rfl, rfl, rfl, rfl, rfl, rfl, rfl, rfl, rfl, trivial⟩ ?_
  refine jn ?_
  refine AWP.cond hσ rfl rfl (fun hc44 => ?_) (fun hc44 => ?_)
  ·
   skip
   exact absurd (show false = true from hc44) (by decide)
  ·
   skip
   refine AWP.skip ?_
   refine AWP.seq ?_
   refine AWP.seq ?_
   refine AWP.forget [(10, _), (9, _), (8, _), (29, _), (7, _), (6, _), (19, _), (5, _), (4, _), (2, _), (0, _), (1, _)] ⟨rfl, rfl, rfl, rfl, rfl, rfl, rfl, rfl, rfl, rfl, rfl, rfl, trivial⟩ ?_
   refine AWP.drawR hσ _ [_, _, _, _, _] [⟨[], 0, 1, none⟩, ⟨[], 0, 0, none⟩, ⟨[1], 0, 0, some 0⟩, ⟨[0, 1, 2], 0, 0, some 1⟩, ⟨[0, 1, 2, 3], 2, 2, none⟩] [2, 3] [_, _, _] rfl rfl (by decide) (by decide) (by kernel_rfl) (And.intro (And.intro (Val.of hσ rfl rfl) (Val.of hσ rfl rfl)) (And.intro (Val.of hσ rfl rfl) (And.intro (Eff.plainD hσ (B0 := 48000) rfl rfl rfl rfl (c32d (s := s) h1 h2) (VAs.self rfl) rfl rfl rfl rfl rfl) (And.intro (Eff.lone hσ (B0 := 49000) rfl rfl rfl rfl ((c36 (s := s) (t := s) h1 h2).plain (u := eB true) (by simp)) (.cons (.agg (.cons (.whole rfl (List.length_map _).symm) (.cons .d (.cons (.whole rfl (List.length_map _).symm) .nil)))) (.cons (.agg (VMs.self rfl)) .nil)) rfl rfl rfl rfl rfl) (And.intro (Val.of hσ rfl rfl) trivial))))) ?_
   refine AWP.forget [(49, _), (10, _), (9, _), (8, _), (29, _), (7, _), (6, _), (19, _), (5, _), (4, _), (2, _), (0, _), (1, _)] ⟨rfl, rfl, rfl, rfl, rfl, rfl, rfl, rfl, rfl, rfl, rfl, rfl, rfl, trivial⟩ ?_
   refine jnw ?_
   refine AWP.cond hσ rfl rfl (fun hc49 => ?_) (fun hc49 => ?_)
   ·
    skip
    exact absurd (show false = true from hc49) (by decide)
   ·
    skip
    refine AWP.skip ?_
    refine jsr ?_
    refine jst hσ rfl rfl rfl rfl rfl ?_
    refine jns ?_
    iterate 2 refine jst hσ rfl rfl rfl rfl rfl ?_
    refine jf15 51 50 11 10 9 8 29 7 6 19 5 4 2 0 1 rfl rfl rfl rfl rfl rfl rfl rfl rfl rfl rfl rfl rfl rfl rfl ?_
    refine AOps.inn hσ [30000, 30001] (bin := [trow s.facts, nrow s.goal.xs]) rfl rfl rfl rfl (c38 (s := s) (k := 1) h1 h2 (by decide) (by omega)) rfl rfl rfl rfl rfl rfl (B0 := 53000) rfl rfl ?_
    refine jnm ?_
    refine jst hσ rfl rfl rfl rfl rfl ?_
    refine AOps.forget [(11, _), (10, _), (9, _), (8, _), (29, _), (7, _), (6, _), (19, _), (5, _), (4, _), (2, _), (0, _), (1, _)] ⟨rfl, rfl, rfl, rfl, rfl, rfl, rfl, rfl, rfl, rfl, rfl, rfl, rfl, trivial⟩ ?_
    refine jn ?_
    refine AWP.seq ?_
    refine jsr ?_
    iterate 2 refine jst hσ rfl rfl rfl rfl rfl ?_
    rw [decide_eq_false (show ¬ (1 + cnt nT s.facts + s.goal.xs.length : Int) < 0 by omega)]
    refine jst hσ rfl rfl rfl rfl rfl ?_
    refine jf14 55 11 10 9 8 29 7 6 19 5 4 2 0 1 rfl rfl rfl rfl rfl rfl rfl rfl rfl rfl rfl rfl rfl rfl ?_
    refine AOps.live rfl rfl rfl rfl rfl ?_
    refine jst hσ rfl rfl rfl rfl rfl ?_
    refine AOps.live rfl rfl rfl rfl rfl ?_
    refine jst hσ rfl rfl rfl rfl rfl ?_
    refine AOps.live rfl rfl rfl rfl rfl ?_
    refine AOps.lone hσ rfl rfl rfl rfl ((c37 (xs := r) (ys := r) h1 h2).plain (u := eB true) (by simp)) (.cons (.c (.whole rfl (List.length_map _).symm)) (.cons (.c .d) .nil)) rfl rfl rfl rfl rfl (B0 := 59000) rfl ?_
    refine jf15 58 55 11 10 9 8 29 7 6 19 5 4 2 0 1 rfl rfl rfl rfl rfl rfl rfl rfl rfl rfl rfl rfl rfl rfl rfl ?_
    refine AOps.live rfl rfl rfl rfl rfl ?_
    refine jst hσ rfl rfl rfl rfl rfl ?_
    refine AOps.step (Val.pickN hσ rfl rfl rfl rfl rfl) rfl rfl rfl ?_
    refine jst hσ rfl rfl rfl rfl rfl ?_
    refine jf14 61 11 10 9 8 29 7 6 19 5 4 2 0 1 rfl rfl rfl rfl rfl rfl rfl rfl rfl rfl rfl rfl rfl rfl ?_
    refine AOps.live rfl rfl rfl rfl rfl ?_
    refine jst hσ rfl rfl rfl rfl rfl ?_
    refine AOps.live rfl rfl rfl rfl rfl ?_
    refine jst hσ rfl rfl rfl rfl rfl ?_
    refine AOps.live rfl rfl rfl rfl rfl ?_
    refine jst hσ rfl rfl rfl rfl rfl ?_
    refine AOps.step (Val.pickN hσ rfl rfl rfl rfl rfl) rfl rfl rfl ?_
    refine jf14 65 11 10 9 8 29 7 6 19 5 4 2 0 1 rfl rfl rfl rfl rfl rfl rfl rfl rfl rfl rfl rfl rfl rfl ?_
    refine jn ?_
    refine AWP.cond hσ rfl rfl (fun hc65 => ?_) (fun hc65 => ?_)
    ·
     skip
     exact absurd (show false = true from hc65) (by decide)
    ·
     skip
     refine AWP.skip ?_
     refine jsr ?_
     refine jst hσ rfl rfl rfl rfl rfl ?_
     refine jns ?_
     iterate 2 refine jst hσ rfl rfl rfl rfl rfl ?_
     refine AOps.forget [(67, _), (66, _), (12, _), (11, _), (10, _), (9, _), (8, _), (29, _), (7, _), (6, _), (19, _), (5, _), (4, _), (2, _), (0, _), (1, _)] ⟨rfl, rfl, rfl, rfl, rfl, rfl, rfl, rfl, rfl, rfl, rfl, rfl, rfl, rfl, rfl, rfl, trivial⟩ ?_
     refine AOps.inn hσ [34000] (bin := [ndrow r]) rfl rfl rfl rfl (c39 (ts := r) (k := 1) h1 h2 (by decide) (by omega)) rfl rfl rfl rfl rfl rfl (B0 := 69000) rfl rfl ?_
     refine jnm ?_
     refine jst hσ rfl rfl rfl rfl rfl ?_
     refine jf14 12 11 10 9 8 29 7 6 19 5 4 2 0 1 rfl rfl rfl rfl rfl rfl rfl rfl rfl rfl rfl rfl rfl rfl ?_
     refine jns ?_
     refine jst hσ rfl rfl rfl rfl rfl ?_
     refine jns ?_
     iterate 2 refine jst hσ rfl rfl rfl rfl rfl ?_
     refine AOps.lone hσ rfl rfl rfl rfl (c1009 (ts := r) (k := 1) h1 h2 (by decide) (by omega)) (.cons (.c (.whole rfl (by rw [List.length_map, markL_length]))) (.cons (.c .d) .nil)) rfl rfl rfl rfl rfl (B0 := 72000) rfl ?_
     refine jst hσ rfl rfl rfl rfl rfl ?_
     refine jf15 13 12 11 10 9 8 29 7 6 19 5 4 2 0 1 rfl rfl rfl rfl rfl rfl rfl rfl rfl rfl rfl rfl rfl rfl rfl ?_
     refine jn ?_
     refine AWP.seq ?_
     refine jsr ?_
     iterate 2 refine jst hσ rfl rfl rfl rfl rfl ?_
     refine jn ?_
     refine AWP.cond hσ rfl rfl (fun hc73 => ?_) (fun hc73 => ?_)
     ·
      skip
      exact absurd (of_decide_eq_true hc73) (by omega)
     ·
      skip
      refine AWP.skip ?_
      refine AWP.seq ?_
      refine jsr ?_
      iterate 3 refine jst hσ rfl rfl rfl rfl rfl ?_
      refine AOps.forget [(76, _), (72, _), (13, _), (12, _), (11, _), (10, _), (9, _), (8, _), (29, _), (7, _), (6, _), (19, _), (5, _), (4, _), (2, _), (0, _), (1, _)] ⟨rfl, rfl, rfl, rfl, rfl, rfl, rfl, rfl, rfl, rfl, rfl, rfl, rfl, rfl, rfl, rfl, rfl, trivial⟩ ?_
      refine jn ?_
      refine AWP.cond hσ rfl rfl (fun hc76 => ?_) (fun hc76 => ?_)
      ·
       skip
       exact absurd hc76 (by simp)
      ·
       skip
       refine AWP.skip ?_
       refine jsr ?_
       refine jst hσ rfl rfl rfl rfl rfl ?_
       refine AOps.forget [(78, _), (72, _), (13, _), (12, _), (11, _), (10, _), (9, _), (8, _), (29, _), (7, _), (6, _), (19, _), (5, _), (4, _), (2, _), (0, _), (1, _)] ⟨rfl, rfl, rfl, rfl, rfl, rfl, rfl, rfl, rfl, rfl, rfl, rfl, rfl, rfl, rfl, rfl, rfl, trivial⟩ ?_
       refine AOps.plainD hσ rfl rfl rfl rfl (c32d (s := s) h1 h2) (VAs.self rfl) rfl rfl rfl rfl (B0 := 80000) rfl rfl ?_
       refine jst hσ rfl rfl rfl rfl rfl ?_
       refine jf18 80 79 72 13 12 11 10 9 8 29 7 6 19 5 4 2 0 1 rfl rfl rfl rfl rfl rfl rfl rfl rfl rfl rfl rfl rfl rfl rfl rfl rfl rfl ?_
       refine AOps.rows hσ (B0 := 82000) rfl rfl rfl rfl (ci) (VAs.self rfl) rfl rfl rfl rfl rfl rfl ?_
       refine jnm ?_
       iterate 5 refine jst hσ rfl rfl rfl rfl rfl ?_
       refine jf18 15 14 72 13 12 11 10 9 8 29 7 6 19 5 4 2 0 1 rfl rfl rfl rfl rfl rfl rfl rfl rfl rfl rfl rfl rfl rfl rfl rfl rfl rfl ?_
       refine jn ?_
       refine AWP.seq ?_
       refine jsr ?_
       iterate 2 refine jst hσ rfl rfl rfl rfl rfl ?_
       refine AOps.forget [(85, _), (84, _), (15, _), (72, _), (13, _), (12, _), (11, _), (10, _), (9, _), (8, _), (29, _), (7, _), (6, _), (19, _), (5, _), (4, _), (2, _), (0, _), (1, _)] ⟨rfl, rfl, rfl, rfl, rfl, rfl, rfl, rfl, rfl, rfl, rfl, rfl, rfl, rfl, rfl, rfl, rfl, rfl, rfl, trivial⟩ ?_
       refine AOps.lone hσ rfl rfl rfl rfl ((c37 (xs := r) (ys := r) h1 h2).plain (u := eB true) (by simp)) (.cons (.c (.whole rfl (List.length_map _).symm)) (.cons (.c .d) .nil)) rfl rfl rfl rfl rfl (B0 := 87000) rfl ?_
       iterate 2 refine jst hσ rfl rfl rfl rfl rfl ?_
       refine jf18 88 15 72 13 12 11 10 9 8 29 7 6 19 5 4 2 0 1 rfl rfl rfl rfl rfl rfl rfl rfl rfl rfl rfl rfl rfl rfl rfl rfl rfl rfl ?_
       refine AOps.live rfl rfl rfl rfl rfl ?_
       refine jst hσ rfl rfl rfl rfl rfl ?_
       refine jf18 89 88 72 13 12 11 10 9 8 29 7 6 19 5 4 2 0 1 rfl rfl rfl rfl rfl rfl rfl rfl rfl rfl rfl rfl rfl rfl rfl rfl rfl rfl ?_
       refine AOps.live rfl rfl rfl rfl rfl ?_
       refine jst hσ rfl rfl rfl rfl rfl ?_
       refine AOps.live rfl rfl rfl rfl rfl ?_
       refine jst hσ rfl rfl rfl rfl rfl ?_
       refine AOps.step (Val.pickN hσ rfl rfl rfl rfl rfl) rfl rfl rfl ?_
       refine AOps.forget [(92, _), (72, _), (13, _), (12, _), (11, _), (10, _), (9, _), (8, _), (29, _), (7, _), (6, _), (19, _), (5, _), (4, _), (2, _), (0, _), (1, _)] ⟨rfl, rfl, rfl, rfl, rfl, rfl, rfl, rfl, rfl, rfl, rfl, rfl, rfl, rfl, rfl, rfl, rfl, trivial⟩ ?_
       refine jn ?_
       refine AWP.cond hσ rfl rfl (fun hc92 => ?_) (fun hc92 => ?_)
       ·
        skip
        exact absurd (show false = true from hc92) (by decide)
       ·
        skip
        refine AWP.skip ?_
        refine jsr ?_
        refine jst hσ rfl rfl rfl rfl rfl ?_
        refine jns ?_
        iterate 2 refine jst hσ rfl rfl rfl rfl rfl ?_
        refine jf18 94 93 13 72 12 11 10 9 8 29 7 6 19 5 4 2 0 1 rfl rfl rfl rfl rfl rfl rfl rfl rfl rfl rfl rfl rfl rfl rfl rfl rfl rfl ?_
        refine AOps.lone hσ rfl rfl rfl rfl (c1009 (ts := r) (k := 1) h1 h2 (by decide) (by omega)) (.cons (.c (.whole rfl (by rw [List.length_map, markL_length]))) (.cons (.c .d) .nil)) rfl rfl rfl rfl rfl (B0 := 96000) rfl ?_
        refine jst hσ rfl rfl rfl rfl rfl ?_
        refine AOps.forget [(13, _), (72, _), (12, _), (11, _), (10, _), (9, _), (8, _), (29, _), (7, _), (6, _), (19, _), (5, _), (4, _), (2, _), (0, _), (1, _)] ⟨rfl, rfl, rfl, rfl, rfl, rfl, rfl, rfl, rfl, rfl, rfl, rfl, rfl, rfl, rfl, rfl, trivial⟩ ?_
        refine jn ?_
        refine AWP.seq ?_
        refine jsr ?_
        iterate 2 refine jst hσ rfl rfl rfl rfl rfl ?_
        refine jn ?_
        refine AWP.cond hσ rfl rfl (fun hc97 => ?_) (fun hc97 => ?_)
        ·
         skip
         exact absurd (of_decide_eq_true hc97) (by omega)
        ·
         skip
         refine AWP.skip ?_
         refine AWP.seq ?_
         refine jsr ?_
         iterate 3 refine jst hσ rfl rfl rfl rfl rfl ?_
         refine jf18 100 96 13 72 12 11 10 9 8 29 7 6 19 5 4 2 0 1 rfl rfl rfl rfl rfl rfl rfl rfl rfl rfl rfl rfl rfl rfl rfl rfl rfl rfl ?_
         refine jn ?_
         refine AWP.cond hσ rfl rfl (fun hc100 => ?_) (fun hc100 => ?_)
         ·
          skip
          exact absurd hc100 (by simp)
         ·
          skip
          refine AWP.skip ?_
          refine jsr ?_
          refine jst hσ rfl rfl rfl rfl rfl ?_
          refine jn ?_
          refine AWP.ret ?_
          refine ⟨.inl rfl, _, Ent.refl, _, rfl, ?_⟩
          rfl
theorem c1005n {L : Nat} (h1 : 4096 ≤ L) (h2 : L ≤ 1073741824) {s : Sq} {b : Int} (cs : MC Try.prog L 23 [aSq s, eI b] [] (Plain (.tup [ands ([] : List Nd), eB false]))) (ci : MC Try.prog L 24 [aSq s, eI b] [] (Rows (.tup [.c (.d .nils), eB false]) [])) (hz1 : 0 ≤ szr 1048576 s.size) (hcp : 1 + cnt nT s.facts + s.goal.xs.length ≤ (1073741824 : Int)) : MC Try.prog L 5 [aSq s, eI b] [] (Plain (eB true)) := by
 refine MC.alone ?_ rfl
 have hσ := SGok (nt := 101) h1 (Nat.le_trans h2 (by decide))
 refine MC.body hσ Try.func5 (by kernel_rfl) rfl rfl (Nat.le_of_ble_eq_true rfl) (fun hF => ?_)
 have hbig : L ≤ 9223372036854775807 := Nat.le_trans h2 (by decide)
 refine jsr ?_
 refine AOps.heap (HS.box hσ rfl rfl rfl rfl rfl rfl rfl) rfl ?_
 refine jnm ?_
 refine jst hσ rfl rfl rfl rfl rfl ?_
 refine jns ?_
 refine jst hσ rfl rfl rfl rfl rfl ?_
 refine jns ?_
 iterate 2 refine jst hσ rfl rfl rfl rfl rfl ?_
 refine AOps.lone hσ rfl rfl rfl rfl (c29 (s := s) (left := 1048576) h1 hbig (by decide) (by decide)) (VAs.self rfl) rfl rfl rfl rfl rfl (B0 := 19000) rfl ?_
 refine jst hσ rfl rfl rfl rfl rfl ?_
 refine jf5 5 4 2 0 1 rfl rfl rfl rfl rfl ?_
 refine jn ?_
 refine AWP.seq ?_
 refine jsr ?_
 iterate 2 refine jst hσ rfl rfl rfl rfl rfl ?_
 refine jn ?_
 refine AWP.cond hσ rfl rfl (fun hc20 => ?_) (fun hc20 => ?_)
 ·
  skip
  exact absurd (of_decide_eq_true hc20) (by omega)
 ·
  skip
  refine AWP.skip ?_
  refine jsr ?_
  refine jst hσ rfl rfl rfl rfl rfl ?_
  refine jf7 22 19 5 4 2 0 1 rfl rfl rfl rfl rfl rfl rfl ?_
  refine AOps.plainD hσ rfl rfl rfl rfl (c32d (s := s) h1 h2) (VAs.self rfl) rfl rfl rfl rfl (B0 := 24000) rfl rfl ?_
  refine jst hσ rfl rfl rfl rfl rfl ?_
  refine jf8 24 23 19 5 4 2 0 1 rfl rfl rfl rfl rfl rfl rfl rfl ?_
  refine AOps.plainD hσ rfl rfl rfl rfl (cs) (VAs.self rfl) rfl rfl rfl rfl (B0 := 26000) rfl rfl ?_
  iterate 5 refine jst hσ rfl rfl rfl rfl rfl ?_
  refine jf8 7 6 19 5 4 2 0 1 rfl rfl rfl rfl rfl rfl rfl rfl ?_
  refine jns ?_
  refine jst hσ rfl rfl rfl rfl rfl ?_
  refine AOps.rows hσ (B0 := 30000) rfl rfl rfl rfl (c32 (s := s) h1 h2) (VAs.self rfl) rfl rfl rfl rfl rfl rfl ?_
  refine jnm ?_
  refine jf9 29 7 6 19 5 4 2 0 1 rfl rfl rfl rfl rfl rfl rfl rfl rfl ?_
  refine AOps.heap (HS.alloc hσ rfl rfl rfl rfl rfl) rfl ?_
  refine jnm ?_
  refine AOps.heap (HS.storeBox hσ rfl rfl rfl rfl rfl rfl rfl rfl rfl rfl rfl) rfl ?_
  refine jnm ?_
  refine jns ?_
  iterate 2 refine jst hσ rfl rfl rfl rfl rfl ?_
  refine AOps.rows hσ (B0 := 34000) rfl rfl rfl rfl (ci) (.cons (.agg (.cons (.whole rfl (List.length_map _).symm) (.cons .d (.cons (.whole rfl (List.length_map _).symm) .nil)))) (.cons (.c .d) .nil)) rfl rfl rfl rfl rfl rfl ?_
  refine jnm ?_
  iterate 5 refine jst hσ rfl rfl rfl rfl rfl ?_
  refine jf12 10 9 8 29 7 6 19 5 4 2 0 1 rfl rfl rfl rfl rfl rfl rfl rfl rfl rfl rfl rfl ?_
  refine jn ?_
  refine AWP.seq ?_
  refine jsr ?_
  iterate 2 refine jst hσ rfl rfl rfl rfl rfl ?_
  refine AOps.lone hσ rfl rfl rfl rfl ((c37 (xs := ([] : List Nd)) (ys := ([] : List Nd)) h1 h2).plain (u := eB true) (by simp)) (.cons (.c .nils) (.cons (.c .d) .nil)) rfl rfl rfl rfl rfl (B0 := 39000) rfl ?_
  iterate 2 refine jst hσ rfl rfl rfl rfl rfl ?_
  refine AOps.forget [(40, _), (10, _), (9, _), (8, _), (29, _), (7, _), (6, _), (19, _), (5, _), (4, _), (2, _), (0, _), (1, _)] ⟨rfl, rfl, rfl, rfl, rfl, rfl, rfl, rfl, rfl, rfl, rfl, rfl, rfl, trivial⟩ ?_
  refine AOps.live rfl rfl rfl rfl rfl ?_
  refine jst hσ rfl rfl rfl rfl rfl ?_
  refine AOps.live rfl rfl rfl rfl rfl ?_
  refine jst hσ rfl rfl rfl rfl rfl ?_
  refine AOps.live rfl rfl rfl rfl rfl ?_
  refine jst hσ rfl rfl rfl rfl rfl ?_
  refine AOps.step (Val.pickN hσ rfl rfl rfl rfl rfl) rfl rfl rfl ?_
  refine AOps.forget [(44, _), (10, _), (9, _), (8, _), (29, _), (7, _), (6, _), (19, _), (5, _), (4, _), (2, _), (0, _), (1, _)] ⟨rfl, rfl, rfl, rfl, rfl, rfl, rfl, rfl, rfl, rfl, rfl, rfl, rfl, trivial⟩ ?_
  refine jn ?_
  refine AWP.cond hσ rfl rfl (fun hc44 => ?_) (fun hc44 => ?_)
  ·
   skip
   exact absurd (show false = true from hc44) (by decide)
  ·
   skip
   refine AWP.skip ?_
   refine AWP.seq ?_
   refine AWP.seq ?_
   refine AWP.forget [(10, _), (9, _), (8, _), (29, _), (7, _), (6, _), (19, _), (5, _), (4, _), (2, _), (0, _), (1, _)] ⟨rfl, rfl, rfl, rfl, rfl, rfl, rfl, rfl, rfl, rfl, rfl, rfl, trivial⟩ ?_
   refine AWP.drawR hσ _ [_, _, _, _, _] [⟨[], 0, 1, none⟩, ⟨[], 0, 0, none⟩, ⟨[1], 0, 0, some 0⟩, ⟨[0, 1, 2], 0, 0, some 1⟩, ⟨[0, 1, 2, 3], 2, 2, none⟩] [2, 3] [_, _, _] rfl rfl (by decide) (by decide) (by kernel_rfl) (And.intro (And.intro (Val.of hσ rfl rfl) (Val.of hσ rfl rfl)) (And.intro (Val.of hσ rfl rfl) (And.intro (Eff.plainD hσ (B0 := 48000) rfl rfl rfl rfl (c32d (s := s) h1 h2) (VAs.self rfl) rfl rfl rfl rfl rfl) (And.intro (Eff.lone hσ (B0 := 49000) rfl rfl rfl rfl ((c36 (s := s) (t := s) h1 h2).plain (u := eB true) (by simp)) (.cons (.agg (.cons (.whole rfl (List.length_map _).symm) (.cons .d (.cons (.whole rfl (List.length_map _).symm) .nil)))) (.cons (.agg (VMs.self rfl)) .nil)) rfl rfl rfl rfl rfl) (And.intro (Val.of hσ rfl rfl) trivial))))) ?_
   refine AWP.forget [(49, _), (10, _), (9, _), (8, _), (29, _), (7, _), (6, _), (19, _), (5, _), (4, _), (2, _), (0, _), (1, _)] ⟨rfl, rfl, rfl, rfl, rfl, rfl, rfl, rfl, rfl, rfl, rfl, rfl, rfl, trivial⟩ ?_
   refine jnw ?_
   refine AWP.cond hσ rfl rfl (fun hc49 => ?_) (fun hc49 => ?_)
   ·
    skip
    exact absurd (show false = true from hc49) (by decide)
   ·
    skip
    refine AWP.skip ?_
    refine jsr ?_
    refine jst hσ rfl rfl rfl rfl rfl ?_
    refine jns ?_
    iterate 2 refine jst hσ rfl rfl rfl rfl rfl ?_
    refine jf15 51 50 11 10 9 8 29 7 6 19 5 4 2 0 1 rfl rfl rfl rfl rfl rfl rfl rfl rfl rfl rfl rfl rfl rfl rfl ?_
    refine AOps.inn hσ [30000, 30001] (bin := [trow s.facts, nrow s.goal.xs]) rfl rfl rfl rfl (c38 (s := s) (k := 1) h1 h2 (by decide) (by omega)) rfl rfl rfl rfl rfl rfl (B0 := 53000) rfl rfl ?_
    refine jnm ?_
    refine jst hσ rfl rfl rfl rfl rfl ?_
    refine AOps.forget [(11, _), (10, _), (9, _), (8, _), (29, _), (7, _), (6, _), (19, _), (5, _), (4, _), (2, _), (0, _), (1, _)] ⟨rfl, rfl, rfl, rfl, rfl, rfl, rfl, rfl, rfl, rfl, rfl, rfl, rfl, trivial⟩ ?_
    refine jn ?_
    refine AWP.seq ?_
    refine jsr ?_
    iterate 2 refine jst hσ rfl rfl rfl rfl rfl ?_
    rw [decide_eq_false (show ¬ (1 + cnt nT s.facts + s.goal.xs.length : Int) < 0 by omega)]
    refine jst hσ rfl rfl rfl rfl rfl ?_
    refine jf14 55 11 10 9 8 29 7 6 19 5 4 2 0 1 rfl rfl rfl rfl rfl rfl rfl rfl rfl rfl rfl rfl rfl rfl ?_
    refine AOps.live rfl rfl rfl rfl rfl ?_
    refine jst hσ rfl rfl rfl rfl rfl ?_
    refine AOps.live rfl rfl rfl rfl rfl ?_
    refine jst hσ rfl rfl rfl rfl rfl ?_
    refine AOps.live rfl rfl rfl rfl rfl ?_
    refine AOps.lone hσ rfl rfl rfl rfl ((c37 (xs := ([] : List Nd)) (ys := ([] : List Nd)) h1 h2).plain (u := eB true) (by simp)) (.cons (.c .nils) (.cons (.c .d) .nil)) rfl rfl rfl rfl rfl (B0 := 59000) rfl ?_
    refine jf15 58 55 11 10 9 8 29 7 6 19 5 4 2 0 1 rfl rfl rfl rfl rfl rfl rfl rfl rfl rfl rfl rfl rfl rfl rfl ?_
    refine AOps.live rfl rfl rfl rfl rfl ?_
    refine jst hσ rfl rfl rfl rfl rfl ?_
    refine AOps.step (Val.pickN hσ rfl rfl rfl rfl rfl) rfl rfl rfl ?_
    refine jst hσ rfl rfl rfl rfl rfl ?_
    refine jf14 61 11 10 9 8 29 7 6 19 5 4 2 0 1 rfl rfl rfl rfl rfl rfl rfl rfl rfl rfl rfl rfl rfl rfl ?_
    refine AOps.live rfl rfl rfl rfl rfl ?_
    refine jst hσ rfl rfl rfl rfl rfl ?_
    refine AOps.live rfl rfl rfl rfl rfl ?_
    refine jst hσ rfl rfl rfl rfl rfl ?_
    refine AOps.live rfl rfl rfl rfl rfl ?_
    refine jst hσ rfl rfl rfl rfl rfl ?_
    refine AOps.step (Val.pickN hσ rfl rfl rfl rfl rfl) rfl rfl rfl ?_
    refine jf14 65 11 10 9 8 29 7 6 19 5 4 2 0 1 rfl rfl rfl rfl rfl rfl rfl rfl rfl rfl rfl rfl rfl rfl ?_
    refine jn ?_
    refine AWP.cond hσ rfl rfl (fun hc65 => ?_) (fun hc65 => ?_)
    ·
     skip
     exact absurd (show false = true from hc65) (by decide)
    ·
     skip
     refine AWP.skip ?_
     refine jsr ?_
     refine jst hσ rfl rfl rfl rfl rfl ?_
     refine jns ?_
     iterate 2 refine jst hσ rfl rfl rfl rfl rfl ?_
     refine AOps.forget [(67, _), (66, _), (12, _), (11, _), (10, _), (9, _), (8, _), (29, _), (7, _), (6, _), (19, _), (5, _), (4, _), (2, _), (0, _), (1, _)] ⟨rfl, rfl, rfl, rfl, rfl, rfl, rfl, rfl, rfl, rfl, rfl, rfl, rfl, rfl, rfl, rfl, trivial⟩ ?_
     refine AOps.lone hσ rfl rfl rfl rfl (c39n (k := 1) h1 h2) (.cons (.c .nils) (.cons (.c .d) .nil)) rfl rfl rfl rfl rfl (B0 := 69000) rfl ?_
     refine jst hσ rfl rfl rfl rfl rfl ?_
     refine jf14 12 11 10 9 8 29 7 6 19 5 4 2 0 1 rfl rfl rfl rfl rfl rfl rfl rfl rfl rfl rfl rfl rfl rfl ?_
     refine jns ?_
     refine jst hσ rfl rfl rfl rfl rfl ?_
     refine jns ?_
     iterate 2 refine jst hσ rfl rfl rfl rfl rfl ?_
     refine AOps.lone hσ rfl rfl rfl rfl ((c1009 (ts := ([] : List Nd)) (k := 1) h1 h2 (by decide) (by decide)).plain (u := eI 1) rfl) (.cons (.c .nils) (.cons (.c .d) .nil)) rfl rfl rfl rfl rfl (B0 := 72000) rfl ?_
     refine jst hσ rfl rfl rfl rfl rfl ?_
     refine jf15 13 12 11 10 9 8 29 7 6 19 5 4 2 0 1 rfl rfl rfl rfl rfl rfl rfl rfl rfl rfl rfl rfl rfl rfl rfl ?_
     refine jn ?_
     refine AWP.seq ?_
     refine jsr ?_
     iterate 2 refine jst hσ rfl rfl rfl rfl rfl ?_
     refine jn ?_
     refine AWP.cond hσ rfl rfl (fun hc73 => ?_) (fun hc73 => ?_)
     ·
      skip
      exact absurd (of_decide_eq_true hc73) (by decide)
     ·
      skip
      refine AWP.skip ?_
      refine AWP.seq ?_
      refine jsr ?_
      iterate 3 refine jst hσ rfl rfl rfl rfl rfl ?_
      refine AOps.forget [(76, _), (72, _), (13, _), (12, _), (11, _), (10, _), (9, _), (8, _), (29, _), (7, _), (6, _), (19, _), (5, _), (4, _), (2, _), (0, _), (1, _)] ⟨rfl, rfl, rfl, rfl, rfl, rfl, rfl, rfl, rfl, rfl, rfl, rfl, rfl, rfl, rfl, rfl, rfl, trivial⟩ ?_
      refine jn ?_
      refine AWP.cond hσ rfl rfl (fun hc76 => ?_) (fun hc76 => ?_)
      ·
       skip
       exact absurd hc76 (by simp)
      ·
       skip
       refine AWP.skip ?_
       refine jsr ?_
       refine jst hσ rfl rfl rfl rfl rfl ?_
       refine AOps.forget [(78, _), (72, _), (13, _), (12, _), (11, _), (10, _), (9, _), (8, _), (29, _), (7, _), (6, _), (19, _), (5, _), (4, _), (2, _), (0, _), (1, _)] ⟨rfl, rfl, rfl, rfl, rfl, rfl, rfl, rfl, rfl, rfl, rfl, rfl, rfl, rfl, rfl, rfl, rfl, trivial⟩ ?_
       refine AOps.plainD hσ rfl rfl rfl rfl (c32d (s := s) h1 h2) (VAs.self rfl) rfl rfl rfl rfl (B0 := 80000) rfl rfl ?_
       refine jst hσ rfl rfl rfl rfl rfl ?_
       refine jf18 80 79 72 13 12 11 10 9 8 29 7 6 19 5 4 2 0 1 rfl rfl rfl rfl rfl rfl rfl rfl rfl rfl rfl rfl rfl rfl rfl rfl rfl rfl ?_
       refine AOps.rows hσ (B0 := 82000) rfl rfl rfl rfl (ci) (VAs.self rfl) rfl rfl rfl rfl rfl rfl ?_
       refine jnm ?_
       iterate 5 refine jst hσ rfl rfl rfl rfl rfl ?_
       refine jf18 15 14 72 13 12 11 10 9 8 29 7 6 19 5 4 2 0 1 rfl rfl rfl rfl rfl rfl rfl rfl rfl rfl rfl rfl rfl rfl rfl rfl rfl rfl ?_
       refine jn ?_
       refine AWP.seq ?_
       refine jsr ?_
       iterate 2 refine jst hσ rfl rfl rfl rfl rfl ?_
       refine AOps.forget [(85, _), (84, _), (15, _), (72, _), (13, _), (12, _), (11, _), (10, _), (9, _), (8, _), (29, _), (7, _), (6, _), (19, _), (5, _), (4, _), (2, _), (0, _), (1, _)] ⟨rfl, rfl, rfl, rfl, rfl, rfl, rfl, rfl, rfl, rfl, rfl, rfl, rfl, rfl, rfl, rfl, rfl, rfl, rfl, trivial⟩ ?_
       refine AOps.lone hσ rfl rfl rfl rfl ((c37 (xs := ([] : List Nd)) (ys := ([] : List Nd)) h1 h2).plain (u := eB true) (by simp)) (.cons (.c .nils) (.cons (.c .d) .nil)) rfl rfl rfl rfl rfl (B0 := 87000) rfl ?_
       iterate 2 refine jst hσ rfl rfl rfl rfl rfl ?_
       refine jf18 88 15 72 13 12 11 10 9 8 29 7 6 19 5 4 2 0 1 rfl rfl rfl rfl rfl rfl rfl rfl rfl rfl rfl rfl rfl rfl rfl rfl rfl rfl ?_
       refine AOps.live rfl rfl rfl rfl rfl ?_
       refine jst hσ rfl rfl rfl rfl rfl ?_
       refine jf18 89 88 72 13 12 11 10 9 8 29 7 6 19 5 4 2 0 1 rfl rfl rfl rfl rfl rfl rfl rfl rfl rfl rfl rfl rfl rfl rfl rfl rfl rfl ?_
       refine AOps.live rfl rfl rfl rfl rfl ?_
       refine jst hσ rfl rfl rfl rfl rfl ?_
       refine AOps.live rfl rfl rfl rfl rfl ?_
       refine jst hσ rfl rfl rfl rfl rfl ?_
       refine AOps.step (Val.pickN hσ rfl rfl rfl rfl rfl) rfl rfl rfl ?_
       refine AOps.forget [(92, _), (72, _), (13, _), (12, _), (11, _), (10, _), (9, _), (8, _), (29, _), (7, _), (6, _), (19, _), (5, _), (4, _), (2, _), (0, _), (1, _)] ⟨rfl, rfl, rfl, rfl, rfl, rfl, rfl, rfl, rfl, rfl, rfl, rfl, rfl, rfl, rfl, rfl, rfl, trivial⟩ ?_
       refine jn ?_
       refine AWP.cond hσ rfl rfl (fun hc92 => ?_) (fun hc92 => ?_)
       ·
        skip
        exact absurd (show false = true from hc92) (by decide)
       ·
        skip
        refine AWP.skip ?_
        refine jsr ?_
        refine jst hσ rfl rfl rfl rfl rfl ?_
        refine jns ?_
        iterate 2 refine jst hσ rfl rfl rfl rfl rfl ?_
        refine jf18 94 93 13 72 12 11 10 9 8 29 7 6 19 5 4 2 0 1 rfl rfl rfl rfl rfl rfl rfl rfl rfl rfl rfl rfl rfl rfl rfl rfl rfl rfl ?_
        refine AOps.lone hσ rfl rfl rfl rfl ((c1009 (ts := ([] : List Nd)) (k := 1) h1 h2 (by decide) (by decide)).plain (u := eI 1) rfl) (.cons (.c .nils) (.cons (.c .d) .nil)) rfl rfl rfl rfl rfl (B0 := 96000) rfl ?_
        refine jst hσ rfl rfl rfl rfl rfl ?_
        refine AOps.forget [(13, _), (72, _), (12, _), (11, _), (10, _), (9, _), (8, _), (29, _), (7, _), (6, _), (19, _), (5, _), (4, _), (2, _), (0, _), (1, _)] ⟨rfl, rfl, rfl, rfl, rfl, rfl, rfl, rfl, rfl, rfl, rfl, rfl, rfl, rfl, rfl, rfl, trivial⟩ ?_
        refine jn ?_
        refine AWP.seq ?_
        refine jsr ?_
        iterate 2 refine jst hσ rfl rfl rfl rfl rfl ?_
        refine jn ?_
        refine AWP.cond hσ rfl rfl (fun hc97 => ?_) (fun hc97 => ?_)
        ·
         skip
         exact absurd (of_decide_eq_true hc97) (by decide)
        ·
         skip
         refine AWP.skip ?_
         refine AWP.seq ?_
         refine jsr ?_
         iterate 3 refine jst hσ rfl rfl rfl rfl rfl ?_
         refine jf18 100 96 13 72 12 11 10 9 8 29 7 6 19 5 4 2 0 1 rfl rfl rfl rfl rfl rfl rfl rfl rfl rfl rfl rfl rfl rfl rfl rfl rfl rfl ?_
         refine jn ?_
         refine AWP.cond hσ rfl rfl (fun hc100 => ?_) (fun hc100 => ?_)
         ·
          skip
          exact absurd hc100 (by simp)
         ·
          skip
          refine AWP.skip ?_
          refine jsr ?_
          refine jst hσ rfl rfl rfl rfl rfl ?_
          refine jn ?_
          refine AWP.ret ?_
          refine ⟨.inl rfl, _, Ent.refl, _, rfl, ?_⟩
          rfl
theorem c1005a {L : Nat} (h1 : 4096 ≤ L) (h2 : L ≤ 9223372036854775807) {s : Sq} {b : Int} (hz : szr 1048576 s.size < 0) : MC Try.prog L 5 [aSq s, eI b] [] (Plain (eB true)) := by
 refine MC.alone ?_ rfl
 have hσ := SGok (nt := 101) h1 h2
 refine MC.body hσ Try.func5 (by kernel_rfl) rfl rfl (Nat.le_of_ble_eq_true rfl) (fun hF => ?_)
 refine jsr ?_
 refine AOps.heap (HS.box hσ rfl rfl rfl rfl rfl rfl rfl) rfl ?_
 refine jnm ?_
 refine jst hσ rfl rfl rfl rfl rfl ?_
 refine jns ?_
 refine jst hσ rfl rfl rfl rfl rfl ?_
 refine jns ?_
 iterate 2 refine jst hσ rfl rfl rfl rfl rfl ?_
 refine AOps.lone hσ rfl rfl rfl rfl (c29 (s := s) (left := 1048576) h1 h2 (by decide) (by decide)) (VAs.self rfl) rfl rfl rfl rfl rfl (B0 := 19000) rfl ?_
 refine jst hσ rfl rfl rfl rfl rfl ?_
 refine jf5 5 4 2 0 1 rfl rfl rfl rfl rfl ?_
 refine jn ?_
 refine AWP.seq ?_
 refine jsr ?_
 iterate 2 refine jst hσ rfl rfl rfl rfl rfl ?_
 refine jn ?_
 refine AWP.cond hσ rfl rfl (fun hc20 => ?_) (fun hc20 => ?_)
 ·
  skip
  refine jsr ?_
  refine jst hσ rfl rfl rfl rfl rfl ?_
  refine jn ?_
  refine AWP.ret ?_
  refine ⟨.inl rfl, _, Ent.refl, _, rfl, ?_⟩
  rfl
 ·
  skip
  exact absurd (of_decide_eq_false hc20) (fun h => h hz)
end Go.Al
namespace Go.Al
open Go.Proofs
set_option linter.unusedVariables false
set_option linter.unusedSimpArgs false
theorem cnt_ndb {p : List Nd} (hn : ∀ x ∈ p, ndB x = true) (hp : p.length ≤ 60) : cnt nN p ≤ 2000 := by
  have key : ∀ l : List Nd, (∀ x ∈ l, ndB x = true) → cnt nN l ≤ 33 * l.length := by
    intro l hl
    induction l with
    | nil => simp [cnt]
    | cons t r ih =>
      have h1 := ih fun t ht => hl t (by simp [ht])
      have h2 := hl t (by simp)
      have h3 := ok_len (ndB_term h2)
      have h4 := ndB_mlen h2
      simp only [cnt, List.map_cons, List.sum_cons, List.length_cons] at h1 ⊢
      have : nN t = 3 + t.term.xs.length + t.mul.length := rfl
      omega
  have := key p hn
  omega
theorem prvS_F {s : Sq} {b : Int} (h : (prvS s b).2 = false) : prvS s b = ([], false) := by
  unfold prvS at h ⊢
  split at h
  · rename_i h1; rw [if_pos h1]; exact prov_F h
  · rename_i h1; exact if_neg h1
/-- The law of ProveSequent holds for all arguments. -/
theorem law1005 {L : Nat} (h1 : 4096 ≤ L) (h2 : L ≤ 9223372036854775807) {s : Sq} {b : Int} : MC Try.prog L 5 [aSq s, eI b] [] (Plain (eB true)) := by
  by_cases hz1 : szr 1048576 s.size < 0
  · exact c1005a h1 h2 hz1
  have hz1' : 0 ≤ szr 1048576 s.size := by omega
  have g1 := szr_nonneg hz1' (by decide)
  have k1 := cnt_szs s.facts
  have e1 : s.size = szs Tm.size s.facts + s.goal.xs.length := rfl
  have hcp : 1 + cnt nT s.facts + s.goal.xs.length ≤ (1073741824 : Int) := by omega
  refine MC.facts ⟨_, _, Try.func5, by kernel_rfl, rfl⟩ fun hF => ?_
  refine MC.lift (L0 := 1073741824) rfl ?_ ?_
  · exact ⟨fact_sq hF.1 (by omega), hF.2.1, trivial⟩
  · have cs := c1018 (L := 1073741824) (s := s) (b := b) (by decide) (Nat.le_refl _)
    cases hv : (prvS s b).2 with
    | true =>
      obtain ⟨hq1, hq2⟩ := prv_T hv
      have hpe := prv_in (b := b) hq1 hq2
      obtain ⟨q1, q2⟩ := prov_nd (b := b) hq1 (by rw [← hpe]; exact hv)
      rw [← hpe] at q1 q2
      have hb := (budB_in hq2).2
      have hc := cnt_ndb q1 (by omega)
      rw [show resPv (prvS s b) = .tup [ands (prvS s b).1, eB true] by rw [← hv]] at cs
      exact c1005v (r := (prvS s b).1) (by decide) (Nat.le_refl _) rfl (by omega) cs (c1019v (by decide) (Nat.le_refl _) hv) hz1' hcp
    | false =>
      rw [prvS_F hv] at cs
      exact c1005n (by decide) (Nat.le_refl _) cs (c1019n (by decide) (Nat.le_refl _) hv) hz1' hcp
end Go.Al
