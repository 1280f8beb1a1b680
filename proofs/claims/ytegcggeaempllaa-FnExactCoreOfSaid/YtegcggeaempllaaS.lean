/- The laws, walked. -/
import Derived.Test.YtegcggeaempllaaR
namespace Go.Al
open Go.Proofs
set_option linter.unusedVariables false
set_option linter.unusedSimpArgs false
set_option maxRecDepth 10000
set_option maxHeartbeats 4000000
theorem c1017v {L : Nat} (h1 : 4096 ≤ L) (h2 : L ≤ 1073741824) {s : Sq} {b : Int} (hv : (prvS s b).2 = true) : MC Try.prog L 17 [aSq s, eI b] [] (Rows (.tup [.c (.rs 0 0 (coreS s b).1.length), eB true]) [nrow (coreS s b).1]) := by
 refine MC.rows ?_
 have hσ := SGok (nt := 37) h1 (Nat.le_trans h2 (by decide))
 refine MC.body hσ Try.func17 (by kernel_rfl) rfl rfl (Nat.le_of_ble_eq_true rfl) (fun hF => ?_)
 refine jsr ?_
 refine AOps.heap (HS.box hσ rfl rfl rfl rfl rfl rfl rfl) rfl ?_
 refine jnm ?_
 refine AOps.to (Ent.freeze 2 (e' := [(2, _), (1, _)]) rfl (.cons rfl (.c (.box (cs := Sq.cells s) rfl (VMs.self rfl))) (.cons rfl (.keep rfl) .nil)) (.skip .nil)) ?_
 refine jnm ?_
 iterate 2 refine jst hσ rfl rfl rfl rfl rfl ?_
 refine jns ?_
 iterate 2 refine jst hσ rfl rfl rfl rfl rfl ?_
 refine jf5 13 12 5 4 2 rfl rfl rfl rfl rfl ?_
 refine AOps.plainD hσ rfl rfl rfl rfl (c1019 (s := s) (b := b) h1 h2) (VAs.self rfl) rfl rfl rfl rfl (B0 := 15000) rfl rfl ?_
 iterate 5 refine jst hσ rfl rfl rfl rfl rfl ?_
 refine jf5 7 6 5 4 2 rfl rfl rfl rfl rfl ?_
 refine jn ?_
 refine AWP.seq ?_
 refine jsr ?_
 iterate 2 refine jst hσ rfl rfl rfl rfl rfl ?_
 refine jf5 18 6 5 4 2 rfl rfl rfl rfl rfl ?_
 refine jn ?_
 refine AWP.cond hσ rfl rfl (fun hc18 => ?_) (fun hc18 => ?_)
 ·
  skip
  rw [nf2 hc18] at hv; cases hv
 ·
  skip
  refine AWP.skip ?_
  refine jsr ?_
  refine jst hσ rfl rfl rfl rfl rfl ?_
  refine jn ?_
  refine AWP.seq ?_
  refine jsr ?_
  obtain ⟨hq1, hq2⟩ := prv_T (nt2 hc18)
  have hpe := prv_in (b := b) hq1 hq2
  obtain ⟨hnd, hpl⟩ := prov_nd (b := b) hq1 (by rw [← hpe]; exact nt2 hc18)
  rw [← hpe] at hnd
  have hn13 := (seqB_spec hq1).2.1
  iterate 3 refine jst hσ rfl rfl rfl rfl rfl ?_
  first | refine jle hσ rfl rfl rfl rfl rfl rfl rfl rfl rfl rfl rfl ?_ | refine jst hσ rfl rfl rfl rfl rfl ?_ | refine jvf hσ rfl rfl rfl rfl rfl ?_
  refine jf6 22 19 8 5 4 2 rfl rfl rfl rfl rfl rfl ?_
  refine AOps.plainD hσ rfl rfl rfl rfl (c99 (p := (prvS s b).1) (n := s.facts.length) h1 h2 (by omega) hnd) (VAs.self rfl) rfl rfl rfl rfl (B0 := 24000) rfl rfl ?_
  obtain ⟨U, eU⟩ : ∃ U, U = (usedN nz (prvS s b).1 s.facts.length (prvS s b).1.length) := ⟨_, rfl⟩
  have lU : U.length = s.facts.length := by rw [eU, usedN_length]
  rw [← eU]
  iterate 2 refine jst hσ rfl rfl rfl rfl rfl ?_
  refine jf7 25 24 23 8 5 4 2 rfl rfl rfl rfl rfl rfl rfl ?_
  refine jn ?_
  refine AWP.block ?_
  refine AWP.loopP (X := Nat) (fun i => ⟨[(8, .c (.rs 900 0 (ixL U i).length)), (23, .c (.d (boolsD U))), (24, eI U.length), (25, eI i)], [(900, nrow (ixL U i))]⟩) (fun i => i ≤ U.length) (fun i => U.length - i) 0 ((Ent.nameNil 8 900 1 true rfl rfl).trans (Ent.to ⟨rfl, rfl, congrArg (fun n : Nat => some (eI n)) (List.length_map _), rfl, trivial⟩ rfl)) ?_ (fun i hi => ?_)
  ·
   exact Nat.zero_le _
  refine jsr ?_
  refine jst hσ rfl rfl rfl rfl rfl ?_
  refine jn ?_
  refine AWP.seq ?_
  refine AWP.cond hσ rfl rfl (fun hc26 => ?_) (fun hc26 => ?_)
  ·
   skip
   refine AWP.skip ?_
   refine AWP.seq ?_
   refine AWP.block ?_
   refine jsr ?_
   have hil : i < U.length := by have := of_decide_eq_true hc26; omega
   refine jst hσ rfl rfl rfl rfl rfl ?_
   first | refine jin hσ rfl rfl rfl rfl rfl rfl rfl rfl rfl rfl rfl ?_ | refine jix hσ rfl rfl rfl rfl rfl rfl rfl rfl rfl rfl rfl ?_ | refine jvf hσ rfl rfl rfl rfl rfl ?_
   iterate 3 refine jst hσ rfl rfl rfl rfl rfl ?_
   refine jf7 10 9 26 8 23 24 25 rfl rfl rfl rfl rfl rfl rfl ?_
   refine jns ?_
   refine jst hσ rfl rfl rfl rfl rfl ?_
   refine jn ?_
   refine AWP.cond hσ rfl rfl (fun hc30 => ?_) (fun hc30 => ?_)
   ·
    skip
    refine AWP.region ?_
    iterate 2 refine jst hσ rfl rfl rfl rfl rfl ?_
    refine jf9 32 31 30 10 26 8 23 24 25 rfl rfl rfl rfl rfl rfl rfl rfl rfl ?_
    refine AOps.heap (HS.lit hσ rfl rfl rfl) rfl ?_
    refine jnm ?_
    refine jf9 33 31 30 10 26 8 23 24 25 rfl rfl rfl rfl rfl rfl rfl rfl rfl ?_
    have hil2 := ixL_length (bs := U) (i := i)
    have hx9 : ixL U (i + 1) = ixL U i ++ [(i : Int)] := ixL_T hc30
    refine AOps.heap (HS.appMove (zs := ((ixL U (i + 1))).map fun n => [.int .i64 n]) (n := (ixL U (i + 1)).length) hσ rfl rfl rfl rfl rfl rfl rfl rfl rfl rfl rfl rfl rfl rfl rfl rfl (.row rfl (by simp)) rfl rfl (by decide) rfl (by simp; omega) (by simp; omega) (by rw [hx9, List.map_append]; rfl) (by simp)) rfl ?_
    refine jnm ?_
    refine jst hσ rfl rfl rfl rfl rfl ?_
    refine jf7 8 30 10 26 23 24 25 rfl rfl rfl rfl rfl rfl rfl ?_
    refine jn ?_
    refine AWP.region ?_
    first | refine jfi hσ rfl rfl rfl rfl rfl ?_ | refine jvf hσ rfl rfl rfl rfl rfl ?_
    refine jst hσ rfl rfl rfl rfl rfl ?_
    refine jn ?_
    refine ⟨i + 1, ((Ent.sel [34] (e' := [(8, _), (23, _), (24, _), (25, _)]) rfl rfl ⟨rfl, rfl, rfl, rfl, trivial⟩ rfl).trans (Ent.sub2 34 900 rfl rfl)), by omega, by omega⟩
   ·
    skip
    refine AWP.skip ?_
    refine AWP.region ?_
    first | refine jfi hσ rfl rfl rfl rfl rfl ?_ | refine jvf hσ rfl rfl rfl rfl rfl ?_
    refine jst hσ rfl rfl rfl rfl rfl ?_
    refine jn ?_
    have hx9 : ixL U (i + 1) = ixL U i := ixL_F hc30
    rw [← hx9]
    refine ⟨i + 1, Ent.to ⟨rfl, rfl, rfl, rfl, trivial⟩ rfl, by omega, by omega⟩
  ·
   skip
   refine AWP.exit ?_
   refine jsr ?_
   iterate 3 refine jst hσ rfl rfl rfl rfl rfl ?_
   refine jn ?_
   refine AWP.ret ?_
   have hie : i = s.facts.length := by have := of_decide_eq_false hc26; omega
   rw [core_yes (nt2 hc18), ← eU, ← hie]
   refine ⟨.inl rfl, _, Ent.refl, _, rfl, [900], by decide, rfl, rfl, rfl⟩
theorem c1017n {L : Nat} (h1 : 4096 ≤ L) (h2 : L ≤ 1073741824) {s : Sq} {b : Int} (hv : (prvS s b).2 = false) : MC Try.prog L 17 [aSq s, eI b] [] (Rows (.tup [.c (.d .nils), eB false]) []) := by
 refine MC.rows ?_
 have hσ := SGok (nt := 37) h1 (Nat.le_trans h2 (by decide))
 refine MC.body hσ Try.func17 (by kernel_rfl) rfl rfl (Nat.le_of_ble_eq_true rfl) (fun hF => ?_)
 refine jsr ?_
 refine AOps.heap (HS.box hσ rfl rfl rfl rfl rfl rfl rfl) rfl ?_
 refine jnm ?_
 refine AOps.to (Ent.freeze 2 (e' := [(2, _), (1, _)]) rfl (.cons rfl (.c (.box (cs := Sq.cells s) rfl (VMs.self rfl))) (.cons rfl (.keep rfl) .nil)) (.skip .nil)) ?_
 refine jnm ?_
 iterate 2 refine jst hσ rfl rfl rfl rfl rfl ?_
 refine jns ?_
 iterate 2 refine jst hσ rfl rfl rfl rfl rfl ?_
 refine jf5 13 12 5 4 2 rfl rfl rfl rfl rfl ?_
 refine AOps.plainD hσ rfl rfl rfl rfl (c1019 (s := s) (b := b) h1 h2) (VAs.self rfl) rfl rfl rfl rfl (B0 := 15000) rfl rfl ?_
 iterate 5 refine jst hσ rfl rfl rfl rfl rfl ?_
 refine jf5 7 6 5 4 2 rfl rfl rfl rfl rfl ?_
 refine jn ?_
 refine AWP.seq ?_
 refine jsr ?_
 iterate 2 refine jst hσ rfl rfl rfl rfl rfl ?_
 refine jf5 18 6 5 4 2 rfl rfl rfl rfl rfl ?_
 refine jn ?_
 refine AWP.cond hσ rfl rfl (fun hc18 => ?_) (fun hc18 => ?_)
 ·
  skip
  refine jsr ?_
  iterate 2 refine jst hσ rfl rfl rfl rfl rfl ?_
  refine jn ?_
  refine AWP.ret ?_
  refine ⟨.inl rfl, _, Ent.refl, _, rfl, [], by decide, rfl, rfl, rfl⟩
 ·
  skip
  rw [nt2 hc18] at hv; cases hv
theorem c1004v {L : Nat} (h1 : 4096 ≤ L) (h2 : L ≤ 1073741824) {s : Sq} {b : Int} {r : List Int} {m0 : Nat} (hm0 : m0 = r.length) (hcc : 1 + r.length ≤ (1073741824 : Int)) (cs : MC Try.prog L 15 [aSq s, eI b] [] (Plain (.tup [aints r, eB true]))) (ci : MC Try.prog L 17 [aSq s, eI b] [] (Rows (.tup [.c (.rs 0 0 m0), eB true]) [nrow r])) (hz1 : 0 ≤ szr 1048576 s.size) (hcp : 1 + cnt nT s.facts + s.goal.xs.length ≤ (1073741824 : Int)) : MC Try.prog L 4 [aSq s, eI b] [] (Plain (eB true)) := by
 refine MC.alone ?_ rfl
 have hσ := SGok (nt := 101) h1 (Nat.le_trans h2 (by decide))
 refine MC.body hσ Try.func4 (by kernel_rfl) rfl rfl (Nat.le_of_ble_eq_true rfl) (fun hF => ?_)
 subst hm0
 have hbig : L ≤ 9223372036854775807 := Nat.le_trans h2 (by decide)
 refine jsr ?_
 refine AOps.heap (HS.box hσ rfl rfl rfl rfl rfl rfl rfl) rfl ?_
 refine jnm ?_
 refine jst hσ rfl rfl rfl rfl rfl ?_
 refine jns ?_
 refine jst hσ rfl rfl rfl rfl rfl ?_
 refine jns ?_
 iterate 2 refine jst hσ rfl rfl rfl rfl rfl ?_
 refine AOps.lone hσ rfl rfl rfl rfl (c29 (s := s) (left := 1048576) h1 hbig (by decide) (by decide)) (VAs.self rfl) rfl rfl rfl rfl rfl (B0 := 19000) rfl ?_
 refine jst hσ rfl rfl rfl rfl rfl ?_
 refine jf5 5 4 2 0 1 rfl rfl rfl rfl rfl ?_
 refine jn ?_
 refine AWP.seq ?_
 refine jsr ?_
 iterate 2 refine jst hσ rfl rfl rfl rfl rfl ?_
 refine jn ?_
 refine AWP.cond hσ rfl rfl (fun hc20 => ?_) (fun hc20 => ?_)
 ·
  skip
  exact absurd (of_decide_eq_true hc20) (by omega)
 ·
  skip
  refine AWP.skip ?_
  refine jsr ?_
  refine jst hσ rfl rfl rfl rfl rfl ?_
  refine jf7 22 19 5 4 2 0 1 rfl rfl rfl rfl rfl rfl rfl ?_
  refine AOps.plainD hσ rfl rfl rfl rfl (c32d (s := s) h1 h2) (VAs.self rfl) rfl rfl rfl rfl (B0 := 24000) rfl rfl ?_
  refine jst hσ rfl rfl rfl rfl rfl ?_
  refine jf8 24 23 19 5 4 2 0 1 rfl rfl rfl rfl rfl rfl rfl rfl ?_
  refine AOps.plainD hσ rfl rfl rfl rfl (cs) (VAs.self rfl) rfl rfl rfl rfl (B0 := 26000) rfl rfl ?_
  iterate 5 refine jst hσ rfl rfl rfl rfl rfl ?_
  refine jf8 7 6 19 5 4 2 0 1 rfl rfl rfl rfl rfl rfl rfl rfl ?_
  refine jns ?_
  refine jst hσ rfl rfl rfl rfl rfl ?_
  refine AOps.rows hσ (B0 := 30000) rfl rfl rfl rfl (c32 (s := s) h1 h2) (VAs.self rfl) rfl rfl rfl rfl rfl rfl ?_
  refine jnm ?_
  refine jf9 29 7 6 19 5 4 2 0 1 rfl rfl rfl rfl rfl rfl rfl rfl rfl ?_
  refine AOps.heap (HS.alloc hσ rfl rfl rfl rfl rfl) rfl ?_
  refine jnm ?_
  refine AOps.heap (HS.storeBox hσ rfl rfl rfl rfl rfl rfl rfl rfl rfl rfl rfl) rfl ?_
  refine jnm ?_
  refine jns ?_
  iterate 2 refine jst hσ rfl rfl rfl rfl rfl ?_
  refine AOps.rows hσ (B0 := 34000) rfl rfl rfl rfl (ci) (.cons (.agg (.cons (.whole rfl (List.length_map _).symm) (.cons .d (.cons (.whole rfl (List.length_map _).symm) .nil)))) (.cons (.c .d) .nil)) rfl rfl rfl rfl rfl rfl ?_
  refine jnm ?_
  iterate 5 refine jst hσ rfl rfl rfl rfl rfl ?_
  refine jf12 10 9 8 29 7 6 19 5 4 2 0 1 rfl rfl rfl rfl rfl rfl rfl rfl rfl rfl rfl rfl ?_
  refine jn ?_
  refine AWP.seq ?_
  refine jsr ?_
  iterate 2 refine jst hσ rfl rfl rfl rfl rfl ?_
  refine AOps.lone hσ rfl rfl rfl rfl ((c15 (xs := r) (ys := r) h1 h2).plain (u := eB true) (by simp)) (.cons (.c (.whole rfl (List.length_map _).symm)) (.cons (.c .d) .nil)) rfl rfl rfl rfl rfl (B0 := 39000) rfl ?_
  iterate 2 refine jst hσ rfl rfl rfl rfl rfl ?_
  refine AOps.forget [(40, _), (10, _), (9, _), (8, _), (29, _), (7, _), (6, _), (19, _), (5, _), (4, _), (2, _), (0, _), (1, _)] ⟨rfl, rfl, rfl, rfl, rfl, rfl, rfl, rfl, rfl, rfl, rfl, rfl, rfl, trivial⟩ ?_
  refine AOps.live rfl rfl rfl rfl rfl ?_
  refine jst hσ rfl rfl rfl rfl rfl ?_
  refine AOps.live rfl rfl rfl rfl rfl ?_
  refine jst hσ rfl rfl rfl rfl rfl ?_
  refine AOps.live rfl rfl rfl rfl rfl ?_
  refine jst hσ rfl rfl rfl rfl rfl ?_
  refine AOps.step (Val.pickN hσ rfl rfl rfl rfl rfl) rfl rfl rfl ?_
  refine AOps.forget [(44, _), (10, _), (9, _), (8, _), (29, _), (7, _), (6, _), (19, _), (5, _), (4, _), (2, _), (0, _), (1, _)] ⟨rfl, rfl, rfl, rfl, rfl, rfl, rfl, rfl, rfl, rfl, rfl, rfl, rfl, trivial⟩ ?_
  refine jn ?_
  refine AWP.cond hσ rfl rfl (fun hc44 => ?_) (fun hc44 => ?_)
  ·
   skip
   exact absurd (show false = true from hc44) (by decide)
  ·
   skip
   refine AWP.skip ?_
   refine AWP.seq ?_
   refine AWP.seq ?_
   refine AWP.forget [(10, _), (9, _), (8, _), (29, _), (7, _), (6, _), (19, _), (5, _), (4, _), (2, _), (0, _), (1, _)] ⟨rfl, rfl, rfl, rfl, rfl, rfl, rfl, rfl, rfl, rfl, rfl, rfl, trivial⟩ ?_
   refine AWP.drawR hσ _ [_, _, _, _, _] [⟨[], 0, 1, none⟩, ⟨[], 0, 0, none⟩, ⟨[1], 0, 0, some 0⟩, ⟨[0, 1, 2], 0, 0, some 1⟩, ⟨[0, 1, 2, 3], 2, 2, none⟩] [2, 3] [_, _, _] rfl rfl (by decide) (by decide) (by kernel_rfl) (And.intro (And.intro (Val.of hσ rfl rfl) (Val.of hσ rfl rfl)) (And.intro (Val.of hσ rfl rfl) (And.intro (Eff.plainD hσ (B0 := 48000) rfl rfl rfl rfl (c32d (s := s) h1 h2) (VAs.self rfl) rfl rfl rfl rfl rfl) (And.intro (Eff.lone hσ (B0 := 49000) rfl rfl rfl rfl ((c36 (s := s) (t := s) h1 h2).plain (u := eB true) (by simp)) (.cons (.agg (.cons (.whole rfl (List.length_map _).symm) (.cons .d (.cons (.whole rfl (List.length_map _).symm) .nil)))) (.cons (.agg (VMs.self rfl)) .nil)) rfl rfl rfl rfl rfl) (And.intro (Val.of hσ rfl rfl) trivial))))) ?_
   refine AWP.forget [(49, _), (10, _), (9, _), (8, _), (29, _), (7, _), (6, _), (19, _), (5, _), (4, _), (2, _), (0, _), (1, _)] ⟨rfl, rfl, rfl, rfl, rfl, rfl, rfl, rfl, rfl, rfl, rfl, rfl, rfl, trivial⟩ ?_
   refine jnw ?_
   refine AWP.cond hσ rfl rfl (fun hc49 => ?_) (fun hc49 => ?_)
   ·
    skip
    exact absurd (show false = true from hc49) (by decide)
   ·
    skip
    refine AWP.skip ?_
    refine jsr ?_
    refine jst hσ rfl rfl rfl rfl rfl ?_
    refine jns ?_
    iterate 2 refine jst hσ rfl rfl rfl rfl rfl ?_
    refine jf15 51 50 11 10 9 8 29 7 6 19 5 4 2 0 1 rfl rfl rfl rfl rfl rfl rfl rfl rfl rfl rfl rfl rfl rfl rfl ?_
    refine AOps.inn hσ [30000, 30001] (bin := [trow s.facts, nrow s.goal.xs]) rfl rfl rfl rfl (c38 (s := s) (k := 1) h1 h2 (by decide) (by omega)) rfl rfl rfl rfl rfl rfl (B0 := 53000) rfl rfl ?_
    refine jnm ?_
    refine jst hσ rfl rfl rfl rfl rfl ?_
    refine AOps.forget [(11, _), (10, _), (9, _), (8, _), (29, _), (7, _), (6, _), (19, _), (5, _), (4, _), (2, _), (0, _), (1, _)] ⟨rfl, rfl, rfl, rfl, rfl, rfl, rfl, rfl, rfl, rfl, rfl, rfl, rfl, trivial⟩ ?_
    refine jn ?_
    refine AWP.seq ?_
    refine jsr ?_
    iterate 2 refine jst hσ rfl rfl rfl rfl rfl ?_
    rw [decide_eq_false (show ¬ (1 + cnt nT s.facts + s.goal.xs.length : Int) < 0 by omega)]
    refine jst hσ rfl rfl rfl rfl rfl ?_
    refine jf14 55 11 10 9 8 29 7 6 19 5 4 2 0 1 rfl rfl rfl rfl rfl rfl rfl rfl rfl rfl rfl rfl rfl rfl ?_
    refine AOps.live rfl rfl rfl rfl rfl ?_
    refine jst hσ rfl rfl rfl rfl rfl ?_
    refine AOps.live rfl rfl rfl rfl rfl ?_
    refine jst hσ rfl rfl rfl rfl rfl ?_
    refine AOps.live rfl rfl rfl rfl rfl ?_
    refine AOps.lone hσ rfl rfl rfl rfl ((c15 (xs := r) (ys := r) h1 h2).plain (u := eB true) (by simp)) (.cons (.c (.whole rfl (List.length_map _).symm)) (.cons (.c .d) .nil)) rfl rfl rfl rfl rfl (B0 := 59000) rfl ?_
    refine jf15 58 55 11 10 9 8 29 7 6 19 5 4 2 0 1 rfl rfl rfl rfl rfl rfl rfl rfl rfl rfl rfl rfl rfl rfl rfl ?_
    refine AOps.live rfl rfl rfl rfl rfl ?_
    refine jst hσ rfl rfl rfl rfl rfl ?_
    refine AOps.step (Val.pickN hσ rfl rfl rfl rfl rfl) rfl rfl rfl ?_
    refine jst hσ rfl rfl rfl rfl rfl ?_
    refine jf14 61 11 10 9 8 29 7 6 19 5 4 2 0 1 rfl rfl rfl rfl rfl rfl rfl rfl rfl rfl rfl rfl rfl rfl ?_
    refine AOps.live rfl rfl rfl rfl rfl ?_
    refine jst hσ rfl rfl rfl rfl rfl ?_
    refine AOps.live rfl rfl rfl rfl rfl ?_
    refine jst hσ rfl rfl rfl rfl rfl ?_
    refine AOps.live rfl rfl rfl rfl rfl ?_
    refine jst hσ rfl rfl rfl rfl rfl ?_
    refine AOps.step (Val.pickN hσ rfl rfl rfl rfl rfl) rfl rfl rfl ?_
    refine jf14 65 11 10 9 8 29 7 6 19 5 4 2 0 1 rfl rfl rfl rfl rfl rfl rfl rfl rfl rfl rfl rfl rfl rfl ?_
    refine jn ?_
    refine AWP.cond hσ rfl rfl (fun hc65 => ?_) (fun hc65 => ?_)
    ·
     skip
     exact absurd (show false = true from hc65) (by decide)
    ·
     skip
     refine AWP.skip ?_
     refine jsr ?_
     refine jst hσ rfl rfl rfl rfl rfl ?_
     refine jns ?_
     iterate 2 refine jst hσ rfl rfl rfl rfl rfl ?_
     refine AOps.forget [(67, _), (66, _), (12, _), (11, _), (10, _), (9, _), (8, _), (29, _), (7, _), (6, _), (19, _), (5, _), (4, _), (2, _), (0, _), (1, _)] ⟨rfl, rfl, rfl, rfl, rfl, rfl, rfl, rfl, rfl, rfl, rfl, rfl, rfl, rfl, rfl, rfl, trivial⟩ ?_
     refine AOps.inn hσ [34000] (bin := [nrow r]) rfl rfl rfl rfl (c19 (xs := r) (k := 1) h1 h2 (by decide) (by omega)) rfl rfl rfl rfl rfl rfl (B0 := 69000) rfl rfl ?_
     refine jnm ?_
     refine jst hσ rfl rfl rfl rfl rfl ?_
     refine jf14 12 11 10 9 8 29 7 6 19 5 4 2 0 1 rfl rfl rfl rfl rfl rfl rfl rfl rfl rfl rfl rfl rfl rfl ?_
     refine jns ?_
     refine jst hσ rfl rfl rfl rfl rfl ?_
     refine jns ?_
     iterate 2 refine jst hσ rfl rfl rfl rfl rfl ?_
     refine AOps.lone hσ rfl rfl rfl rfl ((c21 (xs := markL mI oneI (1) r) (k := 1) h1 h2 (by decide) (by omega)).plain (congrArg eI (held_marks r (1)))) (.cons (.c (.whole rfl (by rw [List.length_map, markL_length]))) (.cons (.c .d) .nil)) rfl rfl rfl rfl rfl (B0 := 72000) rfl ?_
     refine jst hσ rfl rfl rfl rfl rfl ?_
     refine jf15 13 12 11 10 9 8 29 7 6 19 5 4 2 0 1 rfl rfl rfl rfl rfl rfl rfl rfl rfl rfl rfl rfl rfl rfl rfl ?_
     refine jn ?_
     refine AWP.seq ?_
     refine jsr ?_
     iterate 2 refine jst hσ rfl rfl rfl rfl rfl ?_
     refine jn ?_
     refine AWP.cond hσ rfl rfl (fun hc73 => ?_) (fun hc73 => ?_)
     ·
      skip
      exact absurd (of_decide_eq_true hc73) (by omega)
     ·
      skip
      refine AWP.skip ?_
      refine AWP.seq ?_
      refine jsr ?_
      iterate 3 refine jst hσ rfl rfl rfl rfl rfl ?_
      refine AOps.forget [(76, _), (72, _), (13, _), (12, _), (11, _), (10, _), (9, _), (8, _), (29, _), (7, _), (6, _), (19, _), (5, _), (4, _), (2, _), (0, _), (1, _)] ⟨rfl, rfl, rfl, rfl, rfl, rfl, rfl, rfl, rfl, rfl, rfl, rfl, rfl, rfl, rfl, rfl, rfl, trivial⟩ ?_
      refine jn ?_
      refine AWP.cond hσ rfl rfl (fun hc76 => ?_) (fun hc76 => ?_)
      ·
       skip
       exact absurd hc76 (by simp)
      ·
       skip
       refine AWP.skip ?_
       refine jsr ?_
       refine jst hσ rfl rfl rfl rfl rfl ?_
       refine AOps.forget [(78, _), (72, _), (13, _), (12, _), (11, _), (10, _), (9, _), (8, _), (29, _), (7, _), (6, _), (19, _), (5, _), (4, _), (2, _), (0, _), (1, _)] ⟨rfl, rfl, rfl, rfl, rfl, rfl, rfl, rfl, rfl, rfl, rfl, rfl, rfl, rfl, rfl, rfl, rfl, trivial⟩ ?_
       refine AOps.plainD hσ rfl rfl rfl rfl (c32d (s := s) h1 h2) (VAs.self rfl) rfl rfl rfl rfl (B0 := 80000) rfl rfl ?_
       refine jst hσ rfl rfl rfl rfl rfl ?_
       refine jf18 80 79 72 13 12 11 10 9 8 29 7 6 19 5 4 2 0 1 rfl rfl rfl rfl rfl rfl rfl rfl rfl rfl rfl rfl rfl rfl rfl rfl rfl rfl ?_
       refine AOps.rows hσ (B0 := 82000) rfl rfl rfl rfl (ci) (VAs.self rfl) rfl rfl rfl rfl rfl rfl ?_
       refine jnm ?_
       iterate 5 refine jst hσ rfl rfl rfl rfl rfl ?_
       refine jf18 15 14 72 13 12 11 10 9 8 29 7 6 19 5 4 2 0 1 rfl rfl rfl rfl rfl rfl rfl rfl rfl rfl rfl rfl rfl rfl rfl rfl rfl rfl ?_
       refine jn ?_
       refine AWP.seq ?_
       refine jsr ?_
       iterate 2 refine jst hσ rfl rfl rfl rfl rfl ?_
       refine AOps.forget [(85, _), (84, _), (15, _), (72, _), (13, _), (12, _), (11, _), (10, _), (9, _), (8, _), (29, _), (7, _), (6, _), (19, _), (5, _), (4, _), (2, _), (0, _), (1, _)] ⟨rfl, rfl, rfl, rfl, rfl, rfl, rfl, rfl, rfl, rfl, rfl, rfl, rfl, rfl, rfl, rfl, rfl, rfl, rfl, trivial⟩ ?_
       refine AOps.lone hσ rfl rfl rfl rfl ((c15 (xs := r) (ys := r) h1 h2).plain (u := eB true) (by simp)) (.cons (.c (.whole rfl (List.length_map _).symm)) (.cons (.c .d) .nil)) rfl rfl rfl rfl rfl (B0 := 87000) rfl ?_
       iterate 2 refine jst hσ rfl rfl rfl rfl rfl ?_
       refine jf18 88 15 72 13 12 11 10 9 8 29 7 6 19 5 4 2 0 1 rfl rfl rfl rfl rfl rfl rfl rfl rfl rfl rfl rfl rfl rfl rfl rfl rfl rfl ?_
       refine AOps.live rfl rfl rfl rfl rfl ?_
       refine jst hσ rfl rfl rfl rfl rfl ?_
       refine jf18 89 88 72 13 12 11 10 9 8 29 7 6 19 5 4 2 0 1 rfl rfl rfl rfl rfl rfl rfl rfl rfl rfl rfl rfl rfl rfl rfl rfl rfl rfl ?_
       refine AOps.live rfl rfl rfl rfl rfl ?_
       refine jst hσ rfl rfl rfl rfl rfl ?_
       refine AOps.live rfl rfl rfl rfl rfl ?_
       refine jst hσ rfl rfl rfl rfl rfl ?_
       refine AOps.step (Val.pickN hσ rfl rfl rfl rfl rfl) rfl rfl rfl ?_
       refine AOps.forget [(92, _), (72, _), (13, _), (12, _), (11, _), (10, _), (9, _), (8, _), (29, _), (7, _), (6, _), (19, _), (5, _), (4, _), (2, _), (0, _), (1, _)] ⟨rfl, rfl, rfl, rfl, rfl, rfl, rfl, rfl, rfl, rfl, rfl, rfl, rfl, rfl, rfl, rfl, rfl, trivial⟩ ?_
       refine jn ?_
       refine AWP.cond hσ rfl rfl (fun hc92 => ?_) (fun hc92 => ?_)
       ·
        skip
        exact absurd (show false = true from hc92) (by decide)
       ·
        skip
        refine AWP.skip ?_
        refine jsr ?_
        refine jst hσ rfl rfl rfl rfl rfl ?_
        refine jns ?_
        iterate 2 refine jst hσ rfl rfl rfl rfl rfl ?_
        refine jf18 94 93 13 72 12 11 10 9 8 29 7 6 19 5 4 2 0 1 rfl rfl rfl rfl rfl rfl rfl rfl rfl rfl rfl rfl rfl rfl rfl rfl rfl rfl ?_
        refine AOps.lone hσ rfl rfl rfl rfl ((c21 (xs := markL mI oneI (1) r) (k := 1) h1 h2 (by decide) (by omega)).plain (congrArg eI (held_marks r (1)))) (.cons (.c (.whole rfl (by rw [List.length_map, markL_length]))) (.cons (.c .d) .nil)) rfl rfl rfl rfl rfl (B0 := 96000) rfl ?_
        refine jst hσ rfl rfl rfl rfl rfl ?_
        refine AOps.forget [(13, _), (72, _), (12, _), (11, _), (10, _), (9, _), (8, _), (29, _), (7, _), (6, _), (19, _), (5, _), (4, _), (2, _), (0, _), (1, _)] ⟨rfl, rfl, rfl, rfl, rfl, rfl, rfl, rfl, rfl, rfl, rfl, rfl, rfl, rfl, rfl, rfl, trivial⟩ ?_
        refine jn ?_
        refine AWP.seq ?_
        refine jsr ?_
        iterate 2 refine jst hσ rfl rfl rfl rfl rfl ?_
        refine jn ?_
        refine AWP.cond hσ rfl rfl (fun hc97 => ?_) (fun hc97 => ?_)
        ·
         skip
         exact absurd (of_decide_eq_true hc97) (by omega)
        ·
         skip
         refine AWP.skip ?_
         refine AWP.seq ?_
         refine jsr ?_
         iterate 3 refine jst hσ rfl rfl rfl rfl rfl ?_
         refine jf18 100 96 13 72 12 11 10 9 8 29 7 6 19 5 4 2 0 1 rfl rfl rfl rfl rfl rfl rfl rfl rfl rfl rfl rfl rfl rfl rfl rfl rfl rfl ?_
         refine jn ?_
         refine AWP.cond hσ rfl rfl (fun hc100 => ?_) (fun hc100 => ?_)
         ·
          skip
          exact absurd hc100 (by simp)
         ·
          skip
          refine AWP.skip ?_
          refine jsr ?_
          refine jst hσ rfl rfl rfl rfl rfl ?_
          refine jn ?_
          refine AWP.ret ?_
          refine ⟨.inl rfl, _, Ent.refl, _, rfl, ?_⟩
          rfl
theorem c1004n {L : Nat} (h1 : 4096 ≤ L) (h2 : L ≤ 1073741824) {s : Sq} {b : Int} (cs : MC Try.prog L 15 [aSq s, eI b] [] (Plain (.tup [aints ([] : List Int), eB false]))) (ci : MC Try.prog L 17 [aSq s, eI b] [] (Rows (.tup [.c (.d .nils), eB false]) [])) (hz1 : 0 ≤ szr 1048576 s.size) (hcp : 1 + cnt nT s.facts + s.goal.xs.length ≤ (1073741824 : Int)) : MC Try.prog L 4 [aSq s, eI b] [] (Plain (eB true)) := by
 refine MC.alone ?_ rfl
 have hσ := SGok (nt := 101) h1 (Nat.le_trans h2 (by decide))
 refine MC.body hσ Try.func4 (by kernel_rfl) rfl rfl (Nat.le_of_ble_eq_true rfl) (fun hF => ?_)
 have hbig : L ≤ 9223372036854775807 := Nat.le_trans h2 (by decide)
 refine jsr ?_
 refine AOps.heap (HS.box hσ rfl rfl rfl rfl rfl rfl rfl) rfl ?_
 refine jnm ?_
 refine jst hσ rfl rfl rfl rfl rfl ?_
 refine jns ?_
 refine jst hσ rfl rfl rfl rfl rfl ?_
 refine jns ?_
 iterate 2 refine jst hσ rfl rfl rfl rfl rfl ?_
 refine AOps.lone hσ rfl rfl rfl rfl (c29 (s := s) (left := 1048576) h1 hbig (by decide) (by decide)) (VAs.self rfl) rfl rfl rfl rfl rfl (B0 := 19000) rfl ?_
 refine jst hσ rfl rfl rfl rfl rfl ?_
 refine jf5 5 4 2 0 1 rfl rfl rfl rfl rfl ?_
 refine jn ?_
 refine AWP.seq ?_
 refine jsr ?_
 iterate 2 refine jst hσ rfl rfl rfl rfl rfl ?_
 refine jn ?_
 refine AWP.cond hσ rfl rfl (fun hc20 => ?_) (fun hc20 => ?_)
 ·
  skip
  exact absurd (of_decide_eq_true hc20) (by omega)
 ·
  skip
  refine AWP.skip ?_
  refine jsr ?_
  refine jst hσ rfl rfl rfl rfl rfl ?_
  refine jf7 22 19 5 4 2 0 1 rfl rfl rfl rfl rfl rfl rfl ?_
  refine AOps.plainD hσ rfl rfl rfl rfl (c32d (s := s) h1 h2) (VAs.self rfl) rfl rfl rfl rfl (B0 := 24000) rfl rfl ?_
  refine jst hσ rfl rfl rfl rfl rfl ?_
  refine jf8 24 23 19 5 4 2 0 1 rfl rfl rfl rfl rfl rfl rfl rfl ?_
  refine AOps.plainD hσ rfl rfl rfl rfl (cs) (VAs.self rfl) rfl rfl rfl rfl (B0 := 26000) rfl rfl ?_
  iterate 5 refine jst hσ rfl rfl rfl rfl rfl ?_
  refine jf8 7 6 19 5 4 2 0 1 rfl rfl rfl rfl rfl rfl rfl rfl ?_
  refine jns ?_
  refine jst hσ rfl rfl rfl rfl rfl ?_
  refine AOps.rows hσ (B0 := 30000) rfl rfl rfl rfl (c32 (s := s) h1 h2) (VAs.self rfl) rfl rfl rfl rfl rfl rfl ?_
  refine jnm ?_
  refine jf9 29 7 6 19 5 4 2 0 1 rfl rfl rfl rfl rfl rfl rfl rfl rfl ?_
  refine AOps.heap (HS.alloc hσ rfl rfl rfl rfl rfl) rfl ?_
  refine jnm ?_
  refine AOps.heap (HS.storeBox hσ rfl rfl rfl rfl rfl rfl rfl rfl rfl rfl rfl) rfl ?_
  refine jnm ?_
  refine jns ?_
  iterate 2 refine jst hσ rfl rfl rfl rfl rfl ?_
  refine AOps.rows hσ (B0 := 34000) rfl rfl rfl rfl (ci) (.cons (.agg (.cons (.whole rfl (List.length_map _).symm) (.cons .d (.cons (.whole rfl (List.length_map _).symm) .nil)))) (.cons (.c .d) .nil)) rfl rfl rfl rfl rfl rfl ?_
  refine jnm ?_
  iterate 5 refine jst hσ rfl rfl rfl rfl rfl ?_
  refine jf12 10 9 8 29 7 6 19 5 4 2 0 1 rfl rfl rfl rfl rfl rfl rfl rfl rfl rfl rfl rfl ?_
  refine jn ?_
  refine AWP.seq ?_
  refine jsr ?_
  iterate 2 refine jst hσ rfl rfl rfl rfl rfl ?_
  refine AOps.lone hσ rfl rfl rfl rfl ((c15 (xs := ([] : List Int)) (ys := ([] : List Int)) h1 h2).plain (u := eB true) (by simp)) (.cons (.c .nils) (.cons (.c .d) .nil)) rfl rfl rfl rfl rfl (B0 := 39000) rfl ?_
  iterate 2 refine jst hσ rfl rfl rfl rfl rfl ?_
  refine AOps.forget [(40, _), (10, _), (9, _), (8, _), (29, _), (7, _), (6, _), (19, _), (5, _), (4, _), (2, _), (0, _), (1, _)] ⟨rfl, rfl, rfl, rfl, rfl, rfl, rfl, rfl, rfl, rfl, rfl, rfl, rfl, trivial⟩ ?_
  refine AOps.live rfl rfl rfl rfl rfl ?_
  refine jst hσ rfl rfl rfl rfl rfl ?_
  refine AOps.live rfl rfl rfl rfl rfl ?_
  refine jst hσ rfl rfl rfl rfl rfl ?_
  refine AOps.live rfl rfl rfl rfl rfl ?_
  refine jst hσ rfl rfl rfl rfl rfl ?_
  refine AOps.step (Val.pickN hσ rfl rfl rfl rfl rfl) rfl rfl rfl ?_
  refine AOps.forget [(44, _), (10, _), (9, _), (8, _), (29, _), (7, _), (6, _), (19, _), (5, _), (4, _), (2, _), (0, _), (1, _)] ⟨rfl, rfl, rfl, rfl, rfl, rfl, rfl, rfl, rfl, rfl, rfl, rfl, rfl, trivial⟩ ?_
  refine jn ?_
  refine AWP.cond hσ rfl rfl (fun hc44 => ?_) (fun hc44 => ?_)
  ·
   skip
   exact absurd (show false = true from hc44) (by decide)
  ·
   skip
   refine AWP.skip ?_
   refine AWP.seq ?_
   refine AWP.seq ?_
   refine AWP.forget [(10, _), (9, _), (8, _), (29, _), (7, _), (6, _), (19, _), (5, _), (4, _), (2, _), (0, _), (1, _)] ⟨rfl, rfl, rfl, rfl, rfl, rfl, rfl, rfl, rfl, rfl, rfl, rfl, trivial⟩ ?_
   refine AWP.drawR hσ _ [_, _, _, _, _] [⟨[], 0, 1, none⟩, ⟨[], 0, 0, none⟩, ⟨[1], 0, 0, some 0⟩, ⟨[0, 1, 2], 0, 0, some 1⟩, ⟨[0, 1, 2, 3], 2, 2, none⟩] [2, 3] [_, _, _] rfl rfl (by decide) (by decide) (by kernel_rfl) (And.intro (And.intro (Val.of hσ rfl rfl) (Val.of hσ rfl rfl)) (And.intro (Val.of hσ rfl rfl) (And.intro (Eff.plainD hσ (B0 := 48000) rfl rfl rfl rfl (c32d (s := s) h1 h2) (VAs.self rfl) rfl rfl rfl rfl rfl) (And.intro (Eff.lone hσ (B0 := 49000) rfl rfl rfl rfl ((c36 (s := s) (t := s) h1 h2).plain (u := eB true) (by simp)) (.cons (.agg (.cons (.whole rfl (List.length_map _).symm) (.cons .d (.cons (.whole rfl (List.length_map _).symm) .nil)))) (.cons (.agg (VMs.self rfl)) .nil)) rfl rfl rfl rfl rfl) (And.intro (Val.of hσ rfl rfl) trivial))))) ?_
   refine AWP.forget [(49, _), (10, _), (9, _), (8, _), (29, _), (7, _), (6, _), (19, _), (5, _), (4, _), (2, _), (0, _), (1, _)] ⟨rfl, rfl, rfl, rfl, rfl, rfl, rfl, rfl, rfl, rfl, rfl, rfl, rfl, trivial⟩ ?_
   refine jnw ?_
   refine AWP.cond hσ rfl rfl (fun hc49 => ?_) (fun hc49 => ?_)
   ·
    skip
    exact absurd (show false = true from hc49) (by decide)
   ·
    skip
    refine AWP.skip ?_
    refine jsr ?_
    refine jst hσ rfl rfl rfl rfl rfl ?_
    refine jns ?_
    iterate 2 refine jst hσ rfl rfl rfl rfl rfl ?_
    refine jf15 51 50 11 10 9 8 29 7 6 19 5 4 2 0 1 rfl rfl rfl rfl rfl rfl rfl rfl rfl rfl rfl rfl rfl rfl rfl ?_
    refine AOps.inn hσ [30000, 30001] (bin := [trow s.facts, nrow s.goal.xs]) rfl rfl rfl rfl (c38 (s := s) (k := 1) h1 h2 (by decide) (by omega)) rfl rfl rfl rfl rfl rfl (B0 := 53000) rfl rfl ?_
    refine jnm ?_
    refine jst hσ rfl rfl rfl rfl rfl ?_
    refine AOps.forget [(11, _), (10, _), (9, _), (8, _), (29, _), (7, _), (6, _), (19, _), (5, _), (4, _), (2, _), (0, _), (1, _)] ⟨rfl, rfl, rfl, rfl, rfl, rfl, rfl, rfl, rfl, rfl, rfl, rfl, rfl, trivial⟩ ?_
    refine jn ?_
    refine AWP.seq ?_
    refine jsr ?_
    iterate 2 refine jst hσ rfl rfl rfl rfl rfl ?_
    rw [decide_eq_false (show ¬ (1 + cnt nT s.facts + s.goal.xs.length : Int) < 0 by omega)]
    refine jst hσ rfl rfl rfl rfl rfl ?_
    refine jf14 55 11 10 9 8 29 7 6 19 5 4 2 0 1 rfl rfl rfl rfl rfl rfl rfl rfl rfl rfl rfl rfl rfl rfl ?_
    refine AOps.live rfl rfl rfl rfl rfl ?_
    refine jst hσ rfl rfl rfl rfl rfl ?_
    refine AOps.live rfl rfl rfl rfl rfl ?_
    refine jst hσ rfl rfl rfl rfl rfl ?_
    refine AOps.live rfl rfl rfl rfl rfl ?_
    refine AOps.lone hσ rfl rfl rfl rfl ((c15 (xs := ([] : List Int)) (ys := ([] : List Int)) h1 h2).plain (u := eB true) (by simp)) (.cons (.c .nils) (.cons (.c .d) .nil)) rfl rfl rfl rfl rfl (B0 := 59000) rfl ?_
    refine jf15 58 55 11 10 9 8 29 7 6 19 5 4 2 0 1 rfl rfl rfl rfl rfl rfl rfl rfl rfl rfl rfl rfl rfl rfl rfl ?_
    refine AOps.live rfl rfl rfl rfl rfl ?_
    refine jst hσ rfl rfl rfl rfl rfl ?_
    refine AOps.step (Val.pickN hσ rfl rfl rfl rfl rfl) rfl rfl rfl ?_
    refine jst hσ rfl rfl rfl rfl rfl ?_
    refine jf14 61 11 10 9 8 29 7 6 19 5 4 2 0 1 rfl rfl rfl rfl rfl rfl rfl rfl rfl rfl rfl rfl rfl rfl ?_
    refine AOps.live rfl rfl rfl rfl rfl ?_
    refine jst hσ rfl rfl rfl rfl rfl ?_
    refine AOps.live rfl rfl rfl rfl rfl ?_
    refine jst hσ rfl rfl rfl rfl rfl ?_
    refine AOps.live rfl rfl rfl rfl rfl ?_
    refine jst hσ rfl rfl rfl rfl rfl ?_
    refine AOps.step (Val.pickN hσ rfl rfl rfl rfl rfl) rfl rfl rfl ?_
    refine jf14 65 11 10 9 8 29 7 6 19 5 4 2 0 1 rfl rfl rfl rfl rfl rfl rfl rfl rfl rfl rfl rfl rfl rfl ?_
    refine jn ?_
    refine AWP.cond hσ rfl rfl (fun hc65 => ?_) (fun hc65 => ?_)
    ·
     skip
     exact absurd (show false = true from hc65) (by decide)
    ·
     skip
     refine AWP.skip ?_
     refine jsr ?_
     refine jst hσ rfl rfl rfl rfl rfl ?_
     refine jns ?_
     iterate 2 refine jst hσ rfl rfl rfl rfl rfl ?_
     refine AOps.forget [(67, _), (66, _), (12, _), (11, _), (10, _), (9, _), (8, _), (29, _), (7, _), (6, _), (19, _), (5, _), (4, _), (2, _), (0, _), (1, _)] ⟨rfl, rfl, rfl, rfl, rfl, rfl, rfl, rfl, rfl, rfl, rfl, rfl, rfl, rfl, rfl, rfl, trivial⟩ ?_
     refine AOps.lone hσ rfl rfl rfl rfl (c19n (k := 1) h1 h2) (.cons (.c .nils) (.cons (.c .d) .nil)) rfl rfl rfl rfl rfl (B0 := 69000) rfl ?_
     refine jst hσ rfl rfl rfl rfl rfl ?_
     refine jf14 12 11 10 9 8 29 7 6 19 5 4 2 0 1 rfl rfl rfl rfl rfl rfl rfl rfl rfl rfl rfl rfl rfl rfl ?_
     refine jns ?_
     refine jst hσ rfl rfl rfl rfl rfl ?_
     refine jns ?_
     iterate 2 refine jst hσ rfl rfl rfl rfl rfl ?_
     refine AOps.lone hσ rfl rfl rfl rfl ((c21 (xs := []) (k := 1) h1 h2 (by decide) (by decide)).plain (u := eI 1) rfl) (.cons (.c .nils) (.cons (.c .d) .nil)) rfl rfl rfl rfl rfl (B0 := 72000) rfl ?_
     refine jst hσ rfl rfl rfl rfl rfl ?_
     refine jf15 13 12 11 10 9 8 29 7 6 19 5 4 2 0 1 rfl rfl rfl rfl rfl rfl rfl rfl rfl rfl rfl rfl rfl rfl rfl ?_
     refine jn ?_
     refine AWP.seq ?_
     refine jsr ?_
     iterate 2 refine jst hσ rfl rfl rfl rfl rfl ?_
     refine jn ?_
     refine AWP.cond hσ rfl rfl (fun hc73 => ?_) (fun hc73 => ?_)
     ·
      skip
      exact absurd (of_decide_eq_true hc73) (by decide)
     ·
      skip
      refine AWP.skip ?_
      refine AWP.seq ?_
      refine jsr ?_
      iterate 3 refine jst hσ rfl rfl rfl rfl rfl ?_
      refine AOps.forget [(76, _), (72, _), (13, _), (12, _), (11, _), (10, _), (9, _), (8, _), (29, _), (7, _), (6, _), (19, _), (5, _), (4, _), (2, _), (0, _), (1, _)] ⟨rfl, rfl, rfl, rfl, rfl, rfl, rfl, rfl, rfl, rfl, rfl, rfl, rfl, rfl, rfl, rfl, rfl, trivial⟩ ?_
      refine jn ?_
      refine AWP.cond hσ rfl rfl (fun hc76 => ?_) (fun hc76 => ?_)
      ·
       skip
       exact absurd hc76 (by simp)
      ·
       skip
       refine AWP.skip ?_
       refine jsr ?_
       refine jst hσ rfl rfl rfl rfl rfl ?_
       refine AOps.forget [(78, _), (72, _), (13, _), (12, _), (11, _), (10, _), (9, _), (8, _), (29, _), (7, _), (6, _), (19, _), (5, _), (4, _), (2, _), (0, _), (1, _)] ⟨rfl, rfl, rfl, rfl, rfl, rfl, rfl, rfl, rfl, rfl, rfl, rfl, rfl, rfl, rfl, rfl, rfl, trivial⟩ ?_
       refine AOps.plainD hσ rfl rfl rfl rfl (c32d (s := s) h1 h2) (VAs.self rfl) rfl rfl rfl rfl (B0 := 80000) rfl rfl ?_
       refine jst hσ rfl rfl rfl rfl rfl ?_
       refine jf18 80 79 72 13 12 11 10 9 8 29 7 6 19 5 4 2 0 1 rfl rfl rfl rfl rfl rfl rfl rfl rfl rfl rfl rfl rfl rfl rfl rfl rfl rfl ?_
       refine AOps.rows hσ (B0 := 82000) rfl rfl rfl rfl (ci) (VAs.self rfl) rfl rfl rfl rfl rfl rfl ?_
       refine jnm ?_
       iterate 5 refine jst hσ rfl rfl rfl rfl rfl ?_
       refine jf18 15 14 72 13 12 11 10 9 8 29 7 6 19 5 4 2 0 1 rfl rfl rfl rfl rfl rfl rfl rfl rfl rfl rfl rfl rfl rfl rfl rfl rfl rfl ?_
       refine jn ?_
       refine AWP.seq ?_
       refine jsr ?_
       iterate 2 refine jst hσ rfl rfl rfl rfl rfl ?_
       refine AOps.forget [(85, _), (84, _), (15, _), (72, _), (13, _), (12, _), (11, _), (10, _), (9, _), (8, _), (29, _), (7, _), (6, _), (19, _), (5, _), (4, _), (2, _), (0, _), (1, _)] ⟨rfl, rfl, rfl, rfl, rfl, rfl, rfl, rfl, rfl, rfl, rfl, rfl, rfl, rfl, rfl, rfl, rfl, rfl, rfl, trivial⟩ ?_
       refine AOps.lone hσ rfl rfl rfl rfl ((c15 (xs := ([] : List Int)) (ys := ([] : List Int)) h1 h2).plain (u := eB true) (by simp)) (.cons (.c .nils) (.cons (.c .d) .nil)) rfl rfl rfl rfl rfl (B0 := 87000) rfl ?_
       iterate 2 refine jst hσ rfl rfl rfl rfl rfl ?_
       refine jf18 88 15 72 13 12 11 10 9 8 29 7 6 19 5 4 2 0 1 rfl rfl rfl rfl rfl rfl rfl rfl rfl rfl rfl rfl rfl rfl rfl rfl rfl rfl ?_
       refine AOps.live rfl rfl rfl rfl rfl ?_
       refine jst hσ rfl rfl rfl rfl rfl ?_
       refine jf18 89 88 72 13 12 11 10 9 8 29 7 6 19 5 4 2 0 1 rfl rfl rfl rfl rfl rfl rfl rfl rfl rfl rfl rfl rfl rfl rfl rfl rfl rfl ?_
       refine AOps.live rfl rfl rfl rfl rfl ?_
       refine jst hσ rfl rfl rfl rfl rfl ?_
       refine AOps.live rfl rfl rfl rfl rfl ?_
       refine jst hσ rfl rfl rfl rfl rfl ?_
       refine AOps.step (Val.pickN hσ rfl rfl rfl rfl rfl) rfl rfl rfl ?_
       refine AOps.forget [(92, _), (72, _), (13, _), (12, _), (11, _), (10, _), (9, _), (8, _), (29, _), (7, _), (6, _), (19, _), (5, _), (4, _), (2, _), (0, _), (1, _)] ⟨rfl, rfl, rfl, rfl, rfl, rfl, rfl, rfl, rfl, rfl, rfl, rfl, rfl, rfl, rfl, rfl, rfl, trivial⟩ ?_
       refine jn ?_
       refine AWP.cond hσ rfl rfl (fun hc92 => ?_) (fun hc92 => ?_)
       ·
        skip
        exact absurd (show false = true from hc92) (by decide)
       ·
        skip
        refine AWP.skip ?_
        refine jsr ?_
        refine jst hσ rfl rfl rfl rfl rfl ?_
        refine jns ?_
        iterate 2 refine jst hσ rfl rfl rfl rfl rfl ?_
        refine jf18 94 93 13 72 12 11 10 9 8 29 7 6 19 5 4 2 0 1 rfl rfl rfl rfl rfl rfl rfl rfl rfl rfl rfl rfl rfl rfl rfl rfl rfl rfl ?_
        refine AOps.lone hσ rfl rfl rfl rfl ((c21 (xs := []) (k := 1) h1 h2 (by decide) (by decide)).plain (u := eI 1) rfl) (.cons (.c .nils) (.cons (.c .d) .nil)) rfl rfl rfl rfl rfl (B0 := 96000) rfl ?_
        refine jst hσ rfl rfl rfl rfl rfl ?_
        refine AOps.forget [(13, _), (72, _), (12, _), (11, _), (10, _), (9, _), (8, _), (29, _), (7, _), (6, _), (19, _), (5, _), (4, _), (2, _), (0, _), (1, _)] ⟨rfl, rfl, rfl, rfl, rfl, rfl, rfl, rfl, rfl, rfl, rfl, rfl, rfl, rfl, rfl, rfl, trivial⟩ ?_
        refine jn ?_
        refine AWP.seq ?_
        refine jsr ?_
        iterate 2 refine jst hσ rfl rfl rfl rfl rfl ?_
        refine jn ?_
        refine AWP.cond hσ rfl rfl (fun hc97 => ?_) (fun hc97 => ?_)
        ·
         skip
         exact absurd (of_decide_eq_true hc97) (by decide)
        ·
         skip
         refine AWP.skip ?_
         refine AWP.seq ?_
         refine jsr ?_
         iterate 3 refine jst hσ rfl rfl rfl rfl rfl ?_
         refine jf18 100 96 13 72 12 11 10 9 8 29 7 6 19 5 4 2 0 1 rfl rfl rfl rfl rfl rfl rfl rfl rfl rfl rfl rfl rfl rfl rfl rfl rfl rfl ?_
         refine jn ?_
         refine AWP.cond hσ rfl rfl (fun hc100 => ?_) (fun hc100 => ?_)
         ·
          skip
          exact absurd hc100 (by simp)
         ·
          skip
          refine AWP.skip ?_
          refine jsr ?_
          refine jst hσ rfl rfl rfl rfl rfl ?_
          refine jn ?_
          refine AWP.ret ?_
          refine ⟨.inl rfl, _, Ent.refl, _, rfl, ?_⟩
          rfl
theorem c1004a {L : Nat} (h1 : 4096 ≤ L) (h2 : L ≤ 9223372036854775807) {s : Sq} {b : Int} (hz : szr 1048576 s.size < 0) : MC Try.prog L 4 [aSq s, eI b] [] (Plain (eB true)) := by
 refine MC.alone ?_ rfl
 have hσ := SGok (nt := 101) h1 h2
 refine MC.body hσ Try.func4 (by kernel_rfl) rfl rfl (Nat.le_of_ble_eq_true rfl) (fun hF => ?_)
 refine jsr ?_
 refine AOps.heap (HS.box hσ rfl rfl rfl rfl rfl rfl rfl) rfl ?_
 refine jnm ?_
 refine jst hσ rfl rfl rfl rfl rfl ?_
 refine jns ?_
 refine jst hσ rfl rfl rfl rfl rfl ?_
 refine jns ?_
 iterate 2 refine jst hσ rfl rfl rfl rfl rfl ?_
 refine AOps.lone hσ rfl rfl rfl rfl (c29 (s := s) (left := 1048576) h1 h2 (by decide) (by decide)) (VAs.self rfl) rfl rfl rfl rfl rfl (B0 := 19000) rfl ?_
 refine jst hσ rfl rfl rfl rfl rfl ?_
 refine jf5 5 4 2 0 1 rfl rfl rfl rfl rfl ?_
 refine jn ?_
 refine AWP.seq ?_
 refine jsr ?_
 iterate 2 refine jst hσ rfl rfl rfl rfl rfl ?_
 refine jn ?_
 refine AWP.cond hσ rfl rfl (fun hc20 => ?_) (fun hc20 => ?_)
 ·
  skip
  refine jsr ?_
  refine jst hσ rfl rfl rfl rfl rfl ?_
  refine jn ?_
  refine AWP.ret ?_
  refine ⟨.inl rfl, _, Ent.refl, _, rfl, ?_⟩
  rfl
 ·
  skip
  exact absurd (of_decide_eq_false hc20) (fun h => h hz)

end Go.Al
namespace Go.Al
open Go.Proofs
set_option linter.unusedVariables false
set_option linter.unusedSimpArgs false
/-- The law of CoreOf holds for all arguments. -/
theorem law1004 {L : Nat} (h1 : 4096 ≤ L) (h2 : L ≤ 9223372036854775807) {s : Sq} {b : Int} : MC Try.prog L 4 [aSq s, eI b] [] (Plain (eB true)) := by
  by_cases hz1 : szr 1048576 s.size < 0
  · exact c1004a h1 h2 hz1
  have hz1' : 0 ≤ szr 1048576 s.size := by omega
  have g1 := szr_nonneg hz1' (by decide)
  have k1 := cnt_szs s.facts
  have e1 : s.size = szs Tm.size s.facts + s.goal.xs.length := rfl
  have hcp : 1 + cnt nT s.facts + s.goal.xs.length ≤ (1073741824 : Int) := by omega
  refine MC.facts ⟨_, _, Try.func4, by kernel_rfl, rfl⟩ fun hF => ?_
  refine MC.lift (L0 := 1073741824) rfl ?_ ?_
  · exact ⟨fact_sq hF.1 (by omega), hF.2.1, trivial⟩
  · have cs := c1016 (L := 1073741824) (s := s) (b := b) (by decide) (Nat.le_refl _)
    cases hv : (prvS s b).2 with
    | true =>
      obtain ⟨hq1, hq2⟩ := prv_T hv
      have hn := (seqB_spec hq1).2.1
      have hc : (coreS s b).1.length ≤ s.facts.length := by rw [core_yes hv]; exact ixL_length
      rw [show resCo (coreS s b) = .tup [aints (coreS s b).1, eB true] by rw [core_yes hv]] at cs
      exact c1004v (r := (coreS s b).1) (by decide) (Nat.le_refl _) rfl (by omega) cs (c1017v (by decide) (Nat.le_refl _) hv) hz1' hcp
    | false =>
      rw [core_no hv] at cs
      exact c1004n (by decide) (Nat.le_refl _) cs (c1017n (by decide) (Nat.le_refl _) hv) hz1' hcp
end Go.Al
