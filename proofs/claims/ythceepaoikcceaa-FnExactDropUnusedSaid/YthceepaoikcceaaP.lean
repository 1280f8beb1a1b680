/- The law, walked. -/
import Derived.Test.YthceepaoikcceaaM
namespace Go.Al
open Go.Proofs
set_option linter.unusedVariables false
set_option linter.unusedSimpArgs false
set_option maxRecDepth 10000
set_option maxHeartbeats 4000000
theorem c94n {L : Nat} (h1 : 4096 ≤ L) (h2 : L ≤ 1073741824) {k : Int} : MC Try.prog L 32 [aTm' ⟨0, []⟩, eI k] [] (Plain (eI k)) := by
 refine MC.alone ?_ rfl
 have hσ := SGok (nt := 10) h1 (Nat.le_trans h2 (by decide))
 refine MC.body hσ Try.func32 (by kernel_rfl) rfl rfl (Nat.le_of_ble_eq_true rfl) (fun hF => ?_)
 refine jsr ?_
 refine AOps.heap (HS.box hσ rfl rfl rfl rfl rfl rfl rfl) rfl ?_
 apply AOps.norm
 ·
  repeat' (first | exact jq0 rfl | apply jq1 rfl | exact jq2 rfl | exact jq9 rfl | apply jq3 rfl | exact jq4 rfl | apply jq5 rfl | exact jq6 rfl | exact jq7 rfl | exact jq8)
 refine jst hσ rfl rfl rfl rfl rfl ?_
 refine jn ?_
 refine jsr ?_
 refine jst hσ rfl rfl rfl rfl rfl ?_
 refine jst hσ rfl rfl rfl rfl rfl ?_
 refine jst hσ rfl rfl rfl rfl rfl ?_
 refine jf [(7, _), (6, _), (4, _), (0, _), (1, _)] ⟨rfl, rfl, rfl, rfl, rfl, trivial⟩ ?_
 refine AOps.lone hσ rfl rfl rfl rfl (c19n (k := k) h1 h2) (VAs.self rfl) rfl rfl rfl rfl rfl (B0 := 9000) rfl ?_
 refine jst hσ rfl rfl rfl rfl rfl ?_
 refine jf [(1, _), (4, _), (0, _)] ⟨rfl, rfl, rfl, trivial⟩ ?_
 refine jn ?_
 refine jsr ?_
 refine jst hσ rfl rfl rfl rfl rfl ?_
 refine jst hσ rfl rfl rfl rfl rfl ?_
 refine jn ?_
 refine AWP.ret ?_
 refine ⟨.inl rfl, _, Ent.refl, _, rfl, ?_⟩
 rfl
theorem c38n {L : Nat} (h1 : 4096 ≤ L) (h2 : L ≤ 1073741824) {k : Int} : MC Try.prog L 17 [aSq ⟨[], ⟨0, []⟩⟩, eI k] [] (Plain (eI k)) := by
 refine MC.alone ?_ rfl
 have hσ := SGok (nt := 14) h1 (Nat.le_trans h2 (by decide))
 refine MC.body hσ Try.func17 (by kernel_rfl) rfl rfl (Nat.le_of_ble_eq_true rfl) (fun hF => ?_)
 refine jsr ?_
 refine AOps.heap (HS.box hσ rfl rfl rfl rfl rfl rfl rfl) rfl ?_
 apply AOps.norm
 ·
  repeat' (first | exact jq0 rfl | apply jq1 rfl | exact jq2 rfl | exact jq9 rfl | apply jq3 rfl | exact jq4 rfl | apply jq5 rfl | exact jq6 rfl | exact jq7 rfl | exact jq8)
 refine jst hσ rfl rfl rfl rfl rfl ?_
 refine jn ?_
 refine jsr ?_
 refine jst hσ rfl rfl rfl rfl rfl ?_
 refine jst hσ rfl rfl rfl rfl rfl ?_
 refine jst hσ rfl rfl rfl rfl rfl ?_
 refine jf [(7, _), (6, _), (4, _), (2, _), (0, _), (1, _)] ⟨rfl, rfl, rfl, rfl, rfl, rfl, trivial⟩ ?_
 refine AOps.lone hσ rfl rfl rfl rfl (c40n (k := k) h1 h2) (VAs.self rfl) rfl rfl rfl rfl rfl (B0 := 9000) rfl ?_
 refine jst hσ rfl rfl rfl rfl rfl ?_
 refine jf [(1, _), (4, _), (2, _), (0, _)] ⟨rfl, rfl, rfl, rfl, trivial⟩ ?_
 refine jn ?_
 refine jsr ?_
 refine jst hσ rfl rfl rfl rfl rfl ?_
 refine jst hσ rfl rfl rfl rfl rfl ?_
 refine jst hσ rfl rfl rfl rfl rfl ?_
 refine jf [(11, _), (10, _), (1, _), (4, _), (2, _), (0, _)] ⟨rfl, rfl, rfl, rfl, rfl, rfl, trivial⟩ ?_
 refine AOps.lone hσ rfl rfl rfl rfl (c94n (k := k) h1 h2) (VAs.self rfl) rfl rfl rfl rfl rfl (B0 := 13000) rfl ?_
 refine jst hσ rfl rfl rfl rfl rfl ?_
 refine jf [(1, _), (4, _), (2, _), (0, _)] ⟨rfl, rfl, rfl, rfl, trivial⟩ ?_
 refine jn ?_
 refine jsr ?_
 refine jst hσ rfl rfl rfl rfl rfl ?_
 refine jst hσ rfl rfl rfl rfl rfl ?_
 refine jn ?_
 refine AWP.ret ?_
 refine ⟨.inl rfl, _, Ent.refl, _, rfl, ?_⟩
 rfl
end Go.Al
namespace Go.Al
open Go.Proofs
set_option linter.unusedVariables false
set_option linter.unusedSimpArgs false
end Go.Al
namespace Go.Al
open Go.Proofs
set_option linter.unusedVariables false
set_option linter.unusedSimpArgs false
set_option maxRecDepth 10000
set_option maxHeartbeats 4000000
theorem c1000v {L : Nat} (h1 : 4096 ≤ L) (h2 : L ≤ 1073741824) {s : Sq} {p : List Nd} {rs : Sq} {rp : List Nd} {m1 : Nat} (hm1 : m1 = rp.length) (hcc : 1 + cnt nT rs.facts + rs.goal.xs.length + cnt nN rp ≤ (1073741824 : Int)) (cs : MC Try.prog L 11 [aSq s, ands p] [] (Plain (.tup [aSq rs, ands rp, eB true]))) (ci : MC Try.prog L 14 [aSq s, ands p] [] (Rows (.tup [.agg [.rs 0 0 rs.facts.length, .d (.int .i64 rs.goal.c), .rs 1 0 rs.goal.xs.length], .c (.rs 2 0 m1), eB true]) [trow rs.facts, nrow rs.goal.xs, ndrow rp])) (hz1 : 0 ≤ szr 1048576 s.size) (hz2 : 0 ≤ szr (szr 1048576 s.size) (Al.szs Nd.size p)) (hcp : 1 + cnt nT s.facts + s.goal.xs.length + cnt nN p ≤ (1073741824 : Int)) : MC Try.prog L 3 [aSq s, ands p] [] (Plain (eB true)) := by
 refine MC.alone ?_ rfl
 have hσ := SGok (nt := 156) h1 (Nat.le_trans h2 (by decide))
 refine MC.body hσ Try.func3 (by kernel_rfl) rfl rfl (Nat.le_of_ble_eq_true rfl) (fun hF => ?_)
 subst hm1
 have hbig : L ≤ 9223372036854775807 := Nat.le_trans h2 (by decide)
 refine jsr ?_
 refine AOps.heap (HS.box hσ rfl rfl rfl rfl rfl rfl rfl) rfl ?_
 apply AOps.norm
 ·
  repeat' (first | exact jq0 rfl | apply jq1 rfl | exact jq2 rfl | exact jq9 rfl | apply jq3 rfl | exact jq4 rfl | apply jq5 rfl | exact jq6 rfl | exact jq7 rfl | exact jq8)
 refine jst hσ rfl rfl rfl rfl rfl ?_
 refine jn ?_
 refine jsr ?_
 refine jst hσ rfl rfl rfl rfl rfl ?_
 refine jn ?_
 refine jsr ?_
 refine jst hσ rfl rfl rfl rfl rfl ?_
 refine jst hσ rfl rfl rfl rfl rfl ?_
 refine AOps.lone hσ rfl rfl rfl rfl (c29 (s := s) (left := 1048576) h1 hbig (by decide) (by decide)) (VAs.self rfl) rfl rfl rfl rfl rfl (B0 := 23000) rfl ?_
 refine jst hσ rfl rfl rfl rfl rfl ?_
 refine jf [(5, _), (4, _), (2, _), (0, _), (1, _)] ⟨rfl, rfl, rfl, rfl, rfl, trivial⟩ ?_
 refine jn ?_
 refine AWP.seq ?_
 refine jsr ?_
 refine jst hσ rfl rfl rfl rfl rfl ?_
 refine jst hσ rfl rfl rfl rfl rfl ?_
 refine jn ?_
 refine AWP.cond hσ rfl rfl (fun hc24 => ?_) (fun hc24 => ?_)
 ·
  skip
  exact absurd (of_decide_eq_true hc24) (by omega)
 ·
  skip
  refine AWP.skip ?_
  refine jsr ?_
  refine jst hσ rfl rfl rfl rfl rfl ?_
  refine jst hσ rfl rfl rfl rfl rfl ?_
  refine jf [(26, _), (25, _), (23, _), (5, _), (4, _), (2, _), (0, _), (1, _)] ⟨rfl, rfl, rfl, rfl, rfl, rfl, rfl, rfl, trivial⟩ ?_
  have hle0 := szr_le (left := 1048576) (by decide) s.size
  refine AOps.lone hσ rfl rfl rfl rfl (c30 (ts := p) (left := szr 1048576 s.size) h1 hbig hz1 (by omega)) (VAs.self rfl) rfl rfl rfl rfl rfl (B0 := 28000) rfl ?_
  refine jst hσ rfl rfl rfl rfl rfl ?_
  refine jf [(5, _), (23, _), (4, _), (2, _), (0, _), (1, _)] ⟨rfl, rfl, rfl, rfl, rfl, rfl, trivial⟩ ?_
  refine jn ?_
  refine AWP.seq ?_
  refine jsr ?_
  refine jst hσ rfl rfl rfl rfl rfl ?_
  refine jst hσ rfl rfl rfl rfl rfl ?_
  refine jn ?_
  refine AWP.cond hσ rfl rfl (fun hc29 => ?_) (fun hc29 => ?_)
  ·
   skip
   exact absurd (of_decide_eq_true hc29) (by omega)
  ·
   skip
   refine AWP.skip ?_
   refine jsr ?_
   refine jst hσ rfl rfl rfl rfl rfl ?_
   refine jf [(31, _), (28, _), (5, _), (23, _), (4, _), (2, _), (0, _), (1, _)] ⟨rfl, rfl, rfl, rfl, rfl, rfl, rfl, rfl, trivial⟩ ?_
   refine AOps.plainD hσ rfl rfl rfl rfl (c32d (s := s) h1 h2) (VAs.self rfl) rfl rfl rfl rfl (B0 := 33000) rfl rfl ?_
   refine jst hσ rfl rfl rfl rfl rfl ?_
   refine jf [(33, _), (32, _), (28, _), (5, _), (23, _), (4, _), (2, _), (0, _), (1, _)] ⟨rfl, rfl, rfl, rfl, rfl, rfl, rfl, rfl, rfl, trivial⟩ ?_
   refine AOps.plainD hσ rfl rfl rfl rfl (c33d (p := p) h1 h2) (VAs.self rfl) rfl rfl rfl rfl (B0 := 35000) rfl rfl ?_
   refine jf [(34, _), (32, _), (28, _), (5, _), (23, _), (4, _), (2, _), (0, _), (1, _)] ⟨rfl, rfl, rfl, rfl, rfl, rfl, rfl, rfl, rfl, trivial⟩ ?_
   refine AOps.plainD hσ rfl rfl rfl rfl (cs) (VAs.self rfl) rfl rfl rfl rfl (B0 := 36000) rfl rfl ?_
   refine jst hσ rfl rfl rfl rfl rfl ?_
   refine jst hσ rfl rfl rfl rfl rfl ?_
   refine jst hσ rfl rfl rfl rfl rfl ?_
   refine jst hσ rfl rfl rfl rfl rfl ?_
   refine jf [(38, _), (37, _), (36, _), (28, _), (5, _), (23, _), (4, _), (2, _), (0, _), (1, _)] ⟨rfl, rfl, rfl, rfl, rfl, rfl, rfl, rfl, rfl, rfl, trivial⟩ ?_
   refine AOps.heap (HS.alloc hσ rfl rfl rfl rfl rfl) rfl ?_
   apply AOps.norm
   ·
    repeat' (first | exact jq0 rfl | apply jq1 rfl | exact jq2 rfl | exact jq9 rfl | apply jq3 rfl | exact jq4 rfl | apply jq5 rfl | exact jq6 rfl | exact jq7 rfl | exact jq8)
   refine AOps.heap (HS.storeBox hσ rfl rfl rfl rfl rfl rfl rfl rfl rfl rfl rfl) rfl ?_
   apply AOps.norm
   ·
    repeat' (first | exact jq0 rfl | apply jq1 rfl | exact jq2 rfl | exact jq9 rfl | apply jq3 rfl | exact jq4 rfl | apply jq5 rfl | exact jq6 rfl | exact jq7 rfl | exact jq8)
   refine jst hσ rfl rfl rfl rfl rfl ?_
   refine jst hσ rfl rfl rfl rfl rfl ?_
   refine jf [(8, _), (7, _), (6, _), (28, _), (5, _), (23, _), (4, _), (2, _), (0, _), (1, _)] ⟨rfl, rfl, rfl, rfl, rfl, rfl, rfl, rfl, rfl, rfl, trivial⟩ ?_
   refine jn ?_
   refine jsr ?_
   refine jst hσ rfl rfl rfl rfl rfl ?_
   refine AOps.rows hσ (B0 := 41000) rfl rfl rfl rfl (c32 (s := s) h1 h2) (VAs.self rfl) rfl rfl rfl rfl rfl rfl ?_
   apply AOps.norm
   ·
    repeat' (first | exact jq0 rfl | apply jq1 rfl | exact jq2 rfl | exact jq9 rfl | apply jq3 rfl | exact jq4 rfl | apply jq5 rfl | exact jq6 rfl | exact jq7 rfl | exact jq8)
   refine jf [(40, _), (8, _), (7, _), (6, _), (28, _), (5, _), (23, _), (4, _), (2, _), (0, _), (1, _)] ⟨rfl, rfl, rfl, rfl, rfl, rfl, rfl, rfl, rfl, rfl, rfl, trivial⟩ ?_
   refine AOps.heap (HS.alloc hσ rfl rfl rfl rfl rfl) rfl ?_
   apply AOps.norm
   ·
    repeat' (first | exact jq0 rfl | apply jq1 rfl | exact jq2 rfl | exact jq9 rfl | apply jq3 rfl | exact jq4 rfl | apply jq5 rfl | exact jq6 rfl | exact jq7 rfl | exact jq8)
   refine AOps.heap (HS.storeBox hσ rfl rfl rfl rfl rfl rfl rfl rfl rfl rfl rfl) rfl ?_
   apply AOps.norm
   ·
    repeat' (first | exact jq0 rfl | apply jq1 rfl | exact jq2 rfl | exact jq9 rfl | apply jq3 rfl | exact jq4 rfl | apply jq5 rfl | exact jq6 rfl | exact jq7 rfl | exact jq8)
   refine jn ?_
   refine jsr ?_
   refine jst hσ rfl rfl rfl rfl rfl ?_
   refine AOps.rows hσ (B0 := 43000) rfl rfl rfl rfl (c33 (ts := p) h1 h2) (VAs.self rfl) rfl rfl rfl rfl rfl rfl ?_
   apply AOps.norm
   ·
    repeat' (first | exact jq0 rfl | apply jq1 rfl | exact jq2 rfl | exact jq9 rfl | apply jq3 rfl | exact jq4 rfl | apply jq5 rfl | exact jq6 rfl | exact jq7 rfl | exact jq8)
   refine jst hσ rfl rfl rfl rfl rfl ?_
   refine jf [(10, _), (9, _), (40, _), (8, _), (7, _), (6, _), (28, _), (5, _), (23, _), (4, _), (2, _), (0, _), (1, _)] ⟨rfl, rfl, rfl, rfl, rfl, rfl, rfl, rfl, rfl, rfl, rfl, rfl, rfl, trivial⟩ ?_
   refine jn ?_
   refine jsr ?_
   refine jst hσ rfl rfl rfl rfl rfl ?_
   refine jst hσ rfl rfl rfl rfl rfl ?_
   refine AOps.rows hσ (B0 := 47000) rfl rfl rfl rfl (ci) (.cons (.agg (.cons (.whole rfl (List.length_map _).symm) (.cons .d (.cons (.whole rfl (List.length_map _).symm) .nil)))) (.cons (.c (.whole rfl (List.length_map _).symm)) .nil)) rfl rfl rfl rfl rfl rfl ?_
   apply AOps.norm
   ·
    repeat' (first | exact jq0 rfl | apply jq1 rfl | exact jq2 rfl | exact jq9 rfl | apply jq3 rfl | exact jq4 rfl | apply jq5 rfl | exact jq6 rfl | exact jq7 rfl | exact jq8)
   refine jst hσ rfl rfl rfl rfl rfl ?_
   refine jst hσ rfl rfl rfl rfl rfl ?_
   refine jst hσ rfl rfl rfl rfl rfl ?_
   refine jst hσ rfl rfl rfl rfl rfl ?_
   refine jf [(49, _), (48, _), (47, _), (10, _), (9, _), (40, _), (8, _), (7, _), (6, _), (28, _), (5, _), (23, _), (4, _), (2, _), (0, _), (1, _)] ⟨rfl, rfl, rfl, rfl, rfl, rfl, rfl, rfl, rfl, rfl, rfl, rfl, rfl, rfl, rfl, rfl, trivial⟩ ?_
   refine AOps.heap (HS.alloc hσ rfl rfl rfl rfl rfl) rfl ?_
   apply AOps.norm
   ·
    repeat' (first | exact jq0 rfl | apply jq1 rfl | exact jq2 rfl | exact jq9 rfl | apply jq3 rfl | exact jq4 rfl | apply jq5 rfl | exact jq6 rfl | exact jq7 rfl | exact jq8)
   refine AOps.heap (HS.storeBox hσ rfl rfl rfl rfl rfl rfl rfl rfl rfl rfl rfl) rfl ?_
   apply AOps.norm
   ·
    repeat' (first | exact jq0 rfl | apply jq1 rfl | exact jq2 rfl | exact jq9 rfl | apply jq3 rfl | exact jq4 rfl | apply jq5 rfl | exact jq6 rfl | exact jq7 rfl | exact jq8)
   refine jst hσ rfl rfl rfl rfl rfl ?_
   refine jst hσ rfl rfl rfl rfl rfl ?_
   refine jf [(13, _), (12, _), (11, _), (10, _), (9, _), (40, _), (8, _), (7, _), (6, _), (28, _), (5, _), (23, _), (4, _), (2, _), (0, _), (1, _)] ⟨rfl, rfl, rfl, rfl, rfl, rfl, rfl, rfl, rfl, rfl, rfl, rfl, rfl, rfl, rfl, rfl, trivial⟩ ?_
   refine jn ?_
   refine AWP.seq ?_
   refine jsr ?_
   refine jst hσ rfl rfl rfl rfl rfl ?_
   refine jst hσ rfl rfl rfl rfl rfl ?_
   refine AOps.lone hσ rfl rfl rfl rfl ((c36 (s := rs) (t := rs) h1 h2).plain (u := eB true) (by simp)) (.cons (.agg (.cons (.whole rfl (List.length_map _).symm) (.cons .d (.cons (.whole rfl (List.length_map _).symm) .nil)))) (.cons (.agg (VMs.self rfl)) .nil)) rfl rfl rfl rfl rfl (B0 := 53000) rfl ?_
   refine jst hσ rfl rfl rfl rfl rfl ?_
   refine jst hσ rfl rfl rfl rfl rfl ?_
   refine jf [(54, _), (13, _), (12, _), (11, _), (10, _), (9, _), (40, _), (8, _), (7, _), (6, _), (28, _), (5, _), (23, _), (4, _), (2, _), (0, _), (1, _)] ⟨rfl, rfl, rfl, rfl, rfl, rfl, rfl, rfl, rfl, rfl, rfl, rfl, rfl, rfl, rfl, rfl, rfl, trivial⟩ ?_
   refine AOps.live rfl rfl rfl rfl rfl ?_
   refine jst hσ rfl rfl rfl rfl rfl ?_
   refine AOps.live rfl rfl rfl rfl rfl ?_
   refine jst hσ rfl rfl rfl rfl rfl ?_
   refine AOps.live rfl rfl rfl rfl rfl ?_
   refine AOps.lone hσ rfl rfl rfl rfl ((c37 (xs := rp) (ys := rp) h1 h2).plain (u := eB true) (by simp)) (.cons (.c (.whole rfl (List.length_map _).symm)) (.cons (.c .d) .nil)) rfl rfl rfl rfl rfl (B0 := 58000) rfl ?_
   refine jf [(57, _), (54, _), (13, _), (12, _), (11, _), (10, _), (9, _), (40, _), (8, _), (7, _), (6, _), (28, _), (5, _), (23, _), (4, _), (2, _), (0, _), (1, _)] ⟨rfl, rfl, rfl, rfl, rfl, rfl, rfl, rfl, rfl, rfl, rfl, rfl, rfl, rfl, rfl, rfl, rfl, rfl, trivial⟩ ?_
   refine AOps.live rfl rfl rfl rfl rfl ?_
   refine jst hσ rfl rfl rfl rfl rfl ?_
   refine AOps.step (Val.pickN hσ rfl rfl rfl rfl rfl) rfl rfl rfl ?_
   refine jst hσ rfl rfl rfl rfl rfl ?_
   refine jf [(60, _), (13, _), (12, _), (11, _), (10, _), (9, _), (40, _), (8, _), (7, _), (6, _), (28, _), (5, _), (23, _), (4, _), (2, _), (0, _), (1, _)] ⟨rfl, rfl, rfl, rfl, rfl, rfl, rfl, rfl, rfl, rfl, rfl, rfl, rfl, rfl, rfl, rfl, rfl, trivial⟩ ?_
   refine AOps.live rfl rfl rfl rfl rfl ?_
   refine jst hσ rfl rfl rfl rfl rfl ?_
   refine AOps.live rfl rfl rfl rfl rfl ?_
   refine jst hσ rfl rfl rfl rfl rfl ?_
   refine AOps.live rfl rfl rfl rfl rfl ?_
   refine jst hσ rfl rfl rfl rfl rfl ?_
   refine AOps.step (Val.pickN hσ rfl rfl rfl rfl rfl) rfl rfl rfl ?_
   refine jf [(64, _), (13, _), (12, _), (11, _), (10, _), (9, _), (40, _), (8, _), (7, _), (6, _), (28, _), (5, _), (23, _), (4, _), (2, _), (0, _), (1, _)] ⟨rfl, rfl, rfl, rfl, rfl, rfl, rfl, rfl, rfl, rfl, rfl, rfl, rfl, rfl, rfl, rfl, rfl, trivial⟩ ?_
   refine jn ?_
   refine AWP.cond hσ rfl rfl (fun hc64 => ?_) (fun hc64 => ?_)
   ·
    skip
    exact absurd (show false = true from hc64) (by decide)
   ·
    skip
    refine AWP.skip ?_
    refine AWP.seq ?_
    refine AWP.seq ?_
    refine AWP.forget [(13, _), (12, _), (11, _), (10, _), (9, _), (40, _), (8, _), (7, _), (6, _), (28, _), (5, _), (23, _), (4, _), (2, _), (0, _), (1, _)] ⟨rfl, rfl, rfl, rfl, rfl, rfl, rfl, rfl, rfl, rfl, rfl, rfl, rfl, rfl, rfl, rfl, trivial⟩ ?_
    refine AWP.drawR hσ _ [_, _, _, _, _] [⟨[], 0, 1, none⟩, ⟨[], 0, 0, none⟩, ⟨[1], 0, 0, some 0⟩, ⟨[0, 1, 2], 0, 0, some 1⟩, ⟨[0, 1, 2, 3], 2, 2, none⟩] [2, 3] [_, _, _] rfl rfl (by decide) (by decide) (by kernel_rfl) (And.intro (And.intro (Val.of hσ rfl rfl) (Val.of hσ rfl rfl)) (And.intro (Val.of hσ rfl rfl) (And.intro (Eff.plainD hσ (B0 := 68000) rfl rfl rfl rfl (c32d (s := s) h1 h2) (VAs.self rfl) rfl rfl rfl rfl rfl) (And.intro (Eff.lone hσ (B0 := 69000) rfl rfl rfl rfl ((c36 (s := s) (t := s) h1 h2).plain (u := eB true) (by simp)) (.cons (.agg (.cons (.whole rfl (List.length_map _).symm) (.cons .d (.cons (.whole rfl (List.length_map _).symm) .nil)))) (.cons (.agg (VMs.self rfl)) .nil)) rfl rfl rfl rfl rfl) (And.intro (Val.of hσ rfl rfl) trivial))))) ?_
    refine AWP.forget [(69, _), (13, _), (12, _), (11, _), (10, _), (9, _), (40, _), (8, _), (7, _), (6, _), (28, _), (5, _), (23, _), (4, _), (2, _), (0, _), (1, _)] ⟨rfl, rfl, rfl, rfl, rfl, rfl, rfl, rfl, rfl, rfl, rfl, rfl, rfl, rfl, rfl, rfl, rfl, trivial⟩ ?_
    apply AWP.norm
    ·
     repeat' (first | exact jq0 rfl | apply jq1 rfl | exact jq2 rfl | exact jq9 rfl | apply jq3 rfl | exact jq4 rfl | apply jq5 rfl | exact jq6 rfl | exact jq7 rfl | exact jq8)
    refine AWP.cond hσ rfl rfl (fun hc69 => ?_) (fun hc69 => ?_)
    ·
     skip
     exact absurd (show false = true from hc69) (by decide)
    ·
     skip
     refine AWP.skip ?_
     refine AWP.seq ?_
     refine jsr ?_
     refine jst hσ rfl rfl rfl rfl rfl ?_
     refine jst hσ rfl rfl rfl rfl rfl ?_
     refine jf [(71, _), (70, _), (13, _), (12, _), (11, _), (10, _), (9, _), (40, _), (8, _), (7, _), (6, _), (28, _), (5, _), (23, _), (4, _), (2, _), (0, _), (1, _)] ⟨rfl, rfl, rfl, rfl, rfl, rfl, rfl, rfl, rfl, rfl, rfl, rfl, rfl, rfl, rfl, rfl, rfl, rfl, trivial⟩ ?_
     refine AOps.plainD hσ rfl rfl rfl rfl (c33d (p := p) h1 h2) (VAs.self rfl) rfl rfl rfl rfl (B0 := 73000) rfl rfl ?_
     refine jf [(72, _), (70, _), (13, _), (12, _), (11, _), (10, _), (9, _), (40, _), (8, _), (7, _), (6, _), (28, _), (5, _), (23, _), (4, _), (2, _), (0, _), (1, _)] ⟨rfl, rfl, rfl, rfl, rfl, rfl, rfl, rfl, rfl, rfl, rfl, rfl, rfl, rfl, rfl, rfl, rfl, rfl, trivial⟩ ?_
     refine AOps.lone hσ rfl rfl rfl rfl ((c37 (xs := p) (ys := p) h1 h2).plain (u := eB true) (by simp)) (.cons (.c (.whole rfl (List.length_map _).symm)) (.cons (.c .d) .nil)) rfl rfl rfl rfl rfl (B0 := 74000) rfl ?_
     refine jst hσ rfl rfl rfl rfl rfl ?_
     refine jf [(74, _), (13, _), (12, _), (11, _), (10, _), (9, _), (40, _), (8, _), (7, _), (6, _), (28, _), (5, _), (23, _), (4, _), (2, _), (0, _), (1, _)] ⟨rfl, rfl, rfl, rfl, rfl, rfl, rfl, rfl, rfl, rfl, rfl, rfl, rfl, rfl, rfl, rfl, rfl, trivial⟩ ?_
     refine jn ?_
     refine AWP.cond hσ rfl rfl (fun hc74 => ?_) (fun hc74 => ?_)
     ·
      skip
      exact absurd (show false = true from hc74) (by decide)
     ·
      skip
      refine AWP.skip ?_
      refine jsr ?_
      refine jst hσ rfl rfl rfl rfl rfl ?_
      refine jn ?_
      refine jsr ?_
      refine jst hσ rfl rfl rfl rfl rfl ?_
      refine jst hσ rfl rfl rfl rfl rfl ?_
      refine jf [(76, _), (75, _), (14, _), (13, _), (12, _), (11, _), (10, _), (9, _), (40, _), (8, _), (7, _), (6, _), (28, _), (5, _), (23, _), (4, _), (2, _), (0, _), (1, _)] ⟨rfl, rfl, rfl, rfl, rfl, rfl, rfl, rfl, rfl, rfl, rfl, rfl, rfl, rfl, rfl, rfl, rfl, rfl, rfl, trivial⟩ ?_
      refine AOps.inn hσ [41000, 41001] (bin := [trow s.facts, nrow s.goal.xs]) rfl rfl rfl rfl (c38 (s := s) (k := 1) h1 h2 (by decide) (by omega)) rfl rfl rfl rfl rfl rfl (B0 := 78000) rfl rfl ?_
      apply AOps.norm
      ·
       repeat' (first | exact jq0 rfl | apply jq1 rfl | exact jq2 rfl | exact jq9 rfl | apply jq3 rfl | exact jq4 rfl | apply jq5 rfl | exact jq6 rfl | exact jq7 rfl | exact jq8)
      refine jst hσ rfl rfl rfl rfl rfl ?_
      refine jf [(14, _), (13, _), (12, _), (11, _), (10, _), (9, _), (40, _), (8, _), (7, _), (6, _), (28, _), (5, _), (23, _), (4, _), (2, _), (0, _), (1, _)] ⟨rfl, rfl, rfl, rfl, rfl, rfl, rfl, rfl, rfl, rfl, rfl, rfl, rfl, rfl, rfl, rfl, rfl, trivial⟩ ?_
      refine jn ?_
      refine jsr ?_
      refine jst hσ rfl rfl rfl rfl rfl ?_
      refine jst hσ rfl rfl rfl rfl rfl ?_
      refine AOps.inn hσ [43000] (bin := [ndrow p]) rfl rfl rfl rfl (c39 (ts := p) (k := 1 + cnt nT s.facts + s.goal.xs.length) h1 h2 (by omega) (by omega)) rfl rfl rfl rfl rfl rfl (B0 := 81000) rfl rfl ?_
      apply AOps.norm
      ·
       repeat' (first | exact jq0 rfl | apply jq1 rfl | exact jq2 rfl | exact jq9 rfl | apply jq3 rfl | exact jq4 rfl | apply jq5 rfl | exact jq6 rfl | exact jq7 rfl | exact jq8)
      refine jst hσ rfl rfl rfl rfl rfl ?_
      refine jf [(14, _), (13, _), (12, _), (11, _), (10, _), (9, _), (40, _), (8, _), (7, _), (6, _), (28, _), (5, _), (23, _), (4, _), (2, _), (0, _), (1, _)] ⟨rfl, rfl, rfl, rfl, rfl, rfl, rfl, rfl, rfl, rfl, rfl, rfl, rfl, rfl, rfl, rfl, rfl, trivial⟩ ?_
      refine jn ?_
      refine AWP.seq ?_
      refine jsr ?_
      refine jst hσ rfl rfl rfl rfl rfl ?_
      refine jst hσ rfl rfl rfl rfl rfl ?_
      rw [decide_eq_false (show ¬ (1 + cnt nT s.facts + s.goal.xs.length + cnt nN p : Int) < 0 by omega)]
      refine jst hσ rfl rfl rfl rfl rfl ?_
      refine jf [(83, _), (14, _), (13, _), (12, _), (11, _), (10, _), (9, _), (40, _), (8, _), (7, _), (6, _), (28, _), (5, _), (23, _), (4, _), (2, _), (0, _), (1, _)] ⟨rfl, rfl, rfl, rfl, rfl, rfl, rfl, rfl, rfl, rfl, rfl, rfl, rfl, rfl, rfl, rfl, rfl, rfl, trivial⟩ ?_
      refine AOps.live rfl rfl rfl rfl rfl ?_
      refine jst hσ rfl rfl rfl rfl rfl ?_
      refine AOps.live rfl rfl rfl rfl rfl ?_
      refine jst hσ rfl rfl rfl rfl rfl ?_
      refine AOps.live rfl rfl rfl rfl rfl ?_
      refine AOps.lone hσ rfl rfl rfl rfl ((c36 (s := rs) (t := rs) h1 h2).plain (u := eB true) (by simp)) (.cons (.agg (.cons (.whole rfl (List.length_map _).symm) (.cons .d (.cons (.whole rfl (List.length_map _).symm) .nil)))) (.cons (.agg (VMs.self rfl)) .nil)) rfl rfl rfl rfl rfl (B0 := 87000) rfl ?_
      refine jf [(86, _), (83, _), (14, _), (13, _), (12, _), (11, _), (10, _), (9, _), (40, _), (8, _), (7, _), (6, _), (28, _), (5, _), (23, _), (4, _), (2, _), (0, _), (1, _)] ⟨rfl, rfl, rfl, rfl, rfl, rfl, rfl, rfl, rfl, rfl, rfl, rfl, rfl, rfl, rfl, rfl, rfl, rfl, rfl, trivial⟩ ?_
      refine AOps.live rfl rfl rfl rfl rfl ?_
      refine jst hσ rfl rfl rfl rfl rfl ?_
      refine AOps.step (Val.pickN hσ rfl rfl rfl rfl rfl) rfl rfl rfl ?_
      refine jst hσ rfl rfl rfl rfl rfl ?_
      refine jf [(89, _), (14, _), (13, _), (12, _), (11, _), (10, _), (9, _), (40, _), (8, _), (7, _), (6, _), (28, _), (5, _), (23, _), (4, _), (2, _), (0, _), (1, _)] ⟨rfl, rfl, rfl, rfl, rfl, rfl, rfl, rfl, rfl, rfl, rfl, rfl, rfl, rfl, rfl, rfl, rfl, rfl, trivial⟩ ?_
      refine AOps.live rfl rfl rfl rfl rfl ?_
      refine jst hσ rfl rfl rfl rfl rfl ?_
      refine AOps.live rfl rfl rfl rfl rfl ?_
      refine jst hσ rfl rfl rfl rfl rfl ?_
      refine AOps.live rfl rfl rfl rfl rfl ?_
      refine AOps.lone hσ rfl rfl rfl rfl ((c37 (xs := rp) (ys := rp) h1 h2).plain (u := eB true) (by simp)) (.cons (.c (.whole rfl (List.length_map _).symm)) (.cons (.c .d) .nil)) rfl rfl rfl rfl rfl (B0 := 93000) rfl ?_
      refine jf [(92, _), (89, _), (14, _), (13, _), (12, _), (11, _), (10, _), (9, _), (40, _), (8, _), (7, _), (6, _), (28, _), (5, _), (23, _), (4, _), (2, _), (0, _), (1, _)] ⟨rfl, rfl, rfl, rfl, rfl, rfl, rfl, rfl, rfl, rfl, rfl, rfl, rfl, rfl, rfl, rfl, rfl, rfl, rfl, trivial⟩ ?_
      refine AOps.live rfl rfl rfl rfl rfl ?_
      refine jst hσ rfl rfl rfl rfl rfl ?_
      refine AOps.step (Val.pickN hσ rfl rfl rfl rfl rfl) rfl rfl rfl ?_
      refine jst hσ rfl rfl rfl rfl rfl ?_
      refine jf [(95, _), (14, _), (13, _), (12, _), (11, _), (10, _), (9, _), (40, _), (8, _), (7, _), (6, _), (28, _), (5, _), (23, _), (4, _), (2, _), (0, _), (1, _)] ⟨rfl, rfl, rfl, rfl, rfl, rfl, rfl, rfl, rfl, rfl, rfl, rfl, rfl, rfl, rfl, rfl, rfl, rfl, trivial⟩ ?_
      refine AOps.live rfl rfl rfl rfl rfl ?_
      refine jst hσ rfl rfl rfl rfl rfl ?_
      refine AOps.live rfl rfl rfl rfl rfl ?_
      refine jst hσ rfl rfl rfl rfl rfl ?_
      refine AOps.live rfl rfl rfl rfl rfl ?_
      refine jst hσ rfl rfl rfl rfl rfl ?_
      refine AOps.step (Val.pickN hσ rfl rfl rfl rfl rfl) rfl rfl rfl ?_
      refine jf [(99, _), (14, _), (13, _), (12, _), (11, _), (10, _), (9, _), (40, _), (8, _), (7, _), (6, _), (28, _), (5, _), (23, _), (4, _), (2, _), (0, _), (1, _)] ⟨rfl, rfl, rfl, rfl, rfl, rfl, rfl, rfl, rfl, rfl, rfl, rfl, rfl, rfl, rfl, rfl, rfl, rfl, trivial⟩ ?_
      refine jn ?_
      refine AWP.cond hσ rfl rfl (fun hc99 => ?_) (fun hc99 => ?_)
      ·
       skip
       exact absurd (show false = true from hc99) (by decide)
      ·
       skip
       refine AWP.skip ?_
       refine jsr ?_
       refine jst hσ rfl rfl rfl rfl rfl ?_
       refine jn ?_
       refine jsr ?_
       refine jst hσ rfl rfl rfl rfl rfl ?_
       refine jst hσ rfl rfl rfl rfl rfl ?_
       refine jf [(101, _), (100, _), (15, _), (14, _), (13, _), (12, _), (11, _), (10, _), (9, _), (40, _), (8, _), (7, _), (6, _), (28, _), (5, _), (23, _), (4, _), (2, _), (0, _), (1, _)] ⟨rfl, rfl, rfl, rfl, rfl, rfl, rfl, rfl, rfl, rfl, rfl, rfl, rfl, rfl, rfl, rfl, rfl, rfl, rfl, rfl, trivial⟩ ?_
       refine AOps.inn hσ [47000, 47001] (bin := [trow rs.facts, nrow rs.goal.xs]) rfl rfl rfl rfl (c38 (s := rs) (k := 1) h1 h2 (by decide) (by omega)) rfl rfl rfl rfl rfl rfl (B0 := 103000) rfl rfl ?_
       apply AOps.norm
       ·
        repeat' (first | exact jq0 rfl | apply jq1 rfl | exact jq2 rfl | exact jq9 rfl | apply jq3 rfl | exact jq4 rfl | apply jq5 rfl | exact jq6 rfl | exact jq7 rfl | exact jq8)
       refine jst hσ rfl rfl rfl rfl rfl ?_
       refine jf [(15, _), (14, _), (13, _), (12, _), (11, _), (10, _), (9, _), (40, _), (8, _), (7, _), (6, _), (28, _), (5, _), (23, _), (4, _), (2, _), (0, _), (1, _)] ⟨rfl, rfl, rfl, rfl, rfl, rfl, rfl, rfl, rfl, rfl, rfl, rfl, rfl, rfl, rfl, rfl, rfl, rfl, trivial⟩ ?_
       refine jn ?_
       refine jsr ?_
       refine jst hσ rfl rfl rfl rfl rfl ?_
       refine jst hσ rfl rfl rfl rfl rfl ?_
       refine AOps.inn hσ [47002] (bin := [ndrow rp]) rfl rfl rfl rfl (c39 (ts := rp) (k := 1 + cnt nT rs.facts + rs.goal.xs.length) h1 h2 (by omega) (by omega)) rfl rfl rfl rfl rfl rfl (B0 := 106000) rfl rfl ?_
       apply AOps.norm
       ·
        repeat' (first | exact jq0 rfl | apply jq1 rfl | exact jq2 rfl | exact jq9 rfl | apply jq3 rfl | exact jq4 rfl | apply jq5 rfl | exact jq6 rfl | exact jq7 rfl | exact jq8)
       refine jst hσ rfl rfl rfl rfl rfl ?_
       refine jf [(15, _), (14, _), (13, _), (12, _), (11, _), (10, _), (9, _), (40, _), (8, _), (7, _), (6, _), (28, _), (5, _), (23, _), (4, _), (2, _), (0, _), (1, _)] ⟨rfl, rfl, rfl, rfl, rfl, rfl, rfl, rfl, rfl, rfl, rfl, rfl, rfl, rfl, rfl, rfl, rfl, rfl, trivial⟩ ?_
       refine jn ?_
       refine jsr ?_
       refine jst hσ rfl rfl rfl rfl rfl ?_
       refine jn ?_
       refine jsr ?_
       refine jst hσ rfl rfl rfl rfl rfl ?_
       refine jst hσ rfl rfl rfl rfl rfl ?_
       refine AOps.lone hσ rfl rfl rfl rfl (c1008 (s := rs) (k := 1) h1 h2 (by decide) (by omega)) (.cons (.agg (.cons (.whole rfl (by rw [List.length_map, markL_length])) (.cons .d (.cons (.whole rfl (by rw [List.length_map, markL_length])) .nil)))) (.cons (.c .d) .nil)) rfl rfl rfl rfl rfl (B0 := 109000) rfl ?_
       refine jst hσ rfl rfl rfl rfl rfl ?_
       refine jf [(16, _), (15, _), (14, _), (13, _), (12, _), (11, _), (10, _), (9, _), (40, _), (8, _), (7, _), (6, _), (28, _), (5, _), (23, _), (4, _), (2, _), (0, _), (1, _)] ⟨rfl, rfl, rfl, rfl, rfl, rfl, rfl, rfl, rfl, rfl, rfl, rfl, rfl, rfl, rfl, rfl, rfl, rfl, rfl, trivial⟩ ?_
       refine jn ?_
       refine AWP.seq ?_
       refine jsr ?_
       refine jst hσ rfl rfl rfl rfl rfl ?_
       refine jst hσ rfl rfl rfl rfl rfl ?_
       refine jn ?_
       refine AWP.cond hσ rfl rfl (fun hc110 => ?_) (fun hc110 => ?_)
       ·
        skip
        exact absurd (of_decide_eq_true hc110) (by omega)
       ·
        skip
        refine AWP.skip ?_
        refine jsr ?_
        refine jst hσ rfl rfl rfl rfl rfl ?_
        refine jst hσ rfl rfl rfl rfl rfl ?_
        refine jf [(112, _), (111, _), (109, _), (16, _), (15, _), (14, _), (13, _), (12, _), (11, _), (10, _), (9, _), (40, _), (8, _), (7, _), (6, _), (28, _), (5, _), (23, _), (4, _), (2, _), (0, _), (1, _)] ⟨rfl, rfl, rfl, rfl, rfl, rfl, rfl, rfl, rfl, rfl, rfl, rfl, rfl, rfl, rfl, rfl, rfl, rfl, rfl, rfl, rfl, rfl, trivial⟩ ?_
        refine AOps.lone hσ rfl rfl rfl rfl (c1009 (ts := rp) (k := 1 + cnt nT rs.facts + rs.goal.xs.length) h1 h2 (by omega) (by omega)) (.cons (.c (.whole rfl (by rw [List.length_map, markL_length]))) (.cons (.c .d) .nil)) rfl rfl rfl rfl rfl (B0 := 114000) rfl ?_
        refine jst hσ rfl rfl rfl rfl rfl ?_
        refine jf [(16, _), (109, _), (15, _), (14, _), (13, _), (12, _), (11, _), (10, _), (9, _), (40, _), (8, _), (7, _), (6, _), (28, _), (5, _), (23, _), (4, _), (2, _), (0, _), (1, _)] ⟨rfl, rfl, rfl, rfl, rfl, rfl, rfl, rfl, rfl, rfl, rfl, rfl, rfl, rfl, rfl, rfl, rfl, rfl, rfl, rfl, trivial⟩ ?_
        refine jn ?_
        refine AWP.seq ?_
        refine jsr ?_
        refine jst hσ rfl rfl rfl rfl rfl ?_
        refine jst hσ rfl rfl rfl rfl rfl ?_
        refine jn ?_
        refine AWP.cond hσ rfl rfl (fun hc115 => ?_) (fun hc115 => ?_)
        ·
         skip
         exact absurd (of_decide_eq_true hc115) (by omega)
        ·
         skip
         refine AWP.skip ?_
         refine AWP.seq ?_
         refine jsr ?_
         refine jst hσ rfl rfl rfl rfl rfl ?_
         refine jst hσ rfl rfl rfl rfl rfl ?_
         refine jst hσ rfl rfl rfl rfl rfl ?_
         refine jf [(118, _), (114, _), (16, _), (109, _), (15, _), (14, _), (13, _), (12, _), (11, _), (10, _), (9, _), (40, _), (8, _), (7, _), (6, _), (28, _), (5, _), (23, _), (4, _), (2, _), (0, _), (1, _)] ⟨rfl, rfl, rfl, rfl, rfl, rfl, rfl, rfl, rfl, rfl, rfl, rfl, rfl, rfl, rfl, rfl, rfl, rfl, rfl, rfl, rfl, rfl, trivial⟩ ?_
         refine jn ?_
         refine AWP.cond hσ rfl rfl (fun hc118 => ?_) (fun hc118 => ?_)
         ·
          skip
          exact absurd hc118 (by simp)
         ·
          skip
          refine AWP.skip ?_
          refine jsr ?_
          refine jst hσ rfl rfl rfl rfl rfl ?_
          refine jf [(120, _), (114, _), (16, _), (109, _), (15, _), (14, _), (13, _), (12, _), (11, _), (10, _), (9, _), (40, _), (8, _), (7, _), (6, _), (28, _), (5, _), (23, _), (4, _), (2, _), (0, _), (1, _)] ⟨rfl, rfl, rfl, rfl, rfl, rfl, rfl, rfl, rfl, rfl, rfl, rfl, rfl, rfl, rfl, rfl, rfl, rfl, rfl, rfl, rfl, rfl, trivial⟩ ?_
          refine AOps.plainD hσ rfl rfl rfl rfl (c32d (s := s) h1 h2) (VAs.self rfl) rfl rfl rfl rfl (B0 := 122000) rfl rfl ?_
          refine jst hσ rfl rfl rfl rfl rfl ?_
          refine jf [(122, _), (121, _), (114, _), (16, _), (109, _), (15, _), (14, _), (13, _), (12, _), (11, _), (10, _), (9, _), (40, _), (8, _), (7, _), (6, _), (28, _), (5, _), (23, _), (4, _), (2, _), (0, _), (1, _)] ⟨rfl, rfl, rfl, rfl, rfl, rfl, rfl, rfl, rfl, rfl, rfl, rfl, rfl, rfl, rfl, rfl, rfl, rfl, rfl, rfl, rfl, rfl, rfl, trivial⟩ ?_
          refine AOps.plainD hσ rfl rfl rfl rfl (c33d (p := p) h1 h2) (VAs.self rfl) rfl rfl rfl rfl (B0 := 124000) rfl rfl ?_
          refine jf [(123, _), (121, _), (114, _), (16, _), (109, _), (15, _), (14, _), (13, _), (12, _), (11, _), (10, _), (9, _), (40, _), (8, _), (7, _), (6, _), (28, _), (5, _), (23, _), (4, _), (2, _), (0, _), (1, _)] ⟨rfl, rfl, rfl, rfl, rfl, rfl, rfl, rfl, rfl, rfl, rfl, rfl, rfl, rfl, rfl, rfl, rfl, rfl, rfl, rfl, rfl, rfl, rfl, trivial⟩ ?_
          refine AOps.rows hσ (B0 := 125000) rfl rfl rfl rfl (ci) (VAs.self rfl) rfl rfl rfl rfl rfl rfl ?_
          apply AOps.norm
          ·
           repeat' (first | exact jq0 rfl | apply jq1 rfl | exact jq2 rfl | exact jq9 rfl | apply jq3 rfl | exact jq4 rfl | apply jq5 rfl | exact jq6 rfl | exact jq7 rfl | exact jq8)
          refine jst hσ rfl rfl rfl rfl rfl ?_
          refine jst hσ rfl rfl rfl rfl rfl ?_
          refine jst hσ rfl rfl rfl rfl rfl ?_
          refine jst hσ rfl rfl rfl rfl rfl ?_
          refine jf [(127, _), (126, _), (125, _), (114, _), (16, _), (109, _), (15, _), (14, _), (13, _), (12, _), (11, _), (10, _), (9, _), (40, _), (8, _), (7, _), (6, _), (28, _), (5, _), (23, _), (4, _), (2, _), (0, _), (1, _)] ⟨rfl, rfl, rfl, rfl, rfl, rfl, rfl, rfl, rfl, rfl, rfl, rfl, rfl, rfl, rfl, rfl, rfl, rfl, rfl, rfl, rfl, rfl, rfl, rfl, trivial⟩ ?_
          refine AOps.heap (HS.alloc hσ rfl rfl rfl rfl rfl) rfl ?_
          apply AOps.norm
          ·
           repeat' (first | exact jq0 rfl | apply jq1 rfl | exact jq2 rfl | exact jq9 rfl | apply jq3 rfl | exact jq4 rfl | apply jq5 rfl | exact jq6 rfl | exact jq7 rfl | exact jq8)
          refine AOps.heap (HS.storeBox hσ rfl rfl rfl rfl rfl rfl rfl rfl rfl rfl rfl) rfl ?_
          apply AOps.norm
          ·
           repeat' (first | exact jq0 rfl | apply jq1 rfl | exact jq2 rfl | exact jq9 rfl | apply jq3 rfl | exact jq4 rfl | apply jq5 rfl | exact jq6 rfl | exact jq7 rfl | exact jq8)
          refine jst hσ rfl rfl rfl rfl rfl ?_
          refine jst hσ rfl rfl rfl rfl rfl ?_
          refine jf [(19, _), (18, _), (17, _), (114, _), (16, _), (109, _), (15, _), (14, _), (13, _), (12, _), (11, _), (10, _), (9, _), (40, _), (8, _), (7, _), (6, _), (28, _), (5, _), (23, _), (4, _), (2, _), (0, _), (1, _)] ⟨rfl, rfl, rfl, rfl, rfl, rfl, rfl, rfl, rfl, rfl, rfl, rfl, rfl, rfl, rfl, rfl, rfl, rfl, rfl, rfl, rfl, rfl, rfl, rfl, trivial⟩ ?_
          refine jn ?_
          refine AWP.seq ?_
          refine jsr ?_
          refine jst hσ rfl rfl rfl rfl rfl ?_
          refine jst hσ rfl rfl rfl rfl rfl ?_
          refine AOps.lone hσ rfl rfl rfl rfl ((c36 (s := rs) (t := rs) h1 h2).plain (u := eB true) (by simp)) (.cons (.agg (.cons (.whole rfl (List.length_map _).symm) (.cons .d (.cons (.whole rfl (List.length_map _).symm) .nil)))) (.cons (.agg (VMs.self rfl)) .nil)) rfl rfl rfl rfl rfl (B0 := 131000) rfl ?_
          refine jst hσ rfl rfl rfl rfl rfl ?_
          refine jst hσ rfl rfl rfl rfl rfl ?_
          refine jf [(132, _), (19, _), (18, _), (17, _), (114, _), (16, _), (109, _), (15, _), (14, _), (13, _), (12, _), (11, _), (10, _), (9, _), (40, _), (8, _), (7, _), (6, _), (28, _), (5, _), (23, _), (4, _), (2, _), (0, _), (1, _)] ⟨rfl, rfl, rfl, rfl, rfl, rfl, rfl, rfl, rfl, rfl, rfl, rfl, rfl, rfl, rfl, rfl, rfl, rfl, rfl, rfl, rfl, rfl, rfl, rfl, rfl, trivial⟩ ?_
          refine AOps.live rfl rfl rfl rfl rfl ?_
          refine jst hσ rfl rfl rfl rfl rfl ?_
          refine jf [(133, _), (132, _), (19, _), (17, _), (114, _), (16, _), (109, _), (15, _), (14, _), (13, _), (12, _), (11, _), (10, _), (9, _), (40, _), (8, _), (7, _), (6, _), (28, _), (5, _), (23, _), (4, _), (2, _), (0, _), (1, _)] ⟨rfl, rfl, rfl, rfl, rfl, rfl, rfl, rfl, rfl, rfl, rfl, rfl, rfl, rfl, rfl, rfl, rfl, rfl, rfl, rfl, rfl, rfl, rfl, rfl, rfl, trivial⟩ ?_
          refine AOps.live rfl rfl rfl rfl rfl ?_
          refine jst hσ rfl rfl rfl rfl rfl ?_
          refine AOps.live rfl rfl rfl rfl rfl ?_
          refine AOps.lone hσ rfl rfl rfl rfl ((c37 (xs := rp) (ys := rp) h1 h2).plain (u := eB true) (by simp)) (.cons (.c (.whole rfl (List.length_map _).symm)) (.cons (.c .d) .nil)) rfl rfl rfl rfl rfl (B0 := 136000) rfl ?_
          refine jf [(135, _), (132, _), (19, _), (17, _), (114, _), (16, _), (109, _), (15, _), (14, _), (13, _), (12, _), (11, _), (10, _), (9, _), (40, _), (8, _), (7, _), (6, _), (28, _), (5, _), (23, _), (4, _), (2, _), (0, _), (1, _)] ⟨rfl, rfl, rfl, rfl, rfl, rfl, rfl, rfl, rfl, rfl, rfl, rfl, rfl, rfl, rfl, rfl, rfl, rfl, rfl, rfl, rfl, rfl, rfl, rfl, rfl, trivial⟩ ?_
          refine AOps.live rfl rfl rfl rfl rfl ?_
          refine jst hσ rfl rfl rfl rfl rfl ?_
          refine AOps.step (Val.pickN hσ rfl rfl rfl rfl rfl) rfl rfl rfl ?_
          refine jst hσ rfl rfl rfl rfl rfl ?_
          refine jf [(138, _), (19, _), (17, _), (114, _), (16, _), (109, _), (15, _), (14, _), (13, _), (12, _), (11, _), (10, _), (9, _), (40, _), (8, _), (7, _), (6, _), (28, _), (5, _), (23, _), (4, _), (2, _), (0, _), (1, _)] ⟨rfl, rfl, rfl, rfl, rfl, rfl, rfl, rfl, rfl, rfl, rfl, rfl, rfl, rfl, rfl, rfl, rfl, rfl, rfl, rfl, rfl, rfl, rfl, rfl, trivial⟩ ?_
          refine AOps.live rfl rfl rfl rfl rfl ?_
          refine jst hσ rfl rfl rfl rfl rfl ?_
          refine jf [(139, _), (138, _), (17, _), (114, _), (16, _), (109, _), (15, _), (14, _), (13, _), (12, _), (11, _), (10, _), (9, _), (40, _), (8, _), (7, _), (6, _), (28, _), (5, _), (23, _), (4, _), (2, _), (0, _), (1, _)] ⟨rfl, rfl, rfl, rfl, rfl, rfl, rfl, rfl, rfl, rfl, rfl, rfl, rfl, rfl, rfl, rfl, rfl, rfl, rfl, rfl, rfl, rfl, rfl, rfl, trivial⟩ ?_
          refine AOps.live rfl rfl rfl rfl rfl ?_
          refine jst hσ rfl rfl rfl rfl rfl ?_
          refine AOps.live rfl rfl rfl rfl rfl ?_
          refine jst hσ rfl rfl rfl rfl rfl ?_
          refine AOps.step (Val.pickN hσ rfl rfl rfl rfl rfl) rfl rfl rfl ?_
          refine jf [(142, _), (17, _), (114, _), (16, _), (109, _), (15, _), (14, _), (13, _), (12, _), (11, _), (10, _), (9, _), (40, _), (8, _), (7, _), (6, _), (28, _), (5, _), (23, _), (4, _), (2, _), (0, _), (1, _)] ⟨rfl, rfl, rfl, rfl, rfl, rfl, rfl, rfl, rfl, rfl, rfl, rfl, rfl, rfl, rfl, rfl, rfl, rfl, rfl, rfl, rfl, rfl, rfl, trivial⟩ ?_
          refine jn ?_
          refine AWP.cond hσ rfl rfl (fun hc142 => ?_) (fun hc142 => ?_)
          ·
           skip
           exact absurd (show false = true from hc142) (by decide)
          ·
           skip
           refine AWP.skip ?_
           refine jsr ?_
           refine jst hσ rfl rfl rfl rfl rfl ?_
           refine jn ?_
           refine jsr ?_
           refine jst hσ rfl rfl rfl rfl rfl ?_
           refine jst hσ rfl rfl rfl rfl rfl ?_
           refine jf [(144, _), (143, _), (16, _), (17, _), (114, _), (109, _), (15, _), (14, _), (13, _), (12, _), (11, _), (10, _), (9, _), (40, _), (8, _), (7, _), (6, _), (28, _), (5, _), (23, _), (4, _), (2, _), (0, _), (1, _)] ⟨rfl, rfl, rfl, rfl, rfl, rfl, rfl, rfl, rfl, rfl, rfl, rfl, rfl, rfl, rfl, rfl, rfl, rfl, rfl, rfl, rfl, rfl, rfl, rfl, trivial⟩ ?_
           refine AOps.lone hσ rfl rfl rfl rfl (c1008 (s := rs) (k := 1) h1 h2 (by decide) (by omega)) (.cons (.agg (.cons (.whole rfl (by rw [List.length_map, markL_length])) (.cons .d (.cons (.whole rfl (by rw [List.length_map, markL_length])) .nil)))) (.cons (.c .d) .nil)) rfl rfl rfl rfl rfl (B0 := 146000) rfl ?_
           refine jst hσ rfl rfl rfl rfl rfl ?_
           refine jf [(16, _), (17, _), (114, _), (109, _), (15, _), (14, _), (13, _), (12, _), (11, _), (10, _), (9, _), (40, _), (8, _), (7, _), (6, _), (28, _), (5, _), (23, _), (4, _), (2, _), (0, _), (1, _)] ⟨rfl, rfl, rfl, rfl, rfl, rfl, rfl, rfl, rfl, rfl, rfl, rfl, rfl, rfl, rfl, rfl, rfl, rfl, rfl, rfl, rfl, rfl, trivial⟩ ?_
           refine jn ?_
           refine AWP.seq ?_
           refine jsr ?_
           refine jst hσ rfl rfl rfl rfl rfl ?_
           refine jst hσ rfl rfl rfl rfl rfl ?_
           refine jn ?_
           refine AWP.cond hσ rfl rfl (fun hc147 => ?_) (fun hc147 => ?_)
           ·
            skip
            exact absurd (of_decide_eq_true hc147) (by omega)
           ·
            skip
            refine AWP.skip ?_
            refine jsr ?_
            refine jst hσ rfl rfl rfl rfl rfl ?_
            refine jst hσ rfl rfl rfl rfl rfl ?_
            refine jf [(149, _), (148, _), (146, _), (16, _), (17, _), (114, _), (109, _), (15, _), (14, _), (13, _), (12, _), (11, _), (10, _), (9, _), (40, _), (8, _), (7, _), (6, _), (28, _), (5, _), (23, _), (4, _), (2, _), (0, _), (1, _)] ⟨rfl, rfl, rfl, rfl, rfl, rfl, rfl, rfl, rfl, rfl, rfl, rfl, rfl, rfl, rfl, rfl, rfl, rfl, rfl, rfl, rfl, rfl, rfl, rfl, rfl, trivial⟩ ?_
            refine AOps.lone hσ rfl rfl rfl rfl (c1009 (ts := rp) (k := 1 + cnt nT rs.facts + rs.goal.xs.length) h1 h2 (by omega) (by omega)) (.cons (.c (.whole rfl (by rw [List.length_map, markL_length]))) (.cons (.c .d) .nil)) rfl rfl rfl rfl rfl (B0 := 151000) rfl ?_
            refine jst hσ rfl rfl rfl rfl rfl ?_
            refine jf [(16, _), (146, _), (17, _), (114, _), (109, _), (15, _), (14, _), (13, _), (12, _), (11, _), (10, _), (9, _), (40, _), (8, _), (7, _), (6, _), (28, _), (5, _), (23, _), (4, _), (2, _), (0, _), (1, _)] ⟨rfl, rfl, rfl, rfl, rfl, rfl, rfl, rfl, rfl, rfl, rfl, rfl, rfl, rfl, rfl, rfl, rfl, rfl, rfl, rfl, rfl, rfl, rfl, trivial⟩ ?_
            refine jn ?_
            refine AWP.seq ?_
            refine jsr ?_
            refine jst hσ rfl rfl rfl rfl rfl ?_
            refine jst hσ rfl rfl rfl rfl rfl ?_
            refine jn ?_
            refine AWP.cond hσ rfl rfl (fun hc152 => ?_) (fun hc152 => ?_)
            ·
             skip
             exact absurd (of_decide_eq_true hc152) (by omega)
            ·
             skip
             refine AWP.skip ?_
             refine AWP.seq ?_
             refine jsr ?_
             refine jst hσ rfl rfl rfl rfl rfl ?_
             refine jst hσ rfl rfl rfl rfl rfl ?_
             refine jst hσ rfl rfl rfl rfl rfl ?_
             refine jf [(155, _), (151, _), (16, _), (146, _), (17, _), (114, _), (109, _), (15, _), (14, _), (13, _), (12, _), (11, _), (10, _), (9, _), (40, _), (8, _), (7, _), (6, _), (28, _), (5, _), (23, _), (4, _), (2, _), (0, _), (1, _)] ⟨rfl, rfl, rfl, rfl, rfl, rfl, rfl, rfl, rfl, rfl, rfl, rfl, rfl, rfl, rfl, rfl, rfl, rfl, rfl, rfl, rfl, rfl, rfl, rfl, rfl, trivial⟩ ?_
             refine jn ?_
             refine AWP.cond hσ rfl rfl (fun hc155 => ?_) (fun hc155 => ?_)
             ·
              skip
              exact absurd hc155 (by simp)
             ·
              skip
              refine AWP.skip ?_
              refine jsr ?_
              refine jst hσ rfl rfl rfl rfl rfl ?_
              refine jn ?_
              refine AWP.ret ?_
              refine ⟨.inl rfl, _, Ent.refl, _, rfl, ?_⟩
              rfl
theorem c1000n {L : Nat} (h1 : 4096 ≤ L) (h2 : L ≤ 1073741824) {s : Sq} {p : List Nd} (cs : MC Try.prog L 11 [aSq s, ands p] [] (Plain (.tup [aSq (⟨[], ⟨0, []⟩⟩ : Sq), ands ([] : List Nd), eB false]))) (ci : MC Try.prog L 14 [aSq s, ands p] [] (Rows (.tup [.agg [.d .nils, .d (.int .i64 0), .d .nils], .c (.d .nils), eB false]) [])) (hz1 : 0 ≤ szr 1048576 s.size) (hz2 : 0 ≤ szr (szr 1048576 s.size) (Al.szs Nd.size p)) (hcp : 1 + cnt nT s.facts + s.goal.xs.length + cnt nN p ≤ (1073741824 : Int)) : MC Try.prog L 3 [aSq s, ands p] [] (Plain (eB true)) := by
 refine MC.alone ?_ rfl
 have hσ := SGok (nt := 156) h1 (Nat.le_trans h2 (by decide))
 refine MC.body hσ Try.func3 (by kernel_rfl) rfl rfl (Nat.le_of_ble_eq_true rfl) (fun hF => ?_)
 have hbig : L ≤ 9223372036854775807 := Nat.le_trans h2 (by decide)
 refine jsr ?_
 refine AOps.heap (HS.box hσ rfl rfl rfl rfl rfl rfl rfl) rfl ?_
 apply AOps.norm
 ·
  repeat' (first | exact jq0 rfl | apply jq1 rfl | exact jq2 rfl | exact jq9 rfl | apply jq3 rfl | exact jq4 rfl | apply jq5 rfl | exact jq6 rfl | exact jq7 rfl | exact jq8)
 refine jst hσ rfl rfl rfl rfl rfl ?_
 refine jn ?_
 refine jsr ?_
 refine jst hσ rfl rfl rfl rfl rfl ?_
 refine jn ?_
 refine jsr ?_
 refine jst hσ rfl rfl rfl rfl rfl ?_
 refine jst hσ rfl rfl rfl rfl rfl ?_
 refine AOps.lone hσ rfl rfl rfl rfl (c29 (s := s) (left := 1048576) h1 hbig (by decide) (by decide)) (VAs.self rfl) rfl rfl rfl rfl rfl (B0 := 23000) rfl ?_
 refine jst hσ rfl rfl rfl rfl rfl ?_
 refine jf [(5, _), (4, _), (2, _), (0, _), (1, _)] ⟨rfl, rfl, rfl, rfl, rfl, trivial⟩ ?_
 refine jn ?_
 refine AWP.seq ?_
 refine jsr ?_
 refine jst hσ rfl rfl rfl rfl rfl ?_
 refine jst hσ rfl rfl rfl rfl rfl ?_
 refine jn ?_
 refine AWP.cond hσ rfl rfl (fun hc24 => ?_) (fun hc24 => ?_)
 ·
  skip
  exact absurd (of_decide_eq_true hc24) (by omega)
 ·
  skip
  refine AWP.skip ?_
  refine jsr ?_
  refine jst hσ rfl rfl rfl rfl rfl ?_
  refine jst hσ rfl rfl rfl rfl rfl ?_
  refine jf [(26, _), (25, _), (23, _), (5, _), (4, _), (2, _), (0, _), (1, _)] ⟨rfl, rfl, rfl, rfl, rfl, rfl, rfl, rfl, trivial⟩ ?_
  have hle0 := szr_le (left := 1048576) (by decide) s.size
  refine AOps.lone hσ rfl rfl rfl rfl (c30 (ts := p) (left := szr 1048576 s.size) h1 hbig hz1 (by omega)) (VAs.self rfl) rfl rfl rfl rfl rfl (B0 := 28000) rfl ?_
  refine jst hσ rfl rfl rfl rfl rfl ?_
  refine jf [(5, _), (23, _), (4, _), (2, _), (0, _), (1, _)] ⟨rfl, rfl, rfl, rfl, rfl, rfl, trivial⟩ ?_
  refine jn ?_
  refine AWP.seq ?_
  refine jsr ?_
  refine jst hσ rfl rfl rfl rfl rfl ?_
  refine jst hσ rfl rfl rfl rfl rfl ?_
  refine jn ?_
  refine AWP.cond hσ rfl rfl (fun hc29 => ?_) (fun hc29 => ?_)
  ·
   skip
   exact absurd (of_decide_eq_true hc29) (by omega)
  ·
   skip
   refine AWP.skip ?_
   refine jsr ?_
   refine jst hσ rfl rfl rfl rfl rfl ?_
   refine jf [(31, _), (28, _), (5, _), (23, _), (4, _), (2, _), (0, _), (1, _)] ⟨rfl, rfl, rfl, rfl, rfl, rfl, rfl, rfl, trivial⟩ ?_
   refine AOps.plainD hσ rfl rfl rfl rfl (c32d (s := s) h1 h2) (VAs.self rfl) rfl rfl rfl rfl (B0 := 33000) rfl rfl ?_
   refine jst hσ rfl rfl rfl rfl rfl ?_
   refine jf [(33, _), (32, _), (28, _), (5, _), (23, _), (4, _), (2, _), (0, _), (1, _)] ⟨rfl, rfl, rfl, rfl, rfl, rfl, rfl, rfl, rfl, trivial⟩ ?_
   refine AOps.plainD hσ rfl rfl rfl rfl (c33d (p := p) h1 h2) (VAs.self rfl) rfl rfl rfl rfl (B0 := 35000) rfl rfl ?_
   refine jf [(34, _), (32, _), (28, _), (5, _), (23, _), (4, _), (2, _), (0, _), (1, _)] ⟨rfl, rfl, rfl, rfl, rfl, rfl, rfl, rfl, rfl, trivial⟩ ?_
   refine AOps.plainD hσ rfl rfl rfl rfl (cs) (VAs.self rfl) rfl rfl rfl rfl (B0 := 36000) rfl rfl ?_
   refine jst hσ rfl rfl rfl rfl rfl ?_
   refine jst hσ rfl rfl rfl rfl rfl ?_
   refine jst hσ rfl rfl rfl rfl rfl ?_
   refine jst hσ rfl rfl rfl rfl rfl ?_
   refine jf [(38, _), (37, _), (36, _), (28, _), (5, _), (23, _), (4, _), (2, _), (0, _), (1, _)] ⟨rfl, rfl, rfl, rfl, rfl, rfl, rfl, rfl, rfl, rfl, trivial⟩ ?_
   refine AOps.heap (HS.alloc hσ rfl rfl rfl rfl rfl) rfl ?_
   apply AOps.norm
   ·
    repeat' (first | exact jq0 rfl | apply jq1 rfl | exact jq2 rfl | exact jq9 rfl | apply jq3 rfl | exact jq4 rfl | apply jq5 rfl | exact jq6 rfl | exact jq7 rfl | exact jq8)
   refine AOps.heap (HS.storeBox hσ rfl rfl rfl rfl rfl rfl rfl rfl rfl rfl rfl) rfl ?_
   apply AOps.norm
   ·
    repeat' (first | exact jq0 rfl | apply jq1 rfl | exact jq2 rfl | exact jq9 rfl | apply jq3 rfl | exact jq4 rfl | apply jq5 rfl | exact jq6 rfl | exact jq7 rfl | exact jq8)
   refine jst hσ rfl rfl rfl rfl rfl ?_
   refine jst hσ rfl rfl rfl rfl rfl ?_
   refine jf [(8, _), (7, _), (6, _), (28, _), (5, _), (23, _), (4, _), (2, _), (0, _), (1, _)] ⟨rfl, rfl, rfl, rfl, rfl, rfl, rfl, rfl, rfl, rfl, trivial⟩ ?_
   refine jn ?_
   refine jsr ?_
   refine jst hσ rfl rfl rfl rfl rfl ?_
   refine AOps.rows hσ (B0 := 41000) rfl rfl rfl rfl (c32 (s := s) h1 h2) (VAs.self rfl) rfl rfl rfl rfl rfl rfl ?_
   apply AOps.norm
   ·
    repeat' (first | exact jq0 rfl | apply jq1 rfl | exact jq2 rfl | exact jq9 rfl | apply jq3 rfl | exact jq4 rfl | apply jq5 rfl | exact jq6 rfl | exact jq7 rfl | exact jq8)
   refine jf [(40, _), (8, _), (7, _), (6, _), (28, _), (5, _), (23, _), (4, _), (2, _), (0, _), (1, _)] ⟨rfl, rfl, rfl, rfl, rfl, rfl, rfl, rfl, rfl, rfl, rfl, trivial⟩ ?_
   refine AOps.heap (HS.alloc hσ rfl rfl rfl rfl rfl) rfl ?_
   apply AOps.norm
   ·
    repeat' (first | exact jq0 rfl | apply jq1 rfl | exact jq2 rfl | exact jq9 rfl | apply jq3 rfl | exact jq4 rfl | apply jq5 rfl | exact jq6 rfl | exact jq7 rfl | exact jq8)
   refine AOps.heap (HS.storeBox hσ rfl rfl rfl rfl rfl rfl rfl rfl rfl rfl rfl) rfl ?_
   apply AOps.norm
   ·
    repeat' (first | exact jq0 rfl | apply jq1 rfl | exact jq2 rfl | exact jq9 rfl | apply jq3 rfl | exact jq4 rfl | apply jq5 rfl | exact jq6 rfl | exact jq7 rfl | exact jq8)
   refine jn ?_
   refine jsr ?_
   refine jst hσ rfl rfl rfl rfl rfl ?_
   refine AOps.rows hσ (B0 := 43000) rfl rfl rfl rfl (c33 (ts := p) h1 h2) (VAs.self rfl) rfl rfl rfl rfl rfl rfl ?_
   apply AOps.norm
   ·
    repeat' (first | exact jq0 rfl | apply jq1 rfl | exact jq2 rfl | exact jq9 rfl | apply jq3 rfl | exact jq4 rfl | apply jq5 rfl | exact jq6 rfl | exact jq7 rfl | exact jq8)
   refine jst hσ rfl rfl rfl rfl rfl ?_
   refine jf [(10, _), (9, _), (40, _), (8, _), (7, _), (6, _), (28, _), (5, _), (23, _), (4, _), (2, _), (0, _), (1, _)] ⟨rfl, rfl, rfl, rfl, rfl, rfl, rfl, rfl, rfl, rfl, rfl, rfl, rfl, trivial⟩ ?_
   refine jn ?_
   refine jsr ?_
   refine jst hσ rfl rfl rfl rfl rfl ?_
   refine jst hσ rfl rfl rfl rfl rfl ?_
   refine AOps.rows hσ (B0 := 47000) rfl rfl rfl rfl (ci) (.cons (.agg (.cons (.whole rfl (List.length_map _).symm) (.cons .d (.cons (.whole rfl (List.length_map _).symm) .nil)))) (.cons (.c (.whole rfl (List.length_map _).symm)) .nil)) rfl rfl rfl rfl rfl rfl ?_
   apply AOps.norm
   ·
    repeat' (first | exact jq0 rfl | apply jq1 rfl | exact jq2 rfl | exact jq9 rfl | apply jq3 rfl | exact jq4 rfl | apply jq5 rfl | exact jq6 rfl | exact jq7 rfl | exact jq8)
   refine jst hσ rfl rfl rfl rfl rfl ?_
   refine jst hσ rfl rfl rfl rfl rfl ?_
   refine jst hσ rfl rfl rfl rfl rfl ?_
   refine jst hσ rfl rfl rfl rfl rfl ?_
   refine jf [(49, _), (48, _), (47, _), (10, _), (9, _), (40, _), (8, _), (7, _), (6, _), (28, _), (5, _), (23, _), (4, _), (2, _), (0, _), (1, _)] ⟨rfl, rfl, rfl, rfl, rfl, rfl, rfl, rfl, rfl, rfl, rfl, rfl, rfl, rfl, rfl, rfl, trivial⟩ ?_
   refine AOps.heap (HS.alloc hσ rfl rfl rfl rfl rfl) rfl ?_
   apply AOps.norm
   ·
    repeat' (first | exact jq0 rfl | apply jq1 rfl | exact jq2 rfl | exact jq9 rfl | apply jq3 rfl | exact jq4 rfl | apply jq5 rfl | exact jq6 rfl | exact jq7 rfl | exact jq8)
   refine AOps.heap (HS.storeBox hσ rfl rfl rfl rfl rfl rfl rfl rfl rfl rfl rfl) rfl ?_
   apply AOps.norm
   ·
    repeat' (first | exact jq0 rfl | apply jq1 rfl | exact jq2 rfl | exact jq9 rfl | apply jq3 rfl | exact jq4 rfl | apply jq5 rfl | exact jq6 rfl | exact jq7 rfl | exact jq8)
   refine jst hσ rfl rfl rfl rfl rfl ?_
   refine jst hσ rfl rfl rfl rfl rfl ?_
   refine jf [(13, _), (12, _), (11, _), (10, _), (9, _), (40, _), (8, _), (7, _), (6, _), (28, _), (5, _), (23, _), (4, _), (2, _), (0, _), (1, _)] ⟨rfl, rfl, rfl, rfl, rfl, rfl, rfl, rfl, rfl, rfl, rfl, rfl, rfl, rfl, rfl, rfl, trivial⟩ ?_
   refine jn ?_
   refine AWP.seq ?_
   refine jsr ?_
   refine jst hσ rfl rfl rfl rfl rfl ?_
   refine jst hσ rfl rfl rfl rfl rfl ?_
   refine AOps.lone hσ rfl rfl rfl rfl ((c36 (s := (⟨[], ⟨0, []⟩⟩ : Sq)) (t := (⟨[], ⟨0, []⟩⟩ : Sq)) h1 h2).plain (u := eB true) (by simp)) (.cons (.agg (.cons .nils (.cons .d (.cons .nils .nil)))) (.cons (.agg (VMs.self rfl)) .nil)) rfl rfl rfl rfl rfl (B0 := 53000) rfl ?_
   refine jst hσ rfl rfl rfl rfl rfl ?_
   refine jst hσ rfl rfl rfl rfl rfl ?_
   refine jf [(54, _), (13, _), (12, _), (11, _), (10, _), (9, _), (40, _), (8, _), (7, _), (6, _), (28, _), (5, _), (23, _), (4, _), (2, _), (0, _), (1, _)] ⟨rfl, rfl, rfl, rfl, rfl, rfl, rfl, rfl, rfl, rfl, rfl, rfl, rfl, rfl, rfl, rfl, rfl, trivial⟩ ?_
   refine AOps.live rfl rfl rfl rfl rfl ?_
   refine jst hσ rfl rfl rfl rfl rfl ?_
   refine AOps.live rfl rfl rfl rfl rfl ?_
   refine jst hσ rfl rfl rfl rfl rfl ?_
   refine AOps.live rfl rfl rfl rfl rfl ?_
   refine AOps.lone hσ rfl rfl rfl rfl ((c37 (xs := ([] : List Nd)) (ys := ([] : List Nd)) h1 h2).plain (u := eB true) (by simp)) (.cons (.c .nils) (.cons (.c .d) .nil)) rfl rfl rfl rfl rfl (B0 := 58000) rfl ?_
   refine jf [(57, _), (54, _), (13, _), (12, _), (11, _), (10, _), (9, _), (40, _), (8, _), (7, _), (6, _), (28, _), (5, _), (23, _), (4, _), (2, _), (0, _), (1, _)] ⟨rfl, rfl, rfl, rfl, rfl, rfl, rfl, rfl, rfl, rfl, rfl, rfl, rfl, rfl, rfl, rfl, rfl, rfl, trivial⟩ ?_
   refine AOps.live rfl rfl rfl rfl rfl ?_
   refine jst hσ rfl rfl rfl rfl rfl ?_
   refine AOps.step (Val.pickN hσ rfl rfl rfl rfl rfl) rfl rfl rfl ?_
   refine jst hσ rfl rfl rfl rfl rfl ?_
   refine jf [(60, _), (13, _), (12, _), (11, _), (10, _), (9, _), (40, _), (8, _), (7, _), (6, _), (28, _), (5, _), (23, _), (4, _), (2, _), (0, _), (1, _)] ⟨rfl, rfl, rfl, rfl, rfl, rfl, rfl, rfl, rfl, rfl, rfl, rfl, rfl, rfl, rfl, rfl, rfl, trivial⟩ ?_
   refine AOps.live rfl rfl rfl rfl rfl ?_
   refine jst hσ rfl rfl rfl rfl rfl ?_
   refine AOps.live rfl rfl rfl rfl rfl ?_
   refine jst hσ rfl rfl rfl rfl rfl ?_
   refine AOps.live rfl rfl rfl rfl rfl ?_
   refine jst hσ rfl rfl rfl rfl rfl ?_
   refine AOps.step (Val.pickN hσ rfl rfl rfl rfl rfl) rfl rfl rfl ?_
   refine jf [(64, _), (13, _), (12, _), (11, _), (10, _), (9, _), (40, _), (8, _), (7, _), (6, _), (28, _), (5, _), (23, _), (4, _), (2, _), (0, _), (1, _)] ⟨rfl, rfl, rfl, rfl, rfl, rfl, rfl, rfl, rfl, rfl, rfl, rfl, rfl, rfl, rfl, rfl, rfl, trivial⟩ ?_
   refine jn ?_
   refine AWP.cond hσ rfl rfl (fun hc64 => ?_) (fun hc64 => ?_)
   ·
    skip
    exact absurd (show false = true from hc64) (by decide)
   ·
    skip
    refine AWP.skip ?_
    refine AWP.seq ?_
    refine AWP.seq ?_
    refine AWP.forget [(13, _), (12, _), (11, _), (10, _), (9, _), (40, _), (8, _), (7, _), (6, _), (28, _), (5, _), (23, _), (4, _), (2, _), (0, _), (1, _)] ⟨rfl, rfl, rfl, rfl, rfl, rfl, rfl, rfl, rfl, rfl, rfl, rfl, rfl, rfl, rfl, rfl, trivial⟩ ?_
    refine AWP.drawR hσ _ [_, _, _, _, _] [⟨[], 0, 1, none⟩, ⟨[], 0, 0, none⟩, ⟨[1], 0, 0, some 0⟩, ⟨[0, 1, 2], 0, 0, some 1⟩, ⟨[0, 1, 2, 3], 2, 2, none⟩] [2, 3] [_, _, _] rfl rfl (by decide) (by decide) (by kernel_rfl) (And.intro (And.intro (Val.of hσ rfl rfl) (Val.of hσ rfl rfl)) (And.intro (Val.of hσ rfl rfl) (And.intro (Eff.plainD hσ (B0 := 68000) rfl rfl rfl rfl (c32d (s := s) h1 h2) (VAs.self rfl) rfl rfl rfl rfl rfl) (And.intro (Eff.lone hσ (B0 := 69000) rfl rfl rfl rfl ((c36 (s := s) (t := s) h1 h2).plain (u := eB true) (by simp)) (.cons (.agg (.cons (.whole rfl (List.length_map _).symm) (.cons .d (.cons (.whole rfl (List.length_map _).symm) .nil)))) (.cons (.agg (VMs.self rfl)) .nil)) rfl rfl rfl rfl rfl) (And.intro (Val.of hσ rfl rfl) trivial))))) ?_
    refine AWP.forget [(69, _), (13, _), (12, _), (11, _), (10, _), (9, _), (40, _), (8, _), (7, _), (6, _), (28, _), (5, _), (23, _), (4, _), (2, _), (0, _), (1, _)] ⟨rfl, rfl, rfl, rfl, rfl, rfl, rfl, rfl, rfl, rfl, rfl, rfl, rfl, rfl, rfl, rfl, rfl, trivial⟩ ?_
    apply AWP.norm
    ·
     repeat' (first | exact jq0 rfl | apply jq1 rfl | exact jq2 rfl | exact jq9 rfl | apply jq3 rfl | exact jq4 rfl | apply jq5 rfl | exact jq6 rfl | exact jq7 rfl | exact jq8)
    refine AWP.cond hσ rfl rfl (fun hc69 => ?_) (fun hc69 => ?_)
    ·
     skip
     exact absurd (show false = true from hc69) (by decide)
    ·
     skip
     refine AWP.skip ?_
     refine AWP.seq ?_
     refine jsr ?_
     refine jst hσ rfl rfl rfl rfl rfl ?_
     refine jst hσ rfl rfl rfl rfl rfl ?_
     refine jf [(71, _), (70, _), (13, _), (12, _), (11, _), (10, _), (9, _), (40, _), (8, _), (7, _), (6, _), (28, _), (5, _), (23, _), (4, _), (2, _), (0, _), (1, _)] ⟨rfl, rfl, rfl, rfl, rfl, rfl, rfl, rfl, rfl, rfl, rfl, rfl, rfl, rfl, rfl, rfl, rfl, rfl, trivial⟩ ?_
     refine AOps.plainD hσ rfl rfl rfl rfl (c33d (p := p) h1 h2) (VAs.self rfl) rfl rfl rfl rfl (B0 := 73000) rfl rfl ?_
     refine jf [(72, _), (70, _), (13, _), (12, _), (11, _), (10, _), (9, _), (40, _), (8, _), (7, _), (6, _), (28, _), (5, _), (23, _), (4, _), (2, _), (0, _), (1, _)] ⟨rfl, rfl, rfl, rfl, rfl, rfl, rfl, rfl, rfl, rfl, rfl, rfl, rfl, rfl, rfl, rfl, rfl, rfl, trivial⟩ ?_
     refine AOps.lone hσ rfl rfl rfl rfl ((c37 (xs := p) (ys := p) h1 h2).plain (u := eB true) (by simp)) (.cons (.c (.whole rfl (List.length_map _).symm)) (.cons (.c .d) .nil)) rfl rfl rfl rfl rfl (B0 := 74000) rfl ?_
     refine jst hσ rfl rfl rfl rfl rfl ?_
     refine jf [(74, _), (13, _), (12, _), (11, _), (10, _), (9, _), (40, _), (8, _), (7, _), (6, _), (28, _), (5, _), (23, _), (4, _), (2, _), (0, _), (1, _)] ⟨rfl, rfl, rfl, rfl, rfl, rfl, rfl, rfl, rfl, rfl, rfl, rfl, rfl, rfl, rfl, rfl, rfl, trivial⟩ ?_
     refine jn ?_
     refine AWP.cond hσ rfl rfl (fun hc74 => ?_) (fun hc74 => ?_)
     ·
      skip
      exact absurd (show false = true from hc74) (by decide)
     ·
      skip
      refine AWP.skip ?_
      refine jsr ?_
      refine jst hσ rfl rfl rfl rfl rfl ?_
      refine jn ?_
      refine jsr ?_
      refine jst hσ rfl rfl rfl rfl rfl ?_
      refine jst hσ rfl rfl rfl rfl rfl ?_
      refine jf [(76, _), (75, _), (14, _), (13, _), (12, _), (11, _), (10, _), (9, _), (40, _), (8, _), (7, _), (6, _), (28, _), (5, _), (23, _), (4, _), (2, _), (0, _), (1, _)] ⟨rfl, rfl, rfl, rfl, rfl, rfl, rfl, rfl, rfl, rfl, rfl, rfl, rfl, rfl, rfl, rfl, rfl, rfl, rfl, trivial⟩ ?_
      refine AOps.inn hσ [41000, 41001] (bin := [trow s.facts, nrow s.goal.xs]) rfl rfl rfl rfl (c38 (s := s) (k := 1) h1 h2 (by decide) (by omega)) rfl rfl rfl rfl rfl rfl (B0 := 78000) rfl rfl ?_
      apply AOps.norm
      ·
       repeat' (first | exact jq0 rfl | apply jq1 rfl | exact jq2 rfl | exact jq9 rfl | apply jq3 rfl | exact jq4 rfl | apply jq5 rfl | exact jq6 rfl | exact jq7 rfl | exact jq8)
      refine jst hσ rfl rfl rfl rfl rfl ?_
      refine jf [(14, _), (13, _), (12, _), (11, _), (10, _), (9, _), (40, _), (8, _), (7, _), (6, _), (28, _), (5, _), (23, _), (4, _), (2, _), (0, _), (1, _)] ⟨rfl, rfl, rfl, rfl, rfl, rfl, rfl, rfl, rfl, rfl, rfl, rfl, rfl, rfl, rfl, rfl, rfl, trivial⟩ ?_
      refine jn ?_
      refine jsr ?_
      refine jst hσ rfl rfl rfl rfl rfl ?_
      refine jst hσ rfl rfl rfl rfl rfl ?_
      refine AOps.inn hσ [43000] (bin := [ndrow p]) rfl rfl rfl rfl (c39 (ts := p) (k := 1 + cnt nT s.facts + s.goal.xs.length) h1 h2 (by omega) (by omega)) rfl rfl rfl rfl rfl rfl (B0 := 81000) rfl rfl ?_
      apply AOps.norm
      ·
       repeat' (first | exact jq0 rfl | apply jq1 rfl | exact jq2 rfl | exact jq9 rfl | apply jq3 rfl | exact jq4 rfl | apply jq5 rfl | exact jq6 rfl | exact jq7 rfl | exact jq8)
      refine jst hσ rfl rfl rfl rfl rfl ?_
      refine jf [(14, _), (13, _), (12, _), (11, _), (10, _), (9, _), (40, _), (8, _), (7, _), (6, _), (28, _), (5, _), (23, _), (4, _), (2, _), (0, _), (1, _)] ⟨rfl, rfl, rfl, rfl, rfl, rfl, rfl, rfl, rfl, rfl, rfl, rfl, rfl, rfl, rfl, rfl, rfl, trivial⟩ ?_
      refine jn ?_
      refine AWP.seq ?_
      refine jsr ?_
      refine jst hσ rfl rfl rfl rfl rfl ?_
      refine jst hσ rfl rfl rfl rfl rfl ?_
      rw [decide_eq_false (show ¬ (1 + cnt nT s.facts + s.goal.xs.length + cnt nN p : Int) < 0 by omega)]
      refine jst hσ rfl rfl rfl rfl rfl ?_
      refine jf [(83, _), (14, _), (13, _), (12, _), (11, _), (10, _), (9, _), (40, _), (8, _), (7, _), (6, _), (28, _), (5, _), (23, _), (4, _), (2, _), (0, _), (1, _)] ⟨rfl, rfl, rfl, rfl, rfl, rfl, rfl, rfl, rfl, rfl, rfl, rfl, rfl, rfl, rfl, rfl, rfl, rfl, trivial⟩ ?_
      refine AOps.live rfl rfl rfl rfl rfl ?_
      refine jst hσ rfl rfl rfl rfl rfl ?_
      refine AOps.live rfl rfl rfl rfl rfl ?_
      refine jst hσ rfl rfl rfl rfl rfl ?_
      refine AOps.live rfl rfl rfl rfl rfl ?_
      refine AOps.lone hσ rfl rfl rfl rfl ((c36 (s := (⟨[], ⟨0, []⟩⟩ : Sq)) (t := (⟨[], ⟨0, []⟩⟩ : Sq)) h1 h2).plain (u := eB true) (by simp)) (.cons (.agg (.cons .nils (.cons .d (.cons .nils .nil)))) (.cons (.agg (VMs.self rfl)) .nil)) rfl rfl rfl rfl rfl (B0 := 87000) rfl ?_
      refine jf [(86, _), (83, _), (14, _), (13, _), (12, _), (11, _), (10, _), (9, _), (40, _), (8, _), (7, _), (6, _), (28, _), (5, _), (23, _), (4, _), (2, _), (0, _), (1, _)] ⟨rfl, rfl, rfl, rfl, rfl, rfl, rfl, rfl, rfl, rfl, rfl, rfl, rfl, rfl, rfl, rfl, rfl, rfl, rfl, trivial⟩ ?_
      refine AOps.live rfl rfl rfl rfl rfl ?_
      refine jst hσ rfl rfl rfl rfl rfl ?_
      refine AOps.step (Val.pickN hσ rfl rfl rfl rfl rfl) rfl rfl rfl ?_
      refine jst hσ rfl rfl rfl rfl rfl ?_
      refine jf [(89, _), (14, _), (13, _), (12, _), (11, _), (10, _), (9, _), (40, _), (8, _), (7, _), (6, _), (28, _), (5, _), (23, _), (4, _), (2, _), (0, _), (1, _)] ⟨rfl, rfl, rfl, rfl, rfl, rfl, rfl, rfl, rfl, rfl, rfl, rfl, rfl, rfl, rfl, rfl, rfl, rfl, trivial⟩ ?_
      refine AOps.live rfl rfl rfl rfl rfl ?_
      refine jst hσ rfl rfl rfl rfl rfl ?_
      refine AOps.live rfl rfl rfl rfl rfl ?_
      refine jst hσ rfl rfl rfl rfl rfl ?_
      refine AOps.live rfl rfl rfl rfl rfl ?_
      refine AOps.lone hσ rfl rfl rfl rfl ((c37 (xs := ([] : List Nd)) (ys := ([] : List Nd)) h1 h2).plain (u := eB true) (by simp)) (.cons (.c .nils) (.cons (.c .d) .nil)) rfl rfl rfl rfl rfl (B0 := 93000) rfl ?_
      refine jf [(92, _), (89, _), (14, _), (13, _), (12, _), (11, _), (10, _), (9, _), (40, _), (8, _), (7, _), (6, _), (28, _), (5, _), (23, _), (4, _), (2, _), (0, _), (1, _)] ⟨rfl, rfl, rfl, rfl, rfl, rfl, rfl, rfl, rfl, rfl, rfl, rfl, rfl, rfl, rfl, rfl, rfl, rfl, rfl, trivial⟩ ?_
      refine AOps.live rfl rfl rfl rfl rfl ?_
      refine jst hσ rfl rfl rfl rfl rfl ?_
      refine AOps.step (Val.pickN hσ rfl rfl rfl rfl rfl) rfl rfl rfl ?_
      refine jst hσ rfl rfl rfl rfl rfl ?_
      refine jf [(95, _), (14, _), (13, _), (12, _), (11, _), (10, _), (9, _), (40, _), (8, _), (7, _), (6, _), (28, _), (5, _), (23, _), (4, _), (2, _), (0, _), (1, _)] ⟨rfl, rfl, rfl, rfl, rfl, rfl, rfl, rfl, rfl, rfl, rfl, rfl, rfl, rfl, rfl, rfl, rfl, rfl, trivial⟩ ?_
      refine AOps.live rfl rfl rfl rfl rfl ?_
      refine jst hσ rfl rfl rfl rfl rfl ?_
      refine AOps.live rfl rfl rfl rfl rfl ?_
      refine jst hσ rfl rfl rfl rfl rfl ?_
      refine AOps.live rfl rfl rfl rfl rfl ?_
      refine jst hσ rfl rfl rfl rfl rfl ?_
      refine AOps.step (Val.pickN hσ rfl rfl rfl rfl rfl) rfl rfl rfl ?_
      refine jf [(99, _), (14, _), (13, _), (12, _), (11, _), (10, _), (9, _), (40, _), (8, _), (7, _), (6, _), (28, _), (5, _), (23, _), (4, _), (2, _), (0, _), (1, _)] ⟨rfl, rfl, rfl, rfl, rfl, rfl, rfl, rfl, rfl, rfl, rfl, rfl, rfl, rfl, rfl, rfl, rfl, rfl, trivial⟩ ?_
      refine jn ?_
      refine AWP.cond hσ rfl rfl (fun hc99 => ?_) (fun hc99 => ?_)
      ·
       skip
       exact absurd (show false = true from hc99) (by decide)
      ·
       skip
       refine AWP.skip ?_
       refine jsr ?_
       refine jst hσ rfl rfl rfl rfl rfl ?_
       refine jn ?_
       refine jsr ?_
       refine jst hσ rfl rfl rfl rfl rfl ?_
       refine jst hσ rfl rfl rfl rfl rfl ?_
       refine jf [(101, _), (100, _), (15, _), (14, _), (13, _), (12, _), (11, _), (10, _), (9, _), (40, _), (8, _), (7, _), (6, _), (28, _), (5, _), (23, _), (4, _), (2, _), (0, _), (1, _)] ⟨rfl, rfl, rfl, rfl, rfl, rfl, rfl, rfl, rfl, rfl, rfl, rfl, rfl, rfl, rfl, rfl, rfl, rfl, rfl, rfl, trivial⟩ ?_
       refine AOps.lone hσ rfl rfl rfl rfl (c38n (k := 1) h1 h2) (.cons (.agg (.cons .nils (.cons .d (.cons .nils .nil)))) (.cons (.c .d) .nil)) rfl rfl rfl rfl rfl (B0 := 103000) rfl ?_
       refine jst hσ rfl rfl rfl rfl rfl ?_
       refine jf [(15, _), (14, _), (13, _), (12, _), (11, _), (10, _), (9, _), (40, _), (8, _), (7, _), (6, _), (28, _), (5, _), (23, _), (4, _), (2, _), (0, _), (1, _)] ⟨rfl, rfl, rfl, rfl, rfl, rfl, rfl, rfl, rfl, rfl, rfl, rfl, rfl, rfl, rfl, rfl, rfl, rfl, trivial⟩ ?_
       refine jn ?_
       refine jsr ?_
       refine jst hσ rfl rfl rfl rfl rfl ?_
       refine jst hσ rfl rfl rfl rfl rfl ?_
       refine AOps.lone hσ rfl rfl rfl rfl (c39n (k := 1) h1 h2) (.cons (.c .nils) (.cons (.c .d) .nil)) rfl rfl rfl rfl rfl (B0 := 106000) rfl ?_
       refine jst hσ rfl rfl rfl rfl rfl ?_
       refine jf [(15, _), (14, _), (13, _), (12, _), (11, _), (10, _), (9, _), (40, _), (8, _), (7, _), (6, _), (28, _), (5, _), (23, _), (4, _), (2, _), (0, _), (1, _)] ⟨rfl, rfl, rfl, rfl, rfl, rfl, rfl, rfl, rfl, rfl, rfl, rfl, rfl, rfl, rfl, rfl, rfl, rfl, trivial⟩ ?_
       refine jn ?_
       refine jsr ?_
       refine jst hσ rfl rfl rfl rfl rfl ?_
       refine jn ?_
       refine jsr ?_
       refine jst hσ rfl rfl rfl rfl rfl ?_
       refine jst hσ rfl rfl rfl rfl rfl ?_
       refine AOps.lone hσ rfl rfl rfl rfl ((c1008 (s := (⟨[], ⟨0, []⟩⟩ : Sq)) (k := 1) h1 h2 (by decide) (by decide)).plain (u := eI 1) rfl) (.cons (.agg (.cons .nils (.cons .d (.cons .nils .nil)))) (.cons (.c .d) .nil)) rfl rfl rfl rfl rfl (B0 := 109000) rfl ?_
       refine jst hσ rfl rfl rfl rfl rfl ?_
       refine jf [(16, _), (15, _), (14, _), (13, _), (12, _), (11, _), (10, _), (9, _), (40, _), (8, _), (7, _), (6, _), (28, _), (5, _), (23, _), (4, _), (2, _), (0, _), (1, _)] ⟨rfl, rfl, rfl, rfl, rfl, rfl, rfl, rfl, rfl, rfl, rfl, rfl, rfl, rfl, rfl, rfl, rfl, rfl, rfl, trivial⟩ ?_
       refine jn ?_
       refine AWP.seq ?_
       refine jsr ?_
       refine jst hσ rfl rfl rfl rfl rfl ?_
       refine jst hσ rfl rfl rfl rfl rfl ?_
       refine jn ?_
       refine AWP.cond hσ rfl rfl (fun hc110 => ?_) (fun hc110 => ?_)
       ·
        skip
        exact absurd (of_decide_eq_true hc110) (by decide)
       ·
        skip
        refine AWP.skip ?_
        refine jsr ?_
        refine jst hσ rfl rfl rfl rfl rfl ?_
        refine jst hσ rfl rfl rfl rfl rfl ?_
        refine jf [(112, _), (111, _), (109, _), (16, _), (15, _), (14, _), (13, _), (12, _), (11, _), (10, _), (9, _), (40, _), (8, _), (7, _), (6, _), (28, _), (5, _), (23, _), (4, _), (2, _), (0, _), (1, _)] ⟨rfl, rfl, rfl, rfl, rfl, rfl, rfl, rfl, rfl, rfl, rfl, rfl, rfl, rfl, rfl, rfl, rfl, rfl, rfl, rfl, rfl, rfl, trivial⟩ ?_
        refine AOps.lone hσ rfl rfl rfl rfl ((c1009 (ts := ([] : List Nd)) (k := 1) h1 h2 (by decide) (by decide)).plain (u := eI 1) rfl) (.cons (.c .nils) (.cons (.c .d) .nil)) rfl rfl rfl rfl rfl (B0 := 114000) rfl ?_
        refine jst hσ rfl rfl rfl rfl rfl ?_
        refine jf [(16, _), (109, _), (15, _), (14, _), (13, _), (12, _), (11, _), (10, _), (9, _), (40, _), (8, _), (7, _), (6, _), (28, _), (5, _), (23, _), (4, _), (2, _), (0, _), (1, _)] ⟨rfl, rfl, rfl, rfl, rfl, rfl, rfl, rfl, rfl, rfl, rfl, rfl, rfl, rfl, rfl, rfl, rfl, rfl, rfl, rfl, trivial⟩ ?_
        refine jn ?_
        refine AWP.seq ?_
        refine jsr ?_
        refine jst hσ rfl rfl rfl rfl rfl ?_
        refine jst hσ rfl rfl rfl rfl rfl ?_
        refine jn ?_
        refine AWP.cond hσ rfl rfl (fun hc115 => ?_) (fun hc115 => ?_)
        ·
         skip
         exact absurd (of_decide_eq_true hc115) (by decide)
        ·
         skip
         refine AWP.skip ?_
         refine AWP.seq ?_
         refine jsr ?_
         refine jst hσ rfl rfl rfl rfl rfl ?_
         refine jst hσ rfl rfl rfl rfl rfl ?_
         refine jst hσ rfl rfl rfl rfl rfl ?_
         refine jf [(118, _), (114, _), (16, _), (109, _), (15, _), (14, _), (13, _), (12, _), (11, _), (10, _), (9, _), (40, _), (8, _), (7, _), (6, _), (28, _), (5, _), (23, _), (4, _), (2, _), (0, _), (1, _)] ⟨rfl, rfl, rfl, rfl, rfl, rfl, rfl, rfl, rfl, rfl, rfl, rfl, rfl, rfl, rfl, rfl, rfl, rfl, rfl, rfl, rfl, rfl, trivial⟩ ?_
         refine jn ?_
         refine AWP.cond hσ rfl rfl (fun hc118 => ?_) (fun hc118 => ?_)
         ·
          skip
          exact absurd hc118 (by simp)
         ·
          skip
          refine AWP.skip ?_
          refine jsr ?_
          refine jst hσ rfl rfl rfl rfl rfl ?_
          refine jf [(120, _), (114, _), (16, _), (109, _), (15, _), (14, _), (13, _), (12, _), (11, _), (10, _), (9, _), (40, _), (8, _), (7, _), (6, _), (28, _), (5, _), (23, _), (4, _), (2, _), (0, _), (1, _)] ⟨rfl, rfl, rfl, rfl, rfl, rfl, rfl, rfl, rfl, rfl, rfl, rfl, rfl, rfl, rfl, rfl, rfl, rfl, rfl, rfl, rfl, rfl, trivial⟩ ?_
          refine AOps.plainD hσ rfl rfl rfl rfl (c32d (s := s) h1 h2) (VAs.self rfl) rfl rfl rfl rfl (B0 := 122000) rfl rfl ?_
          refine jst hσ rfl rfl rfl rfl rfl ?_
          refine jf [(122, _), (121, _), (114, _), (16, _), (109, _), (15, _), (14, _), (13, _), (12, _), (11, _), (10, _), (9, _), (40, _), (8, _), (7, _), (6, _), (28, _), (5, _), (23, _), (4, _), (2, _), (0, _), (1, _)] ⟨rfl, rfl, rfl, rfl, rfl, rfl, rfl, rfl, rfl, rfl, rfl, rfl, rfl, rfl, rfl, rfl, rfl, rfl, rfl, rfl, rfl, rfl, rfl, trivial⟩ ?_
          refine AOps.plainD hσ rfl rfl rfl rfl (c33d (p := p) h1 h2) (VAs.self rfl) rfl rfl rfl rfl (B0 := 124000) rfl rfl ?_
          refine jf [(123, _), (121, _), (114, _), (16, _), (109, _), (15, _), (14, _), (13, _), (12, _), (11, _), (10, _), (9, _), (40, _), (8, _), (7, _), (6, _), (28, _), (5, _), (23, _), (4, _), (2, _), (0, _), (1, _)] ⟨rfl, rfl, rfl, rfl, rfl, rfl, rfl, rfl, rfl, rfl, rfl, rfl, rfl, rfl, rfl, rfl, rfl, rfl, rfl, rfl, rfl, rfl, rfl, trivial⟩ ?_
          refine AOps.rows hσ (B0 := 125000) rfl rfl rfl rfl (ci) (VAs.self rfl) rfl rfl rfl rfl rfl rfl ?_
          apply AOps.norm
          ·
           repeat' (first | exact jq0 rfl | apply jq1 rfl | exact jq2 rfl | exact jq9 rfl | apply jq3 rfl | exact jq4 rfl | apply jq5 rfl | exact jq6 rfl | exact jq7 rfl | exact jq8)
          refine jst hσ rfl rfl rfl rfl rfl ?_
          refine jst hσ rfl rfl rfl rfl rfl ?_
          refine jst hσ rfl rfl rfl rfl rfl ?_
          refine jst hσ rfl rfl rfl rfl rfl ?_
          refine jf [(127, _), (126, _), (125, _), (114, _), (16, _), (109, _), (15, _), (14, _), (13, _), (12, _), (11, _), (10, _), (9, _), (40, _), (8, _), (7, _), (6, _), (28, _), (5, _), (23, _), (4, _), (2, _), (0, _), (1, _)] ⟨rfl, rfl, rfl, rfl, rfl, rfl, rfl, rfl, rfl, rfl, rfl, rfl, rfl, rfl, rfl, rfl, rfl, rfl, rfl, rfl, rfl, rfl, rfl, rfl, trivial⟩ ?_
          refine AOps.heap (HS.alloc hσ rfl rfl rfl rfl rfl) rfl ?_
          apply AOps.norm
          ·
           repeat' (first | exact jq0 rfl | apply jq1 rfl | exact jq2 rfl | exact jq9 rfl | apply jq3 rfl | exact jq4 rfl | apply jq5 rfl | exact jq6 rfl | exact jq7 rfl | exact jq8)
          refine AOps.heap (HS.storeBox hσ rfl rfl rfl rfl rfl rfl rfl rfl rfl rfl rfl) rfl ?_
          apply AOps.norm
          ·
           repeat' (first | exact jq0 rfl | apply jq1 rfl | exact jq2 rfl | exact jq9 rfl | apply jq3 rfl | exact jq4 rfl | apply jq5 rfl | exact jq6 rfl | exact jq7 rfl | exact jq8)
          refine jst hσ rfl rfl rfl rfl rfl ?_
          refine jst hσ rfl rfl rfl rfl rfl ?_
          refine jf [(19, _), (18, _), (17, _), (114, _), (16, _), (109, _), (15, _), (14, _), (13, _), (12, _), (11, _), (10, _), (9, _), (40, _), (8, _), (7, _), (6, _), (28, _), (5, _), (23, _), (4, _), (2, _), (0, _), (1, _)] ⟨rfl, rfl, rfl, rfl, rfl, rfl, rfl, rfl, rfl, rfl, rfl, rfl, rfl, rfl, rfl, rfl, rfl, rfl, rfl, rfl, rfl, rfl, rfl, rfl, trivial⟩ ?_
          refine jn ?_
          refine AWP.seq ?_
          refine jsr ?_
          refine jst hσ rfl rfl rfl rfl rfl ?_
          refine jst hσ rfl rfl rfl rfl rfl ?_
          refine AOps.lone hσ rfl rfl rfl rfl ((c36 (s := (⟨[], ⟨0, []⟩⟩ : Sq)) (t := (⟨[], ⟨0, []⟩⟩ : Sq)) h1 h2).plain (u := eB true) (by simp)) (.cons (.agg (.cons .nils (.cons .d (.cons .nils .nil)))) (.cons (.agg (VMs.self rfl)) .nil)) rfl rfl rfl rfl rfl (B0 := 131000) rfl ?_
          refine jst hσ rfl rfl rfl rfl rfl ?_
          refine jst hσ rfl rfl rfl rfl rfl ?_
          refine jf [(132, _), (19, _), (18, _), (17, _), (114, _), (16, _), (109, _), (15, _), (14, _), (13, _), (12, _), (11, _), (10, _), (9, _), (40, _), (8, _), (7, _), (6, _), (28, _), (5, _), (23, _), (4, _), (2, _), (0, _), (1, _)] ⟨rfl, rfl, rfl, rfl, rfl, rfl, rfl, rfl, rfl, rfl, rfl, rfl, rfl, rfl, rfl, rfl, rfl, rfl, rfl, rfl, rfl, rfl, rfl, rfl, rfl, trivial⟩ ?_
          refine AOps.live rfl rfl rfl rfl rfl ?_
          refine jst hσ rfl rfl rfl rfl rfl ?_
          refine jf [(133, _), (132, _), (19, _), (17, _), (114, _), (16, _), (109, _), (15, _), (14, _), (13, _), (12, _), (11, _), (10, _), (9, _), (40, _), (8, _), (7, _), (6, _), (28, _), (5, _), (23, _), (4, _), (2, _), (0, _), (1, _)] ⟨rfl, rfl, rfl, rfl, rfl, rfl, rfl, rfl, rfl, rfl, rfl, rfl, rfl, rfl, rfl, rfl, rfl, rfl, rfl, rfl, rfl, rfl, rfl, rfl, rfl, trivial⟩ ?_
          refine AOps.live rfl rfl rfl rfl rfl ?_
          refine jst hσ rfl rfl rfl rfl rfl ?_
          refine AOps.live rfl rfl rfl rfl rfl ?_
          refine AOps.lone hσ rfl rfl rfl rfl ((c37 (xs := ([] : List Nd)) (ys := ([] : List Nd)) h1 h2).plain (u := eB true) (by simp)) (.cons (.c .nils) (.cons (.c .d) .nil)) rfl rfl rfl rfl rfl (B0 := 136000) rfl ?_
          refine jf [(135, _), (132, _), (19, _), (17, _), (114, _), (16, _), (109, _), (15, _), (14, _), (13, _), (12, _), (11, _), (10, _), (9, _), (40, _), (8, _), (7, _), (6, _), (28, _), (5, _), (23, _), (4, _), (2, _), (0, _), (1, _)] ⟨rfl, rfl, rfl, rfl, rfl, rfl, rfl, rfl, rfl, rfl, rfl, rfl, rfl, rfl, rfl, rfl, rfl, rfl, rfl, rfl, rfl, rfl, rfl, rfl, rfl, trivial⟩ ?_
          refine AOps.live rfl rfl rfl rfl rfl ?_
          refine jst hσ rfl rfl rfl rfl rfl ?_
          refine AOps.step (Val.pickN hσ rfl rfl rfl rfl rfl) rfl rfl rfl ?_
          refine jst hσ rfl rfl rfl rfl rfl ?_
          refine jf [(138, _), (19, _), (17, _), (114, _), (16, _), (109, _), (15, _), (14, _), (13, _), (12, _), (11, _), (10, _), (9, _), (40, _), (8, _), (7, _), (6, _), (28, _), (5, _), (23, _), (4, _), (2, _), (0, _), (1, _)] ⟨rfl, rfl, rfl, rfl, rfl, rfl, rfl, rfl, rfl, rfl, rfl, rfl, rfl, rfl, rfl, rfl, rfl, rfl, rfl, rfl, rfl, rfl, rfl, rfl, trivial⟩ ?_
          refine AOps.live rfl rfl rfl rfl rfl ?_
          refine jst hσ rfl rfl rfl rfl rfl ?_
          refine jf [(139, _), (138, _), (17, _), (114, _), (16, _), (109, _), (15, _), (14, _), (13, _), (12, _), (11, _), (10, _), (9, _), (40, _), (8, _), (7, _), (6, _), (28, _), (5, _), (23, _), (4, _), (2, _), (0, _), (1, _)] ⟨rfl, rfl, rfl, rfl, rfl, rfl, rfl, rfl, rfl, rfl, rfl, rfl, rfl, rfl, rfl, rfl, rfl, rfl, rfl, rfl, rfl, rfl, rfl, rfl, trivial⟩ ?_
          refine AOps.live rfl rfl rfl rfl rfl ?_
          refine jst hσ rfl rfl rfl rfl rfl ?_
          refine AOps.live rfl rfl rfl rfl rfl ?_
          refine jst hσ rfl rfl rfl rfl rfl ?_
          refine AOps.step (Val.pickN hσ rfl rfl rfl rfl rfl) rfl rfl rfl ?_
          refine jf [(142, _), (17, _), (114, _), (16, _), (109, _), (15, _), (14, _), (13, _), (12, _), (11, _), (10, _), (9, _), (40, _), (8, _), (7, _), (6, _), (28, _), (5, _), (23, _), (4, _), (2, _), (0, _), (1, _)] ⟨rfl, rfl, rfl, rfl, rfl, rfl, rfl, rfl, rfl, rfl, rfl, rfl, rfl, rfl, rfl, rfl, rfl, rfl, rfl, rfl, rfl, rfl, rfl, trivial⟩ ?_
          refine jn ?_
          refine AWP.cond hσ rfl rfl (fun hc142 => ?_) (fun hc142 => ?_)
          ·
           skip
           exact absurd (show false = true from hc142) (by decide)
          ·
           skip
           refine AWP.skip ?_
           refine jsr ?_
           refine jst hσ rfl rfl rfl rfl rfl ?_
           refine jn ?_
           refine jsr ?_
           refine jst hσ rfl rfl rfl rfl rfl ?_
           refine jst hσ rfl rfl rfl rfl rfl ?_
           refine jf [(144, _), (143, _), (16, _), (17, _), (114, _), (109, _), (15, _), (14, _), (13, _), (12, _), (11, _), (10, _), (9, _), (40, _), (8, _), (7, _), (6, _), (28, _), (5, _), (23, _), (4, _), (2, _), (0, _), (1, _)] ⟨rfl, rfl, rfl, rfl, rfl, rfl, rfl, rfl, rfl, rfl, rfl, rfl, rfl, rfl, rfl, rfl, rfl, rfl, rfl, rfl, rfl, rfl, rfl, rfl, trivial⟩ ?_
           refine AOps.lone hσ rfl rfl rfl rfl ((c1008 (s := (⟨[], ⟨0, []⟩⟩ : Sq)) (k := 1) h1 h2 (by decide) (by decide)).plain (u := eI 1) rfl) (.cons (.agg (.cons .nils (.cons .d (.cons .nils .nil)))) (.cons (.c .d) .nil)) rfl rfl rfl rfl rfl (B0 := 146000) rfl ?_
           refine jst hσ rfl rfl rfl rfl rfl ?_
           refine jf [(16, _), (17, _), (114, _), (109, _), (15, _), (14, _), (13, _), (12, _), (11, _), (10, _), (9, _), (40, _), (8, _), (7, _), (6, _), (28, _), (5, _), (23, _), (4, _), (2, _), (0, _), (1, _)] ⟨rfl, rfl, rfl, rfl, rfl, rfl, rfl, rfl, rfl, rfl, rfl, rfl, rfl, rfl, rfl, rfl, rfl, rfl, rfl, rfl, rfl, rfl, trivial⟩ ?_
           refine jn ?_
           refine AWP.seq ?_
           refine jsr ?_
           refine jst hσ rfl rfl rfl rfl rfl ?_
           refine jst hσ rfl rfl rfl rfl rfl ?_
           refine jn ?_
           refine AWP.cond hσ rfl rfl (fun hc147 => ?_) (fun hc147 => ?_)
           ·
            skip
            exact absurd (of_decide_eq_true hc147) (by decide)
           ·
            skip
            refine AWP.skip ?_
            refine jsr ?_
            refine jst hσ rfl rfl rfl rfl rfl ?_
            refine jst hσ rfl rfl rfl rfl rfl ?_
            refine jf [(149, _), (148, _), (146, _), (16, _), (17, _), (114, _), (109, _), (15, _), (14, _), (13, _), (12, _), (11, _), (10, _), (9, _), (40, _), (8, _), (7, _), (6, _), (28, _), (5, _), (23, _), (4, _), (2, _), (0, _), (1, _)] ⟨rfl, rfl, rfl, rfl, rfl, rfl, rfl, rfl, rfl, rfl, rfl, rfl, rfl, rfl, rfl, rfl, rfl, rfl, rfl, rfl, rfl, rfl, rfl, rfl, rfl, trivial⟩ ?_
            refine AOps.lone hσ rfl rfl rfl rfl ((c1009 (ts := ([] : List Nd)) (k := 1) h1 h2 (by decide) (by decide)).plain (u := eI 1) rfl) (.cons (.c .nils) (.cons (.c .d) .nil)) rfl rfl rfl rfl rfl (B0 := 151000) rfl ?_
            refine jst hσ rfl rfl rfl rfl rfl ?_
            refine jf [(16, _), (146, _), (17, _), (114, _), (109, _), (15, _), (14, _), (13, _), (12, _), (11, _), (10, _), (9, _), (40, _), (8, _), (7, _), (6, _), (28, _), (5, _), (23, _), (4, _), (2, _), (0, _), (1, _)] ⟨rfl, rfl, rfl, rfl, rfl, rfl, rfl, rfl, rfl, rfl, rfl, rfl, rfl, rfl, rfl, rfl, rfl, rfl, rfl, rfl, rfl, rfl, rfl, trivial⟩ ?_
            refine jn ?_
            refine AWP.seq ?_
            refine jsr ?_
            refine jst hσ rfl rfl rfl rfl rfl ?_
            refine jst hσ rfl rfl rfl rfl rfl ?_
            refine jn ?_
            refine AWP.cond hσ rfl rfl (fun hc152 => ?_) (fun hc152 => ?_)
            ·
             skip
             exact absurd (of_decide_eq_true hc152) (by decide)
            ·
             skip
             refine AWP.skip ?_
             refine AWP.seq ?_
             refine jsr ?_
             refine jst hσ rfl rfl rfl rfl rfl ?_
             refine jst hσ rfl rfl rfl rfl rfl ?_
             refine jst hσ rfl rfl rfl rfl rfl ?_
             refine jf [(155, _), (151, _), (16, _), (146, _), (17, _), (114, _), (109, _), (15, _), (14, _), (13, _), (12, _), (11, _), (10, _), (9, _), (40, _), (8, _), (7, _), (6, _), (28, _), (5, _), (23, _), (4, _), (2, _), (0, _), (1, _)] ⟨rfl, rfl, rfl, rfl, rfl, rfl, rfl, rfl, rfl, rfl, rfl, rfl, rfl, rfl, rfl, rfl, rfl, rfl, rfl, rfl, rfl, rfl, rfl, rfl, rfl, trivial⟩ ?_
             refine jn ?_
             refine AWP.cond hσ rfl rfl (fun hc155 => ?_) (fun hc155 => ?_)
             ·
              skip
              exact absurd hc155 (by simp)
             ·
              skip
              refine AWP.skip ?_
              refine jsr ?_
              refine jst hσ rfl rfl rfl rfl rfl ?_
              refine jn ?_
              refine AWP.ret ?_
              refine ⟨.inl rfl, _, Ent.refl, _, rfl, ?_⟩
              rfl
theorem c1000a {L : Nat} (h1 : 4096 ≤ L) (h2 : L ≤ 9223372036854775807) {s : Sq} {p : List Nd} (hz : szr 1048576 s.size < 0) : MC Try.prog L 3 [aSq s, ands p] [] (Plain (eB true)) := by
 refine MC.alone ?_ rfl
 have hσ := SGok (nt := 156) h1 h2
 refine MC.body hσ Try.func3 (by kernel_rfl) rfl rfl (Nat.le_of_ble_eq_true rfl) (fun hF => ?_)
 refine jsr ?_
 refine AOps.heap (HS.box hσ rfl rfl rfl rfl rfl rfl rfl) rfl ?_
 apply AOps.norm
 ·
  repeat' (first | exact jq0 rfl | apply jq1 rfl | exact jq2 rfl | exact jq9 rfl | apply jq3 rfl | exact jq4 rfl | apply jq5 rfl | exact jq6 rfl | exact jq7 rfl | exact jq8)
 refine jst hσ rfl rfl rfl rfl rfl ?_
 refine jn ?_
 refine jsr ?_
 refine jst hσ rfl rfl rfl rfl rfl ?_
 refine jn ?_
 refine jsr ?_
 refine jst hσ rfl rfl rfl rfl rfl ?_
 refine jst hσ rfl rfl rfl rfl rfl ?_
 refine AOps.lone hσ rfl rfl rfl rfl (c29 (s := s) (left := 1048576) h1 h2 (by decide) (by decide)) (VAs.self rfl) rfl rfl rfl rfl rfl (B0 := 23000) rfl ?_
 refine jst hσ rfl rfl rfl rfl rfl ?_
 refine jf [(5, _), (4, _), (2, _), (0, _), (1, _)] ⟨rfl, rfl, rfl, rfl, rfl, trivial⟩ ?_
 refine jn ?_
 refine AWP.seq ?_
 refine jsr ?_
 refine jst hσ rfl rfl rfl rfl rfl ?_
 refine jst hσ rfl rfl rfl rfl rfl ?_
 refine jn ?_
 refine AWP.cond hσ rfl rfl (fun hc24 => ?_) (fun hc24 => ?_)
 ·
  skip
  refine jsr ?_
  refine jst hσ rfl rfl rfl rfl rfl ?_
  refine jn ?_
  refine AWP.ret ?_
  refine ⟨.inl rfl, _, Ent.refl, _, rfl, ?_⟩
  rfl
 ·
  skip
  exact absurd (of_decide_eq_false hc24) (fun h => h hz)
theorem c1000b {L : Nat} (h1 : 4096 ≤ L) (h2 : L ≤ 9223372036854775807) {s : Sq} {p : List Nd} (hz1 : 0 ≤ szr 1048576 s.size) (hz : szr (szr 1048576 s.size) (Al.szs Nd.size p) < 0) : MC Try.prog L 3 [aSq s, ands p] [] (Plain (eB true)) := by
 refine MC.alone ?_ rfl
 have hσ := SGok (nt := 156) h1 h2
 refine MC.body hσ Try.func3 (by kernel_rfl) rfl rfl (Nat.le_of_ble_eq_true rfl) (fun hF => ?_)
 refine jsr ?_
 refine AOps.heap (HS.box hσ rfl rfl rfl rfl rfl rfl rfl) rfl ?_
 apply AOps.norm
 ·
  repeat' (first | exact jq0 rfl | apply jq1 rfl | exact jq2 rfl | exact jq9 rfl | apply jq3 rfl | exact jq4 rfl | apply jq5 rfl | exact jq6 rfl | exact jq7 rfl | exact jq8)
 refine jst hσ rfl rfl rfl rfl rfl ?_
 refine jn ?_
 refine jsr ?_
 refine jst hσ rfl rfl rfl rfl rfl ?_
 refine jn ?_
 refine jsr ?_
 refine jst hσ rfl rfl rfl rfl rfl ?_
 refine jst hσ rfl rfl rfl rfl rfl ?_
 refine AOps.lone hσ rfl rfl rfl rfl (c29 (s := s) (left := 1048576) h1 h2 (by decide) (by decide)) (VAs.self rfl) rfl rfl rfl rfl rfl (B0 := 23000) rfl ?_
 refine jst hσ rfl rfl rfl rfl rfl ?_
 refine jf [(5, _), (4, _), (2, _), (0, _), (1, _)] ⟨rfl, rfl, rfl, rfl, rfl, trivial⟩ ?_
 refine jn ?_
 refine AWP.seq ?_
 refine jsr ?_
 refine jst hσ rfl rfl rfl rfl rfl ?_
 refine jst hσ rfl rfl rfl rfl rfl ?_
 refine jn ?_
 refine AWP.cond hσ rfl rfl (fun hc24 => ?_) (fun hc24 => ?_)
 ·
  skip
  exact absurd (of_decide_eq_true hc24) (Int.not_lt.2 hz1)
 ·
  skip
  refine AWP.skip ?_
  refine jsr ?_
  refine jst hσ rfl rfl rfl rfl rfl ?_
  refine jst hσ rfl rfl rfl rfl rfl ?_
  refine jf [(26, _), (25, _), (23, _), (5, _), (4, _), (2, _), (0, _), (1, _)] ⟨rfl, rfl, rfl, rfl, rfl, rfl, rfl, rfl, trivial⟩ ?_
  have hle0 := szr_le (left := 1048576) (by decide) s.size
  refine AOps.lone hσ rfl rfl rfl rfl (c30 (ts := p) (left := szr 1048576 s.size) h1 h2 hz1 (by omega)) (VAs.self rfl) rfl rfl rfl rfl rfl (B0 := 28000) rfl ?_
  refine jst hσ rfl rfl rfl rfl rfl ?_
  refine jf [(5, _), (23, _), (4, _), (2, _), (0, _), (1, _)] ⟨rfl, rfl, rfl, rfl, rfl, rfl, trivial⟩ ?_
  refine jn ?_
  refine AWP.seq ?_
  refine jsr ?_
  refine jst hσ rfl rfl rfl rfl rfl ?_
  refine jst hσ rfl rfl rfl rfl rfl ?_
  refine jn ?_
  refine AWP.cond hσ rfl rfl (fun hc29 => ?_) (fun hc29 => ?_)
  ·
   skip
   refine jsr ?_
   refine jst hσ rfl rfl rfl rfl rfl ?_
   refine jn ?_
   refine AWP.ret ?_
   refine ⟨.inl rfl, _, Ent.refl, _, rfl, ?_⟩
   rfl
  ·
   skip
   exact absurd (of_decide_eq_false hc29) (fun h => h hz)

end Go.Al
namespace Go.Al
open Go.Proofs
set_option linter.unusedVariables false
set_option linter.unusedSimpArgs false
theorem keepF_mem {us : List Bool} {ts : List Tm} : ∀ {n : Nat}, n ≤ ts.length → ∀ t ∈ keepF us ts n, t ∈ ts
  | 0, _, t, ht => by cases ht
  | n + 1, hn, t, ht => by
    rw [keepF] at ht
    split at ht
    · rcases List.mem_append.1 ht with ht | ht
      · exact keepF_mem (by omega) t ht
      · simp only [List.mem_singleton] at ht
        subst ht
        rw [getD_lt (by omega)]
        exact List.getElem_mem _
    · exact keepF_mem (by omega) t ht
theorem nN_moved {c t : Int → Int} {x : Nd} (hx : MvOk c t x) (hb : ndB x = true) : nN (mvN c t x) ≤ 1100 := by
  have e : ∀ y : Nd, nN y = 3 + y.term.xs.length + y.mul.length := fun y => rfl
  have h1 := ok_len (ndB_term hb)
  have h2 := ndB_mlen hb
  rw [e]
  unfold mvN
  split
  · simp only; omega
  · split
    · rename_i hk
      have h3 := hx.cntb hk
      simp only [scat_length, List.length_replicate]; omega
    · omega
theorem cnt_moved {c t : Int → Int} {p : List Nd} (hp : isB p = true) (hm : ∀ x ∈ p, MvOk c t x) : cnt nN (p.map (mvN c t)) ≤ 70000 := by
  obtain ⟨_, h60, hn, _⟩ := isB_spec hp
  have key : ∀ l : List Nd, (∀ x ∈ l, ndB x = true ∧ MvOk c t x) → cnt nN (l.map (mvN c t)) ≤ 1100 * l.length := by
    intro l hl
    induction l with
    | nil => simp [cnt]
    | cons y r ih =>
      have h1 := ih fun z hz => hl z (by simp [hz])
      have h2 := nN_moved (hl y (by simp)).2 (hl y (by simp)).1
      simp only [cnt, List.map_cons, List.sum_cons, List.length_cons] at h1 ⊢
      omega
  have := key p fun x hx => ⟨hn x hx, hm x hx⟩
  omega
theorem cnt_drop {s : Sq} {p : List Nd} (h : chkS s p = true) : 1 + cnt nT (dropFacts s p) + s.goal.xs.length + cnt nN (dropNds s p) ≤ (1073741824 : Int) := by
  obtain ⟨h1, h2, h3⟩ := seqB_spec (chkS_spec h).1
  have h4 := cnt_ctx (c := dropFacts s p) ⟨fun t ht => h1 t (keepF_mem (Nat.le_refl _) t ht), Nat.le_trans dropFacts_le (by omega)⟩
  have h5 := ok_len h3
  have h6 := dropFacts_le (s := s) (p := p)
  have h7 := cnt_moved (chkS_spec h).2 (drop_ok2 h)
  have h8 : dropNds s p = p.map (mvN (cntS (dropTo s p) ((dropFacts s p).length + 1)) (toS (dropTo s p) ((dropFacts s p).length + 1))) := rfl
  rw [← h8] at h7
  omega
/-- The law of DropUnused holds for all arguments. -/
theorem law1000 {L : Nat} (h1 : 4096 ≤ L) (h2 : L ≤ 9223372036854775807) {s : Sq} {p : List Nd} : MC Try.prog L 3 [aSq s, ands p] [] (Plain (eB true)) := by
  by_cases hz1 : szr 1048576 s.size < 0
  · exact c1000a h1 h2 hz1
  have hz1' : 0 ≤ szr 1048576 s.size := by omega
  by_cases hz2 : szr (szr 1048576 s.size) (szs Nd.size p) < 0
  · exact c1000b h1 h2 hz1' hz2
  have hz2' : 0 ≤ szr (szr 1048576 s.size) (szs Nd.size p) := by omega
  obtain ⟨b1, b2, b3, b4⟩ := small_bounds hz1' hz2'
  refine MC.facts ⟨_, _, Try.func3, by kernel_rfl, rfl⟩ fun hF => ?_
  refine MC.lift (L0 := 1073741824) rfl ?_ ?_
  · exact ⟨fact_sq hF.1 b1, fact_nds hF.2.1 b2, trivial⟩
  · have cs := c1006 (L := 1073741824) (s := s) (p := p) (by decide) (Nat.le_refl _)
    cases ha : chkS s p with
    | true =>
      rw [show dropS s p = (dropSq s p, dropNds s p, true) from by unfold dropS; rw [if_pos ha]] at cs
      exact c1000v (rs := dropSq s p) (rp := dropNds s p) (by decide) (Nat.le_refl _) (by simp [dropNds]) (cnt_drop ha) cs (c1007v (by decide) (Nat.le_refl _) ha) hz1' hz2' b3
    | false =>
      rw [show dropS s p = noQ from by unfold dropS; rw [if_neg (by rw [ha]; decide)]] at cs
      exact c1000n (by decide) (Nat.le_refl _) cs (c1007n (by decide) (Nat.le_refl _) ha) hz1' hz2' b3
end Go.Al
