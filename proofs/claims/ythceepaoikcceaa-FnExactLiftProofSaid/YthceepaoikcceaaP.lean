/- The law, walked. -/
import Derived.Test.YthceepaoikcceaaM
namespace Go.Al
open Go.Proofs
set_option linter.unusedVariables false
set_option linter.unusedSimpArgs false
set_option maxRecDepth 10000
set_option maxHeartbeats 4000000
theorem c59d {L : Nat} (h1 : 4096 ≤ L) (h2 : L ≤ 1073741824) {ts : List Tm} : MC Try.prog L 23 [atms ts] [] (Plain (atms ts)) := (c59 h1 h2).frozen (.v (.c (.whole rfl (List.length_map _).symm)))
theorem c94n {L : Nat} (h1 : 4096 ≤ L) (h2 : L ≤ 1073741824) {k : Int} : MC Try.prog L 32 [aTm' ⟨0, []⟩, eI k] [] (Plain (eI k)) := by
 refine MC.alone ?_ rfl
 have hσ := SGok (nt := 10) h1 (Nat.le_trans h2 (by decide))
 refine MC.body hσ Try.func32 (by kernel_rfl) rfl rfl (Nat.le_of_ble_eq_true rfl) (fun hF => ?_)
 refine jsr ?_
 refine AOps.heap (HS.box hσ rfl rfl rfl rfl rfl rfl rfl) rfl ?_
 apply AOps.norm
 ·
  repeat' (first | exact jq0 rfl | apply jq1 rfl | exact jq2 rfl | exact jq9 rfl | apply jq3 rfl | exact jq4 rfl | apply jq5 rfl | exact jq6 rfl | exact jq7 rfl | exact jq8)
 refine jst hσ rfl rfl rfl rfl rfl ?_
 refine AOps.nil ?_
 refine jsr ?_
 refine jst hσ rfl rfl rfl rfl rfl ?_
 refine jst hσ rfl rfl rfl rfl rfl ?_
 refine jst hσ rfl rfl rfl rfl rfl ?_
 refine AOps.forget [(7, _), (6, _), (4, _), (0, _), (1, _)] ⟨rfl, rfl, rfl, rfl, rfl, trivial⟩ ?_
 refine AOps.lone hσ rfl rfl rfl rfl (c19n (k := k) h1 h2) (VAs.self rfl) rfl rfl rfl rfl rfl (B0 := 9000) rfl ?_
 refine jst hσ rfl rfl rfl rfl rfl ?_
 refine AOps.forget [(1, _), (4, _), (0, _)] ⟨rfl, rfl, rfl, trivial⟩ ?_
 refine AOps.nil ?_
 refine jsr ?_
 refine jst hσ rfl rfl rfl rfl rfl ?_
 refine jst hσ rfl rfl rfl rfl rfl ?_
 refine AOps.nil ?_
 refine AWP.ret ?_
 refine ⟨.inl rfl, _, Ent.refl, _, rfl, ?_⟩
 rfl
theorem c38n {L : Nat} (h1 : 4096 ≤ L) (h2 : L ≤ 1073741824) {k : Int} : MC Try.prog L 17 [aSq ⟨[], ⟨0, []⟩⟩, eI k] [] (Plain (eI k)) := by
 refine MC.alone ?_ rfl
 have hσ := SGok (nt := 14) h1 (Nat.le_trans h2 (by decide))
 refine MC.body hσ Try.func17 (by kernel_rfl) rfl rfl (Nat.le_of_ble_eq_true rfl) (fun hF => ?_)
 refine jsr ?_
 refine AOps.heap (HS.box hσ rfl rfl rfl rfl rfl rfl rfl) rfl ?_
 apply AOps.norm
 ·
  repeat' (first | exact jq0 rfl | apply jq1 rfl | exact jq2 rfl | exact jq9 rfl | apply jq3 rfl | exact jq4 rfl | apply jq5 rfl | exact jq6 rfl | exact jq7 rfl | exact jq8)
 refine jst hσ rfl rfl rfl rfl rfl ?_
 refine AOps.nil ?_
 refine jsr ?_
 refine jst hσ rfl rfl rfl rfl rfl ?_
 refine jst hσ rfl rfl rfl rfl rfl ?_
 refine jst hσ rfl rfl rfl rfl rfl ?_
 refine AOps.forget [(7, _), (6, _), (4, _), (2, _), (0, _), (1, _)] ⟨rfl, rfl, rfl, rfl, rfl, rfl, trivial⟩ ?_
 refine AOps.lone hσ rfl rfl rfl rfl (c40n (k := k) h1 h2) (VAs.self rfl) rfl rfl rfl rfl rfl (B0 := 9000) rfl ?_
 refine jst hσ rfl rfl rfl rfl rfl ?_
 refine AOps.forget [(1, _), (4, _), (2, _), (0, _)] ⟨rfl, rfl, rfl, rfl, trivial⟩ ?_
 refine AOps.nil ?_
 refine jsr ?_
 refine jst hσ rfl rfl rfl rfl rfl ?_
 refine jst hσ rfl rfl rfl rfl rfl ?_
 refine jst hσ rfl rfl rfl rfl rfl ?_
 refine AOps.forget [(11, _), (10, _), (1, _), (4, _), (2, _), (0, _)] ⟨rfl, rfl, rfl, rfl, rfl, rfl, trivial⟩ ?_
 refine AOps.lone hσ rfl rfl rfl rfl (c94n (k := k) h1 h2) (VAs.self rfl) rfl rfl rfl rfl rfl (B0 := 13000) rfl ?_
 refine jst hσ rfl rfl rfl rfl rfl ?_
 refine AOps.forget [(1, _), (4, _), (2, _), (0, _)] ⟨rfl, rfl, rfl, rfl, trivial⟩ ?_
 refine AOps.nil ?_
 refine jsr ?_
 refine jst hσ rfl rfl rfl rfl rfl ?_
 refine jst hσ rfl rfl rfl rfl rfl ?_
 refine AOps.nil ?_
 refine AWP.ret ?_
 refine ⟨.inl rfl, _, Ent.refl, _, rfl, ?_⟩
 rfl
theorem c1001v {L : Nat} (h1 : 4096 ≤ L) (h2 : L ≤ 1073741824) {s : Sq} {p : List Nd} {extra : List Tm} {rs : Sq} {rp : List Nd} {m1 : Nat} (hm1 : m1 = rp.length) (hcc : 1 + cnt nT rs.facts + rs.goal.xs.length + cnt nN rp ≤ (1073741824 : Int)) (cs : MC Try.prog L 22 [aSq s, ands p, atms extra] [] (Plain (.tup [aSq rs, ands rp, eB true]))) (ci : MC Try.prog L 24 [aSq s, ands p, atms extra] [] (Rows (.tup [.agg [.rs 0 0 rs.facts.length, .d (.int .i64 rs.goal.c), .rs 1 0 rs.goal.xs.length], .c (.rs 2 0 m1), eB true]) [trow rs.facts, nrow rs.goal.xs, ndrow rp])) (hz1 : 0 ≤ szr 1048576 s.size) (hz2 : 0 ≤ szr (szr 1048576 s.size) (Al.szs Nd.size p)) (hz3 : 0 ≤ szr (szr (szr 1048576 s.size) (Al.szs Nd.size p)) (Al.szs Tm.size extra)) (hcp : 1 + cnt nT s.facts + s.goal.xs.length + cnt nN p + cnt nT extra ≤ (1073741824 : Int)) : MC Try.prog L 4 [aSq s, ands p, atms extra] [] (Plain (eB true)) := by
 refine MC.alone ?_ rfl
 have hσ := SGok (nt := 179) h1 (Nat.le_trans h2 (by decide))
 refine MC.body hσ Try.func4 (by kernel_rfl) rfl rfl (Nat.le_of_ble_eq_true rfl) (fun hF => ?_)
 subst hm1
 have hbig : L ≤ 9223372036854775807 := Nat.le_trans h2 (by decide)
 refine jsr ?_
 refine AOps.heap (HS.box hσ rfl rfl rfl rfl rfl rfl rfl) rfl ?_
 apply AOps.norm
 ·
  repeat' (first | exact jq0 rfl | apply jq1 rfl | exact jq2 rfl | exact jq9 rfl | apply jq3 rfl | exact jq4 rfl | apply jq5 rfl | exact jq6 rfl | exact jq7 rfl | exact jq8)
 refine jst hσ rfl rfl rfl rfl rfl ?_
 refine AOps.nil ?_
 refine jsr ?_
 refine jst hσ rfl rfl rfl rfl rfl ?_
 refine AOps.nil ?_
 refine jsr ?_
 refine jst hσ rfl rfl rfl rfl rfl ?_
 refine jst hσ rfl rfl rfl rfl rfl ?_
 refine AOps.lone hσ rfl rfl rfl rfl (c29 (s := s) (left := 1048576) h1 hbig (by decide) (by decide)) (VAs.self rfl) rfl rfl rfl rfl rfl (B0 := 26000) rfl ?_
 refine jst hσ rfl rfl rfl rfl rfl ?_
 refine AOps.forget [(7, _), (6, _), (3, _), (0, _), (1, _), (2, _)] ⟨rfl, rfl, rfl, rfl, rfl, rfl, trivial⟩ ?_
 refine AOps.nil ?_
 refine AWP.seq ?_
 refine jsr ?_
 refine jst hσ rfl rfl rfl rfl rfl ?_
 refine jst hσ rfl rfl rfl rfl rfl ?_
 refine AOps.nil ?_
 refine AWP.cond hσ rfl rfl (fun hc27 => ?_) (fun hc27 => ?_)
 ·
  skip
  exact absurd (of_decide_eq_true hc27) (by omega)
 ·
  skip
  refine AWP.skip ?_
  refine jsr ?_
  refine jst hσ rfl rfl rfl rfl rfl ?_
  refine jst hσ rfl rfl rfl rfl rfl ?_
  refine AOps.forget [(29, _), (28, _), (26, _), (7, _), (6, _), (3, _), (0, _), (1, _), (2, _)] ⟨rfl, rfl, rfl, rfl, rfl, rfl, rfl, rfl, rfl, trivial⟩ ?_
  have hle0 := szr_le (left := 1048576) (by decide) s.size
  refine AOps.lone hσ rfl rfl rfl rfl (c30 (ts := p) (left := szr 1048576 s.size) h1 hbig hz1 (by omega)) (VAs.self rfl) rfl rfl rfl rfl rfl (B0 := 31000) rfl ?_
  refine jst hσ rfl rfl rfl rfl rfl ?_
  refine AOps.forget [(7, _), (26, _), (6, _), (3, _), (0, _), (1, _), (2, _)] ⟨rfl, rfl, rfl, rfl, rfl, rfl, rfl, trivial⟩ ?_
  refine AOps.nil ?_
  refine AWP.seq ?_
  refine jsr ?_
  refine jst hσ rfl rfl rfl rfl rfl ?_
  refine jst hσ rfl rfl rfl rfl rfl ?_
  refine AOps.nil ?_
  refine AWP.cond hσ rfl rfl (fun hc32 => ?_) (fun hc32 => ?_)
  ·
   skip
   exact absurd (of_decide_eq_true hc32) (by omega)
  ·
   skip
   refine AWP.skip ?_
   refine jsr ?_
   refine jst hσ rfl rfl rfl rfl rfl ?_
   refine jst hσ rfl rfl rfl rfl rfl ?_
   refine AOps.forget [(34, _), (33, _), (31, _), (7, _), (26, _), (6, _), (3, _), (0, _), (1, _), (2, _)] ⟨rfl, rfl, rfl, rfl, rfl, rfl, rfl, rfl, rfl, rfl, trivial⟩ ?_
   have hle0 := szr_le (left := 1048576) (by decide) s.size
   have hle1 := szr_le (left := szr 1048576 s.size) hz1 (Al.szs Nd.size p)
   refine AOps.lone hσ rfl rfl rfl rfl (c52 (ts := extra) (left := szr (szr 1048576 s.size) (Al.szs Nd.size p)) h1 hbig hz2 (by omega)) (VAs.self rfl) rfl rfl rfl rfl rfl (B0 := 36000) rfl ?_
   refine jst hσ rfl rfl rfl rfl rfl ?_
   refine AOps.forget [(7, _), (31, _), (26, _), (6, _), (3, _), (0, _), (1, _), (2, _)] ⟨rfl, rfl, rfl, rfl, rfl, rfl, rfl, rfl, trivial⟩ ?_
   refine AOps.nil ?_
   refine AWP.seq ?_
   refine jsr ?_
   refine jst hσ rfl rfl rfl rfl rfl ?_
   refine jst hσ rfl rfl rfl rfl rfl ?_
   refine AOps.nil ?_
   refine AWP.cond hσ rfl rfl (fun hc37 => ?_) (fun hc37 => ?_)
   ·
    skip
    exact absurd (of_decide_eq_true hc37) (by omega)
   ·
    skip
    refine AWP.skip ?_
    refine jsr ?_
    refine jst hσ rfl rfl rfl rfl rfl ?_
    refine AOps.forget [(39, _), (36, _), (7, _), (31, _), (26, _), (6, _), (3, _), (0, _), (1, _), (2, _)] ⟨rfl, rfl, rfl, rfl, rfl, rfl, rfl, rfl, rfl, rfl, trivial⟩ ?_
    refine AOps.plainD hσ rfl rfl rfl rfl (c32d (s := s) h1 h2) (VAs.self rfl) rfl rfl rfl rfl (B0 := 41000) rfl rfl ?_
    refine jst hσ rfl rfl rfl rfl rfl ?_
    refine AOps.forget [(41, _), (40, _), (36, _), (7, _), (31, _), (26, _), (6, _), (3, _), (0, _), (1, _), (2, _)] ⟨rfl, rfl, rfl, rfl, rfl, rfl, rfl, rfl, rfl, rfl, rfl, trivial⟩ ?_
    refine AOps.plainD hσ rfl rfl rfl rfl (c33d (p := p) h1 h2) (VAs.self rfl) rfl rfl rfl rfl (B0 := 43000) rfl rfl ?_
    refine jst hσ rfl rfl rfl rfl rfl ?_
    refine AOps.forget [(43, _), (42, _), (40, _), (36, _), (7, _), (31, _), (26, _), (6, _), (3, _), (0, _), (1, _), (2, _)] ⟨rfl, rfl, rfl, rfl, rfl, rfl, rfl, rfl, rfl, rfl, rfl, rfl, trivial⟩ ?_
    refine AOps.plainD hσ rfl rfl rfl rfl (c59d (ts := extra) h1 h2) (VAs.self rfl) rfl rfl rfl rfl (B0 := 45000) rfl rfl ?_
    refine AOps.forget [(44, _), (42, _), (40, _), (36, _), (7, _), (31, _), (26, _), (6, _), (3, _), (0, _), (1, _), (2, _)] ⟨rfl, rfl, rfl, rfl, rfl, rfl, rfl, rfl, rfl, rfl, rfl, rfl, trivial⟩ ?_
    refine AOps.plainD hσ rfl rfl rfl rfl (cs) (VAs.self rfl) rfl rfl rfl rfl (B0 := 46000) rfl rfl ?_
    refine jst hσ rfl rfl rfl rfl rfl ?_
    refine jst hσ rfl rfl rfl rfl rfl ?_
    refine jst hσ rfl rfl rfl rfl rfl ?_
    refine jst hσ rfl rfl rfl rfl rfl ?_
    refine AOps.forget [(48, _), (47, _), (46, _), (36, _), (7, _), (31, _), (26, _), (6, _), (3, _), (0, _), (1, _), (2, _)] ⟨rfl, rfl, rfl, rfl, rfl, rfl, rfl, rfl, rfl, rfl, rfl, rfl, trivial⟩ ?_
    refine AOps.heap (HS.alloc hσ rfl rfl rfl rfl rfl) rfl ?_
    apply AOps.norm
    ·
     repeat' (first | exact jq0 rfl | apply jq1 rfl | exact jq2 rfl | exact jq9 rfl | apply jq3 rfl | exact jq4 rfl | apply jq5 rfl | exact jq6 rfl | exact jq7 rfl | exact jq8)
    refine AOps.heap (HS.storeBox hσ rfl rfl rfl rfl rfl rfl rfl rfl rfl rfl rfl) rfl ?_
    apply AOps.norm
    ·
     repeat' (first | exact jq0 rfl | apply jq1 rfl | exact jq2 rfl | exact jq9 rfl | apply jq3 rfl | exact jq4 rfl | apply jq5 rfl | exact jq6 rfl | exact jq7 rfl | exact jq8)
    refine jst hσ rfl rfl rfl rfl rfl ?_
    refine jst hσ rfl rfl rfl rfl rfl ?_
    refine AOps.forget [(10, _), (9, _), (8, _), (36, _), (7, _), (31, _), (26, _), (6, _), (3, _), (0, _), (1, _), (2, _)] ⟨rfl, rfl, rfl, rfl, rfl, rfl, rfl, rfl, rfl, rfl, rfl, rfl, trivial⟩ ?_
    refine AOps.nil ?_
    refine jsr ?_
    refine jst hσ rfl rfl rfl rfl rfl ?_
    refine AOps.rows hσ (B0 := 51000) rfl rfl rfl rfl (c32 (s := s) h1 h2) (VAs.self rfl) rfl rfl rfl rfl rfl rfl ?_
    apply AOps.norm
    ·
     repeat' (first | exact jq0 rfl | apply jq1 rfl | exact jq2 rfl | exact jq9 rfl | apply jq3 rfl | exact jq4 rfl | apply jq5 rfl | exact jq6 rfl | exact jq7 rfl | exact jq8)
    refine AOps.forget [(50, _), (10, _), (9, _), (8, _), (36, _), (7, _), (31, _), (26, _), (6, _), (3, _), (0, _), (1, _), (2, _)] ⟨rfl, rfl, rfl, rfl, rfl, rfl, rfl, rfl, rfl, rfl, rfl, rfl, rfl, trivial⟩ ?_
    refine AOps.heap (HS.alloc hσ rfl rfl rfl rfl rfl) rfl ?_
    apply AOps.norm
    ·
     repeat' (first | exact jq0 rfl | apply jq1 rfl | exact jq2 rfl | exact jq9 rfl | apply jq3 rfl | exact jq4 rfl | apply jq5 rfl | exact jq6 rfl | exact jq7 rfl | exact jq8)
    refine AOps.heap (HS.storeBox hσ rfl rfl rfl rfl rfl rfl rfl rfl rfl rfl rfl) rfl ?_
    apply AOps.norm
    ·
     repeat' (first | exact jq0 rfl | apply jq1 rfl | exact jq2 rfl | exact jq9 rfl | apply jq3 rfl | exact jq4 rfl | apply jq5 rfl | exact jq6 rfl | exact jq7 rfl | exact jq8)
    refine AOps.nil ?_
    refine jsr ?_
    refine jst hσ rfl rfl rfl rfl rfl ?_
    refine AOps.rows hσ (B0 := 53000) rfl rfl rfl rfl (c33 (ts := p) h1 h2) (VAs.self rfl) rfl rfl rfl rfl rfl rfl ?_
    apply AOps.norm
    ·
     repeat' (first | exact jq0 rfl | apply jq1 rfl | exact jq2 rfl | exact jq9 rfl | apply jq3 rfl | exact jq4 rfl | apply jq5 rfl | exact jq6 rfl | exact jq7 rfl | exact jq8)
    refine jst hσ rfl rfl rfl rfl rfl ?_
    refine AOps.forget [(12, _), (11, _), (50, _), (10, _), (9, _), (8, _), (36, _), (7, _), (31, _), (26, _), (6, _), (3, _), (0, _), (1, _), (2, _)] ⟨rfl, rfl, rfl, rfl, rfl, rfl, rfl, rfl, rfl, rfl, rfl, rfl, rfl, rfl, rfl, trivial⟩ ?_
    refine AOps.nil ?_
    refine jsr ?_
    refine jst hσ rfl rfl rfl rfl rfl ?_
    refine AOps.rows hσ (B0 := 55000) rfl rfl rfl rfl (c59 (ts := extra) h1 h2) (VAs.self rfl) rfl rfl rfl rfl rfl rfl ?_
    apply AOps.norm
    ·
     repeat' (first | exact jq0 rfl | apply jq1 rfl | exact jq2 rfl | exact jq9 rfl | apply jq3 rfl | exact jq4 rfl | apply jq5 rfl | exact jq6 rfl | exact jq7 rfl | exact jq8)
    refine jst hσ rfl rfl rfl rfl rfl ?_
    refine AOps.forget [(13, _), (12, _), (11, _), (50, _), (10, _), (9, _), (8, _), (36, _), (7, _), (31, _), (26, _), (6, _), (3, _), (0, _), (1, _), (2, _)] ⟨rfl, rfl, rfl, rfl, rfl, rfl, rfl, rfl, rfl, rfl, rfl, rfl, rfl, rfl, rfl, rfl, trivial⟩ ?_
    refine AOps.nil ?_
    refine jsr ?_
    refine jst hσ rfl rfl rfl rfl rfl ?_
    refine jst hσ rfl rfl rfl rfl rfl ?_
    refine jst hσ rfl rfl rfl rfl rfl ?_
    refine AOps.rows hσ (B0 := 60000) rfl rfl rfl rfl (ci) (.cons (.agg (.cons (.whole rfl (List.length_map _).symm) (.cons .d (.cons (.whole rfl (List.length_map _).symm) .nil)))) (.cons (.c (.whole rfl (List.length_map _).symm)) (.cons (.c (.whole rfl (List.length_map _).symm)) .nil))) rfl rfl rfl rfl rfl rfl ?_
    apply AOps.norm
    ·
     repeat' (first | exact jq0 rfl | apply jq1 rfl | exact jq2 rfl | exact jq9 rfl | apply jq3 rfl | exact jq4 rfl | apply jq5 rfl | exact jq6 rfl | exact jq7 rfl | exact jq8)
    refine jst hσ rfl rfl rfl rfl rfl ?_
    refine jst hσ rfl rfl rfl rfl rfl ?_
    refine jst hσ rfl rfl rfl rfl rfl ?_
    refine jst hσ rfl rfl rfl rfl rfl ?_
    refine AOps.forget [(62, _), (61, _), (60, _), (13, _), (12, _), (11, _), (50, _), (10, _), (9, _), (8, _), (36, _), (7, _), (31, _), (26, _), (6, _), (3, _), (0, _), (1, _), (2, _)] ⟨rfl, rfl, rfl, rfl, rfl, rfl, rfl, rfl, rfl, rfl, rfl, rfl, rfl, rfl, rfl, rfl, rfl, rfl, rfl, trivial⟩ ?_
    refine AOps.heap (HS.alloc hσ rfl rfl rfl rfl rfl) rfl ?_
    apply AOps.norm
    ·
     repeat' (first | exact jq0 rfl | apply jq1 rfl | exact jq2 rfl | exact jq9 rfl | apply jq3 rfl | exact jq4 rfl | apply jq5 rfl | exact jq6 rfl | exact jq7 rfl | exact jq8)
    refine AOps.heap (HS.storeBox hσ rfl rfl rfl rfl rfl rfl rfl rfl rfl rfl rfl) rfl ?_
    apply AOps.norm
    ·
     repeat' (first | exact jq0 rfl | apply jq1 rfl | exact jq2 rfl | exact jq9 rfl | apply jq3 rfl | exact jq4 rfl | apply jq5 rfl | exact jq6 rfl | exact jq7 rfl | exact jq8)
    refine jst hσ rfl rfl rfl rfl rfl ?_
    refine jst hσ rfl rfl rfl rfl rfl ?_
    refine AOps.forget [(16, _), (15, _), (14, _), (13, _), (12, _), (11, _), (50, _), (10, _), (9, _), (8, _), (36, _), (7, _), (31, _), (26, _), (6, _), (3, _), (0, _), (1, _), (2, _)] ⟨rfl, rfl, rfl, rfl, rfl, rfl, rfl, rfl, rfl, rfl, rfl, rfl, rfl, rfl, rfl, rfl, rfl, rfl, rfl, trivial⟩ ?_
    refine AOps.nil ?_
    refine AWP.seq ?_
    refine jsr ?_
    refine jst hσ rfl rfl rfl rfl rfl ?_
    refine jst hσ rfl rfl rfl rfl rfl ?_
    refine AOps.lone hσ rfl rfl rfl rfl ((c36 (s := rs) (t := rs) h1 h2).plain (u := eB true) (by simp)) (.cons (.agg (.cons (.whole rfl (List.length_map _).symm) (.cons .d (.cons (.whole rfl (List.length_map _).symm) .nil)))) (.cons (.agg (VMs.self rfl)) .nil)) rfl rfl rfl rfl rfl (B0 := 66000) rfl ?_
    refine jst hσ rfl rfl rfl rfl rfl ?_
    refine jst hσ rfl rfl rfl rfl rfl ?_
    refine AOps.forget [(67, _), (16, _), (15, _), (14, _), (13, _), (12, _), (11, _), (50, _), (10, _), (9, _), (8, _), (36, _), (7, _), (31, _), (26, _), (6, _), (3, _), (0, _), (1, _), (2, _)] ⟨rfl, rfl, rfl, rfl, rfl, rfl, rfl, rfl, rfl, rfl, rfl, rfl, rfl, rfl, rfl, rfl, rfl, rfl, rfl, rfl, trivial⟩ ?_
    refine AOps.live rfl rfl rfl rfl rfl ?_
    refine jst hσ rfl rfl rfl rfl rfl ?_
    refine AOps.live rfl rfl rfl rfl rfl ?_
    refine jst hσ rfl rfl rfl rfl rfl ?_
    refine AOps.live rfl rfl rfl rfl rfl ?_
    refine AOps.lone hσ rfl rfl rfl rfl ((c37 (xs := rp) (ys := rp) h1 h2).plain (u := eB true) (by simp)) (.cons (.c (.whole rfl (List.length_map _).symm)) (.cons (.c .d) .nil)) rfl rfl rfl rfl rfl (B0 := 71000) rfl ?_
    refine AOps.forget [(70, _), (67, _), (16, _), (15, _), (14, _), (13, _), (12, _), (11, _), (50, _), (10, _), (9, _), (8, _), (36, _), (7, _), (31, _), (26, _), (6, _), (3, _), (0, _), (1, _), (2, _)] ⟨rfl, rfl, rfl, rfl, rfl, rfl, rfl, rfl, rfl, rfl, rfl, rfl, rfl, rfl, rfl, rfl, rfl, rfl, rfl, rfl, rfl, trivial⟩ ?_
    refine AOps.live rfl rfl rfl rfl rfl ?_
    refine jst hσ rfl rfl rfl rfl rfl ?_
    refine AOps.step (Val.pickN hσ rfl rfl rfl rfl rfl) rfl rfl rfl ?_
    refine jst hσ rfl rfl rfl rfl rfl ?_
    refine AOps.forget [(73, _), (16, _), (15, _), (14, _), (13, _), (12, _), (11, _), (50, _), (10, _), (9, _), (8, _), (36, _), (7, _), (31, _), (26, _), (6, _), (3, _), (0, _), (1, _), (2, _)] ⟨rfl, rfl, rfl, rfl, rfl, rfl, rfl, rfl, rfl, rfl, rfl, rfl, rfl, rfl, rfl, rfl, rfl, rfl, rfl, rfl, trivial⟩ ?_
    refine AOps.live rfl rfl rfl rfl rfl ?_
    refine jst hσ rfl rfl rfl rfl rfl ?_
    refine AOps.live rfl rfl rfl rfl rfl ?_
    refine jst hσ rfl rfl rfl rfl rfl ?_
    refine AOps.live rfl rfl rfl rfl rfl ?_
    refine jst hσ rfl rfl rfl rfl rfl ?_
    refine AOps.step (Val.pickN hσ rfl rfl rfl rfl rfl) rfl rfl rfl ?_
    refine AOps.forget [(77, _), (16, _), (15, _), (14, _), (13, _), (12, _), (11, _), (50, _), (10, _), (9, _), (8, _), (36, _), (7, _), (31, _), (26, _), (6, _), (3, _), (0, _), (1, _), (2, _)] ⟨rfl, rfl, rfl, rfl, rfl, rfl, rfl, rfl, rfl, rfl, rfl, rfl, rfl, rfl, rfl, rfl, rfl, rfl, rfl, rfl, trivial⟩ ?_
    refine AOps.nil ?_
    refine AWP.cond hσ rfl rfl (fun hc77 => ?_) (fun hc77 => ?_)
    ·
     skip
     exact absurd (show false = true from hc77) (by decide)
    ·
     skip
     refine AWP.skip ?_
     refine AWP.seq ?_
     refine AWP.seq ?_
     refine AWP.forget [(16, _), (15, _), (14, _), (13, _), (12, _), (11, _), (50, _), (10, _), (9, _), (8, _), (36, _), (7, _), (31, _), (26, _), (6, _), (3, _), (0, _), (1, _), (2, _)] ⟨rfl, rfl, rfl, rfl, rfl, rfl, rfl, rfl, rfl, rfl, rfl, rfl, rfl, rfl, rfl, rfl, rfl, rfl, rfl, trivial⟩ ?_
     refine AWP.drawR hσ _ [_, _, _, _, _] [⟨[], 0, 1, none⟩, ⟨[], 0, 0, none⟩, ⟨[1], 0, 0, some 0⟩, ⟨[0, 1, 2], 0, 0, some 1⟩, ⟨[0, 1, 2, 3], 2, 2, none⟩] [2, 3] [_, _, _] rfl rfl (by decide) (by decide) (by kernel_rfl) (And.intro (And.intro (Val.of hσ rfl rfl) (Val.of hσ rfl rfl)) (And.intro (Val.of hσ rfl rfl) (And.intro (Eff.plainD hσ (B0 := 81000) rfl rfl rfl rfl (c32d (s := s) h1 h2) (VAs.self rfl) rfl rfl rfl rfl rfl) (And.intro (Eff.lone hσ (B0 := 82000) rfl rfl rfl rfl ((c36 (s := s) (t := s) h1 h2).plain (u := eB true) (by simp)) (.cons (.agg (.cons (.whole rfl (List.length_map _).symm) (.cons .d (.cons (.whole rfl (List.length_map _).symm) .nil)))) (.cons (.agg (VMs.self rfl)) .nil)) rfl rfl rfl rfl rfl) (And.intro (Val.of hσ rfl rfl) trivial))))) ?_
     refine AWP.forget [(82, _), (16, _), (15, _), (14, _), (13, _), (12, _), (11, _), (50, _), (10, _), (9, _), (8, _), (36, _), (7, _), (31, _), (26, _), (6, _), (3, _), (0, _), (1, _), (2, _)] ⟨rfl, rfl, rfl, rfl, rfl, rfl, rfl, rfl, rfl, rfl, rfl, rfl, rfl, rfl, rfl, rfl, rfl, rfl, rfl, rfl, trivial⟩ ?_
     apply AWP.norm
     ·
      repeat' (first | exact jq0 rfl | apply jq1 rfl | exact jq2 rfl | exact jq9 rfl | apply jq3 rfl | exact jq4 rfl | apply jq5 rfl | exact jq6 rfl | exact jq7 rfl | exact jq8)
     refine AWP.cond hσ rfl rfl (fun hc82 => ?_) (fun hc82 => ?_)
     ·
      skip
      exact absurd (show false = true from hc82) (by decide)
     ·
      skip
      refine AWP.skip ?_
      refine AWP.seq ?_
      refine jsr ?_
      refine jst hσ rfl rfl rfl rfl rfl ?_
      refine jst hσ rfl rfl rfl rfl rfl ?_
      refine AOps.forget [(84, _), (83, _), (16, _), (15, _), (14, _), (13, _), (12, _), (11, _), (50, _), (10, _), (9, _), (8, _), (36, _), (7, _), (31, _), (26, _), (6, _), (3, _), (0, _), (1, _), (2, _)] ⟨rfl, rfl, rfl, rfl, rfl, rfl, rfl, rfl, rfl, rfl, rfl, rfl, rfl, rfl, rfl, rfl, rfl, rfl, rfl, rfl, rfl, trivial⟩ ?_
      refine AOps.plainD hσ rfl rfl rfl rfl (c33d (p := p) h1 h2) (VAs.self rfl) rfl rfl rfl rfl (B0 := 86000) rfl rfl ?_
      refine AOps.forget [(85, _), (83, _), (16, _), (15, _), (14, _), (13, _), (12, _), (11, _), (50, _), (10, _), (9, _), (8, _), (36, _), (7, _), (31, _), (26, _), (6, _), (3, _), (0, _), (1, _), (2, _)] ⟨rfl, rfl, rfl, rfl, rfl, rfl, rfl, rfl, rfl, rfl, rfl, rfl, rfl, rfl, rfl, rfl, rfl, rfl, rfl, rfl, rfl, trivial⟩ ?_
      refine AOps.lone hσ rfl rfl rfl rfl ((c37 (xs := p) (ys := p) h1 h2).plain (u := eB true) (by simp)) (.cons (.c (.whole rfl (List.length_map _).symm)) (.cons (.c .d) .nil)) rfl rfl rfl rfl rfl (B0 := 87000) rfl ?_
      refine jst hσ rfl rfl rfl rfl rfl ?_
      refine AOps.forget [(87, _), (16, _), (15, _), (14, _), (13, _), (12, _), (11, _), (50, _), (10, _), (9, _), (8, _), (36, _), (7, _), (31, _), (26, _), (6, _), (3, _), (0, _), (1, _), (2, _)] ⟨rfl, rfl, rfl, rfl, rfl, rfl, rfl, rfl, rfl, rfl, rfl, rfl, rfl, rfl, rfl, rfl, rfl, rfl, rfl, rfl, trivial⟩ ?_
      refine AOps.nil ?_
      refine AWP.cond hσ rfl rfl (fun hc87 => ?_) (fun hc87 => ?_)
      ·
       skip
       exact absurd (show false = true from hc87) (by decide)
      ·
       skip
       refine AWP.skip ?_
       refine AWP.seq ?_
       refine jsr ?_
       refine jst hσ rfl rfl rfl rfl rfl ?_
       refine jst hσ rfl rfl rfl rfl rfl ?_
       refine AOps.forget [(89, _), (88, _), (16, _), (15, _), (14, _), (13, _), (12, _), (11, _), (50, _), (10, _), (9, _), (8, _), (36, _), (7, _), (31, _), (26, _), (6, _), (3, _), (0, _), (1, _), (2, _)] ⟨rfl, rfl, rfl, rfl, rfl, rfl, rfl, rfl, rfl, rfl, rfl, rfl, rfl, rfl, rfl, rfl, rfl, rfl, rfl, rfl, rfl, trivial⟩ ?_
       refine AOps.plainD hσ rfl rfl rfl rfl (c59d (ts := extra) h1 h2) (VAs.self rfl) rfl rfl rfl rfl (B0 := 91000) rfl rfl ?_
       refine AOps.forget [(90, _), (88, _), (16, _), (15, _), (14, _), (13, _), (12, _), (11, _), (50, _), (10, _), (9, _), (8, _), (36, _), (7, _), (31, _), (26, _), (6, _), (3, _), (0, _), (1, _), (2, _)] ⟨rfl, rfl, rfl, rfl, rfl, rfl, rfl, rfl, rfl, rfl, rfl, rfl, rfl, rfl, rfl, rfl, rfl, rfl, rfl, rfl, rfl, trivial⟩ ?_
       refine AOps.lone hσ rfl rfl rfl rfl ((c35 (xs := extra) (ys := extra) h1 h2).plain (u := eB true) (by simp)) (.cons (.c (.whole rfl (List.length_map _).symm)) (.cons (.c .d) .nil)) rfl rfl rfl rfl rfl (B0 := 92000) rfl ?_
       refine jst hσ rfl rfl rfl rfl rfl ?_
       refine AOps.forget [(92, _), (16, _), (15, _), (14, _), (13, _), (12, _), (11, _), (50, _), (10, _), (9, _), (8, _), (36, _), (7, _), (31, _), (26, _), (6, _), (3, _), (0, _), (1, _), (2, _)] ⟨rfl, rfl, rfl, rfl, rfl, rfl, rfl, rfl, rfl, rfl, rfl, rfl, rfl, rfl, rfl, rfl, rfl, rfl, rfl, rfl, trivial⟩ ?_
       refine AOps.nil ?_
       refine AWP.cond hσ rfl rfl (fun hc92 => ?_) (fun hc92 => ?_)
       ·
        skip
        exact absurd (show false = true from hc92) (by decide)
       ·
        skip
        refine AWP.skip ?_
        refine jsr ?_
        refine jst hσ rfl rfl rfl rfl rfl ?_
        refine AOps.nil ?_
        refine jsr ?_
        refine jst hσ rfl rfl rfl rfl rfl ?_
        refine jst hσ rfl rfl rfl rfl rfl ?_
        refine AOps.forget [(94, _), (93, _), (17, _), (16, _), (15, _), (14, _), (13, _), (12, _), (11, _), (50, _), (10, _), (9, _), (8, _), (36, _), (7, _), (31, _), (26, _), (6, _), (3, _), (0, _), (1, _), (2, _)] ⟨rfl, rfl, rfl, rfl, rfl, rfl, rfl, rfl, rfl, rfl, rfl, rfl, rfl, rfl, rfl, rfl, rfl, rfl, rfl, rfl, rfl, rfl, trivial⟩ ?_
        refine AOps.inn hσ [51000, 51001] (bin := [trow s.facts, nrow s.goal.xs]) rfl rfl rfl rfl (c38 (s := s) (k := 1) h1 h2 (by decide) (by omega)) rfl rfl rfl rfl rfl rfl (B0 := 96000) rfl rfl ?_
        apply AOps.norm
        ·
         repeat' (first | exact jq0 rfl | apply jq1 rfl | exact jq2 rfl | exact jq9 rfl | apply jq3 rfl | exact jq4 rfl | apply jq5 rfl | exact jq6 rfl | exact jq7 rfl | exact jq8)
        refine jst hσ rfl rfl rfl rfl rfl ?_
        refine AOps.forget [(17, _), (16, _), (15, _), (14, _), (13, _), (12, _), (11, _), (50, _), (10, _), (9, _), (8, _), (36, _), (7, _), (31, _), (26, _), (6, _), (3, _), (0, _), (1, _), (2, _)] ⟨rfl, rfl, rfl, rfl, rfl, rfl, rfl, rfl, rfl, rfl, rfl, rfl, rfl, rfl, rfl, rfl, rfl, rfl, rfl, rfl, trivial⟩ ?_
        refine AOps.nil ?_
        refine jsr ?_
        refine jst hσ rfl rfl rfl rfl rfl ?_
        refine jst hσ rfl rfl rfl rfl rfl ?_
        refine AOps.inn hσ [53000] (bin := [ndrow p]) rfl rfl rfl rfl (c39 (ts := p) (k := 1 + cnt nT s.facts + s.goal.xs.length) h1 h2 (by omega) (by omega)) rfl rfl rfl rfl rfl rfl (B0 := 99000) rfl rfl ?_
        apply AOps.norm
        ·
         repeat' (first | exact jq0 rfl | apply jq1 rfl | exact jq2 rfl | exact jq9 rfl | apply jq3 rfl | exact jq4 rfl | apply jq5 rfl | exact jq6 rfl | exact jq7 rfl | exact jq8)
        refine jst hσ rfl rfl rfl rfl rfl ?_
        refine AOps.forget [(17, _), (16, _), (15, _), (14, _), (13, _), (12, _), (11, _), (50, _), (10, _), (9, _), (8, _), (36, _), (7, _), (31, _), (26, _), (6, _), (3, _), (0, _), (1, _), (2, _)] ⟨rfl, rfl, rfl, rfl, rfl, rfl, rfl, rfl, rfl, rfl, rfl, rfl, rfl, rfl, rfl, rfl, rfl, rfl, rfl, rfl, trivial⟩ ?_
        refine AOps.nil ?_
        refine jsr ?_
        refine jst hσ rfl rfl rfl rfl rfl ?_
        refine jst hσ rfl rfl rfl rfl rfl ?_
        refine AOps.inn hσ [55000] (bin := [trow extra]) rfl rfl rfl rfl (c40 (ts := extra) (k := 1 + cnt nT s.facts + s.goal.xs.length + cnt nN p) h1 h2 (by omega) (by omega)) rfl rfl rfl rfl rfl rfl (B0 := 102000) rfl rfl ?_
        apply AOps.norm
        ·
         repeat' (first | exact jq0 rfl | apply jq1 rfl | exact jq2 rfl | exact jq9 rfl | apply jq3 rfl | exact jq4 rfl | apply jq5 rfl | exact jq6 rfl | exact jq7 rfl | exact jq8)
        refine jst hσ rfl rfl rfl rfl rfl ?_
        refine AOps.forget [(17, _), (16, _), (15, _), (14, _), (13, _), (12, _), (11, _), (50, _), (10, _), (9, _), (8, _), (36, _), (7, _), (31, _), (26, _), (6, _), (3, _), (0, _), (1, _), (2, _)] ⟨rfl, rfl, rfl, rfl, rfl, rfl, rfl, rfl, rfl, rfl, rfl, rfl, rfl, rfl, rfl, rfl, rfl, rfl, rfl, rfl, trivial⟩ ?_
        refine AOps.nil ?_
        refine AWP.seq ?_
        refine jsr ?_
        refine jst hσ rfl rfl rfl rfl rfl ?_
        refine jst hσ rfl rfl rfl rfl rfl ?_
        rw [decide_eq_false (show ¬ (1 + cnt nT s.facts + s.goal.xs.length + cnt nN p + cnt nT extra : Int) < 0 by omega)]
        refine jst hσ rfl rfl rfl rfl rfl ?_
        refine AOps.forget [(104, _), (17, _), (16, _), (15, _), (14, _), (13, _), (12, _), (11, _), (50, _), (10, _), (9, _), (8, _), (36, _), (7, _), (31, _), (26, _), (6, _), (3, _), (0, _), (1, _), (2, _)] ⟨rfl, rfl, rfl, rfl, rfl, rfl, rfl, rfl, rfl, rfl, rfl, rfl, rfl, rfl, rfl, rfl, rfl, rfl, rfl, rfl, rfl, trivial⟩ ?_
        refine AOps.live rfl rfl rfl rfl rfl ?_
        refine jst hσ rfl rfl rfl rfl rfl ?_
        refine AOps.live rfl rfl rfl rfl rfl ?_
        refine jst hσ rfl rfl rfl rfl rfl ?_
        refine AOps.live rfl rfl rfl rfl rfl ?_
        refine AOps.lone hσ rfl rfl rfl rfl ((c36 (s := rs) (t := rs) h1 h2).plain (u := eB true) (by simp)) (.cons (.agg (.cons (.whole rfl (List.length_map _).symm) (.cons .d (.cons (.whole rfl (List.length_map _).symm) .nil)))) (.cons (.agg (VMs.self rfl)) .nil)) rfl rfl rfl rfl rfl (B0 := 108000) rfl ?_
        refine AOps.forget [(107, _), (104, _), (17, _), (16, _), (15, _), (14, _), (13, _), (12, _), (11, _), (50, _), (10, _), (9, _), (8, _), (36, _), (7, _), (31, _), (26, _), (6, _), (3, _), (0, _), (1, _), (2, _)] ⟨rfl, rfl, rfl, rfl, rfl, rfl, rfl, rfl, rfl, rfl, rfl, rfl, rfl, rfl, rfl, rfl, rfl, rfl, rfl, rfl, rfl, rfl, trivial⟩ ?_
        refine AOps.live rfl rfl rfl rfl rfl ?_
        refine jst hσ rfl rfl rfl rfl rfl ?_
        refine AOps.step (Val.pickN hσ rfl rfl rfl rfl rfl) rfl rfl rfl ?_
        refine jst hσ rfl rfl rfl rfl rfl ?_
        refine AOps.forget [(110, _), (17, _), (16, _), (15, _), (14, _), (13, _), (12, _), (11, _), (50, _), (10, _), (9, _), (8, _), (36, _), (7, _), (31, _), (26, _), (6, _), (3, _), (0, _), (1, _), (2, _)] ⟨rfl, rfl, rfl, rfl, rfl, rfl, rfl, rfl, rfl, rfl, rfl, rfl, rfl, rfl, rfl, rfl, rfl, rfl, rfl, rfl, rfl, trivial⟩ ?_
        refine AOps.live rfl rfl rfl rfl rfl ?_
        refine jst hσ rfl rfl rfl rfl rfl ?_
        refine AOps.live rfl rfl rfl rfl rfl ?_
        refine jst hσ rfl rfl rfl rfl rfl ?_
        refine AOps.live rfl rfl rfl rfl rfl ?_
        refine AOps.lone hσ rfl rfl rfl rfl ((c37 (xs := rp) (ys := rp) h1 h2).plain (u := eB true) (by simp)) (.cons (.c (.whole rfl (List.length_map _).symm)) (.cons (.c .d) .nil)) rfl rfl rfl rfl rfl (B0 := 114000) rfl ?_
        refine AOps.forget [(113, _), (110, _), (17, _), (16, _), (15, _), (14, _), (13, _), (12, _), (11, _), (50, _), (10, _), (9, _), (8, _), (36, _), (7, _), (31, _), (26, _), (6, _), (3, _), (0, _), (1, _), (2, _)] ⟨rfl, rfl, rfl, rfl, rfl, rfl, rfl, rfl, rfl, rfl, rfl, rfl, rfl, rfl, rfl, rfl, rfl, rfl, rfl, rfl, rfl, rfl, trivial⟩ ?_
        refine AOps.live rfl rfl rfl rfl rfl ?_
        refine jst hσ rfl rfl rfl rfl rfl ?_
        refine AOps.step (Val.pickN hσ rfl rfl rfl rfl rfl) rfl rfl rfl ?_
        refine jst hσ rfl rfl rfl rfl rfl ?_
        refine AOps.forget [(116, _), (17, _), (16, _), (15, _), (14, _), (13, _), (12, _), (11, _), (50, _), (10, _), (9, _), (8, _), (36, _), (7, _), (31, _), (26, _), (6, _), (3, _), (0, _), (1, _), (2, _)] ⟨rfl, rfl, rfl, rfl, rfl, rfl, rfl, rfl, rfl, rfl, rfl, rfl, rfl, rfl, rfl, rfl, rfl, rfl, rfl, rfl, rfl, trivial⟩ ?_
        refine AOps.live rfl rfl rfl rfl rfl ?_
        refine jst hσ rfl rfl rfl rfl rfl ?_
        refine AOps.live rfl rfl rfl rfl rfl ?_
        refine jst hσ rfl rfl rfl rfl rfl ?_
        refine AOps.live rfl rfl rfl rfl rfl ?_
        refine jst hσ rfl rfl rfl rfl rfl ?_
        refine AOps.step (Val.pickN hσ rfl rfl rfl rfl rfl) rfl rfl rfl ?_
        refine AOps.forget [(120, _), (17, _), (16, _), (15, _), (14, _), (13, _), (12, _), (11, _), (50, _), (10, _), (9, _), (8, _), (36, _), (7, _), (31, _), (26, _), (6, _), (3, _), (0, _), (1, _), (2, _)] ⟨rfl, rfl, rfl, rfl, rfl, rfl, rfl, rfl, rfl, rfl, rfl, rfl, rfl, rfl, rfl, rfl, rfl, rfl, rfl, rfl, rfl, trivial⟩ ?_
        refine AOps.nil ?_
        refine AWP.cond hσ rfl rfl (fun hc120 => ?_) (fun hc120 => ?_)
        ·
         skip
         exact absurd (show false = true from hc120) (by decide)
        ·
         skip
         refine AWP.skip ?_
         refine jsr ?_
         refine jst hσ rfl rfl rfl rfl rfl ?_
         refine AOps.nil ?_
         refine jsr ?_
         refine jst hσ rfl rfl rfl rfl rfl ?_
         refine jst hσ rfl rfl rfl rfl rfl ?_
         refine AOps.forget [(122, _), (121, _), (18, _), (17, _), (16, _), (15, _), (14, _), (13, _), (12, _), (11, _), (50, _), (10, _), (9, _), (8, _), (36, _), (7, _), (31, _), (26, _), (6, _), (3, _), (0, _), (1, _), (2, _)] ⟨rfl, rfl, rfl, rfl, rfl, rfl, rfl, rfl, rfl, rfl, rfl, rfl, rfl, rfl, rfl, rfl, rfl, rfl, rfl, rfl, rfl, rfl, rfl, trivial⟩ ?_
         refine AOps.inn hσ [60000, 60001] (bin := [trow rs.facts, nrow rs.goal.xs]) rfl rfl rfl rfl (c38 (s := rs) (k := 1) h1 h2 (by decide) (by omega)) rfl rfl rfl rfl rfl rfl (B0 := 124000) rfl rfl ?_
         apply AOps.norm
         ·
          repeat' (first | exact jq0 rfl | apply jq1 rfl | exact jq2 rfl | exact jq9 rfl | apply jq3 rfl | exact jq4 rfl | apply jq5 rfl | exact jq6 rfl | exact jq7 rfl | exact jq8)
         refine jst hσ rfl rfl rfl rfl rfl ?_
         refine AOps.forget [(18, _), (17, _), (16, _), (15, _), (14, _), (13, _), (12, _), (11, _), (50, _), (10, _), (9, _), (8, _), (36, _), (7, _), (31, _), (26, _), (6, _), (3, _), (0, _), (1, _), (2, _)] ⟨rfl, rfl, rfl, rfl, rfl, rfl, rfl, rfl, rfl, rfl, rfl, rfl, rfl, rfl, rfl, rfl, rfl, rfl, rfl, rfl, rfl, trivial⟩ ?_
         refine AOps.nil ?_
         refine jsr ?_
         refine jst hσ rfl rfl rfl rfl rfl ?_
         refine jst hσ rfl rfl rfl rfl rfl ?_
         refine AOps.inn hσ [60002] (bin := [ndrow rp]) rfl rfl rfl rfl (c39 (ts := rp) (k := 1 + cnt nT rs.facts + rs.goal.xs.length) h1 h2 (by omega) (by omega)) rfl rfl rfl rfl rfl rfl (B0 := 127000) rfl rfl ?_
         apply AOps.norm
         ·
          repeat' (first | exact jq0 rfl | apply jq1 rfl | exact jq2 rfl | exact jq9 rfl | apply jq3 rfl | exact jq4 rfl | apply jq5 rfl | exact jq6 rfl | exact jq7 rfl | exact jq8)
         refine jst hσ rfl rfl rfl rfl rfl ?_
         refine AOps.forget [(18, _), (17, _), (16, _), (15, _), (14, _), (13, _), (12, _), (11, _), (50, _), (10, _), (9, _), (8, _), (36, _), (7, _), (31, _), (26, _), (6, _), (3, _), (0, _), (1, _), (2, _)] ⟨rfl, rfl, rfl, rfl, rfl, rfl, rfl, rfl, rfl, rfl, rfl, rfl, rfl, rfl, rfl, rfl, rfl, rfl, rfl, rfl, rfl, trivial⟩ ?_
         refine AOps.nil ?_
         refine jsr ?_
         refine jst hσ rfl rfl rfl rfl rfl ?_
         refine AOps.nil ?_
         refine jsr ?_
         refine jst hσ rfl rfl rfl rfl rfl ?_
         refine jst hσ rfl rfl rfl rfl rfl ?_
         refine AOps.lone hσ rfl rfl rfl rfl (c1008 (s := rs) (k := 1) h1 h2 (by decide) (by omega)) (.cons (.agg (.cons (.whole rfl (by rw [List.length_map, markL_length])) (.cons .d (.cons (.whole rfl (by rw [List.length_map, markL_length])) .nil)))) (.cons (.c .d) .nil)) rfl rfl rfl rfl rfl (B0 := 130000) rfl ?_
         refine jst hσ rfl rfl rfl rfl rfl ?_
         refine AOps.forget [(19, _), (18, _), (17, _), (16, _), (15, _), (14, _), (13, _), (12, _), (11, _), (50, _), (10, _), (9, _), (8, _), (36, _), (7, _), (31, _), (26, _), (6, _), (3, _), (0, _), (1, _), (2, _)] ⟨rfl, rfl, rfl, rfl, rfl, rfl, rfl, rfl, rfl, rfl, rfl, rfl, rfl, rfl, rfl, rfl, rfl, rfl, rfl, rfl, rfl, rfl, trivial⟩ ?_
         refine AOps.nil ?_
         refine AWP.seq ?_
         refine jsr ?_
         refine jst hσ rfl rfl rfl rfl rfl ?_
         refine jst hσ rfl rfl rfl rfl rfl ?_
         refine AOps.nil ?_
         refine AWP.cond hσ rfl rfl (fun hc131 => ?_) (fun hc131 => ?_)
         ·
          skip
          exact absurd (of_decide_eq_true hc131) (by omega)
         ·
          skip
          refine AWP.skip ?_
          refine jsr ?_
          refine jst hσ rfl rfl rfl rfl rfl ?_
          refine jst hσ rfl rfl rfl rfl rfl ?_
          refine AOps.forget [(133, _), (132, _), (130, _), (19, _), (18, _), (17, _), (16, _), (15, _), (14, _), (13, _), (12, _), (11, _), (50, _), (10, _), (9, _), (8, _), (36, _), (7, _), (31, _), (26, _), (6, _), (3, _), (0, _), (1, _), (2, _)] ⟨rfl, rfl, rfl, rfl, rfl, rfl, rfl, rfl, rfl, rfl, rfl, rfl, rfl, rfl, rfl, rfl, rfl, rfl, rfl, rfl, rfl, rfl, rfl, rfl, rfl, trivial⟩ ?_
          refine AOps.lone hσ rfl rfl rfl rfl (c1009 (ts := rp) (k := 1 + cnt nT rs.facts + rs.goal.xs.length) h1 h2 (by omega) (by omega)) (.cons (.c (.whole rfl (by rw [List.length_map, markL_length]))) (.cons (.c .d) .nil)) rfl rfl rfl rfl rfl (B0 := 135000) rfl ?_
          refine jst hσ rfl rfl rfl rfl rfl ?_
          refine AOps.forget [(19, _), (130, _), (18, _), (17, _), (16, _), (15, _), (14, _), (13, _), (12, _), (11, _), (50, _), (10, _), (9, _), (8, _), (36, _), (7, _), (31, _), (26, _), (6, _), (3, _), (0, _), (1, _), (2, _)] ⟨rfl, rfl, rfl, rfl, rfl, rfl, rfl, rfl, rfl, rfl, rfl, rfl, rfl, rfl, rfl, rfl, rfl, rfl, rfl, rfl, rfl, rfl, rfl, trivial⟩ ?_
          refine AOps.nil ?_
          refine AWP.seq ?_
          refine jsr ?_
          refine jst hσ rfl rfl rfl rfl rfl ?_
          refine jst hσ rfl rfl rfl rfl rfl ?_
          refine AOps.nil ?_
          refine AWP.cond hσ rfl rfl (fun hc136 => ?_) (fun hc136 => ?_)
          ·
           skip
           exact absurd (of_decide_eq_true hc136) (by omega)
          ·
           skip
           refine AWP.skip ?_
           refine AWP.seq ?_
           refine jsr ?_
           refine jst hσ rfl rfl rfl rfl rfl ?_
           refine jst hσ rfl rfl rfl rfl rfl ?_
           refine jst hσ rfl rfl rfl rfl rfl ?_
           refine AOps.forget [(139, _), (135, _), (19, _), (130, _), (18, _), (17, _), (16, _), (15, _), (14, _), (13, _), (12, _), (11, _), (50, _), (10, _), (9, _), (8, _), (36, _), (7, _), (31, _), (26, _), (6, _), (3, _), (0, _), (1, _), (2, _)] ⟨rfl, rfl, rfl, rfl, rfl, rfl, rfl, rfl, rfl, rfl, rfl, rfl, rfl, rfl, rfl, rfl, rfl, rfl, rfl, rfl, rfl, rfl, rfl, rfl, rfl, trivial⟩ ?_
           refine AOps.nil ?_
           refine AWP.cond hσ rfl rfl (fun hc139 => ?_) (fun hc139 => ?_)
           ·
            skip
            exact absurd hc139 (by simp)
           ·
            skip
            refine AWP.skip ?_
            refine jsr ?_
            refine jst hσ rfl rfl rfl rfl rfl ?_
            refine AOps.forget [(141, _), (135, _), (19, _), (130, _), (18, _), (17, _), (16, _), (15, _), (14, _), (13, _), (12, _), (11, _), (50, _), (10, _), (9, _), (8, _), (36, _), (7, _), (31, _), (26, _), (6, _), (3, _), (0, _), (1, _), (2, _)] ⟨rfl, rfl, rfl, rfl, rfl, rfl, rfl, rfl, rfl, rfl, rfl, rfl, rfl, rfl, rfl, rfl, rfl, rfl, rfl, rfl, rfl, rfl, rfl, rfl, rfl, trivial⟩ ?_
            refine AOps.plainD hσ rfl rfl rfl rfl (c32d (s := s) h1 h2) (VAs.self rfl) rfl rfl rfl rfl (B0 := 143000) rfl rfl ?_
            refine jst hσ rfl rfl rfl rfl rfl ?_
            refine AOps.forget [(143, _), (142, _), (135, _), (19, _), (130, _), (18, _), (17, _), (16, _), (15, _), (14, _), (13, _), (12, _), (11, _), (50, _), (10, _), (9, _), (8, _), (36, _), (7, _), (31, _), (26, _), (6, _), (3, _), (0, _), (1, _), (2, _)] ⟨rfl, rfl, rfl, rfl, rfl, rfl, rfl, rfl, rfl, rfl, rfl, rfl, rfl, rfl, rfl, rfl, rfl, rfl, rfl, rfl, rfl, rfl, rfl, rfl, rfl, rfl, trivial⟩ ?_
            refine AOps.plainD hσ rfl rfl rfl rfl (c33d (p := p) h1 h2) (VAs.self rfl) rfl rfl rfl rfl (B0 := 145000) rfl rfl ?_
            refine jst hσ rfl rfl rfl rfl rfl ?_
            refine AOps.forget [(145, _), (144, _), (142, _), (135, _), (19, _), (130, _), (18, _), (17, _), (16, _), (15, _), (14, _), (13, _), (12, _), (11, _), (50, _), (10, _), (9, _), (8, _), (36, _), (7, _), (31, _), (26, _), (6, _), (3, _), (0, _), (1, _), (2, _)] ⟨rfl, rfl, rfl, rfl, rfl, rfl, rfl, rfl, rfl, rfl, rfl, rfl, rfl, rfl, rfl, rfl, rfl, rfl, rfl, rfl, rfl, rfl, rfl, rfl, rfl, rfl, rfl, trivial⟩ ?_
            refine AOps.plainD hσ rfl rfl rfl rfl (c59d (ts := extra) h1 h2) (VAs.self rfl) rfl rfl rfl rfl (B0 := 147000) rfl rfl ?_
            refine AOps.forget [(146, _), (144, _), (142, _), (135, _), (19, _), (130, _), (18, _), (17, _), (16, _), (15, _), (14, _), (13, _), (12, _), (11, _), (50, _), (10, _), (9, _), (8, _), (36, _), (7, _), (31, _), (26, _), (6, _), (3, _), (0, _), (1, _), (2, _)] ⟨rfl, rfl, rfl, rfl, rfl, rfl, rfl, rfl, rfl, rfl, rfl, rfl, rfl, rfl, rfl, rfl, rfl, rfl, rfl, rfl, rfl, rfl, rfl, rfl, rfl, rfl, rfl, trivial⟩ ?_
            refine AOps.rows hσ (B0 := 148000) rfl rfl rfl rfl (ci) (VAs.self rfl) rfl rfl rfl rfl rfl rfl ?_
            apply AOps.norm
            ·
             repeat' (first | exact jq0 rfl | apply jq1 rfl | exact jq2 rfl | exact jq9 rfl | apply jq3 rfl | exact jq4 rfl | apply jq5 rfl | exact jq6 rfl | exact jq7 rfl | exact jq8)
            refine jst hσ rfl rfl rfl rfl rfl ?_
            refine jst hσ rfl rfl rfl rfl rfl ?_
            refine jst hσ rfl rfl rfl rfl rfl ?_
            refine jst hσ rfl rfl rfl rfl rfl ?_
            refine AOps.forget [(150, _), (149, _), (148, _), (135, _), (19, _), (130, _), (18, _), (17, _), (16, _), (15, _), (14, _), (13, _), (12, _), (11, _), (50, _), (10, _), (9, _), (8, _), (36, _), (7, _), (31, _), (26, _), (6, _), (3, _), (0, _), (1, _), (2, _)] ⟨rfl, rfl, rfl, rfl, rfl, rfl, rfl, rfl, rfl, rfl, rfl, rfl, rfl, rfl, rfl, rfl, rfl, rfl, rfl, rfl, rfl, rfl, rfl, rfl, rfl, rfl, rfl, trivial⟩ ?_
            refine AOps.heap (HS.alloc hσ rfl rfl rfl rfl rfl) rfl ?_
            apply AOps.norm
            ·
             repeat' (first | exact jq0 rfl | apply jq1 rfl | exact jq2 rfl | exact jq9 rfl | apply jq3 rfl | exact jq4 rfl | apply jq5 rfl | exact jq6 rfl | exact jq7 rfl | exact jq8)
            refine AOps.heap (HS.storeBox hσ rfl rfl rfl rfl rfl rfl rfl rfl rfl rfl rfl) rfl ?_
            apply AOps.norm
            ·
             repeat' (first | exact jq0 rfl | apply jq1 rfl | exact jq2 rfl | exact jq9 rfl | apply jq3 rfl | exact jq4 rfl | apply jq5 rfl | exact jq6 rfl | exact jq7 rfl | exact jq8)
            refine jst hσ rfl rfl rfl rfl rfl ?_
            refine jst hσ rfl rfl rfl rfl rfl ?_
            refine AOps.forget [(22, _), (21, _), (20, _), (135, _), (19, _), (130, _), (18, _), (17, _), (16, _), (15, _), (14, _), (13, _), (12, _), (11, _), (50, _), (10, _), (9, _), (8, _), (36, _), (7, _), (31, _), (26, _), (6, _), (3, _), (0, _), (1, _), (2, _)] ⟨rfl, rfl, rfl, rfl, rfl, rfl, rfl, rfl, rfl, rfl, rfl, rfl, rfl, rfl, rfl, rfl, rfl, rfl, rfl, rfl, rfl, rfl, rfl, rfl, rfl, rfl, rfl, trivial⟩ ?_
            refine AOps.nil ?_
            refine AWP.seq ?_
            refine jsr ?_
            refine jst hσ rfl rfl rfl rfl rfl ?_
            refine jst hσ rfl rfl rfl rfl rfl ?_
            refine AOps.lone hσ rfl rfl rfl rfl ((c36 (s := rs) (t := rs) h1 h2).plain (u := eB true) (by simp)) (.cons (.agg (.cons (.whole rfl (List.length_map _).symm) (.cons .d (.cons (.whole rfl (List.length_map _).symm) .nil)))) (.cons (.agg (VMs.self rfl)) .nil)) rfl rfl rfl rfl rfl (B0 := 154000) rfl ?_
            refine jst hσ rfl rfl rfl rfl rfl ?_
            refine jst hσ rfl rfl rfl rfl rfl ?_
            refine AOps.forget [(155, _), (22, _), (21, _), (20, _), (135, _), (19, _), (130, _), (18, _), (17, _), (16, _), (15, _), (14, _), (13, _), (12, _), (11, _), (50, _), (10, _), (9, _), (8, _), (36, _), (7, _), (31, _), (26, _), (6, _), (3, _), (0, _), (1, _), (2, _)] ⟨rfl, rfl, rfl, rfl, rfl, rfl, rfl, rfl, rfl, rfl, rfl, rfl, rfl, rfl, rfl, rfl, rfl, rfl, rfl, rfl, rfl, rfl, rfl, rfl, rfl, rfl, rfl, rfl, trivial⟩ ?_
            refine AOps.live rfl rfl rfl rfl rfl ?_
            refine jst hσ rfl rfl rfl rfl rfl ?_
            refine AOps.forget [(156, _), (155, _), (22, _), (20, _), (135, _), (19, _), (130, _), (18, _), (17, _), (16, _), (15, _), (14, _), (13, _), (12, _), (11, _), (50, _), (10, _), (9, _), (8, _), (36, _), (7, _), (31, _), (26, _), (6, _), (3, _), (0, _), (1, _), (2, _)] ⟨rfl, rfl, rfl, rfl, rfl, rfl, rfl, rfl, rfl, rfl, rfl, rfl, rfl, rfl, rfl, rfl, rfl, rfl, rfl, rfl, rfl, rfl, rfl, rfl, rfl, rfl, rfl, rfl, trivial⟩ ?_
            refine AOps.live rfl rfl rfl rfl rfl ?_
            refine jst hσ rfl rfl rfl rfl rfl ?_
            refine AOps.live rfl rfl rfl rfl rfl ?_
            refine AOps.lone hσ rfl rfl rfl rfl ((c37 (xs := rp) (ys := rp) h1 h2).plain (u := eB true) (by simp)) (.cons (.c (.whole rfl (List.length_map _).symm)) (.cons (.c .d) .nil)) rfl rfl rfl rfl rfl (B0 := 159000) rfl ?_
            refine AOps.forget [(158, _), (155, _), (22, _), (20, _), (135, _), (19, _), (130, _), (18, _), (17, _), (16, _), (15, _), (14, _), (13, _), (12, _), (11, _), (50, _), (10, _), (9, _), (8, _), (36, _), (7, _), (31, _), (26, _), (6, _), (3, _), (0, _), (1, _), (2, _)] ⟨rfl, rfl, rfl, rfl, rfl, rfl, rfl, rfl, rfl, rfl, rfl, rfl, rfl, rfl, rfl, rfl, rfl, rfl, rfl, rfl, rfl, rfl, rfl, rfl, rfl, rfl, rfl, rfl, trivial⟩ ?_
            refine AOps.live rfl rfl rfl rfl rfl ?_
            refine jst hσ rfl rfl rfl rfl rfl ?_
            refine AOps.step (Val.pickN hσ rfl rfl rfl rfl rfl) rfl rfl rfl ?_
            refine jst hσ rfl rfl rfl rfl rfl ?_
            refine AOps.forget [(161, _), (22, _), (20, _), (135, _), (19, _), (130, _), (18, _), (17, _), (16, _), (15, _), (14, _), (13, _), (12, _), (11, _), (50, _), (10, _), (9, _), (8, _), (36, _), (7, _), (31, _), (26, _), (6, _), (3, _), (0, _), (1, _), (2, _)] ⟨rfl, rfl, rfl, rfl, rfl, rfl, rfl, rfl, rfl, rfl, rfl, rfl, rfl, rfl, rfl, rfl, rfl, rfl, rfl, rfl, rfl, rfl, rfl, rfl, rfl, rfl, rfl, trivial⟩ ?_
            refine AOps.live rfl rfl rfl rfl rfl ?_
            refine jst hσ rfl rfl rfl rfl rfl ?_
            refine AOps.forget [(162, _), (161, _), (20, _), (135, _), (19, _), (130, _), (18, _), (17, _), (16, _), (15, _), (14, _), (13, _), (12, _), (11, _), (50, _), (10, _), (9, _), (8, _), (36, _), (7, _), (31, _), (26, _), (6, _), (3, _), (0, _), (1, _), (2, _)] ⟨rfl, rfl, rfl, rfl, rfl, rfl, rfl, rfl, rfl, rfl, rfl, rfl, rfl, rfl, rfl, rfl, rfl, rfl, rfl, rfl, rfl, rfl, rfl, rfl, rfl, rfl, rfl, trivial⟩ ?_
            refine AOps.live rfl rfl rfl rfl rfl ?_
            refine jst hσ rfl rfl rfl rfl rfl ?_
            refine AOps.live rfl rfl rfl rfl rfl ?_
            refine jst hσ rfl rfl rfl rfl rfl ?_
            refine AOps.step (Val.pickN hσ rfl rfl rfl rfl rfl) rfl rfl rfl ?_
            refine AOps.forget [(165, _), (20, _), (135, _), (19, _), (130, _), (18, _), (17, _), (16, _), (15, _), (14, _), (13, _), (12, _), (11, _), (50, _), (10, _), (9, _), (8, _), (36, _), (7, _), (31, _), (26, _), (6, _), (3, _), (0, _), (1, _), (2, _)] ⟨rfl, rfl, rfl, rfl, rfl, rfl, rfl, rfl, rfl, rfl, rfl, rfl, rfl, rfl, rfl, rfl, rfl, rfl, rfl, rfl, rfl, rfl, rfl, rfl, rfl, rfl, trivial⟩ ?_
            refine AOps.nil ?_
            refine AWP.cond hσ rfl rfl (fun hc165 => ?_) (fun hc165 => ?_)
            ·
             skip
             exact absurd (show false = true from hc165) (by decide)
            ·
             skip
             refine AWP.skip ?_
             refine jsr ?_
             refine jst hσ rfl rfl rfl rfl rfl ?_
             refine AOps.nil ?_
             refine jsr ?_
             refine jst hσ rfl rfl rfl rfl rfl ?_
             refine jst hσ rfl rfl rfl rfl rfl ?_
             refine AOps.forget [(167, _), (166, _), (19, _), (20, _), (135, _), (130, _), (18, _), (17, _), (16, _), (15, _), (14, _), (13, _), (12, _), (11, _), (50, _), (10, _), (9, _), (8, _), (36, _), (7, _), (31, _), (26, _), (6, _), (3, _), (0, _), (1, _), (2, _)] ⟨rfl, rfl, rfl, rfl, rfl, rfl, rfl, rfl, rfl, rfl, rfl, rfl, rfl, rfl, rfl, rfl, rfl, rfl, rfl, rfl, rfl, rfl, rfl, rfl, rfl, rfl, rfl, trivial⟩ ?_
             refine AOps.lone hσ rfl rfl rfl rfl (c1008 (s := rs) (k := 1) h1 h2 (by decide) (by omega)) (.cons (.agg (.cons (.whole rfl (by rw [List.length_map, markL_length])) (.cons .d (.cons (.whole rfl (by rw [List.length_map, markL_length])) .nil)))) (.cons (.c .d) .nil)) rfl rfl rfl rfl rfl (B0 := 169000) rfl ?_
             refine jst hσ rfl rfl rfl rfl rfl ?_
             refine AOps.forget [(19, _), (20, _), (135, _), (130, _), (18, _), (17, _), (16, _), (15, _), (14, _), (13, _), (12, _), (11, _), (50, _), (10, _), (9, _), (8, _), (36, _), (7, _), (31, _), (26, _), (6, _), (3, _), (0, _), (1, _), (2, _)] ⟨rfl, rfl, rfl, rfl, rfl, rfl, rfl, rfl, rfl, rfl, rfl, rfl, rfl, rfl, rfl, rfl, rfl, rfl, rfl, rfl, rfl, rfl, rfl, rfl, rfl, trivial⟩ ?_
             refine AOps.nil ?_
             refine AWP.seq ?_
             refine jsr ?_
             refine jst hσ rfl rfl rfl rfl rfl ?_
             refine jst hσ rfl rfl rfl rfl rfl ?_
             refine AOps.nil ?_
             refine AWP.cond hσ rfl rfl (fun hc170 => ?_) (fun hc170 => ?_)
             ·
              skip
              exact absurd (of_decide_eq_true hc170) (by omega)
             ·
              skip
              refine AWP.skip ?_
              refine jsr ?_
              refine jst hσ rfl rfl rfl rfl rfl ?_
              refine jst hσ rfl rfl rfl rfl rfl ?_
              refine AOps.forget [(172, _), (171, _), (169, _), (19, _), (20, _), (135, _), (130, _), (18, _), (17, _), (16, _), (15, _), (14, _), (13, _), (12, _), (11, _), (50, _), (10, _), (9, _), (8, _), (36, _), (7, _), (31, _), (26, _), (6, _), (3, _), (0, _), (1, _), (2, _)] ⟨rfl, rfl, rfl, rfl, rfl, rfl, rfl, rfl, rfl, rfl, rfl, rfl, rfl, rfl, rfl, rfl, rfl, rfl, rfl, rfl, rfl, rfl, rfl, rfl, rfl, rfl, rfl, rfl, trivial⟩ ?_
              refine AOps.lone hσ rfl rfl rfl rfl (c1009 (ts := rp) (k := 1 + cnt nT rs.facts + rs.goal.xs.length) h1 h2 (by omega) (by omega)) (.cons (.c (.whole rfl (by rw [List.length_map, markL_length]))) (.cons (.c .d) .nil)) rfl rfl rfl rfl rfl (B0 := 174000) rfl ?_
              refine jst hσ rfl rfl rfl rfl rfl ?_
              refine AOps.forget [(19, _), (169, _), (20, _), (135, _), (130, _), (18, _), (17, _), (16, _), (15, _), (14, _), (13, _), (12, _), (11, _), (50, _), (10, _), (9, _), (8, _), (36, _), (7, _), (31, _), (26, _), (6, _), (3, _), (0, _), (1, _), (2, _)] ⟨rfl, rfl, rfl, rfl, rfl, rfl, rfl, rfl, rfl, rfl, rfl, rfl, rfl, rfl, rfl, rfl, rfl, rfl, rfl, rfl, rfl, rfl, rfl, rfl, rfl, rfl, trivial⟩ ?_
              refine AOps.nil ?_
              refine AWP.seq ?_
              refine jsr ?_
              refine jst hσ rfl rfl rfl rfl rfl ?_
              refine jst hσ rfl rfl rfl rfl rfl ?_
              refine AOps.nil ?_
              refine AWP.cond hσ rfl rfl (fun hc175 => ?_) (fun hc175 => ?_)
              ·
               skip
               exact absurd (of_decide_eq_true hc175) (by omega)
              ·
               skip
               refine AWP.skip ?_
               refine AWP.seq ?_
               refine jsr ?_
               refine jst hσ rfl rfl rfl rfl rfl ?_
               refine jst hσ rfl rfl rfl rfl rfl ?_
               refine jst hσ rfl rfl rfl rfl rfl ?_
               refine AOps.forget [(178, _), (174, _), (19, _), (169, _), (20, _), (135, _), (130, _), (18, _), (17, _), (16, _), (15, _), (14, _), (13, _), (12, _), (11, _), (50, _), (10, _), (9, _), (8, _), (36, _), (7, _), (31, _), (26, _), (6, _), (3, _), (0, _), (1, _), (2, _)] ⟨rfl, rfl, rfl, rfl, rfl, rfl, rfl, rfl, rfl, rfl, rfl, rfl, rfl, rfl, rfl, rfl, rfl, rfl, rfl, rfl, rfl, rfl, rfl, rfl, rfl, rfl, rfl, rfl, trivial⟩ ?_
               refine AOps.nil ?_
               refine AWP.cond hσ rfl rfl (fun hc178 => ?_) (fun hc178 => ?_)
               ·
                skip
                exact absurd hc178 (by simp)
               ·
                skip
                refine AWP.skip ?_
                refine jsr ?_
                refine jst hσ rfl rfl rfl rfl rfl ?_
                refine AOps.nil ?_
                refine AWP.ret ?_
                refine ⟨.inl rfl, _, Ent.refl, _, rfl, ?_⟩
                rfl
theorem c1001n {L : Nat} (h1 : 4096 ≤ L) (h2 : L ≤ 1073741824) {s : Sq} {p : List Nd} {extra : List Tm} (cs : MC Try.prog L 22 [aSq s, ands p, atms extra] [] (Plain (.tup [aSq (⟨[], ⟨0, []⟩⟩ : Sq), ands ([] : List Nd), eB false]))) (ci : MC Try.prog L 24 [aSq s, ands p, atms extra] [] (Rows (.tup [.agg [.d .nils, .d (.int .i64 0), .d .nils], .c (.d .nils), eB false]) [])) (hz1 : 0 ≤ szr 1048576 s.size) (hz2 : 0 ≤ szr (szr 1048576 s.size) (Al.szs Nd.size p)) (hz3 : 0 ≤ szr (szr (szr 1048576 s.size) (Al.szs Nd.size p)) (Al.szs Tm.size extra)) (hcp : 1 + cnt nT s.facts + s.goal.xs.length + cnt nN p + cnt nT extra ≤ (1073741824 : Int)) : MC Try.prog L 4 [aSq s, ands p, atms extra] [] (Plain (eB true)) := by
 refine MC.alone ?_ rfl
 have hσ := SGok (nt := 179) h1 (Nat.le_trans h2 (by decide))
 refine MC.body hσ Try.func4 (by kernel_rfl) rfl rfl (Nat.le_of_ble_eq_true rfl) (fun hF => ?_)
 have hbig : L ≤ 9223372036854775807 := Nat.le_trans h2 (by decide)
 refine jsr ?_
 refine AOps.heap (HS.box hσ rfl rfl rfl rfl rfl rfl rfl) rfl ?_
 apply AOps.norm
 ·
  repeat' (first | exact jq0 rfl | apply jq1 rfl | exact jq2 rfl | exact jq9 rfl | apply jq3 rfl | exact jq4 rfl | apply jq5 rfl | exact jq6 rfl | exact jq7 rfl | exact jq8)
 refine jst hσ rfl rfl rfl rfl rfl ?_
 refine AOps.nil ?_
 refine jsr ?_
 refine jst hσ rfl rfl rfl rfl rfl ?_
 refine AOps.nil ?_
 refine jsr ?_
 refine jst hσ rfl rfl rfl rfl rfl ?_
 refine jst hσ rfl rfl rfl rfl rfl ?_
 refine AOps.lone hσ rfl rfl rfl rfl (c29 (s := s) (left := 1048576) h1 hbig (by decide) (by decide)) (VAs.self rfl) rfl rfl rfl rfl rfl (B0 := 26000) rfl ?_
 refine jst hσ rfl rfl rfl rfl rfl ?_
 refine AOps.forget [(7, _), (6, _), (3, _), (0, _), (1, _), (2, _)] ⟨rfl, rfl, rfl, rfl, rfl, rfl, trivial⟩ ?_
 refine AOps.nil ?_
 refine AWP.seq ?_
 refine jsr ?_
 refine jst hσ rfl rfl rfl rfl rfl ?_
 refine jst hσ rfl rfl rfl rfl rfl ?_
 refine AOps.nil ?_
 refine AWP.cond hσ rfl rfl (fun hc27 => ?_) (fun hc27 => ?_)
 ·
  skip
  exact absurd (of_decide_eq_true hc27) (by omega)
 ·
  skip
  refine AWP.skip ?_
  refine jsr ?_
  refine jst hσ rfl rfl rfl rfl rfl ?_
  refine jst hσ rfl rfl rfl rfl rfl ?_
  refine AOps.forget [(29, _), (28, _), (26, _), (7, _), (6, _), (3, _), (0, _), (1, _), (2, _)] ⟨rfl, rfl, rfl, rfl, rfl, rfl, rfl, rfl, rfl, trivial⟩ ?_
  have hle0 := szr_le (left := 1048576) (by decide) s.size
  refine AOps.lone hσ rfl rfl rfl rfl (c30 (ts := p) (left := szr 1048576 s.size) h1 hbig hz1 (by omega)) (VAs.self rfl) rfl rfl rfl rfl rfl (B0 := 31000) rfl ?_
  refine jst hσ rfl rfl rfl rfl rfl ?_
  refine AOps.forget [(7, _), (26, _), (6, _), (3, _), (0, _), (1, _), (2, _)] ⟨rfl, rfl, rfl, rfl, rfl, rfl, rfl, trivial⟩ ?_
  refine AOps.nil ?_
  refine AWP.seq ?_
  refine jsr ?_
  refine jst hσ rfl rfl rfl rfl rfl ?_
  refine jst hσ rfl rfl rfl rfl rfl ?_
  refine AOps.nil ?_
  refine AWP.cond hσ rfl rfl (fun hc32 => ?_) (fun hc32 => ?_)
  ·
   skip
   exact absurd (of_decide_eq_true hc32) (by omega)
  ·
   skip
   refine AWP.skip ?_
   refine jsr ?_
   refine jst hσ rfl rfl rfl rfl rfl ?_
   refine jst hσ rfl rfl rfl rfl rfl ?_
   refine AOps.forget [(34, _), (33, _), (31, _), (7, _), (26, _), (6, _), (3, _), (0, _), (1, _), (2, _)] ⟨rfl, rfl, rfl, rfl, rfl, rfl, rfl, rfl, rfl, rfl, trivial⟩ ?_
   have hle0 := szr_le (left := 1048576) (by decide) s.size
   have hle1 := szr_le (left := szr 1048576 s.size) hz1 (Al.szs Nd.size p)
   refine AOps.lone hσ rfl rfl rfl rfl (c52 (ts := extra) (left := szr (szr 1048576 s.size) (Al.szs Nd.size p)) h1 hbig hz2 (by omega)) (VAs.self rfl) rfl rfl rfl rfl rfl (B0 := 36000) rfl ?_
   refine jst hσ rfl rfl rfl rfl rfl ?_
   refine AOps.forget [(7, _), (31, _), (26, _), (6, _), (3, _), (0, _), (1, _), (2, _)] ⟨rfl, rfl, rfl, rfl, rfl, rfl, rfl, rfl, trivial⟩ ?_
   refine AOps.nil ?_
   refine AWP.seq ?_
   refine jsr ?_
   refine jst hσ rfl rfl rfl rfl rfl ?_
   refine jst hσ rfl rfl rfl rfl rfl ?_
   refine AOps.nil ?_
   refine AWP.cond hσ rfl rfl (fun hc37 => ?_) (fun hc37 => ?_)
   ·
    skip
    exact absurd (of_decide_eq_true hc37) (by omega)
   ·
    skip
    refine AWP.skip ?_
    refine jsr ?_
    refine jst hσ rfl rfl rfl rfl rfl ?_
    refine AOps.forget [(39, _), (36, _), (7, _), (31, _), (26, _), (6, _), (3, _), (0, _), (1, _), (2, _)] ⟨rfl, rfl, rfl, rfl, rfl, rfl, rfl, rfl, rfl, rfl, trivial⟩ ?_
    refine AOps.plainD hσ rfl rfl rfl rfl (c32d (s := s) h1 h2) (VAs.self rfl) rfl rfl rfl rfl (B0 := 41000) rfl rfl ?_
    refine jst hσ rfl rfl rfl rfl rfl ?_
    refine AOps.forget [(41, _), (40, _), (36, _), (7, _), (31, _), (26, _), (6, _), (3, _), (0, _), (1, _), (2, _)] ⟨rfl, rfl, rfl, rfl, rfl, rfl, rfl, rfl, rfl, rfl, rfl, trivial⟩ ?_
    refine AOps.plainD hσ rfl rfl rfl rfl (c33d (p := p) h1 h2) (VAs.self rfl) rfl rfl rfl rfl (B0 := 43000) rfl rfl ?_
    refine jst hσ rfl rfl rfl rfl rfl ?_
    refine AOps.forget [(43, _), (42, _), (40, _), (36, _), (7, _), (31, _), (26, _), (6, _), (3, _), (0, _), (1, _), (2, _)] ⟨rfl, rfl, rfl, rfl, rfl, rfl, rfl, rfl, rfl, rfl, rfl, rfl, trivial⟩ ?_
    refine AOps.plainD hσ rfl rfl rfl rfl (c59d (ts := extra) h1 h2) (VAs.self rfl) rfl rfl rfl rfl (B0 := 45000) rfl rfl ?_
    refine AOps.forget [(44, _), (42, _), (40, _), (36, _), (7, _), (31, _), (26, _), (6, _), (3, _), (0, _), (1, _), (2, _)] ⟨rfl, rfl, rfl, rfl, rfl, rfl, rfl, rfl, rfl, rfl, rfl, rfl, trivial⟩ ?_
    refine AOps.plainD hσ rfl rfl rfl rfl (cs) (VAs.self rfl) rfl rfl rfl rfl (B0 := 46000) rfl rfl ?_
    refine jst hσ rfl rfl rfl rfl rfl ?_
    refine jst hσ rfl rfl rfl rfl rfl ?_
    refine jst hσ rfl rfl rfl rfl rfl ?_
    refine jst hσ rfl rfl rfl rfl rfl ?_
    refine AOps.forget [(48, _), (47, _), (46, _), (36, _), (7, _), (31, _), (26, _), (6, _), (3, _), (0, _), (1, _), (2, _)] ⟨rfl, rfl, rfl, rfl, rfl, rfl, rfl, rfl, rfl, rfl, rfl, rfl, trivial⟩ ?_
    refine AOps.heap (HS.alloc hσ rfl rfl rfl rfl rfl) rfl ?_
    apply AOps.norm
    ·
     repeat' (first | exact jq0 rfl | apply jq1 rfl | exact jq2 rfl | exact jq9 rfl | apply jq3 rfl | exact jq4 rfl | apply jq5 rfl | exact jq6 rfl | exact jq7 rfl | exact jq8)
    refine AOps.heap (HS.storeBox hσ rfl rfl rfl rfl rfl rfl rfl rfl rfl rfl rfl) rfl ?_
    apply AOps.norm
    ·
     repeat' (first | exact jq0 rfl | apply jq1 rfl | exact jq2 rfl | exact jq9 rfl | apply jq3 rfl | exact jq4 rfl | apply jq5 rfl | exact jq6 rfl | exact jq7 rfl | exact jq8)
    refine jst hσ rfl rfl rfl rfl rfl ?_
    refine jst hσ rfl rfl rfl rfl rfl ?_
    refine AOps.forget [(10, _), (9, _), (8, _), (36, _), (7, _), (31, _), (26, _), (6, _), (3, _), (0, _), (1, _), (2, _)] ⟨rfl, rfl, rfl, rfl, rfl, rfl, rfl, rfl, rfl, rfl, rfl, rfl, trivial⟩ ?_
    refine AOps.nil ?_
    refine jsr ?_
    refine jst hσ rfl rfl rfl rfl rfl ?_
    refine AOps.rows hσ (B0 := 51000) rfl rfl rfl rfl (c32 (s := s) h1 h2) (VAs.self rfl) rfl rfl rfl rfl rfl rfl ?_
    apply AOps.norm
    ·
     repeat' (first | exact jq0 rfl | apply jq1 rfl | exact jq2 rfl | exact jq9 rfl | apply jq3 rfl | exact jq4 rfl | apply jq5 rfl | exact jq6 rfl | exact jq7 rfl | exact jq8)
    refine AOps.forget [(50, _), (10, _), (9, _), (8, _), (36, _), (7, _), (31, _), (26, _), (6, _), (3, _), (0, _), (1, _), (2, _)] ⟨rfl, rfl, rfl, rfl, rfl, rfl, rfl, rfl, rfl, rfl, rfl, rfl, rfl, trivial⟩ ?_
    refine AOps.heap (HS.alloc hσ rfl rfl rfl rfl rfl) rfl ?_
    apply AOps.norm
    ·
     repeat' (first | exact jq0 rfl | apply jq1 rfl | exact jq2 rfl | exact jq9 rfl | apply jq3 rfl | exact jq4 rfl | apply jq5 rfl | exact jq6 rfl | exact jq7 rfl | exact jq8)
    refine AOps.heap (HS.storeBox hσ rfl rfl rfl rfl rfl rfl rfl rfl rfl rfl rfl) rfl ?_
    apply AOps.norm
    ·
     repeat' (first | exact jq0 rfl | apply jq1 rfl | exact jq2 rfl | exact jq9 rfl | apply jq3 rfl | exact jq4 rfl | apply jq5 rfl | exact jq6 rfl | exact jq7 rfl | exact jq8)
    refine AOps.nil ?_
    refine jsr ?_
    refine jst hσ rfl rfl rfl rfl rfl ?_
    refine AOps.rows hσ (B0 := 53000) rfl rfl rfl rfl (c33 (ts := p) h1 h2) (VAs.self rfl) rfl rfl rfl rfl rfl rfl ?_
    apply AOps.norm
    ·
     repeat' (first | exact jq0 rfl | apply jq1 rfl | exact jq2 rfl | exact jq9 rfl | apply jq3 rfl | exact jq4 rfl | apply jq5 rfl | exact jq6 rfl | exact jq7 rfl | exact jq8)
    refine jst hσ rfl rfl rfl rfl rfl ?_
    refine AOps.forget [(12, _), (11, _), (50, _), (10, _), (9, _), (8, _), (36, _), (7, _), (31, _), (26, _), (6, _), (3, _), (0, _), (1, _), (2, _)] ⟨rfl, rfl, rfl, rfl, rfl, rfl, rfl, rfl, rfl, rfl, rfl, rfl, rfl, rfl, rfl, trivial⟩ ?_
    refine AOps.nil ?_
    refine jsr ?_
    refine jst hσ rfl rfl rfl rfl rfl ?_
    refine AOps.rows hσ (B0 := 55000) rfl rfl rfl rfl (c59 (ts := extra) h1 h2) (VAs.self rfl) rfl rfl rfl rfl rfl rfl ?_
    apply AOps.norm
    ·
     repeat' (first | exact jq0 rfl | apply jq1 rfl | exact jq2 rfl | exact jq9 rfl | apply jq3 rfl | exact jq4 rfl | apply jq5 rfl | exact jq6 rfl | exact jq7 rfl | exact jq8)
    refine jst hσ rfl rfl rfl rfl rfl ?_
    refine AOps.forget [(13, _), (12, _), (11, _), (50, _), (10, _), (9, _), (8, _), (36, _), (7, _), (31, _), (26, _), (6, _), (3, _), (0, _), (1, _), (2, _)] ⟨rfl, rfl, rfl, rfl, rfl, rfl, rfl, rfl, rfl, rfl, rfl, rfl, rfl, rfl, rfl, rfl, trivial⟩ ?_
    refine AOps.nil ?_
    refine jsr ?_
    refine jst hσ rfl rfl rfl rfl rfl ?_
    refine jst hσ rfl rfl rfl rfl rfl ?_
    refine jst hσ rfl rfl rfl rfl rfl ?_
    refine AOps.rows hσ (B0 := 60000) rfl rfl rfl rfl (ci) (.cons (.agg (.cons (.whole rfl (List.length_map _).symm) (.cons .d (.cons (.whole rfl (List.length_map _).symm) .nil)))) (.cons (.c (.whole rfl (List.length_map _).symm)) (.cons (.c (.whole rfl (List.length_map _).symm)) .nil))) rfl rfl rfl rfl rfl rfl ?_
    apply AOps.norm
    ·
     repeat' (first | exact jq0 rfl | apply jq1 rfl | exact jq2 rfl | exact jq9 rfl | apply jq3 rfl | exact jq4 rfl | apply jq5 rfl | exact jq6 rfl | exact jq7 rfl | exact jq8)
    refine jst hσ rfl rfl rfl rfl rfl ?_
    refine jst hσ rfl rfl rfl rfl rfl ?_
    refine jst hσ rfl rfl rfl rfl rfl ?_
    refine jst hσ rfl rfl rfl rfl rfl ?_
    refine AOps.forget [(62, _), (61, _), (60, _), (13, _), (12, _), (11, _), (50, _), (10, _), (9, _), (8, _), (36, _), (7, _), (31, _), (26, _), (6, _), (3, _), (0, _), (1, _), (2, _)] ⟨rfl, rfl, rfl, rfl, rfl, rfl, rfl, rfl, rfl, rfl, rfl, rfl, rfl, rfl, rfl, rfl, rfl, rfl, rfl, trivial⟩ ?_
    refine AOps.heap (HS.alloc hσ rfl rfl rfl rfl rfl) rfl ?_
    apply AOps.norm
    ·
     repeat' (first | exact jq0 rfl | apply jq1 rfl | exact jq2 rfl | exact jq9 rfl | apply jq3 rfl | exact jq4 rfl | apply jq5 rfl | exact jq6 rfl | exact jq7 rfl | exact jq8)
    refine AOps.heap (HS.storeBox hσ rfl rfl rfl rfl rfl rfl rfl rfl rfl rfl rfl) rfl ?_
    apply AOps.norm
    ·
     repeat' (first | exact jq0 rfl | apply jq1 rfl | exact jq2 rfl | exact jq9 rfl | apply jq3 rfl | exact jq4 rfl | apply jq5 rfl | exact jq6 rfl | exact jq7 rfl | exact jq8)
    refine jst hσ rfl rfl rfl rfl rfl ?_
    refine jst hσ rfl rfl rfl rfl rfl ?_
    refine AOps.forget [(16, _), (15, _), (14, _), (13, _), (12, _), (11, _), (50, _), (10, _), (9, _), (8, _), (36, _), (7, _), (31, _), (26, _), (6, _), (3, _), (0, _), (1, _), (2, _)] ⟨rfl, rfl, rfl, rfl, rfl, rfl, rfl, rfl, rfl, rfl, rfl, rfl, rfl, rfl, rfl, rfl, rfl, rfl, rfl, trivial⟩ ?_
    refine AOps.nil ?_
    refine AWP.seq ?_
    refine jsr ?_
    refine jst hσ rfl rfl rfl rfl rfl ?_
    refine jst hσ rfl rfl rfl rfl rfl ?_
    refine AOps.lone hσ rfl rfl rfl rfl ((c36 (s := (⟨[], ⟨0, []⟩⟩ : Sq)) (t := (⟨[], ⟨0, []⟩⟩ : Sq)) h1 h2).plain (u := eB true) (by simp)) (.cons (.agg (.cons .nils (.cons .d (.cons .nils .nil)))) (.cons (.agg (VMs.self rfl)) .nil)) rfl rfl rfl rfl rfl (B0 := 66000) rfl ?_
    refine jst hσ rfl rfl rfl rfl rfl ?_
    refine jst hσ rfl rfl rfl rfl rfl ?_
    refine AOps.forget [(67, _), (16, _), (15, _), (14, _), (13, _), (12, _), (11, _), (50, _), (10, _), (9, _), (8, _), (36, _), (7, _), (31, _), (26, _), (6, _), (3, _), (0, _), (1, _), (2, _)] ⟨rfl, rfl, rfl, rfl, rfl, rfl, rfl, rfl, rfl, rfl, rfl, rfl, rfl, rfl, rfl, rfl, rfl, rfl, rfl, rfl, trivial⟩ ?_
    refine AOps.live rfl rfl rfl rfl rfl ?_
    refine jst hσ rfl rfl rfl rfl rfl ?_
    refine AOps.live rfl rfl rfl rfl rfl ?_
    refine jst hσ rfl rfl rfl rfl rfl ?_
    refine AOps.live rfl rfl rfl rfl rfl ?_
    refine AOps.lone hσ rfl rfl rfl rfl ((c37 (xs := ([] : List Nd)) (ys := ([] : List Nd)) h1 h2).plain (u := eB true) (by simp)) (.cons (.c .nils) (.cons (.c .d) .nil)) rfl rfl rfl rfl rfl (B0 := 71000) rfl ?_
    refine AOps.forget [(70, _), (67, _), (16, _), (15, _), (14, _), (13, _), (12, _), (11, _), (50, _), (10, _), (9, _), (8, _), (36, _), (7, _), (31, _), (26, _), (6, _), (3, _), (0, _), (1, _), (2, _)] ⟨rfl, rfl, rfl, rfl, rfl, rfl, rfl, rfl, rfl, rfl, rfl, rfl, rfl, rfl, rfl, rfl, rfl, rfl, rfl, rfl, rfl, trivial⟩ ?_
    refine AOps.live rfl rfl rfl rfl rfl ?_
    refine jst hσ rfl rfl rfl rfl rfl ?_
    refine AOps.step (Val.pickN hσ rfl rfl rfl rfl rfl) rfl rfl rfl ?_
    refine jst hσ rfl rfl rfl rfl rfl ?_
    refine AOps.forget [(73, _), (16, _), (15, _), (14, _), (13, _), (12, _), (11, _), (50, _), (10, _), (9, _), (8, _), (36, _), (7, _), (31, _), (26, _), (6, _), (3, _), (0, _), (1, _), (2, _)] ⟨rfl, rfl, rfl, rfl, rfl, rfl, rfl, rfl, rfl, rfl, rfl, rfl, rfl, rfl, rfl, rfl, rfl, rfl, rfl, rfl, trivial⟩ ?_
    refine AOps.live rfl rfl rfl rfl rfl ?_
    refine jst hσ rfl rfl rfl rfl rfl ?_
    refine AOps.live rfl rfl rfl rfl rfl ?_
    refine jst hσ rfl rfl rfl rfl rfl ?_
    refine AOps.live rfl rfl rfl rfl rfl ?_
    refine jst hσ rfl rfl rfl rfl rfl ?_
    refine AOps.step (Val.pickN hσ rfl rfl rfl rfl rfl) rfl rfl rfl ?_
    refine AOps.forget [(77, _), (16, _), (15, _), (14, _), (13, _), (12, _), (11, _), (50, _), (10, _), (9, _), (8, _), (36, _), (7, _), (31, _), (26, _), (6, _), (3, _), (0, _), (1, _), (2, _)] ⟨rfl, rfl, rfl, rfl, rfl, rfl, rfl, rfl, rfl, rfl, rfl, rfl, rfl, rfl, rfl, rfl, rfl, rfl, rfl, rfl, trivial⟩ ?_
    refine AOps.nil ?_
    refine AWP.cond hσ rfl rfl (fun hc77 => ?_) (fun hc77 => ?_)
    ·
     skip
     exact absurd (show false = true from hc77) (by decide)
    ·
     skip
     refine AWP.skip ?_
     refine AWP.seq ?_
     refine AWP.seq ?_
     refine AWP.forget [(16, _), (15, _), (14, _), (13, _), (12, _), (11, _), (50, _), (10, _), (9, _), (8, _), (36, _), (7, _), (31, _), (26, _), (6, _), (3, _), (0, _), (1, _), (2, _)] ⟨rfl, rfl, rfl, rfl, rfl, rfl, rfl, rfl, rfl, rfl, rfl, rfl, rfl, rfl, rfl, rfl, rfl, rfl, rfl, trivial⟩ ?_
     refine AWP.drawR hσ _ [_, _, _, _, _] [⟨[], 0, 1, none⟩, ⟨[], 0, 0, none⟩, ⟨[1], 0, 0, some 0⟩, ⟨[0, 1, 2], 0, 0, some 1⟩, ⟨[0, 1, 2, 3], 2, 2, none⟩] [2, 3] [_, _, _] rfl rfl (by decide) (by decide) (by kernel_rfl) (And.intro (And.intro (Val.of hσ rfl rfl) (Val.of hσ rfl rfl)) (And.intro (Val.of hσ rfl rfl) (And.intro (Eff.plainD hσ (B0 := 81000) rfl rfl rfl rfl (c32d (s := s) h1 h2) (VAs.self rfl) rfl rfl rfl rfl rfl) (And.intro (Eff.lone hσ (B0 := 82000) rfl rfl rfl rfl ((c36 (s := s) (t := s) h1 h2).plain (u := eB true) (by simp)) (.cons (.agg (.cons (.whole rfl (List.length_map _).symm) (.cons .d (.cons (.whole rfl (List.length_map _).symm) .nil)))) (.cons (.agg (VMs.self rfl)) .nil)) rfl rfl rfl rfl rfl) (And.intro (Val.of hσ rfl rfl) trivial))))) ?_
     refine AWP.forget [(82, _), (16, _), (15, _), (14, _), (13, _), (12, _), (11, _), (50, _), (10, _), (9, _), (8, _), (36, _), (7, _), (31, _), (26, _), (6, _), (3, _), (0, _), (1, _), (2, _)] ⟨rfl, rfl, rfl, rfl, rfl, rfl, rfl, rfl, rfl, rfl, rfl, rfl, rfl, rfl, rfl, rfl, rfl, rfl, rfl, rfl, trivial⟩ ?_
     apply AWP.norm
     ·
      repeat' (first | exact jq0 rfl | apply jq1 rfl | exact jq2 rfl | exact jq9 rfl | apply jq3 rfl | exact jq4 rfl | apply jq5 rfl | exact jq6 rfl | exact jq7 rfl | exact jq8)
     refine AWP.cond hσ rfl rfl (fun hc82 => ?_) (fun hc82 => ?_)
     ·
      skip
      exact absurd (show false = true from hc82) (by decide)
     ·
      skip
      refine AWP.skip ?_
      refine AWP.seq ?_
      refine jsr ?_
      refine jst hσ rfl rfl rfl rfl rfl ?_
      refine jst hσ rfl rfl rfl rfl rfl ?_
      refine AOps.forget [(84, _), (83, _), (16, _), (15, _), (14, _), (13, _), (12, _), (11, _), (50, _), (10, _), (9, _), (8, _), (36, _), (7, _), (31, _), (26, _), (6, _), (3, _), (0, _), (1, _), (2, _)] ⟨rfl, rfl, rfl, rfl, rfl, rfl, rfl, rfl, rfl, rfl, rfl, rfl, rfl, rfl, rfl, rfl, rfl, rfl, rfl, rfl, rfl, trivial⟩ ?_
      refine AOps.plainD hσ rfl rfl rfl rfl (c33d (p := p) h1 h2) (VAs.self rfl) rfl rfl rfl rfl (B0 := 86000) rfl rfl ?_
      refine AOps.forget [(85, _), (83, _), (16, _), (15, _), (14, _), (13, _), (12, _), (11, _), (50, _), (10, _), (9, _), (8, _), (36, _), (7, _), (31, _), (26, _), (6, _), (3, _), (0, _), (1, _), (2, _)] ⟨rfl, rfl, rfl, rfl, rfl, rfl, rfl, rfl, rfl, rfl, rfl, rfl, rfl, rfl, rfl, rfl, rfl, rfl, rfl, rfl, rfl, trivial⟩ ?_
      refine AOps.lone hσ rfl rfl rfl rfl ((c37 (xs := p) (ys := p) h1 h2).plain (u := eB true) (by simp)) (.cons (.c (.whole rfl (List.length_map _).symm)) (.cons (.c .d) .nil)) rfl rfl rfl rfl rfl (B0 := 87000) rfl ?_
      refine jst hσ rfl rfl rfl rfl rfl ?_
      refine AOps.forget [(87, _), (16, _), (15, _), (14, _), (13, _), (12, _), (11, _), (50, _), (10, _), (9, _), (8, _), (36, _), (7, _), (31, _), (26, _), (6, _), (3, _), (0, _), (1, _), (2, _)] ⟨rfl, rfl, rfl, rfl, rfl, rfl, rfl, rfl, rfl, rfl, rfl, rfl, rfl, rfl, rfl, rfl, rfl, rfl, rfl, rfl, trivial⟩ ?_
      refine AOps.nil ?_
      refine AWP.cond hσ rfl rfl (fun hc87 => ?_) (fun hc87 => ?_)
      ·
       skip
       exact absurd (show false = true from hc87) (by decide)
      ·
       skip
       refine AWP.skip ?_
       refine AWP.seq ?_
       refine jsr ?_
       refine jst hσ rfl rfl rfl rfl rfl ?_
       refine jst hσ rfl rfl rfl rfl rfl ?_
       refine AOps.forget [(89, _), (88, _), (16, _), (15, _), (14, _), (13, _), (12, _), (11, _), (50, _), (10, _), (9, _), (8, _), (36, _), (7, _), (31, _), (26, _), (6, _), (3, _), (0, _), (1, _), (2, _)] ⟨rfl, rfl, rfl, rfl, rfl, rfl, rfl, rfl, rfl, rfl, rfl, rfl, rfl, rfl, rfl, rfl, rfl, rfl, rfl, rfl, rfl, trivial⟩ ?_
       refine AOps.plainD hσ rfl rfl rfl rfl (c59d (ts := extra) h1 h2) (VAs.self rfl) rfl rfl rfl rfl (B0 := 91000) rfl rfl ?_
       refine AOps.forget [(90, _), (88, _), (16, _), (15, _), (14, _), (13, _), (12, _), (11, _), (50, _), (10, _), (9, _), (8, _), (36, _), (7, _), (31, _), (26, _), (6, _), (3, _), (0, _), (1, _), (2, _)] ⟨rfl, rfl, rfl, rfl, rfl, rfl, rfl, rfl, rfl, rfl, rfl, rfl, rfl, rfl, rfl, rfl, rfl, rfl, rfl, rfl, rfl, trivial⟩ ?_
       refine AOps.lone hσ rfl rfl rfl rfl ((c35 (xs := extra) (ys := extra) h1 h2).plain (u := eB true) (by simp)) (.cons (.c (.whole rfl (List.length_map _).symm)) (.cons (.c .d) .nil)) rfl rfl rfl rfl rfl (B0 := 92000) rfl ?_
       refine jst hσ rfl rfl rfl rfl rfl ?_
       refine AOps.forget [(92, _), (16, _), (15, _), (14, _), (13, _), (12, _), (11, _), (50, _), (10, _), (9, _), (8, _), (36, _), (7, _), (31, _), (26, _), (6, _), (3, _), (0, _), (1, _), (2, _)] ⟨rfl, rfl, rfl, rfl, rfl, rfl, rfl, rfl, rfl, rfl, rfl, rfl, rfl, rfl, rfl, rfl, rfl, rfl, rfl, rfl, trivial⟩ ?_
       refine AOps.nil ?_
       refine AWP.cond hσ rfl rfl (fun hc92 => ?_) (fun hc92 => ?_)
       ·
        skip
        exact absurd (show false = true from hc92) (by decide)
       ·
        skip
        refine AWP.skip ?_
        refine jsr ?_
        refine jst hσ rfl rfl rfl rfl rfl ?_
        refine AOps.nil ?_
        refine jsr ?_
        refine jst hσ rfl rfl rfl rfl rfl ?_
        refine jst hσ rfl rfl rfl rfl rfl ?_
        refine AOps.forget [(94, _), (93, _), (17, _), (16, _), (15, _), (14, _), (13, _), (12, _), (11, _), (50, _), (10, _), (9, _), (8, _), (36, _), (7, _), (31, _), (26, _), (6, _), (3, _), (0, _), (1, _), (2, _)] ⟨rfl, rfl, rfl, rfl, rfl, rfl, rfl, rfl, rfl, rfl, rfl, rfl, rfl, rfl, rfl, rfl, rfl, rfl, rfl, rfl, rfl, rfl, trivial⟩ ?_
        refine AOps.inn hσ [51000, 51001] (bin := [trow s.facts, nrow s.goal.xs]) rfl rfl rfl rfl (c38 (s := s) (k := 1) h1 h2 (by decide) (by omega)) rfl rfl rfl rfl rfl rfl (B0 := 96000) rfl rfl ?_
        apply AOps.norm
        ·
         repeat' (first | exact jq0 rfl | apply jq1 rfl | exact jq2 rfl | exact jq9 rfl | apply jq3 rfl | exact jq4 rfl | apply jq5 rfl | exact jq6 rfl | exact jq7 rfl | exact jq8)
        refine jst hσ rfl rfl rfl rfl rfl ?_
        refine AOps.forget [(17, _), (16, _), (15, _), (14, _), (13, _), (12, _), (11, _), (50, _), (10, _), (9, _), (8, _), (36, _), (7, _), (31, _), (26, _), (6, _), (3, _), (0, _), (1, _), (2, _)] ⟨rfl, rfl, rfl, rfl, rfl, rfl, rfl, rfl, rfl, rfl, rfl, rfl, rfl, rfl, rfl, rfl, rfl, rfl, rfl, rfl, trivial⟩ ?_
        refine AOps.nil ?_
        refine jsr ?_
        refine jst hσ rfl rfl rfl rfl rfl ?_
        refine jst hσ rfl rfl rfl rfl rfl ?_
        refine AOps.inn hσ [53000] (bin := [ndrow p]) rfl rfl rfl rfl (c39 (ts := p) (k := 1 + cnt nT s.facts + s.goal.xs.length) h1 h2 (by omega) (by omega)) rfl rfl rfl rfl rfl rfl (B0 := 99000) rfl rfl ?_
        apply AOps.norm
        ·
         repeat' (first | exact jq0 rfl | apply jq1 rfl | exact jq2 rfl | exact jq9 rfl | apply jq3 rfl | exact jq4 rfl | apply jq5 rfl | exact jq6 rfl | exact jq7 rfl | exact jq8)
        refine jst hσ rfl rfl rfl rfl rfl ?_
        refine AOps.forget [(17, _), (16, _), (15, _), (14, _), (13, _), (12, _), (11, _), (50, _), (10, _), (9, _), (8, _), (36, _), (7, _), (31, _), (26, _), (6, _), (3, _), (0, _), (1, _), (2, _)] ⟨rfl, rfl, rfl, rfl, rfl, rfl, rfl, rfl, rfl, rfl, rfl, rfl, rfl, rfl, rfl, rfl, rfl, rfl, rfl, rfl, trivial⟩ ?_
        refine AOps.nil ?_
        refine jsr ?_
        refine jst hσ rfl rfl rfl rfl rfl ?_
        refine jst hσ rfl rfl rfl rfl rfl ?_
        refine AOps.inn hσ [55000] (bin := [trow extra]) rfl rfl rfl rfl (c40 (ts := extra) (k := 1 + cnt nT s.facts + s.goal.xs.length + cnt nN p) h1 h2 (by omega) (by omega)) rfl rfl rfl rfl rfl rfl (B0 := 102000) rfl rfl ?_
        apply AOps.norm
        ·
         repeat' (first | exact jq0 rfl | apply jq1 rfl | exact jq2 rfl | exact jq9 rfl | apply jq3 rfl | exact jq4 rfl | apply jq5 rfl | exact jq6 rfl | exact jq7 rfl | exact jq8)
        refine jst hσ rfl rfl rfl rfl rfl ?_
        refine AOps.forget [(17, _), (16, _), (15, _), (14, _), (13, _), (12, _), (11, _), (50, _), (10, _), (9, _), (8, _), (36, _), (7, _), (31, _), (26, _), (6, _), (3, _), (0, _), (1, _), (2, _)] ⟨rfl, rfl, rfl, rfl, rfl, rfl, rfl, rfl, rfl, rfl, rfl, rfl, rfl, rfl, rfl, rfl, rfl, rfl, rfl, rfl, trivial⟩ ?_
        refine AOps.nil ?_
        refine AWP.seq ?_
        refine jsr ?_
        refine jst hσ rfl rfl rfl rfl rfl ?_
        refine jst hσ rfl rfl rfl rfl rfl ?_
        rw [decide_eq_false (show ¬ (1 + cnt nT s.facts + s.goal.xs.length + cnt nN p + cnt nT extra : Int) < 0 by omega)]
        refine jst hσ rfl rfl rfl rfl rfl ?_
        refine AOps.forget [(104, _), (17, _), (16, _), (15, _), (14, _), (13, _), (12, _), (11, _), (50, _), (10, _), (9, _), (8, _), (36, _), (7, _), (31, _), (26, _), (6, _), (3, _), (0, _), (1, _), (2, _)] ⟨rfl, rfl, rfl, rfl, rfl, rfl, rfl, rfl, rfl, rfl, rfl, rfl, rfl, rfl, rfl, rfl, rfl, rfl, rfl, rfl, rfl, trivial⟩ ?_
        refine AOps.live rfl rfl rfl rfl rfl ?_
        refine jst hσ rfl rfl rfl rfl rfl ?_
        refine AOps.live rfl rfl rfl rfl rfl ?_
        refine jst hσ rfl rfl rfl rfl rfl ?_
        refine AOps.live rfl rfl rfl rfl rfl ?_
        refine AOps.lone hσ rfl rfl rfl rfl ((c36 (s := (⟨[], ⟨0, []⟩⟩ : Sq)) (t := (⟨[], ⟨0, []⟩⟩ : Sq)) h1 h2).plain (u := eB true) (by simp)) (.cons (.agg (.cons .nils (.cons .d (.cons .nils .nil)))) (.cons (.agg (VMs.self rfl)) .nil)) rfl rfl rfl rfl rfl (B0 := 108000) rfl ?_
        refine AOps.forget [(107, _), (104, _), (17, _), (16, _), (15, _), (14, _), (13, _), (12, _), (11, _), (50, _), (10, _), (9, _), (8, _), (36, _), (7, _), (31, _), (26, _), (6, _), (3, _), (0, _), (1, _), (2, _)] ⟨rfl, rfl, rfl, rfl, rfl, rfl, rfl, rfl, rfl, rfl, rfl, rfl, rfl, rfl, rfl, rfl, rfl, rfl, rfl, rfl, rfl, rfl, trivial⟩ ?_
        refine AOps.live rfl rfl rfl rfl rfl ?_
        refine jst hσ rfl rfl rfl rfl rfl ?_
        refine AOps.step (Val.pickN hσ rfl rfl rfl rfl rfl) rfl rfl rfl ?_
        refine jst hσ rfl rfl rfl rfl rfl ?_
        refine AOps.forget [(110, _), (17, _), (16, _), (15, _), (14, _), (13, _), (12, _), (11, _), (50, _), (10, _), (9, _), (8, _), (36, _), (7, _), (31, _), (26, _), (6, _), (3, _), (0, _), (1, _), (2, _)] ⟨rfl, rfl, rfl, rfl, rfl, rfl, rfl, rfl, rfl, rfl, rfl, rfl, rfl, rfl, rfl, rfl, rfl, rfl, rfl, rfl, rfl, trivial⟩ ?_
        refine AOps.live rfl rfl rfl rfl rfl ?_
        refine jst hσ rfl rfl rfl rfl rfl ?_
        refine AOps.live rfl rfl rfl rfl rfl ?_
        refine jst hσ rfl rfl rfl rfl rfl ?_
        refine AOps.live rfl rfl rfl rfl rfl ?_
        refine AOps.lone hσ rfl rfl rfl rfl ((c37 (xs := ([] : List Nd)) (ys := ([] : List Nd)) h1 h2).plain (u := eB true) (by simp)) (.cons (.c .nils) (.cons (.c .d) .nil)) rfl rfl rfl rfl rfl (B0 := 114000) rfl ?_
        refine AOps.forget [(113, _), (110, _), (17, _), (16, _), (15, _), (14, _), (13, _), (12, _), (11, _), (50, _), (10, _), (9, _), (8, _), (36, _), (7, _), (31, _), (26, _), (6, _), (3, _), (0, _), (1, _), (2, _)] ⟨rfl, rfl, rfl, rfl, rfl, rfl, rfl, rfl, rfl, rfl, rfl, rfl, rfl, rfl, rfl, rfl, rfl, rfl, rfl, rfl, rfl, rfl, trivial⟩ ?_
        refine AOps.live rfl rfl rfl rfl rfl ?_
        refine jst hσ rfl rfl rfl rfl rfl ?_
        refine AOps.step (Val.pickN hσ rfl rfl rfl rfl rfl) rfl rfl rfl ?_
        refine jst hσ rfl rfl rfl rfl rfl ?_
        refine AOps.forget [(116, _), (17, _), (16, _), (15, _), (14, _), (13, _), (12, _), (11, _), (50, _), (10, _), (9, _), (8, _), (36, _), (7, _), (31, _), (26, _), (6, _), (3, _), (0, _), (1, _), (2, _)] ⟨rfl, rfl, rfl, rfl, rfl, rfl, rfl, rfl, rfl, rfl, rfl, rfl, rfl, rfl, rfl, rfl, rfl, rfl, rfl, rfl, rfl, trivial⟩ ?_
        refine AOps.live rfl rfl rfl rfl rfl ?_
        refine jst hσ rfl rfl rfl rfl rfl ?_
        refine AOps.live rfl rfl rfl rfl rfl ?_
        refine jst hσ rfl rfl rfl rfl rfl ?_
        refine AOps.live rfl rfl rfl rfl rfl ?_
        refine jst hσ rfl rfl rfl rfl rfl ?_
        refine AOps.step (Val.pickN hσ rfl rfl rfl rfl rfl) rfl rfl rfl ?_
        refine AOps.forget [(120, _), (17, _), (16, _), (15, _), (14, _), (13, _), (12, _), (11, _), (50, _), (10, _), (9, _), (8, _), (36, _), (7, _), (31, _), (26, _), (6, _), (3, _), (0, _), (1, _), (2, _)] ⟨rfl, rfl, rfl, rfl, rfl, rfl, rfl, rfl, rfl, rfl, rfl, rfl, rfl, rfl, rfl, rfl, rfl, rfl, rfl, rfl, rfl, trivial⟩ ?_
        refine AOps.nil ?_
        refine AWP.cond hσ rfl rfl (fun hc120 => ?_) (fun hc120 => ?_)
        ·
         skip
         exact absurd (show false = true from hc120) (by decide)
        ·
         skip
         refine AWP.skip ?_
         refine jsr ?_
         refine jst hσ rfl rfl rfl rfl rfl ?_
         refine AOps.nil ?_
         refine jsr ?_
         refine jst hσ rfl rfl rfl rfl rfl ?_
         refine jst hσ rfl rfl rfl rfl rfl ?_
         refine AOps.forget [(122, _), (121, _), (18, _), (17, _), (16, _), (15, _), (14, _), (13, _), (12, _), (11, _), (50, _), (10, _), (9, _), (8, _), (36, _), (7, _), (31, _), (26, _), (6, _), (3, _), (0, _), (1, _), (2, _)] ⟨rfl, rfl, rfl, rfl, rfl, rfl, rfl, rfl, rfl, rfl, rfl, rfl, rfl, rfl, rfl, rfl, rfl, rfl, rfl, rfl, rfl, rfl, rfl, trivial⟩ ?_
         refine AOps.lone hσ rfl rfl rfl rfl (c38n (k := 1) h1 h2) (.cons (.agg (.cons .nils (.cons .d (.cons .nils .nil)))) (.cons (.c .d) .nil)) rfl rfl rfl rfl rfl (B0 := 124000) rfl ?_
         refine jst hσ rfl rfl rfl rfl rfl ?_
         refine AOps.forget [(18, _), (17, _), (16, _), (15, _), (14, _), (13, _), (12, _), (11, _), (50, _), (10, _), (9, _), (8, _), (36, _), (7, _), (31, _), (26, _), (6, _), (3, _), (0, _), (1, _), (2, _)] ⟨rfl, rfl, rfl, rfl, rfl, rfl, rfl, rfl, rfl, rfl, rfl, rfl, rfl, rfl, rfl, rfl, rfl, rfl, rfl, rfl, rfl, trivial⟩ ?_
         refine AOps.nil ?_
         refine jsr ?_
         refine jst hσ rfl rfl rfl rfl rfl ?_
         refine jst hσ rfl rfl rfl rfl rfl ?_
         refine AOps.lone hσ rfl rfl rfl rfl (c39n (k := 1) h1 h2) (.cons (.c .nils) (.cons (.c .d) .nil)) rfl rfl rfl rfl rfl (B0 := 127000) rfl ?_
         refine jst hσ rfl rfl rfl rfl rfl ?_
         refine AOps.forget [(18, _), (17, _), (16, _), (15, _), (14, _), (13, _), (12, _), (11, _), (50, _), (10, _), (9, _), (8, _), (36, _), (7, _), (31, _), (26, _), (6, _), (3, _), (0, _), (1, _), (2, _)] ⟨rfl, rfl, rfl, rfl, rfl, rfl, rfl, rfl, rfl, rfl, rfl, rfl, rfl, rfl, rfl, rfl, rfl, rfl, rfl, rfl, rfl, trivial⟩ ?_
         refine AOps.nil ?_
         refine jsr ?_
         refine jst hσ rfl rfl rfl rfl rfl ?_
         refine AOps.nil ?_
         refine jsr ?_
         refine jst hσ rfl rfl rfl rfl rfl ?_
         refine jst hσ rfl rfl rfl rfl rfl ?_
         refine AOps.lone hσ rfl rfl rfl rfl ((c1008 (s := (⟨[], ⟨0, []⟩⟩ : Sq)) (k := 1) h1 h2 (by decide) (by decide)).plain (u := eI 1) rfl) (.cons (.agg (.cons .nils (.cons .d (.cons .nils .nil)))) (.cons (.c .d) .nil)) rfl rfl rfl rfl rfl (B0 := 130000) rfl ?_
         refine jst hσ rfl rfl rfl rfl rfl ?_
         refine AOps.forget [(19, _), (18, _), (17, _), (16, _), (15, _), (14, _), (13, _), (12, _), (11, _), (50, _), (10, _), (9, _), (8, _), (36, _), (7, _), (31, _), (26, _), (6, _), (3, _), (0, _), (1, _), (2, _)] ⟨rfl, rfl, rfl, rfl, rfl, rfl, rfl, rfl, rfl, rfl, rfl, rfl, rfl, rfl, rfl, rfl, rfl, rfl, rfl, rfl, rfl, rfl, trivial⟩ ?_
         refine AOps.nil ?_
         refine AWP.seq ?_
         refine jsr ?_
         refine jst hσ rfl rfl rfl rfl rfl ?_
         refine jst hσ rfl rfl rfl rfl rfl ?_
         refine AOps.nil ?_
         refine AWP.cond hσ rfl rfl (fun hc131 => ?_) (fun hc131 => ?_)
         ·
          skip
          exact absurd (of_decide_eq_true hc131) (by decide)
         ·
          skip
          refine AWP.skip ?_
          refine jsr ?_
          refine jst hσ rfl rfl rfl rfl rfl ?_
          refine jst hσ rfl rfl rfl rfl rfl ?_
          refine AOps.forget [(133, _), (132, _), (130, _), (19, _), (18, _), (17, _), (16, _), (15, _), (14, _), (13, _), (12, _), (11, _), (50, _), (10, _), (9, _), (8, _), (36, _), (7, _), (31, _), (26, _), (6, _), (3, _), (0, _), (1, _), (2, _)] ⟨rfl, rfl, rfl, rfl, rfl, rfl, rfl, rfl, rfl, rfl, rfl, rfl, rfl, rfl, rfl, rfl, rfl, rfl, rfl, rfl, rfl, rfl, rfl, rfl, rfl, trivial⟩ ?_
          refine AOps.lone hσ rfl rfl rfl rfl ((c1009 (ts := ([] : List Nd)) (k := 1) h1 h2 (by decide) (by decide)).plain (u := eI 1) rfl) (.cons (.c .nils) (.cons (.c .d) .nil)) rfl rfl rfl rfl rfl (B0 := 135000) rfl ?_
          refine jst hσ rfl rfl rfl rfl rfl ?_
          refine AOps.forget [(19, _), (130, _), (18, _), (17, _), (16, _), (15, _), (14, _), (13, _), (12, _), (11, _), (50, _), (10, _), (9, _), (8, _), (36, _), (7, _), (31, _), (26, _), (6, _), (3, _), (0, _), (1, _), (2, _)] ⟨rfl, rfl, rfl, rfl, rfl, rfl, rfl, rfl, rfl, rfl, rfl, rfl, rfl, rfl, rfl, rfl, rfl, rfl, rfl, rfl, rfl, rfl, rfl, trivial⟩ ?_
          refine AOps.nil ?_
          refine AWP.seq ?_
          refine jsr ?_
          refine jst hσ rfl rfl rfl rfl rfl ?_
          refine jst hσ rfl rfl rfl rfl rfl ?_
          refine AOps.nil ?_
          refine AWP.cond hσ rfl rfl (fun hc136 => ?_) (fun hc136 => ?_)
          ·
           skip
           exact absurd (of_decide_eq_true hc136) (by decide)
          ·
           skip
           refine AWP.skip ?_
           refine AWP.seq ?_
           refine jsr ?_
           refine jst hσ rfl rfl rfl rfl rfl ?_
           refine jst hσ rfl rfl rfl rfl rfl ?_
           refine jst hσ rfl rfl rfl rfl rfl ?_
           refine AOps.forget [(139, _), (135, _), (19, _), (130, _), (18, _), (17, _), (16, _), (15, _), (14, _), (13, _), (12, _), (11, _), (50, _), (10, _), (9, _), (8, _), (36, _), (7, _), (31, _), (26, _), (6, _), (3, _), (0, _), (1, _), (2, _)] ⟨rfl, rfl, rfl, rfl, rfl, rfl, rfl, rfl, rfl, rfl, rfl, rfl, rfl, rfl, rfl, rfl, rfl, rfl, rfl, rfl, rfl, rfl, rfl, rfl, rfl, trivial⟩ ?_
           refine AOps.nil ?_
           refine AWP.cond hσ rfl rfl (fun hc139 => ?_) (fun hc139 => ?_)
           ·
            skip
            exact absurd hc139 (by simp)
           ·
            skip
            refine AWP.skip ?_
            refine jsr ?_
            refine jst hσ rfl rfl rfl rfl rfl ?_
            refine AOps.forget [(141, _), (135, _), (19, _), (130, _), (18, _), (17, _), (16, _), (15, _), (14, _), (13, _), (12, _), (11, _), (50, _), (10, _), (9, _), (8, _), (36, _), (7, _), (31, _), (26, _), (6, _), (3, _), (0, _), (1, _), (2, _)] ⟨rfl, rfl, rfl, rfl, rfl, rfl, rfl, rfl, rfl, rfl, rfl, rfl, rfl, rfl, rfl, rfl, rfl, rfl, rfl, rfl, rfl, rfl, rfl, rfl, rfl, trivial⟩ ?_
            refine AOps.plainD hσ rfl rfl rfl rfl (c32d (s := s) h1 h2) (VAs.self rfl) rfl rfl rfl rfl (B0 := 143000) rfl rfl ?_
            refine jst hσ rfl rfl rfl rfl rfl ?_
            refine AOps.forget [(143, _), (142, _), (135, _), (19, _), (130, _), (18, _), (17, _), (16, _), (15, _), (14, _), (13, _), (12, _), (11, _), (50, _), (10, _), (9, _), (8, _), (36, _), (7, _), (31, _), (26, _), (6, _), (3, _), (0, _), (1, _), (2, _)] ⟨rfl, rfl, rfl, rfl, rfl, rfl, rfl, rfl, rfl, rfl, rfl, rfl, rfl, rfl, rfl, rfl, rfl, rfl, rfl, rfl, rfl, rfl, rfl, rfl, rfl, rfl, trivial⟩ ?_
            refine AOps.plainD hσ rfl rfl rfl rfl (c33d (p := p) h1 h2) (VAs.self rfl) rfl rfl rfl rfl (B0 := 145000) rfl rfl ?_
            refine jst hσ rfl rfl rfl rfl rfl ?_
            refine AOps.forget [(145, _), (144, _), (142, _), (135, _), (19, _), (130, _), (18, _), (17, _), (16, _), (15, _), (14, _), (13, _), (12, _), (11, _), (50, _), (10, _), (9, _), (8, _), (36, _), (7, _), (31, _), (26, _), (6, _), (3, _), (0, _), (1, _), (2, _)] ⟨rfl, rfl, rfl, rfl, rfl, rfl, rfl, rfl, rfl, rfl, rfl, rfl, rfl, rfl, rfl, rfl, rfl, rfl, rfl, rfl, rfl, rfl, rfl, rfl, rfl, rfl, rfl, trivial⟩ ?_
            refine AOps.plainD hσ rfl rfl rfl rfl (c59d (ts := extra) h1 h2) (VAs.self rfl) rfl rfl rfl rfl (B0 := 147000) rfl rfl ?_
            refine AOps.forget [(146, _), (144, _), (142, _), (135, _), (19, _), (130, _), (18, _), (17, _), (16, _), (15, _), (14, _), (13, _), (12, _), (11, _), (50, _), (10, _), (9, _), (8, _), (36, _), (7, _), (31, _), (26, _), (6, _), (3, _), (0, _), (1, _), (2, _)] ⟨rfl, rfl, rfl, rfl, rfl, rfl, rfl, rfl, rfl, rfl, rfl, rfl, rfl, rfl, rfl, rfl, rfl, rfl, rfl, rfl, rfl, rfl, rfl, rfl, rfl, rfl, rfl, trivial⟩ ?_
            refine AOps.rows hσ (B0 := 148000) rfl rfl rfl rfl (ci) (VAs.self rfl) rfl rfl rfl rfl rfl rfl ?_
            apply AOps.norm
            ·
             repeat' (first | exact jq0 rfl | apply jq1 rfl | exact jq2 rfl | exact jq9 rfl | apply jq3 rfl | exact jq4 rfl | apply jq5 rfl | exact jq6 rfl | exact jq7 rfl | exact jq8)
            refine jst hσ rfl rfl rfl rfl rfl ?_
            refine jst hσ rfl rfl rfl rfl rfl ?_
            refine jst hσ rfl rfl rfl rfl rfl ?_
            refine jst hσ rfl rfl rfl rfl rfl ?_
            refine AOps.forget [(150, _), (149, _), (148, _), (135, _), (19, _), (130, _), (18, _), (17, _), (16, _), (15, _), (14, _), (13, _), (12, _), (11, _), (50, _), (10, _), (9, _), (8, _), (36, _), (7, _), (31, _), (26, _), (6, _), (3, _), (0, _), (1, _), (2, _)] ⟨rfl, rfl, rfl, rfl, rfl, rfl, rfl, rfl, rfl, rfl, rfl, rfl, rfl, rfl, rfl, rfl, rfl, rfl, rfl, rfl, rfl, rfl, rfl, rfl, rfl, rfl, rfl, trivial⟩ ?_
            refine AOps.heap (HS.alloc hσ rfl rfl rfl rfl rfl) rfl ?_
            apply AOps.norm
            ·
             repeat' (first | exact jq0 rfl | apply jq1 rfl | exact jq2 rfl | exact jq9 rfl | apply jq3 rfl | exact jq4 rfl | apply jq5 rfl | exact jq6 rfl | exact jq7 rfl | exact jq8)
            refine AOps.heap (HS.storeBox hσ rfl rfl rfl rfl rfl rfl rfl rfl rfl rfl rfl) rfl ?_
            apply AOps.norm
            ·
             repeat' (first | exact jq0 rfl | apply jq1 rfl | exact jq2 rfl | exact jq9 rfl | apply jq3 rfl | exact jq4 rfl | apply jq5 rfl | exact jq6 rfl | exact jq7 rfl | exact jq8)
            refine jst hσ rfl rfl rfl rfl rfl ?_
            refine jst hσ rfl rfl rfl rfl rfl ?_
            refine AOps.forget [(22, _), (21, _), (20, _), (135, _), (19, _), (130, _), (18, _), (17, _), (16, _), (15, _), (14, _), (13, _), (12, _), (11, _), (50, _), (10, _), (9, _), (8, _), (36, _), (7, _), (31, _), (26, _), (6, _), (3, _), (0, _), (1, _), (2, _)] ⟨rfl, rfl, rfl, rfl, rfl, rfl, rfl, rfl, rfl, rfl, rfl, rfl, rfl, rfl, rfl, rfl, rfl, rfl, rfl, rfl, rfl, rfl, rfl, rfl, rfl, rfl, rfl, trivial⟩ ?_
            refine AOps.nil ?_
            refine AWP.seq ?_
            refine jsr ?_
            refine jst hσ rfl rfl rfl rfl rfl ?_
            refine jst hσ rfl rfl rfl rfl rfl ?_
            refine AOps.lone hσ rfl rfl rfl rfl ((c36 (s := (⟨[], ⟨0, []⟩⟩ : Sq)) (t := (⟨[], ⟨0, []⟩⟩ : Sq)) h1 h2).plain (u := eB true) (by simp)) (.cons (.agg (.cons .nils (.cons .d (.cons .nils .nil)))) (.cons (.agg (VMs.self rfl)) .nil)) rfl rfl rfl rfl rfl (B0 := 154000) rfl ?_
            refine jst hσ rfl rfl rfl rfl rfl ?_
            refine jst hσ rfl rfl rfl rfl rfl ?_
            refine AOps.forget [(155, _), (22, _), (21, _), (20, _), (135, _), (19, _), (130, _), (18, _), (17, _), (16, _), (15, _), (14, _), (13, _), (12, _), (11, _), (50, _), (10, _), (9, _), (8, _), (36, _), (7, _), (31, _), (26, _), (6, _), (3, _), (0, _), (1, _), (2, _)] ⟨rfl, rfl, rfl, rfl, rfl, rfl, rfl, rfl, rfl, rfl, rfl, rfl, rfl, rfl, rfl, rfl, rfl, rfl, rfl, rfl, rfl, rfl, rfl, rfl, rfl, rfl, rfl, rfl, trivial⟩ ?_
            refine AOps.live rfl rfl rfl rfl rfl ?_
            refine jst hσ rfl rfl rfl rfl rfl ?_
            refine AOps.forget [(156, _), (155, _), (22, _), (20, _), (135, _), (19, _), (130, _), (18, _), (17, _), (16, _), (15, _), (14, _), (13, _), (12, _), (11, _), (50, _), (10, _), (9, _), (8, _), (36, _), (7, _), (31, _), (26, _), (6, _), (3, _), (0, _), (1, _), (2, _)] ⟨rfl, rfl, rfl, rfl, rfl, rfl, rfl, rfl, rfl, rfl, rfl, rfl, rfl, rfl, rfl, rfl, rfl, rfl, rfl, rfl, rfl, rfl, rfl, rfl, rfl, rfl, rfl, rfl, trivial⟩ ?_
            refine AOps.live rfl rfl rfl rfl rfl ?_
            refine jst hσ rfl rfl rfl rfl rfl ?_
            refine AOps.live rfl rfl rfl rfl rfl ?_
            refine AOps.lone hσ rfl rfl rfl rfl ((c37 (xs := ([] : List Nd)) (ys := ([] : List Nd)) h1 h2).plain (u := eB true) (by simp)) (.cons (.c .nils) (.cons (.c .d) .nil)) rfl rfl rfl rfl rfl (B0 := 159000) rfl ?_
            refine AOps.forget [(158, _), (155, _), (22, _), (20, _), (135, _), (19, _), (130, _), (18, _), (17, _), (16, _), (15, _), (14, _), (13, _), (12, _), (11, _), (50, _), (10, _), (9, _), (8, _), (36, _), (7, _), (31, _), (26, _), (6, _), (3, _), (0, _), (1, _), (2, _)] ⟨rfl, rfl, rfl, rfl, rfl, rfl, rfl, rfl, rfl, rfl, rfl, rfl, rfl, rfl, rfl, rfl, rfl, rfl, rfl, rfl, rfl, rfl, rfl, rfl, rfl, rfl, rfl, rfl, trivial⟩ ?_
            refine AOps.live rfl rfl rfl rfl rfl ?_
            refine jst hσ rfl rfl rfl rfl rfl ?_
            refine AOps.step (Val.pickN hσ rfl rfl rfl rfl rfl) rfl rfl rfl ?_
            refine jst hσ rfl rfl rfl rfl rfl ?_
            refine AOps.forget [(161, _), (22, _), (20, _), (135, _), (19, _), (130, _), (18, _), (17, _), (16, _), (15, _), (14, _), (13, _), (12, _), (11, _), (50, _), (10, _), (9, _), (8, _), (36, _), (7, _), (31, _), (26, _), (6, _), (3, _), (0, _), (1, _), (2, _)] ⟨rfl, rfl, rfl, rfl, rfl, rfl, rfl, rfl, rfl, rfl, rfl, rfl, rfl, rfl, rfl, rfl, rfl, rfl, rfl, rfl, rfl, rfl, rfl, rfl, rfl, rfl, rfl, trivial⟩ ?_
            refine AOps.live rfl rfl rfl rfl rfl ?_
            refine jst hσ rfl rfl rfl rfl rfl ?_
            refine AOps.forget [(162, _), (161, _), (20, _), (135, _), (19, _), (130, _), (18, _), (17, _), (16, _), (15, _), (14, _), (13, _), (12, _), (11, _), (50, _), (10, _), (9, _), (8, _), (36, _), (7, _), (31, _), (26, _), (6, _), (3, _), (0, _), (1, _), (2, _)] ⟨rfl, rfl, rfl, rfl, rfl, rfl, rfl, rfl, rfl, rfl, rfl, rfl, rfl, rfl, rfl, rfl, rfl, rfl, rfl, rfl, rfl, rfl, rfl, rfl, rfl, rfl, rfl, trivial⟩ ?_
            refine AOps.live rfl rfl rfl rfl rfl ?_
            refine jst hσ rfl rfl rfl rfl rfl ?_
            refine AOps.live rfl rfl rfl rfl rfl ?_
            refine jst hσ rfl rfl rfl rfl rfl ?_
            refine AOps.step (Val.pickN hσ rfl rfl rfl rfl rfl) rfl rfl rfl ?_
            refine AOps.forget [(165, _), (20, _), (135, _), (19, _), (130, _), (18, _), (17, _), (16, _), (15, _), (14, _), (13, _), (12, _), (11, _), (50, _), (10, _), (9, _), (8, _), (36, _), (7, _), (31, _), (26, _), (6, _), (3, _), (0, _), (1, _), (2, _)] ⟨rfl, rfl, rfl, rfl, rfl, rfl, rfl, rfl, rfl, rfl, rfl, rfl, rfl, rfl, rfl, rfl, rfl, rfl, rfl, rfl, rfl, rfl, rfl, rfl, rfl, rfl, trivial⟩ ?_
            refine AOps.nil ?_
            refine AWP.cond hσ rfl rfl (fun hc165 => ?_) (fun hc165 => ?_)
            ·
             skip
             exact absurd (show false = true from hc165) (by decide)
            ·
             skip
             refine AWP.skip ?_
             refine jsr ?_
             refine jst hσ rfl rfl rfl rfl rfl ?_
             refine AOps.nil ?_
             refine jsr ?_
             refine jst hσ rfl rfl rfl rfl rfl ?_
             refine jst hσ rfl rfl rfl rfl rfl ?_
             refine AOps.forget [(167, _), (166, _), (19, _), (20, _), (135, _), (130, _), (18, _), (17, _), (16, _), (15, _), (14, _), (13, _), (12, _), (11, _), (50, _), (10, _), (9, _), (8, _), (36, _), (7, _), (31, _), (26, _), (6, _), (3, _), (0, _), (1, _), (2, _)] ⟨rfl, rfl, rfl, rfl, rfl, rfl, rfl, rfl, rfl, rfl, rfl, rfl, rfl, rfl, rfl, rfl, rfl, rfl, rfl, rfl, rfl, rfl, rfl, rfl, rfl, rfl, rfl, trivial⟩ ?_
             refine AOps.lone hσ rfl rfl rfl rfl ((c1008 (s := (⟨[], ⟨0, []⟩⟩ : Sq)) (k := 1) h1 h2 (by decide) (by decide)).plain (u := eI 1) rfl) (.cons (.agg (.cons .nils (.cons .d (.cons .nils .nil)))) (.cons (.c .d) .nil)) rfl rfl rfl rfl rfl (B0 := 169000) rfl ?_
             refine jst hσ rfl rfl rfl rfl rfl ?_
             refine AOps.forget [(19, _), (20, _), (135, _), (130, _), (18, _), (17, _), (16, _), (15, _), (14, _), (13, _), (12, _), (11, _), (50, _), (10, _), (9, _), (8, _), (36, _), (7, _), (31, _), (26, _), (6, _), (3, _), (0, _), (1, _), (2, _)] ⟨rfl, rfl, rfl, rfl, rfl, rfl, rfl, rfl, rfl, rfl, rfl, rfl, rfl, rfl, rfl, rfl, rfl, rfl, rfl, rfl, rfl, rfl, rfl, rfl, rfl, trivial⟩ ?_
             refine AOps.nil ?_
             refine AWP.seq ?_
             refine jsr ?_
             refine jst hσ rfl rfl rfl rfl rfl ?_
             refine jst hσ rfl rfl rfl rfl rfl ?_
             refine AOps.nil ?_
             refine AWP.cond hσ rfl rfl (fun hc170 => ?_) (fun hc170 => ?_)
             ·
              skip
              exact absurd (of_decide_eq_true hc170) (by decide)
             ·
              skip
              refine AWP.skip ?_
              refine jsr ?_
              refine jst hσ rfl rfl rfl rfl rfl ?_
              refine jst hσ rfl rfl rfl rfl rfl ?_
              refine AOps.forget [(172, _), (171, _), (169, _), (19, _), (20, _), (135, _), (130, _), (18, _), (17, _), (16, _), (15, _), (14, _), (13, _), (12, _), (11, _), (50, _), (10, _), (9, _), (8, _), (36, _), (7, _), (31, _), (26, _), (6, _), (3, _), (0, _), (1, _), (2, _)] ⟨rfl, rfl, rfl, rfl, rfl, rfl, rfl, rfl, rfl, rfl, rfl, rfl, rfl, rfl, rfl, rfl, rfl, rfl, rfl, rfl, rfl, rfl, rfl, rfl, rfl, rfl, rfl, rfl, trivial⟩ ?_
              refine AOps.lone hσ rfl rfl rfl rfl ((c1009 (ts := ([] : List Nd)) (k := 1) h1 h2 (by decide) (by decide)).plain (u := eI 1) rfl) (.cons (.c .nils) (.cons (.c .d) .nil)) rfl rfl rfl rfl rfl (B0 := 174000) rfl ?_
              refine jst hσ rfl rfl rfl rfl rfl ?_
              refine AOps.forget [(19, _), (169, _), (20, _), (135, _), (130, _), (18, _), (17, _), (16, _), (15, _), (14, _), (13, _), (12, _), (11, _), (50, _), (10, _), (9, _), (8, _), (36, _), (7, _), (31, _), (26, _), (6, _), (3, _), (0, _), (1, _), (2, _)] ⟨rfl, rfl, rfl, rfl, rfl, rfl, rfl, rfl, rfl, rfl, rfl, rfl, rfl, rfl, rfl, rfl, rfl, rfl, rfl, rfl, rfl, rfl, rfl, rfl, rfl, rfl, trivial⟩ ?_
              refine AOps.nil ?_
              refine AWP.seq ?_
              refine jsr ?_
              refine jst hσ rfl rfl rfl rfl rfl ?_
              refine jst hσ rfl rfl rfl rfl rfl ?_
              refine AOps.nil ?_
              refine AWP.cond hσ rfl rfl (fun hc175 => ?_) (fun hc175 => ?_)
              ·
               skip
               exact absurd (of_decide_eq_true hc175) (by decide)
              ·
               skip
               refine AWP.skip ?_
               refine AWP.seq ?_
               refine jsr ?_
               refine jst hσ rfl rfl rfl rfl rfl ?_
               refine jst hσ rfl rfl rfl rfl rfl ?_
               refine jst hσ rfl rfl rfl rfl rfl ?_
               refine AOps.forget [(178, _), (174, _), (19, _), (169, _), (20, _), (135, _), (130, _), (18, _), (17, _), (16, _), (15, _), (14, _), (13, _), (12, _), (11, _), (50, _), (10, _), (9, _), (8, _), (36, _), (7, _), (31, _), (26, _), (6, _), (3, _), (0, _), (1, _), (2, _)] ⟨rfl, rfl, rfl, rfl, rfl, rfl, rfl, rfl, rfl, rfl, rfl, rfl, rfl, rfl, rfl, rfl, rfl, rfl, rfl, rfl, rfl, rfl, rfl, rfl, rfl, rfl, rfl, rfl, trivial⟩ ?_
               refine AOps.nil ?_
               refine AWP.cond hσ rfl rfl (fun hc178 => ?_) (fun hc178 => ?_)
               ·
                skip
                exact absurd hc178 (by simp)
               ·
                skip
                refine AWP.skip ?_
                refine jsr ?_
                refine jst hσ rfl rfl rfl rfl rfl ?_
                refine AOps.nil ?_
                refine AWP.ret ?_
                refine ⟨.inl rfl, _, Ent.refl, _, rfl, ?_⟩
                rfl
theorem c1001a {L : Nat} (h1 : 4096 ≤ L) (h2 : L ≤ 9223372036854775807) {s : Sq} {p : List Nd} {extra : List Tm} (hz : szr 1048576 s.size < 0) : MC Try.prog L 4 [aSq s, ands p, atms extra] [] (Plain (eB true)) := by
 refine MC.alone ?_ rfl
 have hσ := SGok (nt := 179) h1 h2
 refine MC.body hσ Try.func4 (by kernel_rfl) rfl rfl (Nat.le_of_ble_eq_true rfl) (fun hF => ?_)
 refine jsr ?_
 refine AOps.heap (HS.box hσ rfl rfl rfl rfl rfl rfl rfl) rfl ?_
 apply AOps.norm
 ·
  repeat' (first | exact jq0 rfl | apply jq1 rfl | exact jq2 rfl | exact jq9 rfl | apply jq3 rfl | exact jq4 rfl | apply jq5 rfl | exact jq6 rfl | exact jq7 rfl | exact jq8)
 refine jst hσ rfl rfl rfl rfl rfl ?_
 refine AOps.nil ?_
 refine jsr ?_
 refine jst hσ rfl rfl rfl rfl rfl ?_
 refine AOps.nil ?_
 refine jsr ?_
 refine jst hσ rfl rfl rfl rfl rfl ?_
 refine jst hσ rfl rfl rfl rfl rfl ?_
 refine AOps.lone hσ rfl rfl rfl rfl (c29 (s := s) (left := 1048576) h1 h2 (by decide) (by decide)) (VAs.self rfl) rfl rfl rfl rfl rfl (B0 := 26000) rfl ?_
 refine jst hσ rfl rfl rfl rfl rfl ?_
 refine AOps.forget [(7, _), (6, _), (3, _), (0, _), (1, _), (2, _)] ⟨rfl, rfl, rfl, rfl, rfl, rfl, trivial⟩ ?_
 refine AOps.nil ?_
 refine AWP.seq ?_
 refine jsr ?_
 refine jst hσ rfl rfl rfl rfl rfl ?_
 refine jst hσ rfl rfl rfl rfl rfl ?_
 refine AOps.nil ?_
 refine AWP.cond hσ rfl rfl (fun hc27 => ?_) (fun hc27 => ?_)
 ·
  skip
  refine jsr ?_
  refine jst hσ rfl rfl rfl rfl rfl ?_
  refine AOps.nil ?_
  refine AWP.ret ?_
  refine ⟨.inl rfl, _, Ent.refl, _, rfl, ?_⟩
  rfl
 ·
  skip
  exact absurd (of_decide_eq_false hc27) (fun h => h hz)
theorem c1001b {L : Nat} (h1 : 4096 ≤ L) (h2 : L ≤ 9223372036854775807) {s : Sq} {p : List Nd} {extra : List Tm} (hz1 : 0 ≤ szr 1048576 s.size) (hz : szr (szr 1048576 s.size) (Al.szs Nd.size p) < 0) : MC Try.prog L 4 [aSq s, ands p, atms extra] [] (Plain (eB true)) := by
 refine MC.alone ?_ rfl
 have hσ := SGok (nt := 179) h1 h2
 refine MC.body hσ Try.func4 (by kernel_rfl) rfl rfl (Nat.le_of_ble_eq_true rfl) (fun hF => ?_)
 refine jsr ?_
 refine AOps.heap (HS.box hσ rfl rfl rfl rfl rfl rfl rfl) rfl ?_
 apply AOps.norm
 ·
  repeat' (first | exact jq0 rfl | apply jq1 rfl | exact jq2 rfl | exact jq9 rfl | apply jq3 rfl | exact jq4 rfl | apply jq5 rfl | exact jq6 rfl | exact jq7 rfl | exact jq8)
 refine jst hσ rfl rfl rfl rfl rfl ?_
 refine AOps.nil ?_
 refine jsr ?_
 refine jst hσ rfl rfl rfl rfl rfl ?_
 refine AOps.nil ?_
 refine jsr ?_
 refine jst hσ rfl rfl rfl rfl rfl ?_
 refine jst hσ rfl rfl rfl rfl rfl ?_
 refine AOps.lone hσ rfl rfl rfl rfl (c29 (s := s) (left := 1048576) h1 h2 (by decide) (by decide)) (VAs.self rfl) rfl rfl rfl rfl rfl (B0 := 26000) rfl ?_
 refine jst hσ rfl rfl rfl rfl rfl ?_
 refine AOps.forget [(7, _), (6, _), (3, _), (0, _), (1, _), (2, _)] ⟨rfl, rfl, rfl, rfl, rfl, rfl, trivial⟩ ?_
 refine AOps.nil ?_
 refine AWP.seq ?_
 refine jsr ?_
 refine jst hσ rfl rfl rfl rfl rfl ?_
 refine jst hσ rfl rfl rfl rfl rfl ?_
 refine AOps.nil ?_
 refine AWP.cond hσ rfl rfl (fun hc27 => ?_) (fun hc27 => ?_)
 ·
  skip
  exact absurd (of_decide_eq_true hc27) (Int.not_lt.2 hz1)
 ·
  skip
  refine AWP.skip ?_
  refine jsr ?_
  refine jst hσ rfl rfl rfl rfl rfl ?_
  refine jst hσ rfl rfl rfl rfl rfl ?_
  refine AOps.forget [(29, _), (28, _), (26, _), (7, _), (6, _), (3, _), (0, _), (1, _), (2, _)] ⟨rfl, rfl, rfl, rfl, rfl, rfl, rfl, rfl, rfl, trivial⟩ ?_
  have hle0 := szr_le (left := 1048576) (by decide) s.size
  refine AOps.lone hσ rfl rfl rfl rfl (c30 (ts := p) (left := szr 1048576 s.size) h1 h2 hz1 (by omega)) (VAs.self rfl) rfl rfl rfl rfl rfl (B0 := 31000) rfl ?_
  refine jst hσ rfl rfl rfl rfl rfl ?_
  refine AOps.forget [(7, _), (26, _), (6, _), (3, _), (0, _), (1, _), (2, _)] ⟨rfl, rfl, rfl, rfl, rfl, rfl, rfl, trivial⟩ ?_
  refine AOps.nil ?_
  refine AWP.seq ?_
  refine jsr ?_
  refine jst hσ rfl rfl rfl rfl rfl ?_
  refine jst hσ rfl rfl rfl rfl rfl ?_
  refine AOps.nil ?_
  refine AWP.cond hσ rfl rfl (fun hc32 => ?_) (fun hc32 => ?_)
  ·
   skip
   refine jsr ?_
   refine jst hσ rfl rfl rfl rfl rfl ?_
   refine AOps.nil ?_
   refine AWP.ret ?_
   refine ⟨.inl rfl, _, Ent.refl, _, rfl, ?_⟩
   rfl
  ·
   skip
   exact absurd (of_decide_eq_false hc32) (fun h => h hz)
theorem c1001c {L : Nat} (h1 : 4096 ≤ L) (h2 : L ≤ 9223372036854775807) {s : Sq} {p : List Nd} {extra : List Tm} (hz1 : 0 ≤ szr 1048576 s.size) (hz2 : 0 ≤ szr (szr 1048576 s.size) (Al.szs Nd.size p)) (hz : szr (szr (szr 1048576 s.size) (Al.szs Nd.size p)) (Al.szs Tm.size extra) < 0) : MC Try.prog L 4 [aSq s, ands p, atms extra] [] (Plain (eB true)) := by
 refine MC.alone ?_ rfl
 have hσ := SGok (nt := 179) h1 h2
 refine MC.body hσ Try.func4 (by kernel_rfl) rfl rfl (Nat.le_of_ble_eq_true rfl) (fun hF => ?_)
 refine jsr ?_
 refine AOps.heap (HS.box hσ rfl rfl rfl rfl rfl rfl rfl) rfl ?_
 apply AOps.norm
 ·
  repeat' (first | exact jq0 rfl | apply jq1 rfl | exact jq2 rfl | exact jq9 rfl | apply jq3 rfl | exact jq4 rfl | apply jq5 rfl | exact jq6 rfl | exact jq7 rfl | exact jq8)
 refine jst hσ rfl rfl rfl rfl rfl ?_
 refine AOps.nil ?_
 refine jsr ?_
 refine jst hσ rfl rfl rfl rfl rfl ?_
 refine AOps.nil ?_
 refine jsr ?_
 refine jst hσ rfl rfl rfl rfl rfl ?_
 refine jst hσ rfl rfl rfl rfl rfl ?_
 refine AOps.lone hσ rfl rfl rfl rfl (c29 (s := s) (left := 1048576) h1 h2 (by decide) (by decide)) (VAs.self rfl) rfl rfl rfl rfl rfl (B0 := 26000) rfl ?_
 refine jst hσ rfl rfl rfl rfl rfl ?_
 refine AOps.forget [(7, _), (6, _), (3, _), (0, _), (1, _), (2, _)] ⟨rfl, rfl, rfl, rfl, rfl, rfl, trivial⟩ ?_
 refine AOps.nil ?_
 refine AWP.seq ?_
 refine jsr ?_
 refine jst hσ rfl rfl rfl rfl rfl ?_
 refine jst hσ rfl rfl rfl rfl rfl ?_
 refine AOps.nil ?_
 refine AWP.cond hσ rfl rfl (fun hc27 => ?_) (fun hc27 => ?_)
 ·
  skip
  exact absurd (of_decide_eq_true hc27) (Int.not_lt.2 hz1)
 ·
  skip
  refine AWP.skip ?_
  refine jsr ?_
  refine jst hσ rfl rfl rfl rfl rfl ?_
  refine jst hσ rfl rfl rfl rfl rfl ?_
  refine AOps.forget [(29, _), (28, _), (26, _), (7, _), (6, _), (3, _), (0, _), (1, _), (2, _)] ⟨rfl, rfl, rfl, rfl, rfl, rfl, rfl, rfl, rfl, trivial⟩ ?_
  have hle0 := szr_le (left := 1048576) (by decide) s.size
  refine AOps.lone hσ rfl rfl rfl rfl (c30 (ts := p) (left := szr 1048576 s.size) h1 h2 hz1 (by omega)) (VAs.self rfl) rfl rfl rfl rfl rfl (B0 := 31000) rfl ?_
  refine jst hσ rfl rfl rfl rfl rfl ?_
  refine AOps.forget [(7, _), (26, _), (6, _), (3, _), (0, _), (1, _), (2, _)] ⟨rfl, rfl, rfl, rfl, rfl, rfl, rfl, trivial⟩ ?_
  refine AOps.nil ?_
  refine AWP.seq ?_
  refine jsr ?_
  refine jst hσ rfl rfl rfl rfl rfl ?_
  refine jst hσ rfl rfl rfl rfl rfl ?_
  refine AOps.nil ?_
  refine AWP.cond hσ rfl rfl (fun hc32 => ?_) (fun hc32 => ?_)
  ·
   skip
   exact absurd (of_decide_eq_true hc32) (Int.not_lt.2 hz2)
  ·
   skip
   refine AWP.skip ?_
   refine jsr ?_
   refine jst hσ rfl rfl rfl rfl rfl ?_
   refine jst hσ rfl rfl rfl rfl rfl ?_
   refine AOps.forget [(34, _), (33, _), (31, _), (7, _), (26, _), (6, _), (3, _), (0, _), (1, _), (2, _)] ⟨rfl, rfl, rfl, rfl, rfl, rfl, rfl, rfl, rfl, rfl, trivial⟩ ?_
   have hle0 := szr_le (left := 1048576) (by decide) s.size
   have hle1 := szr_le (left := szr 1048576 s.size) hz1 (Al.szs Nd.size p)
   refine AOps.lone hσ rfl rfl rfl rfl (c52 (ts := extra) (left := szr (szr 1048576 s.size) (Al.szs Nd.size p)) h1 h2 hz2 (by omega)) (VAs.self rfl) rfl rfl rfl rfl rfl (B0 := 36000) rfl ?_
   refine jst hσ rfl rfl rfl rfl rfl ?_
   refine AOps.forget [(7, _), (31, _), (26, _), (6, _), (3, _), (0, _), (1, _), (2, _)] ⟨rfl, rfl, rfl, rfl, rfl, rfl, rfl, rfl, trivial⟩ ?_
   refine AOps.nil ?_
   refine AWP.seq ?_
   refine jsr ?_
   refine jst hσ rfl rfl rfl rfl rfl ?_
   refine jst hσ rfl rfl rfl rfl rfl ?_
   refine AOps.nil ?_
   refine AWP.cond hσ rfl rfl (fun hc37 => ?_) (fun hc37 => ?_)
   ·
    skip
    refine jsr ?_
    refine jst hσ rfl rfl rfl rfl rfl ?_
    refine AOps.nil ?_
    refine AWP.ret ?_
    refine ⟨.inl rfl, _, Ent.refl, _, rfl, ?_⟩
    rfl
   ·
    skip
    exact absurd (of_decide_eq_false hc37) (fun h => h hz)
end Go.Al
namespace Go.Al
open Go.Proofs
set_option linter.unusedVariables false
set_option linter.unusedSimpArgs false
theorem cnt_nds {p : List Nd} (h : isB p = true) : cnt nN p ≤ 2000 := by
  obtain ⟨_, h60, hn, _⟩ := isB_spec h
  have key : ∀ l : List Nd, (∀ x ∈ l, ndB x = true) → cnt nN l ≤ 33 * l.length := by
    intro l hl
    induction l with
    | nil => simp [cnt]
    | cons t r ih =>
      have h1 := ih fun t ht => hl t (by simp [ht])
      have h2 := hl t (by simp)
      have h3 := ok_len (ndB_term h2)
      have h4 := ndB_mlen h2
      simp only [cnt, List.map_cons, List.sum_cons, List.length_cons] at h1 ⊢
      have : nN t = 3 + t.term.xs.length + t.mul.length := rfl
      omega
  have := key p hn
  omega
theorem cnt_seq {s : Sq} (h : seqB s = true) : cnt nT s.facts + s.goal.xs.length ≤ 200 := by
  obtain ⟨h1, h2, h3⟩ := seqB_spec h
  have h4 := cnt_ctx (c := s.facts) ⟨h1, by omega⟩
  have h5 := ok_len h3
  omega
theorem cnt_acc {s : Sq} {p : List Nd} (h : chkS s p = true) : 1 + cnt nT s.facts + s.goal.xs.length + cnt nN p ≤ (1073741824 : Int) := by
  obtain ⟨h1, h2⟩ := chkS_spec h
  have h3 := cnt_seq h1
  have h4 := cnt_nds h2
  omega
/-- The law of LiftProof holds for all arguments. -/
theorem law1001 {L : Nat} (h1 : 4096 ≤ L) (h2 : L ≤ 9223372036854775807) {s : Sq} {p : List Nd} {extra : List Tm} : MC Try.prog L 4 [aSq s, ands p, atms extra] [] (Plain (eB true)) := by
  by_cases hz1 : szr 1048576 s.size < 0
  · exact c1001a h1 h2 hz1
  have hz1' : 0 ≤ szr 1048576 s.size := by omega
  by_cases hz2 : szr (szr 1048576 s.size) (szs Nd.size p) < 0
  · exact c1001b h1 h2 hz1' hz2
  have hz2' : 0 ≤ szr (szr 1048576 s.size) (szs Nd.size p) := by omega
  by_cases hz3 : szr (szr (szr 1048576 s.size) (szs Nd.size p)) (szs Tm.size extra) < 0
  · exact c1001c h1 h2 hz1' hz2' hz3
  have hz3' : 0 ≤ szr (szr (szr 1048576 s.size) (szs Nd.size p)) (szs Tm.size extra) := by omega
  have g1 := szr_nonneg hz1' (by decide)
  have g2 := szr_nonneg hz2' hz1'
  have g3 := szr_nonneg hz3' hz2'
  have l1 := szr_le (left := 1048576) (by decide) s.size
  have l2 := szr_le (left := szr 1048576 s.size) hz1' (szs Nd.size p)
  have k1 := cnt_szs s.facts
  have k2 := cnt_szsN p
  have k3 := cnt_szs extra
  have e1 : s.size = szs Tm.size s.facts + s.goal.xs.length := rfl
  have hcp : 1 + cnt nT s.facts + s.goal.xs.length + cnt nN p + cnt nT extra ≤ (1073741824 : Int) := by omega
  refine MC.facts ⟨_, _, Try.func4, by kernel_rfl, rfl⟩ fun hF => ?_
  refine MC.lift (L0 := 1073741824) rfl ?_ ?_
  · exact ⟨fact_sq hF.1 (by omega), fact_nds hF.2.1 (by omega), fact_tms hF.2.2.1 (by omega), trivial⟩
  · have cs := c1010 (L := 1073741824) (s := s) (p := p) (extra := extra) (by decide) (Nat.le_refl _)
    by_cases ha : chkS s p = true ∧ extra.length ≤ 14
    · cases hb : chkS (liftSq s extra) (liftNds s.facts.length extra.length p) with
      | true =>
        rw [show liftS s p extra = (liftSq s extra, liftNds s.facts.length extra.length p, true) from by unfold liftS; rw [if_pos ha, if_pos hb]] at cs
        exact c1001v (by decide) (Nat.le_refl _) (by simp [liftNds]) (cnt_acc hb) cs (c1011v (by decide) (Nat.le_refl _) ha.1 ha.2 hb) hz1' hz2' hz3' hcp
      | false =>
        rw [show liftS s p extra = noQ from by unfold liftS; rw [if_pos ha, if_neg (by rw [hb]; decide)]] at cs
        exact c1001n (by decide) (Nat.le_refl _) cs (c1011m (by decide) (Nat.le_refl _) ha.1 ha.2 hb) hz1' hz2' hz3' hcp
    · rw [show liftS s p extra = noQ from if_neg ha] at cs
      exact c1001n (by decide) (Nat.le_refl _) cs (c1011n (by decide) (Nat.le_refl _) ha) hz1' hz2' hz3' hcp
end Go.Al
