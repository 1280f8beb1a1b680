/- The laws, walked; the types of their arguments. -/
import Derived.Test.YtpdpbfokkimbbaaI
import Derived.Test.YtpdpbfokkimbbaaRows
namespace Go.Al
open Go.Proofs
set_option linter.unusedVariables false
set_option linter.unusedSimpArgs false
set_option maxRecDepth 10000
set_option maxHeartbeats 4000000
theorem mark_idem : ∀ {k : Int} {xs : List Int}, markL mI oneI k (markL mI oneI k xs) = markL mI oneI k xs
  | _, [] => rfl
  | k, x :: xs => by
    show k :: markL mI oneI (k + 1) (markL mI oneI (k + 1) xs) = k :: markL mI oneI (k + 1) xs
    rw [mark_idem]
theorem held_marks (xs : List Int) (k : Int) : (if markL mI oneI k xs = markL mI oneI k (markL mI oneI k xs) then k + ((markL mI oneI k xs).length : Int) else -1) = k + xs.length := by
  rw [if_pos mark_idem.symm, markL_length]
theorem c32d {L : Nat} (h1 : 4096 ≤ L) (h2 : L ≤ 1073741824) {s : Sq} : MC Try.prog L 32 [aSq s] [] (Plain (aSq s)) := (c32 h1 h2).frozen (.v (.agg (.cons (.whole rfl (List.length_map _).symm) (.cons .d (.cons (.whole rfl (List.length_map _).symm) .nil)))))
theorem c33d {L : Nat} (h1 : 4096 ≤ L) (h2 : L ≤ 1073741824) {p : List Nd} : MC Try.prog L 33 [ands p] [] (Plain (ands p)) := (c33 h1 h2).frozen (.v (.c (.whole rfl (List.length_map _).symm)))
theorem c7v {L : Nat} (h1 : 4096 ≤ L) (h2 : L ≤ 1073741824) {s : Sq} {p : List Nd} {c : List Int} (hcc : 1 + c.length ≤ (1073741824 : Int)) (cs : MC Try.prog L 50 [aSq s, ands p] [] (Plain (.tup [aints c, eB true]))) (ci : MC Try.prog L 51 [aSq s, ands p] [] (Rows (.tup [.c (.rs 0 0 c.length), eB true]) [nrow c])) (hz1 : 0 ≤ szr 1048576 s.size) (hz2 : 0 ≤ szr (szr 1048576 s.size) (szs Nd.size p)) (hcp : 1 + cnt nT s.facts + s.goal.xs.length + cnt nN p ≤ (1073741824 : Int)) : MC Try.prog L 7 [aSq s, ands p] [] (Plain (eB true)) := by
 refine MC.alone ?_ rfl
 have hσ := SGok (nt := 119) h1 (Nat.le_trans h2 (by decide))
 refine MC.body hσ Try.func7 (by kernel_rfl) rfl rfl (Nat.le_of_ble_eq_true rfl) (fun hF => ?_)
 have hbig : L ≤ 9223372036854775807 := Nat.le_trans h2 (by decide)
 refine AWP.seq ?_
 refine AWP.region ?_
 refine AOps.heap (HS.box hσ rfl rfl rfl rfl rfl rfl rfl) rfl ?_
 apply AOps.norm
 ·
  repeat' (first | exact HN.nil rfl | apply HN.cons rfl | exact BN.row rfl | exact BN.map rfl | apply BN.box rfl | exact MN.nil rfl | apply MN.cons rfl | exact XN.d rfl | exact XN.rs rfl | exact XN.self)
 refine AOps.step (Val.of hσ rfl rfl) rfl rfl rfl ?_
 refine AOps.nil ?_
 refine AWP.seq ?_
 refine AWP.region ?_
 refine AOps.step (Val.of hσ rfl rfl) rfl rfl rfl ?_
 refine AOps.nil ?_
 refine AWP.seq ?_
 refine AWP.region ?_
 refine AOps.step (Val.of hσ rfl rfl) rfl rfl rfl ?_
 refine AOps.step (Val.of hσ rfl rfl) rfl rfl rfl ?_
 refine AOps.lone hσ rfl rfl rfl rfl (c29 (s := s) (left := 1048576) h1 hbig (by decide) (by decide)) (VAs.self rfl) rfl rfl rfl rfl rfl (B0 := 20000) rfl ?_
 refine AOps.step (Val.of hσ rfl rfl) rfl rfl rfl ?_
 refine AOps.forget [(5, _), (4, _), (2, _), (0, _), (1, _)] ⟨rfl, rfl, rfl, rfl, rfl, trivial⟩ ?_
 refine AOps.nil ?_
 refine AWP.seq ?_
 refine AWP.seq ?_
 refine AWP.region ?_
 refine AOps.step (Val.of hσ rfl rfl) rfl rfl rfl ?_
 refine AOps.step (Val.of hσ rfl rfl) rfl rfl rfl ?_
 refine AOps.nil ?_
 refine AWP.cond hσ rfl rfl (fun hc21 => ?_) (fun hc21 => ?_)
 ·
  skip
  exact absurd (of_decide_eq_true hc21) (by omega)
 ·
  skip
  refine AWP.skip ?_
  refine AWP.seq ?_
  refine AWP.region ?_
  refine AOps.step (Val.of hσ rfl rfl) rfl rfl rfl ?_
  refine AOps.step (Val.of hσ rfl rfl) rfl rfl rfl ?_
  refine AOps.forget [(23, _), (22, _), (20, _), (5, _), (4, _), (2, _), (0, _), (1, _)] ⟨rfl, rfl, rfl, rfl, rfl, rfl, rfl, rfl, trivial⟩ ?_
  have hle := szr_le (left := 1048576) (by decide) s.size
  refine AOps.lone hσ rfl rfl rfl rfl (c30 (ts := p) h1 hbig hz1 (by omega)) (VAs.self rfl) rfl rfl rfl rfl rfl (B0 := 25000) rfl ?_
  refine AOps.step (Val.of hσ rfl rfl) rfl rfl rfl ?_
  refine AOps.forget [(5, _), (20, _), (4, _), (2, _), (0, _), (1, _)] ⟨rfl, rfl, rfl, rfl, rfl, rfl, trivial⟩ ?_
  refine AOps.nil ?_
  refine AWP.seq ?_
  refine AWP.seq ?_
  refine AWP.region ?_
  refine AOps.step (Val.of hσ rfl rfl) rfl rfl rfl ?_
  refine AOps.step (Val.of hσ rfl rfl) rfl rfl rfl ?_
  refine AOps.nil ?_
  refine AWP.cond hσ rfl rfl (fun hc26 => ?_) (fun hc26 => ?_)
  ·
   skip
   exact absurd (of_decide_eq_true hc26) (by omega)
  ·
   skip
   refine AWP.skip ?_
   refine AWP.seq ?_
   refine AWP.region ?_
   refine AOps.step (Val.of hσ rfl rfl) rfl rfl rfl ?_
   refine AOps.forget [(28, _), (25, _), (5, _), (20, _), (4, _), (2, _), (0, _), (1, _)] ⟨rfl, rfl, rfl, rfl, rfl, rfl, rfl, rfl, trivial⟩ ?_
   refine AOps.plainD hσ rfl rfl rfl rfl (c32d (s := s) h1 h2) (VAs.self rfl) rfl rfl rfl rfl (B0 := 30000) rfl rfl ?_
   refine AOps.step (Val.of hσ rfl rfl) rfl rfl rfl ?_
   refine AOps.forget [(30, _), (29, _), (25, _), (5, _), (20, _), (4, _), (2, _), (0, _), (1, _)] ⟨rfl, rfl, rfl, rfl, rfl, rfl, rfl, rfl, rfl, trivial⟩ ?_
   refine AOps.plainD hσ rfl rfl rfl rfl (c33d (p := p) h1 h2) (VAs.self rfl) rfl rfl rfl rfl (B0 := 32000) rfl rfl ?_
   refine AOps.forget [(31, _), (29, _), (25, _), (5, _), (20, _), (4, _), (2, _), (0, _), (1, _)] ⟨rfl, rfl, rfl, rfl, rfl, rfl, rfl, rfl, rfl, trivial⟩ ?_
   refine AOps.plainD hσ rfl rfl rfl rfl (cs) (VAs.self rfl) rfl rfl rfl rfl (B0 := 33000) rfl rfl ?_
   refine AOps.step (Val.of hσ rfl rfl) rfl rfl rfl ?_
   refine AOps.step (Val.of hσ rfl rfl) rfl rfl rfl ?_
   refine AOps.step (Val.of hσ rfl rfl) rfl rfl rfl ?_
   refine AOps.step (Val.of hσ rfl rfl) rfl rfl rfl ?_
   refine AOps.step (Val.of hσ rfl rfl) rfl rfl rfl ?_
   refine AOps.forget [(7, _), (6, _), (25, _), (5, _), (20, _), (4, _), (2, _), (0, _), (1, _)] ⟨rfl, rfl, rfl, rfl, rfl, rfl, rfl, rfl, rfl, trivial⟩ ?_
   refine AOps.nil ?_
   refine AWP.seq ?_
   refine AWP.region ?_
   refine AOps.step (Val.of hσ rfl rfl) rfl rfl rfl ?_
   refine AOps.rows hσ (B0 := 37000) rfl rfl rfl rfl (c32 (s := s) h1 h2) (VAs.self rfl) rfl rfl rfl rfl rfl rfl ?_
   apply AOps.norm
   ·
    repeat' (first | exact HN.nil rfl | apply HN.cons rfl | exact BN.row rfl | exact BN.map rfl | apply BN.box rfl | exact MN.nil rfl | apply MN.cons rfl | exact XN.d rfl | exact XN.rs rfl | exact XN.self)
   refine AOps.forget [(36, _), (7, _), (6, _), (25, _), (5, _), (20, _), (4, _), (2, _), (0, _), (1, _)] ⟨rfl, rfl, rfl, rfl, rfl, rfl, rfl, rfl, rfl, rfl, trivial⟩ ?_
   refine AOps.heap (HS.alloc hσ rfl rfl rfl rfl rfl) rfl ?_
   apply AOps.norm
   ·
    repeat' (first | exact HN.nil rfl | apply HN.cons rfl | exact BN.row rfl | exact BN.map rfl | apply BN.box rfl | exact MN.nil rfl | apply MN.cons rfl | exact XN.d rfl | exact XN.rs rfl | exact XN.self)
   refine AOps.heap (HS.storeBox hσ rfl rfl rfl rfl rfl rfl rfl rfl rfl rfl rfl) rfl ?_
   apply AOps.norm
   ·
    repeat' (first | exact HN.nil rfl | apply HN.cons rfl | exact BN.row rfl | exact BN.map rfl | apply BN.box rfl | exact MN.nil rfl | apply MN.cons rfl | exact XN.d rfl | exact XN.rs rfl | exact XN.self)
   refine AOps.nil ?_
   refine AWP.seq ?_
   refine AWP.region ?_
   refine AOps.step (Val.of hσ rfl rfl) rfl rfl rfl ?_
   refine AOps.rows hσ (B0 := 39000) rfl rfl rfl rfl (c33 (ts := p) h1 h2) (VAs.self rfl) rfl rfl rfl rfl rfl rfl ?_
   apply AOps.norm
   ·
    repeat' (first | exact HN.nil rfl | apply HN.cons rfl | exact BN.row rfl | exact BN.map rfl | apply BN.box rfl | exact MN.nil rfl | apply MN.cons rfl | exact XN.d rfl | exact XN.rs rfl | exact XN.self)
   refine AOps.step (Val.of hσ rfl rfl) rfl rfl rfl ?_
   refine AOps.forget [(9, _), (8, _), (36, _), (7, _), (6, _), (25, _), (5, _), (20, _), (4, _), (2, _), (0, _), (1, _)] ⟨rfl, rfl, rfl, rfl, rfl, rfl, rfl, rfl, rfl, rfl, rfl, rfl, trivial⟩ ?_
   refine AOps.nil ?_
   refine AWP.seq ?_
   refine AWP.region ?_
   refine AOps.step (Val.of hσ rfl rfl) rfl rfl rfl ?_
   refine AOps.step (Val.of hσ rfl rfl) rfl rfl rfl ?_
   refine AOps.rows hσ (B0 := 43000) rfl rfl rfl rfl (ci) (.cons (.agg (.cons (.whole rfl (List.length_map _).symm) (.cons .d (.cons (.whole rfl (List.length_map _).symm) .nil)))) (.cons (.c (.whole rfl (List.length_map _).symm)) .nil)) rfl rfl rfl rfl rfl rfl ?_
   apply AOps.norm
   ·
    repeat' (first | exact HN.nil rfl | apply HN.cons rfl | exact BN.row rfl | exact BN.map rfl | apply BN.box rfl | exact MN.nil rfl | apply MN.cons rfl | exact XN.d rfl | exact XN.rs rfl | exact XN.self)
   refine AOps.step (Val.of hσ rfl rfl) rfl rfl rfl ?_
   refine AOps.step (Val.of hσ rfl rfl) rfl rfl rfl ?_
   refine AOps.step (Val.of hσ rfl rfl) rfl rfl rfl ?_
   refine AOps.step (Val.of hσ rfl rfl) rfl rfl rfl ?_
   refine AOps.step (Val.of hσ rfl rfl) rfl rfl rfl ?_
   refine AOps.forget [(11, _), (10, _), (9, _), (8, _), (36, _), (7, _), (6, _), (25, _), (5, _), (20, _), (4, _), (2, _), (0, _), (1, _)] ⟨rfl, rfl, rfl, rfl, rfl, rfl, rfl, rfl, rfl, rfl, rfl, rfl, rfl, rfl, trivial⟩ ?_
   refine AOps.nil ?_
   refine AWP.seq ?_
   refine AWP.seq ?_
   refine AWP.region ?_
   refine AOps.step (Val.of hσ rfl rfl) rfl rfl rfl ?_
   refine AOps.step (Val.of hσ rfl rfl) rfl rfl rfl ?_
   refine AOps.lone hσ rfl rfl rfl rfl ((c15 (xs := c) (ys := c) h1 h2).plain (u := eB true) (by simp)) (.cons (.c (.whole rfl (List.length_map _).symm)) (.cons (.c .d) .nil)) rfl rfl rfl rfl rfl (B0 := 48000) rfl ?_
   refine AOps.step (Val.of hσ rfl rfl) rfl rfl rfl ?_
   refine AOps.step (Val.of hσ rfl rfl) rfl rfl rfl ?_
   refine AOps.forget [(49, _), (11, _), (10, _), (9, _), (8, _), (36, _), (7, _), (6, _), (25, _), (5, _), (20, _), (4, _), (2, _), (0, _), (1, _)] ⟨rfl, rfl, rfl, rfl, rfl, rfl, rfl, rfl, rfl, rfl, rfl, rfl, rfl, rfl, rfl, trivial⟩ ?_
   refine AOps.live rfl rfl rfl rfl rfl ?_
   refine AOps.step (Val.of hσ rfl rfl) rfl rfl rfl ?_
   refine AOps.live rfl rfl rfl rfl rfl ?_
   refine AOps.step (Val.of hσ rfl rfl) rfl rfl rfl ?_
   refine AOps.live rfl rfl rfl rfl rfl ?_
   refine AOps.step (Val.of hσ rfl rfl) rfl rfl rfl ?_
   refine AOps.step (Val.pickN hσ rfl rfl rfl rfl rfl) rfl rfl rfl ?_
   refine AOps.forget [(53, _), (11, _), (10, _), (9, _), (8, _), (36, _), (7, _), (6, _), (25, _), (5, _), (20, _), (4, _), (2, _), (0, _), (1, _)] ⟨rfl, rfl, rfl, rfl, rfl, rfl, rfl, rfl, rfl, rfl, rfl, rfl, rfl, rfl, rfl, trivial⟩ ?_
   refine AOps.nil ?_
   refine AWP.cond hσ rfl rfl (fun hc53 => ?_) (fun hc53 => ?_)
   ·
    skip
    exact absurd (show false = true from hc53) (by decide)
   ·
    skip
    refine AWP.skip ?_
    refine AWP.seq ?_
    refine AWP.seq ?_
    refine AWP.forget [(11, _), (10, _), (9, _), (8, _), (36, _), (7, _), (6, _), (25, _), (5, _), (20, _), (4, _), (2, _), (0, _), (1, _)] ⟨rfl, rfl, rfl, rfl, rfl, rfl, rfl, rfl, rfl, rfl, rfl, rfl, rfl, rfl, trivial⟩ ?_
    refine AWP.drawR hσ _ [_, _, _, _, _] [⟨[], 0, 1, none⟩, ⟨[], 0, 0, none⟩, ⟨[1], 0, 0, some 0⟩, ⟨[0, 1, 2], 0, 0, some 1⟩, ⟨[0, 1, 2, 3], 2, 2, none⟩] [2, 3] [_, _, _] rfl rfl (by decide) (by decide) (by kernel_rfl) (And.intro (And.intro (Val.of hσ rfl rfl) (Val.of hσ rfl rfl)) (And.intro (Val.of hσ rfl rfl) (And.intro (Eff.plainD hσ (B0 := 57000) rfl rfl rfl rfl (c32d (s := s) h1 h2) (VAs.self rfl) rfl rfl rfl rfl rfl) (And.intro (Eff.lone hσ (B0 := 58000) rfl rfl rfl rfl ((c36 (s := s) (t := s) h1 h2).plain (u := eB true) (by simp)) (.cons (.agg (.cons (.whole rfl (List.length_map _).symm) (.cons .d (.cons (.whole rfl (List.length_map _).symm) .nil)))) (.cons (.agg (VMs.self rfl)) .nil)) rfl rfl rfl rfl rfl) (And.intro (Val.of hσ rfl rfl) trivial))))) ?_
    refine AWP.forget [(58, _), (11, _), (10, _), (9, _), (8, _), (36, _), (7, _), (6, _), (25, _), (5, _), (20, _), (4, _), (2, _), (0, _), (1, _)] ⟨rfl, rfl, rfl, rfl, rfl, rfl, rfl, rfl, rfl, rfl, rfl, rfl, rfl, rfl, rfl, trivial⟩ ?_
    apply AWP.norm
    ·
     repeat' (first | exact HN.nil rfl | apply HN.cons rfl | exact BN.row rfl | exact BN.map rfl | apply BN.box rfl | exact MN.nil rfl | apply MN.cons rfl | exact XN.d rfl | exact XN.rs rfl | exact XN.self)
    refine AWP.cond hσ rfl rfl (fun hc58 => ?_) (fun hc58 => ?_)
    ·
     skip
     exact absurd (show false = true from hc58) (by decide)
    ·
     skip
     refine AWP.skip ?_
     refine AWP.seq ?_
     refine AWP.seq ?_
     refine AWP.region ?_
     refine AOps.step (Val.of hσ rfl rfl) rfl rfl rfl ?_
     refine AOps.step (Val.of hσ rfl rfl) rfl rfl rfl ?_
     refine AOps.forget [(60, _), (59, _), (11, _), (10, _), (9, _), (8, _), (36, _), (7, _), (6, _), (25, _), (5, _), (20, _), (4, _), (2, _), (0, _), (1, _)] ⟨rfl, rfl, rfl, rfl, rfl, rfl, rfl, rfl, rfl, rfl, rfl, rfl, rfl, rfl, rfl, rfl, trivial⟩ ?_
     refine AOps.plainD hσ rfl rfl rfl rfl (c33d (p := p) h1 h2) (VAs.self rfl) rfl rfl rfl rfl (B0 := 62000) rfl rfl ?_
     refine AOps.forget [(61, _), (59, _), (11, _), (10, _), (9, _), (8, _), (36, _), (7, _), (6, _), (25, _), (5, _), (20, _), (4, _), (2, _), (0, _), (1, _)] ⟨rfl, rfl, rfl, rfl, rfl, rfl, rfl, rfl, rfl, rfl, rfl, rfl, rfl, rfl, rfl, rfl, trivial⟩ ?_
     refine AOps.lone hσ rfl rfl rfl rfl ((c37 (xs := p) (ys := p) h1 h2).plain (u := eB true) (by simp)) (.cons (.c (.whole rfl (List.length_map _).symm)) (.cons (.c .d) .nil)) rfl rfl rfl rfl rfl (B0 := 63000) rfl ?_
     refine AOps.step (Val.of hσ rfl rfl) rfl rfl rfl ?_
     refine AOps.forget [(63, _), (11, _), (10, _), (9, _), (8, _), (36, _), (7, _), (6, _), (25, _), (5, _), (20, _), (4, _), (2, _), (0, _), (1, _)] ⟨rfl, rfl, rfl, rfl, rfl, rfl, rfl, rfl, rfl, rfl, rfl, rfl, rfl, rfl, rfl, trivial⟩ ?_
     refine AOps.nil ?_
     refine AWP.cond hσ rfl rfl (fun hc63 => ?_) (fun hc63 => ?_)
     ·
      skip
      exact absurd (show false = true from hc63) (by decide)
     ·
      skip
      refine AWP.skip ?_
      refine AWP.seq ?_
      refine AWP.region ?_
      refine AOps.step (Val.of hσ rfl rfl) rfl rfl rfl ?_
      refine AOps.nil ?_
      refine AWP.seq ?_
      refine AWP.region ?_
      refine AOps.step (Val.of hσ rfl rfl) rfl rfl rfl ?_
      refine AOps.step (Val.of hσ rfl rfl) rfl rfl rfl ?_
      refine AOps.forget [(65, _), (64, _), (12, _), (11, _), (10, _), (9, _), (8, _), (36, _), (7, _), (6, _), (25, _), (5, _), (20, _), (4, _), (2, _), (0, _), (1, _)] ⟨rfl, rfl, rfl, rfl, rfl, rfl, rfl, rfl, rfl, rfl, rfl, rfl, rfl, rfl, rfl, rfl, rfl, trivial⟩ ?_
      refine AOps.inn hσ [37000, 37001] (bin := [trow s.facts, nrow s.goal.xs]) rfl rfl rfl rfl (c38 (s := s) (k := 1) h1 h2 (by decide) (by omega)) rfl rfl rfl rfl rfl rfl (B0 := 67000) rfl rfl ?_
      apply AOps.norm
      ·
       repeat' (first | exact HN.nil rfl | apply HN.cons rfl | exact BN.row rfl | exact BN.map rfl | apply BN.box rfl | exact MN.nil rfl | apply MN.cons rfl | exact XN.d rfl | exact XN.rs rfl | exact XN.self)
      refine AOps.step (Val.of hσ rfl rfl) rfl rfl rfl ?_
      refine AOps.forget [(12, _), (11, _), (10, _), (9, _), (8, _), (36, _), (7, _), (6, _), (25, _), (5, _), (20, _), (4, _), (2, _), (0, _), (1, _)] ⟨rfl, rfl, rfl, rfl, rfl, rfl, rfl, rfl, rfl, rfl, rfl, rfl, rfl, rfl, rfl, trivial⟩ ?_
      refine AOps.nil ?_
      refine AWP.seq ?_
      refine AWP.region ?_
      refine AOps.step (Val.of hσ rfl rfl) rfl rfl rfl ?_
      refine AOps.step (Val.of hσ rfl rfl) rfl rfl rfl ?_
      refine AOps.inn hσ [39000] (bin := [ndrow p]) rfl rfl rfl rfl (c39 (ts := p) (k := 1 + cnt nT s.facts + s.goal.xs.length) h1 h2 (by omega) (by omega)) rfl rfl rfl rfl rfl rfl (B0 := 70000) rfl rfl ?_
      apply AOps.norm
      ·
       repeat' (first | exact HN.nil rfl | apply HN.cons rfl | exact BN.row rfl | exact BN.map rfl | apply BN.box rfl | exact MN.nil rfl | apply MN.cons rfl | exact XN.d rfl | exact XN.rs rfl | exact XN.self)
      refine AOps.step (Val.of hσ rfl rfl) rfl rfl rfl ?_
      refine AOps.forget [(12, _), (11, _), (10, _), (9, _), (8, _), (36, _), (7, _), (6, _), (25, _), (5, _), (20, _), (4, _), (2, _), (0, _), (1, _)] ⟨rfl, rfl, rfl, rfl, rfl, rfl, rfl, rfl, rfl, rfl, rfl, rfl, rfl, rfl, rfl, trivial⟩ ?_
      refine AOps.nil ?_
      refine AWP.seq ?_
      refine AWP.seq ?_
      refine AWP.region ?_
      refine AOps.step (Val.of hσ rfl rfl) rfl rfl rfl ?_
      refine AOps.step (Val.of hσ rfl rfl) rfl rfl rfl ?_
      rw [decide_eq_false (show ¬ (1 + cnt nT s.facts + s.goal.xs.length + cnt nN p : Int) < 0 by omega)]
      refine AOps.step (Val.of hσ rfl rfl) rfl rfl rfl ?_
      refine AOps.forget [(72, _), (12, _), (11, _), (10, _), (9, _), (8, _), (36, _), (7, _), (6, _), (25, _), (5, _), (20, _), (4, _), (2, _), (0, _), (1, _)] ⟨rfl, rfl, rfl, rfl, rfl, rfl, rfl, rfl, rfl, rfl, rfl, rfl, rfl, rfl, rfl, rfl, trivial⟩ ?_
      refine AOps.live rfl rfl rfl rfl rfl ?_
      refine AOps.step (Val.of hσ rfl rfl) rfl rfl rfl ?_
      refine AOps.live rfl rfl rfl rfl rfl ?_
      refine AOps.step (Val.of hσ rfl rfl) rfl rfl rfl ?_
      refine AOps.live rfl rfl rfl rfl rfl ?_
      refine AOps.lone hσ rfl rfl rfl rfl ((c15 (xs := c) (ys := c) h1 h2).plain (u := eB true) (by simp)) (.cons (.c (.whole rfl (List.length_map _).symm)) (.cons (.c .d) .nil)) rfl rfl rfl rfl rfl (B0 := 76000) rfl ?_
      refine AOps.forget [(75, _), (72, _), (12, _), (11, _), (10, _), (9, _), (8, _), (36, _), (7, _), (6, _), (25, _), (5, _), (20, _), (4, _), (2, _), (0, _), (1, _)] ⟨rfl, rfl, rfl, rfl, rfl, rfl, rfl, rfl, rfl, rfl, rfl, rfl, rfl, rfl, rfl, rfl, rfl, trivial⟩ ?_
      refine AOps.live rfl rfl rfl rfl rfl ?_
      refine AOps.step (Val.of hσ rfl rfl) rfl rfl rfl ?_
      refine AOps.step (Val.pickN hσ rfl rfl rfl rfl rfl) rfl rfl rfl ?_
      refine AOps.step (Val.of hσ rfl rfl) rfl rfl rfl ?_
      refine AOps.forget [(78, _), (12, _), (11, _), (10, _), (9, _), (8, _), (36, _), (7, _), (6, _), (25, _), (5, _), (20, _), (4, _), (2, _), (0, _), (1, _)] ⟨rfl, rfl, rfl, rfl, rfl, rfl, rfl, rfl, rfl, rfl, rfl, rfl, rfl, rfl, rfl, rfl, trivial⟩ ?_
      refine AOps.live rfl rfl rfl rfl rfl ?_
      refine AOps.step (Val.of hσ rfl rfl) rfl rfl rfl ?_
      refine AOps.live rfl rfl rfl rfl rfl ?_
      refine AOps.step (Val.of hσ rfl rfl) rfl rfl rfl ?_
      refine AOps.live rfl rfl rfl rfl rfl ?_
      refine AOps.step (Val.of hσ rfl rfl) rfl rfl rfl ?_
      refine AOps.step (Val.pickN hσ rfl rfl rfl rfl rfl) rfl rfl rfl ?_
      refine AOps.forget [(82, _), (12, _), (11, _), (10, _), (9, _), (8, _), (36, _), (7, _), (6, _), (25, _), (5, _), (20, _), (4, _), (2, _), (0, _), (1, _)] ⟨rfl, rfl, rfl, rfl, rfl, rfl, rfl, rfl, rfl, rfl, rfl, rfl, rfl, rfl, rfl, rfl, trivial⟩ ?_
      refine AOps.nil ?_
      refine AWP.cond hσ rfl rfl (fun hc82 => ?_) (fun hc82 => ?_)
      ·
       skip
       exact absurd (show false = true from hc82) (by decide)
      ·
       skip
       refine AWP.skip ?_
       refine AWP.seq ?_
       refine AWP.region ?_
       refine AOps.step (Val.of hσ rfl rfl) rfl rfl rfl ?_
       refine AOps.nil ?_
       refine AWP.seq ?_
       refine AWP.region ?_
       refine AOps.step (Val.of hσ rfl rfl) rfl rfl rfl ?_
       refine AOps.step (Val.of hσ rfl rfl) rfl rfl rfl ?_
       refine AOps.forget [(84, _), (83, _), (13, _), (12, _), (11, _), (10, _), (9, _), (8, _), (36, _), (7, _), (6, _), (25, _), (5, _), (20, _), (4, _), (2, _), (0, _), (1, _)] ⟨rfl, rfl, rfl, rfl, rfl, rfl, rfl, rfl, rfl, rfl, rfl, rfl, rfl, rfl, rfl, rfl, rfl, rfl, trivial⟩ ?_
       refine AOps.inn hσ [43000] (bin := [nrow c]) rfl rfl rfl rfl (c19 (xs := c) (k := 1) h1 h2 (by decide) (by omega)) rfl rfl rfl rfl rfl rfl (B0 := 86000) rfl rfl ?_
       apply AOps.norm
       ·
        repeat' (first | exact HN.nil rfl | apply HN.cons rfl | exact BN.row rfl | exact BN.map rfl | apply BN.box rfl | exact MN.nil rfl | apply MN.cons rfl | exact XN.d rfl | exact XN.rs rfl | exact XN.self)
       refine AOps.step (Val.of hσ rfl rfl) rfl rfl rfl ?_
       refine AOps.forget [(13, _), (12, _), (11, _), (10, _), (9, _), (8, _), (36, _), (7, _), (6, _), (25, _), (5, _), (20, _), (4, _), (2, _), (0, _), (1, _)] ⟨rfl, rfl, rfl, rfl, rfl, rfl, rfl, rfl, rfl, rfl, rfl, rfl, rfl, rfl, rfl, rfl, trivial⟩ ?_
       refine AOps.nil ?_
       refine AWP.seq ?_
       refine AWP.region ?_
       refine AOps.step (Val.of hσ rfl rfl) rfl rfl rfl ?_
       refine AOps.nil ?_
       refine AWP.seq ?_
       refine AWP.region ?_
       refine AOps.step (Val.of hσ rfl rfl) rfl rfl rfl ?_
       refine AOps.step (Val.of hσ rfl rfl) rfl rfl rfl ?_
       refine AOps.lone hσ rfl rfl rfl rfl ((c21 (xs := markL mI oneI 1 c) (k := 1) h1 h2 (by decide) (by omega)).plain (congrArg eI (held_marks c 1))) (.cons (.c (.whole rfl (by rw [List.length_map, markL_length]))) (.cons (.c .d) .nil)) rfl rfl rfl rfl rfl (B0 := 89000) rfl ?_
       refine AOps.step (Val.of hσ rfl rfl) rfl rfl rfl ?_
       refine AOps.forget [(14, _), (13, _), (12, _), (11, _), (10, _), (9, _), (8, _), (36, _), (7, _), (6, _), (25, _), (5, _), (20, _), (4, _), (2, _), (0, _), (1, _)] ⟨rfl, rfl, rfl, rfl, rfl, rfl, rfl, rfl, rfl, rfl, rfl, rfl, rfl, rfl, rfl, rfl, rfl, trivial⟩ ?_
       refine AOps.nil ?_
       refine AWP.seq ?_
       refine AWP.seq ?_
       refine AWP.region ?_
       refine AOps.step (Val.of hσ rfl rfl) rfl rfl rfl ?_
       refine AOps.step (Val.of hσ rfl rfl) rfl rfl rfl ?_
       refine AOps.nil ?_
       refine AWP.cond hσ rfl rfl (fun hc90 => ?_) (fun hc90 => ?_)
       ·
        skip
        exact absurd (of_decide_eq_true hc90) (by omega)
       ·
        skip
        refine AWP.skip ?_
        refine AWP.seq ?_
        refine AWP.seq ?_
        refine AWP.region ?_
        refine AOps.step (Val.of hσ rfl rfl) rfl rfl rfl ?_
        refine AOps.step (Val.of hσ rfl rfl) rfl rfl rfl ?_
        refine AOps.step (Val.of hσ rfl rfl) rfl rfl rfl ?_
        refine AOps.forget [(93, _), (89, _), (14, _), (13, _), (12, _), (11, _), (10, _), (9, _), (8, _), (36, _), (7, _), (6, _), (25, _), (5, _), (20, _), (4, _), (2, _), (0, _), (1, _)] ⟨rfl, rfl, rfl, rfl, rfl, rfl, rfl, rfl, rfl, rfl, rfl, rfl, rfl, rfl, rfl, rfl, rfl, rfl, rfl, trivial⟩ ?_
        refine AOps.nil ?_
        refine AWP.cond hσ rfl rfl (fun hc93 => ?_) (fun hc93 => ?_)
        ·
         skip
         exact absurd hc93 (by simp)
        ·
         skip
         refine AWP.skip ?_
         refine AWP.seq ?_
         refine AWP.region ?_
         refine AOps.step (Val.of hσ rfl rfl) rfl rfl rfl ?_
         refine AOps.forget [(95, _), (89, _), (14, _), (13, _), (12, _), (11, _), (10, _), (9, _), (8, _), (36, _), (7, _), (6, _), (25, _), (5, _), (20, _), (4, _), (2, _), (0, _), (1, _)] ⟨rfl, rfl, rfl, rfl, rfl, rfl, rfl, rfl, rfl, rfl, rfl, rfl, rfl, rfl, rfl, rfl, rfl, rfl, rfl, trivial⟩ ?_
         refine AOps.plainD hσ rfl rfl rfl rfl (c32d (s := s) h1 h2) (VAs.self rfl) rfl rfl rfl rfl (B0 := 97000) rfl rfl ?_
         refine AOps.step (Val.of hσ rfl rfl) rfl rfl rfl ?_
         refine AOps.forget [(97, _), (96, _), (89, _), (14, _), (13, _), (12, _), (11, _), (10, _), (9, _), (8, _), (36, _), (7, _), (6, _), (25, _), (5, _), (20, _), (4, _), (2, _), (0, _), (1, _)] ⟨rfl, rfl, rfl, rfl, rfl, rfl, rfl, rfl, rfl, rfl, rfl, rfl, rfl, rfl, rfl, rfl, rfl, rfl, rfl, rfl, trivial⟩ ?_
         refine AOps.plainD hσ rfl rfl rfl rfl (c33d (p := p) h1 h2) (VAs.self rfl) rfl rfl rfl rfl (B0 := 99000) rfl rfl ?_
         refine AOps.forget [(98, _), (96, _), (89, _), (14, _), (13, _), (12, _), (11, _), (10, _), (9, _), (8, _), (36, _), (7, _), (6, _), (25, _), (5, _), (20, _), (4, _), (2, _), (0, _), (1, _)] ⟨rfl, rfl, rfl, rfl, rfl, rfl, rfl, rfl, rfl, rfl, rfl, rfl, rfl, rfl, rfl, rfl, rfl, rfl, rfl, rfl, trivial⟩ ?_
         refine AOps.rows hσ (B0 := 100000) rfl rfl rfl rfl (ci) (VAs.self rfl) rfl rfl rfl rfl rfl rfl ?_
         apply AOps.norm
         ·
          repeat' (first | exact HN.nil rfl | apply HN.cons rfl | exact BN.row rfl | exact BN.map rfl | apply BN.box rfl | exact MN.nil rfl | apply MN.cons rfl | exact XN.d rfl | exact XN.rs rfl | exact XN.self)
         refine AOps.step (Val.of hσ rfl rfl) rfl rfl rfl ?_
         refine AOps.step (Val.of hσ rfl rfl) rfl rfl rfl ?_
         refine AOps.step (Val.of hσ rfl rfl) rfl rfl rfl ?_
         refine AOps.step (Val.of hσ rfl rfl) rfl rfl rfl ?_
         refine AOps.step (Val.of hσ rfl rfl) rfl rfl rfl ?_
         refine AOps.forget [(16, _), (15, _), (89, _), (14, _), (13, _), (12, _), (11, _), (10, _), (9, _), (8, _), (36, _), (7, _), (6, _), (25, _), (5, _), (20, _), (4, _), (2, _), (0, _), (1, _)] ⟨rfl, rfl, rfl, rfl, rfl, rfl, rfl, rfl, rfl, rfl, rfl, rfl, rfl, rfl, rfl, rfl, rfl, rfl, rfl, rfl, trivial⟩ ?_
         refine AOps.nil ?_
         refine AWP.seq ?_
         refine AWP.seq ?_
         refine AWP.region ?_
         refine AOps.step (Val.of hσ rfl rfl) rfl rfl rfl ?_
         refine AOps.step (Val.of hσ rfl rfl) rfl rfl rfl ?_
         refine AOps.forget [(103, _), (102, _), (16, _), (89, _), (14, _), (13, _), (12, _), (11, _), (10, _), (9, _), (8, _), (36, _), (7, _), (6, _), (25, _), (5, _), (20, _), (4, _), (2, _), (0, _), (1, _)] ⟨rfl, rfl, rfl, rfl, rfl, rfl, rfl, rfl, rfl, rfl, rfl, rfl, rfl, rfl, rfl, rfl, rfl, rfl, rfl, rfl, rfl, trivial⟩ ?_
         refine AOps.lone hσ rfl rfl rfl rfl ((c15 (xs := c) (ys := c) h1 h2).plain (u := eB true) (by simp)) (.cons (.c (.whole rfl (List.length_map _).symm)) (.cons (.c .d) .nil)) rfl rfl rfl rfl rfl (B0 := 105000) rfl ?_
         refine AOps.step (Val.of hσ rfl rfl) rfl rfl rfl ?_
         refine AOps.step (Val.of hσ rfl rfl) rfl rfl rfl ?_
         refine AOps.forget [(106, _), (16, _), (89, _), (14, _), (13, _), (12, _), (11, _), (10, _), (9, _), (8, _), (36, _), (7, _), (6, _), (25, _), (5, _), (20, _), (4, _), (2, _), (0, _), (1, _)] ⟨rfl, rfl, rfl, rfl, rfl, rfl, rfl, rfl, rfl, rfl, rfl, rfl, rfl, rfl, rfl, rfl, rfl, rfl, rfl, rfl, trivial⟩ ?_
         refine AOps.live rfl rfl rfl rfl rfl ?_
         refine AOps.step (Val.of hσ rfl rfl) rfl rfl rfl ?_
         refine AOps.forget [(107, _), (106, _), (89, _), (14, _), (13, _), (12, _), (11, _), (10, _), (9, _), (8, _), (36, _), (7, _), (6, _), (25, _), (5, _), (20, _), (4, _), (2, _), (0, _), (1, _)] ⟨rfl, rfl, rfl, rfl, rfl, rfl, rfl, rfl, rfl, rfl, rfl, rfl, rfl, rfl, rfl, rfl, rfl, rfl, rfl, rfl, trivial⟩ ?_
         refine AOps.live rfl rfl rfl rfl rfl ?_
         refine AOps.step (Val.of hσ rfl rfl) rfl rfl rfl ?_
         refine AOps.live rfl rfl rfl rfl rfl ?_
         refine AOps.step (Val.of hσ rfl rfl) rfl rfl rfl ?_
         refine AOps.step (Val.pickN hσ rfl rfl rfl rfl rfl) rfl rfl rfl ?_
         refine AOps.forget [(110, _), (89, _), (14, _), (13, _), (12, _), (11, _), (10, _), (9, _), (8, _), (36, _), (7, _), (6, _), (25, _), (5, _), (20, _), (4, _), (2, _), (0, _), (1, _)] ⟨rfl, rfl, rfl, rfl, rfl, rfl, rfl, rfl, rfl, rfl, rfl, rfl, rfl, rfl, rfl, rfl, rfl, rfl, rfl, trivial⟩ ?_
         refine AOps.nil ?_
         refine AWP.cond hσ rfl rfl (fun hc110 => ?_) (fun hc110 => ?_)
         ·
          skip
          exact absurd (show false = true from hc110) (by decide)
         ·
          skip
          refine AWP.skip ?_
          refine AWP.seq ?_
          refine AWP.region ?_
          refine AOps.step (Val.of hσ rfl rfl) rfl rfl rfl ?_
          refine AOps.nil ?_
          refine AWP.seq ?_
          refine AWP.region ?_
          refine AOps.step (Val.of hσ rfl rfl) rfl rfl rfl ?_
          refine AOps.step (Val.of hσ rfl rfl) rfl rfl rfl ?_
          refine AOps.forget [(112, _), (111, _), (14, _), (89, _), (13, _), (12, _), (11, _), (10, _), (9, _), (8, _), (36, _), (7, _), (6, _), (25, _), (5, _), (20, _), (4, _), (2, _), (0, _), (1, _)] ⟨rfl, rfl, rfl, rfl, rfl, rfl, rfl, rfl, rfl, rfl, rfl, rfl, rfl, rfl, rfl, rfl, rfl, rfl, rfl, rfl, trivial⟩ ?_
          refine AOps.lone hσ rfl rfl rfl rfl ((c21 (xs := markL mI oneI 1 c) (k := 1) h1 h2 (by decide) (by omega)).plain (congrArg eI (held_marks c 1))) (.cons (.c (.whole rfl (by rw [List.length_map, markL_length]))) (.cons (.c .d) .nil)) rfl rfl rfl rfl rfl (B0 := 114000) rfl ?_
          refine AOps.step (Val.of hσ rfl rfl) rfl rfl rfl ?_
          refine AOps.forget [(14, _), (89, _), (13, _), (12, _), (11, _), (10, _), (9, _), (8, _), (36, _), (7, _), (6, _), (25, _), (5, _), (20, _), (4, _), (2, _), (0, _), (1, _)] ⟨rfl, rfl, rfl, rfl, rfl, rfl, rfl, rfl, rfl, rfl, rfl, rfl, rfl, rfl, rfl, rfl, rfl, rfl, trivial⟩ ?_
          refine AOps.nil ?_
          refine AWP.seq ?_
          refine AWP.seq ?_
          refine AWP.region ?_
          refine AOps.step (Val.of hσ rfl rfl) rfl rfl rfl ?_
          refine AOps.step (Val.of hσ rfl rfl) rfl rfl rfl ?_
          refine AOps.nil ?_
          refine AWP.cond hσ rfl rfl (fun hc115 => ?_) (fun hc115 => ?_)
          ·
           skip
           exact absurd (of_decide_eq_true hc115) (by omega)
          ·
           skip
           refine AWP.skip ?_
           refine AWP.seq ?_
           refine AWP.seq ?_
           refine AWP.region ?_
           refine AOps.step (Val.of hσ rfl rfl) rfl rfl rfl ?_
           refine AOps.step (Val.of hσ rfl rfl) rfl rfl rfl ?_
           refine AOps.step (Val.of hσ rfl rfl) rfl rfl rfl ?_
           refine AOps.forget [(118, _), (114, _), (14, _), (89, _), (13, _), (12, _), (11, _), (10, _), (9, _), (8, _), (36, _), (7, _), (6, _), (25, _), (5, _), (20, _), (4, _), (2, _), (0, _), (1, _)] ⟨rfl, rfl, rfl, rfl, rfl, rfl, rfl, rfl, rfl, rfl, rfl, rfl, rfl, rfl, rfl, rfl, rfl, rfl, rfl, rfl, trivial⟩ ?_
           refine AOps.nil ?_
           refine AWP.cond hσ rfl rfl (fun hc118 => ?_) (fun hc118 => ?_)
           ·
            skip
            exact absurd hc118 (by simp)
           ·
            skip
            refine AWP.skip ?_
            refine AWP.seq ?_
            refine AWP.region ?_
            refine AOps.step (Val.of hσ rfl rfl) rfl rfl rfl ?_
            refine AOps.nil ?_
            refine AWP.ret ?_
            refine ⟨.inl rfl, _, Ent.refl, _, rfl, ?_⟩
            rfl
theorem c7n {L : Nat} (h1 : 4096 ≤ L) (h2 : L ≤ 1073741824) {s : Sq} {p : List Nd} (cs : MC Try.prog L 50 [aSq s, ands p] [] (Plain (.tup [aints [], eB false]))) (ci : MC Try.prog L 51 [aSq s, ands p] [] (Rows (.tup [.c (.d .nils), eB false]) [])) (hz1 : 0 ≤ szr 1048576 s.size) (hz2 : 0 ≤ szr (szr 1048576 s.size) (szs Nd.size p)) (hcp : 1 + cnt nT s.facts + s.goal.xs.length + cnt nN p ≤ (1073741824 : Int)) : MC Try.prog L 7 [aSq s, ands p] [] (Plain (eB true)) := by
 refine MC.alone ?_ rfl
 have hσ := SGok (nt := 119) h1 (Nat.le_trans h2 (by decide))
 refine MC.body hσ Try.func7 (by kernel_rfl) rfl rfl (Nat.le_of_ble_eq_true rfl) (fun hF => ?_)
 have hbig : L ≤ 9223372036854775807 := Nat.le_trans h2 (by decide)
 refine AWP.seq ?_
 refine AWP.region ?_
 refine AOps.heap (HS.box hσ rfl rfl rfl rfl rfl rfl rfl) rfl ?_
 apply AOps.norm
 ·
  repeat' (first | exact HN.nil rfl | apply HN.cons rfl | exact BN.row rfl | exact BN.map rfl | apply BN.box rfl | exact MN.nil rfl | apply MN.cons rfl | exact XN.d rfl | exact XN.rs rfl | exact XN.self)
 refine AOps.step (Val.of hσ rfl rfl) rfl rfl rfl ?_
 refine AOps.nil ?_
 refine AWP.seq ?_
 refine AWP.region ?_
 refine AOps.step (Val.of hσ rfl rfl) rfl rfl rfl ?_
 refine AOps.nil ?_
 refine AWP.seq ?_
 refine AWP.region ?_
 refine AOps.step (Val.of hσ rfl rfl) rfl rfl rfl ?_
 refine AOps.step (Val.of hσ rfl rfl) rfl rfl rfl ?_
 refine AOps.lone hσ rfl rfl rfl rfl (c29 (s := s) (left := 1048576) h1 hbig (by decide) (by decide)) (VAs.self rfl) rfl rfl rfl rfl rfl (B0 := 20000) rfl ?_
 refine AOps.step (Val.of hσ rfl rfl) rfl rfl rfl ?_
 refine AOps.forget [(5, _), (4, _), (2, _), (0, _), (1, _)] ⟨rfl, rfl, rfl, rfl, rfl, trivial⟩ ?_
 refine AOps.nil ?_
 refine AWP.seq ?_
 refine AWP.seq ?_
 refine AWP.region ?_
 refine AOps.step (Val.of hσ rfl rfl) rfl rfl rfl ?_
 refine AOps.step (Val.of hσ rfl rfl) rfl rfl rfl ?_
 refine AOps.nil ?_
 refine AWP.cond hσ rfl rfl (fun hc21 => ?_) (fun hc21 => ?_)
 ·
  skip
  exact absurd (of_decide_eq_true hc21) (by omega)
 ·
  skip
  refine AWP.skip ?_
  refine AWP.seq ?_
  refine AWP.region ?_
  refine AOps.step (Val.of hσ rfl rfl) rfl rfl rfl ?_
  refine AOps.step (Val.of hσ rfl rfl) rfl rfl rfl ?_
  refine AOps.forget [(23, _), (22, _), (20, _), (5, _), (4, _), (2, _), (0, _), (1, _)] ⟨rfl, rfl, rfl, rfl, rfl, rfl, rfl, rfl, trivial⟩ ?_
  have hle := szr_le (left := 1048576) (by decide) s.size
  refine AOps.lone hσ rfl rfl rfl rfl (c30 (ts := p) h1 hbig hz1 (by omega)) (VAs.self rfl) rfl rfl rfl rfl rfl (B0 := 25000) rfl ?_
  refine AOps.step (Val.of hσ rfl rfl) rfl rfl rfl ?_
  refine AOps.forget [(5, _), (20, _), (4, _), (2, _), (0, _), (1, _)] ⟨rfl, rfl, rfl, rfl, rfl, rfl, trivial⟩ ?_
  refine AOps.nil ?_
  refine AWP.seq ?_
  refine AWP.seq ?_
  refine AWP.region ?_
  refine AOps.step (Val.of hσ rfl rfl) rfl rfl rfl ?_
  refine AOps.step (Val.of hσ rfl rfl) rfl rfl rfl ?_
  refine AOps.nil ?_
  refine AWP.cond hσ rfl rfl (fun hc26 => ?_) (fun hc26 => ?_)
  ·
   skip
   exact absurd (of_decide_eq_true hc26) (by omega)
  ·
   skip
   refine AWP.skip ?_
   refine AWP.seq ?_
   refine AWP.region ?_
   refine AOps.step (Val.of hσ rfl rfl) rfl rfl rfl ?_
   refine AOps.forget [(28, _), (25, _), (5, _), (20, _), (4, _), (2, _), (0, _), (1, _)] ⟨rfl, rfl, rfl, rfl, rfl, rfl, rfl, rfl, trivial⟩ ?_
   refine AOps.plainD hσ rfl rfl rfl rfl (c32d (s := s) h1 h2) (VAs.self rfl) rfl rfl rfl rfl (B0 := 30000) rfl rfl ?_
   refine AOps.step (Val.of hσ rfl rfl) rfl rfl rfl ?_
   refine AOps.forget [(30, _), (29, _), (25, _), (5, _), (20, _), (4, _), (2, _), (0, _), (1, _)] ⟨rfl, rfl, rfl, rfl, rfl, rfl, rfl, rfl, rfl, trivial⟩ ?_
   refine AOps.plainD hσ rfl rfl rfl rfl (c33d (p := p) h1 h2) (VAs.self rfl) rfl rfl rfl rfl (B0 := 32000) rfl rfl ?_
   refine AOps.forget [(31, _), (29, _), (25, _), (5, _), (20, _), (4, _), (2, _), (0, _), (1, _)] ⟨rfl, rfl, rfl, rfl, rfl, rfl, rfl, rfl, rfl, trivial⟩ ?_
   refine AOps.plainD hσ rfl rfl rfl rfl (cs) (VAs.self rfl) rfl rfl rfl rfl (B0 := 33000) rfl rfl ?_
   refine AOps.step (Val.of hσ rfl rfl) rfl rfl rfl ?_
   refine AOps.step (Val.of hσ rfl rfl) rfl rfl rfl ?_
   refine AOps.step (Val.of hσ rfl rfl) rfl rfl rfl ?_
   refine AOps.step (Val.of hσ rfl rfl) rfl rfl rfl ?_
   refine AOps.step (Val.of hσ rfl rfl) rfl rfl rfl ?_
   refine AOps.forget [(7, _), (6, _), (25, _), (5, _), (20, _), (4, _), (2, _), (0, _), (1, _)] ⟨rfl, rfl, rfl, rfl, rfl, rfl, rfl, rfl, rfl, trivial⟩ ?_
   refine AOps.nil ?_
   refine AWP.seq ?_
   refine AWP.region ?_
   refine AOps.step (Val.of hσ rfl rfl) rfl rfl rfl ?_
   refine AOps.rows hσ (B0 := 37000) rfl rfl rfl rfl (c32 (s := s) h1 h2) (VAs.self rfl) rfl rfl rfl rfl rfl rfl ?_
   apply AOps.norm
   ·
    repeat' (first | exact HN.nil rfl | apply HN.cons rfl | exact BN.row rfl | exact BN.map rfl | apply BN.box rfl | exact MN.nil rfl | apply MN.cons rfl | exact XN.d rfl | exact XN.rs rfl | exact XN.self)
   refine AOps.forget [(36, _), (7, _), (6, _), (25, _), (5, _), (20, _), (4, _), (2, _), (0, _), (1, _)] ⟨rfl, rfl, rfl, rfl, rfl, rfl, rfl, rfl, rfl, rfl, trivial⟩ ?_
   refine AOps.heap (HS.alloc hσ rfl rfl rfl rfl rfl) rfl ?_
   apply AOps.norm
   ·
    repeat' (first | exact HN.nil rfl | apply HN.cons rfl | exact BN.row rfl | exact BN.map rfl | apply BN.box rfl | exact MN.nil rfl | apply MN.cons rfl | exact XN.d rfl | exact XN.rs rfl | exact XN.self)
   refine AOps.heap (HS.storeBox hσ rfl rfl rfl rfl rfl rfl rfl rfl rfl rfl rfl) rfl ?_
   apply AOps.norm
   ·
    repeat' (first | exact HN.nil rfl | apply HN.cons rfl | exact BN.row rfl | exact BN.map rfl | apply BN.box rfl | exact MN.nil rfl | apply MN.cons rfl | exact XN.d rfl | exact XN.rs rfl | exact XN.self)
   refine AOps.nil ?_
   refine AWP.seq ?_
   refine AWP.region ?_
   refine AOps.step (Val.of hσ rfl rfl) rfl rfl rfl ?_
   refine AOps.rows hσ (B0 := 39000) rfl rfl rfl rfl (c33 (ts := p) h1 h2) (VAs.self rfl) rfl rfl rfl rfl rfl rfl ?_
   apply AOps.norm
   ·
    repeat' (first | exact HN.nil rfl | apply HN.cons rfl | exact BN.row rfl | exact BN.map rfl | apply BN.box rfl | exact MN.nil rfl | apply MN.cons rfl | exact XN.d rfl | exact XN.rs rfl | exact XN.self)
   refine AOps.step (Val.of hσ rfl rfl) rfl rfl rfl ?_
   refine AOps.forget [(9, _), (8, _), (36, _), (7, _), (6, _), (25, _), (5, _), (20, _), (4, _), (2, _), (0, _), (1, _)] ⟨rfl, rfl, rfl, rfl, rfl, rfl, rfl, rfl, rfl, rfl, rfl, rfl, trivial⟩ ?_
   refine AOps.nil ?_
   refine AWP.seq ?_
   refine AWP.region ?_
   refine AOps.step (Val.of hσ rfl rfl) rfl rfl rfl ?_
   refine AOps.step (Val.of hσ rfl rfl) rfl rfl rfl ?_
   refine AOps.rows hσ (B0 := 43000) rfl rfl rfl rfl (ci) (.cons (.agg (.cons (.whole rfl (List.length_map _).symm) (.cons .d (.cons (.whole rfl (List.length_map _).symm) .nil)))) (.cons (.c (.whole rfl (List.length_map _).symm)) .nil)) rfl rfl rfl rfl rfl rfl ?_
   apply AOps.norm
   ·
    repeat' (first | exact HN.nil rfl | apply HN.cons rfl | exact BN.row rfl | exact BN.map rfl | apply BN.box rfl | exact MN.nil rfl | apply MN.cons rfl | exact XN.d rfl | exact XN.rs rfl | exact XN.self)
   refine AOps.step (Val.of hσ rfl rfl) rfl rfl rfl ?_
   refine AOps.step (Val.of hσ rfl rfl) rfl rfl rfl ?_
   refine AOps.step (Val.of hσ rfl rfl) rfl rfl rfl ?_
   refine AOps.step (Val.of hσ rfl rfl) rfl rfl rfl ?_
   refine AOps.step (Val.of hσ rfl rfl) rfl rfl rfl ?_
   refine AOps.forget [(11, _), (10, _), (9, _), (8, _), (36, _), (7, _), (6, _), (25, _), (5, _), (20, _), (4, _), (2, _), (0, _), (1, _)] ⟨rfl, rfl, rfl, rfl, rfl, rfl, rfl, rfl, rfl, rfl, rfl, rfl, rfl, rfl, trivial⟩ ?_
   refine AOps.nil ?_
   refine AWP.seq ?_
   refine AWP.seq ?_
   refine AWP.region ?_
   refine AOps.step (Val.of hσ rfl rfl) rfl rfl rfl ?_
   refine AOps.step (Val.of hσ rfl rfl) rfl rfl rfl ?_
   refine AOps.lone hσ rfl rfl rfl rfl ((c15 (xs := []) (ys := []) h1 h2).plain (u := eB true) (by simp)) (.cons (.c .nils) (.cons (.c .d) .nil)) rfl rfl rfl rfl rfl (B0 := 48000) rfl ?_
   refine AOps.step (Val.of hσ rfl rfl) rfl rfl rfl ?_
   refine AOps.step (Val.of hσ rfl rfl) rfl rfl rfl ?_
   refine AOps.forget [(49, _), (11, _), (10, _), (9, _), (8, _), (36, _), (7, _), (6, _), (25, _), (5, _), (20, _), (4, _), (2, _), (0, _), (1, _)] ⟨rfl, rfl, rfl, rfl, rfl, rfl, rfl, rfl, rfl, rfl, rfl, rfl, rfl, rfl, rfl, trivial⟩ ?_
   refine AOps.live rfl rfl rfl rfl rfl ?_
   refine AOps.step (Val.of hσ rfl rfl) rfl rfl rfl ?_
   refine AOps.live rfl rfl rfl rfl rfl ?_
   refine AOps.step (Val.of hσ rfl rfl) rfl rfl rfl ?_
   refine AOps.live rfl rfl rfl rfl rfl ?_
   refine AOps.step (Val.of hσ rfl rfl) rfl rfl rfl ?_
   refine AOps.step (Val.pickN hσ rfl rfl rfl rfl rfl) rfl rfl rfl ?_
   refine AOps.forget [(53, _), (11, _), (10, _), (9, _), (8, _), (36, _), (7, _), (6, _), (25, _), (5, _), (20, _), (4, _), (2, _), (0, _), (1, _)] ⟨rfl, rfl, rfl, rfl, rfl, rfl, rfl, rfl, rfl, rfl, rfl, rfl, rfl, rfl, rfl, trivial⟩ ?_
   refine AOps.nil ?_
   refine AWP.cond hσ rfl rfl (fun hc53 => ?_) (fun hc53 => ?_)
   ·
    skip
    exact absurd (show false = true from hc53) (by decide)
   ·
    skip
    refine AWP.skip ?_
    refine AWP.seq ?_
    refine AWP.seq ?_
    refine AWP.forget [(11, _), (10, _), (9, _), (8, _), (36, _), (7, _), (6, _), (25, _), (5, _), (20, _), (4, _), (2, _), (0, _), (1, _)] ⟨rfl, rfl, rfl, rfl, rfl, rfl, rfl, rfl, rfl, rfl, rfl, rfl, rfl, rfl, trivial⟩ ?_
    refine AWP.drawR hσ _ [_, _, _, _, _] [⟨[], 0, 1, none⟩, ⟨[], 0, 0, none⟩, ⟨[1], 0, 0, some 0⟩, ⟨[0, 1, 2], 0, 0, some 1⟩, ⟨[0, 1, 2, 3], 2, 2, none⟩] [2, 3] [_, _, _] rfl rfl (by decide) (by decide) (by kernel_rfl) (And.intro (And.intro (Val.of hσ rfl rfl) (Val.of hσ rfl rfl)) (And.intro (Val.of hσ rfl rfl) (And.intro (Eff.plainD hσ (B0 := 57000) rfl rfl rfl rfl (c32d (s := s) h1 h2) (VAs.self rfl) rfl rfl rfl rfl rfl) (And.intro (Eff.lone hσ (B0 := 58000) rfl rfl rfl rfl ((c36 (s := s) (t := s) h1 h2).plain (u := eB true) (by simp)) (.cons (.agg (.cons (.whole rfl (List.length_map _).symm) (.cons .d (.cons (.whole rfl (List.length_map _).symm) .nil)))) (.cons (.agg (VMs.self rfl)) .nil)) rfl rfl rfl rfl rfl) (And.intro (Val.of hσ rfl rfl) trivial))))) ?_
    refine AWP.forget [(58, _), (11, _), (10, _), (9, _), (8, _), (36, _), (7, _), (6, _), (25, _), (5, _), (20, _), (4, _), (2, _), (0, _), (1, _)] ⟨rfl, rfl, rfl, rfl, rfl, rfl, rfl, rfl, rfl, rfl, rfl, rfl, rfl, rfl, rfl, trivial⟩ ?_
    apply AWP.norm
    ·
     repeat' (first | exact HN.nil rfl | apply HN.cons rfl | exact BN.row rfl | exact BN.map rfl | apply BN.box rfl | exact MN.nil rfl | apply MN.cons rfl | exact XN.d rfl | exact XN.rs rfl | exact XN.self)
    refine AWP.cond hσ rfl rfl (fun hc58 => ?_) (fun hc58 => ?_)
    ·
     skip
     exact absurd (show false = true from hc58) (by decide)
    ·
     skip
     refine AWP.skip ?_
     refine AWP.seq ?_
     refine AWP.seq ?_
     refine AWP.region ?_
     refine AOps.step (Val.of hσ rfl rfl) rfl rfl rfl ?_
     refine AOps.step (Val.of hσ rfl rfl) rfl rfl rfl ?_
     refine AOps.forget [(60, _), (59, _), (11, _), (10, _), (9, _), (8, _), (36, _), (7, _), (6, _), (25, _), (5, _), (20, _), (4, _), (2, _), (0, _), (1, _)] ⟨rfl, rfl, rfl, rfl, rfl, rfl, rfl, rfl, rfl, rfl, rfl, rfl, rfl, rfl, rfl, rfl, trivial⟩ ?_
     refine AOps.plainD hσ rfl rfl rfl rfl (c33d (p := p) h1 h2) (VAs.self rfl) rfl rfl rfl rfl (B0 := 62000) rfl rfl ?_
     refine AOps.forget [(61, _), (59, _), (11, _), (10, _), (9, _), (8, _), (36, _), (7, _), (6, _), (25, _), (5, _), (20, _), (4, _), (2, _), (0, _), (1, _)] ⟨rfl, rfl, rfl, rfl, rfl, rfl, rfl, rfl, rfl, rfl, rfl, rfl, rfl, rfl, rfl, rfl, trivial⟩ ?_
     refine AOps.lone hσ rfl rfl rfl rfl ((c37 (xs := p) (ys := p) h1 h2).plain (u := eB true) (by simp)) (.cons (.c (.whole rfl (List.length_map _).symm)) (.cons (.c .d) .nil)) rfl rfl rfl rfl rfl (B0 := 63000) rfl ?_
     refine AOps.step (Val.of hσ rfl rfl) rfl rfl rfl ?_
     refine AOps.forget [(63, _), (11, _), (10, _), (9, _), (8, _), (36, _), (7, _), (6, _), (25, _), (5, _), (20, _), (4, _), (2, _), (0, _), (1, _)] ⟨rfl, rfl, rfl, rfl, rfl, rfl, rfl, rfl, rfl, rfl, rfl, rfl, rfl, rfl, rfl, trivial⟩ ?_
     refine AOps.nil ?_
     refine AWP.cond hσ rfl rfl (fun hc63 => ?_) (fun hc63 => ?_)
     ·
      skip
      exact absurd (show false = true from hc63) (by decide)
     ·
      skip
      refine AWP.skip ?_
      refine AWP.seq ?_
      refine AWP.region ?_
      refine AOps.step (Val.of hσ rfl rfl) rfl rfl rfl ?_
      refine AOps.nil ?_
      refine AWP.seq ?_
      refine AWP.region ?_
      refine AOps.step (Val.of hσ rfl rfl) rfl rfl rfl ?_
      refine AOps.step (Val.of hσ rfl rfl) rfl rfl rfl ?_
      refine AOps.forget [(65, _), (64, _), (12, _), (11, _), (10, _), (9, _), (8, _), (36, _), (7, _), (6, _), (25, _), (5, _), (20, _), (4, _), (2, _), (0, _), (1, _)] ⟨rfl, rfl, rfl, rfl, rfl, rfl, rfl, rfl, rfl, rfl, rfl, rfl, rfl, rfl, rfl, rfl, rfl, trivial⟩ ?_
      refine AOps.inn hσ [37000, 37001] (bin := [trow s.facts, nrow s.goal.xs]) rfl rfl rfl rfl (c38 (s := s) (k := 1) h1 h2 (by decide) (by omega)) rfl rfl rfl rfl rfl rfl (B0 := 67000) rfl rfl ?_
      apply AOps.norm
      ·
       repeat' (first | exact HN.nil rfl | apply HN.cons rfl | exact BN.row rfl | exact BN.map rfl | apply BN.box rfl | exact MN.nil rfl | apply MN.cons rfl | exact XN.d rfl | exact XN.rs rfl | exact XN.self)
      refine AOps.step (Val.of hσ rfl rfl) rfl rfl rfl ?_
      refine AOps.forget [(12, _), (11, _), (10, _), (9, _), (8, _), (36, _), (7, _), (6, _), (25, _), (5, _), (20, _), (4, _), (2, _), (0, _), (1, _)] ⟨rfl, rfl, rfl, rfl, rfl, rfl, rfl, rfl, rfl, rfl, rfl, rfl, rfl, rfl, rfl, trivial⟩ ?_
      refine AOps.nil ?_
      refine AWP.seq ?_
      refine AWP.region ?_
      refine AOps.step (Val.of hσ rfl rfl) rfl rfl rfl ?_
      refine AOps.step (Val.of hσ rfl rfl) rfl rfl rfl ?_
      refine AOps.inn hσ [39000] (bin := [ndrow p]) rfl rfl rfl rfl (c39 (ts := p) (k := 1 + cnt nT s.facts + s.goal.xs.length) h1 h2 (by omega) (by omega)) rfl rfl rfl rfl rfl rfl (B0 := 70000) rfl rfl ?_
      apply AOps.norm
      ·
       repeat' (first | exact HN.nil rfl | apply HN.cons rfl | exact BN.row rfl | exact BN.map rfl | apply BN.box rfl | exact MN.nil rfl | apply MN.cons rfl | exact XN.d rfl | exact XN.rs rfl | exact XN.self)
      refine AOps.step (Val.of hσ rfl rfl) rfl rfl rfl ?_
      refine AOps.forget [(12, _), (11, _), (10, _), (9, _), (8, _), (36, _), (7, _), (6, _), (25, _), (5, _), (20, _), (4, _), (2, _), (0, _), (1, _)] ⟨rfl, rfl, rfl, rfl, rfl, rfl, rfl, rfl, rfl, rfl, rfl, rfl, rfl, rfl, rfl, trivial⟩ ?_
      refine AOps.nil ?_
      refine AWP.seq ?_
      refine AWP.seq ?_
      refine AWP.region ?_
      refine AOps.step (Val.of hσ rfl rfl) rfl rfl rfl ?_
      refine AOps.step (Val.of hσ rfl rfl) rfl rfl rfl ?_
      rw [decide_eq_false (show ¬ (1 + cnt nT s.facts + s.goal.xs.length + cnt nN p : Int) < 0 by omega)]
      refine AOps.step (Val.of hσ rfl rfl) rfl rfl rfl ?_
      refine AOps.forget [(72, _), (12, _), (11, _), (10, _), (9, _), (8, _), (36, _), (7, _), (6, _), (25, _), (5, _), (20, _), (4, _), (2, _), (0, _), (1, _)] ⟨rfl, rfl, rfl, rfl, rfl, rfl, rfl, rfl, rfl, rfl, rfl, rfl, rfl, rfl, rfl, rfl, trivial⟩ ?_
      refine AOps.live rfl rfl rfl rfl rfl ?_
      refine AOps.step (Val.of hσ rfl rfl) rfl rfl rfl ?_
      refine AOps.live rfl rfl rfl rfl rfl ?_
      refine AOps.step (Val.of hσ rfl rfl) rfl rfl rfl ?_
      refine AOps.live rfl rfl rfl rfl rfl ?_
      refine AOps.lone hσ rfl rfl rfl rfl ((c15 (xs := []) (ys := []) h1 h2).plain (u := eB true) (by simp)) (.cons (.c .nils) (.cons (.c .d) .nil)) rfl rfl rfl rfl rfl (B0 := 76000) rfl ?_
      refine AOps.forget [(75, _), (72, _), (12, _), (11, _), (10, _), (9, _), (8, _), (36, _), (7, _), (6, _), (25, _), (5, _), (20, _), (4, _), (2, _), (0, _), (1, _)] ⟨rfl, rfl, rfl, rfl, rfl, rfl, rfl, rfl, rfl, rfl, rfl, rfl, rfl, rfl, rfl, rfl, rfl, trivial⟩ ?_
      refine AOps.live rfl rfl rfl rfl rfl ?_
      refine AOps.step (Val.of hσ rfl rfl) rfl rfl rfl ?_
      refine AOps.step (Val.pickN hσ rfl rfl rfl rfl rfl) rfl rfl rfl ?_
      refine AOps.step (Val.of hσ rfl rfl) rfl rfl rfl ?_
      refine AOps.forget [(78, _), (12, _), (11, _), (10, _), (9, _), (8, _), (36, _), (7, _), (6, _), (25, _), (5, _), (20, _), (4, _), (2, _), (0, _), (1, _)] ⟨rfl, rfl, rfl, rfl, rfl, rfl, rfl, rfl, rfl, rfl, rfl, rfl, rfl, rfl, rfl, rfl, trivial⟩ ?_
      refine AOps.live rfl rfl rfl rfl rfl ?_
      refine AOps.step (Val.of hσ rfl rfl) rfl rfl rfl ?_
      refine AOps.live rfl rfl rfl rfl rfl ?_
      refine AOps.step (Val.of hσ rfl rfl) rfl rfl rfl ?_
      refine AOps.live rfl rfl rfl rfl rfl ?_
      refine AOps.step (Val.of hσ rfl rfl) rfl rfl rfl ?_
      refine AOps.step (Val.pickN hσ rfl rfl rfl rfl rfl) rfl rfl rfl ?_
      refine AOps.forget [(82, _), (12, _), (11, _), (10, _), (9, _), (8, _), (36, _), (7, _), (6, _), (25, _), (5, _), (20, _), (4, _), (2, _), (0, _), (1, _)] ⟨rfl, rfl, rfl, rfl, rfl, rfl, rfl, rfl, rfl, rfl, rfl, rfl, rfl, rfl, rfl, rfl, trivial⟩ ?_
      refine AOps.nil ?_
      refine AWP.cond hσ rfl rfl (fun hc82 => ?_) (fun hc82 => ?_)
      ·
       skip
       exact absurd (show false = true from hc82) (by decide)
      ·
       skip
       refine AWP.skip ?_
       refine AWP.seq ?_
       refine AWP.region ?_
       refine AOps.step (Val.of hσ rfl rfl) rfl rfl rfl ?_
       refine AOps.nil ?_
       refine AWP.seq ?_
       refine AWP.region ?_
       refine AOps.step (Val.of hσ rfl rfl) rfl rfl rfl ?_
       refine AOps.step (Val.of hσ rfl rfl) rfl rfl rfl ?_
       refine AOps.forget [(84, _), (83, _), (13, _), (12, _), (11, _), (10, _), (9, _), (8, _), (36, _), (7, _), (6, _), (25, _), (5, _), (20, _), (4, _), (2, _), (0, _), (1, _)] ⟨rfl, rfl, rfl, rfl, rfl, rfl, rfl, rfl, rfl, rfl, rfl, rfl, rfl, rfl, rfl, rfl, rfl, rfl, trivial⟩ ?_
       refine AOps.lone hσ rfl rfl rfl rfl (c19n (k := 1) h1 h2) (.cons (.c .nils) (.cons (.c .d) .nil)) rfl rfl rfl rfl rfl (B0 := 86000) rfl ?_
       refine AOps.step (Val.of hσ rfl rfl) rfl rfl rfl ?_
       refine AOps.forget [(13, _), (12, _), (11, _), (10, _), (9, _), (8, _), (36, _), (7, _), (6, _), (25, _), (5, _), (20, _), (4, _), (2, _), (0, _), (1, _)] ⟨rfl, rfl, rfl, rfl, rfl, rfl, rfl, rfl, rfl, rfl, rfl, rfl, rfl, rfl, rfl, rfl, trivial⟩ ?_
       refine AOps.nil ?_
       refine AWP.seq ?_
       refine AWP.region ?_
       refine AOps.step (Val.of hσ rfl rfl) rfl rfl rfl ?_
       refine AOps.nil ?_
       refine AWP.seq ?_
       refine AWP.region ?_
       refine AOps.step (Val.of hσ rfl rfl) rfl rfl rfl ?_
       refine AOps.step (Val.of hσ rfl rfl) rfl rfl rfl ?_
       refine AOps.lone hσ rfl rfl rfl rfl ((c21 (xs := []) (k := 1) h1 h2 (by decide) (by decide)).plain (u := eI 1) rfl) (.cons (.c .nils) (.cons (.c .d) .nil)) rfl rfl rfl rfl rfl (B0 := 89000) rfl ?_
       refine AOps.step (Val.of hσ rfl rfl) rfl rfl rfl ?_
       refine AOps.forget [(14, _), (13, _), (12, _), (11, _), (10, _), (9, _), (8, _), (36, _), (7, _), (6, _), (25, _), (5, _), (20, _), (4, _), (2, _), (0, _), (1, _)] ⟨rfl, rfl, rfl, rfl, rfl, rfl, rfl, rfl, rfl, rfl, rfl, rfl, rfl, rfl, rfl, rfl, rfl, trivial⟩ ?_
       refine AOps.nil ?_
       refine AWP.seq ?_
       refine AWP.seq ?_
       refine AWP.region ?_
       refine AOps.step (Val.of hσ rfl rfl) rfl rfl rfl ?_
       refine AOps.step (Val.of hσ rfl rfl) rfl rfl rfl ?_
       refine AOps.nil ?_
       refine AWP.cond hσ rfl rfl (fun hc90 => ?_) (fun hc90 => ?_)
       ·
        skip
        exact absurd (of_decide_eq_true hc90) (by decide)
       ·
        skip
        refine AWP.skip ?_
        refine AWP.seq ?_
        refine AWP.seq ?_
        refine AWP.region ?_
        refine AOps.step (Val.of hσ rfl rfl) rfl rfl rfl ?_
        refine AOps.step (Val.of hσ rfl rfl) rfl rfl rfl ?_
        refine AOps.step (Val.of hσ rfl rfl) rfl rfl rfl ?_
        refine AOps.forget [(93, _), (89, _), (14, _), (13, _), (12, _), (11, _), (10, _), (9, _), (8, _), (36, _), (7, _), (6, _), (25, _), (5, _), (20, _), (4, _), (2, _), (0, _), (1, _)] ⟨rfl, rfl, rfl, rfl, rfl, rfl, rfl, rfl, rfl, rfl, rfl, rfl, rfl, rfl, rfl, rfl, rfl, rfl, rfl, trivial⟩ ?_
        refine AOps.nil ?_
        refine AWP.cond hσ rfl rfl (fun hc93 => ?_) (fun hc93 => ?_)
        ·
         skip
         exact absurd hc93 (by simp)
        ·
         skip
         refine AWP.skip ?_
         refine AWP.seq ?_
         refine AWP.region ?_
         refine AOps.step (Val.of hσ rfl rfl) rfl rfl rfl ?_
         refine AOps.forget [(95, _), (89, _), (14, _), (13, _), (12, _), (11, _), (10, _), (9, _), (8, _), (36, _), (7, _), (6, _), (25, _), (5, _), (20, _), (4, _), (2, _), (0, _), (1, _)] ⟨rfl, rfl, rfl, rfl, rfl, rfl, rfl, rfl, rfl, rfl, rfl, rfl, rfl, rfl, rfl, rfl, rfl, rfl, rfl, trivial⟩ ?_
         refine AOps.plainD hσ rfl rfl rfl rfl (c32d (s := s) h1 h2) (VAs.self rfl) rfl rfl rfl rfl (B0 := 97000) rfl rfl ?_
         refine AOps.step (Val.of hσ rfl rfl) rfl rfl rfl ?_
         refine AOps.forget [(97, _), (96, _), (89, _), (14, _), (13, _), (12, _), (11, _), (10, _), (9, _), (8, _), (36, _), (7, _), (6, _), (25, _), (5, _), (20, _), (4, _), (2, _), (0, _), (1, _)] ⟨rfl, rfl, rfl, rfl, rfl, rfl, rfl, rfl, rfl, rfl, rfl, rfl, rfl, rfl, rfl, rfl, rfl, rfl, rfl, rfl, trivial⟩ ?_
         refine AOps.plainD hσ rfl rfl rfl rfl (c33d (p := p) h1 h2) (VAs.self rfl) rfl rfl rfl rfl (B0 := 99000) rfl rfl ?_
         refine AOps.forget [(98, _), (96, _), (89, _), (14, _), (13, _), (12, _), (11, _), (10, _), (9, _), (8, _), (36, _), (7, _), (6, _), (25, _), (5, _), (20, _), (4, _), (2, _), (0, _), (1, _)] ⟨rfl, rfl, rfl, rfl, rfl, rfl, rfl, rfl, rfl, rfl, rfl, rfl, rfl, rfl, rfl, rfl, rfl, rfl, rfl, rfl, trivial⟩ ?_
         refine AOps.rows hσ (B0 := 100000) rfl rfl rfl rfl (ci) (VAs.self rfl) rfl rfl rfl rfl rfl rfl ?_
         apply AOps.norm
         ·
          repeat' (first | exact HN.nil rfl | apply HN.cons rfl | exact BN.row rfl | exact BN.map rfl | apply BN.box rfl | exact MN.nil rfl | apply MN.cons rfl | exact XN.d rfl | exact XN.rs rfl | exact XN.self)
         refine AOps.step (Val.of hσ rfl rfl) rfl rfl rfl ?_
         refine AOps.step (Val.of hσ rfl rfl) rfl rfl rfl ?_
         refine AOps.step (Val.of hσ rfl rfl) rfl rfl rfl ?_
         refine AOps.step (Val.of hσ rfl rfl) rfl rfl rfl ?_
         refine AOps.step (Val.of hσ rfl rfl) rfl rfl rfl ?_
         refine AOps.forget [(16, _), (15, _), (89, _), (14, _), (13, _), (12, _), (11, _), (10, _), (9, _), (8, _), (36, _), (7, _), (6, _), (25, _), (5, _), (20, _), (4, _), (2, _), (0, _), (1, _)] ⟨rfl, rfl, rfl, rfl, rfl, rfl, rfl, rfl, rfl, rfl, rfl, rfl, rfl, rfl, rfl, rfl, rfl, rfl, rfl, rfl, trivial⟩ ?_
         refine AOps.nil ?_
         refine AWP.seq ?_
         refine AWP.seq ?_
         refine AWP.region ?_
         refine AOps.step (Val.of hσ rfl rfl) rfl rfl rfl ?_
         refine AOps.step (Val.of hσ rfl rfl) rfl rfl rfl ?_
         refine AOps.forget [(103, _), (102, _), (16, _), (89, _), (14, _), (13, _), (12, _), (11, _), (10, _), (9, _), (8, _), (36, _), (7, _), (6, _), (25, _), (5, _), (20, _), (4, _), (2, _), (0, _), (1, _)] ⟨rfl, rfl, rfl, rfl, rfl, rfl, rfl, rfl, rfl, rfl, rfl, rfl, rfl, rfl, rfl, rfl, rfl, rfl, rfl, rfl, rfl, trivial⟩ ?_
         refine AOps.lone hσ rfl rfl rfl rfl ((c15 (xs := []) (ys := []) h1 h2).plain (u := eB true) (by simp)) (.cons (.c .nils) (.cons (.c .d) .nil)) rfl rfl rfl rfl rfl (B0 := 105000) rfl ?_
         refine AOps.step (Val.of hσ rfl rfl) rfl rfl rfl ?_
         refine AOps.step (Val.of hσ rfl rfl) rfl rfl rfl ?_
         refine AOps.forget [(106, _), (16, _), (89, _), (14, _), (13, _), (12, _), (11, _), (10, _), (9, _), (8, _), (36, _), (7, _), (6, _), (25, _), (5, _), (20, _), (4, _), (2, _), (0, _), (1, _)] ⟨rfl, rfl, rfl, rfl, rfl, rfl, rfl, rfl, rfl, rfl, rfl, rfl, rfl, rfl, rfl, rfl, rfl, rfl, rfl, rfl, trivial⟩ ?_
         refine AOps.live rfl rfl rfl rfl rfl ?_
         refine AOps.step (Val.of hσ rfl rfl) rfl rfl rfl ?_
         refine AOps.forget [(107, _), (106, _), (89, _), (14, _), (13, _), (12, _), (11, _), (10, _), (9, _), (8, _), (36, _), (7, _), (6, _), (25, _), (5, _), (20, _), (4, _), (2, _), (0, _), (1, _)] ⟨rfl, rfl, rfl, rfl, rfl, rfl, rfl, rfl, rfl, rfl, rfl, rfl, rfl, rfl, rfl, rfl, rfl, rfl, rfl, rfl, trivial⟩ ?_
         refine AOps.live rfl rfl rfl rfl rfl ?_
         refine AOps.step (Val.of hσ rfl rfl) rfl rfl rfl ?_
         refine AOps.live rfl rfl rfl rfl rfl ?_
         refine AOps.step (Val.of hσ rfl rfl) rfl rfl rfl ?_
         refine AOps.step (Val.pickN hσ rfl rfl rfl rfl rfl) rfl rfl rfl ?_
         refine AOps.forget [(110, _), (89, _), (14, _), (13, _), (12, _), (11, _), (10, _), (9, _), (8, _), (36, _), (7, _), (6, _), (25, _), (5, _), (20, _), (4, _), (2, _), (0, _), (1, _)] ⟨rfl, rfl, rfl, rfl, rfl, rfl, rfl, rfl, rfl, rfl, rfl, rfl, rfl, rfl, rfl, rfl, rfl, rfl, rfl, trivial⟩ ?_
         refine AOps.nil ?_
         refine AWP.cond hσ rfl rfl (fun hc110 => ?_) (fun hc110 => ?_)
         ·
          skip
          exact absurd (show false = true from hc110) (by decide)
         ·
          skip
          refine AWP.skip ?_
          refine AWP.seq ?_
          refine AWP.region ?_
          refine AOps.step (Val.of hσ rfl rfl) rfl rfl rfl ?_
          refine AOps.nil ?_
          refine AWP.seq ?_
          refine AWP.region ?_
          refine AOps.step (Val.of hσ rfl rfl) rfl rfl rfl ?_
          refine AOps.step (Val.of hσ rfl rfl) rfl rfl rfl ?_
          refine AOps.forget [(112, _), (111, _), (14, _), (89, _), (13, _), (12, _), (11, _), (10, _), (9, _), (8, _), (36, _), (7, _), (6, _), (25, _), (5, _), (20, _), (4, _), (2, _), (0, _), (1, _)] ⟨rfl, rfl, rfl, rfl, rfl, rfl, rfl, rfl, rfl, rfl, rfl, rfl, rfl, rfl, rfl, rfl, rfl, rfl, rfl, rfl, trivial⟩ ?_
          refine AOps.lone hσ rfl rfl rfl rfl ((c21 (xs := []) (k := 1) h1 h2 (by decide) (by decide)).plain (u := eI 1) rfl) (.cons (.c .nils) (.cons (.c .d) .nil)) rfl rfl rfl rfl rfl (B0 := 114000) rfl ?_
          refine AOps.step (Val.of hσ rfl rfl) rfl rfl rfl ?_
          refine AOps.forget [(14, _), (89, _), (13, _), (12, _), (11, _), (10, _), (9, _), (8, _), (36, _), (7, _), (6, _), (25, _), (5, _), (20, _), (4, _), (2, _), (0, _), (1, _)] ⟨rfl, rfl, rfl, rfl, rfl, rfl, rfl, rfl, rfl, rfl, rfl, rfl, rfl, rfl, rfl, rfl, rfl, rfl, trivial⟩ ?_
          refine AOps.nil ?_
          refine AWP.seq ?_
          refine AWP.seq ?_
          refine AWP.region ?_
          refine AOps.step (Val.of hσ rfl rfl) rfl rfl rfl ?_
          refine AOps.step (Val.of hσ rfl rfl) rfl rfl rfl ?_
          refine AOps.nil ?_
          refine AWP.cond hσ rfl rfl (fun hc115 => ?_) (fun hc115 => ?_)
          ·
           skip
           exact absurd (of_decide_eq_true hc115) (by decide)
          ·
           skip
           refine AWP.skip ?_
           refine AWP.seq ?_
           refine AWP.seq ?_
           refine AWP.region ?_
           refine AOps.step (Val.of hσ rfl rfl) rfl rfl rfl ?_
           refine AOps.step (Val.of hσ rfl rfl) rfl rfl rfl ?_
           refine AOps.step (Val.of hσ rfl rfl) rfl rfl rfl ?_
           refine AOps.forget [(118, _), (114, _), (14, _), (89, _), (13, _), (12, _), (11, _), (10, _), (9, _), (8, _), (36, _), (7, _), (6, _), (25, _), (5, _), (20, _), (4, _), (2, _), (0, _), (1, _)] ⟨rfl, rfl, rfl, rfl, rfl, rfl, rfl, rfl, rfl, rfl, rfl, rfl, rfl, rfl, rfl, rfl, rfl, rfl, rfl, rfl, trivial⟩ ?_
           refine AOps.nil ?_
           refine AWP.cond hσ rfl rfl (fun hc118 => ?_) (fun hc118 => ?_)
           ·
            skip
            exact absurd hc118 (by simp)
           ·
            skip
            refine AWP.skip ?_
            refine AWP.seq ?_
            refine AWP.region ?_
            refine AOps.step (Val.of hσ rfl rfl) rfl rfl rfl ?_
            refine AOps.nil ?_
            refine AWP.ret ?_
            refine ⟨.inl rfl, _, Ent.refl, _, rfl, ?_⟩
            rfl
theorem c7a {L : Nat} (h1 : 4096 ≤ L) (h2 : L ≤ 9223372036854775807) {s : Sq} {p : List Nd} (hz : szr 1048576 s.size < 0) : MC Try.prog L 7 [aSq s, ands p] [] (Plain (eB true)) := by
 refine MC.alone ?_ rfl
 have hσ := SGok (nt := 119) h1 h2
 refine MC.body hσ Try.func7 (by kernel_rfl) rfl rfl (Nat.le_of_ble_eq_true rfl) (fun hF => ?_)
 refine AWP.seq ?_
 refine AWP.region ?_
 refine AOps.heap (HS.box hσ rfl rfl rfl rfl rfl rfl rfl) rfl ?_
 apply AOps.norm
 ·
  repeat' (first | exact HN.nil rfl | apply HN.cons rfl | exact BN.row rfl | exact BN.map rfl | apply BN.box rfl | exact MN.nil rfl | apply MN.cons rfl | exact XN.d rfl | exact XN.rs rfl | exact XN.self)
 refine AOps.step (Val.of hσ rfl rfl) rfl rfl rfl ?_
 refine AOps.nil ?_
 refine AWP.seq ?_
 refine AWP.region ?_
 refine AOps.step (Val.of hσ rfl rfl) rfl rfl rfl ?_
 refine AOps.nil ?_
 refine AWP.seq ?_
 refine AWP.region ?_
 refine AOps.step (Val.of hσ rfl rfl) rfl rfl rfl ?_
 refine AOps.step (Val.of hσ rfl rfl) rfl rfl rfl ?_
 refine AOps.lone hσ rfl rfl rfl rfl (c29 (s := s) (left := 1048576) h1 h2 (by decide) (by decide)) (VAs.self rfl) rfl rfl rfl rfl rfl (B0 := 20000) rfl ?_
 refine AOps.step (Val.of hσ rfl rfl) rfl rfl rfl ?_
 refine AOps.forget [(5, _), (4, _), (2, _), (0, _), (1, _)] ⟨rfl, rfl, rfl, rfl, rfl, trivial⟩ ?_
 refine AOps.nil ?_
 refine AWP.seq ?_
 refine AWP.seq ?_
 refine AWP.region ?_
 refine AOps.step (Val.of hσ rfl rfl) rfl rfl rfl ?_
 refine AOps.step (Val.of hσ rfl rfl) rfl rfl rfl ?_
 refine AOps.nil ?_
 refine AWP.cond hσ rfl rfl (fun hc21 => ?_) (fun hc21 => ?_)
 ·
  skip
  refine AWP.seq ?_
  refine AWP.region ?_
  refine AOps.step (Val.of hσ rfl rfl) rfl rfl rfl ?_
  refine AOps.nil ?_
  refine AWP.ret ?_
  refine ⟨.inl rfl, _, Ent.refl, _, rfl, ?_⟩
  rfl
 ·
  skip
  exact absurd (of_decide_eq_false hc21) (fun h => h hz)
theorem c7b {L : Nat} (h1 : 4096 ≤ L) (h2 : L ≤ 9223372036854775807) {s : Sq} {p : List Nd} (hz1 : 0 ≤ szr 1048576 s.size) (hz2 : szr (szr 1048576 s.size) (szs Nd.size p) < 0) : MC Try.prog L 7 [aSq s, ands p] [] (Plain (eB true)) := by
 refine MC.alone ?_ rfl
 have hσ := SGok (nt := 119) h1 h2
 refine MC.body hσ Try.func7 (by kernel_rfl) rfl rfl (Nat.le_of_ble_eq_true rfl) (fun hF => ?_)
 refine AWP.seq ?_
 refine AWP.region ?_
 refine AOps.heap (HS.box hσ rfl rfl rfl rfl rfl rfl rfl) rfl ?_
 apply AOps.norm
 ·
  repeat' (first | exact HN.nil rfl | apply HN.cons rfl | exact BN.row rfl | exact BN.map rfl | apply BN.box rfl | exact MN.nil rfl | apply MN.cons rfl | exact XN.d rfl | exact XN.rs rfl | exact XN.self)
 refine AOps.step (Val.of hσ rfl rfl) rfl rfl rfl ?_
 refine AOps.nil ?_
 refine AWP.seq ?_
 refine AWP.region ?_
 refine AOps.step (Val.of hσ rfl rfl) rfl rfl rfl ?_
 refine AOps.nil ?_
 refine AWP.seq ?_
 refine AWP.region ?_
 refine AOps.step (Val.of hσ rfl rfl) rfl rfl rfl ?_
 refine AOps.step (Val.of hσ rfl rfl) rfl rfl rfl ?_
 refine AOps.lone hσ rfl rfl rfl rfl (c29 (s := s) (left := 1048576) h1 h2 (by decide) (by decide)) (VAs.self rfl) rfl rfl rfl rfl rfl (B0 := 20000) rfl ?_
 refine AOps.step (Val.of hσ rfl rfl) rfl rfl rfl ?_
 refine AOps.forget [(5, _), (4, _), (2, _), (0, _), (1, _)] ⟨rfl, rfl, rfl, rfl, rfl, trivial⟩ ?_
 refine AOps.nil ?_
 refine AWP.seq ?_
 refine AWP.seq ?_
 refine AWP.region ?_
 refine AOps.step (Val.of hσ rfl rfl) rfl rfl rfl ?_
 refine AOps.step (Val.of hσ rfl rfl) rfl rfl rfl ?_
 refine AOps.nil ?_
 refine AWP.cond hσ rfl rfl (fun hc21 => ?_) (fun hc21 => ?_)
 ·
  skip
  exact absurd (of_decide_eq_true hc21) (Int.not_lt.2 hz1)
 ·
  skip
  refine AWP.skip ?_
  refine AWP.seq ?_
  refine AWP.region ?_
  refine AOps.step (Val.of hσ rfl rfl) rfl rfl rfl ?_
  refine AOps.step (Val.of hσ rfl rfl) rfl rfl rfl ?_
  refine AOps.forget [(23, _), (22, _), (20, _), (5, _), (4, _), (2, _), (0, _), (1, _)] ⟨rfl, rfl, rfl, rfl, rfl, rfl, rfl, rfl, trivial⟩ ?_
  have hle := szr_le (left := 1048576) (by decide) s.size
  refine AOps.lone hσ rfl rfl rfl rfl (c30 (ts := p) h1 h2 hz1 (by omega)) (VAs.self rfl) rfl rfl rfl rfl rfl (B0 := 25000) rfl ?_
  refine AOps.step (Val.of hσ rfl rfl) rfl rfl rfl ?_
  refine AOps.forget [(5, _), (20, _), (4, _), (2, _), (0, _), (1, _)] ⟨rfl, rfl, rfl, rfl, rfl, rfl, trivial⟩ ?_
  refine AOps.nil ?_
  refine AWP.seq ?_
  refine AWP.seq ?_
  refine AWP.region ?_
  refine AOps.step (Val.of hσ rfl rfl) rfl rfl rfl ?_
  refine AOps.step (Val.of hσ rfl rfl) rfl rfl rfl ?_
  refine AOps.nil ?_
  refine AWP.cond hσ rfl rfl (fun hc26 => ?_) (fun hc26 => ?_)
  ·
   skip
   refine AWP.seq ?_
   refine AWP.region ?_
   refine AOps.step (Val.of hσ rfl rfl) rfl rfl rfl ?_
   refine AOps.nil ?_
   refine AWP.ret ?_
   refine ⟨.inl rfl, _, Ent.refl, _, rfl, ?_⟩
   rfl
  ·
   skip
   exact absurd (of_decide_eq_false hc26) (fun h => h hz2)
end Go.Al
namespace Go.Al
open Go.Proofs
set_option linter.unusedVariables false
set_option linter.unusedSimpArgs false
theorem cnt_szs (ts : List Tm) : cnt nT ts = szs Tm.size ts := by
  unfold cnt szs
  induction ts with
  | nil => rfl
  | cons t r ih =>
    simp only [List.map_cons, List.sum_cons, List.length_cons] at ih ⊢
    have : nT t = 1 + Tm.size t := rfl
    omega
theorem cnt_szsN (b : List Nd) : cnt nN b ≤ 3 * szs Nd.size b := by
  unfold cnt szs
  induction b with
  | nil => simp
  | cons t r ih =>
    simp only [List.map_cons, List.sum_cons, List.length_cons] at ih ⊢
    have h1 : nN t = 3 + t.term.xs.length + t.mul.length := rfl
    have h2 : Nd.size t = t.term.xs.length + t.mul.length := rfl
    omega
theorem szr_nonneg {left : Int} {n : Nat} (h : 0 ≤ szr left n) (h0 : 0 ≤ left) : (n : Int) ≤ left := by
  unfold szr at h
  split at h <;> omega
theorem fact_ints {L S : Nat} {xs : List Int} (h : D.fact L (ints xs)) (hl : xs.length ≤ S) : D.fact S (ints xs) := by
  simp only [D.fact, List.length_map, Dss.fact_map, Ds.fact] at h ⊢
  exact ⟨hl, h.2⟩
theorem sum_mem {α : Type} (f : α → Nat) : ∀ {xs : List α} {x : α}, x ∈ xs → f x ≤ (xs.map f).sum
  | y :: r, x, h => by
    simp only [List.map_cons, List.sum_cons]
    rcases List.mem_cons.1 h with rfl | h
    · omega
    · have := sum_mem f h; omega
theorem fact_tms {L S : Nat} {ts : List Tm} (h : D.fact L (tms ts)) (hl : szs Tm.size ts ≤ S) : D.fact S (tms ts) := by
  unfold szs at hl
  simp only [D.fact, List.length_map, Dss.fact_map] at h ⊢
  refine ⟨by omega, fun t ht => ?_⟩
  have h1 := h.2 t ht
  have h2 := sum_mem Tm.size ht
  have h3 : Tm.size t = t.xs.length := rfl
  exact ⟨h1.1, fact_ints h1.2.1 (by omega), trivial⟩
theorem fact_nds {L S : Nat} {b : List Nd} (h : D.fact L (nds b)) (hl : szs Nd.size b ≤ S) : D.fact S (nds b) := by
  unfold szs at hl
  simp only [D.fact, List.length_map, Dss.fact_map] at h ⊢
  refine ⟨by omega, fun s hs => ?_⟩
  have h1 := h.2 s hs
  have h2 := sum_mem Nd.size hs
  have h3 : Nd.size s = s.term.xs.length + s.mul.length := rfl
  exact ⟨h1.1, h1.2.1, h1.2.2.1, fact_ints h1.2.2.2.1 (by omega), fact_ints h1.2.2.2.2.1 (by omega), trivial⟩
theorem fact_sq {L S : Nat} {s : Sq} (h : Ds.fact L s.cells) (hl : s.size ≤ S) : Ds.fact S s.cells := by
  have e : s.size = szs Tm.size s.facts + s.goal.xs.length := rfl
  exact ⟨fact_tms h.1 (by omega), h.2.1, fact_ints h.2.2.1 (by omega), trivial⟩
/-! ### What both sides answer -/
theorem small_bounds {s : Sq} {p : List Nd} (hz1 : 0 ≤ szr 1048576 s.size) (hz2 : 0 ≤ szr (szr 1048576 s.size) (szs Nd.size p)) :
    s.size ≤ 1073741824 ∧ szs Nd.size p ≤ 1073741824 ∧ 1 + cnt nT s.facts + s.goal.xs.length + cnt nN p ≤ (1073741824 : Int) ∧ p.length ≤ 1073741824 := by
  have g1 := szr_nonneg hz1 (by decide)
  have g2 := szr_nonneg hz2 hz1
  have g3 := szr_le (left := 1048576) (by decide) s.size
  have k1 := cnt_szs s.facts
  have k2 := cnt_szsN p
  have e1 : s.size = szs Tm.size s.facts + s.goal.xs.length := rfl
  have e2 : p.length ≤ szs Nd.size p := by unfold szs; omega
  refine ⟨by omega, by omega, by omega, by omega⟩
/-- The law of UsedFacts holds for all arguments. -/
theorem law7 {L : Nat} (h1 : 4096 ≤ L) (h2 : L ≤ 9223372036854775807) {s : Sq} {p : List Nd} : MC Try.prog L 7 [aSq s, ands p] [] (Plain (eB true)) := by
  by_cases hz1 : szr 1048576 s.size < 0
  · exact c7a h1 h2 hz1
  by_cases hz2 : szr (szr 1048576 s.size) (szs Nd.size p) < 0
  · exact c7b h1 h2 (by omega) hz2
  have hz1' : 0 ≤ szr 1048576 s.size := by omega
  have hz2' : 0 ≤ szr (szr 1048576 s.size) (szs Nd.size p) := by omega
  obtain ⟨b1, b2, b3, b4⟩ := small_bounds hz1' hz2'
  refine MC.facts ⟨_, _, Try.func7, by kernel_rfl, rfl⟩ fun hF => ?_
  refine MC.lift (L0 := 1073741824) rfl ?_ ?_
  · exact ⟨fact_sq hF.1 b1, fact_nds hF.2.1 b2, trivial⟩
  · have cs := c50 (L := 1073741824) (s := s) (p := p) (by decide) (Nat.le_refl _)
    cases hv : chkS s p with
    | false =>
      rw [show usedFactsS s p = ([], false) from if_neg (by rw [hv]; decide)] at cs
      exact c7n (by decide) (Nat.le_refl _) cs (c51n (by decide) (Nat.le_refl _) hv) hz1' hz2' b3
    | true =>
      have hl : (usedFactsS s p).1.length ≤ 1001 := by
        obtain ⟨_, q2, _⟩ := seqB_spec (chkS_spec hv).1
        rw [show usedFactsS s p = (idxs (usedN psv p (s.facts.length + 1) p.length) (s.facts.length + 1), true) from if_pos hv]
        have := idxs_length (bs := usedN psv p (s.facts.length + 1) p.length) (i := s.facts.length + 1)
        show (idxs _ _).length ≤ 1001
        omega
      have ci := c51v (L := 1073741824) (by decide) (Nat.le_refl _) hv
      have e : usedFactsS s p = ((usedFactsS s p).1, true) := by
        rw [show usedFactsS s p = (idxs (usedN psv p (s.facts.length + 1) p.length) (s.facts.length + 1), true) from if_pos hv]
      rw [e] at cs
      exact c7v (c := (usedFactsS s p).1) (by decide) (Nat.le_refl _) (by omega) cs ci hz1' hz2' b3
end Go.Al
/- What the laws of the certificates share: the types of their arguments; what came in reads as it did. -/
namespace Go.Proofs.Ytpdpbfokkimbbaa
open Go.ChangeShapes Go.WideShapes Go.ChangeAt Go.RowKit Go.Al
set_option linter.unusedVariables false
set_option maxRecDepth 10000

theorem ownK : ownKnob Try.prog.godebug = none := by kernel_rfl
theorem kidsK : Kids Try.prog (· < Try.prog.types.size) := kids_rows (by kernel_rfl) (by kernel_rfl)
theorem fullK : ∀ t e, t < Try.prog.types.size → Try.prog.underlying t = some (.slice e) → 0 < Try.prog.cellsOf e := slices_full_of Try.prog (by kernel_rfl)

/-! ### The types of the arguments -/
abbrev tyI : List Ty := [.int .i64]
abbrev tyT : List Ty := [.int .i64, .slc tyI]
abbrev tyQ : List Ty := [.slc tyT, .int .i64, .slc tyI]
abbrev tyN : List Ty := [.int .i64, .int .i64, .int .i64, .slc tyI, .slc tyI]
theorem of2 : TyOf Try.prog 2 tyI := .int Try.underlying2
theorem of26 : TyOf Try.prog 26 [.slc tyI] := .slc Try.underlying26 of2 (by kernel_rfl) (by decide)
theorem of63 : TyOf Try.prog 63 tyT := .struct Try.underlying63 (show FieldsAre Try.prog _ (tyI ++ ([.slc tyI] ++ [])) 0 from .cons rfl (by kernel_rfl) of2 (.cons rfl (by kernel_rfl) of26 .nil)) (by kernel_rfl)
theorem of22 : TyOf Try.prog 22 [.slc tyT] := .slc Try.underlying22 of63 (by kernel_rfl) (by decide)
theorem of65 : TyOf Try.prog 65 tyQ := .struct Try.underlying65 (show FieldsAre Try.prog _ ([.slc tyT] ++ (tyT ++ [])) 0 from .cons rfl (by kernel_rfl) of22 (.cons rfl (by kernel_rfl) of63 .nil)) (by kernel_rfl)
theorem of135 : TyOf Try.prog 135 tyN := .struct Try.underlying135 (show FieldsAre Try.prog _ (tyI ++ (tyI ++ (tyT ++ ([.slc tyI] ++ [])))) 0 from
  .cons rfl (by kernel_rfl) of2 (.cons rfl (by kernel_rfl) of2 (.cons rfl (by kernel_rfl) of63 (.cons rfl (by kernel_rfl) of26 .nil)))) (by kernel_rfl)
theorem of66 : TyOf Try.prog 66 [.slc tyN] := .slc Try.underlying66 of135 (by kernel_rfl) (by decide)
theorem fits_int {d : D} (h : Fits (.int .i64) d) : ∃ n, d = .int .i64 n := by cases h; exact ⟨_, rfl⟩
theorem fits_all {α : Type} {es : List Ty} {g : α → List D} (hg : ∀ e, FitsL es e → ∃ a, e = g a) : ∀ {xs : List (List D)}, FitsA es xs → ∃ ys : List α, xs = ys.map g
  | _, .nil => ⟨[], rfl⟩
  | _, .cons h1 h2 => by
    obtain ⟨a, rfl⟩ := hg _ h1
    obtain ⟨ys, rfl⟩ := fits_all hg h2
    exact ⟨a :: ys, rfl⟩
theorem fits_ints {d : D} (h : Fits (.slc tyI) d) : ∃ xs, d = ints xs := by
  cases h with
  | slc h =>
    obtain ⟨xs, rfl⟩ := fits_all (g := fun n => [D.int .i64 n]) (fun e he => by
      cases he with
      | cons h1 h2 =>
        cases h2
        obtain ⟨n, rfl⟩ := fits_int h1
        exact ⟨n, rfl⟩) h
    exact ⟨xs, rfl⟩
theorem fits_term {e : List D} (h : FitsL tyT e) : ∃ t : Tm, e = t.cells := by
  cases h with
  | cons h1 h2 =>
    cases h2 with
    | cons h2 h3 =>
      cases h3
      obtain ⟨n, rfl⟩ := fits_int h1
      obtain ⟨xs, rfl⟩ := fits_ints h2
      exact ⟨⟨n, xs⟩, rfl⟩
theorem fits_terms {d : D} (h : Fits (.slc tyT) d) : ∃ ts, d = tms ts := by
  cases h with
  | slc h =>
    obtain ⟨xs, rfl⟩ := fits_all (g := Tm.cells) (fun e he => fits_term he) h
    exact ⟨xs, rfl⟩
theorem fits_seq {e : List D} (h : FitsL tyQ e) : ∃ s : Sq, e = s.cells := by
  cases h with
  | cons a1 h =>
    cases h with
    | cons a2 h =>
      cases h with
      | cons a3 h =>
        cases h
        obtain ⟨x1, rfl⟩ := fits_terms a1
        obtain ⟨n2, rfl⟩ := fits_int a2
        obtain ⟨x3, rfl⟩ := fits_ints a3
        exact ⟨⟨x1, ⟨n2, x3⟩⟩, rfl⟩
theorem fits_node {e : List D} (h : FitsL tyN e) : ∃ n : Nd, e = n.cells := by
  cases h with
  | cons a1 h =>
    cases h with
    | cons a2 h =>
      cases h with
      | cons a3 h =>
        cases h with
        | cons a4 h =>
          cases h with
          | cons a5 h =>
            cases h
            obtain ⟨n1, rfl⟩ := fits_int a1
            obtain ⟨n2, rfl⟩ := fits_int a2
            obtain ⟨n3, rfl⟩ := fits_int a3
            obtain ⟨x4, rfl⟩ := fits_ints a4
            obtain ⟨x5, rfl⟩ := fits_ints a5
            exact ⟨⟨n1, n2, ⟨n3, x4⟩, x5⟩, rfl⟩
theorem fits_nodes {d : D} (h : Fits (.slc tyN) d) : ∃ b, d = nds b := by
  cases h with
  | slc h =>
    obtain ⟨xs, rfl⟩ := fits_all (g := Nd.cells) (fun e he => fits_node he) h
    exact ⟨xs, rfl⟩
theorem fits_one {t : Ty} {e : List D} (h : FitsL [t] e) : ∃ d, e = [d] ∧ Fits t d := by
  cases h with
  | cons a h => cases h; exact ⟨_, rfl, a⟩
/-! ### What came in reads as it did -/
theorem rdl_rms {L : Nat} {w : World} {ok : Nat → Prop} {m : Nat → Go.Al.Loc} : ∀ {ds : List D} {vs : List Value} {F : List Nat}, RDL L w ok ds vs F → F = [] → RMs L w ok m (ds.map .d) vs
  | _, _, _, .nil, _ => .nil
  | _, _, _, .cons (F1 := F1) (F2 := F2) h1 h2, hF => by
    obtain ⟨rfl, rfl⟩ := List.append_eq_nil_iff.1 hF
    exact .cons (.d h1) (rdl_rms h2 rfl)
section
variable {H : Type} {enc : TypeId × Value → H} {P : Program} {w w' : World}
theorem same_at (hs : ∀ b, b < w.heap.size → Same w w' b) {p : MemPlace} (hp : p.block < w.heap.size) : w.sameAt w' p := by
  cases p with
  | cell b o => exact (hs b hp).cell
  | map b => exact hs b hp
theorem trodAll_same (hs : ∀ b, b < w.heap.size → Same w w' b) {base : Nat} {sp : Nat → Bool} {held : Bool} : ∀ {ts : List TypeId} {vs : List Value} {ds : List (DataW H)} {ps : List MemPlace}, (∀ p ∈ ps, p.block < w.heap.size) → DataW.TrodAll enc P w base sp held ts vs ds ps → DataW.TrodAll enc P w' base sp held ts vs ds ps
  | [], [], [], _, _, h => h
  | _ :: _, _ :: _, _ :: _, _, hl, ⟨p, q, ⟨n, h1⟩, h2, e⟩ =>
    ⟨p, q, ⟨n, DataW.trod_carry n _ _ _ h1 (fun x hx => same_at hs (hl x (by rw [e]; exact List.mem_append_left _ hx)))⟩, trodAll_same hs (fun x hx => hl x (by rw [e]; exact List.mem_append_right _ hx)) h2, e⟩
theorem frame_kept (hf : Go.Al.Frame w w' []) (may : MemPlace → Prop) : w.keptBut w' may := by
  refine ⟨hf.os, hf.output, fun i hi => ?_⟩
  have h := hf.block i hi (by simp)
  unfold Same at h
  rw [h]
  cases hx : w.heap[i]? with
  | none => trivial
  | some o =>
    cases o with
    | cells c t fr => exact ⟨rfl, rfl, rfl, fun _ _ => rfl⟩
    | map es clock => exact .inr ⟨rfl, rfl⟩
    | _ => rfl
theorem frozen_old (hf : Go.Al.Frame w w' []) {a : Addr} (ha : a.block < w.heap.size) : w'.frozen? a = w.frozen? a := by
  have h := hf.block a.block ha (by simp)
  unfold Same at h
  unfold World.frozen?
  rw [h]
theorem post_of_old {f : Func} {s : ChangeSpec} {apart fresh handsOn again : Bool} {args : Array Value} {v : Value} {ds gs : List (DataW H)} {before pa pv : List MemPlace}
    (hW : DataW.Whole enc P f.params.toList s.vars apart w args.toList ds gs before)
    (hres : ∀ (b : Nat) (sp : Nat → Bool) (hd : Bool), DataW.TrodAll enc P w' b sp hd f.resultTypes.toList (v.resultList f.resultTypes.size) (s.fn H (ds ++ gs)).results [])
    (hargs : ∀ sp : Nat → Bool, (∀ p ∈ before, sp p.block = true) → DataW.TrodAll enc P w' 0 sp true f.params.toList args.toList (s.fn H (ds ++ gs)).args pa)
    (hvars : ∀ sp : Nat → Bool, (∀ p ∈ before, sp p.block = true) → DataW.TrodVars enc P w' sp s.vars (s.fn H (ds ++ gs)).vars pv)
    (hps : before = pa ++ pv) (hf : Go.Al.Frame w w' [])
    (hok : ∀ (j : Nat) (t : TypeId) (r : Value), f.resultTypes[j]? = some t → (v.resultList f.resultTypes.size)[j]? = some r → Value.okWide P w' .any 0 t r) :
    s.post enc P f apart fresh handsOn again w args v w' := by
  have hlt := hW.lt
  have hold : ∀ p ∈ before, (fun b => decide (b < w.heap.size)) p.block = true := fun p hp => by simpa using hlt p hp
  refine ⟨ds, gs, before, [], pa, pv, hW, hres _ _ _, hargs _ hold, hvars _ hold, World.keptBut_mono (fun p hp => ⟨hp, ?_⟩) (frame_kept hf (· ∈ before)), fun _ => ?_⟩
  · rw [hps, List.mem_append] at hp
    exact Or.inr hp
  · obtain ⟨_, _, _, _, _, hz, hn⟩ := hW
    refine ⟨hok, _, _, ([] ++ pa) ++ pv, ⟨[] ++ pa, pv, trodAll_append (hargs _ (fun _ _ => rfl)) (hres _ _ _), hvars _ (fun _ _ => rfl), rfl, ?_, ?_⟩, ?_⟩
    · intro b off hp
      have hp' : MemPlace.cell b off ∈ before := by rw [hps]; simpa using hp
      rw [frozen_old hf (hlt _ hp')]
      exact hz b off hp'
    · intro ha
      have := hn ha
      rw [hps] at this
      simpa using this
    · intro p hp _
      rw [hps]
      simpa using hp
end

end Go.Proofs.Ytpdpbfokkimbbaa
