/- The law, walked; the types of its argument. -/
import Derived.Test.YtnepkogijffmjaaQ
namespace Go.Al
open Go.Proofs
set_option linter.unusedVariables false
set_option linter.unusedSimpArgs false
set_option maxRecDepth 10000
set_option maxHeartbeats 4000000
theorem c4v {L : Nat} (h1 : 4096 ≤ L) (h2 : L ≤ 1073741824) {a : An} {r : An} (hcc : 1 + cnt nT r.pre + cnt nT r.post + cnt nIn r.code + cnt nP r.pts ≤ (1073741824 : Int)) (cs : MC Try.prog L 5 [aAn a] [] (Plain (.tup [aAn r, eB true]))) (ci : MC Try.prog L 7 [aAn a] [] (Rows (.tup [.agg [.rs 0 0 r.pre.length, .rs 1 0 r.post.length, .rs 2 0 r.code.length, .rs 3 0 r.pts.length], eB true]) [trow r.pre, trow r.post, irow r.code, prow r.pts])) (hz1 : 0 ≤ szr 1048576 a.size) (hcp : 1 + cnt nT a.pre + cnt nT a.post + cnt nIn a.code + cnt nP a.pts ≤ (1073741824 : Int)) : MC Try.prog L 3 [aAn a] [] (Plain (eB true)) := by
 refine MC.alone ?_ rfl
 have hσ := SGok (nt := 96) h1 (Nat.le_trans h2 (by decide))
 refine MC.body hσ Try.func3 (by kernel_rfl) rfl rfl (Nat.le_of_ble_eq_true rfl) (fun hF => ?_)
 have hbig : L ≤ 9223372036854775807 := Nat.le_trans h2 (by decide)
 refine AWP.seq ?_
 refine AWP.region ?_
 refine AOps.heap (HS.box hσ rfl rfl rfl rfl rfl rfl rfl) rfl ?_
 apply AOps.norm
 ·
  repeat' (first | exact HN.nil rfl | apply HN.cons rfl | exact BN.row rfl | exact BN.map rfl | apply BN.box rfl | exact MN.nil rfl | apply MN.cons rfl | exact XN.d rfl | exact XN.rs rfl | exact XN.self)
 refine AOps.step (Val.of hσ rfl rfl) rfl rfl rfl ?_
 refine AOps.nil ?_
 refine AWP.seq ?_
 refine AWP.region ?_
 refine AOps.step (Val.of hσ rfl rfl) rfl rfl rfl ?_
 refine AOps.nil ?_
 refine AWP.seq ?_
 refine AWP.region ?_
 refine AOps.step (Val.of hσ rfl rfl) rfl rfl rfl ?_
 refine AOps.step (Val.of hσ rfl rfl) rfl rfl rfl ?_
 refine AOps.lone hσ rfl rfl rfl rfl (c22 (a := a) (left := 1048576) h1 hbig (by decide) (by decide)) (VAs.self rfl) rfl rfl rfl rfl rfl (B0 := 17000) rfl ?_
 refine AOps.step (Val.of hσ rfl rfl) rfl rfl rfl ?_
 refine AOps.forget [(3, _), (2, _), (1, _), (0, _)] ⟨rfl, rfl, rfl, rfl, trivial⟩ ?_
 refine AOps.nil ?_
 refine AWP.seq ?_
 refine AWP.seq ?_
 refine AWP.region ?_
 refine AOps.step (Val.of hσ rfl rfl) rfl rfl rfl ?_
 refine AOps.step (Val.of hσ rfl rfl) rfl rfl rfl ?_
 refine AOps.nil ?_
 refine AWP.cond hσ rfl rfl (fun hc18 => ?_) (fun hc18 => ?_)
 ·
  skip
  exact absurd (of_decide_eq_true hc18) (by omega)
 ·
  skip
  refine AWP.skip ?_
  refine AWP.seq ?_
  refine AWP.region ?_
  refine AOps.step (Val.of hσ rfl rfl) rfl rfl rfl ?_
  refine AOps.forget [(20, _), (17, _), (3, _), (2, _), (1, _), (0, _)] ⟨rfl, rfl, rfl, rfl, rfl, rfl, trivial⟩ ?_
  refine AOps.plainD hσ rfl rfl rfl rfl (c24d (a := a) h1 h2) (VAs.self rfl) rfl rfl rfl rfl (B0 := 22000) rfl rfl ?_
  refine AOps.forget [(21, _), (17, _), (3, _), (2, _), (1, _), (0, _)] ⟨rfl, rfl, rfl, rfl, rfl, rfl, trivial⟩ ?_
  refine AOps.plainD hσ rfl rfl rfl rfl (cs) (VAs.self rfl) rfl rfl rfl rfl (B0 := 23000) rfl rfl ?_
  refine AOps.step (Val.of hσ rfl rfl) rfl rfl rfl ?_
  refine AOps.step (Val.of hσ rfl rfl) rfl rfl rfl ?_
  refine AOps.step (Val.of hσ rfl rfl) rfl rfl rfl ?_
  refine AOps.forget [(24, _), (23, _), (17, _), (3, _), (2, _), (1, _), (0, _)] ⟨rfl, rfl, rfl, rfl, rfl, rfl, rfl, trivial⟩ ?_
  refine AOps.heap (HS.alloc hσ rfl rfl rfl rfl rfl) rfl ?_
  apply AOps.norm
  ·
   repeat' (first | exact HN.nil rfl | apply HN.cons rfl | exact BN.row rfl | exact BN.map rfl | apply BN.box rfl | exact MN.nil rfl | apply MN.cons rfl | exact XN.d rfl | exact XN.rs rfl | exact XN.self)
  refine AOps.heap (HS.storeBox hσ rfl rfl rfl rfl rfl rfl rfl rfl rfl rfl rfl) rfl ?_
  apply AOps.norm
  ·
   repeat' (first | exact HN.nil rfl | apply HN.cons rfl | exact BN.row rfl | exact BN.map rfl | apply BN.box rfl | exact MN.nil rfl | apply MN.cons rfl | exact XN.d rfl | exact XN.rs rfl | exact XN.self)
  refine AOps.step (Val.of hσ rfl rfl) rfl rfl rfl ?_
  refine AOps.forget [(5, _), (4, _), (17, _), (3, _), (2, _), (1, _), (0, _)] ⟨rfl, rfl, rfl, rfl, rfl, rfl, rfl, trivial⟩ ?_
  refine AOps.nil ?_
  refine AWP.seq ?_
  refine AWP.region ?_
  refine AOps.step (Val.of hσ rfl rfl) rfl rfl rfl ?_
  refine AOps.rows hσ (B0 := 27000) rfl rfl rfl rfl (c24 (a := a) h1 h2) (VAs.self rfl) rfl rfl rfl rfl rfl rfl ?_
  apply AOps.norm
  ·
   repeat' (first | exact HN.nil rfl | apply HN.cons rfl | exact BN.row rfl | exact BN.map rfl | apply BN.box rfl | exact MN.nil rfl | apply MN.cons rfl | exact XN.d rfl | exact XN.rs rfl | exact XN.self)
  refine AOps.forget [(26, _), (5, _), (4, _), (17, _), (3, _), (2, _), (1, _), (0, _)] ⟨rfl, rfl, rfl, rfl, rfl, rfl, rfl, rfl, trivial⟩ ?_
  refine AOps.heap (HS.alloc hσ rfl rfl rfl rfl rfl) rfl ?_
  apply AOps.norm
  ·
   repeat' (first | exact HN.nil rfl | apply HN.cons rfl | exact BN.row rfl | exact BN.map rfl | apply BN.box rfl | exact MN.nil rfl | apply MN.cons rfl | exact XN.d rfl | exact XN.rs rfl | exact XN.self)
  refine AOps.heap (HS.storeBox hσ rfl rfl rfl rfl rfl rfl rfl rfl rfl rfl rfl) rfl ?_
  apply AOps.norm
  ·
   repeat' (first | exact HN.nil rfl | apply HN.cons rfl | exact BN.row rfl | exact BN.map rfl | apply BN.box rfl | exact MN.nil rfl | apply MN.cons rfl | exact XN.d rfl | exact XN.rs rfl | exact XN.self)
  refine AOps.nil ?_
  refine AWP.seq ?_
  refine AWP.region ?_
  refine AOps.step (Val.of hσ rfl rfl) rfl rfl rfl ?_
  refine AOps.rows hσ (B0 := 30000) rfl rfl rfl rfl (ci) (.cons (.agg (.cons (.whole rfl (List.length_map _).symm) (.cons (.whole rfl (List.length_map _).symm) (.cons (.whole rfl (List.length_map _).symm) (.cons (.whole rfl (List.length_map _).symm) .nil))))) .nil) rfl rfl rfl rfl rfl rfl ?_
  apply AOps.norm
  ·
   repeat' (first | exact HN.nil rfl | apply HN.cons rfl | exact BN.row rfl | exact BN.map rfl | apply BN.box rfl | exact MN.nil rfl | apply MN.cons rfl | exact XN.d rfl | exact XN.rs rfl | exact XN.self)
  refine AOps.step (Val.of hσ rfl rfl) rfl rfl rfl ?_
  refine AOps.step (Val.of hσ rfl rfl) rfl rfl rfl ?_
  refine AOps.step (Val.of hσ rfl rfl) rfl rfl rfl ?_
  refine AOps.forget [(31, _), (30, _), (6, _), (26, _), (5, _), (4, _), (17, _), (3, _), (2, _), (1, _), (0, _)] ⟨rfl, rfl, rfl, rfl, rfl, rfl, rfl, rfl, rfl, rfl, rfl, trivial⟩ ?_
  refine AOps.heap (HS.alloc hσ rfl rfl rfl rfl rfl) rfl ?_
  apply AOps.norm
  ·
   repeat' (first | exact HN.nil rfl | apply HN.cons rfl | exact BN.row rfl | exact BN.map rfl | apply BN.box rfl | exact MN.nil rfl | apply MN.cons rfl | exact XN.d rfl | exact XN.rs rfl | exact XN.self)
  refine AOps.heap (HS.storeBox hσ rfl rfl rfl rfl rfl rfl rfl rfl rfl rfl rfl) rfl ?_
  apply AOps.norm
  ·
   repeat' (first | exact HN.nil rfl | apply HN.cons rfl | exact BN.row rfl | exact BN.map rfl | apply BN.box rfl | exact MN.nil rfl | apply MN.cons rfl | exact XN.d rfl | exact XN.rs rfl | exact XN.self)
  refine AOps.step (Val.of hσ rfl rfl) rfl rfl rfl ?_
  refine AOps.forget [(8, _), (7, _), (6, _), (26, _), (5, _), (4, _), (17, _), (3, _), (2, _), (1, _), (0, _)] ⟨rfl, rfl, rfl, rfl, rfl, rfl, rfl, rfl, rfl, rfl, rfl, trivial⟩ ?_
  refine AOps.nil ?_
  refine AWP.seq ?_
  refine AWP.seq ?_
  refine AWP.region ?_
  refine AOps.step (Val.of hσ rfl rfl) rfl rfl rfl ?_
  refine AOps.step (Val.of hσ rfl rfl) rfl rfl rfl ?_
  refine AOps.lone hσ rfl rfl rfl rfl ((c26 (s := r) (t := r) h1 h2).plain (u := eB true) (by simp)) (.cons (.agg (.cons (.whole rfl (List.length_map _).symm) (.cons (.whole rfl (List.length_map _).symm) (.cons (.whole rfl (List.length_map _).symm) (.cons (.whole rfl (List.length_map _).symm) .nil))))) (.cons (.agg (VMs.self rfl)) .nil)) rfl rfl rfl rfl rfl (B0 := 35000) rfl ?_
  refine AOps.step (Val.of hσ rfl rfl) rfl rfl rfl ?_
  refine AOps.step (Val.of hσ rfl rfl) rfl rfl rfl ?_
  refine AOps.forget [(36, _), (8, _), (7, _), (6, _), (26, _), (5, _), (4, _), (17, _), (3, _), (2, _), (1, _), (0, _)] ⟨rfl, rfl, rfl, rfl, rfl, rfl, rfl, rfl, rfl, rfl, rfl, rfl, trivial⟩ ?_
  refine AOps.live rfl rfl rfl rfl rfl ?_
  refine AOps.step (Val.of hσ rfl rfl) rfl rfl rfl ?_
  refine AOps.live rfl rfl rfl rfl rfl ?_
  refine AOps.step (Val.of hσ rfl rfl) rfl rfl rfl ?_
  refine AOps.live rfl rfl rfl rfl rfl ?_
  refine AOps.step (Val.of hσ rfl rfl) rfl rfl rfl ?_
  refine AOps.step (Val.pickN hσ rfl rfl rfl rfl rfl) rfl rfl rfl ?_
  refine AOps.forget [(40, _), (8, _), (7, _), (6, _), (26, _), (5, _), (4, _), (17, _), (3, _), (2, _), (1, _), (0, _)] ⟨rfl, rfl, rfl, rfl, rfl, rfl, rfl, rfl, rfl, rfl, rfl, rfl, trivial⟩ ?_
  refine AOps.nil ?_
  refine AWP.cond hσ rfl rfl (fun hc40 => ?_) (fun hc40 => ?_)
  ·
   skip
   exact absurd (show false = true from hc40) (by decide)
  ·
   skip
   refine AWP.skip ?_
   refine AWP.seq ?_
   refine AWP.seq ?_
   refine AWP.forget [(8, _), (7, _), (6, _), (26, _), (5, _), (4, _), (17, _), (3, _), (2, _), (1, _), (0, _)] ⟨rfl, rfl, rfl, rfl, rfl, rfl, rfl, rfl, rfl, rfl, rfl, trivial⟩ ?_
   refine AWP.drawR hσ _ [_, _, _, _, _] [⟨[], 0, 1, none⟩, ⟨[], 0, 0, none⟩, ⟨[1], 0, 0, some 0⟩, ⟨[0, 1, 2], 0, 0, some 1⟩, ⟨[0, 1, 2, 3], 2, 2, none⟩] [2, 3] [_, _, _] rfl rfl (by decide) (by decide) (by kernel_rfl) (And.intro (And.intro (Val.of hσ rfl rfl) (Val.of hσ rfl rfl)) (And.intro (Val.of hσ rfl rfl) (And.intro (Eff.plainD hσ (B0 := 44000) rfl rfl rfl rfl (c24d (a := a) h1 h2) (VAs.self rfl) rfl rfl rfl rfl rfl) (And.intro (Eff.lone hσ (B0 := 45000) rfl rfl rfl rfl ((c26 (s := a) (t := a) h1 h2).plain (u := eB true) (by simp)) (.cons (.agg (.cons (.whole rfl (List.length_map _).symm) (.cons (.whole rfl (List.length_map _).symm) (.cons (.whole rfl (List.length_map _).symm) (.cons (.whole rfl (List.length_map _).symm) .nil))))) (.cons (.agg (VMs.self rfl)) .nil)) rfl rfl rfl rfl rfl) (And.intro (Val.of hσ rfl rfl) trivial))))) ?_
   refine AWP.forget [(45, _), (8, _), (7, _), (6, _), (26, _), (5, _), (4, _), (17, _), (3, _), (2, _), (1, _), (0, _)] ⟨rfl, rfl, rfl, rfl, rfl, rfl, rfl, rfl, rfl, rfl, rfl, rfl, trivial⟩ ?_
   apply AWP.norm
   ·
    repeat' (first | exact HN.nil rfl | apply HN.cons rfl | exact BN.row rfl | exact BN.map rfl | apply BN.box rfl | exact MN.nil rfl | apply MN.cons rfl | exact XN.d rfl | exact XN.rs rfl | exact XN.self)
   refine AWP.cond hσ rfl rfl (fun hc45 => ?_) (fun hc45 => ?_)
   ·
    skip
    exact absurd (show false = true from hc45) (by decide)
   ·
    skip
    refine AWP.skip ?_
    refine AWP.seq ?_
    refine AWP.region ?_
    refine AOps.step (Val.of hσ rfl rfl) rfl rfl rfl ?_
    refine AOps.nil ?_
    refine AWP.seq ?_
    refine AWP.region ?_
    refine AOps.step (Val.of hσ rfl rfl) rfl rfl rfl ?_
    refine AOps.step (Val.of hσ rfl rfl) rfl rfl rfl ?_
    refine AOps.forget [(47, _), (46, _), (9, _), (8, _), (7, _), (6, _), (26, _), (5, _), (4, _), (17, _), (3, _), (2, _), (1, _), (0, _)] ⟨rfl, rfl, rfl, rfl, rfl, rfl, rfl, rfl, rfl, rfl, rfl, rfl, rfl, rfl, trivial⟩ ?_
    refine AOps.inn hσ [27000, 27001, 27002, 27003] (bin := [trow a.pre, trow a.post, irow a.code, prow a.pts]) rfl rfl rfl rfl (c27 (a := a) (k := 1) h1 h2 (by decide) (by omega)) rfl rfl rfl rfl rfl rfl (B0 := 49000) rfl rfl ?_
    apply AOps.norm
    ·
     repeat' (first | exact HN.nil rfl | apply HN.cons rfl | exact BN.row rfl | exact BN.map rfl | apply BN.box rfl | exact MN.nil rfl | apply MN.cons rfl | exact XN.d rfl | exact XN.rs rfl | exact XN.self)
    refine AOps.step (Val.of hσ rfl rfl) rfl rfl rfl ?_
    refine AOps.forget [(9, _), (8, _), (7, _), (6, _), (26, _), (5, _), (4, _), (17, _), (3, _), (2, _), (1, _), (0, _)] ⟨rfl, rfl, rfl, rfl, rfl, rfl, rfl, rfl, rfl, rfl, rfl, rfl, trivial⟩ ?_
    refine AOps.nil ?_
    refine AWP.seq ?_
    refine AWP.seq ?_
    refine AWP.region ?_
    refine AOps.step (Val.of hσ rfl rfl) rfl rfl rfl ?_
    refine AOps.step (Val.of hσ rfl rfl) rfl rfl rfl ?_
    rw [decide_eq_false (show ¬ (1 + cnt nT a.pre + cnt nT a.post + cnt nIn a.code + cnt nP a.pts : Int) < 0 by omega)]
    refine AOps.step (Val.of hσ rfl rfl) rfl rfl rfl ?_
    refine AOps.forget [(51, _), (9, _), (8, _), (7, _), (6, _), (26, _), (5, _), (4, _), (17, _), (3, _), (2, _), (1, _), (0, _)] ⟨rfl, rfl, rfl, rfl, rfl, rfl, rfl, rfl, rfl, rfl, rfl, rfl, rfl, trivial⟩ ?_
    refine AOps.live rfl rfl rfl rfl rfl ?_
    refine AOps.step (Val.of hσ rfl rfl) rfl rfl rfl ?_
    refine AOps.live rfl rfl rfl rfl rfl ?_
    refine AOps.step (Val.of hσ rfl rfl) rfl rfl rfl ?_
    refine AOps.live rfl rfl rfl rfl rfl ?_
    refine AOps.lone hσ rfl rfl rfl rfl ((c26 (s := r) (t := r) h1 h2).plain (u := eB true) (by simp)) (.cons (.agg (.cons (.whole rfl (List.length_map _).symm) (.cons (.whole rfl (List.length_map _).symm) (.cons (.whole rfl (List.length_map _).symm) (.cons (.whole rfl (List.length_map _).symm) .nil))))) (.cons (.agg (VMs.self rfl)) .nil)) rfl rfl rfl rfl rfl (B0 := 55000) rfl ?_
    refine AOps.forget [(54, _), (51, _), (9, _), (8, _), (7, _), (6, _), (26, _), (5, _), (4, _), (17, _), (3, _), (2, _), (1, _), (0, _)] ⟨rfl, rfl, rfl, rfl, rfl, rfl, rfl, rfl, rfl, rfl, rfl, rfl, rfl, rfl, trivial⟩ ?_
    refine AOps.live rfl rfl rfl rfl rfl ?_
    refine AOps.step (Val.of hσ rfl rfl) rfl rfl rfl ?_
    refine AOps.step (Val.pickN hσ rfl rfl rfl rfl rfl) rfl rfl rfl ?_
    refine AOps.step (Val.of hσ rfl rfl) rfl rfl rfl ?_
    refine AOps.forget [(57, _), (9, _), (8, _), (7, _), (6, _), (26, _), (5, _), (4, _), (17, _), (3, _), (2, _), (1, _), (0, _)] ⟨rfl, rfl, rfl, rfl, rfl, rfl, rfl, rfl, rfl, rfl, rfl, rfl, rfl, trivial⟩ ?_
    refine AOps.live rfl rfl rfl rfl rfl ?_
    refine AOps.step (Val.of hσ rfl rfl) rfl rfl rfl ?_
    refine AOps.live rfl rfl rfl rfl rfl ?_
    refine AOps.step (Val.of hσ rfl rfl) rfl rfl rfl ?_
    refine AOps.live rfl rfl rfl rfl rfl ?_
    refine AOps.step (Val.of hσ rfl rfl) rfl rfl rfl ?_
    refine AOps.step (Val.pickN hσ rfl rfl rfl rfl rfl) rfl rfl rfl ?_
    refine AOps.forget [(61, _), (9, _), (8, _), (7, _), (6, _), (26, _), (5, _), (4, _), (17, _), (3, _), (2, _), (1, _), (0, _)] ⟨rfl, rfl, rfl, rfl, rfl, rfl, rfl, rfl, rfl, rfl, rfl, rfl, rfl, trivial⟩ ?_
    refine AOps.nil ?_
    refine AWP.cond hσ rfl rfl (fun hc61 => ?_) (fun hc61 => ?_)
    ·
     skip
     exact absurd (show false = true from hc61) (by decide)
    ·
     skip
     refine AWP.skip ?_
     refine AWP.seq ?_
     refine AWP.region ?_
     refine AOps.step (Val.of hσ rfl rfl) rfl rfl rfl ?_
     refine AOps.nil ?_
     refine AWP.seq ?_
     refine AWP.region ?_
     refine AOps.step (Val.of hσ rfl rfl) rfl rfl rfl ?_
     refine AOps.step (Val.of hσ rfl rfl) rfl rfl rfl ?_
     refine AOps.forget [(63, _), (62, _), (10, _), (9, _), (8, _), (7, _), (6, _), (26, _), (5, _), (4, _), (17, _), (3, _), (2, _), (1, _), (0, _)] ⟨rfl, rfl, rfl, rfl, rfl, rfl, rfl, rfl, rfl, rfl, rfl, rfl, rfl, rfl, rfl, trivial⟩ ?_
     refine AOps.inn hσ [30000, 30001, 30002, 30003] (bin := [trow r.pre, trow r.post, irow r.code, prow r.pts]) rfl rfl rfl rfl (c27 (a := r) (k := 1) h1 h2 (by decide) (by omega)) rfl rfl rfl rfl rfl rfl (B0 := 65000) rfl rfl ?_
     apply AOps.norm
     ·
      repeat' (first | exact HN.nil rfl | apply HN.cons rfl | exact BN.row rfl | exact BN.map rfl | apply BN.box rfl | exact MN.nil rfl | apply MN.cons rfl | exact XN.d rfl | exact XN.rs rfl | exact XN.self)
     refine AOps.step (Val.of hσ rfl rfl) rfl rfl rfl ?_
     refine AOps.forget [(10, _), (9, _), (8, _), (7, _), (6, _), (26, _), (5, _), (4, _), (17, _), (3, _), (2, _), (1, _), (0, _)] ⟨rfl, rfl, rfl, rfl, rfl, rfl, rfl, rfl, rfl, rfl, rfl, rfl, rfl, trivial⟩ ?_
     refine AOps.nil ?_
     refine AWP.seq ?_
     refine AWP.region ?_
     refine AOps.step (Val.of hσ rfl rfl) rfl rfl rfl ?_
     refine AOps.nil ?_
     refine AWP.seq ?_
     refine AWP.region ?_
     refine AOps.step (Val.of hσ rfl rfl) rfl rfl rfl ?_
     refine AOps.step (Val.of hσ rfl rfl) rfl rfl rfl ?_
     refine AOps.lone hσ rfl rfl rfl rfl (c28 (a := r) (k := 1) h1 h2 (by decide) (by omega)) (.cons (.agg (.cons (.whole rfl ((List.length_map _).trans markL_length).symm) (.cons (.whole rfl ((List.length_map _).trans markL_length).symm) (.cons (.whole rfl ((List.length_map _).trans markL_length).symm) (.cons (.whole rfl ((List.length_map _).trans markL_length).symm) .nil))))) (.cons (.c .d) .nil)) rfl rfl rfl rfl rfl (B0 := 68000) rfl ?_
     refine AOps.step (Val.of hσ rfl rfl) rfl rfl rfl ?_
     refine AOps.forget [(11, _), (10, _), (9, _), (8, _), (7, _), (6, _), (26, _), (5, _), (4, _), (17, _), (3, _), (2, _), (1, _), (0, _)] ⟨rfl, rfl, rfl, rfl, rfl, rfl, rfl, rfl, rfl, rfl, rfl, rfl, rfl, rfl, trivial⟩ ?_
     refine AOps.nil ?_
     refine AWP.seq ?_
     refine AWP.seq ?_
     refine AWP.region ?_
     refine AOps.step (Val.of hσ rfl rfl) rfl rfl rfl ?_
     refine AOps.step (Val.of hσ rfl rfl) rfl rfl rfl ?_
     refine AOps.nil ?_
     refine AWP.cond hσ rfl rfl (fun hc69 => ?_) (fun hc69 => ?_)
     ·
      skip
      exact absurd (of_decide_eq_true hc69) (by omega)
     ·
      skip
      refine AWP.skip ?_
      refine AWP.seq ?_
      refine AWP.seq ?_
      refine AWP.region ?_
      refine AOps.step (Val.of hσ rfl rfl) rfl rfl rfl ?_
      refine AOps.step (Val.of hσ rfl rfl) rfl rfl rfl ?_
      refine AOps.step (Val.of hσ rfl rfl) rfl rfl rfl ?_
      refine AOps.forget [(72, _), (68, _), (11, _), (10, _), (9, _), (8, _), (7, _), (6, _), (26, _), (5, _), (4, _), (17, _), (3, _), (2, _), (1, _), (0, _)] ⟨rfl, rfl, rfl, rfl, rfl, rfl, rfl, rfl, rfl, rfl, rfl, rfl, rfl, rfl, rfl, rfl, trivial⟩ ?_
      refine AOps.nil ?_
      refine AWP.cond hσ rfl rfl (fun hc72 => ?_) (fun hc72 => ?_)
      ·
       skip
       exact absurd hc72 (by simp)
      ·
       skip
       refine AWP.skip ?_
       refine AWP.seq ?_
       refine AWP.region ?_
       refine AOps.step (Val.of hσ rfl rfl) rfl rfl rfl ?_
       refine AOps.forget [(74, _), (68, _), (11, _), (10, _), (9, _), (8, _), (7, _), (6, _), (26, _), (5, _), (4, _), (17, _), (3, _), (2, _), (1, _), (0, _)] ⟨rfl, rfl, rfl, rfl, rfl, rfl, rfl, rfl, rfl, rfl, rfl, rfl, rfl, rfl, rfl, rfl, trivial⟩ ?_
       refine AOps.plainD hσ rfl rfl rfl rfl (c24d (a := a) h1 h2) (VAs.self rfl) rfl rfl rfl rfl (B0 := 76000) rfl rfl ?_
       refine AOps.forget [(75, _), (68, _), (11, _), (10, _), (9, _), (8, _), (7, _), (6, _), (26, _), (5, _), (4, _), (17, _), (3, _), (2, _), (1, _), (0, _)] ⟨rfl, rfl, rfl, rfl, rfl, rfl, rfl, rfl, rfl, rfl, rfl, rfl, rfl, rfl, rfl, rfl, trivial⟩ ?_
       refine AOps.rows hσ (B0 := 77000) rfl rfl rfl rfl (ci) (VAs.self rfl) rfl rfl rfl rfl rfl rfl ?_
       apply AOps.norm
       ·
        repeat' (first | exact HN.nil rfl | apply HN.cons rfl | exact BN.row rfl | exact BN.map rfl | apply BN.box rfl | exact MN.nil rfl | apply MN.cons rfl | exact XN.d rfl | exact XN.rs rfl | exact XN.self)
       refine AOps.step (Val.of hσ rfl rfl) rfl rfl rfl ?_
       refine AOps.step (Val.of hσ rfl rfl) rfl rfl rfl ?_
       refine AOps.step (Val.of hσ rfl rfl) rfl rfl rfl ?_
       refine AOps.forget [(78, _), (77, _), (68, _), (11, _), (10, _), (9, _), (8, _), (7, _), (6, _), (26, _), (5, _), (4, _), (17, _), (3, _), (2, _), (1, _), (0, _)] ⟨rfl, rfl, rfl, rfl, rfl, rfl, rfl, rfl, rfl, rfl, rfl, rfl, rfl, rfl, rfl, rfl, rfl, trivial⟩ ?_
       refine AOps.heap (HS.alloc hσ rfl rfl rfl rfl rfl) rfl ?_
       apply AOps.norm
       ·
        repeat' (first | exact HN.nil rfl | apply HN.cons rfl | exact BN.row rfl | exact BN.map rfl | apply BN.box rfl | exact MN.nil rfl | apply MN.cons rfl | exact XN.d rfl | exact XN.rs rfl | exact XN.self)
       refine AOps.heap (HS.storeBox hσ rfl rfl rfl rfl rfl rfl rfl rfl rfl rfl rfl) rfl ?_
       apply AOps.norm
       ·
        repeat' (first | exact HN.nil rfl | apply HN.cons rfl | exact BN.row rfl | exact BN.map rfl | apply BN.box rfl | exact MN.nil rfl | apply MN.cons rfl | exact XN.d rfl | exact XN.rs rfl | exact XN.self)
       refine AOps.step (Val.of hσ rfl rfl) rfl rfl rfl ?_
       refine AOps.forget [(13, _), (12, _), (68, _), (11, _), (10, _), (9, _), (8, _), (7, _), (6, _), (26, _), (5, _), (4, _), (17, _), (3, _), (2, _), (1, _), (0, _)] ⟨rfl, rfl, rfl, rfl, rfl, rfl, rfl, rfl, rfl, rfl, rfl, rfl, rfl, rfl, rfl, rfl, rfl, trivial⟩ ?_
       refine AOps.nil ?_
       refine AWP.seq ?_
       refine AWP.seq ?_
       refine AWP.region ?_
       refine AOps.step (Val.of hσ rfl rfl) rfl rfl rfl ?_
       refine AOps.step (Val.of hσ rfl rfl) rfl rfl rfl ?_
       refine AOps.lone hσ rfl rfl rfl rfl ((c26 (s := r) (t := r) h1 h2).plain (u := eB true) (by simp)) (.cons (.agg (.cons (.whole rfl (List.length_map _).symm) (.cons (.whole rfl (List.length_map _).symm) (.cons (.whole rfl (List.length_map _).symm) (.cons (.whole rfl (List.length_map _).symm) .nil))))) (.cons (.agg (VMs.self rfl)) .nil)) rfl rfl rfl rfl rfl (B0 := 82000) rfl ?_
       refine AOps.step (Val.of hσ rfl rfl) rfl rfl rfl ?_
       refine AOps.step (Val.of hσ rfl rfl) rfl rfl rfl ?_
       refine AOps.forget [(83, _), (13, _), (12, _), (68, _), (11, _), (10, _), (9, _), (8, _), (7, _), (6, _), (26, _), (5, _), (4, _), (17, _), (3, _), (2, _), (1, _), (0, _)] ⟨rfl, rfl, rfl, rfl, rfl, rfl, rfl, rfl, rfl, rfl, rfl, rfl, rfl, rfl, rfl, rfl, rfl, rfl, trivial⟩ ?_
       refine AOps.live rfl rfl rfl rfl rfl ?_
       refine AOps.step (Val.of hσ rfl rfl) rfl rfl rfl ?_
       refine AOps.forget [(84, _), (83, _), (12, _), (68, _), (11, _), (10, _), (9, _), (8, _), (7, _), (6, _), (26, _), (5, _), (4, _), (17, _), (3, _), (2, _), (1, _), (0, _)] ⟨rfl, rfl, rfl, rfl, rfl, rfl, rfl, rfl, rfl, rfl, rfl, rfl, rfl, rfl, rfl, rfl, rfl, rfl, trivial⟩ ?_
       refine AOps.live rfl rfl rfl rfl rfl ?_
       refine AOps.step (Val.of hσ rfl rfl) rfl rfl rfl ?_
       refine AOps.live rfl rfl rfl rfl rfl ?_
       refine AOps.step (Val.of hσ rfl rfl) rfl rfl rfl ?_
       refine AOps.step (Val.pickN hσ rfl rfl rfl rfl rfl) rfl rfl rfl ?_
       refine AOps.forget [(87, _), (12, _), (68, _), (11, _), (10, _), (9, _), (8, _), (7, _), (6, _), (26, _), (5, _), (4, _), (17, _), (3, _), (2, _), (1, _), (0, _)] ⟨rfl, rfl, rfl, rfl, rfl, rfl, rfl, rfl, rfl, rfl, rfl, rfl, rfl, rfl, rfl, rfl, rfl, trivial⟩ ?_
       refine AOps.nil ?_
       refine AWP.cond hσ rfl rfl (fun hc87 => ?_) (fun hc87 => ?_)
       ·
        skip
        exact absurd (show false = true from hc87) (by decide)
       ·
        skip
        refine AWP.skip ?_
        refine AWP.seq ?_
        refine AWP.region ?_
        refine AOps.step (Val.of hσ rfl rfl) rfl rfl rfl ?_
        refine AOps.nil ?_
        refine AWP.seq ?_
        refine AWP.region ?_
        refine AOps.step (Val.of hσ rfl rfl) rfl rfl rfl ?_
        refine AOps.step (Val.of hσ rfl rfl) rfl rfl rfl ?_
        refine AOps.forget [(89, _), (88, _), (11, _), (12, _), (68, _), (10, _), (9, _), (8, _), (7, _), (6, _), (26, _), (5, _), (4, _), (17, _), (3, _), (2, _), (1, _), (0, _)] ⟨rfl, rfl, rfl, rfl, rfl, rfl, rfl, rfl, rfl, rfl, rfl, rfl, rfl, rfl, rfl, rfl, rfl, rfl, trivial⟩ ?_
        refine AOps.lone hσ rfl rfl rfl rfl (c28 (a := r) (k := 1) h1 h2 (by decide) (by omega)) (.cons (.agg (.cons (.whole rfl ((List.length_map _).trans markL_length).symm) (.cons (.whole rfl ((List.length_map _).trans markL_length).symm) (.cons (.whole rfl ((List.length_map _).trans markL_length).symm) (.cons (.whole rfl ((List.length_map _).trans markL_length).symm) .nil))))) (.cons (.c .d) .nil)) rfl rfl rfl rfl rfl (B0 := 91000) rfl ?_
        refine AOps.step (Val.of hσ rfl rfl) rfl rfl rfl ?_
        refine AOps.forget [(11, _), (12, _), (68, _), (10, _), (9, _), (8, _), (7, _), (6, _), (26, _), (5, _), (4, _), (17, _), (3, _), (2, _), (1, _), (0, _)] ⟨rfl, rfl, rfl, rfl, rfl, rfl, rfl, rfl, rfl, rfl, rfl, rfl, rfl, rfl, rfl, rfl, trivial⟩ ?_
        refine AOps.nil ?_
        refine AWP.seq ?_
        refine AWP.seq ?_
        refine AWP.region ?_
        refine AOps.step (Val.of hσ rfl rfl) rfl rfl rfl ?_
        refine AOps.step (Val.of hσ rfl rfl) rfl rfl rfl ?_
        refine AOps.nil ?_
        refine AWP.cond hσ rfl rfl (fun hc92 => ?_) (fun hc92 => ?_)
        ·
         skip
         exact absurd (of_decide_eq_true hc92) (by omega)
        ·
         skip
         refine AWP.skip ?_
         refine AWP.seq ?_
         refine AWP.seq ?_
         refine AWP.region ?_
         refine AOps.step (Val.of hσ rfl rfl) rfl rfl rfl ?_
         refine AOps.step (Val.of hσ rfl rfl) rfl rfl rfl ?_
         refine AOps.step (Val.of hσ rfl rfl) rfl rfl rfl ?_
         refine AOps.forget [(95, _), (91, _), (11, _), (12, _), (68, _), (10, _), (9, _), (8, _), (7, _), (6, _), (26, _), (5, _), (4, _), (17, _), (3, _), (2, _), (1, _), (0, _)] ⟨rfl, rfl, rfl, rfl, rfl, rfl, rfl, rfl, rfl, rfl, rfl, rfl, rfl, rfl, rfl, rfl, rfl, rfl, trivial⟩ ?_
         refine AOps.nil ?_
         refine AWP.cond hσ rfl rfl (fun hc95 => ?_) (fun hc95 => ?_)
         ·
          skip
          exact absurd hc95 (by simp)
         ·
          skip
          refine AWP.skip ?_
          refine AWP.seq ?_
          refine AWP.region ?_
          refine AOps.step (Val.of hσ rfl rfl) rfl rfl rfl ?_
          refine AOps.nil ?_
          refine AWP.ret ?_
          refine ⟨.inl rfl, _, Ent.refl, _, rfl, ?_⟩
          rfl
theorem c4n {L : Nat} (h1 : 4096 ≤ L) (h2 : L ≤ 1073741824) {a : An} (cs : MC Try.prog L 5 [aAn a] [] (Plain (.tup [aAn (⟨[], [], [], []⟩ : An), eB false]))) (ci : MC Try.prog L 7 [aAn a] [] (Rows (.tup [.agg [.d .nils, .d .nils, .d .nils, .d .nils], eB false]) [])) (hz1 : 0 ≤ szr 1048576 a.size) (hcp : 1 + cnt nT a.pre + cnt nT a.post + cnt nIn a.code + cnt nP a.pts ≤ (1073741824 : Int)) : MC Try.prog L 3 [aAn a] [] (Plain (eB true)) := by
 refine MC.alone ?_ rfl
 have hσ := SGok (nt := 96) h1 (Nat.le_trans h2 (by decide))
 refine MC.body hσ Try.func3 (by kernel_rfl) rfl rfl (Nat.le_of_ble_eq_true rfl) (fun hF => ?_)
 have hbig : L ≤ 9223372036854775807 := Nat.le_trans h2 (by decide)
 refine AWP.seq ?_
 refine AWP.region ?_
 refine AOps.heap (HS.box hσ rfl rfl rfl rfl rfl rfl rfl) rfl ?_
 apply AOps.norm
 ·
  repeat' (first | exact HN.nil rfl | apply HN.cons rfl | exact BN.row rfl | exact BN.map rfl | apply BN.box rfl | exact MN.nil rfl | apply MN.cons rfl | exact XN.d rfl | exact XN.rs rfl | exact XN.self)
 refine AOps.step (Val.of hσ rfl rfl) rfl rfl rfl ?_
 refine AOps.nil ?_
 refine AWP.seq ?_
 refine AWP.region ?_
 refine AOps.step (Val.of hσ rfl rfl) rfl rfl rfl ?_
 refine AOps.nil ?_
 refine AWP.seq ?_
 refine AWP.region ?_
 refine AOps.step (Val.of hσ rfl rfl) rfl rfl rfl ?_
 refine AOps.step (Val.of hσ rfl rfl) rfl rfl rfl ?_
 refine AOps.lone hσ rfl rfl rfl rfl (c22 (a := a) (left := 1048576) h1 hbig (by decide) (by decide)) (VAs.self rfl) rfl rfl rfl rfl rfl (B0 := 17000) rfl ?_
 refine AOps.step (Val.of hσ rfl rfl) rfl rfl rfl ?_
 refine AOps.forget [(3, _), (2, _), (1, _), (0, _)] ⟨rfl, rfl, rfl, rfl, trivial⟩ ?_
 refine AOps.nil ?_
 refine AWP.seq ?_
 refine AWP.seq ?_
 refine AWP.region ?_
 refine AOps.step (Val.of hσ rfl rfl) rfl rfl rfl ?_
 refine AOps.step (Val.of hσ rfl rfl) rfl rfl rfl ?_
 refine AOps.nil ?_
 refine AWP.cond hσ rfl rfl (fun hc18 => ?_) (fun hc18 => ?_)
 ·
  skip
  exact absurd (of_decide_eq_true hc18) (by omega)
 ·
  skip
  refine AWP.skip ?_
  refine AWP.seq ?_
  refine AWP.region ?_
  refine AOps.step (Val.of hσ rfl rfl) rfl rfl rfl ?_
  refine AOps.forget [(20, _), (17, _), (3, _), (2, _), (1, _), (0, _)] ⟨rfl, rfl, rfl, rfl, rfl, rfl, trivial⟩ ?_
  refine AOps.plainD hσ rfl rfl rfl rfl (c24d (a := a) h1 h2) (VAs.self rfl) rfl rfl rfl rfl (B0 := 22000) rfl rfl ?_
  refine AOps.forget [(21, _), (17, _), (3, _), (2, _), (1, _), (0, _)] ⟨rfl, rfl, rfl, rfl, rfl, rfl, trivial⟩ ?_
  refine AOps.plainD hσ rfl rfl rfl rfl (cs) (VAs.self rfl) rfl rfl rfl rfl (B0 := 23000) rfl rfl ?_
  refine AOps.step (Val.of hσ rfl rfl) rfl rfl rfl ?_
  refine AOps.step (Val.of hσ rfl rfl) rfl rfl rfl ?_
  refine AOps.step (Val.of hσ rfl rfl) rfl rfl rfl ?_
  refine AOps.forget [(24, _), (23, _), (17, _), (3, _), (2, _), (1, _), (0, _)] ⟨rfl, rfl, rfl, rfl, rfl, rfl, rfl, trivial⟩ ?_
  refine AOps.heap (HS.alloc hσ rfl rfl rfl rfl rfl) rfl ?_
  apply AOps.norm
  ·
   repeat' (first | exact HN.nil rfl | apply HN.cons rfl | exact BN.row rfl | exact BN.map rfl | apply BN.box rfl | exact MN.nil rfl | apply MN.cons rfl | exact XN.d rfl | exact XN.rs rfl | exact XN.self)
  refine AOps.heap (HS.storeBox hσ rfl rfl rfl rfl rfl rfl rfl rfl rfl rfl rfl) rfl ?_
  apply AOps.norm
  ·
   repeat' (first | exact HN.nil rfl | apply HN.cons rfl | exact BN.row rfl | exact BN.map rfl | apply BN.box rfl | exact MN.nil rfl | apply MN.cons rfl | exact XN.d rfl | exact XN.rs rfl | exact XN.self)
  refine AOps.step (Val.of hσ rfl rfl) rfl rfl rfl ?_
  refine AOps.forget [(5, _), (4, _), (17, _), (3, _), (2, _), (1, _), (0, _)] ⟨rfl, rfl, rfl, rfl, rfl, rfl, rfl, trivial⟩ ?_
  refine AOps.nil ?_
  refine AWP.seq ?_
  refine AWP.region ?_
  refine AOps.step (Val.of hσ rfl rfl) rfl rfl rfl ?_
  refine AOps.rows hσ (B0 := 27000) rfl rfl rfl rfl (c24 (a := a) h1 h2) (VAs.self rfl) rfl rfl rfl rfl rfl rfl ?_
  apply AOps.norm
  ·
   repeat' (first | exact HN.nil rfl | apply HN.cons rfl | exact BN.row rfl | exact BN.map rfl | apply BN.box rfl | exact MN.nil rfl | apply MN.cons rfl | exact XN.d rfl | exact XN.rs rfl | exact XN.self)
  refine AOps.forget [(26, _), (5, _), (4, _), (17, _), (3, _), (2, _), (1, _), (0, _)] ⟨rfl, rfl, rfl, rfl, rfl, rfl, rfl, rfl, trivial⟩ ?_
  refine AOps.heap (HS.alloc hσ rfl rfl rfl rfl rfl) rfl ?_
  apply AOps.norm
  ·
   repeat' (first | exact HN.nil rfl | apply HN.cons rfl | exact BN.row rfl | exact BN.map rfl | apply BN.box rfl | exact MN.nil rfl | apply MN.cons rfl | exact XN.d rfl | exact XN.rs rfl | exact XN.self)
  refine AOps.heap (HS.storeBox hσ rfl rfl rfl rfl rfl rfl rfl rfl rfl rfl rfl) rfl ?_
  apply AOps.norm
  ·
   repeat' (first | exact HN.nil rfl | apply HN.cons rfl | exact BN.row rfl | exact BN.map rfl | apply BN.box rfl | exact MN.nil rfl | apply MN.cons rfl | exact XN.d rfl | exact XN.rs rfl | exact XN.self)
  refine AOps.nil ?_
  refine AWP.seq ?_
  refine AWP.region ?_
  refine AOps.step (Val.of hσ rfl rfl) rfl rfl rfl ?_
  refine AOps.rows hσ (B0 := 30000) rfl rfl rfl rfl (ci) (.cons (.agg (.cons (.whole rfl (List.length_map _).symm) (.cons (.whole rfl (List.length_map _).symm) (.cons (.whole rfl (List.length_map _).symm) (.cons (.whole rfl (List.length_map _).symm) .nil))))) .nil) rfl rfl rfl rfl rfl rfl ?_
  apply AOps.norm
  ·
   repeat' (first | exact HN.nil rfl | apply HN.cons rfl | exact BN.row rfl | exact BN.map rfl | apply BN.box rfl | exact MN.nil rfl | apply MN.cons rfl | exact XN.d rfl | exact XN.rs rfl | exact XN.self)
  refine AOps.step (Val.of hσ rfl rfl) rfl rfl rfl ?_
  refine AOps.step (Val.of hσ rfl rfl) rfl rfl rfl ?_
  refine AOps.step (Val.of hσ rfl rfl) rfl rfl rfl ?_
  refine AOps.forget [(31, _), (30, _), (6, _), (26, _), (5, _), (4, _), (17, _), (3, _), (2, _), (1, _), (0, _)] ⟨rfl, rfl, rfl, rfl, rfl, rfl, rfl, rfl, rfl, rfl, rfl, trivial⟩ ?_
  refine AOps.heap (HS.alloc hσ rfl rfl rfl rfl rfl) rfl ?_
  apply AOps.norm
  ·
   repeat' (first | exact HN.nil rfl | apply HN.cons rfl | exact BN.row rfl | exact BN.map rfl | apply BN.box rfl | exact MN.nil rfl | apply MN.cons rfl | exact XN.d rfl | exact XN.rs rfl | exact XN.self)
  refine AOps.heap (HS.storeBox hσ rfl rfl rfl rfl rfl rfl rfl rfl rfl rfl rfl) rfl ?_
  apply AOps.norm
  ·
   repeat' (first | exact HN.nil rfl | apply HN.cons rfl | exact BN.row rfl | exact BN.map rfl | apply BN.box rfl | exact MN.nil rfl | apply MN.cons rfl | exact XN.d rfl | exact XN.rs rfl | exact XN.self)
  refine AOps.step (Val.of hσ rfl rfl) rfl rfl rfl ?_
  refine AOps.forget [(8, _), (7, _), (6, _), (26, _), (5, _), (4, _), (17, _), (3, _), (2, _), (1, _), (0, _)] ⟨rfl, rfl, rfl, rfl, rfl, rfl, rfl, rfl, rfl, rfl, rfl, trivial⟩ ?_
  refine AOps.nil ?_
  refine AWP.seq ?_
  refine AWP.seq ?_
  refine AWP.region ?_
  refine AOps.step (Val.of hσ rfl rfl) rfl rfl rfl ?_
  refine AOps.step (Val.of hσ rfl rfl) rfl rfl rfl ?_
  refine AOps.lone hσ rfl rfl rfl rfl ((c26 (s := (⟨[], [], [], []⟩ : An)) (t := (⟨[], [], [], []⟩ : An)) h1 h2).plain (u := eB true) (by simp)) (.cons (.agg (.cons .nils (.cons .nils (.cons .nils (.cons .nils .nil))))) (.cons (.agg (VMs.self rfl)) .nil)) rfl rfl rfl rfl rfl (B0 := 35000) rfl ?_
  refine AOps.step (Val.of hσ rfl rfl) rfl rfl rfl ?_
  refine AOps.step (Val.of hσ rfl rfl) rfl rfl rfl ?_
  refine AOps.forget [(36, _), (8, _), (7, _), (6, _), (26, _), (5, _), (4, _), (17, _), (3, _), (2, _), (1, _), (0, _)] ⟨rfl, rfl, rfl, rfl, rfl, rfl, rfl, rfl, rfl, rfl, rfl, rfl, trivial⟩ ?_
  refine AOps.live rfl rfl rfl rfl rfl ?_
  refine AOps.step (Val.of hσ rfl rfl) rfl rfl rfl ?_
  refine AOps.live rfl rfl rfl rfl rfl ?_
  refine AOps.step (Val.of hσ rfl rfl) rfl rfl rfl ?_
  refine AOps.live rfl rfl rfl rfl rfl ?_
  refine AOps.step (Val.of hσ rfl rfl) rfl rfl rfl ?_
  refine AOps.step (Val.pickN hσ rfl rfl rfl rfl rfl) rfl rfl rfl ?_
  refine AOps.forget [(40, _), (8, _), (7, _), (6, _), (26, _), (5, _), (4, _), (17, _), (3, _), (2, _), (1, _), (0, _)] ⟨rfl, rfl, rfl, rfl, rfl, rfl, rfl, rfl, rfl, rfl, rfl, rfl, trivial⟩ ?_
  refine AOps.nil ?_
  refine AWP.cond hσ rfl rfl (fun hc40 => ?_) (fun hc40 => ?_)
  ·
   skip
   exact absurd (show false = true from hc40) (by decide)
  ·
   skip
   refine AWP.skip ?_
   refine AWP.seq ?_
   refine AWP.seq ?_
   refine AWP.forget [(8, _), (7, _), (6, _), (26, _), (5, _), (4, _), (17, _), (3, _), (2, _), (1, _), (0, _)] ⟨rfl, rfl, rfl, rfl, rfl, rfl, rfl, rfl, rfl, rfl, rfl, trivial⟩ ?_
   refine AWP.drawR hσ _ [_, _, _, _, _] [⟨[], 0, 1, none⟩, ⟨[], 0, 0, none⟩, ⟨[1], 0, 0, some 0⟩, ⟨[0, 1, 2], 0, 0, some 1⟩, ⟨[0, 1, 2, 3], 2, 2, none⟩] [2, 3] [_, _, _] rfl rfl (by decide) (by decide) (by kernel_rfl) (And.intro (And.intro (Val.of hσ rfl rfl) (Val.of hσ rfl rfl)) (And.intro (Val.of hσ rfl rfl) (And.intro (Eff.plainD hσ (B0 := 44000) rfl rfl rfl rfl (c24d (a := a) h1 h2) (VAs.self rfl) rfl rfl rfl rfl rfl) (And.intro (Eff.lone hσ (B0 := 45000) rfl rfl rfl rfl ((c26 (s := a) (t := a) h1 h2).plain (u := eB true) (by simp)) (.cons (.agg (.cons (.whole rfl (List.length_map _).symm) (.cons (.whole rfl (List.length_map _).symm) (.cons (.whole rfl (List.length_map _).symm) (.cons (.whole rfl (List.length_map _).symm) .nil))))) (.cons (.agg (VMs.self rfl)) .nil)) rfl rfl rfl rfl rfl) (And.intro (Val.of hσ rfl rfl) trivial))))) ?_
   refine AWP.forget [(45, _), (8, _), (7, _), (6, _), (26, _), (5, _), (4, _), (17, _), (3, _), (2, _), (1, _), (0, _)] ⟨rfl, rfl, rfl, rfl, rfl, rfl, rfl, rfl, rfl, rfl, rfl, rfl, trivial⟩ ?_
   apply AWP.norm
   ·
    repeat' (first | exact HN.nil rfl | apply HN.cons rfl | exact BN.row rfl | exact BN.map rfl | apply BN.box rfl | exact MN.nil rfl | apply MN.cons rfl | exact XN.d rfl | exact XN.rs rfl | exact XN.self)
   refine AWP.cond hσ rfl rfl (fun hc45 => ?_) (fun hc45 => ?_)
   ·
    skip
    exact absurd (show false = true from hc45) (by decide)
   ·
    skip
    refine AWP.skip ?_
    refine AWP.seq ?_
    refine AWP.region ?_
    refine AOps.step (Val.of hσ rfl rfl) rfl rfl rfl ?_
    refine AOps.nil ?_
    refine AWP.seq ?_
    refine AWP.region ?_
    refine AOps.step (Val.of hσ rfl rfl) rfl rfl rfl ?_
    refine AOps.step (Val.of hσ rfl rfl) rfl rfl rfl ?_
    refine AOps.forget [(47, _), (46, _), (9, _), (8, _), (7, _), (6, _), (26, _), (5, _), (4, _), (17, _), (3, _), (2, _), (1, _), (0, _)] ⟨rfl, rfl, rfl, rfl, rfl, rfl, rfl, rfl, rfl, rfl, rfl, rfl, rfl, rfl, trivial⟩ ?_
    refine AOps.inn hσ [27000, 27001, 27002, 27003] (bin := [trow a.pre, trow a.post, irow a.code, prow a.pts]) rfl rfl rfl rfl (c27 (a := a) (k := 1) h1 h2 (by decide) (by omega)) rfl rfl rfl rfl rfl rfl (B0 := 49000) rfl rfl ?_
    apply AOps.norm
    ·
     repeat' (first | exact HN.nil rfl | apply HN.cons rfl | exact BN.row rfl | exact BN.map rfl | apply BN.box rfl | exact MN.nil rfl | apply MN.cons rfl | exact XN.d rfl | exact XN.rs rfl | exact XN.self)
    refine AOps.step (Val.of hσ rfl rfl) rfl rfl rfl ?_
    refine AOps.forget [(9, _), (8, _), (7, _), (6, _), (26, _), (5, _), (4, _), (17, _), (3, _), (2, _), (1, _), (0, _)] ⟨rfl, rfl, rfl, rfl, rfl, rfl, rfl, rfl, rfl, rfl, rfl, rfl, trivial⟩ ?_
    refine AOps.nil ?_
    refine AWP.seq ?_
    refine AWP.seq ?_
    refine AWP.region ?_
    refine AOps.step (Val.of hσ rfl rfl) rfl rfl rfl ?_
    refine AOps.step (Val.of hσ rfl rfl) rfl rfl rfl ?_
    rw [decide_eq_false (show ¬ (1 + cnt nT a.pre + cnt nT a.post + cnt nIn a.code + cnt nP a.pts : Int) < 0 by omega)]
    refine AOps.step (Val.of hσ rfl rfl) rfl rfl rfl ?_
    refine AOps.forget [(51, _), (9, _), (8, _), (7, _), (6, _), (26, _), (5, _), (4, _), (17, _), (3, _), (2, _), (1, _), (0, _)] ⟨rfl, rfl, rfl, rfl, rfl, rfl, rfl, rfl, rfl, rfl, rfl, rfl, rfl, trivial⟩ ?_
    refine AOps.live rfl rfl rfl rfl rfl ?_
    refine AOps.step (Val.of hσ rfl rfl) rfl rfl rfl ?_
    refine AOps.live rfl rfl rfl rfl rfl ?_
    refine AOps.step (Val.of hσ rfl rfl) rfl rfl rfl ?_
    refine AOps.live rfl rfl rfl rfl rfl ?_
    refine AOps.lone hσ rfl rfl rfl rfl ((c26 (s := (⟨[], [], [], []⟩ : An)) (t := (⟨[], [], [], []⟩ : An)) h1 h2).plain (u := eB true) (by simp)) (.cons (.agg (.cons .nils (.cons .nils (.cons .nils (.cons .nils .nil))))) (.cons (.agg (VMs.self rfl)) .nil)) rfl rfl rfl rfl rfl (B0 := 55000) rfl ?_
    refine AOps.forget [(54, _), (51, _), (9, _), (8, _), (7, _), (6, _), (26, _), (5, _), (4, _), (17, _), (3, _), (2, _), (1, _), (0, _)] ⟨rfl, rfl, rfl, rfl, rfl, rfl, rfl, rfl, rfl, rfl, rfl, rfl, rfl, rfl, trivial⟩ ?_
    refine AOps.live rfl rfl rfl rfl rfl ?_
    refine AOps.step (Val.of hσ rfl rfl) rfl rfl rfl ?_
    refine AOps.step (Val.pickN hσ rfl rfl rfl rfl rfl) rfl rfl rfl ?_
    refine AOps.step (Val.of hσ rfl rfl) rfl rfl rfl ?_
    refine AOps.forget [(57, _), (9, _), (8, _), (7, _), (6, _), (26, _), (5, _), (4, _), (17, _), (3, _), (2, _), (1, _), (0, _)] ⟨rfl, rfl, rfl, rfl, rfl, rfl, rfl, rfl, rfl, rfl, rfl, rfl, rfl, trivial⟩ ?_
    refine AOps.live rfl rfl rfl rfl rfl ?_
    refine AOps.step (Val.of hσ rfl rfl) rfl rfl rfl ?_
    refine AOps.live rfl rfl rfl rfl rfl ?_
    refine AOps.step (Val.of hσ rfl rfl) rfl rfl rfl ?_
    refine AOps.live rfl rfl rfl rfl rfl ?_
    refine AOps.step (Val.of hσ rfl rfl) rfl rfl rfl ?_
    refine AOps.step (Val.pickN hσ rfl rfl rfl rfl rfl) rfl rfl rfl ?_
    refine AOps.forget [(61, _), (9, _), (8, _), (7, _), (6, _), (26, _), (5, _), (4, _), (17, _), (3, _), (2, _), (1, _), (0, _)] ⟨rfl, rfl, rfl, rfl, rfl, rfl, rfl, rfl, rfl, rfl, rfl, rfl, rfl, trivial⟩ ?_
    refine AOps.nil ?_
    refine AWP.cond hσ rfl rfl (fun hc61 => ?_) (fun hc61 => ?_)
    ·
     skip
     exact absurd (show false = true from hc61) (by decide)
    ·
     skip
     refine AWP.skip ?_
     refine AWP.seq ?_
     refine AWP.region ?_
     refine AOps.step (Val.of hσ rfl rfl) rfl rfl rfl ?_
     refine AOps.nil ?_
     refine AWP.seq ?_
     refine AWP.region ?_
     refine AOps.step (Val.of hσ rfl rfl) rfl rfl rfl ?_
     refine AOps.step (Val.of hσ rfl rfl) rfl rfl rfl ?_
     refine AOps.forget [(63, _), (62, _), (10, _), (9, _), (8, _), (7, _), (6, _), (26, _), (5, _), (4, _), (17, _), (3, _), (2, _), (1, _), (0, _)] ⟨rfl, rfl, rfl, rfl, rfl, rfl, rfl, rfl, rfl, rfl, rfl, rfl, rfl, rfl, rfl, trivial⟩ ?_
     refine AOps.lone hσ rfl rfl rfl rfl (c27n (k := 1) h1 h2) (.cons (.agg (.cons .nils (.cons .nils (.cons .nils (.cons .nils .nil))))) (.cons (.c .d) .nil)) rfl rfl rfl rfl rfl (B0 := 65000) rfl ?_
     refine AOps.step (Val.of hσ rfl rfl) rfl rfl rfl ?_
     refine AOps.forget [(10, _), (9, _), (8, _), (7, _), (6, _), (26, _), (5, _), (4, _), (17, _), (3, _), (2, _), (1, _), (0, _)] ⟨rfl, rfl, rfl, rfl, rfl, rfl, rfl, rfl, rfl, rfl, rfl, rfl, rfl, trivial⟩ ?_
     refine AOps.nil ?_
     refine AWP.seq ?_
     refine AWP.region ?_
     refine AOps.step (Val.of hσ rfl rfl) rfl rfl rfl ?_
     refine AOps.nil ?_
     refine AWP.seq ?_
     refine AWP.region ?_
     refine AOps.step (Val.of hσ rfl rfl) rfl rfl rfl ?_
     refine AOps.step (Val.of hσ rfl rfl) rfl rfl rfl ?_
     refine AOps.lone hσ rfl rfl rfl rfl ((c28 (a := (⟨[], [], [], []⟩ : An)) (k := 1) h1 h2 (by decide) (by decide)).plain (u := eI 1) rfl) (.cons (.agg (.cons .nils (.cons .nils (.cons .nils (.cons .nils .nil))))) (.cons (.c .d) .nil)) rfl rfl rfl rfl rfl (B0 := 68000) rfl ?_
     refine AOps.step (Val.of hσ rfl rfl) rfl rfl rfl ?_
     refine AOps.forget [(11, _), (10, _), (9, _), (8, _), (7, _), (6, _), (26, _), (5, _), (4, _), (17, _), (3, _), (2, _), (1, _), (0, _)] ⟨rfl, rfl, rfl, rfl, rfl, rfl, rfl, rfl, rfl, rfl, rfl, rfl, rfl, rfl, trivial⟩ ?_
     refine AOps.nil ?_
     refine AWP.seq ?_
     refine AWP.seq ?_
     refine AWP.region ?_
     refine AOps.step (Val.of hσ rfl rfl) rfl rfl rfl ?_
     refine AOps.step (Val.of hσ rfl rfl) rfl rfl rfl ?_
     refine AOps.nil ?_
     refine AWP.cond hσ rfl rfl (fun hc69 => ?_) (fun hc69 => ?_)
     ·
      skip
      exact absurd (of_decide_eq_true hc69) (by decide)
     ·
      skip
      refine AWP.skip ?_
      refine AWP.seq ?_
      refine AWP.seq ?_
      refine AWP.region ?_
      refine AOps.step (Val.of hσ rfl rfl) rfl rfl rfl ?_
      refine AOps.step (Val.of hσ rfl rfl) rfl rfl rfl ?_
      refine AOps.step (Val.of hσ rfl rfl) rfl rfl rfl ?_
      refine AOps.forget [(72, _), (68, _), (11, _), (10, _), (9, _), (8, _), (7, _), (6, _), (26, _), (5, _), (4, _), (17, _), (3, _), (2, _), (1, _), (0, _)] ⟨rfl, rfl, rfl, rfl, rfl, rfl, rfl, rfl, rfl, rfl, rfl, rfl, rfl, rfl, rfl, rfl, trivial⟩ ?_
      refine AOps.nil ?_
      refine AWP.cond hσ rfl rfl (fun hc72 => ?_) (fun hc72 => ?_)
      ·
       skip
       exact absurd hc72 (by simp)
      ·
       skip
       refine AWP.skip ?_
       refine AWP.seq ?_
       refine AWP.region ?_
       refine AOps.step (Val.of hσ rfl rfl) rfl rfl rfl ?_
       refine AOps.forget [(74, _), (68, _), (11, _), (10, _), (9, _), (8, _), (7, _), (6, _), (26, _), (5, _), (4, _), (17, _), (3, _), (2, _), (1, _), (0, _)] ⟨rfl, rfl, rfl, rfl, rfl, rfl, rfl, rfl, rfl, rfl, rfl, rfl, rfl, rfl, rfl, rfl, trivial⟩ ?_
       refine AOps.plainD hσ rfl rfl rfl rfl (c24d (a := a) h1 h2) (VAs.self rfl) rfl rfl rfl rfl (B0 := 76000) rfl rfl ?_
       refine AOps.forget [(75, _), (68, _), (11, _), (10, _), (9, _), (8, _), (7, _), (6, _), (26, _), (5, _), (4, _), (17, _), (3, _), (2, _), (1, _), (0, _)] ⟨rfl, rfl, rfl, rfl, rfl, rfl, rfl, rfl, rfl, rfl, rfl, rfl, rfl, rfl, rfl, rfl, trivial⟩ ?_
       refine AOps.rows hσ (B0 := 77000) rfl rfl rfl rfl (ci) (VAs.self rfl) rfl rfl rfl rfl rfl rfl ?_
       apply AOps.norm
       ·
        repeat' (first | exact HN.nil rfl | apply HN.cons rfl | exact BN.row rfl | exact BN.map rfl | apply BN.box rfl | exact MN.nil rfl | apply MN.cons rfl | exact XN.d rfl | exact XN.rs rfl | exact XN.self)
       refine AOps.step (Val.of hσ rfl rfl) rfl rfl rfl ?_
       refine AOps.step (Val.of hσ rfl rfl) rfl rfl rfl ?_
       refine AOps.step (Val.of hσ rfl rfl) rfl rfl rfl ?_
       refine AOps.forget [(78, _), (77, _), (68, _), (11, _), (10, _), (9, _), (8, _), (7, _), (6, _), (26, _), (5, _), (4, _), (17, _), (3, _), (2, _), (1, _), (0, _)] ⟨rfl, rfl, rfl, rfl, rfl, rfl, rfl, rfl, rfl, rfl, rfl, rfl, rfl, rfl, rfl, rfl, rfl, trivial⟩ ?_
       refine AOps.heap (HS.alloc hσ rfl rfl rfl rfl rfl) rfl ?_
       apply AOps.norm
       ·
        repeat' (first | exact HN.nil rfl | apply HN.cons rfl | exact BN.row rfl | exact BN.map rfl | apply BN.box rfl | exact MN.nil rfl | apply MN.cons rfl | exact XN.d rfl | exact XN.rs rfl | exact XN.self)
       refine AOps.heap (HS.storeBox hσ rfl rfl rfl rfl rfl rfl rfl rfl rfl rfl rfl) rfl ?_
       apply AOps.norm
       ·
        repeat' (first | exact HN.nil rfl | apply HN.cons rfl | exact BN.row rfl | exact BN.map rfl | apply BN.box rfl | exact MN.nil rfl | apply MN.cons rfl | exact XN.d rfl | exact XN.rs rfl | exact XN.self)
       refine AOps.step (Val.of hσ rfl rfl) rfl rfl rfl ?_
       refine AOps.forget [(13, _), (12, _), (68, _), (11, _), (10, _), (9, _), (8, _), (7, _), (6, _), (26, _), (5, _), (4, _), (17, _), (3, _), (2, _), (1, _), (0, _)] ⟨rfl, rfl, rfl, rfl, rfl, rfl, rfl, rfl, rfl, rfl, rfl, rfl, rfl, rfl, rfl, rfl, rfl, trivial⟩ ?_
       refine AOps.nil ?_
       refine AWP.seq ?_
       refine AWP.seq ?_
       refine AWP.region ?_
       refine AOps.step (Val.of hσ rfl rfl) rfl rfl rfl ?_
       refine AOps.step (Val.of hσ rfl rfl) rfl rfl rfl ?_
       refine AOps.lone hσ rfl rfl rfl rfl ((c26 (s := (⟨[], [], [], []⟩ : An)) (t := (⟨[], [], [], []⟩ : An)) h1 h2).plain (u := eB true) (by simp)) (.cons (.agg (.cons .nils (.cons .nils (.cons .nils (.cons .nils .nil))))) (.cons (.agg (VMs.self rfl)) .nil)) rfl rfl rfl rfl rfl (B0 := 82000) rfl ?_
       refine AOps.step (Val.of hσ rfl rfl) rfl rfl rfl ?_
       refine AOps.step (Val.of hσ rfl rfl) rfl rfl rfl ?_
       refine AOps.forget [(83, _), (13, _), (12, _), (68, _), (11, _), (10, _), (9, _), (8, _), (7, _), (6, _), (26, _), (5, _), (4, _), (17, _), (3, _), (2, _), (1, _), (0, _)] ⟨rfl, rfl, rfl, rfl, rfl, rfl, rfl, rfl, rfl, rfl, rfl, rfl, rfl, rfl, rfl, rfl, rfl, rfl, trivial⟩ ?_
       refine AOps.live rfl rfl rfl rfl rfl ?_
       refine AOps.step (Val.of hσ rfl rfl) rfl rfl rfl ?_
       refine AOps.forget [(84, _), (83, _), (12, _), (68, _), (11, _), (10, _), (9, _), (8, _), (7, _), (6, _), (26, _), (5, _), (4, _), (17, _), (3, _), (2, _), (1, _), (0, _)] ⟨rfl, rfl, rfl, rfl, rfl, rfl, rfl, rfl, rfl, rfl, rfl, rfl, rfl, rfl, rfl, rfl, rfl, rfl, trivial⟩ ?_
       refine AOps.live rfl rfl rfl rfl rfl ?_
       refine AOps.step (Val.of hσ rfl rfl) rfl rfl rfl ?_
       refine AOps.live rfl rfl rfl rfl rfl ?_
       refine AOps.step (Val.of hσ rfl rfl) rfl rfl rfl ?_
       refine AOps.step (Val.pickN hσ rfl rfl rfl rfl rfl) rfl rfl rfl ?_
       refine AOps.forget [(87, _), (12, _), (68, _), (11, _), (10, _), (9, _), (8, _), (7, _), (6, _), (26, _), (5, _), (4, _), (17, _), (3, _), (2, _), (1, _), (0, _)] ⟨rfl, rfl, rfl, rfl, rfl, rfl, rfl, rfl, rfl, rfl, rfl, rfl, rfl, rfl, rfl, rfl, rfl, trivial⟩ ?_
       refine AOps.nil ?_
       refine AWP.cond hσ rfl rfl (fun hc87 => ?_) (fun hc87 => ?_)
       ·
        skip
        exact absurd (show false = true from hc87) (by decide)
       ·
        skip
        refine AWP.skip ?_
        refine AWP.seq ?_
        refine AWP.region ?_
        refine AOps.step (Val.of hσ rfl rfl) rfl rfl rfl ?_
        refine AOps.nil ?_
        refine AWP.seq ?_
        refine AWP.region ?_
        refine AOps.step (Val.of hσ rfl rfl) rfl rfl rfl ?_
        refine AOps.step (Val.of hσ rfl rfl) rfl rfl rfl ?_
        refine AOps.forget [(89, _), (88, _), (11, _), (12, _), (68, _), (10, _), (9, _), (8, _), (7, _), (6, _), (26, _), (5, _), (4, _), (17, _), (3, _), (2, _), (1, _), (0, _)] ⟨rfl, rfl, rfl, rfl, rfl, rfl, rfl, rfl, rfl, rfl, rfl, rfl, rfl, rfl, rfl, rfl, rfl, rfl, trivial⟩ ?_
        refine AOps.lone hσ rfl rfl rfl rfl ((c28 (a := (⟨[], [], [], []⟩ : An)) (k := 1) h1 h2 (by decide) (by decide)).plain (u := eI 1) rfl) (.cons (.agg (.cons .nils (.cons .nils (.cons .nils (.cons .nils .nil))))) (.cons (.c .d) .nil)) rfl rfl rfl rfl rfl (B0 := 91000) rfl ?_
        refine AOps.step (Val.of hσ rfl rfl) rfl rfl rfl ?_
        refine AOps.forget [(11, _), (12, _), (68, _), (10, _), (9, _), (8, _), (7, _), (6, _), (26, _), (5, _), (4, _), (17, _), (3, _), (2, _), (1, _), (0, _)] ⟨rfl, rfl, rfl, rfl, rfl, rfl, rfl, rfl, rfl, rfl, rfl, rfl, rfl, rfl, rfl, rfl, trivial⟩ ?_
        refine AOps.nil ?_
        refine AWP.seq ?_
        refine AWP.seq ?_
        refine AWP.region ?_
        refine AOps.step (Val.of hσ rfl rfl) rfl rfl rfl ?_
        refine AOps.step (Val.of hσ rfl rfl) rfl rfl rfl ?_
        refine AOps.nil ?_
        refine AWP.cond hσ rfl rfl (fun hc92 => ?_) (fun hc92 => ?_)
        ·
         skip
         exact absurd (of_decide_eq_true hc92) (by decide)
        ·
         skip
         refine AWP.skip ?_
         refine AWP.seq ?_
         refine AWP.seq ?_
         refine AWP.region ?_
         refine AOps.step (Val.of hσ rfl rfl) rfl rfl rfl ?_
         refine AOps.step (Val.of hσ rfl rfl) rfl rfl rfl ?_
         refine AOps.step (Val.of hσ rfl rfl) rfl rfl rfl ?_
         refine AOps.forget [(95, _), (91, _), (11, _), (12, _), (68, _), (10, _), (9, _), (8, _), (7, _), (6, _), (26, _), (5, _), (4, _), (17, _), (3, _), (2, _), (1, _), (0, _)] ⟨rfl, rfl, rfl, rfl, rfl, rfl, rfl, rfl, rfl, rfl, rfl, rfl, rfl, rfl, rfl, rfl, rfl, rfl, trivial⟩ ?_
         refine AOps.nil ?_
         refine AWP.cond hσ rfl rfl (fun hc95 => ?_) (fun hc95 => ?_)
         ·
          skip
          exact absurd hc95 (by simp)
         ·
          skip
          refine AWP.skip ?_
          refine AWP.seq ?_
          refine AWP.region ?_
          refine AOps.step (Val.of hσ rfl rfl) rfl rfl rfl ?_
          refine AOps.nil ?_
          refine AWP.ret ?_
          refine ⟨.inl rfl, _, Ent.refl, _, rfl, ?_⟩
          rfl
theorem c4a {L : Nat} (h1 : 4096 ≤ L) (h2 : L ≤ 9223372036854775807) {a : An} (hz : szr 1048576 a.size < 0) : MC Try.prog L 3 [aAn a] [] (Plain (eB true)) := by
 refine MC.alone ?_ rfl
 have hσ := SGok (nt := 96) h1 h2
 refine MC.body hσ Try.func3 (by kernel_rfl) rfl rfl (Nat.le_of_ble_eq_true rfl) (fun hF => ?_)
 refine AWP.seq ?_
 refine AWP.region ?_
 refine AOps.heap (HS.box hσ rfl rfl rfl rfl rfl rfl rfl) rfl ?_
 apply AOps.norm
 ·
  repeat' (first | exact HN.nil rfl | apply HN.cons rfl | exact BN.row rfl | exact BN.map rfl | apply BN.box rfl | exact MN.nil rfl | apply MN.cons rfl | exact XN.d rfl | exact XN.rs rfl | exact XN.self)
 refine AOps.step (Val.of hσ rfl rfl) rfl rfl rfl ?_
 refine AOps.nil ?_
 refine AWP.seq ?_
 refine AWP.region ?_
 refine AOps.step (Val.of hσ rfl rfl) rfl rfl rfl ?_
 refine AOps.nil ?_
 refine AWP.seq ?_
 refine AWP.region ?_
 refine AOps.step (Val.of hσ rfl rfl) rfl rfl rfl ?_
 refine AOps.step (Val.of hσ rfl rfl) rfl rfl rfl ?_
 refine AOps.lone hσ rfl rfl rfl rfl (c22 (a := a) (left := 1048576) h1 h2 (by decide) (by decide)) (VAs.self rfl) rfl rfl rfl rfl rfl (B0 := 17000) rfl ?_
 refine AOps.step (Val.of hσ rfl rfl) rfl rfl rfl ?_
 refine AOps.forget [(3, _), (2, _), (1, _), (0, _)] ⟨rfl, rfl, rfl, rfl, trivial⟩ ?_
 refine AOps.nil ?_
 refine AWP.seq ?_
 refine AWP.seq ?_
 refine AWP.region ?_
 refine AOps.step (Val.of hσ rfl rfl) rfl rfl rfl ?_
 refine AOps.step (Val.of hσ rfl rfl) rfl rfl rfl ?_
 refine AOps.nil ?_
 refine AWP.cond hσ rfl rfl (fun hc18 => ?_) (fun hc18 => ?_)
 ·
  skip
  refine AWP.seq ?_
  refine AWP.region ?_
  refine AOps.step (Val.of hσ rfl rfl) rfl rfl rfl ?_
  refine AOps.nil ?_
  refine AWP.ret ?_
  refine ⟨.inl rfl, _, Ent.refl, _, rfl, ?_⟩
  rfl
 ·
  skip
  exact absurd (of_decide_eq_false hc18) (fun h => h hz)
end Go.Al
namespace Go.Al
open Go.Proofs
set_option linter.unusedVariables false
set_option linter.unusedSimpArgs false
/-- What folding leaves as it is. -/
structure Fr (a b : An) : Prop where
  pre : b.pre = a.pre
  post : b.post = a.post
  pts : b.pts.map Pt.fs = a.pts.map Pt.fs
  len : b.code.length ≤ a.code.length
theorem Fr.refl {a : An} : Fr a a := ⟨rfl, rfl, rfl, Nat.le_refl _⟩
theorem Fr.trans {a b c : An} (h : Fr a b) (g : Fr b c) : Fr a c := ⟨g.pre.trans h.pre, g.post.trans h.post, g.pts.trans h.pts, Nat.le_trans g.len h.len⟩
theorem fr_step {a b : An} (h : stepR a = some b) : Fr a b := by
  have hl := stepR_lt h
  obtain ⟨j, _, _, _, h4, _⟩ := stepF_some h
  refine ⟨by rw [h4]; rfl, by rw [h4]; rfl, ?_, by omega⟩
  rw [h4]
  simp only [splR, List.map_map]
  refine List.map_congr_left fun p _ => ?_
  simp only [Function.comp_apply, sPt]
  split <;> rfl
theorem fr_fold : ∀ {n : Nat} {a : An}, Fr a (foldF n a)
  | 0, a => .refl
  | n + 1, a => by
    rw [foldF]
    cases e : stepR a with
    | none => exact .refl
    | some b => exact (fr_step e).trans fr_fold
theorem cnt_nP {ps qs : List Pt} (h : qs.map Pt.fs = ps.map Pt.fs) : cnt nP qs = cnt nP ps := by
  have e : ∀ l : List Pt, cnt nP l = ((l.map Pt.fs).map fun fs => 1 + cnt nT fs).sum := fun l => by rw [List.map_map]; rfl
  rw [e, e, h]
theorem cnt_szP (ps : List Pt) : cnt nP ps = szs Pt.size ps := by
  induction ps with
  | nil => rfl
  | cons p r ih =>
    have := cnt_szs p.fs
    have e : nP p = 1 + cnt nT p.fs := rfl
    simp only [cnt, szs, List.map_cons, List.sum_cons, List.length_cons, Pt.size] at *
    omega
theorem cnt_in (c : List In) : cnt nIn c = 2 * c.length := by
  induction c with
  | nil => rfl
  | cons x r ih =>
    rw [show cnt nIn (x :: r) = 2 + cnt nIn r by simp [cnt], ih, List.length_cons]; omega
theorem fact_ins {L S : Nat} {c : List In} (h : D.fact L (insD c)) (hl : c.length ≤ S) : D.fact S (insD c) := by
  simp only [D.fact, List.length_map, Dss.fact_map] at h ⊢
  refine ⟨hl, fun x hx => ?_⟩
  have := h.2 x hx
  exact ⟨this.1, this.2.1, trivial⟩
theorem fact_pts {L S : Nat} {ps : List Pt} (h : D.fact L (ptsD ps)) (hl : szs Pt.size ps ≤ S) : D.fact S (ptsD ps) := by
  unfold szs at hl
  simp only [D.fact, List.length_map, Dss.fact_map] at h ⊢
  refine ⟨by omega, fun p hp => ?_⟩
  have h1 := h.2 p hp
  have h2 := sum_mem Pt.size hp
  exact ⟨h1.1, fact_tms h1.2.1 (by show p.size ≤ S; omega), trivial⟩
theorem fact_an {L S : Nat} {a : An} (h : A.fact L (aAn a)) (hl : a.size ≤ S) : A.fact S (aAn a) := by
  unfold An.size at hl
  exact ⟨fact_tms h.1 (by omega), fact_tms h.2.1 (by omega), fact_ins h.2.2.1 (by omega), fact_pts h.2.2.2.1 (by omega), trivial⟩
/-- The law of FoldCode holds for all arguments. -/
theorem law4 {L : Nat} (h1 : 4096 ≤ L) (h2 : L ≤ 9223372036854775807) {a : An} : MC Try.prog L 3 [aAn a] [] (Plain (eB true)) := by
  by_cases hz1 : szr 1048576 a.size < 0
  · exact c4a h1 h2 hz1
  have hz1' : 0 ≤ szr 1048576 a.size := by omega
  have g1 := szr_nonneg hz1' (by decide)
  have k1 := cnt_szs a.pre
  have k2 := cnt_szs a.post
  have k3 := cnt_in a.code
  have k4 := cnt_szP a.pts
  have e1 : a.size = szs Tm.size a.pre + szs Tm.size a.post + a.code.length + szs Pt.size a.pts := rfl
  have hcp : 1 + cnt nT a.pre + cnt nT a.post + cnt nIn a.code + cnt nP a.pts ≤ (1073741824 : Int) := by omega
  refine MC.facts ⟨_, _, Try.func3, by kernel_rfl, rfl⟩ fun hF => ?_
  refine MC.lift (L0 := 1073741824) rfl ?_ ?_
  · exact ⟨fact_an hF.1 (by omega), trivial⟩
  · cases hv : annB a with
    | true =>
      have fr : Fr a (foldR a) := fr_fold
      have m1 := cnt_nP fr.pts
      have m2 := cnt_in (foldR a).code
      have m3 := fr.len
      refine c4v (r := foldR a) (by decide) (Nat.le_refl _) ?_ (c23v (by decide) (Nat.le_refl _) hv) (c25v (by decide) (Nat.le_refl _) hv) hz1' hcp
      rw [fr.pre, fr.post]; omega
    | false => exact c4n (by decide) (Nat.le_refl _) (c23n (by decide) (Nat.le_refl _) hv) (c25n (by decide) (Nat.le_refl _) hv) hz1' hcp
end Go.Al
/- What the laws of annotated code share: the types of their arguments. -/
namespace Go.Proofs.Ytnepkogijffmjaa
open Go.ChangeShapes Go.WideShapes Go.ChangeAt Go.RowKit Go.Al
set_option linter.unusedVariables false
set_option maxRecDepth 10000
abbrev tyN2 : List Ty := [.int .i64, .int .i64]
abbrev tyP : List Ty := [.int .i64, .slc tyT]
abbrev tyA : List Ty := [.slc tyT, .slc tyT, .slc tyN2, .slc tyP]
theorem of200 : TyOf Try.prog 78 tyN2 := .struct Try.underlying78 (show FieldsAre Try.prog _ (tyI ++ (tyI ++ [])) 0 from .cons rfl (by kernel_rfl) of2 (.cons rfl (by kernel_rfl) of2 .nil)) (by kernel_rfl)
theorem of47 : TyOf Try.prog 23 [.slc tyN2] := .slc Try.underlying23 of200 (by kernel_rfl) (by decide)
theorem of188 : TyOf Try.prog 63 tyP := .struct Try.underlying63 (show FieldsAre Try.prog _ (tyI ++ ([.slc tyT] ++ [])) 0 from .cons rfl (by kernel_rfl) of2 (.cons rfl (by kernel_rfl) of22 .nil)) (by kernel_rfl)
theorem of48 : TyOf Try.prog 24 [.slc tyP] := .slc Try.underlying24 of188 (by kernel_rfl) (by decide)
theorem of50 : TyOf Try.prog 26 tyA := .struct Try.underlying26 (show FieldsAre Try.prog _ ([.slc tyT] ++ ([.slc tyT] ++ ([.slc tyN2] ++ ([.slc tyP] ++ [])))) 0 from
  .cons rfl (by kernel_rfl) of22 (.cons rfl (by kernel_rfl) of22 (.cons rfl (by kernel_rfl) of47 (.cons rfl (by kernel_rfl) of48 .nil)))) (by kernel_rfl)
theorem fits_instr {e : List D} (h : FitsL tyN2 e) : ∃ x : In, e = x.cells := by
  cases h with
  | cons a1 h =>
    cases h with
    | cons a2 h =>
      cases h
      obtain ⟨n1, rfl⟩ := fits_int a1
      obtain ⟨n2, rfl⟩ := fits_int a2
      exact ⟨⟨n1, n2⟩, rfl⟩
theorem fits_point {e : List D} (h : FitsL tyP e) : ∃ p : Pt, e = p.cells := by
  cases h with
  | cons a1 h =>
    cases h with
    | cons a2 h =>
      cases h
      obtain ⟨n1, rfl⟩ := fits_int a1
      obtain ⟨x2, rfl⟩ := fits_terms a2
      exact ⟨⟨n1, x2⟩, rfl⟩
theorem fits_an {e : List D} (h : FitsL tyA e) : ∃ a : An, e = a.data := by
  cases h with
  | cons a1 h =>
    cases h with
    | cons a2 h =>
      cases h with
      | cons a3 h =>
        cases h with
        | cons a4 h =>
          cases h
          obtain ⟨x1, rfl⟩ := fits_terms a1
          obtain ⟨x2, rfl⟩ := fits_terms a2
          cases a3 with
          | slc a3 =>
            cases a4 with
            | slc a4 =>
              obtain ⟨x3, rfl⟩ := fits_all (g := In.cells) (fun e he => fits_instr he) a3
              obtain ⟨x4, rfl⟩ := fits_all (g := Pt.cells) (fun e he => fits_point he) a4
              exact ⟨⟨x1, x2, x3, x4⟩, rfl⟩
end Go.Proofs.Ytnepkogijffmjaa
