/- The law, walked; the types of its argument. -/
import Derived.Test.YtnepkogijffmjaaGreatR
namespace Go.Al
open Go.Proofs
set_option linter.unusedVariables false
set_option linter.unusedSimpArgs false
set_option maxRecDepth 10000
set_option maxHeartbeats 4000000
theorem c1080v {L : Nat} (h1 : 4096 ≤ L) (h2 : L ≤ 1073741824) {a : An} {r : An} (hcc : 1 + cnt nT r.pre + cnt nT r.post + cnt nIn r.code + cnt nP r.pts ≤ (1073741824 : Int)) (cs : MC Tryz.prog L 15 [aAn a] [] (Plain (.tup [aAn r, eB true]))) (ci : MC Tryz.prog L 17 [aAn a] [] (Rows (.tup [.agg [.rs 0 0 r.pre.length, .rs 1 0 r.post.length, .rs 2 0 r.code.length, .rs 3 0 r.pts.length], eB true]) [trow r.pre, trow r.post, irow r.code, prow r.pts])) (hz1 : 0 ≤ szr 1048576 a.size) (hcp : 1 + cnt nT a.pre + cnt nT a.post + cnt nIn a.code + cnt nP a.pts ≤ (1073741824 : Int)) : MC Tryz.prog L 4 [aAn a] [] (Plain (eB true)) := by
 refine MC.alone ?_ rfl
 have hσ := SGok (nt := 96) h1 (Nat.le_trans h2 (by decide))
 refine MC.body hσ Tryz.func4 (by kernel_rfl) rfl rfl (Nat.le_of_ble_eq_true rfl) (fun hF => ?_)
 have hbig : L ≤ 9223372036854775807 := Nat.le_trans h2 (by decide)
 refine jsr ?_
 refine AOps.heap (HS.box hσ rfl rfl rfl rfl rfl rfl rfl) rfl ?_
 refine jnm ?_
 refine jst hσ rfl rfl rfl rfl rfl ?_
 refine jns ?_
 refine jst hσ rfl rfl rfl rfl rfl ?_
 refine jns ?_
 iterate 2 refine jst hσ rfl rfl rfl rfl rfl ?_
 refine AOps.lone hσ rfl rfl rfl rfl (c22 (a := a) (left := 1048576) h1 hbig (by decide) (by decide)) (VAs.self rfl) rfl rfl rfl rfl rfl (B0 := 17000) rfl ?_
 refine jst hσ rfl rfl rfl rfl rfl ?_
 refine jf [3, 2, 1, 0] rfl ?_
 refine jn ?_
 refine AWP.seq ?_
 refine jsr ?_
 iterate 2 refine jst hσ rfl rfl rfl rfl rfl ?_
 refine jn ?_
 refine AWP.cond hσ rfl rfl (fun hc18 => ?_) (fun hc18 => ?_)
 ·
  skip
  exact absurd (of_decide_eq_true hc18) (by omega)
 ·
  skip
  refine AWP.skip ?_
  refine jsr ?_
  refine jst hσ rfl rfl rfl rfl rfl ?_
  refine jf [20, 17, 3, 2, 1, 0] rfl ?_
  refine AOps.plainD hσ rfl rfl rfl rfl (c24d (a := a) h1 h2) (VAs.self rfl) rfl rfl rfl rfl (B0 := 22000) rfl rfl ?_
  refine jf [21, 17, 3, 2, 1, 0] rfl ?_
  refine AOps.plainD hσ rfl rfl rfl rfl (cs) (VAs.self rfl) rfl rfl rfl rfl (B0 := 23000) rfl rfl ?_
  iterate 3 refine jst hσ rfl rfl rfl rfl rfl ?_
  refine jf [24, 23, 17, 3, 2, 1, 0] rfl ?_
  refine AOps.heap (HS.alloc hσ rfl rfl rfl rfl rfl) rfl ?_
  refine jnm ?_
  refine AOps.heap (HS.storeBox hσ rfl rfl rfl rfl rfl rfl rfl rfl rfl rfl rfl) rfl ?_
  refine jnm ?_
  refine jst hσ rfl rfl rfl rfl rfl ?_
  refine jf [5, 4, 17, 3, 2, 1, 0] rfl ?_
  refine jns ?_
  refine jst hσ rfl rfl rfl rfl rfl ?_
  refine AOps.rows hσ (B0 := 27000) rfl rfl rfl rfl (c24 (a := a) h1 h2) (VAs.self rfl) rfl rfl rfl rfl rfl rfl ?_
  refine jnm ?_
  refine jf [26, 5, 4, 17, 3, 2, 1, 0] rfl ?_
  refine AOps.heap (HS.alloc hσ rfl rfl rfl rfl rfl) rfl ?_
  refine jnm ?_
  refine AOps.heap (HS.storeBox hσ rfl rfl rfl rfl rfl rfl rfl rfl rfl rfl rfl) rfl ?_
  refine jnm ?_
  refine jns ?_
  refine jst hσ rfl rfl rfl rfl rfl ?_
  refine AOps.rows hσ (B0 := 30000) rfl rfl rfl rfl (ci) (.cons (.agg (.cons (.whole rfl (List.length_map _).symm) (.cons (.whole rfl (List.length_map _).symm) (.cons (.whole rfl (List.length_map _).symm) (.cons (.whole rfl (List.length_map _).symm) .nil))))) .nil) rfl rfl rfl rfl rfl rfl ?_
  refine jnm ?_
  iterate 3 refine jst hσ rfl rfl rfl rfl rfl ?_
  refine jf [31, 30, 6, 26, 5, 4, 17, 3, 2, 1, 0] rfl ?_
  refine AOps.heap (HS.alloc hσ rfl rfl rfl rfl rfl) rfl ?_
  refine jnm ?_
  refine AOps.heap (HS.storeBox hσ rfl rfl rfl rfl rfl rfl rfl rfl rfl rfl rfl) rfl ?_
  refine jnm ?_
  refine jst hσ rfl rfl rfl rfl rfl ?_
  refine jf [8, 7, 6, 26, 5, 4, 17, 3, 2, 1, 0] rfl ?_
  refine jn ?_
  refine AWP.seq ?_
  refine jsr ?_
  iterate 2 refine jst hσ rfl rfl rfl rfl rfl ?_
  refine AOps.lone hσ rfl rfl rfl rfl ((c26 (s := r) (t := r) h1 h2).plain (u := eB true) (by simp)) (.cons (.agg (.cons (.whole rfl (List.length_map _).symm) (.cons (.whole rfl (List.length_map _).symm) (.cons (.whole rfl (List.length_map _).symm) (.cons (.whole rfl (List.length_map _).symm) .nil))))) (.cons (.agg (VMs.self rfl)) .nil)) rfl rfl rfl rfl rfl (B0 := 35000) rfl ?_
  iterate 2 refine jst hσ rfl rfl rfl rfl rfl ?_
  refine jf [36, 8, 7, 6, 26, 5, 4, 17, 3, 2, 1, 0] rfl ?_
  refine AOps.live rfl rfl rfl rfl rfl ?_
  refine jst hσ rfl rfl rfl rfl rfl ?_
  refine AOps.live rfl rfl rfl rfl rfl ?_
  refine jst hσ rfl rfl rfl rfl rfl ?_
  refine AOps.live rfl rfl rfl rfl rfl ?_
  refine jst hσ rfl rfl rfl rfl rfl ?_
  refine AOps.step (Val.pickN hσ rfl rfl rfl rfl rfl) rfl rfl rfl ?_
  refine jf [40, 8, 7, 6, 26, 5, 4, 17, 3, 2, 1, 0] rfl ?_
  refine jn ?_
  refine AWP.cond hσ rfl rfl (fun hc40 => ?_) (fun hc40 => ?_)
  ·
   skip
   exact absurd (show false = true from hc40) (by decide)
  ·
   skip
   refine AWP.skip ?_
   refine AWP.seq ?_
   refine AWP.seq ?_
   refine jw [8, 7, 6, 26, 5, 4, 17, 3, 2, 1, 0] rfl ?_
   refine AWP.drawR hσ _ [_, _, _, _, _] [⟨[], 0, 1, none⟩, ⟨[], 0, 0, none⟩, ⟨[1], 0, 0, some 0⟩, ⟨[0, 1, 2], 0, 0, some 1⟩, ⟨[0, 1, 2, 3], 2, 2, none⟩] [2, 3] [_, _, _] rfl rfl (by decide) (by decide) (by kernel_rfl) (And.intro (And.intro (Val.of hσ rfl rfl) (Val.of hσ rfl rfl)) (And.intro (Val.of hσ rfl rfl) (And.intro (Eff.plainD hσ (B0 := 44000) rfl rfl rfl rfl (c24d (a := a) h1 h2) (VAs.self rfl) rfl rfl rfl rfl rfl) (And.intro (Eff.lone hσ (B0 := 45000) rfl rfl rfl rfl ((c26 (s := a) (t := a) h1 h2).plain (u := eB true) (by simp)) (.cons (.agg (.cons (.whole rfl (List.length_map _).symm) (.cons (.whole rfl (List.length_map _).symm) (.cons (.whole rfl (List.length_map _).symm) (.cons (.whole rfl (List.length_map _).symm) .nil))))) (.cons (.agg (VMs.self rfl)) .nil)) rfl rfl rfl rfl rfl) (And.intro (Val.of hσ rfl rfl) trivial))))) ?_
   refine jw [45, 8, 7, 6, 26, 5, 4, 17, 3, 2, 1, 0] rfl ?_
   refine jnw ?_
   refine AWP.cond hσ rfl rfl (fun hc45 => ?_) (fun hc45 => ?_)
   ·
    skip
    exact absurd (show false = true from hc45) (by decide)
   ·
    skip
    refine AWP.skip ?_
    refine jsr ?_
    refine jst hσ rfl rfl rfl rfl rfl ?_
    refine jns ?_
    iterate 2 refine jst hσ rfl rfl rfl rfl rfl ?_
    refine jf [47, 46, 9, 8, 7, 6, 26, 5, 4, 17, 3, 2, 1, 0] rfl ?_
    refine AOps.inn hσ [27000, 27001, 27002, 27003] (bin := [trow a.pre, trow a.post, irow a.code, prow a.pts]) rfl rfl rfl rfl (c27 (a := a) (k := 1) h1 h2 (by decide) (by omega)) rfl rfl rfl rfl rfl rfl (B0 := 49000) rfl rfl ?_
    refine jnm ?_
    refine jst hσ rfl rfl rfl rfl rfl ?_
    refine jf [9, 8, 7, 6, 26, 5, 4, 17, 3, 2, 1, 0] rfl ?_
    refine jn ?_
    refine AWP.seq ?_
    refine jsr ?_
    iterate 2 refine jst hσ rfl rfl rfl rfl rfl ?_
    rw [decide_eq_false (show ¬ (1 + cnt nT a.pre + cnt nT a.post + cnt nIn a.code + cnt nP a.pts : Int) < 0 by omega)]
    refine jst hσ rfl rfl rfl rfl rfl ?_
    refine jf [51, 9, 8, 7, 6, 26, 5, 4, 17, 3, 2, 1, 0] rfl ?_
    refine AOps.live rfl rfl rfl rfl rfl ?_
    refine jst hσ rfl rfl rfl rfl rfl ?_
    refine AOps.live rfl rfl rfl rfl rfl ?_
    refine jst hσ rfl rfl rfl rfl rfl ?_
    refine AOps.live rfl rfl rfl rfl rfl ?_
    refine AOps.lone hσ rfl rfl rfl rfl ((c26 (s := r) (t := r) h1 h2).plain (u := eB true) (by simp)) (.cons (.agg (.cons (.whole rfl (List.length_map _).symm) (.cons (.whole rfl (List.length_map _).symm) (.cons (.whole rfl (List.length_map _).symm) (.cons (.whole rfl (List.length_map _).symm) .nil))))) (.cons (.agg (VMs.self rfl)) .nil)) rfl rfl rfl rfl rfl (B0 := 55000) rfl ?_
    refine jf [54, 51, 9, 8, 7, 6, 26, 5, 4, 17, 3, 2, 1, 0] rfl ?_
    refine AOps.live rfl rfl rfl rfl rfl ?_
    refine jst hσ rfl rfl rfl rfl rfl ?_
    refine AOps.step (Val.pickN hσ rfl rfl rfl rfl rfl) rfl rfl rfl ?_
    refine jst hσ rfl rfl rfl rfl rfl ?_
    refine jf [57, 9, 8, 7, 6, 26, 5, 4, 17, 3, 2, 1, 0] rfl ?_
    refine AOps.live rfl rfl rfl rfl rfl ?_
    refine jst hσ rfl rfl rfl rfl rfl ?_
    refine AOps.live rfl rfl rfl rfl rfl ?_
    refine jst hσ rfl rfl rfl rfl rfl ?_
    refine AOps.live rfl rfl rfl rfl rfl ?_
    refine jst hσ rfl rfl rfl rfl rfl ?_
    refine AOps.step (Val.pickN hσ rfl rfl rfl rfl rfl) rfl rfl rfl ?_
    refine jf [61, 9, 8, 7, 6, 26, 5, 4, 17, 3, 2, 1, 0] rfl ?_
    refine jn ?_
    refine AWP.cond hσ rfl rfl (fun hc61 => ?_) (fun hc61 => ?_)
    ·
     skip
     exact absurd (show false = true from hc61) (by decide)
    ·
     skip
     refine AWP.skip ?_
     refine jsr ?_
     refine jst hσ rfl rfl rfl rfl rfl ?_
     refine jns ?_
     iterate 2 refine jst hσ rfl rfl rfl rfl rfl ?_
     refine jf [63, 62, 10, 9, 8, 7, 6, 26, 5, 4, 17, 3, 2, 1, 0] rfl ?_
     refine AOps.inn hσ [30000, 30001, 30002, 30003] (bin := [trow r.pre, trow r.post, irow r.code, prow r.pts]) rfl rfl rfl rfl (c27 (a := r) (k := 1) h1 h2 (by decide) (by omega)) rfl rfl rfl rfl rfl rfl (B0 := 65000) rfl rfl ?_
     refine jnm ?_
     refine jst hσ rfl rfl rfl rfl rfl ?_
     refine jf [10, 9, 8, 7, 6, 26, 5, 4, 17, 3, 2, 1, 0] rfl ?_
     refine jns ?_
     refine jst hσ rfl rfl rfl rfl rfl ?_
     refine jns ?_
     iterate 2 refine jst hσ rfl rfl rfl rfl rfl ?_
     refine AOps.lone hσ rfl rfl rfl rfl (c28 (a := r) (k := 1) h1 h2 (by decide) (by omega)) (.cons (.agg (.cons (.whole rfl ((List.length_map _).trans markL_length).symm) (.cons (.whole rfl ((List.length_map _).trans markL_length).symm) (.cons (.whole rfl ((List.length_map _).trans markL_length).symm) (.cons (.whole rfl ((List.length_map _).trans markL_length).symm) .nil))))) (.cons (.c .d) .nil)) rfl rfl rfl rfl rfl (B0 := 68000) rfl ?_
     refine jst hσ rfl rfl rfl rfl rfl ?_
     refine jf [11, 10, 9, 8, 7, 6, 26, 5, 4, 17, 3, 2, 1, 0] rfl ?_
     refine jn ?_
     refine AWP.seq ?_
     refine jsr ?_
     iterate 2 refine jst hσ rfl rfl rfl rfl rfl ?_
     refine jn ?_
     refine AWP.cond hσ rfl rfl (fun hc69 => ?_) (fun hc69 => ?_)
     ·
      skip
      exact absurd (of_decide_eq_true hc69) (by omega)
     ·
      skip
      refine AWP.skip ?_
      refine AWP.seq ?_
      refine jsr ?_
      iterate 3 refine jst hσ rfl rfl rfl rfl rfl ?_
      refine jf [72, 68, 11, 10, 9, 8, 7, 6, 26, 5, 4, 17, 3, 2, 1, 0] rfl ?_
      refine jn ?_
      refine AWP.cond hσ rfl rfl (fun hc72 => ?_) (fun hc72 => ?_)
      ·
       skip
       exact absurd hc72 (by simp)
      ·
       skip
       refine AWP.skip ?_
       refine jsr ?_
       refine jst hσ rfl rfl rfl rfl rfl ?_
       refine jf [74, 68, 11, 10, 9, 8, 7, 6, 26, 5, 4, 17, 3, 2, 1, 0] rfl ?_
       refine AOps.plainD hσ rfl rfl rfl rfl (c24d (a := a) h1 h2) (VAs.self rfl) rfl rfl rfl rfl (B0 := 76000) rfl rfl ?_
       refine jf [75, 68, 11, 10, 9, 8, 7, 6, 26, 5, 4, 17, 3, 2, 1, 0] rfl ?_
       refine AOps.rows hσ (B0 := 77000) rfl rfl rfl rfl (ci) (VAs.self rfl) rfl rfl rfl rfl rfl rfl ?_
       refine jnm ?_
       iterate 3 refine jst hσ rfl rfl rfl rfl rfl ?_
       refine jf [78, 77, 68, 11, 10, 9, 8, 7, 6, 26, 5, 4, 17, 3, 2, 1, 0] rfl ?_
       refine AOps.heap (HS.alloc hσ rfl rfl rfl rfl rfl) rfl ?_
       refine jnm ?_
       refine AOps.heap (HS.storeBox hσ rfl rfl rfl rfl rfl rfl rfl rfl rfl rfl rfl) rfl ?_
       refine jnm ?_
       refine jst hσ rfl rfl rfl rfl rfl ?_
       refine jf [13, 12, 68, 11, 10, 9, 8, 7, 6, 26, 5, 4, 17, 3, 2, 1, 0] rfl ?_
       refine jn ?_
       refine AWP.seq ?_
       refine jsr ?_
       iterate 2 refine jst hσ rfl rfl rfl rfl rfl ?_
       refine AOps.lone hσ rfl rfl rfl rfl ((c26 (s := r) (t := r) h1 h2).plain (u := eB true) (by simp)) (.cons (.agg (.cons (.whole rfl (List.length_map _).symm) (.cons (.whole rfl (List.length_map _).symm) (.cons (.whole rfl (List.length_map _).symm) (.cons (.whole rfl (List.length_map _).symm) .nil))))) (.cons (.agg (VMs.self rfl)) .nil)) rfl rfl rfl rfl rfl (B0 := 82000) rfl ?_
       iterate 2 refine jst hσ rfl rfl rfl rfl rfl ?_
       refine jf [83, 13, 12, 68, 11, 10, 9, 8, 7, 6, 26, 5, 4, 17, 3, 2, 1, 0] rfl ?_
       refine AOps.live rfl rfl rfl rfl rfl ?_
       refine jst hσ rfl rfl rfl rfl rfl ?_
       refine jf [84, 83, 12, 68, 11, 10, 9, 8, 7, 6, 26, 5, 4, 17, 3, 2, 1, 0] rfl ?_
       refine AOps.live rfl rfl rfl rfl rfl ?_
       refine jst hσ rfl rfl rfl rfl rfl ?_
       refine AOps.live rfl rfl rfl rfl rfl ?_
       refine jst hσ rfl rfl rfl rfl rfl ?_
       refine AOps.step (Val.pickN hσ rfl rfl rfl rfl rfl) rfl rfl rfl ?_
       refine jf [87, 12, 68, 11, 10, 9, 8, 7, 6, 26, 5, 4, 17, 3, 2, 1, 0] rfl ?_
       refine jn ?_
       refine AWP.cond hσ rfl rfl (fun hc87 => ?_) (fun hc87 => ?_)
       ·
        skip
        exact absurd (show false = true from hc87) (by decide)
       ·
        skip
        refine AWP.skip ?_
        refine jsr ?_
        refine jst hσ rfl rfl rfl rfl rfl ?_
        refine jns ?_
        iterate 2 refine jst hσ rfl rfl rfl rfl rfl ?_
        refine jf [89, 88, 11, 12, 68, 10, 9, 8, 7, 6, 26, 5, 4, 17, 3, 2, 1, 0] rfl ?_
        refine AOps.lone hσ rfl rfl rfl rfl (c28 (a := r) (k := 1) h1 h2 (by decide) (by omega)) (.cons (.agg (.cons (.whole rfl ((List.length_map _).trans markL_length).symm) (.cons (.whole rfl ((List.length_map _).trans markL_length).symm) (.cons (.whole rfl ((List.length_map _).trans markL_length).symm) (.cons (.whole rfl ((List.length_map _).trans markL_length).symm) .nil))))) (.cons (.c .d) .nil)) rfl rfl rfl rfl rfl (B0 := 91000) rfl ?_
        refine jst hσ rfl rfl rfl rfl rfl ?_
        refine jf [11, 12, 68, 10, 9, 8, 7, 6, 26, 5, 4, 17, 3, 2, 1, 0] rfl ?_
        refine jn ?_
        refine AWP.seq ?_
        refine jsr ?_
        iterate 2 refine jst hσ rfl rfl rfl rfl rfl ?_
        refine jn ?_
        refine AWP.cond hσ rfl rfl (fun hc92 => ?_) (fun hc92 => ?_)
        ·
         skip
         exact absurd (of_decide_eq_true hc92) (by omega)
        ·
         skip
         refine AWP.skip ?_
         refine AWP.seq ?_
         refine jsr ?_
         iterate 3 refine jst hσ rfl rfl rfl rfl rfl ?_
         refine jf [95, 91, 11, 12, 68, 10, 9, 8, 7, 6, 26, 5, 4, 17, 3, 2, 1, 0] rfl ?_
         refine jn ?_
         refine AWP.cond hσ rfl rfl (fun hc95 => ?_) (fun hc95 => ?_)
         ·
          skip
          exact absurd hc95 (by simp)
         ·
          skip
          refine AWP.skip ?_
          refine jsr ?_
          refine jst hσ rfl rfl rfl rfl rfl ?_
          refine jn ?_
          refine AWP.ret ?_
          refine ⟨.inl rfl, _, Ent.refl, _, rfl, ?_⟩
          rfl
theorem c1080n {L : Nat} (h1 : 4096 ≤ L) (h2 : L ≤ 1073741824) {a : An} (cs : MC Tryz.prog L 15 [aAn a] [] (Plain (.tup [aAn (⟨[], [], [], []⟩ : An), eB false]))) (ci : MC Tryz.prog L 17 [aAn a] [] (Rows (.tup [.agg [.d .nils, .d .nils, .d .nils, .d .nils], eB false]) [])) (hz1 : 0 ≤ szr 1048576 a.size) (hcp : 1 + cnt nT a.pre + cnt nT a.post + cnt nIn a.code + cnt nP a.pts ≤ (1073741824 : Int)) : MC Tryz.prog L 4 [aAn a] [] (Plain (eB true)) := by
 refine MC.alone ?_ rfl
 have hσ := SGok (nt := 96) h1 (Nat.le_trans h2 (by decide))
 refine MC.body hσ Tryz.func4 (by kernel_rfl) rfl rfl (Nat.le_of_ble_eq_true rfl) (fun hF => ?_)
 have hbig : L ≤ 9223372036854775807 := Nat.le_trans h2 (by decide)
 refine jsr ?_
 refine AOps.heap (HS.box hσ rfl rfl rfl rfl rfl rfl rfl) rfl ?_
 refine jnm ?_
 refine jst hσ rfl rfl rfl rfl rfl ?_
 refine jns ?_
 refine jst hσ rfl rfl rfl rfl rfl ?_
 refine jns ?_
 iterate 2 refine jst hσ rfl rfl rfl rfl rfl ?_
 refine AOps.lone hσ rfl rfl rfl rfl (c22 (a := a) (left := 1048576) h1 hbig (by decide) (by decide)) (VAs.self rfl) rfl rfl rfl rfl rfl (B0 := 17000) rfl ?_
 refine jst hσ rfl rfl rfl rfl rfl ?_
 refine jf [3, 2, 1, 0] rfl ?_
 refine jn ?_
 refine AWP.seq ?_
 refine jsr ?_
 iterate 2 refine jst hσ rfl rfl rfl rfl rfl ?_
 refine jn ?_
 refine AWP.cond hσ rfl rfl (fun hc18 => ?_) (fun hc18 => ?_)
 ·
  skip
  exact absurd (of_decide_eq_true hc18) (by omega)
 ·
  skip
  refine AWP.skip ?_
  refine jsr ?_
  refine jst hσ rfl rfl rfl rfl rfl ?_
  refine jf [20, 17, 3, 2, 1, 0] rfl ?_
  refine AOps.plainD hσ rfl rfl rfl rfl (c24d (a := a) h1 h2) (VAs.self rfl) rfl rfl rfl rfl (B0 := 22000) rfl rfl ?_
  refine jf [21, 17, 3, 2, 1, 0] rfl ?_
  refine AOps.plainD hσ rfl rfl rfl rfl (cs) (VAs.self rfl) rfl rfl rfl rfl (B0 := 23000) rfl rfl ?_
  iterate 3 refine jst hσ rfl rfl rfl rfl rfl ?_
  refine jf [24, 23, 17, 3, 2, 1, 0] rfl ?_
  refine AOps.heap (HS.alloc hσ rfl rfl rfl rfl rfl) rfl ?_
  refine jnm ?_
  refine AOps.heap (HS.storeBox hσ rfl rfl rfl rfl rfl rfl rfl rfl rfl rfl rfl) rfl ?_
  refine jnm ?_
  refine jst hσ rfl rfl rfl rfl rfl ?_
  refine jf [5, 4, 17, 3, 2, 1, 0] rfl ?_
  refine jns ?_
  refine jst hσ rfl rfl rfl rfl rfl ?_
  refine AOps.rows hσ (B0 := 27000) rfl rfl rfl rfl (c24 (a := a) h1 h2) (VAs.self rfl) rfl rfl rfl rfl rfl rfl ?_
  refine jnm ?_
  refine jf [26, 5, 4, 17, 3, 2, 1, 0] rfl ?_
  refine AOps.heap (HS.alloc hσ rfl rfl rfl rfl rfl) rfl ?_
  refine jnm ?_
  refine AOps.heap (HS.storeBox hσ rfl rfl rfl rfl rfl rfl rfl rfl rfl rfl rfl) rfl ?_
  refine jnm ?_
  refine jns ?_
  refine jst hσ rfl rfl rfl rfl rfl ?_
  refine AOps.rows hσ (B0 := 30000) rfl rfl rfl rfl (ci) (.cons (.agg (.cons (.whole rfl (List.length_map _).symm) (.cons (.whole rfl (List.length_map _).symm) (.cons (.whole rfl (List.length_map _).symm) (.cons (.whole rfl (List.length_map _).symm) .nil))))) .nil) rfl rfl rfl rfl rfl rfl ?_
  refine jnm ?_
  iterate 3 refine jst hσ rfl rfl rfl rfl rfl ?_
  refine jf [31, 30, 6, 26, 5, 4, 17, 3, 2, 1, 0] rfl ?_
  refine AOps.heap (HS.alloc hσ rfl rfl rfl rfl rfl) rfl ?_
  refine jnm ?_
  refine AOps.heap (HS.storeBox hσ rfl rfl rfl rfl rfl rfl rfl rfl rfl rfl rfl) rfl ?_
  refine jnm ?_
  refine jst hσ rfl rfl rfl rfl rfl ?_
  refine jf [8, 7, 6, 26, 5, 4, 17, 3, 2, 1, 0] rfl ?_
  refine jn ?_
  refine AWP.seq ?_
  refine jsr ?_
  iterate 2 refine jst hσ rfl rfl rfl rfl rfl ?_
  refine AOps.lone hσ rfl rfl rfl rfl ((c26 (s := (⟨[], [], [], []⟩ : An)) (t := (⟨[], [], [], []⟩ : An)) h1 h2).plain (u := eB true) (by simp)) (.cons (.agg (.cons .nils (.cons .nils (.cons .nils (.cons .nils .nil))))) (.cons (.agg (VMs.self rfl)) .nil)) rfl rfl rfl rfl rfl (B0 := 35000) rfl ?_
  iterate 2 refine jst hσ rfl rfl rfl rfl rfl ?_
  refine jf [36, 8, 7, 6, 26, 5, 4, 17, 3, 2, 1, 0] rfl ?_
  refine AOps.live rfl rfl rfl rfl rfl ?_
  refine jst hσ rfl rfl rfl rfl rfl ?_
  refine AOps.live rfl rfl rfl rfl rfl ?_
  refine jst hσ rfl rfl rfl rfl rfl ?_
  refine AOps.live rfl rfl rfl rfl rfl ?_
  refine jst hσ rfl rfl rfl rfl rfl ?_
  refine AOps.step (Val.pickN hσ rfl rfl rfl rfl rfl) rfl rfl rfl ?_
  refine jf [40, 8, 7, 6, 26, 5, 4, 17, 3, 2, 1, 0] rfl ?_
  refine jn ?_
  refine AWP.cond hσ rfl rfl (fun hc40 => ?_) (fun hc40 => ?_)
  ·
   skip
   exact absurd (show false = true from hc40) (by decide)
  ·
   skip
   refine AWP.skip ?_
   refine AWP.seq ?_
   refine AWP.seq ?_
   refine jw [8, 7, 6, 26, 5, 4, 17, 3, 2, 1, 0] rfl ?_
   refine AWP.drawR hσ _ [_, _, _, _, _] [⟨[], 0, 1, none⟩, ⟨[], 0, 0, none⟩, ⟨[1], 0, 0, some 0⟩, ⟨[0, 1, 2], 0, 0, some 1⟩, ⟨[0, 1, 2, 3], 2, 2, none⟩] [2, 3] [_, _, _] rfl rfl (by decide) (by decide) (by kernel_rfl) (And.intro (And.intro (Val.of hσ rfl rfl) (Val.of hσ rfl rfl)) (And.intro (Val.of hσ rfl rfl) (And.intro (Eff.plainD hσ (B0 := 44000) rfl rfl rfl rfl (c24d (a := a) h1 h2) (VAs.self rfl) rfl rfl rfl rfl rfl) (And.intro (Eff.lone hσ (B0 := 45000) rfl rfl rfl rfl ((c26 (s := a) (t := a) h1 h2).plain (u := eB true) (by simp)) (.cons (.agg (.cons (.whole rfl (List.length_map _).symm) (.cons (.whole rfl (List.length_map _).symm) (.cons (.whole rfl (List.length_map _).symm) (.cons (.whole rfl (List.length_map _).symm) .nil))))) (.cons (.agg (VMs.self rfl)) .nil)) rfl rfl rfl rfl rfl) (And.intro (Val.of hσ rfl rfl) trivial))))) ?_
   refine jw [45, 8, 7, 6, 26, 5, 4, 17, 3, 2, 1, 0] rfl ?_
   refine jnw ?_
   refine AWP.cond hσ rfl rfl (fun hc45 => ?_) (fun hc45 => ?_)
   ·
    skip
    exact absurd (show false = true from hc45) (by decide)
   ·
    skip
    refine AWP.skip ?_
    refine jsr ?_
    refine jst hσ rfl rfl rfl rfl rfl ?_
    refine jns ?_
    iterate 2 refine jst hσ rfl rfl rfl rfl rfl ?_
    refine jf [47, 46, 9, 8, 7, 6, 26, 5, 4, 17, 3, 2, 1, 0] rfl ?_
    refine AOps.inn hσ [27000, 27001, 27002, 27003] (bin := [trow a.pre, trow a.post, irow a.code, prow a.pts]) rfl rfl rfl rfl (c27 (a := a) (k := 1) h1 h2 (by decide) (by omega)) rfl rfl rfl rfl rfl rfl (B0 := 49000) rfl rfl ?_
    refine jnm ?_
    refine jst hσ rfl rfl rfl rfl rfl ?_
    refine jf [9, 8, 7, 6, 26, 5, 4, 17, 3, 2, 1, 0] rfl ?_
    refine jn ?_
    refine AWP.seq ?_
    refine jsr ?_
    iterate 2 refine jst hσ rfl rfl rfl rfl rfl ?_
    rw [decide_eq_false (show ¬ (1 + cnt nT a.pre + cnt nT a.post + cnt nIn a.code + cnt nP a.pts : Int) < 0 by omega)]
    refine jst hσ rfl rfl rfl rfl rfl ?_
    refine jf [51, 9, 8, 7, 6, 26, 5, 4, 17, 3, 2, 1, 0] rfl ?_
    refine AOps.live rfl rfl rfl rfl rfl ?_
    refine jst hσ rfl rfl rfl rfl rfl ?_
    refine AOps.live rfl rfl rfl rfl rfl ?_
    refine jst hσ rfl rfl rfl rfl rfl ?_
    refine AOps.live rfl rfl rfl rfl rfl ?_
    refine AOps.lone hσ rfl rfl rfl rfl ((c26 (s := (⟨[], [], [], []⟩ : An)) (t := (⟨[], [], [], []⟩ : An)) h1 h2).plain (u := eB true) (by simp)) (.cons (.agg (.cons .nils (.cons .nils (.cons .nils (.cons .nils .nil))))) (.cons (.agg (VMs.self rfl)) .nil)) rfl rfl rfl rfl rfl (B0 := 55000) rfl ?_
    refine jf [54, 51, 9, 8, 7, 6, 26, 5, 4, 17, 3, 2, 1, 0] rfl ?_
    refine AOps.live rfl rfl rfl rfl rfl ?_
    refine jst hσ rfl rfl rfl rfl rfl ?_
    refine AOps.step (Val.pickN hσ rfl rfl rfl rfl rfl) rfl rfl rfl ?_
    refine jst hσ rfl rfl rfl rfl rfl ?_
    refine jf [57, 9, 8, 7, 6, 26, 5, 4, 17, 3, 2, 1, 0] rfl ?_
    refine AOps.live rfl rfl rfl rfl rfl ?_
    refine jst hσ rfl rfl rfl rfl rfl ?_
    refine AOps.live rfl rfl rfl rfl rfl ?_
    refine jst hσ rfl rfl rfl rfl rfl ?_
    refine AOps.live rfl rfl rfl rfl rfl ?_
    refine jst hσ rfl rfl rfl rfl rfl ?_
    refine AOps.step (Val.pickN hσ rfl rfl rfl rfl rfl) rfl rfl rfl ?_
    refine jf [61, 9, 8, 7, 6, 26, 5, 4, 17, 3, 2, 1, 0] rfl ?_
    refine jn ?_
    refine AWP.cond hσ rfl rfl (fun hc61 => ?_) (fun hc61 => ?_)
    ·
     skip
     exact absurd (show false = true from hc61) (by decide)
    ·
     skip
     refine AWP.skip ?_
     refine jsr ?_
     refine jst hσ rfl rfl rfl rfl rfl ?_
     refine jns ?_
     iterate 2 refine jst hσ rfl rfl rfl rfl rfl ?_
     refine jf [63, 62, 10, 9, 8, 7, 6, 26, 5, 4, 17, 3, 2, 1, 0] rfl ?_
     refine AOps.lone hσ rfl rfl rfl rfl (c27n (k := 1) h1 h2) (.cons (.agg (.cons .nils (.cons .nils (.cons .nils (.cons .nils .nil))))) (.cons (.c .d) .nil)) rfl rfl rfl rfl rfl (B0 := 65000) rfl ?_
     refine jst hσ rfl rfl rfl rfl rfl ?_
     refine jf [10, 9, 8, 7, 6, 26, 5, 4, 17, 3, 2, 1, 0] rfl ?_
     refine jns ?_
     refine jst hσ rfl rfl rfl rfl rfl ?_
     refine jns ?_
     iterate 2 refine jst hσ rfl rfl rfl rfl rfl ?_
     refine AOps.lone hσ rfl rfl rfl rfl ((c28 (a := (⟨[], [], [], []⟩ : An)) (k := 1) h1 h2 (by decide) (by decide)).plain (u := eI 1) rfl) (.cons (.agg (.cons .nils (.cons .nils (.cons .nils (.cons .nils .nil))))) (.cons (.c .d) .nil)) rfl rfl rfl rfl rfl (B0 := 68000) rfl ?_
     refine jst hσ rfl rfl rfl rfl rfl ?_
     refine jf [11, 10, 9, 8, 7, 6, 26, 5, 4, 17, 3, 2, 1, 0] rfl ?_
     refine jn ?_
     refine AWP.seq ?_
     refine jsr ?_
     iterate 2 refine jst hσ rfl rfl rfl rfl rfl ?_
     refine jn ?_
     refine AWP.cond hσ rfl rfl (fun hc69 => ?_) (fun hc69 => ?_)
     ·
      skip
      exact absurd (of_decide_eq_true hc69) (by decide)
     ·
      skip
      refine AWP.skip ?_
      refine AWP.seq ?_
      refine jsr ?_
      iterate 3 refine jst hσ rfl rfl rfl rfl rfl ?_
      refine jf [72, 68, 11, 10, 9, 8, 7, 6, 26, 5, 4, 17, 3, 2, 1, 0] rfl ?_
      refine jn ?_
      refine AWP.cond hσ rfl rfl (fun hc72 => ?_) (fun hc72 => ?_)
      ·
       skip
       exact absurd hc72 (by simp)
      ·
       skip
       refine AWP.skip ?_
       refine jsr ?_
       refine jst hσ rfl rfl rfl rfl rfl ?_
       refine jf [74, 68, 11, 10, 9, 8, 7, 6, 26, 5, 4, 17, 3, 2, 1, 0] rfl ?_
       refine AOps.plainD hσ rfl rfl rfl rfl (c24d (a := a) h1 h2) (VAs.self rfl) rfl rfl rfl rfl (B0 := 76000) rfl rfl ?_
       refine jf [75, 68, 11, 10, 9, 8, 7, 6, 26, 5, 4, 17, 3, 2, 1, 0] rfl ?_
       refine AOps.rows hσ (B0 := 77000) rfl rfl rfl rfl (ci) (VAs.self rfl) rfl rfl rfl rfl rfl rfl ?_
       refine jnm ?_
       iterate 3 refine jst hσ rfl rfl rfl rfl rfl ?_
       refine jf [78, 77, 68, 11, 10, 9, 8, 7, 6, 26, 5, 4, 17, 3, 2, 1, 0] rfl ?_
       refine AOps.heap (HS.alloc hσ rfl rfl rfl rfl rfl) rfl ?_
       refine jnm ?_
       refine AOps.heap (HS.storeBox hσ rfl rfl rfl rfl rfl rfl rfl rfl rfl rfl rfl) rfl ?_
       refine jnm ?_
       refine jst hσ rfl rfl rfl rfl rfl ?_
       refine jf [13, 12, 68, 11, 10, 9, 8, 7, 6, 26, 5, 4, 17, 3, 2, 1, 0] rfl ?_
       refine jn ?_
       refine AWP.seq ?_
       refine jsr ?_
       iterate 2 refine jst hσ rfl rfl rfl rfl rfl ?_
       refine AOps.lone hσ rfl rfl rfl rfl ((c26 (s := (⟨[], [], [], []⟩ : An)) (t := (⟨[], [], [], []⟩ : An)) h1 h2).plain (u := eB true) (by simp)) (.cons (.agg (.cons .nils (.cons .nils (.cons .nils (.cons .nils .nil))))) (.cons (.agg (VMs.self rfl)) .nil)) rfl rfl rfl rfl rfl (B0 := 82000) rfl ?_
       iterate 2 refine jst hσ rfl rfl rfl rfl rfl ?_
       refine jf [83, 13, 12, 68, 11, 10, 9, 8, 7, 6, 26, 5, 4, 17, 3, 2, 1, 0] rfl ?_
       refine AOps.live rfl rfl rfl rfl rfl ?_
       refine jst hσ rfl rfl rfl rfl rfl ?_
       refine jf [84, 83, 12, 68, 11, 10, 9, 8, 7, 6, 26, 5, 4, 17, 3, 2, 1, 0] rfl ?_
       refine AOps.live rfl rfl rfl rfl rfl ?_
       refine jst hσ rfl rfl rfl rfl rfl ?_
       refine AOps.live rfl rfl rfl rfl rfl ?_
       refine jst hσ rfl rfl rfl rfl rfl ?_
       refine AOps.step (Val.pickN hσ rfl rfl rfl rfl rfl) rfl rfl rfl ?_
       refine jf [87, 12, 68, 11, 10, 9, 8, 7, 6, 26, 5, 4, 17, 3, 2, 1, 0] rfl ?_
       refine jn ?_
       refine AWP.cond hσ rfl rfl (fun hc87 => ?_) (fun hc87 => ?_)
       ·
        skip
        exact absurd (show false = true from hc87) (by decide)
       ·
        skip
        refine AWP.skip ?_
        refine jsr ?_
        refine jst hσ rfl rfl rfl rfl rfl ?_
        refine jns ?_
        iterate 2 refine jst hσ rfl rfl rfl rfl rfl ?_
        refine jf [89, 88, 11, 12, 68, 10, 9, 8, 7, 6, 26, 5, 4, 17, 3, 2, 1, 0] rfl ?_
        refine AOps.lone hσ rfl rfl rfl rfl ((c28 (a := (⟨[], [], [], []⟩ : An)) (k := 1) h1 h2 (by decide) (by decide)).plain (u := eI 1) rfl) (.cons (.agg (.cons .nils (.cons .nils (.cons .nils (.cons .nils .nil))))) (.cons (.c .d) .nil)) rfl rfl rfl rfl rfl (B0 := 91000) rfl ?_
        refine jst hσ rfl rfl rfl rfl rfl ?_
        refine jf [11, 12, 68, 10, 9, 8, 7, 6, 26, 5, 4, 17, 3, 2, 1, 0] rfl ?_
        refine jn ?_
        refine AWP.seq ?_
        refine jsr ?_
        iterate 2 refine jst hσ rfl rfl rfl rfl rfl ?_
        refine jn ?_
        refine AWP.cond hσ rfl rfl (fun hc92 => ?_) (fun hc92 => ?_)
        ·
         skip
         exact absurd (of_decide_eq_true hc92) (by decide)
        ·
         skip
         refine AWP.skip ?_
         refine AWP.seq ?_
         refine jsr ?_
         iterate 3 refine jst hσ rfl rfl rfl rfl rfl ?_
         refine jf [95, 91, 11, 12, 68, 10, 9, 8, 7, 6, 26, 5, 4, 17, 3, 2, 1, 0] rfl ?_
         refine jn ?_
         refine AWP.cond hσ rfl rfl (fun hc95 => ?_) (fun hc95 => ?_)
         ·
          skip
          exact absurd hc95 (by simp)
         ·
          skip
          refine AWP.skip ?_
          refine jsr ?_
          refine jst hσ rfl rfl rfl rfl rfl ?_
          refine jn ?_
          refine AWP.ret ?_
          refine ⟨.inl rfl, _, Ent.refl, _, rfl, ?_⟩
          rfl
theorem c1080a {L : Nat} (h1 : 4096 ≤ L) (h2 : L ≤ 9223372036854775807) {a : An} (hz : szr 1048576 a.size < 0) : MC Tryz.prog L 4 [aAn a] [] (Plain (eB true)) := by
 refine MC.alone ?_ rfl
 have hσ := SGok (nt := 96) h1 h2
 refine MC.body hσ Tryz.func4 (by kernel_rfl) rfl rfl (Nat.le_of_ble_eq_true rfl) (fun hF => ?_)
 refine jsr ?_
 refine AOps.heap (HS.box hσ rfl rfl rfl rfl rfl rfl rfl) rfl ?_
 refine jnm ?_
 refine jst hσ rfl rfl rfl rfl rfl ?_
 refine jns ?_
 refine jst hσ rfl rfl rfl rfl rfl ?_
 refine jns ?_
 iterate 2 refine jst hσ rfl rfl rfl rfl rfl ?_
 refine AOps.lone hσ rfl rfl rfl rfl (c22 (a := a) (left := 1048576) h1 h2 (by decide) (by decide)) (VAs.self rfl) rfl rfl rfl rfl rfl (B0 := 17000) rfl ?_
 refine jst hσ rfl rfl rfl rfl rfl ?_
 refine jf [3, 2, 1, 0] rfl ?_
 refine jn ?_
 refine AWP.seq ?_
 refine jsr ?_
 iterate 2 refine jst hσ rfl rfl rfl rfl rfl ?_
 refine jn ?_
 refine AWP.cond hσ rfl rfl (fun hc18 => ?_) (fun hc18 => ?_)
 ·
  skip
  refine jsr ?_
  refine jst hσ rfl rfl rfl rfl rfl ?_
  refine jn ?_
  refine AWP.ret ?_
  refine ⟨.inl rfl, _, Ent.refl, _, rfl, ?_⟩
  rfl
 ·
  skip
  exact absurd (of_decide_eq_false hc18) (fun h => h hz)
end Go.Al
namespace Go.Al
open Go.Proofs
set_option linter.unusedVariables false
set_option linter.unusedSimpArgs false
theorem cnt_nP {ps qs : List Pt} (h : qs.map Pt.fs = ps.map Pt.fs) : cnt nP qs = cnt nP ps := by
  have e : ∀ l : List Pt, cnt nP l = ((l.map Pt.fs).map fun fs => 1 + cnt nT fs).sum := fun l => by rw [List.map_map]; rfl
  rw [e, e, h]
theorem cnt_szP (ps : List Pt) : cnt nP ps = szs Pt.size ps := by
  induction ps with
  | nil => rfl
  | cons p r ih =>
    have := cnt_szs p.fs
    have e : nP p = 1 + cnt nT p.fs := rfl
    simp only [cnt, szs, List.map_cons, List.sum_cons, List.length_cons, Pt.size] at *
    omega
theorem cnt_in (c : List In) : cnt nIn c = 2 * c.length := by
  induction c with
  | nil => rfl
  | cons x r ih =>
    rw [show cnt nIn (x :: r) = 2 + cnt nIn r by simp [cnt], ih, List.length_cons]; omega
theorem fact_ins {L S : Nat} {c : List In} (h : D.fact L (insD c)) (hl : c.length ≤ S) : D.fact S (insD c) := by
  simp only [D.fact, List.length_map, Dss.fact_map] at h ⊢
  refine ⟨hl, fun x hx => ?_⟩
  have := h.2 x hx
  exact ⟨this.1, this.2.1, trivial⟩
theorem fact_pts {L S : Nat} {ps : List Pt} (h : D.fact L (ptsD ps)) (hl : szs Pt.size ps ≤ S) : D.fact S (ptsD ps) := by
  unfold szs at hl
  simp only [D.fact, List.length_map, Dss.fact_map] at h ⊢
  refine ⟨by omega, fun p hp => ?_⟩
  have h1 := h.2 p hp
  have h2 := sum_mem Pt.size hp
  exact ⟨h1.1, fact_tms h1.2.1 (by show p.size ≤ S; omega), trivial⟩
theorem fact_an {L S : Nat} {a : An} (h : A.fact L (aAn a)) (hl : a.size ≤ S) : A.fact S (aAn a) := by
  unfold An.size at hl
  exact ⟨fact_tms h.1 (by omega), fact_tms h.2.1 (by omega), fact_ins h.2.2.1 (by omega), fact_pts h.2.2.2.1 (by omega), trivial⟩
/-- The law of DropUnreachable holds for all arguments. -/
theorem law1080 {L : Nat} (h1 : 4096 ≤ L) (h2 : L ≤ 9223372036854775807) {a : An} : MC Tryz.prog L 4 [aAn a] [] (Plain (eB true)) := by
  by_cases hz1 : szr 1048576 a.size < 0
  · exact c1080a h1 h2 hz1
  have hz1' : 0 ≤ szr 1048576 a.size := by omega
  have g1 := szr_nonneg hz1' (by decide)
  have k1 := cnt_szs a.pre
  have k2 := cnt_szs a.post
  have k3 := cnt_in a.code
  have k4 := cnt_szP a.pts
  have e1 : a.size = szs Tm.size a.pre + szs Tm.size a.post + a.code.length + szs Pt.size a.pts := rfl
  have hcp : 1 + cnt nT a.pre + cnt nT a.post + cnt nIn a.code + cnt nP a.pts ≤ (1073741824 : Int) := by omega
  refine MC.facts ⟨_, _, Tryz.func4, by kernel_rfl, rfl⟩ fun hF => ?_
  refine MC.lift (L0 := 1073741824) rfl ?_ ?_
  · exact ⟨fact_an hF.1 (by omega), trivial⟩
  · cases hv : annB a with
    | true =>
      have m1 : cnt nP (drpA a).pts = cnt nP a.pts := cnt_nP (by
        show (a.pts.map (lessP (drpB a))).map Pt.fs = _
        rw [List.map_map]; rfl)
      have m2 := cnt_in (drpA a).code
      have m3 : (drpA a).code.length ≤ a.code.length := by
        show ((keepL (drpB a) a.code).map (lessI (drpB a))).length ≤ _
        rw [List.length_map]; exact keepL_len
      refine c1080v (r := drpA a) (by decide) (Nat.le_refl _) ?_ (c1083v (by decide) (Nat.le_refl _) hv) (c1084v (by decide) (Nat.le_refl _) hv) hz1' hcp
      show 1 + (cnt nT a.pre : Int) + cnt nT a.post + cnt nIn (drpA a).code + cnt nP (drpA a).pts ≤ 1073741824
      omega
    | false => exact c1080n (by decide) (Nat.le_refl _) (c1083n (by decide) (Nat.le_refl _) hv) (c1084n (by decide) (Nat.le_refl _) hv) hz1' hcp
end Go.Al
/- What the laws of annotated code share: the types of their arguments. -/
namespace Go.Proofs.YtnepkogijffmjaaGreat
open Go.ChangeShapes Go.WideShapes Go.ChangeAt Go.RowKit Go.Al
set_option linter.unusedVariables false
set_option maxRecDepth 10000
abbrev tyN2 : List Ty := [.int .i64, .int .i64]
abbrev tyP : List Ty := [.int .i64, .slc tyT]
abbrev tyA : List Ty := [.slc tyT, .slc tyT, .slc tyN2, .slc tyP]
theorem of200 : TyOf Tryz.prog 128 tyN2 := .struct Tryz.underlying128 (show FieldsAre Tryz.prog _ (tyI ++ (tyI ++ [])) 0 from .cons rfl (by kernel_rfl) of2 (.cons rfl (by kernel_rfl) of2 .nil)) (by kernel_rfl)
theorem of47 : TyOf Tryz.prog 43 [.slc tyN2] := .slc Tryz.underlying43 of200 (by kernel_rfl) (by decide)
theorem of188 : TyOf Tryz.prog 124 tyP := .struct Tryz.underlying124 (show FieldsAre Tryz.prog _ (tyI ++ ([.slc tyT] ++ [])) 0 from .cons rfl (by kernel_rfl) of2 (.cons rfl (by kernel_rfl) of22 .nil)) (by kernel_rfl)
theorem of48 : TyOf Tryz.prog 44 [.slc tyP] := .slc Tryz.underlying44 of188 (by kernel_rfl) (by decide)
theorem of50 : TyOf Tryz.prog 46 tyA := .struct Tryz.underlying46 (show FieldsAre Tryz.prog _ ([.slc tyT] ++ ([.slc tyT] ++ ([.slc tyN2] ++ ([.slc tyP] ++ [])))) 0 from
  .cons rfl (by kernel_rfl) of22 (.cons rfl (by kernel_rfl) of22 (.cons rfl (by kernel_rfl) of47 (.cons rfl (by kernel_rfl) of48 .nil)))) (by kernel_rfl)
theorem fits_instr {e : List D} (h : FitsL tyN2 e) : ∃ x : In, e = x.cells := by
  cases h with
  | cons a1 h =>
    cases h with
    | cons a2 h =>
      cases h
      obtain ⟨n1, rfl⟩ := fits_int a1
      obtain ⟨n2, rfl⟩ := fits_int a2
      exact ⟨⟨n1, n2⟩, rfl⟩
theorem fits_point {e : List D} (h : FitsL tyP e) : ∃ p : Pt, e = p.cells := by
  cases h with
  | cons a1 h =>
    cases h with
    | cons a2 h =>
      cases h
      obtain ⟨n1, rfl⟩ := fits_int a1
      obtain ⟨x2, rfl⟩ := fits_terms a2
      exact ⟨⟨n1, x2⟩, rfl⟩
theorem fits_an {e : List D} (h : FitsL tyA e) : ∃ a : An, e = a.data := by
  cases h with
  | cons a1 h =>
    cases h with
    | cons a2 h =>
      cases h with
      | cons a3 h =>
        cases h with
        | cons a4 h =>
          cases h
          obtain ⟨x1, rfl⟩ := fits_terms a1
          obtain ⟨x2, rfl⟩ := fits_terms a2
          cases a3 with
          | slc a3 =>
            cases a4 with
            | slc a4 =>
              obtain ⟨x3, rfl⟩ := fits_all (g := In.cells) (fun e he => fits_instr he) a3
              obtain ⟨x4, rfl⟩ := fits_all (g := Pt.cells) (fun e he => fits_point he) a4
              exact ⟨⟨x1, x2, x3, x4⟩, rfl⟩
end Go.Proofs.YtnepkogijffmjaaGreat
