/- The law, walked; the types of its argument. -/
import Derived.Test.YtnepkogijffmjaaGreatQ
namespace Go.Al
open Go.Proofs
set_option linter.unusedVariables false
set_option linter.unusedSimpArgs false
set_option maxRecDepth 10000
set_option maxHeartbeats 4000000
theorem c11d {L : Nat} (h1 : 4096 ≤ L) (h2 : L ≤ 1073741824) {p : Pm} : MC Tryz.prog L 7 [aPm p] [] (Plain (aPm p)) := (c11 h1 h2).frozen (.v (.agg (.cons (.whole rfl (List.length_map _).symm) (.cons (.whole rfl (List.length_map _).symm) (.cons (.whole rfl (List.length_map _).symm) .nil)))))
theorem c1079v {L : Nat} (h1 : 4096 ≤ L) (h2 : L ≤ 1073741824) {p : Pm} {r : An} (hcc : 1 + cnt nT r.pre + cnt nT r.post + cnt nIn r.code + cnt nP r.pts ≤ (1073741824 : Int)) (cs : MC Tryz.prog L 6 [aPm p] [] (Plain (.tup [aAn r, eB true]))) (ci : MC Tryz.prog L 8 [aPm p] [] (Rows (.tup [.agg [.rs 0 0 r.pre.length, .rs 1 0 r.post.length, .rs 2 0 r.code.length, .rs 3 0 r.pts.length], eB true]) [trow r.pre, trow r.post, irow r.code, prow r.pts])) (hz1 : 0 ≤ szr 1048576 (Al.szs Tm.size p.pre + Al.szs Sm.size p.body + Al.szs Tm.size p.post)) (hcp : 1 + cnt nT p.pre + cnt nS p.body + cnt nT p.post ≤ (1073741824 : Int)) : MC Tryz.prog L 3 [aPm p] [] (Plain (eB true)) := by
 refine MC.alone ?_ rfl
 have hσ := SGok (nt := 96) h1 (Nat.le_trans h2 (by decide))
 refine MC.body hσ Tryz.func3 (by kernel_rfl) rfl rfl (Nat.le_of_ble_eq_true rfl) (fun hF => ?_)
 have hbig : L ≤ 9223372036854775807 := Nat.le_trans h2 (by decide)
 refine jsr ?_
 refine AOps.heap (HS.box hσ rfl rfl rfl rfl rfl rfl rfl) rfl ?_
 refine jnm ?_
 refine jst hσ rfl rfl rfl rfl rfl ?_
 refine jns ?_
 refine jst hσ rfl rfl rfl rfl rfl ?_
 refine jns ?_
 iterate 2 refine jst hσ rfl rfl rfl rfl rfl ?_
 refine AOps.lone hσ rfl rfl rfl rfl (c8 (p := p) (left := 1048576) h1 hbig (by decide) (by decide)) (VAs.self rfl) rfl rfl rfl rfl rfl (B0 := 17000) rfl ?_
 refine jst hσ rfl rfl rfl rfl rfl ?_
 refine jf [3, 2, 1, 0] rfl ?_
 refine jn ?_
 refine AWP.seq ?_
 refine jsr ?_
 iterate 2 refine jst hσ rfl rfl rfl rfl rfl ?_
 refine jn ?_
 refine AWP.cond hσ rfl rfl (fun hc18 => ?_) (fun hc18 => ?_)
 ·
  skip
  exact absurd (of_decide_eq_true hc18) (by omega)
 ·
  skip
  refine AWP.skip ?_
  refine jsr ?_
  refine jst hσ rfl rfl rfl rfl rfl ?_
  refine jf [20, 17, 3, 2, 1, 0] rfl ?_
  refine AOps.plainD hσ rfl rfl rfl rfl (c11d (p := p) h1 h2) (VAs.self rfl) rfl rfl rfl rfl (B0 := 22000) rfl rfl ?_
  refine jf [21, 17, 3, 2, 1, 0] rfl ?_
  refine AOps.plainD hσ rfl rfl rfl rfl (cs) (VAs.self rfl) rfl rfl rfl rfl (B0 := 23000) rfl rfl ?_
  iterate 3 refine jst hσ rfl rfl rfl rfl rfl ?_
  refine jf [24, 23, 17, 3, 2, 1, 0] rfl ?_
  refine AOps.heap (HS.alloc hσ rfl rfl rfl rfl rfl) rfl ?_
  refine jnm ?_
  refine AOps.heap (HS.storeBox hσ rfl rfl rfl rfl rfl rfl rfl rfl rfl rfl rfl) rfl ?_
  refine jnm ?_
  refine jst hσ rfl rfl rfl rfl rfl ?_
  refine jf [5, 4, 17, 3, 2, 1, 0] rfl ?_
  refine jns ?_
  refine jst hσ rfl rfl rfl rfl rfl ?_
  refine AOps.rows hσ (B0 := 27000) rfl rfl rfl rfl (c11 (p := p) h1 h2) (VAs.self rfl) rfl rfl rfl rfl rfl rfl ?_
  refine jnm ?_
  refine jf [26, 5, 4, 17, 3, 2, 1, 0] rfl ?_
  refine AOps.heap (HS.alloc hσ rfl rfl rfl rfl rfl) rfl ?_
  refine jnm ?_
  refine AOps.heap (HS.storeBox hσ rfl rfl rfl rfl rfl rfl rfl rfl rfl rfl rfl) rfl ?_
  refine jnm ?_
  refine jns ?_
  refine jst hσ rfl rfl rfl rfl rfl ?_
  refine AOps.rows hσ (B0 := 30000) rfl rfl rfl rfl (ci) (.cons (.agg (.cons (.whole rfl (List.length_map _).symm) (.cons (.whole rfl (List.length_map _).symm) (.cons (.whole rfl (List.length_map _).symm) .nil)))) .nil) rfl rfl rfl rfl rfl rfl ?_
  refine jnm ?_
  iterate 3 refine jst hσ rfl rfl rfl rfl rfl ?_
  refine jf [31, 30, 6, 26, 5, 4, 17, 3, 2, 1, 0] rfl ?_
  refine AOps.heap (HS.alloc hσ rfl rfl rfl rfl rfl) rfl ?_
  refine jnm ?_
  refine AOps.heap (HS.storeBox hσ rfl rfl rfl rfl rfl rfl rfl rfl rfl rfl rfl) rfl ?_
  refine jnm ?_
  refine jst hσ rfl rfl rfl rfl rfl ?_
  refine jf [8, 7, 6, 26, 5, 4, 17, 3, 2, 1, 0] rfl ?_
  refine jn ?_
  refine AWP.seq ?_
  refine jsr ?_
  iterate 2 refine jst hσ rfl rfl rfl rfl rfl ?_
  refine AOps.lone hσ rfl rfl rfl rfl ((c26 (s := r) (t := r) h1 h2).plain (u := eB true) (by simp)) (.cons (.agg (.cons (.whole rfl (List.length_map _).symm) (.cons (.whole rfl (List.length_map _).symm) (.cons (.whole rfl (List.length_map _).symm) (.cons (.whole rfl (List.length_map _).symm) .nil))))) (.cons (.agg (VMs.self rfl)) .nil)) rfl rfl rfl rfl rfl (B0 := 35000) rfl ?_
  iterate 2 refine jst hσ rfl rfl rfl rfl rfl ?_
  refine jf [36, 8, 7, 6, 26, 5, 4, 17, 3, 2, 1, 0] rfl ?_
  refine AOps.live rfl rfl rfl rfl rfl ?_
  refine jst hσ rfl rfl rfl rfl rfl ?_
  refine AOps.live rfl rfl rfl rfl rfl ?_
  refine jst hσ rfl rfl rfl rfl rfl ?_
  refine AOps.live rfl rfl rfl rfl rfl ?_
  refine jst hσ rfl rfl rfl rfl rfl ?_
  refine AOps.step (Val.pickN hσ rfl rfl rfl rfl rfl) rfl rfl rfl ?_
  refine jf [40, 8, 7, 6, 26, 5, 4, 17, 3, 2, 1, 0] rfl ?_
  refine jn ?_
  refine AWP.cond hσ rfl rfl (fun hc40 => ?_) (fun hc40 => ?_)
  ·
   skip
   exact absurd (show false = true from hc40) (by decide)
  ·
   skip
   refine AWP.skip ?_
   refine AWP.seq ?_
   refine AWP.seq ?_
   refine jw [8, 7, 6, 26, 5, 4, 17, 3, 2, 1, 0] rfl ?_
   refine AWP.drawR hσ _ [_, _, _, _, _] [⟨[], 0, 1, none⟩, ⟨[], 0, 0, none⟩, ⟨[1], 0, 0, some 0⟩, ⟨[0, 1, 2], 0, 0, some 1⟩, ⟨[0, 1, 2, 3], 2, 2, none⟩] [2, 3] [_, _, _] rfl rfl (by decide) (by decide) (by kernel_rfl) (And.intro (And.intro (Val.of hσ rfl rfl) (Val.of hσ rfl rfl)) (And.intro (Val.of hσ rfl rfl) (And.intro (Eff.plainD hσ (B0 := 44000) rfl rfl rfl rfl (c11d (p := p) h1 h2) (VAs.self rfl) rfl rfl rfl rfl rfl) (And.intro (Eff.lone hσ (B0 := 45000) rfl rfl rfl rfl ((c16 (s := p) (t := p) h1 h2).plain (u := eB true) (by simp)) (.cons (.agg (.cons (.whole rfl (List.length_map _).symm) (.cons (.whole rfl (List.length_map _).symm) (.cons (.whole rfl (List.length_map _).symm) .nil)))) (.cons (.agg (VMs.self rfl)) .nil)) rfl rfl rfl rfl rfl) (And.intro (Val.of hσ rfl rfl) trivial))))) ?_
   refine jw [45, 8, 7, 6, 26, 5, 4, 17, 3, 2, 1, 0] rfl ?_
   refine jnw ?_
   refine AWP.cond hσ rfl rfl (fun hc45 => ?_) (fun hc45 => ?_)
   ·
    skip
    exact absurd (show false = true from hc45) (by decide)
   ·
    skip
    refine AWP.skip ?_
    refine jsr ?_
    refine jst hσ rfl rfl rfl rfl rfl ?_
    refine jns ?_
    iterate 2 refine jst hσ rfl rfl rfl rfl rfl ?_
    refine jf [47, 46, 9, 8, 7, 6, 26, 5, 4, 17, 3, 2, 1, 0] rfl ?_
    refine AOps.inn hσ [27000, 27001, 27002] (bin := [trow p.pre, srow p.body, trow p.post]) rfl rfl rfl rfl (c17 (p := p) (k := 1) h1 h2 (by decide) (by omega)) rfl rfl rfl rfl rfl rfl (B0 := 49000) rfl rfl ?_
    refine jnm ?_
    refine jst hσ rfl rfl rfl rfl rfl ?_
    refine jf [9, 8, 7, 6, 26, 5, 4, 17, 3, 2, 1, 0] rfl ?_
    refine jn ?_
    refine AWP.seq ?_
    refine jsr ?_
    iterate 2 refine jst hσ rfl rfl rfl rfl rfl ?_
    rw [decide_eq_false (show ¬ (1 + cnt nT p.pre + cnt nS p.body + cnt nT p.post : Int) < 0 by omega)]
    refine jst hσ rfl rfl rfl rfl rfl ?_
    refine jf [51, 9, 8, 7, 6, 26, 5, 4, 17, 3, 2, 1, 0] rfl ?_
    refine AOps.live rfl rfl rfl rfl rfl ?_
    refine jst hσ rfl rfl rfl rfl rfl ?_
    refine AOps.live rfl rfl rfl rfl rfl ?_
    refine jst hσ rfl rfl rfl rfl rfl ?_
    refine AOps.live rfl rfl rfl rfl rfl ?_
    refine AOps.lone hσ rfl rfl rfl rfl ((c26 (s := r) (t := r) h1 h2).plain (u := eB true) (by simp)) (.cons (.agg (.cons (.whole rfl (List.length_map _).symm) (.cons (.whole rfl (List.length_map _).symm) (.cons (.whole rfl (List.length_map _).symm) (.cons (.whole rfl (List.length_map _).symm) .nil))))) (.cons (.agg (VMs.self rfl)) .nil)) rfl rfl rfl rfl rfl (B0 := 55000) rfl ?_
    refine jf [54, 51, 9, 8, 7, 6, 26, 5, 4, 17, 3, 2, 1, 0] rfl ?_
    refine AOps.live rfl rfl rfl rfl rfl ?_
    refine jst hσ rfl rfl rfl rfl rfl ?_
    refine AOps.step (Val.pickN hσ rfl rfl rfl rfl rfl) rfl rfl rfl ?_
    refine jst hσ rfl rfl rfl rfl rfl ?_
    refine jf [57, 9, 8, 7, 6, 26, 5, 4, 17, 3, 2, 1, 0] rfl ?_
    refine AOps.live rfl rfl rfl rfl rfl ?_
    refine jst hσ rfl rfl rfl rfl rfl ?_
    refine AOps.live rfl rfl rfl rfl rfl ?_
    refine jst hσ rfl rfl rfl rfl rfl ?_
    refine AOps.live rfl rfl rfl rfl rfl ?_
    refine jst hσ rfl rfl rfl rfl rfl ?_
    refine AOps.step (Val.pickN hσ rfl rfl rfl rfl rfl) rfl rfl rfl ?_
    refine jf [61, 9, 8, 7, 6, 26, 5, 4, 17, 3, 2, 1, 0] rfl ?_
    refine jn ?_
    refine AWP.cond hσ rfl rfl (fun hc61 => ?_) (fun hc61 => ?_)
    ·
     skip
     exact absurd (show false = true from hc61) (by decide)
    ·
     skip
     refine AWP.skip ?_
     refine jsr ?_
     refine jst hσ rfl rfl rfl rfl rfl ?_
     refine jns ?_
     iterate 2 refine jst hσ rfl rfl rfl rfl rfl ?_
     refine jf [63, 62, 10, 9, 8, 7, 6, 26, 5, 4, 17, 3, 2, 1, 0] rfl ?_
     refine AOps.inn hσ [30000, 30001, 30002, 30003] (bin := [trow r.pre, trow r.post, irow r.code, prow r.pts]) rfl rfl rfl rfl (c27 (a := r) (k := 1) h1 h2 (by decide) (by omega)) rfl rfl rfl rfl rfl rfl (B0 := 65000) rfl rfl ?_
     refine jnm ?_
     refine jst hσ rfl rfl rfl rfl rfl ?_
     refine jf [10, 9, 8, 7, 6, 26, 5, 4, 17, 3, 2, 1, 0] rfl ?_
     refine jns ?_
     refine jst hσ rfl rfl rfl rfl rfl ?_
     refine jns ?_
     iterate 2 refine jst hσ rfl rfl rfl rfl rfl ?_
     refine AOps.lone hσ rfl rfl rfl rfl (c28 (a := r) (k := 1) h1 h2 (by decide) (by omega)) (.cons (.agg (.cons (.whole rfl ((List.length_map _).trans markL_length).symm) (.cons (.whole rfl ((List.length_map _).trans markL_length).symm) (.cons (.whole rfl ((List.length_map _).trans markL_length).symm) (.cons (.whole rfl ((List.length_map _).trans markL_length).symm) .nil))))) (.cons (.c .d) .nil)) rfl rfl rfl rfl rfl (B0 := 68000) rfl ?_
     refine jst hσ rfl rfl rfl rfl rfl ?_
     refine jf [11, 10, 9, 8, 7, 6, 26, 5, 4, 17, 3, 2, 1, 0] rfl ?_
     refine jn ?_
     refine AWP.seq ?_
     refine jsr ?_
     iterate 2 refine jst hσ rfl rfl rfl rfl rfl ?_
     refine jn ?_
     refine AWP.cond hσ rfl rfl (fun hc69 => ?_) (fun hc69 => ?_)
     ·
      skip
      exact absurd (of_decide_eq_true hc69) (by omega)
     ·
      skip
      refine AWP.skip ?_
      refine AWP.seq ?_
      refine jsr ?_
      iterate 3 refine jst hσ rfl rfl rfl rfl rfl ?_
      refine jf [72, 68, 11, 10, 9, 8, 7, 6, 26, 5, 4, 17, 3, 2, 1, 0] rfl ?_
      refine jn ?_
      refine AWP.cond hσ rfl rfl (fun hc72 => ?_) (fun hc72 => ?_)
      ·
       skip
       exact absurd hc72 (by simp)
      ·
       skip
       refine AWP.skip ?_
       refine jsr ?_
       refine jst hσ rfl rfl rfl rfl rfl ?_
       refine jf [74, 68, 11, 10, 9, 8, 7, 6, 26, 5, 4, 17, 3, 2, 1, 0] rfl ?_
       refine AOps.plainD hσ rfl rfl rfl rfl (c11d (p := p) h1 h2) (VAs.self rfl) rfl rfl rfl rfl (B0 := 76000) rfl rfl ?_
       refine jf [75, 68, 11, 10, 9, 8, 7, 6, 26, 5, 4, 17, 3, 2, 1, 0] rfl ?_
       refine AOps.rows hσ (B0 := 77000) rfl rfl rfl rfl (ci) (VAs.self rfl) rfl rfl rfl rfl rfl rfl ?_
       refine jnm ?_
       iterate 3 refine jst hσ rfl rfl rfl rfl rfl ?_
       refine jf [78, 77, 68, 11, 10, 9, 8, 7, 6, 26, 5, 4, 17, 3, 2, 1, 0] rfl ?_
       refine AOps.heap (HS.alloc hσ rfl rfl rfl rfl rfl) rfl ?_
       refine jnm ?_
       refine AOps.heap (HS.storeBox hσ rfl rfl rfl rfl rfl rfl rfl rfl rfl rfl rfl) rfl ?_
       refine jnm ?_
       refine jst hσ rfl rfl rfl rfl rfl ?_
       refine jf [13, 12, 68, 11, 10, 9, 8, 7, 6, 26, 5, 4, 17, 3, 2, 1, 0] rfl ?_
       refine jn ?_
       refine AWP.seq ?_
       refine jsr ?_
       iterate 2 refine jst hσ rfl rfl rfl rfl rfl ?_
       refine AOps.lone hσ rfl rfl rfl rfl ((c26 (s := r) (t := r) h1 h2).plain (u := eB true) (by simp)) (.cons (.agg (.cons (.whole rfl (List.length_map _).symm) (.cons (.whole rfl (List.length_map _).symm) (.cons (.whole rfl (List.length_map _).symm) (.cons (.whole rfl (List.length_map _).symm) .nil))))) (.cons (.agg (VMs.self rfl)) .nil)) rfl rfl rfl rfl rfl (B0 := 82000) rfl ?_
       iterate 2 refine jst hσ rfl rfl rfl rfl rfl ?_
       refine jf [83, 13, 12, 68, 11, 10, 9, 8, 7, 6, 26, 5, 4, 17, 3, 2, 1, 0] rfl ?_
       refine AOps.live rfl rfl rfl rfl rfl ?_
       refine jst hσ rfl rfl rfl rfl rfl ?_
       refine jf [84, 83, 12, 68, 11, 10, 9, 8, 7, 6, 26, 5, 4, 17, 3, 2, 1, 0] rfl ?_
       refine AOps.live rfl rfl rfl rfl rfl ?_
       refine jst hσ rfl rfl rfl rfl rfl ?_
       refine AOps.live rfl rfl rfl rfl rfl ?_
       refine jst hσ rfl rfl rfl rfl rfl ?_
       refine AOps.step (Val.pickN hσ rfl rfl rfl rfl rfl) rfl rfl rfl ?_
       refine jf [87, 12, 68, 11, 10, 9, 8, 7, 6, 26, 5, 4, 17, 3, 2, 1, 0] rfl ?_
       refine jn ?_
       refine AWP.cond hσ rfl rfl (fun hc87 => ?_) (fun hc87 => ?_)
       ·
        skip
        exact absurd (show false = true from hc87) (by decide)
       ·
        skip
        refine AWP.skip ?_
        refine jsr ?_
        refine jst hσ rfl rfl rfl rfl rfl ?_
        refine jns ?_
        iterate 2 refine jst hσ rfl rfl rfl rfl rfl ?_
        refine jf [89, 88, 11, 12, 68, 10, 9, 8, 7, 6, 26, 5, 4, 17, 3, 2, 1, 0] rfl ?_
        refine AOps.lone hσ rfl rfl rfl rfl (c28 (a := r) (k := 1) h1 h2 (by decide) (by omega)) (.cons (.agg (.cons (.whole rfl ((List.length_map _).trans markL_length).symm) (.cons (.whole rfl ((List.length_map _).trans markL_length).symm) (.cons (.whole rfl ((List.length_map _).trans markL_length).symm) (.cons (.whole rfl ((List.length_map _).trans markL_length).symm) .nil))))) (.cons (.c .d) .nil)) rfl rfl rfl rfl rfl (B0 := 91000) rfl ?_
        refine jst hσ rfl rfl rfl rfl rfl ?_
        refine jf [11, 12, 68, 10, 9, 8, 7, 6, 26, 5, 4, 17, 3, 2, 1, 0] rfl ?_
        refine jn ?_
        refine AWP.seq ?_
        refine jsr ?_
        iterate 2 refine jst hσ rfl rfl rfl rfl rfl ?_
        refine jn ?_
        refine AWP.cond hσ rfl rfl (fun hc92 => ?_) (fun hc92 => ?_)
        ·
         skip
         exact absurd (of_decide_eq_true hc92) (by omega)
        ·
         skip
         refine AWP.skip ?_
         refine AWP.seq ?_
         refine jsr ?_
         iterate 3 refine jst hσ rfl rfl rfl rfl rfl ?_
         refine jf [95, 91, 11, 12, 68, 10, 9, 8, 7, 6, 26, 5, 4, 17, 3, 2, 1, 0] rfl ?_
         refine jn ?_
         refine AWP.cond hσ rfl rfl (fun hc95 => ?_) (fun hc95 => ?_)
         ·
          skip
          exact absurd hc95 (by simp)
         ·
          skip
          refine AWP.skip ?_
          refine jsr ?_
          refine jst hσ rfl rfl rfl rfl rfl ?_
          refine jn ?_
          refine AWP.ret ?_
          refine ⟨.inl rfl, _, Ent.refl, _, rfl, ?_⟩
          rfl
theorem c1079n {L : Nat} (h1 : 4096 ≤ L) (h2 : L ≤ 1073741824) {p : Pm} (cs : MC Tryz.prog L 6 [aPm p] [] (Plain (.tup [aAn (⟨[], [], [], []⟩ : An), eB false]))) (ci : MC Tryz.prog L 8 [aPm p] [] (Rows (.tup [.agg [.d .nils, .d .nils, .d .nils, .d .nils], eB false]) [])) (hz1 : 0 ≤ szr 1048576 (Al.szs Tm.size p.pre + Al.szs Sm.size p.body + Al.szs Tm.size p.post)) (hcp : 1 + cnt nT p.pre + cnt nS p.body + cnt nT p.post ≤ (1073741824 : Int)) : MC Tryz.prog L 3 [aPm p] [] (Plain (eB true)) := by
 refine MC.alone ?_ rfl
 have hσ := SGok (nt := 96) h1 (Nat.le_trans h2 (by decide))
 refine MC.body hσ Tryz.func3 (by kernel_rfl) rfl rfl (Nat.le_of_ble_eq_true rfl) (fun hF => ?_)
 have hbig : L ≤ 9223372036854775807 := Nat.le_trans h2 (by decide)
 refine jsr ?_
 refine AOps.heap (HS.box hσ rfl rfl rfl rfl rfl rfl rfl) rfl ?_
 refine jnm ?_
 refine jst hσ rfl rfl rfl rfl rfl ?_
 refine jns ?_
 refine jst hσ rfl rfl rfl rfl rfl ?_
 refine jns ?_
 iterate 2 refine jst hσ rfl rfl rfl rfl rfl ?_
 refine AOps.lone hσ rfl rfl rfl rfl (c8 (p := p) (left := 1048576) h1 hbig (by decide) (by decide)) (VAs.self rfl) rfl rfl rfl rfl rfl (B0 := 17000) rfl ?_
 refine jst hσ rfl rfl rfl rfl rfl ?_
 refine jf [3, 2, 1, 0] rfl ?_
 refine jn ?_
 refine AWP.seq ?_
 refine jsr ?_
 iterate 2 refine jst hσ rfl rfl rfl rfl rfl ?_
 refine jn ?_
 refine AWP.cond hσ rfl rfl (fun hc18 => ?_) (fun hc18 => ?_)
 ·
  skip
  exact absurd (of_decide_eq_true hc18) (by omega)
 ·
  skip
  refine AWP.skip ?_
  refine jsr ?_
  refine jst hσ rfl rfl rfl rfl rfl ?_
  refine jf [20, 17, 3, 2, 1, 0] rfl ?_
  refine AOps.plainD hσ rfl rfl rfl rfl (c11d (p := p) h1 h2) (VAs.self rfl) rfl rfl rfl rfl (B0 := 22000) rfl rfl ?_
  refine jf [21, 17, 3, 2, 1, 0] rfl ?_
  refine AOps.plainD hσ rfl rfl rfl rfl (cs) (VAs.self rfl) rfl rfl rfl rfl (B0 := 23000) rfl rfl ?_
  iterate 3 refine jst hσ rfl rfl rfl rfl rfl ?_
  refine jf [24, 23, 17, 3, 2, 1, 0] rfl ?_
  refine AOps.heap (HS.alloc hσ rfl rfl rfl rfl rfl) rfl ?_
  refine jnm ?_
  refine AOps.heap (HS.storeBox hσ rfl rfl rfl rfl rfl rfl rfl rfl rfl rfl rfl) rfl ?_
  refine jnm ?_
  refine jst hσ rfl rfl rfl rfl rfl ?_
  refine jf [5, 4, 17, 3, 2, 1, 0] rfl ?_
  refine jns ?_
  refine jst hσ rfl rfl rfl rfl rfl ?_
  refine AOps.rows hσ (B0 := 27000) rfl rfl rfl rfl (c11 (p := p) h1 h2) (VAs.self rfl) rfl rfl rfl rfl rfl rfl ?_
  refine jnm ?_
  refine jf [26, 5, 4, 17, 3, 2, 1, 0] rfl ?_
  refine AOps.heap (HS.alloc hσ rfl rfl rfl rfl rfl) rfl ?_
  refine jnm ?_
  refine AOps.heap (HS.storeBox hσ rfl rfl rfl rfl rfl rfl rfl rfl rfl rfl rfl) rfl ?_
  refine jnm ?_
  refine jns ?_
  refine jst hσ rfl rfl rfl rfl rfl ?_
  refine AOps.rows hσ (B0 := 30000) rfl rfl rfl rfl (ci) (.cons (.agg (.cons (.whole rfl (List.length_map _).symm) (.cons (.whole rfl (List.length_map _).symm) (.cons (.whole rfl (List.length_map _).symm) .nil)))) .nil) rfl rfl rfl rfl rfl rfl ?_
  refine jnm ?_
  iterate 3 refine jst hσ rfl rfl rfl rfl rfl ?_
  refine jf [31, 30, 6, 26, 5, 4, 17, 3, 2, 1, 0] rfl ?_
  refine AOps.heap (HS.alloc hσ rfl rfl rfl rfl rfl) rfl ?_
  refine jnm ?_
  refine AOps.heap (HS.storeBox hσ rfl rfl rfl rfl rfl rfl rfl rfl rfl rfl rfl) rfl ?_
  refine jnm ?_
  refine jst hσ rfl rfl rfl rfl rfl ?_
  refine jf [8, 7, 6, 26, 5, 4, 17, 3, 2, 1, 0] rfl ?_
  refine jn ?_
  refine AWP.seq ?_
  refine jsr ?_
  iterate 2 refine jst hσ rfl rfl rfl rfl rfl ?_
  refine AOps.lone hσ rfl rfl rfl rfl ((c26 (s := (⟨[], [], [], []⟩ : An)) (t := (⟨[], [], [], []⟩ : An)) h1 h2).plain (u := eB true) (by simp)) (.cons (.agg (.cons .nils (.cons .nils (.cons .nils (.cons .nils .nil))))) (.cons (.agg (VMs.self rfl)) .nil)) rfl rfl rfl rfl rfl (B0 := 35000) rfl ?_
  iterate 2 refine jst hσ rfl rfl rfl rfl rfl ?_
  refine jf [36, 8, 7, 6, 26, 5, 4, 17, 3, 2, 1, 0] rfl ?_
  refine AOps.live rfl rfl rfl rfl rfl ?_
  refine jst hσ rfl rfl rfl rfl rfl ?_
  refine AOps.live rfl rfl rfl rfl rfl ?_
  refine jst hσ rfl rfl rfl rfl rfl ?_
  refine AOps.live rfl rfl rfl rfl rfl ?_
  refine jst hσ rfl rfl rfl rfl rfl ?_
  refine AOps.step (Val.pickN hσ rfl rfl rfl rfl rfl) rfl rfl rfl ?_
  refine jf [40, 8, 7, 6, 26, 5, 4, 17, 3, 2, 1, 0] rfl ?_
  refine jn ?_
  refine AWP.cond hσ rfl rfl (fun hc40 => ?_) (fun hc40 => ?_)
  ·
   skip
   exact absurd (show false = true from hc40) (by decide)
  ·
   skip
   refine AWP.skip ?_
   refine AWP.seq ?_
   refine AWP.seq ?_
   refine jw [8, 7, 6, 26, 5, 4, 17, 3, 2, 1, 0] rfl ?_
   refine AWP.drawR hσ _ [_, _, _, _, _] [⟨[], 0, 1, none⟩, ⟨[], 0, 0, none⟩, ⟨[1], 0, 0, some 0⟩, ⟨[0, 1, 2], 0, 0, some 1⟩, ⟨[0, 1, 2, 3], 2, 2, none⟩] [2, 3] [_, _, _] rfl rfl (by decide) (by decide) (by kernel_rfl) (And.intro (And.intro (Val.of hσ rfl rfl) (Val.of hσ rfl rfl)) (And.intro (Val.of hσ rfl rfl) (And.intro (Eff.plainD hσ (B0 := 44000) rfl rfl rfl rfl (c11d (p := p) h1 h2) (VAs.self rfl) rfl rfl rfl rfl rfl) (And.intro (Eff.lone hσ (B0 := 45000) rfl rfl rfl rfl ((c16 (s := p) (t := p) h1 h2).plain (u := eB true) (by simp)) (.cons (.agg (.cons (.whole rfl (List.length_map _).symm) (.cons (.whole rfl (List.length_map _).symm) (.cons (.whole rfl (List.length_map _).symm) .nil)))) (.cons (.agg (VMs.self rfl)) .nil)) rfl rfl rfl rfl rfl) (And.intro (Val.of hσ rfl rfl) trivial))))) ?_
   refine jw [45, 8, 7, 6, 26, 5, 4, 17, 3, 2, 1, 0] rfl ?_
   refine jnw ?_
   refine AWP.cond hσ rfl rfl (fun hc45 => ?_) (fun hc45 => ?_)
   ·
    skip
    exact absurd (show false = true from hc45) (by decide)
   ·
    skip
    refine AWP.skip ?_
    refine jsr ?_
    refine jst hσ rfl rfl rfl rfl rfl ?_
    refine jns ?_
    iterate 2 refine jst hσ rfl rfl rfl rfl rfl ?_
    refine jf [47, 46, 9, 8, 7, 6, 26, 5, 4, 17, 3, 2, 1, 0] rfl ?_
    refine AOps.inn hσ [27000, 27001, 27002] (bin := [trow p.pre, srow p.body, trow p.post]) rfl rfl rfl rfl (c17 (p := p) (k := 1) h1 h2 (by decide) (by omega)) rfl rfl rfl rfl rfl rfl (B0 := 49000) rfl rfl ?_
    refine jnm ?_
    refine jst hσ rfl rfl rfl rfl rfl ?_
    refine jf [9, 8, 7, 6, 26, 5, 4, 17, 3, 2, 1, 0] rfl ?_
    refine jn ?_
    refine AWP.seq ?_
    refine jsr ?_
    iterate 2 refine jst hσ rfl rfl rfl rfl rfl ?_
    rw [decide_eq_false (show ¬ (1 + cnt nT p.pre + cnt nS p.body + cnt nT p.post : Int) < 0 by omega)]
    refine jst hσ rfl rfl rfl rfl rfl ?_
    refine jf [51, 9, 8, 7, 6, 26, 5, 4, 17, 3, 2, 1, 0] rfl ?_
    refine AOps.live rfl rfl rfl rfl rfl ?_
    refine jst hσ rfl rfl rfl rfl rfl ?_
    refine AOps.live rfl rfl rfl rfl rfl ?_
    refine jst hσ rfl rfl rfl rfl rfl ?_
    refine AOps.live rfl rfl rfl rfl rfl ?_
    refine AOps.lone hσ rfl rfl rfl rfl ((c26 (s := (⟨[], [], [], []⟩ : An)) (t := (⟨[], [], [], []⟩ : An)) h1 h2).plain (u := eB true) (by simp)) (.cons (.agg (.cons .nils (.cons .nils (.cons .nils (.cons .nils .nil))))) (.cons (.agg (VMs.self rfl)) .nil)) rfl rfl rfl rfl rfl (B0 := 55000) rfl ?_
    refine jf [54, 51, 9, 8, 7, 6, 26, 5, 4, 17, 3, 2, 1, 0] rfl ?_
    refine AOps.live rfl rfl rfl rfl rfl ?_
    refine jst hσ rfl rfl rfl rfl rfl ?_
    refine AOps.step (Val.pickN hσ rfl rfl rfl rfl rfl) rfl rfl rfl ?_
    refine jst hσ rfl rfl rfl rfl rfl ?_
    refine jf [57, 9, 8, 7, 6, 26, 5, 4, 17, 3, 2, 1, 0] rfl ?_
    refine AOps.live rfl rfl rfl rfl rfl ?_
    refine jst hσ rfl rfl rfl rfl rfl ?_
    refine AOps.live rfl rfl rfl rfl rfl ?_
    refine jst hσ rfl rfl rfl rfl rfl ?_
    refine AOps.live rfl rfl rfl rfl rfl ?_
    refine jst hσ rfl rfl rfl rfl rfl ?_
    refine AOps.step (Val.pickN hσ rfl rfl rfl rfl rfl) rfl rfl rfl ?_
    refine jf [61, 9, 8, 7, 6, 26, 5, 4, 17, 3, 2, 1, 0] rfl ?_
    refine jn ?_
    refine AWP.cond hσ rfl rfl (fun hc61 => ?_) (fun hc61 => ?_)
    ·
     skip
     exact absurd (show false = true from hc61) (by decide)
    ·
     skip
     refine AWP.skip ?_
     refine jsr ?_
     refine jst hσ rfl rfl rfl rfl rfl ?_
     refine jns ?_
     iterate 2 refine jst hσ rfl rfl rfl rfl rfl ?_
     refine jf [63, 62, 10, 9, 8, 7, 6, 26, 5, 4, 17, 3, 2, 1, 0] rfl ?_
     refine AOps.lone hσ rfl rfl rfl rfl (c27n (k := 1) h1 h2) (.cons (.agg (.cons .nils (.cons .nils (.cons .nils (.cons .nils .nil))))) (.cons (.c .d) .nil)) rfl rfl rfl rfl rfl (B0 := 65000) rfl ?_
     refine jst hσ rfl rfl rfl rfl rfl ?_
     refine jf [10, 9, 8, 7, 6, 26, 5, 4, 17, 3, 2, 1, 0] rfl ?_
     refine jns ?_
     refine jst hσ rfl rfl rfl rfl rfl ?_
     refine jns ?_
     iterate 2 refine jst hσ rfl rfl rfl rfl rfl ?_
     refine AOps.lone hσ rfl rfl rfl rfl ((c28 (a := (⟨[], [], [], []⟩ : An)) (k := 1) h1 h2 (by decide) (by decide)).plain (u := eI 1) rfl) (.cons (.agg (.cons .nils (.cons .nils (.cons .nils (.cons .nils .nil))))) (.cons (.c .d) .nil)) rfl rfl rfl rfl rfl (B0 := 68000) rfl ?_
     refine jst hσ rfl rfl rfl rfl rfl ?_
     refine jf [11, 10, 9, 8, 7, 6, 26, 5, 4, 17, 3, 2, 1, 0] rfl ?_
     refine jn ?_
     refine AWP.seq ?_
     refine jsr ?_
     iterate 2 refine jst hσ rfl rfl rfl rfl rfl ?_
     refine jn ?_
     refine AWP.cond hσ rfl rfl (fun hc69 => ?_) (fun hc69 => ?_)
     ·
      skip
      exact absurd (of_decide_eq_true hc69) (by decide)
     ·
      skip
      refine AWP.skip ?_
      refine AWP.seq ?_
      refine jsr ?_
      iterate 3 refine jst hσ rfl rfl rfl rfl rfl ?_
      refine jf [72, 68, 11, 10, 9, 8, 7, 6, 26, 5, 4, 17, 3, 2, 1, 0] rfl ?_
      refine jn ?_
      refine AWP.cond hσ rfl rfl (fun hc72 => ?_) (fun hc72 => ?_)
      ·
       skip
       exact absurd hc72 (by simp)
      ·
       skip
       refine AWP.skip ?_
       refine jsr ?_
       refine jst hσ rfl rfl rfl rfl rfl ?_
       refine jf [74, 68, 11, 10, 9, 8, 7, 6, 26, 5, 4, 17, 3, 2, 1, 0] rfl ?_
       refine AOps.plainD hσ rfl rfl rfl rfl (c11d (p := p) h1 h2) (VAs.self rfl) rfl rfl rfl rfl (B0 := 76000) rfl rfl ?_
       refine jf [75, 68, 11, 10, 9, 8, 7, 6, 26, 5, 4, 17, 3, 2, 1, 0] rfl ?_
       refine AOps.rows hσ (B0 := 77000) rfl rfl rfl rfl (ci) (VAs.self rfl) rfl rfl rfl rfl rfl rfl ?_
       refine jnm ?_
       iterate 3 refine jst hσ rfl rfl rfl rfl rfl ?_
       refine jf [78, 77, 68, 11, 10, 9, 8, 7, 6, 26, 5, 4, 17, 3, 2, 1, 0] rfl ?_
       refine AOps.heap (HS.alloc hσ rfl rfl rfl rfl rfl) rfl ?_
       refine jnm ?_
       refine AOps.heap (HS.storeBox hσ rfl rfl rfl rfl rfl rfl rfl rfl rfl rfl rfl) rfl ?_
       refine jnm ?_
       refine jst hσ rfl rfl rfl rfl rfl ?_
       refine jf [13, 12, 68, 11, 10, 9, 8, 7, 6, 26, 5, 4, 17, 3, 2, 1, 0] rfl ?_
       refine jn ?_
       refine AWP.seq ?_
       refine jsr ?_
       iterate 2 refine jst hσ rfl rfl rfl rfl rfl ?_
       refine AOps.lone hσ rfl rfl rfl rfl ((c26 (s := (⟨[], [], [], []⟩ : An)) (t := (⟨[], [], [], []⟩ : An)) h1 h2).plain (u := eB true) (by simp)) (.cons (.agg (.cons .nils (.cons .nils (.cons .nils (.cons .nils .nil))))) (.cons (.agg (VMs.self rfl)) .nil)) rfl rfl rfl rfl rfl (B0 := 82000) rfl ?_
       iterate 2 refine jst hσ rfl rfl rfl rfl rfl ?_
       refine jf [83, 13, 12, 68, 11, 10, 9, 8, 7, 6, 26, 5, 4, 17, 3, 2, 1, 0] rfl ?_
       refine AOps.live rfl rfl rfl rfl rfl ?_
       refine jst hσ rfl rfl rfl rfl rfl ?_
       refine jf [84, 83, 12, 68, 11, 10, 9, 8, 7, 6, 26, 5, 4, 17, 3, 2, 1, 0] rfl ?_
       refine AOps.live rfl rfl rfl rfl rfl ?_
       refine jst hσ rfl rfl rfl rfl rfl ?_
       refine AOps.live rfl rfl rfl rfl rfl ?_
       refine jst hσ rfl rfl rfl rfl rfl ?_
       refine AOps.step (Val.pickN hσ rfl rfl rfl rfl rfl) rfl rfl rfl ?_
       refine jf [87, 12, 68, 11, 10, 9, 8, 7, 6, 26, 5, 4, 17, 3, 2, 1, 0] rfl ?_
       refine jn ?_
       refine AWP.cond hσ rfl rfl (fun hc87 => ?_) (fun hc87 => ?_)
       ·
        skip
        exact absurd (show false = true from hc87) (by decide)
       ·
        skip
        refine AWP.skip ?_
        refine jsr ?_
        refine jst hσ rfl rfl rfl rfl rfl ?_
        refine jns ?_
        iterate 2 refine jst hσ rfl rfl rfl rfl rfl ?_
        refine jf [89, 88, 11, 12, 68, 10, 9, 8, 7, 6, 26, 5, 4, 17, 3, 2, 1, 0] rfl ?_
        refine AOps.lone hσ rfl rfl rfl rfl ((c28 (a := (⟨[], [], [], []⟩ : An)) (k := 1) h1 h2 (by decide) (by decide)).plain (u := eI 1) rfl) (.cons (.agg (.cons .nils (.cons .nils (.cons .nils (.cons .nils .nil))))) (.cons (.c .d) .nil)) rfl rfl rfl rfl rfl (B0 := 91000) rfl ?_
        refine jst hσ rfl rfl rfl rfl rfl ?_
        refine jf [11, 12, 68, 10, 9, 8, 7, 6, 26, 5, 4, 17, 3, 2, 1, 0] rfl ?_
        refine jn ?_
        refine AWP.seq ?_
        refine jsr ?_
        iterate 2 refine jst hσ rfl rfl rfl rfl rfl ?_
        refine jn ?_
        refine AWP.cond hσ rfl rfl (fun hc92 => ?_) (fun hc92 => ?_)
        ·
         skip
         exact absurd (of_decide_eq_true hc92) (by decide)
        ·
         skip
         refine AWP.skip ?_
         refine AWP.seq ?_
         refine jsr ?_
         iterate 3 refine jst hσ rfl rfl rfl rfl rfl ?_
         refine jf [95, 91, 11, 12, 68, 10, 9, 8, 7, 6, 26, 5, 4, 17, 3, 2, 1, 0] rfl ?_
         refine jn ?_
         refine AWP.cond hσ rfl rfl (fun hc95 => ?_) (fun hc95 => ?_)
         ·
          skip
          exact absurd hc95 (by simp)
         ·
          skip
          refine AWP.skip ?_
          refine jsr ?_
          refine jst hσ rfl rfl rfl rfl rfl ?_
          refine jn ?_
          refine AWP.ret ?_
          refine ⟨.inl rfl, _, Ent.refl, _, rfl, ?_⟩
          rfl
theorem c1079a {L : Nat} (h1 : 4096 ≤ L) (h2 : L ≤ 9223372036854775807) {p : Pm} (hz : szr 1048576 (Al.szs Tm.size p.pre + Al.szs Sm.size p.body + Al.szs Tm.size p.post) < 0) : MC Tryz.prog L 3 [aPm p] [] (Plain (eB true)) := by
 refine MC.alone ?_ rfl
 have hσ := SGok (nt := 96) h1 h2
 refine MC.body hσ Tryz.func3 (by kernel_rfl) rfl rfl (Nat.le_of_ble_eq_true rfl) (fun hF => ?_)
 refine jsr ?_
 refine AOps.heap (HS.box hσ rfl rfl rfl rfl rfl rfl rfl) rfl ?_
 refine jnm ?_
 refine jst hσ rfl rfl rfl rfl rfl ?_
 refine jns ?_
 refine jst hσ rfl rfl rfl rfl rfl ?_
 refine jns ?_
 iterate 2 refine jst hσ rfl rfl rfl rfl rfl ?_
 refine AOps.lone hσ rfl rfl rfl rfl (c8 (p := p) (left := 1048576) h1 h2 (by decide) (by decide)) (VAs.self rfl) rfl rfl rfl rfl rfl (B0 := 17000) rfl ?_
 refine jst hσ rfl rfl rfl rfl rfl ?_
 refine jf [3, 2, 1, 0] rfl ?_
 refine jn ?_
 refine AWP.seq ?_
 refine jsr ?_
 iterate 2 refine jst hσ rfl rfl rfl rfl rfl ?_
 refine jn ?_
 refine AWP.cond hσ rfl rfl (fun hc18 => ?_) (fun hc18 => ?_)
 ·
  skip
  refine jsr ?_
  refine jst hσ rfl rfl rfl rfl rfl ?_
  refine jn ?_
  refine AWP.ret ?_
  refine ⟨.inl rfl, _, Ent.refl, _, rfl, ?_⟩
  rfl
 ·
  skip
  exact absurd (of_decide_eq_false hc18) (fun h => h hz)
end Go.Al
namespace Go.Al
open Go.Proofs
set_option linter.unusedVariables false
set_option linter.unusedSimpArgs false
theorem cnt_szsM (b : List Sm) : cnt nS b ≤ 5 * szs Sm.size b := by
  unfold cnt szs
  induction b with
  | nil => simp
  | cons t r ih =>
    simp only [List.map_cons, List.sum_cons, List.length_cons] at ih ⊢
    have h1 : nS t = 5 + t.sum.xs.length + t.index.xs.length + cnt nT t.facts := rfl
    have h2 : Sm.size t = t.sum.xs.length + t.index.xs.length + szs Tm.size t.facts := rfl
    have h3 := cnt_szs t.facts
    omega
theorem fact_smsM {L S : Nat} {b : List Sm} (h : D.fact L (sms b)) (hl : szs Sm.size b ≤ S) : D.fact S (sms b) := by
  unfold szs at hl
  simp only [D.fact, List.length_map, Dss.fact_map] at h ⊢
  refine ⟨by omega, fun s hs => ?_⟩
  have h1 := h.2 s hs
  have h2 := sum_mem Sm.size hs
  have h3 : Sm.size s = s.sum.xs.length + s.index.xs.length + szs Tm.size s.facts := rfl
  exact ⟨h1.1, h1.2.1, h1.2.2.1, h1.2.2.2.1, fact_ints h1.2.2.2.2.1 (by omega), h1.2.2.2.2.2.1, fact_ints h1.2.2.2.2.2.2.1 (by omega), fact_tms h1.2.2.2.2.2.2.2.1 (by omega), trivial⟩
theorem fact_pm {L S : Nat} {p : Pm} (h : A.fact L (aPm p)) (hl : szs Tm.size p.pre + szs Sm.size p.body + szs Tm.size p.post ≤ S) : A.fact S (aPm p) :=
  ⟨fact_tms h.1 (by omega), fact_smsM h.2.1 (by omega), fact_tms h.2.2.1 (by omega), trivial⟩
theorem cnt_in' (c : List In) : cnt nIn c = 2 * c.length := by
  induction c with
  | nil => rfl
  | cons x r ih =>
    rw [show cnt nIn (x :: r) = 2 + cnt nIn r by simp [cnt], ih, List.length_cons]; omega
theorem cnt_terms {fs : List Tm} (h : terms fs 6 = true) : cnt nT fs ≤ 30 := by
  have key : ∀ l : List Tm, (∀ t ∈ l, Tm.term t = true) → cnt nT l ≤ 5 * l.length := by
    intro l hl
    induction l with
    | nil => simp [cnt]
    | cons t r ih =>
      have h1 := ih fun t ht => hl t (by simp [ht])
      have h2 := term_xs (hl t (by simp))
      have h3 : nT t = 1 + t.xs.length := rfl
      simp only [cnt, List.map_cons, List.sum_cons, List.length_cons] at h1 ⊢
      omega
  simp only [terms, Bool.and_eq_true, decide_eq_true_eq] at h
  have := key fs (List.all_eq_true.1 h.1)
  omega
theorem cnt_pts {a : An} (hv : annB a = true) : cnt nP a.pts ≤ 1000000000 := by
  have key : ∀ l : List Pt, (∀ p ∈ l, terms p.fs 6 = true) → cnt nP l ≤ 31 * l.length := by
    intro l hl
    induction l with
    | nil => simp [cnt]
    | cons p r ih =>
      have h1 := ih fun p hp => hl p (by simp [hp])
      have h2 := cnt_terms (hl p (by simp))
      have h3 : nP p = 1 + cnt nT p.fs := rfl
      simp only [cnt, List.map_cons, List.sum_cons, List.length_cons] at h1 ⊢
      omega
  have hA := annB_ok hv
  have hn := hA.np
  have := key a.pts fun p hp => by
    obtain ⟨i, hi, rfl⟩ := List.getElem_of_mem hp
    unfold annB at hv
    simp only [Bool.and_eq_true] at hv
    have h9 := List.all_eq_true.1 hv.2.2.2.2 i (List.mem_range.2 hi)
    unfold ptB at h9
    simp only [Bool.and_eq_true] at h9
    rw [getD_lt hi] at h9
    exact h9.1.2
  omega
theorem prog_eq (p : Pm) : progB p = validP p := by
  unfold progB validP
  rw [body_eq]
  cases tOB p.body <;> cases terms p.pre 6 <;> rfl
theorem pmT_of {p : Pm} (h : validP p = true) : ∃ t, PmT p t ∧ tOP p.body = t.d := by
  have htb : tOB p.body = true := by unfold validP at h; simp only [Bool.and_eq_true] at h; exact h.1
  obtain ⟨t, g1, g2, g3⟩ := tOB_some htb
  have hc := tree_cok (show treeF (p.body.length + 1) p.body 0 = some (t, p.body.length) from g1)
  refine ⟨t, ⟨g1, ?_, hc.2.1, hc.2.2⟩, g3⟩
  unfold tOB at htb
  split at htb
  · cases htb
  · omega
/-- The law of CompileProgram holds for all arguments. -/
theorem law1079 {L : Nat} (h1 : 4096 ≤ L) (h2 : L ≤ 9223372036854775807) {p : Pm} : MC Tryz.prog L 3 [aPm p] [] (Plain (eB true)) := by
  by_cases hz1 : szr 1048576 (szs Tm.size p.pre + szs Sm.size p.body + szs Tm.size p.post) < 0
  · exact c1079a h1 h2 hz1
  have hz1' : 0 ≤ szr 1048576 (szs Tm.size p.pre + szs Sm.size p.body + szs Tm.size p.post) := by omega
  have g1 := szr_nonneg hz1' (by decide)
  have k1 := cnt_szs p.pre
  have k2 := cnt_szsM p.body
  have k3 := cnt_szs p.post
  have hcp : 1 + cnt nT p.pre + cnt nS p.body + cnt nT p.post ≤ (1073741824 : Int) := by omega
  refine MC.facts ⟨_, _, Tryz.func3, by kernel_rfl, rfl⟩ fun hF => ?_
  refine MC.lift (L0 := 1073741824) rfl ?_ ?_
  · exact ⟨fact_pm hF.1 (by omega), trivial⟩
  · cases hp : validP p with
    | false => exact c1079n (by decide) (Nat.le_refl _) (c1081e (by decide) (Nat.le_refl _) (by rw [prog_eq]; exact hp)) (c1082e (by decide) (Nat.le_refl _) hp) hz1' hcp
    | true =>
      obtain ⟨t, hT, htd⟩ := pmT_of hp
      cases hv : annB (anP p t) with
      | true =>
        have m1 := hT.le.1
        have m2 := cnt_in' (anP p t).code
        have m3 : cnt nP (anP p t).pts ≤ 1000000000 := cnt_pts hv
        have m4 : (anP p t).code.length = (csP p t).code.length := rfl
        refine c1079v (r := anP p t) (by decide) (Nat.le_refl _) ?_ (c1081v (by decide) (Nat.le_refl _) hT (by rw [prog_eq]; exact hp) hv) (c1082v (by decide) (Nat.le_refl _) hT hp htd hv) hz1' hcp
        show 1 + (cnt nT p.pre : Int) + cnt nT p.post + cnt nIn (anP p t).code + cnt nP (anP p t).pts ≤ 1073741824
        omega
      | false => exact c1079n (by decide) (Nat.le_refl _) (c1081n (by decide) (Nat.le_refl _) hT (by rw [prog_eq]; exact hp) hv) (c1082n (by decide) (Nat.le_refl _) hT hp htd hv) hz1' hcp
end Go.Al
/- What the laws of programs share: the types of their arguments. -/
namespace Go.Proofs.YtnepkogijffmjaaGreat
open Go.ChangeShapes Go.WideShapes Go.ChangeAt Go.RowKit Go.Al
set_option linter.unusedVariables false
set_option maxRecDepth 10000
abbrev tyS : List Ty := [.int .i64, .int .i64, .int .i64, .int .i64, .slc tyI, .int .i64, .slc tyI, .slc tyT]
theorem of165 : TyOf Tryz.prog 92 tyS := .struct Tryz.underlying92 (show FieldsAre Tryz.prog _ (tyI ++ (tyI ++ (tyI ++ (tyT ++ (tyT ++ ([.slc tyT] ++ [])))))) 0 from
  .cons rfl (by kernel_rfl) of2 (.cons rfl (by kernel_rfl) of2 (.cons rfl (by kernel_rfl) of2 (.cons rfl (by kernel_rfl) of63 (.cons rfl (by kernel_rfl) of63 (.cons rfl (by kernel_rfl) of22 .nil)))))) (by kernel_rfl)
theorem of23 : TyOf Tryz.prog 23 [.slc tyS] := .slc Tryz.underlying23 of165 (by kernel_rfl) (by decide)
theorem of25 : TyOf Tryz.prog 25 [.slc tyT, .slc tyS, .slc tyT] := .struct Tryz.underlying25 (show FieldsAre Tryz.prog _ ([.slc tyT] ++ ([.slc tyS] ++ ([.slc tyT] ++ []))) 0 from
  .cons rfl (by kernel_rfl) of22 (.cons rfl (by kernel_rfl) of23 (.cons rfl (by kernel_rfl) of22 .nil))) (by kernel_rfl)
theorem fits_stmt {e : List D} (h : FitsL tyS e) : ∃ s : Sm, e = s.cells := by
  cases h with
  | cons a1 h =>
    cases h with
    | cons a2 h =>
      cases h with
      | cons a3 h =>
        cases h with
        | cons a4 h =>
          cases h with
          | cons a5 h =>
            cases h with
            | cons a6 h =>
              cases h with
              | cons a7 h =>
                cases h with
                | cons a8 h =>
                  cases h
                  obtain ⟨n1, rfl⟩ := fits_int a1
                  obtain ⟨n2, rfl⟩ := fits_int a2
                  obtain ⟨n3, rfl⟩ := fits_int a3
                  obtain ⟨n4, rfl⟩ := fits_int a4
                  obtain ⟨x5, rfl⟩ := fits_ints a5
                  obtain ⟨n6, rfl⟩ := fits_int a6
                  obtain ⟨x7, rfl⟩ := fits_ints a7
                  obtain ⟨x8, rfl⟩ := fits_terms a8
                  exact ⟨⟨n1, n2, n3, ⟨n4, x5⟩, ⟨n6, x7⟩, x8⟩, rfl⟩
theorem fits_stmts {d : D} (h : Fits (.slc tyS) d) : ∃ b, d = sms b := by
  cases h with
  | slc h =>
    obtain ⟨xs, rfl⟩ := fits_all (g := Sm.cells) (fun e he => fits_stmt he) h
    exact ⟨xs, rfl⟩
theorem fits_prog {e : List D} (h : FitsL [.slc tyT, .slc tyS, .slc tyT] e) : ∃ p : Pm, e = p.data := by
  cases h with
  | cons a1 h =>
    cases h with
    | cons a2 h =>
      cases h with
      | cons a3 h =>
        cases h
        obtain ⟨x1, rfl⟩ := fits_terms a1
        obtain ⟨x2, rfl⟩ := fits_stmts a2
        obtain ⟨x3, rfl⟩ := fits_terms a3
        exact ⟨⟨x1, x2, x3⟩, rfl⟩
end Go.Proofs.YtnepkogijffmjaaGreat
