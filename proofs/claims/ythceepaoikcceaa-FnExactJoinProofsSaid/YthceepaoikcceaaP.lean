/- The law, walked. -/
import Derived.Test.YthceepaoikcceaaM
namespace Go.Al
open Go.Proofs
set_option linter.unusedVariables false
set_option linter.unusedSimpArgs false
set_option maxRecDepth 10000
theorem c203e {L : Nat} (h1 : 4096 ≤ L) (h2 : L ≤ 1073741824) {z : List Tm} (hz : z = []) : MC Try.prog L 96 [atms z] [] (Rows (.c (.rs 0 0 0)) [drow []]) := by
 refine MC.rows ?_
 have hσ := SGok (nt := 8) h1 (Nat.le_trans h2 (by decide))
 refine MC.body hσ Try.func96 (by kernel_rfl) rfl rfl (Nat.le_of_ble_eq_true rfl) (fun hF => ?_)
 subst hz
 refine jsr ?_
 refine jst hσ rfl rfl rfl rfl rfl ?_
 refine jn ?_
 refine AWP.seq ?_
 refine jsr ?_
 refine jst hσ rfl rfl rfl rfl rfl ?_
 refine AOps.nilEq hσ rfl rfl rfl rfl rfl rfl rfl rfl rfl rfl (fun b => ?_)
 refine jn ?_
 refine AWP.cond hσ rfl rfl (fun hc4 => ?_) (fun hc4 => ?_)
 ·
  skip
  refine jsr ?_
  refine jst hσ rfl rfl rfl rfl rfl ?_
  refine jn ?_
  refine AWP.ret ?_
  refine ⟨.inl rfl, _, (Ent.nameNil 2 900 2 false rfl rfl).trans (Ent.to (e' := [(2, _)]) ⟨rfl, trivial⟩ rfl), _, rfl, [900], by decide, rfl, rfl, rfl⟩
 ·
  skip
  refine AWP.skip ?_
  refine jsr ?_
  refine AOps.heap (HS.lit hσ rfl rfl rfl) rfl ?_
  refine jst hσ rfl rfl rfl rfl rfl ?_
  refine AOps.to (Ent.unown 5 rfl) ?_
  refine AOps.heap (HS.appCopy (own := false) (zs := []) (n := 0) hσ rfl rfl rfl rfl rfl rfl rfl rfl rfl rfl rfl rfl rfl rfl rfl rfl (.row rfl rfl) (.slc (.inl rfl)) (by simp) rfl (by simp) (by simp) rfl rfl) rfl ?_
  refine jst hσ rfl rfl rfl rfl rfl ?_
  refine jn ?_
  refine AWP.ret ?_
  refine ⟨.inl rfl, _, Ent.refl, _, rfl, [7], by decide, rfl, rfl, rfl⟩
theorem c189e {L : Nat} (h1 : 4096 ≤ L) (h2 : L ≤ 1073741824) {t : Tm} : MC Try.prog L 71 [atms [], aTm' t] [] (Plain (atms [t])) := by
 refine MC.data ?_
 have hσ := SGok (nt := 10) h1 (Nat.le_trans h2 (by decide))
 refine MC.body hσ Try.func71 (by kernel_rfl) rfl rfl (Nat.le_of_ble_eq_true rfl) (fun hF => ?_)
 refine jsr ?_
 refine AOps.heap (HS.box hσ rfl rfl rfl rfl rfl rfl rfl) rfl ?_
 refine jst hσ rfl rfl rfl rfl rfl ?_
 refine jn ?_
 refine AWP.seq ?_
 refine AWP.forget [(3, _), (0, _), (1, _)] ⟨rfl, rfl, rfl, trivial⟩ ?_
 refine AWP.drawF2 hσ _ [_, _, _, _, _, _] [⟨[], 0, 0, none⟩, ⟨[0], 0, 0, some 0⟩, ⟨[], 0, 1, none⟩, ⟨[2], 0, 1, none⟩, ⟨[0, 1, 2, 3], 0, 0, some 1⟩, ⟨[0, 1, 2, 3, 4], 2, 2, none⟩] [1, 4] 3 8 (.row false 2 [Tm.cells t]) [_, _] [_] [[], [7000]] rfl rfl (by decide) (by decide) (by decide) rfl (by kernel_rfl) (And.intro (And.intro (and_flip (Val.of hσ rfl rfl) (Val.of hσ rfl rfl)) rfl) (And.intro (And.intro (and_flip (Eff.p (Eff.rowsD hσ (B0 := 7000) rfl rfl rfl rfl (c203e h1 h2 rfl) (VAs.self rfl) rfl rfl rfl rfl)) (Eff.p (Eff.rowsD hσ (B0 := 7000) rfl rfl rfl rfl (c203e h1 h2 rfl) (VAs.self rfl) rfl rfl rfl rfl))) rfl) (And.intro (And.intro (And.intro (and_flip (Val.of hσ rfl rfl) (Val.of hσ rfl rfl)) rfl) (And.intro (and_flip (Val.of hσ rfl rfl) (Val.of hσ rfl rfl)) rfl)) (And.intro (And.intro (And.intro (Eff.p (Eff.litD hσ rfl rfl rfl rfl rfl rfl rfl rfl rfl rfl rfl rfl rfl rfl)) rfl) (And.intro (Eff.p (Eff.litD hσ rfl rfl rfl rfl rfl rfl rfl rfl rfl rfl rfl rfl rfl rfl)) rfl)) (And.intro (And.intro (and_flip trivial (Eff.appCopy (own := false) (xs := []) (ys := [Tm.cells t]) (zs := [Tm.cells t]) (n := 1) hσ rfl rfl rfl rfl rfl rfl rfl rfl rfl rfl rfl rfl rfl rfl rfl rfl (.row rfl rfl) (.whole rfl rfl (.inr ⟨rfl, rfl⟩)) (by simp) rfl (by simp; omega) (by simp) rfl rfl rfl)) rfl) (And.intro (And.intro (and_flip trivial (Val.of hσ rfl rfl)) rfl) trivial)))))) ?_
 refine AWP.forget [(4, _), (1, _)] ⟨rfl, rfl, trivial⟩ ?_
 refine jnw ?_
 refine AWP.ret ?_
 refine ⟨.inl rfl, _, Ent.refl, _, rfl, ?_⟩
 exact .v (.c (.whole rfl rfl))
theorem c189a {L : Nat} (h1 : 4096 ≤ L) (h2 : L ≤ 1073741824) {ts : List Tm} {t : Tm} (hl : ts.length ≤ 1000) : MC Try.prog L 71 [atms ts, aTm' t] [] (Plain (atms (ts ++ [t]))) := by
 cases ts with
 | nil => exact c189e h1 h2
 | cons c r => exact c189 h1 h2 hl
theorem c1026w {L : Nat} (h1 : 4096 ≤ L) (h2 : L ≤ 1073741824) {s : Sq} {p : List Nd} (hv : chkS s p = true) : MC Try.prog L 63 [aSq s, .c (.rs 0 0 p.length)] [(0, ndrow p)] (Outs (.tup [aSq s, .c (.rs 0 0 p.length), eB true]) [(0, ndrow p), (1, .box (s.cells.map .d))]) := by
 refine MC.shift 500 rfl ?_
 have hσ := SgOk.withIns (js := [500]) (SGok (nt := 14) h1 (Nat.le_trans h2 (by decide)))
 refine MC.bodyH hσ Try.func63 (by kernel_rfl) rfl rfl rfl (Nat.le_of_ble_eq_true rfl) (fun hF => ?_)
 refine jsr ?_
 refine AOps.heap (HS.box hσ rfl rfl rfl rfl rfl rfl rfl) rfl ?_
 refine jnm ?_
 refine AOps.forget [(2, _), (1, _)] ⟨rfl, rfl, trivial⟩ ?_
 refine AOps.heap (HS.alloc hσ rfl rfl rfl rfl rfl) rfl ?_
 refine jnm ?_
 iterate 2 refine jst hσ rfl rfl rfl rfl rfl ?_
 refine jn ?_
 refine AWP.seq ?_
 refine jsr ?_
 iterate 2 refine jst hσ rfl rfl rfl rfl rfl ?_
 refine AOps.lone hσ rfl rfl rfl rfl ((c96 (s := s) (p := p) h1 h2).plain (u := eB true) (by rw [hv])) (.cons (.agg (.cons .d (.cons .d (.cons .d .nil)))) (.cons (.c (.whole rfl (List.length_map _).symm)) .nil)) rfl rfl rfl rfl rfl (B0 := 10000) rfl ?_
 refine jst hσ rfl rfl rfl rfl rfl ?_
 refine jf6 10 6 5 4 2 1 rfl rfl rfl rfl rfl rfl ?_
 refine jn ?_
 refine AWP.cond hσ rfl rfl (fun hc10 => ?_) (fun hc10 => ?_)
 ·
  skip
  cases hc10
 ·
  skip
  refine AWP.skip ?_
  refine jsr ?_
  iterate 2 refine jst hσ rfl rfl rfl rfl rfl ?_
  refine jf7 13 12 6 5 4 2 1 rfl rfl rfl rfl rfl rfl rfl ?_
  refine AOps.heap (HS.storeBox hσ rfl rfl rfl rfl rfl rfl rfl rfl rfl rfl rfl) rfl ?_
  refine jnm ?_
  iterate 2 refine jst hσ rfl rfl rfl rfl rfl ?_
  refine jf5 6 5 4 2 1 rfl rfl rfl rfl rfl ?_
  refine jn ?_
  refine AWP.ret ?_
  refine ⟨.inl rfl, _, (Ent.sel [500, 4] (e' := [(4, _), (5, _), (6, _)]) rfl rfl ⟨rfl, rfl, rfl, trivial⟩ rfl).trans (Ent.sub2 4 501 rfl rfl), _, rfl, rfl, rfl⟩
theorem c1013v {L : Nat} (h1 : 4096 ≤ L) (h2 : L ≤ 1073741824) {s : Sq} {t : Tm} {p q : List Nd} (hs : seqB s = true) (hk1 : chkS (oneSq s t) p = true) (hk2 : chkS (twoSq s t) q = true) (hv : chkS s (joinNds s.facts.length t p q) = true) : MC Try.prog L 30 [aSq s, aTm' t, ands p, ands q] [] (Rows (.tup [.c (.rs 0 0 (joinNds s.facts.length t p q).length), eB true]) [ndrow (joinNds s.facts.length t p q)]) := by
 refine MC.rows ?_
 have hσ := SGok (nt := 66) h1 (Nat.le_trans h2 (by decide))
 refine MC.body hσ Try.func30 (by kernel_rfl) rfl rfl (Nat.le_of_ble_eq_true rfl) (fun hF => ?_)
 have hs13 := (seqB_spec hs).2.1
 have hp := acc_nodes hk1
 have hq := nds_two hk2
 have hpl := acc_len hk1
 have hql := acc_len hk2
 have m1 : MC Try.prog L 54 [ands q, .c (.fn 72 []), .c (.fn 73 [.d (.ptr [.int .i64 s.facts.length] 0)])] [] (Rows (.c (.rs 0 0 q.length)) [ndrow (swapNds s.facts.length q)]) := by
  rw [← swap_map hq]
  exact c1021b (f1 := 72) (f2 := 73) h1 h2 (swap_ok hq) (fun k hk => c1029 h1 h2 hk) (fun k hk => c1030 h1 h2 (by omega) hk)
 have m2 : MC Try.prog L 54 [ands p, .c (.fn 74 []), .c (.fn 75 [.d (.ptr [.int .i64 s.facts.length] 0)])] [] (Rows (.c (.rs 0 0 p.length)) [ndrow (liftNds s.facts.length 1 p)]) := by
  rw [← lift_map hp]
  exact c1021b (f1 := 74) (f2 := 75) h1 h2 (lift_ok (by decide) hp) (fun k hk => c1031 h1 h2 hk) (fun k hk => c1032 h1 h2 hk)
 refine jsr ?_
 refine AOps.heap (HS.box hσ rfl rfl rfl rfl rfl rfl rfl) rfl ?_
 refine jnm ?_
 refine AOps.to (Ent.freeze 4 (e' := [(4, _), (1, _), (2, _), (3, _)]) rfl (.cons rfl (.c (.box (cs := Sq.cells s) rfl (VMs.self rfl))) (.cons rfl (.keep rfl) (.cons rfl (.keep rfl) (.cons rfl (.keep rfl) .nil)))) (.skip .nil)) ?_
 refine jnm ?_
 refine AOps.heap (HS.box hσ rfl rfl rfl rfl rfl rfl rfl) rfl ?_
 refine jnm ?_
 refine AOps.to (Ent.freeze 5 (e' := [(5, _), (4, _), (2, _), (3, _)]) rfl (.cons rfl (.c (.box (cs := Tm.cells t) rfl (VMs.self rfl))) (.cons rfl (.keep rfl) (.cons rfl (.keep rfl) (.cons rfl (.keep rfl) .nil)))) (.skip .nil)) ?_
 refine jnm ?_
 iterate 2 refine jst hσ rfl rfl rfl rfl rfl ?_
 refine jns ?_
 iterate 2 refine jst hσ rfl rfl rfl rfl rfl ?_
 first | refine jle hσ rfl rfl rfl rfl rfl rfl rfl rfl rfl rfl rfl ?_ | refine jst hσ rfl rfl rfl rfl rfl ?_ | refine jvf hσ rfl rfl rfl rfl rfl ?_
 refine jf7 18 9 8 5 4 2 3 rfl rfl rfl rfl rfl rfl rfl ?_
 refine AOps.heap (HS.alloc hσ rfl rfl rfl rfl rfl) rfl ?_
 refine jnm ?_
 refine AOps.heap (HS.storeBox hσ rfl rfl rfl rfl rfl rfl rfl rfl rfl rfl rfl) rfl ?_
 refine jnm ?_
 refine jn ?_
 refine AWP.seq ?_
 refine AWP.seq ?_
 refine AWP.drawG hσ _ [_, _, _, _, _, _, _, _, _, _, _, _, _, _, _, _, _, _, _, _, _, _, _, _] [⟨[], 0, 0, none⟩, ⟨[0], 0, 0, some 0⟩, ⟨[0, 1], 1, 1, none⟩, ⟨[0, 1, 2], 1, 1, none⟩, ⟨[0, 1, 2, 3], 1, 1, none⟩, ⟨[0, 1, 2, 3, 4], 1, 1, none⟩, ⟨[0, 1, 2, 3], 1, 1, none⟩, ⟨[0, 1, 2, 3, 4, 5, 6], 1, 1, none⟩, ⟨[0, 1, 2, 3], 1, 1, none⟩, ⟨[0, 1, 2, 3, 4, 5, 6, 7, 8], 0, 0, some 1⟩, ⟨[0, 1, 2, 3, 4, 5, 6, 7, 8, 9], 2, 2, none⟩, ⟨[0, 1, 2, 3, 4, 5, 6, 7, 8, 9, 10], 2, 2, none⟩, ⟨[0, 1, 2, 3, 4, 5, 6, 7, 8, 9, 10, 11], 2, 2, none⟩, ⟨[0, 1, 2, 3, 4, 5, 6, 7, 8, 9, 10, 11, 12], 2, 2, none⟩, ⟨[0, 1, 2, 3, 4, 5, 6, 7, 8, 9, 10, 11, 12, 13], 2, 2, none⟩, ⟨[0, 1, 2, 3, 4, 5, 6, 7, 8, 9, 10, 11, 12], 2, 2, none⟩, ⟨[0, 1, 2, 3, 4, 5, 6, 7, 8, 9, 10, 11, 12, 13, 14, 15], 0, 0, some 2⟩, ⟨[0, 1, 2, 3, 4, 5, 6, 7, 8, 9, 10, 11, 12], 2, 3, none⟩, ⟨[0, 1, 2, 3, 4, 5, 6, 7, 8, 9, 10, 11, 12, 17], 2, 3, none⟩, ⟨[0, 1, 2, 3, 4, 5, 6, 7, 8, 9, 10, 11, 12, 13, 14, 15, 16, 17, 18], 3, 3, none⟩, ⟨[0, 1, 2, 3, 4, 5, 6, 7, 8, 9, 10, 11, 12], 2, 3, none⟩, ⟨[0, 1, 2, 3, 4, 5, 6, 7, 8, 9, 10, 11, 12, 13, 14, 15, 16, 17, 18, 19, 20], 0, 0, some 3⟩, ⟨[0, 1, 2, 3, 4, 5, 6, 7, 8, 9, 10, 11, 12, 13, 14, 15, 16, 17, 18, 19, 20, 21], 4, 4, none⟩, ⟨[0, 1, 2, 3, 4, 5, 6, 7, 8, 9, 10, 11, 12, 13, 14, 15, 16, 17, 18, 19, 20, 21, 22], 4, 4, none⟩] [1, 9, 16, 21] [_, _, _, _, _] rfl rfl (by decide) (by decide) (by kernel_rfl) (And.intro (Val.of hσ rfl rfl) (And.intro (Eff.lone hσ (B0 := 21000) rfl rfl rfl rfl ((c184 (s := s) h1 h2).plain (u := eB true) (by rw [hs])) (VAs.self rfl) rfl rfl rfl rfl rfl) (And.intro (Val.of hσ rfl rfl) (And.intro (Val.of hσ rfl rfl) (And.intro (Val.of hσ rfl rfl) (And.intro (Val.of hσ rfl rfl) (And.intro (Val.of hσ rfl rfl) (And.intro (Val.of hσ rfl rfl) (And.intro (Val.of hσ rfl rfl) (And.intro (Eff.lone hσ (B0 := 29000) rfl rfl rfl rfl ((c96 (s := oneSq s t) (p := p) h1 h2).plain (u := eB true) (by rw [hk1])) (VAs.self rfl) rfl rfl rfl rfl rfl) (And.intro (Val.of hσ rfl rfl) (And.intro (Val.pickN hσ rfl rfl rfl rfl rfl) (And.intro (Val.of hσ rfl rfl) (And.intro (Val.of hσ rfl rfl) (And.intro (Val.of hσ rfl rfl) (And.intro (Val.of hσ rfl rfl) (And.intro (Eff.plainD hσ (B0 := 36000) rfl rfl rfl rfl (c189a (ts := s.facts) (t := t) h1 h2 (by have := (seqB_spec hs).2.1; omega)) (VAs.self rfl) rfl rfl rfl rfl rfl) (And.intro (And.intro (Val.of hσ rfl rfl) (Val.of hσ rfl rfl)) (And.intro (And.intro (Val.of hσ rfl rfl) (Val.of hσ rfl rfl)) (And.intro (Val.of hσ rfl rfl) (And.intro (And.intro (Val.of hσ rfl rfl) (Val.of hσ rfl rfl)) (And.intro (Eff.lone hσ (B0 := 41000) rfl rfl rfl rfl ((c96 (s := twoSq s t) (p := q) h1 h2).plain (u := eB true) (by rw [hk2])) (VAs.self rfl) rfl rfl rfl rfl rfl) (And.intro (Val.of hσ rfl rfl) (And.intro (Val.pickN hσ rfl rfl rfl rfl rfl) trivial)))))))))))))))))))))))) ?_
 refine AWP.forget [(42, _), (10, _), (18, _), (9, _), (8, _), (5, _), (4, _), (2, _), (3, _)] ⟨rfl, rfl, rfl, rfl, rfl, rfl, rfl, rfl, rfl, trivial⟩ ?_
 refine jnw ?_
 refine AWP.cond hσ rfl rfl (fun hc42 => ?_) (fun hc42 => ?_)
 ·
  skip
  exact absurd (show false = true from hc42) (by decide)
 ·
  skip
  refine AWP.skip ?_
  refine jsr ?_
  iterate 2 refine jst hσ rfl rfl rfl rfl rfl ?_
  refine jf10 44 43 10 18 9 8 5 4 2 3 rfl rfl rfl rfl rfl rfl rfl rfl rfl rfl ?_
  refine AOps.rows hσ (B0 := 46000) rfl rfl rfl rfl m1 (.cons (.c .d) (.cons (.c (.fn .nil)) (.cons (.c (.fn (.cons (.pb rfl (VMs.self rfl)) .nil))) .nil))) rfl rfl rfl rfl rfl rfl ?_
  refine jnm ?_
  refine jst hσ rfl rfl rfl rfl rfl ?_
  refine jf9 11 10 18 9 8 5 4 2 3 rfl rfl rfl rfl rfl rfl rfl rfl rfl ?_
  refine jns ?_
  iterate 2 refine jst hσ rfl rfl rfl rfl rfl ?_
  refine AOps.rows hσ (B0 := 49000) rfl rfl rfl rfl m2 (.cons (.c .d) (.cons (.c (.fn .nil)) (.cons (.c (.fn (.cons (.pb rfl (VMs.self rfl)) .nil))) .nil))) rfl rfl rfl rfl rfl rfl ?_
  refine jnm ?_
  refine jst hσ rfl rfl rfl rfl rfl ?_
  refine jf10 12 11 10 18 9 8 5 4 2 3 rfl rfl rfl rfl rfl rfl rfl rfl rfl rfl ?_
  refine jns ?_
  refine jst hσ rfl rfl rfl rfl rfl ?_
  refine AOps.rows hσ (B0 := 51000) rfl rfl rfl rfl (c148o (t := t) h1 h2) (VAs.self rfl) rfl rfl rfl rfl rfl rfl ?_
  refine jnm ?_
  refine jst hσ rfl rfl rfl rfl rfl ?_
  refine jf11 51 12 11 10 18 9 8 5 4 2 3 rfl rfl rfl rfl rfl rfl rfl rfl rfl rfl rfl ?_
  refine AOps.heap (HS.litAbs (ds := [.int .i64 2, .int .i64 0, .int .i64 t.c, ints t.xs, .nils]) hσ rfl rfl rfl rfl rfl rfl rfl rfl rfl rfl (.d rfl (.d rfl (.d rfl (.rs rfl (List.length_map _).symm (.d rfl .nil))))) rfl rfl rfl) rfl ?_
  refine jnm ?_
  refine AOps.to (Ent.rowLe 52 rfl (NLess.cons (ys := []) (y := Nd.cells (joinNd t)) (.cons .refl (.cons .refl (.cons .refl (.cons .refl (.cons (.nil (sz := 1)) .nil))))) .nil)) ?_
  refine jnm ?_
  refine jnm ?_
  refine jst hσ rfl rfl rfl rfl rfl ?_
  refine jf11 53 52 12 10 18 9 8 5 4 2 3 rfl rfl rfl rfl rfl rfl rfl rfl rfl rfl rfl ?_
  refine AOps.heap (HS.appMove (zs := (joinNd t :: swapNds s.facts.length q).map Nd.cells) (n := (joinNd t :: swapNds s.facts.length q).length) hσ rfl rfl rfl rfl rfl rfl rfl rfl rfl rfl rfl rfl rfl rfl rfl rfl (.row rfl (by simp)) rfl (by simp [swapNds]) (by decide) rfl (by simp [swapNds]; omega) (by simp [swapNds]; omega) rfl (by simp)) rfl ?_
  refine jnm ?_
  refine jnm ?_
  refine jst hσ rfl rfl rfl rfl rfl ?_
  refine jf10 55 54 10 18 9 8 5 4 2 3 rfl rfl rfl rfl rfl rfl rfl rfl rfl rfl ?_
  refine AOps.heap (HS.appMove (zs := (joinNds s.facts.length t p q).map Nd.cells) (n := (joinNds s.facts.length t p q).length) hσ rfl rfl rfl rfl rfl rfl rfl rfl rfl rfl rfl rfl rfl rfl rfl rfl (.row rfl (by simp)) rfl (by simp [liftNds]) (by decide) rfl (by simp [swapNds, liftNds]; omega) (by simp [swapNds, liftNds]; omega) (by rw [← List.map_append]; rfl) (by simp)) rfl ?_
  refine jnm ?_
  refine jnm ?_
  refine jst hσ rfl rfl rfl rfl rfl ?_
  refine jf9 13 10 18 9 8 5 4 2 3 rfl rfl rfl rfl rfl rfl rfl rfl rfl ?_
  refine jns ?_
  iterate 2 refine jst hσ rfl rfl rfl rfl rfl ?_
  refine AOps.inn hσ [56] (bin := [ndrow (joinNds s.facts.length t p q)]) rfl rfl rfl rfl (c1026w (s := s) (p := (joinNds s.facts.length t p q)) h1 h2 hv) rfl rfl rfl rfl rfl rfl (B0 := 61000) rfl rfl ?_
  refine jnm ?_
  iterate 4 refine jst hσ rfl rfl rfl rfl rfl ?_
  refine jf12 63 62 61 13 10 18 9 8 5 4 2 3 rfl rfl rfl rfl rfl rfl rfl rfl rfl rfl rfl rfl ?_
  refine AOps.heap (HS.alloc hσ rfl rfl rfl rfl rfl) rfl ?_
  refine jnm ?_
  refine AOps.heap (HS.storeBox hσ rfl rfl rfl rfl rfl rfl rfl rfl rfl rfl rfl) rfl ?_
  refine jnm ?_
  iterate 2 refine jst hσ rfl rfl rfl rfl rfl ?_
  refine jf10 15 13 10 18 9 8 5 4 2 3 rfl rfl rfl rfl rfl rfl rfl rfl rfl rfl ?_
  refine jns ?_
  iterate 4 refine jst hσ rfl rfl rfl rfl rfl ?_
  refine jf9 9 8 13 10 18 5 4 2 3 rfl rfl rfl rfl rfl rfl rfl rfl rfl ?_
  refine jn ?_
  refine AWP.ret ?_
  refine ⟨.inl rfl, _, Ent.refl, _, rfl, [56], by decide, rfl, rfl, rfl⟩
theorem c1013m {L : Nat} (h1 : 4096 ≤ L) (h2 : L ≤ 1073741824) {s : Sq} {t : Tm} {p q : List Nd} (hs : seqB s = true) (hk1 : chkS (oneSq s t) p = true) (hk2 : chkS (twoSq s t) q = true) (hv : chkS s (joinNds s.facts.length t p q) = false) : MC Try.prog L 30 [aSq s, aTm' t, ands p, ands q] [] (Rows (.tup [.c (.d .nils), eB false]) []) := by
 refine MC.rows ?_
 have hσ := SGok (nt := 66) h1 (Nat.le_trans h2 (by decide))
 refine MC.body hσ Try.func30 (by kernel_rfl) rfl rfl (Nat.le_of_ble_eq_true rfl) (fun hF => ?_)
 have hs13 := (seqB_spec hs).2.1
 have hp := acc_nodes hk1
 have hq := nds_two hk2
 have hpl := acc_len hk1
 have hql := acc_len hk2
 have m1 : MC Try.prog L 54 [ands q, .c (.fn 72 []), .c (.fn 73 [.d (.ptr [.int .i64 s.facts.length] 0)])] [] (Rows (.c (.rs 0 0 q.length)) [ndrow (swapNds s.facts.length q)]) := by
  rw [← swap_map hq]
  exact c1021b (f1 := 72) (f2 := 73) h1 h2 (swap_ok hq) (fun k hk => c1029 h1 h2 hk) (fun k hk => c1030 h1 h2 (by omega) hk)
 have m2 : MC Try.prog L 54 [ands p, .c (.fn 74 []), .c (.fn 75 [.d (.ptr [.int .i64 s.facts.length] 0)])] [] (Rows (.c (.rs 0 0 p.length)) [ndrow (liftNds s.facts.length 1 p)]) := by
  rw [← lift_map hp]
  exact c1021b (f1 := 74) (f2 := 75) h1 h2 (lift_ok (by decide) hp) (fun k hk => c1031 h1 h2 hk) (fun k hk => c1032 h1 h2 hk)
 refine jsr ?_
 refine AOps.heap (HS.box hσ rfl rfl rfl rfl rfl rfl rfl) rfl ?_
 refine jnm ?_
 refine AOps.to (Ent.freeze 4 (e' := [(4, _), (1, _), (2, _), (3, _)]) rfl (.cons rfl (.c (.box (cs := Sq.cells s) rfl (VMs.self rfl))) (.cons rfl (.keep rfl) (.cons rfl (.keep rfl) (.cons rfl (.keep rfl) .nil)))) (.skip .nil)) ?_
 refine jnm ?_
 refine AOps.heap (HS.box hσ rfl rfl rfl rfl rfl rfl rfl) rfl ?_
 refine jnm ?_
 refine AOps.to (Ent.freeze 5 (e' := [(5, _), (4, _), (2, _), (3, _)]) rfl (.cons rfl (.c (.box (cs := Tm.cells t) rfl (VMs.self rfl))) (.cons rfl (.keep rfl) (.cons rfl (.keep rfl) (.cons rfl (.keep rfl) .nil)))) (.skip .nil)) ?_
 refine jnm ?_
 iterate 2 refine jst hσ rfl rfl rfl rfl rfl ?_
 refine jns ?_
 iterate 2 refine jst hσ rfl rfl rfl rfl rfl ?_
 first | refine jle hσ rfl rfl rfl rfl rfl rfl rfl rfl rfl rfl rfl ?_ | refine jst hσ rfl rfl rfl rfl rfl ?_ | refine jvf hσ rfl rfl rfl rfl rfl ?_
 refine jf7 18 9 8 5 4 2 3 rfl rfl rfl rfl rfl rfl rfl ?_
 refine AOps.heap (HS.alloc hσ rfl rfl rfl rfl rfl) rfl ?_
 refine jnm ?_
 refine AOps.heap (HS.storeBox hσ rfl rfl rfl rfl rfl rfl rfl rfl rfl rfl rfl) rfl ?_
 refine jnm ?_
 refine jn ?_
 refine AWP.seq ?_
 refine AWP.seq ?_
 refine AWP.drawG hσ _ [_, _, _, _, _, _, _, _, _, _, _, _, _, _, _, _, _, _, _, _, _, _, _, _] [⟨[], 0, 0, none⟩, ⟨[0], 0, 0, some 0⟩, ⟨[0, 1], 1, 1, none⟩, ⟨[0, 1, 2], 1, 1, none⟩, ⟨[0, 1, 2, 3], 1, 1, none⟩, ⟨[0, 1, 2, 3, 4], 1, 1, none⟩, ⟨[0, 1, 2, 3], 1, 1, none⟩, ⟨[0, 1, 2, 3, 4, 5, 6], 1, 1, none⟩, ⟨[0, 1, 2, 3], 1, 1, none⟩, ⟨[0, 1, 2, 3, 4, 5, 6, 7, 8], 0, 0, some 1⟩, ⟨[0, 1, 2, 3, 4, 5, 6, 7, 8, 9], 2, 2, none⟩, ⟨[0, 1, 2, 3, 4, 5, 6, 7, 8, 9, 10], 2, 2, none⟩, ⟨[0, 1, 2, 3, 4, 5, 6, 7, 8, 9, 10, 11], 2, 2, none⟩, ⟨[0, 1, 2, 3, 4, 5, 6, 7, 8, 9, 10, 11, 12], 2, 2, none⟩, ⟨[0, 1, 2, 3, 4, 5, 6, 7, 8, 9, 10, 11, 12, 13], 2, 2, none⟩, ⟨[0, 1, 2, 3, 4, 5, 6, 7, 8, 9, 10, 11, 12], 2, 2, none⟩, ⟨[0, 1, 2, 3, 4, 5, 6, 7, 8, 9, 10, 11, 12, 13, 14, 15], 0, 0, some 2⟩, ⟨[0, 1, 2, 3, 4, 5, 6, 7, 8, 9, 10, 11, 12], 2, 3, none⟩, ⟨[0, 1, 2, 3, 4, 5, 6, 7, 8, 9, 10, 11, 12, 17], 2, 3, none⟩, ⟨[0, 1, 2, 3, 4, 5, 6, 7, 8, 9, 10, 11, 12, 13, 14, 15, 16, 17, 18], 3, 3, none⟩, ⟨[0, 1, 2, 3, 4, 5, 6, 7, 8, 9, 10, 11, 12], 2, 3, none⟩, ⟨[0, 1, 2, 3, 4, 5, 6, 7, 8, 9, 10, 11, 12, 13, 14, 15, 16, 17, 18, 19, 20], 0, 0, some 3⟩, ⟨[0, 1, 2, 3, 4, 5, 6, 7, 8, 9, 10, 11, 12, 13, 14, 15, 16, 17, 18, 19, 20, 21], 4, 4, none⟩, ⟨[0, 1, 2, 3, 4, 5, 6, 7, 8, 9, 10, 11, 12, 13, 14, 15, 16, 17, 18, 19, 20, 21, 22], 4, 4, none⟩] [1, 9, 16, 21] [_, _, _, _, _] rfl rfl (by decide) (by decide) (by kernel_rfl) (And.intro (Val.of hσ rfl rfl) (And.intro (Eff.lone hσ (B0 := 21000) rfl rfl rfl rfl ((c184 (s := s) h1 h2).plain (u := eB true) (by rw [hs])) (VAs.self rfl) rfl rfl rfl rfl rfl) (And.intro (Val.of hσ rfl rfl) (And.intro (Val.of hσ rfl rfl) (And.intro (Val.of hσ rfl rfl) (And.intro (Val.of hσ rfl rfl) (And.intro (Val.of hσ rfl rfl) (And.intro (Val.of hσ rfl rfl) (And.intro (Val.of hσ rfl rfl) (And.intro (Eff.lone hσ (B0 := 29000) rfl rfl rfl rfl ((c96 (s := oneSq s t) (p := p) h1 h2).plain (u := eB true) (by rw [hk1])) (VAs.self rfl) rfl rfl rfl rfl rfl) (And.intro (Val.of hσ rfl rfl) (And.intro (Val.pickN hσ rfl rfl rfl rfl rfl) (And.intro (Val.of hσ rfl rfl) (And.intro (Val.of hσ rfl rfl) (And.intro (Val.of hσ rfl rfl) (And.intro (Val.of hσ rfl rfl) (And.intro (Eff.plainD hσ (B0 := 36000) rfl rfl rfl rfl (c189a (ts := s.facts) (t := t) h1 h2 (by have := (seqB_spec hs).2.1; omega)) (VAs.self rfl) rfl rfl rfl rfl rfl) (And.intro (And.intro (Val.of hσ rfl rfl) (Val.of hσ rfl rfl)) (And.intro (And.intro (Val.of hσ rfl rfl) (Val.of hσ rfl rfl)) (And.intro (Val.of hσ rfl rfl) (And.intro (And.intro (Val.of hσ rfl rfl) (Val.of hσ rfl rfl)) (And.intro (Eff.lone hσ (B0 := 41000) rfl rfl rfl rfl ((c96 (s := twoSq s t) (p := q) h1 h2).plain (u := eB true) (by rw [hk2])) (VAs.self rfl) rfl rfl rfl rfl rfl) (And.intro (Val.of hσ rfl rfl) (And.intro (Val.pickN hσ rfl rfl rfl rfl rfl) trivial)))))))))))))))))))))))) ?_
 refine AWP.forget [(42, _), (10, _), (18, _), (9, _), (8, _), (5, _), (4, _), (2, _), (3, _)] ⟨rfl, rfl, rfl, rfl, rfl, rfl, rfl, rfl, rfl, trivial⟩ ?_
 refine jnw ?_
 refine AWP.cond hσ rfl rfl (fun hc42 => ?_) (fun hc42 => ?_)
 ·
  skip
  exact absurd (show false = true from hc42) (by decide)
 ·
  skip
  refine AWP.skip ?_
  refine jsr ?_
  iterate 2 refine jst hσ rfl rfl rfl rfl rfl ?_
  refine jf10 44 43 10 18 9 8 5 4 2 3 rfl rfl rfl rfl rfl rfl rfl rfl rfl rfl ?_
  refine AOps.rows hσ (B0 := 46000) rfl rfl rfl rfl m1 (.cons (.c .d) (.cons (.c (.fn .nil)) (.cons (.c (.fn (.cons (.pb rfl (VMs.self rfl)) .nil))) .nil))) rfl rfl rfl rfl rfl rfl ?_
  refine jnm ?_
  refine jst hσ rfl rfl rfl rfl rfl ?_
  refine jf9 11 10 18 9 8 5 4 2 3 rfl rfl rfl rfl rfl rfl rfl rfl rfl ?_
  refine jns ?_
  iterate 2 refine jst hσ rfl rfl rfl rfl rfl ?_
  refine AOps.rows hσ (B0 := 49000) rfl rfl rfl rfl m2 (.cons (.c .d) (.cons (.c (.fn .nil)) (.cons (.c (.fn (.cons (.pb rfl (VMs.self rfl)) .nil))) .nil))) rfl rfl rfl rfl rfl rfl ?_
  refine jnm ?_
  refine jst hσ rfl rfl rfl rfl rfl ?_
  refine jf10 12 11 10 18 9 8 5 4 2 3 rfl rfl rfl rfl rfl rfl rfl rfl rfl rfl ?_
  refine jns ?_
  refine jst hσ rfl rfl rfl rfl rfl ?_
  refine AOps.rows hσ (B0 := 51000) rfl rfl rfl rfl (c148o (t := t) h1 h2) (VAs.self rfl) rfl rfl rfl rfl rfl rfl ?_
  refine jnm ?_
  refine jst hσ rfl rfl rfl rfl rfl ?_
  refine jf11 51 12 11 10 18 9 8 5 4 2 3 rfl rfl rfl rfl rfl rfl rfl rfl rfl rfl rfl ?_
  refine AOps.heap (HS.litAbs (ds := [.int .i64 2, .int .i64 0, .int .i64 t.c, ints t.xs, .nils]) hσ rfl rfl rfl rfl rfl rfl rfl rfl rfl rfl (.d rfl (.d rfl (.d rfl (.rs rfl (List.length_map _).symm (.d rfl .nil))))) rfl rfl rfl) rfl ?_
  refine jnm ?_
  refine AOps.to (Ent.rowLe 52 rfl (NLess.cons (ys := []) (y := Nd.cells (joinNd t)) (.cons .refl (.cons .refl (.cons .refl (.cons .refl (.cons (.nil (sz := 1)) .nil))))) .nil)) ?_
  refine jnm ?_
  refine jnm ?_
  refine jst hσ rfl rfl rfl rfl rfl ?_
  refine jf11 53 52 12 10 18 9 8 5 4 2 3 rfl rfl rfl rfl rfl rfl rfl rfl rfl rfl rfl ?_
  refine AOps.heap (HS.appMove (zs := (joinNd t :: swapNds s.facts.length q).map Nd.cells) (n := (joinNd t :: swapNds s.facts.length q).length) hσ rfl rfl rfl rfl rfl rfl rfl rfl rfl rfl rfl rfl rfl rfl rfl rfl (.row rfl (by simp)) rfl (by simp [swapNds]) (by decide) rfl (by simp [swapNds]; omega) (by simp [swapNds]; omega) rfl (by simp)) rfl ?_
  refine jnm ?_
  refine jnm ?_
  refine jst hσ rfl rfl rfl rfl rfl ?_
  refine jf10 55 54 10 18 9 8 5 4 2 3 rfl rfl rfl rfl rfl rfl rfl rfl rfl rfl ?_
  refine AOps.heap (HS.appMove (zs := (joinNds s.facts.length t p q).map Nd.cells) (n := (joinNds s.facts.length t p q).length) hσ rfl rfl rfl rfl rfl rfl rfl rfl rfl rfl rfl rfl rfl rfl rfl rfl (.row rfl (by simp)) rfl (by simp [liftNds]) (by decide) rfl (by simp [swapNds, liftNds]; omega) (by simp [swapNds, liftNds]; omega) (by rw [← List.map_append]; rfl) (by simp)) rfl ?_
  refine jnm ?_
  refine jnm ?_
  refine jst hσ rfl rfl rfl rfl rfl ?_
  refine jf9 13 10 18 9 8 5 4 2 3 rfl rfl rfl rfl rfl rfl rfl rfl rfl ?_
  refine jns ?_
  iterate 2 refine jst hσ rfl rfl rfl rfl rfl ?_
  refine AOps.rows hσ (B0 := 61000) rfl rfl rfl rfl (c1026n (s := s) (p := (joinNds s.facts.length t p q)) h1 h2 hv) (.cons (.agg (.cons .d (.cons .d (.cons .d .nil)))) (.cons (.c (.whole rfl (List.length_map _).symm)) .nil)) rfl rfl rfl rfl rfl rfl ?_
  refine jnm ?_
  iterate 4 refine jst hσ rfl rfl rfl rfl rfl ?_
  refine jf12 63 62 61 13 10 18 9 8 5 4 2 3 rfl rfl rfl rfl rfl rfl rfl rfl rfl rfl rfl rfl ?_
  refine AOps.heap (HS.alloc hσ rfl rfl rfl rfl rfl) rfl ?_
  refine jnm ?_
  refine AOps.heap (HS.storeBox hσ rfl rfl rfl rfl rfl rfl rfl rfl rfl rfl rfl) rfl ?_
  refine jnm ?_
  iterate 2 refine jst hσ rfl rfl rfl rfl rfl ?_
  refine jf10 15 13 10 18 9 8 5 4 2 3 rfl rfl rfl rfl rfl rfl rfl rfl rfl rfl ?_
  refine jns ?_
  iterate 4 refine jst hσ rfl rfl rfl rfl rfl ?_
  refine jf9 9 8 13 10 18 5 4 2 3 rfl rfl rfl rfl rfl rfl rfl rfl rfl ?_
  refine jn ?_
  refine AWP.ret ?_
  refine ⟨.inl rfl, _, Ent.refl, _, rfl, [], by decide, rfl, rfl, rfl⟩
theorem c1013n1 {L : Nat} (h1 : 4096 ≤ L) (h2 : L ≤ 1073741824) {s : Sq} {t : Tm} {p q : List Nd} (hs : seqB s = false) : MC Try.prog L 30 [aSq s, aTm' t, ands p, ands q] [] (Rows (.tup [.c (.d .nils), eB false]) []) := by
 refine MC.rows ?_
 have hσ := SGok (nt := 66) h1 (Nat.le_trans h2 (by decide))
 refine MC.body hσ Try.func30 (by kernel_rfl) rfl rfl (Nat.le_of_ble_eq_true rfl) (fun hF => ?_)
 refine jsr ?_
 refine AOps.heap (HS.box hσ rfl rfl rfl rfl rfl rfl rfl) rfl ?_
 refine jnm ?_
 refine AOps.to (Ent.freeze 4 (e' := [(4, _), (1, _), (2, _), (3, _)]) rfl (.cons rfl (.c (.box (cs := Sq.cells s) rfl (VMs.self rfl))) (.cons rfl (.keep rfl) (.cons rfl (.keep rfl) (.cons rfl (.keep rfl) .nil)))) (.skip .nil)) ?_
 refine jnm ?_
 refine AOps.heap (HS.box hσ rfl rfl rfl rfl rfl rfl rfl) rfl ?_
 refine jnm ?_
 refine AOps.to (Ent.freeze 5 (e' := [(5, _), (4, _), (2, _), (3, _)]) rfl (.cons rfl (.c (.box (cs := Tm.cells t) rfl (VMs.self rfl))) (.cons rfl (.keep rfl) (.cons rfl (.keep rfl) (.cons rfl (.keep rfl) .nil)))) (.skip .nil)) ?_
 refine jnm ?_
 iterate 2 refine jst hσ rfl rfl rfl rfl rfl ?_
 refine jns ?_
 iterate 2 refine jst hσ rfl rfl rfl rfl rfl ?_
 first | refine jle hσ rfl rfl rfl rfl rfl rfl rfl rfl rfl rfl rfl ?_ | refine jst hσ rfl rfl rfl rfl rfl ?_ | refine jvf hσ rfl rfl rfl rfl rfl ?_
 refine jf7 18 9 8 5 4 2 3 rfl rfl rfl rfl rfl rfl rfl ?_
 refine AOps.heap (HS.alloc hσ rfl rfl rfl rfl rfl) rfl ?_
 refine jnm ?_
 refine AOps.heap (HS.storeBox hσ rfl rfl rfl rfl rfl rfl rfl rfl rfl rfl rfl) rfl ?_
 refine jnm ?_
 refine jn ?_
 refine AWP.seq ?_
 refine AWP.seq ?_
 refine AWP.drawG hσ _ [_, _, _, _, _, _, _, _, _, _, _, _, _, _, _, _, _, _, _, _, _, _, _, _] [⟨[], 0, 0, none⟩, ⟨[0], 0, 0, some 0⟩, ⟨[0, 1], 1, 1, none⟩, ⟨[0, 1, 2], 1, 1, none⟩, ⟨[0, 1, 2, 3], 0, 1, none⟩, ⟨[0, 1, 2, 3, 4], 0, 1, none⟩, ⟨[0, 1, 2, 3], 0, 1, none⟩, ⟨[0, 1, 2, 3, 4, 5, 6], 0, 1, none⟩, ⟨[0, 1, 2, 3], 0, 1, none⟩, ⟨[0, 1, 2, 3, 4, 5, 6, 7, 8], 0, 1, none⟩, ⟨[0, 1, 2, 3, 4, 5, 6, 7, 8, 9], 0, 1, none⟩, ⟨[0, 1, 2, 3, 4, 5, 6, 7, 8, 9, 10], 1, 1, none⟩, ⟨[0, 1, 2, 3, 4, 5, 6, 7, 8, 9, 10, 11], 1, 1, none⟩, ⟨[0, 1, 2, 3, 4, 5, 6, 7, 8, 9, 10, 11, 12], 0, 1, none⟩, ⟨[0, 1, 2, 3, 4, 5, 6, 7, 8, 9, 10, 11, 12, 13], 0, 1, none⟩, ⟨[0, 1, 2, 3, 4, 5, 6, 7, 8, 9, 10, 11, 12], 0, 1, none⟩, ⟨[0, 1, 2, 3, 4, 5, 6, 7, 8, 9, 10, 11, 12, 13, 14, 15], 0, 1, none⟩, ⟨[0, 1, 2, 3, 4, 5, 6, 7, 8, 9, 10, 11, 12], 0, 1, none⟩, ⟨[0, 1, 2, 3, 4, 5, 6, 7, 8, 9, 10, 11, 12, 17], 0, 1, none⟩, ⟨[0, 1, 2, 3, 4, 5, 6, 7, 8, 9, 10, 11, 12, 13, 14, 15, 16, 17, 18], 0, 1, none⟩, ⟨[0, 1, 2, 3, 4, 5, 6, 7, 8, 9, 10, 11, 12], 0, 1, none⟩, ⟨[0, 1, 2, 3, 4, 5, 6, 7, 8, 9, 10, 11, 12, 13, 14, 15, 16, 17, 18, 19, 20], 0, 1, none⟩, ⟨[0, 1, 2, 3, 4, 5, 6, 7, 8, 9, 10, 11, 12, 13, 14, 15, 16, 17, 18, 19, 20, 21], 0, 1, none⟩, ⟨[0, 1, 2, 3, 4, 5, 6, 7, 8, 9, 10, 11, 12, 13, 14, 15, 16, 17, 18, 19, 20, 21, 22], 1, 1, none⟩] [1] [_, _] rfl rfl (by decide) (by decide) (by kernel_rfl) (And.intro (Val.of hσ rfl rfl) (And.intro (Eff.lone hσ (B0 := 21000) rfl rfl rfl rfl ((c184 (s := s) h1 h2).plain (u := eB false) (by rw [hs])) (VAs.self rfl) rfl rfl rfl rfl rfl) (And.intro (Val.of hσ rfl rfl) (And.intro (Val.of hσ rfl rfl) (And.intro ⟨rfl, rfl⟩ (And.intro ⟨rfl, rfl⟩ (And.intro ⟨rfl, rfl⟩ (And.intro ⟨rfl, rfl⟩ (And.intro ⟨rfl, rfl⟩ (And.intro ⟨rfl, rfl⟩ (And.intro ⟨rfl, rfl⟩ (And.intro (Val.pickY hσ rfl rfl rfl rfl rfl) (And.intro (Val.of hσ rfl rfl) (And.intro ⟨rfl, rfl⟩ (And.intro ⟨rfl, rfl⟩ (And.intro ⟨rfl, rfl⟩ (And.intro ⟨rfl, rfl⟩ (And.intro ⟨rfl, rfl⟩ (And.intro ⟨rfl, rfl⟩ (And.intro ⟨rfl, rfl⟩ (And.intro ⟨rfl, rfl⟩ (And.intro ⟨rfl, rfl⟩ (And.intro ⟨rfl, rfl⟩ (And.intro (Val.pickY hσ rfl rfl rfl rfl rfl) trivial)))))))))))))))))))))))) ?_
 refine AWP.forget [(42, _), (10, _), (18, _), (9, _), (8, _), (5, _), (4, _), (2, _), (3, _)] ⟨rfl, rfl, rfl, rfl, rfl, rfl, rfl, rfl, rfl, trivial⟩ ?_
 refine jnw ?_
 refine AWP.cond hσ rfl rfl (fun hc42 => ?_) (fun hc42 => ?_)
 ·
  skip
  refine jsr ?_
  iterate 2 refine jst hσ rfl rfl rfl rfl rfl ?_
  refine jn ?_
  refine AWP.ret ?_
  refine ⟨.inl rfl, _, Ent.refl, _, rfl, [], by decide, rfl, rfl, rfl⟩
 ·
  skip
  exact absurd (show true = false from hc42) (by decide)
theorem c1013n2 {L : Nat} (h1 : 4096 ≤ L) (h2 : L ≤ 1073741824) {s : Sq} {t : Tm} {p q : List Nd} (hs : seqB s = true) (hk1 : chkS (oneSq s t) p = false) : MC Try.prog L 30 [aSq s, aTm' t, ands p, ands q] [] (Rows (.tup [.c (.d .nils), eB false]) []) := by
 refine MC.rows ?_
 have hσ := SGok (nt := 66) h1 (Nat.le_trans h2 (by decide))
 refine MC.body hσ Try.func30 (by kernel_rfl) rfl rfl (Nat.le_of_ble_eq_true rfl) (fun hF => ?_)
 have hs13 := (seqB_spec hs).2.1
 refine jsr ?_
 refine AOps.heap (HS.box hσ rfl rfl rfl rfl rfl rfl rfl) rfl ?_
 refine jnm ?_
 refine AOps.to (Ent.freeze 4 (e' := [(4, _), (1, _), (2, _), (3, _)]) rfl (.cons rfl (.c (.box (cs := Sq.cells s) rfl (VMs.self rfl))) (.cons rfl (.keep rfl) (.cons rfl (.keep rfl) (.cons rfl (.keep rfl) .nil)))) (.skip .nil)) ?_
 refine jnm ?_
 refine AOps.heap (HS.box hσ rfl rfl rfl rfl rfl rfl rfl) rfl ?_
 refine jnm ?_
 refine AOps.to (Ent.freeze 5 (e' := [(5, _), (4, _), (2, _), (3, _)]) rfl (.cons rfl (.c (.box (cs := Tm.cells t) rfl (VMs.self rfl))) (.cons rfl (.keep rfl) (.cons rfl (.keep rfl) (.cons rfl (.keep rfl) .nil)))) (.skip .nil)) ?_
 refine jnm ?_
 iterate 2 refine jst hσ rfl rfl rfl rfl rfl ?_
 refine jns ?_
 iterate 2 refine jst hσ rfl rfl rfl rfl rfl ?_
 first | refine jle hσ rfl rfl rfl rfl rfl rfl rfl rfl rfl rfl rfl ?_ | refine jst hσ rfl rfl rfl rfl rfl ?_ | refine jvf hσ rfl rfl rfl rfl rfl ?_
 refine jf7 18 9 8 5 4 2 3 rfl rfl rfl rfl rfl rfl rfl ?_
 refine AOps.heap (HS.alloc hσ rfl rfl rfl rfl rfl) rfl ?_
 refine jnm ?_
 refine AOps.heap (HS.storeBox hσ rfl rfl rfl rfl rfl rfl rfl rfl rfl rfl rfl) rfl ?_
 refine jnm ?_
 refine jn ?_
 refine AWP.seq ?_
 refine AWP.seq ?_
 refine AWP.drawG hσ _ [_, _, _, _, _, _, _, _, _, _, _, _, _, _, _, _, _, _, _, _, _, _, _, _] [⟨[], 0, 0, none⟩, ⟨[0], 0, 0, some 0⟩, ⟨[0, 1], 1, 1, none⟩, ⟨[0, 1, 2], 1, 1, none⟩, ⟨[0, 1, 2, 3], 1, 1, none⟩, ⟨[0, 1, 2, 3, 4], 1, 1, none⟩, ⟨[0, 1, 2, 3], 1, 1, none⟩, ⟨[0, 1, 2, 3, 4, 5, 6], 1, 1, none⟩, ⟨[0, 1, 2, 3], 1, 1, none⟩, ⟨[0, 1, 2, 3, 4, 5, 6, 7, 8], 0, 0, some 1⟩, ⟨[0, 1, 2, 3, 4, 5, 6, 7, 8, 9], 2, 2, none⟩, ⟨[0, 1, 2, 3, 4, 5, 6, 7, 8, 9, 10], 2, 2, none⟩, ⟨[0, 1, 2, 3, 4, 5, 6, 7, 8, 9, 10, 11], 2, 2, none⟩, ⟨[0, 1, 2, 3, 4, 5, 6, 7, 8, 9, 10, 11, 12], 0, 2, none⟩, ⟨[0, 1, 2, 3, 4, 5, 6, 7, 8, 9, 10, 11, 12, 13], 0, 2, none⟩, ⟨[0, 1, 2, 3, 4, 5, 6, 7, 8, 9, 10, 11, 12], 0, 2, none⟩, ⟨[0, 1, 2, 3, 4, 5, 6, 7, 8, 9, 10, 11, 12, 13, 14, 15], 0, 2, none⟩, ⟨[0, 1, 2, 3, 4, 5, 6, 7, 8, 9, 10, 11, 12], 0, 2, none⟩, ⟨[0, 1, 2, 3, 4, 5, 6, 7, 8, 9, 10, 11, 12, 17], 0, 2, none⟩, ⟨[0, 1, 2, 3, 4, 5, 6, 7, 8, 9, 10, 11, 12, 13, 14, 15, 16, 17, 18], 0, 2, none⟩, ⟨[0, 1, 2, 3, 4, 5, 6, 7, 8, 9, 10, 11, 12], 0, 2, none⟩, ⟨[0, 1, 2, 3, 4, 5, 6, 7, 8, 9, 10, 11, 12, 13, 14, 15, 16, 17, 18, 19, 20], 0, 2, none⟩, ⟨[0, 1, 2, 3, 4, 5, 6, 7, 8, 9, 10, 11, 12, 13, 14, 15, 16, 17, 18, 19, 20, 21], 0, 2, none⟩, ⟨[0, 1, 2, 3, 4, 5, 6, 7, 8, 9, 10, 11, 12, 13, 14, 15, 16, 17, 18, 19, 20, 21, 22], 2, 2, none⟩] [1, 9] [_, _, _] rfl rfl (by decide) (by decide) (by kernel_rfl) (And.intro (Val.of hσ rfl rfl) (And.intro (Eff.lone hσ (B0 := 21000) rfl rfl rfl rfl ((c184 (s := s) h1 h2).plain (u := eB true) (by rw [hs])) (VAs.self rfl) rfl rfl rfl rfl rfl) (And.intro (Val.of hσ rfl rfl) (And.intro (Val.of hσ rfl rfl) (And.intro (Val.of hσ rfl rfl) (And.intro (Val.of hσ rfl rfl) (And.intro (Val.of hσ rfl rfl) (And.intro (Val.of hσ rfl rfl) (And.intro (Val.of hσ rfl rfl) (And.intro (Eff.lone hσ (B0 := 29000) rfl rfl rfl rfl ((c96 (s := oneSq s t) (p := p) h1 h2).plain (u := eB false) (by rw [hk1])) (VAs.self rfl) rfl rfl rfl rfl rfl) (And.intro (Val.of hσ rfl rfl) (And.intro (Val.pickN hσ rfl rfl rfl rfl rfl) (And.intro (Val.of hσ rfl rfl) (And.intro ⟨rfl, rfl⟩ (And.intro ⟨rfl, rfl⟩ (And.intro ⟨rfl, rfl⟩ (And.intro ⟨rfl, rfl⟩ (And.intro ⟨rfl, rfl⟩ (And.intro ⟨rfl, rfl⟩ (And.intro ⟨rfl, rfl⟩ (And.intro ⟨rfl, rfl⟩ (And.intro ⟨rfl, rfl⟩ (And.intro ⟨rfl, rfl⟩ (And.intro (Val.pickY hσ rfl rfl rfl rfl rfl) trivial)))))))))))))))))))))))) ?_
 refine AWP.forget [(42, _), (10, _), (18, _), (9, _), (8, _), (5, _), (4, _), (2, _), (3, _)] ⟨rfl, rfl, rfl, rfl, rfl, rfl, rfl, rfl, rfl, trivial⟩ ?_
 refine jnw ?_
 refine AWP.cond hσ rfl rfl (fun hc42 => ?_) (fun hc42 => ?_)
 ·
  skip
  refine jsr ?_
  iterate 2 refine jst hσ rfl rfl rfl rfl rfl ?_
  refine jn ?_
  refine AWP.ret ?_
  refine ⟨.inl rfl, _, Ent.refl, _, rfl, [], by decide, rfl, rfl, rfl⟩
 ·
  skip
  exact absurd (show true = false from hc42) (by decide)
theorem c1013n3 {L : Nat} (h1 : 4096 ≤ L) (h2 : L ≤ 1073741824) {s : Sq} {t : Tm} {p q : List Nd} (hs : seqB s = true) (hk1 : chkS (oneSq s t) p = true) (hk2 : chkS (twoSq s t) q = false) : MC Try.prog L 30 [aSq s, aTm' t, ands p, ands q] [] (Rows (.tup [.c (.d .nils), eB false]) []) := by
 refine MC.rows ?_
 have hσ := SGok (nt := 66) h1 (Nat.le_trans h2 (by decide))
 refine MC.body hσ Try.func30 (by kernel_rfl) rfl rfl (Nat.le_of_ble_eq_true rfl) (fun hF => ?_)
 have hs13 := (seqB_spec hs).2.1
 refine jsr ?_
 refine AOps.heap (HS.box hσ rfl rfl rfl rfl rfl rfl rfl) rfl ?_
 refine jnm ?_
 refine AOps.to (Ent.freeze 4 (e' := [(4, _), (1, _), (2, _), (3, _)]) rfl (.cons rfl (.c (.box (cs := Sq.cells s) rfl (VMs.self rfl))) (.cons rfl (.keep rfl) (.cons rfl (.keep rfl) (.cons rfl (.keep rfl) .nil)))) (.skip .nil)) ?_
 refine jnm ?_
 refine AOps.heap (HS.box hσ rfl rfl rfl rfl rfl rfl rfl) rfl ?_
 refine jnm ?_
 refine AOps.to (Ent.freeze 5 (e' := [(5, _), (4, _), (2, _), (3, _)]) rfl (.cons rfl (.c (.box (cs := Tm.cells t) rfl (VMs.self rfl))) (.cons rfl (.keep rfl) (.cons rfl (.keep rfl) (.cons rfl (.keep rfl) .nil)))) (.skip .nil)) ?_
 refine jnm ?_
 iterate 2 refine jst hσ rfl rfl rfl rfl rfl ?_
 refine jns ?_
 iterate 2 refine jst hσ rfl rfl rfl rfl rfl ?_
 first | refine jle hσ rfl rfl rfl rfl rfl rfl rfl rfl rfl rfl rfl ?_ | refine jst hσ rfl rfl rfl rfl rfl ?_ | refine jvf hσ rfl rfl rfl rfl rfl ?_
 refine jf7 18 9 8 5 4 2 3 rfl rfl rfl rfl rfl rfl rfl ?_
 refine AOps.heap (HS.alloc hσ rfl rfl rfl rfl rfl) rfl ?_
 refine jnm ?_
 refine AOps.heap (HS.storeBox hσ rfl rfl rfl rfl rfl rfl rfl rfl rfl rfl rfl) rfl ?_
 refine jnm ?_
 refine jn ?_
 refine AWP.seq ?_
 refine AWP.seq ?_
 refine AWP.drawG hσ _ [_, _, _, _, _, _, _, _, _, _, _, _, _, _, _, _, _, _, _, _, _, _, _, _] [⟨[], 0, 0, none⟩, ⟨[0], 0, 0, some 0⟩, ⟨[0, 1], 1, 1, none⟩, ⟨[0, 1, 2], 1, 1, none⟩, ⟨[0, 1, 2, 3], 1, 1, none⟩, ⟨[0, 1, 2, 3, 4], 1, 1, none⟩, ⟨[0, 1, 2, 3], 1, 1, none⟩, ⟨[0, 1, 2, 3, 4, 5, 6], 1, 1, none⟩, ⟨[0, 1, 2, 3], 1, 1, none⟩, ⟨[0, 1, 2, 3, 4, 5, 6, 7, 8], 0, 0, some 1⟩, ⟨[0, 1, 2, 3, 4, 5, 6, 7, 8, 9], 2, 2, none⟩, ⟨[0, 1, 2, 3, 4, 5, 6, 7, 8, 9, 10], 2, 2, none⟩, ⟨[0, 1, 2, 3, 4, 5, 6, 7, 8, 9, 10, 11], 2, 2, none⟩, ⟨[0, 1, 2, 3, 4, 5, 6, 7, 8, 9, 10, 11, 12], 2, 2, none⟩, ⟨[0, 1, 2, 3, 4, 5, 6, 7, 8, 9, 10, 11, 12, 13], 2, 2, none⟩, ⟨[0, 1, 2, 3, 4, 5, 6, 7, 8, 9, 10, 11, 12], 2, 2, none⟩, ⟨[0, 1, 2, 3, 4, 5, 6, 7, 8, 9, 10, 11, 12, 13, 14, 15], 0, 0, some 2⟩, ⟨[0, 1, 2, 3, 4, 5, 6, 7, 8, 9, 10, 11, 12], 2, 3, none⟩, ⟨[0, 1, 2, 3, 4, 5, 6, 7, 8, 9, 10, 11, 12, 17], 2, 3, none⟩, ⟨[0, 1, 2, 3, 4, 5, 6, 7, 8, 9, 10, 11, 12, 13, 14, 15, 16, 17, 18], 3, 3, none⟩, ⟨[0, 1, 2, 3, 4, 5, 6, 7, 8, 9, 10, 11, 12], 2, 3, none⟩, ⟨[0, 1, 2, 3, 4, 5, 6, 7, 8, 9, 10, 11, 12, 13, 14, 15, 16, 17, 18, 19, 20], 0, 0, some 3⟩, ⟨[0, 1, 2, 3, 4, 5, 6, 7, 8, 9, 10, 11, 12, 13, 14, 15, 16, 17, 18, 19, 20, 21], 4, 4, none⟩, ⟨[0, 1, 2, 3, 4, 5, 6, 7, 8, 9, 10, 11, 12, 13, 14, 15, 16, 17, 18, 19, 20, 21, 22], 4, 4, none⟩] [1, 9, 16, 21] [_, _, _, _, _] rfl rfl (by decide) (by decide) (by kernel_rfl) (And.intro (Val.of hσ rfl rfl) (And.intro (Eff.lone hσ (B0 := 21000) rfl rfl rfl rfl ((c184 (s := s) h1 h2).plain (u := eB true) (by rw [hs])) (VAs.self rfl) rfl rfl rfl rfl rfl) (And.intro (Val.of hσ rfl rfl) (And.intro (Val.of hσ rfl rfl) (And.intro (Val.of hσ rfl rfl) (And.intro (Val.of hσ rfl rfl) (And.intro (Val.of hσ rfl rfl) (And.intro (Val.of hσ rfl rfl) (And.intro (Val.of hσ rfl rfl) (And.intro (Eff.lone hσ (B0 := 29000) rfl rfl rfl rfl ((c96 (s := oneSq s t) (p := p) h1 h2).plain (u := eB true) (by rw [hk1])) (VAs.self rfl) rfl rfl rfl rfl rfl) (And.intro (Val.of hσ rfl rfl) (And.intro (Val.pickN hσ rfl rfl rfl rfl rfl) (And.intro (Val.of hσ rfl rfl) (And.intro (Val.of hσ rfl rfl) (And.intro (Val.of hσ rfl rfl) (And.intro (Val.of hσ rfl rfl) (And.intro (Eff.plainD hσ (B0 := 36000) rfl rfl rfl rfl (c189a (ts := s.facts) (t := t) h1 h2 (by have := (seqB_spec hs).2.1; omega)) (VAs.self rfl) rfl rfl rfl rfl rfl) (And.intro (And.intro (Val.of hσ rfl rfl) (Val.of hσ rfl rfl)) (And.intro (And.intro (Val.of hσ rfl rfl) (Val.of hσ rfl rfl)) (And.intro (Val.of hσ rfl rfl) (And.intro (And.intro (Val.of hσ rfl rfl) (Val.of hσ rfl rfl)) (And.intro (Eff.lone hσ (B0 := 41000) rfl rfl rfl rfl ((c96 (s := twoSq s t) (p := q) h1 h2).plain (u := eB false) (by rw [hk2])) (VAs.self rfl) rfl rfl rfl rfl rfl) (And.intro (Val.of hσ rfl rfl) (And.intro (Val.pickN hσ rfl rfl rfl rfl rfl) trivial)))))))))))))))))))))))) ?_
 refine AWP.forget [(42, _), (10, _), (18, _), (9, _), (8, _), (5, _), (4, _), (2, _), (3, _)] ⟨rfl, rfl, rfl, rfl, rfl, rfl, rfl, rfl, rfl, trivial⟩ ?_
 refine jnw ?_
 refine AWP.cond hσ rfl rfl (fun hc42 => ?_) (fun hc42 => ?_)
 ·
  skip
  refine jsr ?_
  iterate 2 refine jst hσ rfl rfl rfl rfl rfl ?_
  refine jn ?_
  refine AWP.ret ?_
  refine ⟨.inl rfl, _, Ent.refl, _, rfl, [], by decide, rfl, rfl, rfl⟩
 ·
  skip
  exact absurd (show true = false from hc42) (by decide)
end Go.Al
namespace Go.Al
open Go.Proofs
set_option linter.unusedVariables false
set_option linter.unusedSimpArgs false
set_option maxRecDepth 10000
set_option maxHeartbeats 4000000
theorem c87d {L : Nat} (h1 : 4096 ≤ L) (h2 : L ≤ 1073741824) {t : Tm} : MC Try.prog L 29 [aTm t] [] (Plain (aTm t)) := (c87 h1 h2).frozen (.v (.agg (.cons .d (.cons (.whole rfl (List.length_map _).symm) .nil))))
theorem c1002v {L : Nat} (h1 : 4096 ≤ L) (h2 : L ≤ 1073741824) {s : Sq} {t : Tm} {p : List Nd} {q : List Nd} {rp : List Nd} {m0 : Nat} (hm0 : m0 = rp.length) (hcc : 1 + cnt nN rp ≤ (1073741824 : Int)) (cs : MC Try.prog L 28 [aSq s, aTm' t, ands p, ands q] [] (Plain (.tup [ands rp, eB true]))) (ci : MC Try.prog L 30 [aSq s, aTm' t, ands p, ands q] [] (Rows (.tup [.c (.rs 0 0 m0), eB true]) [ndrow rp])) (hz1 : 0 ≤ szr 1048576 s.size) (hz2 : 0 ≤ szr (szr 1048576 s.size) t.size) (hz3 : 0 ≤ szr (szr (szr 1048576 s.size) t.size) (Al.szs Nd.size p)) (hz4 : 0 ≤ szr (szr (szr (szr 1048576 s.size) t.size) (Al.szs Nd.size p)) (Al.szs Nd.size q)) (hcp : 1 + cnt nT s.facts + s.goal.xs.length + t.xs.length + cnt nN p + cnt nN q ≤ (1073741824 : Int)) : MC Try.prog L 5 [aSq s, aTm' t, ands p, ands q] [] (Plain (eB true)) := by
 refine MC.alone ?_ rfl
 have hσ := SGok (nt := 165) h1 (Nat.le_trans h2 (by decide))
 refine MC.body hσ Try.func5 (by kernel_rfl) rfl rfl (Nat.le_of_ble_eq_true rfl) (fun hF => ?_)
 subst hm0
 have hbig : L ≤ 9223372036854775807 := Nat.le_trans h2 (by decide)
 refine jsr ?_
 refine AOps.heap (HS.box hσ rfl rfl rfl rfl rfl rfl rfl) rfl ?_
 refine jnm ?_
 refine jf4 4 1 2 3 rfl rfl rfl rfl ?_
 refine AOps.heap (HS.box hσ rfl rfl rfl rfl rfl rfl rfl) rfl ?_
 refine jnm ?_
 refine jst hσ rfl rfl rfl rfl rfl ?_
 refine jns ?_
 refine jst hσ rfl rfl rfl rfl rfl ?_
 refine jns ?_
 iterate 2 refine jst hσ rfl rfl rfl rfl rfl ?_
 refine AOps.lone hσ rfl rfl rfl rfl (c29 (s := s) (left := 1048576) h1 hbig (by decide) (by decide)) (VAs.self rfl) rfl rfl rfl rfl rfl (B0 := 26000) rfl ?_
 refine jst hσ rfl rfl rfl rfl rfl ?_
 refine jf7 9 8 5 4 1 2 3 rfl rfl rfl rfl rfl rfl rfl ?_
 refine jn ?_
 refine AWP.seq ?_
 refine jsr ?_
 iterate 2 refine jst hσ rfl rfl rfl rfl rfl ?_
 refine jn ?_
 refine AWP.cond hσ rfl rfl (fun hc27 => ?_) (fun hc27 => ?_)
 ·
  skip
  exact absurd (of_decide_eq_true hc27) (by omega)
 ·
  skip
  refine AWP.skip ?_
  refine jsr ?_
  iterate 2 refine jst hσ rfl rfl rfl rfl rfl ?_
  refine jf10 29 28 26 9 8 5 4 1 2 3 rfl rfl rfl rfl rfl rfl rfl rfl rfl rfl ?_
  have hle0 := szr_le (left := 1048576) (by decide) s.size
  refine AOps.lone hσ rfl rfl rfl rfl (c80 (t := t) (left := szr 1048576 s.size) h1 hbig hz1 (by omega)) (VAs.self rfl) rfl rfl rfl rfl rfl (B0 := 31000) rfl ?_
  refine jst hσ rfl rfl rfl rfl rfl ?_
  refine jf8 9 26 8 5 4 1 2 3 rfl rfl rfl rfl rfl rfl rfl rfl ?_
  refine jn ?_
  refine AWP.seq ?_
  refine jsr ?_
  iterate 2 refine jst hσ rfl rfl rfl rfl rfl ?_
  refine jn ?_
  refine AWP.cond hσ rfl rfl (fun hc32 => ?_) (fun hc32 => ?_)
  ·
   skip
   exact absurd (of_decide_eq_true hc32) (by omega)
  ·
   skip
   refine AWP.skip ?_
   refine jsr ?_
   iterate 2 refine jst hσ rfl rfl rfl rfl rfl ?_
   refine jf11 34 33 31 9 26 8 5 4 1 2 3 rfl rfl rfl rfl rfl rfl rfl rfl rfl rfl rfl ?_
   have hle0 := szr_le (left := 1048576) (by decide) s.size
   have hle1 := szr_le (left := szr 1048576 s.size) hz1 t.size
   refine AOps.lone hσ rfl rfl rfl rfl (c30 (ts := p) (left := szr (szr 1048576 s.size) t.size) h1 hbig hz2 (by omega)) (VAs.self rfl) rfl rfl rfl rfl rfl (B0 := 36000) rfl ?_
   refine jst hσ rfl rfl rfl rfl rfl ?_
   refine jf9 9 31 26 8 5 4 1 2 3 rfl rfl rfl rfl rfl rfl rfl rfl rfl ?_
   refine jn ?_
   refine AWP.seq ?_
   refine jsr ?_
   iterate 2 refine jst hσ rfl rfl rfl rfl rfl ?_
   refine jn ?_
   refine AWP.cond hσ rfl rfl (fun hc37 => ?_) (fun hc37 => ?_)
   ·
    skip
    exact absurd (of_decide_eq_true hc37) (by omega)
   ·
    skip
    refine AWP.skip ?_
    refine jsr ?_
    iterate 2 refine jst hσ rfl rfl rfl rfl rfl ?_
    refine jf12 39 38 36 9 31 26 8 5 4 1 2 3 rfl rfl rfl rfl rfl rfl rfl rfl rfl rfl rfl rfl ?_
    have hle0 := szr_le (left := 1048576) (by decide) s.size
    have hle1 := szr_le (left := szr 1048576 s.size) hz1 t.size
    have hle2 := szr_le (left := szr (szr 1048576 s.size) t.size) hz2 (Al.szs Nd.size p)
    refine AOps.lone hσ rfl rfl rfl rfl (c30 (ts := q) (left := szr (szr (szr 1048576 s.size) t.size) (Al.szs Nd.size p)) h1 hbig hz3 (by omega)) (VAs.self rfl) rfl rfl rfl rfl rfl (B0 := 41000) rfl ?_
    refine jst hσ rfl rfl rfl rfl rfl ?_
    refine jf10 9 36 31 26 8 5 4 1 2 3 rfl rfl rfl rfl rfl rfl rfl rfl rfl rfl ?_
    refine jn ?_
    refine AWP.seq ?_
    refine jsr ?_
    iterate 2 refine jst hσ rfl rfl rfl rfl rfl ?_
    refine jn ?_
    refine AWP.cond hσ rfl rfl (fun hc42 => ?_) (fun hc42 => ?_)
    ·
     skip
     exact absurd (of_decide_eq_true hc42) (by omega)
    ·
     skip
     refine AWP.skip ?_
     refine AWP.seq ?_
     refine AWP.forget [(41, _), (9, _), (36, _), (31, _), (26, _), (8, _), (5, _), (4, _), (1, _), (2, _), (3, _)] ⟨rfl, rfl, rfl, rfl, rfl, rfl, rfl, rfl, rfl, rfl, rfl, trivial⟩ ?_
     refine AWP.drawR hσ _ [_, _, _, _, _, _, _, _, _, _, _, _, _, _] [⟨[], 0, 0, none⟩, ⟨[0], 0, 0, some 0⟩, ⟨[], 0, 1, none⟩, ⟨[0, 1, 2], 0, 0, some 1⟩, ⟨[], 0, 2, none⟩, ⟨[0, 1, 2, 3, 4], 0, 0, some 2⟩, ⟨[], 0, 3, none⟩, ⟨[0, 1, 2, 3, 4, 5, 6], 0, 0, some 3⟩, ⟨[0, 1, 2, 3, 4, 5, 6, 7], 0, 0, some 4⟩, ⟨[0, 1, 2, 3, 4, 5, 6, 7, 8], 5, 5, none⟩, ⟨[0, 1, 2, 3, 4, 5, 6, 7, 8, 9], 5, 5, none⟩, ⟨[0, 1, 2, 3, 4, 5, 6, 7, 8, 9], 5, 5, none⟩, ⟨[0, 1, 2, 3, 4, 5, 6, 7, 8, 9, 10], 5, 5, none⟩, ⟨[0, 1, 2, 3, 4, 5, 6, 7, 8, 9, 10, 11, 12], 5, 5, none⟩] [1, 3, 5, 7, 8] [_, _, _, _, _, _] rfl rfl (by decide) (by decide) (by kernel_rfl) (And.intro (Val.of hσ rfl rfl) (And.intro (Eff.plainD hσ (B0 := 46000) rfl rfl rfl rfl (c32d (s := s) h1 h2) (VAs.self rfl) rfl rfl rfl rfl rfl) (And.intro (And.intro (Val.of hσ rfl rfl) (Val.of hσ rfl rfl)) (And.intro (Eff.plainD hσ (B0 := 48000) rfl rfl rfl rfl (c87d (t := t) h1 h2) (VAs.self rfl) rfl rfl rfl rfl rfl) (And.intro (And.intro (Val.of hσ rfl rfl) (And.intro (Val.of hσ rfl rfl) (Val.of hσ rfl rfl))) (And.intro (Eff.plainD hσ (B0 := 50000) rfl rfl rfl rfl (c33d (p := p) h1 h2) (VAs.self rfl) rfl rfl rfl rfl rfl) (And.intro (And.intro (Val.of hσ rfl rfl) (And.intro (Val.of hσ rfl rfl) (And.intro (Val.of hσ rfl rfl) (Val.of hσ rfl rfl)))) (And.intro (Eff.plainD hσ (B0 := 52000) rfl rfl rfl rfl (c33d (p := q) h1 h2) (VAs.self rfl) rfl rfl rfl rfl rfl) (And.intro (Eff.plainD hσ (B0 := 53000) rfl rfl rfl rfl (cs) (VAs.self rfl) rfl rfl rfl rfl rfl) (And.intro (Val.of hσ rfl rfl) (And.intro (Val.of hσ rfl rfl) (And.intro (Val.of hσ rfl rfl) (And.intro (Val.of hσ rfl rfl) (And.intro (Val.of hσ rfl rfl) trivial)))))))))))))) ?_
     refine AWP.forget [(11, _), (10, _), (41, _), (9, _), (36, _), (31, _), (26, _), (8, _), (5, _), (4, _), (1, _), (2, _), (3, _)] ⟨rfl, rfl, rfl, rfl, rfl, rfl, rfl, rfl, rfl, rfl, rfl, rfl, rfl, trivial⟩ ?_
     refine jnw ?_
     refine jsr ?_
     refine jst hσ rfl rfl rfl rfl rfl ?_
     refine AOps.rows hσ (B0 := 57000) rfl rfl rfl rfl (c32 (s := s) h1 h2) (VAs.self rfl) rfl rfl rfl rfl rfl rfl ?_
     refine jnm ?_
     refine jf14 56 11 10 41 9 36 31 26 8 5 4 1 2 3 rfl rfl rfl rfl rfl rfl rfl rfl rfl rfl rfl rfl rfl rfl ?_
     refine AOps.heap (HS.alloc hσ rfl rfl rfl rfl rfl) rfl ?_
     refine jnm ?_
     refine AOps.heap (HS.storeBox hσ rfl rfl rfl rfl rfl rfl rfl rfl rfl rfl rfl) rfl ?_
     refine jnm ?_
     refine jns ?_
     refine jst hσ rfl rfl rfl rfl rfl ?_
     refine AOps.rows hσ (B0 := 59000) rfl rfl rfl rfl (c87 (t := t) h1 h2) (VAs.self rfl) rfl rfl rfl rfl rfl rfl ?_
     refine jnm ?_
     refine AOps.forget [(58, _), (12, _), (56, _), (11, _), (10, _), (41, _), (9, _), (36, _), (31, _), (26, _), (8, _), (5, _), (4, _), (1, _), (2, _), (3, _)] ⟨rfl, rfl, rfl, rfl, rfl, rfl, rfl, rfl, rfl, rfl, rfl, rfl, rfl, rfl, rfl, rfl, trivial⟩ ?_
     refine AOps.heap (HS.alloc hσ rfl rfl rfl rfl rfl) rfl ?_
     refine jnm ?_
     refine AOps.heap (HS.storeBox hσ rfl rfl rfl rfl rfl rfl rfl rfl rfl rfl rfl) rfl ?_
     refine jnm ?_
     refine jns ?_
     refine jst hσ rfl rfl rfl rfl rfl ?_
     refine AOps.rows hσ (B0 := 61000) rfl rfl rfl rfl (c33 (ts := p) h1 h2) (VAs.self rfl) rfl rfl rfl rfl rfl rfl ?_
     refine jnm ?_
     refine jst hσ rfl rfl rfl rfl rfl ?_
     refine AOps.forget [(14, _), (13, _), (58, _), (12, _), (56, _), (11, _), (10, _), (41, _), (9, _), (36, _), (31, _), (26, _), (8, _), (5, _), (4, _), (1, _), (2, _), (3, _)] ⟨rfl, rfl, rfl, rfl, rfl, rfl, rfl, rfl, rfl, rfl, rfl, rfl, rfl, rfl, rfl, rfl, rfl, rfl, trivial⟩ ?_
     refine jns ?_
     refine jst hσ rfl rfl rfl rfl rfl ?_
     refine AOps.rows hσ (B0 := 63000) rfl rfl rfl rfl (c33 (ts := q) h1 h2) (VAs.self rfl) rfl rfl rfl rfl rfl rfl ?_
     refine jnm ?_
     refine jst hσ rfl rfl rfl rfl rfl ?_
     refine AOps.forget [(15, _), (14, _), (13, _), (58, _), (12, _), (56, _), (11, _), (10, _), (41, _), (9, _), (36, _), (31, _), (26, _), (8, _), (5, _), (4, _), (1, _), (2, _), (3, _)] ⟨rfl, rfl, rfl, rfl, rfl, rfl, rfl, rfl, rfl, rfl, rfl, rfl, rfl, rfl, rfl, rfl, rfl, rfl, rfl, trivial⟩ ?_
     refine jns ?_
     iterate 4 refine jst hσ rfl rfl rfl rfl rfl ?_
     refine AOps.rows hσ (B0 := 69000) rfl rfl rfl rfl (ci) (.cons (.agg (.cons (.whole rfl (List.length_map _).symm) (.cons .d (.cons (.whole rfl (List.length_map _).symm) .nil)))) (.cons (.agg (.cons .d (.cons (.whole rfl (List.length_map _).symm) .nil))) (.cons (.c (.whole rfl (List.length_map _).symm)) (.cons (.c (.whole rfl (List.length_map _).symm)) .nil)))) rfl rfl rfl rfl rfl rfl ?_
     refine jnm ?_
     iterate 5 refine jst hσ rfl rfl rfl rfl rfl ?_
     refine AOps.forget [(17, _), (16, _), (15, _), (14, _), (13, _), (58, _), (12, _), (56, _), (11, _), (10, _), (41, _), (9, _), (36, _), (31, _), (26, _), (8, _), (5, _), (4, _), (1, _), (2, _), (3, _)] ⟨rfl, rfl, rfl, rfl, rfl, rfl, rfl, rfl, rfl, rfl, rfl, rfl, rfl, rfl, rfl, rfl, rfl, rfl, rfl, rfl, rfl, trivial⟩ ?_
     refine jn ?_
     refine AWP.seq ?_
     refine jsr ?_
     iterate 2 refine jst hσ rfl rfl rfl rfl rfl ?_
     refine AOps.lone hσ rfl rfl rfl rfl ((c37 (xs := rp) (ys := rp) h1 h2).plain (u := eB true) (by simp)) (.cons (.c (.whole rfl (List.length_map _).symm)) (.cons (.c .d) .nil)) rfl rfl rfl rfl rfl (B0 := 74000) rfl ?_
     iterate 2 refine jst hσ rfl rfl rfl rfl rfl ?_
     refine jf22 75 17 16 15 14 13 58 12 56 11 10 41 9 36 31 26 8 5 4 1 2 3 rfl rfl rfl rfl rfl rfl rfl rfl rfl rfl rfl rfl rfl rfl rfl rfl rfl rfl rfl rfl rfl rfl ?_
     refine AOps.live rfl rfl rfl rfl rfl ?_
     refine jst hσ rfl rfl rfl rfl rfl ?_
     refine AOps.live rfl rfl rfl rfl rfl ?_
     refine jst hσ rfl rfl rfl rfl rfl ?_
     refine AOps.live rfl rfl rfl rfl rfl ?_
     refine jst hσ rfl rfl rfl rfl rfl ?_
     refine AOps.step (Val.pickN hσ rfl rfl rfl rfl rfl) rfl rfl rfl ?_
     refine jf22 79 17 16 15 14 13 58 12 56 11 10 41 9 36 31 26 8 5 4 1 2 3 rfl rfl rfl rfl rfl rfl rfl rfl rfl rfl rfl rfl rfl rfl rfl rfl rfl rfl rfl rfl rfl rfl ?_
     refine jn ?_
     refine AWP.cond hσ rfl rfl (fun hc79 => ?_) (fun hc79 => ?_)
     ·
      skip
      exact absurd (show false = true from hc79) (by decide)
     ·
      skip
      refine AWP.skip ?_
      refine AWP.seq ?_
      refine AWP.seq ?_
      refine AWP.forget [(17, _), (16, _), (15, _), (14, _), (13, _), (58, _), (12, _), (56, _), (11, _), (10, _), (41, _), (9, _), (36, _), (31, _), (26, _), (8, _), (5, _), (4, _), (1, _), (2, _), (3, _)] ⟨rfl, rfl, rfl, rfl, rfl, rfl, rfl, rfl, rfl, rfl, rfl, rfl, rfl, rfl, rfl, rfl, rfl, rfl, rfl, rfl, rfl, trivial⟩ ?_
      refine AWP.drawR hσ _ [_, _, _, _, _] [⟨[], 0, 1, none⟩, ⟨[], 0, 0, none⟩, ⟨[1], 0, 0, some 0⟩, ⟨[0, 1, 2], 0, 0, some 1⟩, ⟨[0, 1, 2, 3], 2, 2, none⟩] [2, 3] [_, _, _] rfl rfl (by decide) (by decide) (by kernel_rfl) (And.intro (And.intro (Val.of hσ rfl rfl) (Val.of hσ rfl rfl)) (And.intro (Val.of hσ rfl rfl) (And.intro (Eff.plainD hσ (B0 := 83000) rfl rfl rfl rfl (c32d (s := s) h1 h2) (VAs.self rfl) rfl rfl rfl rfl rfl) (And.intro (Eff.lone hσ (B0 := 84000) rfl rfl rfl rfl ((c36 (s := s) (t := s) h1 h2).plain (u := eB true) (by simp)) (.cons (.agg (.cons (.whole rfl (List.length_map _).symm) (.cons .d (.cons (.whole rfl (List.length_map _).symm) .nil)))) (.cons (.agg (VMs.self rfl)) .nil)) rfl rfl rfl rfl rfl) (And.intro (Val.of hσ rfl rfl) trivial))))) ?_
      refine AWP.forget [(84, _), (17, _), (16, _), (15, _), (14, _), (13, _), (58, _), (12, _), (56, _), (11, _), (10, _), (41, _), (9, _), (36, _), (31, _), (26, _), (8, _), (5, _), (4, _), (1, _), (2, _), (3, _)] ⟨rfl, rfl, rfl, rfl, rfl, rfl, rfl, rfl, rfl, rfl, rfl, rfl, rfl, rfl, rfl, rfl, rfl, rfl, rfl, rfl, rfl, rfl, trivial⟩ ?_
      refine jnw ?_
      refine AWP.cond hσ rfl rfl (fun hc84 => ?_) (fun hc84 => ?_)
      ·
       skip
       exact absurd (show false = true from hc84) (by decide)
      ·
       skip
       refine AWP.skip ?_
       refine AWP.seq ?_
       refine AWP.seq ?_
       refine AWP.forget [(17, _), (16, _), (15, _), (14, _), (13, _), (58, _), (12, _), (56, _), (11, _), (10, _), (41, _), (9, _), (36, _), (31, _), (26, _), (8, _), (5, _), (4, _), (1, _), (2, _), (3, _)] ⟨rfl, rfl, rfl, rfl, rfl, rfl, rfl, rfl, rfl, rfl, rfl, rfl, rfl, rfl, rfl, rfl, rfl, rfl, rfl, rfl, rfl, trivial⟩ ?_
       refine AWP.drawR hσ _ [_, _, _, _, _] [⟨[], 0, 1, none⟩, ⟨[], 0, 0, none⟩, ⟨[1], 0, 0, some 0⟩, ⟨[0, 1, 2], 0, 0, some 1⟩, ⟨[0, 1, 2, 3], 2, 2, none⟩] [2, 3] [_, _, _] rfl rfl (by decide) (by decide) (by kernel_rfl) (And.intro (And.intro (Val.of hσ rfl rfl) (Val.of hσ rfl rfl)) (And.intro (Val.of hσ rfl rfl) (And.intro (Eff.plainD hσ (B0 := 88000) rfl rfl rfl rfl (c87d (t := t) h1 h2) (VAs.self rfl) rfl rfl rfl rfl rfl) (And.intro (Eff.lone hσ (B0 := 89000) rfl rfl rfl rfl ((c92 (s := t) (t := t) h1 h2).plain (u := eB true) (by simp)) (.cons (.agg (.cons .d (.cons (.whole rfl (List.length_map _).symm) .nil))) (.cons (.agg (VMs.self rfl)) .nil)) rfl rfl rfl rfl rfl) (And.intro (Val.of hσ rfl rfl) trivial))))) ?_
       refine AWP.forget [(89, _), (17, _), (16, _), (15, _), (14, _), (13, _), (58, _), (12, _), (56, _), (11, _), (10, _), (41, _), (9, _), (36, _), (31, _), (26, _), (8, _), (5, _), (4, _), (1, _), (2, _), (3, _)] ⟨rfl, rfl, rfl, rfl, rfl, rfl, rfl, rfl, rfl, rfl, rfl, rfl, rfl, rfl, rfl, rfl, rfl, rfl, rfl, rfl, rfl, rfl, trivial⟩ ?_
       refine jnw ?_
       refine AWP.cond hσ rfl rfl (fun hc89 => ?_) (fun hc89 => ?_)
       ·
        skip
        exact absurd (show false = true from hc89) (by decide)
       ·
        skip
        refine AWP.skip ?_
        refine AWP.seq ?_
        refine jsr ?_
        iterate 2 refine jst hσ rfl rfl rfl rfl rfl ?_
        refine jf23 91 90 17 16 15 14 13 58 12 56 11 10 41 9 36 31 26 8 5 4 1 2 3 rfl rfl rfl rfl rfl rfl rfl rfl rfl rfl rfl rfl rfl rfl rfl rfl rfl rfl rfl rfl rfl rfl rfl ?_
        refine AOps.plainD hσ rfl rfl rfl rfl (c33d (p := p) h1 h2) (VAs.self rfl) rfl rfl rfl rfl (B0 := 93000) rfl rfl ?_
        refine jf23 92 90 17 16 15 14 13 58 12 56 11 10 41 9 36 31 26 8 5 4 1 2 3 rfl rfl rfl rfl rfl rfl rfl rfl rfl rfl rfl rfl rfl rfl rfl rfl rfl rfl rfl rfl rfl rfl rfl ?_
        refine AOps.lone hσ rfl rfl rfl rfl ((c37 (xs := p) (ys := p) h1 h2).plain (u := eB true) (by simp)) (.cons (.c (.whole rfl (List.length_map _).symm)) (.cons (.c .d) .nil)) rfl rfl rfl rfl rfl (B0 := 94000) rfl ?_
        refine jst hσ rfl rfl rfl rfl rfl ?_
        refine jf22 94 17 16 15 14 13 58 12 56 11 10 41 9 36 31 26 8 5 4 1 2 3 rfl rfl rfl rfl rfl rfl rfl rfl rfl rfl rfl rfl rfl rfl rfl rfl rfl rfl rfl rfl rfl rfl ?_
        refine jn ?_
        refine AWP.cond hσ rfl rfl (fun hc94 => ?_) (fun hc94 => ?_)
        ·
         skip
         exact absurd (show false = true from hc94) (by decide)
        ·
         skip
         refine AWP.skip ?_
         refine AWP.seq ?_
         refine jsr ?_
         iterate 2 refine jst hσ rfl rfl rfl rfl rfl ?_
         refine jf23 96 95 17 16 15 14 13 58 12 56 11 10 41 9 36 31 26 8 5 4 1 2 3 rfl rfl rfl rfl rfl rfl rfl rfl rfl rfl rfl rfl rfl rfl rfl rfl rfl rfl rfl rfl rfl rfl rfl ?_
         refine AOps.plainD hσ rfl rfl rfl rfl (c33d (p := q) h1 h2) (VAs.self rfl) rfl rfl rfl rfl (B0 := 98000) rfl rfl ?_
         refine jf23 97 95 17 16 15 14 13 58 12 56 11 10 41 9 36 31 26 8 5 4 1 2 3 rfl rfl rfl rfl rfl rfl rfl rfl rfl rfl rfl rfl rfl rfl rfl rfl rfl rfl rfl rfl rfl rfl rfl ?_
         refine AOps.lone hσ rfl rfl rfl rfl ((c37 (xs := q) (ys := q) h1 h2).plain (u := eB true) (by simp)) (.cons (.c (.whole rfl (List.length_map _).symm)) (.cons (.c .d) .nil)) rfl rfl rfl rfl rfl (B0 := 99000) rfl ?_
         refine jst hσ rfl rfl rfl rfl rfl ?_
         refine jf22 99 17 16 15 14 13 58 12 56 11 10 41 9 36 31 26 8 5 4 1 2 3 rfl rfl rfl rfl rfl rfl rfl rfl rfl rfl rfl rfl rfl rfl rfl rfl rfl rfl rfl rfl rfl rfl ?_
         refine jn ?_
         refine AWP.cond hσ rfl rfl (fun hc99 => ?_) (fun hc99 => ?_)
         ·
          skip
          exact absurd (show false = true from hc99) (by decide)
         ·
          skip
          refine AWP.skip ?_
          refine jsr ?_
          refine jst hσ rfl rfl rfl rfl rfl ?_
          refine jns ?_
          iterate 2 refine jst hσ rfl rfl rfl rfl rfl ?_
          refine AOps.forget [(101, _), (100, _), (18, _), (17, _), (16, _), (15, _), (14, _), (13, _), (58, _), (12, _), (56, _), (11, _), (10, _), (41, _), (9, _), (36, _), (31, _), (26, _), (8, _), (5, _), (4, _), (1, _), (2, _), (3, _)] ⟨rfl, rfl, rfl, rfl, rfl, rfl, rfl, rfl, rfl, rfl, rfl, rfl, rfl, rfl, rfl, rfl, rfl, rfl, rfl, rfl, rfl, rfl, rfl, rfl, trivial⟩ ?_
          refine AOps.inn hσ [57000, 57001] (bin := [trow s.facts, nrow s.goal.xs]) rfl rfl rfl rfl (c38 (s := s) (k := 1) h1 h2 (by decide) (by omega)) rfl rfl rfl rfl rfl rfl (B0 := 103000) rfl rfl ?_
          refine jnm ?_
          refine jst hσ rfl rfl rfl rfl rfl ?_
          refine jf22 18 17 16 15 14 13 58 12 56 11 10 41 9 36 31 26 8 5 4 1 2 3 rfl rfl rfl rfl rfl rfl rfl rfl rfl rfl rfl rfl rfl rfl rfl rfl rfl rfl rfl rfl rfl rfl ?_
          refine jns ?_
          iterate 2 refine jst hσ rfl rfl rfl rfl rfl ?_
          refine AOps.inn hσ [59000] (bin := [nrow t.xs]) rfl rfl rfl rfl (c94 (c := t.c) (xs := t.xs) (k := 1 + cnt nT s.facts + s.goal.xs.length) h1 h2 (by omega) (by omega)) rfl rfl rfl rfl rfl rfl (B0 := 106000) rfl rfl ?_
          refine jnm ?_
          refine jst hσ rfl rfl rfl rfl rfl ?_
          refine jf22 18 17 16 15 14 13 58 12 56 11 10 41 9 36 31 26 8 5 4 1 2 3 rfl rfl rfl rfl rfl rfl rfl rfl rfl rfl rfl rfl rfl rfl rfl rfl rfl rfl rfl rfl rfl rfl ?_
          refine jns ?_
          iterate 2 refine jst hσ rfl rfl rfl rfl rfl ?_
          refine AOps.inn hσ [61000] (bin := [ndrow p]) rfl rfl rfl rfl (c39 (ts := p) (k := 1 + cnt nT s.facts + s.goal.xs.length + t.xs.length) h1 h2 (by omega) (by omega)) rfl rfl rfl rfl rfl rfl (B0 := 109000) rfl rfl ?_
          refine jnm ?_
          refine jst hσ rfl rfl rfl rfl rfl ?_
          refine jf22 18 17 16 15 14 13 58 12 56 11 10 41 9 36 31 26 8 5 4 1 2 3 rfl rfl rfl rfl rfl rfl rfl rfl rfl rfl rfl rfl rfl rfl rfl rfl rfl rfl rfl rfl rfl rfl ?_
          refine jns ?_
          iterate 2 refine jst hσ rfl rfl rfl rfl rfl ?_
          refine AOps.inn hσ [63000] (bin := [ndrow q]) rfl rfl rfl rfl (c39 (ts := q) (k := 1 + cnt nT s.facts + s.goal.xs.length + t.xs.length + cnt nN p) h1 h2 (by omega) (by omega)) rfl rfl rfl rfl rfl rfl (B0 := 112000) rfl rfl ?_
          refine jnm ?_
          refine jst hσ rfl rfl rfl rfl rfl ?_
          refine jf22 18 17 16 15 14 13 58 12 56 11 10 41 9 36 31 26 8 5 4 1 2 3 rfl rfl rfl rfl rfl rfl rfl rfl rfl rfl rfl rfl rfl rfl rfl rfl rfl rfl rfl rfl rfl rfl ?_
          refine jn ?_
          refine AWP.seq ?_
          refine jsr ?_
          iterate 2 refine jst hσ rfl rfl rfl rfl rfl ?_
          rw [decide_eq_false (show ¬ (1 + cnt nT s.facts + s.goal.xs.length + t.xs.length + cnt nN p + cnt nN q : Int) < 0 by omega)]
          refine jst hσ rfl rfl rfl rfl rfl ?_
          refine jf23 114 18 17 16 15 14 13 58 12 56 11 10 41 9 36 31 26 8 5 4 1 2 3 rfl rfl rfl rfl rfl rfl rfl rfl rfl rfl rfl rfl rfl rfl rfl rfl rfl rfl rfl rfl rfl rfl rfl ?_
          refine AOps.live rfl rfl rfl rfl rfl ?_
          refine jst hσ rfl rfl rfl rfl rfl ?_
          refine AOps.live rfl rfl rfl rfl rfl ?_
          refine jst hσ rfl rfl rfl rfl rfl ?_
          refine AOps.live rfl rfl rfl rfl rfl ?_
          refine AOps.lone hσ rfl rfl rfl rfl ((c37 (xs := rp) (ys := rp) h1 h2).plain (u := eB true) (by simp)) (.cons (.c (.whole rfl (List.length_map _).symm)) (.cons (.c .d) .nil)) rfl rfl rfl rfl rfl (B0 := 118000) rfl ?_
          refine AOps.forget [(117, _), (114, _), (18, _), (17, _), (16, _), (15, _), (14, _), (13, _), (58, _), (12, _), (56, _), (11, _), (10, _), (41, _), (9, _), (36, _), (31, _), (26, _), (8, _), (5, _), (4, _), (1, _), (2, _), (3, _)] ⟨rfl, rfl, rfl, rfl, rfl, rfl, rfl, rfl, rfl, rfl, rfl, rfl, rfl, rfl, rfl, rfl, rfl, rfl, rfl, rfl, rfl, rfl, rfl, rfl, trivial⟩ ?_
          refine AOps.live rfl rfl rfl rfl rfl ?_
          refine jst hσ rfl rfl rfl rfl rfl ?_
          refine AOps.step (Val.pickN hσ rfl rfl rfl rfl rfl) rfl rfl rfl ?_
          refine jst hσ rfl rfl rfl rfl rfl ?_
          refine jf23 120 18 17 16 15 14 13 58 12 56 11 10 41 9 36 31 26 8 5 4 1 2 3 rfl rfl rfl rfl rfl rfl rfl rfl rfl rfl rfl rfl rfl rfl rfl rfl rfl rfl rfl rfl rfl rfl rfl ?_
          refine AOps.live rfl rfl rfl rfl rfl ?_
          refine jst hσ rfl rfl rfl rfl rfl ?_
          refine AOps.live rfl rfl rfl rfl rfl ?_
          refine jst hσ rfl rfl rfl rfl rfl ?_
          refine AOps.live rfl rfl rfl rfl rfl ?_
          refine jst hσ rfl rfl rfl rfl rfl ?_
          refine AOps.step (Val.pickN hσ rfl rfl rfl rfl rfl) rfl rfl rfl ?_
          refine jf23 124 18 17 16 15 14 13 58 12 56 11 10 41 9 36 31 26 8 5 4 1 2 3 rfl rfl rfl rfl rfl rfl rfl rfl rfl rfl rfl rfl rfl rfl rfl rfl rfl rfl rfl rfl rfl rfl rfl ?_
          refine jn ?_
          refine AWP.cond hσ rfl rfl (fun hc124 => ?_) (fun hc124 => ?_)
          ·
           skip
           exact absurd (show false = true from hc124) (by decide)
          ·
           skip
           refine AWP.skip ?_
           refine jsr ?_
           refine jst hσ rfl rfl rfl rfl rfl ?_
           refine jns ?_
           iterate 2 refine jst hσ rfl rfl rfl rfl rfl ?_
           refine AOps.forget [(126, _), (125, _), (19, _), (18, _), (17, _), (16, _), (15, _), (14, _), (13, _), (58, _), (12, _), (56, _), (11, _), (10, _), (41, _), (9, _), (36, _), (31, _), (26, _), (8, _), (5, _), (4, _), (1, _), (2, _), (3, _)] ⟨rfl, rfl, rfl, rfl, rfl, rfl, rfl, rfl, rfl, rfl, rfl, rfl, rfl, rfl, rfl, rfl, rfl, rfl, rfl, rfl, rfl, rfl, rfl, rfl, rfl, trivial⟩ ?_
           refine AOps.inn hσ [69000] (bin := [ndrow rp]) rfl rfl rfl rfl (c39 (ts := rp) (k := 1) h1 h2 (by decide) (by omega)) rfl rfl rfl rfl rfl rfl (B0 := 128000) rfl rfl ?_
           refine jnm ?_
           refine jst hσ rfl rfl rfl rfl rfl ?_
           refine jf23 19 18 17 16 15 14 13 58 12 56 11 10 41 9 36 31 26 8 5 4 1 2 3 rfl rfl rfl rfl rfl rfl rfl rfl rfl rfl rfl rfl rfl rfl rfl rfl rfl rfl rfl rfl rfl rfl rfl ?_
           refine jns ?_
           refine jst hσ rfl rfl rfl rfl rfl ?_
           refine jns ?_
           iterate 2 refine jst hσ rfl rfl rfl rfl rfl ?_
           refine AOps.lone hσ rfl rfl rfl rfl (c1009 (ts := rp) (k := 1) h1 h2 (by decide) (by omega)) (.cons (.c (.whole rfl (by rw [List.length_map, markL_length]))) (.cons (.c .d) .nil)) rfl rfl rfl rfl rfl (B0 := 131000) rfl ?_
           refine jst hσ rfl rfl rfl rfl rfl ?_
           refine AOps.forget [(20, _), (19, _), (18, _), (17, _), (16, _), (15, _), (14, _), (13, _), (58, _), (12, _), (56, _), (11, _), (10, _), (41, _), (9, _), (36, _), (31, _), (26, _), (8, _), (5, _), (4, _), (1, _), (2, _), (3, _)] ⟨rfl, rfl, rfl, rfl, rfl, rfl, rfl, rfl, rfl, rfl, rfl, rfl, rfl, rfl, rfl, rfl, rfl, rfl, rfl, rfl, rfl, rfl, rfl, rfl, trivial⟩ ?_
           refine jn ?_
           refine AWP.seq ?_
           refine jsr ?_
           iterate 2 refine jst hσ rfl rfl rfl rfl rfl ?_
           refine jn ?_
           refine AWP.cond hσ rfl rfl (fun hc132 => ?_) (fun hc132 => ?_)
           ·
            skip
            exact absurd (of_decide_eq_true hc132) (by omega)
           ·
            skip
            refine AWP.skip ?_
            refine AWP.seq ?_
            refine jsr ?_
            iterate 3 refine jst hσ rfl rfl rfl rfl rfl ?_
            refine AOps.forget [(135, _), (131, _), (20, _), (19, _), (18, _), (17, _), (16, _), (15, _), (14, _), (13, _), (58, _), (12, _), (56, _), (11, _), (10, _), (41, _), (9, _), (36, _), (31, _), (26, _), (8, _), (5, _), (4, _), (1, _), (2, _), (3, _)] ⟨rfl, rfl, rfl, rfl, rfl, rfl, rfl, rfl, rfl, rfl, rfl, rfl, rfl, rfl, rfl, rfl, rfl, rfl, rfl, rfl, rfl, rfl, rfl, rfl, rfl, rfl, trivial⟩ ?_
            refine jn ?_
            refine AWP.cond hσ rfl rfl (fun hc135 => ?_) (fun hc135 => ?_)
            ·
             skip
             exact absurd hc135 (by simp)
            ·
             skip
             refine AWP.skip ?_
             refine AWP.seq ?_
             refine AWP.forget [(131, _), (20, _), (19, _), (18, _), (17, _), (16, _), (15, _), (14, _), (13, _), (58, _), (12, _), (56, _), (11, _), (10, _), (41, _), (9, _), (36, _), (31, _), (26, _), (8, _), (5, _), (4, _), (1, _), (2, _), (3, _)] ⟨rfl, rfl, rfl, rfl, rfl, rfl, rfl, rfl, rfl, rfl, rfl, rfl, rfl, rfl, rfl, rfl, rfl, rfl, rfl, rfl, rfl, rfl, rfl, rfl, rfl, trivial⟩ ?_
             refine AWP.drawR hσ _ [_, _, _, _, _, _, _, _, _, _, _, _, _, _] [⟨[], 0, 0, none⟩, ⟨[0], 0, 0, some 0⟩, ⟨[], 0, 1, none⟩, ⟨[0, 1, 2], 0, 0, some 1⟩, ⟨[], 0, 2, none⟩, ⟨[0, 1, 2, 3, 4], 0, 0, some 2⟩, ⟨[], 0, 3, none⟩, ⟨[0, 1, 2, 3, 4, 5, 6], 0, 0, some 3⟩, ⟨[0, 1, 2, 3, 4, 5, 6, 7], 0, 0, some 4⟩, ⟨[0, 1, 2, 3, 4, 5, 6, 7, 8], 5, 5, none⟩, ⟨[0, 1, 2, 3, 4, 5, 6, 7, 8, 9], 5, 5, none⟩, ⟨[0, 1, 2, 3, 4, 5, 6, 7, 8, 9], 5, 5, none⟩, ⟨[0, 1, 2, 3, 4, 5, 6, 7, 8, 9, 10], 5, 5, none⟩, ⟨[0, 1, 2, 3, 4, 5, 6, 7, 8, 9, 10, 11, 12], 5, 5, none⟩] [1, 3, 5, 7, 8] [_, _, _, _, _, _] rfl rfl (by decide) (by decide) (by kernel_rfl) (And.intro (Val.of hσ rfl rfl) (And.intro (Eff.plainD hσ (B0 := 139000) rfl rfl rfl rfl (c32d (s := s) h1 h2) (VAs.self rfl) rfl rfl rfl rfl rfl) (And.intro (And.intro (Val.of hσ rfl rfl) (Val.of hσ rfl rfl)) (And.intro (Eff.plainD hσ (B0 := 141000) rfl rfl rfl rfl (c87d (t := t) h1 h2) (VAs.self rfl) rfl rfl rfl rfl rfl) (And.intro (And.intro (Val.of hσ rfl rfl) (And.intro (Val.of hσ rfl rfl) (Val.of hσ rfl rfl))) (And.intro (Eff.plainD hσ (B0 := 143000) rfl rfl rfl rfl (c33d (p := p) h1 h2) (VAs.self rfl) rfl rfl rfl rfl rfl) (And.intro (And.intro (Val.of hσ rfl rfl) (And.intro (Val.of hσ rfl rfl) (And.intro (Val.of hσ rfl rfl) (Val.of hσ rfl rfl)))) (And.intro (Eff.plainD hσ (B0 := 145000) rfl rfl rfl rfl (c33d (p := q) h1 h2) (VAs.self rfl) rfl rfl rfl rfl rfl) (And.intro (Eff.rows hσ (B0 := 146000) rfl rfl rfl rfl (ci) (VAs.self rfl) rfl rfl rfl rfl rfl) (And.intro (Val.of hσ rfl rfl) (And.intro (Val.of hσ rfl rfl) (And.intro (Val.of hσ rfl rfl) (And.intro (Val.of hσ rfl rfl) (And.intro (Val.of hσ rfl rfl) trivial)))))))))))))) ?_
             refine AWP.forget [(22, _), (21, _), (131, _), (20, _), (19, _), (18, _), (17, _), (16, _), (15, _), (14, _), (13, _), (58, _), (12, _), (56, _), (11, _), (10, _), (41, _), (9, _), (36, _), (31, _), (26, _), (8, _), (5, _), (4, _), (1, _), (2, _), (3, _)] ⟨rfl, rfl, rfl, rfl, rfl, rfl, rfl, rfl, rfl, rfl, rfl, rfl, rfl, rfl, rfl, rfl, rfl, rfl, rfl, rfl, rfl, rfl, rfl, rfl, rfl, rfl, rfl, trivial⟩ ?_
             refine jnw ?_
             refine AWP.seq ?_
             refine jsr ?_
             iterate 2 refine jst hσ rfl rfl rfl rfl rfl ?_
             refine AOps.forget [(149, _), (148, _), (22, _), (131, _), (20, _), (19, _), (18, _), (17, _), (16, _), (15, _), (14, _), (13, _), (58, _), (12, _), (56, _), (11, _), (10, _), (41, _), (9, _), (36, _), (31, _), (26, _), (8, _), (5, _), (4, _), (1, _), (2, _), (3, _)] ⟨rfl, rfl, rfl, rfl, rfl, rfl, rfl, rfl, rfl, rfl, rfl, rfl, rfl, rfl, rfl, rfl, rfl, rfl, rfl, rfl, rfl, rfl, rfl, rfl, rfl, rfl, rfl, rfl, trivial⟩ ?_
             refine AOps.lone hσ rfl rfl rfl rfl ((c37 (xs := rp) (ys := rp) h1 h2).plain (u := eB true) (by simp)) (.cons (.c (.whole rfl (List.length_map _).symm)) (.cons (.c .d) .nil)) rfl rfl rfl rfl rfl (B0 := 151000) rfl ?_
             iterate 2 refine jst hσ rfl rfl rfl rfl rfl ?_
             refine AOps.forget [(152, _), (22, _), (131, _), (20, _), (19, _), (18, _), (17, _), (16, _), (15, _), (14, _), (13, _), (58, _), (12, _), (56, _), (11, _), (10, _), (41, _), (9, _), (36, _), (31, _), (26, _), (8, _), (5, _), (4, _), (1, _), (2, _), (3, _)] ⟨rfl, rfl, rfl, rfl, rfl, rfl, rfl, rfl, rfl, rfl, rfl, rfl, rfl, rfl, rfl, rfl, rfl, rfl, rfl, rfl, rfl, rfl, rfl, rfl, rfl, rfl, rfl, trivial⟩ ?_
             refine AOps.live rfl rfl rfl rfl rfl ?_
             refine jst hσ rfl rfl rfl rfl rfl ?_
             refine AOps.forget [(153, _), (152, _), (131, _), (20, _), (19, _), (18, _), (17, _), (16, _), (15, _), (14, _), (13, _), (58, _), (12, _), (56, _), (11, _), (10, _), (41, _), (9, _), (36, _), (31, _), (26, _), (8, _), (5, _), (4, _), (1, _), (2, _), (3, _)] ⟨rfl, rfl, rfl, rfl, rfl, rfl, rfl, rfl, rfl, rfl, rfl, rfl, rfl, rfl, rfl, rfl, rfl, rfl, rfl, rfl, rfl, rfl, rfl, rfl, rfl, rfl, rfl, trivial⟩ ?_
             refine AOps.live rfl rfl rfl rfl rfl ?_
             refine jst hσ rfl rfl rfl rfl rfl ?_
             refine AOps.live rfl rfl rfl rfl rfl ?_
             refine jst hσ rfl rfl rfl rfl rfl ?_
             refine AOps.step (Val.pickN hσ rfl rfl rfl rfl rfl) rfl rfl rfl ?_
             refine AOps.forget [(156, _), (131, _), (20, _), (19, _), (18, _), (17, _), (16, _), (15, _), (14, _), (13, _), (58, _), (12, _), (56, _), (11, _), (10, _), (41, _), (9, _), (36, _), (31, _), (26, _), (8, _), (5, _), (4, _), (1, _), (2, _), (3, _)] ⟨rfl, rfl, rfl, rfl, rfl, rfl, rfl, rfl, rfl, rfl, rfl, rfl, rfl, rfl, rfl, rfl, rfl, rfl, rfl, rfl, rfl, rfl, rfl, rfl, rfl, rfl, trivial⟩ ?_
             refine jn ?_
             refine AWP.cond hσ rfl rfl (fun hc156 => ?_) (fun hc156 => ?_)
             ·
              skip
              exact absurd (show false = true from hc156) (by decide)
             ·
              skip
              refine AWP.skip ?_
              refine jsr ?_
              refine jst hσ rfl rfl rfl rfl rfl ?_
              refine jns ?_
              iterate 2 refine jst hσ rfl rfl rfl rfl rfl ?_
              refine AOps.forget [(158, _), (157, _), (20, _), (131, _), (19, _), (18, _), (17, _), (16, _), (15, _), (14, _), (13, _), (58, _), (12, _), (56, _), (11, _), (10, _), (41, _), (9, _), (36, _), (31, _), (26, _), (8, _), (5, _), (4, _), (1, _), (2, _), (3, _)] ⟨rfl, rfl, rfl, rfl, rfl, rfl, rfl, rfl, rfl, rfl, rfl, rfl, rfl, rfl, rfl, rfl, rfl, rfl, rfl, rfl, rfl, rfl, rfl, rfl, rfl, rfl, rfl, trivial⟩ ?_
              refine AOps.lone hσ rfl rfl rfl rfl (c1009 (ts := rp) (k := 1) h1 h2 (by decide) (by omega)) (.cons (.c (.whole rfl (by rw [List.length_map, markL_length]))) (.cons (.c .d) .nil)) rfl rfl rfl rfl rfl (B0 := 160000) rfl ?_
              refine jst hσ rfl rfl rfl rfl rfl ?_
              refine AOps.forget [(20, _), (131, _), (19, _), (18, _), (17, _), (16, _), (15, _), (14, _), (13, _), (58, _), (12, _), (56, _), (11, _), (10, _), (41, _), (9, _), (36, _), (31, _), (26, _), (8, _), (5, _), (4, _), (1, _), (2, _), (3, _)] ⟨rfl, rfl, rfl, rfl, rfl, rfl, rfl, rfl, rfl, rfl, rfl, rfl, rfl, rfl, rfl, rfl, rfl, rfl, rfl, rfl, rfl, rfl, rfl, rfl, rfl, trivial⟩ ?_
              refine jn ?_
              refine AWP.seq ?_
              refine jsr ?_
              iterate 2 refine jst hσ rfl rfl rfl rfl rfl ?_
              refine jn ?_
              refine AWP.cond hσ rfl rfl (fun hc161 => ?_) (fun hc161 => ?_)
              ·
               skip
               exact absurd (of_decide_eq_true hc161) (by omega)
              ·
               skip
               refine AWP.skip ?_
               refine AWP.seq ?_
               refine jsr ?_
               iterate 3 refine jst hσ rfl rfl rfl rfl rfl ?_
               refine AOps.forget [(164, _), (160, _), (20, _), (131, _), (19, _), (18, _), (17, _), (16, _), (15, _), (14, _), (13, _), (58, _), (12, _), (56, _), (11, _), (10, _), (41, _), (9, _), (36, _), (31, _), (26, _), (8, _), (5, _), (4, _), (1, _), (2, _), (3, _)] ⟨rfl, rfl, rfl, rfl, rfl, rfl, rfl, rfl, rfl, rfl, rfl, rfl, rfl, rfl, rfl, rfl, rfl, rfl, rfl, rfl, rfl, rfl, rfl, rfl, rfl, rfl, rfl, trivial⟩ ?_
               refine jn ?_
               refine AWP.cond hσ rfl rfl (fun hc164 => ?_) (fun hc164 => ?_)
               ·
                skip
                exact absurd hc164 (by simp)
               ·
                skip
                refine AWP.skip ?_
                refine jsr ?_
                refine jst hσ rfl rfl rfl rfl rfl ?_
                refine jn ?_
                refine AWP.ret ?_
                refine ⟨.inl rfl, _, Ent.refl, _, rfl, ?_⟩
                rfl
theorem c1002n {L : Nat} (h1 : 4096 ≤ L) (h2 : L ≤ 1073741824) {s : Sq} {t : Tm} {p : List Nd} {q : List Nd} (cs : MC Try.prog L 28 [aSq s, aTm' t, ands p, ands q] [] (Plain (.tup [ands ([] : List Nd), eB false]))) (ci : MC Try.prog L 30 [aSq s, aTm' t, ands p, ands q] [] (Rows (.tup [.c (.d .nils), eB false]) [])) (hz1 : 0 ≤ szr 1048576 s.size) (hz2 : 0 ≤ szr (szr 1048576 s.size) t.size) (hz3 : 0 ≤ szr (szr (szr 1048576 s.size) t.size) (Al.szs Nd.size p)) (hz4 : 0 ≤ szr (szr (szr (szr 1048576 s.size) t.size) (Al.szs Nd.size p)) (Al.szs Nd.size q)) (hcp : 1 + cnt nT s.facts + s.goal.xs.length + t.xs.length + cnt nN p + cnt nN q ≤ (1073741824 : Int)) : MC Try.prog L 5 [aSq s, aTm' t, ands p, ands q] [] (Plain (eB true)) := by
 refine MC.alone ?_ rfl
 have hσ := SGok (nt := 165) h1 (Nat.le_trans h2 (by decide))
 refine MC.body hσ Try.func5 (by kernel_rfl) rfl rfl (Nat.le_of_ble_eq_true rfl) (fun hF => ?_)
 have hbig : L ≤ 9223372036854775807 := Nat.le_trans h2 (by decide)
 refine jsr ?_
 refine AOps.heap (HS.box hσ rfl rfl rfl rfl rfl rfl rfl) rfl ?_
 refine jnm ?_
 refine jf4 4 1 2 3 rfl rfl rfl rfl ?_
 refine AOps.heap (HS.box hσ rfl rfl rfl rfl rfl rfl rfl) rfl ?_
 refine jnm ?_
 refine jst hσ rfl rfl rfl rfl rfl ?_
 refine jns ?_
 refine jst hσ rfl rfl rfl rfl rfl ?_
 refine jns ?_
 iterate 2 refine jst hσ rfl rfl rfl rfl rfl ?_
 refine AOps.lone hσ rfl rfl rfl rfl (c29 (s := s) (left := 1048576) h1 hbig (by decide) (by decide)) (VAs.self rfl) rfl rfl rfl rfl rfl (B0 := 26000) rfl ?_
 refine jst hσ rfl rfl rfl rfl rfl ?_
 refine jf7 9 8 5 4 1 2 3 rfl rfl rfl rfl rfl rfl rfl ?_
 refine jn ?_
 refine AWP.seq ?_
 refine jsr ?_
 iterate 2 refine jst hσ rfl rfl rfl rfl rfl ?_
 refine jn ?_
 refine AWP.cond hσ rfl rfl (fun hc27 => ?_) (fun hc27 => ?_)
 ·
  skip
  exact absurd (of_decide_eq_true hc27) (by omega)
 ·
  skip
  refine AWP.skip ?_
  refine jsr ?_
  iterate 2 refine jst hσ rfl rfl rfl rfl rfl ?_
  refine jf10 29 28 26 9 8 5 4 1 2 3 rfl rfl rfl rfl rfl rfl rfl rfl rfl rfl ?_
  have hle0 := szr_le (left := 1048576) (by decide) s.size
  refine AOps.lone hσ rfl rfl rfl rfl (c80 (t := t) (left := szr 1048576 s.size) h1 hbig hz1 (by omega)) (VAs.self rfl) rfl rfl rfl rfl rfl (B0 := 31000) rfl ?_
  refine jst hσ rfl rfl rfl rfl rfl ?_
  refine jf8 9 26 8 5 4 1 2 3 rfl rfl rfl rfl rfl rfl rfl rfl ?_
  refine jn ?_
  refine AWP.seq ?_
  refine jsr ?_
  iterate 2 refine jst hσ rfl rfl rfl rfl rfl ?_
  refine jn ?_
  refine AWP.cond hσ rfl rfl (fun hc32 => ?_) (fun hc32 => ?_)
  ·
   skip
   exact absurd (of_decide_eq_true hc32) (by omega)
  ·
   skip
   refine AWP.skip ?_
   refine jsr ?_
   iterate 2 refine jst hσ rfl rfl rfl rfl rfl ?_
   refine jf11 34 33 31 9 26 8 5 4 1 2 3 rfl rfl rfl rfl rfl rfl rfl rfl rfl rfl rfl ?_
   have hle0 := szr_le (left := 1048576) (by decide) s.size
   have hle1 := szr_le (left := szr 1048576 s.size) hz1 t.size
   refine AOps.lone hσ rfl rfl rfl rfl (c30 (ts := p) (left := szr (szr 1048576 s.size) t.size) h1 hbig hz2 (by omega)) (VAs.self rfl) rfl rfl rfl rfl rfl (B0 := 36000) rfl ?_
   refine jst hσ rfl rfl rfl rfl rfl ?_
   refine jf9 9 31 26 8 5 4 1 2 3 rfl rfl rfl rfl rfl rfl rfl rfl rfl ?_
   refine jn ?_
   refine AWP.seq ?_
   refine jsr ?_
   iterate 2 refine jst hσ rfl rfl rfl rfl rfl ?_
   refine jn ?_
   refine AWP.cond hσ rfl rfl (fun hc37 => ?_) (fun hc37 => ?_)
   ·
    skip
    exact absurd (of_decide_eq_true hc37) (by omega)
   ·
    skip
    refine AWP.skip ?_
    refine jsr ?_
    iterate 2 refine jst hσ rfl rfl rfl rfl rfl ?_
    refine jf12 39 38 36 9 31 26 8 5 4 1 2 3 rfl rfl rfl rfl rfl rfl rfl rfl rfl rfl rfl rfl ?_
    have hle0 := szr_le (left := 1048576) (by decide) s.size
    have hle1 := szr_le (left := szr 1048576 s.size) hz1 t.size
    have hle2 := szr_le (left := szr (szr 1048576 s.size) t.size) hz2 (Al.szs Nd.size p)
    refine AOps.lone hσ rfl rfl rfl rfl (c30 (ts := q) (left := szr (szr (szr 1048576 s.size) t.size) (Al.szs Nd.size p)) h1 hbig hz3 (by omega)) (VAs.self rfl) rfl rfl rfl rfl rfl (B0 := 41000) rfl ?_
    refine jst hσ rfl rfl rfl rfl rfl ?_
    refine jf10 9 36 31 26 8 5 4 1 2 3 rfl rfl rfl rfl rfl rfl rfl rfl rfl rfl ?_
    refine jn ?_
    refine AWP.seq ?_
    refine jsr ?_
    iterate 2 refine jst hσ rfl rfl rfl rfl rfl ?_
    refine jn ?_
    refine AWP.cond hσ rfl rfl (fun hc42 => ?_) (fun hc42 => ?_)
    ·
     skip
     exact absurd (of_decide_eq_true hc42) (by omega)
    ·
     skip
     refine AWP.skip ?_
     refine AWP.seq ?_
     refine AWP.forget [(41, _), (9, _), (36, _), (31, _), (26, _), (8, _), (5, _), (4, _), (1, _), (2, _), (3, _)] ⟨rfl, rfl, rfl, rfl, rfl, rfl, rfl, rfl, rfl, rfl, rfl, trivial⟩ ?_
     refine AWP.drawR hσ _ [_, _, _, _, _, _, _, _, _, _, _, _, _, _] [⟨[], 0, 0, none⟩, ⟨[0], 0, 0, some 0⟩, ⟨[], 0, 1, none⟩, ⟨[0, 1, 2], 0, 0, some 1⟩, ⟨[], 0, 2, none⟩, ⟨[0, 1, 2, 3, 4], 0, 0, some 2⟩, ⟨[], 0, 3, none⟩, ⟨[0, 1, 2, 3, 4, 5, 6], 0, 0, some 3⟩, ⟨[0, 1, 2, 3, 4, 5, 6, 7], 0, 0, some 4⟩, ⟨[0, 1, 2, 3, 4, 5, 6, 7, 8], 5, 5, none⟩, ⟨[0, 1, 2, 3, 4, 5, 6, 7, 8, 9], 5, 5, none⟩, ⟨[0, 1, 2, 3, 4, 5, 6, 7, 8, 9], 5, 5, none⟩, ⟨[0, 1, 2, 3, 4, 5, 6, 7, 8, 9, 10], 5, 5, none⟩, ⟨[0, 1, 2, 3, 4, 5, 6, 7, 8, 9, 10, 11, 12], 5, 5, none⟩] [1, 3, 5, 7, 8] [_, _, _, _, _, _] rfl rfl (by decide) (by decide) (by kernel_rfl) (And.intro (Val.of hσ rfl rfl) (And.intro (Eff.plainD hσ (B0 := 46000) rfl rfl rfl rfl (c32d (s := s) h1 h2) (VAs.self rfl) rfl rfl rfl rfl rfl) (And.intro (And.intro (Val.of hσ rfl rfl) (Val.of hσ rfl rfl)) (And.intro (Eff.plainD hσ (B0 := 48000) rfl rfl rfl rfl (c87d (t := t) h1 h2) (VAs.self rfl) rfl rfl rfl rfl rfl) (And.intro (And.intro (Val.of hσ rfl rfl) (And.intro (Val.of hσ rfl rfl) (Val.of hσ rfl rfl))) (And.intro (Eff.plainD hσ (B0 := 50000) rfl rfl rfl rfl (c33d (p := p) h1 h2) (VAs.self rfl) rfl rfl rfl rfl rfl) (And.intro (And.intro (Val.of hσ rfl rfl) (And.intro (Val.of hσ rfl rfl) (And.intro (Val.of hσ rfl rfl) (Val.of hσ rfl rfl)))) (And.intro (Eff.plainD hσ (B0 := 52000) rfl rfl rfl rfl (c33d (p := q) h1 h2) (VAs.self rfl) rfl rfl rfl rfl rfl) (And.intro (Eff.plainD hσ (B0 := 53000) rfl rfl rfl rfl (cs) (VAs.self rfl) rfl rfl rfl rfl rfl) (And.intro (Val.of hσ rfl rfl) (And.intro (Val.of hσ rfl rfl) (And.intro (Val.of hσ rfl rfl) (And.intro (Val.of hσ rfl rfl) (And.intro (Val.of hσ rfl rfl) trivial)))))))))))))) ?_
     refine AWP.forget [(11, _), (10, _), (41, _), (9, _), (36, _), (31, _), (26, _), (8, _), (5, _), (4, _), (1, _), (2, _), (3, _)] ⟨rfl, rfl, rfl, rfl, rfl, rfl, rfl, rfl, rfl, rfl, rfl, rfl, rfl, trivial⟩ ?_
     refine jnw ?_
     refine jsr ?_
     refine jst hσ rfl rfl rfl rfl rfl ?_
     refine AOps.rows hσ (B0 := 57000) rfl rfl rfl rfl (c32 (s := s) h1 h2) (VAs.self rfl) rfl rfl rfl rfl rfl rfl ?_
     refine jnm ?_
     refine jf14 56 11 10 41 9 36 31 26 8 5 4 1 2 3 rfl rfl rfl rfl rfl rfl rfl rfl rfl rfl rfl rfl rfl rfl ?_
     refine AOps.heap (HS.alloc hσ rfl rfl rfl rfl rfl) rfl ?_
     refine jnm ?_
     refine AOps.heap (HS.storeBox hσ rfl rfl rfl rfl rfl rfl rfl rfl rfl rfl rfl) rfl ?_
     refine jnm ?_
     refine jns ?_
     refine jst hσ rfl rfl rfl rfl rfl ?_
     refine AOps.rows hσ (B0 := 59000) rfl rfl rfl rfl (c87 (t := t) h1 h2) (VAs.self rfl) rfl rfl rfl rfl rfl rfl ?_
     refine jnm ?_
     refine AOps.forget [(58, _), (12, _), (56, _), (11, _), (10, _), (41, _), (9, _), (36, _), (31, _), (26, _), (8, _), (5, _), (4, _), (1, _), (2, _), (3, _)] ⟨rfl, rfl, rfl, rfl, rfl, rfl, rfl, rfl, rfl, rfl, rfl, rfl, rfl, rfl, rfl, rfl, trivial⟩ ?_
     refine AOps.heap (HS.alloc hσ rfl rfl rfl rfl rfl) rfl ?_
     refine jnm ?_
     refine AOps.heap (HS.storeBox hσ rfl rfl rfl rfl rfl rfl rfl rfl rfl rfl rfl) rfl ?_
     refine jnm ?_
     refine jns ?_
     refine jst hσ rfl rfl rfl rfl rfl ?_
     refine AOps.rows hσ (B0 := 61000) rfl rfl rfl rfl (c33 (ts := p) h1 h2) (VAs.self rfl) rfl rfl rfl rfl rfl rfl ?_
     refine jnm ?_
     refine jst hσ rfl rfl rfl rfl rfl ?_
     refine AOps.forget [(14, _), (13, _), (58, _), (12, _), (56, _), (11, _), (10, _), (41, _), (9, _), (36, _), (31, _), (26, _), (8, _), (5, _), (4, _), (1, _), (2, _), (3, _)] ⟨rfl, rfl, rfl, rfl, rfl, rfl, rfl, rfl, rfl, rfl, rfl, rfl, rfl, rfl, rfl, rfl, rfl, rfl, trivial⟩ ?_
     refine jns ?_
     refine jst hσ rfl rfl rfl rfl rfl ?_
     refine AOps.rows hσ (B0 := 63000) rfl rfl rfl rfl (c33 (ts := q) h1 h2) (VAs.self rfl) rfl rfl rfl rfl rfl rfl ?_
     refine jnm ?_
     refine jst hσ rfl rfl rfl rfl rfl ?_
     refine AOps.forget [(15, _), (14, _), (13, _), (58, _), (12, _), (56, _), (11, _), (10, _), (41, _), (9, _), (36, _), (31, _), (26, _), (8, _), (5, _), (4, _), (1, _), (2, _), (3, _)] ⟨rfl, rfl, rfl, rfl, rfl, rfl, rfl, rfl, rfl, rfl, rfl, rfl, rfl, rfl, rfl, rfl, rfl, rfl, rfl, trivial⟩ ?_
     refine jns ?_
     iterate 4 refine jst hσ rfl rfl rfl rfl rfl ?_
     refine AOps.rows hσ (B0 := 69000) rfl rfl rfl rfl (ci) (.cons (.agg (.cons (.whole rfl (List.length_map _).symm) (.cons .d (.cons (.whole rfl (List.length_map _).symm) .nil)))) (.cons (.agg (.cons .d (.cons (.whole rfl (List.length_map _).symm) .nil))) (.cons (.c (.whole rfl (List.length_map _).symm)) (.cons (.c (.whole rfl (List.length_map _).symm)) .nil)))) rfl rfl rfl rfl rfl rfl ?_
     refine jnm ?_
     iterate 5 refine jst hσ rfl rfl rfl rfl rfl ?_
     refine AOps.forget [(17, _), (16, _), (15, _), (14, _), (13, _), (58, _), (12, _), (56, _), (11, _), (10, _), (41, _), (9, _), (36, _), (31, _), (26, _), (8, _), (5, _), (4, _), (1, _), (2, _), (3, _)] ⟨rfl, rfl, rfl, rfl, rfl, rfl, rfl, rfl, rfl, rfl, rfl, rfl, rfl, rfl, rfl, rfl, rfl, rfl, rfl, rfl, rfl, trivial⟩ ?_
     refine jn ?_
     refine AWP.seq ?_
     refine jsr ?_
     iterate 2 refine jst hσ rfl rfl rfl rfl rfl ?_
     refine AOps.lone hσ rfl rfl rfl rfl ((c37 (xs := ([] : List Nd)) (ys := ([] : List Nd)) h1 h2).plain (u := eB true) (by simp)) (.cons (.c .nils) (.cons (.c .d) .nil)) rfl rfl rfl rfl rfl (B0 := 74000) rfl ?_
     iterate 2 refine jst hσ rfl rfl rfl rfl rfl ?_
     refine jf22 75 17 16 15 14 13 58 12 56 11 10 41 9 36 31 26 8 5 4 1 2 3 rfl rfl rfl rfl rfl rfl rfl rfl rfl rfl rfl rfl rfl rfl rfl rfl rfl rfl rfl rfl rfl rfl ?_
     refine AOps.live rfl rfl rfl rfl rfl ?_
     refine jst hσ rfl rfl rfl rfl rfl ?_
     refine AOps.live rfl rfl rfl rfl rfl ?_
     refine jst hσ rfl rfl rfl rfl rfl ?_
     refine AOps.live rfl rfl rfl rfl rfl ?_
     refine jst hσ rfl rfl rfl rfl rfl ?_
     refine AOps.step (Val.pickN hσ rfl rfl rfl rfl rfl) rfl rfl rfl ?_
     refine jf22 79 17 16 15 14 13 58 12 56 11 10 41 9 36 31 26 8 5 4 1 2 3 rfl rfl rfl rfl rfl rfl rfl rfl rfl rfl rfl rfl rfl rfl rfl rfl rfl rfl rfl rfl rfl rfl ?_
     refine jn ?_
     refine AWP.cond hσ rfl rfl (fun hc79 => ?_) (fun hc79 => ?_)
     ·
      skip
      exact absurd (show false = true from hc79) (by decide)
     ·
      skip
      refine AWP.skip ?_
      refine AWP.seq ?_
      refine AWP.seq ?_
      refine AWP.forget [(17, _), (16, _), (15, _), (14, _), (13, _), (58, _), (12, _), (56, _), (11, _), (10, _), (41, _), (9, _), (36, _), (31, _), (26, _), (8, _), (5, _), (4, _), (1, _), (2, _), (3, _)] ⟨rfl, rfl, rfl, rfl, rfl, rfl, rfl, rfl, rfl, rfl, rfl, rfl, rfl, rfl, rfl, rfl, rfl, rfl, rfl, rfl, rfl, trivial⟩ ?_
      refine AWP.drawR hσ _ [_, _, _, _, _] [⟨[], 0, 1, none⟩, ⟨[], 0, 0, none⟩, ⟨[1], 0, 0, some 0⟩, ⟨[0, 1, 2], 0, 0, some 1⟩, ⟨[0, 1, 2, 3], 2, 2, none⟩] [2, 3] [_, _, _] rfl rfl (by decide) (by decide) (by kernel_rfl) (And.intro (And.intro (Val.of hσ rfl rfl) (Val.of hσ rfl rfl)) (And.intro (Val.of hσ rfl rfl) (And.intro (Eff.plainD hσ (B0 := 83000) rfl rfl rfl rfl (c32d (s := s) h1 h2) (VAs.self rfl) rfl rfl rfl rfl rfl) (And.intro (Eff.lone hσ (B0 := 84000) rfl rfl rfl rfl ((c36 (s := s) (t := s) h1 h2).plain (u := eB true) (by simp)) (.cons (.agg (.cons (.whole rfl (List.length_map _).symm) (.cons .d (.cons (.whole rfl (List.length_map _).symm) .nil)))) (.cons (.agg (VMs.self rfl)) .nil)) rfl rfl rfl rfl rfl) (And.intro (Val.of hσ rfl rfl) trivial))))) ?_
      refine AWP.forget [(84, _), (17, _), (16, _), (15, _), (14, _), (13, _), (58, _), (12, _), (56, _), (11, _), (10, _), (41, _), (9, _), (36, _), (31, _), (26, _), (8, _), (5, _), (4, _), (1, _), (2, _), (3, _)] ⟨rfl, rfl, rfl, rfl, rfl, rfl, rfl, rfl, rfl, rfl, rfl, rfl, rfl, rfl, rfl, rfl, rfl, rfl, rfl, rfl, rfl, rfl, trivial⟩ ?_
      refine jnw ?_
      refine AWP.cond hσ rfl rfl (fun hc84 => ?_) (fun hc84 => ?_)
      ·
       skip
       exact absurd (show false = true from hc84) (by decide)
      ·
       skip
       refine AWP.skip ?_
       refine AWP.seq ?_
       refine AWP.seq ?_
       refine AWP.forget [(17, _), (16, _), (15, _), (14, _), (13, _), (58, _), (12, _), (56, _), (11, _), (10, _), (41, _), (9, _), (36, _), (31, _), (26, _), (8, _), (5, _), (4, _), (1, _), (2, _), (3, _)] ⟨rfl, rfl, rfl, rfl, rfl, rfl, rfl, rfl, rfl, rfl, rfl, rfl, rfl, rfl, rfl, rfl, rfl, rfl, rfl, rfl, rfl, trivial⟩ ?_
       refine AWP.drawR hσ _ [_, _, _, _, _] [⟨[], 0, 1, none⟩, ⟨[], 0, 0, none⟩, ⟨[1], 0, 0, some 0⟩, ⟨[0, 1, 2], 0, 0, some 1⟩, ⟨[0, 1, 2, 3], 2, 2, none⟩] [2, 3] [_, _, _] rfl rfl (by decide) (by decide) (by kernel_rfl) (And.intro (And.intro (Val.of hσ rfl rfl) (Val.of hσ rfl rfl)) (And.intro (Val.of hσ rfl rfl) (And.intro (Eff.plainD hσ (B0 := 88000) rfl rfl rfl rfl (c87d (t := t) h1 h2) (VAs.self rfl) rfl rfl rfl rfl rfl) (And.intro (Eff.lone hσ (B0 := 89000) rfl rfl rfl rfl ((c92 (s := t) (t := t) h1 h2).plain (u := eB true) (by simp)) (.cons (.agg (.cons .d (.cons (.whole rfl (List.length_map _).symm) .nil))) (.cons (.agg (VMs.self rfl)) .nil)) rfl rfl rfl rfl rfl) (And.intro (Val.of hσ rfl rfl) trivial))))) ?_
       refine AWP.forget [(89, _), (17, _), (16, _), (15, _), (14, _), (13, _), (58, _), (12, _), (56, _), (11, _), (10, _), (41, _), (9, _), (36, _), (31, _), (26, _), (8, _), (5, _), (4, _), (1, _), (2, _), (3, _)] ⟨rfl, rfl, rfl, rfl, rfl, rfl, rfl, rfl, rfl, rfl, rfl, rfl, rfl, rfl, rfl, rfl, rfl, rfl, rfl, rfl, rfl, rfl, trivial⟩ ?_
       refine jnw ?_
       refine AWP.cond hσ rfl rfl (fun hc89 => ?_) (fun hc89 => ?_)
       ·
        skip
        exact absurd (show false = true from hc89) (by decide)
       ·
        skip
        refine AWP.skip ?_
        refine AWP.seq ?_
        refine jsr ?_
        iterate 2 refine jst hσ rfl rfl rfl rfl rfl ?_
        refine jf23 91 90 17 16 15 14 13 58 12 56 11 10 41 9 36 31 26 8 5 4 1 2 3 rfl rfl rfl rfl rfl rfl rfl rfl rfl rfl rfl rfl rfl rfl rfl rfl rfl rfl rfl rfl rfl rfl rfl ?_
        refine AOps.plainD hσ rfl rfl rfl rfl (c33d (p := p) h1 h2) (VAs.self rfl) rfl rfl rfl rfl (B0 := 93000) rfl rfl ?_
        refine jf23 92 90 17 16 15 14 13 58 12 56 11 10 41 9 36 31 26 8 5 4 1 2 3 rfl rfl rfl rfl rfl rfl rfl rfl rfl rfl rfl rfl rfl rfl rfl rfl rfl rfl rfl rfl rfl rfl rfl ?_
        refine AOps.lone hσ rfl rfl rfl rfl ((c37 (xs := p) (ys := p) h1 h2).plain (u := eB true) (by simp)) (.cons (.c (.whole rfl (List.length_map _).symm)) (.cons (.c .d) .nil)) rfl rfl rfl rfl rfl (B0 := 94000) rfl ?_
        refine jst hσ rfl rfl rfl rfl rfl ?_
        refine jf22 94 17 16 15 14 13 58 12 56 11 10 41 9 36 31 26 8 5 4 1 2 3 rfl rfl rfl rfl rfl rfl rfl rfl rfl rfl rfl rfl rfl rfl rfl rfl rfl rfl rfl rfl rfl rfl ?_
        refine jn ?_
        refine AWP.cond hσ rfl rfl (fun hc94 => ?_) (fun hc94 => ?_)
        ·
         skip
         exact absurd (show false = true from hc94) (by decide)
        ·
         skip
         refine AWP.skip ?_
         refine AWP.seq ?_
         refine jsr ?_
         iterate 2 refine jst hσ rfl rfl rfl rfl rfl ?_
         refine jf23 96 95 17 16 15 14 13 58 12 56 11 10 41 9 36 31 26 8 5 4 1 2 3 rfl rfl rfl rfl rfl rfl rfl rfl rfl rfl rfl rfl rfl rfl rfl rfl rfl rfl rfl rfl rfl rfl rfl ?_
         refine AOps.plainD hσ rfl rfl rfl rfl (c33d (p := q) h1 h2) (VAs.self rfl) rfl rfl rfl rfl (B0 := 98000) rfl rfl ?_
         refine jf23 97 95 17 16 15 14 13 58 12 56 11 10 41 9 36 31 26 8 5 4 1 2 3 rfl rfl rfl rfl rfl rfl rfl rfl rfl rfl rfl rfl rfl rfl rfl rfl rfl rfl rfl rfl rfl rfl rfl ?_
         refine AOps.lone hσ rfl rfl rfl rfl ((c37 (xs := q) (ys := q) h1 h2).plain (u := eB true) (by simp)) (.cons (.c (.whole rfl (List.length_map _).symm)) (.cons (.c .d) .nil)) rfl rfl rfl rfl rfl (B0 := 99000) rfl ?_
         refine jst hσ rfl rfl rfl rfl rfl ?_
         refine jf22 99 17 16 15 14 13 58 12 56 11 10 41 9 36 31 26 8 5 4 1 2 3 rfl rfl rfl rfl rfl rfl rfl rfl rfl rfl rfl rfl rfl rfl rfl rfl rfl rfl rfl rfl rfl rfl ?_
         refine jn ?_
         refine AWP.cond hσ rfl rfl (fun hc99 => ?_) (fun hc99 => ?_)
         ·
          skip
          exact absurd (show false = true from hc99) (by decide)
         ·
          skip
          refine AWP.skip ?_
          refine jsr ?_
          refine jst hσ rfl rfl rfl rfl rfl ?_
          refine jns ?_
          iterate 2 refine jst hσ rfl rfl rfl rfl rfl ?_
          refine AOps.forget [(101, _), (100, _), (18, _), (17, _), (16, _), (15, _), (14, _), (13, _), (58, _), (12, _), (56, _), (11, _), (10, _), (41, _), (9, _), (36, _), (31, _), (26, _), (8, _), (5, _), (4, _), (1, _), (2, _), (3, _)] ⟨rfl, rfl, rfl, rfl, rfl, rfl, rfl, rfl, rfl, rfl, rfl, rfl, rfl, rfl, rfl, rfl, rfl, rfl, rfl, rfl, rfl, rfl, rfl, rfl, trivial⟩ ?_
          refine AOps.inn hσ [57000, 57001] (bin := [trow s.facts, nrow s.goal.xs]) rfl rfl rfl rfl (c38 (s := s) (k := 1) h1 h2 (by decide) (by omega)) rfl rfl rfl rfl rfl rfl (B0 := 103000) rfl rfl ?_
          refine jnm ?_
          refine jst hσ rfl rfl rfl rfl rfl ?_
          refine jf22 18 17 16 15 14 13 58 12 56 11 10 41 9 36 31 26 8 5 4 1 2 3 rfl rfl rfl rfl rfl rfl rfl rfl rfl rfl rfl rfl rfl rfl rfl rfl rfl rfl rfl rfl rfl rfl ?_
          refine jns ?_
          iterate 2 refine jst hσ rfl rfl rfl rfl rfl ?_
          refine AOps.inn hσ [59000] (bin := [nrow t.xs]) rfl rfl rfl rfl (c94 (c := t.c) (xs := t.xs) (k := 1 + cnt nT s.facts + s.goal.xs.length) h1 h2 (by omega) (by omega)) rfl rfl rfl rfl rfl rfl (B0 := 106000) rfl rfl ?_
          refine jnm ?_
          refine jst hσ rfl rfl rfl rfl rfl ?_
          refine jf22 18 17 16 15 14 13 58 12 56 11 10 41 9 36 31 26 8 5 4 1 2 3 rfl rfl rfl rfl rfl rfl rfl rfl rfl rfl rfl rfl rfl rfl rfl rfl rfl rfl rfl rfl rfl rfl ?_
          refine jns ?_
          iterate 2 refine jst hσ rfl rfl rfl rfl rfl ?_
          refine AOps.inn hσ [61000] (bin := [ndrow p]) rfl rfl rfl rfl (c39 (ts := p) (k := 1 + cnt nT s.facts + s.goal.xs.length + t.xs.length) h1 h2 (by omega) (by omega)) rfl rfl rfl rfl rfl rfl (B0 := 109000) rfl rfl ?_
          refine jnm ?_
          refine jst hσ rfl rfl rfl rfl rfl ?_
          refine jf22 18 17 16 15 14 13 58 12 56 11 10 41 9 36 31 26 8 5 4 1 2 3 rfl rfl rfl rfl rfl rfl rfl rfl rfl rfl rfl rfl rfl rfl rfl rfl rfl rfl rfl rfl rfl rfl ?_
          refine jns ?_
          iterate 2 refine jst hσ rfl rfl rfl rfl rfl ?_
          refine AOps.inn hσ [63000] (bin := [ndrow q]) rfl rfl rfl rfl (c39 (ts := q) (k := 1 + cnt nT s.facts + s.goal.xs.length + t.xs.length + cnt nN p) h1 h2 (by omega) (by omega)) rfl rfl rfl rfl rfl rfl (B0 := 112000) rfl rfl ?_
          refine jnm ?_
          refine jst hσ rfl rfl rfl rfl rfl ?_
          refine jf22 18 17 16 15 14 13 58 12 56 11 10 41 9 36 31 26 8 5 4 1 2 3 rfl rfl rfl rfl rfl rfl rfl rfl rfl rfl rfl rfl rfl rfl rfl rfl rfl rfl rfl rfl rfl rfl ?_
          refine jn ?_
          refine AWP.seq ?_
          refine jsr ?_
          iterate 2 refine jst hσ rfl rfl rfl rfl rfl ?_
          rw [decide_eq_false (show ¬ (1 + cnt nT s.facts + s.goal.xs.length + t.xs.length + cnt nN p + cnt nN q : Int) < 0 by omega)]
          refine jst hσ rfl rfl rfl rfl rfl ?_
          refine jf23 114 18 17 16 15 14 13 58 12 56 11 10 41 9 36 31 26 8 5 4 1 2 3 rfl rfl rfl rfl rfl rfl rfl rfl rfl rfl rfl rfl rfl rfl rfl rfl rfl rfl rfl rfl rfl rfl rfl ?_
          refine AOps.live rfl rfl rfl rfl rfl ?_
          refine jst hσ rfl rfl rfl rfl rfl ?_
          refine AOps.live rfl rfl rfl rfl rfl ?_
          refine jst hσ rfl rfl rfl rfl rfl ?_
          refine AOps.live rfl rfl rfl rfl rfl ?_
          refine AOps.lone hσ rfl rfl rfl rfl ((c37 (xs := ([] : List Nd)) (ys := ([] : List Nd)) h1 h2).plain (u := eB true) (by simp)) (.cons (.c .nils) (.cons (.c .d) .nil)) rfl rfl rfl rfl rfl (B0 := 118000) rfl ?_
          refine AOps.forget [(117, _), (114, _), (18, _), (17, _), (16, _), (15, _), (14, _), (13, _), (58, _), (12, _), (56, _), (11, _), (10, _), (41, _), (9, _), (36, _), (31, _), (26, _), (8, _), (5, _), (4, _), (1, _), (2, _), (3, _)] ⟨rfl, rfl, rfl, rfl, rfl, rfl, rfl, rfl, rfl, rfl, rfl, rfl, rfl, rfl, rfl, rfl, rfl, rfl, rfl, rfl, rfl, rfl, rfl, rfl, trivial⟩ ?_
          refine AOps.live rfl rfl rfl rfl rfl ?_
          refine jst hσ rfl rfl rfl rfl rfl ?_
          refine AOps.step (Val.pickN hσ rfl rfl rfl rfl rfl) rfl rfl rfl ?_
          refine jst hσ rfl rfl rfl rfl rfl ?_
          refine jf23 120 18 17 16 15 14 13 58 12 56 11 10 41 9 36 31 26 8 5 4 1 2 3 rfl rfl rfl rfl rfl rfl rfl rfl rfl rfl rfl rfl rfl rfl rfl rfl rfl rfl rfl rfl rfl rfl rfl ?_
          refine AOps.live rfl rfl rfl rfl rfl ?_
          refine jst hσ rfl rfl rfl rfl rfl ?_
          refine AOps.live rfl rfl rfl rfl rfl ?_
          refine jst hσ rfl rfl rfl rfl rfl ?_
          refine AOps.live rfl rfl rfl rfl rfl ?_
          refine jst hσ rfl rfl rfl rfl rfl ?_
          refine AOps.step (Val.pickN hσ rfl rfl rfl rfl rfl) rfl rfl rfl ?_
          refine jf23 124 18 17 16 15 14 13 58 12 56 11 10 41 9 36 31 26 8 5 4 1 2 3 rfl rfl rfl rfl rfl rfl rfl rfl rfl rfl rfl rfl rfl rfl rfl rfl rfl rfl rfl rfl rfl rfl rfl ?_
          refine jn ?_
          refine AWP.cond hσ rfl rfl (fun hc124 => ?_) (fun hc124 => ?_)
          ·
           skip
           exact absurd (show false = true from hc124) (by decide)
          ·
           skip
           refine AWP.skip ?_
           refine jsr ?_
           refine jst hσ rfl rfl rfl rfl rfl ?_
           refine jns ?_
           iterate 2 refine jst hσ rfl rfl rfl rfl rfl ?_
           refine AOps.forget [(126, _), (125, _), (19, _), (18, _), (17, _), (16, _), (15, _), (14, _), (13, _), (58, _), (12, _), (56, _), (11, _), (10, _), (41, _), (9, _), (36, _), (31, _), (26, _), (8, _), (5, _), (4, _), (1, _), (2, _), (3, _)] ⟨rfl, rfl, rfl, rfl, rfl, rfl, rfl, rfl, rfl, rfl, rfl, rfl, rfl, rfl, rfl, rfl, rfl, rfl, rfl, rfl, rfl, rfl, rfl, rfl, rfl, trivial⟩ ?_
           refine AOps.lone hσ rfl rfl rfl rfl (c39n (k := 1) h1 h2) (.cons (.c .nils) (.cons (.c .d) .nil)) rfl rfl rfl rfl rfl (B0 := 128000) rfl ?_
           refine jst hσ rfl rfl rfl rfl rfl ?_
           refine jf23 19 18 17 16 15 14 13 58 12 56 11 10 41 9 36 31 26 8 5 4 1 2 3 rfl rfl rfl rfl rfl rfl rfl rfl rfl rfl rfl rfl rfl rfl rfl rfl rfl rfl rfl rfl rfl rfl rfl ?_
           refine jns ?_
           refine jst hσ rfl rfl rfl rfl rfl ?_
           refine jns ?_
           iterate 2 refine jst hσ rfl rfl rfl rfl rfl ?_
           refine AOps.lone hσ rfl rfl rfl rfl ((c1009 (ts := ([] : List Nd)) (k := 1) h1 h2 (by decide) (by decide)).plain (u := eI 1) rfl) (.cons (.c .nils) (.cons (.c .d) .nil)) rfl rfl rfl rfl rfl (B0 := 131000) rfl ?_
           refine jst hσ rfl rfl rfl rfl rfl ?_
           refine AOps.forget [(20, _), (19, _), (18, _), (17, _), (16, _), (15, _), (14, _), (13, _), (58, _), (12, _), (56, _), (11, _), (10, _), (41, _), (9, _), (36, _), (31, _), (26, _), (8, _), (5, _), (4, _), (1, _), (2, _), (3, _)] ⟨rfl, rfl, rfl, rfl, rfl, rfl, rfl, rfl, rfl, rfl, rfl, rfl, rfl, rfl, rfl, rfl, rfl, rfl, rfl, rfl, rfl, rfl, rfl, rfl, trivial⟩ ?_
           refine jn ?_
           refine AWP.seq ?_
           refine jsr ?_
           iterate 2 refine jst hσ rfl rfl rfl rfl rfl ?_
           refine jn ?_
           refine AWP.cond hσ rfl rfl (fun hc132 => ?_) (fun hc132 => ?_)
           ·
            skip
            exact absurd (of_decide_eq_true hc132) (by decide)
           ·
            skip
            refine AWP.skip ?_
            refine AWP.seq ?_
            refine jsr ?_
            iterate 3 refine jst hσ rfl rfl rfl rfl rfl ?_
            refine AOps.forget [(135, _), (131, _), (20, _), (19, _), (18, _), (17, _), (16, _), (15, _), (14, _), (13, _), (58, _), (12, _), (56, _), (11, _), (10, _), (41, _), (9, _), (36, _), (31, _), (26, _), (8, _), (5, _), (4, _), (1, _), (2, _), (3, _)] ⟨rfl, rfl, rfl, rfl, rfl, rfl, rfl, rfl, rfl, rfl, rfl, rfl, rfl, rfl, rfl, rfl, rfl, rfl, rfl, rfl, rfl, rfl, rfl, rfl, rfl, rfl, trivial⟩ ?_
            refine jn ?_
            refine AWP.cond hσ rfl rfl (fun hc135 => ?_) (fun hc135 => ?_)
            ·
             skip
             exact absurd hc135 (by simp)
            ·
             skip
             refine AWP.skip ?_
             refine AWP.seq ?_
             refine AWP.forget [(131, _), (20, _), (19, _), (18, _), (17, _), (16, _), (15, _), (14, _), (13, _), (58, _), (12, _), (56, _), (11, _), (10, _), (41, _), (9, _), (36, _), (31, _), (26, _), (8, _), (5, _), (4, _), (1, _), (2, _), (3, _)] ⟨rfl, rfl, rfl, rfl, rfl, rfl, rfl, rfl, rfl, rfl, rfl, rfl, rfl, rfl, rfl, rfl, rfl, rfl, rfl, rfl, rfl, rfl, rfl, rfl, rfl, trivial⟩ ?_
             refine AWP.drawR hσ _ [_, _, _, _, _, _, _, _, _, _, _, _, _, _] [⟨[], 0, 0, none⟩, ⟨[0], 0, 0, some 0⟩, ⟨[], 0, 1, none⟩, ⟨[0, 1, 2], 0, 0, some 1⟩, ⟨[], 0, 2, none⟩, ⟨[0, 1, 2, 3, 4], 0, 0, some 2⟩, ⟨[], 0, 3, none⟩, ⟨[0, 1, 2, 3, 4, 5, 6], 0, 0, some 3⟩, ⟨[0, 1, 2, 3, 4, 5, 6, 7], 0, 0, some 4⟩, ⟨[0, 1, 2, 3, 4, 5, 6, 7, 8], 5, 5, none⟩, ⟨[0, 1, 2, 3, 4, 5, 6, 7, 8, 9], 5, 5, none⟩, ⟨[0, 1, 2, 3, 4, 5, 6, 7, 8, 9], 5, 5, none⟩, ⟨[0, 1, 2, 3, 4, 5, 6, 7, 8, 9, 10], 5, 5, none⟩, ⟨[0, 1, 2, 3, 4, 5, 6, 7, 8, 9, 10, 11, 12], 5, 5, none⟩] [1, 3, 5, 7, 8] [_, _, _, _, _, _] rfl rfl (by decide) (by decide) (by kernel_rfl) (And.intro (Val.of hσ rfl rfl) (And.intro (Eff.plainD hσ (B0 := 139000) rfl rfl rfl rfl (c32d (s := s) h1 h2) (VAs.self rfl) rfl rfl rfl rfl rfl) (And.intro (And.intro (Val.of hσ rfl rfl) (Val.of hσ rfl rfl)) (And.intro (Eff.plainD hσ (B0 := 141000) rfl rfl rfl rfl (c87d (t := t) h1 h2) (VAs.self rfl) rfl rfl rfl rfl rfl) (And.intro (And.intro (Val.of hσ rfl rfl) (And.intro (Val.of hσ rfl rfl) (Val.of hσ rfl rfl))) (And.intro (Eff.plainD hσ (B0 := 143000) rfl rfl rfl rfl (c33d (p := p) h1 h2) (VAs.self rfl) rfl rfl rfl rfl rfl) (And.intro (And.intro (Val.of hσ rfl rfl) (And.intro (Val.of hσ rfl rfl) (And.intro (Val.of hσ rfl rfl) (Val.of hσ rfl rfl)))) (And.intro (Eff.plainD hσ (B0 := 145000) rfl rfl rfl rfl (c33d (p := q) h1 h2) (VAs.self rfl) rfl rfl rfl rfl rfl) (And.intro (Eff.rows hσ (B0 := 146000) rfl rfl rfl rfl (ci) (VAs.self rfl) rfl rfl rfl rfl rfl) (And.intro (Val.of hσ rfl rfl) (And.intro (Val.of hσ rfl rfl) (And.intro (Val.of hσ rfl rfl) (And.intro (Val.of hσ rfl rfl) (And.intro (Val.of hσ rfl rfl) trivial)))))))))))))) ?_
             refine AWP.forget [(22, _), (21, _), (131, _), (20, _), (19, _), (18, _), (17, _), (16, _), (15, _), (14, _), (13, _), (58, _), (12, _), (56, _), (11, _), (10, _), (41, _), (9, _), (36, _), (31, _), (26, _), (8, _), (5, _), (4, _), (1, _), (2, _), (3, _)] ⟨rfl, rfl, rfl, rfl, rfl, rfl, rfl, rfl, rfl, rfl, rfl, rfl, rfl, rfl, rfl, rfl, rfl, rfl, rfl, rfl, rfl, rfl, rfl, rfl, rfl, rfl, rfl, trivial⟩ ?_
             refine jnw ?_
             refine AWP.seq ?_
             refine jsr ?_
             iterate 2 refine jst hσ rfl rfl rfl rfl rfl ?_
             refine AOps.forget [(149, _), (148, _), (22, _), (131, _), (20, _), (19, _), (18, _), (17, _), (16, _), (15, _), (14, _), (13, _), (58, _), (12, _), (56, _), (11, _), (10, _), (41, _), (9, _), (36, _), (31, _), (26, _), (8, _), (5, _), (4, _), (1, _), (2, _), (3, _)] ⟨rfl, rfl, rfl, rfl, rfl, rfl, rfl, rfl, rfl, rfl, rfl, rfl, rfl, rfl, rfl, rfl, rfl, rfl, rfl, rfl, rfl, rfl, rfl, rfl, rfl, rfl, rfl, rfl, trivial⟩ ?_
             refine AOps.lone hσ rfl rfl rfl rfl ((c37 (xs := ([] : List Nd)) (ys := ([] : List Nd)) h1 h2).plain (u := eB true) (by simp)) (.cons (.c .nils) (.cons (.c .d) .nil)) rfl rfl rfl rfl rfl (B0 := 151000) rfl ?_
             iterate 2 refine jst hσ rfl rfl rfl rfl rfl ?_
             refine AOps.forget [(152, _), (22, _), (131, _), (20, _), (19, _), (18, _), (17, _), (16, _), (15, _), (14, _), (13, _), (58, _), (12, _), (56, _), (11, _), (10, _), (41, _), (9, _), (36, _), (31, _), (26, _), (8, _), (5, _), (4, _), (1, _), (2, _), (3, _)] ⟨rfl, rfl, rfl, rfl, rfl, rfl, rfl, rfl, rfl, rfl, rfl, rfl, rfl, rfl, rfl, rfl, rfl, rfl, rfl, rfl, rfl, rfl, rfl, rfl, rfl, rfl, rfl, trivial⟩ ?_
             refine AOps.live rfl rfl rfl rfl rfl ?_
             refine jst hσ rfl rfl rfl rfl rfl ?_
             refine AOps.forget [(153, _), (152, _), (131, _), (20, _), (19, _), (18, _), (17, _), (16, _), (15, _), (14, _), (13, _), (58, _), (12, _), (56, _), (11, _), (10, _), (41, _), (9, _), (36, _), (31, _), (26, _), (8, _), (5, _), (4, _), (1, _), (2, _), (3, _)] ⟨rfl, rfl, rfl, rfl, rfl, rfl, rfl, rfl, rfl, rfl, rfl, rfl, rfl, rfl, rfl, rfl, rfl, rfl, rfl, rfl, rfl, rfl, rfl, rfl, rfl, rfl, rfl, trivial⟩ ?_
             refine AOps.live rfl rfl rfl rfl rfl ?_
             refine jst hσ rfl rfl rfl rfl rfl ?_
             refine AOps.live rfl rfl rfl rfl rfl ?_
             refine jst hσ rfl rfl rfl rfl rfl ?_
             refine AOps.step (Val.pickN hσ rfl rfl rfl rfl rfl) rfl rfl rfl ?_
             refine AOps.forget [(156, _), (131, _), (20, _), (19, _), (18, _), (17, _), (16, _), (15, _), (14, _), (13, _), (58, _), (12, _), (56, _), (11, _), (10, _), (41, _), (9, _), (36, _), (31, _), (26, _), (8, _), (5, _), (4, _), (1, _), (2, _), (3, _)] ⟨rfl, rfl, rfl, rfl, rfl, rfl, rfl, rfl, rfl, rfl, rfl, rfl, rfl, rfl, rfl, rfl, rfl, rfl, rfl, rfl, rfl, rfl, rfl, rfl, rfl, rfl, trivial⟩ ?_
             refine jn ?_
             refine AWP.cond hσ rfl rfl (fun hc156 => ?_) (fun hc156 => ?_)
             ·
              skip
              exact absurd (show false = true from hc156) (by decide)
             ·
              skip
              refine AWP.skip ?_
              refine jsr ?_
              refine jst hσ rfl rfl rfl rfl rfl ?_
              refine jns ?_
              iterate 2 refine jst hσ rfl rfl rfl rfl rfl ?_
              refine AOps.forget [(158, _), (157, _), (20, _), (131, _), (19, _), (18, _), (17, _), (16, _), (15, _), (14, _), (13, _), (58, _), (12, _), (56, _), (11, _), (10, _), (41, _), (9, _), (36, _), (31, _), (26, _), (8, _), (5, _), (4, _), (1, _), (2, _), (3, _)] ⟨rfl, rfl, rfl, rfl, rfl, rfl, rfl, rfl, rfl, rfl, rfl, rfl, rfl, rfl, rfl, rfl, rfl, rfl, rfl, rfl, rfl, rfl, rfl, rfl, rfl, rfl, rfl, trivial⟩ ?_
              refine AOps.lone hσ rfl rfl rfl rfl ((c1009 (ts := ([] : List Nd)) (k := 1) h1 h2 (by decide) (by decide)).plain (u := eI 1) rfl) (.cons (.c .nils) (.cons (.c .d) .nil)) rfl rfl rfl rfl rfl (B0 := 160000) rfl ?_
              refine jst hσ rfl rfl rfl rfl rfl ?_
              refine AOps.forget [(20, _), (131, _), (19, _), (18, _), (17, _), (16, _), (15, _), (14, _), (13, _), (58, _), (12, _), (56, _), (11, _), (10, _), (41, _), (9, _), (36, _), (31, _), (26, _), (8, _), (5, _), (4, _), (1, _), (2, _), (3, _)] ⟨rfl, rfl, rfl, rfl, rfl, rfl, rfl, rfl, rfl, rfl, rfl, rfl, rfl, rfl, rfl, rfl, rfl, rfl, rfl, rfl, rfl, rfl, rfl, rfl, rfl, trivial⟩ ?_
              refine jn ?_
              refine AWP.seq ?_
              refine jsr ?_
              iterate 2 refine jst hσ rfl rfl rfl rfl rfl ?_
              refine jn ?_
              refine AWP.cond hσ rfl rfl (fun hc161 => ?_) (fun hc161 => ?_)
              ·
               skip
               exact absurd (of_decide_eq_true hc161) (by decide)
              ·
               skip
               refine AWP.skip ?_
               refine AWP.seq ?_
               refine jsr ?_
               iterate 3 refine jst hσ rfl rfl rfl rfl rfl ?_
               refine AOps.forget [(164, _), (160, _), (20, _), (131, _), (19, _), (18, _), (17, _), (16, _), (15, _), (14, _), (13, _), (58, _), (12, _), (56, _), (11, _), (10, _), (41, _), (9, _), (36, _), (31, _), (26, _), (8, _), (5, _), (4, _), (1, _), (2, _), (3, _)] ⟨rfl, rfl, rfl, rfl, rfl, rfl, rfl, rfl, rfl, rfl, rfl, rfl, rfl, rfl, rfl, rfl, rfl, rfl, rfl, rfl, rfl, rfl, rfl, rfl, rfl, rfl, rfl, trivial⟩ ?_
               refine jn ?_
               refine AWP.cond hσ rfl rfl (fun hc164 => ?_) (fun hc164 => ?_)
               ·
                skip
                exact absurd hc164 (by simp)
               ·
                skip
                refine AWP.skip ?_
                refine jsr ?_
                refine jst hσ rfl rfl rfl rfl rfl ?_
                refine jn ?_
                refine AWP.ret ?_
                refine ⟨.inl rfl, _, Ent.refl, _, rfl, ?_⟩
                rfl
theorem c1002a {L : Nat} (h1 : 4096 ≤ L) (h2 : L ≤ 9223372036854775807) {s : Sq} {t : Tm} {p : List Nd} {q : List Nd} (hz : szr 1048576 s.size < 0) : MC Try.prog L 5 [aSq s, aTm' t, ands p, ands q] [] (Plain (eB true)) := by
 refine MC.alone ?_ rfl
 have hσ := SGok (nt := 165) h1 h2
 refine MC.body hσ Try.func5 (by kernel_rfl) rfl rfl (Nat.le_of_ble_eq_true rfl) (fun hF => ?_)
 refine jsr ?_
 refine AOps.heap (HS.box hσ rfl rfl rfl rfl rfl rfl rfl) rfl ?_
 refine jnm ?_
 refine jf4 4 1 2 3 rfl rfl rfl rfl ?_
 refine AOps.heap (HS.box hσ rfl rfl rfl rfl rfl rfl rfl) rfl ?_
 refine jnm ?_
 refine jst hσ rfl rfl rfl rfl rfl ?_
 refine jns ?_
 refine jst hσ rfl rfl rfl rfl rfl ?_
 refine jns ?_
 iterate 2 refine jst hσ rfl rfl rfl rfl rfl ?_
 refine AOps.lone hσ rfl rfl rfl rfl (c29 (s := s) (left := 1048576) h1 h2 (by decide) (by decide)) (VAs.self rfl) rfl rfl rfl rfl rfl (B0 := 26000) rfl ?_
 refine jst hσ rfl rfl rfl rfl rfl ?_
 refine jf7 9 8 5 4 1 2 3 rfl rfl rfl rfl rfl rfl rfl ?_
 refine jn ?_
 refine AWP.seq ?_
 refine jsr ?_
 iterate 2 refine jst hσ rfl rfl rfl rfl rfl ?_
 refine jn ?_
 refine AWP.cond hσ rfl rfl (fun hc27 => ?_) (fun hc27 => ?_)
 ·
  skip
  refine jsr ?_
  refine jst hσ rfl rfl rfl rfl rfl ?_
  refine jn ?_
  refine AWP.ret ?_
  refine ⟨.inl rfl, _, Ent.refl, _, rfl, ?_⟩
  rfl
 ·
  skip
  exact absurd (of_decide_eq_false hc27) (fun h => h hz)
theorem c1002b {L : Nat} (h1 : 4096 ≤ L) (h2 : L ≤ 9223372036854775807) {s : Sq} {t : Tm} {p : List Nd} {q : List Nd} (hz1 : 0 ≤ szr 1048576 s.size) (hz : szr (szr 1048576 s.size) t.size < 0) : MC Try.prog L 5 [aSq s, aTm' t, ands p, ands q] [] (Plain (eB true)) := by
 refine MC.alone ?_ rfl
 have hσ := SGok (nt := 165) h1 h2
 refine MC.body hσ Try.func5 (by kernel_rfl) rfl rfl (Nat.le_of_ble_eq_true rfl) (fun hF => ?_)
 refine jsr ?_
 refine AOps.heap (HS.box hσ rfl rfl rfl rfl rfl rfl rfl) rfl ?_
 refine jnm ?_
 refine jf4 4 1 2 3 rfl rfl rfl rfl ?_
 refine AOps.heap (HS.box hσ rfl rfl rfl rfl rfl rfl rfl) rfl ?_
 refine jnm ?_
 refine jst hσ rfl rfl rfl rfl rfl ?_
 refine jns ?_
 refine jst hσ rfl rfl rfl rfl rfl ?_
 refine jns ?_
 iterate 2 refine jst hσ rfl rfl rfl rfl rfl ?_
 refine AOps.lone hσ rfl rfl rfl rfl (c29 (s := s) (left := 1048576) h1 h2 (by decide) (by decide)) (VAs.self rfl) rfl rfl rfl rfl rfl (B0 := 26000) rfl ?_
 refine jst hσ rfl rfl rfl rfl rfl ?_
 refine jf7 9 8 5 4 1 2 3 rfl rfl rfl rfl rfl rfl rfl ?_
 refine jn ?_
 refine AWP.seq ?_
 refine jsr ?_
 iterate 2 refine jst hσ rfl rfl rfl rfl rfl ?_
 refine jn ?_
 refine AWP.cond hσ rfl rfl (fun hc27 => ?_) (fun hc27 => ?_)
 ·
  skip
  exact absurd (of_decide_eq_true hc27) (Int.not_lt.2 hz1)
 ·
  skip
  refine AWP.skip ?_
  refine jsr ?_
  iterate 2 refine jst hσ rfl rfl rfl rfl rfl ?_
  refine jf10 29 28 26 9 8 5 4 1 2 3 rfl rfl rfl rfl rfl rfl rfl rfl rfl rfl ?_
  have hle0 := szr_le (left := 1048576) (by decide) s.size
  refine AOps.lone hσ rfl rfl rfl rfl (c80 (t := t) (left := szr 1048576 s.size) h1 h2 hz1 (by omega)) (VAs.self rfl) rfl rfl rfl rfl rfl (B0 := 31000) rfl ?_
  refine jst hσ rfl rfl rfl rfl rfl ?_
  refine jf8 9 26 8 5 4 1 2 3 rfl rfl rfl rfl rfl rfl rfl rfl ?_
  refine jn ?_
  refine AWP.seq ?_
  refine jsr ?_
  iterate 2 refine jst hσ rfl rfl rfl rfl rfl ?_
  refine jn ?_
  refine AWP.cond hσ rfl rfl (fun hc32 => ?_) (fun hc32 => ?_)
  ·
   skip
   refine jsr ?_
   refine jst hσ rfl rfl rfl rfl rfl ?_
   refine jn ?_
   refine AWP.ret ?_
   refine ⟨.inl rfl, _, Ent.refl, _, rfl, ?_⟩
   rfl
  ·
   skip
   exact absurd (of_decide_eq_false hc32) (fun h => h hz)
theorem c1002c {L : Nat} (h1 : 4096 ≤ L) (h2 : L ≤ 9223372036854775807) {s : Sq} {t : Tm} {p : List Nd} {q : List Nd} (hz1 : 0 ≤ szr 1048576 s.size) (hz2 : 0 ≤ szr (szr 1048576 s.size) t.size) (hz : szr (szr (szr 1048576 s.size) t.size) (Al.szs Nd.size p) < 0) : MC Try.prog L 5 [aSq s, aTm' t, ands p, ands q] [] (Plain (eB true)) := by
 refine MC.alone ?_ rfl
 have hσ := SGok (nt := 165) h1 h2
 refine MC.body hσ Try.func5 (by kernel_rfl) rfl rfl (Nat.le_of_ble_eq_true rfl) (fun hF => ?_)
 refine jsr ?_
 refine AOps.heap (HS.box hσ rfl rfl rfl rfl rfl rfl rfl) rfl ?_
 refine jnm ?_
 refine jf4 4 1 2 3 rfl rfl rfl rfl ?_
 refine AOps.heap (HS.box hσ rfl rfl rfl rfl rfl rfl rfl) rfl ?_
 refine jnm ?_
 refine jst hσ rfl rfl rfl rfl rfl ?_
 refine jns ?_
 refine jst hσ rfl rfl rfl rfl rfl ?_
 refine jns ?_
 iterate 2 refine jst hσ rfl rfl rfl rfl rfl ?_
 refine AOps.lone hσ rfl rfl rfl rfl (c29 (s := s) (left := 1048576) h1 h2 (by decide) (by decide)) (VAs.self rfl) rfl rfl rfl rfl rfl (B0 := 26000) rfl ?_
 refine jst hσ rfl rfl rfl rfl rfl ?_
 refine jf7 9 8 5 4 1 2 3 rfl rfl rfl rfl rfl rfl rfl ?_
 refine jn ?_
 refine AWP.seq ?_
 refine jsr ?_
 iterate 2 refine jst hσ rfl rfl rfl rfl rfl ?_
 refine jn ?_
 refine AWP.cond hσ rfl rfl (fun hc27 => ?_) (fun hc27 => ?_)
 ·
  skip
  exact absurd (of_decide_eq_true hc27) (Int.not_lt.2 hz1)
 ·
  skip
  refine AWP.skip ?_
  refine jsr ?_
  iterate 2 refine jst hσ rfl rfl rfl rfl rfl ?_
  refine jf10 29 28 26 9 8 5 4 1 2 3 rfl rfl rfl rfl rfl rfl rfl rfl rfl rfl ?_
  have hle0 := szr_le (left := 1048576) (by decide) s.size
  refine AOps.lone hσ rfl rfl rfl rfl (c80 (t := t) (left := szr 1048576 s.size) h1 h2 hz1 (by omega)) (VAs.self rfl) rfl rfl rfl rfl rfl (B0 := 31000) rfl ?_
  refine jst hσ rfl rfl rfl rfl rfl ?_
  refine jf8 9 26 8 5 4 1 2 3 rfl rfl rfl rfl rfl rfl rfl rfl ?_
  refine jn ?_
  refine AWP.seq ?_
  refine jsr ?_
  iterate 2 refine jst hσ rfl rfl rfl rfl rfl ?_
  refine jn ?_
  refine AWP.cond hσ rfl rfl (fun hc32 => ?_) (fun hc32 => ?_)
  ·
   skip
   exact absurd (of_decide_eq_true hc32) (Int.not_lt.2 hz2)
  ·
   skip
   refine AWP.skip ?_
   refine jsr ?_
   iterate 2 refine jst hσ rfl rfl rfl rfl rfl ?_
   refine jf11 34 33 31 9 26 8 5 4 1 2 3 rfl rfl rfl rfl rfl rfl rfl rfl rfl rfl rfl ?_
   have hle0 := szr_le (left := 1048576) (by decide) s.size
   have hle1 := szr_le (left := szr 1048576 s.size) hz1 t.size
   refine AOps.lone hσ rfl rfl rfl rfl (c30 (ts := p) (left := szr (szr 1048576 s.size) t.size) h1 h2 hz2 (by omega)) (VAs.self rfl) rfl rfl rfl rfl rfl (B0 := 36000) rfl ?_
   refine jst hσ rfl rfl rfl rfl rfl ?_
   refine jf9 9 31 26 8 5 4 1 2 3 rfl rfl rfl rfl rfl rfl rfl rfl rfl ?_
   refine jn ?_
   refine AWP.seq ?_
   refine jsr ?_
   iterate 2 refine jst hσ rfl rfl rfl rfl rfl ?_
   refine jn ?_
   refine AWP.cond hσ rfl rfl (fun hc37 => ?_) (fun hc37 => ?_)
   ·
    skip
    refine jsr ?_
    refine jst hσ rfl rfl rfl rfl rfl ?_
    refine jn ?_
    refine AWP.ret ?_
    refine ⟨.inl rfl, _, Ent.refl, _, rfl, ?_⟩
    rfl
   ·
    skip
    exact absurd (of_decide_eq_false hc37) (fun h => h hz)
theorem c1002d {L : Nat} (h1 : 4096 ≤ L) (h2 : L ≤ 9223372036854775807) {s : Sq} {t : Tm} {p : List Nd} {q : List Nd} (hz1 : 0 ≤ szr 1048576 s.size) (hz2 : 0 ≤ szr (szr 1048576 s.size) t.size) (hz3 : 0 ≤ szr (szr (szr 1048576 s.size) t.size) (Al.szs Nd.size p)) (hz : szr (szr (szr (szr 1048576 s.size) t.size) (Al.szs Nd.size p)) (Al.szs Nd.size q) < 0) : MC Try.prog L 5 [aSq s, aTm' t, ands p, ands q] [] (Plain (eB true)) := by
 refine MC.alone ?_ rfl
 have hσ := SGok (nt := 165) h1 h2
 refine MC.body hσ Try.func5 (by kernel_rfl) rfl rfl (Nat.le_of_ble_eq_true rfl) (fun hF => ?_)
 refine jsr ?_
 refine AOps.heap (HS.box hσ rfl rfl rfl rfl rfl rfl rfl) rfl ?_
 refine jnm ?_
 refine jf4 4 1 2 3 rfl rfl rfl rfl ?_
 refine AOps.heap (HS.box hσ rfl rfl rfl rfl rfl rfl rfl) rfl ?_
 refine jnm ?_
 refine jst hσ rfl rfl rfl rfl rfl ?_
 refine jns ?_
 refine jst hσ rfl rfl rfl rfl rfl ?_
 refine jns ?_
 iterate 2 refine jst hσ rfl rfl rfl rfl rfl ?_
 refine AOps.lone hσ rfl rfl rfl rfl (c29 (s := s) (left := 1048576) h1 h2 (by decide) (by decide)) (VAs.self rfl) rfl rfl rfl rfl rfl (B0 := 26000) rfl ?_
 refine jst hσ rfl rfl rfl rfl rfl ?_
 refine jf7 9 8 5 4 1 2 3 rfl rfl rfl rfl rfl rfl rfl ?_
 refine jn ?_
 refine AWP.seq ?_
 refine jsr ?_
 iterate 2 refine jst hσ rfl rfl rfl rfl rfl ?_
 refine jn ?_
 refine AWP.cond hσ rfl rfl (fun hc27 => ?_) (fun hc27 => ?_)
 ·
  skip
  exact absurd (of_decide_eq_true hc27) (Int.not_lt.2 hz1)
 ·
  skip
  refine AWP.skip ?_
  refine jsr ?_
  iterate 2 refine jst hσ rfl rfl rfl rfl rfl ?_
  refine jf10 29 28 26 9 8 5 4 1 2 3 rfl rfl rfl rfl rfl rfl rfl rfl rfl rfl ?_
  have hle0 := szr_le (left := 1048576) (by decide) s.size
  refine AOps.lone hσ rfl rfl rfl rfl (c80 (t := t) (left := szr 1048576 s.size) h1 h2 hz1 (by omega)) (VAs.self rfl) rfl rfl rfl rfl rfl (B0 := 31000) rfl ?_
  refine jst hσ rfl rfl rfl rfl rfl ?_
  refine jf8 9 26 8 5 4 1 2 3 rfl rfl rfl rfl rfl rfl rfl rfl ?_
  refine jn ?_
  refine AWP.seq ?_
  refine jsr ?_
  iterate 2 refine jst hσ rfl rfl rfl rfl rfl ?_
  refine jn ?_
  refine AWP.cond hσ rfl rfl (fun hc32 => ?_) (fun hc32 => ?_)
  ·
   skip
   exact absurd (of_decide_eq_true hc32) (Int.not_lt.2 hz2)
  ·
   skip
   refine AWP.skip ?_
   refine jsr ?_
   iterate 2 refine jst hσ rfl rfl rfl rfl rfl ?_
   refine jf11 34 33 31 9 26 8 5 4 1 2 3 rfl rfl rfl rfl rfl rfl rfl rfl rfl rfl rfl ?_
   have hle0 := szr_le (left := 1048576) (by decide) s.size
   have hle1 := szr_le (left := szr 1048576 s.size) hz1 t.size
   refine AOps.lone hσ rfl rfl rfl rfl (c30 (ts := p) (left := szr (szr 1048576 s.size) t.size) h1 h2 hz2 (by omega)) (VAs.self rfl) rfl rfl rfl rfl rfl (B0 := 36000) rfl ?_
   refine jst hσ rfl rfl rfl rfl rfl ?_
   refine jf9 9 31 26 8 5 4 1 2 3 rfl rfl rfl rfl rfl rfl rfl rfl rfl ?_
   refine jn ?_
   refine AWP.seq ?_
   refine jsr ?_
   iterate 2 refine jst hσ rfl rfl rfl rfl rfl ?_
   refine jn ?_
   refine AWP.cond hσ rfl rfl (fun hc37 => ?_) (fun hc37 => ?_)
   ·
    skip
    exact absurd (of_decide_eq_true hc37) (Int.not_lt.2 hz3)
   ·
    skip
    refine AWP.skip ?_
    refine jsr ?_
    iterate 2 refine jst hσ rfl rfl rfl rfl rfl ?_
    refine jf12 39 38 36 9 31 26 8 5 4 1 2 3 rfl rfl rfl rfl rfl rfl rfl rfl rfl rfl rfl rfl ?_
    have hle0 := szr_le (left := 1048576) (by decide) s.size
    have hle1 := szr_le (left := szr 1048576 s.size) hz1 t.size
    have hle2 := szr_le (left := szr (szr 1048576 s.size) t.size) hz2 (Al.szs Nd.size p)
    refine AOps.lone hσ rfl rfl rfl rfl (c30 (ts := q) (left := szr (szr (szr 1048576 s.size) t.size) (Al.szs Nd.size p)) h1 h2 hz3 (by omega)) (VAs.self rfl) rfl rfl rfl rfl rfl (B0 := 41000) rfl ?_
    refine jst hσ rfl rfl rfl rfl rfl ?_
    refine jf10 9 36 31 26 8 5 4 1 2 3 rfl rfl rfl rfl rfl rfl rfl rfl rfl rfl ?_
    refine jn ?_
    refine AWP.seq ?_
    refine jsr ?_
    iterate 2 refine jst hσ rfl rfl rfl rfl rfl ?_
    refine jn ?_
    refine AWP.cond hσ rfl rfl (fun hc42 => ?_) (fun hc42 => ?_)
    ·
     skip
     refine jsr ?_
     refine jst hσ rfl rfl rfl rfl rfl ?_
     refine jn ?_
     refine AWP.ret ?_
     refine ⟨.inl rfl, _, Ent.refl, _, rfl, ?_⟩
     rfl
    ·
     skip
     exact absurd (of_decide_eq_false hc42) (fun h => h hz)
end Go.Al
namespace Go.Al
open Go.Proofs
set_option linter.unusedVariables false
set_option linter.unusedSimpArgs false
theorem fact_tm {L S : Nat} {t : Tm} (h : Ds.fact L t.cells) (hl : t.size ≤ S) : Ds.fact S t.cells := ⟨h.1, fact_ints h.2.1 hl, trivial⟩
/-- The law of JoinProofs holds for all arguments. -/
theorem law1002 {L : Nat} (h1 : 4096 ≤ L) (h2 : L ≤ 9223372036854775807) {s : Sq} {t : Tm} {p q : List Nd} : MC Try.prog L 5 [aSq s, aTm' t, ands p, ands q] [] (Plain (eB true)) := by
  by_cases hz1 : szr 1048576 s.size < 0
  · exact c1002a h1 h2 hz1
  have hz1' : 0 ≤ szr 1048576 s.size := by omega
  by_cases hz2 : szr (szr 1048576 s.size) t.size < 0
  · exact c1002b h1 h2 hz1' hz2
  have hz2' : 0 ≤ szr (szr 1048576 s.size) t.size := by omega
  by_cases hz3 : szr (szr (szr 1048576 s.size) t.size) (szs Nd.size p) < 0
  · exact c1002c h1 h2 hz1' hz2' hz3
  have hz3' : 0 ≤ szr (szr (szr 1048576 s.size) t.size) (szs Nd.size p) := by omega
  by_cases hz4 : szr (szr (szr (szr 1048576 s.size) t.size) (szs Nd.size p)) (szs Nd.size q) < 0
  · exact c1002d h1 h2 hz1' hz2' hz3' hz4
  have hz4' : 0 ≤ szr (szr (szr (szr 1048576 s.size) t.size) (szs Nd.size p)) (szs Nd.size q) := by omega
  have g1 := szr_nonneg hz1' (by decide)
  have g2 := szr_nonneg hz2' hz1'
  have g3 := szr_nonneg hz3' hz2'
  have g4 := szr_nonneg hz4' hz3'
  have l1 := szr_le (left := 1048576) (by decide) s.size
  have l2 := szr_le (left := szr 1048576 s.size) hz1' t.size
  have l3 := szr_le (left := szr (szr 1048576 s.size) t.size) hz2' (szs Nd.size p)
  have k1 := cnt_szs s.facts
  have k2 := cnt_szsN p
  have k3 := cnt_szsN q
  have e1 : s.size = szs Tm.size s.facts + s.goal.xs.length := rfl
  have e2 : t.size = t.xs.length := rfl
  have hcp : 1 + cnt nT s.facts + s.goal.xs.length + t.xs.length + cnt nN p + cnt nN q ≤ (1073741824 : Int) := by omega
  refine MC.facts ⟨_, _, Try.func5, by kernel_rfl, rfl⟩ fun hF => ?_
  refine MC.lift (L0 := 1073741824) rfl ?_ ?_
  · exact ⟨fact_sq hF.1 (by omega), fact_tm hF.2.1 (by omega), fact_nds hF.2.2.1 (by omega), fact_nds hF.2.2.2.1 (by omega), trivial⟩
  · have cs := c1012 (L := 1073741824) (s := s) (t := t) (p := p) (q := q) (by decide) (Nat.le_refl _)
    have no : ∀ (hn : ¬ (seqB s = true ∧ chkS (oneSq s t) p = true ∧ chkS (twoSq s t) q = true)), joinS s t p q = ([], false) := fun hn => by unfold joinS; rw [if_neg hn]
    cases hs : seqB s with
    | false =>
      rw [no (fun h => by rw [h.1] at hs; cases hs)] at cs
      exact c1002n (by decide) (Nat.le_refl _) cs (c1013n1 (by decide) (Nat.le_refl _) hs) hz1' hz2' hz3' hz4' hcp
    | true =>
      cases hk1 : chkS (oneSq s t) p with
      | false =>
        rw [no (fun h => by rw [h.2.1] at hk1; cases hk1)] at cs
        exact c1002n (by decide) (Nat.le_refl _) cs (c1013n2 (by decide) (Nat.le_refl _) hs hk1) hz1' hz2' hz3' hz4' hcp
      | true =>
        cases hk2 : chkS (twoSq s t) q with
        | false =>
          rw [no (fun h => by rw [h.2.2] at hk2; cases hk2)] at cs
          exact c1002n (by decide) (Nat.le_refl _) cs (c1013n3 (by decide) (Nat.le_refl _) hs hk1 hk2) hz1' hz2' hz3' hz4' hcp
        | true =>
          cases hv : chkS s (joinNds s.facts.length t p q) with
          | true =>
            rw [show joinS s t p q = (joinNds s.facts.length t p q, true) from by unfold joinS; rw [if_pos ⟨hs, hk1, hk2⟩, if_pos hv]] at cs
            exact c1002v (rp := joinNds s.facts.length t p q) (by decide) (Nat.le_refl _) rfl (by have := cnt_nds (chkS_spec hv).2; omega) cs (c1013v (by decide) (Nat.le_refl _) hs hk1 hk2 hv) hz1' hz2' hz3' hz4' hcp
          | false =>
            rw [show joinS s t p q = ([], false) from by unfold joinS; rw [if_pos ⟨hs, hk1, hk2⟩, if_neg (by rw [hv]; decide)]] at cs
            exact c1002n (by decide) (Nat.le_refl _) cs (c1013m (by decide) (Nat.le_refl _) hs hk1 hk2 hv) hz1' hz2' hz3' hz4' hcp
end Go.Al
