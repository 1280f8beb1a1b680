/- Contracts of the program's functions for terms and proofs. -/
import Derived.Test.YthceepaoikcceaaG
namespace Go.Al
open Go.Proofs
set_option linter.unusedVariables false
set_option linter.unusedSimpArgs false
set_option maxRecDepth 10000
theorem ctx1 {t : Tm} (h : t.ok = true) : CtxOk [t] := ⟨fun u hu => by simp at hu; subst hu; exact h, by simp⟩
theorem dot1 {t : Tm} (h : Small t) : -1000000 ≤ dotG Tm.c [t] [-1] ∧ dotG Tm.c [t] [-1] ≤ 1000000 := by
  have := num_iff.1 h.c
  show -1000000 ≤ -1 * t.c + 0 ∧ -1 * t.c + 0 ≤ 1000000
  omega
theorem c186 {L : Nat} (h1 : 4096 ≤ L) (h2 : L ≤ 1073741824) {t : Tm} (ht : t.ok = true) : MC Try.prog L 106 [aTm' t] [] (Plain (aTm' (oppI t))) := by
 refine MC.data ?_
 have hσ := SGok (nt := 13) h1 (Nat.le_trans h2 (by decide))
 refine MC.body hσ Try.func106 (by kernel_rfl) rfl rfl (Nat.le_of_ble_eq_true rfl) (fun hF => ?_)
 have hd1 := dot1 (Small.of ht)
 refine jsr ?_
 refine AOps.heap (HS.box hσ rfl rfl rfl rfl rfl rfl rfl) rfl ?_
 refine AOps.forget [(1, _)] ⟨rfl, trivial⟩ ?_
 refine AOps.heap (HS.alloc hσ rfl rfl rfl rfl rfl) rfl ?_
 refine jns ?_
 refine jst hσ rfl rfl rfl rfl rfl ?_
 refine AOps.forget [(4, _), (2, _)] ⟨rfl, rfl, trivial⟩ ?_
 refine AOps.heap (HS.litD hσ rfl rfl rfl rfl rfl rfl rfl rfl rfl rfl rfl) rfl ?_
 refine AOps.forget [(5, _), (2, _)] ⟨rfl, rfl, trivial⟩ ?_
 refine AOps.heap (HS.lit hσ rfl rfl rfl) rfl ?_
 refine AOps.to (Ent.freeze 5 (e' := [(6, _), (5, _), (2, _)]) rfl (.cons rfl (.keep rfl) (.cons rfl (.c (.row rfl rfl)) (.cons rfl (.keep rfl) .nil))) (.cons rfl (.box (.cons (.keep rfl) (.cons (.keep rfl) .nil))) (.cons rfl (.box (.cons (.keep rfl) (.cons (.keep rfl) .nil))) (.skip (.cons rfl .row .nil))))) ?_
 refine AOps.to (Ent.freeze 6 (e' := [(6, _), (5, _), (2, _)]) rfl (.cons rfl (.c (.row rfl rfl)) (.cons rfl (.keep rfl) (.cons rfl (.keep rfl) .nil))) (.cons rfl (.box (.cons (.keep rfl) (.cons (.keep rfl) .nil))) (.cons rfl (.box (.cons (.keep rfl) (.cons (.keep rfl) .nil))) (.skip .nil)))) ?_
 refine AOps.plainD hσ rfl rfl rfl rfl (c201 (ts := [t]) (ms := [-1]) h1 h2 (ctx1 ht) (by decide) (Nat.le_refl 1)) (VAs.self rfl) rfl rfl rfl rfl (B0 := 8000) rfl rfl ?_
 refine AOps.forget [(7, _), (2, _)] ⟨rfl, rfl, trivial⟩ ?_
 refine AOps.heap (HS.alloc hσ rfl rfl rfl rfl rfl) rfl ?_
 refine AOps.heap (HS.storeBox hσ rfl rfl rfl rfl rfl rfl rfl rfl rfl rfl rfl) rfl ?_
 refine jns ?_
 iterate 2 refine jst hσ rfl rfl rfl rfl rfl ?_
 first | refine jfi hσ rfl rfl rfl rfl rfl ?_ | refine jvf hσ rfl rfl rfl rfl rfl ?_
 refine jst hσ rfl rfl rfl rfl rfl ?_
 refine jf5 11 10 3 7 2 rfl rfl rfl rfl rfl ?_
 refine AOps.heap (HS.storeBox hσ rfl rfl rfl rfl rfl rfl rfl rfl rfl rfl rfl) rfl ?_
 refine AOps.forget [(3, _), (7, _), (2, _)] ⟨rfl, rfl, rfl, trivial⟩ ?_
 refine jns ?_
 refine jst hσ rfl rfl rfl rfl rfl ?_
 refine AOps.heap (HS.storeBox hσ rfl rfl rfl rfl rfl rfl rfl rfl rfl rfl rfl) rfl ?_
 refine jn ?_
 refine AWP.ret ?_
 refine ⟨.inl rfl, _, Ent.refl, _, rfl, ?_⟩
 exact .v (.agg (VMs.self rfl))
theorem c144 {L : Nat} (h1 : 4096 ≤ L) (h2 : L ≤ 1073741824) {s : Sq} : MC Try.prog L 83 [aSq s] [] (Plain (resC (ctxI s))) := by
 refine MC.data ?_
 have hσ := SGok (nt := 23) h1 (Nat.le_trans h2 (by decide))
 refine MC.body hσ Try.func83 (by kernel_rfl) rfl rfl (Nat.le_of_ble_eq_true rfl) (fun hF => ?_)
 refine jsr ?_
 refine AOps.heap (HS.box hσ rfl rfl rfl rfl rfl rfl rfl) rfl ?_
 iterate 2 refine jst hσ rfl rfl rfl rfl rfl ?_
 refine jn ?_
 refine AWP.seq ?_
 refine jsr ?_
 refine jst hσ rfl rfl rfl rfl rfl ?_
 refine AOps.lone hσ rfl rfl rfl rfl (c184 (s := s) h1 h2) (VAs.self rfl) rfl rfl rfl rfl rfl (B0 := 6000) rfl ?_
 iterate 2 refine jst hσ rfl rfl rfl rfl rfl ?_
 refine jf5 7 3 2 1 0 rfl rfl rfl rfl rfl ?_
 refine AOps.gr 5 rfl rfl rfl (fun hx => AN.step hx rfl rfl rfl (Val.of hσ rfl rfl) rfl rfl ( AN.step hx rfl rfl rfl (Val.of hσ rfl rfl) rfl rfl ( AN.plainD hσ hx rfl rfl rfl rfl (c186 (t := s.goal) h1 h2 (seqB_spec (by simpa using hx)).2.2) (VAs.self rfl) (B0 := 11000) rfl rfl rfl rfl rfl rfl rfl rfl ( AN.lone hσ hx rfl rfl rfl rfl (c185 (t := oppI s.goal) h1 h2) (VAs.self rfl) rfl rfl rfl rfl rfl rfl rfl (B0 := 12000) rfl ( AN.step hx rfl rfl rfl (Val.of hσ rfl rfl) rfl rfl ( AN.nil)))))) rfl rfl ?_
 first | refine AOps.step (Val.pickF hσ rfl rfl rfl rfl rfl) rfl rfl rfl ?_ | refine AOps.step (Val.pickB hσ rfl rfl rfl rfl rfl) rfl rfl rfl ?_ | refine AOps.step (Val.pickT hσ rfl rfl rfl rfl rfl) rfl rfl rfl ?_
 refine jf5 13 3 2 1 0 rfl rfl rfl rfl rfl ?_
 refine jn ?_
 refine AWP.cond hσ rfl rfl (fun hc13 => ?_) (fun hc13 => ?_)
 ·
  skip
  refine jsr ?_
  iterate 2 refine jst hσ rfl rfl rfl rfl rfl ?_
  refine jn ?_
  refine AWP.ret ?_
  refine ⟨.inl rfl, _, Ent.refl, _, rfl, ?_⟩
  have hg : (seqB s && (oppI s.goal).ok) = false := by have h9 := hc13; rw [g2] at h9; exact nt h9
  rw [show ctxI s = ([], false) from if_neg (by rw [hg]; decide)]
  exact .tup (.cons (.c .nils) (.cons (.c .d) .nil))
 ·
  skip
  refine AWP.skip ?_
  refine AWP.seq ?_
  refine AWP.forget [(1, _), (0, _)] ⟨rfl, rfl, trivial⟩ ?_
  have hg : (seqB s && (oppI s.goal).ok) = true := by have h9 := hc13; rw [g2] at h9; exact nf h9
  have hsq := (Bool.and_eq_true _ _ ▸ hg).1
  obtain ⟨hs1, hs2, hs3⟩ := seqB_spec hsq
  refine AWP.drawP hσ _ [_, _, _, _, _, _, _, _, _, _, _] [⟨[], 0, 0, none⟩, ⟨[0], 0, 0, none⟩, ⟨[0, 1], 0, 0, some 0⟩, ⟨[], 0, 1, none⟩, ⟨[3], 0, 1, none⟩, ⟨[0, 1, 2, 3, 4], 0, 0, some 1⟩, ⟨[0, 1, 2, 3, 4, 5], 0, 0, some 2⟩, ⟨[0, 1, 2, 3, 4, 5, 6], 0, 0, some 3⟩, ⟨[0, 1, 2, 3, 4, 5, 6, 7], 0, 0, some 4⟩, ⟨[0, 1, 2, 3, 4, 5, 6, 7, 8], 5, 5, none⟩, ⟨[0, 1, 2, 3, 4, 5, 6, 7, 8, 9], 5, 5, none⟩] [2, 5, 6, 7, 8] [_, _, _, _, _, _] [[], [], [], [], [17000]] rfl rfl (by decide) (by decide) (by kernel_rfl) (And.intro (And.intro (Val.of hσ rfl rfl) rfl) (And.intro (And.intro (Val.of hσ rfl rfl) rfl) (And.intro (And.intro (Eff.p (Eff.rowsD hσ (B0 := 17000) rfl rfl rfl rfl (c91r (ts := s.facts) h1 h2) (VAs.self rfl) rfl rfl rfl rfl)) rfl) (And.intro (And.intro (And.intro (Val.of hσ rfl rfl) rfl) (And.intro (Val.of hσ rfl rfl) rfl)) (And.intro (And.intro (And.intro (Val.of hσ rfl rfl) rfl) (And.intro (Val.of hσ rfl rfl) rfl)) (And.intro (And.intro (Eff.p (Eff.plainD hσ (B0 := 20000) rfl rfl rfl rfl (c186 (t := s.goal) h1 h2 hs3) (VAs.self rfl) rfl rfl rfl rfl rfl)) rfl) (And.intro (And.intro (Eff.p (Eff.plainD hσ (B0 := 21000) rfl rfl rfl rfl (c148 (t := oppI s.goal) h1 h2) (VAs.self rfl) rfl rfl rfl rfl rfl)) rfl) (And.intro (And.intro (Eff.p (Eff.litD hσ rfl rfl rfl rfl rfl rfl rfl rfl rfl rfl rfl rfl rfl rfl)) rfl) (And.intro (And.intro (Eff.appCopy (own := false) (xs := s.facts.map Tm.cells) (ys := [Tm.cells (oppI s.goal)]) (zs := (s.facts ++ [oppI s.goal]).map Tm.cells) (n := (s.facts ++ [oppI s.goal]).length) hσ rfl rfl rfl rfl rfl rfl rfl rfl rfl rfl rfl rfl rfl rfl rfl rfl (.row rfl (List.length_map _).symm) (.whole rfl rfl (.inr ⟨rfl, rfl⟩)) (by simp) rfl (by simp; omega) (by simp; omega) (by simp) (by simp) rfl) rfl) (And.intro (And.intro (Val.of hσ rfl rfl) rfl) (And.intro (And.intro (Val.of hσ rfl rfl) rfl) trivial))))))))))) ?_
  refine AWP.forget [(3, _), (2, _), (1, _), (0, _)] ⟨rfl, rfl, rfl, rfl, trivial⟩ ?_
  refine jnw ?_
  refine AWP.ret ?_
  refine ⟨.inl rfl, _, Ent.refl, _, rfl, ?_⟩
  rw [show ctxI s = (s.facts ++ [oppI s.goal], true) from if_pos hg]
  exact .tup (.cons (.c (.whole rfl (List.length_map _).symm)) (.cons (.c .d) .nil))
theorem c147 {L : Nat} (h1 : 4096 ≤ L) (h2 : L ≤ 1073741824) {n : Int} : MC Try.prog L 132 [eI n] [] (Plain (eI n)) := by
 refine MC.alone ?_ rfl
 have hσ := SGok (nt := 4) h1 (Nat.le_trans h2 (by decide))
 refine MC.body hσ Try.func132 (by kernel_rfl) rfl rfl (Nat.le_of_ble_eq_true rfl) (fun hF => ?_)
 refine jsr ?_
 refine jst hσ rfl rfl rfl rfl rfl ?_
 refine jns ?_
 iterate 2 refine jst hσ rfl rfl rfl rfl rfl ?_
 refine jn ?_
 refine AWP.ret ?_
 refine ⟨.inl rfl, _, Ent.refl, _, rfl, ?_⟩
 first | rfl | skip
theorem c90 {L : Nat} (h1 : 4096 ≤ L) (h2 : L ≤ 1073741824) {k : Int} {n : Nat} (hn : n ≤ 1073741824) : MC Try.prog L 143 [eI k, eI n] [] (Plain (eB (inB 0 ((n : Int) - 1) k))) := by
 refine MC.alone ?_ rfl
 have hσ := SGok (nt := 10) h1 (Nat.le_trans h2 (by decide))
 refine MC.body hσ Try.func143 (by kernel_rfl) rfl rfl (Nat.le_of_ble_eq_true rfl) (fun hF => ?_)
 refine jsr ?_
 refine jst hσ rfl rfl rfl rfl rfl ?_
 refine jns ?_
 iterate 2 refine jst hσ rfl rfl rfl rfl rfl ?_
 refine AOps.lone hσ rfl rfl rfl rfl (c147 (n := n) h1 h2) (VAs.self rfl) rfl rfl rfl rfl rfl (B0 := 8000) rfl ?_
 first | refine jfi hσ rfl rfl rfl rfl rfl ?_ | refine jvf hσ rfl rfl rfl rfl rfl ?_
 refine AOps.lone hσ rfl rfl rfl rfl (c111 h1 h2) (VAs.self rfl) rfl rfl rfl rfl rfl (B0 := 10000) rfl ?_
 refine jst hσ rfl rfl rfl rfl rfl ?_
 refine jn ?_
 refine AWP.ret ?_
 refine ⟨.inl rfl, _, Ent.refl, _, rfl, ?_⟩
 first | rfl | skip
theorem c188 {L : Nat} (h1 : 4096 ≤ L) (h2 : L ≤ 1073741824) {ctx : List Tm} {ms : List Int} (hc : CtxOk ctx) (hm : ms.all num = true) : MC Try.prog L 142 [atms ctx, aints ms] [] (Plain (eB (closesI ctx ms))) := by
 refine MC.alone ?_ rfl
 have hσ := SGok (nt := 23) h1 (Nat.le_trans h2 (by decide))
 refine MC.body hσ Try.func142 (by kernel_rfl) rfl rfl (Nat.le_of_ble_eq_true rfl) (fun hF => ?_)
 refine jsr ?_
 refine jst hσ rfl rfl rfl rfl rfl ?_
 refine jn ?_
 refine AWP.seq ?_
 refine jsr ?_
 refine jst hσ rfl rfl rfl rfl rfl ?_
 first | refine jle hσ rfl rfl rfl rfl rfl rfl rfl rfl rfl rfl rfl ?_ | refine jst hσ rfl rfl rfl rfl rfl ?_ | refine jvf hσ rfl rfl rfl rfl rfl ?_
 refine jst hσ rfl rfl rfl rfl rfl ?_
 first | refine jle hσ rfl rfl rfl rfl rfl rfl rfl rfl rfl rfl rfl ?_ | refine jst hσ rfl rfl rfl rfl rfl ?_ | refine jvf hσ rfl rfl rfl rfl rfl ?_
 refine jst hσ rfl rfl rfl rfl rfl ?_
 refine jf4 10 4 0 1 rfl rfl rfl rfl ?_
 refine jn ?_
 refine AWP.cond hσ rfl rfl (fun hc10 => ?_) (fun hc10 => ?_)
 ·
  try simp only [jcs] at hc10
  refine jsr ?_
  refine jst hσ rfl rfl rfl rfl rfl ?_
  refine jn ?_
  refine AWP.ret ?_
  refine ⟨.inl rfl, _, Ent.refl, _, rfl, ?_⟩
  rw [closesI, decide_eq_false (by omega), Bool.false_and]
 ·
  try simp only [jcs] at hc10
  refine AWP.skip ?_
  refine jsr ?_
  iterate 2 refine jst hσ rfl rfl rfl rfl rfl ?_
  refine jf5 12 11 4 0 1 rfl rfl rfl rfl rfl ?_
  refine AOps.plainD hσ rfl rfl rfl rfl (c201 (ts := ctx) (ms := ms) h1 h2 hc hm (by omega)) (VAs.self rfl) rfl rfl rfl rfl (B0 := 14000) rfl rfl ?_
  refine jf4 13 4 0 1 rfl rfl rfl rfl ?_
  refine AOps.heap (HS.alloc hσ rfl rfl rfl rfl rfl) rfl ?_
  refine AOps.heap (HS.storeBox hσ rfl rfl rfl rfl rfl rfl rfl rfl rfl rfl rfl) rfl ?_
  refine jns ?_
  iterate 2 refine jst hσ rfl rfl rfl rfl rfl ?_
  first | refine jle hσ rfl rfl rfl rfl rfl rfl rfl rfl rfl rfl rfl ?_ | refine jst hσ rfl rfl rfl rfl rfl ?_ | refine jvf hσ rfl rfl rfl rfl rfl ?_
  iterate 2 refine jst hσ rfl rfl rfl rfl rfl ?_
  refine jf6 18 5 13 4 0 1 rfl rfl rfl rfl rfl rfl ?_
  refine AOps.gr 3 rfl rfl rfl (fun hx => AN.step hx rfl rfl rfl (Val.of hσ rfl rfl) rfl rfl ( AN.step hx rfl rfl rfl (Val.of hσ rfl rfl) rfl rfl ( AN.step hx rfl rfl rfl (Val.of hσ rfl rfl) rfl rfl ( AN.nil)))) rfl rfl ?_
  first | refine AOps.step (Val.pickT hσ rfl rfl rfl rfl rfl) rfl rfl rfl ?_ | refine AOps.step (Val.pickF hσ rfl rfl rfl rfl rfl) rfl rfl rfl ?_ | refine AOps.step (Val.pickB hσ rfl rfl rfl rfl rfl) rfl rfl rfl ?_
  refine jst hσ rfl rfl rfl rfl rfl ?_
  refine jf5 4 5 13 0 1 rfl rfl rfl rfl rfl ?_
  refine jn ?_
  refine AWP.ret ?_
  refine ⟨.inl rfl, _, Ent.refl, _, rfl, ?_⟩
  rw [closesI, decide_eq_true (show ms.length = ctx.length by omega), Bool.true_and, Bool.cond_false_right, show decide (((combI ctx ms).xs.length : Int) = 0) = decide ((trim (colsL ctx ms)).length = 0) from decide_eq_decide.2 (by show ((trim (colsL ctx ms)).length : Int) = 0 ↔ _; omega)]
theorem c203 {L : Nat} (h1 : 4096 ≤ L) (h2 : L ≤ 1073741824) {c : Tm} {r : List Tm} (hl : (c :: r).length ≤ 1000) : MC Try.prog L 96 [atms (c :: r)] [] (Rows (.c (.rs 0 0 (c :: r).length)) [drow (c :: r)]) := by
 refine MC.rows ?_
 have hσ := SGok (nt := 8) h1 (Nat.le_trans h2 (by decide))
 refine MC.body hσ Try.func96 (by kernel_rfl) rfl rfl (Nat.le_of_ble_eq_true rfl) (fun hF => ?_)
 refine jsr ?_
 refine jst hσ rfl rfl rfl rfl rfl ?_
 refine jn ?_
 refine AWP.seq ?_
 refine jsr ?_
 iterate 2 refine jst hσ rfl rfl rfl rfl rfl ?_
 refine jn ?_
 refine AWP.cond hσ rfl rfl (fun hc4 => ?_) (fun hc4 => ?_)
 ·
  skip
  exact absurd (show false = true from hc4) (by decide)
 ·
  skip
  refine AWP.skip ?_
  refine jsr ?_
  refine AOps.heap (HS.lit hσ rfl rfl rfl) rfl ?_
  refine jst hσ rfl rfl rfl rfl rfl ?_
  refine jf5 6 5 3 2 0 rfl rfl rfl rfl rfl ?_
  refine AOps.to (Ent.unown 5 rfl) ?_
  refine AOps.heap (HS.appCopy (own := false) (zs := (c :: r).map Tm.cells) (n := (c :: r).length) hσ rfl rfl rfl rfl rfl rfl rfl rfl rfl rfl rfl rfl rfl rfl rfl rfl (.row rfl rfl) (.slc (.inl rfl)) (by simp) rfl (by simp at hl ⊢; omega) (by simp at hl ⊢; omega) rfl (by simp)) rfl ?_
  refine jst hσ rfl rfl rfl rfl rfl ?_
  refine AOps.forget [(2, _), (3, _), (0, _)] ⟨rfl, rfl, rfl, trivial⟩ ?_
  refine jn ?_
  refine AWP.ret ?_
  refine ⟨.inl rfl, _, Ent.refl, _, rfl, [7], by decide, rfl, rfl, rfl⟩
theorem c189 {L : Nat} (h1 : 4096 ≤ L) (h2 : L ≤ 1073741824) {c : Tm} {r : List Tm} {t : Tm} (hl : (c :: r).length ≤ 1000) : MC Try.prog L 71 [atms (c :: r), aTm' t] [] (Plain (atms (c :: r ++ [t]))) := by
 refine MC.data ?_
 have hσ := SGok (nt := 10) h1 (Nat.le_trans h2 (by decide))
 refine MC.body hσ Try.func71 (by kernel_rfl) rfl rfl (Nat.le_of_ble_eq_true rfl) (fun hF => ?_)
 refine jsr ?_
 refine AOps.heap (HS.box hσ rfl rfl rfl rfl rfl rfl rfl) rfl ?_
 refine jst hσ rfl rfl rfl rfl rfl ?_
 refine jn ?_
 refine AWP.seq ?_
 refine AWP.forget [(3, _), (0, _), (1, _)] ⟨rfl, rfl, rfl, trivial⟩ ?_
 refine AWP.drawF2 hσ _ [_, _, _, _, _, _] [⟨[], 0, 0, none⟩, ⟨[0], 0, 0, some 0⟩, ⟨[], 0, 1, none⟩, ⟨[2], 0, 1, none⟩, ⟨[0, 1, 2, 3], 0, 0, some 1⟩, ⟨[0, 1, 2, 3, 4], 2, 2, none⟩] [1, 4] 3 8 (.row false 2 [Tm.cells t]) [_, _] [_] [[], [7000]] rfl rfl (by decide) (by decide) (by decide) rfl (by kernel_rfl) (And.intro (And.intro (and_flip (Val.of hσ rfl rfl) (Val.of hσ rfl rfl)) rfl) (And.intro (And.intro (and_flip (Eff.p (Eff.rowsD hσ (B0 := 7000) rfl rfl rfl rfl (c203 (c := c) (r := r) h1 h2 hl) (VAs.self rfl) rfl rfl rfl rfl)) (Eff.p (Eff.rowsD hσ (B0 := 7000) rfl rfl rfl rfl (c203 (c := c) (r := r) h1 h2 hl) (VAs.self rfl) rfl rfl rfl rfl))) rfl) (And.intro (And.intro (And.intro (and_flip (Val.of hσ rfl rfl) (Val.of hσ rfl rfl)) rfl) (And.intro (and_flip (Val.of hσ rfl rfl) (Val.of hσ rfl rfl)) rfl)) (And.intro (And.intro (And.intro (Eff.p (Eff.litD hσ rfl rfl rfl rfl rfl rfl rfl rfl rfl rfl rfl rfl rfl rfl)) rfl) (And.intro (Eff.p (Eff.litD hσ rfl rfl rfl rfl rfl rfl rfl rfl rfl rfl rfl rfl rfl rfl)) rfl)) (And.intro (And.intro (and_flip trivial (Eff.appCopy (own := false) (xs := (c :: r).map Tm.cells) (ys := [Tm.cells t]) (zs := (c :: r ++ [t]).map Tm.cells) (n := (c :: r ++ [t]).length) hσ rfl rfl rfl rfl rfl rfl rfl rfl rfl rfl rfl rfl rfl rfl rfl rfl (.row rfl (List.length_map _).symm) (.whole rfl rfl (.inr ⟨rfl, rfl⟩)) (by simp) rfl (by simp at hl ⊢; omega) (by simp at hl ⊢; omega) (by simp) (by simp) rfl)) rfl) (And.intro (And.intro (and_flip trivial (Val.of hσ rfl rfl)) rfl) trivial)))))) ?_
 refine AWP.forget [(4, _), (1, _)] ⟨rfl, rfl, trivial⟩ ?_
 refine jnw ?_
 refine AWP.ret ?_
 refine ⟨.inl rfl, _, Ent.refl, _, rfl, ?_⟩
 exact .v (.c (.whole rfl (List.length_map _).symm))
theorem c211 {L : Nat} (h1 : 4096 ≤ L) (h2 : L ≤ 1073741824) {x : Int} (hx : -1000000 ≤ x ∧ x ≤ 1000000) : MC Try.prog L 136 [eI x] [] (Plain (eI x.natAbs)) := by
 refine MC.alone ?_ rfl
 have hσ := SGok (nt := 7) h1 (Nat.le_trans h2 (by decide))
 refine MC.body hσ Try.func136 (by kernel_rfl) rfl rfl (Nat.le_of_ble_eq_true rfl) (fun hF => ?_)
 refine jsr ?_
 refine jst hσ rfl rfl rfl rfl rfl ?_
 refine jns ?_
 iterate 2 refine jst hσ rfl rfl rfl rfl rfl ?_
 refine jfi hσ rfl rfl rfl rfl rfl ?_
 iterate 2 refine jst hσ rfl rfl rfl rfl rfl ?_
 refine jn ?_
 refine AWP.ret ?_
 refine ⟨.inl rfl, _, Ent.refl, _, rfl, ?_⟩
 exact congrArg eI (show (if 0 - x > x then 0 - x else x) = (x.natAbs : Int) by split <;> omega)
end Go.Al
namespace Go.Al
open Go.Proofs
set_option linter.unusedVariables false
set_option linter.unusedSimpArgs false
set_option maxRecDepth 10000
def flr (c g : Int) : Int := if c.tmod g < 0 then c.tdiv g - 1 else c.tdiv g
abbrev tiI (t : Tm) : Tm := ⟨flr t.c (gcdL t.xs), t.xs.map fun x => x.tdiv (gcdL t.xs)⟩
def tightI (t : Tm) : Tm × Bool := if gcdL t.xs < 2 then (⟨0, []⟩, false) else (tiI t, true)
def kidsN (n : Nd) : Int := if ndB n = true then (if n.kind = 1 then 0 else if n.kind = 2 then 2 else 1) else -1
theorem c204 {L : Nat} (h1 : 4096 ≤ L) (h2 : L ≤ 1073741824) {xs : List Int} (ht : xs.all num = true) : MC Try.prog L 112 [aints xs] [] (Plain (eI (gcdL xs))) := by
 refine MC.alone ?_ rfl
 have hσ := SGok (nt := 26) h1 (Nat.le_trans h2 (by decide))
 refine MC.body hσ Try.func112 (by kernel_rfl) rfl rfl (Nat.le_of_ble_eq_true rfl) (fun hF => ?_)
 have hl : xs.length ≤ L := by simpa [As.fact, A.fact, M.fact, D.fact, Ds.fact] using hF.1.1
 refine jsr ?_
 refine jst hσ rfl rfl rfl rfl rfl ?_
 refine jns ?_
 refine jst hσ rfl rfl rfl rfl rfl ?_
 refine jn ?_
 refine AWP.seq ?_
 refine jsr ?_
 refine jst hσ rfl rfl rfl rfl rfl ?_
 first | refine jle hσ rfl rfl rfl rfl rfl rfl rfl rfl rfl rfl rfl ?_ | refine jst hσ rfl rfl rfl rfl rfl ?_ | refine jvf hσ rfl rfl rfl rfl rfl ?_
 refine jst hσ rfl rfl rfl rfl rfl ?_
 refine jn ?_
 refine AWP.block ?_
 refine AWP.loopP (X := Nat) (fun i => ⟨[(3, eI (gcdL (xs.take i))), (8, aints xs), (9, eI xs.length), (10, eI i)], []⟩) (fun i => i ≤ xs.length) (fun i => xs.length - i) 0 (Ent.env ⟨rfl, rfl, rfl, rfl, trivial⟩) ?_ (fun i hi => ?_)
 ·
  exact Nat.zero_le _
 refine jsr ?_
 refine jst hσ rfl rfl rfl rfl rfl ?_
 refine jn ?_
 refine AWP.seq ?_
 refine AWP.cond hσ rfl rfl (fun hc11 => ?_) (fun hc11 => ?_)
 ·
  try simp only [jcs] at hc11
  refine AWP.skip ?_
  refine AWP.seq ?_
  refine AWP.block ?_
  refine jsr ?_
  have hi0 := hi
  have hx := num_iff.1 (List.all_eq_true.1 ht _ (List.getElem_mem (show i < xs.length by omega)))
  rw [← getD_lt (by omega)] at hx
  have hgs := gcdL_succ (xs := xs) (i := i) (by omega)
  have hgl := gcdL_le ht hi
  refine AOps.step (Val.indexN hσ rfl rfl rfl rfl rfl rfl rfl rfl (idxN (by omega))) rfl rfl rfl ?_
  iterate 2 refine jst hσ rfl rfl rfl rfl rfl ?_
  refine jf6 5 11 3 8 9 10 rfl rfl rfl rfl rfl rfl ?_
  refine jns ?_
  iterate 2 refine jst hσ rfl rfl rfl rfl rfl ?_
  refine jf7 15 14 11 3 8 9 10 rfl rfl rfl rfl rfl rfl rfl ?_
  refine AOps.lone hσ rfl rfl rfl rfl (c211 (x := xs.getD i default) h1 h2 hx) (VAs.self rfl) rfl rfl rfl rfl rfl (B0 := 17000) rfl ?_
  iterate 2 refine jst hσ rfl rfl rfl rfl rfl ?_
  refine jf7 7 6 11 3 8 9 10 rfl rfl rfl rfl rfl rfl rfl ?_
  refine jn ?_
  refine AWP.seq ?_
  refine AWP.block ?_
  refine AWP.loopP (X := Nat × Nat) (fun z => ⟨[(8, aints xs), (9, eI xs.length), (10, eI i), (6, eI z.1), (7, eI z.2)], []⟩) (fun z => Nat.gcd z.1 z.2 = Nat.gcd (gcdL (xs.take i)) (xs.getD i default).natAbs ∧ z.1 ≤ 1000000 ∧ z.2 ≤ 1000000) (fun z => z.2) (gcdL (xs.take i), (xs.getD i default).natAbs) (Ent.env ⟨rfl, rfl, rfl, rfl, rfl, trivial⟩) ?_ (fun z hi => ?_)
  ·
   exact ⟨rfl, hgl, by show (xs.getD i default).natAbs ≤ 1000000; omega⟩
  have hz := tmod_in (a := z.1) (b := z.2) (by omega)
  refine AWP.seq ?_
  refine jsr ?_
  iterate 2 refine jst hσ rfl rfl rfl rfl rfl ?_
  refine jn ?_
  refine AWP.cond hσ rfl rfl (fun hc18 => ?_) (fun hc18 => ?_)
  ·
   try simp only [jcs] at hc18
   refine AWP.skip ?_
   refine AWP.block ?_
   refine AWP.drawV hσ _ [_, _, _, _, _, _] [⟨[], 0, 0, none⟩, ⟨[], 0, 0, none⟩, ⟨[], 0, 0, none⟩, ⟨[1, 2], 0, 0, none⟩, ⟨[0, 1], 0, 0, none⟩, ⟨[0, 1, 2, 3, 4], 0, 0, none⟩] [] [[], [], [6], [6], [], [6]] [_] rfl rfl (by decide) (by decide) (by kernel_rfl) (And.intro (Val.of hσ rfl rfl) (And.intro (Val.of hσ rfl rfl) (And.intro (Val.of hσ rfl rfl) (And.intro (Val.rem64 hσ rfl rfl rfl rfl (by omega) (by omega) (by omega)) (And.intro (Val.of hσ rfl rfl) (And.intro (Val.of hσ rfl rfl) trivial)))))) ?_
   have hm : z.1 % z.2 < z.2 := Nat.mod_lt _ (by omega)
   refine ⟨(z.2, z.1 % z.2), Ent.env ⟨rfl, rfl, rfl, rfl, rfl, trivial⟩, ⟨?_, hi.2.2, by show z.1 % z.2 ≤ 1000000; omega⟩, hm⟩
   show Nat.gcd z.2 (z.1 % z.2) = _
   rw [← hi.1, Nat.gcd_comm z.2, ← Nat.gcd_rec, Nat.gcd_comm]
  ·
   try simp only [jcs] at hc18
   refine AWP.exit ?_
   refine AWP.region ?_
   iterate 2 refine jst hσ rfl rfl rfl rfl rfl ?_
   refine jn ?_
   refine AWP.region ?_
   first | refine jfi hσ rfl rfl rfl rfl rfl ?_ | refine jvf hσ rfl rfl rfl rfl rfl ?_
   refine jst hσ rfl rfl rfl rfl rfl ?_
   refine jn ?_
   have hz0 : z.2 = 0 := by omega
   have hz1 : z.1 = gcdL (xs.take (i + 1)) := by rw [hgs, ← hi.1, hz0, Nat.gcd_zero_right]
   rw [hz1]
   exact ⟨i + 1, Ent.env ⟨rfl, rfl, rfl, rfl, trivial⟩, by omega, by omega⟩
 ·
  try simp only [jcs] at hc11
  refine AWP.exit ?_
  refine jsr ?_
  iterate 2 refine jst hσ rfl rfl rfl rfl rfl ?_
  refine jn ?_
  refine AWP.ret ?_
  refine ⟨.inl rfl, _, Ent.refl, _, rfl, ?_⟩
  obtain rfl : i = xs.length := by omega
  rw [List.take_length]
theorem c205 {L : Nat} (h1 : 4096 ≤ L) (h2 : L ≤ 1073741824) {a b : Int} (ha : -1000000 ≤ a ∧ a ≤ 1000000) (hb : b ≠ 0) : MC Try.prog L 151 [eI a, eI b] [] (Plain (eI (flr a b))) := by
 refine MC.alone ?_ rfl
 have hσ := SGok (nt := 16) h1 (Nat.le_trans h2 (by decide))
 refine MC.body hσ Try.func151 (by kernel_rfl) rfl rfl (Nat.le_of_ble_eq_true rfl) (fun hF => ?_)
 have hq := tdiv_in (b := b) ha
 have hr := tmod_in (b := b) ha
 refine jsr ?_
 refine jst hσ rfl rfl rfl rfl rfl ?_
 refine jns ?_
 iterate 2 refine jst hσ rfl rfl rfl rfl rfl ?_
 first | refine AOps.step (Val.quo64 hσ rfl rfl rfl rfl (by first | omega | (simp at *; omega)) (by first | omega | (simp at *; omega)) (by first | omega | (simp at *; omega))) rfl rfl rfl ?_ | refine jfi hσ rfl rfl rfl rfl rfl ?_
 refine jst hσ rfl rfl rfl rfl rfl ?_
 refine jn ?_
 refine AWP.seq ?_
 refine jsr ?_
 iterate 2 refine jst hσ rfl rfl rfl rfl rfl ?_
 first | refine AOps.step (Val.rem64 hσ rfl rfl rfl rfl (by first | omega | (simp at *; omega)) (by first | omega | (simp at *; omega)) (by first | omega | (simp at *; omega))) rfl rfl rfl ?_ | refine jfi hσ rfl rfl rfl rfl rfl ?_
 refine jst hσ rfl rfl rfl rfl rfl ?_
 refine jn ?_
 refine AWP.cond hσ rfl rfl (fun hc12 => ?_) (fun hc12 => ?_)
 ·
  try simp only [jcs] at hc12
  refine AWP.region ?_
  refine jst hσ rfl rfl rfl rfl rfl ?_
  first | refine jfi hσ rfl rfl rfl rfl rfl ?_ | refine jvf hσ rfl rfl rfl rfl rfl ?_
  refine jst hσ rfl rfl rfl rfl rfl ?_
  refine jns ?_
  iterate 2 refine jst hσ rfl rfl rfl rfl rfl ?_
  refine jn ?_
  refine AWP.ret ?_
  refine ⟨.inl rfl, _, Ent.refl, _, rfl, ?_⟩
  rw [flr, if_pos hc12]
 ·
  try simp only [jcs] at hc12
  refine AWP.skip ?_
  refine jsr ?_
  iterate 2 refine jst hσ rfl rfl rfl rfl rfl ?_
  refine jn ?_
  refine AWP.ret ?_
  refine ⟨.inl rfl, _, Ent.refl, _, rfl, ?_⟩
  rw [flr, if_neg (by omega)]
theorem c148o {L : Nat} (h1 : 4096 ≤ L) (h2 : L ≤ 1073741824) {t : Tm} : MC Try.prog L 52 [aTm' t] [] (Rows (.agg [.d (.int .i64 t.c), .rs 0 0 t.xs.length]) [nrow t.xs]) := by
 refine MC.rows ?_
 have hσ := SGok (nt := 9) h1 (Nat.le_trans h2 (by decide))
 refine MC.body hσ Try.func52 (by kernel_rfl) rfl rfl (Nat.le_of_ble_eq_true rfl) (fun hF => ?_)
 refine jsr ?_
 refine AOps.heap (HS.box hσ rfl rfl rfl rfl rfl rfl rfl) rfl ?_
 refine AOps.heap (HS.alloc hσ rfl rfl rfl rfl rfl) rfl ?_
 refine jn ?_
 refine AWP.seq ?_
 refine AWP.drawR hσ _ [_, _, _, _, _, _, _] [⟨[], 0, 1, none⟩, ⟨[0], 0, 1, none⟩, ⟨[], 0, 0, none⟩, ⟨[2], 0, 0, none⟩, ⟨[2, 3], 0, 0, some 0⟩, ⟨[0, 1, 2, 3, 4], 1, 1, none⟩, ⟨[0, 1, 2, 3, 4, 5], 0, 0, some 1⟩] [4, 6] [_, _, _] rfl rfl (by decide) (by decide) (by kernel_rfl) (And.intro (And.intro (Val.of hσ rfl rfl) (Val.of hσ rfl rfl)) (And.intro (And.intro (Val.of hσ rfl rfl) (Val.of hσ rfl rfl)) (And.intro (Val.of hσ rfl rfl) (And.intro (Val.of hσ rfl rfl) (And.intro (Eff.rows hσ (B0 := 8000) rfl rfl rfl rfl (c158 (xs := t.xs) h1 h2) (VAs.self rfl) rfl rfl rfl rfl rfl) (And.intro (Val.of hσ rfl rfl) (And.intro (Eff.storeBox hσ rfl rfl rfl rfl rfl rfl rfl rfl rfl rfl rfl rfl rfl) trivial))))))) ?_
 refine AWP.ret ?_
 refine ⟨.inl rfl, _, Ent.refl, _, rfl, [8000], by decide, rfl, rfl, rfl⟩
def mkq (xs : List Int) (g : Int) (i : Nat) : List Int := (xs.take i).map (fun x => x.tdiv g) ++ xs.drop i
theorem mkq_zero {xs g} : mkq xs g 0 = xs := by simp [mkq]
theorem mkq_all {xs : List Int} {g : Int} : mkq xs g xs.length = xs.map fun x => x.tdiv g := by simp [mkq]
theorem mkq_length {xs g i} : (mkq xs g i).length = xs.length := by simp [mkq]; omega
theorem mkq_get {xs : List Int} {g : Int} {i : Nat} (h : i < xs.length) : ((mkq xs g i).map fun n => [D.int .i64 n])[i]? = some [.int .i64 (xs.getD i default)] := by
  rw [List.getElem?_map, mkq, List.getElem?_append_right (by simp; omega), List.length_map, List.length_take, Nat.min_eq_left (Nat.le_of_lt h), Nat.sub_self, List.getElem?_drop, Nat.add_zero, List.getElem?_eq_getElem h, getD_lt h]
  rfl
theorem mkq_succ {xs : List Int} {g : Int} {i : Nat} (h : i < xs.length) : (mkq xs g i).set i ((xs.getD i default).tdiv g) = mkq xs g (i + 1) := by
  have hl : ((xs.take i).map fun x => x.tdiv g).length = i := by simp; omega
  rw [mkq, List.set_append_right _ _ (by omega), hl, Nat.sub_self, mkq, List.take_succ_eq_append_getElem h, List.drop_eq_getElem_cons h, List.set_cons_zero, getD_lt h, List.map_append, List.append_assoc]
  rfl
theorem c190 {L : Nat} (h1 : 4096 ≤ L) (h2 : L ≤ 1073741824) {t : Tm} (ht : Small t) : MC Try.prog L 130 [aTm' t] [] (Plain (resTm (tightI t))) := by
 refine MC.data ?_
 have hσ := SGok (nt := 36) h1 (Nat.le_trans h2 (by decide))
 refine MC.body hσ Try.func130 (by kernel_rfl) rfl rfl (Nat.le_of_ble_eq_true rfl) (fun hF => ?_)
 have hl : t.xs.length ≤ L := by simpa [As.fact, A.fact, M.fact, Ms.fact, D.fact, Ds.fact] using hF.1.2.1.1
 have hc0 := num_iff.1 ht.c
 refine jsr ?_
 refine AOps.heap (HS.box hσ rfl rfl rfl rfl rfl rfl rfl) rfl ?_
 refine jnm ?_
 refine AOps.forget [(1, _)] ⟨rfl, trivial⟩ ?_
 refine AOps.heap (HS.alloc hσ rfl rfl rfl rfl rfl) rfl ?_
 refine jnm ?_
 refine jst hσ rfl rfl rfl rfl rfl ?_
 refine jns ?_
 iterate 2 refine jst hσ rfl rfl rfl rfl rfl ?_
 refine jf4 8 3 2 1 rfl rfl rfl rfl ?_
 refine AOps.lone hσ rfl rfl rfl rfl (c204 (xs := t.xs) h1 h2 ht.xs) (VAs.self rfl) rfl rfl rfl rfl rfl (B0 := 10000) rfl ?_
 refine jst hσ rfl rfl rfl rfl rfl ?_
 refine jf4 4 3 2 1 rfl rfl rfl rfl ?_
 refine jn ?_
 refine AWP.seq ?_
 refine jsr ?_
 iterate 2 refine jst hσ rfl rfl rfl rfl rfl ?_
 refine jn ?_
 refine AWP.cond hσ rfl rfl (fun hc11 => ?_) (fun hc11 => ?_)
 ·
  try simp only [jcs] at hc11
  refine jsr ?_
  refine jst hσ rfl rfl rfl rfl rfl ?_
  refine jf6 12 10 4 3 2 1 rfl rfl rfl rfl rfl rfl ?_
  refine AOps.heap (HS.storeBox hσ rfl rfl rfl rfl rfl rfl rfl rfl rfl rfl rfl) rfl ?_
  refine jnm ?_
  refine jst hσ rfl rfl rfl rfl rfl ?_
  refine jn ?_
  refine AWP.ret ?_
  refine ⟨.inl rfl, _, Ent.refl, _, rfl, ?_⟩
  rw [show tightI t = (⟨0, []⟩, false) from if_pos (by omega)]
  exact .tup (.cons (.agg (.cons .d (.cons .nils .nil))) (.cons (.c .d) .nil))
 ·
  try simp only [jcs] at hc11
  refine AWP.skip ?_
  refine jsr ?_
  obtain ⟨g, hg⟩ : ∃ g : Int, g = (gcdL t.xs : Int) := ⟨_, rfl⟩
  rw [← hg]
  rw [← hg] at hc11
  refine jst hσ rfl rfl rfl rfl rfl ?_
  refine jf6 13 10 4 3 2 1 rfl rfl rfl rfl rfl rfl ?_
  refine AOps.rows hσ (B0 := 15000) rfl rfl rfl rfl (c148o (t := t) h1 h2) (VAs.self rfl) rfl rfl rfl rfl rfl rfl ?_
  refine jnm ?_
  refine jf6 14 10 4 3 2 1 rfl rfl rfl rfl rfl rfl ?_
  refine AOps.heap (HS.alloc hσ rfl rfl rfl rfl rfl) rfl ?_
  refine jnm ?_
  refine AOps.heap (HS.storeBox hσ rfl rfl rfl rfl rfl rfl rfl rfl rfl rfl rfl) rfl ?_
  refine jnm ?_
  refine jns ?_
  iterate 3 refine jst hσ rfl rfl rfl rfl rfl ?_
  refine jf9 17 16 5 14 10 4 3 2 1 rfl rfl rfl rfl rfl rfl rfl rfl rfl ?_
  refine AOps.lone hσ rfl rfl rfl rfl (c205 (a := t.c) (b := g) h1 h2 hc0 (by omega)) (VAs.self rfl) rfl rfl rfl rfl rfl (B0 := 19000) rfl ?_
  refine jst hσ rfl rfl rfl rfl rfl ?_
  refine jf9 19 18 5 14 10 4 3 2 1 rfl rfl rfl rfl rfl rfl rfl rfl rfl ?_
  refine AOps.heap (HS.storeBox hσ rfl rfl rfl rfl rfl rfl rfl rfl rfl rfl rfl) rfl ?_
  refine jnm ?_
  refine jf7 5 14 10 4 3 2 1 rfl rfl rfl rfl rfl rfl rfl ?_
  refine jn ?_
  refine AWP.seq ?_
  refine jsr ?_
  iterate 2 refine jst hσ rfl rfl rfl rfl rfl ?_
  first | refine jle hσ rfl rfl rfl rfl rfl rfl rfl rfl rfl rfl rfl ?_ | refine jst hσ rfl rfl rfl rfl rfl ?_ | refine jvf hσ rfl rfl rfl rfl rfl ?_
  refine jst hσ rfl rfl rfl rfl rfl ?_
  refine jf9 23 22 5 14 10 4 3 2 1 rfl rfl rfl rfl rfl rfl rfl rfl rfl ?_
  refine jn ?_
  refine AWP.block ?_
  refine AWP.loopP (X := Nat) (fun i => ⟨[(2, .c (.pt 2 0 0)), (4, eI g), (5, .c (.pt 5 0 0)), (22, eI t.xs.length), (23, eI i)], [(2, .box [.d (.int .i64 0), .d .nils]), (5, .box [.d (.int .i64 (flr t.c g)), .rs 15000 0 t.xs.length]), (15000, nrow (mkq t.xs g i))]⟩) (fun i => i ≤ t.xs.length) (fun i => t.xs.length - i) 0 (((Ent.sel [2, 5, 15000] (e' := [(2, _), (4, _), (5, _), (22, _), (23, _)]) rfl rfl ⟨rfl, rfl, rfl, rfl, rfl, trivial⟩ rfl)).trans (Ent.to ⟨rfl, rfl, rfl, rfl, rfl, trivial⟩ (by rw [mkq_zero]; rfl))) ?_ (fun i hi => ?_)
  ·
   exact Nat.zero_le _
  refine jsr ?_
  refine jst hσ rfl rfl rfl rfl rfl ?_
  refine jn ?_
  refine AWP.seq ?_
  refine AWP.cond hσ rfl rfl (fun hc24 => ?_) (fun hc24 => ?_)
  ·
   try simp only [jcs] at hc24
   refine AWP.skip ?_
   refine AWP.seq ?_
   refine AWP.block ?_
   refine jsr ?_
   iterate 2 refine jst hσ rfl rfl rfl rfl rfl ?_
   refine jn ?_
   refine AWP.region ?_
   have hx := tdiv_in (b := g) (num_iff.1 (List.all_eq_true.1 ht.xs _ (List.getElem_mem (show i < t.xs.length by omega))))
   rw [← getD_lt (by omega)] at hx
   have hkl := mkq_length (xs := t.xs) (g := g) (i := i)
   iterate 3 refine jst hσ rfl rfl rfl rfl rfl ?_
   first | refine jin hσ rfl rfl rfl rfl rfl rfl rfl rfl rfl rfl rfl ?_ | refine jix hσ rfl rfl rfl rfl rfl rfl rfl rfl rfl rfl rfl ?_ | refine jvf hσ rfl rfl rfl rfl rfl ?_
   refine AOps.step (Val.loadRow hσ (ex := [.int .i64 (t.xs.getD i default)]) rfl rfl rfl rfl (by rw [Nat.zero_add]; exact mkq_get (by omega)) rfl) rfl rfl rfl ?_
   refine jst hσ rfl rfl rfl rfl rfl ?_
   first | refine AOps.step (Val.quo64 hσ rfl rfl rfl rfl (by first | omega | (simp at *; omega)) (by first | omega | (simp at *; omega)) (by first | omega | (simp at *; omega))) rfl rfl rfl ?_ | refine jfi hσ rfl rfl rfl rfl rfl ?_
   first | refine jin hσ rfl rfl rfl rfl rfl rfl rfl rfl rfl rfl rfl ?_ | refine jix hσ rfl rfl rfl rfl rfl rfl rfl rfl rfl rfl rfl ?_ | refine jvf hσ rfl rfl rfl rfl rfl ?_
   refine jf9 33 32 25 24 2 4 5 22 23 rfl rfl rfl rfl rfl rfl rfl rfl rfl ?_
   refine AOps.heap (HS.storeRow (ex := [.int .i64 (t.xs.getD i default)]) (xs' := (mkq t.xs g (i + 1)).map (fun n => [D.int .i64 n])) hσ rfl rfl rfl rfl rfl rfl rfl rfl rfl rfl rfl rfl rfl rfl (by rw [Nat.zero_add]; exact mkq_get (by omega)) (by rw [← mkq_succ (by omega), List.map_set, Nat.zero_add]; rfl)) rfl ?_
   refine jnm ?_
   refine jf7 25 24 2 4 5 22 23 rfl rfl rfl rfl rfl rfl rfl ?_
   refine jn ?_
   refine AWP.region ?_
   first | refine jfi hσ rfl rfl rfl rfl rfl ?_ | refine jvf hσ rfl rfl rfl rfl rfl ?_
   refine jst hσ rfl rfl rfl rfl rfl ?_
   refine jn ?_
   refine ⟨i + 1, Ent.to ⟨rfl, rfl, rfl, rfl, rfl, trivial⟩ rfl, by omega, by omega⟩
  ·
   try simp only [jcs] at hc24
   refine AWP.exit ?_
   refine jsr ?_
   refine jst hσ rfl rfl rfl rfl rfl ?_
   refine AOps.heap (HS.storeBox hσ rfl rfl rfl rfl rfl rfl rfl rfl rfl rfl rfl) rfl ?_
   refine jnm ?_
   refine jst hσ rfl rfl rfl rfl rfl ?_
   refine jn ?_
   refine AWP.ret ?_
   refine ⟨.inl rfl, _, Ent.refl, _, rfl, ?_⟩
   obtain rfl : i = t.xs.length := by omega
   rw [show tightI t = (⟨flr t.c g, t.xs.map fun x => x.tdiv g⟩, true) by rw [hg]; exact if_neg (by omega)]
   have hkl := mkq_length (xs := t.xs) (g := g) (i := t.xs.length)
   exact .tup (.cons (.agg (.cons .d (.cons (.whole (by rw [← mkq_all]; rfl) (by simp)) .nil))) (.cons (.c .d) .nil))
end Go.Al
namespace Go.Al
open Go.Proofs
set_option linter.unusedVariables false
set_option linter.unusedSimpArgs false
set_option maxRecDepth 10000
/-- What is said of the fields of a node of a kind. -/
theorem nd1 {n : Nd} (h : n.kind = 1) : ndB n = ((decide (n.fact = 0) && n.term.zero) && mulB n.mul) := by rw [ndB, if_pos h]
theorem nd2 {n : Nd} (h : n.kind = 2) : ndB n = ((decide (n.fact = 0) && n.term.ok) && decide ((n.mul.length : Int) = 0)) := by rw [ndB, if_neg (by omega), if_pos h]
theorem nd3 {n : Nd} (h : n.kind = 3) : ndB n = ((inB 0 19 n.fact && n.term.zero) && decide ((n.mul.length : Int) = 0)) := by rw [ndB, if_neg (by omega), if_neg (by omega), if_pos h]
theorem kidsN_not {n : Nd} (h : ndB n = false) : kidsN n = -1 := by rw [kidsN, if_neg (by rw [h]; decide)]
theorem kidsN_of {n : Nd} (h : ndB n = true) : kidsN n = if n.kind = 1 then 0 else if n.kind = 2 then 2 else 1 := by rw [kidsN, if_pos h]
theorem cA1 {a b c d : Bool} : (bif bif bif a then b else false then c else false then d else false) = ((a && b) && (d && c)) := by cases a <;> cases b <;> cases c <;> cases d <;> rfl
theorem cA2 {a b c : Bool} : (bif bif a then b else false then c else false) = ((a && c) && b) := by cases a <;> cases b <;> cases c <;> rfl
theorem cA3 {a b c : Bool} : (bif bif a then b else false then c else false) = ((a && b) && c) := by cases a <;> cases b <;> cases c <;> rfl
def iterE (f : Nat → Option (Nat × Int)) : Nat → Nat → Int → Option (Nat × Int)
  | 0, k, d => some (k, d)
  | q + 1, k, d => match f k with
    | none => none
    | some (k', b) => iterE f q k' (if b > d then b else d)
def behF : Nat → List Nd → Nat → Option (Nat × Int)
  | 0, _, _ => none
  | n + 1, p, k => if p.length ≤ k then none else if kidsN (p.getD k default) < 0 then none else
      (iterE (behF n p) (kidsN (p.getD k default)).toNat (k + 1) 0).map fun r => (r.1, r.2 + 1)
theorem iterE_some {f : Nat → Option (Nat × Int)} {q k k' : Nat} {d b : Int} (h : f k = some (k', b)) : iterE f (q + 1) k d = iterE f q k' (if b > d then b else d) := by rw [iterE, h]
theorem iterE_none {f : Nat → Option (Nat × Int)} {q k : Nat} {d : Int} (h : f k = none) : iterE f (q + 1) k d = none := by rw [iterE, h]
theorem iterE_le {f : Nat → Option (Nat × Int)} {N : Nat} (hf : ∀ k b k', f k = some (k', b) → k < k' ∧ k' ≤ N ∧ 0 ≤ b ∧ b ≤ (k' : Int) - k) : ∀ {q k : Nat} {d d' : Int} {k' s : Nat}, iterE f q k d = some (k', d') → k ≤ N → s ≤ k → 0 ≤ d → d ≤ (k : Int) - s → k ≤ k' ∧ k' ≤ N ∧ 0 ≤ d' ∧ d' ≤ (k' : Int) - s
  | 0, k, d, d', k', s, h, hk, hs, h0, h1 => by simp only [iterE, Option.some.injEq, Prod.mk.injEq] at h; omega
  | q + 1, k, d, d', k', s, h, hk, hs, h0, h1 => by
    cases hx : f k with
    | none => rw [iterE_none hx] at h; cases h
    | some x =>
      obtain ⟨k1, b⟩ := x
      rw [iterE_some hx] at h
      have h3 := hf k b k1 hx
      have h4 := iterE_le hf h h3.2.1 (s := s) (by omega) (by split <;> omega) (by split <;> omega)
      omega
theorem behF_le : ∀ {n : Nat} {p : List Nd} {k k' : Nat} {d : Int}, behF n p k = some (k', d) → k < k' ∧ k' ≤ p.length ∧ 0 ≤ d ∧ d ≤ (k' : Int) - k
  | 0, _, _, _, _, h => by cases h
  | n + 1, p, k, k', d, h => by
    unfold behF at h
    split at h
    · cases h
    · split at h
      · cases h
      · simp only [Option.map_eq_some_iff] at h
        obtain ⟨⟨k2, d2⟩, h1, h2⟩ := h
        simp only [Prod.mk.injEq] at h2
        have := iterE_le (N := p.length) (fun k b k' h => behF_le h) h1 (by omega) (Nat.le_refl _) (Int.le_refl 0) (by omega)
        omega
abbrev eN (r : Option (Nat × Int)) : Int := match r with | some (k, _) => k | none => 0
abbrev eD (r : Option (Nat × Int)) : Int := match r with | some (_, d) => d | none => 0
abbrev eO (r : Option (Nat × Int)) : Bool := match r with | some _ => true | none => false
abbrev resE (r : Option (Nat × Int)) : A := .tup [eI (eN r), eI (eD r), eB (eO r)]
theorem eO_true {r : Option (Nat × Int)} (h : eO r = true) : ∃ k d, r = some (k, d) := by
  cases r with
  | none => cases h
  | some x => exact ⟨x.1, x.2, rfl⟩
theorem eO_false {r : Option (Nat × Int)} (h : eO r = false) : r = none := by
  cases r with
  | none => rfl
  | some x => cases h
theorem kidsN_le (n : Nd) : kidsN n ≤ 2 := by unfold kidsN; split <;> (try split) <;> (try split) <;> decide
def isI (p : List Nd) : Bool := decide ((p.length : Int) ≤ 60) && (eO (behF (p.length + 1) p 0) && decide (eN (behF (p.length + 1) p 0) = p.length))
theorem c202 {L : Nat} (h1 : 4096 ≤ L) (h2 : L ≤ 1073741824) {n : Nd} : MC Try.prog L 156 [aNd n] [] (Plain (eI (kidsN n))) := by
 refine MC.alone ?_ rfl
 have hσ := SGok (nt := 59) h1 (Nat.le_trans h2 (by decide))
 refine MC.body hσ Try.func156 (by kernel_rfl) rfl rfl (Nat.le_of_ble_eq_true rfl) (fun hF => ?_)
 have hl : n.mul.length ≤ L := by simpa [As.fact, A.fact, M.fact, Ms.fact, D.fact, Ds.fact] using hF.1.2.2.2.2.1.1
 refine jsr ?_
 refine AOps.heap (HS.box hσ rfl rfl rfl rfl rfl rfl rfl) rfl ?_
 refine jst hσ rfl rfl rfl rfl rfl ?_
 refine jn ?_
 refine AWP.seq ?_
 refine AWP.drawR hσ _ [_, _, _, _, _, _, _, _, _, _, _, _, _] [⟨[], 0, 1, none⟩, ⟨[0], 0, 1, none⟩, ⟨[0, 1], 0, 1, none⟩, ⟨[], 0, 0, none⟩, ⟨[3], 0, 0, none⟩, ⟨[3, 4], 0, 0, some 0⟩, ⟨[], 0, 1, none⟩, ⟨[6], 0, 1, none⟩, ⟨[6, 7], 0, 1, none⟩, ⟨[6, 7, 8], 0, 1, none⟩, ⟨[0, 1, 2, 3, 4, 5], 1, 1, none⟩, ⟨[0, 1, 2, 3, 4, 5, 10], 1, 1, none⟩, ⟨[0, 1, 2, 3, 4, 5, 6, 7, 8, 9, 10, 11], 1, 1, none⟩] [5] [_, _] rfl rfl (by decide) (by decide) (by kernel_rfl) (And.intro (And.intro (Val.of hσ rfl rfl) (Val.of hσ rfl rfl)) (And.intro (And.intro (Val.of hσ rfl rfl) (Val.of hσ rfl rfl)) (And.intro (And.intro (Val.of hσ rfl rfl) (Val.of hσ rfl rfl)) (And.intro (Val.of hσ rfl rfl) (And.intro (Val.of hσ rfl rfl) (And.intro (Eff.lone hσ (B0 := 13000) rfl rfl rfl rfl (c206 h1 h2) (VAs.self rfl) rfl rfl rfl rfl rfl) (And.intro (And.intro (Val.of hσ rfl rfl) (Val.of hσ rfl rfl)) (And.intro (And.intro (Val.of hσ rfl rfl) (Val.of hσ rfl rfl)) (And.intro (And.intro (Val.lenD hσ rfl rfl rfl rfl rfl rfl rfl rfl) (Val.lenD hσ rfl rfl rfl rfl rfl rfl rfl rfl)) (And.intro (And.intro (Val.of hσ rfl rfl) (Val.of hσ rfl rfl)) (And.intro (Val.of hσ rfl rfl) (And.intro (Val.of hσ rfl rfl) (And.intro (Val.of hσ rfl rfl) trivial))))))))))))) ?_
 refine AWP.forget [(5, _), (4, _), (3, _), (2, _), (1, _), (0, _)] ⟨rfl, rfl, rfl, rfl, rfl, rfl, trivial⟩ ?_
 refine jnw ?_
 refine jsr ?_
 refine jst hσ rfl rfl rfl rfl rfl ?_
 refine jn ?_
 refine AWP.seq ?_
 refine jsr ?_
 iterate 2 refine jst hσ rfl rfl rfl rfl rfl ?_
 refine jn ?_
 refine AWP.block ?_
 refine jsr ?_
 iterate 2 refine jst hσ rfl rfl rfl rfl rfl ?_
 refine jn ?_
 refine AWP.cond hσ rfl rfl (fun hc19 => ?_) (fun hc19 => ?_)
 ·
  skip
  refine jsr ?_
  iterate 2 refine jst hσ rfl rfl rfl rfl rfl ?_
  refine jf11 22 20 18 17 6 5 4 3 2 1 0 rfl rfl rfl rfl rfl rfl rfl rfl rfl rfl rfl ?_
  refine AOps.gr 1 rfl rfl rfl (fun hx => AN.step hx rfl rfl rfl (Val.of hσ rfl rfl) rfl rfl ( AN.nil)) rfl rfl ?_
  first | refine AOps.step (Val.pickT hσ rfl rfl rfl rfl rfl) rfl rfl rfl ?_ | refine AOps.step (Val.pickF hσ rfl rfl rfl rfl rfl) rfl rfl rfl ?_ | refine AOps.step (Val.pickB hσ rfl rfl rfl rfl rfl) rfl rfl rfl ?_
  refine jst hσ rfl rfl rfl rfl rfl ?_
  refine jf11 25 20 18 17 6 5 4 3 2 1 0 rfl rfl rfl rfl rfl rfl rfl rfl rfl rfl rfl ?_
  refine AOps.gr 4 rfl rfl rfl (fun hx => AN.step hx rfl rfl rfl (Val.of hσ rfl rfl) rfl rfl ( AN.step hx rfl rfl rfl (Val.of hσ rfl rfl) rfl rfl ( AN.step hx rfl rfl rfl (Val.lenD hσ rfl rfl rfl rfl rfl rfl rfl rfl) rfl rfl ( AN.step hx rfl rfl rfl (Val.of hσ rfl rfl) rfl rfl ( AN.nil))))) rfl rfl ?_
  first | refine AOps.step (Val.pickT hσ rfl rfl rfl rfl rfl) rfl rfl rfl ?_ | refine AOps.step (Val.pickF hσ rfl rfl rfl rfl rfl) rfl rfl rfl ?_ | refine AOps.step (Val.pickB hσ rfl rfl rfl rfl rfl) rfl rfl rfl ?_
  refine jst hσ rfl rfl rfl rfl rfl ?_
  refine jf11 31 20 18 17 6 5 4 3 2 1 0 rfl rfl rfl rfl rfl rfl rfl rfl rfl rfl rfl ?_
  refine AOps.gr 3 rfl rfl rfl (fun hx => AN.step hx rfl rfl rfl (Val.of hσ rfl rfl) rfl rfl ( AN.step hx rfl rfl rfl (Val.of hσ rfl rfl) rfl rfl ( AN.lone hσ hx rfl rfl rfl rfl (c156 h1 h2) (VAs.self rfl) rfl rfl rfl rfl rfl rfl rfl (B0 := 35000) rfl ( AN.nil)))) rfl rfl ?_
  first | refine AOps.step (Val.pickT hσ rfl rfl rfl rfl rfl) rfl rfl rfl ?_ | refine AOps.step (Val.pickF hσ rfl rfl rfl rfl rfl) rfl rfl rfl ?_ | refine AOps.step (Val.pickB hσ rfl rfl rfl rfl rfl) rfl rfl rfl ?_
  refine jf11 35 20 18 17 6 5 4 3 2 1 0 rfl rfl rfl rfl rfl rfl rfl rfl rfl rfl rfl ?_
  refine jn ?_
  refine AWP.cond hσ rfl rfl (fun hc35 => ?_) (fun hc35 => ?_)
  ·
   skip
   refine AWP.region ?_
   refine jst hσ rfl rfl rfl rfl rfl ?_
   refine jn ?_
   refine jsr ?_
   iterate 2 refine jst hσ rfl rfl rfl rfl rfl ?_
   refine jf9 2 20 18 17 5 4 3 1 0 rfl rfl rfl rfl rfl rfl rfl rfl rfl ?_
   refine jn ?_
   refine AWP.ret ?_
   refine ⟨.inl rfl, _, Ent.refl, _, rfl, ?_⟩
   have hb : ndB n = true := by rw [nd1 (of_decide_eq_true hc19)]; have h9 := hc35; rw [cA1] at h9; exact h9
   rw [kidsN_of hb, if_pos (of_decide_eq_true hc19)]
  ·
   skip
   refine AWP.skip ?_
   refine jsr ?_
   iterate 2 refine jst hσ rfl rfl rfl rfl rfl ?_
   refine jf9 2 20 18 17 5 4 3 1 0 rfl rfl rfl rfl rfl rfl rfl rfl rfl ?_
   refine jn ?_
   refine AWP.ret ?_
   refine ⟨.inl rfl, _, Ent.refl, _, rfl, ?_⟩
   have hb : ndB n = false := by rw [nd1 (of_decide_eq_true hc19)]; have h9 := hc35; rw [cA1] at h9; exact h9
   rw [kidsN_not hb]
 ·
  skip
  refine jsr ?_
  iterate 2 refine jst hσ rfl rfl rfl rfl rfl ?_
  refine jf11 36 20 18 17 6 5 4 3 2 1 0 rfl rfl rfl rfl rfl rfl rfl rfl rfl rfl rfl ?_
  refine jn ?_
  refine AWP.cond hσ rfl rfl (fun hc36 => ?_) (fun hc36 => ?_)
  ·
   skip
   refine jsr ?_
   iterate 2 refine jst hσ rfl rfl rfl rfl rfl ?_
   refine jf11 39 20 18 17 6 5 4 3 2 1 0 rfl rfl rfl rfl rfl rfl rfl rfl rfl rfl rfl ?_
   refine AOps.gr 1 rfl rfl rfl (fun hx => AN.step hx rfl rfl rfl (Val.of hσ rfl rfl) rfl rfl ( AN.nil)) rfl rfl ?_
   first | refine AOps.step (Val.pickT hσ rfl rfl rfl rfl rfl) rfl rfl rfl ?_ | refine AOps.step (Val.pickF hσ rfl rfl rfl rfl rfl) rfl rfl rfl ?_ | refine AOps.step (Val.pickB hσ rfl rfl rfl rfl rfl) rfl rfl rfl ?_
   refine jst hσ rfl rfl rfl rfl rfl ?_
   refine jf11 42 20 18 17 6 5 4 3 2 1 0 rfl rfl rfl rfl rfl rfl rfl rfl rfl rfl rfl ?_
   refine AOps.gr 3 rfl rfl rfl (fun hx => AN.step hx rfl rfl rfl (Val.of hσ rfl rfl) rfl rfl ( AN.step hx rfl rfl rfl (Val.of hσ rfl rfl) rfl rfl ( AN.lone hσ hx rfl rfl rfl rfl (c185 h1 h2) (VAs.self rfl) rfl rfl rfl rfl rfl rfl rfl (B0 := 46000) rfl ( AN.nil)))) rfl rfl ?_
   first | refine AOps.step (Val.pickT hσ rfl rfl rfl rfl rfl) rfl rfl rfl ?_ | refine AOps.step (Val.pickF hσ rfl rfl rfl rfl rfl) rfl rfl rfl ?_ | refine AOps.step (Val.pickB hσ rfl rfl rfl rfl rfl) rfl rfl rfl ?_
   refine jf11 46 20 18 17 6 5 4 3 2 1 0 rfl rfl rfl rfl rfl rfl rfl rfl rfl rfl rfl ?_
   refine jn ?_
   refine AWP.cond hσ rfl rfl (fun hc46 => ?_) (fun hc46 => ?_)
   ·
    skip
    refine AWP.region ?_
    refine jst hσ rfl rfl rfl rfl rfl ?_
    refine jn ?_
    refine jsr ?_
    iterate 2 refine jst hσ rfl rfl rfl rfl rfl ?_
    refine jf9 2 20 18 17 5 4 3 1 0 rfl rfl rfl rfl rfl rfl rfl rfl rfl ?_
    refine jn ?_
    refine AWP.ret ?_
    refine ⟨.inl rfl, _, Ent.refl, _, rfl, ?_⟩
    have hb : ndB n = true := by rw [nd2 (of_decide_eq_true hc36)]; have h9 := hc46; rw [cA2] at h9; exact h9
    rw [kidsN_of hb, if_neg (of_decide_eq_false hc19), if_pos (of_decide_eq_true hc36)]
   ·
    skip
    refine AWP.skip ?_
    refine jsr ?_
    iterate 2 refine jst hσ rfl rfl rfl rfl rfl ?_
    refine jf9 2 20 18 17 5 4 3 1 0 rfl rfl rfl rfl rfl rfl rfl rfl rfl ?_
    refine jn ?_
    refine AWP.ret ?_
    refine ⟨.inl rfl, _, Ent.refl, _, rfl, ?_⟩
    have hb : ndB n = false := by rw [nd2 (of_decide_eq_true hc36)]; have h9 := hc46; rw [cA2] at h9; exact h9
    rw [kidsN_not hb]
  ·
   skip
   refine jsr ?_
   iterate 2 refine jst hσ rfl rfl rfl rfl rfl ?_
   refine jf11 47 20 18 17 6 5 4 3 2 1 0 rfl rfl rfl rfl rfl rfl rfl rfl rfl rfl rfl ?_
   refine jn ?_
   refine AWP.cond hσ rfl rfl (fun hc47 => ?_) (fun hc47 => ?_)
   ·
    skip
    refine jsr ?_
    iterate 2 refine jst hσ rfl rfl rfl rfl rfl ?_
    refine jf11 50 20 18 17 6 5 4 3 2 1 0 rfl rfl rfl rfl rfl rfl rfl rfl rfl rfl rfl ?_
    refine AOps.lone hσ rfl rfl rfl rfl (c111 h1 h2) (VAs.self rfl) rfl rfl rfl rfl rfl (B0 := 52000) rfl ?_
    refine jst hσ rfl rfl rfl rfl rfl ?_
    refine jf11 52 20 18 17 6 5 4 3 2 1 0 rfl rfl rfl rfl rfl rfl rfl rfl rfl rfl rfl ?_
    refine AOps.gr 1 rfl rfl rfl (fun hx => AN.step hx rfl rfl rfl (Val.of hσ rfl rfl) rfl rfl ( AN.nil)) rfl rfl ?_
    first | refine AOps.step (Val.pickT hσ rfl rfl rfl rfl rfl) rfl rfl rfl ?_ | refine AOps.step (Val.pickF hσ rfl rfl rfl rfl rfl) rfl rfl rfl ?_ | refine AOps.step (Val.pickB hσ rfl rfl rfl rfl rfl) rfl rfl rfl ?_
    refine jst hσ rfl rfl rfl rfl rfl ?_
    refine jf11 55 20 18 17 6 5 4 3 2 1 0 rfl rfl rfl rfl rfl rfl rfl rfl rfl rfl rfl ?_
    refine AOps.gr 1 rfl rfl rfl (fun hx => AN.step hx rfl rfl rfl (Val.of hσ rfl rfl) rfl rfl ( AN.nil)) rfl rfl ?_
    first | refine AOps.step (Val.pickT hσ rfl rfl rfl rfl rfl) rfl rfl rfl ?_ | refine AOps.step (Val.pickF hσ rfl rfl rfl rfl rfl) rfl rfl rfl ?_ | refine AOps.step (Val.pickB hσ rfl rfl rfl rfl rfl) rfl rfl rfl ?_
    refine jf11 57 20 18 17 6 5 4 3 2 1 0 rfl rfl rfl rfl rfl rfl rfl rfl rfl rfl rfl ?_
    refine jn ?_
    refine AWP.cond hσ rfl rfl (fun hc57 => ?_) (fun hc57 => ?_)
    ·
     skip
     refine AWP.region ?_
     refine jst hσ rfl rfl rfl rfl rfl ?_
     refine jn ?_
     refine jsr ?_
     iterate 2 refine jst hσ rfl rfl rfl rfl rfl ?_
     refine jf9 2 20 18 17 5 4 3 1 0 rfl rfl rfl rfl rfl rfl rfl rfl rfl ?_
     refine jn ?_
     refine AWP.ret ?_
     refine ⟨.inl rfl, _, Ent.refl, _, rfl, ?_⟩
     have hb : ndB n = true := by rw [nd3 (of_decide_eq_true hc47)]; have h9 := hc57; rw [cA3] at h9; exact h9
     rw [kidsN_of hb, if_neg (of_decide_eq_false hc19), if_neg (of_decide_eq_false hc36)]
    ·
     skip
     refine AWP.skip ?_
     refine jsr ?_
     iterate 2 refine jst hσ rfl rfl rfl rfl rfl ?_
     refine jf9 2 20 18 17 5 4 3 1 0 rfl rfl rfl rfl rfl rfl rfl rfl rfl ?_
     refine jn ?_
     refine AWP.ret ?_
     refine ⟨.inl rfl, _, Ent.refl, _, rfl, ?_⟩
     have hb : ndB n = false := by rw [nd3 (of_decide_eq_true hc47)]; have h9 := hc57; rw [cA3] at h9; exact h9
     rw [kidsN_not hb]
   ·
    skip
    refine AWP.skip ?_
    refine jsr ?_
    iterate 2 refine jst hσ rfl rfl rfl rfl rfl ?_
    refine jf9 2 20 18 17 5 4 3 1 0 rfl rfl rfl rfl rfl rfl rfl rfl rfl ?_
    refine jn ?_
    refine AWP.ret ?_
    refine ⟨.inl rfl, _, Ent.refl, _, rfl, ?_⟩
    rw [kidsN_not (by rw [ndB, if_neg (of_decide_eq_false hc19), if_neg (of_decide_eq_false hc36), if_neg (of_decide_eq_false hc47)])]
theorem c187s {L : Nat} (h1 : 4096 ≤ L) (h2 : L ≤ 1073741824) {p : List Nd} {n k : Nat} (hk : k ≤ p.length) (hn : p.length < n + 1 + k) (ih : ∀ k', k' ≤ p.length → p.length < n + k' → MC Try.prog L 141 [ands p, eI k'] [] (Plain (resE (behF n p k')))) : MC Try.prog L 141 [ands p, eI k] [] (Plain (resE (behF (n + 1) p k))) := by
 have hσ := SGok (nt := 45) h1 (Nat.le_trans h2 (by decide))
 refine MC.body hσ Try.func141 (by kernel_rfl) rfl rfl (Nat.le_of_ble_eq_true rfl) (fun hF => ?_)
 have hl : p.length ≤ L := by simpa [As.fact, A.fact, M.fact, D.fact, Ds.fact] using hF.1.1
 refine jsr ?_
 iterate 3 refine jst hσ rfl rfl rfl rfl rfl ?_
 refine jn ?_
 refine AWP.seq ?_
 refine jsr ?_
 iterate 2 refine jst hσ rfl rfl rfl rfl rfl ?_
 first | refine jle hσ rfl rfl rfl rfl rfl rfl rfl rfl rfl rfl rfl ?_ | refine jst hσ rfl rfl rfl rfl rfl ?_ | refine jvf hσ rfl rfl rfl rfl rfl ?_
 refine jst hσ rfl rfl rfl rfl rfl ?_
 refine jf6 15 6 5 4 0 1 rfl rfl rfl rfl rfl rfl ?_
 refine jn ?_
 refine AWP.cond hσ rfl rfl (fun hc15 => ?_) (fun hc15 => ?_)
 ·
  try simp only [jcs] at hc15
  refine jsr ?_
  iterate 3 refine jst hσ rfl rfl rfl rfl rfl ?_
  refine jn ?_
  refine AWP.ret ?_
  refine ⟨.inl rfl, _, Ent.refl, _, rfl, ?_, rfl⟩
  rw [show behF (n + 1) p k = none from if_pos (by omega)]
 ·
  try simp only [jcs] at hc15
  refine AWP.skip ?_
  refine jsr ?_
  iterate 2 refine jst hσ rfl rfl rfl rfl rfl ?_
  first | refine jin hσ rfl rfl rfl rfl rfl rfl rfl rfl rfl rfl rfl ?_ | refine jix hσ rfl rfl rfl rfl rfl rfl rfl rfl rfl rfl rfl ?_ | refine jvf hσ rfl rfl rfl rfl rfl ?_
  refine jst hσ rfl rfl rfl rfl rfl ?_
  refine jf6 19 6 5 4 0 1 rfl rfl rfl rfl rfl rfl ?_
  refine AOps.lone hσ rfl rfl rfl rfl (c202 (n := p.getD k default) h1 h2) (VAs.self rfl) rfl rfl rfl rfl rfl (B0 := 21000) rfl ?_
  refine jst hσ rfl rfl rfl rfl rfl ?_
  refine jf6 7 6 5 4 0 1 rfl rfl rfl rfl rfl rfl ?_
  refine jn ?_
  refine AWP.seq ?_
  refine jsr ?_
  iterate 2 refine jst hσ rfl rfl rfl rfl rfl ?_
  refine jn ?_
  refine AWP.cond hσ rfl rfl (fun hc22 => ?_) (fun hc22 => ?_)
  ·
   try simp only [jcs] at hc22
   refine jsr ?_
   iterate 3 refine jst hσ rfl rfl rfl rfl rfl ?_
   refine jn ?_
   refine AWP.ret ?_
   refine ⟨.inl rfl, _, Ent.refl, _, rfl, ?_, rfl⟩
   rw [show behF (n + 1) p k = none by unfold behF; rw [if_neg (by omega)]; exact if_pos hc22]
  ·
   try simp only [jcs] at hc22
   refine AWP.skip ?_
   refine jsr ?_
   refine jst hσ rfl rfl rfl rfl rfl ?_
   first | refine jfi hσ rfl rfl rfl rfl rfl ?_ | refine jvf hσ rfl rfl rfl rfl rfl ?_
   refine jst hσ rfl rfl rfl rfl rfl ?_
   refine jf7 1 21 7 6 5 4 0 rfl rfl rfl rfl rfl rfl rfl ?_
   refine jns ?_
   refine jst hσ rfl rfl rfl rfl rfl ?_
   refine jn ?_
   refine AWP.seq ?_
   refine AWP.block ?_
   refine AWP.loopP (X := Nat × Nat × Int) (fun x => ⟨[(0, ands p), (1, eI x.2.1), (7, eI x.1), (8, eI x.2.2)], []⟩) (fun x => x.2.1 ≤ p.length ∧ k < x.2.1 ∧ iterE (behF n p) (kidsN (p.getD k default)).toNat (k + 1) 0 = iterE (behF n p) x.1 x.2.1 x.2.2 ∧ x.1 ≤ 2 ∧ 0 ≤ x.2.2 ∧ x.2.2 ≤ (x.2.1 : Int) - (k + 1 : Nat)) (fun x => x.1) ((kidsN (p.getD k default)).toNat, k + 1, 0) (Ent.to ⟨rfl, rfl, congrArg (fun z => some (eI z)) (Int.toNat_of_nonneg hc22).symm, rfl, trivial⟩ rfl) ?_ (fun x hi => ?_)
   ·
    exact ⟨(show k + 1 ≤ p.length by omega), Nat.lt_succ_self k, rfl, by have := kidsN_le (p.getD k default); show (kidsN (p.getD k default)).toNat ≤ 2; omega, Int.le_refl 0, by show (0 : Int) ≤ ((k + 1 : Nat) : Int) - (k + 1 : Nat); omega⟩
   refine AWP.seq ?_
   refine jsr ?_
   iterate 2 refine jst hσ rfl rfl rfl rfl rfl ?_
   refine jn ?_
   refine AWP.cond hσ rfl rfl (fun hc26 => ?_) (fun hc26 => ?_)
   ·
    try simp only [jcs] at hc26
    refine AWP.skip ?_
    refine AWP.seq ?_
    refine AWP.block ?_
    refine jsr ?_
    iterate 2 refine jst hσ rfl rfl rfl rfl rfl ?_
    refine AOps.plainD hσ rfl rfl rfl rfl (ih x.2.1 hi.1 (by omega)) (VAs.self rfl) rfl rfl rfl rfl (B0 := 33000) rfl rfl ?_
    iterate 7 refine jst hσ rfl rfl rfl rfl rfl ?_
    refine jf9 11 10 9 26 25 0 1 7 8 rfl rfl rfl rfl rfl rfl rfl rfl rfl ?_
    refine jn ?_
    refine AWP.seq ?_
    refine jsr ?_
    iterate 2 refine jst hσ rfl rfl rfl rfl rfl ?_
    refine jf9 37 10 9 26 25 0 1 7 8 rfl rfl rfl rfl rfl rfl rfl rfl rfl ?_
    refine jn ?_
    refine AWP.cond hσ rfl rfl (fun hc37 => ?_) (fun hc37 => ?_)
    ·
     try simp only [jcs] at hc37
     refine jsr ?_
     iterate 3 refine jst hσ rfl rfl rfl rfl rfl ?_
     refine jn ?_
     refine AWP.ret ?_
     refine ⟨.inl rfl, _, Ent.refl, _, rfl, ?_, rfl⟩
     have e0 := eO_false hc37
     rw [show behF (n + 1) p k = none by
      unfold behF
      rw [if_neg (by omega), if_neg (by omega), hi.2.2.1]
      obtain ⟨q, hq⟩ : ∃ q, x.1 = q + 1 := ⟨x.1 - 1, by omega⟩
      rw [hq, iterE_none e0]; rfl]
    ·
     try simp only [jcs] at hc37
     refine AWP.skip ?_
     refine jsr ?_
     obtain ⟨k1, d1, hr⟩ := eO_true hc37
     rw [hr]
     iterate 4 refine jst hσ rfl rfl rfl rfl rfl ?_
     refine jf8 8 37 9 26 25 0 1 7 rfl rfl rfl rfl rfl rfl rfl rfl ?_
     refine jn ?_
     refine AWP.region ?_
     iterate 2 refine jst hσ rfl rfl rfl rfl rfl ?_
     refine jf7 1 8 37 26 25 0 7 rfl rfl rfl rfl rfl rfl rfl ?_
     refine jn ?_
     refine AWP.region ?_
     refine jst hσ rfl rfl rfl rfl rfl ?_
     first | refine jfi hσ rfl rfl rfl rfl rfl ?_ | refine jvf hσ rfl rfl rfl rfl rfl ?_
     refine jst hσ rfl rfl rfl rfl rfl ?_
     refine jf7 7 1 8 37 26 25 0 rfl rfl rfl rfl rfl rfl rfl ?_
     refine jn ?_
     have hle := behF_le hr
     refine ⟨(x.1 - 1, k1, if d1 > x.2.2 then d1 else x.2.2), Ent.to ⟨rfl, rfl, ?_, rfl, trivial⟩ rfl, ⟨hle.2.1, by show k < k1; omega, ?_, by show x.1 - 1 ≤ 2; omega, by show 0 ≤ (if d1 > x.2.2 then d1 else x.2.2); split <;> omega, by show (if d1 > x.2.2 then d1 else x.2.2) ≤ (k1 : Int) - (k + 1 : Nat); split <;> omega⟩, ?_⟩
     ·
      exact congrArg (fun z => some (eI z)) (by show (x.1 : Int) - 1 = (x.1 - 1 : Nat); omega)
     ·
      rw [hi.2.2.1]
      obtain ⟨q, hq⟩ : ∃ q, x.1 = q + 1 := ⟨x.1 - 1, by omega⟩
      rw [hq, iterE_some hr]; rfl
     ·
      show x.1 - 1 < x.1; omega
   ·
    try simp only [jcs] at hc26
    refine AWP.exit ?_
    refine jsr ?_
    iterate 2 refine jst hσ rfl rfl rfl rfl rfl ?_
    first | refine jfi hσ rfl rfl rfl rfl rfl ?_ | refine jvf hσ rfl rfl rfl rfl rfl ?_
    iterate 3 refine jst hσ rfl rfl rfl rfl rfl ?_
    refine jf9 6 5 4 26 25 0 1 7 8 rfl rfl rfl rfl rfl rfl rfl rfl rfl ?_
    refine jn ?_
    refine AWP.ret ?_
    refine ⟨.inl rfl, _, Ent.refl, _, rfl, ?_, rfl⟩
    have hx : x.1 = 0 := by omega
    rw [show behF (n + 1) p k = some (x.2.1, x.2.2 + 1) by
     unfold behF
     rw [if_neg (by omega), if_neg (by omega), hi.2.2.1, hx]; rfl]
theorem c187 {L : Nat} (h1 : 4096 ≤ L) (h2 : L ≤ 1073741824) {p : List Nd} : ∀ {n k : Nat}, k ≤ p.length → p.length < n + k → MC Try.prog L 141 [ands p, eI k] [] (Plain (resE (behF n p k)))
 | 0, k, hk, hn => by omega
 | n + 1, k, hk, hn => c187s h1 h2 hk hn (fun k' hk' hn' => c187 h1 h2 hk' hn')
theorem c145 {L : Nat} (h1 : 4096 ≤ L) (h2 : L ≤ 1073741824) {p : List Nd} : MC Try.prog L 119 [ands p] [] (Plain (eB (isI p))) := by
 refine MC.alone ?_ rfl
 have hσ := SGok (nt := 22) h1 (Nat.le_trans h2 (by decide))
 refine MC.body hσ Try.func119 (by kernel_rfl) rfl rfl (Nat.le_of_ble_eq_true rfl) (fun hF => ?_)
 have hl : p.length ≤ L := by simpa [As.fact, A.fact, M.fact, D.fact, Ds.fact] using hF.1.1
 refine jsr ?_
 refine jst hσ rfl rfl rfl rfl rfl ?_
 refine jn ?_
 refine AWP.seq ?_
 refine jsr ?_
 refine jst hσ rfl rfl rfl rfl rfl ?_
 first | refine jle hσ rfl rfl rfl rfl rfl rfl rfl rfl rfl rfl rfl ?_ | refine jst hσ rfl rfl rfl rfl rfl ?_ | refine jvf hσ rfl rfl rfl rfl rfl ?_
 refine jst hσ rfl rfl rfl rfl rfl ?_
 refine AOps.forget [(8, _), (2, _), (0, _)] ⟨rfl, rfl, rfl, trivial⟩ ?_
 refine jn ?_
 refine AWP.cond hσ rfl rfl (fun hc8 => ?_) (fun hc8 => ?_)
 ·
  try simp only [jcs] at hc8
  refine jsr ?_
  refine jst hσ rfl rfl rfl rfl rfl ?_
  refine jn ?_
  refine AWP.ret ?_
  refine ⟨.inl rfl, _, Ent.refl, _, rfl, ?_⟩
  rw [isI, decide_eq_false (show ¬ (p.length : Int) ≤ 60 by omega), Bool.false_and]
 ·
  try simp only [jcs] at hc8
  refine AWP.skip ?_
  refine jsr ?_
  refine jst hσ rfl rfl rfl rfl rfl ?_
  refine AOps.reset [(10, _), (2, _), (0, _)] [] ⟨rfl, rfl, rfl, trivial⟩ rfl ?_
  refine AOps.plainD hσ rfl rfl rfl rfl (c187 (p := p) (n := p.length + 1) (k := 0) h1 h2 (Nat.zero_le _) (by omega)) (VAs.self rfl) rfl rfl rfl rfl (B0 := 12000) rfl rfl ?_
  iterate 7 refine jst hσ rfl rfl rfl rfl rfl ?_
  refine jf4 5 3 2 0 rfl rfl rfl rfl ?_
  refine jns ?_
  iterate 2 refine jst hσ rfl rfl rfl rfl rfl ?_
  refine AOps.reset [(16, _), (3, _), (2, _), (0, _)] [] ⟨rfl, rfl, rfl, rfl, trivial⟩ rfl ?_
  refine AOps.gr 4 rfl rfl rfl (fun hx => AN.step hx rfl rfl rfl (Val.of hσ rfl rfl) rfl rfl ( AN.step hx rfl rfl rfl (Val.of hσ rfl rfl) rfl rfl ( AN.step hx rfl rfl rfl (Val.lenD hσ rfl rfl rfl rfl rfl rfl rfl rfl) rfl rfl ( AN.step hx rfl rfl rfl (Val.of hσ rfl rfl) rfl rfl ( AN.nil))))) rfl rfl ?_
  first | refine AOps.step (Val.pickT hσ rfl rfl rfl rfl rfl) rfl rfl rfl ?_ | refine AOps.step (Val.pickF hσ rfl rfl rfl rfl rfl) rfl rfl rfl ?_ | refine AOps.step (Val.pickB hσ rfl rfl rfl rfl rfl) rfl rfl rfl ?_
  refine jst hσ rfl rfl rfl rfl rfl ?_
  refine AOps.forget [(2, _), (0, _)] ⟨rfl, rfl, trivial⟩ ?_
  refine jn ?_
  refine AWP.ret ?_
  refine ⟨.inl rfl, _, Ent.refl, _, rfl, ?_⟩
  rw [isI, decide_eq_true (show (p.length : Int) ≤ 60 by omega), Bool.true_and, Bool.cond_false_right]
end Go.Al
namespace Go.Al
open Go.Proofs
set_option linter.unusedVariables false
/-! ### Tightening, told in two ways -/
theorem foldl_gcd_dvd : ∀ {xs : List Int} {g : Nat}, (xs.foldl (fun g x => Nat.gcd g x.natAbs) g ∣ g) ∧ ∀ x ∈ xs, xs.foldl (fun g x => Nat.gcd g x.natAbs) g ∣ x.natAbs
  | [], g => ⟨Nat.dvd_refl _, fun x hx => by cases hx⟩
  | y :: r, g => by
    have ih := foldl_gcd_dvd (xs := r) (g := Nat.gcd g y.natAbs)
    refine ⟨Nat.dvd_trans ih.1 (Nat.gcd_dvd_left _ _), fun x hx => ?_⟩
    rcases List.mem_cons.1 hx with rfl | hx
    · exact Nat.dvd_trans ih.1 (Nat.gcd_dvd_right _ _)
    · exact ih.2 x hx
theorem gcdL_dvd {xs : List Int} {x : Int} (hx : x ∈ xs) : gcdL xs ∣ x.natAbs := (foldl_gcd_dvd (g := 0)).2 x hx
theorem tdiv_ne {x : Int} {g : Nat} (h : g ∣ x.natAbs) (hx : x ≠ 0) (hg : 2 ≤ g) : x.tdiv g ≠ 0 := by
  intro h0
  have h1 : (x.tdiv g).natAbs = x.natAbs / g := by rw [Int.natAbs_tdiv]; rfl
  rw [h0] at h1
  obtain ⟨q, hq⟩ := h
  rw [hq, Nat.mul_div_cancel_left _ (by omega)] at h1
  have : q = 0 := by simpa using h1.symm
  rw [this] at hq
  omega
theorem trim_last {xs : List Int} (h : xs = [] ∨ xs.getD (xs.length - 1) default ≠ 0) : trim xs = xs := by
  have := trim_done (xs := xs) (n := xs.length) (Nat.le_refl _) (h.imp (fun e => by rw [e]; rfl) id)
  rwa [List.take_length] at this
theorem ok_iff {t : Tm} : t.ok = true ↔ num t.c = true ∧ t.xs.all num = true ∧ t.xs.length ≤ 10 ∧ (t.xs = [] ∨ t.xs.getD (t.xs.length - 1) default ≠ 0) := by
  unfold Tm.ok
  have hz : ((t.xs.length : Int) - 1).toNat = t.xs.length - 1 := by omega
  rw [hz]
  cases h1 : num t.c <;> cases h2 : t.xs.all num <;> simp
  by_cases h3 : t.xs.length ≤ 10
  · have h4 : ¬ (10 : Int) < t.xs.length := by omega
    by_cases h5 : t.xs = []
    · simp [h5]
    · have h6 : 0 < t.xs.length := List.length_pos_iff.2 h5
      simp [h3, h5]
      intro _; omega
  · have h4 : (10 : Int) < t.xs.length := by omega
    simp [h3, h4]
theorem mkT_eq {c : Int} {xs : List Int} (h : (Tm.mk c xs).ok = true) : mkT c xs = (⟨c, xs⟩, true) := by
  have h1 := ok_iff.1 h
  have h2 : trim xs = xs := trim_last h1.2.2.2
  unfold mkT
  rw [h2, if_pos h]
theorem tight_eq {t : Tm} (h : t.ok = true) : tightI t = tightS t := by
  unfold tightI tightS
  split
  · rfl
  · rename_i hg
    obtain ⟨h1, h2, h3, h4⟩ := ok_iff.1 h
    have hc := num_iff.1 h1
    have e : (if t.c.tmod (gcdL t.xs) < 0 then t.c.tdiv (gcdL t.xs) - 1 else t.c.tdiv (gcdL t.xs)) = flr t.c (gcdL t.xs) := rfl
    rw [e]
    refine (mkT_eq ?_).symm
    refine ok_iff.2 ⟨?_, ?_, by simpa using h3, ?_⟩
    · have hq : (t.c.tdiv (gcdL t.xs)).natAbs = t.c.natAbs / gcdL t.xs := by rw [Int.natAbs_tdiv]; rfl
      have hq2 : t.c.natAbs / gcdL t.xs ≤ t.c.natAbs / 2 := Nat.div_le_div_left (by omega) (by decide)
      refine num_iff.2 ?_
      show -1000000 ≤ flr t.c (gcdL t.xs) ∧ flr t.c (gcdL t.xs) ≤ 1000000
      unfold flr
      split <;> omega
    · rw [List.all_eq_true]
      intro y hy
      obtain ⟨x, hx, rfl⟩ := List.mem_map.1 hy
      have := num_iff.1 (List.all_eq_true.1 h2 x hx)
      exact num_iff.2 (tdiv_in this)
    · rcases h4 with h4 | h4
      · exact .inl (by rw [h4]; rfl)
      · by_cases h0 : t.xs = []
        · exact .inl (by rw [h0]; rfl)
        · refine .inr ?_
          have hl : 0 < t.xs.length := List.length_pos_iff.2 h0
          rw [getD_lt (by omega)] at h4
          rw [getD_lt (by simp; omega)]
          simp only [List.length_map, List.getElem_map]
          exact tdiv_ne (gcdL_dvd (List.getElem_mem _)) h4 (by omega)
/-! ### The opposite, told in two ways -/
theorem opp_cols {t : Tm} : sumL t (-1) ⟨1, []⟩ (-1) = colsL [t] [-1] := by
  unfold sumL colsL
  apply List.map_congr_left
  intro k _
  show -1 * t.xs.getD k 0 + -1 * 0 = -1 * t.xs.getD k 0 + 0
  omega
theorem opp_eq {t : Tm} : oppT t = if (oppI t).ok = true then (oppI t, true) else (⟨0, []⟩, false) := by
  unfold oppT sumT mkT
  rw [opp_cols]
  have : (-1 * t.c + -1 * (⟨1, []⟩ : Tm).c) = dotG Tm.c [t] [-1] - 1 := by
    show -1 * t.c + -1 * 1 = -1 * t.c + 0 - 1
    omega
  rw [this]
theorem opp_2 {t : Tm} : (oppT t).2 = (oppI t).ok := by
  rw [opp_eq]
  cases h : (oppI t).ok <;> simp
theorem opp_1 {t : Tm} (h : (oppI t).ok = true) : (oppT t).1 = oppI t := by rw [opp_eq, if_pos h]
/-! ### Closing, told in two ways -/
theorem trim_nil_iff {xs : List Int} : trim xs = [] ↔ xs.all (fun x => decide (x = 0)) = true := by
  unfold trim
  rw [List.reverse_eq_nil_iff, List.all_eq_true]
  constructor
  · intro h x hx
    have key : ∀ {l : List Int}, l.dropWhile (· == 0) = [] → ∀ x ∈ l, x = 0 := by
      intro l
      induction l with
      | nil => intro _ x hx; cases hx
      | cons y r ih =>
        intro h x hx
        rw [List.dropWhile_cons] at h
        split at h
        · rename_i hy
          rcases List.mem_cons.1 hx with rfl | hx
          · simpa using hy
          · exact ih h x hx
        · cases h
    exact decide_eq_true (key h x (List.mem_reverse.2 hx))
  · intro h
    have key : ∀ {l : List Int}, (∀ x ∈ l, x = 0) → l.dropWhile (· == 0) = [] := by
      intro l
      induction l with
      | nil => intro _; rfl
      | cons y r ih =>
        intro h
        rw [List.dropWhile_cons, if_pos (by simpa using h y (by simp))]
        exact ih fun x hx => h x (by simp [hx])
    exact key fun x hx => of_decide_eq_true (h x (List.mem_reverse.1 hx))
theorem closes_eq {ctx : List Tm} {ms : List Int} : closesI ctx ms = closesB ctx ms := by
  unfold closesI closesB
  have h1 : decide (ms.length = ctx.length) = decide (ctx.length = ms.length) := decide_eq_decide.2 ⟨Eq.symm, Eq.symm⟩
  have h2 : decide ((trim (colsL ctx ms)).length = 0) = (colsL ctx ms).all (fun x => decide (x = 0)) := by
    cases h : (colsL ctx ms).all (fun x => decide (x = 0)) with
    | true => rw [trim_nil_iff.2 h]; rfl
    | false =>
      refine decide_eq_false fun h0 => ?_
      rw [trim_nil_iff.1 (List.eq_nil_of_length_eq_zero h0)] at h
      cases h
  rw [h1, h2]
/-! ### Proofs as trees -/
inductive Pf where
  | close (n : Nd)
  | tight (n : Nd) (a : Pf)
  | split (n : Nd) (a b : Pf)
def Pf.size : Pf → Nat
  | .close _ => 1
  | .tight _ a => 1 + a.size
  | .split _ a b => 1 + a.size + b.size
def Pf.At (p : List Nd) : Pf → Nat → Prop
  | .close n, k => p[k]? = some n ∧ ndB n = true ∧ n.kind = 1
  | .tight n a, k => p[k]? = some n ∧ ndB n = true ∧ n.kind = 3 ∧ a.At p (k + 1)
  | .split n a b, k => p[k]? = some n ∧ ndB n = true ∧ n.kind = 2 ∧ a.At p (k + 1) ∧ b.At p (k + 1 + a.size)
theorem get_some {p : List Nd} {k : Nat} {n : Nd} (h : p[k]? = some n) : k < p.length ∧ p.getD k default = n := by
  have h1 := (List.getElem?_eq_some_iff.1 h).1
  exact ⟨h1, by rw [getD_lt h1]; exact (List.getElem?_eq_some_iff.1 h).2⟩
theorem Pf.At.le {p : List Nd} : ∀ {t : Pf} {k : Nat}, t.At p k → k + t.size ≤ p.length
  | .close n, k, h => by have := (get_some h.1).1; simp only [Pf.size]; omega
  | .tight n a, k, h => by have := h.2.2.2.le; simp only [Pf.size]; omega
  | .split n a b, k, h => by have := h.2.2.2.2.le; simp only [Pf.size]; omega
theorem Pf.size_pos : ∀ {t : Pf}, 0 < t.size
  | .close _ => by simp [Pf.size]
  | .tight _ _ => by simp only [Pf.size]; omega
  | .split _ _ _ => by simp only [Pf.size]; omega
/-- What the program says of the end of a subproof. -/
theorem Pf.At.beh {p : List Nd} : ∀ {t : Pf} {k n : Nat}, t.At p k → p.length < n + k → ∃ d, behF n p k = some (k + t.size, d)
  | .close x, k, 0, h, hn => by have := (get_some h.1).1; omega
  | .tight x a, k, 0, h, hn => by have := (get_some h.1).1; omega
  | .split x a b, k, 0, h, hn => by have := (get_some h.1).1; omega
  | .close x, k, n + 1, h, hn => by
    obtain ⟨h1, h2⟩ := get_some h.1
    have hk : kidsN x = 0 := by rw [kidsN_of h.2.1, if_pos h.2.2]
    refine ⟨0 + 1, ?_⟩
    unfold behF
    rw [if_neg (by omega), h2, hk, if_neg (by decide)]
    rfl
  | .tight x a, k, n + 1, h, hn => by
    obtain ⟨h1, h2⟩ := get_some h.1
    have hk : kidsN x = 1 := by rw [kidsN_of h.2.1, if_neg (by rw [h.2.2.1]; decide), if_neg (by rw [h.2.2.1]; decide)]
    obtain ⟨d, hd⟩ := h.2.2.2.beh (n := n) (by omega)
    refine ⟨(if d > 0 then d else 0) + 1, ?_⟩
    unfold behF
    rw [if_neg (by omega), h2, hk, if_neg (by decide), show (1 : Int).toNat = 0 + 1 from rfl, iterE_some hd]
    show some (k + 1 + a.size, _) = some (k + (1 + a.size), _)
    rw [Nat.add_assoc]
  | .split x a b, k, n + 1, h, hn => by
    obtain ⟨h1, h2⟩ := get_some h.1
    have hk : kidsN x = 2 := by rw [kidsN_of h.2.1, if_neg (by rw [h.2.2.1]; decide), if_pos h.2.2.1]
    obtain ⟨d, hd⟩ := h.2.2.2.1.beh (n := n) (by omega)
    obtain ⟨d', hd'⟩ := h.2.2.2.2.beh (n := n) (by have := Pf.size_pos (t := a); omega)
    refine ⟨(if d' > (if d > 0 then d else 0) then d' else (if d > 0 then d else 0)) + 1, ?_⟩
    unfold behF
    rw [if_neg (by omega), h2, hk, if_neg (by decide), show (2 : Int).toNat = 1 + 1 from rfl, iterE_some hd, show (1 : Nat) = 0 + 1 from rfl, iterE_some hd']
    show some (k + 1 + a.size + b.size, _) = some (k + (1 + a.size + b.size), _)
    rw [show k + 1 + a.size + b.size = k + (1 + a.size + b.size) by omega]
theorem kidsN_valid {n : Nd} (h : ¬ kidsN n < 0) : ndB n = true := by
  cases hb : ndB n with
  | true => rfl
  | false => rw [kidsN_not hb] at h; exact absurd (by decide) h
/-- Where the program finds a subproof, there is a tree. -/
theorem beh_at {p : List Nd} : ∀ {n k k' : Nat} {d : Int}, behF n p k = some (k', d) → ∃ t : Pf, t.At p k ∧ k' = k + t.size
  | 0, _, _, _, h => by cases h
  | n + 1, k, k', d, h => by
    unfold behF at h
    split at h
    · cases h
    · rename_i hl
      split at h
      · cases h
      · rename_i hk
        have hb := kidsN_valid hk
        have hg : p[k]? = some (p.getD k default) := by rw [getD_lt (by omega)]; exact List.getElem?_eq_getElem (by omega)
        generalize p.getD k default = x at hk hb hg h
        rcases ndB_kind hb with h1 | h1 | h1
        · rw [kidsN_of hb, if_pos h1] at h
          simp only [Int.toNat_zero, iterE, Option.map_some, Option.some.injEq, Prod.mk.injEq] at h
          exact ⟨.close x, ⟨hg, hb, h1⟩, h.1.symm⟩
        · rw [kidsN_of hb, if_neg (by omega), if_pos h1, show (2 : Int).toNat = 1 + 1 from rfl] at h
          cases e1 : behF n p (k + 1) with
          | none => rw [iterE_none e1] at h; cases h
          | some r1 =>
            obtain ⟨k1, d1⟩ := r1
            rw [iterE_some e1, show (1 : Nat) = 0 + 1 from rfl] at h
            obtain ⟨a, ha, rfl⟩ := beh_at e1
            cases e2 : behF n p (k + 1 + a.size) with
            | none => rw [iterE_none e2] at h; cases h
            | some r2 =>
              obtain ⟨k2, d2⟩ := r2
              rw [iterE_some e2] at h
              obtain ⟨b, hb2, rfl⟩ := beh_at e2
              simp only [iterE, Option.map_some, Option.some.injEq, Prod.mk.injEq] at h
              exact ⟨.split x a b, ⟨hg, hb, h1, ha, hb2⟩, by rw [← h.1]; simp only [Pf.size]; omega⟩
        · rw [kidsN_of hb, if_neg (by omega), if_neg (by omega), show (1 : Int).toNat = 0 + 1 from rfl] at h
          cases e1 : behF n p (k + 1) with
          | none => rw [iterE_none e1] at h; cases h
          | some r1 =>
            obtain ⟨k1, d1⟩ := r1
            rw [iterE_some e1] at h
            obtain ⟨a, ha, rfl⟩ := beh_at e1
            simp only [iterE, Option.map_some, Option.some.injEq, Prod.mk.injEq] at h
            exact ⟨.tight x a, ⟨hg, hb, h1, ha⟩, by rw [← h.1]; simp only [Pf.size]; omega⟩
/-- What the reference says of the end of a subproof. -/
theorem Pf.At.endK {p : List Nd} : ∀ {t : Pf} {k : Nat} {need : Int}, t.At p k → 0 < need → Al.endK (p.drop k) need = (Al.endK (p.drop (k + t.size)) (need - 1)).map (· + t.size)
  | .close x, k, need, h, hn => by
    obtain ⟨h1, h2⟩ := get_some h.1
    rw [endK_pos hn h1, h2, h.2.2]; rfl
  | .tight x a, k, need, h, hn => by
    obtain ⟨h1, h2⟩ := get_some h.1
    rw [endK_pos hn h1, h2, h.2.2.1, show need + dl 3 = need by show need + 0 = need; omega, h.2.2.2.endK hn, Option.map_map]
    simp only [Pf.size]
    rw [show k + 1 + a.size = k + (1 + a.size) by omega]
    exact congrArg (fun f => Option.map f _) (funext fun n => by show n + a.size + 1 = n + (1 + a.size); omega)
  | .split x a b, k, need, h, hn => by
    obtain ⟨h1, h2⟩ := get_some h.1
    rw [endK_pos hn h1, h2, h.2.2.1, show need + dl 2 = need + 1 from rfl, h.2.2.2.1.endK (by omega), show need + 1 - 1 = need by omega, h.2.2.2.2.endK hn, Option.map_map, Option.map_map]
    simp only [Pf.size]
    rw [show k + 1 + a.size + b.size = k + (1 + a.size + b.size) by omega]
    exact congrArg (fun f => Option.map f _) (funext fun n => by show n + b.size + a.size + 1 = n + (1 + a.size + b.size); omega)
theorem Pf.At.endP {p : List Nd} {t : Pf} {k : Nat} (h : t.At p k) : Al.endP p k = k + t.size := by
  unfold Al.endP
  rw [h.endK (by decide), show (1 : Int) - 1 = 0 from rfl, endK_neg (Int.le_refl 0)]
  show (k : Int) + (0 + t.size : Nat) = _
  omega
theorem Pf.At.valid {p : List Nd} : ∀ {t : Pf} {k j : Nat}, t.At p k → k ≤ j → j < k + t.size → ndB (p.getD j default) = true
  | .close x, k, j, h, h1, h2 => by
    simp only [Pf.size] at h2
    obtain rfl : j = k := by omega
    rw [(get_some h.1).2]; exact h.2.1
  | .tight x a, k, j, h, h1, h2 => by
    by_cases e : j = k
    · subst e; rw [(get_some h.1).2]; exact h.2.1
    · simp only [Pf.size] at h2
      exact h.2.2.2.valid (by omega) (by omega)
  | .split x a b, k, j, h, h1, h2 => by
    by_cases e : j = k
    · subst e; rw [(get_some h.1).2]; exact h.2.1
    · simp only [Pf.size] at h2
      by_cases e2 : j < k + 1 + a.size
      · exact h.2.2.2.1.valid (by omega) (by omega)
      · exact h.2.2.2.2.valid (by omega) (by omega)
/-- Where the reference finds a subproof of valid nodes, there is a tree. -/
theorem endK_at {p : List Nd} (hv : ∀ n ∈ p, ndB n = true) : ∀ {m k : Nat} {need : Int} {r : Nat}, p.length - k ≤ m → 0 < need → endK (p.drop k) need = some r → ∃ t : Pf, t.At p k
  | 0, k, need, r, hm, hn, h => by
    rw [List.drop_of_length_le (by omega), endK_nil hn] at h; cases h
  | m + 1, k, need, r, hm, hn, h => by
    by_cases hk : k < p.length
    · have hg : p[k]? = some (p.getD k default) := by rw [getD_lt hk]; exact List.getElem?_eq_getElem hk
      have hb : ndB (p.getD k default) = true := by rw [getD_lt hk]; exact hv _ (List.getElem_mem hk)
      rw [endK_pos hn hk] at h
      generalize p.getD k default = x at hb hg h
      rcases ndB_kind hb with h1 | h1 | h1
      · exact ⟨.close x, hg, hb, h1⟩
      · rw [h1, show need + dl 2 = need + 1 from rfl] at h
        simp only [Option.map_eq_some_iff] at h
        obtain ⟨r1, h2, _⟩ := h
        obtain ⟨a, ha⟩ := endK_at hv (m := m) (by omega) (by omega) h2
        rw [ha.endK (by omega), show need + 1 - 1 = need by omega] at h2
        simp only [Option.map_eq_some_iff] at h2
        obtain ⟨r2, h3, _⟩ := h2
        obtain ⟨b, hb2⟩ := endK_at hv (m := m) (by have := Pf.size_pos (t := a); omega) hn h3
        exact ⟨.split x a b, hg, hb, h1, ha, hb2⟩
      · rw [h1, show need + dl 3 = need by show need + 0 = need; omega] at h
        simp only [Option.map_eq_some_iff] at h
        obtain ⟨r1, h2, _⟩ := h
        obtain ⟨a, ha⟩ := endK_at hv (m := m) (by omega) hn h2
        exact ⟨.tight x a, hg, hb, h1, ha⟩
    · rw [List.drop_of_length_le (by omega), endK_nil hn] at h; cases h
theorem isB_tree {p : List Nd} (h : isB p = true) : ∃ t : Pf, t.At p 0 ∧ t.size = p.length := by
  obtain ⟨h1, h2, h3, h4⟩ := isB_spec h
  have h5 : ∃ r, endK (p.drop 0) 1 = some r := by
    unfold endP at h4
    cases e : endK (p.drop 0) 1 with
    | some r => exact ⟨r, rfl⟩
    | none => rw [e] at h4; have h4 : (-1 : Int) = p.length := h4; omega
  obtain ⟨r, hr⟩ := h5
  obtain ⟨t, ht⟩ := endK_at h3 (Nat.le_refl _) (by decide) hr
  refine ⟨t, ht, ?_⟩
  rw [ht.endP] at h4
  omega
theorem isI_tree {p : List Nd} (h : isI p = true) : p.length ≤ 60 ∧ ∃ t : Pf, t.At p 0 ∧ t.size = p.length := by
  unfold isI at h
  simp only [Bool.and_eq_true, decide_eq_true_eq] at h
  obtain ⟨k, d, hr⟩ := eO_true h.2.1
  obtain ⟨t, ht, hk⟩ := beh_at hr
  have h3 := h.2.2
  rw [hr] at h3
  have h3 : (k : Int) = p.length := h3
  exact ⟨by omega, t, ht, by omega⟩
theorem isI_eq {p : List Nd} : isI p = isB p := by
  rw [Bool.eq_iff_iff]
  constructor
  · intro h
    obtain ⟨h1, t, ht, hs⟩ := isI_tree h
    have hp := Pf.size_pos (t := t)
    unfold isB
    rw [decide_eq_true (show (1 : Int) ≤ p.length by omega), decide_eq_true (show (p.length : Int) ≤ 60 by omega), ht.endP, decide_eq_true (show ((0 : Nat) : Int) + t.size = p.length by omega)]
    simp only [Bool.and_true, Bool.true_and, List.all_eq_true]
    intro n hn
    obtain ⟨j, hj, rfl⟩ := List.mem_iff_getElem.1 hn
    have := ht.valid (Nat.zero_le j) (by omega)
    rwa [getD_lt hj] at this
  · intro h
    obtain ⟨t, ht, hs⟩ := isB_tree h
    obtain ⟨h1, h2, _, _⟩ := isB_spec h
    obtain ⟨d, hd⟩ := ht.beh (n := p.length + 1) (by omega)
    unfold isI
    rw [decide_eq_true (show (p.length : Int) ≤ 60 by omega), hd]
    show (true && decide (((0 + t.size : Nat) : Int) = p.length)) = true
    rw [decide_eq_true (by omega)]; rfl
/-! ### The examination, told of the tree -/
structure Ex where
  es : List (Int × List Tm)
  flaw : Int
def tput : List (Int × List Tm) → Int → List Tm → List (Int × List Tm)
  | [], k, x => [(k, x)]
  | (j, y) :: r, k, x => if k = j then (k, x) :: r else (j, y) :: tput r k x
def tget : List (Int × List Tm) → Int → Option (List Tm)
  | [], _ => none
  | (j, x) :: r, k => if k = j then some x else tget r k
abbrev cm (es : List (Int × List Tm)) : List (Int × D) := es.map fun x => (x.1, tms x.2)
theorem iput_cm {k : Int} {c : List Tm} : ∀ {es : List (Int × List Tm)}, iput (cm es) k (tms c) = cm (tput es k c)
  | [] => rfl
  | (j, y) :: r => by
    show (if k = j then (k, tms c) :: cm r else (j, tms y) :: iput (cm r) k (tms c)) = cm (if k = j then (k, c) :: r else (j, y) :: tput r k c)
    rw [iput_cm]
    split <;> rfl
theorem tget_put {k j : Int} {c : List Tm} : ∀ {es : List (Int × List Tm)}, tget (tput es k c) j = if j = k then some c else tget es j
  | [] => by simp [tput, tget]
  | (i, y) :: r => by
    unfold tput
    by_cases h : k = i
    · subst h
      rw [if_pos rfl]
      simp only [tget]
      split <;> rfl
    · rw [if_neg h]
      simp only [tget, tget_put]
      by_cases h1 : j = i
      · subst h1; rw [if_pos rfl, if_pos rfl, if_neg (fun e => h e.symm)]
      · rw [if_neg h1, if_neg h1]
def Ex.put (e : Ex) (k : Nat) (c : List Tm) : Ex := { e with es := tput e.es k c }
def Ex.bad (e : Ex) (k : Nat) : Ex := if e.flaw < 0 then { e with flaw := k } else e
def splitI (n : Nd) (c : List Tm) : Bool := decide ((c.length : Int) < 20) && (oppI n.term).ok
def factI (n : Nd) (c : List Tm) : Bool := decide ((c.length : Int) < 20) && inB 0 ((c.length : Int) - 1) n.fact
def tiF (n : Nd) (c : List Tm) : Tm × Bool := tightI (c.getD n.fact.toNat default)
def exT : Pf → Nat → List Tm → Ex → Ex
  | .close n, k, c, e => if closesI c n.mul = true then e.put k c else (e.put k c).bad k
  | .tight n a, k, c, e => if (factI n c && (tiF n c).2) = true then exT a (k + 1) (c ++ [(tiF n c).1]) (e.put k c) else (e.put k c).bad k
  | .split n a b, k, c, e => if splitI n c = true then exT b (k + 1 + a.size) (c ++ [oppI n.term]) (exT a (k + 1) (c ++ [n.term]) (e.put k c)) else (e.put k c).bad k
theorem CtxOk.snoc {c : List Tm} {t : Tm} (h : CtxOk c) (ht : t.ok = true) (hl : (c.length : Int) < 20) : CtxOk (c ++ [t]) := ⟨fun u hu => by
  rcases List.mem_append.1 hu with hu | hu
  · exact h.ok u hu
  · simp at hu; subst hu; exact ht, by simp; omega⟩
end Go.Al
namespace Go.Al
open Go.Proofs
set_option linter.unusedVariables false
set_option linter.unusedSimpArgs false
set_option maxRecDepth 10000
theorem u153 : Try.prog.underlying 119 = some (.map 3 31) := by kernel_rfl
theorem u3 : Try.prog.underlying 3 = some (.int .i64) := by kernel_rfl
abbrev xH (p : List Nd) (e : Ex) : List (Nat × B) := [(0, .box [.d (nds p), .mp 1, .d (.int .i64 e.flaw)]), (1, iMap (cm e.es))]
theorem bad_lt {e : Ex} {k : Nat} (h : e.flaw < 0) : e.bad k = { e with flaw := k } := if_pos h
theorem bad_ge {e : Ex} {k : Nat} (h : ¬ e.flaw < 0) : e.bad k = e := if_neg h
theorem cbA {a b : Bool} : (bif a then b else false) = (a && b) := by cases a <;> rfl
theorem c146_1 {L : Nat} (h1 : 4096 ≤ L) (h2 : L ≤ 1073741824) {p : List Nd} {n : Nd} {c0 : Tm} {r0 : List Tm} {k : Nat} {e : Ex} (hA : Pf.At p (.close n) k) (hc : CtxOk (c0 :: r0)) (hpl : p.length ≤ 1000) : MC Try.prog L 120 [.c (.pt 0 0 0), eI k, atms (c0 :: r0)] (xH p e) (Outs (eI ((k + Pf.size (.close n) : Nat) : Int)) (xH p (exT (.close n) k (c0 :: r0) e))) := by
 have hσ := SgOk.withIns (js := [0, 1]) (SGok (nt := 112) h1 (Nat.le_trans h2 (by decide)))
 refine MC.bodyH hσ Try.func120 (by kernel_rfl) rfl rfl rfl (Nat.le_of_ble_eq_true rfl) (fun hF => ?_)
 obtain ⟨dd, hd⟩ := hA.beh (n := p.length + 1) (by omega)
 obtain ⟨hkl, hgn⟩ := get_some hA.1
 have hnb := hA.2.1
 have hks := hA.le
 have hlc := hc.len
 refine jsr ?_
 refine jst hσ rfl rfl rfl rfl rfl ?_
 refine jns ?_
 iterate 5 refine jst hσ rfl rfl rfl rfl rfl ?_
 refine jf6 21 20 6 0 1 2 rfl rfl rfl rfl rfl rfl ?_
 refine AOps.plainD hσ rfl rfl rfl rfl ((c187 (p := p) (n := p.length + 1) (k := k) h1 h2 (by omega) (by omega)).plain (u := .tup [eI ((k + Pf.size (.close n) : Nat) : Int), eI dd, eB true]) (by rw [hd])) (VAs.self rfl) rfl rfl rfl rfl (B0 := 23000) rfl rfl ?_
 iterate 7 refine jst hσ rfl rfl rfl rfl rfl ?_
 refine jf5 7 6 0 1 2 rfl rfl rfl rfl rfl ?_
 refine jns ?_
 iterate 5 refine jst hσ rfl rfl rfl rfl rfl ?_
 refine AOps.step ((Val.indexN hσ rfl rfl rfl rfl rfl rfl rfl rfl (idxN hkl)).cast (v' := ptr n.cells) (by rw [hgn])) rfl rfl rfl ?_
 refine jst hσ rfl rfl rfl rfl rfl ?_
 refine jf6 32 7 6 0 1 2 rfl rfl rfl rfl rfl rfl ?_
 refine AOps.heap (HS.alloc hσ rfl rfl rfl rfl rfl) rfl ?_
 refine jnm ?_
 refine AOps.heap (HS.storeBox hσ rfl rfl rfl rfl rfl rfl rfl rfl rfl rfl rfl) rfl ?_
 refine jnm ?_
 refine jns ?_
 iterate 6 refine jst hσ rfl rfl rfl rfl rfl ?_
 refine jf10 38 37 36 10 32 7 6 0 1 2 rfl rfl rfl rfl rfl rfl rfl rfl rfl rfl ?_
 refine AOps.heap (HS.mapUpdate (kt := 3) (et := 31) (q := .i64) (es := cm e.es) (k := (k : Int)) (v := tms (c0 :: r0)) hσ rfl rfl rfl rfl u153 u3 rfl rfl rfl rfl rfl) rfl ?_
 rw [iput_cm]
 obtain ⟨e1, he1⟩ : ∃ e1 : Ex, e1 = e.put k (c0 :: r0) := ⟨_, rfl⟩
 have he1s : tput e.es k (c0 :: r0) = e1.es := by rw [he1]; rfl
 have he1f : e.flaw = e1.flaw := by rw [he1]; rfl
 rw [he1s, he1f]
 refine jnm ?_
 refine jnm ?_
 refine jf7 10 32 7 6 0 1 2 rfl rfl rfl rfl rfl rfl rfl ?_
 refine jns ?_
 refine jst hσ rfl rfl rfl rfl rfl ?_
 first | refine jle hσ rfl rfl rfl rfl rfl rfl rfl rfl rfl rfl rfl ?_ | refine jst hσ rfl rfl rfl rfl rfl ?_ | refine jvf hσ rfl rfl rfl rfl rfl ?_
 iterate 2 refine jst hσ rfl rfl rfl rfl rfl ?_
 refine jf8 11 10 32 7 6 0 1 2 rfl rfl rfl rfl rfl rfl rfl rfl ?_
 refine jn ?_
 refine AWP.seq ?_
 refine jsr ?_
 iterate 2 refine jst hσ rfl rfl rfl rfl rfl ?_
 refine jn ?_
 refine AWP.block ?_
 refine jsr ?_
 iterate 2 refine jst hσ rfl rfl rfl rfl rfl ?_
 refine jn ?_
 refine AWP.cond hσ rfl rfl (fun hc44 => ?_) (fun hc44 => ?_)
 ·
  skip
  refine jsr ?_
  iterate 3 refine jst hσ rfl rfl rfl rfl rfl ?_
  refine jf13 48 46 45 43 42 11 10 32 7 6 0 1 2 rfl rfl rfl rfl rfl rfl rfl rfl rfl rfl rfl rfl rfl ?_
  refine AOps.lone hσ rfl rfl rfl rfl (c188 (ctx := c0 :: r0) (ms := n.mul) h1 h2 hc (co_num (ndB_mul hnb))) (VAs.self rfl) rfl rfl rfl rfl rfl (B0 := 50000) rfl ?_
  refine jf12 49 45 43 42 11 10 32 7 6 0 1 2 rfl rfl rfl rfl rfl rfl rfl rfl rfl rfl rfl rfl ?_
  refine jn ?_
  refine AWP.cond hσ rfl rfl (fun hc49 => ?_) (fun hc49 => ?_)
  ·
   skip
   refine jsr ?_
   iterate 2 refine jst hσ rfl rfl rfl rfl rfl ?_
   refine jf11 6 45 43 42 11 10 32 7 0 1 2 rfl rfl rfl rfl rfl rfl rfl rfl rfl rfl rfl ?_
   refine jn ?_
   refine AWP.ret ?_
   have hv : exT (.close n) k (c0 :: r0) e = e1 := by rw [he1]; exact if_pos hc49
   refine ⟨.inl rfl, _, Ent.sel [0, 1] rfl rfl (e' := [(6, _)]) ⟨rfl, trivial⟩ rfl, _, rfl, ?_, ?_⟩
   ·
    rfl
   ·
    rw [hv]; rfl
  ·
   skip
   refine AWP.skip ?_
   refine AWP.seq ?_
   refine jsr ?_
   iterate 5 refine jst hσ rfl rfl rfl rfl rfl ?_
   refine jf12 106 45 43 42 11 10 32 7 6 0 1 2 rfl rfl rfl rfl rfl rfl rfl rfl rfl rfl rfl rfl ?_
   refine jn ?_
   refine AWP.cond hσ rfl rfl (fun hc106 => ?_) (fun hc106 => ?_)
   ·
    skip
    refine AWP.region ?_
    iterate 4 refine jst hσ rfl rfl rfl rfl rfl ?_
    refine jf13 110 108 45 43 42 11 10 32 7 6 0 1 2 rfl rfl rfl rfl rfl rfl rfl rfl rfl rfl rfl rfl rfl ?_
    refine AOps.heap (HS.storeBox hσ rfl rfl rfl rfl rfl rfl rfl rfl rfl rfl rfl) rfl ?_
    refine jnm ?_
    refine jf11 45 43 42 11 10 32 7 6 0 1 2 rfl rfl rfl rfl rfl rfl rfl rfl rfl rfl rfl ?_
    refine jns ?_
    iterate 2 refine jst hσ rfl rfl rfl rfl rfl ?_
    refine jn ?_
    refine AWP.ret ?_
    have hv : exT (.close n) k (c0 :: r0) e = e1.bad k := by rw [he1]; exact if_neg (by rw [hc49]; decide)
    rw [bad_lt (of_decide_eq_true hc106)] at hv
    refine ⟨.inl rfl, _, Ent.sel [0, 1] rfl rfl (e' := [(6, _)]) ⟨rfl, trivial⟩ rfl, _, rfl, ?_, ?_⟩
    ·
     rfl
    ·
     rw [hv]; rfl
   ·
    skip
    refine AWP.skip ?_
    refine jsr ?_
    iterate 2 refine jst hσ rfl rfl rfl rfl rfl ?_
    refine jf11 6 45 43 42 11 10 32 7 0 1 2 rfl rfl rfl rfl rfl rfl rfl rfl rfl rfl rfl ?_
    refine jn ?_
    refine AWP.ret ?_
    have hv : exT (.close n) k (c0 :: r0) e = e1.bad k := by rw [he1]; exact if_neg (by rw [hc49]; decide)
    rw [bad_ge (of_decide_eq_false hc106)] at hv
    refine ⟨.inl rfl, _, Ent.sel [0, 1] rfl rfl (e' := [(6, _)]) ⟨rfl, trivial⟩ rfl, _, rfl, ?_, ?_⟩
    ·
     rfl
    ·
     rw [hv]; rfl
 ·
  skip
  exact absurd hA.2.2 (of_decide_eq_false hc44)
theorem c146_2 {L : Nat} (h1 : 4096 ≤ L) (h2 : L ≤ 1073741824) {p : List Nd} {n : Nd} {a b : Pf} {c0 : Tm} {r0 : List Tm} {k : Nat} {e : Ex} (hA : Pf.At p (.split n a b) k) (hc : CtxOk (c0 :: r0)) (hpl : p.length ≤ 1000) (iha : ∀ {c0 : Tm} {r0 : List Tm} {e : Ex}, CtxOk (c0 :: r0) → MC Try.prog L 120 [.c (.pt 0 0 0), eI (k + 1 : Nat), atms (c0 :: r0)] (xH p e) (Outs (eI ((k + 1 + a.size : Nat) : Int)) (xH p (exT a (k + 1) (c0 :: r0) e)))) (ihb : ∀ {c0 : Tm} {r0 : List Tm} {e : Ex}, CtxOk (c0 :: r0) → MC Try.prog L 120 [.c (.pt 0 0 0), eI (k + 1 + a.size : Nat), atms (c0 :: r0)] (xH p e) (Outs (eI ((k + 1 + a.size + b.size : Nat) : Int)) (xH p (exT b (k + 1 + a.size) (c0 :: r0) e)))) : MC Try.prog L 120 [.c (.pt 0 0 0), eI k, atms (c0 :: r0)] (xH p e) (Outs (eI ((k + Pf.size (.split n a b) : Nat) : Int)) (xH p (exT (.split n a b) k (c0 :: r0) e))) := by
 have hσ := SgOk.withIns (js := [0, 1]) (SGok (nt := 112) h1 (Nat.le_trans h2 (by decide)))
 refine MC.bodyH hσ Try.func120 (by kernel_rfl) rfl rfl rfl (Nat.le_of_ble_eq_true rfl) (fun hF => ?_)
 obtain ⟨dd, hd⟩ := hA.beh (n := p.length + 1) (by omega)
 obtain ⟨hkl, hgn⟩ := get_some hA.1
 have hnb := hA.2.1
 have hks := hA.le
 have hlc := hc.len
 refine jsr ?_
 refine jst hσ rfl rfl rfl rfl rfl ?_
 refine jns ?_
 iterate 5 refine jst hσ rfl rfl rfl rfl rfl ?_
 refine jf6 21 20 6 0 1 2 rfl rfl rfl rfl rfl rfl ?_
 refine AOps.plainD hσ rfl rfl rfl rfl ((c187 (p := p) (n := p.length + 1) (k := k) h1 h2 (by omega) (by omega)).plain (u := .tup [eI ((k + Pf.size (.split n a b) : Nat) : Int), eI dd, eB true]) (by rw [hd])) (VAs.self rfl) rfl rfl rfl rfl (B0 := 23000) rfl rfl ?_
 iterate 7 refine jst hσ rfl rfl rfl rfl rfl ?_
 refine jf5 7 6 0 1 2 rfl rfl rfl rfl rfl ?_
 refine jns ?_
 iterate 5 refine jst hσ rfl rfl rfl rfl rfl ?_
 refine AOps.step ((Val.indexN hσ rfl rfl rfl rfl rfl rfl rfl rfl (idxN hkl)).cast (v' := ptr n.cells) (by rw [hgn])) rfl rfl rfl ?_
 refine jst hσ rfl rfl rfl rfl rfl ?_
 refine jf6 32 7 6 0 1 2 rfl rfl rfl rfl rfl rfl ?_
 refine AOps.heap (HS.alloc hσ rfl rfl rfl rfl rfl) rfl ?_
 refine jnm ?_
 refine AOps.heap (HS.storeBox hσ rfl rfl rfl rfl rfl rfl rfl rfl rfl rfl rfl) rfl ?_
 refine jnm ?_
 refine jns ?_
 iterate 6 refine jst hσ rfl rfl rfl rfl rfl ?_
 refine jf10 38 37 36 10 32 7 6 0 1 2 rfl rfl rfl rfl rfl rfl rfl rfl rfl rfl ?_
 refine AOps.heap (HS.mapUpdate (kt := 3) (et := 31) (q := .i64) (es := cm e.es) (k := (k : Int)) (v := tms (c0 :: r0)) hσ rfl rfl rfl rfl u153 u3 rfl rfl rfl rfl rfl) rfl ?_
 rw [iput_cm]
 obtain ⟨e1, he1⟩ : ∃ e1 : Ex, e1 = e.put k (c0 :: r0) := ⟨_, rfl⟩
 have he1s : tput e.es k (c0 :: r0) = e1.es := by rw [he1]; rfl
 have he1f : e.flaw = e1.flaw := by rw [he1]; rfl
 rw [he1s, he1f]
 refine jnm ?_
 refine jnm ?_
 refine jf7 10 32 7 6 0 1 2 rfl rfl rfl rfl rfl rfl rfl ?_
 refine jns ?_
 refine jst hσ rfl rfl rfl rfl rfl ?_
 first | refine jle hσ rfl rfl rfl rfl rfl rfl rfl rfl rfl rfl rfl ?_ | refine jst hσ rfl rfl rfl rfl rfl ?_ | refine jvf hσ rfl rfl rfl rfl rfl ?_
 iterate 2 refine jst hσ rfl rfl rfl rfl rfl ?_
 refine jf8 11 10 32 7 6 0 1 2 rfl rfl rfl rfl rfl rfl rfl rfl ?_
 refine jn ?_
 refine AWP.seq ?_
 refine jsr ?_
 iterate 2 refine jst hσ rfl rfl rfl rfl rfl ?_
 refine jn ?_
 refine AWP.block ?_
 refine jsr ?_
 iterate 2 refine jst hσ rfl rfl rfl rfl rfl ?_
 refine jn ?_
 refine AWP.cond hσ rfl rfl (fun hc44 => ?_) (fun hc44 => ?_)
 ·
  skip
  exact absurd (of_decide_eq_true hc44) (by rw [hA.2.2.1]; decide)
 ·
  skip
  refine jsr ?_
  iterate 2 refine jst hσ rfl rfl rfl rfl rfl ?_
  refine jf12 51 45 43 42 11 10 32 7 6 0 1 2 rfl rfl rfl rfl rfl rfl rfl rfl rfl rfl rfl rfl ?_
  refine jn ?_
  refine AWP.cond hσ rfl rfl (fun hc51 => ?_) (fun hc51 => ?_)
  ·
   skip
   refine jsr ?_
   iterate 2 refine jst hσ rfl rfl rfl rfl rfl ?_
   refine jf12 54 45 43 42 11 10 32 7 6 0 1 2 rfl rfl rfl rfl rfl rfl rfl rfl rfl rfl rfl rfl ?_
   refine AOps.plainD hσ rfl rfl rfl rfl (c186 (t := n.term) h1 h2 (ndB_term hnb)) (VAs.self rfl) rfl rfl rfl rfl (B0 := 56000) rfl rfl ?_
   refine jf12 55 45 43 42 11 10 32 7 6 0 1 2 rfl rfl rfl rfl rfl rfl rfl rfl rfl rfl rfl rfl ?_
   refine AOps.heap (HS.alloc hσ rfl rfl rfl rfl rfl) rfl ?_
   refine jnm ?_
   refine AOps.heap (HS.storeBox hσ rfl rfl rfl rfl rfl rfl rfl rfl rfl rfl rfl) rfl ?_
   refine jnm ?_
   refine jns ?_
   iterate 2 refine jst hσ rfl rfl rfl rfl rfl ?_
   refine jf14 57 12 55 45 43 42 11 10 32 7 6 0 1 2 rfl rfl rfl rfl rfl rfl rfl rfl rfl rfl rfl rfl rfl rfl ?_
   refine AOps.gr 2 rfl rfl rfl (fun hx => AN.step hx rfl rfl rfl (Val.of hσ rfl rfl) rfl rfl ( AN.lone hσ hx rfl rfl rfl rfl (c185 (t := oppI n.term) h1 h2) (VAs.self rfl) rfl rfl rfl rfl rfl rfl rfl (B0 := 60000) rfl ( AN.nil))) rfl rfl ?_
   first | refine AOps.step (Val.pickT hσ rfl rfl rfl rfl rfl) rfl rfl rfl ?_ | refine AOps.step (Val.pickF hσ rfl rfl rfl rfl rfl) rfl rfl rfl ?_ | refine AOps.step (Val.pickB hσ rfl rfl rfl rfl rfl) rfl rfl rfl ?_
   refine jf14 60 12 55 45 43 42 11 10 32 7 6 0 1 2 rfl rfl rfl rfl rfl rfl rfl rfl rfl rfl rfl rfl rfl rfl ?_
   refine jn ?_
   refine AWP.cond hσ rfl rfl (fun hc60 => ?_) (fun hc60 => ?_)
   ·
    skip
    refine jsr ?_
    have hs : splitI n (c0 :: r0) = true := by have h9 := hc60; rw [cbA] at h9; exact h9
    have hs' := hs
    simp only [splitI, Bool.and_eq_true, decide_eq_true_eq] at hs'
    have hcl := hs'.1
    have hok := hs'.2
    have hl1 : (c0 :: r0).length ≤ 1000 := hc.len
    iterate 2 refine jst hσ rfl rfl rfl rfl rfl ?_
    first | refine jfi hσ rfl rfl rfl rfl rfl ?_ | refine jvf hσ rfl rfl rfl rfl rfl ?_
    iterate 3 refine jst hσ rfl rfl rfl rfl rfl ?_
    refine AOps.forget [(66, _), (64, _), (63, _), (61, _), (12, _), (55, _), (45, _), (43, _), (42, _), (11, _), (10, _), (32, _), (7, _), (6, _), (0, _), (1, _), (2, _)] ⟨rfl, rfl, rfl, rfl, rfl, rfl, rfl, rfl, rfl, rfl, rfl, rfl, rfl, rfl, rfl, rfl, rfl, trivial⟩ ?_
    refine AOps.plainD hσ rfl rfl rfl rfl (c189 (c := c0) (r := r0) (t := n.term) h1 h2 hl1) (VAs.self rfl) rfl rfl rfl rfl (B0 := 68000) rfl rfl ?_
    refine AOps.forget [(67, _), (63, _), (61, _), (12, _), (55, _), (45, _), (43, _), (42, _), (11, _), (10, _), (32, _), (7, _), (6, _), (0, _), (1, _), (2, _)] ⟨rfl, rfl, rfl, rfl, rfl, rfl, rfl, rfl, rfl, rfl, rfl, rfl, rfl, rfl, rfl, rfl, trivial⟩ ?_
    refine AOps.inn hσ [0, 1] (bin := [.box [.d (nds p), .mp 1, .d (.int .i64 (e1).flaw)], iMap (cm (e1).es)]) rfl rfl rfl rfl (iha (c0 := c0) (r0 := r0 ++ [n.term]) (e := e1) (hc.snoc (ndB_term hnb) hcl)) rfl rfl rfl rfl rfl rfl (B0 := 69000) rfl rfl ?_
    refine jnm ?_
    refine jst hσ rfl rfl rfl rfl rfl ?_
    refine jf14 13 12 55 45 43 42 11 10 32 7 6 0 1 2 rfl rfl rfl rfl rfl rfl rfl rfl rfl rfl rfl rfl rfl rfl ?_
    refine jns ?_
    obtain ⟨e2, he2⟩ : ∃ e2 : Ex, e2 = exT a (k + 1) (c0 :: (r0 ++ [n.term])) e1 := ⟨_, rfl⟩
    rw [show exT a (k + 1) (c0 :: (r0 ++ [n.term])) e1 = e2 from he2.symm]
    iterate 4 refine jst hσ rfl rfl rfl rfl rfl ?_
    refine AOps.forget [(72, _), (71, _), (70, _), (69, _), (12, _), (55, _), (45, _), (43, _), (42, _), (11, _), (10, _), (32, _), (7, _), (6, _), (0, _), (1, _), (2, _)] ⟨rfl, rfl, rfl, rfl, rfl, rfl, rfl, rfl, rfl, rfl, rfl, rfl, rfl, rfl, rfl, rfl, rfl, trivial⟩ ?_
    refine AOps.plainD hσ rfl rfl rfl rfl (c189 (c := c0) (r := r0) (t := oppI n.term) h1 h2 hl1) (VAs.self rfl) rfl rfl rfl rfl (B0 := 74000) rfl rfl ?_
    refine AOps.forget [(73, _), (70, _), (69, _), (12, _), (55, _), (45, _), (43, _), (42, _), (11, _), (10, _), (32, _), (7, _), (6, _), (0, _), (1, _), (2, _)] ⟨rfl, rfl, rfl, rfl, rfl, rfl, rfl, rfl, rfl, rfl, rfl, rfl, rfl, rfl, rfl, rfl, trivial⟩ ?_
    refine AOps.inn hσ [0, 1] (bin := [.box [.d (nds p), .mp 1, .d (.int .i64 (e2).flaw)], iMap (cm (e2).es)]) rfl rfl rfl rfl (ihb (c0 := c0) (r0 := r0 ++ [oppI n.term]) (e := e2) (hc.snoc hok hcl)) rfl rfl rfl rfl rfl rfl (B0 := 75000) rfl rfl ?_
    refine jnm ?_
    refine jst hσ rfl rfl rfl rfl rfl ?_
    refine jf13 6 12 55 45 43 42 11 10 32 7 0 1 2 rfl rfl rfl rfl rfl rfl rfl rfl rfl rfl rfl rfl rfl ?_
    refine jn ?_
    refine AWP.ret ?_
    have hv : exT (.split n a b) k (c0 :: r0) e = exT b (k + 1 + a.size) (c0 :: r0 ++ [oppI n.term]) e2 := by rw [he2, he1]; exact if_pos hs
    refine ⟨.inl rfl, _, Ent.sel [0, 1] rfl rfl (e' := [(6, _)]) ⟨rfl, trivial⟩ rfl, _, rfl, ?_, ?_⟩
    ·
     exact congrArg (fun z : Nat => eI (z : Int)) (by simp only [Pf.size]; omega)
    ·
     rw [hv]; rfl
   ·
    skip
    refine AWP.skip ?_
    refine AWP.seq ?_
    refine jsr ?_
    iterate 5 refine jst hσ rfl rfl rfl rfl rfl ?_
    refine jf14 106 12 55 45 43 42 11 10 32 7 6 0 1 2 rfl rfl rfl rfl rfl rfl rfl rfl rfl rfl rfl rfl rfl rfl ?_
    refine jn ?_
    refine AWP.cond hσ rfl rfl (fun hc106 => ?_) (fun hc106 => ?_)
    ·
     skip
     refine AWP.region ?_
     iterate 4 refine jst hσ rfl rfl rfl rfl rfl ?_
     refine AOps.forget [(110, _), (108, _), (12, _), (55, _), (45, _), (43, _), (42, _), (11, _), (10, _), (32, _), (7, _), (6, _), (0, _), (1, _), (2, _)] ⟨rfl, rfl, rfl, rfl, rfl, rfl, rfl, rfl, rfl, rfl, rfl, rfl, rfl, rfl, rfl, trivial⟩ ?_
     refine AOps.heap (HS.storeBox hσ rfl rfl rfl rfl rfl rfl rfl rfl rfl rfl rfl) rfl ?_
     refine jnm ?_
     refine jf13 12 55 45 43 42 11 10 32 7 6 0 1 2 rfl rfl rfl rfl rfl rfl rfl rfl rfl rfl rfl rfl rfl ?_
     refine jns ?_
     iterate 2 refine jst hσ rfl rfl rfl rfl rfl ?_
     refine jn ?_
     refine AWP.ret ?_
     have hv : exT (.split n a b) k (c0 :: r0) e = e1.bad k := by rw [he1]; exact if_neg (by rw [show splitI n (c0 :: r0) = false by have h9 := hc60; rw [cbA] at h9; exact h9]; decide)
     rw [bad_lt (of_decide_eq_true hc106)] at hv
     refine ⟨.inl rfl, _, Ent.sel [0, 1] rfl rfl (e' := [(6, _)]) ⟨rfl, trivial⟩ rfl, _, rfl, ?_, ?_⟩
     ·
      rfl
     ·
      rw [hv]; rfl
    ·
     skip
     refine AWP.skip ?_
     refine jsr ?_
     iterate 2 refine jst hσ rfl rfl rfl rfl rfl ?_
     refine jf13 6 12 55 45 43 42 11 10 32 7 0 1 2 rfl rfl rfl rfl rfl rfl rfl rfl rfl rfl rfl rfl rfl ?_
     refine jn ?_
     refine AWP.ret ?_
     have hv : exT (.split n a b) k (c0 :: r0) e = e1.bad k := by rw [he1]; exact if_neg (by rw [show splitI n (c0 :: r0) = false by have h9 := hc60; rw [cbA] at h9; exact h9]; decide)
     rw [bad_ge (of_decide_eq_false hc106)] at hv
     refine ⟨.inl rfl, _, Ent.sel [0, 1] rfl rfl (e' := [(6, _)]) ⟨rfl, trivial⟩ rfl, _, rfl, ?_, ?_⟩
     ·
      rfl
     ·
      rw [hv]; rfl
  ·
   skip
   exact absurd hA.2.2.1 (of_decide_eq_false hc51)
theorem c146_3 {L : Nat} (h1 : 4096 ≤ L) (h2 : L ≤ 1073741824) {p : List Nd} {n : Nd} {a : Pf} {c0 : Tm} {r0 : List Tm} {k : Nat} {e : Ex} (hA : Pf.At p (.tight n a) k) (hc : CtxOk (c0 :: r0)) (hpl : p.length ≤ 1000) (iha : ∀ {c0 : Tm} {r0 : List Tm} {e : Ex}, CtxOk (c0 :: r0) → MC Try.prog L 120 [.c (.pt 0 0 0), eI (k + 1 : Nat), atms (c0 :: r0)] (xH p e) (Outs (eI ((k + 1 + a.size : Nat) : Int)) (xH p (exT a (k + 1) (c0 :: r0) e)))) : MC Try.prog L 120 [.c (.pt 0 0 0), eI k, atms (c0 :: r0)] (xH p e) (Outs (eI ((k + Pf.size (.tight n a) : Nat) : Int)) (xH p (exT (.tight n a) k (c0 :: r0) e))) := by
 have hσ := SgOk.withIns (js := [0, 1]) (SGok (nt := 112) h1 (Nat.le_trans h2 (by decide)))
 refine MC.bodyH hσ Try.func120 (by kernel_rfl) rfl rfl rfl (Nat.le_of_ble_eq_true rfl) (fun hF => ?_)
 obtain ⟨dd, hd⟩ := hA.beh (n := p.length + 1) (by omega)
 obtain ⟨hkl, hgn⟩ := get_some hA.1
 have hnb := hA.2.1
 have hks := hA.le
 have hlc := hc.len
 refine jsr ?_
 refine jst hσ rfl rfl rfl rfl rfl ?_
 refine jns ?_
 iterate 5 refine jst hσ rfl rfl rfl rfl rfl ?_
 refine jf6 21 20 6 0 1 2 rfl rfl rfl rfl rfl rfl ?_
 refine AOps.plainD hσ rfl rfl rfl rfl ((c187 (p := p) (n := p.length + 1) (k := k) h1 h2 (by omega) (by omega)).plain (u := .tup [eI ((k + Pf.size (.tight n a) : Nat) : Int), eI dd, eB true]) (by rw [hd])) (VAs.self rfl) rfl rfl rfl rfl (B0 := 23000) rfl rfl ?_
 iterate 7 refine jst hσ rfl rfl rfl rfl rfl ?_
 refine jf5 7 6 0 1 2 rfl rfl rfl rfl rfl ?_
 refine jns ?_
 iterate 5 refine jst hσ rfl rfl rfl rfl rfl ?_
 refine AOps.step ((Val.indexN hσ rfl rfl rfl rfl rfl rfl rfl rfl (idxN hkl)).cast (v' := ptr n.cells) (by rw [hgn])) rfl rfl rfl ?_
 refine jst hσ rfl rfl rfl rfl rfl ?_
 refine jf6 32 7 6 0 1 2 rfl rfl rfl rfl rfl rfl ?_
 refine AOps.heap (HS.alloc hσ rfl rfl rfl rfl rfl) rfl ?_
 refine jnm ?_
 refine AOps.heap (HS.storeBox hσ rfl rfl rfl rfl rfl rfl rfl rfl rfl rfl rfl) rfl ?_
 refine jnm ?_
 refine jns ?_
 iterate 6 refine jst hσ rfl rfl rfl rfl rfl ?_
 refine jf10 38 37 36 10 32 7 6 0 1 2 rfl rfl rfl rfl rfl rfl rfl rfl rfl rfl ?_
 refine AOps.heap (HS.mapUpdate (kt := 3) (et := 31) (q := .i64) (es := cm e.es) (k := (k : Int)) (v := tms (c0 :: r0)) hσ rfl rfl rfl rfl u153 u3 rfl rfl rfl rfl rfl) rfl ?_
 rw [iput_cm]
 obtain ⟨e1, he1⟩ : ∃ e1 : Ex, e1 = e.put k (c0 :: r0) := ⟨_, rfl⟩
 have he1s : tput e.es k (c0 :: r0) = e1.es := by rw [he1]; rfl
 have he1f : e.flaw = e1.flaw := by rw [he1]; rfl
 rw [he1s, he1f]
 refine jnm ?_
 refine jnm ?_
 refine jf7 10 32 7 6 0 1 2 rfl rfl rfl rfl rfl rfl rfl ?_
 refine jns ?_
 refine jst hσ rfl rfl rfl rfl rfl ?_
 first | refine jle hσ rfl rfl rfl rfl rfl rfl rfl rfl rfl rfl rfl ?_ | refine jst hσ rfl rfl rfl rfl rfl ?_ | refine jvf hσ rfl rfl rfl rfl rfl ?_
 iterate 2 refine jst hσ rfl rfl rfl rfl rfl ?_
 refine jf8 11 10 32 7 6 0 1 2 rfl rfl rfl rfl rfl rfl rfl rfl ?_
 refine jn ?_
 refine AWP.seq ?_
 refine jsr ?_
 iterate 2 refine jst hσ rfl rfl rfl rfl rfl ?_
 refine jn ?_
 refine AWP.block ?_
 refine jsr ?_
 iterate 2 refine jst hσ rfl rfl rfl rfl rfl ?_
 refine jn ?_
 refine AWP.cond hσ rfl rfl (fun hc44 => ?_) (fun hc44 => ?_)
 ·
  skip
  exact absurd (of_decide_eq_true hc44) (by rw [hA.2.2.1]; decide)
 ·
  skip
  refine jsr ?_
  iterate 2 refine jst hσ rfl rfl rfl rfl rfl ?_
  refine jf12 51 45 43 42 11 10 32 7 6 0 1 2 rfl rfl rfl rfl rfl rfl rfl rfl rfl rfl rfl rfl ?_
  refine jn ?_
  refine AWP.cond hσ rfl rfl (fun hc51 => ?_) (fun hc51 => ?_)
  ·
   skip
   exact absurd (of_decide_eq_true hc51) (by rw [hA.2.2.1]; decide)
  ·
   skip
   refine jsr ?_
   iterate 2 refine jst hσ rfl rfl rfl rfl rfl ?_
   refine jf12 75 45 43 42 11 10 32 7 6 0 1 2 rfl rfl rfl rfl rfl rfl rfl rfl rfl rfl rfl rfl ?_
   refine jn ?_
   refine AWP.cond hσ rfl rfl (fun hc75 => ?_) (fun hc75 => ?_)
   ·
    skip
    refine jsr ?_
    iterate 2 refine jst hσ rfl rfl rfl rfl rfl ?_
    refine jf12 78 45 43 42 11 10 32 7 6 0 1 2 rfl rfl rfl rfl rfl rfl rfl rfl rfl rfl rfl rfl ?_
    refine AOps.gr 5 rfl rfl rfl (fun hx => AN.step hx rfl rfl rfl (Val.of hσ rfl rfl) rfl rfl ( AN.step hx rfl rfl rfl (Val.of hσ rfl rfl) rfl rfl ( AN.step hx rfl rfl rfl (Val.of hσ rfl rfl) rfl rfl ( AN.step hx rfl rfl rfl (Val.lenD hσ rfl rfl rfl rfl rfl rfl rfl rfl) rfl rfl ( AN.lone hσ hx rfl rfl rfl rfl (c90 (k := n.fact) (n := (c0 :: r0).length) h1 h2 (by omega)) (VAs.self rfl) rfl rfl rfl rfl rfl rfl rfl (B0 := 84000) rfl ( AN.nil)))))) rfl rfl ?_
    first | refine AOps.step (Val.pickT hσ rfl rfl rfl rfl rfl) rfl rfl rfl ?_ | refine AOps.step (Val.pickF hσ rfl rfl rfl rfl rfl) rfl rfl rfl ?_ | refine AOps.step (Val.pickB hσ rfl rfl rfl rfl rfl) rfl rfl rfl ?_
    refine jf12 84 45 43 42 11 10 32 7 6 0 1 2 rfl rfl rfl rfl rfl rfl rfl rfl rfl rfl rfl rfl ?_
    refine jn ?_
    refine AWP.cond hσ rfl rfl (fun hc84 => ?_) (fun hc84 => ?_)
    ·
     skip
     refine jsr ?_
     have hs : factI n (c0 :: r0) = true := by have h9 := hc84; rw [cbA] at h9; exact h9
     have hs' := hs
     simp only [factI, inB, Bool.and_eq_true, decide_eq_true_eq] at hs'
     have hcl := hs'.1
     have hf0 := hs'.2.1
     have hf1 := hs'.2.2
     have hl1 : (c0 :: r0).length ≤ 1000 := hc.len
     have hgt := hc.get (show n.fact.toNat < (c0 :: r0).length by omega)
     iterate 3 refine jst hσ rfl rfl rfl rfl rfl ?_
     refine AOps.step (Val.indexD hσ rfl rfl rfl rfl rfl rfl rfl rfl hf0 (idx_get hf0 (by omega))) rfl rfl rfl ?_
     refine jst hσ rfl rfl rfl rfl rfl ?_
     refine jf12 90 45 43 42 11 10 32 7 6 0 1 2 rfl rfl rfl rfl rfl rfl rfl rfl rfl rfl rfl rfl ?_
     refine AOps.plainD hσ rfl rfl rfl rfl (c190 (t := (c0 :: r0).getD n.fact.toNat default) h1 h2 (Small.of hgt)) (VAs.self rfl) rfl rfl rfl rfl (B0 := 92000) rfl rfl ?_
     iterate 3 refine jst hσ rfl rfl rfl rfl rfl ?_
     refine jf13 93 92 45 43 42 11 10 32 7 6 0 1 2 rfl rfl rfl rfl rfl rfl rfl rfl rfl rfl rfl rfl rfl ?_
     refine AOps.heap (HS.alloc hσ rfl rfl rfl rfl rfl) rfl ?_
     refine jnm ?_
     refine AOps.heap (HS.storeBox hσ rfl rfl rfl rfl rfl rfl rfl rfl rfl rfl rfl) rfl ?_
     refine jnm ?_
     refine jst hσ rfl rfl rfl rfl rfl ?_
     refine jf13 15 14 45 43 42 11 10 32 7 6 0 1 2 rfl rfl rfl rfl rfl rfl rfl rfl rfl rfl rfl rfl rfl ?_
     refine jns ?_
     refine jst hσ rfl rfl rfl rfl rfl ?_
     refine jn ?_
     refine AWP.cond hσ rfl rfl (fun hc94 => ?_) (fun hc94 => ?_)
     ·
      skip
      refine jsr ?_
      have htok : (tiF n (c0 :: r0)).1.ok = true := by have h9 : (tiF n (c0 :: r0)).2 = true := hc94; unfold tiF at h9 ⊢; rw [tight_eq hgt] at h9 ⊢; exact tightS_ok h9
      iterate 2 refine jst hσ rfl rfl rfl rfl rfl ?_
      first | refine jfi hσ rfl rfl rfl rfl rfl ?_ | refine jvf hσ rfl rfl rfl rfl rfl ?_
      iterate 2 refine jst hσ rfl rfl rfl rfl rfl ?_
      refine AOps.forget [(99, _), (98, _), (97, _), (95, _), (15, _), (14, _), (45, _), (43, _), (42, _), (11, _), (10, _), (32, _), (7, _), (6, _), (0, _), (1, _), (2, _)] ⟨rfl, rfl, rfl, rfl, rfl, rfl, rfl, rfl, rfl, rfl, rfl, rfl, rfl, rfl, rfl, rfl, rfl, trivial⟩ ?_
      refine AOps.plainD hσ rfl rfl rfl rfl (c189 (c := c0) (r := r0) (t := (tiF n (c0 :: r0)).1) h1 h2 hl1) (VAs.self rfl) rfl rfl rfl rfl (B0 := 101000) rfl rfl ?_
      refine AOps.forget [(100, _), (97, _), (95, _), (15, _), (14, _), (45, _), (43, _), (42, _), (11, _), (10, _), (32, _), (7, _), (6, _), (0, _), (1, _), (2, _)] ⟨rfl, rfl, rfl, rfl, rfl, rfl, rfl, rfl, rfl, rfl, rfl, rfl, rfl, rfl, rfl, rfl, trivial⟩ ?_
      refine AOps.inn hσ [0, 1] (bin := [.box [.d (nds p), .mp 1, .d (.int .i64 (e1).flaw)], iMap (cm (e1).es)]) rfl rfl rfl rfl (iha (c0 := c0) (r0 := r0 ++ [(tiF n (c0 :: r0)).1]) (e := e1) (hc.snoc htok hcl)) rfl rfl rfl rfl rfl rfl (B0 := 102000) rfl rfl ?_
      refine jnm ?_
      refine jst hσ rfl rfl rfl rfl rfl ?_
      refine jf13 6 15 14 45 43 42 11 10 32 7 0 1 2 rfl rfl rfl rfl rfl rfl rfl rfl rfl rfl rfl rfl rfl ?_
      refine jn ?_
      refine AWP.ret ?_
      have hv : exT (.tight n a) k (c0 :: r0) e = exT a (k + 1) (c0 :: r0 ++ [(tiF n (c0 :: r0)).1]) e1 := by rw [he1]; exact if_pos (by rw [hs]; exact hc94)
      refine ⟨.inl rfl, _, Ent.sel [0, 1] rfl rfl (e' := [(6, _)]) ⟨rfl, trivial⟩ rfl, _, rfl, ?_, ?_⟩
      ·
       exact congrArg (fun z : Nat => eI (z : Int)) (by simp only [Pf.size]; omega)
      ·
       rw [hv]; rfl
     ·
      skip
      refine AWP.skip ?_
      refine AWP.seq ?_
      refine jsr ?_
      iterate 5 refine jst hσ rfl rfl rfl rfl rfl ?_
      refine jf14 106 15 14 45 43 42 11 10 32 7 6 0 1 2 rfl rfl rfl rfl rfl rfl rfl rfl rfl rfl rfl rfl rfl rfl ?_
      refine jn ?_
      refine AWP.cond hσ rfl rfl (fun hc106 => ?_) (fun hc106 => ?_)
      ·
       skip
       refine AWP.region ?_
       iterate 4 refine jst hσ rfl rfl rfl rfl rfl ?_
       refine AOps.forget [(110, _), (108, _), (15, _), (14, _), (45, _), (43, _), (42, _), (11, _), (10, _), (32, _), (7, _), (6, _), (0, _), (1, _), (2, _)] ⟨rfl, rfl, rfl, rfl, rfl, rfl, rfl, rfl, rfl, rfl, rfl, rfl, rfl, rfl, rfl, trivial⟩ ?_
       refine AOps.heap (HS.storeBox hσ rfl rfl rfl rfl rfl rfl rfl rfl rfl rfl rfl) rfl ?_
       refine jnm ?_
       refine jf13 15 14 45 43 42 11 10 32 7 6 0 1 2 rfl rfl rfl rfl rfl rfl rfl rfl rfl rfl rfl rfl rfl ?_
       refine jns ?_
       iterate 2 refine jst hσ rfl rfl rfl rfl rfl ?_
       refine jn ?_
       refine AWP.ret ?_
       have hv : exT (.tight n a) k (c0 :: r0) e = e1.bad k := by rw [he1]; exact if_neg (by rw [show (factI n (c0 :: r0) && (tiF n (c0 :: r0)).2) = false by rw [show (tiF n (c0 :: r0)).2 = false from hc94, Bool.and_false]]; decide)
       rw [bad_lt (of_decide_eq_true hc106)] at hv
       refine ⟨.inl rfl, _, Ent.sel [0, 1] rfl rfl (e' := [(6, _)]) ⟨rfl, trivial⟩ rfl, _, rfl, ?_, ?_⟩
       ·
        rfl
       ·
        rw [hv]; rfl
      ·
       skip
       refine AWP.skip ?_
       refine jsr ?_
       iterate 2 refine jst hσ rfl rfl rfl rfl rfl ?_
       refine jf13 6 15 14 45 43 42 11 10 32 7 0 1 2 rfl rfl rfl rfl rfl rfl rfl rfl rfl rfl rfl rfl rfl ?_
       refine jn ?_
       refine AWP.ret ?_
       have hv : exT (.tight n a) k (c0 :: r0) e = e1.bad k := by rw [he1]; exact if_neg (by rw [show (factI n (c0 :: r0) && (tiF n (c0 :: r0)).2) = false by rw [show (tiF n (c0 :: r0)).2 = false from hc94, Bool.and_false]]; decide)
       rw [bad_ge (of_decide_eq_false hc106)] at hv
       refine ⟨.inl rfl, _, Ent.sel [0, 1] rfl rfl (e' := [(6, _)]) ⟨rfl, trivial⟩ rfl, _, rfl, ?_, ?_⟩
       ·
        rfl
       ·
        rw [hv]; rfl
    ·
     skip
     refine AWP.skip ?_
     refine AWP.seq ?_
     refine jsr ?_
     iterate 5 refine jst hσ rfl rfl rfl rfl rfl ?_
     refine jf12 106 45 43 42 11 10 32 7 6 0 1 2 rfl rfl rfl rfl rfl rfl rfl rfl rfl rfl rfl rfl ?_
     refine jn ?_
     refine AWP.cond hσ rfl rfl (fun hc106 => ?_) (fun hc106 => ?_)
     ·
      skip
      refine AWP.region ?_
      iterate 4 refine jst hσ rfl rfl rfl rfl rfl ?_
      refine jf13 110 108 45 43 42 11 10 32 7 6 0 1 2 rfl rfl rfl rfl rfl rfl rfl rfl rfl rfl rfl rfl rfl ?_
      refine AOps.heap (HS.storeBox hσ rfl rfl rfl rfl rfl rfl rfl rfl rfl rfl rfl) rfl ?_
      refine jnm ?_
      refine jf11 45 43 42 11 10 32 7 6 0 1 2 rfl rfl rfl rfl rfl rfl rfl rfl rfl rfl rfl ?_
      refine jns ?_
      iterate 2 refine jst hσ rfl rfl rfl rfl rfl ?_
      refine jn ?_
      refine AWP.ret ?_
      have hv : exT (.tight n a) k (c0 :: r0) e = e1.bad k := by rw [he1]; exact if_neg (by rw [show factI n (c0 :: r0) = false by have h9 := hc84; rw [cbA] at h9; exact h9, Bool.false_and]; decide)
      rw [bad_lt (of_decide_eq_true hc106)] at hv
      refine ⟨.inl rfl, _, Ent.sel [0, 1] rfl rfl (e' := [(6, _)]) ⟨rfl, trivial⟩ rfl, _, rfl, ?_, ?_⟩
      ·
       rfl
      ·
       rw [hv]; rfl
     ·
      skip
      refine AWP.skip ?_
      refine jsr ?_
      iterate 2 refine jst hσ rfl rfl rfl rfl rfl ?_
      refine jf11 6 45 43 42 11 10 32 7 0 1 2 rfl rfl rfl rfl rfl rfl rfl rfl rfl rfl rfl ?_
      refine jn ?_
      refine AWP.ret ?_
      have hv : exT (.tight n a) k (c0 :: r0) e = e1.bad k := by rw [he1]; exact if_neg (by rw [show factI n (c0 :: r0) = false by have h9 := hc84; rw [cbA] at h9; exact h9, Bool.false_and]; decide)
      rw [bad_ge (of_decide_eq_false hc106)] at hv
      refine ⟨.inl rfl, _, Ent.sel [0, 1] rfl rfl (e' := [(6, _)]) ⟨rfl, trivial⟩ rfl, _, rfl, ?_, ?_⟩
      ·
       rfl
      ·
       rw [hv]; rfl
   ·
    skip
    exact absurd hA.2.2.1 (of_decide_eq_false hc75)
theorem c146 {L : Nat} (h1 : 4096 ≤ L) (h2 : L ≤ 1073741824) {p : List Nd} (hpl : p.length ≤ 1000) : ∀ {t : Pf} {k : Nat}, t.At p k → ∀ {c0 : Tm} {r0 : List Tm} {e : Ex}, CtxOk (c0 :: r0) →
  MC Try.prog L 120 [.c (.pt 0 0 0), eI k, atms (c0 :: r0)] (xH p e) (Outs (eI ((k + t.size : Nat) : Int)) (xH p (exT t k (c0 :: r0) e)))
 | .close n, k, h, _, _, _, hc => c146_1 h1 h2 h hc hpl
 | .split n a b, k, h, _, _, _, hc => c146_2 h1 h2 h hc hpl (fun hc' => c146 h1 h2 hpl h.2.2.2.1 hc') (fun hc' => c146 h1 h2 hpl h.2.2.2.2 hc')
 | .tight n a, k, h, _, _, _, hc => c146_3 h1 h2 h hc hpl (fun hc' => c146 h1 h2 hpl h.2.2.2 hc')

end Go.Al
