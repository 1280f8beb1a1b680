/- Contracts of the program's functions for terms and proofs. -/
import Derived.Test.YtegcggeaempllaaGreatG
namespace Go.Al
open Go.Proofs
set_option linter.unusedVariables false
set_option linter.unusedSimpArgs false
set_option maxRecDepth 10000
theorem ctx1 {t : Tm} (h : t.ok = true) : CtxOk [t] := ⟨fun u hu => by simp at hu; subst hu; exact h, by simp⟩
theorem dot1 {t : Tm} (h : Small t) : -1000000 ≤ dotG Tm.c [t] [-1] ∧ dotG Tm.c [t] [-1] ≤ 1000000 := by
  have := num_iff.1 h.c
  show -1000000 ≤ -1 * t.c + 0 ∧ -1 * t.c + 0 ≤ 1000000
  omega
theorem c186 {L : Nat} (h1 : 4096 ≤ L) (h2 : L ≤ 1073741824) {t : Tm} (ht : t.ok = true) : MC Tryz.prog L 58 [aTm' t] [] (Plain (aTm' (oppI t))) := by
 refine MC.data ?_
 have hσ := SGok (nt := 13) h1 (Nat.le_trans h2 (by decide))
 refine MC.body hσ Tryz.func58 (by kernel_rfl) rfl rfl (Nat.le_of_ble_eq_true rfl) (fun hF => ?_)
 have hd1 := dot1 (Small.of ht)
 refine jsr ?_
 refine AOps.heap (HS.box hσ rfl rfl rfl rfl rfl rfl rfl) rfl ?_
 refine AOps.forget [(1, _)] ⟨rfl, trivial⟩ ?_
 refine AOps.heap (HS.alloc hσ rfl rfl rfl rfl rfl) rfl ?_
 refine jns ?_
 refine jst hσ rfl rfl rfl rfl rfl ?_
 refine AOps.forget [(4, _), (2, _)] ⟨rfl, rfl, trivial⟩ ?_
 refine AOps.heap (HS.litD hσ rfl rfl rfl rfl rfl rfl rfl rfl rfl rfl rfl) rfl ?_
 refine AOps.forget [(5, _), (2, _)] ⟨rfl, rfl, trivial⟩ ?_
 refine AOps.heap (HS.lit hσ rfl rfl rfl) rfl ?_
 refine AOps.to (Ent.freeze 5 (e' := [(6, _), (5, _), (2, _)]) rfl (.cons rfl (.keep rfl) (.cons rfl (.c (.row rfl rfl)) (.cons rfl (.keep rfl) .nil))) (.cons rfl (.box (.cons (.keep rfl) (.cons (.keep rfl) .nil))) (.cons rfl (.box (.cons (.keep rfl) (.cons (.keep rfl) .nil))) (.skip (.cons rfl .row .nil))))) ?_
 refine AOps.to (Ent.freeze 6 (e' := [(6, _), (5, _), (2, _)]) rfl (.cons rfl (.c (.row rfl rfl)) (.cons rfl (.keep rfl) (.cons rfl (.keep rfl) .nil))) (.cons rfl (.box (.cons (.keep rfl) (.cons (.keep rfl) .nil))) (.cons rfl (.box (.cons (.keep rfl) (.cons (.keep rfl) .nil))) (.skip .nil)))) ?_
 refine AOps.plainD hσ rfl rfl rfl rfl (c201 (ts := [t]) (ms := [-1]) h1 h2 (ctx1 ht) (by decide) (Nat.le_refl 1)) (VAs.self rfl) rfl rfl rfl rfl (B0 := 8000) rfl rfl ?_
 refine AOps.forget [(7, _), (2, _)] ⟨rfl, rfl, trivial⟩ ?_
 refine AOps.heap (HS.alloc hσ rfl rfl rfl rfl rfl) rfl ?_
 refine AOps.heap (HS.storeBox hσ rfl rfl rfl rfl rfl rfl rfl rfl rfl rfl rfl) rfl ?_
 refine jns ?_
 iterate 2 refine jst hσ rfl rfl rfl rfl rfl ?_
 first | refine jfi hσ rfl rfl rfl rfl rfl ?_ | refine jvf hσ rfl rfl rfl rfl rfl ?_
 refine jst hσ rfl rfl rfl rfl rfl ?_
 refine jf5 11 10 3 7 2 rfl rfl rfl rfl rfl ?_
 refine AOps.heap (HS.storeBox hσ rfl rfl rfl rfl rfl rfl rfl rfl rfl rfl rfl) rfl ?_
 refine jf3 3 7 2 rfl rfl rfl ?_
 refine jns ?_
 refine jst hσ rfl rfl rfl rfl rfl ?_
 refine AOps.heap (HS.storeBox hσ rfl rfl rfl rfl rfl rfl rfl rfl rfl rfl rfl) rfl ?_
 refine jn ?_
 refine AWP.ret ?_
 refine ⟨.inl rfl, _, Ent.refl, _, rfl, ?_⟩
 exact .v (.agg (VMs.self rfl))
theorem c144 {L : Nat} (h1 : 4096 ≤ L) (h2 : L ≤ 1073741824) {s : Sq} : MC Tryz.prog L 38 [aSq s] [] (Plain (resC (ctxI s))) := by
 refine MC.data ?_
 have hσ := SGok (nt := 23) h1 (Nat.le_trans h2 (by decide))
 refine MC.body hσ Tryz.func38 (by kernel_rfl) rfl rfl (Nat.le_of_ble_eq_true rfl) (fun hF => ?_)
 refine jsr ?_
 refine AOps.heap (HS.box hσ rfl rfl rfl rfl rfl rfl rfl) rfl ?_
 iterate 2 refine jst hσ rfl rfl rfl rfl rfl ?_
 refine jn ?_
 refine AWP.seq ?_
 refine jsr ?_
 refine jst hσ rfl rfl rfl rfl rfl ?_
 refine AOps.lone hσ rfl rfl rfl rfl (c184 (s := s) h1 h2) (VAs.self rfl) rfl rfl rfl rfl rfl (B0 := 6000) rfl ?_
 iterate 2 refine jst hσ rfl rfl rfl rfl rfl ?_
 refine jf5 7 3 2 1 0 rfl rfl rfl rfl rfl ?_
 refine AOps.gr 5 rfl rfl rfl (fun hx => AN.step hx rfl rfl rfl (Val.of hσ rfl rfl) rfl rfl ( AN.step hx rfl rfl rfl (Val.of hσ rfl rfl) rfl rfl ( AN.plainD hσ hx rfl rfl rfl rfl (c186 (t := s.goal) h1 h2 (seqB_spec (by simpa using hx)).2.2) (VAs.self rfl) (B0 := 11000) rfl rfl rfl rfl rfl rfl rfl rfl ( AN.lone hσ hx rfl rfl rfl rfl (c185 (t := oppI s.goal) h1 h2) (VAs.self rfl) rfl rfl rfl rfl rfl rfl rfl (B0 := 12000) rfl ( AN.step hx rfl rfl rfl (Val.of hσ rfl rfl) rfl rfl ( AN.nil)))))) rfl rfl ?_
 first | refine AOps.step (Val.pickF hσ rfl rfl rfl rfl rfl) rfl rfl rfl ?_ | refine AOps.step (Val.pickB hσ rfl rfl rfl rfl rfl) rfl rfl rfl ?_ | refine AOps.step (Val.pickT hσ rfl rfl rfl rfl rfl) rfl rfl rfl ?_
 refine jf5 13 3 2 1 0 rfl rfl rfl rfl rfl ?_
 refine jn ?_
 refine AWP.cond hσ rfl rfl (fun hc13 => ?_) (fun hc13 => ?_)
 ·
  skip
  refine jsr ?_
  iterate 2 refine jst hσ rfl rfl rfl rfl rfl ?_
  refine jn ?_
  refine AWP.ret ?_
  refine ⟨.inl rfl, _, Ent.refl, _, rfl, ?_⟩
  have hg : (seqB s && (oppI s.goal).ok) = false := by have h9 := hc13; rw [g2] at h9; exact nt h9
  rw [show ctxI s = ([], false) from if_neg (by rw [hg]; decide)]
  exact .tup (.cons (.c .nils) (.cons (.c .d) .nil))
 ·
  skip
  refine AWP.skip ?_
  refine AWP.seq ?_
  refine AWP.forget [(1, _), (0, _)] ⟨rfl, rfl, trivial⟩ ?_
  have hg : (seqB s && (oppI s.goal).ok) = true := by have h9 := hc13; rw [g2] at h9; exact nf h9
  have hsq := (Bool.and_eq_true _ _ ▸ hg).1
  obtain ⟨hs1, hs2, hs3⟩ := seqB_spec hsq
  refine AWP.drawP hσ _ [_, _, _, _, _, _, _, _, _, _, _] [⟨[], 0, 0, none⟩, ⟨[0], 0, 0, none⟩, ⟨[0, 1], 0, 0, some 0⟩, ⟨[], 0, 1, none⟩, ⟨[3], 0, 1, none⟩, ⟨[0, 1, 2, 3, 4], 0, 0, some 1⟩, ⟨[0, 1, 2, 3, 4, 5], 0, 0, some 2⟩, ⟨[0, 1, 2, 3, 4, 5, 6], 0, 0, some 3⟩, ⟨[0, 1, 2, 3, 4, 5, 6, 7], 0, 0, some 4⟩, ⟨[0, 1, 2, 3, 4, 5, 6, 7, 8], 5, 5, none⟩, ⟨[0, 1, 2, 3, 4, 5, 6, 7, 8, 9], 5, 5, none⟩] [2, 5, 6, 7, 8] [_, _, _, _, _, _] [[], [], [], [], [17000]] rfl rfl (by decide) (by decide) (by kernel_rfl) (And.intro (And.intro (Val.of hσ rfl rfl) rfl) (And.intro (And.intro (Val.of hσ rfl rfl) rfl) (And.intro (And.intro (Eff.p (Eff.rowsD hσ (B0 := 17000) rfl rfl rfl rfl (c91r (ts := s.facts) h1 h2) (VAs.self rfl) rfl rfl rfl rfl)) rfl) (And.intro (And.intro (And.intro (Val.of hσ rfl rfl) rfl) (And.intro (Val.of hσ rfl rfl) rfl)) (And.intro (And.intro (And.intro (Val.of hσ rfl rfl) rfl) (And.intro (Val.of hσ rfl rfl) rfl)) (And.intro (And.intro (Eff.p (Eff.plainD hσ (B0 := 20000) rfl rfl rfl rfl (c186 (t := s.goal) h1 h2 hs3) (VAs.self rfl) rfl rfl rfl rfl rfl)) rfl) (And.intro (And.intro (Eff.p (Eff.plainD hσ (B0 := 21000) rfl rfl rfl rfl (c148 (t := oppI s.goal) h1 h2) (VAs.self rfl) rfl rfl rfl rfl rfl)) rfl) (And.intro (And.intro (Eff.p (Eff.litD hσ rfl rfl rfl rfl rfl rfl rfl rfl rfl rfl rfl rfl rfl rfl)) rfl) (And.intro (And.intro (Eff.appCopy (own := false) (xs := s.facts.map Tm.cells) (ys := [Tm.cells (oppI s.goal)]) (zs := (s.facts ++ [oppI s.goal]).map Tm.cells) (n := (s.facts ++ [oppI s.goal]).length) hσ rfl rfl rfl rfl rfl rfl rfl rfl rfl rfl rfl rfl rfl rfl rfl rfl (.row rfl (List.length_map _).symm) (.whole rfl rfl (.inr ⟨rfl, rfl⟩)) (by simp) rfl (by simp; omega) (by simp; omega) (by simp) (by simp) rfl) rfl) (And.intro (And.intro (Val.of hσ rfl rfl) rfl) (And.intro (And.intro (Val.of hσ rfl rfl) rfl) trivial))))))))))) ?_
  refine AWP.forget [(3, _), (2, _), (1, _), (0, _)] ⟨rfl, rfl, rfl, rfl, trivial⟩ ?_
  refine jnw ?_
  refine AWP.ret ?_
  refine ⟨.inl rfl, _, Ent.refl, _, rfl, ?_⟩
  rw [show ctxI s = (s.facts ++ [oppI s.goal], true) from if_pos hg]
  exact .tup (.cons (.c (.whole rfl (List.length_map _).symm)) (.cons (.c .d) .nil))
theorem c147 {L : Nat} (h1 : 4096 ≤ L) (h2 : L ≤ 1073741824) {n : Int} : MC Tryz.prog L 81 [eI n] [] (Plain (eI n)) := by
 refine MC.alone ?_ rfl
 have hσ := SGok (nt := 4) h1 (Nat.le_trans h2 (by decide))
 refine MC.body hσ Tryz.func81 (by kernel_rfl) rfl rfl (Nat.le_of_ble_eq_true rfl) (fun hF => ?_)
 refine jsr ?_
 refine jst hσ rfl rfl rfl rfl rfl ?_
 refine jns ?_
 iterate 2 refine jst hσ rfl rfl rfl rfl rfl ?_
 refine jn ?_
 refine AWP.ret ?_
 refine ⟨.inl rfl, _, Ent.refl, _, rfl, ?_⟩
 first | rfl | skip
theorem c203 {L : Nat} (h1 : 4096 ≤ L) (h2 : L ≤ 1073741824) {c : Tm} {r : List Tm} (hl : (c :: r).length ≤ 1000) : MC Tryz.prog L 99 [atms (c :: r)] [] (Rows (.c (.rs 0 0 (c :: r).length)) [drow (c :: r)]) := by
 refine MC.rows ?_
 have hσ := SGok (nt := 8) h1 (Nat.le_trans h2 (by decide))
 refine MC.body hσ Tryz.func99 (by kernel_rfl) rfl rfl (Nat.le_of_ble_eq_true rfl) (fun hF => ?_)
 refine jsr ?_
 refine jst hσ rfl rfl rfl rfl rfl ?_
 refine jn ?_
 refine AWP.seq ?_
 refine jsr ?_
 iterate 2 refine jst hσ rfl rfl rfl rfl rfl ?_
 refine jn ?_
 refine AWP.cond hσ rfl rfl (fun hc4 => ?_) (fun hc4 => ?_)
 ·
  skip
  exact absurd (show false = true from hc4) (by decide)
 ·
  skip
  refine AWP.skip ?_
  refine jsr ?_
  refine AOps.heap (HS.lit hσ rfl rfl rfl) rfl ?_
  refine jst hσ rfl rfl rfl rfl rfl ?_
  refine jf5 6 5 3 2 0 rfl rfl rfl rfl rfl ?_
  refine AOps.to (Ent.unown 5 rfl) ?_
  refine AOps.heap (HS.appCopy (own := false) (zs := (c :: r).map Tm.cells) (n := (c :: r).length) hσ rfl rfl rfl rfl rfl rfl rfl rfl rfl rfl rfl rfl rfl rfl rfl rfl (.row rfl rfl) (.slc (.inl rfl)) (by simp) rfl (by simp at hl ⊢; omega) (by simp at hl ⊢; omega) rfl (by simp)) rfl ?_
  refine jst hσ rfl rfl rfl rfl rfl ?_
  refine jf3 2 3 0 rfl rfl rfl ?_
  refine jn ?_
  refine AWP.ret ?_
  refine ⟨.inl rfl, _, Ent.refl, _, rfl, [7], by decide, rfl, rfl, rfl⟩
theorem c189 {L : Nat} (h1 : 4096 ≤ L) (h2 : L ≤ 1073741824) {c : Tm} {r : List Tm} {t : Tm} (hl : (c :: r).length ≤ 1000) : MC Tryz.prog L 82 [atms (c :: r), aTm' t] [] (Plain (atms (c :: r ++ [t]))) := by
 refine MC.data ?_
 have hσ := SGok (nt := 10) h1 (Nat.le_trans h2 (by decide))
 refine MC.body hσ Tryz.func82 (by kernel_rfl) rfl rfl (Nat.le_of_ble_eq_true rfl) (fun hF => ?_)
 refine jsr ?_
 refine AOps.heap (HS.box hσ rfl rfl rfl rfl rfl rfl rfl) rfl ?_
 refine jst hσ rfl rfl rfl rfl rfl ?_
 refine jn ?_
 refine AWP.seq ?_
 refine AWP.forget [(3, _), (0, _), (1, _)] ⟨rfl, rfl, rfl, trivial⟩ ?_
 refine AWP.drawF2 hσ _ [_, _, _, _, _, _] [⟨[], 0, 0, none⟩, ⟨[0], 0, 0, some 0⟩, ⟨[], 0, 1, none⟩, ⟨[2], 0, 1, none⟩, ⟨[0, 1, 2, 3], 0, 0, some 1⟩, ⟨[0, 1, 2, 3, 4], 2, 2, none⟩] [1, 4] 3 8 (.row false 2 [Tm.cells t]) [_, _] [_] [[], [7000]] rfl rfl (by decide) (by decide) (by decide) rfl (by kernel_rfl) (And.intro (And.intro (and_flip (Val.of hσ rfl rfl) (Val.of hσ rfl rfl)) rfl) (And.intro (And.intro (and_flip (Eff.p (Eff.rowsD hσ (B0 := 7000) rfl rfl rfl rfl (c203 (c := c) (r := r) h1 h2 hl) (VAs.self rfl) rfl rfl rfl rfl)) (Eff.p (Eff.rowsD hσ (B0 := 7000) rfl rfl rfl rfl (c203 (c := c) (r := r) h1 h2 hl) (VAs.self rfl) rfl rfl rfl rfl))) rfl) (And.intro (And.intro (And.intro (and_flip (Val.of hσ rfl rfl) (Val.of hσ rfl rfl)) rfl) (And.intro (and_flip (Val.of hσ rfl rfl) (Val.of hσ rfl rfl)) rfl)) (And.intro (And.intro (And.intro (Eff.p (Eff.litD hσ rfl rfl rfl rfl rfl rfl rfl rfl rfl rfl rfl rfl rfl rfl)) rfl) (And.intro (Eff.p (Eff.litD hσ rfl rfl rfl rfl rfl rfl rfl rfl rfl rfl rfl rfl rfl rfl)) rfl)) (And.intro (And.intro (and_flip trivial (Eff.appCopy (own := false) (xs := (c :: r).map Tm.cells) (ys := [Tm.cells t]) (zs := (c :: r ++ [t]).map Tm.cells) (n := (c :: r ++ [t]).length) hσ rfl rfl rfl rfl rfl rfl rfl rfl rfl rfl rfl rfl rfl rfl rfl rfl (.row rfl (List.length_map _).symm) (.whole rfl rfl (.inr ⟨rfl, rfl⟩)) (by simp) rfl (by simp at hl ⊢; omega) (by simp at hl ⊢; omega) (by simp) (by simp) rfl)) rfl) (And.intro (And.intro (and_flip trivial (Val.of hσ rfl rfl)) rfl) trivial)))))) ?_
 refine AWP.forget [(4, _), (1, _)] ⟨rfl, rfl, trivial⟩ ?_
 refine jnw ?_
 refine AWP.ret ?_
 refine ⟨.inl rfl, _, Ent.refl, _, rfl, ?_⟩
 exact .v (.c (.whole rfl (List.length_map _).symm))
theorem c211 {L : Nat} (h1 : 4096 ≤ L) (h2 : L ≤ 1073741824) {x : Int} (hx : -1000000 ≤ x ∧ x ≤ 1000000) : MC Tryz.prog L 86 [eI x] [] (Plain (eI x.natAbs)) := by
 refine MC.alone ?_ rfl
 have hσ := SGok (nt := 7) h1 (Nat.le_trans h2 (by decide))
 refine MC.body hσ Tryz.func86 (by kernel_rfl) rfl rfl (Nat.le_of_ble_eq_true rfl) (fun hF => ?_)
 refine jsr ?_
 refine jst hσ rfl rfl rfl rfl rfl ?_
 refine jns ?_
 iterate 2 refine jst hσ rfl rfl rfl rfl rfl ?_
 refine jfi hσ rfl rfl rfl rfl rfl ?_
 iterate 2 refine jst hσ rfl rfl rfl rfl rfl ?_
 refine jn ?_
 refine AWP.ret ?_
 refine ⟨.inl rfl, _, Ent.refl, _, rfl, ?_⟩
 exact congrArg eI (show (if 0 - x > x then 0 - x else x) = (x.natAbs : Int) by split <;> omega)
end Go.Al
namespace Go.Al
open Go.Proofs
set_option linter.unusedVariables false
set_option linter.unusedSimpArgs false
set_option maxRecDepth 10000
def flr (c g : Int) : Int := if c.tmod g < 0 then c.tdiv g - 1 else c.tdiv g
abbrev tiI (t : Tm) : Tm := ⟨flr t.c (gcdL t.xs), t.xs.map fun x => x.tdiv (gcdL t.xs)⟩
def tightI (t : Tm) : Tm × Bool := if gcdL t.xs < 2 then (⟨0, []⟩, false) else (tiI t, true)
def kidsN (n : Nd) : Int := if ndB n = true then (if n.kind = 1 then 0 else if n.kind = 2 then 2 else 1) else -1
theorem c204 {L : Nat} (h1 : 4096 ≤ L) (h2 : L ≤ 1073741824) {xs : List Int} (ht : xs.all num = true) : MC Tryz.prog L 67 [aints xs] [] (Plain (eI (gcdL xs))) := by
 refine MC.alone ?_ rfl
 have hσ := SGok (nt := 26) h1 (Nat.le_trans h2 (by decide))
 refine MC.body hσ Tryz.func67 (by kernel_rfl) rfl rfl (Nat.le_of_ble_eq_true rfl) (fun hF => ?_)
 have hl : xs.length ≤ L := by simpa [As.fact, A.fact, M.fact, D.fact, Ds.fact] using hF.1.1
 refine jsr ?_
 refine jst hσ rfl rfl rfl rfl rfl ?_
 refine jns ?_
 refine jst hσ rfl rfl rfl rfl rfl ?_
 refine jn ?_
 refine AWP.seq ?_
 refine jsr ?_
 refine jst hσ rfl rfl rfl rfl rfl ?_
 first | refine jle hσ rfl rfl rfl rfl rfl rfl rfl rfl rfl rfl rfl ?_ | refine jst hσ rfl rfl rfl rfl rfl ?_ | refine jvf hσ rfl rfl rfl rfl rfl ?_
 refine jst hσ rfl rfl rfl rfl rfl ?_
 refine jn ?_
 refine AWP.block ?_
 refine AWP.loopP (X := Nat) (fun i => ⟨[(3, eI (gcdL (xs.take i))), (8, aints xs), (9, eI xs.length), (10, eI i)], []⟩) (fun i => i ≤ xs.length) (fun i => xs.length - i) 0 (Ent.env ⟨rfl, rfl, rfl, rfl, trivial⟩) ?_ (fun i hi => ?_)
 ·
  exact Nat.zero_le _
 refine jsr ?_
 refine jst hσ rfl rfl rfl rfl rfl ?_
 refine jn ?_
 refine AWP.seq ?_
 refine AWP.cond hσ rfl rfl (fun hc11 => ?_) (fun hc11 => ?_)
 ·
  try simp only [jcs] at hc11
  refine AWP.skip ?_
  refine AWP.seq ?_
  refine AWP.block ?_
  refine jsr ?_
  have hi0 := hi
  have hx := num_iff.1 (List.all_eq_true.1 ht _ (List.getElem_mem (show i < xs.length by omega)))
  rw [← getD_lt (by omega)] at hx
  have hgs := gcdL_succ (xs := xs) (i := i) (by omega)
  have hgl := gcdL_le ht hi
  refine AOps.step (Val.indexN hσ rfl rfl rfl rfl rfl rfl rfl rfl (idxN (by omega))) rfl rfl rfl ?_
  iterate 2 refine jst hσ rfl rfl rfl rfl rfl ?_
  refine jf6 5 11 3 8 9 10 rfl rfl rfl rfl rfl rfl ?_
  refine jns ?_
  iterate 2 refine jst hσ rfl rfl rfl rfl rfl ?_
  refine jf7 15 14 11 3 8 9 10 rfl rfl rfl rfl rfl rfl rfl ?_
  refine AOps.lone hσ rfl rfl rfl rfl (c211 (x := xs.getD i default) h1 h2 hx) (VAs.self rfl) rfl rfl rfl rfl rfl (B0 := 17000) rfl ?_
  iterate 2 refine jst hσ rfl rfl rfl rfl rfl ?_
  refine jf7 7 6 11 3 8 9 10 rfl rfl rfl rfl rfl rfl rfl ?_
  refine jn ?_
  refine AWP.seq ?_
  refine AWP.block ?_
  refine AWP.loopP (X := Nat × Nat) (fun z => ⟨[(8, aints xs), (9, eI xs.length), (10, eI i), (6, eI z.1), (7, eI z.2)], []⟩) (fun z => Nat.gcd z.1 z.2 = Nat.gcd (gcdL (xs.take i)) (xs.getD i default).natAbs ∧ z.1 ≤ 1000000 ∧ z.2 ≤ 1000000) (fun z => z.2) (gcdL (xs.take i), (xs.getD i default).natAbs) (Ent.env ⟨rfl, rfl, rfl, rfl, rfl, trivial⟩) ?_ (fun z hi => ?_)
  ·
   exact ⟨rfl, hgl, by show (xs.getD i default).natAbs ≤ 1000000; omega⟩
  have hz := tmod_in (a := z.1) (b := z.2) (by omega)
  refine AWP.seq ?_
  refine jsr ?_
  iterate 2 refine jst hσ rfl rfl rfl rfl rfl ?_
  refine jn ?_
  refine AWP.cond hσ rfl rfl (fun hc18 => ?_) (fun hc18 => ?_)
  ·
   try simp only [jcs] at hc18
   refine AWP.skip ?_
   refine AWP.block ?_
   refine AWP.drawV hσ _ [_, _, _, _, _, _] [⟨[], 0, 0, none⟩, ⟨[], 0, 0, none⟩, ⟨[], 0, 0, none⟩, ⟨[1, 2], 0, 0, none⟩, ⟨[0, 1], 0, 0, none⟩, ⟨[0, 1, 2, 3, 4], 0, 0, none⟩] [] [[], [], [6], [6], [], [6]] [_] rfl rfl (by decide) (by decide) (by kernel_rfl) (And.intro (Val.of hσ rfl rfl) (And.intro (Val.of hσ rfl rfl) (And.intro (Val.of hσ rfl rfl) (And.intro (Val.rem64 hσ rfl rfl rfl rfl (by omega) (by omega) (by omega)) (And.intro (Val.of hσ rfl rfl) (And.intro (Val.of hσ rfl rfl) trivial)))))) ?_
   have hm : z.1 % z.2 < z.2 := Nat.mod_lt _ (by omega)
   refine ⟨(z.2, z.1 % z.2), Ent.env ⟨rfl, rfl, rfl, rfl, rfl, trivial⟩, ⟨?_, hi.2.2, by show z.1 % z.2 ≤ 1000000; omega⟩, hm⟩
   show Nat.gcd z.2 (z.1 % z.2) = _
   rw [← hi.1, Nat.gcd_comm z.2, ← Nat.gcd_rec, Nat.gcd_comm]
  ·
   try simp only [jcs] at hc18
   refine AWP.exit ?_
   refine AWP.region ?_
   iterate 2 refine jst hσ rfl rfl rfl rfl rfl ?_
   refine jn ?_
   refine AWP.region ?_
   first | refine jfi hσ rfl rfl rfl rfl rfl ?_ | refine jvf hσ rfl rfl rfl rfl rfl ?_
   refine jst hσ rfl rfl rfl rfl rfl ?_
   refine jn ?_
   have hz0 : z.2 = 0 := by omega
   have hz1 : z.1 = gcdL (xs.take (i + 1)) := by rw [hgs, ← hi.1, hz0, Nat.gcd_zero_right]
   rw [hz1]
   exact ⟨i + 1, Ent.env ⟨rfl, rfl, rfl, rfl, trivial⟩, by omega, by omega⟩
 ·
  try simp only [jcs] at hc11
  refine AWP.exit ?_
  refine jsr ?_
  iterate 2 refine jst hσ rfl rfl rfl rfl rfl ?_
  refine jn ?_
  refine AWP.ret ?_
  refine ⟨.inl rfl, _, Ent.refl, _, rfl, ?_⟩
  obtain rfl : i = xs.length := by omega
  rw [List.take_length]
theorem c205 {L : Nat} (h1 : 4096 ≤ L) (h2 : L ≤ 1073741824) {a b : Int} (ha : -1000000 ≤ a ∧ a ≤ 1000000) (hb : b ≠ 0) : MC Tryz.prog L 96 [eI a, eI b] [] (Plain (eI (flr a b))) := by
 refine MC.alone ?_ rfl
 have hσ := SGok (nt := 16) h1 (Nat.le_trans h2 (by decide))
 refine MC.body hσ Tryz.func96 (by kernel_rfl) rfl rfl (Nat.le_of_ble_eq_true rfl) (fun hF => ?_)
 have hq := tdiv_in (b := b) ha
 have hr := tmod_in (b := b) ha
 refine jsr ?_
 refine jst hσ rfl rfl rfl rfl rfl ?_
 refine jns ?_
 iterate 2 refine jst hσ rfl rfl rfl rfl rfl ?_
 first | refine AOps.step (Val.quo64 hσ rfl rfl rfl rfl (by first | omega | (simp at *; omega)) (by first | omega | (simp at *; omega)) (by first | omega | (simp at *; omega))) rfl rfl rfl ?_ | refine jfi hσ rfl rfl rfl rfl rfl ?_
 refine jst hσ rfl rfl rfl rfl rfl ?_
 refine jn ?_
 refine AWP.seq ?_
 refine jsr ?_
 iterate 2 refine jst hσ rfl rfl rfl rfl rfl ?_
 first | refine AOps.step (Val.rem64 hσ rfl rfl rfl rfl (by first | omega | (simp at *; omega)) (by first | omega | (simp at *; omega)) (by first | omega | (simp at *; omega))) rfl rfl rfl ?_ | refine jfi hσ rfl rfl rfl rfl rfl ?_
 refine jst hσ rfl rfl rfl rfl rfl ?_
 refine jn ?_
 refine AWP.cond hσ rfl rfl (fun hc12 => ?_) (fun hc12 => ?_)
 ·
  try simp only [jcs] at hc12
  refine AWP.region ?_
  refine jst hσ rfl rfl rfl rfl rfl ?_
  first | refine jfi hσ rfl rfl rfl rfl rfl ?_ | refine jvf hσ rfl rfl rfl rfl rfl ?_
  refine jst hσ rfl rfl rfl rfl rfl ?_
  refine jns ?_
  iterate 2 refine jst hσ rfl rfl rfl rfl rfl ?_
  refine jn ?_
  refine AWP.ret ?_
  refine ⟨.inl rfl, _, Ent.refl, _, rfl, ?_⟩
  rw [flr, if_pos hc12]
 ·
  try simp only [jcs] at hc12
  refine AWP.skip ?_
  refine jsr ?_
  iterate 2 refine jst hσ rfl rfl rfl rfl rfl ?_
  refine jn ?_
  refine AWP.ret ?_
  refine ⟨.inl rfl, _, Ent.refl, _, rfl, ?_⟩
  rw [flr, if_neg (by omega)]
theorem c148o {L : Nat} (h1 : 4096 ≤ L) (h2 : L ≤ 1073741824) {t : Tm} : MC Tryz.prog L 60 [aTm' t] [] (Rows (.agg [.d (.int .i64 t.c), .rs 0 0 t.xs.length]) [nrow t.xs]) := by
 refine MC.rows ?_
 have hσ := SGok (nt := 9) h1 (Nat.le_trans h2 (by decide))
 refine MC.body hσ Tryz.func60 (by kernel_rfl) rfl rfl (Nat.le_of_ble_eq_true rfl) (fun hF => ?_)
 refine jsr ?_
 refine AOps.heap (HS.box hσ rfl rfl rfl rfl rfl rfl rfl) rfl ?_
 refine AOps.heap (HS.alloc hσ rfl rfl rfl rfl rfl) rfl ?_
 refine jn ?_
 refine AWP.seq ?_
 refine AWP.drawR hσ _ [_, _, _, _, _, _, _] [⟨[], 0, 1, none⟩, ⟨[0], 0, 1, none⟩, ⟨[], 0, 0, none⟩, ⟨[2], 0, 0, none⟩, ⟨[2, 3], 0, 0, some 0⟩, ⟨[0, 1, 2, 3, 4], 1, 1, none⟩, ⟨[0, 1, 2, 3, 4, 5], 0, 0, some 1⟩] [4, 6] [_, _, _] rfl rfl (by decide) (by decide) (by kernel_rfl) (And.intro (And.intro (Val.of hσ rfl rfl) (Val.of hσ rfl rfl)) (And.intro (And.intro (Val.of hσ rfl rfl) (Val.of hσ rfl rfl)) (And.intro (Val.of hσ rfl rfl) (And.intro (Val.of hσ rfl rfl) (And.intro (Eff.rows hσ (B0 := 8000) rfl rfl rfl rfl (c158 (xs := t.xs) h1 h2) (VAs.self rfl) rfl rfl rfl rfl rfl) (And.intro (Val.of hσ rfl rfl) (And.intro (Eff.storeBox hσ rfl rfl rfl rfl rfl rfl rfl rfl rfl rfl rfl rfl rfl) trivial))))))) ?_
 refine AWP.ret ?_
 refine ⟨.inl rfl, _, Ent.refl, _, rfl, [8000], by decide, rfl, rfl, rfl⟩
def mkq (xs : List Int) (g : Int) (i : Nat) : List Int := (xs.take i).map (fun x => x.tdiv g) ++ xs.drop i
theorem mkq_zero {xs g} : mkq xs g 0 = xs := by simp [mkq]
theorem mkq_all {xs : List Int} {g : Int} : mkq xs g xs.length = xs.map fun x => x.tdiv g := by simp [mkq]
theorem mkq_length {xs g i} : (mkq xs g i).length = xs.length := by simp [mkq]; omega
theorem mkq_get {xs : List Int} {g : Int} {i : Nat} (h : i < xs.length) : ((mkq xs g i).map fun n => [D.int .i64 n])[i]? = some [.int .i64 (xs.getD i default)] := by
  rw [List.getElem?_map, mkq, List.getElem?_append_right (by simp; omega), List.length_map, List.length_take, Nat.min_eq_left (Nat.le_of_lt h), Nat.sub_self, List.getElem?_drop, Nat.add_zero, List.getElem?_eq_getElem h, getD_lt h]
  rfl
theorem mkq_succ {xs : List Int} {g : Int} {i : Nat} (h : i < xs.length) : (mkq xs g i).set i ((xs.getD i default).tdiv g) = mkq xs g (i + 1) := by
  have hl : ((xs.take i).map fun x => x.tdiv g).length = i := by simp; omega
  rw [mkq, List.set_append_right _ _ (by omega), hl, Nat.sub_self, mkq, List.take_succ_eq_append_getElem h, List.drop_eq_getElem_cons h, List.set_cons_zero, getD_lt h, List.map_append, List.append_assoc]
  rfl
theorem c190 {L : Nat} (h1 : 4096 ≤ L) (h2 : L ≤ 1073741824) {t : Tm} (ht : Small t) : MC Tryz.prog L 79 [aTm' t] [] (Plain (resTm (tightI t))) := by
 refine MC.data ?_
 have hσ := SGok (nt := 36) h1 (Nat.le_trans h2 (by decide))
 refine MC.body hσ Tryz.func79 (by kernel_rfl) rfl rfl (Nat.le_of_ble_eq_true rfl) (fun hF => ?_)
 have hl : t.xs.length ≤ L := by simpa [As.fact, A.fact, M.fact, Ms.fact, D.fact, Ds.fact] using hF.1.2.1.1
 have hc0 := num_iff.1 ht.c
 refine jsr ?_
 refine AOps.heap (HS.box hσ rfl rfl rfl rfl rfl rfl rfl) rfl ?_
 refine jnm ?_
 refine AOps.forget [(1, _)] ⟨rfl, trivial⟩ ?_
 refine AOps.heap (HS.alloc hσ rfl rfl rfl rfl rfl) rfl ?_
 refine jnm ?_
 refine jst hσ rfl rfl rfl rfl rfl ?_
 refine jns ?_
 iterate 2 refine jst hσ rfl rfl rfl rfl rfl ?_
 refine jf4 8 3 2 1 rfl rfl rfl rfl ?_
 refine AOps.lone hσ rfl rfl rfl rfl (c204 (xs := t.xs) h1 h2 ht.xs) (VAs.self rfl) rfl rfl rfl rfl rfl (B0 := 10000) rfl ?_
 refine jst hσ rfl rfl rfl rfl rfl ?_
 refine jf4 4 3 2 1 rfl rfl rfl rfl ?_
 refine jn ?_
 refine AWP.seq ?_
 refine jsr ?_
 iterate 2 refine jst hσ rfl rfl rfl rfl rfl ?_
 refine jn ?_
 refine AWP.cond hσ rfl rfl (fun hc11 => ?_) (fun hc11 => ?_)
 ·
  try simp only [jcs] at hc11
  refine jsr ?_
  refine jst hσ rfl rfl rfl rfl rfl ?_
  refine jf6 12 10 4 3 2 1 rfl rfl rfl rfl rfl rfl ?_
  refine AOps.heap (HS.storeBox hσ rfl rfl rfl rfl rfl rfl rfl rfl rfl rfl rfl) rfl ?_
  refine jnm ?_
  refine jst hσ rfl rfl rfl rfl rfl ?_
  refine jn ?_
  refine AWP.ret ?_
  refine ⟨.inl rfl, _, Ent.refl, _, rfl, ?_⟩
  rw [show tightI t = (⟨0, []⟩, false) from if_pos (by omega)]
  exact .tup (.cons (.agg (.cons .d (.cons .nils .nil))) (.cons (.c .d) .nil))
 ·
  try simp only [jcs] at hc11
  refine AWP.skip ?_
  refine jsr ?_
  obtain ⟨g, hg⟩ : ∃ g : Int, g = (gcdL t.xs : Int) := ⟨_, rfl⟩
  rw [← hg]
  rw [← hg] at hc11
  refine jst hσ rfl rfl rfl rfl rfl ?_
  refine jf6 13 10 4 3 2 1 rfl rfl rfl rfl rfl rfl ?_
  refine AOps.rows hσ (B0 := 15000) rfl rfl rfl rfl (c148o (t := t) h1 h2) (VAs.self rfl) rfl rfl rfl rfl rfl rfl ?_
  refine jnm ?_
  refine jf6 14 10 4 3 2 1 rfl rfl rfl rfl rfl rfl ?_
  refine AOps.heap (HS.alloc hσ rfl rfl rfl rfl rfl) rfl ?_
  refine jnm ?_
  refine AOps.heap (HS.storeBox hσ rfl rfl rfl rfl rfl rfl rfl rfl rfl rfl rfl) rfl ?_
  refine jnm ?_
  refine jns ?_
  iterate 3 refine jst hσ rfl rfl rfl rfl rfl ?_
  refine jf9 17 16 5 14 10 4 3 2 1 rfl rfl rfl rfl rfl rfl rfl rfl rfl ?_
  refine AOps.lone hσ rfl rfl rfl rfl (c205 (a := t.c) (b := g) h1 h2 hc0 (by omega)) (VAs.self rfl) rfl rfl rfl rfl rfl (B0 := 19000) rfl ?_
  refine jst hσ rfl rfl rfl rfl rfl ?_
  refine jf9 19 18 5 14 10 4 3 2 1 rfl rfl rfl rfl rfl rfl rfl rfl rfl ?_
  refine AOps.heap (HS.storeBox hσ rfl rfl rfl rfl rfl rfl rfl rfl rfl rfl rfl) rfl ?_
  refine jnm ?_
  refine jf7 5 14 10 4 3 2 1 rfl rfl rfl rfl rfl rfl rfl ?_
  refine jn ?_
  refine AWP.seq ?_
  refine jsr ?_
  iterate 2 refine jst hσ rfl rfl rfl rfl rfl ?_
  first | refine jle hσ rfl rfl rfl rfl rfl rfl rfl rfl rfl rfl rfl ?_ | refine jst hσ rfl rfl rfl rfl rfl ?_ | refine jvf hσ rfl rfl rfl rfl rfl ?_
  refine jst hσ rfl rfl rfl rfl rfl ?_
  refine jf9 23 22 5 14 10 4 3 2 1 rfl rfl rfl rfl rfl rfl rfl rfl rfl ?_
  refine jn ?_
  refine AWP.block ?_
  refine AWP.loopP (X := Nat) (fun i => ⟨[(2, .c (.pt 2 0 0)), (4, eI g), (5, .c (.pt 5 0 0)), (22, eI t.xs.length), (23, eI i)], [(2, .box [.d (.int .i64 0), .d .nils]), (5, .box [.d (.int .i64 (flr t.c g)), .rs 15000 0 t.xs.length]), (15000, nrow (mkq t.xs g i))]⟩) (fun i => i ≤ t.xs.length) (fun i => t.xs.length - i) 0 (((Ent.sel [2, 5, 15000] (e' := [(2, _), (4, _), (5, _), (22, _), (23, _)]) rfl rfl ⟨rfl, rfl, rfl, rfl, rfl, trivial⟩ rfl)).trans (Ent.to ⟨rfl, rfl, rfl, rfl, rfl, trivial⟩ (by rw [mkq_zero]; rfl))) ?_ (fun i hi => ?_)
  ·
   exact Nat.zero_le _
  refine jsr ?_
  refine jst hσ rfl rfl rfl rfl rfl ?_
  refine jn ?_
  refine AWP.seq ?_
  refine AWP.cond hσ rfl rfl (fun hc24 => ?_) (fun hc24 => ?_)
  ·
   try simp only [jcs] at hc24
   refine AWP.skip ?_
   refine AWP.seq ?_
   refine AWP.block ?_
   refine jsr ?_
   iterate 2 refine jst hσ rfl rfl rfl rfl rfl ?_
   refine jn ?_
   refine AWP.region ?_
   have hx := tdiv_in (b := g) (num_iff.1 (List.all_eq_true.1 ht.xs _ (List.getElem_mem (show i < t.xs.length by omega))))
   rw [← getD_lt (by omega)] at hx
   have hkl := mkq_length (xs := t.xs) (g := g) (i := i)
   iterate 3 refine jst hσ rfl rfl rfl rfl rfl ?_
   first | refine jin hσ rfl rfl rfl rfl rfl rfl rfl rfl rfl rfl rfl ?_ | refine jix hσ rfl rfl rfl rfl rfl rfl rfl rfl rfl rfl rfl ?_ | refine jvf hσ rfl rfl rfl rfl rfl ?_
   refine AOps.step (Val.loadRow hσ (ex := [.int .i64 (t.xs.getD i default)]) rfl rfl rfl rfl (by rw [Nat.zero_add]; exact mkq_get (by omega)) rfl) rfl rfl rfl ?_
   refine jst hσ rfl rfl rfl rfl rfl ?_
   first | refine AOps.step (Val.quo64 hσ rfl rfl rfl rfl (by first | omega | (simp at *; omega)) (by first | omega | (simp at *; omega)) (by first | omega | (simp at *; omega))) rfl rfl rfl ?_ | refine jfi hσ rfl rfl rfl rfl rfl ?_
   first | refine jin hσ rfl rfl rfl rfl rfl rfl rfl rfl rfl rfl rfl ?_ | refine jix hσ rfl rfl rfl rfl rfl rfl rfl rfl rfl rfl rfl ?_ | refine jvf hσ rfl rfl rfl rfl rfl ?_
   refine jf9 33 32 25 24 2 4 5 22 23 rfl rfl rfl rfl rfl rfl rfl rfl rfl ?_
   refine AOps.heap (HS.storeRow (ex := [.int .i64 (t.xs.getD i default)]) (xs' := (mkq t.xs g (i + 1)).map (fun n => [D.int .i64 n])) hσ rfl rfl rfl rfl rfl rfl rfl rfl rfl rfl rfl rfl rfl rfl (by rw [Nat.zero_add]; exact mkq_get (by omega)) (by rw [← mkq_succ (by omega), List.map_set, Nat.zero_add]; rfl)) rfl ?_
   refine jnm ?_
   refine jf7 25 24 2 4 5 22 23 rfl rfl rfl rfl rfl rfl rfl ?_
   refine jn ?_
   refine AWP.region ?_
   first | refine jfi hσ rfl rfl rfl rfl rfl ?_ | refine jvf hσ rfl rfl rfl rfl rfl ?_
   refine jst hσ rfl rfl rfl rfl rfl ?_
   refine jn ?_
   refine ⟨i + 1, Ent.to ⟨rfl, rfl, rfl, rfl, rfl, trivial⟩ rfl, by omega, by omega⟩
  ·
   try simp only [jcs] at hc24
   refine AWP.exit ?_
   refine jsr ?_
   refine jst hσ rfl rfl rfl rfl rfl ?_
   refine AOps.heap (HS.storeBox hσ rfl rfl rfl rfl rfl rfl rfl rfl rfl rfl rfl) rfl ?_
   refine jnm ?_
   refine jst hσ rfl rfl rfl rfl rfl ?_
   refine jn ?_
   refine AWP.ret ?_
   refine ⟨.inl rfl, _, Ent.refl, _, rfl, ?_⟩
   obtain rfl : i = t.xs.length := by omega
   rw [show tightI t = (⟨flr t.c g, t.xs.map fun x => x.tdiv g⟩, true) by rw [hg]; exact if_neg (by omega)]
   have hkl := mkq_length (xs := t.xs) (g := g) (i := t.xs.length)
   exact .tup (.cons (.agg (.cons .d (.cons (.whole (by rw [← mkq_all]; rfl) (by simp)) .nil))) (.cons (.c .d) .nil))
end Go.Al
namespace Go.Al
open Go.Proofs
set_option linter.unusedVariables false
set_option linter.unusedSimpArgs false
set_option maxRecDepth 10000
def iterE (f : Nat → Option (Nat × Int)) : Nat → Nat → Int → Option (Nat × Int)
  | 0, k, d => some (k, d)
  | q + 1, k, d => match f k with
    | none => none
    | some (k', b) => iterE f q k' (if b > d then b else d)
def behF : Nat → List Nd → Nat → Option (Nat × Int)
  | 0, _, _ => none
  | n + 1, p, k => if p.length ≤ k then none else if kidsN (p.getD k default) < 0 then none else
      (iterE (behF n p) (kidsN (p.getD k default)).toNat (k + 1) 0).map fun r => (r.1, r.2 + 1)
abbrev eN (r : Option (Nat × Int)) : Int := match r with | some (k, _) => k | none => 0
abbrev eD (r : Option (Nat × Int)) : Int := match r with | some (_, d) => d | none => 0
abbrev eO (r : Option (Nat × Int)) : Bool := match r with | some _ => true | none => false
abbrev resE (r : Option (Nat × Int)) : A := .tup [eI (eN r), eI (eD r), eB (eO r)]
def isI (p : List Nd) : Bool := decide ((p.length : Int) ≤ 60) && (eO (behF (p.length + 1) p 0) && decide (eN (behF (p.length + 1) p 0) = p.length))
end Go.Al
namespace Go.Al
open Go.Proofs
set_option linter.unusedVariables false
/-! ### Tightening, told in two ways -/
theorem foldl_gcd_dvd : ∀ {xs : List Int} {g : Nat}, (xs.foldl (fun g x => Nat.gcd g x.natAbs) g ∣ g) ∧ ∀ x ∈ xs, xs.foldl (fun g x => Nat.gcd g x.natAbs) g ∣ x.natAbs
  | [], g => ⟨Nat.dvd_refl _, fun x hx => by cases hx⟩
  | y :: r, g => by
    have ih := foldl_gcd_dvd (xs := r) (g := Nat.gcd g y.natAbs)
    refine ⟨Nat.dvd_trans ih.1 (Nat.gcd_dvd_left _ _), fun x hx => ?_⟩
    rcases List.mem_cons.1 hx with rfl | hx
    · exact Nat.dvd_trans ih.1 (Nat.gcd_dvd_right _ _)
    · exact ih.2 x hx
theorem gcdL_dvd {xs : List Int} {x : Int} (hx : x ∈ xs) : gcdL xs ∣ x.natAbs := (foldl_gcd_dvd (g := 0)).2 x hx
theorem tdiv_ne {x : Int} {g : Nat} (h : g ∣ x.natAbs) (hx : x ≠ 0) (hg : 2 ≤ g) : x.tdiv g ≠ 0 := by
  intro h0
  have h1 : (x.tdiv g).natAbs = x.natAbs / g := by rw [Int.natAbs_tdiv]; rfl
  rw [h0] at h1
  obtain ⟨q, hq⟩ := h
  rw [hq, Nat.mul_div_cancel_left _ (by omega)] at h1
  have : q = 0 := by simpa using h1.symm
  rw [this] at hq
  omega
theorem trim_last {xs : List Int} (h : xs = [] ∨ xs.getD (xs.length - 1) default ≠ 0) : trim xs = xs := by
  have := trim_done (xs := xs) (n := xs.length) (Nat.le_refl _) (h.imp (fun e => by rw [e]; rfl) id)
  rwa [List.take_length] at this
theorem ok_iff {t : Tm} : t.ok = true ↔ num t.c = true ∧ t.xs.all num = true ∧ t.xs.length ≤ 10 ∧ (t.xs = [] ∨ t.xs.getD (t.xs.length - 1) default ≠ 0) := by
  unfold Tm.ok
  have hz : ((t.xs.length : Int) - 1).toNat = t.xs.length - 1 := by omega
  rw [hz]
  cases h1 : num t.c <;> cases h2 : t.xs.all num <;> simp
  by_cases h3 : t.xs.length ≤ 10
  · have h4 : ¬ (10 : Int) < t.xs.length := by omega
    by_cases h5 : t.xs = []
    · simp [h5]
    · have h6 : 0 < t.xs.length := List.length_pos_iff.2 h5
      simp [h3, h5]
      intro _; omega
  · have h4 : (10 : Int) < t.xs.length := by omega
    simp [h3, h4]
theorem mkT_eq {c : Int} {xs : List Int} (h : (Tm.mk c xs).ok = true) : mkT c xs = (⟨c, xs⟩, true) := by
  have h1 := ok_iff.1 h
  have h2 : trim xs = xs := trim_last h1.2.2.2
  unfold mkT
  rw [h2, if_pos h]
theorem tight_eq {t : Tm} (h : t.ok = true) : tightI t = tightS t := by
  unfold tightI tightS
  split
  · rfl
  · rename_i hg
    obtain ⟨h1, h2, h3, h4⟩ := ok_iff.1 h
    have hc := num_iff.1 h1
    have e : (if t.c.tmod (gcdL t.xs) < 0 then t.c.tdiv (gcdL t.xs) - 1 else t.c.tdiv (gcdL t.xs)) = flr t.c (gcdL t.xs) := rfl
    rw [e]
    refine (mkT_eq ?_).symm
    refine ok_iff.2 ⟨?_, ?_, by simpa using h3, ?_⟩
    · have hq : (t.c.tdiv (gcdL t.xs)).natAbs = t.c.natAbs / gcdL t.xs := by rw [Int.natAbs_tdiv]; rfl
      have hq2 : t.c.natAbs / gcdL t.xs ≤ t.c.natAbs / 2 := Nat.div_le_div_left (by omega) (by decide)
      refine num_iff.2 ?_
      show -1000000 ≤ flr t.c (gcdL t.xs) ∧ flr t.c (gcdL t.xs) ≤ 1000000
      unfold flr
      split <;> omega
    · rw [List.all_eq_true]
      intro y hy
      obtain ⟨x, hx, rfl⟩ := List.mem_map.1 hy
      have := num_iff.1 (List.all_eq_true.1 h2 x hx)
      exact num_iff.2 (tdiv_in this)
    · rcases h4 with h4 | h4
      · exact .inl (by rw [h4]; rfl)
      · by_cases h0 : t.xs = []
        · exact .inl (by rw [h0]; rfl)
        · refine .inr ?_
          have hl : 0 < t.xs.length := List.length_pos_iff.2 h0
          rw [getD_lt (by omega)] at h4
          rw [getD_lt (by simp; omega)]
          simp only [List.length_map, List.getElem_map]
          exact tdiv_ne (gcdL_dvd (List.getElem_mem _)) h4 (by omega)
/-! ### The opposite, told in two ways -/
theorem opp_cols {t : Tm} : sumL t (-1) ⟨1, []⟩ (-1) = colsL [t] [-1] := by
  unfold sumL colsL
  apply List.map_congr_left
  intro k _
  show -1 * t.xs.getD k 0 + -1 * 0 = -1 * t.xs.getD k 0 + 0
  omega
theorem opp_eq {t : Tm} : oppT t = if (oppI t).ok = true then (oppI t, true) else (⟨0, []⟩, false) := by
  unfold oppT sumT mkT
  rw [opp_cols]
  have : (-1 * t.c + -1 * (⟨1, []⟩ : Tm).c) = dotG Tm.c [t] [-1] - 1 := by
    show -1 * t.c + -1 * 1 = -1 * t.c + 0 - 1
    omega
  rw [this]
theorem opp_2 {t : Tm} : (oppT t).2 = (oppI t).ok := by
  rw [opp_eq]
  cases h : (oppI t).ok <;> simp
theorem opp_1 {t : Tm} (h : (oppI t).ok = true) : (oppT t).1 = oppI t := by rw [opp_eq, if_pos h]
/-! ### Closing, told in two ways -/
/-! ### Proofs as trees -/
inductive Pf where
  | close (n : Nd)
  | tight (n : Nd) (a : Pf)
  | split (n : Nd) (a b : Pf)
def Pf.size : Pf → Nat
  | .close _ => 1
  | .tight _ a => 1 + a.size
  | .split _ a b => 1 + a.size + b.size
def Pf.At (p : List Nd) : Pf → Nat → Prop
  | .close n, k => p[k]? = some n ∧ ndB n = true ∧ n.kind = 1
  | .tight n a, k => p[k]? = some n ∧ ndB n = true ∧ n.kind = 3 ∧ a.At p (k + 1)
  | .split n a b, k => p[k]? = some n ∧ ndB n = true ∧ n.kind = 2 ∧ a.At p (k + 1) ∧ b.At p (k + 1 + a.size)
/-! ### The examination, told of the tree -/
structure Ex where
  es : List (Int × List Tm)
  flaw : Int
def tput : List (Int × List Tm) → Int → List Tm → List (Int × List Tm)
  | [], k, x => [(k, x)]
  | (j, y) :: r, k, x => if k = j then (k, x) :: r else (j, y) :: tput r k x
def tget : List (Int × List Tm) → Int → Option (List Tm)
  | [], _ => none
  | (j, x) :: r, k => if k = j then some x else tget r k
abbrev cm (es : List (Int × List Tm)) : List (Int × D) := es.map fun x => (x.1, tms x.2)
def Ex.put (e : Ex) (k : Nat) (c : List Tm) : Ex := { e with es := tput e.es k c }
def Ex.bad (e : Ex) (k : Nat) : Ex := if e.flaw < 0 then { e with flaw := k } else e
def splitI (n : Nd) (c : List Tm) : Bool := decide ((c.length : Int) < 20) && (oppI n.term).ok
def factI (n : Nd) (c : List Tm) : Bool := decide ((c.length : Int) < 20) && inB 0 ((c.length : Int) - 1) n.fact
def tiF (n : Nd) (c : List Tm) : Tm × Bool := tightI (c.getD n.fact.toNat default)
def exT : Pf → Nat → List Tm → Ex → Ex
  | .close n, k, c, e => if closesI c n.mul = true then e.put k c else (e.put k c).bad k
  | .tight n a, k, c, e => if (factI n c && (tiF n c).2) = true then exT a (k + 1) (c ++ [(tiF n c).1]) (e.put k c) else (e.put k c).bad k
  | .split n a b, k, c, e => if splitI n c = true then exT b (k + 1 + a.size) (c ++ [oppI n.term]) (exT a (k + 1) (c ++ [n.term]) (e.put k c)) else (e.put k c).bad k
end Go.Al
namespace Go.Al
open Go.Proofs
set_option linter.unusedVariables false
set_option linter.unusedSimpArgs false
set_option maxRecDepth 10000
abbrev xH (p : List Nd) (e : Ex) : List (Nat × B) := [(0, .box [.d (nds p), .mp 1, .d (.int .i64 e.flaw)]), (1, iMap (cm e.es))]
end Go.Al
