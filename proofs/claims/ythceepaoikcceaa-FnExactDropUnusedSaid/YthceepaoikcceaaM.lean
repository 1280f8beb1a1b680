/- Nodes whose facts stand elsewhere; both sides. -/
import Derived.Test.YthceepaoikcceaaJ
namespace Go.Al
open Go.Proofs
set_option linter.unusedVariables false
set_option linter.unusedSimpArgs false
set_option maxRecDepth 10000
abbrev mSq (k : Int) (s : Sq) : Sq := ⟨markL mT nT k s.facts, ⟨s.goal.c, markL mI oneI (k + cnt nT s.facts) s.goal.xs⟩⟩
abbrev nrows (p : List Nd) : B := .row false 5 (p.map Nd.cells)
theorem c1024 {L : Nat} (h1 : 4096 ≤ L) (h2 : L ≤ 1073741824) {c : Int} {xs : List Int} {k : Int} (hk0 : 0 ≤ k) (hk1 : k + xs.length ≤ 1073741824) : MC Try.prog L 59 [aTm' ⟨c, markL mI oneI k xs⟩, eI k] [] (Plain (eI (k + xs.length))) := by
 refine MC.alone ?_ rfl
 have hσ := SGok (nt := 12) h1 (Nat.le_trans h2 (by decide))
 refine MC.body hσ Try.func59 (by kernel_rfl) rfl rfl (Nat.le_of_ble_eq_true rfl) (fun hF => ?_)
 refine jsr ?_
 refine AOps.heap (HS.box hσ rfl rfl rfl rfl rfl rfl rfl) rfl ?_
 refine jst hσ rfl rfl rfl rfl rfl ?_
 refine jn ?_
 refine jsr ?_
 refine jst hσ rfl rfl rfl rfl rfl ?_
 refine jst hσ rfl rfl rfl rfl rfl ?_
 refine jst hσ rfl rfl rfl rfl rfl ?_
 refine jf [(7, _), (6, _), (4, _), (0, _), (1, _)] ⟨rfl, rfl, rfl, rfl, rfl, trivial⟩ ?_
 refine AOps.lone hσ rfl rfl rfl rfl ((c21 (xs := markL mI oneI k xs) (k := k) h1 h2 hk0 (by omega)).plain (congrArg eI (held_marks xs k))) (VAs.self rfl) rfl rfl rfl rfl rfl (B0 := 9000) rfl ?_
 refine jst hσ rfl rfl rfl rfl rfl ?_
 refine jf [(1, _), (4, _), (0, _)] ⟨rfl, rfl, rfl, trivial⟩ ?_
 refine jn ?_
 refine AWP.seq ?_
 refine jsr ?_
 refine jst hσ rfl rfl rfl rfl rfl ?_
 refine jst hσ rfl rfl rfl rfl rfl ?_
 refine jn ?_
 refine AWP.cond hσ rfl rfl (fun hc10 => ?_) (fun hc10 => ?_)
 ·
  skip
  exact absurd (of_decide_eq_true hc10) (by omega)
 ·
  skip
  refine AWP.skip ?_
  refine jsr ?_
  refine jst hσ rfl rfl rfl rfl rfl ?_
  refine jst hσ rfl rfl rfl rfl rfl ?_
  refine jf [(4, _), (9, _), (1, _), (0, _)] ⟨rfl, rfl, rfl, rfl, trivial⟩ ?_
  refine jn ?_
  refine AWP.ret ?_
  refine ⟨.inl rfl, _, Ent.refl, _, rfl, ?_⟩
  rfl
theorem c1008 {L : Nat} (h1 : 4096 ≤ L) (h2 : L ≤ 1073741824) {s : Sq} {k : Int} (hk0 : 0 ≤ k) (hk1 : k + cnt nT s.facts + s.goal.xs.length ≤ 1073741824) : MC Try.prog L 19 [aSq (mSq k s), eI k] [] (Plain (eI (k + cnt nT s.facts + s.goal.xs.length))) := by
 refine MC.alone ?_ rfl
 have hσ := SGok (nt := 18) h1 (Nat.le_trans h2 (by decide))
 refine MC.body hσ Try.func19 (by kernel_rfl) rfl rfl (Nat.le_of_ble_eq_true rfl) (fun hF => ?_)
 refine jsr ?_
 refine AOps.heap (HS.box hσ rfl rfl rfl rfl rfl rfl rfl) rfl ?_
 refine jst hσ rfl rfl rfl rfl rfl ?_
 refine jn ?_
 refine jsr ?_
 refine jst hσ rfl rfl rfl rfl rfl ?_
 refine jst hσ rfl rfl rfl rfl rfl ?_
 refine jst hσ rfl rfl rfl rfl rfl ?_
 refine jf [(7, _), (6, _), (4, _), (2, _), (0, _), (1, _)] ⟨rfl, rfl, rfl, rfl, rfl, rfl, trivial⟩ ?_
 refine AOps.lone hσ rfl rfl rfl rfl (c41 (ts := s.facts) (k := k) h1 h2 hk0 (by omega)) (VAs.self rfl) rfl rfl rfl rfl rfl (B0 := 9000) rfl ?_
 refine jst hσ rfl rfl rfl rfl rfl ?_
 refine jf [(1, _), (4, _), (2, _), (0, _)] ⟨rfl, rfl, rfl, rfl, trivial⟩ ?_
 refine jn ?_
 refine AWP.seq ?_
 refine jsr ?_
 refine jst hσ rfl rfl rfl rfl rfl ?_
 refine jst hσ rfl rfl rfl rfl rfl ?_
 refine jn ?_
 refine AWP.cond hσ rfl rfl (fun hc10 => ?_) (fun hc10 => ?_)
 ·
  skip
  exact absurd (of_decide_eq_true hc10) (by omega)
 ·
  skip
  refine AWP.skip ?_
  refine jsr ?_
  refine jst hσ rfl rfl rfl rfl rfl ?_
  refine jst hσ rfl rfl rfl rfl rfl ?_
  refine jst hσ rfl rfl rfl rfl rfl ?_
  refine jf [(13, _), (12, _), (9, _), (1, _), (4, _), (2, _), (0, _)] ⟨rfl, rfl, rfl, rfl, rfl, rfl, rfl, trivial⟩ ?_
  refine AOps.lone hσ rfl rfl rfl rfl (c1024 (c := s.goal.c) (xs := s.goal.xs) (k := k + cnt nT s.facts) h1 h2 (by omega) (by omega)) (VAs.self rfl) rfl rfl rfl rfl rfl (B0 := 15000) rfl ?_
  refine jst hσ rfl rfl rfl rfl rfl ?_
  refine jf [(1, _), (9, _), (4, _), (2, _), (0, _)] ⟨rfl, rfl, rfl, rfl, rfl, trivial⟩ ?_
  refine jn ?_
  refine AWP.seq ?_
  refine jsr ?_
  refine jst hσ rfl rfl rfl rfl rfl ?_
  refine jst hσ rfl rfl rfl rfl rfl ?_
  refine jn ?_
  refine AWP.cond hσ rfl rfl (fun hc16 => ?_) (fun hc16 => ?_)
  ·
   skip
   exact absurd (of_decide_eq_true hc16) (by omega)
  ·
   skip
   refine AWP.skip ?_
   refine jsr ?_
   refine jst hσ rfl rfl rfl rfl rfl ?_
   refine jst hσ rfl rfl rfl rfl rfl ?_
   refine jf [(4, _), (15, _), (1, _), (9, _), (2, _), (0, _)] ⟨rfl, rfl, rfl, rfl, rfl, rfl, trivial⟩ ?_
   refine jn ?_
   refine AWP.ret ?_
   refine ⟨.inl rfl, _, Ent.refl, _, rfl, ?_⟩
   rfl
theorem c1009 {L : Nat} (h1 : 4096 ≤ L) (h2 : L ≤ 1073741824) {ts : List Nd} {k : Int} (hk0 : 0 ≤ k) (hk1 : k + cnt nN ts ≤ 1073741824) : MC Try.prog L 20 [ands (markL mN nN k ts), eI k] [] (Plain (eI (k + cnt nN ts))) := by
 refine MC.alone ?_ rfl
 have hσ := SGok (nt := 60) h1 (Nat.le_trans h2 (by decide))
 refine MC.body hσ Try.func20 (by kernel_rfl) rfl rfl (Nat.le_of_ble_eq_true rfl) (fun hF => ?_)
 have hlm := markL_length (f := mN) (sz := nN) (k := k) (l := ts)
 have hl : (markL mN nN k ts).length ≤ L := by simpa [As.fact, A.fact, M.fact, D.fact, Ds.fact] using hF.1.1
 refine jsr ?_
 refine jst hσ rfl rfl rfl rfl rfl ?_
 refine jn ?_
 refine AWP.seq ?_
 refine jsr ?_
 refine jst hσ rfl rfl rfl rfl rfl ?_
 refine jn ?_
 refine AWP.block ?_
 refine AWP.loopP (X := Nat) (fun i => ⟨[(0, ands (markL mN nN k ts)), (1, eI (k + cnt nN (ts.take i))), (5, eI i)], []⟩) (fun i => i ≤ ts.length) (fun i => ts.length - i) 0 (Ent.env ⟨rfl, by simp [numbered, lk_cons, cnt], rfl, trivial⟩) ?_ (fun i hi => ?_)
 ·
  exact Nat.zero_le _
 refine AWP.seq ?_
 refine jsr ?_
 refine jst hσ rfl rfl rfl rfl rfl ?_
 refine jst hσ rfl rfl rfl rfl rfl ?_
 first | refine AOps.step (Val.lenD hσ rfl rfl rfl rfl rfl rfl rfl rfl) rfl rfl rfl ?_ | refine jst hσ rfl rfl rfl rfl rfl ?_ | refine AOps.step (Val.vif hσ rfl rfl (by first | omega | (simp at *; omega))) rfl rfl rfl ?_
 refine jst hσ rfl rfl rfl rfl rfl ?_
 refine jf [(9, _), (0, _), (1, _), (5, _)] ⟨rfl, rfl, rfl, rfl, trivial⟩ ?_
 refine jn ?_
 refine AWP.cond hσ rfl rfl (fun hc9 => ?_) (fun hc9 => ?_)
 ·
  skip
  refine AWP.skip ?_
  refine AWP.seq ?_
  refine AWP.block ?_
  refine AWP.seq ?_
  refine jsr ?_
  have hil : i < ts.length := by have h9 := of_decide_eq_true hc9; omega
  have hg := markL_getD (f := mN) (sz := nN) (k := k) hil
  have hcs := cnt_succ (sz := nN) hil
  have hcl := cnt_le (sz := nN) (l := ts) (i := i + 1)
  rw [← getD_lt hil] at hcs
  obtain ⟨t, ht⟩ : ∃ t, t = ts.getD i default := ⟨_, rfl⟩
  rw [← ht] at hg hcs
  simp only [nN] at hcs
  obtain ⟨K, hK⟩ : ∃ K, K = k + (cnt nN (ts.take i) : Int) := ⟨_, rfl⟩
  rw [← hK] at hg ⊢
  refine jst hσ rfl rfl rfl rfl rfl ?_
  refine jst hσ rfl rfl rfl rfl rfl ?_
  refine AOps.step ((Val.indexN hσ rfl rfl rfl rfl rfl rfl rfl rfl (idxN (by omega))).cast (v' := ptr (Nd.cells (mN K t))) (by rw [hg])) rfl rfl rfl ?_
  refine jst hσ rfl rfl rfl rfl rfl ?_
  refine jst hσ rfl rfl rfl rfl rfl ?_
  refine jst hσ rfl rfl rfl rfl rfl ?_
  refine jst hσ rfl rfl rfl rfl rfl ?_
  refine jf [(18, _), (9, _), (0, _), (1, _), (5, _)] ⟨rfl, rfl, rfl, rfl, rfl, trivial⟩ ?_
  refine jn ?_
  refine AWP.cond hσ rfl rfl (fun hc18 => ?_) (fun hc18 => ?_)
  ·
   skip
   exact absurd hc18 (by simp)
  ·
   skip
   refine AWP.skip ?_
   refine jsr ?_
   refine jst hσ rfl rfl rfl rfl rfl ?_
   first | refine AOps.step (Val.fits64 hσ rfl rfl (by first | omega | (simp at *; omega)) (by first | omega | (simp at *; omega))) rfl rfl rfl ?_ | refine AOps.step (Val.vif hσ rfl rfl (by first | omega | (simp at *; omega))) rfl rfl rfl ?_
   refine jst hσ rfl rfl rfl rfl rfl ?_
   refine jf [(1, _), (18, _), (9, _), (0, _), (5, _)] ⟨rfl, rfl, rfl, rfl, rfl, trivial⟩ ?_
   refine jn ?_
   refine AWP.seq ?_
   refine jsr ?_
   refine jst hσ rfl rfl rfl rfl rfl ?_
   refine jst hσ rfl rfl rfl rfl rfl ?_
   refine AOps.step ((Val.indexN hσ rfl rfl rfl rfl rfl rfl rfl rfl (idxN (by omega))).cast (v' := ptr (Nd.cells (mN K t))) (by rw [hg])) rfl rfl rfl ?_
   refine jst hσ rfl rfl rfl rfl rfl ?_
   refine jst hσ rfl rfl rfl rfl rfl ?_
   refine jst hσ rfl rfl rfl rfl rfl ?_
   refine jst hσ rfl rfl rfl rfl rfl ?_
   refine jf [(27, _), (1, _), (18, _), (9, _), (0, _), (5, _)] ⟨rfl, rfl, rfl, rfl, rfl, rfl, trivial⟩ ?_
   refine jn ?_
   refine AWP.cond hσ rfl rfl (fun hc27 => ?_) (fun hc27 => ?_)
   ·
    skip
    exact absurd hc27 (by simp)
   ·
    skip
    refine AWP.skip ?_
    refine jsr ?_
    refine jst hσ rfl rfl rfl rfl rfl ?_
    first | refine AOps.step (Val.fits64 hσ rfl rfl (by first | omega | (simp at *; omega)) (by first | omega | (simp at *; omega))) rfl rfl rfl ?_ | refine AOps.step (Val.vif hσ rfl rfl (by first | omega | (simp at *; omega))) rfl rfl rfl ?_
    refine jst hσ rfl rfl rfl rfl rfl ?_
    refine jf [(1, _), (27, _), (18, _), (9, _), (0, _), (5, _)] ⟨rfl, rfl, rfl, rfl, rfl, rfl, trivial⟩ ?_
    refine jn ?_
    refine AWP.seq ?_
    refine jsr ?_
    refine jst hσ rfl rfl rfl rfl rfl ?_
    refine jst hσ rfl rfl rfl rfl rfl ?_
    refine AOps.step ((Val.indexN hσ rfl rfl rfl rfl rfl rfl rfl rfl (idxN (by omega))).cast (v' := ptr (Nd.cells (mN K t))) (by rw [hg])) rfl rfl rfl ?_
    refine jst hσ rfl rfl rfl rfl rfl ?_
    refine jst hσ rfl rfl rfl rfl rfl ?_
    refine jst hσ rfl rfl rfl rfl rfl ?_
    refine jst hσ rfl rfl rfl rfl rfl ?_
    refine jst hσ rfl rfl rfl rfl rfl ?_
    refine jf [(37, _), (1, _), (27, _), (18, _), (9, _), (0, _), (5, _)] ⟨rfl, rfl, rfl, rfl, rfl, rfl, rfl, trivial⟩ ?_
    refine jn ?_
    refine AWP.cond hσ rfl rfl (fun hc37 => ?_) (fun hc37 => ?_)
    ·
     skip
     exact absurd hc37 (by simp)
    ·
     skip
     refine AWP.skip ?_
     refine jsr ?_
     refine jst hσ rfl rfl rfl rfl rfl ?_
     first | refine AOps.step (Val.fits64 hσ rfl rfl (by first | omega | (simp at *; omega)) (by first | omega | (simp at *; omega))) rfl rfl rfl ?_ | refine AOps.step (Val.vif hσ rfl rfl (by first | omega | (simp at *; omega))) rfl rfl rfl ?_
     refine jst hσ rfl rfl rfl rfl rfl ?_
     refine jf [(1, _), (37, _), (27, _), (18, _), (9, _), (0, _), (5, _)] ⟨rfl, rfl, rfl, rfl, rfl, rfl, rfl, trivial⟩ ?_
     refine jn ?_
     refine jsr ?_
     refine jst hσ rfl rfl rfl rfl rfl ?_
     refine jst hσ rfl rfl rfl rfl rfl ?_
     refine AOps.step ((Val.indexN hσ rfl rfl rfl rfl rfl rfl rfl rfl (idxN (by omega))).cast (v' := ptr (Nd.cells (mN K t))) (by rw [hg])) rfl rfl rfl ?_
     refine jst hσ rfl rfl rfl rfl rfl ?_
     refine jst hσ rfl rfl rfl rfl rfl ?_
     refine jst hσ rfl rfl rfl rfl rfl ?_
     refine jst hσ rfl rfl rfl rfl rfl ?_
     refine jf [(46, _), (45, _), (1, _), (37, _), (27, _), (18, _), (9, _), (0, _), (5, _)] ⟨rfl, rfl, rfl, rfl, rfl, rfl, rfl, rfl, rfl, trivial⟩ ?_
     refine AOps.lone hσ rfl rfl rfl rfl ((c21 (xs := markL mI oneI (K + 1 + 1 + 1) t.term.xs) (k := K + 1 + 1 + 1) h1 h2 (by omega) (by omega)).plain (congrArg eI (held_marks t.term.xs (K + 1 + 1 + 1)))) (VAs.self rfl) rfl rfl rfl rfl rfl (B0 := 48000) rfl ?_
     refine jst hσ rfl rfl rfl rfl rfl ?_
     refine jf [(1, _), (37, _), (27, _), (18, _), (9, _), (0, _), (5, _)] ⟨rfl, rfl, rfl, rfl, rfl, rfl, rfl, trivial⟩ ?_
     refine jn ?_
     refine AWP.seq ?_
     refine jsr ?_
     refine jst hσ rfl rfl rfl rfl rfl ?_
     refine jst hσ rfl rfl rfl rfl rfl ?_
     refine jn ?_
     refine AWP.cond hσ rfl rfl (fun hc49 => ?_) (fun hc49 => ?_)
     ·
      skip
      exact absurd (of_decide_eq_true hc49) (by omega)
     ·
      skip
      refine AWP.skip ?_
      refine jsr ?_
      refine jst hσ rfl rfl rfl rfl rfl ?_
      refine jst hσ rfl rfl rfl rfl rfl ?_
      refine AOps.step ((Val.indexN hσ rfl rfl rfl rfl rfl rfl rfl rfl (idxN (by omega))).cast (v' := ptr (Nd.cells (mN K t))) (by rw [hg])) rfl rfl rfl ?_
      refine jst hσ rfl rfl rfl rfl rfl ?_
      refine jst hσ rfl rfl rfl rfl rfl ?_
      refine jst hσ rfl rfl rfl rfl rfl ?_
      refine jf [(55, _), (54, _), (49, _), (48, _), (1, _), (37, _), (27, _), (18, _), (9, _), (0, _), (5, _)] ⟨rfl, rfl, rfl, rfl, rfl, rfl, rfl, rfl, rfl, rfl, rfl, trivial⟩ ?_
      refine AOps.lone hσ rfl rfl rfl rfl ((c21 (xs := markL mI oneI (K + 1 + 1 + 1 + t.term.xs.length) t.mul) (k := K + 1 + 1 + 1 + t.term.xs.length) h1 h2 (by omega) (by omega)).plain (congrArg eI (held_marks t.mul (K + 1 + 1 + 1 + t.term.xs.length)))) (VAs.self rfl) rfl rfl rfl rfl rfl (B0 := 57000) rfl ?_
      refine jst hσ rfl rfl rfl rfl rfl ?_
      refine jf [(1, _), (49, _), (48, _), (37, _), (27, _), (18, _), (9, _), (0, _), (5, _)] ⟨rfl, rfl, rfl, rfl, rfl, rfl, rfl, rfl, rfl, trivial⟩ ?_
      refine jn ?_
      refine jsr ?_
      refine jst hσ rfl rfl rfl rfl rfl ?_
      refine jst hσ rfl rfl rfl rfl rfl ?_
      refine jn ?_
      refine AWP.cond hσ rfl rfl (fun hc58 => ?_) (fun hc58 => ?_)
      ·
       skip
       exact absurd (of_decide_eq_true hc58) (by omega)
      ·
       skip
       refine AWP.skip ?_
       refine AWP.region ?_
       refine jst hσ rfl rfl rfl rfl rfl ?_
       first | refine AOps.step (Val.fits64 hσ rfl rfl (by first | omega | (simp at *; omega)) (by first | omega | (simp at *; omega))) rfl rfl rfl ?_ | refine AOps.step (Val.vif hσ rfl rfl (by first | omega | (simp at *; omega))) rfl rfl rfl ?_
       refine jst hσ rfl rfl rfl rfl rfl ?_
       refine jf [(5, _), (58, _), (57, _), (1, _), (49, _), (48, _), (37, _), (27, _), (18, _), (9, _), (0, _)] ⟨rfl, rfl, rfl, rfl, rfl, rfl, rfl, rfl, rfl, rfl, rfl, trivial⟩ ?_
       refine jn ?_
       refine ⟨i + 1, Ent.env ⟨rfl, ?_, rfl, trivial⟩, by omega, by omega⟩
       rw [hcs]
       exact congrArg (fun z => some (eI z)) (by omega)
 ·
  skip
  refine AWP.exit ?_
  refine jsr ?_
  refine jst hσ rfl rfl rfl rfl rfl ?_
  refine jst hσ rfl rfl rfl rfl rfl ?_
  refine jn ?_
  refine AWP.ret ?_
  refine ⟨.inl rfl, _, Ent.refl, _, rfl, ?_⟩
  have h9 := of_decide_eq_false hc9
  obtain rfl : i = ts.length := by omega
  rw [List.take_length]
theorem c1053 {L : Nat} (h1 : 4096 ≤ L) (h2 : L ≤ 1073741824) {n : Nd} : MC Try.prog L 118 [ptr n.cells] [] (Plain (aNd n)) := by
 refine MC.data ?_
 have hσ := SGok (nt := 21) h1 (Nat.le_trans h2 (by decide))
 refine MC.body hσ Try.func118 (by kernel_rfl) rfl rfl (Nat.le_of_ble_eq_true rfl) (fun hF => ?_)
 refine jsr ?_
 refine AOps.heap (HS.alloc hσ rfl rfl rfl rfl rfl) rfl ?_
 refine jn ?_
 refine AWP.seq ?_
 refine AWP.drawR hσ _ [_, _, _, _, _, _, _, _, _, _, _, _, _, _, _, _, _, _, _] [⟨[], 0, 2, none⟩, ⟨[0], 0, 2, none⟩, ⟨[0, 1], 0, 2, none⟩, ⟨[0, 1, 2], 0, 2, none⟩, ⟨[], 0, 2, none⟩, ⟨[4], 0, 2, none⟩, ⟨[4, 5], 0, 2, none⟩, ⟨[4, 5, 6], 0, 2, none⟩, ⟨[], 0, 0, none⟩, ⟨[8], 0, 0, none⟩, ⟨[8, 9], 0, 0, none⟩, ⟨[8, 9, 10], 0, 0, some 0⟩, ⟨[], 0, 1, none⟩, ⟨[12], 0, 1, none⟩, ⟨[12, 13], 0, 1, none⟩, ⟨[12, 13, 14], 0, 1, none⟩, ⟨[8, 9, 10, 11, 12, 13, 14, 15], 0, 0, some 1⟩, ⟨[0, 1, 2, 3, 4, 5, 6, 7, 8, 9, 10, 11, 12, 13, 14, 15, 16], 2, 2, none⟩, ⟨[0, 1, 2, 3, 4, 5, 6, 7, 8, 9, 10, 11, 12, 13, 14, 15, 16, 17], 0, 0, some 2⟩] [11, 16, 18] [_, _, _, _] rfl rfl (by decide) (by decide) (by kernel_rfl) (And.intro (And.intro (Val.of hσ rfl rfl) (And.intro (Val.of hσ rfl rfl) (Val.of hσ rfl rfl))) (And.intro (And.intro (Val.of hσ rfl rfl) (And.intro (Val.of hσ rfl rfl) (Val.of hσ rfl rfl))) (And.intro (And.intro (Val.of hσ rfl rfl) (And.intro (Val.of hσ rfl rfl) (Val.of hσ rfl rfl))) (And.intro (And.intro (Val.of hσ rfl rfl) (And.intro (Val.of hσ rfl rfl) (Val.of hσ rfl rfl))) (And.intro (And.intro (Val.of hσ rfl rfl) (And.intro (Val.of hσ rfl rfl) (Val.of hσ rfl rfl))) (And.intro (And.intro (Val.of hσ rfl rfl) (And.intro (Val.of hσ rfl rfl) (Val.of hσ rfl rfl))) (And.intro (And.intro (Val.of hσ rfl rfl) (And.intro (Val.of hσ rfl rfl) (Val.of hσ rfl rfl))) (And.intro (And.intro (Val.of hσ rfl rfl) (And.intro (Val.of hσ rfl rfl) (Val.of hσ rfl rfl))) (And.intro (Val.of hσ rfl rfl) (And.intro (Val.of hσ rfl rfl) (And.intro (Val.of hσ rfl rfl) (And.intro (Eff.plainD hσ (B0 := 15000) rfl rfl rfl rfl (c143 (t := n.term) h1 h2) (.cons (.c (.sub rfl)) .nil) rfl rfl rfl rfl rfl) (And.intro (And.intro (Val.of hσ rfl rfl) (Val.of hσ rfl rfl)) (And.intro (And.intro (Val.of hσ rfl rfl) (Val.of hσ rfl rfl)) (And.intro (And.intro (Val.of hσ rfl rfl) (Val.of hσ rfl rfl)) (And.intro (And.intro (Val.of hσ rfl rfl) (Val.of hσ rfl rfl)) (And.intro (Eff.plainD hσ (B0 := 20000) rfl rfl rfl rfl (c151d (xs := n.mul) h1 h2) (VAs.self rfl) rfl rfl rfl rfl rfl) (And.intro (Val.of hσ rfl rfl) (And.intro (Eff.storeBox hσ rfl rfl rfl rfl rfl rfl rfl rfl rfl rfl rfl rfl rfl) trivial))))))))))))))))))) ?_
 refine AWP.forget [(2, _)] ⟨rfl, trivial⟩ ?_
 apply AWP.norm
 ·
  repeat' (first | exact jq0 rfl | apply jq1 rfl | exact jq2 rfl | exact jq9 rfl | apply jq3 rfl | exact jq4 rfl | apply jq5 rfl | exact jq6 rfl | exact jq7 rfl | exact jq8)
 refine AWP.ret ?_
 refine ⟨.inl rfl, _, Ent.refl, _, rfl, ?_⟩
 exact .v (.agg (VMs.self rfl))
theorem c1042 {L : Nat} (h1 : 4096 ≤ L) (h2 : L ≤ 1073741824) {ts : List Nd} : MC Try.prog L 89 [ands ts] [] (Rows (.c (.rs 0 0 ts.length)) [nrows ts]) := by
 refine MC.rows ?_
 have hσ := SGok (nt := 20) h1 (Nat.le_trans h2 (by decide))
 refine MC.body hσ Try.func89 (by kernel_rfl) rfl rfl (Nat.le_of_ble_eq_true rfl) (fun hF => ?_)
 have hl : ts.length ≤ L := by simpa [As.fact, A.fact, M.fact, D.fact, Ds.fact] using hF.1.1
 refine jsr ?_
 refine jst hσ rfl rfl rfl rfl rfl ?_
 refine jn ?_
 refine jsr ?_
 refine AOps.heap (HS.lit hσ rfl rfl rfl) rfl ?_
 refine jst hσ rfl rfl rfl rfl rfl ?_
 refine jn ?_
 refine AWP.seq ?_
 refine jsr ?_
 refine jst hσ rfl rfl rfl rfl rfl ?_
 refine jn ?_
 refine AWP.block ?_
 refine AWP.loopP (X := Nat) (fun i => ⟨[(0, ands ts), (3, .c (.rs 900 0 i)), (4, eI i)], [(900, nrows (ts.take i))]⟩) (fun i => i ≤ ts.length) (fun i => ts.length - i) 0 ((Ent.unown 5 rfl).trans ((Ent.sub2 5 900 rfl rfl).trans (Ent.to ⟨rfl, rfl, rfl, trivial⟩ rfl))) ?_ (fun i hi => ?_)
 ·
  exact Nat.zero_le _
 refine AWP.seq ?_
 refine jsr ?_
 refine jst hσ rfl rfl rfl rfl rfl ?_
 refine jst hσ rfl rfl rfl rfl rfl ?_
 first | refine AOps.step (Val.lenD hσ rfl rfl rfl rfl rfl rfl rfl rfl) rfl rfl rfl ?_ | refine jst hσ rfl rfl rfl rfl rfl ?_ | refine AOps.step (Val.vif hσ rfl rfl (by first | omega | (simp at *; omega))) rfl rfl rfl ?_
 refine jst hσ rfl rfl rfl rfl rfl ?_
 refine jf [(9, _), (0, _), (3, _), (4, _)] ⟨rfl, rfl, rfl, rfl, trivial⟩ ?_
 refine jn ?_
 refine AWP.cond hσ rfl rfl (fun hc9 => ?_) (fun hc9 => ?_)
 ·
  try simp only [List.length_map, beq_iff_eq, decide_eq_true_eq, decide_eq_false_iff_not, Bool.not_eq_true', Bool.not_eq_false', Bool.not_true, Bool.not_false, Int.not_lt, Int.not_le] at hc9
  refine AWP.skip ?_
  refine AWP.seq ?_
  refine AWP.block ?_
  refine AWP.region ?_
  refine jst hσ rfl rfl rfl rfl rfl ?_
  refine jst hσ rfl rfl rfl rfl rfl ?_
  refine jst hσ rfl rfl rfl rfl rfl ?_
  first | refine AOps.step (Val.indexD hσ rfl rfl rfl rfl rfl rfl rfl rfl (by first | omega | (simp at *; omega)) (idx_get (by first | omega | (simp at *; omega)) (by first | omega | (simp at *; omega)))) rfl rfl rfl ?_ | refine AOps.step (Val.vif hσ rfl rfl (by first | omega | (simp at *; omega))) rfl rfl rfl ?_
  refine jf [(15, _), (12, _), (9, _), (0, _), (3, _), (4, _)] ⟨rfl, rfl, rfl, rfl, rfl, rfl, trivial⟩ ?_
  refine AOps.plainD hσ rfl rfl rfl rfl (c1053 h1 h2) (VAs.self rfl) rfl rfl rfl rfl (B0 := 17000) rfl rfl ?_
  refine jf [(16, _), (12, _), (9, _), (0, _), (3, _), (4, _)] ⟨rfl, rfl, rfl, rfl, rfl, rfl, trivial⟩ ?_
  refine AOps.heap (HS.litD hσ rfl rfl rfl rfl rfl rfl rfl rfl rfl rfl rfl) rfl ?_
  refine jf [(17, _), (12, _), (9, _), (0, _), (3, _), (4, _)] ⟨rfl, rfl, rfl, rfl, rfl, rfl, trivial⟩ ?_
  refine AOps.heap (HS.appCopy (own := false) (zs := (ts.take (i + 1)).map Nd.cells) (n := i + 1) hσ rfl rfl rfl rfl rfl rfl rfl rfl rfl rfl rfl rfl rfl rfl rfl rfl (.row rfl (by simp; omega)) (.whole rfl rfl (.inr ⟨rfl, rfl⟩)) (by simp) rfl (by simp; omega) (by simp; omega) (by rw [List.take_succ_eq_append_getElem (by omega), List.map_append, Int.toNat_natCast, getD_lt (by omega)]; rfl) (by simp; omega)) rfl ?_
  refine jst hσ rfl rfl rfl rfl rfl ?_
  refine jf [(3, _), (9, _), (0, _), (4, _)] ⟨rfl, rfl, rfl, rfl, trivial⟩ ?_
  refine jn ?_
  refine AWP.region ?_
  refine jst hσ rfl rfl rfl rfl rfl ?_
  first | refine AOps.step (Val.fits64 hσ rfl rfl (by first | omega | (simp at *; omega)) (by first | omega | (simp at *; omega))) rfl rfl rfl ?_ | refine AOps.step (Val.vif hσ rfl rfl (by first | omega | (simp at *; omega))) rfl rfl rfl ?_
  refine jst hσ rfl rfl rfl rfl rfl ?_
  refine jf [(4, _), (3, _), (9, _), (0, _)] ⟨rfl, rfl, rfl, rfl, trivial⟩ ?_
  refine jn ?_
  refine ⟨i + 1, ((Ent.sel [18] (e' := [(0, _), (3, _), (4, _)]) rfl rfl ⟨rfl, rfl, rfl, trivial⟩ rfl).trans (Ent.sub2 18 900 rfl rfl)), by omega, by omega⟩
 ·
  try simp only [List.length_map, beq_iff_eq, decide_eq_true_eq, decide_eq_false_iff_not, Bool.not_eq_true', Bool.not_eq_false', Bool.not_true, Bool.not_false, Int.not_lt, Int.not_le] at hc9
  refine AWP.exit ?_
  refine jsr ?_
  refine jst hσ rfl rfl rfl rfl rfl ?_
  refine jst hσ rfl rfl rfl rfl rfl ?_
  refine jn ?_
  refine AWP.ret ?_
  obtain rfl : i = ts.length := by omega
  rw [List.take_length]
  refine ⟨.inl rfl, _, Ent.refl, _, rfl, [900], by decide, rfl, rfl, rfl⟩
end Go.Al
namespace Go.Al
open Go.Proofs
set_option linter.unusedVariables false
set_option linter.unusedSimpArgs false
set_option maxRecDepth 10000
def blend (f : Nd → Nd) (i : Nat) (p : List Nd) : List Nd := (p.take i).map f ++ p.drop i
theorem blend_length {f : Nd → Nd} {p : List Nd} {i : Nat} (h : i ≤ p.length) : (blend f i p).length = p.length := by
  simp [blend]; omega
theorem blend_get {f : Nd → Nd} {p : List Nd} {i : Nat} (h : i < p.length) : (blend f i p)[i]? = some (p.getD i default) := by
  unfold blend
  rw [List.getElem?_append_right (by simp; omega), List.length_map, List.length_take, Nat.min_eq_left (by omega), Nat.sub_self, List.getElem?_drop, getD_lt h]
  simp [h]
theorem blend_succ {f : Nd → Nd} {p : List Nd} {i : Nat} (h : i < p.length) : (blend f i p).set i (f (p.getD i default)) = blend f (i + 1) p := by
  unfold blend
  rw [List.set_append_right _ _ (by simp; omega), List.length_map, List.length_take, Nat.min_eq_left (by omega), Nat.sub_self, List.take_succ_eq_append_getElem h, List.map_append, List.drop_eq_getElem_cons h, getD_lt h, List.append_assoc]
  rfl
theorem blend_all {f : Nd → Nd} {p : List Nd} : blend f p.length p = p.map f := by simp [blend]
theorem c1041 {L : Nat} (h1 : 4096 ≤ L) (h2 : L ≤ 1073741824) {ts : List Nd} : MC Try.prog L 85 [ands ts] [] (Rows (.c (.rs 0 0 ts.length)) [ndrow ts]) := by
 refine MC.rows ?_
 have hσ := SGok (nt := 26) h1 (Nat.le_trans h2 (by decide))
 refine MC.body hσ Try.func85 (by kernel_rfl) rfl rfl (Nat.le_of_ble_eq_true rfl) (fun hF => ?_)
 have hl : ts.length ≤ L := by simpa [As.fact, A.fact, M.fact, D.fact, Ds.fact] using hF.1.1
 refine jsr ?_
 refine jst hσ rfl rfl rfl rfl rfl ?_
 refine jn ?_
 refine jsr ?_
 refine jst hσ rfl rfl rfl rfl rfl ?_
 refine jn ?_
 refine AWP.seq ?_
 refine jsr ?_
 refine jst hσ rfl rfl rfl rfl rfl ?_
 first | refine AOps.step (Val.lenD hσ rfl rfl rfl rfl rfl rfl rfl rfl) rfl rfl rfl ?_ | refine jst hσ rfl rfl rfl rfl rfl ?_ | refine AOps.step (Val.vif hσ rfl rfl (by first | omega | (simp at *; omega))) rfl rfl rfl ?_
 refine jst hσ rfl rfl rfl rfl rfl ?_
 refine jn ?_
 refine AWP.block ?_
 refine AWP.loopP (X := Nat) (fun i => ⟨[(3, .c (.rs 900 0 i)), (6, ands ts), (7, eI ts.length), (8, eI i)], [(900, ndrow (ts.take i))]⟩) (fun i => i ≤ ts.length) (fun i => ts.length - i) 0 ((Ent.nameNil 3 900 5 true rfl rfl).trans (Ent.to ⟨rfl, rfl, rfl, rfl, trivial⟩ rfl)) ?_ (fun i hi => ?_)
 ·
  exact Nat.zero_le _
 refine jsr ?_
 refine jst hσ rfl rfl rfl rfl rfl ?_
 refine jn ?_
 refine AWP.seq ?_
 refine AWP.cond hσ rfl rfl (fun hc9 => ?_) (fun hc9 => ?_)
 ·
  try simp only [List.length_map, beq_iff_eq, decide_eq_true_eq, decide_eq_false_iff_not, Bool.not_eq_true', Bool.not_eq_false', Bool.not_true, Bool.not_false, Int.not_lt, Int.not_le] at hc9
  refine AWP.skip ?_
  refine AWP.seq ?_
  refine AWP.block ?_
  refine jsr ?_
  first | refine AOps.step (Val.indexN hσ rfl rfl rfl rfl rfl rfl rfl rfl (idxN (by first | omega | (simp at *; omega)))) rfl rfl rfl ?_ | refine AOps.step (Val.indexD hσ rfl rfl rfl rfl rfl rfl rfl rfl (by first | omega | (simp at *; omega)) (idx_get (by first | omega | (simp at *; omega)) (by first | omega | (simp at *; omega)))) rfl rfl rfl ?_ | refine AOps.step (Val.vif hσ rfl rfl (by first | omega | (simp at *; omega))) rfl rfl rfl ?_
  refine jst hσ rfl rfl rfl rfl rfl ?_
  refine jf [(11, _), (9, _), (3, _), (6, _), (7, _), (8, _)] ⟨rfl, rfl, rfl, rfl, rfl, rfl, trivial⟩ ?_
  refine AOps.heap (HS.alloc hσ rfl rfl rfl rfl rfl) rfl ?_
  apply AOps.norm
  ·
   repeat' (first | exact jq0 rfl | apply jq1 rfl | exact jq2 rfl | exact jq9 rfl | apply jq3 rfl | exact jq4 rfl | apply jq5 rfl | exact jq6 rfl | exact jq7 rfl | exact jq8)
  refine AOps.heap (HS.storeBox hσ rfl rfl rfl rfl rfl rfl rfl rfl rfl rfl rfl) rfl ?_
  apply AOps.norm
  ·
   repeat' (first | exact jq0 rfl | apply jq1 rfl | exact jq2 rfl | exact jq9 rfl | apply jq3 rfl | exact jq4 rfl | apply jq5 rfl | exact jq6 rfl | exact jq7 rfl | exact jq8)
  refine jn ?_
  refine AWP.seq ?_
  refine AWP.drawR hσ _ [_, _, _, _, _, _, _, _, _, _] [⟨[], 0, 0, none⟩, ⟨[0], 0, 0, none⟩, ⟨[0, 1], 0, 0, some 0⟩, ⟨[], 0, 1, none⟩, ⟨[3], 0, 1, none⟩, ⟨[0, 1, 2, 3, 4], 0, 0, some 1⟩, ⟨[0, 1, 2, 3, 4], 1, 2, none⟩, ⟨[0, 1, 2, 3, 4, 5, 6], 0, 0, some 2⟩, ⟨[0, 1, 2, 3, 4, 5, 6, 7], 3, 3, none⟩, ⟨[0, 1, 2, 3, 4, 5, 6, 7, 8], 0, 0, some 3⟩] [2, 5, 7, 9] [_, _, _, _, _] rfl rfl (by decide) (by decide) (by kernel_rfl) (And.intro (Val.of hσ rfl rfl) (And.intro (Val.of hσ rfl rfl) (And.intro (Eff.rows hσ (B0 := 15000) rfl rfl rfl rfl (c148o (t := (ts.getD i default).term) h1 h2) (VAs.self rfl) rfl rfl rfl rfl rfl) (And.intro (And.intro (Val.of hσ rfl rfl) (Val.of hσ rfl rfl)) (And.intro (And.intro (Val.of hσ rfl rfl) (Val.of hσ rfl rfl)) (And.intro (Eff.rows hσ (B0 := 18000) rfl rfl rfl rfl (c158 (xs := (ts.getD i default).mul) h1 h2) (VAs.self rfl) rfl rfl rfl rfl rfl) (And.intro (And.intro (Val.of hσ rfl rfl) (Val.of hσ rfl rfl)) (And.intro (Eff.storeBox hσ rfl rfl rfl rfl rfl rfl rfl rfl rfl rfl rfl rfl rfl) (And.intro (Val.of hσ rfl rfl) (And.intro (Eff.storeBox hσ rfl rfl rfl rfl rfl rfl rfl rfl rfl rfl rfl rfl rfl) trivial)))))))))) ?_
  refine AWP.forget [(5, _), (11, _), (9, _), (3, _), (6, _), (7, _), (8, _)] ⟨rfl, rfl, rfl, rfl, rfl, rfl, rfl, trivial⟩ ?_
  apply AWP.norm
  ·
   repeat' (first | exact jq0 rfl | apply jq1 rfl | exact jq2 rfl | exact jq9 rfl | apply jq3 rfl | exact jq4 rfl | apply jq5 rfl | exact jq6 rfl | exact jq7 rfl | exact jq8)
  refine AWP.region ?_
  refine jst hσ rfl rfl rfl rfl rfl ?_
  refine jst hσ rfl rfl rfl rfl rfl ?_
  refine AOps.to (Ent.sel [900, 15000, 18000] (e' := [(21, _), (20, _), (6, _), (7, _), (8, _)]) rfl rfl ⟨rfl, rfl, rfl, rfl, rfl, trivial⟩ rfl) ?_
  refine AOps.heap (HS.litAbs (ds := Nd.cells (ts.getD i default)) hσ rfl rfl rfl rfl rfl rfl rfl rfl rfl rfl (.d rfl (.d rfl (.d rfl (.rs rfl (List.length_map _).symm (.rs rfl (List.length_map _).symm .nil))))) rfl rfl rfl) rfl ?_
  apply AOps.norm
  ·
   repeat' (first | exact jq0 rfl | apply jq1 rfl | exact jq2 rfl | exact jq9 rfl | apply jq3 rfl | exact jq4 rfl | apply jq5 rfl | exact jq6 rfl | exact jq7 rfl | exact jq8)
  apply AOps.norm
  ·
   repeat' (first | exact jq0 rfl | apply jq1 rfl | exact jq2 rfl | exact jq9 rfl | apply jq3 rfl | exact jq4 rfl | apply jq5 rfl | exact jq6 rfl | exact jq7 rfl | exact jq8)
  refine jf [(22, _), (20, _), (6, _), (7, _), (8, _)] ⟨rfl, rfl, rfl, rfl, rfl, trivial⟩ ?_
  refine AOps.heap (HS.appMove (zs := (ts.take (i + 1)).map Nd.cells) (n := i + 1) hσ rfl rfl rfl rfl rfl rfl rfl rfl rfl rfl rfl rfl rfl rfl rfl rfl (.row rfl (by simp; omega)) rfl rfl (by decide) rfl (by simp; omega) (by simp; omega) (by rw [List.take_succ_eq_append_getElem (by omega), List.map_append, getD_lt (by omega)]; rfl) (by simp; omega)) rfl ?_
  apply AOps.norm
  ·
   repeat' (first | exact jq0 rfl | apply jq1 rfl | exact jq2 rfl | exact jq9 rfl | apply jq3 rfl | exact jq4 rfl | apply jq5 rfl | exact jq6 rfl | exact jq7 rfl | exact jq8)
  apply AOps.norm
  ·
   repeat' (first | exact jq0 rfl | apply jq1 rfl | exact jq2 rfl | exact jq9 rfl | apply jq3 rfl | exact jq4 rfl | apply jq5 rfl | exact jq6 rfl | exact jq7 rfl | exact jq8)
  refine jst hσ rfl rfl rfl rfl rfl ?_
  refine jf [(3, _), (6, _), (7, _), (8, _)] ⟨rfl, rfl, rfl, rfl, trivial⟩ ?_
  refine jn ?_
  refine AWP.region ?_
  first | refine AOps.step (Val.fits64 hσ rfl rfl (by first | omega | (simp at *; omega)) (by first | omega | (simp at *; omega))) rfl rfl rfl ?_ | refine AOps.step (Val.vif hσ rfl rfl (by first | omega | (simp at *; omega))) rfl rfl rfl ?_
  refine jst hσ rfl rfl rfl rfl rfl ?_
  refine jn ?_
  refine ⟨i + 1, ((Ent.sel [23] (e' := [(3, _), (6, _), (7, _), (8, _)]) rfl rfl ⟨rfl, rfl, rfl, rfl, trivial⟩ rfl).trans (Ent.sub2 23 900 rfl rfl)), by omega, by omega⟩
 ·
  try simp only [List.length_map, beq_iff_eq, decide_eq_true_eq, decide_eq_false_iff_not, Bool.not_eq_true', Bool.not_eq_false', Bool.not_true, Bool.not_false, Int.not_lt, Int.not_le] at hc9
  refine AWP.exit ?_
  refine jsr ?_
  refine jst hσ rfl rfl rfl rfl rfl ?_
  refine jst hσ rfl rfl rfl rfl rfl ?_
  refine jn ?_
  refine AWP.ret ?_
  obtain rfl : i = ts.length := by omega
  rw [List.take_length]
  refine ⟨.inl rfl, _, Ent.refl, _, rfl, [900], by decide, rfl, rfl, rfl⟩
theorem c1020r {L : Nat} (h1 : 4096 ≤ L) (h2 : L ≤ 1073741824) {p : List Nd} {to : List Int} {base : Int} (hp : ∀ x ∈ p, MvOk (cntS to base) (toS to base) x) (hb : 0 ≤ base ∧ base ≤ 1000) (ht : to.length ≤ 1000) : MC Try.prog L 49 [ands p, aints to, eI base] [] (Rows (.c (.rs 0 0 p.length)) [nrows (p.map (mvN (cntS to base) (toS to base)))]) := by
 refine MC.rows ?_
 have hσ := SGok (nt := 118) h1 (Nat.le_trans h2 (by decide))
 refine MC.body hσ Try.func49 (by kernel_rfl) rfl rfl (Nat.le_of_ble_eq_true rfl) (fun hF => ?_)
 have hl : p.length ≤ L := by simpa [As.fact, A.fact, M.fact, D.fact, Ds.fact] using hF.1.1
 refine jsr ?_
 refine jst hσ rfl rfl rfl rfl rfl ?_
 refine jn ?_
 refine jsr ?_
 refine jst hσ rfl rfl rfl rfl rfl ?_
 refine jf [(13, _), (6, _), (1, _), (2, _)] ⟨rfl, rfl, rfl, rfl, trivial⟩ ?_
 refine AOps.rowsD hσ (B0 := 15000) rfl rfl rfl rfl (c1042 (ts := p) h1 h2) (VAs.self rfl) rfl rfl rfl rfl rfl ?_
 refine jst hσ rfl rfl rfl rfl rfl ?_
 refine jf [(7, _), (6, _), (1, _), (2, _)] ⟨rfl, rfl, rfl, rfl, trivial⟩ ?_
 refine jn ?_
 refine jsr ?_
 refine jst hσ rfl rfl rfl rfl rfl ?_
 first | refine AOps.step (Val.lenD hσ rfl rfl rfl rfl rfl rfl rfl rfl) rfl rfl rfl ?_ | refine jst hσ rfl rfl rfl rfl rfl ?_ | refine AOps.step (Val.vif hσ rfl rfl (by first | omega | (simp at *; omega))) rfl rfl rfl ?_
 refine jst hσ rfl rfl rfl rfl rfl ?_
 refine jf [(8, _), (7, _), (6, _), (1, _), (2, _)] ⟨rfl, rfl, rfl, rfl, rfl, trivial⟩ ?_
 refine jn ?_
 refine AWP.seq ?_
 refine jsr ?_
 refine jst hσ rfl rfl rfl rfl rfl ?_
 refine jn ?_
 refine AWP.block ?_
 refine AWP.loopP (X := Nat) (fun i => ⟨[(1, aints to), (2, eI base), (7, .c (.rs 900 0 p.length)), (8, eI to.length), (9, eI i)], [(900, nrows (blend (mvN (cntS to base) (toS to base)) i p))]⟩) (fun i => i ≤ p.length) (fun i => p.length - i) 0 ((Ent.sub2 15000 900 rfl rfl).trans (Ent.to ⟨rfl, rfl, rfl, rfl, rfl, trivial⟩ rfl)) ?_ (fun i hi => ?_)
 ·
  exact Nat.zero_le _
 refine AWP.seq ?_
 refine jsr ?_
 refine jst hσ rfl rfl rfl rfl rfl ?_
 refine jst hσ rfl rfl rfl rfl rfl ?_
 first | refine AOps.step (Val.lenD hσ rfl rfl rfl rfl rfl rfl rfl rfl) rfl rfl rfl ?_ | refine jst hσ rfl rfl rfl rfl rfl ?_ | refine AOps.step (Val.vif hσ rfl rfl (by first | omega | (simp at *; omega))) rfl rfl rfl ?_
 refine jst hσ rfl rfl rfl rfl rfl ?_
 refine jf [(20, _), (1, _), (2, _), (7, _), (8, _), (9, _)] ⟨rfl, rfl, rfl, rfl, rfl, rfl, trivial⟩ ?_
 refine jn ?_
 refine AWP.cond hσ rfl rfl (fun hc20 => ?_) (fun hc20 => ?_)
 ·
  try simp only [List.length_map, beq_iff_eq, decide_eq_true_eq, decide_eq_false_iff_not, Bool.not_eq_true', Bool.not_eq_false', Bool.not_true, Bool.not_false, Int.not_lt, Int.not_le] at hc20
  refine AWP.skip ?_
  refine AWP.seq ?_
  refine AWP.block ?_
  refine AWP.seq ?_
  refine jsr ?_
  have hil : i < p.length := by omega
  obtain ⟨x, hx⟩ : ∃ x, x = p.getD i default := ⟨_, rfl⟩
  have hm := hp x (by rw [hx, getD_lt hil]; exact List.getElem_mem hil)
  obtain ⟨R, hR⟩ : ∃ R, R = (blend (mvN (cntS to base) (toS to base)) i p).map Nd.cells := ⟨_, rfl⟩
  have hRl : i < R.length := by rw [hR, List.length_map, blend_length (by omega)]; exact hil
  have hRi : R[i]? = some x.cells := by rw [hR, List.getElem?_map, blend_get hil, hx]; rfl
  have hRj : R[0 + ((i : Nat) : Int).toNat]? = some x.cells := by rw [Nat.zero_add]; exact hRi
  have hRs : ∀ c, (R.set i c)[0 + ((i : Nat) : Int).toNat]? = some c := fun c => by simp [hRl]
  have hRn : ∀ y, mvN (cntS to base) (toS to base) x = y → R.set i y.cells = (blend (mvN (cntS to base) (toS to base)) (i + 1) p).map Nd.cells := fun y hy => by rw [hR, ← blend_succ hil, ← hx, hy, List.map_set]
  have e0 : nrows (blend (mvN (cntS to base) (toS to base)) i p) = .row false 5 R := by rw [hR]
  rw [e0]
  refine jst hσ rfl rfl rfl rfl rfl ?_
  refine jst hσ rfl rfl rfl rfl rfl ?_
  first | refine AOps.step (Val.indexN hσ rfl rfl rfl rfl rfl rfl rfl rfl (idxN (by first | omega | (simp at *; omega)))) rfl rfl rfl ?_ | refine AOps.step (Val.indexD hσ rfl rfl rfl rfl rfl rfl rfl rfl (by first | omega | (simp at *; omega)) (idx_get (by first | omega | (simp at *; omega)) (by first | omega | (simp at *; omega)))) rfl rfl rfl ?_ | refine AOps.step (Val.vif hσ rfl rfl (by first | omega | (simp at *; omega))) rfl rfl rfl ?_
  refine jst hσ rfl rfl rfl rfl rfl ?_
  refine AOps.step (Val.loadRow hσ (ex := x.cells) rfl rfl rfl rfl hRj rfl) rfl rfl rfl ?_
  refine jst hσ rfl rfl rfl rfl rfl ?_
  refine jf [(28, _), (20, _), (1, _), (2, _), (7, _), (8, _), (9, _)] ⟨rfl, rfl, rfl, rfl, rfl, rfl, rfl, trivial⟩ ?_
  refine jn ?_
  refine AWP.cond hσ rfl rfl (fun hc28 => ?_) (fun hc28 => ?_)
  ·
   try simp only [List.length_map, beq_iff_eq, decide_eq_true_eq, decide_eq_false_iff_not, Bool.not_eq_true', Bool.not_eq_false', Bool.not_true, Bool.not_false, Int.not_lt, Int.not_le] at hc28
   refine jsr ?_
   have hf := hm.fact hc28
   refine jst hσ rfl rfl rfl rfl rfl ?_
   refine jst hσ rfl rfl rfl rfl rfl ?_
   first | refine AOps.step (Val.indexN hσ rfl rfl rfl rfl rfl rfl rfl rfl (idxN (by first | omega | (simp at *; omega)))) rfl rfl rfl ?_ | refine AOps.step (Val.indexD hσ rfl rfl rfl rfl rfl rfl rfl rfl (by first | omega | (simp at *; omega)) (idx_get (by first | omega | (simp at *; omega)) (by first | omega | (simp at *; omega)))) rfl rfl rfl ?_ | refine AOps.step (Val.vif hσ rfl rfl (by first | omega | (simp at *; omega))) rfl rfl rfl ?_
   refine jst hσ rfl rfl rfl rfl rfl ?_
   refine AOps.step (Val.loadRow hσ (ex := x.cells) rfl rfl rfl rfl hRj rfl) rfl rfl rfl ?_
   refine jst hσ rfl rfl rfl rfl rfl ?_
   refine jst hσ rfl rfl rfl rfl rfl ?_
   refine jf [(35, _), (28, _), (20, _), (1, _), (2, _), (7, _), (8, _), (9, _)] ⟨rfl, rfl, rfl, rfl, rfl, rfl, rfl, rfl, trivial⟩ ?_
   refine jn ?_
   refine AWP.cond hσ rfl rfl (fun hc35 => ?_) (fun hc35 => ?_)
   ·
    try simp only [List.length_map, beq_iff_eq, decide_eq_true_eq, decide_eq_false_iff_not, Bool.not_eq_true', Bool.not_eq_false', Bool.not_true, Bool.not_false, Int.not_lt, Int.not_le] at hc35
    refine AWP.region ?_
    refine jst hσ rfl rfl rfl rfl rfl ?_
    refine jst hσ rfl rfl rfl rfl rfl ?_
    refine jst hσ rfl rfl rfl rfl rfl ?_
    refine jst hσ rfl rfl rfl rfl rfl ?_
    refine jst hσ rfl rfl rfl rfl rfl ?_
    first | refine AOps.step (Val.indexN hσ rfl rfl rfl rfl rfl rfl rfl rfl (idxN (by first | omega | (simp at *; omega)))) rfl rfl rfl ?_ | refine AOps.step (Val.indexD hσ rfl rfl rfl rfl rfl rfl rfl rfl (by first | omega | (simp at *; omega)) (idx_get (by first | omega | (simp at *; omega)) (by first | omega | (simp at *; omega)))) rfl rfl rfl ?_ | refine AOps.step (Val.vif hσ rfl rfl (by first | omega | (simp at *; omega))) rfl rfl rfl ?_
    refine jst hσ rfl rfl rfl rfl rfl ?_
    refine AOps.step (Val.loadRow hσ (ex := x.cells) rfl rfl rfl rfl hRj rfl) rfl rfl rfl ?_
    first | refine AOps.step (Val.indexN hσ rfl rfl rfl rfl rfl rfl rfl rfl (idxN (by first | omega | (simp at *; omega)))) rfl rfl rfl ?_ | refine AOps.step (Val.indexD hσ rfl rfl rfl rfl rfl rfl rfl rfl (by first | omega | (simp at *; omega)) (idx_get (by first | omega | (simp at *; omega)) (by first | omega | (simp at *; omega)))) rfl rfl rfl ?_ | refine AOps.step (Val.vif hσ rfl rfl (by first | omega | (simp at *; omega))) rfl rfl rfl ?_
    refine jst hσ rfl rfl rfl rfl rfl ?_
    first | refine AOps.step (Val.indexN hσ rfl rfl rfl rfl rfl rfl rfl rfl (idxN (by first | omega | (simp at *; omega)))) rfl rfl rfl ?_ | refine AOps.step (Val.indexD hσ rfl rfl rfl rfl rfl rfl rfl rfl (by first | omega | (simp at *; omega)) (idx_get (by first | omega | (simp at *; omega)) (by first | omega | (simp at *; omega)))) rfl rfl rfl ?_ | refine AOps.step (Val.vif hσ rfl rfl (by first | omega | (simp at *; omega))) rfl rfl rfl ?_
    refine jst hσ rfl rfl rfl rfl rfl ?_
    refine jf [(47, _), (45, _), (35, _), (28, _), (20, _), (1, _), (2, _), (7, _), (8, _), (9, _)] ⟨rfl, rfl, rfl, rfl, rfl, rfl, rfl, rfl, rfl, rfl, trivial⟩ ?_
    refine AOps.heap (HS.storeRow (ex := x.cells) (xs' := R.set i [.int .i64 x.kind, .int .i64 (to.getD x.fact.toNat default), .int .i64 x.term.c, ints x.term.xs, ints (x.mul)]) hσ rfl rfl rfl rfl rfl rfl rfl rfl rfl rfl rfl rfl rfl rfl hRj (by simp)) rfl ?_
    refine jf [(35, _), (28, _), (20, _), (1, _), (2, _), (7, _), (8, _), (9, _)] ⟨rfl, rfl, rfl, rfl, rfl, rfl, rfl, rfl, trivial⟩ ?_
    refine jn ?_
    refine AWP.seq ?_
    refine jsr ?_
    refine jst hσ rfl rfl rfl rfl rfl ?_
    refine jst hσ rfl rfl rfl rfl rfl ?_
    first | refine AOps.step (Val.indexN hσ rfl rfl rfl rfl rfl rfl rfl rfl (idxN (by first | omega | (simp at *; omega)))) rfl rfl rfl ?_ | refine AOps.step (Val.indexD hσ rfl rfl rfl rfl rfl rfl rfl rfl (by first | omega | (simp at *; omega)) (idx_get (by first | omega | (simp at *; omega)) (by first | omega | (simp at *; omega)))) rfl rfl rfl ?_ | refine AOps.step (Val.vif hσ rfl rfl (by first | omega | (simp at *; omega))) rfl rfl rfl ?_
    refine jst hσ rfl rfl rfl rfl rfl ?_
    first | refine AOps.step (Val.loadRow hσ rfl rfl rfl rfl (hRs _) rfl) rfl rfl rfl ?_ | refine AOps.step (Val.loadRow hσ (ex := x.cells) rfl rfl rfl rfl hRj rfl) rfl rfl rfl ?_
    refine jst hσ rfl rfl rfl rfl rfl ?_
    refine jf [(64, _), (35, _), (28, _), (20, _), (1, _), (2, _), (7, _), (8, _), (9, _)] ⟨rfl, rfl, rfl, rfl, rfl, rfl, rfl, rfl, rfl, trivial⟩ ?_
    refine jn ?_
    refine AWP.cond hσ rfl rfl (fun hc64 => ?_) (fun hc64 => ?_)
    ·
     try simp only [List.length_map, beq_iff_eq, decide_eq_true_eq, decide_eq_false_iff_not, Bool.not_eq_true', Bool.not_eq_false', Bool.not_true, Bool.not_false, Int.not_lt, Int.not_le] at hc64
     refine AWP.exit ?_
     refine AWP.region ?_
     refine jst hσ rfl rfl rfl rfl rfl ?_
     first | refine AOps.step (Val.fits64 hσ rfl rfl (by first | omega | (simp at *; omega)) (by first | omega | (simp at *; omega))) rfl rfl rfl ?_ | refine AOps.step (Val.vif hσ rfl rfl (by first | omega | (simp at *; omega))) rfl rfl rfl ?_
     refine jst hσ rfl rfl rfl rfl rfl ?_
     refine jf [(9, _), (64, _), (35, _), (28, _), (20, _), (1, _), (2, _), (7, _), (8, _)] ⟨rfl, rfl, rfl, rfl, rfl, rfl, rfl, rfl, rfl, trivial⟩ ?_
     refine jn ?_
     refine ⟨i + 1, Ent.to ⟨rfl, rfl, rfl, rfl, rfl, trivial⟩ (congrArg (fun z => [(900, B.row false 5 z)]) (hRn { x with fact := to.getD x.fact.toNat default } (by unfold mvN; rw [if_pos hc28]; unfold toS; rw [if_neg (by omega)]))), by omega, by omega⟩
    ·
     try simp only [List.length_map, beq_iff_eq, decide_eq_true_eq, decide_eq_false_iff_not, Bool.not_eq_true', Bool.not_eq_false', Bool.not_true, Bool.not_false, Int.not_lt, Int.not_le] at hc64
     first | (exfalso; omega) | (simp at hc64; omega)
   ·
    try simp only [List.length_map, beq_iff_eq, decide_eq_true_eq, decide_eq_false_iff_not, Bool.not_eq_true', Bool.not_eq_false', Bool.not_true, Bool.not_false, Int.not_lt, Int.not_le] at hc35
    refine AWP.region ?_
    refine jst hσ rfl rfl rfl rfl rfl ?_
    refine jst hσ rfl rfl rfl rfl rfl ?_
    first | refine AOps.step (Val.indexN hσ rfl rfl rfl rfl rfl rfl rfl rfl (idxN (by first | omega | (simp at *; omega)))) rfl rfl rfl ?_ | refine AOps.step (Val.indexD hσ rfl rfl rfl rfl rfl rfl rfl rfl (by first | omega | (simp at *; omega)) (idx_get (by first | omega | (simp at *; omega)) (by first | omega | (simp at *; omega)))) rfl rfl rfl ?_ | refine AOps.step (Val.vif hσ rfl rfl (by first | omega | (simp at *; omega))) rfl rfl rfl ?_
    refine jst hσ rfl rfl rfl rfl rfl ?_
    refine AOps.step (Val.loadRow hσ (ex := x.cells) rfl rfl rfl rfl hRj rfl) rfl rfl rfl ?_
    refine jst hσ rfl rfl rfl rfl rfl ?_
    refine jst hσ rfl rfl rfl rfl rfl ?_
    first | refine AOps.step (Val.fits64 hσ rfl rfl (by first | omega | (simp at *; omega)) (by first | omega | (simp at *; omega))) rfl rfl rfl ?_ | refine AOps.step (Val.vif hσ rfl rfl (by first | omega | (simp at *; omega))) rfl rfl rfl ?_
    first | refine AOps.step (Val.fits64 hσ rfl rfl (by first | omega | (simp at *; omega)) (by first | omega | (simp at *; omega))) rfl rfl rfl ?_ | refine AOps.step (Val.vif hσ rfl rfl (by first | omega | (simp at *; omega))) rfl rfl rfl ?_
    first | refine AOps.step (Val.indexN hσ rfl rfl rfl rfl rfl rfl rfl rfl (idxN (by first | omega | (simp at *; omega)))) rfl rfl rfl ?_ | refine AOps.step (Val.indexD hσ rfl rfl rfl rfl rfl rfl rfl rfl (by first | omega | (simp at *; omega)) (idx_get (by first | omega | (simp at *; omega)) (by first | omega | (simp at *; omega)))) rfl rfl rfl ?_ | refine AOps.step (Val.vif hσ rfl rfl (by first | omega | (simp at *; omega))) rfl rfl rfl ?_
    refine jst hσ rfl rfl rfl rfl rfl ?_
    refine jf [(58, _), (56, _), (35, _), (28, _), (20, _), (1, _), (2, _), (7, _), (8, _), (9, _)] ⟨rfl, rfl, rfl, rfl, rfl, rfl, rfl, rfl, rfl, rfl, trivial⟩ ?_
    refine AOps.heap (HS.storeRow (ex := x.cells) (xs' := R.set i [.int .i64 x.kind, .int .i64 (x.fact + (base - to.length)), .int .i64 x.term.c, ints x.term.xs, ints (x.mul)]) hσ rfl rfl rfl rfl rfl rfl rfl rfl rfl rfl rfl rfl rfl rfl hRj (by simp)) rfl ?_
    refine jf [(35, _), (28, _), (20, _), (1, _), (2, _), (7, _), (8, _), (9, _)] ⟨rfl, rfl, rfl, rfl, rfl, rfl, rfl, rfl, trivial⟩ ?_
    refine jn ?_
    refine AWP.seq ?_
    refine jsr ?_
    refine jst hσ rfl rfl rfl rfl rfl ?_
    refine jst hσ rfl rfl rfl rfl rfl ?_
    first | refine AOps.step (Val.indexN hσ rfl rfl rfl rfl rfl rfl rfl rfl (idxN (by first | omega | (simp at *; omega)))) rfl rfl rfl ?_ | refine AOps.step (Val.indexD hσ rfl rfl rfl rfl rfl rfl rfl rfl (by first | omega | (simp at *; omega)) (idx_get (by first | omega | (simp at *; omega)) (by first | omega | (simp at *; omega)))) rfl rfl rfl ?_ | refine AOps.step (Val.vif hσ rfl rfl (by first | omega | (simp at *; omega))) rfl rfl rfl ?_
    refine jst hσ rfl rfl rfl rfl rfl ?_
    first | refine AOps.step (Val.loadRow hσ rfl rfl rfl rfl (hRs _) rfl) rfl rfl rfl ?_ | refine AOps.step (Val.loadRow hσ (ex := x.cells) rfl rfl rfl rfl hRj rfl) rfl rfl rfl ?_
    refine jst hσ rfl rfl rfl rfl rfl ?_
    refine jf [(64, _), (35, _), (28, _), (20, _), (1, _), (2, _), (7, _), (8, _), (9, _)] ⟨rfl, rfl, rfl, rfl, rfl, rfl, rfl, rfl, rfl, trivial⟩ ?_
    refine jn ?_
    refine AWP.cond hσ rfl rfl (fun hc64 => ?_) (fun hc64 => ?_)
    ·
     try simp only [List.length_map, beq_iff_eq, decide_eq_true_eq, decide_eq_false_iff_not, Bool.not_eq_true', Bool.not_eq_false', Bool.not_true, Bool.not_false, Int.not_lt, Int.not_le] at hc64
     refine AWP.exit ?_
     refine AWP.region ?_
     refine jst hσ rfl rfl rfl rfl rfl ?_
     first | refine AOps.step (Val.fits64 hσ rfl rfl (by first | omega | (simp at *; omega)) (by first | omega | (simp at *; omega))) rfl rfl rfl ?_ | refine AOps.step (Val.vif hσ rfl rfl (by first | omega | (simp at *; omega))) rfl rfl rfl ?_
     refine jst hσ rfl rfl rfl rfl rfl ?_
     refine jf [(9, _), (64, _), (35, _), (28, _), (20, _), (1, _), (2, _), (7, _), (8, _)] ⟨rfl, rfl, rfl, rfl, rfl, rfl, rfl, rfl, rfl, trivial⟩ ?_
     refine jn ?_
     refine ⟨i + 1, Ent.to ⟨rfl, rfl, rfl, rfl, rfl, trivial⟩ (congrArg (fun z => [(900, B.row false 5 z)]) (hRn { x with fact := x.fact + (base - to.length) } (by unfold mvN; rw [if_pos hc28]; unfold toS; rw [if_pos (by omega)]))), by omega, by omega⟩
    ·
     try simp only [List.length_map, beq_iff_eq, decide_eq_true_eq, decide_eq_false_iff_not, Bool.not_eq_true', Bool.not_eq_false', Bool.not_true, Bool.not_false, Int.not_lt, Int.not_le] at hc64
     first | (exfalso; omega) | (simp at hc64; omega)
  ·
   try simp only [List.length_map, beq_iff_eq, decide_eq_true_eq, decide_eq_false_iff_not, Bool.not_eq_true', Bool.not_eq_false', Bool.not_true, Bool.not_false, Int.not_lt, Int.not_le] at hc28
   refine AWP.skip ?_
   refine AWP.seq ?_
   refine jsr ?_
   refine jst hσ rfl rfl rfl rfl rfl ?_
   refine jst hσ rfl rfl rfl rfl rfl ?_
   first | refine AOps.step (Val.indexN hσ rfl rfl rfl rfl rfl rfl rfl rfl (idxN (by first | omega | (simp at *; omega)))) rfl rfl rfl ?_ | refine AOps.step (Val.indexD hσ rfl rfl rfl rfl rfl rfl rfl rfl (by first | omega | (simp at *; omega)) (idx_get (by first | omega | (simp at *; omega)) (by first | omega | (simp at *; omega)))) rfl rfl rfl ?_ | refine AOps.step (Val.vif hσ rfl rfl (by first | omega | (simp at *; omega))) rfl rfl rfl ?_
   refine jst hσ rfl rfl rfl rfl rfl ?_
   first | refine AOps.step (Val.loadRow hσ rfl rfl rfl rfl (hRs _) rfl) rfl rfl rfl ?_ | refine AOps.step (Val.loadRow hσ (ex := x.cells) rfl rfl rfl rfl hRj rfl) rfl rfl rfl ?_
   refine jst hσ rfl rfl rfl rfl rfl ?_
   refine jf [(64, _), (28, _), (20, _), (1, _), (2, _), (7, _), (8, _), (9, _)] ⟨rfl, rfl, rfl, rfl, rfl, rfl, rfl, rfl, trivial⟩ ?_
   refine jn ?_
   refine AWP.cond hσ rfl rfl (fun hc64 => ?_) (fun hc64 => ?_)
   ·
    try simp only [List.length_map, beq_iff_eq, decide_eq_true_eq, decide_eq_false_iff_not, Bool.not_eq_true', Bool.not_eq_false', Bool.not_true, Bool.not_false, Int.not_lt, Int.not_le] at hc64
    refine AWP.exit ?_
    refine AWP.region ?_
    refine jst hσ rfl rfl rfl rfl rfl ?_
    first | refine AOps.step (Val.fits64 hσ rfl rfl (by first | omega | (simp at *; omega)) (by first | omega | (simp at *; omega))) rfl rfl rfl ?_ | refine AOps.step (Val.vif hσ rfl rfl (by first | omega | (simp at *; omega))) rfl rfl rfl ?_
    refine jst hσ rfl rfl rfl rfl rfl ?_
    refine jf [(9, _), (64, _), (28, _), (20, _), (1, _), (2, _), (7, _), (8, _)] ⟨rfl, rfl, rfl, rfl, rfl, rfl, rfl, rfl, trivial⟩ ?_
    refine jn ?_
    have hk1 : ¬ x.kind = 1 := by intro h; simp [h] at hc64
    refine ⟨i + 1, Ent.to ⟨rfl, rfl, rfl, rfl, rfl, trivial⟩ (congrArg (fun z => [(900, B.row false 5 z)]) ((set_self' hRi).symm.trans (hRn x (by unfold mvN; rw [if_neg hc28, if_neg hk1])))), by omega, by omega⟩
   ·
    try simp only [List.length_map, beq_iff_eq, decide_eq_true_eq, decide_eq_false_iff_not, Bool.not_eq_true', Bool.not_eq_false', Bool.not_true, Bool.not_false, Int.not_lt, Int.not_le] at hc64
    refine AWP.skip ?_
    refine jsr ?_
    have hk1 : x.kind = 1 := by first | omega | (simp at hc64; omega)
    have hcb := hm.cntb hk1
    have hlm := hm.len hk1
    have hrg := hm.rng hk1
    have hCu : cntS to base x.mul.length = base + x.mul.length - to.length := rfl
    rw [hCu] at hcb
    refine jst hσ rfl rfl rfl rfl rfl ?_
    refine jst hσ rfl rfl rfl rfl rfl ?_
    first | refine AOps.step (Val.indexN hσ rfl rfl rfl rfl rfl rfl rfl rfl (idxN (by first | omega | (simp at *; omega)))) rfl rfl rfl ?_ | refine AOps.step (Val.indexD hσ rfl rfl rfl rfl rfl rfl rfl rfl (by first | omega | (simp at *; omega)) (idx_get (by first | omega | (simp at *; omega)) (by first | omega | (simp at *; omega)))) rfl rfl rfl ?_ | refine AOps.step (Val.vif hσ rfl rfl (by first | omega | (simp at *; omega))) rfl rfl rfl ?_
    refine jst hσ rfl rfl rfl rfl rfl ?_
    refine AOps.step (Val.loadRow hσ (ex := x.cells) rfl rfl rfl rfl hRj rfl) rfl rfl rfl ?_
    refine jst hσ rfl rfl rfl rfl rfl ?_
    refine jf [(10, _), (64, _), (28, _), (20, _), (1, _), (2, _), (7, _), (8, _), (9, _)] ⟨rfl, rfl, rfl, rfl, rfl, rfl, rfl, rfl, rfl, trivial⟩ ?_
    refine jn ?_
    refine jsr ?_
    refine jst hσ rfl rfl rfl rfl rfl ?_
    refine jst hσ rfl rfl rfl rfl rfl ?_
    first | refine AOps.step (Val.lenD hσ rfl rfl rfl rfl rfl rfl rfl rfl) rfl rfl rfl ?_ | refine jst hσ rfl rfl rfl rfl rfl ?_ | refine AOps.step (Val.vif hσ rfl rfl (by first | omega | (simp at *; omega))) rfl rfl rfl ?_
    first | refine AOps.step (Val.fits64 hσ rfl rfl (by first | omega | (simp at *; omega)) (by first | omega | (simp at *; omega))) rfl rfl rfl ?_ | refine AOps.step (Val.vif hσ rfl rfl (by first | omega | (simp at *; omega))) rfl rfl rfl ?_
    refine jst hσ rfl rfl rfl rfl rfl ?_
    first | refine AOps.step (Val.fits64 hσ rfl rfl (by first | omega | (simp at *; omega)) (by first | omega | (simp at *; omega))) rfl rfl rfl ?_ | refine AOps.step (Val.vif hσ rfl rfl (by first | omega | (simp at *; omega))) rfl rfl rfl ?_
    refine jf [(75, _), (10, _), (64, _), (28, _), (20, _), (1, _), (2, _), (7, _), (8, _), (9, _)] ⟨rfl, rfl, rfl, rfl, rfl, rfl, rfl, rfl, rfl, rfl, trivial⟩ ?_
    refine AOps.heap (HS.make hσ rfl rfl rfl rfl rfl rfl rfl rfl rfl (by first | omega | (simp at *; omega)) (by first | omega | (simp at *; omega)) (by first | omega | (simp at *; omega)) (by first | omega | (dsimp only; omega) | (simp at *; omega)) (by first | omega | (simp at *; omega)) rfl rfl rfl) rfl ?_
    refine jst hσ rfl rfl rfl rfl rfl ?_
    refine jf [(11, _), (10, _), (64, _), (28, _), (20, _), (1, _), (2, _), (7, _), (8, _), (9, _)] ⟨rfl, rfl, rfl, rfl, rfl, rfl, rfl, rfl, rfl, rfl, trivial⟩ ?_
    refine jn ?_
    refine AWP.seq ?_
    refine jsr ?_
    refine jst hσ rfl rfl rfl rfl rfl ?_
    refine jn ?_
    refine AWP.block ?_
    refine AWP.loopP (X := Nat) (fun j => ⟨[(1, aints to), (2, eI base), (7, .c (.rs 900 0 p.length)), (8, eI to.length), (9, eI i), (10, aints x.mul), (11, .c (.rs 901 0 (base + x.mul.length - to.length).toNat)), (12, eI j)], [(900, .row false 5 R), (901, nrow (scat (toS to base) x.mul (List.replicate (cntS to base x.mul.length).toNat 0) j))]⟩) (fun j => j ≤ x.mul.length) (fun j => x.mul.length - j) 0 (((Ent.sel [900, 76] (e' := [(1, _), (2, _), (7, _), (8, _), (9, _), (10, _), (11, _), (12, _)]) rfl rfl ⟨rfl, rfl, rfl, rfl, rfl, rfl, rfl, rfl, trivial⟩ rfl).trans (Ent.sub2 76 901 rfl rfl)).trans (Ent.to ⟨rfl, rfl, rfl, rfl, rfl, rfl, rfl, rfl, trivial⟩ (congrArg (fun z => [(900, B.row false 5 R), (901, B.row true 1 z)]) (List.map_replicate (f := fun n => [D.int .i64 n]) (a := (0 : Int)) (n := (base + x.mul.length - to.length).toNat)).symm))) ?_ (fun j hi => ?_)
    ·
     exact Nat.zero_le _
    refine AWP.seq ?_
    refine jsr ?_
    refine jst hσ rfl rfl rfl rfl rfl ?_
    refine jst hσ rfl rfl rfl rfl rfl ?_
    first | refine AOps.step (Val.lenD hσ rfl rfl rfl rfl rfl rfl rfl rfl) rfl rfl rfl ?_ | refine jst hσ rfl rfl rfl rfl rfl ?_ | refine AOps.step (Val.vif hσ rfl rfl (by first | omega | (simp at *; omega))) rfl rfl rfl ?_
    refine jst hσ rfl rfl rfl rfl rfl ?_
    refine jf [(80, _), (1, _), (2, _), (7, _), (8, _), (9, _), (10, _), (11, _), (12, _)] ⟨rfl, rfl, rfl, rfl, rfl, rfl, rfl, rfl, rfl, trivial⟩ ?_
    refine jn ?_
    refine AWP.cond hσ rfl rfl (fun hc80 => ?_) (fun hc80 => ?_)
    ·
     try simp only [List.length_map, beq_iff_eq, decide_eq_true_eq, decide_eq_false_iff_not, Bool.not_eq_true', Bool.not_eq_false', Bool.not_true, Bool.not_false, Int.not_lt, Int.not_le] at hc80
     refine AWP.skip ?_
     refine AWP.seq ?_
     refine AWP.block ?_
     refine jsr ?_
     have hjl : j < x.mul.length := by omega
     have hrj := hrg j hjl
     rw [hCu] at hrj
     obtain ⟨Z, hZ⟩ : ∃ Z, Z = scat (toS to base) x.mul (List.replicate (cntS to base x.mul.length).toNat 0) j := ⟨_, rfl⟩
     have hZl : Z.length = (base + x.mul.length - to.length).toNat := by rw [hZ, scat_length, List.length_replicate, hCu]
     rw [← hZ]
     refine jst hσ rfl rfl rfl rfl rfl ?_
     refine jst hσ rfl rfl rfl rfl rfl ?_
     refine jst hσ rfl rfl rfl rfl rfl ?_
     refine jf [(85, _), (80, _), (1, _), (2, _), (7, _), (8, _), (9, _), (10, _), (11, _), (12, _)] ⟨rfl, rfl, rfl, rfl, rfl, rfl, rfl, rfl, rfl, rfl, trivial⟩ ?_
     refine jn ?_
     refine AWP.cond hσ rfl rfl (fun hc85 => ?_) (fun hc85 => ?_)
     ·
      try simp only [List.length_map, beq_iff_eq, decide_eq_true_eq, decide_eq_false_iff_not, Bool.not_eq_true', Bool.not_eq_false', Bool.not_true, Bool.not_false, Int.not_lt, Int.not_le] at hc85
      refine AWP.region ?_
      refine jst hσ rfl rfl rfl rfl rfl ?_
      refine jst hσ rfl rfl rfl rfl rfl ?_
      refine jst hσ rfl rfl rfl rfl rfl ?_
      first | refine AOps.step (Val.fits64 hσ rfl rfl (by first | omega | (simp at *; omega)) (by first | omega | (simp at *; omega))) rfl rfl rfl ?_ | refine AOps.step (Val.vif hσ rfl rfl (by first | omega | (simp at *; omega))) rfl rfl rfl ?_
      refine jst hσ rfl rfl rfl rfl rfl ?_
      first | refine AOps.step (Val.fits64 hσ rfl rfl (by first | omega | (simp at *; omega)) (by first | omega | (simp at *; omega))) rfl rfl rfl ?_ | refine AOps.step (Val.vif hσ rfl rfl (by first | omega | (simp at *; omega))) rfl rfl rfl ?_
      refine jst hσ rfl rfl rfl rfl rfl ?_
      refine jst hσ rfl rfl rfl rfl rfl ?_
      first | refine AOps.step (Val.indexN hσ rfl rfl rfl rfl rfl rfl rfl rfl (idxN (by first | omega | (simp at *; omega)))) rfl rfl rfl ?_ | refine AOps.step (Val.indexD hσ rfl rfl rfl rfl rfl rfl rfl rfl (by first | omega | (simp at *; omega)) (idx_get (by first | omega | (simp at *; omega)) (by first | omega | (simp at *; omega)))) rfl rfl rfl ?_ | refine AOps.step (Val.vif hσ rfl rfl (by first | omega | (simp at *; omega))) rfl rfl rfl ?_
      refine jst hσ rfl rfl rfl rfl rfl ?_
      first | refine AOps.step (Val.indexN hσ rfl rfl rfl rfl rfl rfl rfl rfl (idxN (by first | omega | (simp at *; omega)))) rfl rfl rfl ?_ | refine AOps.step (Val.indexD hσ rfl rfl rfl rfl rfl rfl rfl rfl (by first | omega | (simp at *; omega)) (idx_get (by first | omega | (simp at *; omega)) (by first | omega | (simp at *; omega)))) rfl rfl rfl ?_ | refine AOps.step (Val.vif hσ rfl rfl (by first | omega | (simp at *; omega))) rfl rfl rfl ?_
      refine jf [(96, _), (95, _), (85, _), (80, _), (1, _), (2, _), (7, _), (8, _), (9, _), (10, _), (11, _), (12, _)] ⟨rfl, rfl, rfl, rfl, rfl, rfl, rfl, rfl, rfl, rfl, rfl, rfl, trivial⟩ ?_
      refine AOps.heap (HS.storeRow (ex := [.int .i64 (Z.getD ((j : Int) + base - to.length).toNat default)]) (xs' := (Z.set ((j : Int) + base - to.length).toNat (x.mul.getD j default)).map (fun n => [D.int .i64 n])) hσ rfl rfl rfl rfl rfl rfl rfl rfl rfl rfl rfl rfl rfl rfl (idx0 (by omega)) (by rw [Nat.zero_add, List.map_set]; rfl)) rfl ?_
      refine jf [(85, _), (80, _), (1, _), (2, _), (7, _), (8, _), (9, _), (10, _), (11, _), (12, _)] ⟨rfl, rfl, rfl, rfl, rfl, rfl, rfl, rfl, rfl, rfl, trivial⟩ ?_
      refine jn ?_
      refine AWP.region ?_
      refine jst hσ rfl rfl rfl rfl rfl ?_
      first | refine AOps.step (Val.fits64 hσ rfl rfl (by first | omega | (simp at *; omega)) (by first | omega | (simp at *; omega))) rfl rfl rfl ?_ | refine AOps.step (Val.vif hσ rfl rfl (by first | omega | (simp at *; omega))) rfl rfl rfl ?_
      refine jst hσ rfl rfl rfl rfl rfl ?_
      refine jf [(12, _), (85, _), (80, _), (1, _), (2, _), (7, _), (8, _), (9, _), (10, _), (11, _)] ⟨rfl, rfl, rfl, rfl, rfl, rfl, rfl, rfl, rfl, rfl, trivial⟩ ?_
      refine jn ?_
      refine ⟨j + 1, Ent.to ⟨rfl, rfl, rfl, rfl, rfl, rfl, rfl, rfl, trivial⟩ (congrArg (fun z => [(900, B.row false 5 R), (901, B.row true 1 (List.map (fun n => [D.int .i64 n]) z))]) (?_ : _ = scat (toS to base) x.mul (List.replicate (cntS to base x.mul.length).toNat 0) (j + 1))), by omega, by omega⟩
      have hT : toS to base j = (j : Int) + (base - to.length) := if_pos (by omega)
      show _ = if 0 ≤ toS to base j then _ else _
      rw [if_pos (by omega), ← hZ, hT, show (j : Int) + (base - to.length) = (j : Int) + base - to.length by omega]
     ·
      try simp only [List.length_map, beq_iff_eq, decide_eq_true_eq, decide_eq_false_iff_not, Bool.not_eq_true', Bool.not_eq_false', Bool.not_true, Bool.not_false, Int.not_lt, Int.not_le] at hc85
      refine jsr ?_
      refine jst hσ rfl rfl rfl rfl rfl ?_
      refine jst hσ rfl rfl rfl rfl rfl ?_
      first | refine AOps.step (Val.indexN hσ rfl rfl rfl rfl rfl rfl rfl rfl (idxN (by first | omega | (simp at *; omega)))) rfl rfl rfl ?_ | refine AOps.step (Val.indexD hσ rfl rfl rfl rfl rfl rfl rfl rfl (by first | omega | (simp at *; omega)) (idx_get (by first | omega | (simp at *; omega)) (by first | omega | (simp at *; omega)))) rfl rfl rfl ?_ | refine AOps.step (Val.vif hσ rfl rfl (by first | omega | (simp at *; omega))) rfl rfl rfl ?_
      refine jst hσ rfl rfl rfl rfl rfl ?_
      refine jst hσ rfl rfl rfl rfl rfl ?_
      refine jf [(101, _), (85, _), (80, _), (1, _), (2, _), (7, _), (8, _), (9, _), (10, _), (11, _), (12, _)] ⟨rfl, rfl, rfl, rfl, rfl, rfl, rfl, rfl, rfl, rfl, rfl, trivial⟩ ?_
      refine jn ?_
      refine AWP.cond hσ rfl rfl (fun hc101 => ?_) (fun hc101 => ?_)
      ·
       try simp only [List.length_map, beq_iff_eq, decide_eq_true_eq, decide_eq_false_iff_not, Bool.not_eq_true', Bool.not_eq_false', Bool.not_true, Bool.not_false, Int.not_lt, Int.not_le] at hc101
       have hT2 : toS to base j = to.getD j default := if_neg (by omega)
       rw [hT2] at hrj
       refine AWP.drawR hσ _ [_, _, _, _, _, _, _, _, _, _, _] [⟨[], 0, 0, none⟩, ⟨[], 0, 0, none⟩, ⟨[], 0, 0, none⟩, ⟨[1, 2], 0, 0, none⟩, ⟨[1, 2, 3], 0, 0, none⟩, ⟨[], 0, 0, none⟩, ⟨[], 0, 0, none⟩, ⟨[5, 6], 0, 0, none⟩, ⟨[5, 6, 7], 0, 0, none⟩, ⟨[0, 1, 2, 3, 4, 5, 6, 7, 8], 0, 0, none⟩, ⟨[0, 1, 2, 3, 4, 5, 6, 7, 8, 9], 0, 0, some 0⟩] [10] [_, _] rfl rfl (by decide) (by decide) (by kernel_rfl) (And.intro (Val.of hσ rfl rfl) (And.intro (Val.of hσ rfl rfl) (And.intro (Val.of hσ rfl rfl) (And.intro (Val.indexN hσ rfl rfl rfl rfl rfl rfl rfl rfl (idxN (by first | omega | (simp at *; omega)))) (And.intro (Val.of hσ rfl rfl) (And.intro (Val.of hσ rfl rfl) (And.intro (Val.of hσ rfl rfl) (And.intro (Val.indexN hσ rfl rfl rfl rfl rfl rfl rfl rfl (idxN (by first | omega | (simp at *; omega)))) (And.intro (Val.of hσ rfl rfl) (And.intro (Val.vif hσ rfl rfl (by first | omega | (simp at *; omega))) (And.intro (Eff.storeRow (ex := [.int .i64 (Z.getD (to.getD j default).toNat default)]) (xs' := (Z.set (to.getD j default).toNat (x.mul.getD j default)).map (fun n => [D.int .i64 n])) hσ rfl rfl rfl rfl rfl rfl rfl rfl rfl rfl rfl rfl rfl rfl rfl (idx0 (by omega)) (by rw [Nat.zero_add, List.map_set]; rfl) rfl) trivial))))))))))) ?_
       refine AWP.forget [(101, _), (85, _), (80, _), (1, _), (2, _), (7, _), (8, _), (9, _), (10, _), (11, _), (12, _)] ⟨rfl, rfl, rfl, rfl, rfl, rfl, rfl, rfl, rfl, rfl, rfl, trivial⟩ ?_
       apply AWP.norm
       ·
        repeat' (first | exact jq0 rfl | apply jq1 rfl | exact jq2 rfl | exact jq9 rfl | apply jq3 rfl | exact jq4 rfl | apply jq5 rfl | exact jq6 rfl | exact jq7 rfl | exact jq8)
       refine AWP.region ?_
       refine jst hσ rfl rfl rfl rfl rfl ?_
       first | refine AOps.step (Val.fits64 hσ rfl rfl (by first | omega | (simp at *; omega)) (by first | omega | (simp at *; omega))) rfl rfl rfl ?_ | refine AOps.step (Val.vif hσ rfl rfl (by first | omega | (simp at *; omega))) rfl rfl rfl ?_
       refine jst hσ rfl rfl rfl rfl rfl ?_
       refine jf [(12, _), (101, _), (85, _), (80, _), (1, _), (2, _), (7, _), (8, _), (9, _), (10, _), (11, _)] ⟨rfl, rfl, rfl, rfl, rfl, rfl, rfl, rfl, rfl, rfl, rfl, trivial⟩ ?_
       refine jn ?_
       refine ⟨j + 1, Ent.to ⟨rfl, rfl, rfl, rfl, rfl, rfl, rfl, rfl, trivial⟩ (congrArg (fun z => [(900, B.row false 5 R), (901, B.row true 1 (List.map (fun n => [D.int .i64 n]) z))]) (?_ : _ = scat (toS to base) x.mul (List.replicate (cntS to base x.mul.length).toNat 0) (j + 1))), by omega, by omega⟩
       show _ = if 0 ≤ toS to base j then _ else _
       rw [if_pos (by rw [hT2]; omega), ← hZ, hT2]
      ·
       try simp only [List.length_map, beq_iff_eq, decide_eq_true_eq, decide_eq_false_iff_not, Bool.not_eq_true', Bool.not_eq_false', Bool.not_true, Bool.not_false, Int.not_lt, Int.not_le] at hc101
       refine AWP.skip ?_
       refine AWP.region ?_
       refine jst hσ rfl rfl rfl rfl rfl ?_
       first | refine AOps.step (Val.fits64 hσ rfl rfl (by first | omega | (simp at *; omega)) (by first | omega | (simp at *; omega))) rfl rfl rfl ?_ | refine AOps.step (Val.vif hσ rfl rfl (by first | omega | (simp at *; omega))) rfl rfl rfl ?_
       refine jst hσ rfl rfl rfl rfl rfl ?_
       refine jf [(12, _), (101, _), (85, _), (80, _), (1, _), (2, _), (7, _), (8, _), (9, _), (10, _), (11, _)] ⟨rfl, rfl, rfl, rfl, rfl, rfl, rfl, rfl, rfl, rfl, rfl, trivial⟩ ?_
       refine jn ?_
       refine ⟨j + 1, Ent.to ⟨rfl, rfl, rfl, rfl, rfl, rfl, rfl, rfl, trivial⟩ (congrArg (fun z => [(900, B.row false 5 R), (901, B.row true 1 (List.map (fun n => [D.int .i64 n]) z))]) (?_ : Z = scat (toS to base) x.mul (List.replicate (cntS to base x.mul.length).toNat 0) (j + 1))), by omega, by omega⟩
       have hT2 : toS to base j = to.getD j default := if_neg (by omega)
       show _ = if 0 ≤ toS to base j then _ else _
       rw [if_neg (by rw [hT2]; omega), ← hZ]
    ·
     try simp only [List.length_map, beq_iff_eq, decide_eq_true_eq, decide_eq_false_iff_not, Bool.not_eq_true', Bool.not_eq_false', Bool.not_true, Bool.not_false, Int.not_lt, Int.not_le] at hc80
     refine AWP.exit ?_
     refine AWP.region ?_
     obtain rfl : j = x.mul.length := by omega
     refine AOps.to (Ent.freeze 901 (e' := [(11, _), (7, _), (9, _), (1, _), (2, _), (8, _)]) rfl (.cons rfl (.c (.row rfl (by simp [scat_length, hCu]))) (.cons rfl (.keep rfl) (.cons rfl (.keep rfl) (.cons rfl (.keep rfl) (.cons rfl (.keep rfl) (.cons rfl (.keep rfl) .nil)))))) (.cons rfl .row (.skip .nil))) ?_
     refine jst hσ rfl rfl rfl rfl rfl ?_
     refine jst hσ rfl rfl rfl rfl rfl ?_
     refine jst hσ rfl rfl rfl rfl rfl ?_
     first | refine AOps.step (Val.indexN hσ rfl rfl rfl rfl rfl rfl rfl rfl (idxN (by first | omega | (simp at *; omega)))) rfl rfl rfl ?_ | refine AOps.step (Val.indexD hσ rfl rfl rfl rfl rfl rfl rfl rfl (by first | omega | (simp at *; omega)) (idx_get (by first | omega | (simp at *; omega)) (by first | omega | (simp at *; omega)))) rfl rfl rfl ?_ | refine AOps.step (Val.vif hσ rfl rfl (by first | omega | (simp at *; omega))) rfl rfl rfl ?_
     refine jst hσ rfl rfl rfl rfl rfl ?_
     refine jf [(116, _), (114, _), (11, _), (7, _), (9, _), (1, _), (2, _), (8, _)] ⟨rfl, rfl, rfl, rfl, rfl, rfl, rfl, rfl, trivial⟩ ?_
     refine AOps.heap (HS.storeRow (ex := x.cells) (xs' := R.set i [.int .i64 x.kind, .int .i64 (x.fact), .int .i64 x.term.c, ints x.term.xs, ints (scat (toS to base) x.mul (List.replicate (cntS to base x.mul.length).toNat 0) x.mul.length)]) hσ rfl rfl rfl rfl rfl rfl rfl rfl rfl rfl rfl rfl rfl rfl hRj (by simp)) rfl ?_
     refine jf [(11, _), (7, _), (9, _), (1, _), (2, _), (8, _)] ⟨rfl, rfl, rfl, rfl, rfl, rfl, trivial⟩ ?_
     refine jn ?_
     refine AWP.region ?_
     refine jst hσ rfl rfl rfl rfl rfl ?_
     first | refine AOps.step (Val.fits64 hσ rfl rfl (by first | omega | (simp at *; omega)) (by first | omega | (simp at *; omega))) rfl rfl rfl ?_ | refine AOps.step (Val.vif hσ rfl rfl (by first | omega | (simp at *; omega))) rfl rfl rfl ?_
     refine jst hσ rfl rfl rfl rfl rfl ?_
     refine jf [(9, _), (11, _), (7, _), (1, _), (2, _), (8, _)] ⟨rfl, rfl, rfl, rfl, rfl, rfl, trivial⟩ ?_
     refine jn ?_
     refine ⟨i + 1, Ent.to ⟨rfl, rfl, rfl, rfl, rfl, trivial⟩ (congrArg (fun z => [(900, B.row false 5 z)]) (hRn { x with mul := scat (toS to base) x.mul (List.replicate (cntS to base x.mul.length).toNat 0) x.mul.length } (by unfold mvN; rw [if_neg hc28, if_pos hk1]))), by omega, by omega⟩
 ·
  try simp only [List.length_map, beq_iff_eq, decide_eq_true_eq, decide_eq_false_iff_not, Bool.not_eq_true', Bool.not_eq_false', Bool.not_true, Bool.not_false, Int.not_lt, Int.not_le] at hc20
  refine AWP.exit ?_
  refine jsr ?_
  refine jst hσ rfl rfl rfl rfl rfl ?_
  refine jst hσ rfl rfl rfl rfl rfl ?_
  refine jn ?_
  refine AWP.ret ?_
  obtain rfl : i = p.length := by omega
  rw [blend_all]
  refine ⟨.inl rfl, _, Ent.refl, _, rfl, [900], by decide, rfl, rfl, rfl⟩
theorem c1020 {L : Nat} (h1 : 4096 ≤ L) (h2 : L ≤ 1073741824) {p : List Nd} {to : List Int} {base : Int} (hp : ∀ x ∈ p, MvOk (cntS to base) (toS to base) x) (hb : 0 ≤ base ∧ base ≤ 1000) (ht : to.length ≤ 1000) : MC Try.prog L 49 [ands p, aints to, eI base] [] (Plain (ands (p.map (mvN (cntS to base) (toS to base))))) := (c1020r h1 h2 hp hb ht).frozen (.v (.c (.whole rfl (by simp))))
end Go.Al
namespace Go.Al
open Go.Proofs
set_option linter.unusedVariables false
set_option linter.unusedSimpArgs false
set_option maxRecDepth 10000
abbrev pI (n : Int) : A := .c (.d (.ptr [.int .i64 n] 0))
theorem c1022 {L : Nat} (h1 : 4096 ≤ L) (h2 : L ≤ 1073741824) {k less : Int} (hl : 0 ≤ less ∧ less ≤ 1000) (hk : 0 ≤ k ∧ k ≤ 1000) : MC Try.prog L 55 [eI k, pI less] [] (Plain (eI (k - less))) := by
 refine MC.alone ?_ rfl
 have hσ := SGok (nt := 7) h1 (Nat.le_trans h2 (by decide))
 refine MC.body hσ Try.func55 (by kernel_rfl) rfl rfl (Nat.le_of_ble_eq_true rfl) (fun hF => ?_)
 refine jsr ?_
 refine jst hσ rfl rfl rfl rfl rfl ?_
 refine jn ?_
 refine jsr ?_
 refine jst hσ rfl rfl rfl rfl rfl ?_
 refine jst hσ rfl rfl rfl rfl rfl ?_
 first | refine AOps.step (Val.fits64 hσ rfl rfl (by first | omega | (simp at *; omega)) (by first | omega | (simp at *; omega))) rfl rfl rfl ?_ | refine AOps.step (Val.vif hσ rfl rfl (by first | omega | (simp at *; omega))) rfl rfl rfl ?_
 refine jst hσ rfl rfl rfl rfl rfl ?_
 refine jf [(3, _)] ⟨rfl, trivial⟩ ?_
 refine jn ?_
 refine AWP.ret ?_
 refine ⟨.inl rfl, _, Ent.refl, _, rfl, ?_⟩
 rfl
theorem c1023 {L : Nat} (h1 : 4096 ≤ L) (h2 : L ≤ 1073741824) {P : List Int} {k less : Int} (hl : 0 ≤ less ∧ less ≤ 1000) (hk : 0 ≤ k ∧ k ≤ 1000) : MC Try.prog L 56 [eI k, .c (.d (.ptr [ints P] 0)), pI less] [] (Plain (eI (if k < (P.length : Int) then P.getD k.toNat default else k - less))) := by
 refine MC.alone ?_ rfl
 have hσ := SGok (nt := 16) h1 (Nat.le_trans h2 (by decide))
 refine MC.body hσ Try.func56 (by kernel_rfl) rfl rfl (Nat.le_of_ble_eq_true rfl) (fun hF => ?_)
 refine jsr ?_
 refine jst hσ rfl rfl rfl rfl rfl ?_
 refine jn ?_
 refine AWP.seq ?_
 refine jsr ?_
 refine jst hσ rfl rfl rfl rfl rfl ?_
 refine jst hσ rfl rfl rfl rfl rfl ?_
 first | refine AOps.step (Val.lenD hσ rfl rfl rfl rfl rfl rfl rfl rfl) rfl rfl rfl ?_ | refine jst hσ rfl rfl rfl rfl rfl ?_ | refine AOps.step (Val.vif hσ rfl rfl (by first | omega | (simp at *; omega))) rfl rfl rfl ?_
 refine jst hσ rfl rfl rfl rfl rfl ?_
 refine jf [(8, _), (4, _), (0, _), (1, _), (2, _)] ⟨rfl, rfl, rfl, rfl, rfl, trivial⟩ ?_
 refine jn ?_
 refine AWP.cond hσ rfl rfl (fun hc8 => ?_) (fun hc8 => ?_)
 ·
  try simp only [List.length_map, beq_iff_eq, decide_eq_true_eq, decide_eq_false_iff_not, Bool.not_eq_true', Bool.not_eq_false', Bool.not_true, Bool.not_false, Int.not_lt, Int.not_le] at hc8
  refine jsr ?_
  refine jst hσ rfl rfl rfl rfl rfl ?_
  refine jst hσ rfl rfl rfl rfl rfl ?_
  first | refine AOps.step (Val.indexD hσ rfl rfl rfl rfl rfl rfl rfl rfl (by first | omega | (simp at *; omega)) (idx_get (by first | omega | (simp at *; omega)) (by first | omega | (simp at *; omega)))) rfl rfl rfl ?_ | refine AOps.step (Val.vif hσ rfl rfl (by first | omega | (simp at *; omega))) rfl rfl rfl ?_
  refine jst hσ rfl rfl rfl rfl rfl ?_
  refine jst hσ rfl rfl rfl rfl rfl ?_
  refine jf [(4, _), (0, _), (1, _), (2, _)] ⟨rfl, rfl, rfl, rfl, trivial⟩ ?_
  refine jn ?_
  refine AWP.ret ?_
  refine ⟨.inl rfl, _, Ent.refl, _, rfl, ?_⟩
  rw [if_pos hc8]
 ·
  try simp only [List.length_map, beq_iff_eq, decide_eq_true_eq, decide_eq_false_iff_not, Bool.not_eq_true', Bool.not_eq_false', Bool.not_true, Bool.not_false, Int.not_lt, Int.not_le] at hc8
  refine AWP.skip ?_
  refine jsr ?_
  refine jst hσ rfl rfl rfl rfl rfl ?_
  refine jst hσ rfl rfl rfl rfl rfl ?_
  first | refine AOps.step (Val.fits64 hσ rfl rfl (by first | omega | (simp at *; omega)) (by first | omega | (simp at *; omega))) rfl rfl rfl ?_ | refine AOps.step (Val.vif hσ rfl rfl (by first | omega | (simp at *; omega))) rfl rfl rfl ?_
  refine jst hσ rfl rfl rfl rfl rfl ?_
  refine jf [(4, _), (0, _), (1, _)] ⟨rfl, rfl, rfl, trivial⟩ ?_
  refine jn ?_
  refine AWP.ret ?_
  refine ⟨.inl rfl, _, Ent.refl, _, rfl, ?_⟩
  rw [if_neg (by omega)]
theorem c1021a {L : Nat} (h1 : 4096 ≤ L) (h2 : L ≤ 1073741824) {p : List Nd} {f1 f2 : Nat} {d1 d2 : D} {C T : Int → Int} (hp : ∀ x ∈ p, MvOk C T x) (hc : ∀ k : Int, 0 ≤ k ∧ k ≤ 1000 → MC Try.prog L f1 [eI k, .c (.d d1)] [] (Plain (eI (C k)))) (ht : ∀ k : Int, 0 ≤ k ∧ k ≤ 1000 → MC Try.prog L f2 [eI k, .c (.d d2), .c (.d d1)] [] (Plain (eI (T k)))) : MC Try.prog L 54 [ands p, .c (.fn f1 [.d d1]), .c (.fn f2 [.d d2, .d d1])] [] (Rows (.c (.rs 0 0 p.length)) [ndrow (p.map (mvN C T))]) := by
 refine MC.rows ?_
 have hσ := SGok (nt := 68) h1 (Nat.le_trans h2 (by decide))
 refine MC.body hσ Try.func54 (by kernel_rfl) rfl rfl (Nat.le_of_ble_eq_true rfl) (fun hF => ?_)
 have hl : p.length ≤ L := by simpa [As.fact, A.fact, M.fact, D.fact, Ds.fact] using hF.1.1
 refine jsr ?_
 refine jst hσ rfl rfl rfl rfl rfl ?_
 refine jn ?_
 refine jsr ?_
 refine jst hσ rfl rfl rfl rfl rfl ?_
 refine jf [(14, _), (6, _), (1, _), (2, _)] ⟨rfl, rfl, rfl, rfl, trivial⟩ ?_
 refine AOps.rows hσ (B0 := 16000) rfl rfl rfl rfl (c1041 (ts := p) h1 h2) (VAs.self rfl) rfl rfl rfl rfl rfl rfl ?_
 apply AOps.norm
 ·
  repeat' (first | exact jq0 rfl | apply jq1 rfl | exact jq2 rfl | exact jq9 rfl | apply jq3 rfl | exact jq4 rfl | apply jq5 rfl | exact jq6 rfl | exact jq7 rfl | exact jq8)
 refine jst hσ rfl rfl rfl rfl rfl ?_
 refine jf [(7, _), (6, _), (1, _), (2, _)] ⟨rfl, rfl, rfl, rfl, trivial⟩ ?_
 refine jn ?_
 refine AWP.seq ?_
 refine jsr ?_
 refine jst hσ rfl rfl rfl rfl rfl ?_
 first | refine AOps.step (Val.lenD hσ rfl rfl rfl rfl rfl rfl rfl rfl) rfl rfl rfl ?_ | refine jst hσ rfl rfl rfl rfl rfl ?_ | refine AOps.step (Val.vif hσ rfl rfl (by first | omega | (simp at *; omega))) rfl rfl rfl ?_
 refine jst hσ rfl rfl rfl rfl rfl ?_
 refine jn ?_
 refine AWP.block ?_
 refine AWP.loopP (X := Nat) (fun i => ⟨[(1, .c (.fn f1 [.d d1])), (2, .c (.fn f2 [.d d2, .d d1])), (7, .c (.rs 900 0 p.length)), (16, .c (.rs 900 0 p.length)), (17, eI p.length), (18, eI i)], [(900, ndrow (blend (mvN C T) i p))]⟩) (fun i => i ≤ p.length) (fun i => p.length - i) 0 ((Ent.sub2 16000 900 rfl rfl).trans (Ent.to ⟨rfl, rfl, rfl, rfl, rfl, rfl, trivial⟩ rfl)) ?_ (fun i hi => ?_)
 ·
  exact Nat.zero_le _
 refine jsr ?_
 refine jst hσ rfl rfl rfl rfl rfl ?_
 refine jn ?_
 refine AWP.seq ?_
 refine AWP.cond hσ rfl rfl (fun hc19 => ?_) (fun hc19 => ?_)
 ·
  try simp only [List.length_map, beq_iff_eq, decide_eq_true_eq, decide_eq_false_iff_not, Bool.not_eq_true', Bool.not_eq_false', Bool.not_true, Bool.not_false, Int.not_lt, Int.not_le] at hc19
  refine AWP.skip ?_
  refine AWP.seq ?_
  refine AWP.block ?_
  refine jsr ?_
  have hil : i < p.length := by omega
  obtain ⟨x, hx⟩ : ∃ x, x = p.getD i default := ⟨_, rfl⟩
  have hm := hp x (by rw [hx, getD_lt hil]; exact List.getElem_mem hil)
  obtain ⟨R, hR⟩ : ∃ R, R = (blend (mvN C T) i p).map Nd.cells := ⟨_, rfl⟩
  have hRl : i < R.length := by rw [hR, List.length_map, blend_length (by omega)]; exact hil
  have hRi : R[i]? = some x.cells := by rw [hR, List.getElem?_map, blend_get hil, hx]; rfl
  have hRj : R[0 + ((i : Nat) : Int).toNat]? = some x.cells := by rw [Nat.zero_add]; exact hRi
  have hRn : ∀ y, mvN C T x = y → R.set i y.cells = (blend (mvN C T) (i + 1) p).map Nd.cells := fun y hy => by rw [hR, ← blend_succ hil, ← hx, hy, List.map_set]
  have e0 : ndrow (blend (mvN C T) i p) = .row true 5 R := by rw [hR]
  rw [e0]
  refine jst hσ rfl rfl rfl rfl rfl ?_
  first | refine AOps.step (Val.indexN hσ rfl rfl rfl rfl rfl rfl rfl rfl (idxN (by first | omega | (simp at *; omega)))) rfl rfl rfl ?_ | refine AOps.step (Val.indexD hσ rfl rfl rfl rfl rfl rfl rfl rfl (by first | omega | (simp at *; omega)) (idx_get (by first | omega | (simp at *; omega)) (by first | omega | (simp at *; omega)))) rfl rfl rfl ?_ | refine AOps.step (Val.vif hσ rfl rfl (by first | omega | (simp at *; omega))) rfl rfl rfl ?_
  refine AOps.step (Val.loadRow hσ (ex := x.cells) rfl rfl rfl rfl hRj rfl) rfl rfl rfl ?_
  refine jf [(22, _), (20, _), (19, _), (1, _), (2, _), (7, _), (16, _), (17, _), (18, _)] ⟨rfl, rfl, rfl, rfl, rfl, rfl, rfl, rfl, rfl, trivial⟩ ?_
  refine AOps.heap (HS.alloc hσ rfl rfl rfl rfl rfl) rfl ?_
  apply AOps.norm
  ·
   repeat' (first | exact jq0 rfl | apply jq1 rfl | exact jq2 rfl | exact jq9 rfl | apply jq3 rfl | exact jq4 rfl | apply jq5 rfl | exact jq6 rfl | exact jq7 rfl | exact jq8)
  refine jst hσ rfl rfl rfl rfl rfl ?_
  refine jf [(8, _), (9, _), (22, _), (19, _), (1, _), (2, _), (7, _), (16, _), (17, _), (18, _)] ⟨rfl, rfl, rfl, rfl, rfl, rfl, rfl, rfl, rfl, rfl, trivial⟩ ?_
  refine AOps.heap (HS.storeBox hσ rfl rfl rfl rfl rfl rfl rfl rfl rfl rfl rfl) rfl ?_
  apply AOps.norm
  ·
   repeat' (first | exact jq0 rfl | apply jq1 rfl | exact jq2 rfl | exact jq9 rfl | apply jq3 rfl | exact jq4 rfl | apply jq5 rfl | exact jq6 rfl | exact jq7 rfl | exact jq8)
  refine jn ?_
  refine jsr ?_
  refine jst hσ rfl rfl rfl rfl rfl ?_
  refine jst hσ rfl rfl rfl rfl rfl ?_
  refine jn ?_
  refine AWP.block ?_
  refine jsr ?_
  refine jst hσ rfl rfl rfl rfl rfl ?_
  refine jst hσ rfl rfl rfl rfl rfl ?_
  refine jn ?_
  refine AWP.cond hσ rfl rfl (fun hc25 => ?_) (fun hc25 => ?_)
  ·
   try simp only [List.length_map, beq_iff_eq, decide_eq_true_eq, decide_eq_false_iff_not, Bool.not_eq_true', Bool.not_eq_false', Bool.not_true, Bool.not_false, Int.not_lt, Int.not_le] at hc25
   refine AWP.region ?_
   refine jst hσ rfl rfl rfl rfl rfl ?_
   refine jst hσ rfl rfl rfl rfl rfl ?_
   refine jst hσ rfl rfl rfl rfl rfl ?_
   refine jst hσ rfl rfl rfl rfl rfl ?_
   have hf := hm.fact hc25
   refine jst hσ rfl rfl rfl rfl rfl ?_
   refine jf [(31, _), (29, _), (28, _), (27, _), (25, _), (26, _), (24, _), (23, _), (8, _), (9, _), (22, _), (19, _), (1, _), (2, _), (7, _), (16, _), (17, _), (18, _)] ⟨rfl, rfl, rfl, rfl, rfl, rfl, rfl, rfl, rfl, rfl, rfl, rfl, rfl, rfl, rfl, rfl, rfl, rfl, trivial⟩ ?_
   refine AOps.lone hσ rfl rfl rfl rfl (ht x.fact (by omega)) (VAs.self rfl) rfl rfl rfl rfl rfl (B0 := 33000) rfl ?_
   first | refine AOps.step (Val.indexN hσ rfl rfl rfl rfl rfl rfl rfl rfl (idxN (by first | omega | (simp at *; omega)))) rfl rfl rfl ?_ | refine AOps.step (Val.indexD hσ rfl rfl rfl rfl rfl rfl rfl rfl (by first | omega | (simp at *; omega)) (idx_get (by first | omega | (simp at *; omega)) (by first | omega | (simp at *; omega)))) rfl rfl rfl ?_ | refine AOps.step (Val.vif hσ rfl rfl (by first | omega | (simp at *; omega))) rfl rfl rfl ?_
   refine jst hσ rfl rfl rfl rfl rfl ?_
   refine jf [(34, _), (32, _), (25, _), (26, _), (24, _), (23, _), (8, _), (9, _), (22, _), (19, _), (1, _), (2, _), (7, _), (16, _), (17, _), (18, _)] ⟨rfl, rfl, rfl, rfl, rfl, rfl, rfl, rfl, rfl, rfl, rfl, rfl, rfl, rfl, rfl, rfl, trivial⟩ ?_
   refine AOps.to (Ent.sel [900] (e' := [(34, _), (32, _), (1, _), (2, _), (7, _), (16, _), (17, _), (18, _)]) rfl rfl ⟨rfl, rfl, rfl, rfl, rfl, rfl, rfl, rfl, trivial⟩ rfl) ?_
   refine AOps.heap (HS.storeRow (ex := x.cells) (xs' := R.set i [.int .i64 x.kind, .int .i64 (T x.fact), .int .i64 x.term.c, ints x.term.xs, ints (x.mul)]) hσ rfl rfl rfl rfl rfl rfl rfl rfl rfl rfl rfl rfl rfl rfl hRj (by simp)) rfl ?_
   apply AOps.norm
   ·
    repeat' (first | exact jq0 rfl | apply jq1 rfl | exact jq2 rfl | exact jq9 rfl | apply jq3 rfl | exact jq4 rfl | apply jq5 rfl | exact jq6 rfl | exact jq7 rfl | exact jq8)
   refine jf [(1, _), (2, _), (7, _), (16, _), (17, _), (18, _)] ⟨rfl, rfl, rfl, rfl, rfl, rfl, trivial⟩ ?_
   refine jn ?_
   refine AWP.region ?_
   first | refine AOps.step (Val.fits64 hσ rfl rfl (by first | omega | (simp at *; omega)) (by first | omega | (simp at *; omega))) rfl rfl rfl ?_ | refine AOps.step (Val.vif hσ rfl rfl (by first | omega | (simp at *; omega))) rfl rfl rfl ?_
   refine jst hσ rfl rfl rfl rfl rfl ?_
   refine jn ?_
   refine ⟨i + 1, Ent.to ⟨rfl, rfl, rfl, rfl, rfl, rfl, trivial⟩ (by exact congrArg (fun z => [(900, B.row true 5 z)]) (hRn { x with fact := T x.fact } (by unfold mvN; rw [if_pos hc25]))), by omega, by omega⟩
  ·
   try simp only [List.length_map, beq_iff_eq, decide_eq_true_eq, decide_eq_false_iff_not, Bool.not_eq_true', Bool.not_eq_false', Bool.not_true, Bool.not_false, Int.not_lt, Int.not_le] at hc25
   refine jsr ?_
   refine jst hσ rfl rfl rfl rfl rfl ?_
   refine jst hσ rfl rfl rfl rfl rfl ?_
   refine jn ?_
   refine AWP.cond hσ rfl rfl (fun hc35 => ?_) (fun hc35 => ?_)
   ·
    try simp only [List.length_map, beq_iff_eq, decide_eq_true_eq, decide_eq_false_iff_not, Bool.not_eq_true', Bool.not_eq_false', Bool.not_true, Bool.not_false, Int.not_lt, Int.not_le] at hc35
    refine jsr ?_
    refine jst hσ rfl rfl rfl rfl rfl ?_
    refine jst hσ rfl rfl rfl rfl rfl ?_
    refine jst hσ rfl rfl rfl rfl rfl ?_
    have hlm := hm.len hc35
    have hcb := hm.cntb hc35
    have hrg := hm.rng hc35
    refine AOps.step ((Val.lenRp hσ (ex := x.cells) (ys := x.mul.map fun n => [D.int .i64 n]) rfl rfl rfl rfl rfl rfl rfl hRj rfl rfl rfl).cast (v' := eI x.mul.length) (by rw [List.length_map])) rfl rfl rfl ?_
    refine jf [(40, _), (37, _), (35, _), (36, _), (25, _), (26, _), (24, _), (23, _), (8, _), (9, _), (22, _), (19, _), (1, _), (2, _), (7, _), (16, _), (17, _), (18, _)] ⟨rfl, rfl, rfl, rfl, rfl, rfl, rfl, rfl, rfl, rfl, rfl, rfl, rfl, rfl, rfl, rfl, rfl, rfl, trivial⟩ ?_
    refine AOps.lone hσ rfl rfl rfl rfl (hc x.mul.length (by omega)) (VAs.self rfl) rfl rfl rfl rfl rfl (B0 := 42000) rfl ?_
    refine jf [(41, _), (35, _), (36, _), (25, _), (26, _), (24, _), (23, _), (8, _), (9, _), (22, _), (19, _), (1, _), (2, _), (7, _), (16, _), (17, _), (18, _)] ⟨rfl, rfl, rfl, rfl, rfl, rfl, rfl, rfl, rfl, rfl, rfl, rfl, rfl, rfl, rfl, rfl, rfl, trivial⟩ ?_
    refine AOps.heap (HS.make hσ rfl rfl rfl rfl rfl rfl rfl rfl rfl (by first | omega | (simp at *; omega)) (by first | omega | (simp at *; omega)) (by first | omega | (simp at *; omega)) (by first | omega | (dsimp only; omega) | (simp at *; omega)) (by first | omega | (simp at *; omega)) rfl rfl rfl) rfl ?_
    apply AOps.norm
    ·
     repeat' (first | exact jq0 rfl | apply jq1 rfl | exact jq2 rfl | exact jq9 rfl | apply jq3 rfl | exact jq4 rfl | apply jq5 rfl | exact jq6 rfl | exact jq7 rfl | exact jq8)
    refine jst hσ rfl rfl rfl rfl rfl ?_
    refine jf [(10, _), (35, _), (36, _), (25, _), (26, _), (24, _), (23, _), (8, _), (9, _), (22, _), (19, _), (1, _), (2, _), (7, _), (16, _), (17, _), (18, _)] ⟨rfl, rfl, rfl, rfl, rfl, rfl, rfl, rfl, rfl, rfl, rfl, rfl, rfl, rfl, rfl, rfl, rfl, trivial⟩ ?_
    refine jn ?_
    refine AWP.seq ?_
    refine jsr ?_
    refine jst hσ rfl rfl rfl rfl rfl ?_
    refine jst hσ rfl rfl rfl rfl rfl ?_
    refine AOps.step ((Val.lenRp hσ (ex := x.cells) (ys := x.mul.map fun n => [D.int .i64 n]) rfl rfl rfl rfl rfl rfl rfl hRj rfl rfl rfl).cast (v' := eI x.mul.length) (by rw [List.length_map])) rfl rfl rfl ?_
    refine jst hσ rfl rfl rfl rfl rfl ?_
    refine jn ?_
    refine AWP.block ?_
    refine AWP.loopP (X := Nat) (fun j => ⟨[(1, .c (.fn f1 [.d d1])), (2, .c (.fn f2 [.d d2, .d d1])), (7, .c (.rs 900 0 p.length)), (8, eI i), (10, .c (.rs 901 0 (C x.mul.length).toNat)), (16, .c (.rs 900 0 p.length)), (17, eI p.length), (18, eI i), (44, .c (.rp 900 (0 + ((i : Nat) : Int).toNat) 4)), (45, eI x.mul.length), (46, eI j)], [(900, .row true 5 R), (901, nrow (scat T x.mul (List.replicate (C x.mul.length).toNat 0) j))]⟩) (fun j => j ≤ x.mul.length) (fun j => x.mul.length - j) 0 (((Ent.sel [900, 42] (e' := [(1, _), (2, _), (7, _), (8, _), (10, _), (16, _), (17, _), (18, _), (44, _), (45, _), (46, _)]) rfl rfl ⟨rfl, rfl, rfl, rfl, rfl, rfl, rfl, rfl, rfl, rfl, rfl, trivial⟩ rfl).trans (Ent.sub2 42 901 rfl rfl)).trans (Ent.to ⟨rfl, rfl, rfl, rfl, rfl, rfl, rfl, rfl, rfl, rfl, rfl, trivial⟩ (by exact congrArg (fun z => [(900, B.row true 5 R), (901, B.row true 1 z)]) (List.map_replicate (f := fun n => [D.int .i64 n]) (a := (0 : Int)) (n := (C x.mul.length).toNat)).symm))) ?_ (fun j hi => ?_)
    ·
     exact Nat.zero_le _
    refine jsr ?_
    refine jst hσ rfl rfl rfl rfl rfl ?_
    refine jn ?_
    refine AWP.seq ?_
    refine AWP.cond hσ rfl rfl (fun hc47 => ?_) (fun hc47 => ?_)
    ·
     try simp only [List.length_map, beq_iff_eq, decide_eq_true_eq, decide_eq_false_iff_not, Bool.not_eq_true', Bool.not_eq_false', Bool.not_true, Bool.not_false, Int.not_lt, Int.not_le] at hc47
     refine AWP.skip ?_
     refine AWP.seq ?_
     refine AWP.block ?_
     refine jsr ?_
     refine jst hσ rfl rfl rfl rfl rfl ?_
     have hjl : j < x.mul.length := by omega
     have hrj := hrg j hjl
     obtain ⟨Z, hZ⟩ : ∃ Z, Z = scat T x.mul (List.replicate (C x.mul.length).toNat 0) j := ⟨_, rfl⟩
     have hZl : Z.length = (C x.mul.length).toNat := by rw [hZ, scat_length, List.length_replicate]
     rw [← hZ]
     refine AOps.idxRp hσ (ys := x.mul.map fun n => [D.int .i64 n]) (z := x.mul.getD j default) (n := j) (k2 := .i64) rfl rfl rfl rfl rfl rfl rfl rfl rfl rfl rfl rfl rfl rfl rfl rfl rfl rfl hRj rfl (idxN (by omega)) ?_
     refine jst hσ rfl rfl rfl rfl rfl ?_
     refine jst hσ rfl rfl rfl rfl rfl ?_
     refine jf [(12, _), (11, _), (47, _), (1, _), (2, _), (7, _), (8, _), (10, _), (16, _), (17, _), (18, _), (44, _), (45, _), (46, _)] ⟨rfl, rfl, rfl, rfl, rfl, rfl, rfl, rfl, rfl, rfl, rfl, rfl, rfl, rfl, trivial⟩ ?_
     refine jn ?_
     refine jsr ?_
     refine jst hσ rfl rfl rfl rfl rfl ?_
     refine jst hσ rfl rfl rfl rfl rfl ?_
     refine jf [(52, _), (51, _), (12, _), (47, _), (1, _), (2, _), (7, _), (8, _), (10, _), (16, _), (17, _), (18, _), (44, _), (45, _), (46, _)] ⟨rfl, rfl, rfl, rfl, rfl, rfl, rfl, rfl, rfl, rfl, rfl, rfl, rfl, rfl, rfl, trivial⟩ ?_
     refine AOps.lone hσ rfl rfl rfl rfl (ht j (by omega)) (VAs.self rfl) rfl rfl rfl rfl rfl (B0 := 54000) rfl ?_
     refine jst hσ rfl rfl rfl rfl rfl ?_
     refine jf [(13, _), (12, _), (47, _), (1, _), (2, _), (7, _), (8, _), (10, _), (16, _), (17, _), (18, _), (44, _), (45, _), (46, _)] ⟨rfl, rfl, rfl, rfl, rfl, rfl, rfl, rfl, rfl, rfl, rfl, rfl, rfl, rfl, trivial⟩ ?_
     refine jn ?_
     refine jsr ?_
     refine jst hσ rfl rfl rfl rfl rfl ?_
     refine jst hσ rfl rfl rfl rfl rfl ?_
     refine jn ?_
     refine AWP.cond hσ rfl rfl (fun hc55 => ?_) (fun hc55 => ?_)
     ·
      try simp only [List.length_map, beq_iff_eq, decide_eq_true_eq, decide_eq_false_iff_not, Bool.not_eq_true', Bool.not_eq_false', Bool.not_true, Bool.not_false, Int.not_lt, Int.not_le] at hc55
      refine AWP.region ?_
      refine jst hσ rfl rfl rfl rfl rfl ?_
      refine jst hσ rfl rfl rfl rfl rfl ?_
      refine jst hσ rfl rfl rfl rfl rfl ?_
      first | refine AOps.step (Val.indexN hσ rfl rfl rfl rfl rfl rfl rfl rfl (idxN (by first | omega | (simp at *; omega)))) rfl rfl rfl ?_ | refine AOps.step (Val.indexD hσ rfl rfl rfl rfl rfl rfl rfl rfl (by first | omega | (simp at *; omega)) (idx_get (by first | omega | (simp at *; omega)) (by first | omega | (simp at *; omega)))) rfl rfl rfl ?_ | refine AOps.step (Val.vif hσ rfl rfl (by first | omega | (simp at *; omega))) rfl rfl rfl ?_
      refine jf [(59, _), (58, _), (55, _), (54, _), (13, _), (47, _), (1, _), (2, _), (7, _), (8, _), (10, _), (16, _), (17, _), (18, _), (44, _), (45, _), (46, _)] ⟨rfl, rfl, rfl, rfl, rfl, rfl, rfl, rfl, rfl, rfl, rfl, rfl, rfl, rfl, rfl, rfl, rfl, trivial⟩ ?_
      refine AOps.heap (HS.storeRow (ex := [.int .i64 (Z.getD (T j).toNat default)]) (xs' := (Z.set (T j).toNat (x.mul.getD j default)).map (fun n => [D.int .i64 n])) hσ rfl rfl rfl rfl rfl rfl rfl rfl rfl rfl rfl rfl rfl rfl (idx0 (by omega)) (by rw [Nat.zero_add, List.map_set]; rfl)) rfl ?_
      apply AOps.norm
      ·
       repeat' (first | exact jq0 rfl | apply jq1 rfl | exact jq2 rfl | exact jq9 rfl | apply jq3 rfl | exact jq4 rfl | apply jq5 rfl | exact jq6 rfl | exact jq7 rfl | exact jq8)
      refine jf [(55, _), (54, _), (13, _), (47, _), (1, _), (2, _), (7, _), (8, _), (10, _), (16, _), (17, _), (18, _), (44, _), (45, _), (46, _)] ⟨rfl, rfl, rfl, rfl, rfl, rfl, rfl, rfl, rfl, rfl, rfl, rfl, rfl, rfl, rfl, trivial⟩ ?_
      refine jn ?_
      refine AWP.region ?_
      first | refine AOps.step (Val.fits64 hσ rfl rfl (by first | omega | (simp at *; omega)) (by first | omega | (simp at *; omega))) rfl rfl rfl ?_ | refine AOps.step (Val.vif hσ rfl rfl (by first | omega | (simp at *; omega))) rfl rfl rfl ?_
      refine jst hσ rfl rfl rfl rfl rfl ?_
      refine jn ?_
      refine ⟨j + 1, Ent.to ⟨rfl, rfl, rfl, rfl, rfl, rfl, rfl, rfl, rfl, rfl, rfl, trivial⟩ (congrArg (fun z => [(900, B.row true 5 R), (901, B.row true 1 (List.map (fun n => [D.int .i64 n]) z))]) (?_ : Z.set (T j).toNat (x.mul.getD j default) = scat T x.mul (List.replicate (C x.mul.length).toNat 0) (j + 1))), by omega, by omega⟩
      show _ = if 0 ≤ T j then _ else _
      rw [if_pos (by omega), ← hZ]
     ·
      try simp only [List.length_map, beq_iff_eq, decide_eq_true_eq, decide_eq_false_iff_not, Bool.not_eq_true', Bool.not_eq_false', Bool.not_true, Bool.not_false, Int.not_lt, Int.not_le] at hc55
      refine AWP.skip ?_
      refine AWP.region ?_
      first | refine AOps.step (Val.fits64 hσ rfl rfl (by first | omega | (simp at *; omega)) (by first | omega | (simp at *; omega))) rfl rfl rfl ?_ | refine AOps.step (Val.vif hσ rfl rfl (by first | omega | (simp at *; omega))) rfl rfl rfl ?_
      refine jst hσ rfl rfl rfl rfl rfl ?_
      refine jn ?_
      refine ⟨j + 1, Ent.to ⟨rfl, rfl, rfl, rfl, rfl, rfl, rfl, rfl, rfl, rfl, rfl, trivial⟩ (congrArg (fun z => [(900, B.row true 5 R), (901, B.row true 1 (List.map (fun n => [D.int .i64 n]) z))]) (?_ : Z = scat T x.mul (List.replicate (C x.mul.length).toNat 0) (j + 1))), by omega, by omega⟩
      show _ = if 0 ≤ T j then _ else _
      rw [if_neg (by omega), ← hZ]
    ·
     try simp only [List.length_map, beq_iff_eq, decide_eq_true_eq, decide_eq_false_iff_not, Bool.not_eq_true', Bool.not_eq_false', Bool.not_true, Bool.not_false, Int.not_lt, Int.not_le] at hc47
     refine AWP.exit ?_
     refine AWP.region ?_
     obtain rfl : j = x.mul.length := by omega
     refine jst hσ rfl rfl rfl rfl rfl ?_
     refine jst hσ rfl rfl rfl rfl rfl ?_
     refine jst hσ rfl rfl rfl rfl rfl ?_
     first | refine AOps.step (Val.indexN hσ rfl rfl rfl rfl rfl rfl rfl rfl (idxN (by first | omega | (simp at *; omega)))) rfl rfl rfl ?_ | refine AOps.step (Val.indexD hσ rfl rfl rfl rfl rfl rfl rfl rfl (by first | omega | (simp at *; omega)) (idx_get (by first | omega | (simp at *; omega)) (by first | omega | (simp at *; omega)))) rfl rfl rfl ?_ | refine AOps.step (Val.vif hσ rfl rfl (by first | omega | (simp at *; omega))) rfl rfl rfl ?_
     refine jst hσ rfl rfl rfl rfl rfl ?_
     refine jf [(65, _), (63, _), (47, _), (1, _), (2, _), (7, _), (8, _), (10, _), (16, _), (17, _), (18, _), (44, _), (45, _), (46, _)] ⟨rfl, rfl, rfl, rfl, rfl, rfl, rfl, rfl, rfl, rfl, rfl, rfl, rfl, rfl, trivial⟩ ?_
     refine AOps.to (Ent.sel [900, 901] (e' := [(65, _), (63, _), (1, _), (2, _), (7, _), (16, _), (17, _), (18, _)]) rfl rfl ⟨rfl, rfl, rfl, rfl, rfl, rfl, rfl, rfl, trivial⟩ rfl) ?_
     refine AOps.heap (HS.storeAbs (ex := x.cells) (xs' := R.set i [.int .i64 x.kind, .int .i64 (x.fact), .int .i64 x.term.c, ints x.term.xs, ints (scat T x.mul (List.replicate (C x.mul.length).toNat 0) x.mul.length)]) hσ rfl rfl rfl rfl rfl rfl rfl (.rs rfl (by simp [scat_length]) .nil) rfl rfl rfl rfl rfl rfl hRj (by simp)) rfl ?_
     apply AOps.norm
     ·
      repeat' (first | exact jq0 rfl | apply jq1 rfl | exact jq2 rfl | exact jq9 rfl | apply jq3 rfl | exact jq4 rfl | apply jq5 rfl | exact jq6 rfl | exact jq7 rfl | exact jq8)
     refine jf [(1, _), (2, _), (7, _), (16, _), (17, _), (18, _)] ⟨rfl, rfl, rfl, rfl, rfl, rfl, trivial⟩ ?_
     refine jn ?_
     refine AWP.region ?_
     first | refine AOps.step (Val.fits64 hσ rfl rfl (by first | omega | (simp at *; omega)) (by first | omega | (simp at *; omega))) rfl rfl rfl ?_ | refine AOps.step (Val.vif hσ rfl rfl (by first | omega | (simp at *; omega))) rfl rfl rfl ?_
     refine jst hσ rfl rfl rfl rfl rfl ?_
     refine jn ?_
     refine ⟨i + 1, Ent.to ⟨rfl, rfl, rfl, rfl, rfl, rfl, trivial⟩ (by exact congrArg (fun z => [(900, B.row true 5 z)]) (hRn { x with mul := scat T x.mul (List.replicate (C x.mul.length).toNat 0) x.mul.length } (by unfold mvN; rw [if_neg hc25, if_pos hc35]))), by omega, by omega⟩
   ·
    try simp only [List.length_map, beq_iff_eq, decide_eq_true_eq, decide_eq_false_iff_not, Bool.not_eq_true', Bool.not_eq_false', Bool.not_true, Bool.not_false, Int.not_lt, Int.not_le] at hc35
    refine AWP.skip ?_
    refine AWP.region ?_
    first | refine AOps.step (Val.fits64 hσ rfl rfl (by first | omega | (simp at *; omega)) (by first | omega | (simp at *; omega))) rfl rfl rfl ?_ | refine AOps.step (Val.vif hσ rfl rfl (by first | omega | (simp at *; omega))) rfl rfl rfl ?_
    refine jst hσ rfl rfl rfl rfl rfl ?_
    refine jn ?_
    refine ⟨i + 1, (Ent.sel [900] (e' := [(1, _), (2, _), (7, _), (16, _), (17, _), (18, _)]) rfl rfl ⟨rfl, rfl, rfl, rfl, rfl, rfl, trivial⟩ rfl).trans (Ent.to ⟨rfl, rfl, rfl, rfl, rfl, rfl, trivial⟩ (by exact congrArg (fun z => [(900, B.row true 5 z)]) ((set_self' hRi).symm.trans (hRn x (by unfold mvN; rw [if_neg hc25, if_neg hc35]))))), by omega, by omega⟩
 ·
  try simp only [List.length_map, beq_iff_eq, decide_eq_true_eq, decide_eq_false_iff_not, Bool.not_eq_true', Bool.not_eq_false', Bool.not_true, Bool.not_false, Int.not_lt, Int.not_le] at hc19
  refine AWP.exit ?_
  refine jsr ?_
  refine jst hσ rfl rfl rfl rfl rfl ?_
  refine jst hσ rfl rfl rfl rfl rfl ?_
  refine jn ?_
  refine AWP.ret ?_
  obtain rfl : i = p.length := by omega
  rw [blend_all]
  refine ⟨.inl rfl, _, Ent.refl, _, rfl, [900], by decide, rfl, rfl, rfl⟩
end Go.Al
namespace Go.Al
open Go.Proofs
set_option linter.unusedVariables false
set_option linter.unusedSimpArgs false
set_option maxRecDepth 10000
theorem MvOk.congr {c t c' t' : Int → Int} {x : Nd} (h : MvOk c t x) (hc : x.kind = 1 → c x.mul.length = c' x.mul.length) (ht : ∀ i : Nat, t i = t' i) : MvOk c' t' x :=
  ⟨h.kind, h.fact, h.len, fun hk => by rw [← hc hk]; exact h.cntb hk, fun hk i hi => by rw [← hc hk, ← ht i]; exact h.rng hk i hi⟩
abbrev resQ (r : Sq × List Nd × Bool) : A := .tup [aSq r.1, ands r.2.1, eB r.2.2]
abbrev noQ : Sq × List Nd × Bool := (⟨[], ⟨0, []⟩⟩, [], false)
abbrev liftSq (s : Sq) (extra : List Tm) : Sq := ⟨s.facts ++ extra, s.goal⟩
abbrev liftL (n more : Nat) : List Int := nums n ++ [((n + more : Nat) : Int)]
def liftS (s : Sq) (p : List Nd) (extra : List Tm) : Sq × List Nd × Bool :=
  if chkS s p = true ∧ extra.length ≤ 14 then
    if chkS (liftSq s extra) (liftNds s.facts.length extra.length p) = true then (liftSq s extra, liftNds s.facts.length extra.length p, true) else noQ
  else noQ
end Go.Al
namespace Go.Al
open Go.Proofs
set_option linter.unusedVariables false
set_option linter.unusedSimpArgs false
set_option maxRecDepth 10000
end Go.Al
namespace Go.Al
open Go.Proofs
set_option linter.unusedVariables false
set_option linter.unusedSimpArgs false
set_option maxRecDepth 10000
theorem drop_ok2 {s : Sq} {p : List Nd} (h : chkS s p = true) : ∀ x ∈ p, MvOk (cntS (dropTo s p) ((dropFacts s p).length + 1)) (toS (dropTo s p) ((dropFacts s p).length + 1)) x := fun x hx =>
  (drop_ok h x hx).congr (fun hk => by
    have hl : (dropTo s p).length = s.facts.length + 1 := by simp [dropTo, keepP_length]
    unfold cntS dropLess; rw [hl]; omega) (fun i => drop_to (by omega))
abbrev dropSq (s : Sq) (p : List Nd) : Sq := ⟨dropFacts s p, s.goal⟩
def dropS (s : Sq) (p : List Nd) : Sq × List Nd × Bool := if chkS s p = true then (dropSq s p, dropNds s p, true) else noQ
theorem keepF_T {us : List Bool} {ts : List Tm} {i : Nat} (h : us.getD i default = true) : keepF us ts (i + 1) = keepF us ts i ++ [ts.getD i default] := if_pos h
theorem keepF_F {us : List Bool} {ts : List Tm} {i : Nat} (h : us.getD i default = false) : keepF us ts (i + 1) = keepF us ts i := if_neg (by rw [h]; decide)
theorem keepP_T {us : List Bool} {ts : List Tm} {i : Nat} (h : us.getD i default = true) : keepP us ts (i + 1) = keepP us ts i ++ [((keepF us ts i).length : Int)] := by
  show keepP us ts i ++ [if us.getD i default = true then ((keepF us ts i).length : Int) else -1] = _
  rw [if_pos h]
theorem keepP_F {us : List Bool} {ts : List Tm} {i : Nat} (h : us.getD i default = false) : keepP us ts (i + 1) = keepP us ts i ++ [-1] := by
  show keepP us ts i ++ [if us.getD i default = true then ((keepF us ts i).length : Int) else -1] = _
  rw [if_neg (by rw [h]; decide)]
theorem dropTo_length {s : Sq} {p : List Nd} : (dropTo s p).length = s.facts.length + 1 := by simp [dropTo, keepP_length]
theorem c1006 {L : Nat} (h1 : 4096 ≤ L) (h2 : L ≤ 1073741824) {s : Sq} {p : List Nd} : MC Try.prog L 11 [aSq s, ands p] [] (Plain (resQ (dropS s p))) := by
 refine MC.data ?_
 have hσ := SGok (nt := 66) h1 (Nat.le_trans h2 (by decide))
 refine MC.body hσ Try.func11 (by kernel_rfl) rfl rfl (Nat.le_of_ble_eq_true rfl) (fun hF => ?_)
 refine jsr ?_
 refine AOps.heap (HS.box hσ rfl rfl rfl rfl rfl rfl rfl) rfl ?_
 apply AOps.norm
 ·
  repeat' (first | exact jq0 rfl | apply jq1 rfl | exact jq2 rfl | exact jq9 rfl | apply jq3 rfl | exact jq4 rfl | apply jq5 rfl | exact jq6 rfl | exact jq7 rfl | exact jq8)
 refine AOps.to (Ent.freeze 2 (e' := [(2, _), (1, _)]) rfl (.cons rfl (.c (.box (cs := Sq.cells s) rfl (VMs.self rfl))) (.cons rfl (.keep rfl) .nil)) (.skip .nil)) ?_
 apply AOps.norm
 ·
  repeat' (first | exact jq0 rfl | apply jq1 rfl | exact jq2 rfl | exact jq9 rfl | apply jq3 rfl | exact jq4 rfl | apply jq5 rfl | exact jq6 rfl | exact jq7 rfl | exact jq8)
 refine jf [(2, _), (1, _)] ⟨rfl, rfl, trivial⟩ ?_
 refine AOps.heap (HS.alloc hσ rfl rfl rfl rfl rfl) rfl ?_
 apply AOps.norm
 ·
  repeat' (first | exact jq0 rfl | apply jq1 rfl | exact jq2 rfl | exact jq9 rfl | apply jq3 rfl | exact jq4 rfl | apply jq5 rfl | exact jq6 rfl | exact jq7 rfl | exact jq8)
 refine jst hσ rfl rfl rfl rfl rfl ?_
 refine jst hσ rfl rfl rfl rfl rfl ?_
 refine jn ?_
 refine AWP.seq ?_
 refine jsr ?_
 refine jst hσ rfl rfl rfl rfl rfl ?_
 refine AOps.lone hσ rfl rfl rfl rfl (c97 (s := s) (p := p) h1 h2) (VAs.self rfl) rfl rfl rfl rfl rfl (B0 := 13000) rfl ?_
 refine jst hσ rfl rfl rfl rfl rfl ?_
 refine jf [(13, _), (6, _), (5, _), (4, _), (2, _), (1, _)] ⟨rfl, rfl, rfl, rfl, rfl, rfl, trivial⟩ ?_
 refine jn ?_
 refine AWP.cond hσ rfl rfl (fun hc13 => ?_) (fun hc13 => ?_)
 ·
  try simp only [List.length_map, beq_iff_eq, decide_eq_true_eq, decide_eq_false_iff_not, Bool.not_eq_true', Bool.not_eq_false', Bool.not_true, Bool.not_false, Int.not_lt, Int.not_le] at hc13
  refine jsr ?_
  refine jst hσ rfl rfl rfl rfl rfl ?_
  refine jf [(14, _), (6, _), (5, _), (4, _), (2, _), (1, _)] ⟨rfl, rfl, rfl, rfl, rfl, rfl, trivial⟩ ?_
  refine AOps.heap (HS.storeBox hσ rfl rfl rfl rfl rfl rfl rfl rfl rfl rfl rfl) rfl ?_
  apply AOps.norm
  ·
   repeat' (first | exact jq0 rfl | apply jq1 rfl | exact jq2 rfl | exact jq9 rfl | apply jq3 rfl | exact jq4 rfl | apply jq5 rfl | exact jq6 rfl | exact jq7 rfl | exact jq8)
  refine jst hσ rfl rfl rfl rfl rfl ?_
  refine jst hσ rfl rfl rfl rfl rfl ?_
  refine jn ?_
  refine AWP.ret ?_
  refine ⟨.inl rfl, _, Ent.refl, _, rfl, ?_⟩
  rw [show dropS s p = noQ from if_neg (by rw [hc13]; decide)]
  exact .tup (.cons (.agg (.cons .nils (.cons .d (.cons .nils .nil)))) (.cons (.c .nils) (.cons (.c .d) .nil)))
 ·
  try simp only [List.length_map, beq_iff_eq, decide_eq_true_eq, decide_eq_false_iff_not, Bool.not_eq_true', Bool.not_eq_false', Bool.not_true, Bool.not_false, Int.not_lt, Int.not_le] at hc13
  refine AWP.skip ?_
  refine jsr ?_
  have hck := hc13
  have hs13 := acc_facts hck
  have hp4 := (isB_spec (chkS_spec hck).2).2.2.1
  have hle := dropFacts_le (s := s) (p := p)
  refine jst hσ rfl rfl rfl rfl rfl ?_
  refine jf [(15, _), (6, _), (5, _), (4, _), (2, _), (1, _)] ⟨rfl, rfl, rfl, rfl, rfl, rfl, trivial⟩ ?_
  refine AOps.plainD hσ rfl rfl rfl rfl (c98 (s := s) (p := p) h1 h2 (by omega) hp4) (VAs.self rfl) rfl rfl rfl rfl (B0 := 17000) rfl rfl ?_
  refine jst hσ rfl rfl rfl rfl rfl ?_
  refine jf [(7, _), (6, _), (5, _), (4, _), (2, _), (1, _)] ⟨rfl, rfl, rfl, rfl, rfl, rfl, trivial⟩ ?_
  refine jn ?_
  refine jsr ?_
  obtain ⟨U, hU⟩ : ∃ U, U = usedN psv p (s.facts.length + 1) p.length := ⟨_, rfl⟩
  have hUl : U.length = s.facts.length + 1 := by rw [hU, usedN_length]
  rw [← hU]
  refine AOps.heap (HS.litD hσ rfl rfl rfl rfl rfl rfl rfl rfl rfl rfl rfl) rfl ?_
  apply AOps.norm
  ·
   repeat' (first | exact jq0 rfl | apply jq1 rfl | exact jq2 rfl | exact jq9 rfl | apply jq3 rfl | exact jq4 rfl | apply jq5 rfl | exact jq6 rfl | exact jq7 rfl | exact jq8)
  apply AOps.norm
  ·
   repeat' (first | exact jq0 rfl | apply jq1 rfl | exact jq2 rfl | exact jq9 rfl | apply jq3 rfl | exact jq4 rfl | apply jq5 rfl | exact jq6 rfl | exact jq7 rfl | exact jq8)
  refine jst hσ rfl rfl rfl rfl rfl ?_
  refine AOps.plainD hσ rfl rfl rfl rfl (c143 (t := s.goal) h1 h2) (.cons (.c (.sub rfl)) .nil) rfl rfl rfl rfl (B0 := 20000) rfl rfl ?_
  refine jst hσ rfl rfl rfl rfl rfl ?_
  refine jf [(20, _), (7, _), (6, _), (5, _), (4, _), (2, _), (1, _)] ⟨rfl, rfl, rfl, rfl, rfl, rfl, rfl, trivial⟩ ?_
  refine AOps.heap (HS.alloc hσ rfl rfl rfl rfl rfl) rfl ?_
  apply AOps.norm
  ·
   repeat' (first | exact jq0 rfl | apply jq1 rfl | exact jq2 rfl | exact jq9 rfl | apply jq3 rfl | exact jq4 rfl | apply jq5 rfl | exact jq6 rfl | exact jq7 rfl | exact jq8)
  refine AOps.heap (HS.storeBox hσ rfl rfl rfl rfl rfl rfl rfl rfl rfl rfl rfl) rfl ?_
  apply AOps.norm
  ·
   repeat' (first | exact jq0 rfl | apply jq1 rfl | exact jq2 rfl | exact jq9 rfl | apply jq3 rfl | exact jq4 rfl | apply jq5 rfl | exact jq6 rfl | exact jq7 rfl | exact jq8)
  refine jn ?_
  refine jsr ?_
  refine AOps.heap (HS.lit hσ rfl rfl rfl) rfl ?_
  apply AOps.norm
  ·
   repeat' (first | exact jq0 rfl | apply jq1 rfl | exact jq2 rfl | exact jq9 rfl | apply jq3 rfl | exact jq4 rfl | apply jq5 rfl | exact jq6 rfl | exact jq7 rfl | exact jq8)
  refine jst hσ rfl rfl rfl rfl rfl ?_
  refine jn ?_
  refine AWP.seq ?_
  refine jsr ?_
  refine jst hσ rfl rfl rfl rfl rfl ?_
  refine jn ?_
  refine AWP.block ?_
  refine AWP.loopP (X := Nat) (fun i => ⟨[(1, ands p), (2, ptr s.cells), (4, .c (.pt 4 0 0)), (7, .c (.d (boolsD U))), (8, .c (.pt 8 0 0)), (9, .c (.rs 901 0 i)), (10, eI i)], [(4, .box [.d .nils, .d (.int .i64 0), .d .nils]), (8, .box [.rs 900 0 (keepF U s.facts i).length, .d (.int .i64 s.goal.c), .d (ints s.goal.xs)]), (900, drow (keepF U s.facts i)), (901, nrow (keepP U s.facts i))]⟩) (fun i => i ≤ s.facts.length) (fun i => s.facts.length - i) 0 (((Ent.sub2 17 900 rfl rfl).trans (Ent.sub2 21 901 rfl rfl)).trans (Ent.to ⟨rfl, rfl, rfl, rfl, rfl, rfl, rfl, trivial⟩ rfl)) ?_ (fun i hi => ?_)
  ·
   exact Nat.zero_le _
  refine AWP.seq ?_
  refine jsr ?_
  refine jst hσ rfl rfl rfl rfl rfl ?_
  refine jst hσ rfl rfl rfl rfl rfl ?_
  refine jst hσ rfl rfl rfl rfl rfl ?_
  first | refine AOps.step (Val.lenD hσ rfl rfl rfl rfl rfl rfl rfl rfl) rfl rfl rfl ?_ | refine jst hσ rfl rfl rfl rfl rfl ?_ | refine AOps.step (Val.vif hσ rfl rfl (by first | omega | (simp at *; omega))) rfl rfl rfl ?_
  refine jst hσ rfl rfl rfl rfl rfl ?_
  refine jf [(26, _), (1, _), (2, _), (4, _), (7, _), (8, _), (9, _), (10, _)] ⟨rfl, rfl, rfl, rfl, rfl, rfl, rfl, rfl, trivial⟩ ?_
  refine jn ?_
  refine AWP.cond hσ rfl rfl (fun hc26 => ?_) (fun hc26 => ?_)
  ·
   try simp only [List.length_map, beq_iff_eq, decide_eq_true_eq, decide_eq_false_iff_not, Bool.not_eq_true', Bool.not_eq_false', Bool.not_true, Bool.not_false, Int.not_lt, Int.not_le] at hc26
   refine AWP.skip ?_
   refine AWP.seq ?_
   refine AWP.block ?_
   refine jsr ?_
   have hfl := keepF_le (us := U) (ts := s.facts) (i := i)
   refine jst hσ rfl rfl rfl rfl rfl ?_
   refine jst hσ rfl rfl rfl rfl rfl ?_
   first | refine AOps.step (Val.indexN hσ rfl rfl rfl rfl rfl rfl rfl rfl (idxN (by first | omega | (simp at *; omega)))) rfl rfl rfl ?_ | refine AOps.step (Val.indexD hσ rfl rfl rfl rfl rfl rfl rfl rfl (by first | omega | (simp at *; omega)) (idx_get (by first | omega | (simp at *; omega)) (by first | omega | (simp at *; omega)))) rfl rfl rfl ?_ | refine AOps.step (Val.vif hσ rfl rfl (by first | omega | (simp at *; omega))) rfl rfl rfl ?_
   refine jst hσ rfl rfl rfl rfl rfl ?_
   refine jf [(32, _), (26, _), (1, _), (2, _), (4, _), (7, _), (8, _), (9, _), (10, _)] ⟨rfl, rfl, rfl, rfl, rfl, rfl, rfl, rfl, rfl, trivial⟩ ?_
   refine jn ?_
   refine AWP.cond hσ rfl rfl (fun hc32 => ?_) (fun hc32 => ?_)
   ·
    try simp only [List.length_map, beq_iff_eq, decide_eq_true_eq, decide_eq_false_iff_not, Bool.not_eq_true', Bool.not_eq_false', Bool.not_true, Bool.not_false, Int.not_lt, Int.not_le] at hc32
    refine jsr ?_
    refine jst hσ rfl rfl rfl rfl rfl ?_
    refine jst hσ rfl rfl rfl rfl rfl ?_
    refine jst hσ rfl rfl rfl rfl rfl ?_
    first | refine AOps.step (Val.lenD hσ rfl rfl rfl rfl rfl rfl rfl rfl) rfl rfl rfl ?_ | refine jst hσ rfl rfl rfl rfl rfl ?_ | refine AOps.step (Val.vif hσ rfl rfl (by first | omega | (simp at *; omega))) rfl rfl rfl ?_
    refine jf [(36, _), (33, _), (32, _), (26, _), (1, _), (2, _), (4, _), (7, _), (8, _), (9, _), (10, _)] ⟨rfl, rfl, rfl, rfl, rfl, rfl, rfl, rfl, rfl, rfl, rfl, trivial⟩ ?_
    refine AOps.heap (HS.lit hσ rfl rfl rfl) rfl ?_
    apply AOps.norm
    ·
     repeat' (first | exact jq0 rfl | apply jq1 rfl | exact jq2 rfl | exact jq9 rfl | apply jq3 rfl | exact jq4 rfl | apply jq5 rfl | exact jq6 rfl | exact jq7 rfl | exact jq8)
    refine jf [(37, _), (33, _), (32, _), (26, _), (1, _), (2, _), (4, _), (7, _), (8, _), (9, _), (10, _)] ⟨rfl, rfl, rfl, rfl, rfl, rfl, rfl, rfl, rfl, rfl, rfl, trivial⟩ ?_
    refine AOps.heap (HS.appMove (zs := (keepP U s.facts (i + 1)).map fun n => [.int .i64 n]) (n := i + 1) hσ rfl rfl rfl rfl rfl rfl rfl rfl rfl rfl rfl rfl rfl rfl rfl rfl (.row rfl (by simp [keepP_length, dropTo_length])) rfl rfl (by decide) rfl (by simp [keepP_length, dropTo_length]; omega) (by simp [keepP_length, dropTo_length]; omega) (by rw [keepP_T hc32, List.map_append]; rfl) (by simp [keepP_length, dropTo_length])) rfl ?_
    apply AOps.norm
    ·
     repeat' (first | exact jq0 rfl | apply jq1 rfl | exact jq2 rfl | exact jq9 rfl | apply jq3 rfl | exact jq4 rfl | apply jq5 rfl | exact jq6 rfl | exact jq7 rfl | exact jq8)
    apply AOps.norm
    ·
     repeat' (first | exact jq0 rfl | apply jq1 rfl | exact jq2 rfl | exact jq9 rfl | apply jq3 rfl | exact jq4 rfl | apply jq5 rfl | exact jq6 rfl | exact jq7 rfl | exact jq8)
    refine jst hσ rfl rfl rfl rfl rfl ?_
    refine jf [(9, _), (32, _), (26, _), (1, _), (2, _), (4, _), (7, _), (8, _), (10, _)] ⟨rfl, rfl, rfl, rfl, rfl, rfl, rfl, rfl, rfl, trivial⟩ ?_
    refine jn ?_
    refine AWP.drawP hσ _ [_, _, _, _, _, _, _, _, _, _, _] [⟨[], 0, 2, none⟩, ⟨[0], 0, 2, none⟩, ⟨[], 0, 0, none⟩, ⟨[2], 0, 0, none⟩, ⟨[], 0, 0, none⟩, ⟨[2, 3, 4], 0, 0, none⟩, ⟨[2, 3, 4, 5], 0, 0, some 0⟩, ⟨[2, 3, 4, 5, 6], 0, 0, some 1⟩, ⟨[0, 1, 2, 3, 4, 5, 6, 7], 0, 0, some 2⟩, ⟨[0, 1, 2, 3, 4, 5, 6, 7, 8], 3, 3, none⟩, ⟨[0, 1, 2, 3, 4, 5, 6, 7, 8, 9], 0, 0, some 3⟩] [6, 7, 8, 10] [_, _, _, _, _] [[], [], [900], []] rfl rfl (by decide) (by decide) (by kernel_rfl) (And.intro (And.intro (And.intro (Val.of hσ rfl rfl) rfl) (And.intro (And.intro (Val.of hσ rfl rfl) rfl) (And.intro (Val.of hσ rfl rfl) rfl))) (And.intro (And.intro (And.intro (Val.of hσ rfl rfl) rfl) (And.intro (And.intro (Val.of hσ rfl rfl) rfl) (And.intro (Val.of hσ rfl rfl) rfl))) (And.intro (And.intro (Val.of hσ rfl rfl) rfl) (And.intro (And.intro (Val.of hσ rfl rfl) rfl) (And.intro (And.intro (Val.of hσ rfl rfl) rfl) (And.intro (And.intro (Val.indexN hσ rfl rfl rfl rfl rfl rfl rfl rfl (idxN (by first | omega | (simp at *; omega)))) rfl) (And.intro (And.intro (Eff.p (Eff.plainD hσ (B0 := 46000) rfl rfl rfl rfl (c143 (t := s.facts.getD i default) h1 h2) (VAs.self rfl) rfl rfl rfl rfl rfl)) rfl) (And.intro (And.intro (Eff.p (Eff.litD hσ rfl rfl rfl rfl rfl rfl rfl rfl rfl rfl rfl rfl rfl rfl)) rfl) (And.intro (And.intro (Eff.appCopy (own := false) (xs := (keepF U s.facts i).map Tm.cells) (ys := [Tm.cells (s.facts.getD i default)]) (zs := (keepF U s.facts (i + 1)).map Tm.cells) (n := (keepF U s.facts (i + 1)).length) hσ rfl rfl rfl rfl rfl rfl rfl rfl rfl rfl rfl rfl rfl rfl rfl rfl (.row rfl (List.length_map _).symm) (.whole rfl rfl (.inr ⟨rfl, rfl⟩)) (by simp) rfl (by simp; omega) (by simp; omega) (by rw [keepF_T hc32, List.map_append]; rfl) (by simp) rfl) rfl) (And.intro (And.intro (Val.of hσ rfl rfl) rfl) (And.intro (And.intro (Eff.p (Eff.storeBox hσ rfl rfl rfl rfl rfl rfl rfl rfl rfl rfl rfl rfl rfl)) rfl) trivial))))))))))) ?_
    refine AWP.forget [(9, _), (32, _), (26, _), (1, _), (2, _), (4, _), (7, _), (8, _), (10, _)] ⟨rfl, rfl, rfl, rfl, rfl, rfl, rfl, rfl, rfl, trivial⟩ ?_
    apply AWP.norm
    ·
     repeat' (first | exact jq0 rfl | apply jq1 rfl | exact jq2 rfl | exact jq9 rfl | apply jq3 rfl | exact jq4 rfl | apply jq5 rfl | exact jq6 rfl | exact jq7 rfl | exact jq8)
    refine AWP.region ?_
    refine jst hσ rfl rfl rfl rfl rfl ?_
    first | refine AOps.step (Val.fits64 hσ rfl rfl (by first | omega | (simp at *; omega)) (by first | omega | (simp at *; omega))) rfl rfl rfl ?_ | refine AOps.step (Val.vif hσ rfl rfl (by first | omega | (simp at *; omega))) rfl rfl rfl ?_
    refine jst hσ rfl rfl rfl rfl rfl ?_
    refine jf [(10, _), (9, _), (32, _), (26, _), (1, _), (2, _), (4, _), (7, _), (8, _)] ⟨rfl, rfl, rfl, rfl, rfl, rfl, rfl, rfl, rfl, trivial⟩ ?_
    refine jn ?_
    refine ⟨i + 1, (((Ent.sel [4, 8, 47, 38] (e' := [(1, _), (2, _), (4, _), (7, _), (8, _), (9, _), (10, _)]) rfl rfl ⟨rfl, rfl, rfl, rfl, rfl, rfl, rfl, trivial⟩ rfl).trans (Ent.sub2 47 900 rfl rfl)).trans (Ent.sub2 38 901 rfl rfl)), by omega, by omega⟩
   ·
    try simp only [List.length_map, beq_iff_eq, decide_eq_true_eq, decide_eq_false_iff_not, Bool.not_eq_true', Bool.not_eq_false', Bool.not_true, Bool.not_false, Int.not_lt, Int.not_le] at hc32
    refine AWP.region ?_
    refine jst hσ rfl rfl rfl rfl rfl ?_
    refine AOps.heap (HS.lit hσ rfl rfl rfl) rfl ?_
    apply AOps.norm
    ·
     repeat' (first | exact jq0 rfl | apply jq1 rfl | exact jq2 rfl | exact jq9 rfl | apply jq3 rfl | exact jq4 rfl | apply jq5 rfl | exact jq6 rfl | exact jq7 rfl | exact jq8)
    refine AOps.heap (HS.appMove (zs := (keepP U s.facts (i + 1)).map fun n => [.int .i64 n]) (n := i + 1) hσ rfl rfl rfl rfl rfl rfl rfl rfl rfl rfl rfl rfl rfl rfl rfl rfl (.row rfl (by simp [keepP_length, dropTo_length])) rfl rfl (by decide) rfl (by simp [keepP_length, dropTo_length]; omega) (by simp [keepP_length, dropTo_length]; omega) (by rw [keepP_F hc32, List.map_append]; rfl) (by simp [keepP_length, dropTo_length])) rfl ?_
    apply AOps.norm
    ·
     repeat' (first | exact jq0 rfl | apply jq1 rfl | exact jq2 rfl | exact jq9 rfl | apply jq3 rfl | exact jq4 rfl | apply jq5 rfl | exact jq6 rfl | exact jq7 rfl | exact jq8)
    apply AOps.norm
    ·
     repeat' (first | exact jq0 rfl | apply jq1 rfl | exact jq2 rfl | exact jq9 rfl | apply jq3 rfl | exact jq4 rfl | apply jq5 rfl | exact jq6 rfl | exact jq7 rfl | exact jq8)
    refine jst hσ rfl rfl rfl rfl rfl ?_
    refine jf [(9, _), (32, _), (26, _), (1, _), (2, _), (4, _), (7, _), (8, _), (10, _)] ⟨rfl, rfl, rfl, rfl, rfl, rfl, rfl, rfl, rfl, trivial⟩ ?_
    refine jn ?_
    refine AWP.region ?_
    refine jst hσ rfl rfl rfl rfl rfl ?_
    first | refine AOps.step (Val.fits64 hσ rfl rfl (by first | omega | (simp at *; omega)) (by first | omega | (simp at *; omega))) rfl rfl rfl ?_ | refine AOps.step (Val.vif hσ rfl rfl (by first | omega | (simp at *; omega))) rfl rfl rfl ?_
    refine jst hσ rfl rfl rfl rfl rfl ?_
    refine jf [(10, _), (9, _), (32, _), (26, _), (1, _), (2, _), (4, _), (7, _), (8, _)] ⟨rfl, rfl, rfl, rfl, rfl, rfl, rfl, rfl, rfl, trivial⟩ ?_
    refine jn ?_
    rw [← keepF_F (ts := s.facts) hc32]
    refine ⟨i + 1, ((Ent.sel [4, 8, 900, 51] (e' := [(1, _), (2, _), (4, _), (7, _), (8, _), (9, _), (10, _)]) rfl rfl ⟨rfl, rfl, rfl, rfl, rfl, rfl, rfl, trivial⟩ rfl).trans (Ent.sub2 51 901 rfl rfl)), by omega, by omega⟩
  ·
   try simp only [List.length_map, beq_iff_eq, decide_eq_true_eq, decide_eq_false_iff_not, Bool.not_eq_true', Bool.not_eq_false', Bool.not_true, Bool.not_false, Int.not_lt, Int.not_le] at hc26
   refine AWP.exit ?_
   refine jsr ?_
   have hie : i = s.facts.length := by omega
   have hfl := keepF_le (us := U) (ts := s.facts) (i := i)
   refine jst hσ rfl rfl rfl rfl rfl ?_
   refine jst hσ rfl rfl rfl rfl rfl ?_
   refine jst hσ rfl rfl rfl rfl rfl ?_
   first | refine AOps.step (Val.lenD hσ rfl rfl rfl rfl rfl rfl rfl rfl) rfl rfl rfl ?_ | refine jst hσ rfl rfl rfl rfl rfl ?_ | refine AOps.step (Val.vif hσ rfl rfl (by first | omega | (simp at *; omega))) rfl rfl rfl ?_
   refine jf [(55, _), (52, _), (26, _), (1, _), (2, _), (4, _), (7, _), (8, _), (9, _), (10, _)] ⟨rfl, rfl, rfl, rfl, rfl, rfl, rfl, rfl, rfl, rfl, trivial⟩ ?_
   refine AOps.heap (HS.lit hσ rfl rfl rfl) rfl ?_
   apply AOps.norm
   ·
    repeat' (first | exact jq0 rfl | apply jq1 rfl | exact jq2 rfl | exact jq9 rfl | apply jq3 rfl | exact jq4 rfl | apply jq5 rfl | exact jq6 rfl | exact jq7 rfl | exact jq8)
   refine jf [(56, _), (52, _), (26, _), (1, _), (2, _), (4, _), (7, _), (8, _), (9, _), (10, _)] ⟨rfl, rfl, rfl, rfl, rfl, rfl, rfl, rfl, rfl, rfl, trivial⟩ ?_
   refine AOps.heap (HS.appMove (zs := ((dropTo s p)).map fun n => [.int .i64 n]) (n := i + 1) hσ rfl rfl rfl rfl rfl rfl rfl rfl rfl rfl rfl rfl rfl rfl rfl rfl (.row rfl (by simp [keepP_length])) rfl rfl (by decide) rfl (by simp [keepP_length]; omega) (by simp [keepP_length]; omega) (by rw [dropTo, dropFacts, List.map_append, ← hU, ← hie]; rfl) (by rw [List.length_map, dropTo_length, hie])) rfl ?_
   apply AOps.norm
   ·
    repeat' (first | exact jq0 rfl | apply jq1 rfl | exact jq2 rfl | exact jq9 rfl | apply jq3 rfl | exact jq4 rfl | apply jq5 rfl | exact jq6 rfl | exact jq7 rfl | exact jq8)
   apply AOps.norm
   ·
    repeat' (first | exact jq0 rfl | apply jq1 rfl | exact jq2 rfl | exact jq9 rfl | apply jq3 rfl | exact jq4 rfl | apply jq5 rfl | exact jq6 rfl | exact jq7 rfl | exact jq8)
   refine jst hσ rfl rfl rfl rfl rfl ?_
   refine jf [(9, _), (26, _), (1, _), (2, _), (4, _), (7, _), (8, _), (10, _)] ⟨rfl, rfl, rfl, rfl, rfl, rfl, rfl, rfl, trivial⟩ ?_
   refine jn ?_
   refine AWP.seq ?_
   subst hie
   refine AWP.ent (Ent.freeze 57 (e' := [(9, _), (8, _), (4, _), (1, _)]) rfl (.cons rfl (.c (.row rfl (by simp [dropTo_length]))) (.cons rfl (.keep rfl) (.cons rfl (.keep rfl) (.cons rfl (.keep rfl) .nil)))) (.cons rfl (.box (.cons (.keep rfl) (.cons (.keep rfl) (.cons (.keep rfl) .nil)))) (.cons rfl (.box (.cons (.keep rfl) (.cons (.keep rfl) (.cons (.keep rfl) .nil)))) (.skip (.cons rfl .row .nil))))) ?_
   refine AWP.ent (Ent.freeze 900 (e' := [(9, _), (8, _), (4, _), (1, _)]) rfl (.cons rfl (.keep rfl) (.cons rfl (.keep rfl) (.cons rfl (.keep rfl) (.cons rfl (.keep rfl) .nil)))) (.cons rfl (.box (.cons (.keep rfl) (.cons (.keep rfl) (.cons (.keep rfl) .nil)))) (.cons rfl (.box (.cons (.row rfl (List.length_map _).symm) (.cons (.keep rfl) (.cons (.keep rfl) .nil)))) (.skip .nil)))) ?_
   rw [show keepF U s.facts s.facts.length = dropFacts s p by rw [hU]; rfl]
   refine AWP.drawR hσ _ [_, _, _, _, _, _, _, _, _, _, _] [⟨[], 0, 1, none⟩, ⟨[], 0, 0, none⟩, ⟨[], 0, 0, none⟩, ⟨[], 0, 0, none⟩, ⟨[3], 0, 0, none⟩, ⟨[3, 4], 0, 0, none⟩, ⟨[3, 4, 5], 0, 0, none⟩, ⟨[1, 2, 3, 4, 5, 6], 0, 0, some 0⟩, ⟨[0, 1, 2, 3, 4, 5, 6, 7], 0, 0, some 1⟩, ⟨[0, 1, 2, 3, 4, 5, 6, 7, 8], 2, 2, none⟩, ⟨[0, 1, 2, 3, 4, 5, 6, 7, 8, 9], 2, 2, none⟩] [7, 8] [_, _, _] rfl rfl (by decide) (by decide) (by kernel_rfl) (And.intro (And.intro (Val.of hσ rfl rfl) (Val.of hσ rfl rfl)) (And.intro (Val.of hσ rfl rfl) (And.intro (Val.of hσ rfl rfl) (And.intro (Val.of hσ rfl rfl) (And.intro (Val.of hσ rfl rfl) (And.intro (Val.lenD hσ rfl rfl rfl rfl rfl rfl rfl rfl) (And.intro (Val.fits64 hσ rfl rfl (by first | omega | (simp at *; omega)) (by first | omega | (simp at *; omega))) (And.intro (Eff.plainD hσ (B0 := 66000) rfl rfl rfl rfl (c1020 (p := p) (to := (dropTo s p)) (base := ((dropFacts s p).length : Int) + 1) h1 h2 (drop_ok2 hck) (by omega) (by simp [dropTo_length]; omega)) (VAs.self rfl) rfl rfl rfl rfl rfl) (And.intro (Eff.storeBox hσ rfl rfl rfl rfl rfl rfl rfl rfl rfl rfl rfl rfl rfl) (And.intro (Val.of hσ rfl rfl) (And.intro (Val.of hσ rfl rfl) trivial))))))))))) ?_
   refine AWP.forget [(6, _), (5, _), (9, _), (8, _), (4, _), (1, _)] ⟨rfl, rfl, rfl, rfl, rfl, rfl, trivial⟩ ?_
   apply AWP.norm
   ·
    repeat' (first | exact jq0 rfl | apply jq1 rfl | exact jq2 rfl | exact jq9 rfl | apply jq3 rfl | exact jq4 rfl | apply jq5 rfl | exact jq6 rfl | exact jq7 rfl | exact jq8)
   refine AWP.ret ?_
   refine ⟨.inl rfl, _, Ent.refl, _, rfl, ?_⟩
   rw [show dropS s p = (dropSq s p, dropNds s p, true) from if_pos hck]
   exact .tup (.cons (.agg (VMs.self rfl)) (.cons (.c .d) (.cons (.c .d) .nil)))
end Go.Al
namespace Go.Al
open Go.Proofs
set_option linter.unusedVariables false
set_option linter.unusedSimpArgs false
set_option maxRecDepth 10000
theorem c1007v {L : Nat} (h1 : 4096 ≤ L) (h2 : L ≤ 1073741824) {s : Sq} {p : List Nd} (hv : chkS s p = true) : MC Try.prog L 14 [aSq s, ands p] [] (Rows (.tup [.agg [.rs 0 0 (dropFacts s p).length, .d (.int .i64 s.goal.c), .rs 1 0 s.goal.xs.length], .c (.rs 2 0 p.length), eB true]) [trow (dropFacts s p), nrow s.goal.xs, ndrow (dropNds s p)]) := by
 refine MC.rows ?_
 have hσ := SGok (nt := 65) h1 (Nat.le_trans h2 (by decide))
 refine MC.body hσ Try.func14 (by kernel_rfl) rfl rfl (Nat.le_of_ble_eq_true rfl) (fun hF => ?_)
 have hs13 := acc_facts hv
 have hp4 := (isB_spec (chkS_spec hv).2).2.2.1
 have hle := dropFacts_le (s := s) (p := p)
 obtain ⟨U, hU⟩ : ∃ U, U = usedN nz p s.facts.length p.length := ⟨_, rfl⟩
 have hUl : U.length = s.facts.length := by rw [hU, usedN_length]
 have hFP : keepF U s.facts s.facts.length = dropFacts s p ∧ keepP U s.facts s.facts.length = dropPl s p := by rw [hU]; exact keep_congr (drop_flags hv)
 refine jsr ?_
 refine AOps.heap (HS.box hσ rfl rfl rfl rfl rfl rfl rfl) rfl ?_
 apply AOps.norm
 ·
  repeat' (first | exact jq0 rfl | apply jq1 rfl | exact jq2 rfl | exact jq9 rfl | apply jq3 rfl | exact jq4 rfl | apply jq5 rfl | exact jq6 rfl | exact jq7 rfl | exact jq8)
 refine AOps.to (Ent.freeze 2 (e' := [(2, _), (1, _)]) rfl (.cons rfl (.c (.box (cs := Sq.cells s) rfl (VMs.self rfl))) (.cons rfl (.keep rfl) .nil)) (.skip .nil)) ?_
 apply AOps.norm
 ·
  repeat' (first | exact jq0 rfl | apply jq1 rfl | exact jq2 rfl | exact jq9 rfl | apply jq3 rfl | exact jq4 rfl | apply jq5 rfl | exact jq6 rfl | exact jq7 rfl | exact jq8)
 refine jf [(2, _), (1, _)] ⟨rfl, rfl, trivial⟩ ?_
 refine AOps.heap (HS.alloc hσ rfl rfl rfl rfl rfl) rfl ?_
 apply AOps.norm
 ·
  repeat' (first | exact jq0 rfl | apply jq1 rfl | exact jq2 rfl | exact jq9 rfl | apply jq3 rfl | exact jq4 rfl | apply jq5 rfl | exact jq6 rfl | exact jq7 rfl | exact jq8)
 refine jst hσ rfl rfl rfl rfl rfl ?_
 refine jst hσ rfl rfl rfl rfl rfl ?_
 refine jn ?_
 refine AWP.seq ?_
 refine jsr ?_
 refine jst hσ rfl rfl rfl rfl rfl ?_
 refine jst hσ rfl rfl rfl rfl rfl ?_
 refine AOps.lone hσ rfl rfl rfl rfl ((c96 (s := s) (p := p) h1 h2).plain (u := eB true) (by rw [hv])) (VAs.self rfl) rfl rfl rfl rfl rfl (B0 := 16000) rfl ?_
 refine jst hσ rfl rfl rfl rfl rfl ?_
 refine jf [(16, _), (6, _), (5, _), (4, _), (2, _), (1, _)] ⟨rfl, rfl, rfl, rfl, rfl, rfl, trivial⟩ ?_
 refine jn ?_
 refine AWP.cond hσ rfl rfl (fun hc16 => ?_) (fun hc16 => ?_)
 ·
  try simp only [List.length_map, beq_iff_eq, decide_eq_true_eq, decide_eq_false_iff_not, Bool.not_eq_true', Bool.not_eq_false', Bool.not_true, Bool.not_false, Int.not_lt, Int.not_le] at hc16
  cases hc16
 ·
  try simp only [List.length_map, beq_iff_eq, decide_eq_true_eq, decide_eq_false_iff_not, Bool.not_eq_true', Bool.not_eq_false', Bool.not_true, Bool.not_false, Int.not_lt, Int.not_le] at hc16
  refine AWP.skip ?_
  refine jsr ?_
  refine jst hσ rfl rfl rfl rfl rfl ?_
  refine jst hσ rfl rfl rfl rfl rfl ?_
  refine jf [(19, _), (6, _), (5, _), (4, _), (2, _), (1, _)] ⟨rfl, rfl, rfl, rfl, rfl, rfl, trivial⟩ ?_
  refine AOps.rows hσ (B0 := 21000) rfl rfl rfl rfl (c148o (t := s.goal) h1 h2) (VAs.self rfl) rfl rfl rfl rfl rfl rfl ?_
  apply AOps.norm
  ·
   repeat' (first | exact jq0 rfl | apply jq1 rfl | exact jq2 rfl | exact jq9 rfl | apply jq3 rfl | exact jq4 rfl | apply jq5 rfl | exact jq6 rfl | exact jq7 rfl | exact jq8)
  refine jst hσ rfl rfl rfl rfl rfl ?_
  refine jf [(21, _), (6, _), (5, _), (4, _), (2, _), (1, _)] ⟨rfl, rfl, rfl, rfl, rfl, rfl, trivial⟩ ?_
  refine AOps.heap (HS.alloc hσ rfl rfl rfl rfl rfl) rfl ?_
  apply AOps.norm
  ·
   repeat' (first | exact jq0 rfl | apply jq1 rfl | exact jq2 rfl | exact jq9 rfl | apply jq3 rfl | exact jq4 rfl | apply jq5 rfl | exact jq6 rfl | exact jq7 rfl | exact jq8)
  refine AOps.heap (HS.storeBox hσ rfl rfl rfl rfl rfl rfl rfl rfl rfl rfl rfl) rfl ?_
  apply AOps.norm
  ·
   repeat' (first | exact jq0 rfl | apply jq1 rfl | exact jq2 rfl | exact jq9 rfl | apply jq3 rfl | exact jq4 rfl | apply jq5 rfl | exact jq6 rfl | exact jq7 rfl | exact jq8)
  refine jn ?_
  refine jsr ?_
  refine AOps.heap (HS.alloc hσ rfl rfl rfl rfl rfl) rfl ?_
  apply AOps.norm
  ·
   repeat' (first | exact jq0 rfl | apply jq1 rfl | exact jq2 rfl | exact jq9 rfl | apply jq3 rfl | exact jq4 rfl | apply jq5 rfl | exact jq6 rfl | exact jq7 rfl | exact jq8)
  refine jn ?_
  refine AWP.seq ?_
  refine jsr ?_
  refine jst hσ rfl rfl rfl rfl rfl ?_
  refine jst hσ rfl rfl rfl rfl rfl ?_
  refine jst hσ rfl rfl rfl rfl rfl ?_
  first | refine AOps.step (Val.lenD hσ rfl rfl rfl rfl rfl rfl rfl rfl) rfl rfl rfl ?_ | refine jst hσ rfl rfl rfl rfl rfl ?_ | refine AOps.step (Val.vif hσ rfl rfl (by first | omega | (simp at *; omega))) rfl rfl rfl ?_
  refine jf [(25, _), (22, _), (8, _), (7, _), (21, _), (6, _), (5, _), (4, _), (2, _), (1, _)] ⟨rfl, rfl, rfl, rfl, rfl, rfl, rfl, rfl, rfl, rfl, trivial⟩ ?_
  refine AOps.plainD hσ rfl rfl rfl rfl (c99 (p := p) (n := s.facts.length) h1 h2 (by omega) hp4) (VAs.self rfl) rfl rfl rfl rfl (B0 := 27000) rfl rfl ?_
  rw [← hU]
  refine AOps.step ((Val.lenD hσ rfl rfl rfl rfl rfl rfl rfl rfl).cast (v' := eI U.length) (by simp)) rfl rfl rfl ?_
  refine jst hσ rfl rfl rfl rfl rfl ?_
  refine jf [(28, _), (27, _), (26, _), (8, _), (7, _), (21, _), (6, _), (5, _), (4, _), (2, _), (1, _)] ⟨rfl, rfl, rfl, rfl, rfl, rfl, rfl, rfl, rfl, rfl, rfl, trivial⟩ ?_
  refine jn ?_
  refine AWP.block ?_
  refine AWP.loopP (X := Nat) (fun i => ⟨[(1, ands p), (2, ptr s.cells), (4, .c (.pt 4 0 0)), (7, .c (.pt 7 0 0)), (8, .c (.pt 8 0 0)), (26, .c (.d (boolsD U))), (27, eI U.length), (28, eI i)], [(4, .box [.d .nils, .d (.int .i64 0), .d .nils]), (7, .box [.rs 900 0 (keepF U s.facts i).length, .d (.int .i64 s.goal.c), .rs 902 0 s.goal.xs.length]), (8, .box [.rs 901 0 i]), (900, trow (keepF U s.facts i)), (901, nrow (keepP U s.facts i)), (902, nrow s.goal.xs)]⟩) (fun i => i ≤ s.facts.length) (fun i => s.facts.length - i) 0 ((((Ent.nameBox 7 900 2 true 0 rfl rfl rfl).trans (Ent.nameBox 8 901 1 true 0 rfl rfl rfl)).trans (Ent.sub2 21000 902 rfl rfl)).trans (Ent.to ⟨rfl, rfl, rfl, rfl, rfl, rfl, rfl, rfl, trivial⟩ rfl)) ?_ (fun i hi => ?_)
  ·
   exact Nat.zero_le _
  refine jsr ?_
  refine jst hσ rfl rfl rfl rfl rfl ?_
  refine jn ?_
  refine AWP.seq ?_
  refine AWP.cond hσ rfl rfl (fun hc29 => ?_) (fun hc29 => ?_)
  ·
   try simp only [List.length_map, beq_iff_eq, decide_eq_true_eq, decide_eq_false_iff_not, Bool.not_eq_true', Bool.not_eq_false', Bool.not_true, Bool.not_false, Int.not_lt, Int.not_le] at hc29
   refine AWP.skip ?_
   refine AWP.seq ?_
   refine AWP.block ?_
   refine jsr ?_
   have hfl := keepF_le (us := U) (ts := s.facts) (i := i)
   refine jst hσ rfl rfl rfl rfl rfl ?_
   first | refine AOps.step (Val.indexN hσ rfl rfl rfl rfl rfl rfl rfl rfl (idxN (by first | omega | (simp at *; omega)))) rfl rfl rfl ?_ | refine AOps.step (Val.indexD hσ rfl rfl rfl rfl rfl rfl rfl rfl (by first | omega | (simp at *; omega)) (idx_get (by first | omega | (simp at *; omega)) (by first | omega | (simp at *; omega)))) rfl rfl rfl ?_ | refine AOps.step (Val.vif hσ rfl rfl (by first | omega | (simp at *; omega))) rfl rfl rfl ?_
   refine jst hσ rfl rfl rfl rfl rfl ?_
   refine jst hσ rfl rfl rfl rfl rfl ?_
   refine jst hσ rfl rfl rfl rfl rfl ?_
   refine jf [(10, _), (9, _), (29, _), (1, _), (2, _), (4, _), (7, _), (8, _), (26, _), (27, _), (28, _)] ⟨rfl, rfl, rfl, rfl, rfl, rfl, rfl, rfl, rfl, rfl, rfl, trivial⟩ ?_
   refine jn ?_
   refine jsr ?_
   refine jst hσ rfl rfl rfl rfl rfl ?_
   refine jn ?_
   refine AWP.seq ?_
   refine jsr ?_
   refine jst hσ rfl rfl rfl rfl rfl ?_
   refine jn ?_
   refine AWP.cond hσ rfl rfl (fun hc33 => ?_) (fun hc33 => ?_)
   ·
    try simp only [List.length_map, beq_iff_eq, decide_eq_true_eq, decide_eq_false_iff_not, Bool.not_eq_true', Bool.not_eq_false', Bool.not_true, Bool.not_false, Int.not_lt, Int.not_le] at hc33
    refine jsr ?_
    refine jst hσ rfl rfl rfl rfl rfl ?_
    refine jst hσ rfl rfl rfl rfl rfl ?_
    first | refine AOps.step (Val.lenD hσ rfl rfl rfl rfl rfl rfl rfl rfl) rfl rfl rfl ?_ | refine jst hσ rfl rfl rfl rfl rfl ?_ | refine AOps.step (Val.vif hσ rfl rfl (by first | omega | (simp at *; omega))) rfl rfl rfl ?_
    refine jst hσ rfl rfl rfl rfl rfl ?_
    refine jf [(11, _), (33, _), (10, _), (9, _), (29, _), (1, _), (2, _), (4, _), (7, _), (8, _), (26, _), (27, _), (28, _)] ⟨rfl, rfl, rfl, rfl, rfl, rfl, rfl, rfl, rfl, rfl, rfl, rfl, rfl, trivial⟩ ?_
    refine jn ?_
    refine AWP.drawP hσ _ [_, _, _, _, _, _, _, _, _, _, _, _] [⟨[], 0, 2, none⟩, ⟨[0], 0, 2, none⟩, ⟨[], 0, 0, none⟩, ⟨[2], 0, 0, none⟩, ⟨[], 0, 0, none⟩, ⟨[2, 3, 4], 0, 0, none⟩, ⟨[2, 3, 4, 5], 0, 0, none⟩, ⟨[2, 3, 4, 5, 6], 0, 0, some 0⟩, ⟨[2, 3, 4, 5, 6, 7], 0, 0, some 1⟩, ⟨[0, 1, 2, 3, 4, 5, 6, 7, 8], 0, 0, some 2⟩, ⟨[0, 1, 2, 3, 4, 5, 6, 7, 8, 9], 3, 3, none⟩, ⟨[0, 1, 2, 3, 4, 5, 6, 7, 8, 9, 10], 0, 0, some 3⟩] [7, 8, 9, 11] [_, _, _, _, _] [[], [45000], [900, 45], []] rfl rfl (by decide) (by decide) (by kernel_rfl) (And.intro (And.intro (And.intro (Val.of hσ rfl rfl) rfl) (And.intro (And.intro (Val.of hσ rfl rfl) rfl) (And.intro (Val.of hσ rfl rfl) rfl))) (And.intro (And.intro (And.intro (Val.of hσ rfl rfl) rfl) (And.intro (And.intro (Val.of hσ rfl rfl) rfl) (And.intro (Val.of hσ rfl rfl) rfl))) (And.intro (And.intro (Val.of hσ rfl rfl) rfl) (And.intro (And.intro (Val.of hσ rfl rfl) rfl) (And.intro (And.intro (Val.of hσ rfl rfl) rfl) (And.intro (And.intro (Val.indexN hσ rfl rfl rfl rfl rfl rfl rfl rfl (idxN (by first | omega | (simp at *; omega)))) rfl) (And.intro (And.intro (Val.of hσ rfl rfl) rfl) (And.intro (And.intro (Eff.p (Eff.rows hσ (B0 := 45000) rfl rfl rfl rfl (c148o (t := s.facts.getD i default) h1 h2) (VAs.self rfl) rfl rfl rfl rfl rfl)) rfl) (And.intro (And.intro (Eff.litAbs (l := 45000) (ds := Tm.cells (s.facts.getD i default)) hσ rfl rfl rfl rfl rfl rfl rfl rfl rfl rfl rfl rfl (fun e => .d rfl (.rs rfl (List.length_map _).symm .nil)) rfl rfl) rfl) (And.intro (And.intro (Eff.appMove (xs := (keepF U s.facts i).map Tm.cells) (ys := [Tm.cells (s.facts.getD i default)]) (zs := (keepF U s.facts (i + 1)).map Tm.cells) (n := (keepF U s.facts (i + 1)).length) hσ rfl rfl rfl rfl rfl rfl rfl rfl rfl rfl rfl rfl rfl rfl rfl rfl (.row rfl (List.length_map _).symm) rfl rfl (by decide) rfl (by simp; omega) (by simp; omega) (by rw [keepF_T hc33, List.map_append]; rfl) (by simp) rfl) rfl) (And.intro (And.intro (Val.of hσ rfl rfl) rfl) (And.intro (And.intro (Eff.p (Eff.storeBox hσ rfl rfl rfl rfl rfl rfl rfl rfl rfl rfl rfl rfl rfl)) rfl) trivial)))))))))))) ?_
    refine AWP.forget [(11, _), (33, _), (10, _), (29, _), (1, _), (2, _), (4, _), (7, _), (8, _), (26, _), (27, _), (28, _)] ⟨rfl, rfl, rfl, rfl, rfl, rfl, rfl, rfl, rfl, rfl, rfl, rfl, trivial⟩ ?_
    apply AWP.norm
    ·
     repeat' (first | exact jq0 rfl | apply jq1 rfl | exact jq2 rfl | exact jq9 rfl | apply jq3 rfl | exact jq4 rfl | apply jq5 rfl | exact jq6 rfl | exact jq7 rfl | exact jq8)
    refine AWP.region ?_
    refine jst hσ rfl rfl rfl rfl rfl ?_
    refine jst hσ rfl rfl rfl rfl rfl ?_
    refine jf [(49, _), (48, _), (33, _), (10, _), (29, _), (1, _), (2, _), (4, _), (7, _), (8, _), (26, _), (27, _), (28, _)] ⟨rfl, rfl, rfl, rfl, rfl, rfl, rfl, rfl, rfl, rfl, rfl, rfl, rfl, trivial⟩ ?_
    refine AOps.heap (HS.lit hσ rfl rfl rfl) rfl ?_
    apply AOps.norm
    ·
     repeat' (first | exact jq0 rfl | apply jq1 rfl | exact jq2 rfl | exact jq9 rfl | apply jq3 rfl | exact jq4 rfl | apply jq5 rfl | exact jq6 rfl | exact jq7 rfl | exact jq8)
    refine jf [(50, _), (48, _), (33, _), (10, _), (29, _), (1, _), (2, _), (4, _), (7, _), (8, _), (26, _), (27, _), (28, _)] ⟨rfl, rfl, rfl, rfl, rfl, rfl, rfl, rfl, rfl, rfl, rfl, rfl, rfl, trivial⟩ ?_
    refine AOps.heap (HS.appMove (zs := (keepP U s.facts (i + 1)).map fun n => [.int .i64 n]) (n := i + 1) hσ rfl rfl rfl rfl rfl rfl rfl rfl rfl rfl rfl rfl rfl rfl rfl rfl (.row rfl (by simp [keepP_length])) rfl rfl (by decide) rfl (by simp [keepP_length]; omega) (by simp [keepP_length]; omega) (by first | (rw [keepP_T hc33, List.map_append]; rfl) | (rw [keepP_F hc33, List.map_append]; rfl)) (by simp [keepP_length])) rfl ?_
    apply AOps.norm
    ·
     repeat' (first | exact jq0 rfl | apply jq1 rfl | exact jq2 rfl | exact jq9 rfl | apply jq3 rfl | exact jq4 rfl | apply jq5 rfl | exact jq6 rfl | exact jq7 rfl | exact jq8)
    apply AOps.norm
    ·
     repeat' (first | exact jq0 rfl | apply jq1 rfl | exact jq2 rfl | exact jq9 rfl | apply jq3 rfl | exact jq4 rfl | apply jq5 rfl | exact jq6 rfl | exact jq7 rfl | exact jq8)
    refine jf [(51, _), (33, _), (10, _), (29, _), (1, _), (2, _), (4, _), (7, _), (8, _), (26, _), (27, _), (28, _)] ⟨rfl, rfl, rfl, rfl, rfl, rfl, rfl, rfl, rfl, rfl, rfl, rfl, trivial⟩ ?_
    refine AOps.heap (HS.storeBox hσ rfl rfl rfl rfl rfl rfl rfl rfl rfl rfl rfl) rfl ?_
    apply AOps.norm
    ·
     repeat' (first | exact jq0 rfl | apply jq1 rfl | exact jq2 rfl | exact jq9 rfl | apply jq3 rfl | exact jq4 rfl | apply jq5 rfl | exact jq6 rfl | exact jq7 rfl | exact jq8)
    refine jn ?_
    refine AWP.region ?_
    first | refine AOps.step (Val.fits64 hσ rfl rfl (by first | omega | (simp at *; omega)) (by first | omega | (simp at *; omega))) rfl rfl rfl ?_ | refine AOps.step (Val.vif hσ rfl rfl (by first | omega | (simp at *; omega))) rfl rfl rfl ?_
    refine jst hσ rfl rfl rfl rfl rfl ?_
    refine jn ?_
    refine ⟨i + 1, (((Ent.sel [4, 7, 8, 46, 51, 902] (e' := [(1, _), (2, _), (4, _), (7, _), (8, _), (26, _), (27, _), (28, _)]) rfl rfl ⟨rfl, rfl, rfl, rfl, rfl, rfl, rfl, rfl, trivial⟩ rfl).trans (Ent.sub2 46 900 rfl rfl)).trans (Ent.sub2 51 901 rfl rfl)), by omega, by omega⟩
   ·
    try simp only [List.length_map, beq_iff_eq, decide_eq_true_eq, decide_eq_false_iff_not, Bool.not_eq_true', Bool.not_eq_false', Bool.not_true, Bool.not_false, Int.not_lt, Int.not_le] at hc33
    refine AWP.skip ?_
    refine AWP.region ?_
    refine jst hσ rfl rfl rfl rfl rfl ?_
    refine jst hσ rfl rfl rfl rfl rfl ?_
    refine jf [(49, _), (48, _), (33, _), (10, _), (9, _), (29, _), (1, _), (2, _), (4, _), (7, _), (8, _), (26, _), (27, _), (28, _)] ⟨rfl, rfl, rfl, rfl, rfl, rfl, rfl, rfl, rfl, rfl, rfl, rfl, rfl, rfl, trivial⟩ ?_
    refine AOps.heap (HS.lit hσ rfl rfl rfl) rfl ?_
    apply AOps.norm
    ·
     repeat' (first | exact jq0 rfl | apply jq1 rfl | exact jq2 rfl | exact jq9 rfl | apply jq3 rfl | exact jq4 rfl | apply jq5 rfl | exact jq6 rfl | exact jq7 rfl | exact jq8)
    refine jf [(50, _), (48, _), (33, _), (10, _), (9, _), (29, _), (1, _), (2, _), (4, _), (7, _), (8, _), (26, _), (27, _), (28, _)] ⟨rfl, rfl, rfl, rfl, rfl, rfl, rfl, rfl, rfl, rfl, rfl, rfl, rfl, rfl, trivial⟩ ?_
    refine AOps.heap (HS.appMove (zs := (keepP U s.facts (i + 1)).map fun n => [.int .i64 n]) (n := i + 1) hσ rfl rfl rfl rfl rfl rfl rfl rfl rfl rfl rfl rfl rfl rfl rfl rfl (.row rfl (by simp [keepP_length])) rfl rfl (by decide) rfl (by simp [keepP_length]; omega) (by simp [keepP_length]; omega) (by first | (rw [keepP_T hc33, List.map_append]; rfl) | (rw [keepP_F hc33, List.map_append]; rfl)) (by simp [keepP_length])) rfl ?_
    apply AOps.norm
    ·
     repeat' (first | exact jq0 rfl | apply jq1 rfl | exact jq2 rfl | exact jq9 rfl | apply jq3 rfl | exact jq4 rfl | apply jq5 rfl | exact jq6 rfl | exact jq7 rfl | exact jq8)
    apply AOps.norm
    ·
     repeat' (first | exact jq0 rfl | apply jq1 rfl | exact jq2 rfl | exact jq9 rfl | apply jq3 rfl | exact jq4 rfl | apply jq5 rfl | exact jq6 rfl | exact jq7 rfl | exact jq8)
    refine jf [(51, _), (33, _), (10, _), (9, _), (29, _), (1, _), (2, _), (4, _), (7, _), (8, _), (26, _), (27, _), (28, _)] ⟨rfl, rfl, rfl, rfl, rfl, rfl, rfl, rfl, rfl, rfl, rfl, rfl, rfl, trivial⟩ ?_
    refine AOps.heap (HS.storeBox hσ rfl rfl rfl rfl rfl rfl rfl rfl rfl rfl rfl) rfl ?_
    apply AOps.norm
    ·
     repeat' (first | exact jq0 rfl | apply jq1 rfl | exact jq2 rfl | exact jq9 rfl | apply jq3 rfl | exact jq4 rfl | apply jq5 rfl | exact jq6 rfl | exact jq7 rfl | exact jq8)
    refine jn ?_
    refine AWP.region ?_
    first | refine AOps.step (Val.fits64 hσ rfl rfl (by first | omega | (simp at *; omega)) (by first | omega | (simp at *; omega))) rfl rfl rfl ?_ | refine AOps.step (Val.vif hσ rfl rfl (by first | omega | (simp at *; omega))) rfl rfl rfl ?_
    refine jst hσ rfl rfl rfl rfl rfl ?_
    refine jn ?_
    rw [← keepF_F (ts := s.facts) hc33]
    refine ⟨i + 1, ((Ent.sel [4, 7, 8, 900, 51, 902] (e' := [(1, _), (2, _), (4, _), (7, _), (8, _), (26, _), (27, _), (28, _)]) rfl rfl ⟨rfl, rfl, rfl, rfl, rfl, rfl, rfl, rfl, trivial⟩ rfl).trans (Ent.sub2 51 901 rfl rfl)), by omega, by omega⟩
  ·
   try simp only [List.length_map, beq_iff_eq, decide_eq_true_eq, decide_eq_false_iff_not, Bool.not_eq_true', Bool.not_eq_false', Bool.not_true, Bool.not_false, Int.not_lt, Int.not_le] at hc29
   refine AWP.exit ?_
   refine jsr ?_
   have hie : i = s.facts.length := by omega
   have hfl := keepF_le (us := U) (ts := s.facts) (i := i)
   rw [← hie] at hFP
   rw [hFP.1, hFP.2]
   refine jst hσ rfl rfl rfl rfl rfl ?_
   refine jst hσ rfl rfl rfl rfl rfl ?_
   first | refine AOps.step (Val.lenD hσ rfl rfl rfl rfl rfl rfl rfl rfl) rfl rfl rfl ?_ | refine jst hσ rfl rfl rfl rfl rfl ?_ | refine AOps.step (Val.vif hσ rfl rfl (by first | omega | (simp at *; omega))) rfl rfl rfl ?_
   refine jst hσ rfl rfl rfl rfl rfl ?_
   refine jst hσ rfl rfl rfl rfl rfl ?_
   first | refine AOps.step (Val.lenD hσ rfl rfl rfl rfl rfl rfl rfl rfl) rfl rfl rfl ?_ | refine jst hσ rfl rfl rfl rfl rfl ?_ | refine AOps.step (Val.vif hσ rfl rfl (by first | omega | (simp at *; omega))) rfl rfl rfl ?_
   first | refine AOps.step (Val.fits64 hσ rfl rfl (by first | omega | (simp at *; omega)) (by first | omega | (simp at *; omega))) rfl rfl rfl ?_ | refine AOps.step (Val.vif hσ rfl rfl (by first | omega | (simp at *; omega))) rfl rfl rfl ?_
   refine jf [(59, _), (29, _), (1, _), (2, _), (4, _), (7, _), (8, _), (26, _), (27, _), (28, _)] ⟨rfl, rfl, rfl, rfl, rfl, rfl, rfl, rfl, rfl, rfl, trivial⟩ ?_
   refine AOps.heap (HS.alloc hσ rfl rfl rfl rfl rfl) rfl ?_
   apply AOps.norm
   ·
    repeat' (first | exact jq0 rfl | apply jq1 rfl | exact jq2 rfl | exact jq9 rfl | apply jq3 rfl | exact jq4 rfl | apply jq5 rfl | exact jq6 rfl | exact jq7 rfl | exact jq8)
   refine AOps.heap (HS.storeBox hσ rfl rfl rfl rfl rfl rfl rfl rfl rfl rfl rfl) rfl ?_
   apply AOps.norm
   ·
    repeat' (first | exact jq0 rfl | apply jq1 rfl | exact jq2 rfl | exact jq9 rfl | apply jq3 rfl | exact jq4 rfl | apply jq5 rfl | exact jq6 rfl | exact jq7 rfl | exact jq8)
   refine jn ?_
   refine AWP.seq ?_
   subst hie
   have hcm : MC Try.prog L 54 [ands p, .c (.fn 55 [.d (.ptr [.int .i64 ((s.facts.length : Int) - (dropFacts s p).length)] 0)]), .c (.fn 56 [.d (.ptr [ints (dropPl s p)] 0), .d (.ptr [.int .i64 ((s.facts.length : Int) - (dropFacts s p).length)] 0)])] [] (Rows (.c (.rs 0 0 p.length)) [ndrow (dropNds s p)]) := by
    rw [← drop_map hv]
    refine c1021a h1 h2 (drop_ok hv) (fun k hk => c1022 h1 h2 (by omega) hk) (fun k hk => ?_)
    have h9 := c1023 (P := dropPl s p) (k := k) (less := (s.facts.length : Int) - (dropFacts s p).length) h1 h2 (by omega) hk
    rw [show (dropPl s p).length = s.facts.length from keepP_length] at h9
    exact h9
   refine AWP.drawR hσ _ [_, _, _, _, _, _, _, _] [⟨[], 0, 1, none⟩, ⟨[], 0, 0, none⟩, ⟨[], 0, 0, none⟩, ⟨[], 0, 0, none⟩, ⟨[1, 2, 3], 0, 0, some 0⟩, ⟨[0, 1, 2, 3, 4], 0, 0, some 1⟩, ⟨[0, 1, 2, 3, 4, 5], 2, 2, none⟩, ⟨[0, 1, 2, 3, 4, 5, 6], 2, 2, none⟩] [4, 5] [_, _, _] rfl rfl (by decide) (by decide) (by kernel_rfl) (And.intro (And.intro (Val.of hσ rfl rfl) (Val.of hσ rfl rfl)) (And.intro (Val.of hσ rfl rfl) (And.intro (Val.of hσ rfl rfl) (And.intro (Val.of hσ rfl rfl) (And.intro (Eff.rows hσ (B0 := 65000) rfl rfl rfl rfl (hcm) (.cons (.c .d) (.cons (.c (.fn (.cons (.pb rfl (VMs.self rfl)) .nil))) (.cons (.c (.fn (.cons (.pb rfl (.cons (.whole rfl (by rw [List.length_map, keepP_length])) .nil)) (.cons (.pb rfl (VMs.self rfl)) .nil)))) .nil))) rfl rfl rfl rfl rfl) (And.intro (Eff.storeBox hσ rfl rfl rfl rfl rfl rfl rfl rfl rfl rfl rfl rfl rfl) (And.intro (Val.of hσ rfl rfl) (And.intro (Val.of hσ rfl rfl) trivial)))))))) ?_
   refine AWP.forget [(6, _), (5, _), (12, _), (59, _), (29, _), (1, _), (2, _), (4, _), (7, _), (8, _), (26, _), (27, _), (28, _)] ⟨rfl, rfl, rfl, rfl, rfl, rfl, rfl, rfl, rfl, rfl, rfl, rfl, rfl, trivial⟩ ?_
   apply AWP.norm
   ·
    repeat' (first | exact jq0 rfl | apply jq1 rfl | exact jq2 rfl | exact jq9 rfl | apply jq3 rfl | exact jq4 rfl | apply jq5 rfl | exact jq6 rfl | exact jq7 rfl | exact jq8)
   refine AWP.ret ?_
   refine ⟨.inl rfl, _, Ent.refl, _, rfl, [900, 902, 65000], by decide, rfl, rfl, rfl⟩
theorem c1007n {L : Nat} (h1 : 4096 ≤ L) (h2 : L ≤ 1073741824) {s : Sq} {p : List Nd} (hn : chkS s p = false) : MC Try.prog L 14 [aSq s, ands p] [] (Rows (.tup [.agg [.d .nils, .d (.int .i64 0), .d .nils], .c (.d .nils), eB false]) []) := by
 refine MC.rows ?_
 have hσ := SGok (nt := 65) h1 (Nat.le_trans h2 (by decide))
 refine MC.body hσ Try.func14 (by kernel_rfl) rfl rfl (Nat.le_of_ble_eq_true rfl) (fun hF => ?_)
 refine jsr ?_
 refine AOps.heap (HS.box hσ rfl rfl rfl rfl rfl rfl rfl) rfl ?_
 apply AOps.norm
 ·
  repeat' (first | exact jq0 rfl | apply jq1 rfl | exact jq2 rfl | exact jq9 rfl | apply jq3 rfl | exact jq4 rfl | apply jq5 rfl | exact jq6 rfl | exact jq7 rfl | exact jq8)
 refine jf [(2, _), (1, _)] ⟨rfl, rfl, trivial⟩ ?_
 refine AOps.heap (HS.alloc hσ rfl rfl rfl rfl rfl) rfl ?_
 apply AOps.norm
 ·
  repeat' (first | exact jq0 rfl | apply jq1 rfl | exact jq2 rfl | exact jq9 rfl | apply jq3 rfl | exact jq4 rfl | apply jq5 rfl | exact jq6 rfl | exact jq7 rfl | exact jq8)
 refine jst hσ rfl rfl rfl rfl rfl ?_
 refine jst hσ rfl rfl rfl rfl rfl ?_
 refine jn ?_
 refine AWP.seq ?_
 refine jsr ?_
 refine jst hσ rfl rfl rfl rfl rfl ?_
 refine jst hσ rfl rfl rfl rfl rfl ?_
 refine AOps.lone hσ rfl rfl rfl rfl ((c96 (s := s) (p := p) h1 h2).plain (u := eB false) (by rw [hn])) (VAs.self rfl) rfl rfl rfl rfl rfl (B0 := 16000) rfl ?_
 refine jst hσ rfl rfl rfl rfl rfl ?_
 refine jf [(16, _), (6, _), (5, _), (4, _), (2, _), (1, _)] ⟨rfl, rfl, rfl, rfl, rfl, rfl, trivial⟩ ?_
 refine jn ?_
 refine AWP.cond hσ rfl rfl (fun hc16 => ?_) (fun hc16 => ?_)
 ·
  skip
  refine jsr ?_
  refine jst hσ rfl rfl rfl rfl rfl ?_
  refine jf [(17, _), (6, _), (5, _), (4, _), (2, _), (1, _)] ⟨rfl, rfl, rfl, rfl, rfl, rfl, trivial⟩ ?_
  refine AOps.heap (HS.storeBox hσ rfl rfl rfl rfl rfl rfl rfl rfl rfl rfl rfl) rfl ?_
  apply AOps.norm
  ·
   repeat' (first | exact jq0 rfl | apply jq1 rfl | exact jq2 rfl | exact jq9 rfl | apply jq3 rfl | exact jq4 rfl | apply jq5 rfl | exact jq6 rfl | exact jq7 rfl | exact jq8)
  refine jst hσ rfl rfl rfl rfl rfl ?_
  refine jst hσ rfl rfl rfl rfl rfl ?_
  refine jn ?_
  refine AWP.ret ?_
  refine ⟨.inl rfl, _, Ent.refl, _, rfl, [], by decide, rfl, rfl, rfl⟩
 ·
  skip
  cases hc16
end Go.Al
