/- Nodes whose facts stand elsewhere; both sides. -/
import Derived.Test.YthceepaoikcceaaJ
namespace Go.Al
open Go.Proofs
set_option linter.unusedVariables false
set_option linter.unusedSimpArgs false
set_option maxRecDepth 10000
abbrev mSq (k : Int) (s : Sq) : Sq := ⟨markL mT nT k s.facts, ⟨s.goal.c, markL mI oneI (k + cnt nT s.facts) s.goal.xs⟩⟩
abbrev nrows (p : List Nd) : B := .row false 5 (p.map Nd.cells)
theorem c1009 {L : Nat} (h1 : 4096 ≤ L) (h2 : L ≤ 1073741824) {ts : List Nd} {k : Int} (hk0 : 0 ≤ k) (hk1 : k + cnt nN ts ≤ 1073741824) : MC Try.prog L 20 [ands (markL mN nN k ts), eI k] [] (Plain (eI (k + cnt nN ts))) := by
 refine MC.alone ?_ rfl
 have hσ := SGok (nt := 60) h1 (Nat.le_trans h2 (by decide))
 refine MC.body hσ Try.func20 (by kernel_rfl) rfl rfl (Nat.le_of_ble_eq_true rfl) (fun hF => ?_)
 have hlm := markL_length (f := mN) (sz := nN) (k := k) (l := ts)
 have hl : (markL mN nN k ts).length ≤ L := by simpa [As.fact, A.fact, M.fact, D.fact, Ds.fact] using hF.1.1
 refine jsr ?_
 refine jst hσ rfl rfl rfl rfl rfl ?_
 refine jn ?_
 refine AWP.seq ?_
 refine jsr ?_
 refine jst hσ rfl rfl rfl rfl rfl ?_
 refine jn ?_
 refine AWP.block ?_
 refine AWP.loopP (X := Nat) (fun i => ⟨[(0, ands (markL mN nN k ts)), (1, eI (k + cnt nN (ts.take i))), (5, eI i)], []⟩) (fun i => i ≤ ts.length) (fun i => ts.length - i) 0 (Ent.env ⟨rfl, by simp [numbered, lk_cons, cnt], rfl, trivial⟩) ?_ (fun i hi => ?_)
 ·
  exact Nat.zero_le _
 refine AWP.seq ?_
 refine jsr ?_
 iterate 2 refine jst hσ rfl rfl rfl rfl rfl ?_
 first | refine jle hσ rfl rfl rfl rfl rfl rfl rfl rfl rfl rfl rfl ?_ | refine jst hσ rfl rfl rfl rfl rfl ?_ | refine jvf hσ rfl rfl rfl rfl rfl ?_
 refine jst hσ rfl rfl rfl rfl rfl ?_
 refine jf4 9 0 1 5 rfl rfl rfl rfl ?_
 refine jn ?_
 refine AWP.cond hσ rfl rfl (fun hc9 => ?_) (fun hc9 => ?_)
 ·
  skip
  refine AWP.skip ?_
  refine AWP.seq ?_
  refine AWP.block ?_
  refine AWP.seq ?_
  refine jsr ?_
  have hil : i < ts.length := by have h9 := of_decide_eq_true hc9; omega
  have hg := markL_getD (f := mN) (sz := nN) (k := k) hil
  have hcs := cnt_succ (sz := nN) hil
  have hcl := cnt_le (sz := nN) (l := ts) (i := i + 1)
  rw [← getD_lt hil] at hcs
  obtain ⟨t, ht⟩ : ∃ t, t = ts.getD i default := ⟨_, rfl⟩
  rw [← ht] at hg hcs
  simp only [nN] at hcs
  obtain ⟨K, hK⟩ : ∃ K, K = k + (cnt nN (ts.take i) : Int) := ⟨_, rfl⟩
  rw [← hK] at hg ⊢
  iterate 2 refine jst hσ rfl rfl rfl rfl rfl ?_
  refine AOps.step ((Val.indexN hσ rfl rfl rfl rfl rfl rfl rfl rfl (idxN (by omega))).cast (v' := ptr (Nd.cells (mN K t))) (by rw [hg])) rfl rfl rfl ?_
  iterate 4 refine jst hσ rfl rfl rfl rfl rfl ?_
  refine jf5 18 9 0 1 5 rfl rfl rfl rfl rfl ?_
  refine jn ?_
  refine AWP.cond hσ rfl rfl (fun hc18 => ?_) (fun hc18 => ?_)
  ·
   skip
   exact absurd hc18 (by simp)
  ·
   skip
   refine AWP.skip ?_
   refine jsr ?_
   refine jst hσ rfl rfl rfl rfl rfl ?_
   first | refine jfi hσ rfl rfl rfl rfl rfl ?_ | refine jvf hσ rfl rfl rfl rfl rfl ?_
   refine jst hσ rfl rfl rfl rfl rfl ?_
   refine jf5 1 18 9 0 5 rfl rfl rfl rfl rfl ?_
   refine jn ?_
   refine AWP.seq ?_
   refine jsr ?_
   iterate 2 refine jst hσ rfl rfl rfl rfl rfl ?_
   refine AOps.step ((Val.indexN hσ rfl rfl rfl rfl rfl rfl rfl rfl (idxN (by omega))).cast (v' := ptr (Nd.cells (mN K t))) (by rw [hg])) rfl rfl rfl ?_
   iterate 4 refine jst hσ rfl rfl rfl rfl rfl ?_
   refine jf6 27 1 18 9 0 5 rfl rfl rfl rfl rfl rfl ?_
   refine jn ?_
   refine AWP.cond hσ rfl rfl (fun hc27 => ?_) (fun hc27 => ?_)
   ·
    skip
    exact absurd hc27 (by simp)
   ·
    skip
    refine AWP.skip ?_
    refine jsr ?_
    refine jst hσ rfl rfl rfl rfl rfl ?_
    first | refine jfi hσ rfl rfl rfl rfl rfl ?_ | refine jvf hσ rfl rfl rfl rfl rfl ?_
    refine jst hσ rfl rfl rfl rfl rfl ?_
    refine jf6 1 27 18 9 0 5 rfl rfl rfl rfl rfl rfl ?_
    refine jn ?_
    refine AWP.seq ?_
    refine jsr ?_
    iterate 2 refine jst hσ rfl rfl rfl rfl rfl ?_
    refine AOps.step ((Val.indexN hσ rfl rfl rfl rfl rfl rfl rfl rfl (idxN (by omega))).cast (v' := ptr (Nd.cells (mN K t))) (by rw [hg])) rfl rfl rfl ?_
    iterate 5 refine jst hσ rfl rfl rfl rfl rfl ?_
    refine jf7 37 1 27 18 9 0 5 rfl rfl rfl rfl rfl rfl rfl ?_
    refine jn ?_
    refine AWP.cond hσ rfl rfl (fun hc37 => ?_) (fun hc37 => ?_)
    ·
     skip
     exact absurd hc37 (by simp)
    ·
     skip
     refine AWP.skip ?_
     refine jsr ?_
     refine jst hσ rfl rfl rfl rfl rfl ?_
     first | refine jfi hσ rfl rfl rfl rfl rfl ?_ | refine jvf hσ rfl rfl rfl rfl rfl ?_
     refine jst hσ rfl rfl rfl rfl rfl ?_
     refine jf7 1 37 27 18 9 0 5 rfl rfl rfl rfl rfl rfl rfl ?_
     refine jns ?_
     iterate 2 refine jst hσ rfl rfl rfl rfl rfl ?_
     refine AOps.step ((Val.indexN hσ rfl rfl rfl rfl rfl rfl rfl rfl (idxN (by omega))).cast (v' := ptr (Nd.cells (mN K t))) (by rw [hg])) rfl rfl rfl ?_
     iterate 4 refine jst hσ rfl rfl rfl rfl rfl ?_
     refine jf9 46 45 1 37 27 18 9 0 5 rfl rfl rfl rfl rfl rfl rfl rfl rfl ?_
     refine AOps.lone hσ rfl rfl rfl rfl ((c21 (xs := markL mI oneI (K + 1 + 1 + 1) t.term.xs) (k := K + 1 + 1 + 1) h1 h2 (by omega) (by omega)).plain (congrArg eI (held_marks t.term.xs (K + 1 + 1 + 1)))) (VAs.self rfl) rfl rfl rfl rfl rfl (B0 := 48000) rfl ?_
     refine jst hσ rfl rfl rfl rfl rfl ?_
     refine jf7 1 37 27 18 9 0 5 rfl rfl rfl rfl rfl rfl rfl ?_
     refine jn ?_
     refine AWP.seq ?_
     refine jsr ?_
     iterate 2 refine jst hσ rfl rfl rfl rfl rfl ?_
     refine jn ?_
     refine AWP.cond hσ rfl rfl (fun hc49 => ?_) (fun hc49 => ?_)
     ·
      skip
      exact absurd (of_decide_eq_true hc49) (by omega)
     ·
      skip
      refine AWP.skip ?_
      refine jsr ?_
      iterate 2 refine jst hσ rfl rfl rfl rfl rfl ?_
      refine AOps.step ((Val.indexN hσ rfl rfl rfl rfl rfl rfl rfl rfl (idxN (by omega))).cast (v' := ptr (Nd.cells (mN K t))) (by rw [hg])) rfl rfl rfl ?_
      iterate 3 refine jst hσ rfl rfl rfl rfl rfl ?_
      refine jf11 55 54 49 48 1 37 27 18 9 0 5 rfl rfl rfl rfl rfl rfl rfl rfl rfl rfl rfl ?_
      refine AOps.lone hσ rfl rfl rfl rfl ((c21 (xs := markL mI oneI (K + 1 + 1 + 1 + t.term.xs.length) t.mul) (k := K + 1 + 1 + 1 + t.term.xs.length) h1 h2 (by omega) (by omega)).plain (congrArg eI (held_marks t.mul (K + 1 + 1 + 1 + t.term.xs.length)))) (VAs.self rfl) rfl rfl rfl rfl rfl (B0 := 57000) rfl ?_
      refine jst hσ rfl rfl rfl rfl rfl ?_
      refine jf9 1 49 48 37 27 18 9 0 5 rfl rfl rfl rfl rfl rfl rfl rfl rfl ?_
      refine jns ?_
      iterate 2 refine jst hσ rfl rfl rfl rfl rfl ?_
      refine jn ?_
      refine AWP.cond hσ rfl rfl (fun hc58 => ?_) (fun hc58 => ?_)
      ·
       skip
       exact absurd (of_decide_eq_true hc58) (by omega)
      ·
       skip
       refine AWP.skip ?_
       refine AWP.region ?_
       refine jst hσ rfl rfl rfl rfl rfl ?_
       first | refine jfi hσ rfl rfl rfl rfl rfl ?_ | refine jvf hσ rfl rfl rfl rfl rfl ?_
       refine jst hσ rfl rfl rfl rfl rfl ?_
       refine jf11 5 58 57 1 49 48 37 27 18 9 0 rfl rfl rfl rfl rfl rfl rfl rfl rfl rfl rfl ?_
       refine jn ?_
       refine ⟨i + 1, Ent.env ⟨rfl, ?_, rfl, trivial⟩, by omega, by omega⟩
       rw [hcs]
       exact congrArg (fun z => some (eI z)) (by omega)
 ·
  skip
  refine AWP.exit ?_
  refine jsr ?_
  iterate 2 refine jst hσ rfl rfl rfl rfl rfl ?_
  refine jn ?_
  refine AWP.ret ?_
  refine ⟨.inl rfl, _, Ent.refl, _, rfl, ?_⟩
  have h9 := of_decide_eq_false hc9
  obtain rfl : i = ts.length := by omega
  rw [List.take_length]
theorem c1025 {L : Nat} (h1 : 4096 ≤ L) (h2 : L ≤ 1073741824) {n : Nat} (hn : n ≤ 1000) : MC Try.prog L 61 [eI n] [] (Rows (.c (.rs 0 0 n)) [nrow (nums n)]) := by
 refine MC.rows ?_
 have hσ := SGok (nt := 16) h1 (Nat.le_trans h2 (by decide))
 refine MC.body hσ Try.func61 (by kernel_rfl) rfl rfl (Nat.le_of_ble_eq_true rfl) (fun hF => ?_)
 refine jsr ?_
 refine jst hσ rfl rfl rfl rfl rfl ?_
 refine jns ?_
 refine AOps.heap (HS.lit hσ rfl rfl rfl) rfl ?_
 refine jst hσ rfl rfl rfl rfl rfl ?_
 refine jn ?_
 refine AWP.seq ?_
 refine jsr ?_
 refine jst hσ rfl rfl rfl rfl rfl ?_
 refine jn ?_
 refine AWP.block ?_
 refine AWP.loopP (X := Nat) (fun i => ⟨[(0, eI n), (3, .c (.rs 900 0 i)), (4, eI i)], [(900, nrow (nums i))]⟩) (fun i => i ≤ n) (fun i => n - i) 0 ((Ent.sub2 5 900 rfl rfl).trans (Ent.to ⟨rfl, rfl, rfl, trivial⟩ rfl)) ?_ (fun i hi => ?_)
 ·
  exact Nat.zero_le _
 refine AWP.seq ?_
 refine jsr ?_
 iterate 3 refine jst hσ rfl rfl rfl rfl rfl ?_
 refine jf4 8 0 3 4 rfl rfl rfl rfl ?_
 refine jn ?_
 refine AWP.cond hσ rfl rfl (fun hc8 => ?_) (fun hc8 => ?_)
 ·
  try simp only [jcs] at hc8
  refine AWP.skip ?_
  refine AWP.seq ?_
  refine AWP.block ?_
  refine AWP.region ?_
  iterate 2 refine jst hσ rfl rfl rfl rfl rfl ?_
  refine AOps.heap (HS.lit hσ rfl rfl rfl) rfl ?_
  refine jf6 13 11 8 0 3 4 rfl rfl rfl rfl rfl rfl ?_
  refine AOps.heap (HS.appMove (zs := (nums (i + 1)).map fun n => [.int .i64 n]) (n := i + 1) hσ rfl rfl rfl rfl rfl rfl rfl rfl rfl rfl rfl rfl rfl rfl rfl rfl (.row rfl (by simp [nums_length])) rfl rfl (by decide) rfl (by simp [nums_length]; omega) (by simp [nums_length]; omega) (by rw [nums_succ, List.map_append]; rfl) (by simp [nums_length])) rfl ?_
  refine jst hσ rfl rfl rfl rfl rfl ?_
  refine jf4 3 8 0 4 rfl rfl rfl rfl ?_
  refine jn ?_
  refine AWP.region ?_
  refine jst hσ rfl rfl rfl rfl rfl ?_
  first | refine jfi hσ rfl rfl rfl rfl rfl ?_ | refine jvf hσ rfl rfl rfl rfl rfl ?_
  refine jst hσ rfl rfl rfl rfl rfl ?_
  refine jf4 4 3 8 0 rfl rfl rfl rfl ?_
  refine jn ?_
  refine ⟨i + 1, ((Ent.sel [14] (e' := [(0, _), (3, _), (4, _)]) rfl rfl ⟨rfl, rfl, rfl, trivial⟩ rfl).trans (Ent.sub2 14 900 rfl rfl)), by omega, by omega⟩
 ·
  try simp only [jcs] at hc8
  refine AWP.exit ?_
  refine jsr ?_
  iterate 2 refine jst hσ rfl rfl rfl rfl rfl ?_
  refine jn ?_
  refine AWP.ret ?_
  obtain rfl : i = n := by omega
  refine ⟨.inl rfl, _, Ent.refl, _, rfl, [900], by decide, rfl, rfl, rfl⟩
theorem c1053 {L : Nat} (h1 : 4096 ≤ L) (h2 : L ≤ 1073741824) {n : Nd} : MC Try.prog L 118 [ptr n.cells] [] (Plain (aNd n)) := by
 refine MC.data ?_
 have hσ := SGok (nt := 21) h1 (Nat.le_trans h2 (by decide))
 refine MC.body hσ Try.func118 (by kernel_rfl) rfl rfl (Nat.le_of_ble_eq_true rfl) (fun hF => ?_)
 refine jsr ?_
 refine AOps.heap (HS.alloc hσ rfl rfl rfl rfl rfl) rfl ?_
 refine jn ?_
 refine AWP.seq ?_
 refine AWP.drawR hσ _ [_, _, _, _, _, _, _, _, _, _, _, _, _, _, _, _, _, _, _] [⟨[], 0, 2, none⟩, ⟨[0], 0, 2, none⟩, ⟨[0, 1], 0, 2, none⟩, ⟨[0, 1, 2], 0, 2, none⟩, ⟨[], 0, 2, none⟩, ⟨[4], 0, 2, none⟩, ⟨[4, 5], 0, 2, none⟩, ⟨[4, 5, 6], 0, 2, none⟩, ⟨[], 0, 0, none⟩, ⟨[8], 0, 0, none⟩, ⟨[8, 9], 0, 0, none⟩, ⟨[8, 9, 10], 0, 0, some 0⟩, ⟨[], 0, 1, none⟩, ⟨[12], 0, 1, none⟩, ⟨[12, 13], 0, 1, none⟩, ⟨[12, 13, 14], 0, 1, none⟩, ⟨[8, 9, 10, 11, 12, 13, 14, 15], 0, 0, some 1⟩, ⟨[0, 1, 2, 3, 4, 5, 6, 7, 8, 9, 10, 11, 12, 13, 14, 15, 16], 2, 2, none⟩, ⟨[0, 1, 2, 3, 4, 5, 6, 7, 8, 9, 10, 11, 12, 13, 14, 15, 16, 17], 0, 0, some 2⟩] [11, 16, 18] [_, _, _, _] rfl rfl (by decide) (by decide) (by kernel_rfl) (And.intro (And.intro (Val.of hσ rfl rfl) (And.intro (Val.of hσ rfl rfl) (Val.of hσ rfl rfl))) (And.intro (And.intro (Val.of hσ rfl rfl) (And.intro (Val.of hσ rfl rfl) (Val.of hσ rfl rfl))) (And.intro (And.intro (Val.of hσ rfl rfl) (And.intro (Val.of hσ rfl rfl) (Val.of hσ rfl rfl))) (And.intro (And.intro (Val.of hσ rfl rfl) (And.intro (Val.of hσ rfl rfl) (Val.of hσ rfl rfl))) (And.intro (And.intro (Val.of hσ rfl rfl) (And.intro (Val.of hσ rfl rfl) (Val.of hσ rfl rfl))) (And.intro (And.intro (Val.of hσ rfl rfl) (And.intro (Val.of hσ rfl rfl) (Val.of hσ rfl rfl))) (And.intro (And.intro (Val.of hσ rfl rfl) (And.intro (Val.of hσ rfl rfl) (Val.of hσ rfl rfl))) (And.intro (And.intro (Val.of hσ rfl rfl) (And.intro (Val.of hσ rfl rfl) (Val.of hσ rfl rfl))) (And.intro (Val.of hσ rfl rfl) (And.intro (Val.of hσ rfl rfl) (And.intro (Val.of hσ rfl rfl) (And.intro (Eff.plainD hσ (B0 := 15000) rfl rfl rfl rfl (c143 (t := n.term) h1 h2) (.cons (.c (.sub rfl)) .nil) rfl rfl rfl rfl rfl) (And.intro (And.intro (Val.of hσ rfl rfl) (Val.of hσ rfl rfl)) (And.intro (And.intro (Val.of hσ rfl rfl) (Val.of hσ rfl rfl)) (And.intro (And.intro (Val.of hσ rfl rfl) (Val.of hσ rfl rfl)) (And.intro (And.intro (Val.of hσ rfl rfl) (Val.of hσ rfl rfl)) (And.intro (Eff.plainD hσ (B0 := 20000) rfl rfl rfl rfl (c151d (xs := n.mul) h1 h2) (VAs.self rfl) rfl rfl rfl rfl rfl) (And.intro (Val.of hσ rfl rfl) (And.intro (Eff.storeBox hσ rfl rfl rfl rfl rfl rfl rfl rfl rfl rfl rfl rfl rfl) trivial))))))))))))))))))) ?_
 refine AWP.forget [(2, _)] ⟨rfl, trivial⟩ ?_
 refine jnw ?_
 refine AWP.ret ?_
 refine ⟨.inl rfl, _, Ent.refl, _, rfl, ?_⟩
 exact .v (.agg (VMs.self rfl))
theorem c1042 {L : Nat} (h1 : 4096 ≤ L) (h2 : L ≤ 1073741824) {ts : List Nd} : MC Try.prog L 89 [ands ts] [] (Rows (.c (.rs 0 0 ts.length)) [nrows ts]) := by
 refine MC.rows ?_
 have hσ := SGok (nt := 20) h1 (Nat.le_trans h2 (by decide))
 refine MC.body hσ Try.func89 (by kernel_rfl) rfl rfl (Nat.le_of_ble_eq_true rfl) (fun hF => ?_)
 have hl : ts.length ≤ L := by simpa [As.fact, A.fact, M.fact, D.fact, Ds.fact] using hF.1.1
 refine jsr ?_
 refine jst hσ rfl rfl rfl rfl rfl ?_
 refine jns ?_
 refine AOps.heap (HS.lit hσ rfl rfl rfl) rfl ?_
 refine jst hσ rfl rfl rfl rfl rfl ?_
 refine jn ?_
 refine AWP.seq ?_
 refine jsr ?_
 refine jst hσ rfl rfl rfl rfl rfl ?_
 refine jn ?_
 refine AWP.block ?_
 refine AWP.loopP (X := Nat) (fun i => ⟨[(0, ands ts), (3, .c (.rs 900 0 i)), (4, eI i)], [(900, nrows (ts.take i))]⟩) (fun i => i ≤ ts.length) (fun i => ts.length - i) 0 ((Ent.unown 5 rfl).trans ((Ent.sub2 5 900 rfl rfl).trans (Ent.to ⟨rfl, rfl, rfl, trivial⟩ rfl))) ?_ (fun i hi => ?_)
 ·
  exact Nat.zero_le _
 refine AWP.seq ?_
 refine jsr ?_
 iterate 2 refine jst hσ rfl rfl rfl rfl rfl ?_
 first | refine jle hσ rfl rfl rfl rfl rfl rfl rfl rfl rfl rfl rfl ?_ | refine jst hσ rfl rfl rfl rfl rfl ?_ | refine jvf hσ rfl rfl rfl rfl rfl ?_
 refine jst hσ rfl rfl rfl rfl rfl ?_
 refine jf4 9 0 3 4 rfl rfl rfl rfl ?_
 refine jn ?_
 refine AWP.cond hσ rfl rfl (fun hc9 => ?_) (fun hc9 => ?_)
 ·
  try simp only [jcs] at hc9
  refine AWP.skip ?_
  refine AWP.seq ?_
  refine AWP.block ?_
  refine AWP.region ?_
  iterate 3 refine jst hσ rfl rfl rfl rfl rfl ?_
  first | refine jix hσ rfl rfl rfl rfl rfl rfl rfl rfl rfl rfl rfl ?_ | refine jvf hσ rfl rfl rfl rfl rfl ?_
  refine jf6 15 12 9 0 3 4 rfl rfl rfl rfl rfl rfl ?_
  refine AOps.plainD hσ rfl rfl rfl rfl (c1053 h1 h2) (VAs.self rfl) rfl rfl rfl rfl (B0 := 17000) rfl rfl ?_
  refine jf6 16 12 9 0 3 4 rfl rfl rfl rfl rfl rfl ?_
  refine AOps.heap (HS.litD hσ rfl rfl rfl rfl rfl rfl rfl rfl rfl rfl rfl) rfl ?_
  refine jf6 17 12 9 0 3 4 rfl rfl rfl rfl rfl rfl ?_
  refine AOps.heap (HS.appCopy (own := false) (zs := (ts.take (i + 1)).map Nd.cells) (n := i + 1) hσ rfl rfl rfl rfl rfl rfl rfl rfl rfl rfl rfl rfl rfl rfl rfl rfl (.row rfl (by simp; omega)) (.whole rfl rfl (.inr ⟨rfl, rfl⟩)) (by simp) rfl (by simp; omega) (by simp; omega) (by rw [List.take_succ_eq_append_getElem (by omega), List.map_append, Int.toNat_natCast, getD_lt (by omega)]; rfl) (by simp; omega)) rfl ?_
  refine jst hσ rfl rfl rfl rfl rfl ?_
  refine jf4 3 9 0 4 rfl rfl rfl rfl ?_
  refine jn ?_
  refine AWP.region ?_
  refine jst hσ rfl rfl rfl rfl rfl ?_
  first | refine jfi hσ rfl rfl rfl rfl rfl ?_ | refine jvf hσ rfl rfl rfl rfl rfl ?_
  refine jst hσ rfl rfl rfl rfl rfl ?_
  refine jf4 4 3 9 0 rfl rfl rfl rfl ?_
  refine jn ?_
  refine ⟨i + 1, ((Ent.sel [18] (e' := [(0, _), (3, _), (4, _)]) rfl rfl ⟨rfl, rfl, rfl, trivial⟩ rfl).trans (Ent.sub2 18 900 rfl rfl)), by omega, by omega⟩
 ·
  try simp only [jcs] at hc9
  refine AWP.exit ?_
  refine jsr ?_
  iterate 2 refine jst hσ rfl rfl rfl rfl rfl ?_
  refine jn ?_
  refine AWP.ret ?_
  obtain rfl : i = ts.length := by omega
  rw [List.take_length]
  refine ⟨.inl rfl, _, Ent.refl, _, rfl, [900], by decide, rfl, rfl, rfl⟩
end Go.Al
namespace Go.Al
open Go.Proofs
set_option linter.unusedVariables false
set_option linter.unusedSimpArgs false
set_option maxRecDepth 10000
def blend (f : Nd → Nd) (i : Nat) (p : List Nd) : List Nd := (p.take i).map f ++ p.drop i
theorem blend_length {f : Nd → Nd} {p : List Nd} {i : Nat} (h : i ≤ p.length) : (blend f i p).length = p.length := by
  simp [blend]; omega
theorem blend_get {f : Nd → Nd} {p : List Nd} {i : Nat} (h : i < p.length) : (blend f i p)[i]? = some (p.getD i default) := by
  unfold blend
  rw [List.getElem?_append_right (by simp; omega), List.length_map, List.length_take, Nat.min_eq_left (by omega), Nat.sub_self, List.getElem?_drop, getD_lt h]
  simp [h]
theorem blend_succ {f : Nd → Nd} {p : List Nd} {i : Nat} (h : i < p.length) : (blend f i p).set i (f (p.getD i default)) = blend f (i + 1) p := by
  unfold blend
  rw [List.set_append_right _ _ (by simp; omega), List.length_map, List.length_take, Nat.min_eq_left (by omega), Nat.sub_self, List.take_succ_eq_append_getElem h, List.map_append, List.drop_eq_getElem_cons h, getD_lt h, List.append_assoc]
  rfl
theorem blend_all {f : Nd → Nd} {p : List Nd} : blend f p.length p = p.map f := by simp [blend]
theorem c1041 {L : Nat} (h1 : 4096 ≤ L) (h2 : L ≤ 1073741824) {ts : List Nd} : MC Try.prog L 85 [ands ts] [] (Rows (.c (.rs 0 0 ts.length)) [ndrow ts]) := by
 refine MC.rows ?_
 have hσ := SGok (nt := 26) h1 (Nat.le_trans h2 (by decide))
 refine MC.body hσ Try.func85 (by kernel_rfl) rfl rfl (Nat.le_of_ble_eq_true rfl) (fun hF => ?_)
 have hl : ts.length ≤ L := by simpa [As.fact, A.fact, M.fact, D.fact, Ds.fact] using hF.1.1
 refine jsr ?_
 refine jst hσ rfl rfl rfl rfl rfl ?_
 refine jns ?_
 refine jst hσ rfl rfl rfl rfl rfl ?_
 refine jn ?_
 refine AWP.seq ?_
 refine jsr ?_
 refine jst hσ rfl rfl rfl rfl rfl ?_
 first | refine jle hσ rfl rfl rfl rfl rfl rfl rfl rfl rfl rfl rfl ?_ | refine jst hσ rfl rfl rfl rfl rfl ?_ | refine jvf hσ rfl rfl rfl rfl rfl ?_
 refine jst hσ rfl rfl rfl rfl rfl ?_
 refine jn ?_
 refine AWP.block ?_
 refine AWP.loopP (X := Nat) (fun i => ⟨[(3, .c (.rs 900 0 i)), (6, ands ts), (7, eI ts.length), (8, eI i)], [(900, ndrow (ts.take i))]⟩) (fun i => i ≤ ts.length) (fun i => ts.length - i) 0 ((Ent.nameNil 3 900 5 true rfl rfl).trans (Ent.to ⟨rfl, rfl, rfl, rfl, trivial⟩ rfl)) ?_ (fun i hi => ?_)
 ·
  exact Nat.zero_le _
 refine jsr ?_
 refine jst hσ rfl rfl rfl rfl rfl ?_
 refine jn ?_
 refine AWP.seq ?_
 refine AWP.cond hσ rfl rfl (fun hc9 => ?_) (fun hc9 => ?_)
 ·
  try simp only [jcs] at hc9
  refine AWP.skip ?_
  refine AWP.seq ?_
  refine AWP.block ?_
  refine jsr ?_
  first | refine jin hσ rfl rfl rfl rfl rfl rfl rfl rfl rfl rfl rfl ?_ | refine jix hσ rfl rfl rfl rfl rfl rfl rfl rfl rfl rfl rfl ?_ | refine jvf hσ rfl rfl rfl rfl rfl ?_
  refine jst hσ rfl rfl rfl rfl rfl ?_
  refine jf6 11 9 3 6 7 8 rfl rfl rfl rfl rfl rfl ?_
  refine AOps.heap (HS.alloc hσ rfl rfl rfl rfl rfl) rfl ?_
  refine jnm ?_
  refine AOps.heap (HS.storeBox hσ rfl rfl rfl rfl rfl rfl rfl rfl rfl rfl rfl) rfl ?_
  refine jnm ?_
  refine jn ?_
  refine AWP.seq ?_
  refine AWP.drawR hσ _ [_, _, _, _, _, _, _, _, _, _] [⟨[], 0, 0, none⟩, ⟨[0], 0, 0, none⟩, ⟨[0, 1], 0, 0, some 0⟩, ⟨[], 0, 1, none⟩, ⟨[3], 0, 1, none⟩, ⟨[0, 1, 2, 3, 4], 0, 0, some 1⟩, ⟨[0, 1, 2, 3, 4], 1, 2, none⟩, ⟨[0, 1, 2, 3, 4, 5, 6], 0, 0, some 2⟩, ⟨[0, 1, 2, 3, 4, 5, 6, 7], 3, 3, none⟩, ⟨[0, 1, 2, 3, 4, 5, 6, 7, 8], 0, 0, some 3⟩] [2, 5, 7, 9] [_, _, _, _, _] rfl rfl (by decide) (by decide) (by kernel_rfl) (And.intro (Val.of hσ rfl rfl) (And.intro (Val.of hσ rfl rfl) (And.intro (Eff.rows hσ (B0 := 15000) rfl rfl rfl rfl (c148o (t := (ts.getD i default).term) h1 h2) (VAs.self rfl) rfl rfl rfl rfl rfl) (And.intro (And.intro (Val.of hσ rfl rfl) (Val.of hσ rfl rfl)) (And.intro (And.intro (Val.of hσ rfl rfl) (Val.of hσ rfl rfl)) (And.intro (Eff.rows hσ (B0 := 18000) rfl rfl rfl rfl (c158 (xs := (ts.getD i default).mul) h1 h2) (VAs.self rfl) rfl rfl rfl rfl rfl) (And.intro (And.intro (Val.of hσ rfl rfl) (Val.of hσ rfl rfl)) (And.intro (Eff.storeBox hσ rfl rfl rfl rfl rfl rfl rfl rfl rfl rfl rfl rfl rfl) (And.intro (Val.of hσ rfl rfl) (And.intro (Eff.storeBox hσ rfl rfl rfl rfl rfl rfl rfl rfl rfl rfl rfl rfl rfl) trivial)))))))))) ?_
  refine AWP.forget [(5, _), (11, _), (9, _), (3, _), (6, _), (7, _), (8, _)] ⟨rfl, rfl, rfl, rfl, rfl, rfl, rfl, trivial⟩ ?_
  refine jnw ?_
  refine AWP.region ?_
  iterate 2 refine jst hσ rfl rfl rfl rfl rfl ?_
  refine AOps.to (Ent.sel [900, 15000, 18000] (e' := [(21, _), (20, _), (6, _), (7, _), (8, _)]) rfl rfl ⟨rfl, rfl, rfl, rfl, rfl, trivial⟩ rfl) ?_
  refine AOps.heap (HS.litAbs (ds := Nd.cells (ts.getD i default)) hσ rfl rfl rfl rfl rfl rfl rfl rfl rfl rfl (.d rfl (.d rfl (.d rfl (.rs rfl (List.length_map _).symm (.rs rfl (List.length_map _).symm .nil))))) rfl rfl rfl) rfl ?_
  refine jnm ?_
  refine jnm ?_
  refine jf5 22 20 6 7 8 rfl rfl rfl rfl rfl ?_
  refine AOps.heap (HS.appMove (zs := (ts.take (i + 1)).map Nd.cells) (n := i + 1) hσ rfl rfl rfl rfl rfl rfl rfl rfl rfl rfl rfl rfl rfl rfl rfl rfl (.row rfl (by simp; omega)) rfl rfl (by decide) rfl (by simp; omega) (by simp; omega) (by rw [List.take_succ_eq_append_getElem (by omega), List.map_append, getD_lt (by omega)]; rfl) (by simp; omega)) rfl ?_
  refine jnm ?_
  refine jnm ?_
  refine jst hσ rfl rfl rfl rfl rfl ?_
  refine jf4 3 6 7 8 rfl rfl rfl rfl ?_
  refine jn ?_
  refine AWP.region ?_
  first | refine jfi hσ rfl rfl rfl rfl rfl ?_ | refine jvf hσ rfl rfl rfl rfl rfl ?_
  refine jst hσ rfl rfl rfl rfl rfl ?_
  refine jn ?_
  refine ⟨i + 1, ((Ent.sel [23] (e' := [(3, _), (6, _), (7, _), (8, _)]) rfl rfl ⟨rfl, rfl, rfl, rfl, trivial⟩ rfl).trans (Ent.sub2 23 900 rfl rfl)), by omega, by omega⟩
 ·
  try simp only [jcs] at hc9
  refine AWP.exit ?_
  refine jsr ?_
  iterate 2 refine jst hσ rfl rfl rfl rfl rfl ?_
  refine jn ?_
  refine AWP.ret ?_
  obtain rfl : i = ts.length := by omega
  rw [List.take_length]
  refine ⟨.inl rfl, _, Ent.refl, _, rfl, [900], by decide, rfl, rfl, rfl⟩
theorem c1020r {L : Nat} (h1 : 4096 ≤ L) (h2 : L ≤ 1073741824) {p : List Nd} {to : List Int} {base : Int} (hp : ∀ x ∈ p, MvOk (cntS to base) (toS to base) x) (hb : 0 ≤ base ∧ base ≤ 1000) (ht : to.length ≤ 1000) : MC Try.prog L 49 [ands p, aints to, eI base] [] (Rows (.c (.rs 0 0 p.length)) [nrows (p.map (mvN (cntS to base) (toS to base)))]) := by
 refine MC.rows ?_
 have hσ := SGok (nt := 118) h1 (Nat.le_trans h2 (by decide))
 refine MC.body hσ Try.func49 (by kernel_rfl) rfl rfl (Nat.le_of_ble_eq_true rfl) (fun hF => ?_)
 have hl : p.length ≤ L := by simpa [As.fact, A.fact, M.fact, D.fact, Ds.fact] using hF.1.1
 refine jsr ?_
 refine jst hσ rfl rfl rfl rfl rfl ?_
 refine jns ?_
 refine jst hσ rfl rfl rfl rfl rfl ?_
 refine jf4 13 6 1 2 rfl rfl rfl rfl ?_
 refine AOps.rowsD hσ (B0 := 15000) rfl rfl rfl rfl (c1042 (ts := p) h1 h2) (VAs.self rfl) rfl rfl rfl rfl rfl ?_
 refine jst hσ rfl rfl rfl rfl rfl ?_
 refine jf4 7 6 1 2 rfl rfl rfl rfl ?_
 refine jns ?_
 refine jst hσ rfl rfl rfl rfl rfl ?_
 first | refine jle hσ rfl rfl rfl rfl rfl rfl rfl rfl rfl rfl rfl ?_ | refine jst hσ rfl rfl rfl rfl rfl ?_ | refine jvf hσ rfl rfl rfl rfl rfl ?_
 refine jst hσ rfl rfl rfl rfl rfl ?_
 refine jf5 8 7 6 1 2 rfl rfl rfl rfl rfl ?_
 refine jn ?_
 refine AWP.seq ?_
 refine jsr ?_
 refine jst hσ rfl rfl rfl rfl rfl ?_
 refine jn ?_
 refine AWP.block ?_
 refine AWP.loopP (X := Nat) (fun i => ⟨[(1, aints to), (2, eI base), (7, .c (.rs 900 0 p.length)), (8, eI to.length), (9, eI i)], [(900, nrows (blend (mvN (cntS to base) (toS to base)) i p))]⟩) (fun i => i ≤ p.length) (fun i => p.length - i) 0 ((Ent.sub2 15000 900 rfl rfl).trans (Ent.to ⟨rfl, rfl, rfl, rfl, rfl, trivial⟩ rfl)) ?_ (fun i hi => ?_)
 ·
  exact Nat.zero_le _
 refine AWP.seq ?_
 refine jsr ?_
 iterate 2 refine jst hσ rfl rfl rfl rfl rfl ?_
 first | refine jle hσ rfl rfl rfl rfl rfl rfl rfl rfl rfl rfl rfl ?_ | refine jst hσ rfl rfl rfl rfl rfl ?_ | refine jvf hσ rfl rfl rfl rfl rfl ?_
 refine jst hσ rfl rfl rfl rfl rfl ?_
 refine jf6 20 1 2 7 8 9 rfl rfl rfl rfl rfl rfl ?_
 refine jn ?_
 refine AWP.cond hσ rfl rfl (fun hc20 => ?_) (fun hc20 => ?_)
 ·
  try simp only [jcs] at hc20
  refine AWP.skip ?_
  refine AWP.seq ?_
  refine AWP.block ?_
  refine AWP.seq ?_
  refine jsr ?_
  have hil : i < p.length := by omega
  obtain ⟨x, hx⟩ : ∃ x, x = p.getD i default := ⟨_, rfl⟩
  have hm := hp x (by rw [hx, getD_lt hil]; exact List.getElem_mem hil)
  obtain ⟨R, hR⟩ : ∃ R, R = (blend (mvN (cntS to base) (toS to base)) i p).map Nd.cells := ⟨_, rfl⟩
  have hRl : i < R.length := by rw [hR, List.length_map, blend_length (by omega)]; exact hil
  have hRi : R[i]? = some x.cells := by rw [hR, List.getElem?_map, blend_get hil, hx]; rfl
  have hRj : R[0 + ((i : Nat) : Int).toNat]? = some x.cells := by rw [Nat.zero_add]; exact hRi
  have hRs : ∀ c, (R.set i c)[0 + ((i : Nat) : Int).toNat]? = some c := fun c => by simp [hRl]
  have hRn : ∀ y, mvN (cntS to base) (toS to base) x = y → R.set i y.cells = (blend (mvN (cntS to base) (toS to base)) (i + 1) p).map Nd.cells := fun y hy => by rw [hR, ← blend_succ hil, ← hx, hy, List.map_set]
  have e0 : nrows (blend (mvN (cntS to base) (toS to base)) i p) = .row false 5 R := by rw [hR]
  rw [e0]
  iterate 2 refine jst hσ rfl rfl rfl rfl rfl ?_
  first | refine jin hσ rfl rfl rfl rfl rfl rfl rfl rfl rfl rfl rfl ?_ | refine jix hσ rfl rfl rfl rfl rfl rfl rfl rfl rfl rfl rfl ?_ | refine jvf hσ rfl rfl rfl rfl rfl ?_
  refine jst hσ rfl rfl rfl rfl rfl ?_
  refine AOps.step (Val.loadRow hσ (ex := x.cells) rfl rfl rfl rfl hRj rfl) rfl rfl rfl ?_
  refine jst hσ rfl rfl rfl rfl rfl ?_
  refine jf7 28 20 1 2 7 8 9 rfl rfl rfl rfl rfl rfl rfl ?_
  refine jn ?_
  refine AWP.cond hσ rfl rfl (fun hc28 => ?_) (fun hc28 => ?_)
  ·
   try simp only [jcs] at hc28
   refine jsr ?_
   have hf := hm.fact hc28
   iterate 2 refine jst hσ rfl rfl rfl rfl rfl ?_
   first | refine jin hσ rfl rfl rfl rfl rfl rfl rfl rfl rfl rfl rfl ?_ | refine jix hσ rfl rfl rfl rfl rfl rfl rfl rfl rfl rfl rfl ?_ | refine jvf hσ rfl rfl rfl rfl rfl ?_
   refine jst hσ rfl rfl rfl rfl rfl ?_
   refine AOps.step (Val.loadRow hσ (ex := x.cells) rfl rfl rfl rfl hRj rfl) rfl rfl rfl ?_
   iterate 2 refine jst hσ rfl rfl rfl rfl rfl ?_
   refine jf8 35 28 20 1 2 7 8 9 rfl rfl rfl rfl rfl rfl rfl rfl ?_
   refine jn ?_
   refine AWP.cond hσ rfl rfl (fun hc35 => ?_) (fun hc35 => ?_)
   ·
    try simp only [jcs] at hc35
    refine AWP.region ?_
    iterate 5 refine jst hσ rfl rfl rfl rfl rfl ?_
    first | refine jin hσ rfl rfl rfl rfl rfl rfl rfl rfl rfl rfl rfl ?_ | refine jix hσ rfl rfl rfl rfl rfl rfl rfl rfl rfl rfl rfl ?_ | refine jvf hσ rfl rfl rfl rfl rfl ?_
    refine jst hσ rfl rfl rfl rfl rfl ?_
    refine AOps.step (Val.loadRow hσ (ex := x.cells) rfl rfl rfl rfl hRj rfl) rfl rfl rfl ?_
    first | refine jin hσ rfl rfl rfl rfl rfl rfl rfl rfl rfl rfl rfl ?_ | refine jix hσ rfl rfl rfl rfl rfl rfl rfl rfl rfl rfl rfl ?_ | refine jvf hσ rfl rfl rfl rfl rfl ?_
    refine jst hσ rfl rfl rfl rfl rfl ?_
    first | refine jin hσ rfl rfl rfl rfl rfl rfl rfl rfl rfl rfl rfl ?_ | refine jix hσ rfl rfl rfl rfl rfl rfl rfl rfl rfl rfl rfl ?_ | refine jvf hσ rfl rfl rfl rfl rfl ?_
    refine jst hσ rfl rfl rfl rfl rfl ?_
    refine jf10 47 45 35 28 20 1 2 7 8 9 rfl rfl rfl rfl rfl rfl rfl rfl rfl rfl ?_
    refine AOps.heap (HS.storeRow (ex := x.cells) (xs' := R.set i [.int .i64 x.kind, .int .i64 (to.getD x.fact.toNat default), .int .i64 x.term.c, ints x.term.xs, ints (x.mul)]) hσ rfl rfl rfl rfl rfl rfl rfl rfl rfl rfl rfl rfl rfl rfl hRj (by simp)) rfl ?_
    refine jf8 35 28 20 1 2 7 8 9 rfl rfl rfl rfl rfl rfl rfl rfl ?_
    refine jn ?_
    refine AWP.seq ?_
    refine jsr ?_
    iterate 2 refine jst hσ rfl rfl rfl rfl rfl ?_
    first | refine jin hσ rfl rfl rfl rfl rfl rfl rfl rfl rfl rfl rfl ?_ | refine jix hσ rfl rfl rfl rfl rfl rfl rfl rfl rfl rfl rfl ?_ | refine jvf hσ rfl rfl rfl rfl rfl ?_
    refine jst hσ rfl rfl rfl rfl rfl ?_
    first | refine AOps.step (Val.loadRow hσ rfl rfl rfl rfl (hRs _) rfl) rfl rfl rfl ?_ | refine AOps.step (Val.loadRow hσ (ex := x.cells) rfl rfl rfl rfl hRj rfl) rfl rfl rfl ?_
    refine jst hσ rfl rfl rfl rfl rfl ?_
    refine jf9 64 35 28 20 1 2 7 8 9 rfl rfl rfl rfl rfl rfl rfl rfl rfl ?_
    refine jn ?_
    refine AWP.cond hσ rfl rfl (fun hc64 => ?_) (fun hc64 => ?_)
    ·
     try simp only [jcs] at hc64
     refine AWP.exit ?_
     refine AWP.region ?_
     refine jst hσ rfl rfl rfl rfl rfl ?_
     first | refine jfi hσ rfl rfl rfl rfl rfl ?_ | refine jvf hσ rfl rfl rfl rfl rfl ?_
     refine jst hσ rfl rfl rfl rfl rfl ?_
     refine jf9 9 64 35 28 20 1 2 7 8 rfl rfl rfl rfl rfl rfl rfl rfl rfl ?_
     refine jn ?_
     refine ⟨i + 1, Ent.to ⟨rfl, rfl, rfl, rfl, rfl, trivial⟩ (congrArg (fun z => [(900, B.row false 5 z)]) (hRn { x with fact := to.getD x.fact.toNat default } (by unfold mvN; rw [if_pos hc28]; unfold toS; rw [if_neg (by omega)]))), by omega, by omega⟩
    ·
     try simp only [jcs] at hc64
     first | (exfalso; omega) | (simp at hc64; omega)
   ·
    try simp only [jcs] at hc35
    refine AWP.region ?_
    iterate 2 refine jst hσ rfl rfl rfl rfl rfl ?_
    first | refine jin hσ rfl rfl rfl rfl rfl rfl rfl rfl rfl rfl rfl ?_ | refine jix hσ rfl rfl rfl rfl rfl rfl rfl rfl rfl rfl rfl ?_ | refine jvf hσ rfl rfl rfl rfl rfl ?_
    refine jst hσ rfl rfl rfl rfl rfl ?_
    refine AOps.step (Val.loadRow hσ (ex := x.cells) rfl rfl rfl rfl hRj rfl) rfl rfl rfl ?_
    iterate 2 refine jst hσ rfl rfl rfl rfl rfl ?_
    first | refine jfi hσ rfl rfl rfl rfl rfl ?_ | refine jvf hσ rfl rfl rfl rfl rfl ?_
    first | refine jfi hσ rfl rfl rfl rfl rfl ?_ | refine jvf hσ rfl rfl rfl rfl rfl ?_
    first | refine jin hσ rfl rfl rfl rfl rfl rfl rfl rfl rfl rfl rfl ?_ | refine jix hσ rfl rfl rfl rfl rfl rfl rfl rfl rfl rfl rfl ?_ | refine jvf hσ rfl rfl rfl rfl rfl ?_
    refine jst hσ rfl rfl rfl rfl rfl ?_
    refine jf10 58 56 35 28 20 1 2 7 8 9 rfl rfl rfl rfl rfl rfl rfl rfl rfl rfl ?_
    refine AOps.heap (HS.storeRow (ex := x.cells) (xs' := R.set i [.int .i64 x.kind, .int .i64 (x.fact + (base - to.length)), .int .i64 x.term.c, ints x.term.xs, ints (x.mul)]) hσ rfl rfl rfl rfl rfl rfl rfl rfl rfl rfl rfl rfl rfl rfl hRj (by simp)) rfl ?_
    refine jf8 35 28 20 1 2 7 8 9 rfl rfl rfl rfl rfl rfl rfl rfl ?_
    refine jn ?_
    refine AWP.seq ?_
    refine jsr ?_
    iterate 2 refine jst hσ rfl rfl rfl rfl rfl ?_
    first | refine jin hσ rfl rfl rfl rfl rfl rfl rfl rfl rfl rfl rfl ?_ | refine jix hσ rfl rfl rfl rfl rfl rfl rfl rfl rfl rfl rfl ?_ | refine jvf hσ rfl rfl rfl rfl rfl ?_
    refine jst hσ rfl rfl rfl rfl rfl ?_
    first | refine AOps.step (Val.loadRow hσ rfl rfl rfl rfl (hRs _) rfl) rfl rfl rfl ?_ | refine AOps.step (Val.loadRow hσ (ex := x.cells) rfl rfl rfl rfl hRj rfl) rfl rfl rfl ?_
    refine jst hσ rfl rfl rfl rfl rfl ?_
    refine jf9 64 35 28 20 1 2 7 8 9 rfl rfl rfl rfl rfl rfl rfl rfl rfl ?_
    refine jn ?_
    refine AWP.cond hσ rfl rfl (fun hc64 => ?_) (fun hc64 => ?_)
    ·
     try simp only [jcs] at hc64
     refine AWP.exit ?_
     refine AWP.region ?_
     refine jst hσ rfl rfl rfl rfl rfl ?_
     first | refine jfi hσ rfl rfl rfl rfl rfl ?_ | refine jvf hσ rfl rfl rfl rfl rfl ?_
     refine jst hσ rfl rfl rfl rfl rfl ?_
     refine jf9 9 64 35 28 20 1 2 7 8 rfl rfl rfl rfl rfl rfl rfl rfl rfl ?_
     refine jn ?_
     refine ⟨i + 1, Ent.to ⟨rfl, rfl, rfl, rfl, rfl, trivial⟩ (congrArg (fun z => [(900, B.row false 5 z)]) (hRn { x with fact := x.fact + (base - to.length) } (by unfold mvN; rw [if_pos hc28]; unfold toS; rw [if_pos (by omega)]))), by omega, by omega⟩
    ·
     try simp only [jcs] at hc64
     first | (exfalso; omega) | (simp at hc64; omega)
  ·
   try simp only [jcs] at hc28
   refine AWP.skip ?_
   refine AWP.seq ?_
   refine jsr ?_
   iterate 2 refine jst hσ rfl rfl rfl rfl rfl ?_
   first | refine jin hσ rfl rfl rfl rfl rfl rfl rfl rfl rfl rfl rfl ?_ | refine jix hσ rfl rfl rfl rfl rfl rfl rfl rfl rfl rfl rfl ?_ | refine jvf hσ rfl rfl rfl rfl rfl ?_
   refine jst hσ rfl rfl rfl rfl rfl ?_
   first | refine AOps.step (Val.loadRow hσ rfl rfl rfl rfl (hRs _) rfl) rfl rfl rfl ?_ | refine AOps.step (Val.loadRow hσ (ex := x.cells) rfl rfl rfl rfl hRj rfl) rfl rfl rfl ?_
   refine jst hσ rfl rfl rfl rfl rfl ?_
   refine jf8 64 28 20 1 2 7 8 9 rfl rfl rfl rfl rfl rfl rfl rfl ?_
   refine jn ?_
   refine AWP.cond hσ rfl rfl (fun hc64 => ?_) (fun hc64 => ?_)
   ·
    try simp only [jcs] at hc64
    refine AWP.exit ?_
    refine AWP.region ?_
    refine jst hσ rfl rfl rfl rfl rfl ?_
    first | refine jfi hσ rfl rfl rfl rfl rfl ?_ | refine jvf hσ rfl rfl rfl rfl rfl ?_
    refine jst hσ rfl rfl rfl rfl rfl ?_
    refine jf8 9 64 28 20 1 2 7 8 rfl rfl rfl rfl rfl rfl rfl rfl ?_
    refine jn ?_
    have hk1 : ¬ x.kind = 1 := by intro h; simp [h] at hc64
    refine ⟨i + 1, Ent.to ⟨rfl, rfl, rfl, rfl, rfl, trivial⟩ (congrArg (fun z => [(900, B.row false 5 z)]) ((set_self' hRi).symm.trans (hRn x (by unfold mvN; rw [if_neg hc28, if_neg hk1])))), by omega, by omega⟩
   ·
    try simp only [jcs] at hc64
    refine AWP.skip ?_
    refine jsr ?_
    have hk1 : x.kind = 1 := by first | omega | (simp at hc64; omega)
    have hcb := hm.cntb hk1
    have hlm := hm.len hk1
    have hrg := hm.rng hk1
    have hCu : cntS to base x.mul.length = base + x.mul.length - to.length := rfl
    rw [hCu] at hcb
    iterate 2 refine jst hσ rfl rfl rfl rfl rfl ?_
    first | refine jin hσ rfl rfl rfl rfl rfl rfl rfl rfl rfl rfl rfl ?_ | refine jix hσ rfl rfl rfl rfl rfl rfl rfl rfl rfl rfl rfl ?_ | refine jvf hσ rfl rfl rfl rfl rfl ?_
    refine jst hσ rfl rfl rfl rfl rfl ?_
    refine AOps.step (Val.loadRow hσ (ex := x.cells) rfl rfl rfl rfl hRj rfl) rfl rfl rfl ?_
    refine jst hσ rfl rfl rfl rfl rfl ?_
    refine jf9 10 64 28 20 1 2 7 8 9 rfl rfl rfl rfl rfl rfl rfl rfl rfl ?_
    refine jns ?_
    iterate 2 refine jst hσ rfl rfl rfl rfl rfl ?_
    first | refine jle hσ rfl rfl rfl rfl rfl rfl rfl rfl rfl rfl rfl ?_ | refine jst hσ rfl rfl rfl rfl rfl ?_ | refine jvf hσ rfl rfl rfl rfl rfl ?_
    first | refine jfi hσ rfl rfl rfl rfl rfl ?_ | refine jvf hσ rfl rfl rfl rfl rfl ?_
    refine jst hσ rfl rfl rfl rfl rfl ?_
    first | refine jfi hσ rfl rfl rfl rfl rfl ?_ | refine jvf hσ rfl rfl rfl rfl rfl ?_
    refine jf10 75 10 64 28 20 1 2 7 8 9 rfl rfl rfl rfl rfl rfl rfl rfl rfl rfl ?_
    refine AOps.heap (HS.make hσ rfl rfl rfl rfl rfl rfl rfl rfl rfl (by first | omega | (simp at *; omega)) (by first | omega | (simp at *; omega)) (by first | omega | (simp at *; omega)) (by first | omega | (dsimp only; omega) | (simp only [List.length_map, beq_iff_eq, decide_eq_true_eq, decide_eq_false_iff_not, Bool.not_eq_true', Bool.not_eq_false', Bool.not_true, Bool.not_false, Int.not_lt, Int.not_le] at *; omega)) (by first | omega | (simp at *; omega)) rfl rfl rfl) rfl ?_
    refine jst hσ rfl rfl rfl rfl rfl ?_
    refine jf10 11 10 64 28 20 1 2 7 8 9 rfl rfl rfl rfl rfl rfl rfl rfl rfl rfl ?_
    refine jn ?_
    refine AWP.seq ?_
    refine jsr ?_
    refine jst hσ rfl rfl rfl rfl rfl ?_
    refine jn ?_
    refine AWP.block ?_
    refine AWP.loopP (X := Nat) (fun j => ⟨[(1, aints to), (2, eI base), (7, .c (.rs 900 0 p.length)), (8, eI to.length), (9, eI i), (10, aints x.mul), (11, .c (.rs 901 0 (base + x.mul.length - to.length).toNat)), (12, eI j)], [(900, .row false 5 R), (901, nrow (scat (toS to base) x.mul (List.replicate (cntS to base x.mul.length).toNat 0) j))]⟩) (fun j => j ≤ x.mul.length) (fun j => x.mul.length - j) 0 (((Ent.sel [900, 76] (e' := [(1, _), (2, _), (7, _), (8, _), (9, _), (10, _), (11, _), (12, _)]) rfl rfl ⟨rfl, rfl, rfl, rfl, rfl, rfl, rfl, rfl, trivial⟩ rfl).trans (Ent.sub2 76 901 rfl rfl)).trans (Ent.to ⟨rfl, rfl, rfl, rfl, rfl, rfl, rfl, rfl, trivial⟩ (congrArg (fun z => [(900, B.row false 5 R), (901, B.row true 1 z)]) (List.map_replicate (f := fun n => [D.int .i64 n]) (a := (0 : Int)) (n := (base + x.mul.length - to.length).toNat)).symm))) ?_ (fun j hi => ?_)
    ·
     exact Nat.zero_le _
    refine AWP.seq ?_
    refine jsr ?_
    iterate 2 refine jst hσ rfl rfl rfl rfl rfl ?_
    first | refine jle hσ rfl rfl rfl rfl rfl rfl rfl rfl rfl rfl rfl ?_ | refine jst hσ rfl rfl rfl rfl rfl ?_ | refine jvf hσ rfl rfl rfl rfl rfl ?_
    refine jst hσ rfl rfl rfl rfl rfl ?_
    refine jf9 80 1 2 7 8 9 10 11 12 rfl rfl rfl rfl rfl rfl rfl rfl rfl ?_
    refine jn ?_
    refine AWP.cond hσ rfl rfl (fun hc80 => ?_) (fun hc80 => ?_)
    ·
     try simp only [jcs] at hc80
     refine AWP.skip ?_
     refine AWP.seq ?_
     refine AWP.block ?_
     refine jsr ?_
     have hjl : j < x.mul.length := by omega
     have hrj := hrg j hjl
     rw [hCu] at hrj
     obtain ⟨Z, hZ⟩ : ∃ Z, Z = scat (toS to base) x.mul (List.replicate (cntS to base x.mul.length).toNat 0) j := ⟨_, rfl⟩
     have hZl : Z.length = (base + x.mul.length - to.length).toNat := by rw [hZ, scat_length, List.length_replicate, hCu]
     rw [← hZ]
     iterate 3 refine jst hσ rfl rfl rfl rfl rfl ?_
     refine jf10 85 80 1 2 7 8 9 10 11 12 rfl rfl rfl rfl rfl rfl rfl rfl rfl rfl ?_
     refine jn ?_
     refine AWP.cond hσ rfl rfl (fun hc85 => ?_) (fun hc85 => ?_)
     ·
      try simp only [jcs] at hc85
      refine AWP.region ?_
      iterate 3 refine jst hσ rfl rfl rfl rfl rfl ?_
      first | refine jfi hσ rfl rfl rfl rfl rfl ?_ | refine jvf hσ rfl rfl rfl rfl rfl ?_
      refine jst hσ rfl rfl rfl rfl rfl ?_
      first | refine jfi hσ rfl rfl rfl rfl rfl ?_ | refine jvf hσ rfl rfl rfl rfl rfl ?_
      iterate 2 refine jst hσ rfl rfl rfl rfl rfl ?_
      first | refine jin hσ rfl rfl rfl rfl rfl rfl rfl rfl rfl rfl rfl ?_ | refine jix hσ rfl rfl rfl rfl rfl rfl rfl rfl rfl rfl rfl ?_ | refine jvf hσ rfl rfl rfl rfl rfl ?_
      refine jst hσ rfl rfl rfl rfl rfl ?_
      first | refine jin hσ rfl rfl rfl rfl rfl rfl rfl rfl rfl rfl rfl ?_ | refine jix hσ rfl rfl rfl rfl rfl rfl rfl rfl rfl rfl rfl ?_ | refine jvf hσ rfl rfl rfl rfl rfl ?_
      refine jf12 96 95 85 80 1 2 7 8 9 10 11 12 rfl rfl rfl rfl rfl rfl rfl rfl rfl rfl rfl rfl ?_
      refine AOps.heap (HS.storeRow (ex := [.int .i64 (Z.getD ((j : Int) + base - to.length).toNat default)]) (xs' := (Z.set ((j : Int) + base - to.length).toNat (x.mul.getD j default)).map (fun n => [D.int .i64 n])) hσ rfl rfl rfl rfl rfl rfl rfl rfl rfl rfl rfl rfl rfl rfl (idx0 (by omega)) (by rw [Nat.zero_add, List.map_set]; rfl)) rfl ?_
      refine jf10 85 80 1 2 7 8 9 10 11 12 rfl rfl rfl rfl rfl rfl rfl rfl rfl rfl ?_
      refine jn ?_
      refine AWP.region ?_
      refine jst hσ rfl rfl rfl rfl rfl ?_
      first | refine jfi hσ rfl rfl rfl rfl rfl ?_ | refine jvf hσ rfl rfl rfl rfl rfl ?_
      refine jst hσ rfl rfl rfl rfl rfl ?_
      refine jf10 12 85 80 1 2 7 8 9 10 11 rfl rfl rfl rfl rfl rfl rfl rfl rfl rfl ?_
      refine jn ?_
      refine ⟨j + 1, Ent.to ⟨rfl, rfl, rfl, rfl, rfl, rfl, rfl, rfl, trivial⟩ (congrArg (fun z => [(900, B.row false 5 R), (901, B.row true 1 (List.map (fun n => [D.int .i64 n]) z))]) (?_ : _ = scat (toS to base) x.mul (List.replicate (cntS to base x.mul.length).toNat 0) (j + 1))), by omega, by omega⟩
      have hT : toS to base j = (j : Int) + (base - to.length) := if_pos (by omega)
      show _ = if 0 ≤ toS to base j then _ else _
      rw [if_pos (by omega), ← hZ, hT, show (j : Int) + (base - to.length) = (j : Int) + base - to.length by omega]
     ·
      try simp only [jcs] at hc85
      refine jsr ?_
      iterate 2 refine jst hσ rfl rfl rfl rfl rfl ?_
      first | refine jin hσ rfl rfl rfl rfl rfl rfl rfl rfl rfl rfl rfl ?_ | refine jix hσ rfl rfl rfl rfl rfl rfl rfl rfl rfl rfl rfl ?_ | refine jvf hσ rfl rfl rfl rfl rfl ?_
      iterate 2 refine jst hσ rfl rfl rfl rfl rfl ?_
      refine jf11 101 85 80 1 2 7 8 9 10 11 12 rfl rfl rfl rfl rfl rfl rfl rfl rfl rfl rfl ?_
      refine jn ?_
      refine AWP.cond hσ rfl rfl (fun hc101 => ?_) (fun hc101 => ?_)
      ·
       try simp only [jcs] at hc101
       have hT2 : toS to base j = to.getD j default := if_neg (by omega)
       rw [hT2] at hrj
       refine AWP.drawR hσ _ [_, _, _, _, _, _, _, _, _, _, _] [⟨[], 0, 0, none⟩, ⟨[], 0, 0, none⟩, ⟨[], 0, 0, none⟩, ⟨[1, 2], 0, 0, none⟩, ⟨[1, 2, 3], 0, 0, none⟩, ⟨[], 0, 0, none⟩, ⟨[], 0, 0, none⟩, ⟨[5, 6], 0, 0, none⟩, ⟨[5, 6, 7], 0, 0, none⟩, ⟨[0, 1, 2, 3, 4, 5, 6, 7, 8], 0, 0, none⟩, ⟨[0, 1, 2, 3, 4, 5, 6, 7, 8, 9], 0, 0, some 0⟩] [10] [_, _] rfl rfl (by decide) (by decide) (by kernel_rfl) (And.intro (Val.of hσ rfl rfl) (And.intro (Val.of hσ rfl rfl) (And.intro (Val.of hσ rfl rfl) (And.intro (Val.indexN hσ rfl rfl rfl rfl rfl rfl rfl rfl (idxN (by first | omega | (simp at *; omega)))) (And.intro (Val.of hσ rfl rfl) (And.intro (Val.of hσ rfl rfl) (And.intro (Val.of hσ rfl rfl) (And.intro (Val.indexN hσ rfl rfl rfl rfl rfl rfl rfl rfl (idxN (by first | omega | (simp at *; omega)))) (And.intro (Val.of hσ rfl rfl) (And.intro (Val.vif hσ rfl rfl (by first | omega | (simp at *; omega))) (And.intro (Eff.storeRow (ex := [.int .i64 (Z.getD (to.getD j default).toNat default)]) (xs' := (Z.set (to.getD j default).toNat (x.mul.getD j default)).map (fun n => [D.int .i64 n])) hσ rfl rfl rfl rfl rfl rfl rfl rfl rfl rfl rfl rfl rfl rfl rfl (idx0 (by omega)) (by rw [Nat.zero_add, List.map_set]; rfl) rfl) trivial))))))))))) ?_
       refine AWP.forget [(101, _), (85, _), (80, _), (1, _), (2, _), (7, _), (8, _), (9, _), (10, _), (11, _), (12, _)] ⟨rfl, rfl, rfl, rfl, rfl, rfl, rfl, rfl, rfl, rfl, rfl, trivial⟩ ?_
       refine jnw ?_
       refine AWP.region ?_
       refine jst hσ rfl rfl rfl rfl rfl ?_
       first | refine jfi hσ rfl rfl rfl rfl rfl ?_ | refine jvf hσ rfl rfl rfl rfl rfl ?_
       refine jst hσ rfl rfl rfl rfl rfl ?_
       refine jf11 12 101 85 80 1 2 7 8 9 10 11 rfl rfl rfl rfl rfl rfl rfl rfl rfl rfl rfl ?_
       refine jn ?_
       refine ⟨j + 1, Ent.to ⟨rfl, rfl, rfl, rfl, rfl, rfl, rfl, rfl, trivial⟩ (congrArg (fun z => [(900, B.row false 5 R), (901, B.row true 1 (List.map (fun n => [D.int .i64 n]) z))]) (?_ : _ = scat (toS to base) x.mul (List.replicate (cntS to base x.mul.length).toNat 0) (j + 1))), by omega, by omega⟩
       show _ = if 0 ≤ toS to base j then _ else _
       rw [if_pos (by rw [hT2]; omega), ← hZ, hT2]
      ·
       try simp only [jcs] at hc101
       refine AWP.skip ?_
       refine AWP.region ?_
       refine jst hσ rfl rfl rfl rfl rfl ?_
       first | refine jfi hσ rfl rfl rfl rfl rfl ?_ | refine jvf hσ rfl rfl rfl rfl rfl ?_
       refine jst hσ rfl rfl rfl rfl rfl ?_
       refine jf11 12 101 85 80 1 2 7 8 9 10 11 rfl rfl rfl rfl rfl rfl rfl rfl rfl rfl rfl ?_
       refine jn ?_
       refine ⟨j + 1, Ent.to ⟨rfl, rfl, rfl, rfl, rfl, rfl, rfl, rfl, trivial⟩ (congrArg (fun z => [(900, B.row false 5 R), (901, B.row true 1 (List.map (fun n => [D.int .i64 n]) z))]) (?_ : Z = scat (toS to base) x.mul (List.replicate (cntS to base x.mul.length).toNat 0) (j + 1))), by omega, by omega⟩
       have hT2 : toS to base j = to.getD j default := if_neg (by omega)
       show _ = if 0 ≤ toS to base j then _ else _
       rw [if_neg (by rw [hT2]; omega), ← hZ]
    ·
     try simp only [jcs] at hc80
     refine AWP.exit ?_
     refine AWP.region ?_
     obtain rfl : j = x.mul.length := by omega
     refine AOps.to (Ent.freeze 901 (e' := [(11, _), (7, _), (9, _), (1, _), (2, _), (8, _)]) rfl (.cons rfl (.c (.row rfl (by simp [scat_length, hCu]))) (.cons rfl (.keep rfl) (.cons rfl (.keep rfl) (.cons rfl (.keep rfl) (.cons rfl (.keep rfl) (.cons rfl (.keep rfl) .nil)))))) (.cons rfl .row (.skip .nil))) ?_
     iterate 3 refine jst hσ rfl rfl rfl rfl rfl ?_
     first | refine jin hσ rfl rfl rfl rfl rfl rfl rfl rfl rfl rfl rfl ?_ | refine jix hσ rfl rfl rfl rfl rfl rfl rfl rfl rfl rfl rfl ?_ | refine jvf hσ rfl rfl rfl rfl rfl ?_
     refine jst hσ rfl rfl rfl rfl rfl ?_
     refine jf8 116 114 11 7 9 1 2 8 rfl rfl rfl rfl rfl rfl rfl rfl ?_
     refine AOps.heap (HS.storeRow (ex := x.cells) (xs' := R.set i [.int .i64 x.kind, .int .i64 (x.fact), .int .i64 x.term.c, ints x.term.xs, ints (scat (toS to base) x.mul (List.replicate (cntS to base x.mul.length).toNat 0) x.mul.length)]) hσ rfl rfl rfl rfl rfl rfl rfl rfl rfl rfl rfl rfl rfl rfl hRj (by simp)) rfl ?_
     refine jf6 11 7 9 1 2 8 rfl rfl rfl rfl rfl rfl ?_
     refine jn ?_
     refine AWP.region ?_
     refine jst hσ rfl rfl rfl rfl rfl ?_
     first | refine jfi hσ rfl rfl rfl rfl rfl ?_ | refine jvf hσ rfl rfl rfl rfl rfl ?_
     refine jst hσ rfl rfl rfl rfl rfl ?_
     refine jf6 9 11 7 1 2 8 rfl rfl rfl rfl rfl rfl ?_
     refine jn ?_
     refine ⟨i + 1, Ent.to ⟨rfl, rfl, rfl, rfl, rfl, trivial⟩ (congrArg (fun z => [(900, B.row false 5 z)]) (hRn { x with mul := scat (toS to base) x.mul (List.replicate (cntS to base x.mul.length).toNat 0) x.mul.length } (by unfold mvN; rw [if_neg hc28, if_pos hk1]))), by omega, by omega⟩
 ·
  try simp only [jcs] at hc20
  refine AWP.exit ?_
  refine jsr ?_
  iterate 2 refine jst hσ rfl rfl rfl rfl rfl ?_
  refine jn ?_
  refine AWP.ret ?_
  obtain rfl : i = p.length := by omega
  rw [blend_all]
  refine ⟨.inl rfl, _, Ent.refl, _, rfl, [900], by decide, rfl, rfl, rfl⟩
theorem c1020 {L : Nat} (h1 : 4096 ≤ L) (h2 : L ≤ 1073741824) {p : List Nd} {to : List Int} {base : Int} (hp : ∀ x ∈ p, MvOk (cntS to base) (toS to base) x) (hb : 0 ≤ base ∧ base ≤ 1000) (ht : to.length ≤ 1000) : MC Try.prog L 49 [ands p, aints to, eI base] [] (Plain (ands (p.map (mvN (cntS to base) (toS to base))))) := (c1020r h1 h2 hp hb ht).frozen (.v (.c (.whole rfl (by simp))))
end Go.Al
namespace Go.Al
open Go.Proofs
set_option linter.unusedVariables false
set_option linter.unusedSimpArgs false
set_option maxRecDepth 10000
abbrev pI (n : Int) : A := .c (.d (.ptr [.int .i64 n] 0))
theorem c1029 {L : Nat} (h1 : 4096 ≤ L) (h2 : L ≤ 1073741824) {k : Int} (hk : 0 ≤ k ∧ k ≤ 1000) : MC Try.prog L 72 [eI k] [] (Plain (eI (k))) := by
 refine MC.alone ?_ rfl
 have hσ := SGok (nt := 4) h1 (Nat.le_trans h2 (by decide))
 refine MC.body hσ Try.func72 (by kernel_rfl) rfl rfl (Nat.le_of_ble_eq_true rfl) (fun hF => ?_)
 refine jsr ?_
 refine jst hσ rfl rfl rfl rfl rfl ?_
 refine jns ?_
 iterate 2 refine jst hσ rfl rfl rfl rfl rfl ?_
 refine AOps.forget [(2, _)] ⟨rfl, trivial⟩ ?_
 refine jn ?_
 refine AWP.ret ?_
 refine ⟨.inl rfl, _, Ent.refl, _, rfl, ?_⟩
 rfl
theorem c1030 {L : Nat} (h1 : 4096 ≤ L) (h2 : L ≤ 1073741824) {k n : Int} (hn : 0 ≤ n ∧ n ≤ 1000) (hk : 0 ≤ k ∧ k ≤ 1000) : MC Try.prog L 73 [eI k, pI n] [] (Plain (eI (if k = n then n + 1 else if k = n + 1 then n else k))) := by
 refine MC.alone ?_ rfl
 have hσ := SGok (nt := 16) h1 (Nat.le_trans h2 (by decide))
 refine MC.body hσ Try.func73 (by kernel_rfl) rfl rfl (Nat.le_of_ble_eq_true rfl) (fun hF => ?_)
 refine jsr ?_
 refine jst hσ rfl rfl rfl rfl rfl ?_
 refine jn ?_
 refine AWP.seq ?_
 refine jsr ?_
 refine jst hσ rfl rfl rfl rfl rfl ?_
 refine jn ?_
 refine AWP.block ?_
 refine jsr ?_
 iterate 3 refine jst hσ rfl rfl rfl rfl rfl ?_
 refine jf5 5 4 3 0 1 rfl rfl rfl rfl rfl ?_
 refine jn ?_
 refine AWP.cond hσ rfl rfl (fun hc5 => ?_) (fun hc5 => ?_)
 ·
  try simp only [jcs] at hc5
  refine jsr ?_
  refine jst hσ rfl rfl rfl rfl rfl ?_
  first | refine jfi hσ rfl rfl rfl rfl rfl ?_ | refine jvf hσ rfl rfl rfl rfl rfl ?_
  refine jst hσ rfl rfl rfl rfl rfl ?_
  refine jf4 3 4 0 1 rfl rfl rfl rfl ?_
  refine jn ?_
  refine AWP.ret ?_
  refine ⟨.inl rfl, _, Ent.refl, _, rfl, ?_⟩
  rw [if_pos (by omega)]
 ·
  try simp only [jcs] at hc5
  refine jsr ?_
  refine jst hσ rfl rfl rfl rfl rfl ?_
  first | refine jfi hσ rfl rfl rfl rfl rfl ?_ | refine jvf hσ rfl rfl rfl rfl rfl ?_
  iterate 2 refine jst hσ rfl rfl rfl rfl rfl ?_
  refine jf5 10 4 3 0 1 rfl rfl rfl rfl rfl ?_
  refine jn ?_
  refine AWP.cond hσ rfl rfl (fun hc10 => ?_) (fun hc10 => ?_)
  ·
   try simp only [jcs] at hc10
   refine jsr ?_
   iterate 2 refine jst hσ rfl rfl rfl rfl rfl ?_
   refine jf4 3 4 0 1 rfl rfl rfl rfl ?_
   refine jn ?_
   refine AWP.ret ?_
   refine ⟨.inl rfl, _, Ent.refl, _, rfl, ?_⟩
   rw [if_neg (by omega), if_pos (by omega)]
  ·
   try simp only [jcs] at hc10
   refine AWP.skip ?_
   refine jsr ?_
   iterate 2 refine jst hσ rfl rfl rfl rfl rfl ?_
   refine jf4 3 4 0 1 rfl rfl rfl rfl ?_
   refine jn ?_
   refine AWP.ret ?_
   refine ⟨.inl rfl, _, Ent.refl, _, rfl, ?_⟩
   rw [if_neg (by omega), if_neg (by omega)]
theorem c1031 {L : Nat} (h1 : 4096 ≤ L) (h2 : L ≤ 1073741824) {k : Int} (hk : 0 ≤ k ∧ k ≤ 1000) : MC Try.prog L 74 [eI k] [] (Plain (eI (k + 1))) := by
 refine MC.alone ?_ rfl
 have hσ := SGok (nt := 5) h1 (Nat.le_trans h2 (by decide))
 refine MC.body hσ Try.func74 (by kernel_rfl) rfl rfl (Nat.le_of_ble_eq_true rfl) (fun hF => ?_)
 refine jsr ?_
 refine jst hσ rfl rfl rfl rfl rfl ?_
 refine jns ?_
 refine jst hσ rfl rfl rfl rfl rfl ?_
 first | refine jfi hσ rfl rfl rfl rfl rfl ?_ | refine jvf hσ rfl rfl rfl rfl rfl ?_
 refine jst hσ rfl rfl rfl rfl rfl ?_
 refine AOps.forget [(2, _)] ⟨rfl, trivial⟩ ?_
 refine jn ?_
 refine AWP.ret ?_
 refine ⟨.inl rfl, _, Ent.refl, _, rfl, ?_⟩
 rfl
theorem c1032 {L : Nat} (h1 : 4096 ≤ L) (h2 : L ≤ 1073741824) {k n : Int} (hk : 0 ≤ k ∧ k ≤ 1000) : MC Try.prog L 75 [eI k, pI n] [] (Plain (eI (if k < n then k else k + 1))) := by
 refine MC.alone ?_ rfl
 have hσ := SGok (nt := 10) h1 (Nat.le_trans h2 (by decide))
 refine MC.body hσ Try.func75 (by kernel_rfl) rfl rfl (Nat.le_of_ble_eq_true rfl) (fun hF => ?_)
 refine jsr ?_
 refine jst hσ rfl rfl rfl rfl rfl ?_
 refine jn ?_
 refine AWP.seq ?_
 refine jsr ?_
 iterate 3 refine jst hσ rfl rfl rfl rfl rfl ?_
 refine AOps.forget [(6, _), (3, _), (0, _)] ⟨rfl, rfl, rfl, trivial⟩ ?_
 refine jn ?_
 refine AWP.cond hσ rfl rfl (fun hc6 => ?_) (fun hc6 => ?_)
 ·
  try simp only [jcs] at hc6
  refine jsr ?_
  iterate 2 refine jst hσ rfl rfl rfl rfl rfl ?_
  refine AOps.forget [(3, _), (0, _)] ⟨rfl, rfl, trivial⟩ ?_
  refine jn ?_
  refine AWP.ret ?_
  refine ⟨.inl rfl, _, Ent.refl, _, rfl, ?_⟩
  rw [if_pos hc6]
 ·
  try simp only [jcs] at hc6
  refine AWP.skip ?_
  refine jsr ?_
  refine jst hσ rfl rfl rfl rfl rfl ?_
  first | refine jfi hσ rfl rfl rfl rfl rfl ?_ | refine jvf hσ rfl rfl rfl rfl rfl ?_
  refine jst hσ rfl rfl rfl rfl rfl ?_
  refine AOps.forget [(3, _), (0, _)] ⟨rfl, rfl, trivial⟩ ?_
  refine jn ?_
  refine AWP.ret ?_
  refine ⟨.inl rfl, _, Ent.refl, _, rfl, ?_⟩
  rw [if_neg (by omega)]
theorem c1021b {L : Nat} (h1 : 4096 ≤ L) (h2 : L ≤ 1073741824) {p : List Nd} {f1 f2 : Nat} {d1 : D} {C T : Int → Int} (hp : ∀ x ∈ p, MvOk C T x) (hc : ∀ k : Int, 0 ≤ k ∧ k ≤ 1000 → MC Try.prog L f1 [eI k] [] (Plain (eI (C k)))) (ht : ∀ k : Int, 0 ≤ k ∧ k ≤ 1000 → MC Try.prog L f2 [eI k, .c (.d d1)] [] (Plain (eI (T k)))) : MC Try.prog L 54 [ands p, .c (.fn f1 []), .c (.fn f2 [.d d1])] [] (Rows (.c (.rs 0 0 p.length)) [ndrow (p.map (mvN C T))]) := by
 refine MC.rows ?_
 have hσ := SGok (nt := 68) h1 (Nat.le_trans h2 (by decide))
 refine MC.body hσ Try.func54 (by kernel_rfl) rfl rfl (Nat.le_of_ble_eq_true rfl) (fun hF => ?_)
 have hl : p.length ≤ L := by simpa [As.fact, A.fact, M.fact, D.fact, Ds.fact] using hF.1.1
 refine jsr ?_
 refine jst hσ rfl rfl rfl rfl rfl ?_
 refine jns ?_
 refine jst hσ rfl rfl rfl rfl rfl ?_
 refine jf4 14 6 1 2 rfl rfl rfl rfl ?_
 refine AOps.rows hσ (B0 := 16000) rfl rfl rfl rfl (c1041 (ts := p) h1 h2) (VAs.self rfl) rfl rfl rfl rfl rfl rfl ?_
 refine jnm ?_
 refine jst hσ rfl rfl rfl rfl rfl ?_
 refine jf4 7 6 1 2 rfl rfl rfl rfl ?_
 refine jn ?_
 refine AWP.seq ?_
 refine jsr ?_
 refine jst hσ rfl rfl rfl rfl rfl ?_
 first | refine jle hσ rfl rfl rfl rfl rfl rfl rfl rfl rfl rfl rfl ?_ | refine jst hσ rfl rfl rfl rfl rfl ?_ | refine jvf hσ rfl rfl rfl rfl rfl ?_
 refine jst hσ rfl rfl rfl rfl rfl ?_
 refine jn ?_
 refine AWP.block ?_
 refine AWP.loopP (X := Nat) (fun i => ⟨[(1, .c (.fn f1 [])), (2, .c (.fn f2 [.d d1])), (7, .c (.rs 900 0 p.length)), (16, .c (.rs 900 0 p.length)), (17, eI p.length), (18, eI i)], [(900, ndrow (blend (mvN C T) i p))]⟩) (fun i => i ≤ p.length) (fun i => p.length - i) 0 ((Ent.sub2 16000 900 rfl rfl).trans (Ent.to ⟨rfl, rfl, rfl, rfl, rfl, rfl, trivial⟩ rfl)) ?_ (fun i hi => ?_)
 ·
  exact Nat.zero_le _
 refine jsr ?_
 refine jst hσ rfl rfl rfl rfl rfl ?_
 refine jn ?_
 refine AWP.seq ?_
 refine AWP.cond hσ rfl rfl (fun hc19 => ?_) (fun hc19 => ?_)
 ·
  try simp only [jcs] at hc19
  refine AWP.skip ?_
  refine AWP.seq ?_
  refine AWP.block ?_
  refine jsr ?_
  have hil : i < p.length := by omega
  obtain ⟨x, hx⟩ : ∃ x, x = p.getD i default := ⟨_, rfl⟩
  have hm := hp x (by rw [hx, getD_lt hil]; exact List.getElem_mem hil)
  obtain ⟨R, hR⟩ : ∃ R, R = (blend (mvN C T) i p).map Nd.cells := ⟨_, rfl⟩
  have hRl : i < R.length := by rw [hR, List.length_map, blend_length (by omega)]; exact hil
  have hRi : R[i]? = some x.cells := by rw [hR, List.getElem?_map, blend_get hil, hx]; rfl
  have hRj : R[0 + ((i : Nat) : Int).toNat]? = some x.cells := by rw [Nat.zero_add]; exact hRi
  have hRn : ∀ y, mvN C T x = y → R.set i y.cells = (blend (mvN C T) (i + 1) p).map Nd.cells := fun y hy => by rw [hR, ← blend_succ hil, ← hx, hy, List.map_set]
  have e0 : ndrow (blend (mvN C T) i p) = .row true 5 R := by rw [hR]
  rw [e0]
  refine jst hσ rfl rfl rfl rfl rfl ?_
  first | refine jin hσ rfl rfl rfl rfl rfl rfl rfl rfl rfl rfl rfl ?_ | refine jix hσ rfl rfl rfl rfl rfl rfl rfl rfl rfl rfl rfl ?_ | refine jvf hσ rfl rfl rfl rfl rfl ?_
  refine AOps.step (Val.loadRow hσ (ex := x.cells) rfl rfl rfl rfl hRj rfl) rfl rfl rfl ?_
  refine jf9 22 20 19 1 2 7 16 17 18 rfl rfl rfl rfl rfl rfl rfl rfl rfl ?_
  refine AOps.heap (HS.alloc hσ rfl rfl rfl rfl rfl) rfl ?_
  refine jnm ?_
  refine jst hσ rfl rfl rfl rfl rfl ?_
  refine jf10 8 9 22 19 1 2 7 16 17 18 rfl rfl rfl rfl rfl rfl rfl rfl rfl rfl ?_
  refine AOps.heap (HS.storeBox hσ rfl rfl rfl rfl rfl rfl rfl rfl rfl rfl rfl) rfl ?_
  refine jnm ?_
  refine jns ?_
  iterate 2 refine jst hσ rfl rfl rfl rfl rfl ?_
  refine jn ?_
  refine AWP.block ?_
  refine jsr ?_
  iterate 2 refine jst hσ rfl rfl rfl rfl rfl ?_
  refine jn ?_
  refine AWP.cond hσ rfl rfl (fun hc25 => ?_) (fun hc25 => ?_)
  ·
   try simp only [jcs] at hc25
   refine AWP.region ?_
   iterate 4 refine jst hσ rfl rfl rfl rfl rfl ?_
   have hf := hm.fact hc25
   refine jst hσ rfl rfl rfl rfl rfl ?_
   refine AOps.forget [(31, _), (29, _), (28, _), (27, _), (25, _), (26, _), (24, _), (23, _), (8, _), (9, _), (22, _), (19, _), (1, _), (2, _), (7, _), (16, _), (17, _), (18, _)] ⟨rfl, rfl, rfl, rfl, rfl, rfl, rfl, rfl, rfl, rfl, rfl, rfl, rfl, rfl, rfl, rfl, rfl, rfl, trivial⟩ ?_
   refine AOps.lone hσ rfl rfl rfl rfl (ht x.fact (by omega)) (VAs.self rfl) rfl rfl rfl rfl rfl (B0 := 33000) rfl ?_
   first | refine jin hσ rfl rfl rfl rfl rfl rfl rfl rfl rfl rfl rfl ?_ | refine jix hσ rfl rfl rfl rfl rfl rfl rfl rfl rfl rfl rfl ?_ | refine jvf hσ rfl rfl rfl rfl rfl ?_
   refine jst hσ rfl rfl rfl rfl rfl ?_
   refine AOps.forget [(34, _), (32, _), (25, _), (26, _), (24, _), (23, _), (8, _), (9, _), (22, _), (19, _), (1, _), (2, _), (7, _), (16, _), (17, _), (18, _)] ⟨rfl, rfl, rfl, rfl, rfl, rfl, rfl, rfl, rfl, rfl, rfl, rfl, rfl, rfl, rfl, rfl, trivial⟩ ?_
   refine AOps.to (Ent.sel [900] (e' := [(34, _), (32, _), (1, _), (2, _), (7, _), (16, _), (17, _), (18, _)]) rfl rfl ⟨rfl, rfl, rfl, rfl, rfl, rfl, rfl, rfl, trivial⟩ rfl) ?_
   refine AOps.heap (HS.storeRow (ex := x.cells) (xs' := R.set i [.int .i64 x.kind, .int .i64 (T x.fact), .int .i64 x.term.c, ints x.term.xs, ints (x.mul)]) hσ rfl rfl rfl rfl rfl rfl rfl rfl rfl rfl rfl rfl rfl rfl hRj (by simp)) rfl ?_
   refine jnm ?_
   refine jf6 1 2 7 16 17 18 rfl rfl rfl rfl rfl rfl ?_
   refine jn ?_
   refine AWP.region ?_
   first | refine jfi hσ rfl rfl rfl rfl rfl ?_ | refine jvf hσ rfl rfl rfl rfl rfl ?_
   refine jst hσ rfl rfl rfl rfl rfl ?_
   refine jn ?_
   refine ⟨i + 1, Ent.to ⟨rfl, rfl, rfl, rfl, rfl, rfl, trivial⟩ (by exact congrArg (fun z => [(900, B.row true 5 z)]) (hRn { x with fact := T x.fact } (by unfold mvN; rw [if_pos hc25]))), by omega, by omega⟩
  ·
   try simp only [jcs] at hc25
   refine jsr ?_
   iterate 2 refine jst hσ rfl rfl rfl rfl rfl ?_
   refine jn ?_
   refine AWP.cond hσ rfl rfl (fun hc35 => ?_) (fun hc35 => ?_)
   ·
    try simp only [jcs] at hc35
    refine jsr ?_
    iterate 3 refine jst hσ rfl rfl rfl rfl rfl ?_
    have hlm := hm.len hc35
    have hcb := hm.cntb hc35
    have hrg := hm.rng hc35
    refine AOps.step ((Val.lenRp hσ (ex := x.cells) (ys := x.mul.map fun n => [D.int .i64 n]) rfl rfl rfl rfl rfl rfl rfl hRj rfl rfl rfl).cast (v' := eI x.mul.length) (by rw [List.length_map])) rfl rfl rfl ?_
    refine AOps.forget [(40, _), (37, _), (35, _), (36, _), (25, _), (26, _), (24, _), (23, _), (8, _), (9, _), (22, _), (19, _), (1, _), (2, _), (7, _), (16, _), (17, _), (18, _)] ⟨rfl, rfl, rfl, rfl, rfl, rfl, rfl, rfl, rfl, rfl, rfl, rfl, rfl, rfl, rfl, rfl, rfl, rfl, trivial⟩ ?_
    refine AOps.lone hσ rfl rfl rfl rfl (hc x.mul.length (by omega)) (VAs.self rfl) rfl rfl rfl rfl rfl (B0 := 42000) rfl ?_
    refine AOps.forget [(41, _), (35, _), (36, _), (25, _), (26, _), (24, _), (23, _), (8, _), (9, _), (22, _), (19, _), (1, _), (2, _), (7, _), (16, _), (17, _), (18, _)] ⟨rfl, rfl, rfl, rfl, rfl, rfl, rfl, rfl, rfl, rfl, rfl, rfl, rfl, rfl, rfl, rfl, rfl, trivial⟩ ?_
    refine AOps.heap (HS.make hσ rfl rfl rfl rfl rfl rfl rfl rfl rfl (by first | omega | (simp at *; omega)) (by first | omega | (simp at *; omega)) (by first | omega | (simp at *; omega)) (by first | omega | (dsimp only; omega) | (simp only [List.length_map, beq_iff_eq, decide_eq_true_eq, decide_eq_false_iff_not, Bool.not_eq_true', Bool.not_eq_false', Bool.not_true, Bool.not_false, Int.not_lt, Int.not_le] at *; omega)) (by first | omega | (simp at *; omega)) rfl rfl rfl) rfl ?_
    refine jnm ?_
    refine jst hσ rfl rfl rfl rfl rfl ?_
    refine AOps.forget [(10, _), (35, _), (36, _), (25, _), (26, _), (24, _), (23, _), (8, _), (9, _), (22, _), (19, _), (1, _), (2, _), (7, _), (16, _), (17, _), (18, _)] ⟨rfl, rfl, rfl, rfl, rfl, rfl, rfl, rfl, rfl, rfl, rfl, rfl, rfl, rfl, rfl, rfl, rfl, trivial⟩ ?_
    refine jn ?_
    refine AWP.seq ?_
    refine jsr ?_
    iterate 2 refine jst hσ rfl rfl rfl rfl rfl ?_
    refine AOps.step ((Val.lenRp hσ (ex := x.cells) (ys := x.mul.map fun n => [D.int .i64 n]) rfl rfl rfl rfl rfl rfl rfl hRj rfl rfl rfl).cast (v' := eI x.mul.length) (by rw [List.length_map])) rfl rfl rfl ?_
    refine jst hσ rfl rfl rfl rfl rfl ?_
    refine jn ?_
    refine AWP.block ?_
    refine AWP.loopP (X := Nat) (fun j => ⟨[(1, .c (.fn f1 [])), (2, .c (.fn f2 [.d d1])), (7, .c (.rs 900 0 p.length)), (8, eI i), (10, .c (.rs 901 0 (C x.mul.length).toNat)), (16, .c (.rs 900 0 p.length)), (17, eI p.length), (18, eI i), (44, .c (.rp 900 (0 + ((i : Nat) : Int).toNat) 4)), (45, eI x.mul.length), (46, eI j)], [(900, .row true 5 R), (901, nrow (scat T x.mul (List.replicate (C x.mul.length).toNat 0) j))]⟩) (fun j => j ≤ x.mul.length) (fun j => x.mul.length - j) 0 (((Ent.sel [900, 42] (e' := [(1, _), (2, _), (7, _), (8, _), (10, _), (16, _), (17, _), (18, _), (44, _), (45, _), (46, _)]) rfl rfl ⟨rfl, rfl, rfl, rfl, rfl, rfl, rfl, rfl, rfl, rfl, rfl, trivial⟩ rfl).trans (Ent.sub2 42 901 rfl rfl)).trans (Ent.to ⟨rfl, rfl, rfl, rfl, rfl, rfl, rfl, rfl, rfl, rfl, rfl, trivial⟩ (by exact congrArg (fun z => [(900, B.row true 5 R), (901, B.row true 1 z)]) (List.map_replicate (f := fun n => [D.int .i64 n]) (a := (0 : Int)) (n := (C x.mul.length).toNat)).symm))) ?_ (fun j hi => ?_)
    ·
     exact Nat.zero_le _
    refine jsr ?_
    refine jst hσ rfl rfl rfl rfl rfl ?_
    refine jn ?_
    refine AWP.seq ?_
    refine AWP.cond hσ rfl rfl (fun hc47 => ?_) (fun hc47 => ?_)
    ·
     try simp only [jcs] at hc47
     refine AWP.skip ?_
     refine AWP.seq ?_
     refine AWP.block ?_
     refine jsr ?_
     refine jst hσ rfl rfl rfl rfl rfl ?_
     have hjl : j < x.mul.length := by omega
     have hrj := hrg j hjl
     obtain ⟨Z, hZ⟩ : ∃ Z, Z = scat T x.mul (List.replicate (C x.mul.length).toNat 0) j := ⟨_, rfl⟩
     have hZl : Z.length = (C x.mul.length).toNat := by rw [hZ, scat_length, List.length_replicate]
     rw [← hZ]
     refine AOps.idxRp hσ (ys := x.mul.map fun n => [D.int .i64 n]) (z := x.mul.getD j default) (n := j) (k2 := .i64) rfl rfl rfl rfl rfl rfl rfl rfl rfl rfl rfl rfl rfl rfl rfl rfl rfl rfl hRj rfl (idxN (by omega)) ?_
     iterate 2 refine jst hσ rfl rfl rfl rfl rfl ?_
     refine jf14 12 11 47 1 2 7 8 10 16 17 18 44 45 46 rfl rfl rfl rfl rfl rfl rfl rfl rfl rfl rfl rfl rfl rfl ?_
     refine jns ?_
     iterate 2 refine jst hσ rfl rfl rfl rfl rfl ?_
     refine AOps.forget [(52, _), (51, _), (12, _), (47, _), (1, _), (2, _), (7, _), (8, _), (10, _), (16, _), (17, _), (18, _), (44, _), (45, _), (46, _)] ⟨rfl, rfl, rfl, rfl, rfl, rfl, rfl, rfl, rfl, rfl, rfl, rfl, rfl, rfl, rfl, trivial⟩ ?_
     refine AOps.lone hσ rfl rfl rfl rfl (ht j (by omega)) (VAs.self rfl) rfl rfl rfl rfl rfl (B0 := 54000) rfl ?_
     refine jst hσ rfl rfl rfl rfl rfl ?_
     refine jf14 13 12 47 1 2 7 8 10 16 17 18 44 45 46 rfl rfl rfl rfl rfl rfl rfl rfl rfl rfl rfl rfl rfl rfl ?_
     refine jns ?_
     iterate 2 refine jst hσ rfl rfl rfl rfl rfl ?_
     refine jn ?_
     refine AWP.cond hσ rfl rfl (fun hc55 => ?_) (fun hc55 => ?_)
     ·
      try simp only [jcs] at hc55
      refine AWP.region ?_
      iterate 3 refine jst hσ rfl rfl rfl rfl rfl ?_
      first | refine jin hσ rfl rfl rfl rfl rfl rfl rfl rfl rfl rfl rfl ?_ | refine jix hσ rfl rfl rfl rfl rfl rfl rfl rfl rfl rfl rfl ?_ | refine jvf hσ rfl rfl rfl rfl rfl ?_
      refine AOps.forget [(59, _), (58, _), (55, _), (54, _), (13, _), (47, _), (1, _), (2, _), (7, _), (8, _), (10, _), (16, _), (17, _), (18, _), (44, _), (45, _), (46, _)] ⟨rfl, rfl, rfl, rfl, rfl, rfl, rfl, rfl, rfl, rfl, rfl, rfl, rfl, rfl, rfl, rfl, rfl, trivial⟩ ?_
      refine AOps.heap (HS.storeRow (ex := [.int .i64 (Z.getD (T j).toNat default)]) (xs' := (Z.set (T j).toNat (x.mul.getD j default)).map (fun n => [D.int .i64 n])) hσ rfl rfl rfl rfl rfl rfl rfl rfl rfl rfl rfl rfl rfl rfl (idx0 (by omega)) (by rw [Nat.zero_add, List.map_set]; rfl)) rfl ?_
      refine jnm ?_
      refine AOps.forget [(55, _), (54, _), (13, _), (47, _), (1, _), (2, _), (7, _), (8, _), (10, _), (16, _), (17, _), (18, _), (44, _), (45, _), (46, _)] ⟨rfl, rfl, rfl, rfl, rfl, rfl, rfl, rfl, rfl, rfl, rfl, rfl, rfl, rfl, rfl, trivial⟩ ?_
      refine jn ?_
      refine AWP.region ?_
      first | refine jfi hσ rfl rfl rfl rfl rfl ?_ | refine jvf hσ rfl rfl rfl rfl rfl ?_
      refine jst hσ rfl rfl rfl rfl rfl ?_
      refine jn ?_
      refine ⟨j + 1, Ent.to ⟨rfl, rfl, rfl, rfl, rfl, rfl, rfl, rfl, rfl, rfl, rfl, trivial⟩ (congrArg (fun z => [(900, B.row true 5 R), (901, B.row true 1 (List.map (fun n => [D.int .i64 n]) z))]) (?_ : Z.set (T j).toNat (x.mul.getD j default) = scat T x.mul (List.replicate (C x.mul.length).toNat 0) (j + 1))), by omega, by omega⟩
      show _ = if 0 ≤ T j then _ else _
      rw [if_pos (by omega), ← hZ]
     ·
      try simp only [jcs] at hc55
      refine AWP.skip ?_
      refine AWP.region ?_
      first | refine jfi hσ rfl rfl rfl rfl rfl ?_ | refine jvf hσ rfl rfl rfl rfl rfl ?_
      refine jst hσ rfl rfl rfl rfl rfl ?_
      refine jn ?_
      refine ⟨j + 1, Ent.to ⟨rfl, rfl, rfl, rfl, rfl, rfl, rfl, rfl, rfl, rfl, rfl, trivial⟩ (congrArg (fun z => [(900, B.row true 5 R), (901, B.row true 1 (List.map (fun n => [D.int .i64 n]) z))]) (?_ : Z = scat T x.mul (List.replicate (C x.mul.length).toNat 0) (j + 1))), by omega, by omega⟩
      show _ = if 0 ≤ T j then _ else _
      rw [if_neg (by omega), ← hZ]
    ·
     try simp only [jcs] at hc47
     refine AWP.exit ?_
     refine AWP.region ?_
     obtain rfl : j = x.mul.length := by omega
     iterate 3 refine jst hσ rfl rfl rfl rfl rfl ?_
     first | refine jin hσ rfl rfl rfl rfl rfl rfl rfl rfl rfl rfl rfl ?_ | refine jix hσ rfl rfl rfl rfl rfl rfl rfl rfl rfl rfl rfl ?_ | refine jvf hσ rfl rfl rfl rfl rfl ?_
     refine jst hσ rfl rfl rfl rfl rfl ?_
     refine jf14 65 63 47 1 2 7 8 10 16 17 18 44 45 46 rfl rfl rfl rfl rfl rfl rfl rfl rfl rfl rfl rfl rfl rfl ?_
     refine AOps.to (Ent.sel [900, 901] (e' := [(65, _), (63, _), (1, _), (2, _), (7, _), (16, _), (17, _), (18, _)]) rfl rfl ⟨rfl, rfl, rfl, rfl, rfl, rfl, rfl, rfl, trivial⟩ rfl) ?_
     refine AOps.heap (HS.storeAbs (ex := x.cells) (xs' := R.set i [.int .i64 x.kind, .int .i64 (x.fact), .int .i64 x.term.c, ints x.term.xs, ints (scat T x.mul (List.replicate (C x.mul.length).toNat 0) x.mul.length)]) hσ rfl rfl rfl rfl rfl rfl rfl (.rs rfl (by simp [scat_length]) .nil) rfl rfl rfl rfl rfl rfl hRj (by simp)) rfl ?_
     refine jnm ?_
     refine jf6 1 2 7 16 17 18 rfl rfl rfl rfl rfl rfl ?_
     refine jn ?_
     refine AWP.region ?_
     first | refine jfi hσ rfl rfl rfl rfl rfl ?_ | refine jvf hσ rfl rfl rfl rfl rfl ?_
     refine jst hσ rfl rfl rfl rfl rfl ?_
     refine jn ?_
     refine ⟨i + 1, Ent.to ⟨rfl, rfl, rfl, rfl, rfl, rfl, trivial⟩ (by exact congrArg (fun z => [(900, B.row true 5 z)]) (hRn { x with mul := scat T x.mul (List.replicate (C x.mul.length).toNat 0) x.mul.length } (by unfold mvN; rw [if_neg hc25, if_pos hc35]))), by omega, by omega⟩
   ·
    try simp only [jcs] at hc35
    refine AWP.skip ?_
    refine AWP.region ?_
    first | refine jfi hσ rfl rfl rfl rfl rfl ?_ | refine jvf hσ rfl rfl rfl rfl rfl ?_
    refine jst hσ rfl rfl rfl rfl rfl ?_
    refine jn ?_
    refine ⟨i + 1, (Ent.sel [900] (e' := [(1, _), (2, _), (7, _), (16, _), (17, _), (18, _)]) rfl rfl ⟨rfl, rfl, rfl, rfl, rfl, rfl, trivial⟩ rfl).trans (Ent.to ⟨rfl, rfl, rfl, rfl, rfl, rfl, trivial⟩ (by exact congrArg (fun z => [(900, B.row true 5 z)]) ((set_self' hRi).symm.trans (hRn x (by unfold mvN; rw [if_neg hc25, if_neg hc35]))))), by omega, by omega⟩
 ·
  try simp only [jcs] at hc19
  refine AWP.exit ?_
  refine jsr ?_
  iterate 2 refine jst hσ rfl rfl rfl rfl rfl ?_
  refine jn ?_
  refine AWP.ret ?_
  obtain rfl : i = p.length := by omega
  rw [blend_all]
  refine ⟨.inl rfl, _, Ent.refl, _, rfl, [900], by decide, rfl, rfl, rfl⟩
end Go.Al
namespace Go.Al
open Go.Proofs
set_option linter.unusedVariables false
set_option linter.unusedSimpArgs false
set_option maxRecDepth 10000
theorem MvOk.congr {c t c' t' : Int → Int} {x : Nd} (h : MvOk c t x) (hc : x.kind = 1 → c x.mul.length = c' x.mul.length) (ht : ∀ i : Nat, t i = t' i) : MvOk c' t' x :=
  ⟨h.kind, h.fact, h.len, fun hk => by rw [← hc hk]; exact h.cntb hk, fun hk i hi => by rw [← hc hk, ← ht i]; exact h.rng hk i hi⟩
abbrev resQ (r : Sq × List Nd × Bool) : A := .tup [aSq r.1, ands r.2.1, eB r.2.2]
abbrev noQ : Sq × List Nd × Bool := (⟨[], ⟨0, []⟩⟩, [], false)
abbrev liftSq (s : Sq) (extra : List Tm) : Sq := ⟨s.facts ++ extra, s.goal⟩
abbrev liftL (n more : Nat) : List Int := nums n ++ [((n + more : Nat) : Int)]
theorem lift_ok2 {n more : Nat} {p : List Nd} (hm : more ≤ 20) (h : ∀ x ∈ p, NdAt n x) : ∀ x ∈ p, MvOk (cntS (liftL n more) (((n + more : Nat) : Int) + 1)) (toS (liftL n more) (((n + more : Nat) : Int) + 1)) x := fun x hx =>
  (lift_ok hm h x hx).congr (fun hk => by unfold cntS liftL; rw [show (nums n ++ [((n + more : Nat) : Int)]).length = n + 1 by simp [nums_length]]; omega) (fun i => lift_to (by omega))
def liftS (s : Sq) (p : List Nd) (extra : List Tm) : Sq × List Nd × Bool :=
  if chkS s p = true ∧ extra.length ≤ 14 then
    if chkS (liftSq s extra) (liftNds s.facts.length extra.length p) = true then (liftSq s extra, liftNds s.facts.length extra.length p, true) else noQ
  else noQ
end Go.Al
namespace Go.Al
open Go.Proofs
set_option linter.unusedVariables false
set_option linter.unusedSimpArgs false
set_option maxRecDepth 10000
theorem c1026n {L : Nat} (h1 : 4096 ≤ L) (h2 : L ≤ 1073741824) {s : Sq} {p : List Nd} (hn : chkS s p = false) : MC Try.prog L 63 [aSq s, ands p] [] (Rows (.tup [.agg [.d .nils, .d (.int .i64 0), .d .nils], .c (.d .nils), eB false]) []) := by
 refine MC.rows ?_
 have hσ := SGok (nt := 14) h1 (Nat.le_trans h2 (by decide))
 refine MC.body hσ Try.func63 (by kernel_rfl) rfl rfl (Nat.le_of_ble_eq_true rfl) (fun hF => ?_)
 refine jsr ?_
 refine AOps.heap (HS.box hσ rfl rfl rfl rfl rfl rfl rfl) rfl ?_
 refine jnm ?_
 refine AOps.forget [(2, _), (1, _)] ⟨rfl, rfl, trivial⟩ ?_
 refine AOps.heap (HS.alloc hσ rfl rfl rfl rfl rfl) rfl ?_
 refine jnm ?_
 iterate 2 refine jst hσ rfl rfl rfl rfl rfl ?_
 refine jn ?_
 refine AWP.seq ?_
 refine jsr ?_
 iterate 2 refine jst hσ rfl rfl rfl rfl rfl ?_
 refine AOps.lone hσ rfl rfl rfl rfl ((c96 (s := s) (p := p) h1 h2).plain (u := eB false) (by rw [hn])) (VAs.self rfl) rfl rfl rfl rfl rfl (B0 := 10000) rfl ?_
 refine jst hσ rfl rfl rfl rfl rfl ?_
 refine jf6 10 6 5 4 2 1 rfl rfl rfl rfl rfl rfl ?_
 refine jn ?_
 refine AWP.cond hσ rfl rfl (fun hc10 => ?_) (fun hc10 => ?_)
 ·
  skip
  refine jsr ?_
  refine jst hσ rfl rfl rfl rfl rfl ?_
  refine jf6 11 6 5 4 2 1 rfl rfl rfl rfl rfl rfl ?_
  refine AOps.heap (HS.storeBox hσ rfl rfl rfl rfl rfl rfl rfl rfl rfl rfl rfl) rfl ?_
  refine jnm ?_
  iterate 2 refine jst hσ rfl rfl rfl rfl rfl ?_
  refine jn ?_
  refine AWP.ret ?_
  refine ⟨.inl rfl, _, Ent.refl, _, rfl, [], by decide, rfl, rfl, rfl⟩
 ·
  skip
  cases hc10
end Go.Al
namespace Go.Al
open Go.Proofs
set_option linter.unusedVariables false
set_option linter.unusedSimpArgs false
set_option maxRecDepth 10000
set_option maxHeartbeats 4000000
end Go.Al
namespace Go.Al
open Go.Proofs
set_option linter.unusedVariables false
set_option linter.unusedSimpArgs false
theorem cnt_nds {p : List Nd} (h : isB p = true) : cnt nN p ≤ 2000 := by
  obtain ⟨_, h60, hn, _⟩ := isB_spec h
  have key : ∀ l : List Nd, (∀ x ∈ l, ndB x = true) → cnt nN l ≤ 33 * l.length := by
    intro l hl
    induction l with
    | nil => simp [cnt]
    | cons t r ih =>
      have h1 := ih fun t ht => hl t (by simp [ht])
      have h2 := hl t (by simp)
      have h3 := ok_len (ndB_term h2)
      have h4 := ndB_mlen h2
      simp only [cnt, List.map_cons, List.sum_cons, List.length_cons] at h1 ⊢
      have : nN t = 3 + t.term.xs.length + t.mul.length := rfl
      omega
  have := key p hn
  omega
end Go.Al
namespace Go.Al
open Go.Proofs
set_option linter.unusedVariables false
set_option linter.unusedSimpArgs false
set_option maxRecDepth 10000
abbrev dropSq (s : Sq) (p : List Nd) : Sq := ⟨dropFacts s p, s.goal⟩
def dropS (s : Sq) (p : List Nd) : Sq × List Nd × Bool := if chkS s p = true then (dropSq s p, dropNds s p, true) else noQ
end Go.Al
namespace Go.Al
open Go.Proofs
set_option linter.unusedVariables false
set_option linter.unusedSimpArgs false
set_option maxRecDepth 10000
end Go.Al
namespace Go.Al
open Go.Proofs
set_option linter.unusedVariables false
set_option linter.unusedSimpArgs false
set_option maxRecDepth 10000
set_option maxHeartbeats 4000000
end Go.Al
namespace Go.Al
open Go.Proofs
set_option linter.unusedVariables false
set_option linter.unusedSimpArgs false
end Go.Al
namespace Go.Al
open Go.Proofs
set_option linter.unusedVariables false
set_option linter.unusedSimpArgs false
set_option maxRecDepth 10000
abbrev joinNd (t : Tm) : Nd := ⟨2, 0, t, []⟩
def joinNds (n : Nat) (t : Tm) (p q : List Nd) : List Nd := joinNd t :: (swapNds n q ++ liftNds n 1 p)
abbrev resJ (r : List Nd × Bool) : A := .tup [ands r.1, eB r.2]
abbrev oneSq (s : Sq) (t : Tm) : Sq := ⟨s.facts, t⟩
abbrev twoSq (s : Sq) (t : Tm) : Sq := ⟨s.facts ++ [t], s.goal⟩
def joinS (s : Sq) (t : Tm) (p q : List Nd) : List Nd × Bool :=
  if seqB s = true ∧ chkS (oneSq s t) p = true ∧ chkS (twoSq s t) q = true then
    if chkS s (joinNds s.facts.length t p q) = true then (joinNds s.facts.length t p q, true) else ([], false)
  else ([], false)
theorem swap_ok2 {n : Nat} {p : List Nd} (h : ∀ x ∈ p, NdAt (n + 1) x) : ∀ x ∈ p, MvOk (cntS (nums n ++ [(n : Int) + 1] ++ [(n : Int)]) ((n : Int) + 2)) (toS (nums n ++ [(n : Int) + 1] ++ [(n : Int)]) ((n : Int) + 2)) x := fun x hx =>
  (swap_ok h x hx).congr (fun hk => by unfold cntS; rw [show (nums n ++ [(n : Int) + 1] ++ [(n : Int)]).length = n + 2 by simp [nums_length]]; omega) (fun i => swap_to (by omega))
theorem seq_one {s : Sq} {t : Tm} {p : List Nd} (h : chkS (oneSq s t) p = true) : t.ok = true := (seqB_spec (chkS_spec h).1).2.2
theorem nds_two {s : Sq} {t : Tm} {q : List Nd} (h : chkS (twoSq s t) q = true) : ∀ x ∈ q, NdAt (s.facts.length + 1) x := by
  have := acc_nodes h
  simpa using this
theorem or2T {a b : Bool} (h : (bif !a then true else !b) = true) : ¬ (a = true ∧ b = true) := by cases a <;> simp_all
theorem or2F {a b : Bool} (h : (bif !a then true else !b) = false) : a = true ∧ b = true := by cases a <;> simp_all
theorem c1012 {L : Nat} (h1 : 4096 ≤ L) (h2 : L ≤ 1073741824) {s : Sq} {t : Tm} {p q : List Nd} : MC Try.prog L 28 [aSq s, aTm' t, ands p, ands q] [] (Plain (resJ (joinS s t p q))) := by
 refine MC.data ?_
 have hσ := SGok (nt := 83) h1 (Nat.le_trans h2 (by decide))
 refine MC.body hσ Try.func28 (by kernel_rfl) rfl rfl (Nat.le_of_ble_eq_true rfl) (fun hF => ?_)
 refine jsr ?_
 refine AOps.heap (HS.box hσ rfl rfl rfl rfl rfl rfl rfl) rfl ?_
 refine jnm ?_
 refine AOps.to (Ent.freeze 4 (e' := [(4, _), (1, _), (2, _), (3, _)]) rfl (.cons rfl (.c (.box (cs := Sq.cells s) rfl (VMs.self rfl))) (.cons rfl (.keep rfl) (.cons rfl (.keep rfl) (.cons rfl (.keep rfl) .nil)))) (.skip .nil)) ?_
 refine jnm ?_
 refine AOps.heap (HS.box hσ rfl rfl rfl rfl rfl rfl rfl) rfl ?_
 refine jnm ?_
 refine AOps.to (Ent.freeze 5 (e' := [(5, _), (4, _), (2, _), (3, _)]) rfl (.cons rfl (.c (.box (cs := Tm.cells t) rfl (VMs.self rfl))) (.cons rfl (.keep rfl) (.cons rfl (.keep rfl) (.cons rfl (.keep rfl) .nil)))) (.skip .nil)) ?_
 refine jnm ?_
 iterate 2 refine jst hσ rfl rfl rfl rfl rfl ?_
 refine jn ?_
 refine AWP.seq ?_
 refine jsr ?_
 refine AOps.lone hσ rfl rfl rfl rfl (c82 (s := s) h1 h2) (VAs.self rfl) rfl rfl rfl rfl rfl (B0 := 17000) rfl ?_
 iterate 2 refine jst hσ rfl rfl rfl rfl rfl ?_
 refine jf7 18 9 8 5 4 2 3 rfl rfl rfl rfl rfl rfl rfl ?_
 refine AOps.gr 2 rfl rfl rfl (fun hx => AN.lone hσ hx rfl rfl rfl rfl (c136 (t := t) h1 h2) (VAs.self rfl) rfl rfl rfl rfl rfl rfl rfl (B0 := 20000) rfl ( AN.step hx rfl rfl rfl (Val.of hσ rfl rfl) rfl rfl ( AN.nil))) rfl rfl ?_
 first | refine AOps.step (Val.pickF hσ rfl rfl rfl rfl rfl) rfl rfl rfl ?_ | refine AOps.step (Val.pickB hσ rfl rfl rfl rfl rfl) rfl rfl rfl ?_ | refine AOps.step (Val.pickT hσ rfl rfl rfl rfl rfl) rfl rfl rfl ?_
 refine jf7 21 9 8 5 4 2 3 rfl rfl rfl rfl rfl rfl rfl ?_
 refine jn ?_
 refine AWP.cond hσ rfl rfl (fun hc21 => ?_) (fun hc21 => ?_)
 ·
  skip
  refine jsr ?_
  iterate 2 refine jst hσ rfl rfl rfl rfl rfl ?_
  refine jn ?_
  refine AWP.ret ?_
  refine ⟨.inl rfl, _, Ent.refl, _, rfl, ?_⟩
  rw [show joinS s t p q = ([], false) from by unfold joinS; rw [if_neg (fun h => or2T hc21 ⟨h.1, seq_one h.2.1⟩)]]
  exact .tup (.cons (.c .nils) (.cons (.c .d) .nil))
 ·
  skip
  refine AWP.skip ?_
  refine jsr ?_
  obtain ⟨hs, ht⟩ := or2F hc21
  have hs13 := (seqB_spec hs).2.1
  iterate 2 refine jst hσ rfl rfl rfl rfl rfl ?_
  first | refine jle hσ rfl rfl rfl rfl rfl rfl rfl rfl rfl rfl rfl ?_ | refine jst hσ rfl rfl rfl rfl rfl ?_ | refine jvf hσ rfl rfl rfl rfl rfl ?_
  refine jst hσ rfl rfl rfl rfl rfl ?_
  refine jf7 10 9 8 5 4 2 3 rfl rfl rfl rfl rfl rfl rfl ?_
  refine jns ?_
  iterate 4 refine jst hσ rfl rfl rfl rfl rfl ?_
  refine jf8 28 10 9 8 5 4 2 3 rfl rfl rfl rfl rfl rfl rfl rfl ?_
  refine AOps.heap (HS.alloc hσ rfl rfl rfl rfl rfl) rfl ?_
  refine jnm ?_
  refine AOps.heap (HS.storeBox hσ rfl rfl rfl rfl rfl rfl rfl rfl rfl rfl rfl) rfl ?_
  refine jnm ?_
  refine jn ?_
  refine AWP.seq ?_
  refine AWP.ent (Ent.freeze 11 (e' := [(11, _), (10, _), (4, _), (5, _), (2, _), (3, _)]) rfl (.cons rfl (.c (.box (cs := Sq.cells (oneSq s t)) rfl (VMs.self rfl))) (.cons rfl (.keep rfl) (.cons rfl (.keep rfl) (.cons rfl (.keep rfl) (.cons rfl (.keep rfl) (.cons rfl (.keep rfl) .nil)))))) (.skip .nil)) ?_
  refine AWP.drawS hσ _ [_, _, _, _, _, _, _, _, _, _, _] [⟨[], 0, 0, none⟩, ⟨[0], 0, 0, none⟩, ⟨[0, 1], 0, 0, some 0⟩, ⟨[], 0, 1, none⟩, ⟨[3], 0, 1, none⟩, ⟨[0, 1, 2, 3, 4], 0, 0, some 1⟩, ⟨[], 0, 2, none⟩, ⟨[6], 0, 2, none⟩, ⟨[0, 1, 2, 3, 4, 5, 6, 7], 2, 2, none⟩, ⟨[], 0, 2, none⟩, ⟨[0, 1, 2, 3, 4, 5, 6, 7, 8, 9], 0, 0, some 2⟩] [2, 5, 10] 9 12 (.box [.d .nils, .d (.int .i64 0), .d .nils]) [_, _, _] [_] [[], [32000], []] rfl rfl (by decide) (by decide) (by decide) rfl (by kernel_rfl) (And.intro (And.intro (and_flip (.inl (Val.of hσ rfl rfl)) (.inl (Val.of hσ rfl rfl))) rfl) (And.intro (And.intro (and_flip (.inl (Val.of hσ rfl rfl)) (.inl (Val.of hσ rfl rfl))) rfl) (And.intro (And.intro (and_flip (Eff.p (Eff.rowsD hσ (B0 := 32000) rfl rfl rfl rfl (c86r (ts := s.facts) h1 h2) (VAs.self rfl) rfl rfl rfl rfl)) (Eff.p (Eff.rowsD hσ (B0 := 32000) rfl rfl rfl rfl (c86r (ts := s.facts) h1 h2) (VAs.self rfl) rfl rfl rfl rfl))) rfl) (And.intro (And.intro (And.intro (and_flip (.inl (Val.of hσ rfl rfl)) (.inl (Val.of hσ rfl rfl))) rfl) (And.intro (and_flip (.inl (Val.of hσ rfl rfl)) (.inl (Val.of hσ rfl rfl))) rfl)) (And.intro (And.intro (And.intro (and_flip (.inr (Eff.litS hσ rfl rfl rfl rfl rfl rfl rfl rfl rfl rfl rfl rfl rfl (by first | exact .skip .nil | exact .cons rfl (.box (FMs.keep rfl)) (.skip .nil) | exact .skip (.cons rfl .row .nil) | exact .cons rfl (.box (FMs.keep rfl)) (.skip (.cons rfl .row .nil))))) (.inr (Eff.litS hσ rfl rfl rfl rfl rfl rfl rfl rfl rfl rfl rfl rfl rfl (by first | exact .skip .nil | exact .cons rfl (.box (FMs.keep rfl)) (.skip .nil) | exact .skip (.cons rfl .row .nil) | exact .cons rfl (.box (FMs.keep rfl)) (.skip (.cons rfl .row .nil)))))) rfl) (And.intro (and_flip (.inr (Eff.litS hσ rfl rfl rfl rfl rfl rfl rfl rfl rfl rfl rfl rfl rfl (by first | exact .skip .nil | exact .cons rfl (.box (FMs.keep rfl)) (.skip .nil) | exact .skip (.cons rfl .row .nil) | exact .cons rfl (.box (FMs.keep rfl)) (.skip (.cons rfl .row .nil))))) (.inr (Eff.litS hσ rfl rfl rfl rfl rfl rfl rfl rfl rfl rfl rfl rfl rfl (by first | exact .skip .nil | exact .cons rfl (.box (FMs.keep rfl)) (.skip .nil) | exact .skip (.cons rfl .row .nil) | exact .cons rfl (.box (FMs.keep rfl)) (.skip (.cons rfl .row .nil)))))) rfl)) (And.intro (And.intro (and_flip (Eff.appCopy (own := false) (xs := s.facts.map Tm.cells) (ys := [Tm.cells t]) (zs := (s.facts ++ [t]).map Tm.cells) (n := (s.facts ++ [t]).length) hσ rfl rfl rfl rfl rfl rfl rfl rfl rfl rfl rfl rfl rfl rfl rfl rfl (.row rfl (List.length_map _).symm) (.slc (.inl rfl)) (by simp) rfl (by simp; omega) (by simp; omega) (by simp) (by simp) rfl) (Eff.appCopy (own := false) (xs := s.facts.map Tm.cells) (ys := [Tm.cells t]) (zs := (s.facts ++ [t]).map Tm.cells) (n := (s.facts ++ [t]).length) hσ rfl rfl rfl rfl rfl rfl rfl rfl rfl rfl rfl rfl rfl rfl rfl rfl (.row rfl (List.length_map _).symm) (.slc (.inl rfl)) (by simp) rfl (by simp; omega) (by simp; omega) (by simp) (by simp) rfl)) rfl) (And.intro (And.intro (And.intro (and_flip (.inl (Val.of hσ rfl rfl)) (.inl (Val.of hσ rfl rfl))) rfl) (And.intro (And.intro (and_flip (.inl (Val.of hσ rfl rfl)) (.inl (Val.of hσ rfl rfl))) rfl) (And.intro (and_flip (.inl (Val.of hσ rfl rfl)) (.inl (Val.of hσ rfl rfl))) rfl))) (And.intro (And.intro (And.intro (and_flip (.inl (Val.of hσ rfl rfl)) (.inl (Val.of hσ rfl rfl))) rfl) (And.intro (And.intro (and_flip (.inl (Val.of hσ rfl rfl)) (.inl (Val.of hσ rfl rfl))) rfl) (And.intro (and_flip (.inl (Val.of hσ rfl rfl)) (.inl (Val.of hσ rfl rfl))) rfl))) (And.intro (And.intro (and_flip (.inl (Val.of hσ rfl rfl)) (.inl (Val.of hσ rfl rfl))) rfl) (And.intro (And.intro (And.intro (Eff.p (Eff.alloc hσ rfl rfl rfl rfl rfl rfl)) rfl) (And.intro (And.intro (Eff.p (Eff.alloc hσ rfl rfl rfl rfl rfl rfl)) rfl) (And.intro (Eff.p (Eff.alloc hσ rfl rfl rfl rfl rfl rfl)) rfl))) (And.intro (And.intro (and_flip trivial (Eff.p (Eff.storeBox hσ rfl rfl rfl rfl rfl rfl rfl rfl rfl rfl rfl rfl rfl))) rfl) trivial))))))))))) ?_
  refine AWP.forget [(12, _), (11, _), (10, _), (4, _), (5, _), (2, _), (3, _)] ⟨rfl, rfl, rfl, rfl, rfl, rfl, rfl, trivial⟩ ?_
  refine jnw ?_
  refine AWP.seq ?_
  refine jsr ?_
  refine AOps.to (Ent.freeze 34 (e' := [(12, _), (11, _), (10, _), (4, _), (5, _), (2, _), (3, _)]) rfl (.cons rfl (.keep rfl) (.cons rfl (.keep rfl) (.cons rfl (.keep rfl) (.cons rfl (.keep rfl) (.cons rfl (.keep rfl) (.cons rfl (.keep rfl) (.cons rfl (.keep rfl) .nil))))))) (.cons rfl (.box (.cons (.row rfl (List.length_map _).symm) (.cons (.keep rfl) (.cons (.keep rfl) .nil)))) (.skip .nil))) ?_
  refine AOps.to (Ent.freeze 12 (e' := [(12, _), (11, _), (10, _), (4, _), (5, _), (2, _), (3, _)]) rfl (.cons rfl (.c (.box (cs := Sq.cells (twoSq s t)) rfl (VMs.self rfl))) (.cons rfl (.keep rfl) (.cons rfl (.keep rfl) (.cons rfl (.keep rfl) (.cons rfl (.keep rfl) (.cons rfl (.keep rfl) (.cons rfl (.keep rfl) .nil))))))) (.skip .nil)) ?_
  refine jst hσ rfl rfl rfl rfl rfl ?_
  refine AOps.lone hσ rfl rfl rfl rfl (c97 (s := oneSq s t) (p := p) h1 h2) (VAs.self rfl) rfl rfl rfl rfl rfl (B0 := 40000) rfl ?_
  iterate 2 refine jst hσ rfl rfl rfl rfl rfl ?_
  refine jf8 41 12 11 10 4 5 2 3 rfl rfl rfl rfl rfl rfl rfl rfl ?_
  refine AOps.gr 3 rfl rfl rfl (fun hx => AN.step hx rfl rfl rfl (Val.of hσ rfl rfl) rfl rfl ( AN.lone hσ hx rfl rfl rfl rfl (c97 (s := twoSq s t) (p := q) h1 h2) (VAs.self rfl) rfl rfl rfl rfl rfl rfl rfl (B0 := 44000) rfl ( AN.step hx rfl rfl rfl (Val.of hσ rfl rfl) rfl rfl ( AN.nil)))) rfl rfl ?_
  first | refine AOps.step (Val.pickF hσ rfl rfl rfl rfl rfl) rfl rfl rfl ?_ | refine AOps.step (Val.pickB hσ rfl rfl rfl rfl rfl) rfl rfl rfl ?_ | refine AOps.step (Val.pickT hσ rfl rfl rfl rfl rfl) rfl rfl rfl ?_
  refine jf8 45 12 11 10 4 5 2 3 rfl rfl rfl rfl rfl rfl rfl rfl ?_
  refine jn ?_
  refine AWP.cond hσ rfl rfl (fun hc45 => ?_) (fun hc45 => ?_)
  ·
   skip
   refine jsr ?_
   iterate 2 refine jst hσ rfl rfl rfl rfl rfl ?_
   refine jn ?_
   refine AWP.ret ?_
   refine ⟨.inl rfl, _, Ent.refl, _, rfl, ?_⟩
   rw [show joinS s t p q = ([], false) from by unfold joinS; rw [if_neg (fun h => or2T hc45 ⟨h.2.1, h.2.2⟩)]]
   exact .tup (.cons (.c .nils) (.cons (.c .d) .nil))
  ·
   skip
   refine AWP.skip ?_
   refine jsr ?_
   obtain ⟨hk1, hk2⟩ := or2F hc45
   have hp := acc_nodes hk1
   have hq := nds_two hk2
   have hpl := acc_len hk1
   have hql := acc_len hk2
   refine jst hσ rfl rfl rfl rfl rfl ?_
   refine jf8 46 12 11 10 4 5 2 3 rfl rfl rfl rfl rfl rfl rfl rfl ?_
   refine AOps.rows hσ (B0 := 48000) rfl rfl rfl rfl (c1025 (n := s.facts.length) h1 h2 (by omega)) (VAs.self rfl) rfl rfl rfl rfl rfl rfl ?_
   refine jnm ?_
   refine jst hσ rfl rfl rfl rfl rfl ?_
   first | refine jfi hσ rfl rfl rfl rfl rfl ?_ | refine jvf hσ rfl rfl rfl rfl rfl ?_
   refine jf9 49 47 12 11 10 4 5 2 3 rfl rfl rfl rfl rfl rfl rfl rfl rfl ?_
   refine AOps.heap (HS.lit hσ rfl rfl rfl) rfl ?_
   refine jnm ?_
   refine jf9 50 47 12 11 10 4 5 2 3 rfl rfl rfl rfl rfl rfl rfl rfl rfl ?_
   refine AOps.heap (HS.appMove (zs := ((nums s.facts.length ++ [(s.facts.length : Int) + 1])).map fun n => [.int .i64 n]) (n := s.facts.length + 1) hσ rfl rfl rfl rfl rfl rfl rfl rfl rfl rfl rfl rfl rfl rfl rfl rfl (.row rfl (by simp [nums_length])) rfl rfl (by decide) rfl (by simp [nums_length]; omega) (by simp [nums_length]; omega) (by simp only [List.map_append]; rfl) (by simp [nums_length])) rfl ?_
   refine jnm ?_
   refine jnm ?_
   refine jst hσ rfl rfl rfl rfl rfl ?_
   refine jf8 13 12 11 10 4 5 2 3 rfl rfl rfl rfl rfl rfl rfl rfl ?_
   refine jns ?_
   iterate 2 refine jst hσ rfl rfl rfl rfl rfl ?_
   refine AOps.heap (HS.lit hσ rfl rfl rfl) rfl ?_
   refine jnm ?_
   refine jf10 54 52 13 12 11 10 4 5 2 3 rfl rfl rfl rfl rfl rfl rfl rfl rfl rfl ?_
   refine AOps.heap (HS.appMove (zs := ((nums s.facts.length ++ [(s.facts.length : Int) + 1] ++ [(s.facts.length : Int)])).map fun n => [.int .i64 n]) (n := s.facts.length + 2) hσ rfl rfl rfl rfl rfl rfl rfl rfl rfl rfl rfl rfl rfl rfl rfl rfl (.row rfl (by simp [nums_length])) rfl rfl (by decide) rfl (by simp [nums_length]; omega) (by simp [nums_length]; omega) (by simp only [List.map_append]; rfl) (by simp [nums_length])) rfl ?_
   refine jnm ?_
   refine jnm ?_
   refine jst hσ rfl rfl rfl rfl rfl ?_
   refine jf8 13 12 11 10 4 5 2 3 rfl rfl rfl rfl rfl rfl rfl rfl ?_
   refine jns ?_
   refine jst hσ rfl rfl rfl rfl rfl ?_
   refine AOps.rows hσ (B0 := 58000) rfl rfl rfl rfl (c1025 (n := s.facts.length) h1 h2 (by omega)) (VAs.self rfl) rfl rfl rfl rfl rfl rfl ?_
   refine jnm ?_
   refine jst hσ rfl rfl rfl rfl rfl ?_
   first | refine jfi hσ rfl rfl rfl rfl rfl ?_ | refine jvf hσ rfl rfl rfl rfl rfl ?_
   refine jf10 59 57 13 12 11 10 4 5 2 3 rfl rfl rfl rfl rfl rfl rfl rfl rfl rfl ?_
   refine AOps.heap (HS.lit hσ rfl rfl rfl) rfl ?_
   refine jnm ?_
   refine jf10 60 57 13 12 11 10 4 5 2 3 rfl rfl rfl rfl rfl rfl rfl rfl rfl rfl ?_
   refine AOps.heap (HS.appMove (zs := ((liftL s.facts.length 1)).map fun n => [.int .i64 n]) (n := s.facts.length + 1) hσ rfl rfl rfl rfl rfl rfl rfl rfl rfl rfl rfl rfl rfl rfl rfl rfl (.row rfl (by simp [nums_length])) rfl rfl (by decide) rfl (by simp [nums_length]; omega) (by simp [nums_length]; omega) (by simp only [List.map_append]; rfl) (by simp [nums_length])) rfl ?_
   refine jnm ?_
   refine jnm ?_
   refine jst hσ rfl rfl rfl rfl rfl ?_
   refine jf9 14 13 12 11 10 4 5 2 3 rfl rfl rfl rfl rfl rfl rfl rfl rfl ?_
   refine jns ?_
   refine AOps.plainD hσ rfl rfl rfl rfl (c143 (t := t) h1 h2) (VAs.self rfl) rfl rfl rfl rfl (B0 := 63000) rfl rfl ?_
   refine jst hσ rfl rfl rfl rfl rfl ?_
   refine jf10 63 14 13 12 11 10 4 5 2 3 rfl rfl rfl rfl rfl rfl rfl rfl rfl rfl ?_
   refine AOps.heap (HS.litD hσ rfl rfl rfl rfl rfl rfl rfl rfl rfl rfl rfl) rfl ?_
   refine AOps.to (Ent.rowLe 64 rfl (NLess.cons (ys := []) (y := Nd.cells (joinNd t)) (.cons .refl (.cons .refl (.cons .refl (.cons .refl (.cons (.nil (sz := 1)) .nil))))) .nil)) ?_
   refine jnm ?_
   refine jnm ?_
   refine jst hσ rfl rfl rfl rfl rfl ?_
   refine jf10 15 14 13 12 11 10 4 5 2 3 rfl rfl rfl rfl rfl rfl rfl rfl rfl rfl ?_
   refine jns ?_
   refine AOps.to (Ent.freeze 55 (e' := [(15, _), (14, _), (13, _), (10, _), (4, _), (2, _), (3, _)]) rfl (.cons rfl (.keep rfl) (.cons rfl (.keep rfl) (.cons rfl (.c (.row rfl (by simp [nums_length]))) (.cons rfl (.keep rfl) (.cons rfl (.keep rfl) (.cons rfl (.keep rfl) (.cons rfl (.keep rfl) .nil))))))) (.skip (.cons rfl .row (.cons rfl .row .nil)))) ?_
   refine AOps.to (Ent.freeze 61 (e' := [(15, _), (14, _), (13, _), (10, _), (4, _), (2, _), (3, _)]) rfl (.cons rfl (.keep rfl) (.cons rfl (.c (.row rfl (by simp [nums_length]))) (.cons rfl (.keep rfl) (.cons rfl (.keep rfl) (.cons rfl (.keep rfl) (.cons rfl (.keep rfl) (.cons rfl (.keep rfl) .nil))))))) (.skip (.cons rfl .row .nil))) ?_
   iterate 4 refine jst hσ rfl rfl rfl rfl rfl ?_
   first | refine jfi hσ rfl rfl rfl rfl rfl ?_ | refine jvf hσ rfl rfl rfl rfl rfl ?_
   refine jf11 69 67 66 65 15 14 13 10 4 2 3 rfl rfl rfl rfl rfl rfl rfl rfl rfl rfl rfl ?_
   refine AOps.plainD hσ rfl rfl rfl rfl (c1020 (p := q) (to := (nums s.facts.length ++ [(s.facts.length : Int) + 1] ++ [(s.facts.length : Int)])) (base := (s.facts.length : Int) + 2) h1 h2 (swap_ok2 hq) (by omega) (by simp [nums_length]; omega)) (VAs.self rfl) rfl rfl rfl rfl (B0 := 71000) rfl rfl ?_
   refine jf9 70 65 15 14 13 10 4 2 3 rfl rfl rfl rfl rfl rfl rfl rfl rfl ?_
   refine AOps.heap (HS.appCopy (own := false) (xs := ([joinNd t]).map Nd.cells) (zs := (joinNd t :: swapNds s.facts.length q).map Nd.cells) (n := (joinNd t :: swapNds s.facts.length q).length) hσ rfl rfl rfl rfl rfl rfl rfl rfl rfl rfl rfl rfl rfl rfl rfl rfl (.row rfl (by simp)) (.slc (.inl rfl)) (by simp) rfl (by simp [swapNds, liftNds]; omega) (by simp [swapNds, liftNds]; omega) (by rw [← List.map_append]; rfl) (List.length_map _)) rfl ?_
   refine jnm ?_
   refine jnm ?_
   refine jst hσ rfl rfl rfl rfl rfl ?_
   refine jf7 15 14 13 10 4 2 3 rfl rfl rfl rfl rfl rfl rfl ?_
   refine jns ?_
   iterate 4 refine jst hσ rfl rfl rfl rfl rfl ?_
   first | refine jfi hσ rfl rfl rfl rfl rfl ?_ | refine jvf hσ rfl rfl rfl rfl rfl ?_
   refine jf10 76 74 73 72 15 13 10 4 2 3 rfl rfl rfl rfl rfl rfl rfl rfl rfl rfl ?_
   refine AOps.plainD hσ rfl rfl rfl rfl (c1020 (p := p) (to := liftL s.facts.length 1) (base := ((s.facts.length + 1 : Nat) : Int) + 1) h1 h2 (lift_ok2 (by decide) hp) (by omega) (by simp [nums_length]; omega)) (VAs.self rfl) rfl rfl rfl rfl (B0 := 78000) rfl rfl ?_
   refine jf8 77 72 15 13 10 4 2 3 rfl rfl rfl rfl rfl rfl rfl rfl ?_
   refine AOps.heap (HS.appCopy (own := false) (xs := (joinNd t :: swapNds s.facts.length q).map Nd.cells) (zs := (joinNds s.facts.length t p q).map Nd.cells) (n := (joinNds s.facts.length t p q).length) hσ rfl rfl rfl rfl rfl rfl rfl rfl rfl rfl rfl rfl rfl rfl rfl rfl (.row rfl (by simp)) (.slc (.inl rfl)) (by simp) rfl (by simp [swapNds, liftNds]; omega) (by simp [swapNds, liftNds]; omega) (by rw [← List.map_append]; rfl) (List.length_map _)) rfl ?_
   refine jnm ?_
   refine jnm ?_
   refine jst hσ rfl rfl rfl rfl rfl ?_
   refine jf6 15 13 10 4 2 3 rfl rfl rfl rfl rfl rfl ?_
   refine jn ?_
   refine AWP.seq ?_
   refine jsr ?_
   refine AOps.to (Ent.freeze 78 (e' := [(15, _), (4, _)]) rfl (.cons rfl (.c (.row rfl (List.length_map _).symm)) (.cons rfl (.keep rfl) .nil)) (.skip .nil)) ?_
   refine jst hσ rfl rfl rfl rfl rfl ?_
   refine AOps.lone hσ rfl rfl rfl rfl (c97 (s := s) (p := joinNds s.facts.length t p q) h1 h2) (VAs.self rfl) rfl rfl rfl rfl rfl (B0 := 81000) rfl ?_
   refine jst hσ rfl rfl rfl rfl rfl ?_
   refine AOps.forget [(81, _), (15, _), (4, _)] ⟨rfl, rfl, rfl, trivial⟩ ?_
   refine jn ?_
   refine AWP.cond hσ rfl rfl (fun hc81 => ?_) (fun hc81 => ?_)
   ·
    skip
    refine jsr ?_
    iterate 2 refine jst hσ rfl rfl rfl rfl rfl ?_
    refine jn ?_
    refine AWP.ret ?_
    refine ⟨.inl rfl, _, Ent.refl, _, rfl, ?_⟩
    rw [show joinS s t p q = ([], false) from by unfold joinS; rw [if_pos ⟨hs, hk1, hk2⟩, if_neg (by intro h; rw [h] at hc81; cases hc81)]]
    exact .tup (.cons (.c .nils) (.cons (.c .d) .nil))
   ·
    skip
    refine AWP.skip ?_
    refine jsr ?_
    iterate 3 refine jst hσ rfl rfl rfl rfl rfl ?_
    refine jf4 9 8 15 4 rfl rfl rfl rfl ?_
    refine jn ?_
    refine AWP.ret ?_
    refine ⟨.inl rfl, _, Ent.refl, _, rfl, ?_⟩
    rw [show joinS s t p q = (joinNds s.facts.length t p q, true) from by unfold joinS; rw [if_pos ⟨hs, hk1, hk2⟩, if_pos (by simpa using hc81)]]
    exact .tup (.cons (.c .d) (.cons (.c .d) .nil))
end Go.Al
