/- The program's elimination. -/
import Derived.Test.YtegcggeaempllaaGreatP
namespace Go.Al
open Go.Proofs
set_option linter.unusedVariables false
set_option linter.unusedSimpArgs false
set_option maxRecDepth 10000
theorem c211b {L : Nat} (h1 : 4096 ≤ L) (h2 : L ≤ 1073741824) {x : Int} (hx : -4000000000000 ≤ x ∧ x ≤ 4000000000000) : MC Tryz.prog L 86 [eI x] [] (Plain (eI x.natAbs)) := by
 refine MC.alone ?_ rfl
 have hσ := SGok (nt := 7) h1 (Nat.le_trans h2 (by decide))
 refine MC.body hσ Tryz.func86 (by kernel_rfl) rfl rfl (Nat.le_of_ble_eq_true rfl) (fun hF => ?_)
 refine jsr ?_
 refine jst hσ rfl rfl rfl rfl rfl ?_
 refine jns ?_
 iterate 2 refine jst hσ rfl rfl rfl rfl rfl ?_
 refine jfi hσ rfl rfl rfl rfl rfl ?_
 iterate 2 refine jst hσ rfl rfl rfl rfl rfl ?_
 refine jn ?_
 refine AWP.ret ?_
 refine ⟨.inl rfl, _, Ent.refl, _, rfl, ?_⟩
 exact congrArg eI (show (if 0 - x > x then 0 - x else x) = (x.natAbs : Int) by split <;> omega)
theorem c204b {L : Nat} (h1 : 4096 ≤ L) (h2 : L ≤ 1073741824) {xs : List Int} (ht : ∀ x ∈ xs, -4000000000000 ≤ x ∧ x ≤ 4000000000000) : MC Tryz.prog L 67 [aints xs] [] (Plain (eI (gcdL xs))) := by
 refine MC.alone ?_ rfl
 have hσ := SGok (nt := 26) h1 (Nat.le_trans h2 (by decide))
 refine MC.body hσ Tryz.func67 (by kernel_rfl) rfl rfl (Nat.le_of_ble_eq_true rfl) (fun hF => ?_)
 have hl : xs.length ≤ L := by simpa [As.fact, A.fact, M.fact, D.fact, Ds.fact] using hF.1.1
 refine jsr ?_
 refine jst hσ rfl rfl rfl rfl rfl ?_
 refine jns ?_
 refine jst hσ rfl rfl rfl rfl rfl ?_
 refine jn ?_
 refine AWP.seq ?_
 refine jsr ?_
 refine jst hσ rfl rfl rfl rfl rfl ?_
 first | refine jle hσ rfl rfl rfl rfl rfl rfl rfl rfl rfl rfl rfl ?_ | refine jst hσ rfl rfl rfl rfl rfl ?_ | refine jvf hσ rfl rfl rfl rfl rfl ?_
 refine jst hσ rfl rfl rfl rfl rfl ?_
 refine jn ?_
 refine AWP.block ?_
 refine AWP.loopP (X := Nat) (fun i => ⟨[(3, eI (gcdL (xs.take i))), (8, aints xs), (9, eI xs.length), (10, eI i)], []⟩) (fun i => i ≤ xs.length) (fun i => xs.length - i) 0 (Ent.env ⟨rfl, rfl, rfl, rfl, trivial⟩) ?_ (fun i hi => ?_)
 ·
  exact Nat.zero_le _
 refine jsr ?_
 refine jst hσ rfl rfl rfl rfl rfl ?_
 refine jn ?_
 refine AWP.seq ?_
 refine AWP.cond hσ rfl rfl (fun hc11 => ?_) (fun hc11 => ?_)
 ·
  try simp only [jcs] at hc11
  refine AWP.skip ?_
  refine AWP.seq ?_
  refine AWP.block ?_
  refine jsr ?_
  have hi0 := hi
  have hx := ht _ (List.getElem_mem (show i < xs.length by omega))
  rw [← getD_lt (by omega)] at hx
  have hgs := gcdL_succ (xs := xs) (i := i) (by omega)
  have hgl : gcdL (xs.take i) ≤ 4000000000000 := gcdL_le' fun x hx => by have := ht x (List.mem_of_mem_take hx); omega
  refine AOps.step (Val.indexN hσ rfl rfl rfl rfl rfl rfl rfl rfl (idxN (by omega))) rfl rfl rfl ?_
  iterate 2 refine jst hσ rfl rfl rfl rfl rfl ?_
  refine jf6 5 11 3 8 9 10 rfl rfl rfl rfl rfl rfl ?_
  refine jns ?_
  iterate 2 refine jst hσ rfl rfl rfl rfl rfl ?_
  refine jf7 15 14 11 3 8 9 10 rfl rfl rfl rfl rfl rfl rfl ?_
  refine AOps.lone hσ rfl rfl rfl rfl (c211b (x := xs.getD i default) h1 h2 hx) (VAs.self rfl) rfl rfl rfl rfl rfl (B0 := 17000) rfl ?_
  iterate 2 refine jst hσ rfl rfl rfl rfl rfl ?_
  refine jf7 7 6 11 3 8 9 10 rfl rfl rfl rfl rfl rfl rfl ?_
  refine jn ?_
  refine AWP.seq ?_
  refine AWP.block ?_
  refine AWP.loopP (X := Nat × Nat) (fun z => ⟨[(8, aints xs), (9, eI xs.length), (10, eI i), (6, eI z.1), (7, eI z.2)], []⟩) (fun z => Nat.gcd z.1 z.2 = Nat.gcd (gcdL (xs.take i)) (xs.getD i default).natAbs ∧ z.1 ≤ 4000000000000 ∧ z.2 ≤ 4000000000000) (fun z => z.2) (gcdL (xs.take i), (xs.getD i default).natAbs) (Ent.env ⟨rfl, rfl, rfl, rfl, rfl, trivial⟩) ?_ (fun z hi => ?_)
  ·
   exact ⟨rfl, hgl, by show (xs.getD i default).natAbs ≤ 4000000000000; omega⟩
  have hz : -4000000000000 ≤ (z.1 : Int).tmod z.2 ∧ (z.1 : Int).tmod z.2 ≤ 4000000000000 := by have := Nat.mod_le z.1 z.2; rw [← Int.ofNat_tmod]; omega
  refine AWP.seq ?_
  refine jsr ?_
  iterate 2 refine jst hσ rfl rfl rfl rfl rfl ?_
  refine jn ?_
  refine AWP.cond hσ rfl rfl (fun hc18 => ?_) (fun hc18 => ?_)
  ·
   try simp only [jcs] at hc18
   refine AWP.skip ?_
   refine AWP.block ?_
   refine AWP.drawV hσ _ [_, _, _, _, _, _] [⟨[], 0, 0, none⟩, ⟨[], 0, 0, none⟩, ⟨[], 0, 0, none⟩, ⟨[1, 2], 0, 0, none⟩, ⟨[0, 1], 0, 0, none⟩, ⟨[0, 1, 2, 3, 4], 0, 0, none⟩] [] [[], [], [6], [6], [], [6]] [_] rfl rfl (by decide) (by decide) (by kernel_rfl) (And.intro (Val.of hσ rfl rfl) (And.intro (Val.of hσ rfl rfl) (And.intro (Val.of hσ rfl rfl) (And.intro (Val.rem64 hσ rfl rfl rfl rfl (by omega) (by omega) (by omega)) (And.intro (Val.of hσ rfl rfl) (And.intro (Val.of hσ rfl rfl) trivial)))))) ?_
   have hm : z.1 % z.2 < z.2 := Nat.mod_lt _ (by omega)
   refine ⟨(z.2, z.1 % z.2), Ent.env ⟨rfl, rfl, rfl, rfl, rfl, trivial⟩, ⟨?_, hi.2.2, by show z.1 % z.2 ≤ 4000000000000; omega⟩, hm⟩
   show Nat.gcd z.2 (z.1 % z.2) = _
   rw [← hi.1, Nat.gcd_comm z.2, ← Nat.gcd_rec, Nat.gcd_comm]
  ·
   try simp only [jcs] at hc18
   refine AWP.exit ?_
   refine AWP.region ?_
   iterate 2 refine jst hσ rfl rfl rfl rfl rfl ?_
   refine jn ?_
   refine AWP.region ?_
   first | refine jfi hσ rfl rfl rfl rfl rfl ?_ | refine jvf hσ rfl rfl rfl rfl rfl ?_
   refine jst hσ rfl rfl rfl rfl rfl ?_
   refine jn ?_
   have hz0 : z.2 = 0 := by omega
   have hz1 : z.1 = gcdL (xs.take (i + 1)) := by rw [hgs, ← hi.1, hz0, Nat.gcd_zero_right]
   rw [hz1]
   exact ⟨i + 1, Ent.env ⟨rfl, rfl, rfl, rfl, trivial⟩, by omega, by omega⟩
 ·
  try simp only [jcs] at hc11
  refine AWP.exit ?_
  refine jsr ?_
  iterate 2 refine jst hσ rfl rfl rfl rfl rfl ?_
  refine jn ?_
  refine AWP.ret ?_
  refine ⟨.inl rfl, _, Ent.refl, _, rfl, ?_⟩
  obtain rfl : i = xs.length := by omega
  rw [List.take_length]
theorem row_at {xs : List Int} {n : Nat} (h0 : 0 < n) (h : n ≤ xs.length) : (xs.map fun n => [D.int .i64 n])[0 + ((n : Int) - 1).toNat]? = some [D.int .i64 (xs.getD (n - 1) default)] := by
  rw [Nat.zero_add, show ((n : Int) - 1).toNat = n - 1 by omega, List.getElem?_map, List.getElem?_eq_getElem (by omega), getD_lt (by omega)]; rfl
theorem c210o {L : Nat} (h1 : 4096 ≤ L) (h2 : L ≤ 1073741824) {c : Int} {xs : List Int} (hl : xs.length ≤ L) : MC Tryz.prog L 95 [.agg [.d (.int .i64 c), .rs 0 0 xs.length]] [(0, nrow xs)] (Outs (.agg [.d (.int .i64 c), .rs 0 0 (trim xs).length]) [(0, nrow xs)]) := by
 refine MC.shift 500 rfl ?_
 refine MC.keep [500] (bs := [nrow xs]) rfl rfl ?_
 have hσ := SgOk.withIns (js := [500]) (SGok (nt := 26) h1 (Nat.le_trans h2 (by decide)))
 refine MC.bodyH hσ Tryz.func95 (by kernel_rfl) rfl rfl rfl (Nat.le_of_ble_eq_true rfl) (fun hF => ?_)
 refine jsr ?_
 refine AOps.heap (HS.box hσ rfl rfl rfl rfl rfl rfl rfl) rfl ?_
 refine AOps.forget [(1, _)] ⟨rfl, trivial⟩ ?_
 refine AOps.heap (HS.alloc hσ rfl rfl rfl rfl rfl) rfl ?_
 refine jns ?_
 iterate 2 refine jst hσ rfl rfl rfl rfl rfl ?_
 refine jvf hσ rfl rfl rfl rfl rfl ?_
 refine jst hσ rfl rfl rfl rfl rfl ?_
 refine jf3 3 2 1 rfl rfl rfl ?_
 refine jn ?_
 refine AWP.seq ?_
 refine AWP.block ?_
 refine AWP.loopP (X := Nat) (fun n => ⟨[(1, .c (.pt 1 0 0)), (2, .c (.pt 2 0 0)), (3, eI n)], [(1, .box [.d (.int .i64 c), .rs 500 0 xs.length]), (2, .box [.d (.int .i64 0), .d .nils]), (500, nrow xs)]⟩) (fun n => n ≤ xs.length ∧ trim (xs.take n) = trim xs) (fun n => n) xs.length (Ent.env ⟨rfl, rfl, rfl, trivial⟩) ?_ (fun n hi => ?_)
 ·
  exact ⟨Nat.le_refl _, by rw [List.take_length]⟩
 refine AWP.seq ?_
 refine jsr ?_
 iterate 3 refine jst hσ rfl rfl rfl rfl rfl ?_
 refine jf4 9 1 2 3 rfl rfl rfl rfl ?_
 refine AOps.gr 7 rfl rfl rfl (fun hx => AN.step hx rfl rfl rfl (Val.of hσ rfl rfl) rfl rfl ( AN.step hx rfl rfl rfl (Val.of hσ rfl rfl) rfl rfl ( AN.step hx rfl rfl rfl (Val.of hσ rfl rfl) rfl rfl ( AN.step hx rfl rfl rfl (Val.fits64 hσ rfl rfl (by first | omega | (simp at *; omega)) (by first | omega | (simp at *; omega))) rfl rfl ( AN.step hx rfl rfl rfl (Val.vif hσ rfl rfl (by first | omega | (simp at *; omega))) rfl rfl ( AN.step hx rfl rfl rfl (Val.loadRow hσ (ex := [.int .i64 (xs.getD (n - 1) default)]) rfl rfl rfl rfl (row_at (by first | omega | (simp at *; omega)) (by first | omega | (simp at *; omega))) rfl) rfl rfl ( AN.step hx rfl rfl rfl (Val.of hσ rfl rfl) rfl rfl ( AN.nil)))))))) rfl rfl ?_
 first | refine AOps.step (Val.pickT hσ rfl rfl rfl rfl rfl) rfl rfl rfl ?_ | refine AOps.step (Val.pickF hσ rfl rfl rfl rfl rfl) rfl rfl rfl ?_ | refine AOps.step (Val.pickB hσ rfl rfl rfl rfl rfl) rfl rfl rfl ?_
 refine jf4 17 1 2 3 rfl rfl rfl rfl ?_
 refine jn ?_
 refine AWP.cond hσ rfl rfl (fun hc17 => ?_) (fun hc17 => ?_)
 ·
  skip
  refine AWP.skip ?_
  refine AWP.block ?_
  refine AWP.region ?_
  refine jst hσ rfl rfl rfl rfl rfl ?_
  first | refine jfi hσ rfl rfl rfl rfl rfl ?_ | refine jvf hσ rfl rfl rfl rfl rfl ?_
  refine jst hσ rfl rfl rfl rfl rfl ?_
  refine jf4 3 17 1 2 rfl rfl rfl rfl ?_
  refine jn ?_
  rw [Bool.cond_false_right, Bool.and_eq_true, decide_eq_true_eq, decide_eq_true_eq] at hc17
  obtain ⟨k, hk⟩ : ∃ k, n = k + 1 := ⟨n - 1, by omega⟩
  subst hk
  have hk2 : ((k + 1 : Nat) : Int) - 1 = k := by omega
  refine ⟨k, Ent.to ⟨rfl, rfl, by rw [hk2]; rfl, trivial⟩ rfl, ⟨by omega, ?_⟩, Nat.lt_succ_self k⟩
  rw [← hi.2, trim_succ (by omega) (by simpa using hc17.2)]
 ·
  skip
  refine AWP.exit ?_
  refine jsr ?_
  iterate 3 refine jst hσ rfl rfl rfl rfl rfl ?_
  have hd : trim (xs.take n) = xs.take n := trim_done hi.1 (by
   rw [Bool.cond_false_right] at hc17
   rcases Nat.eq_zero_or_pos n with h0 | h0
   ·
    exact .inl h0
   ·
    refine .inr (fun h9 => ?_)
    rw [h9] at hc17; simp at hc17; omega)
  have ht : (trim xs).length = n := by have := hi.1; rw [← hi.2, hd, List.length_take]; omega
  refine AOps.step ((Val.vif hσ rfl rfl ⟨by omega, by omega⟩).cast (v' := .c (.rs 500 0 (trim xs).length)) (by rw [ht]; simp)) rfl rfl rfl ?_
  refine jst hσ rfl rfl rfl rfl rfl ?_
  refine jf6 24 23 17 1 2 3 rfl rfl rfl rfl rfl rfl ?_
  refine AOps.heap (HS.storeBox hσ rfl rfl rfl rfl rfl rfl rfl rfl rfl rfl rfl) rfl ?_
  refine jf4 17 1 2 3 rfl rfl rfl rfl ?_
  refine jns ?_
  refine jst hσ rfl rfl rfl rfl rfl ?_
  refine AOps.heap (HS.storeBox hσ rfl rfl rfl rfl rfl rfl rfl rfl rfl rfl rfl) rfl ?_
  refine jn ?_
  refine AWP.ret ?_
  refine ⟨.inl rfl, _, Ent.refl, _, rfl, ?_⟩
  exact ⟨rfl, rfl⟩
theorem c210p {L : Nat} (h1 : 4096 ≤ L) (h2 : L ≤ 1073741824) {c : Int} {xs : List Int} {n : Nat} (hl : xs.length = n) (hn : n ≤ L) : MC Tryz.prog L 95 [.agg [.d (.int .i64 c), .rs 0 0 n]] [(0, nrow xs)] (Outs (.agg [.d (.int .i64 c), .rs 0 0 (trim xs).length]) [(0, nrow xs)]) := by
 subst hl; exact c210o h1 h2 (by omega)
theorem c201o {L : Nat} (h1 : 4096 ≤ L) (h2 : L ≤ 1073741824) {ts : List Tm} {ms : List Int} (hc : CtxOk ts) (hm : ms.all num = true) (hle : ts.length ≤ ms.length) : MC Tryz.prog L 78 [atms ts, aints ms] [] (Rows (.agg [.d (.int .i64 (dotG Tm.c ts ms)), .rs 0 0 (trim (colsL ts ms)).length]) [nrow (colsL ts ms)]) := by
 refine MC.rows ?_
 have hσ := SGok (nt := 55) h1 (Nat.le_trans h2 (by decide))
 refine MC.body hσ Tryz.func78 (by kernel_rfl) rfl rfl (Nat.le_of_ble_eq_true rfl) (fun hF => ?_)
 have hl : ms.length ≤ L := by simpa [As.fact, A.fact, M.fact, D.fact, Ds.fact] using hF.2.1.1
 have hlc := hc.len
 refine jsr ?_
 refine AOps.heap (HS.alloc hσ rfl rfl rfl rfl rfl) rfl ?_
 refine jns ?_
 refine AOps.heap (HS.make hσ rfl rfl rfl rfl rfl rfl rfl rfl rfl (by first | omega | (simp at *; omega)) (by first | omega | (simp at *; omega)) (by first | omega | (simp at *; omega)) (by first | omega | (dsimp only; omega) | (simp only [List.length_map, beq_iff_eq, decide_eq_true_eq, decide_eq_false_iff_not, Bool.not_eq_true', Bool.not_eq_false', Bool.not_true, Bool.not_false, Int.not_lt, Int.not_le] at *; omega)) (by first | omega | (simp at *; omega)) rfl rfl rfl) rfl ?_
 refine jst hσ rfl rfl rfl rfl rfl ?_
 refine jf4 11 4 0 1 rfl rfl rfl rfl ?_
 refine AOps.heap (HS.alloc hσ rfl rfl rfl rfl rfl) rfl ?_
 refine AOps.heap (HS.storeBox hσ rfl rfl rfl rfl rfl rfl rfl rfl rfl rfl rfl) rfl ?_
 refine jn ?_
 refine AWP.seq ?_
 refine jsr ?_
 refine jst hσ rfl rfl rfl rfl rfl ?_
 first | refine jle hσ rfl rfl rfl rfl rfl rfl rfl rfl rfl rfl rfl ?_ | refine jst hσ rfl rfl rfl rfl rfl ?_ | refine jvf hσ rfl rfl rfl rfl rfl ?_
 refine jst hσ rfl rfl rfl rfl rfl ?_
 refine jn ?_
 refine AWP.block ?_
 refine AWP.loopP (X := Nat) (fun i => ⟨[(1, aints ms), (4, .c (.pt 4 0 0)), (5, .c (.pt 5 0 0)), (12, atms ts), (13, eI ts.length), (14, eI i)], [(4, .box [.d (.int .i64 0), .d .nils]), (5, .box [.d (.int .i64 (dotG Tm.c (ts.take i) (ms.take i))), .rs 10 0 10]), (10, nrow (colsL (ts.take i) (ms.take i)))]⟩) (fun i => i ≤ ts.length) (fun i => ts.length - i) 0 (Ent.to ⟨rfl, rfl, rfl, rfl, rfl, rfl, trivial⟩ rfl) ?_ (fun i hi => ?_)
 ·
  exact Nat.zero_le _
 refine jsr ?_
 refine jst hσ rfl rfl rfl rfl rfl ?_
 refine jn ?_
 refine AWP.seq ?_
 refine AWP.cond hσ rfl rfl (fun hc15 => ?_) (fun hc15 => ?_)
 ·
  try simp only [jcs] at hc15
  refine AWP.skip ?_
  refine AWP.seq ?_
  refine AWP.block ?_
  refine jsr ?_
  refine jst hσ rfl rfl rfl rfl rfl ?_
  first | refine jin hσ rfl rfl rfl rfl rfl rfl rfl rfl rfl rfl rfl ?_ | refine jix hσ rfl rfl rfl rfl rfl rfl rfl rfl rfl rfl rfl ?_ | refine jvf hσ rfl rfl rfl rfl rfl ?_
  refine jst hσ rfl rfl rfl rfl rfl ?_
  refine jf9 18 16 15 1 4 5 12 13 14 rfl rfl rfl rfl rfl rfl rfl rfl rfl ?_
  refine AOps.heap (HS.alloc hσ rfl rfl rfl rfl rfl) rfl ?_
  refine jst hσ rfl rfl rfl rfl rfl ?_
  refine jf10 6 7 18 15 1 4 5 12 13 14 rfl rfl rfl rfl rfl rfl rfl rfl rfl rfl ?_
  refine AOps.heap (HS.storeBox hσ rfl rfl rfl rfl rfl rfl rfl rfl rfl rfl rfl) rfl ?_
  refine jn ?_
  refine AWP.seq ?_
  have hi0 := hi
  have hts := Small.of (hc.get (show i < ts.length by omega))
  have hd1 := dotG_in (f := Tm.c) (ts := ts) (ms := ms) (fun t ht => (Small.of (hc.ok t ht)).c) hm hi (by omega)
  have hd2 := dotG_succ (f := Tm.c) (ts := ts) (ms := ms) (i := i) (by omega) (by omega)
  have hmi : num (ms.getD i default) = true := by rw [getD_lt (by omega)]; exact List.all_eq_true.1 hm _ (List.getElem_mem _)
  have hmu := mul_num hmi hts.c
  refine AWP.drawR hσ _ [_, _, _, _, _, _, _, _, _, _, _, _] [⟨[], 0, 0, none⟩, ⟨[0], 0, 0, none⟩, ⟨[], 0, 0, none⟩, ⟨[], 0, 0, none⟩, ⟨[2, 3], 0, 0, none⟩, ⟨[2, 3, 4], 0, 0, none⟩, ⟨[], 0, 0, none⟩, ⟨[6], 0, 0, none⟩, ⟨[2, 3, 4, 5, 6, 7], 0, 0, none⟩, ⟨[0, 1, 2, 3, 4, 5, 6, 7, 8], 0, 0, none⟩, ⟨[0, 1, 2, 3, 4, 5, 6, 7, 8, 9], 0, 0, none⟩, ⟨[0, 1, 2, 3, 4, 5, 6, 7, 8, 9, 10], 0, 0, some 0⟩] [11] [_, _] rfl rfl (by decide) (by decide) (by kernel_rfl) (And.intro (Val.of hσ rfl rfl) (And.intro (Val.of hσ rfl rfl) (And.intro (Val.of hσ rfl rfl) (And.intro (Val.of hσ rfl rfl) (And.intro (Val.indexN hσ rfl rfl rfl rfl rfl rfl rfl rfl (idxN (by first | omega | (simp at *; omega)))) (And.intro (Val.of hσ rfl rfl) (And.intro (Val.of hσ rfl rfl) (And.intro (Val.of hσ rfl rfl) (And.intro (Val.fits64 hσ rfl rfl (by first | omega | (simp at *; omega)) (by first | omega | (simp at *; omega))) (And.intro (Val.fits64 hσ rfl rfl (by first | omega | (simp at *; omega)) (by first | omega | (simp at *; omega))) (And.intro (Val.of hσ rfl rfl) (And.intro (Eff.storeBox hσ rfl rfl rfl rfl rfl rfl rfl rfl rfl rfl rfl rfl rfl) trivial)))))))))))) ?_
  refine AWP.forget [(6, _), (7, _), (18, _), (15, _), (1, _), (4, _), (5, _), (12, _), (13, _), (14, _)] ⟨rfl, rfl, rfl, rfl, rfl, rfl, rfl, rfl, rfl, rfl, trivial⟩ ?_
  refine jnw ?_
  refine jsr ?_
  iterate 2 refine jst hσ rfl rfl rfl rfl rfl ?_
  first | refine jle hσ rfl rfl rfl rfl rfl rfl rfl rfl rfl rfl rfl ?_ | refine jst hσ rfl rfl rfl rfl rfl ?_ | refine jvf hσ rfl rfl rfl rfl rfl ?_
  refine jst hσ rfl rfl rfl rfl rfl ?_
  refine jn ?_
  refine AWP.block ?_
  refine AWP.loopP (X := Nat) (fun j => ⟨[(1, aints ms), (4, .c (.pt 4 0 0)), (5, .c (.pt 5 0 0)), (12, atms ts), (13, eI ts.length), (14, eI i), (6, eI i), (31, aints (ts.getD i default).xs), (32, eI (ts.getD i default).xs.length), (33, eI j)], [(4, .box [.d (.int .i64 0), .d .nils]), (5, .box [.d (.int .i64 (dotG Tm.c (ts.take i) (ms.take i) + ms.getD i default * (ts.getD i default).c)), .rs 10 0 10]), (10, nrow (part ts ms i j))]⟩) (fun j => j ≤ (ts.getD i default).xs.length) (fun j => (ts.getD i default).xs.length - j) 0 (((Ent.sel [4, 5, 10] (e' := [(1, _), (4, _), (5, _), (12, _), (13, _), (14, _), (6, _), (31, _), (32, _), (33, _)]) rfl rfl ⟨rfl, rfl, rfl, rfl, rfl, rfl, rfl, rfl, rfl, rfl, trivial⟩ rfl)).trans (Ent.to ⟨rfl, rfl, rfl, rfl, rfl, rfl, rfl, rfl, rfl, rfl, trivial⟩ (by rw [part_zero]; rfl))) ?_ (fun j hi => ?_)
  ·
   exact Nat.zero_le _
  refine jsr ?_
  refine jst hσ rfl rfl rfl rfl rfl ?_
  refine jn ?_
  refine AWP.seq ?_
  refine AWP.cond hσ rfl rfl (fun hc34 => ?_) (fun hc34 => ?_)
  ·
   try simp only [jcs] at hc34
   refine AWP.skip ?_
   refine AWP.seq ?_
   refine AWP.block ?_
   refine jsr ?_
   refine jst hσ rfl rfl rfl rfl rfl ?_
   first | refine jin hσ rfl rfl rfl rfl rfl rfl rfl rfl rfl rfl rfl ?_ | refine jix hσ rfl rfl rfl rfl rfl rfl rfl rfl rfl rfl rfl ?_ | refine jvf hσ rfl rfl rfl rfl rfl ?_
   iterate 3 refine jst hσ rfl rfl rfl rfl rfl ?_
   refine AOps.forget [(9, _), (8, _), (34, _), (1, _), (4, _), (5, _), (12, _), (13, _), (14, _), (6, _), (31, _), (32, _), (33, _)] ⟨rfl, rfl, rfl, rfl, rfl, rfl, rfl, rfl, rfl, rfl, rfl, rfl, rfl, trivial⟩ ?_
   refine jn ?_
   have hjl : j < 10 := by have := ok_len (hc.get (show i < ts.length by omega)); omega
   have hpj := part_get (ts := ts) (ms := ms) (i := i) hjl
   have hps := part_succ (ts := ts) (ms := ms) (i := i) hjl
   have hpl := part_length (ts := ts) (ms := ms) (i := i) (j := j)
   have hd3 := dotG_in (f := colF j) (ts := ts) (ms := ms) (fun t ht => (Small.of (hc.ok t ht)).get j) hm hi0 (by omega)
   have hmx := mul_num hmi (hts.get j)
   rw [show (ts.getD i default).xs.getD j 0 = (ts.getD i default).xs.getD j default from rfl] at hmx
   refine AWP.drawR hσ _ [_, _, _, _, _, _, _, _, _, _, _, _, _, _] [⟨[], 0, 0, none⟩, ⟨[0], 0, 0, none⟩, ⟨[], 0, 0, none⟩, ⟨[0, 1, 2], 0, 0, none⟩, ⟨[0, 1, 2, 3], 0, 0, none⟩, ⟨[], 0, 0, none⟩, ⟨[], 0, 0, none⟩, ⟨[5, 6], 0, 0, none⟩, ⟨[5, 6, 7], 0, 0, none⟩, ⟨[], 0, 0, none⟩, ⟨[5, 6, 7, 8, 9], 0, 0, none⟩, ⟨[0, 1, 2, 3, 4, 5, 6, 7, 8, 9, 10], 0, 0, none⟩, ⟨[0, 1, 2, 3, 4, 5, 6, 7, 8, 9, 10, 11], 0, 0, none⟩, ⟨[0, 1, 2, 3, 4, 5, 6, 7, 8, 9, 10, 11, 12], 0, 0, some 0⟩] [13] [_, _] rfl rfl (by decide) (by decide) (by kernel_rfl) (And.intro (Val.of hσ rfl rfl) (And.intro (Val.of hσ rfl rfl) (And.intro (Val.of hσ rfl rfl) (And.intro (Val.vif hσ rfl rfl (by first | omega | (simp at *; omega))) (And.intro (Val.loadRow hσ (ex := [.int .i64 ((part ts ms i j).getD j default)]) rfl rfl rfl rfl (idx0 (by omega)) rfl) (And.intro (Val.of hσ rfl rfl) (And.intro (Val.of hσ rfl rfl) (And.intro (Val.indexN hσ rfl rfl rfl rfl rfl rfl rfl rfl (idxN (by first | omega | (simp at *; omega)))) (And.intro (Val.of hσ rfl rfl) (And.intro (Val.of hσ rfl rfl) (And.intro (Val.fits64 hσ rfl rfl (by first | omega | (simp at *; omega)) (by first | omega | (simp at *; omega))) (And.intro (Val.fits64 hσ rfl rfl (by first | omega | (simp at *; omega)) (by first | omega | (simp at *; omega))) (And.intro (Val.vif hσ rfl rfl (by first | omega | (simp at *; omega))) (And.intro (Eff.storeRow (ex := [.int .i64 ((part ts ms i j).getD j default)]) (xs' := (part ts ms i (j + 1)).map (fun n => [D.int .i64 n])) hσ rfl rfl rfl rfl rfl rfl rfl rfl rfl rfl rfl rfl rfl rfl rfl (idx0 (by omega)) (by rw [← hps, List.map_set]; simp only [Int.toNat_natCast, Nat.zero_add]; rfl) rfl) trivial)))))))))))))) ?_
   refine AWP.forget [(34, _), (1, _), (4, _), (5, _), (12, _), (13, _), (14, _), (6, _), (31, _), (32, _), (33, _)] ⟨rfl, rfl, rfl, rfl, rfl, rfl, rfl, rfl, rfl, rfl, rfl, trivial⟩ ?_
   refine jnw ?_
   refine AWP.region ?_
   first | refine jfi hσ rfl rfl rfl rfl rfl ?_ | refine jvf hσ rfl rfl rfl rfl rfl ?_
   refine jst hσ rfl rfl rfl rfl rfl ?_
   refine jn ?_
   refine ⟨j + 1, Ent.to ⟨rfl, rfl, rfl, rfl, rfl, rfl, rfl, rfl, rfl, rfl, trivial⟩ rfl, by omega, by omega⟩
  ·
   try simp only [jcs] at hc34
   refine AWP.exit ?_
   refine AWP.region ?_
   first | refine jfi hσ rfl rfl rfl rfl rfl ?_ | refine jvf hσ rfl rfl rfl rfl rfl ?_
   refine jst hσ rfl rfl rfl rfl rfl ?_
   refine jn ?_
   refine ⟨i + 1, ((Ent.sel [4, 5, 10] (e' := [(1, _), (4, _), (5, _), (12, _), (13, _), (14, _)]) rfl rfl ⟨rfl, rfl, rfl, rfl, rfl, rfl, trivial⟩ rfl)).trans (Ent.to ⟨rfl, rfl, rfl, rfl, rfl, rfl, trivial⟩ ?_), by omega, by omega⟩
   rw [hd2, ← part_all (j := j) (by omega) (by omega) (by omega)]; rfl
 ·
  try simp only [jcs] at hc15
  refine AWP.exit ?_
  refine jsr ?_
  obtain rfl : i = ts.length := by omega
  rw [dotG_all hle, colsL_all hle]
  have hcl : (colsL ts ms).length = 10 := colsL_length
  refine AOps.to ((Ent.sel [4, 5, 10] (e' := [(4, _), (5, _)]) rfl rfl ⟨rfl, rfl, trivial⟩ rfl)) ?_
  refine jst hσ rfl rfl rfl rfl rfl ?_
  refine AOps.inn hσ [10] (bin := [nrow (colsL ts ms)]) rfl rfl rfl rfl (c210p (c := dotG Tm.c ts ms) (xs := colsL ts ms) (n := 10) h1 h2 hcl (by omega)) rfl rfl rfl rfl rfl rfl (B0 := 55000) rfl rfl ?_
  refine jnm ?_
  refine jf3 54 4 5 rfl rfl rfl ?_
  refine AOps.heap (HS.storeBox hσ rfl rfl rfl rfl rfl rfl rfl rfl rfl rfl rfl) rfl ?_
  refine jn ?_
  refine AWP.ret ?_
  refine ⟨.inl rfl, _, Ent.refl, _, rfl, [10], by decide, rfl, rfl, rfl⟩
theorem c1066 {L : Nat} (h1 : 4096 ≤ L) (h2 : L ≤ 1073741824) {t : Tm} {k : Nat} : MC Tryz.prog L 100 [aTm' t, eI k] [] (Plain (eI (t.xs.getD k default))) := by
 refine MC.alone ?_ rfl
 have hσ := SGok (nt := 15) h1 (Nat.le_trans h2 (by decide))
 refine MC.body hσ Tryz.func100 (by kernel_rfl) rfl rfl (Nat.le_of_ble_eq_true rfl) (fun hF => ?_)
 have hl : t.xs.length ≤ L := by simpa [As.fact, A.fact, M.fact, Ms.fact, D.fact, Ds.fact] using hF.1.2.1.1
 refine jsr ?_
 refine AOps.heap (HS.box hσ rfl rfl rfl rfl rfl rfl rfl) rfl ?_
 refine jst hσ rfl rfl rfl rfl rfl ?_
 refine jn ?_
 refine AWP.seq ?_
 refine jsr ?_
 iterate 3 refine jst hσ rfl rfl rfl rfl rfl ?_
 first | refine jle hσ rfl rfl rfl rfl rfl rfl rfl rfl rfl rfl rfl ?_ | refine jst hσ rfl rfl rfl rfl rfl ?_ | refine jvf hσ rfl rfl rfl rfl rfl ?_
 refine jst hσ rfl rfl rfl rfl rfl ?_
 refine jf5 9 4 2 0 1 rfl rfl rfl rfl rfl ?_
 refine jn ?_
 refine AWP.cond hσ rfl rfl (fun hc9 => ?_) (fun hc9 => ?_)
 ·
  try simp only [jcs] at hc9
  refine jsr ?_
  iterate 3 refine jst hσ rfl rfl rfl rfl rfl ?_
  first | refine jin hσ rfl rfl rfl rfl rfl rfl rfl rfl rfl rfl rfl ?_ | refine jix hσ rfl rfl rfl rfl rfl rfl rfl rfl rfl rfl rfl ?_ | refine jvf hσ rfl rfl rfl rfl rfl ?_
  iterate 2 refine jst hσ rfl rfl rfl rfl rfl ?_
  refine jf4 4 2 0 1 rfl rfl rfl rfl ?_
  refine jn ?_
  refine AWP.ret ?_
  refine ⟨.inl rfl, _, Ent.refl, _, rfl, ?_⟩
  rfl
 ·
  try simp only [jcs] at hc9
  refine AWP.skip ?_
  refine jsr ?_
  refine jst hσ rfl rfl rfl rfl rfl ?_
  refine jn ?_
  refine AWP.ret ?_
  refine ⟨.inl rfl, _, Ent.refl, _, rfl, ?_⟩
  rw [List.getD_eq_getElem?_getD, List.getElem?_eq_none (by omega)]; rfl
theorem c1070 {L : Nat} (h1 : 4096 ≤ L) (h2 : L ≤ 1073741824) {xs ys : List Int} : MC Tryz.prog L 105 [aints xs, aints ys] [] (Plain (eB (decide (xs = ys)))) := by
 refine MC.alone ?_ rfl
 have hσ := SGok (nt := 26) h1 (Nat.le_trans h2 (by decide))
 refine MC.body hσ Tryz.func105 (by kernel_rfl) rfl rfl (Nat.le_of_ble_eq_true rfl) (fun hF => ?_)
 have hl : xs.length ≤ L := by simpa [As.fact, A.fact, M.fact, D.fact, Ds.fact] using hF.1.1
 have hl2 : ys.length ≤ L := by simpa [As.fact, A.fact, M.fact, D.fact, Ds.fact] using hF.2.1.1
 refine jsr ?_
 refine jst hσ rfl rfl rfl rfl rfl ?_
 refine jn ?_
 refine AWP.seq ?_
 refine jsr ?_
 refine jst hσ rfl rfl rfl rfl rfl ?_
 first | refine jle hσ rfl rfl rfl rfl rfl rfl rfl rfl rfl rfl rfl ?_ | refine jst hσ rfl rfl rfl rfl rfl ?_ | refine jvf hσ rfl rfl rfl rfl rfl ?_
 refine jst hσ rfl rfl rfl rfl rfl ?_
 first | refine jle hσ rfl rfl rfl rfl rfl rfl rfl rfl rfl rfl rfl ?_ | refine jst hσ rfl rfl rfl rfl rfl ?_ | refine jvf hσ rfl rfl rfl rfl rfl ?_
 refine jst hσ rfl rfl rfl rfl rfl ?_
 refine jn ?_
 refine AWP.cond hσ rfl rfl (fun hc10 => ?_) (fun hc10 => ?_)
 ·
  try simp only [jcs] at hc10
  refine jsr ?_
  refine jst hσ rfl rfl rfl rfl rfl ?_
  refine jn ?_
  refine AWP.ret ?_
  refine ⟨.inl rfl, _, Ent.refl, _, rfl, ?_⟩
  rw [decide_eq_false (fun e => by subst e; simp at hc10)]
 ·
  try simp only [jcs] at hc10
  refine AWP.skip ?_
  refine AWP.seq ?_
  refine jsr ?_
  refine jst hσ rfl rfl rfl rfl rfl ?_
  first | refine jle hσ rfl rfl rfl rfl rfl rfl rfl rfl rfl rfl rfl ?_ | refine jst hσ rfl rfl rfl rfl rfl ?_ | refine jvf hσ rfl rfl rfl rfl rfl ?_
  refine jst hσ rfl rfl rfl rfl rfl ?_
  refine jn ?_
  refine AWP.block ?_
  refine AWP.loopP (X := Nat) (fun i => ⟨[(0, aints xs), (1, aints ys), (12, eI xs.length), (13, eI i)], []⟩) (fun i => i ≤ xs.length ∧ ∀ j, j < i → xs[j]? = ys[j]?) (fun i => xs.length - i) 0 (Ent.env ⟨rfl, rfl, rfl, rfl, trivial⟩) ?_ (fun i hi => ?_)
  ·
   exact ⟨Nat.zero_le _, fun j hj => absurd hj (Nat.not_lt_zero j)⟩
  refine jsr ?_
  refine jst hσ rfl rfl rfl rfl rfl ?_
  refine jn ?_
  refine AWP.seq ?_
  refine AWP.cond hσ rfl rfl (fun hc14 => ?_) (fun hc14 => ?_)
  ·
   try simp only [jcs] at hc14
   refine AWP.skip ?_
   refine AWP.seq ?_
   refine AWP.block ?_
   refine jsr ?_
   iterate 2 refine jst hσ rfl rfl rfl rfl rfl ?_
   refine jn ?_
   refine AWP.seq ?_
   refine AWP.drawR hσ _ [_, _, _, _, _, _, _, _, _] [⟨[], 0, 0, none⟩, ⟨[], 0, 0, none⟩, ⟨[0, 1], 0, 0, none⟩, ⟨[0, 1, 2], 0, 0, none⟩, ⟨[], 0, 0, none⟩, ⟨[], 0, 0, none⟩, ⟨[4, 5], 0, 0, none⟩, ⟨[4, 5, 6], 0, 0, none⟩, ⟨[0, 1, 2, 3, 4, 5, 6, 7], 0, 0, none⟩] [] [_] rfl rfl (by decide) (by decide) (by kernel_rfl) (And.intro (Val.of hσ rfl rfl) (And.intro (Val.of hσ rfl rfl) (And.intro (Val.indexN hσ rfl rfl rfl rfl rfl rfl rfl rfl (idxN (by first | omega | (simp at *; omega)))) (And.intro (Val.of hσ rfl rfl) (And.intro (Val.of hσ rfl rfl) (And.intro (Val.of hσ rfl rfl) (And.intro (Val.indexN hσ rfl rfl rfl rfl rfl rfl rfl rfl (idxN (by first | omega | (simp at *; omega)))) (And.intro (Val.of hσ rfl rfl) (And.intro (Val.of hσ rfl rfl) trivial))))))))) ?_
   refine AWP.cond hσ rfl rfl (fun hc24 => ?_) (fun hc24 => ?_)
   ·
    try simp only [jcs] at hc24
    refine jsr ?_
    refine jst hσ rfl rfl rfl rfl rfl ?_
    refine jn ?_
    refine AWP.ret ?_
    refine ⟨.inl rfl, _, Ent.refl, _, rfl, ?_⟩
    rw [decide_eq_false (fun e => by subst e; simp at hc24)]
   ·
    try simp only [jcs] at hc24
    refine AWP.skip ?_
    refine AWP.region ?_
    first | refine jfi hσ rfl rfl rfl rfl rfl ?_ | refine jvf hσ rfl rfl rfl rfl rfl ?_
    refine jst hσ rfl rfl rfl rfl rfl ?_
    refine jn ?_
    refine ⟨i + 1, Ent.env ⟨rfl, rfl, rfl, rfl, trivial⟩, ⟨by omega, fun j hj => ?_⟩, by omega⟩
    rcases Nat.lt_or_ge j i with h | h
    ·
     exact hi.2 j h
    ·
     obtain rfl : j = i := by omega
     rw [getD_lt (by omega), getD_lt (by omega)] at hc24
     rw [List.getElem?_eq_getElem (by omega), List.getElem?_eq_getElem (by omega), hc24]
  ·
   try simp only [jcs] at hc14
   refine AWP.exit ?_
   refine jsr ?_
   refine jst hσ rfl rfl rfl rfl rfl ?_
   refine jn ?_
   refine AWP.ret ?_
   refine ⟨.inl rfl, _, Ent.refl, _, rfl, ?_⟩
   have e : xs = ys := List.ext_getElem? fun j => by
    rcases Nat.lt_or_ge j i with h | h
    ·
     exact hi.2 j h
    ·
     rw [List.getElem?_eq_none (by omega), List.getElem?_eq_none (by omega)]
   rw [decide_eq_true e]
theorem tm_dec {a b : Tm} : (bif decide (a.c = b.c) then decide (a.xs = b.xs) else false) = decide (a = b) := by
  cases a; cases b; simp [Bool.cond_false_right]
def kIdx (t : Tm) : List Tm → Nat → Int
  | [], _ => -1
  | u :: us, i => if t = u then (i : Int) else kIdx t us (i + 1)
theorem kIdx_cons {t : Tm} {ts : List Tm} {i : Nat} (h : i < ts.length) : kIdx t (ts.drop i) i = if t = ts.getD i default then (i : Int) else kIdx t (ts.drop (i + 1)) (i + 1) := by
  rw [List.drop_eq_getElem_cons h, getD_lt h]; rfl
theorem kIdx_end {t : Tm} {ts : List Tm} {i : Nat} (h : ts.length ≤ i) : kIdx t (ts.drop i) i = -1 := by rw [List.drop_of_length_le h]; rfl
theorem kIdx_has {t : Tm} : ∀ {us : List Tm} {i : Nat}, decide (kIdx t us i ≥ 0) = knownB us t
  | [], _ => rfl
  | u :: us, i => by
    rw [kIdx, knownB, List.any_cons]
    by_cases h : t = u
    · rw [if_pos h, decide_eq_true h.symm, Bool.true_or]; exact decide_eq_true (by omega)
    · rw [if_neg h, show decide (u = t) = false from decide_eq_false (fun e => h e.symm), Bool.false_or]; exact kIdx_has
theorem c1065 {L : Nat} (h1 : 4096 ≤ L) (h2 : L ≤ 1073741824) {a b : Tm} : MC Tryz.prog L 98 [aTm' a, aTm' b] [] (Plain (eB (decide (a = b)))) := by
 refine MC.alone ?_ rfl
 have hσ := SGok (nt := 17) h1 (Nat.le_trans h2 (by decide))
 refine MC.body hσ Tryz.func98 (by kernel_rfl) rfl rfl (Nat.le_of_ble_eq_true rfl) (fun hF => ?_)
 refine jsr ?_
 refine AOps.heap (HS.box hσ rfl rfl rfl rfl rfl rfl rfl) rfl ?_
 refine AOps.heap (HS.box hσ rfl rfl rfl rfl rfl rfl rfl) rfl ?_
 refine jst hσ rfl rfl rfl rfl rfl ?_
 refine jns ?_
 iterate 6 refine jst hσ rfl rfl rfl rfl rfl ?_
 refine AOps.gr 5 rfl rfl rfl (fun hx => AN.step hx rfl rfl rfl (Val.of hσ rfl rfl) rfl rfl ( AN.step hx rfl rfl rfl (Val.of hσ rfl rfl) rfl rfl ( AN.step hx rfl rfl rfl (Val.of hσ rfl rfl) rfl rfl ( AN.step hx rfl rfl rfl (Val.of hσ rfl rfl) rfl rfl ( AN.lone hσ hx rfl rfl rfl rfl (c1070 (xs := a.xs) (ys := b.xs) h1 h2) (VAs.self rfl) rfl rfl rfl rfl rfl rfl rfl (B0 := 16000) rfl ( AN.nil)))))) rfl rfl ?_
 first | refine AOps.step (Val.pickT hσ rfl rfl rfl rfl rfl) rfl rfl rfl ?_ | refine AOps.step (Val.pickF hσ rfl rfl rfl rfl rfl) rfl rfl rfl ?_ | refine AOps.step (Val.pickB hσ rfl rfl rfl rfl rfl) rfl rfl rfl ?_
 refine jst hσ rfl rfl rfl rfl rfl ?_
 refine jn ?_
 refine AWP.ret ?_
 refine ⟨.inl rfl, _, Ent.refl, _, rfl, ?_⟩
 exact congrArg eB tm_dec
theorem c196e {L : Nat} (h1 : 4096 ≤ L) (h2 : L ≤ 1073741824) {ts : List Tm} {t : Tm} : MC Tryz.prog L 104 [atms ts, .c (.fb 98 (t.cells.map .d))] [] (Plain (eI (kIdx t ts 0))) := by
 refine MC.alone ?_ rfl
 have hσ := SGok (nt := 19) h1 (Nat.le_trans h2 (by decide))
 refine MC.body hσ Tryz.func104 (by kernel_rfl) rfl rfl (Nat.le_of_ble_eq_true rfl) (fun hF => ?_)
 have hl : ts.length ≤ L := by simpa [As.fact, A.fact, M.fact, D.fact, Ds.fact] using hF.1.1
 refine jsr ?_
 refine jst hσ rfl rfl rfl rfl rfl ?_
 refine jn ?_
 refine AWP.seq ?_
 refine jsr ?_
 refine jst hσ rfl rfl rfl rfl rfl ?_
 first | refine jle hσ rfl rfl rfl rfl rfl rfl rfl rfl rfl rfl rfl ?_ | refine jst hσ rfl rfl rfl rfl rfl ?_ | refine jvf hσ rfl rfl rfl rfl rfl ?_
 refine jst hσ rfl rfl rfl rfl rfl ?_
 refine jn ?_
 refine AWP.block ?_
 refine AWP.loopP (X := Nat) (fun i => ⟨[(0, atms ts), (1, .c (.fb 98 (t.cells.map .d))), (7, eI ts.length), (8, eI i)], []⟩) (fun i => i ≤ ts.length ∧ kIdx t (ts.drop i) i = kIdx t ts 0) (fun i => ts.length - i) 0 (Ent.env ⟨rfl, rfl, rfl, rfl, trivial⟩) ?_ (fun i hi => ?_)
 ·
  exact ⟨Nat.zero_le _, rfl⟩
 refine jsr ?_
 refine jst hσ rfl rfl rfl rfl rfl ?_
 refine jn ?_
 refine AWP.seq ?_
 refine AWP.cond hσ rfl rfl (fun hc9 => ?_) (fun hc9 => ?_)
 ·
  skip
  refine AWP.skip ?_
  refine AWP.seq ?_
  refine AWP.block ?_
  refine jsr ?_
  have hil : i < ts.length := by have := of_decide_eq_true hc9; omega
  have hkc := kIdx_cons (t := t) hil
  iterate 2 refine jst hσ rfl rfl rfl rfl rfl ?_
  refine jns ?_
  iterate 3 refine jst hσ rfl rfl rfl rfl rfl ?_
  first | refine jin hσ rfl rfl rfl rfl rfl rfl rfl rfl rfl rfl rfl ?_ | refine jix hσ rfl rfl rfl rfl rfl rfl rfl rfl rfl rfl rfl ?_ | refine jvf hσ rfl rfl rfl rfl rfl ?_
  refine jst hσ rfl rfl rfl rfl rfl ?_
  refine jf9 15 11 5 10 9 0 1 7 8 rfl rfl rfl rfl rfl rfl rfl rfl rfl ?_
  refine AOps.loneB hσ rfl rfl rfl rfl (c1065 (a := t) (b := ts.getD i default) h1 h2) (VAs.self rfl) rfl rfl rfl rfl rfl (B0 := 17000) rfl ?_
  refine jf8 16 5 10 9 0 1 7 8 rfl rfl rfl rfl rfl rfl rfl rfl ?_
  refine jn ?_
  refine AWP.cond hσ rfl rfl (fun hc16 => ?_) (fun hc16 => ?_)
  ·
   skip
   refine jsr ?_
   iterate 2 refine jst hσ rfl rfl rfl rfl rfl ?_
   refine jn ?_
   refine AWP.ret ?_
   refine ⟨.inl rfl, _, Ent.refl, _, rfl, ?_⟩
   rw [if_pos (of_decide_eq_true hc16), hi.2] at hkc
   rw [hkc]
  ·
   skip
   refine AWP.skip ?_
   refine AWP.region ?_
   first | refine jfi hσ rfl rfl rfl rfl rfl ?_ | refine jvf hσ rfl rfl rfl rfl rfl ?_
   refine jst hσ rfl rfl rfl rfl rfl ?_
   refine jn ?_
   rw [if_neg (of_decide_eq_false hc16)] at hkc
   exact ⟨i + 1, Ent.env ⟨rfl, rfl, rfl, rfl, trivial⟩, ⟨by omega, hkc.symm.trans hi.2⟩, by omega⟩
 ·
  skip
  refine AWP.exit ?_
  refine jsr ?_
  refine jst hσ rfl rfl rfl rfl rfl ?_
  refine jn ?_
  refine AWP.ret ?_
  refine ⟨.inl rfl, _, Ent.refl, _, rfl, ?_⟩
  have h9 := hi.2
  rw [kIdx_end (by have := of_decide_eq_false hc9; omega)] at h9
  rw [← h9]
theorem c169e {L : Nat} (h1 : 4096 ≤ L) (h2 : L ≤ 1073741824) {ts : List Tm} {t : Tm} : MC Tryz.prog L 97 [atms ts, .c (.fb 98 (t.cells.map .d))] [] (Plain (eB (knownB ts t))) := by
 refine MC.alone ?_ rfl
 have hσ := SGok (nt := 9) h1 (Nat.le_trans h2 (by decide))
 refine MC.body hσ Tryz.func97 (by kernel_rfl) rfl rfl (Nat.le_of_ble_eq_true rfl) (fun hF => ?_)
 refine jsr ?_
 refine jst hσ rfl rfl rfl rfl rfl ?_
 refine jns ?_
 iterate 2 refine jst hσ rfl rfl rfl rfl rfl ?_
 refine AOps.lone hσ rfl rfl rfl rfl (c196e (ts := ts) (t := t) h1 h2) (.cons (.c .d) (.cons (.c (.fb (VMs.self rfl))) .nil)) rfl rfl rfl rfl rfl (B0 := 8000) rfl ?_
 iterate 2 refine jst hσ rfl rfl rfl rfl rfl ?_
 refine jn ?_
 refine AWP.ret ?_
 refine ⟨.inl rfl, _, Ent.refl, _, rfl, ?_⟩
 exact congrArg eB kIdx_has
theorem c1058 {L : Nat} (h1 : 4096 ≤ L) (h2 : L ≤ 1073741824) {ts : List Tm} {t : Tm} : MC Tryz.prog L 80 [atms ts, aTm' t] [] (Plain (eB (knownB ts t))) := by
 refine MC.alone ?_ rfl
 have hσ := SGok (nt := 9) h1 (Nat.le_trans h2 (by decide))
 refine MC.body hσ Tryz.func80 (by kernel_rfl) rfl rfl (Nat.le_of_ble_eq_true rfl) (fun hF => ?_)
 refine jsr ?_
 refine AOps.heap (HS.box hσ rfl rfl rfl rfl rfl rfl rfl) rfl ?_
 refine jst hσ rfl rfl rfl rfl rfl ?_
 refine jns ?_
 iterate 2 refine jst hσ rfl rfl rfl rfl rfl ?_
 refine AOps.step (Val.bound (ms := t.cells.map .d) hσ rfl rfl rfl rfl rfl) rfl rfl rfl ?_
 refine AOps.lone hσ rfl rfl rfl rfl (c169e (ts := ts) (t := t) h1 h2) (.cons (.c .d) (.cons (.c (.fb (VMs.self rfl))) .nil)) rfl rfl rfl rfl rfl (B0 := 9000) rfl ?_
 refine jst hσ rfl rfl rfl rfl rfl ?_
 refine jn ?_
 refine AWP.ret ?_
 refine ⟨.inl rfl, _, Ent.refl, _, rfl, ?_⟩
 first | rfl | skip
theorem c1059 {L : Nat} (h1 : 4096 ≤ L) (h2 : L ≤ 1073741824) {ts : List Tm} : MC Tryz.prog L 83 [atms ts] [] (Plain (eB (allOk ts 14))) := by
 refine MC.alone ?_ rfl
 have hσ := SGok (nt := 5) h1 (Nat.le_trans h2 (by decide))
 refine MC.body hσ Tryz.func83 (by kernel_rfl) rfl rfl (Nat.le_of_ble_eq_true rfl) (fun hF => ?_)
 refine jsr ?_
 refine jst hσ rfl rfl rfl rfl rfl ?_
 refine jns ?_
 refine jst hσ rfl rfl rfl rfl rfl ?_
 refine AOps.lone hσ rfl rfl rfl rfl (c200 h1 h2) (VAs.self rfl) rfl rfl rfl rfl rfl (B0 := 5000) rfl ?_
 refine jst hσ rfl rfl rfl rfl rfl ?_
 refine jn ?_
 refine AWP.ret ?_
 refine ⟨.inl rfl, _, Ent.refl, _, rfl, ?_⟩
 first | rfl | skip
def syms (n : Nat) : List Int := (List.range n).map Int.ofNat
theorem syms_length {n : Nat} : (syms n).length = n := by simp [syms]
theorem syms_succ {n : Nat} : syms (n + 1) = syms n ++ [(n : Int)] := by simp [syms, List.range_succ]
theorem syms_get {n k : Nat} (h : k < n) : (syms n).getD k default = k := by rw [getD_lt (by rw [syms_length]; exact h)]; simp [syms]
theorem c1061 {L : Nat} (h1 : 4096 ≤ L) (h2 : L ≤ 1073741824) {n : Nat} (hn : n ≤ 1000) : MC Tryz.prog L 85 [eI n] [] (Plain (aints (syms n))) := by
 refine MC.data ?_
 have hσ := SGok (nt := 15) h1 (Nat.le_trans h2 (by decide))
 refine MC.body hσ Tryz.func85 (by kernel_rfl) rfl rfl (Nat.le_of_ble_eq_true rfl) (fun hF => ?_)
 refine jsr ?_
 refine jst hσ rfl rfl rfl rfl rfl ?_
 refine jns ?_
 refine jst hσ rfl rfl rfl rfl rfl ?_
 refine jn ?_
 refine AWP.seq ?_
 refine jsr ?_
 iterate 2 refine jst hσ rfl rfl rfl rfl rfl ?_
 refine jn ?_
 refine AWP.block ?_
 refine AWP.loopP (X := Nat) (fun i => ⟨[(3, .c (.rs 900 0 i)), (5, eI n), (6, eI i)], [(900, nrow (syms i))]⟩) (fun i => i ≤ n) (fun i => n - i) 0 ((Ent.nameNil 3 900 1 true rfl rfl).trans (Ent.to ⟨rfl, rfl, rfl, trivial⟩ rfl)) ?_ (fun i hi => ?_)
 ·
  exact Nat.zero_le _
 refine jsr ?_
 refine jst hσ rfl rfl rfl rfl rfl ?_
 refine jn ?_
 refine AWP.seq ?_
 refine AWP.cond hσ rfl rfl (fun hc7 => ?_) (fun hc7 => ?_)
 ·
  try simp only [jcs] at hc7
  refine AWP.skip ?_
  refine AWP.seq ?_
  refine AWP.block ?_
  refine jsr ?_
  iterate 2 refine jst hσ rfl rfl rfl rfl rfl ?_
  refine jn ?_
  refine AWP.region ?_
  iterate 2 refine jst hσ rfl rfl rfl rfl rfl ?_
  refine jf7 10 9 8 7 3 5 6 rfl rfl rfl rfl rfl rfl rfl ?_
  refine AOps.heap (HS.lit hσ rfl rfl rfl) rfl ?_
  refine jnm ?_
  refine jf7 11 9 8 7 3 5 6 rfl rfl rfl rfl rfl rfl rfl ?_
  refine AOps.heap (HS.appMove (zs := ((syms (i + 1))).map fun n => [.int .i64 n]) (n := i + 1) hσ rfl rfl rfl rfl rfl rfl rfl rfl rfl rfl rfl rfl rfl rfl rfl rfl (.row rfl (by simp [syms_length])) rfl rfl (by decide) rfl (by simp [syms_length]; omega) (by simp [syms_length]; omega) (by rw [syms_succ, List.map_append]; rfl) (by simp [syms_length])) rfl ?_
  refine jnm ?_
  refine jst hσ rfl rfl rfl rfl rfl ?_
  refine jf5 3 8 7 5 6 rfl rfl rfl rfl rfl ?_
  refine jn ?_
  refine AWP.region ?_
  first | refine jfi hσ rfl rfl rfl rfl rfl ?_ | refine jvf hσ rfl rfl rfl rfl rfl ?_
  refine jst hσ rfl rfl rfl rfl rfl ?_
  refine jn ?_
  refine ⟨i + 1, ((Ent.sel [12] (e' := [(3, _), (5, _), (6, _)]) rfl rfl ⟨rfl, rfl, rfl, trivial⟩ rfl).trans (Ent.sub2 12 900 rfl rfl)), by omega, by omega⟩
 ·
  try simp only [jcs] at hc7
  refine AWP.exit ?_
  refine jsr ?_
  iterate 2 refine jst hσ rfl rfl rfl rfl rfl ?_
  refine jn ?_
  refine AWP.ret ?_
  refine ⟨.inl rfl, _, Ent.refl, _, rfl, ?_⟩
  obtain rfl : i = n := by omega
  exact .v (.c (.whole rfl (by simp [syms_length])))
theorem c1048 {L : Nat} (h1 : 4096 ≤ L) (h2 : L ≤ 1073741824) {ts : List Tm} {t : Tm} (ht : t.ok = true) : MC Tryz.prog L 61 [aTm' t, atms ts] [] (Plain (resTm (sharpR ts t))) := by
 refine MC.data ?_
 have hσ := SGok (nt := 35) h1 (Nat.le_trans h2 (by decide))
 refine MC.body hσ Tryz.func61 (by kernel_rfl) rfl rfl (Nat.le_of_ble_eq_true rfl) (fun hF => ?_)
 have hs := Small.of ht
 have hc := num_iff.1 hs.c
 have hr := tmod_in (a := t.c) (b := gcdL t.xs) hc
 refine jsr ?_
 refine AOps.heap (HS.box hσ rfl rfl rfl rfl rfl rfl rfl) rfl ?_
 refine jnm ?_
 refine AOps.forget [(2, _), (1, _)] ⟨rfl, rfl, trivial⟩ ?_
 refine AOps.heap (HS.alloc hσ rfl rfl rfl rfl rfl) rfl ?_
 refine jnm ?_
 refine jst hσ rfl rfl rfl rfl rfl ?_
 refine jns ?_
 iterate 2 refine jst hσ rfl rfl rfl rfl rfl ?_
 refine jf5 10 5 4 2 1 rfl rfl rfl rfl rfl ?_
 refine AOps.lone hσ rfl rfl rfl rfl (c204 (xs := t.xs) h1 h2 hs.xs) (VAs.self rfl) rfl rfl rfl rfl rfl (B0 := 12000) rfl ?_
 refine jst hσ rfl rfl rfl rfl rfl ?_
 refine jf5 6 5 4 2 1 rfl rfl rfl rfl rfl ?_
 refine jn ?_
 refine AWP.seq ?_
 refine jsr ?_
 iterate 3 refine jst hσ rfl rfl rfl rfl rfl ?_
 refine jf6 14 6 5 4 2 1 rfl rfl rfl rfl rfl rfl ?_
 refine AOps.gr 5 rfl rfl rfl (fun hx => AN.step hx rfl rfl rfl (Val.of hσ rfl rfl) rfl rfl ( AN.step hx rfl rfl rfl (Val.of hσ rfl rfl) rfl rfl ( AN.step hx rfl rfl rfl (Val.of hσ rfl rfl) rfl rfl ( AN.step hx rfl rfl rfl (Val.rem64 hσ rfl rfl rfl rfl (by first | omega | (simp at *; omega)) (by first | omega | (simp at *; omega)) (by first | omega | (simp at *; omega))) rfl rfl ( AN.step hx rfl rfl rfl (Val.of hσ rfl rfl) rfl rfl ( AN.nil)))))) rfl rfl ?_
 first | refine AOps.step (Val.pickF hσ rfl rfl rfl rfl rfl) rfl rfl rfl ?_ | refine AOps.step (Val.pickB hσ rfl rfl rfl rfl rfl) rfl rfl rfl ?_ | refine AOps.step (Val.pickT hσ rfl rfl rfl rfl rfl) rfl rfl rfl ?_
 refine jf5 20 5 4 2 1 rfl rfl rfl rfl rfl ?_
 refine jn ?_
 refine AWP.cond hσ rfl rfl (fun hc20 => ?_) (fun hc20 => ?_)
 ·
  skip
  refine jsr ?_
  refine jst hσ rfl rfl rfl rfl rfl ?_
  refine jf5 21 5 4 2 1 rfl rfl rfl rfl rfl ?_
  refine AOps.heap (HS.storeBox hσ rfl rfl rfl rfl rfl rfl rfl rfl rfl rfl rfl) rfl ?_
  refine jnm ?_
  refine jst hσ rfl rfl rfl rfl rfl ?_
  refine jn ?_
  refine AWP.ret ?_
  refine ⟨.inl rfl, _, Ent.refl, _, rfl, ?_⟩
  have hn : gcdL t.xs < 2 ∨ t.c.tmod (gcdL t.xs) = 0 := by by_cases h9 : gcdL t.xs < 2; exact .inl h9; refine .inr ?_; simpa [show ¬ (gcdL t.xs : Int) ≤ 1 by omega] using hc20
  rw [show sharpR ts t = noTm from if_pos hn]
  exact .tup (.cons (.agg (.cons .d (.cons .nils .nil))) (.cons (.c .d) .nil))
 ·
  skip
  refine AWP.skip ?_
  refine jsr ?_
  refine jst hσ rfl rfl rfl rfl rfl ?_
  refine jf5 23 5 4 2 1 rfl rfl rfl rfl rfl ?_
  refine AOps.plainD hσ rfl rfl rfl rfl (c190 (t := t) h1 h2 hs) (VAs.self rfl) rfl rfl rfl rfl (B0 := 25000) rfl rfl ?_
  refine jst hσ rfl rfl rfl rfl rfl ?_
  have hn : ¬ (gcdL t.xs < 2 ∨ t.c.tmod (gcdL t.xs) = 0) := by intro h9; rcases h9 with h9 | h9 <;> simp [h9] at hc20 <;> omega
  have hok := tight_ok2 ht (fun h => hn (.inl h))
  rw [tight_eq ht]
  iterate 2 refine jst hσ rfl rfl rfl rfl rfl ?_
  refine jf6 26 25 5 4 2 1 rfl rfl rfl rfl rfl rfl ?_
  refine AOps.heap (HS.alloc hσ rfl rfl rfl rfl rfl) rfl ?_
  refine jnm ?_
  refine AOps.heap (HS.storeBox hσ rfl rfl rfl rfl rfl rfl rfl rfl rfl rfl rfl) rfl ?_
  refine jnm ?_
  refine jst hσ rfl rfl rfl rfl rfl ?_
  refine jf6 8 7 5 4 2 1 rfl rfl rfl rfl rfl rfl ?_
  refine jn ?_
  refine AWP.seq ?_
  refine AWP.forget [(8, _), (7, _), (4, _), (2, _), (1, _)] ⟨rfl, rfl, rfl, rfl, rfl, trivial⟩ ?_
  rw [hok]
  refine AWP.drawG hσ _ [_, _, _, _, _, _, _, _, _, _] [⟨[], 0, 1, none⟩, ⟨[], 0, 0, none⟩, ⟨[1], 0, 0, none⟩, ⟨[1, 2], 0, 0, none⟩, ⟨[1, 2], 0, 0, none⟩, ⟨[1, 2, 3, 4], 0, 0, some 0⟩, ⟨[1, 2, 3, 4, 5], 1, 2, none⟩, ⟨[1, 2, 3, 4, 5, 6], 1, 2, none⟩, ⟨[0, 1, 2, 3, 4, 5], 0, 0, some 1⟩, ⟨[0, 1, 2, 3, 4, 5, 6, 7, 8], 2, 2, none⟩] [5, 8] [_, _, _] rfl rfl (by decide) (by decide) (by kernel_rfl) (And.intro (And.intro (Val.of hσ rfl rfl) (Val.of hσ rfl rfl)) (And.intro (Val.of hσ rfl rfl) (And.intro (Val.of hσ rfl rfl) (And.intro (Val.of hσ rfl rfl) (And.intro (Val.of hσ rfl rfl) (And.intro (Eff.lone hσ (B0 := 33000) rfl rfl rfl rfl (c1058 (ts := ts) (t := (tightS t).1) h1 h2) (VAs.self rfl) rfl rfl rfl rfl rfl) (And.intro (And.intro (Val.of hσ rfl rfl) (Val.of hσ rfl rfl)) (And.intro (And.intro (Val.pickY hσ rfl rfl rfl rfl rfl) (Val.pickY hσ rfl rfl rfl rfl rfl)) (And.intro (Eff.storeBox hσ rfl rfl rfl rfl rfl rfl rfl rfl rfl rfl rfl rfl rfl) (And.intro (Val.of hσ rfl rfl) trivial)))))))))) ?_
  refine AWP.forget [(5, _), (7, _), (4, _), (2, _)] ⟨rfl, rfl, rfl, rfl, trivial⟩ ?_
  refine jnw ?_
  refine AWP.ret ?_
  refine ⟨.inl rfl, _, Ent.refl, _, rfl, ?_⟩
  rw [show sharpR ts t = ((tightS t).1, !knownB ts (tightS t).1) by unfold sharpR; rw [if_neg hn, hok]; rfl]
  exact .tup (.cons (.agg (VMs.self rfl)) (.cons (.c .d) .nil))
end Go.Al
namespace Go.Al
open Go.Proofs
set_option linter.unusedVariables false
set_option linter.unusedSimpArgs false
set_option maxRecDepth 10000
set_option maxHeartbeats 4000000
abbrev aCb (r : Rw) : A := .agg (r.comb.map .d)
theorem trim_take {xs : List Int} : xs.take (trim xs).length = trim xs := by
  obtain ⟨z, hz⟩ := trim_app xs
  exact (congrArg (fun l => l.take (trim xs).length) hz).trans List.take_left
theorem trim_mem {xs : List Int} {x : Int} (h : x ∈ trim xs) : x ∈ xs := by
  obtain ⟨z, hz⟩ := trim_app xs
  rw [hz]; exact List.mem_append_left _ h
theorem raw_c {p q : Rw} {n m : Int} : dotG Tm.c [p.tm, q.tm] [n, m] = n * p.c + m * q.c := by
  show n * p.c + (m * q.c + 0) = n * p.c + m * q.c
  omega
theorem raw_xs {p q : Rw} {n m : Int} (hl : p.xs.length = 10) : colsL [p.tm, q.tm] [n, m] = lin n m p.xs q.xs p.xs.length := by
  show (List.range 10).map _ = lin _ _ _ _ p.xs.length
  rw [hl]
  unfold lin
  apply List.map_congr_left
  intro i _
  show n * (trim p.xs).getD i 0 + (m * (trim q.xs).getD i 0 + 0) = _
  rw [trim_getD, trim_getD]
  show n * p.xs.getD i default + (m * q.xs.getD i default + 0) = _
  omega
theorem mix_comb {C : Int} {X Y : List Int} {G : Nat} (hG : G = gcdL (C :: X ++ Y)) (h0 : 0 < G) (hl : X.length = 10) :
    aCb (divR ⟨C, X, Y⟩ G) = .agg [.d (.int .i64 (C.tdiv G)), .d (ints ((trim X).map fun x => x.tdiv G)), .d (ints (Y.map fun x => x.tdiv G))] ∧
    okR (divR ⟨C, X, Y⟩ G) = ((⟨C.tdiv G, (trim X).map fun x => x.tdiv G⟩ : Tm).ok && (Y.map fun x => x.tdiv G).all num) := by
  have e : trim (X.map fun x => x.tdiv G) = (trim X).map fun x => x.tdiv G := by
    subst hG
    exact div_trim (r := ⟨C, X, Y⟩) h0
  constructor
  · show A.agg [.d (.int .i64 (C.tdiv G)), .d (ints (trim (X.map fun x => x.tdiv G))), .d (ints (Y.map fun x => x.tdiv G))] = _
    rw [e]
  · have h1 := tm_ok (r := divR ⟨C, X, Y⟩ G) (by show (X.map _).length = 10; rw [List.length_map, hl])
    have h2 : (divR ⟨C, X, Y⟩ G).tm = ⟨C.tdiv G, (trim X).map fun x => x.tdiv G⟩ := by
      show (⟨C.tdiv G, trim (X.map fun x => x.tdiv G)⟩ : Tm) = _
      rw [e]
    rw [h2] at h1
    rw [h1]; rfl
theorem two_num {a b : Int} (ha : -1000000 ≤ a ∧ a ≤ 1000000) (hb : -1000000 ≤ b ∧ b ≤ 1000000) : [a, b].all num = true := by
  simp only [List.all_cons, List.all_nil, Bool.and_true, Bool.and_eq_true]
  exact ⟨num_iff.2 ha, num_iff.2 hb⟩
theorem two_ctx {n : Nat} {p q : Rw} (hp : ROk n p) (hq : ROk n q) : CtxOk [p.tm, q.tm] := ⟨fun t ht => by
  rcases List.mem_cons.1 ht with rfl | ht
  · exact hp.tm
  · rw [List.mem_singleton.1 ht]; exact hq.tm, by simp⟩
theorem ints_scal {xs : List Int} : Scal (xs.map fun n => [D.int .i64 n]) := Scal.map fun _ => rfl
theorem c1067 {L : Nat} (h1 : 4096 ≤ L) (h2 : L ≤ 1073741824) {n : Nat} {p q : Rw} {k : Nat} (hp : ROk n p) (hq : ROk n q) (hk : k < 10) (hx : 0 < p.xs.getD k default) (hy : q.xs.getD k default < 0) (hn : n ≤ 1000) : MC Tryz.prog L 101 [aCb p, aCb q, eI k] [] (Plain (.tup [aCb (mixR p q k), eB (okR (mixR p q k))])) := by
 refine MC.data ?_
 have hσ := SGok (nt := 120) h1 (Nat.le_trans h2 (by decide))
 refine MC.body hσ Tryz.func101 (by kernel_rfl) rfl rfl (Nat.le_of_ble_eq_true rfl) (fun hF => ?_)
 obtain ⟨hg0, hm0, hn0⟩ := muls_in hp hq hx hy
 have hb1 := hp.get k
 have hb2 := hq.get k
 have lp := hp.l
 have lq := hq.l
 have lpm := hp.n
 have lqm := hq.n
 have hd1 := tdiv_in (a := p.xs.getD k default) (b := ((gcd0 p q k : Nat) : Int)) (by omega)
 have hd2 := tdiv_in (a := -(q.xs.getD k default)) (b := ((gcd0 p q k : Nat) : Int)) (by omega)
 obtain ⟨m, em⟩ : ∃ m, m = mulM p q k := ⟨_, rfl⟩
 obtain ⟨nn, en⟩ : ∃ m, m = mulN p q k := ⟨_, rfl⟩
 rw [← em] at hm0
 rw [← en] at hn0
 have hc1 := mul_bd (a := nn) (b := p.c) (by omega) (num_iff.1 hp.c)
 have hc2 := mul_bd (a := m) (b := q.c) (by omega) (num_iff.1 hq.c)
 have hpm : ∀ j, -1000000 ≤ p.ms.getD j default ∧ p.ms.getD j default ≤ 1000000 := fun j => by have := hp.mul j; omega
 have hqm : ∀ j, -1000000 ≤ q.ms.getD j default ∧ q.ms.getD j default ≤ 1000000 := fun j => by have := hq.mul j; omega
 refine jsr ?_
 refine AOps.heap (HS.box hσ rfl rfl rfl rfl rfl rfl rfl) rfl ?_
 refine jnm ?_
 refine AOps.to (Ent.freeze 3 (e' := [(3, _), (1, _), (2, _)]) rfl (.cons rfl (.c (.box (cs := Rw.comb p) rfl (VMs.self rfl))) (.cons rfl (.keep rfl) (.cons rfl (.keep rfl) .nil))) (.skip .nil)) ?_
 refine jnm ?_
 refine AOps.heap (HS.box hσ rfl rfl rfl rfl rfl rfl rfl) rfl ?_
 refine jnm ?_
 refine AOps.to (Ent.freeze 4 (e' := [(4, _), (3, _), (2, _)]) rfl (.cons rfl (.c (.box (cs := Rw.comb q) rfl (VMs.self rfl))) (.cons rfl (.keep rfl) (.cons rfl (.keep rfl) .nil))) (.skip .nil)) ?_
 refine jnm ?_
 refine AOps.heap (HS.alloc hσ rfl rfl rfl rfl rfl) rfl ?_
 refine jnm ?_
 refine jst hσ rfl rfl rfl rfl rfl ?_
 refine jn ?_
 refine AWP.seq ?_
 refine AWP.drawR hσ _ [_, _, _, _, _, _, _, _, _, _, _] [⟨[], 0, 0, none⟩, ⟨[0], 0, 0, none⟩, ⟨[], 0, 0, none⟩, ⟨[0, 1, 2], 0, 0, some 0⟩, ⟨[], 0, 1, none⟩, ⟨[4], 0, 1, none⟩, ⟨[], 0, 1, none⟩, ⟨[0, 1, 2, 3, 4, 5, 6], 0, 0, some 1⟩, ⟨[0, 1, 2, 3, 4, 5, 6, 7], 2, 2, none⟩, ⟨[0, 1, 2, 3, 4, 5, 6, 7], 2, 2, none⟩, ⟨[0, 1, 2, 3, 4, 5, 6, 7, 8, 9], 2, 2, none⟩] [3, 7] [_, _, _] rfl rfl (by decide) (by decide) (by kernel_rfl) (And.intro (Val.of hσ rfl rfl) (And.intro (Val.of hσ rfl rfl) (And.intro (Val.of hσ rfl rfl) (And.intro (Eff.lone hσ (B0 := 20000) rfl rfl rfl rfl ((c1066 (t := p.tm) (k := k) h1 h2).plain (u := eI (p.xs.getD k default)) (congrArg eI (trim_getD p.xs k))) (VAs.self rfl) rfl rfl rfl rfl rfl) (And.intro (And.intro (Val.of hσ rfl rfl) (Val.of hσ rfl rfl)) (And.intro (And.intro (Val.of hσ rfl rfl) (Val.of hσ rfl rfl)) (And.intro (And.intro (Val.of hσ rfl rfl) (Val.of hσ rfl rfl)) (And.intro (Eff.lone hσ (B0 := 24000) rfl rfl rfl rfl ((c1066 (t := q.tm) (k := k) h1 h2).plain (u := eI (q.xs.getD k default)) (congrArg eI (trim_getD q.xs k))) (VAs.self rfl) rfl rfl rfl rfl rfl) (And.intro ((Val.fits64 hσ rfl rfl (by omega) (by omega)).cast (v' := eI (-(q.xs.getD k default))) (by rw [Int.zero_sub])) (And.intro (Val.of hσ rfl rfl) (And.intro (Val.of hσ rfl rfl) trivial))))))))))) ?_
 refine AWP.forget [(9, _), (8, _), (7, _), (6, _), (4, _), (3, _)] ⟨rfl, rfl, rfl, rfl, rfl, rfl, trivial⟩ ?_
 refine jnw ?_
 refine jsr ?_
 iterate 2 refine jst hσ rfl rfl rfl rfl rfl ?_
 refine AOps.heap (HS.lit hσ rfl rfl rfl) rfl ?_
 refine jnm ?_
 refine jf7 27 9 8 7 6 4 3 rfl rfl rfl rfl rfl rfl rfl ?_
 refine AOps.lone hσ rfl rfl rfl rfl ((c204 (xs := [p.xs.getD k default, -(q.xs.getD k default)]) h1 h2 (two_num hb1 (by omega))).plain (u := eI (gcd0 p q k)) (by rw [gcdL_two, Int.natAbs_neg])) (.cons (.c (.whole rfl rfl)) .nil) rfl rfl rfl rfl rfl (B0 := 29000) rfl ?_
 refine jst hσ rfl rfl rfl rfl rfl ?_
 refine jf7 10 9 8 7 6 4 3 rfl rfl rfl rfl rfl rfl rfl ?_
 refine jn ?_
 refine AWP.seq ?_
 refine AWP.drawV hσ _ [_, _, _, _, _, _, _, _] [⟨[], 0, 0, none⟩, ⟨[], 0, 0, none⟩, ⟨[0, 1], 0, 0, none⟩, ⟨[], 0, 0, none⟩, ⟨[], 0, 0, none⟩, ⟨[3, 4], 0, 0, none⟩, ⟨[0, 1, 2], 0, 0, none⟩, ⟨[0, 1, 2, 3, 4, 5, 6], 0, 0, none⟩] [] [[], [], [], [8], [8], [8], [], [8]] [_] rfl rfl (by decide) (by decide) (by kernel_rfl) (And.intro (Val.of hσ rfl rfl) (And.intro (Val.of hσ rfl rfl) (And.intro ((Val.quo64 hσ rfl rfl rfl rfl (by omega) (by omega) (by omega)).cast (v' := eI m) (by rw [em])) (And.intro (Val.of hσ rfl rfl) (And.intro (Val.of hσ rfl rfl) (And.intro ((Val.quo64 hσ rfl rfl rfl rfl (by omega) (by omega) (by omega)).cast (v' := eI nn) (by rw [en])) (And.intro (Val.of hσ rfl rfl) (And.intro (Val.of hσ rfl rfl) trivial)))))))) ?_
 refine jsr ?_
 iterate 4 refine jst hσ rfl rfl rfl rfl rfl ?_
 refine jf15 38 36 9 8 34 33 32 31 30 29 10 7 6 4 3 rfl rfl rfl rfl rfl rfl rfl rfl rfl rfl rfl rfl rfl rfl rfl ?_
 refine AOps.heap (HS.litD hσ rfl rfl rfl rfl rfl rfl rfl rfl rfl rfl rfl) rfl ?_
 refine jnm ?_
 iterate 2 refine jst hσ rfl rfl rfl rfl rfl ?_
 refine jf16 41 40 39 9 8 34 33 32 31 30 29 10 7 6 4 3 rfl rfl rfl rfl rfl rfl rfl rfl rfl rfl rfl rfl rfl rfl rfl rfl ?_
 refine AOps.heap (HS.lit hσ rfl rfl rfl) rfl ?_
 refine jnm ?_
 refine jf15 42 39 9 8 34 33 32 31 30 29 10 7 6 4 3 rfl rfl rfl rfl rfl rfl rfl rfl rfl rfl rfl rfl rfl rfl rfl ?_
 refine AOps.rows hσ (B0 := 44000) rfl rfl rfl rfl (c201o (ts := [p.tm, q.tm]) (ms := [nn, m]) h1 h2 (two_ctx hp hq) (two_num (by omega) (by omega)) (Nat.le_refl _)) (.cons (.c (.whole rfl rfl)) (.cons (.c (.whole rfl rfl)) .nil)) rfl rfl rfl rfl rfl rfl ?_
 refine jnm ?_
 refine jf14 43 9 8 34 33 32 31 30 29 10 7 6 4 3 rfl rfl rfl rfl rfl rfl rfl rfl rfl rfl rfl rfl rfl rfl ?_
 obtain ⟨C, eC⟩ : ∃ C, C = nn * p.c + m * q.c := ⟨_, rfl⟩
 have hC : -2000000000000 ≤ C ∧ C ≤ 2000000000000 := by omega
 obtain ⟨X, eX⟩ : ∃ X, X = lin nn m p.xs q.xs p.xs.length := ⟨_, rfl⟩
 have lX : X.length = 10 := by rw [eX, lin_length, lp]
 have hXb : ∀ x ∈ X, -2000000000000 ≤ x ∧ x ≤ 2000000000000 := by rw [eX]; exact lin_bd hn0 hm0 hp.get hq.get
 rw [raw_c, raw_xs lp, ← eC, ← eX]
 refine AOps.to (Ent.cut 44000 (trim X).length rfl) ?_
 refine jnm ?_
 rw [← List.map_take, trim_take]
 obtain ⟨XT, eT⟩ : ∃ XT, XT = trim X := ⟨_, rfl⟩
 rw [← eT]
 have lT : XT.length ≤ 10 := by rw [eT, ← lX]; exact trim_length X
 have hTb : ∀ x ∈ XT, -2000000000000 ≤ x ∧ x ≤ 2000000000000 := fun x hx => hXb x (trim_mem (by rwa [eT] at hx))
 refine AOps.heap (HS.alloc hσ rfl rfl rfl rfl rfl) rfl ?_
 refine jnm ?_
 refine jnm ?_
 refine AOps.heap (HS.storeBox hσ rfl rfl rfl rfl rfl rfl rfl rfl rfl rfl rfl) rfl ?_
 refine jnm ?_
 refine jns ?_
 refine jst hσ rfl rfl rfl rfl rfl ?_
 refine jn ?_
 refine AWP.seq ?_
 refine jsr ?_
 iterate 2 refine jst hσ rfl rfl rfl rfl rfl ?_
 first | refine jle hσ rfl rfl rfl rfl rfl rfl rfl rfl rfl rfl rfl ?_ | refine jst hσ rfl rfl rfl rfl rfl ?_ | refine jvf hσ rfl rfl rfl rfl rfl ?_
 refine jst hσ rfl rfl rfl rfl rfl ?_
 refine AOps.forget [(47, _), (46, _), (12, _), (11, _), (43, _), (9, _), (8, _), (34, _), (33, _), (32, _), (31, _), (30, _), (29, _), (10, _), (7, _), (6, _), (4, _), (3, _)] ⟨rfl, rfl, rfl, rfl, rfl, rfl, rfl, rfl, rfl, rfl, rfl, rfl, rfl, rfl, rfl, rfl, rfl, rfl, trivial⟩ ?_
 refine jn ?_
 refine AWP.block ?_
 refine AWP.loopP (X := Nat) (fun i => ⟨[(3, ptr p.comb), (4, ptr q.comb), (6, .c (.pt 6 0 0)), (8, eI m), (9, eI nn), (11, .c (.pt 11 0 0)), (12, .c (.rs 900 0 i)), (46, eI p.ms.length), (47, eI i)], [(6, .box [.d (.int .i64 0), .d .nils, .d .nils]), (11, .box [.d (.int .i64 C), .rs 44000 0 XT.length]), (44000, nrow XT), (900, nrow (lin nn m p.ms q.ms i))]⟩) (fun i => i ≤ p.ms.length) (fun i => p.ms.length - i) 0 (((Ent.nameNil 12 900 1 true rfl rfl).trans (Ent.sel [6, 11, 44000, 900] (e' := [(3, _), (4, _), (6, _), (8, _), (9, _), (11, _), (12, _), (46, _), (47, _)]) rfl rfl ⟨rfl, rfl, rfl, rfl, rfl, rfl, rfl, rfl, rfl, trivial⟩ rfl)).trans (Ent.to ⟨rfl, rfl, rfl, rfl, rfl, rfl, rfl, rfl, rfl, trivial⟩ rfl)) ?_ (fun i hi => ?_)
 ·
  exact Nat.zero_le _
 refine jsr ?_
 refine jst hσ rfl rfl rfl rfl rfl ?_
 refine jn ?_
 refine AWP.seq ?_
 refine AWP.cond hσ rfl rfl (fun hc48 => ?_) (fun hc48 => ?_)
 ·
  try simp only [jcs] at hc48
  refine AWP.skip ?_
  refine AWP.seq ?_
  refine AWP.block ?_
  refine jsr ?_
  iterate 2 refine jst hσ rfl rfl rfl rfl rfl ?_
  refine jn ?_
  have f1 := mul_bd (a := nn) (b := p.ms.getD i default) (by omega) (hpm i)
  have f2 := mul_bd (a := m) (b := q.ms.getD i default) (by omega) (hqm i)
  refine AWP.drawP hσ _ [_, _, _, _, _, _, _, _, _, _, _, _, _, _, _, _, _, _, _] [⟨[], 0, 1, none⟩, ⟨[], 0, 0, none⟩, ⟨[], 0, 0, none⟩, ⟨[2], 0, 0, none⟩, ⟨[], 0, 0, none⟩, ⟨[2, 3, 4], 0, 0, none⟩, ⟨[2, 3, 4, 5], 0, 0, none⟩, ⟨[1, 2, 3, 4, 5, 6], 0, 0, none⟩, ⟨[], 0, 0, none⟩, ⟨[], 0, 0, none⟩, ⟨[9], 0, 0, none⟩, ⟨[], 0, 0, none⟩, ⟨[9, 10, 11], 0, 0, none⟩, ⟨[9, 10, 11, 12], 0, 0, none⟩, ⟨[8, 9, 10, 11, 12, 13], 0, 0, none⟩, ⟨[1, 2, 3, 4, 5, 6, 7, 8, 9, 10, 11, 12, 13, 14], 0, 0, none⟩, ⟨[1, 2, 3, 4, 5, 6, 7, 8, 9, 10, 11, 12, 13, 14, 15], 0, 0, some 0⟩, ⟨[0, 1, 2, 3, 4, 5, 6, 7, 8, 9, 10, 11, 12, 13, 14, 15, 16], 0, 0, some 1⟩, ⟨[0, 1, 2, 3, 4, 5, 6, 7, 8, 9, 10, 11, 12, 13, 14, 15, 16, 17], 2, 2, none⟩] [16, 17] [_, _, _] [[], [900, 66]] rfl rfl (by decide) (by decide) (by kernel_rfl) (And.intro (And.intro (And.intro (Val.of hσ rfl rfl) rfl) (And.intro (Val.of hσ rfl rfl) rfl)) (And.intro (And.intro (Val.of hσ rfl rfl) rfl) (And.intro (And.intro (Val.of hσ rfl rfl) rfl) (And.intro (And.intro (Val.of hσ rfl rfl) rfl) (And.intro (And.intro (Val.of hσ rfl rfl) rfl) (And.intro (And.intro (Val.indexN hσ rfl rfl rfl rfl rfl rfl rfl rfl (idxN (by first | omega | (simp at *; omega)))) rfl) (And.intro (And.intro (Val.of hσ rfl rfl) rfl) (And.intro (And.intro (Val.fits64 hσ rfl rfl (by first | omega | (simp at *; omega)) (by first | omega | (simp at *; omega))) rfl) (And.intro (And.intro (Val.of hσ rfl rfl) rfl) (And.intro (And.intro (Val.of hσ rfl rfl) rfl) (And.intro (And.intro (Val.of hσ rfl rfl) rfl) (And.intro (And.intro (Val.of hσ rfl rfl) rfl) (And.intro (And.intro (Val.indexN hσ rfl rfl rfl rfl rfl rfl rfl rfl (idxN (by first | omega | (simp at *; omega)))) rfl) (And.intro (And.intro (Val.of hσ rfl rfl) rfl) (And.intro (And.intro (Val.fits64 hσ rfl rfl (by first | omega | (simp at *; omega)) (by first | omega | (simp at *; omega))) rfl) (And.intro (And.intro (Val.fits64 hσ rfl rfl (by first | omega | (simp at *; omega)) (by first | omega | (simp at *; omega))) rfl) (And.intro (And.intro (Eff.p (Eff.lit1 hσ rfl rfl rfl rfl rfl rfl rfl rfl rfl rfl rfl rfl rfl)) rfl) (And.intro (And.intro (Eff.appMove (zs := (lin nn m p.ms q.ms (i + 1)).map fun n => [.int .i64 n]) (n := i + 1) hσ rfl rfl rfl rfl rfl rfl rfl rfl rfl rfl rfl rfl rfl rfl rfl rfl (.row rfl (by simp [lin_length])) rfl rfl (by decide) rfl (by simp [lin_length]; omega) (by simp [lin_length]; omega) (by rw [lin_succ, List.map_append]; rfl) (by simp [lin_length]) rfl) rfl) (And.intro (And.intro (Val.of hσ rfl rfl) rfl) trivial))))))))))))))))))) ?_
  refine AWP.forget [(12, _), (49, _), (48, _), (3, _), (4, _), (6, _), (8, _), (9, _), (11, _), (46, _), (47, _)] ⟨rfl, rfl, rfl, rfl, rfl, rfl, rfl, rfl, rfl, rfl, rfl, trivial⟩ ?_
  refine jnw ?_
  refine AWP.region ?_
  first | refine jfi hσ rfl rfl rfl rfl rfl ?_ | refine jvf hσ rfl rfl rfl rfl rfl ?_
  refine jst hσ rfl rfl rfl rfl rfl ?_
  refine jn ?_
  refine ⟨i + 1, ((Ent.sel [6, 11, 44000, 67] (e' := [(3, _), (4, _), (6, _), (8, _), (9, _), (11, _), (12, _), (46, _), (47, _)]) rfl rfl ⟨rfl, rfl, rfl, rfl, rfl, rfl, rfl, rfl, rfl, trivial⟩ rfl).trans (Ent.sub2 67 900 rfl rfl)), by omega, by omega⟩
 ·
  try simp only [jcs] at hc48
  refine AWP.exit ?_
  refine jsr ?_
  obtain rfl : i = p.ms.length := by omega
  obtain ⟨Y, eY⟩ : ∃ Y, Y = lin nn m p.ms q.ms p.ms.length := ⟨_, rfl⟩
  have lYp : Y.length = p.ms.length := by rw [eY, lin_length]
  have hYb : ∀ x ∈ Y, -2000000000000 ≤ x ∧ x ≤ 2000000000000 := by rw [eY]; exact lin_bd hn0 hm0 hpm hqm
  rw [← eY, ← lYp]
  obtain ⟨G, eG⟩ : ∃ G, G = gcdL (C :: X ++ Y) := ⟨_, rfl⟩
  have hG : 0 < G ∧ G ≤ 2000000000000 := by rw [eG, eC, eX, eY, em, en]; exact gcdR_in hp hq hx hy
  have hq0 := tdiv_bd (b := (G : Int)) hC
  have hall : ∀ x ∈ C :: XT ++ Y, -4000000000000 ≤ x ∧ x ≤ 4000000000000 := fun x hx => by rcases List.mem_append.1 hx with hx | hx; (rcases List.mem_cons.1 hx with rfl | hx; omega; have := hTb x hx; omega); have := hYb x hx; omega
  iterate 2 refine jst hσ rfl rfl rfl rfl rfl ?_
  refine jf11 70 48 3 4 6 8 9 11 12 46 47 rfl rfl rfl rfl rfl rfl rfl rfl rfl rfl rfl ?_
  refine AOps.heap (HS.lit hσ rfl rfl rfl) rfl ?_
  refine jnm ?_
  refine jnm ?_
  iterate 2 refine jst hσ rfl rfl rfl rfl rfl ?_
  refine jf12 73 71 48 3 4 6 8 9 11 12 46 47 rfl rfl rfl rfl rfl rfl rfl rfl rfl rfl rfl rfl ?_
  refine AOps.heap (HS.appCopy (own := true) (xs := [[.int .i64 C]]) (ys := XT.map (fun n => [D.int .i64 n])) (zs := (C :: XT).map (fun n => [D.int .i64 n])) (n := (C :: XT).length) hσ rfl rfl rfl rfl rfl rfl rfl rfl rfl rfl rfl rfl rfl rfl rfl rfl (.row rfl rfl) (.whole rfl (List.length_map _).symm (.inl ints_scal)) (by simp) rfl (by simp; omega) (by simp; omega) rfl (List.length_map _)) rfl ?_
  refine jnm ?_
  refine jnm ?_
  refine jst hσ rfl rfl rfl rfl rfl ?_
  refine jf12 75 74 48 3 4 6 8 9 11 12 46 47 rfl rfl rfl rfl rfl rfl rfl rfl rfl rfl rfl rfl ?_
  refine AOps.heap (HS.appCopy (own := true) (xs := (C :: XT).map (fun n => [D.int .i64 n])) (ys := Y.map (fun n => [D.int .i64 n])) (zs := (C :: XT ++ Y).map (fun n => [D.int .i64 n])) (n := (C :: XT ++ Y).length) hσ rfl rfl rfl rfl rfl rfl rfl rfl rfl rfl rfl rfl rfl rfl rfl rfl (.row rfl (List.length_map _).symm) (.whole rfl (List.length_map _).symm (.inl ints_scal)) (by simp) rfl (by simp; omega) (by simp; omega) (by rw [← List.map_append]) (List.length_map _)) rfl ?_
  refine jnm ?_
  refine jnm ?_
  refine jf11 76 48 3 4 6 8 9 11 12 46 47 rfl rfl rfl rfl rfl rfl rfl rfl rfl rfl rfl ?_
  refine AOps.lone hσ rfl rfl rfl rfl ((c204b (xs := C :: XT ++ Y) h1 h2 hall).plain (u := eI G) (by rw [eT, gcdL_trim, ← eG])) (.cons (.c (.whole rfl (List.length_map _).symm)) .nil) rfl rfl rfl rfl rfl (B0 := 78000) rfl ?_
  refine jst hσ rfl rfl rfl rfl rfl ?_
  refine jf11 10 48 3 4 6 8 9 11 12 46 47 rfl rfl rfl rfl rfl rfl rfl rfl rfl rfl rfl ?_
  refine jns ?_
  iterate 3 refine jst hσ rfl rfl rfl rfl rfl ?_
  first | refine AOps.step (Val.quo64 hσ rfl rfl rfl rfl (by first | omega | (simp at *; omega)) (by first | omega | (simp at *; omega)) (by first | omega | (simp at *; omega))) rfl rfl rfl ?_ | refine jfi hσ rfl rfl rfl rfl rfl ?_
  refine jst hσ rfl rfl rfl rfl rfl ?_
  refine AOps.forget [(82, _), (81, _), (10, _), (48, _), (3, _), (4, _), (6, _), (8, _), (9, _), (11, _), (12, _), (46, _), (47, _)] ⟨rfl, rfl, rfl, rfl, rfl, rfl, rfl, rfl, rfl, rfl, rfl, rfl, rfl, trivial⟩ ?_
  refine AOps.heap (HS.storeBox hσ rfl rfl rfl rfl rfl rfl rfl rfl rfl rfl rfl) rfl ?_
  refine jnm ?_
  refine jf11 10 48 3 4 6 8 9 11 12 46 47 rfl rfl rfl rfl rfl rfl rfl rfl rfl rfl rfl ?_
  refine jn ?_
  refine AWP.seq ?_
  refine jsr ?_
  iterate 2 refine jst hσ rfl rfl rfl rfl rfl ?_
  first | refine jle hσ rfl rfl rfl rfl rfl rfl rfl rfl rfl rfl rfl ?_ | refine jst hσ rfl rfl rfl rfl rfl ?_ | refine jvf hσ rfl rfl rfl rfl rfl ?_
  refine jst hσ rfl rfl rfl rfl rfl ?_
  refine AOps.forget [(86, _), (85, _), (10, _), (48, _), (3, _), (4, _), (6, _), (8, _), (9, _), (11, _), (12, _), (46, _), (47, _)] ⟨rfl, rfl, rfl, rfl, rfl, rfl, rfl, rfl, rfl, rfl, rfl, rfl, rfl, trivial⟩ ?_
  refine jn ?_
  refine AWP.block ?_
  refine AWP.loopP (X := Nat) (fun i => ⟨[(6, .c (.pt 6 0 0)), (10, eI G), (11, .c (.pt 11 0 0)), (12, .c (.rs 900 0 Y.length)), (85, eI XT.length), (86, eI i)], [(6, .box [.d (.int .i64 0), .d .nils, .d .nils]), (11, .box [.d (.int .i64 (C.tdiv G)), .rs 44000 0 XT.length]), (900, nrow Y), (44000, nrow (mkq XT G i))]⟩) (fun i => i ≤ XT.length) (fun i => XT.length - i) 0 (((Ent.sel [6, 11, 900, 44000] (e' := [(6, _), (10, _), (11, _), (12, _), (85, _), (86, _)]) rfl rfl ⟨rfl, rfl, rfl, rfl, rfl, rfl, trivial⟩ rfl)).trans (Ent.to ⟨rfl, rfl, rfl, rfl, rfl, rfl, trivial⟩ (by rw [mkq_zero]; rfl))) ?_ (fun i hi => ?_)
  ·
   exact Nat.zero_le _
  refine jsr ?_
  refine jst hσ rfl rfl rfl rfl rfl ?_
  refine jn ?_
  refine AWP.seq ?_
  refine AWP.cond hσ rfl rfl (fun hc87 => ?_) (fun hc87 => ?_)
  ·
   try simp only [jcs] at hc87
   refine AWP.skip ?_
   refine AWP.seq ?_
   refine AWP.block ?_
   refine jsr ?_
   have hil : i < XT.length := by omega
   have hxi := tdiv_bd (b := (G : Int)) (hTb _ (mem_getD hil))
   iterate 2 refine jst hσ rfl rfl rfl rfl rfl ?_
   refine jn ?_
   refine AWP.region ?_
   iterate 3 refine jst hσ rfl rfl rfl rfl rfl ?_
   first | refine jin hσ rfl rfl rfl rfl rfl rfl rfl rfl rfl rfl rfl ?_ | refine jix hσ rfl rfl rfl rfl rfl rfl rfl rfl rfl rfl rfl ?_ | refine jvf hσ rfl rfl rfl rfl rfl ?_
   refine AOps.step (Val.loadRow hσ (ex := [.int .i64 (XT.getD i default)]) rfl rfl rfl rfl (by rw [Nat.zero_add]; exact mkq_get (by omega)) rfl) rfl rfl rfl ?_
   refine jst hσ rfl rfl rfl rfl rfl ?_
   first | refine AOps.step (Val.quo64 hσ rfl rfl rfl rfl (by first | omega | (simp at *; omega)) (by first | omega | (simp at *; omega)) (by first | omega | (simp at *; omega))) rfl rfl rfl ?_ | refine jfi hσ rfl rfl rfl rfl rfl ?_
   first | refine jin hσ rfl rfl rfl rfl rfl rfl rfl rfl rfl rfl rfl ?_ | refine jix hσ rfl rfl rfl rfl rfl rfl rfl rfl rfl rfl rfl ?_ | refine jvf hσ rfl rfl rfl rfl rfl ?_
   refine jf10 96 95 88 87 6 10 11 12 85 86 rfl rfl rfl rfl rfl rfl rfl rfl rfl rfl ?_
   refine AOps.heap (HS.storeRow (ex := [.int .i64 (XT.getD i default)]) (xs' := (mkq XT G (i + 1)).map (fun n => [D.int .i64 n])) hσ rfl rfl rfl rfl rfl rfl rfl rfl rfl rfl rfl rfl rfl rfl (by rw [Nat.zero_add]; exact mkq_get (by omega)) (by rw [← mkq_succ (by omega), List.map_set, Nat.zero_add]; rfl)) rfl ?_
   refine jnm ?_
   refine jf8 88 87 6 10 11 12 85 86 rfl rfl rfl rfl rfl rfl rfl rfl ?_
   refine jn ?_
   refine AWP.region ?_
   first | refine jfi hσ rfl rfl rfl rfl rfl ?_ | refine jvf hσ rfl rfl rfl rfl rfl ?_
   refine jst hσ rfl rfl rfl rfl rfl ?_
   refine jn ?_
   refine ⟨i + 1, Ent.to ⟨rfl, rfl, rfl, rfl, rfl, rfl, trivial⟩ rfl, by omega, by omega⟩
  ·
   try simp only [jcs] at hc87
   refine AWP.exit ?_
   refine AWP.seq ?_
   refine jsr ?_
   obtain rfl : i = XT.length := by omega
   rw [mkq_all]
   refine jst hσ rfl rfl rfl rfl rfl ?_
   first | refine jle hσ rfl rfl rfl rfl rfl rfl rfl rfl rfl rfl rfl ?_ | refine jst hσ rfl rfl rfl rfl rfl ?_ | refine jvf hσ rfl rfl rfl rfl rfl ?_
   refine jst hσ rfl rfl rfl rfl rfl ?_
   refine jn ?_
   refine AWP.block ?_
   refine AWP.loopP (X := Nat) (fun j => ⟨[(6, .c (.pt 6 0 0)), (10, eI G), (11, .c (.pt 11 0 0)), (12, .c (.rs 900 0 Y.length)), (99, eI Y.length), (100, eI j)], [(6, .box [.d (.int .i64 0), .d .nils, .d .nils]), (11, .box [.d (.int .i64 (C.tdiv G)), .rs 44000 0 XT.length]), (900, nrow (mkq Y G j)), (44000, nrow (XT.map fun x => x.tdiv G))]⟩) (fun j => j ≤ Y.length) (fun j => Y.length - j) 0 (((Ent.sel [6, 11, 900, 44000] (e' := [(6, _), (10, _), (11, _), (12, _), (99, _), (100, _)]) rfl rfl ⟨rfl, rfl, rfl, rfl, rfl, rfl, trivial⟩ rfl)).trans (Ent.to ⟨rfl, rfl, rfl, rfl, rfl, rfl, trivial⟩ (by rw [mkq_zero]; rfl))) ?_ (fun j hi => ?_)
   ·
    exact Nat.zero_le _
   refine jsr ?_
   refine jst hσ rfl rfl rfl rfl rfl ?_
   refine jn ?_
   refine AWP.seq ?_
   refine AWP.cond hσ rfl rfl (fun hc101 => ?_) (fun hc101 => ?_)
   ·
    try simp only [jcs] at hc101
    refine AWP.skip ?_
    refine AWP.seq ?_
    refine AWP.block ?_
    refine jsr ?_
    have hjl : j < Y.length := by omega
    have hyj := tdiv_bd (b := (G : Int)) (hYb _ (mem_getD hjl))
    iterate 2 refine jst hσ rfl rfl rfl rfl rfl ?_
    refine jn ?_
    refine AWP.region ?_
    iterate 2 refine jst hσ rfl rfl rfl rfl rfl ?_
    first | refine jin hσ rfl rfl rfl rfl rfl rfl rfl rfl rfl rfl rfl ?_ | refine jix hσ rfl rfl rfl rfl rfl rfl rfl rfl rfl rfl rfl ?_ | refine jvf hσ rfl rfl rfl rfl rfl ?_
    refine AOps.step (Val.loadRow hσ (ex := [.int .i64 (Y.getD j default)]) rfl rfl rfl rfl (by rw [Nat.zero_add]; exact mkq_get (by omega)) rfl) rfl rfl rfl ?_
    refine jst hσ rfl rfl rfl rfl rfl ?_
    first | refine AOps.step (Val.quo64 hσ rfl rfl rfl rfl (by first | omega | (simp at *; omega)) (by first | omega | (simp at *; omega)) (by first | omega | (simp at *; omega))) rfl rfl rfl ?_ | refine jfi hσ rfl rfl rfl rfl rfl ?_
    first | refine jin hσ rfl rfl rfl rfl rfl rfl rfl rfl rfl rfl rfl ?_ | refine jix hσ rfl rfl rfl rfl rfl rfl rfl rfl rfl rfl rfl ?_ | refine jvf hσ rfl rfl rfl rfl rfl ?_
    refine jf10 109 108 102 101 6 10 11 12 99 100 rfl rfl rfl rfl rfl rfl rfl rfl rfl rfl ?_
    refine AOps.heap (HS.storeRow (ex := [.int .i64 (Y.getD j default)]) (xs' := (mkq Y G (j + 1)).map (fun n => [D.int .i64 n])) hσ rfl rfl rfl rfl rfl rfl rfl rfl rfl rfl rfl rfl rfl rfl (by rw [Nat.zero_add]; exact mkq_get (by omega)) (by rw [← mkq_succ (by omega), List.map_set, Nat.zero_add]; rfl)) rfl ?_
    refine jnm ?_
    refine jf8 102 101 6 10 11 12 99 100 rfl rfl rfl rfl rfl rfl rfl rfl ?_
    refine jn ?_
    refine AWP.region ?_
    first | refine jfi hσ rfl rfl rfl rfl rfl ?_ | refine jvf hσ rfl rfl rfl rfl rfl ?_
    refine jst hσ rfl rfl rfl rfl rfl ?_
    refine jn ?_
    refine ⟨j + 1, Ent.to ⟨rfl, rfl, rfl, rfl, rfl, rfl, trivial⟩ rfl, by omega, by omega⟩
   ·
    try simp only [jcs] at hc101
    refine AWP.exit ?_
    refine AWP.seq ?_
    cases hb23 : (⟨C.tdiv G, XT.map fun x => x.tdiv G⟩ : Tm).ok with
    | true =>
     obtain rfl : j = Y.length := by omega
     rw [mkq_all]
     refine AWP.ent (Ent.freeze 44000 (e' := [(6, _), (11, _), (12, _)]) rfl (.cons rfl (.keep rfl) (.cons rfl (.keep rfl) (.cons rfl (.keep rfl) .nil))) (.cons rfl (.box (.cons (.keep rfl) (.cons (.keep rfl) (.cons (.keep rfl) .nil)))) (.cons rfl (.box (.cons (.keep rfl) (.cons (.row rfl (by simp)) .nil))) (.cons rfl .row (.skip .nil))))) ?_
     refine AWP.ent (Ent.freeze 900 (e' := [(6, _), (11, _), (12, _)]) rfl (.cons rfl (.keep rfl) (.cons rfl (.keep rfl) (.cons rfl (.c (.row rfl (by simp))) .nil))) (.cons rfl (.box (.cons (.keep rfl) (.cons (.keep rfl) (.cons (.keep rfl) .nil)))) (.cons rfl (.box (.cons (.keep rfl) (.cons (.keep rfl) .nil))) (.skip .nil)))) ?_
     refine AWP.drawG hσ _ [_, _, _, _, _, _, _, _, _, _, _] [⟨[], 0, 2, none⟩, ⟨[], 0, 2, none⟩, ⟨[0, 1], 0, 2, none⟩, ⟨[], 0, 0, none⟩, ⟨[3], 0, 0, some 0⟩, ⟨[3, 4], 1, 1, none⟩, ⟨[3, 4, 5], 1, 1, none⟩, ⟨[3, 4, 5, 6], 0, 0, some 1⟩, ⟨[3, 4, 5, 6, 7], 2, 3, none⟩, ⟨[0, 1, 2, 3, 4, 5, 6, 7], 0, 0, some 2⟩, ⟨[0, 1, 2, 3, 4, 5, 6, 7, 8, 9], 3, 3, none⟩] [4, 7, 9] [_, _, _, _] rfl rfl (by decide) (by decide) (by kernel_rfl) (And.intro (And.intro (Val.of hσ rfl rfl) (And.intro (Val.of hσ rfl rfl) (Val.of hσ rfl rfl))) (And.intro (And.intro (Val.of hσ rfl rfl) (And.intro (Val.of hσ rfl rfl) (Val.of hσ rfl rfl))) (And.intro (And.intro (Val.of hσ rfl rfl) (And.intro (Val.of hσ rfl rfl) (Val.of hσ rfl rfl))) (And.intro (Val.of hσ rfl rfl) (And.intro (Eff.lone hσ (B0 := 116000) rfl rfl rfl rfl (c185 (t := ⟨C.tdiv G, XT.map fun x => x.tdiv G⟩) h1 h2) (VAs.self rfl) rfl rfl rfl rfl rfl) (And.intro ((Val.of hσ rfl rfl).cast (v' := eB true) (congrArg eB hb23)) (And.intro (Val.of hσ rfl rfl) (And.intro (Eff.lone hσ (B0 := 119000) rfl rfl rfl rfl (c156 (xs := Y.map fun x => x.tdiv G) h1 h2) (VAs.self rfl) rfl rfl rfl rfl rfl) (And.intro (And.intro (Val.pickY hσ rfl rfl rfl rfl rfl) (Val.pickY hσ rfl rfl rfl rfl rfl)) (And.intro (Eff.storeBox hσ rfl rfl rfl rfl rfl rfl rfl rfl rfl rfl rfl rfl rfl) (And.intro (Val.of hσ rfl rfl) trivial))))))))))) ?_
     refine AWP.forget [(7, _), (6, _), (11, _), (12, _)] ⟨rfl, rfl, rfl, rfl, trivial⟩ ?_
     refine jnw ?_
     refine AWP.ret ?_
     refine ⟨.inl rfl, _, Ent.refl, _, rfl, ?_⟩
     obtain ⟨q1, q2⟩ := mix_comb eG hG.1 lX
     rw [show mixR p q k = divR ⟨C, X, Y⟩ G by subst eG; subst eY; subst eX; subst eC; subst em; subst en; rfl, q1, q2, ← eT, hb23, Bool.true_and]
     exact .tup (.cons (.agg (VMs.self rfl)) (.cons (.c .d) .nil))
    | false =>
     obtain rfl : j = Y.length := by omega
     rw [mkq_all]
     refine AWP.ent (Ent.freeze 44000 (e' := [(6, _), (11, _), (12, _)]) rfl (.cons rfl (.keep rfl) (.cons rfl (.keep rfl) (.cons rfl (.keep rfl) .nil))) (.cons rfl (.box (.cons (.keep rfl) (.cons (.keep rfl) (.cons (.keep rfl) .nil)))) (.cons rfl (.box (.cons (.keep rfl) (.cons (.row rfl (by simp)) .nil))) (.cons rfl .row (.skip .nil))))) ?_
     refine AWP.ent (Ent.freeze 900 (e' := [(6, _), (11, _), (12, _)]) rfl (.cons rfl (.keep rfl) (.cons rfl (.keep rfl) (.cons rfl (.c (.row rfl (by simp))) .nil))) (.cons rfl (.box (.cons (.keep rfl) (.cons (.keep rfl) (.cons (.keep rfl) .nil)))) (.cons rfl (.box (.cons (.keep rfl) (.cons (.keep rfl) .nil))) (.skip .nil)))) ?_
     refine AWP.drawG hσ _ [_, _, _, _, _, _, _, _, _, _, _] [⟨[], 0, 1, none⟩, ⟨[], 0, 1, none⟩, ⟨[0, 1], 0, 1, none⟩, ⟨[], 0, 0, none⟩, ⟨[3], 0, 0, some 0⟩, ⟨[3, 4], 1, 1, none⟩, ⟨[3, 4, 5], 0, 2, none⟩, ⟨[3, 4, 5, 6], 0, 2, none⟩, ⟨[3, 4, 5, 6, 7], 1, 2, none⟩, ⟨[0, 1, 2, 3, 4, 5, 6, 7], 0, 0, some 1⟩, ⟨[0, 1, 2, 3, 4, 5, 6, 7, 8, 9], 2, 2, none⟩] [4, 9] [_, _, _] rfl rfl (by decide) (by decide) (by kernel_rfl) (And.intro (And.intro (Val.of hσ rfl rfl) (Val.of hσ rfl rfl)) (And.intro (And.intro (Val.of hσ rfl rfl) (Val.of hσ rfl rfl)) (And.intro (And.intro (Val.of hσ rfl rfl) (Val.of hσ rfl rfl)) (And.intro (Val.of hσ rfl rfl) (And.intro (Eff.lone hσ (B0 := 116000) rfl rfl rfl rfl (c185 (t := ⟨C.tdiv G, XT.map fun x => x.tdiv G⟩) h1 h2) (VAs.self rfl) rfl rfl rfl rfl rfl) (And.intro ((Val.of hσ rfl rfl).cast (v' := eB false) (congrArg eB hb23)) (And.intro ⟨rfl, rfl⟩ (And.intro ⟨rfl, rfl⟩ (And.intro (And.intro (Val.pickN hσ rfl rfl rfl rfl rfl) (Val.pickN hσ rfl rfl rfl rfl rfl)) (And.intro (Eff.storeBox hσ rfl rfl rfl rfl rfl rfl rfl rfl rfl rfl rfl rfl rfl) (And.intro (Val.of hσ rfl rfl) trivial))))))))))) ?_
     refine AWP.forget [(7, _), (6, _), (11, _), (12, _)] ⟨rfl, rfl, rfl, rfl, trivial⟩ ?_
     refine jnw ?_
     refine AWP.ret ?_
     refine ⟨.inl rfl, _, Ent.refl, _, rfl, ?_⟩
     obtain ⟨q1, q2⟩ := mix_comb eG hG.1 lX
     rw [show mixR p q k = divR ⟨C, X, Y⟩ G by subst eG; subst eY; subst eX; subst eC; subst em; subst en; rfl, q1, q2, ← eT, hb23, Bool.false_and]
     exact .tup (.cons (.agg (VMs.self rfl)) (.cons (.c .d) .nil))
end Go.Al
namespace Go.Al
open Go.Proofs
set_option linter.unusedVariables false
set_option linter.unusedSimpArgs false
set_option maxRecDepth 10000
set_option maxHeartbeats 8000000
abbrev acbs (rs : List Rw) : A := .c (.d (.slc 3 (rs.map Rw.comb)))
abbrev cbrow (rs : List Rw) : B := .row false 3 (rs.map Rw.comb)
abbrev resEl (z : List Rw × List Rw × Bool) : A := .tup [acbs z.1, acbs z.2.1, eB z.2.2]
theorem get_comb {rs : List Rw} {i : Nat} (h : i < rs.length) : (rs.map Rw.comb)[0 + ((i : Nat) : Int).toNat]? = some (rs.getD i default).comb := by
  rw [Nat.zero_add, Int.toNat_natCast, List.getElem?_map, List.getElem?_eq_getElem h, getD_lt h]; rfl
theorem row0_comb {ts : List Tm} (h : Fs ts) {i : Nat} (hi : i < ts.length) : (row0 ts i).comb = [.int .i64 (ts.getD i default).c, ints (ts.getD i default).xs, ints (unitL ts.length i)] := by
  have e : (row0 ts i).tm = ts.getD i default := row0_tm h hi
  have e1 : trim (row0 ts i).xs = (ts.getD i default).xs := congrArg Tm.xs e
  show [D.int .i64 (ts.getD i default).c, ints (trim (row0 ts i).xs), ints (unitL ts.length i)] = _
  rw [e1]
theorem c1060 {L : Nat} (h1 : 4096 ≤ L) (h2 : L ≤ 1073741824) {ts : List Tm} (hf : Fs ts) : MC Tryz.prog L 84 [atms ts, aints (syms 10)] [] (Plain (resEl (evP ts))) := by
 refine MC.data ?_
 have hσ := SGok (nt := 120) h1 (Nat.le_trans h2 (by decide))
 refine MC.body hσ Tryz.func84 (by kernel_rfl) rfl rfl (Nat.le_of_ble_eq_true rfl) (fun hF => ?_)
 have hlen := hf.len
 refine jsr ?_
 iterate 3 refine jst hσ rfl rfl rfl rfl rfl ?_
 refine jns ?_
 iterate 2 refine jst hσ rfl rfl rfl rfl rfl ?_
 refine jn ?_
 refine AWP.seq ?_
 refine jsr ?_
 refine jst hσ rfl rfl rfl rfl rfl ?_
 first | refine jle hσ rfl rfl rfl rfl rfl rfl rfl rfl rfl rfl rfl ?_ | refine jst hσ rfl rfl rfl rfl rfl ?_ | refine jvf hσ rfl rfl rfl rfl rfl ?_
 refine jst hσ rfl rfl rfl rfl rfl ?_
 refine jn ?_
 refine AWP.block ?_
 refine AWP.loopP (X := Nat) (fun i => ⟨[(0, atms ts), (1, aints (syms 10)), (7, .c (.rs 900 0 i)), (8, .c (.d .nils)), (23, atms ts), (24, eI ts.length), (25, eI i)], [(900, cbrow (rowsTo ts i))]⟩) (fun i => i ≤ ts.length) (fun i => ts.length - i) 0 ((Ent.nameNil 7 900 3 false rfl rfl).trans (Ent.to ⟨rfl, rfl, rfl, rfl, rfl, rfl, rfl, trivial⟩ rfl)) ?_ (fun i hi => ?_)
 ·
  exact Nat.zero_le _
 refine jsr ?_
 refine jst hσ rfl rfl rfl rfl rfl ?_
 refine jn ?_
 refine AWP.seq ?_
 refine AWP.cond hσ rfl rfl (fun hc26 => ?_) (fun hc26 => ?_)
 ·
  skip
  refine AWP.skip ?_
  refine AWP.seq ?_
  refine AWP.block ?_
  refine jsr ?_
  have hil : i < ts.length := by have := of_decide_eq_true hc26; omega
  refine jst hσ rfl rfl rfl rfl rfl ?_
  first | refine jin hσ rfl rfl rfl rfl rfl rfl rfl rfl rfl rfl rfl ?_ | refine jix hσ rfl rfl rfl rfl rfl rfl rfl rfl rfl rfl rfl ?_ | refine jvf hσ rfl rfl rfl rfl rfl ?_
  refine jst hσ rfl rfl rfl rfl rfl ?_
  refine jf10 29 27 26 0 1 7 8 23 24 25 rfl rfl rfl rfl rfl rfl rfl rfl rfl rfl ?_
  refine AOps.heap (HS.alloc hσ rfl rfl rfl rfl rfl) rfl ?_
  refine jnm ?_
  refine jst hσ rfl rfl rfl rfl rfl ?_
  refine jf11 9 10 29 26 0 1 7 8 23 24 25 rfl rfl rfl rfl rfl rfl rfl rfl rfl rfl rfl ?_
  refine AOps.heap (HS.storeBox hσ rfl rfl rfl rfl rfl rfl rfl rfl rfl rfl rfl) rfl ?_
  refine jnm ?_
  refine jns ?_
  refine jst hσ rfl rfl rfl rfl rfl ?_
  first | refine jle hσ rfl rfl rfl rfl rfl rfl rfl rfl rfl rfl rfl ?_ | refine jst hσ rfl rfl rfl rfl rfl ?_ | refine jvf hσ rfl rfl rfl rfl rfl ?_
  refine jf12 31 9 10 29 26 0 1 7 8 23 24 25 rfl rfl rfl rfl rfl rfl rfl rfl rfl rfl rfl rfl ?_
  refine AOps.heap (HS.make hσ rfl rfl rfl rfl rfl rfl rfl rfl rfl (by first | omega | (simp at *; omega)) (by first | omega | (simp at *; omega)) (by first | omega | (simp at *; omega)) (by first | omega | (dsimp only; omega) | (simp only [List.length_map, beq_iff_eq, decide_eq_true_eq, decide_eq_false_iff_not, Bool.not_eq_true', Bool.not_eq_false', Bool.not_true, Bool.not_false, Int.not_lt, Int.not_le] at *; omega)) (by first | omega | (simp at *; omega)) rfl rfl rfl) rfl ?_
  refine jnm ?_
  refine jst hσ rfl rfl rfl rfl rfl ?_
  refine jf12 11 9 10 29 26 0 1 7 8 23 24 25 rfl rfl rfl rfl rfl rfl rfl rfl rfl rfl rfl rfl ?_
  refine jns ?_
  iterate 2 refine jst hσ rfl rfl rfl rfl rfl ?_
  first | refine jin hσ rfl rfl rfl rfl rfl rfl rfl rfl rfl rfl rfl ?_ | refine jix hσ rfl rfl rfl rfl rfl rfl rfl rfl rfl rfl rfl ?_ | refine jvf hσ rfl rfl rfl rfl rfl ?_
  refine jf12 35 11 10 29 26 0 1 7 8 23 24 25 rfl rfl rfl rfl rfl rfl rfl rfl rfl rfl rfl rfl ?_
  refine AOps.heap (HS.storeRow (ex := [.int .i64 0]) (xs' := (unitL ts.length i).map (fun n => [D.int .i64 n])) hσ rfl rfl rfl rfl rfl rfl rfl rfl rfl rfl rfl rfl rfl rfl (by rw [Nat.zero_add, Int.toNat_natCast, List.getElem?_replicate, if_pos (by omega)]) unit_set) rfl ?_
  refine jnm ?_
  refine jn ?_
  refine AWP.region ?_
  refine AOps.to (Ent.freeze 32 (e' := [(0, _), (1, _), (7, _), (8, _), (10, _), (11, _), (23, _), (24, _), (25, _)]) rfl (.cons rfl (.keep rfl) (.cons rfl (.keep rfl) (.cons rfl (.keep rfl) (.cons rfl (.keep rfl) (.cons rfl (.keep rfl) (.cons rfl (.c (.row rfl (by simp [unitL_length]))) (.cons rfl (.keep rfl) (.cons rfl (.keep rfl) (.cons rfl (.keep rfl) .nil))))))))) (.cons rfl (.box (.cons (.keep rfl) (.cons (.keep rfl) .nil))) (.skip (.cons rfl .row .nil)))) ?_
  iterate 4 refine jst hσ rfl rfl rfl rfl rfl ?_
  refine jf11 39 36 0 1 7 8 10 11 23 24 25 rfl rfl rfl rfl rfl rfl rfl rfl rfl rfl rfl ?_
  refine AOps.heap (HS.litD hσ rfl rfl rfl rfl rfl rfl rfl rfl rfl rfl rfl) rfl ?_
  refine jnm ?_
  refine jf11 40 36 0 1 7 8 10 11 23 24 25 rfl rfl rfl rfl rfl rfl rfl rfl rfl rfl rfl ?_
  refine AOps.heap (HS.appCopy (own := false) (xs := (rowsTo ts i).map Rw.comb) (ys := [[.int .i64 (ts.getD i default).c, ints (ts.getD i default).xs, ints (unitL ts.length i)]]) (zs := (rowsTo ts (i + 1)).map Rw.comb) (n := i + 1) hσ rfl rfl rfl rfl rfl rfl rfl rfl rfl rfl rfl rfl rfl rfl rfl rfl (.row rfl (by simp [rowsTo_length])) (.whole rfl rfl (.inr ⟨rfl, rfl⟩)) (by simp) rfl (by simp [rowsTo_length]; omega) (by simp [rowsTo_length]; omega) (by rw [rowsTo_succ, List.map_append, ← row0_comb hf hil]; rfl) (by simp [rowsTo_length])) rfl ?_
  refine jnm ?_
  refine jnm ?_
  refine jst hσ rfl rfl rfl rfl rfl ?_
  refine jf9 7 0 1 8 10 11 23 24 25 rfl rfl rfl rfl rfl rfl rfl rfl rfl ?_
  refine jn ?_
  refine AWP.region ?_
  first | refine jfi hσ rfl rfl rfl rfl rfl ?_ | refine jvf hσ rfl rfl rfl rfl rfl ?_
  refine jst hσ rfl rfl rfl rfl rfl ?_
  refine jn ?_
  refine ⟨i + 1, ((Ent.sel [41] (e' := [(0, _), (1, _), (7, _), (8, _), (23, _), (24, _), (25, _)]) rfl rfl ⟨rfl, rfl, rfl, rfl, rfl, rfl, rfl, trivial⟩ rfl).trans (Ent.sub2 41 900 rfl rfl)), by omega, by omega⟩
 ·
  skip
  refine AWP.exit ?_
  refine AWP.seq ?_
  refine jsr ?_
  obtain rfl : i = ts.length := by have := of_decide_eq_false hc26; omega
  refine jst hσ rfl rfl rfl rfl rfl ?_
  first | refine jle hσ rfl rfl rfl rfl rfl rfl rfl rfl rfl rfl rfl ?_ | refine jst hσ rfl rfl rfl rfl rfl ?_ | refine jvf hσ rfl rfl rfl rfl rfl ?_
  refine jst hσ rfl rfl rfl rfl rfl ?_
  refine jn ?_
  refine AWP.block ?_
  refine AWP.loopP (X := Nat × List Rw × List Rw) (fun x => ⟨[(43, aints (syms 10)), (44, eI (syms 10).length), (45, eI x.1), (7, .c (.rs 900 0 x.2.1.length)), (8, .c (.rs 901 0 x.2.2.length))], [(900, cbrow x.2.1), (901, cbrow x.2.2)]⟩) (fun x => x.1 ≤ 10 ∧ elimK (10 - x.1) x.1 x.2.1 x.2.2 = everyR ts ∧ AllR ts.length x.2.1 ∧ x.2.1.length ≤ 60 ∧ AllR ts.length x.2.2 ∧ x.2.2.length ≤ 60 * x.1) (fun x => 10 - x.1) (0, rows0 ts, []) ((Ent.nameNil 8 901 3 false rfl rfl).trans (Ent.to ⟨rfl, rfl, rfl, congrArg (fun n => some (A.c (.rs 900 0 n))) rowsTo_length.symm, rfl, trivial⟩ rfl)) ?_ (fun x hi => ?_)
  ·
   exact ⟨Nat.zero_le _, rfl, rows0_ok hf, by show (rowsTo ts ts.length).length ≤ 60; rw [rowsTo_length]; omega, AllR.nil, Nat.zero_le _⟩
  refine jsr ?_
  refine jst hσ rfl rfl rfl rfl rfl ?_
  refine jn ?_
  refine AWP.seq ?_
  refine AWP.cond hσ rfl rfl (fun hc46 => ?_) (fun hc46 => ?_)
  ·
   skip
   refine AWP.skip ?_
   refine AWP.seq ?_
   refine AWP.block ?_
   refine jsr ?_
   obtain ⟨hx1, hx2, hx3, hx4, hx5, hx6⟩ := hi
   have hxl : x.1 < 10 := by have := of_decide_eq_true hc46; simp only [syms_length] at this; omega
   obtain ⟨k, ek⟩ : ∃ k, k = x.1 := ⟨_, rfl⟩
   obtain ⟨rs, ers⟩ : ∃ k, k = x.2.1 := ⟨_, rfl⟩
   obtain ⟨NW, eNW⟩ : ∃ k, k = x.2.2 := ⟨_, rfl⟩
   rw [← ek, ← ers, ← eNW] at hx2
   rw [← ers] at hx3 hx4
   rw [← eNW] at hx5 hx6
   rw [← ek] at hx6 hxl
   rw [← ek, ← ers, ← eNW]
   refine AOps.step (Val.indexN hσ rfl rfl rfl rfl rfl rfl rfl rfl (idxN (by rw [syms_length]; omega))) rfl rfl rfl ?_
   refine AOps.step ((Val.of hσ rfl rfl).cast (v' := eI k) (congrArg eI (syms_get hxl))) rfl rfl rfl ?_
   refine jst hσ rfl rfl rfl rfl rfl ?_
   refine jf7 13 46 43 44 45 7 8 rfl rfl rfl rfl rfl rfl rfl ?_
   refine jns ?_
   refine jst hσ rfl rfl rfl rfl rfl ?_
   refine jn ?_
   refine AWP.seq ?_
   refine jsr ?_
   refine jst hσ rfl rfl rfl rfl rfl ?_
   first | refine jle hσ rfl rfl rfl rfl rfl rfl rfl rfl rfl rfl rfl ?_ | refine jst hσ rfl rfl rfl rfl rfl ?_ | refine jvf hσ rfl rfl rfl rfl rfl ?_
   refine jst hσ rfl rfl rfl rfl rfl ?_
   refine jn ?_
   refine AWP.block ?_
   refine AWP.loopP (X := Nat) (fun i => ⟨[(43, aints (syms 10)), (44, eI (syms 10).length), (45, eI k), (7, .c (.rs 900 0 rs.length)), (8, .c (.rs 901 0 NW.length)), (13, eI k), (14, .c (.rs 902 0 (keepR k (rs.take i)).length)), (49, .c (.rs 900 0 rs.length)), (50, eI rs.length), (51, eI i)], [(900, cbrow rs), (901, cbrow NW), (902, cbrow (keepR k (rs.take i)))]⟩) (fun i => i ≤ rs.length) (fun i => rs.length - i) 0 ((Ent.nameNil 14 902 3 false rfl rfl).trans (Ent.to ⟨rfl, rfl, rfl, rfl, rfl, rfl, rfl, rfl, rfl, rfl, trivial⟩ rfl)) ?_ (fun i hi => ?_)
   ·
    exact Nat.zero_le _
   refine jsr ?_
   refine jst hσ rfl rfl rfl rfl rfl ?_
   refine jn ?_
   refine AWP.seq ?_
   refine AWP.cond hσ rfl rfl (fun hc52 => ?_) (fun hc52 => ?_)
   ·
    skip
    refine AWP.skip ?_
    refine AWP.seq ?_
    refine AWP.block ?_
    refine jsr ?_
    have hil : i < rs.length := by have := of_decide_eq_true hc52; omega
    have hget := get_comb hil
    refine jvf hσ rfl rfl rfl rfl rfl ?_
    refine AOps.step (Val.loadRow hσ (ex := (rs.getD i default).comb) rfl rfl rfl rfl hget rfl) rfl rfl rfl ?_
    refine jf12 54 52 43 44 45 7 8 13 14 49 50 51 rfl rfl rfl rfl rfl rfl rfl rfl rfl rfl rfl rfl ?_
    refine AOps.heap (HS.alloc hσ rfl rfl rfl rfl rfl) rfl ?_
    refine jnm ?_
    refine AOps.heap (HS.storeBox hσ rfl rfl rfl rfl rfl rfl rfl rfl rfl rfl rfl) rfl ?_
    refine jnm ?_
    refine jns ?_
    iterate 3 refine jst hσ rfl rfl rfl rfl rfl ?_
    refine jf15 57 56 16 54 52 43 44 45 7 8 13 14 49 50 51 rfl rfl rfl rfl rfl rfl rfl rfl rfl rfl rfl rfl rfl rfl rfl ?_
    refine AOps.lone hσ rfl rfl rfl rfl (((c1066 (t := (rs.getD i default).tm) (k := k) h1 h2).plain (u := eI ((rs.getD i default).xs.getD k default)) (congrArg eI (trim_getD (rs.getD i default).xs k)))) (VAs.self rfl) rfl rfl rfl rfl rfl (B0 := 59000) rfl ?_
    refine jst hσ rfl rfl rfl rfl rfl ?_
    refine jf14 59 16 54 52 43 44 45 7 8 13 14 49 50 51 rfl rfl rfl rfl rfl rfl rfl rfl rfl rfl rfl rfl rfl rfl ?_
    refine jn ?_
    refine AWP.cond hσ rfl rfl (fun hc59 => ?_) (fun hc59 => ?_)
    ·
     skip
     refine AWP.region ?_
     iterate 2 refine jst hσ rfl rfl rfl rfl rfl ?_
     refine AOps.heap (HS.litD hσ rfl rfl rfl rfl rfl rfl rfl rfl rfl rfl rfl) rfl ?_
     refine jnm ?_
     refine jf16 62 60 59 16 54 52 43 44 45 7 8 13 14 49 50 51 rfl rfl rfl rfl rfl rfl rfl rfl rfl rfl rfl rfl rfl rfl rfl rfl ?_
     have hki := keepR_le (k := k) (rs := rs.take (i + 1))
     have hkj := keepR_le (k := k) (rs := rs.take i)
     rw [List.length_take] at hki hkj
     refine AOps.heap (HS.appCopy (own := false) (xs := (keepR k (rs.take i)).map Rw.comb) (ys := [Rw.comb (rs.getD i default)]) (zs := (keepR k (rs.take (i + 1))).map Rw.comb) (n := (keepR k (rs.take (i + 1))).length) hσ rfl rfl rfl rfl rfl rfl rfl rfl rfl rfl rfl rfl rfl rfl rfl rfl (.row rfl (List.length_map _).symm) (.whole rfl rfl (.inr ⟨rfl, rfl⟩)) (by simp) rfl (by simp only [List.length_map, List.length_append, List.length_singleton, List.length_cons, List.length_nil]; omega) (by simp only [List.length_map, List.length_append, List.length_singleton, List.length_cons, List.length_nil]; omega) (by rw [keepR_T hil (of_decide_eq_true hc59), List.map_append]; rfl) (List.length_map _)) rfl ?_
     refine jnm ?_
     refine jnm ?_
     refine jst hσ rfl rfl rfl rfl rfl ?_
     refine jf14 14 59 16 54 52 43 44 45 7 8 13 49 50 51 rfl rfl rfl rfl rfl rfl rfl rfl rfl rfl rfl rfl rfl rfl ?_
     refine jn ?_
     refine AWP.region ?_
     first | refine jfi hσ rfl rfl rfl rfl rfl ?_ | refine jvf hσ rfl rfl rfl rfl rfl ?_
     refine jst hσ rfl rfl rfl rfl rfl ?_
     refine jn ?_
     refine ⟨i + 1, ((Ent.sel [900, 901, 63] (e' := [(43, _), (44, _), (45, _), (7, _), (8, _), (13, _), (14, _), (49, _), (50, _), (51, _)]) rfl rfl ⟨rfl, rfl, rfl, rfl, rfl, rfl, rfl, rfl, rfl, rfl, trivial⟩ rfl).trans (Ent.sub2 63 902 rfl rfl)), by omega, by omega⟩
    ·
     skip
     refine AWP.skip ?_
     refine AWP.region ?_
     first | refine jfi hσ rfl rfl rfl rfl rfl ?_ | refine jvf hσ rfl rfl rfl rfl rfl ?_
     refine jst hσ rfl rfl rfl rfl rfl ?_
     refine jn ?_
     have hkf := keepR_F (k := k) (i := i) (rs := rs) hil (of_decide_eq_false hc59)
     rw [← hkf]
     refine ⟨i + 1, ((Ent.sel [900, 901, 902] (e' := [(43, _), (44, _), (45, _), (7, _), (8, _), (13, _), (14, _), (49, _), (50, _), (51, _)]) rfl rfl ⟨rfl, rfl, rfl, rfl, rfl, rfl, rfl, rfl, rfl, rfl, trivial⟩ rfl)).trans (Ent.to ⟨rfl, rfl, rfl, rfl, rfl, rfl, rfl, rfl, rfl, rfl, trivial⟩ rfl), by omega, by omega⟩
   ·
    skip
    refine AWP.exit ?_
    refine AWP.seq ?_
    refine jsr ?_
    have hie : i = rs.length := by have := of_decide_eq_false hc52; omega
    subst hie
    rw [List.take_length]
    have hkl := keepR_le (k := k) (rs := rs)
    obtain ⟨KP, eK⟩ : ∃ KP, KP = keepR k rs := ⟨_, rfl⟩
    rw [← eK]
    rw [← eK] at hkl
    refine jst hσ rfl rfl rfl rfl rfl ?_
    first | refine jle hσ rfl rfl rfl rfl rfl rfl rfl rfl rfl rfl rfl ?_ | refine jst hσ rfl rfl rfl rfl rfl ?_ | refine jvf hσ rfl rfl rfl rfl rfl ?_
    refine jst hσ rfl rfl rfl rfl rfl ?_
    refine jn ?_
    refine AWP.block ?_
    refine AWP.loopP (X := Nat × List Rw) (fun y => ⟨[(43, aints (syms 10)), (44, eI (syms 10).length), (45, eI k), (7, .c (.rs 900 0 rs.length)), (8, .c (.rs 901 0 (NW ++ y.2).length)), (13, eI k), (14, .c (.rs 902 0 (KP ++ y.2).length)), (65, .c (.rs 900 0 rs.length)), (66, eI rs.length), (67, eI y.1)], [(900, cbrow rs), (901, cbrow (NW ++ y.2)), (902, cbrow (KP ++ y.2))]⟩) (fun y => y.1 ≤ rs.length ∧ goI k KP.length rs (rs.drop y.1) y.2 = goI k KP.length rs rs [] ∧ AllR ts.length y.2 ∧ (KP ++ y.2).length ≤ 60) (fun y => rs.length - y.1) (0, []) (((Ent.sel [900, 901, 902] (e' := [(43, _), (44, _), (45, _), (7, _), (8, _), (13, _), (14, _), (65, _), (66, _), (67, _)]) rfl rfl ⟨rfl, rfl, rfl, rfl, rfl, rfl, rfl, rfl, rfl, rfl, trivial⟩ rfl)).trans (Ent.to ⟨rfl, rfl, rfl, rfl, (by simp only [List.append_nil]; rfl), rfl, (by simp only [List.append_nil]; rfl), rfl, rfl, rfl, trivial⟩ (by simp only [List.append_nil]; rfl))) ?_ (fun y hi => ?_)
    ·
     exact ⟨Nat.zero_le _, rfl, AllR.nil, by rw [List.append_nil]; omega⟩
    refine jsr ?_
    refine jst hσ rfl rfl rfl rfl rfl ?_
    refine jn ?_
    refine AWP.seq ?_
    refine AWP.cond hσ rfl rfl (fun hc68 => ?_) (fun hc68 => ?_)
    ·
     skip
     refine AWP.skip ?_
     refine AWP.seq ?_
     refine AWP.block ?_
     refine jsr ?_
     obtain ⟨hy1, hy2, hy3, hy4⟩ := hi
     have hyl : y.1 < rs.length := by have := of_decide_eq_true hc68; omega
     have hget := get_comb hyl
     refine jvf hσ rfl rfl rfl rfl rfl ?_
     refine AOps.step (Val.loadRow hσ (ex := (rs.getD y.1 default).comb) rfl rfl rfl rfl hget rfl) rfl rfl rfl ?_
     refine jf12 70 68 43 44 45 7 8 13 14 65 66 67 rfl rfl rfl rfl rfl rfl rfl rfl rfl rfl rfl rfl ?_
     refine AOps.heap (HS.alloc hσ rfl rfl rfl rfl rfl) rfl ?_
     refine jnm ?_
     refine AOps.heap (HS.storeBox hσ rfl rfl rfl rfl rfl rfl rfl rfl rfl rfl rfl) rfl ?_
     refine jnm ?_
     refine jns ?_
     refine jst hσ rfl rfl rfl rfl rfl ?_
     first | refine jle hσ rfl rfl rfl rfl rfl rfl rfl rfl rfl rfl rfl ?_ | refine jst hσ rfl rfl rfl rfl rfl ?_ | refine jvf hσ rfl rfl rfl rfl rfl ?_
     refine jst hσ rfl rfl rfl rfl rfl ?_
     refine jn ?_
     refine AWP.block ?_
     refine AWP.loopP (X := Nat × List Rw) (fun z => ⟨[(43, aints (syms 10)), (44, eI (syms 10).length), (45, eI k), (7, .c (.rs 900 0 rs.length)), (8, .c (.rs 901 0 (NW ++ z.2).length)), (13, eI k), (14, .c (.rs 902 0 (KP ++ z.2).length)), (65, .c (.rs 900 0 rs.length)), (66, eI rs.length), (67, eI y.1), (18, .c (.pt 18 0 0)), (71, .c (.rs 900 0 rs.length)), (72, eI rs.length), (73, eI z.1)], [(18, .box ((rs.getD y.1 default).comb.map .d)), (900, cbrow rs), (901, cbrow (NW ++ z.2)), (902, cbrow (KP ++ z.2))]⟩) (fun z => z.1 ≤ rs.length ∧ goJ (rs.getD y.1 default) k KP.length (rs.drop z.1) z.2 = goJ (rs.getD y.1 default) k KP.length rs y.2 ∧ AllR ts.length z.2 ∧ (KP ++ z.2).length ≤ 60) (fun z => rs.length - z.1) (0, y.2) (((Ent.sel [18, 900, 901, 902] (e' := [(43, _), (44, _), (45, _), (7, _), (8, _), (13, _), (14, _), (65, _), (66, _), (67, _), (18, _), (71, _), (72, _), (73, _)]) rfl rfl ⟨rfl, rfl, rfl, rfl, rfl, rfl, rfl, rfl, rfl, rfl, rfl, rfl, rfl, rfl, trivial⟩ rfl)).trans (Ent.to ⟨rfl, rfl, rfl, rfl, rfl, rfl, rfl, rfl, rfl, rfl, rfl, rfl, rfl, rfl, trivial⟩ rfl)) ?_ (fun z hi => ?_)
     ·
      exact ⟨Nat.zero_le _, rfl, hy3, hy4⟩
     refine jsr ?_
     refine jst hσ rfl rfl rfl rfl rfl ?_
     refine jn ?_
     refine AWP.seq ?_
     refine AWP.cond hσ rfl rfl (fun hc74 => ?_) (fun hc74 => ?_)
     ·
      skip
      refine AWP.skip ?_
      refine AWP.seq ?_
      refine AWP.block ?_
      refine jsr ?_
      obtain ⟨hz1, hz2, hz3, hz4⟩ := hi
      have hzl : z.1 < rs.length := by have := of_decide_eq_true hc74; omega
      have hgetz := get_comb hzl
      have hpi := hx3.get hyl
      have hqj := hx3.get hzl
      have hkz := hz4
      have hgj := goJ_cons (p := (rs.getD y.1 default)) (k := k) (b := KP.length) (rs := rs) (new := z.2) (j := z.1) hzl
      refine jvf hσ rfl rfl rfl rfl rfl ?_
      refine AOps.step (Val.loadRow hσ (ex := (rs.getD z.1 default).comb) rfl rfl rfl rfl hgetz rfl) rfl rfl rfl ?_
      refine jf16 76 74 43 44 45 7 8 13 14 65 66 67 18 71 72 73 rfl rfl rfl rfl rfl rfl rfl rfl rfl rfl rfl rfl rfl rfl rfl rfl ?_
      refine AOps.heap (HS.alloc hσ rfl rfl rfl rfl rfl) rfl ?_
      refine jnm ?_
      refine AOps.heap (HS.storeBox hσ rfl rfl rfl rfl rfl rfl rfl rfl rfl rfl rfl) rfl ?_
      refine jnm ?_
      refine jn ?_
      refine AWP.seq ?_
      refine jsr ?_
      iterate 3 refine jst hσ rfl rfl rfl rfl rfl ?_
      refine AOps.forget [(79, _), (78, _), (20, _), (76, _), (74, _), (43, _), (44, _), (45, _), (7, _), (8, _), (13, _), (14, _), (65, _), (66, _), (67, _), (18, _), (71, _), (72, _), (73, _)] ⟨rfl, rfl, rfl, rfl, rfl, rfl, rfl, rfl, rfl, rfl, rfl, rfl, rfl, rfl, rfl, rfl, rfl, rfl, rfl, trivial⟩ ?_
      refine AOps.lone hσ rfl rfl rfl rfl (((c1066 (t := (rs.getD y.1 default).tm) (k := k) h1 h2).plain (u := eI ((rs.getD y.1 default).xs.getD k default)) (congrArg eI (trim_getD (rs.getD y.1 default).xs k)))) (VAs.self rfl) rfl rfl rfl rfl rfl (B0 := 81000) rfl ?_
      iterate 2 refine jst hσ rfl rfl rfl rfl rfl ?_
      refine AOps.forget [(82, _), (20, _), (76, _), (74, _), (43, _), (44, _), (45, _), (7, _), (8, _), (13, _), (14, _), (65, _), (66, _), (67, _), (18, _), (71, _), (72, _), (73, _)] ⟨rfl, rfl, rfl, rfl, rfl, rfl, rfl, rfl, rfl, rfl, rfl, rfl, rfl, rfl, rfl, rfl, rfl, rfl, trivial⟩ ?_
      refine AOps.gr 5 rfl rfl rfl (fun hx => AN.step hx rfl rfl rfl (Val.of hσ rfl rfl) rfl rfl ( AN.step hx rfl rfl rfl (Val.of hσ rfl rfl) rfl rfl ( AN.step hx rfl rfl rfl (Val.of hσ rfl rfl) rfl rfl ( AN.lone hσ hx rfl rfl rfl rfl (((c1066 (t := (rs.getD z.1 default).tm) (k := k) h1 h2).plain (u := eI ((rs.getD z.1 default).xs.getD k default)) (congrArg eI (trim_getD (rs.getD z.1 default).xs k)))) (VAs.self rfl) rfl rfl rfl rfl rfl rfl rfl (B0 := 87000) rfl ( AN.step hx rfl rfl rfl (Val.of hσ rfl rfl) rfl rfl ( AN.nil)))))) rfl rfl ?_
      first | refine AOps.step (Val.pickF hσ rfl rfl rfl rfl rfl) rfl rfl rfl ?_ | refine AOps.step (Val.pickB hσ rfl rfl rfl rfl rfl) rfl rfl rfl ?_ | refine AOps.step (Val.pickT hσ rfl rfl rfl rfl rfl) rfl rfl rfl ?_
      refine AOps.forget [(88, _), (20, _), (76, _), (74, _), (43, _), (44, _), (45, _), (7, _), (8, _), (13, _), (14, _), (65, _), (66, _), (67, _), (18, _), (71, _), (72, _), (73, _)] ⟨rfl, rfl, rfl, rfl, rfl, rfl, rfl, rfl, rfl, rfl, rfl, rfl, rfl, rfl, rfl, rfl, rfl, rfl, trivial⟩ ?_
      refine jn ?_
      refine AWP.cond hσ rfl rfl (fun hc88 => ?_) (fun hc88 => ?_)
      ·
       skip
       refine AWP.exit ?_
       refine AWP.region ?_
       first | refine jfi hσ rfl rfl rfl rfl rfl ?_ | refine jvf hσ rfl rfl rfl rfl rfl ?_
       refine jst hσ rfl rfl rfl rfl rfl ?_
       refine jn ?_
       rw [if_pos (bitT hc88)] at hgj
       refine ⟨(z.1 + 1, z.2), ((Ent.sel [18, 900, 901, 902] (e' := [(43, _), (44, _), (45, _), (7, _), (8, _), (13, _), (14, _), (65, _), (66, _), (67, _), (18, _), (71, _), (72, _), (73, _)]) rfl rfl ⟨rfl, rfl, rfl, rfl, rfl, rfl, rfl, rfl, rfl, rfl, rfl, rfl, rfl, rfl, trivial⟩ rfl)).trans (Ent.to ⟨rfl, rfl, rfl, rfl, rfl, rfl, rfl, rfl, rfl, rfl, rfl, rfl, rfl, rfl, trivial⟩ rfl), ⟨by show z.1 + 1 ≤ _; omega, hgj.symm.trans hz2, hz3, hz4⟩, by show rs.length - (z.1 + 1) < rs.length - z.1; omega⟩
      ·
       skip
       refine AWP.skip ?_
       refine jsr ?_
       have hcc := bitF hc88
       rw [if_neg hcc] at hgj
       have hpk : 0 < (rs.getD y.1 default).xs.getD k default := by omega
       have hqk : (rs.getD z.1 default).xs.getD k default < 0 := by omega
       iterate 3 refine jst hσ rfl rfl rfl rfl rfl ?_
       refine AOps.plainD hσ rfl rfl rfl rfl (c1067 (n := ts.length) (p := (rs.getD y.1 default)) (q := (rs.getD z.1 default)) (k := k) h1 h2 hpi hqj hxl hpk hqk (by omega)) (VAs.self rfl) rfl rfl rfl rfl (B0 := 94000) rfl rfl ?_
       iterate 3 refine jst hσ rfl rfl rfl rfl rfl ?_
       refine AOps.forget [(95, _), (94, _), (88, _), (20, _), (76, _), (74, _), (43, _), (44, _), (45, _), (7, _), (8, _), (13, _), (14, _), (65, _), (66, _), (67, _), (18, _), (71, _), (72, _), (73, _)] ⟨rfl, rfl, rfl, rfl, rfl, rfl, rfl, rfl, rfl, rfl, rfl, rfl, rfl, rfl, rfl, rfl, rfl, rfl, rfl, rfl, trivial⟩ ?_
       refine AOps.heap (HS.alloc hσ rfl rfl rfl rfl rfl) rfl ?_
       refine jnm ?_
       refine AOps.heap (HS.storeBox hσ rfl rfl rfl rfl rfl rfl rfl rfl rfl rfl rfl) rfl ?_
       refine jnm ?_
       refine jst hσ rfl rfl rfl rfl rfl ?_
       refine AOps.forget [(22, _), (21, _), (88, _), (20, _), (76, _), (74, _), (43, _), (44, _), (45, _), (7, _), (8, _), (13, _), (14, _), (65, _), (66, _), (67, _), (18, _), (71, _), (72, _), (73, _)] ⟨rfl, rfl, rfl, rfl, rfl, rfl, rfl, rfl, rfl, rfl, rfl, rfl, rfl, rfl, rfl, rfl, rfl, rfl, rfl, rfl, trivial⟩ ?_
       refine jn ?_
       refine AWP.seq ?_
       refine jsr ?_
       iterate 3 refine jst hσ rfl rfl rfl rfl rfl ?_
       refine AOps.forget [(98, _), (21, _), (88, _), (20, _), (76, _), (74, _), (43, _), (44, _), (45, _), (7, _), (8, _), (13, _), (14, _), (65, _), (66, _), (67, _), (18, _), (71, _), (72, _), (73, _)] ⟨rfl, rfl, rfl, rfl, rfl, rfl, rfl, rfl, rfl, rfl, rfl, rfl, rfl, rfl, rfl, rfl, rfl, rfl, rfl, rfl, trivial⟩ ?_
       refine AOps.gr 3 rfl rfl rfl (fun hx => AN.step hx rfl rfl rfl (Val.of hσ rfl rfl) rfl rfl ( AN.step hx rfl rfl rfl (Val.vif hσ rfl rfl (by first | omega | (simp at *; omega))) rfl rfl ( AN.step hx rfl rfl rfl (Val.of hσ rfl rfl) rfl rfl ( AN.nil)))) rfl rfl ?_
       first | refine AOps.step (Val.pickF hσ rfl rfl rfl rfl rfl) rfl rfl rfl ?_ | refine AOps.step (Val.pickB hσ rfl rfl rfl rfl rfl) rfl rfl rfl ?_ | refine AOps.step (Val.pickT hσ rfl rfl rfl rfl rfl) rfl rfl rfl ?_
       refine AOps.forget [(102, _), (21, _), (88, _), (20, _), (76, _), (74, _), (43, _), (44, _), (45, _), (7, _), (8, _), (13, _), (14, _), (65, _), (66, _), (67, _), (18, _), (71, _), (72, _), (73, _)] ⟨rfl, rfl, rfl, rfl, rfl, rfl, rfl, rfl, rfl, rfl, rfl, rfl, rfl, rfl, rfl, rfl, rfl, rfl, rfl, rfl, trivial⟩ ?_
       refine jn ?_
       refine AWP.cond hσ rfl rfl (fun hc102 => ?_) (fun hc102 => ?_)
       ·
        skip
        refine jsr ?_
        iterate 3 refine jst hσ rfl rfl rfl rfl rfl ?_
        refine jn ?_
        refine AWP.ret ?_
        refine ⟨.inl rfl, _, Ent.refl, _, rfl, ?_⟩
        have hno9 := fullT hc102
        have hno : ¬ (okR (mixR (rs.getD y.1 default) (rs.getD z.1 default) k) = true ∧ KP.length + z.2.length ≠ 60) := fun h => hno9 ⟨h.1, by rw [List.length_append]; exact h.2⟩
        rw [if_neg hno] at hgj
        have hgi := goI_cons (k := k) (b := KP.length) (rs := rs) (new := y.2) (i := y.1) hyl
        rw [← hz2, hgj] at hgi
        have hs : stageR k rs = none := by show goI k (keepR k rs).length rs rs [] = none; rw [← eK, ← hy2]; exact hgi
        have he : everyR ts = none := by rw [← hx2, show 10 - k = (10 - (k + 1)) + 1 by omega, elimK_none hs]
        rw [evP_none he]
        exact .tup (.cons (.c .nils) (.cons (.c .nils) (.cons (.c .d) .nil)))
       ·
        skip
        refine AWP.skip ?_
        refine jsr ?_
        have hyes9 := fullF hc102
        have hyes : okR (mixR (rs.getD y.1 default) (rs.getD z.1 default) k) = true ∧ KP.length + z.2.length ≠ 60 := ⟨hyes9.1, by have := hyes9.2; rwa [List.length_append] at this⟩
        have hk59 : KP.length + z.2.length ≤ 60 := by rw [← List.length_append]; exact hkz
        iterate 2 refine jst hσ rfl rfl rfl rfl rfl ?_
        refine AOps.heap (HS.litD hσ rfl rfl rfl rfl rfl rfl rfl rfl rfl rfl rfl) rfl ?_
        refine jnm ?_
        refine AOps.forget [(105, _), (103, _), (102, _), (21, _), (88, _), (20, _), (76, _), (74, _), (43, _), (44, _), (45, _), (7, _), (8, _), (13, _), (14, _), (65, _), (66, _), (67, _), (18, _), (71, _), (72, _), (73, _)] ⟨rfl, rfl, rfl, rfl, rfl, rfl, rfl, rfl, rfl, rfl, rfl, rfl, rfl, rfl, rfl, rfl, rfl, rfl, rfl, rfl, rfl, rfl, trivial⟩ ?_
        refine AOps.heap (HS.appCopy (own := false) (xs := (KP ++ z.2).map Rw.comb) (ys := [Rw.comb (mixR (rs.getD y.1 default) (rs.getD z.1 default) k)]) (zs := (KP ++ (z.2 ++ [mixR (rs.getD y.1 default) (rs.getD z.1 default) k])).map Rw.comb) (n := (KP ++ (z.2 ++ [mixR (rs.getD y.1 default) (rs.getD z.1 default) k])).length) hσ rfl rfl rfl rfl rfl rfl rfl rfl rfl rfl rfl rfl rfl rfl rfl rfl (.row rfl (List.length_map _).symm) (.whole rfl rfl (.inr ⟨rfl, rfl⟩)) (by simp) rfl (by simp only [List.length_map, List.length_append, List.length_singleton, List.length_cons, List.length_nil]; omega) (by simp only [List.length_map, List.length_append, List.length_singleton, List.length_cons, List.length_nil]; omega) (by rw [← List.append_assoc, List.map_append (l₁ := KP ++ z.2)]; rfl) (List.length_map _)) rfl ?_
        refine jnm ?_
        refine jnm ?_
        refine jst hσ rfl rfl rfl rfl rfl ?_
        refine AOps.forget [(14, _), (102, _), (21, _), (88, _), (20, _), (76, _), (74, _), (43, _), (44, _), (45, _), (7, _), (8, _), (13, _), (65, _), (66, _), (67, _), (18, _), (71, _), (72, _), (73, _)] ⟨rfl, rfl, rfl, rfl, rfl, rfl, rfl, rfl, rfl, rfl, rfl, rfl, rfl, rfl, rfl, rfl, rfl, rfl, rfl, rfl, trivial⟩ ?_
        refine jn ?_
        refine AWP.region ?_
        iterate 2 refine jst hσ rfl rfl rfl rfl rfl ?_
        refine AOps.heap (HS.litD hσ rfl rfl rfl rfl rfl rfl rfl rfl rfl rfl rfl) rfl ?_
        refine jnm ?_
        refine AOps.forget [(109, _), (107, _), (14, _), (102, _), (21, _), (88, _), (20, _), (76, _), (74, _), (43, _), (44, _), (45, _), (7, _), (8, _), (13, _), (65, _), (66, _), (67, _), (18, _), (71, _), (72, _), (73, _)] ⟨rfl, rfl, rfl, rfl, rfl, rfl, rfl, rfl, rfl, rfl, rfl, rfl, rfl, rfl, rfl, rfl, rfl, rfl, rfl, rfl, rfl, rfl, trivial⟩ ?_
        refine AOps.heap (HS.appCopy (own := false) (xs := (NW ++ z.2).map Rw.comb) (ys := [Rw.comb (mixR (rs.getD y.1 default) (rs.getD z.1 default) k)]) (zs := (NW ++ (z.2 ++ [mixR (rs.getD y.1 default) (rs.getD z.1 default) k])).map Rw.comb) (n := (NW ++ (z.2 ++ [mixR (rs.getD y.1 default) (rs.getD z.1 default) k])).length) hσ rfl rfl rfl rfl rfl rfl rfl rfl rfl rfl rfl rfl rfl rfl rfl rfl (.row rfl (List.length_map _).symm) (.whole rfl rfl (.inr ⟨rfl, rfl⟩)) (by simp) rfl (by simp only [List.length_map, List.length_append, List.length_singleton, List.length_cons, List.length_nil]; omega) (by simp only [List.length_map, List.length_append, List.length_singleton, List.length_cons, List.length_nil]; omega) (by rw [← List.append_assoc, List.map_append (l₁ := NW ++ z.2)]; rfl) (List.length_map _)) rfl ?_
        refine jnm ?_
        refine jnm ?_
        refine jst hσ rfl rfl rfl rfl rfl ?_
        refine AOps.forget [(8, _), (14, _), (102, _), (21, _), (88, _), (20, _), (76, _), (74, _), (43, _), (44, _), (45, _), (7, _), (13, _), (65, _), (66, _), (67, _), (18, _), (71, _), (72, _), (73, _)] ⟨rfl, rfl, rfl, rfl, rfl, rfl, rfl, rfl, rfl, rfl, rfl, rfl, rfl, rfl, rfl, rfl, rfl, rfl, rfl, rfl, trivial⟩ ?_
        refine jn ?_
        refine AWP.region ?_
        first | refine jfi hσ rfl rfl rfl rfl rfl ?_ | refine jvf hσ rfl rfl rfl rfl rfl ?_
        refine jst hσ rfl rfl rfl rfl rfl ?_
        refine jn ?_
        rw [if_pos hyes] at hgj
        refine ⟨(z.1 + 1, z.2 ++ [mixR (rs.getD y.1 default) (rs.getD z.1 default) k]), ((((Ent.sel [18, 900, 110, 106] (e' := [(43, _), (44, _), (45, _), (7, _), (8, _), (13, _), (14, _), (65, _), (66, _), (67, _), (18, _), (71, _), (72, _), (73, _)]) rfl rfl ⟨rfl, rfl, rfl, rfl, rfl, rfl, rfl, rfl, rfl, rfl, rfl, rfl, rfl, rfl, trivial⟩ rfl).trans (Ent.sub2 110 901 rfl rfl)).trans (Ent.sub2 106 902 rfl rfl))).trans (Ent.to ⟨rfl, rfl, rfl, rfl, rfl, rfl, rfl, rfl, rfl, rfl, rfl, rfl, rfl, rfl, trivial⟩ rfl), ⟨by show z.1 + 1 ≤ _; omega, hgj.symm.trans hz2, hz3.snoc (mix_ok hpi hqj hpk hqk hyes.1), by rw [List.length_append] at hkz ⊢; rw [List.length_append, List.length_singleton]; omega⟩, by show rs.length - (z.1 + 1) < rs.length - z.1; omega⟩
     ·
      skip
      refine AWP.exit ?_
      refine AWP.region ?_
      first | refine jfi hσ rfl rfl rfl rfl rfl ?_ | refine jvf hσ rfl rfl rfl rfl rfl ?_
      refine jst hσ rfl rfl rfl rfl rfl ?_
      refine jn ?_
      obtain ⟨hz1, hz2, hz3, hz4⟩ := hi
      have hze : rs.length ≤ z.1 := by have := of_decide_eq_false hc74; omega
      rw [goJ_end hze] at hz2
      have hgi := goI_cons (k := k) (b := KP.length) (rs := rs) (new := y.2) (i := y.1) hyl
      rw [← hz2] at hgi
      refine ⟨(y.1 + 1, z.2), ((Ent.sel [900, 901, 902] (e' := [(43, _), (44, _), (45, _), (7, _), (8, _), (13, _), (14, _), (65, _), (66, _), (67, _)]) rfl rfl ⟨rfl, rfl, rfl, rfl, rfl, rfl, rfl, rfl, rfl, rfl, trivial⟩ rfl)).trans (Ent.to ⟨rfl, rfl, rfl, rfl, rfl, rfl, rfl, rfl, rfl, rfl, trivial⟩ rfl), ⟨by show y.1 + 1 ≤ _; omega, hgi.symm.trans hy2, hz3, hz4⟩, by show rs.length - (y.1 + 1) < rs.length - y.1; omega⟩
    ·
     skip
     refine AWP.exit ?_
     refine AWP.seq ?_
     refine jsr ?_
     have hk60 := hi.2.2.2
     refine jst hσ rfl rfl rfl rfl rfl ?_
     first | refine jle hσ rfl rfl rfl rfl rfl rfl rfl rfl rfl rfl rfl ?_ | refine jst hσ rfl rfl rfl rfl rfl ?_ | refine jvf hσ rfl rfl rfl rfl rfl ?_
     refine jst hσ rfl rfl rfl rfl rfl ?_
     refine jf12 115 68 43 44 45 7 8 13 14 65 66 67 rfl rfl rfl rfl rfl rfl rfl rfl rfl rfl rfl rfl ?_
     refine jn ?_
     refine AWP.cond hσ rfl rfl (fun hc115 => ?_) (fun hc115 => ?_)
     ·
      skip
      exact absurd (of_decide_eq_true hc115) (by omega)
     ·
      skip
      refine AWP.skip ?_
      refine AWP.region ?_
      iterate 2 refine jst hσ rfl rfl rfl rfl rfl ?_
      refine jn ?_
      refine AWP.region ?_
      first | refine jfi hσ rfl rfl rfl rfl rfl ?_ | refine jvf hσ rfl rfl rfl rfl rfl ?_
      refine jst hσ rfl rfl rfl rfl rfl ?_
      refine jn ?_
      obtain ⟨hy1, hy2, hy3, hy4⟩ := hi
      have hye : rs.length ≤ y.1 := by have := of_decide_eq_false hc68; omega
      rw [goI_end hye] at hy2
      have hs : stageR k rs = some y.2 := by show goI k (keepR k rs).length rs rs [] = _; rw [← eK]; exact hy2.symm
      have hso := stageR_ok hx3 hx4 hs
      subst eK
      refine ⟨(k + 1, keepR k rs ++ y.2, NW ++ y.2), ((((Ent.sel [902, 901] (e' := [(43, _), (44, _), (45, _), (7, _), (8, _)]) rfl rfl ⟨rfl, rfl, rfl, rfl, rfl, trivial⟩ rfl).trans (Ent.sub2 902 900 rfl rfl))).trans (Ent.to ⟨rfl, rfl, rfl, rfl, rfl, trivial⟩ rfl)), ⟨by show k + 1 ≤ 10; omega, ?_, hso.1, hso.2.1, hx5.app hso.2.2.1, ?_⟩, ?_⟩
      ·
       show elimK (10 - (k + 1)) (k + 1) _ _ = _
       rw [← hx2, show 10 - k = (10 - (k + 1)) + 1 by omega, elimK_succ hs]
      ·
       show (NW ++ y.2).length ≤ 60 * (k + 1)
       have := hso.2.2.2; rw [List.length_append]; omega
      ·
       show 10 - (k + 1) < 10 - k; omega
  ·
   skip
   refine AWP.exit ?_
   refine jsr ?_
   iterate 5 refine jst hσ rfl rfl rfl rfl rfl ?_
   refine jf9 6 5 4 46 43 44 45 7 8 rfl rfl rfl rfl rfl rfl rfl rfl rfl ?_
   refine jn ?_
   refine AWP.ret ?_
   refine ⟨.inl rfl, _, Ent.refl, _, rfl, ?_⟩
   obtain ⟨hx1, hx2, hx3, hx4, hx5, hx6⟩ := hi
   have hxe : x.1 = 10 := by have := of_decide_eq_false hc46; simp only [syms_length] at this; omega
   rw [hxe] at hx2
   have he : everyR ts = some x.2 := hx2.symm
   rw [evP_some he]
   exact .tup (.cons (.c (.whole rfl (List.length_map _).symm)) (.cons (.c (.whole rfl (List.length_map _).symm)) (.cons (.c .d) .nil)))
end Go.Al
