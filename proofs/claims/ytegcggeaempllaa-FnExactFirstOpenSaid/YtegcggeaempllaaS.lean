/- The laws, walked. -/
import Derived.Test.YtegcggeaempllaaR
namespace Go.Al
open Go.Proofs
set_option linter.unusedVariables false
set_option linter.unusedSimpArgs false
set_option maxRecDepth 10000
set_option maxHeartbeats 4000000
theorem c1003 {L : Nat} (h1 : 4096 ≤ L) (h2 : L ≤ 1073741824) {ss : List Sq} {b : Int} (hz1 : 0 ≤ szr 1048576 (Al.szs Sq.size ss)) : MC Try.prog L 3 [asqs ss, eI b] [] (Plain (eB true)) := by
 refine MC.alone ?_ rfl
 have hσ := SGok (nt := 44) h1 (Nat.le_trans h2 (by decide))
 refine MC.body hσ Try.func3 (by kernel_rfl) rfl rfl (Nat.le_of_ble_eq_true rfl) (fun hF => ?_)
 have hbig : L ≤ 9223372036854775807 := Nat.le_trans h2 (by decide)
 refine jsr ?_
 refine jst hσ rfl rfl rfl rfl rfl ?_
 refine jns ?_
 refine jst hσ rfl rfl rfl rfl rfl ?_
 refine jns ?_
 iterate 2 refine jst hσ rfl rfl rfl rfl rfl ?_
 refine AOps.lone hσ rfl rfl rfl rfl (c42 (ts := ss) (left := 1048576) h1 hbig (by decide) (by decide)) (VAs.self rfl) rfl rfl rfl rfl rfl (B0 := 14000) rfl ?_
 refine jst hσ rfl rfl rfl rfl rfl ?_
 refine jf4 5 4 0 1 rfl rfl rfl rfl ?_
 refine jn ?_
 refine AWP.seq ?_
 refine jsr ?_
 iterate 2 refine jst hσ rfl rfl rfl rfl rfl ?_
 refine jn ?_
 refine AWP.cond hσ rfl rfl (fun hc15 => ?_) (fun hc15 => ?_)
 ·
  skip
  exact absurd (of_decide_eq_true hc15) (by omega)
 ·
  skip
  refine AWP.skip ?_
  refine jsr ?_
  refine jst hσ rfl rfl rfl rfl rfl ?_
  refine jf6 17 14 5 4 0 1 rfl rfl rfl rfl rfl rfl ?_
  refine AOps.plainD hσ rfl rfl rfl rfl (c45d (ss := ss) h1 h2) (VAs.self rfl) rfl rfl rfl rfl (B0 := 19000) rfl rfl ?_
  refine jst hσ rfl rfl rfl rfl rfl ?_
  refine jf7 19 18 14 5 4 0 1 rfl rfl rfl rfl rfl rfl rfl ?_
  refine AOps.plainD hσ rfl rfl rfl rfl (c1014 (ss := ss) (b := b) h1 h2) (VAs.self rfl) rfl rfl rfl rfl (B0 := 21000) rfl rfl ?_
  iterate 5 refine jst hσ rfl rfl rfl rfl rfl ?_
  refine jf7 7 6 14 5 4 0 1 rfl rfl rfl rfl rfl rfl rfl ?_
  refine jns ?_
  refine jst hσ rfl rfl rfl rfl rfl ?_
  refine AOps.plainD hσ rfl rfl rfl rfl (c45d (ss := ss) h1 h2) (VAs.self rfl) rfl rfl rfl rfl (B0 := 25000) rfl rfl ?_
  refine jst hσ rfl rfl rfl rfl rfl ?_
  refine jf8 8 7 6 14 5 4 0 1 rfl rfl rfl rfl rfl rfl rfl rfl ?_
  refine jns ?_
  iterate 2 refine jst hσ rfl rfl rfl rfl rfl ?_
  refine AOps.plainD hσ rfl rfl rfl rfl (c1015 (ss := ss) (b := b) h1 h2) (VAs.self rfl) rfl rfl rfl rfl (B0 := 29000) rfl rfl ?_
  iterate 5 refine jst hσ rfl rfl rfl rfl rfl ?_
  refine jf10 10 9 8 7 6 14 5 4 0 1 rfl rfl rfl rfl rfl rfl rfl rfl rfl rfl ?_
  refine jn ?_
  refine AWP.seq ?_
  refine jsr ?_
  iterate 4 refine jst hσ rfl rfl rfl rfl rfl ?_
  refine jf9 34 10 8 7 14 5 4 0 1 rfl rfl rfl rfl rfl rfl rfl rfl rfl ?_
  refine AOps.gr 3 rfl rfl rfl (fun hx => AN.step hx rfl rfl rfl (Val.of hσ rfl rfl) rfl rfl ( AN.step hx rfl rfl rfl (Val.of hσ rfl rfl) rfl rfl ( AN.step hx rfl rfl rfl (Val.of hσ rfl rfl) rfl rfl ( AN.nil)))) rfl rfl ?_
  first | refine AOps.step (Val.pickF hσ rfl rfl rfl rfl rfl) rfl rfl rfl ?_ | refine AOps.step (Val.pickB hσ rfl rfl rfl rfl rfl) rfl rfl rfl ?_ | refine AOps.step (Val.pickT hσ rfl rfl rfl rfl rfl) rfl rfl rfl ?_
  refine jf7 38 8 14 5 4 0 1 rfl rfl rfl rfl rfl rfl rfl ?_
  refine jn ?_
  refine AWP.cond hσ rfl rfl (fun hc38 => ?_) (fun hc38 => ?_)
  ·
   skip
   exact absurd hc38 (by simp)
  ·
   skip
   refine AWP.skip ?_
   refine AWP.seq ?_
   refine jsr ?_
   iterate 2 refine jst hσ rfl rfl rfl rfl rfl ?_
   refine jf8 40 39 8 14 5 4 0 1 rfl rfl rfl rfl rfl rfl rfl rfl ?_
   refine AOps.plainD hσ rfl rfl rfl rfl (c45d (ss := ss) h1 h2) (VAs.self rfl) rfl rfl rfl rfl (B0 := 42000) rfl rfl ?_
   refine jf8 41 39 8 14 5 4 0 1 rfl rfl rfl rfl rfl rfl rfl rfl ?_
   refine AOps.lone hσ rfl rfl rfl rfl ((c48 (xs := ss) (ys := ss) h1 h2).plain (u := eB true) (by simp)) (VAs.self rfl) rfl rfl rfl rfl rfl (B0 := 43000) rfl ?_
   refine jst hσ rfl rfl rfl rfl rfl ?_
   refine jf7 43 8 14 5 4 0 1 rfl rfl rfl rfl rfl rfl rfl ?_
   refine jn ?_
   refine AWP.cond hσ rfl rfl (fun hc43 => ?_) (fun hc43 => ?_)
   ·
    skip
    exact absurd (show false = true from hc43) (by decide)
   ·
    skip
    refine AWP.skip ?_
    refine jsr ?_
    refine jst hσ rfl rfl rfl rfl rfl ?_
    refine jn ?_
    refine AWP.ret ?_
    refine ⟨.inl rfl, _, Ent.refl, _, rfl, ?_⟩
    rfl
theorem c1003a {L : Nat} (h1 : 4096 ≤ L) (h2 : L ≤ 9223372036854775807) {ss : List Sq} {b : Int} (hz : szr 1048576 (Al.szs Sq.size ss) < 0) : MC Try.prog L 3 [asqs ss, eI b] [] (Plain (eB true)) := by
 refine MC.alone ?_ rfl
 have hσ := SGok (nt := 44) h1 h2
 refine MC.body hσ Try.func3 (by kernel_rfl) rfl rfl (Nat.le_of_ble_eq_true rfl) (fun hF => ?_)
 refine jsr ?_
 refine jst hσ rfl rfl rfl rfl rfl ?_
 refine jns ?_
 refine jst hσ rfl rfl rfl rfl rfl ?_
 refine jns ?_
 iterate 2 refine jst hσ rfl rfl rfl rfl rfl ?_
 refine AOps.lone hσ rfl rfl rfl rfl (c42 (ts := ss) (left := 1048576) h1 h2 (by decide) (by decide)) (VAs.self rfl) rfl rfl rfl rfl rfl (B0 := 14000) rfl ?_
 refine jst hσ rfl rfl rfl rfl rfl ?_
 refine jf4 5 4 0 1 rfl rfl rfl rfl ?_
 refine jn ?_
 refine AWP.seq ?_
 refine jsr ?_
 iterate 2 refine jst hσ rfl rfl rfl rfl rfl ?_
 refine jn ?_
 refine AWP.cond hσ rfl rfl (fun hc15 => ?_) (fun hc15 => ?_)
 ·
  skip
  refine jsr ?_
  refine jst hσ rfl rfl rfl rfl rfl ?_
  refine jn ?_
  refine AWP.ret ?_
  refine ⟨.inl rfl, _, Ent.refl, _, rfl, ?_⟩
  rfl
 ·
  skip
  exact absurd (of_decide_eq_false hc15) (fun h => h hz)
end Go.Al
namespace Go.Al
open Go.Proofs
set_option linter.unusedVariables false
set_option linter.unusedSimpArgs false
theorem fact_sqs' {L S : Nat} {ss : List Sq} (h : D.fact L (sqs ss)) (hl : szs Sq.size ss ≤ S) : D.fact S (sqs ss) := by
  unfold szs at hl
  simp only [D.fact, List.length_map, Dss.fact_map] at h ⊢
  refine ⟨by omega, fun s hs => ?_⟩
  have h1 := h.2 s hs
  have h2 := sum_mem Sq.size hs
  exact fact_sq h1 (by omega)
/-- The law of FirstOpen holds for all arguments. -/
theorem law1003 {L : Nat} (h1 : 4096 ≤ L) (h2 : L ≤ 9223372036854775807) {ss : List Sq} {b : Int} : MC Try.prog L 3 [asqs ss, eI b] [] (Plain (eB true)) := by
  by_cases hz1 : szr 1048576 (szs Sq.size ss) < 0
  · exact c1003a h1 h2 hz1
  have hz1' : 0 ≤ szr 1048576 (szs Sq.size ss) := by omega
  have g1 := szr_nonneg hz1' (by decide)
  refine MC.facts ⟨_, _, Try.func3, by kernel_rfl, rfl⟩ fun hF => ?_
  refine MC.lift (L0 := 1073741824) rfl ?_ ?_
  · exact ⟨fact_sqs' hF.1 (by omega), hF.2.1, trivial⟩
  · exact c1003 (by decide) (Nat.le_refl _) hz1'
end Go.Al
