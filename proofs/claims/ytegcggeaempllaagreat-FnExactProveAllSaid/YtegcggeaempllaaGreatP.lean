/- The reference's prover. -/
import Derived.Test.YtegcggeaempllaaGreatM
namespace Go.Al
open Go.Proofs
set_option linter.unusedVariables false
set_option linter.unusedSimpArgs false
set_option maxRecDepth 10000
set_option maxHeartbeats 4000000
def stP (k : Nat) (rs : List Rw) : List Rw × Nat × Bool := match stageR k rs with
  | none => ([], 0, false)
  | some new => (keepR k rs ++ new, (keepR k rs).length, true)
theorem stP_none {k : Nat} {rs : List Rw} (h : stageR k rs = none) : stP k rs = ([], 0, false) := by unfold stP; rw [h]
theorem stP_some {k : Nat} {rs new : List Rw} (h : stageR k rs = some new) : stP k rs = (keepR k rs ++ new, (keepR k rs).length, true) := by unfold stP; rw [h]
theorem stP_T {k : Nat} {rs : List Rw} (h : (stP k rs).2.2 = true) : ∃ new, stageR k rs = some new := by
  cases hs : stageR k rs with
  | none => rw [stP_none hs] at h; cases h
  | some new => exact ⟨new, rfl⟩
theorem stP_F {k : Nat} {rs : List Rw} (h : (stP k rs).2.2 = false) : stageR k rs = none := by
  cases hs : stageR k rs with
  | none => rfl
  | some new => rw [stP_some hs] at h; cases h
def evP (ts : List Tm) : List Rw × List Rw × Bool := match everyR ts with
  | none => ([], [], false)
  | some z => (z.1, z.2, true)
theorem evP_none {ts : List Tm} (h : everyR ts = none) : evP ts = ([], [], false) := by unfold evP; rw [h]
theorem evP_some {ts : List Tm} {z : List Rw × List Rw} (h : everyR ts = some z) : evP ts = (z.1, z.2, true) := by unfold evP; rw [h]
theorem evP_T {ts : List Tm} (h : (evP ts).2.2 = true) : ∃ z, everyR ts = some z := by
  cases hs : everyR ts with
  | none => rw [evP_none hs] at h; cases h
  | some z => exact ⟨z, rfl⟩
theorem evP_F {ts : List Tm} (h : (evP ts).2.2 = false) : everyR ts = none := by
  cases hs : everyR ts with
  | none => rfl
  | some z => rw [evP_some hs] at h; cases h
abbrev resSt (z : List Rw × Nat × Bool) : A := .tup [arws z.1, eI z.2.1, eB z.2.2]
abbrev resEv (z : List Rw × List Rw × Bool) : A := .tup [arws z.1, arws z.2.1, eB z.2.2]
theorem bitT {a b : Int} (h : (bif decide (a ≤ 0) then true else decide (0 ≤ b)) = true) : a ≤ 0 ∨ 0 ≤ b := by
  by_cases h1 : a ≤ 0
  · exact .inl h1
  · right; simpa [h1] using h
theorem bitF {a b : Int} (h : (bif decide (a ≤ 0) then true else decide (0 ≤ b)) = false) : ¬ (a ≤ 0 ∨ 0 ≤ b) := by
  by_cases h1 : a ≤ 0
  · simp [h1] at h
  · rintro (h2 | h2)
    · exact h1 h2
    · simp [h1, h2] at h
theorem fullT {o : Bool} {n : Nat} (h : (bif !o then true else decide ((n : Int) = 60)) = true) : ¬ (o = true ∧ n ≠ 60) := by
  rintro ⟨h1, h2⟩
  simp [h1] at h; omega
theorem fullF {o : Bool} {n : Nat} (h : (bif !o then true else decide ((n : Int) = 60)) = false) : o = true ∧ n ≠ 60 := by
  cases o with
  | false => simp at h
  | true => simp at h; exact ⟨rfl, by omega⟩
theorem c1064 {L : Nat} (h1 : 4096 ≤ L) (h2 : L ≤ 1073741824) {n : Nat} {rs : List Rw} {k : Nat} (hr : AllR n rs) (hl60 : rs.length ≤ 60) (hk : k < 10) (hn : n ≤ 1000) : MC Tryz.prog L 91 [arws rs, eI k] [] (Plain (resSt (stP k rs))) := by
 refine MC.data ?_
 have hσ := SGok (nt := 95) h1 (Nat.le_trans h2 (by decide))
 refine MC.body hσ Tryz.func91 (by kernel_rfl) rfl rfl (Nat.le_of_ble_eq_true rfl) (fun hF => ?_)
 refine jsr ?_
 iterate 3 refine jst hσ rfl rfl rfl rfl rfl ?_
 refine jns ?_
 refine AOps.heap (HS.litD hσ rfl rfl rfl rfl rfl rfl rfl rfl rfl rfl rfl) rfl ?_
 refine jnm ?_
 refine jst hσ rfl rfl rfl rfl rfl ?_
 refine jn ?_
 refine AWP.seq ?_
 refine jsr ?_
 refine jst hσ rfl rfl rfl rfl rfl ?_
 refine jn ?_
 refine AWP.block ?_
 refine AWP.loopP (X := Nat) (fun i => ⟨[(0, arws rs), (1, eI k), (7, .c (.rs 900 0 (keepR k (rs.take i)).length)), (8, eI i)], [(900, rwrow (keepR k (rs.take i)))]⟩) (fun i => i ≤ rs.length) (fun i => rs.length - i) 0 ((Ent.sub2 14 900 rfl rfl).trans (Ent.to ⟨rfl, rfl, rfl, rfl, trivial⟩ rfl)) ?_ (fun i hi => ?_)
 ·
  exact Nat.zero_le _
 refine AWP.seq ?_
 refine jsr ?_
 iterate 2 refine jst hσ rfl rfl rfl rfl rfl ?_
 first | refine jle hσ rfl rfl rfl rfl rfl rfl rfl rfl rfl rfl rfl ?_ | refine jst hσ rfl rfl rfl rfl rfl ?_ | refine jvf hσ rfl rfl rfl rfl rfl ?_
 refine jst hσ rfl rfl rfl rfl rfl ?_
 refine jf5 18 0 1 7 8 rfl rfl rfl rfl rfl ?_
 refine jn ?_
 refine AWP.cond hσ rfl rfl (fun hc18 => ?_) (fun hc18 => ?_)
 ·
  skip
  refine AWP.skip ?_
  refine AWP.seq ?_
  refine AWP.block ?_
  refine jsr ?_
  have hil : i < rs.length := by have := of_decide_eq_true hc18; omega
  have hri := (hr.get hil).l
  iterate 2 refine jst hσ rfl rfl rfl rfl rfl ?_
  first | refine jin hσ rfl rfl rfl rfl rfl rfl rfl rfl rfl rfl rfl ?_ | refine jix hσ rfl rfl rfl rfl rfl rfl rfl rfl rfl rfl rfl ?_ | refine jvf hσ rfl rfl rfl rfl rfl ?_
  iterate 3 refine jst hσ rfl rfl rfl rfl rfl ?_
  first | refine jin hσ rfl rfl rfl rfl rfl rfl rfl rfl rfl rfl rfl ?_ | refine jix hσ rfl rfl rfl rfl rfl rfl rfl rfl rfl rfl rfl ?_ | refine jvf hσ rfl rfl rfl rfl rfl ?_
  iterate 2 refine jst hσ rfl rfl rfl rfl rfl ?_
  refine jf6 29 18 0 1 7 8 rfl rfl rfl rfl rfl rfl ?_
  refine jn ?_
  refine AWP.cond hσ rfl rfl (fun hc29 => ?_) (fun hc29 => ?_)
  ·
   skip
   refine AWP.region ?_
   iterate 3 refine jst hσ rfl rfl rfl rfl rfl ?_
   first | refine jin hσ rfl rfl rfl rfl rfl rfl rfl rfl rfl rfl rfl ?_ | refine jix hσ rfl rfl rfl rfl rfl rfl rfl rfl rfl rfl rfl ?_ | refine jvf hσ rfl rfl rfl rfl rfl ?_
   refine jst hσ rfl rfl rfl rfl rfl ?_
   refine jf8 34 30 29 18 0 1 7 8 rfl rfl rfl rfl rfl rfl rfl rfl ?_
   refine AOps.heap (HS.litD hσ rfl rfl rfl rfl rfl rfl rfl rfl rfl rfl rfl) rfl ?_
   refine jnm ?_
   refine jf8 35 30 29 18 0 1 7 8 rfl rfl rfl rfl rfl rfl rfl rfl ?_
   have hki := keepR_le (k := k) (rs := rs.take (i + 1))
   rw [List.length_take] at hki
   refine AOps.heap (HS.appCopy (own := false) (zs := (keepR k (rs.take (i + 1))).map Rw.cells) (n := (keepR k (rs.take (i + 1))).length) hσ rfl rfl rfl rfl rfl rfl rfl rfl rfl rfl rfl rfl rfl rfl rfl rfl (.row rfl (List.length_map _).symm) (.whole rfl rfl (.inr ⟨rfl, rfl⟩)) (by simp) rfl (by have := keepR_le (k := k) (rs := rs.take i); simp at this ⊢; omega) (by have := keepR_le (k := k) (rs := rs.take i); simp at this ⊢; omega) (by rw [keepR_T hil (of_decide_eq_true hc29), List.map_append]; rfl) (List.length_map _)) rfl ?_
   refine jnm ?_
   refine jst hσ rfl rfl rfl rfl rfl ?_
   refine jf6 7 29 18 0 1 8 rfl rfl rfl rfl rfl rfl ?_
   refine jn ?_
   refine AWP.region ?_
   refine jst hσ rfl rfl rfl rfl rfl ?_
   first | refine jfi hσ rfl rfl rfl rfl rfl ?_ | refine jvf hσ rfl rfl rfl rfl rfl ?_
   refine jst hσ rfl rfl rfl rfl rfl ?_
   refine jf6 8 7 29 18 0 1 rfl rfl rfl rfl rfl rfl ?_
   refine jn ?_
   refine ⟨i + 1, ((Ent.sel [36] (e' := [(0, _), (1, _), (7, _), (8, _)]) rfl rfl ⟨rfl, rfl, rfl, rfl, trivial⟩ rfl).trans (Ent.sub2 36 900 rfl rfl)), by omega, by omega⟩
  ·
   skip
   refine AWP.skip ?_
   refine AWP.region ?_
   refine jst hσ rfl rfl rfl rfl rfl ?_
   first | refine jfi hσ rfl rfl rfl rfl rfl ?_ | refine jvf hσ rfl rfl rfl rfl rfl ?_
   refine jst hσ rfl rfl rfl rfl rfl ?_
   refine jf6 8 29 18 0 1 7 rfl rfl rfl rfl rfl rfl ?_
   refine jn ?_
   have hkf := keepR_F (k := k) (i := i) (rs := rs) (by omega) (of_decide_eq_false hc29)
   rw [← hkf]
   refine ⟨i + 1, Ent.to ⟨rfl, rfl, rfl, rfl, trivial⟩ rfl, by omega, by omega⟩
 ·
  skip
  refine AWP.exit ?_
  refine jsr ?_
  have hie : i = rs.length := by have := of_decide_eq_false hc18; omega
  subst hie
  rw [List.take_length]
  have hkl := keepR_le (k := k) (rs := rs)
  obtain ⟨KP, eK⟩ : ∃ KP, KP = keepR k rs := ⟨_, rfl⟩
  rw [← eK]
  rw [← eK] at hkl
  refine jst hσ rfl rfl rfl rfl rfl ?_
  first | refine jle hσ rfl rfl rfl rfl rfl rfl rfl rfl rfl rfl rfl ?_ | refine jst hσ rfl rfl rfl rfl rfl ?_ | refine jvf hσ rfl rfl rfl rfl rfl ?_
  refine jst hσ rfl rfl rfl rfl rfl ?_
  refine jf6 9 18 0 1 7 8 rfl rfl rfl rfl rfl rfl ?_
  refine jn ?_
  refine AWP.seq ?_
  refine jsr ?_
  refine jst hσ rfl rfl rfl rfl rfl ?_
  refine jn ?_
  refine AWP.block ?_
  refine AWP.loopP (X := Nat × List Rw) (fun x => ⟨[(0, arws rs), (1, eI k), (7, .c (.rs 900 0 (KP.length + x.2.length))), (9, eI KP.length), (10, eI x.1)], [(900, rwrow (KP ++ x.2))]⟩) (fun x => x.1 ≤ rs.length ∧ goI k KP.length rs (rs.drop x.1) x.2 = goI k KP.length rs rs [] ∧ AllR n x.2 ∧ KP.length + x.2.length ≤ 60) (fun x => rs.length - x.1) (0, []) (Ent.to ⟨rfl, rfl, rfl, rfl, rfl, trivial⟩ (by rw [List.append_nil])) ?_ (fun x hi => ?_)
  ·
   exact ⟨Nat.zero_le _, rfl, AllR.nil, by simp only [List.length_nil]; omega⟩
  refine AWP.seq ?_
  refine jsr ?_
  iterate 2 refine jst hσ rfl rfl rfl rfl rfl ?_
  first | refine jle hσ rfl rfl rfl rfl rfl rfl rfl rfl rfl rfl rfl ?_ | refine jst hσ rfl rfl rfl rfl rfl ?_ | refine jvf hσ rfl rfl rfl rfl rfl ?_
  refine jst hσ rfl rfl rfl rfl rfl ?_
  refine jf6 42 0 1 7 9 10 rfl rfl rfl rfl rfl rfl ?_
  refine jn ?_
  refine AWP.cond hσ rfl rfl (fun hc42 => ?_) (fun hc42 => ?_)
  ·
   skip
   refine AWP.skip ?_
   refine AWP.seq ?_
   refine AWP.block ?_
   refine jsr ?_
   obtain ⟨hx1, hx2, hx3, hx4⟩ := hi
   have hxl : x.1 < rs.length := by have := of_decide_eq_true hc42; omega
   refine jst hσ rfl rfl rfl rfl rfl ?_
   refine jn ?_
   refine AWP.block ?_
   refine AWP.loopP (X := Nat × List Rw) (fun y => ⟨[(0, arws rs), (1, eI k), (7, .c (.rs 900 0 (KP.length + y.2.length))), (9, eI KP.length), (10, eI x.1), (11, eI y.1)], [(900, rwrow (KP ++ y.2))]⟩) (fun y => y.1 ≤ rs.length ∧ goJ (rs.getD x.1 default) k KP.length (rs.drop y.1) y.2 = goJ (rs.getD x.1 default) k KP.length rs x.2 ∧ AllR n y.2 ∧ KP.length + y.2.length ≤ 60) (fun y => rs.length - y.1) (0, x.2) (Ent.to ⟨rfl, rfl, rfl, rfl, rfl, rfl, trivial⟩ rfl) ?_ (fun y hi => ?_)
   ·
    exact ⟨Nat.zero_le _, rfl, hx3, hx4⟩
   refine AWP.seq ?_
   refine jsr ?_
   iterate 2 refine jst hσ rfl rfl rfl rfl rfl ?_
   first | refine jle hσ rfl rfl rfl rfl rfl rfl rfl rfl rfl rfl rfl ?_ | refine jst hσ rfl rfl rfl rfl rfl ?_ | refine jvf hσ rfl rfl rfl rfl rfl ?_
   refine jst hσ rfl rfl rfl rfl rfl ?_
   refine jf7 48 0 1 7 9 10 11 rfl rfl rfl rfl rfl rfl rfl ?_
   refine jn ?_
   refine AWP.cond hσ rfl rfl (fun hc48 => ?_) (fun hc48 => ?_)
   ·
    skip
    refine AWP.skip ?_
    refine AWP.seq ?_
    refine AWP.block ?_
    refine AWP.seq ?_
    refine jsr ?_
    obtain ⟨hy1, hy2, hy3, hy4⟩ := hi
    have hyl : y.1 < rs.length := by have := of_decide_eq_true hc48; omega
    have hpi := hr.get hxl
    have hqj := hr.get hyl
    have l1 := hpi.l
    have l2 := hqj.l
    have hgj := goJ_cons (p := (rs.getD x.1 default)) (k := k) (b := KP.length) (rs := rs) (new := y.2) (j := y.1) hyl
    iterate 2 refine jst hσ rfl rfl rfl rfl rfl ?_
    first | refine jin hσ rfl rfl rfl rfl rfl rfl rfl rfl rfl rfl rfl ?_ | refine jix hσ rfl rfl rfl rfl rfl rfl rfl rfl rfl rfl rfl ?_ | refine jvf hσ rfl rfl rfl rfl rfl ?_
    iterate 3 refine jst hσ rfl rfl rfl rfl rfl ?_
    first | refine jin hσ rfl rfl rfl rfl rfl rfl rfl rfl rfl rfl rfl ?_ | refine jix hσ rfl rfl rfl rfl rfl rfl rfl rfl rfl rfl rfl ?_ | refine jvf hσ rfl rfl rfl rfl rfl ?_
    iterate 3 refine jst hσ rfl rfl rfl rfl rfl ?_
    refine jf8 60 48 0 1 7 9 10 11 rfl rfl rfl rfl rfl rfl rfl rfl ?_
    refine AOps.gr 9 rfl rfl rfl (fun hx => AN.step hx rfl rfl rfl (Val.of hσ rfl rfl) rfl rfl ( AN.step hx rfl rfl rfl (Val.of hσ rfl rfl) rfl rfl ( AN.step hx rfl rfl rfl (Val.indexN hσ rfl rfl rfl rfl rfl rfl rfl rfl (idxN (by first | omega | (simp at *; omega)))) rfl rfl ( AN.step hx rfl rfl rfl (Val.of hσ rfl rfl) rfl rfl ( AN.step hx rfl rfl rfl (Val.of hσ rfl rfl) rfl rfl ( AN.step hx rfl rfl rfl (Val.of hσ rfl rfl) rfl rfl ( AN.step hx rfl rfl rfl (Val.indexN hσ rfl rfl rfl rfl rfl rfl rfl rfl (idxN (by first | omega | (simp at *; omega)))) rfl rfl ( AN.step hx rfl rfl rfl (Val.of hσ rfl rfl) rfl rfl ( AN.step hx rfl rfl rfl (Val.of hσ rfl rfl) rfl rfl ( AN.nil)))))))))) rfl rfl ?_
    first | refine AOps.step (Val.pickF hσ rfl rfl rfl rfl rfl) rfl rfl rfl ?_ | refine AOps.step (Val.pickB hσ rfl rfl rfl rfl rfl) rfl rfl rfl ?_ | refine AOps.step (Val.pickT hσ rfl rfl rfl rfl rfl) rfl rfl rfl ?_
    refine jf8 70 48 0 1 7 9 10 11 rfl rfl rfl rfl rfl rfl rfl rfl ?_
    refine jn ?_
    refine AWP.cond hσ rfl rfl (fun hc70 => ?_) (fun hc70 => ?_)
    ·
     skip
     refine AWP.exit ?_
     refine AWP.region ?_
     refine jst hσ rfl rfl rfl rfl rfl ?_
     first | refine jfi hσ rfl rfl rfl rfl rfl ?_ | refine jvf hσ rfl rfl rfl rfl rfl ?_
     refine jst hσ rfl rfl rfl rfl rfl ?_
     refine jf8 11 70 48 0 1 7 9 10 rfl rfl rfl rfl rfl rfl rfl rfl ?_
     refine jn ?_
     rw [if_pos (bitT hc70)] at hgj
     refine ⟨(y.1 + 1, y.2), Ent.to ⟨rfl, rfl, rfl, rfl, rfl, rfl, trivial⟩ rfl, ⟨by show y.1 + 1 ≤ _; omega, hgj.symm.trans hy2, hy3, hy4⟩, by show rs.length - (y.1 + 1) < rs.length - y.1; omega⟩
    ·
     skip
     refine AWP.skip ?_
     refine AWP.seq ?_
     have hcc := bitF hc70
     have hpk : 0 < (rs.getD x.1 default).xs.getD k default := by omega
     have hqk : (rs.getD y.1 default).xs.getD k default < 0 := by omega
     refine AWP.drawF2 hσ _ [_, _, _, _, _, _, _, _, _, _, _, _, _, _] [⟨[], 0, 0, none⟩, ⟨[], 0, 0, none⟩, ⟨[0, 1], 0, 0, none⟩, ⟨[], 0, 0, none⟩, ⟨[], 0, 0, none⟩, ⟨[3, 4], 0, 0, none⟩, ⟨[], 0, 0, none⟩, ⟨[0, 1, 2, 3, 4, 5, 6], 0, 0, some 0⟩, ⟨[0, 1, 2, 3, 4, 5, 6, 7], 1, 1, none⟩, ⟨[0, 1, 2, 3, 4, 5, 6, 7, 8], 1, 1, none⟩, ⟨[0, 1, 2, 3, 4, 5, 6, 7, 8], 1, 2, none⟩, ⟨[], 0, 1, none⟩, ⟨[0, 1, 2, 3, 4, 5, 6, 7, 8, 9, 11], 0, 0, some 1⟩, ⟨[0, 1, 2, 3, 4, 5, 6, 7, 8, 9, 10, 11, 12], 2, 2, none⟩] [7, 12] 11 12 (.box [.d (.int .i64 0), .d .nils, .d .nils]) [_, _] [_] [] rfl rfl (by decide) (by decide) (by decide) rfl (by kernel_rfl) (And.intro (And.intro (and_flip (Val.of hσ rfl rfl) (Val.of hσ rfl rfl)) rfl) (And.intro (And.intro (and_flip (Val.of hσ rfl rfl) (Val.of hσ rfl rfl)) rfl) (And.intro (And.intro (and_flip (Val.indexN hσ rfl rfl rfl rfl rfl rfl rfl rfl (idxN (by first | omega | (simp at *; omega)))) (Val.indexN hσ rfl rfl rfl rfl rfl rfl rfl rfl (idxN (by first | omega | (simp at *; omega))))) rfl) (And.intro (And.intro (and_flip (Val.of hσ rfl rfl) (Val.of hσ rfl rfl)) rfl) (And.intro (And.intro (and_flip (Val.of hσ rfl rfl) (Val.of hσ rfl rfl)) rfl) (And.intro (And.intro (and_flip (Val.indexN hσ rfl rfl rfl rfl rfl rfl rfl rfl (idxN (by first | omega | (simp at *; omega)))) (Val.indexN hσ rfl rfl rfl rfl rfl rfl rfl rfl (idxN (by first | omega | (simp at *; omega))))) rfl) (And.intro (And.intro (and_flip (Val.of hσ rfl rfl) (Val.of hσ rfl rfl)) rfl) (And.intro (And.intro (and_flip (Eff.p (Eff.plainD hσ (B0 := 80000) rfl rfl rfl rfl (c1069 (p := (rs.getD x.1 default)) (q := (rs.getD y.1 default)) (k := k) h1 h2 hpi hqj hk hpk hqk hn) (VAs.self rfl) rfl rfl rfl rfl rfl)) (Eff.p (Eff.plainD hσ (B0 := 80000) rfl rfl rfl rfl (c1069 (p := (rs.getD x.1 default)) (q := (rs.getD y.1 default)) (k := k) h1 h2 hpi hqj hk hpk hqk hn) (VAs.self rfl) rfl rfl rfl rfl rfl))) rfl) (And.intro (And.intro (and_flip (Val.of hσ rfl rfl) (Val.of hσ rfl rfl)) rfl) (And.intro (And.intro (and_flip (Val.of hσ rfl rfl) (Val.of hσ rfl rfl)) rfl) (And.intro (And.intro (And.intro (and_flip (Val.of hσ rfl rfl) (Val.of hσ rfl rfl)) rfl) (And.intro (and_flip (Val.of hσ rfl rfl) (Val.of hσ rfl rfl)) rfl)) (And.intro (And.intro (And.intro (Eff.p (Eff.alloc hσ rfl rfl rfl rfl rfl rfl)) rfl) (And.intro (Eff.p (Eff.alloc hσ rfl rfl rfl rfl rfl rfl)) rfl)) (And.intro (And.intro (and_flip trivial (Eff.p (Eff.storeBox hσ rfl rfl rfl rfl rfl rfl rfl rfl rfl rfl rfl rfl rfl))) rfl) (And.intro (And.intro (and_flip trivial (Val.of hσ rfl rfl)) rfl) trivial)))))))))))))) ?_
     refine AWP.forget [(13, _), (12, _), (70, _), (48, _), (0, _), (1, _), (7, _), (9, _), (10, _), (11, _)] ⟨rfl, rfl, rfl, rfl, rfl, rfl, rfl, rfl, rfl, rfl, trivial⟩ ?_
     refine jnw ?_
     refine AWP.seq ?_
     refine jsr ?_
     rw [if_neg hcc] at hgj
     iterate 3 refine jst hσ rfl rfl rfl rfl rfl ?_
     refine jf10 84 12 70 48 0 1 7 9 10 11 rfl rfl rfl rfl rfl rfl rfl rfl rfl rfl ?_
     refine AOps.gr 3 rfl rfl rfl (fun hx => AN.step hx rfl rfl rfl (Val.of hσ rfl rfl) rfl rfl ( AN.step hx rfl rfl rfl (Val.vif hσ rfl rfl (by first | omega | (simp at *; omega))) rfl rfl ( AN.step hx rfl rfl rfl (Val.of hσ rfl rfl) rfl rfl ( AN.nil)))) rfl rfl ?_
     first | refine AOps.step (Val.pickF hσ rfl rfl rfl rfl rfl) rfl rfl rfl ?_ | refine AOps.step (Val.pickB hσ rfl rfl rfl rfl rfl) rfl rfl rfl ?_ | refine AOps.step (Val.pickT hσ rfl rfl rfl rfl rfl) rfl rfl rfl ?_
     refine jf10 88 12 70 48 0 1 7 9 10 11 rfl rfl rfl rfl rfl rfl rfl rfl rfl rfl ?_
     refine jn ?_
     refine AWP.cond hσ rfl rfl (fun hc88 => ?_) (fun hc88 => ?_)
     ·
      skip
      refine jsr ?_
      iterate 3 refine jst hσ rfl rfl rfl rfl rfl ?_
      refine jn ?_
      refine AWP.ret ?_
      refine ⟨.inl rfl, _, Ent.refl, _, rfl, ?_⟩
      have hno := fullT hc88
      rw [if_neg hno] at hgj
      have hgi := goI_cons (k := k) (b := KP.length) (rs := rs) (new := x.2) (i := x.1) hxl
      rw [← hy2, hgj] at hgi
      rw [stP_none (by show goI k (keepR k rs).length rs rs [] = none; rw [← eK, ← hx2]; exact hgi)]
      exact .tup (.cons (.c .nils) (.cons (.c .d) (.cons (.c .d) .nil)))
     ·
      skip
      refine AWP.skip ?_
      refine AWP.region ?_
      have hyes := fullF hc88
      iterate 2 refine jst hσ rfl rfl rfl rfl rfl ?_
      refine AOps.heap (HS.litD hσ rfl rfl rfl rfl rfl rfl rfl rfl rfl rfl rfl) rfl ?_
      refine jnm ?_
      refine jf12 91 89 88 12 70 48 0 1 7 9 10 11 rfl rfl rfl rfl rfl rfl rfl rfl rfl rfl rfl rfl ?_
      refine AOps.heap (HS.appCopy (own := false) (xs := (KP ++ y.2).map Rw.cells) (zs := (KP ++ (y.2 ++ [mixR (rs.getD x.1 default) (rs.getD y.1 default) k])).map Rw.cells) (n := KP.length + (y.2 ++ [mixR (rs.getD x.1 default) (rs.getD y.1 default) k]).length) hσ rfl rfl rfl rfl rfl rfl rfl rfl rfl rfl rfl rfl rfl rfl rfl rfl (.row rfl (by simp)) (.whole rfl rfl (.inr ⟨rfl, rfl⟩)) (by simp) rfl (by simp; omega) (by simp; omega) (by rw [← List.append_assoc, List.map_append (l₁ := KP ++ y.2)]; rfl) (by simp)) rfl ?_
      refine jnm ?_
      refine jst hσ rfl rfl rfl rfl rfl ?_
      refine jf10 7 88 12 70 48 0 1 9 10 11 rfl rfl rfl rfl rfl rfl rfl rfl rfl rfl ?_
      refine jn ?_
      refine AWP.region ?_
      refine jst hσ rfl rfl rfl rfl rfl ?_
      first | refine jfi hσ rfl rfl rfl rfl rfl ?_ | refine jvf hσ rfl rfl rfl rfl rfl ?_
      refine jst hσ rfl rfl rfl rfl rfl ?_
      refine jf10 11 7 88 12 70 48 0 1 9 10 rfl rfl rfl rfl rfl rfl rfl rfl rfl rfl ?_
      refine jn ?_
      rw [if_pos hyes] at hgj
      refine ⟨(y.1 + 1, y.2 ++ [mixR (rs.getD x.1 default) (rs.getD y.1 default) k]), ((Ent.sel [92] (e' := [(0, _), (1, _), (7, _), (9, _), (10, _), (11, _)]) rfl rfl ⟨rfl, rfl, rfl, rfl, rfl, rfl, trivial⟩ rfl).trans (Ent.sub2 92 900 rfl rfl)), ⟨by show y.1 + 1 ≤ _; omega, hgj.symm.trans hy2, hy3.snoc (mix_ok hpi hqj hpk hqk hyes.1), by simp only [List.length_append, List.length_singleton]; omega⟩, by show rs.length - (y.1 + 1) < rs.length - y.1; omega⟩
   ·
    skip
    refine AWP.exit ?_
    refine AWP.region ?_
    refine jst hσ rfl rfl rfl rfl rfl ?_
    first | refine jfi hσ rfl rfl rfl rfl rfl ?_ | refine jvf hσ rfl rfl rfl rfl rfl ?_
    refine jst hσ rfl rfl rfl rfl rfl ?_
    refine jf7 10 48 0 1 7 9 11 rfl rfl rfl rfl rfl rfl rfl ?_
    refine jn ?_
    obtain ⟨hy1, hy2, hy3, hy4⟩ := hi
    have hye : rs.length ≤ y.1 := by have := of_decide_eq_false hc48; omega
    rw [goJ_end hye] at hy2
    have hgi := goI_cons (k := k) (b := KP.length) (rs := rs) (new := x.2) (i := x.1) (by omega)
    rw [← hy2] at hgi
    refine ⟨(x.1 + 1, y.2), Ent.to ⟨rfl, rfl, rfl, rfl, rfl, trivial⟩ rfl, ⟨by show x.1 + 1 ≤ _; omega, hgi.symm.trans hx2, hy3, hy4⟩, by show rs.length - (x.1 + 1) < rs.length - x.1; omega⟩
  ·
   skip
   refine AWP.exit ?_
   refine jsr ?_
   iterate 5 refine jst hσ rfl rfl rfl rfl rfl ?_
   refine jf9 6 5 4 42 0 1 7 9 10 rfl rfl rfl rfl rfl rfl rfl rfl rfl ?_
   refine jn ?_
   refine AWP.ret ?_
   refine ⟨.inl rfl, _, Ent.refl, _, rfl, ?_⟩
   obtain ⟨hx1, hx2, hx3, hx4⟩ := hi
   have hxe : rs.length ≤ x.1 := by have := of_decide_eq_false hc42; omega
   rw [goI_end hxe] at hx2
   rw [stP_some (new := x.2) (by show goI k (keepR k rs).length rs rs [] = some x.2; rw [← eK, ← hx2]), ← eK]
   exact .tup (.cons (.c (.whole rfl (by simp))) (.cons (.c .d) (.cons (.c .d) .nil)))
theorem c1056 {L : Nat} (h1 : 4096 ≤ L) (h2 : L ≤ 1073741824) {ts : List Tm} (hf : Fs ts) : MC Tryz.prog L 72 [.c (.rs 0 0 ts.length)] [(0, drow ts)] (Outs (resEv (evP ts)) [(0, drow ts)]) := by
 refine MC.shift 500 rfl ?_
 refine MC.dataH ?_
 have hσ := SgOk.withIns (js := [500]) (SGok (nt := 35) h1 (Nat.le_trans h2 (by decide)))
 refine MC.bodyH hσ Tryz.func72 (by kernel_rfl) rfl rfl rfl (Nat.le_of_ble_eq_true rfl) (fun hF => ?_)
 have hlen := hf.len
 refine jsr ?_
 iterate 3 refine jst hσ rfl rfl rfl rfl rfl ?_
 refine jns ?_
 refine jst hσ rfl rfl rfl rfl rfl ?_
 refine jf4 11 4 3 2 rfl rfl rfl rfl ?_
 refine AOps.inn hσ [500] (bin := [drow ts]) rfl rfl rfl rfl (c1063 (ts := ts) h1 h2 hf) rfl rfl rfl rfl rfl rfl (B0 := 13000) rfl rfl ?_
 refine jnm ?_
 refine jst hσ rfl rfl rfl rfl rfl ?_
 refine jf4 5 4 3 2 rfl rfl rfl rfl ?_
 refine jns ?_
 refine AOps.heap (HS.litD hσ rfl rfl rfl rfl rfl rfl rfl rfl rfl rfl rfl) rfl ?_
 refine jnm ?_
 refine jst hσ rfl rfl rfl rfl rfl ?_
 refine jn ?_
 refine AWP.seq ?_
 refine jsr ?_
 refine jst hσ rfl rfl rfl rfl rfl ?_
 refine jn ?_
 refine AWP.block ?_
 refine AWP.loopP (X := Nat × List Rw × List Rw) (fun x => ⟨[(5, arws x.2.1), (6, .c (.rs 900 0 x.2.2.length)), (7, eI x.1)], [(900, rwrow x.2.2), (500, drow ts)]⟩) (fun x => x.1 ≤ 10 ∧ elimK (10 - x.1) x.1 x.2.1 x.2.2 = everyR ts ∧ AllR ts.length x.2.1 ∧ x.2.1.length ≤ 60 ∧ AllR ts.length x.2.2 ∧ x.2.2.length ≤ 60 * x.1) (fun x => 10 - x.1) (0, rows0 ts, []) ((Ent.sub2 13 900 rfl rfl).trans (Ent.to ⟨rfl, rfl, rfl, trivial⟩ rfl)) ?_ (fun x hi => ?_)
 ·
  exact ⟨Nat.zero_le _, rfl, rows0_ok hf, by show (rowsTo ts ts.length).length ≤ 60; rw [rowsTo_length]; omega, AllR.nil, Nat.zero_le _⟩
 refine AWP.seq ?_
 refine jsr ?_
 iterate 2 refine jst hσ rfl rfl rfl rfl rfl ?_
 refine jn ?_
 refine AWP.cond hσ rfl rfl (fun hc15 => ?_) (fun hc15 => ?_)
 ·
  skip
  refine AWP.skip ?_
  refine AWP.seq ?_
  refine AWP.block ?_
  refine jsr ?_
  obtain ⟨hx1, hx2, hx3, hx4, hx5, hx6⟩ := hi
  have hxl : x.1 < 10 := by have := of_decide_eq_true hc15; omega
  iterate 2 refine jst hσ rfl rfl rfl rfl rfl ?_
  refine AOps.plainD hσ rfl rfl rfl rfl (c1064 (n := ts.length) (rs := x.2.1) (k := x.1) h1 h2 hx3 hx4 hxl (by omega)) (VAs.self rfl) rfl rfl rfl rfl (B0 := 22000) rfl rfl ?_
  iterate 7 refine jst hσ rfl rfl rfl rfl rfl ?_
  refine jf8 10 9 8 15 14 5 6 7 rfl rfl rfl rfl rfl rfl rfl rfl ?_
  refine jn ?_
  refine AWP.seq ?_
  refine jsr ?_
  iterate 2 refine jst hσ rfl rfl rfl rfl rfl ?_
  refine jf8 26 9 8 15 14 5 6 7 rfl rfl rfl rfl rfl rfl rfl rfl ?_
  refine jn ?_
  refine AWP.cond hσ rfl rfl (fun hc26 => ?_) (fun hc26 => ?_)
  ·
   skip
   refine jsr ?_
   iterate 3 refine jst hσ rfl rfl rfl rfl rfl ?_
   refine jn ?_
   refine AWP.ret ?_
   refine ⟨.inl rfl, _, Ent.refl, _, rfl, ?_⟩
   refine ⟨?_, rfl⟩
   have hs := stP_F (k := x.1) (rs := x.2.1) (by simpa using hc26)
   have he : everyR ts = none := by rw [← hx2, show 10 - x.1 = (10 - (x.1 + 1)) + 1 by omega, elimK_none hs]
   rw [evP_none he]
   exact .tup (.cons (.c .nils) (.cons (.c .nils) (.cons (.c .d) .nil)))
  ·
   skip
   refine AWP.skip ?_
   refine jsr ?_
   obtain ⟨new, hs⟩ := stP_T (k := x.1) (rs := x.2.1) (by simpa using hc26)
   have hso := stageR_ok hx3 hx4 hs
   rw [stP_some hs]
   iterate 3 refine jst hσ rfl rfl rfl rfl rfl ?_
   refine AOps.step ((Val.vif hσ rfl rfl ⟨by simp, by simp⟩).cast (v' := arws new) (by simp [List.map_append]; exact List.take_of_length_le (by simp))) rfl rfl rfl ?_
   refine jf9 30 27 26 8 15 14 5 6 7 rfl rfl rfl rfl rfl rfl rfl rfl rfl ?_
   refine AOps.heap (HS.appCopy (own := false) (xs := x.2.2.map Rw.cells) (ys := new.map Rw.cells) (zs := (x.2.2 ++ new).map Rw.cells) (n := (x.2.2 ++ new).length) hσ rfl rfl rfl rfl rfl rfl rfl rfl rfl rfl rfl rfl rfl rfl rfl rfl (.row rfl (List.length_map _).symm) (.slc (.inl rfl)) (by simp) rfl (by simp; omega) (by simp; omega) (by simp) (by simp)) rfl ?_
   refine jnm ?_
   refine jst hσ rfl rfl rfl rfl rfl ?_
   refine jf7 6 26 8 15 14 5 7 rfl rfl rfl rfl rfl rfl rfl ?_
   refine jn ?_
   refine AWP.region ?_
   iterate 2 refine jst hσ rfl rfl rfl rfl rfl ?_
   refine jn ?_
   refine AWP.region ?_
   refine jst hσ rfl rfl rfl rfl rfl ?_
   first | refine jfi hσ rfl rfl rfl rfl rfl ?_ | refine jvf hσ rfl rfl rfl rfl rfl ?_
   refine jst hσ rfl rfl rfl rfl rfl ?_
   refine jf8 7 5 32 6 26 8 15 14 rfl rfl rfl rfl rfl rfl rfl rfl ?_
   refine jn ?_
   refine ⟨(x.1 + 1, keepR x.1 x.2.1 ++ new, x.2.2 ++ new), ((Ent.sel [31, 500] (e' := [(5, _), (6, _), (7, _)]) rfl rfl ⟨rfl, rfl, rfl, trivial⟩ rfl).trans (Ent.sub2 31 900 rfl rfl)), ⟨by show x.1 + 1 ≤ 10; omega, ?_, hso.1, hso.2.1, hx5.app hso.2.2.1, ?_⟩, by show 10 - (x.1 + 1) < 10 - x.1; omega⟩
   ·
    show elimK (10 - (x.1 + 1)) (x.1 + 1) _ _ = _
    rw [← hx2, show 10 - x.1 = (10 - (x.1 + 1)) + 1 by omega, elimK_succ hs]
   ·
    show (x.2.2 ++ new).length ≤ 60 * (x.1 + 1)
    rw [List.length_append]; omega
 ·
  skip
  refine AWP.exit ?_
  refine jsr ?_
  iterate 5 refine jst hσ rfl rfl rfl rfl rfl ?_
  refine jf8 4 3 2 15 14 5 6 7 rfl rfl rfl rfl rfl rfl rfl rfl ?_
  refine jn ?_
  refine AWP.ret ?_
  refine ⟨.inl rfl, _, Ent.refl, _, rfl, ?_⟩
  refine ⟨?_, rfl⟩
  obtain ⟨hx1, hx2, hx3, hx4, hx5, hx6⟩ := hi
  have hxe : x.1 = 10 := by have := of_decide_eq_false hc15; omega
  rw [hxe] at hx2
  have he : everyR ts = some x.2 := hx2.symm
  rw [evP_some he]
  exact .tup (.cons (.c .d) (.cons (.c (.whole rfl (List.length_map _).symm)) (.cons (.c .d) .nil)))
end Go.Al
namespace Go.Al
open Go.Proofs
set_option linter.unusedVariables false
set_option linter.unusedSimpArgs false
set_option maxRecDepth 10000
abbrev resMs (z : List Int × Bool) : A := .tup [aints z.1, eB z.2]
def cutP (ts : List Tm) : Tm × List Int × Int × Bool := match cutR ts with
  | none => (⟨0, []⟩, [], 0, false)
  | some r => ((sharpR ts r.tm).1, r.ms, (gcdL r.tm.xs : Int), true)
abbrev resCt (z : Tm × List Int × Int × Bool) : A := .tup [aTm' z.1, aints z.2.1, eI z.2.2.1, eB z.2.2.2]
theorem cutP_none {ts : List Tm} (h : cutR ts = none) : cutP ts = (⟨0, []⟩, [], 0, false) := by unfold cutP; rw [h]
theorem cutP_some {ts : List Tm} {r : Rw} (h : cutR ts = some r) : cutP ts = ((sharpR ts r.tm).1, r.ms, (gcdL r.tm.xs : Int), true) := by unfold cutP; rw [h]
theorem cutR_no {ts : List Tm} (h : everyR ts = none) : cutR ts = none := by unfold cutR; rw [h]
theorem cutR_of {ts : List Tm} {z : List Rw × List Rw} (h : everyR ts = some z) : cutR ts = findC ts z.2 := by unfold cutR; rw [h]
theorem refR_no {ts : List Tm} (h : everyR ts = none) : refR ts = ([], false) := by unfold refR; rw [h]
theorem refR_N {ts : List Tm} {z : List Rw × List Rw} (h : everyR ts = some z) (h2 : findN z.1 = none) : refR ts = ([], false) := by unfold refR; rw [h]; simp only; rw [h2]
theorem refR_S {ts : List Tm} {z : List Rw × List Rw} {r : Rw} (h : everyR ts = some z) (h2 : findN z.1 = some r) : refR ts = (r.ms, true) := by unfold refR; rw [h]; simp only; rw [h2]
def tigP (ts : List Tm) : Int × Tm := match tigR ts with
  | some i => ((i : Int), (sharpR ts (ts.getD i default)).1)
  | none => (-1, ⟨0, []⟩)
abbrev resTg (z : Int × Tm) : A := .tup [eI z.1, aTm' z.2]
theorem tigP_some {ts : List Tm} {i : Nat} (h : tigR ts = some i) : tigP ts = ((i : Int), (sharpR ts (ts.getD i default)).1) := by unfold tigP; rw [h]
theorem tigP_none {ts : List Tm} (h : tigR ts = none) : tigP ts = (-1, ⟨0, []⟩) := by unfold tigP; rw [h]
theorem tigF_T {ts : List Tm} {i : Nat} (h : i < ts.length) (h2 : (sharpR ts (ts.getD i default)).2 = true) : tigF ts (ts.length - i) i = some i := by
  rw [show ts.length - i = (ts.length - (i + 1)) + 1 by omega, tigF, if_pos h2]
theorem tigF_F {ts : List Tm} {i : Nat} (h : i < ts.length) (h2 : (sharpR ts (ts.getD i default)).2 = false) : tigF ts (ts.length - i) i = tigF ts (ts.length - (i + 1)) (i + 1) := by
  rw [show ts.length - i = (ts.length - (i + 1)) + 1 by omega, tigF, if_neg (by rw [h2]; decide)]
theorem get_cells {ts : List Tm} {i : Nat} (h : i < ts.length) : (ts.map Tm.cells)[0 + ((i : Nat) : Int).toNat]? = some (ts.getD i default).cells := by
  rw [Nat.zero_add, Int.toNat_natCast, List.getElem?_map, List.getElem?_eq_getElem h, getD_lt h]; rfl
theorem c1046 {L : Nat} (h1 : 4096 ≤ L) (h2 : L ≤ 1073741824) {ts : List Tm} (hf : Fs ts) : MC Tryz.prog L 50 [.c (.rs 0 0 ts.length)] [(0, drow ts)] (Outs (resMs (refR ts)) [(0, drow ts)]) := by
 refine MC.shift 500 rfl ?_
 refine MC.dataH ?_
 have hσ := SgOk.withIns (js := [500]) (SGok (nt := 33) h1 (Nat.le_trans h2 (by decide)))
 refine MC.bodyH hσ Tryz.func50 (by kernel_rfl) rfl rfl rfl (Nat.le_of_ble_eq_true rfl) (fun hF => ?_)
 refine jsr ?_
 iterate 2 refine jst hσ rfl rfl rfl rfl rfl ?_
 refine jns ?_
 refine jst hσ rfl rfl rfl rfl rfl ?_
 refine jf3 9 3 2 rfl rfl rfl ?_
 refine AOps.inn hσ [500] (bin := [drow ts]) rfl rfl rfl rfl (c1056 (ts := ts) h1 h2 hf) rfl rfl rfl rfl rfl rfl (B0 := 11000) rfl rfl ?_
 refine jnm ?_
 iterate 7 refine jst hσ rfl rfl rfl rfl rfl ?_
 refine jf4 6 4 3 2 rfl rfl rfl rfl ?_
 refine jn ?_
 refine AWP.seq ?_
 refine jsr ?_
 iterate 2 refine jst hσ rfl rfl rfl rfl rfl ?_
 refine jf4 15 4 3 2 rfl rfl rfl rfl ?_
 refine jn ?_
 refine AWP.cond hσ rfl rfl (fun hc15 => ?_) (fun hc15 => ?_)
 ·
  skip
  refine jsr ?_
  iterate 2 refine jst hσ rfl rfl rfl rfl rfl ?_
  refine jn ?_
  refine AWP.ret ?_
  refine ⟨.inl rfl, _, Ent.refl, _, rfl, ?_⟩
  refine ⟨?_, rfl⟩
  rw [refR_no (evP_F (by simpa using hc15))]
  exact .tup (.cons (.c .nils) (.cons (.c .d) .nil))
 ·
  skip
  refine AWP.skip ?_
  refine AWP.seq ?_
  refine jsr ?_
  obtain ⟨z, hz⟩ := evP_T (ts := ts) (by simpa using hc15)
  rw [evP_some hz]
  obtain ⟨ha, hal, hb, hbl⟩ := every_ok hf (a := z.1) (b := z.2) hz
  refine jst hσ rfl rfl rfl rfl rfl ?_
  refine jn ?_
  refine AWP.block ?_
  refine AWP.loopP (X := Nat) (fun i => ⟨[(4, arws z.1), (7, eI i)], [(500, drow ts)]⟩) (fun i => i ≤ z.1.length ∧ findN (z.1.drop i) = findN z.1) (fun i => z.1.length - i) 0 (Ent.to ⟨rfl, rfl, trivial⟩ rfl) ?_ (fun i hi => ?_)
  ·
   exact ⟨Nat.zero_le _, rfl⟩
  refine AWP.seq ?_
  refine jsr ?_
  iterate 2 refine jst hσ rfl rfl rfl rfl rfl ?_
  first | refine jle hσ rfl rfl rfl rfl rfl rfl rfl rfl rfl rfl rfl ?_ | refine jst hσ rfl rfl rfl rfl rfl ?_ | refine jvf hσ rfl rfl rfl rfl rfl ?_
  refine jst hσ rfl rfl rfl rfl rfl ?_
  refine jf3 19 4 7 rfl rfl rfl ?_
  refine jn ?_
  refine AWP.cond hσ rfl rfl (fun hc19 => ?_) (fun hc19 => ?_)
  ·
   skip
   refine AWP.skip ?_
   refine AWP.seq ?_
   refine AWP.block ?_
   refine jsr ?_
   have hil : i < z.1.length := by have := of_decide_eq_true hc19; omega
   have hfc := findN_cons (rs := z.1) hil
   iterate 2 refine jst hσ rfl rfl rfl rfl rfl ?_
   first | refine jin hσ rfl rfl rfl rfl rfl rfl rfl rfl rfl rfl rfl ?_ | refine jix hσ rfl rfl rfl rfl rfl rfl rfl rfl rfl rfl rfl ?_ | refine jvf hσ rfl rfl rfl rfl rfl ?_
   iterate 3 refine jst hσ rfl rfl rfl rfl rfl ?_
   refine jf4 27 19 4 7 rfl rfl rfl rfl ?_
   refine jn ?_
   refine AWP.cond hσ rfl rfl (fun hc27 => ?_) (fun hc27 => ?_)
   ·
    skip
    refine jsr ?_
    iterate 2 refine jst hσ rfl rfl rfl rfl rfl ?_
    first | refine jin hσ rfl rfl rfl rfl rfl rfl rfl rfl rfl rfl rfl ?_ | refine jix hσ rfl rfl rfl rfl rfl rfl rfl rfl rfl rfl rfl ?_ | refine jvf hσ rfl rfl rfl rfl rfl ?_
    iterate 4 refine jst hσ rfl rfl rfl rfl rfl ?_
    refine jf6 3 2 27 19 4 7 rfl rfl rfl rfl rfl rfl ?_
    refine jn ?_
    refine AWP.ret ?_
    refine ⟨.inl rfl, _, Ent.refl, _, rfl, ?_⟩
    refine ⟨?_, rfl⟩
    rw [if_pos (of_decide_eq_true hc27), hi.2] at hfc
    rw [refR_S hz hfc]
    exact .tup (.cons (.c .d) (.cons (.c .d) .nil))
   ·
    skip
    refine AWP.skip ?_
    refine AWP.region ?_
    refine jst hσ rfl rfl rfl rfl rfl ?_
    first | refine jfi hσ rfl rfl rfl rfl rfl ?_ | refine jvf hσ rfl rfl rfl rfl rfl ?_
    refine jst hσ rfl rfl rfl rfl rfl ?_
    refine jf4 7 27 19 4 rfl rfl rfl rfl ?_
    refine jn ?_
    rw [if_neg (of_decide_eq_false hc27)] at hfc
    exact ⟨i + 1, Ent.to ⟨rfl, rfl, trivial⟩ rfl, ⟨by omega, hfc.symm.trans hi.2⟩, by omega⟩
  ·
   skip
   refine AWP.exit ?_
   refine jsr ?_
   iterate 2 refine jst hσ rfl rfl rfl rfl rfl ?_
   refine jn ?_
   refine AWP.ret ?_
   refine ⟨.inl rfl, _, Ent.refl, _, rfl, ?_⟩
   refine ⟨?_, rfl⟩
   have hle : z.1.length ≤ i := by have := of_decide_eq_false hc19; omega
   have h9 := hi.2
   rw [findN_end hle] at h9
   rw [refR_N hz h9.symm]
   exact .tup (.cons (.c .nils) (.cons (.c .d) .nil))
theorem c1047 {L : Nat} (h1 : 4096 ≤ L) (h2 : L ≤ 1073741824) {ts : List Tm} (hf : Fs ts) : MC Tryz.prog L 52 [.c (.rs 0 0 ts.length)] [(0, drow ts)] (Outs (resCt (cutP ts)) [(0, drow ts)]) := by
 refine MC.shift 500 rfl ?_
 refine MC.dataH ?_
 have hσ := SgOk.withIns (js := [500]) (SGok (nt := 46) h1 (Nat.le_trans h2 (by decide)))
 refine MC.bodyH hσ Tryz.func52 (by kernel_rfl) rfl rfl rfl (Nat.le_of_ble_eq_true rfl) (fun hF => ?_)
 refine jsr ?_
 refine AOps.heap (HS.alloc hσ rfl rfl rfl rfl rfl) rfl ?_
 refine jnm ?_
 iterate 3 refine jst hσ rfl rfl rfl rfl rfl ?_
 refine jns ?_
 refine jst hσ rfl rfl rfl rfl rfl ?_
 refine AOps.inn hσ [500] (bin := [drow ts]) rfl rfl rfl rfl (c1056 (ts := ts) h1 h2 hf) rfl rfl rfl rfl rfl rfl (B0 := 16000) rfl rfl ?_
 refine AOps.to (Ent.to (e' := [(15, resEv (evP ts)), (0, .c (.rs 500 0 ts.length)), (2, .c (.pt 2 0 0))]) (H' := [(2, .box [.d (.int .i64 0), .d .nils]), (500, drow ts)]) ⟨rfl, rfl, rfl, trivial⟩ rfl) ?_
 iterate 7 refine jst hσ rfl rfl rfl rfl rfl ?_
 refine jf4 8 7 0 2 rfl rfl rfl rfl ?_
 refine jn ?_
 refine AWP.seq ?_
 refine jsr ?_
 iterate 2 refine jst hσ rfl rfl rfl rfl rfl ?_
 refine jf4 20 7 0 2 rfl rfl rfl rfl ?_
 refine jn ?_
 refine AWP.cond hσ rfl rfl (fun hc20 => ?_) (fun hc20 => ?_)
 ·
  skip
  refine jsr ?_
  refine jst hσ rfl rfl rfl rfl rfl ?_
  refine jf4 21 7 0 2 rfl rfl rfl rfl ?_
  refine AOps.heap (HS.storeBox hσ rfl rfl rfl rfl rfl rfl rfl rfl rfl rfl rfl) rfl ?_
  refine jnm ?_
  iterate 3 refine jst hσ rfl rfl rfl rfl rfl ?_
  refine jn ?_
  refine AWP.ret ?_
  refine ⟨.inl rfl, _, Ent.refl, _, rfl, ?_⟩
  refine ⟨?_, rfl⟩
  rw [cutP_none (cutR_no (evP_F (by simpa using hc20)))]
  exact .tup (.cons (.agg (.cons .d (.cons .nils .nil))) (.cons (.c .nils) (.cons (.c .d) (.cons (.c .d) .nil))))
 ·
  skip
  refine AWP.skip ?_
  refine AWP.seq ?_
  refine jsr ?_
  obtain ⟨z, hz⟩ := evP_T (ts := ts) (by simpa using hc20)
  rw [evP_some hz]
  obtain ⟨ha, hal, hb, hbl⟩ := every_ok hf (a := z.1) (b := z.2) hz
  refine jst hσ rfl rfl rfl rfl rfl ?_
  refine jn ?_
  refine AWP.block ?_
  refine AWP.loopP (X := Nat) (fun i => ⟨[(0, .c (.rs 500 0 ts.length)), (2, .c (.pt 2 0 0)), (7, arws z.2), (9, eI i)], [(2, .box [.d (.int .i64 0), .d .nils]), (500, drow ts)]⟩) (fun i => i ≤ z.2.length ∧ findC ts (z.2.drop i) = findC ts z.2) (fun i => z.2.length - i) 0 (Ent.to ⟨rfl, rfl, rfl, rfl, trivial⟩ rfl) ?_ (fun i hi => ?_)
  ·
   exact ⟨Nat.zero_le _, rfl⟩
  refine AWP.seq ?_
  refine jsr ?_
  iterate 2 refine jst hσ rfl rfl rfl rfl rfl ?_
  first | refine jle hσ rfl rfl rfl rfl rfl rfl rfl rfl rfl rfl rfl ?_ | refine jst hσ rfl rfl rfl rfl rfl ?_ | refine jvf hσ rfl rfl rfl rfl rfl ?_
  refine jst hσ rfl rfl rfl rfl rfl ?_
  refine jf5 25 0 2 7 9 rfl rfl rfl rfl rfl ?_
  refine jn ?_
  refine AWP.cond hσ rfl rfl (fun hc25 => ?_) (fun hc25 => ?_)
  ·
   skip
   refine AWP.skip ?_
   refine AWP.seq ?_
   refine AWP.block ?_
   refine jsr ?_
   have hil : i < z.2.length := by have := of_decide_eq_true hc25; omega
   have hfc := findC_cons (ts := ts) (rs := z.2) hil
   have hro := hb.get hil
   iterate 2 refine jst hσ rfl rfl rfl rfl rfl ?_
   first | refine jin hσ rfl rfl rfl rfl rfl rfl rfl rfl rfl rfl rfl ?_ | refine jix hσ rfl rfl rfl rfl rfl rfl rfl rfl rfl rfl rfl ?_ | refine jvf hσ rfl rfl rfl rfl rfl ?_
   refine jf6 30 25 0 2 7 9 rfl rfl rfl rfl rfl rfl ?_
   refine AOps.plainD hσ rfl rfl rfl rfl (c1057 (r := z.2.getD i default) h1 h2 hro.tm) (VAs.self rfl) rfl rfl rfl rfl (B0 := 32000) rfl rfl ?_
   refine jf6 31 25 0 2 7 9 rfl rfl rfl rfl rfl rfl ?_
   refine AOps.heap (HS.alloc hσ rfl rfl rfl rfl rfl) rfl ?_
   refine jnm ?_
   refine AOps.heap (HS.storeBox hσ rfl rfl rfl rfl rfl rfl rfl rfl rfl rfl rfl) rfl ?_
   refine jnm ?_
   refine jns ?_
   refine AOps.to (Ent.freeze 10 (e' := [(10, _), (0, _), (2, _), (7, _), (9, _)]) rfl (.cons rfl (.c (.box (cs := Tm.cells (z.2.getD i default).tm) rfl (VMs.self rfl))) (.cons rfl (.keep rfl) (.cons rfl (.keep rfl) (.cons rfl (.keep rfl) (.cons rfl (.keep rfl) .nil))))) (.cons rfl (.box (.cons (.keep rfl) (.cons (.keep rfl) .nil))) (.skip (.cons rfl .row .nil)))) ?_
   refine jst hσ rfl rfl rfl rfl rfl ?_
   refine AOps.inn hσ [500] (bin := [drow ts]) rfl rfl rfl rfl (c1055q (ts := ts) (t := (z.2.getD i default).tm) h1 h2 hro.tm) rfl rfl rfl rfl rfl rfl (B0 := 35000) rfl rfl ?_
   refine AOps.to (Ent.to (e' := [(34, resTm (sharpR ts (z.2.getD i default).tm)), (0, .c (.rs 500 0 ts.length)), (2, .c (.pt 2 0 0)), (7, arws z.2), (9, eI i), (10, ptr (Tm.cells (z.2.getD i default).tm))]) (H' := [(2, .box [.d (.int .i64 0), .d .nils]), (500, drow ts)]) ⟨rfl, rfl, rfl, rfl, rfl, rfl, trivial⟩ rfl) ?_
   iterate 3 refine jst hσ rfl rfl rfl rfl rfl ?_
   refine jf7 36 35 0 2 7 9 10 rfl rfl rfl rfl rfl rfl rfl ?_
   refine AOps.heap (HS.alloc hσ rfl rfl rfl rfl rfl) rfl ?_
   refine jnm ?_
   refine AOps.heap (HS.storeBox hσ rfl rfl rfl rfl rfl rfl rfl rfl rfl rfl rfl) rfl ?_
   refine jnm ?_
   refine jst hσ rfl rfl rfl rfl rfl ?_
   refine jf7 12 11 0 2 7 9 10 rfl rfl rfl rfl rfl rfl rfl ?_
   refine jns ?_
   refine jst hσ rfl rfl rfl rfl rfl ?_
   refine jn ?_
   refine AWP.cond hσ rfl rfl (fun hc37 => ?_) (fun hc37 => ?_)
   ·
    skip
    refine AWP.seq ?_
    refine AWP.drawR hσ _ [_, _, _, _, _, _, _, _, _, _, _] [⟨[], 0, 1, none⟩, ⟨[], 0, 2, none⟩, ⟨[], 0, 2, none⟩, ⟨[1, 2], 0, 2, none⟩, ⟨[1, 2, 3], 0, 2, none⟩, ⟨[1, 2, 3, 4], 0, 2, none⟩, ⟨[], 0, 0, some 0⟩, ⟨[0, 6], 0, 0, some 1⟩, ⟨[0, 1, 2, 3, 4, 5, 6, 7], 2, 2, none⟩, ⟨[0, 1, 2, 3, 4, 5, 6, 7, 8], 2, 2, none⟩, ⟨[0, 1, 2, 3, 4, 5, 6, 7, 8, 9], 2, 2, none⟩] [6, 7] [_, _, _] rfl rfl (by decide) (by decide) (by kernel_rfl) (And.intro (And.intro (Val.of hσ rfl rfl) (Val.of hσ rfl rfl)) (And.intro (And.intro (Val.of hσ rfl rfl) (And.intro (Val.of hσ rfl rfl) (Val.of hσ rfl rfl))) (And.intro (And.intro (Val.of hσ rfl rfl) (And.intro (Val.of hσ rfl rfl) (Val.of hσ rfl rfl))) (And.intro (And.intro (Val.indexN hσ rfl rfl rfl rfl rfl rfl rfl rfl (idxN (by first | omega | (simp at *; omega)))) (And.intro (Val.indexN hσ rfl rfl rfl rfl rfl rfl rfl rfl (idxN (by first | omega | (simp at *; omega)))) (Val.indexN hσ rfl rfl rfl rfl rfl rfl rfl rfl (idxN (by first | omega | (simp at *; omega)))))) (And.intro (And.intro (Val.of hσ rfl rfl) (And.intro (Val.of hσ rfl rfl) (Val.of hσ rfl rfl))) (And.intro (And.intro (Val.of hσ rfl rfl) (And.intro (Val.of hσ rfl rfl) (Val.of hσ rfl rfl))) (And.intro (Eff.lone hσ (B0 := 45000) rfl rfl rfl rfl (c198 (t := (z.2.getD i default).tm) h1 h2 (Small.of hro.tm).xs) (VAs.self rfl) rfl rfl rfl rfl rfl) (And.intro (Eff.storeBox hσ rfl rfl rfl rfl rfl rfl rfl rfl rfl rfl rfl rfl rfl) (And.intro (Val.of hσ rfl rfl) (And.intro (Val.of hσ rfl rfl) (And.intro (Val.of hσ rfl rfl) trivial))))))))))) ?_
    refine AWP.forget [(5, _), (4, _), (3, _), (37, _), (12, _), (11, _), (0, _), (2, _), (7, _), (9, _), (10, _)] ⟨rfl, rfl, rfl, rfl, rfl, rfl, rfl, rfl, rfl, rfl, rfl, trivial⟩ ?_
    refine jnw ?_
    refine AWP.ret ?_
    refine ⟨.inl rfl, _, Ent.refl, _, rfl, ?_⟩
    refine ⟨?_, rfl⟩
    rw [if_pos hc37, hi.2, ← cutR_of hz] at hfc
    rw [cutP_some hfc]
    exact .tup (.cons (.agg (VMs.self rfl)) (.cons (.c .d) (.cons (.c .d) (.cons (.c .d) .nil))))
   ·
    skip
    refine AWP.skip ?_
    refine AWP.region ?_
    refine jst hσ rfl rfl rfl rfl rfl ?_
    first | refine jfi hσ rfl rfl rfl rfl rfl ?_ | refine jvf hσ rfl rfl rfl rfl rfl ?_
    refine jst hσ rfl rfl rfl rfl rfl ?_
    refine jf8 9 37 12 11 0 2 7 10 rfl rfl rfl rfl rfl rfl rfl rfl ?_
    refine jn ?_
    rw [if_neg (by rw [hc37]; decide)] at hfc
    refine ⟨i + 1, ((Ent.sel [2, 500] (e' := [(0, _), (2, _), (7, _), (9, _)]) rfl rfl ⟨rfl, rfl, rfl, rfl, trivial⟩ rfl).trans Ent.refl), ⟨by omega, hfc.symm.trans hi.2⟩, by omega⟩
  ·
   skip
   refine AWP.exit ?_
   refine jsr ?_
   refine jst hσ rfl rfl rfl rfl rfl ?_
   refine AOps.heap (HS.storeBox hσ rfl rfl rfl rfl rfl rfl rfl rfl rfl rfl rfl) rfl ?_
   refine jnm ?_
   iterate 3 refine jst hσ rfl rfl rfl rfl rfl ?_
   refine jn ?_
   refine AWP.ret ?_
   refine ⟨.inl rfl, _, Ent.refl, _, rfl, ?_⟩
   refine ⟨?_, rfl⟩
   have hle : z.2.length ≤ i := by have := of_decide_eq_false hc25; omega
   have h9 := hi.2
   rw [findC_end hle, ← cutR_of hz] at h9
   rw [cutP_none h9.symm]
   exact .tup (.cons (.agg (.cons .d (.cons .nils .nil))) (.cons (.c .nils) (.cons (.c .d) (.cons (.c .d) .nil))))
theorem c1045 {L : Nat} (h1 : 4096 ≤ L) (h2 : L ≤ 1073741824) {ts : List Tm} (hf : Fs ts) : MC Tryz.prog L 49 [.c (.rs 0 0 ts.length)] [(0, drow ts)] (Outs (resTg (tigP ts)) [(0, drow ts)]) := by
 refine MC.shift 500 rfl ?_
 refine MC.dataH ?_
 have hσ := SgOk.withIns (js := [500]) (SGok (nt := 25) h1 (Nat.le_trans h2 (by decide)))
 refine MC.bodyH hσ Tryz.func49 (by kernel_rfl) rfl rfl rfl (Nat.le_of_ble_eq_true rfl) (fun hF => ?_)
 have hlen := hf.len
 refine jsr ?_
 refine jst hσ rfl rfl rfl rfl rfl ?_
 refine AOps.heap (HS.alloc hσ rfl rfl rfl rfl rfl) rfl ?_
 refine jnm ?_
 refine jn ?_
 refine AWP.seq ?_
 refine jsr ?_
 refine jst hσ rfl rfl rfl rfl rfl ?_
 refine jn ?_
 refine AWP.block ?_
 refine AWP.loopP (X := Nat) (fun i => ⟨[(0, .c (.rs 500 0 ts.length)), (3, .c (.pt 3 0 0)), (4, eI i)], [(3, .box [.d (.int .i64 0), .d .nils]), (500, drow ts)]⟩) (fun i => i ≤ ts.length ∧ tigF ts (ts.length - i) i = tigR ts) (fun i => ts.length - i) 0 (Ent.to ⟨rfl, rfl, rfl, trivial⟩ rfl) ?_ (fun i hi => ?_)
 ·
  exact ⟨Nat.zero_le _, rfl⟩
 refine AWP.seq ?_
 refine jsr ?_
 iterate 2 refine jst hσ rfl rfl rfl rfl rfl ?_
 first | refine jle hσ rfl rfl rfl rfl rfl rfl rfl rfl rfl rfl rfl ?_ | refine jst hσ rfl rfl rfl rfl rfl ?_ | refine jvf hσ rfl rfl rfl rfl rfl ?_
 refine jst hσ rfl rfl rfl rfl rfl ?_
 refine jf4 10 0 3 4 rfl rfl rfl rfl ?_
 refine jn ?_
 refine AWP.cond hσ rfl rfl (fun hc10 => ?_) (fun hc10 => ?_)
 ·
  skip
  refine AWP.skip ?_
  refine AWP.seq ?_
  refine AWP.block ?_
  refine jsr ?_
  have hil : i < ts.length := by have := of_decide_eq_true hc10; omega
  have hget := get_cells hil
  have hti := hf.get hil
  iterate 3 refine jst hσ rfl rfl rfl rfl rfl ?_
  first | refine jin hσ rfl rfl rfl rfl rfl rfl rfl rfl rfl rfl rfl ?_ | refine jix hσ rfl rfl rfl rfl rfl rfl rfl rfl rfl rfl rfl ?_ | refine jvf hσ rfl rfl rfl rfl rfl ?_
  refine jf6 17 14 10 0 3 4 rfl rfl rfl rfl rfl rfl ?_
  refine AOps.inn hσ [500] (bin := [drow ts]) rfl rfl rfl rfl (c1055p (ts := ts) (t := ts.getD i default) h1 h2 hget hti) rfl rfl rfl rfl rfl rfl (B0 := 19000) rfl rfl ?_
  refine AOps.to (Ent.to (e' := [(18, resTm (sharpR ts (ts.getD i default))), (0, .c (.rs 500 0 ts.length)), (3, .c (.pt 3 0 0)), (4, eI i)]) (H' := [(3, .box [.d (.int .i64 0), .d .nils]), (500, drow ts)]) ⟨rfl, rfl, rfl, rfl, trivial⟩ rfl) ?_
  iterate 3 refine jst hσ rfl rfl rfl rfl rfl ?_
  refine jf5 20 19 0 3 4 rfl rfl rfl rfl rfl ?_
  refine AOps.heap (HS.alloc hσ rfl rfl rfl rfl rfl) rfl ?_
  refine jnm ?_
  refine AOps.heap (HS.storeBox hσ rfl rfl rfl rfl rfl rfl rfl rfl rfl rfl rfl) rfl ?_
  refine jnm ?_
  refine jst hσ rfl rfl rfl rfl rfl ?_
  refine jf5 6 5 0 3 4 rfl rfl rfl rfl rfl ?_
  refine jns ?_
  refine jst hσ rfl rfl rfl rfl rfl ?_
  refine jn ?_
  refine AWP.cond hσ rfl rfl (fun hc21 => ?_) (fun hc21 => ?_)
  ·
   skip
   refine AWP.seq ?_
   refine AWP.drawR hσ _ [_, _, _, _] [⟨[], 0, 0, none⟩, ⟨[], 0, 0, none⟩, ⟨[0], 0, 0, none⟩, ⟨[0, 1, 2], 0, 0, some 0⟩] [3] [_, _] rfl rfl (by decide) (by decide) (by kernel_rfl) (And.intro (Val.of hσ rfl rfl) (And.intro (Val.of hσ rfl rfl) (And.intro (Val.of hσ rfl rfl) (And.intro (Eff.storeBox hσ rfl rfl rfl rfl rfl rfl rfl rfl rfl rfl rfl rfl rfl) trivial)))) ?_
   refine AWP.forget [(2, _), (21, _), (6, _), (5, _), (0, _), (3, _), (4, _)] ⟨rfl, rfl, rfl, rfl, rfl, rfl, rfl, trivial⟩ ?_
   refine jnw ?_
   refine AWP.ret ?_
   refine ⟨.inl rfl, _, Ent.refl, _, rfl, ?_⟩
   refine ⟨?_, rfl⟩
   have hg := tigF_T hil hc21
   rw [hi.2] at hg
   rw [tigP_some hg]
   exact .tup (.cons (.c .d) (.cons (.agg (VMs.self rfl)) .nil))
  ·
   skip
   refine AWP.skip ?_
   refine AWP.region ?_
   refine jst hσ rfl rfl rfl rfl rfl ?_
   first | refine jfi hσ rfl rfl rfl rfl rfl ?_ | refine jvf hσ rfl rfl rfl rfl rfl ?_
   refine jst hσ rfl rfl rfl rfl rfl ?_
   refine jf6 4 21 6 5 0 3 rfl rfl rfl rfl rfl rfl ?_
   refine jn ?_
   have hg := tigF_F hil hc21
   refine ⟨i + 1, ((Ent.sel [3, 500] (e' := [(0, _), (3, _), (4, _)]) rfl rfl ⟨rfl, rfl, rfl, trivial⟩ rfl).trans Ent.refl), ⟨by omega, hg.symm.trans hi.2⟩, by omega⟩
 ·
  skip
  refine AWP.exit ?_
  refine jsr ?_
  iterate 2 refine jst hσ rfl rfl rfl rfl rfl ?_
  refine AOps.heap (HS.storeBox hσ rfl rfl rfl rfl rfl rfl rfl rfl rfl rfl rfl) rfl ?_
  refine jnm ?_
  refine jn ?_
  refine AWP.ret ?_
  refine ⟨.inl rfl, _, Ent.refl, _, rfl, ?_⟩
  refine ⟨?_, rfl⟩
  have hie : i = ts.length := by have := of_decide_eq_false hc10; omega
  have h9 := hi.2
  rw [hie, Nat.sub_self] at h9
  rw [tigP_none h9.symm]
  exact .tup (.cons (.c .d) (.cons (.agg (.cons .d (.cons .nils .nil))) .nil))
end Go.Al
namespace Go.Al
open Go.Proofs
set_option linter.unusedVariables false
set_option linter.unusedSimpArgs false
set_option maxRecDepth 10000
set_option maxHeartbeats 4000000
abbrev prvG (ts : List Tm) : Option (List Nd × List Nd) := prvF (15 - ts.length) ts
theorem prvG_full {ts : List Tm} {i : Nat} (hl : ts.length = 14) (h : tigR ts = some i) : prvG ts = none := by
  unfold prvG; rw [show 15 - ts.length = 0 + 1 by omega, prvF, h]; simp only; rw [if_pos hl]
theorem prvG_tig {ts : List Tm} {i : Nat} (hl : ts.length < 14) (h : tigR ts = some i) : prvG ts = (prvG (ts ++ [(sharpR ts (ts.getD i default)).1])).map fun z => (tigNd i :: z.1, z.2) := by
  unfold prvG; rw [List.length_append, List.length_singleton, show 15 - ts.length = (15 - (ts.length + 1)) + 1 by omega, prvF, h]; simp only; rw [if_neg (by omega)]
theorem prvG_clo {ts : List Tm} (hl : ts.length ≤ 14) (h : tigR ts = none) (h2 : (refR ts).2 = true) : prvG ts = some ([cloNd (refR ts).1], []) := by
  unfold prvG; rw [show 15 - ts.length = (14 - ts.length) + 1 by omega, prvF, h]; simp only; rw [if_pos h2]
theorem prvG_nocut {ts : List Tm} (hl : ts.length ≤ 14) (h : tigR ts = none) (h2 : (refR ts).2 = false) (h3 : cutR ts = none) : prvG ts = none := by
  unfold prvG; rw [show 15 - ts.length = (14 - ts.length) + 1 by omega, prvF, h]; simp only; rw [if_neg (by rw [h2]; decide), h3]
theorem prvG_cfull {ts : List Tm} {r : Rw} (hl : ts.length = 14) (h : tigR ts = none) (h2 : (refR ts).2 = false) (h3 : cutR ts = some r) : prvG ts = none := by
  unfold prvG; rw [show 15 - ts.length = 0 + 1 by omega, prvF, h]; simp only; rw [if_neg (by rw [h2]; decide), h3]; simp only; rw [if_pos hl]
theorem prvG_noopp {ts : List Tm} {r : Rw} (hl : ts.length ≤ 14) (h : tigR ts = none) (h2 : (refR ts).2 = false) (h3 : cutR ts = some r) (h4 : (oppT (sharpR ts r.tm).1).2 = false) : prvG ts = none := by
  unfold prvG; rw [show 15 - ts.length = (14 - ts.length) + 1 by omega, prvF, h]; simp only; rw [if_neg (by rw [h2]; decide), h3]; simp only; split
  · rfl
  · rw [if_neg (by rw [h4]; decide)]
theorem prvG_cut {ts : List Tm} {r : Rw} (hl : ts.length < 14) (h : tigR ts = none) (h2 : (refR ts).2 = false) (h3 : cutR ts = some r) (h4 : (oppT (sharpR ts r.tm).1).2 = true) : prvG ts = (prvG (ts ++ [(sharpR ts r.tm).1])).map fun z => (splNd (sharpR ts r.tm).1 :: z.1, z.2 ++ [cloNd (cutMs r)]) := by
  unfold prvG; rw [List.length_append, List.length_singleton, show 15 - ts.length = (15 - (ts.length + 1)) + 1 by omega, prvF, h]; simp only; rw [if_neg (by rw [h2]; decide), h3]; simp only; rw [if_neg (by omega), if_pos h4]
theorem prov_none {s : Sq} {b : Int} (hok : (oppT s.goal).2 = true) (h : prvG (s.facts ++ [(oppT s.goal).1]) = none) : provS s b = ([], false) := by
  unfold prvG at h; rw [List.length_append, List.length_singleton] at h
  unfold provS; rw [if_pos hok, h]
theorem prov_some {s : Sq} {b : Int} {z : List Nd × List Nd} (hok : (oppT s.goal).2 = true) (h : prvG (s.facts ++ [(oppT s.goal).1]) = some z) : provS s b = if ((z.1 ++ z.2).length : Int) ≤ b then (z.1 ++ z.2, true) else ([], false) := by
  unfold prvG at h; rw [List.length_append, List.length_singleton] at h
  unfold provS; rw [if_pos hok, h]
theorem prov_bad {s : Sq} {b : Int} (hok : (oppT s.goal).2 = false) : provS s b = ([], false) := by
  unfold provS; rw [if_neg (by rw [hok]; decide)]
theorem tigP_T {ts : List Tm} (h : 0 ≤ (tigP ts).1) : ∃ i, tigR ts = some i := by
  cases ht : tigR ts with
  | some i => exact ⟨i, rfl⟩
  | none => rw [tigP_none ht] at h; exact absurd h (by decide)
theorem tigP_F {ts : List Tm} (h : ¬ 0 ≤ (tigP ts).1) : tigR ts = none := by
  cases ht : tigR ts with
  | none => rfl
  | some i => rw [tigP_some ht] at h; exact absurd (Int.natCast_nonneg i) h
theorem cutP_T {ts : List Tm} (h : (cutP ts).2.2.2 = true) : ∃ r, cutR ts = some r := by
  cases ht : cutR ts with
  | some r => exact ⟨r, rfl⟩
  | none => rw [cutP_none ht] at h; cases h
theorem cutP_F {ts : List Tm} (h : (cutP ts).2.2.2 = false) : cutR ts = none := by
  cases ht : cutR ts with
  | none => rfl
  | some r => rw [cutP_some ht] at h; cases h
theorem Fs.snoc' {ts : List Tm} {t : Tm} (h : Fs ts) (ht : t.ok = true) (hl : ¬ (ts.length : Int) = 14) : Fs (ts ++ [t]) := h.snoc ht (by omega)
theorem seq_ctx {s : Sq} (hs : seqB s = true) (hok : (oppT s.goal).2 = true) : Fs (s.facts ++ [(oppT s.goal).1]) := by
  obtain ⟨q1, q2, q3⟩ := seqB_spec hs
  exact Fs.snoc ⟨q1, by omega⟩ (oppT_ok hok) (by omega)
abbrev resPv (z : List Nd × Bool) : A := .tup [ands z.1, eB z.2]
theorem resPv_no {H : List (Nat × B)} : VR H (.tup [.c (.d .nils), eB false]) (resPv ([], false)) := .tup (.cons (.c .nils) (.cons (.c .d) .nil))
structure PvI (C : List Tm) (x : List Tm × List Nd × List Nd) : Prop where
  f : Fs x.1
  a : x.2.1.length ≤ x.1.length
  b : x.2.2.length ≤ x.1.length
  e : (prvG x.1).map (fun z => (x.2.1 ++ z.1, z.2 ++ x.2.2)) = prvG C
theorem PvI.none {C : List Tm} {x : List Tm × List Nd × List Nd} (h : PvI C x) (hn : prvG x.1 = none) : prvG C = none := by rw [← h.e, hn]; rfl
theorem PvI.zero {C : List Tm} (h : Fs C) : PvI C (C, [], []) := ⟨h, Nat.zero_le _, Nat.zero_le _, by
  simp only [List.nil_append, List.append_nil]
  cases prvG C <;> rfl⟩
theorem PvI.tig {C : List Tm} {x : List Tm × List Nd × List Nd} {i : Nat} (h : PvI C x) (hl : ¬ (x.1.length : Int) = 14) (hi : tigR x.1 = some i) : PvI C (x.1 ++ [(sharpR x.1 (x.1.getD i default)).1], x.2.1 ++ [tigNd i], x.2.2) := by
  have h14 := h.f.len
  refine ⟨h.f.snoc' (sharp_ok (tigF_some hi).2.2) hl, by simp only [List.length_append, List.length_singleton]; have := h.a; omega, by simp only [List.length_append, List.length_singleton]; have := h.b; omega, ?_⟩
  rw [← h.e, prvG_tig (by omega) hi]
  cases prvG (x.1 ++ [(sharpR x.1 (x.1.getD i default)).1]) <;> simp
theorem PvI.cut {C : List Tm} {x : List Tm × List Nd × List Nd} {r : Rw} (h : PvI C x) (hl : ¬ (x.1.length : Int) = 14) (h0 : tigR x.1 = .none) (h2 : (refR x.1).2 = false) (h3 : cutR x.1 = some r) (h4 : (oppT (sharpR x.1 r.tm).1).2 = true) : PvI C (x.1 ++ [(sharpR x.1 r.tm).1], x.2.1 ++ [splNd (sharpR x.1 r.tm).1], cloNd (cutMs r) :: x.2.2) := by
  have h14 := h.f.len
  refine ⟨h.f.snoc' (sharp_ok (cutR_ok h.f h3).2) hl, by simp only [List.length_append, List.length_singleton]; have := h.a; omega, by simp only [List.length_append, List.length_singleton, List.length_cons]; have := h.b; omega, ?_⟩
  rw [← h.e, prvG_cut (by omega) h0 h2 h3 h4]
  cases prvG (x.1 ++ [(sharpR x.1 r.tm).1]) <;> simp
theorem or14 {o : Bool} {n : Nat} (h : (bif !o then true else decide ((n : Int) = 14)) = true) : o = false ∨ n = 14 := by
  cases o with
  | false => exact .inl rfl
  | true => simp at h; right; omega
theorem or14F {o : Bool} {n : Nat} (h : (bif !o then true else decide ((n : Int) = 14)) = false) : o = true ∧ ¬ (n : Int) = 14 := by
  cases o with
  | false => simp at h
  | true => simp at h; exact ⟨rfl, by omega⟩
theorem c139r {L : Nat} (h1 : 4096 ≤ L) (h2 : L ≤ 1073741824) {s : Sq} (hg : Small s.goal) (hn : s.facts.length ≤ 1000) (hok : (oppT s.goal).2 = true) : MC Tryz.prog L 48 [ptr s.cells] [] (Rows (.tup [.c (.rs 0 0 (s.facts ++ [(oppT s.goal).1]).length), eB true]) [drow (s.facts ++ [(oppT s.goal).1])]) := by
 refine MC.rows ?_
 have hσ := SGok (nt := 23) h1 (Nat.le_trans h2 (by decide))
 refine MC.body hσ Tryz.func48 (by kernel_rfl) rfl rfl (Nat.le_of_ble_eq_true rfl) (fun hF => ?_)
 refine jsr ?_
 iterate 2 refine jst hσ rfl rfl rfl rfl rfl ?_
 refine jns ?_
 iterate 3 refine jst hσ rfl rfl rfl rfl rfl ?_
 refine jf4 9 3 2 0 rfl rfl rfl rfl ?_
 refine AOps.plainD hσ rfl rfl rfl rfl (c181 (t := s.goal) h1 h2 hg) (.cons (.c (.sub rfl)) .nil) rfl rfl rfl rfl (B0 := 11000) rfl rfl ?_
 iterate 3 refine jst hσ rfl rfl rfl rfl rfl ?_
 refine jf5 12 11 3 2 0 rfl rfl rfl rfl rfl ?_
 refine AOps.heap (HS.alloc hσ rfl rfl rfl rfl rfl) rfl ?_
 refine AOps.heap (HS.storeBox hσ rfl rfl rfl rfl rfl rfl rfl rfl rfl rfl rfl) rfl ?_
 refine jst hσ rfl rfl rfl rfl rfl ?_
 refine jf5 5 4 3 2 0 rfl rfl rfl rfl rfl ?_
 refine jn ?_
 refine AWP.seq ?_
 refine jsr ?_
 iterate 2 refine jst hσ rfl rfl rfl rfl rfl ?_
 refine jf5 14 4 3 2 0 rfl rfl rfl rfl rfl ?_
 refine jn ?_
 refine AWP.cond hσ rfl rfl (fun hc14 => ?_) (fun hc14 => ?_)
 ·
  try simp only [jcs] at hc14
  rw [hok] at hc14; cases hc14
 ·
  try simp only [jcs] at hc14
  refine AWP.skip ?_
  refine AWP.seq ?_
  refine AWP.forget [(4, _), (0, _)] ⟨rfl, rfl, trivial⟩ ?_
  refine AWP.drawF2 hσ _ [_, _, _, _, _, _, _, _, _, _] [⟨[], 0, 0, none⟩, ⟨[0], 0, 0, none⟩, ⟨[0, 1], 0, 0, none⟩, ⟨[0, 1, 2], 0, 0, none⟩, ⟨[0, 1, 2, 3], 0, 0, some 0⟩, ⟨[], 0, 1, none⟩, ⟨[5], 0, 1, none⟩, ⟨[0, 1, 2, 3, 4, 5, 6], 0, 0, some 1⟩, ⟨[0, 1, 2, 3, 4, 5, 6, 7], 2, 2, none⟩, ⟨[0, 1, 2, 3, 4, 5, 6, 7, 8], 2, 2, none⟩] [4, 7] 6 21 (.row false 2 [Tm.cells (oppT s.goal).1]) [_, _] [_] [[], [20000]] rfl rfl (by decide) (by decide) (by decide) rfl (by kernel_rfl) (And.intro (And.intro (and_flip (Val.of hσ rfl rfl) (Val.of hσ rfl rfl)) rfl) (And.intro (And.intro (and_flip (Val.of hσ rfl rfl) (Val.of hσ rfl rfl)) rfl) (And.intro (And.intro (and_flip (Val.of hσ rfl rfl) (Val.of hσ rfl rfl)) rfl) (And.intro (And.intro (and_flip (Val.of hσ rfl rfl) (Val.of hσ rfl rfl)) rfl) (And.intro (And.intro (and_flip (Eff.p (Eff.rowsD hσ (B0 := 20000) rfl rfl rfl rfl (c86r (ts := s.facts) h1 h2) (VAs.self rfl) rfl rfl rfl rfl)) (Eff.p (Eff.rowsD hσ (B0 := 20000) rfl rfl rfl rfl (c86r (ts := s.facts) h1 h2) (VAs.self rfl) rfl rfl rfl rfl))) rfl) (And.intro (And.intro (And.intro (and_flip (Val.of hσ rfl rfl) (Val.of hσ rfl rfl)) rfl) (And.intro (and_flip (Val.of hσ rfl rfl) (Val.of hσ rfl rfl)) rfl)) (And.intro (And.intro (And.intro (Eff.p (Eff.litD hσ rfl rfl rfl rfl rfl rfl rfl rfl rfl rfl rfl rfl rfl rfl)) rfl) (And.intro (Eff.p (Eff.litD hσ rfl rfl rfl rfl rfl rfl rfl rfl rfl rfl rfl rfl rfl rfl)) rfl)) (And.intro (And.intro (and_flip trivial (Eff.appCopy (own := false) (xs := s.facts.map Tm.cells) (ys := [Tm.cells (oppT s.goal).1]) (zs := (s.facts ++ [(oppT s.goal).1]).map Tm.cells) (n := (s.facts ++ [(oppT s.goal).1]).length) hσ rfl rfl rfl rfl rfl rfl rfl rfl rfl rfl rfl rfl rfl rfl rfl rfl (.row rfl (List.length_map _).symm) (.whole rfl rfl (.inr ⟨rfl, rfl⟩)) (by simp) rfl (by simp; omega) (by simp; omega) (by simp) (by simp) rfl)) rfl) (And.intro (And.intro (and_flip trivial (Val.of hσ rfl rfl)) rfl) (And.intro (And.intro (and_flip trivial (Val.of hσ rfl rfl)) rfl) trivial)))))))))) ?_
  refine AWP.forget [(3, _), (2, _), (4, _), (0, _)] ⟨rfl, rfl, rfl, rfl, trivial⟩ ?_
  refine jnw ?_
  refine AWP.ret ?_
  refine ⟨.inl rfl, _, Ent.refl, _, rfl, [22], by decide, rfl, rfl, rfl⟩
theorem c1038t {L : Nat} (h1 : 4096 ≤ L) (h2 : L ≤ 1073741824) {s : Sq} {b : Int} (hs : seqB s = true) (hb : 1 ≤ b ∧ b ≤ 60) (hok : (oppT s.goal).2 = true) : MC Tryz.prog L 31 [ptr s.cells, eI b] [] (Plain (resPv (provS s b))) := by
 refine MC.data ?_
 have hσ := SGok (nt := 104) h1 (Nat.le_trans h2 (by decide))
 refine MC.body hσ Tryz.func31 (by kernel_rfl) rfl rfl (Nat.le_of_ble_eq_true rfl) (fun hF => ?_)
 obtain ⟨hs1, hs2, hs3⟩ := seqB_spec hs
 refine jsr ?_
 iterate 2 refine jst hσ rfl rfl rfl rfl rfl ?_
 refine jns ?_
 refine jst hσ rfl rfl rfl rfl rfl ?_
 refine jf4 19 5 4 1 rfl rfl rfl rfl ?_
 refine AOps.rowsD hσ (B0 := 21000) rfl rfl rfl rfl (c139r (s := s) h1 h2 (Small.of hs3) (by omega) hok) (VAs.self rfl) rfl rfl rfl rfl rfl ?_
 iterate 5 refine jst hσ rfl rfl rfl rfl rfl ?_
 refine jf5 7 6 5 4 1 rfl rfl rfl rfl rfl ?_
 refine jn ?_
 refine AWP.seq ?_
 refine jsr ?_
 iterate 2 refine jst hσ rfl rfl rfl rfl rfl ?_
 refine jf5 24 6 5 4 1 rfl rfl rfl rfl rfl ?_
 refine jn ?_
 refine AWP.cond hσ rfl rfl (fun hc24 => ?_) (fun hc24 => ?_)
 ·
  skip
  exact absurd hc24 (by decide)
 ·
  skip
  refine AWP.skip ?_
  refine jsr ?_
  refine AOps.heap (HS.litD hσ rfl rfl rfl rfl rfl rfl rfl rfl rfl rfl rfl) rfl ?_
  refine jnm ?_
  refine jst hσ rfl rfl rfl rfl rfl ?_
  refine jf5 8 6 5 4 1 rfl rfl rfl rfl rfl ?_
  refine jns ?_
  refine AOps.heap (HS.litD hσ rfl rfl rfl rfl rfl rfl rfl rfl rfl rfl rfl) rfl ?_
  refine jnm ?_
  refine jst hσ rfl rfl rfl rfl rfl ?_
  refine jn ?_
  refine AWP.seq ?_
  refine AWP.block ?_
  refine AWP.loopP (X := List Tm × List Nd × List Nd) (fun x => ⟨[(1, eI b), (6, .c (.rs 901 0 x.1.length)), (8, .c (.rs 902 0 x.2.1.length)), (9, .c (.rs 903 0 x.2.2.length))], [(902, nrows x.2.1), (903, nrows x.2.2), (901, drow x.1)]⟩) (fun x => PvI (s.facts ++ [(oppT s.goal).1]) x) (fun x => 15 - x.1.length) ((s.facts ++ [(oppT s.goal).1]), [], []) (((((Ent.sel [25, 26, 21000] (e' := [(1, _), (6, _), (8, _), (9, _)]) rfl rfl ⟨rfl, rfl, rfl, rfl, trivial⟩ rfl).trans (Ent.sub2 25 902 rfl rfl)).trans (Ent.sub2 26 903 rfl rfl)).trans (Ent.sub2 21000 901 rfl rfl))) ?_ (fun x hi => ?_)
  ·
   exact PvI.zero (seq_ctx hs hok)
  refine AWP.block ?_
  refine jsr ?_
  have hlen := hi.f.len; have hla := hi.a; have hlb := hi.b
  refine jst hσ rfl rfl rfl rfl rfl ?_
  refine AOps.inn hσ [901] (bin := [drow x.1]) rfl rfl rfl rfl (c1045 (ts := x.1) h1 h2 hi.f) rfl rfl rfl rfl rfl rfl (B0 := 30000) rfl rfl ?_
  refine AOps.to (Ent.to (e' := [(29, resTg (tigP x.1)), (1, eI b), (6, .c (.rs 901 0 x.1.length)), (8, .c (.rs 902 0 x.2.1.length)), (9, .c (.rs 903 0 x.2.2.length))]) (H' := [(902, nrows x.2.1), (903, nrows x.2.2), (901, drow x.1)]) ⟨rfl, rfl, rfl, rfl, rfl, trivial⟩ rfl) ?_
  iterate 3 refine jst hσ rfl rfl rfl rfl rfl ?_
  refine jf6 31 30 1 6 8 9 rfl rfl rfl rfl rfl rfl ?_
  refine AOps.heap (HS.alloc hσ rfl rfl rfl rfl rfl) rfl ?_
  refine jnm ?_
  refine jst hσ rfl rfl rfl rfl rfl ?_
  refine jf7 10 11 31 1 6 8 9 rfl rfl rfl rfl rfl rfl rfl ?_
  refine AOps.heap (HS.storeBox hσ rfl rfl rfl rfl rfl rfl rfl rfl rfl rfl rfl) rfl ?_
  refine jnm ?_
  refine jn ?_
  refine AWP.seq ?_
  refine jsr ?_
  iterate 2 refine jst hσ rfl rfl rfl rfl rfl ?_
  refine jn ?_
  refine AWP.cond hσ rfl rfl (fun hc33 => ?_) (fun hc33 => ?_)
  ·
   skip
   refine AWP.seq ?_
   refine jsr ?_
   obtain ⟨i, hti⟩ := tigP_T (of_decide_eq_true hc33)
   rw [tigP_some hti]
   refine jst hσ rfl rfl rfl rfl rfl ?_
   first | refine jle hσ rfl rfl rfl rfl rfl rfl rfl rfl rfl rfl rfl ?_ | refine jst hσ rfl rfl rfl rfl rfl ?_ | refine jvf hσ rfl rfl rfl rfl rfl ?_
   refine jst hσ rfl rfl rfl rfl rfl ?_
   refine jf10 36 33 32 10 11 31 1 6 8 9 rfl rfl rfl rfl rfl rfl rfl rfl rfl rfl ?_
   refine jn ?_
   refine AWP.cond hσ rfl rfl (fun hc36 => ?_) (fun hc36 => ?_)
   ·
    skip
    refine jsr ?_
    iterate 2 refine jst hσ rfl rfl rfl rfl rfl ?_
    refine jn ?_
    refine AWP.ret ?_
    refine ⟨.inl rfl, _, Ent.refl, _, rfl, ?_⟩
    rw [prov_none hok (hi.none (prvG_full (by have := of_decide_eq_true hc36; omega) hti))]
    exact resPv_no
   ·
    skip
    refine AWP.skip ?_
    refine jsr ?_
    iterate 3 refine jst hσ rfl rfl rfl rfl rfl ?_
    refine jf12 39 37 36 33 32 10 11 31 1 6 8 9 rfl rfl rfl rfl rfl rfl rfl rfl rfl rfl rfl rfl ?_
    refine AOps.heap (HS.litD hσ rfl rfl rfl rfl rfl rfl rfl rfl rfl rfl rfl) rfl ?_
    refine AOps.to (Ent.rowLe 40 rfl (NLess.cons (ys := []) (y := Nd.cells (tigNd i)) (.cons .refl (.cons .refl (.cons .refl (.cons (.nil (sz := 1)) (.cons (.nil (sz := 1)) .nil))))) .nil)) ?_
    refine jnm ?_
    refine jnm ?_
    refine jf12 40 37 36 33 32 10 11 31 1 6 8 9 rfl rfl rfl rfl rfl rfl rfl rfl rfl rfl rfl rfl ?_
    refine AOps.heap (HS.appCopy (own := false) (xs := (x.2.1).map Nd.cells) (ys := [Nd.cells (tigNd i)]) (zs := (x.2.1 ++ [tigNd i]).map Nd.cells) (n := (x.2.1 ++ [tigNd i]).length) hσ rfl rfl rfl rfl rfl rfl rfl rfl rfl rfl rfl rfl rfl rfl rfl rfl (.row rfl (List.length_map _).symm) (.whole rfl rfl (.inr ⟨rfl, rfl⟩)) (by simp) rfl (by simp only [List.length_map, List.length_append, List.length_singleton, List.length_cons, List.length_nil]; omega) (by simp only [List.length_map, List.length_append, List.length_singleton, List.length_cons, List.length_nil]; omega) (by rw [List.map_append]; rfl) (List.length_map _)) rfl ?_
    refine jnm ?_
    refine jnm ?_
    refine jst hσ rfl rfl rfl rfl rfl ?_
    refine jf10 8 36 33 32 10 11 31 1 6 9 rfl rfl rfl rfl rfl rfl rfl rfl rfl rfl ?_
    refine jns ?_
    iterate 2 refine jst hσ rfl rfl rfl rfl rfl ?_
    refine AOps.heap (HS.litD hσ rfl rfl rfl rfl rfl rfl rfl rfl rfl rfl rfl) rfl ?_
    refine jnm ?_
    refine jf12 44 42 8 36 33 32 10 11 31 1 6 9 rfl rfl rfl rfl rfl rfl rfl rfl rfl rfl rfl rfl ?_
    refine AOps.heap (HS.appCopy (own := false) (xs := (x.1).map Tm.cells) (ys := [Tm.cells (sharpR x.1 (x.1.getD i default)).1]) (zs := (x.1 ++ [(sharpR x.1 (x.1.getD i default)).1]).map Tm.cells) (n := (x.1 ++ [(sharpR x.1 (x.1.getD i default)).1]).length) hσ rfl rfl rfl rfl rfl rfl rfl rfl rfl rfl rfl rfl rfl rfl rfl rfl (.row rfl (List.length_map _).symm) (.whole rfl rfl (.inr ⟨rfl, rfl⟩)) (by simp) rfl (by simp only [List.length_map, List.length_append, List.length_singleton, List.length_cons, List.length_nil]; omega) (by simp only [List.length_map, List.length_append, List.length_singleton, List.length_cons, List.length_nil]; omega) (by rw [List.map_append]; rfl) (List.length_map _)) rfl ?_
    refine jnm ?_
    refine jnm ?_
    refine jst hσ rfl rfl rfl rfl rfl ?_
    refine jf10 6 8 36 33 32 10 11 31 1 9 rfl rfl rfl rfl rfl rfl rfl rfl rfl rfl ?_
    refine jn ?_
    refine AWP.exit ?_
    refine ⟨(x.1 ++ [(sharpR x.1 (x.1.getD i default)).1], x.2.1 ++ [tigNd i], x.2.2), (((Ent.sel [41, 903, 45] (e' := [(1, _), (6, _), (8, _), (9, _)]) rfl rfl ⟨rfl, rfl, rfl, rfl, trivial⟩ rfl).trans (Ent.sub2 41 902 rfl rfl)).trans (Ent.sub2 45 901 rfl rfl)), hi.tig (of_decide_eq_false hc36) hti, by simp only [List.length_append, List.length_singleton]; have := of_decide_eq_false hc36; omega⟩
  ·
   skip
   refine AWP.skip ?_
   refine jsr ?_
   have htn := tigP_F (of_decide_eq_false hc33)
   refine AOps.to (Ent.sel [902, 903, 901] (e' := [(1, _), (6, _), (8, _), (9, _)]) rfl rfl ⟨rfl, rfl, rfl, rfl, trivial⟩ rfl) ?_
   refine jst hσ rfl rfl rfl rfl rfl ?_
   refine AOps.inn hσ [901] (bin := [drow x.1]) rfl rfl rfl rfl (c1046 (ts := x.1) h1 h2 hi.f) rfl rfl rfl rfl rfl rfl (B0 := 49000) rfl rfl ?_
   refine AOps.to (Ent.to (e' := [(48, resMs (refR x.1)), (1, eI b), (6, .c (.rs 901 0 x.1.length)), (8, .c (.rs 902 0 x.2.1.length)), (9, .c (.rs 903 0 x.2.2.length))]) (H' := [(902, nrows x.2.1), (903, nrows x.2.2), (901, drow x.1)]) ⟨rfl, rfl, rfl, rfl, rfl, trivial⟩ rfl) ?_
   iterate 5 refine jst hσ rfl rfl rfl rfl rfl ?_
   refine jf6 13 12 1 6 8 9 rfl rfl rfl rfl rfl rfl ?_
   refine jn ?_
   refine AWP.seq ?_
   refine jsr ?_
   refine jst hσ rfl rfl rfl rfl rfl ?_
   refine jn ?_
   refine AWP.cond hσ rfl rfl (fun hc51 => ?_) (fun hc51 => ?_)
   ·
    skip
    refine jsr ?_
    refine jst hσ rfl rfl rfl rfl rfl ?_
    have hrl := (refR_ok hi.f hc51).2
    refine jst hσ rfl rfl rfl rfl rfl ?_
    refine jf8 53 52 51 13 1 6 8 9 rfl rfl rfl rfl rfl rfl rfl rfl ?_
    refine AOps.plainD hσ rfl rfl rfl rfl (c151d (xs := (refR x.1).1) h1 h2) (VAs.self rfl) rfl rfl rfl rfl (B0 := 55000) rfl rfl ?_
    refine jst hσ rfl rfl rfl rfl rfl ?_
    refine jf8 55 52 51 13 1 6 8 9 rfl rfl rfl rfl rfl rfl rfl rfl ?_
    refine AOps.heap (HS.litD hσ rfl rfl rfl rfl rfl rfl rfl rfl rfl rfl rfl) rfl ?_
    refine AOps.to (Ent.rowLe 56 rfl (NLess.cons (ys := []) (y := Nd.cells (cloNd (refR x.1).1)) (.cons .refl (.cons .refl (.cons .refl (.cons (.nil (sz := 1)) (.cons .refl .nil))))) .nil)) ?_
    refine jnm ?_
    refine jnm ?_
    refine jf8 56 52 51 13 1 6 8 9 rfl rfl rfl rfl rfl rfl rfl rfl ?_
    refine AOps.heap (HS.appCopy (own := false) (xs := (x.2.1).map Nd.cells) (ys := [Nd.cells (cloNd (refR x.1).1)]) (zs := (x.2.1 ++ [cloNd (refR x.1).1]).map Nd.cells) (n := (x.2.1 ++ [cloNd (refR x.1).1]).length) hσ rfl rfl rfl rfl rfl rfl rfl rfl rfl rfl rfl rfl rfl rfl rfl rfl (.row rfl (List.length_map _).symm) (.whole rfl rfl (.inr ⟨rfl, rfl⟩)) (by simp) rfl (by simp only [List.length_map, List.length_append, List.length_singleton, List.length_cons, List.length_nil]; omega) (by simp only [List.length_map, List.length_append, List.length_singleton, List.length_cons, List.length_nil]; omega) (by rw [List.map_append]; rfl) (List.length_map _)) rfl ?_
    refine jnm ?_
    refine jnm ?_
    refine jst hσ rfl rfl rfl rfl rfl ?_
    refine jf6 8 51 13 1 6 9 rfl rfl rfl rfl rfl rfl ?_
    refine jn ?_
    refine AWP.exit ?_
    refine jsr ?_
    iterate 2 refine jst hσ rfl rfl rfl rfl rfl ?_
    refine AOps.heap (HS.appCopy (own := false) (xs := (x.2.1 ++ [cloNd (refR x.1).1]).map Nd.cells) (zs := (x.2.1 ++ [cloNd (refR x.1).1] ++ x.2.2).map Nd.cells) (n := (x.2.1 ++ [cloNd (refR x.1).1] ++ x.2.2).length) hσ rfl rfl rfl rfl rfl rfl rfl rfl rfl rfl rfl rfl rfl rfl rfl rfl (.row rfl (List.length_map _).symm) (.whole rfl (List.length_map _).symm (.inr ⟨rfl, rfl⟩)) (by simp) rfl (by simp only [List.length_map, List.length_append, List.length_singleton, List.length_cons, List.length_nil]; omega) (by simp only [List.length_map, List.length_append, List.length_singleton, List.length_cons, List.length_nil]; omega) (by rw [← List.map_append]) (List.length_map _)) rfl ?_
    refine jnm ?_
    refine jnm ?_
    refine jst hσ rfl rfl rfl rfl rfl ?_
    refine jf6 8 51 13 1 6 9 rfl rfl rfl rfl rfl rfl ?_
    refine jn ?_
    refine AWP.seq ?_
    refine jsr ?_
    refine jst hσ rfl rfl rfl rfl rfl ?_
    have hz := hi.e
    rw [prvG_clo (by omega) htn hc51] at hz
    have hpv := prov_some (b := b) hok hz.symm
    have hl9 : (x.2.1 ++ [cloNd (refR x.1).1] ++ x.2.2).length ≤ 40 := by simp only [List.length_append, List.length_singleton]; omega
    refine jvf hσ rfl rfl rfl rfl rfl ?_
    iterate 2 refine jst hσ rfl rfl rfl rfl rfl ?_
    refine jf7 102 8 51 13 1 6 9 rfl rfl rfl rfl rfl rfl rfl ?_
    refine jn ?_
    refine AWP.cond hσ rfl rfl (fun hc102 => ?_) (fun hc102 => ?_)
    ·
     skip
     refine jsr ?_
     iterate 2 refine jst hσ rfl rfl rfl rfl rfl ?_
     refine jn ?_
     refine AWP.ret ?_
     refine ⟨.inl rfl, _, Ent.refl, _, rfl, ?_⟩
     rw [hpv, if_neg (by have := of_decide_eq_true hc102; simpa using this)]
     exact resPv_no
    ·
     skip
     refine AWP.skip ?_
     refine jsr ?_
     iterate 3 refine jst hσ rfl rfl rfl rfl rfl ?_
     refine jn ?_
     refine AWP.ret ?_
     refine ⟨.inl rfl, _, Ent.refl, _, rfl, ?_⟩
     rw [hpv, if_pos (by have := of_decide_eq_false hc102; simpa using this)]
     exact .tup (.cons (.c (.whole rfl (by simp))) (.cons (.c .d) .nil))
   ·
    skip
    refine AWP.skip ?_
    refine jsr ?_
    have hrf : (refR x.1).2 = false := hc51
    refine AOps.to (Ent.sel [902, 903, 901] (e' := [(1, _), (6, _), (8, _), (9, _)]) rfl rfl ⟨rfl, rfl, rfl, rfl, trivial⟩ rfl) ?_
    refine jst hσ rfl rfl rfl rfl rfl ?_
    refine AOps.inn hσ [901] (bin := [drow x.1]) rfl rfl rfl rfl (c1047 (ts := x.1) h1 h2 hi.f) rfl rfl rfl rfl rfl rfl (B0 := 61000) rfl rfl ?_
    refine AOps.to (Ent.to (e' := [(60, resCt (cutP x.1)), (1, eI b), (6, .c (.rs 901 0 x.1.length)), (8, .c (.rs 902 0 x.2.1.length)), (9, .c (.rs 903 0 x.2.2.length))]) (H' := [(902, nrows x.2.1), (903, nrows x.2.2), (901, drow x.1)]) ⟨rfl, rfl, rfl, rfl, rfl, trivial⟩ rfl) ?_
    iterate 5 refine jst hσ rfl rfl rfl rfl rfl ?_
    refine jf8 64 63 62 61 1 6 8 9 rfl rfl rfl rfl rfl rfl rfl rfl ?_
    refine AOps.heap (HS.alloc hσ rfl rfl rfl rfl rfl) rfl ?_
    refine jnm ?_
    refine AOps.heap (HS.storeBox hσ rfl rfl rfl rfl rfl rfl rfl rfl rfl rfl rfl) rfl ?_
    refine jnm ?_
    iterate 3 refine jst hσ rfl rfl rfl rfl rfl ?_
    refine jf8 17 16 15 14 1 6 8 9 rfl rfl rfl rfl rfl rfl rfl rfl ?_
    refine jn ?_
    refine AWP.seq ?_
    refine jsr ?_
    iterate 3 refine jst hσ rfl rfl rfl rfl rfl ?_
    refine jf9 67 17 16 15 14 1 6 8 9 rfl rfl rfl rfl rfl rfl rfl rfl rfl ?_
    refine AOps.gr 3 rfl rfl rfl (fun hx => AN.step hx rfl rfl rfl (Val.of hσ rfl rfl) rfl rfl ( AN.step hx rfl rfl rfl (Val.vif hσ rfl rfl (by first | omega | (simp at *; omega))) rfl rfl ( AN.step hx rfl rfl rfl (Val.of hσ rfl rfl) rfl rfl ( AN.nil)))) rfl rfl ?_
    first | refine AOps.step (Val.pickF hσ rfl rfl rfl rfl rfl) rfl rfl rfl ?_ | refine AOps.step (Val.pickB hσ rfl rfl rfl rfl rfl) rfl rfl rfl ?_ | refine AOps.step (Val.pickT hσ rfl rfl rfl rfl rfl) rfl rfl rfl ?_
    refine jf9 71 17 16 15 14 1 6 8 9 rfl rfl rfl rfl rfl rfl rfl rfl rfl ?_
    refine jn ?_
    refine AWP.cond hσ rfl rfl (fun hc71 => ?_) (fun hc71 => ?_)
    ·
     skip
     refine jsr ?_
     iterate 2 refine jst hσ rfl rfl rfl rfl rfl ?_
     refine jn ?_
     refine AWP.ret ?_
     refine ⟨.inl rfl, _, Ent.refl, _, rfl, ?_⟩
     rw [prov_none hok (hi.none (by rcases or14 hc71 with h | h; exact prvG_nocut hlen htn hrf (cutP_F h); cases hcr : cutR x.1 with | none => exact prvG_nocut hlen htn hrf hcr | some r => exact prvG_cfull h htn hrf hcr))]
     exact resPv_no
    ·
     skip
     refine AWP.skip ?_
     refine jsr ?_
     obtain ⟨hcT, h14⟩ := or14F hc71
     obtain ⟨r, hcr⟩ := cutP_T hcT
     obtain ⟨hro, hsr⟩ := cutR_ok hi.f hcr
     have hTo := sharp_ok hsr
     have hrn := hro.n
     rw [cutP_some hcr]
     dsimp only
     refine AOps.to (Ent.freeze 14 (e' := [(14, _), (15, _), (16, _), (1, _), (6, _), (8, _), (9, _)]) rfl (.cons rfl (.c (.box (cs := Tm.cells (sharpR x.1 r.tm).1) rfl (VMs.self rfl))) (.cons rfl (.keep rfl) (.cons rfl (.keep rfl) (.cons rfl (.keep rfl) (.cons rfl (.keep rfl) (.cons rfl (.keep rfl) (.cons rfl (.keep rfl) .nil))))))) (.skip (.cons rfl .row (.cons rfl .row (.cons rfl .row .nil))))) ?_
     refine AOps.plainD hσ rfl rfl rfl rfl (c181 (t := (sharpR x.1 r.tm).1) h1 h2 (Small.of hTo)) (VAs.self rfl) rfl rfl rfl rfl (B0 := 74000) rfl rfl ?_
     iterate 4 refine jst hσ rfl rfl rfl rfl rfl ?_
     refine jf8 17 14 15 16 1 6 8 9 rfl rfl rfl rfl rfl rfl rfl rfl ?_
     refine jn ?_
     refine AWP.seq ?_
     refine jsr ?_
     iterate 2 refine jst hσ rfl rfl rfl rfl rfl ?_
     refine jn ?_
     refine AWP.cond hσ rfl rfl (fun hc77 => ?_) (fun hc77 => ?_)
     ·
      skip
      refine jsr ?_
      iterate 2 refine jst hσ rfl rfl rfl rfl rfl ?_
      refine jn ?_
      refine AWP.ret ?_
      refine ⟨.inl rfl, _, Ent.refl, _, rfl, ?_⟩
      rw [prov_none hok (hi.none (prvG_noopp hlen htn hrf hcr (by simpa using hc77)))]
      exact resPv_no
     ·
      skip
      refine AWP.skip ?_
      refine jsr ?_
      have hop : (oppT (sharpR x.1 r.tm).1).2 = true := by simpa using hc77
      iterate 3 refine jst hσ rfl rfl rfl rfl rfl ?_
      refine jf12 80 78 77 76 17 14 15 16 1 6 8 9 rfl rfl rfl rfl rfl rfl rfl rfl rfl rfl rfl rfl ?_
      refine AOps.heap (HS.litD hσ rfl rfl rfl rfl rfl rfl rfl rfl rfl rfl rfl) rfl ?_
      refine AOps.to (Ent.rowLe 81 rfl (NLess.cons (ys := []) (y := Nd.cells (splNd (sharpR x.1 r.tm).1)) (.cons .refl (.cons .refl (.cons .refl (.cons .refl (.cons (.nil (sz := 1)) .nil))))) .nil)) ?_
      refine jnm ?_
      refine jnm ?_
      refine jf12 81 78 77 76 17 14 15 16 1 6 8 9 rfl rfl rfl rfl rfl rfl rfl rfl rfl rfl rfl rfl ?_
      refine AOps.heap (HS.appCopy (own := false) (xs := (x.2.1).map Nd.cells) (ys := [Nd.cells (splNd (sharpR x.1 r.tm).1)]) (zs := (x.2.1 ++ [splNd (sharpR x.1 r.tm).1]).map Nd.cells) (n := (x.2.1 ++ [splNd (sharpR x.1 r.tm).1]).length) hσ rfl rfl rfl rfl rfl rfl rfl rfl rfl rfl rfl rfl rfl rfl rfl rfl (.row rfl (List.length_map _).symm) (.whole rfl rfl (.inr ⟨rfl, rfl⟩)) (by simp) rfl (by simp only [List.length_map, List.length_append, List.length_singleton, List.length_cons, List.length_nil]; omega) (by simp only [List.length_map, List.length_append, List.length_singleton, List.length_cons, List.length_nil]; omega) (by rw [List.map_append]; rfl) (List.length_map _)) rfl ?_
      refine jnm ?_
      refine jnm ?_
      refine jst hσ rfl rfl rfl rfl rfl ?_
      refine jf10 8 77 76 17 14 15 16 1 6 9 rfl rfl rfl rfl rfl rfl rfl rfl rfl rfl ?_
      refine jns ?_
      refine AOps.to (Ent.sel [82, 903, 901] (e' := [(14, _), (15, _), (16, _), (1, _), (6, _), (8, _), (9, _)]) rfl rfl ⟨rfl, rfl, rfl, rfl, rfl, rfl, rfl, trivial⟩ rfl) ?_
      refine jst hσ rfl rfl rfl rfl rfl ?_
      refine jf7 83 14 16 1 6 8 9 rfl rfl rfl rfl rfl rfl rfl ?_
      refine AOps.rowsD hσ (B0 := 85000) rfl rfl rfl rfl (c151 (xs := r.ms) h1 h2) (VAs.self rfl) rfl rfl rfl rfl rfl ?_
      refine jst hσ rfl rfl rfl rfl rfl ?_
      refine jf7 85 84 14 1 6 8 9 rfl rfl rfl rfl rfl rfl rfl ?_
      refine AOps.heap (HS.lit hσ rfl rfl rfl) rfl ?_
      refine jnm ?_
      refine jnm ?_
      refine jf7 86 84 14 1 6 8 9 rfl rfl rfl rfl rfl rfl rfl ?_
      refine AOps.heap (HS.appMove (zs := (cutMs r).map fun n => [.int .i64 n]) (n := (cutMs r).length) hσ rfl rfl rfl rfl rfl rfl rfl rfl rfl rfl rfl rfl rfl rfl rfl rfl (.row rfl (List.length_map _).symm) rfl rfl (by decide) rfl (by simp; omega) (by simp; omega) (List.map_append (f := fun n => [D.int .i64 n]) (l₁ := r.ms) (l₂ := [(gcdL r.tm.xs : Int)])).symm (List.length_map _)) rfl ?_
      refine jnm ?_
      refine jnm ?_
      refine AOps.to (Ent.freeze 87 (e' := [(87, _), (14, _), (1, _), (6, _), (8, _), (9, _)]) rfl (.cons rfl (.c (.row rfl (List.length_map _).symm)) (.cons rfl (.keep rfl) (.cons rfl (.keep rfl) (.cons rfl (.keep rfl) (.cons rfl (.keep rfl) (.cons rfl (.keep rfl) .nil)))))) (by first | exact .skip (.cons rfl .row (.cons rfl .row (.cons rfl .row .nil))) | exact .cons rfl .row (.skip (.cons rfl .row (.cons rfl .row .nil))) | exact .cons rfl .row (.cons rfl .row (.skip (.cons rfl .row .nil))))) ?_
      refine jst hσ rfl rfl rfl rfl rfl ?_
      refine jf6 88 14 1 6 8 9 rfl rfl rfl rfl rfl rfl ?_
      refine AOps.heap (HS.litD hσ rfl rfl rfl rfl rfl rfl rfl rfl rfl rfl rfl) rfl ?_
      refine AOps.to (Ent.rowLe 89 rfl (NLess.cons (ys := []) (y := Nd.cells (cloNd (cutMs r))) (.cons .refl (.cons .refl (.cons .refl (.cons (.nil (sz := 1)) (.cons .refl .nil))))) .nil)) ?_
      refine jnm ?_
      refine jnm ?_
      refine jst hσ rfl rfl rfl rfl rfl ?_
      refine jf7 90 89 14 1 6 8 9 rfl rfl rfl rfl rfl rfl rfl ?_
      refine AOps.heap (HS.appCopy (own := false) (xs := [Nd.cells (cloNd (cutMs r))]) (ys := (x.2.2).map Nd.cells) (zs := (cloNd (cutMs r) :: x.2.2).map Nd.cells) (n := (cloNd (cutMs r) :: x.2.2).length) hσ rfl rfl rfl rfl rfl rfl rfl rfl rfl rfl rfl rfl rfl rfl rfl rfl (.row rfl rfl) (.whole rfl (List.length_map _).symm (.inr ⟨rfl, rfl⟩)) (by simp) rfl (by simp only [List.length_map, List.length_append, List.length_singleton, List.length_cons, List.length_nil]; omega) (by simp only [List.length_map, List.length_append, List.length_singleton, List.length_cons, List.length_nil]; omega) rfl (List.length_map _)) rfl ?_
      refine jnm ?_
      refine jnm ?_
      refine jst hσ rfl rfl rfl rfl rfl ?_
      refine jf5 9 14 1 6 8 rfl rfl rfl rfl rfl ?_
      refine jn ?_
      refine AWP.region ?_
      iterate 2 refine jst hσ rfl rfl rfl rfl rfl ?_
      refine AOps.heap (HS.litD hσ rfl rfl rfl rfl rfl rfl rfl rfl rfl rfl rfl) rfl ?_
      refine jnm ?_
      refine jf7 94 92 9 14 1 6 8 rfl rfl rfl rfl rfl rfl rfl ?_
      refine AOps.heap (HS.appCopy (own := false) (xs := (x.1).map Tm.cells) (ys := [Tm.cells (sharpR x.1 r.tm).1]) (zs := (x.1 ++ [(sharpR x.1 r.tm).1]).map Tm.cells) (n := (x.1 ++ [(sharpR x.1 r.tm).1]).length) hσ rfl rfl rfl rfl rfl rfl rfl rfl rfl rfl rfl rfl rfl rfl rfl rfl (.row rfl (List.length_map _).symm) (.whole rfl rfl (.inr ⟨rfl, rfl⟩)) (by simp) rfl (by simp only [List.length_map, List.length_append, List.length_singleton, List.length_cons, List.length_nil]; omega) (by simp only [List.length_map, List.length_append, List.length_singleton, List.length_cons, List.length_nil]; omega) (by rw [List.map_append]; rfl) (List.length_map _)) rfl ?_
      refine jnm ?_
      refine jnm ?_
      refine jst hσ rfl rfl rfl rfl rfl ?_
      refine jf5 6 9 14 1 8 rfl rfl rfl rfl rfl ?_
      refine jn ?_
      refine ⟨(x.1 ++ [(sharpR x.1 r.tm).1], x.2.1 ++ [splNd (sharpR x.1 r.tm).1], cloNd (cutMs r) :: x.2.2), ((((Ent.sel [82, 91, 95] (e' := [(1, _), (6, _), (8, _), (9, _)]) rfl rfl ⟨rfl, rfl, rfl, rfl, trivial⟩ rfl).trans (Ent.sub2 82 902 rfl rfl)).trans (Ent.sub2 91 903 rfl rfl)).trans (Ent.sub2 95 901 rfl rfl)), hi.cut h14 htn hrf hcr hop, by simp only [List.length_append, List.length_singleton]; omega⟩
theorem c1038f {L : Nat} (h1 : 4096 ≤ L) (h2 : L ≤ 1073741824) {s : Sq} {b : Int} (hs : seqB s = true) (hok : (oppT s.goal).2 = false) : MC Tryz.prog L 31 [ptr s.cells, eI b] [] (Plain (resPv (provS s b))) := by
 refine MC.data ?_
 have hσ := SGok (nt := 104) h1 (Nat.le_trans h2 (by decide))
 refine MC.body hσ Tryz.func31 (by kernel_rfl) rfl rfl (Nat.le_of_ble_eq_true rfl) (fun hF => ?_)
 obtain ⟨hs1, hs2, hs3⟩ := seqB_spec hs
 refine jsr ?_
 iterate 2 refine jst hσ rfl rfl rfl rfl rfl ?_
 refine jns ?_
 refine jst hσ rfl rfl rfl rfl rfl ?_
 refine jf4 19 5 4 1 rfl rfl rfl rfl ?_
 refine AOps.plainD hσ rfl rfl rfl rfl (c139 (s := s) h1 h2 (Small.of hs3) (by omega)) (VAs.self rfl) rfl rfl rfl rfl (B0 := 21000) rfl rfl ?_
 iterate 5 refine jst hσ rfl rfl rfl rfl rfl ?_
 refine jf5 7 6 5 4 1 rfl rfl rfl rfl rfl ?_
 refine jn ?_
 refine AWP.seq ?_
 refine jsr ?_
 iterate 2 refine jst hσ rfl rfl rfl rfl rfl ?_
 refine jf5 24 6 5 4 1 rfl rfl rfl rfl rfl ?_
 refine jn ?_
 refine AWP.cond hσ rfl rfl (fun hc24 => ?_) (fun hc24 => ?_)
 ·
  skip
  refine jsr ?_
  iterate 2 refine jst hσ rfl rfl rfl rfl rfl ?_
  refine jn ?_
  refine AWP.ret ?_
  refine ⟨.inl rfl, _, Ent.refl, _, rfl, ?_⟩
  rw [prov_bad hok]
  exact resPv_no
 ·
  skip
  rw [ctxS_2, hok] at hc24; cases hc24
theorem c1038 {L : Nat} (h1 : 4096 ≤ L) (h2 : L ≤ 1073741824) {s : Sq} {b : Int} (hs : seqB s = true) (hb : 1 ≤ b ∧ b ≤ 60) : MC Tryz.prog L 31 [ptr s.cells, eI b] [] (Plain (resPv (provS s b))) := by
 cases hok : (oppT s.goal).2 with
 | true => exact c1038t h1 h2 hs hb hok
 | false => exact c1038f h1 h2 hs hok
end Go.Al
namespace Go.Al
open Go.Proofs
set_option linter.unusedVariables false
set_option linter.unusedSimpArgs false
set_option maxRecDepth 10000
set_option maxHeartbeats 4000000
theorem zero_tm : (⟨0, []⟩ : Tm).zero = true := by decide
theorem nd_tig {i : Nat} (h : i ≤ 19) : ndB (tigNd i) = true := by
  unfold ndB inB
  rw [if_neg (show ¬ (3 : Int) = 1 by decide), if_neg (show ¬ (3 : Int) = 2 by decide), if_pos rfl, zero_tm, decide_eq_true (show (0 : Int) ≤ (i : Int) by omega), decide_eq_true (show (i : Int) ≤ 19 by omega)]; rfl
theorem nd_spl {t : Tm} (h : t.ok = true) : ndB (splNd t) = true := by
  unfold ndB
  rw [if_neg (show ¬ (2 : Int) = 1 by decide), if_pos rfl, h]; rfl
theorem nd_clo {ms : List Int} (h : ms.all co = true) (hl : ms.length ≤ 20) : ndB (cloNd ms) = true := by
  unfold ndB mulB
  rw [if_pos rfl, zero_tm, h, decide_eq_true (show (ms.length : Int) ≤ 20 by omega)]; rfl
theorem prvF_nd : ∀ {f : Nat} {ts : List Tm} {z : List Nd × List Nd}, Fs ts → prvF f ts = some z → (∀ n ∈ z.1, ndB n = true) ∧ (∀ n ∈ z.2, ndB n = true)
  | 0, _, _, _, h => by cases h
  | f + 1, ts, z, hf, h => by
    have hlen := hf.len
    rw [prvF] at h
    cases ht : tigR ts with
    | some i =>
      rw [ht] at h
      simp only at h
      obtain ⟨_, hi, hs⟩ := tigF_some ht
      split at h
      · cases h
      · rename_i hl
        obtain ⟨y, hy, rfl⟩ := Option.map_eq_some_iff.1 h
        obtain ⟨q1, q2⟩ := prvF_nd (hf.snoc (sharp_ok hs) hl) hy
        refine ⟨fun n hn => ?_, q2⟩
        rcases List.mem_cons.1 hn with rfl | hn
        · exact nd_tig (by omega)
        · exact q1 n hn
    | none =>
      rw [ht] at h
      simp only at h
      split at h
      · rename_i hr
        obtain ⟨r1, r2⟩ := refR_ok hf hr
        simp only [Option.some.injEq] at h; subst h
        exact ⟨fun n hn => by rw [List.mem_singleton.1 hn]; exact nd_clo r1 (by omega), fun n hn => by cases hn⟩
      · split at h
        · cases h
        · rename_i r hc
          obtain ⟨c1, c2⟩ := cutR_ok hf hc
          split at h
          · cases h
          · rename_i hl
            split at h
            · obtain ⟨y, hy, rfl⟩ := Option.map_eq_some_iff.1 h
              obtain ⟨q1, q2⟩ := prvF_nd (hf.snoc (sharp_ok c2) hl) hy
              refine ⟨fun n hn => ?_, fun n hn => ?_⟩
              · rcases List.mem_cons.1 hn with rfl | hn
                · exact nd_spl (sharp_ok c2)
                · exact q1 n hn
              · rcases List.mem_append.1 hn with hn | hn
                · exact q2 n hn
                · rw [List.mem_singleton.1 hn]
                  exact nd_clo (cut_co c1) (by have := c1.n; simp; omega)
            · cases h
theorem prov_nd {s : Sq} {b : Int} (hs : seqB s = true) (h : (provS s b).2 = true) : (∀ n ∈ (provS s b).1, ndB n = true) ∧ ((provS s b).1.length : Int) ≤ b := by
  cases hok : (oppT s.goal).2 with
  | false => rw [prov_bad hok] at h; cases h
  | true =>
    cases hz : prvG (s.facts ++ [(oppT s.goal).1]) with
    | none => rw [prov_none hok hz] at h; cases h
    | some z =>
      rw [prov_some hok hz] at h ⊢
      obtain ⟨q1, q2⟩ := prvF_nd (seq_ctx hs hok) hz
      by_cases hl : ((z.1 ++ z.2).length : Int) ≤ b
      · rw [if_pos hl]
        exact ⟨fun n hn => by
          rcases List.mem_append.1 hn with hn | hn
          · exact q1 n hn
          · exact q2 n hn, hl⟩
      · rw [if_neg hl] at h; cases h
theorem pvT {a b : Bool} (h : (bif !a then true else !b) = true) : (a && b) = false := by cases a <;> cases b <;> simp_all
theorem pvF {a b : Bool} (h : (bif !a then true else !b) = false) : a = true ∧ b = true := by cases a <;> cases b <;> simp_all
theorem budB_in {b : Int} (h : budB b = true) : 1 ≤ b ∧ b ≤ 60 := by simpa [budB] using h
theorem prv_in {s : Sq} {b : Int} (h1 : seqB s = true) (h2 : budB b = true) : prvS s b = provS s b := by unfold prvS; rw [h1, h2]; rfl
theorem nf2 {a : Bool} (h : (!a) = true) : a = false := by simpa using h
theorem nt2 {a : Bool} (h : (!a) = false) : a = true := by simpa using h
theorem c1034 {L : Nat} (h1 : 4096 ≤ L) (h2 : L ≤ 1073741824) {b : Int} : MC Tryz.prog L 15 [eI b] [] (Plain (eB (budB b))) := by
 refine MC.alone ?_ rfl
 have hσ := SGok (nt := 5) h1 (Nat.le_trans h2 (by decide))
 refine MC.body hσ Tryz.func15 (by kernel_rfl) rfl rfl (Nat.le_of_ble_eq_true rfl) (fun hF => ?_)
 refine jsr ?_
 refine jst hσ rfl rfl rfl rfl rfl ?_
 refine jns ?_
 refine jst hσ rfl rfl rfl rfl rfl ?_
 refine AOps.lone hσ rfl rfl rfl rfl (c84 h1 h2) (VAs.self rfl) rfl rfl rfl rfl rfl (B0 := 5000) rfl ?_
 refine jst hσ rfl rfl rfl rfl rfl ?_
 refine jn ?_
 refine AWP.ret ?_
 refine ⟨.inl rfl, _, Ent.refl, _, rfl, ?_⟩
 rfl
theorem c1033 {L : Nat} (h1 : 4096 ≤ L) (h2 : L ≤ 1073741824) {ss : List Sq} : MC Tryz.prog L 14 [asqs ss] [] (Plain (eB (sqsB ss))) := by
 refine MC.alone ?_ rfl
 have hσ := SGok (nt := 18) h1 (Nat.le_trans h2 (by decide))
 refine MC.body hσ Tryz.func14 (by kernel_rfl) rfl rfl (Nat.le_of_ble_eq_true rfl) (fun hF => ?_)
 have hl : ss.length ≤ L := by simpa [As.fact, A.fact, M.fact, D.fact, Ds.fact] using hF.1.1
 refine jsr ?_
 refine jst hσ rfl rfl rfl rfl rfl ?_
 refine jn ?_
 refine AWP.seq ?_
 refine jsr ?_
 refine jst hσ rfl rfl rfl rfl rfl ?_
 refine jn ?_
 refine AWP.block ?_
 refine AWP.loopP (X := Nat) (fun i => ⟨[(0, asqs ss), (3, eI i)], []⟩) (fun i => i ≤ ss.length ∧ ∀ j (h : j < ss.length), j < i → seqB ss[j] = true) (fun i => ss.length - i) 0 (Ent.env ⟨rfl, rfl, trivial⟩) ?_ (fun i hi => ?_)
 ·
  exact ⟨Nat.zero_le _, fun j h hj => absurd hj (Nat.not_lt_zero j)⟩
 refine AWP.seq ?_
 refine jsr ?_
 iterate 2 refine jst hσ rfl rfl rfl rfl rfl ?_
 first | refine jle hσ rfl rfl rfl rfl rfl rfl rfl rfl rfl rfl rfl ?_ | refine jst hσ rfl rfl rfl rfl rfl ?_ | refine jvf hσ rfl rfl rfl rfl rfl ?_
 refine jst hσ rfl rfl rfl rfl rfl ?_
 refine jf3 7 0 3 rfl rfl rfl ?_
 refine jn ?_
 refine AWP.cond hσ rfl rfl (fun hc7 => ?_) (fun hc7 => ?_)
 ·
  try simp only [jcs] at hc7
  refine AWP.skip ?_
  refine AWP.seq ?_
  refine AWP.block ?_
  refine jsr ?_
  iterate 2 refine jst hσ rfl rfl rfl rfl rfl ?_
  first | refine jin hσ rfl rfl rfl rfl rfl rfl rfl rfl rfl rfl rfl ?_ | refine jix hσ rfl rfl rfl rfl rfl rfl rfl rfl rfl rfl rfl ?_ | refine jvf hσ rfl rfl rfl rfl rfl ?_
  refine AOps.reset [(12, _), (7, _), (0, _), (3, _)] [] ⟨rfl, rfl, rfl, rfl, trivial⟩ rfl ?_
  refine AOps.lone hσ rfl rfl rfl rfl (c82 (s := ss.getD i default) h1 h2) (VAs.self rfl) rfl rfl rfl rfl rfl (B0 := 14000) rfl ?_
  refine jst hσ rfl rfl rfl rfl rfl ?_
  refine jf4 14 7 0 3 rfl rfl rfl rfl ?_
  refine jn ?_
  refine AWP.cond hσ rfl rfl (fun hc14 => ?_) (fun hc14 => ?_)
  ·
   try simp only [jcs] at hc14
   refine jsr ?_
   refine jst hσ rfl rfl rfl rfl rfl ?_
   refine jn ?_
   refine AWP.ret ?_
   refine ⟨.inl rfl, _, Ent.refl, _, rfl, ?_⟩
   rw [getD_lt (by omega)] at hc14
   rw [sqsB, all_not i (by omega) hc14, Bool.false_and]
  ·
   try simp only [jcs] at hc14
   refine AWP.skip ?_
   refine AWP.region ?_
   refine jst hσ rfl rfl rfl rfl rfl ?_
   first | refine jfi hσ rfl rfl rfl rfl rfl ?_ | refine jvf hσ rfl rfl rfl rfl rfl ?_
   refine jst hσ rfl rfl rfl rfl rfl ?_
   refine jf4 3 14 7 0 rfl rfl rfl rfl ?_
   refine jn ?_
   refine ⟨i + 1, Ent.env ⟨rfl, rfl, trivial⟩, ⟨by omega, fun j h hj => ?_⟩, by omega⟩
   by_cases e : j = i
   ·
    subst e; rw [getD_lt h] at hc14; exact hc14
   ·
    exact hi.2 j h (by omega)
 ·
  try simp only [jcs] at hc7
  refine AWP.exit ?_
  refine jsr ?_
  refine jst hσ rfl rfl rfl rfl rfl ?_
  first | refine jle hσ rfl rfl rfl rfl rfl rfl rfl rfl rfl rfl rfl ?_ | refine jst hσ rfl rfl rfl rfl rfl ?_ | refine jvf hσ rfl rfl rfl rfl rfl ?_
  iterate 2 refine jst hσ rfl rfl rfl rfl rfl ?_
  refine jf4 2 7 0 3 rfl rfl rfl rfl ?_
  refine jn ?_
  refine AWP.ret ?_
  refine ⟨.inl rfl, _, Ent.refl, _, rfl, ?_⟩
  rw [sqsB, all_of (fun j hj => hi.2 j hj (by omega)), Bool.true_and]
abbrev pfD (s : Sq) (b : Int) : List D := ndC (provS s b).1
abbrev pfrow (ss : List Sq) (b : Int) : B := .row false 1 (ss.map fun s => pfD s b)
theorem all_seq {ss : List Sq} (h : ss.all seqB = true) {i : Nat} (hi : i < ss.length) : seqB (ss.getD i default) = true := by rw [getD_lt hi]; exact List.all_eq_true.1 h _ (List.getElem_mem hi)
theorem allP_get {b : Int} {ss : List Sq} {i : Nat} (h : allP b ss = (ss.take i).map fun s => (provS s b).1) (hi : i ≤ ss.length) : (allP b ss).map ndC = (ss.take i).map fun s => pfD s b := by rw [h, List.map_map]; rfl
theorem c1035 {L : Nat} (h1 : 4096 ≤ L) (h2 : L ≤ 1073741824) {ss : List Sq} {b : Int} (hs : ss.all seqB = true) (hb : 1 ≤ b ∧ b ≤ 60) : MC Tryz.prog L 16 [asqs ss, eI b] [] (Plain (andss (allP b ss))) := by
 refine MC.data ?_
 have hσ := SGok (nt := 31) h1 (Nat.le_trans h2 (by decide))
 refine MC.body hσ Tryz.func16 (by kernel_rfl) rfl rfl (Nat.le_of_ble_eq_true rfl) (fun hF => ?_)
 have hl : ss.length ≤ L := by simpa [As.fact, A.fact, M.fact, D.fact, Ds.fact] using hF.1.1
 refine jsr ?_
 refine jst hσ rfl rfl rfl rfl rfl ?_
 refine jns ?_
 refine AOps.heap (HS.litD hσ rfl rfl rfl rfl rfl rfl rfl rfl rfl rfl rfl) rfl ?_
 refine jnm ?_
 refine jst hσ rfl rfl rfl rfl rfl ?_
 refine jn ?_
 refine AWP.seq ?_
 refine jsr ?_
 refine jst hσ rfl rfl rfl rfl rfl ?_
 refine jn ?_
 refine AWP.block ?_
 refine AWP.loopP (X := Nat) (fun i => ⟨[(0, asqs ss), (1, eI b), (5, .c (.rs 900 0 i)), (6, eI i)], [(900, pfrow (ss.take i) b)]⟩) (fun i => i ≤ ss.length ∧ ∀ j (h : j < ss.length), j < i → (provS ss[j] b).2 = true) (fun i => ss.length - i) 0 ((Ent.sub2 9 900 rfl rfl).trans (Ent.to ⟨rfl, rfl, rfl, rfl, trivial⟩ rfl)) ?_ (fun i hi => ?_)
 ·
  exact ⟨Nat.zero_le _, fun j h hj => absurd hj (Nat.not_lt_zero j)⟩
 refine AWP.seq ?_
 refine jsr ?_
 iterate 2 refine jst hσ rfl rfl rfl rfl rfl ?_
 first | refine jle hσ rfl rfl rfl rfl rfl rfl rfl rfl rfl rfl rfl ?_ | refine jst hσ rfl rfl rfl rfl rfl ?_ | refine jvf hσ rfl rfl rfl rfl rfl ?_
 refine jst hσ rfl rfl rfl rfl rfl ?_
 refine jf5 13 0 1 5 6 rfl rfl rfl rfl rfl ?_
 refine jn ?_
 refine AWP.cond hσ rfl rfl (fun hc13 => ?_) (fun hc13 => ?_)
 ·
  skip
  refine AWP.skip ?_
  refine AWP.seq ?_
  refine AWP.block ?_
  refine jsr ?_
  have hil : i < ss.length := by have := of_decide_eq_true hc13; omega
  iterate 2 refine jst hσ rfl rfl rfl rfl rfl ?_
  first | refine jin hσ rfl rfl rfl rfl rfl rfl rfl rfl rfl rfl rfl ?_ | refine jix hσ rfl rfl rfl rfl rfl rfl rfl rfl rfl rfl rfl ?_ | refine jvf hσ rfl rfl rfl rfl rfl ?_
  refine jst hσ rfl rfl rfl rfl rfl ?_
  refine jf7 20 19 13 0 1 5 6 rfl rfl rfl rfl rfl rfl rfl ?_
  refine AOps.plainD hσ rfl rfl rfl rfl (c1038 (s := ss.getD i default) (b := b) h1 h2 (all_seq hs hil) hb) (VAs.self rfl) rfl rfl rfl rfl (B0 := 22000) rfl rfl ?_
  iterate 5 refine jst hσ rfl rfl rfl rfl rfl ?_
  refine jf7 8 7 13 0 1 5 6 rfl rfl rfl rfl rfl rfl rfl ?_
  refine jn ?_
  refine AWP.seq ?_
  refine jsr ?_
  iterate 2 refine jst hσ rfl rfl rfl rfl rfl ?_
  refine jf7 25 7 13 0 1 5 6 rfl rfl rfl rfl rfl rfl rfl ?_
  refine jn ?_
  refine AWP.cond hσ rfl rfl (fun hc25 => ?_) (fun hc25 => ?_)
  ·
   skip
   refine AWP.exit ?_
   refine jsr ?_
   iterate 2 refine jst hσ rfl rfl rfl rfl rfl ?_
   refine jn ?_
   refine AWP.ret ?_
   refine ⟨.inl rfl, _, Ent.refl, _, rfl, ?_⟩
   have hst := allP_get (allP_stop hil hi.2 (nf2 hc25)) hi.1
   show VR _ _ (.c (.d (.slc 1 ((allP b ss).map ndC))))
   rw [hst]
   exact .v (.c (.whole rfl (by simp; omega)))
  ·
   skip
   refine AWP.skip ?_
   refine AWP.region ?_
   iterate 2 refine jst hσ rfl rfl rfl rfl rfl ?_
   refine jf8 27 26 25 13 0 1 5 6 rfl rfl rfl rfl rfl rfl rfl rfl ?_
   refine AOps.heap (HS.litD hσ rfl rfl rfl rfl rfl rfl rfl rfl rfl rfl rfl) rfl ?_
   refine jnm ?_
   refine jf8 28 26 25 13 0 1 5 6 rfl rfl rfl rfl rfl rfl rfl rfl ?_
   refine AOps.heap (HS.appCopy (own := false) (xs := (ss.take i).map fun s => pfD s b) (ys := [pfD (ss.getD i default) b]) (zs := (ss.take (i + 1)).map fun s => pfD s b) (n := i + 1) hσ rfl rfl rfl rfl rfl rfl rfl rfl rfl rfl rfl rfl rfl rfl rfl rfl (.row rfl (by simp; omega)) (.whole rfl rfl (.inr ⟨rfl, rfl⟩)) (by simp) rfl (by simp; omega) (by simp; omega) (by rw [List.take_succ_eq_append_getElem hil, List.map_append, getD_lt hil]; rfl) (by simp; omega)) rfl ?_
   refine jnm ?_
   refine jst hσ rfl rfl rfl rfl rfl ?_
   refine jf6 5 25 13 0 1 6 rfl rfl rfl rfl rfl rfl ?_
   refine jn ?_
   refine AWP.region ?_
   refine jst hσ rfl rfl rfl rfl rfl ?_
   first | refine jfi hσ rfl rfl rfl rfl rfl ?_ | refine jvf hσ rfl rfl rfl rfl rfl ?_
   refine jst hσ rfl rfl rfl rfl rfl ?_
   refine jf6 6 5 25 13 0 1 rfl rfl rfl rfl rfl rfl ?_
   refine jn ?_
   refine ⟨i + 1, ((Ent.sel [29] (e' := [(0, _), (1, _), (5, _), (6, _)]) rfl rfl ⟨rfl, rfl, rfl, rfl, trivial⟩ rfl).trans (Ent.sub2 29 900 rfl rfl)), ⟨by omega, fun j h hj => ?_⟩, by omega⟩
   by_cases e : j = i
   ·
    subst e; rw [getD_lt h] at hc25; exact nt2 hc25
   ·
    exact hi.2 j h (by omega)
 ·
  skip
  refine AWP.exit ?_
  refine jsr ?_
  iterate 2 refine jst hσ rfl rfl rfl rfl rfl ?_
  refine jn ?_
  refine AWP.ret ?_
  refine ⟨.inl rfl, _, Ent.refl, _, rfl, ?_⟩
  obtain rfl : i = ss.length := by have := of_decide_eq_false hc13; omega
  have hst := allP_get (b := b) (ss := ss) (i := ss.length) (by rw [List.take_length]; exact allP_done fun j hj => hi.2 j hj hj) (Nat.le_refl _)
  show VR _ _ (.c (.d (.slc 1 ((allP b ss).map ndC))))
  rw [hst]
  exact .v (.c (.whole rfl (by simp)))
abbrev resFo (z : Int × Bool) : A := .tup [eI z.1, eB z.2]
theorem sqs_all {ss : List Sq} (h : sqsB ss = true) : ss.all seqB = true ∧ ss.length ≤ 60 := by
  unfold sqsB at h; rw [Bool.and_eq_true, decide_eq_true_eq] at h; exact ⟨h.1, by omega⟩
abbrev resCo (z : List Int × Bool) : A := .tup [aints z.1, eB z.2]
end Go.Al
