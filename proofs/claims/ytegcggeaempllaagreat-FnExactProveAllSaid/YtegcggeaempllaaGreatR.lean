/- The program's prover. -/
import Derived.Test.YtegcggeaempllaaGreatQ
namespace Go.Al
open Go.Proofs
set_option linter.unusedVariables false
set_option linter.unusedSimpArgs false
set_option maxRecDepth 10000
set_option maxHeartbeats 4000000
theorem c189n {L : Nat} (h1 : 4096 ≤ L) (h2 : L ≤ 1073741824) {ts : List Tm} {t : Tm} (h0 : 0 < ts.length) (hl : ts.length ≤ 1000) : MC Tryz.prog L 82 [atms ts, aTm' t] [] (Plain (atms (ts ++ [t]))) := by
 cases ts with
 | nil => exact absurd h0 (by decide)
 | cons c r => exact c189 (c := c) (r := r) (t := t) h1 h2 hl
def fcP (ts : List Tm) : Tm × Rw × Bool := match cutR ts with
  | none => (⟨0, []⟩, ⟨0, [], []⟩, false)
  | some r => ((sharpR ts r.tm).1, r, true)
abbrev resFc (z : Tm × Rw × Bool) : A := .tup [aTm' z.1, aCb z.2.1, eB z.2.2]
theorem fcP_none {ts : List Tm} (h : cutR ts = none) : fcP ts = (⟨0, []⟩, ⟨0, [], []⟩, false) := by unfold fcP; rw [h]
theorem fcP_some {ts : List Tm} {r : Rw} (h : cutR ts = some r) : fcP ts = ((sharpR ts r.tm).1, r, true) := by unfold fcP; rw [h]
theorem fcP_ok {ts : List Tm} (h : Fs ts) : (fcP ts).1.ok = true := by
  cases hc : cutR ts with
  | none => rw [fcP_none hc]; decide
  | some r => rw [fcP_some hc]; exact sharp_ok (cutR_ok h hc).2
theorem c1051 {L : Nat} (h1 : 4096 ≤ L) (h2 : L ≤ 1073741824) {ts : List Tm} (hf : Fs ts) : MC Tryz.prog L 64 [atms ts] [] (Plain (resMs (refR ts))) := by
 refine MC.data ?_
 have hσ := SGok (nt := 35) h1 (Nat.le_trans h2 (by decide))
 refine MC.body hσ Tryz.func64 (by kernel_rfl) rfl rfl (Nat.le_of_ble_eq_true rfl) (fun hF => ?_)
 refine jsr ?_
 iterate 2 refine jst hσ rfl rfl rfl rfl rfl ?_
 refine jn ?_
 refine AWP.seq ?_
 refine jsr ?_
 refine jst hσ rfl rfl rfl rfl rfl ?_
 refine AOps.lone hσ rfl rfl rfl rfl ((c1059 (ts := ts) h1 h2).plain (u := eB true) (congrArg eB hf.all)) (VAs.self rfl) rfl rfl rfl rfl rfl (B0 := 11000) rfl ?_
 refine jst hσ rfl rfl rfl rfl rfl ?_
 refine jf4 11 3 2 0 rfl rfl rfl rfl ?_
 refine jn ?_
 refine AWP.cond hσ rfl rfl (fun hc11 => ?_) (fun hc11 => ?_)
 ·
  skip
  exact absurd hc11 (by decide)
 ·
  skip
  refine AWP.skip ?_
  refine jsr ?_
  refine jst hσ rfl rfl rfl rfl rfl ?_
  refine jf4 13 3 2 0 rfl rfl rfl rfl ?_
  refine AOps.plainD hσ rfl rfl rfl rfl (c1061 (n := 10) h1 h2 (by omega)) (VAs.self rfl) rfl rfl rfl rfl (B0 := 15000) rfl rfl ?_
  refine AOps.plainD hσ rfl rfl rfl rfl (c1060 (ts := ts) h1 h2 hf) (VAs.self rfl) rfl rfl rfl rfl (B0 := 16000) rfl rfl ?_
  iterate 7 refine jst hσ rfl rfl rfl rfl rfl ?_
  refine jf5 6 4 3 2 0 rfl rfl rfl rfl rfl ?_
  refine jn ?_
  refine AWP.seq ?_
  refine jsr ?_
  iterate 2 refine jst hσ rfl rfl rfl rfl rfl ?_
  refine jf5 20 4 3 2 0 rfl rfl rfl rfl rfl ?_
  refine jn ?_
  refine AWP.cond hσ rfl rfl (fun hc20 => ?_) (fun hc20 => ?_)
  ·
   skip
   refine jsr ?_
   iterate 2 refine jst hσ rfl rfl rfl rfl rfl ?_
   refine jn ?_
   refine AWP.ret ?_
   refine ⟨.inl rfl, _, Ent.refl, _, rfl, ?_⟩
   rw [refR_no (evP_F (nf2 hc20))]
   exact .tup (.cons (.c .nils) (.cons (.c .d) .nil))
  ·
   skip
   refine AWP.skip ?_
   refine AWP.seq ?_
   refine jsr ?_
   obtain ⟨z, hz⟩ := evP_T (ts := ts) (nt2 hc20)
   rw [evP_some hz]
   obtain ⟨ha, hal, hb, hbl⟩ := every_ok hf (a := z.1) (b := z.2) hz
   refine jst hσ rfl rfl rfl rfl rfl ?_
   first | refine jle hσ rfl rfl rfl rfl rfl rfl rfl rfl rfl rfl rfl ?_ | refine jst hσ rfl rfl rfl rfl rfl ?_ | refine jvf hσ rfl rfl rfl rfl rfl ?_
   refine jst hσ rfl rfl rfl rfl rfl ?_
   refine jf6 23 22 21 3 2 0 rfl rfl rfl rfl rfl rfl ?_
   refine jn ?_
   refine AWP.block ?_
   refine AWP.loopP (X := Nat) (fun i => ⟨[(21, acbs z.1), (22, eI z.1.length), (23, eI i)], []⟩) (fun i => i ≤ z.1.length ∧ findN (z.1.drop i) = findN z.1) (fun i => z.1.length - i) 0 (Ent.to ⟨rfl, rfl, rfl, trivial⟩ rfl) ?_ (fun i hi => ?_)
   ·
    exact ⟨Nat.zero_le _, rfl⟩
   refine jsr ?_
   refine jst hσ rfl rfl rfl rfl rfl ?_
   refine jn ?_
   refine AWP.seq ?_
   refine AWP.cond hσ rfl rfl (fun hc24 => ?_) (fun hc24 => ?_)
   ·
    skip
    refine AWP.skip ?_
    refine AWP.seq ?_
    refine AWP.block ?_
    refine jsr ?_
    have hil : i < z.1.length := by have := of_decide_eq_true hc24; omega
    have hfc := findN_cons (rs := z.1) hil
    refine AOps.step (Val.indexN hσ rfl rfl rfl rfl rfl rfl rfl rfl (idxN hil)) rfl rfl rfl ?_
    refine jst hσ rfl rfl rfl rfl rfl ?_
    refine jf5 26 24 21 22 23 rfl rfl rfl rfl rfl ?_
    refine AOps.heap (HS.alloc hσ rfl rfl rfl rfl rfl) rfl ?_
    refine jnm ?_
    refine AOps.heap (HS.storeBox hσ rfl rfl rfl rfl rfl rfl rfl rfl rfl rfl rfl) rfl ?_
    refine jnm ?_
    refine jns ?_
    iterate 4 refine jst hσ rfl rfl rfl rfl rfl ?_
    refine jf7 30 8 26 24 21 22 23 rfl rfl rfl rfl rfl rfl rfl ?_
    refine jn ?_
    refine AWP.cond hσ rfl rfl (fun hc30 => ?_) (fun hc30 => ?_)
    ·
     skip
     refine jsr ?_
     iterate 2 refine jst hσ rfl rfl rfl rfl rfl ?_
     refine jf8 32 30 8 26 24 21 22 23 rfl rfl rfl rfl rfl rfl rfl rfl ?_
     refine AOps.plainD hσ rfl rfl rfl rfl (c158d (xs := (z.1.getD i default).ms) h1 h2) (VAs.self rfl) rfl rfl rfl rfl (B0 := 34000) rfl rfl ?_
     iterate 2 refine jst hσ rfl rfl rfl rfl rfl ?_
     refine jf9 3 2 30 8 26 24 21 22 23 rfl rfl rfl rfl rfl rfl rfl rfl rfl ?_
     refine jn ?_
     refine AWP.ret ?_
     refine ⟨.inl rfl, _, Ent.refl, _, rfl, ?_⟩
     rw [if_pos (of_decide_eq_true hc30), hi.2] at hfc
     rw [refR_S hz hfc]
     exact .tup (.cons (.c .d) (.cons (.c .d) .nil))
    ·
     skip
     refine AWP.skip ?_
     refine AWP.region ?_
     first | refine jfi hσ rfl rfl rfl rfl rfl ?_ | refine jvf hσ rfl rfl rfl rfl rfl ?_
     refine jst hσ rfl rfl rfl rfl rfl ?_
     refine jn ?_
     rw [if_neg (of_decide_eq_false hc30)] at hfc
     refine ⟨i + 1, ((Ent.sel [] (e' := [(21, _), (22, _), (23, _)]) rfl rfl ⟨rfl, rfl, rfl, trivial⟩ rfl).trans Ent.refl), ⟨by omega, hfc.symm.trans hi.2⟩, by omega⟩
   ·
    skip
    refine AWP.exit ?_
    refine jsr ?_
    iterate 2 refine jst hσ rfl rfl rfl rfl rfl ?_
    refine jn ?_
    refine AWP.ret ?_
    refine ⟨.inl rfl, _, Ent.refl, _, rfl, ?_⟩
    have hle : z.1.length ≤ i := by have := of_decide_eq_false hc24; omega
    have h9 := hi.2
    rw [findN_end hle] at h9
    rw [refR_N hz h9.symm]
    exact .tup (.cons (.c .nils) (.cons (.c .d) .nil))
theorem c1052 {L : Nat} (h1 : 4096 ≤ L) (h2 : L ≤ 1073741824) {ts : List Tm} (hf : Fs ts) : MC Tryz.prog L 65 [atms ts] [] (Plain (resFc (fcP ts))) := by
 refine MC.data ?_
 have hσ := SGok (nt := 42) h1 (Nat.le_trans h2 (by decide))
 refine MC.body hσ Tryz.func65 (by kernel_rfl) rfl rfl (Nat.le_of_ble_eq_true rfl) (fun hF => ?_)
 refine jsr ?_
 refine AOps.heap (HS.alloc hσ rfl rfl rfl rfl rfl) rfl ?_
 refine jnm ?_
 refine AOps.heap (HS.alloc hσ rfl rfl rfl rfl rfl) rfl ?_
 refine jnm ?_
 refine jst hσ rfl rfl rfl rfl rfl ?_
 refine jns ?_
 refine jst hσ rfl rfl rfl rfl rfl ?_
 refine AOps.plainD hσ rfl rfl rfl rfl (c1061 (n := 10) h1 h2 (by omega)) (VAs.self rfl) rfl rfl rfl rfl (B0 := 15000) rfl rfl ?_
 refine AOps.plainD hσ rfl rfl rfl rfl (c1060 (ts := ts) h1 h2 hf) (VAs.self rfl) rfl rfl rfl rfl (B0 := 16000) rfl rfl ?_
 iterate 7 refine jst hσ rfl rfl rfl rfl rfl ?_
 refine jf6 7 6 4 3 2 0 rfl rfl rfl rfl rfl rfl ?_
 refine jn ?_
 refine AWP.seq ?_
 refine jsr ?_
 iterate 2 refine jst hσ rfl rfl rfl rfl rfl ?_
 refine jf6 20 6 4 3 2 0 rfl rfl rfl rfl rfl rfl ?_
 refine jn ?_
 refine AWP.cond hσ rfl rfl (fun hc20 => ?_) (fun hc20 => ?_)
 ·
  skip
  refine jsr ?_
  iterate 2 refine jst hσ rfl rfl rfl rfl rfl ?_
  refine jf7 22 21 6 4 3 2 0 rfl rfl rfl rfl rfl rfl rfl ?_
  refine AOps.heap (HS.storeBox hσ rfl rfl rfl rfl rfl rfl rfl rfl rfl rfl rfl) rfl ?_
  refine jnm ?_
  refine jf6 22 6 4 3 2 0 rfl rfl rfl rfl rfl rfl ?_
  refine AOps.heap (HS.storeBox hσ rfl rfl rfl rfl rfl rfl rfl rfl rfl rfl rfl) rfl ?_
  refine jnm ?_
  refine jst hσ rfl rfl rfl rfl rfl ?_
  refine jn ?_
  refine AWP.ret ?_
  refine ⟨.inl rfl, _, Ent.refl, _, rfl, ?_⟩
  rw [fcP_none (cutR_no (evP_F (nf2 hc20)))]
  exact .tup (.cons (.agg (.cons .d (.cons .nils .nil))) (.cons (.agg (.cons .d (.cons .nils (.cons .nils .nil)))) (.cons (.c .d) .nil)))
 ·
  skip
  refine AWP.skip ?_
  refine AWP.seq ?_
  refine jsr ?_
  obtain ⟨z, hz⟩ := evP_T (ts := ts) (nt2 hc20)
  rw [evP_some hz]
  obtain ⟨ha, hal, hb, hbl⟩ := every_ok hf (a := z.1) (b := z.2) hz
  refine jst hσ rfl rfl rfl rfl rfl ?_
  first | refine jle hσ rfl rfl rfl rfl rfl rfl rfl rfl rfl rfl rfl ?_ | refine jst hσ rfl rfl rfl rfl rfl ?_ | refine jvf hσ rfl rfl rfl rfl rfl ?_
  refine jst hσ rfl rfl rfl rfl rfl ?_
  refine jf7 25 24 23 4 3 2 0 rfl rfl rfl rfl rfl rfl rfl ?_
  refine jn ?_
  refine AWP.block ?_
  refine AWP.loopP (X := Nat) (fun i => ⟨[(0, atms ts), (2, .c (.pt 2 0 0)), (3, .c (.pt 3 0 0)), (23, acbs z.2), (24, eI z.2.length), (25, eI i)], [(2, .box [.d (.int .i64 0), .d .nils]), (3, .box [.d (.int .i64 0), .d .nils, .d .nils])]⟩) (fun i => i ≤ z.2.length ∧ findC ts (z.2.drop i) = findC ts z.2) (fun i => z.2.length - i) 0 (Ent.to ⟨rfl, rfl, rfl, rfl, rfl, rfl, trivial⟩ rfl) ?_ (fun i hi => ?_)
  ·
   exact ⟨Nat.zero_le _, rfl⟩
  refine jsr ?_
  refine jst hσ rfl rfl rfl rfl rfl ?_
  refine jn ?_
  refine AWP.seq ?_
  refine AWP.cond hσ rfl rfl (fun hc26 => ?_) (fun hc26 => ?_)
  ·
   skip
   refine AWP.skip ?_
   refine AWP.seq ?_
   refine AWP.block ?_
   refine jsr ?_
   have hil : i < z.2.length := by have := of_decide_eq_true hc26; omega
   have hfc := findC_cons (ts := ts) (rs := z.2) hil
   have hro := hb.get hil
   refine AOps.step (Val.indexN hσ rfl rfl rfl rfl rfl rfl rfl rfl (idxN hil)) rfl rfl rfl ?_
   refine jst hσ rfl rfl rfl rfl rfl ?_
   refine jf8 28 26 0 2 3 23 24 25 rfl rfl rfl rfl rfl rfl rfl rfl ?_
   refine AOps.heap (HS.alloc hσ rfl rfl rfl rfl rfl) rfl ?_
   refine jnm ?_
   refine AOps.heap (HS.storeBox hσ rfl rfl rfl rfl rfl rfl rfl rfl rfl rfl rfl) rfl ?_
   refine jnm ?_
   refine jns ?_
   iterate 3 refine jst hσ rfl rfl rfl rfl rfl ?_
   refine jf11 32 31 9 28 26 0 2 3 23 24 25 rfl rfl rfl rfl rfl rfl rfl rfl rfl rfl rfl ?_
   refine AOps.plainD hσ rfl rfl rfl rfl (c1048 (ts := ts) (t := (z.2.getD i default).tm) h1 h2 hro.tm) (VAs.self rfl) rfl rfl rfl rfl (B0 := 34000) rfl rfl ?_
   iterate 3 refine jst hσ rfl rfl rfl rfl rfl ?_
   refine jf11 35 34 9 28 26 0 2 3 23 24 25 rfl rfl rfl rfl rfl rfl rfl rfl rfl rfl rfl ?_
   refine AOps.heap (HS.alloc hσ rfl rfl rfl rfl rfl) rfl ?_
   refine jnm ?_
   refine AOps.heap (HS.storeBox hσ rfl rfl rfl rfl rfl rfl rfl rfl rfl rfl rfl) rfl ?_
   refine jnm ?_
   refine jst hσ rfl rfl rfl rfl rfl ?_
   refine jf11 11 10 9 28 26 0 2 3 23 24 25 rfl rfl rfl rfl rfl rfl rfl rfl rfl rfl rfl ?_
   refine jns ?_
   refine jst hσ rfl rfl rfl rfl rfl ?_
   refine jn ?_
   refine AWP.cond hσ rfl rfl (fun hc36 => ?_) (fun hc36 => ?_)
   ·
    skip
    refine AWP.seq ?_
    refine AWP.drawR hσ _ [_, _, _, _, _] [⟨[], 0, 0, none⟩, ⟨[], 0, 1, none⟩, ⟨[0], 0, 0, some 0⟩, ⟨[0, 1, 2], 0, 0, some 1⟩, ⟨[0, 1, 2, 3], 2, 2, none⟩] [2, 3] [_, _, _] rfl rfl (by decide) (by decide) (by kernel_rfl) (And.intro (Val.of hσ rfl rfl) (And.intro (And.intro (Val.of hσ rfl rfl) (Val.of hσ rfl rfl)) (And.intro (Eff.storeBox hσ rfl rfl rfl rfl rfl rfl rfl rfl rfl rfl rfl rfl rfl) (And.intro (Eff.storeBox hσ rfl rfl rfl rfl rfl rfl rfl rfl rfl rfl rfl rfl rfl) (And.intro (Val.of hσ rfl rfl) trivial))))) ?_
    refine AWP.forget [(4, _), (36, _), (11, _), (10, _), (9, _), (28, _), (26, _), (0, _), (2, _), (3, _), (23, _), (24, _), (25, _)] ⟨rfl, rfl, rfl, rfl, rfl, rfl, rfl, rfl, rfl, rfl, rfl, rfl, rfl, trivial⟩ ?_
    refine jnw ?_
    refine AWP.ret ?_
    refine ⟨.inl rfl, _, Ent.refl, _, rfl, ?_⟩
    rw [if_pos hc36, hi.2, ← cutR_of hz] at hfc
    rw [fcP_some hfc]
    exact .tup (.cons (.agg (VMs.self rfl)) (.cons (.agg (VMs.self rfl)) (.cons (.c .d) .nil)))
   ·
    skip
    refine AWP.skip ?_
    refine AWP.region ?_
    first | refine jfi hσ rfl rfl rfl rfl rfl ?_ | refine jvf hσ rfl rfl rfl rfl rfl ?_
    refine jst hσ rfl rfl rfl rfl rfl ?_
    refine jn ?_
    rw [if_neg (by rw [hc36]; decide)] at hfc
    refine ⟨i + 1, ((Ent.sel [2, 3] (e' := [(0, _), (2, _), (3, _), (23, _), (24, _), (25, _)]) rfl rfl ⟨rfl, rfl, rfl, rfl, rfl, rfl, trivial⟩ rfl).trans Ent.refl), ⟨by omega, hfc.symm.trans hi.2⟩, by omega⟩
  ·
   skip
   refine AWP.exit ?_
   refine jsr ?_
   iterate 2 refine jst hσ rfl rfl rfl rfl rfl ?_
   refine AOps.heap (HS.storeBox hσ rfl rfl rfl rfl rfl rfl rfl rfl rfl rfl rfl) rfl ?_
   refine jnm ?_
   refine jf8 41 26 0 2 3 23 24 25 rfl rfl rfl rfl rfl rfl rfl rfl ?_
   refine AOps.heap (HS.storeBox hσ rfl rfl rfl rfl rfl rfl rfl rfl rfl rfl rfl) rfl ?_
   refine jnm ?_
   refine jst hσ rfl rfl rfl rfl rfl ?_
   refine jn ?_
   refine AWP.ret ?_
   refine ⟨.inl rfl, _, Ent.refl, _, rfl, ?_⟩
   have hle : z.2.length ≤ i := by have := of_decide_eq_false hc26; omega
   have h9 := hi.2
   rw [findC_end hle, ← cutR_of hz] at h9
   rw [fcP_none h9.symm]
   exact .tup (.cons (.agg (.cons .d (.cons .nils .nil))) (.cons (.agg (.cons .d (.cons .nils (.cons .nils .nil)))) (.cons (.c .d) .nil)))
abbrev pbox (b : Int) (s : Wk) (l : Nat) : B := .box [.d (.int .i64 b), .rs l 0 s.1.length, .d (.bool s.2)]
theorem wrt_T {b : Int} {s : Wk} {n : Nd} (h : decide ((s.1.length : Int) = b) = true) : wrt b s n = (s.1, true) := if_pos (.inl (of_decide_eq_true h))
theorem wrt_C {b : Int} {s : Wk} {n : Nd} (h : (!(n.mul.all co)) = true) : wrt b s n = (s.1, true) := if_pos (.inr (by simpa using h))
theorem wrt_F {b : Int} {s : Wk} {n : Nd} (h : decide ((s.1.length : Int) = b) = false) (h2 : (!(n.mul.all co)) = false) : wrt b s n = (s.1 ++ [n], s.2) := if_neg (by
  rintro (h3 | h3)
  · exact of_decide_eq_false h h3
  · rw [h3] at h2; cases h2)
theorem c1049 {L : Nat} (h1 : 4096 ≤ L) (h2 : L ≤ 1073741824) {b : Int} {s : Wk} {n : Nd} {x y : D} (hx : VM [] (.d x) (.d (ints n.term.xs))) (hy : VM [] (.d y) (.d (ints n.mul))) (hl : s.1.length ≤ 1000) : MC Tryz.prog L 62 [.c (.pt 0 0 0), .agg [.d (.int .i64 n.kind), .d (.int .i64 n.fact), .d (.int .i64 n.term.c), .d x, .d y]] [(0, pbox b s 1), (1, nrows s.1)] (Outs (.tup []) [(0, pbox b (wrt b s n) 2), (2, nrows (wrt b s n).1)]) := by
 refine MC.shift 500 rfl ?_
 have hσ := SgOk.withIns (js := [500, 501]) (SGok (nt := 34) h1 (Nat.le_trans h2 (by decide)))
 refine MC.bodyH hσ Tryz.func62 (by kernel_rfl) rfl rfl rfl (Nat.le_of_ble_eq_true rfl) (fun hF => ?_)
 refine jsr ?_
 refine AOps.heap (HS.box hσ rfl rfl rfl rfl rfl rfl rfl) rfl ?_
 refine jnm ?_
 refine AOps.to (Ent.freeze 3 (e' := [(3, _), (0, _)]) rfl (.cons rfl (.c (.box (cs := Nd.cells n) rfl (.cons .d (.cons .d (.cons .d (.cons hx (.cons hy .nil))))))) (.cons rfl (.keep rfl) .nil)) (.skip (.cons rfl (.box (.cons (.keep rfl) (.cons (.keep rfl) (.cons (.keep rfl) .nil)))) (.cons rfl .row .nil)))) ?_
 refine jnm ?_
 refine jn ?_
 refine AWP.seq ?_
 refine AWP.seq ?_
 cases hb1 : decide ((s.1.length : Int) = b) with
 | true =>
  refine AWP.drawG hσ _ [_, _, _, _, _, _, _, _, _, _, _, _, _, _, _, _, _] [⟨[], 0, 0, none⟩, ⟨[0], 0, 0, none⟩, ⟨[0, 1], 0, 0, none⟩, ⟨[0, 1, 2], 0, 0, none⟩, ⟨[0, 1, 2, 3], 0, 0, none⟩, ⟨[0, 1, 2, 3, 4], 0, 0, some 0⟩, ⟨[], 0, 1, none⟩, ⟨[6], 0, 1, none⟩, ⟨[6, 7], 0, 1, none⟩, ⟨[6, 7, 8], 0, 1, none⟩, ⟨[0, 1, 2, 3, 4, 5, 6, 7, 8, 9], 1, 1, none⟩, ⟨[0, 1, 2, 3, 4, 5, 6, 7, 8, 9, 10], 1, 1, none⟩, ⟨[0, 1, 2, 3, 4, 5, 6, 7, 8, 9, 10, 11], 0, 1, none⟩, ⟨[0, 1, 2, 3, 4, 5, 6, 7, 8, 9, 10, 11, 12], 0, 1, none⟩, ⟨[0, 1, 2, 3, 4, 5, 6, 7, 8, 9, 10, 11, 12, 13], 0, 1, none⟩, ⟨[0, 1, 2, 3, 4, 5, 6, 7, 8, 9, 10, 11, 12, 13, 14], 0, 1, none⟩, ⟨[0, 1, 2, 3, 4, 5, 6, 7, 8, 9, 10, 11, 12, 13, 14, 15], 1, 1, none⟩] [5] [_, _] rfl rfl (by decide) (by decide) (by kernel_rfl) (And.intro (Val.of hσ rfl rfl) (And.intro (Val.of hσ rfl rfl) (And.intro (Val.of hσ rfl rfl) (And.intro (Val.of hσ rfl rfl) (And.intro (Val.vif hσ rfl rfl (by first | omega | (simp at *; omega))) (And.intro (Eff.lone hσ (B0 := 10000) rfl rfl rfl rfl (c147 (n := s.1.length) h1 h2) (VAs.self rfl) rfl rfl rfl rfl rfl) (And.intro (And.intro (Val.of hσ rfl rfl) (Val.of hσ rfl rfl)) (And.intro (And.intro (Val.of hσ rfl rfl) (Val.of hσ rfl rfl)) (And.intro (And.intro (Val.of hσ rfl rfl) (Val.of hσ rfl rfl)) (And.intro (And.intro (Val.of hσ rfl rfl) (Val.of hσ rfl rfl)) (And.intro (Val.of hσ rfl rfl) (And.intro ((Val.of hσ rfl rfl).cast (v' := eB true) (congrArg eB hb1)) (And.intro ⟨rfl, rfl⟩ (And.intro ⟨rfl, rfl⟩ (And.intro ⟨rfl, rfl⟩ (And.intro ⟨rfl, rfl⟩ (And.intro (Val.pickY hσ rfl rfl rfl rfl rfl) trivial))))))))))))))))) ?_
  refine AWP.forget [(20, _), (3, _), (0, _)] ⟨rfl, rfl, rfl, trivial⟩ ?_
  refine jnw ?_
  refine AWP.cond hσ rfl rfl (fun hc20 => ?_) (fun hc20 => ?_)
  ·
   skip
   refine jsr ?_
   iterate 3 refine jst hσ rfl rfl rfl rfl rfl ?_
   refine jf3 23 3 0 rfl rfl rfl ?_
   refine AOps.heap (HS.storeBox hσ rfl rfl rfl rfl rfl rfl rfl rfl rfl rfl rfl) rfl ?_
   refine jnm ?_
   refine jn ?_
   refine AWP.ret ?_
   rw [wrt_T hb1]
   refine ⟨.inl rfl, _, ((Ent.sel [500, 501] (e' := []) rfl rfl trivial rfl).trans (Ent.sub2 501 502 rfl rfl)), _, rfl, rfl, rfl⟩
  ·
   skip
   cases hc20
 | false =>
  refine AWP.drawG hσ _ [_, _, _, _, _, _, _, _, _, _, _, _, _, _, _, _, _] [⟨[], 0, 0, none⟩, ⟨[0], 0, 0, none⟩, ⟨[0, 1], 0, 0, none⟩, ⟨[0, 1, 2], 0, 0, none⟩, ⟨[0, 1, 2, 3], 0, 0, none⟩, ⟨[0, 1, 2, 3, 4], 0, 0, some 0⟩, ⟨[], 0, 1, none⟩, ⟨[6], 0, 1, none⟩, ⟨[6, 7], 0, 1, none⟩, ⟨[6, 7, 8], 0, 1, none⟩, ⟨[0, 1, 2, 3, 4, 5, 6, 7, 8, 9], 1, 1, none⟩, ⟨[0, 1, 2, 3, 4, 5, 6, 7, 8, 9, 10], 1, 1, none⟩, ⟨[0, 1, 2, 3, 4, 5, 6, 7, 8, 9, 10, 11], 1, 1, none⟩, ⟨[0, 1, 2, 3, 4, 5, 6, 7, 8, 9, 10, 11, 12], 1, 1, none⟩, ⟨[0, 1, 2, 3, 4, 5, 6, 7, 8, 9, 10, 11, 12, 13], 0, 0, some 1⟩, ⟨[0, 1, 2, 3, 4, 5, 6, 7, 8, 9, 10, 11, 12, 13, 14], 2, 2, none⟩, ⟨[0, 1, 2, 3, 4, 5, 6, 7, 8, 9, 10, 11, 12, 13, 14, 15], 2, 2, none⟩] [5, 14] [_, _, _] rfl rfl (by decide) (by decide) (by kernel_rfl) (And.intro (Val.of hσ rfl rfl) (And.intro (Val.of hσ rfl rfl) (And.intro (Val.of hσ rfl rfl) (And.intro (Val.of hσ rfl rfl) (And.intro (Val.vif hσ rfl rfl (by first | omega | (simp at *; omega))) (And.intro (Eff.lone hσ (B0 := 10000) rfl rfl rfl rfl (c147 (n := s.1.length) h1 h2) (VAs.self rfl) rfl rfl rfl rfl rfl) (And.intro (And.intro (Val.of hσ rfl rfl) (Val.of hσ rfl rfl)) (And.intro (And.intro (Val.of hσ rfl rfl) (Val.of hσ rfl rfl)) (And.intro (And.intro (Val.of hσ rfl rfl) (Val.of hσ rfl rfl)) (And.intro (And.intro (Val.of hσ rfl rfl) (Val.of hσ rfl rfl)) (And.intro (Val.of hσ rfl rfl) (And.intro ((Val.of hσ rfl rfl).cast (v' := eB false) (congrArg eB hb1)) (And.intro (Val.of hσ rfl rfl) (And.intro (Val.of hσ rfl rfl) (And.intro (Eff.lone hσ (B0 := 19000) rfl rfl rfl rfl (c156 (xs := Nd.mul n) h1 h2) (VAs.self rfl) rfl rfl rfl rfl rfl) (And.intro (Val.of hσ rfl rfl) (And.intro (Val.pickN hσ rfl rfl rfl rfl rfl) trivial))))))))))))))))) ?_
  refine AWP.forget [(20, _), (3, _), (0, _)] ⟨rfl, rfl, rfl, trivial⟩ ?_
  refine jnw ?_
  refine AWP.cond hσ rfl rfl (fun hc20 => ?_) (fun hc20 => ?_)
  ·
   skip
   refine jsr ?_
   iterate 3 refine jst hσ rfl rfl rfl rfl rfl ?_
   refine jf3 23 3 0 rfl rfl rfl ?_
   refine AOps.heap (HS.storeBox hσ rfl rfl rfl rfl rfl rfl rfl rfl rfl rfl rfl) rfl ?_
   refine jnm ?_
   refine jn ?_
   refine AWP.ret ?_
   rw [wrt_C hc20]
   refine ⟨.inl rfl, _, ((Ent.sel [500, 501] (e' := []) rfl rfl trivial rfl).trans (Ent.sub2 501 502 rfl rfl)), _, rfl, rfl, rfl⟩
  ·
   skip
   refine AWP.skip ?_
   refine AWP.forget [(3, _), (0, _)] ⟨rfl, rfl, trivial⟩ ?_
   refine AWP.drawP hσ _ [_, _, _, _, _, _, _, _, _, _, _] [⟨[], 0, 2, none⟩, ⟨[], 0, 1, none⟩, ⟨[1], 0, 1, none⟩, ⟨[1, 2], 0, 1, none⟩, ⟨[1, 2, 3], 0, 1, none⟩, ⟨[], 0, 0, none⟩, ⟨[5], 0, 0, some 0⟩, ⟨[1, 2, 3, 4, 5, 6], 0, 0, some 1⟩, ⟨[0, 1, 2, 3, 4, 5, 6, 7], 2, 2, none⟩, ⟨[0, 1, 2, 3, 4, 5, 6, 7, 8], 2, 2, none⟩, ⟨[0, 1, 2, 3, 4, 5, 6, 7, 8, 9], 0, 0, some 2⟩] [6, 7, 10] [_, _, _, _] [[], [501], []] rfl rfl (by decide) (by decide) (by kernel_rfl) (And.intro (And.intro (And.intro (Val.of hσ rfl rfl) rfl) (And.intro (And.intro (Val.of hσ rfl rfl) rfl) (And.intro (Val.of hσ rfl rfl) rfl))) (And.intro (And.intro (And.intro (Val.of hσ rfl rfl) rfl) (And.intro (Val.of hσ rfl rfl) rfl)) (And.intro (And.intro (And.intro (Val.of hσ rfl rfl) rfl) (And.intro (Val.of hσ rfl rfl) rfl)) (And.intro (And.intro (And.intro (Val.of hσ rfl rfl) rfl) (And.intro (Val.of hσ rfl rfl) rfl)) (And.intro (And.intro (And.intro (Val.of hσ rfl rfl) rfl) (And.intro (Val.of hσ rfl rfl) rfl)) (And.intro (And.intro (Val.of hσ rfl rfl) rfl) (And.intro (And.intro (Eff.p (Eff.litD hσ rfl rfl rfl rfl rfl rfl rfl rfl rfl rfl rfl rfl rfl rfl)) rfl) (And.intro (And.intro (Eff.appCopy (own := false) (xs := s.1.map Nd.cells) (ys := [Nd.cells n]) (zs := (s.1 ++ [n]).map Nd.cells) (n := (s.1 ++ [n]).length) hσ rfl rfl rfl rfl rfl rfl rfl rfl rfl rfl rfl rfl rfl rfl rfl rfl (.row rfl (List.length_map _).symm) (.whole rfl rfl (.inr ⟨rfl, rfl⟩)) (by simp) rfl (by simp only [List.length_map, List.length_append, List.length_singleton, List.length_cons, List.length_nil]; omega) (by simp only [List.length_map, List.length_append, List.length_singleton, List.length_cons, List.length_nil]; omega) (by simp) (List.length_map _) rfl) rfl) (And.intro (And.intro (Val.of hσ rfl rfl) rfl) (And.intro (And.intro (Val.of hσ rfl rfl) rfl) (And.intro (And.intro (Eff.p (Eff.storeBox hσ rfl rfl rfl rfl rfl rfl rfl rfl rfl rfl rfl rfl rfl)) rfl) trivial))))))))))) ?_
   show _ ∧ _
   rw [wrt_F hb1 hc20]
   refine ⟨.inr rfl, _, ((Ent.sel [500, 31] (e' := []) rfl rfl trivial rfl).trans (Ent.sub2 31 502 rfl rfl)), _, rfl, rfl, rfl⟩
theorem c1049r {L : Nat} (h1 : 4096 ≤ L) (h2 : L ≤ 1073741824) {b : Int} {s : Wk} {ms : List Int} (hl : s.1.length ≤ 1000) : MC Tryz.prog L 62 [.c (.pt 0 0 0), .agg [.d (.int .i64 1), .d (.int .i64 0), .d (.int .i64 0), .d .nils, .rs 2 0 ms.length]] [(0, pbox b s 1), (1, nrows s.1), (2, nrow ms)] (Outs (.tup []) [(0, pbox b (wrt b s (cloNd ms)) 3), (3, nrows (wrt b s (cloNd ms)).1)]) := by
 refine MC.shift 500 rfl ?_
 have hσ := SgOk.withIns (js := [500, 501, 502]) (SGok (nt := 34) h1 (Nat.le_trans h2 (by decide)))
 refine MC.bodyH hσ Tryz.func62 (by kernel_rfl) rfl rfl rfl (Nat.le_of_ble_eq_true rfl) (fun hF => ?_)
 refine jsr ?_
 refine AOps.heap (HS.box hσ rfl rfl rfl rfl rfl rfl rfl) rfl ?_
 refine jnm ?_
 refine AOps.to (Ent.freeze 502 (e' := [(3, _), (0, _)]) rfl (.cons rfl (.keep rfl) (.cons rfl (.keep rfl) .nil)) (.cons rfl (.box (.cons (.keep rfl) (.cons (.keep rfl) (.cons (.keep rfl) (.cons (.keep rfl) (.cons (.row rfl (List.length_map _).symm) .nil)))))) (.cons rfl (.box (.cons (.keep rfl) (.cons (.keep rfl) (.cons (.keep rfl) .nil)))) (.cons rfl .row (.skip .nil))))) ?_
 refine AOps.to (Ent.freeze 3 (e' := [(3, _), (0, _)]) rfl (.cons rfl (.c (.box (cs := Nd.cells (cloNd ms)) rfl (.cons .d (.cons .d (.cons .d (.cons .nils (.cons .d .nil))))))) (.cons rfl (.keep rfl) .nil)) (.skip (.cons rfl (.box (.cons (.keep rfl) (.cons (.keep rfl) (.cons (.keep rfl) .nil)))) (.cons rfl .row .nil)))) ?_
 refine jnm ?_
 refine jn ?_
 refine AWP.seq ?_
 refine AWP.seq ?_
 cases hb1 : decide ((s.1.length : Int) = b) with
 | true =>
  refine AWP.drawG hσ _ [_, _, _, _, _, _, _, _, _, _, _, _, _, _, _, _, _] [⟨[], 0, 0, none⟩, ⟨[0], 0, 0, none⟩, ⟨[0, 1], 0, 0, none⟩, ⟨[0, 1, 2], 0, 0, none⟩, ⟨[0, 1, 2, 3], 0, 0, none⟩, ⟨[0, 1, 2, 3, 4], 0, 0, some 0⟩, ⟨[], 0, 1, none⟩, ⟨[6], 0, 1, none⟩, ⟨[6, 7], 0, 1, none⟩, ⟨[6, 7, 8], 0, 1, none⟩, ⟨[0, 1, 2, 3, 4, 5, 6, 7, 8, 9], 1, 1, none⟩, ⟨[0, 1, 2, 3, 4, 5, 6, 7, 8, 9, 10], 1, 1, none⟩, ⟨[0, 1, 2, 3, 4, 5, 6, 7, 8, 9, 10, 11], 0, 1, none⟩, ⟨[0, 1, 2, 3, 4, 5, 6, 7, 8, 9, 10, 11, 12], 0, 1, none⟩, ⟨[0, 1, 2, 3, 4, 5, 6, 7, 8, 9, 10, 11, 12, 13], 0, 1, none⟩, ⟨[0, 1, 2, 3, 4, 5, 6, 7, 8, 9, 10, 11, 12, 13, 14], 0, 1, none⟩, ⟨[0, 1, 2, 3, 4, 5, 6, 7, 8, 9, 10, 11, 12, 13, 14, 15], 1, 1, none⟩] [5] [_, _] rfl rfl (by decide) (by decide) (by kernel_rfl) (And.intro (Val.of hσ rfl rfl) (And.intro (Val.of hσ rfl rfl) (And.intro (Val.of hσ rfl rfl) (And.intro (Val.of hσ rfl rfl) (And.intro (Val.vif hσ rfl rfl (by first | omega | (simp at *; omega))) (And.intro (Eff.lone hσ (B0 := 10000) rfl rfl rfl rfl (c147 (n := s.1.length) h1 h2) (VAs.self rfl) rfl rfl rfl rfl rfl) (And.intro (And.intro (Val.of hσ rfl rfl) (Val.of hσ rfl rfl)) (And.intro (And.intro (Val.of hσ rfl rfl) (Val.of hσ rfl rfl)) (And.intro (And.intro (Val.of hσ rfl rfl) (Val.of hσ rfl rfl)) (And.intro (And.intro (Val.of hσ rfl rfl) (Val.of hσ rfl rfl)) (And.intro (Val.of hσ rfl rfl) (And.intro ((Val.of hσ rfl rfl).cast (v' := eB true) (congrArg eB hb1)) (And.intro ⟨rfl, rfl⟩ (And.intro ⟨rfl, rfl⟩ (And.intro ⟨rfl, rfl⟩ (And.intro ⟨rfl, rfl⟩ (And.intro (Val.pickY hσ rfl rfl rfl rfl rfl) trivial))))))))))))))))) ?_
  refine AWP.forget [(20, _), (3, _), (0, _)] ⟨rfl, rfl, rfl, trivial⟩ ?_
  refine jnw ?_
  refine AWP.cond hσ rfl rfl (fun hc20 => ?_) (fun hc20 => ?_)
  ·
   skip
   refine jsr ?_
   iterate 3 refine jst hσ rfl rfl rfl rfl rfl ?_
   refine jf3 23 3 0 rfl rfl rfl ?_
   refine AOps.heap (HS.storeBox hσ rfl rfl rfl rfl rfl rfl rfl rfl rfl rfl rfl) rfl ?_
   refine jnm ?_
   refine jn ?_
   refine AWP.ret ?_
   rw [wrt_T hb1]
   refine ⟨.inl rfl, _, ((Ent.sel [500, 501] (e' := []) rfl rfl trivial rfl).trans (Ent.sub2 501 503 rfl rfl)), _, rfl, rfl, rfl⟩
  ·
   skip
   cases hc20
 | false =>
  refine AWP.drawG hσ _ [_, _, _, _, _, _, _, _, _, _, _, _, _, _, _, _, _] [⟨[], 0, 0, none⟩, ⟨[0], 0, 0, none⟩, ⟨[0, 1], 0, 0, none⟩, ⟨[0, 1, 2], 0, 0, none⟩, ⟨[0, 1, 2, 3], 0, 0, none⟩, ⟨[0, 1, 2, 3, 4], 0, 0, some 0⟩, ⟨[], 0, 1, none⟩, ⟨[6], 0, 1, none⟩, ⟨[6, 7], 0, 1, none⟩, ⟨[6, 7, 8], 0, 1, none⟩, ⟨[0, 1, 2, 3, 4, 5, 6, 7, 8, 9], 1, 1, none⟩, ⟨[0, 1, 2, 3, 4, 5, 6, 7, 8, 9, 10], 1, 1, none⟩, ⟨[0, 1, 2, 3, 4, 5, 6, 7, 8, 9, 10, 11], 1, 1, none⟩, ⟨[0, 1, 2, 3, 4, 5, 6, 7, 8, 9, 10, 11, 12], 1, 1, none⟩, ⟨[0, 1, 2, 3, 4, 5, 6, 7, 8, 9, 10, 11, 12, 13], 0, 0, some 1⟩, ⟨[0, 1, 2, 3, 4, 5, 6, 7, 8, 9, 10, 11, 12, 13, 14], 2, 2, none⟩, ⟨[0, 1, 2, 3, 4, 5, 6, 7, 8, 9, 10, 11, 12, 13, 14, 15], 2, 2, none⟩] [5, 14] [_, _, _] rfl rfl (by decide) (by decide) (by kernel_rfl) (And.intro (Val.of hσ rfl rfl) (And.intro (Val.of hσ rfl rfl) (And.intro (Val.of hσ rfl rfl) (And.intro (Val.of hσ rfl rfl) (And.intro (Val.vif hσ rfl rfl (by first | omega | (simp at *; omega))) (And.intro (Eff.lone hσ (B0 := 10000) rfl rfl rfl rfl (c147 (n := s.1.length) h1 h2) (VAs.self rfl) rfl rfl rfl rfl rfl) (And.intro (And.intro (Val.of hσ rfl rfl) (Val.of hσ rfl rfl)) (And.intro (And.intro (Val.of hσ rfl rfl) (Val.of hσ rfl rfl)) (And.intro (And.intro (Val.of hσ rfl rfl) (Val.of hσ rfl rfl)) (And.intro (And.intro (Val.of hσ rfl rfl) (Val.of hσ rfl rfl)) (And.intro (Val.of hσ rfl rfl) (And.intro ((Val.of hσ rfl rfl).cast (v' := eB false) (congrArg eB hb1)) (And.intro (Val.of hσ rfl rfl) (And.intro (Val.of hσ rfl rfl) (And.intro (Eff.lone hσ (B0 := 19000) rfl rfl rfl rfl (c156 (xs := Nd.mul (cloNd ms)) h1 h2) (VAs.self rfl) rfl rfl rfl rfl rfl) (And.intro (Val.of hσ rfl rfl) (And.intro (Val.pickN hσ rfl rfl rfl rfl rfl) trivial))))))))))))))))) ?_
  refine AWP.forget [(20, _), (3, _), (0, _)] ⟨rfl, rfl, rfl, trivial⟩ ?_
  refine jnw ?_
  refine AWP.cond hσ rfl rfl (fun hc20 => ?_) (fun hc20 => ?_)
  ·
   skip
   refine jsr ?_
   iterate 3 refine jst hσ rfl rfl rfl rfl rfl ?_
   refine jf3 23 3 0 rfl rfl rfl ?_
   refine AOps.heap (HS.storeBox hσ rfl rfl rfl rfl rfl rfl rfl rfl rfl rfl rfl) rfl ?_
   refine jnm ?_
   refine jn ?_
   refine AWP.ret ?_
   rw [wrt_C hc20]
   refine ⟨.inl rfl, _, ((Ent.sel [500, 501] (e' := []) rfl rfl trivial rfl).trans (Ent.sub2 501 503 rfl rfl)), _, rfl, rfl, rfl⟩
  ·
   skip
   refine AWP.skip ?_
   refine AWP.forget [(3, _), (0, _)] ⟨rfl, rfl, trivial⟩ ?_
   refine AWP.drawP hσ _ [_, _, _, _, _, _, _, _, _, _, _] [⟨[], 0, 2, none⟩, ⟨[], 0, 1, none⟩, ⟨[1], 0, 1, none⟩, ⟨[1, 2], 0, 1, none⟩, ⟨[1, 2, 3], 0, 1, none⟩, ⟨[], 0, 0, none⟩, ⟨[5], 0, 0, some 0⟩, ⟨[1, 2, 3, 4, 5, 6], 0, 0, some 1⟩, ⟨[0, 1, 2, 3, 4, 5, 6, 7], 2, 2, none⟩, ⟨[0, 1, 2, 3, 4, 5, 6, 7, 8], 2, 2, none⟩, ⟨[0, 1, 2, 3, 4, 5, 6, 7, 8, 9], 0, 0, some 2⟩] [6, 7, 10] [_, _, _, _] [[], [501], []] rfl rfl (by decide) (by decide) (by kernel_rfl) (And.intro (And.intro (And.intro (Val.of hσ rfl rfl) rfl) (And.intro (And.intro (Val.of hσ rfl rfl) rfl) (And.intro (Val.of hσ rfl rfl) rfl))) (And.intro (And.intro (And.intro (Val.of hσ rfl rfl) rfl) (And.intro (Val.of hσ rfl rfl) rfl)) (And.intro (And.intro (And.intro (Val.of hσ rfl rfl) rfl) (And.intro (Val.of hσ rfl rfl) rfl)) (And.intro (And.intro (And.intro (Val.of hσ rfl rfl) rfl) (And.intro (Val.of hσ rfl rfl) rfl)) (And.intro (And.intro (And.intro (Val.of hσ rfl rfl) rfl) (And.intro (Val.of hσ rfl rfl) rfl)) (And.intro (And.intro (Val.of hσ rfl rfl) rfl) (And.intro (And.intro (Eff.p (Eff.litD hσ rfl rfl rfl rfl rfl rfl rfl rfl rfl rfl rfl rfl rfl rfl)) rfl) (And.intro (And.intro (Eff.appCopy (own := false) (xs := s.1.map Nd.cells) (ys := [Nd.cells (cloNd ms)]) (zs := (s.1 ++ [(cloNd ms)]).map Nd.cells) (n := (s.1 ++ [(cloNd ms)]).length) hσ rfl rfl rfl rfl rfl rfl rfl rfl rfl rfl rfl rfl rfl rfl rfl rfl (.row rfl (List.length_map _).symm) (.whole rfl rfl (.inr ⟨rfl, rfl⟩)) (by simp) rfl (by simp only [List.length_map, List.length_append, List.length_singleton, List.length_cons, List.length_nil]; omega) (by simp only [List.length_map, List.length_append, List.length_singleton, List.length_cons, List.length_nil]; omega) (by simp) (List.length_map _) rfl) rfl) (And.intro (And.intro (Val.of hσ rfl rfl) rfl) (And.intro (And.intro (Val.of hσ rfl rfl) rfl) (And.intro (And.intro (Eff.p (Eff.storeBox hσ rfl rfl rfl rfl rfl rfl rfl rfl rfl rfl rfl rfl rfl)) rfl) trivial))))))))))) ?_
   show _ ∧ _
   rw [wrt_F hb1 hc20]
   refine ⟨.inr rfl, _, ((Ent.sel [500, 31] (e' := []) rfl rfl trivial rfl).trans (Ent.sub2 31 503 rfl rfl)), _, rfl, rfl, rfl⟩
theorem addF_T {ts : List Tm} {s : Wk} (h : decide ((ts.length : Int) = 14) = true) : addF ts s = (s.1, true) := by unfold addF; rw [if_pos (by have := of_decide_eq_true h; omega)]
theorem addF_F {ts : List Tm} {s : Wk} (h : decide ((ts.length : Int) = 14) = false) : addF ts s = s := by unfold addF; rw [if_neg (by have := of_decide_eq_false h; omega)]
theorem c1050 {L : Nat} (h1 : 4096 ≤ L) (h2 : L ≤ 1073741824) {b : Int} {s : Wk} {ts : List Tm} {t : Tm} (h0 : 0 < ts.length) (hl : ts.length ≤ 1000) : MC Tryz.prog L 63 [.c (.pt 0 0 0), atms ts, aTm' t] [(0, pbox b s 1), (1, nrows s.1)] (Outs (atms (ts ++ [t])) [(0, pbox b (addF ts s) 1), (1, nrows (addF ts s).1)]) := by
 refine MC.shift 500 rfl ?_
 have hσ := SgOk.withIns (js := [500, 501]) (SGok (nt := 16) h1 (Nat.le_trans h2 (by decide)))
 refine MC.bodyH hσ Tryz.func63 (by kernel_rfl) rfl rfl rfl (Nat.le_of_ble_eq_true rfl) (fun hF => ?_)
 refine jsr ?_
 refine AOps.heap (HS.box hσ rfl rfl rfl rfl rfl rfl rfl) rfl ?_
 refine jnm ?_
 refine AOps.to (Ent.freeze 5 (e' := [(5, _), (0, _), (1, _)]) rfl (.cons rfl (.c (.box (cs := Tm.cells t) rfl (VMs.self rfl))) (.cons rfl (.keep rfl) (.cons rfl (.keep rfl) .nil))) (.skip (.cons rfl (.box (.cons (.keep rfl) (.cons (.keep rfl) (.cons (.keep rfl) .nil)))) (.cons rfl .row .nil)))) ?_
 refine jnm ?_
 refine jst hσ rfl rfl rfl rfl rfl ?_
 refine jn ?_
 refine AWP.seq ?_
 refine jsr ?_
 refine jst hσ rfl rfl rfl rfl rfl ?_
 first | refine jle hσ rfl rfl rfl rfl rfl rfl rfl rfl rfl rfl rfl ?_ | refine jst hσ rfl rfl rfl rfl rfl ?_ | refine jvf hσ rfl rfl rfl rfl rfl ?_
 refine jst hσ rfl rfl rfl rfl rfl ?_
 refine jf5 9 6 5 0 1 rfl rfl rfl rfl rfl ?_
 refine jn ?_
 refine AWP.cond hσ rfl rfl (fun hc9 => ?_) (fun hc9 => ?_)
 ·
  skip
  refine AWP.region ?_
  iterate 3 refine jst hσ rfl rfl rfl rfl rfl ?_
  refine jf4 12 6 5 1 rfl rfl rfl rfl ?_
  refine AOps.heap (HS.storeBox hσ rfl rfl rfl rfl rfl rfl rfl rfl rfl rfl rfl) rfl ?_
  refine jnm ?_
  refine jns ?_
  iterate 2 refine jst hσ rfl rfl rfl rfl rfl ?_
  refine jf5 14 13 12 6 1 rfl rfl rfl rfl rfl ?_
  refine AOps.plainD hσ rfl rfl rfl rfl (c189n (ts := ts) (t := t) h1 h2 h0 hl) (VAs.self rfl) rfl rfl rfl rfl (B0 := 16000) rfl rfl ?_
  refine jst hσ rfl rfl rfl rfl rfl ?_
  refine jf3 6 12 1 rfl rfl rfl ?_
  refine jn ?_
  refine AWP.ret ?_
  rw [addF_T hc9]
  refine ⟨.inl rfl, _, Ent.refl, _, rfl, rfl, rfl⟩
 ·
  skip
  refine AWP.skip ?_
  refine jsr ?_
  iterate 2 refine jst hσ rfl rfl rfl rfl rfl ?_
  refine jf5 14 13 6 0 1 rfl rfl rfl rfl rfl ?_
  refine AOps.plainD hσ rfl rfl rfl rfl (c189n (ts := ts) (t := t) h1 h2 h0 hl) (VAs.self rfl) rfl rfl rfl rfl (B0 := 16000) rfl rfl ?_
  refine jst hσ rfl rfl rfl rfl rfl ?_
  refine jf3 6 0 1 rfl rfl rfl ?_
  refine jn ?_
  refine AWP.ret ?_
  rw [addF_F hc9]
  refine ⟨.inl rfl, _, Ent.refl, _, rfl, rfl, rfl⟩
end Go.Al
namespace Go.Al
open Go.Proofs
set_option linter.unusedVariables false
set_option linter.unusedSimpArgs false
set_option maxRecDepth 10000
set_option maxHeartbeats 4000000
structure WkI (b : Int) (g : Nat) (ts : List Tm) (s : Wk) : Prop where
  f : Fs ts ∨ s.2 = true
  a : 15 ≤ g + ts.length
  n0 : 0 < ts.length
  n1 : ts.length ≤ 15
  l : (s.1.length : Int) ≤ b
theorem addF_len {b : Int} {ts : List Tm} {s : Wk} {n : Nd} (h : (s.1.length : Int) ≤ b) : ((addF ts (wrt b s n)).1.length : Int) ≤ b := wrt_len (n := n) h
theorem WkI.add {b : Int} {g : Nat} {ts : List Tm} {s : Wk} {t : Tm} {n : Nd} (h : WkI b (g + 1) ts s) (hf : Fs ts) (ht : t.ok = true) : WkI b g (ts ++ [t]) (addF ts (wrt b s n)) := by
  have hl := hf.len
  have ha := h.a
  refine ⟨?_, by rw [List.length_append, List.length_singleton]; omega, by rw [List.length_append, List.length_singleton]; omega, by rw [List.length_append, List.length_singleton]; omega, addF_len h.l⟩
  by_cases e : ts.length = 14
  · exact .inr (by unfold addF; rw [if_pos e])
  · exact .inl (hf.snoc ht e)
theorem wrk_tig {b : Int} {g : Nat} {T : List Tm} {S : Wk} {i : Nat} (h : S.2 = false) (ht : tigR T = some i) : wrk b (g + 1) T S = wrk b g (T ++ [(sharpR T (T.getD i default)).1]) (addF T (wrt b S (tigNd i))) := by
  rw [wrk, if_neg (by rw [h]; decide), ht]
theorem wrk_clo {b : Int} {g : Nat} {T : List Tm} {S : Wk} (h : S.2 = false) (ht : tigR T = none) (hr : (refR T).2 = true) : wrk b (g + 1) T S = wrt b S (cloNd (refR T).1) := by
  rw [wrk, if_neg (by rw [h]; decide), ht]; simp only; rw [if_pos hr]
theorem wrk_bad {b : Int} {g : Nat} {T : List Tm} {S : Wk} (h : S.2 = false) (ht : tigR T = none) (hr : (refR T).2 = false) (hb : ((fcP T).2.2 && (oppI (fcP T).1).ok) = false) : wrk b (g + 1) T S = (S.1, true) := by
  rw [wrk, if_neg (by rw [h]; decide), ht]; simp only; rw [if_neg (by rw [hr]; decide)]
  cases hc : cutR T with
  | none => rfl
  | some r =>
    rw [fcP_some hc, Bool.true_and] at hb
    simp only; rw [if_neg (by rw [opp_2, hb]; decide)]
theorem wrk_cut {b : Int} {g : Nat} {T : List Tm} {S : Wk} {r : Rw} (h : S.2 = false) (ht : tigR T = none) (hr : (refR T).2 = false) (hc : cutR T = some r) (ho : (oppT (sharpR T r.tm).1).2 = true) :
    wrk b (g + 1) T S = wrt b (wrk b g (T ++ [(sharpR T r.tm).1]) (addF T (wrt b S (splNd (sharpR T r.tm).1)))) (cloNd (cutMs r)) := by
  rw [wrk, if_neg (by rw [h]; decide), ht]; simp only; rw [if_neg (by rw [hr]; decide), hc]; simp only; rw [if_pos ho]
theorem fcP_T {ts : List Tm} (h : (fcP ts).2.2 = true) : ∃ r, cutR ts = some r := by
  cases hc : cutR ts with
  | none => rw [fcP_none hc] at h; cases h
  | some r => exact ⟨r, rfl⟩
theorem c1040s {L : Nat} (h1 : 4096 ≤ L) (h2 : L ≤ 1073741824) {b : Int} (hb : 1 ≤ b ∧ b ≤ 60) {F : Nat} (ih : ∀ g : Nat, g < F → ∀ (ts : List Tm) (s : Wk), WkI b g ts s → MC Tryz.prog L 39 [.c (.pt 0 0 0), atms ts] [(0, pbox b s 1), (1, nrows s.1)] (Outs (.tup []) [(0, pbox b (wrk b g ts s) 2), (2, nrows (wrk b g ts s).1)])) {ts : List Tm} {s : Wk} (hw : WkI b F ts s) : MC Tryz.prog L 39 [.c (.pt 0 0 0), atms ts] [(0, pbox b s 1), (1, nrows s.1)] (Outs (.tup []) [(0, pbox b (wrk b F ts s) 2), (2, nrows (wrk b F ts s).1)]) := by
 refine MC.shift 500 rfl ?_
 have hσ := SgOk.withIns (js := [500, 501]) (SGok (nt := 93) h1 (Nat.le_trans h2 (by decide)))
 refine MC.bodyH hσ Tryz.func39 (by kernel_rfl) rfl rfl rfl (Nat.le_of_ble_eq_true rfl) (fun hF => ?_)
 refine AWP.block ?_
 refine AWP.loopP (X := Nat × List Tm × Wk) (fun x => ⟨[(0, .c (.pt 500 0 0)), (1, atms x.2.1)], [(500, pbox b x.2.2 902), (902, nrows x.2.2.1)]⟩) (fun x => x.1 ≤ F ∧ WkI b x.1 x.2.1 x.2.2 ∧ wrk b x.1 x.2.1 x.2.2 = wrk b F ts s) (fun x => 16 - x.2.1.length) (F, ts, s) ((Ent.sub2 501 902 rfl rfl).trans (Ent.to ⟨rfl, rfl, trivial⟩ rfl)) ?_ (fun x hi => ?_)
 ·
  exact ⟨Nat.le_refl _, hw, rfl⟩
 refine AWP.seq ?_
 refine jsr ?_
 iterate 5 refine jst hσ rfl rfl rfl rfl rfl ?_
 refine jf3 18 0 1 rfl rfl rfl ?_
 refine jn ?_
 refine AWP.cond hσ rfl rfl (fun hc18 => ?_) (fun hc18 => ?_)
 ·
  skip
  refine AWP.skip ?_
  refine AWP.block ?_
  refine jsr ?_
  obtain ⟨hx1, hx2, hx3⟩ := hi
  have hS2 : x.2.2.2 = false := nf2 hc18
  have hfs : Fs x.2.1 := hx2.f.resolve_right (by rw [hS2]; decide)
  have hlen := hfs.len
  obtain ⟨T, eT⟩ : ∃ T, T = x.2.1 := ⟨_, rfl⟩
  obtain ⟨S, eS⟩ : ∃ S, S = x.2.2 := ⟨_, rfl⟩
  obtain ⟨g, eg⟩ : ∃ g, x.1 = g + 1 := ⟨x.1 - 1, by have := hx2.a; omega⟩
  rw [← eT, ← eS, eg] at hx2 hx3
  rw [eg] at hx1
  rw [← eT] at hfs hlen
  rw [← eS] at hS2
  rw [← eT, ← eS]
  refine jst hσ rfl rfl rfl rfl rfl ?_
  refine jn ?_
  refine AWP.seq ?_
  refine jsr ?_
  refine jst hσ rfl rfl rfl rfl rfl ?_
  first | refine jle hσ rfl rfl rfl rfl rfl rfl rfl rfl rfl rfl rfl ?_ | refine jst hσ rfl rfl rfl rfl rfl ?_ | refine jvf hσ rfl rfl rfl rfl rfl ?_
  refine jst hσ rfl rfl rfl rfl rfl ?_
  refine jn ?_
  refine AWP.block ?_
  refine AWP.loopP (X := Nat) (fun i => ⟨[(0, .c (.pt 500 0 0)), (1, atms T), (4, eB false), (19, atms T), (20, eI T.length), (21, eI i)], [(500, pbox b S 902), (902, nrows S.1)]⟩) (fun i => i ≤ T.length ∧ tigF T (T.length - i) i = tigR T) (fun i => T.length - i) 0 (Ent.to ⟨rfl, rfl, rfl, rfl, rfl, rfl, trivial⟩ rfl) ?_ (fun i hi => ?_)
  ·
   exact ⟨Nat.zero_le _, rfl⟩
  refine jsr ?_
  refine jst hσ rfl rfl rfl rfl rfl ?_
  refine jn ?_
  refine AWP.seq ?_
  refine AWP.cond hσ rfl rfl (fun hc22 => ?_) (fun hc22 => ?_)
  ·
   skip
   refine AWP.skip ?_
   refine AWP.seq ?_
   refine AWP.block ?_
   refine jsr ?_
   have hil : i < T.length := by have := of_decide_eq_true hc22; omega
   have hti := hfs.get hil
   refine jst hσ rfl rfl rfl rfl rfl ?_
   first | refine jin hσ rfl rfl rfl rfl rfl rfl rfl rfl rfl rfl rfl ?_ | refine jix hσ rfl rfl rfl rfl rfl rfl rfl rfl rfl rfl rfl ?_ | refine jvf hσ rfl rfl rfl rfl rfl ?_
   refine jst hσ rfl rfl rfl rfl rfl ?_
   refine jf9 25 23 22 0 1 4 19 20 21 rfl rfl rfl rfl rfl rfl rfl rfl rfl ?_
   refine AOps.heap (HS.alloc hσ rfl rfl rfl rfl rfl) rfl ?_
   refine jnm ?_
   refine jst hσ rfl rfl rfl rfl rfl ?_
   refine jf10 5 6 25 22 0 1 4 19 20 21 rfl rfl rfl rfl rfl rfl rfl rfl rfl rfl ?_
   refine AOps.heap (HS.storeBox hσ rfl rfl rfl rfl rfl rfl rfl rfl rfl rfl rfl) rfl ?_
   refine jnm ?_
   refine jns ?_
   iterate 2 refine jst hσ rfl rfl rfl rfl rfl ?_
   refine AOps.plainD hσ rfl rfl rfl rfl (c1048 (ts := T) (t := T.getD i default) h1 h2 hti) (VAs.self rfl) rfl rfl rfl rfl (B0 := 30000) rfl rfl ?_
   iterate 3 refine jst hσ rfl rfl rfl rfl rfl ?_
   refine jf12 31 30 5 6 25 22 0 1 4 19 20 21 rfl rfl rfl rfl rfl rfl rfl rfl rfl rfl rfl rfl ?_
   refine AOps.heap (HS.alloc hσ rfl rfl rfl rfl rfl) rfl ?_
   refine jnm ?_
   refine AOps.heap (HS.storeBox hσ rfl rfl rfl rfl rfl rfl rfl rfl rfl rfl rfl) rfl ?_
   refine jnm ?_
   refine jst hσ rfl rfl rfl rfl rfl ?_
   refine jf12 8 7 5 6 25 22 0 1 4 19 20 21 rfl rfl rfl rfl rfl rfl rfl rfl rfl rfl rfl rfl ?_
   refine jns ?_
   refine jst hσ rfl rfl rfl rfl rfl ?_
   refine jn ?_
   refine AWP.cond hσ rfl rfl (fun hc32 => ?_) (fun hc32 => ?_)
   ·
    skip
    refine jsr ?_
    have htg := tigF_T hil hc32
    rw [hi.2] at htg
    have hwe := wrk_tig (b := b) (g := g) hS2 htg
    iterate 3 refine jst hσ rfl rfl rfl rfl rfl ?_
    refine jf14 35 33 32 8 7 6 25 22 0 1 4 19 20 21 rfl rfl rfl rfl rfl rfl rfl rfl rfl rfl rfl rfl rfl rfl ?_
    refine AOps.inn hσ [500, 902] (bin := [pbox b S 1, nrows S.1]) rfl rfl rfl rfl (c1049 (b := b) (s := S) (n := tigNd i) (x := .nils) (y := .nils) h1 h2 .nils .nils (by have := hx2.l; omega)) rfl rfl rfl rfl rfl rfl (B0 := 37000) rfl rfl ?_
    refine jnm ?_
    refine jf12 32 8 7 6 25 22 0 1 4 19 20 21 rfl rfl rfl rfl rfl rfl rfl rfl rfl rfl rfl rfl ?_
    refine jns ?_
    iterate 3 refine jst hσ rfl rfl rfl rfl rfl ?_
    refine AOps.inn hσ [500, 37002] (bin := [pbox b (wrt b S (tigNd i)) 1, nrows (wrt b S (tigNd i)).1]) rfl rfl rfl rfl (c1050 (b := b) (s := (wrt b S (tigNd i))) (ts := T) (t := (sharpR T (T.getD i default)).1) h1 h2 hx2.n0 (by omega)) rfl rfl rfl rfl rfl rfl (B0 := 41000) rfl rfl ?_
    refine jnm ?_
    refine jst hσ rfl rfl rfl rfl rfl ?_
    refine jf12 1 32 8 7 6 25 22 0 4 19 20 21 rfl rfl rfl rfl rfl rfl rfl rfl rfl rfl rfl rfl ?_
    refine jns ?_
    refine jst hσ rfl rfl rfl rfl rfl ?_
    refine jn ?_
    refine AWP.exit ?_
    refine AWP.seq ?_
    refine jsr ?_
    refine jst hσ rfl rfl rfl rfl rfl ?_
    refine jn ?_
    refine AWP.cond hσ rfl rfl (fun hc42 => ?_) (fun hc42 => ?_)
    ·
     skip
     refine AWP.exit ?_
     refine ⟨(g, T ++ [(sharpR T (T.getD i default)).1], addF T (wrt b S (tigNd i))), ((Ent.sel [500, 37002] (e' := [(0, _), (1, _)]) rfl rfl ⟨rfl, rfl, trivial⟩ rfl).trans (Ent.sub2 37002 902 rfl rfl)), ⟨by show g ≤ F; omega, hx2.add hfs (sharp_ok hc32), hwe.symm.trans hx3⟩, by show 16 - (T ++ [(sharpR T (T.getD i default)).1]).length < 16 - T.length; rw [List.length_append, List.length_singleton]; omega⟩
    ·
     skip
     cases hc42
   ·
    skip
    refine AWP.skip ?_
    refine AWP.region ?_
    first | refine jfi hσ rfl rfl rfl rfl rfl ?_ | refine jvf hσ rfl rfl rfl rfl rfl ?_
    refine jst hσ rfl rfl rfl rfl rfl ?_
    refine jn ?_
    have hg9 := tigF_F hil hc32
    refine ⟨i + 1, ((Ent.sel [500, 902] (e' := [(0, _), (1, _), (4, _), (19, _), (20, _), (21, _)]) rfl rfl ⟨rfl, rfl, rfl, rfl, rfl, rfl, trivial⟩ rfl)).trans (Ent.to ⟨rfl, rfl, rfl, rfl, rfl, rfl, trivial⟩ rfl), ⟨by omega, hg9.symm.trans hi.2⟩, by omega⟩
  ·
   skip
   refine AWP.exit ?_
   refine AWP.seq ?_
   refine jsr ?_
   refine jst hσ rfl rfl rfl rfl rfl ?_
   refine jn ?_
   refine AWP.cond hσ rfl rfl (fun hc42 => ?_) (fun hc42 => ?_)
   ·
    skip
    cases hc42
   ·
    skip
    refine AWP.skip ?_
    refine AWP.seq ?_
    refine jsr ?_
    have hie : i = T.length := by have := of_decide_eq_false hc22; omega
    have h9 := hi.2
    rw [hie, Nat.sub_self] at h9
    have htn : tigR T = none := h9.symm
    refine jst hσ rfl rfl rfl rfl rfl ?_
    refine AOps.plainD hσ rfl rfl rfl rfl (c1051 (ts := T) h1 h2 hfs) (VAs.self rfl) rfl rfl rfl rfl (B0 := 46000) rfl rfl ?_
    iterate 5 refine jst hσ rfl rfl rfl rfl rfl ?_
    refine jf10 10 9 42 22 0 1 4 19 20 21 rfl rfl rfl rfl rfl rfl rfl rfl rfl rfl ?_
    refine jns ?_
    refine jst hσ rfl rfl rfl rfl rfl ?_
    refine jn ?_
    refine AWP.cond hσ rfl rfl (fun hc48 => ?_) (fun hc48 => ?_)
    ·
     skip
     refine jsr ?_
     iterate 3 refine jst hσ rfl rfl rfl rfl rfl ?_
     refine jf12 51 49 48 10 42 22 0 1 4 19 20 21 rfl rfl rfl rfl rfl rfl rfl rfl rfl rfl rfl rfl ?_
     refine AOps.inn hσ [500, 902] (bin := [pbox b S 1, nrows S.1]) rfl rfl rfl rfl (c1049 (b := b) (s := S) (n := cloNd (refR T).1) (x := .nils) (y := ints (refR T).1) h1 h2 .nils .d (by have := hx2.l; omega)) rfl rfl rfl rfl rfl rfl (B0 := 53000) rfl rfl ?_
     refine jnm ?_
     refine jf10 48 10 42 22 0 1 4 19 20 21 rfl rfl rfl rfl rfl rfl rfl rfl rfl rfl ?_
     refine jn ?_
     refine AWP.ret ?_
     rw [← hx3, wrk_clo hS2 htn hc48]
     refine ⟨.inl rfl, _, ((Ent.sel [500, 53002] (e' := []) rfl rfl trivial rfl).trans (Ent.sub2 53002 502 rfl rfl)), _, rfl, rfl, rfl⟩
    ·
     skip
     refine AWP.skip ?_
     refine jsr ?_
     refine jst hσ rfl rfl rfl rfl rfl ?_
     refine AOps.plainD hσ rfl rfl rfl rfl (c1052 (ts := T) h1 h2 hfs) (VAs.self rfl) rfl rfl rfl rfl (B0 := 56000) rfl rfl ?_
     iterate 4 refine jst hσ rfl rfl rfl rfl rfl ?_
     refine jf14 58 57 56 48 10 9 42 22 0 1 4 19 20 21 rfl rfl rfl rfl rfl rfl rfl rfl rfl rfl rfl rfl rfl rfl ?_
     refine AOps.heap (HS.alloc hσ rfl rfl rfl rfl rfl) rfl ?_
     refine jnm ?_
     refine AOps.heap (HS.alloc hσ rfl rfl rfl rfl rfl) rfl ?_
     refine jnm ?_
     refine AOps.heap (HS.storeBox hσ rfl rfl rfl rfl rfl rfl rfl rfl rfl rfl rfl) rfl ?_
     refine jnm ?_
     refine jf15 12 11 58 57 48 10 9 42 22 0 1 4 19 20 21 rfl rfl rfl rfl rfl rfl rfl rfl rfl rfl rfl rfl rfl rfl rfl ?_
     refine AOps.heap (HS.storeBox hσ rfl rfl rfl rfl rfl rfl rfl rfl rfl rfl rfl) rfl ?_
     refine jnm ?_
     refine jst hσ rfl rfl rfl rfl rfl ?_
     refine jf14 13 12 11 48 10 9 42 22 0 1 4 19 20 21 rfl rfl rfl rfl rfl rfl rfl rfl rfl rfl rfl rfl rfl rfl ?_
     refine jn ?_
     refine AWP.seq ?_
     refine jsr ?_
     iterate 3 refine jst hσ rfl rfl rfl rfl rfl ?_
     refine jf14 61 12 11 48 10 9 42 22 0 1 4 19 20 21 rfl rfl rfl rfl rfl rfl rfl rfl rfl rfl rfl rfl rfl rfl ?_
     refine AOps.gr 4 rfl rfl rfl (fun hx => AN.step hx rfl rfl rfl (Val.of hσ rfl rfl) rfl rfl ( AN.plainD hσ hx rfl rfl rfl rfl (c186 (t := (fcP T).1) h1 h2 (fcP_ok hfs)) (VAs.self rfl) (B0 := 64000) rfl rfl rfl rfl rfl rfl rfl rfl ( AN.lone hσ hx rfl rfl rfl rfl (c185 (t := oppI (fcP T).1) h1 h2) (VAs.self rfl) rfl rfl rfl rfl rfl rfl rfl (B0 := 65000) rfl ( AN.step hx rfl rfl rfl (Val.of hσ rfl rfl) rfl rfl ( AN.nil))))) rfl rfl ?_
     first | refine AOps.step (Val.pickF hσ rfl rfl rfl rfl rfl) rfl rfl rfl ?_ | refine AOps.step (Val.pickB hσ rfl rfl rfl rfl rfl) rfl rfl rfl ?_ | refine AOps.step (Val.pickT hσ rfl rfl rfl rfl rfl) rfl rfl rfl ?_
     refine jf14 66 12 11 48 10 9 42 22 0 1 4 19 20 21 rfl rfl rfl rfl rfl rfl rfl rfl rfl rfl rfl rfl rfl rfl ?_
     refine jn ?_
     refine AWP.cond hσ rfl rfl (fun hc66 => ?_) (fun hc66 => ?_)
     ·
      skip
      refine jsr ?_
      iterate 3 refine jst hσ rfl rfl rfl rfl rfl ?_
      refine jf15 69 66 12 11 48 10 9 42 22 0 1 4 19 20 21 rfl rfl rfl rfl rfl rfl rfl rfl rfl rfl rfl rfl rfl rfl rfl ?_
      refine AOps.heap (HS.storeBox hσ rfl rfl rfl rfl rfl rfl rfl rfl rfl rfl rfl) rfl ?_
      refine jnm ?_
      refine jn ?_
      refine AWP.ret ?_
      rw [← hx3, wrk_bad hS2 htn hc48 (pvT hc66)]
      refine ⟨.inl rfl, _, ((Ent.sel [500, 902] (e' := []) rfl rfl trivial rfl).trans (Ent.sub2 902 502 rfl rfl)), _, rfl, rfl, rfl⟩
     ·
      skip
      refine AWP.skip ?_
      refine jsr ?_
      obtain ⟨hf1, hf2⟩ := pvF hc66
      obtain ⟨r, hcr⟩ := fcP_T hf1
      obtain ⟨hro, hsr⟩ := cutR_ok hfs hcr
      have hTo := sharp_ok hsr
      have hrn := hro.n
      rw [fcP_some hcr] at hf2 ⊢
      dsimp only
      have hop : (oppT (sharpR T r.tm).1).2 = true := by rw [opp_2]; exact hf2
      have hwc := wrk_cut (b := b) (g := g) hS2 htn hc48 hcr hop
      have hl3 : ((wrk b g (T ++ [(sharpR T r.tm).1]) (addF T (wrt b S (splNd (sharpR T r.tm).1)))).1.length : Int) ≤ b := wrk_len (addF_len hx2.l)
      iterate 2 refine jst hσ rfl rfl rfl rfl rfl ?_
      refine AOps.plainD hσ rfl rfl rfl rfl (c148 (t := (sharpR T r.tm).1) h1 h2) (VAs.self rfl) rfl rfl rfl rfl (B0 := 73000) rfl rfl ?_
      refine jst hσ rfl rfl rfl rfl rfl ?_
      refine jf16 73 70 66 12 11 48 10 9 42 22 0 1 4 19 20 21 rfl rfl rfl rfl rfl rfl rfl rfl rfl rfl rfl rfl rfl rfl rfl rfl ?_
      refine AOps.inn hσ [500, 902] (bin := [pbox b S 1, nrows S.1]) rfl rfl rfl rfl (c1049 (b := b) (s := S) (n := splNd (sharpR T r.tm).1) (x := ints (sharpR T r.tm).1.xs) (y := .nils) h1 h2 .d .nils (by have := hx2.l; omega)) rfl rfl rfl rfl rfl rfl (B0 := 75000) rfl rfl ?_
      refine jnm ?_
      refine jf14 66 12 11 48 10 9 42 22 0 1 4 19 20 21 rfl rfl rfl rfl rfl rfl rfl rfl rfl rfl rfl rfl rfl rfl ?_
      refine jns ?_
      iterate 4 refine jst hσ rfl rfl rfl rfl rfl ?_
      refine AOps.inn hσ [500, 75002] (bin := [pbox b (wrt b S (splNd (sharpR T r.tm).1)) 1, nrows (wrt b S (splNd (sharpR T r.tm).1)).1]) rfl rfl rfl rfl (c1050 (b := b) (s := (wrt b S (splNd (sharpR T r.tm).1))) (ts := T) (t := (sharpR T r.tm).1) h1 h2 hx2.n0 (by omega)) rfl rfl rfl rfl rfl rfl (B0 := 80000) rfl rfl ?_
      refine jnm ?_
      refine jf16 79 75 66 12 11 48 10 9 42 22 0 1 4 19 20 21 rfl rfl rfl rfl rfl rfl rfl rfl rfl rfl rfl rfl rfl rfl rfl rfl ?_
      refine AOps.inn hσ [500, 75002] (bin := [pbox b (addF T (wrt b S (splNd (sharpR T r.tm).1))) 1, nrows (addF T (wrt b S (splNd (sharpR T r.tm).1))).1]) rfl rfl rfl rfl (ih g (by omega) (T ++ [(sharpR T r.tm).1]) (addF T (wrt b S (splNd (sharpR T r.tm).1))) (hx2.add hfs hTo)) rfl rfl rfl rfl rfl rfl (B0 := 81000) rfl rfl ?_
      refine jnm ?_
      refine jf14 66 12 11 48 10 9 42 22 0 1 4 19 20 21 rfl rfl rfl rfl rfl rfl rfl rfl rfl rfl rfl rfl rfl rfl ?_
      refine jn ?_
      refine AWP.seq ?_
      refine AWP.drawP hσ _ [_, _, _, _, _, _, _, _, _, _, _, _] [⟨[], 0, 4, none⟩, ⟨[], 0, 0, none⟩, ⟨[1], 0, 0, none⟩, ⟨[1, 2], 0, 0, some 0⟩, ⟨[], 0, 1, none⟩, ⟨[4], 0, 1, none⟩, ⟨[4, 5], 0, 1, none⟩, ⟨[1, 2, 3, 4, 5, 6], 0, 0, some 1⟩, ⟨[1, 2, 3, 4, 5, 6, 7], 0, 0, some 2⟩, ⟨[1, 2, 3, 4, 5, 6, 7, 8], 0, 0, some 3⟩, ⟨[1, 2, 3, 4, 5, 6, 7, 8, 9], 4, 4, none⟩, ⟨[0, 1, 2, 3, 4, 5, 6, 7, 8, 9, 10], 0, 0, some 4⟩] [3, 7, 8, 9, 11] [_, _, _, _, _, _] [[], [], [], [85000, 89], [81002, 90]] rfl rfl (by decide) (by decide) (by kernel_rfl) (And.intro (And.intro (And.intro (Val.of hσ rfl rfl) rfl) (And.intro (And.intro (Val.of hσ rfl rfl) rfl) (And.intro (And.intro (Val.of hσ rfl rfl) rfl) (And.intro (And.intro (Val.of hσ rfl rfl) rfl) (And.intro (Val.of hσ rfl rfl) rfl))))) (And.intro (And.intro (Val.of hσ rfl rfl) rfl) (And.intro (And.intro (Val.of hσ rfl rfl) rfl) (And.intro (And.intro (Eff.p (Eff.rowsD hσ (B0 := 85000) rfl rfl rfl rfl (c158 (xs := r.ms) h1 h2) (VAs.self rfl) rfl rfl rfl rfl)) rfl) (And.intro (And.intro (And.intro (Val.of hσ rfl rfl) rfl) (And.intro (Val.of hσ rfl rfl) rfl)) (And.intro (And.intro (And.intro (Val.of hσ rfl rfl) rfl) (And.intro (Val.of hσ rfl rfl) rfl)) (And.intro (And.intro (And.intro (Val.of hσ rfl rfl) rfl) (And.intro (Val.of hσ rfl rfl) rfl)) (And.intro (And.intro (Eff.p (Eff.lone hσ (B0 := 89000) rfl rfl rfl rfl (c204 (xs := trim r.xs) h1 h2 (Small.of hro.tm).xs) (VAs.self rfl) rfl rfl rfl rfl rfl)) rfl) (And.intro (And.intro (Eff.p (Eff.lit1 hσ rfl rfl rfl rfl rfl rfl rfl rfl rfl rfl rfl rfl rfl)) rfl) (And.intro (And.intro (Eff.appMove (zs := (cutMs r).map fun n => [.int .i64 n]) (n := (cutMs r).length) hσ rfl rfl rfl rfl rfl rfl rfl rfl rfl rfl rfl rfl rfl rfl rfl rfl (.row rfl (List.length_map _).symm) rfl rfl (by decide) rfl (by simp; omega) (by simp; omega) (List.map_append (f := fun n => [D.int .i64 n]) (l₁ := r.ms) (l₂ := [(gcdL r.tm.xs : Int)])).symm (List.length_map _) rfl) rfl) (And.intro (And.intro (Val.of hσ rfl rfl) rfl) (And.intro (And.intro (Eff.innP hσ [500, 81002, 90] [81002, 90] (bin := [pbox b (wrk b g (T ++ [(sharpR T r.tm).1]) (addF T (wrt b S (splNd (sharpR T r.tm).1)))) 1, nrows (wrk b g (T ++ [(sharpR T r.tm).1]) (addF T (wrt b S (splNd (sharpR T r.tm).1)))).1, nrow (cutMs r)]) rfl rfl rfl rfl (c1049r (b := b) (s := (wrk b g (T ++ [(sharpR T r.tm).1]) (addF T (wrt b S (splNd (sharpR T r.tm).1))))) (ms := cutMs r) h1 h2 (by omega)) rfl rfl rfl rfl rfl (B0 := 93000) rfl rfl rfl rfl rfl rfl rfl) rfl) trivial)))))))))))) ?_
      refine AWP.forget [(66, _), (12, _), (11, _), (48, _), (10, _), (9, _), (42, _), (22, _), (0, _), (1, _), (4, _), (19, _), (20, _), (21, _)] ⟨rfl, rfl, rfl, rfl, rfl, rfl, rfl, rfl, rfl, rfl, rfl, rfl, rfl, rfl, trivial⟩ ?_
      refine jnw ?_
      refine AWP.ret ?_
      rw [← hx3, hwc]
      refine ⟨.inl rfl, _, ((Ent.sel [500, 93003] (e' := []) rfl rfl trivial rfl).trans (Ent.sub2 93003 502 rfl rfl)), _, rfl, rfl, rfl⟩
 ·
  skip
  refine AWP.exit ?_
  show _ ∧ _
  obtain ⟨hx1, hx2, hx3⟩ := hi
  rw [← hx3, wrk_failed (nt2 hc18)]
  refine ⟨.inr rfl, _, ((Ent.sel [500, 902] (e' := []) rfl rfl trivial rfl).trans (Ent.sub2 902 502 rfl rfl)), _, rfl, rfl, rfl⟩
theorem c1040 {L : Nat} (h1 : 4096 ≤ L) (h2 : L ≤ 1073741824) {b : Int} (hb : 1 ≤ b ∧ b ≤ 60) : ∀ (F : Nat) (ts : List Tm) (s : Wk), WkI b F ts s → MC Tryz.prog L 39 [.c (.pt 0 0 0), atms ts] [(0, pbox b s 1), (1, nrows s.1)] (Outs (.tup []) [(0, pbox b (wrk b F ts s) 2), (2, nrows (wrk b F ts s).1)]) := by
 intro F
 induction F using Nat.strongRecOn with
 | _ F ih => intro ts s hw; exact c1040s h1 h2 hb ih hw
end Go.Al
namespace Go.Al
open Go.Proofs
set_option linter.unusedVariables false
set_option linter.unusedSimpArgs false
set_option maxRecDepth 10000
set_option maxHeartbeats 4000000
theorem prv_bad9 {s : Sq} {b : Int} (h : ((ctxI s).2 && budB b) = false) : prvS s b = ([], false) := by
  unfold prvS
  split
  · rename_i h1
    rw [Bool.and_eq_true] at h1
    rw [h1.2, Bool.and_true, ctxI_eq h1.1, ctxS_2] at h
    exact prov_bad h
  · rfl
theorem ctx_1 {s : Sq} (hok : (oppT s.goal).2 = true) : (ctxS s).1 = s.facts ++ [(oppT s.goal).1] := by unfold ctxS; rw [if_pos hok]
theorem wrk_prov {s : Sq} {b : Int} (hs : seqB s = true) (hok : (oppT s.goal).2 = true) (hb : 0 ≤ b) :
    ((wrk b (15 - (s.facts ++ [(oppT s.goal).1]).length) (s.facts ++ [(oppT s.goal).1]) ([], false)).2 = true → provS s b = ([], false)) ∧
    ((wrk b (15 - (s.facts ++ [(oppT s.goal).1]).length) (s.facts ++ [(oppT s.goal).1]) ([], false)).2 = false → provS s b = ((wrk b (15 - (s.facts ++ [(oppT s.goal).1]).length) (s.facts ++ [(oppT s.goal).1]) ([], false)).1, true)) := by
  have hf := seq_ctx hs hok
  have hlen := hf.len
  obtain ⟨q1, q2⟩ := wrk_eq (b := b) (f := 15 - (s.facts ++ [(oppT s.goal).1]).length) (N := []) hf (by omega) (by simpa using hb)
  cases hz : prvG (s.facts ++ [(oppT s.goal).1]) with
  | none =>
    have h2 := q2 fun z h => by rw [show prvF _ _ = none from hz] at h; cases h
    exact ⟨fun _ => prov_none hok hz, fun h => by rw [h2] at h; cases h⟩
  | some z =>
    have hpv := prov_some (b := b) hok hz
    by_cases hl : ((z.1 ++ z.2).length : Int) ≤ b
    · have h1 := q1 z hz (by simp only [List.length_nil]; omega)
      rw [if_pos hl] at hpv
      rw [h1]
      exact ⟨fun h => (by cases h), fun _ => hpv⟩
    · rw [if_neg hl] at hpv
      have h2 := q2 fun y hy => by
        rw [show prvF _ _ = some z from hz] at hy
        simp only [Option.some.injEq] at hy; subst hy
        simp only [List.length_nil]; omega
      exact ⟨fun _ => hpv, fun h => by rw [h2] at h; cases h⟩
theorem prv_T {s : Sq} {b : Int} (h : (prvS s b).2 = true) : seqB s = true ∧ budB b = true := by
  unfold prvS at h
  split at h
  · rename_i h1; simpa using h1
  · cases h
theorem c1037 {L : Nat} (h1 : 4096 ≤ L) (h2 : L ≤ 1073741824) {b : Int} : MC Tryz.prog L 19 [eI b] [] (Plain (eB (budB b))) := by
 refine MC.alone ?_ rfl
 have hσ := SGok (nt := 5) h1 (Nat.le_trans h2 (by decide))
 refine MC.body hσ Tryz.func19 (by kernel_rfl) rfl rfl (Nat.le_of_ble_eq_true rfl) (fun hF => ?_)
 refine jsr ?_
 refine jst hσ rfl rfl rfl rfl rfl ?_
 refine jns ?_
 refine jst hσ rfl rfl rfl rfl rfl ?_
 refine AOps.lone hσ rfl rfl rfl rfl (c111 h1 h2) (VAs.self rfl) rfl rfl rfl rfl rfl (B0 := 5000) rfl ?_
 refine jst hσ rfl rfl rfl rfl rfl ?_
 refine jn ?_
 refine AWP.ret ?_
 refine ⟨.inl rfl, _, Ent.refl, _, rfl, ?_⟩
 rfl
theorem c1019 {L : Nat} (h1 : 4096 ≤ L) (h2 : L ≤ 1073741824) {s : Sq} {b : Int} : MC Tryz.prog L 20 [aSq s, eI b] [] (Plain (resPv (prvS s b))) := by
 refine MC.data ?_
 have hσ := SGok (nt := 36) h1 (Nat.le_trans h2 (by decide))
 refine MC.body hσ Tryz.func20 (by kernel_rfl) rfl rfl (Nat.le_of_ble_eq_true rfl) (fun hF => ?_)
 refine jsr ?_
 refine AOps.heap (HS.box hσ rfl rfl rfl rfl rfl rfl rfl) rfl ?_
 refine jnm ?_
 refine AOps.to (Ent.freeze 2 (e' := [(2, _), (1, _)]) rfl (.cons rfl (.c (.box (cs := Sq.cells s) rfl (VMs.self rfl))) (.cons rfl (.keep rfl) .nil)) (.skip .nil)) ?_
 refine jnm ?_
 iterate 2 refine jst hσ rfl rfl rfl rfl rfl ?_
 refine jns ?_
 refine jst hσ rfl rfl rfl rfl rfl ?_
 refine jf4 10 5 4 1 rfl rfl rfl rfl ?_
 refine AOps.plainD hσ rfl rfl rfl rfl (c144 (s := s) h1 h2) (VAs.self rfl) rfl rfl rfl rfl (B0 := 12000) rfl rfl ?_
 iterate 5 refine jst hσ rfl rfl rfl rfl rfl ?_
 refine jf5 7 6 5 4 1 rfl rfl rfl rfl rfl ?_
 refine jn ?_
 refine AWP.seq ?_
 refine jsr ?_
 iterate 3 refine jst hσ rfl rfl rfl rfl rfl ?_
 refine jf5 16 6 5 4 1 rfl rfl rfl rfl rfl ?_
 refine AOps.gr 3 rfl rfl rfl (fun hx => AN.step hx rfl rfl rfl (Val.of hσ rfl rfl) rfl rfl ( AN.lone hσ hx rfl rfl rfl rfl (c1037 h1 h2) (VAs.self rfl) rfl rfl rfl rfl rfl rfl rfl (B0 := 19000) rfl ( AN.step hx rfl rfl rfl (Val.of hσ rfl rfl) rfl rfl ( AN.nil)))) rfl rfl ?_
 first | refine AOps.step (Val.pickF hσ rfl rfl rfl rfl rfl) rfl rfl rfl ?_ | refine AOps.step (Val.pickB hσ rfl rfl rfl rfl rfl) rfl rfl rfl ?_ | refine AOps.step (Val.pickT hσ rfl rfl rfl rfl rfl) rfl rfl rfl ?_
 refine jf5 20 6 5 4 1 rfl rfl rfl rfl rfl ?_
 refine jn ?_
 refine AWP.cond hσ rfl rfl (fun hc20 => ?_) (fun hc20 => ?_)
 ·
  skip
  refine jsr ?_
  iterate 2 refine jst hσ rfl rfl rfl rfl rfl ?_
  refine jn ?_
  refine AWP.ret ?_
  refine ⟨.inl rfl, _, Ent.refl, _, rfl, ?_⟩
  rw [prv_bad9 (pvT hc20)]
  exact resPv_no
 ·
  skip
  refine AWP.skip ?_
  refine jsr ?_
  obtain ⟨hq1, hq2⟩ := pvF hc20
  obtain ⟨hq3, hq4⟩ := ctxI_2 hq1
  have hok : (oppT s.goal).2 = true := by rw [opp_2]; exact hq4
  have hfc := seq_ctx hq3 hok
  have hlen := hfc.len
  have hbb := budB_in hq2
  obtain ⟨hw1, hw2⟩ := wrk_prov (b := b) hq3 hok (by omega)
  have hpe := prv_in (b := b) hq3 hq2
  have hwl : ((wrk b (15 - (s.facts ++ [(oppT s.goal).1]).length) (s.facts ++ [(oppT s.goal).1]) ([], false)).1.length : Int) ≤ b := wrk_len (by show (0 : Int) ≤ b; omega)
  rw [ctxI_eq hq3, ctx_1 hok]
  iterate 2 refine jst hσ rfl rfl rfl rfl rfl ?_
  refine jf5 22 6 5 4 1 rfl rfl rfl rfl rfl ?_
  refine AOps.heap (HS.box hσ rfl rfl rfl rfl rfl rfl rfl) rfl ?_
  refine jnm ?_
  refine jst hσ rfl rfl rfl rfl rfl ?_
  refine jf5 8 6 5 4 1 rfl rfl rfl rfl rfl ?_
  refine jns ?_
  iterate 2 refine jst hσ rfl rfl rfl rfl rfl ?_
  refine jf6 25 24 8 5 4 1 rfl rfl rfl rfl rfl rfl ?_
  refine AOps.to (Ent.nameBox 23 901 5 false 1 rfl rfl rfl) ?_
  refine AOps.inn hσ [23, 901] (bin := [pbox b ([], false) 1, nrows []]) rfl rfl rfl rfl (c1040 (b := b) h1 h2 hbb (15 - (s.facts ++ [(oppT s.goal).1]).length) (s.facts ++ [(oppT s.goal).1]) ([], false) ⟨.inl hfc, by omega, by simp, by omega, by show (0 : Int) ≤ b; omega⟩) rfl rfl rfl rfl rfl rfl (B0 := 27000) rfl rfl ?_
  refine jnm ?_
  refine jf4 8 5 4 1 rfl rfl rfl rfl ?_
  refine jn ?_
  refine AWP.seq ?_
  refine jsr ?_
  iterate 4 refine jst hσ rfl rfl rfl rfl rfl ?_
  refine jf5 30 8 5 4 1 rfl rfl rfl rfl rfl ?_
  refine jn ?_
  refine AWP.cond hσ rfl rfl (fun hc30 => ?_) (fun hc30 => ?_)
  ·
   skip
   refine jsr ?_
   iterate 2 refine jst hσ rfl rfl rfl rfl rfl ?_
   refine jn ?_
   refine AWP.ret ?_
   refine ⟨.inl rfl, _, Ent.refl, _, rfl, ?_⟩
   rw [hpe, hw1 hc30]
   exact resPv_no
  ·
   skip
   refine AWP.skip ?_
   refine jsr ?_
   iterate 4 refine jst hσ rfl rfl rfl rfl rfl ?_
   refine jf5 34 8 5 4 1 rfl rfl rfl rfl rfl ?_
   refine AOps.rows hσ (B0 := 36000) rfl rfl rfl rfl (c1041 (ts := (wrk b (15 - (s.facts ++ [(oppT s.goal).1]).length) (s.facts ++ [(oppT s.goal).1]) ([], false)).1) h1 h2) (.cons (.c (.whole rfl (List.length_map _).symm)) .nil) rfl rfl rfl rfl rfl rfl ?_
   refine jnm ?_
   iterate 2 refine jst hσ rfl rfl rfl rfl rfl ?_
   refine jf4 5 4 8 1 rfl rfl rfl rfl ?_
   refine jn ?_
   refine AWP.ret ?_
   refine ⟨.inl rfl, _, Ent.refl, _, rfl, ?_⟩
   rw [hpe, hw2 hc30]
   exact .tup (.cons (.c (.whole rfl (List.length_map _).symm)) (.cons (.c .d) .nil))
def vIdx : List Sq → Nat → Int
  | [], _ => -1
  | u :: us, i => if seqB u = true then vIdx us (i + 1) else (i : Int)
theorem vIdx_cons {ss : List Sq} {i : Nat} (h : i < ss.length) : vIdx (ss.drop i) i = if seqB (ss.getD i default) = true then vIdx (ss.drop (i + 1)) (i + 1) else (i : Int) := by
  rw [List.drop_eq_getElem_cons h, getD_lt h]; rfl
theorem vIdx_end {ss : List Sq} {i : Nat} (h : ss.length ≤ i) : vIdx (ss.drop i) i = -1 := by rw [List.drop_of_length_le h]; rfl
theorem vIdx_has : ∀ {us : List Sq} {i : Nat}, decide (vIdx us i ≥ 0) = !us.all seqB
  | [], _ => rfl
  | u :: us, i => by
    rw [vIdx, List.all_cons]
    by_cases h : seqB u = true
    · rw [if_pos h, h, Bool.true_and]; exact vIdx_has
    · rw [if_neg h]
      have h' : seqB u = false := by simpa using h
      rw [h', Bool.false_and]; exact decide_eq_true (by omega)
theorem c1044 {L : Nat} (h1 : 4096 ≤ L) (h2 : L ≤ 1073741824) {s : Sq} : MC Tryz.prog L 35 [aSq s] [] (Plain (eB (!seqB s))) := by
 refine MC.alone ?_ rfl
 have hσ := SGok (nt := 6) h1 (Nat.le_trans h2 (by decide))
 refine MC.body hσ Tryz.func35 (by kernel_rfl) rfl rfl (Nat.le_of_ble_eq_true rfl) (fun hF => ?_)
 refine jsr ?_
 refine AOps.heap (HS.box hσ rfl rfl rfl rfl rfl rfl rfl) rfl ?_
 refine jst hσ rfl rfl rfl rfl rfl ?_
 refine jns ?_
 refine jst hσ rfl rfl rfl rfl rfl ?_
 refine jf3 3 2 0 rfl rfl rfl ?_
 refine AOps.lone hσ rfl rfl rfl rfl (c184 (s := s) h1 h2) (VAs.self rfl) rfl rfl rfl rfl rfl (B0 := 5000) rfl ?_
 iterate 2 refine jst hσ rfl rfl rfl rfl rfl ?_
 refine AOps.forget [(2, _), (0, _)] ⟨rfl, rfl, trivial⟩ ?_
 refine jn ?_
 refine AWP.ret ?_
 refine ⟨.inl rfl, _, Ent.refl, _, rfl, ?_⟩
 rfl
theorem c1054 {L : Nat} (h1 : 4096 ≤ L) (h2 : L ≤ 1073741824) {ss : List Sq} : MC Tryz.prog L 55 [asqs ss, .c (.fn 35 [])] [] (Plain (eI (vIdx ss 0))) := by
 refine MC.alone ?_ rfl
 have hσ := SGok (nt := 19) h1 (Nat.le_trans h2 (by decide))
 refine MC.body hσ Tryz.func55 (by kernel_rfl) rfl rfl (Nat.le_of_ble_eq_true rfl) (fun hF => ?_)
 have hl : ss.length ≤ L := by simpa [As.fact, A.fact, M.fact, D.fact, Ds.fact] using hF.1.1
 refine jsr ?_
 refine jst hσ rfl rfl rfl rfl rfl ?_
 refine jn ?_
 refine AWP.seq ?_
 refine jsr ?_
 refine jst hσ rfl rfl rfl rfl rfl ?_
 first | refine jle hσ rfl rfl rfl rfl rfl rfl rfl rfl rfl rfl rfl ?_ | refine jst hσ rfl rfl rfl rfl rfl ?_ | refine jvf hσ rfl rfl rfl rfl rfl ?_
 refine jst hσ rfl rfl rfl rfl rfl ?_
 refine jn ?_
 refine AWP.block ?_
 refine AWP.loopP (X := Nat) (fun i => ⟨[(0, asqs ss), (1, .c (.fn 35 [])), (7, eI ss.length), (8, eI i)], []⟩) (fun i => i ≤ ss.length ∧ vIdx (ss.drop i) i = vIdx ss 0) (fun i => ss.length - i) 0 (Ent.env ⟨rfl, rfl, rfl, rfl, trivial⟩) ?_ (fun i hi => ?_)
 ·
  exact ⟨Nat.zero_le _, rfl⟩
 refine jsr ?_
 refine jst hσ rfl rfl rfl rfl rfl ?_
 refine jn ?_
 refine AWP.seq ?_
 refine AWP.cond hσ rfl rfl (fun hc9 => ?_) (fun hc9 => ?_)
 ·
  skip
  refine AWP.skip ?_
  refine AWP.seq ?_
  refine AWP.block ?_
  refine jsr ?_
  have hil : i < ss.length := by have := of_decide_eq_true hc9; omega
  have hkc := vIdx_cons hil
  iterate 2 refine jst hσ rfl rfl rfl rfl rfl ?_
  refine jns ?_
  iterate 3 refine jst hσ rfl rfl rfl rfl rfl ?_
  first | refine jin hσ rfl rfl rfl rfl rfl rfl rfl rfl rfl rfl rfl ?_ | refine jix hσ rfl rfl rfl rfl rfl rfl rfl rfl rfl rfl rfl ?_ | refine jvf hσ rfl rfl rfl rfl rfl ?_
  refine jst hσ rfl rfl rfl rfl rfl ?_
  refine jf9 15 11 5 10 9 0 1 7 8 rfl rfl rfl rfl rfl rfl rfl rfl rfl ?_
  refine AOps.lone hσ rfl rfl rfl rfl (c1044 (s := ss.getD i default) h1 h2) (VAs.self rfl) rfl rfl rfl rfl rfl (B0 := 17000) rfl ?_
  refine jf8 16 5 10 9 0 1 7 8 rfl rfl rfl rfl rfl rfl rfl rfl ?_
  refine jn ?_
  refine AWP.cond hσ rfl rfl (fun hc16 => ?_) (fun hc16 => ?_)
  ·
   skip
   refine jsr ?_
   iterate 2 refine jst hσ rfl rfl rfl rfl rfl ?_
   refine jn ?_
   refine AWP.ret ?_
   refine ⟨.inl rfl, _, Ent.refl, _, rfl, ?_⟩
   rw [if_neg (by rw [nf2 hc16]; decide), hi.2] at hkc
   rw [hkc]
  ·
   skip
   refine AWP.skip ?_
   refine AWP.region ?_
   first | refine jfi hσ rfl rfl rfl rfl rfl ?_ | refine jvf hσ rfl rfl rfl rfl rfl ?_
   refine jst hσ rfl rfl rfl rfl rfl ?_
   refine jn ?_
   rw [if_pos (nt2 hc16)] at hkc
   exact ⟨i + 1, Ent.env ⟨rfl, rfl, rfl, rfl, trivial⟩, ⟨by omega, hkc.symm.trans hi.2⟩, by omega⟩
 ·
  skip
  refine AWP.exit ?_
  refine jsr ?_
  refine jst hσ rfl rfl rfl rfl rfl ?_
  refine jn ?_
  refine AWP.ret ?_
  refine ⟨.inl rfl, _, Ent.refl, _, rfl, ?_⟩
  have h9 := hi.2
  rw [vIdx_end (by have := of_decide_eq_false hc9; omega)] at h9
  rw [← h9]
theorem c1043 {L : Nat} (h1 : 4096 ≤ L) (h2 : L ≤ 1073741824) {ss : List Sq} : MC Tryz.prog L 34 [asqs ss, .c (.fn 35 [])] [] (Plain (eB (!ss.all seqB))) := by
 refine MC.alone ?_ rfl
 have hσ := SGok (nt := 9) h1 (Nat.le_trans h2 (by decide))
 refine MC.body hσ Tryz.func34 (by kernel_rfl) rfl rfl (Nat.le_of_ble_eq_true rfl) (fun hF => ?_)
 refine jsr ?_
 refine jst hσ rfl rfl rfl rfl rfl ?_
 refine jns ?_
 iterate 2 refine jst hσ rfl rfl rfl rfl rfl ?_
 refine AOps.lone hσ rfl rfl rfl rfl (c1054 (ss := ss) h1 h2) (.cons (.c .d) (.cons (.c (.fn .nil)) .nil)) rfl rfl rfl rfl rfl (B0 := 8000) rfl ?_
 iterate 2 refine jst hσ rfl rfl rfl rfl rfl ?_
 refine jn ?_
 refine AWP.ret ?_
 refine ⟨.inl rfl, _, Ent.refl, _, rfl, ?_⟩
 exact congrArg eB vIdx_has
theorem c1036 {L : Nat} (h1 : 4096 ≤ L) (h2 : L ≤ 1073741824) {ss : List Sq} : MC Tryz.prog L 18 [asqs ss] [] (Plain (eB (sqsB ss))) := by
 refine MC.alone ?_ rfl
 have hσ := SGok (nt := 11) h1 (Nat.le_trans h2 (by decide))
 refine MC.body hσ Tryz.func18 (by kernel_rfl) rfl rfl (Nat.le_of_ble_eq_true rfl) (fun hF => ?_)
 refine jsr ?_
 refine jst hσ rfl rfl rfl rfl rfl ?_
 refine jns ?_
 refine jst hσ rfl rfl rfl rfl rfl ?_
 first | refine jle hσ rfl rfl rfl rfl rfl rfl rfl rfl rfl rfl rfl ?_ | refine jst hσ rfl rfl rfl rfl rfl ?_ | refine jvf hσ rfl rfl rfl rfl rfl ?_
 iterate 2 refine jst hσ rfl rfl rfl rfl rfl ?_
 refine AOps.gr 3 rfl rfl rfl (fun hx => AN.step hx rfl rfl rfl (Val.of hσ rfl rfl) rfl rfl ( AN.lone hσ hx rfl rfl rfl rfl (c1043 (ss := ss) h1 h2) (.cons (.c .d) (.cons (.c (.fn .nil)) .nil)) rfl rfl rfl rfl rfl rfl rfl (B0 := 9000) rfl ( AN.step hx rfl rfl rfl (Val.of hσ rfl rfl) rfl rfl ( AN.nil)))) rfl rfl ?_
 first | refine AOps.step (Val.pickT hσ rfl rfl rfl rfl rfl) rfl rfl rfl ?_ | refine AOps.step (Val.pickF hσ rfl rfl rfl rfl rfl) rfl rfl rfl ?_ | refine AOps.step (Val.pickB hσ rfl rfl rfl rfl rfl) rfl rfl rfl ?_
 refine jst hσ rfl rfl rfl rfl rfl ?_
 refine jn ?_
 refine AWP.ret ?_
 refine ⟨.inl rfl, _, Ent.refl, _, rfl, ?_⟩
 rw [Bool.cond_false_right, Bool.not_not, Bool.and_comm]; rfl
end Go.Al
