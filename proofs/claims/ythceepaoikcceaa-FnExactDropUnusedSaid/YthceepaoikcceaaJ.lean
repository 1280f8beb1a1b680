/- Marks that are held; the types of the arguments; what an accepted proof is like. -/
import Derived.Test.YthceepaoikcceaaI
import Derived.Test.YthceepaoikcceaaRows
namespace Go.Al
open Go.Proofs
set_option linter.unusedVariables false
set_option linter.unusedSimpArgs false
set_option maxRecDepth 10000
set_option maxHeartbeats 4000000
theorem mark_idem : ∀ {k : Int} {xs : List Int}, markL mI oneI k (markL mI oneI k xs) = markL mI oneI k xs
  | _, [] => rfl
  | k, x :: xs => by
    show k :: markL mI oneI (k + 1) (markL mI oneI (k + 1) xs) = k :: markL mI oneI (k + 1) xs
    rw [mark_idem]
theorem held_marks (xs : List Int) (k : Int) : (if markL mI oneI k xs = markL mI oneI k (markL mI oneI k xs) then k + ((markL mI oneI k xs).length : Int) else -1) = k + xs.length := by
  rw [if_pos mark_idem.symm, markL_length]
theorem markL_getD {α : Type} [Inhabited α] {f : Int → α → α} {sz : α → Nat} : ∀ {l : List α} {k : Int} {i : Nat}, i < l.length → (markL f sz k l).getD i default = f (k + cnt sz (l.take i)) (l.getD i default)
  | [], _, _, h => by simp at h
  | a :: r, k, 0, _ => by simp [markL, cnt]
  | a :: r, k, i + 1, h => by
    have := markL_getD (f := f) (sz := sz) (l := r) (k := k + sz a) (i := i) (by simpa using h)
    simp only [markL, List.getD_cons_succ, List.take_succ_cons] at this ⊢
    rw [this]
    have e : k + (sz a : Int) + (cnt sz (r.take i) : Int) = k + (cnt sz (a :: r.take i) : Int) := by simp [cnt]; omega
    rw [e]
theorem c32d {L : Nat} (h1 : 4096 ≤ L) (h2 : L ≤ 1073741824) {s : Sq} : MC Try.prog L 12 [aSq s] [] (Plain (aSq s)) := (c32 h1 h2).frozen (.v (.agg (.cons (.whole rfl (List.length_map _).symm) (.cons .d (.cons (.whole rfl (List.length_map _).symm) .nil)))))
theorem c33d {L : Nat} (h1 : 4096 ≤ L) (h2 : L ≤ 1073741824) {p : List Nd} : MC Try.prog L 13 [ands p] [] (Plain (ands p)) := (c33 h1 h2).frozen (.v (.c (.whole rfl (List.length_map _).symm)))
theorem c41 {L : Nat} (h1 : 4096 ≤ L) (h2 : L ≤ 1073741824) {ts : List Tm} {k : Int} (hk0 : 0 ≤ k) (hk1 : k + cnt nT ts ≤ 1073741824) : MC Try.prog L 58 [atms (markL mT nT k ts), eI k] [] (Plain (eI (k + cnt nT ts))) := by
 refine MC.alone ?_ rfl
 have hσ := SGok (nt := 31) h1 (Nat.le_trans h2 (by decide))
 refine MC.body hσ Try.func58 (by kernel_rfl) rfl rfl (Nat.le_of_ble_eq_true rfl) (fun hF => ?_)
 have hlm := markL_length (f := mT) (sz := nT) (k := k) (l := ts)
 have hl : (markL mT nT k ts).length ≤ L := by simpa [As.fact, A.fact, M.fact, D.fact, Ds.fact] using hF.1.1
 refine jsr ?_
 refine jst hσ rfl rfl rfl rfl rfl ?_
 refine jn ?_
 refine AWP.seq ?_
 refine jsr ?_
 refine jst hσ rfl rfl rfl rfl rfl ?_
 refine jn ?_
 refine AWP.block ?_
 refine AWP.loopP (X := Nat) (fun i => ⟨[(0, atms (markL mT nT k ts)), (1, eI (k + cnt nT (ts.take i))), (5, eI i)], []⟩) (fun i => i ≤ ts.length) (fun i => ts.length - i) 0 (Ent.env ⟨rfl, by simp [numbered, lk_cons, cnt], rfl, trivial⟩) ?_ (fun i hi => ?_)
 ·
  exact Nat.zero_le _
 refine AWP.seq ?_
 refine jsr ?_
 refine jst hσ rfl rfl rfl rfl rfl ?_
 refine jst hσ rfl rfl rfl rfl rfl ?_
 first | refine AOps.step (Val.lenD hσ rfl rfl rfl rfl rfl rfl rfl rfl) rfl rfl rfl ?_ | refine jst hσ rfl rfl rfl rfl rfl ?_ | refine AOps.step (Val.vif hσ rfl rfl (by first | omega | (simp at *; omega))) rfl rfl rfl ?_
 refine jst hσ rfl rfl rfl rfl rfl ?_
 refine jf [(9, _), (0, _), (1, _), (5, _)] ⟨rfl, rfl, rfl, rfl, trivial⟩ ?_
 refine jn ?_
 refine AWP.cond hσ rfl rfl (fun hc9 => ?_) (fun hc9 => ?_)
 ·
  skip
  refine AWP.skip ?_
  refine AWP.seq ?_
  refine AWP.block ?_
  refine AWP.seq ?_
  refine jsr ?_
  have hil : i < ts.length := by have h9 := of_decide_eq_true hc9; omega
  have hg := markL_getD (f := mT) (sz := nT) (k := k) hil
  have hcs := cnt_succ (sz := nT) hil
  have hcl := cnt_le (sz := nT) (l := ts) (i := i + 1)
  rw [← getD_lt hil] at hcs
  obtain ⟨t, ht⟩ : ∃ t, t = ts.getD i default := ⟨_, rfl⟩
  rw [← ht] at hg hcs
  simp only [nT] at hcs
  obtain ⟨K, hK⟩ : ∃ K, K = k + (cnt nT (ts.take i) : Int) := ⟨_, rfl⟩
  rw [← hK] at hg ⊢
  refine jst hσ rfl rfl rfl rfl rfl ?_
  refine jst hσ rfl rfl rfl rfl rfl ?_
  refine AOps.step ((Val.indexN hσ rfl rfl rfl rfl rfl rfl rfl rfl (idxN (by omega))).cast (v' := ptr (Tm.cells (mT K t))) (by rw [hg])) rfl rfl rfl ?_
  refine jst hσ rfl rfl rfl rfl rfl ?_
  refine jst hσ rfl rfl rfl rfl rfl ?_
  refine jst hσ rfl rfl rfl rfl rfl ?_
  refine jst hσ rfl rfl rfl rfl rfl ?_
  refine jf [(18, _), (9, _), (0, _), (1, _), (5, _)] ⟨rfl, rfl, rfl, rfl, rfl, trivial⟩ ?_
  refine jn ?_
  refine AWP.cond hσ rfl rfl (fun hc18 => ?_) (fun hc18 => ?_)
  ·
   skip
   exact absurd hc18 (by simp)
  ·
   skip
   refine AWP.skip ?_
   refine jsr ?_
   refine jst hσ rfl rfl rfl rfl rfl ?_
   first | refine AOps.step (Val.fits64 hσ rfl rfl (by first | omega | (simp at *; omega)) (by first | omega | (simp at *; omega))) rfl rfl rfl ?_ | refine AOps.step (Val.vif hσ rfl rfl (by first | omega | (simp at *; omega))) rfl rfl rfl ?_
   refine jst hσ rfl rfl rfl rfl rfl ?_
   refine jf [(1, _), (18, _), (9, _), (0, _), (5, _)] ⟨rfl, rfl, rfl, rfl, rfl, trivial⟩ ?_
   refine jn ?_
   refine jsr ?_
   refine jst hσ rfl rfl rfl rfl rfl ?_
   refine jst hσ rfl rfl rfl rfl rfl ?_
   refine AOps.step ((Val.indexN hσ rfl rfl rfl rfl rfl rfl rfl rfl (idxN (by omega))).cast (v' := ptr (Tm.cells (mT K t))) (by rw [hg])) rfl rfl rfl ?_
   refine jst hσ rfl rfl rfl rfl rfl ?_
   refine jst hσ rfl rfl rfl rfl rfl ?_
   refine jst hσ rfl rfl rfl rfl rfl ?_
   refine jf [(26, _), (25, _), (1, _), (18, _), (9, _), (0, _), (5, _)] ⟨rfl, rfl, rfl, rfl, rfl, rfl, rfl, trivial⟩ ?_
   refine AOps.lone hσ rfl rfl rfl rfl ((c21 (xs := markL mI oneI (K + 1) t.xs) (k := K + 1) h1 h2 (by omega) (by omega)).plain (congrArg eI (held_marks t.xs (K + 1)))) (VAs.self rfl) rfl rfl rfl rfl rfl (B0 := 28000) rfl ?_
   refine jst hσ rfl rfl rfl rfl rfl ?_
   refine jf [(1, _), (18, _), (9, _), (0, _), (5, _)] ⟨rfl, rfl, rfl, rfl, rfl, trivial⟩ ?_
   refine jn ?_
   refine jsr ?_
   refine jst hσ rfl rfl rfl rfl rfl ?_
   refine jst hσ rfl rfl rfl rfl rfl ?_
   refine jn ?_
   refine AWP.cond hσ rfl rfl (fun hc29 => ?_) (fun hc29 => ?_)
   ·
    skip
    exact absurd (of_decide_eq_true hc29) (by omega)
   ·
    skip
    refine AWP.skip ?_
    refine AWP.region ?_
    refine jst hσ rfl rfl rfl rfl rfl ?_
    first | refine AOps.step (Val.fits64 hσ rfl rfl (by first | omega | (simp at *; omega)) (by first | omega | (simp at *; omega))) rfl rfl rfl ?_ | refine AOps.step (Val.vif hσ rfl rfl (by first | omega | (simp at *; omega))) rfl rfl rfl ?_
    refine jst hσ rfl rfl rfl rfl rfl ?_
    refine jf [(5, _), (29, _), (28, _), (1, _), (18, _), (9, _), (0, _)] ⟨rfl, rfl, rfl, rfl, rfl, rfl, rfl, trivial⟩ ?_
    refine jn ?_
    refine ⟨i + 1, Ent.env ⟨rfl, ?_, rfl, trivial⟩, by omega, by omega⟩
    rw [hcs]
    exact congrArg (fun z => some (eI z)) (by omega)
 ·
  skip
  refine AWP.exit ?_
  refine jsr ?_
  refine jst hσ rfl rfl rfl rfl rfl ?_
  refine jst hσ rfl rfl rfl rfl rfl ?_
  refine jn ?_
  refine AWP.ret ?_
  refine ⟨.inl rfl, _, Ent.refl, _, rfl, ?_⟩
  have h9 := of_decide_eq_false hc9
  obtain rfl : i = ts.length := by omega
  rw [List.take_length]
end Go.Al
namespace Go.Al
open Go.Proofs
set_option linter.unusedVariables false
set_option linter.unusedSimpArgs false
theorem cnt_szs (ts : List Tm) : cnt nT ts = szs Tm.size ts := by
  unfold cnt szs
  induction ts with
  | nil => rfl
  | cons t r ih =>
    simp only [List.map_cons, List.sum_cons, List.length_cons] at ih ⊢
    have : nT t = 1 + Tm.size t := rfl
    omega
theorem cnt_szsN (b : List Nd) : cnt nN b ≤ 3 * szs Nd.size b := by
  unfold cnt szs
  induction b with
  | nil => simp
  | cons t r ih =>
    simp only [List.map_cons, List.sum_cons, List.length_cons] at ih ⊢
    have h1 : nN t = 3 + t.term.xs.length + t.mul.length := rfl
    have h2 : Nd.size t = t.term.xs.length + t.mul.length := rfl
    omega
theorem szr_nonneg {left : Int} {n : Nat} (h : 0 ≤ szr left n) (h0 : 0 ≤ left) : (n : Int) ≤ left := by
  unfold szr at h
  split at h <;> omega
theorem fact_ints {L S : Nat} {xs : List Int} (h : D.fact L (ints xs)) (hl : xs.length ≤ S) : D.fact S (ints xs) := by
  simp only [D.fact, List.length_map, Dss.fact_map, Ds.fact] at h ⊢
  exact ⟨hl, h.2⟩
theorem sum_mem {α : Type} (f : α → Nat) : ∀ {xs : List α} {x : α}, x ∈ xs → f x ≤ (xs.map f).sum
  | y :: r, x, h => by
    simp only [List.map_cons, List.sum_cons]
    rcases List.mem_cons.1 h with rfl | h
    · omega
    · have := sum_mem f h; omega
theorem fact_tms {L S : Nat} {ts : List Tm} (h : D.fact L (tms ts)) (hl : szs Tm.size ts ≤ S) : D.fact S (tms ts) := by
  unfold szs at hl
  simp only [D.fact, List.length_map, Dss.fact_map] at h ⊢
  refine ⟨by omega, fun t ht => ?_⟩
  have h1 := h.2 t ht
  have h2 := sum_mem Tm.size ht
  have h3 : Tm.size t = t.xs.length := rfl
  exact ⟨h1.1, fact_ints h1.2.1 (by omega), trivial⟩
theorem fact_nds {L S : Nat} {b : List Nd} (h : D.fact L (nds b)) (hl : szs Nd.size b ≤ S) : D.fact S (nds b) := by
  unfold szs at hl
  simp only [D.fact, List.length_map, Dss.fact_map] at h ⊢
  refine ⟨by omega, fun s hs => ?_⟩
  have h1 := h.2 s hs
  have h2 := sum_mem Nd.size hs
  have h3 : Nd.size s = s.term.xs.length + s.mul.length := rfl
  exact ⟨h1.1, h1.2.1, h1.2.2.1, fact_ints h1.2.2.2.1 (by omega), fact_ints h1.2.2.2.2.1 (by omega), trivial⟩
theorem fact_sq {L S : Nat} {s : Sq} (h : Ds.fact L s.cells) (hl : s.size ≤ S) : Ds.fact S s.cells := by
  have e : s.size = szs Tm.size s.facts + s.goal.xs.length := rfl
  exact ⟨fact_tms h.1 (by omega), h.2.1, fact_ints h.2.2.1 (by omega), trivial⟩
theorem cnt_ctx {c : List Tm} (h : CtxOk c) : cnt nT c ≤ 11 * c.length := by
  have key : ∀ l : List Tm, (∀ t ∈ l, t.ok = true) → cnt nT l ≤ 11 * l.length := by
    intro l hl
    induction l with
    | nil => simp [cnt]
    | cons t r ih =>
      have h1 := ih fun t ht => hl t (by simp [ht])
      have h2 := ok_len (hl t (by simp))
      simp only [cnt, List.map_cons, List.sum_cons, List.length_cons] at h1 ⊢
      have : nT t = 1 + t.xs.length := rfl
      omega
  exact key c h.ok
/-! ### What both sides answer -/
theorem small_bounds {s : Sq} {p : List Nd} (hz1 : 0 ≤ szr 1048576 s.size) (hz2 : 0 ≤ szr (szr 1048576 s.size) (szs Nd.size p)) :
    s.size ≤ 1073741824 ∧ szs Nd.size p ≤ 1073741824 ∧ 1 + cnt nT s.facts + s.goal.xs.length + cnt nN p ≤ (1073741824 : Int) ∧ p.length ≤ 1073741824 := by
  have g1 := szr_nonneg hz1 (by decide)
  have g2 := szr_nonneg hz2 hz1
  have g3 := szr_le (left := 1048576) (by decide) s.size
  have k1 := cnt_szs s.facts
  have k2 := cnt_szsN p
  have e1 : s.size = szs Tm.size s.facts + s.goal.xs.length := rfl
  have e2 : p.length ≤ szs Nd.size p := by unfold szs; omega
  refine ⟨by omega, by omega, by omega, by omega⟩
end Go.Al
/- What the laws of the certificates share: the types of their arguments; what came in reads as it did. -/
namespace Go.Proofs.Ythceepaoikcceaa
open Go.ChangeShapes Go.WideShapes Go.ChangeAt Go.RowKit Go.Al
set_option linter.unusedVariables false
set_option maxRecDepth 10000

theorem ownK : ownKnob Try.prog.godebug = none := by kernel_rfl
theorem kidsK : Kids Try.prog (· < Try.prog.types.size) := kids_rows (by kernel_rfl) (by kernel_rfl)
theorem fullK : ∀ t e, t < Try.prog.types.size → Try.prog.underlying t = some (.slice e) → 0 < Try.prog.cellsOf e := slices_full_of Try.prog (by kernel_rfl)

/-! ### The types of the arguments -/
abbrev tyI : List Ty := [.int .i64]
abbrev tyT : List Ty := [.int .i64, .slc tyI]
abbrev tyQ : List Ty := [.slc tyT, .int .i64, .slc tyI]
abbrev tyN : List Ty := [.int .i64, .int .i64, .int .i64, .slc tyI, .slc tyI]
theorem of2 : TyOf Try.prog 2 tyI := .int Try.underlying2
theorem of26 : TyOf Try.prog 23 [.slc tyI] := .slc Try.underlying23 of2 (by kernel_rfl) (by decide)
theorem of63 : TyOf Try.prog 25 tyT := .struct Try.underlying25 (show FieldsAre Try.prog _ (tyI ++ ([.slc tyI] ++ [])) 0 from .cons rfl (by kernel_rfl) of2 (.cons rfl (by kernel_rfl) of26 .nil)) (by kernel_rfl)
theorem of22 : TyOf Try.prog 22 [.slc tyT] := .slc Try.underlying22 of63 (by kernel_rfl) (by decide)
theorem of65 : TyOf Try.prog 27 tyQ := .struct Try.underlying27 (show FieldsAre Try.prog _ ([.slc tyT] ++ (tyT ++ [])) 0 from .cons rfl (by kernel_rfl) of22 (.cons rfl (by kernel_rfl) of63 .nil)) (by kernel_rfl)
theorem of135 : TyOf Try.prog 74 tyN := .struct Try.underlying74 (show FieldsAre Try.prog _ (tyI ++ (tyI ++ (tyT ++ ([.slc tyI] ++ [])))) 0 from
  .cons rfl (by kernel_rfl) of2 (.cons rfl (by kernel_rfl) of2 (.cons rfl (by kernel_rfl) of63 (.cons rfl (by kernel_rfl) of26 .nil)))) (by kernel_rfl)
theorem of66 : TyOf Try.prog 28 [.slc tyN] := .slc Try.underlying28 of135 (by kernel_rfl) (by decide)
theorem fits_int {d : D} (h : Fits (.int .i64) d) : ∃ n, d = .int .i64 n := by cases h; exact ⟨_, rfl⟩
theorem fits_all {α : Type} {es : List Ty} {g : α → List D} (hg : ∀ e, FitsL es e → ∃ a, e = g a) : ∀ {xs : List (List D)}, FitsA es xs → ∃ ys : List α, xs = ys.map g
  | _, .nil => ⟨[], rfl⟩
  | _, .cons h1 h2 => by
    obtain ⟨a, rfl⟩ := hg _ h1
    obtain ⟨ys, rfl⟩ := fits_all hg h2
    exact ⟨a :: ys, rfl⟩
theorem fits_ints {d : D} (h : Fits (.slc tyI) d) : ∃ xs, d = ints xs := by
  cases h with
  | slc h =>
    obtain ⟨xs, rfl⟩ := fits_all (g := fun n => [D.int .i64 n]) (fun e he => by
      cases he with
      | cons h1 h2 =>
        cases h2
        obtain ⟨n, rfl⟩ := fits_int h1
        exact ⟨n, rfl⟩) h
    exact ⟨xs, rfl⟩
theorem fits_term {e : List D} (h : FitsL tyT e) : ∃ t : Tm, e = t.cells := by
  cases h with
  | cons h1 h2 =>
    cases h2 with
    | cons h2 h3 =>
      cases h3
      obtain ⟨n, rfl⟩ := fits_int h1
      obtain ⟨xs, rfl⟩ := fits_ints h2
      exact ⟨⟨n, xs⟩, rfl⟩
theorem fits_terms {d : D} (h : Fits (.slc tyT) d) : ∃ ts, d = tms ts := by
  cases h with
  | slc h =>
    obtain ⟨xs, rfl⟩ := fits_all (g := Tm.cells) (fun e he => fits_term he) h
    exact ⟨xs, rfl⟩
theorem fits_seq {e : List D} (h : FitsL tyQ e) : ∃ s : Sq, e = s.cells := by
  cases h with
  | cons a1 h =>
    cases h with
    | cons a2 h =>
      cases h with
      | cons a3 h =>
        cases h
        obtain ⟨x1, rfl⟩ := fits_terms a1
        obtain ⟨n2, rfl⟩ := fits_int a2
        obtain ⟨x3, rfl⟩ := fits_ints a3
        exact ⟨⟨x1, ⟨n2, x3⟩⟩, rfl⟩
theorem fits_node {e : List D} (h : FitsL tyN e) : ∃ n : Nd, e = n.cells := by
  cases h with
  | cons a1 h =>
    cases h with
    | cons a2 h =>
      cases h with
      | cons a3 h =>
        cases h with
        | cons a4 h =>
          cases h with
          | cons a5 h =>
            cases h
            obtain ⟨n1, rfl⟩ := fits_int a1
            obtain ⟨n2, rfl⟩ := fits_int a2
            obtain ⟨n3, rfl⟩ := fits_int a3
            obtain ⟨x4, rfl⟩ := fits_ints a4
            obtain ⟨x5, rfl⟩ := fits_ints a5
            exact ⟨⟨n1, n2, ⟨n3, x4⟩, x5⟩, rfl⟩
theorem fits_nodes {d : D} (h : Fits (.slc tyN) d) : ∃ b, d = nds b := by
  cases h with
  | slc h =>
    obtain ⟨xs, rfl⟩ := fits_all (g := Nd.cells) (fun e he => fits_node he) h
    exact ⟨xs, rfl⟩
theorem fits_one {t : Ty} {e : List D} (h : FitsL [t] e) : ∃ d, e = [d] ∧ Fits t d := by
  cases h with
  | cons a h => cases h; exact ⟨_, rfl, a⟩
/-! ### What came in reads as it did -/
theorem rdl_rms {L : Nat} {w : World} {ok : Nat → Prop} {m : Nat → Go.Al.Loc} : ∀ {ds : List D} {vs : List Value} {F : List Nat}, RDL L w ok ds vs F → F = [] → RMs L w ok m (ds.map .d) vs
  | _, _, _, .nil, _ => .nil
  | _, _, _, .cons (F1 := F1) (F2 := F2) h1 h2, hF => by
    obtain ⟨rfl, rfl⟩ := List.append_eq_nil_iff.1 hF
    exact .cons (.d h1) (rdl_rms h2 rfl)
section
variable {H : Type} {enc : TypeId × Value → H} {P : Program} {w w' : World}
theorem same_at (hs : ∀ b, b < w.heap.size → Same w w' b) {p : MemPlace} (hp : p.block < w.heap.size) : w.sameAt w' p := by
  cases p with
  | cell b o => exact (hs b hp).cell
  | map b => exact hs b hp
theorem trodAll_same (hs : ∀ b, b < w.heap.size → Same w w' b) {base : Nat} {sp : Nat → Bool} {held : Bool} : ∀ {ts : List TypeId} {vs : List Value} {ds : List (DataW H)} {ps : List MemPlace}, (∀ p ∈ ps, p.block < w.heap.size) → DataW.TrodAll enc P w base sp held ts vs ds ps → DataW.TrodAll enc P w' base sp held ts vs ds ps
  | [], [], [], _, _, h => h
  | _ :: _, _ :: _, _ :: _, _, hl, ⟨p, q, ⟨n, h1⟩, h2, e⟩ =>
    ⟨p, q, ⟨n, DataW.trod_carry n _ _ _ h1 (fun x hx => same_at hs (hl x (by rw [e]; exact List.mem_append_left _ hx)))⟩, trodAll_same hs (fun x hx => hl x (by rw [e]; exact List.mem_append_right _ hx)) h2, e⟩
theorem frame_kept (hf : Go.Al.Frame w w' []) (may : MemPlace → Prop) : w.keptBut w' may := by
  refine ⟨hf.os, hf.output, fun i hi => ?_⟩
  have h := hf.block i hi (by simp)
  unfold Same at h
  rw [h]
  cases hx : w.heap[i]? with
  | none => trivial
  | some o =>
    cases o with
    | cells c t fr => exact ⟨rfl, rfl, rfl, fun _ _ => rfl⟩
    | map es clock => exact .inr ⟨rfl, rfl⟩
    | _ => rfl
theorem frozen_old (hf : Go.Al.Frame w w' []) {a : Addr} (ha : a.block < w.heap.size) : w'.frozen? a = w.frozen? a := by
  have h := hf.block a.block ha (by simp)
  unfold Same at h
  unfold World.frozen?
  rw [h]
theorem post_of_old {f : Func} {s : ChangeSpec} {apart fresh handsOn again : Bool} {args : Array Value} {v : Value} {ds gs : List (DataW H)} {before pa pv : List MemPlace}
    (hW : DataW.Whole enc P f.params.toList s.vars apart w args.toList ds gs before)
    (hres : ∀ (b : Nat) (sp : Nat → Bool) (hd : Bool), DataW.TrodAll enc P w' b sp hd f.resultTypes.toList (v.resultList f.resultTypes.size) (s.fn H (ds ++ gs)).results [])
    (hargs : ∀ sp : Nat → Bool, (∀ p ∈ before, sp p.block = true) → DataW.TrodAll enc P w' 0 sp true f.params.toList args.toList (s.fn H (ds ++ gs)).args pa)
    (hvars : ∀ sp : Nat → Bool, (∀ p ∈ before, sp p.block = true) → DataW.TrodVars enc P w' sp s.vars (s.fn H (ds ++ gs)).vars pv)
    (hps : before = pa ++ pv) (hf : Go.Al.Frame w w' [])
    (hok : ∀ (j : Nat) (t : TypeId) (r : Value), f.resultTypes[j]? = some t → (v.resultList f.resultTypes.size)[j]? = some r → Value.okWide P w' .any 0 t r) :
    s.post enc P f apart fresh handsOn again w args v w' := by
  have hlt := hW.lt
  have hold : ∀ p ∈ before, (fun b => decide (b < w.heap.size)) p.block = true := fun p hp => by simpa using hlt p hp
  refine ⟨ds, gs, before, [], pa, pv, hW, hres _ _ _, hargs _ hold, hvars _ hold, World.keptBut_mono (fun p hp => ⟨hp, ?_⟩) (frame_kept hf (· ∈ before)), fun _ => ?_⟩
  · rw [hps, List.mem_append] at hp
    exact Or.inr hp
  · obtain ⟨_, _, _, _, _, hz, hn⟩ := hW
    refine ⟨hok, _, _, ([] ++ pa) ++ pv, ⟨[] ++ pa, pv, trodAll_append (hargs _ (fun _ _ => rfl)) (hres _ _ _), hvars _ (fun _ _ => rfl), rfl, ?_, ?_⟩, ?_⟩
    · intro b off hp
      have hp' : MemPlace.cell b off ∈ before := by rw [hps]; simpa using hp
      rw [frozen_old hf (hlt _ hp')]
      exact hz b off hp'
    · intro ha
      have := hn ha
      rw [hps] at this
      simpa using this
    · intro p hp _
      rw [hps]
      simpa using hp
end

end Go.Proofs.Ythceepaoikcceaa
namespace Go.Al
open Go.Proofs
set_option linter.unusedVariables false
set_option linter.unusedSimpArgs false
/-! ### What an accepted proof is like -/
theorem fl_neg {b : Nat → Bool} : ∀ {n k : Nat} {f : Int}, fl b k n f < 0 → f < 0 ∧ ∀ j, k ≤ j → j < k + n → b j = false
  | 0, k, f, h => ⟨h, fun j h1 h2 => by omega⟩
  | n + 1, k, f, h => by
    unfold fl at h
    obtain ⟨h1, h2⟩ := fl_neg h
    by_cases hb : b k = true
    · by_cases hf : f < 0
      · rw [if_pos ⟨hb, hf⟩] at h1; omega
      · rw [if_neg (by simp [hf])] at h1; exact absurd h1 hf
    · rw [if_neg (by simp [hb])] at h1
      refine ⟨h1, fun j h3 h4 => ?_⟩
      by_cases e : j = k
      · subst e; simpa using hb
      · exact h2 j (by omega) (by omega)
theorem below_len {n : Nd} {c : List Tm} {first : Bool} : (belowS n c first).length = c.length + 1 := by
  unfold belowS
  split
  · simp
  · split <;> simp
theorem ctxS_len {s : Sq} (h : (oppT s.goal).2 = true) : (ctxS s).1.length = s.facts.length + 1 := by
  unfold ctxS; rw [if_pos h]; simp
theorem acc_right {s : Sq} {p : List Nd} (h : chkS s p = true) : ∀ j, j < p.length → ∃ c, CtxOk c ∧ s.facts.length + 1 ≤ c.length ∧ rightB (p.getD j default) c = true := by
  obtain ⟨hs, hp⟩ := chkS_spec h
  unfold chkS at h
  simp only [Bool.and_eq_true, decide_eq_true_eq] at h
  obtain ⟨_, hok, hfl⟩ := h
  have ho : (oppT s.goal).2 = true := by
    unfold conS at hok
    split at hok
    · assumption
    · cases hok
  have h0 := ctxS_ok hs
  have hc : (conS s p).flaw = (csRun p (ctxS s).1 p.length).flaw := by unfold conS; rw [if_pos ho]
  rw [hc, csRun_flaw hp h0 (Nat.le_refl _)] at hfl
  have hb := (fl_neg hfl).2
  have E := csRun_eqs hp h0
  have hz := csRun_ok (c0 := (ctxS s).1) hp h0 (Nat.le_refl p.length)
  have key : ∀ j, j < p.length → (csRun p (ctxS s).1 p.length).has.getD j default = true ∧ s.facts.length + 1 ≤ ((csRun p (ctxS s).1 p.length).all.getD j default).length := by
    intro j
    induction j using Nat.strongRecOn with
    | _ j ih =>
      intro hj
      by_cases e : j = 0
      · subst e
        obtain ⟨e1, e2⟩ := E.h0 hj
        refine ⟨e1, ?_⟩
        rw [show (csRun p (ctxS s).1 p.length).all.getD 0 default = _ from e2, ctxS_len ho]
        exact Nat.le_refl _
      · obtain ⟨a, ha, hak⟩ := par_in hp (show 0 < j by omega) hj
        obtain ⟨i1, i2⟩ := ih a hak (by omega)
        have hr := hb a (Nat.zero_le _) (by omega)
        have hr' : (csRun p (ctxS s).1 p.length).right.getD a default = true := by
          rw [i1, Bool.true_and] at hr; simpa using hr
        have e1 := E.h j (by omega) hj
        rw [ha, Int.toNat_natCast] at e1
        have e1' : (csRun p (ctxS s).1 p.length).has.getD j default = true := e1.trans hr'
        refine ⟨e1', ?_⟩
        have e2 := E.a j (by omega) hj e1'
        rw [ha, Int.toNat_natCast] at e2
        rw [show (csRun p (ctxS s).1 p.length).all.getD j default = _ from e2, below_len]
        omega
  intro j hj
  obtain ⟨k1, k2⟩ := key j hj
  have hr := hb j (Nat.zero_le _) (by omega)
  rw [k1, Bool.true_and] at hr
  have hr' : (csRun p (ctxS s).1 p.length).right.getD j default = true := by simpa using hr
  exact ⟨_, hz.ctx j hj k1, k2, (hz.good j hj hr').2⟩
/-- What a node of an accepted proof over `n` facts is like. -/
structure NdAt (n : Nat) (x : Nd) : Prop where
  close : x.kind = 1 → n + 1 ≤ x.mul.length ∧ x.mul.length ≤ 20
  fact : x.kind = 3 → 0 ≤ x.fact ∧ x.fact ≤ 19
  kind : x.kind = 1 ∨ x.kind = 2 ∨ x.kind = 3
theorem acc_nodes {s : Sq} {p : List Nd} (h : chkS s p = true) : ∀ x ∈ p, NdAt s.facts.length x := by
  intro x hx
  obtain ⟨j, hj, rfl⟩ := List.getElem_of_mem hx
  have hp := (chkS_spec h).2
  have hn := ndB_get hp hj
  obtain ⟨c, h1, h2, h3⟩ := acc_right h j hj
  rw [getD_lt hj] at h3 hn
  refine ⟨fun hk => ?_, fun hk => ?_, ndB_kind hn⟩
  · unfold rightB at h3
    rw [if_pos hk] at h3
    unfold closesB at h3
    simp only [Bool.and_eq_true, decide_eq_true_eq] at h3
    exact ⟨by omega, ndB_mlen hn⟩
  · unfold ndB at hn
    rw [if_neg (by omega), if_neg (by omega), if_pos hk] at hn
    simp only [inB, Bool.and_eq_true, decide_eq_true_eq] at hn
    exact ⟨hn.1.1.1, hn.1.1.2⟩
theorem acc_facts {s : Sq} {p : List Nd} (h : chkS s p = true) : s.facts.length ≤ 13 := (seqB_spec (chkS_spec h).1).2.1
/-! ### Nodes whose facts stand elsewhere -/
def scat (to : Int → Int) (ms : List Int) (out : List Int) : Nat → List Int
  | 0 => out
  | i + 1 => if 0 ≤ to i then (scat to ms out i).set (to i).toNat (ms.getD i default) else scat to ms out i
theorem scat_length {to : Int → Int} {ms out : List Int} : ∀ {i : Nat}, (scat to ms out i).length = out.length
  | 0 => rfl
  | i + 1 => by
    unfold scat
    split
    · rw [List.length_set, scat_length]
    · exact scat_length
def mvN (cnt to : Int → Int) (x : Nd) : Nd :=
  if x.kind = 3 then { x with fact := to x.fact } else if x.kind = 1 then { x with mul := scat to x.mul (List.replicate (cnt x.mul.length).toNat 0) x.mul.length } else x
structure MvOk (cnt to : Int → Int) (x : Nd) : Prop where
  kind : x.kind = 1 ∨ x.kind = 2 ∨ x.kind = 3
  fact : x.kind = 3 → 0 ≤ x.fact ∧ x.fact ≤ 19
  len : x.kind = 1 → x.mul.length ≤ 20
  cntb : x.kind = 1 → 0 ≤ cnt x.mul.length ∧ cnt x.mul.length ≤ 1000
  rng : x.kind = 1 → ∀ i : Nat, i < x.mul.length → to i < cnt x.mul.length
theorem scat_congr {to to' : Int → Int} {ms out : List Int} : ∀ {i : Nat}, (∀ j : Nat, j < i → to j = to' j) → scat to ms out i = scat to' ms out i
  | 0, _ => rfl
  | i + 1, h => by
    unfold scat
    rw [h i (by omega), scat_congr fun j hj => h j (by omega)]
theorem mvN_congr {cnt to cnt' to' : Int → Int} {x : Nd} (h1 : x.kind = 1 → cnt x.mul.length = cnt' x.mul.length ∧ ∀ i : Nat, i < x.mul.length → to i = to' i) (h3 : x.kind = 3 → to x.fact = to' x.fact) : mvN cnt to x = mvN cnt' to' x := by
  unfold mvN
  split
  · rename_i h; rw [h3 h]
  · split
    · rename_i h
      obtain ⟨e1, e2⟩ := h1 h
      rw [e1, scat_congr e2]
    · rfl
/-- Where the reference moves a fact. -/
def toS (to : List Int) (base : Int) (i : Int) : Int := if (to.length : Int) ≤ i then i + (base - to.length) else to.getD i.toNat default
def cntS (to : List Int) (base : Int) (k : Int) : Int := base + k - to.length
theorem muls_take {f : Int → Bool} {ms : List Int} {n m : Nat} (h : n ≤ m) {bs cs : List Bool} (hb : bs = cs.take n) (hc : cs.length = m) : ∀ {j : Nat}, muls f ms n bs j = (muls f ms m cs j).take n
  | 0 => hb
  | j + 1 => by
    have ih := muls_take (f := f) (ms := ms) h hb hc (j := j)
    have hl : (muls f ms m cs j).length = m := by rw [muls_length, hc]
    unfold muls
    by_cases hj : j < n
    · rw [decide_eq_true hj, decide_eq_true (show j < m by omega), ih]
      split
      · rw [List.take_set]
      · rfl
    · rw [if_neg (by simp [hj]), ih]
      split
      · rw [List.take_set, List.set_eq_of_length_le (by rw [List.length_take]; omega)]
      · rfl
theorem factB_take {x : Nd} {n m : Nat} (h : n ≤ m) (h0 : x.kind = 3 → 0 ≤ x.fact) {cs : List Bool} (hc : cs.length = m) : factB x n (cs.take n) = (factB x m cs).take n := by
  unfold factB
  by_cases hk : x.kind = 3
  · have h0 := h0 hk
    by_cases hn : x.fact < n
    · rw [if_pos ⟨hk, hn⟩, if_pos ⟨hk, by omega⟩, List.take_set]
    · rw [if_neg (fun e => hn e.2)]
      split
      · rw [List.take_set, List.set_eq_of_length_le (by rw [List.length_take]; omega)]
      · rfl
  · rw [if_neg (fun e => hk e.1), if_neg (fun e => hk e.1)]
theorem used_take {f : Int → Bool} {p : List Nd} {n m : Nat} (h : n ≤ m) (hp : ∀ x ∈ p, ndB x = true) : ∀ {i : Nat}, i ≤ p.length → usedN f p n i = (usedN f p m i).take n
  | 0, _ => by simp [usedN, List.take_replicate, Nat.min_eq_left h]
  | i + 1, hi => by
    have ih := used_take (f := f) h hp (i := i) (by omega)
    unfold usedN
    have hn := hp _ (List.getElem_mem (show i < p.length by omega))
    rw [← getD_lt (show i < p.length by omega)] at hn
    refine muls_take h ?_ (by rw [factB_length, usedN_length])
    rw [ih, factB_take h (fun _ => ndB_fact hn) usedN_length]
/-! ### The facts that are kept, and where they stand -/
def keepF (us : List Bool) (ts : List Tm) : Nat → List Tm
  | 0 => []
  | i + 1 => if us.getD i default = true then keepF us ts i ++ [ts.getD i default] else keepF us ts i
def keepP (us : List Bool) (ts : List Tm) : Nat → List Int
  | 0 => []
  | i + 1 => keepP us ts i ++ [if us.getD i default = true then ((keepF us ts i).length : Int) else -1]
theorem keepP_length {us : List Bool} {ts : List Tm} : ∀ {i : Nat}, (keepP us ts i).length = i
  | 0 => rfl
  | i + 1 => by simp [keepP, keepP_length]
theorem keepF_le {us : List Bool} {ts : List Tm} : ∀ {i : Nat}, (keepF us ts i).length ≤ i
  | 0 => Nat.le_refl _
  | i + 1 => by
    have := keepF_le (us := us) (ts := ts) (i := i)
    unfold keepF
    split
    · simp; omega
    · omega
theorem keepF_mono {us : List Bool} {ts : List Tm} {i j : Nat} (h : i ≤ j) : (keepF us ts i).length ≤ (keepF us ts j).length := by
  induction j with
  | zero => obtain rfl : i = 0 := by omega
            exact Nat.le_refl _
  | succ j ih =>
    by_cases e : i = j + 1
    · subst e; exact Nat.le_refl _
    · refine Nat.le_trans (ih (by omega)) ?_
      rw [keepF]
      split
      · simp
      · exact Nat.le_refl _
theorem keepP_get {us : List Bool} {ts : List Tm} : ∀ {n i : Nat}, i < n → (keepP us ts n).getD i default < ((keepF us ts n).length : Int) ∧ -1 ≤ (keepP us ts n).getD i default
  | n + 1, i, h => by
    unfold keepP
    rw [getD_snoc, keepP_length]
    by_cases e : i = n
    · subst e
      rw [if_pos rfl]
      split
      · rename_i hu
        rw [keepF, if_pos hu]
        simp; omega
      · omega
    · rw [if_neg e]
      have h1 := keepP_get (us := us) (ts := ts) (n := n) (i := i) (by omega)
      have h2 := keepF_mono (us := us) (ts := ts) (show n ≤ n + 1 by omega)
      omega
theorem keep_congr {us vs : List Bool} {ts : List Tm} : ∀ {n : Nat}, (∀ j, j < n → us.getD j default = vs.getD j default) → keepF us ts n = keepF vs ts n ∧ keepP us ts n = keepP vs ts n
  | 0, _ => ⟨rfl, rfl⟩
  | n + 1, h => by
    obtain ⟨h1, h2⟩ := keep_congr (us := us) (vs := vs) (ts := ts) (n := n) fun j hj => h j (by omega)
    unfold keepF keepP
    rw [h1, h2, h n (by omega)]
    exact ⟨rfl, rfl⟩
/-! ### What DropUnused, LiftProof and JoinProofs answer -/
def dropFacts (s : Sq) (p : List Nd) : List Tm := keepF (usedN psv p (s.facts.length + 1) p.length) s.facts s.facts.length
def dropTo (s : Sq) (p : List Nd) : List Int := keepP (usedN psv p (s.facts.length + 1) p.length) s.facts s.facts.length ++ [((dropFacts s p).length : Int)]
def dropNds (s : Sq) (p : List Nd) : List Nd := p.map (mvN (cntS (dropTo s p) ((dropFacts s p).length + 1)) (toS (dropTo s p) ((dropFacts s p).length + 1)))
theorem getD_take {α : Type} [Inhabited α] {l : List α} {n j : Nat} (h : j < n) : (l.take n).getD j default = l.getD j default := by
  rw [List.getD_eq_getElem?_getD, List.getD_eq_getElem?_getD, List.getElem?_take, if_pos h]
theorem drop_flags {s : Sq} {p : List Nd} (h : chkS s p = true) : ∀ j, j < s.facts.length → (usedN nz p s.facts.length p.length).getD j default = (usedN psv p (s.facts.length + 1) p.length).getD j default := by
  intro j hj
  have hp := (isB_spec (chkS_spec h).2).2.2.1
  rw [used_eq hp (Nat.le_refl _), used_take (Nat.le_succ _) hp (Nat.le_refl _), getD_take hj]
abbrev dropPl (s : Sq) (p : List Nd) : List Int := keepP (usedN psv p (s.facts.length + 1) p.length) s.facts s.facts.length
/-- How many facts are left out. -/
abbrev dropLess (s : Sq) (p : List Nd) : Int := (s.facts.length : Int) - (dropFacts s p).length
abbrev dropI (s : Sq) (p : List Nd) (i : Int) : Int := if i < (s.facts.length : Int) then (dropPl s p).getD i.toNat default else i - dropLess s p
theorem drop_to {s : Sq} {p : List Nd} {i : Int} (h : 0 ≤ i) : dropI s p i = toS (dropTo s p) ((dropFacts s p).length + 1) i := by
  have hl : (dropTo s p).length = s.facts.length + 1 := by simp [dropTo, keepP_length]
  unfold dropI toS
  rw [hl]
  by_cases h1 : i < (s.facts.length : Int)
  · rw [if_pos h1, if_neg (by omega)]
    show _ = (dropPl s p ++ [_]).getD _ default
    rw [getD_snoc, if_neg (by rw [keepP_length]; omega)]
  · rw [if_neg h1]
    by_cases h2 : i = (s.facts.length : Int)
    · subst h2
      rw [if_neg (by omega)]
      show _ = (dropPl s p ++ [_]).getD _ default
      rw [getD_snoc, if_pos (by rw [keepP_length]; omega)]
      unfold dropLess
      omega
    · rw [if_pos (by omega)]
      unfold dropLess
      omega
theorem drop_map {s : Sq} {p : List Nd} (h : chkS s p = true) : p.map (mvN (fun k => k - dropLess s p) (dropI s p)) = dropNds s p := by
  have hl : (dropTo s p).length = s.facts.length + 1 := by simp [dropTo, keepP_length]
  refine List.map_congr_left fun x hx => mvN_congr (fun h1 => ⟨?_, fun i hi => drop_to (by omega)⟩) (fun h3 => drop_to ((acc_nodes h x hx).fact h3).1)
  unfold cntS dropLess
  rw [hl]; omega
theorem dropFacts_le {s : Sq} {p : List Nd} : (dropFacts s p).length ≤ s.facts.length := keepF_le
theorem drop_ok {s : Sq} {p : List Nd} (h : chkS s p = true) : ∀ x ∈ p, MvOk (fun k => k - dropLess s p) (dropI s p) x := by
  intro x hx
  have hn := acc_nodes h x hx
  have h13 := acc_facts h
  have hle := dropFacts_le (s := s) (p := p)
  refine ⟨hn.kind, hn.fact, fun hk => (hn.close hk).2, fun hk => ?_, fun hk i hi => ?_⟩
  · have := hn.close hk
    unfold dropLess
    omega
  · have := hn.close hk
    unfold dropI
    split
    · have h1 := (keepP_get (us := usedN psv p (s.facts.length + 1) p.length) (ts := s.facts) (n := s.facts.length) (i := i) (by omega)).1
      rw [Int.toNat_natCast]
      have h2 : ((keepF (usedN psv p (s.facts.length + 1) p.length) s.facts s.facts.length).length : Int) = (dropFacts s p).length := rfl
      unfold dropLess dropPl
      omega
    · unfold dropLess; omega
/-! ### More facts -/
def nums (n : Nat) : List Int := (List.range n).map fun (i : Nat) => (i : Int)
abbrev liftI (n more : Nat) (i : Int) : Int := if i < (n : Int) then i else i + more
def liftNds (n more : Nat) (p : List Nd) : List Nd := p.map (mvN (cntS (nums n ++ [((n + more : Nat) : Int)]) (((n + more : Nat) : Int) + 1)) (toS (nums n ++ [((n + more : Nat) : Int)]) (((n + more : Nat) : Int) + 1)))
/-! ### A lemma -/
abbrev swapI (n : Nat) (i : Int) : Int := if i = (n : Int) then (n : Int) + 1 else if i = (n : Int) + 1 then (n : Int) else i
def swapNds (n : Nat) (p : List Nd) : List Nd := p.map (mvN (cntS (nums n ++ [(n : Int) + 1] ++ [(n : Int)]) ((n : Int) + 2)) (toS (nums n ++ [(n : Int) + 1] ++ [(n : Int)]) ((n : Int) + 2)))
end Go.Al
