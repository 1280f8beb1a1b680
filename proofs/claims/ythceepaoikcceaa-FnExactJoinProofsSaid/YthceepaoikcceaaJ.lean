/- Marks that are held; the types of the arguments; what an accepted proof is like. -/
import Derived.Test.YthceepaoikcceaaI
import Derived.Test.YthceepaoikcceaaRows
namespace Go.Al
open Go.Proofs
set_option linter.unusedVariables false
set_option linter.unusedSimpArgs false
set_option maxRecDepth 10000
set_option maxHeartbeats 4000000
theorem mark_idem : ∀ {k : Int} {xs : List Int}, markL mI oneI k (markL mI oneI k xs) = markL mI oneI k xs
  | _, [] => rfl
  | k, x :: xs => by
    show k :: markL mI oneI (k + 1) (markL mI oneI (k + 1) xs) = k :: markL mI oneI (k + 1) xs
    rw [mark_idem]
theorem held_marks (xs : List Int) (k : Int) : (if markL mI oneI k xs = markL mI oneI k (markL mI oneI k xs) then k + ((markL mI oneI k xs).length : Int) else -1) = k + xs.length := by
  rw [if_pos mark_idem.symm, markL_length]
theorem markL_getD {α : Type} [Inhabited α] {f : Int → α → α} {sz : α → Nat} : ∀ {l : List α} {k : Int} {i : Nat}, i < l.length → (markL f sz k l).getD i default = f (k + cnt sz (l.take i)) (l.getD i default)
  | [], _, _, h => by simp at h
  | a :: r, k, 0, _ => by simp [markL, cnt]
  | a :: r, k, i + 1, h => by
    have := markL_getD (f := f) (sz := sz) (l := r) (k := k + sz a) (i := i) (by simpa using h)
    simp only [markL, List.getD_cons_succ, List.take_succ_cons] at this ⊢
    rw [this]
    have e : k + (sz a : Int) + (cnt sz (r.take i) : Int) = k + (cnt sz (a :: r.take i) : Int) := by simp [cnt]; omega
    rw [e]
theorem c32d {L : Nat} (h1 : 4096 ≤ L) (h2 : L ≤ 1073741824) {s : Sq} : MC Try.prog L 12 [aSq s] [] (Plain (aSq s)) := (c32 h1 h2).frozen (.v (.agg (.cons (.whole rfl (List.length_map _).symm) (.cons .d (.cons (.whole rfl (List.length_map _).symm) .nil)))))
theorem c33d {L : Nat} (h1 : 4096 ≤ L) (h2 : L ≤ 1073741824) {p : List Nd} : MC Try.prog L 13 [ands p] [] (Plain (ands p)) := (c33 h1 h2).frozen (.v (.c (.whole rfl (List.length_map _).symm)))
end Go.Al
namespace Go.Al
open Go.Proofs
set_option linter.unusedVariables false
set_option linter.unusedSimpArgs false
theorem cnt_szs (ts : List Tm) : cnt nT ts = szs Tm.size ts := by
  unfold cnt szs
  induction ts with
  | nil => rfl
  | cons t r ih =>
    simp only [List.map_cons, List.sum_cons, List.length_cons] at ih ⊢
    have : nT t = 1 + Tm.size t := rfl
    omega
theorem cnt_szsN (b : List Nd) : cnt nN b ≤ 3 * szs Nd.size b := by
  unfold cnt szs
  induction b with
  | nil => simp
  | cons t r ih =>
    simp only [List.map_cons, List.sum_cons, List.length_cons] at ih ⊢
    have h1 : nN t = 3 + t.term.xs.length + t.mul.length := rfl
    have h2 : Nd.size t = t.term.xs.length + t.mul.length := rfl
    omega
theorem szr_nonneg {left : Int} {n : Nat} (h : 0 ≤ szr left n) (h0 : 0 ≤ left) : (n : Int) ≤ left := by
  unfold szr at h
  split at h <;> omega
theorem fact_ints {L S : Nat} {xs : List Int} (h : D.fact L (ints xs)) (hl : xs.length ≤ S) : D.fact S (ints xs) := by
  simp only [D.fact, List.length_map, Dss.fact_map, Ds.fact] at h ⊢
  exact ⟨hl, h.2⟩
theorem sum_mem {α : Type} (f : α → Nat) : ∀ {xs : List α} {x : α}, x ∈ xs → f x ≤ (xs.map f).sum
  | y :: r, x, h => by
    simp only [List.map_cons, List.sum_cons]
    rcases List.mem_cons.1 h with rfl | h
    · omega
    · have := sum_mem f h; omega
theorem fact_tms {L S : Nat} {ts : List Tm} (h : D.fact L (tms ts)) (hl : szs Tm.size ts ≤ S) : D.fact S (tms ts) := by
  unfold szs at hl
  simp only [D.fact, List.length_map, Dss.fact_map] at h ⊢
  refine ⟨by omega, fun t ht => ?_⟩
  have h1 := h.2 t ht
  have h2 := sum_mem Tm.size ht
  have h3 : Tm.size t = t.xs.length := rfl
  exact ⟨h1.1, fact_ints h1.2.1 (by omega), trivial⟩
theorem fact_nds {L S : Nat} {b : List Nd} (h : D.fact L (nds b)) (hl : szs Nd.size b ≤ S) : D.fact S (nds b) := by
  unfold szs at hl
  simp only [D.fact, List.length_map, Dss.fact_map] at h ⊢
  refine ⟨by omega, fun s hs => ?_⟩
  have h1 := h.2 s hs
  have h2 := sum_mem Nd.size hs
  have h3 : Nd.size s = s.term.xs.length + s.mul.length := rfl
  exact ⟨h1.1, h1.2.1, h1.2.2.1, fact_ints h1.2.2.2.1 (by omega), fact_ints h1.2.2.2.2.1 (by omega), trivial⟩
theorem fact_sq {L S : Nat} {s : Sq} (h : Ds.fact L s.cells) (hl : s.size ≤ S) : Ds.fact S s.cells := by
  have e : s.size = szs Tm.size s.facts + s.goal.xs.length := rfl
  exact ⟨fact_tms h.1 (by omega), h.2.1, fact_ints h.2.2.1 (by omega), trivial⟩
/-! ### What both sides answer -/
end Go.Al
/- What the laws of the certificates share: the types of their arguments; what came in reads as it did. -/
namespace Go.Proofs.Ythceepaoikcceaa
open Go.ChangeShapes Go.WideShapes Go.ChangeAt Go.RowKit Go.Al
set_option linter.unusedVariables false
set_option maxRecDepth 10000

theorem ownK : ownKnob Try.prog.godebug = none := by kernel_rfl
theorem kidsK : Kids Try.prog (· < Try.prog.types.size) := kids_rows (by kernel_rfl) (by kernel_rfl)
theorem fullK : ∀ t e, t < Try.prog.types.size → Try.prog.underlying t = some (.slice e) → 0 < Try.prog.cellsOf e := slices_full_of Try.prog (by kernel_rfl)

/-! ### The types of the arguments -/
abbrev tyI : List Ty := [.int .i64]
abbrev tyT : List Ty := [.int .i64, .slc tyI]
abbrev tyQ : List Ty := [.slc tyT, .int .i64, .slc tyI]
abbrev tyN : List Ty := [.int .i64, .int .i64, .int .i64, .slc tyI, .slc tyI]
theorem of2 : TyOf Try.prog 2 tyI := .int Try.underlying2
theorem of26 : TyOf Try.prog 23 [.slc tyI] := .slc Try.underlying23 of2 (by kernel_rfl) (by decide)
theorem of63 : TyOf Try.prog 25 tyT := .struct Try.underlying25 (show FieldsAre Try.prog _ (tyI ++ ([.slc tyI] ++ [])) 0 from .cons rfl (by kernel_rfl) of2 (.cons rfl (by kernel_rfl) of26 .nil)) (by kernel_rfl)
theorem of22 : TyOf Try.prog 22 [.slc tyT] := .slc Try.underlying22 of63 (by kernel_rfl) (by decide)
theorem of65 : TyOf Try.prog 27 tyQ := .struct Try.underlying27 (show FieldsAre Try.prog _ ([.slc tyT] ++ (tyT ++ [])) 0 from .cons rfl (by kernel_rfl) of22 (.cons rfl (by kernel_rfl) of63 .nil)) (by kernel_rfl)
theorem of135 : TyOf Try.prog 74 tyN := .struct Try.underlying74 (show FieldsAre Try.prog _ (tyI ++ (tyI ++ (tyT ++ ([.slc tyI] ++ [])))) 0 from
  .cons rfl (by kernel_rfl) of2 (.cons rfl (by kernel_rfl) of2 (.cons rfl (by kernel_rfl) of63 (.cons rfl (by kernel_rfl) of26 .nil)))) (by kernel_rfl)
theorem of66 : TyOf Try.prog 28 [.slc tyN] := .slc Try.underlying28 of135 (by kernel_rfl) (by decide)
theorem fits_int {d : D} (h : Fits (.int .i64) d) : ∃ n, d = .int .i64 n := by cases h; exact ⟨_, rfl⟩
theorem fits_all {α : Type} {es : List Ty} {g : α → List D} (hg : ∀ e, FitsL es e → ∃ a, e = g a) : ∀ {xs : List (List D)}, FitsA es xs → ∃ ys : List α, xs = ys.map g
  | _, .nil => ⟨[], rfl⟩
  | _, .cons h1 h2 => by
    obtain ⟨a, rfl⟩ := hg _ h1
    obtain ⟨ys, rfl⟩ := fits_all hg h2
    exact ⟨a :: ys, rfl⟩
theorem fits_ints {d : D} (h : Fits (.slc tyI) d) : ∃ xs, d = ints xs := by
  cases h with
  | slc h =>
    obtain ⟨xs, rfl⟩ := fits_all (g := fun n => [D.int .i64 n]) (fun e he => by
      cases he with
      | cons h1 h2 =>
        cases h2
        obtain ⟨n, rfl⟩ := fits_int h1
        exact ⟨n, rfl⟩) h
    exact ⟨xs, rfl⟩
theorem fits_term {e : List D} (h : FitsL tyT e) : ∃ t : Tm, e = t.cells := by
  cases h with
  | cons h1 h2 =>
    cases h2 with
    | cons h2 h3 =>
      cases h3
      obtain ⟨n, rfl⟩ := fits_int h1
      obtain ⟨xs, rfl⟩ := fits_ints h2
      exact ⟨⟨n, xs⟩, rfl⟩
theorem fits_terms {d : D} (h : Fits (.slc tyT) d) : ∃ ts, d = tms ts := by
  cases h with
  | slc h =>
    obtain ⟨xs, rfl⟩ := fits_all (g := Tm.cells) (fun e he => fits_term he) h
    exact ⟨xs, rfl⟩
theorem fits_seq {e : List D} (h : FitsL tyQ e) : ∃ s : Sq, e = s.cells := by
  cases h with
  | cons a1 h =>
    cases h with
    | cons a2 h =>
      cases h with
      | cons a3 h =>
        cases h
        obtain ⟨x1, rfl⟩ := fits_terms a1
        obtain ⟨n2, rfl⟩ := fits_int a2
        obtain ⟨x3, rfl⟩ := fits_ints a3
        exact ⟨⟨x1, ⟨n2, x3⟩⟩, rfl⟩
theorem fits_node {e : List D} (h : FitsL tyN e) : ∃ n : Nd, e = n.cells := by
  cases h with
  | cons a1 h =>
    cases h with
    | cons a2 h =>
      cases h with
      | cons a3 h =>
        cases h with
        | cons a4 h =>
          cases h with
          | cons a5 h =>
            cases h
            obtain ⟨n1, rfl⟩ := fits_int a1
            obtain ⟨n2, rfl⟩ := fits_int a2
            obtain ⟨n3, rfl⟩ := fits_int a3
            obtain ⟨x4, rfl⟩ := fits_ints a4
            obtain ⟨x5, rfl⟩ := fits_ints a5
            exact ⟨⟨n1, n2, ⟨n3, x4⟩, x5⟩, rfl⟩
theorem fits_nodes {d : D} (h : Fits (.slc tyN) d) : ∃ b, d = nds b := by
  cases h with
  | slc h =>
    obtain ⟨xs, rfl⟩ := fits_all (g := Nd.cells) (fun e he => fits_node he) h
    exact ⟨xs, rfl⟩
theorem fits_one {t : Ty} {e : List D} (h : FitsL [t] e) : ∃ d, e = [d] ∧ Fits t d := by
  cases h with
  | cons a h => cases h; exact ⟨_, rfl, a⟩
/-! ### What came in reads as it did -/
theorem rdl_rms {L : Nat} {w : World} {ok : Nat → Prop} {m : Nat → Go.Al.Loc} : ∀ {ds : List D} {vs : List Value} {F : List Nat}, RDL L w ok ds vs F → F = [] → RMs L w ok m (ds.map .d) vs
  | _, _, _, .nil, _ => .nil
  | _, _, _, .cons (F1 := F1) (F2 := F2) h1 h2, hF => by
    obtain ⟨rfl, rfl⟩ := List.append_eq_nil_iff.1 hF
    exact .cons (.d h1) (rdl_rms h2 rfl)
section
variable {H : Type} {enc : TypeId × Value → H} {P : Program} {w w' : World}
theorem same_at (hs : ∀ b, b < w.heap.size → Same w w' b) {p : MemPlace} (hp : p.block < w.heap.size) : w.sameAt w' p := by
  cases p with
  | cell b o => exact (hs b hp).cell
  | map b => exact hs b hp
theorem trodAll_same (hs : ∀ b, b < w.heap.size → Same w w' b) {base : Nat} {sp : Nat → Bool} {held : Bool} : ∀ {ts : List TypeId} {vs : List Value} {ds : List (DataW H)} {ps : List MemPlace}, (∀ p ∈ ps, p.block < w.heap.size) → DataW.TrodAll enc P w base sp held ts vs ds ps → DataW.TrodAll enc P w' base sp held ts vs ds ps
  | [], [], [], _, _, h => h
  | _ :: _, _ :: _, _ :: _, _, hl, ⟨p, q, ⟨n, h1⟩, h2, e⟩ =>
    ⟨p, q, ⟨n, DataW.trod_carry n _ _ _ h1 (fun x hx => same_at hs (hl x (by rw [e]; exact List.mem_append_left _ hx)))⟩, trodAll_same hs (fun x hx => hl x (by rw [e]; exact List.mem_append_right _ hx)) h2, e⟩
theorem frame_kept (hf : Go.Al.Frame w w' []) (may : MemPlace → Prop) : w.keptBut w' may := by
  refine ⟨hf.os, hf.output, fun i hi => ?_⟩
  have h := hf.block i hi (by simp)
  unfold Same at h
  rw [h]
  cases hx : w.heap[i]? with
  | none => trivial
  | some o =>
    cases o with
    | cells c t fr => exact ⟨rfl, rfl, rfl, fun _ _ => rfl⟩
    | map es clock => exact .inr ⟨rfl, rfl⟩
    | _ => rfl
theorem frozen_old (hf : Go.Al.Frame w w' []) {a : Addr} (ha : a.block < w.heap.size) : w'.frozen? a = w.frozen? a := by
  have h := hf.block a.block ha (by simp)
  unfold Same at h
  unfold World.frozen?
  rw [h]
theorem post_of_old {f : Func} {s : ChangeSpec} {apart fresh handsOn again : Bool} {args : Array Value} {v : Value} {ds gs : List (DataW H)} {before pa pv : List MemPlace}
    (hW : DataW.Whole enc P f.params.toList s.vars apart w args.toList ds gs before)
    (hres : ∀ (b : Nat) (sp : Nat → Bool) (hd : Bool), DataW.TrodAll enc P w' b sp hd f.resultTypes.toList (v.resultList f.resultTypes.size) (s.fn H (ds ++ gs)).results [])
    (hargs : ∀ sp : Nat → Bool, (∀ p ∈ before, sp p.block = true) → DataW.TrodAll enc P w' 0 sp true f.params.toList args.toList (s.fn H (ds ++ gs)).args pa)
    (hvars : ∀ sp : Nat → Bool, (∀ p ∈ before, sp p.block = true) → DataW.TrodVars enc P w' sp s.vars (s.fn H (ds ++ gs)).vars pv)
    (hps : before = pa ++ pv) (hf : Go.Al.Frame w w' [])
    (hok : ∀ (j : Nat) (t : TypeId) (r : Value), f.resultTypes[j]? = some t → (v.resultList f.resultTypes.size)[j]? = some r → Value.okWide P w' .any 0 t r) :
    s.post enc P f apart fresh handsOn again w args v w' := by
  have hlt := hW.lt
  have hold : ∀ p ∈ before, (fun b => decide (b < w.heap.size)) p.block = true := fun p hp => by simpa using hlt p hp
  refine ⟨ds, gs, before, [], pa, pv, hW, hres _ _ _, hargs _ hold, hvars _ hold, World.keptBut_mono (fun p hp => ⟨hp, ?_⟩) (frame_kept hf (· ∈ before)), fun _ => ?_⟩
  · rw [hps, List.mem_append] at hp
    exact Or.inr hp
  · obtain ⟨_, _, _, _, _, hz, hn⟩ := hW
    refine ⟨hok, _, _, ([] ++ pa) ++ pv, ⟨[] ++ pa, pv, trodAll_append (hargs _ (fun _ _ => rfl)) (hres _ _ _), hvars _ (fun _ _ => rfl), rfl, ?_, ?_⟩, ?_⟩
    · intro b off hp
      have hp' : MemPlace.cell b off ∈ before := by rw [hps]; simpa using hp
      rw [frozen_old hf (hlt _ hp')]
      exact hz b off hp'
    · intro ha
      have := hn ha
      rw [hps] at this
      simpa using this
    · intro p hp _
      rw [hps]
      simpa using hp
end

end Go.Proofs.Ythceepaoikcceaa
namespace Go.Al
open Go.Proofs
set_option linter.unusedVariables false
set_option linter.unusedSimpArgs false
/-! ### What an accepted proof is like -/
theorem fl_neg {b : Nat → Bool} : ∀ {n k : Nat} {f : Int}, fl b k n f < 0 → f < 0 ∧ ∀ j, k ≤ j → j < k + n → b j = false
  | 0, k, f, h => ⟨h, fun j h1 h2 => by omega⟩
  | n + 1, k, f, h => by
    unfold fl at h
    obtain ⟨h1, h2⟩ := fl_neg h
    by_cases hb : b k = true
    · by_cases hf : f < 0
      · rw [if_pos ⟨hb, hf⟩] at h1; omega
      · rw [if_neg (by simp [hf])] at h1; exact absurd h1 hf
    · rw [if_neg (by simp [hb])] at h1
      refine ⟨h1, fun j h3 h4 => ?_⟩
      by_cases e : j = k
      · subst e; simpa using hb
      · exact h2 j (by omega) (by omega)
theorem below_len {n : Nd} {c : List Tm} {first : Bool} : (belowS n c first).length = c.length + 1 := by
  unfold belowS
  split
  · simp
  · split <;> simp
theorem ctxS_len {s : Sq} (h : (oppT s.goal).2 = true) : (ctxS s).1.length = s.facts.length + 1 := by
  unfold ctxS; rw [if_pos h]; simp
theorem acc_right {s : Sq} {p : List Nd} (h : chkS s p = true) : ∀ j, j < p.length → ∃ c, CtxOk c ∧ s.facts.length + 1 ≤ c.length ∧ rightB (p.getD j default) c = true := by
  obtain ⟨hs, hp⟩ := chkS_spec h
  unfold chkS at h
  simp only [Bool.and_eq_true, decide_eq_true_eq] at h
  obtain ⟨_, hok, hfl⟩ := h
  have ho : (oppT s.goal).2 = true := by
    unfold conS at hok
    split at hok
    · assumption
    · cases hok
  have h0 := ctxS_ok hs
  have hc : (conS s p).flaw = (csRun p (ctxS s).1 p.length).flaw := by unfold conS; rw [if_pos ho]
  rw [hc, csRun_flaw hp h0 (Nat.le_refl _)] at hfl
  have hb := (fl_neg hfl).2
  have E := csRun_eqs hp h0
  have hz := csRun_ok (c0 := (ctxS s).1) hp h0 (Nat.le_refl p.length)
  have key : ∀ j, j < p.length → (csRun p (ctxS s).1 p.length).has.getD j default = true ∧ s.facts.length + 1 ≤ ((csRun p (ctxS s).1 p.length).all.getD j default).length := by
    intro j
    induction j using Nat.strongRecOn with
    | _ j ih =>
      intro hj
      by_cases e : j = 0
      · subst e
        obtain ⟨e1, e2⟩ := E.h0 hj
        refine ⟨e1, ?_⟩
        rw [show (csRun p (ctxS s).1 p.length).all.getD 0 default = _ from e2, ctxS_len ho]
        exact Nat.le_refl _
      · obtain ⟨a, ha, hak⟩ := par_in hp (show 0 < j by omega) hj
        obtain ⟨i1, i2⟩ := ih a hak (by omega)
        have hr := hb a (Nat.zero_le _) (by omega)
        have hr' : (csRun p (ctxS s).1 p.length).right.getD a default = true := by
          rw [i1, Bool.true_and] at hr; simpa using hr
        have e1 := E.h j (by omega) hj
        rw [ha, Int.toNat_natCast] at e1
        have e1' : (csRun p (ctxS s).1 p.length).has.getD j default = true := e1.trans hr'
        refine ⟨e1', ?_⟩
        have e2 := E.a j (by omega) hj e1'
        rw [ha, Int.toNat_natCast] at e2
        rw [show (csRun p (ctxS s).1 p.length).all.getD j default = _ from e2, below_len]
        omega
  intro j hj
  obtain ⟨k1, k2⟩ := key j hj
  have hr := hb j (Nat.zero_le _) (by omega)
  rw [k1, Bool.true_and] at hr
  have hr' : (csRun p (ctxS s).1 p.length).right.getD j default = true := by simpa using hr
  exact ⟨_, hz.ctx j hj k1, k2, (hz.good j hj hr').2⟩
/-- What a node of an accepted proof over `n` facts is like. -/
structure NdAt (n : Nat) (x : Nd) : Prop where
  close : x.kind = 1 → n + 1 ≤ x.mul.length ∧ x.mul.length ≤ 20
  fact : x.kind = 3 → 0 ≤ x.fact ∧ x.fact ≤ 19
  kind : x.kind = 1 ∨ x.kind = 2 ∨ x.kind = 3
theorem acc_nodes {s : Sq} {p : List Nd} (h : chkS s p = true) : ∀ x ∈ p, NdAt s.facts.length x := by
  intro x hx
  obtain ⟨j, hj, rfl⟩ := List.getElem_of_mem hx
  have hp := (chkS_spec h).2
  have hn := ndB_get hp hj
  obtain ⟨c, h1, h2, h3⟩ := acc_right h j hj
  rw [getD_lt hj] at h3 hn
  refine ⟨fun hk => ?_, fun hk => ?_, ndB_kind hn⟩
  · unfold rightB at h3
    rw [if_pos hk] at h3
    unfold closesB at h3
    simp only [Bool.and_eq_true, decide_eq_true_eq] at h3
    exact ⟨by omega, ndB_mlen hn⟩
  · unfold ndB at hn
    rw [if_neg (by omega), if_neg (by omega), if_pos hk] at hn
    simp only [inB, Bool.and_eq_true, decide_eq_true_eq] at hn
    exact ⟨hn.1.1.1, hn.1.1.2⟩
theorem acc_len {s : Sq} {p : List Nd} (h : chkS s p = true) : p.length ≤ 60 := (isB_spec (chkS_spec h).2).2.1
/-! ### Nodes whose facts stand elsewhere -/
def scat (to : Int → Int) (ms : List Int) (out : List Int) : Nat → List Int
  | 0 => out
  | i + 1 => if 0 ≤ to i then (scat to ms out i).set (to i).toNat (ms.getD i default) else scat to ms out i
theorem scat_length {to : Int → Int} {ms out : List Int} : ∀ {i : Nat}, (scat to ms out i).length = out.length
  | 0 => rfl
  | i + 1 => by
    unfold scat
    split
    · rw [List.length_set, scat_length]
    · exact scat_length
def mvN (cnt to : Int → Int) (x : Nd) : Nd :=
  if x.kind = 3 then { x with fact := to x.fact } else if x.kind = 1 then { x with mul := scat to x.mul (List.replicate (cnt x.mul.length).toNat 0) x.mul.length } else x
structure MvOk (cnt to : Int → Int) (x : Nd) : Prop where
  kind : x.kind = 1 ∨ x.kind = 2 ∨ x.kind = 3
  fact : x.kind = 3 → 0 ≤ x.fact ∧ x.fact ≤ 19
  len : x.kind = 1 → x.mul.length ≤ 20
  cntb : x.kind = 1 → 0 ≤ cnt x.mul.length ∧ cnt x.mul.length ≤ 1000
  rng : x.kind = 1 → ∀ i : Nat, i < x.mul.length → to i < cnt x.mul.length
theorem scat_congr {to to' : Int → Int} {ms out : List Int} : ∀ {i : Nat}, (∀ j : Nat, j < i → to j = to' j) → scat to ms out i = scat to' ms out i
  | 0, _ => rfl
  | i + 1, h => by
    unfold scat
    rw [h i (by omega), scat_congr fun j hj => h j (by omega)]
theorem mvN_congr {cnt to cnt' to' : Int → Int} {x : Nd} (h1 : x.kind = 1 → cnt x.mul.length = cnt' x.mul.length ∧ ∀ i : Nat, i < x.mul.length → to i = to' i) (h3 : x.kind = 3 → to x.fact = to' x.fact) : mvN cnt to x = mvN cnt' to' x := by
  unfold mvN
  split
  · rename_i h; rw [h3 h]
  · split
    · rename_i h
      obtain ⟨e1, e2⟩ := h1 h
      rw [e1, scat_congr e2]
    · rfl
/-- Where the reference moves a fact. -/
def toS (to : List Int) (base : Int) (i : Int) : Int := if (to.length : Int) ≤ i then i + (base - to.length) else to.getD i.toNat default
def cntS (to : List Int) (base : Int) (k : Int) : Int := base + k - to.length
/-! ### The facts that are kept, and where they stand -/
def keepF (us : List Bool) (ts : List Tm) : Nat → List Tm
  | 0 => []
  | i + 1 => if us.getD i default = true then keepF us ts i ++ [ts.getD i default] else keepF us ts i
def keepP (us : List Bool) (ts : List Tm) : Nat → List Int
  | 0 => []
  | i + 1 => keepP us ts i ++ [if us.getD i default = true then ((keepF us ts i).length : Int) else -1]
/-! ### What DropUnused, LiftProof and JoinProofs answer -/
def dropFacts (s : Sq) (p : List Nd) : List Tm := keepF (usedN psv p (s.facts.length + 1) p.length) s.facts s.facts.length
def dropTo (s : Sq) (p : List Nd) : List Int := keepP (usedN psv p (s.facts.length + 1) p.length) s.facts s.facts.length ++ [((dropFacts s p).length : Int)]
def dropNds (s : Sq) (p : List Nd) : List Nd := p.map (mvN (cntS (dropTo s p) ((dropFacts s p).length + 1)) (toS (dropTo s p) ((dropFacts s p).length + 1)))
abbrev dropPl (s : Sq) (p : List Nd) : List Int := keepP (usedN psv p (s.facts.length + 1) p.length) s.facts s.facts.length
/-- How many facts are left out. -/
abbrev dropLess (s : Sq) (p : List Nd) : Int := (s.facts.length : Int) - (dropFacts s p).length
abbrev dropI (s : Sq) (p : List Nd) (i : Int) : Int := if i < (s.facts.length : Int) then (dropPl s p).getD i.toNat default else i - dropLess s p
/-! ### More facts -/
def nums (n : Nat) : List Int := (List.range n).map fun (i : Nat) => (i : Int)
theorem nums_length {n : Nat} : (nums n).length = n := by simp [nums]
theorem nums_get {n i : Nat} (h : i < n) : (nums n).getD i default = (i : Int) := by simp [nums, h]
theorem nums_succ {n : Nat} : nums (n + 1) = nums n ++ [(n : Int)] := by simp [nums, List.range_succ]
abbrev liftI (n more : Nat) (i : Int) : Int := if i < (n : Int) then i else i + more
theorem lift_to {n more : Nat} {i : Int} (h : 0 ≤ i) : liftI n more i = toS (nums n ++ [((n + more : Nat) : Int)]) (((n + more : Nat) : Int) + 1) i := by
  unfold liftI toS
  have hl : (nums n ++ [((n + more : Nat) : Int)]).length = n + 1 := by simp [nums_length]
  rw [hl]
  by_cases h1 : i < (n : Int)
  · rw [if_pos h1, if_neg (by omega), getD_snoc, if_neg (by rw [nums_length]; omega), nums_get (by omega)]
    omega
  · rw [if_neg h1]
    by_cases h2 : i = (n : Int)
    · subst h2
      rw [if_neg (by omega), getD_snoc, if_pos (by rw [nums_length]; omega)]
      omega
    · rw [if_pos (by omega)]
      omega
def liftNds (n more : Nat) (p : List Nd) : List Nd := p.map (mvN (cntS (nums n ++ [((n + more : Nat) : Int)]) (((n + more : Nat) : Int) + 1)) (toS (nums n ++ [((n + more : Nat) : Int)]) (((n + more : Nat) : Int) + 1)))
theorem lift_map {n more : Nat} {p : List Nd} (h : ∀ x ∈ p, NdAt n x) : p.map (mvN (fun k => k + more) (liftI n more)) = liftNds n more p := by
  refine List.map_congr_left fun x hx => mvN_congr (fun h1 => ⟨?_, fun i hi => lift_to (by omega)⟩) (fun h3 => lift_to ((h x hx).fact h3).1)
  unfold cntS
  rw [show (nums n ++ [((n + more : Nat) : Int)]).length = n + 1 by simp [nums_length]]
  omega
theorem lift_ok {n more : Nat} {p : List Nd} (hm : more ≤ 20) (h : ∀ x ∈ p, NdAt n x) : ∀ x ∈ p, MvOk (fun k => k + more) (liftI n more) x := by
  intro x hx
  have hn := h x hx
  refine ⟨hn.kind, hn.fact, fun hk => (hn.close hk).2, fun hk => ?_, fun hk i hi => ?_⟩
  · have := hn.close hk
    omega
  · unfold liftI
    split <;> omega
/-! ### A lemma -/
abbrev swapI (n : Nat) (i : Int) : Int := if i = (n : Int) then (n : Int) + 1 else if i = (n : Int) + 1 then (n : Int) else i
theorem swap_to {n : Nat} {i : Int} (h : 0 ≤ i) : swapI n i = toS (nums n ++ [(n : Int) + 1] ++ [(n : Int)]) ((n : Int) + 2) i := by
  unfold swapI toS
  have hl : (nums n ++ [(n : Int) + 1] ++ [(n : Int)]).length = n + 2 := by simp [nums_length]
  rw [hl]
  by_cases h1 : i < (n : Int)
  · rw [if_neg (by omega), if_neg (by omega), if_neg (by omega), getD_snoc, if_neg (by simp [nums_length]; omega), getD_snoc, if_neg (by rw [nums_length]; omega), nums_get (by omega)]
    omega
  · by_cases h2 : i = (n : Int)
    · subst h2
      rw [if_pos rfl, if_neg (by omega), getD_snoc, if_neg (by simp [nums_length]), getD_snoc, if_pos (by rw [nums_length]; omega)]
    · rw [if_neg h2]
      by_cases h3 : i = (n : Int) + 1
      · rw [if_pos h3, if_neg (by omega), getD_snoc, if_pos (by simp [nums_length]; omega)]
      · rw [if_neg h3, if_pos (by omega)]
        omega
def swapNds (n : Nat) (p : List Nd) : List Nd := p.map (mvN (cntS (nums n ++ [(n : Int) + 1] ++ [(n : Int)]) ((n : Int) + 2)) (toS (nums n ++ [(n : Int) + 1] ++ [(n : Int)]) ((n : Int) + 2)))
theorem swap_map {n : Nat} {p : List Nd} (h : ∀ x ∈ p, NdAt (n + 1) x) : p.map (mvN (fun k => k) (swapI n)) = swapNds n p := by
  refine List.map_congr_left fun x hx => mvN_congr (fun h1 => ⟨?_, fun i hi => swap_to (by omega)⟩) (fun h3 => swap_to ((h x hx).fact h3).1)
  unfold cntS
  rw [show (nums n ++ [(n : Int) + 1] ++ [(n : Int)]).length = n + 2 by simp [nums_length]]
  omega
theorem swap_ok {n : Nat} {p : List Nd} (h : ∀ x ∈ p, NdAt (n + 1) x) : ∀ x ∈ p, MvOk (fun k => k) (swapI n) x := by
  intro x hx
  have hn := h x hx
  refine ⟨hn.kind, hn.fact, fun hk => (hn.close hk).2, fun hk => ?_, fun hk i hi => ?_⟩
  · have := hn.close hk
    omega
  · have := hn.close hk
    unfold swapI
    split
    · omega
    · split <;> omega
end Go.Al
