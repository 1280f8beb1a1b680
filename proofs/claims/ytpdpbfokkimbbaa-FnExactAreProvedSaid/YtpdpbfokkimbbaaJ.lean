/- The laws, walked; the types of their arguments. -/
import Derived.Test.YtpdpbfokkimbbaaI
import Derived.Test.YtpdpbfokkimbbaaRows
namespace Go.Al
open Go.Proofs
set_option linter.unusedVariables false
set_option linter.unusedSimpArgs false
set_option maxRecDepth 10000
set_option maxHeartbeats 4000000
end Go.Al
namespace Go.Al
open Go.Proofs
set_option linter.unusedVariables false
set_option linter.unusedSimpArgs false
theorem szr_nonneg {left : Int} {n : Nat} (h : 0 ≤ szr left n) (h0 : 0 ≤ left) : (n : Int) ≤ left := by
  unfold szr at h
  split at h <;> omega
theorem fact_ints {L S : Nat} {xs : List Int} (h : D.fact L (ints xs)) (hl : xs.length ≤ S) : D.fact S (ints xs) := by
  simp only [D.fact, List.length_map, Dss.fact_map, Ds.fact] at h ⊢
  exact ⟨hl, h.2⟩
theorem sum_mem {α : Type} (f : α → Nat) : ∀ {xs : List α} {x : α}, x ∈ xs → f x ≤ (xs.map f).sum
  | y :: r, x, h => by
    simp only [List.map_cons, List.sum_cons]
    rcases List.mem_cons.1 h with rfl | h
    · omega
    · have := sum_mem f h; omega
theorem fact_tms {L S : Nat} {ts : List Tm} (h : D.fact L (tms ts)) (hl : szs Tm.size ts ≤ S) : D.fact S (tms ts) := by
  unfold szs at hl
  simp only [D.fact, List.length_map, Dss.fact_map] at h ⊢
  refine ⟨by omega, fun t ht => ?_⟩
  have h1 := h.2 t ht
  have h2 := sum_mem Tm.size ht
  have h3 : Tm.size t = t.xs.length := rfl
  exact ⟨h1.1, fact_ints h1.2.1 (by omega), trivial⟩
theorem fact_nds {L S : Nat} {b : List Nd} (h : D.fact L (nds b)) (hl : szs Nd.size b ≤ S) : D.fact S (nds b) := by
  unfold szs at hl
  simp only [D.fact, List.length_map, Dss.fact_map] at h ⊢
  refine ⟨by omega, fun s hs => ?_⟩
  have h1 := h.2 s hs
  have h2 := sum_mem Nd.size hs
  have h3 : Nd.size s = s.term.xs.length + s.mul.length := rfl
  exact ⟨h1.1, h1.2.1, h1.2.2.1, fact_ints h1.2.2.2.1 (by omega), fact_ints h1.2.2.2.2.1 (by omega), trivial⟩
theorem fact_sq {L S : Nat} {s : Sq} (h : Ds.fact L s.cells) (hl : s.size ≤ S) : Ds.fact S s.cells := by
  have e : s.size = szs Tm.size s.facts + s.goal.xs.length := rfl
  exact ⟨fact_tms h.1 (by omega), h.2.1, fact_ints h.2.2.1 (by omega), trivial⟩
/-! ### What both sides answer -/
end Go.Al
/- What the laws of the certificates share: the types of their arguments; what came in reads as it did. -/
namespace Go.Proofs.Ytpdpbfokkimbbaa
open Go.ChangeShapes Go.WideShapes Go.ChangeAt Go.RowKit Go.Al
set_option linter.unusedVariables false
set_option maxRecDepth 10000

theorem ownK : ownKnob Try.prog.godebug = none := by kernel_rfl
theorem kidsK : Kids Try.prog (· < Try.prog.types.size) := kids_rows (by kernel_rfl) (by kernel_rfl)
theorem fullK : ∀ t e, t < Try.prog.types.size → Try.prog.underlying t = some (.slice e) → 0 < Try.prog.cellsOf e := slices_full_of Try.prog (by kernel_rfl)

/-! ### The types of the arguments -/
abbrev tyI : List Ty := [.int .i64]
abbrev tyT : List Ty := [.int .i64, .slc tyI]
abbrev tyQ : List Ty := [.slc tyT, .int .i64, .slc tyI]
abbrev tyN : List Ty := [.int .i64, .int .i64, .int .i64, .slc tyI, .slc tyI]
theorem of2 : TyOf Try.prog 2 tyI := .int Try.underlying2
theorem of26 : TyOf Try.prog 26 [.slc tyI] := .slc Try.underlying26 of2 (by kernel_rfl) (by decide)
theorem of63 : TyOf Try.prog 63 tyT := .struct Try.underlying63 (show FieldsAre Try.prog _ (tyI ++ ([.slc tyI] ++ [])) 0 from .cons rfl (by kernel_rfl) of2 (.cons rfl (by kernel_rfl) of26 .nil)) (by kernel_rfl)
theorem of22 : TyOf Try.prog 22 [.slc tyT] := .slc Try.underlying22 of63 (by kernel_rfl) (by decide)
theorem of65 : TyOf Try.prog 65 tyQ := .struct Try.underlying65 (show FieldsAre Try.prog _ ([.slc tyT] ++ (tyT ++ [])) 0 from .cons rfl (by kernel_rfl) of22 (.cons rfl (by kernel_rfl) of63 .nil)) (by kernel_rfl)
theorem of135 : TyOf Try.prog 135 tyN := .struct Try.underlying135 (show FieldsAre Try.prog _ (tyI ++ (tyI ++ (tyT ++ ([.slc tyI] ++ [])))) 0 from
  .cons rfl (by kernel_rfl) of2 (.cons rfl (by kernel_rfl) of2 (.cons rfl (by kernel_rfl) of63 (.cons rfl (by kernel_rfl) of26 .nil)))) (by kernel_rfl)
theorem of66 : TyOf Try.prog 66 [.slc tyN] := .slc Try.underlying66 of135 (by kernel_rfl) (by decide)
theorem of84 : TyOf Try.prog 84 [.slc tyQ] := .slc Try.underlying84 of65 (by kernel_rfl) (by decide)
theorem of85 : TyOf Try.prog 85 [.slc [.slc tyN]] := .slc Try.underlying85 of66 (by kernel_rfl) (by decide)

theorem fits_int {d : D} (h : Fits (.int .i64) d) : ∃ n, d = .int .i64 n := by cases h; exact ⟨_, rfl⟩
theorem fits_all {α : Type} {es : List Ty} {g : α → List D} (hg : ∀ e, FitsL es e → ∃ a, e = g a) : ∀ {xs : List (List D)}, FitsA es xs → ∃ ys : List α, xs = ys.map g
  | _, .nil => ⟨[], rfl⟩
  | _, .cons h1 h2 => by
    obtain ⟨a, rfl⟩ := hg _ h1
    obtain ⟨ys, rfl⟩ := fits_all hg h2
    exact ⟨a :: ys, rfl⟩
theorem fits_ints {d : D} (h : Fits (.slc tyI) d) : ∃ xs, d = ints xs := by
  cases h with
  | slc h =>
    obtain ⟨xs, rfl⟩ := fits_all (g := fun n => [D.int .i64 n]) (fun e he => by
      cases he with
      | cons h1 h2 =>
        cases h2
        obtain ⟨n, rfl⟩ := fits_int h1
        exact ⟨n, rfl⟩) h
    exact ⟨xs, rfl⟩
theorem fits_term {e : List D} (h : FitsL tyT e) : ∃ t : Tm, e = t.cells := by
  cases h with
  | cons h1 h2 =>
    cases h2 with
    | cons h2 h3 =>
      cases h3
      obtain ⟨n, rfl⟩ := fits_int h1
      obtain ⟨xs, rfl⟩ := fits_ints h2
      exact ⟨⟨n, xs⟩, rfl⟩
theorem fits_terms {d : D} (h : Fits (.slc tyT) d) : ∃ ts, d = tms ts := by
  cases h with
  | slc h =>
    obtain ⟨xs, rfl⟩ := fits_all (g := Tm.cells) (fun e he => fits_term he) h
    exact ⟨xs, rfl⟩
theorem fits_seq {e : List D} (h : FitsL tyQ e) : ∃ s : Sq, e = s.cells := by
  cases h with
  | cons a1 h =>
    cases h with
    | cons a2 h =>
      cases h with
      | cons a3 h =>
        cases h
        obtain ⟨x1, rfl⟩ := fits_terms a1
        obtain ⟨n2, rfl⟩ := fits_int a2
        obtain ⟨x3, rfl⟩ := fits_ints a3
        exact ⟨⟨x1, ⟨n2, x3⟩⟩, rfl⟩
theorem fits_node {e : List D} (h : FitsL tyN e) : ∃ n : Nd, e = n.cells := by
  cases h with
  | cons a1 h =>
    cases h with
    | cons a2 h =>
      cases h with
      | cons a3 h =>
        cases h with
        | cons a4 h =>
          cases h with
          | cons a5 h =>
            cases h
            obtain ⟨n1, rfl⟩ := fits_int a1
            obtain ⟨n2, rfl⟩ := fits_int a2
            obtain ⟨n3, rfl⟩ := fits_int a3
            obtain ⟨x4, rfl⟩ := fits_ints a4
            obtain ⟨x5, rfl⟩ := fits_ints a5
            exact ⟨⟨n1, n2, ⟨n3, x4⟩, x5⟩, rfl⟩
theorem fits_nodes {d : D} (h : Fits (.slc tyN) d) : ∃ b, d = nds b := by
  cases h with
  | slc h =>
    obtain ⟨xs, rfl⟩ := fits_all (g := Nd.cells) (fun e he => fits_node he) h
    exact ⟨xs, rfl⟩
theorem fits_one {t : Ty} {e : List D} (h : FitsL [t] e) : ∃ d, e = [d] ∧ Fits t d := by
  cases h with
  | cons a h => cases h; exact ⟨_, rfl, a⟩
theorem fits_seqs {d : D} (h : Fits (.slc tyQ) d) : ∃ b, d = sqs b := by
  cases h with
  | slc h =>
    obtain ⟨xs, rfl⟩ := fits_all (g := Sq.cells) (fun e he => fits_seq he) h
    exact ⟨xs, rfl⟩
theorem fits_nodess {d : D} (h : Fits (.slc [.slc tyN]) d) : ∃ b, d = ndss b := by
  cases h with
  | slc h =>
    obtain ⟨xs, rfl⟩ := fits_all (g := ndC) (fun e he => by
      obtain ⟨d, rfl, h2⟩ := fits_one he
      obtain ⟨b, rfl⟩ := fits_nodes h2
      exact ⟨b, rfl⟩) h
    exact ⟨xs, rfl⟩

/-! ### What came in reads as it did -/
theorem rdl_rms {L : Nat} {w : World} {ok : Nat → Prop} {m : Nat → Go.Al.Loc} : ∀ {ds : List D} {vs : List Value} {F : List Nat}, RDL L w ok ds vs F → F = [] → RMs L w ok m (ds.map .d) vs
  | _, _, _, .nil, _ => .nil
  | _, _, _, .cons (F1 := F1) (F2 := F2) h1 h2, hF => by
    obtain ⟨rfl, rfl⟩ := List.append_eq_nil_iff.1 hF
    exact .cons (.d h1) (rdl_rms h2 rfl)
section
variable {H : Type} {enc : TypeId × Value → H} {P : Program} {w w' : World}
theorem same_at (hs : ∀ b, b < w.heap.size → Same w w' b) {p : MemPlace} (hp : p.block < w.heap.size) : w.sameAt w' p := by
  cases p with
  | cell b o => exact (hs b hp).cell
  | map b => exact hs b hp
theorem trodAll_same (hs : ∀ b, b < w.heap.size → Same w w' b) {base : Nat} {sp : Nat → Bool} {held : Bool} : ∀ {ts : List TypeId} {vs : List Value} {ds : List (DataW H)} {ps : List MemPlace}, (∀ p ∈ ps, p.block < w.heap.size) → DataW.TrodAll enc P w base sp held ts vs ds ps → DataW.TrodAll enc P w' base sp held ts vs ds ps
  | [], [], [], _, _, h => h
  | _ :: _, _ :: _, _ :: _, _, hl, ⟨p, q, ⟨n, h1⟩, h2, e⟩ =>
    ⟨p, q, ⟨n, DataW.trod_carry n _ _ _ h1 (fun x hx => same_at hs (hl x (by rw [e]; exact List.mem_append_left _ hx)))⟩, trodAll_same hs (fun x hx => hl x (by rw [e]; exact List.mem_append_right _ hx)) h2, e⟩
theorem frame_kept (hf : Go.Al.Frame w w' []) (may : MemPlace → Prop) : w.keptBut w' may := by
  refine ⟨hf.os, hf.output, fun i hi => ?_⟩
  have h := hf.block i hi (by simp)
  unfold Same at h
  rw [h]
  cases hx : w.heap[i]? with
  | none => trivial
  | some o =>
    cases o with
    | cells c t fr => exact ⟨rfl, rfl, rfl, fun _ _ => rfl⟩
    | map es clock => exact .inr ⟨rfl, rfl⟩
    | _ => rfl
theorem frozen_old (hf : Go.Al.Frame w w' []) {a : Addr} (ha : a.block < w.heap.size) : w'.frozen? a = w.frozen? a := by
  have h := hf.block a.block ha (by simp)
  unfold Same at h
  unfold World.frozen?
  rw [h]
theorem post_of_old {f : Func} {s : ChangeSpec} {apart fresh handsOn again : Bool} {args : Array Value} {v : Value} {ds gs : List (DataW H)} {before pa pv : List MemPlace}
    (hW : DataW.Whole enc P f.params.toList s.vars apart w args.toList ds gs before)
    (hres : ∀ (b : Nat) (sp : Nat → Bool) (hd : Bool), DataW.TrodAll enc P w' b sp hd f.resultTypes.toList (v.resultList f.resultTypes.size) (s.fn H (ds ++ gs)).results [])
    (hargs : ∀ sp : Nat → Bool, (∀ p ∈ before, sp p.block = true) → DataW.TrodAll enc P w' 0 sp true f.params.toList args.toList (s.fn H (ds ++ gs)).args pa)
    (hvars : ∀ sp : Nat → Bool, (∀ p ∈ before, sp p.block = true) → DataW.TrodVars enc P w' sp s.vars (s.fn H (ds ++ gs)).vars pv)
    (hps : before = pa ++ pv) (hf : Go.Al.Frame w w' [])
    (hok : ∀ (j : Nat) (t : TypeId) (r : Value), f.resultTypes[j]? = some t → (v.resultList f.resultTypes.size)[j]? = some r → Value.okWide P w' .any 0 t r) :
    s.post enc P f apart fresh handsOn again w args v w' := by
  have hlt := hW.lt
  have hold : ∀ p ∈ before, (fun b => decide (b < w.heap.size)) p.block = true := fun p hp => by simpa using hlt p hp
  refine ⟨ds, gs, before, [], pa, pv, hW, hres _ _ _, hargs _ hold, hvars _ hold, World.keptBut_mono (fun p hp => ⟨hp, ?_⟩) (frame_kept hf (· ∈ before)), fun _ => ?_⟩
  · rw [hps, List.mem_append] at hp
    exact Or.inr hp
  · obtain ⟨_, _, _, _, _, hz, hn⟩ := hW
    refine ⟨hok, _, _, ([] ++ pa) ++ pv, ⟨[] ++ pa, pv, trodAll_append (hargs _ (fun _ _ => rfl)) (hres _ _ _), hvars _ (fun _ _ => rfl), rfl, ?_, ?_⟩, ?_⟩
    · intro b off hp
      have hp' : MemPlace.cell b off ∈ before := by rw [hps]; simpa using hp
      rw [frozen_old hf (hlt _ hp')]
      exact hz b off hp'
    · intro ha
      have := hn ha
      rw [hps] at this
      simpa using this
    · intro p hp _
      rw [hps]
      simpa using hp
end

end Go.Proofs.Ytpdpbfokkimbbaa
namespace Go.Al
open Go.Proofs
set_option linter.unusedVariables false
set_option linter.unusedSimpArgs false
set_option maxRecDepth 10000
abbrev sqrow (ss : List Sq) : B := .row true 3 (ss.map Sq.cells)
abbrev ndsrow (ps : List (List Nd)) : B := .row true 1 (ps.map ndC)
theorem c42 {L : Nat} (h1 : 4096 ≤ L) (h2 : L ≤ 9223372036854775807) {ts : List Sq} {left : Int} (hl0 : 0 ≤ left) (hl1 : left ≤ 1048576) : MC Try.prog L 42 [.c (.d (sqs ts)), eI left] [] (Plain (eI (szr left (Al.szs Sq.size ts)))) := by
 refine MC.alone ?_ rfl
 have hσ := SGok (nt := 27) h1 h2
 refine MC.body hσ Try.func42 (by kernel_rfl) rfl rfl (Nat.le_of_ble_eq_true rfl) (fun hF => ?_)
 have hl : ts.length ≤ L := by simpa [As.fact, A.fact, M.fact, D.fact, Ds.fact] using hF.1.1
 refine AWP.seq ?_
 refine AWP.region ?_
 refine AOps.step (Val.of hσ rfl rfl) rfl rfl rfl ?_
 refine AOps.nil ?_
 refine AWP.seq ?_
 refine AWP.region ?_
 refine AOps.step (Val.of hσ rfl rfl) rfl rfl rfl ?_
 refine AOps.step (Val.of hσ rfl rfl) rfl rfl rfl ?_
 first | refine AOps.step (Val.lenD hσ rfl rfl rfl rfl rfl rfl rfl rfl) rfl rfl rfl ?_ | refine AOps.step (Val.of hσ rfl rfl) rfl rfl rfl ?_ | refine AOps.step (Val.vif hσ rfl rfl (by first | omega | (simp at *; omega))) rfl rfl rfl ?_
 first | refine AOps.step (Val.fits64 hσ rfl rfl (by first | omega | (simp at *; omega)) (by first | omega | (simp at *; omega))) rfl rfl rfl ?_ | refine AOps.step (Val.vif hσ rfl rfl (by first | omega | (simp at *; omega))) rfl rfl rfl ?_
 refine AOps.step (Val.of hσ rfl rfl) rfl rfl rfl ?_
 refine AOps.nil ?_
 refine AWP.seq ?_
 refine AWP.seq ?_
 refine AWP.region ?_
 refine AOps.step (Val.of hσ rfl rfl) rfl rfl rfl ?_
 refine AOps.step (Val.of hσ rfl rfl) rfl rfl rfl ?_
 refine AOps.nil ?_
 refine AWP.cond hσ rfl rfl (fun hc11 => ?_) (fun hc11 => ?_)
 ·
  try simp only [List.length_map, beq_iff_eq, decide_eq_true_eq, decide_eq_false_iff_not, Bool.not_eq_true', Bool.not_eq_false', Bool.not_true, Bool.not_false, Int.not_lt, Int.not_le] at hc11
  refine AWP.seq ?_
  refine AWP.region ?_
  refine AOps.step (Val.of hσ rfl rfl) rfl rfl rfl ?_
  refine AOps.nil ?_
  refine AWP.ret ?_
  refine ⟨.inl rfl, _, Ent.refl, _, rfl, ?_⟩
  rw [show szr left (Al.szs Sq.size ts) = -1 from if_pos (by unfold Al.szs; omega)]
 ·
  try simp only [List.length_map, beq_iff_eq, decide_eq_true_eq, decide_eq_false_iff_not, Bool.not_eq_true', Bool.not_eq_false', Bool.not_true, Bool.not_false, Int.not_lt, Int.not_le] at hc11
  refine AWP.skip ?_
  refine AWP.seq ?_
  refine AWP.seq ?_
  refine AWP.region ?_
  refine AOps.step (Val.of hσ rfl rfl) rfl rfl rfl ?_
  refine AOps.nil ?_
  refine AWP.block ?_
  refine AWP.loopP (X := Nat) (fun i => ⟨[(0, .c (.d (sqs ts))), (1, eI (left - ts.length - ((ts.take i).map Sq.size).sum)), (5, eI i)], []⟩) (fun i => i ≤ ts.length ∧ (0 : Int) ≤ left - ts.length - ((ts.take i).map Sq.size).sum) (fun i => ts.length - i) 0 (Ent.env ⟨rfl, by simp [lk_cons], rfl, trivial⟩) ?_ (fun i hi => ?_)
  ·
   exact ⟨Nat.zero_le _, by simp; omega⟩
  refine AWP.seq ?_
  refine AWP.seq ?_
  refine AWP.region ?_
  refine AOps.step (Val.of hσ rfl rfl) rfl rfl rfl ?_
  refine AOps.step (Val.of hσ rfl rfl) rfl rfl rfl ?_
  first | refine AOps.step (Val.lenD hσ rfl rfl rfl rfl rfl rfl rfl rfl) rfl rfl rfl ?_ | refine AOps.step (Val.of hσ rfl rfl) rfl rfl rfl ?_ | refine AOps.step (Val.vif hσ rfl rfl (by first | omega | (simp at *; omega))) rfl rfl rfl ?_
  refine AOps.step (Val.of hσ rfl rfl) rfl rfl rfl ?_
  refine AOps.nil ?_
  refine AWP.cond hσ rfl rfl (fun hc15 => ?_) (fun hc15 => ?_)
  ·
   try simp only [List.length_map, beq_iff_eq, decide_eq_true_eq, decide_eq_false_iff_not, Bool.not_eq_true', Bool.not_eq_false', Bool.not_true, Bool.not_false, Int.not_lt, Int.not_le] at hc15
   refine AWP.skip ?_
   refine AWP.seq ?_
   refine AWP.block ?_
   refine AWP.seq ?_
   refine AWP.region ?_
   refine AOps.step (Val.of hσ rfl rfl) rfl rfl rfl ?_
   refine AOps.step (Val.of hσ rfl rfl) rfl rfl rfl ?_
   first | refine AOps.step (Val.indexD hσ rfl rfl rfl rfl rfl rfl rfl rfl (by first | omega | (simp at *; omega)) (idx_get (by first | omega | (simp at *; omega)) (by first | omega | (simp at *; omega)))) rfl rfl rfl ?_ | refine AOps.step (Val.vif hσ rfl rfl (by first | omega | (simp at *; omega))) rfl rfl rfl ?_
   refine AOps.step (Val.of hσ rfl rfl) rfl rfl rfl ?_
   refine AOps.step (Val.of hσ rfl rfl) rfl rfl rfl ?_
   refine AOps.lone hσ rfl rfl rfl rfl (c29 h1 h2 hi.2 (by omega)) (VAs.self rfl) rfl rfl rfl rfl rfl (B0 := 24000) rfl ?_
   refine AOps.step (Val.of hσ rfl rfl) rfl rfl rfl ?_
   refine AOps.nil ?_
   refine AWP.seq ?_
   refine AWP.region ?_
   refine AOps.step (Val.of hσ rfl rfl) rfl rfl rfl ?_
   refine AOps.step (Val.of hσ rfl rfl) rfl rfl rfl ?_
   refine AOps.nil ?_
   refine AWP.cond hσ rfl rfl (fun hc25 => ?_) (fun hc25 => ?_)
   ·
    try simp only [List.length_map, beq_iff_eq, decide_eq_true_eq, decide_eq_false_iff_not, Bool.not_eq_true', Bool.not_eq_false', Bool.not_true, Bool.not_false, Int.not_lt, Int.not_le] at hc25
    refine AWP.seq ?_
    refine AWP.region ?_
    refine AOps.step (Val.of hσ rfl rfl) rfl rfl rfl ?_
    refine AOps.nil ?_
    refine AWP.ret ?_
    refine ⟨.inl rfl, _, Ent.refl, _, rfl, ?_⟩
    have e := sum_take Sq.size ts i (by omega)
    have e3 := sum_le Sq.size ts (i + 1)
    rw [Int.toNat_natCast] at hc25
    rw [show szr left (Al.szs Sq.size ts) = -1 from if_pos (by unfold szr at hc25; unfold Al.szs; split at hc25 <;> omega)]
   ·
    try simp only [List.length_map, beq_iff_eq, decide_eq_true_eq, decide_eq_false_iff_not, Bool.not_eq_true', Bool.not_eq_false', Bool.not_true, Bool.not_false, Int.not_lt, Int.not_le] at hc25
    refine AWP.skip ?_
    refine AWP.region ?_
    refine AOps.step (Val.of hσ rfl rfl) rfl rfl rfl ?_
    first | refine AOps.step (Val.fits64 hσ rfl rfl (by first | omega | (simp at *; omega)) (by first | omega | (simp at *; omega))) rfl rfl rfl ?_ | refine AOps.step (Val.vif hσ rfl rfl (by first | omega | (simp at *; omega))) rfl rfl rfl ?_
    refine AOps.step (Val.of hσ rfl rfl) rfl rfl rfl ?_
    refine AOps.nil ?_
    have e := sum_take Sq.size ts i (by omega)
    have e2 : szr (left - ts.length - ((ts.take i).map Sq.size).sum) (Sq.size (ts.getD i default)) = left - ts.length - ((ts.take (i + 1)).map Sq.size).sum := by
     unfold szr at hc25 ⊢
     rw [Int.toNat_natCast] at hc25
     split at hc25 <;> omega
    refine ⟨i + 1, Ent.env ⟨rfl, ?_, rfl, trivial⟩, ⟨by omega, ?_⟩, by omega⟩
    ·
     rw [← e2]; rfl
    ·
     rw [← e2]; rw [Int.toNat_natCast] at hc25; omega
  ·
   try simp only [List.length_map, beq_iff_eq, decide_eq_true_eq, decide_eq_false_iff_not, Bool.not_eq_true', Bool.not_eq_false', Bool.not_true, Bool.not_false, Int.not_lt, Int.not_le] at hc15
   refine AWP.exit ?_
   refine AWP.seq ?_
   refine AWP.region ?_
   refine AOps.step (Val.of hσ rfl rfl) rfl rfl rfl ?_
   refine AOps.step (Val.of hσ rfl rfl) rfl rfl rfl ?_
   refine AOps.nil ?_
   refine AWP.ret ?_
   refine ⟨.inl rfl, _, Ent.refl, _, rfl, ?_⟩
   obtain rfl : i = ts.length := by omega
   have e4 := hi.2
   rw [List.take_length] at e4 ⊢
   rw [show szr left (Al.szs Sq.size ts) = left - ts.length - (ts.map Sq.size).sum from by unfold szr Al.szs; rw [if_neg (by omega)]; omega]
theorem szs_def {α : Type} {f : α → Nat} {xs : List α} : szs f xs = xs.length + (xs.map f).sum := rfl
theorem c43 {L : Nat} (h1 : 4096 ≤ L) (h2 : L ≤ 9223372036854775807) {ts : List (List Nd)} {left : Int} (hl0 : 0 ≤ left) (hl1 : left ≤ 1048576) : MC Try.prog L 43 [.c (.d (ndss ts)), eI left] [] (Plain (eI (szr left (Al.szs (Al.szs Nd.size) ts)))) := by
 refine MC.alone ?_ rfl
 have hσ := SGok (nt := 27) h1 h2
 refine MC.body hσ Try.func43 (by kernel_rfl) rfl rfl (Nat.le_of_ble_eq_true rfl) (fun hF => ?_)
 have hl : ts.length ≤ L := by simpa [As.fact, A.fact, M.fact, D.fact, Ds.fact] using hF.1.1
 refine AWP.seq ?_
 refine AWP.region ?_
 refine AOps.step (Val.of hσ rfl rfl) rfl rfl rfl ?_
 refine AOps.nil ?_
 refine AWP.seq ?_
 refine AWP.region ?_
 refine AOps.step (Val.of hσ rfl rfl) rfl rfl rfl ?_
 refine AOps.step (Val.of hσ rfl rfl) rfl rfl rfl ?_
 first | refine AOps.step (Val.lenD hσ rfl rfl rfl rfl rfl rfl rfl rfl) rfl rfl rfl ?_ | refine AOps.step (Val.of hσ rfl rfl) rfl rfl rfl ?_ | refine AOps.step (Val.vif hσ rfl rfl (by first | omega | (simp at *; omega))) rfl rfl rfl ?_
 first | refine AOps.step (Val.fits64 hσ rfl rfl (by first | omega | (simp at *; omega)) (by first | omega | (simp at *; omega))) rfl rfl rfl ?_ | refine AOps.step (Val.vif hσ rfl rfl (by first | omega | (simp at *; omega))) rfl rfl rfl ?_
 refine AOps.step (Val.of hσ rfl rfl) rfl rfl rfl ?_
 refine AOps.nil ?_
 refine AWP.seq ?_
 refine AWP.seq ?_
 refine AWP.region ?_
 refine AOps.step (Val.of hσ rfl rfl) rfl rfl rfl ?_
 refine AOps.step (Val.of hσ rfl rfl) rfl rfl rfl ?_
 refine AOps.nil ?_
 refine AWP.cond hσ rfl rfl (fun hc11 => ?_) (fun hc11 => ?_)
 ·
  try simp only [List.length_map, beq_iff_eq, decide_eq_true_eq, decide_eq_false_iff_not, Bool.not_eq_true', Bool.not_eq_false', Bool.not_true, Bool.not_false, Int.not_lt, Int.not_le] at hc11
  refine AWP.seq ?_
  refine AWP.region ?_
  refine AOps.step (Val.of hσ rfl rfl) rfl rfl rfl ?_
  refine AOps.nil ?_
  refine AWP.ret ?_
  refine ⟨.inl rfl, _, Ent.refl, _, rfl, ?_⟩
  rw [show szr left (Al.szs (Al.szs Nd.size) ts) = -1 from if_pos (by rw [szs_def]; omega)]
 ·
  try simp only [List.length_map, beq_iff_eq, decide_eq_true_eq, decide_eq_false_iff_not, Bool.not_eq_true', Bool.not_eq_false', Bool.not_true, Bool.not_false, Int.not_lt, Int.not_le] at hc11
  refine AWP.skip ?_
  refine AWP.seq ?_
  refine AWP.seq ?_
  refine AWP.region ?_
  refine AOps.step (Val.of hσ rfl rfl) rfl rfl rfl ?_
  refine AOps.nil ?_
  refine AWP.block ?_
  refine AWP.loopP (X := Nat) (fun i => ⟨[(0, .c (.d (ndss ts))), (1, eI (left - ts.length - ((ts.take i).map (Al.szs Nd.size)).sum)), (5, eI i)], []⟩) (fun i => i ≤ ts.length ∧ (0 : Int) ≤ left - ts.length - ((ts.take i).map (Al.szs Nd.size)).sum) (fun i => ts.length - i) 0 (Ent.env ⟨rfl, by simp [lk_cons], rfl, trivial⟩) ?_ (fun i hi => ?_)
  ·
   exact ⟨Nat.zero_le _, by simp; omega⟩
  refine AWP.seq ?_
  refine AWP.seq ?_
  refine AWP.region ?_
  refine AOps.step (Val.of hσ rfl rfl) rfl rfl rfl ?_
  refine AOps.step (Val.of hσ rfl rfl) rfl rfl rfl ?_
  first | refine AOps.step (Val.lenD hσ rfl rfl rfl rfl rfl rfl rfl rfl) rfl rfl rfl ?_ | refine AOps.step (Val.of hσ rfl rfl) rfl rfl rfl ?_ | refine AOps.step (Val.vif hσ rfl rfl (by first | omega | (simp at *; omega))) rfl rfl rfl ?_
  refine AOps.step (Val.of hσ rfl rfl) rfl rfl rfl ?_
  refine AOps.nil ?_
  refine AWP.cond hσ rfl rfl (fun hc15 => ?_) (fun hc15 => ?_)
  ·
   try simp only [List.length_map, beq_iff_eq, decide_eq_true_eq, decide_eq_false_iff_not, Bool.not_eq_true', Bool.not_eq_false', Bool.not_true, Bool.not_false, Int.not_lt, Int.not_le] at hc15
   refine AWP.skip ?_
   refine AWP.seq ?_
   refine AWP.block ?_
   refine AWP.seq ?_
   refine AWP.region ?_
   refine AOps.step (Val.of hσ rfl rfl) rfl rfl rfl ?_
   refine AOps.step (Val.of hσ rfl rfl) rfl rfl rfl ?_
   first | refine AOps.step (Val.indexD hσ rfl rfl rfl rfl rfl rfl rfl rfl (by first | omega | (simp at *; omega)) (idx_get (by first | omega | (simp at *; omega)) (by first | omega | (simp at *; omega)))) rfl rfl rfl ?_ | refine AOps.step (Val.vif hσ rfl rfl (by first | omega | (simp at *; omega))) rfl rfl rfl ?_
   refine AOps.step (Val.of hσ rfl rfl) rfl rfl rfl ?_
   refine AOps.step (Val.of hσ rfl rfl) rfl rfl rfl ?_
   refine AOps.lone hσ rfl rfl rfl rfl (c30 h1 h2 hi.2 (by omega)) (VAs.self rfl) rfl rfl rfl rfl rfl (B0 := 24000) rfl ?_
   refine AOps.step (Val.of hσ rfl rfl) rfl rfl rfl ?_
   refine AOps.nil ?_
   refine AWP.seq ?_
   refine AWP.region ?_
   refine AOps.step (Val.of hσ rfl rfl) rfl rfl rfl ?_
   refine AOps.step (Val.of hσ rfl rfl) rfl rfl rfl ?_
   refine AOps.nil ?_
   refine AWP.cond hσ rfl rfl (fun hc25 => ?_) (fun hc25 => ?_)
   ·
    try simp only [List.length_map, beq_iff_eq, decide_eq_true_eq, decide_eq_false_iff_not, Bool.not_eq_true', Bool.not_eq_false', Bool.not_true, Bool.not_false, Int.not_lt, Int.not_le] at hc25
    refine AWP.seq ?_
    refine AWP.region ?_
    refine AOps.step (Val.of hσ rfl rfl) rfl rfl rfl ?_
    refine AOps.nil ?_
    refine AWP.ret ?_
    refine ⟨.inl rfl, _, Ent.refl, _, rfl, ?_⟩
    have e := sum_take (Al.szs Nd.size) ts i (by omega)
    have e3 := sum_le (Al.szs Nd.size) ts (i + 1)
    rw [Int.toNat_natCast] at hc25
    rw [show szr left (Al.szs (Al.szs Nd.size) ts) = -1 from if_pos (by unfold szr at hc25; rw [szs_def]; split at hc25 <;> omega)]
   ·
    try simp only [List.length_map, beq_iff_eq, decide_eq_true_eq, decide_eq_false_iff_not, Bool.not_eq_true', Bool.not_eq_false', Bool.not_true, Bool.not_false, Int.not_lt, Int.not_le] at hc25
    refine AWP.skip ?_
    refine AWP.region ?_
    refine AOps.step (Val.of hσ rfl rfl) rfl rfl rfl ?_
    first | refine AOps.step (Val.fits64 hσ rfl rfl (by first | omega | (simp at *; omega)) (by first | omega | (simp at *; omega))) rfl rfl rfl ?_ | refine AOps.step (Val.vif hσ rfl rfl (by first | omega | (simp at *; omega))) rfl rfl rfl ?_
    refine AOps.step (Val.of hσ rfl rfl) rfl rfl rfl ?_
    refine AOps.nil ?_
    have e := sum_take (Al.szs Nd.size) ts i (by omega)
    have e2 : szr (left - ts.length - ((ts.take i).map (Al.szs Nd.size)).sum) ((Al.szs Nd.size) (ts.getD i default)) = left - ts.length - ((ts.take (i + 1)).map (Al.szs Nd.size)).sum := by
     unfold szr at hc25 ⊢
     rw [Int.toNat_natCast] at hc25
     split at hc25 <;> omega
    refine ⟨i + 1, Ent.env ⟨rfl, ?_, rfl, trivial⟩, ⟨by omega, ?_⟩, by omega⟩
    ·
     rw [← e2]; rfl
    ·
     rw [← e2]; rw [Int.toNat_natCast] at hc25; omega
  ·
   try simp only [List.length_map, beq_iff_eq, decide_eq_true_eq, decide_eq_false_iff_not, Bool.not_eq_true', Bool.not_eq_false', Bool.not_true, Bool.not_false, Int.not_lt, Int.not_le] at hc15
   refine AWP.exit ?_
   refine AWP.seq ?_
   refine AWP.region ?_
   refine AOps.step (Val.of hσ rfl rfl) rfl rfl rfl ?_
   refine AOps.step (Val.of hσ rfl rfl) rfl rfl rfl ?_
   refine AOps.nil ?_
   refine AWP.ret ?_
   refine ⟨.inl rfl, _, Ent.refl, _, rfl, ?_⟩
   obtain rfl : i = ts.length := by omega
   have e4 := hi.2
   rw [List.take_length] at e4 ⊢
   rw [show szr left (Al.szs (Al.szs Nd.size) ts) = left - ts.length - (ts.map (Al.szs Nd.size)).sum from by rw [szs_def]; unfold szr; rw [if_neg (by omega)]; omega]
theorem c45 {L : Nat} (h1 : 4096 ≤ L) (h2 : L ≤ 1073741824) {ts : List Sq} : MC Try.prog L 45 [.c (.d (sqs ts))] [] (Rows (.c (.rs 0 0 ts.length)) [sqrow ts]) := by
 refine MC.rows ?_
 have hσ := SGok (nt := 23) h1 (Nat.le_trans h2 (by decide))
 refine MC.body hσ Try.func45 (by kernel_rfl) rfl rfl (Nat.le_of_ble_eq_true rfl) (fun hF => ?_)
 have hl : ts.length ≤ L := by simpa [As.fact, A.fact, M.fact, D.fact, Ds.fact] using hF.1.1
 refine AWP.seq ?_
 refine AWP.region ?_
 refine AOps.step (Val.of hσ rfl rfl) rfl rfl rfl ?_
 refine AOps.nil ?_
 refine AWP.seq ?_
 refine AWP.region ?_
 refine AOps.step (Val.of hσ rfl rfl) rfl rfl rfl ?_
 first | refine AOps.step (Val.lenD hσ rfl rfl rfl rfl rfl rfl rfl rfl) rfl rfl rfl ?_ | refine AOps.step (Val.of hσ rfl rfl) rfl rfl rfl ?_ | refine AOps.step (Val.vif hσ rfl rfl (by first | omega | (simp at *; omega))) rfl rfl rfl ?_
 refine AOps.heap (HS.make hσ rfl rfl rfl rfl rfl rfl rfl rfl rfl (by first | omega | (simp at *; omega)) (by first | omega | (simp at *; omega)) (by first | omega | (simp at *; omega)) (by first | omega | (dsimp only; omega) | (simp at *; omega)) (by first | omega | (simp at *; omega)) rfl rfl rfl) rfl ?_
 refine AOps.step (Val.of hσ rfl rfl) rfl rfl rfl ?_
 refine AOps.nil ?_
 refine AWP.seq ?_
 refine AWP.seq ?_
 refine AWP.region ?_
 refine AOps.step (Val.of hσ rfl rfl) rfl rfl rfl ?_
 refine AOps.nil ?_
 refine AWP.block ?_
 refine AWP.loopP (X := Nat × List Sq) (fun x => ⟨[(0, .c (.d (sqs ts))), (3, .c (.rs 7 0 ts.length)), (4, eI x.1)], [(7, sqrow x.2)]⟩) (fun x => x.1 ≤ ts.length ∧ x.2.length = ts.length ∧ ∀ j, j < x.1 → x.2[j]? = ts[j]?) (fun x => ts.length - x.1) (0, List.replicate ts.length ⟨[], ⟨0, []⟩⟩) ((Ent.rowLe 7 rfl (NLess.replicate (.cons (.nil (sz := 2)) (.cons .refl (.cons (.nil (sz := 1)) .nil))))).trans (Ent.to ⟨rfl, rfl, rfl, trivial⟩ (by simp [ins, rowAt, sqrow]))) ?_ (fun x hi => ?_)
 ·
  exact ⟨Nat.zero_le _, List.length_replicate, fun j hj => absurd hj (Nat.not_lt_zero j)⟩
 refine AWP.seq ?_
 refine AWP.seq ?_
 refine AWP.region ?_
 refine AOps.step (Val.of hσ rfl rfl) rfl rfl rfl ?_
 refine AOps.step (Val.of hσ rfl rfl) rfl rfl rfl ?_
 first | refine AOps.step (Val.lenD hσ rfl rfl rfl rfl rfl rfl rfl rfl) rfl rfl rfl ?_ | refine AOps.step (Val.of hσ rfl rfl) rfl rfl rfl ?_ | refine AOps.step (Val.vif hσ rfl rfl (by first | omega | (simp at *; omega))) rfl rfl rfl ?_
 refine AOps.step (Val.of hσ rfl rfl) rfl rfl rfl ?_
 refine AOps.nil ?_
 refine AWP.cond hσ rfl rfl (fun hc11 => ?_) (fun hc11 => ?_)
 ·
  try simp only [List.length_map, beq_iff_eq, decide_eq_true_eq, decide_eq_false_iff_not, Bool.not_eq_true', Bool.not_eq_false', Bool.not_true, Bool.not_false, Int.not_lt, Int.not_le] at hc11
  refine AWP.skip ?_
  refine AWP.seq ?_
  refine AWP.block ?_
  refine AWP.region ?_
  refine AOps.step (Val.of hσ rfl rfl) rfl rfl rfl ?_
  refine AOps.step (Val.of hσ rfl rfl) rfl rfl rfl ?_
  refine AOps.step (Val.of hσ rfl rfl) rfl rfl rfl ?_
  refine AOps.step (Val.of hσ rfl rfl) rfl rfl rfl ?_
  first | refine AOps.step (Val.indexD hσ rfl rfl rfl rfl rfl rfl rfl rfl (by first | omega | (simp at *; omega)) (idx_get (by first | omega | (simp at *; omega)) (by first | omega | (simp at *; omega)))) rfl rfl rfl ?_ | refine AOps.step (Val.vif hσ rfl rfl (by first | omega | (simp at *; omega))) rfl rfl rfl ?_
  refine AOps.step (Val.of hσ rfl rfl) rfl rfl rfl ?_
  refine AOps.rows hσ (B0 := 21000) rfl rfl rfl rfl (c32 h1 h2) (VAs.self rfl) rfl rfl rfl rfl rfl rfl ?_
  first | refine AOps.step (Val.indexD hσ rfl rfl rfl rfl rfl rfl rfl rfl (by first | omega | (simp at *; omega)) (idx_get (by first | omega | (simp at *; omega)) (by first | omega | (simp at *; omega)))) rfl rfl rfl ?_ | refine AOps.step (Val.vif hσ rfl rfl (by first | omega | (simp at *; omega))) rfl rfl rfl ?_
  refine AOps.heap (HS.storeAbs (ex := Sq.cells (x.2.getD x.1 default)) (xs' := (x.2.set x.1 (ts.getD x.1 default)).map Sq.cells) hσ rfl rfl rfl rfl rfl rfl rfl (.rs rfl (by simp) (.d rfl (.rs rfl (by simp) .nil))) rfl rfl rfl rfl rfl rfl (by simp [hi.2.1, show x.1 < ts.length by omega]) (by simp [List.map_set])) rfl ?_
  refine AOps.nil ?_
  refine AWP.region ?_
  refine AOps.step (Val.of hσ rfl rfl) rfl rfl rfl ?_
  first | refine AOps.step (Val.fits64 hσ rfl rfl (by first | omega | (simp at *; omega)) (by first | omega | (simp at *; omega))) rfl rfl rfl ?_ | refine AOps.step (Val.vif hσ rfl rfl (by first | omega | (simp at *; omega))) rfl rfl rfl ?_
  refine AOps.step (Val.of hσ rfl rfl) rfl rfl rfl ?_
  refine AOps.nil ?_
  refine ⟨(x.1 + 1, x.2.set x.1 (ts.getD x.1 default)), Ent.to ⟨rfl, rfl, rfl, trivial⟩ rfl, ⟨by omega, by simp [hi.2.1], fun j hj => ?_⟩, by omega⟩
  rw [List.getElem?_set]
  split
  ·
   rename_i e; subst e; simp [hi.2.1, show x.1 < ts.length by omega]
  ·
   exact hi.2.2 j (by omega)
 ·
  try simp only [List.length_map, beq_iff_eq, decide_eq_true_eq, decide_eq_false_iff_not, Bool.not_eq_true', Bool.not_eq_false', Bool.not_true, Bool.not_false, Int.not_lt, Int.not_le] at hc11
  refine AWP.exit ?_
  refine AWP.seq ?_
  refine AWP.region ?_
  refine AOps.step (Val.of hσ rfl rfl) rfl rfl rfl ?_
  refine AOps.step (Val.of hσ rfl rfl) rfl rfl rfl ?_
  refine AOps.nil ?_
  refine AWP.ret ?_
  have e : x.2 = ts := List.ext_getElem? fun j => by
   rcases Nat.lt_or_ge j x.1 with h | h
   ·
    exact hi.2.2 j h
   ·
    rw [List.getElem?_eq_none (by omega), List.getElem?_eq_none (by omega)]
  refine ⟨.inl rfl, _, Ent.refl, _, rfl, [7], by decide, rfl, rfl, ?_⟩
  rw [← e]; rfl
theorem c46 {L : Nat} (h1 : 4096 ≤ L) (h2 : L ≤ 1073741824) {ts : List (List Nd)} : MC Try.prog L 46 [.c (.d (ndss ts))] [] (Rows (.c (.rs 0 0 ts.length)) [ndsrow ts]) := by
 refine MC.rows ?_
 have hσ := SGok (nt := 23) h1 (Nat.le_trans h2 (by decide))
 refine MC.body hσ Try.func46 (by kernel_rfl) rfl rfl (Nat.le_of_ble_eq_true rfl) (fun hF => ?_)
 have hl : ts.length ≤ L := by simpa [As.fact, A.fact, M.fact, D.fact, Ds.fact] using hF.1.1
 refine AWP.seq ?_
 refine AWP.region ?_
 refine AOps.step (Val.of hσ rfl rfl) rfl rfl rfl ?_
 refine AOps.nil ?_
 refine AWP.seq ?_
 refine AWP.region ?_
 refine AOps.step (Val.of hσ rfl rfl) rfl rfl rfl ?_
 first | refine AOps.step (Val.lenD hσ rfl rfl rfl rfl rfl rfl rfl rfl) rfl rfl rfl ?_ | refine AOps.step (Val.of hσ rfl rfl) rfl rfl rfl ?_ | refine AOps.step (Val.vif hσ rfl rfl (by first | omega | (simp at *; omega))) rfl rfl rfl ?_
 refine AOps.heap (HS.make hσ rfl rfl rfl rfl rfl rfl rfl rfl rfl (by first | omega | (simp at *; omega)) (by first | omega | (simp at *; omega)) (by first | omega | (simp at *; omega)) (by first | omega | (dsimp only; omega) | (simp at *; omega)) (by first | omega | (simp at *; omega)) rfl rfl rfl) rfl ?_
 refine AOps.step (Val.of hσ rfl rfl) rfl rfl rfl ?_
 refine AOps.nil ?_
 refine AWP.seq ?_
 refine AWP.seq ?_
 refine AWP.region ?_
 refine AOps.step (Val.of hσ rfl rfl) rfl rfl rfl ?_
 refine AOps.nil ?_
 refine AWP.block ?_
 refine AWP.loopP (X := Nat × List (List Nd)) (fun x => ⟨[(0, .c (.d (ndss ts))), (3, .c (.rs 7 0 ts.length)), (4, eI x.1)], [(7, ndsrow x.2)]⟩) (fun x => x.1 ≤ ts.length ∧ x.2.length = ts.length ∧ ∀ j, j < x.1 → x.2[j]? = ts[j]?) (fun x => ts.length - x.1) (0, List.replicate ts.length []) ((Ent.rowLe 7 rfl (NLess.replicate (.cons (.nil (sz := 5)) .nil))).trans (Ent.to ⟨rfl, rfl, rfl, trivial⟩ (by simp [ins, rowAt, ndsrow]))) ?_ (fun x hi => ?_)
 ·
  exact ⟨Nat.zero_le _, List.length_replicate, fun j hj => absurd hj (Nat.not_lt_zero j)⟩
 refine AWP.seq ?_
 refine AWP.seq ?_
 refine AWP.region ?_
 refine AOps.step (Val.of hσ rfl rfl) rfl rfl rfl ?_
 refine AOps.step (Val.of hσ rfl rfl) rfl rfl rfl ?_
 first | refine AOps.step (Val.lenD hσ rfl rfl rfl rfl rfl rfl rfl rfl) rfl rfl rfl ?_ | refine AOps.step (Val.of hσ rfl rfl) rfl rfl rfl ?_ | refine AOps.step (Val.vif hσ rfl rfl (by first | omega | (simp at *; omega))) rfl rfl rfl ?_
 refine AOps.step (Val.of hσ rfl rfl) rfl rfl rfl ?_
 refine AOps.nil ?_
 refine AWP.cond hσ rfl rfl (fun hc11 => ?_) (fun hc11 => ?_)
 ·
  try simp only [List.length_map, beq_iff_eq, decide_eq_true_eq, decide_eq_false_iff_not, Bool.not_eq_true', Bool.not_eq_false', Bool.not_true, Bool.not_false, Int.not_lt, Int.not_le] at hc11
  refine AWP.skip ?_
  refine AWP.seq ?_
  refine AWP.block ?_
  refine AWP.region ?_
  refine AOps.step (Val.of hσ rfl rfl) rfl rfl rfl ?_
  refine AOps.step (Val.of hσ rfl rfl) rfl rfl rfl ?_
  refine AOps.step (Val.of hσ rfl rfl) rfl rfl rfl ?_
  refine AOps.step (Val.of hσ rfl rfl) rfl rfl rfl ?_
  first | refine AOps.step (Val.indexD hσ rfl rfl rfl rfl rfl rfl rfl rfl (by first | omega | (simp at *; omega)) (idx_get (by first | omega | (simp at *; omega)) (by first | omega | (simp at *; omega)))) rfl rfl rfl ?_ | refine AOps.step (Val.vif hσ rfl rfl (by first | omega | (simp at *; omega))) rfl rfl rfl ?_
  refine AOps.step (Val.of hσ rfl rfl) rfl rfl rfl ?_
  refine AOps.rows hσ (B0 := 21000) rfl rfl rfl rfl (c33 h1 h2) (VAs.self rfl) rfl rfl rfl rfl rfl rfl ?_
  first | refine AOps.step (Val.indexD hσ rfl rfl rfl rfl rfl rfl rfl rfl (by first | omega | (simp at *; omega)) (idx_get (by first | omega | (simp at *; omega)) (by first | omega | (simp at *; omega)))) rfl rfl rfl ?_ | refine AOps.step (Val.vif hσ rfl rfl (by first | omega | (simp at *; omega))) rfl rfl rfl ?_
  refine AOps.heap (HS.storeAbs (ex := ndC (x.2.getD x.1 default)) (xs' := (x.2.set x.1 (ts.getD x.1 default)).map ndC) hσ rfl rfl rfl rfl rfl rfl rfl (.rs rfl (by simp) .nil) rfl rfl rfl rfl rfl rfl (by simp [hi.2.1, show x.1 < ts.length by omega]) (by simp [List.map_set])) rfl ?_
  refine AOps.nil ?_
  refine AWP.region ?_
  refine AOps.step (Val.of hσ rfl rfl) rfl rfl rfl ?_
  first | refine AOps.step (Val.fits64 hσ rfl rfl (by first | omega | (simp at *; omega)) (by first | omega | (simp at *; omega))) rfl rfl rfl ?_ | refine AOps.step (Val.vif hσ rfl rfl (by first | omega | (simp at *; omega))) rfl rfl rfl ?_
  refine AOps.step (Val.of hσ rfl rfl) rfl rfl rfl ?_
  refine AOps.nil ?_
  refine ⟨(x.1 + 1, x.2.set x.1 (ts.getD x.1 default)), Ent.to ⟨rfl, rfl, rfl, trivial⟩ rfl, ⟨by omega, by simp [hi.2.1], fun j hj => ?_⟩, by omega⟩
  rw [List.getElem?_set]
  split
  ·
   rename_i e; subst e; simp [hi.2.1, show x.1 < ts.length by omega]
  ·
   exact hi.2.2 j (by omega)
 ·
  try simp only [List.length_map, beq_iff_eq, decide_eq_true_eq, decide_eq_false_iff_not, Bool.not_eq_true', Bool.not_eq_false', Bool.not_true, Bool.not_false, Int.not_lt, Int.not_le] at hc11
  refine AWP.exit ?_
  refine AWP.seq ?_
  refine AWP.region ?_
  refine AOps.step (Val.of hσ rfl rfl) rfl rfl rfl ?_
  refine AOps.step (Val.of hσ rfl rfl) rfl rfl rfl ?_
  refine AOps.nil ?_
  refine AWP.ret ?_
  have e : x.2 = ts := List.ext_getElem? fun j => by
   rcases Nat.lt_or_ge j x.1 with h | h
   ·
    exact hi.2.2 j h
   ·
    rw [List.getElem?_eq_none (by omega), List.getElem?_eq_none (by omega)]
  refine ⟨.inl rfl, _, Ent.refl, _, rfl, [7], by decide, rfl, rfl, ?_⟩
  rw [← e]; rfl
theorem c45d {L : Nat} (h1 : 4096 ≤ L) (h2 : L ≤ 1073741824) {ss : List Sq} : MC Try.prog L 45 [asqs ss] [] (Plain (asqs ss)) := (c45 h1 h2).frozen (.v (.c (.whole rfl (List.length_map _).symm)))
theorem c46d {L : Nat} (h1 : 4096 ≤ L) (h2 : L ≤ 1073741824) {ps : List (List Nd)} : MC Try.prog L 46 [andss ps] [] (Plain (andss ps)) := (c46 h1 h2).frozen (.v (.c (.whole rfl (List.length_map _).symm)))
theorem c48 {L : Nat} (h1 : 4096 ≤ L) (h2 : L ≤ 1073741824) {xs ys : List Sq} : MC Try.prog L 48 [.c (.d (sqs xs)), .c (.d (sqs ys))] [] (Plain (eB (decide (xs = ys)))) := by
 refine MC.alone ?_ rfl
 have hσ := SGok (nt := 27) h1 (Nat.le_trans h2 (by decide))
 refine MC.body hσ Try.func48 (by kernel_rfl) rfl rfl (Nat.le_of_ble_eq_true rfl) (fun hF => ?_)
 have hl : xs.length ≤ L := by simpa [As.fact, A.fact, M.fact, D.fact, Ds.fact] using hF.1.1
 have hl2 : ys.length ≤ L := by simpa [As.fact, A.fact, M.fact, D.fact, Ds.fact] using hF.2.1.1
 refine AWP.seq ?_
 refine AWP.region ?_
 refine AOps.step (Val.of hσ rfl rfl) rfl rfl rfl ?_
 refine AOps.nil ?_
 refine AWP.seq ?_
 refine AWP.seq ?_
 refine AWP.region ?_
 refine AOps.step (Val.of hσ rfl rfl) rfl rfl rfl ?_
 first | refine AOps.step (Val.lenD hσ rfl rfl rfl rfl rfl rfl rfl rfl) rfl rfl rfl ?_ | refine AOps.step (Val.of hσ rfl rfl) rfl rfl rfl ?_ | refine AOps.step (Val.vif hσ rfl rfl (by first | omega | (simp at *; omega))) rfl rfl rfl ?_
 refine AOps.step (Val.of hσ rfl rfl) rfl rfl rfl ?_
 first | refine AOps.step (Val.lenD hσ rfl rfl rfl rfl rfl rfl rfl rfl) rfl rfl rfl ?_ | refine AOps.step (Val.of hσ rfl rfl) rfl rfl rfl ?_ | refine AOps.step (Val.vif hσ rfl rfl (by first | omega | (simp at *; omega))) rfl rfl rfl ?_
 refine AOps.step (Val.of hσ rfl rfl) rfl rfl rfl ?_
 refine AOps.nil ?_
 refine AWP.cond hσ rfl rfl (fun hc10 => ?_) (fun hc10 => ?_)
 ·
  try simp only [List.length_map, beq_iff_eq, decide_eq_true_eq, decide_eq_false_iff_not, Bool.not_eq_true', Bool.not_eq_false', Bool.not_true, Bool.not_false, Int.not_lt, Int.not_le] at hc10
  refine AWP.seq ?_
  refine AWP.region ?_
  refine AOps.step (Val.of hσ rfl rfl) rfl rfl rfl ?_
  refine AOps.nil ?_
  refine AWP.ret ?_
  refine ⟨.inl rfl, _, Ent.refl, _, rfl, ?_⟩
  rw [decide_eq_false (fun e => by subst e; simp at hc10)]
 ·
  try simp only [List.length_map, beq_iff_eq, decide_eq_true_eq, decide_eq_false_iff_not, Bool.not_eq_true', Bool.not_eq_false', Bool.not_true, Bool.not_false, Int.not_lt, Int.not_le] at hc10
  refine AWP.skip ?_
  refine AWP.seq ?_
  refine AWP.seq ?_
  refine AWP.region ?_
  refine AOps.step (Val.of hσ rfl rfl) rfl rfl rfl ?_
  refine AOps.nil ?_
  refine AWP.block ?_
  refine AWP.loopP (X := Nat) (fun i => ⟨[(0, .c (.d (sqs xs))), (1, .c (.d (sqs ys))), (5, eI i)], []⟩) (fun i => i ≤ xs.length ∧ ∀ j, j < i → xs[j]? = ys[j]?) (fun i => xs.length - i) 0 (Ent.env ⟨rfl, rfl, rfl, trivial⟩) ?_ (fun i hi => ?_)
  ·
   exact ⟨Nat.zero_le _, fun j hj => absurd hj (Nat.not_lt_zero j)⟩
  refine AWP.seq ?_
  refine AWP.seq ?_
  refine AWP.region ?_
  refine AOps.step (Val.of hσ rfl rfl) rfl rfl rfl ?_
  refine AOps.step (Val.of hσ rfl rfl) rfl rfl rfl ?_
  first | refine AOps.step (Val.lenD hσ rfl rfl rfl rfl rfl rfl rfl rfl) rfl rfl rfl ?_ | refine AOps.step (Val.of hσ rfl rfl) rfl rfl rfl ?_ | refine AOps.step (Val.vif hσ rfl rfl (by first | omega | (simp at *; omega))) rfl rfl rfl ?_
  refine AOps.step (Val.of hσ rfl rfl) rfl rfl rfl ?_
  refine AOps.nil ?_
  refine AWP.cond hσ rfl rfl (fun hc14 => ?_) (fun hc14 => ?_)
  ·
   try simp only [List.length_map, beq_iff_eq, decide_eq_true_eq, decide_eq_false_iff_not, Bool.not_eq_true', Bool.not_eq_false', Bool.not_true, Bool.not_false, Int.not_lt, Int.not_le] at hc14
   refine AWP.skip ?_
   refine AWP.seq ?_
   refine AWP.block ?_
   refine AWP.seq ?_
   refine AWP.drawR hσ _ [_, _, _, _, _, _, _, _, _, _] [⟨[], 0, 0, none⟩, ⟨[], 0, 0, none⟩, ⟨[0, 1], 0, 0, none⟩, ⟨[0, 1, 2], 0, 0, none⟩, ⟨[], 0, 0, none⟩, ⟨[], 0, 0, none⟩, ⟨[4, 5], 0, 0, none⟩, ⟨[4, 5, 6], 0, 0, none⟩, ⟨[0, 1, 2, 3, 4, 5, 6, 7], 0, 0, some 0⟩, ⟨[0, 1, 2, 3, 4, 5, 6, 7, 8], 1, 1, none⟩] [8] [_, _] rfl rfl (by decide) (by decide) (by kernel_rfl) (And.intro (Val.of hσ rfl rfl) (And.intro (Val.of hσ rfl rfl) (And.intro (Val.indexD hσ rfl rfl rfl rfl rfl rfl rfl rfl (by first | omega | (simp at *; omega)) (idx_get (by first | omega | (simp at *; omega)) (by first | omega | (simp at *; omega)))) (And.intro (Val.of hσ rfl rfl) (And.intro (Val.of hσ rfl rfl) (And.intro (Val.of hσ rfl rfl) (And.intro (Val.indexD hσ rfl rfl rfl rfl rfl rfl rfl rfl (by first | omega | (simp at *; omega)) (idx_get (by first | omega | (simp at *; omega)) (by first | omega | (simp at *; omega)))) (And.intro (Val.of hσ rfl rfl) (And.intro (Eff.lone hσ (B0 := 26000) rfl rfl rfl rfl (c36 h1 h2) (VAs.self rfl) rfl rfl rfl rfl rfl) (And.intro (Val.of hσ rfl rfl) trivial)))))))))) ?_
   refine AWP.cond hσ rfl rfl (fun hc26 => ?_) (fun hc26 => ?_)
   ·
    try simp only [List.length_map, beq_iff_eq, decide_eq_true_eq, decide_eq_false_iff_not, Bool.not_eq_true', Bool.not_eq_false', Bool.not_true, Bool.not_false, Int.not_lt, Int.not_le] at hc26
    refine AWP.seq ?_
    refine AWP.region ?_
    refine AOps.step (Val.of hσ rfl rfl) rfl rfl rfl ?_
    refine AOps.nil ?_
    refine AWP.ret ?_
    refine ⟨.inl rfl, _, Ent.refl, _, rfl, ?_⟩
    rw [decide_eq_false (fun e => by subst e; simp at hc26)]
   ·
    try simp only [List.length_map, beq_iff_eq, decide_eq_true_eq, decide_eq_false_iff_not, Bool.not_eq_true', Bool.not_eq_false', Bool.not_true, Bool.not_false, Int.not_lt, Int.not_le] at hc26
    refine AWP.skip ?_
    refine AWP.region ?_
    refine AOps.step (Val.of hσ rfl rfl) rfl rfl rfl ?_
    first | refine AOps.step (Val.fits64 hσ rfl rfl (by first | omega | (simp at *; omega)) (by first | omega | (simp at *; omega))) rfl rfl rfl ?_ | refine AOps.step (Val.vif hσ rfl rfl (by first | omega | (simp at *; omega))) rfl rfl rfl ?_
    refine AOps.step (Val.of hσ rfl rfl) rfl rfl rfl ?_
    refine AOps.nil ?_
    refine ⟨i + 1, Ent.env ⟨rfl, rfl, rfl, trivial⟩, ⟨by omega, fun j hj => ?_⟩, by omega⟩
    rcases Nat.lt_or_ge j i with h | h
    ·
     exact hi.2 j h
    ·
     obtain rfl : j = i := by omega
     rw [Int.toNat_natCast, getD_lt (by omega), getD_lt (by omega)] at hc26
     rw [List.getElem?_eq_getElem (by omega), List.getElem?_eq_getElem (by omega), hc26]
  ·
   try simp only [List.length_map, beq_iff_eq, decide_eq_true_eq, decide_eq_false_iff_not, Bool.not_eq_true', Bool.not_eq_false', Bool.not_true, Bool.not_false, Int.not_lt, Int.not_le] at hc14
   refine AWP.exit ?_
   refine AWP.seq ?_
   refine AWP.region ?_
   refine AOps.step (Val.of hσ rfl rfl) rfl rfl rfl ?_
   refine AOps.nil ?_
   refine AWP.ret ?_
   refine ⟨.inl rfl, _, Ent.refl, _, rfl, ?_⟩
   have e : xs = ys := List.ext_getElem? fun j => by
    rcases Nat.lt_or_ge j i with h | h
    ·
     exact hi.2 j h
    ·
     rw [List.getElem?_eq_none (by omega), List.getElem?_eq_none (by omega)]
   rw [decide_eq_true e]
theorem c49 {L : Nat} (h1 : 4096 ≤ L) (h2 : L ≤ 1073741824) {xs ys : List (List Nd)} : MC Try.prog L 49 [.c (.d (ndss xs)), .c (.d (ndss ys))] [] (Plain (eB (decide (xs = ys)))) := by
 refine MC.alone ?_ rfl
 have hσ := SGok (nt := 27) h1 (Nat.le_trans h2 (by decide))
 refine MC.body hσ Try.func49 (by kernel_rfl) rfl rfl (Nat.le_of_ble_eq_true rfl) (fun hF => ?_)
 have hl : xs.length ≤ L := by simpa [As.fact, A.fact, M.fact, D.fact, Ds.fact] using hF.1.1
 have hl2 : ys.length ≤ L := by simpa [As.fact, A.fact, M.fact, D.fact, Ds.fact] using hF.2.1.1
 refine AWP.seq ?_
 refine AWP.region ?_
 refine AOps.step (Val.of hσ rfl rfl) rfl rfl rfl ?_
 refine AOps.nil ?_
 refine AWP.seq ?_
 refine AWP.seq ?_
 refine AWP.region ?_
 refine AOps.step (Val.of hσ rfl rfl) rfl rfl rfl ?_
 first | refine AOps.step (Val.lenD hσ rfl rfl rfl rfl rfl rfl rfl rfl) rfl rfl rfl ?_ | refine AOps.step (Val.of hσ rfl rfl) rfl rfl rfl ?_ | refine AOps.step (Val.vif hσ rfl rfl (by first | omega | (simp at *; omega))) rfl rfl rfl ?_
 refine AOps.step (Val.of hσ rfl rfl) rfl rfl rfl ?_
 first | refine AOps.step (Val.lenD hσ rfl rfl rfl rfl rfl rfl rfl rfl) rfl rfl rfl ?_ | refine AOps.step (Val.of hσ rfl rfl) rfl rfl rfl ?_ | refine AOps.step (Val.vif hσ rfl rfl (by first | omega | (simp at *; omega))) rfl rfl rfl ?_
 refine AOps.step (Val.of hσ rfl rfl) rfl rfl rfl ?_
 refine AOps.nil ?_
 refine AWP.cond hσ rfl rfl (fun hc10 => ?_) (fun hc10 => ?_)
 ·
  try simp only [List.length_map, beq_iff_eq, decide_eq_true_eq, decide_eq_false_iff_not, Bool.not_eq_true', Bool.not_eq_false', Bool.not_true, Bool.not_false, Int.not_lt, Int.not_le] at hc10
  refine AWP.seq ?_
  refine AWP.region ?_
  refine AOps.step (Val.of hσ rfl rfl) rfl rfl rfl ?_
  refine AOps.nil ?_
  refine AWP.ret ?_
  refine ⟨.inl rfl, _, Ent.refl, _, rfl, ?_⟩
  rw [decide_eq_false (fun e => by subst e; simp at hc10)]
 ·
  try simp only [List.length_map, beq_iff_eq, decide_eq_true_eq, decide_eq_false_iff_not, Bool.not_eq_true', Bool.not_eq_false', Bool.not_true, Bool.not_false, Int.not_lt, Int.not_le] at hc10
  refine AWP.skip ?_
  refine AWP.seq ?_
  refine AWP.seq ?_
  refine AWP.region ?_
  refine AOps.step (Val.of hσ rfl rfl) rfl rfl rfl ?_
  refine AOps.nil ?_
  refine AWP.block ?_
  refine AWP.loopP (X := Nat) (fun i => ⟨[(0, .c (.d (ndss xs))), (1, .c (.d (ndss ys))), (5, eI i)], []⟩) (fun i => i ≤ xs.length ∧ ∀ j, j < i → xs[j]? = ys[j]?) (fun i => xs.length - i) 0 (Ent.env ⟨rfl, rfl, rfl, trivial⟩) ?_ (fun i hi => ?_)
  ·
   exact ⟨Nat.zero_le _, fun j hj => absurd hj (Nat.not_lt_zero j)⟩
  refine AWP.seq ?_
  refine AWP.seq ?_
  refine AWP.region ?_
  refine AOps.step (Val.of hσ rfl rfl) rfl rfl rfl ?_
  refine AOps.step (Val.of hσ rfl rfl) rfl rfl rfl ?_
  first | refine AOps.step (Val.lenD hσ rfl rfl rfl rfl rfl rfl rfl rfl) rfl rfl rfl ?_ | refine AOps.step (Val.of hσ rfl rfl) rfl rfl rfl ?_ | refine AOps.step (Val.vif hσ rfl rfl (by first | omega | (simp at *; omega))) rfl rfl rfl ?_
  refine AOps.step (Val.of hσ rfl rfl) rfl rfl rfl ?_
  refine AOps.nil ?_
  refine AWP.cond hσ rfl rfl (fun hc14 => ?_) (fun hc14 => ?_)
  ·
   try simp only [List.length_map, beq_iff_eq, decide_eq_true_eq, decide_eq_false_iff_not, Bool.not_eq_true', Bool.not_eq_false', Bool.not_true, Bool.not_false, Int.not_lt, Int.not_le] at hc14
   refine AWP.skip ?_
   refine AWP.seq ?_
   refine AWP.block ?_
   refine AWP.seq ?_
   refine AWP.drawR hσ _ [_, _, _, _, _, _, _, _, _, _] [⟨[], 0, 0, none⟩, ⟨[], 0, 0, none⟩, ⟨[0, 1], 0, 0, none⟩, ⟨[0, 1, 2], 0, 0, none⟩, ⟨[], 0, 0, none⟩, ⟨[], 0, 0, none⟩, ⟨[4, 5], 0, 0, none⟩, ⟨[4, 5, 6], 0, 0, none⟩, ⟨[0, 1, 2, 3, 4, 5, 6, 7], 0, 0, some 0⟩, ⟨[0, 1, 2, 3, 4, 5, 6, 7, 8], 1, 1, none⟩] [8] [_, _] rfl rfl (by decide) (by decide) (by kernel_rfl) (And.intro (Val.of hσ rfl rfl) (And.intro (Val.of hσ rfl rfl) (And.intro (Val.indexD hσ rfl rfl rfl rfl rfl rfl rfl rfl (by first | omega | (simp at *; omega)) (idx_get (by first | omega | (simp at *; omega)) (by first | omega | (simp at *; omega)))) (And.intro (Val.of hσ rfl rfl) (And.intro (Val.of hσ rfl rfl) (And.intro (Val.of hσ rfl rfl) (And.intro (Val.indexD hσ rfl rfl rfl rfl rfl rfl rfl rfl (by first | omega | (simp at *; omega)) (idx_get (by first | omega | (simp at *; omega)) (by first | omega | (simp at *; omega)))) (And.intro (Val.of hσ rfl rfl) (And.intro (Eff.lone hσ (B0 := 26000) rfl rfl rfl rfl (c37 h1 h2) (VAs.self rfl) rfl rfl rfl rfl rfl) (And.intro (Val.of hσ rfl rfl) trivial)))))))))) ?_
   refine AWP.cond hσ rfl rfl (fun hc26 => ?_) (fun hc26 => ?_)
   ·
    try simp only [List.length_map, beq_iff_eq, decide_eq_true_eq, decide_eq_false_iff_not, Bool.not_eq_true', Bool.not_eq_false', Bool.not_true, Bool.not_false, Int.not_lt, Int.not_le] at hc26
    refine AWP.seq ?_
    refine AWP.region ?_
    refine AOps.step (Val.of hσ rfl rfl) rfl rfl rfl ?_
    refine AOps.nil ?_
    refine AWP.ret ?_
    refine ⟨.inl rfl, _, Ent.refl, _, rfl, ?_⟩
    rw [decide_eq_false (fun e => by subst e; simp at hc26)]
   ·
    try simp only [List.length_map, beq_iff_eq, decide_eq_true_eq, decide_eq_false_iff_not, Bool.not_eq_true', Bool.not_eq_false', Bool.not_true, Bool.not_false, Int.not_lt, Int.not_le] at hc26
    refine AWP.skip ?_
    refine AWP.region ?_
    refine AOps.step (Val.of hσ rfl rfl) rfl rfl rfl ?_
    first | refine AOps.step (Val.fits64 hσ rfl rfl (by first | omega | (simp at *; omega)) (by first | omega | (simp at *; omega))) rfl rfl rfl ?_ | refine AOps.step (Val.vif hσ rfl rfl (by first | omega | (simp at *; omega))) rfl rfl rfl ?_
    refine AOps.step (Val.of hσ rfl rfl) rfl rfl rfl ?_
    refine AOps.nil ?_
    refine ⟨i + 1, Ent.env ⟨rfl, rfl, rfl, trivial⟩, ⟨by omega, fun j hj => ?_⟩, by omega⟩
    rcases Nat.lt_or_ge j i with h | h
    ·
     exact hi.2 j h
    ·
     obtain rfl : j = i := by omega
     rw [Int.toNat_natCast, getD_lt (by omega), getD_lt (by omega)] at hc26
     rw [List.getElem?_eq_getElem (by omega), List.getElem?_eq_getElem (by omega), hc26]
  ·
   try simp only [List.length_map, beq_iff_eq, decide_eq_true_eq, decide_eq_false_iff_not, Bool.not_eq_true', Bool.not_eq_false', Bool.not_true, Bool.not_false, Int.not_lt, Int.not_le] at hc14
   refine AWP.exit ?_
   refine AWP.seq ?_
   refine AWP.region ?_
   refine AOps.step (Val.of hσ rfl rfl) rfl rfl rfl ?_
   refine AOps.nil ?_
   refine AWP.ret ?_
   refine ⟨.inl rfl, _, Ent.refl, _, rfl, ?_⟩
   have e : xs = ys := List.ext_getElem? fun j => by
    rcases Nat.lt_or_ge j i with h | h
    ·
     exact hi.2 j h
    ·
     rw [List.getElem?_eq_none (by omega), List.getElem?_eq_none (by omega)]
   rw [decide_eq_true e]
theorem c6 {L : Nat} (h1 : 4096 ≤ L) (h2 : L ≤ 1073741824) {ss : List Sq} {ps : List (List Nd)} (hz1 : 0 ≤ szr 1048576 (Al.szs Sq.size ss)) (hz2 : 0 ≤ szr (szr 1048576 (Al.szs Sq.size ss)) (Al.szs (Al.szs Nd.size) ps)) : MC Try.prog L 6 [asqs ss, andss ps] [] (Plain (eB true)) := by
 refine MC.alone ?_ rfl
 have hσ := SGok (nt := 45) h1 (Nat.le_trans h2 (by decide))
 refine MC.body hσ Try.func6 (by kernel_rfl) rfl rfl (Nat.le_of_ble_eq_true rfl) (fun hF => ?_)
 have hbig : L ≤ 9223372036854775807 := Nat.le_trans h2 (by decide)
 refine AWP.seq ?_
 refine AWP.region ?_
 refine AOps.step (Val.of hσ rfl rfl) rfl rfl rfl ?_
 refine AOps.nil ?_
 refine AWP.seq ?_
 refine AWP.region ?_
 refine AOps.step (Val.of hσ rfl rfl) rfl rfl rfl ?_
 refine AOps.nil ?_
 refine AWP.seq ?_
 refine AWP.region ?_
 refine AOps.step (Val.of hσ rfl rfl) rfl rfl rfl ?_
 refine AOps.step (Val.of hσ rfl rfl) rfl rfl rfl ?_
 refine AOps.lone hσ rfl rfl rfl rfl (c42 (ts := ss) (left := 1048576) h1 hbig (by decide) (by decide)) (VAs.self rfl) rfl rfl rfl rfl rfl (B0 := 13000) rfl ?_
 refine AOps.step (Val.of hσ rfl rfl) rfl rfl rfl ?_
 refine AOps.forget [(5, _), (4, _), (0, _), (1, _)] ⟨rfl, rfl, rfl, rfl, trivial⟩ ?_
 refine AOps.nil ?_
 refine AWP.seq ?_
 refine AWP.seq ?_
 refine AWP.region ?_
 refine AOps.step (Val.of hσ rfl rfl) rfl rfl rfl ?_
 refine AOps.step (Val.of hσ rfl rfl) rfl rfl rfl ?_
 refine AOps.nil ?_
 refine AWP.cond hσ rfl rfl (fun hc14 => ?_) (fun hc14 => ?_)
 ·
  skip
  exact absurd (of_decide_eq_true hc14) (by omega)
 ·
  skip
  refine AWP.skip ?_
  refine AWP.seq ?_
  refine AWP.region ?_
  refine AOps.step (Val.of hσ rfl rfl) rfl rfl rfl ?_
  refine AOps.step (Val.of hσ rfl rfl) rfl rfl rfl ?_
  refine AOps.forget [(16, _), (15, _), (13, _), (5, _), (4, _), (0, _), (1, _)] ⟨rfl, rfl, rfl, rfl, rfl, rfl, rfl, trivial⟩ ?_
  have hle := szr_le (left := 1048576) (by decide) (Al.szs Sq.size ss)
  refine AOps.lone hσ rfl rfl rfl rfl (c43 (ts := ps) h1 hbig hz1 (by omega)) (VAs.self rfl) rfl rfl rfl rfl rfl (B0 := 18000) rfl ?_
  refine AOps.step (Val.of hσ rfl rfl) rfl rfl rfl ?_
  refine AOps.forget [(5, _), (13, _), (4, _), (0, _), (1, _)] ⟨rfl, rfl, rfl, rfl, rfl, trivial⟩ ?_
  refine AOps.nil ?_
  refine AWP.seq ?_
  refine AWP.seq ?_
  refine AWP.region ?_
  refine AOps.step (Val.of hσ rfl rfl) rfl rfl rfl ?_
  refine AOps.step (Val.of hσ rfl rfl) rfl rfl rfl ?_
  refine AOps.nil ?_
  refine AWP.cond hσ rfl rfl (fun hc19 => ?_) (fun hc19 => ?_)
  ·
   skip
   exact absurd (of_decide_eq_true hc19) (by omega)
  ·
   skip
   refine AWP.skip ?_
   refine AWP.seq ?_
   refine AWP.region ?_
   refine AOps.step (Val.of hσ rfl rfl) rfl rfl rfl ?_
   refine AOps.forget [(20, _), (18, _), (5, _), (13, _), (4, _), (0, _), (1, _)] ⟨rfl, rfl, rfl, rfl, rfl, rfl, rfl, trivial⟩ ?_
   refine AOps.plainD hσ rfl rfl rfl rfl (c45d (ss := ss) h1 h2) (VAs.self rfl) rfl rfl rfl rfl (B0 := 22000) rfl rfl ?_
   refine AOps.step (Val.of hσ rfl rfl) rfl rfl rfl ?_
   refine AOps.forget [(22, _), (21, _), (18, _), (5, _), (13, _), (4, _), (0, _), (1, _)] ⟨rfl, rfl, rfl, rfl, rfl, rfl, rfl, rfl, trivial⟩ ?_
   refine AOps.plainD hσ rfl rfl rfl rfl (c46d (ps := ps) h1 h2) (VAs.self rfl) rfl rfl rfl rfl (B0 := 24000) rfl rfl ?_
   refine AOps.forget [(23, _), (21, _), (18, _), (5, _), (13, _), (4, _), (0, _), (1, _)] ⟨rfl, rfl, rfl, rfl, rfl, rfl, rfl, rfl, trivial⟩ ?_
   refine AOps.lone hσ rfl rfl rfl rfl (c44 (ss := ss) (ps := ps) h1 h2) (VAs.self rfl) rfl rfl rfl rfl rfl (B0 := 25000) rfl ?_
   refine AOps.step (Val.of hσ rfl rfl) rfl rfl rfl ?_
   refine AOps.forget [(6, _), (18, _), (5, _), (13, _), (4, _), (0, _), (1, _)] ⟨rfl, rfl, rfl, rfl, rfl, rfl, rfl, trivial⟩ ?_
   refine AOps.nil ?_
   refine AWP.seq ?_
   refine AWP.region ?_
   refine AOps.step (Val.of hσ rfl rfl) rfl rfl rfl ?_
   refine AOps.plainD hσ rfl rfl rfl rfl (c45d (ss := ss) h1 h2) (VAs.self rfl) rfl rfl rfl rfl (B0 := 27000) rfl rfl ?_
   refine AOps.step (Val.of hσ rfl rfl) rfl rfl rfl ?_
   refine AOps.forget [(7, _), (6, _), (18, _), (5, _), (13, _), (4, _), (0, _), (1, _)] ⟨rfl, rfl, rfl, rfl, rfl, rfl, rfl, rfl, trivial⟩ ?_
   refine AOps.nil ?_
   refine AWP.seq ?_
   refine AWP.region ?_
   refine AOps.step (Val.of hσ rfl rfl) rfl rfl rfl ?_
   refine AOps.plainD hσ rfl rfl rfl rfl (c46d (ps := ps) h1 h2) (VAs.self rfl) rfl rfl rfl rfl (B0 := 29000) rfl rfl ?_
   refine AOps.step (Val.of hσ rfl rfl) rfl rfl rfl ?_
   refine AOps.forget [(8, _), (7, _), (6, _), (18, _), (5, _), (13, _), (4, _), (0, _), (1, _)] ⟨rfl, rfl, rfl, rfl, rfl, rfl, rfl, rfl, rfl, trivial⟩ ?_
   refine AOps.nil ?_
   refine AWP.seq ?_
   refine AWP.region ?_
   refine AOps.step (Val.of hσ rfl rfl) rfl rfl rfl ?_
   refine AOps.step (Val.of hσ rfl rfl) rfl rfl rfl ?_
   refine AOps.lone hσ rfl rfl rfl rfl ((c47 (ss := ss) (ps := ps) h1 h2).plain (congrArg eB are_eq)) (VAs.self rfl) rfl rfl rfl rfl rfl (B0 := 32000) rfl ?_
   refine AOps.step (Val.of hσ rfl rfl) rfl rfl rfl ?_
   refine AOps.forget [(9, _), (8, _), (7, _), (6, _), (18, _), (5, _), (13, _), (4, _), (0, _), (1, _)] ⟨rfl, rfl, rfl, rfl, rfl, rfl, rfl, rfl, rfl, rfl, trivial⟩ ?_
   refine AOps.nil ?_
   refine AWP.seq ?_
   refine AWP.seq ?_
   refine AWP.region ?_
   refine AOps.step (Val.of hσ rfl rfl) rfl rfl rfl ?_
   refine AOps.step (Val.of hσ rfl rfl) rfl rfl rfl ?_
   refine AOps.step (Val.of hσ rfl rfl) rfl rfl rfl ?_
   refine AOps.forget [(34, _), (8, _), (7, _), (18, _), (5, _), (13, _), (4, _), (0, _), (1, _)] ⟨rfl, rfl, rfl, rfl, rfl, rfl, rfl, rfl, rfl, trivial⟩ ?_
   refine AOps.nil ?_
   refine AWP.cond hσ rfl rfl (fun hc34 => ?_) (fun hc34 => ?_)
   ·
    skip
    exact absurd hc34 (by simp)
   ·
    skip
    refine AWP.skip ?_
    refine AWP.seq ?_
    refine AWP.seq ?_
    refine AWP.region ?_
    refine AOps.step (Val.of hσ rfl rfl) rfl rfl rfl ?_
    refine AOps.step (Val.of hσ rfl rfl) rfl rfl rfl ?_
    refine AOps.forget [(36, _), (35, _), (8, _), (7, _), (18, _), (5, _), (13, _), (4, _), (0, _), (1, _)] ⟨rfl, rfl, rfl, rfl, rfl, rfl, rfl, rfl, rfl, rfl, trivial⟩ ?_
    refine AOps.plainD hσ rfl rfl rfl rfl (c45d (ss := ss) h1 h2) (VAs.self rfl) rfl rfl rfl rfl (B0 := 38000) rfl rfl ?_
    refine AOps.forget [(37, _), (35, _), (8, _), (7, _), (18, _), (5, _), (13, _), (4, _), (0, _), (1, _)] ⟨rfl, rfl, rfl, rfl, rfl, rfl, rfl, rfl, rfl, rfl, trivial⟩ ?_
    refine AOps.lone hσ rfl rfl rfl rfl ((c48 (xs := ss) (ys := ss) h1 h2).plain (u := eB true) (by simp)) (VAs.self rfl) rfl rfl rfl rfl rfl (B0 := 39000) rfl ?_
    refine AOps.step (Val.of hσ rfl rfl) rfl rfl rfl ?_
    refine AOps.forget [(39, _), (8, _), (7, _), (18, _), (5, _), (13, _), (4, _), (0, _), (1, _)] ⟨rfl, rfl, rfl, rfl, rfl, rfl, rfl, rfl, rfl, trivial⟩ ?_
    refine AOps.nil ?_
    refine AWP.cond hσ rfl rfl (fun hc39 => ?_) (fun hc39 => ?_)
    ·
     skip
     exact absurd (show false = true from hc39) (by decide)
    ·
     skip
     refine AWP.skip ?_
     refine AWP.seq ?_
     refine AWP.seq ?_
     refine AWP.region ?_
     refine AOps.step (Val.of hσ rfl rfl) rfl rfl rfl ?_
     refine AOps.step (Val.of hσ rfl rfl) rfl rfl rfl ?_
     refine AOps.forget [(41, _), (40, _), (8, _), (7, _), (18, _), (5, _), (13, _), (4, _), (0, _), (1, _)] ⟨rfl, rfl, rfl, rfl, rfl, rfl, rfl, rfl, rfl, rfl, trivial⟩ ?_
     refine AOps.plainD hσ rfl rfl rfl rfl (c46d (ps := ps) h1 h2) (VAs.self rfl) rfl rfl rfl rfl (B0 := 43000) rfl rfl ?_
     refine AOps.forget [(42, _), (40, _), (8, _), (7, _), (18, _), (5, _), (13, _), (4, _), (0, _), (1, _)] ⟨rfl, rfl, rfl, rfl, rfl, rfl, rfl, rfl, rfl, rfl, trivial⟩ ?_
     refine AOps.lone hσ rfl rfl rfl rfl ((c49 (xs := ps) (ys := ps) h1 h2).plain (u := eB true) (by simp)) (VAs.self rfl) rfl rfl rfl rfl rfl (B0 := 44000) rfl ?_
     refine AOps.step (Val.of hσ rfl rfl) rfl rfl rfl ?_
     refine AOps.forget [(44, _), (8, _), (7, _), (18, _), (5, _), (13, _), (4, _), (0, _), (1, _)] ⟨rfl, rfl, rfl, rfl, rfl, rfl, rfl, rfl, rfl, trivial⟩ ?_
     refine AOps.nil ?_
     refine AWP.cond hσ rfl rfl (fun hc44 => ?_) (fun hc44 => ?_)
     ·
      skip
      exact absurd (show false = true from hc44) (by decide)
     ·
      skip
      refine AWP.skip ?_
      refine AWP.seq ?_
      refine AWP.region ?_
      refine AOps.step (Val.of hσ rfl rfl) rfl rfl rfl ?_
      refine AOps.nil ?_
      refine AWP.ret ?_
      refine ⟨.inl rfl, _, Ent.refl, _, rfl, ?_⟩
      rfl
theorem c6a {L : Nat} (h1 : 4096 ≤ L) (h2 : L ≤ 9223372036854775807) {ss : List Sq} {ps : List (List Nd)} (hz : szr 1048576 (Al.szs Sq.size ss) < 0) : MC Try.prog L 6 [asqs ss, andss ps] [] (Plain (eB true)) := by
 refine MC.alone ?_ rfl
 have hσ := SGok (nt := 45) h1 h2
 refine MC.body hσ Try.func6 (by kernel_rfl) rfl rfl (Nat.le_of_ble_eq_true rfl) (fun hF => ?_)
 refine AWP.seq ?_
 refine AWP.region ?_
 refine AOps.step (Val.of hσ rfl rfl) rfl rfl rfl ?_
 refine AOps.nil ?_
 refine AWP.seq ?_
 refine AWP.region ?_
 refine AOps.step (Val.of hσ rfl rfl) rfl rfl rfl ?_
 refine AOps.nil ?_
 refine AWP.seq ?_
 refine AWP.region ?_
 refine AOps.step (Val.of hσ rfl rfl) rfl rfl rfl ?_
 refine AOps.step (Val.of hσ rfl rfl) rfl rfl rfl ?_
 refine AOps.lone hσ rfl rfl rfl rfl (c42 (ts := ss) (left := 1048576) h1 h2 (by decide) (by decide)) (VAs.self rfl) rfl rfl rfl rfl rfl (B0 := 13000) rfl ?_
 refine AOps.step (Val.of hσ rfl rfl) rfl rfl rfl ?_
 refine AOps.forget [(5, _), (4, _), (0, _), (1, _)] ⟨rfl, rfl, rfl, rfl, trivial⟩ ?_
 refine AOps.nil ?_
 refine AWP.seq ?_
 refine AWP.seq ?_
 refine AWP.region ?_
 refine AOps.step (Val.of hσ rfl rfl) rfl rfl rfl ?_
 refine AOps.step (Val.of hσ rfl rfl) rfl rfl rfl ?_
 refine AOps.nil ?_
 refine AWP.cond hσ rfl rfl (fun hc14 => ?_) (fun hc14 => ?_)
 ·
  skip
  refine AWP.seq ?_
  refine AWP.region ?_
  refine AOps.step (Val.of hσ rfl rfl) rfl rfl rfl ?_
  refine AOps.nil ?_
  refine AWP.ret ?_
  refine ⟨.inl rfl, _, Ent.refl, _, rfl, ?_⟩
  rfl
 ·
  skip
  exact absurd (of_decide_eq_false hc14) (fun h => h hz)
theorem c6b {L : Nat} (h1 : 4096 ≤ L) (h2 : L ≤ 9223372036854775807) {ss : List Sq} {ps : List (List Nd)} (hz1 : 0 ≤ szr 1048576 (Al.szs Sq.size ss)) (hz2 : szr (szr 1048576 (Al.szs Sq.size ss)) (Al.szs (Al.szs Nd.size) ps) < 0) : MC Try.prog L 6 [asqs ss, andss ps] [] (Plain (eB true)) := by
 refine MC.alone ?_ rfl
 have hσ := SGok (nt := 45) h1 h2
 refine MC.body hσ Try.func6 (by kernel_rfl) rfl rfl (Nat.le_of_ble_eq_true rfl) (fun hF => ?_)
 refine AWP.seq ?_
 refine AWP.region ?_
 refine AOps.step (Val.of hσ rfl rfl) rfl rfl rfl ?_
 refine AOps.nil ?_
 refine AWP.seq ?_
 refine AWP.region ?_
 refine AOps.step (Val.of hσ rfl rfl) rfl rfl rfl ?_
 refine AOps.nil ?_
 refine AWP.seq ?_
 refine AWP.region ?_
 refine AOps.step (Val.of hσ rfl rfl) rfl rfl rfl ?_
 refine AOps.step (Val.of hσ rfl rfl) rfl rfl rfl ?_
 refine AOps.lone hσ rfl rfl rfl rfl (c42 (ts := ss) (left := 1048576) h1 h2 (by decide) (by decide)) (VAs.self rfl) rfl rfl rfl rfl rfl (B0 := 13000) rfl ?_
 refine AOps.step (Val.of hσ rfl rfl) rfl rfl rfl ?_
 refine AOps.forget [(5, _), (4, _), (0, _), (1, _)] ⟨rfl, rfl, rfl, rfl, trivial⟩ ?_
 refine AOps.nil ?_
 refine AWP.seq ?_
 refine AWP.seq ?_
 refine AWP.region ?_
 refine AOps.step (Val.of hσ rfl rfl) rfl rfl rfl ?_
 refine AOps.step (Val.of hσ rfl rfl) rfl rfl rfl ?_
 refine AOps.nil ?_
 refine AWP.cond hσ rfl rfl (fun hc14 => ?_) (fun hc14 => ?_)
 ·
  skip
  exact absurd (of_decide_eq_true hc14) (Int.not_lt.2 hz1)
 ·
  skip
  refine AWP.skip ?_
  refine AWP.seq ?_
  refine AWP.region ?_
  refine AOps.step (Val.of hσ rfl rfl) rfl rfl rfl ?_
  refine AOps.step (Val.of hσ rfl rfl) rfl rfl rfl ?_
  refine AOps.forget [(16, _), (15, _), (13, _), (5, _), (4, _), (0, _), (1, _)] ⟨rfl, rfl, rfl, rfl, rfl, rfl, rfl, trivial⟩ ?_
  have hle := szr_le (left := 1048576) (by decide) (Al.szs Sq.size ss)
  refine AOps.lone hσ rfl rfl rfl rfl (c43 (ts := ps) h1 h2 hz1 (by omega)) (VAs.self rfl) rfl rfl rfl rfl rfl (B0 := 18000) rfl ?_
  refine AOps.step (Val.of hσ rfl rfl) rfl rfl rfl ?_
  refine AOps.forget [(5, _), (13, _), (4, _), (0, _), (1, _)] ⟨rfl, rfl, rfl, rfl, rfl, trivial⟩ ?_
  refine AOps.nil ?_
  refine AWP.seq ?_
  refine AWP.seq ?_
  refine AWP.region ?_
  refine AOps.step (Val.of hσ rfl rfl) rfl rfl rfl ?_
  refine AOps.step (Val.of hσ rfl rfl) rfl rfl rfl ?_
  refine AOps.nil ?_
  refine AWP.cond hσ rfl rfl (fun hc19 => ?_) (fun hc19 => ?_)
  ·
   skip
   refine AWP.seq ?_
   refine AWP.region ?_
   refine AOps.step (Val.of hσ rfl rfl) rfl rfl rfl ?_
   refine AOps.nil ?_
   refine AWP.ret ?_
   refine ⟨.inl rfl, _, Ent.refl, _, rfl, ?_⟩
   rfl
  ·
   skip
   exact absurd (of_decide_eq_false hc19) (fun h => h hz2)
theorem fact_sqs {L S : Nat} {ss : List Sq} (h : D.fact L (sqs ss)) (hl : szs Sq.size ss ≤ S) : D.fact S (sqs ss) := by
  unfold szs at hl
  simp only [D.fact, List.length_map, Dss.fact_map] at h ⊢
  refine ⟨by omega, fun s hs => ?_⟩
  have h1 := h.2 s hs
  have h2 := sum_mem Sq.size hs
  exact fact_sq h1 (by omega)
theorem fact_ndss {L S : Nat} {ps : List (List Nd)} (h : D.fact L (ndss ps)) (hl : szs (szs Nd.size) ps ≤ S) : D.fact S (ndss ps) := by
  unfold szs at hl
  simp only [D.fact, List.length_map, Dss.fact_map] at h ⊢
  refine ⟨by omega, fun p hp => ?_⟩
  have h1 := h.2 p hp
  have h2 := sum_mem (szs Nd.size) hp
  exact ⟨fact_nds h1.1 (by unfold szs at h2 ⊢; omega), trivial⟩
/-- The law of AreProved holds for all arguments. -/
theorem law6 {L : Nat} (h1 : 4096 ≤ L) (h2 : L ≤ 9223372036854775807) {ss : List Sq} {ps : List (List Nd)} : MC Try.prog L 6 [asqs ss, andss ps] [] (Plain (eB true)) := by
  by_cases hz1 : szr 1048576 (szs Sq.size ss) < 0
  · exact c6a h1 h2 hz1
  by_cases hz2 : szr (szr 1048576 (szs Sq.size ss)) (szs (szs Nd.size) ps) < 0
  · exact c6b h1 h2 (by omega) hz2
  have hz1' : 0 ≤ szr 1048576 (szs Sq.size ss) := by omega
  have hz2' : 0 ≤ szr (szr 1048576 (szs Sq.size ss)) (szs (szs Nd.size) ps) := by omega
  have g1 := szr_nonneg hz1' (by decide)
  have g2 := szr_nonneg hz2' hz1'
  have g3 := szr_le (left := 1048576) (by decide) (szs Sq.size ss)
  refine MC.facts ⟨_, _, Try.func6, by kernel_rfl, rfl⟩ fun hF => ?_
  refine MC.lift (L0 := 1073741824) rfl ?_ ?_
  · exact ⟨fact_sqs hF.1 (by omega), fact_ndss hF.2.1 (by omega), trivial⟩
  · exact c6 (by decide) (Nat.le_refl _) hz1' hz2'
end Go.Al
