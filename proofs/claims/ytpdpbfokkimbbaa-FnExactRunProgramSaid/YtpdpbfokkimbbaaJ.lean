/- RunProgram of the program returns what the reference's returns, for all arguments: no condition. -/
import Derived.Test.YtpdpbfokkimbbaaI
import Derived.Test.YtpdpbfokkimbbaaRows
namespace Go.Proofs.Ytpdpbfokkimbbaa
open Go.ChangeShapes Go.WideShapes Go.ChangeAt Go.RowKit Go.Al
set_option linter.unusedVariables false
set_option maxRecDepth 10000

theorem ownK : ownKnob Try.prog.godebug = none := by kernel_rfl
theorem kidsK : Kids Try.prog (· < Try.prog.types.size) := kids_rows (by kernel_rfl) (by kernel_rfl)
theorem fullK : ∀ t e, t < Try.prog.types.size → Try.prog.underlying t = some (.slice e) → 0 < Try.prog.cellsOf e := slices_full_of Try.prog (by kernel_rfl)

/-! ### The types of the arguments -/
abbrev tyI : List Ty := [.int .i64]
abbrev tyT : List Ty := [.int .i64, .slc tyI]
abbrev tyS : List Ty := [.int .i64, .int .i64, .int .i64, .int .i64, .slc tyI, .int .i64, .slc tyI, .slc tyT]
theorem of2 : TyOf Try.prog 2 tyI := .int Try.underlying2
theorem of26 : TyOf Try.prog 26 [.slc tyI] := .slc Try.underlying26 of2 (by kernel_rfl) (by decide)
theorem of63 : TyOf Try.prog 63 tyT := .struct Try.underlying63 (show FieldsAre Try.prog _ (tyI ++ ([.slc tyI] ++ [])) 0 from .cons rfl (by kernel_rfl) of2 (.cons rfl (by kernel_rfl) of26 .nil)) (by kernel_rfl)
theorem of22 : TyOf Try.prog 22 [.slc tyT] := .slc Try.underlying22 of63 (by kernel_rfl) (by decide)
theorem of165 : TyOf Try.prog 165 tyS := .struct Try.underlying165 (show FieldsAre Try.prog _ (tyI ++ (tyI ++ (tyI ++ (tyT ++ (tyT ++ ([.slc tyT] ++ [])))))) 0 from
  .cons rfl (by kernel_rfl) of2 (.cons rfl (by kernel_rfl) of2 (.cons rfl (by kernel_rfl) of2 (.cons rfl (by kernel_rfl) of63 (.cons rfl (by kernel_rfl) of63 (.cons rfl (by kernel_rfl) of22 .nil)))))) (by kernel_rfl)
theorem of23 : TyOf Try.prog 23 [.slc tyS] := .slc Try.underlying23 of165 (by kernel_rfl) (by decide)
theorem of25 : TyOf Try.prog 25 [.slc tyT, .slc tyS, .slc tyT] := .struct Try.underlying25 (show FieldsAre Try.prog _ ([.slc tyT] ++ ([.slc tyS] ++ ([.slc tyT] ++ []))) 0 from
  .cons rfl (by kernel_rfl) of22 (.cons rfl (by kernel_rfl) of23 (.cons rfl (by kernel_rfl) of22 .nil))) (by kernel_rfl)
theorem of28 : TyOf Try.prog 28 [.slc tyI, .slc tyI] := .struct Try.underlying28 (show FieldsAre Try.prog _ ([.slc tyI] ++ ([.slc tyI] ++ [])) 0 from .cons rfl (by kernel_rfl) of26 (.cons rfl (by kernel_rfl) of26 .nil)) (by kernel_rfl)

theorem fits_int {d : D} (h : Fits (.int .i64) d) : ∃ n, d = .int .i64 n := by cases h; exact ⟨_, rfl⟩
theorem fits_all {α : Type} {es : List Ty} {g : α → List D} (hg : ∀ e, FitsL es e → ∃ a, e = g a) : ∀ {xs : List (List D)}, FitsA es xs → ∃ ys : List α, xs = ys.map g
  | _, .nil => ⟨[], rfl⟩
  | _, .cons h1 h2 => by
    obtain ⟨a, rfl⟩ := hg _ h1
    obtain ⟨ys, rfl⟩ := fits_all hg h2
    exact ⟨a :: ys, rfl⟩
theorem fits_ints {d : D} (h : Fits (.slc tyI) d) : ∃ xs, d = ints xs := by
  cases h with
  | slc h =>
    obtain ⟨xs, rfl⟩ := fits_all (g := fun n => [D.int .i64 n]) (fun e he => by
      cases he with
      | cons h1 h2 =>
        cases h2
        obtain ⟨n, rfl⟩ := fits_int h1
        exact ⟨n, rfl⟩) h
    exact ⟨xs, rfl⟩
theorem fits_term {e : List D} (h : FitsL tyT e) : ∃ t : Tm, e = t.cells := by
  cases h with
  | cons h1 h2 =>
    cases h2 with
    | cons h2 h3 =>
      cases h3
      obtain ⟨n, rfl⟩ := fits_int h1
      obtain ⟨xs, rfl⟩ := fits_ints h2
      exact ⟨⟨n, xs⟩, rfl⟩
theorem fits_terms {d : D} (h : Fits (.slc tyT) d) : ∃ ts, d = tms ts := by
  cases h with
  | slc h =>
    obtain ⟨xs, rfl⟩ := fits_all (g := Tm.cells) (fun e he => fits_term he) h
    exact ⟨xs, rfl⟩
theorem fits_stmt {e : List D} (h : FitsL tyS e) : ∃ s : Sm, e = s.cells := by
  cases h with
  | cons a1 h =>
    cases h with
    | cons a2 h =>
      cases h with
      | cons a3 h =>
        cases h with
        | cons a4 h =>
          cases h with
          | cons a5 h =>
            cases h with
            | cons a6 h =>
              cases h with
              | cons a7 h =>
                cases h with
                | cons a8 h =>
                  cases h
                  obtain ⟨n1, rfl⟩ := fits_int a1
                  obtain ⟨n2, rfl⟩ := fits_int a2
                  obtain ⟨n3, rfl⟩ := fits_int a3
                  obtain ⟨n4, rfl⟩ := fits_int a4
                  obtain ⟨x5, rfl⟩ := fits_ints a5
                  obtain ⟨n6, rfl⟩ := fits_int a6
                  obtain ⟨x7, rfl⟩ := fits_ints a7
                  obtain ⟨x8, rfl⟩ := fits_terms a8
                  exact ⟨⟨n1, n2, n3, ⟨n4, x5⟩, ⟨n6, x7⟩, x8⟩, rfl⟩
theorem fits_stmts {d : D} (h : Fits (.slc tyS) d) : ∃ b, d = sms b := by
  cases h with
  | slc h =>
    obtain ⟨xs, rfl⟩ := fits_all (g := Sm.cells) (fun e he => fits_stmt he) h
    exact ⟨xs, rfl⟩
theorem fits_prog {e : List D} (h : FitsL [.slc tyT, .slc tyS, .slc tyT] e) : ∃ p : Pm, e = p.data := by
  cases h with
  | cons a1 h =>
    cases h with
    | cons a2 h =>
      cases h with
      | cons a3 h =>
        cases h
        obtain ⟨x1, rfl⟩ := fits_terms a1
        obtain ⟨x2, rfl⟩ := fits_stmts a2
        obtain ⟨x3, rfl⟩ := fits_terms a3
        exact ⟨⟨x1, x2, x3⟩, rfl⟩
theorem fits_state {e : List D} (h : FitsL [.slc tyI, .slc tyI] e) : ∃ s : Sx, e = s.data := by
  cases h with
  | cons a1 h =>
    cases h with
    | cons a2 h =>
      cases h
      obtain ⟨x1, rfl⟩ := fits_ints a1
      obtain ⟨x2, rfl⟩ := fits_ints a2
      exact ⟨⟨x1, x2⟩, rfl⟩

/-! ### What came in reads as it did -/
theorem rdl_rms {L : Nat} {w : World} {ok : Nat → Prop} {m : Nat → Go.Al.Loc} : ∀ {ds : List D} {vs : List Value} {F : List Nat}, RDL L w ok ds vs F → F = [] → RMs L w ok m (ds.map .d) vs
  | _, _, _, .nil, _ => .nil
  | _, _, _, .cons (F1 := F1) (F2 := F2) h1 h2, hF => by
    obtain ⟨rfl, rfl⟩ := List.append_eq_nil_iff.1 hF
    exact .cons (.d h1) (rdl_rms h2 rfl)
section
variable {H : Type} {enc : TypeId × Value → H} {P : Program} {w w' : World}
theorem same_at (hs : ∀ b, b < w.heap.size → Same w w' b) {p : MemPlace} (hp : p.block < w.heap.size) : w.sameAt w' p := by
  cases p with
  | cell b o => exact (hs b hp).cell
  | map b => exact hs b hp
theorem trodAll_same (hs : ∀ b, b < w.heap.size → Same w w' b) {base : Nat} {sp : Nat → Bool} {held : Bool} : ∀ {ts : List TypeId} {vs : List Value} {ds : List (DataW H)} {ps : List MemPlace}, (∀ p ∈ ps, p.block < w.heap.size) → DataW.TrodAll enc P w base sp held ts vs ds ps → DataW.TrodAll enc P w' base sp held ts vs ds ps
  | [], [], [], _, _, h => h
  | _ :: _, _ :: _, _ :: _, _, hl, ⟨p, q, ⟨n, h1⟩, h2, e⟩ =>
    ⟨p, q, ⟨n, DataW.trod_carry n _ _ _ h1 (fun x hx => same_at hs (hl x (by rw [e]; exact List.mem_append_left _ hx)))⟩, trodAll_same hs (fun x hx => hl x (by rw [e]; exact List.mem_append_right _ hx)) h2, e⟩
theorem frame_kept (hf : Go.Al.Frame w w' []) (may : MemPlace → Prop) : w.keptBut w' may := by
  refine ⟨hf.os, hf.output, fun i hi => ?_⟩
  have h := hf.block i hi (by simp)
  unfold Same at h
  rw [h]
  cases hx : w.heap[i]? with
  | none => trivial
  | some o =>
    cases o with
    | cells c t fr => exact ⟨rfl, rfl, rfl, fun _ _ => rfl⟩
    | map es clock => exact .inr ⟨rfl, rfl⟩
    | _ => rfl
theorem frozen_old (hf : Go.Al.Frame w w' []) {a : Addr} (ha : a.block < w.heap.size) : w'.frozen? a = w.frozen? a := by
  have h := hf.block a.block ha (by simp)
  unfold Same at h
  unfold World.frozen?
  rw [h]
theorem post_of_old {f : Func} {s : ChangeSpec} {apart fresh handsOn again : Bool} {args : Array Value} {v : Value} {ds gs : List (DataW H)} {before pa pv : List MemPlace}
    (hW : DataW.Whole enc P f.params.toList s.vars apart w args.toList ds gs before)
    (hres : ∀ (b : Nat) (sp : Nat → Bool) (hd : Bool), DataW.TrodAll enc P w' b sp hd f.resultTypes.toList (v.resultList f.resultTypes.size) (s.fn H (ds ++ gs)).results [])
    (hargs : ∀ sp : Nat → Bool, (∀ p ∈ before, sp p.block = true) → DataW.TrodAll enc P w' 0 sp true f.params.toList args.toList (s.fn H (ds ++ gs)).args pa)
    (hvars : ∀ sp : Nat → Bool, (∀ p ∈ before, sp p.block = true) → DataW.TrodVars enc P w' sp s.vars (s.fn H (ds ++ gs)).vars pv)
    (hps : before = pa ++ pv) (hf : Go.Al.Frame w w' [])
    (hok : ∀ (j : Nat) (t : TypeId) (r : Value), f.resultTypes[j]? = some t → (v.resultList f.resultTypes.size)[j]? = some r → Value.okWide P w' .any 0 t r) :
    s.post enc P f apart fresh handsOn again w args v w' := by
  have hlt := hW.lt
  have hold : ∀ p ∈ before, (fun b => decide (b < w.heap.size)) p.block = true := fun p hp => by simpa using hlt p hp
  refine ⟨ds, gs, before, [], pa, pv, hW, hres _ _ _, hargs _ hold, hvars _ hold, World.keptBut_mono (fun p hp => ⟨hp, ?_⟩) (frame_kept hf (· ∈ before)), fun _ => ?_⟩
  · rw [hps, List.mem_append] at hp
    exact Or.inr hp
  · obtain ⟨_, _, _, _, _, hz, hn⟩ := hW
    refine ⟨hok, _, _, ([] ++ pa) ++ pv, ⟨[] ++ pa, pv, trodAll_append (hargs _ (fun _ _ => rfl)) (hres _ _ _), hvars _ (fun _ _ => rfl), rfl, ?_, ?_⟩, ?_⟩
    · intro b off hp
      have hp' : MemPlace.cell b off ∈ before := by rw [hps]; simpa using hp
      rw [frozen_old hf (hlt _ hp')]
      exact hz b off hp'
    · intro ha
      have := hn ha
      rw [hps] at this
      simpa using this
    · intro p hp _
      rw [hps]
      simpa using hp
end

namespace fnExactRunProgram
theorem contract (H : Type) (enc : TypeId × Value → H) (W : World) (base : Nat) (args : Array Value) (ds gs : List (DataW H)) (before : List MemPlace)
    (hval : ∀ (j : Nat) t v, Try.f3.params[j]? = some t → args[j]? = some v → Value.okWide Try.prog W .any base t v)
    (hW : DataW.Whole enc Try.prog Try.f3.params.toList Rows.fnExactRunProgramSpec.vars false W args.toList ds gs before) :
    Calls Try.prog 3 args W fun e W' => ∃ v, e = .returned v ∧ Rows.fnExactRunProgramSpec.post enc Try.prog Try.f3 false true false false W args v W' := by
  have hW' := hW
  have hlt := hW.lt
  obtain ⟨p, q, hA0, hV, rfl, hfz, hnd⟩ := hW
  have hA : DataW.TrodAll enc Try.prog W 0 (fun _ => true) true Try.f3.params.toList args.toList ds p := hA0
  have hAk := hA
  rw [Try.params3] at hA hval
  obtain ⟨v0, v1, v2, d0, d1, d2, p0, p1, p2, rfl, rfl, rfl, h0, h1, h2⟩ := trodAll_three hA
  obtain ⟨rfl, rfl⟩ := trodVars_none hV
  obtain ⟨c0, rfl, z0⟩ := okWide_struct Try.underlying25 (hval 0 25 v0 rfl rfl)
  obtain ⟨c1, rfl, z1⟩ := okWide_struct Try.underlying28 (hval 1 28 v1 rfl rfl)
  obtain ⟨n, rfl, rfl, rfl, wn⟩ := open_int Try.underlying2 (hval 2 2 v2 rfl rfl) h2
  obtain ⟨u0, h0⟩ := h0
  obtain ⟨u1, h1⟩ := h1
  obtain ⟨e0, f0, r0⟩ := open_ty of25 h0
  obtain ⟨e1, f1, r1⟩ := open_ty of28 h1
  obtain ⟨pp, rfl⟩ := fits_prog f0
  obtain ⟨ss, rfl⟩ := fits_state f1
  have hn : IntKind.i64.min ≤ n ∧ n ≤ IntKind.i64.max := by simp only [Lit.wf, Bool.and_eq_true, decide_eq_true_eq] at wn; exact wn
  have hl := law3 (L := maxLen) (by decide) (by decide) (p := pp) (s := ss) (f := n)
  have hargs : RAs maxLen W okAll (fun _ => .nil) [aPm pp, aSx ss, eI n] [.agg c0, .agg c1, .int .i64 n] :=
    .cons (.agg (vs := c0.toList) (rdl_rms r0 rfl)) (.cons (.agg (vs := c1.toList) (rdl_rms r1 rfl)) (.cons (.c (.d (.int hn.1 hn.2))) .nil))
  refine Calls.mono (hl.2 W (fun _ => .nil) [] okAll _ .nil List.nodup_nil (fun b hb => by cases hb) (fun _ _ _ _ h => by cases h) hargs) fun e W' he => ?_
  cases e with
  | returned v =>
    obtain ⟨res, H', m', F', ⟨rfl, rfl⟩, _, _, _, hres, hf, _, _⟩ := he
    have hv : v = .bool true := hres.bool_inv
    subst hv
    have hsame : ∀ b, b < W.heap.size → Same W W' b := fun b hb => hf.block b hb (by simp)
    refine ⟨_, rfl, post_of_old (pv := []) hW' (fun _ _ _ => trodAll_cons_mk (shut_bool Try.underlying4 _) trodAll_mk0) (fun sp hsp => ?_) (fun _ _ => rfl) rfl hf (ok_one (by kernel_rfl) rfl (okWide_bool_mk Try.underlying4 _))⟩
    refine DataW.TrodAll.respare kidsK fullK (by rw [Try.params3]; decide) (trodAll_same hsame (fun x hx => hlt x (by simpa using hx)) hAk) (fun x hx => hsp x (by simpa using hx))
  | _ => exact he.elim

set_option maxRecDepth 100000 in
theorem lifted (os : Os) (started : os.Started) (H : Type) (enc : TypeId × Value → H) :
    ReturnsInHanded {} Try.checked os 3 .any (Rows.fnExactRunProgramSpec.pre6 enc Try.prog Try.f3 Rows.fnExactRunProgramRow.domain false) (Rows.fnExactRunProgramSpec.post enc Try.prog Try.f3 false true false false) := by
  refine returnsInHanded_of_change (C := Try.checked) ownK started (by kernel_rfl) Try.func3
    (ChangeSpec.witness6 (enc := enc) (C := Try.checked) false ⟨#[], #[.agg #[.slice none 0 0, .slice none 0 0, .slice none 0 0], .agg #[.slice none 0 0, .slice none 0 0], .int .i64 0], []⟩ 8 (by kernel_rfl) (by kernel_rfl) (by kernel_rfl) (by kernel_rfl)) ?_
  intro W base args ds gs before hval hW _ _
  exact contract H enc W base args ds gs before hval hW

theorem proved : Rows.FnExactRunProgramSaid :=
  OpenClaim.holds_of_wide 3 Try.f3 rfl rfl rfl rfl rfl rfl rfl ⟨rfl, rfl, rfl, rfl, rfl⟩ rfl rfl rfl rfl rfl (by kernel_rfl) Try.func3 (by kernel_rfl)
    (of_decide_eq_true (by kernel_rfl)) (by unfold Func.isWrapper; first | (rw [if_pos (by decide +kernel)]; kernel_rfl) | (rw [if_neg (by decide +kernel)]; exact ⟨rfl, rfl⟩))
    (fun os started H enc _ => lifted os started H enc)
end fnExactRunProgram
end Go.Proofs.Ytpdpbfokkimbbaa
