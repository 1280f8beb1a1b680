/- OptimiseCode of the program returns what the reference's returns, for all arguments: the row and its tied card. -/
import Derived.Test.YtkendpichnklaaaGreatDoorJ
import Derived.Test.YtkendpichnklaaaGreatDoorD
namespace Go.Proofs.YtkendpichnklaaaGreatDoor
open Go.ChangeShapes Go.WideShapes Go.ChangeAt Go.RowKit Go.Al
set_option linter.unusedVariables false
set_option maxRecDepth 10000
abbrev tyN2 : List Ty := [.int .i64, .int .i64]
abbrev tyP : List Ty := [.int .i64, .slc tyT]
abbrev tyA : List Ty := [.slc tyT, .slc tyT, .slc tyN2, .slc tyP]
theorem of200 : TyOf Tryz.prog 75 tyN2 := .struct Tryz.underlying75 (show FieldsAre Tryz.prog _ (tyI ++ (tyI ++ [])) 0 from .cons rfl (by kernel_rfl) of2 (.cons rfl (by kernel_rfl) of2 .nil)) (by kernel_rfl)
theorem of47 : TyOf Tryz.prog 23 [.slc tyN2] := .slc Tryz.underlying23 of200 (by kernel_rfl) (by decide)
theorem of188 : TyOf Tryz.prog 63 tyP := .struct Tryz.underlying63 (show FieldsAre Tryz.prog _ (tyI ++ ([.slc tyT] ++ [])) 0 from .cons rfl (by kernel_rfl) of2 (.cons rfl (by kernel_rfl) of22 .nil)) (by kernel_rfl)
theorem of48 : TyOf Tryz.prog 24 [.slc tyP] := .slc Tryz.underlying24 of188 (by kernel_rfl) (by decide)
theorem of50 : TyOf Tryz.prog 26 tyA := .struct Tryz.underlying26 (show FieldsAre Tryz.prog _ ([.slc tyT] ++ ([.slc tyT] ++ ([.slc tyN2] ++ ([.slc tyP] ++ [])))) 0 from
  .cons rfl (by kernel_rfl) of22 (.cons rfl (by kernel_rfl) of22 (.cons rfl (by kernel_rfl) of47 (.cons rfl (by kernel_rfl) of48 .nil)))) (by kernel_rfl)
theorem fits_instr {e : List D} (h : FitsL tyN2 e) : ∃ x : In, e = x.cells := by
  cases h with
  | cons a1 h =>
    cases h with
    | cons a2 h =>
      cases h
      obtain ⟨n1, rfl⟩ := fits_int a1
      obtain ⟨n2, rfl⟩ := fits_int a2
      exact ⟨⟨n1, n2⟩, rfl⟩
theorem fits_point {e : List D} (h : FitsL tyP e) : ∃ p : Pt, e = p.cells := by
  cases h with
  | cons a1 h =>
    cases h with
    | cons a2 h =>
      cases h
      obtain ⟨n1, rfl⟩ := fits_int a1
      obtain ⟨x2, rfl⟩ := fits_terms a2
      exact ⟨⟨n1, x2⟩, rfl⟩
theorem fits_an {e : List D} (h : FitsL tyA e) : ∃ a : An, e = a.data := by
  cases h with
  | cons a1 h =>
    cases h with
    | cons a2 h =>
      cases h with
      | cons a3 h =>
        cases h with
        | cons a4 h =>
          cases h
          obtain ⟨x1, rfl⟩ := fits_terms a1
          obtain ⟨x2, rfl⟩ := fits_terms a2
          cases a3 with
          | slc a3 =>
            cases a4 with
            | slc a4 =>
              obtain ⟨x3, rfl⟩ := fits_all (g := In.cells) (fun e he => fits_instr he) a3
              obtain ⟨x4, rfl⟩ := fits_all (g := Pt.cells) (fun e he => fits_point he) a4
              exact ⟨⟨x1, x2, x3, x4⟩, rfl⟩
namespace fnExactOptimiseCode
theorem contract (H : Type) (enc : TypeId × Value → H) (W : World) (base : Nat) (args : Array Value) (ds gs : List (DataW H)) (before : List MemPlace)
    (hval : ∀ (j : Nat) t v, Tryz.f3.params[j]? = some t → args[j]? = some v → Value.okWide Tryz.prog W .any base t v)
    (hW : DataW.Whole enc Tryz.prog Tryz.f3.params.toList Rows.fnExactOptimiseCodeSpec.vars false W args.toList ds gs before) (hG : GOk Tryz.prog W okAll) :
    Calls Tryz.prog 3 args W fun e W' => ∃ v, e = .returned v ∧ Rows.fnExactOptimiseCodeSpec.post enc Tryz.prog Tryz.f3 false true false false W args v W' := by
  have hW' := hW
  have hlt := hW.lt
  obtain ⟨p, q, hA0, hV, rfl, hfz, hnd⟩ := hW
  have hA : DataW.TrodAll enc Tryz.prog W 0 (fun _ => true) true Tryz.f3.params.toList args.toList ds p := hA0
  have hAk := hA
  rw [Tryz.params3] at hA hval
  obtain ⟨v0, d0, rfl, rfl, h0⟩ := trodAll_one hA
  obtain ⟨rfl, rfl⟩ := trodVars_none hV
  obtain ⟨c0, rfl, z0⟩ := okWide_struct Tryz.underlying26 (hval 0 26 v0 rfl rfl)
  obtain ⟨u0, h0⟩ := h0
  obtain ⟨e0, f0, r0⟩ := open_ty of50 h0
  obtain ⟨y0, rfl⟩ := fits_an f0
  have hl : MC Tryz.prog maxLen 3 [aAn y0] [] (Plain (eB true)) := law1553 (L := maxLen) (by decide) (by decide)
  have hargs : RAs maxLen W okAll (fun _ => .nil) [aAn y0] [.agg c0] := .cons (.agg (vs := c0.toList) (rdl_rms r0 rfl)) .nil
  refine Calls.mono (hl.2 W (fun _ => .nil) [] okAll _ hG .nil List.nodup_nil (fun b hb => by cases hb) (fun _ _ _ _ h => by cases h) hargs) fun e W' he => ?_
  cases e with
  | returned v =>
    obtain ⟨res, H', m', F', ⟨rfl, rfl⟩, _, _, _, hres, hf, _, _⟩ := he
    have hv : v = .bool true := hres.bool_inv
    subst hv
    have hsame : ∀ b, b < W.heap.size → Same W W' b := fun b hb => hf.block b hb (by simp)
    refine ⟨_, rfl, post_of_old (pv := []) hW' (fun _ _ _ => trodAll_cons_mk (shut_bool Tryz.underlying4 _) trodAll_mk0) (fun sp hsp => ?_) (fun _ _ => rfl) rfl hf (ok_one (by kernel_rfl) rfl (okWide_bool_mk Tryz.underlying4 _))⟩
    refine DataW.TrodAll.respare kidsK fullK (by rw [Tryz.params3]; decide) (trodAll_same hsame (fun x hx => hlt x (by simpa using hx)) hAk) (fun x hx => hsp x (by simpa using hx))
  | _ => exact he.elim

set_option maxRecDepth 100000 in
theorem lifted (os : Os) (started : os.Started) (H : Type) (enc : TypeId × Value → H) :
    ReturnsInHanded {} Tryz.checked os 3 .any (fun w args => (Rows.fnExactOptimiseCodeSpec.pre enc Tryz.prog Tryz.f3 Rows.fnExactOptimiseCodeRow.domain false w args ∧ laidMetH Tryz.prog Rows.fnExactOptimiseCodeRow.laid w) ∧ sizedMet enc Tryz.prog Tryz.f3 (OpenSpec.ofChange Rows.fnExactOptimiseCodeSpec) false w args)
      (Rows.fnExactOptimiseCodeSpec.post enc Tryz.prog Tryz.f3 false true false false) := by
  refine wrapLaid (C := Tryz.checked) (X := fun w _ => laidMetH Tryz.prog Rows.fnExactOptimiseCodeRow.laid w) (fun _ _ _ hh h => h.of_heap hh) ownK started (by kernel_rfl) Tryz.func3
    (ChangeSpec.witness_shaped (enc := enc) (C := Tryz.checked) (os := os) (X := fun w _ => laidMetH Tryz.prog Rows.fnExactOptimiseCodeRow.laid w) false (World.laidAll Tryz.prog os Rows.fnExactOptimiseCodeRow.laid) #[.agg #[.slice none 0 0, .slice none 0 0, .slice none 0 0, .slice none 0 0]] 8 (World.laidAll_os _ _ _)
      (World.shaped_of_ZipB (by kernel_rfl) (by kernel_rfl)) (by kernel_rfl) (by kernel_rfl) (by kernel_rfl)
      (by rw [MakeChecks.laidMetH_plain _ _ _ (by kernel_rfl)]; exact laidMet_laidAll _ (by kernel_rfl) (by kernel_rfl))) ?_
  intro W base args ds gs before hval hW hL hS
  exact contract H enc W base args ds gs before hval hW (gok ((MakeChecks.laidMetH_plain _ _ _ (by kernel_rfl)).mp hL) (by simp [Rows.fnExactOptimiseCodeRow]) hS)

theorem holds : Rows.FnExactOptimiseCodeSaid :=
  OpenClaim.holds_of_wide 3 Tryz.f3 rfl rfl rfl rfl rfl rfl rfl ⟨rfl, rfl, rfl, rfl, rfl⟩ rfl rfl rfl rfl rfl (by kernel_rfl) Tryz.func3 (by kernel_rfl)
    (of_decide_eq_true (by kernel_rfl)) (by unfold Func.isWrapper; first | (rw [if_pos (by decide +kernel)]; kernel_rfl) | (rw [if_neg (by decide +kernel)]; exact ⟨rfl, rfl⟩))
    (fun os started H enc _ => lifted os started H enc)
theorem proved : Rows.FnExactOptimiseCodeCardSaid :=
  Claim7.holds_tied_plain_at .later [] [.data, .data, .data] true (true, "db334681b7be817534ad3841256ba1c095511b70f4059e1b70bc657b0c2213e0") false holds (fun _ h => by cases h) (by kernel_rfl) (fun _ h => by cases h) fnExactOptimiseCode_row_tie rfl ⟨rfl, rfl⟩ (by kernel_rfl) rfl
    (fun f fn hf hfn => by
      obtain rfl : f = 3 := Option.some.inj ((show Tryz.prog.funcNamed "loop.example/g01105/laws.FnExactOptimiseCode" = some 3 by kernel_rfl).symm.trans hf) |>.symm
      obtain rfl : fn = Tryz.f3 := (Option.some.inj (Tryz.func3.symm.trans hfn)).symm
      exact ⟨by kernel_rfl, fun j t ht => by
        rw [Tryz.params3] at ht
        have hm : t ∈ [26] := by simpa using Array.mem_of_getElem? ht
        have hall : ([26].all fun u => !Tryz.prog.wantsStandIn u) = true := by kernel_rfl
        exact (show Tryz.prog.wantsStandIn t = false by simpa using List.all_eq_true.1 hall t hm)⟩)
    (by kernel_rfl)
end fnExactOptimiseCode
end Go.Proofs.YtkendpichnklaaaGreatDoor
