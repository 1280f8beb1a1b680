/- JoinProofs of the program returns what the reference's returns, for all arguments: no condition. -/
import Derived.Carry
import Derived.Test.YthceepaoikcceaaP
namespace Go.Proofs.Ythceepaoikcceaa
open Go.ChangeShapes Go.WideShapes Go.ChangeAt Go.RowKit Go.Al
set_option linter.unusedVariables false
set_option maxRecDepth 10000
namespace fnExactJoinProofs
theorem contract (H : Type) (enc : TypeId × Value → H) (W : World) (base : Nat) (args : Array Value) (ds gs : List (DataW H)) (before : List MemPlace)
    (hval : ∀ (j : Nat) t v, Try.f5.params[j]? = some t → args[j]? = some v → Value.okWide Try.prog W .any base t v)
    (hW : DataW.Whole enc Try.prog Try.f5.params.toList Rows.fnExactJoinProofsSpec.vars false W args.toList ds gs before) :
    Calls Try.prog 5 args W fun e W' => ∃ v, e = .returned v ∧ Rows.fnExactJoinProofsSpec.post enc Try.prog Try.f5 false true false false W args v W' := by
  have hW' := hW
  have hlt := hW.lt
  obtain ⟨p, q, hA0, hV, rfl, hfz, hnd⟩ := hW
  have hA : DataW.TrodAll enc Try.prog W 0 (fun _ => true) true Try.f5.params.toList args.toList ds p := hA0
  have hAk := hA
  rw [Try.params5] at hA hval
  obtain ⟨v0, v1, v2, v3, d0, d1, d2, d3, p0, p1, p2, p3, rfl, rfl, rfl, h0, h1, h2, h3⟩ := trodAll_four hA
  obtain ⟨rfl, rfl⟩ := trodVars_none hV
  obtain ⟨c0, rfl, z0⟩ := okWide_struct Try.underlying27 (hval 0 27 v0 rfl rfl)
  obtain ⟨c1, rfl, z1⟩ := okWide_struct Try.underlying25 (hval 1 25 v1 rfl rfl)
  obtain ⟨a2, l2, k2, rfl⟩ := okWide_slice Try.underlying28 (hval 2 28 v2 rfl rfl)
  obtain ⟨a3, l3, k3, rfl⟩ := okWide_slice Try.underlying28 (hval 3 28 v3 rfl rfl)
  obtain ⟨u0, h0⟩ := h0
  obtain ⟨u1, h1⟩ := h1
  obtain ⟨u2, h2⟩ := h2
  obtain ⟨u3, h3⟩ := h3
  obtain ⟨e0, f0, r0⟩ := open_ty of65 h0
  obtain ⟨e1, f1, r1⟩ := open_ty of63 h1
  obtain ⟨e2, f2, r2⟩ := open_ty of66 h2
  obtain ⟨e3, f3, r3⟩ := open_ty of66 h3
  obtain ⟨y0, rfl⟩ := fits_seq f0
  obtain ⟨y1, rfl⟩ := fits_term f1
  obtain ⟨x2, rfl, g2⟩ := fits_one f2
  obtain ⟨y2, rfl⟩ := fits_nodes g2
  obtain ⟨x3, rfl, g3⟩ := fits_one f3
  obtain ⟨y3, rfl⟩ := fits_nodes g3
  have hl : MC Try.prog maxLen 5 [aSq y0, aTm' y1, ands y2, ands y3] [] (Plain (eB true)) := law1002 (L := maxLen) (by decide) (by decide)
  have r2' : RMs maxLen W okAll (fun _ => .nil) [.d (nds y2)] [.slice a2 l2 k2] := rdl_rms r2 rfl
  have r3' : RMs maxLen W okAll (fun _ => .nil) [.d (nds y3)] [.slice a3 l3 k3] := rdl_rms r3 rfl
  have hargs : RAs maxLen W okAll (fun _ => .nil) [aSq y0, aTm' y1, ands y2, ands y3] [.agg c0, .agg c1, .slice a2 l2 k2, .slice a3 l3 k3] := by
    cases r2' with
    | cons q2 w2 =>
      cases r3' with
      | cons q3 w3 =>
        exact (.cons (.agg (vs := c0.toList) (rdl_rms r0 rfl)) (.cons (.agg (vs := c1.toList) (rdl_rms r1 rfl)) (.cons (.c q2) (.cons (.c q3) .nil))))
  refine Calls.mono (hl.2 W (fun _ => .nil) [] okAll _ .nil List.nodup_nil (fun b hb => by cases hb) (fun _ _ _ _ h => by cases h) hargs) fun e W' he => ?_
  cases e with
  | returned v =>
    obtain ⟨res, H', m', F', ⟨rfl, rfl⟩, _, _, _, hres, hf, _, _⟩ := he
    have hv : v = .bool true := hres.bool_inv
    subst hv
    have hsame : ∀ b, b < W.heap.size → Same W W' b := fun b hb => hf.block b hb (by simp)
    refine ⟨_, rfl, post_of_old (pv := []) hW' (fun _ _ _ => trodAll_cons_mk (shut_bool Try.underlying4 _) trodAll_mk0) (fun sp hsp => ?_) (fun _ _ => rfl) rfl hf (ok_one (by kernel_rfl) rfl (okWide_bool_mk Try.underlying4 _))⟩
    refine DataW.TrodAll.respare kidsK fullK (by rw [Try.params5]; decide) (trodAll_same hsame (fun x hx => hlt x (by simpa using hx)) hAk) (fun x hx => hsp x (by simpa using hx))
  | _ => exact he.elim

set_option maxRecDepth 100000 in
theorem lifted (os : Os) (started : os.Started) (H : Type) (enc : TypeId × Value → H) :
    ReturnsInHanded {} Try.checked os 5 .any (Rows.fnExactJoinProofsSpec.pre6 enc Try.prog Try.f5 Rows.fnExactJoinProofsRow.domain false) (Rows.fnExactJoinProofsSpec.post enc Try.prog Try.f5 false true false false) := by
  refine returnsInHanded_of_change (C := Try.checked) ownK started (by kernel_rfl) Try.func5
    (ChangeSpec.witness6 (enc := enc) (C := Try.checked) false ⟨#[], #[.agg #[.slice none 0 0, .int .i64 0, .slice none 0 0], .agg #[.int .i64 0, .slice none 0 0], .slice none 0 0, .slice none 0 0], []⟩ 8 (by kernel_rfl) (by kernel_rfl) (by kernel_rfl) (by kernel_rfl)) ?_
  intro W base args ds gs before hval hW _ _
  exact contract H enc W base args ds gs before hval hW

theorem proved : Rows.FnExactJoinProofsSaid :=
  OpenClaim.holds_of_wide 5 Try.f5 rfl rfl rfl rfl rfl rfl rfl ⟨rfl, rfl, rfl, rfl, rfl⟩ rfl rfl rfl rfl rfl (by kernel_rfl) Try.func5 (by kernel_rfl)
    (of_decide_eq_true (by kernel_rfl)) (by unfold Func.isWrapper; first | (rw [if_pos (by decide +kernel)]; kernel_rfl) | (rw [if_neg (by decide +kernel)]; exact ⟨rfl, rfl⟩))
    (fun os started H enc _ => lifted os started H enc)
end fnExactJoinProofs
end Go.Proofs.Ythceepaoikcceaa
