/- A program whose conditions are proved, run from a state in which its precondition holds, does not leave the cells and fails no assertion, and where it ends, its postcondition holds: FnSoundSource returns true for all arguments: no condition. -/
import Derived.Test.YtgaahipcjhjlbaaGreatY
import Derived.Test.YtgaahipcjhjlbaaGreatH
namespace Go.Al
open Go.Proofs
set_option linter.unusedVariables false
theorem bys_range {L : Nat} : ∀ {xs : List Int}, Dss.fact L (List.map (fun n => [D.int IntKind.u8 n]) xs) → ∀ n ∈ xs, 0 ≤ n ∧ n ≤ 255
  | [], _, n, hn => by cases hn
  | x :: xs, h, n, hn => by
    simp only [List.map_cons, Dss.fact, Ds.fact, D.fact] at h
    rcases List.mem_cons.1 hn with rfl | hn
    · exact h.1.1
    · exact bys_range h.2 n hn
theorem law1314t {L : Nat} (h1 : 4096 ≤ L) (h2 : L ≤ 9223372036854775807) {xs ys : List Int} : MC Tryz.prog L 4 [.c (.d (bys xs)), .c (.d (bys ys))] [] (Plain (eB true)) := by
  refine MC.facts ⟨_, _, Tryz.func4, by kernel_rfl, rfl⟩ fun hF => ?_
  simp only [As.fact, A.fact, M.fact, D.fact] at hF
  exact law1314 h1 h2 (bys_range hF.1.2) (bys_range hF.2.1.2)
end Go.Al
namespace Go.Proofs.YtgaahipcjhjlbaaGreat
open Go.ChangeShapes Go.WideShapes Go.ChangeAt Go.RowKit Go.Al
set_option linter.unusedVariables false
set_option maxRecDepth 10000
theorem of5 : TyOf Tryz.prog 5 [.int .u8] := .int Tryz.underlying5
theorem of900 : TyOf Tryz.prog 22 [.slc [.int .u8]] := .slc Tryz.underlying22 of5 (by kernel_rfl) (by decide)
theorem fits_bys {d : D} (h : Fits (.slc [.int .u8]) d) : ∃ xs, d = bys xs := by
  cases h with
  | slc h =>
    obtain ⟨xs, rfl⟩ := fits_all (g := fun n => [D.int .u8 n]) (fun e he => by
      cases he with
      | cons h1 h2 =>
        cases h2
        cases h1
        exact ⟨_, rfl⟩) h
    exact ⟨xs, rfl⟩
namespace fnSoundSource
theorem contract (H : Type) (enc : TypeId × Value → H) (W : World) (base : Nat) (args : Array Value) (ds gs : List (DataW H)) (before : List MemPlace)
    (hval : ∀ (j : Nat) t v, Tryz.f4.params[j]? = some t → args[j]? = some v → Value.okWide Tryz.prog W .any base t v)
    (hW : DataW.Whole enc Tryz.prog Tryz.f4.params.toList Rows.fnSoundSourceSpec.vars false W args.toList ds gs before) :
    Calls Tryz.prog 4 args W fun e W' => ∃ v, e = .returned v ∧ Rows.fnSoundSourceSpec.post enc Tryz.prog Tryz.f4 false true false false W args v W' := by
  have hW' := hW
  have hlt := hW.lt
  obtain ⟨p, q, hA0, hV, rfl, hfz, hnd⟩ := hW
  have hA : DataW.TrodAll enc Tryz.prog W 0 (fun _ => true) true Tryz.f4.params.toList args.toList ds p := hA0
  have hAk := hA
  rw [Tryz.params4] at hA hval
  obtain ⟨v0, v1, d0, d1, p0, p1, rfl, rfl, rfl, h0, h1⟩ := trodAll_two hA
  obtain ⟨rfl, rfl⟩ := trodVars_none hV
  obtain ⟨a0, l0, k0, rfl⟩ := okWide_slice Tryz.underlying22 (hval 0 22 v0 rfl rfl)
  obtain ⟨a1, l1, k1, rfl⟩ := okWide_slice Tryz.underlying22 (hval 1 22 v1 rfl rfl)
  obtain ⟨u0, h0⟩ := h0
  obtain ⟨u1, h1⟩ := h1
  obtain ⟨e0, f0, r0⟩ := open_ty of900 h0
  obtain ⟨e1, f1, r1⟩ := open_ty of900 h1
  obtain ⟨x0, rfl, g0⟩ := fits_one f0
  obtain ⟨y0, rfl⟩ := fits_bys g0
  obtain ⟨x1, rfl, g1⟩ := fits_one f1
  obtain ⟨y1, rfl⟩ := fits_bys g1
  have hl : MC Tryz.prog maxLen 4 [.c (.d (bys y0)), .c (.d (bys y1))] [] (Plain (eB true)) := law1314t (L := maxLen) (by decide) (by decide)
  have r0' : RMs maxLen W okAll (fun _ => .nil) [.d (bys y0)] [.slice a0 l0 k0] := rdl_rms r0 rfl
  have r1' : RMs maxLen W okAll (fun _ => .nil) [.d (bys y1)] [.slice a1 l1 k1] := rdl_rms r1 rfl
  have hargs : RAs maxLen W okAll (fun _ => .nil) [.c (.d (bys y0)), .c (.d (bys y1))] [.slice a0 l0 k0, .slice a1 l1 k1] := by
    cases r0' with
    | cons q0 w0 =>
      cases r1' with
      | cons q1 w1 =>
        exact (.cons (.c q0) (.cons (.c q1) .nil))
  refine Calls.mono (hl.2 W (fun _ => .nil) [] okAll _ .nil List.nodup_nil (fun b hb => by cases hb) (fun _ _ _ _ h => by cases h) hargs) fun e W' he => ?_
  cases e with
  | returned v =>
    obtain ⟨res, H', m', F', ⟨rfl, rfl⟩, _, _, _, hres, hf, _, _⟩ := he
    have hv : v = .bool true := hres.bool_inv
    subst hv
    have hsame : ∀ b, b < W.heap.size → Same W W' b := fun b hb => hf.block b hb (by simp)
    refine ⟨_, rfl, post_of_old (pv := []) hW' (fun _ _ _ => trodAll_cons_mk (shut_bool Tryz.underlying4 _) trodAll_mk0) (fun sp hsp => ?_) (fun _ _ => rfl) rfl hf (ok_one (by kernel_rfl) rfl (okWide_bool_mk Tryz.underlying4 _))⟩
    refine DataW.TrodAll.respare kidsK fullK (by rw [Tryz.params4]; decide) (trodAll_same hsame (fun x hx => hlt x (by simpa using hx)) hAk) (fun x hx => hsp x (by simpa using hx))
  | _ => exact he.elim

set_option maxRecDepth 100000 in
theorem lifted (os : Os) (started : os.Started) (H : Type) (enc : TypeId × Value → H) :
    ReturnsInHanded {} Tryz.checked os 4 .any (Rows.fnSoundSourceSpec.pre6 enc Tryz.prog Tryz.f4 Rows.fnSoundSourceRow.domain false) (Rows.fnSoundSourceSpec.post enc Tryz.prog Tryz.f4 false true false false) := by
  refine returnsInHanded_of_change (C := Tryz.checked) ownK started (by kernel_rfl) Tryz.func4
    (ChangeSpec.witness6 (enc := enc) (C := Tryz.checked) false ⟨#[], #[.slice none 0 0, .slice none 0 0], []⟩ 8 (by kernel_rfl) (by kernel_rfl) (by kernel_rfl) (by kernel_rfl)) ?_
  intro W base args ds gs before hval hW _ _
  exact contract H enc W base args ds gs before hval hW

theorem proved : Rows.FnSoundSourceSaid :=
  OpenClaim.holds_of_wide 4 Tryz.f4 rfl rfl rfl rfl rfl rfl rfl ⟨rfl, rfl, rfl, rfl, rfl⟩ rfl rfl rfl rfl rfl (by kernel_rfl) Tryz.func4 (by kernel_rfl)
    (of_decide_eq_true (by kernel_rfl)) (by unfold Func.isWrapper; first | (rw [if_pos (by decide +kernel)]; kernel_rfl) | (rw [if_neg (by decide +kernel)]; exact ⟨rfl, rfl⟩))
    (fun os started H enc _ => lifted os started H enc)
end fnSoundSource
end Go.Proofs.YtgaahipcjhjlbaaGreat
