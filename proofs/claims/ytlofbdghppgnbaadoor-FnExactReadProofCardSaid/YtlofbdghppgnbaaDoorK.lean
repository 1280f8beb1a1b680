/- What the program's reader of proofs returns is what the reference's returns: FnExactReadProof returns true for all arguments: the row and its tied card. -/
import Derived.Test.YtlofbdghppgnbaaDoorF
namespace Go.Al
open Go.Proofs
set_option linter.unusedVariables false
theorem nd_mul {n : Nd} (h : ndB n = true) : n.mul.length ≤ 20 := by
  unfold ndB at h
  split at h
  · simp only [mulB, Bool.and_eq_true, decide_eq_true_eq] at h
    have := h.2.2
    omega
  · split at h
    · simp only [Bool.and_eq_true, decide_eq_true_eq] at h
      omega
    · split at h
      · simp only [Bool.and_eq_true, decide_eq_true_eq] at h
        omega
      · cases h
theorem cnt_nds : ∀ {p : List Nd}, (∀ x ∈ p, ndB x = true) → (∀ x ∈ p, NdR x) → cnt nN p ≤ 33 * p.length
  | [], _, _ => by simp [cnt]
  | x :: r, h1, h2 => by
    have ih := cnt_nds (p := r) (fun y hy => h1 y (by simp [hy])) (fun y hy => h2 y (by simp [hy]))
    have q1 := nd_mul (h1 x (by simp))
    have q2 := ok_len (h2 x (by simp)).term
    have q3 : nN x = 3 + x.term.xs.length + x.mul.length := rfl
    simp only [cnt, List.map_cons, List.sum_cons, List.length_cons] at ih ⊢
    omega
theorem law1318a {s : Str} (hs : s.length ≤ 1048576) : MC Tryd.prog 1073741824 6 [aS8 s] [] (Plain (eB true)) := by
  have hS := c1327 (L := 1073741824) (by decide) (Nat.le_refl _) (t := s) (by decide) hs
  cases h : rP s with
  | none =>
    have hI := c1328 (L := 1073741824) (by decide) (Nat.le_refl _) (t := s) (by decide) hs
    rw [h] at hS hI
    exact c1318n (by decide) (Nat.le_refl _) hs hS hI (by decide)
  | some p =>
    rw [h] at hS
    refine c1318v (r := p) (by decide) (Nat.le_refl _) rfl ?_ hs hS (c1328y (by decide) (Nat.le_refl _) (by decide) hs h) (by decide)
    have hb : isB p = true := by rw [← isI_eq]; exact (rP_some h).2
    obtain ⟨_, q2, q3, _⟩ := isB_spec hb
    have h4 := cnt_nds q3 (rP_text (rP_some h).1).2
    show (1 : Int) + (cnt nN p : Nat) ≤ 1073741824
    omega
theorem law1318 {L : Nat} (h1 : 4096 ≤ L) (h2 : L ≤ 9223372036854775807) {s : Str} : MC Tryd.prog L 6 [aS8 s] [] (Plain (eB true)) := by
  by_cases hs : s.length ≤ 1048576
  · refine MC.facts ⟨_, _, Tryd.func6, by kernel_rfl, rfl⟩ fun hF => ?_
    refine MC.lift (L0 := 1073741824) rfl ?_ (law1318a hs)
    simp [As.fact, A.fact, M.fact, D.fact, bS_size] at hF ⊢
    omega
  · exact c1318l h1 h2 (by omega)
end Go.Al
namespace Go.Proofs.YtlofbdghppgnbaaDoor
open Go.ChangeShapes Go.WideShapes Go.ChangeAt Go.RowKit Go.Al
set_option linter.unusedVariables false
set_option maxRecDepth 10000
theorem of9 : TyOf Tryd.prog 9 [.str] := .str Tryd.underlying9
theorem fits_str {d : D} (h : Fits .str d) : ∃ s : Str, d = .str (bS s) := by
  cases h with
  | @str s => exact ⟨s.data.toList, by simp [bS]⟩
namespace fnExactReadProof
theorem contract (H : Type) (enc : TypeId × Value → H) (W : World) (base : Nat) (args : Array Value) (ds gs : List (DataW H)) (before : List MemPlace)
    (hval : ∀ (j : Nat) t v, Tryd.f6.params[j]? = some t → args[j]? = some v → Value.okWide Tryd.prog W .any base t v)
    (hW : DataW.Whole enc Tryd.prog Tryd.f6.params.toList Rows.fnExactReadProofSpec.vars false W args.toList ds gs before) (hG : GOk Tryd.prog W okAll) :
    Calls Tryd.prog 6 args W fun e W' => ∃ v, e = .returned v ∧ Rows.fnExactReadProofSpec.post enc Tryd.prog Tryd.f6 false true false false W args v W' := by
  have hW' := hW
  have hlt := hW.lt
  obtain ⟨p, q, hA0, hV, rfl, hfz, hnd⟩ := hW
  have hA : DataW.TrodAll enc Tryd.prog W 0 (fun _ => true) true Tryd.f6.params.toList args.toList ds p := hA0
  have hAk := hA
  rw [Tryd.params6] at hA hval
  obtain ⟨v0, d0, rfl, rfl, h0⟩ := trodAll_one hA
  obtain ⟨rfl, rfl⟩ := trodVars_none hV
  obtain ⟨a0, rfl⟩ := okWide_string Tryd.underlying9 (hval 0 9 v0 rfl rfl)
  obtain ⟨u0, h0⟩ := h0
  obtain ⟨e0, f0, r0⟩ := open_ty of9 h0
  obtain ⟨x0, rfl, g0⟩ := fits_one f0
  obtain ⟨y0, rfl⟩ := fits_str g0
  have hl : MC Tryd.prog maxLen 6 [aS8 y0] [] (Plain (eB true)) := law1318 (L := maxLen) (by decide) (by decide)
  have r0' : RMs maxLen W okAll (fun _ => .nil) [.d (.str (bS y0))] [.string a0] := rdl_rms r0 rfl
  have hargs : RAs maxLen W okAll (fun _ => .nil) [aS8 y0] [.string a0] := by
    cases r0' with
    | cons q0 w0 => exact .cons (.c q0) .nil
  refine Calls.mono (hl.2 W (fun _ => .nil) [] okAll _ hG .nil List.nodup_nil (fun b hb => by cases hb) (fun _ _ _ _ h => by cases h) hargs) fun e W' he => ?_
  cases e with
  | returned v =>
    obtain ⟨res, H', m', F', ⟨rfl, rfl⟩, _, _, _, hres, hf, _, _⟩ := he
    have hv : v = .bool true := hres.bool_inv
    subst hv
    have hsame : ∀ b, b < W.heap.size → Same W W' b := fun b hb => hf.block b hb (by simp)
    refine ⟨_, rfl, post_of_old (pv := []) hW' (fun _ _ _ => trodAll_cons_mk (shut_bool Tryd.underlying4 _) trodAll_mk0) (fun sp hsp => ?_) (fun _ _ => rfl) rfl hf (ok_one (by kernel_rfl) rfl (okWide_bool_mk Tryd.underlying4 _))⟩
    refine DataW.TrodAll.respare kidsK fullK (by rw [Tryd.params6]; decide) (trodAll_same hsame (fun x hx => hlt x (by simpa using hx)) hAk) (fun x hx => hsp x (by simpa using hx))
  | _ => exact he.elim

set_option maxRecDepth 100000 in
theorem lifted (os : Os) (started : os.Started) (H : Type) (enc : TypeId × Value → H) :
    ReturnsInHanded {} Tryd.checked os 6 .any (fun w args => (Rows.fnExactReadProofSpec.pre enc Tryd.prog Tryd.f6 Rows.fnExactReadProofRow.domain false w args ∧ laidMetH Tryd.prog Rows.fnExactReadProofRow.laid w) ∧ sizedMet enc Tryd.prog Tryd.f6 (OpenSpec.ofChange Rows.fnExactReadProofSpec) false w args)
      (Rows.fnExactReadProofSpec.post enc Tryd.prog Tryd.f6 false true false false) := by
  refine wrapLaid (C := Tryd.checked) (X := fun w _ => laidMetH Tryd.prog Rows.fnExactReadProofRow.laid w) (fun _ _ _ hh h => h.of_heap hh) ownK started (by kernel_rfl) Tryd.func6
    (ChangeSpec.witness_shaped (enc := enc) (C := Tryd.checked) (os := os) (X := fun w _ => laidMetH Tryd.prog Rows.fnExactReadProofRow.laid w) false (World.laidAll Tryd.prog os Rows.fnExactReadProofRow.laid) #[.string ⟨#[]⟩] 8 (World.laidAll_os _ _ _)
      (World.shaped_of_ZipB (by kernel_rfl) (by kernel_rfl)) (by kernel_rfl) (by kernel_rfl) (by kernel_rfl)
      (by rw [MakeChecks.laidMetH_plain _ _ _ (by kernel_rfl)]; exact laidMet_laidAll _ (by kernel_rfl) (by kernel_rfl))) ?_
  intro W base args ds gs before hval hW hL hS
  exact contract H enc W base args ds gs before hval hW (gok4 ((MakeChecks.laidMetH_plain _ _ _ (by kernel_rfl)).mp hL) (by simp [Rows.fnExactReadProofRow]) ((MakeChecks.laidMetH_plain _ _ _ (by kernel_rfl)).mp hL).tail.tail.tail.tail ((MakeChecks.laidMetH_plain _ _ _ (by kernel_rfl)).mp hL).tail.tail.tail.tail.tail hS)

theorem holds : Rows.FnExactReadProofSaid :=
  OpenClaim.holds_of_wide 6 Tryd.f6 rfl rfl rfl rfl rfl rfl rfl ⟨rfl, rfl, rfl, rfl, rfl⟩ rfl rfl rfl rfl rfl (by kernel_rfl) Tryd.func6 (by kernel_rfl)
    (of_decide_eq_true (by kernel_rfl)) (by unfold Func.isWrapper; first | (rw [if_pos (by decide +kernel)]; kernel_rfl) | (rw [if_neg (by decide +kernel)]; exact ⟨rfl, rfl⟩))
    (fun os started H enc _ => lifted os started H enc)
theorem proved : Rows.FnExactReadProofCardSaid :=
  Claim7.holds_tied_plain_at .later [] [.data, .data, .data, .data, .sentinel, .sentinel, .pinned] true (true, "6cca72b2a944904bbfb069953a6e372bcad73a662351e532308558e6d10e83e5") true holds (fun _ h => by cases h) (by kernel_rfl) (fun _ h => by cases h) fnExactReadProof_row_tie rfl ⟨rfl, rfl⟩ (by kernel_rfl) rfl
    (fun f fn hf hfn => by
      obtain rfl : f = 6 := Option.some.inj ((show Tryd.prog.funcNamed "loop.example/g01105/laws.FnExactReadProof" = some 6 by kernel_rfl).symm.trans hf) |>.symm
      obtain rfl : fn = Tryd.f6 := (Option.some.inj (Tryd.func6.symm.trans hfn)).symm
      exact ⟨by kernel_rfl, fun j t ht => by
        rw [Tryd.params6] at ht
        have hm : t ∈ [9] := by simpa using Array.mem_of_getElem? ht
        have hall : ([9].all fun u => !Tryd.prog.wantsStandIn u) = true := by kernel_rfl
        exact (show Tryd.prog.wantsStandIn t = false by simpa using List.all_eq_true.1 hall t hm)⟩)
    (by kernel_rfl)
end fnExactReadProof
end Go.Proofs.YtlofbdghppgnbaaDoor
