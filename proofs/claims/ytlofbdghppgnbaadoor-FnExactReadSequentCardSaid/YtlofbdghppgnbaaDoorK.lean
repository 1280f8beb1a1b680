/- What the program's reader of sequents returns is what the reference's returns: FnExactReadSequent returns true for all arguments: the row and its tied card. -/
import Derived.Test.YtlofbdghppgnbaaDoorE
namespace Go.Al
open Go.Proofs
set_option linter.unusedVariables false
theorem cnt_tok : ∀ {l : List Tm}, (∀ t ∈ l, t.ok = true) → cnt nT l ≤ 11 * l.length
  | [], _ => by simp [cnt]
  | t :: r, hl => by
    have h1 := cnt_tok (l := r) fun t ht => hl t (by simp [ht])
    have h2 := ok_len (hl t (by simp))
    have h3 : nT t = 1 + t.xs.length := rfl
    simp only [cnt, List.map_cons, List.sum_cons, List.length_cons] at h1 ⊢
    omega
theorem law1316a {s : Str} (hs : s.length ≤ 1048576) : MC Tryd.prog 1073741824 4 [aS8 s] [] (Plain (eB true)) := by
  have hS := c1324 (L := 1073741824) (by decide) (Nat.le_refl _) hs
  rw [← show rdT = rsT from funext rd_eq, ← rq_eq rdT_iff tS_ch s] at hS
  cases h : rqI rdT s with
  | none =>
    have hI := c1323 (L := 1073741824) (by decide) (Nat.le_refl _) hs
    rw [h] at hS hI
    exact c1316n (by decide) (Nat.le_refl _) hs hS hI (by decide)
  | some x =>
    obtain ⟨fs, g⟩ := x
    rw [h] at hS
    obtain ⟨h13, hok, hgo, _⟩ := (rqI_iff rdT_iff tS_ch).1 h
    have h4 := cnt_tok hok
    have h5 := ok_len hgo
    refine c1316v (r := ⟨fs, g⟩) (by decide) (Nat.le_refl _) ?_ hs hS (c1323y (by decide) (Nat.le_refl _) hs h) (by decide)
    show (1 : Int) + (cnt nT fs : Nat) + (g.xs.length : Nat) ≤ 1073741824
    omega
theorem law1316 {L : Nat} (h1 : 4096 ≤ L) (h2 : L ≤ 9223372036854775807) {s : Str} : MC Tryd.prog L 4 [aS8 s] [] (Plain (eB true)) := by
  by_cases hs : s.length ≤ 1048576
  · refine MC.facts ⟨_, _, Tryd.func4, by kernel_rfl, rfl⟩ fun hF => ?_
    refine MC.lift (L0 := 1073741824) rfl ?_ (law1316a hs)
    simp [As.fact, A.fact, M.fact, D.fact, bS_size] at hF ⊢
    omega
  · exact c1316l h1 h2 (by omega)
end Go.Al
namespace Go.Proofs.YtlofbdghppgnbaaDoor
open Go.ChangeShapes Go.WideShapes Go.ChangeAt Go.RowKit Go.Al
set_option linter.unusedVariables false
set_option maxRecDepth 10000
theorem of9 : TyOf Tryd.prog 9 [.str] := .str Tryd.underlying9
theorem fits_str {d : D} (h : Fits .str d) : ∃ s : Str, d = .str (bS s) := by
  cases h with
  | @str s => exact ⟨s.data.toList, by simp [bS]⟩
namespace fnExactReadSequent
theorem contract (H : Type) (enc : TypeId × Value → H) (W : World) (base : Nat) (args : Array Value) (ds gs : List (DataW H)) (before : List MemPlace)
    (hval : ∀ (j : Nat) t v, Tryd.f4.params[j]? = some t → args[j]? = some v → Value.okWide Tryd.prog W .any base t v)
    (hW : DataW.Whole enc Tryd.prog Tryd.f4.params.toList Rows.fnExactReadSequentSpec.vars false W args.toList ds gs before) (hG : GOk Tryd.prog W okAll) :
    Calls Tryd.prog 4 args W fun e W' => ∃ v, e = .returned v ∧ Rows.fnExactReadSequentSpec.post enc Tryd.prog Tryd.f4 false true false false W args v W' := by
  have hW' := hW
  have hlt := hW.lt
  obtain ⟨p, q, hA0, hV, rfl, hfz, hnd⟩ := hW
  have hA : DataW.TrodAll enc Tryd.prog W 0 (fun _ => true) true Tryd.f4.params.toList args.toList ds p := hA0
  have hAk := hA
  rw [Tryd.params4] at hA hval
  obtain ⟨v0, d0, rfl, rfl, h0⟩ := trodAll_one hA
  obtain ⟨rfl, rfl⟩ := trodVars_none hV
  obtain ⟨a0, rfl⟩ := okWide_string Tryd.underlying9 (hval 0 9 v0 rfl rfl)
  obtain ⟨u0, h0⟩ := h0
  obtain ⟨e0, f0, r0⟩ := open_ty of9 h0
  obtain ⟨x0, rfl, g0⟩ := fits_one f0
  obtain ⟨y0, rfl⟩ := fits_str g0
  have hl : MC Tryd.prog maxLen 4 [aS8 y0] [] (Plain (eB true)) := law1316 (L := maxLen) (by decide) (by decide)
  have r0' : RMs maxLen W okAll (fun _ => .nil) [.d (.str (bS y0))] [.string a0] := rdl_rms r0 rfl
  have hargs : RAs maxLen W okAll (fun _ => .nil) [aS8 y0] [.string a0] := by
    cases r0' with
    | cons q0 w0 => exact .cons (.c q0) .nil
  refine Calls.mono (hl.2 W (fun _ => .nil) [] okAll _ hG .nil List.nodup_nil (fun b hb => by cases hb) (fun _ _ _ _ h => by cases h) hargs) fun e W' he => ?_
  cases e with
  | returned v =>
    obtain ⟨res, H', m', F', ⟨rfl, rfl⟩, _, _, _, hres, hf, _, _⟩ := he
    have hv : v = .bool true := hres.bool_inv
    subst hv
    have hsame : ∀ b, b < W.heap.size → Same W W' b := fun b hb => hf.block b hb (by simp)
    refine ⟨_, rfl, post_of_old (pv := []) hW' (fun _ _ _ => trodAll_cons_mk (shut_bool Tryd.underlying4 _) trodAll_mk0) (fun sp hsp => ?_) (fun _ _ => rfl) rfl hf (ok_one (by kernel_rfl) rfl (okWide_bool_mk Tryd.underlying4 _))⟩
    refine DataW.TrodAll.respare kidsK fullK (by rw [Tryd.params4]; decide) (trodAll_same hsame (fun x hx => hlt x (by simpa using hx)) hAk) (fun x hx => hsp x (by simpa using hx))
  | _ => exact he.elim

set_option maxRecDepth 100000 in
theorem lifted (os : Os) (started : os.Started) (H : Type) (enc : TypeId × Value → H) :
    ReturnsInHanded {} Tryd.checked os 4 .any (fun w args => (Rows.fnExactReadSequentSpec.pre enc Tryd.prog Tryd.f4 Rows.fnExactReadSequentRow.domain false w args ∧ laidMetH Tryd.prog Rows.fnExactReadSequentRow.laid w) ∧ sizedMet enc Tryd.prog Tryd.f4 (OpenSpec.ofChange Rows.fnExactReadSequentSpec) false w args)
      (Rows.fnExactReadSequentSpec.post enc Tryd.prog Tryd.f4 false true false false) := by
  refine wrapLaid (C := Tryd.checked) (X := fun w _ => laidMetH Tryd.prog Rows.fnExactReadSequentRow.laid w) (fun _ _ _ hh h => h.of_heap hh) ownK started (by kernel_rfl) Tryd.func4
    (ChangeSpec.witness_shaped (enc := enc) (C := Tryd.checked) (os := os) (X := fun w _ => laidMetH Tryd.prog Rows.fnExactReadSequentRow.laid w) false (World.laidAll Tryd.prog os Rows.fnExactReadSequentRow.laid) #[.string ⟨#[]⟩] 8 (World.laidAll_os _ _ _)
      (World.shaped_of_ZipB (by kernel_rfl) (by kernel_rfl)) (by kernel_rfl) (by kernel_rfl) (by kernel_rfl)
      (by rw [MakeChecks.laidMetH_plain _ _ _ (by kernel_rfl)]; exact laidMet_laidAll _ (by kernel_rfl) (by kernel_rfl))) ?_
  intro W base args ds gs before hval hW hL hS
  exact contract H enc W base args ds gs before hval hW (gok ((MakeChecks.laidMetH_plain _ _ _ (by kernel_rfl)).mp hL) (by simp [Rows.fnExactReadSequentRow]) hS)

theorem holds : Rows.FnExactReadSequentSaid :=
  OpenClaim.holds_of_wide 4 Tryd.f4 rfl rfl rfl rfl rfl rfl rfl ⟨rfl, rfl, rfl, rfl, rfl⟩ rfl rfl rfl rfl rfl (by kernel_rfl) Tryd.func4 (by kernel_rfl)
    (of_decide_eq_true (by kernel_rfl)) (by unfold Func.isWrapper; first | (rw [if_pos (by decide +kernel)]; kernel_rfl) | (rw [if_neg (by decide +kernel)]; exact ⟨rfl, rfl⟩))
    (fun os started H enc _ => lifted os started H enc)
theorem proved : Rows.FnExactReadSequentCardSaid :=
  Claim7.holds_tied_plain_at .later [] [.data, .data, .data, .data, .pinned] true (true, "6cca72b2a944904bbfb069953a6e372bcad73a662351e532308558e6d10e83e5") true holds (fun _ h => by cases h) (by kernel_rfl) (fun _ h => by cases h) fnExactReadSequent_row_tie rfl ⟨rfl, rfl⟩ (by kernel_rfl) rfl
    (fun f fn hf hfn => by
      obtain rfl : f = 4 := Option.some.inj ((show Tryd.prog.funcNamed "loop.example/g01105/laws.FnExactReadSequent" = some 4 by kernel_rfl).symm.trans hf) |>.symm
      obtain rfl : fn = Tryd.f4 := (Option.some.inj (Tryd.func4.symm.trans hfn)).symm
      exact ⟨by kernel_rfl, fun j t ht => by
        rw [Tryd.params4] at ht
        have hm : t ∈ [9] := by simpa using Array.mem_of_getElem? ht
        have hall : ([9].all fun u => !Tryd.prog.wantsStandIn u) = true := by kernel_rfl
        exact (show Tryd.prog.wantsStandIn t = false by simpa using List.all_eq_true.1 hall t hm)⟩)
    (by kernel_rfl)
end fnExactReadSequent
end Go.Proofs.YtlofbdghppgnbaaDoor
