/- What the program's reader of packages returns is what the reference's returns: FnExactReadPackage returns true for all arguments: the row and its tied card. -/
import Derived.Test.YtdlhjplhmmfnnaaGreatDoorJ
namespace Go.Al
open Go.Proofs
set_option linter.unusedVariables false
theorem cnt_tms : ∀ {fs : List Tm}, (∀ t ∈ fs, t.term = true) → cnt nT fs ≤ 11 * fs.length
  | [], _ => by simp [cnt]
  | t :: r, h => by
    have h1 := cnt_tms (fs := r) fun x hx => h x (List.mem_cons_of_mem _ hx)
    have h2 := h t (List.mem_cons_self ..)
    unfold Tm.term at h2
    simp only [Bool.and_eq_true] at h2
    have h3 := ok_len h2.1
    have h4 : nT t = 1 + t.xs.length := rfl
    simp only [cnt, List.map_cons, List.sum_cons, List.length_cons] at h1 ⊢
    omega
theorem cnt_trm {fs : List Tm} (h : terms fs 6 = true) : cnt nT fs ≤ 66 := by
  obtain ⟨h1, h2⟩ := terms_sp (n := 6) h
  have := cnt_tms h1
  omega
theorem cnt_cod : ∀ {c : List In}, cnt nIn c ≤ 2 * c.length
  | [] => by simp [cnt]
  | x :: r => by
    have h1 := cnt_cod (c := r)
    have h4 : nIn x = 2 := rfl
    simp only [cnt, List.map_cons, List.sum_cons, List.length_cons] at h1 ⊢
    omega
theorem cnt_pt : ∀ {ps : List Pt}, (∀ p ∈ ps, terms p.fs 6 = true) → cnt nP ps ≤ 67 * ps.length
  | [], _ => by simp [cnt]
  | p :: r, h => by
    have h1 := cnt_pt (ps := r) fun x hx => h x (List.mem_cons_of_mem _ hx)
    have h2 := cnt_trm (h p (List.mem_cons_self ..))
    have h4 : nP p = 1 + cnt nT p.fs := rfl
    simp only [cnt, List.map_cons, List.sum_cons, List.length_cons] at h1 h2 h4 ⊢
    omega
theorem nd_mul {n : Nd} (h : ndB n = true) : n.mul.length ≤ 20 := (ndB_R h).2.1
theorem cnt_nds : ∀ {p : List Nd}, (∀ x ∈ p, ndB x = true) → cnt nN p ≤ 33 * p.length
  | [], _ => by simp [cnt]
  | x :: r, h1 => by
    have ih := cnt_nds (p := r) (fun y hy => h1 y (by simp [hy]))
    have q1 := nd_mul (h1 x (by simp))
    have q2 := ok_len (ndB_R (h1 x (by simp))).1.term
    have q3 : nN x = 3 + x.term.xs.length + x.mul.length := rfl
    simp only [cnt, List.map_cons, List.sum_cons, List.length_cons] at ih ⊢
    omega
theorem cnt_nls : ∀ {ps : List (List Nd)}, (∀ q ∈ ps, isB q = true) → cnt nNl ps ≤ 1980 * ps.length
  | [], _ => by simp [cnt]
  | q :: r, h => by
    have ih := cnt_nls (ps := r) fun x hx => h x (List.mem_cons_of_mem _ hx)
    obtain ⟨_, g2, g3⟩ := isB_nd (h q (List.mem_cons_self ..))
    have q1 := cnt_nds g3
    have q3 : nNl q = cnt nN q := rfl
    simp only [cnt, List.map_cons, List.sum_cons, List.length_cons] at ih q1 q3 ⊢
    omega
theorem cnt_pk {p : Pk} (h : pkB p = true) : 1 + cnt nT p.an.pre + cnt nT p.an.post + cnt nIn p.an.code + cnt nP p.an.pts + cnt nNl p.pf ≤ (1073741824 : Int) := by
  obtain ⟨_, h2, h3, h4⟩ := pkB_iff.1 h
  have q2 := cnt_nls h4
  obtain ⟨_, g1, _, g3, g4, g5, g6⟩ := annB_sp h2
  have r1 := cnt_trm g3
  have r2 := cnt_trm g4
  have r3 := cnt_cod (c := p.an.code)
  have r4 := cnt_pt (ps := p.an.pts) fun x hx => by
    obtain ⟨i, hi, rfl⟩ := List.getElem_of_mem hx
    rw [← getD_lt hi]; exact g6 i hi
  omega
theorem law1467a {s : Str} (hs : s.length ≤ 1048576) : MC Tryz.prog 1073741824 3 [aS8 s] [] (Plain (eB true)) := by
  have hS := c1468 (L := 1073741824) (by decide) (Nat.le_refl _) (s := s) (by decide) hs
  have hI := c1469 (L := 1073741824) (by decide) (Nat.le_refl _) (s := s) (by decide) hs
  cases h : rdK s with
  | none =>
    rw [h] at hS hI
    exact c1467w (r := pk0) (by decide) (Nat.le_refl _) (by decide) hs hS hI (by decide)
  | some a =>
    rw [h] at hS hI
    exact c1467v (r := a) (by decide) (Nat.le_refl _) (cnt_pk (rdK_valid h)) hs hS hI (by decide)
theorem law1467 {L : Nat} (h1 : 4096 ≤ L) (h2 : L ≤ 9223372036854775807) {s : Str} : MC Tryz.prog L 3 [aS8 s] [] (Plain (eB true)) := by
  by_cases hs : s.length ≤ 1048576
  · refine MC.facts ⟨_, _, Tryz.func3, by kernel_rfl, rfl⟩ fun hF => ?_
    refine MC.lift (L0 := 1073741824) rfl ?_ (law1467a hs)
    simp [As.fact, A.fact, M.fact, D.fact, bS_size] at hF ⊢
    omega
  · exact c1467l h1 h2 (by omega)
end Go.Al
namespace Go.Proofs.YtdlhjplhmmfnnaaGreatDoor
open Go.ChangeShapes Go.WideShapes Go.ChangeAt Go.RowKit Go.Al
set_option linter.unusedVariables false
set_option maxRecDepth 10000
theorem of9 : TyOf Tryz.prog 9 [.str] := .str Tryz.underlying9
theorem fits_str {d : D} (h : Fits .str d) : ∃ s : Str, d = .str (bS s) := by
  cases h with
  | @str s => exact ⟨s.data.toList, by simp [bS]⟩
namespace fnExactReadPackage
theorem contract (H : Type) (enc : TypeId × Value → H) (W : World) (base : Nat) (args : Array Value) (ds gs : List (DataW H)) (before : List MemPlace)
    (hval : ∀ (j : Nat) t v, Tryz.f3.params[j]? = some t → args[j]? = some v → Value.okWide Tryz.prog W .any base t v)
    (hW : DataW.Whole enc Tryz.prog Tryz.f3.params.toList Rows.fnExactReadPackageSpec.vars false W args.toList ds gs before) (hG : GOk Tryz.prog W okAll) :
    Calls Tryz.prog 3 args W fun e W' => ∃ v, e = .returned v ∧ Rows.fnExactReadPackageSpec.post enc Tryz.prog Tryz.f3 false true false false W args v W' := by
  have hW' := hW
  have hlt := hW.lt
  obtain ⟨p, q, hA0, hV, rfl, hfz, hnd⟩ := hW
  have hA : DataW.TrodAll enc Tryz.prog W 0 (fun _ => true) true Tryz.f3.params.toList args.toList ds p := hA0
  have hAk := hA
  rw [Tryz.params3] at hA hval
  obtain ⟨v0, d0, rfl, rfl, h0⟩ := trodAll_one hA
  obtain ⟨rfl, rfl⟩ := trodVars_none hV
  obtain ⟨a0, rfl⟩ := okWide_string Tryz.underlying9 (hval 0 9 v0 rfl rfl)
  obtain ⟨u0, h0⟩ := h0
  obtain ⟨e0, f0, r0⟩ := open_ty of9 h0
  obtain ⟨x0, rfl, g0⟩ := fits_one f0
  obtain ⟨y0, rfl⟩ := fits_str g0
  have hl : MC Tryz.prog maxLen 3 [aS8 y0] [] (Plain (eB true)) := law1467 (L := maxLen) (by decide) (by decide)
  have r0' : RMs maxLen W okAll (fun _ => .nil) [.d (.str (bS y0))] [.string a0] := rdl_rms r0 rfl
  have hargs : RAs maxLen W okAll (fun _ => .nil) [aS8 y0] [.string a0] := by
    cases r0' with
    | cons q0 w0 => exact .cons (.c q0) .nil
  refine Calls.mono (hl.2 W (fun _ => .nil) [] okAll _ hG .nil List.nodup_nil (fun b hb => by cases hb) (fun _ _ _ _ h => by cases h) hargs) fun e W' he => ?_
  cases e with
  | returned v =>
    obtain ⟨res, H', m', F', ⟨rfl, rfl⟩, _, _, _, hres, hf, _, _⟩ := he
    have hv : v = .bool true := hres.bool_inv
    subst hv
    have hsame : ∀ b, b < W.heap.size → Same W W' b := fun b hb => hf.block b hb (by simp)
    refine ⟨_, rfl, post_of_old (pv := []) hW' (fun _ _ _ => trodAll_cons_mk (shut_bool Tryz.underlying4 _) trodAll_mk0) (fun sp hsp => ?_) (fun _ _ => rfl) rfl hf (ok_one (by kernel_rfl) rfl (okWide_bool_mk Tryz.underlying4 _))⟩
    refine DataW.TrodAll.respare kidsK fullK (by rw [Tryz.params3]; decide) (trodAll_same hsame (fun x hx => hlt x (by simpa using hx)) hAk) (fun x hx => hsp x (by simpa using hx))
  | _ => exact he.elim

set_option maxRecDepth 100000 in
theorem lifted (os : Os) (started : os.Started) (H : Type) (enc : TypeId × Value → H) :
    ReturnsInHanded {} Tryz.checked os 3 .any (fun w args => (Rows.fnExactReadPackageSpec.pre enc Tryz.prog Tryz.f3 Rows.fnExactReadPackageRow.domain false w args ∧ laidMetH Tryz.prog Rows.fnExactReadPackageRow.laid w) ∧ sizedMet enc Tryz.prog Tryz.f3 (OpenSpec.ofChange Rows.fnExactReadPackageSpec) false w args)
      (Rows.fnExactReadPackageSpec.post enc Tryz.prog Tryz.f3 false true false false) := by
  refine wrapLaid (C := Tryz.checked) (X := fun w _ => laidMetH Tryz.prog Rows.fnExactReadPackageRow.laid w) (fun _ _ _ hh h => h.of_heap hh) ownK started (by kernel_rfl) Tryz.func3
    (ChangeSpec.witness_shaped (enc := enc) (C := Tryz.checked) (os := os) (X := fun w _ => laidMetH Tryz.prog Rows.fnExactReadPackageRow.laid w) false (World.laidAll Tryz.prog os Rows.fnExactReadPackageRow.laid) #[.string ⟨#[]⟩] 8 (World.laidAll_os _ _ _)
      (World.shaped_of_ZipB (by kernel_rfl) (by kernel_rfl)) (by kernel_rfl) (by kernel_rfl) (by kernel_rfl)
      (by rw [MakeChecks.laidMetH_plain _ _ _ (by kernel_rfl)]; exact laidMet_laidAll _ (by kernel_rfl) (by kernel_rfl))) ?_
  intro W base args ds gs before hval hW hL hS
  exact contract H enc W base args ds gs before hval hW (gok4 ((MakeChecks.laidMetH_plain _ _ _ (by kernel_rfl)).mp hL) (by simp [Rows.fnExactReadPackageRow]) ((MakeChecks.laidMetH_plain _ _ _ (by kernel_rfl)).mp hL).tail.tail.tail.tail ((MakeChecks.laidMetH_plain _ _ _ (by kernel_rfl)).mp hL).tail.tail.tail.tail.tail hS)

theorem holds : Rows.FnExactReadPackageSaid :=
  OpenClaim.holds_of_wide 3 Tryz.f3 rfl rfl rfl rfl rfl rfl rfl ⟨rfl, rfl, rfl, rfl, rfl⟩ rfl rfl rfl rfl rfl (by kernel_rfl) Tryz.func3 (by kernel_rfl)
    (of_decide_eq_true (by kernel_rfl)) (by unfold Func.isWrapper; first | (rw [if_pos (by decide +kernel)]; kernel_rfl) | (rw [if_neg (by decide +kernel)]; exact ⟨rfl, rfl⟩))
    (fun os started H enc _ => lifted os started H enc)
theorem proved : Rows.FnExactReadPackageCardSaid :=
  Claim7.holds_tied_plain_at .later [] [.data, .data, .data, .data, .sentinel, .sentinel, .pinned] true (true, "09c1405deb38b8aea082c83d9ec0149da31aa171961f060d748a651b675e73ed") true holds (fun _ h => by cases h) (by kernel_rfl) (fun _ h => by cases h) fnExactReadPackage_row_tie rfl ⟨rfl, rfl⟩ (by kernel_rfl) rfl
    (fun f fn hf hfn => by
      obtain rfl : f = 3 := Option.some.inj ((show Tryz.prog.funcNamed "loop.example/g01105/laws.FnExactReadPackage" = some 3 by kernel_rfl).symm.trans hf) |>.symm
      obtain rfl : fn = Tryz.f3 := (Option.some.inj (Tryz.func3.symm.trans hfn)).symm
      exact ⟨by kernel_rfl, fun j t ht => by
        rw [Tryz.params3] at ht
        have hm : t ∈ [9] := by simpa using Array.mem_of_getElem? ht
        have hall : ([9].all fun u => !Tryz.prog.wantsStandIn u) = true := by kernel_rfl
        exact (show Tryz.prog.wantsStandIn t = false by simpa using List.all_eq_true.1 hall t hm)⟩)
    (by kernel_rfl)
end fnExactReadPackage
end Go.Proofs.YtdlhjplhmmfnnaaGreatDoor
