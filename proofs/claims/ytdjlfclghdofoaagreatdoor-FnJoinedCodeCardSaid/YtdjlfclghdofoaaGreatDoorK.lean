/- Joined code: FnJoinedCode returns true for all arguments: the row and its tied card. -/
import Derived.Test.YtdjlfclghdofoaaGreatDoorJ
import Derived.Test.YtdjlfclghdofoaaGreatDoorF
namespace Go.Al
open Go.Proofs
set_option linter.unusedVariables false
theorem bys_fact {L M : Nat} : ∀ {xs : List Int}, Dss.fact L (List.map (fun n => [D.int IntKind.u8 n]) xs) → Dss.fact M (List.map (fun n => [D.int IntKind.u8 n]) xs)
  | [], _ => trivial
  | x :: xs, h => by
    have ih := bys_fact (L := L) (M := M) (xs := xs)
    simp only [List.map_cons, Dss.fact, Ds.fact, D.fact] at h ⊢
    exact ⟨h.1, ih h.2⟩
theorem bys_range {L : Nat} : ∀ {xs : List Int}, Dss.fact L (List.map (fun n => [D.int IntKind.u8 n]) xs) → ∀ n ∈ xs, 0 ≤ n ∧ n ≤ 255
  | [], _, n, hn => by cases hn
  | x :: xs, h, n, hn => by
    simp only [List.map_cons, Dss.fact, Ds.fact, D.fact] at h
    rcases List.mem_cons.1 hn with rfl | hn
    · exact h.1.1
    · exact bys_range h.2 n hn
theorem law1521 {L : Nat} (h1 : 4096 ≤ L) (h2 : L ≤ 9223372036854775807) {xs ys : List Int} (hx : ∀ n ∈ xs, 0 ≤ n ∧ n ≤ 255) (hy : ∀ n ∈ ys, 0 ≤ n ∧ n ≤ 255) : MC Tryz.prog L 3 [.c (.d (bys xs)), .c (.d (bys ys))] [] (Plain (eB true)) := by
  cases h0 : (bif decide ((48 : Int) < xs.length) then true else decide ((48 : Int) < ys.length)) with
  | true => exact c1521l h1 h2 h0
  | false =>
    have hl : xs.length ≤ 48 ∧ ys.length ≤ 48 := by
      cases ha : decide ((48 : Int) < xs.length) with
      | true => rw [ha] at h0; cases h0
      | false =>
        rw [ha] at h0
        have := of_decide_eq_false ha
        have := of_decide_eq_false h0
        omega
    refine MC.facts ⟨_, _, Tryz.func3, by kernel_rfl, rfl⟩ fun hF => ?_
    refine MC.lift (L0 := 1073741824) rfl ?_ (law1521a hx hy h0)
    simp [As.fact, A.fact, M.fact, D.fact] at hF ⊢
    exact ⟨⟨by omega, bys_fact hF.1.2⟩, ⟨by omega, bys_fact hF.2.2⟩⟩
theorem law1521t {L : Nat} (h1 : 4096 ≤ L) (h2 : L ≤ 9223372036854775807) {xs ys : List Int} : MC Tryz.prog L 3 [.c (.d (bys xs)), .c (.d (bys ys))] [] (Plain (eB true)) := by
  refine MC.facts ⟨_, _, Tryz.func3, by kernel_rfl, rfl⟩ fun hF => ?_
  simp only [As.fact, A.fact, M.fact, D.fact] at hF
  exact law1521 h1 h2 (bys_range hF.1.2) (bys_range hF.2.1.2)
end Go.Al
namespace Go.Proofs.YtdjlfclghdofoaaGreatDoor
open Go.ChangeShapes Go.WideShapes Go.ChangeAt Go.RowKit Go.Al
set_option linter.unusedVariables false
set_option maxRecDepth 10000
theorem of5 : TyOf Tryz.prog 5 [.int .u8] := .int Tryz.underlying5
theorem of900 : TyOf Tryz.prog 22 [.slc [.int .u8]] := .slc Tryz.underlying22 of5 (by kernel_rfl) (by decide)
theorem fits_bys {d : D} (h : Fits (.slc [.int .u8]) d) : ∃ xs, d = bys xs := by
  cases h with
  | slc h =>
    obtain ⟨xs, rfl⟩ := fits_all (g := fun n => [D.int .u8 n]) (fun e he => by
      cases he with
      | cons h1 h2 =>
        cases h2
        cases h1
        exact ⟨_, rfl⟩) h
    exact ⟨xs, rfl⟩
namespace fnJoinedCode
theorem contract (H : Type) (enc : TypeId × Value → H) (W : World) (base : Nat) (args : Array Value) (ds gs : List (DataW H)) (before : List MemPlace)
    (hval : ∀ (j : Nat) t v, Tryz.f3.params[j]? = some t → args[j]? = some v → Value.okWide Tryz.prog W .any base t v)
    (hW : DataW.Whole enc Tryz.prog Tryz.f3.params.toList Rows.fnJoinedCodeSpec.vars false W args.toList ds gs before) (hG : GOk Tryz.prog W okAll) :
    Calls Tryz.prog 3 args W fun e W' => ∃ v, e = .returned v ∧ Rows.fnJoinedCodeSpec.post enc Tryz.prog Tryz.f3 false true false false W args v W' := by
  have hW' := hW
  have hlt := hW.lt
  obtain ⟨p, q, hA0, hV, rfl, hfz, hnd⟩ := hW
  have hA : DataW.TrodAll enc Tryz.prog W 0 (fun _ => true) true Tryz.f3.params.toList args.toList ds p := hA0
  have hAk := hA
  rw [Tryz.params3] at hA hval
  obtain ⟨v0, v1, d0, d1, p0, p1, rfl, rfl, rfl, h0, h1⟩ := trodAll_two hA
  obtain ⟨rfl, rfl⟩ := trodVars_none hV
  obtain ⟨a0, l0, k0, rfl⟩ := okWide_slice Tryz.underlying22 (hval 0 22 v0 rfl rfl)
  obtain ⟨a1, l1, k1, rfl⟩ := okWide_slice Tryz.underlying22 (hval 1 22 v1 rfl rfl)
  obtain ⟨u0, h0⟩ := h0
  obtain ⟨u1, h1⟩ := h1
  obtain ⟨e0, f0, r0⟩ := open_ty of900 h0
  obtain ⟨e1, f1, r1⟩ := open_ty of900 h1
  obtain ⟨x0, rfl, g0⟩ := fits_one f0
  obtain ⟨y0, rfl⟩ := fits_bys g0
  obtain ⟨x1, rfl, g1⟩ := fits_one f1
  obtain ⟨y1, rfl⟩ := fits_bys g1
  have hl : MC Tryz.prog maxLen 3 [.c (.d (bys y0)), .c (.d (bys y1))] [] (Plain (eB true)) := law1521t (L := maxLen) (by decide) (by decide)
  have r0' : RMs maxLen W okAll (fun _ => .nil) [.d (bys y0)] [.slice a0 l0 k0] := rdl_rms r0 rfl
  have r1' : RMs maxLen W okAll (fun _ => .nil) [.d (bys y1)] [.slice a1 l1 k1] := rdl_rms r1 rfl
  have hargs : RAs maxLen W okAll (fun _ => .nil) [.c (.d (bys y0)), .c (.d (bys y1))] [.slice a0 l0 k0, .slice a1 l1 k1] := by
    cases r0' with
    | cons q0 w0 =>
      cases r1' with
      | cons q1 w1 =>
        exact (.cons (.c q0) (.cons (.c q1) .nil))
  refine Calls.mono (hl.2 W (fun _ => .nil) [] okAll _ hG .nil List.nodup_nil (fun b hb => by cases hb) (fun _ _ _ _ h => by cases h) hargs) fun e W' he => ?_
  cases e with
  | returned v =>
    obtain ⟨res, H', m', F', ⟨rfl, rfl⟩, _, _, _, hres, hf, _, _⟩ := he
    have hv : v = .bool true := hres.bool_inv
    subst hv
    have hsame : ∀ b, b < W.heap.size → Same W W' b := fun b hb => hf.block b hb (by simp)
    refine ⟨_, rfl, post_of_old (pv := []) hW' (fun _ _ _ => trodAll_cons_mk (shut_bool Tryz.underlying4 _) trodAll_mk0) (fun sp hsp => ?_) (fun _ _ => rfl) rfl hf (ok_one (by kernel_rfl) rfl (okWide_bool_mk Tryz.underlying4 _))⟩
    refine DataW.TrodAll.respare kidsK fullK (by rw [Tryz.params3]; decide) (trodAll_same hsame (fun x hx => hlt x (by simpa using hx)) hAk) (fun x hx => hsp x (by simpa using hx))
  | _ => exact he.elim

set_option maxRecDepth 100000 in
theorem lifted (os : Os) (started : os.Started) (H : Type) (enc : TypeId × Value → H) :
    ReturnsInHanded {} Tryz.checked os 3 .any (fun w args => (Rows.fnJoinedCodeSpec.pre enc Tryz.prog Tryz.f3 Rows.fnJoinedCodeRow.domain false w args ∧ laidMetH Tryz.prog Rows.fnJoinedCodeRow.laid w) ∧ sizedMet enc Tryz.prog Tryz.f3 (OpenSpec.ofChange Rows.fnJoinedCodeSpec) false w args)
      (Rows.fnJoinedCodeSpec.post enc Tryz.prog Tryz.f3 false true false false) := by
  refine wrapLaid (C := Tryz.checked) (X := fun w _ => laidMetH Tryz.prog Rows.fnJoinedCodeRow.laid w) (fun _ _ _ hh h => h.of_heap hh) ownK started (by kernel_rfl) Tryz.func3
    (ChangeSpec.witness_shaped (enc := enc) (C := Tryz.checked) (os := os) (X := fun w _ => laidMetH Tryz.prog Rows.fnJoinedCodeRow.laid w) false (World.laidAll Tryz.prog os Rows.fnJoinedCodeRow.laid) #[.slice none 0 0, .slice none 0 0] 8 (World.laidAll_os _ _ _)
      (World.shaped_of_ZipB (by kernel_rfl) (by kernel_rfl)) (by kernel_rfl) (by kernel_rfl) (by kernel_rfl)
      (by rw [MakeChecks.laidMetH_plain _ _ _ (by kernel_rfl)]; exact laidMet_laidAll _ (by kernel_rfl) (by kernel_rfl))) ?_
  intro W base args ds gs before hval hW hL hS
  exact contract H enc W base args ds gs before hval hW (gok4 ((MakeChecks.laidMetH_plain _ _ _ (by kernel_rfl)).mp hL) (by simp [Rows.fnJoinedCodeRow]) ((MakeChecks.laidMetH_plain _ _ _ (by kernel_rfl)).mp hL).tail.tail.tail.tail ((MakeChecks.laidMetH_plain _ _ _ (by kernel_rfl)).mp hL).tail.tail.tail.tail.tail hS)

theorem holds : Rows.FnJoinedCodeSaid :=
  OpenClaim.holds_of_wide 3 Tryz.f3 rfl rfl rfl rfl rfl rfl rfl ⟨rfl, rfl, rfl, rfl, rfl⟩ rfl rfl rfl rfl rfl (by kernel_rfl) Tryz.func3 (by kernel_rfl)
    (of_decide_eq_true (by kernel_rfl)) (by unfold Func.isWrapper; first | (rw [if_pos (by decide +kernel)]; kernel_rfl) | (rw [if_neg (by decide +kernel)]; exact ⟨rfl, rfl⟩))
    (fun os started H enc _ => lifted os started H enc)
theorem proved : Rows.FnJoinedCodeCardSaid :=
  Claim7.holds_tied_plain_at .later [] [.data, .data, .data, .data, .sentinel, .sentinel, .pinned] true (true, "34ed44b3307e29c5c43444e6c92799083822965536ff5d021ff34d66a3af74d2") true holds (fun _ h => by cases h) (by kernel_rfl) (fun _ h => by cases h) fnJoinedCode_row_tie rfl ⟨rfl, rfl⟩ (by kernel_rfl) rfl
    (fun f fn hf hfn => by
      obtain rfl : f = 3 := Option.some.inj ((show Tryz.prog.funcNamed "loop.example/g01105/laws.FnJoinedCode" = some 3 by kernel_rfl).symm.trans hf) |>.symm
      obtain rfl : fn = Tryz.f3 := (Option.some.inj (Tryz.func3.symm.trans hfn)).symm
      exact ⟨by kernel_rfl, fun j t ht => by
        rw [Tryz.params3] at ht
        have hm : t ∈ [22] := by simpa using Array.mem_of_getElem? ht
        have hall : ([22].all fun u => !Tryz.prog.wantsStandIn u) = true := by kernel_rfl
        exact (show Tryz.prog.wantsStandIn t = false by simpa using List.all_eq_true.1 hall t hm)⟩)
    (by kernel_rfl)
end fnJoinedCode
end Go.Proofs.YtdjlfclghdofoaaGreatDoor
