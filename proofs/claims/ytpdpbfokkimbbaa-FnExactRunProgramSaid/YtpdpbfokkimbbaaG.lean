/- The contract of the program's run of a tree. -/
import Derived.Test.YtpdpbfokkimbbaaE
namespace Go.Al
open Go.Proofs
set_option linter.unusedVariables false
set_option linter.unusedSimpArgs false
set_option maxRecDepth 10000
def whileW (s : Sm) (f : RS → Bool × RS) : Nat → RS → Bool × RS
  | 0, r => (false, { r with out := 1 })
  | m + 1, r => if r.steps = r.fuel then (false, { r with out := 1 }) else
    if evalT s.sum r.vars < 0 then (true, { r with steps := r.steps + 1 }) else
      if (f { r with steps := r.steps + 1 }).1 = true then whileW s f m (f { r with steps := r.steps + 1 }).2 else (false, (f { r with steps := r.steps + 1 }).2)
def leaf (s : Sm) (r : RS) : Bool × RS :=
  if s.kind = 2 then (if big (evalT s.sum r.vars) = true then (true, { r with vars := r.vars.set s.var.toNat (evalT s.sum r.vars) }) else (false, { r with out := 4 }))
  else if s.kind = 3 then (if inB 0 7 (evalT s.index r.vars) = true then (true, { r with vars := r.vars.set s.var.toNat (r.cells.getD (evalT s.index r.vars).toNat default) }) else (false, { r with out := 2 }))
  else if s.kind = 4 then (if inB 0 7 (evalT s.index r.vars) = true then (if big (evalT s.sum r.vars) = true then (true, { r with cells := r.cells.set (evalT s.index r.vars).toNat (evalT s.sum r.vars) }) else (false, { r with out := 4 })) else (false, { r with out := 2 }))
  else if s.kind = 5 then (true, { r with events := r.events ++ [s.event] })
  else if s.kind = 6 then (if evalT s.sum r.vars < 0 then (false, { r with out := 3 }) else (true, r))
  else (true, r)
def run1 : Tr → RS → Bool × RS
  | .node s a [x, y], r =>
    if s.kind = 1 then (if (run1 x r).1 = true then run1 y (run1 x r).2 else (false, (run1 x r).2)) else
      if (stepR r).1 = true then (if 0 ≤ evalT s.sum (stepR r).2.vars then run1 x (stepR r).2 else run1 y (stepR r).2) else (false, (stepR r).2)
  | .node s a [x], r => whileW s (run1 x) ((r.fuel - r.steps).toNat + 1) r
  | .node s a _, r => if (stepR r).1 = true then leaf s (stepR r).2 else (false, (stepR r).2)
theorem run1_nil {s : Sm} {a : Int} {r : RS} : run1 (.node s a []) r = if (stepR r).1 = true then leaf s (stepR r).2 else (false, (stepR r).2) := by rw [run1] <;> simp
theorem run1_one {s : Sm} {a : Int} {x : Tr} {r : RS} : run1 (.node s a [x]) r = whileW s (run1 x) ((r.fuel - r.steps).toNat + 1) r := by rw [run1]
theorem run1_two {s : Sm} {a : Int} {x y : Tr} {r : RS} : run1 (.node s a [x, y]) r = if s.kind = 1 then (if (run1 x r).1 = true then run1 y (run1 x r).2 else (false, (run1 x r).2)) else
      if (stepR r).1 = true then (if 0 ≤ evalT s.sum (stepR r).2.vars then run1 x (stepR r).2 else run1 y (stepR r).2) else (false, (stepR r).2) := by rw [run1]
structure RSok (r : RS) : Prop where
  vars : numsB r.vars 4 = true
  cells : numsB r.cells 8 = true
  lo : 0 ≤ r.steps
  hi : r.steps ≤ r.fuel
  fuel : r.fuel ≤ 2000
  events : (r.events.length : Int) ≤ r.steps
theorem RSok.nv {r : RS} (h : RSok r) : r.vars.length = 4 := by have := (numsB_iff h.vars).2; omega
theorem RSok.nc {r : RS} (h : RSok r) : r.cells.length = 8 := by have := (numsB_iff h.cells).2; omega
/-- A run goes on from one state to another. -/
structure RSle (r r' : RS) : Prop where
  ok : RSok r'
  fuel : r'.fuel = r.fuel
  steps : r.steps ≤ r'.steps
theorem RSok.step {r : RS} (h : RSok r) : RSle r (stepR r).2 := by
  unfold stepR
  split
  · exact ⟨⟨h.vars, h.cells, h.lo, h.hi, h.fuel, h.events⟩, rfl, Int.le_refl _⟩
  · rename_i hne
    have := h.hi; have := h.lo; have := h.events
    exact ⟨⟨h.vars, h.cells, by show 0 ≤ r.steps + 1; omega, by show r.steps + 1 ≤ r.fuel; omega, h.fuel, by show (r.events.length : Int) ≤ r.steps + 1; omega⟩, rfl, by show r.steps ≤ r.steps + 1; omega⟩
theorem stmt_facts {s : Sm} (h : stmtB s = true) : s.sum.term = true ∧ s.index.term = true := by
  unfold stmtB sB1 at h
  cases h1 : s.sum.term <;> cases h2 : s.index.term <;> simp [h1, h2] at h ⊢
theorem stmt_var {s : Sm} (h : stmtB s = true) (hk : sNam s = true) : 0 ≤ s.var ∧ s.var ≤ 3 := by
  unfold stmtB sB3 at h
  rw [hk] at h
  cases h1 : (decide (0 ≤ s.var) && decide (s.var ≤ 3)) with
  | true => simpa using h1
  | false => rw [h1] at h; cases sB1 s <;> cases sB2 s <;> simp at h
theorem set_big {xs : List Int} {n : Int} (h : numsB xs n = true) {i : Nat} {v : Int} (hv : big v = true) : numsB (xs.set i v) n = true := by
  have h1 := numsB_iff h
  unfold numsB
  rw [List.length_set, Bool.and_eq_true, List.all_eq_true]
  refine ⟨fun x hx => ?_, by simpa using h1.2⟩
  rcases List.mem_or_eq_of_mem_set hx with h2 | h2
  · exact List.all_eq_true.1 h1.1 x h2
  · rw [h2]; exact hv

theorem c114_0 {L : Nat} (h1 : 4096 ≤ L) (h2 : L ≤ 1073741824) {vr ev a : Int} {su ix : Tm} {fa : List Tm} {r : RS} (hst : stmtB ⟨0, vr, ev, su, ix, fa⟩ = true) (hr : RSok r) : MC Try.prog L 114 [.c (.pt 0 0 0), .c (.d (Tr.d (.node ⟨0, vr, ev, su, ix, fa⟩ a [])))] (rH 3 r) (Outs (eB (run1 (.node ⟨0, vr, ev, su, ix, fa⟩ a []) r).1) (rH 4 (run1 (.node ⟨0, vr, ev, su, ix, fa⟩ a []) r).2)) := by
 refine MC.shift 500 rfl ?_
 have hσ := SgOk.withIns (js := [500, 501, 502, 503]) (SGok (nt := 219) h1 (Nat.le_trans h2 (by decide)))
 refine MC.bodyH hσ Try.func114 (by kernel_rfl) rfl rfl rfl (Nat.le_of_ble_eq_true rfl) (fun hF => ?_)
 apply AWP.norm
 ·
  repeat' (first | exact q0 rfl | apply q1 rfl | exact q2 rfl | apply q3 rfl | exact q4 rfl | apply q5 rfl | exact q6 rfl | exact q7 rfl | exact q8)
 have hsf := stmt_facts hst
 refine AWP.seq ?_
 refine AWP.region ?_
 refine AOps.step (Val.of hσ rfl rfl) rfl rfl rfl ?_
 refine AOps.nil ?_
 refine AWP.seq ?_
 refine AWP.region ?_
 refine AOps.step (Val.of hσ rfl rfl) rfl rfl rfl ?_
 refine AOps.step (Val.of hσ rfl rfl) rfl rfl rfl ?_
 refine AOps.step (Val.of hσ rfl rfl) rfl rfl rfl ?_
 refine AOps.step (Val.of hσ rfl rfl) rfl rfl rfl ?_
 refine AOps.step (Val.of hσ rfl rfl) rfl rfl rfl ?_
 refine AOps.step (Val.of hσ rfl rfl) rfl rfl rfl ?_
 refine AOps.forget [(5, _), (4, _), (0, _), (1, _)] ⟨rfl, rfl, rfl, rfl, trivial⟩ ?_
 refine AOps.nil ?_
 refine AWP.seq ?_
 refine AWP.seq ?_
 refine AWP.region ?_
 refine AOps.step (Val.of hσ rfl rfl) rfl rfl rfl ?_
 refine AOps.step (Val.of hσ rfl rfl) rfl rfl rfl ?_
 refine AOps.step (Val.of hσ rfl rfl) rfl rfl rfl ?_
 refine AOps.step (Val.of hσ rfl rfl) rfl rfl rfl ?_
 refine AOps.step (Val.of hσ rfl rfl) rfl rfl rfl ?_
 refine AOps.step (Val.of hσ rfl rfl) rfl rfl rfl ?_
 refine AOps.step (Val.of hσ rfl rfl) rfl rfl rfl ?_
 refine AOps.forget [(19, _), (5, _), (4, _), (0, _), (1, _)] ⟨rfl, rfl, rfl, rfl, rfl, trivial⟩ ?_
 refine AOps.live rfl rfl rfl rfl rfl ?_
 refine AOps.step (Val.of hσ rfl rfl) rfl rfl rfl ?_
 refine AOps.live rfl rfl rfl rfl rfl ?_
 refine AOps.step (Val.of hσ rfl rfl) rfl rfl rfl ?_
 refine AOps.forget [(21, _), (19, _), (5, _), (4, _), (0, _), (1, _)] ⟨rfl, rfl, rfl, rfl, rfl, rfl, trivial⟩ ?_
 refine AOps.live rfl rfl rfl rfl rfl ?_
 refine AOps.step (Val.of hσ rfl rfl) rfl rfl rfl ?_
 refine AOps.forget [(22, _), (19, _), (5, _), (4, _), (0, _), (1, _)] ⟨rfl, rfl, rfl, rfl, rfl, rfl, trivial⟩ ?_
 refine AOps.live rfl rfl rfl rfl rfl ?_
 refine AOps.step (Val.of hσ rfl rfl) rfl rfl rfl ?_
 refine AOps.forget [(23, _), (19, _), (5, _), (4, _), (0, _), (1, _)] ⟨rfl, rfl, rfl, rfl, rfl, rfl, trivial⟩ ?_
 refine AOps.live rfl rfl rfl rfl rfl ?_
 refine AOps.step (Val.of hσ rfl rfl) rfl rfl rfl ?_
 refine AOps.forget [(24, _), (19, _), (5, _), (4, _), (0, _), (1, _)] ⟨rfl, rfl, rfl, rfl, rfl, rfl, trivial⟩ ?_
 refine AOps.live rfl rfl rfl rfl rfl ?_
 refine AOps.step (Val.of hσ rfl rfl) rfl rfl rfl ?_
 refine AOps.step (Val.pickY hσ rfl rfl rfl rfl rfl) rfl rfl rfl ?_
 refine AOps.step (Val.of hσ rfl rfl) rfl rfl rfl ?_
 refine AOps.forget [(27, _), (5, _), (4, _), (0, _), (1, _)] ⟨rfl, rfl, rfl, rfl, rfl, trivial⟩ ?_
 refine AOps.live rfl rfl rfl rfl rfl ?_
 refine AOps.step (Val.of hσ rfl rfl) rfl rfl rfl ?_
 refine AOps.live rfl rfl rfl rfl rfl ?_
 refine AOps.inn hσ [500, 501, 502, 503] (bin := [rbox 3 r, nrow (r).vars, nrow (r).cells, nrow (r).events]) rfl rfl rfl rfl (c159 (r := r) h1 h2 hr.lo (Int.le_trans hr.hi (Int.le_trans hr.fuel (by decide)))) rfl rfl rfl rfl rfl rfl (B0 := 30000) rfl rfl ?_
 apply AOps.norm
 ·
  repeat' (first | exact q0 rfl | apply q1 rfl | exact q2 rfl | apply q3 rfl | exact q4 rfl | apply q5 rfl | exact q6 rfl | exact q7 rfl | exact q8)
 refine AOps.forget [(29, _), (27, _), (5, _), (4, _), (0, _), (1, _)] ⟨rfl, rfl, rfl, rfl, rfl, rfl, trivial⟩ ?_
 refine AOps.live rfl rfl rfl rfl rfl ?_
 refine AOps.step (Val.of hσ rfl rfl) rfl rfl rfl ?_
 refine AOps.step (Val.pickY hσ rfl rfl rfl rfl rfl) rfl rfl rfl ?_
 refine AOps.forget [(31, _), (5, _), (4, _), (0, _), (1, _)] ⟨rfl, rfl, rfl, rfl, rfl, trivial⟩ ?_
 refine AOps.nil ?_
 refine AWP.cond hσ rfl rfl (fun hc31 => ?_) (fun hc31 => ?_)
 ·
  skip
  refine AWP.seq ?_
  refine AWP.region ?_
  refine AOps.step (Val.of hσ rfl rfl) rfl rfl rfl ?_
  refine AOps.nil ?_
  refine AWP.ret ?_
  have hs0 : (stepR r).1 = false := by cases h : (stepR r).1 with | false => rfl | true => rw [h] at hc31; cases hc31
  have hrun : run1 (.node ⟨0, vr, ev, su, ix, fa⟩ a []) r = (false, (stepR r).2) := by rw [run1_nil, if_neg (by rw [hs0]; decide)]
  refine ⟨.inl rfl, _, (Ent.sel [500, 501, 502, 503] rfl rfl (e' := [(4, _)]) ⟨rfl, trivial⟩ rfl).trans (Ent.sub2 503 504 rfl rfl), _, rfl, ?_, ?_⟩
  ·
   rw [hrun]; rfl
  ·
   rw [hrun]; rfl
 ·
  skip
  refine AWP.skip ?_
  refine AWP.seq ?_
  refine AWP.region ?_
  have hs1 : (stepR r).1 = true := by cases h : (stepR r).1 with | true => rfl | false => rw [h] at hc31; cases hc31
  have hr1 := hr.step.ok
  obtain ⟨q, hq⟩ : ∃ q, q = (stepR r).2 := ⟨_, rfl⟩
  rw [← hq] at hr1 ⊢
  have hnv := hr1.nv
  have hnc := hr1.nc
  refine AOps.step (Val.of hσ rfl rfl) rfl rfl rfl ?_
  refine AOps.step (Val.of hσ rfl rfl) rfl rfl rfl ?_
  refine AOps.nil ?_
  refine AWP.seq ?_
  refine AWP.seq ?_
  refine AWP.region ?_
  refine AOps.step (Val.of hσ rfl rfl) rfl rfl rfl ?_
  refine AOps.step (Val.of hσ rfl rfl) rfl rfl rfl ?_
  refine AOps.step (Val.of hσ rfl rfl) rfl rfl rfl ?_
  refine AOps.step (Val.of hσ rfl rfl) rfl rfl rfl ?_
  refine AOps.step (Val.of hσ rfl rfl) rfl rfl rfl ?_
  refine AOps.step (Val.of hσ rfl rfl) rfl rfl rfl ?_
  refine AOps.forget [(37, _), (7, _), (6, _), (5, _), (4, _), (0, _), (1, _)] ⟨rfl, rfl, rfl, rfl, rfl, rfl, rfl, trivial⟩ ?_
  refine AOps.nil ?_
  refine AWP.cond hσ rfl rfl (fun hc37 => ?_) (fun hc37 => ?_)
  ·
   skip
   refine AWP.forget [(5, _), (4, _), (0, _), (1, _)] ⟨rfl, rfl, rfl, rfl, trivial⟩ ?_
   refine AWP.drawR hσ _ [_, _, _, _, _, _, _, _, _, _, _, _, _, _, _, _] [⟨[], 0, 0, none⟩, ⟨[0], 0, 0, none⟩, ⟨[0, 1], 0, 0, none⟩, ⟨[0, 1, 2], 0, 0, none⟩, ⟨[0, 1, 2, 3], 0, 0, none⟩, ⟨[], 0, 0, none⟩, ⟨[0, 1, 2, 3, 4, 5], 0, 0, some 0⟩, ⟨[], 0, 1, none⟩, ⟨[7], 0, 1, none⟩, ⟨[7, 8], 0, 1, none⟩, ⟨[7, 8, 9], 0, 1, none⟩, ⟨[7, 8, 9, 10], 0, 1, none⟩, ⟨[], 0, 1, none⟩, ⟨[0, 1, 2, 3, 4, 5, 6, 7, 8, 9, 10, 11, 12], 0, 0, some 1⟩, ⟨[0, 1, 2, 3, 4, 5, 6, 7, 8, 9, 10, 11, 12, 13], 2, 2, none⟩, ⟨[0, 1, 2, 3, 4, 5, 6, 7, 8, 9, 10, 11, 12, 13, 14], 2, 2, none⟩] [6, 13] [_, _, _] rfl rfl (by decide) (by decide) (by kernel_rfl) (And.intro (Val.of hσ rfl rfl) (And.intro (Val.of hσ rfl rfl) (And.intro (Val.of hσ rfl rfl) (And.intro (Val.of hσ rfl rfl) (And.intro (Val.of hσ rfl rfl) (And.intro (Val.of hσ rfl rfl) (And.intro (Eff.lone hσ (B0 := 45000) rfl rfl rfl rfl (c160 (t := su) (vars := q.vars) h1 h2 hsf.1 hr1.vars) (.cons (.agg (VMs.self rfl)) (.cons (.c (.whole rfl (by rw [List.length_map]; exact hnv.symm))) .nil)) rfl rfl rfl rfl rfl) (And.intro (And.intro (Val.of hσ rfl rfl) (Val.of hσ rfl rfl)) (And.intro (And.intro (Val.of hσ rfl rfl) (Val.of hσ rfl rfl)) (And.intro (And.intro (Val.of hσ rfl rfl) (Val.of hσ rfl rfl)) (And.intro (And.intro (Val.of hσ rfl rfl) (Val.of hσ rfl rfl)) (And.intro (And.intro (Val.of hσ rfl rfl) (Val.of hσ rfl rfl)) (And.intro (And.intro (Val.of hσ rfl rfl) (Val.of hσ rfl rfl)) (And.intro (Eff.lone hσ (B0 := 52000) rfl rfl rfl rfl (c160 (t := ix) (vars := q.vars) h1 h2 hsf.2 hr1.vars) (.cons (.agg (VMs.self rfl)) (.cons (.c (.whole rfl (by rw [List.length_map]; exact hnv.symm))) .nil)) rfl rfl rfl rfl rfl) (And.intro (Val.of hσ rfl rfl) (And.intro (Val.of hσ rfl rfl) trivial)))))))))))))))) ?_
   refine AWP.forget [(7, _), (6, _), (5, _), (4, _), (0, _), (1, _)] ⟨rfl, rfl, rfl, rfl, rfl, rfl, trivial⟩ ?_
   apply AWP.norm
   ·
    repeat' (first | exact q0 rfl | apply q1 rfl | exact q2 rfl | apply q3 rfl | exact q4 rfl | apply q5 rfl | exact q6 rfl | exact q7 rfl | exact q8)
   refine AWP.seq ?_
   refine AWP.seq ?_
   refine AWP.region ?_
   refine AOps.step (Val.of hσ rfl rfl) rfl rfl rfl ?_
   refine AOps.step (Val.of hσ rfl rfl) rfl rfl rfl ?_
   refine AOps.step (Val.of hσ rfl rfl) rfl rfl rfl ?_
   refine AOps.step (Val.of hσ rfl rfl) rfl rfl rfl ?_
   refine AOps.step (Val.of hσ rfl rfl) rfl rfl rfl ?_
   refine AOps.step (Val.of hσ rfl rfl) rfl rfl rfl ?_
   refine AOps.step (Val.of hσ rfl rfl) rfl rfl rfl ?_
   refine AOps.forget [(58, _), (7, _), (6, _), (5, _), (4, _), (0, _), (1, _)] ⟨rfl, rfl, rfl, rfl, rfl, rfl, rfl, trivial⟩ ?_
   refine AOps.live rfl rfl rfl rfl rfl ?_
   refine AOps.step (Val.of hσ rfl rfl) rfl rfl rfl ?_
   refine AOps.live rfl rfl rfl rfl rfl ?_
   refine AOps.step (Val.of hσ rfl rfl) rfl rfl rfl ?_
   refine AOps.forget [(60, _), (58, _), (7, _), (6, _), (5, _), (4, _), (0, _), (1, _)] ⟨rfl, rfl, rfl, rfl, rfl, rfl, rfl, rfl, trivial⟩ ?_
   refine AOps.live rfl rfl rfl rfl rfl ?_
   refine AOps.step (Val.of hσ rfl rfl) rfl rfl rfl ?_
   refine AOps.forget [(61, _), (58, _), (7, _), (6, _), (5, _), (4, _), (0, _), (1, _)] ⟨rfl, rfl, rfl, rfl, rfl, rfl, rfl, rfl, trivial⟩ ?_
   refine AOps.live rfl rfl rfl rfl rfl ?_
   refine AOps.step (Val.of hσ rfl rfl) rfl rfl rfl ?_
   refine AOps.forget [(62, _), (58, _), (7, _), (6, _), (5, _), (4, _), (0, _), (1, _)] ⟨rfl, rfl, rfl, rfl, rfl, rfl, rfl, rfl, trivial⟩ ?_
   refine AOps.live rfl rfl rfl rfl rfl ?_
   refine AOps.step (Val.of hσ rfl rfl) rfl rfl rfl ?_
   refine AOps.forget [(63, _), (58, _), (7, _), (6, _), (5, _), (4, _), (0, _), (1, _)] ⟨rfl, rfl, rfl, rfl, rfl, rfl, rfl, rfl, trivial⟩ ?_
   refine AOps.live rfl rfl rfl rfl rfl ?_
   refine AOps.step (Val.of hσ rfl rfl) rfl rfl rfl ?_
   refine AOps.step (Val.pickN hσ rfl rfl rfl rfl rfl) rfl rfl rfl ?_
   refine AOps.step (Val.of hσ rfl rfl) rfl rfl rfl ?_
   refine AOps.forget [(66, _), (7, _), (6, _), (5, _), (4, _), (0, _), (1, _)] ⟨rfl, rfl, rfl, rfl, rfl, rfl, rfl, trivial⟩ ?_
   refine AOps.skip rfl rfl rfl rfl rfl rfl ?_
   refine AOps.skip rfl rfl rfl rfl rfl rfl ?_
   refine AOps.forget [(68, _), (66, _), (7, _), (6, _), (5, _), (4, _), (0, _), (1, _)] ⟨rfl, rfl, rfl, rfl, rfl, rfl, rfl, rfl, trivial⟩ ?_
   refine AOps.skip rfl rfl rfl rfl rfl rfl ?_
   refine AOps.step (Val.pickN hσ rfl rfl rfl rfl rfl) rfl rfl rfl ?_
   refine AOps.forget [(70, _), (7, _), (6, _), (5, _), (4, _), (0, _), (1, _)] ⟨rfl, rfl, rfl, rfl, rfl, rfl, rfl, trivial⟩ ?_
   refine AOps.nil ?_
   refine AWP.cond hσ rfl rfl (fun hc70 => ?_) (fun hc70 => ?_)
   ·
    skip
    exact absurd (show false = true from hc70) (by decide)
   ·
    skip
    refine AWP.skip ?_
    refine AWP.seq ?_
    refine AWP.seq ?_
    refine AWP.region ?_
    refine AOps.step (Val.of hσ rfl rfl) rfl rfl rfl ?_
    refine AOps.step (Val.of hσ rfl rfl) rfl rfl rfl ?_
    refine AOps.step (Val.of hσ rfl rfl) rfl rfl rfl ?_
    refine AOps.step (Val.of hσ rfl rfl) rfl rfl rfl ?_
    refine AOps.step (Val.of hσ rfl rfl) rfl rfl rfl ?_
    refine AOps.step (Val.of hσ rfl rfl) rfl rfl rfl ?_
    refine AOps.step (Val.of hσ rfl rfl) rfl rfl rfl ?_
    refine AOps.forget [(79, _), (7, _), (6, _), (5, _), (4, _), (0, _), (1, _)] ⟨rfl, rfl, rfl, rfl, rfl, rfl, rfl, trivial⟩ ?_
    refine AOps.live rfl rfl rfl rfl rfl ?_
    refine AOps.step (Val.of hσ rfl rfl) rfl rfl rfl ?_
    refine AOps.live rfl rfl rfl rfl rfl ?_
    refine AOps.step (Val.of hσ rfl rfl) rfl rfl rfl ?_
    refine AOps.forget [(81, _), (79, _), (7, _), (6, _), (5, _), (4, _), (0, _), (1, _)] ⟨rfl, rfl, rfl, rfl, rfl, rfl, rfl, rfl, trivial⟩ ?_
    refine AOps.live rfl rfl rfl rfl rfl ?_
    refine AOps.step (Val.of hσ rfl rfl) rfl rfl rfl ?_
    refine AOps.forget [(82, _), (79, _), (7, _), (6, _), (5, _), (4, _), (0, _), (1, _)] ⟨rfl, rfl, rfl, rfl, rfl, rfl, rfl, rfl, trivial⟩ ?_
    refine AOps.live rfl rfl rfl rfl rfl ?_
    refine AOps.step (Val.of hσ rfl rfl) rfl rfl rfl ?_
    refine AOps.forget [(83, _), (79, _), (7, _), (6, _), (5, _), (4, _), (0, _), (1, _)] ⟨rfl, rfl, rfl, rfl, rfl, rfl, rfl, rfl, trivial⟩ ?_
    refine AOps.live rfl rfl rfl rfl rfl ?_
    refine AOps.step (Val.of hσ rfl rfl) rfl rfl rfl ?_
    refine AOps.forget [(84, _), (79, _), (7, _), (6, _), (5, _), (4, _), (0, _), (1, _)] ⟨rfl, rfl, rfl, rfl, rfl, rfl, rfl, rfl, trivial⟩ ?_
    refine AOps.live rfl rfl rfl rfl rfl ?_
    refine AOps.step (Val.of hσ rfl rfl) rfl rfl rfl ?_
    refine AOps.step (Val.pickN hσ rfl rfl rfl rfl rfl) rfl rfl rfl ?_
    refine AOps.step (Val.of hσ rfl rfl) rfl rfl rfl ?_
    refine AOps.forget [(87, _), (7, _), (6, _), (5, _), (4, _), (0, _), (1, _)] ⟨rfl, rfl, rfl, rfl, rfl, rfl, rfl, trivial⟩ ?_
    refine AOps.skip rfl rfl rfl rfl rfl rfl ?_
    refine AOps.skip rfl rfl rfl rfl rfl rfl ?_
    refine AOps.forget [(89, _), (87, _), (7, _), (6, _), (5, _), (4, _), (0, _), (1, _)] ⟨rfl, rfl, rfl, rfl, rfl, rfl, rfl, rfl, trivial⟩ ?_
    refine AOps.skip rfl rfl rfl rfl rfl rfl ?_
    refine AOps.step (Val.pickN hσ rfl rfl rfl rfl rfl) rfl rfl rfl ?_
    refine AOps.forget [(91, _), (7, _), (6, _), (5, _), (4, _), (0, _), (1, _)] ⟨rfl, rfl, rfl, rfl, rfl, rfl, rfl, trivial⟩ ?_
    refine AOps.nil ?_
    refine AWP.cond hσ rfl rfl (fun hc91 => ?_) (fun hc91 => ?_)
    ·
     skip
     exact absurd (show false = true from hc91) (by decide)
    ·
     skip
     refine AWP.skip ?_
     refine AWP.seq ?_
     refine AWP.seq ?_
     refine AWP.region ?_
     refine AOps.step (Val.of hσ rfl rfl) rfl rfl rfl ?_
     refine AOps.step (Val.of hσ rfl rfl) rfl rfl rfl ?_
     refine AOps.step (Val.of hσ rfl rfl) rfl rfl rfl ?_
     refine AOps.step (Val.of hσ rfl rfl) rfl rfl rfl ?_
     refine AOps.step (Val.of hσ rfl rfl) rfl rfl rfl ?_
     refine AOps.forget [(98, _), (7, _), (6, _), (5, _), (4, _), (0, _), (1, _)] ⟨rfl, rfl, rfl, rfl, rfl, rfl, rfl, trivial⟩ ?_
     refine AOps.nil ?_
     refine AWP.block ?_
     refine AWP.seq ?_
     refine AWP.region ?_
     refine AOps.step (Val.of hσ rfl rfl) rfl rfl rfl ?_
     refine AOps.step (Val.of hσ rfl rfl) rfl rfl rfl ?_
     refine AOps.nil ?_
     refine AWP.cond hσ rfl rfl (fun hc99 => ?_) (fun hc99 => ?_)
     ·
      skip
      exact absurd (show false = true from hc99) (by decide)
     ·
      skip
      refine AWP.seq ?_
      refine AWP.region ?_
      refine AOps.step (Val.of hσ rfl rfl) rfl rfl rfl ?_
      refine AOps.step (Val.of hσ rfl rfl) rfl rfl rfl ?_
      refine AOps.forget [(119, _), (100, _), (98, _), (7, _), (6, _), (5, _), (4, _), (0, _), (1, _)] ⟨rfl, rfl, rfl, rfl, rfl, rfl, rfl, rfl, rfl, trivial⟩ ?_
      refine AOps.nil ?_
      refine AWP.cond hσ rfl rfl (fun hc119 => ?_) (fun hc119 => ?_)
      ·
       skip
       exact absurd (show false = true from hc119) (by decide)
      ·
       skip
       refine AWP.seq ?_
       refine AWP.region ?_
       refine AOps.step (Val.of hσ rfl rfl) rfl rfl rfl ?_
       refine AOps.step (Val.of hσ rfl rfl) rfl rfl rfl ?_
       refine AOps.forget [(129, _), (100, _), (98, _), (7, _), (6, _), (5, _), (4, _), (0, _), (1, _)] ⟨rfl, rfl, rfl, rfl, rfl, rfl, rfl, rfl, rfl, trivial⟩ ?_
       refine AOps.nil ?_
       refine AWP.cond hσ rfl rfl (fun hc129 => ?_) (fun hc129 => ?_)
       ·
        skip
        exact absurd (show false = true from hc129) (by decide)
       ·
        skip
        refine AWP.seq ?_
        refine AWP.region ?_
        refine AOps.step (Val.of hσ rfl rfl) rfl rfl rfl ?_
        refine AOps.step (Val.of hσ rfl rfl) rfl rfl rfl ?_
        refine AOps.forget [(146, _), (100, _), (98, _), (7, _), (6, _), (5, _), (4, _), (0, _), (1, _)] ⟨rfl, rfl, rfl, rfl, rfl, rfl, rfl, rfl, rfl, trivial⟩ ?_
        refine AOps.nil ?_
        refine AWP.cond hσ rfl rfl (fun hc146 => ?_) (fun hc146 => ?_)
        ·
         skip
         exact absurd (show false = true from hc146) (by decide)
        ·
         skip
         refine AWP.seq ?_
         refine AWP.region ?_
         refine AOps.step (Val.of hσ rfl rfl) rfl rfl rfl ?_
         refine AOps.step (Val.of hσ rfl rfl) rfl rfl rfl ?_
         refine AOps.forget [(156, _), (100, _), (98, _), (7, _), (6, _), (5, _), (4, _), (0, _), (1, _)] ⟨rfl, rfl, rfl, rfl, rfl, rfl, rfl, rfl, rfl, trivial⟩ ?_
         refine AOps.nil ?_
         refine AWP.cond hσ rfl rfl (fun hc156 => ?_) (fun hc156 => ?_)
         ·
          skip
          exact absurd (show false = true from hc156) (by decide)
         ·
          skip
          refine AWP.seq ?_
          refine AWP.region ?_
          refine AOps.step (Val.of hσ rfl rfl) rfl rfl rfl ?_
          refine AOps.step (Val.of hσ rfl rfl) rfl rfl rfl ?_
          refine AOps.forget [(172, _), (100, _), (98, _), (7, _), (6, _), (5, _), (4, _), (0, _), (1, _)] ⟨rfl, rfl, rfl, rfl, rfl, rfl, rfl, rfl, rfl, trivial⟩ ?_
          refine AOps.nil ?_
          refine AWP.cond hσ rfl rfl (fun hc172 => ?_) (fun hc172 => ?_)
          ·
           skip
           exact absurd (show false = true from hc172) (by decide)
          ·
           skip
           refine AWP.seq ?_
           refine AWP.region ?_
           refine AOps.step (Val.of hσ rfl rfl) rfl rfl rfl ?_
           refine AOps.step (Val.of hσ rfl rfl) rfl rfl rfl ?_
           refine AOps.forget [(178, _), (100, _), (98, _), (7, _), (6, _), (5, _), (4, _), (0, _), (1, _)] ⟨rfl, rfl, rfl, rfl, rfl, rfl, rfl, rfl, rfl, trivial⟩ ?_
           refine AOps.nil ?_
           refine AWP.cond hσ rfl rfl (fun hc178 => ?_) (fun hc178 => ?_)
           ·
            skip
            exact absurd (show false = true from hc178) (by decide)
           ·
            skip
            refine AWP.seq ?_
            refine AWP.region ?_
            refine AOps.step (Val.of hσ rfl rfl) rfl rfl rfl ?_
            refine AOps.step (Val.of hσ rfl rfl) rfl rfl rfl ?_
            refine AOps.forget [(198, _), (100, _), (98, _), (7, _), (6, _), (5, _), (4, _), (0, _), (1, _)] ⟨rfl, rfl, rfl, rfl, rfl, rfl, rfl, rfl, rfl, trivial⟩ ?_
            refine AOps.nil ?_
            refine AWP.cond hσ rfl rfl (fun hc198 => ?_) (fun hc198 => ?_)
            ·
             skip
             exact absurd (show false = true from hc198) (by decide)
            ·
             skip
             refine AWP.skip ?_
             refine AWP.seq ?_
             refine AWP.region ?_
             refine AOps.step (Val.of hσ rfl rfl) rfl rfl rfl ?_
             refine AOps.nil ?_
             refine AWP.ret ?_
             have hrun : run1 (.node ⟨0, vr, ev, su, ix, fa⟩ a []) r = (true, q) := by rw [run1_nil, if_pos hs1, ← hq]; unfold leaf; rfl
             refine ⟨.inl rfl, _, (Ent.sel [500, 501, 502, 503] rfl rfl (e' := [(4, _)]) ⟨rfl, trivial⟩ rfl).trans (Ent.sub2 503 504 rfl rfl), _, rfl, ?_, ?_⟩
             ·
              rw [hrun]; rfl
             ·
              rw [hrun]; rfl
  ·
   skip
   exact absurd (show true = false from hc37) (by decide)
theorem c114_2 {L : Nat} (h1 : 4096 ≤ L) (h2 : L ≤ 1073741824) {vr ev a : Int} {su ix : Tm} {fa : List Tm} {r : RS} (hst : stmtB ⟨2, vr, ev, su, ix, fa⟩ = true) (hr : RSok r) : MC Try.prog L 114 [.c (.pt 0 0 0), .c (.d (Tr.d (.node ⟨2, vr, ev, su, ix, fa⟩ a [])))] (rH 3 r) (Outs (eB (run1 (.node ⟨2, vr, ev, su, ix, fa⟩ a []) r).1) (rH 4 (run1 (.node ⟨2, vr, ev, su, ix, fa⟩ a []) r).2)) := by
 refine MC.shift 500 rfl ?_
 have hσ := SgOk.withIns (js := [500, 501, 502, 503]) (SGok (nt := 219) h1 (Nat.le_trans h2 (by decide)))
 refine MC.bodyH hσ Try.func114 (by kernel_rfl) rfl rfl rfl (Nat.le_of_ble_eq_true rfl) (fun hF => ?_)
 apply AWP.norm
 ·
  repeat' (first | exact q0 rfl | apply q1 rfl | exact q2 rfl | apply q3 rfl | exact q4 rfl | apply q5 rfl | exact q6 rfl | exact q7 rfl | exact q8)
 have hsf := stmt_facts hst
 refine AWP.seq ?_
 refine AWP.region ?_
 refine AOps.step (Val.of hσ rfl rfl) rfl rfl rfl ?_
 refine AOps.nil ?_
 refine AWP.seq ?_
 refine AWP.region ?_
 refine AOps.step (Val.of hσ rfl rfl) rfl rfl rfl ?_
 refine AOps.step (Val.of hσ rfl rfl) rfl rfl rfl ?_
 refine AOps.step (Val.of hσ rfl rfl) rfl rfl rfl ?_
 refine AOps.step (Val.of hσ rfl rfl) rfl rfl rfl ?_
 refine AOps.step (Val.of hσ rfl rfl) rfl rfl rfl ?_
 refine AOps.step (Val.of hσ rfl rfl) rfl rfl rfl ?_
 refine AOps.forget [(5, _), (4, _), (0, _), (1, _)] ⟨rfl, rfl, rfl, rfl, trivial⟩ ?_
 refine AOps.nil ?_
 refine AWP.seq ?_
 refine AWP.seq ?_
 refine AWP.region ?_
 refine AOps.step (Val.of hσ rfl rfl) rfl rfl rfl ?_
 refine AOps.step (Val.of hσ rfl rfl) rfl rfl rfl ?_
 refine AOps.step (Val.of hσ rfl rfl) rfl rfl rfl ?_
 refine AOps.step (Val.of hσ rfl rfl) rfl rfl rfl ?_
 refine AOps.step (Val.of hσ rfl rfl) rfl rfl rfl ?_
 refine AOps.step (Val.of hσ rfl rfl) rfl rfl rfl ?_
 refine AOps.step (Val.of hσ rfl rfl) rfl rfl rfl ?_
 refine AOps.forget [(19, _), (5, _), (4, _), (0, _), (1, _)] ⟨rfl, rfl, rfl, rfl, rfl, trivial⟩ ?_
 refine AOps.live rfl rfl rfl rfl rfl ?_
 refine AOps.step (Val.of hσ rfl rfl) rfl rfl rfl ?_
 refine AOps.live rfl rfl rfl rfl rfl ?_
 refine AOps.step (Val.of hσ rfl rfl) rfl rfl rfl ?_
 refine AOps.forget [(21, _), (19, _), (5, _), (4, _), (0, _), (1, _)] ⟨rfl, rfl, rfl, rfl, rfl, rfl, trivial⟩ ?_
 refine AOps.live rfl rfl rfl rfl rfl ?_
 refine AOps.step (Val.of hσ rfl rfl) rfl rfl rfl ?_
 refine AOps.forget [(22, _), (19, _), (5, _), (4, _), (0, _), (1, _)] ⟨rfl, rfl, rfl, rfl, rfl, rfl, trivial⟩ ?_
 refine AOps.live rfl rfl rfl rfl rfl ?_
 refine AOps.step (Val.of hσ rfl rfl) rfl rfl rfl ?_
 refine AOps.forget [(23, _), (19, _), (5, _), (4, _), (0, _), (1, _)] ⟨rfl, rfl, rfl, rfl, rfl, rfl, trivial⟩ ?_
 refine AOps.live rfl rfl rfl rfl rfl ?_
 refine AOps.step (Val.of hσ rfl rfl) rfl rfl rfl ?_
 refine AOps.forget [(24, _), (19, _), (5, _), (4, _), (0, _), (1, _)] ⟨rfl, rfl, rfl, rfl, rfl, rfl, trivial⟩ ?_
 refine AOps.live rfl rfl rfl rfl rfl ?_
 refine AOps.step (Val.of hσ rfl rfl) rfl rfl rfl ?_
 refine AOps.step (Val.pickY hσ rfl rfl rfl rfl rfl) rfl rfl rfl ?_
 refine AOps.step (Val.of hσ rfl rfl) rfl rfl rfl ?_
 refine AOps.forget [(27, _), (5, _), (4, _), (0, _), (1, _)] ⟨rfl, rfl, rfl, rfl, rfl, trivial⟩ ?_
 refine AOps.live rfl rfl rfl rfl rfl ?_
 refine AOps.step (Val.of hσ rfl rfl) rfl rfl rfl ?_
 refine AOps.live rfl rfl rfl rfl rfl ?_
 refine AOps.inn hσ [500, 501, 502, 503] (bin := [rbox 3 r, nrow (r).vars, nrow (r).cells, nrow (r).events]) rfl rfl rfl rfl (c159 (r := r) h1 h2 hr.lo (Int.le_trans hr.hi (Int.le_trans hr.fuel (by decide)))) rfl rfl rfl rfl rfl rfl (B0 := 30000) rfl rfl ?_
 apply AOps.norm
 ·
  repeat' (first | exact q0 rfl | apply q1 rfl | exact q2 rfl | apply q3 rfl | exact q4 rfl | apply q5 rfl | exact q6 rfl | exact q7 rfl | exact q8)
 refine AOps.forget [(29, _), (27, _), (5, _), (4, _), (0, _), (1, _)] ⟨rfl, rfl, rfl, rfl, rfl, rfl, trivial⟩ ?_
 refine AOps.live rfl rfl rfl rfl rfl ?_
 refine AOps.step (Val.of hσ rfl rfl) rfl rfl rfl ?_
 refine AOps.step (Val.pickY hσ rfl rfl rfl rfl rfl) rfl rfl rfl ?_
 refine AOps.forget [(31, _), (5, _), (4, _), (0, _), (1, _)] ⟨rfl, rfl, rfl, rfl, rfl, trivial⟩ ?_
 refine AOps.nil ?_
 refine AWP.cond hσ rfl rfl (fun hc31 => ?_) (fun hc31 => ?_)
 ·
  skip
  refine AWP.seq ?_
  refine AWP.region ?_
  refine AOps.step (Val.of hσ rfl rfl) rfl rfl rfl ?_
  refine AOps.nil ?_
  refine AWP.ret ?_
  have hs0 : (stepR r).1 = false := by cases h : (stepR r).1 with | false => rfl | true => rw [h] at hc31; cases hc31
  have hrun : run1 (.node ⟨2, vr, ev, su, ix, fa⟩ a []) r = (false, (stepR r).2) := by rw [run1_nil, if_neg (by rw [hs0]; decide)]
  refine ⟨.inl rfl, _, (Ent.sel [500, 501, 502, 503] rfl rfl (e' := [(4, _)]) ⟨rfl, trivial⟩ rfl).trans (Ent.sub2 503 504 rfl rfl), _, rfl, ?_, ?_⟩
  ·
   rw [hrun]; rfl
  ·
   rw [hrun]; rfl
 ·
  skip
  refine AWP.skip ?_
  refine AWP.seq ?_
  refine AWP.region ?_
  have hs1 : (stepR r).1 = true := by cases h : (stepR r).1 with | true => rfl | false => rw [h] at hc31; cases hc31
  have hr1 := hr.step.ok
  obtain ⟨q, hq⟩ : ∃ q, q = (stepR r).2 := ⟨_, rfl⟩
  rw [← hq] at hr1 ⊢
  have hnv := hr1.nv
  have hnc := hr1.nc
  refine AOps.step (Val.of hσ rfl rfl) rfl rfl rfl ?_
  refine AOps.step (Val.of hσ rfl rfl) rfl rfl rfl ?_
  refine AOps.nil ?_
  refine AWP.seq ?_
  refine AWP.seq ?_
  refine AWP.region ?_
  refine AOps.step (Val.of hσ rfl rfl) rfl rfl rfl ?_
  refine AOps.step (Val.of hσ rfl rfl) rfl rfl rfl ?_
  refine AOps.step (Val.of hσ rfl rfl) rfl rfl rfl ?_
  refine AOps.step (Val.of hσ rfl rfl) rfl rfl rfl ?_
  refine AOps.step (Val.of hσ rfl rfl) rfl rfl rfl ?_
  refine AOps.step (Val.of hσ rfl rfl) rfl rfl rfl ?_
  refine AOps.forget [(37, _), (7, _), (6, _), (5, _), (4, _), (0, _), (1, _)] ⟨rfl, rfl, rfl, rfl, rfl, rfl, rfl, trivial⟩ ?_
  refine AOps.nil ?_
  refine AWP.cond hσ rfl rfl (fun hc37 => ?_) (fun hc37 => ?_)
  ·
   skip
   refine AWP.forget [(5, _), (4, _), (0, _), (1, _)] ⟨rfl, rfl, rfl, rfl, trivial⟩ ?_
   refine AWP.drawR hσ _ [_, _, _, _, _, _, _, _, _, _, _, _, _, _, _, _] [⟨[], 0, 0, none⟩, ⟨[0], 0, 0, none⟩, ⟨[0, 1], 0, 0, none⟩, ⟨[0, 1, 2], 0, 0, none⟩, ⟨[0, 1, 2, 3], 0, 0, none⟩, ⟨[], 0, 0, none⟩, ⟨[0, 1, 2, 3, 4, 5], 0, 0, some 0⟩, ⟨[], 0, 1, none⟩, ⟨[7], 0, 1, none⟩, ⟨[7, 8], 0, 1, none⟩, ⟨[7, 8, 9], 0, 1, none⟩, ⟨[7, 8, 9, 10], 0, 1, none⟩, ⟨[], 0, 1, none⟩, ⟨[0, 1, 2, 3, 4, 5, 6, 7, 8, 9, 10, 11, 12], 0, 0, some 1⟩, ⟨[0, 1, 2, 3, 4, 5, 6, 7, 8, 9, 10, 11, 12, 13], 2, 2, none⟩, ⟨[0, 1, 2, 3, 4, 5, 6, 7, 8, 9, 10, 11, 12, 13, 14], 2, 2, none⟩] [6, 13] [_, _, _] rfl rfl (by decide) (by decide) (by kernel_rfl) (And.intro (Val.of hσ rfl rfl) (And.intro (Val.of hσ rfl rfl) (And.intro (Val.of hσ rfl rfl) (And.intro (Val.of hσ rfl rfl) (And.intro (Val.of hσ rfl rfl) (And.intro (Val.of hσ rfl rfl) (And.intro (Eff.lone hσ (B0 := 45000) rfl rfl rfl rfl (c160 (t := su) (vars := q.vars) h1 h2 hsf.1 hr1.vars) (.cons (.agg (VMs.self rfl)) (.cons (.c (.whole rfl (by rw [List.length_map]; exact hnv.symm))) .nil)) rfl rfl rfl rfl rfl) (And.intro (And.intro (Val.of hσ rfl rfl) (Val.of hσ rfl rfl)) (And.intro (And.intro (Val.of hσ rfl rfl) (Val.of hσ rfl rfl)) (And.intro (And.intro (Val.of hσ rfl rfl) (Val.of hσ rfl rfl)) (And.intro (And.intro (Val.of hσ rfl rfl) (Val.of hσ rfl rfl)) (And.intro (And.intro (Val.of hσ rfl rfl) (Val.of hσ rfl rfl)) (And.intro (And.intro (Val.of hσ rfl rfl) (Val.of hσ rfl rfl)) (And.intro (Eff.lone hσ (B0 := 52000) rfl rfl rfl rfl (c160 (t := ix) (vars := q.vars) h1 h2 hsf.2 hr1.vars) (.cons (.agg (VMs.self rfl)) (.cons (.c (.whole rfl (by rw [List.length_map]; exact hnv.symm))) .nil)) rfl rfl rfl rfl rfl) (And.intro (Val.of hσ rfl rfl) (And.intro (Val.of hσ rfl rfl) trivial)))))))))))))))) ?_
   refine AWP.forget [(7, _), (6, _), (5, _), (4, _), (0, _), (1, _)] ⟨rfl, rfl, rfl, rfl, rfl, rfl, trivial⟩ ?_
   apply AWP.norm
   ·
    repeat' (first | exact q0 rfl | apply q1 rfl | exact q2 rfl | apply q3 rfl | exact q4 rfl | apply q5 rfl | exact q6 rfl | exact q7 rfl | exact q8)
   refine AWP.seq ?_
   refine AWP.seq ?_
   refine AWP.region ?_
   refine AOps.step (Val.of hσ rfl rfl) rfl rfl rfl ?_
   refine AOps.step (Val.of hσ rfl rfl) rfl rfl rfl ?_
   refine AOps.step (Val.of hσ rfl rfl) rfl rfl rfl ?_
   refine AOps.step (Val.of hσ rfl rfl) rfl rfl rfl ?_
   refine AOps.step (Val.of hσ rfl rfl) rfl rfl rfl ?_
   refine AOps.step (Val.of hσ rfl rfl) rfl rfl rfl ?_
   refine AOps.step (Val.of hσ rfl rfl) rfl rfl rfl ?_
   refine AOps.forget [(58, _), (7, _), (6, _), (5, _), (4, _), (0, _), (1, _)] ⟨rfl, rfl, rfl, rfl, rfl, rfl, rfl, trivial⟩ ?_
   refine AOps.live rfl rfl rfl rfl rfl ?_
   refine AOps.step (Val.of hσ rfl rfl) rfl rfl rfl ?_
   refine AOps.live rfl rfl rfl rfl rfl ?_
   refine AOps.step (Val.of hσ rfl rfl) rfl rfl rfl ?_
   refine AOps.forget [(60, _), (58, _), (7, _), (6, _), (5, _), (4, _), (0, _), (1, _)] ⟨rfl, rfl, rfl, rfl, rfl, rfl, rfl, rfl, trivial⟩ ?_
   refine AOps.live rfl rfl rfl rfl rfl ?_
   refine AOps.step (Val.of hσ rfl rfl) rfl rfl rfl ?_
   refine AOps.forget [(61, _), (58, _), (7, _), (6, _), (5, _), (4, _), (0, _), (1, _)] ⟨rfl, rfl, rfl, rfl, rfl, rfl, rfl, rfl, trivial⟩ ?_
   refine AOps.live rfl rfl rfl rfl rfl ?_
   refine AOps.step (Val.of hσ rfl rfl) rfl rfl rfl ?_
   refine AOps.forget [(62, _), (58, _), (7, _), (6, _), (5, _), (4, _), (0, _), (1, _)] ⟨rfl, rfl, rfl, rfl, rfl, rfl, rfl, rfl, trivial⟩ ?_
   refine AOps.live rfl rfl rfl rfl rfl ?_
   refine AOps.step (Val.of hσ rfl rfl) rfl rfl rfl ?_
   refine AOps.forget [(63, _), (58, _), (7, _), (6, _), (5, _), (4, _), (0, _), (1, _)] ⟨rfl, rfl, rfl, rfl, rfl, rfl, rfl, rfl, trivial⟩ ?_
   refine AOps.live rfl rfl rfl rfl rfl ?_
   refine AOps.step (Val.of hσ rfl rfl) rfl rfl rfl ?_
   refine AOps.step (Val.pickN hσ rfl rfl rfl rfl rfl) rfl rfl rfl ?_
   refine AOps.step (Val.of hσ rfl rfl) rfl rfl rfl ?_
   refine AOps.forget [(66, _), (7, _), (6, _), (5, _), (4, _), (0, _), (1, _)] ⟨rfl, rfl, rfl, rfl, rfl, rfl, rfl, trivial⟩ ?_
   refine AOps.skip rfl rfl rfl rfl rfl rfl ?_
   refine AOps.skip rfl rfl rfl rfl rfl rfl ?_
   refine AOps.forget [(68, _), (66, _), (7, _), (6, _), (5, _), (4, _), (0, _), (1, _)] ⟨rfl, rfl, rfl, rfl, rfl, rfl, rfl, rfl, trivial⟩ ?_
   refine AOps.skip rfl rfl rfl rfl rfl rfl ?_
   refine AOps.step (Val.pickN hσ rfl rfl rfl rfl rfl) rfl rfl rfl ?_
   refine AOps.forget [(70, _), (7, _), (6, _), (5, _), (4, _), (0, _), (1, _)] ⟨rfl, rfl, rfl, rfl, rfl, rfl, rfl, trivial⟩ ?_
   refine AOps.nil ?_
   refine AWP.cond hσ rfl rfl (fun hc70 => ?_) (fun hc70 => ?_)
   ·
    skip
    exact absurd (show false = true from hc70) (by decide)
   ·
    skip
    refine AWP.skip ?_
    refine AWP.seq ?_
    refine AWP.seq ?_
    refine AWP.region ?_
    refine AOps.step (Val.of hσ rfl rfl) rfl rfl rfl ?_
    refine AOps.step (Val.of hσ rfl rfl) rfl rfl rfl ?_
    refine AOps.step (Val.of hσ rfl rfl) rfl rfl rfl ?_
    refine AOps.step (Val.of hσ rfl rfl) rfl rfl rfl ?_
    refine AOps.step (Val.of hσ rfl rfl) rfl rfl rfl ?_
    refine AOps.step (Val.of hσ rfl rfl) rfl rfl rfl ?_
    refine AOps.step (Val.of hσ rfl rfl) rfl rfl rfl ?_
    refine AOps.forget [(79, _), (7, _), (6, _), (5, _), (4, _), (0, _), (1, _)] ⟨rfl, rfl, rfl, rfl, rfl, rfl, rfl, trivial⟩ ?_
    refine AOps.skip rfl rfl rfl rfl rfl rfl ?_
    refine AOps.skip rfl rfl rfl rfl rfl rfl ?_
    refine AOps.forget [(81, _), (79, _), (7, _), (6, _), (5, _), (4, _), (0, _), (1, _)] ⟨rfl, rfl, rfl, rfl, rfl, rfl, rfl, rfl, trivial⟩ ?_
    refine AOps.skip rfl rfl rfl rfl rfl rfl ?_
    refine AOps.forget [(82, _), (79, _), (7, _), (6, _), (5, _), (4, _), (0, _), (1, _)] ⟨rfl, rfl, rfl, rfl, rfl, rfl, rfl, rfl, trivial⟩ ?_
    refine AOps.skip rfl rfl rfl rfl rfl rfl ?_
    refine AOps.forget [(83, _), (79, _), (7, _), (6, _), (5, _), (4, _), (0, _), (1, _)] ⟨rfl, rfl, rfl, rfl, rfl, rfl, rfl, rfl, trivial⟩ ?_
    refine AOps.skip rfl rfl rfl rfl rfl rfl ?_
    refine AOps.forget [(84, _), (79, _), (7, _), (6, _), (5, _), (4, _), (0, _), (1, _)] ⟨rfl, rfl, rfl, rfl, rfl, rfl, rfl, rfl, trivial⟩ ?_
    refine AOps.skip rfl rfl rfl rfl rfl rfl ?_
    refine AOps.step (Val.pickY hσ rfl rfl rfl rfl rfl) rfl rfl rfl ?_
    refine AOps.step (Val.of hσ rfl rfl) rfl rfl rfl ?_
    refine AOps.forget [(87, _), (7, _), (6, _), (5, _), (4, _), (0, _), (1, _)] ⟨rfl, rfl, rfl, rfl, rfl, rfl, rfl, trivial⟩ ?_
    refine AOps.live rfl rfl rfl rfl rfl ?_
    refine AOps.step (Val.of hσ rfl rfl) rfl rfl rfl ?_
    refine AOps.live rfl rfl rfl rfl rfl ?_
    refine AOps.lone hσ rfl rfl rfl rfl (c162 h1 h2) (VAs.self rfl) rfl rfl rfl rfl rfl (B0 := 90000) rfl ?_
    refine AOps.forget [(89, _), (87, _), (7, _), (6, _), (5, _), (4, _), (0, _), (1, _)] ⟨rfl, rfl, rfl, rfl, rfl, rfl, rfl, rfl, trivial⟩ ?_
    refine AOps.live rfl rfl rfl rfl rfl ?_
    refine AOps.step (Val.of hσ rfl rfl) rfl rfl rfl ?_
    refine AOps.step (Val.pickY hσ rfl rfl rfl rfl rfl) rfl rfl rfl ?_
    refine AOps.forget [(91, _), (7, _), (6, _), (5, _), (4, _), (0, _), (1, _)] ⟨rfl, rfl, rfl, rfl, rfl, rfl, rfl, trivial⟩ ?_
    refine AOps.nil ?_
    refine AWP.cond hσ rfl rfl (fun hc91 => ?_) (fun hc91 => ?_)
    ·
     skip
     refine AWP.seq ?_
     refine AWP.region ?_
     refine AOps.step (Val.of hσ rfl rfl) rfl rfl rfl ?_
     refine AOps.forget [(92, _), (7, _), (6, _), (5, _), (4, _), (0, _), (1, _)] ⟨rfl, rfl, rfl, rfl, rfl, rfl, rfl, trivial⟩ ?_
     have hb91 : big (evalT su q.vars) = false := by cases h : big (evalT su q.vars) with | false => rfl | true => exact absurd (show false = true from (by have h9 := hc91; rw [h] at h9; exact h9)) (by decide)
     refine AOps.inn hσ [500, 501, 502, 503] (bin := [rbox 3 q, nrow (q).vars, nrow (q).cells, nrow (q).events]) rfl rfl rfl rfl (c161 (r := q) (x := 4) h1 h2) rfl rfl rfl rfl rfl rfl (B0 := 94000) rfl rfl ?_
     apply AOps.norm
     ·
      repeat' (first | exact q0 rfl | apply q1 rfl | exact q2 rfl | apply q3 rfl | exact q4 rfl | apply q5 rfl | exact q6 rfl | exact q7 rfl | exact q8)
     refine AOps.step (Val.of hσ rfl rfl) rfl rfl rfl ?_
     refine AOps.forget [(4, _), (7, _), (6, _), (5, _), (0, _), (1, _)] ⟨rfl, rfl, rfl, rfl, rfl, rfl, trivial⟩ ?_
     refine AOps.nil ?_
     refine AWP.ret ?_
     have hrun : run1 (.node ⟨2, vr, ev, su, ix, fa⟩ a []) r = (false, { q with out := 4 }) := by rw [run1_nil, if_pos hs1, ← hq]; unfold leaf; rw [if_pos rfl, if_neg (show ¬ big (evalT su q.vars) = true by rw [hb91]; decide)]
     refine ⟨.inl rfl, _, (Ent.sel [500, 501, 502, 503] rfl rfl (e' := [(4, _)]) ⟨rfl, trivial⟩ rfl).trans (Ent.sub2 503 504 rfl rfl), _, rfl, ?_, ?_⟩
     ·
      rw [hrun]; rfl
     ·
      rw [hrun]; rfl
    ·
     skip
     refine AWP.skip ?_
     refine AWP.seq ?_
     refine AWP.seq ?_
     refine AWP.region ?_
     refine AOps.step (Val.of hσ rfl rfl) rfl rfl rfl ?_
     refine AOps.step (Val.of hσ rfl rfl) rfl rfl rfl ?_
     refine AOps.step (Val.of hσ rfl rfl) rfl rfl rfl ?_
     refine AOps.step (Val.of hσ rfl rfl) rfl rfl rfl ?_
     refine AOps.step (Val.of hσ rfl rfl) rfl rfl rfl ?_
     refine AOps.forget [(98, _), (7, _), (6, _), (5, _), (4, _), (0, _), (1, _)] ⟨rfl, rfl, rfl, rfl, rfl, rfl, rfl, trivial⟩ ?_
     refine AOps.nil ?_
     refine AWP.block ?_
     refine AWP.seq ?_
     refine AWP.region ?_
     refine AOps.step (Val.of hσ rfl rfl) rfl rfl rfl ?_
     refine AOps.step (Val.of hσ rfl rfl) rfl rfl rfl ?_
     refine AOps.nil ?_
     refine AWP.cond hσ rfl rfl (fun hc99 => ?_) (fun hc99 => ?_)
     ·
      skip
      exact absurd (show false = true from hc99) (by decide)
     ·
      skip
      refine AWP.seq ?_
      refine AWP.region ?_
      refine AOps.step (Val.of hσ rfl rfl) rfl rfl rfl ?_
      refine AOps.step (Val.of hσ rfl rfl) rfl rfl rfl ?_
      refine AOps.forget [(119, _), (100, _), (98, _), (7, _), (6, _), (5, _), (4, _), (0, _), (1, _)] ⟨rfl, rfl, rfl, rfl, rfl, rfl, rfl, rfl, rfl, trivial⟩ ?_
      refine AOps.nil ?_
      refine AWP.cond hσ rfl rfl (fun hc119 => ?_) (fun hc119 => ?_)
      ·
       skip
       refine AWP.region ?_
       refine AOps.step (Val.of hσ rfl rfl) rfl rfl rfl ?_
       refine AOps.step (Val.of hσ rfl rfl) rfl rfl rfl ?_
       refine AOps.step (Val.of hσ rfl rfl) rfl rfl rfl ?_
       refine AOps.step (Val.of hσ rfl rfl) rfl rfl rfl ?_
       refine AOps.step (Val.of hσ rfl rfl) rfl rfl rfl ?_
       have hb91 : big (evalT su q.vars) = true := by cases h : big (evalT su q.vars) with | true => rfl | false => exact absurd (show true = false from (by have h9 := hc91; rw [h] at h9; exact h9)) (by decide)
       have hv := stmt_var hst rfl
       have hv1 : 0 ≤ vr := hv.1
       have hv2 : vr ≤ 3 := hv.2
       refine AOps.step (Val.of hσ rfl rfl) rfl rfl rfl ?_
       refine AOps.step (Val.of hσ rfl rfl) rfl rfl rfl ?_
       first | refine AOps.step (Val.indexD hσ rfl rfl rfl rfl rfl rfl rfl rfl (by first | omega | (simp at *; omega)) (idx_get (by first | omega | (simp at *; omega)) (by first | omega | (simp at *; omega)))) rfl rfl rfl ?_ | refine AOps.step (Val.vif hσ rfl rfl (by first | omega | (simp at *; omega))) rfl rfl rfl ?_
       refine AOps.forget [(128, _), (127, _), (100, _), (98, _), (7, _), (6, _), (5, _), (4, _), (0, _), (1, _)] ⟨rfl, rfl, rfl, rfl, rfl, rfl, rfl, rfl, rfl, rfl, trivial⟩ ?_
       refine AOps.heap (HS.storeRow (ex := [.int .i64 (q.vars.getD vr.toNat default)]) (xs' := (q.vars.set vr.toNat (evalT su q.vars)).map fun n => [.int .i64 n]) hσ rfl rfl rfl rfl rfl rfl rfl rfl rfl rfl rfl rfl rfl rfl (by simp [show vr.toNat < q.vars.length by omega]) (by simp [List.map_set])) rfl ?_
       apply AOps.norm
       ·
        repeat' (first | exact q0 rfl | apply q1 rfl | exact q2 rfl | apply q3 rfl | exact q4 rfl | apply q5 rfl | exact q6 rfl | exact q7 rfl | exact q8)
       refine AOps.forget [(100, _), (98, _), (7, _), (6, _), (5, _), (4, _), (0, _), (1, _)] ⟨rfl, rfl, rfl, rfl, rfl, rfl, rfl, rfl, trivial⟩ ?_
       refine AOps.nil ?_
       refine AWP.seq ?_
       refine AWP.region ?_
       refine AOps.step (Val.of hσ rfl rfl) rfl rfl rfl ?_
       refine AOps.nil ?_
       refine AWP.ret ?_
       have hrun : run1 (.node ⟨2, vr, ev, su, ix, fa⟩ a []) r = (true, { q with vars := q.vars.set vr.toNat (evalT su q.vars) }) := by rw [run1_nil, if_pos hs1, ← hq]; unfold leaf; rw [if_pos rfl, if_pos (show big (evalT su q.vars) = true from hb91)]
       refine ⟨.inl rfl, _, (Ent.sel [500, 501, 502, 503] rfl rfl (e' := [(4, _)]) ⟨rfl, trivial⟩ rfl).trans (Ent.sub2 503 504 rfl rfl), _, rfl, ?_, ?_⟩
       ·
        rw [hrun]; rfl
       ·
        rw [hrun]; rfl
      ·
       skip
       exact absurd (show true = false from hc119) (by decide)
  ·
   skip
   exact absurd (show true = false from hc37) (by decide)
theorem c114_3 {L : Nat} (h1 : 4096 ≤ L) (h2 : L ≤ 1073741824) {vr ev a : Int} {su ix : Tm} {fa : List Tm} {r : RS} (hst : stmtB ⟨3, vr, ev, su, ix, fa⟩ = true) (hr : RSok r) : MC Try.prog L 114 [.c (.pt 0 0 0), .c (.d (Tr.d (.node ⟨3, vr, ev, su, ix, fa⟩ a [])))] (rH 3 r) (Outs (eB (run1 (.node ⟨3, vr, ev, su, ix, fa⟩ a []) r).1) (rH 4 (run1 (.node ⟨3, vr, ev, su, ix, fa⟩ a []) r).2)) := by
 refine MC.shift 500 rfl ?_
 have hσ := SgOk.withIns (js := [500, 501, 502, 503]) (SGok (nt := 219) h1 (Nat.le_trans h2 (by decide)))
 refine MC.bodyH hσ Try.func114 (by kernel_rfl) rfl rfl rfl (Nat.le_of_ble_eq_true rfl) (fun hF => ?_)
 apply AWP.norm
 ·
  repeat' (first | exact q0 rfl | apply q1 rfl | exact q2 rfl | apply q3 rfl | exact q4 rfl | apply q5 rfl | exact q6 rfl | exact q7 rfl | exact q8)
 have hsf := stmt_facts hst
 refine AWP.seq ?_
 refine AWP.region ?_
 refine AOps.step (Val.of hσ rfl rfl) rfl rfl rfl ?_
 refine AOps.nil ?_
 refine AWP.seq ?_
 refine AWP.region ?_
 refine AOps.step (Val.of hσ rfl rfl) rfl rfl rfl ?_
 refine AOps.step (Val.of hσ rfl rfl) rfl rfl rfl ?_
 refine AOps.step (Val.of hσ rfl rfl) rfl rfl rfl ?_
 refine AOps.step (Val.of hσ rfl rfl) rfl rfl rfl ?_
 refine AOps.step (Val.of hσ rfl rfl) rfl rfl rfl ?_
 refine AOps.step (Val.of hσ rfl rfl) rfl rfl rfl ?_
 refine AOps.forget [(5, _), (4, _), (0, _), (1, _)] ⟨rfl, rfl, rfl, rfl, trivial⟩ ?_
 refine AOps.nil ?_
 refine AWP.seq ?_
 refine AWP.seq ?_
 refine AWP.region ?_
 refine AOps.step (Val.of hσ rfl rfl) rfl rfl rfl ?_
 refine AOps.step (Val.of hσ rfl rfl) rfl rfl rfl ?_
 refine AOps.step (Val.of hσ rfl rfl) rfl rfl rfl ?_
 refine AOps.step (Val.of hσ rfl rfl) rfl rfl rfl ?_
 refine AOps.step (Val.of hσ rfl rfl) rfl rfl rfl ?_
 refine AOps.step (Val.of hσ rfl rfl) rfl rfl rfl ?_
 refine AOps.step (Val.of hσ rfl rfl) rfl rfl rfl ?_
 refine AOps.forget [(19, _), (5, _), (4, _), (0, _), (1, _)] ⟨rfl, rfl, rfl, rfl, rfl, trivial⟩ ?_
 refine AOps.live rfl rfl rfl rfl rfl ?_
 refine AOps.step (Val.of hσ rfl rfl) rfl rfl rfl ?_
 refine AOps.live rfl rfl rfl rfl rfl ?_
 refine AOps.step (Val.of hσ rfl rfl) rfl rfl rfl ?_
 refine AOps.forget [(21, _), (19, _), (5, _), (4, _), (0, _), (1, _)] ⟨rfl, rfl, rfl, rfl, rfl, rfl, trivial⟩ ?_
 refine AOps.live rfl rfl rfl rfl rfl ?_
 refine AOps.step (Val.of hσ rfl rfl) rfl rfl rfl ?_
 refine AOps.forget [(22, _), (19, _), (5, _), (4, _), (0, _), (1, _)] ⟨rfl, rfl, rfl, rfl, rfl, rfl, trivial⟩ ?_
 refine AOps.live rfl rfl rfl rfl rfl ?_
 refine AOps.step (Val.of hσ rfl rfl) rfl rfl rfl ?_
 refine AOps.forget [(23, _), (19, _), (5, _), (4, _), (0, _), (1, _)] ⟨rfl, rfl, rfl, rfl, rfl, rfl, trivial⟩ ?_
 refine AOps.live rfl rfl rfl rfl rfl ?_
 refine AOps.step (Val.of hσ rfl rfl) rfl rfl rfl ?_
 refine AOps.forget [(24, _), (19, _), (5, _), (4, _), (0, _), (1, _)] ⟨rfl, rfl, rfl, rfl, rfl, rfl, trivial⟩ ?_
 refine AOps.live rfl rfl rfl rfl rfl ?_
 refine AOps.step (Val.of hσ rfl rfl) rfl rfl rfl ?_
 refine AOps.step (Val.pickY hσ rfl rfl rfl rfl rfl) rfl rfl rfl ?_
 refine AOps.step (Val.of hσ rfl rfl) rfl rfl rfl ?_
 refine AOps.forget [(27, _), (5, _), (4, _), (0, _), (1, _)] ⟨rfl, rfl, rfl, rfl, rfl, trivial⟩ ?_
 refine AOps.live rfl rfl rfl rfl rfl ?_
 refine AOps.step (Val.of hσ rfl rfl) rfl rfl rfl ?_
 refine AOps.live rfl rfl rfl rfl rfl ?_
 refine AOps.inn hσ [500, 501, 502, 503] (bin := [rbox 3 r, nrow (r).vars, nrow (r).cells, nrow (r).events]) rfl rfl rfl rfl (c159 (r := r) h1 h2 hr.lo (Int.le_trans hr.hi (Int.le_trans hr.fuel (by decide)))) rfl rfl rfl rfl rfl rfl (B0 := 30000) rfl rfl ?_
 apply AOps.norm
 ·
  repeat' (first | exact q0 rfl | apply q1 rfl | exact q2 rfl | apply q3 rfl | exact q4 rfl | apply q5 rfl | exact q6 rfl | exact q7 rfl | exact q8)
 refine AOps.forget [(29, _), (27, _), (5, _), (4, _), (0, _), (1, _)] ⟨rfl, rfl, rfl, rfl, rfl, rfl, trivial⟩ ?_
 refine AOps.live rfl rfl rfl rfl rfl ?_
 refine AOps.step (Val.of hσ rfl rfl) rfl rfl rfl ?_
 refine AOps.step (Val.pickY hσ rfl rfl rfl rfl rfl) rfl rfl rfl ?_
 refine AOps.forget [(31, _), (5, _), (4, _), (0, _), (1, _)] ⟨rfl, rfl, rfl, rfl, rfl, trivial⟩ ?_
 refine AOps.nil ?_
 refine AWP.cond hσ rfl rfl (fun hc31 => ?_) (fun hc31 => ?_)
 ·
  skip
  refine AWP.seq ?_
  refine AWP.region ?_
  refine AOps.step (Val.of hσ rfl rfl) rfl rfl rfl ?_
  refine AOps.nil ?_
  refine AWP.ret ?_
  have hs0 : (stepR r).1 = false := by cases h : (stepR r).1 with | false => rfl | true => rw [h] at hc31; cases hc31
  have hrun : run1 (.node ⟨3, vr, ev, su, ix, fa⟩ a []) r = (false, (stepR r).2) := by rw [run1_nil, if_neg (by rw [hs0]; decide)]
  refine ⟨.inl rfl, _, (Ent.sel [500, 501, 502, 503] rfl rfl (e' := [(4, _)]) ⟨rfl, trivial⟩ rfl).trans (Ent.sub2 503 504 rfl rfl), _, rfl, ?_, ?_⟩
  ·
   rw [hrun]; rfl
  ·
   rw [hrun]; rfl
 ·
  skip
  refine AWP.skip ?_
  refine AWP.seq ?_
  refine AWP.region ?_
  have hs1 : (stepR r).1 = true := by cases h : (stepR r).1 with | true => rfl | false => rw [h] at hc31; cases hc31
  have hr1 := hr.step.ok
  obtain ⟨q, hq⟩ : ∃ q, q = (stepR r).2 := ⟨_, rfl⟩
  rw [← hq] at hr1 ⊢
  have hnv := hr1.nv
  have hnc := hr1.nc
  refine AOps.step (Val.of hσ rfl rfl) rfl rfl rfl ?_
  refine AOps.step (Val.of hσ rfl rfl) rfl rfl rfl ?_
  refine AOps.nil ?_
  refine AWP.seq ?_
  refine AWP.seq ?_
  refine AWP.region ?_
  refine AOps.step (Val.of hσ rfl rfl) rfl rfl rfl ?_
  refine AOps.step (Val.of hσ rfl rfl) rfl rfl rfl ?_
  refine AOps.step (Val.of hσ rfl rfl) rfl rfl rfl ?_
  refine AOps.step (Val.of hσ rfl rfl) rfl rfl rfl ?_
  refine AOps.step (Val.of hσ rfl rfl) rfl rfl rfl ?_
  refine AOps.step (Val.of hσ rfl rfl) rfl rfl rfl ?_
  refine AOps.forget [(37, _), (7, _), (6, _), (5, _), (4, _), (0, _), (1, _)] ⟨rfl, rfl, rfl, rfl, rfl, rfl, rfl, trivial⟩ ?_
  refine AOps.nil ?_
  refine AWP.cond hσ rfl rfl (fun hc37 => ?_) (fun hc37 => ?_)
  ·
   skip
   refine AWP.forget [(5, _), (4, _), (0, _), (1, _)] ⟨rfl, rfl, rfl, rfl, trivial⟩ ?_
   refine AWP.drawR hσ _ [_, _, _, _, _, _, _, _, _, _, _, _, _, _, _, _] [⟨[], 0, 0, none⟩, ⟨[0], 0, 0, none⟩, ⟨[0, 1], 0, 0, none⟩, ⟨[0, 1, 2], 0, 0, none⟩, ⟨[0, 1, 2, 3], 0, 0, none⟩, ⟨[], 0, 0, none⟩, ⟨[0, 1, 2, 3, 4, 5], 0, 0, some 0⟩, ⟨[], 0, 1, none⟩, ⟨[7], 0, 1, none⟩, ⟨[7, 8], 0, 1, none⟩, ⟨[7, 8, 9], 0, 1, none⟩, ⟨[7, 8, 9, 10], 0, 1, none⟩, ⟨[], 0, 1, none⟩, ⟨[0, 1, 2, 3, 4, 5, 6, 7, 8, 9, 10, 11, 12], 0, 0, some 1⟩, ⟨[0, 1, 2, 3, 4, 5, 6, 7, 8, 9, 10, 11, 12, 13], 2, 2, none⟩, ⟨[0, 1, 2, 3, 4, 5, 6, 7, 8, 9, 10, 11, 12, 13, 14], 2, 2, none⟩] [6, 13] [_, _, _] rfl rfl (by decide) (by decide) (by kernel_rfl) (And.intro (Val.of hσ rfl rfl) (And.intro (Val.of hσ rfl rfl) (And.intro (Val.of hσ rfl rfl) (And.intro (Val.of hσ rfl rfl) (And.intro (Val.of hσ rfl rfl) (And.intro (Val.of hσ rfl rfl) (And.intro (Eff.lone hσ (B0 := 45000) rfl rfl rfl rfl (c160 (t := su) (vars := q.vars) h1 h2 hsf.1 hr1.vars) (.cons (.agg (VMs.self rfl)) (.cons (.c (.whole rfl (by rw [List.length_map]; exact hnv.symm))) .nil)) rfl rfl rfl rfl rfl) (And.intro (And.intro (Val.of hσ rfl rfl) (Val.of hσ rfl rfl)) (And.intro (And.intro (Val.of hσ rfl rfl) (Val.of hσ rfl rfl)) (And.intro (And.intro (Val.of hσ rfl rfl) (Val.of hσ rfl rfl)) (And.intro (And.intro (Val.of hσ rfl rfl) (Val.of hσ rfl rfl)) (And.intro (And.intro (Val.of hσ rfl rfl) (Val.of hσ rfl rfl)) (And.intro (And.intro (Val.of hσ rfl rfl) (Val.of hσ rfl rfl)) (And.intro (Eff.lone hσ (B0 := 52000) rfl rfl rfl rfl (c160 (t := ix) (vars := q.vars) h1 h2 hsf.2 hr1.vars) (.cons (.agg (VMs.self rfl)) (.cons (.c (.whole rfl (by rw [List.length_map]; exact hnv.symm))) .nil)) rfl rfl rfl rfl rfl) (And.intro (Val.of hσ rfl rfl) (And.intro (Val.of hσ rfl rfl) trivial)))))))))))))))) ?_
   refine AWP.forget [(7, _), (6, _), (5, _), (4, _), (0, _), (1, _)] ⟨rfl, rfl, rfl, rfl, rfl, rfl, trivial⟩ ?_
   apply AWP.norm
   ·
    repeat' (first | exact q0 rfl | apply q1 rfl | exact q2 rfl | apply q3 rfl | exact q4 rfl | apply q5 rfl | exact q6 rfl | exact q7 rfl | exact q8)
   refine AWP.seq ?_
   refine AWP.seq ?_
   refine AWP.region ?_
   refine AOps.step (Val.of hσ rfl rfl) rfl rfl rfl ?_
   refine AOps.step (Val.of hσ rfl rfl) rfl rfl rfl ?_
   refine AOps.step (Val.of hσ rfl rfl) rfl rfl rfl ?_
   refine AOps.step (Val.of hσ rfl rfl) rfl rfl rfl ?_
   refine AOps.step (Val.of hσ rfl rfl) rfl rfl rfl ?_
   refine AOps.step (Val.of hσ rfl rfl) rfl rfl rfl ?_
   refine AOps.step (Val.of hσ rfl rfl) rfl rfl rfl ?_
   refine AOps.forget [(58, _), (7, _), (6, _), (5, _), (4, _), (0, _), (1, _)] ⟨rfl, rfl, rfl, rfl, rfl, rfl, rfl, trivial⟩ ?_
   refine AOps.skip rfl rfl rfl rfl rfl rfl ?_
   refine AOps.skip rfl rfl rfl rfl rfl rfl ?_
   refine AOps.forget [(60, _), (58, _), (7, _), (6, _), (5, _), (4, _), (0, _), (1, _)] ⟨rfl, rfl, rfl, rfl, rfl, rfl, rfl, rfl, trivial⟩ ?_
   refine AOps.skip rfl rfl rfl rfl rfl rfl ?_
   refine AOps.forget [(61, _), (58, _), (7, _), (6, _), (5, _), (4, _), (0, _), (1, _)] ⟨rfl, rfl, rfl, rfl, rfl, rfl, rfl, rfl, trivial⟩ ?_
   refine AOps.skip rfl rfl rfl rfl rfl rfl ?_
   refine AOps.forget [(62, _), (58, _), (7, _), (6, _), (5, _), (4, _), (0, _), (1, _)] ⟨rfl, rfl, rfl, rfl, rfl, rfl, rfl, rfl, trivial⟩ ?_
   refine AOps.skip rfl rfl rfl rfl rfl rfl ?_
   refine AOps.forget [(63, _), (58, _), (7, _), (6, _), (5, _), (4, _), (0, _), (1, _)] ⟨rfl, rfl, rfl, rfl, rfl, rfl, rfl, rfl, trivial⟩ ?_
   refine AOps.skip rfl rfl rfl rfl rfl rfl ?_
   refine AOps.step (Val.pickY hσ rfl rfl rfl rfl rfl) rfl rfl rfl ?_
   refine AOps.step (Val.of hσ rfl rfl) rfl rfl rfl ?_
   refine AOps.forget [(66, _), (7, _), (6, _), (5, _), (4, _), (0, _), (1, _)] ⟨rfl, rfl, rfl, rfl, rfl, rfl, rfl, trivial⟩ ?_
   refine AOps.live rfl rfl rfl rfl rfl ?_
   refine AOps.step (Val.of hσ rfl rfl) rfl rfl rfl ?_
   refine AOps.live rfl rfl rfl rfl rfl ?_
   refine AOps.lone hσ rfl rfl rfl rfl (c111 h1 h2) (VAs.self rfl) rfl rfl rfl rfl rfl (B0 := 69000) rfl ?_
   refine AOps.forget [(68, _), (66, _), (7, _), (6, _), (5, _), (4, _), (0, _), (1, _)] ⟨rfl, rfl, rfl, rfl, rfl, rfl, rfl, rfl, trivial⟩ ?_
   refine AOps.live rfl rfl rfl rfl rfl ?_
   refine AOps.step (Val.of hσ rfl rfl) rfl rfl rfl ?_
   refine AOps.step (Val.pickY hσ rfl rfl rfl rfl rfl) rfl rfl rfl ?_
   refine AOps.forget [(70, _), (7, _), (6, _), (5, _), (4, _), (0, _), (1, _)] ⟨rfl, rfl, rfl, rfl, rfl, rfl, rfl, trivial⟩ ?_
   refine AOps.nil ?_
   refine AWP.cond hσ rfl rfl (fun hc70 => ?_) (fun hc70 => ?_)
   ·
    skip
    refine AWP.seq ?_
    refine AWP.region ?_
    refine AOps.step (Val.of hσ rfl rfl) rfl rfl rfl ?_
    refine AOps.forget [(71, _), (7, _), (6, _), (5, _), (4, _), (0, _), (1, _)] ⟨rfl, rfl, rfl, rfl, rfl, rfl, rfl, trivial⟩ ?_
    have hb70 : inB 0 7 (evalT ix q.vars) = false := by cases h : inB 0 7 (evalT ix q.vars) with | false => rfl | true => exact absurd (show false = true from (by have h9 := hc70; rw [h] at h9; exact h9)) (by decide)
    refine AOps.inn hσ [500, 501, 502, 503] (bin := [rbox 3 q, nrow (q).vars, nrow (q).cells, nrow (q).events]) rfl rfl rfl rfl (c161 (r := q) (x := 2) h1 h2) rfl rfl rfl rfl rfl rfl (B0 := 73000) rfl rfl ?_
    apply AOps.norm
    ·
     repeat' (first | exact q0 rfl | apply q1 rfl | exact q2 rfl | apply q3 rfl | exact q4 rfl | apply q5 rfl | exact q6 rfl | exact q7 rfl | exact q8)
    refine AOps.step (Val.of hσ rfl rfl) rfl rfl rfl ?_
    refine AOps.forget [(4, _), (7, _), (6, _), (5, _), (0, _), (1, _)] ⟨rfl, rfl, rfl, rfl, rfl, rfl, trivial⟩ ?_
    refine AOps.nil ?_
    refine AWP.ret ?_
    have hrun : run1 (.node ⟨3, vr, ev, su, ix, fa⟩ a []) r = (false, { q with out := 2 }) := by rw [run1_nil, if_pos hs1, ← hq]; unfold leaf; rw [if_neg (by decide : ¬ (3 : Int) = 2), if_pos rfl, if_neg (show ¬ inB 0 7 (evalT ix q.vars) = true by rw [hb70]; decide)]
    refine ⟨.inl rfl, _, (Ent.sel [500, 501, 502, 503] rfl rfl (e' := [(4, _)]) ⟨rfl, trivial⟩ rfl).trans (Ent.sub2 503 504 rfl rfl), _, rfl, ?_, ?_⟩
    ·
     rw [hrun]; rfl
    ·
     rw [hrun]; rfl
   ·
    skip
    refine AWP.skip ?_
    refine AWP.seq ?_
    refine AWP.seq ?_
    refine AWP.region ?_
    have hb70 : inB 0 7 (evalT ix q.vars) = true := by cases h : inB 0 7 (evalT ix q.vars) with | true => rfl | false => exact absurd (show true = false from (by have h9 := hc70; rw [h] at h9; exact h9)) (by decide)
    have hin0 : 0 ≤ evalT ix q.vars ∧ evalT ix q.vars ≤ 7 := by simpa [inB] using hb70
    have hin1 := hin0.1
    have hin2 := hin0.2
    have hv := stmt_var hst rfl
    have hv1 : 0 ≤ vr := hv.1
    have hv2 : vr ≤ 3 := hv.2
    refine AOps.step (Val.of hσ rfl rfl) rfl rfl rfl ?_
    refine AOps.step (Val.of hσ rfl rfl) rfl rfl rfl ?_
    refine AOps.step (Val.of hσ rfl rfl) rfl rfl rfl ?_
    refine AOps.step (Val.of hσ rfl rfl) rfl rfl rfl ?_
    refine AOps.step (Val.of hσ rfl rfl) rfl rfl rfl ?_
    refine AOps.step (Val.of hσ rfl rfl) rfl rfl rfl ?_
    refine AOps.step (Val.of hσ rfl rfl) rfl rfl rfl ?_
    refine AOps.forget [(79, _), (7, _), (6, _), (5, _), (4, _), (0, _), (1, _)] ⟨rfl, rfl, rfl, rfl, rfl, rfl, rfl, trivial⟩ ?_
    refine AOps.live rfl rfl rfl rfl rfl ?_
    refine AOps.step (Val.of hσ rfl rfl) rfl rfl rfl ?_
    refine AOps.live rfl rfl rfl rfl rfl ?_
    refine AOps.step (Val.of hσ rfl rfl) rfl rfl rfl ?_
    refine AOps.forget [(81, _), (79, _), (7, _), (6, _), (5, _), (4, _), (0, _), (1, _)] ⟨rfl, rfl, rfl, rfl, rfl, rfl, rfl, rfl, trivial⟩ ?_
    refine AOps.live rfl rfl rfl rfl rfl ?_
    refine AOps.step (Val.of hσ rfl rfl) rfl rfl rfl ?_
    refine AOps.forget [(82, _), (79, _), (7, _), (6, _), (5, _), (4, _), (0, _), (1, _)] ⟨rfl, rfl, rfl, rfl, rfl, rfl, rfl, rfl, trivial⟩ ?_
    refine AOps.live rfl rfl rfl rfl rfl ?_
    refine AOps.step (Val.of hσ rfl rfl) rfl rfl rfl ?_
    refine AOps.forget [(83, _), (79, _), (7, _), (6, _), (5, _), (4, _), (0, _), (1, _)] ⟨rfl, rfl, rfl, rfl, rfl, rfl, rfl, rfl, trivial⟩ ?_
    refine AOps.live rfl rfl rfl rfl rfl ?_
    refine AOps.step (Val.of hσ rfl rfl) rfl rfl rfl ?_
    refine AOps.forget [(84, _), (79, _), (7, _), (6, _), (5, _), (4, _), (0, _), (1, _)] ⟨rfl, rfl, rfl, rfl, rfl, rfl, rfl, rfl, trivial⟩ ?_
    refine AOps.live rfl rfl rfl rfl rfl ?_
    refine AOps.step (Val.of hσ rfl rfl) rfl rfl rfl ?_
    refine AOps.step (Val.pickN hσ rfl rfl rfl rfl rfl) rfl rfl rfl ?_
    refine AOps.step (Val.of hσ rfl rfl) rfl rfl rfl ?_
    refine AOps.forget [(87, _), (7, _), (6, _), (5, _), (4, _), (0, _), (1, _)] ⟨rfl, rfl, rfl, rfl, rfl, rfl, rfl, trivial⟩ ?_
    refine AOps.skip rfl rfl rfl rfl rfl rfl ?_
    refine AOps.skip rfl rfl rfl rfl rfl rfl ?_
    refine AOps.forget [(89, _), (87, _), (7, _), (6, _), (5, _), (4, _), (0, _), (1, _)] ⟨rfl, rfl, rfl, rfl, rfl, rfl, rfl, rfl, trivial⟩ ?_
    refine AOps.skip rfl rfl rfl rfl rfl rfl ?_
    refine AOps.step (Val.pickN hσ rfl rfl rfl rfl rfl) rfl rfl rfl ?_
    refine AOps.forget [(91, _), (7, _), (6, _), (5, _), (4, _), (0, _), (1, _)] ⟨rfl, rfl, rfl, rfl, rfl, rfl, rfl, trivial⟩ ?_
    refine AOps.nil ?_
    refine AWP.cond hσ rfl rfl (fun hc91 => ?_) (fun hc91 => ?_)
    ·
     skip
     exact absurd (show false = true from hc91) (by decide)
    ·
     skip
     refine AWP.skip ?_
     refine AWP.seq ?_
     refine AWP.seq ?_
     refine AWP.region ?_
     refine AOps.step (Val.of hσ rfl rfl) rfl rfl rfl ?_
     refine AOps.step (Val.of hσ rfl rfl) rfl rfl rfl ?_
     refine AOps.step (Val.of hσ rfl rfl) rfl rfl rfl ?_
     refine AOps.step (Val.of hσ rfl rfl) rfl rfl rfl ?_
     refine AOps.step (Val.of hσ rfl rfl) rfl rfl rfl ?_
     refine AOps.forget [(98, _), (7, _), (6, _), (5, _), (4, _), (0, _), (1, _)] ⟨rfl, rfl, rfl, rfl, rfl, rfl, rfl, trivial⟩ ?_
     refine AOps.nil ?_
     refine AWP.block ?_
     refine AWP.seq ?_
     refine AWP.region ?_
     refine AOps.step (Val.of hσ rfl rfl) rfl rfl rfl ?_
     refine AOps.step (Val.of hσ rfl rfl) rfl rfl rfl ?_
     refine AOps.nil ?_
     refine AWP.cond hσ rfl rfl (fun hc99 => ?_) (fun hc99 => ?_)
     ·
      skip
      exact absurd (show false = true from hc99) (by decide)
     ·
      skip
      refine AWP.seq ?_
      refine AWP.region ?_
      refine AOps.step (Val.of hσ rfl rfl) rfl rfl rfl ?_
      refine AOps.step (Val.of hσ rfl rfl) rfl rfl rfl ?_
      refine AOps.forget [(119, _), (100, _), (98, _), (7, _), (6, _), (5, _), (4, _), (0, _), (1, _)] ⟨rfl, rfl, rfl, rfl, rfl, rfl, rfl, rfl, rfl, trivial⟩ ?_
      refine AOps.nil ?_
      refine AWP.cond hσ rfl rfl (fun hc119 => ?_) (fun hc119 => ?_)
      ·
       skip
       exact absurd (show false = true from hc119) (by decide)
      ·
       skip
       refine AWP.seq ?_
       refine AWP.region ?_
       refine AOps.step (Val.of hσ rfl rfl) rfl rfl rfl ?_
       refine AOps.step (Val.of hσ rfl rfl) rfl rfl rfl ?_
       refine AOps.forget [(129, _), (100, _), (98, _), (7, _), (6, _), (5, _), (4, _), (0, _), (1, _)] ⟨rfl, rfl, rfl, rfl, rfl, rfl, rfl, rfl, rfl, trivial⟩ ?_
       refine AOps.nil ?_
       refine AWP.cond hσ rfl rfl (fun hc129 => ?_) (fun hc129 => ?_)
       ·
        skip
        refine AWP.forget [(100, _), (98, _), (7, _), (6, _), (5, _), (4, _), (0, _), (1, _)] ⟨rfl, rfl, rfl, rfl, rfl, rfl, rfl, rfl, trivial⟩ ?_
        refine AWP.drawR hσ _ [_, _, _, _, _, _, _, _, _, _, _, _, _, _, _, _] [⟨[], 0, 0, none⟩, ⟨[], 0, 0, none⟩, ⟨[1], 0, 0, none⟩, ⟨[1, 2], 0, 0, none⟩, ⟨[1, 2, 3], 0, 0, none⟩, ⟨[1, 2, 3, 4], 0, 0, none⟩, ⟨[], 0, 0, none⟩, ⟨[6], 0, 0, none⟩, ⟨[6, 7], 0, 0, none⟩, ⟨[6, 7, 8], 0, 0, none⟩, ⟨[6, 7, 8, 9], 0, 0, none⟩, ⟨[], 0, 0, none⟩, ⟨[6, 7, 8, 9, 10, 11], 0, 0, none⟩, ⟨[6, 7, 8, 9, 10, 11, 12], 0, 0, none⟩, ⟨[0, 1, 2, 3, 4, 5, 6, 7, 8, 9, 10, 11, 12, 13], 0, 0, none⟩, ⟨[0, 1, 2, 3, 4, 5, 6, 7, 8, 9, 10, 11, 12, 13, 14], 0, 0, some 0⟩] [15] [_, _] rfl rfl (by decide) (by decide) (by kernel_rfl) (And.intro (Val.of hσ rfl rfl) (And.intro (Val.of hσ rfl rfl) (And.intro (Val.of hσ rfl rfl) (And.intro (Val.of hσ rfl rfl) (And.intro (Val.of hσ rfl rfl) (And.intro (Val.of hσ rfl rfl) (And.intro (Val.of hσ rfl rfl) (And.intro (Val.of hσ rfl rfl) (And.intro (Val.of hσ rfl rfl) (And.intro (Val.of hσ rfl rfl) (And.intro (Val.of hσ rfl rfl) (And.intro (Val.of hσ rfl rfl) (And.intro (Val.vif hσ rfl rfl (by first | omega | (simp at *; omega))) (And.intro (Val.loadRow hσ (ex := [.int .i64 (q.cells.getD (evalT ix q.vars).toNat default)]) rfl rfl rfl rfl (by simp [show (evalT ix q.vars).toNat < q.cells.length by omega]) rfl) (And.intro (Val.vif hσ rfl rfl (by first | omega | (simp at *; omega))) (And.intro (Eff.storeRow (ex := [.int .i64 (q.vars.getD vr.toNat default)]) (xs' := (q.vars.set vr.toNat (q.cells.getD (evalT ix q.vars).toNat default)).map fun n => [.int .i64 n]) hσ rfl rfl rfl rfl rfl rfl rfl rfl rfl rfl rfl rfl rfl rfl rfl (by simp [show vr.toNat < q.vars.length by omega]) (by simp [List.map_set]) rfl) trivial)))))))))))))))) ?_
        refine AWP.forget [(100, _), (98, _), (7, _), (6, _), (5, _), (4, _), (0, _), (1, _)] ⟨rfl, rfl, rfl, rfl, rfl, rfl, rfl, rfl, trivial⟩ ?_
        apply AWP.norm
        ·
         repeat' (first | exact q0 rfl | apply q1 rfl | exact q2 rfl | apply q3 rfl | exact q4 rfl | apply q5 rfl | exact q6 rfl | exact q7 rfl | exact q8)
        refine AWP.seq ?_
        refine AWP.region ?_
        refine AOps.step (Val.of hσ rfl rfl) rfl rfl rfl ?_
        refine AOps.nil ?_
        refine AWP.ret ?_
        have hrun : run1 (.node ⟨3, vr, ev, su, ix, fa⟩ a []) r = (true, { q with vars := q.vars.set vr.toNat (q.cells.getD (evalT ix q.vars).toNat default) }) := by rw [run1_nil, if_pos hs1, ← hq]; unfold leaf; rw [if_neg (by decide : ¬ (3 : Int) = 2), if_pos rfl, if_pos (show inB 0 7 (evalT ix q.vars) = true from hb70)]
        refine ⟨.inl rfl, _, (Ent.sel [500, 501, 502, 503] rfl rfl (e' := [(4, _)]) ⟨rfl, trivial⟩ rfl).trans (Ent.sub2 503 504 rfl rfl), _, rfl, ?_, ?_⟩
        ·
         rw [hrun]; rfl
        ·
         rw [hrun]; rfl
       ·
        skip
        exact absurd (show true = false from hc129) (by decide)
  ·
   skip
   exact absurd (show true = false from hc37) (by decide)
theorem c114_4 {L : Nat} (h1 : 4096 ≤ L) (h2 : L ≤ 1073741824) {vr ev a : Int} {su ix : Tm} {fa : List Tm} {r : RS} (hst : stmtB ⟨4, vr, ev, su, ix, fa⟩ = true) (hr : RSok r) : MC Try.prog L 114 [.c (.pt 0 0 0), .c (.d (Tr.d (.node ⟨4, vr, ev, su, ix, fa⟩ a [])))] (rH 3 r) (Outs (eB (run1 (.node ⟨4, vr, ev, su, ix, fa⟩ a []) r).1) (rH 4 (run1 (.node ⟨4, vr, ev, su, ix, fa⟩ a []) r).2)) := by
 refine MC.shift 500 rfl ?_
 have hσ := SgOk.withIns (js := [500, 501, 502, 503]) (SGok (nt := 219) h1 (Nat.le_trans h2 (by decide)))
 refine MC.bodyH hσ Try.func114 (by kernel_rfl) rfl rfl rfl (Nat.le_of_ble_eq_true rfl) (fun hF => ?_)
 apply AWP.norm
 ·
  repeat' (first | exact q0 rfl | apply q1 rfl | exact q2 rfl | apply q3 rfl | exact q4 rfl | apply q5 rfl | exact q6 rfl | exact q7 rfl | exact q8)
 have hsf := stmt_facts hst
 refine AWP.seq ?_
 refine AWP.region ?_
 refine AOps.step (Val.of hσ rfl rfl) rfl rfl rfl ?_
 refine AOps.nil ?_
 refine AWP.seq ?_
 refine AWP.region ?_
 refine AOps.step (Val.of hσ rfl rfl) rfl rfl rfl ?_
 refine AOps.step (Val.of hσ rfl rfl) rfl rfl rfl ?_
 refine AOps.step (Val.of hσ rfl rfl) rfl rfl rfl ?_
 refine AOps.step (Val.of hσ rfl rfl) rfl rfl rfl ?_
 refine AOps.step (Val.of hσ rfl rfl) rfl rfl rfl ?_
 refine AOps.step (Val.of hσ rfl rfl) rfl rfl rfl ?_
 refine AOps.forget [(5, _), (4, _), (0, _), (1, _)] ⟨rfl, rfl, rfl, rfl, trivial⟩ ?_
 refine AOps.nil ?_
 refine AWP.seq ?_
 refine AWP.seq ?_
 refine AWP.region ?_
 refine AOps.step (Val.of hσ rfl rfl) rfl rfl rfl ?_
 refine AOps.step (Val.of hσ rfl rfl) rfl rfl rfl ?_
 refine AOps.step (Val.of hσ rfl rfl) rfl rfl rfl ?_
 refine AOps.step (Val.of hσ rfl rfl) rfl rfl rfl ?_
 refine AOps.step (Val.of hσ rfl rfl) rfl rfl rfl ?_
 refine AOps.step (Val.of hσ rfl rfl) rfl rfl rfl ?_
 refine AOps.step (Val.of hσ rfl rfl) rfl rfl rfl ?_
 refine AOps.forget [(19, _), (5, _), (4, _), (0, _), (1, _)] ⟨rfl, rfl, rfl, rfl, rfl, trivial⟩ ?_
 refine AOps.live rfl rfl rfl rfl rfl ?_
 refine AOps.step (Val.of hσ rfl rfl) rfl rfl rfl ?_
 refine AOps.live rfl rfl rfl rfl rfl ?_
 refine AOps.step (Val.of hσ rfl rfl) rfl rfl rfl ?_
 refine AOps.forget [(21, _), (19, _), (5, _), (4, _), (0, _), (1, _)] ⟨rfl, rfl, rfl, rfl, rfl, rfl, trivial⟩ ?_
 refine AOps.live rfl rfl rfl rfl rfl ?_
 refine AOps.step (Val.of hσ rfl rfl) rfl rfl rfl ?_
 refine AOps.forget [(22, _), (19, _), (5, _), (4, _), (0, _), (1, _)] ⟨rfl, rfl, rfl, rfl, rfl, rfl, trivial⟩ ?_
 refine AOps.live rfl rfl rfl rfl rfl ?_
 refine AOps.step (Val.of hσ rfl rfl) rfl rfl rfl ?_
 refine AOps.forget [(23, _), (19, _), (5, _), (4, _), (0, _), (1, _)] ⟨rfl, rfl, rfl, rfl, rfl, rfl, trivial⟩ ?_
 refine AOps.live rfl rfl rfl rfl rfl ?_
 refine AOps.step (Val.of hσ rfl rfl) rfl rfl rfl ?_
 refine AOps.forget [(24, _), (19, _), (5, _), (4, _), (0, _), (1, _)] ⟨rfl, rfl, rfl, rfl, rfl, rfl, trivial⟩ ?_
 refine AOps.live rfl rfl rfl rfl rfl ?_
 refine AOps.step (Val.of hσ rfl rfl) rfl rfl rfl ?_
 refine AOps.step (Val.pickY hσ rfl rfl rfl rfl rfl) rfl rfl rfl ?_
 refine AOps.step (Val.of hσ rfl rfl) rfl rfl rfl ?_
 refine AOps.forget [(27, _), (5, _), (4, _), (0, _), (1, _)] ⟨rfl, rfl, rfl, rfl, rfl, trivial⟩ ?_
 refine AOps.live rfl rfl rfl rfl rfl ?_
 refine AOps.step (Val.of hσ rfl rfl) rfl rfl rfl ?_
 refine AOps.live rfl rfl rfl rfl rfl ?_
 refine AOps.inn hσ [500, 501, 502, 503] (bin := [rbox 3 r, nrow (r).vars, nrow (r).cells, nrow (r).events]) rfl rfl rfl rfl (c159 (r := r) h1 h2 hr.lo (Int.le_trans hr.hi (Int.le_trans hr.fuel (by decide)))) rfl rfl rfl rfl rfl rfl (B0 := 30000) rfl rfl ?_
 apply AOps.norm
 ·
  repeat' (first | exact q0 rfl | apply q1 rfl | exact q2 rfl | apply q3 rfl | exact q4 rfl | apply q5 rfl | exact q6 rfl | exact q7 rfl | exact q8)
 refine AOps.forget [(29, _), (27, _), (5, _), (4, _), (0, _), (1, _)] ⟨rfl, rfl, rfl, rfl, rfl, rfl, trivial⟩ ?_
 refine AOps.live rfl rfl rfl rfl rfl ?_
 refine AOps.step (Val.of hσ rfl rfl) rfl rfl rfl ?_
 refine AOps.step (Val.pickY hσ rfl rfl rfl rfl rfl) rfl rfl rfl ?_
 refine AOps.forget [(31, _), (5, _), (4, _), (0, _), (1, _)] ⟨rfl, rfl, rfl, rfl, rfl, trivial⟩ ?_
 refine AOps.nil ?_
 refine AWP.cond hσ rfl rfl (fun hc31 => ?_) (fun hc31 => ?_)
 ·
  skip
  refine AWP.seq ?_
  refine AWP.region ?_
  refine AOps.step (Val.of hσ rfl rfl) rfl rfl rfl ?_
  refine AOps.nil ?_
  refine AWP.ret ?_
  have hs0 : (stepR r).1 = false := by cases h : (stepR r).1 with | false => rfl | true => rw [h] at hc31; cases hc31
  have hrun : run1 (.node ⟨4, vr, ev, su, ix, fa⟩ a []) r = (false, (stepR r).2) := by rw [run1_nil, if_neg (by rw [hs0]; decide)]
  refine ⟨.inl rfl, _, (Ent.sel [500, 501, 502, 503] rfl rfl (e' := [(4, _)]) ⟨rfl, trivial⟩ rfl).trans (Ent.sub2 503 504 rfl rfl), _, rfl, ?_, ?_⟩
  ·
   rw [hrun]; rfl
  ·
   rw [hrun]; rfl
 ·
  skip
  refine AWP.skip ?_
  refine AWP.seq ?_
  refine AWP.region ?_
  have hs1 : (stepR r).1 = true := by cases h : (stepR r).1 with | true => rfl | false => rw [h] at hc31; cases hc31
  have hr1 := hr.step.ok
  obtain ⟨q, hq⟩ : ∃ q, q = (stepR r).2 := ⟨_, rfl⟩
  rw [← hq] at hr1 ⊢
  have hnv := hr1.nv
  have hnc := hr1.nc
  refine AOps.step (Val.of hσ rfl rfl) rfl rfl rfl ?_
  refine AOps.step (Val.of hσ rfl rfl) rfl rfl rfl ?_
  refine AOps.nil ?_
  refine AWP.seq ?_
  refine AWP.seq ?_
  refine AWP.region ?_
  refine AOps.step (Val.of hσ rfl rfl) rfl rfl rfl ?_
  refine AOps.step (Val.of hσ rfl rfl) rfl rfl rfl ?_
  refine AOps.step (Val.of hσ rfl rfl) rfl rfl rfl ?_
  refine AOps.step (Val.of hσ rfl rfl) rfl rfl rfl ?_
  refine AOps.step (Val.of hσ rfl rfl) rfl rfl rfl ?_
  refine AOps.step (Val.of hσ rfl rfl) rfl rfl rfl ?_
  refine AOps.forget [(37, _), (7, _), (6, _), (5, _), (4, _), (0, _), (1, _)] ⟨rfl, rfl, rfl, rfl, rfl, rfl, rfl, trivial⟩ ?_
  refine AOps.nil ?_
  refine AWP.cond hσ rfl rfl (fun hc37 => ?_) (fun hc37 => ?_)
  ·
   skip
   refine AWP.forget [(5, _), (4, _), (0, _), (1, _)] ⟨rfl, rfl, rfl, rfl, trivial⟩ ?_
   refine AWP.drawR hσ _ [_, _, _, _, _, _, _, _, _, _, _, _, _, _, _, _] [⟨[], 0, 0, none⟩, ⟨[0], 0, 0, none⟩, ⟨[0, 1], 0, 0, none⟩, ⟨[0, 1, 2], 0, 0, none⟩, ⟨[0, 1, 2, 3], 0, 0, none⟩, ⟨[], 0, 0, none⟩, ⟨[0, 1, 2, 3, 4, 5], 0, 0, some 0⟩, ⟨[], 0, 1, none⟩, ⟨[7], 0, 1, none⟩, ⟨[7, 8], 0, 1, none⟩, ⟨[7, 8, 9], 0, 1, none⟩, ⟨[7, 8, 9, 10], 0, 1, none⟩, ⟨[], 0, 1, none⟩, ⟨[0, 1, 2, 3, 4, 5, 6, 7, 8, 9, 10, 11, 12], 0, 0, some 1⟩, ⟨[0, 1, 2, 3, 4, 5, 6, 7, 8, 9, 10, 11, 12, 13], 2, 2, none⟩, ⟨[0, 1, 2, 3, 4, 5, 6, 7, 8, 9, 10, 11, 12, 13, 14], 2, 2, none⟩] [6, 13] [_, _, _] rfl rfl (by decide) (by decide) (by kernel_rfl) (And.intro (Val.of hσ rfl rfl) (And.intro (Val.of hσ rfl rfl) (And.intro (Val.of hσ rfl rfl) (And.intro (Val.of hσ rfl rfl) (And.intro (Val.of hσ rfl rfl) (And.intro (Val.of hσ rfl rfl) (And.intro (Eff.lone hσ (B0 := 45000) rfl rfl rfl rfl (c160 (t := su) (vars := q.vars) h1 h2 hsf.1 hr1.vars) (.cons (.agg (VMs.self rfl)) (.cons (.c (.whole rfl (by rw [List.length_map]; exact hnv.symm))) .nil)) rfl rfl rfl rfl rfl) (And.intro (And.intro (Val.of hσ rfl rfl) (Val.of hσ rfl rfl)) (And.intro (And.intro (Val.of hσ rfl rfl) (Val.of hσ rfl rfl)) (And.intro (And.intro (Val.of hσ rfl rfl) (Val.of hσ rfl rfl)) (And.intro (And.intro (Val.of hσ rfl rfl) (Val.of hσ rfl rfl)) (And.intro (And.intro (Val.of hσ rfl rfl) (Val.of hσ rfl rfl)) (And.intro (And.intro (Val.of hσ rfl rfl) (Val.of hσ rfl rfl)) (And.intro (Eff.lone hσ (B0 := 52000) rfl rfl rfl rfl (c160 (t := ix) (vars := q.vars) h1 h2 hsf.2 hr1.vars) (.cons (.agg (VMs.self rfl)) (.cons (.c (.whole rfl (by rw [List.length_map]; exact hnv.symm))) .nil)) rfl rfl rfl rfl rfl) (And.intro (Val.of hσ rfl rfl) (And.intro (Val.of hσ rfl rfl) trivial)))))))))))))))) ?_
   refine AWP.forget [(7, _), (6, _), (5, _), (4, _), (0, _), (1, _)] ⟨rfl, rfl, rfl, rfl, rfl, rfl, trivial⟩ ?_
   apply AWP.norm
   ·
    repeat' (first | exact q0 rfl | apply q1 rfl | exact q2 rfl | apply q3 rfl | exact q4 rfl | apply q5 rfl | exact q6 rfl | exact q7 rfl | exact q8)
   refine AWP.seq ?_
   refine AWP.seq ?_
   refine AWP.region ?_
   refine AOps.step (Val.of hσ rfl rfl) rfl rfl rfl ?_
   refine AOps.step (Val.of hσ rfl rfl) rfl rfl rfl ?_
   refine AOps.step (Val.of hσ rfl rfl) rfl rfl rfl ?_
   refine AOps.step (Val.of hσ rfl rfl) rfl rfl rfl ?_
   refine AOps.step (Val.of hσ rfl rfl) rfl rfl rfl ?_
   refine AOps.step (Val.of hσ rfl rfl) rfl rfl rfl ?_
   refine AOps.step (Val.of hσ rfl rfl) rfl rfl rfl ?_
   refine AOps.forget [(58, _), (7, _), (6, _), (5, _), (4, _), (0, _), (1, _)] ⟨rfl, rfl, rfl, rfl, rfl, rfl, rfl, trivial⟩ ?_
   refine AOps.live rfl rfl rfl rfl rfl ?_
   refine AOps.step (Val.of hσ rfl rfl) rfl rfl rfl ?_
   refine AOps.live rfl rfl rfl rfl rfl ?_
   refine AOps.step (Val.of hσ rfl rfl) rfl rfl rfl ?_
   refine AOps.forget [(60, _), (58, _), (7, _), (6, _), (5, _), (4, _), (0, _), (1, _)] ⟨rfl, rfl, rfl, rfl, rfl, rfl, rfl, rfl, trivial⟩ ?_
   refine AOps.live rfl rfl rfl rfl rfl ?_
   refine AOps.step (Val.of hσ rfl rfl) rfl rfl rfl ?_
   refine AOps.forget [(61, _), (58, _), (7, _), (6, _), (5, _), (4, _), (0, _), (1, _)] ⟨rfl, rfl, rfl, rfl, rfl, rfl, rfl, rfl, trivial⟩ ?_
   refine AOps.live rfl rfl rfl rfl rfl ?_
   refine AOps.step (Val.of hσ rfl rfl) rfl rfl rfl ?_
   refine AOps.forget [(62, _), (58, _), (7, _), (6, _), (5, _), (4, _), (0, _), (1, _)] ⟨rfl, rfl, rfl, rfl, rfl, rfl, rfl, rfl, trivial⟩ ?_
   refine AOps.live rfl rfl rfl rfl rfl ?_
   refine AOps.step (Val.of hσ rfl rfl) rfl rfl rfl ?_
   refine AOps.forget [(63, _), (58, _), (7, _), (6, _), (5, _), (4, _), (0, _), (1, _)] ⟨rfl, rfl, rfl, rfl, rfl, rfl, rfl, rfl, trivial⟩ ?_
   refine AOps.live rfl rfl rfl rfl rfl ?_
   refine AOps.step (Val.of hσ rfl rfl) rfl rfl rfl ?_
   refine AOps.step (Val.pickN hσ rfl rfl rfl rfl rfl) rfl rfl rfl ?_
   refine AOps.step (Val.of hσ rfl rfl) rfl rfl rfl ?_
   refine AOps.forget [(66, _), (7, _), (6, _), (5, _), (4, _), (0, _), (1, _)] ⟨rfl, rfl, rfl, rfl, rfl, rfl, rfl, trivial⟩ ?_
   refine AOps.live rfl rfl rfl rfl rfl ?_
   refine AOps.step (Val.of hσ rfl rfl) rfl rfl rfl ?_
   refine AOps.live rfl rfl rfl rfl rfl ?_
   refine AOps.lone hσ rfl rfl rfl rfl (c111 h1 h2) (VAs.self rfl) rfl rfl rfl rfl rfl (B0 := 69000) rfl ?_
   refine AOps.forget [(68, _), (66, _), (7, _), (6, _), (5, _), (4, _), (0, _), (1, _)] ⟨rfl, rfl, rfl, rfl, rfl, rfl, rfl, rfl, trivial⟩ ?_
   refine AOps.live rfl rfl rfl rfl rfl ?_
   refine AOps.step (Val.of hσ rfl rfl) rfl rfl rfl ?_
   refine AOps.step (Val.pickY hσ rfl rfl rfl rfl rfl) rfl rfl rfl ?_
   refine AOps.forget [(70, _), (7, _), (6, _), (5, _), (4, _), (0, _), (1, _)] ⟨rfl, rfl, rfl, rfl, rfl, rfl, rfl, trivial⟩ ?_
   refine AOps.nil ?_
   refine AWP.cond hσ rfl rfl (fun hc70 => ?_) (fun hc70 => ?_)
   ·
    skip
    refine AWP.seq ?_
    refine AWP.region ?_
    refine AOps.step (Val.of hσ rfl rfl) rfl rfl rfl ?_
    refine AOps.forget [(71, _), (7, _), (6, _), (5, _), (4, _), (0, _), (1, _)] ⟨rfl, rfl, rfl, rfl, rfl, rfl, rfl, trivial⟩ ?_
    have hb70 : inB 0 7 (evalT ix q.vars) = false := by cases h : inB 0 7 (evalT ix q.vars) with | false => rfl | true => exact absurd (show false = true from (by have h9 := hc70; rw [h] at h9; exact h9)) (by decide)
    refine AOps.inn hσ [500, 501, 502, 503] (bin := [rbox 3 q, nrow (q).vars, nrow (q).cells, nrow (q).events]) rfl rfl rfl rfl (c161 (r := q) (x := 2) h1 h2) rfl rfl rfl rfl rfl rfl (B0 := 73000) rfl rfl ?_
    apply AOps.norm
    ·
     repeat' (first | exact q0 rfl | apply q1 rfl | exact q2 rfl | apply q3 rfl | exact q4 rfl | apply q5 rfl | exact q6 rfl | exact q7 rfl | exact q8)
    refine AOps.step (Val.of hσ rfl rfl) rfl rfl rfl ?_
    refine AOps.forget [(4, _), (7, _), (6, _), (5, _), (0, _), (1, _)] ⟨rfl, rfl, rfl, rfl, rfl, rfl, trivial⟩ ?_
    refine AOps.nil ?_
    refine AWP.ret ?_
    have hrun : run1 (.node ⟨4, vr, ev, su, ix, fa⟩ a []) r = (false, { q with out := 2 }) := by rw [run1_nil, if_pos hs1, ← hq]; unfold leaf; rw [if_neg (by decide : ¬ (4 : Int) = 2), if_neg (by decide : ¬ (4 : Int) = 3), if_pos rfl, if_neg (show ¬ inB 0 7 (evalT ix q.vars) = true by rw [hb70]; decide)]
    refine ⟨.inl rfl, _, (Ent.sel [500, 501, 502, 503] rfl rfl (e' := [(4, _)]) ⟨rfl, trivial⟩ rfl).trans (Ent.sub2 503 504 rfl rfl), _, rfl, ?_, ?_⟩
    ·
     rw [hrun]; rfl
    ·
     rw [hrun]; rfl
   ·
    skip
    refine AWP.skip ?_
    refine AWP.seq ?_
    refine AWP.seq ?_
    refine AWP.region ?_
    have hb70 : inB 0 7 (evalT ix q.vars) = true := by cases h : inB 0 7 (evalT ix q.vars) with | true => rfl | false => exact absurd (show true = false from (by have h9 := hc70; rw [h] at h9; exact h9)) (by decide)
    have hin0 : 0 ≤ evalT ix q.vars ∧ evalT ix q.vars ≤ 7 := by simpa [inB] using hb70
    have hin1 := hin0.1
    have hin2 := hin0.2
    refine AOps.step (Val.of hσ rfl rfl) rfl rfl rfl ?_
    refine AOps.step (Val.of hσ rfl rfl) rfl rfl rfl ?_
    refine AOps.step (Val.of hσ rfl rfl) rfl rfl rfl ?_
    refine AOps.step (Val.of hσ rfl rfl) rfl rfl rfl ?_
    refine AOps.step (Val.of hσ rfl rfl) rfl rfl rfl ?_
    refine AOps.step (Val.of hσ rfl rfl) rfl rfl rfl ?_
    refine AOps.step (Val.of hσ rfl rfl) rfl rfl rfl ?_
    refine AOps.forget [(79, _), (7, _), (6, _), (5, _), (4, _), (0, _), (1, _)] ⟨rfl, rfl, rfl, rfl, rfl, rfl, rfl, trivial⟩ ?_
    refine AOps.live rfl rfl rfl rfl rfl ?_
    refine AOps.step (Val.of hσ rfl rfl) rfl rfl rfl ?_
    refine AOps.live rfl rfl rfl rfl rfl ?_
    refine AOps.step (Val.of hσ rfl rfl) rfl rfl rfl ?_
    refine AOps.forget [(81, _), (79, _), (7, _), (6, _), (5, _), (4, _), (0, _), (1, _)] ⟨rfl, rfl, rfl, rfl, rfl, rfl, rfl, rfl, trivial⟩ ?_
    refine AOps.live rfl rfl rfl rfl rfl ?_
    refine AOps.step (Val.of hσ rfl rfl) rfl rfl rfl ?_
    refine AOps.forget [(82, _), (79, _), (7, _), (6, _), (5, _), (4, _), (0, _), (1, _)] ⟨rfl, rfl, rfl, rfl, rfl, rfl, rfl, rfl, trivial⟩ ?_
    refine AOps.live rfl rfl rfl rfl rfl ?_
    refine AOps.step (Val.of hσ rfl rfl) rfl rfl rfl ?_
    refine AOps.forget [(83, _), (79, _), (7, _), (6, _), (5, _), (4, _), (0, _), (1, _)] ⟨rfl, rfl, rfl, rfl, rfl, rfl, rfl, rfl, trivial⟩ ?_
    refine AOps.live rfl rfl rfl rfl rfl ?_
    refine AOps.step (Val.of hσ rfl rfl) rfl rfl rfl ?_
    refine AOps.forget [(84, _), (79, _), (7, _), (6, _), (5, _), (4, _), (0, _), (1, _)] ⟨rfl, rfl, rfl, rfl, rfl, rfl, rfl, rfl, trivial⟩ ?_
    refine AOps.live rfl rfl rfl rfl rfl ?_
    refine AOps.step (Val.of hσ rfl rfl) rfl rfl rfl ?_
    refine AOps.step (Val.pickN hσ rfl rfl rfl rfl rfl) rfl rfl rfl ?_
    refine AOps.step (Val.of hσ rfl rfl) rfl rfl rfl ?_
    refine AOps.forget [(87, _), (7, _), (6, _), (5, _), (4, _), (0, _), (1, _)] ⟨rfl, rfl, rfl, rfl, rfl, rfl, rfl, trivial⟩ ?_
    refine AOps.live rfl rfl rfl rfl rfl ?_
    refine AOps.step (Val.of hσ rfl rfl) rfl rfl rfl ?_
    refine AOps.live rfl rfl rfl rfl rfl ?_
    refine AOps.lone hσ rfl rfl rfl rfl (c162 h1 h2) (VAs.self rfl) rfl rfl rfl rfl rfl (B0 := 90000) rfl ?_
    refine AOps.forget [(89, _), (87, _), (7, _), (6, _), (5, _), (4, _), (0, _), (1, _)] ⟨rfl, rfl, rfl, rfl, rfl, rfl, rfl, rfl, trivial⟩ ?_
    refine AOps.live rfl rfl rfl rfl rfl ?_
    refine AOps.step (Val.of hσ rfl rfl) rfl rfl rfl ?_
    refine AOps.step (Val.pickY hσ rfl rfl rfl rfl rfl) rfl rfl rfl ?_
    refine AOps.forget [(91, _), (7, _), (6, _), (5, _), (4, _), (0, _), (1, _)] ⟨rfl, rfl, rfl, rfl, rfl, rfl, rfl, trivial⟩ ?_
    refine AOps.nil ?_
    refine AWP.cond hσ rfl rfl (fun hc91 => ?_) (fun hc91 => ?_)
    ·
     skip
     refine AWP.seq ?_
     refine AWP.region ?_
     refine AOps.step (Val.of hσ rfl rfl) rfl rfl rfl ?_
     refine AOps.forget [(92, _), (7, _), (6, _), (5, _), (4, _), (0, _), (1, _)] ⟨rfl, rfl, rfl, rfl, rfl, rfl, rfl, trivial⟩ ?_
     have hb91 : big (evalT su q.vars) = false := by cases h : big (evalT su q.vars) with | false => rfl | true => exact absurd (show false = true from (by have h9 := hc91; rw [h] at h9; exact h9)) (by decide)
     refine AOps.inn hσ [500, 501, 502, 503] (bin := [rbox 3 q, nrow (q).vars, nrow (q).cells, nrow (q).events]) rfl rfl rfl rfl (c161 (r := q) (x := 4) h1 h2) rfl rfl rfl rfl rfl rfl (B0 := 94000) rfl rfl ?_
     apply AOps.norm
     ·
      repeat' (first | exact q0 rfl | apply q1 rfl | exact q2 rfl | apply q3 rfl | exact q4 rfl | apply q5 rfl | exact q6 rfl | exact q7 rfl | exact q8)
     refine AOps.step (Val.of hσ rfl rfl) rfl rfl rfl ?_
     refine AOps.forget [(4, _), (7, _), (6, _), (5, _), (0, _), (1, _)] ⟨rfl, rfl, rfl, rfl, rfl, rfl, trivial⟩ ?_
     refine AOps.nil ?_
     refine AWP.ret ?_
     have hrun : run1 (.node ⟨4, vr, ev, su, ix, fa⟩ a []) r = (false, { q with out := 4 }) := by rw [run1_nil, if_pos hs1, ← hq]; unfold leaf; rw [if_neg (by decide : ¬ (4 : Int) = 2), if_neg (by decide : ¬ (4 : Int) = 3), if_pos rfl, if_pos (show inB 0 7 (evalT ix q.vars) = true from hb70), if_neg (show ¬ big (evalT su q.vars) = true by rw [hb91]; decide)]
     refine ⟨.inl rfl, _, (Ent.sel [500, 501, 502, 503] rfl rfl (e' := [(4, _)]) ⟨rfl, trivial⟩ rfl).trans (Ent.sub2 503 504 rfl rfl), _, rfl, ?_, ?_⟩
     ·
      rw [hrun]; rfl
     ·
      rw [hrun]; rfl
    ·
     skip
     refine AWP.skip ?_
     refine AWP.seq ?_
     refine AWP.seq ?_
     refine AWP.region ?_
     have hb91 : big (evalT su q.vars) = true := by cases h : big (evalT su q.vars) with | true => rfl | false => exact absurd (show true = false from (by have h9 := hc91; rw [h] at h9; exact h9)) (by decide)
     refine AOps.step (Val.of hσ rfl rfl) rfl rfl rfl ?_
     refine AOps.step (Val.of hσ rfl rfl) rfl rfl rfl ?_
     refine AOps.step (Val.of hσ rfl rfl) rfl rfl rfl ?_
     refine AOps.step (Val.of hσ rfl rfl) rfl rfl rfl ?_
     refine AOps.step (Val.of hσ rfl rfl) rfl rfl rfl ?_
     refine AOps.forget [(98, _), (7, _), (6, _), (5, _), (4, _), (0, _), (1, _)] ⟨rfl, rfl, rfl, rfl, rfl, rfl, rfl, trivial⟩ ?_
     refine AOps.nil ?_
     refine AWP.block ?_
     refine AWP.seq ?_
     refine AWP.region ?_
     refine AOps.step (Val.of hσ rfl rfl) rfl rfl rfl ?_
     refine AOps.step (Val.of hσ rfl rfl) rfl rfl rfl ?_
     refine AOps.nil ?_
     refine AWP.cond hσ rfl rfl (fun hc99 => ?_) (fun hc99 => ?_)
     ·
      skip
      exact absurd (show false = true from hc99) (by decide)
     ·
      skip
      refine AWP.seq ?_
      refine AWP.region ?_
      refine AOps.step (Val.of hσ rfl rfl) rfl rfl rfl ?_
      refine AOps.step (Val.of hσ rfl rfl) rfl rfl rfl ?_
      refine AOps.forget [(119, _), (100, _), (98, _), (7, _), (6, _), (5, _), (4, _), (0, _), (1, _)] ⟨rfl, rfl, rfl, rfl, rfl, rfl, rfl, rfl, rfl, trivial⟩ ?_
      refine AOps.nil ?_
      refine AWP.cond hσ rfl rfl (fun hc119 => ?_) (fun hc119 => ?_)
      ·
       skip
       exact absurd (show false = true from hc119) (by decide)
      ·
       skip
       refine AWP.seq ?_
       refine AWP.region ?_
       refine AOps.step (Val.of hσ rfl rfl) rfl rfl rfl ?_
       refine AOps.step (Val.of hσ rfl rfl) rfl rfl rfl ?_
       refine AOps.forget [(129, _), (100, _), (98, _), (7, _), (6, _), (5, _), (4, _), (0, _), (1, _)] ⟨rfl, rfl, rfl, rfl, rfl, rfl, rfl, rfl, rfl, trivial⟩ ?_
       refine AOps.nil ?_
       refine AWP.cond hσ rfl rfl (fun hc129 => ?_) (fun hc129 => ?_)
       ·
        skip
        exact absurd (show false = true from hc129) (by decide)
       ·
        skip
        refine AWP.seq ?_
        refine AWP.region ?_
        refine AOps.step (Val.of hσ rfl rfl) rfl rfl rfl ?_
        refine AOps.step (Val.of hσ rfl rfl) rfl rfl rfl ?_
        refine AOps.forget [(146, _), (100, _), (98, _), (7, _), (6, _), (5, _), (4, _), (0, _), (1, _)] ⟨rfl, rfl, rfl, rfl, rfl, rfl, rfl, rfl, rfl, trivial⟩ ?_
        refine AOps.nil ?_
        refine AWP.cond hσ rfl rfl (fun hc146 => ?_) (fun hc146 => ?_)
        ·
         skip
         refine AWP.region ?_
         refine AOps.step (Val.of hσ rfl rfl) rfl rfl rfl ?_
         refine AOps.step (Val.of hσ rfl rfl) rfl rfl rfl ?_
         refine AOps.step (Val.of hσ rfl rfl) rfl rfl rfl ?_
         refine AOps.step (Val.of hσ rfl rfl) rfl rfl rfl ?_
         refine AOps.step (Val.of hσ rfl rfl) rfl rfl rfl ?_
         refine AOps.step (Val.of hσ rfl rfl) rfl rfl rfl ?_
         refine AOps.step (Val.of hσ rfl rfl) rfl rfl rfl ?_
         first | refine AOps.step (Val.indexD hσ rfl rfl rfl rfl rfl rfl rfl rfl (by first | omega | (simp at *; omega)) (idx_get (by first | omega | (simp at *; omega)) (by first | omega | (simp at *; omega)))) rfl rfl rfl ?_ | refine AOps.step (Val.vif hσ rfl rfl (by first | omega | (simp at *; omega))) rfl rfl rfl ?_
         refine AOps.forget [(155, _), (154, _), (100, _), (98, _), (7, _), (6, _), (5, _), (4, _), (0, _), (1, _)] ⟨rfl, rfl, rfl, rfl, rfl, rfl, rfl, rfl, rfl, rfl, trivial⟩ ?_
         refine AOps.heap (HS.storeRow (ex := [.int .i64 (q.cells.getD (evalT ix q.vars).toNat default)]) (xs' := (q.cells.set (evalT ix q.vars).toNat (evalT su q.vars)).map fun n => [.int .i64 n]) hσ rfl rfl rfl rfl rfl rfl rfl rfl rfl rfl rfl rfl rfl rfl (by simp [show (evalT ix q.vars).toNat < q.cells.length by omega]) (by simp [List.map_set])) rfl ?_
         apply AOps.norm
         ·
          repeat' (first | exact q0 rfl | apply q1 rfl | exact q2 rfl | apply q3 rfl | exact q4 rfl | apply q5 rfl | exact q6 rfl | exact q7 rfl | exact q8)
         refine AOps.forget [(100, _), (98, _), (7, _), (6, _), (5, _), (4, _), (0, _), (1, _)] ⟨rfl, rfl, rfl, rfl, rfl, rfl, rfl, rfl, trivial⟩ ?_
         refine AOps.nil ?_
         refine AWP.seq ?_
         refine AWP.region ?_
         refine AOps.step (Val.of hσ rfl rfl) rfl rfl rfl ?_
         refine AOps.nil ?_
         refine AWP.ret ?_
         have hrun : run1 (.node ⟨4, vr, ev, su, ix, fa⟩ a []) r = (true, { q with cells := q.cells.set (evalT ix q.vars).toNat (evalT su q.vars) }) := by rw [run1_nil, if_pos hs1, ← hq]; unfold leaf; rw [if_neg (by decide : ¬ (4 : Int) = 2), if_neg (by decide : ¬ (4 : Int) = 3), if_pos rfl, if_pos (show inB 0 7 (evalT ix q.vars) = true from hb70), if_pos (show big (evalT su q.vars) = true from hb91)]
         refine ⟨.inl rfl, _, (Ent.sel [500, 501, 502, 503] rfl rfl (e' := [(4, _)]) ⟨rfl, trivial⟩ rfl).trans (Ent.sub2 503 504 rfl rfl), _, rfl, ?_, ?_⟩
         ·
          rw [hrun]; rfl
         ·
          rw [hrun]; rfl
        ·
         skip
         exact absurd (show true = false from hc146) (by decide)
  ·
   skip
   exact absurd (show true = false from hc37) (by decide)
theorem c114_5 {L : Nat} (h1 : 4096 ≤ L) (h2 : L ≤ 1073741824) {vr ev a : Int} {su ix : Tm} {fa : List Tm} {r : RS} (hst : stmtB ⟨5, vr, ev, su, ix, fa⟩ = true) (hr : RSok r) : MC Try.prog L 114 [.c (.pt 0 0 0), .c (.d (Tr.d (.node ⟨5, vr, ev, su, ix, fa⟩ a [])))] (rH 3 r) (Outs (eB (run1 (.node ⟨5, vr, ev, su, ix, fa⟩ a []) r).1) (rH 4 (run1 (.node ⟨5, vr, ev, su, ix, fa⟩ a []) r).2)) := by
 refine MC.shift 500 rfl ?_
 have hσ := SgOk.withIns (js := [500, 501, 502, 503]) (SGok (nt := 219) h1 (Nat.le_trans h2 (by decide)))
 refine MC.bodyH hσ Try.func114 (by kernel_rfl) rfl rfl rfl (Nat.le_of_ble_eq_true rfl) (fun hF => ?_)
 apply AWP.norm
 ·
  repeat' (first | exact q0 rfl | apply q1 rfl | exact q2 rfl | apply q3 rfl | exact q4 rfl | apply q5 rfl | exact q6 rfl | exact q7 rfl | exact q8)
 have hsf := stmt_facts hst
 refine AWP.seq ?_
 refine AWP.region ?_
 refine AOps.step (Val.of hσ rfl rfl) rfl rfl rfl ?_
 refine AOps.nil ?_
 refine AWP.seq ?_
 refine AWP.region ?_
 refine AOps.step (Val.of hσ rfl rfl) rfl rfl rfl ?_
 refine AOps.step (Val.of hσ rfl rfl) rfl rfl rfl ?_
 refine AOps.step (Val.of hσ rfl rfl) rfl rfl rfl ?_
 refine AOps.step (Val.of hσ rfl rfl) rfl rfl rfl ?_
 refine AOps.step (Val.of hσ rfl rfl) rfl rfl rfl ?_
 refine AOps.step (Val.of hσ rfl rfl) rfl rfl rfl ?_
 refine AOps.forget [(5, _), (4, _), (0, _), (1, _)] ⟨rfl, rfl, rfl, rfl, trivial⟩ ?_
 refine AOps.nil ?_
 refine AWP.seq ?_
 refine AWP.seq ?_
 refine AWP.region ?_
 refine AOps.step (Val.of hσ rfl rfl) rfl rfl rfl ?_
 refine AOps.step (Val.of hσ rfl rfl) rfl rfl rfl ?_
 refine AOps.step (Val.of hσ rfl rfl) rfl rfl rfl ?_
 refine AOps.step (Val.of hσ rfl rfl) rfl rfl rfl ?_
 refine AOps.step (Val.of hσ rfl rfl) rfl rfl rfl ?_
 refine AOps.step (Val.of hσ rfl rfl) rfl rfl rfl ?_
 refine AOps.step (Val.of hσ rfl rfl) rfl rfl rfl ?_
 refine AOps.forget [(19, _), (5, _), (4, _), (0, _), (1, _)] ⟨rfl, rfl, rfl, rfl, rfl, trivial⟩ ?_
 refine AOps.live rfl rfl rfl rfl rfl ?_
 refine AOps.step (Val.of hσ rfl rfl) rfl rfl rfl ?_
 refine AOps.live rfl rfl rfl rfl rfl ?_
 refine AOps.step (Val.of hσ rfl rfl) rfl rfl rfl ?_
 refine AOps.forget [(21, _), (19, _), (5, _), (4, _), (0, _), (1, _)] ⟨rfl, rfl, rfl, rfl, rfl, rfl, trivial⟩ ?_
 refine AOps.live rfl rfl rfl rfl rfl ?_
 refine AOps.step (Val.of hσ rfl rfl) rfl rfl rfl ?_
 refine AOps.forget [(22, _), (19, _), (5, _), (4, _), (0, _), (1, _)] ⟨rfl, rfl, rfl, rfl, rfl, rfl, trivial⟩ ?_
 refine AOps.live rfl rfl rfl rfl rfl ?_
 refine AOps.step (Val.of hσ rfl rfl) rfl rfl rfl ?_
 refine AOps.forget [(23, _), (19, _), (5, _), (4, _), (0, _), (1, _)] ⟨rfl, rfl, rfl, rfl, rfl, rfl, trivial⟩ ?_
 refine AOps.live rfl rfl rfl rfl rfl ?_
 refine AOps.step (Val.of hσ rfl rfl) rfl rfl rfl ?_
 refine AOps.forget [(24, _), (19, _), (5, _), (4, _), (0, _), (1, _)] ⟨rfl, rfl, rfl, rfl, rfl, rfl, trivial⟩ ?_
 refine AOps.live rfl rfl rfl rfl rfl ?_
 refine AOps.step (Val.of hσ rfl rfl) rfl rfl rfl ?_
 refine AOps.step (Val.pickY hσ rfl rfl rfl rfl rfl) rfl rfl rfl ?_
 refine AOps.step (Val.of hσ rfl rfl) rfl rfl rfl ?_
 refine AOps.forget [(27, _), (5, _), (4, _), (0, _), (1, _)] ⟨rfl, rfl, rfl, rfl, rfl, trivial⟩ ?_
 refine AOps.live rfl rfl rfl rfl rfl ?_
 refine AOps.step (Val.of hσ rfl rfl) rfl rfl rfl ?_
 refine AOps.live rfl rfl rfl rfl rfl ?_
 refine AOps.inn hσ [500, 501, 502, 503] (bin := [rbox 3 r, nrow (r).vars, nrow (r).cells, nrow (r).events]) rfl rfl rfl rfl (c159 (r := r) h1 h2 hr.lo (Int.le_trans hr.hi (Int.le_trans hr.fuel (by decide)))) rfl rfl rfl rfl rfl rfl (B0 := 30000) rfl rfl ?_
 apply AOps.norm
 ·
  repeat' (first | exact q0 rfl | apply q1 rfl | exact q2 rfl | apply q3 rfl | exact q4 rfl | apply q5 rfl | exact q6 rfl | exact q7 rfl | exact q8)
 refine AOps.forget [(29, _), (27, _), (5, _), (4, _), (0, _), (1, _)] ⟨rfl, rfl, rfl, rfl, rfl, rfl, trivial⟩ ?_
 refine AOps.live rfl rfl rfl rfl rfl ?_
 refine AOps.step (Val.of hσ rfl rfl) rfl rfl rfl ?_
 refine AOps.step (Val.pickY hσ rfl rfl rfl rfl rfl) rfl rfl rfl ?_
 refine AOps.forget [(31, _), (5, _), (4, _), (0, _), (1, _)] ⟨rfl, rfl, rfl, rfl, rfl, trivial⟩ ?_
 refine AOps.nil ?_
 refine AWP.cond hσ rfl rfl (fun hc31 => ?_) (fun hc31 => ?_)
 ·
  skip
  refine AWP.seq ?_
  refine AWP.region ?_
  refine AOps.step (Val.of hσ rfl rfl) rfl rfl rfl ?_
  refine AOps.nil ?_
  refine AWP.ret ?_
  have hs0 : (stepR r).1 = false := by cases h : (stepR r).1 with | false => rfl | true => rw [h] at hc31; cases hc31
  have hrun : run1 (.node ⟨5, vr, ev, su, ix, fa⟩ a []) r = (false, (stepR r).2) := by rw [run1_nil, if_neg (by rw [hs0]; decide)]
  refine ⟨.inl rfl, _, (Ent.sel [500, 501, 502, 503] rfl rfl (e' := [(4, _)]) ⟨rfl, trivial⟩ rfl).trans (Ent.sub2 503 504 rfl rfl), _, rfl, ?_, ?_⟩
  ·
   rw [hrun]; rfl
  ·
   rw [hrun]; rfl
 ·
  skip
  refine AWP.skip ?_
  refine AWP.seq ?_
  refine AWP.region ?_
  have hs1 : (stepR r).1 = true := by cases h : (stepR r).1 with | true => rfl | false => rw [h] at hc31; cases hc31
  have hr1 := hr.step.ok
  obtain ⟨q, hq⟩ : ∃ q, q = (stepR r).2 := ⟨_, rfl⟩
  rw [← hq] at hr1 ⊢
  have hnv := hr1.nv
  have hnc := hr1.nc
  refine AOps.step (Val.of hσ rfl rfl) rfl rfl rfl ?_
  refine AOps.step (Val.of hσ rfl rfl) rfl rfl rfl ?_
  refine AOps.nil ?_
  refine AWP.seq ?_
  refine AWP.seq ?_
  refine AWP.region ?_
  refine AOps.step (Val.of hσ rfl rfl) rfl rfl rfl ?_
  refine AOps.step (Val.of hσ rfl rfl) rfl rfl rfl ?_
  refine AOps.step (Val.of hσ rfl rfl) rfl rfl rfl ?_
  refine AOps.step (Val.of hσ rfl rfl) rfl rfl rfl ?_
  refine AOps.step (Val.of hσ rfl rfl) rfl rfl rfl ?_
  refine AOps.step (Val.of hσ rfl rfl) rfl rfl rfl ?_
  refine AOps.forget [(37, _), (7, _), (6, _), (5, _), (4, _), (0, _), (1, _)] ⟨rfl, rfl, rfl, rfl, rfl, rfl, rfl, trivial⟩ ?_
  refine AOps.nil ?_
  refine AWP.cond hσ rfl rfl (fun hc37 => ?_) (fun hc37 => ?_)
  ·
   skip
   refine AWP.forget [(5, _), (4, _), (0, _), (1, _)] ⟨rfl, rfl, rfl, rfl, trivial⟩ ?_
   refine AWP.drawR hσ _ [_, _, _, _, _, _, _, _, _, _, _, _, _, _, _, _] [⟨[], 0, 0, none⟩, ⟨[0], 0, 0, none⟩, ⟨[0, 1], 0, 0, none⟩, ⟨[0, 1, 2], 0, 0, none⟩, ⟨[0, 1, 2, 3], 0, 0, none⟩, ⟨[], 0, 0, none⟩, ⟨[0, 1, 2, 3, 4, 5], 0, 0, some 0⟩, ⟨[], 0, 1, none⟩, ⟨[7], 0, 1, none⟩, ⟨[7, 8], 0, 1, none⟩, ⟨[7, 8, 9], 0, 1, none⟩, ⟨[7, 8, 9, 10], 0, 1, none⟩, ⟨[], 0, 1, none⟩, ⟨[0, 1, 2, 3, 4, 5, 6, 7, 8, 9, 10, 11, 12], 0, 0, some 1⟩, ⟨[0, 1, 2, 3, 4, 5, 6, 7, 8, 9, 10, 11, 12, 13], 2, 2, none⟩, ⟨[0, 1, 2, 3, 4, 5, 6, 7, 8, 9, 10, 11, 12, 13, 14], 2, 2, none⟩] [6, 13] [_, _, _] rfl rfl (by decide) (by decide) (by kernel_rfl) (And.intro (Val.of hσ rfl rfl) (And.intro (Val.of hσ rfl rfl) (And.intro (Val.of hσ rfl rfl) (And.intro (Val.of hσ rfl rfl) (And.intro (Val.of hσ rfl rfl) (And.intro (Val.of hσ rfl rfl) (And.intro (Eff.lone hσ (B0 := 45000) rfl rfl rfl rfl (c160 (t := su) (vars := q.vars) h1 h2 hsf.1 hr1.vars) (.cons (.agg (VMs.self rfl)) (.cons (.c (.whole rfl (by rw [List.length_map]; exact hnv.symm))) .nil)) rfl rfl rfl rfl rfl) (And.intro (And.intro (Val.of hσ rfl rfl) (Val.of hσ rfl rfl)) (And.intro (And.intro (Val.of hσ rfl rfl) (Val.of hσ rfl rfl)) (And.intro (And.intro (Val.of hσ rfl rfl) (Val.of hσ rfl rfl)) (And.intro (And.intro (Val.of hσ rfl rfl) (Val.of hσ rfl rfl)) (And.intro (And.intro (Val.of hσ rfl rfl) (Val.of hσ rfl rfl)) (And.intro (And.intro (Val.of hσ rfl rfl) (Val.of hσ rfl rfl)) (And.intro (Eff.lone hσ (B0 := 52000) rfl rfl rfl rfl (c160 (t := ix) (vars := q.vars) h1 h2 hsf.2 hr1.vars) (.cons (.agg (VMs.self rfl)) (.cons (.c (.whole rfl (by rw [List.length_map]; exact hnv.symm))) .nil)) rfl rfl rfl rfl rfl) (And.intro (Val.of hσ rfl rfl) (And.intro (Val.of hσ rfl rfl) trivial)))))))))))))))) ?_
   refine AWP.forget [(7, _), (6, _), (5, _), (4, _), (0, _), (1, _)] ⟨rfl, rfl, rfl, rfl, rfl, rfl, trivial⟩ ?_
   apply AWP.norm
   ·
    repeat' (first | exact q0 rfl | apply q1 rfl | exact q2 rfl | apply q3 rfl | exact q4 rfl | apply q5 rfl | exact q6 rfl | exact q7 rfl | exact q8)
   refine AWP.seq ?_
   refine AWP.seq ?_
   refine AWP.region ?_
   refine AOps.step (Val.of hσ rfl rfl) rfl rfl rfl ?_
   refine AOps.step (Val.of hσ rfl rfl) rfl rfl rfl ?_
   refine AOps.step (Val.of hσ rfl rfl) rfl rfl rfl ?_
   refine AOps.step (Val.of hσ rfl rfl) rfl rfl rfl ?_
   refine AOps.step (Val.of hσ rfl rfl) rfl rfl rfl ?_
   refine AOps.step (Val.of hσ rfl rfl) rfl rfl rfl ?_
   refine AOps.step (Val.of hσ rfl rfl) rfl rfl rfl ?_
   refine AOps.forget [(58, _), (7, _), (6, _), (5, _), (4, _), (0, _), (1, _)] ⟨rfl, rfl, rfl, rfl, rfl, rfl, rfl, trivial⟩ ?_
   refine AOps.live rfl rfl rfl rfl rfl ?_
   refine AOps.step (Val.of hσ rfl rfl) rfl rfl rfl ?_
   refine AOps.live rfl rfl rfl rfl rfl ?_
   refine AOps.step (Val.of hσ rfl rfl) rfl rfl rfl ?_
   refine AOps.forget [(60, _), (58, _), (7, _), (6, _), (5, _), (4, _), (0, _), (1, _)] ⟨rfl, rfl, rfl, rfl, rfl, rfl, rfl, rfl, trivial⟩ ?_
   refine AOps.live rfl rfl rfl rfl rfl ?_
   refine AOps.step (Val.of hσ rfl rfl) rfl rfl rfl ?_
   refine AOps.forget [(61, _), (58, _), (7, _), (6, _), (5, _), (4, _), (0, _), (1, _)] ⟨rfl, rfl, rfl, rfl, rfl, rfl, rfl, rfl, trivial⟩ ?_
   refine AOps.live rfl rfl rfl rfl rfl ?_
   refine AOps.step (Val.of hσ rfl rfl) rfl rfl rfl ?_
   refine AOps.forget [(62, _), (58, _), (7, _), (6, _), (5, _), (4, _), (0, _), (1, _)] ⟨rfl, rfl, rfl, rfl, rfl, rfl, rfl, rfl, trivial⟩ ?_
   refine AOps.live rfl rfl rfl rfl rfl ?_
   refine AOps.step (Val.of hσ rfl rfl) rfl rfl rfl ?_
   refine AOps.forget [(63, _), (58, _), (7, _), (6, _), (5, _), (4, _), (0, _), (1, _)] ⟨rfl, rfl, rfl, rfl, rfl, rfl, rfl, rfl, trivial⟩ ?_
   refine AOps.live rfl rfl rfl rfl rfl ?_
   refine AOps.step (Val.of hσ rfl rfl) rfl rfl rfl ?_
   refine AOps.step (Val.pickN hσ rfl rfl rfl rfl rfl) rfl rfl rfl ?_
   refine AOps.step (Val.of hσ rfl rfl) rfl rfl rfl ?_
   refine AOps.forget [(66, _), (7, _), (6, _), (5, _), (4, _), (0, _), (1, _)] ⟨rfl, rfl, rfl, rfl, rfl, rfl, rfl, trivial⟩ ?_
   refine AOps.skip rfl rfl rfl rfl rfl rfl ?_
   refine AOps.skip rfl rfl rfl rfl rfl rfl ?_
   refine AOps.forget [(68, _), (66, _), (7, _), (6, _), (5, _), (4, _), (0, _), (1, _)] ⟨rfl, rfl, rfl, rfl, rfl, rfl, rfl, rfl, trivial⟩ ?_
   refine AOps.skip rfl rfl rfl rfl rfl rfl ?_
   refine AOps.step (Val.pickN hσ rfl rfl rfl rfl rfl) rfl rfl rfl ?_
   refine AOps.forget [(70, _), (7, _), (6, _), (5, _), (4, _), (0, _), (1, _)] ⟨rfl, rfl, rfl, rfl, rfl, rfl, rfl, trivial⟩ ?_
   refine AOps.nil ?_
   refine AWP.cond hσ rfl rfl (fun hc70 => ?_) (fun hc70 => ?_)
   ·
    skip
    exact absurd (show false = true from hc70) (by decide)
   ·
    skip
    refine AWP.skip ?_
    refine AWP.seq ?_
    refine AWP.seq ?_
    refine AWP.region ?_
    refine AOps.step (Val.of hσ rfl rfl) rfl rfl rfl ?_
    refine AOps.step (Val.of hσ rfl rfl) rfl rfl rfl ?_
    refine AOps.step (Val.of hσ rfl rfl) rfl rfl rfl ?_
    refine AOps.step (Val.of hσ rfl rfl) rfl rfl rfl ?_
    refine AOps.step (Val.of hσ rfl rfl) rfl rfl rfl ?_
    refine AOps.step (Val.of hσ rfl rfl) rfl rfl rfl ?_
    refine AOps.step (Val.of hσ rfl rfl) rfl rfl rfl ?_
    refine AOps.forget [(79, _), (7, _), (6, _), (5, _), (4, _), (0, _), (1, _)] ⟨rfl, rfl, rfl, rfl, rfl, rfl, rfl, trivial⟩ ?_
    refine AOps.live rfl rfl rfl rfl rfl ?_
    refine AOps.step (Val.of hσ rfl rfl) rfl rfl rfl ?_
    refine AOps.live rfl rfl rfl rfl rfl ?_
    refine AOps.step (Val.of hσ rfl rfl) rfl rfl rfl ?_
    refine AOps.forget [(81, _), (79, _), (7, _), (6, _), (5, _), (4, _), (0, _), (1, _)] ⟨rfl, rfl, rfl, rfl, rfl, rfl, rfl, rfl, trivial⟩ ?_
    refine AOps.live rfl rfl rfl rfl rfl ?_
    refine AOps.step (Val.of hσ rfl rfl) rfl rfl rfl ?_
    refine AOps.forget [(82, _), (79, _), (7, _), (6, _), (5, _), (4, _), (0, _), (1, _)] ⟨rfl, rfl, rfl, rfl, rfl, rfl, rfl, rfl, trivial⟩ ?_
    refine AOps.live rfl rfl rfl rfl rfl ?_
    refine AOps.step (Val.of hσ rfl rfl) rfl rfl rfl ?_
    refine AOps.forget [(83, _), (79, _), (7, _), (6, _), (5, _), (4, _), (0, _), (1, _)] ⟨rfl, rfl, rfl, rfl, rfl, rfl, rfl, rfl, trivial⟩ ?_
    refine AOps.live rfl rfl rfl rfl rfl ?_
    refine AOps.step (Val.of hσ rfl rfl) rfl rfl rfl ?_
    refine AOps.forget [(84, _), (79, _), (7, _), (6, _), (5, _), (4, _), (0, _), (1, _)] ⟨rfl, rfl, rfl, rfl, rfl, rfl, rfl, rfl, trivial⟩ ?_
    refine AOps.live rfl rfl rfl rfl rfl ?_
    refine AOps.step (Val.of hσ rfl rfl) rfl rfl rfl ?_
    refine AOps.step (Val.pickN hσ rfl rfl rfl rfl rfl) rfl rfl rfl ?_
    refine AOps.step (Val.of hσ rfl rfl) rfl rfl rfl ?_
    refine AOps.forget [(87, _), (7, _), (6, _), (5, _), (4, _), (0, _), (1, _)] ⟨rfl, rfl, rfl, rfl, rfl, rfl, rfl, trivial⟩ ?_
    refine AOps.skip rfl rfl rfl rfl rfl rfl ?_
    refine AOps.skip rfl rfl rfl rfl rfl rfl ?_
    refine AOps.forget [(89, _), (87, _), (7, _), (6, _), (5, _), (4, _), (0, _), (1, _)] ⟨rfl, rfl, rfl, rfl, rfl, rfl, rfl, rfl, trivial⟩ ?_
    refine AOps.skip rfl rfl rfl rfl rfl rfl ?_
    refine AOps.step (Val.pickN hσ rfl rfl rfl rfl rfl) rfl rfl rfl ?_
    refine AOps.forget [(91, _), (7, _), (6, _), (5, _), (4, _), (0, _), (1, _)] ⟨rfl, rfl, rfl, rfl, rfl, rfl, rfl, trivial⟩ ?_
    refine AOps.nil ?_
    refine AWP.cond hσ rfl rfl (fun hc91 => ?_) (fun hc91 => ?_)
    ·
     skip
     exact absurd (show false = true from hc91) (by decide)
    ·
     skip
     refine AWP.skip ?_
     refine AWP.seq ?_
     refine AWP.seq ?_
     refine AWP.region ?_
     refine AOps.step (Val.of hσ rfl rfl) rfl rfl rfl ?_
     refine AOps.step (Val.of hσ rfl rfl) rfl rfl rfl ?_
     refine AOps.step (Val.of hσ rfl rfl) rfl rfl rfl ?_
     refine AOps.step (Val.of hσ rfl rfl) rfl rfl rfl ?_
     refine AOps.step (Val.of hσ rfl rfl) rfl rfl rfl ?_
     refine AOps.forget [(98, _), (7, _), (6, _), (5, _), (4, _), (0, _), (1, _)] ⟨rfl, rfl, rfl, rfl, rfl, rfl, rfl, trivial⟩ ?_
     refine AOps.nil ?_
     refine AWP.block ?_
     refine AWP.seq ?_
     refine AWP.region ?_
     refine AOps.step (Val.of hσ rfl rfl) rfl rfl rfl ?_
     refine AOps.step (Val.of hσ rfl rfl) rfl rfl rfl ?_
     refine AOps.nil ?_
     refine AWP.cond hσ rfl rfl (fun hc99 => ?_) (fun hc99 => ?_)
     ·
      skip
      exact absurd (show false = true from hc99) (by decide)
     ·
      skip
      refine AWP.seq ?_
      refine AWP.region ?_
      refine AOps.step (Val.of hσ rfl rfl) rfl rfl rfl ?_
      refine AOps.step (Val.of hσ rfl rfl) rfl rfl rfl ?_
      refine AOps.forget [(119, _), (100, _), (98, _), (7, _), (6, _), (5, _), (4, _), (0, _), (1, _)] ⟨rfl, rfl, rfl, rfl, rfl, rfl, rfl, rfl, rfl, trivial⟩ ?_
      refine AOps.nil ?_
      refine AWP.cond hσ rfl rfl (fun hc119 => ?_) (fun hc119 => ?_)
      ·
       skip
       exact absurd (show false = true from hc119) (by decide)
      ·
       skip
       refine AWP.seq ?_
       refine AWP.region ?_
       refine AOps.step (Val.of hσ rfl rfl) rfl rfl rfl ?_
       refine AOps.step (Val.of hσ rfl rfl) rfl rfl rfl ?_
       refine AOps.forget [(129, _), (100, _), (98, _), (7, _), (6, _), (5, _), (4, _), (0, _), (1, _)] ⟨rfl, rfl, rfl, rfl, rfl, rfl, rfl, rfl, rfl, trivial⟩ ?_
       refine AOps.nil ?_
       refine AWP.cond hσ rfl rfl (fun hc129 => ?_) (fun hc129 => ?_)
       ·
        skip
        exact absurd (show false = true from hc129) (by decide)
       ·
        skip
        refine AWP.seq ?_
        refine AWP.region ?_
        refine AOps.step (Val.of hσ rfl rfl) rfl rfl rfl ?_
        refine AOps.step (Val.of hσ rfl rfl) rfl rfl rfl ?_
        refine AOps.forget [(146, _), (100, _), (98, _), (7, _), (6, _), (5, _), (4, _), (0, _), (1, _)] ⟨rfl, rfl, rfl, rfl, rfl, rfl, rfl, rfl, rfl, trivial⟩ ?_
        refine AOps.nil ?_
        refine AWP.cond hσ rfl rfl (fun hc146 => ?_) (fun hc146 => ?_)
        ·
         skip
         exact absurd (show false = true from hc146) (by decide)
        ·
         skip
         refine AWP.seq ?_
         refine AWP.region ?_
         refine AOps.step (Val.of hσ rfl rfl) rfl rfl rfl ?_
         refine AOps.step (Val.of hσ rfl rfl) rfl rfl rfl ?_
         refine AOps.forget [(156, _), (100, _), (98, _), (7, _), (6, _), (5, _), (4, _), (0, _), (1, _)] ⟨rfl, rfl, rfl, rfl, rfl, rfl, rfl, rfl, rfl, trivial⟩ ?_
         refine AOps.nil ?_
         refine AWP.cond hσ rfl rfl (fun hc156 => ?_) (fun hc156 => ?_)
         ·
          skip
          refine AWP.forget [(100, _), (98, _), (7, _), (6, _), (5, _), (4, _), (0, _), (1, _)] ⟨rfl, rfl, rfl, rfl, rfl, rfl, rfl, rfl, trivial⟩ ?_
          have hev := hr1.events
          have hhi := hr1.hi
          have hfu := hr1.fuel
          refine AWP.drawP hσ _ [_, _, _, _, _, _, _, _, _, _, _, _, _, _, _] [⟨[], 0, 2, none⟩, ⟨[], 0, 1, none⟩, ⟨[1], 0, 1, none⟩, ⟨[1, 2], 0, 1, none⟩, ⟨[1, 2, 3], 0, 1, none⟩, ⟨[], 0, 0, none⟩, ⟨[5], 0, 0, none⟩, ⟨[5, 6], 0, 0, none⟩, ⟨[5, 6, 7], 0, 0, none⟩, ⟨[5, 6, 7, 8], 0, 0, none⟩, ⟨[5, 6, 7, 8, 9], 0, 0, some 0⟩, ⟨[1, 2, 3, 4, 5, 6, 7, 8, 9, 10], 0, 0, some 1⟩, ⟨[0, 1, 2, 3, 4, 5, 6, 7, 8, 9, 10, 11], 2, 2, none⟩, ⟨[0, 1, 2, 3, 4, 5, 6, 7, 8, 9, 10, 11, 12], 2, 2, none⟩, ⟨[0, 1, 2, 3, 4, 5, 6, 7, 8, 9, 10, 11, 12, 13], 0, 0, some 2⟩] [10, 11, 14] [_, _, _, _] [[], [503, 168], []] rfl rfl (by decide) (by decide) (by kernel_rfl) (And.intro (And.intro (And.intro (Val.of hσ rfl rfl) rfl) (And.intro (And.intro (Val.of hσ rfl rfl) rfl) (And.intro (Val.of hσ rfl rfl) rfl))) (And.intro (And.intro (And.intro (Val.of hσ rfl rfl) rfl) (And.intro (Val.of hσ rfl rfl) rfl)) (And.intro (And.intro (And.intro (Val.of hσ rfl rfl) rfl) (And.intro (Val.of hσ rfl rfl) rfl)) (And.intro (And.intro (And.intro (Val.of hσ rfl rfl) rfl) (And.intro (Val.of hσ rfl rfl) rfl)) (And.intro (And.intro (And.intro (Val.of hσ rfl rfl) rfl) (And.intro (Val.of hσ rfl rfl) rfl)) (And.intro (And.intro (Val.of hσ rfl rfl) rfl) (And.intro (And.intro (Val.of hσ rfl rfl) rfl) (And.intro (And.intro (Val.of hσ rfl rfl) rfl) (And.intro (And.intro (Val.of hσ rfl rfl) rfl) (And.intro (And.intro (Val.of hσ rfl rfl) rfl) (And.intro (And.intro (Eff.p (Eff.lit1 hσ rfl rfl rfl rfl rfl rfl rfl rfl rfl rfl rfl rfl rfl)) rfl) (And.intro (And.intro (Eff.appMove (zs := (q.events ++ [ev]).map fun n => [.int .i64 n]) (n := (q.events ++ [ev]).length) hσ rfl rfl rfl rfl rfl rfl rfl rfl rfl rfl rfl rfl rfl rfl rfl rfl (.row rfl (List.length_map _).symm) rfl rfl (by decide) rfl (by rw [List.length_map]; show q.events.length + 1 ≤ L; omega) (by rw [List.length_map]; show (q.events.length + 1) * 8 ≤ _; omega) (by simp) (List.length_map _) rfl) rfl) (And.intro (And.intro (Val.of hσ rfl rfl) rfl) (And.intro (And.intro (Val.of hσ rfl rfl) rfl) (And.intro (And.intro (Eff.p (Eff.storeBox hσ rfl rfl rfl rfl rfl rfl rfl rfl rfl rfl rfl rfl rfl)) rfl) trivial))))))))))))))) ?_
          refine AWP.forget [(100, _), (98, _), (7, _), (6, _), (5, _), (4, _), (0, _), (1, _)] ⟨rfl, rfl, rfl, rfl, rfl, rfl, rfl, rfl, trivial⟩ ?_
          apply AWP.norm
          ·
           repeat' (first | exact q0 rfl | apply q1 rfl | exact q2 rfl | apply q3 rfl | exact q4 rfl | apply q5 rfl | exact q6 rfl | exact q7 rfl | exact q8)
          refine AWP.seq ?_
          refine AWP.region ?_
          refine AOps.step (Val.of hσ rfl rfl) rfl rfl rfl ?_
          refine AOps.nil ?_
          refine AWP.ret ?_
          have hrun : run1 (.node ⟨5, vr, ev, su, ix, fa⟩ a []) r = (true, { q with events := q.events ++ [ev] }) := by rw [run1_nil, if_pos hs1, ← hq]; unfold leaf; rfl
          refine ⟨.inl rfl, _, (Ent.sel [500, 501, 502, 169] rfl rfl (e' := [(4, _)]) ⟨rfl, trivial⟩ rfl).trans (Ent.sub2 169 504 rfl rfl), _, rfl, ?_, ?_⟩
          ·
           rw [hrun]; rfl
          ·
           rw [hrun]; rfl
         ·
          skip
          exact absurd (show true = false from hc156) (by decide)
  ·
   skip
   exact absurd (show true = false from hc37) (by decide)
theorem c114_6 {L : Nat} (h1 : 4096 ≤ L) (h2 : L ≤ 1073741824) {vr ev a : Int} {su ix : Tm} {fa : List Tm} {r : RS} (hst : stmtB ⟨6, vr, ev, su, ix, fa⟩ = true) (hr : RSok r) : MC Try.prog L 114 [.c (.pt 0 0 0), .c (.d (Tr.d (.node ⟨6, vr, ev, su, ix, fa⟩ a [])))] (rH 3 r) (Outs (eB (run1 (.node ⟨6, vr, ev, su, ix, fa⟩ a []) r).1) (rH 4 (run1 (.node ⟨6, vr, ev, su, ix, fa⟩ a []) r).2)) := by
 refine MC.shift 500 rfl ?_
 have hσ := SgOk.withIns (js := [500, 501, 502, 503]) (SGok (nt := 219) h1 (Nat.le_trans h2 (by decide)))
 refine MC.bodyH hσ Try.func114 (by kernel_rfl) rfl rfl rfl (Nat.le_of_ble_eq_true rfl) (fun hF => ?_)
 apply AWP.norm
 ·
  repeat' (first | exact q0 rfl | apply q1 rfl | exact q2 rfl | apply q3 rfl | exact q4 rfl | apply q5 rfl | exact q6 rfl | exact q7 rfl | exact q8)
 have hsf := stmt_facts hst
 refine AWP.seq ?_
 refine AWP.region ?_
 refine AOps.step (Val.of hσ rfl rfl) rfl rfl rfl ?_
 refine AOps.nil ?_
 refine AWP.seq ?_
 refine AWP.region ?_
 refine AOps.step (Val.of hσ rfl rfl) rfl rfl rfl ?_
 refine AOps.step (Val.of hσ rfl rfl) rfl rfl rfl ?_
 refine AOps.step (Val.of hσ rfl rfl) rfl rfl rfl ?_
 refine AOps.step (Val.of hσ rfl rfl) rfl rfl rfl ?_
 refine AOps.step (Val.of hσ rfl rfl) rfl rfl rfl ?_
 refine AOps.step (Val.of hσ rfl rfl) rfl rfl rfl ?_
 refine AOps.forget [(5, _), (4, _), (0, _), (1, _)] ⟨rfl, rfl, rfl, rfl, trivial⟩ ?_
 refine AOps.nil ?_
 refine AWP.seq ?_
 refine AWP.seq ?_
 refine AWP.region ?_
 refine AOps.step (Val.of hσ rfl rfl) rfl rfl rfl ?_
 refine AOps.step (Val.of hσ rfl rfl) rfl rfl rfl ?_
 refine AOps.step (Val.of hσ rfl rfl) rfl rfl rfl ?_
 refine AOps.step (Val.of hσ rfl rfl) rfl rfl rfl ?_
 refine AOps.step (Val.of hσ rfl rfl) rfl rfl rfl ?_
 refine AOps.step (Val.of hσ rfl rfl) rfl rfl rfl ?_
 refine AOps.step (Val.of hσ rfl rfl) rfl rfl rfl ?_
 refine AOps.forget [(19, _), (5, _), (4, _), (0, _), (1, _)] ⟨rfl, rfl, rfl, rfl, rfl, trivial⟩ ?_
 refine AOps.live rfl rfl rfl rfl rfl ?_
 refine AOps.step (Val.of hσ rfl rfl) rfl rfl rfl ?_
 refine AOps.live rfl rfl rfl rfl rfl ?_
 refine AOps.step (Val.of hσ rfl rfl) rfl rfl rfl ?_
 refine AOps.forget [(21, _), (19, _), (5, _), (4, _), (0, _), (1, _)] ⟨rfl, rfl, rfl, rfl, rfl, rfl, trivial⟩ ?_
 refine AOps.live rfl rfl rfl rfl rfl ?_
 refine AOps.step (Val.of hσ rfl rfl) rfl rfl rfl ?_
 refine AOps.forget [(22, _), (19, _), (5, _), (4, _), (0, _), (1, _)] ⟨rfl, rfl, rfl, rfl, rfl, rfl, trivial⟩ ?_
 refine AOps.live rfl rfl rfl rfl rfl ?_
 refine AOps.step (Val.of hσ rfl rfl) rfl rfl rfl ?_
 refine AOps.forget [(23, _), (19, _), (5, _), (4, _), (0, _), (1, _)] ⟨rfl, rfl, rfl, rfl, rfl, rfl, trivial⟩ ?_
 refine AOps.live rfl rfl rfl rfl rfl ?_
 refine AOps.step (Val.of hσ rfl rfl) rfl rfl rfl ?_
 refine AOps.forget [(24, _), (19, _), (5, _), (4, _), (0, _), (1, _)] ⟨rfl, rfl, rfl, rfl, rfl, rfl, trivial⟩ ?_
 refine AOps.live rfl rfl rfl rfl rfl ?_
 refine AOps.step (Val.of hσ rfl rfl) rfl rfl rfl ?_
 refine AOps.step (Val.pickY hσ rfl rfl rfl rfl rfl) rfl rfl rfl ?_
 refine AOps.step (Val.of hσ rfl rfl) rfl rfl rfl ?_
 refine AOps.forget [(27, _), (5, _), (4, _), (0, _), (1, _)] ⟨rfl, rfl, rfl, rfl, rfl, trivial⟩ ?_
 refine AOps.live rfl rfl rfl rfl rfl ?_
 refine AOps.step (Val.of hσ rfl rfl) rfl rfl rfl ?_
 refine AOps.live rfl rfl rfl rfl rfl ?_
 refine AOps.inn hσ [500, 501, 502, 503] (bin := [rbox 3 r, nrow (r).vars, nrow (r).cells, nrow (r).events]) rfl rfl rfl rfl (c159 (r := r) h1 h2 hr.lo (Int.le_trans hr.hi (Int.le_trans hr.fuel (by decide)))) rfl rfl rfl rfl rfl rfl (B0 := 30000) rfl rfl ?_
 apply AOps.norm
 ·
  repeat' (first | exact q0 rfl | apply q1 rfl | exact q2 rfl | apply q3 rfl | exact q4 rfl | apply q5 rfl | exact q6 rfl | exact q7 rfl | exact q8)
 refine AOps.forget [(29, _), (27, _), (5, _), (4, _), (0, _), (1, _)] ⟨rfl, rfl, rfl, rfl, rfl, rfl, trivial⟩ ?_
 refine AOps.live rfl rfl rfl rfl rfl ?_
 refine AOps.step (Val.of hσ rfl rfl) rfl rfl rfl ?_
 refine AOps.step (Val.pickY hσ rfl rfl rfl rfl rfl) rfl rfl rfl ?_
 refine AOps.forget [(31, _), (5, _), (4, _), (0, _), (1, _)] ⟨rfl, rfl, rfl, rfl, rfl, trivial⟩ ?_
 refine AOps.nil ?_
 refine AWP.cond hσ rfl rfl (fun hc31 => ?_) (fun hc31 => ?_)
 ·
  skip
  refine AWP.seq ?_
  refine AWP.region ?_
  refine AOps.step (Val.of hσ rfl rfl) rfl rfl rfl ?_
  refine AOps.nil ?_
  refine AWP.ret ?_
  have hs0 : (stepR r).1 = false := by cases h : (stepR r).1 with | false => rfl | true => rw [h] at hc31; cases hc31
  have hrun : run1 (.node ⟨6, vr, ev, su, ix, fa⟩ a []) r = (false, (stepR r).2) := by rw [run1_nil, if_neg (by rw [hs0]; decide)]
  refine ⟨.inl rfl, _, (Ent.sel [500, 501, 502, 503] rfl rfl (e' := [(4, _)]) ⟨rfl, trivial⟩ rfl).trans (Ent.sub2 503 504 rfl rfl), _, rfl, ?_, ?_⟩
  ·
   rw [hrun]; rfl
  ·
   rw [hrun]; rfl
 ·
  skip
  refine AWP.skip ?_
  refine AWP.seq ?_
  refine AWP.region ?_
  have hs1 : (stepR r).1 = true := by cases h : (stepR r).1 with | true => rfl | false => rw [h] at hc31; cases hc31
  have hr1 := hr.step.ok
  obtain ⟨q, hq⟩ : ∃ q, q = (stepR r).2 := ⟨_, rfl⟩
  rw [← hq] at hr1 ⊢
  have hnv := hr1.nv
  have hnc := hr1.nc
  refine AOps.step (Val.of hσ rfl rfl) rfl rfl rfl ?_
  refine AOps.step (Val.of hσ rfl rfl) rfl rfl rfl ?_
  refine AOps.nil ?_
  refine AWP.seq ?_
  refine AWP.seq ?_
  refine AWP.region ?_
  refine AOps.step (Val.of hσ rfl rfl) rfl rfl rfl ?_
  refine AOps.step (Val.of hσ rfl rfl) rfl rfl rfl ?_
  refine AOps.step (Val.of hσ rfl rfl) rfl rfl rfl ?_
  refine AOps.step (Val.of hσ rfl rfl) rfl rfl rfl ?_
  refine AOps.step (Val.of hσ rfl rfl) rfl rfl rfl ?_
  refine AOps.step (Val.of hσ rfl rfl) rfl rfl rfl ?_
  refine AOps.forget [(37, _), (7, _), (6, _), (5, _), (4, _), (0, _), (1, _)] ⟨rfl, rfl, rfl, rfl, rfl, rfl, rfl, trivial⟩ ?_
  refine AOps.nil ?_
  refine AWP.cond hσ rfl rfl (fun hc37 => ?_) (fun hc37 => ?_)
  ·
   skip
   refine AWP.forget [(5, _), (4, _), (0, _), (1, _)] ⟨rfl, rfl, rfl, rfl, trivial⟩ ?_
   refine AWP.drawR hσ _ [_, _, _, _, _, _, _, _, _, _, _, _, _, _, _, _] [⟨[], 0, 0, none⟩, ⟨[0], 0, 0, none⟩, ⟨[0, 1], 0, 0, none⟩, ⟨[0, 1, 2], 0, 0, none⟩, ⟨[0, 1, 2, 3], 0, 0, none⟩, ⟨[], 0, 0, none⟩, ⟨[0, 1, 2, 3, 4, 5], 0, 0, some 0⟩, ⟨[], 0, 1, none⟩, ⟨[7], 0, 1, none⟩, ⟨[7, 8], 0, 1, none⟩, ⟨[7, 8, 9], 0, 1, none⟩, ⟨[7, 8, 9, 10], 0, 1, none⟩, ⟨[], 0, 1, none⟩, ⟨[0, 1, 2, 3, 4, 5, 6, 7, 8, 9, 10, 11, 12], 0, 0, some 1⟩, ⟨[0, 1, 2, 3, 4, 5, 6, 7, 8, 9, 10, 11, 12, 13], 2, 2, none⟩, ⟨[0, 1, 2, 3, 4, 5, 6, 7, 8, 9, 10, 11, 12, 13, 14], 2, 2, none⟩] [6, 13] [_, _, _] rfl rfl (by decide) (by decide) (by kernel_rfl) (And.intro (Val.of hσ rfl rfl) (And.intro (Val.of hσ rfl rfl) (And.intro (Val.of hσ rfl rfl) (And.intro (Val.of hσ rfl rfl) (And.intro (Val.of hσ rfl rfl) (And.intro (Val.of hσ rfl rfl) (And.intro (Eff.lone hσ (B0 := 45000) rfl rfl rfl rfl (c160 (t := su) (vars := q.vars) h1 h2 hsf.1 hr1.vars) (.cons (.agg (VMs.self rfl)) (.cons (.c (.whole rfl (by rw [List.length_map]; exact hnv.symm))) .nil)) rfl rfl rfl rfl rfl) (And.intro (And.intro (Val.of hσ rfl rfl) (Val.of hσ rfl rfl)) (And.intro (And.intro (Val.of hσ rfl rfl) (Val.of hσ rfl rfl)) (And.intro (And.intro (Val.of hσ rfl rfl) (Val.of hσ rfl rfl)) (And.intro (And.intro (Val.of hσ rfl rfl) (Val.of hσ rfl rfl)) (And.intro (And.intro (Val.of hσ rfl rfl) (Val.of hσ rfl rfl)) (And.intro (And.intro (Val.of hσ rfl rfl) (Val.of hσ rfl rfl)) (And.intro (Eff.lone hσ (B0 := 52000) rfl rfl rfl rfl (c160 (t := ix) (vars := q.vars) h1 h2 hsf.2 hr1.vars) (.cons (.agg (VMs.self rfl)) (.cons (.c (.whole rfl (by rw [List.length_map]; exact hnv.symm))) .nil)) rfl rfl rfl rfl rfl) (And.intro (Val.of hσ rfl rfl) (And.intro (Val.of hσ rfl rfl) trivial)))))))))))))))) ?_
   refine AWP.forget [(7, _), (6, _), (5, _), (4, _), (0, _), (1, _)] ⟨rfl, rfl, rfl, rfl, rfl, rfl, trivial⟩ ?_
   apply AWP.norm
   ·
    repeat' (first | exact q0 rfl | apply q1 rfl | exact q2 rfl | apply q3 rfl | exact q4 rfl | apply q5 rfl | exact q6 rfl | exact q7 rfl | exact q8)
   refine AWP.seq ?_
   refine AWP.seq ?_
   refine AWP.region ?_
   refine AOps.step (Val.of hσ rfl rfl) rfl rfl rfl ?_
   refine AOps.step (Val.of hσ rfl rfl) rfl rfl rfl ?_
   refine AOps.step (Val.of hσ rfl rfl) rfl rfl rfl ?_
   refine AOps.step (Val.of hσ rfl rfl) rfl rfl rfl ?_
   refine AOps.step (Val.of hσ rfl rfl) rfl rfl rfl ?_
   refine AOps.step (Val.of hσ rfl rfl) rfl rfl rfl ?_
   refine AOps.step (Val.of hσ rfl rfl) rfl rfl rfl ?_
   refine AOps.forget [(58, _), (7, _), (6, _), (5, _), (4, _), (0, _), (1, _)] ⟨rfl, rfl, rfl, rfl, rfl, rfl, rfl, trivial⟩ ?_
   refine AOps.live rfl rfl rfl rfl rfl ?_
   refine AOps.step (Val.of hσ rfl rfl) rfl rfl rfl ?_
   refine AOps.live rfl rfl rfl rfl rfl ?_
   refine AOps.step (Val.of hσ rfl rfl) rfl rfl rfl ?_
   refine AOps.forget [(60, _), (58, _), (7, _), (6, _), (5, _), (4, _), (0, _), (1, _)] ⟨rfl, rfl, rfl, rfl, rfl, rfl, rfl, rfl, trivial⟩ ?_
   refine AOps.live rfl rfl rfl rfl rfl ?_
   refine AOps.step (Val.of hσ rfl rfl) rfl rfl rfl ?_
   refine AOps.forget [(61, _), (58, _), (7, _), (6, _), (5, _), (4, _), (0, _), (1, _)] ⟨rfl, rfl, rfl, rfl, rfl, rfl, rfl, rfl, trivial⟩ ?_
   refine AOps.live rfl rfl rfl rfl rfl ?_
   refine AOps.step (Val.of hσ rfl rfl) rfl rfl rfl ?_
   refine AOps.forget [(62, _), (58, _), (7, _), (6, _), (5, _), (4, _), (0, _), (1, _)] ⟨rfl, rfl, rfl, rfl, rfl, rfl, rfl, rfl, trivial⟩ ?_
   refine AOps.live rfl rfl rfl rfl rfl ?_
   refine AOps.step (Val.of hσ rfl rfl) rfl rfl rfl ?_
   refine AOps.forget [(63, _), (58, _), (7, _), (6, _), (5, _), (4, _), (0, _), (1, _)] ⟨rfl, rfl, rfl, rfl, rfl, rfl, rfl, rfl, trivial⟩ ?_
   refine AOps.live rfl rfl rfl rfl rfl ?_
   refine AOps.step (Val.of hσ rfl rfl) rfl rfl rfl ?_
   refine AOps.step (Val.pickN hσ rfl rfl rfl rfl rfl) rfl rfl rfl ?_
   refine AOps.step (Val.of hσ rfl rfl) rfl rfl rfl ?_
   refine AOps.forget [(66, _), (7, _), (6, _), (5, _), (4, _), (0, _), (1, _)] ⟨rfl, rfl, rfl, rfl, rfl, rfl, rfl, trivial⟩ ?_
   refine AOps.skip rfl rfl rfl rfl rfl rfl ?_
   refine AOps.skip rfl rfl rfl rfl rfl rfl ?_
   refine AOps.forget [(68, _), (66, _), (7, _), (6, _), (5, _), (4, _), (0, _), (1, _)] ⟨rfl, rfl, rfl, rfl, rfl, rfl, rfl, rfl, trivial⟩ ?_
   refine AOps.skip rfl rfl rfl rfl rfl rfl ?_
   refine AOps.step (Val.pickN hσ rfl rfl rfl rfl rfl) rfl rfl rfl ?_
   refine AOps.forget [(70, _), (7, _), (6, _), (5, _), (4, _), (0, _), (1, _)] ⟨rfl, rfl, rfl, rfl, rfl, rfl, rfl, trivial⟩ ?_
   refine AOps.nil ?_
   refine AWP.cond hσ rfl rfl (fun hc70 => ?_) (fun hc70 => ?_)
   ·
    skip
    exact absurd (show false = true from hc70) (by decide)
   ·
    skip
    refine AWP.skip ?_
    refine AWP.seq ?_
    refine AWP.seq ?_
    refine AWP.region ?_
    refine AOps.step (Val.of hσ rfl rfl) rfl rfl rfl ?_
    refine AOps.step (Val.of hσ rfl rfl) rfl rfl rfl ?_
    refine AOps.step (Val.of hσ rfl rfl) rfl rfl rfl ?_
    refine AOps.step (Val.of hσ rfl rfl) rfl rfl rfl ?_
    refine AOps.step (Val.of hσ rfl rfl) rfl rfl rfl ?_
    refine AOps.step (Val.of hσ rfl rfl) rfl rfl rfl ?_
    refine AOps.step (Val.of hσ rfl rfl) rfl rfl rfl ?_
    refine AOps.forget [(79, _), (7, _), (6, _), (5, _), (4, _), (0, _), (1, _)] ⟨rfl, rfl, rfl, rfl, rfl, rfl, rfl, trivial⟩ ?_
    refine AOps.live rfl rfl rfl rfl rfl ?_
    refine AOps.step (Val.of hσ rfl rfl) rfl rfl rfl ?_
    refine AOps.live rfl rfl rfl rfl rfl ?_
    refine AOps.step (Val.of hσ rfl rfl) rfl rfl rfl ?_
    refine AOps.forget [(81, _), (79, _), (7, _), (6, _), (5, _), (4, _), (0, _), (1, _)] ⟨rfl, rfl, rfl, rfl, rfl, rfl, rfl, rfl, trivial⟩ ?_
    refine AOps.live rfl rfl rfl rfl rfl ?_
    refine AOps.step (Val.of hσ rfl rfl) rfl rfl rfl ?_
    refine AOps.forget [(82, _), (79, _), (7, _), (6, _), (5, _), (4, _), (0, _), (1, _)] ⟨rfl, rfl, rfl, rfl, rfl, rfl, rfl, rfl, trivial⟩ ?_
    refine AOps.live rfl rfl rfl rfl rfl ?_
    refine AOps.step (Val.of hσ rfl rfl) rfl rfl rfl ?_
    refine AOps.forget [(83, _), (79, _), (7, _), (6, _), (5, _), (4, _), (0, _), (1, _)] ⟨rfl, rfl, rfl, rfl, rfl, rfl, rfl, rfl, trivial⟩ ?_
    refine AOps.live rfl rfl rfl rfl rfl ?_
    refine AOps.step (Val.of hσ rfl rfl) rfl rfl rfl ?_
    refine AOps.forget [(84, _), (79, _), (7, _), (6, _), (5, _), (4, _), (0, _), (1, _)] ⟨rfl, rfl, rfl, rfl, rfl, rfl, rfl, rfl, trivial⟩ ?_
    refine AOps.live rfl rfl rfl rfl rfl ?_
    refine AOps.step (Val.of hσ rfl rfl) rfl rfl rfl ?_
    refine AOps.step (Val.pickN hσ rfl rfl rfl rfl rfl) rfl rfl rfl ?_
    refine AOps.step (Val.of hσ rfl rfl) rfl rfl rfl ?_
    refine AOps.forget [(87, _), (7, _), (6, _), (5, _), (4, _), (0, _), (1, _)] ⟨rfl, rfl, rfl, rfl, rfl, rfl, rfl, trivial⟩ ?_
    refine AOps.skip rfl rfl rfl rfl rfl rfl ?_
    refine AOps.skip rfl rfl rfl rfl rfl rfl ?_
    refine AOps.forget [(89, _), (87, _), (7, _), (6, _), (5, _), (4, _), (0, _), (1, _)] ⟨rfl, rfl, rfl, rfl, rfl, rfl, rfl, rfl, trivial⟩ ?_
    refine AOps.skip rfl rfl rfl rfl rfl rfl ?_
    refine AOps.step (Val.pickN hσ rfl rfl rfl rfl rfl) rfl rfl rfl ?_
    refine AOps.forget [(91, _), (7, _), (6, _), (5, _), (4, _), (0, _), (1, _)] ⟨rfl, rfl, rfl, rfl, rfl, rfl, rfl, trivial⟩ ?_
    refine AOps.nil ?_
    refine AWP.cond hσ rfl rfl (fun hc91 => ?_) (fun hc91 => ?_)
    ·
     skip
     exact absurd (show false = true from hc91) (by decide)
    ·
     skip
     refine AWP.skip ?_
     refine AWP.seq ?_
     refine AWP.seq ?_
     refine AWP.region ?_
     refine AOps.step (Val.of hσ rfl rfl) rfl rfl rfl ?_
     refine AOps.step (Val.of hσ rfl rfl) rfl rfl rfl ?_
     refine AOps.step (Val.of hσ rfl rfl) rfl rfl rfl ?_
     refine AOps.step (Val.of hσ rfl rfl) rfl rfl rfl ?_
     refine AOps.step (Val.of hσ rfl rfl) rfl rfl rfl ?_
     refine AOps.forget [(98, _), (7, _), (6, _), (5, _), (4, _), (0, _), (1, _)] ⟨rfl, rfl, rfl, rfl, rfl, rfl, rfl, trivial⟩ ?_
     refine AOps.nil ?_
     refine AWP.block ?_
     refine AWP.seq ?_
     refine AWP.region ?_
     refine AOps.step (Val.of hσ rfl rfl) rfl rfl rfl ?_
     refine AOps.step (Val.of hσ rfl rfl) rfl rfl rfl ?_
     refine AOps.nil ?_
     refine AWP.cond hσ rfl rfl (fun hc99 => ?_) (fun hc99 => ?_)
     ·
      skip
      exact absurd (show false = true from hc99) (by decide)
     ·
      skip
      refine AWP.seq ?_
      refine AWP.region ?_
      refine AOps.step (Val.of hσ rfl rfl) rfl rfl rfl ?_
      refine AOps.step (Val.of hσ rfl rfl) rfl rfl rfl ?_
      refine AOps.forget [(119, _), (100, _), (98, _), (7, _), (6, _), (5, _), (4, _), (0, _), (1, _)] ⟨rfl, rfl, rfl, rfl, rfl, rfl, rfl, rfl, rfl, trivial⟩ ?_
      refine AOps.nil ?_
      refine AWP.cond hσ rfl rfl (fun hc119 => ?_) (fun hc119 => ?_)
      ·
       skip
       exact absurd (show false = true from hc119) (by decide)
      ·
       skip
       refine AWP.seq ?_
       refine AWP.region ?_
       refine AOps.step (Val.of hσ rfl rfl) rfl rfl rfl ?_
       refine AOps.step (Val.of hσ rfl rfl) rfl rfl rfl ?_
       refine AOps.forget [(129, _), (100, _), (98, _), (7, _), (6, _), (5, _), (4, _), (0, _), (1, _)] ⟨rfl, rfl, rfl, rfl, rfl, rfl, rfl, rfl, rfl, trivial⟩ ?_
       refine AOps.nil ?_
       refine AWP.cond hσ rfl rfl (fun hc129 => ?_) (fun hc129 => ?_)
       ·
        skip
        exact absurd (show false = true from hc129) (by decide)
       ·
        skip
        refine AWP.seq ?_
        refine AWP.region ?_
        refine AOps.step (Val.of hσ rfl rfl) rfl rfl rfl ?_
        refine AOps.step (Val.of hσ rfl rfl) rfl rfl rfl ?_
        refine AOps.forget [(146, _), (100, _), (98, _), (7, _), (6, _), (5, _), (4, _), (0, _), (1, _)] ⟨rfl, rfl, rfl, rfl, rfl, rfl, rfl, rfl, rfl, trivial⟩ ?_
        refine AOps.nil ?_
        refine AWP.cond hσ rfl rfl (fun hc146 => ?_) (fun hc146 => ?_)
        ·
         skip
         exact absurd (show false = true from hc146) (by decide)
        ·
         skip
         refine AWP.seq ?_
         refine AWP.region ?_
         refine AOps.step (Val.of hσ rfl rfl) rfl rfl rfl ?_
         refine AOps.step (Val.of hσ rfl rfl) rfl rfl rfl ?_
         refine AOps.forget [(156, _), (100, _), (98, _), (7, _), (6, _), (5, _), (4, _), (0, _), (1, _)] ⟨rfl, rfl, rfl, rfl, rfl, rfl, rfl, rfl, rfl, trivial⟩ ?_
         refine AOps.nil ?_
         refine AWP.cond hσ rfl rfl (fun hc156 => ?_) (fun hc156 => ?_)
         ·
          skip
          exact absurd (show false = true from hc156) (by decide)
         ·
          skip
          refine AWP.seq ?_
          refine AWP.region ?_
          refine AOps.step (Val.of hσ rfl rfl) rfl rfl rfl ?_
          refine AOps.step (Val.of hσ rfl rfl) rfl rfl rfl ?_
          refine AOps.forget [(172, _), (100, _), (98, _), (7, _), (6, _), (5, _), (4, _), (0, _), (1, _)] ⟨rfl, rfl, rfl, rfl, rfl, rfl, rfl, rfl, rfl, trivial⟩ ?_
          refine AOps.nil ?_
          refine AWP.cond hσ rfl rfl (fun hc172 => ?_) (fun hc172 => ?_)
          ·
           skip
           refine AWP.seq ?_
           refine AWP.region ?_
           refine AOps.step (Val.of hσ rfl rfl) rfl rfl rfl ?_
           refine AOps.step (Val.of hσ rfl rfl) rfl rfl rfl ?_
           refine AOps.forget [(175, _), (100, _), (98, _), (7, _), (6, _), (5, _), (4, _), (0, _), (1, _)] ⟨rfl, rfl, rfl, rfl, rfl, rfl, rfl, rfl, rfl, trivial⟩ ?_
           refine AOps.nil ?_
           refine AWP.cond hσ rfl rfl (fun hc175 => ?_) (fun hc175 => ?_)
           ·
            skip
            refine AWP.seq ?_
            refine AWP.region ?_
            refine AOps.step (Val.of hσ rfl rfl) rfl rfl rfl ?_
            refine AOps.forget [(176, _), (100, _), (98, _), (7, _), (6, _), (5, _), (4, _), (0, _), (1, _)] ⟨rfl, rfl, rfl, rfl, rfl, rfl, rfl, rfl, rfl, trivial⟩ ?_
            refine AOps.inn hσ [500, 501, 502, 503] (bin := [rbox 3 q, nrow (q).vars, nrow (q).cells, nrow (q).events]) rfl rfl rfl rfl (c161 (r := q) (x := 3) h1 h2) rfl rfl rfl rfl rfl rfl (B0 := 178000) rfl rfl ?_
            apply AOps.norm
            ·
             repeat' (first | exact q0 rfl | apply q1 rfl | exact q2 rfl | apply q3 rfl | exact q4 rfl | apply q5 rfl | exact q6 rfl | exact q7 rfl | exact q8)
            refine AOps.step (Val.of hσ rfl rfl) rfl rfl rfl ?_
            refine AOps.forget [(4, _), (100, _), (98, _), (7, _), (6, _), (5, _), (0, _), (1, _)] ⟨rfl, rfl, rfl, rfl, rfl, rfl, rfl, rfl, trivial⟩ ?_
            refine AOps.nil ?_
            refine AWP.ret ?_
            have hrun : run1 (.node ⟨6, vr, ev, su, ix, fa⟩ a []) r = (false, { q with out := 3 }) := by rw [run1_nil, if_pos hs1, ← hq]; unfold leaf; rw [if_neg (by decide : ¬ (6 : Int) = 2), if_neg (by decide : ¬ (6 : Int) = 3), if_neg (by decide : ¬ (6 : Int) = 4), if_neg (by decide : ¬ (6 : Int) = 5), if_pos rfl, if_pos (of_decide_eq_true hc175)]
            refine ⟨.inl rfl, _, (Ent.sel [500, 501, 502, 503] rfl rfl (e' := [(4, _)]) ⟨rfl, trivial⟩ rfl).trans (Ent.sub2 503 504 rfl rfl), _, rfl, ?_, ?_⟩
            ·
             rw [hrun]; rfl
            ·
             rw [hrun]; rfl
           ·
            skip
            refine AWP.skip ?_
            refine AWP.seq ?_
            refine AWP.region ?_
            refine AOps.step (Val.of hσ rfl rfl) rfl rfl rfl ?_
            refine AOps.nil ?_
            refine AWP.ret ?_
            have hrun : run1 (.node ⟨6, vr, ev, su, ix, fa⟩ a []) r = (true, q) := by rw [run1_nil, if_pos hs1, ← hq]; unfold leaf; rw [if_neg (by decide : ¬ (6 : Int) = 2), if_neg (by decide : ¬ (6 : Int) = 3), if_neg (by decide : ¬ (6 : Int) = 4), if_neg (by decide : ¬ (6 : Int) = 5), if_pos rfl, if_neg (of_decide_eq_false hc175)]
            refine ⟨.inl rfl, _, (Ent.sel [500, 501, 502, 503] rfl rfl (e' := [(4, _)]) ⟨rfl, trivial⟩ rfl).trans (Ent.sub2 503 504 rfl rfl), _, rfl, ?_, ?_⟩
            ·
             rw [hrun]; rfl
            ·
             rw [hrun]; rfl
          ·
           skip
           exact absurd (show true = false from hc172) (by decide)
  ·
   skip
   exact absurd (show true = false from hc37) (by decide)
theorem c114_7 {L : Nat} (h1 : 4096 ≤ L) (h2 : L ≤ 1073741824) {vr ev a : Int} {su ix : Tm} {fa : List Tm} {x y : Tr} {r : RS} (hst : stmtB ⟨7, vr, ev, su, ix, fa⟩ = true) (hr : RSok r) (ihx : ∀ r, RSok r → MC Try.prog L 114 [.c (.pt 0 0 0), .c (.d x.d)] (rH 3 r) (Outs (eB (run1 x r).1) (rH 4 (run1 x r).2))) (ihy : ∀ r, RSok r → MC Try.prog L 114 [.c (.pt 0 0 0), .c (.d y.d)] (rH 3 r) (Outs (eB (run1 y r).1) (rH 4 (run1 y r).2))) : MC Try.prog L 114 [.c (.pt 0 0 0), .c (.d (Tr.d (.node ⟨7, vr, ev, su, ix, fa⟩ a [x, y])))] (rH 3 r) (Outs (eB (run1 (.node ⟨7, vr, ev, su, ix, fa⟩ a [x, y]) r).1) (rH 4 (run1 (.node ⟨7, vr, ev, su, ix, fa⟩ a [x, y]) r).2)) := by
 refine MC.shift 500 rfl ?_
 have hσ := SgOk.withIns (js := [500, 501, 502, 503]) (SGok (nt := 219) h1 (Nat.le_trans h2 (by decide)))
 refine MC.bodyH hσ Try.func114 (by kernel_rfl) rfl rfl rfl (Nat.le_of_ble_eq_true rfl) (fun hF => ?_)
 apply AWP.norm
 ·
  repeat' (first | exact q0 rfl | apply q1 rfl | exact q2 rfl | apply q3 rfl | exact q4 rfl | apply q5 rfl | exact q6 rfl | exact q7 rfl | exact q8)
 have hsf := stmt_facts hst
 refine AWP.seq ?_
 refine AWP.region ?_
 refine AOps.step (Val.of hσ rfl rfl) rfl rfl rfl ?_
 refine AOps.nil ?_
 refine AWP.seq ?_
 refine AWP.region ?_
 refine AOps.step (Val.of hσ rfl rfl) rfl rfl rfl ?_
 refine AOps.step (Val.of hσ rfl rfl) rfl rfl rfl ?_
 refine AOps.step (Val.of hσ rfl rfl) rfl rfl rfl ?_
 refine AOps.step (Val.of hσ rfl rfl) rfl rfl rfl ?_
 refine AOps.step (Val.of hσ rfl rfl) rfl rfl rfl ?_
 refine AOps.step (Val.of hσ rfl rfl) rfl rfl rfl ?_
 refine AOps.forget [(5, _), (4, _), (0, _), (1, _)] ⟨rfl, rfl, rfl, rfl, trivial⟩ ?_
 refine AOps.nil ?_
 refine AWP.seq ?_
 refine AWP.seq ?_
 refine AWP.region ?_
 refine AOps.step (Val.of hσ rfl rfl) rfl rfl rfl ?_
 refine AOps.step (Val.of hσ rfl rfl) rfl rfl rfl ?_
 refine AOps.step (Val.of hσ rfl rfl) rfl rfl rfl ?_
 refine AOps.step (Val.of hσ rfl rfl) rfl rfl rfl ?_
 refine AOps.step (Val.of hσ rfl rfl) rfl rfl rfl ?_
 refine AOps.step (Val.of hσ rfl rfl) rfl rfl rfl ?_
 refine AOps.step (Val.of hσ rfl rfl) rfl rfl rfl ?_
 refine AOps.forget [(19, _), (5, _), (4, _), (0, _), (1, _)] ⟨rfl, rfl, rfl, rfl, rfl, trivial⟩ ?_
 refine AOps.live rfl rfl rfl rfl rfl ?_
 refine AOps.step (Val.of hσ rfl rfl) rfl rfl rfl ?_
 refine AOps.live rfl rfl rfl rfl rfl ?_
 refine AOps.step (Val.of hσ rfl rfl) rfl rfl rfl ?_
 refine AOps.forget [(21, _), (19, _), (5, _), (4, _), (0, _), (1, _)] ⟨rfl, rfl, rfl, rfl, rfl, rfl, trivial⟩ ?_
 refine AOps.live rfl rfl rfl rfl rfl ?_
 refine AOps.step (Val.of hσ rfl rfl) rfl rfl rfl ?_
 refine AOps.forget [(22, _), (19, _), (5, _), (4, _), (0, _), (1, _)] ⟨rfl, rfl, rfl, rfl, rfl, rfl, trivial⟩ ?_
 refine AOps.live rfl rfl rfl rfl rfl ?_
 refine AOps.step (Val.of hσ rfl rfl) rfl rfl rfl ?_
 refine AOps.forget [(23, _), (19, _), (5, _), (4, _), (0, _), (1, _)] ⟨rfl, rfl, rfl, rfl, rfl, rfl, trivial⟩ ?_
 refine AOps.live rfl rfl rfl rfl rfl ?_
 refine AOps.step (Val.of hσ rfl rfl) rfl rfl rfl ?_
 refine AOps.forget [(24, _), (19, _), (5, _), (4, _), (0, _), (1, _)] ⟨rfl, rfl, rfl, rfl, rfl, rfl, trivial⟩ ?_
 refine AOps.live rfl rfl rfl rfl rfl ?_
 refine AOps.step (Val.of hσ rfl rfl) rfl rfl rfl ?_
 refine AOps.step (Val.pickY hσ rfl rfl rfl rfl rfl) rfl rfl rfl ?_
 refine AOps.step (Val.of hσ rfl rfl) rfl rfl rfl ?_
 refine AOps.forget [(27, _), (5, _), (4, _), (0, _), (1, _)] ⟨rfl, rfl, rfl, rfl, rfl, trivial⟩ ?_
 refine AOps.live rfl rfl rfl rfl rfl ?_
 refine AOps.step (Val.of hσ rfl rfl) rfl rfl rfl ?_
 refine AOps.live rfl rfl rfl rfl rfl ?_
 refine AOps.inn hσ [500, 501, 502, 503] (bin := [rbox 3 r, nrow (r).vars, nrow (r).cells, nrow (r).events]) rfl rfl rfl rfl (c159 (r := r) h1 h2 hr.lo (Int.le_trans hr.hi (Int.le_trans hr.fuel (by decide)))) rfl rfl rfl rfl rfl rfl (B0 := 30000) rfl rfl ?_
 apply AOps.norm
 ·
  repeat' (first | exact q0 rfl | apply q1 rfl | exact q2 rfl | apply q3 rfl | exact q4 rfl | apply q5 rfl | exact q6 rfl | exact q7 rfl | exact q8)
 refine AOps.forget [(29, _), (27, _), (5, _), (4, _), (0, _), (1, _)] ⟨rfl, rfl, rfl, rfl, rfl, rfl, trivial⟩ ?_
 refine AOps.live rfl rfl rfl rfl rfl ?_
 refine AOps.step (Val.of hσ rfl rfl) rfl rfl rfl ?_
 refine AOps.step (Val.pickY hσ rfl rfl rfl rfl rfl) rfl rfl rfl ?_
 refine AOps.forget [(31, _), (5, _), (4, _), (0, _), (1, _)] ⟨rfl, rfl, rfl, rfl, rfl, trivial⟩ ?_
 refine AOps.nil ?_
 refine AWP.cond hσ rfl rfl (fun hc31 => ?_) (fun hc31 => ?_)
 ·
  skip
  refine AWP.seq ?_
  refine AWP.region ?_
  refine AOps.step (Val.of hσ rfl rfl) rfl rfl rfl ?_
  refine AOps.nil ?_
  refine AWP.ret ?_
  have hs0 : (stepR r).1 = false := by cases h : (stepR r).1 with | false => rfl | true => rw [h] at hc31; cases hc31
  have hrun : run1 (.node ⟨7, vr, ev, su, ix, fa⟩ a [x, y]) r = (false, (stepR r).2) := by rw [run1_two, if_neg (by decide : ¬ (7 : Int) = 1), if_neg (by rw [hs0]; decide)]
  refine ⟨.inl rfl, _, (Ent.sel [500, 501, 502, 503] rfl rfl (e' := [(4, _)]) ⟨rfl, trivial⟩ rfl).trans (Ent.sub2 503 504 rfl rfl), _, rfl, ?_, ?_⟩
  ·
   rw [hrun]; rfl
  ·
   rw [hrun]; rfl
 ·
  skip
  refine AWP.skip ?_
  refine AWP.seq ?_
  refine AWP.region ?_
  have hs1 : (stepR r).1 = true := by cases h : (stepR r).1 with | true => rfl | false => rw [h] at hc31; cases hc31
  have hr1 := hr.step.ok
  obtain ⟨q, hq⟩ : ∃ q, q = (stepR r).2 := ⟨_, rfl⟩
  rw [← hq] at hr1 ⊢
  have hnv := hr1.nv
  have hnc := hr1.nc
  refine AOps.step (Val.of hσ rfl rfl) rfl rfl rfl ?_
  refine AOps.step (Val.of hσ rfl rfl) rfl rfl rfl ?_
  refine AOps.nil ?_
  refine AWP.seq ?_
  refine AWP.seq ?_
  refine AWP.region ?_
  refine AOps.step (Val.of hσ rfl rfl) rfl rfl rfl ?_
  refine AOps.step (Val.of hσ rfl rfl) rfl rfl rfl ?_
  refine AOps.step (Val.of hσ rfl rfl) rfl rfl rfl ?_
  refine AOps.step (Val.of hσ rfl rfl) rfl rfl rfl ?_
  refine AOps.step (Val.of hσ rfl rfl) rfl rfl rfl ?_
  refine AOps.step (Val.of hσ rfl rfl) rfl rfl rfl ?_
  refine AOps.forget [(37, _), (7, _), (6, _), (5, _), (4, _), (0, _), (1, _)] ⟨rfl, rfl, rfl, rfl, rfl, rfl, rfl, trivial⟩ ?_
  refine AOps.nil ?_
  refine AWP.cond hσ rfl rfl (fun hc37 => ?_) (fun hc37 => ?_)
  ·
   skip
   refine AWP.forget [(5, _), (4, _), (0, _), (1, _)] ⟨rfl, rfl, rfl, rfl, trivial⟩ ?_
   refine AWP.drawR hσ _ [_, _, _, _, _, _, _, _, _, _, _, _, _, _, _, _] [⟨[], 0, 0, none⟩, ⟨[0], 0, 0, none⟩, ⟨[0, 1], 0, 0, none⟩, ⟨[0, 1, 2], 0, 0, none⟩, ⟨[0, 1, 2, 3], 0, 0, none⟩, ⟨[], 0, 0, none⟩, ⟨[0, 1, 2, 3, 4, 5], 0, 0, some 0⟩, ⟨[], 0, 1, none⟩, ⟨[7], 0, 1, none⟩, ⟨[7, 8], 0, 1, none⟩, ⟨[7, 8, 9], 0, 1, none⟩, ⟨[7, 8, 9, 10], 0, 1, none⟩, ⟨[], 0, 1, none⟩, ⟨[0, 1, 2, 3, 4, 5, 6, 7, 8, 9, 10, 11, 12], 0, 0, some 1⟩, ⟨[0, 1, 2, 3, 4, 5, 6, 7, 8, 9, 10, 11, 12, 13], 2, 2, none⟩, ⟨[0, 1, 2, 3, 4, 5, 6, 7, 8, 9, 10, 11, 12, 13, 14], 2, 2, none⟩] [6, 13] [_, _, _] rfl rfl (by decide) (by decide) (by kernel_rfl) (And.intro (Val.of hσ rfl rfl) (And.intro (Val.of hσ rfl rfl) (And.intro (Val.of hσ rfl rfl) (And.intro (Val.of hσ rfl rfl) (And.intro (Val.of hσ rfl rfl) (And.intro (Val.of hσ rfl rfl) (And.intro (Eff.lone hσ (B0 := 45000) rfl rfl rfl rfl (c160 (t := su) (vars := q.vars) h1 h2 hsf.1 hr1.vars) (.cons (.agg (VMs.self rfl)) (.cons (.c (.whole rfl (by rw [List.length_map]; exact hnv.symm))) .nil)) rfl rfl rfl rfl rfl) (And.intro (And.intro (Val.of hσ rfl rfl) (Val.of hσ rfl rfl)) (And.intro (And.intro (Val.of hσ rfl rfl) (Val.of hσ rfl rfl)) (And.intro (And.intro (Val.of hσ rfl rfl) (Val.of hσ rfl rfl)) (And.intro (And.intro (Val.of hσ rfl rfl) (Val.of hσ rfl rfl)) (And.intro (And.intro (Val.of hσ rfl rfl) (Val.of hσ rfl rfl)) (And.intro (And.intro (Val.of hσ rfl rfl) (Val.of hσ rfl rfl)) (And.intro (Eff.lone hσ (B0 := 52000) rfl rfl rfl rfl (c160 (t := ix) (vars := q.vars) h1 h2 hsf.2 hr1.vars) (.cons (.agg (VMs.self rfl)) (.cons (.c (.whole rfl (by rw [List.length_map]; exact hnv.symm))) .nil)) rfl rfl rfl rfl rfl) (And.intro (Val.of hσ rfl rfl) (And.intro (Val.of hσ rfl rfl) trivial)))))))))))))))) ?_
   refine AWP.forget [(7, _), (6, _), (5, _), (4, _), (0, _), (1, _)] ⟨rfl, rfl, rfl, rfl, rfl, rfl, trivial⟩ ?_
   apply AWP.norm
   ·
    repeat' (first | exact q0 rfl | apply q1 rfl | exact q2 rfl | apply q3 rfl | exact q4 rfl | apply q5 rfl | exact q6 rfl | exact q7 rfl | exact q8)
   refine AWP.seq ?_
   refine AWP.seq ?_
   refine AWP.region ?_
   refine AOps.step (Val.of hσ rfl rfl) rfl rfl rfl ?_
   refine AOps.step (Val.of hσ rfl rfl) rfl rfl rfl ?_
   refine AOps.step (Val.of hσ rfl rfl) rfl rfl rfl ?_
   refine AOps.step (Val.of hσ rfl rfl) rfl rfl rfl ?_
   refine AOps.step (Val.of hσ rfl rfl) rfl rfl rfl ?_
   refine AOps.step (Val.of hσ rfl rfl) rfl rfl rfl ?_
   refine AOps.step (Val.of hσ rfl rfl) rfl rfl rfl ?_
   refine AOps.forget [(58, _), (7, _), (6, _), (5, _), (4, _), (0, _), (1, _)] ⟨rfl, rfl, rfl, rfl, rfl, rfl, rfl, trivial⟩ ?_
   refine AOps.live rfl rfl rfl rfl rfl ?_
   refine AOps.step (Val.of hσ rfl rfl) rfl rfl rfl ?_
   refine AOps.live rfl rfl rfl rfl rfl ?_
   refine AOps.step (Val.of hσ rfl rfl) rfl rfl rfl ?_
   refine AOps.forget [(60, _), (58, _), (7, _), (6, _), (5, _), (4, _), (0, _), (1, _)] ⟨rfl, rfl, rfl, rfl, rfl, rfl, rfl, rfl, trivial⟩ ?_
   refine AOps.live rfl rfl rfl rfl rfl ?_
   refine AOps.step (Val.of hσ rfl rfl) rfl rfl rfl ?_
   refine AOps.forget [(61, _), (58, _), (7, _), (6, _), (5, _), (4, _), (0, _), (1, _)] ⟨rfl, rfl, rfl, rfl, rfl, rfl, rfl, rfl, trivial⟩ ?_
   refine AOps.live rfl rfl rfl rfl rfl ?_
   refine AOps.step (Val.of hσ rfl rfl) rfl rfl rfl ?_
   refine AOps.forget [(62, _), (58, _), (7, _), (6, _), (5, _), (4, _), (0, _), (1, _)] ⟨rfl, rfl, rfl, rfl, rfl, rfl, rfl, rfl, trivial⟩ ?_
   refine AOps.live rfl rfl rfl rfl rfl ?_
   refine AOps.step (Val.of hσ rfl rfl) rfl rfl rfl ?_
   refine AOps.forget [(63, _), (58, _), (7, _), (6, _), (5, _), (4, _), (0, _), (1, _)] ⟨rfl, rfl, rfl, rfl, rfl, rfl, rfl, rfl, trivial⟩ ?_
   refine AOps.live rfl rfl rfl rfl rfl ?_
   refine AOps.step (Val.of hσ rfl rfl) rfl rfl rfl ?_
   refine AOps.step (Val.pickN hσ rfl rfl rfl rfl rfl) rfl rfl rfl ?_
   refine AOps.step (Val.of hσ rfl rfl) rfl rfl rfl ?_
   refine AOps.forget [(66, _), (7, _), (6, _), (5, _), (4, _), (0, _), (1, _)] ⟨rfl, rfl, rfl, rfl, rfl, rfl, rfl, trivial⟩ ?_
   refine AOps.skip rfl rfl rfl rfl rfl rfl ?_
   refine AOps.skip rfl rfl rfl rfl rfl rfl ?_
   refine AOps.forget [(68, _), (66, _), (7, _), (6, _), (5, _), (4, _), (0, _), (1, _)] ⟨rfl, rfl, rfl, rfl, rfl, rfl, rfl, rfl, trivial⟩ ?_
   refine AOps.skip rfl rfl rfl rfl rfl rfl ?_
   refine AOps.step (Val.pickN hσ rfl rfl rfl rfl rfl) rfl rfl rfl ?_
   refine AOps.forget [(70, _), (7, _), (6, _), (5, _), (4, _), (0, _), (1, _)] ⟨rfl, rfl, rfl, rfl, rfl, rfl, rfl, trivial⟩ ?_
   refine AOps.nil ?_
   refine AWP.cond hσ rfl rfl (fun hc70 => ?_) (fun hc70 => ?_)
   ·
    skip
    exact absurd (show false = true from hc70) (by decide)
   ·
    skip
    refine AWP.skip ?_
    refine AWP.seq ?_
    refine AWP.seq ?_
    refine AWP.region ?_
    refine AOps.step (Val.of hσ rfl rfl) rfl rfl rfl ?_
    refine AOps.step (Val.of hσ rfl rfl) rfl rfl rfl ?_
    refine AOps.step (Val.of hσ rfl rfl) rfl rfl rfl ?_
    refine AOps.step (Val.of hσ rfl rfl) rfl rfl rfl ?_
    refine AOps.step (Val.of hσ rfl rfl) rfl rfl rfl ?_
    refine AOps.step (Val.of hσ rfl rfl) rfl rfl rfl ?_
    refine AOps.step (Val.of hσ rfl rfl) rfl rfl rfl ?_
    refine AOps.forget [(79, _), (7, _), (6, _), (5, _), (4, _), (0, _), (1, _)] ⟨rfl, rfl, rfl, rfl, rfl, rfl, rfl, trivial⟩ ?_
    refine AOps.live rfl rfl rfl rfl rfl ?_
    refine AOps.step (Val.of hσ rfl rfl) rfl rfl rfl ?_
    refine AOps.live rfl rfl rfl rfl rfl ?_
    refine AOps.step (Val.of hσ rfl rfl) rfl rfl rfl ?_
    refine AOps.forget [(81, _), (79, _), (7, _), (6, _), (5, _), (4, _), (0, _), (1, _)] ⟨rfl, rfl, rfl, rfl, rfl, rfl, rfl, rfl, trivial⟩ ?_
    refine AOps.live rfl rfl rfl rfl rfl ?_
    refine AOps.step (Val.of hσ rfl rfl) rfl rfl rfl ?_
    refine AOps.forget [(82, _), (79, _), (7, _), (6, _), (5, _), (4, _), (0, _), (1, _)] ⟨rfl, rfl, rfl, rfl, rfl, rfl, rfl, rfl, trivial⟩ ?_
    refine AOps.live rfl rfl rfl rfl rfl ?_
    refine AOps.step (Val.of hσ rfl rfl) rfl rfl rfl ?_
    refine AOps.forget [(83, _), (79, _), (7, _), (6, _), (5, _), (4, _), (0, _), (1, _)] ⟨rfl, rfl, rfl, rfl, rfl, rfl, rfl, rfl, trivial⟩ ?_
    refine AOps.live rfl rfl rfl rfl rfl ?_
    refine AOps.step (Val.of hσ rfl rfl) rfl rfl rfl ?_
    refine AOps.forget [(84, _), (79, _), (7, _), (6, _), (5, _), (4, _), (0, _), (1, _)] ⟨rfl, rfl, rfl, rfl, rfl, rfl, rfl, rfl, trivial⟩ ?_
    refine AOps.live rfl rfl rfl rfl rfl ?_
    refine AOps.step (Val.of hσ rfl rfl) rfl rfl rfl ?_
    refine AOps.step (Val.pickN hσ rfl rfl rfl rfl rfl) rfl rfl rfl ?_
    refine AOps.step (Val.of hσ rfl rfl) rfl rfl rfl ?_
    refine AOps.forget [(87, _), (7, _), (6, _), (5, _), (4, _), (0, _), (1, _)] ⟨rfl, rfl, rfl, rfl, rfl, rfl, rfl, trivial⟩ ?_
    refine AOps.skip rfl rfl rfl rfl rfl rfl ?_
    refine AOps.skip rfl rfl rfl rfl rfl rfl ?_
    refine AOps.forget [(89, _), (87, _), (7, _), (6, _), (5, _), (4, _), (0, _), (1, _)] ⟨rfl, rfl, rfl, rfl, rfl, rfl, rfl, rfl, trivial⟩ ?_
    refine AOps.skip rfl rfl rfl rfl rfl rfl ?_
    refine AOps.step (Val.pickN hσ rfl rfl rfl rfl rfl) rfl rfl rfl ?_
    refine AOps.forget [(91, _), (7, _), (6, _), (5, _), (4, _), (0, _), (1, _)] ⟨rfl, rfl, rfl, rfl, rfl, rfl, rfl, trivial⟩ ?_
    refine AOps.nil ?_
    refine AWP.cond hσ rfl rfl (fun hc91 => ?_) (fun hc91 => ?_)
    ·
     skip
     exact absurd (show false = true from hc91) (by decide)
    ·
     skip
     refine AWP.skip ?_
     refine AWP.seq ?_
     refine AWP.seq ?_
     refine AWP.region ?_
     refine AOps.step (Val.of hσ rfl rfl) rfl rfl rfl ?_
     refine AOps.step (Val.of hσ rfl rfl) rfl rfl rfl ?_
     refine AOps.step (Val.of hσ rfl rfl) rfl rfl rfl ?_
     refine AOps.step (Val.of hσ rfl rfl) rfl rfl rfl ?_
     refine AOps.step (Val.of hσ rfl rfl) rfl rfl rfl ?_
     refine AOps.forget [(98, _), (7, _), (6, _), (5, _), (4, _), (0, _), (1, _)] ⟨rfl, rfl, rfl, rfl, rfl, rfl, rfl, trivial⟩ ?_
     refine AOps.nil ?_
     refine AWP.block ?_
     refine AWP.seq ?_
     refine AWP.region ?_
     refine AOps.step (Val.of hσ rfl rfl) rfl rfl rfl ?_
     refine AOps.step (Val.of hσ rfl rfl) rfl rfl rfl ?_
     refine AOps.nil ?_
     refine AWP.cond hσ rfl rfl (fun hc99 => ?_) (fun hc99 => ?_)
     ·
      skip
      exact absurd (show false = true from hc99) (by decide)
     ·
      skip
      refine AWP.seq ?_
      refine AWP.region ?_
      refine AOps.step (Val.of hσ rfl rfl) rfl rfl rfl ?_
      refine AOps.step (Val.of hσ rfl rfl) rfl rfl rfl ?_
      refine AOps.forget [(119, _), (100, _), (98, _), (7, _), (6, _), (5, _), (4, _), (0, _), (1, _)] ⟨rfl, rfl, rfl, rfl, rfl, rfl, rfl, rfl, rfl, trivial⟩ ?_
      refine AOps.nil ?_
      refine AWP.cond hσ rfl rfl (fun hc119 => ?_) (fun hc119 => ?_)
      ·
       skip
       exact absurd (show false = true from hc119) (by decide)
      ·
       skip
       refine AWP.seq ?_
       refine AWP.region ?_
       refine AOps.step (Val.of hσ rfl rfl) rfl rfl rfl ?_
       refine AOps.step (Val.of hσ rfl rfl) rfl rfl rfl ?_
       refine AOps.forget [(129, _), (100, _), (98, _), (7, _), (6, _), (5, _), (4, _), (0, _), (1, _)] ⟨rfl, rfl, rfl, rfl, rfl, rfl, rfl, rfl, rfl, trivial⟩ ?_
       refine AOps.nil ?_
       refine AWP.cond hσ rfl rfl (fun hc129 => ?_) (fun hc129 => ?_)
       ·
        skip
        exact absurd (show false = true from hc129) (by decide)
       ·
        skip
        refine AWP.seq ?_
        refine AWP.region ?_
        refine AOps.step (Val.of hσ rfl rfl) rfl rfl rfl ?_
        refine AOps.step (Val.of hσ rfl rfl) rfl rfl rfl ?_
        refine AOps.forget [(146, _), (100, _), (98, _), (7, _), (6, _), (5, _), (4, _), (0, _), (1, _)] ⟨rfl, rfl, rfl, rfl, rfl, rfl, rfl, rfl, rfl, trivial⟩ ?_
        refine AOps.nil ?_
        refine AWP.cond hσ rfl rfl (fun hc146 => ?_) (fun hc146 => ?_)
        ·
         skip
         exact absurd (show false = true from hc146) (by decide)
        ·
         skip
         refine AWP.seq ?_
         refine AWP.region ?_
         refine AOps.step (Val.of hσ rfl rfl) rfl rfl rfl ?_
         refine AOps.step (Val.of hσ rfl rfl) rfl rfl rfl ?_
         refine AOps.forget [(156, _), (100, _), (98, _), (7, _), (6, _), (5, _), (4, _), (0, _), (1, _)] ⟨rfl, rfl, rfl, rfl, rfl, rfl, rfl, rfl, rfl, trivial⟩ ?_
         refine AOps.nil ?_
         refine AWP.cond hσ rfl rfl (fun hc156 => ?_) (fun hc156 => ?_)
         ·
          skip
          exact absurd (show false = true from hc156) (by decide)
         ·
          skip
          refine AWP.seq ?_
          refine AWP.region ?_
          refine AOps.step (Val.of hσ rfl rfl) rfl rfl rfl ?_
          refine AOps.step (Val.of hσ rfl rfl) rfl rfl rfl ?_
          refine AOps.forget [(172, _), (100, _), (98, _), (7, _), (6, _), (5, _), (4, _), (0, _), (1, _)] ⟨rfl, rfl, rfl, rfl, rfl, rfl, rfl, rfl, rfl, trivial⟩ ?_
          refine AOps.nil ?_
          refine AWP.cond hσ rfl rfl (fun hc172 => ?_) (fun hc172 => ?_)
          ·
           skip
           exact absurd (show false = true from hc172) (by decide)
          ·
           skip
           refine AWP.seq ?_
           refine AWP.region ?_
           refine AOps.step (Val.of hσ rfl rfl) rfl rfl rfl ?_
           refine AOps.step (Val.of hσ rfl rfl) rfl rfl rfl ?_
           refine AOps.forget [(178, _), (100, _), (98, _), (7, _), (6, _), (5, _), (4, _), (0, _), (1, _)] ⟨rfl, rfl, rfl, rfl, rfl, rfl, rfl, rfl, rfl, trivial⟩ ?_
           refine AOps.nil ?_
           refine AWP.cond hσ rfl rfl (fun hc178 => ?_) (fun hc178 => ?_)
           ·
            skip
            refine AWP.seq ?_
            refine AWP.seq ?_
            refine AWP.region ?_
            refine AOps.step (Val.of hσ rfl rfl) rfl rfl rfl ?_
            refine AOps.step (Val.of hσ rfl rfl) rfl rfl rfl ?_
            refine AOps.forget [(181, _), (100, _), (98, _), (7, _), (6, _), (5, _), (4, _), (0, _), (1, _)] ⟨rfl, rfl, rfl, rfl, rfl, rfl, rfl, rfl, rfl, trivial⟩ ?_
            refine AOps.nil ?_
            refine AWP.cond hσ rfl rfl (fun hc181 => ?_) (fun hc181 => ?_)
            ·
             skip
             refine AWP.seq ?_
             refine AWP.region ?_
             refine AOps.step (Val.of hσ rfl rfl) rfl rfl rfl ?_
             refine AOps.step (Val.of hσ rfl rfl) rfl rfl rfl ?_
             refine AOps.step (Val.of hσ rfl rfl) rfl rfl rfl ?_
             refine AOps.step (Val.of hσ rfl rfl) rfl rfl rfl ?_
             refine AOps.step (Val.of hσ rfl rfl) rfl rfl rfl ?_
             refine AOps.step (Val.indexD hσ rfl rfl rfl rfl rfl rfl rfl rfl (by simp [Trs.d]) rfl) rfl rfl rfl ?_
             refine AOps.step (Val.of hσ rfl rfl) rfl rfl rfl ?_
             refine AOps.forget [(188, _), (182, _), (100, _), (98, _), (7, _), (6, _), (5, _), (4, _), (0, _), (1, _)] ⟨rfl, rfl, rfl, rfl, rfl, rfl, rfl, rfl, rfl, rfl, trivial⟩ ?_
             refine AOps.inn hσ [500, 501, 502, 503] (bin := [rbox 3 q, nrow (q).vars, nrow (q).cells, nrow (q).events]) rfl rfl rfl rfl (ihx q hr1) rfl rfl rfl rfl rfl rfl (B0 := 190000) rfl rfl ?_
             apply AOps.norm
             ·
              repeat' (first | exact q0 rfl | apply q1 rfl | exact q2 rfl | apply q3 rfl | exact q4 rfl | apply q5 rfl | exact q6 rfl | exact q7 rfl | exact q8)
             refine AOps.step (Val.of hσ rfl rfl) rfl rfl rfl ?_
             refine AOps.forget [(4, _), (100, _), (98, _), (7, _), (6, _), (5, _), (0, _), (1, _)] ⟨rfl, rfl, rfl, rfl, rfl, rfl, rfl, rfl, trivial⟩ ?_
             refine AOps.nil ?_
             refine AWP.ret ?_
             have hrun : run1 (.node ⟨7, vr, ev, su, ix, fa⟩ a [x, y]) r = run1 x q := by rw [run1_two, if_neg (by decide : ¬ (7 : Int) = 1), if_pos hs1, ← hq, if_pos (of_decide_eq_true hc181)]
             refine ⟨.inl rfl, _, (Ent.sel [500, 501, 502, 190004] rfl rfl (e' := [(4, _)]) ⟨rfl, trivial⟩ rfl).trans (Ent.sub2 190004 504 rfl rfl), _, rfl, ?_, ?_⟩
             ·
              rw [hrun]; rfl
             ·
              rw [hrun]; rfl
            ·
             skip
             refine AWP.skip ?_
             refine AWP.seq ?_
             refine AWP.region ?_
             refine AOps.step (Val.of hσ rfl rfl) rfl rfl rfl ?_
             refine AOps.step (Val.of hσ rfl rfl) rfl rfl rfl ?_
             refine AOps.step (Val.of hσ rfl rfl) rfl rfl rfl ?_
             refine AOps.step (Val.of hσ rfl rfl) rfl rfl rfl ?_
             refine AOps.step (Val.of hσ rfl rfl) rfl rfl rfl ?_
             refine AOps.step (Val.indexD hσ rfl rfl rfl rfl rfl rfl rfl rfl (by simp [Trs.d]) rfl) rfl rfl rfl ?_
             refine AOps.step (Val.of hσ rfl rfl) rfl rfl rfl ?_
             refine AOps.forget [(196, _), (190, _), (100, _), (98, _), (7, _), (6, _), (5, _), (4, _), (0, _), (1, _)] ⟨rfl, rfl, rfl, rfl, rfl, rfl, rfl, rfl, rfl, rfl, trivial⟩ ?_
             refine AOps.inn hσ [500, 501, 502, 503] (bin := [rbox 3 q, nrow (q).vars, nrow (q).cells, nrow (q).events]) rfl rfl rfl rfl (ihy q hr1) rfl rfl rfl rfl rfl rfl (B0 := 198000) rfl rfl ?_
             apply AOps.norm
             ·
              repeat' (first | exact q0 rfl | apply q1 rfl | exact q2 rfl | apply q3 rfl | exact q4 rfl | apply q5 rfl | exact q6 rfl | exact q7 rfl | exact q8)
             refine AOps.step (Val.of hσ rfl rfl) rfl rfl rfl ?_
             refine AOps.forget [(4, _), (100, _), (98, _), (7, _), (6, _), (5, _), (0, _), (1, _)] ⟨rfl, rfl, rfl, rfl, rfl, rfl, rfl, rfl, trivial⟩ ?_
             refine AOps.nil ?_
             refine AWP.ret ?_
             have hrun : run1 (.node ⟨7, vr, ev, su, ix, fa⟩ a [x, y]) r = run1 y q := by rw [run1_two, if_neg (by decide : ¬ (7 : Int) = 1), if_pos hs1, ← hq, if_neg (of_decide_eq_false hc181)]
             refine ⟨.inl rfl, _, (Ent.sel [500, 501, 502, 198004] rfl rfl (e' := [(4, _)]) ⟨rfl, trivial⟩ rfl).trans (Ent.sub2 198004 504 rfl rfl), _, rfl, ?_, ?_⟩
             ·
              rw [hrun]; rfl
             ·
              rw [hrun]; rfl
           ·
            skip
            exact absurd (show true = false from hc178) (by decide)
  ·
   skip
   exact absurd (show true = false from hc37) (by decide)
theorem c114_1 {L : Nat} (h1 : 4096 ≤ L) (h2 : L ≤ 1073741824) {vr ev a : Int} {su ix : Tm} {fa : List Tm} {x y : Tr} {r : RS} (hst : stmtB ⟨1, vr, ev, su, ix, fa⟩ = true) (hr : RSok r) (ihx : ∀ r, RSok r → MC Try.prog L 114 [.c (.pt 0 0 0), .c (.d x.d)] (rH 3 r) (Outs (eB (run1 x r).1) (rH 4 (run1 x r).2))) (ihy : ∀ r, RSok r → MC Try.prog L 114 [.c (.pt 0 0 0), .c (.d y.d)] (rH 3 r) (Outs (eB (run1 y r).1) (rH 4 (run1 y r).2))) (hxo : ∀ r, RSok r → RSle r (run1 x r).2) : MC Try.prog L 114 [.c (.pt 0 0 0), .c (.d (Tr.d (.node ⟨1, vr, ev, su, ix, fa⟩ a [x, y])))] (rH 3 r) (Outs (eB (run1 (.node ⟨1, vr, ev, su, ix, fa⟩ a [x, y]) r).1) (rH 4 (run1 (.node ⟨1, vr, ev, su, ix, fa⟩ a [x, y]) r).2)) := by
 refine MC.shift 500 rfl ?_
 have hσ := SgOk.withIns (js := [500, 501, 502, 503]) (SGok (nt := 219) h1 (Nat.le_trans h2 (by decide)))
 refine MC.bodyH hσ Try.func114 (by kernel_rfl) rfl rfl rfl (Nat.le_of_ble_eq_true rfl) (fun hF => ?_)
 apply AWP.norm
 ·
  repeat' (first | exact q0 rfl | apply q1 rfl | exact q2 rfl | apply q3 rfl | exact q4 rfl | apply q5 rfl | exact q6 rfl | exact q7 rfl | exact q8)
 have hsf := stmt_facts hst
 refine AWP.seq ?_
 refine AWP.region ?_
 refine AOps.step (Val.of hσ rfl rfl) rfl rfl rfl ?_
 refine AOps.nil ?_
 refine AWP.seq ?_
 refine AWP.region ?_
 refine AOps.step (Val.of hσ rfl rfl) rfl rfl rfl ?_
 refine AOps.step (Val.of hσ rfl rfl) rfl rfl rfl ?_
 refine AOps.step (Val.of hσ rfl rfl) rfl rfl rfl ?_
 refine AOps.step (Val.of hσ rfl rfl) rfl rfl rfl ?_
 refine AOps.step (Val.of hσ rfl rfl) rfl rfl rfl ?_
 refine AOps.step (Val.of hσ rfl rfl) rfl rfl rfl ?_
 refine AOps.forget [(5, _), (4, _), (0, _), (1, _)] ⟨rfl, rfl, rfl, rfl, trivial⟩ ?_
 refine AOps.nil ?_
 refine AWP.seq ?_
 refine AWP.seq ?_
 refine AWP.region ?_
 refine AOps.step (Val.of hσ rfl rfl) rfl rfl rfl ?_
 refine AOps.step (Val.of hσ rfl rfl) rfl rfl rfl ?_
 refine AOps.step (Val.of hσ rfl rfl) rfl rfl rfl ?_
 refine AOps.step (Val.of hσ rfl rfl) rfl rfl rfl ?_
 refine AOps.step (Val.of hσ rfl rfl) rfl rfl rfl ?_
 refine AOps.step (Val.of hσ rfl rfl) rfl rfl rfl ?_
 refine AOps.step (Val.of hσ rfl rfl) rfl rfl rfl ?_
 refine AOps.forget [(19, _), (5, _), (4, _), (0, _), (1, _)] ⟨rfl, rfl, rfl, rfl, rfl, trivial⟩ ?_
 refine AOps.skip rfl rfl rfl rfl rfl rfl ?_
 refine AOps.skip rfl rfl rfl rfl rfl rfl ?_
 refine AOps.forget [(21, _), (19, _), (5, _), (4, _), (0, _), (1, _)] ⟨rfl, rfl, rfl, rfl, rfl, rfl, trivial⟩ ?_
 refine AOps.skip rfl rfl rfl rfl rfl rfl ?_
 refine AOps.forget [(22, _), (19, _), (5, _), (4, _), (0, _), (1, _)] ⟨rfl, rfl, rfl, rfl, rfl, rfl, trivial⟩ ?_
 refine AOps.skip rfl rfl rfl rfl rfl rfl ?_
 refine AOps.forget [(23, _), (19, _), (5, _), (4, _), (0, _), (1, _)] ⟨rfl, rfl, rfl, rfl, rfl, rfl, trivial⟩ ?_
 refine AOps.skip rfl rfl rfl rfl rfl rfl ?_
 refine AOps.forget [(24, _), (19, _), (5, _), (4, _), (0, _), (1, _)] ⟨rfl, rfl, rfl, rfl, rfl, rfl, trivial⟩ ?_
 refine AOps.skip rfl rfl rfl rfl rfl rfl ?_
 refine AOps.step (Val.pickN hσ rfl rfl rfl rfl rfl) rfl rfl rfl ?_
 refine AOps.step (Val.of hσ rfl rfl) rfl rfl rfl ?_
 refine AOps.forget [(27, _), (5, _), (4, _), (0, _), (1, _)] ⟨rfl, rfl, rfl, rfl, rfl, trivial⟩ ?_
 refine AOps.skip rfl rfl rfl rfl rfl rfl ?_
 refine AOps.skip rfl rfl rfl rfl rfl rfl ?_
 refine AOps.forget [(29, _), (27, _), (5, _), (4, _), (0, _), (1, _)] ⟨rfl, rfl, rfl, rfl, rfl, rfl, trivial⟩ ?_
 refine AOps.skip rfl rfl rfl rfl rfl rfl ?_
 refine AOps.step (Val.pickN hσ rfl rfl rfl rfl rfl) rfl rfl rfl ?_
 refine AOps.forget [(31, _), (5, _), (4, _), (0, _), (1, _)] ⟨rfl, rfl, rfl, rfl, rfl, trivial⟩ ?_
 refine AOps.nil ?_
 refine AWP.cond hσ rfl rfl (fun hc31 => ?_) (fun hc31 => ?_)
 ·
  skip
  exact absurd (show false = true from hc31) (by decide)
 ·
  skip
  refine AWP.skip ?_
  refine AWP.seq ?_
  refine AWP.region ?_
  refine AOps.step (Val.of hσ rfl rfl) rfl rfl rfl ?_
  refine AOps.step (Val.of hσ rfl rfl) rfl rfl rfl ?_
  refine AOps.nil ?_
  refine AWP.seq ?_
  refine AWP.seq ?_
  refine AWP.region ?_
  refine AOps.step (Val.of hσ rfl rfl) rfl rfl rfl ?_
  refine AOps.step (Val.of hσ rfl rfl) rfl rfl rfl ?_
  refine AOps.step (Val.of hσ rfl rfl) rfl rfl rfl ?_
  refine AOps.step (Val.of hσ rfl rfl) rfl rfl rfl ?_
  refine AOps.step (Val.of hσ rfl rfl) rfl rfl rfl ?_
  refine AOps.step (Val.of hσ rfl rfl) rfl rfl rfl ?_
  refine AOps.forget [(37, _), (7, _), (6, _), (5, _), (4, _), (0, _), (1, _)] ⟨rfl, rfl, rfl, rfl, rfl, rfl, rfl, trivial⟩ ?_
  refine AOps.nil ?_
  refine AWP.cond hσ rfl rfl (fun hc37 => ?_) (fun hc37 => ?_)
  ·
   skip
   exact absurd (show false = true from hc37) (by decide)
  ·
   skip
   refine AWP.skip ?_
   refine AWP.seq ?_
   refine AWP.seq ?_
   refine AWP.region ?_
   refine AOps.step (Val.of hσ rfl rfl) rfl rfl rfl ?_
   refine AOps.step (Val.of hσ rfl rfl) rfl rfl rfl ?_
   refine AOps.step (Val.of hσ rfl rfl) rfl rfl rfl ?_
   refine AOps.step (Val.of hσ rfl rfl) rfl rfl rfl ?_
   refine AOps.step (Val.of hσ rfl rfl) rfl rfl rfl ?_
   refine AOps.step (Val.of hσ rfl rfl) rfl rfl rfl ?_
   refine AOps.step (Val.of hσ rfl rfl) rfl rfl rfl ?_
   refine AOps.forget [(58, _), (7, _), (6, _), (5, _), (4, _), (0, _), (1, _)] ⟨rfl, rfl, rfl, rfl, rfl, rfl, rfl, trivial⟩ ?_
   refine AOps.live rfl rfl rfl rfl rfl ?_
   refine AOps.step (Val.of hσ rfl rfl) rfl rfl rfl ?_
   refine AOps.live rfl rfl rfl rfl rfl ?_
   refine AOps.step (Val.of hσ rfl rfl) rfl rfl rfl ?_
   refine AOps.forget [(60, _), (58, _), (7, _), (6, _), (5, _), (4, _), (0, _), (1, _)] ⟨rfl, rfl, rfl, rfl, rfl, rfl, rfl, rfl, trivial⟩ ?_
   refine AOps.live rfl rfl rfl rfl rfl ?_
   refine AOps.step (Val.of hσ rfl rfl) rfl rfl rfl ?_
   refine AOps.forget [(61, _), (58, _), (7, _), (6, _), (5, _), (4, _), (0, _), (1, _)] ⟨rfl, rfl, rfl, rfl, rfl, rfl, rfl, rfl, trivial⟩ ?_
   refine AOps.live rfl rfl rfl rfl rfl ?_
   refine AOps.step (Val.of hσ rfl rfl) rfl rfl rfl ?_
   refine AOps.forget [(62, _), (58, _), (7, _), (6, _), (5, _), (4, _), (0, _), (1, _)] ⟨rfl, rfl, rfl, rfl, rfl, rfl, rfl, rfl, trivial⟩ ?_
   refine AOps.live rfl rfl rfl rfl rfl ?_
   refine AOps.step (Val.of hσ rfl rfl) rfl rfl rfl ?_
   refine AOps.forget [(63, _), (58, _), (7, _), (6, _), (5, _), (4, _), (0, _), (1, _)] ⟨rfl, rfl, rfl, rfl, rfl, rfl, rfl, rfl, trivial⟩ ?_
   refine AOps.live rfl rfl rfl rfl rfl ?_
   refine AOps.step (Val.of hσ rfl rfl) rfl rfl rfl ?_
   refine AOps.step (Val.pickN hσ rfl rfl rfl rfl rfl) rfl rfl rfl ?_
   refine AOps.step (Val.of hσ rfl rfl) rfl rfl rfl ?_
   refine AOps.forget [(66, _), (7, _), (6, _), (5, _), (4, _), (0, _), (1, _)] ⟨rfl, rfl, rfl, rfl, rfl, rfl, rfl, trivial⟩ ?_
   refine AOps.skip rfl rfl rfl rfl rfl rfl ?_
   refine AOps.skip rfl rfl rfl rfl rfl rfl ?_
   refine AOps.forget [(68, _), (66, _), (7, _), (6, _), (5, _), (4, _), (0, _), (1, _)] ⟨rfl, rfl, rfl, rfl, rfl, rfl, rfl, rfl, trivial⟩ ?_
   refine AOps.skip rfl rfl rfl rfl rfl rfl ?_
   refine AOps.step (Val.pickN hσ rfl rfl rfl rfl rfl) rfl rfl rfl ?_
   refine AOps.forget [(70, _), (7, _), (6, _), (5, _), (4, _), (0, _), (1, _)] ⟨rfl, rfl, rfl, rfl, rfl, rfl, rfl, trivial⟩ ?_
   refine AOps.nil ?_
   refine AWP.cond hσ rfl rfl (fun hc70 => ?_) (fun hc70 => ?_)
   ·
    skip
    exact absurd (show false = true from hc70) (by decide)
   ·
    skip
    refine AWP.skip ?_
    refine AWP.seq ?_
    refine AWP.seq ?_
    refine AWP.region ?_
    refine AOps.step (Val.of hσ rfl rfl) rfl rfl rfl ?_
    refine AOps.step (Val.of hσ rfl rfl) rfl rfl rfl ?_
    refine AOps.step (Val.of hσ rfl rfl) rfl rfl rfl ?_
    refine AOps.step (Val.of hσ rfl rfl) rfl rfl rfl ?_
    refine AOps.step (Val.of hσ rfl rfl) rfl rfl rfl ?_
    refine AOps.step (Val.of hσ rfl rfl) rfl rfl rfl ?_
    refine AOps.step (Val.of hσ rfl rfl) rfl rfl rfl ?_
    refine AOps.forget [(79, _), (7, _), (6, _), (5, _), (4, _), (0, _), (1, _)] ⟨rfl, rfl, rfl, rfl, rfl, rfl, rfl, trivial⟩ ?_
    refine AOps.live rfl rfl rfl rfl rfl ?_
    refine AOps.step (Val.of hσ rfl rfl) rfl rfl rfl ?_
    refine AOps.live rfl rfl rfl rfl rfl ?_
    refine AOps.step (Val.of hσ rfl rfl) rfl rfl rfl ?_
    refine AOps.forget [(81, _), (79, _), (7, _), (6, _), (5, _), (4, _), (0, _), (1, _)] ⟨rfl, rfl, rfl, rfl, rfl, rfl, rfl, rfl, trivial⟩ ?_
    refine AOps.live rfl rfl rfl rfl rfl ?_
    refine AOps.step (Val.of hσ rfl rfl) rfl rfl rfl ?_
    refine AOps.forget [(82, _), (79, _), (7, _), (6, _), (5, _), (4, _), (0, _), (1, _)] ⟨rfl, rfl, rfl, rfl, rfl, rfl, rfl, rfl, trivial⟩ ?_
    refine AOps.live rfl rfl rfl rfl rfl ?_
    refine AOps.step (Val.of hσ rfl rfl) rfl rfl rfl ?_
    refine AOps.forget [(83, _), (79, _), (7, _), (6, _), (5, _), (4, _), (0, _), (1, _)] ⟨rfl, rfl, rfl, rfl, rfl, rfl, rfl, rfl, trivial⟩ ?_
    refine AOps.live rfl rfl rfl rfl rfl ?_
    refine AOps.step (Val.of hσ rfl rfl) rfl rfl rfl ?_
    refine AOps.forget [(84, _), (79, _), (7, _), (6, _), (5, _), (4, _), (0, _), (1, _)] ⟨rfl, rfl, rfl, rfl, rfl, rfl, rfl, rfl, trivial⟩ ?_
    refine AOps.live rfl rfl rfl rfl rfl ?_
    refine AOps.step (Val.of hσ rfl rfl) rfl rfl rfl ?_
    refine AOps.step (Val.pickN hσ rfl rfl rfl rfl rfl) rfl rfl rfl ?_
    refine AOps.step (Val.of hσ rfl rfl) rfl rfl rfl ?_
    refine AOps.forget [(87, _), (7, _), (6, _), (5, _), (4, _), (0, _), (1, _)] ⟨rfl, rfl, rfl, rfl, rfl, rfl, rfl, trivial⟩ ?_
    refine AOps.skip rfl rfl rfl rfl rfl rfl ?_
    refine AOps.skip rfl rfl rfl rfl rfl rfl ?_
    refine AOps.forget [(89, _), (87, _), (7, _), (6, _), (5, _), (4, _), (0, _), (1, _)] ⟨rfl, rfl, rfl, rfl, rfl, rfl, rfl, rfl, trivial⟩ ?_
    refine AOps.skip rfl rfl rfl rfl rfl rfl ?_
    refine AOps.step (Val.pickN hσ rfl rfl rfl rfl rfl) rfl rfl rfl ?_
    refine AOps.forget [(91, _), (7, _), (6, _), (5, _), (4, _), (0, _), (1, _)] ⟨rfl, rfl, rfl, rfl, rfl, rfl, rfl, trivial⟩ ?_
    refine AOps.nil ?_
    refine AWP.cond hσ rfl rfl (fun hc91 => ?_) (fun hc91 => ?_)
    ·
     skip
     exact absurd (show false = true from hc91) (by decide)
    ·
     skip
     refine AWP.skip ?_
     refine AWP.seq ?_
     refine AWP.seq ?_
     refine AWP.region ?_
     refine AOps.step (Val.of hσ rfl rfl) rfl rfl rfl ?_
     refine AOps.step (Val.of hσ rfl rfl) rfl rfl rfl ?_
     refine AOps.step (Val.of hσ rfl rfl) rfl rfl rfl ?_
     refine AOps.step (Val.of hσ rfl rfl) rfl rfl rfl ?_
     refine AOps.step (Val.of hσ rfl rfl) rfl rfl rfl ?_
     refine AOps.forget [(98, _), (7, _), (6, _), (5, _), (4, _), (0, _), (1, _)] ⟨rfl, rfl, rfl, rfl, rfl, rfl, rfl, trivial⟩ ?_
     refine AOps.nil ?_
     refine AWP.block ?_
     refine AWP.seq ?_
     refine AWP.region ?_
     refine AOps.step (Val.of hσ rfl rfl) rfl rfl rfl ?_
     refine AOps.step (Val.of hσ rfl rfl) rfl rfl rfl ?_
     refine AOps.nil ?_
     refine AWP.cond hσ rfl rfl (fun hc99 => ?_) (fun hc99 => ?_)
     ·
      skip
      refine AWP.seq ?_
      refine AWP.region ?_
      refine AOps.step (Val.of hσ rfl rfl) rfl rfl rfl ?_
      refine AOps.step (Val.of hσ rfl rfl) rfl rfl rfl ?_
      refine AOps.step (Val.of hσ rfl rfl) rfl rfl rfl ?_
      refine AOps.step (Val.of hσ rfl rfl) rfl rfl rfl ?_
      refine AOps.step (Val.of hσ rfl rfl) rfl rfl rfl ?_
      refine AOps.step (Val.indexD hσ rfl rfl rfl rfl rfl rfl rfl rfl (by simp [Trs.d]) rfl) rfl rfl rfl ?_
      refine AOps.step (Val.of hσ rfl rfl) rfl rfl rfl ?_
      refine AOps.forget [(107, _), (101, _), (100, _), (98, _), (7, _), (6, _), (5, _), (4, _), (0, _), (1, _)] ⟨rfl, rfl, rfl, rfl, rfl, rfl, rfl, rfl, rfl, rfl, trivial⟩ ?_
      refine AOps.inn hσ [500, 501, 502, 503] (bin := [rbox 3 r, nrow (r).vars, nrow (r).cells, nrow (r).events]) rfl rfl rfl rfl (ihx r hr) rfl rfl rfl rfl rfl rfl (B0 := 109000) rfl rfl ?_
      apply AOps.norm
      ·
       repeat' (first | exact q0 rfl | apply q1 rfl | exact q2 rfl | apply q3 rfl | exact q4 rfl | apply q5 rfl | exact q6 rfl | exact q7 rfl | exact q8)
      refine AOps.step (Val.of hσ rfl rfl) rfl rfl rfl ?_
      cases hb110 : (run1 x r).1 with
      | true =>
       refine AOps.forget [(109, _), (100, _), (98, _), (7, _), (6, _), (5, _), (4, _), (0, _), (1, _)] ⟨rfl, rfl, rfl, rfl, rfl, rfl, rfl, rfl, rfl, trivial⟩ ?_
       refine AOps.live rfl rfl rfl rfl rfl ?_
       refine AOps.step (Val.of hσ rfl rfl) rfl rfl rfl ?_
       refine AOps.live rfl rfl rfl rfl rfl ?_
       refine AOps.step (Val.of hσ rfl rfl) rfl rfl rfl ?_
       refine AOps.live rfl rfl rfl rfl rfl ?_
       refine AOps.step (Val.of hσ rfl rfl) rfl rfl rfl ?_
       refine AOps.forget [(112, _), (110, _), (109, _), (100, _), (98, _), (7, _), (6, _), (5, _), (4, _), (0, _), (1, _)] ⟨rfl, rfl, rfl, rfl, rfl, rfl, rfl, rfl, rfl, rfl, rfl, trivial⟩ ?_
       refine AOps.live rfl rfl rfl rfl rfl ?_
       refine AOps.step (Val.of hσ rfl rfl) rfl rfl rfl ?_
       refine AOps.forget [(113, _), (110, _), (109, _), (100, _), (98, _), (7, _), (6, _), (5, _), (4, _), (0, _), (1, _)] ⟨rfl, rfl, rfl, rfl, rfl, rfl, rfl, rfl, rfl, rfl, rfl, trivial⟩ ?_
       refine AOps.live rfl rfl rfl rfl rfl ?_
       refine AOps.step (Val.of hσ rfl rfl) rfl rfl rfl ?_
       refine AOps.forget [(114, _), (110, _), (109, _), (100, _), (98, _), (7, _), (6, _), (5, _), (4, _), (0, _), (1, _)] ⟨rfl, rfl, rfl, rfl, rfl, rfl, rfl, rfl, rfl, rfl, rfl, trivial⟩ ?_
       refine AOps.live rfl rfl rfl rfl rfl ?_
       refine AOps.step (Val.indexD hσ rfl rfl rfl rfl rfl rfl rfl rfl (by simp [Trs.d]) rfl) rfl rfl rfl ?_
       refine AOps.forget [(115, _), (110, _), (109, _), (100, _), (98, _), (7, _), (6, _), (5, _), (4, _), (0, _), (1, _)] ⟨rfl, rfl, rfl, rfl, rfl, rfl, rfl, rfl, rfl, rfl, rfl, trivial⟩ ?_
       refine AOps.live rfl rfl rfl rfl rfl ?_
       refine AOps.step (Val.of hσ rfl rfl) rfl rfl rfl ?_
       refine AOps.forget [(116, _), (110, _), (109, _), (100, _), (98, _), (7, _), (6, _), (5, _), (4, _), (0, _), (1, _)] ⟨rfl, rfl, rfl, rfl, rfl, rfl, rfl, rfl, rfl, rfl, rfl, trivial⟩ ?_
       refine AOps.live rfl rfl rfl rfl rfl ?_
       refine AOps.inn hσ [500, 501, 502, 109004] (bin := [rbox 3 (run1 x r).2, nrow ((run1 x r).2).vars, nrow ((run1 x r).2).cells, nrow ((run1 x r).2).events]) rfl rfl rfl rfl (ihy (run1 x r).2 (hxo r hr).ok) rfl rfl rfl rfl rfl rfl (B0 := 118000) rfl rfl ?_
       apply AOps.norm
       ·
        repeat' (first | exact q0 rfl | apply q1 rfl | exact q2 rfl | apply q3 rfl | exact q4 rfl | apply q5 rfl | exact q6 rfl | exact q7 rfl | exact q8)
       refine AOps.step (Val.pickY hσ rfl rfl rfl rfl rfl) rfl rfl rfl ?_
       refine AOps.step (Val.of hσ rfl rfl) rfl rfl rfl ?_
       refine AOps.forget [(4, _), (100, _), (98, _), (7, _), (6, _), (5, _), (0, _), (1, _)] ⟨rfl, rfl, rfl, rfl, rfl, rfl, rfl, rfl, trivial⟩ ?_
       refine AOps.nil ?_
       refine AWP.ret ?_
       have hrun : run1 (.node ⟨1, vr, ev, su, ix, fa⟩ a [x, y]) r = run1 y (run1 x r).2 := by rw [run1_two, if_pos rfl, if_pos hb110]
       refine ⟨.inl rfl, _, (Ent.sel [500, 501, 502, 118004] rfl rfl (e' := [(4, _)]) ⟨rfl, trivial⟩ rfl).trans (Ent.sub2 118004 504 rfl rfl), _, rfl, ?_, ?_⟩
       ·
        rw [hrun]; rfl
       ·
        rw [hrun]; rfl
      | false =>
       refine AOps.forget [(109, _), (100, _), (98, _), (7, _), (6, _), (5, _), (4, _), (0, _), (1, _)] ⟨rfl, rfl, rfl, rfl, rfl, rfl, rfl, rfl, rfl, trivial⟩ ?_
       refine AOps.skip rfl rfl rfl rfl rfl rfl ?_
       refine AOps.skip rfl rfl rfl rfl rfl rfl ?_
       refine AOps.skip rfl rfl rfl rfl rfl rfl ?_
       refine AOps.forget [(112, _), (110, _), (109, _), (100, _), (98, _), (7, _), (6, _), (5, _), (4, _), (0, _), (1, _)] ⟨rfl, rfl, rfl, rfl, rfl, rfl, rfl, rfl, rfl, rfl, rfl, trivial⟩ ?_
       refine AOps.skip rfl rfl rfl rfl rfl rfl ?_
       refine AOps.forget [(113, _), (110, _), (109, _), (100, _), (98, _), (7, _), (6, _), (5, _), (4, _), (0, _), (1, _)] ⟨rfl, rfl, rfl, rfl, rfl, rfl, rfl, rfl, rfl, rfl, rfl, trivial⟩ ?_
       refine AOps.skip rfl rfl rfl rfl rfl rfl ?_
       refine AOps.forget [(114, _), (110, _), (109, _), (100, _), (98, _), (7, _), (6, _), (5, _), (4, _), (0, _), (1, _)] ⟨rfl, rfl, rfl, rfl, rfl, rfl, rfl, rfl, rfl, rfl, rfl, trivial⟩ ?_
       refine AOps.skip rfl rfl rfl rfl rfl rfl ?_
       refine AOps.forget [(115, _), (110, _), (109, _), (100, _), (98, _), (7, _), (6, _), (5, _), (4, _), (0, _), (1, _)] ⟨rfl, rfl, rfl, rfl, rfl, rfl, rfl, rfl, rfl, rfl, rfl, trivial⟩ ?_
       refine AOps.skip rfl rfl rfl rfl rfl rfl ?_
       refine AOps.forget [(116, _), (110, _), (109, _), (100, _), (98, _), (7, _), (6, _), (5, _), (4, _), (0, _), (1, _)] ⟨rfl, rfl, rfl, rfl, rfl, rfl, rfl, rfl, rfl, rfl, rfl, trivial⟩ ?_
       refine AOps.skip rfl rfl rfl rfl rfl rfl ?_
       refine AOps.step (Val.pickN hσ rfl rfl rfl rfl rfl) rfl rfl rfl ?_
       refine AOps.step (Val.of hσ rfl rfl) rfl rfl rfl ?_
       refine AOps.forget [(4, _), (100, _), (98, _), (7, _), (6, _), (5, _), (0, _), (1, _)] ⟨rfl, rfl, rfl, rfl, rfl, rfl, rfl, rfl, trivial⟩ ?_
       refine AOps.nil ?_
       refine AWP.ret ?_
       have hrun : run1 (.node ⟨1, vr, ev, su, ix, fa⟩ a [x, y]) r = (false, (run1 x r).2) := by rw [run1_two, if_pos rfl, if_neg (by rw [hb110]; decide)]
       refine ⟨.inl rfl, _, (Ent.sel [500, 501, 502, 109004] rfl rfl (e' := [(4, _)]) ⟨rfl, trivial⟩ rfl).trans (Ent.sub2 109004 504 rfl rfl), _, rfl, ?_, ?_⟩
       ·
        rw [hrun]; rfl
       ·
        rw [hrun]; rfl
     ·
      skip
      exact absurd (show true = false from hc99) (by decide)
end Go.Al
namespace Go.Al
open Go.Proofs
set_option linter.unusedVariables false
set_option linter.unusedSimpArgs false
set_option maxRecDepth 10000

theorem c114_8 {L : Nat} (h1 : 4096 ≤ L) (h2 : L ≤ 1073741824) {vr ev a : Int} {su ix : Tm} {fa : List Tm} {x : Tr} {r : RS} (hst : stmtB ⟨8, vr, ev, su, ix, fa⟩ = true) (hr : RSok r) (ihx : ∀ r, RSok r → MC Try.prog L 114 [.c (.pt 0 0 0), .c (.d x.d)] (rH 3 r) (Outs (eB (run1 x r).1) (rH 4 (run1 x r).2))) (hxo : ∀ r, RSok r → RSle r (run1 x r).2) : MC Try.prog L 114 [.c (.pt 0 0 0), .c (.d (Tr.d (.node ⟨8, vr, ev, su, ix, fa⟩ a [x])))] (rH 3 r) (Outs (eB (run1 (.node ⟨8, vr, ev, su, ix, fa⟩ a [x]) r).1) (rH 4 (run1 (.node ⟨8, vr, ev, su, ix, fa⟩ a [x]) r).2)) := by
 refine MC.shift 500 rfl ?_
 have hσ := SgOk.withIns (js := [500, 501, 502, 503]) (SGok (nt := 219) h1 (Nat.le_trans h2 (by decide)))
 refine MC.bodyH hσ Try.func114 (by kernel_rfl) rfl rfl rfl (Nat.le_of_ble_eq_true rfl) (fun hF => ?_)
 apply AWP.norm
 ·
  repeat' (first | exact q0 rfl | apply q1 rfl | exact q2 rfl | apply q3 rfl | exact q4 rfl | apply q5 rfl | exact q6 rfl | exact q7 rfl | exact q8)
 have hsf := stmt_facts hst
 have hnv := hr.nv
 refine AWP.seq ?_
 refine AWP.region ?_
 refine AOps.step (Val.of hσ rfl rfl) rfl rfl rfl ?_
 refine AOps.nil ?_
 refine AWP.seq ?_
 refine AWP.region ?_
 refine AOps.step (Val.of hσ rfl rfl) rfl rfl rfl ?_
 refine AOps.step (Val.of hσ rfl rfl) rfl rfl rfl ?_
 refine AOps.step (Val.of hσ rfl rfl) rfl rfl rfl ?_
 refine AOps.step (Val.of hσ rfl rfl) rfl rfl rfl ?_
 refine AOps.step (Val.of hσ rfl rfl) rfl rfl rfl ?_
 refine AOps.step (Val.of hσ rfl rfl) rfl rfl rfl ?_
 refine AOps.forget [(5, _), (4, _), (0, _), (1, _)] ⟨rfl, rfl, rfl, rfl, trivial⟩ ?_
 refine AOps.nil ?_
 refine AWP.seq ?_
 refine AWP.seq ?_
 refine AWP.region ?_
 refine AOps.step (Val.of hσ rfl rfl) rfl rfl rfl ?_
 refine AOps.step (Val.of hσ rfl rfl) rfl rfl rfl ?_
 refine AOps.step (Val.of hσ rfl rfl) rfl rfl rfl ?_
 refine AOps.step (Val.of hσ rfl rfl) rfl rfl rfl ?_
 refine AOps.step (Val.of hσ rfl rfl) rfl rfl rfl ?_
 refine AOps.step (Val.of hσ rfl rfl) rfl rfl rfl ?_
 refine AOps.step (Val.of hσ rfl rfl) rfl rfl rfl ?_
 refine AOps.forget [(19, _), (5, _), (4, _), (0, _), (1, _)] ⟨rfl, rfl, rfl, rfl, rfl, trivial⟩ ?_
 refine AOps.live rfl rfl rfl rfl rfl ?_
 refine AOps.step (Val.of hσ rfl rfl) rfl rfl rfl ?_
 refine AOps.live rfl rfl rfl rfl rfl ?_
 refine AOps.step (Val.of hσ rfl rfl) rfl rfl rfl ?_
 refine AOps.forget [(21, _), (19, _), (5, _), (4, _), (0, _), (1, _)] ⟨rfl, rfl, rfl, rfl, rfl, rfl, trivial⟩ ?_
 refine AOps.live rfl rfl rfl rfl rfl ?_
 refine AOps.step (Val.of hσ rfl rfl) rfl rfl rfl ?_
 refine AOps.forget [(22, _), (19, _), (5, _), (4, _), (0, _), (1, _)] ⟨rfl, rfl, rfl, rfl, rfl, rfl, trivial⟩ ?_
 refine AOps.live rfl rfl rfl rfl rfl ?_
 refine AOps.step (Val.of hσ rfl rfl) rfl rfl rfl ?_
 refine AOps.forget [(23, _), (19, _), (5, _), (4, _), (0, _), (1, _)] ⟨rfl, rfl, rfl, rfl, rfl, rfl, trivial⟩ ?_
 refine AOps.live rfl rfl rfl rfl rfl ?_
 refine AOps.step (Val.of hσ rfl rfl) rfl rfl rfl ?_
 refine AOps.forget [(24, _), (19, _), (5, _), (4, _), (0, _), (1, _)] ⟨rfl, rfl, rfl, rfl, rfl, rfl, trivial⟩ ?_
 refine AOps.live rfl rfl rfl rfl rfl ?_
 refine AOps.step (Val.of hσ rfl rfl) rfl rfl rfl ?_
 refine AOps.step (Val.pickY hσ rfl rfl rfl rfl rfl) rfl rfl rfl ?_
 refine AOps.step (Val.of hσ rfl rfl) rfl rfl rfl ?_
 refine AOps.forget [(27, _), (5, _), (4, _), (0, _), (1, _)] ⟨rfl, rfl, rfl, rfl, rfl, trivial⟩ ?_
 refine AOps.skip rfl rfl rfl rfl rfl rfl ?_
 refine AOps.skip rfl rfl rfl rfl rfl rfl ?_
 refine AOps.forget [(29, _), (27, _), (5, _), (4, _), (0, _), (1, _)] ⟨rfl, rfl, rfl, rfl, rfl, rfl, trivial⟩ ?_
 refine AOps.skip rfl rfl rfl rfl rfl rfl ?_
 refine AOps.step (Val.pickN hσ rfl rfl rfl rfl rfl) rfl rfl rfl ?_
 refine AOps.forget [(31, _), (5, _), (4, _), (0, _), (1, _)] ⟨rfl, rfl, rfl, rfl, rfl, trivial⟩ ?_
 refine AOps.nil ?_
 refine AWP.cond hσ rfl rfl (fun hc31 => ?_) (fun hc31 => ?_)
 ·
  skip
  exact absurd (show false = true from hc31) (by decide)
 ·
  skip
  refine AWP.skip ?_
  refine AWP.seq ?_
  refine AWP.region ?_
  refine AOps.step (Val.of hσ rfl rfl) rfl rfl rfl ?_
  refine AOps.step (Val.of hσ rfl rfl) rfl rfl rfl ?_
  refine AOps.nil ?_
  refine AWP.seq ?_
  refine AWP.seq ?_
  refine AWP.region ?_
  refine AOps.step (Val.of hσ rfl rfl) rfl rfl rfl ?_
  refine AOps.step (Val.of hσ rfl rfl) rfl rfl rfl ?_
  refine AOps.step (Val.of hσ rfl rfl) rfl rfl rfl ?_
  refine AOps.step (Val.of hσ rfl rfl) rfl rfl rfl ?_
  refine AOps.step (Val.of hσ rfl rfl) rfl rfl rfl ?_
  refine AOps.step (Val.of hσ rfl rfl) rfl rfl rfl ?_
  refine AOps.forget [(37, _), (7, _), (6, _), (5, _), (4, _), (0, _), (1, _)] ⟨rfl, rfl, rfl, rfl, rfl, rfl, rfl, trivial⟩ ?_
  refine AOps.nil ?_
  refine AWP.cond hσ rfl rfl (fun hc37 => ?_) (fun hc37 => ?_)
  ·
   skip
   refine AWP.forget [(5, _), (4, _), (0, _), (1, _)] ⟨rfl, rfl, rfl, rfl, trivial⟩ ?_
   refine AWP.drawR hσ _ [_, _, _, _, _, _, _, _, _, _, _, _, _, _, _, _] [⟨[], 0, 0, none⟩, ⟨[0], 0, 0, none⟩, ⟨[0, 1], 0, 0, none⟩, ⟨[0, 1, 2], 0, 0, none⟩, ⟨[0, 1, 2, 3], 0, 0, none⟩, ⟨[], 0, 0, none⟩, ⟨[0, 1, 2, 3, 4, 5], 0, 0, some 0⟩, ⟨[], 0, 1, none⟩, ⟨[7], 0, 1, none⟩, ⟨[7, 8], 0, 1, none⟩, ⟨[7, 8, 9], 0, 1, none⟩, ⟨[7, 8, 9, 10], 0, 1, none⟩, ⟨[], 0, 1, none⟩, ⟨[0, 1, 2, 3, 4, 5, 6, 7, 8, 9, 10, 11, 12], 0, 0, some 1⟩, ⟨[0, 1, 2, 3, 4, 5, 6, 7, 8, 9, 10, 11, 12, 13], 2, 2, none⟩, ⟨[0, 1, 2, 3, 4, 5, 6, 7, 8, 9, 10, 11, 12, 13, 14], 2, 2, none⟩] [6, 13] [_, _, _] rfl rfl (by decide) (by decide) (by kernel_rfl) (And.intro (Val.of hσ rfl rfl) (And.intro (Val.of hσ rfl rfl) (And.intro (Val.of hσ rfl rfl) (And.intro (Val.of hσ rfl rfl) (And.intro (Val.of hσ rfl rfl) (And.intro (Val.of hσ rfl rfl) (And.intro (Eff.lone hσ (B0 := 45000) rfl rfl rfl rfl (c160 (t := su) (vars := r.vars) h1 h2 hsf.1 hr.vars) (.cons (.agg (VMs.self rfl)) (.cons (.c (.whole rfl (by rw [List.length_map]; exact hnv.symm))) .nil)) rfl rfl rfl rfl rfl) (And.intro (And.intro (Val.of hσ rfl rfl) (Val.of hσ rfl rfl)) (And.intro (And.intro (Val.of hσ rfl rfl) (Val.of hσ rfl rfl)) (And.intro (And.intro (Val.of hσ rfl rfl) (Val.of hσ rfl rfl)) (And.intro (And.intro (Val.of hσ rfl rfl) (Val.of hσ rfl rfl)) (And.intro (And.intro (Val.of hσ rfl rfl) (Val.of hσ rfl rfl)) (And.intro (And.intro (Val.of hσ rfl rfl) (Val.of hσ rfl rfl)) (And.intro (Eff.lone hσ (B0 := 52000) rfl rfl rfl rfl (c160 (t := ix) (vars := r.vars) h1 h2 hsf.2 hr.vars) (.cons (.agg (VMs.self rfl)) (.cons (.c (.whole rfl (by rw [List.length_map]; exact hnv.symm))) .nil)) rfl rfl rfl rfl rfl) (And.intro (Val.of hσ rfl rfl) (And.intro (Val.of hσ rfl rfl) trivial)))))))))))))))) ?_
   refine AWP.forget [(7, _), (6, _), (5, _), (4, _), (0, _), (1, _)] ⟨rfl, rfl, rfl, rfl, rfl, rfl, trivial⟩ ?_
   apply AWP.norm
   ·
    repeat' (first | exact q0 rfl | apply q1 rfl | exact q2 rfl | apply q3 rfl | exact q4 rfl | apply q5 rfl | exact q6 rfl | exact q7 rfl | exact q8)
   refine AWP.seq ?_
   refine AWP.seq ?_
   refine AWP.region ?_
   refine AOps.step (Val.of hσ rfl rfl) rfl rfl rfl ?_
   refine AOps.step (Val.of hσ rfl rfl) rfl rfl rfl ?_
   refine AOps.step (Val.of hσ rfl rfl) rfl rfl rfl ?_
   refine AOps.step (Val.of hσ rfl rfl) rfl rfl rfl ?_
   refine AOps.step (Val.of hσ rfl rfl) rfl rfl rfl ?_
   refine AOps.step (Val.of hσ rfl rfl) rfl rfl rfl ?_
   refine AOps.step (Val.of hσ rfl rfl) rfl rfl rfl ?_
   refine AOps.forget [(58, _), (7, _), (6, _), (5, _), (4, _), (0, _), (1, _)] ⟨rfl, rfl, rfl, rfl, rfl, rfl, rfl, trivial⟩ ?_
   refine AOps.live rfl rfl rfl rfl rfl ?_
   refine AOps.step (Val.of hσ rfl rfl) rfl rfl rfl ?_
   refine AOps.live rfl rfl rfl rfl rfl ?_
   refine AOps.step (Val.of hσ rfl rfl) rfl rfl rfl ?_
   refine AOps.forget [(60, _), (58, _), (7, _), (6, _), (5, _), (4, _), (0, _), (1, _)] ⟨rfl, rfl, rfl, rfl, rfl, rfl, rfl, rfl, trivial⟩ ?_
   refine AOps.live rfl rfl rfl rfl rfl ?_
   refine AOps.step (Val.of hσ rfl rfl) rfl rfl rfl ?_
   refine AOps.forget [(61, _), (58, _), (7, _), (6, _), (5, _), (4, _), (0, _), (1, _)] ⟨rfl, rfl, rfl, rfl, rfl, rfl, rfl, rfl, trivial⟩ ?_
   refine AOps.live rfl rfl rfl rfl rfl ?_
   refine AOps.step (Val.of hσ rfl rfl) rfl rfl rfl ?_
   refine AOps.forget [(62, _), (58, _), (7, _), (6, _), (5, _), (4, _), (0, _), (1, _)] ⟨rfl, rfl, rfl, rfl, rfl, rfl, rfl, rfl, trivial⟩ ?_
   refine AOps.live rfl rfl rfl rfl rfl ?_
   refine AOps.step (Val.of hσ rfl rfl) rfl rfl rfl ?_
   refine AOps.forget [(63, _), (58, _), (7, _), (6, _), (5, _), (4, _), (0, _), (1, _)] ⟨rfl, rfl, rfl, rfl, rfl, rfl, rfl, rfl, trivial⟩ ?_
   refine AOps.live rfl rfl rfl rfl rfl ?_
   refine AOps.step (Val.of hσ rfl rfl) rfl rfl rfl ?_
   refine AOps.step (Val.pickN hσ rfl rfl rfl rfl rfl) rfl rfl rfl ?_
   refine AOps.step (Val.of hσ rfl rfl) rfl rfl rfl ?_
   refine AOps.forget [(66, _), (7, _), (6, _), (5, _), (4, _), (0, _), (1, _)] ⟨rfl, rfl, rfl, rfl, rfl, rfl, rfl, trivial⟩ ?_
   refine AOps.skip rfl rfl rfl rfl rfl rfl ?_
   refine AOps.skip rfl rfl rfl rfl rfl rfl ?_
   refine AOps.forget [(68, _), (66, _), (7, _), (6, _), (5, _), (4, _), (0, _), (1, _)] ⟨rfl, rfl, rfl, rfl, rfl, rfl, rfl, rfl, trivial⟩ ?_
   refine AOps.skip rfl rfl rfl rfl rfl rfl ?_
   refine AOps.step (Val.pickN hσ rfl rfl rfl rfl rfl) rfl rfl rfl ?_
   refine AOps.forget [(70, _), (7, _), (6, _), (5, _), (4, _), (0, _), (1, _)] ⟨rfl, rfl, rfl, rfl, rfl, rfl, rfl, trivial⟩ ?_
   refine AOps.nil ?_
   refine AWP.cond hσ rfl rfl (fun hc70 => ?_) (fun hc70 => ?_)
   ·
    skip
    exact absurd (show false = true from hc70) (by decide)
   ·
    skip
    refine AWP.skip ?_
    refine AWP.seq ?_
    refine AWP.seq ?_
    refine AWP.region ?_
    refine AOps.step (Val.of hσ rfl rfl) rfl rfl rfl ?_
    refine AOps.step (Val.of hσ rfl rfl) rfl rfl rfl ?_
    refine AOps.step (Val.of hσ rfl rfl) rfl rfl rfl ?_
    refine AOps.step (Val.of hσ rfl rfl) rfl rfl rfl ?_
    refine AOps.step (Val.of hσ rfl rfl) rfl rfl rfl ?_
    refine AOps.step (Val.of hσ rfl rfl) rfl rfl rfl ?_
    refine AOps.step (Val.of hσ rfl rfl) rfl rfl rfl ?_
    refine AOps.forget [(79, _), (7, _), (6, _), (5, _), (4, _), (0, _), (1, _)] ⟨rfl, rfl, rfl, rfl, rfl, rfl, rfl, trivial⟩ ?_
    refine AOps.live rfl rfl rfl rfl rfl ?_
    refine AOps.step (Val.of hσ rfl rfl) rfl rfl rfl ?_
    refine AOps.live rfl rfl rfl rfl rfl ?_
    refine AOps.step (Val.of hσ rfl rfl) rfl rfl rfl ?_
    refine AOps.forget [(81, _), (79, _), (7, _), (6, _), (5, _), (4, _), (0, _), (1, _)] ⟨rfl, rfl, rfl, rfl, rfl, rfl, rfl, rfl, trivial⟩ ?_
    refine AOps.live rfl rfl rfl rfl rfl ?_
    refine AOps.step (Val.of hσ rfl rfl) rfl rfl rfl ?_
    refine AOps.forget [(82, _), (79, _), (7, _), (6, _), (5, _), (4, _), (0, _), (1, _)] ⟨rfl, rfl, rfl, rfl, rfl, rfl, rfl, rfl, trivial⟩ ?_
    refine AOps.live rfl rfl rfl rfl rfl ?_
    refine AOps.step (Val.of hσ rfl rfl) rfl rfl rfl ?_
    refine AOps.forget [(83, _), (79, _), (7, _), (6, _), (5, _), (4, _), (0, _), (1, _)] ⟨rfl, rfl, rfl, rfl, rfl, rfl, rfl, rfl, trivial⟩ ?_
    refine AOps.live rfl rfl rfl rfl rfl ?_
    refine AOps.step (Val.of hσ rfl rfl) rfl rfl rfl ?_
    refine AOps.forget [(84, _), (79, _), (7, _), (6, _), (5, _), (4, _), (0, _), (1, _)] ⟨rfl, rfl, rfl, rfl, rfl, rfl, rfl, rfl, trivial⟩ ?_
    refine AOps.live rfl rfl rfl rfl rfl ?_
    refine AOps.step (Val.of hσ rfl rfl) rfl rfl rfl ?_
    refine AOps.step (Val.pickN hσ rfl rfl rfl rfl rfl) rfl rfl rfl ?_
    refine AOps.step (Val.of hσ rfl rfl) rfl rfl rfl ?_
    refine AOps.forget [(87, _), (7, _), (6, _), (5, _), (4, _), (0, _), (1, _)] ⟨rfl, rfl, rfl, rfl, rfl, rfl, rfl, trivial⟩ ?_
    refine AOps.skip rfl rfl rfl rfl rfl rfl ?_
    refine AOps.skip rfl rfl rfl rfl rfl rfl ?_
    refine AOps.forget [(89, _), (87, _), (7, _), (6, _), (5, _), (4, _), (0, _), (1, _)] ⟨rfl, rfl, rfl, rfl, rfl, rfl, rfl, rfl, trivial⟩ ?_
    refine AOps.skip rfl rfl rfl rfl rfl rfl ?_
    refine AOps.step (Val.pickN hσ rfl rfl rfl rfl rfl) rfl rfl rfl ?_
    refine AOps.forget [(91, _), (7, _), (6, _), (5, _), (4, _), (0, _), (1, _)] ⟨rfl, rfl, rfl, rfl, rfl, rfl, rfl, trivial⟩ ?_
    refine AOps.nil ?_
    refine AWP.cond hσ rfl rfl (fun hc91 => ?_) (fun hc91 => ?_)
    ·
     skip
     exact absurd (show false = true from hc91) (by decide)
    ·
     skip
     refine AWP.skip ?_
     refine AWP.seq ?_
     refine AWP.seq ?_
     refine AWP.region ?_
     refine AOps.step (Val.of hσ rfl rfl) rfl rfl rfl ?_
     refine AOps.step (Val.of hσ rfl rfl) rfl rfl rfl ?_
     refine AOps.step (Val.of hσ rfl rfl) rfl rfl rfl ?_
     refine AOps.step (Val.of hσ rfl rfl) rfl rfl rfl ?_
     refine AOps.step (Val.of hσ rfl rfl) rfl rfl rfl ?_
     refine AOps.forget [(98, _), (7, _), (6, _), (5, _), (4, _), (0, _), (1, _)] ⟨rfl, rfl, rfl, rfl, rfl, rfl, rfl, trivial⟩ ?_
     refine AOps.nil ?_
     refine AWP.block ?_
     refine AWP.seq ?_
     refine AWP.region ?_
     refine AOps.step (Val.of hσ rfl rfl) rfl rfl rfl ?_
     refine AOps.step (Val.of hσ rfl rfl) rfl rfl rfl ?_
     refine AOps.nil ?_
     refine AWP.cond hσ rfl rfl (fun hc99 => ?_) (fun hc99 => ?_)
     ·
      skip
      exact absurd (show false = true from hc99) (by decide)
     ·
      skip
      refine AWP.seq ?_
      refine AWP.region ?_
      refine AOps.step (Val.of hσ rfl rfl) rfl rfl rfl ?_
      refine AOps.step (Val.of hσ rfl rfl) rfl rfl rfl ?_
      refine AOps.forget [(119, _), (100, _), (98, _), (7, _), (6, _), (5, _), (4, _), (0, _), (1, _)] ⟨rfl, rfl, rfl, rfl, rfl, rfl, rfl, rfl, rfl, trivial⟩ ?_
      refine AOps.nil ?_
      refine AWP.cond hσ rfl rfl (fun hc119 => ?_) (fun hc119 => ?_)
      ·
       skip
       exact absurd (show false = true from hc119) (by decide)
      ·
       skip
       refine AWP.seq ?_
       refine AWP.region ?_
       refine AOps.step (Val.of hσ rfl rfl) rfl rfl rfl ?_
       refine AOps.step (Val.of hσ rfl rfl) rfl rfl rfl ?_
       refine AOps.forget [(129, _), (100, _), (98, _), (7, _), (6, _), (5, _), (4, _), (0, _), (1, _)] ⟨rfl, rfl, rfl, rfl, rfl, rfl, rfl, rfl, rfl, trivial⟩ ?_
       refine AOps.nil ?_
       refine AWP.cond hσ rfl rfl (fun hc129 => ?_) (fun hc129 => ?_)
       ·
        skip
        exact absurd (show false = true from hc129) (by decide)
       ·
        skip
        refine AWP.seq ?_
        refine AWP.region ?_
        refine AOps.step (Val.of hσ rfl rfl) rfl rfl rfl ?_
        refine AOps.step (Val.of hσ rfl rfl) rfl rfl rfl ?_
        refine AOps.forget [(146, _), (100, _), (98, _), (7, _), (6, _), (5, _), (4, _), (0, _), (1, _)] ⟨rfl, rfl, rfl, rfl, rfl, rfl, rfl, rfl, rfl, trivial⟩ ?_
        refine AOps.nil ?_
        refine AWP.cond hσ rfl rfl (fun hc146 => ?_) (fun hc146 => ?_)
        ·
         skip
         exact absurd (show false = true from hc146) (by decide)
        ·
         skip
         refine AWP.seq ?_
         refine AWP.region ?_
         refine AOps.step (Val.of hσ rfl rfl) rfl rfl rfl ?_
         refine AOps.step (Val.of hσ rfl rfl) rfl rfl rfl ?_
         refine AOps.forget [(156, _), (100, _), (98, _), (7, _), (6, _), (5, _), (4, _), (0, _), (1, _)] ⟨rfl, rfl, rfl, rfl, rfl, rfl, rfl, rfl, rfl, trivial⟩ ?_
         refine AOps.nil ?_
         refine AWP.cond hσ rfl rfl (fun hc156 => ?_) (fun hc156 => ?_)
         ·
          skip
          exact absurd (show false = true from hc156) (by decide)
         ·
          skip
          refine AWP.seq ?_
          refine AWP.region ?_
          refine AOps.step (Val.of hσ rfl rfl) rfl rfl rfl ?_
          refine AOps.step (Val.of hσ rfl rfl) rfl rfl rfl ?_
          refine AOps.forget [(172, _), (100, _), (98, _), (7, _), (6, _), (5, _), (4, _), (0, _), (1, _)] ⟨rfl, rfl, rfl, rfl, rfl, rfl, rfl, rfl, rfl, trivial⟩ ?_
          refine AOps.nil ?_
          refine AWP.cond hσ rfl rfl (fun hc172 => ?_) (fun hc172 => ?_)
          ·
           skip
           exact absurd (show false = true from hc172) (by decide)
          ·
           skip
           refine AWP.seq ?_
           refine AWP.region ?_
           refine AOps.step (Val.of hσ rfl rfl) rfl rfl rfl ?_
           refine AOps.step (Val.of hσ rfl rfl) rfl rfl rfl ?_
           refine AOps.forget [(178, _), (100, _), (98, _), (7, _), (6, _), (5, _), (4, _), (0, _), (1, _)] ⟨rfl, rfl, rfl, rfl, rfl, rfl, rfl, rfl, rfl, trivial⟩ ?_
           refine AOps.nil ?_
           refine AWP.cond hσ rfl rfl (fun hc178 => ?_) (fun hc178 => ?_)
           ·
            skip
            exact absurd (show false = true from hc178) (by decide)
           ·
            skip
            refine AWP.seq ?_
            refine AWP.region ?_
            refine AOps.step (Val.of hσ rfl rfl) rfl rfl rfl ?_
            refine AOps.step (Val.of hσ rfl rfl) rfl rfl rfl ?_
            refine AOps.forget [(198, _), (100, _), (98, _), (7, _), (6, _), (5, _), (4, _), (0, _), (1, _)] ⟨rfl, rfl, rfl, rfl, rfl, rfl, rfl, rfl, rfl, trivial⟩ ?_
            refine AOps.nil ?_
            refine AWP.cond hσ rfl rfl (fun hc198 => ?_) (fun hc198 => ?_)
            ·
             skip
             refine AWP.seq ?_
             refine AWP.block ?_
             refine AWP.loopP (X := Nat × RS) (fun z => ⟨[(0, .c (.pt 500 0 0)), (1, .c (.d (Tr.d (.node ⟨8, vr, ev, su, ix, fa⟩ a [x])))), (5, .c (.rs 501 0 4))], [(500, .box [.rs 501 0 4, .rs 502 0 8, .rs 600 0 z.2.events.length, .d (.int .i64 z.2.fuel), .d (.int .i64 z.2.steps), .d (.int .i64 z.2.out)]), (501, nrow z.2.vars), (502, nrow z.2.cells), (600, nrow z.2.events)]⟩) (fun z => RSok z.2 ∧ (z.2.fuel - z.2.steps).toNat < z.1 ∧ whileW ⟨8, vr, ev, su, ix, fa⟩ (run1 x) z.1 z.2 = run1 (.node ⟨8, vr, ev, su, ix, fa⟩ a [x]) r) (fun z => z.1) ((r.fuel - r.steps).toNat + 1, r) ((Ent.sel [500, 501, 502, 503] (e' := [(0, _), (1, _), (5, _)]) rfl rfl ⟨rfl, rfl, rfl, trivial⟩ rfl).trans ((Ent.sub2 503 600 rfl rfl).trans (Ent.to ⟨rfl, rfl, rfl, trivial⟩ rfl))) ?_ (fun z hi => ?_)
             ·
              exact ⟨hr, Nat.lt_succ_self _, run1_one.symm⟩
             refine AWP.seq ?_
             refine AWP.seq ?_
             refine AWP.region ?_
             refine AOps.step (Val.of hσ rfl rfl) rfl rfl rfl ?_
             refine AOps.inn hσ [500, 501, 502, 600] (bin := [rbox 3 z.2, nrow (z.2).vars, nrow (z.2).cells, nrow (z.2).events]) rfl rfl rfl rfl (c159 (r := z.2) h1 h2 hi.1.lo (Int.le_trans hi.1.hi (Int.le_trans hi.1.fuel (by decide)))) rfl rfl rfl rfl rfl rfl (B0 := 202000) rfl rfl ?_
             apply AOps.norm
             ·
              repeat' (first | exact q0 rfl | apply q1 rfl | exact q2 rfl | apply q3 rfl | exact q4 rfl | apply q5 rfl | exact q6 rfl | exact q7 rfl | exact q8)
             refine AOps.nil ?_
             refine AWP.cond hσ rfl rfl (fun hc201 => ?_) (fun hc201 => ?_)
             ·
              skip
              refine AWP.skip ?_
              refine AWP.block ?_
              refine AWP.seq ?_
              refine AWP.seq ?_
              refine AWP.region ?_
              have hs1 : (stepR z.2).1 = true := hc201
              have hr1 := hi.1.step.ok
              have hrs := hi.1.step
              obtain ⟨q, hq⟩ : ∃ q, q = (stepR z.2).2 := ⟨_, rfl⟩
              rw [← hq] at hr1 hrs ⊢
              have hne : ¬ z.2.steps = z.2.fuel := fun e => by unfold stepR at hs1; rw [if_pos e] at hs1; cases hs1
              have hq2 : q = { z.2 with steps := z.2.steps + 1 } := by rw [hq]; unfold stepR; rw [if_neg hne]
              have hnv := hr1.nv
              refine AOps.step (Val.of hσ rfl rfl) rfl rfl rfl ?_
              refine AOps.step (Val.of hσ rfl rfl) rfl rfl rfl ?_
              refine AOps.step (Val.of hσ rfl rfl) rfl rfl rfl ?_
              refine AOps.step (Val.of hσ rfl rfl) rfl rfl rfl ?_
              refine AOps.step (Val.of hσ rfl rfl) rfl rfl rfl ?_
              refine AOps.step (Val.of hσ rfl rfl) rfl rfl rfl ?_
              refine AOps.forget [(207, _), (206, _), (201, _), (200, _), (0, _), (1, _), (5, _)] ⟨rfl, rfl, rfl, rfl, rfl, rfl, rfl, trivial⟩ ?_
              refine AOps.lone hσ rfl rfl rfl rfl (c160 (t := su) (vars := q.vars) h1 h2 hsf.1 hr1.vars) (.cons (.agg (VMs.self rfl)) (.cons (.c (.whole rfl (by rw [List.length_map]; exact hnv.symm))) .nil)) rfl rfl rfl rfl rfl (B0 := 209000) rfl ?_
              refine AOps.step (Val.of hσ rfl rfl) rfl rfl rfl ?_
              refine AOps.forget [(209, _), (201, _), (200, _), (0, _), (1, _), (5, _)] ⟨rfl, rfl, rfl, rfl, rfl, rfl, trivial⟩ ?_
              refine AOps.nil ?_
              refine AWP.cond hσ rfl rfl (fun hc209 => ?_) (fun hc209 => ?_)
              ·
               skip
               refine AWP.seq ?_
               refine AWP.region ?_
               refine AOps.step (Val.of hσ rfl rfl) rfl rfl rfl ?_
               refine AOps.nil ?_
               refine AWP.ret ?_
               have hrun : run1 (.node ⟨8, vr, ev, su, ix, fa⟩ a [x]) r = (true, q) := by
                rw [← hi.2.2]
                obtain ⟨m, hm⟩ : ∃ m, z.1 = m + 1 := ⟨z.1 - 1, by omega⟩
                rw [hm]
                unfold whileW
                rw [if_neg hne, ← hq2]
                rw [if_pos (of_decide_eq_true (by rw [hq2] at hc209; exact hc209))]
               refine ⟨.inl rfl, _, (Ent.sel [500, 501, 502, 600] rfl rfl (e' := [(4, _)]) ⟨rfl, trivial⟩ rfl).trans (Ent.sub2 600 504 rfl rfl), _, rfl, ?_, ?_⟩
               ·
                rw [hrun]; rfl
               ·
                rw [hrun]; rfl
              ·
               skip
               refine AWP.skip ?_
               refine AWP.seq ?_
               refine AWP.region ?_
               refine AOps.step (Val.of hσ rfl rfl) rfl rfl rfl ?_
               refine AOps.step (Val.of hσ rfl rfl) rfl rfl rfl ?_
               refine AOps.step (Val.of hσ rfl rfl) rfl rfl rfl ?_
               refine AOps.step (Val.of hσ rfl rfl) rfl rfl rfl ?_
               refine AOps.step (Val.of hσ rfl rfl) rfl rfl rfl ?_
               have hneg := of_decide_eq_false hc209
               refine AOps.step (Val.indexD hσ rfl rfl rfl rfl rfl rfl rfl rfl (by simp [Trs.d]) rfl) rfl rfl rfl ?_
               refine AOps.step (Val.of hσ rfl rfl) rfl rfl rfl ?_
               refine AOps.forget [(216, _), (210, _), (209, _), (201, _), (200, _), (0, _), (1, _), (5, _)] ⟨rfl, rfl, rfl, rfl, rfl, rfl, rfl, rfl, trivial⟩ ?_
               refine AOps.inn hσ [500, 501, 502, 600] (bin := [rbox 3 q, nrow (q).vars, nrow (q).cells, nrow (q).events]) rfl rfl rfl rfl (ihx q hr1) rfl rfl rfl rfl rfl rfl (B0 := 218000) rfl rfl ?_
               apply AOps.norm
               ·
                repeat' (first | exact q0 rfl | apply q1 rfl | exact q2 rfl | apply q3 rfl | exact q4 rfl | apply q5 rfl | exact q6 rfl | exact q7 rfl | exact q8)
               refine AOps.step (Val.of hσ rfl rfl) rfl rfl rfl ?_
               refine AOps.forget [(218, _), (209, _), (201, _), (200, _), (0, _), (1, _), (5, _)] ⟨rfl, rfl, rfl, rfl, rfl, rfl, rfl, trivial⟩ ?_
               refine AOps.nil ?_
               refine AWP.cond hσ rfl rfl (fun hc218 => ?_) (fun hc218 => ?_)
               ·
                skip
                refine AWP.seq ?_
                refine AWP.region ?_
                refine AOps.step (Val.of hσ rfl rfl) rfl rfl rfl ?_
                refine AOps.nil ?_
                refine AWP.ret ?_
                have hrun : run1 (.node ⟨8, vr, ev, su, ix, fa⟩ a [x]) r = (false, (run1 x q).2) := by
                 have hb218 : (run1 x q).1 = false := by cases h : (run1 x q).1 with | false => rfl | true => rw [h] at hc218; cases hc218
                 rw [← hi.2.2]
                 obtain ⟨m, hm⟩ : ∃ m, z.1 = m + 1 := ⟨z.1 - 1, by omega⟩
                 rw [hm]
                 unfold whileW
                 rw [if_neg hne, ← hq2]
                 rw [if_neg (of_decide_eq_false (by rw [hq2] at hc209; exact hc209)), if_neg (by rw [hb218]; decide)]
                refine ⟨.inl rfl, _, (Ent.sel [500, 501, 502, 218004] rfl rfl (e' := [(4, _)]) ⟨rfl, trivial⟩ rfl).trans (Ent.sub2 218004 504 rfl rfl), _, rfl, ?_, ?_⟩
                ·
                 rw [hrun]; rfl
                ·
                 rw [hrun]; rfl
               ·
                skip
                refine AWP.skip ?_
                have hb : (run1 x q).1 = true := by cases h : (run1 x q).1 with | true => rfl | false => rw [h] at hc218; cases hc218
                have hxq := hxo q hr1
                refine ⟨(z.1 - 1, (run1 x q).2), (Ent.sel [500, 501, 502, 218004] (e' := [(0, _), (1, _), (5, _)]) rfl rfl ⟨rfl, rfl, rfl, trivial⟩ rfl).trans ((Ent.sub2 218004 600 rfl rfl).trans (Ent.to ⟨rfl, rfl, rfl, trivial⟩ rfl)), ⟨hxq.ok, ?_, ?_⟩, ?_⟩
                ·
                 have h4 := hi.1.hi; have h5 := hxq.ok.hi; have h6 := hxq.fuel; have h7 := hxq.steps; have h8 : q.steps = z.2.steps + 1 := by rw [hq2]
                 have h9 : q.fuel = z.2.fuel := by rw [hq2]
                 show ((run1 x q).2.fuel - (run1 x q).2.steps).toNat < z.1 - 1; have := hi.2.1; have h3 : z.2.steps < z.2.fuel := by omega
                 omega
                ·
                 rw [← hi.2.2]
                 obtain ⟨m, hm⟩ : ∃ m, z.1 = m + 1 := ⟨z.1 - 1, by omega⟩
                 rw [hm]
                 show whileW _ _ m _ = _
                 conv => rhs; unfold whileW
                 rw [if_neg hne, ← hq2]
                 rw [if_neg (by rw [hq2] at hneg; exact hneg), if_pos hb]
                ·
                 show z.1 - 1 < z.1; have := hi.2.1; omega
             ·
              skip
              refine AWP.exit ?_
              refine AWP.seq ?_
              refine AWP.region ?_
              refine AOps.step (Val.of hσ rfl rfl) rfl rfl rfl ?_
              refine AOps.nil ?_
              refine AWP.ret ?_
              have hrun : run1 (.node ⟨8, vr, ev, su, ix, fa⟩ a [x]) r = (false, (stepR z.2).2) := by
               have hs1 : (stepR z.2).1 = false := hc201
               rw [← hi.2.2]
               obtain ⟨m, hm⟩ : ∃ m, z.1 = m + 1 := ⟨z.1 - 1, by omega⟩
               rw [hm]
               unfold whileW
               have he : z.2.steps = z.2.fuel := Decidable.byContradiction fun h => by unfold stepR at hs1; rw [if_neg h] at hs1; cases hs1
               rw [if_pos he, stepR, if_pos he]
              refine ⟨.inl rfl, _, (Ent.sel [500, 501, 502, 600] rfl rfl (e' := [(4, _)]) ⟨rfl, trivial⟩ rfl).trans (Ent.sub2 600 504 rfl rfl), _, rfl, ?_, ?_⟩
              ·
               rw [hrun]; rfl
              ·
               rw [hrun]; rfl
            ·
             skip
             exact absurd (show true = false from hc198) (by decide)
  ·
   skip
   exact absurd (show true = false from hc37) (by decide)
mutual
/-- Each element is valid, and has the statements behind it that it needs. -/
def Tr.ok : Tr → Prop
  | .node s _ ks => stmtB s = true ∧ (ks.length : Int) = below s.kind ∧ Trs.ok ks
def Trs.ok : List Tr → Prop
  | [] => True
  | t :: r => t.ok ∧ Trs.ok r
end
theorem RSle.refl {r : RS} (h : RSok r) : RSle r r := ⟨h, rfl, Int.le_refl _⟩
theorem RSle.trans {a b c : RS} (h : RSle a b) (h' : RSle b c) : RSle a c := ⟨h'.ok, h'.fuel.trans h.fuel, Int.le_trans h.steps h'.steps⟩
theorem RSok.out {r : RS} (h : RSok r) (x : Int) : RSle r { r with out := x } := ⟨⟨h.vars, h.cells, h.lo, h.hi, h.fuel, h.events⟩, rfl, Int.le_refl _⟩
theorem leaf_le {s : Sm} {r q : RS} (h : RSok r) (hq : q = (stepR r).2) (hs : (stepR r).1 = true) : RSle r (leaf s q).2 := by
  have h1 := h.step
  have hne : ¬ r.steps = r.fuel := fun e => by unfold stepR at hs; rw [if_pos e] at hs; cases hs
  have hq2 : q = { r with steps := r.steps + 1 } := by rw [hq]; unfold stepR; rw [if_neg hne]
  rw [← hq] at h1
  have h2 := h1.ok
  have key : ∀ q' : RS, RSok q' → q'.fuel = q.fuel → q'.steps = q.steps → RSle r q' := fun q' a b c => ⟨a, b.trans h1.fuel, by rw [c]; exact h1.steps⟩
  unfold leaf
  split
  · split
    · rename_i hb; exact key _ ⟨set_big h2.vars hb, h2.cells, h2.lo, h2.hi, h2.fuel, h2.events⟩ rfl rfl
    · exact key _ (h2.out 4).ok rfl rfl
  · split
    · split
      · rename_i hb
        have hc := numsB_iff h2.cells
        have hi : (evalT s.index q.vars).toNat < q.cells.length := by
          have := hc.2
          simp only [inB, Bool.and_eq_true, decide_eq_true_eq] at hb
          omega
        refine key _ ⟨set_big h2.vars ?_, h2.cells, h2.lo, h2.hi, h2.fuel, h2.events⟩ rfl rfl
        rw [getD_lt hi]
        exact List.all_eq_true.1 hc.1 _ (List.getElem_mem hi)
      · exact key _ (h2.out 2).ok rfl rfl
    · split
      · split
        · split
          · rename_i hb; exact key _ ⟨h2.vars, set_big h2.cells hb, h2.lo, h2.hi, h2.fuel, h2.events⟩ rfl rfl
          · exact key _ (h2.out 4).ok rfl rfl
        · exact key _ (h2.out 2).ok rfl rfl
      · split
        · refine ⟨⟨h2.vars, h2.cells, h2.lo, h2.hi, h2.fuel, ?_⟩, h1.fuel, h1.steps⟩
          have := h.events
          show ((q.events ++ [s.event]).length : Int) ≤ q.steps
          rw [hq2]; simp; omega
        · split
          · split
            · exact key _ (h2.out 3).ok rfl rfl
            · exact h1
          · exact h1
theorem while_le {s : Sm} {f : RS → Bool × RS} (hf : ∀ r, RSok r → RSle r (f r).2) : ∀ {m : Nat} {r : RS}, RSok r → RSle r (whileW s f m r).2
  | 0, r, h => h.out 1
  | m + 1, r, h => by
    unfold whileW
    split
    · exact h.out 1
    · rename_i hne
      have h1 := h.step
      unfold stepR at h1
      rw [if_neg hne] at h1
      split
      · exact h1
      · split
        · exact h1.trans ((hf _ h1.ok).trans (while_le hf (hf _ h1.ok).ok))
        · exact h1.trans (hf _ h1.ok)
theorem run1_le : ∀ {t : Tr}, t.ok → ∀ {r : RS}, RSok r → RSle r (run1 t r).2
  | .node s a [x, y], ht, r, h => by
    have hx : ∀ r, RSok r → RSle r (run1 x r).2 := fun r hr => run1_le ht.2.2.1 hr
    have hy : ∀ r, RSok r → RSle r (run1 y r).2 := fun r hr => run1_le ht.2.2.2.1 hr
    rw [run1_two]
    split
    · split
      · exact (hx r h).trans (hy _ (hx r h).ok)
      · exact hx r h
    · split
      · split
        · exact h.step.trans (hx _ h.step.ok)
        · exact h.step.trans (hy _ h.step.ok)
      · exact h.step
  | .node s a [x], ht, r, h => by rw [run1_one]; exact while_le (fun r hr => run1_le ht.2.2.1 hr) h
  | .node s a [], ht, r, h => by
    rw [run1_nil]
    split
    · rename_i hs; exact leaf_le h rfl hs
    · exact h.step
  | .node s a (x :: y :: z :: ks), ht, r, h => by
    have h1 : ((x :: y :: z :: ks).length : Int) = below s.kind := ht.2.1
    have h2 := (below_le s.kind).2
    simp only [List.length_cons] at h1
    omega
theorem below_two {k : Int} (h : below k = 2) : k = 1 ∨ k = 7 := by
  unfold below at h
  split at h
  · exact .inl ‹_›
  · split at h
    · exact .inr ‹_›
    · split at h <;> simp at h
theorem below_one {k : Int} (h : below k = 1) : k = 8 := by
  unfold below at h
  split at h
  · simp at h
  · split at h
    · simp at h
    · split at h
      · assumption
      · simp at h
theorem below_zero {s : Sm} (hs : stmtB s = true) (h : below s.kind = 0) : s.kind = 0 ∨ s.kind = 2 ∨ s.kind = 3 ∨ s.kind = 4 ∨ s.kind = 5 ∨ s.kind = 6 := by
  have h8 : 0 ≤ s.kind ∧ s.kind ≤ 8 := by
    unfold stmtB sB1 at hs
    cases h1 : (decide (0 ≤ s.kind) && decide (s.kind ≤ 8)) with
    | true => simpa using h1
    | false => rw [h1] at hs; simp at hs
  have a1 : s.kind ≠ 1 := fun e => by rw [e] at h; cases h
  have a2 : s.kind ≠ 7 := fun e => by rw [e] at h; cases h
  have a3 : s.kind ≠ 8 := fun e => by rw [e] at h; cases h
  omega
theorem c114 {L : Nat} (h1 : 4096 ≤ L) (h2 : L ≤ 1073741824) : ∀ {t : Tr}, t.ok → ∀ {r : RS}, RSok r → MC Try.prog L 114 [.c (.pt 0 0 0), .c (.d t.d)] (rH 3 r) (Outs (eB (run1 t r).1) (rH 4 (run1 t r).2))
 | .node s a [x, y], ht, r, h => by
  have ihx : ∀ r, RSok r → MC Try.prog L 114 [.c (.pt 0 0 0), .c (.d x.d)] (rH 3 r) (Outs (eB (run1 x r).1) (rH 4 (run1 x r).2)) := fun r hr => c114 h1 h2 ht.2.2.1 hr
  have ihy : ∀ r, RSok r → MC Try.prog L 114 [.c (.pt 0 0 0), .c (.d y.d)] (rH 3 r) (Outs (eB (run1 y r).1) (rH 4 (run1 y r).2)) := fun r hr => c114 h1 h2 ht.2.2.2.1 hr
  obtain ⟨k, vr, ev, su, ix, fa⟩ := s
  have hk : below k = 2 := ht.2.1.symm
  rcases below_two hk with rfl | rfl
  ·
   exact c114_1 h1 h2 ht.1 h ihx ihy (fun r hr => run1_le ht.2.2.1 hr)
  ·
   exact c114_7 h1 h2 ht.1 h ihx ihy
 | .node s a [x], ht, r, h => by
  have ihx : ∀ r, RSok r → MC Try.prog L 114 [.c (.pt 0 0 0), .c (.d x.d)] (rH 3 r) (Outs (eB (run1 x r).1) (rH 4 (run1 x r).2)) := fun r hr => c114 h1 h2 ht.2.2.1 hr
  obtain ⟨k, vr, ev, su, ix, fa⟩ := s
  have hk : below k = 1 := ht.2.1.symm
  obtain rfl := below_one hk
  exact c114_8 h1 h2 ht.1 h ihx (fun r hr => run1_le ht.2.2.1 hr)
 | .node s a [], ht, r, h => by
  obtain ⟨k, vr, ev, su, ix, fa⟩ := s
  have hk : below k = 0 := ht.2.1.symm
  have := below_zero ht.1 hk
  simp only at this
  rcases this with rfl | rfl | rfl | rfl | rfl | rfl
  ·
   exact c114_0 h1 h2 ht.1 h
  ·
   exact c114_2 h1 h2 ht.1 h
  ·
   exact c114_3 h1 h2 ht.1 h
  ·
   exact c114_4 h1 h2 ht.1 h
  ·
   exact c114_5 h1 h2 ht.1 h
  ·
   exact c114_6 h1 h2 ht.1 h
 | .node s a (x :: y :: z :: ks), ht, r, h => by
  have h1 : ((x :: y :: z :: ks).length : Int) = below s.kind := ht.2.1
  have h2 := (below_le s.kind).2
  simp only [List.length_cons] at h1
  omega

end Go.Al
