/- Contracts of RunProgram, of the reference and of the program. -/
import Derived.Test.YtpdpbfokkimbbaaG
namespace Go.Al
open Go.Proofs
set_option linter.unusedVariables false
set_option linter.unusedSimpArgs false
set_option maxRecDepth 10000
theorem iterT_ok {f : Nat → Option (Tr × Nat)} (hf : ∀ k t k', f k = some (t, k') → t.ok) : ∀ {q k ts k'}, iterT f q k = some (ts, k') → ts.length = q ∧ Trs.ok ts
  | 0, k, ts, k', h => by simp only [iterT, Option.some.injEq, Prod.mk.injEq] at h; rw [← h.1]; exact ⟨rfl, trivial⟩
  | q + 1, k, ts, k', h => by
    cases hx : f k with
    | none => rw [iterT_none hx] at h; cases h
    | some x =>
      obtain ⟨t, k1⟩ := x
      rw [iterT_some hx] at h
      simp only [Option.map_eq_some_iff] at h
      obtain ⟨⟨ts1, k2⟩, h1, h2⟩ := h
      simp only [Prod.mk.injEq] at h2
      obtain ⟨h3, h4⟩ := iterT_ok hf h1
      rw [← h2.1]
      exact ⟨by simp [h3], hf k t k1 hx, h4⟩
theorem treeF_ok : ∀ {n body k t k'}, treeF n body k = some (t, k') → t.ok
  | 0, _, _, _, _, h => by cases h
  | n + 1, body, k, t, k', h => by
    unfold treeF at h
    split at h
    · cases h
    · split at h
      · cases h
      · rename_i hk
        simp only [Option.map_eq_some_iff] at h
        obtain ⟨⟨ts1, k2⟩, h1, h2⟩ := h
        simp only [Prod.mk.injEq] at h2
        obtain ⟨h3, h4⟩ := iterT_ok (fun k t k' h => treeF_ok h) h1
        rw [← h2.1]
        have hs : stmtB (body.getD k default) = true := by
          cases hb : stmtB (body.getD k default) with
          | true => rfl
          | false => unfold kidsF at hk; rw [hb] at hk; exact absurd (by rw [if_neg (by decide)]; decide) hk
        refine ⟨hs, ?_, h4⟩
        rw [h3]
        unfold kidsF
        rw [if_pos hs]
        have := (below_le (body.getD k default).kind).1
        omega
theorem tOB_some {body : List Sm} (h : tOB body = true) : ∃ t, toF body = some (t, body.length) ∧ t.ok ∧ tOP body = t.d := by
  unfold tOB at h
  split at h
  · cases h
  · rename_i h30
    simp only [Bool.and_eq_true, decide_eq_true_eq] at h
    obtain ⟨t, k, hk⟩ := tB_true h.1
    have h2 := h.2
    rw [hk] at h2
    simp only [Int.ofNat_inj, Int.natCast_inj] at h2
    subst h2
    exact ⟨t, hk, treeF_ok hk, by unfold tOP; rw [if_neg h30, hk]⟩
def validB (p : Pm) (s : Sx) (f : Int) : Bool := validP p && (stB s && inB 0 2000 f)
/-- The tree of a body. -/
def treeO (body : List Sm) : Tr := match toF body with | some (t, _) => t | none => .node default 0 []
def r0 (s : Sx) (f : Int) : RS := ⟨s.vars, s.cells, [], f, 0, 0⟩
theorem r0_ok {s : Sx} {f : Int} (hs : stB s = true) (hf : inB 0 2000 f = true) : RSok (r0 s f) := by
  unfold stB at hs
  simp only [Bool.and_eq_true] at hs
  simp only [inB, Bool.and_eq_true, decide_eq_true_eq] at hf
  exact ⟨hs.1, hs.2, Int.le_refl _, hf.1, hf.2, by simp [r0]⟩
theorem treeO_spec {body : List Sm} (h : tOB body = true) : (treeO body).ok ∧ tOP body = (treeO body).d := by
  obtain ⟨t, h1, h2, h3⟩ := tOB_some h
  unfold treeO; rw [h1]; exact ⟨h2, h3⟩

theorem c62v {L : Nat} (h1 : 4096 ≤ L) (h2 : L ≤ 1073741824) {p : Pm} {s : Sx} {f : Int} (hp : validP p = true) (hs : stB s = true) (hf : inB 0 2000 f = true) : MC Try.prog L 62 [aPm p, aSx s, eI f] [] (Outs (.tup [.c (.pt 0 0 0), eB true]) (rH 3 (run1 (treeO p.body) (r0 s f)).2)) := by
 have hσ := SGok (nt := 39) h1 (Nat.le_trans h2 (by decide))
 refine MC.body hσ Try.func62 (by kernel_rfl) rfl rfl (Nat.le_of_ble_eq_true rfl) (fun hF => ?_)
 have htb : tOB p.body = true := by unfold validP at hp; simp only [Bool.and_eq_true] at hp; exact hp.1
 obtain ⟨hto, htd⟩ := treeO_spec htb
 have hr0 := r0_ok hs hf
 have h4 : s.vars.length = 4 := hr0.nv
 have h8 : s.cells.length = 8 := hr0.nc
 refine AWP.seq ?_
 refine AWP.region ?_
 refine AOps.heap (HS.box hσ rfl rfl rfl rfl rfl rfl rfl) rfl ?_
 apply AOps.norm
 ·
  repeat' (first | exact q0 rfl | apply q1 rfl | exact q2 rfl | apply q3 rfl | exact q4 rfl | apply q5 rfl | exact q6 rfl | exact q7 rfl | exact q8)
 refine AOps.forget [(3, _), (1, _), (2, _)] ⟨rfl, rfl, rfl, trivial⟩ ?_
 refine AOps.heap (HS.box hσ rfl rfl rfl rfl rfl rfl rfl) rfl ?_
 apply AOps.norm
 ·
  repeat' (first | exact q0 rfl | apply q1 rfl | exact q2 rfl | apply q3 rfl | exact q4 rfl | apply q5 rfl | exact q6 rfl | exact q7 rfl | exact q8)
 refine AOps.step (Val.of hσ rfl rfl) rfl rfl rfl ?_
 refine AOps.step (Val.of hσ rfl rfl) rfl rfl rfl ?_
 refine AOps.nil ?_
 refine AWP.seq ?_
 refine AWP.seq ?_
 refine AWP.region ?_
 refine AOps.step (Val.of hσ rfl rfl) rfl rfl rfl ?_
 refine AOps.lone hσ rfl rfl rfl rfl (c109 h1 h2) (VAs.self rfl) rfl rfl rfl rfl rfl (B0 := 13000) rfl ?_
 refine AOps.step (Val.of hσ rfl rfl) rfl rfl rfl ?_
 refine AOps.step (Val.of hσ rfl rfl) rfl rfl rfl ?_
 refine AOps.forget [(14, _), (7, _), (6, _), (4, _), (3, _), (1, _), (2, _)] ⟨rfl, rfl, rfl, rfl, rfl, rfl, rfl, trivial⟩ ?_
 refine AOps.gr 3 rfl rfl rfl (fun hx => AN.step hx rfl rfl rfl (Val.of hσ rfl rfl) rfl rfl ( AN.lone hσ hx rfl rfl rfl rfl (c110 h1 h2) (VAs.self rfl) rfl rfl rfl rfl rfl rfl rfl (B0 := 17000) rfl ( AN.step hx rfl rfl rfl (Val.of hσ rfl rfl) rfl rfl ( AN.nil)))) rfl rfl ?_
 first | refine AOps.step (Val.pickF hσ rfl rfl rfl rfl rfl) rfl rfl rfl ?_ | refine AOps.step (Val.pickB hσ rfl rfl rfl rfl rfl) rfl rfl rfl ?_ | refine AOps.step (Val.pickT hσ rfl rfl rfl rfl rfl) rfl rfl rfl ?_
 refine AOps.step (Val.of hσ rfl rfl) rfl rfl rfl ?_
 refine AOps.forget [(19, _), (7, _), (6, _), (4, _), (3, _), (1, _), (2, _)] ⟨rfl, rfl, rfl, rfl, rfl, rfl, rfl, trivial⟩ ?_
 refine AOps.gr 3 rfl rfl rfl (fun hx => AN.step hx rfl rfl rfl (Val.of hσ rfl rfl) rfl rfl ( AN.lone hσ hx rfl rfl rfl rfl (c111 h1 h2) (VAs.self rfl) rfl rfl rfl rfl rfl rfl rfl (B0 := 22000) rfl ( AN.step hx rfl rfl rfl (Val.of hσ rfl rfl) rfl rfl ( AN.nil)))) rfl rfl ?_
 first | refine AOps.step (Val.pickF hσ rfl rfl rfl rfl rfl) rfl rfl rfl ?_ | refine AOps.step (Val.pickB hσ rfl rfl rfl rfl rfl) rfl rfl rfl ?_ | refine AOps.step (Val.pickT hσ rfl rfl rfl rfl rfl) rfl rfl rfl ?_
 refine AOps.forget [(23, _), (7, _), (6, _), (4, _), (3, _), (1, _), (2, _)] ⟨rfl, rfl, rfl, rfl, rfl, rfl, rfl, trivial⟩ ?_
 refine AOps.nil ?_
 refine AWP.cond hσ rfl rfl (fun hc23 => ?_) (fun hc23 => ?_)
 ·
  skip
  exact absurd hc23 (by rw [hp, hs, hf]; decide)
 ·
  skip
  refine AWP.skip ?_
  refine AWP.seq ?_
  refine AWP.region ?_
  refine AOps.step (Val.of hσ rfl rfl) rfl rfl rfl ?_
  refine AOps.step (Val.of hσ rfl rfl) rfl rfl rfl ?_
  refine AOps.forget [(26, _), (7, _), (6, _), (4, _), (3, _), (1, _), (2, _)] ⟨rfl, rfl, rfl, rfl, rfl, rfl, rfl, trivial⟩ ?_
  refine AOps.plainD hσ rfl rfl rfl rfl (c112 h1 h2) (VAs.self rfl) rfl rfl rfl rfl (B0 := 28000) rfl rfl ?_
  rw [htd]
  refine AOps.step (Val.of hσ rfl rfl) rfl rfl rfl ?_
  refine AOps.step (Val.of hσ rfl rfl) rfl rfl rfl ?_
  refine AOps.step (Val.of hσ rfl rfl) rfl rfl rfl ?_
  refine AOps.step (Val.of hσ rfl rfl) rfl rfl rfl ?_
  refine AOps.step (Val.of hσ rfl rfl) rfl rfl rfl ?_
  refine AOps.forget [(8, _), (7, _), (6, _), (4, _), (3, _), (1, _), (2, _)] ⟨rfl, rfl, rfl, rfl, rfl, rfl, rfl, trivial⟩ ?_
  refine AOps.nil ?_
  refine AWP.seq ?_
  refine AWP.region ?_
  refine AOps.step (Val.of hσ rfl rfl) rfl rfl rfl ?_
  refine AOps.rows hσ (B0 := 32000) rfl rfl rfl rfl (c113 (v := s.vars) (c := s.cells) h1 h2) (VAs.self rfl) rfl rfl rfl rfl rfl rfl ?_
  rw [h4, h8]
  apply AOps.norm
  ·
   repeat' (first | exact q0 rfl | apply q1 rfl | exact q2 rfl | apply q3 rfl | exact q4 rfl | apply q5 rfl | exact q6 rfl | exact q7 rfl | exact q8)
  refine AOps.step (Val.of hσ rfl rfl) rfl rfl rfl ?_
  refine AOps.step (Val.of hσ rfl rfl) rfl rfl rfl ?_
  refine AOps.forget [(33, _), (8, _), (7, _), (6, _), (4, _), (3, _), (1, _), (2, _)] ⟨rfl, rfl, rfl, rfl, rfl, rfl, rfl, rfl, trivial⟩ ?_
  refine AOps.heap (HS.box hσ rfl rfl rfl rfl rfl rfl rfl) rfl ?_
  refine AOps.to (Ent.nameBox 34 35000 1 true 2 rfl rfl rfl) ?_
  apply AOps.norm
  ·
   repeat' (first | exact q0 rfl | apply q1 rfl | exact q2 rfl | apply q3 rfl | exact q4 rfl | apply q5 rfl | exact q6 rfl | exact q7 rfl | exact q8)
  apply AOps.norm
  ·
   repeat' (first | exact q0 rfl | apply q1 rfl | exact q2 rfl | apply q3 rfl | exact q4 rfl | apply q5 rfl | exact q6 rfl | exact q7 rfl | exact q8)
  refine AOps.step (Val.of hσ rfl rfl) rfl rfl rfl ?_
  refine AOps.forget [(10, _), (8, _), (7, _), (6, _), (4, _), (3, _), (1, _), (2, _)] ⟨rfl, rfl, rfl, rfl, rfl, rfl, rfl, rfl, trivial⟩ ?_
  refine AOps.nil ?_
  refine AWP.seq ?_
  refine AWP.region ?_
  refine AOps.step (Val.of hσ rfl rfl) rfl rfl rfl ?_
  refine AOps.step (Val.of hσ rfl rfl) rfl rfl rfl ?_
  refine AOps.forget [(36, _), (35, _), (10, _), (7, _), (6, _), (4, _), (3, _), (1, _), (2, _)] ⟨rfl, rfl, rfl, rfl, rfl, rfl, rfl, rfl, rfl, trivial⟩ ?_
  refine AOps.inn hσ [34, 32000, 32001, 35000] (bin := [rbox 3 (r0 s f), nrow s.vars, nrow s.cells, nrow []]) rfl rfl rfl rfl (c114 h1 h2 hto hr0) rfl rfl rfl rfl rfl rfl (B0 := 38000) rfl rfl ?_
  apply AOps.norm
  ·
   repeat' (first | exact q0 rfl | apply q1 rfl | exact q2 rfl | apply q3 rfl | exact q4 rfl | apply q5 rfl | exact q6 rfl | exact q7 rfl | exact q8)
  refine AOps.forget [(10, _), (7, _), (6, _), (4, _), (3, _), (1, _), (2, _)] ⟨rfl, rfl, rfl, rfl, rfl, rfl, rfl, trivial⟩ ?_
  refine AOps.nil ?_
  refine AWP.seq ?_
  refine AWP.region ?_
  refine AOps.step (Val.of hσ rfl rfl) rfl rfl rfl ?_
  refine AOps.step (Val.of hσ rfl rfl) rfl rfl rfl ?_
  refine AOps.step (Val.of hσ rfl rfl) rfl rfl rfl ?_
  refine AOps.nil ?_
  refine AWP.ret ?_
  refine ⟨.inl rfl, _, (Ent.sel [34, 32000, 32001, 38004] (e' := [(6, _), (7, _)]) rfl rfl ⟨rfl, rfl, trivial⟩ rfl).trans ((Ent.sub2 34 0 rfl rfl).trans ((Ent.sub2 32000 1 rfl rfl).trans ((Ent.sub2 32001 2 rfl rfl).trans (Ent.sub2 38004 3 rfl rfl)))), _, rfl, rfl, rfl⟩
theorem c62n {L : Nat} (h1 : 4096 ≤ L) (h2 : L ≤ 1073741824) {p : Pm} {s : Sx} {f : Int} (hn : validB p s f = false) : MC Try.prog L 62 [aPm p, aSx s, eI f] [] (Plain (.tup [.c (.d .nilp), eB false])) := by
 have hσ := SGok (nt := 39) h1 (Nat.le_trans h2 (by decide))
 refine MC.body hσ Try.func62 (by kernel_rfl) rfl rfl (Nat.le_of_ble_eq_true rfl) (fun hF => ?_)
 refine AWP.seq ?_
 refine AWP.region ?_
 refine AOps.heap (HS.box hσ rfl rfl rfl rfl rfl rfl rfl) rfl ?_
 apply AOps.norm
 ·
  repeat' (first | exact q0 rfl | apply q1 rfl | exact q2 rfl | apply q3 rfl | exact q4 rfl | apply q5 rfl | exact q6 rfl | exact q7 rfl | exact q8)
 refine AOps.forget [(3, _), (1, _), (2, _)] ⟨rfl, rfl, rfl, trivial⟩ ?_
 refine AOps.heap (HS.box hσ rfl rfl rfl rfl rfl rfl rfl) rfl ?_
 apply AOps.norm
 ·
  repeat' (first | exact q0 rfl | apply q1 rfl | exact q2 rfl | apply q3 rfl | exact q4 rfl | apply q5 rfl | exact q6 rfl | exact q7 rfl | exact q8)
 refine AOps.step (Val.of hσ rfl rfl) rfl rfl rfl ?_
 refine AOps.step (Val.of hσ rfl rfl) rfl rfl rfl ?_
 refine AOps.nil ?_
 refine AWP.seq ?_
 refine AWP.seq ?_
 refine AWP.region ?_
 refine AOps.step (Val.of hσ rfl rfl) rfl rfl rfl ?_
 refine AOps.lone hσ rfl rfl rfl rfl (c109 h1 h2) (VAs.self rfl) rfl rfl rfl rfl rfl (B0 := 13000) rfl ?_
 refine AOps.step (Val.of hσ rfl rfl) rfl rfl rfl ?_
 refine AOps.step (Val.of hσ rfl rfl) rfl rfl rfl ?_
 refine AOps.forget [(14, _), (7, _), (6, _), (4, _), (3, _), (1, _), (2, _)] ⟨rfl, rfl, rfl, rfl, rfl, rfl, rfl, trivial⟩ ?_
 refine AOps.gr 3 rfl rfl rfl (fun hx => AN.step hx rfl rfl rfl (Val.of hσ rfl rfl) rfl rfl ( AN.lone hσ hx rfl rfl rfl rfl (c110 h1 h2) (VAs.self rfl) rfl rfl rfl rfl rfl rfl rfl (B0 := 17000) rfl ( AN.step hx rfl rfl rfl (Val.of hσ rfl rfl) rfl rfl ( AN.nil)))) rfl rfl ?_
 first | refine AOps.step (Val.pickF hσ rfl rfl rfl rfl rfl) rfl rfl rfl ?_ | refine AOps.step (Val.pickB hσ rfl rfl rfl rfl rfl) rfl rfl rfl ?_ | refine AOps.step (Val.pickT hσ rfl rfl rfl rfl rfl) rfl rfl rfl ?_
 refine AOps.step (Val.of hσ rfl rfl) rfl rfl rfl ?_
 refine AOps.forget [(19, _), (7, _), (6, _), (4, _), (3, _), (1, _), (2, _)] ⟨rfl, rfl, rfl, rfl, rfl, rfl, rfl, trivial⟩ ?_
 refine AOps.gr 3 rfl rfl rfl (fun hx => AN.step hx rfl rfl rfl (Val.of hσ rfl rfl) rfl rfl ( AN.lone hσ hx rfl rfl rfl rfl (c111 h1 h2) (VAs.self rfl) rfl rfl rfl rfl rfl rfl rfl (B0 := 22000) rfl ( AN.step hx rfl rfl rfl (Val.of hσ rfl rfl) rfl rfl ( AN.nil)))) rfl rfl ?_
 first | refine AOps.step (Val.pickF hσ rfl rfl rfl rfl rfl) rfl rfl rfl ?_ | refine AOps.step (Val.pickB hσ rfl rfl rfl rfl rfl) rfl rfl rfl ?_ | refine AOps.step (Val.pickT hσ rfl rfl rfl rfl rfl) rfl rfl rfl ?_
 refine AOps.forget [(23, _), (7, _), (6, _), (4, _), (3, _), (1, _), (2, _)] ⟨rfl, rfl, rfl, rfl, rfl, rfl, rfl, trivial⟩ ?_
 refine AOps.nil ?_
 refine AWP.cond hσ rfl rfl (fun hc23 => ?_) (fun hc23 => ?_)
 ·
  skip
  refine AWP.seq ?_
  refine AWP.region ?_
  refine AOps.step (Val.of hσ rfl rfl) rfl rfl rfl ?_
  refine AOps.step (Val.of hσ rfl rfl) rfl rfl rfl ?_
  refine AOps.nil ?_
  refine AWP.ret ?_
  refine ⟨.inl rfl, _, Ent.sel [] rfl rfl (e' := [(6, .c (.d .nilp)), (7, eB false)]) ⟨rfl, rfl, trivial⟩ rfl, _, rfl, rfl, rfl⟩
 ·
  skip
  cases h1 : validP p <;> cases h2 : stB s <;> cases h3 : inB 0 2000 f <;> simp [validB, h1, h2, h3] at hn hc23
theorem c13v {L : Nat} (h1 : 4096 ≤ L) (h2 : L ≤ 1073741824) {p : Pm} {s : Sx} {f : Int} (hp : validP p = true) (hs : stB s = true) (hf : inB 0 2000 f = true) : MC Try.prog L 13 [aPm p, aSx s, eI f] [] (Rows (.tup [.agg [.rs 0 0 4, .rs 1 0 8], .c (.rs 2 0 (run1 (treeO p.body) (r0 s f)).2.events.length), eI (run1 (treeO p.body) (r0 s f)).2.out, eB true]) [nrow (run1 (treeO p.body) (r0 s f)).2.vars, nrow (run1 (treeO p.body) (r0 s f)).2.cells, nrow (run1 (treeO p.body) (r0 s f)).2.events]) := by
 refine MC.rows ?_
 have hσ := SGok (nt := 34) h1 (Nat.le_trans h2 (by decide))
 refine MC.body hσ Try.func13 (by kernel_rfl) rfl rfl (Nat.le_of_ble_eq_true rfl) (fun hF => ?_)
 refine AWP.seq ?_
 refine AWP.region ?_
 refine AOps.heap (HS.box hσ rfl rfl rfl rfl rfl rfl rfl) rfl ?_
 apply AOps.norm
 ·
  repeat' (first | exact q0 rfl | apply q1 rfl | exact q2 rfl | apply q3 rfl | exact q4 rfl | apply q5 rfl | exact q6 rfl | exact q7 rfl | exact q8)
 refine AOps.forget [(3, _), (1, _), (2, _)] ⟨rfl, rfl, rfl, trivial⟩ ?_
 refine AOps.heap (HS.box hσ rfl rfl rfl rfl rfl rfl rfl) rfl ?_
 apply AOps.norm
 ·
  repeat' (first | exact q0 rfl | apply q1 rfl | exact q2 rfl | apply q3 rfl | exact q4 rfl | apply q5 rfl | exact q6 rfl | exact q7 rfl | exact q8)
 refine AOps.forget [(4, _), (3, _), (2, _)] ⟨rfl, rfl, rfl, trivial⟩ ?_
 refine AOps.heap (HS.alloc hσ rfl rfl rfl rfl rfl) rfl ?_
 apply AOps.norm
 ·
  repeat' (first | exact q0 rfl | apply q1 rfl | exact q2 rfl | apply q3 rfl | exact q4 rfl | apply q5 rfl | exact q6 rfl | exact q7 rfl | exact q8)
 refine AOps.step (Val.of hσ rfl rfl) rfl rfl rfl ?_
 refine AOps.step (Val.of hσ rfl rfl) rfl rfl rfl ?_
 refine AOps.step (Val.of hσ rfl rfl) rfl rfl rfl ?_
 refine AOps.nil ?_
 refine AWP.seq ?_
 refine AWP.region ?_
 refine AOps.step (Val.of hσ rfl rfl) rfl rfl rfl ?_
 refine AOps.step (Val.of hσ rfl rfl) rfl rfl rfl ?_
 refine AOps.step (Val.of hσ rfl rfl) rfl rfl rfl ?_
 refine AOps.forget [(15, _), (14, _), (13, _), (9, _), (8, _), (7, _), (6, _)] ⟨rfl, rfl, rfl, rfl, rfl, rfl, rfl, trivial⟩ ?_
 refine AOps.outs hσ rfl rfl rfl rfl (c62v (p := p) (s := s) (f := f) h1 h2 hp hs hf) (VAs.self rfl) rfl rfl rfl rfl (B0 := 17000) rfl ?_
 apply AOps.norm
 ·
  repeat' (first | exact q0 rfl | apply q1 rfl | exact q2 rfl | apply q3 rfl | exact q4 rfl | apply q5 rfl | exact q6 rfl | exact q7 rfl | exact q8)
 refine AOps.step (Val.of hσ rfl rfl) rfl rfl rfl ?_
 refine AOps.step (Val.of hσ rfl rfl) rfl rfl rfl ?_
 refine AOps.step (Val.of hσ rfl rfl) rfl rfl rfl ?_
 refine AOps.step (Val.of hσ rfl rfl) rfl rfl rfl ?_
 refine AOps.step (Val.of hσ rfl rfl) rfl rfl rfl ?_
 refine AOps.forget [(11, _), (10, _), (9, _), (8, _), (7, _), (6, _)] ⟨rfl, rfl, rfl, rfl, rfl, rfl, trivial⟩ ?_
 refine AOps.nil ?_
 refine AWP.seq ?_
 refine AWP.seq ?_
 refine AWP.region ?_
 refine AOps.step (Val.of hσ rfl rfl) rfl rfl rfl ?_
 refine AOps.step (Val.of hσ rfl rfl) rfl rfl rfl ?_
 refine AOps.forget [(20, _), (10, _), (9, _), (8, _), (7, _), (6, _)] ⟨rfl, rfl, rfl, rfl, rfl, rfl, trivial⟩ ?_
 refine AOps.nil ?_
 refine AWP.cond hσ rfl rfl (fun hc20 => ?_) (fun hc20 => ?_)
 ·
  skip
  exact absurd hc20 (by decide)
 ·
  skip
  refine AWP.skip ?_
  refine AWP.seq ?_
  refine AWP.forget [(10, _), (6, _)] ⟨rfl, rfl, trivial⟩ ?_
  refine AWP.drawR hσ _ [_, _, _, _, _, _, _, _, _, _, _, _, _, _, _, _] [⟨[], 0, 0, none⟩, ⟨[0], 0, 0, none⟩, ⟨[0, 1], 0, 0, none⟩, ⟨[0, 1, 2], 0, 0, none⟩, ⟨[], 0, 1, none⟩, ⟨[4], 0, 1, none⟩, ⟨[4, 5], 0, 1, none⟩, ⟨[4, 5, 6], 0, 1, none⟩, ⟨[], 0, 1, none⟩, ⟨[8], 0, 1, none⟩, ⟨[8, 9], 0, 1, none⟩, ⟨[8, 9, 10], 0, 1, none⟩, ⟨[0, 1, 2, 3], 0, 0, some 0⟩, ⟨[0, 1, 2, 3, 4, 5, 6, 7, 12], 1, 1, none⟩, ⟨[0, 1, 2, 3, 4, 5, 6, 7, 8, 9, 10, 11, 12, 13], 1, 1, none⟩, ⟨[0, 1, 2, 3, 4, 5, 6, 7, 8, 9, 10, 11, 12, 13, 14], 1, 1, none⟩] [12] [_, _] rfl rfl (by decide) (by decide) (by kernel_rfl) (And.intro (Val.of hσ rfl rfl) (And.intro (Val.of hσ rfl rfl) (And.intro (Val.of hσ rfl rfl) (And.intro (Val.of hσ rfl rfl) (And.intro (And.intro (Val.of hσ rfl rfl) (Val.of hσ rfl rfl)) (And.intro (And.intro (Val.of hσ rfl rfl) (Val.of hσ rfl rfl)) (And.intro (And.intro (Val.of hσ rfl rfl) (Val.of hσ rfl rfl)) (And.intro (And.intro (Val.of hσ rfl rfl) (Val.of hσ rfl rfl)) (And.intro (And.intro (Val.of hσ rfl rfl) (Val.of hσ rfl rfl)) (And.intro (And.intro (Val.of hσ rfl rfl) (Val.of hσ rfl rfl)) (And.intro (And.intro (Val.of hσ rfl rfl) (Val.of hσ rfl rfl)) (And.intro (And.intro (Val.of hσ rfl rfl) (Val.of hσ rfl rfl)) (And.intro (Eff.storeBox hσ rfl rfl rfl rfl rfl rfl rfl rfl rfl rfl rfl rfl rfl) (And.intro (Val.of hσ rfl rfl) (And.intro (Val.of hσ rfl rfl) (And.intro (Val.of hσ rfl rfl) trivial)))))))))))))))) ?_
  refine AWP.ret ?_
  refine ⟨.inl rfl, _, Ent.refl, _, rfl, [17001, 17002, 17003], by decide, rfl, rfl, rfl⟩
theorem c13n {L : Nat} (h1 : 4096 ≤ L) (h2 : L ≤ 1073741824) {p : Pm} {s : Sx} {f : Int} (hn : validB p s f = false) : MC Try.prog L 13 [aPm p, aSx s, eI f] [] (Rows (.tup [.agg [.d .nils, .d .nils], .c (.d .nils), eI 0, eB false]) []) := by
 refine MC.rows ?_
 have hσ := SGok (nt := 34) h1 (Nat.le_trans h2 (by decide))
 refine MC.body hσ Try.func13 (by kernel_rfl) rfl rfl (Nat.le_of_ble_eq_true rfl) (fun hF => ?_)
 refine AWP.seq ?_
 refine AWP.region ?_
 refine AOps.heap (HS.box hσ rfl rfl rfl rfl rfl rfl rfl) rfl ?_
 apply AOps.norm
 ·
  repeat' (first | exact q0 rfl | apply q1 rfl | exact q2 rfl | apply q3 rfl | exact q4 rfl | apply q5 rfl | exact q6 rfl | exact q7 rfl | exact q8)
 refine AOps.forget [(3, _), (1, _), (2, _)] ⟨rfl, rfl, rfl, trivial⟩ ?_
 refine AOps.heap (HS.box hσ rfl rfl rfl rfl rfl rfl rfl) rfl ?_
 apply AOps.norm
 ·
  repeat' (first | exact q0 rfl | apply q1 rfl | exact q2 rfl | apply q3 rfl | exact q4 rfl | apply q5 rfl | exact q6 rfl | exact q7 rfl | exact q8)
 refine AOps.forget [(4, _), (3, _), (2, _)] ⟨rfl, rfl, rfl, trivial⟩ ?_
 refine AOps.heap (HS.alloc hσ rfl rfl rfl rfl rfl) rfl ?_
 apply AOps.norm
 ·
  repeat' (first | exact q0 rfl | apply q1 rfl | exact q2 rfl | apply q3 rfl | exact q4 rfl | apply q5 rfl | exact q6 rfl | exact q7 rfl | exact q8)
 refine AOps.step (Val.of hσ rfl rfl) rfl rfl rfl ?_
 refine AOps.step (Val.of hσ rfl rfl) rfl rfl rfl ?_
 refine AOps.step (Val.of hσ rfl rfl) rfl rfl rfl ?_
 refine AOps.nil ?_
 refine AWP.seq ?_
 refine AWP.region ?_
 refine AOps.step (Val.of hσ rfl rfl) rfl rfl rfl ?_
 refine AOps.step (Val.of hσ rfl rfl) rfl rfl rfl ?_
 refine AOps.step (Val.of hσ rfl rfl) rfl rfl rfl ?_
 refine AOps.forget [(15, _), (14, _), (13, _), (9, _), (8, _), (7, _), (6, _)] ⟨rfl, rfl, rfl, rfl, rfl, rfl, rfl, trivial⟩ ?_
 refine AOps.plainD hσ rfl rfl rfl rfl (c62n (p := p) (s := s) (f := f) h1 h2 hn) (VAs.self rfl) rfl rfl rfl rfl (B0 := 17000) rfl rfl ?_
 refine AOps.step (Val.of hσ rfl rfl) rfl rfl rfl ?_
 refine AOps.step (Val.of hσ rfl rfl) rfl rfl rfl ?_
 refine AOps.step (Val.of hσ rfl rfl) rfl rfl rfl ?_
 refine AOps.step (Val.of hσ rfl rfl) rfl rfl rfl ?_
 refine AOps.step (Val.of hσ rfl rfl) rfl rfl rfl ?_
 refine AOps.forget [(11, _), (10, _), (9, _), (8, _), (7, _), (6, _)] ⟨rfl, rfl, rfl, rfl, rfl, rfl, trivial⟩ ?_
 refine AOps.nil ?_
 refine AWP.seq ?_
 refine AWP.seq ?_
 refine AWP.region ?_
 refine AOps.step (Val.of hσ rfl rfl) rfl rfl rfl ?_
 refine AOps.step (Val.of hσ rfl rfl) rfl rfl rfl ?_
 refine AOps.forget [(20, _), (10, _), (9, _), (8, _), (7, _), (6, _)] ⟨rfl, rfl, rfl, rfl, rfl, rfl, trivial⟩ ?_
 refine AOps.nil ?_
 refine AWP.cond hσ rfl rfl (fun hc20 => ?_) (fun hc20 => ?_)
 ·
  skip
  refine AWP.seq ?_
  refine AWP.region ?_
  refine AOps.step (Val.of hσ rfl rfl) rfl rfl rfl ?_
  refine AOps.forget [(21, _), (10, _), (9, _), (8, _), (7, _), (6, _)] ⟨rfl, rfl, rfl, rfl, rfl, rfl, trivial⟩ ?_
  refine AOps.heap (HS.storeBox hσ rfl rfl rfl rfl rfl rfl rfl rfl rfl rfl rfl) rfl ?_
  apply AOps.norm
  ·
   repeat' (first | exact q0 rfl | apply q1 rfl | exact q2 rfl | apply q3 rfl | exact q4 rfl | apply q5 rfl | exact q6 rfl | exact q7 rfl | exact q8)
  refine AOps.step (Val.of hσ rfl rfl) rfl rfl rfl ?_
  refine AOps.step (Val.of hσ rfl rfl) rfl rfl rfl ?_
  refine AOps.step (Val.of hσ rfl rfl) rfl rfl rfl ?_
  refine AOps.nil ?_
  refine AWP.ret ?_
  refine ⟨.inl rfl, _, Ent.refl, _, rfl, [], by decide, rfl, rfl, rfl⟩
 ·
  skip
  exact absurd hc20 (by decide)
end Go.Al
namespace Go.Al
open Go.Proofs
set_option linter.unusedVariables false
set_option linter.unusedSimpArgs false
set_option maxRecDepth 10000
def stepS (s : Sm) (v c : List Int) : Int × List Int × List Int :=
  if s.kind = 2 then (if big (evalT s.sum v) = true then (0, v.set s.var.toNat (evalT s.sum v), c) else (4, v, c))
  else if s.kind = 3 then (if inB 0 7 (evalT s.index v) = true then (0, v.set s.var.toNat (c.getD (evalT s.index v).toNat default), c) else (2, v, c))
  else if s.kind = 4 then (if inB 0 7 (evalT s.index v) = true then (if big (evalT s.sum v) = true then (0, v, c.set (evalT s.index v).toNat (evalT s.sum v)) else (4, v, c)) else (2, v, c))
  else if s.kind = 6 then (if evalT s.sum v < 0 then (3, v, c) else (0, v, c))
  else (0, v, c)
abbrev sbox : B := .box [.rs 1 0 4, .rs 2 0 8]
abbrev sH (v c : List Int) : List (Nat × B) := [(0, sbox), (1, nrow v), (2, nrow c)]

theorem c106_0 {L : Nat} (h1 : 4096 ≤ L) (h2 : L ≤ 1073741824) {vr ev : Int} {su ix : Tm} {fa : List Tm} {v c : List Int} (hst : stmtB ⟨0, vr, ev, su, ix, fa⟩ = true) (hv : numsB v 4 = true) (hc : numsB c 8 = true) : MC Try.prog L 106 [ptr (Sm.cells ⟨0, vr, ev, su, ix, fa⟩), .c (.pt 0 0 0)] (sH v c) (Outs (eI (stepS ⟨0, vr, ev, su, ix, fa⟩ v c).1) (sH (stepS ⟨0, vr, ev, su, ix, fa⟩ v c).2.1 (stepS ⟨0, vr, ev, su, ix, fa⟩ v c).2.2)) := by
 refine MC.shift 500 rfl ?_
 have hσ := SgOk.withIns (js := [500, 501, 502]) (SGok (nt := 98) h1 (Nat.le_trans h2 (by decide)))
 refine MC.bodyH hσ Try.func106 (by kernel_rfl) rfl rfl rfl (Nat.le_of_ble_eq_true rfl) (fun hF => ?_)
 apply AWP.norm
 ·
  repeat' (first | exact q0 rfl | apply q1 rfl | exact q2 rfl | apply q3 rfl | exact q4 rfl | apply q5 rfl | exact q6 rfl | exact q7 rfl | exact q8)
 have hsf := stmt_facts hst
 have hnv : v.length = 4 := by have := (numsB_iff hv).2; omega
 have hnc : c.length = 8 := by have := (numsB_iff hc).2; omega
 refine AWP.seq ?_
 refine AWP.region ?_
 refine AOps.step (Val.of hσ rfl rfl) rfl rfl rfl ?_
 refine AOps.nil ?_
 refine AWP.seq ?_
 refine AWP.region ?_
 refine AOps.step (Val.of hσ rfl rfl) rfl rfl rfl ?_
 refine AOps.step (Val.of hσ rfl rfl) rfl rfl rfl ?_
 refine AOps.step (Val.of hσ rfl rfl) rfl rfl rfl ?_
 refine AOps.step (Val.of hσ rfl rfl) rfl rfl rfl ?_
 refine AOps.forget [(10, _), (9, _), (4, _), (0, _), (1, _)] ⟨rfl, rfl, rfl, rfl, rfl, trivial⟩ ?_
 refine AOps.lone hσ rfl rfl rfl rfl (c107 (t := ix) (vars := v) (cells := c) h1 h2 hsf.2 hv) (.cons (.c (.sub rfl)) (.cons (.c (.pb (cs := [ints v, ints c]) rfl (.cons (.whole rfl (by rw [List.length_map]; exact hnv.symm)) (.cons (.whole rfl (by rw [List.length_map]; exact hnc.symm)) .nil)))) .nil)) rfl rfl rfl rfl rfl (B0 := 12000) rfl ?_
 refine AOps.step (Val.of hσ rfl rfl) rfl rfl rfl ?_
 refine AOps.forget [(5, _), (4, _), (0, _), (1, _)] ⟨rfl, rfl, rfl, rfl, trivial⟩ ?_
 refine AOps.nil ?_
 refine AWP.seq ?_
 refine AWP.region ?_
 refine AOps.step (Val.of hσ rfl rfl) rfl rfl rfl ?_
 refine AOps.step (Val.of hσ rfl rfl) rfl rfl rfl ?_
 refine AOps.step (Val.of hσ rfl rfl) rfl rfl rfl ?_
 refine AOps.step (Val.of hσ rfl rfl) rfl rfl rfl ?_
 refine AOps.forget [(15, _), (14, _), (5, _), (4, _), (0, _), (1, _)] ⟨rfl, rfl, rfl, rfl, rfl, rfl, trivial⟩ ?_
 refine AOps.lone hσ rfl rfl rfl rfl (c107 (t := su) (vars := v) (cells := c) h1 h2 hsf.1 hv) (.cons (.c (.sub rfl)) (.cons (.c (.pb (cs := [ints v, ints c]) rfl (.cons (.whole rfl (by rw [List.length_map]; exact hnv.symm)) (.cons (.whole rfl (by rw [List.length_map]; exact hnc.symm)) .nil)))) .nil)) rfl rfl rfl rfl rfl (B0 := 17000) rfl ?_
 refine AOps.step (Val.of hσ rfl rfl) rfl rfl rfl ?_
 refine AOps.forget [(6, _), (5, _), (4, _), (0, _), (1, _)] ⟨rfl, rfl, rfl, rfl, rfl, trivial⟩ ?_
 refine AOps.nil ?_
 refine AWP.seq ?_
 refine AWP.seq ?_
 refine AWP.region ?_
 refine AOps.step (Val.of hσ rfl rfl) rfl rfl rfl ?_
 refine AOps.step (Val.of hσ rfl rfl) rfl rfl rfl ?_
 refine AOps.step (Val.of hσ rfl rfl) rfl rfl rfl ?_
 refine AOps.step (Val.of hσ rfl rfl) rfl rfl rfl ?_
 refine AOps.step (Val.of hσ rfl rfl) rfl rfl rfl ?_
 refine AOps.step (Val.of hσ rfl rfl) rfl rfl rfl ?_
 refine AOps.forget [(22, _), (6, _), (5, _), (4, _), (0, _), (1, _)] ⟨rfl, rfl, rfl, rfl, rfl, rfl, trivial⟩ ?_
 refine AOps.live rfl rfl rfl rfl rfl ?_
 refine AOps.step (Val.of hσ rfl rfl) rfl rfl rfl ?_
 refine AOps.live rfl rfl rfl rfl rfl ?_
 refine AOps.step (Val.of hσ rfl rfl) rfl rfl rfl ?_
 refine AOps.forget [(24, _), (22, _), (6, _), (5, _), (4, _), (0, _), (1, _)] ⟨rfl, rfl, rfl, rfl, rfl, rfl, rfl, trivial⟩ ?_
 refine AOps.live rfl rfl rfl rfl rfl ?_
 refine AOps.step (Val.of hσ rfl rfl) rfl rfl rfl ?_
 refine AOps.forget [(25, _), (22, _), (6, _), (5, _), (4, _), (0, _), (1, _)] ⟨rfl, rfl, rfl, rfl, rfl, rfl, rfl, trivial⟩ ?_
 refine AOps.live rfl rfl rfl rfl rfl ?_
 refine AOps.step (Val.of hσ rfl rfl) rfl rfl rfl ?_
 refine AOps.forget [(26, _), (22, _), (6, _), (5, _), (4, _), (0, _), (1, _)] ⟨rfl, rfl, rfl, rfl, rfl, rfl, rfl, trivial⟩ ?_
 refine AOps.live rfl rfl rfl rfl rfl ?_
 refine AOps.step (Val.of hσ rfl rfl) rfl rfl rfl ?_
 refine AOps.step (Val.pickN hσ rfl rfl rfl rfl rfl) rfl rfl rfl ?_
 refine AOps.step (Val.of hσ rfl rfl) rfl rfl rfl ?_
 refine AOps.forget [(29, _), (6, _), (5, _), (4, _), (0, _), (1, _)] ⟨rfl, rfl, rfl, rfl, rfl, rfl, trivial⟩ ?_
 refine AOps.skip rfl rfl rfl rfl rfl rfl ?_
 refine AOps.skip rfl rfl rfl rfl rfl rfl ?_
 refine AOps.forget [(31, _), (29, _), (6, _), (5, _), (4, _), (0, _), (1, _)] ⟨rfl, rfl, rfl, rfl, rfl, rfl, rfl, trivial⟩ ?_
 refine AOps.skip rfl rfl rfl rfl rfl rfl ?_
 refine AOps.step (Val.pickN hσ rfl rfl rfl rfl rfl) rfl rfl rfl ?_
 refine AOps.forget [(33, _), (6, _), (5, _), (4, _), (0, _), (1, _)] ⟨rfl, rfl, rfl, rfl, rfl, rfl, trivial⟩ ?_
 refine AOps.nil ?_
 refine AWP.cond hσ rfl rfl (fun hc33 => ?_) (fun hc33 => ?_)
 ·
  skip
  exact absurd (show false = true from hc33) (by decide)
 ·
  skip
  refine AWP.skip ?_
  refine AWP.seq ?_
  refine AWP.seq ?_
  refine AWP.region ?_
  refine AOps.step (Val.of hσ rfl rfl) rfl rfl rfl ?_
  refine AOps.step (Val.of hσ rfl rfl) rfl rfl rfl ?_
  refine AOps.step (Val.of hσ rfl rfl) rfl rfl rfl ?_
  refine AOps.step (Val.of hσ rfl rfl) rfl rfl rfl ?_
  refine AOps.step (Val.of hσ rfl rfl) rfl rfl rfl ?_
  refine AOps.step (Val.of hσ rfl rfl) rfl rfl rfl ?_
  refine AOps.forget [(39, _), (6, _), (5, _), (4, _), (0, _), (1, _)] ⟨rfl, rfl, rfl, rfl, rfl, rfl, trivial⟩ ?_
  refine AOps.live rfl rfl rfl rfl rfl ?_
  refine AOps.step (Val.of hσ rfl rfl) rfl rfl rfl ?_
  refine AOps.live rfl rfl rfl rfl rfl ?_
  refine AOps.step (Val.of hσ rfl rfl) rfl rfl rfl ?_
  refine AOps.forget [(41, _), (39, _), (6, _), (5, _), (4, _), (0, _), (1, _)] ⟨rfl, rfl, rfl, rfl, rfl, rfl, rfl, trivial⟩ ?_
  refine AOps.live rfl rfl rfl rfl rfl ?_
  refine AOps.step (Val.of hσ rfl rfl) rfl rfl rfl ?_
  refine AOps.forget [(42, _), (39, _), (6, _), (5, _), (4, _), (0, _), (1, _)] ⟨rfl, rfl, rfl, rfl, rfl, rfl, rfl, trivial⟩ ?_
  refine AOps.live rfl rfl rfl rfl rfl ?_
  refine AOps.step (Val.of hσ rfl rfl) rfl rfl rfl ?_
  refine AOps.forget [(43, _), (39, _), (6, _), (5, _), (4, _), (0, _), (1, _)] ⟨rfl, rfl, rfl, rfl, rfl, rfl, rfl, trivial⟩ ?_
  refine AOps.live rfl rfl rfl rfl rfl ?_
  refine AOps.step (Val.of hσ rfl rfl) rfl rfl rfl ?_
  refine AOps.step (Val.pickN hσ rfl rfl rfl rfl rfl) rfl rfl rfl ?_
  refine AOps.step (Val.of hσ rfl rfl) rfl rfl rfl ?_
  refine AOps.forget [(46, _), (6, _), (5, _), (4, _), (0, _), (1, _)] ⟨rfl, rfl, rfl, rfl, rfl, rfl, trivial⟩ ?_
  refine AOps.skip rfl rfl rfl rfl rfl rfl ?_
  refine AOps.skip rfl rfl rfl rfl rfl rfl ?_
  refine AOps.forget [(48, _), (46, _), (6, _), (5, _), (4, _), (0, _), (1, _)] ⟨rfl, rfl, rfl, rfl, rfl, rfl, rfl, trivial⟩ ?_
  refine AOps.skip rfl rfl rfl rfl rfl rfl ?_
  refine AOps.step (Val.pickN hσ rfl rfl rfl rfl rfl) rfl rfl rfl ?_
  refine AOps.forget [(50, _), (6, _), (5, _), (4, _), (0, _), (1, _)] ⟨rfl, rfl, rfl, rfl, rfl, rfl, trivial⟩ ?_
  refine AOps.nil ?_
  refine AWP.cond hσ rfl rfl (fun hc50 => ?_) (fun hc50 => ?_)
  ·
   skip
   exact absurd (show false = true from hc50) (by decide)
  ·
   skip
   refine AWP.skip ?_
   refine AWP.seq ?_
   refine AWP.seq ?_
   refine AWP.region ?_
   refine AOps.step (Val.of hσ rfl rfl) rfl rfl rfl ?_
   refine AOps.step (Val.of hσ rfl rfl) rfl rfl rfl ?_
   refine AOps.step (Val.of hσ rfl rfl) rfl rfl rfl ?_
   refine AOps.step (Val.of hσ rfl rfl) rfl rfl rfl ?_
   refine AOps.forget [(54, _), (6, _), (5, _), (4, _), (0, _), (1, _)] ⟨rfl, rfl, rfl, rfl, rfl, rfl, trivial⟩ ?_
   refine AOps.nil ?_
   refine AWP.block ?_
   refine AWP.seq ?_
   refine AWP.region ?_
   refine AOps.step (Val.of hσ rfl rfl) rfl rfl rfl ?_
   refine AOps.step (Val.of hσ rfl rfl) rfl rfl rfl ?_
   refine AOps.nil ?_
   refine AWP.cond hσ rfl rfl (fun hc55 => ?_) (fun hc55 => ?_)
   ·
    skip
    exact absurd (show false = true from hc55) (by decide)
   ·
    skip
    refine AWP.seq ?_
    refine AWP.region ?_
    refine AOps.step (Val.of hσ rfl rfl) rfl rfl rfl ?_
    refine AOps.step (Val.of hσ rfl rfl) rfl rfl rfl ?_
    refine AOps.forget [(67, _), (56, _), (54, _), (6, _), (5, _), (4, _), (0, _), (1, _)] ⟨rfl, rfl, rfl, rfl, rfl, rfl, rfl, rfl, trivial⟩ ?_
    refine AOps.nil ?_
    refine AWP.cond hσ rfl rfl (fun hc67 => ?_) (fun hc67 => ?_)
    ·
     skip
     exact absurd (show false = true from hc67) (by decide)
    ·
     skip
     refine AWP.seq ?_
     refine AWP.region ?_
     refine AOps.step (Val.of hσ rfl rfl) rfl rfl rfl ?_
     refine AOps.step (Val.of hσ rfl rfl) rfl rfl rfl ?_
     refine AOps.forget [(85, _), (56, _), (54, _), (6, _), (5, _), (4, _), (0, _), (1, _)] ⟨rfl, rfl, rfl, rfl, rfl, rfl, rfl, rfl, trivial⟩ ?_
     refine AOps.nil ?_
     refine AWP.cond hσ rfl rfl (fun hc85 => ?_) (fun hc85 => ?_)
     ·
      skip
      exact absurd (show false = true from hc85) (by decide)
     ·
      skip
      refine AWP.seq ?_
      refine AWP.region ?_
      refine AOps.step (Val.of hσ rfl rfl) rfl rfl rfl ?_
      refine AOps.step (Val.of hσ rfl rfl) rfl rfl rfl ?_
      refine AOps.forget [(94, _), (56, _), (54, _), (6, _), (5, _), (4, _), (0, _), (1, _)] ⟨rfl, rfl, rfl, rfl, rfl, rfl, rfl, rfl, trivial⟩ ?_
      refine AOps.nil ?_
      refine AWP.cond hσ rfl rfl (fun hc94 => ?_) (fun hc94 => ?_)
      ·
       skip
       exact absurd (show false = true from hc94) (by decide)
      ·
       skip
       refine AWP.skip ?_
       refine AWP.seq ?_
       refine AWP.region ?_
       refine AOps.step (Val.of hσ rfl rfl) rfl rfl rfl ?_
       refine AOps.nil ?_
       refine AWP.ret ?_
       skip
       have hrun : stepS ⟨0, vr, ev, su, ix, fa⟩ v c = (0, v, c) := by unfold stepS; rw [if_neg (by decide : ¬ (0 : Int) = 2), if_neg (by decide : ¬ (0 : Int) = 3), if_neg (by decide : ¬ (0 : Int) = 4), if_neg (by decide : ¬ (0 : Int) = 6)]
       refine ⟨.inl rfl, _, Ent.sel [500, 501, 502] rfl rfl (e' := [(4, _)]) ⟨rfl, trivial⟩ rfl, _, rfl, ?_, ?_⟩
       ·
        rw [hrun]; rfl
       ·
        rw [hrun]; rfl
theorem c106_5 {L : Nat} (h1 : 4096 ≤ L) (h2 : L ≤ 1073741824) {vr ev : Int} {su ix : Tm} {fa : List Tm} {v c : List Int} (hst : stmtB ⟨5, vr, ev, su, ix, fa⟩ = true) (hv : numsB v 4 = true) (hc : numsB c 8 = true) : MC Try.prog L 106 [ptr (Sm.cells ⟨5, vr, ev, su, ix, fa⟩), .c (.pt 0 0 0)] (sH v c) (Outs (eI (stepS ⟨5, vr, ev, su, ix, fa⟩ v c).1) (sH (stepS ⟨5, vr, ev, su, ix, fa⟩ v c).2.1 (stepS ⟨5, vr, ev, su, ix, fa⟩ v c).2.2)) := by
 refine MC.shift 500 rfl ?_
 have hσ := SgOk.withIns (js := [500, 501, 502]) (SGok (nt := 98) h1 (Nat.le_trans h2 (by decide)))
 refine MC.bodyH hσ Try.func106 (by kernel_rfl) rfl rfl rfl (Nat.le_of_ble_eq_true rfl) (fun hF => ?_)
 apply AWP.norm
 ·
  repeat' (first | exact q0 rfl | apply q1 rfl | exact q2 rfl | apply q3 rfl | exact q4 rfl | apply q5 rfl | exact q6 rfl | exact q7 rfl | exact q8)
 have hsf := stmt_facts hst
 have hnv : v.length = 4 := by have := (numsB_iff hv).2; omega
 have hnc : c.length = 8 := by have := (numsB_iff hc).2; omega
 refine AWP.seq ?_
 refine AWP.region ?_
 refine AOps.step (Val.of hσ rfl rfl) rfl rfl rfl ?_
 refine AOps.nil ?_
 refine AWP.seq ?_
 refine AWP.region ?_
 refine AOps.step (Val.of hσ rfl rfl) rfl rfl rfl ?_
 refine AOps.step (Val.of hσ rfl rfl) rfl rfl rfl ?_
 refine AOps.step (Val.of hσ rfl rfl) rfl rfl rfl ?_
 refine AOps.step (Val.of hσ rfl rfl) rfl rfl rfl ?_
 refine AOps.forget [(10, _), (9, _), (4, _), (0, _), (1, _)] ⟨rfl, rfl, rfl, rfl, rfl, trivial⟩ ?_
 refine AOps.lone hσ rfl rfl rfl rfl (c107 (t := ix) (vars := v) (cells := c) h1 h2 hsf.2 hv) (.cons (.c (.sub rfl)) (.cons (.c (.pb (cs := [ints v, ints c]) rfl (.cons (.whole rfl (by rw [List.length_map]; exact hnv.symm)) (.cons (.whole rfl (by rw [List.length_map]; exact hnc.symm)) .nil)))) .nil)) rfl rfl rfl rfl rfl (B0 := 12000) rfl ?_
 refine AOps.step (Val.of hσ rfl rfl) rfl rfl rfl ?_
 refine AOps.forget [(5, _), (4, _), (0, _), (1, _)] ⟨rfl, rfl, rfl, rfl, trivial⟩ ?_
 refine AOps.nil ?_
 refine AWP.seq ?_
 refine AWP.region ?_
 refine AOps.step (Val.of hσ rfl rfl) rfl rfl rfl ?_
 refine AOps.step (Val.of hσ rfl rfl) rfl rfl rfl ?_
 refine AOps.step (Val.of hσ rfl rfl) rfl rfl rfl ?_
 refine AOps.step (Val.of hσ rfl rfl) rfl rfl rfl ?_
 refine AOps.forget [(15, _), (14, _), (5, _), (4, _), (0, _), (1, _)] ⟨rfl, rfl, rfl, rfl, rfl, rfl, trivial⟩ ?_
 refine AOps.lone hσ rfl rfl rfl rfl (c107 (t := su) (vars := v) (cells := c) h1 h2 hsf.1 hv) (.cons (.c (.sub rfl)) (.cons (.c (.pb (cs := [ints v, ints c]) rfl (.cons (.whole rfl (by rw [List.length_map]; exact hnv.symm)) (.cons (.whole rfl (by rw [List.length_map]; exact hnc.symm)) .nil)))) .nil)) rfl rfl rfl rfl rfl (B0 := 17000) rfl ?_
 refine AOps.step (Val.of hσ rfl rfl) rfl rfl rfl ?_
 refine AOps.forget [(6, _), (5, _), (4, _), (0, _), (1, _)] ⟨rfl, rfl, rfl, rfl, rfl, trivial⟩ ?_
 refine AOps.nil ?_
 refine AWP.seq ?_
 refine AWP.seq ?_
 refine AWP.region ?_
 refine AOps.step (Val.of hσ rfl rfl) rfl rfl rfl ?_
 refine AOps.step (Val.of hσ rfl rfl) rfl rfl rfl ?_
 refine AOps.step (Val.of hσ rfl rfl) rfl rfl rfl ?_
 refine AOps.step (Val.of hσ rfl rfl) rfl rfl rfl ?_
 refine AOps.step (Val.of hσ rfl rfl) rfl rfl rfl ?_
 refine AOps.step (Val.of hσ rfl rfl) rfl rfl rfl ?_
 refine AOps.forget [(22, _), (6, _), (5, _), (4, _), (0, _), (1, _)] ⟨rfl, rfl, rfl, rfl, rfl, rfl, trivial⟩ ?_
 refine AOps.live rfl rfl rfl rfl rfl ?_
 refine AOps.step (Val.of hσ rfl rfl) rfl rfl rfl ?_
 refine AOps.live rfl rfl rfl rfl rfl ?_
 refine AOps.step (Val.of hσ rfl rfl) rfl rfl rfl ?_
 refine AOps.forget [(24, _), (22, _), (6, _), (5, _), (4, _), (0, _), (1, _)] ⟨rfl, rfl, rfl, rfl, rfl, rfl, rfl, trivial⟩ ?_
 refine AOps.live rfl rfl rfl rfl rfl ?_
 refine AOps.step (Val.of hσ rfl rfl) rfl rfl rfl ?_
 refine AOps.forget [(25, _), (22, _), (6, _), (5, _), (4, _), (0, _), (1, _)] ⟨rfl, rfl, rfl, rfl, rfl, rfl, rfl, trivial⟩ ?_
 refine AOps.live rfl rfl rfl rfl rfl ?_
 refine AOps.step (Val.of hσ rfl rfl) rfl rfl rfl ?_
 refine AOps.forget [(26, _), (22, _), (6, _), (5, _), (4, _), (0, _), (1, _)] ⟨rfl, rfl, rfl, rfl, rfl, rfl, rfl, trivial⟩ ?_
 refine AOps.live rfl rfl rfl rfl rfl ?_
 refine AOps.step (Val.of hσ rfl rfl) rfl rfl rfl ?_
 refine AOps.step (Val.pickN hσ rfl rfl rfl rfl rfl) rfl rfl rfl ?_
 refine AOps.step (Val.of hσ rfl rfl) rfl rfl rfl ?_
 refine AOps.forget [(29, _), (6, _), (5, _), (4, _), (0, _), (1, _)] ⟨rfl, rfl, rfl, rfl, rfl, rfl, trivial⟩ ?_
 refine AOps.skip rfl rfl rfl rfl rfl rfl ?_
 refine AOps.skip rfl rfl rfl rfl rfl rfl ?_
 refine AOps.forget [(31, _), (29, _), (6, _), (5, _), (4, _), (0, _), (1, _)] ⟨rfl, rfl, rfl, rfl, rfl, rfl, rfl, trivial⟩ ?_
 refine AOps.skip rfl rfl rfl rfl rfl rfl ?_
 refine AOps.step (Val.pickN hσ rfl rfl rfl rfl rfl) rfl rfl rfl ?_
 refine AOps.forget [(33, _), (6, _), (5, _), (4, _), (0, _), (1, _)] ⟨rfl, rfl, rfl, rfl, rfl, rfl, trivial⟩ ?_
 refine AOps.nil ?_
 refine AWP.cond hσ rfl rfl (fun hc33 => ?_) (fun hc33 => ?_)
 ·
  skip
  exact absurd (show false = true from hc33) (by decide)
 ·
  skip
  refine AWP.skip ?_
  refine AWP.seq ?_
  refine AWP.seq ?_
  refine AWP.region ?_
  refine AOps.step (Val.of hσ rfl rfl) rfl rfl rfl ?_
  refine AOps.step (Val.of hσ rfl rfl) rfl rfl rfl ?_
  refine AOps.step (Val.of hσ rfl rfl) rfl rfl rfl ?_
  refine AOps.step (Val.of hσ rfl rfl) rfl rfl rfl ?_
  refine AOps.step (Val.of hσ rfl rfl) rfl rfl rfl ?_
  refine AOps.step (Val.of hσ rfl rfl) rfl rfl rfl ?_
  refine AOps.forget [(39, _), (6, _), (5, _), (4, _), (0, _), (1, _)] ⟨rfl, rfl, rfl, rfl, rfl, rfl, trivial⟩ ?_
  refine AOps.live rfl rfl rfl rfl rfl ?_
  refine AOps.step (Val.of hσ rfl rfl) rfl rfl rfl ?_
  refine AOps.live rfl rfl rfl rfl rfl ?_
  refine AOps.step (Val.of hσ rfl rfl) rfl rfl rfl ?_
  refine AOps.forget [(41, _), (39, _), (6, _), (5, _), (4, _), (0, _), (1, _)] ⟨rfl, rfl, rfl, rfl, rfl, rfl, rfl, trivial⟩ ?_
  refine AOps.live rfl rfl rfl rfl rfl ?_
  refine AOps.step (Val.of hσ rfl rfl) rfl rfl rfl ?_
  refine AOps.forget [(42, _), (39, _), (6, _), (5, _), (4, _), (0, _), (1, _)] ⟨rfl, rfl, rfl, rfl, rfl, rfl, rfl, trivial⟩ ?_
  refine AOps.live rfl rfl rfl rfl rfl ?_
  refine AOps.step (Val.of hσ rfl rfl) rfl rfl rfl ?_
  refine AOps.forget [(43, _), (39, _), (6, _), (5, _), (4, _), (0, _), (1, _)] ⟨rfl, rfl, rfl, rfl, rfl, rfl, rfl, trivial⟩ ?_
  refine AOps.live rfl rfl rfl rfl rfl ?_
  refine AOps.step (Val.of hσ rfl rfl) rfl rfl rfl ?_
  refine AOps.step (Val.pickN hσ rfl rfl rfl rfl rfl) rfl rfl rfl ?_
  refine AOps.step (Val.of hσ rfl rfl) rfl rfl rfl ?_
  refine AOps.forget [(46, _), (6, _), (5, _), (4, _), (0, _), (1, _)] ⟨rfl, rfl, rfl, rfl, rfl, rfl, trivial⟩ ?_
  refine AOps.skip rfl rfl rfl rfl rfl rfl ?_
  refine AOps.skip rfl rfl rfl rfl rfl rfl ?_
  refine AOps.forget [(48, _), (46, _), (6, _), (5, _), (4, _), (0, _), (1, _)] ⟨rfl, rfl, rfl, rfl, rfl, rfl, rfl, trivial⟩ ?_
  refine AOps.skip rfl rfl rfl rfl rfl rfl ?_
  refine AOps.step (Val.pickN hσ rfl rfl rfl rfl rfl) rfl rfl rfl ?_
  refine AOps.forget [(50, _), (6, _), (5, _), (4, _), (0, _), (1, _)] ⟨rfl, rfl, rfl, rfl, rfl, rfl, trivial⟩ ?_
  refine AOps.nil ?_
  refine AWP.cond hσ rfl rfl (fun hc50 => ?_) (fun hc50 => ?_)
  ·
   skip
   exact absurd (show false = true from hc50) (by decide)
  ·
   skip
   refine AWP.skip ?_
   refine AWP.seq ?_
   refine AWP.seq ?_
   refine AWP.region ?_
   refine AOps.step (Val.of hσ rfl rfl) rfl rfl rfl ?_
   refine AOps.step (Val.of hσ rfl rfl) rfl rfl rfl ?_
   refine AOps.step (Val.of hσ rfl rfl) rfl rfl rfl ?_
   refine AOps.step (Val.of hσ rfl rfl) rfl rfl rfl ?_
   refine AOps.forget [(54, _), (6, _), (5, _), (4, _), (0, _), (1, _)] ⟨rfl, rfl, rfl, rfl, rfl, rfl, trivial⟩ ?_
   refine AOps.nil ?_
   refine AWP.block ?_
   refine AWP.seq ?_
   refine AWP.region ?_
   refine AOps.step (Val.of hσ rfl rfl) rfl rfl rfl ?_
   refine AOps.step (Val.of hσ rfl rfl) rfl rfl rfl ?_
   refine AOps.nil ?_
   refine AWP.cond hσ rfl rfl (fun hc55 => ?_) (fun hc55 => ?_)
   ·
    skip
    exact absurd (show false = true from hc55) (by decide)
   ·
    skip
    refine AWP.seq ?_
    refine AWP.region ?_
    refine AOps.step (Val.of hσ rfl rfl) rfl rfl rfl ?_
    refine AOps.step (Val.of hσ rfl rfl) rfl rfl rfl ?_
    refine AOps.forget [(67, _), (56, _), (54, _), (6, _), (5, _), (4, _), (0, _), (1, _)] ⟨rfl, rfl, rfl, rfl, rfl, rfl, rfl, rfl, trivial⟩ ?_
    refine AOps.nil ?_
    refine AWP.cond hσ rfl rfl (fun hc67 => ?_) (fun hc67 => ?_)
    ·
     skip
     exact absurd (show false = true from hc67) (by decide)
    ·
     skip
     refine AWP.seq ?_
     refine AWP.region ?_
     refine AOps.step (Val.of hσ rfl rfl) rfl rfl rfl ?_
     refine AOps.step (Val.of hσ rfl rfl) rfl rfl rfl ?_
     refine AOps.forget [(85, _), (56, _), (54, _), (6, _), (5, _), (4, _), (0, _), (1, _)] ⟨rfl, rfl, rfl, rfl, rfl, rfl, rfl, rfl, trivial⟩ ?_
     refine AOps.nil ?_
     refine AWP.cond hσ rfl rfl (fun hc85 => ?_) (fun hc85 => ?_)
     ·
      skip
      exact absurd (show false = true from hc85) (by decide)
     ·
      skip
      refine AWP.seq ?_
      refine AWP.region ?_
      refine AOps.step (Val.of hσ rfl rfl) rfl rfl rfl ?_
      refine AOps.step (Val.of hσ rfl rfl) rfl rfl rfl ?_
      refine AOps.forget [(94, _), (56, _), (54, _), (6, _), (5, _), (4, _), (0, _), (1, _)] ⟨rfl, rfl, rfl, rfl, rfl, rfl, rfl, rfl, trivial⟩ ?_
      refine AOps.nil ?_
      refine AWP.cond hσ rfl rfl (fun hc94 => ?_) (fun hc94 => ?_)
      ·
       skip
       exact absurd (show false = true from hc94) (by decide)
      ·
       skip
       refine AWP.skip ?_
       refine AWP.seq ?_
       refine AWP.region ?_
       refine AOps.step (Val.of hσ rfl rfl) rfl rfl rfl ?_
       refine AOps.nil ?_
       refine AWP.ret ?_
       skip
       have hrun : stepS ⟨5, vr, ev, su, ix, fa⟩ v c = (0, v, c) := by unfold stepS; rw [if_neg (by decide : ¬ (5 : Int) = 2), if_neg (by decide : ¬ (5 : Int) = 3), if_neg (by decide : ¬ (5 : Int) = 4), if_neg (by decide : ¬ (5 : Int) = 6)]
       refine ⟨.inl rfl, _, Ent.sel [500, 501, 502] rfl rfl (e' := [(4, _)]) ⟨rfl, trivial⟩ rfl, _, rfl, ?_, ?_⟩
       ·
        rw [hrun]; rfl
       ·
        rw [hrun]; rfl
theorem c106_7 {L : Nat} (h1 : 4096 ≤ L) (h2 : L ≤ 1073741824) {vr ev : Int} {su ix : Tm} {fa : List Tm} {v c : List Int} (hst : stmtB ⟨7, vr, ev, su, ix, fa⟩ = true) (hv : numsB v 4 = true) (hc : numsB c 8 = true) : MC Try.prog L 106 [ptr (Sm.cells ⟨7, vr, ev, su, ix, fa⟩), .c (.pt 0 0 0)] (sH v c) (Outs (eI (stepS ⟨7, vr, ev, su, ix, fa⟩ v c).1) (sH (stepS ⟨7, vr, ev, su, ix, fa⟩ v c).2.1 (stepS ⟨7, vr, ev, su, ix, fa⟩ v c).2.2)) := by
 refine MC.shift 500 rfl ?_
 have hσ := SgOk.withIns (js := [500, 501, 502]) (SGok (nt := 98) h1 (Nat.le_trans h2 (by decide)))
 refine MC.bodyH hσ Try.func106 (by kernel_rfl) rfl rfl rfl (Nat.le_of_ble_eq_true rfl) (fun hF => ?_)
 apply AWP.norm
 ·
  repeat' (first | exact q0 rfl | apply q1 rfl | exact q2 rfl | apply q3 rfl | exact q4 rfl | apply q5 rfl | exact q6 rfl | exact q7 rfl | exact q8)
 have hsf := stmt_facts hst
 have hnv : v.length = 4 := by have := (numsB_iff hv).2; omega
 have hnc : c.length = 8 := by have := (numsB_iff hc).2; omega
 refine AWP.seq ?_
 refine AWP.region ?_
 refine AOps.step (Val.of hσ rfl rfl) rfl rfl rfl ?_
 refine AOps.nil ?_
 refine AWP.seq ?_
 refine AWP.region ?_
 refine AOps.step (Val.of hσ rfl rfl) rfl rfl rfl ?_
 refine AOps.step (Val.of hσ rfl rfl) rfl rfl rfl ?_
 refine AOps.step (Val.of hσ rfl rfl) rfl rfl rfl ?_
 refine AOps.step (Val.of hσ rfl rfl) rfl rfl rfl ?_
 refine AOps.forget [(10, _), (9, _), (4, _), (0, _), (1, _)] ⟨rfl, rfl, rfl, rfl, rfl, trivial⟩ ?_
 refine AOps.lone hσ rfl rfl rfl rfl (c107 (t := ix) (vars := v) (cells := c) h1 h2 hsf.2 hv) (.cons (.c (.sub rfl)) (.cons (.c (.pb (cs := [ints v, ints c]) rfl (.cons (.whole rfl (by rw [List.length_map]; exact hnv.symm)) (.cons (.whole rfl (by rw [List.length_map]; exact hnc.symm)) .nil)))) .nil)) rfl rfl rfl rfl rfl (B0 := 12000) rfl ?_
 refine AOps.step (Val.of hσ rfl rfl) rfl rfl rfl ?_
 refine AOps.forget [(5, _), (4, _), (0, _), (1, _)] ⟨rfl, rfl, rfl, rfl, trivial⟩ ?_
 refine AOps.nil ?_
 refine AWP.seq ?_
 refine AWP.region ?_
 refine AOps.step (Val.of hσ rfl rfl) rfl rfl rfl ?_
 refine AOps.step (Val.of hσ rfl rfl) rfl rfl rfl ?_
 refine AOps.step (Val.of hσ rfl rfl) rfl rfl rfl ?_
 refine AOps.step (Val.of hσ rfl rfl) rfl rfl rfl ?_
 refine AOps.forget [(15, _), (14, _), (5, _), (4, _), (0, _), (1, _)] ⟨rfl, rfl, rfl, rfl, rfl, rfl, trivial⟩ ?_
 refine AOps.lone hσ rfl rfl rfl rfl (c107 (t := su) (vars := v) (cells := c) h1 h2 hsf.1 hv) (.cons (.c (.sub rfl)) (.cons (.c (.pb (cs := [ints v, ints c]) rfl (.cons (.whole rfl (by rw [List.length_map]; exact hnv.symm)) (.cons (.whole rfl (by rw [List.length_map]; exact hnc.symm)) .nil)))) .nil)) rfl rfl rfl rfl rfl (B0 := 17000) rfl ?_
 refine AOps.step (Val.of hσ rfl rfl) rfl rfl rfl ?_
 refine AOps.forget [(6, _), (5, _), (4, _), (0, _), (1, _)] ⟨rfl, rfl, rfl, rfl, rfl, trivial⟩ ?_
 refine AOps.nil ?_
 refine AWP.seq ?_
 refine AWP.seq ?_
 refine AWP.region ?_
 refine AOps.step (Val.of hσ rfl rfl) rfl rfl rfl ?_
 refine AOps.step (Val.of hσ rfl rfl) rfl rfl rfl ?_
 refine AOps.step (Val.of hσ rfl rfl) rfl rfl rfl ?_
 refine AOps.step (Val.of hσ rfl rfl) rfl rfl rfl ?_
 refine AOps.step (Val.of hσ rfl rfl) rfl rfl rfl ?_
 refine AOps.step (Val.of hσ rfl rfl) rfl rfl rfl ?_
 refine AOps.forget [(22, _), (6, _), (5, _), (4, _), (0, _), (1, _)] ⟨rfl, rfl, rfl, rfl, rfl, rfl, trivial⟩ ?_
 refine AOps.live rfl rfl rfl rfl rfl ?_
 refine AOps.step (Val.of hσ rfl rfl) rfl rfl rfl ?_
 refine AOps.live rfl rfl rfl rfl rfl ?_
 refine AOps.step (Val.of hσ rfl rfl) rfl rfl rfl ?_
 refine AOps.forget [(24, _), (22, _), (6, _), (5, _), (4, _), (0, _), (1, _)] ⟨rfl, rfl, rfl, rfl, rfl, rfl, rfl, trivial⟩ ?_
 refine AOps.live rfl rfl rfl rfl rfl ?_
 refine AOps.step (Val.of hσ rfl rfl) rfl rfl rfl ?_
 refine AOps.forget [(25, _), (22, _), (6, _), (5, _), (4, _), (0, _), (1, _)] ⟨rfl, rfl, rfl, rfl, rfl, rfl, rfl, trivial⟩ ?_
 refine AOps.live rfl rfl rfl rfl rfl ?_
 refine AOps.step (Val.of hσ rfl rfl) rfl rfl rfl ?_
 refine AOps.forget [(26, _), (22, _), (6, _), (5, _), (4, _), (0, _), (1, _)] ⟨rfl, rfl, rfl, rfl, rfl, rfl, rfl, trivial⟩ ?_
 refine AOps.live rfl rfl rfl rfl rfl ?_
 refine AOps.step (Val.of hσ rfl rfl) rfl rfl rfl ?_
 refine AOps.step (Val.pickN hσ rfl rfl rfl rfl rfl) rfl rfl rfl ?_
 refine AOps.step (Val.of hσ rfl rfl) rfl rfl rfl ?_
 refine AOps.forget [(29, _), (6, _), (5, _), (4, _), (0, _), (1, _)] ⟨rfl, rfl, rfl, rfl, rfl, rfl, trivial⟩ ?_
 refine AOps.skip rfl rfl rfl rfl rfl rfl ?_
 refine AOps.skip rfl rfl rfl rfl rfl rfl ?_
 refine AOps.forget [(31, _), (29, _), (6, _), (5, _), (4, _), (0, _), (1, _)] ⟨rfl, rfl, rfl, rfl, rfl, rfl, rfl, trivial⟩ ?_
 refine AOps.skip rfl rfl rfl rfl rfl rfl ?_
 refine AOps.step (Val.pickN hσ rfl rfl rfl rfl rfl) rfl rfl rfl ?_
 refine AOps.forget [(33, _), (6, _), (5, _), (4, _), (0, _), (1, _)] ⟨rfl, rfl, rfl, rfl, rfl, rfl, trivial⟩ ?_
 refine AOps.nil ?_
 refine AWP.cond hσ rfl rfl (fun hc33 => ?_) (fun hc33 => ?_)
 ·
  skip
  exact absurd (show false = true from hc33) (by decide)
 ·
  skip
  refine AWP.skip ?_
  refine AWP.seq ?_
  refine AWP.seq ?_
  refine AWP.region ?_
  refine AOps.step (Val.of hσ rfl rfl) rfl rfl rfl ?_
  refine AOps.step (Val.of hσ rfl rfl) rfl rfl rfl ?_
  refine AOps.step (Val.of hσ rfl rfl) rfl rfl rfl ?_
  refine AOps.step (Val.of hσ rfl rfl) rfl rfl rfl ?_
  refine AOps.step (Val.of hσ rfl rfl) rfl rfl rfl ?_
  refine AOps.step (Val.of hσ rfl rfl) rfl rfl rfl ?_
  refine AOps.forget [(39, _), (6, _), (5, _), (4, _), (0, _), (1, _)] ⟨rfl, rfl, rfl, rfl, rfl, rfl, trivial⟩ ?_
  refine AOps.live rfl rfl rfl rfl rfl ?_
  refine AOps.step (Val.of hσ rfl rfl) rfl rfl rfl ?_
  refine AOps.live rfl rfl rfl rfl rfl ?_
  refine AOps.step (Val.of hσ rfl rfl) rfl rfl rfl ?_
  refine AOps.forget [(41, _), (39, _), (6, _), (5, _), (4, _), (0, _), (1, _)] ⟨rfl, rfl, rfl, rfl, rfl, rfl, rfl, trivial⟩ ?_
  refine AOps.live rfl rfl rfl rfl rfl ?_
  refine AOps.step (Val.of hσ rfl rfl) rfl rfl rfl ?_
  refine AOps.forget [(42, _), (39, _), (6, _), (5, _), (4, _), (0, _), (1, _)] ⟨rfl, rfl, rfl, rfl, rfl, rfl, rfl, trivial⟩ ?_
  refine AOps.live rfl rfl rfl rfl rfl ?_
  refine AOps.step (Val.of hσ rfl rfl) rfl rfl rfl ?_
  refine AOps.forget [(43, _), (39, _), (6, _), (5, _), (4, _), (0, _), (1, _)] ⟨rfl, rfl, rfl, rfl, rfl, rfl, rfl, trivial⟩ ?_
  refine AOps.live rfl rfl rfl rfl rfl ?_
  refine AOps.step (Val.of hσ rfl rfl) rfl rfl rfl ?_
  refine AOps.step (Val.pickN hσ rfl rfl rfl rfl rfl) rfl rfl rfl ?_
  refine AOps.step (Val.of hσ rfl rfl) rfl rfl rfl ?_
  refine AOps.forget [(46, _), (6, _), (5, _), (4, _), (0, _), (1, _)] ⟨rfl, rfl, rfl, rfl, rfl, rfl, trivial⟩ ?_
  refine AOps.skip rfl rfl rfl rfl rfl rfl ?_
  refine AOps.skip rfl rfl rfl rfl rfl rfl ?_
  refine AOps.forget [(48, _), (46, _), (6, _), (5, _), (4, _), (0, _), (1, _)] ⟨rfl, rfl, rfl, rfl, rfl, rfl, rfl, trivial⟩ ?_
  refine AOps.skip rfl rfl rfl rfl rfl rfl ?_
  refine AOps.step (Val.pickN hσ rfl rfl rfl rfl rfl) rfl rfl rfl ?_
  refine AOps.forget [(50, _), (6, _), (5, _), (4, _), (0, _), (1, _)] ⟨rfl, rfl, rfl, rfl, rfl, rfl, trivial⟩ ?_
  refine AOps.nil ?_
  refine AWP.cond hσ rfl rfl (fun hc50 => ?_) (fun hc50 => ?_)
  ·
   skip
   exact absurd (show false = true from hc50) (by decide)
  ·
   skip
   refine AWP.skip ?_
   refine AWP.seq ?_
   refine AWP.seq ?_
   refine AWP.region ?_
   refine AOps.step (Val.of hσ rfl rfl) rfl rfl rfl ?_
   refine AOps.step (Val.of hσ rfl rfl) rfl rfl rfl ?_
   refine AOps.step (Val.of hσ rfl rfl) rfl rfl rfl ?_
   refine AOps.step (Val.of hσ rfl rfl) rfl rfl rfl ?_
   refine AOps.forget [(54, _), (6, _), (5, _), (4, _), (0, _), (1, _)] ⟨rfl, rfl, rfl, rfl, rfl, rfl, trivial⟩ ?_
   refine AOps.nil ?_
   refine AWP.block ?_
   refine AWP.seq ?_
   refine AWP.region ?_
   refine AOps.step (Val.of hσ rfl rfl) rfl rfl rfl ?_
   refine AOps.step (Val.of hσ rfl rfl) rfl rfl rfl ?_
   refine AOps.nil ?_
   refine AWP.cond hσ rfl rfl (fun hc55 => ?_) (fun hc55 => ?_)
   ·
    skip
    exact absurd (show false = true from hc55) (by decide)
   ·
    skip
    refine AWP.seq ?_
    refine AWP.region ?_
    refine AOps.step (Val.of hσ rfl rfl) rfl rfl rfl ?_
    refine AOps.step (Val.of hσ rfl rfl) rfl rfl rfl ?_
    refine AOps.forget [(67, _), (56, _), (54, _), (6, _), (5, _), (4, _), (0, _), (1, _)] ⟨rfl, rfl, rfl, rfl, rfl, rfl, rfl, rfl, trivial⟩ ?_
    refine AOps.nil ?_
    refine AWP.cond hσ rfl rfl (fun hc67 => ?_) (fun hc67 => ?_)
    ·
     skip
     exact absurd (show false = true from hc67) (by decide)
    ·
     skip
     refine AWP.seq ?_
     refine AWP.region ?_
     refine AOps.step (Val.of hσ rfl rfl) rfl rfl rfl ?_
     refine AOps.step (Val.of hσ rfl rfl) rfl rfl rfl ?_
     refine AOps.forget [(85, _), (56, _), (54, _), (6, _), (5, _), (4, _), (0, _), (1, _)] ⟨rfl, rfl, rfl, rfl, rfl, rfl, rfl, rfl, trivial⟩ ?_
     refine AOps.nil ?_
     refine AWP.cond hσ rfl rfl (fun hc85 => ?_) (fun hc85 => ?_)
     ·
      skip
      exact absurd (show false = true from hc85) (by decide)
     ·
      skip
      refine AWP.seq ?_
      refine AWP.region ?_
      refine AOps.step (Val.of hσ rfl rfl) rfl rfl rfl ?_
      refine AOps.step (Val.of hσ rfl rfl) rfl rfl rfl ?_
      refine AOps.forget [(94, _), (56, _), (54, _), (6, _), (5, _), (4, _), (0, _), (1, _)] ⟨rfl, rfl, rfl, rfl, rfl, rfl, rfl, rfl, trivial⟩ ?_
      refine AOps.nil ?_
      refine AWP.cond hσ rfl rfl (fun hc94 => ?_) (fun hc94 => ?_)
      ·
       skip
       exact absurd (show false = true from hc94) (by decide)
      ·
       skip
       refine AWP.skip ?_
       refine AWP.seq ?_
       refine AWP.region ?_
       refine AOps.step (Val.of hσ rfl rfl) rfl rfl rfl ?_
       refine AOps.nil ?_
       refine AWP.ret ?_
       skip
       have hrun : stepS ⟨7, vr, ev, su, ix, fa⟩ v c = (0, v, c) := by unfold stepS; rw [if_neg (by decide : ¬ (7 : Int) = 2), if_neg (by decide : ¬ (7 : Int) = 3), if_neg (by decide : ¬ (7 : Int) = 4), if_neg (by decide : ¬ (7 : Int) = 6)]
       refine ⟨.inl rfl, _, Ent.sel [500, 501, 502] rfl rfl (e' := [(4, _)]) ⟨rfl, trivial⟩ rfl, _, rfl, ?_, ?_⟩
       ·
        rw [hrun]; rfl
       ·
        rw [hrun]; rfl
theorem c106_8 {L : Nat} (h1 : 4096 ≤ L) (h2 : L ≤ 1073741824) {vr ev : Int} {su ix : Tm} {fa : List Tm} {v c : List Int} (hst : stmtB ⟨8, vr, ev, su, ix, fa⟩ = true) (hv : numsB v 4 = true) (hc : numsB c 8 = true) : MC Try.prog L 106 [ptr (Sm.cells ⟨8, vr, ev, su, ix, fa⟩), .c (.pt 0 0 0)] (sH v c) (Outs (eI (stepS ⟨8, vr, ev, su, ix, fa⟩ v c).1) (sH (stepS ⟨8, vr, ev, su, ix, fa⟩ v c).2.1 (stepS ⟨8, vr, ev, su, ix, fa⟩ v c).2.2)) := by
 refine MC.shift 500 rfl ?_
 have hσ := SgOk.withIns (js := [500, 501, 502]) (SGok (nt := 98) h1 (Nat.le_trans h2 (by decide)))
 refine MC.bodyH hσ Try.func106 (by kernel_rfl) rfl rfl rfl (Nat.le_of_ble_eq_true rfl) (fun hF => ?_)
 apply AWP.norm
 ·
  repeat' (first | exact q0 rfl | apply q1 rfl | exact q2 rfl | apply q3 rfl | exact q4 rfl | apply q5 rfl | exact q6 rfl | exact q7 rfl | exact q8)
 have hsf := stmt_facts hst
 have hnv : v.length = 4 := by have := (numsB_iff hv).2; omega
 have hnc : c.length = 8 := by have := (numsB_iff hc).2; omega
 refine AWP.seq ?_
 refine AWP.region ?_
 refine AOps.step (Val.of hσ rfl rfl) rfl rfl rfl ?_
 refine AOps.nil ?_
 refine AWP.seq ?_
 refine AWP.region ?_
 refine AOps.step (Val.of hσ rfl rfl) rfl rfl rfl ?_
 refine AOps.step (Val.of hσ rfl rfl) rfl rfl rfl ?_
 refine AOps.step (Val.of hσ rfl rfl) rfl rfl rfl ?_
 refine AOps.step (Val.of hσ rfl rfl) rfl rfl rfl ?_
 refine AOps.forget [(10, _), (9, _), (4, _), (0, _), (1, _)] ⟨rfl, rfl, rfl, rfl, rfl, trivial⟩ ?_
 refine AOps.lone hσ rfl rfl rfl rfl (c107 (t := ix) (vars := v) (cells := c) h1 h2 hsf.2 hv) (.cons (.c (.sub rfl)) (.cons (.c (.pb (cs := [ints v, ints c]) rfl (.cons (.whole rfl (by rw [List.length_map]; exact hnv.symm)) (.cons (.whole rfl (by rw [List.length_map]; exact hnc.symm)) .nil)))) .nil)) rfl rfl rfl rfl rfl (B0 := 12000) rfl ?_
 refine AOps.step (Val.of hσ rfl rfl) rfl rfl rfl ?_
 refine AOps.forget [(5, _), (4, _), (0, _), (1, _)] ⟨rfl, rfl, rfl, rfl, trivial⟩ ?_
 refine AOps.nil ?_
 refine AWP.seq ?_
 refine AWP.region ?_
 refine AOps.step (Val.of hσ rfl rfl) rfl rfl rfl ?_
 refine AOps.step (Val.of hσ rfl rfl) rfl rfl rfl ?_
 refine AOps.step (Val.of hσ rfl rfl) rfl rfl rfl ?_
 refine AOps.step (Val.of hσ rfl rfl) rfl rfl rfl ?_
 refine AOps.forget [(15, _), (14, _), (5, _), (4, _), (0, _), (1, _)] ⟨rfl, rfl, rfl, rfl, rfl, rfl, trivial⟩ ?_
 refine AOps.lone hσ rfl rfl rfl rfl (c107 (t := su) (vars := v) (cells := c) h1 h2 hsf.1 hv) (.cons (.c (.sub rfl)) (.cons (.c (.pb (cs := [ints v, ints c]) rfl (.cons (.whole rfl (by rw [List.length_map]; exact hnv.symm)) (.cons (.whole rfl (by rw [List.length_map]; exact hnc.symm)) .nil)))) .nil)) rfl rfl rfl rfl rfl (B0 := 17000) rfl ?_
 refine AOps.step (Val.of hσ rfl rfl) rfl rfl rfl ?_
 refine AOps.forget [(6, _), (5, _), (4, _), (0, _), (1, _)] ⟨rfl, rfl, rfl, rfl, rfl, trivial⟩ ?_
 refine AOps.nil ?_
 refine AWP.seq ?_
 refine AWP.seq ?_
 refine AWP.region ?_
 refine AOps.step (Val.of hσ rfl rfl) rfl rfl rfl ?_
 refine AOps.step (Val.of hσ rfl rfl) rfl rfl rfl ?_
 refine AOps.step (Val.of hσ rfl rfl) rfl rfl rfl ?_
 refine AOps.step (Val.of hσ rfl rfl) rfl rfl rfl ?_
 refine AOps.step (Val.of hσ rfl rfl) rfl rfl rfl ?_
 refine AOps.step (Val.of hσ rfl rfl) rfl rfl rfl ?_
 refine AOps.forget [(22, _), (6, _), (5, _), (4, _), (0, _), (1, _)] ⟨rfl, rfl, rfl, rfl, rfl, rfl, trivial⟩ ?_
 refine AOps.live rfl rfl rfl rfl rfl ?_
 refine AOps.step (Val.of hσ rfl rfl) rfl rfl rfl ?_
 refine AOps.live rfl rfl rfl rfl rfl ?_
 refine AOps.step (Val.of hσ rfl rfl) rfl rfl rfl ?_
 refine AOps.forget [(24, _), (22, _), (6, _), (5, _), (4, _), (0, _), (1, _)] ⟨rfl, rfl, rfl, rfl, rfl, rfl, rfl, trivial⟩ ?_
 refine AOps.live rfl rfl rfl rfl rfl ?_
 refine AOps.step (Val.of hσ rfl rfl) rfl rfl rfl ?_
 refine AOps.forget [(25, _), (22, _), (6, _), (5, _), (4, _), (0, _), (1, _)] ⟨rfl, rfl, rfl, rfl, rfl, rfl, rfl, trivial⟩ ?_
 refine AOps.live rfl rfl rfl rfl rfl ?_
 refine AOps.step (Val.of hσ rfl rfl) rfl rfl rfl ?_
 refine AOps.forget [(26, _), (22, _), (6, _), (5, _), (4, _), (0, _), (1, _)] ⟨rfl, rfl, rfl, rfl, rfl, rfl, rfl, trivial⟩ ?_
 refine AOps.live rfl rfl rfl rfl rfl ?_
 refine AOps.step (Val.of hσ rfl rfl) rfl rfl rfl ?_
 refine AOps.step (Val.pickN hσ rfl rfl rfl rfl rfl) rfl rfl rfl ?_
 refine AOps.step (Val.of hσ rfl rfl) rfl rfl rfl ?_
 refine AOps.forget [(29, _), (6, _), (5, _), (4, _), (0, _), (1, _)] ⟨rfl, rfl, rfl, rfl, rfl, rfl, trivial⟩ ?_
 refine AOps.skip rfl rfl rfl rfl rfl rfl ?_
 refine AOps.skip rfl rfl rfl rfl rfl rfl ?_
 refine AOps.forget [(31, _), (29, _), (6, _), (5, _), (4, _), (0, _), (1, _)] ⟨rfl, rfl, rfl, rfl, rfl, rfl, rfl, trivial⟩ ?_
 refine AOps.skip rfl rfl rfl rfl rfl rfl ?_
 refine AOps.step (Val.pickN hσ rfl rfl rfl rfl rfl) rfl rfl rfl ?_
 refine AOps.forget [(33, _), (6, _), (5, _), (4, _), (0, _), (1, _)] ⟨rfl, rfl, rfl, rfl, rfl, rfl, trivial⟩ ?_
 refine AOps.nil ?_
 refine AWP.cond hσ rfl rfl (fun hc33 => ?_) (fun hc33 => ?_)
 ·
  skip
  exact absurd (show false = true from hc33) (by decide)
 ·
  skip
  refine AWP.skip ?_
  refine AWP.seq ?_
  refine AWP.seq ?_
  refine AWP.region ?_
  refine AOps.step (Val.of hσ rfl rfl) rfl rfl rfl ?_
  refine AOps.step (Val.of hσ rfl rfl) rfl rfl rfl ?_
  refine AOps.step (Val.of hσ rfl rfl) rfl rfl rfl ?_
  refine AOps.step (Val.of hσ rfl rfl) rfl rfl rfl ?_
  refine AOps.step (Val.of hσ rfl rfl) rfl rfl rfl ?_
  refine AOps.step (Val.of hσ rfl rfl) rfl rfl rfl ?_
  refine AOps.forget [(39, _), (6, _), (5, _), (4, _), (0, _), (1, _)] ⟨rfl, rfl, rfl, rfl, rfl, rfl, trivial⟩ ?_
  refine AOps.live rfl rfl rfl rfl rfl ?_
  refine AOps.step (Val.of hσ rfl rfl) rfl rfl rfl ?_
  refine AOps.live rfl rfl rfl rfl rfl ?_
  refine AOps.step (Val.of hσ rfl rfl) rfl rfl rfl ?_
  refine AOps.forget [(41, _), (39, _), (6, _), (5, _), (4, _), (0, _), (1, _)] ⟨rfl, rfl, rfl, rfl, rfl, rfl, rfl, trivial⟩ ?_
  refine AOps.live rfl rfl rfl rfl rfl ?_
  refine AOps.step (Val.of hσ rfl rfl) rfl rfl rfl ?_
  refine AOps.forget [(42, _), (39, _), (6, _), (5, _), (4, _), (0, _), (1, _)] ⟨rfl, rfl, rfl, rfl, rfl, rfl, rfl, trivial⟩ ?_
  refine AOps.live rfl rfl rfl rfl rfl ?_
  refine AOps.step (Val.of hσ rfl rfl) rfl rfl rfl ?_
  refine AOps.forget [(43, _), (39, _), (6, _), (5, _), (4, _), (0, _), (1, _)] ⟨rfl, rfl, rfl, rfl, rfl, rfl, rfl, trivial⟩ ?_
  refine AOps.live rfl rfl rfl rfl rfl ?_
  refine AOps.step (Val.of hσ rfl rfl) rfl rfl rfl ?_
  refine AOps.step (Val.pickN hσ rfl rfl rfl rfl rfl) rfl rfl rfl ?_
  refine AOps.step (Val.of hσ rfl rfl) rfl rfl rfl ?_
  refine AOps.forget [(46, _), (6, _), (5, _), (4, _), (0, _), (1, _)] ⟨rfl, rfl, rfl, rfl, rfl, rfl, trivial⟩ ?_
  refine AOps.skip rfl rfl rfl rfl rfl rfl ?_
  refine AOps.skip rfl rfl rfl rfl rfl rfl ?_
  refine AOps.forget [(48, _), (46, _), (6, _), (5, _), (4, _), (0, _), (1, _)] ⟨rfl, rfl, rfl, rfl, rfl, rfl, rfl, trivial⟩ ?_
  refine AOps.skip rfl rfl rfl rfl rfl rfl ?_
  refine AOps.step (Val.pickN hσ rfl rfl rfl rfl rfl) rfl rfl rfl ?_
  refine AOps.forget [(50, _), (6, _), (5, _), (4, _), (0, _), (1, _)] ⟨rfl, rfl, rfl, rfl, rfl, rfl, trivial⟩ ?_
  refine AOps.nil ?_
  refine AWP.cond hσ rfl rfl (fun hc50 => ?_) (fun hc50 => ?_)
  ·
   skip
   exact absurd (show false = true from hc50) (by decide)
  ·
   skip
   refine AWP.skip ?_
   refine AWP.seq ?_
   refine AWP.seq ?_
   refine AWP.region ?_
   refine AOps.step (Val.of hσ rfl rfl) rfl rfl rfl ?_
   refine AOps.step (Val.of hσ rfl rfl) rfl rfl rfl ?_
   refine AOps.step (Val.of hσ rfl rfl) rfl rfl rfl ?_
   refine AOps.step (Val.of hσ rfl rfl) rfl rfl rfl ?_
   refine AOps.forget [(54, _), (6, _), (5, _), (4, _), (0, _), (1, _)] ⟨rfl, rfl, rfl, rfl, rfl, rfl, trivial⟩ ?_
   refine AOps.nil ?_
   refine AWP.block ?_
   refine AWP.seq ?_
   refine AWP.region ?_
   refine AOps.step (Val.of hσ rfl rfl) rfl rfl rfl ?_
   refine AOps.step (Val.of hσ rfl rfl) rfl rfl rfl ?_
   refine AOps.nil ?_
   refine AWP.cond hσ rfl rfl (fun hc55 => ?_) (fun hc55 => ?_)
   ·
    skip
    exact absurd (show false = true from hc55) (by decide)
   ·
    skip
    refine AWP.seq ?_
    refine AWP.region ?_
    refine AOps.step (Val.of hσ rfl rfl) rfl rfl rfl ?_
    refine AOps.step (Val.of hσ rfl rfl) rfl rfl rfl ?_
    refine AOps.forget [(67, _), (56, _), (54, _), (6, _), (5, _), (4, _), (0, _), (1, _)] ⟨rfl, rfl, rfl, rfl, rfl, rfl, rfl, rfl, trivial⟩ ?_
    refine AOps.nil ?_
    refine AWP.cond hσ rfl rfl (fun hc67 => ?_) (fun hc67 => ?_)
    ·
     skip
     exact absurd (show false = true from hc67) (by decide)
    ·
     skip
     refine AWP.seq ?_
     refine AWP.region ?_
     refine AOps.step (Val.of hσ rfl rfl) rfl rfl rfl ?_
     refine AOps.step (Val.of hσ rfl rfl) rfl rfl rfl ?_
     refine AOps.forget [(85, _), (56, _), (54, _), (6, _), (5, _), (4, _), (0, _), (1, _)] ⟨rfl, rfl, rfl, rfl, rfl, rfl, rfl, rfl, trivial⟩ ?_
     refine AOps.nil ?_
     refine AWP.cond hσ rfl rfl (fun hc85 => ?_) (fun hc85 => ?_)
     ·
      skip
      exact absurd (show false = true from hc85) (by decide)
     ·
      skip
      refine AWP.seq ?_
      refine AWP.region ?_
      refine AOps.step (Val.of hσ rfl rfl) rfl rfl rfl ?_
      refine AOps.step (Val.of hσ rfl rfl) rfl rfl rfl ?_
      refine AOps.forget [(94, _), (56, _), (54, _), (6, _), (5, _), (4, _), (0, _), (1, _)] ⟨rfl, rfl, rfl, rfl, rfl, rfl, rfl, rfl, trivial⟩ ?_
      refine AOps.nil ?_
      refine AWP.cond hσ rfl rfl (fun hc94 => ?_) (fun hc94 => ?_)
      ·
       skip
       exact absurd (show false = true from hc94) (by decide)
      ·
       skip
       refine AWP.skip ?_
       refine AWP.seq ?_
       refine AWP.region ?_
       refine AOps.step (Val.of hσ rfl rfl) rfl rfl rfl ?_
       refine AOps.nil ?_
       refine AWP.ret ?_
       skip
       have hrun : stepS ⟨8, vr, ev, su, ix, fa⟩ v c = (0, v, c) := by unfold stepS; rw [if_neg (by decide : ¬ (8 : Int) = 2), if_neg (by decide : ¬ (8 : Int) = 3), if_neg (by decide : ¬ (8 : Int) = 4), if_neg (by decide : ¬ (8 : Int) = 6)]
       refine ⟨.inl rfl, _, Ent.sel [500, 501, 502] rfl rfl (e' := [(4, _)]) ⟨rfl, trivial⟩ rfl, _, rfl, ?_, ?_⟩
       ·
        rw [hrun]; rfl
       ·
        rw [hrun]; rfl
theorem c106_6 {L : Nat} (h1 : 4096 ≤ L) (h2 : L ≤ 1073741824) {vr ev : Int} {su ix : Tm} {fa : List Tm} {v c : List Int} (hst : stmtB ⟨6, vr, ev, su, ix, fa⟩ = true) (hv : numsB v 4 = true) (hc : numsB c 8 = true) : MC Try.prog L 106 [ptr (Sm.cells ⟨6, vr, ev, su, ix, fa⟩), .c (.pt 0 0 0)] (sH v c) (Outs (eI (stepS ⟨6, vr, ev, su, ix, fa⟩ v c).1) (sH (stepS ⟨6, vr, ev, su, ix, fa⟩ v c).2.1 (stepS ⟨6, vr, ev, su, ix, fa⟩ v c).2.2)) := by
 refine MC.shift 500 rfl ?_
 have hσ := SgOk.withIns (js := [500, 501, 502]) (SGok (nt := 98) h1 (Nat.le_trans h2 (by decide)))
 refine MC.bodyH hσ Try.func106 (by kernel_rfl) rfl rfl rfl (Nat.le_of_ble_eq_true rfl) (fun hF => ?_)
 apply AWP.norm
 ·
  repeat' (first | exact q0 rfl | apply q1 rfl | exact q2 rfl | apply q3 rfl | exact q4 rfl | apply q5 rfl | exact q6 rfl | exact q7 rfl | exact q8)
 have hsf := stmt_facts hst
 have hnv : v.length = 4 := by have := (numsB_iff hv).2; omega
 have hnc : c.length = 8 := by have := (numsB_iff hc).2; omega
 refine AWP.seq ?_
 refine AWP.region ?_
 refine AOps.step (Val.of hσ rfl rfl) rfl rfl rfl ?_
 refine AOps.nil ?_
 refine AWP.seq ?_
 refine AWP.region ?_
 refine AOps.step (Val.of hσ rfl rfl) rfl rfl rfl ?_
 refine AOps.step (Val.of hσ rfl rfl) rfl rfl rfl ?_
 refine AOps.step (Val.of hσ rfl rfl) rfl rfl rfl ?_
 refine AOps.step (Val.of hσ rfl rfl) rfl rfl rfl ?_
 refine AOps.forget [(10, _), (9, _), (4, _), (0, _), (1, _)] ⟨rfl, rfl, rfl, rfl, rfl, trivial⟩ ?_
 refine AOps.lone hσ rfl rfl rfl rfl (c107 (t := ix) (vars := v) (cells := c) h1 h2 hsf.2 hv) (.cons (.c (.sub rfl)) (.cons (.c (.pb (cs := [ints v, ints c]) rfl (.cons (.whole rfl (by rw [List.length_map]; exact hnv.symm)) (.cons (.whole rfl (by rw [List.length_map]; exact hnc.symm)) .nil)))) .nil)) rfl rfl rfl rfl rfl (B0 := 12000) rfl ?_
 refine AOps.step (Val.of hσ rfl rfl) rfl rfl rfl ?_
 refine AOps.forget [(5, _), (4, _), (0, _), (1, _)] ⟨rfl, rfl, rfl, rfl, trivial⟩ ?_
 refine AOps.nil ?_
 refine AWP.seq ?_
 refine AWP.region ?_
 refine AOps.step (Val.of hσ rfl rfl) rfl rfl rfl ?_
 refine AOps.step (Val.of hσ rfl rfl) rfl rfl rfl ?_
 refine AOps.step (Val.of hσ rfl rfl) rfl rfl rfl ?_
 refine AOps.step (Val.of hσ rfl rfl) rfl rfl rfl ?_
 refine AOps.forget [(15, _), (14, _), (5, _), (4, _), (0, _), (1, _)] ⟨rfl, rfl, rfl, rfl, rfl, rfl, trivial⟩ ?_
 refine AOps.lone hσ rfl rfl rfl rfl (c107 (t := su) (vars := v) (cells := c) h1 h2 hsf.1 hv) (.cons (.c (.sub rfl)) (.cons (.c (.pb (cs := [ints v, ints c]) rfl (.cons (.whole rfl (by rw [List.length_map]; exact hnv.symm)) (.cons (.whole rfl (by rw [List.length_map]; exact hnc.symm)) .nil)))) .nil)) rfl rfl rfl rfl rfl (B0 := 17000) rfl ?_
 refine AOps.step (Val.of hσ rfl rfl) rfl rfl rfl ?_
 refine AOps.forget [(6, _), (5, _), (4, _), (0, _), (1, _)] ⟨rfl, rfl, rfl, rfl, rfl, trivial⟩ ?_
 refine AOps.nil ?_
 refine AWP.seq ?_
 refine AWP.seq ?_
 refine AWP.region ?_
 refine AOps.step (Val.of hσ rfl rfl) rfl rfl rfl ?_
 refine AOps.step (Val.of hσ rfl rfl) rfl rfl rfl ?_
 refine AOps.step (Val.of hσ rfl rfl) rfl rfl rfl ?_
 refine AOps.step (Val.of hσ rfl rfl) rfl rfl rfl ?_
 refine AOps.step (Val.of hσ rfl rfl) rfl rfl rfl ?_
 refine AOps.step (Val.of hσ rfl rfl) rfl rfl rfl ?_
 refine AOps.forget [(22, _), (6, _), (5, _), (4, _), (0, _), (1, _)] ⟨rfl, rfl, rfl, rfl, rfl, rfl, trivial⟩ ?_
 refine AOps.live rfl rfl rfl rfl rfl ?_
 refine AOps.step (Val.of hσ rfl rfl) rfl rfl rfl ?_
 refine AOps.live rfl rfl rfl rfl rfl ?_
 refine AOps.step (Val.of hσ rfl rfl) rfl rfl rfl ?_
 refine AOps.forget [(24, _), (22, _), (6, _), (5, _), (4, _), (0, _), (1, _)] ⟨rfl, rfl, rfl, rfl, rfl, rfl, rfl, trivial⟩ ?_
 refine AOps.live rfl rfl rfl rfl rfl ?_
 refine AOps.step (Val.of hσ rfl rfl) rfl rfl rfl ?_
 refine AOps.forget [(25, _), (22, _), (6, _), (5, _), (4, _), (0, _), (1, _)] ⟨rfl, rfl, rfl, rfl, rfl, rfl, rfl, trivial⟩ ?_
 refine AOps.live rfl rfl rfl rfl rfl ?_
 refine AOps.step (Val.of hσ rfl rfl) rfl rfl rfl ?_
 refine AOps.forget [(26, _), (22, _), (6, _), (5, _), (4, _), (0, _), (1, _)] ⟨rfl, rfl, rfl, rfl, rfl, rfl, rfl, trivial⟩ ?_
 refine AOps.live rfl rfl rfl rfl rfl ?_
 refine AOps.step (Val.of hσ rfl rfl) rfl rfl rfl ?_
 refine AOps.step (Val.pickN hσ rfl rfl rfl rfl rfl) rfl rfl rfl ?_
 refine AOps.step (Val.of hσ rfl rfl) rfl rfl rfl ?_
 refine AOps.forget [(29, _), (6, _), (5, _), (4, _), (0, _), (1, _)] ⟨rfl, rfl, rfl, rfl, rfl, rfl, trivial⟩ ?_
 refine AOps.skip rfl rfl rfl rfl rfl rfl ?_
 refine AOps.skip rfl rfl rfl rfl rfl rfl ?_
 refine AOps.forget [(31, _), (29, _), (6, _), (5, _), (4, _), (0, _), (1, _)] ⟨rfl, rfl, rfl, rfl, rfl, rfl, rfl, trivial⟩ ?_
 refine AOps.skip rfl rfl rfl rfl rfl rfl ?_
 refine AOps.step (Val.pickN hσ rfl rfl rfl rfl rfl) rfl rfl rfl ?_
 refine AOps.forget [(33, _), (6, _), (5, _), (4, _), (0, _), (1, _)] ⟨rfl, rfl, rfl, rfl, rfl, rfl, trivial⟩ ?_
 refine AOps.nil ?_
 refine AWP.cond hσ rfl rfl (fun hc33 => ?_) (fun hc33 => ?_)
 ·
  skip
  exact absurd (show false = true from hc33) (by decide)
 ·
  skip
  refine AWP.skip ?_
  refine AWP.seq ?_
  refine AWP.seq ?_
  refine AWP.region ?_
  refine AOps.step (Val.of hσ rfl rfl) rfl rfl rfl ?_
  refine AOps.step (Val.of hσ rfl rfl) rfl rfl rfl ?_
  refine AOps.step (Val.of hσ rfl rfl) rfl rfl rfl ?_
  refine AOps.step (Val.of hσ rfl rfl) rfl rfl rfl ?_
  refine AOps.step (Val.of hσ rfl rfl) rfl rfl rfl ?_
  refine AOps.step (Val.of hσ rfl rfl) rfl rfl rfl ?_
  refine AOps.forget [(39, _), (6, _), (5, _), (4, _), (0, _), (1, _)] ⟨rfl, rfl, rfl, rfl, rfl, rfl, trivial⟩ ?_
  refine AOps.live rfl rfl rfl rfl rfl ?_
  refine AOps.step (Val.of hσ rfl rfl) rfl rfl rfl ?_
  refine AOps.live rfl rfl rfl rfl rfl ?_
  refine AOps.step (Val.of hσ rfl rfl) rfl rfl rfl ?_
  refine AOps.forget [(41, _), (39, _), (6, _), (5, _), (4, _), (0, _), (1, _)] ⟨rfl, rfl, rfl, rfl, rfl, rfl, rfl, trivial⟩ ?_
  refine AOps.live rfl rfl rfl rfl rfl ?_
  refine AOps.step (Val.of hσ rfl rfl) rfl rfl rfl ?_
  refine AOps.forget [(42, _), (39, _), (6, _), (5, _), (4, _), (0, _), (1, _)] ⟨rfl, rfl, rfl, rfl, rfl, rfl, rfl, trivial⟩ ?_
  refine AOps.live rfl rfl rfl rfl rfl ?_
  refine AOps.step (Val.of hσ rfl rfl) rfl rfl rfl ?_
  refine AOps.forget [(43, _), (39, _), (6, _), (5, _), (4, _), (0, _), (1, _)] ⟨rfl, rfl, rfl, rfl, rfl, rfl, rfl, trivial⟩ ?_
  refine AOps.live rfl rfl rfl rfl rfl ?_
  refine AOps.step (Val.of hσ rfl rfl) rfl rfl rfl ?_
  refine AOps.step (Val.pickN hσ rfl rfl rfl rfl rfl) rfl rfl rfl ?_
  refine AOps.step (Val.of hσ rfl rfl) rfl rfl rfl ?_
  refine AOps.forget [(46, _), (6, _), (5, _), (4, _), (0, _), (1, _)] ⟨rfl, rfl, rfl, rfl, rfl, rfl, trivial⟩ ?_
  refine AOps.skip rfl rfl rfl rfl rfl rfl ?_
  refine AOps.skip rfl rfl rfl rfl rfl rfl ?_
  refine AOps.forget [(48, _), (46, _), (6, _), (5, _), (4, _), (0, _), (1, _)] ⟨rfl, rfl, rfl, rfl, rfl, rfl, rfl, trivial⟩ ?_
  refine AOps.skip rfl rfl rfl rfl rfl rfl ?_
  refine AOps.step (Val.pickN hσ rfl rfl rfl rfl rfl) rfl rfl rfl ?_
  refine AOps.forget [(50, _), (6, _), (5, _), (4, _), (0, _), (1, _)] ⟨rfl, rfl, rfl, rfl, rfl, rfl, trivial⟩ ?_
  refine AOps.nil ?_
  refine AWP.cond hσ rfl rfl (fun hc50 => ?_) (fun hc50 => ?_)
  ·
   skip
   exact absurd (show false = true from hc50) (by decide)
  ·
   skip
   refine AWP.skip ?_
   refine AWP.seq ?_
   refine AWP.seq ?_
   refine AWP.region ?_
   refine AOps.step (Val.of hσ rfl rfl) rfl rfl rfl ?_
   refine AOps.step (Val.of hσ rfl rfl) rfl rfl rfl ?_
   refine AOps.step (Val.of hσ rfl rfl) rfl rfl rfl ?_
   refine AOps.step (Val.of hσ rfl rfl) rfl rfl rfl ?_
   refine AOps.forget [(54, _), (6, _), (5, _), (4, _), (0, _), (1, _)] ⟨rfl, rfl, rfl, rfl, rfl, rfl, trivial⟩ ?_
   refine AOps.nil ?_
   refine AWP.block ?_
   refine AWP.seq ?_
   refine AWP.region ?_
   refine AOps.step (Val.of hσ rfl rfl) rfl rfl rfl ?_
   refine AOps.step (Val.of hσ rfl rfl) rfl rfl rfl ?_
   refine AOps.nil ?_
   refine AWP.cond hσ rfl rfl (fun hc55 => ?_) (fun hc55 => ?_)
   ·
    skip
    exact absurd (show false = true from hc55) (by decide)
   ·
    skip
    refine AWP.seq ?_
    refine AWP.region ?_
    refine AOps.step (Val.of hσ rfl rfl) rfl rfl rfl ?_
    refine AOps.step (Val.of hσ rfl rfl) rfl rfl rfl ?_
    refine AOps.forget [(67, _), (56, _), (54, _), (6, _), (5, _), (4, _), (0, _), (1, _)] ⟨rfl, rfl, rfl, rfl, rfl, rfl, rfl, rfl, trivial⟩ ?_
    refine AOps.nil ?_
    refine AWP.cond hσ rfl rfl (fun hc67 => ?_) (fun hc67 => ?_)
    ·
     skip
     exact absurd (show false = true from hc67) (by decide)
    ·
     skip
     refine AWP.seq ?_
     refine AWP.region ?_
     refine AOps.step (Val.of hσ rfl rfl) rfl rfl rfl ?_
     refine AOps.step (Val.of hσ rfl rfl) rfl rfl rfl ?_
     refine AOps.forget [(85, _), (56, _), (54, _), (6, _), (5, _), (4, _), (0, _), (1, _)] ⟨rfl, rfl, rfl, rfl, rfl, rfl, rfl, rfl, trivial⟩ ?_
     refine AOps.nil ?_
     refine AWP.cond hσ rfl rfl (fun hc85 => ?_) (fun hc85 => ?_)
     ·
      skip
      exact absurd (show false = true from hc85) (by decide)
     ·
      skip
      refine AWP.seq ?_
      refine AWP.region ?_
      refine AOps.step (Val.of hσ rfl rfl) rfl rfl rfl ?_
      refine AOps.step (Val.of hσ rfl rfl) rfl rfl rfl ?_
      refine AOps.forget [(94, _), (56, _), (54, _), (6, _), (5, _), (4, _), (0, _), (1, _)] ⟨rfl, rfl, rfl, rfl, rfl, rfl, rfl, rfl, trivial⟩ ?_
      refine AOps.nil ?_
      refine AWP.cond hσ rfl rfl (fun hc94 => ?_) (fun hc94 => ?_)
      ·
       skip
       refine AWP.seq ?_
       refine AWP.region ?_
       refine AOps.step (Val.of hσ rfl rfl) rfl rfl rfl ?_
       refine AOps.step (Val.of hσ rfl rfl) rfl rfl rfl ?_
       refine AOps.forget [(97, _), (56, _), (54, _), (6, _), (5, _), (4, _), (0, _), (1, _)] ⟨rfl, rfl, rfl, rfl, rfl, rfl, rfl, rfl, trivial⟩ ?_
       refine AOps.nil ?_
       refine AWP.cond hσ rfl rfl (fun hc97 => ?_) (fun hc97 => ?_)
       ·
        skip
        refine AWP.seq ?_
        refine AWP.region ?_
        refine AOps.step (Val.of hσ rfl rfl) rfl rfl rfl ?_
        refine AOps.nil ?_
        refine AWP.ret ?_
        skip
        have hrun : stepS ⟨6, vr, ev, su, ix, fa⟩ v c = (3, v, c) := by unfold stepS; rw [if_neg (by decide : ¬ (6 : Int) = 2), if_neg (by decide : ¬ (6 : Int) = 3), if_neg (by decide : ¬ (6 : Int) = 4), if_pos rfl, if_pos (of_decide_eq_true hc97)]
        refine ⟨.inl rfl, _, Ent.sel [500, 501, 502] rfl rfl (e' := [(4, _)]) ⟨rfl, trivial⟩ rfl, _, rfl, ?_, ?_⟩
        ·
         rw [hrun]; rfl
        ·
         rw [hrun]; rfl
       ·
        skip
        refine AWP.skip ?_
        refine AWP.seq ?_
        refine AWP.region ?_
        refine AOps.step (Val.of hσ rfl rfl) rfl rfl rfl ?_
        refine AOps.nil ?_
        refine AWP.ret ?_
        skip
        have hrun : stepS ⟨6, vr, ev, su, ix, fa⟩ v c = (0, v, c) := by unfold stepS; rw [if_neg (by decide : ¬ (6 : Int) = 2), if_neg (by decide : ¬ (6 : Int) = 3), if_neg (by decide : ¬ (6 : Int) = 4), if_pos rfl, if_neg (of_decide_eq_false hc97)]
        refine ⟨.inl rfl, _, Ent.sel [500, 501, 502] rfl rfl (e' := [(4, _)]) ⟨rfl, trivial⟩ rfl, _, rfl, ?_, ?_⟩
        ·
         rw [hrun]; rfl
        ·
         rw [hrun]; rfl
      ·
       skip
       exact absurd (show true = false from hc94) (by decide)
theorem c106_2 {L : Nat} (h1 : 4096 ≤ L) (h2 : L ≤ 1073741824) {vr ev : Int} {su ix : Tm} {fa : List Tm} {v c : List Int} (hst : stmtB ⟨2, vr, ev, su, ix, fa⟩ = true) (hv : numsB v 4 = true) (hc : numsB c 8 = true) : MC Try.prog L 106 [ptr (Sm.cells ⟨2, vr, ev, su, ix, fa⟩), .c (.pt 0 0 0)] (sH v c) (Outs (eI (stepS ⟨2, vr, ev, su, ix, fa⟩ v c).1) (sH (stepS ⟨2, vr, ev, su, ix, fa⟩ v c).2.1 (stepS ⟨2, vr, ev, su, ix, fa⟩ v c).2.2)) := by
 refine MC.shift 500 rfl ?_
 have hσ := SgOk.withIns (js := [500, 501, 502]) (SGok (nt := 98) h1 (Nat.le_trans h2 (by decide)))
 refine MC.bodyH hσ Try.func106 (by kernel_rfl) rfl rfl rfl (Nat.le_of_ble_eq_true rfl) (fun hF => ?_)
 apply AWP.norm
 ·
  repeat' (first | exact q0 rfl | apply q1 rfl | exact q2 rfl | apply q3 rfl | exact q4 rfl | apply q5 rfl | exact q6 rfl | exact q7 rfl | exact q8)
 have hsf := stmt_facts hst
 have hnv : v.length = 4 := by have := (numsB_iff hv).2; omega
 have hnc : c.length = 8 := by have := (numsB_iff hc).2; omega
 refine AWP.seq ?_
 refine AWP.region ?_
 refine AOps.step (Val.of hσ rfl rfl) rfl rfl rfl ?_
 refine AOps.nil ?_
 refine AWP.seq ?_
 refine AWP.region ?_
 refine AOps.step (Val.of hσ rfl rfl) rfl rfl rfl ?_
 refine AOps.step (Val.of hσ rfl rfl) rfl rfl rfl ?_
 refine AOps.step (Val.of hσ rfl rfl) rfl rfl rfl ?_
 refine AOps.step (Val.of hσ rfl rfl) rfl rfl rfl ?_
 refine AOps.forget [(10, _), (9, _), (4, _), (0, _), (1, _)] ⟨rfl, rfl, rfl, rfl, rfl, trivial⟩ ?_
 refine AOps.lone hσ rfl rfl rfl rfl (c107 (t := ix) (vars := v) (cells := c) h1 h2 hsf.2 hv) (.cons (.c (.sub rfl)) (.cons (.c (.pb (cs := [ints v, ints c]) rfl (.cons (.whole rfl (by rw [List.length_map]; exact hnv.symm)) (.cons (.whole rfl (by rw [List.length_map]; exact hnc.symm)) .nil)))) .nil)) rfl rfl rfl rfl rfl (B0 := 12000) rfl ?_
 refine AOps.step (Val.of hσ rfl rfl) rfl rfl rfl ?_
 refine AOps.forget [(5, _), (4, _), (0, _), (1, _)] ⟨rfl, rfl, rfl, rfl, trivial⟩ ?_
 refine AOps.nil ?_
 refine AWP.seq ?_
 refine AWP.region ?_
 refine AOps.step (Val.of hσ rfl rfl) rfl rfl rfl ?_
 refine AOps.step (Val.of hσ rfl rfl) rfl rfl rfl ?_
 refine AOps.step (Val.of hσ rfl rfl) rfl rfl rfl ?_
 refine AOps.step (Val.of hσ rfl rfl) rfl rfl rfl ?_
 refine AOps.forget [(15, _), (14, _), (5, _), (4, _), (0, _), (1, _)] ⟨rfl, rfl, rfl, rfl, rfl, rfl, trivial⟩ ?_
 refine AOps.lone hσ rfl rfl rfl rfl (c107 (t := su) (vars := v) (cells := c) h1 h2 hsf.1 hv) (.cons (.c (.sub rfl)) (.cons (.c (.pb (cs := [ints v, ints c]) rfl (.cons (.whole rfl (by rw [List.length_map]; exact hnv.symm)) (.cons (.whole rfl (by rw [List.length_map]; exact hnc.symm)) .nil)))) .nil)) rfl rfl rfl rfl rfl (B0 := 17000) rfl ?_
 refine AOps.step (Val.of hσ rfl rfl) rfl rfl rfl ?_
 refine AOps.forget [(6, _), (5, _), (4, _), (0, _), (1, _)] ⟨rfl, rfl, rfl, rfl, rfl, trivial⟩ ?_
 refine AOps.nil ?_
 refine AWP.seq ?_
 refine AWP.seq ?_
 refine AWP.region ?_
 refine AOps.step (Val.of hσ rfl rfl) rfl rfl rfl ?_
 refine AOps.step (Val.of hσ rfl rfl) rfl rfl rfl ?_
 refine AOps.step (Val.of hσ rfl rfl) rfl rfl rfl ?_
 refine AOps.step (Val.of hσ rfl rfl) rfl rfl rfl ?_
 refine AOps.step (Val.of hσ rfl rfl) rfl rfl rfl ?_
 refine AOps.step (Val.of hσ rfl rfl) rfl rfl rfl ?_
 refine AOps.forget [(22, _), (6, _), (5, _), (4, _), (0, _), (1, _)] ⟨rfl, rfl, rfl, rfl, rfl, rfl, trivial⟩ ?_
 refine AOps.live rfl rfl rfl rfl rfl ?_
 refine AOps.step (Val.of hσ rfl rfl) rfl rfl rfl ?_
 refine AOps.live rfl rfl rfl rfl rfl ?_
 refine AOps.step (Val.of hσ rfl rfl) rfl rfl rfl ?_
 refine AOps.forget [(24, _), (22, _), (6, _), (5, _), (4, _), (0, _), (1, _)] ⟨rfl, rfl, rfl, rfl, rfl, rfl, rfl, trivial⟩ ?_
 refine AOps.live rfl rfl rfl rfl rfl ?_
 refine AOps.step (Val.of hσ rfl rfl) rfl rfl rfl ?_
 refine AOps.forget [(25, _), (22, _), (6, _), (5, _), (4, _), (0, _), (1, _)] ⟨rfl, rfl, rfl, rfl, rfl, rfl, rfl, trivial⟩ ?_
 refine AOps.live rfl rfl rfl rfl rfl ?_
 refine AOps.step (Val.of hσ rfl rfl) rfl rfl rfl ?_
 refine AOps.forget [(26, _), (22, _), (6, _), (5, _), (4, _), (0, _), (1, _)] ⟨rfl, rfl, rfl, rfl, rfl, rfl, rfl, trivial⟩ ?_
 refine AOps.live rfl rfl rfl rfl rfl ?_
 refine AOps.step (Val.of hσ rfl rfl) rfl rfl rfl ?_
 refine AOps.step (Val.pickN hσ rfl rfl rfl rfl rfl) rfl rfl rfl ?_
 refine AOps.step (Val.of hσ rfl rfl) rfl rfl rfl ?_
 refine AOps.forget [(29, _), (6, _), (5, _), (4, _), (0, _), (1, _)] ⟨rfl, rfl, rfl, rfl, rfl, rfl, trivial⟩ ?_
 refine AOps.skip rfl rfl rfl rfl rfl rfl ?_
 refine AOps.skip rfl rfl rfl rfl rfl rfl ?_
 refine AOps.forget [(31, _), (29, _), (6, _), (5, _), (4, _), (0, _), (1, _)] ⟨rfl, rfl, rfl, rfl, rfl, rfl, rfl, trivial⟩ ?_
 refine AOps.skip rfl rfl rfl rfl rfl rfl ?_
 refine AOps.step (Val.pickN hσ rfl rfl rfl rfl rfl) rfl rfl rfl ?_
 refine AOps.forget [(33, _), (6, _), (5, _), (4, _), (0, _), (1, _)] ⟨rfl, rfl, rfl, rfl, rfl, rfl, trivial⟩ ?_
 refine AOps.nil ?_
 refine AWP.cond hσ rfl rfl (fun hc33 => ?_) (fun hc33 => ?_)
 ·
  skip
  exact absurd (show false = true from hc33) (by decide)
 ·
  skip
  refine AWP.skip ?_
  refine AWP.seq ?_
  refine AWP.seq ?_
  refine AWP.region ?_
  refine AOps.step (Val.of hσ rfl rfl) rfl rfl rfl ?_
  refine AOps.step (Val.of hσ rfl rfl) rfl rfl rfl ?_
  refine AOps.step (Val.of hσ rfl rfl) rfl rfl rfl ?_
  refine AOps.step (Val.of hσ rfl rfl) rfl rfl rfl ?_
  refine AOps.step (Val.of hσ rfl rfl) rfl rfl rfl ?_
  refine AOps.step (Val.of hσ rfl rfl) rfl rfl rfl ?_
  refine AOps.forget [(39, _), (6, _), (5, _), (4, _), (0, _), (1, _)] ⟨rfl, rfl, rfl, rfl, rfl, rfl, trivial⟩ ?_
  refine AOps.skip rfl rfl rfl rfl rfl rfl ?_
  refine AOps.skip rfl rfl rfl rfl rfl rfl ?_
  refine AOps.forget [(41, _), (39, _), (6, _), (5, _), (4, _), (0, _), (1, _)] ⟨rfl, rfl, rfl, rfl, rfl, rfl, rfl, trivial⟩ ?_
  refine AOps.skip rfl rfl rfl rfl rfl rfl ?_
  refine AOps.forget [(42, _), (39, _), (6, _), (5, _), (4, _), (0, _), (1, _)] ⟨rfl, rfl, rfl, rfl, rfl, rfl, rfl, trivial⟩ ?_
  refine AOps.skip rfl rfl rfl rfl rfl rfl ?_
  refine AOps.forget [(43, _), (39, _), (6, _), (5, _), (4, _), (0, _), (1, _)] ⟨rfl, rfl, rfl, rfl, rfl, rfl, rfl, trivial⟩ ?_
  refine AOps.skip rfl rfl rfl rfl rfl rfl ?_
  refine AOps.step (Val.pickY hσ rfl rfl rfl rfl rfl) rfl rfl rfl ?_
  refine AOps.step (Val.of hσ rfl rfl) rfl rfl rfl ?_
  refine AOps.forget [(46, _), (6, _), (5, _), (4, _), (0, _), (1, _)] ⟨rfl, rfl, rfl, rfl, rfl, rfl, trivial⟩ ?_
  refine AOps.live rfl rfl rfl rfl rfl ?_
  refine AOps.step (Val.of hσ rfl rfl) rfl rfl rfl ?_
  refine AOps.live rfl rfl rfl rfl rfl ?_
  refine AOps.lone hσ rfl rfl rfl rfl (c154 h1 h2) (VAs.self rfl) rfl rfl rfl rfl rfl (B0 := 49000) rfl ?_
  refine AOps.forget [(48, _), (46, _), (6, _), (5, _), (4, _), (0, _), (1, _)] ⟨rfl, rfl, rfl, rfl, rfl, rfl, rfl, trivial⟩ ?_
  refine AOps.live rfl rfl rfl rfl rfl ?_
  refine AOps.step (Val.of hσ rfl rfl) rfl rfl rfl ?_
  refine AOps.step (Val.pickY hσ rfl rfl rfl rfl rfl) rfl rfl rfl ?_
  refine AOps.forget [(50, _), (6, _), (5, _), (4, _), (0, _), (1, _)] ⟨rfl, rfl, rfl, rfl, rfl, rfl, trivial⟩ ?_
  refine AOps.nil ?_
  refine AWP.cond hσ rfl rfl (fun hc50 => ?_) (fun hc50 => ?_)
  ·
   skip
   refine AWP.seq ?_
   refine AWP.region ?_
   refine AOps.step (Val.of hσ rfl rfl) rfl rfl rfl ?_
   refine AOps.nil ?_
   refine AWP.ret ?_
   have hb50 : big (evalT su v) = false := by have h9 : (!big (evalT su v)) = true := hc50; cases h : big (evalT su v) with | false => rfl | true => rw [h] at h9; exact absurd h9 (by decide)
   have hrun : stepS ⟨2, vr, ev, su, ix, fa⟩ v c = (4, v, c) := by unfold stepS; rw [if_pos rfl, if_neg (show ¬ big (evalT su v) = true by rw [hb50]; decide)]
   refine ⟨.inl rfl, _, Ent.sel [500, 501, 502] rfl rfl (e' := [(4, _)]) ⟨rfl, trivial⟩ rfl, _, rfl, ?_, ?_⟩
   ·
    rw [hrun]; rfl
   ·
    rw [hrun]; rfl
  ·
   skip
   refine AWP.skip ?_
   refine AWP.seq ?_
   refine AWP.seq ?_
   refine AWP.region ?_
   have hb50 : big (evalT su v) = true := by have h9 : (!big (evalT su v)) = false := hc50; cases h : big (evalT su v) with | true => rfl | false => rw [h] at h9; exact absurd h9 (by decide)
   have hva := stmt_var hst rfl
   have hv1 : 0 ≤ vr := hva.1
   have hv2 : vr ≤ 3 := hva.2
   refine AOps.step (Val.of hσ rfl rfl) rfl rfl rfl ?_
   refine AOps.step (Val.of hσ rfl rfl) rfl rfl rfl ?_
   refine AOps.step (Val.of hσ rfl rfl) rfl rfl rfl ?_
   refine AOps.step (Val.of hσ rfl rfl) rfl rfl rfl ?_
   refine AOps.forget [(54, _), (6, _), (5, _), (4, _), (0, _), (1, _)] ⟨rfl, rfl, rfl, rfl, rfl, rfl, trivial⟩ ?_
   refine AOps.nil ?_
   refine AWP.block ?_
   refine AWP.seq ?_
   refine AWP.region ?_
   refine AOps.step (Val.of hσ rfl rfl) rfl rfl rfl ?_
   refine AOps.step (Val.of hσ rfl rfl) rfl rfl rfl ?_
   refine AOps.nil ?_
   refine AWP.cond hσ rfl rfl (fun hc55 => ?_) (fun hc55 => ?_)
   ·
    skip
    refine AWP.forget [(56, _), (54, _), (6, _), (5, _), (4, _), (0, _), (1, _)] ⟨rfl, rfl, rfl, rfl, rfl, rfl, rfl, trivial⟩ ?_
    refine AWP.drawR hσ _ [_, _, _, _, _, _, _, _, _, _, _] [⟨[], 0, 0, none⟩, ⟨[0], 0, 0, none⟩, ⟨[0, 1], 0, 0, none⟩, ⟨[0, 1, 2], 0, 0, none⟩, ⟨[], 0, 0, none⟩, ⟨[4], 0, 0, none⟩, ⟨[4, 5], 0, 0, none⟩, ⟨[4, 5, 6], 0, 0, none⟩, ⟨[], 0, 0, none⟩, ⟨[0, 1, 2, 3, 4, 5, 6, 7, 8], 0, 0, none⟩, ⟨[0, 1, 2, 3, 4, 5, 6, 7, 8, 9], 0, 0, some 0⟩] [10] [_, _] rfl rfl (by decide) (by decide) (by kernel_rfl) (And.intro (Val.of hσ rfl rfl) (And.intro (Val.of hσ rfl rfl) (And.intro (Val.of hσ rfl rfl) (And.intro (Val.of hσ rfl rfl) (And.intro (Val.of hσ rfl rfl) (And.intro (Val.of hσ rfl rfl) (And.intro (Val.of hσ rfl rfl) (And.intro (Val.of hσ rfl rfl) (And.intro (Val.of hσ rfl rfl) (And.intro (Val.vif hσ rfl rfl (by first | omega | (simp at *; omega))) (And.intro (Eff.storeRow (ex := [.int .i64 (v.getD vr.toNat default)]) (xs' := (v.set vr.toNat (evalT su v)).map fun n => [.int .i64 n]) hσ rfl rfl rfl rfl rfl rfl rfl rfl rfl rfl rfl rfl rfl rfl rfl (by simp [show vr.toNat < v.length by omega]) (by simp [List.map_set]) rfl) trivial))))))))))) ?_
    refine AWP.forget [(56, _), (54, _), (6, _), (5, _), (4, _), (0, _), (1, _)] ⟨rfl, rfl, rfl, rfl, rfl, rfl, rfl, trivial⟩ ?_
    apply AWP.norm
    ·
     repeat' (first | exact q0 rfl | apply q1 rfl | exact q2 rfl | apply q3 rfl | exact q4 rfl | apply q5 rfl | exact q6 rfl | exact q7 rfl | exact q8)
    refine AWP.seq ?_
    refine AWP.region ?_
    refine AOps.step (Val.of hσ rfl rfl) rfl rfl rfl ?_
    refine AOps.nil ?_
    refine AWP.ret ?_
    skip
    have hrun : stepS ⟨2, vr, ev, su, ix, fa⟩ v c = (0, v.set vr.toNat (evalT su v), c) := by unfold stepS; rw [if_pos rfl, if_pos (show big (evalT su v) = true from hb50)]
    refine ⟨.inl rfl, _, Ent.sel [500, 501, 502] rfl rfl (e' := [(4, _)]) ⟨rfl, trivial⟩ rfl, _, rfl, ?_, ?_⟩
    ·
     rw [hrun]; rfl
    ·
     rw [hrun]; rfl
   ·
    skip
    exact absurd (show true = false from hc55) (by decide)
theorem c106_3 {L : Nat} (h1 : 4096 ≤ L) (h2 : L ≤ 1073741824) {vr ev : Int} {su ix : Tm} {fa : List Tm} {v c : List Int} (hst : stmtB ⟨3, vr, ev, su, ix, fa⟩ = true) (hv : numsB v 4 = true) (hc : numsB c 8 = true) : MC Try.prog L 106 [ptr (Sm.cells ⟨3, vr, ev, su, ix, fa⟩), .c (.pt 0 0 0)] (sH v c) (Outs (eI (stepS ⟨3, vr, ev, su, ix, fa⟩ v c).1) (sH (stepS ⟨3, vr, ev, su, ix, fa⟩ v c).2.1 (stepS ⟨3, vr, ev, su, ix, fa⟩ v c).2.2)) := by
 refine MC.shift 500 rfl ?_
 have hσ := SgOk.withIns (js := [500, 501, 502]) (SGok (nt := 98) h1 (Nat.le_trans h2 (by decide)))
 refine MC.bodyH hσ Try.func106 (by kernel_rfl) rfl rfl rfl (Nat.le_of_ble_eq_true rfl) (fun hF => ?_)
 apply AWP.norm
 ·
  repeat' (first | exact q0 rfl | apply q1 rfl | exact q2 rfl | apply q3 rfl | exact q4 rfl | apply q5 rfl | exact q6 rfl | exact q7 rfl | exact q8)
 have hsf := stmt_facts hst
 have hnv : v.length = 4 := by have := (numsB_iff hv).2; omega
 have hnc : c.length = 8 := by have := (numsB_iff hc).2; omega
 refine AWP.seq ?_
 refine AWP.region ?_
 refine AOps.step (Val.of hσ rfl rfl) rfl rfl rfl ?_
 refine AOps.nil ?_
 refine AWP.seq ?_
 refine AWP.region ?_
 refine AOps.step (Val.of hσ rfl rfl) rfl rfl rfl ?_
 refine AOps.step (Val.of hσ rfl rfl) rfl rfl rfl ?_
 refine AOps.step (Val.of hσ rfl rfl) rfl rfl rfl ?_
 refine AOps.step (Val.of hσ rfl rfl) rfl rfl rfl ?_
 refine AOps.forget [(10, _), (9, _), (4, _), (0, _), (1, _)] ⟨rfl, rfl, rfl, rfl, rfl, trivial⟩ ?_
 refine AOps.lone hσ rfl rfl rfl rfl (c107 (t := ix) (vars := v) (cells := c) h1 h2 hsf.2 hv) (.cons (.c (.sub rfl)) (.cons (.c (.pb (cs := [ints v, ints c]) rfl (.cons (.whole rfl (by rw [List.length_map]; exact hnv.symm)) (.cons (.whole rfl (by rw [List.length_map]; exact hnc.symm)) .nil)))) .nil)) rfl rfl rfl rfl rfl (B0 := 12000) rfl ?_
 refine AOps.step (Val.of hσ rfl rfl) rfl rfl rfl ?_
 refine AOps.forget [(5, _), (4, _), (0, _), (1, _)] ⟨rfl, rfl, rfl, rfl, trivial⟩ ?_
 refine AOps.nil ?_
 refine AWP.seq ?_
 refine AWP.region ?_
 refine AOps.step (Val.of hσ rfl rfl) rfl rfl rfl ?_
 refine AOps.step (Val.of hσ rfl rfl) rfl rfl rfl ?_
 refine AOps.step (Val.of hσ rfl rfl) rfl rfl rfl ?_
 refine AOps.step (Val.of hσ rfl rfl) rfl rfl rfl ?_
 refine AOps.forget [(15, _), (14, _), (5, _), (4, _), (0, _), (1, _)] ⟨rfl, rfl, rfl, rfl, rfl, rfl, trivial⟩ ?_
 refine AOps.lone hσ rfl rfl rfl rfl (c107 (t := su) (vars := v) (cells := c) h1 h2 hsf.1 hv) (.cons (.c (.sub rfl)) (.cons (.c (.pb (cs := [ints v, ints c]) rfl (.cons (.whole rfl (by rw [List.length_map]; exact hnv.symm)) (.cons (.whole rfl (by rw [List.length_map]; exact hnc.symm)) .nil)))) .nil)) rfl rfl rfl rfl rfl (B0 := 17000) rfl ?_
 refine AOps.step (Val.of hσ rfl rfl) rfl rfl rfl ?_
 refine AOps.forget [(6, _), (5, _), (4, _), (0, _), (1, _)] ⟨rfl, rfl, rfl, rfl, rfl, trivial⟩ ?_
 refine AOps.nil ?_
 refine AWP.seq ?_
 refine AWP.seq ?_
 refine AWP.region ?_
 refine AOps.step (Val.of hσ rfl rfl) rfl rfl rfl ?_
 refine AOps.step (Val.of hσ rfl rfl) rfl rfl rfl ?_
 refine AOps.step (Val.of hσ rfl rfl) rfl rfl rfl ?_
 refine AOps.step (Val.of hσ rfl rfl) rfl rfl rfl ?_
 refine AOps.step (Val.of hσ rfl rfl) rfl rfl rfl ?_
 refine AOps.step (Val.of hσ rfl rfl) rfl rfl rfl ?_
 refine AOps.forget [(22, _), (6, _), (5, _), (4, _), (0, _), (1, _)] ⟨rfl, rfl, rfl, rfl, rfl, rfl, trivial⟩ ?_
 refine AOps.skip rfl rfl rfl rfl rfl rfl ?_
 refine AOps.skip rfl rfl rfl rfl rfl rfl ?_
 refine AOps.forget [(24, _), (22, _), (6, _), (5, _), (4, _), (0, _), (1, _)] ⟨rfl, rfl, rfl, rfl, rfl, rfl, rfl, trivial⟩ ?_
 refine AOps.skip rfl rfl rfl rfl rfl rfl ?_
 refine AOps.forget [(25, _), (22, _), (6, _), (5, _), (4, _), (0, _), (1, _)] ⟨rfl, rfl, rfl, rfl, rfl, rfl, rfl, trivial⟩ ?_
 refine AOps.skip rfl rfl rfl rfl rfl rfl ?_
 refine AOps.forget [(26, _), (22, _), (6, _), (5, _), (4, _), (0, _), (1, _)] ⟨rfl, rfl, rfl, rfl, rfl, rfl, rfl, trivial⟩ ?_
 refine AOps.skip rfl rfl rfl rfl rfl rfl ?_
 refine AOps.step (Val.pickY hσ rfl rfl rfl rfl rfl) rfl rfl rfl ?_
 refine AOps.step (Val.of hσ rfl rfl) rfl rfl rfl ?_
 refine AOps.forget [(29, _), (6, _), (5, _), (4, _), (0, _), (1, _)] ⟨rfl, rfl, rfl, rfl, rfl, rfl, trivial⟩ ?_
 refine AOps.live rfl rfl rfl rfl rfl ?_
 refine AOps.step (Val.of hσ rfl rfl) rfl rfl rfl ?_
 refine AOps.live rfl rfl rfl rfl rfl ?_
 refine AOps.lone hσ rfl rfl rfl rfl (c153 h1 h2) (VAs.self rfl) rfl rfl rfl rfl rfl (B0 := 32000) rfl ?_
 refine AOps.forget [(31, _), (29, _), (6, _), (5, _), (4, _), (0, _), (1, _)] ⟨rfl, rfl, rfl, rfl, rfl, rfl, rfl, trivial⟩ ?_
 refine AOps.live rfl rfl rfl rfl rfl ?_
 refine AOps.step (Val.of hσ rfl rfl) rfl rfl rfl ?_
 refine AOps.step (Val.pickY hσ rfl rfl rfl rfl rfl) rfl rfl rfl ?_
 refine AOps.forget [(33, _), (6, _), (5, _), (4, _), (0, _), (1, _)] ⟨rfl, rfl, rfl, rfl, rfl, rfl, trivial⟩ ?_
 refine AOps.nil ?_
 refine AWP.cond hσ rfl rfl (fun hc33 => ?_) (fun hc33 => ?_)
 ·
  skip
  refine AWP.seq ?_
  refine AWP.region ?_
  refine AOps.step (Val.of hσ rfl rfl) rfl rfl rfl ?_
  refine AOps.nil ?_
  refine AWP.ret ?_
  have hb33 : inB 0 7 (evalT ix v) = false := by have h9 : (!inB 0 7 (evalT ix v)) = true := hc33; cases h : inB 0 7 (evalT ix v) with | false => rfl | true => rw [h] at h9; exact absurd h9 (by decide)
  have hrun : stepS ⟨3, vr, ev, su, ix, fa⟩ v c = (2, v, c) := by unfold stepS; rw [if_neg (by decide : ¬ (3 : Int) = 2), if_pos rfl, if_neg (show ¬ inB 0 7 (evalT ix v) = true by rw [hb33]; decide)]
  refine ⟨.inl rfl, _, Ent.sel [500, 501, 502] rfl rfl (e' := [(4, _)]) ⟨rfl, trivial⟩ rfl, _, rfl, ?_, ?_⟩
  ·
   rw [hrun]; rfl
  ·
   rw [hrun]; rfl
 ·
  skip
  refine AWP.skip ?_
  refine AWP.seq ?_
  refine AWP.seq ?_
  refine AWP.region ?_
  refine AOps.step (Val.of hσ rfl rfl) rfl rfl rfl ?_
  refine AOps.step (Val.of hσ rfl rfl) rfl rfl rfl ?_
  refine AOps.step (Val.of hσ rfl rfl) rfl rfl rfl ?_
  refine AOps.step (Val.of hσ rfl rfl) rfl rfl rfl ?_
  refine AOps.step (Val.of hσ rfl rfl) rfl rfl rfl ?_
  refine AOps.step (Val.of hσ rfl rfl) rfl rfl rfl ?_
  refine AOps.forget [(39, _), (6, _), (5, _), (4, _), (0, _), (1, _)] ⟨rfl, rfl, rfl, rfl, rfl, rfl, trivial⟩ ?_
  refine AOps.live rfl rfl rfl rfl rfl ?_
  refine AOps.step (Val.of hσ rfl rfl) rfl rfl rfl ?_
  refine AOps.live rfl rfl rfl rfl rfl ?_
  refine AOps.step (Val.of hσ rfl rfl) rfl rfl rfl ?_
  refine AOps.forget [(41, _), (39, _), (6, _), (5, _), (4, _), (0, _), (1, _)] ⟨rfl, rfl, rfl, rfl, rfl, rfl, rfl, trivial⟩ ?_
  refine AOps.live rfl rfl rfl rfl rfl ?_
  refine AOps.step (Val.of hσ rfl rfl) rfl rfl rfl ?_
  refine AOps.forget [(42, _), (39, _), (6, _), (5, _), (4, _), (0, _), (1, _)] ⟨rfl, rfl, rfl, rfl, rfl, rfl, rfl, trivial⟩ ?_
  refine AOps.live rfl rfl rfl rfl rfl ?_
  refine AOps.step (Val.of hσ rfl rfl) rfl rfl rfl ?_
  refine AOps.forget [(43, _), (39, _), (6, _), (5, _), (4, _), (0, _), (1, _)] ⟨rfl, rfl, rfl, rfl, rfl, rfl, rfl, trivial⟩ ?_
  refine AOps.live rfl rfl rfl rfl rfl ?_
  refine AOps.step (Val.of hσ rfl rfl) rfl rfl rfl ?_
  refine AOps.step (Val.pickN hσ rfl rfl rfl rfl rfl) rfl rfl rfl ?_
  refine AOps.step (Val.of hσ rfl rfl) rfl rfl rfl ?_
  refine AOps.forget [(46, _), (6, _), (5, _), (4, _), (0, _), (1, _)] ⟨rfl, rfl, rfl, rfl, rfl, rfl, trivial⟩ ?_
  refine AOps.skip rfl rfl rfl rfl rfl rfl ?_
  refine AOps.skip rfl rfl rfl rfl rfl rfl ?_
  refine AOps.forget [(48, _), (46, _), (6, _), (5, _), (4, _), (0, _), (1, _)] ⟨rfl, rfl, rfl, rfl, rfl, rfl, rfl, trivial⟩ ?_
  refine AOps.skip rfl rfl rfl rfl rfl rfl ?_
  refine AOps.step (Val.pickN hσ rfl rfl rfl rfl rfl) rfl rfl rfl ?_
  refine AOps.forget [(50, _), (6, _), (5, _), (4, _), (0, _), (1, _)] ⟨rfl, rfl, rfl, rfl, rfl, rfl, trivial⟩ ?_
  refine AOps.nil ?_
  refine AWP.cond hσ rfl rfl (fun hc50 => ?_) (fun hc50 => ?_)
  ·
   skip
   exact absurd (show false = true from hc50) (by decide)
  ·
   skip
   refine AWP.skip ?_
   refine AWP.seq ?_
   refine AWP.seq ?_
   refine AWP.region ?_
   have hb33 : inB 0 7 (evalT ix v) = true := by have h9 : (!inB 0 7 (evalT ix v)) = false := hc33; cases h : inB 0 7 (evalT ix v) with | true => rfl | false => rw [h] at h9; exact absurd h9 (by decide)
   have hin0 : 0 ≤ evalT ix v ∧ evalT ix v ≤ 7 := by simpa [inB] using hb33
   have hin1 := hin0.1
   have hin2 := hin0.2
   have hva := stmt_var hst rfl
   have hv1 : 0 ≤ vr := hva.1
   have hv2 : vr ≤ 3 := hva.2
   refine AOps.step (Val.of hσ rfl rfl) rfl rfl rfl ?_
   refine AOps.step (Val.of hσ rfl rfl) rfl rfl rfl ?_
   refine AOps.step (Val.of hσ rfl rfl) rfl rfl rfl ?_
   refine AOps.step (Val.of hσ rfl rfl) rfl rfl rfl ?_
   refine AOps.forget [(54, _), (6, _), (5, _), (4, _), (0, _), (1, _)] ⟨rfl, rfl, rfl, rfl, rfl, rfl, trivial⟩ ?_
   refine AOps.nil ?_
   refine AWP.block ?_
   refine AWP.seq ?_
   refine AWP.region ?_
   refine AOps.step (Val.of hσ rfl rfl) rfl rfl rfl ?_
   refine AOps.step (Val.of hσ rfl rfl) rfl rfl rfl ?_
   refine AOps.nil ?_
   refine AWP.cond hσ rfl rfl (fun hc55 => ?_) (fun hc55 => ?_)
   ·
    skip
    exact absurd (show false = true from hc55) (by decide)
   ·
    skip
    refine AWP.seq ?_
    refine AWP.region ?_
    refine AOps.step (Val.of hσ rfl rfl) rfl rfl rfl ?_
    refine AOps.step (Val.of hσ rfl rfl) rfl rfl rfl ?_
    refine AOps.forget [(67, _), (56, _), (54, _), (6, _), (5, _), (4, _), (0, _), (1, _)] ⟨rfl, rfl, rfl, rfl, rfl, rfl, rfl, rfl, trivial⟩ ?_
    refine AOps.nil ?_
    refine AWP.cond hσ rfl rfl (fun hc67 => ?_) (fun hc67 => ?_)
    ·
     skip
     refine AWP.forget [(56, _), (54, _), (6, _), (5, _), (4, _), (0, _), (1, _)] ⟨rfl, rfl, rfl, rfl, rfl, rfl, rfl, trivial⟩ ?_
     refine AWP.drawR hσ _ [_, _, _, _, _, _, _, _, _, _, _, _, _, _, _, _, _] [⟨[], 0, 0, none⟩, ⟨[0], 0, 0, none⟩, ⟨[0, 1], 0, 0, none⟩, ⟨[0, 1, 2], 0, 0, none⟩, ⟨[], 0, 0, none⟩, ⟨[4], 0, 0, none⟩, ⟨[4, 5], 0, 0, none⟩, ⟨[4, 5, 6], 0, 0, none⟩, ⟨[], 0, 0, none⟩, ⟨[8], 0, 0, none⟩, ⟨[8, 9], 0, 0, none⟩, ⟨[8, 9, 10], 0, 0, none⟩, ⟨[], 0, 0, none⟩, ⟨[8, 9, 10, 11, 12], 0, 0, none⟩, ⟨[8, 9, 10, 11, 12, 13], 0, 0, none⟩, ⟨[0, 1, 2, 3, 4, 5, 6, 7, 8, 9, 10, 11, 12, 13, 14], 0, 0, none⟩, ⟨[0, 1, 2, 3, 4, 5, 6, 7, 8, 9, 10, 11, 12, 13, 14, 15], 0, 0, some 0⟩] [16] [_, _] rfl rfl (by decide) (by decide) (by kernel_rfl) (And.intro (Val.of hσ rfl rfl) (And.intro (Val.of hσ rfl rfl) (And.intro (Val.of hσ rfl rfl) (And.intro (Val.of hσ rfl rfl) (And.intro (Val.of hσ rfl rfl) (And.intro (Val.of hσ rfl rfl) (And.intro (Val.of hσ rfl rfl) (And.intro (Val.of hσ rfl rfl) (And.intro (Val.of hσ rfl rfl) (And.intro (Val.of hσ rfl rfl) (And.intro (Val.of hσ rfl rfl) (And.intro (Val.of hσ rfl rfl) (And.intro (Val.of hσ rfl rfl) (And.intro (Val.vif hσ rfl rfl (by first | omega | (simp at *; omega))) (And.intro (Val.loadRow hσ (ex := [.int .i64 (c.getD (evalT ix v).toNat default)]) rfl rfl rfl rfl (by simp [show (evalT ix v).toNat < c.length by omega]) rfl) (And.intro (Val.vif hσ rfl rfl (by first | omega | (simp at *; omega))) (And.intro (Eff.storeRow (ex := [.int .i64 (v.getD vr.toNat default)]) (xs' := (v.set vr.toNat (c.getD (evalT ix v).toNat default)).map fun n => [.int .i64 n]) hσ rfl rfl rfl rfl rfl rfl rfl rfl rfl rfl rfl rfl rfl rfl rfl (by simp [show vr.toNat < v.length by omega]) (by simp [List.map_set]) rfl) trivial))))))))))))))))) ?_
     refine AWP.forget [(56, _), (54, _), (6, _), (5, _), (4, _), (0, _), (1, _)] ⟨rfl, rfl, rfl, rfl, rfl, rfl, rfl, trivial⟩ ?_
     apply AWP.norm
     ·
      repeat' (first | exact q0 rfl | apply q1 rfl | exact q2 rfl | apply q3 rfl | exact q4 rfl | apply q5 rfl | exact q6 rfl | exact q7 rfl | exact q8)
     refine AWP.seq ?_
     refine AWP.region ?_
     refine AOps.step (Val.of hσ rfl rfl) rfl rfl rfl ?_
     refine AOps.nil ?_
     refine AWP.ret ?_
     skip
     have hrun : stepS ⟨3, vr, ev, su, ix, fa⟩ v c = (0, v.set vr.toNat (c.getD (evalT ix v).toNat default), c) := by unfold stepS; rw [if_neg (by decide : ¬ (3 : Int) = 2), if_pos rfl, if_pos (show inB 0 7 (evalT ix v) = true from hb33)]
     refine ⟨.inl rfl, _, Ent.sel [500, 501, 502] rfl rfl (e' := [(4, _)]) ⟨rfl, trivial⟩ rfl, _, rfl, ?_, ?_⟩
     ·
      rw [hrun]; rfl
     ·
      rw [hrun]; rfl
    ·
     skip
     exact absurd (show true = false from hc67) (by decide)
theorem c106_4 {L : Nat} (h1 : 4096 ≤ L) (h2 : L ≤ 1073741824) {vr ev : Int} {su ix : Tm} {fa : List Tm} {v c : List Int} (hst : stmtB ⟨4, vr, ev, su, ix, fa⟩ = true) (hv : numsB v 4 = true) (hc : numsB c 8 = true) : MC Try.prog L 106 [ptr (Sm.cells ⟨4, vr, ev, su, ix, fa⟩), .c (.pt 0 0 0)] (sH v c) (Outs (eI (stepS ⟨4, vr, ev, su, ix, fa⟩ v c).1) (sH (stepS ⟨4, vr, ev, su, ix, fa⟩ v c).2.1 (stepS ⟨4, vr, ev, su, ix, fa⟩ v c).2.2)) := by
 refine MC.shift 500 rfl ?_
 have hσ := SgOk.withIns (js := [500, 501, 502]) (SGok (nt := 98) h1 (Nat.le_trans h2 (by decide)))
 refine MC.bodyH hσ Try.func106 (by kernel_rfl) rfl rfl rfl (Nat.le_of_ble_eq_true rfl) (fun hF => ?_)
 apply AWP.norm
 ·
  repeat' (first | exact q0 rfl | apply q1 rfl | exact q2 rfl | apply q3 rfl | exact q4 rfl | apply q5 rfl | exact q6 rfl | exact q7 rfl | exact q8)
 have hsf := stmt_facts hst
 have hnv : v.length = 4 := by have := (numsB_iff hv).2; omega
 have hnc : c.length = 8 := by have := (numsB_iff hc).2; omega
 refine AWP.seq ?_
 refine AWP.region ?_
 refine AOps.step (Val.of hσ rfl rfl) rfl rfl rfl ?_
 refine AOps.nil ?_
 refine AWP.seq ?_
 refine AWP.region ?_
 refine AOps.step (Val.of hσ rfl rfl) rfl rfl rfl ?_
 refine AOps.step (Val.of hσ rfl rfl) rfl rfl rfl ?_
 refine AOps.step (Val.of hσ rfl rfl) rfl rfl rfl ?_
 refine AOps.step (Val.of hσ rfl rfl) rfl rfl rfl ?_
 refine AOps.forget [(10, _), (9, _), (4, _), (0, _), (1, _)] ⟨rfl, rfl, rfl, rfl, rfl, trivial⟩ ?_
 refine AOps.lone hσ rfl rfl rfl rfl (c107 (t := ix) (vars := v) (cells := c) h1 h2 hsf.2 hv) (.cons (.c (.sub rfl)) (.cons (.c (.pb (cs := [ints v, ints c]) rfl (.cons (.whole rfl (by rw [List.length_map]; exact hnv.symm)) (.cons (.whole rfl (by rw [List.length_map]; exact hnc.symm)) .nil)))) .nil)) rfl rfl rfl rfl rfl (B0 := 12000) rfl ?_
 refine AOps.step (Val.of hσ rfl rfl) rfl rfl rfl ?_
 refine AOps.forget [(5, _), (4, _), (0, _), (1, _)] ⟨rfl, rfl, rfl, rfl, trivial⟩ ?_
 refine AOps.nil ?_
 refine AWP.seq ?_
 refine AWP.region ?_
 refine AOps.step (Val.of hσ rfl rfl) rfl rfl rfl ?_
 refine AOps.step (Val.of hσ rfl rfl) rfl rfl rfl ?_
 refine AOps.step (Val.of hσ rfl rfl) rfl rfl rfl ?_
 refine AOps.step (Val.of hσ rfl rfl) rfl rfl rfl ?_
 refine AOps.forget [(15, _), (14, _), (5, _), (4, _), (0, _), (1, _)] ⟨rfl, rfl, rfl, rfl, rfl, rfl, trivial⟩ ?_
 refine AOps.lone hσ rfl rfl rfl rfl (c107 (t := su) (vars := v) (cells := c) h1 h2 hsf.1 hv) (.cons (.c (.sub rfl)) (.cons (.c (.pb (cs := [ints v, ints c]) rfl (.cons (.whole rfl (by rw [List.length_map]; exact hnv.symm)) (.cons (.whole rfl (by rw [List.length_map]; exact hnc.symm)) .nil)))) .nil)) rfl rfl rfl rfl rfl (B0 := 17000) rfl ?_
 refine AOps.step (Val.of hσ rfl rfl) rfl rfl rfl ?_
 refine AOps.forget [(6, _), (5, _), (4, _), (0, _), (1, _)] ⟨rfl, rfl, rfl, rfl, rfl, trivial⟩ ?_
 refine AOps.nil ?_
 refine AWP.seq ?_
 refine AWP.seq ?_
 refine AWP.region ?_
 refine AOps.step (Val.of hσ rfl rfl) rfl rfl rfl ?_
 refine AOps.step (Val.of hσ rfl rfl) rfl rfl rfl ?_
 refine AOps.step (Val.of hσ rfl rfl) rfl rfl rfl ?_
 refine AOps.step (Val.of hσ rfl rfl) rfl rfl rfl ?_
 refine AOps.step (Val.of hσ rfl rfl) rfl rfl rfl ?_
 refine AOps.step (Val.of hσ rfl rfl) rfl rfl rfl ?_
 refine AOps.forget [(22, _), (6, _), (5, _), (4, _), (0, _), (1, _)] ⟨rfl, rfl, rfl, rfl, rfl, rfl, trivial⟩ ?_
 refine AOps.live rfl rfl rfl rfl rfl ?_
 refine AOps.step (Val.of hσ rfl rfl) rfl rfl rfl ?_
 refine AOps.live rfl rfl rfl rfl rfl ?_
 refine AOps.step (Val.of hσ rfl rfl) rfl rfl rfl ?_
 refine AOps.forget [(24, _), (22, _), (6, _), (5, _), (4, _), (0, _), (1, _)] ⟨rfl, rfl, rfl, rfl, rfl, rfl, rfl, trivial⟩ ?_
 refine AOps.live rfl rfl rfl rfl rfl ?_
 refine AOps.step (Val.of hσ rfl rfl) rfl rfl rfl ?_
 refine AOps.forget [(25, _), (22, _), (6, _), (5, _), (4, _), (0, _), (1, _)] ⟨rfl, rfl, rfl, rfl, rfl, rfl, rfl, trivial⟩ ?_
 refine AOps.live rfl rfl rfl rfl rfl ?_
 refine AOps.step (Val.of hσ rfl rfl) rfl rfl rfl ?_
 refine AOps.forget [(26, _), (22, _), (6, _), (5, _), (4, _), (0, _), (1, _)] ⟨rfl, rfl, rfl, rfl, rfl, rfl, rfl, trivial⟩ ?_
 refine AOps.live rfl rfl rfl rfl rfl ?_
 refine AOps.step (Val.of hσ rfl rfl) rfl rfl rfl ?_
 refine AOps.step (Val.pickN hσ rfl rfl rfl rfl rfl) rfl rfl rfl ?_
 refine AOps.step (Val.of hσ rfl rfl) rfl rfl rfl ?_
 refine AOps.forget [(29, _), (6, _), (5, _), (4, _), (0, _), (1, _)] ⟨rfl, rfl, rfl, rfl, rfl, rfl, trivial⟩ ?_
 refine AOps.live rfl rfl rfl rfl rfl ?_
 refine AOps.step (Val.of hσ rfl rfl) rfl rfl rfl ?_
 refine AOps.live rfl rfl rfl rfl rfl ?_
 refine AOps.lone hσ rfl rfl rfl rfl (c153 h1 h2) (VAs.self rfl) rfl rfl rfl rfl rfl (B0 := 32000) rfl ?_
 refine AOps.forget [(31, _), (29, _), (6, _), (5, _), (4, _), (0, _), (1, _)] ⟨rfl, rfl, rfl, rfl, rfl, rfl, rfl, trivial⟩ ?_
 refine AOps.live rfl rfl rfl rfl rfl ?_
 refine AOps.step (Val.of hσ rfl rfl) rfl rfl rfl ?_
 refine AOps.step (Val.pickY hσ rfl rfl rfl rfl rfl) rfl rfl rfl ?_
 refine AOps.forget [(33, _), (6, _), (5, _), (4, _), (0, _), (1, _)] ⟨rfl, rfl, rfl, rfl, rfl, rfl, trivial⟩ ?_
 refine AOps.nil ?_
 refine AWP.cond hσ rfl rfl (fun hc33 => ?_) (fun hc33 => ?_)
 ·
  skip
  refine AWP.seq ?_
  refine AWP.region ?_
  refine AOps.step (Val.of hσ rfl rfl) rfl rfl rfl ?_
  refine AOps.nil ?_
  refine AWP.ret ?_
  have hb33 : inB 0 7 (evalT ix v) = false := by have h9 : (!inB 0 7 (evalT ix v)) = true := hc33; cases h : inB 0 7 (evalT ix v) with | false => rfl | true => rw [h] at h9; exact absurd h9 (by decide)
  have hrun : stepS ⟨4, vr, ev, su, ix, fa⟩ v c = (2, v, c) := by unfold stepS; rw [if_neg (by decide : ¬ (4 : Int) = 2), if_neg (by decide : ¬ (4 : Int) = 3), if_pos rfl, if_neg (show ¬ inB 0 7 (evalT ix v) = true by rw [hb33]; decide)]
  refine ⟨.inl rfl, _, Ent.sel [500, 501, 502] rfl rfl (e' := [(4, _)]) ⟨rfl, trivial⟩ rfl, _, rfl, ?_, ?_⟩
  ·
   rw [hrun]; rfl
  ·
   rw [hrun]; rfl
 ·
  skip
  refine AWP.skip ?_
  refine AWP.seq ?_
  refine AWP.seq ?_
  refine AWP.region ?_
  have hb33 : inB 0 7 (evalT ix v) = true := by have h9 : (!inB 0 7 (evalT ix v)) = false := hc33; cases h : inB 0 7 (evalT ix v) with | true => rfl | false => rw [h] at h9; exact absurd h9 (by decide)
  have hin0 : 0 ≤ evalT ix v ∧ evalT ix v ≤ 7 := by simpa [inB] using hb33
  have hin1 := hin0.1
  have hin2 := hin0.2
  refine AOps.step (Val.of hσ rfl rfl) rfl rfl rfl ?_
  refine AOps.step (Val.of hσ rfl rfl) rfl rfl rfl ?_
  refine AOps.step (Val.of hσ rfl rfl) rfl rfl rfl ?_
  refine AOps.step (Val.of hσ rfl rfl) rfl rfl rfl ?_
  refine AOps.step (Val.of hσ rfl rfl) rfl rfl rfl ?_
  refine AOps.step (Val.of hσ rfl rfl) rfl rfl rfl ?_
  refine AOps.forget [(39, _), (6, _), (5, _), (4, _), (0, _), (1, _)] ⟨rfl, rfl, rfl, rfl, rfl, rfl, trivial⟩ ?_
  refine AOps.live rfl rfl rfl rfl rfl ?_
  refine AOps.step (Val.of hσ rfl rfl) rfl rfl rfl ?_
  refine AOps.live rfl rfl rfl rfl rfl ?_
  refine AOps.step (Val.of hσ rfl rfl) rfl rfl rfl ?_
  refine AOps.forget [(41, _), (39, _), (6, _), (5, _), (4, _), (0, _), (1, _)] ⟨rfl, rfl, rfl, rfl, rfl, rfl, rfl, trivial⟩ ?_
  refine AOps.live rfl rfl rfl rfl rfl ?_
  refine AOps.step (Val.of hσ rfl rfl) rfl rfl rfl ?_
  refine AOps.forget [(42, _), (39, _), (6, _), (5, _), (4, _), (0, _), (1, _)] ⟨rfl, rfl, rfl, rfl, rfl, rfl, rfl, trivial⟩ ?_
  refine AOps.live rfl rfl rfl rfl rfl ?_
  refine AOps.step (Val.of hσ rfl rfl) rfl rfl rfl ?_
  refine AOps.forget [(43, _), (39, _), (6, _), (5, _), (4, _), (0, _), (1, _)] ⟨rfl, rfl, rfl, rfl, rfl, rfl, rfl, trivial⟩ ?_
  refine AOps.live rfl rfl rfl rfl rfl ?_
  refine AOps.step (Val.of hσ rfl rfl) rfl rfl rfl ?_
  refine AOps.step (Val.pickN hσ rfl rfl rfl rfl rfl) rfl rfl rfl ?_
  refine AOps.step (Val.of hσ rfl rfl) rfl rfl rfl ?_
  refine AOps.forget [(46, _), (6, _), (5, _), (4, _), (0, _), (1, _)] ⟨rfl, rfl, rfl, rfl, rfl, rfl, trivial⟩ ?_
  refine AOps.live rfl rfl rfl rfl rfl ?_
  refine AOps.step (Val.of hσ rfl rfl) rfl rfl rfl ?_
  refine AOps.live rfl rfl rfl rfl rfl ?_
  refine AOps.lone hσ rfl rfl rfl rfl (c154 h1 h2) (VAs.self rfl) rfl rfl rfl rfl rfl (B0 := 49000) rfl ?_
  refine AOps.forget [(48, _), (46, _), (6, _), (5, _), (4, _), (0, _), (1, _)] ⟨rfl, rfl, rfl, rfl, rfl, rfl, rfl, trivial⟩ ?_
  refine AOps.live rfl rfl rfl rfl rfl ?_
  refine AOps.step (Val.of hσ rfl rfl) rfl rfl rfl ?_
  refine AOps.step (Val.pickY hσ rfl rfl rfl rfl rfl) rfl rfl rfl ?_
  refine AOps.forget [(50, _), (6, _), (5, _), (4, _), (0, _), (1, _)] ⟨rfl, rfl, rfl, rfl, rfl, rfl, trivial⟩ ?_
  refine AOps.nil ?_
  refine AWP.cond hσ rfl rfl (fun hc50 => ?_) (fun hc50 => ?_)
  ·
   skip
   refine AWP.seq ?_
   refine AWP.region ?_
   refine AOps.step (Val.of hσ rfl rfl) rfl rfl rfl ?_
   refine AOps.nil ?_
   refine AWP.ret ?_
   have hb50 : big (evalT su v) = false := by have h9 : (!big (evalT su v)) = true := hc50; cases h : big (evalT su v) with | false => rfl | true => rw [h] at h9; exact absurd h9 (by decide)
   have hrun : stepS ⟨4, vr, ev, su, ix, fa⟩ v c = (4, v, c) := by unfold stepS; rw [if_neg (by decide : ¬ (4 : Int) = 2), if_neg (by decide : ¬ (4 : Int) = 3), if_pos rfl, if_pos (show inB 0 7 (evalT ix v) = true from hb33), if_neg (show ¬ big (evalT su v) = true by rw [hb50]; decide)]
   refine ⟨.inl rfl, _, Ent.sel [500, 501, 502] rfl rfl (e' := [(4, _)]) ⟨rfl, trivial⟩ rfl, _, rfl, ?_, ?_⟩
   ·
    rw [hrun]; rfl
   ·
    rw [hrun]; rfl
  ·
   skip
   refine AWP.skip ?_
   refine AWP.seq ?_
   refine AWP.seq ?_
   refine AWP.region ?_
   have hb50 : big (evalT su v) = true := by have h9 : (!big (evalT su v)) = false := hc50; cases h : big (evalT su v) with | true => rfl | false => rw [h] at h9; exact absurd h9 (by decide)
   refine AOps.step (Val.of hσ rfl rfl) rfl rfl rfl ?_
   refine AOps.step (Val.of hσ rfl rfl) rfl rfl rfl ?_
   refine AOps.step (Val.of hσ rfl rfl) rfl rfl rfl ?_
   refine AOps.step (Val.of hσ rfl rfl) rfl rfl rfl ?_
   refine AOps.forget [(54, _), (6, _), (5, _), (4, _), (0, _), (1, _)] ⟨rfl, rfl, rfl, rfl, rfl, rfl, trivial⟩ ?_
   refine AOps.nil ?_
   refine AWP.block ?_
   refine AWP.seq ?_
   refine AWP.region ?_
   refine AOps.step (Val.of hσ rfl rfl) rfl rfl rfl ?_
   refine AOps.step (Val.of hσ rfl rfl) rfl rfl rfl ?_
   refine AOps.nil ?_
   refine AWP.cond hσ rfl rfl (fun hc55 => ?_) (fun hc55 => ?_)
   ·
    skip
    exact absurd (show false = true from hc55) (by decide)
   ·
    skip
    refine AWP.seq ?_
    refine AWP.region ?_
    refine AOps.step (Val.of hσ rfl rfl) rfl rfl rfl ?_
    refine AOps.step (Val.of hσ rfl rfl) rfl rfl rfl ?_
    refine AOps.forget [(67, _), (56, _), (54, _), (6, _), (5, _), (4, _), (0, _), (1, _)] ⟨rfl, rfl, rfl, rfl, rfl, rfl, rfl, rfl, trivial⟩ ?_
    refine AOps.nil ?_
    refine AWP.cond hσ rfl rfl (fun hc67 => ?_) (fun hc67 => ?_)
    ·
     skip
     exact absurd (show false = true from hc67) (by decide)
    ·
     skip
     refine AWP.seq ?_
     refine AWP.region ?_
     refine AOps.step (Val.of hσ rfl rfl) rfl rfl rfl ?_
     refine AOps.step (Val.of hσ rfl rfl) rfl rfl rfl ?_
     refine AOps.forget [(85, _), (56, _), (54, _), (6, _), (5, _), (4, _), (0, _), (1, _)] ⟨rfl, rfl, rfl, rfl, rfl, rfl, rfl, rfl, trivial⟩ ?_
     refine AOps.nil ?_
     refine AWP.cond hσ rfl rfl (fun hc85 => ?_) (fun hc85 => ?_)
     ·
      skip
      refine AWP.region ?_
      refine AOps.step (Val.of hσ rfl rfl) rfl rfl rfl ?_
      refine AOps.step (Val.of hσ rfl rfl) rfl rfl rfl ?_
      refine AOps.step (Val.of hσ rfl rfl) rfl rfl rfl ?_
      refine AOps.step (Val.of hσ rfl rfl) rfl rfl rfl ?_
      refine AOps.step (Val.of hσ rfl rfl) rfl rfl rfl ?_
      refine AOps.step (Val.of hσ rfl rfl) rfl rfl rfl ?_
      first | refine AOps.step (Val.indexD hσ rfl rfl rfl rfl rfl rfl rfl rfl (by first | omega | (simp at *; omega)) (idx_get (by first | omega | (simp at *; omega)) (by first | omega | (simp at *; omega)))) rfl rfl rfl ?_ | refine AOps.step (Val.vif hσ rfl rfl (by first | omega | (simp at *; omega))) rfl rfl rfl ?_
      refine AOps.forget [(93, _), (92, _), (56, _), (54, _), (6, _), (5, _), (4, _), (0, _), (1, _)] ⟨rfl, rfl, rfl, rfl, rfl, rfl, rfl, rfl, rfl, trivial⟩ ?_
      refine AOps.heap (HS.storeRow (ex := [.int .i64 (c.getD (evalT ix v).toNat default)]) (xs' := (c.set (evalT ix v).toNat (evalT su v)).map fun n => [.int .i64 n]) hσ rfl rfl rfl rfl rfl rfl rfl rfl rfl rfl rfl rfl rfl rfl (by simp [show (evalT ix v).toNat < c.length by omega]) (by simp [List.map_set])) rfl ?_
      apply AOps.norm
      ·
       repeat' (first | exact q0 rfl | apply q1 rfl | exact q2 rfl | apply q3 rfl | exact q4 rfl | apply q5 rfl | exact q6 rfl | exact q7 rfl | exact q8)
      refine AOps.forget [(56, _), (54, _), (6, _), (5, _), (4, _), (0, _), (1, _)] ⟨rfl, rfl, rfl, rfl, rfl, rfl, rfl, trivial⟩ ?_
      refine AOps.nil ?_
      refine AWP.seq ?_
      refine AWP.region ?_
      refine AOps.step (Val.of hσ rfl rfl) rfl rfl rfl ?_
      refine AOps.nil ?_
      refine AWP.ret ?_
      skip
      have hrun : stepS ⟨4, vr, ev, su, ix, fa⟩ v c = (0, v, c.set (evalT ix v).toNat (evalT su v)) := by unfold stepS; rw [if_neg (by decide : ¬ (4 : Int) = 2), if_neg (by decide : ¬ (4 : Int) = 3), if_pos rfl, if_pos (show inB 0 7 (evalT ix v) = true from hb33), if_pos (show big (evalT su v) = true from hb50)]
      refine ⟨.inl rfl, _, Ent.sel [500, 501, 502] rfl rfl (e' := [(4, _)]) ⟨rfl, trivial⟩ rfl, _, rfl, ?_, ?_⟩
      ·
       rw [hrun]; rfl
      ·
       rw [hrun]; rfl
     ·
      skip
      exact absurd (show true = false from hc85) (by decide)
theorem c106 {L : Nat} (h1 : 4096 ≤ L) (h2 : L ≤ 1073741824) {s : Sm} {v c : List Int} (hst : stmtB s = true) (hk : s.kind ≠ 1) (hv : numsB v 4 = true) (hc : numsB c 8 = true) :
  MC Try.prog L 106 [ptr (Sm.cells s), .c (.pt 0 0 0)] (sH v c) (Outs (eI (stepS s v c).1) (sH (stepS s v c).2.1 (stepS s v c).2.2)) := by
 have h8 : 0 ≤ s.kind ∧ s.kind ≤ 8 := by
  have hs := hst
  unfold stmtB sB1 at hs
  cases h1 : (decide (0 ≤ s.kind) && decide (s.kind ≤ 8)) with
  | true => simpa using h1
  | false => rw [h1] at hs; simp at hs
 obtain ⟨k, vr, ev, su, ix, fa⟩ := s
 simp only at h8 hk
 have : k = 0 ∨ k = 2 ∨ k = 3 ∨ k = 4 ∨ k = 5 ∨ k = 6 ∨ k = 7 ∨ k = 8 := by omega
 rcases this with rfl | rfl | rfl | rfl | rfl | rfl | rfl | rfl
 ·
  exact c106_0 h1 h2 hst hv hc
 ·
  exact c106_2 h1 h2 hst hv hc
 ·
  exact c106_3 h1 h2 hst hv hc
 ·
  exact c106_4 h1 h2 hst hv hc
 ·
  exact c106_5 h1 h2 hst hv hc
 ·
  exact c106_6 h1 h2 hst hv hc
 ·
  exact c106_7 h1 h2 hst hv hc
 ·
  exact c106_8 h1 h2 hst hv hc

end Go.Al
namespace Go.Al
open Go.Proofs
set_option linter.unusedVariables false
set_option linter.unusedSimpArgs false
set_option maxRecDepth 10000
structure Rs where
  v : List Int
  c : List Int
  ev : List Int
  out : Int
  st : Int
structure Cf where
  n : Nat
  ws : List Nat
  v : List Int
  c : List Int
  ev : List Int
  st : Int
def mbody (body : List Sm) (fuel : Int) (go : List Nat → List Int → List Int → List Int → Int → Option Rs) (s : Sm) (k : Nat) (ws : List Nat) (v c ev : List Int) (st : Int) : Option Rs :=
  if s.kind = 1 then (if endR body (k + 1) < 0 then none else go ((k + 1) :: (endR body (k + 1)).toNat :: ws) v c ev st)
  else if st = fuel then some ⟨v, c, ev, 1, st⟩
  else if ¬ (stepS s v c).1 = 0 then some ⟨(stepS s v c).2.1, (stepS s v c).2.2, ev, (stepS s v c).1, st + 1⟩
  else if s.kind = 5 then go ws (stepS s v c).2.1 (stepS s v c).2.2 (ev ++ [s.event]) (st + 1)
  else if s.kind = 7 then (if 0 ≤ evalT s.sum (stepS s v c).2.1 then go ((k + 1) :: ws) (stepS s v c).2.1 (stepS s v c).2.2 ev (st + 1) else
    if endR body (k + 1) < 0 then none else go ((endR body (k + 1)).toNat :: ws) (stepS s v c).2.1 (stepS s v c).2.2 ev (st + 1))
  else if s.kind = 8 then (if 0 ≤ evalT s.sum (stepS s v c).2.1 then go ((k + 1) :: k :: ws) (stepS s v c).2.1 (stepS s v c).2.2 ev (st + 1) else go ws (stepS s v c).2.1 (stepS s v c).2.2 ev (st + 1))
  else go ws (stepS s v c).2.1 (stepS s v c).2.2 ev (st + 1)
/-- The machine with a list of what is still to be executed, the next one first. -/
def mrun (body : List Sm) (fuel : Int) : Nat → List Nat → List Int → List Int → List Int → Int → Option Rs
  | 0, _, _, _, _, _ => none
  | _ + 1, [], v, c, ev, st => some ⟨v, c, ev, 0, st⟩
  | n + 1, k :: ws, v, c, ev, st => if body.length ≤ k ∨ 100 ≤ ws.length then none else mbody body fuel (mrun body fuel n) (body.getD k default) k ws v c ev st
theorem mrun_nil {body : List Sm} {fuel : Int} {n : Nat} {v c ev : List Int} {st : Int} {res : Rs} (h : mrun body fuel n [] v c ev st = some res) : res = ⟨v, c, ev, 0, st⟩ := by
  cases n with
  | zero => cases h
  | succ n => exact (Option.some.inj h).symm
theorem mrun_cons {body : List Sm} {fuel : Int} {n k : Nat} {ws : List Nat} {v c ev : List Int} {st : Int} {res : Rs} (h : mrun body fuel n (k :: ws) v c ev st = some res) :
    ∃ m, n = m + 1 ∧ k < body.length ∧ ws.length < 100 ∧ mbody body fuel (mrun body fuel m) (body.getD k default) k ws v c ev st = some res := by
  cases n with
  | zero => cases h
  | succ n =>
    unfold mrun at h
    split at h
    · cases h
    · exact ⟨n, rfl, by omega, by omega, h⟩
theorem mrun_len {body : List Sm} {fuel : Int} {n : Nat} {ws : List Nat} {v c ev : List Int} {st : Int} {res : Rs} (h : mrun body fuel n ws v c ev st = some res) : ws.length ≤ 100 := by
  cases ws with
  | nil => exact Nat.zero_le _
  | cons k ws => obtain ⟨m, _, _, h3, _⟩ := mrun_cons h; simp; omega
abbrev fI : Int → List D := fun n => [.int .i64 n]
def wI (ws : List Nat) : List Int := ws.reverse.map fun (k : Nat) => (k : Int)
theorem wI_len {ws : List Nat} : ws.length = ((wI ws).map fI).length := by simp [wI]
theorem wI_push {ws : List Nat} {k : Nat} {x : Int} (h : x = k) : (wI ws).map fI ++ [[D.int .i64 x]] = (wI (k :: ws)).map fI := by subst h; simp [wI, fI]
theorem wI_top {ws : List Nat} {k : Nat} : ((wI (k :: ws)).map fI)[0 + (((ws.length + 1 : Nat) : Int) - 1).toNat]? = some [D.int .i64 (k : Int)] := by
  have : 0 + (((ws.length + 1 : Nat) : Int) - 1).toNat = ws.length := by omega
  rw [this]; simp [wI, fI]
theorem wI_cut {ws : List Nat} {k : Nat} : ((wI (k :: ws)).map fI).take ws.length = (wI ws).map fI := by
  rw [← wI_push rfl, List.take_append_of_le_length (by rw [← wI_len]; exact Nat.le_refl _), List.take_of_length_le (by rw [← wI_len]; exact Nat.le_refl _)]
theorem c105' {L : Nat} (h1 : 4096 ≤ L) (h2 : L ≤ 1073741824) {body : List Sm} {k : Nat} (hk : k + 1 ≤ body.length) : MC Try.prog L 105 [.c (.d (sms body)), eI ((k : Int) + 1)] [] (Plain (eI (endR body (k + 1)))) := c105 h1 h2 hk
theorem stepS_ok {s : Sm} {v c : List Int} (hv : numsB v 4 = true) (hc : numsB c 8 = true) : numsB (stepS s v c).2.1 4 = true ∧ numsB (stepS s v c).2.2 8 = true := by
  unfold stepS
  split
  · split
    · rename_i hb; exact ⟨set_big hv hb, hc⟩
    · exact ⟨hv, hc⟩
  · split
    · split
      · rename_i hb
        have hc' := numsB_iff hc
        have hi : (evalT s.index v).toNat < c.length := by
          simp only [inB, Bool.and_eq_true, decide_eq_true_eq] at hb
          have := hc'.2
          omega
        refine ⟨set_big hv ?_, hc⟩
        rw [getD_lt hi]
        exact List.all_eq_true.1 hc'.1 _ (List.getElem_mem hi)
      · exact ⟨hv, hc⟩
    · split
      · split
        · split
          · rename_i hb; exact ⟨hv, set_big hc hb⟩
          · exact ⟨hv, hc⟩
        · exact ⟨hv, hc⟩
      · split
        · split <;> exact ⟨hv, hc⟩
        · exact ⟨hv, hc⟩

theorem c58 {L : Nat} (h1 : 4096 ≤ L) (h2 : L ≤ 1073741824) {p : Pm} {s0 : Sx} {f : Int} {n : Nat} {res : Rs} (hb : p.body.all stmtB = true) (hl : p.body.length ≤ 30) (hv : numsB s0.vars 4 = true) (hc : numsB s0.cells 8 = true) (hf0 : 0 ≤ f) (hf1 : f ≤ 2000) (hm0 : mrun p.body f n [0] s0.vars s0.cells [] 0 = some res) : MC Try.prog L 58 [ptr p.data, ptr s0.data, eI f] [] (Rows (.tup [.agg [.rs 0 0 4, .rs 1 0 8], .c (.rs 2 0 res.ev.length), eI res.out, eI res.st]) [nrow res.v, nrow res.c, nrow res.ev]) := by
 refine MC.rows ?_
 have hσ := SGok (nt := 129) h1 (Nat.le_trans h2 (by decide))
 refine MC.body hσ Try.func58 (by kernel_rfl) rfl rfl (Nat.le_of_ble_eq_true rfl) (fun hF => ?_)
 have h4 : s0.vars.length = 4 := by have := (numsB_iff hv).2; omega
 have h8 : s0.cells.length = 8 := by have := (numsB_iff hc).2; omega
 refine AWP.seq ?_
 refine AWP.region ?_
 refine AOps.heap (HS.alloc hσ rfl rfl rfl rfl rfl) rfl ?_
 apply AOps.norm
 ·
  repeat' (first | exact q0 rfl | apply q1 rfl | exact q2 rfl | apply q3 rfl | exact q4 rfl | apply q5 rfl | exact q6 rfl | exact q7 rfl | exact q8)
 refine AOps.step (Val.of hσ rfl rfl) rfl rfl rfl ?_
 refine AOps.step (Val.of hσ rfl rfl) rfl rfl rfl ?_
 refine AOps.step (Val.of hσ rfl rfl) rfl rfl rfl ?_
 refine AOps.nil ?_
 refine AWP.seq ?_
 refine AWP.region ?_
 refine AOps.step (Val.of hσ rfl rfl) rfl rfl rfl ?_
 refine AOps.forget [(18, _), (9, _), (8, _), (7, _), (6, _), (0, _), (2, _)] ⟨rfl, rfl, rfl, rfl, rfl, rfl, rfl, trivial⟩ ?_
 refine AOps.rows hσ (B0 := 20000) rfl rfl rfl rfl (c104 (v := s0.vars) (c := s0.cells) h1 h2) (VAs.self rfl) rfl rfl rfl rfl rfl rfl ?_
 rw [h4, h8]
 apply AOps.norm
 ·
  repeat' (first | exact q0 rfl | apply q1 rfl | exact q2 rfl | apply q3 rfl | exact q4 rfl | apply q5 rfl | exact q6 rfl | exact q7 rfl | exact q8)
 refine AOps.forget [(19, _), (9, _), (8, _), (7, _), (6, _), (0, _), (2, _)] ⟨rfl, rfl, rfl, rfl, rfl, rfl, rfl, trivial⟩ ?_
 refine AOps.heap (HS.alloc hσ rfl rfl rfl rfl rfl) rfl ?_
 apply AOps.norm
 ·
  repeat' (first | exact q0 rfl | apply q1 rfl | exact q2 rfl | apply q3 rfl | exact q4 rfl | apply q5 rfl | exact q6 rfl | exact q7 rfl | exact q8)
 refine AOps.heap (HS.storeBox hσ rfl rfl rfl rfl rfl rfl rfl rfl rfl rfl rfl) rfl ?_
 apply AOps.norm
 ·
  repeat' (first | exact q0 rfl | apply q1 rfl | exact q2 rfl | apply q3 rfl | exact q4 rfl | apply q5 rfl | exact q6 rfl | exact q7 rfl | exact q8)
 refine AOps.nil ?_
 refine AWP.seq ?_
 refine AWP.region ?_
 refine AOps.heap (HS.lit hσ rfl rfl rfl) rfl ?_
 apply AOps.norm
 ·
  repeat' (first | exact q0 rfl | apply q1 rfl | exact q2 rfl | apply q3 rfl | exact q4 rfl | apply q5 rfl | exact q6 rfl | exact q7 rfl | exact q8)
 refine AOps.step (Val.of hσ rfl rfl) rfl rfl rfl ?_
 refine AOps.nil ?_
 refine AWP.seq ?_
 refine AWP.region ?_
 refine AOps.step (Val.of hσ rfl rfl) rfl rfl rfl ?_
 refine AOps.nil ?_
 refine AWP.seq ?_
 refine AWP.region ?_
 refine AOps.heap (HS.lit hσ rfl rfl rfl) rfl ?_
 apply AOps.norm
 ·
  repeat' (first | exact q0 rfl | apply q1 rfl | exact q2 rfl | apply q3 rfl | exact q4 rfl | apply q5 rfl | exact q6 rfl | exact q7 rfl | exact q8)
 refine AOps.step (Val.of hσ rfl rfl) rfl rfl rfl ?_
 refine AOps.nil ?_
 refine AWP.seq ?_
 refine AWP.block ?_
 refine AWP.loopP (X := Cf) (fun z => ⟨[(0, ptr p.data), (2, eI f), (6, .c (.pt 6 0 0)), (10, .c (.pt 10 0 0)), (11, .c (.rs 901 0 z.ev.length)), (12, eI z.st), (13, .c (.rs 900 0 z.ws.length))], [(6, .box [.d .nils, .d .nils]), (10, .box [.rs 20000 0 4, .rs 20001 0 8]), (900, .row true 1 ((wI z.ws).map fI)), (901, nrow z.ev), (20000, nrow z.v), (20001, nrow z.c)]⟩) (fun z => numsB z.v 4 = true ∧ numsB z.c 8 = true ∧ 0 ≤ z.st ∧ z.st ≤ f ∧ (z.ev.length : Int) ≤ z.st ∧ mrun p.body f z.n z.ws z.v z.c z.ev z.st = some res) (fun z => z.n) ⟨n, [0], s0.vars, s0.cells, [], 0⟩ ((Ent.sel [6, 10, 21, 20, 20000, 20001] (e' := [(0, _), (2, _), (6, _), (10, _), (11, _), (12, _), (13, _)]) rfl rfl ⟨rfl, rfl, rfl, rfl, rfl, rfl, rfl, trivial⟩ rfl).trans ((Ent.sub2 21 900 rfl rfl).trans ((Ent.sub2 20 901 rfl rfl).trans (Ent.to ⟨rfl, rfl, rfl, rfl, rfl, rfl, rfl, trivial⟩ rfl)))) ?_ (fun z hi => ?_)
 ·
  exact ⟨hv, hc, Int.le_refl _, hf0, Int.le_refl _, hm0⟩
 have hwl := mrun_len hi.2.2.2.2.2
 refine AWP.seq ?_
 refine AWP.seq ?_
 refine AWP.region ?_
 refine AOps.step (Val.of hσ rfl rfl) rfl rfl rfl ?_
 first | refine AOps.step (Val.lenD hσ rfl rfl rfl rfl rfl rfl rfl rfl) rfl rfl rfl ?_ | refine AOps.step (Val.of hσ rfl rfl) rfl rfl rfl ?_ | refine AOps.step (Val.vif hσ rfl rfl (by first | omega | (simp at *; omega))) rfl rfl rfl ?_
 refine AOps.step (Val.of hσ rfl rfl) rfl rfl rfl ?_
 refine AOps.forget [(24, _), (0, _), (2, _), (6, _), (10, _), (11, _), (12, _), (13, _)] ⟨rfl, rfl, rfl, rfl, rfl, rfl, rfl, rfl, trivial⟩ ?_
 refine AOps.nil ?_
 refine AWP.cond hσ rfl rfl (fun hc24 => ?_) (fun hc24 => ?_)
 ·
  try simp only [List.length_map, beq_iff_eq, decide_eq_true_eq, decide_eq_false_iff_not, Bool.not_eq_true', Bool.not_eq_false', Bool.not_true, Bool.not_false, Int.not_lt, Int.not_le] at hc24
  refine AWP.skip ?_
  refine AWP.block ?_
  refine AWP.seq ?_
  refine AWP.region ?_
  obtain ⟨k, ws, hws⟩ : ∃ k ws, z.ws = k :: ws := by
   cases h : z.ws with
   | nil => rw [h] at hc24; exact absurd hc24 (by simp)
   | cons k ws => exact ⟨k, ws, rfl⟩
  have hm := hi.2.2.2.2.2
  rw [hws] at hm ⊢
  obtain ⟨m, hn, hk, hw, hm⟩ := mrun_cons hm
  have hst := hi.2.2.1
  have hsf := hi.2.2.2.1
  have hev := hi.2.2.2.2.1
  rw [show (k :: ws).length = ws.length + 1 from rfl]
  refine AOps.step (Val.of hσ rfl rfl) rfl rfl rfl ?_
  refine AOps.step (Val.of hσ rfl rfl) rfl rfl rfl ?_
  first | refine AOps.step (Val.lenD hσ rfl rfl rfl rfl rfl rfl rfl rfl) rfl rfl rfl ?_ | refine AOps.step (Val.of hσ rfl rfl) rfl rfl rfl ?_ | refine AOps.step (Val.vif hσ rfl rfl (by first | omega | (simp at *; omega))) rfl rfl rfl ?_
  first | refine AOps.step (Val.fits64 hσ rfl rfl (by first | omega | (simp at *; omega)) (by first | omega | (simp at *; omega))) rfl rfl rfl ?_ | refine AOps.step (Val.vif hσ rfl rfl (by first | omega | (simp at *; omega))) rfl rfl rfl ?_
  refine AOps.step (Val.vif hσ rfl rfl (by omega)) rfl rfl rfl ?_
  refine AOps.step (Val.loadRow hσ (ex := [.int .i64 (k : Int)]) rfl rfl rfl rfl wI_top rfl) rfl rfl rfl ?_
  refine AOps.step (Val.of hσ rfl rfl) rfl rfl rfl ?_
  refine AOps.forget [(14, _), (24, _), (0, _), (2, _), (6, _), (10, _), (11, _), (12, _), (13, _)] ⟨rfl, rfl, rfl, rfl, rfl, rfl, rfl, rfl, rfl, trivial⟩ ?_
  refine AOps.nil ?_
  refine AWP.seq ?_
  refine AWP.region ?_
  refine AOps.step (Val.of hσ rfl rfl) rfl rfl rfl ?_
  refine AOps.step (Val.of hσ rfl rfl) rfl rfl rfl ?_
  refine AOps.step (Val.of hσ rfl rfl) rfl rfl rfl ?_
  refine AOps.step (Val.of hσ rfl rfl) rfl rfl rfl ?_
  refine AOps.step (Val.of hσ rfl rfl) rfl rfl rfl ?_
  first | refine AOps.step (Val.indexD hσ rfl rfl rfl rfl rfl rfl rfl rfl (by first | omega | (simp at *; omega)) (idx_get (by first | omega | (simp at *; omega)) (by first | omega | (simp at *; omega)))) rfl rfl rfl ?_ | refine AOps.step (Val.vif hσ rfl rfl (by first | omega | (simp at *; omega))) rfl rfl rfl ?_
  refine AOps.step (Val.of hσ rfl rfl) rfl rfl rfl ?_
  refine AOps.forget [(15, _), (14, _), (24, _), (0, _), (2, _), (6, _), (10, _), (11, _), (12, _), (13, _)] ⟨rfl, rfl, rfl, rfl, rfl, rfl, rfl, rfl, rfl, rfl, trivial⟩ ?_
  refine AOps.nil ?_
  refine AWP.seq ?_
  refine AWP.region ?_
  refine AOps.step (Val.of hσ rfl rfl) rfl rfl rfl ?_
  refine AOps.step (Val.of hσ rfl rfl) rfl rfl rfl ?_
  first | refine AOps.step (Val.lenD hσ rfl rfl rfl rfl rfl rfl rfl rfl) rfl rfl rfl ?_ | refine AOps.step (Val.of hσ rfl rfl) rfl rfl rfl ?_ | refine AOps.step (Val.vif hσ rfl rfl (by first | omega | (simp at *; omega))) rfl rfl rfl ?_
  first | refine AOps.step (Val.fits64 hσ rfl rfl (by first | omega | (simp at *; omega)) (by first | omega | (simp at *; omega))) rfl rfl rfl ?_ | refine AOps.step (Val.vif hσ rfl rfl (by first | omega | (simp at *; omega))) rfl rfl rfl ?_
  refine AOps.step (Val.sliceTop hσ rfl rfl rfl rfl rfl rfl rfl rfl rfl (show (((ws.length + 1 : Nat) : Int) - 1) = (ws.length : Nat) by omega) (by omega)) rfl rfl rfl ?_
  refine AOps.step (Val.of hσ rfl rfl) rfl rfl rfl ?_
  refine AOps.forget [(13, _), (15, _), (14, _), (24, _), (0, _), (2, _), (6, _), (10, _), (11, _), (12, _)] ⟨rfl, rfl, rfl, rfl, rfl, rfl, rfl, rfl, rfl, rfl, trivial⟩ ?_
  refine AOps.nil ?_
  refine AWP.seq ?_
  refine AWP.seq ?_
  refine AWP.region ?_
  refine AOps.to (Ent.cut 900 ws.length rfl) ?_
  apply AOps.norm
  ·
   repeat' (first | exact q0 rfl | apply q1 rfl | exact q2 rfl | apply q3 rfl | exact q4 rfl | apply q5 rfl | exact q6 rfl | exact q7 rfl | exact q8)
  rw [wI_cut, Int.toNat_natCast]
  obtain ⟨s, hs⟩ : ∃ s, s = p.body.getD k default := ⟨_, rfl⟩
  rw [← hs] at hm ⊢
  have hss : stmtB s = true := by rw [hs, getD_lt hk]; exact List.all_eq_true.1 hb _ (List.getElem_mem hk)
  refine AOps.step (Val.of hσ rfl rfl) rfl rfl rfl ?_
  refine AOps.step (Val.of hσ rfl rfl) rfl rfl rfl ?_
  refine AOps.step (Val.of hσ rfl rfl) rfl rfl rfl ?_
  refine AOps.step (Val.of hσ rfl rfl) rfl rfl rfl ?_
  refine AOps.step (Val.of hσ rfl rfl) rfl rfl rfl ?_
  refine AOps.forget [(46, _), (13, _), (15, _), (14, _), (24, _), (0, _), (2, _), (6, _), (10, _), (11, _), (12, _)] ⟨rfl, rfl, rfl, rfl, rfl, rfl, rfl, rfl, rfl, rfl, rfl, trivial⟩ ?_
  refine AOps.nil ?_
  refine AWP.cond hσ rfl rfl (fun hc46 => ?_) (fun hc46 => ?_)
  ·
   try simp only [List.length_map, beq_iff_eq, decide_eq_true_eq, decide_eq_false_iff_not, Bool.not_eq_true', Bool.not_eq_false', Bool.not_true, Bool.not_false, Int.not_lt, Int.not_le] at hc46
   refine AWP.seq ?_
   refine AWP.region ?_
   refine AOps.step (Val.of hσ rfl rfl) rfl rfl rfl ?_
   refine AOps.step (Val.of hσ rfl rfl) rfl rfl rfl ?_
   refine AOps.step (Val.of hσ rfl rfl) rfl rfl rfl ?_
   refine AOps.step (Val.of hσ rfl rfl) rfl rfl rfl ?_
   refine AOps.step (Val.of hσ rfl rfl) rfl rfl rfl ?_
   refine AOps.step (Val.of hσ rfl rfl) rfl rfl rfl ?_
   first | refine AOps.step (Val.fits64 hσ rfl rfl (by first | omega | (simp at *; omega)) (by first | omega | (simp at *; omega))) rfl rfl rfl ?_ | refine AOps.step (Val.vif hσ rfl rfl (by first | omega | (simp at *; omega))) rfl rfl rfl ?_
   refine AOps.forget [(53, _), (51, _), (47, _), (46, _), (13, _), (15, _), (14, _), (24, _), (0, _), (2, _), (6, _), (10, _), (11, _), (12, _)] ⟨rfl, rfl, rfl, rfl, rfl, rfl, rfl, rfl, rfl, rfl, rfl, rfl, rfl, rfl, trivial⟩ ?_
   have he : ¬ endR p.body (k + 1) < 0 := fun h => by rw [mbody, if_pos hc46, if_pos h] at hm; cases hm
   refine AOps.lone hσ rfl rfl rfl rfl (c105' h1 h2 hk) (VAs.self rfl) rfl rfl rfl rfl rfl (B0 := 55000) rfl ?_
   refine AOps.forget [(54, _), (47, _), (46, _), (13, _), (15, _), (14, _), (24, _), (0, _), (2, _), (6, _), (10, _), (11, _), (12, _)] ⟨rfl, rfl, rfl, rfl, rfl, rfl, rfl, rfl, rfl, rfl, rfl, rfl, rfl, trivial⟩ ?_
   refine AOps.heap (HS.lit hσ rfl rfl rfl) rfl ?_
   apply AOps.norm
   ·
    repeat' (first | exact q0 rfl | apply q1 rfl | exact q2 rfl | apply q3 rfl | exact q4 rfl | apply q5 rfl | exact q6 rfl | exact q7 rfl | exact q8)
   refine AOps.forget [(55, _), (47, _), (46, _), (13, _), (15, _), (14, _), (24, _), (0, _), (2, _), (6, _), (10, _), (11, _), (12, _)] ⟨rfl, rfl, rfl, rfl, rfl, rfl, rfl, rfl, rfl, rfl, rfl, rfl, rfl, trivial⟩ ?_
   refine AOps.heap (HS.appMove (zs := (wI ((endR p.body (k + 1)).toNat :: ws)).map fI) (n := ((endR p.body (k + 1)).toNat :: ws).length) hσ rfl rfl rfl rfl rfl rfl rfl rfl rfl rfl rfl rfl rfl rfl rfl rfl (.row rfl wI_len) rfl rfl (by decide) rfl (by rw [← wI_len]; show (ws).length + 1 ≤ L; (try simp only [List.length_cons]); omega) (by rw [← wI_len]; show ((ws).length + 1) * 8 ≤ _; (try simp only [List.length_cons]); omega) (wI_push (Int.toNat_of_nonneg (Int.not_lt.1 he)).symm) wI_len.symm) rfl ?_
   apply AOps.norm
   ·
    repeat' (first | exact q0 rfl | apply q1 rfl | exact q2 rfl | apply q3 rfl | exact q4 rfl | apply q5 rfl | exact q6 rfl | exact q7 rfl | exact q8)
   apply AOps.norm
   ·
    repeat' (first | exact q0 rfl | apply q1 rfl | exact q2 rfl | apply q3 rfl | exact q4 rfl | apply q5 rfl | exact q6 rfl | exact q7 rfl | exact q8)
   refine AOps.step (Val.of hσ rfl rfl) rfl rfl rfl ?_
   refine AOps.forget [(13, _), (46, _), (15, _), (14, _), (24, _), (0, _), (2, _), (6, _), (10, _), (11, _), (12, _)] ⟨rfl, rfl, rfl, rfl, rfl, rfl, rfl, rfl, rfl, rfl, rfl, trivial⟩ ?_
   refine AOps.nil ?_
   refine AWP.seq ?_
   refine AWP.region ?_
   refine AOps.step (Val.of hσ rfl rfl) rfl rfl rfl ?_
   refine AOps.step (Val.of hσ rfl rfl) rfl rfl rfl ?_
   first | refine AOps.step (Val.fits64 hσ rfl rfl (by first | omega | (simp at *; omega)) (by first | omega | (simp at *; omega))) rfl rfl rfl ?_ | refine AOps.step (Val.vif hσ rfl rfl (by first | omega | (simp at *; omega))) rfl rfl rfl ?_
   refine AOps.forget [(59, _), (57, _), (13, _), (46, _), (15, _), (14, _), (24, _), (0, _), (2, _), (6, _), (10, _), (11, _), (12, _)] ⟨rfl, rfl, rfl, rfl, rfl, rfl, rfl, rfl, rfl, rfl, rfl, rfl, rfl, trivial⟩ ?_
   refine AOps.heap (HS.lit hσ rfl rfl rfl) rfl ?_
   apply AOps.norm
   ·
    repeat' (first | exact q0 rfl | apply q1 rfl | exact q2 rfl | apply q3 rfl | exact q4 rfl | apply q5 rfl | exact q6 rfl | exact q7 rfl | exact q8)
   refine AOps.forget [(60, _), (57, _), (13, _), (46, _), (15, _), (14, _), (24, _), (0, _), (2, _), (6, _), (10, _), (11, _), (12, _)] ⟨rfl, rfl, rfl, rfl, rfl, rfl, rfl, rfl, rfl, rfl, rfl, rfl, rfl, trivial⟩ ?_
   refine AOps.heap (HS.appMove (zs := (wI ((k + 1) :: ((endR p.body (k + 1)).toNat :: ws))).map fI) (n := ((k + 1) :: ((endR p.body (k + 1)).toNat :: ws)).length) hσ rfl rfl rfl rfl rfl rfl rfl rfl rfl rfl rfl rfl rfl rfl rfl rfl (.row rfl wI_len) rfl rfl (by decide) rfl (by rw [← wI_len]; show (((endR p.body (k + 1)).toNat :: ws)).length + 1 ≤ L; (try simp only [List.length_cons]); omega) (by rw [← wI_len]; show ((((endR p.body (k + 1)).toNat :: ws)).length + 1) * 8 ≤ _; (try simp only [List.length_cons]); omega) (wI_push (by omega)) wI_len.symm) rfl ?_
   apply AOps.norm
   ·
    repeat' (first | exact q0 rfl | apply q1 rfl | exact q2 rfl | apply q3 rfl | exact q4 rfl | apply q5 rfl | exact q6 rfl | exact q7 rfl | exact q8)
   apply AOps.norm
   ·
    repeat' (first | exact q0 rfl | apply q1 rfl | exact q2 rfl | apply q3 rfl | exact q4 rfl | apply q5 rfl | exact q6 rfl | exact q7 rfl | exact q8)
   refine AOps.step (Val.of hσ rfl rfl) rfl rfl rfl ?_
   refine AOps.forget [(13, _), (46, _), (15, _), (14, _), (24, _), (0, _), (2, _), (6, _), (10, _), (11, _), (12, _)] ⟨rfl, rfl, rfl, rfl, rfl, rfl, rfl, rfl, rfl, rfl, rfl, trivial⟩ ?_
   refine AOps.nil ?_
   refine AWP.exit ?_
   rw [mbody, if_pos hc46, if_neg he] at hm
   refine ⟨⟨m, (k + 1) :: (endR p.body (k + 1)).toNat :: ws, z.v, z.c, z.ev, z.st⟩, (Ent.sel [6, 10, 61, 901, 20000, 20001] (e' := [(0, _), (2, _), (6, _), (10, _), (11, _), (12, _), (13, _)]) rfl rfl ⟨rfl, rfl, rfl, rfl, rfl, rfl, rfl, trivial⟩ rfl).trans ((Ent.sub2 61 900 rfl rfl).trans (Ent.to ⟨rfl, rfl, rfl, rfl, rfl, rfl, rfl, trivial⟩ rfl)), ⟨hi.1, hi.2.1, hi.2.2.1, hi.2.2.2.1, hi.2.2.2.2.1, hm⟩, by rw [hn]; exact Nat.lt_succ_self m⟩
  ·
   try simp only [List.length_map, beq_iff_eq, decide_eq_true_eq, decide_eq_false_iff_not, Bool.not_eq_true', Bool.not_eq_false', Bool.not_true, Bool.not_false, Int.not_lt, Int.not_le] at hc46
   refine AWP.skip ?_
   refine AWP.seq ?_
   refine AWP.seq ?_
   refine AWP.region ?_
   refine AOps.step (Val.of hσ rfl rfl) rfl rfl rfl ?_
   refine AOps.step (Val.of hσ rfl rfl) rfl rfl rfl ?_
   refine AOps.step (Val.of hσ rfl rfl) rfl rfl rfl ?_
   refine AOps.forget [(64, _), (46, _), (13, _), (15, _), (14, _), (24, _), (0, _), (2, _), (6, _), (10, _), (11, _), (12, _)] ⟨rfl, rfl, rfl, rfl, rfl, rfl, rfl, rfl, rfl, rfl, rfl, rfl, trivial⟩ ?_
   refine AOps.nil ?_
   refine AWP.cond hσ rfl rfl (fun hc64 => ?_) (fun hc64 => ?_)
   ·
    try simp only [List.length_map, beq_iff_eq, decide_eq_true_eq, decide_eq_false_iff_not, Bool.not_eq_true', Bool.not_eq_false', Bool.not_true, Bool.not_false, Int.not_lt, Int.not_le] at hc64
    refine AWP.seq ?_
    refine AWP.region ?_
    refine AOps.step (Val.of hσ rfl rfl) rfl rfl rfl ?_
    refine AOps.step (Val.of hσ rfl rfl) rfl rfl rfl ?_
    refine AOps.step (Val.of hσ rfl rfl) rfl rfl rfl ?_
    refine AOps.heap (HS.storeBox hσ rfl rfl rfl rfl rfl rfl rfl rfl rfl rfl rfl) rfl ?_
    apply AOps.norm
    ·
     repeat' (first | exact q0 rfl | apply q1 rfl | exact q2 rfl | apply q3 rfl | exact q4 rfl | apply q5 rfl | exact q6 rfl | exact q7 rfl | exact q8)
    refine AOps.step (Val.of hσ rfl rfl) rfl rfl rfl ?_
    refine AOps.step (Val.of hσ rfl rfl) rfl rfl rfl ?_
    refine AOps.step (Val.of hσ rfl rfl) rfl rfl rfl ?_
    refine AOps.forget [(9, _), (8, _), (7, _), (64, _), (46, _), (13, _), (15, _), (14, _), (24, _), (0, _), (2, _), (6, _), (10, _), (11, _), (12, _)] ⟨rfl, rfl, rfl, rfl, rfl, rfl, rfl, rfl, rfl, rfl, rfl, rfl, rfl, rfl, rfl, trivial⟩ ?_
    refine AOps.nil ?_
    refine AWP.ret ?_
    rw [mbody, if_neg hc46, if_pos hc64] at hm
    obtain rfl := Option.some.inj hm
    refine ⟨.inl rfl, _, Ent.refl, _, rfl, [20000, 20001, 901], by decide, rfl, rfl, rfl⟩
   ·
    try simp only [List.length_map, beq_iff_eq, decide_eq_true_eq, decide_eq_false_iff_not, Bool.not_eq_true', Bool.not_eq_false', Bool.not_true, Bool.not_false, Int.not_lt, Int.not_le] at hc64
    refine AWP.skip ?_
    refine AWP.seq ?_
    refine AWP.region ?_
    refine AOps.step (Val.of hσ rfl rfl) rfl rfl rfl ?_
    first | refine AOps.step (Val.fits64 hσ rfl rfl (by first | omega | (simp at *; omega)) (by first | omega | (simp at *; omega))) rfl rfl rfl ?_ | refine AOps.step (Val.vif hσ rfl rfl (by first | omega | (simp at *; omega))) rfl rfl rfl ?_
    refine AOps.step (Val.of hσ rfl rfl) rfl rfl rfl ?_
    refine AOps.forget [(12, _), (64, _), (46, _), (13, _), (15, _), (14, _), (24, _), (0, _), (2, _), (6, _), (10, _), (11, _)] ⟨rfl, rfl, rfl, rfl, rfl, rfl, rfl, rfl, rfl, rfl, rfl, rfl, trivial⟩ ?_
    refine AOps.nil ?_
    refine AWP.seq ?_
    refine AWP.region ?_
    refine AOps.step (Val.of hσ rfl rfl) rfl rfl rfl ?_
    refine AOps.inn hσ [10, 20000, 20001] (bin := [sbox, nrow z.v, nrow z.c]) rfl rfl rfl rfl (c106 h1 h2 hss hc46 hi.1 hi.2.1) rfl rfl rfl rfl rfl rfl (B0 := 72000) rfl rfl ?_
    apply AOps.norm
    ·
     repeat' (first | exact q0 rfl | apply q1 rfl | exact q2 rfl | apply q3 rfl | exact q4 rfl | apply q5 rfl | exact q6 rfl | exact q7 rfl | exact q8)
    obtain ⟨hq1, hq2⟩ := stepS_ok (s := s) hi.1 hi.2.1
    obtain ⟨q, hq⟩ : ∃ q, q = stepS s z.v z.c := ⟨_, rfl⟩
    rw [← hq] at hq1 hq2 ⊢
    have hn4 : q.2.1.length = 4 := by have := (numsB_iff hq1).2; omega
    have hn8 : q.2.2.length = 8 := by have := (numsB_iff hq2).2; omega
    refine AOps.step (Val.of hσ rfl rfl) rfl rfl rfl ?_
    refine AOps.forget [(16, _), (12, _), (64, _), (46, _), (13, _), (15, _), (14, _), (24, _), (0, _), (2, _), (6, _), (10, _), (11, _)] ⟨rfl, rfl, rfl, rfl, rfl, rfl, rfl, rfl, rfl, rfl, rfl, rfl, rfl, trivial⟩ ?_
    refine AOps.nil ?_
    refine AWP.seq ?_
    refine AWP.seq ?_
    refine AWP.region ?_
    refine AOps.step (Val.of hσ rfl rfl) rfl rfl rfl ?_
    refine AOps.step (Val.of hσ rfl rfl) rfl rfl rfl ?_
    refine AOps.nil ?_
    refine AWP.cond hσ rfl rfl (fun hc73 => ?_) (fun hc73 => ?_)
    ·
     try simp only [List.length_map, beq_iff_eq, decide_eq_true_eq, decide_eq_false_iff_not, Bool.not_eq_true', Bool.not_eq_false', Bool.not_true, Bool.not_false, Int.not_lt, Int.not_le] at hc73
     refine AWP.seq ?_
     refine AWP.region ?_
     refine AOps.step (Val.of hσ rfl rfl) rfl rfl rfl ?_
     refine AOps.step (Val.of hσ rfl rfl) rfl rfl rfl ?_
     refine AOps.step (Val.of hσ rfl rfl) rfl rfl rfl ?_
     refine AOps.step (Val.of hσ rfl rfl) rfl rfl rfl ?_
     refine AOps.heap (HS.storeBox hσ rfl rfl rfl rfl rfl rfl rfl rfl rfl rfl rfl) rfl ?_
     apply AOps.norm
     ·
      repeat' (first | exact q0 rfl | apply q1 rfl | exact q2 rfl | apply q3 rfl | exact q4 rfl | apply q5 rfl | exact q6 rfl | exact q7 rfl | exact q8)
     refine AOps.step (Val.of hσ rfl rfl) rfl rfl rfl ?_
     refine AOps.step (Val.of hσ rfl rfl) rfl rfl rfl ?_
     refine AOps.step (Val.of hσ rfl rfl) rfl rfl rfl ?_
     refine AOps.forget [(9, _), (8, _), (7, _), (73, _), (72, _), (16, _), (12, _), (64, _), (46, _), (13, _), (15, _), (14, _), (24, _), (0, _), (2, _), (6, _), (10, _), (11, _)] ⟨rfl, rfl, rfl, rfl, rfl, rfl, rfl, rfl, rfl, rfl, rfl, rfl, rfl, rfl, rfl, rfl, rfl, rfl, trivial⟩ ?_
     refine AOps.nil ?_
     refine AWP.ret ?_
     rw [mbody, if_neg hc46, if_neg hc64, ← hq, if_pos hc73] at hm
     obtain rfl := Option.some.inj hm
     refine ⟨.inl rfl, _, Ent.refl, _, rfl, [20000, 20001, 901], by decide, rfl, rfl, rfl⟩
    ·
     try simp only [List.length_map, beq_iff_eq, decide_eq_true_eq, decide_eq_false_iff_not, Bool.not_eq_true', Bool.not_eq_false', Bool.not_true, Bool.not_false, Int.not_lt, Int.not_le] at hc73
     refine AWP.skip ?_
     refine AWP.seq ?_
     refine AWP.region ?_
     have hq0 : (stepS s z.v z.c).1 = 0 := by rw [← hq]; exact hc73
     have htm := (stmt_facts hss).1
     refine AOps.step (Val.of hσ rfl rfl) rfl rfl rfl ?_
     refine AOps.step (Val.of hσ rfl rfl) rfl rfl rfl ?_
     refine AOps.step (Val.of hσ rfl rfl) rfl rfl rfl ?_
     refine AOps.forget [(80, _), (73, _), (72, _), (16, _), (12, _), (64, _), (46, _), (13, _), (15, _), (14, _), (24, _), (0, _), (2, _), (6, _), (10, _), (11, _)] ⟨rfl, rfl, rfl, rfl, rfl, rfl, rfl, rfl, rfl, rfl, rfl, rfl, rfl, rfl, rfl, rfl, trivial⟩ ?_
     refine AOps.lone hσ rfl rfl rfl rfl (c107 (t := s.sum) (vars := q.2.1) (cells := q.2.2) h1 h2 htm hq1) (.cons (.c (.sub rfl)) (.cons (.c (.pb (cs := [ints q.2.1, ints q.2.2]) rfl (.cons (.whole rfl (by rw [List.length_map]; exact hn4.symm)) (.cons (.whole rfl (by rw [List.length_map]; exact hn8.symm)) .nil)))) .nil)) rfl rfl rfl rfl rfl (B0 := 82000) rfl ?_
     refine AOps.step (Val.of hσ rfl rfl) rfl rfl rfl ?_
     refine AOps.step (Val.of hσ rfl rfl) rfl rfl rfl ?_
     refine AOps.forget [(17, _), (73, _), (72, _), (16, _), (12, _), (64, _), (46, _), (13, _), (15, _), (14, _), (24, _), (0, _), (2, _), (6, _), (10, _), (11, _)] ⟨rfl, rfl, rfl, rfl, rfl, rfl, rfl, rfl, rfl, rfl, rfl, rfl, rfl, rfl, rfl, rfl, trivial⟩ ?_
     refine AOps.nil ?_
     refine AWP.seq ?_
     refine AWP.region ?_
     refine AOps.step (Val.of hσ rfl rfl) rfl rfl rfl ?_
     refine AOps.step (Val.of hσ rfl rfl) rfl rfl rfl ?_
     refine AOps.step (Val.of hσ rfl rfl) rfl rfl rfl ?_
     refine AOps.step (Val.of hσ rfl rfl) rfl rfl rfl ?_
     refine AOps.forget [(86, _), (17, _), (73, _), (72, _), (16, _), (12, _), (64, _), (46, _), (13, _), (15, _), (14, _), (24, _), (0, _), (2, _), (6, _), (10, _), (11, _)] ⟨rfl, rfl, rfl, rfl, rfl, rfl, rfl, rfl, rfl, rfl, rfl, rfl, rfl, rfl, rfl, rfl, rfl, trivial⟩ ?_
     refine AOps.nil ?_
     refine AWP.block ?_
     refine AWP.seq ?_
     refine AWP.region ?_
     refine AOps.step (Val.of hσ rfl rfl) rfl rfl rfl ?_
     refine AOps.step (Val.of hσ rfl rfl) rfl rfl rfl ?_
     refine AOps.nil ?_
     refine AWP.cond hσ rfl rfl (fun hc87 => ?_) (fun hc87 => ?_)
     ·
      try simp only [List.length_map, beq_iff_eq, decide_eq_true_eq, decide_eq_false_iff_not, Bool.not_eq_true', Bool.not_eq_false', Bool.not_true, Bool.not_false, Int.not_lt, Int.not_le] at hc87
      refine AWP.region ?_
      refine AOps.step (Val.of hσ rfl rfl) rfl rfl rfl ?_
      refine AOps.step (Val.of hσ rfl rfl) rfl rfl rfl ?_
      refine AOps.step (Val.of hσ rfl rfl) rfl rfl rfl ?_
      refine AOps.step (Val.of hσ rfl rfl) rfl rfl rfl ?_
      refine AOps.step (Val.of hσ rfl rfl) rfl rfl rfl ?_
      refine AOps.forget [(93, _), (89, _), (87, _), (88, _), (86, _), (17, _), (73, _), (72, _), (16, _), (12, _), (64, _), (46, _), (13, _), (15, _), (14, _), (24, _), (0, _), (2, _), (6, _), (10, _), (11, _)] ⟨rfl, rfl, rfl, rfl, rfl, rfl, rfl, rfl, rfl, rfl, rfl, rfl, rfl, rfl, rfl, rfl, rfl, rfl, rfl, rfl, rfl, trivial⟩ ?_
      refine AOps.heap (HS.lit hσ rfl rfl rfl) rfl ?_
      apply AOps.norm
      ·
       repeat' (first | exact q0 rfl | apply q1 rfl | exact q2 rfl | apply q3 rfl | exact q4 rfl | apply q5 rfl | exact q6 rfl | exact q7 rfl | exact q8)
      refine AOps.forget [(94, _), (89, _), (87, _), (88, _), (86, _), (17, _), (73, _), (72, _), (16, _), (12, _), (64, _), (46, _), (13, _), (15, _), (14, _), (24, _), (0, _), (2, _), (6, _), (10, _), (11, _)] ⟨rfl, rfl, rfl, rfl, rfl, rfl, rfl, rfl, rfl, rfl, rfl, rfl, rfl, rfl, rfl, rfl, rfl, rfl, rfl, rfl, rfl, trivial⟩ ?_
      refine AOps.heap (HS.appMove (zs := (z.ev ++ [s.event]).map fI) (n := (z.ev ++ [s.event]).length) hσ rfl rfl rfl rfl rfl rfl rfl rfl rfl rfl rfl rfl rfl rfl rfl rfl (.row rfl (List.length_map _).symm) rfl rfl (by decide) rfl (by rw [List.length_map]; show z.ev.length + 1 ≤ L; omega) (by rw [List.length_map]; show (z.ev.length + 1) * 8 ≤ _; omega) (by simp) (List.length_map _)) rfl ?_
      apply AOps.norm
      ·
       repeat' (first | exact q0 rfl | apply q1 rfl | exact q2 rfl | apply q3 rfl | exact q4 rfl | apply q5 rfl | exact q6 rfl | exact q7 rfl | exact q8)
      apply AOps.norm
      ·
       repeat' (first | exact q0 rfl | apply q1 rfl | exact q2 rfl | apply q3 rfl | exact q4 rfl | apply q5 rfl | exact q6 rfl | exact q7 rfl | exact q8)
      refine AOps.step (Val.of hσ rfl rfl) rfl rfl rfl ?_
      refine AOps.forget [(11, _), (87, _), (88, _), (86, _), (17, _), (73, _), (72, _), (16, _), (12, _), (64, _), (46, _), (13, _), (15, _), (14, _), (24, _), (0, _), (2, _), (6, _), (10, _)] ⟨rfl, rfl, rfl, rfl, rfl, rfl, rfl, rfl, rfl, rfl, rfl, rfl, rfl, rfl, rfl, rfl, rfl, rfl, rfl, trivial⟩ ?_
      refine AOps.nil ?_
      rw [mbody, if_neg hc46, if_neg hc64, if_neg (fun h => h hq0), ← hq, if_pos hc87] at hm
      refine ⟨⟨m, ws, q.2.1, q.2.2, z.ev ++ [s.event], z.st + 1⟩, (Ent.sel [6, 10, 900, 95, 20000, 20001] (e' := [(0, _), (2, _), (6, _), (10, _), (11, _), (12, _), (13, _)]) rfl rfl ⟨rfl, rfl, rfl, rfl, rfl, rfl, rfl, trivial⟩ rfl).trans ((Ent.sub2 95 901 rfl rfl).trans (Ent.to ⟨rfl, rfl, rfl, rfl, rfl, rfl, rfl, trivial⟩ rfl)), ⟨hq1, hq2, by show 0 ≤ z.st + 1; omega, by show z.st + 1 ≤ f; omega, by show ((z.ev ++ [s.event]).length : Int) ≤ z.st + 1; simp; omega, hm⟩, by rw [hn]; exact Nat.lt_succ_self m⟩
     ·
      try simp only [List.length_map, beq_iff_eq, decide_eq_true_eq, decide_eq_false_iff_not, Bool.not_eq_true', Bool.not_eq_false', Bool.not_true, Bool.not_false, Int.not_lt, Int.not_le] at hc87
      refine AWP.seq ?_
      refine AWP.region ?_
      refine AOps.step (Val.of hσ rfl rfl) rfl rfl rfl ?_
      refine AOps.step (Val.of hσ rfl rfl) rfl rfl rfl ?_
      refine AOps.nil ?_
      refine AWP.cond hσ rfl rfl (fun hc96 => ?_) (fun hc96 => ?_)
      ·
       try simp only [List.length_map, beq_iff_eq, decide_eq_true_eq, decide_eq_false_iff_not, Bool.not_eq_true', Bool.not_eq_false', Bool.not_true, Bool.not_false, Int.not_lt, Int.not_le] at hc96
       refine AWP.seq ?_
       refine AWP.region ?_
       refine AOps.step (Val.of hσ rfl rfl) rfl rfl rfl ?_
       refine AOps.nil ?_
       refine AWP.cond hσ rfl rfl (fun hc98 => ?_) (fun hc98 => ?_)
       ·
        try simp only [List.length_map, beq_iff_eq, decide_eq_true_eq, decide_eq_false_iff_not, Bool.not_eq_true', Bool.not_eq_false', Bool.not_true, Bool.not_false, Int.not_lt, Int.not_le] at hc98
        refine AWP.region ?_
        refine AOps.step (Val.of hσ rfl rfl) rfl rfl rfl ?_
        refine AOps.step (Val.of hσ rfl rfl) rfl rfl rfl ?_
        first | refine AOps.step (Val.fits64 hσ rfl rfl (by first | omega | (simp at *; omega)) (by first | omega | (simp at *; omega))) rfl rfl rfl ?_ | refine AOps.step (Val.vif hσ rfl rfl (by first | omega | (simp at *; omega))) rfl rfl rfl ?_
        refine AOps.forget [(101, _), (99, _), (98, _), (96, _), (97, _), (87, _), (88, _), (86, _), (17, _), (73, _), (72, _), (16, _), (12, _), (64, _), (46, _), (13, _), (15, _), (14, _), (24, _), (0, _), (2, _), (6, _), (10, _), (11, _)] ⟨rfl, rfl, rfl, rfl, rfl, rfl, rfl, rfl, rfl, rfl, rfl, rfl, rfl, rfl, rfl, rfl, rfl, rfl, rfl, rfl, rfl, rfl, rfl, rfl, trivial⟩ ?_
        refine AOps.heap (HS.lit hσ rfl rfl rfl) rfl ?_
        apply AOps.norm
        ·
         repeat' (first | exact q0 rfl | apply q1 rfl | exact q2 rfl | apply q3 rfl | exact q4 rfl | apply q5 rfl | exact q6 rfl | exact q7 rfl | exact q8)
        refine AOps.forget [(102, _), (99, _), (98, _), (96, _), (97, _), (87, _), (88, _), (86, _), (17, _), (73, _), (72, _), (16, _), (12, _), (64, _), (46, _), (13, _), (15, _), (14, _), (24, _), (0, _), (2, _), (6, _), (10, _), (11, _)] ⟨rfl, rfl, rfl, rfl, rfl, rfl, rfl, rfl, rfl, rfl, rfl, rfl, rfl, rfl, rfl, rfl, rfl, rfl, rfl, rfl, rfl, rfl, rfl, rfl, trivial⟩ ?_
        refine AOps.heap (HS.appMove (zs := (wI ((k + 1) :: ws)).map fI) (n := ((k + 1) :: ws).length) hσ rfl rfl rfl rfl rfl rfl rfl rfl rfl rfl rfl rfl rfl rfl rfl rfl (.row rfl wI_len) rfl rfl (by decide) rfl (by rw [← wI_len]; show (ws).length + 1 ≤ L; (try simp only [List.length_cons]); omega) (by rw [← wI_len]; show ((ws).length + 1) * 8 ≤ _; (try simp only [List.length_cons]); omega) (wI_push (by omega)) wI_len.symm) rfl ?_
        apply AOps.norm
        ·
         repeat' (first | exact q0 rfl | apply q1 rfl | exact q2 rfl | apply q3 rfl | exact q4 rfl | apply q5 rfl | exact q6 rfl | exact q7 rfl | exact q8)
        apply AOps.norm
        ·
         repeat' (first | exact q0 rfl | apply q1 rfl | exact q2 rfl | apply q3 rfl | exact q4 rfl | apply q5 rfl | exact q6 rfl | exact q7 rfl | exact q8)
        refine AOps.step (Val.of hσ rfl rfl) rfl rfl rfl ?_
        refine AOps.forget [(13, _), (98, _), (96, _), (97, _), (87, _), (88, _), (86, _), (17, _), (73, _), (72, _), (16, _), (12, _), (64, _), (46, _), (15, _), (14, _), (24, _), (0, _), (2, _), (6, _), (10, _), (11, _)] ⟨rfl, rfl, rfl, rfl, rfl, rfl, rfl, rfl, rfl, rfl, rfl, rfl, rfl, rfl, rfl, rfl, rfl, rfl, rfl, rfl, rfl, rfl, trivial⟩ ?_
        refine AOps.nil ?_
        rw [mbody, if_neg hc46, if_neg hc64, if_neg (fun h => h hq0), ← hq, if_neg hc87, if_pos hc96, if_pos hc98] at hm
        refine ⟨⟨m, (k + 1) :: ws, q.2.1, q.2.2, z.ev, z.st + 1⟩, (Ent.sel [6, 10, 103, 901, 20000, 20001] (e' := [(0, _), (2, _), (6, _), (10, _), (11, _), (12, _), (13, _)]) rfl rfl ⟨rfl, rfl, rfl, rfl, rfl, rfl, rfl, trivial⟩ rfl).trans ((Ent.sub2 103 900 rfl rfl).trans (Ent.to ⟨rfl, rfl, rfl, rfl, rfl, rfl, rfl, trivial⟩ rfl)), ⟨hq1, hq2, by show 0 ≤ z.st + 1; omega, by show z.st + 1 ≤ f; omega, by show (z.ev.length : Int) ≤ z.st + 1; omega, hm⟩, by rw [hn]; exact Nat.lt_succ_self m⟩
       ·
        try simp only [List.length_map, beq_iff_eq, decide_eq_true_eq, decide_eq_false_iff_not, Bool.not_eq_true', Bool.not_eq_false', Bool.not_true, Bool.not_false, Int.not_lt, Int.not_le] at hc98
        refine AWP.region ?_
        refine AOps.step (Val.of hσ rfl rfl) rfl rfl rfl ?_
        refine AOps.step (Val.of hσ rfl rfl) rfl rfl rfl ?_
        refine AOps.step (Val.of hσ rfl rfl) rfl rfl rfl ?_
        refine AOps.step (Val.of hσ rfl rfl) rfl rfl rfl ?_
        refine AOps.step (Val.of hσ rfl rfl) rfl rfl rfl ?_
        refine AOps.step (Val.of hσ rfl rfl) rfl rfl rfl ?_
        first | refine AOps.step (Val.fits64 hσ rfl rfl (by first | omega | (simp at *; omega)) (by first | omega | (simp at *; omega))) rfl rfl rfl ?_ | refine AOps.step (Val.vif hσ rfl rfl (by first | omega | (simp at *; omega))) rfl rfl rfl ?_
        refine AOps.forget [(110, _), (108, _), (104, _), (98, _), (96, _), (97, _), (87, _), (88, _), (86, _), (17, _), (73, _), (72, _), (16, _), (12, _), (64, _), (46, _), (13, _), (15, _), (14, _), (24, _), (0, _), (2, _), (6, _), (10, _), (11, _)] ⟨rfl, rfl, rfl, rfl, rfl, rfl, rfl, rfl, rfl, rfl, rfl, rfl, rfl, rfl, rfl, rfl, rfl, rfl, rfl, rfl, rfl, rfl, rfl, rfl, rfl, trivial⟩ ?_
        have he : ¬ endR p.body (k + 1) < 0 := fun h => by rw [mbody, if_neg hc46, if_neg hc64, if_neg (fun h => h hq0), ← hq, if_neg hc87, if_pos hc96, if_neg (Int.not_le.2 hc98), if_pos h] at hm; cases hm
        refine AOps.lone hσ rfl rfl rfl rfl (c105' h1 h2 hk) (VAs.self rfl) rfl rfl rfl rfl rfl (B0 := 112000) rfl ?_
        refine AOps.forget [(111, _), (104, _), (98, _), (96, _), (97, _), (87, _), (88, _), (86, _), (17, _), (73, _), (72, _), (16, _), (12, _), (64, _), (46, _), (13, _), (15, _), (14, _), (24, _), (0, _), (2, _), (6, _), (10, _), (11, _)] ⟨rfl, rfl, rfl, rfl, rfl, rfl, rfl, rfl, rfl, rfl, rfl, rfl, rfl, rfl, rfl, rfl, rfl, rfl, rfl, rfl, rfl, rfl, rfl, rfl, trivial⟩ ?_
        refine AOps.heap (HS.lit hσ rfl rfl rfl) rfl ?_
        apply AOps.norm
        ·
         repeat' (first | exact q0 rfl | apply q1 rfl | exact q2 rfl | apply q3 rfl | exact q4 rfl | apply q5 rfl | exact q6 rfl | exact q7 rfl | exact q8)
        refine AOps.forget [(112, _), (104, _), (98, _), (96, _), (97, _), (87, _), (88, _), (86, _), (17, _), (73, _), (72, _), (16, _), (12, _), (64, _), (46, _), (13, _), (15, _), (14, _), (24, _), (0, _), (2, _), (6, _), (10, _), (11, _)] ⟨rfl, rfl, rfl, rfl, rfl, rfl, rfl, rfl, rfl, rfl, rfl, rfl, rfl, rfl, rfl, rfl, rfl, rfl, rfl, rfl, rfl, rfl, rfl, rfl, trivial⟩ ?_
        refine AOps.heap (HS.appMove (zs := (wI ((endR p.body (k + 1)).toNat :: ws)).map fI) (n := ((endR p.body (k + 1)).toNat :: ws).length) hσ rfl rfl rfl rfl rfl rfl rfl rfl rfl rfl rfl rfl rfl rfl rfl rfl (.row rfl wI_len) rfl rfl (by decide) rfl (by rw [← wI_len]; show (ws).length + 1 ≤ L; (try simp only [List.length_cons]); omega) (by rw [← wI_len]; show ((ws).length + 1) * 8 ≤ _; (try simp only [List.length_cons]); omega) (wI_push (Int.toNat_of_nonneg (Int.not_lt.1 he)).symm) wI_len.symm) rfl ?_
        apply AOps.norm
        ·
         repeat' (first | exact q0 rfl | apply q1 rfl | exact q2 rfl | apply q3 rfl | exact q4 rfl | apply q5 rfl | exact q6 rfl | exact q7 rfl | exact q8)
        apply AOps.norm
        ·
         repeat' (first | exact q0 rfl | apply q1 rfl | exact q2 rfl | apply q3 rfl | exact q4 rfl | apply q5 rfl | exact q6 rfl | exact q7 rfl | exact q8)
        refine AOps.step (Val.of hσ rfl rfl) rfl rfl rfl ?_
        refine AOps.forget [(13, _), (98, _), (96, _), (97, _), (87, _), (88, _), (86, _), (17, _), (73, _), (72, _), (16, _), (12, _), (64, _), (46, _), (15, _), (14, _), (24, _), (0, _), (2, _), (6, _), (10, _), (11, _)] ⟨rfl, rfl, rfl, rfl, rfl, rfl, rfl, rfl, rfl, rfl, rfl, rfl, rfl, rfl, rfl, rfl, rfl, rfl, rfl, rfl, rfl, rfl, trivial⟩ ?_
        refine AOps.nil ?_
        rw [mbody, if_neg hc46, if_neg hc64, if_neg (fun h => h hq0), ← hq, if_neg hc87, if_pos hc96, if_neg (Int.not_le.2 hc98), if_neg he] at hm
        refine ⟨⟨m, (endR p.body (k + 1)).toNat :: ws, q.2.1, q.2.2, z.ev, z.st + 1⟩, (Ent.sel [6, 10, 113, 901, 20000, 20001] (e' := [(0, _), (2, _), (6, _), (10, _), (11, _), (12, _), (13, _)]) rfl rfl ⟨rfl, rfl, rfl, rfl, rfl, rfl, rfl, trivial⟩ rfl).trans ((Ent.sub2 113 900 rfl rfl).trans (Ent.to ⟨rfl, rfl, rfl, rfl, rfl, rfl, rfl, trivial⟩ rfl)), ⟨hq1, hq2, by show 0 ≤ z.st + 1; omega, by show z.st + 1 ≤ f; omega, by show (z.ev.length : Int) ≤ z.st + 1; omega, hm⟩, by rw [hn]; exact Nat.lt_succ_self m⟩
      ·
       try simp only [List.length_map, beq_iff_eq, decide_eq_true_eq, decide_eq_false_iff_not, Bool.not_eq_true', Bool.not_eq_false', Bool.not_true, Bool.not_false, Int.not_lt, Int.not_le] at hc96
       refine AWP.seq ?_
       refine AWP.region ?_
       refine AOps.step (Val.of hσ rfl rfl) rfl rfl rfl ?_
       refine AOps.step (Val.of hσ rfl rfl) rfl rfl rfl ?_
       refine AOps.nil ?_
       refine AWP.cond hσ rfl rfl (fun hc114 => ?_) (fun hc114 => ?_)
       ·
        try simp only [List.length_map, beq_iff_eq, decide_eq_true_eq, decide_eq_false_iff_not, Bool.not_eq_true', Bool.not_eq_false', Bool.not_true, Bool.not_false, Int.not_lt, Int.not_le] at hc114
        refine AWP.seq ?_
        refine AWP.region ?_
        refine AOps.step (Val.of hσ rfl rfl) rfl rfl rfl ?_
        refine AOps.nil ?_
        refine AWP.cond hσ rfl rfl (fun hc116 => ?_) (fun hc116 => ?_)
        ·
         try simp only [List.length_map, beq_iff_eq, decide_eq_true_eq, decide_eq_false_iff_not, Bool.not_eq_true', Bool.not_eq_false', Bool.not_true, Bool.not_false, Int.not_lt, Int.not_le] at hc116
         refine AWP.seq ?_
         refine AWP.region ?_
         refine AOps.step (Val.of hσ rfl rfl) rfl rfl rfl ?_
         refine AOps.step (Val.of hσ rfl rfl) rfl rfl rfl ?_
         refine AOps.heap (HS.lit hσ rfl rfl rfl) rfl ?_
         apply AOps.norm
         ·
          repeat' (first | exact q0 rfl | apply q1 rfl | exact q2 rfl | apply q3 rfl | exact q4 rfl | apply q5 rfl | exact q6 rfl | exact q7 rfl | exact q8)
         refine AOps.forget [(119, _), (117, _), (116, _), (114, _), (115, _), (96, _), (97, _), (87, _), (88, _), (86, _), (17, _), (73, _), (72, _), (16, _), (12, _), (64, _), (46, _), (13, _), (15, _), (14, _), (24, _), (0, _), (2, _), (6, _), (10, _), (11, _)] ⟨rfl, rfl, rfl, rfl, rfl, rfl, rfl, rfl, rfl, rfl, rfl, rfl, rfl, rfl, rfl, rfl, rfl, rfl, rfl, rfl, rfl, rfl, rfl, rfl, rfl, rfl, trivial⟩ ?_
         refine AOps.heap (HS.appMove (zs := (wI (k :: ws)).map fI) (n := (k :: ws).length) hσ rfl rfl rfl rfl rfl rfl rfl rfl rfl rfl rfl rfl rfl rfl rfl rfl (.row rfl wI_len) rfl rfl (by decide) rfl (by rw [← wI_len]; show (ws).length + 1 ≤ L; (try simp only [List.length_cons]); omega) (by rw [← wI_len]; show ((ws).length + 1) * 8 ≤ _; (try simp only [List.length_cons]); omega) (wI_push rfl) wI_len.symm) rfl ?_
         apply AOps.norm
         ·
          repeat' (first | exact q0 rfl | apply q1 rfl | exact q2 rfl | apply q3 rfl | exact q4 rfl | apply q5 rfl | exact q6 rfl | exact q7 rfl | exact q8)
         apply AOps.norm
         ·
          repeat' (first | exact q0 rfl | apply q1 rfl | exact q2 rfl | apply q3 rfl | exact q4 rfl | apply q5 rfl | exact q6 rfl | exact q7 rfl | exact q8)
         refine AOps.step (Val.of hσ rfl rfl) rfl rfl rfl ?_
         refine AOps.forget [(13, _), (116, _), (114, _), (115, _), (96, _), (97, _), (87, _), (88, _), (86, _), (17, _), (73, _), (72, _), (16, _), (12, _), (64, _), (46, _), (15, _), (14, _), (24, _), (0, _), (2, _), (6, _), (10, _), (11, _)] ⟨rfl, rfl, rfl, rfl, rfl, rfl, rfl, rfl, rfl, rfl, rfl, rfl, rfl, rfl, rfl, rfl, rfl, rfl, rfl, rfl, rfl, rfl, rfl, rfl, trivial⟩ ?_
         refine AOps.nil ?_
         refine AWP.region ?_
         refine AOps.step (Val.of hσ rfl rfl) rfl rfl rfl ?_
         refine AOps.step (Val.of hσ rfl rfl) rfl rfl rfl ?_
         first | refine AOps.step (Val.fits64 hσ rfl rfl (by first | omega | (simp at *; omega)) (by first | omega | (simp at *; omega))) rfl rfl rfl ?_ | refine AOps.step (Val.vif hσ rfl rfl (by first | omega | (simp at *; omega))) rfl rfl rfl ?_
         refine AOps.forget [(123, _), (121, _), (13, _), (116, _), (114, _), (115, _), (96, _), (97, _), (87, _), (88, _), (86, _), (17, _), (73, _), (72, _), (16, _), (12, _), (64, _), (46, _), (15, _), (14, _), (24, _), (0, _), (2, _), (6, _), (10, _), (11, _)] ⟨rfl, rfl, rfl, rfl, rfl, rfl, rfl, rfl, rfl, rfl, rfl, rfl, rfl, rfl, rfl, rfl, rfl, rfl, rfl, rfl, rfl, rfl, rfl, rfl, rfl, rfl, trivial⟩ ?_
         refine AOps.heap (HS.lit hσ rfl rfl rfl) rfl ?_
         apply AOps.norm
         ·
          repeat' (first | exact q0 rfl | apply q1 rfl | exact q2 rfl | apply q3 rfl | exact q4 rfl | apply q5 rfl | exact q6 rfl | exact q7 rfl | exact q8)
         refine AOps.forget [(124, _), (121, _), (13, _), (116, _), (114, _), (115, _), (96, _), (97, _), (87, _), (88, _), (86, _), (17, _), (73, _), (72, _), (16, _), (12, _), (64, _), (46, _), (15, _), (14, _), (24, _), (0, _), (2, _), (6, _), (10, _), (11, _)] ⟨rfl, rfl, rfl, rfl, rfl, rfl, rfl, rfl, rfl, rfl, rfl, rfl, rfl, rfl, rfl, rfl, rfl, rfl, rfl, rfl, rfl, rfl, rfl, rfl, rfl, rfl, trivial⟩ ?_
         refine AOps.heap (HS.appMove (zs := (wI ((k + 1) :: (k :: ws))).map fI) (n := ((k + 1) :: (k :: ws)).length) hσ rfl rfl rfl rfl rfl rfl rfl rfl rfl rfl rfl rfl rfl rfl rfl rfl (.row rfl wI_len) rfl rfl (by decide) rfl (by rw [← wI_len]; show ((k :: ws)).length + 1 ≤ L; (try simp only [List.length_cons]); omega) (by rw [← wI_len]; show (((k :: ws)).length + 1) * 8 ≤ _; (try simp only [List.length_cons]); omega) (wI_push (by omega)) wI_len.symm) rfl ?_
         apply AOps.norm
         ·
          repeat' (first | exact q0 rfl | apply q1 rfl | exact q2 rfl | apply q3 rfl | exact q4 rfl | apply q5 rfl | exact q6 rfl | exact q7 rfl | exact q8)
         apply AOps.norm
         ·
          repeat' (first | exact q0 rfl | apply q1 rfl | exact q2 rfl | apply q3 rfl | exact q4 rfl | apply q5 rfl | exact q6 rfl | exact q7 rfl | exact q8)
         refine AOps.step (Val.of hσ rfl rfl) rfl rfl rfl ?_
         refine AOps.forget [(13, _), (116, _), (114, _), (115, _), (96, _), (97, _), (87, _), (88, _), (86, _), (17, _), (73, _), (72, _), (16, _), (12, _), (64, _), (46, _), (15, _), (14, _), (24, _), (0, _), (2, _), (6, _), (10, _), (11, _)] ⟨rfl, rfl, rfl, rfl, rfl, rfl, rfl, rfl, rfl, rfl, rfl, rfl, rfl, rfl, rfl, rfl, rfl, rfl, rfl, rfl, rfl, rfl, rfl, rfl, trivial⟩ ?_
         refine AOps.nil ?_
         rw [mbody, if_neg hc46, if_neg hc64, if_neg (fun h => h hq0), ← hq, if_neg hc87, if_neg hc96, if_pos hc114, if_pos hc116] at hm
         refine ⟨⟨m, (k + 1) :: k :: ws, q.2.1, q.2.2, z.ev, z.st + 1⟩, (Ent.sel [6, 10, 125, 901, 20000, 20001] (e' := [(0, _), (2, _), (6, _), (10, _), (11, _), (12, _), (13, _)]) rfl rfl ⟨rfl, rfl, rfl, rfl, rfl, rfl, rfl, trivial⟩ rfl).trans ((Ent.sub2 125 900 rfl rfl).trans (Ent.to ⟨rfl, rfl, rfl, rfl, rfl, rfl, rfl, trivial⟩ rfl)), ⟨hq1, hq2, by show 0 ≤ z.st + 1; omega, by show z.st + 1 ≤ f; omega, by show (z.ev.length : Int) ≤ z.st + 1; omega, hm⟩, by rw [hn]; exact Nat.lt_succ_self m⟩
        ·
         try simp only [List.length_map, beq_iff_eq, decide_eq_true_eq, decide_eq_false_iff_not, Bool.not_eq_true', Bool.not_eq_false', Bool.not_true, Bool.not_false, Int.not_lt, Int.not_le] at hc116
         refine AWP.skip ?_
         rw [mbody, if_neg hc46, if_neg hc64, if_neg (fun h => h hq0), ← hq, if_neg hc87, if_neg hc96, if_pos hc114, if_neg (Int.not_le.2 hc116)] at hm
         refine ⟨⟨m, ws, q.2.1, q.2.2, z.ev, z.st + 1⟩, (Ent.sel [6, 10, 900, 901, 20000, 20001] (e' := [(0, _), (2, _), (6, _), (10, _), (11, _), (12, _), (13, _)]) rfl rfl ⟨rfl, rfl, rfl, rfl, rfl, rfl, rfl, trivial⟩ rfl).trans (Ent.to ⟨rfl, rfl, rfl, rfl, rfl, rfl, rfl, trivial⟩ rfl), ⟨hq1, hq2, by show 0 ≤ z.st + 1; omega, by show z.st + 1 ≤ f; omega, by show (z.ev.length : Int) ≤ z.st + 1; omega, hm⟩, by rw [hn]; exact Nat.lt_succ_self m⟩
       ·
        try simp only [List.length_map, beq_iff_eq, decide_eq_true_eq, decide_eq_false_iff_not, Bool.not_eq_true', Bool.not_eq_false', Bool.not_true, Bool.not_false, Int.not_lt, Int.not_le] at hc114
        refine AWP.skip ?_
        rw [mbody, if_neg hc46, if_neg hc64, if_neg (fun h => h hq0), ← hq, if_neg hc87, if_neg hc96, if_neg hc114] at hm
        refine ⟨⟨m, ws, q.2.1, q.2.2, z.ev, z.st + 1⟩, (Ent.sel [6, 10, 900, 901, 20000, 20001] (e' := [(0, _), (2, _), (6, _), (10, _), (11, _), (12, _), (13, _)]) rfl rfl ⟨rfl, rfl, rfl, rfl, rfl, rfl, rfl, trivial⟩ rfl).trans (Ent.to ⟨rfl, rfl, rfl, rfl, rfl, rfl, rfl, trivial⟩ rfl), ⟨hq1, hq2, by show 0 ≤ z.st + 1; omega, by show z.st + 1 ≤ f; omega, by show (z.ev.length : Int) ≤ z.st + 1; omega, hm⟩, by rw [hn]; exact Nat.lt_succ_self m⟩
 ·
  try simp only [List.length_map, beq_iff_eq, decide_eq_true_eq, decide_eq_false_iff_not, Bool.not_eq_true', Bool.not_eq_false', Bool.not_true, Bool.not_false, Int.not_lt, Int.not_le] at hc24
  refine AWP.exit ?_
  refine AWP.seq ?_
  refine AWP.region ?_
  refine AOps.step (Val.of hσ rfl rfl) rfl rfl rfl ?_
  refine AOps.step (Val.of hσ rfl rfl) rfl rfl rfl ?_
  refine AOps.step (Val.of hσ rfl rfl) rfl rfl rfl ?_
  refine AOps.heap (HS.storeBox hσ rfl rfl rfl rfl rfl rfl rfl rfl rfl rfl rfl) rfl ?_
  apply AOps.norm
  ·
   repeat' (first | exact q0 rfl | apply q1 rfl | exact q2 rfl | apply q3 rfl | exact q4 rfl | apply q5 rfl | exact q6 rfl | exact q7 rfl | exact q8)
  refine AOps.step (Val.of hσ rfl rfl) rfl rfl rfl ?_
  refine AOps.step (Val.of hσ rfl rfl) rfl rfl rfl ?_
  refine AOps.step (Val.of hσ rfl rfl) rfl rfl rfl ?_
  refine AOps.forget [(9, _), (8, _), (7, _), (24, _), (0, _), (2, _), (6, _), (10, _), (11, _), (12, _), (13, _)] ⟨rfl, rfl, rfl, rfl, rfl, rfl, rfl, rfl, rfl, rfl, rfl, trivial⟩ ?_
  refine AOps.nil ?_
  refine AWP.ret ?_
  have hw0 : z.ws = [] := List.eq_nil_of_length_eq_zero (by omega)
  have hm := hi.2.2.2.2.2
  rw [hw0] at hm
  obtain rfl := mrun_nil hm
  refine ⟨.inl rfl, _, Ent.refl, _, rfl, [20000, 20001, 901], by decide, rfl, rfl, rfl⟩
end Go.Al
namespace Go.Al
open Go.Proofs
set_option linter.unusedVariables false
set_option linter.unusedSimpArgs false
set_option maxRecDepth 10000
def specB (p : Pm) (s : Sx) (f : Int) : Bool := progB p && (stB s && inB 0 2000 f)
theorem progB_body {p : Pm} (h : progB p = true) : bodyB p.body = true := by
  unfold progB at h; simp only [Bool.and_eq_true] at h; exact h.2.1
theorem bodyB_iff {b : List Sm} (h : bodyB b = true) : 1 ≤ b.length ∧ b.length ≤ 30 ∧ b.all stmtB = true ∧ endR b 0 = b.length := by
  unfold bodyB at h; simp only [Bool.and_eq_true, decide_eq_true_eq] at h
  exact ⟨by omega, by omega, h.2.1, h.2.2⟩

theorem c10v {L : Nat} (h1 : 4096 ≤ L) (h2 : L ≤ 1073741824) {p : Pm} {s : Sx} {f : Int} {n : Nat} {res : Rs} (hp : progB p = true) (hs : stB s = true) (hf : inB 0 2000 f = true) (hm0 : mrun p.body f n [0] s.vars s.cells [] 0 = some res) : MC Try.prog L 10 [aPm p, aSx s, eI f] [] (Rows (.tup [.agg [.rs 0 0 4, .rs 1 0 8], .c (.rs 2 0 res.ev.length), eI res.out, eB true]) [nrow res.v, nrow res.c, nrow res.ev]) := by
 refine MC.rows ?_
 have hσ := SGok (nt := 36) h1 (Nat.le_trans h2 (by decide))
 refine MC.body hσ Try.func10 (by kernel_rfl) rfl rfl (Nat.le_of_ble_eq_true rfl) (fun hF => ?_)
 have hb := bodyB_iff (progB_body hp)
 have hs2 := hs
 unfold stB at hs2
 simp only [Bool.and_eq_true] at hs2
 have hf2 := hf
 simp only [inB, Bool.and_eq_true, decide_eq_true_eq] at hf2
 refine AWP.seq ?_
 refine AWP.region ?_
 refine AOps.heap (HS.box hσ rfl rfl rfl rfl rfl rfl rfl) rfl ?_
 apply AOps.norm
 ·
  repeat' (first | exact q0 rfl | apply q1 rfl | exact q2 rfl | apply q3 rfl | exact q4 rfl | apply q5 rfl | exact q6 rfl | exact q7 rfl | exact q8)
 refine AOps.forget [(3, _), (1, _), (2, _)] ⟨rfl, rfl, rfl, trivial⟩ ?_
 refine AOps.heap (HS.box hσ rfl rfl rfl rfl rfl rfl rfl) rfl ?_
 apply AOps.norm
 ·
  repeat' (first | exact q0 rfl | apply q1 rfl | exact q2 rfl | apply q3 rfl | exact q4 rfl | apply q5 rfl | exact q6 rfl | exact q7 rfl | exact q8)
 refine AOps.forget [(4, _), (3, _), (2, _)] ⟨rfl, rfl, rfl, trivial⟩ ?_
 refine AOps.heap (HS.alloc hσ rfl rfl rfl rfl rfl) rfl ?_
 apply AOps.norm
 ·
  repeat' (first | exact q0 rfl | apply q1 rfl | exact q2 rfl | apply q3 rfl | exact q4 rfl | apply q5 rfl | exact q6 rfl | exact q7 rfl | exact q8)
 refine AOps.step (Val.of hσ rfl rfl) rfl rfl rfl ?_
 refine AOps.step (Val.of hσ rfl rfl) rfl rfl rfl ?_
 refine AOps.step (Val.of hσ rfl rfl) rfl rfl rfl ?_
 refine AOps.nil ?_
 refine AWP.seq ?_
 refine AWP.seq ?_
 refine AWP.region ?_
 refine AOps.lone hσ rfl rfl rfl rfl (c55 (p := p) h1 h2) (.cons (.c (.pb (cs := p.data) rfl (VMs.self rfl))) .nil) rfl rfl rfl rfl rfl (B0 := 15000) rfl ?_
 refine AOps.step (Val.of hσ rfl rfl) rfl rfl rfl ?_
 refine AOps.step (Val.of hσ rfl rfl) rfl rfl rfl ?_
 refine AOps.forget [(16, _), (9, _), (8, _), (7, _), (6, _), (4, _), (3, _), (2, _)] ⟨rfl, rfl, rfl, rfl, rfl, rfl, rfl, rfl, trivial⟩ ?_
 refine AOps.gr 2 rfl rfl rfl (fun hx => AN.lone hσ hx rfl rfl rfl rfl (c56 (s := s) h1 h2) (.cons (.c (.pb (cs := s.data) rfl (VMs.self rfl))) .nil) rfl rfl rfl rfl rfl rfl rfl (B0 := 18000) rfl ( AN.step hx rfl rfl rfl (Val.of hσ rfl rfl) rfl rfl ( AN.nil))) rfl rfl ?_
 first | refine AOps.step (Val.pickF hσ rfl rfl rfl rfl rfl) rfl rfl rfl ?_ | refine AOps.step (Val.pickB hσ rfl rfl rfl rfl rfl) rfl rfl rfl ?_ | refine AOps.step (Val.pickT hσ rfl rfl rfl rfl rfl) rfl rfl rfl ?_
 refine AOps.step (Val.of hσ rfl rfl) rfl rfl rfl ?_
 refine AOps.forget [(20, _), (9, _), (8, _), (7, _), (6, _), (4, _), (3, _), (2, _)] ⟨rfl, rfl, rfl, rfl, rfl, rfl, rfl, rfl, trivial⟩ ?_
 refine AOps.gr 3 rfl rfl rfl (fun hx => AN.step hx rfl rfl rfl (Val.of hσ rfl rfl) rfl rfl ( AN.lone hσ hx rfl rfl rfl rfl (c57 h1 h2) (VAs.self rfl) rfl rfl rfl rfl rfl rfl rfl (B0 := 23000) rfl ( AN.step hx rfl rfl rfl (Val.of hσ rfl rfl) rfl rfl ( AN.nil)))) rfl rfl ?_
 first | refine AOps.step (Val.pickF hσ rfl rfl rfl rfl rfl) rfl rfl rfl ?_ | refine AOps.step (Val.pickB hσ rfl rfl rfl rfl rfl) rfl rfl rfl ?_ | refine AOps.step (Val.pickT hσ rfl rfl rfl rfl rfl) rfl rfl rfl ?_
 refine AOps.forget [(24, _), (9, _), (8, _), (7, _), (6, _), (4, _), (3, _), (2, _)] ⟨rfl, rfl, rfl, rfl, rfl, rfl, rfl, rfl, trivial⟩ ?_
 refine AOps.nil ?_
 refine AWP.cond hσ rfl rfl (fun hc24 => ?_) (fun hc24 => ?_)
 ·
  skip
  exact absurd hc24 (by rw [hp, hs, show (decide (0 ≤ f) && decide (f ≤ 2000)) = true from hf]; decide)
 ·
  skip
  refine AWP.skip ?_
  refine AWP.seq ?_
  refine AWP.region ?_
  refine AOps.step (Val.of hσ rfl rfl) rfl rfl rfl ?_
  refine AOps.forget [(27, _), (9, _), (8, _), (7, _), (6, _), (4, _), (3, _), (2, _)] ⟨rfl, rfl, rfl, rfl, rfl, rfl, rfl, rfl, trivial⟩ ?_
  refine AOps.rows hσ (B0 := 29000) rfl rfl rfl rfl (c58 (p := p) (s0 := s) (f := f) h1 h2 hb.2.2.1 hb.2.1 hs2.1 hs2.2 hf2.1 hf2.2 hm0) (.cons (.c (.pb (cs := p.data) rfl (VMs.self rfl))) (.cons (.c (.pb (cs := s.data) rfl (VMs.self rfl))) (.cons (.c .d) .nil))) rfl rfl rfl rfl rfl rfl ?_
  apply AOps.norm
  ·
   repeat' (first | exact q0 rfl | apply q1 rfl | exact q2 rfl | apply q3 rfl | exact q4 rfl | apply q5 rfl | exact q6 rfl | exact q7 rfl | exact q8)
  refine AOps.step (Val.of hσ rfl rfl) rfl rfl rfl ?_
  refine AOps.step (Val.of hσ rfl rfl) rfl rfl rfl ?_
  refine AOps.step (Val.of hσ rfl rfl) rfl rfl rfl ?_
  refine AOps.step (Val.of hσ rfl rfl) rfl rfl rfl ?_
  refine AOps.step (Val.of hσ rfl rfl) rfl rfl rfl ?_
  refine AOps.forget [(32, _), (31, _), (30, _), (29, _), (9, _), (8, _), (7, _), (6, _), (4, _), (3, _), (2, _)] ⟨rfl, rfl, rfl, rfl, rfl, rfl, rfl, rfl, rfl, rfl, rfl, trivial⟩ ?_
  refine AOps.heap (HS.alloc hσ rfl rfl rfl rfl rfl) rfl ?_
  apply AOps.norm
  ·
   repeat' (first | exact q0 rfl | apply q1 rfl | exact q2 rfl | apply q3 rfl | exact q4 rfl | apply q5 rfl | exact q6 rfl | exact q7 rfl | exact q8)
  refine AOps.heap (HS.storeBox hσ rfl rfl rfl rfl rfl rfl rfl rfl rfl rfl rfl) rfl ?_
  apply AOps.norm
  ·
   repeat' (first | exact q0 rfl | apply q1 rfl | exact q2 rfl | apply q3 rfl | exact q4 rfl | apply q5 rfl | exact q6 rfl | exact q7 rfl | exact q8)
  refine AOps.step (Val.of hσ rfl rfl) rfl rfl rfl ?_
  refine AOps.step (Val.of hσ rfl rfl) rfl rfl rfl ?_
  refine AOps.step (Val.of hσ rfl rfl) rfl rfl rfl ?_
  refine AOps.forget [(12, _), (11, _), (10, _), (9, _), (8, _), (7, _), (6, _), (4, _), (3, _), (2, _)] ⟨rfl, rfl, rfl, rfl, rfl, rfl, rfl, rfl, rfl, rfl, trivial⟩ ?_
  refine AOps.nil ?_
  refine AWP.seq ?_
  refine AWP.region ?_
  refine AOps.step (Val.of hσ rfl rfl) rfl rfl rfl ?_
  refine AOps.step (Val.of hσ rfl rfl) rfl rfl rfl ?_
  refine AOps.step (Val.of hσ rfl rfl) rfl rfl rfl ?_
  refine AOps.forget [(35, _), (34, _), (33, _), (10, _), (9, _), (8, _), (7, _), (6, _), (4, _), (3, _), (2, _)] ⟨rfl, rfl, rfl, rfl, rfl, rfl, rfl, rfl, rfl, rfl, rfl, trivial⟩ ?_
  refine AOps.heap (HS.storeBox hσ rfl rfl rfl rfl rfl rfl rfl rfl rfl rfl rfl) rfl ?_
  apply AOps.norm
  ·
   repeat' (first | exact q0 rfl | apply q1 rfl | exact q2 rfl | apply q3 rfl | exact q4 rfl | apply q5 rfl | exact q6 rfl | exact q7 rfl | exact q8)
  refine AOps.step (Val.of hσ rfl rfl) rfl rfl rfl ?_
  refine AOps.step (Val.of hσ rfl rfl) rfl rfl rfl ?_
  refine AOps.step (Val.of hσ rfl rfl) rfl rfl rfl ?_
  refine AOps.forget [(9, _), (8, _), (7, _), (10, _), (6, _), (4, _), (3, _), (2, _)] ⟨rfl, rfl, rfl, rfl, rfl, rfl, rfl, rfl, trivial⟩ ?_
  refine AOps.nil ?_
  refine AWP.ret ?_
  refine ⟨.inl rfl, _, Ent.refl, _, rfl, [29000, 29001, 29002], by decide, rfl, rfl, rfl⟩
theorem c10n {L : Nat} (h1 : 4096 ≤ L) (h2 : L ≤ 1073741824) {p : Pm} {s : Sx} {f : Int} (hn : specB p s f = false) : MC Try.prog L 10 [aPm p, aSx s, eI f] [] (Rows (.tup [.agg [.d .nils, .d .nils], .c (.d .nils), eI 0, eB false]) []) := by
 refine MC.rows ?_
 have hσ := SGok (nt := 36) h1 (Nat.le_trans h2 (by decide))
 refine MC.body hσ Try.func10 (by kernel_rfl) rfl rfl (Nat.le_of_ble_eq_true rfl) (fun hF => ?_)
 refine AWP.seq ?_
 refine AWP.region ?_
 refine AOps.heap (HS.box hσ rfl rfl rfl rfl rfl rfl rfl) rfl ?_
 apply AOps.norm
 ·
  repeat' (first | exact q0 rfl | apply q1 rfl | exact q2 rfl | apply q3 rfl | exact q4 rfl | apply q5 rfl | exact q6 rfl | exact q7 rfl | exact q8)
 refine AOps.forget [(3, _), (1, _), (2, _)] ⟨rfl, rfl, rfl, trivial⟩ ?_
 refine AOps.heap (HS.box hσ rfl rfl rfl rfl rfl rfl rfl) rfl ?_
 apply AOps.norm
 ·
  repeat' (first | exact q0 rfl | apply q1 rfl | exact q2 rfl | apply q3 rfl | exact q4 rfl | apply q5 rfl | exact q6 rfl | exact q7 rfl | exact q8)
 refine AOps.forget [(4, _), (3, _), (2, _)] ⟨rfl, rfl, rfl, trivial⟩ ?_
 refine AOps.heap (HS.alloc hσ rfl rfl rfl rfl rfl) rfl ?_
 apply AOps.norm
 ·
  repeat' (first | exact q0 rfl | apply q1 rfl | exact q2 rfl | apply q3 rfl | exact q4 rfl | apply q5 rfl | exact q6 rfl | exact q7 rfl | exact q8)
 refine AOps.step (Val.of hσ rfl rfl) rfl rfl rfl ?_
 refine AOps.step (Val.of hσ rfl rfl) rfl rfl rfl ?_
 refine AOps.step (Val.of hσ rfl rfl) rfl rfl rfl ?_
 refine AOps.nil ?_
 refine AWP.seq ?_
 refine AWP.seq ?_
 refine AWP.region ?_
 refine AOps.lone hσ rfl rfl rfl rfl (c55 (p := p) h1 h2) (.cons (.c (.pb (cs := p.data) rfl (VMs.self rfl))) .nil) rfl rfl rfl rfl rfl (B0 := 15000) rfl ?_
 refine AOps.step (Val.of hσ rfl rfl) rfl rfl rfl ?_
 refine AOps.step (Val.of hσ rfl rfl) rfl rfl rfl ?_
 refine AOps.forget [(16, _), (9, _), (8, _), (7, _), (6, _), (4, _), (3, _), (2, _)] ⟨rfl, rfl, rfl, rfl, rfl, rfl, rfl, rfl, trivial⟩ ?_
 refine AOps.gr 2 rfl rfl rfl (fun hx => AN.lone hσ hx rfl rfl rfl rfl (c56 (s := s) h1 h2) (.cons (.c (.pb (cs := s.data) rfl (VMs.self rfl))) .nil) rfl rfl rfl rfl rfl rfl rfl (B0 := 18000) rfl ( AN.step hx rfl rfl rfl (Val.of hσ rfl rfl) rfl rfl ( AN.nil))) rfl rfl ?_
 first | refine AOps.step (Val.pickF hσ rfl rfl rfl rfl rfl) rfl rfl rfl ?_ | refine AOps.step (Val.pickB hσ rfl rfl rfl rfl rfl) rfl rfl rfl ?_ | refine AOps.step (Val.pickT hσ rfl rfl rfl rfl rfl) rfl rfl rfl ?_
 refine AOps.step (Val.of hσ rfl rfl) rfl rfl rfl ?_
 refine AOps.forget [(20, _), (9, _), (8, _), (7, _), (6, _), (4, _), (3, _), (2, _)] ⟨rfl, rfl, rfl, rfl, rfl, rfl, rfl, rfl, trivial⟩ ?_
 refine AOps.gr 3 rfl rfl rfl (fun hx => AN.step hx rfl rfl rfl (Val.of hσ rfl rfl) rfl rfl ( AN.lone hσ hx rfl rfl rfl rfl (c57 h1 h2) (VAs.self rfl) rfl rfl rfl rfl rfl rfl rfl (B0 := 23000) rfl ( AN.step hx rfl rfl rfl (Val.of hσ rfl rfl) rfl rfl ( AN.nil)))) rfl rfl ?_
 first | refine AOps.step (Val.pickF hσ rfl rfl rfl rfl rfl) rfl rfl rfl ?_ | refine AOps.step (Val.pickB hσ rfl rfl rfl rfl rfl) rfl rfl rfl ?_ | refine AOps.step (Val.pickT hσ rfl rfl rfl rfl rfl) rfl rfl rfl ?_
 refine AOps.forget [(24, _), (9, _), (8, _), (7, _), (6, _), (4, _), (3, _), (2, _)] ⟨rfl, rfl, rfl, rfl, rfl, rfl, rfl, rfl, trivial⟩ ?_
 refine AOps.nil ?_
 refine AWP.cond hσ rfl rfl (fun hc24 => ?_) (fun hc24 => ?_)
 ·
  skip
  refine AWP.seq ?_
  refine AWP.region ?_
  refine AOps.step (Val.of hσ rfl rfl) rfl rfl rfl ?_
  refine AOps.forget [(25, _), (9, _), (8, _), (7, _), (6, _), (4, _), (3, _), (2, _)] ⟨rfl, rfl, rfl, rfl, rfl, rfl, rfl, rfl, trivial⟩ ?_
  refine AOps.heap (HS.storeBox hσ rfl rfl rfl rfl rfl rfl rfl rfl rfl rfl rfl) rfl ?_
  apply AOps.norm
  ·
   repeat' (first | exact q0 rfl | apply q1 rfl | exact q2 rfl | apply q3 rfl | exact q4 rfl | apply q5 rfl | exact q6 rfl | exact q7 rfl | exact q8)
  refine AOps.step (Val.of hσ rfl rfl) rfl rfl rfl ?_
  refine AOps.step (Val.of hσ rfl rfl) rfl rfl rfl ?_
  refine AOps.step (Val.of hσ rfl rfl) rfl rfl rfl ?_
  refine AOps.nil ?_
  refine AWP.ret ?_
  refine ⟨.inl rfl, _, Ent.refl, _, rfl, [], by decide, rfl, rfl, rfl⟩
 ·
  skip
  have hc24b : (bif bif !progB p then true else !stB s then true else !inB 0 2000 f) = false := hc24; cases h1 : progB p <;> cases h2 : stB s <;> cases h3 : inB 0 2000 f <;> simp [specB, h1, h2, h3] at hn hc24b
end Go.Al
