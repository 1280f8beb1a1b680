/- The machine of the reference and the tree of the program come to the same; the law of RunProgram. -/
import Derived.Test.YtpdpbfokkimbbaaH
namespace Go.Al
open Go.Proofs
set_option linter.unusedVariables false
set_option linter.unusedSimpArgs false
set_option maxRecDepth 10000

/-! ### The tree does not hang on the fuel -/
theorem iterT_congr {f g : Nat → Option (Tr × Nat)} {k0 : Nat} (h : ∀ j, k0 ≤ j → f j = g j) (hf : ∀ k t k', f k = some (t, k') → k < k') : ∀ {q k : Nat}, k0 ≤ k → iterT f q k = iterT g q k
  | 0, _, _ => rfl
  | q + 1, k, hk => by
    cases hx : f k with
    | none => rw [iterT_none hx, iterT_none (by rw [← h k hk]; exact hx)]
    | some x =>
      obtain ⟨t, k1⟩ := x
      have := hf k t k1 hx
      rw [iterT_some hx, iterT_some (by rw [← h k hk]; exact hx), iterT_congr h hf (by omega)]
theorem treeF_out {n : Nat} {body : List Sm} {k : Nat} (h : body.length ≤ k) : treeF n body k = none := by
  cases n with
  | zero => rfl
  | succ n => unfold treeF; rw [if_pos h]
theorem treeF_fuel : ∀ {n m : Nat} {body : List Sm} {k : Nat}, body.length < n + k → body.length < m + k → treeF n body k = treeF m body k
  | 0, m, body, k, h1, h2 => by rw [treeF_out (by omega), treeF_out (by omega)]
  | n + 1, 0, body, k, h1, h2 => by rw [treeF_out (by omega), treeF_out (by omega)]
  | n + 1, m + 1, body, k, h1, h2 => by
    unfold treeF
    rw [iterT_congr (f := treeF n body) (g := treeF m body) (k0 := k + 1) (fun j hj => treeF_fuel (by omega) (by omega)) (fun k t k' h => (treeF_le h).1) (Nat.le_refl _)]
def treeAt (body : List Sm) (k : Nat) : Option (Tr × Nat) := treeF (body.length + 1) body k
theorem treeAt_eq {body : List Sm} {k : Nat} : treeAt body k = if body.length ≤ k then none else if kidsF (body.getD k default) < 0 then none else (iterT (treeAt body) (kidsF (body.getD k default)).toNat (k + 1)).map fun r => (.node (body.getD k default) k r.1, r.2) := by
  unfold treeAt
  show (if body.length ≤ k then none else if kidsF (body.getD k default) < 0 then none else (iterT (treeF body.length body) (kidsF (body.getD k default)).toNat (k + 1)).map fun r => (Tr.node (body.getD k default) k r.1, r.2)) = _
  rw [iterT_congr (f := treeF body.length body) (g := treeF (body.length + 1) body) (k0 := k + 1) (fun j hj => treeF_fuel (by omega) (by omega)) (fun k t k' h => (treeF_le h).1) (Nat.le_refl _)]
theorem treeAt_le {body : List Sm} {k k' : Nat} {t : Tr} (h : treeAt body k = some (t, k')) : k < k' ∧ k' ≤ body.length := treeF_le h
theorem node_inv {body : List Sm} {k k' : Nat} {s : Sm} {a : Int} {ks : List Tr} (h : treeAt body k = some (.node s a ks, k')) :
    k < body.length ∧ s = body.getD k default ∧ stmtB s = true ∧ iterT (treeAt body) ks.length (k + 1) = some (ks, k') ∧ (ks.length : Int) = below s.kind := by
  rw [treeAt_eq] at h
  split at h
  · cases h
  · split at h
    · cases h
    · rename_i h1 h2
      simp only [Option.map_eq_some_iff] at h
      obtain ⟨⟨ts, k2⟩, h3, h4⟩ := h
      simp only [Prod.mk.injEq, Tr.node.injEq] at h4
      obtain ⟨⟨h5, _, h6⟩, h7⟩ := h4
      subst h6; subst h7; subst h5
      have h8 := (iterT_ok (fun k t k' h => treeF_ok h) h3).1
      have hs : stmtB (body.getD k default) = true := by
        cases hb : stmtB (body.getD k default) with
        | true => rfl
        | false => unfold kidsF at h2; rw [hb] at h2; exact absurd (by rw [if_neg (by decide)]; decide) h2
      refine ⟨by omega, rfl, hs, by rw [h8]; exact h3, ?_⟩
      rw [h8]
      unfold kidsF
      rw [if_pos hs]
      have := (below_le (body.getD k default).kind).1
      omega

/-! ### The end of a statement -/
theorem endL_step {body : List Sm} {k : Nat} (hk : k < body.length) {n : Int} (hn : 0 < n) : endL (body.drop k) n = (endL (body.drop (k + 1)) (n - 1 + below (body.getD k default).kind)).map (· + 1) := by
  rw [endL_pos hn hk, show n + (below (body.getD k default).kind - 1) = n - 1 + below (body.getD k default).kind by omega]
theorem endL_iter {body : List Sm} {f : Nat → Option (Tr × Nat)} (hf : ∀ k t k', f k = some (t, k') → k < k' ∧ ∀ n : Int, 0 ≤ n → endL (body.drop k) (n + 1) = (endL (body.drop k') n).map (· + (k' - k))) :
    ∀ {q k : Nat} {ts : List Tr} {k' : Nat}, iterT f q k = some (ts, k') → k ≤ k' ∧ ∀ n : Int, 0 ≤ n → endL (body.drop k) (n + q) = (endL (body.drop k') n).map (· + (k' - k))
  | 0, k, ts, k', h => by
    simp only [iterT, Option.some.injEq, Prod.mk.injEq] at h
    rw [← h.2]
    refine ⟨Nat.le_refl _, fun n hn => ?_⟩
    rw [show n + ((0 : Nat) : Int) = n by omega]
    simp
  | q + 1, k, ts, k', h => by
    cases hx : f k with
    | none => rw [iterT_none hx] at h; cases h
    | some x =>
      obtain ⟨t, k1⟩ := x
      rw [iterT_some hx] at h
      simp only [Option.map_eq_some_iff] at h
      obtain ⟨⟨ts1, k2⟩, h1, h2⟩ := h
      simp only [Prod.mk.injEq] at h2
      obtain ⟨_, rfl⟩ := h2
      obtain ⟨h3, h4⟩ := hf k t k1 hx
      obtain ⟨h5, h6⟩ := endL_iter hf h1
      refine ⟨by omega, fun n hn => ?_⟩
      rw [show n + ((q + 1 : Nat) : Int) = (n + q) + 1 by omega, h4 _ (by omega), h6 n hn, Option.map_map]
      exact congrArg (fun g => Option.map g _) (funext fun x => by simp; omega)
theorem endL_tree {body : List Sm} : ∀ {n k : Nat} {t : Tr} {k' : Nat}, treeF n body k = some (t, k') → k < k' ∧ ∀ m : Int, 0 ≤ m → endL (body.drop k) (m + 1) = (endL (body.drop k') m).map (· + (k' - k))
  | 0, _, _, _, h => by cases h
  | n + 1, k, t, k', h => by
    unfold treeF at h
    split at h
    · cases h
    · split at h
      · cases h
      · rename_i h1 h2
        simp only [Option.map_eq_some_iff] at h
        obtain ⟨⟨ts, k2⟩, h3, h4⟩ := h
        simp only [Prod.mk.injEq] at h4
        obtain ⟨_, rfl⟩ := h4
        obtain ⟨h5, h6⟩ := endL_iter (body := body) (fun k t k' h => endL_tree h) h3
        have hs : stmtB (body.getD k default) = true := by
          cases hb : stmtB (body.getD k default) with
          | true => rfl
          | false => unfold kidsF at h2; rw [hb] at h2; exact absurd (by rw [if_neg (by decide)]; decide) h2
        have hkf : kidsF (body.getD k default) = below (body.getD k default).kind := by unfold kidsF; rw [if_pos hs]
        have hb := (below_le (body.getD k default).kind).1
        refine ⟨by omega, fun m hm => ?_⟩
        have h7 := h6 m hm
        rw [hkf] at h7
        rw [endL_step (by omega) (by omega), show m + 1 - 1 + below (body.getD k default).kind = m + ((below (body.getD k default).kind).toNat : Int) by omega, h7, Option.map_map]
        exact congrArg (fun g => Option.map g _) (funext fun x => by simp; omega)
theorem endR_tree {body : List Sm} {k k' : Nat} {t : Tr} (h : treeAt body k = some (t, k')) : endR body k = k' := by
  obtain ⟨h1, h2⟩ := endL_tree h
  have h3 := h2 0 (Int.le_refl _)
  unfold endR
  rw [show (1 : Int) = 0 + 1 from rfl, h3, endL_neg (Int.le_refl _)]
  show (k : Int) + ((0 + (k' - k) : Nat) : Int) = k'
  omega
/-- The elements of a tree are valid. -/
theorem tree_all {body : List Sm} : ∀ {n k : Nat} {t : Tr} {k' : Nat}, treeF n body k = some (t, k') → ∀ j, k ≤ j → j < k' → stmtB (body.getD j default) = true
  | 0, _, _, _, h => by cases h
  | n + 1, k, t, k', h => by
    unfold treeF at h
    split at h
    · cases h
    · split at h
      · cases h
      · rename_i h1 h2
        simp only [Option.map_eq_some_iff] at h
        obtain ⟨⟨ts, k2⟩, h3, h4⟩ := h
        simp only [Prod.mk.injEq] at h4
        obtain ⟨_, rfl⟩ := h4
        have hs : stmtB (body.getD k default) = true := by
          cases hb : stmtB (body.getD k default) with
          | true => rfl
          | false => unfold kidsF at h2; rw [hb] at h2; exact absurd (by rw [if_neg (by decide)]; decide) h2
        have key : ∀ {q k : Nat} {ts : List Tr} {k' : Nat}, iterT (treeF n body) q k = some (ts, k') → ∀ j, k ≤ j → j < k' → stmtB (body.getD j default) = true := by
          intro q
          induction q with
          | zero => intro k ts k' h j h1 h2; simp only [iterT, Option.some.injEq, Prod.mk.injEq] at h; omega
          | succ q ih =>
            intro k ts k' h j h1 h2
            cases hx : treeF n body k with
            | none => rw [iterT_none hx] at h; cases h
            | some x =>
              obtain ⟨t, k1⟩ := x
              rw [iterT_some hx] at h
              simp only [Option.map_eq_some_iff] at h
              obtain ⟨⟨ts1, k2⟩, h3, h4⟩ := h
              simp only [Prod.mk.injEq] at h4
              obtain ⟨_, rfl⟩ := h4
              by_cases hj : j < k1
              · exact tree_all hx j h1 hj
              · exact ih h3 j (by omega) h2
        intro j hj1 hj2
        by_cases e : j = k
        · rw [e]; exact hs
        · exact key h3 j (by omega) hj2
theorem iterT_add {f : Nat → Option (Tr × Nat)} : ∀ {a b k : Nat} {ts : List Tr} {k' : Nat}, iterT f (a + b) k = some (ts, k') → ∃ ts1 k1 ts2, iterT f a k = some (ts1, k1) ∧ iterT f b k1 = some (ts2, k')
  | 0, b, k, ts, k', h => ⟨[], k, ts, rfl, by rwa [Nat.zero_add] at h⟩
  | a + 1, b, k, ts, k', h => by
    rw [show a + 1 + b = (a + b) + 1 by omega] at h
    cases hx : f k with
    | none => rw [iterT_none hx] at h; cases h
    | some x =>
      obtain ⟨t, k1⟩ := x
      rw [iterT_some hx] at h
      simp only [Option.map_eq_some_iff] at h
      obtain ⟨⟨ts1, k2⟩, h3, h4⟩ := h
      simp only [Prod.mk.injEq] at h4
      obtain ⟨_, rfl⟩ := h4
      obtain ⟨u1, k3, u2, h5, h6⟩ := iterT_add h3
      exact ⟨t :: u1, k3, u2, by rw [iterT_some hx, h5]; rfl, h6⟩
theorem tree_of_end {body : List Sm} (hall : ∀ j, j < body.length → stmtB (body.getD j default) = true) : ∀ (d : Nat) {k q m : Nat}, body.length ≤ k + d → endL (body.drop k) q = some m → ∃ ts, iterT (treeAt body) q k = some (ts, k + m)
  | d, k, 0, m, hd, h => by
    rw [show ((0 : Nat) : Int) = 0 from rfl, endL_neg (Int.le_refl _)] at h
    obtain rfl := Option.some.inj h
    exact ⟨[], rfl⟩
  | 0, k, q + 1, m, hd, h => by
    rw [List.drop_of_length_le (by omega), endL_nil (by omega)] at h; cases h
  | d + 1, k, q + 1, m, hd, h => by
    by_cases hk : k < body.length
    · rw [endL_step hk (by omega)] at h
      have hb := below_le (body.getD k default).kind
      rw [show ((q + 1 : Nat) : Int) - 1 + below (body.getD k default).kind = (((below (body.getD k default).kind).toNat + q : Nat) : Int) by omega] at h
      simp only [Option.map_eq_some_iff] at h
      obtain ⟨m', h1, rfl⟩ := h
      obtain ⟨ts, h2⟩ := tree_of_end hall d (by omega) h1
      obtain ⟨ts1, k1, ts2, h3, h4⟩ := iterT_add h2
      have hkf : kidsF (body.getD k default) = below (body.getD k default).kind := by unfold kidsF; rw [if_pos (hall k hk)]
      have h5 : treeAt body k = some (.node (body.getD k default) k ts1, k1) := by
        rw [treeAt_eq, if_neg (by omega), if_neg (by omega), hkf, h3]; rfl
      exact ⟨.node (body.getD k default) k ts1 :: ts2, by rw [iterT_some h5, h4, show k + (m' + 1) = k + 1 + m' by omega]; rfl⟩
    · rw [List.drop_of_length_le (by omega), endL_nil (by omega)] at h; cases h
theorem all_iff {body : List Sm} : body.all stmtB = true ↔ ∀ j, j < body.length → stmtB (body.getD j default) = true := by
  rw [List.all_eq_true]
  constructor
  · intro h j hj; rw [getD_lt hj]; exact h _ (List.getElem_mem hj)
  · intro h x hx
    obtain ⟨j, hj, rfl⟩ := List.mem_iff_getElem.1 hx
    have := h j hj
    rwa [getD_lt hj] at this
theorem body_eq (body : List Sm) : bodyB body = tOB body := by
  by_cases h30 : (30 : Int) < body.length
  · unfold tOB bodyB
    rw [if_pos h30, decide_eq_false (show ¬ (body.length : Int) ≤ 30 by omega), Bool.and_false, Bool.false_and]
  · rw [Bool.eq_iff_iff]
    constructor
    · intro h
      obtain ⟨h1, h2, h3, h4⟩ := bodyB_iff h
      have h5 : endL (body.drop 0) ((1 : Nat) : Int) = some body.length := by
        unfold endR at h4
        cases hx : endL (body.drop 0) ((1 : Nat) : Int) with
        | none => rw [show ((1 : Int)) = ((1 : Nat) : Int) from rfl, hx] at h4; have h9 : (-1 : Int) = body.length := h4; omega
        | some n =>
          rw [show ((1 : Int)) = ((1 : Nat) : Int) from rfl, hx] at h4
          have : n = body.length := by simp at h4; omega
          rw [this]
      obtain ⟨ts, h6⟩ := tree_of_end (all_iff.1 h3) body.length (by omega) h5
      cases hx : treeAt body 0 with
      | none => rw [iterT_none hx] at h6; cases h6
      | some x =>
        obtain ⟨t, k1⟩ := x
        rw [iterT_some hx] at h6
        simp only [iterT, Option.map_some, Option.some.injEq, Prod.mk.injEq] at h6
        unfold tOB
        rw [if_neg h30, show toF body = some (t, k1) from hx]
        show (true && decide ((k1 : Int) = body.length)) = true
        rw [decide_eq_true (by omega)]; rfl
    · intro h
      obtain ⟨t, h1, h2, h3⟩ := tOB_some h
      have h4 : treeAt body 0 = some (t, body.length) := h1
      have h5 := endR_tree h4
      have h6 := (treeAt_le h4).1
      unfold bodyB
      rw [decide_eq_true (show (1 : Int) ≤ body.length by omega), decide_eq_true (show (body.length : Int) ≤ 30 by omega), all_iff.2 (fun j hj => tree_all h4 j (Nat.zero_le _) hj), decide_eq_true h5]
      rfl
theorem valid_eq (p : Pm) (s : Sx) (f : Int) : validB p s f = specB p s f := by
  unfold validB specB validP progB
  rw [body_eq]
  cases tOB p.body <;> cases terms p.pre 6 <;> rfl
end Go.Al
namespace Go.Al
open Go.Proofs
set_option linter.unusedVariables false
set_option linter.unusedSimpArgs false
set_option maxRecDepth 10000

abbrev mr (body : List Sm) (fuel : Int) (n : Nat) (ws : List Nat) (r : RS) : Option Rs := mrun body fuel n ws r.vars r.cells r.events r.steps
theorem mr_step {body : List Sm} {fuel : Int} {n k : Nat} {ws : List Nat} {r : RS} (hk : k < body.length) (hw : ws.length < 100) :
    mr body fuel (n + 1) (k :: ws) r = mbody body fuel (mrun body fuel n) (body.getD k default) k ws r.vars r.cells r.events r.steps := by
  show (if body.length ≤ k ∨ 100 ≤ ws.length then none else _) = _
  rw [if_neg (by omega)]
theorem stepR_eq {r : RS} (h : r.steps = r.fuel) : stepR r = (false, { r with out := 1 }) := if_pos h
theorem stepR_ne {r : RS} (h : ¬ r.steps = r.fuel) : stepR r = (true, { r with steps := r.steps + 1 }) := if_neg h
/-- An element without statements behind it: what the one makes of it and what the other. -/
theorem leaf_step {s : Sm} {q : RS} : ((stepS s q.vars q.cells).1 = 0 → leaf s q = (true, { q with vars := (stepS s q.vars q.cells).2.1, cells := (stepS s q.vars q.cells).2.2, events := if s.kind = 5 then q.events ++ [s.event] else q.events })) ∧
    (¬ (stepS s q.vars q.cells).1 = 0 → leaf s q = (false, { q with out := (stepS s q.vars q.cells).1 }) ∧ (stepS s q.vars q.cells).2.1 = q.vars ∧ (stepS s q.vars q.cells).2.2 = q.cells) := by
  unfold leaf stepS
  by_cases h2 : s.kind = 2
  · rw [if_pos h2, if_pos h2, if_neg (show ¬ s.kind = 5 by omega)]
    by_cases hb : big (evalT s.sum q.vars) = true
    · rw [if_pos hb, if_pos hb]; exact ⟨fun _ => rfl, fun h => absurd rfl h⟩
    · rw [if_neg hb, if_neg hb]; exact ⟨fun h => absurd h (by simp), fun _ => ⟨rfl, rfl, rfl⟩⟩
  · rw [if_neg h2, if_neg h2]
    by_cases h3 : s.kind = 3
    · rw [if_pos h3, if_pos h3, if_neg (show ¬ s.kind = 5 by omega)]
      by_cases hb : inB 0 7 (evalT s.index q.vars) = true
      · rw [if_pos hb, if_pos hb]; exact ⟨fun _ => rfl, fun h => absurd rfl h⟩
      · rw [if_neg hb, if_neg hb]; exact ⟨fun h => absurd h (by simp), fun _ => ⟨rfl, rfl, rfl⟩⟩
    · rw [if_neg h3, if_neg h3]
      by_cases h4 : s.kind = 4
      · rw [if_pos h4, if_pos h4, if_neg (show ¬ s.kind = 5 by omega)]
        by_cases hb : inB 0 7 (evalT s.index q.vars) = true
        · rw [if_pos hb, if_pos hb]
          by_cases hc : big (evalT s.sum q.vars) = true
          · rw [if_pos hc, if_pos hc]; exact ⟨fun _ => rfl, fun h => absurd rfl h⟩
          · rw [if_neg hc, if_neg hc]; exact ⟨fun h => absurd h (by simp), fun _ => ⟨rfl, rfl, rfl⟩⟩
        · rw [if_neg hb, if_neg hb]; exact ⟨fun h => absurd h (by simp), fun _ => ⟨rfl, rfl, rfl⟩⟩
      · rw [if_neg h4, if_neg h4]
        by_cases h5 : s.kind = 5
        · rw [if_pos h5, if_neg (show ¬ s.kind = 6 by omega), if_pos h5]; exact ⟨fun _ => rfl, fun h => absurd rfl h⟩
        · rw [if_neg h5, if_neg h5]
          by_cases h6 : s.kind = 6
          · rw [if_pos h6, if_pos h6]
            by_cases hb : evalT s.sum q.vars < 0
            · rw [if_pos hb, if_pos hb]; exact ⟨fun h => absurd h (by simp), fun _ => ⟨rfl, rfl, rfl⟩⟩
            · rw [if_neg hb, if_neg hb]; exact ⟨fun _ => rfl, fun h => absurd rfl h⟩
          · rw [if_neg h6, if_neg h6]; exact ⟨fun _ => rfl, fun h => absurd rfl h⟩

/-- The machine does what the tree does. -/
structure Sim (body : List Sm) (fuel : Int) (k : Nat) (ws : List Nat) (r : RS) (q : Bool × RS) : Prop where
  yes : q.1 = true → q.2.out = r.out ∧ ∃ j, ∀ n, mr body fuel (n + j) (k :: ws) r = mr body fuel n ws q.2
  no : q.1 = false → ∃ j, ∀ n, mr body fuel (n + j) (k :: ws) r = some ⟨q.2.vars, q.2.cells, q.2.events, q.2.out, q.2.steps⟩
section
variable {body : List Sm} {fuel : Int} {k : Nat} {ws : List Nat} {r : RS}
theorem Sim.stop {q : RS} (h : ∃ j, ∀ n, mr body fuel (n + j) (k :: ws) r = some ⟨q.vars, q.cells, q.events, q.out, q.steps⟩) : Sim body fuel k ws r (false, q) := ⟨fun h => (by cases h), fun _ => h⟩
theorem Sim.go {q : RS} (ho : q.out = r.out) (h : ∃ j, ∀ n, mr body fuel (n + j) (k :: ws) r = mr body fuel n ws q) : Sim body fuel k ws r (true, q) := ⟨fun _ => ⟨ho, h⟩, fun h => (by cases h)⟩
/-- One step, and then as from there. -/
theorem Sim.after {k1 : Nat} {ws1 : List Nat} {r1 : RS} {q : Bool × RS} (hr : r1.out = r.out) (hstep : ∀ n, mr body fuel (n + 1) (k :: ws) r = mr body fuel n (k1 :: ws1) r1) (hy : q.1 = true → q.2.out = r1.out ∧ ∃ j, ∀ n, mr body fuel (n + j) (k1 :: ws1) r1 = mr body fuel n ws q.2)
    (hn : q.1 = false → ∃ j, ∀ n, mr body fuel (n + j) (k1 :: ws1) r1 = some ⟨q.2.vars, q.2.cells, q.2.events, q.2.out, q.2.steps⟩) : Sim body fuel k ws r q := by
  constructor
  · intro h
    obtain ⟨h1, j, h2⟩ := hy h
    exact ⟨h1.trans hr, j + 1, fun n => by rw [← Nat.add_assoc, hstep, h2]⟩
  · intro h
    obtain ⟨j, h2⟩ := hn h
    exact ⟨j + 1, fun n => by rw [← Nat.add_assoc, hstep, h2]⟩
end
theorem fuel_out {body : List Sm} {fuel : Int} {k : Nat} {ws : List Nat} {r : RS} {s : Sm} (hs : s = body.getD k default) (h1 : ¬ s.kind = 1) (hk : k < body.length) (hw : ws.length < 100) (hf : r.fuel = fuel) (he : r.steps = r.fuel) :
    ∀ n, mr body fuel (n + 1) (k :: ws) r = some ⟨r.vars, r.cells, r.events, 1, r.steps⟩ := fun n => by
  rw [mr_step hk hw, ← hs, mbody, if_neg h1, if_pos (he.trans hf)]
theorem sim_leaf {body : List Sm} {fuel : Int} {k : Nat} {ws : List Nat} {r : RS} {s : Sm} (hs : s = body.getD k default) (h1 : ¬ s.kind = 1) (h7 : ¬ s.kind = 7) (h8 : ¬ s.kind = 8) (hk : k < body.length) (hw : ws.length < 100) (hf : r.fuel = fuel) :
    Sim body fuel k ws r (if (stepR r).1 = true then leaf s (stepR r).2 else (false, (stepR r).2)) := by
  by_cases he : r.steps = r.fuel
  · rw [stepR_eq he, if_neg (by simp)]
    exact Sim.stop ⟨1, fuel_out hs h1 hk hw hf he⟩
  · rw [stepR_ne he, if_pos rfl]
    have hne : ¬ r.steps = fuel := fun e => he (e.trans hf.symm)
    obtain ⟨l1, l2⟩ := leaf_step (s := s) (q := { r with steps := r.steps + 1 })
    by_cases h0 : (stepS s r.vars r.cells).1 = 0
    · rw [l1 h0]
      refine Sim.go rfl ⟨1, fun n => ?_⟩
      rw [mr_step hk hw, ← hs, mbody, if_neg h1, if_neg hne, if_neg (fun h => h h0)]
      by_cases h5 : s.kind = 5
      · rw [if_pos h5, if_pos h5]
      · rw [if_neg h5, if_neg h7, if_neg h8, if_neg h5]
    · obtain ⟨l3, l4, l5⟩ := l2 h0
      rw [l3]
      refine Sim.stop ⟨1, fun n => ?_⟩
      rw [mr_step hk hw, ← hs, mbody, if_neg h1, if_neg hne, if_pos h0]
      show some (Rs.mk (stepS s r.vars r.cells).2.1 (stepS s r.vars r.cells).2.2 _ _ _) = _
      rw [show (stepS s r.vars r.cells).2.1 = r.vars from l4, show (stepS s r.vars r.cells).2.2 = r.cells from l5]
theorem stepS_none {s : Sm} {v c : List Int} (h : s.kind = 1 ∨ s.kind = 7 ∨ s.kind = 8) : stepS s v c = (0, v, c) := by
  unfold stepS
  rw [if_neg (by omega), if_neg (by omega), if_neg (by omega), if_neg (by omega)]
theorem sim_while {body : List Sm} {fuel : Int} {k : Nat} {ws : List Nat} {s : Sm} {f : RS → Bool × RS} (hs : s = body.getD k default) (h8 : s.kind = 8) (hk : k < body.length) (hw : ws.length < 99)
    (hx : ∀ r, RSok r → r.fuel = fuel → Sim body fuel (k + 1) (k :: ws) r (f r)) (hle : ∀ r, RSok r → RSle r (f r).2) : ∀ {m : Nat} {r : RS}, RSok r → r.fuel = fuel → (r.fuel - r.steps).toNat < m → Sim body fuel k ws r (whileW s f m r)
  | 0, r, _, _, hm => by omega
  | m + 1, r, hr, hf, hm => by
    have h1 : ¬ s.kind = 1 := by omega
    unfold whileW
    by_cases he : r.steps = r.fuel
    · rw [if_pos he]
      exact Sim.stop ⟨1, fuel_out hs h1 hk (by omega) hf he⟩
    · rw [if_neg he]
      have hne : ¬ r.steps = fuel := fun e => he (e.trans hf.symm)
      have hst := hr.step
      rw [stepR_ne he] at hst
      have hstep : ∀ n, mr body fuel (n + 1) (k :: ws) r = if 0 ≤ evalT s.sum r.vars then mr body fuel n ((k + 1) :: k :: ws) { r with steps := r.steps + 1 } else mr body fuel n ws { r with steps := r.steps + 1 } := fun n => by
        rw [mr_step hk (by omega), ← hs, mbody, if_neg h1, if_neg hne, stepS_none (.inr (.inr h8)), if_neg (fun h => h rfl), if_neg (by omega), if_neg (by omega), if_pos h8]
      by_cases hn : evalT s.sum r.vars < 0
      · rw [if_pos hn]
        refine Sim.go rfl ⟨1, fun n => ?_⟩
        rw [hstep, if_neg (by omega)]
      · rw [if_neg hn]
        have hx' := hx { r with steps := r.steps + 1 } hst.ok hf
        have hl' := hle { r with steps := r.steps + 1 } hst.ok
        by_cases hb : (f { r with steps := r.steps + 1 }).1 = true
        · rw [if_pos hb]
          obtain ⟨ho, j, hj⟩ := hx'.yes hb
          have hfu : (f { r with steps := r.steps + 1 }).2.fuel = r.fuel := hl'.fuel
          have hss : r.steps + 1 ≤ (f { r with steps := r.steps + 1 }).2.steps := hl'.steps
          have h4 := hr.hi
          have ih := sim_while hs h8 hk hw hx hle (m := m) hl'.ok (hfu.trans hf) (by rw [hfu]; omega)
          have hh : ∀ n, mr body fuel (n + (j + 1)) (k :: ws) r = mr body fuel n (k :: ws) (f { r with steps := r.steps + 1 }).2 := fun n => by
            rw [← Nat.add_assoc, hstep, if_pos (by omega), hj]
          constructor
          · intro h
            obtain ⟨a1, j2, a2⟩ := ih.yes h
            exact ⟨a1.trans ho, j2 + (j + 1), fun n => by rw [← Nat.add_assoc, hh, a2]⟩
          · intro h
            obtain ⟨j2, a2⟩ := ih.no h
            exact ⟨j2 + (j + 1), fun n => by rw [← Nat.add_assoc, hh, a2]⟩
        · rw [if_neg hb]
          have hb' : (f { r with steps := r.steps + 1 }).1 = false := by simpa using hb
          obtain ⟨j, hj⟩ := hx'.no hb'
          refine Sim.stop ⟨j + 1, fun n => ?_⟩
          rw [← Nat.add_assoc, hstep, if_pos (by omega), hj]
theorem sim {body : List Sm} {fuel : Int} : ∀ {t : Tr} {k k' : Nat}, treeAt body k = some (t, k') → ∀ {ws : List Nat} {r : RS}, RSok r → r.fuel = fuel → ws.length + (k' - k) ≤ 99 → Sim body fuel k ws r (run1 t r)
  | .node s a [], k, k', ht, ws, r, hr, hf, hw => by
    obtain ⟨hk, hs, hst, hi, hb⟩ := node_inv ht
    have hlt := (treeAt_le ht).1
    have h0 := below_zero hst hb.symm
    rw [run1_nil]
    exact sim_leaf hs (by omega) (by omega) (by omega) hk (by omega) hf
  | .node s a [x], k, k', ht, ws, r, hr, hf, hw => by
    obtain ⟨hk, hs, hst, hi, hb⟩ := node_inv ht
    have hlt := (treeAt_le ht).1
    have h8 := below_one hb.symm
    have htok : (Tr.node s a [x]).ok := treeF_ok ht
    cases hx : treeAt body (k + 1) with
    | none => rw [show [x].length = 0 + 1 from rfl, iterT_none hx] at hi; cases hi
    | some y =>
      obtain ⟨t1, k1⟩ := y
      rw [show [x].length = 0 + 1 from rfl, iterT_some hx] at hi
      simp only [iterT, Option.map_some, Option.some.injEq, Prod.mk.injEq, List.cons.injEq, and_true] at hi
      obtain ⟨rfl, rfl⟩ := hi
      have hl1 := (treeAt_le hx).1
      rw [run1_one]
      exact sim_while hs h8 hk (by omega) (fun r hr hf => sim hx hr hf (by simp only [List.length_cons]; omega)) (fun r hr => run1_le htok.2.2.1 hr) hr hf (Nat.lt_succ_self _)
  | .node s a [x, y], k, k', ht, ws, r, hr, hf, hw => by
    obtain ⟨hk, hs, hst, hi, hb⟩ := node_inv ht
    have hlt := (treeAt_le ht).1
    have htok : (Tr.node s a [x, y]).ok := treeF_ok ht
    cases hx : treeAt body (k + 1) with
    | none => rw [show [x, y].length = 1 + 1 from rfl, iterT_none hx] at hi; cases hi
    | some z =>
      obtain ⟨t1, k1⟩ := z
      rw [show [x, y].length = 1 + 1 from rfl, iterT_some hx] at hi
      cases hy : treeAt body k1 with
      | none => rw [show (1 : Nat) = 0 + 1 from rfl, iterT_none hy] at hi; cases hi
      | some z =>
        obtain ⟨t2, k2⟩ := z
        rw [show (1 : Nat) = 0 + 1 from rfl, iterT_some hy] at hi
        simp only [iterT, Option.map_some, Option.some.injEq, Prod.mk.injEq, List.cons.injEq, and_true] at hi
        obtain ⟨⟨rfl, rfl⟩, rfl⟩ := hi
        have hl1 := (treeAt_le hx).1
        have hl2 := (treeAt_le hy).1
        have hend := endR_tree hx
        have hxo := run1_le htok.2.2.1 hr
        rw [run1_two]
        rcases below_two hb.symm with h1 | h7
        · rw [if_pos h1]
          have hstep : ∀ n, mr body fuel (n + 1) (k :: ws) r = mr body fuel n ((k + 1) :: k1 :: ws) r := fun n => by
            rw [mr_step hk (by omega), ← hs, mbody, if_pos h1, hend, if_neg (by omega), Int.toNat_natCast]
          have sx := sim hx (ws := k1 :: ws) hr hf (by simp only [List.length_cons]; omega)
          by_cases hb1 : (run1 t1 r).1 = true
          · rw [if_pos hb1]
            obtain ⟨ho, j, hj⟩ := sx.yes hb1
            have sy := sim hy (ws := ws) hxo.ok (hxo.fuel.trans hf) (by omega)
            refine Sim.after rfl hstep (fun h => ?_) (fun h => ?_)
            · obtain ⟨a1, j2, a2⟩ := sy.yes h
              exact ⟨a1.trans ho, j2 + j, fun n => by rw [← Nat.add_assoc, hj, a2]⟩
            · obtain ⟨j2, a2⟩ := sy.no h
              exact ⟨j2 + j, fun n => by rw [← Nat.add_assoc, hj, a2]⟩
          · rw [if_neg hb1]
            obtain ⟨j, hj⟩ := sx.no (by simpa using hb1)
            refine Sim.after rfl hstep (fun h => (by cases h)) (fun _ => ⟨j, hj⟩)
        · rw [if_neg (by omega)]
          by_cases he : r.steps = r.fuel
          · rw [stepR_eq he, if_neg (by simp)]
            exact Sim.stop ⟨1, fuel_out hs (by omega) hk (by omega) hf he⟩
          · have hst' := hr.step
            rw [stepR_ne he] at hst' ⊢
            rw [if_pos rfl]
            have hne : ¬ r.steps = fuel := fun e => he (e.trans hf.symm)
            have hstep : ∀ n, mr body fuel (n + 1) (k :: ws) r = if 0 ≤ evalT s.sum r.vars then mr body fuel n ((k + 1) :: ws) { r with steps := r.steps + 1 } else mr body fuel n (k1 :: ws) { r with steps := r.steps + 1 } := fun n => by
              rw [mr_step hk (by omega), ← hs, mbody, if_neg (by omega), if_neg hne, stepS_none (.inr (.inl h7)), if_neg (fun h => h rfl), if_neg (by omega), if_pos h7, hend, if_neg (show ¬ (k1 : Int) < 0 by omega), Int.toNat_natCast]
            by_cases hp : 0 ≤ evalT s.sum r.vars
            · rw [if_pos hp]
              have sx := sim hx (ws := ws) hst'.ok hf (by omega)
              exact Sim.after (r1 := { r with steps := r.steps + 1 }) rfl (fun n => by rw [hstep, if_pos hp]) sx.yes sx.no
            · rw [if_neg hp]
              have sy := sim hy (ws := ws) hst'.ok hf (by omega)
              exact Sim.after (r1 := { r with steps := r.steps + 1 }) rfl (fun n => by rw [hstep, if_neg hp]) sy.yes sy.no
  | .node s a (x :: y :: z :: ks), k, k', ht, ws, r, hr, hf, hw => by
    obtain ⟨hk, hs, hst, hi, hb⟩ := node_inv ht
    have h2 := (below_le s.kind).2
    simp only [List.length_cons] at hb
    omega
/-- The machine and the tree come to the same. -/
theorem runs_same {p : Pm} {s : Sx} {f : Int} (hp : validP p = true) (hs : stB s = true) (hf : inB 0 2000 f = true) :
    ∃ n, mrun p.body f n [0] s.vars s.cells [] 0 = some ⟨(run1 (treeO p.body) (r0 s f)).2.vars, (run1 (treeO p.body) (r0 s f)).2.cells, (run1 (treeO p.body) (r0 s f)).2.events, (run1 (treeO p.body) (r0 s f)).2.out, (run1 (treeO p.body) (r0 s f)).2.steps⟩ := by
  have htb : tOB p.body = true := by unfold validP at hp; simp only [Bool.and_eq_true] at hp; exact hp.1
  obtain ⟨t, h1, h2, h3⟩ := tOB_some htb
  have h4 : treeAt p.body 0 = some (treeO p.body, p.body.length) := by
    unfold treeO; rw [h1]; exact h1
  have hb := bodyB_iff ((body_eq p.body).trans htb)
  have hsim := sim (fuel := f) h4 (ws := []) (r0_ok hs hf) rfl (by simp; omega)
  cases hb1 : (run1 (treeO p.body) (r0 s f)).1 with
  | true =>
    obtain ⟨ho, j, hj⟩ := hsim.yes hb1
    refine ⟨1 + j, (hj 1).trans ?_⟩
    rw [ho]; rfl
  | false =>
    obtain ⟨j, hj⟩ := hsim.no hb1
    exact ⟨0 + j, hj 0⟩
end Go.Al
namespace Go.Al
open Go.Proofs
set_option linter.unusedVariables false
set_option linter.unusedSimpArgs false
set_option maxRecDepth 10000
set_option maxHeartbeats 4000000
theorem mark_idem : ∀ {k : Int} {xs : List Int}, markL mI oneI k (markL mI oneI k xs) = markL mI oneI k xs
  | _, [] => rfl
  | k, x :: xs => by
    show k :: markL mI oneI (k + 1) (markL mI oneI (k + 1) xs) = k :: markL mI oneI (k + 1) xs
    rw [mark_idem]
abbrev mSx (s : Sx) (k : Int) : Sx := ⟨markL mI oneI k s.vars, markL mI oneI (k + s.vars.length) s.cells⟩
theorem held_mark (s : Sx) (k : Int) : heldSx (mSx s k) k = k + s.vars.length + s.cells.length := by
  show (if markL mI oneI k s.vars = markL mI oneI k (markL mI oneI k s.vars) then (if markL mI oneI (k + s.vars.length) s.cells = markL mI oneI (k + ((markL mI oneI k s.vars).length : Int)) (markL mI oneI (k + s.vars.length) s.cells) then k + ((markL mI oneI k s.vars).length : Int) + ((markL mI oneI (k + s.vars.length) s.cells).length : Int) else -1) else -1) = _
  rw [markL_length, markL_length, if_pos mark_idem.symm, if_pos mark_idem.symm]
theorem held_marks (xs : List Int) (k : Int) : (if markL mI oneI k xs = markL mI oneI k (markL mI oneI k xs) then k + ((markL mI oneI k xs).length : Int) else -1) = k + xs.length := by
  rw [if_pos mark_idem.symm, markL_length]

theorem c18z {L : Nat} (h1 : 4096 ≤ L) (h2 : L ≤ 1073741824) {k : Int} : MC Try.prog L 18 [.agg [.d (ints []), .d (ints [])], eI k] [] (Plain (eI k)) := by
 refine MC.alone ?_ rfl
 have hσ := SGok (nt := 14) h1 (Nat.le_trans h2 (by decide))
 refine MC.body hσ Try.func18 (by kernel_rfl) rfl rfl (Nat.le_of_ble_eq_true rfl) (fun hF => ?_)
 refine AWP.seq ?_
 refine AWP.region ?_
 refine AOps.heap (HS.box hσ rfl rfl rfl rfl rfl rfl rfl) rfl ?_
 apply AOps.norm
 ·
  repeat' (first | exact q0 rfl | apply q1 rfl | exact q2 rfl | apply q3 rfl | exact q4 rfl | apply q5 rfl | exact q6 rfl | exact q7 rfl | exact q8)
 refine AOps.step (Val.of hσ rfl rfl) rfl rfl rfl ?_
 refine AOps.nil ?_
 refine AWP.seq ?_
 refine AWP.region ?_
 refine AOps.step (Val.of hσ rfl rfl) rfl rfl rfl ?_
 refine AOps.step (Val.of hσ rfl rfl) rfl rfl rfl ?_
 refine AOps.step (Val.of hσ rfl rfl) rfl rfl rfl ?_
 refine AOps.forget [(7, _), (6, _), (4, _), (2, _), (0, _), (1, _)] ⟨rfl, rfl, rfl, rfl, rfl, rfl, trivial⟩ ?_
 refine AOps.lone hσ rfl rfl rfl rfl (c19n (k := k) h1 h2) (VAs.self rfl) rfl rfl rfl rfl rfl (B0 := 9000) rfl ?_
 refine AOps.step (Val.of hσ rfl rfl) rfl rfl rfl ?_
 refine AOps.forget [(1, _), (4, _), (2, _), (0, _)] ⟨rfl, rfl, rfl, rfl, trivial⟩ ?_
 refine AOps.nil ?_
 refine AWP.seq ?_
 refine AWP.region ?_
 refine AOps.step (Val.of hσ rfl rfl) rfl rfl rfl ?_
 refine AOps.step (Val.of hσ rfl rfl) rfl rfl rfl ?_
 refine AOps.step (Val.of hσ rfl rfl) rfl rfl rfl ?_
 refine AOps.forget [(11, _), (10, _), (1, _), (4, _), (2, _), (0, _)] ⟨rfl, rfl, rfl, rfl, rfl, rfl, trivial⟩ ?_
 refine AOps.lone hσ rfl rfl rfl rfl (c19n (k := k) h1 h2) (VAs.self rfl) rfl rfl rfl rfl rfl (B0 := 13000) rfl ?_
 refine AOps.step (Val.of hσ rfl rfl) rfl rfl rfl ?_
 refine AOps.forget [(1, _), (4, _), (2, _), (0, _)] ⟨rfl, rfl, rfl, rfl, trivial⟩ ?_
 refine AOps.nil ?_
 refine AWP.seq ?_
 refine AWP.region ?_
 refine AOps.step (Val.of hσ rfl rfl) rfl rfl rfl ?_
 refine AOps.step (Val.of hσ rfl rfl) rfl rfl rfl ?_
 refine AOps.nil ?_
 refine AWP.ret ?_
 refine ⟨.inl rfl, _, Ent.refl, _, rfl, ?_⟩
 first | rfl | skip
theorem c3v {L : Nat} (h1 : 4096 ≤ L) (h2 : L ≤ 1073741824) {p : Pm} {s : Sx} {f : Int} {R : RS} (hcr : (1 : Int) + R.vars.length + R.cells.length ≤ 1073741824) (hce : (1 : Int) + R.vars.length + R.cells.length + R.events.length ≤ 1073741824) (cs : MC Try.prog L 10 [aPm p, aSx s, eI f] [] (Rows (.tup [.agg [.rs 0 0 R.vars.length, .rs 1 0 R.cells.length], .c (.rs 2 0 R.events.length), eI R.out, eB true]) [nrow R.vars, nrow R.cells, nrow R.events])) (ci : MC Try.prog L 13 [aPm p, aSx s, eI f] [] (Rows (.tup [.agg [.rs 0 0 R.vars.length, .rs 1 0 R.cells.length], .c (.rs 2 0 R.events.length), eI R.out, eB true]) [nrow R.vars, nrow R.cells, nrow R.events])) (hz1 : 0 ≤ szr 1048576 (szs Tm.size p.pre + szs Sm.size p.body + szs Tm.size p.post)) (hz2 : 0 ≤ szr (szr 1048576 (szs Tm.size p.pre + szs Sm.size p.body + szs Tm.size p.post)) (s.vars.length + s.cells.length)) (hcp : 1 + cnt nT p.pre + cnt nS p.body + cnt nT p.post ≤ (1073741824 : Int)) (hcs : 1 + cnt nT p.pre + cnt nS p.body + cnt nT p.post + s.vars.length + s.cells.length ≤ (1073741824 : Int)) : MC Try.prog L 3 [aPm p, aSx s, eI f] [] (Plain (eB true)) := by
 refine MC.alone ?_ rfl
 have hσ := SGok (nt := 182) h1 (Nat.le_trans h2 (by decide))
 refine MC.body hσ Try.func3 (by kernel_rfl) rfl rfl (Nat.le_of_ble_eq_true rfl) (fun hF => ?_)
 have hbig : L ≤ 9223372036854775807 := Nat.le_trans h2 (by decide)
 refine AWP.seq ?_
 refine AWP.region ?_
 refine AOps.heap (HS.box hσ rfl rfl rfl rfl rfl rfl rfl) rfl ?_
 apply AOps.norm
 ·
  repeat' (first | exact q0 rfl | apply q1 rfl | exact q2 rfl | apply q3 rfl | exact q4 rfl | apply q5 rfl | exact q6 rfl | exact q7 rfl | exact q8)
 refine AOps.forget [(3, _), (1, _), (2, _)] ⟨rfl, rfl, rfl, trivial⟩ ?_
 refine AOps.heap (HS.box hσ rfl rfl rfl rfl rfl rfl rfl) rfl ?_
 apply AOps.norm
 ·
  repeat' (first | exact q0 rfl | apply q1 rfl | exact q2 rfl | apply q3 rfl | exact q4 rfl | apply q5 rfl | exact q6 rfl | exact q7 rfl | exact q8)
 refine AOps.step (Val.of hσ rfl rfl) rfl rfl rfl ?_
 refine AOps.nil ?_
 refine AWP.seq ?_
 refine AWP.region ?_
 refine AOps.step (Val.of hσ rfl rfl) rfl rfl rfl ?_
 refine AOps.nil ?_
 refine AWP.seq ?_
 refine AWP.region ?_
 refine AOps.step (Val.of hσ rfl rfl) rfl rfl rfl ?_
 refine AOps.step (Val.of hσ rfl rfl) rfl rfl rfl ?_
 refine AOps.lone hσ rfl rfl rfl rfl (c8 (p := p) (left := 1048576) h1 hbig (by decide) (by decide)) (VAs.self rfl) rfl rfl rfl rfl rfl (B0 := 28000) rfl ?_
 refine AOps.step (Val.of hσ rfl rfl) rfl rfl rfl ?_
 refine AOps.forget [(7, _), (6, _), (4, _), (3, _), (1, _), (2, _)] ⟨rfl, rfl, rfl, rfl, rfl, rfl, trivial⟩ ?_
 refine AOps.nil ?_
 refine AWP.seq ?_
 refine AWP.seq ?_
 refine AWP.region ?_
 refine AOps.step (Val.of hσ rfl rfl) rfl rfl rfl ?_
 refine AOps.step (Val.of hσ rfl rfl) rfl rfl rfl ?_
 refine AOps.nil ?_
 refine AWP.cond hσ rfl rfl (fun hc29 => ?_) (fun hc29 => ?_)
 ·
  skip
  exact absurd (of_decide_eq_true hc29) (by omega)
 ·
  skip
  refine AWP.skip ?_
  refine AWP.seq ?_
  refine AWP.region ?_
  refine AOps.step (Val.of hσ rfl rfl) rfl rfl rfl ?_
  refine AOps.step (Val.of hσ rfl rfl) rfl rfl rfl ?_
  refine AOps.forget [(31, _), (30, _), (28, _), (7, _), (6, _), (4, _), (3, _), (1, _), (2, _)] ⟨rfl, rfl, rfl, rfl, rfl, rfl, rfl, rfl, rfl, trivial⟩ ?_
  have hle := szr_le (left := 1048576) (by decide) (szs Tm.size p.pre + szs Sm.size p.body + szs Tm.size p.post)
  refine AOps.lone hσ rfl rfl rfl rfl (c9 (s := s) h1 hbig hz1 (by omega)) (VAs.self rfl) rfl rfl rfl rfl rfl (B0 := 33000) rfl ?_
  refine AOps.step (Val.of hσ rfl rfl) rfl rfl rfl ?_
  refine AOps.forget [(7, _), (28, _), (6, _), (4, _), (3, _), (1, _), (2, _)] ⟨rfl, rfl, rfl, rfl, rfl, rfl, rfl, trivial⟩ ?_
  refine AOps.nil ?_
  refine AWP.seq ?_
  refine AWP.seq ?_
  refine AWP.region ?_
  refine AOps.step (Val.of hσ rfl rfl) rfl rfl rfl ?_
  refine AOps.step (Val.of hσ rfl rfl) rfl rfl rfl ?_
  refine AOps.nil ?_
  refine AWP.cond hσ rfl rfl (fun hc34 => ?_) (fun hc34 => ?_)
  ·
   skip
   exact absurd (of_decide_eq_true hc34) (by omega)
  ·
   skip
   refine AWP.skip ?_
   refine AWP.seq ?_
   refine AWP.forget [(33, _), (7, _), (28, _), (6, _), (4, _), (3, _), (1, _), (2, _)] ⟨rfl, rfl, rfl, rfl, rfl, rfl, rfl, rfl, trivial⟩ ?_
   refine AWP.drawF2 hσ _ [_, _, _, _, _, _, _, _, _, _, _, _, _, _, _, _] [⟨[], 0, 0, none⟩, ⟨[0], 0, 0, some 0⟩, ⟨[], 0, 1, none⟩, ⟨[0, 1, 2], 0, 0, some 1⟩, ⟨[], 0, 2, none⟩, ⟨[0, 1, 2, 3, 4], 0, 0, some 2⟩, ⟨[0, 1, 2, 3, 4, 5], 3, 3, none⟩, ⟨[0, 1, 2, 3, 4, 5, 6], 3, 3, none⟩, ⟨[0, 1, 2, 3, 4, 5, 6], 3, 4, none⟩, ⟨[0, 1, 2, 3, 4, 5, 6], 3, 4, none⟩, ⟨[0, 1, 2, 3, 4, 5, 6], 3, 4, none⟩, ⟨[], 0, 3, none⟩, ⟨[0, 1, 2, 3, 4, 5, 6, 7, 11], 0, 0, some 3⟩, ⟨[0, 1, 2, 3, 4, 5, 6, 7, 8, 11, 12], 4, 4, none⟩, ⟨[0, 1, 2, 3, 4, 5, 6, 7, 8, 9, 11, 12, 13], 4, 4, none⟩, ⟨[0, 1, 2, 3, 4, 5, 6, 7, 8, 9, 10, 11, 12, 13, 14], 4, 4, none⟩] [1, 3, 5, 12] 11 8 (.box [.d .nils, .d .nils]) [_, _, _, _] [_] [] rfl rfl (by decide) (by decide) (by decide) rfl (by kernel_rfl) (And.intro (And.intro (and_flip (Val.of hσ rfl rfl) (Val.of hσ rfl rfl)) rfl) (And.intro (And.intro (and_flip (Eff.p (Eff.rows hσ (B0 := 38000) rfl rfl rfl rfl (c11 (p := p) h1 h2) (VAs.self rfl) rfl rfl rfl rfl rfl)) (Eff.p (Eff.rows hσ (B0 := 38000) rfl rfl rfl rfl (c11 (p := p) h1 h2) (VAs.self rfl) rfl rfl rfl rfl rfl))) rfl) (And.intro (And.intro (And.intro (and_flip (Val.of hσ rfl rfl) (Val.of hσ rfl rfl)) rfl) (And.intro (and_flip (Val.of hσ rfl rfl) (Val.of hσ rfl rfl)) rfl)) (And.intro (And.intro (and_flip (Eff.p (Eff.rows hσ (B0 := 40000) rfl rfl rfl rfl (c12 (s := s) h1 h2) (VAs.self rfl) rfl rfl rfl rfl rfl)) (Eff.p (Eff.rows hσ (B0 := 40000) rfl rfl rfl rfl (c12 (s := s) h1 h2) (VAs.self rfl) rfl rfl rfl rfl rfl))) rfl) (And.intro (And.intro (And.intro (and_flip (Val.of hσ rfl rfl) (Val.of hσ rfl rfl)) rfl) (And.intro (And.intro (and_flip (Val.of hσ rfl rfl) (Val.of hσ rfl rfl)) rfl) (And.intro (and_flip (Val.of hσ rfl rfl) (Val.of hσ rfl rfl)) rfl))) (And.intro (And.intro (and_flip (Eff.p (Eff.rows hσ (B0 := 42000) rfl rfl rfl rfl (cs) (.cons (.agg (.cons (.whole rfl (List.length_map _).symm) (.cons (.whole rfl (List.length_map _).symm) (.cons (.whole rfl (List.length_map _).symm) .nil)))) (.cons (.agg (.cons (.whole rfl (List.length_map _).symm) (.cons (.whole rfl (List.length_map _).symm) .nil))) (.cons (.c .d) .nil))) rfl rfl rfl rfl rfl)) (Eff.p (Eff.rows hσ (B0 := 42000) rfl rfl rfl rfl (cs) (.cons (.agg (.cons (.whole rfl (List.length_map _).symm) (.cons (.whole rfl (List.length_map _).symm) (.cons (.whole rfl (List.length_map _).symm) .nil)))) (.cons (.agg (.cons (.whole rfl (List.length_map _).symm) (.cons (.whole rfl (List.length_map _).symm) .nil))) (.cons (.c .d) .nil))) rfl rfl rfl rfl rfl))) rfl) (And.intro (And.intro (and_flip (Val.of hσ rfl rfl) (Val.of hσ rfl rfl)) rfl) (And.intro (And.intro (and_flip (Val.of hσ rfl rfl) (Val.of hσ rfl rfl)) rfl) (And.intro (And.intro (And.intro (and_flip (Val.of hσ rfl rfl) (Val.of hσ rfl rfl)) rfl) (And.intro (and_flip (Val.of hσ rfl rfl) (Val.of hσ rfl rfl)) rfl)) (And.intro (And.intro (And.intro (and_flip (Val.of hσ rfl rfl) (Val.of hσ rfl rfl)) rfl) (And.intro (and_flip (Val.of hσ rfl rfl) (Val.of hσ rfl rfl)) rfl)) (And.intro (And.intro (And.intro (and_flip (Val.of hσ rfl rfl) (Val.of hσ rfl rfl)) rfl) (And.intro (and_flip (Val.of hσ rfl rfl) (Val.of hσ rfl rfl)) rfl)) (And.intro (And.intro (And.intro (Eff.p (Eff.alloc hσ rfl rfl rfl rfl rfl rfl)) rfl) (And.intro (And.intro (Eff.p (Eff.alloc hσ rfl rfl rfl rfl rfl rfl)) rfl) (And.intro (And.intro (Eff.p (Eff.alloc hσ rfl rfl rfl rfl rfl rfl)) rfl) (And.intro (Eff.p (Eff.alloc hσ rfl rfl rfl rfl rfl rfl)) rfl)))) (And.intro (And.intro (and_flip trivial (Eff.p (Eff.storeBox hσ rfl rfl rfl rfl rfl rfl rfl rfl rfl rfl rfl rfl rfl))) rfl) (And.intro (And.intro (and_flip trivial (Val.of hσ rfl rfl)) rfl) (And.intro (And.intro (and_flip trivial (Val.of hσ rfl rfl)) rfl) (And.intro (And.intro (and_flip trivial (Val.of hσ rfl rfl)) rfl) trivial)))))))))))))))) ?_
   refine AWP.forget [(11, _), (10, _), (9, _), (8, _), (33, _), (7, _), (28, _), (6, _), (4, _), (3, _), (1, _), (2, _)] ⟨rfl, rfl, rfl, rfl, rfl, rfl, rfl, rfl, rfl, rfl, rfl, rfl, trivial⟩ ?_
   apply AWP.norm
   ·
    repeat' (first | exact q0 rfl | apply q1 rfl | exact q2 rfl | apply q3 rfl | exact q4 rfl | apply q5 rfl | exact q6 rfl | exact q7 rfl | exact q8)
   refine AWP.seq ?_
   refine AWP.region ?_
   refine AOps.to (Ent.sel [3, 4, 8, 42000, 42001, 42002] (e' := [(3, _), (4, _), (2, _), (8, _), (9, _), (10, _), (11, _), (6, _)]) rfl rfl ⟨rfl, rfl, rfl, rfl, rfl, rfl, rfl, rfl, trivial⟩ rfl) ?_
   apply AOps.norm
   ·
    repeat' (first | exact q0 rfl | apply q1 rfl | exact q2 rfl | apply q3 rfl | exact q4 rfl | apply q5 rfl | exact q6 rfl | exact q7 rfl | exact q8)
   refine AOps.step (Val.of hσ rfl rfl) rfl rfl rfl ?_
   refine AOps.rows hσ (B0 := 48000) rfl rfl rfl rfl (c11 (p := p) h1 h2) (VAs.self rfl) rfl rfl rfl rfl rfl rfl ?_
   apply AOps.norm
   ·
    repeat' (first | exact q0 rfl | apply q1 rfl | exact q2 rfl | apply q3 rfl | exact q4 rfl | apply q5 rfl | exact q6 rfl | exact q7 rfl | exact q8)
   refine AOps.forget [(47, _), (3, _), (4, _), (2, _), (8, _), (9, _), (10, _), (11, _), (6, _)] ⟨rfl, rfl, rfl, rfl, rfl, rfl, rfl, rfl, rfl, trivial⟩ ?_
   refine AOps.heap (HS.alloc hσ rfl rfl rfl rfl rfl) rfl ?_
   apply AOps.norm
   ·
    repeat' (first | exact q0 rfl | apply q1 rfl | exact q2 rfl | apply q3 rfl | exact q4 rfl | apply q5 rfl | exact q6 rfl | exact q7 rfl | exact q8)
   refine AOps.heap (HS.storeBox hσ rfl rfl rfl rfl rfl rfl rfl rfl rfl rfl rfl) rfl ?_
   apply AOps.norm
   ·
    repeat' (first | exact q0 rfl | apply q1 rfl | exact q2 rfl | apply q3 rfl | exact q4 rfl | apply q5 rfl | exact q6 rfl | exact q7 rfl | exact q8)
   refine AOps.nil ?_
   refine AWP.seq ?_
   refine AWP.region ?_
   refine AOps.step (Val.of hσ rfl rfl) rfl rfl rfl ?_
   refine AOps.rows hσ (B0 := 50000) rfl rfl rfl rfl (c12 (s := s) h1 h2) (VAs.self rfl) rfl rfl rfl rfl rfl rfl ?_
   apply AOps.norm
   ·
    repeat' (first | exact q0 rfl | apply q1 rfl | exact q2 rfl | apply q3 rfl | exact q4 rfl | apply q5 rfl | exact q6 rfl | exact q7 rfl | exact q8)
   refine AOps.forget [(49, _), (12, _), (47, _), (3, _), (4, _), (2, _), (8, _), (9, _), (10, _), (11, _), (6, _)] ⟨rfl, rfl, rfl, rfl, rfl, rfl, rfl, rfl, rfl, rfl, rfl, trivial⟩ ?_
   refine AOps.heap (HS.alloc hσ rfl rfl rfl rfl rfl) rfl ?_
   apply AOps.norm
   ·
    repeat' (first | exact q0 rfl | apply q1 rfl | exact q2 rfl | apply q3 rfl | exact q4 rfl | apply q5 rfl | exact q6 rfl | exact q7 rfl | exact q8)
   refine AOps.heap (HS.storeBox hσ rfl rfl rfl rfl rfl rfl rfl rfl rfl rfl rfl) rfl ?_
   apply AOps.norm
   ·
    repeat' (first | exact q0 rfl | apply q1 rfl | exact q2 rfl | apply q3 rfl | exact q4 rfl | apply q5 rfl | exact q6 rfl | exact q7 rfl | exact q8)
   refine AOps.nil ?_
   refine AWP.seq ?_
   refine AWP.region ?_
   refine AOps.step (Val.of hσ rfl rfl) rfl rfl rfl ?_
   refine AOps.step (Val.of hσ rfl rfl) rfl rfl rfl ?_
   refine AOps.step (Val.of hσ rfl rfl) rfl rfl rfl ?_
   refine AOps.rows hσ (B0 := 55000) rfl rfl rfl rfl (ci) (.cons (.agg (.cons (.whole rfl (List.length_map _).symm) (.cons (.whole rfl (List.length_map _).symm) (.cons (.whole rfl (List.length_map _).symm) .nil)))) (.cons (.agg (.cons (.whole rfl (List.length_map _).symm) (.cons (.whole rfl (List.length_map _).symm) .nil))) (.cons (.c .d) .nil))) rfl rfl rfl rfl rfl rfl ?_
   apply AOps.norm
   ·
    repeat' (first | exact q0 rfl | apply q1 rfl | exact q2 rfl | apply q3 rfl | exact q4 rfl | apply q5 rfl | exact q6 rfl | exact q7 rfl | exact q8)
   refine AOps.step (Val.of hσ rfl rfl) rfl rfl rfl ?_
   refine AOps.step (Val.of hσ rfl rfl) rfl rfl rfl ?_
   refine AOps.step (Val.of hσ rfl rfl) rfl rfl rfl ?_
   refine AOps.step (Val.of hσ rfl rfl) rfl rfl rfl ?_
   refine AOps.step (Val.of hσ rfl rfl) rfl rfl rfl ?_
   refine AOps.forget [(58, _), (57, _), (56, _), (55, _), (13, _), (49, _), (12, _), (47, _), (3, _), (4, _), (2, _), (8, _), (9, _), (10, _), (11, _), (6, _)] ⟨rfl, rfl, rfl, rfl, rfl, rfl, rfl, rfl, rfl, rfl, rfl, rfl, rfl, rfl, rfl, rfl, trivial⟩ ?_
   refine AOps.heap (HS.alloc hσ rfl rfl rfl rfl rfl) rfl ?_
   apply AOps.norm
   ·
    repeat' (first | exact q0 rfl | apply q1 rfl | exact q2 rfl | apply q3 rfl | exact q4 rfl | apply q5 rfl | exact q6 rfl | exact q7 rfl | exact q8)
   refine AOps.heap (HS.storeBox hσ rfl rfl rfl rfl rfl rfl rfl rfl rfl rfl rfl) rfl ?_
   apply AOps.norm
   ·
    repeat' (first | exact q0 rfl | apply q1 rfl | exact q2 rfl | apply q3 rfl | exact q4 rfl | apply q5 rfl | exact q6 rfl | exact q7 rfl | exact q8)
   refine AOps.step (Val.of hσ rfl rfl) rfl rfl rfl ?_
   refine AOps.step (Val.of hσ rfl rfl) rfl rfl rfl ?_
   refine AOps.step (Val.of hσ rfl rfl) rfl rfl rfl ?_
   refine AOps.forget [(17, _), (16, _), (15, _), (14, _), (13, _), (49, _), (12, _), (47, _), (3, _), (4, _), (2, _), (8, _), (9, _), (10, _), (11, _), (6, _)] ⟨rfl, rfl, rfl, rfl, rfl, rfl, rfl, rfl, rfl, rfl, rfl, rfl, rfl, rfl, rfl, rfl, trivial⟩ ?_
   refine AOps.nil ?_
   refine AWP.seq ?_
   refine AWP.seq ?_
   refine AWP.region ?_
   refine AOps.step (Val.of hσ rfl rfl) rfl rfl rfl ?_
   refine AOps.step (Val.of hσ rfl rfl) rfl rfl rfl ?_
   refine AOps.lone hσ rfl rfl rfl rfl ((c14 (s := (⟨R.vars, R.cells⟩ : Sx)) (t := (⟨R.vars, R.cells⟩ : Sx)) h1 h2).plain (u := eB true) (by simp)) (.cons (.agg (.cons (.whole rfl (List.length_map _).symm) (.cons (.whole rfl (List.length_map _).symm) .nil))) (.cons (.agg (.cons (.whole rfl (List.length_map _).symm) (.cons (.whole rfl (List.length_map _).symm) .nil))) .nil)) rfl rfl rfl rfl rfl (B0 := 62000) rfl ?_
   refine AOps.step (Val.of hσ rfl rfl) rfl rfl rfl ?_
   refine AOps.step (Val.of hσ rfl rfl) rfl rfl rfl ?_
   refine AOps.forget [(63, _), (17, _), (16, _), (15, _), (14, _), (13, _), (49, _), (12, _), (47, _), (3, _), (4, _), (2, _), (8, _), (9, _), (10, _), (11, _), (6, _)] ⟨rfl, rfl, rfl, rfl, rfl, rfl, rfl, rfl, rfl, rfl, rfl, rfl, rfl, rfl, rfl, rfl, rfl, trivial⟩ ?_
   refine AOps.live rfl rfl rfl rfl rfl ?_
   refine AOps.step (Val.of hσ rfl rfl) rfl rfl rfl ?_
   refine AOps.live rfl rfl rfl rfl rfl ?_
   refine AOps.step (Val.of hσ rfl rfl) rfl rfl rfl ?_
   refine AOps.live rfl rfl rfl rfl rfl ?_
   refine AOps.lone hσ rfl rfl rfl rfl ((c15 (xs := R.events) (ys := R.events) h1 h2).plain (u := eB true) (by simp)) (.cons (.c (.whole rfl (List.length_map _).symm)) (.cons (.c (.whole rfl (List.length_map _).symm)) .nil)) rfl rfl rfl rfl rfl (B0 := 67000) rfl ?_
   refine AOps.forget [(66, _), (63, _), (17, _), (16, _), (15, _), (14, _), (13, _), (49, _), (12, _), (47, _), (3, _), (4, _), (2, _), (8, _), (9, _), (10, _), (11, _), (6, _)] ⟨rfl, rfl, rfl, rfl, rfl, rfl, rfl, rfl, rfl, rfl, rfl, rfl, rfl, rfl, rfl, rfl, rfl, rfl, trivial⟩ ?_
   refine AOps.live rfl rfl rfl rfl rfl ?_
   refine AOps.step (Val.of hσ rfl rfl) rfl rfl rfl ?_
   refine AOps.step (Val.pickN hσ rfl rfl rfl rfl rfl) rfl rfl rfl ?_
   refine AOps.step (Val.of hσ rfl rfl) rfl rfl rfl ?_
   refine AOps.forget [(69, _), (17, _), (16, _), (15, _), (14, _), (13, _), (49, _), (12, _), (47, _), (3, _), (4, _), (2, _), (8, _), (9, _), (10, _), (11, _), (6, _)] ⟨rfl, rfl, rfl, rfl, rfl, rfl, rfl, rfl, rfl, rfl, rfl, rfl, rfl, rfl, rfl, rfl, rfl, trivial⟩ ?_
   refine AOps.live rfl rfl rfl rfl rfl ?_
   refine AOps.step (Val.of hσ rfl rfl) rfl rfl rfl ?_
   refine AOps.live rfl rfl rfl rfl rfl ?_
   refine AOps.step (Val.of hσ rfl rfl) rfl rfl rfl ?_
   refine AOps.live rfl rfl rfl rfl rfl ?_
   refine AOps.step (Val.of hσ rfl rfl) rfl rfl rfl ?_
   rw [decide_eq_true (rfl : R.out = R.out)]
   refine AOps.step (Val.pickN hσ rfl rfl rfl rfl rfl) rfl rfl rfl ?_
   refine AOps.step (Val.of hσ rfl rfl) rfl rfl rfl ?_
   refine AOps.forget [(74, _), (17, _), (16, _), (15, _), (14, _), (13, _), (49, _), (12, _), (47, _), (3, _), (4, _), (2, _), (8, _), (9, _), (10, _), (11, _), (6, _)] ⟨rfl, rfl, rfl, rfl, rfl, rfl, rfl, rfl, rfl, rfl, rfl, rfl, rfl, rfl, rfl, rfl, rfl, trivial⟩ ?_
   refine AOps.live rfl rfl rfl rfl rfl ?_
   refine AOps.step (Val.of hσ rfl rfl) rfl rfl rfl ?_
   refine AOps.live rfl rfl rfl rfl rfl ?_
   refine AOps.step (Val.of hσ rfl rfl) rfl rfl rfl ?_
   refine AOps.live rfl rfl rfl rfl rfl ?_
   refine AOps.step (Val.of hσ rfl rfl) rfl rfl rfl ?_
   refine AOps.step (Val.pickN hσ rfl rfl rfl rfl rfl) rfl rfl rfl ?_
   refine AOps.forget [(78, _), (17, _), (16, _), (15, _), (14, _), (13, _), (49, _), (12, _), (47, _), (3, _), (4, _), (2, _), (8, _), (9, _), (10, _), (11, _), (6, _)] ⟨rfl, rfl, rfl, rfl, rfl, rfl, rfl, rfl, rfl, rfl, rfl, rfl, rfl, rfl, rfl, rfl, rfl, trivial⟩ ?_
   refine AOps.nil ?_
   refine AWP.cond hσ rfl rfl (fun hc78 => ?_) (fun hc78 => ?_)
   ·
    skip
    exact absurd (show false = true from hc78) (by decide)
   ·
    skip
    refine AWP.skip ?_
    refine AWP.seq ?_
    refine AWP.seq ?_
    refine AWP.forget [(17, _), (16, _), (15, _), (14, _), (13, _), (49, _), (12, _), (47, _), (3, _), (4, _), (2, _), (8, _), (9, _), (10, _), (11, _), (6, _)] ⟨rfl, rfl, rfl, rfl, rfl, rfl, rfl, rfl, rfl, rfl, rfl, rfl, rfl, rfl, rfl, rfl, trivial⟩ ?_
    refine AWP.drawR hσ _ [_, _, _, _, _] [⟨[], 0, 1, none⟩, ⟨[], 0, 0, none⟩, ⟨[1], 0, 0, some 0⟩, ⟨[0, 1, 2], 0, 0, some 1⟩, ⟨[0, 1, 2, 3], 2, 2, none⟩] [2, 3] [_, _, _] rfl rfl (by decide) (by decide) (by kernel_rfl) (And.intro (And.intro (Val.of hσ rfl rfl) (Val.of hσ rfl rfl)) (And.intro (Val.of hσ rfl rfl) (And.intro (Eff.rows hσ (B0 := 82000) rfl rfl rfl rfl (c11 (p := p) h1 h2) (VAs.self rfl) rfl rfl rfl rfl rfl) (And.intro (Eff.lone hσ (B0 := 83000) rfl rfl rfl rfl ((c16 (s := p) (t := p) h1 h2).plain (u := eB true) (by simp)) (.cons (.agg (.cons (.whole rfl (List.length_map _).symm) (.cons (.whole rfl (List.length_map _).symm) (.cons (.whole rfl (List.length_map _).symm) .nil)))) (.cons (.agg (.cons (.whole rfl (List.length_map _).symm) (.cons (.whole rfl (List.length_map _).symm) (.cons (.whole rfl (List.length_map _).symm) .nil)))) .nil)) rfl rfl rfl rfl rfl) (And.intro (Val.of hσ rfl rfl) trivial))))) ?_
    refine AWP.forget [(83, _), (17, _), (16, _), (15, _), (14, _), (13, _), (49, _), (12, _), (47, _), (3, _), (4, _), (2, _), (8, _), (9, _), (10, _), (11, _), (6, _)] ⟨rfl, rfl, rfl, rfl, rfl, rfl, rfl, rfl, rfl, rfl, rfl, rfl, rfl, rfl, rfl, rfl, rfl, trivial⟩ ?_
    apply AWP.norm
    ·
     repeat' (first | exact q0 rfl | apply q1 rfl | exact q2 rfl | apply q3 rfl | exact q4 rfl | apply q5 rfl | exact q6 rfl | exact q7 rfl | exact q8)
    refine AWP.cond hσ rfl rfl (fun hc83 => ?_) (fun hc83 => ?_)
    ·
     skip
     exact absurd (show false = true from hc83) (by decide)
    ·
     skip
     refine AWP.skip ?_
     refine AWP.seq ?_
     refine AWP.seq ?_
     refine AWP.forget [(17, _), (16, _), (15, _), (14, _), (13, _), (49, _), (12, _), (47, _), (3, _), (4, _), (2, _), (8, _), (9, _), (10, _), (11, _), (6, _)] ⟨rfl, rfl, rfl, rfl, rfl, rfl, rfl, rfl, rfl, rfl, rfl, rfl, rfl, rfl, rfl, rfl, trivial⟩ ?_
     refine AWP.drawR hσ _ [_, _, _, _, _] [⟨[], 0, 1, none⟩, ⟨[], 0, 0, none⟩, ⟨[1], 0, 0, some 0⟩, ⟨[0, 1, 2], 0, 0, some 1⟩, ⟨[0, 1, 2, 3], 2, 2, none⟩] [2, 3] [_, _, _] rfl rfl (by decide) (by decide) (by kernel_rfl) (And.intro (And.intro (Val.of hσ rfl rfl) (Val.of hσ rfl rfl)) (And.intro (Val.of hσ rfl rfl) (And.intro (Eff.rows hσ (B0 := 87000) rfl rfl rfl rfl (c12 (s := s) h1 h2) (VAs.self rfl) rfl rfl rfl rfl rfl) (And.intro (Eff.lone hσ (B0 := 88000) rfl rfl rfl rfl ((c14 (s := s) (t := s) h1 h2).plain (u := eB true) (by simp)) (.cons (.agg (.cons (.whole rfl (List.length_map _).symm) (.cons (.whole rfl (List.length_map _).symm) .nil))) (.cons (.agg (.cons (.whole rfl (List.length_map _).symm) (.cons (.whole rfl (List.length_map _).symm) .nil))) .nil)) rfl rfl rfl rfl rfl) (And.intro (Val.of hσ rfl rfl) trivial))))) ?_
     refine AWP.forget [(88, _), (17, _), (16, _), (15, _), (14, _), (13, _), (49, _), (12, _), (47, _), (3, _), (4, _), (2, _), (8, _), (9, _), (10, _), (11, _), (6, _)] ⟨rfl, rfl, rfl, rfl, rfl, rfl, rfl, rfl, rfl, rfl, rfl, rfl, rfl, rfl, rfl, rfl, rfl, trivial⟩ ?_
     apply AWP.norm
     ·
      repeat' (first | exact q0 rfl | apply q1 rfl | exact q2 rfl | apply q3 rfl | exact q4 rfl | apply q5 rfl | exact q6 rfl | exact q7 rfl | exact q8)
     refine AWP.cond hσ rfl rfl (fun hc88 => ?_) (fun hc88 => ?_)
     ·
      skip
      exact absurd (show false = true from hc88) (by decide)
     ·
      skip
      refine AWP.skip ?_
      refine AWP.seq ?_
      refine AWP.region ?_
      refine AOps.step (Val.of hσ rfl rfl) rfl rfl rfl ?_
      refine AOps.nil ?_
      refine AWP.seq ?_
      refine AWP.region ?_
      refine AOps.to (Ent.sel [3, 4, 8, 12, 13, 14, 42000, 42001, 42002, 48000, 48001, 48002, 50000, 50001, 55000, 55001, 55002] (e' := [(18, _), (3, _), (4, _), (2, _), (8, _), (9, _), (10, _), (11, _), (12, _), (13, _), (14, _), (15, _), (16, _), (17, _), (6, _)]) rfl rfl ⟨rfl, rfl, rfl, rfl, rfl, rfl, rfl, rfl, rfl, rfl, rfl, rfl, rfl, rfl, rfl, trivial⟩ rfl) ?_
      apply AOps.norm
      ·
       repeat' (first | exact q0 rfl | apply q1 rfl | exact q2 rfl | apply q3 rfl | exact q4 rfl | apply q5 rfl | exact q6 rfl | exact q7 rfl | exact q8)
      refine AOps.step (Val.of hσ rfl rfl) rfl rfl rfl ?_
      refine AOps.step (Val.of hσ rfl rfl) rfl rfl rfl ?_
      refine AOps.inn hσ [48000, 48001, 48002] (bin := [trow p.pre, srow p.body, trow p.post]) rfl rfl rfl rfl (c17 (p := p) (k := 1) h1 h2 (by decide) hcp) rfl rfl rfl rfl rfl rfl (B0 := 92000) rfl rfl ?_
      apply AOps.norm
      ·
       repeat' (first | exact q0 rfl | apply q1 rfl | exact q2 rfl | apply q3 rfl | exact q4 rfl | apply q5 rfl | exact q6 rfl | exact q7 rfl | exact q8)
      refine AOps.step (Val.of hσ rfl rfl) rfl rfl rfl ?_
      refine AOps.forget [(18, _), (3, _), (4, _), (2, _), (8, _), (9, _), (10, _), (11, _), (12, _), (13, _), (14, _), (15, _), (16, _), (17, _), (6, _)] ⟨rfl, rfl, rfl, rfl, rfl, rfl, rfl, rfl, rfl, rfl, rfl, rfl, rfl, rfl, rfl, trivial⟩ ?_
      refine AOps.nil ?_
      refine AWP.seq ?_
      refine AWP.region ?_
      refine AOps.step (Val.of hσ rfl rfl) rfl rfl rfl ?_
      refine AOps.step (Val.of hσ rfl rfl) rfl rfl rfl ?_
      refine AOps.inn hσ [50000, 50001] (bin := [nrow s.vars, nrow s.cells]) rfl rfl rfl rfl (c18 (s := s) (k := 1 + cnt nT p.pre + cnt nS p.body + cnt nT p.post) h1 h2 (by omega) hcs) rfl rfl rfl rfl rfl rfl (B0 := 95000) rfl rfl ?_
      apply AOps.norm
      ·
       repeat' (first | exact q0 rfl | apply q1 rfl | exact q2 rfl | apply q3 rfl | exact q4 rfl | apply q5 rfl | exact q6 rfl | exact q7 rfl | exact q8)
      refine AOps.step (Val.of hσ rfl rfl) rfl rfl rfl ?_
      refine AOps.forget [(18, _), (3, _), (4, _), (2, _), (8, _), (9, _), (10, _), (11, _), (12, _), (13, _), (14, _), (15, _), (16, _), (17, _), (6, _)] ⟨rfl, rfl, rfl, rfl, rfl, rfl, rfl, rfl, rfl, rfl, rfl, rfl, rfl, rfl, rfl, trivial⟩ ?_
      refine AOps.nil ?_
      refine AWP.seq ?_
      refine AWP.seq ?_
      refine AWP.region ?_
      refine AOps.step (Val.of hσ rfl rfl) rfl rfl rfl ?_
      refine AOps.step (Val.of hσ rfl rfl) rfl rfl rfl ?_
      rw [decide_eq_false (show ¬ (1 + cnt nT p.pre + cnt nS p.body + cnt nT p.post + s.vars.length + s.cells.length : Int) < 0 by omega)]
      refine AOps.step (Val.of hσ rfl rfl) rfl rfl rfl ?_
      refine AOps.forget [(97, _), (18, _), (3, _), (4, _), (2, _), (8, _), (9, _), (10, _), (11, _), (12, _), (13, _), (14, _), (15, _), (16, _), (17, _), (6, _)] ⟨rfl, rfl, rfl, rfl, rfl, rfl, rfl, rfl, rfl, rfl, rfl, rfl, rfl, rfl, rfl, rfl, trivial⟩ ?_
      refine AOps.live rfl rfl rfl rfl rfl ?_
      refine AOps.step (Val.of hσ rfl rfl) rfl rfl rfl ?_
      refine AOps.live rfl rfl rfl rfl rfl ?_
      refine AOps.step (Val.of hσ rfl rfl) rfl rfl rfl ?_
      refine AOps.live rfl rfl rfl rfl rfl ?_
      refine AOps.lone hσ rfl rfl rfl rfl ((c14 (s := (⟨R.vars, R.cells⟩ : Sx)) (t := (⟨R.vars, R.cells⟩ : Sx)) h1 h2).plain (u := eB true) (by simp)) (.cons (.agg (.cons (.whole rfl (List.length_map _).symm) (.cons (.whole rfl (List.length_map _).symm) .nil))) (.cons (.agg (.cons (.whole rfl (List.length_map _).symm) (.cons (.whole rfl (List.length_map _).symm) .nil))) .nil)) rfl rfl rfl rfl rfl (B0 := 101000) rfl ?_
      refine AOps.forget [(100, _), (97, _), (18, _), (3, _), (4, _), (2, _), (8, _), (9, _), (10, _), (11, _), (12, _), (13, _), (14, _), (15, _), (16, _), (17, _), (6, _)] ⟨rfl, rfl, rfl, rfl, rfl, rfl, rfl, rfl, rfl, rfl, rfl, rfl, rfl, rfl, rfl, rfl, rfl, trivial⟩ ?_
      refine AOps.live rfl rfl rfl rfl rfl ?_
      refine AOps.step (Val.of hσ rfl rfl) rfl rfl rfl ?_
      refine AOps.step (Val.pickN hσ rfl rfl rfl rfl rfl) rfl rfl rfl ?_
      refine AOps.step (Val.of hσ rfl rfl) rfl rfl rfl ?_
      refine AOps.forget [(103, _), (18, _), (3, _), (4, _), (2, _), (8, _), (9, _), (10, _), (11, _), (12, _), (13, _), (14, _), (15, _), (16, _), (17, _), (6, _)] ⟨rfl, rfl, rfl, rfl, rfl, rfl, rfl, rfl, rfl, rfl, rfl, rfl, rfl, rfl, rfl, rfl, trivial⟩ ?_
      refine AOps.live rfl rfl rfl rfl rfl ?_
      refine AOps.step (Val.of hσ rfl rfl) rfl rfl rfl ?_
      refine AOps.live rfl rfl rfl rfl rfl ?_
      refine AOps.step (Val.of hσ rfl rfl) rfl rfl rfl ?_
      refine AOps.live rfl rfl rfl rfl rfl ?_
      refine AOps.lone hσ rfl rfl rfl rfl ((c15 (xs := R.events) (ys := R.events) h1 h2).plain (u := eB true) (by simp)) (.cons (.c (.whole rfl (List.length_map _).symm)) (.cons (.c (.whole rfl (List.length_map _).symm)) .nil)) rfl rfl rfl rfl rfl (B0 := 107000) rfl ?_
      refine AOps.forget [(106, _), (103, _), (18, _), (3, _), (4, _), (2, _), (8, _), (9, _), (10, _), (11, _), (12, _), (13, _), (14, _), (15, _), (16, _), (17, _), (6, _)] ⟨rfl, rfl, rfl, rfl, rfl, rfl, rfl, rfl, rfl, rfl, rfl, rfl, rfl, rfl, rfl, rfl, rfl, trivial⟩ ?_
      refine AOps.live rfl rfl rfl rfl rfl ?_
      refine AOps.step (Val.of hσ rfl rfl) rfl rfl rfl ?_
      refine AOps.step (Val.pickN hσ rfl rfl rfl rfl rfl) rfl rfl rfl ?_
      refine AOps.step (Val.of hσ rfl rfl) rfl rfl rfl ?_
      refine AOps.forget [(109, _), (18, _), (3, _), (4, _), (2, _), (8, _), (9, _), (10, _), (11, _), (12, _), (13, _), (14, _), (15, _), (16, _), (17, _), (6, _)] ⟨rfl, rfl, rfl, rfl, rfl, rfl, rfl, rfl, rfl, rfl, rfl, rfl, rfl, rfl, rfl, rfl, trivial⟩ ?_
      refine AOps.live rfl rfl rfl rfl rfl ?_
      refine AOps.step (Val.of hσ rfl rfl) rfl rfl rfl ?_
      refine AOps.live rfl rfl rfl rfl rfl ?_
      refine AOps.step (Val.of hσ rfl rfl) rfl rfl rfl ?_
      refine AOps.live rfl rfl rfl rfl rfl ?_
      refine AOps.step (Val.of hσ rfl rfl) rfl rfl rfl ?_
      rw [decide_eq_true (rfl : R.out = R.out)]
      refine AOps.step (Val.pickN hσ rfl rfl rfl rfl rfl) rfl rfl rfl ?_
      refine AOps.step (Val.of hσ rfl rfl) rfl rfl rfl ?_
      refine AOps.forget [(114, _), (18, _), (3, _), (4, _), (2, _), (8, _), (9, _), (10, _), (11, _), (12, _), (13, _), (14, _), (15, _), (16, _), (17, _), (6, _)] ⟨rfl, rfl, rfl, rfl, rfl, rfl, rfl, rfl, rfl, rfl, rfl, rfl, rfl, rfl, rfl, rfl, trivial⟩ ?_
      refine AOps.live rfl rfl rfl rfl rfl ?_
      refine AOps.step (Val.of hσ rfl rfl) rfl rfl rfl ?_
      refine AOps.live rfl rfl rfl rfl rfl ?_
      refine AOps.step (Val.of hσ rfl rfl) rfl rfl rfl ?_
      refine AOps.live rfl rfl rfl rfl rfl ?_
      refine AOps.step (Val.of hσ rfl rfl) rfl rfl rfl ?_
      refine AOps.step (Val.pickN hσ rfl rfl rfl rfl rfl) rfl rfl rfl ?_
      refine AOps.forget [(118, _), (18, _), (3, _), (4, _), (2, _), (8, _), (9, _), (10, _), (11, _), (12, _), (13, _), (14, _), (15, _), (16, _), (17, _), (6, _)] ⟨rfl, rfl, rfl, rfl, rfl, rfl, rfl, rfl, rfl, rfl, rfl, rfl, rfl, rfl, rfl, rfl, trivial⟩ ?_
      refine AOps.nil ?_
      refine AWP.cond hσ rfl rfl (fun hc118 => ?_) (fun hc118 => ?_)
      ·
       skip
       exact absurd (show false = true from hc118) (by decide)
      ·
       skip
       refine AWP.skip ?_
       refine AWP.seq ?_
       refine AWP.region ?_
       refine AOps.step (Val.of hσ rfl rfl) rfl rfl rfl ?_
       refine AOps.nil ?_
       refine AWP.seq ?_
       refine AWP.region ?_
       refine AOps.step (Val.of hσ rfl rfl) rfl rfl rfl ?_
       refine AOps.step (Val.of hσ rfl rfl) rfl rfl rfl ?_
       refine AOps.forget [(120, _), (119, _), (19, _), (18, _), (3, _), (4, _), (2, _), (8, _), (9, _), (10, _), (11, _), (12, _), (13, _), (14, _), (15, _), (16, _), (17, _), (6, _)] ⟨rfl, rfl, rfl, rfl, rfl, rfl, rfl, rfl, rfl, rfl, rfl, rfl, rfl, rfl, rfl, rfl, rfl, rfl, trivial⟩ ?_
       refine AOps.inn hσ [55000, 55001] (bin := [nrow R.vars, nrow R.cells]) rfl rfl rfl rfl (c18 (s := (⟨R.vars, R.cells⟩ : Sx)) (k := 1) h1 h2 (by decide) hcr) rfl rfl rfl rfl rfl rfl (B0 := 122000) rfl rfl ?_
       apply AOps.norm
       ·
        repeat' (first | exact q0 rfl | apply q1 rfl | exact q2 rfl | apply q3 rfl | exact q4 rfl | apply q5 rfl | exact q6 rfl | exact q7 rfl | exact q8)
       refine AOps.step (Val.of hσ rfl rfl) rfl rfl rfl ?_
       refine AOps.forget [(19, _), (18, _), (3, _), (4, _), (2, _), (8, _), (9, _), (10, _), (11, _), (12, _), (13, _), (14, _), (15, _), (16, _), (17, _), (6, _)] ⟨rfl, rfl, rfl, rfl, rfl, rfl, rfl, rfl, rfl, rfl, rfl, rfl, rfl, rfl, rfl, rfl, trivial⟩ ?_
       refine AOps.nil ?_
       refine AWP.seq ?_
       refine AWP.region ?_
       refine AOps.step (Val.of hσ rfl rfl) rfl rfl rfl ?_
       refine AOps.step (Val.of hσ rfl rfl) rfl rfl rfl ?_
       refine AOps.inn hσ [55002] (bin := [nrow R.events]) rfl rfl rfl rfl (c19 (xs := R.events) (k := 1 + R.vars.length + R.cells.length) h1 h2 (by omega) (by omega)) rfl rfl rfl rfl rfl rfl (B0 := 125000) rfl rfl ?_
       apply AOps.norm
       ·
        repeat' (first | exact q0 rfl | apply q1 rfl | exact q2 rfl | apply q3 rfl | exact q4 rfl | apply q5 rfl | exact q6 rfl | exact q7 rfl | exact q8)
       refine AOps.step (Val.of hσ rfl rfl) rfl rfl rfl ?_
       refine AOps.forget [(19, _), (18, _), (3, _), (4, _), (2, _), (8, _), (9, _), (10, _), (11, _), (12, _), (13, _), (14, _), (15, _), (16, _), (17, _), (6, _)] ⟨rfl, rfl, rfl, rfl, rfl, rfl, rfl, rfl, rfl, rfl, rfl, rfl, rfl, rfl, rfl, rfl, trivial⟩ ?_
       refine AOps.nil ?_
       refine AWP.seq ?_
       refine AWP.region ?_
       refine AOps.step (Val.of hσ rfl rfl) rfl rfl rfl ?_
       refine AOps.nil ?_
       refine AWP.seq ?_
       refine AWP.region ?_
       refine AOps.step (Val.of hσ rfl rfl) rfl rfl rfl ?_
       refine AOps.step (Val.of hσ rfl rfl) rfl rfl rfl ?_
       refine AOps.lone hσ rfl rfl rfl rfl ((c20 (s := mSx (⟨R.vars, R.cells⟩ : Sx) 1) (k := 1) h1 h2 (by decide) (by show (1 : Int) + (markL mI oneI 1 R.vars).length + (markL mI oneI (1 + R.vars.length) R.cells).length ≤ _; rw [markL_length, markL_length]; exact hcr)).plain (congrArg eI (held_mark (⟨R.vars, R.cells⟩ : Sx) 1))) (.cons (.agg (.cons (.whole rfl (by rw [List.length_map, markL_length])) (.cons (.whole rfl (by rw [List.length_map, markL_length])) .nil))) (.cons (.c .d) .nil)) rfl rfl rfl rfl rfl (B0 := 128000) rfl ?_
       refine AOps.step (Val.of hσ rfl rfl) rfl rfl rfl ?_
       refine AOps.forget [(20, _), (19, _), (18, _), (3, _), (4, _), (2, _), (8, _), (9, _), (10, _), (11, _), (12, _), (13, _), (14, _), (15, _), (16, _), (17, _), (6, _)] ⟨rfl, rfl, rfl, rfl, rfl, rfl, rfl, rfl, rfl, rfl, rfl, rfl, rfl, rfl, rfl, rfl, rfl, trivial⟩ ?_
       refine AOps.nil ?_
       refine AWP.seq ?_
       refine AWP.seq ?_
       refine AWP.region ?_
       refine AOps.step (Val.of hσ rfl rfl) rfl rfl rfl ?_
       refine AOps.step (Val.of hσ rfl rfl) rfl rfl rfl ?_
       refine AOps.nil ?_
       refine AWP.cond hσ rfl rfl (fun hc129 => ?_) (fun hc129 => ?_)
       ·
        skip
        exact absurd (of_decide_eq_true hc129) (by omega)
       ·
        skip
        refine AWP.skip ?_
        refine AWP.seq ?_
        refine AWP.region ?_
        refine AOps.step (Val.of hσ rfl rfl) rfl rfl rfl ?_
        refine AOps.step (Val.of hσ rfl rfl) rfl rfl rfl ?_
        refine AOps.forget [(131, _), (130, _), (128, _), (20, _), (19, _), (18, _), (3, _), (4, _), (2, _), (8, _), (9, _), (10, _), (11, _), (12, _), (13, _), (14, _), (15, _), (16, _), (17, _), (6, _)] ⟨rfl, rfl, rfl, rfl, rfl, rfl, rfl, rfl, rfl, rfl, rfl, rfl, rfl, rfl, rfl, rfl, rfl, rfl, rfl, rfl, trivial⟩ ?_
        refine AOps.lone hσ rfl rfl rfl rfl ((c21 (xs := markL mI oneI (1 + R.vars.length + R.cells.length) R.events) (k := 1 + R.vars.length + R.cells.length) h1 h2 (by omega) (by omega)).plain (congrArg eI (held_marks R.events (1 + R.vars.length + R.cells.length)))) (.cons (.c (.whole rfl (by rw [List.length_map, markL_length]))) (.cons (.c .d) .nil)) rfl rfl rfl rfl rfl (B0 := 133000) rfl ?_
        refine AOps.step (Val.of hσ rfl rfl) rfl rfl rfl ?_
        refine AOps.forget [(20, _), (128, _), (19, _), (18, _), (3, _), (4, _), (2, _), (8, _), (9, _), (10, _), (11, _), (12, _), (13, _), (14, _), (15, _), (16, _), (17, _), (6, _)] ⟨rfl, rfl, rfl, rfl, rfl, rfl, rfl, rfl, rfl, rfl, rfl, rfl, rfl, rfl, rfl, rfl, rfl, rfl, trivial⟩ ?_
        refine AOps.nil ?_
        refine AWP.seq ?_
        refine AWP.seq ?_
        refine AWP.region ?_
        refine AOps.step (Val.of hσ rfl rfl) rfl rfl rfl ?_
        refine AOps.step (Val.of hσ rfl rfl) rfl rfl rfl ?_
        refine AOps.nil ?_
        refine AWP.cond hσ rfl rfl (fun hc134 => ?_) (fun hc134 => ?_)
        ·
         skip
         exact absurd (of_decide_eq_true hc134) (by omega)
        ·
         skip
         refine AWP.skip ?_
         refine AWP.seq ?_
         refine AWP.seq ?_
         refine AWP.region ?_
         refine AOps.to (Ent.sel [3, 4, 8, 14, 42000, 42001, 42002, 55000, 55001, 55002] (e' := [(20, _), (19, _), (3, _), (4, _), (2, _), (8, _), (9, _), (10, _), (11, _), (14, _), (15, _), (6, _)]) rfl rfl ⟨rfl, rfl, rfl, rfl, rfl, rfl, rfl, rfl, rfl, rfl, rfl, rfl, trivial⟩ rfl) ?_
         apply AOps.norm
         ·
          repeat' (first | exact q0 rfl | apply q1 rfl | exact q2 rfl | apply q3 rfl | exact q4 rfl | apply q5 rfl | exact q6 rfl | exact q7 rfl | exact q8)
         refine AOps.step (Val.of hσ rfl rfl) rfl rfl rfl ?_
         refine AOps.step (Val.of hσ rfl rfl) rfl rfl rfl ?_
         refine AOps.step (Val.of hσ rfl rfl) rfl rfl rfl ?_
         refine AOps.forget [(137, _), (20, _), (19, _), (3, _), (4, _), (2, _), (8, _), (9, _), (10, _), (11, _), (14, _), (15, _), (6, _)] ⟨rfl, rfl, rfl, rfl, rfl, rfl, rfl, rfl, rfl, rfl, rfl, rfl, rfl, trivial⟩ ?_
         refine AOps.nil ?_
         refine AWP.cond hσ rfl rfl (fun hc137 => ?_) (fun hc137 => ?_)
         ·
          skip
          exact absurd hc137 (by simp)
         ·
          skip
          refine AWP.skip ?_
          refine AWP.seq ?_
          refine AWP.forget [(20, _), (19, _), (3, _), (4, _), (2, _), (8, _), (9, _), (10, _), (11, _), (14, _), (15, _), (6, _)] ⟨rfl, rfl, rfl, rfl, rfl, rfl, rfl, rfl, rfl, rfl, rfl, rfl, trivial⟩ ?_
          refine AWP.drawF2 hσ _ [_, _, _, _, _, _, _, _, _, _, _, _, _, _, _, _] [⟨[], 0, 0, none⟩, ⟨[0], 0, 0, some 0⟩, ⟨[], 0, 1, none⟩, ⟨[0, 1, 2], 0, 0, some 1⟩, ⟨[], 0, 2, none⟩, ⟨[0, 1, 2, 3, 4], 0, 0, some 2⟩, ⟨[0, 1, 2, 3, 4, 5], 3, 3, none⟩, ⟨[0, 1, 2, 3, 4, 5, 6], 3, 3, none⟩, ⟨[0, 1, 2, 3, 4, 5, 6], 3, 4, none⟩, ⟨[0, 1, 2, 3, 4, 5, 6], 3, 4, none⟩, ⟨[0, 1, 2, 3, 4, 5, 6], 3, 4, none⟩, ⟨[], 0, 3, none⟩, ⟨[0, 1, 2, 3, 4, 5, 6, 7, 11], 0, 0, some 3⟩, ⟨[0, 1, 2, 3, 4, 5, 6, 7, 8, 11, 12], 4, 4, none⟩, ⟨[0, 1, 2, 3, 4, 5, 6, 7, 8, 9, 11, 12, 13], 4, 4, none⟩, ⟨[0, 1, 2, 3, 4, 5, 6, 7, 8, 9, 10, 11, 12, 13, 14], 4, 4, none⟩] [1, 3, 5, 12] 11 21 (.box [.d .nils, .d .nils]) [_, _, _, _] [_] [] rfl rfl (by decide) (by decide) (by decide) rfl (by kernel_rfl) (And.intro (And.intro (and_flip (Val.of hσ rfl rfl) (Val.of hσ rfl rfl)) rfl) (And.intro (And.intro (and_flip (Eff.p (Eff.rows hσ (B0 := 141000) rfl rfl rfl rfl (c11 (p := p) h1 h2) (VAs.self rfl) rfl rfl rfl rfl rfl)) (Eff.p (Eff.rows hσ (B0 := 141000) rfl rfl rfl rfl (c11 (p := p) h1 h2) (VAs.self rfl) rfl rfl rfl rfl rfl))) rfl) (And.intro (And.intro (And.intro (and_flip (Val.of hσ rfl rfl) (Val.of hσ rfl rfl)) rfl) (And.intro (and_flip (Val.of hσ rfl rfl) (Val.of hσ rfl rfl)) rfl)) (And.intro (And.intro (and_flip (Eff.p (Eff.rows hσ (B0 := 143000) rfl rfl rfl rfl (c12 (s := s) h1 h2) (VAs.self rfl) rfl rfl rfl rfl rfl)) (Eff.p (Eff.rows hσ (B0 := 143000) rfl rfl rfl rfl (c12 (s := s) h1 h2) (VAs.self rfl) rfl rfl rfl rfl rfl))) rfl) (And.intro (And.intro (And.intro (and_flip (Val.of hσ rfl rfl) (Val.of hσ rfl rfl)) rfl) (And.intro (And.intro (and_flip (Val.of hσ rfl rfl) (Val.of hσ rfl rfl)) rfl) (And.intro (and_flip (Val.of hσ rfl rfl) (Val.of hσ rfl rfl)) rfl))) (And.intro (And.intro (and_flip (Eff.p (Eff.rows hσ (B0 := 145000) rfl rfl rfl rfl (ci) (.cons (.agg (.cons (.whole rfl (List.length_map _).symm) (.cons (.whole rfl (List.length_map _).symm) (.cons (.whole rfl (List.length_map _).symm) .nil)))) (.cons (.agg (.cons (.whole rfl (List.length_map _).symm) (.cons (.whole rfl (List.length_map _).symm) .nil))) (.cons (.c .d) .nil))) rfl rfl rfl rfl rfl)) (Eff.p (Eff.rows hσ (B0 := 145000) rfl rfl rfl rfl (ci) (.cons (.agg (.cons (.whole rfl (List.length_map _).symm) (.cons (.whole rfl (List.length_map _).symm) (.cons (.whole rfl (List.length_map _).symm) .nil)))) (.cons (.agg (.cons (.whole rfl (List.length_map _).symm) (.cons (.whole rfl (List.length_map _).symm) .nil))) (.cons (.c .d) .nil))) rfl rfl rfl rfl rfl))) rfl) (And.intro (And.intro (and_flip (Val.of hσ rfl rfl) (Val.of hσ rfl rfl)) rfl) (And.intro (And.intro (and_flip (Val.of hσ rfl rfl) (Val.of hσ rfl rfl)) rfl) (And.intro (And.intro (And.intro (and_flip (Val.of hσ rfl rfl) (Val.of hσ rfl rfl)) rfl) (And.intro (and_flip (Val.of hσ rfl rfl) (Val.of hσ rfl rfl)) rfl)) (And.intro (And.intro (And.intro (and_flip (Val.of hσ rfl rfl) (Val.of hσ rfl rfl)) rfl) (And.intro (and_flip (Val.of hσ rfl rfl) (Val.of hσ rfl rfl)) rfl)) (And.intro (And.intro (And.intro (and_flip (Val.of hσ rfl rfl) (Val.of hσ rfl rfl)) rfl) (And.intro (and_flip (Val.of hσ rfl rfl) (Val.of hσ rfl rfl)) rfl)) (And.intro (And.intro (And.intro (Eff.p (Eff.alloc hσ rfl rfl rfl rfl rfl rfl)) rfl) (And.intro (And.intro (Eff.p (Eff.alloc hσ rfl rfl rfl rfl rfl rfl)) rfl) (And.intro (And.intro (Eff.p (Eff.alloc hσ rfl rfl rfl rfl rfl rfl)) rfl) (And.intro (Eff.p (Eff.alloc hσ rfl rfl rfl rfl rfl rfl)) rfl)))) (And.intro (And.intro (and_flip trivial (Eff.p (Eff.storeBox hσ rfl rfl rfl rfl rfl rfl rfl rfl rfl rfl rfl rfl rfl))) rfl) (And.intro (And.intro (and_flip trivial (Val.of hσ rfl rfl)) rfl) (And.intro (And.intro (and_flip trivial (Val.of hσ rfl rfl)) rfl) (And.intro (And.intro (and_flip trivial (Val.of hσ rfl rfl)) rfl) trivial)))))))))))))))) ?_
          refine AWP.forget [(24, _), (23, _), (22, _), (21, _), (20, _), (19, _), (3, _), (4, _), (2, _), (8, _), (9, _), (10, _), (11, _), (14, _), (15, _), (6, _)] ⟨rfl, rfl, rfl, rfl, rfl, rfl, rfl, rfl, rfl, rfl, rfl, rfl, rfl, rfl, rfl, rfl, trivial⟩ ?_
          apply AWP.norm
          ·
           repeat' (first | exact q0 rfl | apply q1 rfl | exact q2 rfl | apply q3 rfl | exact q4 rfl | apply q5 rfl | exact q6 rfl | exact q7 rfl | exact q8)
          refine AWP.seq ?_
          refine AWP.seq ?_
          refine AWP.region ?_
          refine AOps.step (Val.of hσ rfl rfl) rfl rfl rfl ?_
          refine AOps.step (Val.of hσ rfl rfl) rfl rfl rfl ?_
          refine AOps.lone hσ rfl rfl rfl rfl ((c14 (s := (⟨R.vars, R.cells⟩ : Sx)) (t := (⟨R.vars, R.cells⟩ : Sx)) h1 h2).plain (u := eB true) (by simp)) (.cons (.agg (.cons (.whole rfl (List.length_map _).symm) (.cons (.whole rfl (List.length_map _).symm) .nil))) (.cons (.agg (.cons (.whole rfl (List.length_map _).symm) (.cons (.whole rfl (List.length_map _).symm) .nil))) .nil)) rfl rfl rfl rfl rfl (B0 := 152000) rfl ?_
          refine AOps.step (Val.of hσ rfl rfl) rfl rfl rfl ?_
          refine AOps.step (Val.of hσ rfl rfl) rfl rfl rfl ?_
          refine AOps.forget [(153, _), (24, _), (23, _), (22, _), (21, _), (20, _), (19, _), (3, _), (4, _), (2, _), (8, _), (9, _), (10, _), (11, _), (14, _), (15, _), (6, _)] ⟨rfl, rfl, rfl, rfl, rfl, rfl, rfl, rfl, rfl, rfl, rfl, rfl, rfl, rfl, rfl, rfl, rfl, trivial⟩ ?_
          refine AOps.live rfl rfl rfl rfl rfl ?_
          refine AOps.step (Val.of hσ rfl rfl) rfl rfl rfl ?_
          refine AOps.forget [(154, _), (153, _), (24, _), (23, _), (21, _), (20, _), (19, _), (3, _), (4, _), (2, _), (8, _), (9, _), (10, _), (11, _), (14, _), (15, _), (6, _)] ⟨rfl, rfl, rfl, rfl, rfl, rfl, rfl, rfl, rfl, rfl, rfl, rfl, rfl, rfl, rfl, rfl, rfl, trivial⟩ ?_
          refine AOps.live rfl rfl rfl rfl rfl ?_
          refine AOps.step (Val.of hσ rfl rfl) rfl rfl rfl ?_
          refine AOps.live rfl rfl rfl rfl rfl ?_
          refine AOps.lone hσ rfl rfl rfl rfl ((c15 (xs := R.events) (ys := R.events) h1 h2).plain (u := eB true) (by simp)) (.cons (.c (.whole rfl (List.length_map _).symm)) (.cons (.c (.whole rfl (List.length_map _).symm)) .nil)) rfl rfl rfl rfl rfl (B0 := 157000) rfl ?_
          refine AOps.forget [(156, _), (153, _), (24, _), (23, _), (21, _), (20, _), (19, _), (3, _), (4, _), (2, _), (8, _), (9, _), (10, _), (11, _), (14, _), (15, _), (6, _)] ⟨rfl, rfl, rfl, rfl, rfl, rfl, rfl, rfl, rfl, rfl, rfl, rfl, rfl, rfl, rfl, rfl, rfl, trivial⟩ ?_
          refine AOps.live rfl rfl rfl rfl rfl ?_
          refine AOps.step (Val.of hσ rfl rfl) rfl rfl rfl ?_
          refine AOps.step (Val.pickN hσ rfl rfl rfl rfl rfl) rfl rfl rfl ?_
          refine AOps.step (Val.of hσ rfl rfl) rfl rfl rfl ?_
          refine AOps.forget [(159, _), (24, _), (23, _), (21, _), (20, _), (19, _), (3, _), (4, _), (2, _), (8, _), (9, _), (10, _), (11, _), (14, _), (15, _), (6, _)] ⟨rfl, rfl, rfl, rfl, rfl, rfl, rfl, rfl, rfl, rfl, rfl, rfl, rfl, rfl, rfl, rfl, trivial⟩ ?_
          refine AOps.live rfl rfl rfl rfl rfl ?_
          refine AOps.step (Val.of hσ rfl rfl) rfl rfl rfl ?_
          refine AOps.forget [(160, _), (159, _), (24, _), (21, _), (20, _), (19, _), (3, _), (4, _), (2, _), (8, _), (9, _), (10, _), (11, _), (14, _), (15, _), (6, _)] ⟨rfl, rfl, rfl, rfl, rfl, rfl, rfl, rfl, rfl, rfl, rfl, rfl, rfl, rfl, rfl, rfl, trivial⟩ ?_
          refine AOps.live rfl rfl rfl rfl rfl ?_
          refine AOps.step (Val.of hσ rfl rfl) rfl rfl rfl ?_
          refine AOps.live rfl rfl rfl rfl rfl ?_
          refine AOps.step (Val.of hσ rfl rfl) rfl rfl rfl ?_
          rw [decide_eq_true (rfl : R.out = R.out)]
          refine AOps.step (Val.pickN hσ rfl rfl rfl rfl rfl) rfl rfl rfl ?_
          refine AOps.step (Val.of hσ rfl rfl) rfl rfl rfl ?_
          refine AOps.forget [(164, _), (24, _), (21, _), (20, _), (19, _), (3, _), (4, _), (2, _), (8, _), (9, _), (10, _), (11, _), (14, _), (15, _), (6, _)] ⟨rfl, rfl, rfl, rfl, rfl, rfl, rfl, rfl, rfl, rfl, rfl, rfl, rfl, rfl, rfl, trivial⟩ ?_
          refine AOps.live rfl rfl rfl rfl rfl ?_
          refine AOps.step (Val.of hσ rfl rfl) rfl rfl rfl ?_
          refine AOps.forget [(165, _), (164, _), (21, _), (20, _), (19, _), (3, _), (4, _), (2, _), (8, _), (9, _), (10, _), (11, _), (14, _), (15, _), (6, _)] ⟨rfl, rfl, rfl, rfl, rfl, rfl, rfl, rfl, rfl, rfl, rfl, rfl, rfl, rfl, rfl, trivial⟩ ?_
          refine AOps.live rfl rfl rfl rfl rfl ?_
          refine AOps.step (Val.of hσ rfl rfl) rfl rfl rfl ?_
          refine AOps.live rfl rfl rfl rfl rfl ?_
          refine AOps.step (Val.of hσ rfl rfl) rfl rfl rfl ?_
          refine AOps.step (Val.pickN hσ rfl rfl rfl rfl rfl) rfl rfl rfl ?_
          refine AOps.forget [(168, _), (21, _), (20, _), (19, _), (3, _), (4, _), (2, _), (8, _), (9, _), (10, _), (11, _), (14, _), (15, _), (6, _)] ⟨rfl, rfl, rfl, rfl, rfl, rfl, rfl, rfl, rfl, rfl, rfl, rfl, rfl, rfl, trivial⟩ ?_
          refine AOps.nil ?_
          refine AWP.cond hσ rfl rfl (fun hc168 => ?_) (fun hc168 => ?_)
          ·
           skip
           exact absurd (show false = true from hc168) (by decide)
          ·
           skip
           refine AWP.skip ?_
           refine AWP.seq ?_
           refine AWP.region ?_
           refine AOps.step (Val.of hσ rfl rfl) rfl rfl rfl ?_
           refine AOps.nil ?_
           refine AWP.seq ?_
           refine AWP.region ?_
           refine AOps.step (Val.of hσ rfl rfl) rfl rfl rfl ?_
           refine AOps.step (Val.of hσ rfl rfl) rfl rfl rfl ?_
           refine AOps.forget [(170, _), (169, _), (20, _), (21, _), (19, _), (3, _), (4, _), (2, _), (8, _), (9, _), (10, _), (11, _), (14, _), (15, _), (6, _)] ⟨rfl, rfl, rfl, rfl, rfl, rfl, rfl, rfl, rfl, rfl, rfl, rfl, rfl, rfl, rfl, trivial⟩ ?_
           refine AOps.lone hσ rfl rfl rfl rfl ((c20 (s := mSx (⟨R.vars, R.cells⟩ : Sx) 1) (k := 1) h1 h2 (by decide) (by show (1 : Int) + (markL mI oneI 1 R.vars).length + (markL mI oneI (1 + R.vars.length) R.cells).length ≤ _; rw [markL_length, markL_length]; exact hcr)).plain (congrArg eI (held_mark (⟨R.vars, R.cells⟩ : Sx) 1))) (.cons (.agg (.cons (.whole rfl (by rw [List.length_map, markL_length])) (.cons (.whole rfl (by rw [List.length_map, markL_length])) .nil))) (.cons (.c .d) .nil)) rfl rfl rfl rfl rfl (B0 := 172000) rfl ?_
           refine AOps.step (Val.of hσ rfl rfl) rfl rfl rfl ?_
           refine AOps.forget [(20, _), (21, _), (19, _), (3, _), (4, _), (2, _), (8, _), (9, _), (10, _), (11, _), (14, _), (15, _), (6, _)] ⟨rfl, rfl, rfl, rfl, rfl, rfl, rfl, rfl, rfl, rfl, rfl, rfl, rfl, trivial⟩ ?_
           refine AOps.nil ?_
           refine AWP.seq ?_
           refine AWP.seq ?_
           refine AWP.region ?_
           refine AOps.step (Val.of hσ rfl rfl) rfl rfl rfl ?_
           refine AOps.step (Val.of hσ rfl rfl) rfl rfl rfl ?_
           refine AOps.nil ?_
           refine AWP.cond hσ rfl rfl (fun hc173 => ?_) (fun hc173 => ?_)
           ·
            skip
            exact absurd (of_decide_eq_true hc173) (by omega)
           ·
            skip
            refine AWP.skip ?_
            refine AWP.seq ?_
            refine AWP.region ?_
            refine AOps.step (Val.of hσ rfl rfl) rfl rfl rfl ?_
            refine AOps.step (Val.of hσ rfl rfl) rfl rfl rfl ?_
            refine AOps.forget [(175, _), (174, _), (172, _), (20, _), (21, _), (19, _), (3, _), (4, _), (2, _), (8, _), (9, _), (10, _), (11, _), (14, _), (15, _), (6, _)] ⟨rfl, rfl, rfl, rfl, rfl, rfl, rfl, rfl, rfl, rfl, rfl, rfl, rfl, rfl, rfl, rfl, trivial⟩ ?_
            refine AOps.lone hσ rfl rfl rfl rfl ((c21 (xs := markL mI oneI (1 + R.vars.length + R.cells.length) R.events) (k := 1 + R.vars.length + R.cells.length) h1 h2 (by omega) (by omega)).plain (congrArg eI (held_marks R.events (1 + R.vars.length + R.cells.length)))) (.cons (.c (.whole rfl (by rw [List.length_map, markL_length]))) (.cons (.c .d) .nil)) rfl rfl rfl rfl rfl (B0 := 177000) rfl ?_
            refine AOps.step (Val.of hσ rfl rfl) rfl rfl rfl ?_
            refine AOps.forget [(20, _), (172, _), (21, _), (19, _), (3, _), (4, _), (2, _), (8, _), (9, _), (10, _), (11, _), (14, _), (15, _), (6, _)] ⟨rfl, rfl, rfl, rfl, rfl, rfl, rfl, rfl, rfl, rfl, rfl, rfl, rfl, rfl, trivial⟩ ?_
            refine AOps.nil ?_
            refine AWP.seq ?_
            refine AWP.seq ?_
            refine AWP.region ?_
            refine AOps.step (Val.of hσ rfl rfl) rfl rfl rfl ?_
            refine AOps.step (Val.of hσ rfl rfl) rfl rfl rfl ?_
            refine AOps.nil ?_
            refine AWP.cond hσ rfl rfl (fun hc178 => ?_) (fun hc178 => ?_)
            ·
             skip
             exact absurd (of_decide_eq_true hc178) (by omega)
            ·
             skip
             refine AWP.skip ?_
             refine AWP.seq ?_
             refine AWP.seq ?_
             refine AWP.region ?_
             refine AOps.step (Val.of hσ rfl rfl) rfl rfl rfl ?_
             refine AOps.step (Val.of hσ rfl rfl) rfl rfl rfl ?_
             refine AOps.step (Val.of hσ rfl rfl) rfl rfl rfl ?_
             refine AOps.forget [(181, _), (177, _), (20, _), (172, _), (21, _), (19, _), (3, _), (4, _), (2, _), (8, _), (9, _), (10, _), (11, _), (14, _), (15, _), (6, _)] ⟨rfl, rfl, rfl, rfl, rfl, rfl, rfl, rfl, rfl, rfl, rfl, rfl, rfl, rfl, rfl, rfl, trivial⟩ ?_
             refine AOps.nil ?_
             refine AWP.cond hσ rfl rfl (fun hc181 => ?_) (fun hc181 => ?_)
             ·
              skip
              exact absurd hc181 (by simp)
             ·
              skip
              refine AWP.skip ?_
              refine AWP.seq ?_
              refine AWP.region ?_
              refine AOps.step (Val.of hσ rfl rfl) rfl rfl rfl ?_
              refine AOps.nil ?_
              refine AWP.ret ?_
              refine ⟨.inl rfl, _, Ent.refl, _, rfl, ?_⟩
              rfl
theorem c3n {L : Nat} (h1 : 4096 ≤ L) (h2 : L ≤ 1073741824) {p : Pm} {s : Sx} {f : Int} (cs : MC Try.prog L 10 [aPm p, aSx s, eI f] [] (Rows (.tup [.agg [.d .nils, .d .nils], .c (.d .nils), eI 0, eB false]) [])) (ci : MC Try.prog L 13 [aPm p, aSx s, eI f] [] (Rows (.tup [.agg [.d .nils, .d .nils], .c (.d .nils), eI 0, eB false]) [])) (hz1 : 0 ≤ szr 1048576 (szs Tm.size p.pre + szs Sm.size p.body + szs Tm.size p.post)) (hz2 : 0 ≤ szr (szr 1048576 (szs Tm.size p.pre + szs Sm.size p.body + szs Tm.size p.post)) (s.vars.length + s.cells.length)) (hcp : 1 + cnt nT p.pre + cnt nS p.body + cnt nT p.post ≤ (1073741824 : Int)) (hcs : 1 + cnt nT p.pre + cnt nS p.body + cnt nT p.post + s.vars.length + s.cells.length ≤ (1073741824 : Int)) : MC Try.prog L 3 [aPm p, aSx s, eI f] [] (Plain (eB true)) := by
 refine MC.alone ?_ rfl
 have hσ := SGok (nt := 182) h1 (Nat.le_trans h2 (by decide))
 refine MC.body hσ Try.func3 (by kernel_rfl) rfl rfl (Nat.le_of_ble_eq_true rfl) (fun hF => ?_)
 have hbig : L ≤ 9223372036854775807 := Nat.le_trans h2 (by decide)
 refine AWP.seq ?_
 refine AWP.region ?_
 refine AOps.heap (HS.box hσ rfl rfl rfl rfl rfl rfl rfl) rfl ?_
 apply AOps.norm
 ·
  repeat' (first | exact q0 rfl | apply q1 rfl | exact q2 rfl | apply q3 rfl | exact q4 rfl | apply q5 rfl | exact q6 rfl | exact q7 rfl | exact q8)
 refine AOps.forget [(3, _), (1, _), (2, _)] ⟨rfl, rfl, rfl, trivial⟩ ?_
 refine AOps.heap (HS.box hσ rfl rfl rfl rfl rfl rfl rfl) rfl ?_
 apply AOps.norm
 ·
  repeat' (first | exact q0 rfl | apply q1 rfl | exact q2 rfl | apply q3 rfl | exact q4 rfl | apply q5 rfl | exact q6 rfl | exact q7 rfl | exact q8)
 refine AOps.step (Val.of hσ rfl rfl) rfl rfl rfl ?_
 refine AOps.nil ?_
 refine AWP.seq ?_
 refine AWP.region ?_
 refine AOps.step (Val.of hσ rfl rfl) rfl rfl rfl ?_
 refine AOps.nil ?_
 refine AWP.seq ?_
 refine AWP.region ?_
 refine AOps.step (Val.of hσ rfl rfl) rfl rfl rfl ?_
 refine AOps.step (Val.of hσ rfl rfl) rfl rfl rfl ?_
 refine AOps.lone hσ rfl rfl rfl rfl (c8 (p := p) (left := 1048576) h1 hbig (by decide) (by decide)) (VAs.self rfl) rfl rfl rfl rfl rfl (B0 := 28000) rfl ?_
 refine AOps.step (Val.of hσ rfl rfl) rfl rfl rfl ?_
 refine AOps.forget [(7, _), (6, _), (4, _), (3, _), (1, _), (2, _)] ⟨rfl, rfl, rfl, rfl, rfl, rfl, trivial⟩ ?_
 refine AOps.nil ?_
 refine AWP.seq ?_
 refine AWP.seq ?_
 refine AWP.region ?_
 refine AOps.step (Val.of hσ rfl rfl) rfl rfl rfl ?_
 refine AOps.step (Val.of hσ rfl rfl) rfl rfl rfl ?_
 refine AOps.nil ?_
 refine AWP.cond hσ rfl rfl (fun hc29 => ?_) (fun hc29 => ?_)
 ·
  skip
  exact absurd (of_decide_eq_true hc29) (by omega)
 ·
  skip
  refine AWP.skip ?_
  refine AWP.seq ?_
  refine AWP.region ?_
  refine AOps.step (Val.of hσ rfl rfl) rfl rfl rfl ?_
  refine AOps.step (Val.of hσ rfl rfl) rfl rfl rfl ?_
  refine AOps.forget [(31, _), (30, _), (28, _), (7, _), (6, _), (4, _), (3, _), (1, _), (2, _)] ⟨rfl, rfl, rfl, rfl, rfl, rfl, rfl, rfl, rfl, trivial⟩ ?_
  have hle := szr_le (left := 1048576) (by decide) (szs Tm.size p.pre + szs Sm.size p.body + szs Tm.size p.post)
  refine AOps.lone hσ rfl rfl rfl rfl (c9 (s := s) h1 hbig hz1 (by omega)) (VAs.self rfl) rfl rfl rfl rfl rfl (B0 := 33000) rfl ?_
  refine AOps.step (Val.of hσ rfl rfl) rfl rfl rfl ?_
  refine AOps.forget [(7, _), (28, _), (6, _), (4, _), (3, _), (1, _), (2, _)] ⟨rfl, rfl, rfl, rfl, rfl, rfl, rfl, trivial⟩ ?_
  refine AOps.nil ?_
  refine AWP.seq ?_
  refine AWP.seq ?_
  refine AWP.region ?_
  refine AOps.step (Val.of hσ rfl rfl) rfl rfl rfl ?_
  refine AOps.step (Val.of hσ rfl rfl) rfl rfl rfl ?_
  refine AOps.nil ?_
  refine AWP.cond hσ rfl rfl (fun hc34 => ?_) (fun hc34 => ?_)
  ·
   skip
   exact absurd (of_decide_eq_true hc34) (by omega)
  ·
   skip
   refine AWP.skip ?_
   refine AWP.seq ?_
   refine AWP.forget [(33, _), (7, _), (28, _), (6, _), (4, _), (3, _), (1, _), (2, _)] ⟨rfl, rfl, rfl, rfl, rfl, rfl, rfl, rfl, trivial⟩ ?_
   refine AWP.drawF2 hσ _ [_, _, _, _, _, _, _, _, _, _, _, _, _, _, _, _] [⟨[], 0, 0, none⟩, ⟨[0], 0, 0, some 0⟩, ⟨[], 0, 1, none⟩, ⟨[0, 1, 2], 0, 0, some 1⟩, ⟨[], 0, 2, none⟩, ⟨[0, 1, 2, 3, 4], 0, 0, some 2⟩, ⟨[0, 1, 2, 3, 4, 5], 3, 3, none⟩, ⟨[0, 1, 2, 3, 4, 5, 6], 3, 3, none⟩, ⟨[0, 1, 2, 3, 4, 5, 6], 3, 4, none⟩, ⟨[0, 1, 2, 3, 4, 5, 6], 3, 4, none⟩, ⟨[0, 1, 2, 3, 4, 5, 6], 3, 4, none⟩, ⟨[], 0, 3, none⟩, ⟨[0, 1, 2, 3, 4, 5, 6, 7, 11], 0, 0, some 3⟩, ⟨[0, 1, 2, 3, 4, 5, 6, 7, 8, 11, 12], 4, 4, none⟩, ⟨[0, 1, 2, 3, 4, 5, 6, 7, 8, 9, 11, 12, 13], 4, 4, none⟩, ⟨[0, 1, 2, 3, 4, 5, 6, 7, 8, 9, 10, 11, 12, 13, 14], 4, 4, none⟩] [1, 3, 5, 12] 11 8 (.box [.d .nils, .d .nils]) [_, _, _, _] [_] [] rfl rfl (by decide) (by decide) (by decide) rfl (by kernel_rfl) (And.intro (And.intro (and_flip (Val.of hσ rfl rfl) (Val.of hσ rfl rfl)) rfl) (And.intro (And.intro (and_flip (Eff.p (Eff.rows hσ (B0 := 38000) rfl rfl rfl rfl (c11 (p := p) h1 h2) (VAs.self rfl) rfl rfl rfl rfl rfl)) (Eff.p (Eff.rows hσ (B0 := 38000) rfl rfl rfl rfl (c11 (p := p) h1 h2) (VAs.self rfl) rfl rfl rfl rfl rfl))) rfl) (And.intro (And.intro (And.intro (and_flip (Val.of hσ rfl rfl) (Val.of hσ rfl rfl)) rfl) (And.intro (and_flip (Val.of hσ rfl rfl) (Val.of hσ rfl rfl)) rfl)) (And.intro (And.intro (and_flip (Eff.p (Eff.rows hσ (B0 := 40000) rfl rfl rfl rfl (c12 (s := s) h1 h2) (VAs.self rfl) rfl rfl rfl rfl rfl)) (Eff.p (Eff.rows hσ (B0 := 40000) rfl rfl rfl rfl (c12 (s := s) h1 h2) (VAs.self rfl) rfl rfl rfl rfl rfl))) rfl) (And.intro (And.intro (And.intro (and_flip (Val.of hσ rfl rfl) (Val.of hσ rfl rfl)) rfl) (And.intro (And.intro (and_flip (Val.of hσ rfl rfl) (Val.of hσ rfl rfl)) rfl) (And.intro (and_flip (Val.of hσ rfl rfl) (Val.of hσ rfl rfl)) rfl))) (And.intro (And.intro (and_flip (Eff.p (Eff.rows hσ (B0 := 42000) rfl rfl rfl rfl (cs) (.cons (.agg (.cons (.whole rfl (List.length_map _).symm) (.cons (.whole rfl (List.length_map _).symm) (.cons (.whole rfl (List.length_map _).symm) .nil)))) (.cons (.agg (.cons (.whole rfl (List.length_map _).symm) (.cons (.whole rfl (List.length_map _).symm) .nil))) (.cons (.c .d) .nil))) rfl rfl rfl rfl rfl)) (Eff.p (Eff.rows hσ (B0 := 42000) rfl rfl rfl rfl (cs) (.cons (.agg (.cons (.whole rfl (List.length_map _).symm) (.cons (.whole rfl (List.length_map _).symm) (.cons (.whole rfl (List.length_map _).symm) .nil)))) (.cons (.agg (.cons (.whole rfl (List.length_map _).symm) (.cons (.whole rfl (List.length_map _).symm) .nil))) (.cons (.c .d) .nil))) rfl rfl rfl rfl rfl))) rfl) (And.intro (And.intro (and_flip (Val.of hσ rfl rfl) (Val.of hσ rfl rfl)) rfl) (And.intro (And.intro (and_flip (Val.of hσ rfl rfl) (Val.of hσ rfl rfl)) rfl) (And.intro (And.intro (And.intro (and_flip (Val.of hσ rfl rfl) (Val.of hσ rfl rfl)) rfl) (And.intro (and_flip (Val.of hσ rfl rfl) (Val.of hσ rfl rfl)) rfl)) (And.intro (And.intro (And.intro (and_flip (Val.of hσ rfl rfl) (Val.of hσ rfl rfl)) rfl) (And.intro (and_flip (Val.of hσ rfl rfl) (Val.of hσ rfl rfl)) rfl)) (And.intro (And.intro (And.intro (and_flip (Val.of hσ rfl rfl) (Val.of hσ rfl rfl)) rfl) (And.intro (and_flip (Val.of hσ rfl rfl) (Val.of hσ rfl rfl)) rfl)) (And.intro (And.intro (And.intro (Eff.p (Eff.alloc hσ rfl rfl rfl rfl rfl rfl)) rfl) (And.intro (And.intro (Eff.p (Eff.alloc hσ rfl rfl rfl rfl rfl rfl)) rfl) (And.intro (And.intro (Eff.p (Eff.alloc hσ rfl rfl rfl rfl rfl rfl)) rfl) (And.intro (Eff.p (Eff.alloc hσ rfl rfl rfl rfl rfl rfl)) rfl)))) (And.intro (And.intro (and_flip trivial (Eff.p (Eff.storeBox hσ rfl rfl rfl rfl rfl rfl rfl rfl rfl rfl rfl rfl rfl))) rfl) (And.intro (And.intro (and_flip trivial (Val.of hσ rfl rfl)) rfl) (And.intro (And.intro (and_flip trivial (Val.of hσ rfl rfl)) rfl) (And.intro (And.intro (and_flip trivial (Val.of hσ rfl rfl)) rfl) trivial)))))))))))))))) ?_
   refine AWP.forget [(11, _), (10, _), (9, _), (8, _), (33, _), (7, _), (28, _), (6, _), (4, _), (3, _), (1, _), (2, _)] ⟨rfl, rfl, rfl, rfl, rfl, rfl, rfl, rfl, rfl, rfl, rfl, rfl, trivial⟩ ?_
   apply AWP.norm
   ·
    repeat' (first | exact q0 rfl | apply q1 rfl | exact q2 rfl | apply q3 rfl | exact q4 rfl | apply q5 rfl | exact q6 rfl | exact q7 rfl | exact q8)
   refine AWP.seq ?_
   refine AWP.region ?_
   refine AOps.to (Ent.sel [3, 4, 8] (e' := [(3, _), (4, _), (2, _), (8, _), (9, _), (10, _), (11, _), (6, _)]) rfl rfl ⟨rfl, rfl, rfl, rfl, rfl, rfl, rfl, rfl, trivial⟩ rfl) ?_
   apply AOps.norm
   ·
    repeat' (first | exact q0 rfl | apply q1 rfl | exact q2 rfl | apply q3 rfl | exact q4 rfl | apply q5 rfl | exact q6 rfl | exact q7 rfl | exact q8)
   refine AOps.step (Val.of hσ rfl rfl) rfl rfl rfl ?_
   refine AOps.rows hσ (B0 := 48000) rfl rfl rfl rfl (c11 (p := p) h1 h2) (VAs.self rfl) rfl rfl rfl rfl rfl rfl ?_
   apply AOps.norm
   ·
    repeat' (first | exact q0 rfl | apply q1 rfl | exact q2 rfl | apply q3 rfl | exact q4 rfl | apply q5 rfl | exact q6 rfl | exact q7 rfl | exact q8)
   refine AOps.forget [(47, _), (3, _), (4, _), (2, _), (8, _), (9, _), (10, _), (11, _), (6, _)] ⟨rfl, rfl, rfl, rfl, rfl, rfl, rfl, rfl, rfl, trivial⟩ ?_
   refine AOps.heap (HS.alloc hσ rfl rfl rfl rfl rfl) rfl ?_
   apply AOps.norm
   ·
    repeat' (first | exact q0 rfl | apply q1 rfl | exact q2 rfl | apply q3 rfl | exact q4 rfl | apply q5 rfl | exact q6 rfl | exact q7 rfl | exact q8)
   refine AOps.heap (HS.storeBox hσ rfl rfl rfl rfl rfl rfl rfl rfl rfl rfl rfl) rfl ?_
   apply AOps.norm
   ·
    repeat' (first | exact q0 rfl | apply q1 rfl | exact q2 rfl | apply q3 rfl | exact q4 rfl | apply q5 rfl | exact q6 rfl | exact q7 rfl | exact q8)
   refine AOps.nil ?_
   refine AWP.seq ?_
   refine AWP.region ?_
   refine AOps.step (Val.of hσ rfl rfl) rfl rfl rfl ?_
   refine AOps.rows hσ (B0 := 50000) rfl rfl rfl rfl (c12 (s := s) h1 h2) (VAs.self rfl) rfl rfl rfl rfl rfl rfl ?_
   apply AOps.norm
   ·
    repeat' (first | exact q0 rfl | apply q1 rfl | exact q2 rfl | apply q3 rfl | exact q4 rfl | apply q5 rfl | exact q6 rfl | exact q7 rfl | exact q8)
   refine AOps.forget [(49, _), (12, _), (47, _), (3, _), (4, _), (2, _), (8, _), (9, _), (10, _), (11, _), (6, _)] ⟨rfl, rfl, rfl, rfl, rfl, rfl, rfl, rfl, rfl, rfl, rfl, trivial⟩ ?_
   refine AOps.heap (HS.alloc hσ rfl rfl rfl rfl rfl) rfl ?_
   apply AOps.norm
   ·
    repeat' (first | exact q0 rfl | apply q1 rfl | exact q2 rfl | apply q3 rfl | exact q4 rfl | apply q5 rfl | exact q6 rfl | exact q7 rfl | exact q8)
   refine AOps.heap (HS.storeBox hσ rfl rfl rfl rfl rfl rfl rfl rfl rfl rfl rfl) rfl ?_
   apply AOps.norm
   ·
    repeat' (first | exact q0 rfl | apply q1 rfl | exact q2 rfl | apply q3 rfl | exact q4 rfl | apply q5 rfl | exact q6 rfl | exact q7 rfl | exact q8)
   refine AOps.nil ?_
   refine AWP.seq ?_
   refine AWP.region ?_
   refine AOps.step (Val.of hσ rfl rfl) rfl rfl rfl ?_
   refine AOps.step (Val.of hσ rfl rfl) rfl rfl rfl ?_
   refine AOps.step (Val.of hσ rfl rfl) rfl rfl rfl ?_
   refine AOps.rows hσ (B0 := 55000) rfl rfl rfl rfl (ci) (.cons (.agg (.cons (.whole rfl (List.length_map _).symm) (.cons (.whole rfl (List.length_map _).symm) (.cons (.whole rfl (List.length_map _).symm) .nil)))) (.cons (.agg (.cons (.whole rfl (List.length_map _).symm) (.cons (.whole rfl (List.length_map _).symm) .nil))) (.cons (.c .d) .nil))) rfl rfl rfl rfl rfl rfl ?_
   apply AOps.norm
   ·
    repeat' (first | exact q0 rfl | apply q1 rfl | exact q2 rfl | apply q3 rfl | exact q4 rfl | apply q5 rfl | exact q6 rfl | exact q7 rfl | exact q8)
   refine AOps.step (Val.of hσ rfl rfl) rfl rfl rfl ?_
   refine AOps.step (Val.of hσ rfl rfl) rfl rfl rfl ?_
   refine AOps.step (Val.of hσ rfl rfl) rfl rfl rfl ?_
   refine AOps.step (Val.of hσ rfl rfl) rfl rfl rfl ?_
   refine AOps.step (Val.of hσ rfl rfl) rfl rfl rfl ?_
   refine AOps.forget [(58, _), (57, _), (56, _), (55, _), (13, _), (49, _), (12, _), (47, _), (3, _), (4, _), (2, _), (8, _), (9, _), (10, _), (11, _), (6, _)] ⟨rfl, rfl, rfl, rfl, rfl, rfl, rfl, rfl, rfl, rfl, rfl, rfl, rfl, rfl, rfl, rfl, trivial⟩ ?_
   refine AOps.heap (HS.alloc hσ rfl rfl rfl rfl rfl) rfl ?_
   apply AOps.norm
   ·
    repeat' (first | exact q0 rfl | apply q1 rfl | exact q2 rfl | apply q3 rfl | exact q4 rfl | apply q5 rfl | exact q6 rfl | exact q7 rfl | exact q8)
   refine AOps.heap (HS.storeBox hσ rfl rfl rfl rfl rfl rfl rfl rfl rfl rfl rfl) rfl ?_
   apply AOps.norm
   ·
    repeat' (first | exact q0 rfl | apply q1 rfl | exact q2 rfl | apply q3 rfl | exact q4 rfl | apply q5 rfl | exact q6 rfl | exact q7 rfl | exact q8)
   refine AOps.step (Val.of hσ rfl rfl) rfl rfl rfl ?_
   refine AOps.step (Val.of hσ rfl rfl) rfl rfl rfl ?_
   refine AOps.step (Val.of hσ rfl rfl) rfl rfl rfl ?_
   refine AOps.forget [(17, _), (16, _), (15, _), (14, _), (13, _), (49, _), (12, _), (47, _), (3, _), (4, _), (2, _), (8, _), (9, _), (10, _), (11, _), (6, _)] ⟨rfl, rfl, rfl, rfl, rfl, rfl, rfl, rfl, rfl, rfl, rfl, rfl, rfl, rfl, rfl, rfl, trivial⟩ ?_
   refine AOps.nil ?_
   refine AWP.seq ?_
   refine AWP.seq ?_
   refine AWP.region ?_
   refine AOps.step (Val.of hσ rfl rfl) rfl rfl rfl ?_
   refine AOps.step (Val.of hσ rfl rfl) rfl rfl rfl ?_
   refine AOps.lone hσ rfl rfl rfl rfl ((c14 (s := ⟨[], []⟩) (t := ⟨[], []⟩) h1 h2).plain (u := eB true) (by simp)) (.cons (.agg (.cons .nils (.cons .nils .nil))) (.cons (.agg (.cons .nils (.cons .nils .nil))) .nil)) rfl rfl rfl rfl rfl (B0 := 62000) rfl ?_
   refine AOps.step (Val.of hσ rfl rfl) rfl rfl rfl ?_
   refine AOps.step (Val.of hσ rfl rfl) rfl rfl rfl ?_
   refine AOps.forget [(63, _), (17, _), (16, _), (15, _), (14, _), (13, _), (49, _), (12, _), (47, _), (3, _), (4, _), (2, _), (8, _), (9, _), (10, _), (11, _), (6, _)] ⟨rfl, rfl, rfl, rfl, rfl, rfl, rfl, rfl, rfl, rfl, rfl, rfl, rfl, rfl, rfl, rfl, rfl, trivial⟩ ?_
   refine AOps.live rfl rfl rfl rfl rfl ?_
   refine AOps.step (Val.of hσ rfl rfl) rfl rfl rfl ?_
   refine AOps.live rfl rfl rfl rfl rfl ?_
   refine AOps.step (Val.of hσ rfl rfl) rfl rfl rfl ?_
   refine AOps.live rfl rfl rfl rfl rfl ?_
   refine AOps.lone hσ rfl rfl rfl rfl ((c15 (xs := []) (ys := []) h1 h2).plain (u := eB true) (by simp)) (.cons (.c .nils) (.cons (.c .nils) .nil)) rfl rfl rfl rfl rfl (B0 := 67000) rfl ?_
   refine AOps.forget [(66, _), (63, _), (17, _), (16, _), (15, _), (14, _), (13, _), (49, _), (12, _), (47, _), (3, _), (4, _), (2, _), (8, _), (9, _), (10, _), (11, _), (6, _)] ⟨rfl, rfl, rfl, rfl, rfl, rfl, rfl, rfl, rfl, rfl, rfl, rfl, rfl, rfl, rfl, rfl, rfl, rfl, trivial⟩ ?_
   refine AOps.live rfl rfl rfl rfl rfl ?_
   refine AOps.step (Val.of hσ rfl rfl) rfl rfl rfl ?_
   refine AOps.step (Val.pickN hσ rfl rfl rfl rfl rfl) rfl rfl rfl ?_
   refine AOps.step (Val.of hσ rfl rfl) rfl rfl rfl ?_
   refine AOps.forget [(69, _), (17, _), (16, _), (15, _), (14, _), (13, _), (49, _), (12, _), (47, _), (3, _), (4, _), (2, _), (8, _), (9, _), (10, _), (11, _), (6, _)] ⟨rfl, rfl, rfl, rfl, rfl, rfl, rfl, rfl, rfl, rfl, rfl, rfl, rfl, rfl, rfl, rfl, rfl, trivial⟩ ?_
   refine AOps.live rfl rfl rfl rfl rfl ?_
   refine AOps.step (Val.of hσ rfl rfl) rfl rfl rfl ?_
   refine AOps.live rfl rfl rfl rfl rfl ?_
   refine AOps.step (Val.of hσ rfl rfl) rfl rfl rfl ?_
   refine AOps.live rfl rfl rfl rfl rfl ?_
   refine AOps.step (Val.of hσ rfl rfl) rfl rfl rfl ?_
   refine AOps.step (Val.pickN hσ rfl rfl rfl rfl rfl) rfl rfl rfl ?_
   refine AOps.step (Val.of hσ rfl rfl) rfl rfl rfl ?_
   refine AOps.forget [(74, _), (17, _), (16, _), (15, _), (14, _), (13, _), (49, _), (12, _), (47, _), (3, _), (4, _), (2, _), (8, _), (9, _), (10, _), (11, _), (6, _)] ⟨rfl, rfl, rfl, rfl, rfl, rfl, rfl, rfl, rfl, rfl, rfl, rfl, rfl, rfl, rfl, rfl, rfl, trivial⟩ ?_
   refine AOps.live rfl rfl rfl rfl rfl ?_
   refine AOps.step (Val.of hσ rfl rfl) rfl rfl rfl ?_
   refine AOps.live rfl rfl rfl rfl rfl ?_
   refine AOps.step (Val.of hσ rfl rfl) rfl rfl rfl ?_
   refine AOps.live rfl rfl rfl rfl rfl ?_
   refine AOps.step (Val.of hσ rfl rfl) rfl rfl rfl ?_
   refine AOps.step (Val.pickN hσ rfl rfl rfl rfl rfl) rfl rfl rfl ?_
   refine AOps.forget [(78, _), (17, _), (16, _), (15, _), (14, _), (13, _), (49, _), (12, _), (47, _), (3, _), (4, _), (2, _), (8, _), (9, _), (10, _), (11, _), (6, _)] ⟨rfl, rfl, rfl, rfl, rfl, rfl, rfl, rfl, rfl, rfl, rfl, rfl, rfl, rfl, rfl, rfl, rfl, trivial⟩ ?_
   refine AOps.nil ?_
   refine AWP.cond hσ rfl rfl (fun hc78 => ?_) (fun hc78 => ?_)
   ·
    skip
    exact absurd (show false = true from hc78) (by decide)
   ·
    skip
    refine AWP.skip ?_
    refine AWP.seq ?_
    refine AWP.seq ?_
    refine AWP.forget [(17, _), (16, _), (15, _), (14, _), (13, _), (49, _), (12, _), (47, _), (3, _), (4, _), (2, _), (8, _), (9, _), (10, _), (11, _), (6, _)] ⟨rfl, rfl, rfl, rfl, rfl, rfl, rfl, rfl, rfl, rfl, rfl, rfl, rfl, rfl, rfl, rfl, trivial⟩ ?_
    refine AWP.drawR hσ _ [_, _, _, _, _] [⟨[], 0, 1, none⟩, ⟨[], 0, 0, none⟩, ⟨[1], 0, 0, some 0⟩, ⟨[0, 1, 2], 0, 0, some 1⟩, ⟨[0, 1, 2, 3], 2, 2, none⟩] [2, 3] [_, _, _] rfl rfl (by decide) (by decide) (by kernel_rfl) (And.intro (And.intro (Val.of hσ rfl rfl) (Val.of hσ rfl rfl)) (And.intro (Val.of hσ rfl rfl) (And.intro (Eff.rows hσ (B0 := 82000) rfl rfl rfl rfl (c11 (p := p) h1 h2) (VAs.self rfl) rfl rfl rfl rfl rfl) (And.intro (Eff.lone hσ (B0 := 83000) rfl rfl rfl rfl ((c16 (s := p) (t := p) h1 h2).plain (u := eB true) (by simp)) (.cons (.agg (.cons (.whole rfl (List.length_map _).symm) (.cons (.whole rfl (List.length_map _).symm) (.cons (.whole rfl (List.length_map _).symm) .nil)))) (.cons (.agg (.cons (.whole rfl (List.length_map _).symm) (.cons (.whole rfl (List.length_map _).symm) (.cons (.whole rfl (List.length_map _).symm) .nil)))) .nil)) rfl rfl rfl rfl rfl) (And.intro (Val.of hσ rfl rfl) trivial))))) ?_
    refine AWP.forget [(83, _), (17, _), (16, _), (15, _), (14, _), (13, _), (49, _), (12, _), (47, _), (3, _), (4, _), (2, _), (8, _), (9, _), (10, _), (11, _), (6, _)] ⟨rfl, rfl, rfl, rfl, rfl, rfl, rfl, rfl, rfl, rfl, rfl, rfl, rfl, rfl, rfl, rfl, rfl, trivial⟩ ?_
    apply AWP.norm
    ·
     repeat' (first | exact q0 rfl | apply q1 rfl | exact q2 rfl | apply q3 rfl | exact q4 rfl | apply q5 rfl | exact q6 rfl | exact q7 rfl | exact q8)
    refine AWP.cond hσ rfl rfl (fun hc83 => ?_) (fun hc83 => ?_)
    ·
     skip
     exact absurd (show false = true from hc83) (by decide)
    ·
     skip
     refine AWP.skip ?_
     refine AWP.seq ?_
     refine AWP.seq ?_
     refine AWP.forget [(17, _), (16, _), (15, _), (14, _), (13, _), (49, _), (12, _), (47, _), (3, _), (4, _), (2, _), (8, _), (9, _), (10, _), (11, _), (6, _)] ⟨rfl, rfl, rfl, rfl, rfl, rfl, rfl, rfl, rfl, rfl, rfl, rfl, rfl, rfl, rfl, rfl, trivial⟩ ?_
     refine AWP.drawR hσ _ [_, _, _, _, _] [⟨[], 0, 1, none⟩, ⟨[], 0, 0, none⟩, ⟨[1], 0, 0, some 0⟩, ⟨[0, 1, 2], 0, 0, some 1⟩, ⟨[0, 1, 2, 3], 2, 2, none⟩] [2, 3] [_, _, _] rfl rfl (by decide) (by decide) (by kernel_rfl) (And.intro (And.intro (Val.of hσ rfl rfl) (Val.of hσ rfl rfl)) (And.intro (Val.of hσ rfl rfl) (And.intro (Eff.rows hσ (B0 := 87000) rfl rfl rfl rfl (c12 (s := s) h1 h2) (VAs.self rfl) rfl rfl rfl rfl rfl) (And.intro (Eff.lone hσ (B0 := 88000) rfl rfl rfl rfl ((c14 (s := s) (t := s) h1 h2).plain (u := eB true) (by simp)) (.cons (.agg (.cons (.whole rfl (List.length_map _).symm) (.cons (.whole rfl (List.length_map _).symm) .nil))) (.cons (.agg (.cons (.whole rfl (List.length_map _).symm) (.cons (.whole rfl (List.length_map _).symm) .nil))) .nil)) rfl rfl rfl rfl rfl) (And.intro (Val.of hσ rfl rfl) trivial))))) ?_
     refine AWP.forget [(88, _), (17, _), (16, _), (15, _), (14, _), (13, _), (49, _), (12, _), (47, _), (3, _), (4, _), (2, _), (8, _), (9, _), (10, _), (11, _), (6, _)] ⟨rfl, rfl, rfl, rfl, rfl, rfl, rfl, rfl, rfl, rfl, rfl, rfl, rfl, rfl, rfl, rfl, rfl, trivial⟩ ?_
     apply AWP.norm
     ·
      repeat' (first | exact q0 rfl | apply q1 rfl | exact q2 rfl | apply q3 rfl | exact q4 rfl | apply q5 rfl | exact q6 rfl | exact q7 rfl | exact q8)
     refine AWP.cond hσ rfl rfl (fun hc88 => ?_) (fun hc88 => ?_)
     ·
      skip
      exact absurd (show false = true from hc88) (by decide)
     ·
      skip
      refine AWP.skip ?_
      refine AWP.seq ?_
      refine AWP.region ?_
      refine AOps.step (Val.of hσ rfl rfl) rfl rfl rfl ?_
      refine AOps.nil ?_
      refine AWP.seq ?_
      refine AWP.region ?_
      refine AOps.to (Ent.sel [3, 4, 8, 12, 13, 14, 48000, 48001, 48002, 50000, 50001] (e' := [(18, _), (3, _), (4, _), (2, _), (8, _), (9, _), (10, _), (11, _), (12, _), (13, _), (14, _), (15, _), (16, _), (17, _), (6, _)]) rfl rfl ⟨rfl, rfl, rfl, rfl, rfl, rfl, rfl, rfl, rfl, rfl, rfl, rfl, rfl, rfl, rfl, trivial⟩ rfl) ?_
      apply AOps.norm
      ·
       repeat' (first | exact q0 rfl | apply q1 rfl | exact q2 rfl | apply q3 rfl | exact q4 rfl | apply q5 rfl | exact q6 rfl | exact q7 rfl | exact q8)
      refine AOps.step (Val.of hσ rfl rfl) rfl rfl rfl ?_
      refine AOps.step (Val.of hσ rfl rfl) rfl rfl rfl ?_
      refine AOps.inn hσ [48000, 48001, 48002] (bin := [trow p.pre, srow p.body, trow p.post]) rfl rfl rfl rfl (c17 (p := p) (k := 1) h1 h2 (by decide) hcp) rfl rfl rfl rfl rfl rfl (B0 := 92000) rfl rfl ?_
      apply AOps.norm
      ·
       repeat' (first | exact q0 rfl | apply q1 rfl | exact q2 rfl | apply q3 rfl | exact q4 rfl | apply q5 rfl | exact q6 rfl | exact q7 rfl | exact q8)
      refine AOps.step (Val.of hσ rfl rfl) rfl rfl rfl ?_
      refine AOps.forget [(18, _), (3, _), (4, _), (2, _), (8, _), (9, _), (10, _), (11, _), (12, _), (13, _), (14, _), (15, _), (16, _), (17, _), (6, _)] ⟨rfl, rfl, rfl, rfl, rfl, rfl, rfl, rfl, rfl, rfl, rfl, rfl, rfl, rfl, rfl, trivial⟩ ?_
      refine AOps.nil ?_
      refine AWP.seq ?_
      refine AWP.region ?_
      refine AOps.step (Val.of hσ rfl rfl) rfl rfl rfl ?_
      refine AOps.step (Val.of hσ rfl rfl) rfl rfl rfl ?_
      refine AOps.inn hσ [50000, 50001] (bin := [nrow s.vars, nrow s.cells]) rfl rfl rfl rfl (c18 (s := s) (k := 1 + cnt nT p.pre + cnt nS p.body + cnt nT p.post) h1 h2 (by omega) hcs) rfl rfl rfl rfl rfl rfl (B0 := 95000) rfl rfl ?_
      apply AOps.norm
      ·
       repeat' (first | exact q0 rfl | apply q1 rfl | exact q2 rfl | apply q3 rfl | exact q4 rfl | apply q5 rfl | exact q6 rfl | exact q7 rfl | exact q8)
      refine AOps.step (Val.of hσ rfl rfl) rfl rfl rfl ?_
      refine AOps.forget [(18, _), (3, _), (4, _), (2, _), (8, _), (9, _), (10, _), (11, _), (12, _), (13, _), (14, _), (15, _), (16, _), (17, _), (6, _)] ⟨rfl, rfl, rfl, rfl, rfl, rfl, rfl, rfl, rfl, rfl, rfl, rfl, rfl, rfl, rfl, trivial⟩ ?_
      refine AOps.nil ?_
      refine AWP.seq ?_
      refine AWP.seq ?_
      refine AWP.region ?_
      refine AOps.step (Val.of hσ rfl rfl) rfl rfl rfl ?_
      refine AOps.step (Val.of hσ rfl rfl) rfl rfl rfl ?_
      rw [decide_eq_false (show ¬ (1 + cnt nT p.pre + cnt nS p.body + cnt nT p.post + s.vars.length + s.cells.length : Int) < 0 by omega)]
      refine AOps.step (Val.of hσ rfl rfl) rfl rfl rfl ?_
      refine AOps.forget [(97, _), (18, _), (3, _), (4, _), (2, _), (8, _), (9, _), (10, _), (11, _), (12, _), (13, _), (14, _), (15, _), (16, _), (17, _), (6, _)] ⟨rfl, rfl, rfl, rfl, rfl, rfl, rfl, rfl, rfl, rfl, rfl, rfl, rfl, rfl, rfl, rfl, trivial⟩ ?_
      refine AOps.live rfl rfl rfl rfl rfl ?_
      refine AOps.step (Val.of hσ rfl rfl) rfl rfl rfl ?_
      refine AOps.live rfl rfl rfl rfl rfl ?_
      refine AOps.step (Val.of hσ rfl rfl) rfl rfl rfl ?_
      refine AOps.live rfl rfl rfl rfl rfl ?_
      refine AOps.lone hσ rfl rfl rfl rfl ((c14 (s := ⟨[], []⟩) (t := ⟨[], []⟩) h1 h2).plain (u := eB true) (by simp)) (.cons (.agg (.cons .nils (.cons .nils .nil))) (.cons (.agg (.cons .nils (.cons .nils .nil))) .nil)) rfl rfl rfl rfl rfl (B0 := 101000) rfl ?_
      refine AOps.forget [(100, _), (97, _), (18, _), (3, _), (4, _), (2, _), (8, _), (9, _), (10, _), (11, _), (12, _), (13, _), (14, _), (15, _), (16, _), (17, _), (6, _)] ⟨rfl, rfl, rfl, rfl, rfl, rfl, rfl, rfl, rfl, rfl, rfl, rfl, rfl, rfl, rfl, rfl, rfl, trivial⟩ ?_
      refine AOps.live rfl rfl rfl rfl rfl ?_
      refine AOps.step (Val.of hσ rfl rfl) rfl rfl rfl ?_
      refine AOps.step (Val.pickN hσ rfl rfl rfl rfl rfl) rfl rfl rfl ?_
      refine AOps.step (Val.of hσ rfl rfl) rfl rfl rfl ?_
      refine AOps.forget [(103, _), (18, _), (3, _), (4, _), (2, _), (8, _), (9, _), (10, _), (11, _), (12, _), (13, _), (14, _), (15, _), (16, _), (17, _), (6, _)] ⟨rfl, rfl, rfl, rfl, rfl, rfl, rfl, rfl, rfl, rfl, rfl, rfl, rfl, rfl, rfl, rfl, trivial⟩ ?_
      refine AOps.live rfl rfl rfl rfl rfl ?_
      refine AOps.step (Val.of hσ rfl rfl) rfl rfl rfl ?_
      refine AOps.live rfl rfl rfl rfl rfl ?_
      refine AOps.step (Val.of hσ rfl rfl) rfl rfl rfl ?_
      refine AOps.live rfl rfl rfl rfl rfl ?_
      refine AOps.lone hσ rfl rfl rfl rfl ((c15 (xs := []) (ys := []) h1 h2).plain (u := eB true) (by simp)) (.cons (.c .nils) (.cons (.c .nils) .nil)) rfl rfl rfl rfl rfl (B0 := 107000) rfl ?_
      refine AOps.forget [(106, _), (103, _), (18, _), (3, _), (4, _), (2, _), (8, _), (9, _), (10, _), (11, _), (12, _), (13, _), (14, _), (15, _), (16, _), (17, _), (6, _)] ⟨rfl, rfl, rfl, rfl, rfl, rfl, rfl, rfl, rfl, rfl, rfl, rfl, rfl, rfl, rfl, rfl, rfl, trivial⟩ ?_
      refine AOps.live rfl rfl rfl rfl rfl ?_
      refine AOps.step (Val.of hσ rfl rfl) rfl rfl rfl ?_
      refine AOps.step (Val.pickN hσ rfl rfl rfl rfl rfl) rfl rfl rfl ?_
      refine AOps.step (Val.of hσ rfl rfl) rfl rfl rfl ?_
      refine AOps.forget [(109, _), (18, _), (3, _), (4, _), (2, _), (8, _), (9, _), (10, _), (11, _), (12, _), (13, _), (14, _), (15, _), (16, _), (17, _), (6, _)] ⟨rfl, rfl, rfl, rfl, rfl, rfl, rfl, rfl, rfl, rfl, rfl, rfl, rfl, rfl, rfl, rfl, trivial⟩ ?_
      refine AOps.live rfl rfl rfl rfl rfl ?_
      refine AOps.step (Val.of hσ rfl rfl) rfl rfl rfl ?_
      refine AOps.live rfl rfl rfl rfl rfl ?_
      refine AOps.step (Val.of hσ rfl rfl) rfl rfl rfl ?_
      refine AOps.live rfl rfl rfl rfl rfl ?_
      refine AOps.step (Val.of hσ rfl rfl) rfl rfl rfl ?_
      refine AOps.step (Val.pickN hσ rfl rfl rfl rfl rfl) rfl rfl rfl ?_
      refine AOps.step (Val.of hσ rfl rfl) rfl rfl rfl ?_
      refine AOps.forget [(114, _), (18, _), (3, _), (4, _), (2, _), (8, _), (9, _), (10, _), (11, _), (12, _), (13, _), (14, _), (15, _), (16, _), (17, _), (6, _)] ⟨rfl, rfl, rfl, rfl, rfl, rfl, rfl, rfl, rfl, rfl, rfl, rfl, rfl, rfl, rfl, rfl, trivial⟩ ?_
      refine AOps.live rfl rfl rfl rfl rfl ?_
      refine AOps.step (Val.of hσ rfl rfl) rfl rfl rfl ?_
      refine AOps.live rfl rfl rfl rfl rfl ?_
      refine AOps.step (Val.of hσ rfl rfl) rfl rfl rfl ?_
      refine AOps.live rfl rfl rfl rfl rfl ?_
      refine AOps.step (Val.of hσ rfl rfl) rfl rfl rfl ?_
      refine AOps.step (Val.pickN hσ rfl rfl rfl rfl rfl) rfl rfl rfl ?_
      refine AOps.forget [(118, _), (18, _), (3, _), (4, _), (2, _), (8, _), (9, _), (10, _), (11, _), (12, _), (13, _), (14, _), (15, _), (16, _), (17, _), (6, _)] ⟨rfl, rfl, rfl, rfl, rfl, rfl, rfl, rfl, rfl, rfl, rfl, rfl, rfl, rfl, rfl, rfl, trivial⟩ ?_
      refine AOps.nil ?_
      refine AWP.cond hσ rfl rfl (fun hc118 => ?_) (fun hc118 => ?_)
      ·
       skip
       exact absurd (show false = true from hc118) (by decide)
      ·
       skip
       refine AWP.skip ?_
       refine AWP.seq ?_
       refine AWP.region ?_
       refine AOps.step (Val.of hσ rfl rfl) rfl rfl rfl ?_
       refine AOps.nil ?_
       refine AWP.seq ?_
       refine AWP.region ?_
       refine AOps.step (Val.of hσ rfl rfl) rfl rfl rfl ?_
       refine AOps.step (Val.of hσ rfl rfl) rfl rfl rfl ?_
       refine AOps.forget [(120, _), (119, _), (19, _), (18, _), (3, _), (4, _), (2, _), (8, _), (9, _), (10, _), (11, _), (12, _), (13, _), (14, _), (15, _), (16, _), (17, _), (6, _)] ⟨rfl, rfl, rfl, rfl, rfl, rfl, rfl, rfl, rfl, rfl, rfl, rfl, rfl, rfl, rfl, rfl, rfl, rfl, trivial⟩ ?_
       refine AOps.lone hσ rfl rfl rfl rfl (c18z (k := 1) h1 h2) (.cons (.agg (.cons .nils (.cons .nils .nil))) (.cons (.c .d) .nil)) rfl rfl rfl rfl rfl (B0 := 122000) rfl ?_
       refine AOps.step (Val.of hσ rfl rfl) rfl rfl rfl ?_
       refine AOps.forget [(19, _), (18, _), (3, _), (4, _), (2, _), (8, _), (9, _), (10, _), (11, _), (12, _), (13, _), (14, _), (15, _), (16, _), (17, _), (6, _)] ⟨rfl, rfl, rfl, rfl, rfl, rfl, rfl, rfl, rfl, rfl, rfl, rfl, rfl, rfl, rfl, rfl, trivial⟩ ?_
       refine AOps.nil ?_
       refine AWP.seq ?_
       refine AWP.region ?_
       refine AOps.step (Val.of hσ rfl rfl) rfl rfl rfl ?_
       refine AOps.step (Val.of hσ rfl rfl) rfl rfl rfl ?_
       refine AOps.lone hσ rfl rfl rfl rfl (c19n (k := 1) h1 h2) (.cons (.c .nils) (.cons (.c .d) .nil)) rfl rfl rfl rfl rfl (B0 := 125000) rfl ?_
       refine AOps.step (Val.of hσ rfl rfl) rfl rfl rfl ?_
       refine AOps.forget [(19, _), (18, _), (3, _), (4, _), (2, _), (8, _), (9, _), (10, _), (11, _), (12, _), (13, _), (14, _), (15, _), (16, _), (17, _), (6, _)] ⟨rfl, rfl, rfl, rfl, rfl, rfl, rfl, rfl, rfl, rfl, rfl, rfl, rfl, rfl, rfl, rfl, trivial⟩ ?_
       refine AOps.nil ?_
       refine AWP.seq ?_
       refine AWP.region ?_
       refine AOps.step (Val.of hσ rfl rfl) rfl rfl rfl ?_
       refine AOps.nil ?_
       refine AWP.seq ?_
       refine AWP.region ?_
       refine AOps.step (Val.of hσ rfl rfl) rfl rfl rfl ?_
       refine AOps.step (Val.of hσ rfl rfl) rfl rfl rfl ?_
       refine AOps.lone hσ rfl rfl rfl rfl ((c20 (s := ⟨[], []⟩) (k := 1) h1 h2 (by decide) (by decide)).plain (v := eI (heldSx ⟨[], []⟩ 1)) (u := eI 1) rfl) (.cons (.agg (.cons .nils (.cons .nils .nil))) (.cons (.c .d) .nil)) rfl rfl rfl rfl rfl (B0 := 128000) rfl ?_
       refine AOps.step (Val.of hσ rfl rfl) rfl rfl rfl ?_
       refine AOps.forget [(20, _), (19, _), (18, _), (3, _), (4, _), (2, _), (8, _), (9, _), (10, _), (11, _), (12, _), (13, _), (14, _), (15, _), (16, _), (17, _), (6, _)] ⟨rfl, rfl, rfl, rfl, rfl, rfl, rfl, rfl, rfl, rfl, rfl, rfl, rfl, rfl, rfl, rfl, rfl, trivial⟩ ?_
       refine AOps.nil ?_
       refine AWP.seq ?_
       refine AWP.seq ?_
       refine AWP.region ?_
       refine AOps.step (Val.of hσ rfl rfl) rfl rfl rfl ?_
       refine AOps.step (Val.of hσ rfl rfl) rfl rfl rfl ?_
       refine AOps.nil ?_
       refine AWP.cond hσ rfl rfl (fun hc129 => ?_) (fun hc129 => ?_)
       ·
        skip
        exact absurd (of_decide_eq_true hc129) (by omega)
       ·
        skip
        refine AWP.skip ?_
        refine AWP.seq ?_
        refine AWP.region ?_
        refine AOps.step (Val.of hσ rfl rfl) rfl rfl rfl ?_
        refine AOps.step (Val.of hσ rfl rfl) rfl rfl rfl ?_
        refine AOps.forget [(131, _), (130, _), (128, _), (20, _), (19, _), (18, _), (3, _), (4, _), (2, _), (8, _), (9, _), (10, _), (11, _), (12, _), (13, _), (14, _), (15, _), (16, _), (17, _), (6, _)] ⟨rfl, rfl, rfl, rfl, rfl, rfl, rfl, rfl, rfl, rfl, rfl, rfl, rfl, rfl, rfl, rfl, rfl, rfl, rfl, rfl, trivial⟩ ?_
        refine AOps.lone hσ rfl rfl rfl rfl ((c21 (xs := []) (k := 1) h1 h2 (by decide) (by decide)).plain (u := eI 1) rfl) (.cons (.c .nils) (.cons (.c .d) .nil)) rfl rfl rfl rfl rfl (B0 := 133000) rfl ?_
        refine AOps.step (Val.of hσ rfl rfl) rfl rfl rfl ?_
        refine AOps.forget [(20, _), (128, _), (19, _), (18, _), (3, _), (4, _), (2, _), (8, _), (9, _), (10, _), (11, _), (12, _), (13, _), (14, _), (15, _), (16, _), (17, _), (6, _)] ⟨rfl, rfl, rfl, rfl, rfl, rfl, rfl, rfl, rfl, rfl, rfl, rfl, rfl, rfl, rfl, rfl, rfl, rfl, trivial⟩ ?_
        refine AOps.nil ?_
        refine AWP.seq ?_
        refine AWP.seq ?_
        refine AWP.region ?_
        refine AOps.step (Val.of hσ rfl rfl) rfl rfl rfl ?_
        refine AOps.step (Val.of hσ rfl rfl) rfl rfl rfl ?_
        refine AOps.nil ?_
        refine AWP.cond hσ rfl rfl (fun hc134 => ?_) (fun hc134 => ?_)
        ·
         skip
         exact absurd (of_decide_eq_true hc134) (by omega)
        ·
         skip
         refine AWP.skip ?_
         refine AWP.seq ?_
         refine AWP.seq ?_
         refine AWP.region ?_
         refine AOps.to (Ent.sel [3, 4, 8, 14] (e' := [(20, _), (19, _), (3, _), (4, _), (2, _), (8, _), (9, _), (10, _), (11, _), (14, _), (15, _), (6, _)]) rfl rfl ⟨rfl, rfl, rfl, rfl, rfl, rfl, rfl, rfl, rfl, rfl, rfl, rfl, trivial⟩ rfl) ?_
         apply AOps.norm
         ·
          repeat' (first | exact q0 rfl | apply q1 rfl | exact q2 rfl | apply q3 rfl | exact q4 rfl | apply q5 rfl | exact q6 rfl | exact q7 rfl | exact q8)
         refine AOps.step (Val.of hσ rfl rfl) rfl rfl rfl ?_
         refine AOps.step (Val.of hσ rfl rfl) rfl rfl rfl ?_
         refine AOps.step (Val.of hσ rfl rfl) rfl rfl rfl ?_
         refine AOps.forget [(137, _), (20, _), (19, _), (3, _), (4, _), (2, _), (8, _), (9, _), (10, _), (11, _), (14, _), (15, _), (6, _)] ⟨rfl, rfl, rfl, rfl, rfl, rfl, rfl, rfl, rfl, rfl, rfl, rfl, rfl, trivial⟩ ?_
         refine AOps.nil ?_
         refine AWP.cond hσ rfl rfl (fun hc137 => ?_) (fun hc137 => ?_)
         ·
          skip
          exact absurd hc137 (by simp)
         ·
          skip
          refine AWP.skip ?_
          refine AWP.seq ?_
          refine AWP.forget [(20, _), (19, _), (3, _), (4, _), (2, _), (8, _), (9, _), (10, _), (11, _), (14, _), (15, _), (6, _)] ⟨rfl, rfl, rfl, rfl, rfl, rfl, rfl, rfl, rfl, rfl, rfl, rfl, trivial⟩ ?_
          refine AWP.drawF2 hσ _ [_, _, _, _, _, _, _, _, _, _, _, _, _, _, _, _] [⟨[], 0, 0, none⟩, ⟨[0], 0, 0, some 0⟩, ⟨[], 0, 1, none⟩, ⟨[0, 1, 2], 0, 0, some 1⟩, ⟨[], 0, 2, none⟩, ⟨[0, 1, 2, 3, 4], 0, 0, some 2⟩, ⟨[0, 1, 2, 3, 4, 5], 3, 3, none⟩, ⟨[0, 1, 2, 3, 4, 5, 6], 3, 3, none⟩, ⟨[0, 1, 2, 3, 4, 5, 6], 3, 4, none⟩, ⟨[0, 1, 2, 3, 4, 5, 6], 3, 4, none⟩, ⟨[0, 1, 2, 3, 4, 5, 6], 3, 4, none⟩, ⟨[], 0, 3, none⟩, ⟨[0, 1, 2, 3, 4, 5, 6, 7, 11], 0, 0, some 3⟩, ⟨[0, 1, 2, 3, 4, 5, 6, 7, 8, 11, 12], 4, 4, none⟩, ⟨[0, 1, 2, 3, 4, 5, 6, 7, 8, 9, 11, 12, 13], 4, 4, none⟩, ⟨[0, 1, 2, 3, 4, 5, 6, 7, 8, 9, 10, 11, 12, 13, 14], 4, 4, none⟩] [1, 3, 5, 12] 11 21 (.box [.d .nils, .d .nils]) [_, _, _, _] [_] [] rfl rfl (by decide) (by decide) (by decide) rfl (by kernel_rfl) (And.intro (And.intro (and_flip (Val.of hσ rfl rfl) (Val.of hσ rfl rfl)) rfl) (And.intro (And.intro (and_flip (Eff.p (Eff.rows hσ (B0 := 141000) rfl rfl rfl rfl (c11 (p := p) h1 h2) (VAs.self rfl) rfl rfl rfl rfl rfl)) (Eff.p (Eff.rows hσ (B0 := 141000) rfl rfl rfl rfl (c11 (p := p) h1 h2) (VAs.self rfl) rfl rfl rfl rfl rfl))) rfl) (And.intro (And.intro (And.intro (and_flip (Val.of hσ rfl rfl) (Val.of hσ rfl rfl)) rfl) (And.intro (and_flip (Val.of hσ rfl rfl) (Val.of hσ rfl rfl)) rfl)) (And.intro (And.intro (and_flip (Eff.p (Eff.rows hσ (B0 := 143000) rfl rfl rfl rfl (c12 (s := s) h1 h2) (VAs.self rfl) rfl rfl rfl rfl rfl)) (Eff.p (Eff.rows hσ (B0 := 143000) rfl rfl rfl rfl (c12 (s := s) h1 h2) (VAs.self rfl) rfl rfl rfl rfl rfl))) rfl) (And.intro (And.intro (And.intro (and_flip (Val.of hσ rfl rfl) (Val.of hσ rfl rfl)) rfl) (And.intro (And.intro (and_flip (Val.of hσ rfl rfl) (Val.of hσ rfl rfl)) rfl) (And.intro (and_flip (Val.of hσ rfl rfl) (Val.of hσ rfl rfl)) rfl))) (And.intro (And.intro (and_flip (Eff.p (Eff.rows hσ (B0 := 145000) rfl rfl rfl rfl (ci) (.cons (.agg (.cons (.whole rfl (List.length_map _).symm) (.cons (.whole rfl (List.length_map _).symm) (.cons (.whole rfl (List.length_map _).symm) .nil)))) (.cons (.agg (.cons (.whole rfl (List.length_map _).symm) (.cons (.whole rfl (List.length_map _).symm) .nil))) (.cons (.c .d) .nil))) rfl rfl rfl rfl rfl)) (Eff.p (Eff.rows hσ (B0 := 145000) rfl rfl rfl rfl (ci) (.cons (.agg (.cons (.whole rfl (List.length_map _).symm) (.cons (.whole rfl (List.length_map _).symm) (.cons (.whole rfl (List.length_map _).symm) .nil)))) (.cons (.agg (.cons (.whole rfl (List.length_map _).symm) (.cons (.whole rfl (List.length_map _).symm) .nil))) (.cons (.c .d) .nil))) rfl rfl rfl rfl rfl))) rfl) (And.intro (And.intro (and_flip (Val.of hσ rfl rfl) (Val.of hσ rfl rfl)) rfl) (And.intro (And.intro (and_flip (Val.of hσ rfl rfl) (Val.of hσ rfl rfl)) rfl) (And.intro (And.intro (And.intro (and_flip (Val.of hσ rfl rfl) (Val.of hσ rfl rfl)) rfl) (And.intro (and_flip (Val.of hσ rfl rfl) (Val.of hσ rfl rfl)) rfl)) (And.intro (And.intro (And.intro (and_flip (Val.of hσ rfl rfl) (Val.of hσ rfl rfl)) rfl) (And.intro (and_flip (Val.of hσ rfl rfl) (Val.of hσ rfl rfl)) rfl)) (And.intro (And.intro (And.intro (and_flip (Val.of hσ rfl rfl) (Val.of hσ rfl rfl)) rfl) (And.intro (and_flip (Val.of hσ rfl rfl) (Val.of hσ rfl rfl)) rfl)) (And.intro (And.intro (And.intro (Eff.p (Eff.alloc hσ rfl rfl rfl rfl rfl rfl)) rfl) (And.intro (And.intro (Eff.p (Eff.alloc hσ rfl rfl rfl rfl rfl rfl)) rfl) (And.intro (And.intro (Eff.p (Eff.alloc hσ rfl rfl rfl rfl rfl rfl)) rfl) (And.intro (Eff.p (Eff.alloc hσ rfl rfl rfl rfl rfl rfl)) rfl)))) (And.intro (And.intro (and_flip trivial (Eff.p (Eff.storeBox hσ rfl rfl rfl rfl rfl rfl rfl rfl rfl rfl rfl rfl rfl))) rfl) (And.intro (And.intro (and_flip trivial (Val.of hσ rfl rfl)) rfl) (And.intro (And.intro (and_flip trivial (Val.of hσ rfl rfl)) rfl) (And.intro (And.intro (and_flip trivial (Val.of hσ rfl rfl)) rfl) trivial)))))))))))))))) ?_
          refine AWP.forget [(24, _), (23, _), (22, _), (21, _), (20, _), (19, _), (3, _), (4, _), (2, _), (8, _), (9, _), (10, _), (11, _), (14, _), (15, _), (6, _)] ⟨rfl, rfl, rfl, rfl, rfl, rfl, rfl, rfl, rfl, rfl, rfl, rfl, rfl, rfl, rfl, rfl, trivial⟩ ?_
          apply AWP.norm
          ·
           repeat' (first | exact q0 rfl | apply q1 rfl | exact q2 rfl | apply q3 rfl | exact q4 rfl | apply q5 rfl | exact q6 rfl | exact q7 rfl | exact q8)
          refine AWP.seq ?_
          refine AWP.seq ?_
          refine AWP.region ?_
          refine AOps.step (Val.of hσ rfl rfl) rfl rfl rfl ?_
          refine AOps.step (Val.of hσ rfl rfl) rfl rfl rfl ?_
          refine AOps.lone hσ rfl rfl rfl rfl ((c14 (s := ⟨[], []⟩) (t := ⟨[], []⟩) h1 h2).plain (u := eB true) (by simp)) (.cons (.agg (.cons .nils (.cons .nils .nil))) (.cons (.agg (.cons .nils (.cons .nils .nil))) .nil)) rfl rfl rfl rfl rfl (B0 := 152000) rfl ?_
          refine AOps.step (Val.of hσ rfl rfl) rfl rfl rfl ?_
          refine AOps.step (Val.of hσ rfl rfl) rfl rfl rfl ?_
          refine AOps.forget [(153, _), (24, _), (23, _), (22, _), (21, _), (20, _), (19, _), (3, _), (4, _), (2, _), (8, _), (9, _), (10, _), (11, _), (14, _), (15, _), (6, _)] ⟨rfl, rfl, rfl, rfl, rfl, rfl, rfl, rfl, rfl, rfl, rfl, rfl, rfl, rfl, rfl, rfl, rfl, trivial⟩ ?_
          refine AOps.live rfl rfl rfl rfl rfl ?_
          refine AOps.step (Val.of hσ rfl rfl) rfl rfl rfl ?_
          refine AOps.forget [(154, _), (153, _), (24, _), (23, _), (21, _), (20, _), (19, _), (3, _), (4, _), (2, _), (8, _), (9, _), (10, _), (11, _), (14, _), (15, _), (6, _)] ⟨rfl, rfl, rfl, rfl, rfl, rfl, rfl, rfl, rfl, rfl, rfl, rfl, rfl, rfl, rfl, rfl, rfl, trivial⟩ ?_
          refine AOps.live rfl rfl rfl rfl rfl ?_
          refine AOps.step (Val.of hσ rfl rfl) rfl rfl rfl ?_
          refine AOps.live rfl rfl rfl rfl rfl ?_
          refine AOps.lone hσ rfl rfl rfl rfl ((c15 (xs := []) (ys := []) h1 h2).plain (u := eB true) (by simp)) (.cons (.c .nils) (.cons (.c .nils) .nil)) rfl rfl rfl rfl rfl (B0 := 157000) rfl ?_
          refine AOps.forget [(156, _), (153, _), (24, _), (23, _), (21, _), (20, _), (19, _), (3, _), (4, _), (2, _), (8, _), (9, _), (10, _), (11, _), (14, _), (15, _), (6, _)] ⟨rfl, rfl, rfl, rfl, rfl, rfl, rfl, rfl, rfl, rfl, rfl, rfl, rfl, rfl, rfl, rfl, rfl, trivial⟩ ?_
          refine AOps.live rfl rfl rfl rfl rfl ?_
          refine AOps.step (Val.of hσ rfl rfl) rfl rfl rfl ?_
          refine AOps.step (Val.pickN hσ rfl rfl rfl rfl rfl) rfl rfl rfl ?_
          refine AOps.step (Val.of hσ rfl rfl) rfl rfl rfl ?_
          refine AOps.forget [(159, _), (24, _), (23, _), (21, _), (20, _), (19, _), (3, _), (4, _), (2, _), (8, _), (9, _), (10, _), (11, _), (14, _), (15, _), (6, _)] ⟨rfl, rfl, rfl, rfl, rfl, rfl, rfl, rfl, rfl, rfl, rfl, rfl, rfl, rfl, rfl, rfl, trivial⟩ ?_
          refine AOps.live rfl rfl rfl rfl rfl ?_
          refine AOps.step (Val.of hσ rfl rfl) rfl rfl rfl ?_
          refine AOps.forget [(160, _), (159, _), (24, _), (21, _), (20, _), (19, _), (3, _), (4, _), (2, _), (8, _), (9, _), (10, _), (11, _), (14, _), (15, _), (6, _)] ⟨rfl, rfl, rfl, rfl, rfl, rfl, rfl, rfl, rfl, rfl, rfl, rfl, rfl, rfl, rfl, rfl, trivial⟩ ?_
          refine AOps.live rfl rfl rfl rfl rfl ?_
          refine AOps.step (Val.of hσ rfl rfl) rfl rfl rfl ?_
          refine AOps.live rfl rfl rfl rfl rfl ?_
          refine AOps.step (Val.of hσ rfl rfl) rfl rfl rfl ?_
          refine AOps.step (Val.pickN hσ rfl rfl rfl rfl rfl) rfl rfl rfl ?_
          refine AOps.step (Val.of hσ rfl rfl) rfl rfl rfl ?_
          refine AOps.forget [(164, _), (24, _), (21, _), (20, _), (19, _), (3, _), (4, _), (2, _), (8, _), (9, _), (10, _), (11, _), (14, _), (15, _), (6, _)] ⟨rfl, rfl, rfl, rfl, rfl, rfl, rfl, rfl, rfl, rfl, rfl, rfl, rfl, rfl, rfl, trivial⟩ ?_
          refine AOps.live rfl rfl rfl rfl rfl ?_
          refine AOps.step (Val.of hσ rfl rfl) rfl rfl rfl ?_
          refine AOps.forget [(165, _), (164, _), (21, _), (20, _), (19, _), (3, _), (4, _), (2, _), (8, _), (9, _), (10, _), (11, _), (14, _), (15, _), (6, _)] ⟨rfl, rfl, rfl, rfl, rfl, rfl, rfl, rfl, rfl, rfl, rfl, rfl, rfl, rfl, rfl, trivial⟩ ?_
          refine AOps.live rfl rfl rfl rfl rfl ?_
          refine AOps.step (Val.of hσ rfl rfl) rfl rfl rfl ?_
          refine AOps.live rfl rfl rfl rfl rfl ?_
          refine AOps.step (Val.of hσ rfl rfl) rfl rfl rfl ?_
          refine AOps.step (Val.pickN hσ rfl rfl rfl rfl rfl) rfl rfl rfl ?_
          refine AOps.forget [(168, _), (21, _), (20, _), (19, _), (3, _), (4, _), (2, _), (8, _), (9, _), (10, _), (11, _), (14, _), (15, _), (6, _)] ⟨rfl, rfl, rfl, rfl, rfl, rfl, rfl, rfl, rfl, rfl, rfl, rfl, rfl, rfl, trivial⟩ ?_
          refine AOps.nil ?_
          refine AWP.cond hσ rfl rfl (fun hc168 => ?_) (fun hc168 => ?_)
          ·
           skip
           exact absurd (show false = true from hc168) (by decide)
          ·
           skip
           refine AWP.skip ?_
           refine AWP.seq ?_
           refine AWP.region ?_
           refine AOps.step (Val.of hσ rfl rfl) rfl rfl rfl ?_
           refine AOps.nil ?_
           refine AWP.seq ?_
           refine AWP.region ?_
           refine AOps.step (Val.of hσ rfl rfl) rfl rfl rfl ?_
           refine AOps.step (Val.of hσ rfl rfl) rfl rfl rfl ?_
           refine AOps.forget [(170, _), (169, _), (20, _), (21, _), (19, _), (3, _), (4, _), (2, _), (8, _), (9, _), (10, _), (11, _), (14, _), (15, _), (6, _)] ⟨rfl, rfl, rfl, rfl, rfl, rfl, rfl, rfl, rfl, rfl, rfl, rfl, rfl, rfl, rfl, trivial⟩ ?_
           refine AOps.lone hσ rfl rfl rfl rfl ((c20 (s := ⟨[], []⟩) (k := 1) h1 h2 (by decide) (by decide)).plain (v := eI (heldSx ⟨[], []⟩ 1)) (u := eI 1) rfl) (.cons (.agg (.cons .nils (.cons .nils .nil))) (.cons (.c .d) .nil)) rfl rfl rfl rfl rfl (B0 := 172000) rfl ?_
           refine AOps.step (Val.of hσ rfl rfl) rfl rfl rfl ?_
           refine AOps.forget [(20, _), (21, _), (19, _), (3, _), (4, _), (2, _), (8, _), (9, _), (10, _), (11, _), (14, _), (15, _), (6, _)] ⟨rfl, rfl, rfl, rfl, rfl, rfl, rfl, rfl, rfl, rfl, rfl, rfl, rfl, trivial⟩ ?_
           refine AOps.nil ?_
           refine AWP.seq ?_
           refine AWP.seq ?_
           refine AWP.region ?_
           refine AOps.step (Val.of hσ rfl rfl) rfl rfl rfl ?_
           refine AOps.step (Val.of hσ rfl rfl) rfl rfl rfl ?_
           refine AOps.nil ?_
           refine AWP.cond hσ rfl rfl (fun hc173 => ?_) (fun hc173 => ?_)
           ·
            skip
            exact absurd (of_decide_eq_true hc173) (by omega)
           ·
            skip
            refine AWP.skip ?_
            refine AWP.seq ?_
            refine AWP.region ?_
            refine AOps.step (Val.of hσ rfl rfl) rfl rfl rfl ?_
            refine AOps.step (Val.of hσ rfl rfl) rfl rfl rfl ?_
            refine AOps.forget [(175, _), (174, _), (172, _), (20, _), (21, _), (19, _), (3, _), (4, _), (2, _), (8, _), (9, _), (10, _), (11, _), (14, _), (15, _), (6, _)] ⟨rfl, rfl, rfl, rfl, rfl, rfl, rfl, rfl, rfl, rfl, rfl, rfl, rfl, rfl, rfl, rfl, trivial⟩ ?_
            refine AOps.lone hσ rfl rfl rfl rfl ((c21 (xs := []) (k := 1) h1 h2 (by decide) (by decide)).plain (u := eI 1) rfl) (.cons (.c .nils) (.cons (.c .d) .nil)) rfl rfl rfl rfl rfl (B0 := 177000) rfl ?_
            refine AOps.step (Val.of hσ rfl rfl) rfl rfl rfl ?_
            refine AOps.forget [(20, _), (172, _), (21, _), (19, _), (3, _), (4, _), (2, _), (8, _), (9, _), (10, _), (11, _), (14, _), (15, _), (6, _)] ⟨rfl, rfl, rfl, rfl, rfl, rfl, rfl, rfl, rfl, rfl, rfl, rfl, rfl, rfl, trivial⟩ ?_
            refine AOps.nil ?_
            refine AWP.seq ?_
            refine AWP.seq ?_
            refine AWP.region ?_
            refine AOps.step (Val.of hσ rfl rfl) rfl rfl rfl ?_
            refine AOps.step (Val.of hσ rfl rfl) rfl rfl rfl ?_
            refine AOps.nil ?_
            refine AWP.cond hσ rfl rfl (fun hc178 => ?_) (fun hc178 => ?_)
            ·
             skip
             exact absurd (of_decide_eq_true hc178) (by omega)
            ·
             skip
             refine AWP.skip ?_
             refine AWP.seq ?_
             refine AWP.seq ?_
             refine AWP.region ?_
             refine AOps.step (Val.of hσ rfl rfl) rfl rfl rfl ?_
             refine AOps.step (Val.of hσ rfl rfl) rfl rfl rfl ?_
             refine AOps.step (Val.of hσ rfl rfl) rfl rfl rfl ?_
             refine AOps.forget [(181, _), (177, _), (20, _), (172, _), (21, _), (19, _), (3, _), (4, _), (2, _), (8, _), (9, _), (10, _), (11, _), (14, _), (15, _), (6, _)] ⟨rfl, rfl, rfl, rfl, rfl, rfl, rfl, rfl, rfl, rfl, rfl, rfl, rfl, rfl, rfl, rfl, trivial⟩ ?_
             refine AOps.nil ?_
             refine AWP.cond hσ rfl rfl (fun hc181 => ?_) (fun hc181 => ?_)
             ·
              skip
              exact absurd hc181 (by simp)
             ·
              skip
              refine AWP.skip ?_
              refine AWP.seq ?_
              refine AWP.region ?_
              refine AOps.step (Val.of hσ rfl rfl) rfl rfl rfl ?_
              refine AOps.nil ?_
              refine AWP.ret ?_
              refine ⟨.inl rfl, _, Ent.refl, _, rfl, ?_⟩
              rfl
end Go.Al
namespace Go.Al
open Go.Proofs
set_option linter.unusedVariables false
set_option linter.unusedSimpArgs false
set_option maxRecDepth 10000
abbrev szP (p : Pm) : Nat := szs Tm.size p.pre + szs Sm.size p.body + szs Tm.size p.post
abbrev szX (s : Sx) : Nat := s.vars.length + s.cells.length

theorem c3a {L : Nat} (h1 : 4096 ≤ L) (h2 : L ≤ 9223372036854775807) {p : Pm} {s : Sx} {f : Int} (hz : szr 1048576 (szP p) < 0) : MC Try.prog L 3 [aPm p, aSx s, eI f] [] (Plain (eB true)) := by
 refine MC.alone ?_ rfl
 have hσ := SGok (nt := 182) h1 h2
 refine MC.body hσ Try.func3 (by kernel_rfl) rfl rfl (Nat.le_of_ble_eq_true rfl) (fun hF => ?_)
 refine AWP.seq ?_
 refine AWP.region ?_
 refine AOps.heap (HS.box hσ rfl rfl rfl rfl rfl rfl rfl) rfl ?_
 apply AOps.norm
 ·
  repeat' (first | exact q0 rfl | apply q1 rfl | exact q2 rfl | apply q3 rfl | exact q4 rfl | apply q5 rfl | exact q6 rfl | exact q7 rfl | exact q8)
 refine AOps.forget [(3, _), (1, _), (2, _)] ⟨rfl, rfl, rfl, trivial⟩ ?_
 refine AOps.heap (HS.box hσ rfl rfl rfl rfl rfl rfl rfl) rfl ?_
 apply AOps.norm
 ·
  repeat' (first | exact q0 rfl | apply q1 rfl | exact q2 rfl | apply q3 rfl | exact q4 rfl | apply q5 rfl | exact q6 rfl | exact q7 rfl | exact q8)
 refine AOps.step (Val.of hσ rfl rfl) rfl rfl rfl ?_
 refine AOps.nil ?_
 refine AWP.seq ?_
 refine AWP.region ?_
 refine AOps.step (Val.of hσ rfl rfl) rfl rfl rfl ?_
 refine AOps.nil ?_
 refine AWP.seq ?_
 refine AWP.region ?_
 refine AOps.step (Val.of hσ rfl rfl) rfl rfl rfl ?_
 refine AOps.step (Val.of hσ rfl rfl) rfl rfl rfl ?_
 refine AOps.lone hσ rfl rfl rfl rfl (c8 (p := p) (left := 1048576) h1 h2 (by decide) (by decide)) (VAs.self rfl) rfl rfl rfl rfl rfl (B0 := 28000) rfl ?_
 refine AOps.step (Val.of hσ rfl rfl) rfl rfl rfl ?_
 refine AOps.forget [(7, _), (6, _), (4, _), (3, _), (1, _), (2, _)] ⟨rfl, rfl, rfl, rfl, rfl, rfl, trivial⟩ ?_
 refine AOps.nil ?_
 refine AWP.seq ?_
 refine AWP.seq ?_
 refine AWP.region ?_
 refine AOps.step (Val.of hσ rfl rfl) rfl rfl rfl ?_
 refine AOps.step (Val.of hσ rfl rfl) rfl rfl rfl ?_
 refine AOps.nil ?_
 refine AWP.cond hσ rfl rfl (fun hc29 => ?_) (fun hc29 => ?_)
 ·
  skip
  refine AWP.seq ?_
  refine AWP.region ?_
  refine AOps.step (Val.of hσ rfl rfl) rfl rfl rfl ?_
  refine AOps.nil ?_
  refine AWP.ret ?_
  refine ⟨.inl rfl, _, Ent.refl, _, rfl, ?_⟩
  rfl
 ·
  skip
  exact absurd (of_decide_eq_false hc29) (fun h => h hz)
theorem c3b {L : Nat} (h1 : 4096 ≤ L) (h2 : L ≤ 9223372036854775807) {p : Pm} {s : Sx} {f : Int} (hz1 : 0 ≤ szr 1048576 (szP p)) (hz2 : szr (szr 1048576 (szP p)) (szX s) < 0) : MC Try.prog L 3 [aPm p, aSx s, eI f] [] (Plain (eB true)) := by
 refine MC.alone ?_ rfl
 have hσ := SGok (nt := 182) h1 h2
 refine MC.body hσ Try.func3 (by kernel_rfl) rfl rfl (Nat.le_of_ble_eq_true rfl) (fun hF => ?_)
 refine AWP.seq ?_
 refine AWP.region ?_
 refine AOps.heap (HS.box hσ rfl rfl rfl rfl rfl rfl rfl) rfl ?_
 apply AOps.norm
 ·
  repeat' (first | exact q0 rfl | apply q1 rfl | exact q2 rfl | apply q3 rfl | exact q4 rfl | apply q5 rfl | exact q6 rfl | exact q7 rfl | exact q8)
 refine AOps.forget [(3, _), (1, _), (2, _)] ⟨rfl, rfl, rfl, trivial⟩ ?_
 refine AOps.heap (HS.box hσ rfl rfl rfl rfl rfl rfl rfl) rfl ?_
 apply AOps.norm
 ·
  repeat' (first | exact q0 rfl | apply q1 rfl | exact q2 rfl | apply q3 rfl | exact q4 rfl | apply q5 rfl | exact q6 rfl | exact q7 rfl | exact q8)
 refine AOps.step (Val.of hσ rfl rfl) rfl rfl rfl ?_
 refine AOps.nil ?_
 refine AWP.seq ?_
 refine AWP.region ?_
 refine AOps.step (Val.of hσ rfl rfl) rfl rfl rfl ?_
 refine AOps.nil ?_
 refine AWP.seq ?_
 refine AWP.region ?_
 refine AOps.step (Val.of hσ rfl rfl) rfl rfl rfl ?_
 refine AOps.step (Val.of hσ rfl rfl) rfl rfl rfl ?_
 refine AOps.lone hσ rfl rfl rfl rfl (c8 (p := p) (left := 1048576) h1 h2 (by decide) (by decide)) (VAs.self rfl) rfl rfl rfl rfl rfl (B0 := 28000) rfl ?_
 refine AOps.step (Val.of hσ rfl rfl) rfl rfl rfl ?_
 refine AOps.forget [(7, _), (6, _), (4, _), (3, _), (1, _), (2, _)] ⟨rfl, rfl, rfl, rfl, rfl, rfl, trivial⟩ ?_
 refine AOps.nil ?_
 refine AWP.seq ?_
 refine AWP.seq ?_
 refine AWP.region ?_
 refine AOps.step (Val.of hσ rfl rfl) rfl rfl rfl ?_
 refine AOps.step (Val.of hσ rfl rfl) rfl rfl rfl ?_
 refine AOps.nil ?_
 refine AWP.cond hσ rfl rfl (fun hc29 => ?_) (fun hc29 => ?_)
 ·
  skip
  exact absurd (of_decide_eq_true hc29) (Int.not_lt.2 hz1)
 ·
  skip
  refine AWP.skip ?_
  refine AWP.seq ?_
  refine AWP.region ?_
  refine AOps.step (Val.of hσ rfl rfl) rfl rfl rfl ?_
  refine AOps.step (Val.of hσ rfl rfl) rfl rfl rfl ?_
  refine AOps.forget [(31, _), (30, _), (28, _), (7, _), (6, _), (4, _), (3, _), (1, _), (2, _)] ⟨rfl, rfl, rfl, rfl, rfl, rfl, rfl, rfl, rfl, trivial⟩ ?_
  have hle := szr_le (left := 1048576) (by decide) (szP p)
  refine AOps.lone hσ rfl rfl rfl rfl (c9 (s := s) h1 h2 hz1 (by omega)) (VAs.self rfl) rfl rfl rfl rfl rfl (B0 := 33000) rfl ?_
  refine AOps.step (Val.of hσ rfl rfl) rfl rfl rfl ?_
  refine AOps.forget [(7, _), (28, _), (6, _), (4, _), (3, _), (1, _), (2, _)] ⟨rfl, rfl, rfl, rfl, rfl, rfl, rfl, trivial⟩ ?_
  refine AOps.nil ?_
  refine AWP.seq ?_
  refine AWP.seq ?_
  refine AWP.region ?_
  refine AOps.step (Val.of hσ rfl rfl) rfl rfl rfl ?_
  refine AOps.step (Val.of hσ rfl rfl) rfl rfl rfl ?_
  refine AOps.nil ?_
  refine AWP.cond hσ rfl rfl (fun hc34 => ?_) (fun hc34 => ?_)
  ·
   skip
   refine AWP.seq ?_
   refine AWP.region ?_
   refine AOps.step (Val.of hσ rfl rfl) rfl rfl rfl ?_
   refine AOps.nil ?_
   refine AWP.ret ?_
   refine ⟨.inl rfl, _, Ent.refl, _, rfl, ?_⟩
   rfl
  ·
   skip
   exact absurd (of_decide_eq_false hc34) (fun h => h hz2)

theorem cnt_szs (ts : List Tm) : cnt nT ts = szs Tm.size ts := by
  unfold cnt szs
  induction ts with
  | nil => rfl
  | cons t r ih =>
    simp only [List.map_cons, List.sum_cons, List.length_cons] at ih ⊢
    have : nT t = 1 + Tm.size t := rfl
    omega
theorem cnt_szsS (b : List Sm) : cnt nS b ≤ 5 * szs Sm.size b := by
  unfold cnt szs
  induction b with
  | nil => simp
  | cons t r ih =>
    simp only [List.map_cons, List.sum_cons, List.length_cons] at ih ⊢
    have h1 : nS t = 5 + t.sum.xs.length + t.index.xs.length + cnt nT t.facts := rfl
    have h2 : Sm.size t = t.sum.xs.length + t.index.xs.length + szs Tm.size t.facts := rfl
    have h3 := cnt_szs t.facts
    omega
theorem szr_nonneg {left : Int} {n : Nat} (h : 0 ≤ szr left n) (h0 : 0 ≤ left) : (n : Int) ≤ left := by
  unfold szr at h
  split at h <;> omega
theorem fact_ints {L S : Nat} {xs : List Int} (h : D.fact L (ints xs)) (hl : xs.length ≤ S) : D.fact S (ints xs) := by
  simp only [D.fact, List.length_map, Dss.fact_map, Ds.fact] at h ⊢
  exact ⟨hl, h.2⟩
theorem sum_mem {α : Type} (f : α → Nat) : ∀ {xs : List α} {x : α}, x ∈ xs → f x ≤ (xs.map f).sum
  | y :: r, x, h => by
    simp only [List.map_cons, List.sum_cons]
    rcases List.mem_cons.1 h with rfl | h
    · omega
    · have := sum_mem f h; omega
theorem fact_tms {L S : Nat} {ts : List Tm} (h : D.fact L (tms ts)) (hl : szs Tm.size ts ≤ S) : D.fact S (tms ts) := by
  unfold szs at hl
  simp only [D.fact, List.length_map, Dss.fact_map] at h ⊢
  refine ⟨by omega, fun t ht => ?_⟩
  have h1 := h.2 t ht
  have h2 := sum_mem Tm.size ht
  have h3 : Tm.size t = t.xs.length := rfl
  exact ⟨h1.1, fact_ints h1.2.1 (by omega), trivial⟩
theorem fact_sms {L S : Nat} {b : List Sm} (h : D.fact L (sms b)) (hl : szs Sm.size b ≤ S) : D.fact S (sms b) := by
  unfold szs at hl
  simp only [D.fact, List.length_map, Dss.fact_map] at h ⊢
  refine ⟨by omega, fun s hs => ?_⟩
  have h1 := h.2 s hs
  have h2 := sum_mem Sm.size hs
  have h3 : Sm.size s = s.sum.xs.length + s.index.xs.length + szs Tm.size s.facts := rfl
  exact ⟨h1.1, h1.2.1, h1.2.2.1, h1.2.2.2.1, fact_ints h1.2.2.2.2.1 (by omega), h1.2.2.2.2.2.1, fact_ints h1.2.2.2.2.2.2.1 (by omega), fact_tms h1.2.2.2.2.2.2.2.1 (by omega), trivial⟩
/-- The law of RunProgram holds for all arguments. -/
theorem law3 {L : Nat} (h1 : 4096 ≤ L) (h2 : L ≤ 9223372036854775807) {p : Pm} {s : Sx} {f : Int} : MC Try.prog L 3 [aPm p, aSx s, eI f] [] (Plain (eB true)) := by
  by_cases hz1 : szr 1048576 (szP p) < 0
  · exact c3a h1 h2 hz1
  by_cases hz2 : szr (szr 1048576 (szP p)) (szX s) < 0
  · exact c3b h1 h2 (by omega) hz2
  have hz1' : 0 ≤ szr 1048576 (szP p) := by omega
  have hz2' : 0 ≤ szr (szr 1048576 (szP p)) (szX s) := by omega
  have g1 := szr_nonneg hz1' (by decide)
  have g2 := szr_nonneg hz2' hz1'
  have g3 := szr_le (left := 1048576) (by decide) (szP p)
  have k1 := cnt_szs p.pre
  have k2 := cnt_szsS p.body
  have k3 := cnt_szs p.post
  have hcp : 1 + cnt nT p.pre + cnt nS p.body + cnt nT p.post ≤ (1073741824 : Int) := by have e1 : szP p = szs Tm.size p.pre + szs Sm.size p.body + szs Tm.size p.post := rfl; omega
  have hcs : 1 + cnt nT p.pre + cnt nS p.body + cnt nT p.post + s.vars.length + s.cells.length ≤ (1073741824 : Int) := by have e1 : szP p = szs Tm.size p.pre + szs Sm.size p.body + szs Tm.size p.post := rfl; have e2 : szX s = s.vars.length + s.cells.length := rfl; omega
  refine MC.facts ⟨_, _, Try.func3, by kernel_rfl, rfl⟩ fun hF => ?_
  refine MC.lift (L0 := 1073741824) rfl ?_ ?_
  · have hp := hF.1
    have hs := hF.2.1
    have e1 : szP p = szs Tm.size p.pre + szs Sm.size p.body + szs Tm.size p.post := rfl
    have e2 : szX s = s.vars.length + s.cells.length := rfl
    exact ⟨⟨fact_tms hp.1 (by omega), fact_sms hp.2.1 (by omega), fact_tms hp.2.2.1 (by omega), trivial⟩, ⟨fact_ints hs.1 (by omega), fact_ints hs.2.1 (by omega), trivial⟩, hF.2.2.1, trivial⟩
  · cases hv : validB p s f with
    | true =>
      have hv' := hv
      unfold validB at hv'
      simp only [Bool.and_eq_true] at hv'
      have hsp : specB p s f = true := by rw [← valid_eq]; exact hv
      unfold specB at hsp
      simp only [Bool.and_eq_true] at hsp
      obtain ⟨n, hn⟩ := runs_same hv'.1 hv'.2.1 hv'.2.2
      have htb : tOB p.body = true := by have := hv'.1; unfold validP at this; simp only [Bool.and_eq_true] at this; exact this.1
      have hR := (run1_le (treeO_spec htb).1 (r0_ok hv'.2.1 hv'.2.2)).ok
      have c1 := c10v (L := 1073741824) (by decide) (Nat.le_refl _) hsp.1 hsp.2.1 hsp.2.2 hn
      have c2 := c13v (L := 1073741824) (by decide) (Nat.le_refl _) hv'.1 hv'.2.1 hv'.2.2
      generalize (run1 (treeO p.body) (r0 s f)).2 = R at hR c1 c2
      have e4 := hR.nv
      have e8 := hR.nc
      have e1 := hR.events
      have e2 := hR.hi
      have e3 := hR.fuel
      refine c3v (by decide) (Nat.le_refl _) (R := R) (by omega) (by omega) ?_ ?_ hz1' hz2' hcp hcs
      · rw [e4, e8]; exact c1
      · rw [e4, e8]; exact c2
    | false =>
      exact c3n (by decide) (Nat.le_refl _) (c10n (by decide) (Nat.le_refl _) (by rw [← valid_eq]; exact hv)) (c13n (by decide) (Nat.le_refl _) hv) hz1' hz2' hcp hcs

end Go.Al
