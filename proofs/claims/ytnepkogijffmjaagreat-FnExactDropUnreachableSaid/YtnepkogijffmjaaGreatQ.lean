/- What is reached, and what dropping comes to; the reference's search. -/
import Derived.Test.YtnepkogijffmjaaGreatP
namespace Go.Al
open Go.Proofs
set_option linter.unusedVariables false
set_option linter.unusedSimpArgs false
set_option maxRecDepth 10000
/-- A number put to its place among rising ones. -/
abbrev putStep (k : Int) (s : Bool × List Int) (x : Int) : Bool × List Int := if s.1 = false ∧ k ≤ x then (true, (if k < x then s.2 ++ [k] else s.2) ++ [x]) else (s.1, s.2 ++ [x])
def putF (k : Int) (xs : List Int) : Bool × List Int := xs.foldl (putStep k) (false, [])
def putL (k : Int) (xs : List Int) : List Int := if (putF k xs).1 = true then (putF k xs).2 else (putF k xs).2 ++ [k]
theorem putF_snoc {k x : Int} {xs : List Int} : putF k (xs ++ [x]) = putStep k (putF k xs) x := by simp [putF, List.foldl_append]
theorem putF_succ {k : Int} {xs : List Int} {i : Nat} (h : i < xs.length) : putF k (xs.take (i + 1)) = putStep k (putF k (xs.take i)) (xs.getD i default) := by
  rw [List.take_succ_eq_append_getElem h, putF_snoc, getD_lt h]
theorem putF_len {k : Int} (xs : List Int) : (putF k xs).2.length ≤ xs.length + 1 ∧ ((putF k xs).1 = false → (putF k xs).2.length = xs.length) := by
  have key : ∀ (ys : List Int) (s : Bool × List Int) (m : Nat), s.2.length ≤ m + 1 → (s.1 = false → s.2.length = m) →
      (ys.foldl (putStep k) s).2.length ≤ m + ys.length + 1 ∧ ((ys.foldl (putStep k) s).1 = false → (ys.foldl (putStep k) s).2.length = m + ys.length) := by
    intro ys
    induction ys with
    | nil => intro s m h1 h2; exact ⟨by simpa using h1, by simpa using h2⟩
    | cons y ys ih =>
      intro s m h1 h2
      rw [List.foldl_cons, List.length_cons]
      have := ih (putStep k s y) (m + 1) ?_ ?_
      · exact ⟨by omega, fun h => by have := this.2 h; omega⟩
      · unfold putStep
        split
        · rename_i h
          have := h2 h.1
          split <;> simp <;> omega
        · simp; omega
      · unfold putStep
        split
        · intro h; cases h
        · intro h
          have := h2 h
          simp; omega
  have := key xs (false, []) 0 (by simp) (by simp)
  simpa [putF] using this
/-! What can be reached. -/
/-- The places behind an instruction. -/
def tg (x : In) (k : Int) : List Int :=
  if x.op = 11 then [] else if x.op = 5 then [x.a] else if x.op = 6 then (if x.a < k + 1 then [x.a, k + 1] else if x.a = k + 1 then [k + 1] else [k + 1, x.a]) else [k + 1]
theorem tg_len {x : In} {k : Int} : (tg x k).length ≤ 2 := by
  unfold tg; split
  · simp
  · split
    · simp
    · split
      · split
        · simp
        · split <;> simp
      · simp
theorem putL_one {k y : Int} : putL k [y] = if k < y then [k, y] else if k = y then [y] else [y, k] := by
  rcases Int.lt_trichotomy k y with h | h | h
  · simp [putL, putF, putStep, h, Int.le_of_lt h]
  · subst h; simp [putL, putF, putStep]
  · simp [putL, putF, putStep, Int.not_le.2 h, Int.not_lt.2 (Int.le_of_lt h), Int.ne_of_gt h]
inductive Rch (c : List In) (st : List Int) : Nat → Prop
  | start {z : Int} : z ∈ st → 0 ≤ z → z < c.length → Rch c st z.toNat
  | step {k : Nat} {z : Int} : Rch c st k → z ∈ tg (c.getD k default) k → 0 ≤ z → z < c.length → Rch c st z.toNat
open Classical in
noncomputable def reachB (c : List In) (st : List Int) : List Bool := (List.range c.length).map fun k => decide (Rch c st k)
theorem reachB_len {c : List In} {st : List Int} : (reachB c st).length = c.length := by simp [reachB]
theorem reachB_get {c : List In} {st : List Int} {k : Nat} (h : k < c.length) : (reachB c st).getD k default = true ↔ Rch c st k := by
  rw [getD_lt (by rw [reachB_len]; exact h)]
  simp [reachB]
/-- A state of the search. -/
structure Rs (c : List In) (st : List Int) (u : List Bool) (ws : List Int) : Prop where
  len : u.length = c.length
  nn : ∀ z ∈ ws, 0 ≤ z ∧ z ≤ 100
  sd : ∀ k, k < c.length → u.getD k default = true → Rch c st k
  sw : ∀ z ∈ ws, z < c.length → Rch c st z.toNat
  cl : ∀ k, k < c.length → u.getD k default = true → ∀ z ∈ tg (c.getD k default) k, 0 ≤ z → z < c.length → u.getD z.toNat default = true ∨ z ∈ ws
  cs : ∀ z ∈ st, 0 ≤ z → z < c.length → u.getD z.toNat default = true ∨ z ∈ ws
def cntF (u : List Bool) : Nat := u.count false
theorem Rs.zero {c : List In} {st : List Int} (h : ∀ z ∈ st, 0 ≤ z ∧ z ≤ 100) : Rs c st (List.replicate c.length false) st := by
  have hg : ∀ k, (List.replicate c.length false).getD k default = false := fun k => by
    rw [List.getD_eq_getElem?_getD, List.getElem?_replicate]; split <;> rfl
  refine ⟨List.length_replicate, h, fun k _ hk => (by rw [hg] at hk; cases hk), fun z hz hl => .start hz (h z hz).1 hl, fun k _ hk => (by rw [hg] at hk; cases hk), fun z hz _ _ => .inr hz⟩
theorem Rs.out {c : List In} {st : List Int} {u : List Bool} {ws ws' : List Int} {z : Int} (h : Rs c st u ws) (hm : ∀ y, y ∈ ws ↔ y = z ∨ y ∈ ws') (hz : z < c.length → u.getD z.toNat default = true) : Rs c st u ws' := by
  refine ⟨h.len, fun y hy => h.nn y ((hm y).2 (.inr hy)), h.sd, fun y hy => h.sw y ((hm y).2 (.inr hy)), fun k hk hu y hy h0 hl => ?_, fun y hy h0 hl => ?_⟩
  · rcases h.cl k hk hu y hy h0 hl with g | g
    · exact .inl g
    · rcases (hm y).1 g with rfl | g
      · exact .inl (hz hl)
      · exact .inr g
  · rcases h.cs y hy h0 hl with g | g
    · exact .inl g
    · rcases (hm y).1 g with rfl | g
      · exact .inl (hz hl)
      · exact .inr g
theorem setT_get {u : List Bool} {j k : Nat} (hj : j < u.length) : (u.set j true).getD k default = true ↔ (k = j ∨ u.getD k default = true) := by
  rw [List.getD_eq_getElem?_getD, List.getD_eq_getElem?_getD, List.getElem?_set]
  by_cases h : j = k
  · subst h; simp [hj]
  · rw [if_neg h]
    constructor
    · intro g; exact .inr g
    · rintro (rfl | g)
      · exact absurd rfl h
      · exact g
/-- What is valid of instructions that the search needs. -/
def TgOk (c : List In) : Prop := c.length ≤ 80 ∧ ∀ x ∈ c, jmpB x = true → 0 ≤ x.a ∧ x.a ≤ 79
theorem tg_in {c : List In} (hc : TgOk c) {k : Nat} (hk : k < c.length) : ∀ z ∈ tg (c.getD k default) k, 0 ≤ z ∧ z ≤ 100 := by
  have hx := hc.2 (c.getD k default) (by rw [getD_lt hk]; exact List.getElem_mem hk)
  have h80 := hc.1
  intro z hz
  unfold tg at hz
  split at hz
  · cases hz
  · split at hz
    · rename_i h5
      have := hx (by unfold jmpB; rw [h5]; rfl)
      simp only [List.mem_singleton] at hz; omega
    · split at hz
      · rename_i h6
        have := hx (by unfold jmpB; rw [h6]; rfl)
        split at hz
        · simp only [List.mem_cons, List.not_mem_nil, or_false] at hz; omega
        · split at hz
          · simp only [List.mem_singleton] at hz; omega
          · simp only [List.mem_cons, List.not_mem_nil, or_false] at hz; omega
      · simp only [List.mem_singleton] at hz; omega
theorem Rs.into {c : List In} {st : List Int} {u : List Bool} {ws ws' : List Int} {z : Int} (hc : TgOk c) (h : Rs c st u ws) (hm : ∀ y, y ∈ ws ↔ y = z ∨ y ∈ ws') (h0 : 0 ≤ z) (hz : z < c.length) : Rs c st (u.set z.toNat true) (ws' ++ tg (c.getD z.toNat default) z) := by
  have hzn : z.toNat < c.length := by omega
  have hzu : z.toNat < u.length := by rw [h.len]; exact hzn
  have hze : ((z.toNat : Nat) : Int) = z := by omega
  have hr : Rch c st z.toNat := h.sw z ((hm z).2 (.inl rfl)) hz
  have ht := tg_in hc hzn
  rw [hze] at ht
  refine ⟨by rw [List.length_set]; exact h.len, fun y hy => ?_, fun k hk hu => ?_, fun y hy hl => ?_, fun k hk hu y hy g0 hl => ?_, fun y hy g0 hl => ?_⟩
  · rcases List.mem_append.1 hy with hy | hy
    · exact h.nn y ((hm y).2 (.inr hy))
    · exact ht y hy
  · rcases (setT_get hzu).1 hu with rfl | g
    · exact hr
    · exact h.sd k hk g
  · rcases List.mem_append.1 hy with hy | hy
    · exact h.sw y ((hm y).2 (.inr hy)) hl
    · exact .step hr (by rw [hze]; exact hy) (ht y hy).1 hl
  · rcases (setT_get hzu).1 hu with rfl | g
    · rw [hze] at hy
      exact .inr (List.mem_append_right _ hy)
    · rcases h.cl k hk g y hy g0 hl with g1 | g1
      · exact .inl ((setT_get hzu).2 (.inr g1))
      · rcases (hm y).1 g1 with rfl | g1
        · exact .inl ((setT_get hzu).2 (.inl rfl))
        · exact .inr (List.mem_append_left _ g1)
  · rcases h.cs y hy g0 hl with g1 | g1
    · exact .inl ((setT_get hzu).2 (.inr g1))
    · rcases (hm y).1 g1 with rfl | g1
      · exact .inl ((setT_get hzu).2 (.inl rfl))
      · exact .inr (List.mem_append_left _ g1)
theorem Rs.done {c : List In} {st : List Int} {u : List Bool} (h : Rs c st u []) : u = reachB c st := by
  have key : ∀ k, Rch c st k → u.getD k default = true := by
    intro k hk
    induction hk with
    | start hz h0 hl => exact (h.cs _ hz h0 hl).resolve_right (by simp)
    | step hk hz h0 hl ih =>
      rename_i k z
      have hkl : k < c.length := by
        rcases Nat.lt_or_ge k c.length with g | g
        · exact g
        · rw [List.getD_eq_getElem?_getD, List.getElem?_eq_none (by rw [h.len]; exact g)] at ih; cases ih
      exact (h.cl k hkl ih z hz h0 hl).resolve_right (by simp)
  refine List.ext_getElem (by rw [h.len, reachB_len]) fun k h1 h2 => ?_
  rw [h.len] at h1
  have e1 := reachB_get (st := st) h1
  have e2 := h.sd k h1
  have e3 := key k
  rw [getD_lt (by rw [reachB_len]; exact h1)] at e1
  rw [getD_lt (by rw [h.len]; exact h1)] at e2 e3
  cases g : u[k] with
  | true => exact (e1.2 (e2 g)).symm
  | false =>
    cases g2 : (reachB c st)[k] with
    | false => rfl
    | true => have := e3 (e1.1 g2); rw [g] at this; cases this
theorem cntF_set {u : List Bool} {j : Nat} (hj : j < u.length) (h : u.getD j default = false) : cntF (u.set j true) + 1 = cntF u := by
  unfold cntF
  rw [getD_lt hj] at h
  have hp : 0 < u.count false := List.count_pos_iff.2 (h ▸ List.getElem_mem hj)
  rw [List.count_set hj]
  simp [h]
  omega
theorem cntF_zero {n : Nat} : cntF (List.replicate n false) = n := by simp [cntF]
end Go.Al
namespace Go.Al
open Go.Proofs
set_option linter.unusedVariables false
set_option linter.unusedSimpArgs false
set_option maxRecDepth 10000
/-! Instructions are dropped from the last one on. -/
def dK (d : List Bool) (j : Nat) : List Bool := List.replicate j false ++ d.drop j
theorem cnt_dK {d : List Bool} {j z : Nat} : cntT (dK d j) z = ((d.drop j).take (z - j)).count true := by
  unfold cntT dK
  rw [List.take_append, List.count_append, List.length_replicate, List.take_replicate, List.count_replicate]
  simp
theorem cnt_dK_le {d : List Bool} {j z : Nat} : cntT (dK d j) z ≤ z - j := by
  rw [cnt_dK]
  exact Nat.le_trans List.count_le_length (by rw [List.length_take]; omega)
theorem cnt_dK_T {d : List Bool} {j z : Nat} (hj : j < d.length) (h : d.getD j default = true) (hz : j < z) : cntT (dK d j) z = cntT (dK d (j + 1)) z + 1 := by
  rw [getD_lt hj] at h
  rw [cnt_dK, cnt_dK, List.drop_eq_getElem_cons hj, h, show z - j = (z - (j + 1)) + 1 by omega, List.take_succ_cons, List.count_cons]
  simp
theorem dK_F {d : List Bool} {j : Nat} (hj : j < d.length) (h : d.getD j default = false) : dK d j = dK d (j + 1) := by
  rw [getD_lt hj] at h
  unfold dK
  rw [List.drop_eq_getElem_cons hj, h, List.replicate_succ', List.append_assoc]
  rfl
theorem keep_dK {d : List Bool} {c : List In} {j : Nat} (hj : j ≤ d.length) (hd : d.length = c.length) : keepL (dK d j) c = c.take j ++ keepL (d.drop j) (c.drop j) := by
  unfold dK
  conv => lhs; rw [← List.take_append_drop j c]
  rw [keepL_append (by rw [List.length_replicate, List.length_take]; omega), keepL_false (by rw [List.length_take]; omega)]
theorem keep_dK_T {d : List Bool} {c : List In} {j : Nat} (hj : j < d.length) (hd : d.length = c.length) (h : d.getD j default = true) : keepL (dK d j) c = c.take j ++ keepL (d.drop (j + 1)) (c.drop (j + 1)) := by
  rw [getD_lt hj] at h
  rw [keep_dK (Nat.le_of_lt hj) hd, List.drop_eq_getElem_cons hj, List.drop_eq_getElem_cons (by omega : j < c.length), h, keepL, if_pos rfl]
theorem keep_mem : ∀ {d : List Bool} {c : List In} {x : In}, x ∈ keepL d c → x ∈ c
  | [], _, _, h => by simp [keepL] at h
  | _ :: _, [], _, h => by simp [keepL] at h
  | b :: d, y :: c, x, h => by
    rw [keepL] at h
    split at h
    · exact List.mem_cons_of_mem _ (keep_mem h)
    · rcases List.mem_cons.1 h with rfl | h
      · simp
      · exact List.mem_cons_of_mem _ (keep_mem h)
/-- What dropping needs. -/
structure DpOk (a : An) : Prop where
  c80 : a.code.length ≤ 80
  jmp : ∀ x ∈ a.code, -1000000 ≤ x.a ∧ x.a ≤ 1000000 ∧ (jmpB x = true → 0 ≤ x.a)
  pts : ∀ p ∈ a.pts, 0 ≤ p.k ∧ p.k ≤ 79
theorem lessI_op {d : List Bool} {x : In} : (lessI d x).op = x.op := by unfold lessI; split <;> rfl
theorem jmp_lessI {d : List Bool} {x : In} : jmpB (lessI d x) = jmpB x := by unfold jmpB; rw [lessI_op]
theorem sMap_less {d : List Bool} {j : Nat} {x : In} (hj : j < d.length) (h : d.getD j default = true) (hx : jmpB x = true → 0 ≤ x.a) : sMap j 1 (lessI (dK d (j + 1)) x) = lessI (dK d j) x := by
  unfold sMap
  rw [jmp_lessI]
  cases hb : jmpB x with
  | false =>
    rw [if_neg (fun g => by cases g.1)]
    unfold lessI; rw [hb]; rfl
  | true =>
    have h0 := hx hb
    have e1 := cnt_dK_le (d := d) (j := j + 1) (z := x.a.toNat)
    have e0 := cnt_dK_le (d := d) (j := j) (z := x.a.toNat)
    have g1 : lessI (dK d (j + 1)) x = ⟨x.op, x.a - cntT (dK d (j + 1)) x.a.toNat⟩ := if_pos hb
    have g0 : lessI (dK d j) x = ⟨x.op, x.a - cntT (dK d j) x.a.toNat⟩ := if_pos hb
    rw [g1, g0]
    by_cases hz : (j : Int) < x.a
    · have e2 := cnt_dK_T hj h (z := x.a.toNat) (by omega)
      rw [if_pos ⟨rfl, by show (j : Int) < x.a - _; omega⟩]
      show In.mk x.op (x.a - _ - 1) = _
      congr 1; omega
    · rw [if_neg (fun g => by have : (j : Int) < x.a - cntT (dK d (j + 1)) x.a.toNat := g.2; omega)]
      congr 1; omega
theorem sPt_less {d : List Bool} {j : Nat} {p : Pt} (hj : j < d.length) (h : d.getD j default = true) (hp : 0 ≤ p.k) : sPt j 1 (lessP (dK d (j + 1)) p) = lessP (dK d j) p := by
  have e1 := cnt_dK_le (d := d) (j := j + 1) (z := p.k.toNat)
  have e0 := cnt_dK_le (d := d) (j := j) (z := p.k.toNat)
  unfold sPt lessP
  by_cases hz : (j : Int) < p.k
  · have e2 := cnt_dK_T hj h (z := p.k.toNat) (by omega)
    rw [if_pos (by show (j : Int) < p.k - _; omega)]
    show Pt.mk (p.k - _ - 1) p.fs = _
    congr 1; omega
  · rw [if_neg (by show ¬ (j : Int) < p.k - _; omega)]
    congr 1; omega
theorem drop_step {a : An} {d : List Bool} {j : Nat} (hw : DpOk a) (hd : d.length = a.code.length) (hj : j < d.length) (h : d.getD j default = true) : splR (withoutR (dK d (j + 1)) a) j 1 [] = withoutR (dK d j) a := by
  unfold splR withoutR
  have hk : keepL (dK d (j + 1)) a.code = a.code.take (j + 1) ++ keepL (d.drop (j + 1)) (a.code.drop (j + 1)) := keep_dK hj hd
  have hk0 := keep_dK_T hj hd h
  have ht : (a.code.take (j + 1)).length = j + 1 := by rw [List.length_take]; omega
  have e1 : (((keepL (dK d (j + 1)) a.code).map (lessI (dK d (j + 1)))).take j ++ [] ++ ((keepL (dK d (j + 1)) a.code).map (lessI (dK d (j + 1)))).drop (j + 1)) = (keepL (dK d j) a.code).map (lessI (dK d (j + 1))) := by
    rw [hk, hk0, List.append_nil, ← List.map_take, ← List.map_drop, ← List.map_append]
    congr 1
    rw [List.take_append_of_le_length (by omega), List.take_take, Nat.min_eq_left (Nat.le_succ j), List.drop_append, List.drop_of_length_le (by omega), ht, Nat.sub_self]
    rfl
  have hn : ((1 : Nat) : Int) - (([] : List In).length : Nat) = 1 := rfl
  congr 1
  · show List.map (sMap j (((1 : Nat) : Int) - (([] : List In).length : Nat))) (((keepL (dK d (j + 1)) a.code).map (lessI (dK d (j + 1)))).take j ++ [] ++ ((keepL (dK d (j + 1)) a.code).map (lessI (dK d (j + 1)))).drop (j + 1)) = _
    rw [hn, e1, List.map_map]
    refine List.map_congr_left fun x hx => ?_
    have hin : x ∈ a.code := by
      rw [hk0] at hx
      rcases List.mem_append.1 hx with hx | hx
      · exact List.mem_of_mem_take hx
      · exact List.mem_of_mem_drop (keep_mem hx)
    exact sMap_less hj h (hw.jmp x hin).2.2
  · show List.map (sPt j (((1 : Nat) : Int) - (([] : List In).length : Nat))) (a.pts.map (lessP (dK d (j + 1)))) = _
    rw [hn, List.map_map]
    exact List.map_congr_left fun p hp => sPt_less hj h (hw.pts p hp).1
theorem drop_all {a : An} {d : List Bool} (hd : d.length = a.code.length) : withoutR (dK d d.length) a = a := by
  have hz : ∀ z, cntT (dK d d.length) z = 0 := fun z => by rw [cnt_dK, List.drop_length]; simp
  have hI : ∀ x, lessI (dK d d.length) x = x := fun x => by
    unfold lessI; split
    · rw [hz]; simp
    · rfl
  have hP : ∀ p, lessP (dK d d.length) p = p := fun p => by unfold lessP; rw [hz]; simp
  unfold withoutR
  rw [keep_dK (Nat.le_refl _) hd, List.drop_length]
  rw [hd, List.take_length, List.drop_length]
  rw [show List.map (lessI (dK d a.code.length)) (a.code ++ keepL [] []) = a.code by
    rw [show keepL [] [] = [] from rfl, List.append_nil]
    conv => rhs; rw [← List.map_id a.code]
    exact List.map_congr_left fun x _ => hd ▸ hI x]
  rw [show List.map (lessP (dK d a.code.length)) a.pts = a.pts by
    conv => rhs; rw [← List.map_id a.pts]
    exact List.map_congr_left fun p _ => hd ▸ hP p]
/-- What holds of the code between two steps. -/
theorem drop_in {a : An} {d : List Bool} {j : Nat} (hw : DpOk a) (hd : d.length = a.code.length) (hj : j < d.length) :
    j + 1 ≤ (withoutR (dK d (j + 1)) a).code.length ∧ (withoutR (dK d (j + 1)) a).code.length ≤ 80 ∧ (∀ x ∈ newC (withoutR (dK d (j + 1)) a) j 1 [], -1000000 ≤ x.a ∧ x.a ≤ 1000000) ∧ ∀ p ∈ (withoutR (dK d (j + 1)) a).pts, 0 ≤ p.k ∧ p.k ≤ 79 := by
  have hk : keepL (dK d (j + 1)) a.code = a.code.take (j + 1) ++ keepL (d.drop (j + 1)) (a.code.drop (j + 1)) := keep_dK hj hd
  have hl := keepL_len (d := dK d (j + 1)) (c := a.code)
  have h80 := hw.c80
  refine ⟨?_, ?_, fun x hx => ?_, fun p hp => ?_⟩
  · show j + 1 ≤ ((keepL (dK d (j + 1)) a.code).map (lessI (dK d (j + 1)))).length
    rw [List.length_map, hk, List.length_append, List.length_take]; omega
  · show ((keepL (dK d (j + 1)) a.code).map (lessI (dK d (j + 1)))).length ≤ 80
    rw [List.length_map]; omega
  · simp only [newC, List.append_nil, List.mem_append] at hx
    have hx' : x ∈ (keepL (dK d (j + 1)) a.code).map (lessI (dK d (j + 1))) := by
      rcases hx with hx | hx
      · exact List.mem_of_mem_take hx
      · exact List.mem_of_mem_drop hx
    obtain ⟨y, hy, rfl⟩ := List.mem_map.1 hx'
    have hin := hw.jmp y (keep_mem hy)
    unfold lessI
    split
    · rename_i hb
      have h0 := hin.2.2 hb
      have e1 := cnt_dK_le (d := d) (j := j + 1) (z := y.a.toNat)
      show -1000000 ≤ y.a - _ ∧ y.a - _ ≤ 1000000
      omega
    · exact ⟨hin.1, hin.2.1⟩
  · obtain ⟨q, hq, rfl⟩ := List.mem_map.1 hp
    have hq' := hw.pts q hq
    have e1 := cnt_dK_le (d := d) (j := j + 1) (z := q.k.toNat)
    show 0 ≤ q.k - _ ∧ q.k - _ ≤ 79
    omega
theorem AOk.dp {a : An} (h : AOk a) : DpOk a := by
  refine ⟨h.len, fun x hx => ?_, h.pts⟩
  have hx := h.code x hx
  have h1 := instr_a hx
  refine ⟨h1.1, h1.2, fun hj => ?_⟩
  simp only [jmpB, Bool.or_eq_true, decide_eq_true_eq] at hj
  unfold instrB at hx
  rw [if_neg (by omega), if_neg (by omega), if_pos hj] at hx
  simp only [inB, Bool.and_eq_true, decide_eq_true_eq] at hx; omega
theorem AOk.tg {a : An} (h : AOk a) : TgOk a.code := by
  refine ⟨h.len, fun x hx hj => ?_⟩
  have hx := h.code x hx
  simp only [jmpB, Bool.or_eq_true, decide_eq_true_eq] at hj
  unfold instrB at hx
  rw [if_neg (by omega), if_neg (by omega), if_pos hj] at hx
  simp only [inB, Bool.and_eq_true, decide_eq_true_eq] at hx; omega
end Go.Al
namespace Go.Al
open Go.Proofs
set_option linter.unusedVariables false
set_option linter.unusedSimpArgs false
set_option maxRecDepth 10000
set_option maxHeartbeats 4000000
theorem put_T {k : Int} {xs : List Int} {x : Nat × Bool × List Int} (h : x.1 < xs.length) (he : x.2 = putF k (xs.take x.1)) (h1 : x.2.1 = false) (h2 : k ≤ xs.getD x.1 default) (h3 : k < xs.getD x.1 default) : (true, x.2.2 ++ [k] ++ [xs.getD x.1 default]) = putF k (xs.take (x.1 + 1)) := by
  rw [putF_succ h, ← he]; show _ = if _ then _ else _; rw [if_pos ⟨h1, h2⟩, if_pos h3]
theorem put_M {k : Int} {xs : List Int} {x : Nat × Bool × List Int} (h : x.1 < xs.length) (he : x.2 = putF k (xs.take x.1)) (h1 : x.2.1 = false) (h2 : k ≤ xs.getD x.1 default) (h3 : ¬ k < xs.getD x.1 default) : (true, x.2.2 ++ [xs.getD x.1 default]) = putF k (xs.take (x.1 + 1)) := by
  rw [putF_succ h, ← he]; show _ = if _ then _ else _; rw [if_pos ⟨h1, h2⟩, if_neg h3]
theorem put_F {k : Int} {xs : List Int} {x : Nat × Bool × List Int} (h : x.1 < xs.length) (he : x.2 = putF k (xs.take x.1)) (h1 : ¬ (x.2.1 = false ∧ k ≤ xs.getD x.1 default)) : (x.2.1, x.2.2 ++ [xs.getD x.1 default]) = putF k (xs.take (x.1 + 1)) := by
  rw [putF_succ h, ← he]; show _ = if _ then _ else _; rw [if_neg h1]
theorem put_end1 {k : Int} {xs : List Int} {x : Nat × Bool × List Int} (h : ¬ x.1 < xs.length) (he : x.2 = putF k (xs.take x.1)) (h1 : x.2.1 = false) : putL k xs = x.2.2 ++ [k] := by
  rw [List.take_of_length_le (by omega)] at he
  unfold putL; rw [← he, if_neg (by rw [h1]; decide)]
theorem put_end2 {k : Int} {xs : List Int} {x : Nat × Bool × List Int} (h : ¬ x.1 < xs.length) (he : x.2 = putF k (xs.take x.1)) (h1 : x.2.1 = true) : putL k xs = x.2.2 := by
  rw [List.take_of_length_le (by omega)] at he
  unfold putL; rw [← he, if_pos h1]
theorem putc_T {a : Bool} {k x : Int} (h : (bif !a then decide (k ≤ x) else false) = true) : a = false ∧ k ≤ x := by cases a <;> simp_all
theorem putc_F {a : Bool} {k x : Int} (h : (bif !a then decide (k ≤ x) else false) = false) : ¬ (a = false ∧ k ≤ x) := by cases a <;> simp_all
theorem gj' {α β : Type} [Inhabited α] {l : List α} {f : α → β} {n j : Nat} (h : n < l.length) (hj : j = n) : (l.map f)[j]? = some (f (l.getD n default)) := by subst hj; simp [h]
theorem sj' {α β : Type} {l : List α} {f : α → β} {n j : Nat} {v : α} {ds : β} (hj : j = n) (hd : ds = f v) : (l.map f).set j ds = (l.set n v).map f := by subst hj; subst hd; rw [List.map_set]
theorem Val.sliceTail {σ : Sg} {o : Oper} {s : St} (hσ : SgOk σ) {t l off m sz : Nat} {x lo : Operand} {k : IntKind} {own : Bool} {xs : List (List D)} {i ti : TI} (ho : o.op = .slice t x (some lo) none none) (hs : Al.Oper.shorts o = true) (hx : ev s x = some (.c (.rs l off (m + 1)))) (hh : ev s lo = some (.c (.d (.int k 1)))) (hl : lk s.H l = some (.row own sz xs))
    (hi' : lk σ.tt t = some i) (hk : Nat.beq i.kind 1 = true) (ht : lk σ.tt i.elem = some ti) (hz : Nat.beq sz ti.size = true) : Val σ s o (.c (.rs l (off + 1) m)) := by
  refine Val.of hσ ?_ hs
  simp [aval, ho, opt, hx, hh, aSlice, hi', hk, ht, hz, nat?, hl]
theorem ints_scal {xs : List Int} : Scal (xs.map fun n => [D.int .i64 n]) := Scal.map fun _ => rfl
theorem ints_size {xs : List Int} : ∀ x ∈ xs.map (fun n => [D.int .i64 n]), x.length = 1 := by simp
theorem c1039r {L : Nat} (h1 : 4096 ≤ L) (h2 : L ≤ 1073741824) {xs : List Int} {k : Int} (hl : xs.length ≤ 1000) : MC Tryz.prog L 117 [aints xs, eI k] [] (Rows (.c (.rs 0 0 (putL k xs).length)) [nrow (putL k xs)]) := by
 refine MC.rows ?_
 have hσ := SGok (nt := 49) h1 (Nat.le_trans h2 (by decide))
 refine MC.body hσ Tryz.func117 (by kernel_rfl) rfl rfl (Nat.le_of_ble_eq_true rfl) (fun hF => ?_)
 refine jsr ?_
 refine jst hσ rfl rfl rfl rfl rfl ?_
 refine jns ?_
 refine AOps.heap (HS.lit hσ rfl rfl rfl) rfl ?_
 refine jnm ?_
 refine jst hσ rfl rfl rfl rfl rfl ?_
 refine jns ?_
 refine jst hσ rfl rfl rfl rfl rfl ?_
 refine jn ?_
 refine AWP.seq ?_
 refine jsr ?_
 refine jst hσ rfl rfl rfl rfl rfl ?_
 refine jn ?_
 refine AWP.block ?_
 refine AWP.loopP (X := Nat × Bool × List Int) (fun x => ⟨[(0, aints xs), (1, eI k), (5, .c (.rs 900 0 x.2.2.length)), (6, eB x.2.1), (7, eI x.1)], [(900, nrow x.2.2)]⟩) (fun x => x.1 ≤ xs.length ∧ x.2 = putF k (xs.take x.1)) (fun x => xs.length - x.1) (0, false, []) ((Ent.sub2 8 900 rfl rfl).trans (Ent.to ⟨rfl, rfl, rfl, rfl, rfl, trivial⟩ rfl)) ?_ (fun x hi => ?_)
 ·
  exact ⟨Nat.zero_le _, rfl⟩
 refine AWP.seq ?_
 refine jsr ?_
 iterate 2 refine jst hσ rfl rfl rfl rfl rfl ?_
 first | refine jle hσ rfl rfl rfl rfl rfl rfl rfl rfl rfl rfl rfl ?_ | refine jst hσ rfl rfl rfl rfl rfl ?_ | refine jvf hσ rfl rfl rfl rfl rfl ?_
 refine jst hσ rfl rfl rfl rfl rfl ?_
 refine jf [12, 0, 1, 5, 6, 7] rfl ?_
 refine jn ?_
 refine AWP.cond hσ rfl rfl (fun hc12 => ?_) (fun hc12 => ?_)
 ·
  skip
  refine AWP.skip ?_
  refine AWP.seq ?_
  refine AWP.block ?_
  refine AWP.seq ?_
  refine jsr ?_
  have hxl : x.1 < xs.length := by have := of_decide_eq_true hc12; omega
  have hle : x.2.2.length ≤ 1002 := by have := (putF_len (k := k) (xs.take x.1)).1; rw [← hi.2, List.length_take] at this; omega
  iterate 3 refine jst hσ rfl rfl rfl rfl rfl ?_
  refine jf [17, 12, 0, 1, 5, 6, 7] rfl ?_
  refine AOps.gr 6 rfl rfl rfl (fun hx => AN.step hx rfl rfl rfl (Val.of hσ rfl rfl) rfl rfl ( AN.step hx rfl rfl rfl (Val.of hσ rfl rfl) rfl rfl ( AN.step hx rfl rfl rfl (Val.indexN hσ rfl rfl rfl rfl rfl rfl rfl rfl (idxN (by first | omega | (simp at *; omega)))) rfl rfl ( AN.step hx rfl rfl rfl (Val.of hσ rfl rfl) rfl rfl ( AN.step hx rfl rfl rfl (Val.of hσ rfl rfl) rfl rfl ( AN.step hx rfl rfl rfl (Val.of hσ rfl rfl) rfl rfl ( AN.nil))))))) rfl rfl ?_
  first | refine AOps.step (Val.pickT hσ rfl rfl rfl rfl rfl) rfl rfl rfl ?_ | refine AOps.step (Val.pickF hσ rfl rfl rfl rfl rfl) rfl rfl rfl ?_ | refine AOps.step (Val.pickB hσ rfl rfl rfl rfl rfl) rfl rfl rfl ?_
  refine jf [24, 12, 0, 1, 5, 6, 7] rfl ?_
  refine jn ?_
  refine AWP.cond hσ rfl rfl (fun hc24 => ?_) (fun hc24 => ?_)
  ·
   skip
   refine jsr ?_
   refine jst hσ rfl rfl rfl rfl rfl ?_
   refine jns ?_
   have hpt := putc_T hc24
   iterate 2 refine jst hσ rfl rfl rfl rfl rfl ?_
   first | refine jin hσ rfl rfl rfl rfl rfl rfl rfl rfl rfl rfl rfl ?_ | refine jix hσ rfl rfl rfl rfl rfl rfl rfl rfl rfl rfl rfl ?_ | refine jvf hσ rfl rfl rfl rfl rfl ?_
   iterate 3 refine jst hσ rfl rfl rfl rfl rfl ?_
   refine jf [30, 6, 24, 12, 0, 1, 5, 7] rfl ?_
   refine jn ?_
   refine AWP.cond hσ rfl rfl (fun hc30 => ?_) (fun hc30 => ?_)
   ·
    skip
    refine AWP.region ?_
    iterate 2 refine jst hσ rfl rfl rfl rfl rfl ?_
    refine AOps.heap (HS.lit hσ rfl rfl rfl) rfl ?_
    refine jnm ?_
    refine jf [33, 31, 30, 6, 24, 12, 0, 1, 5, 7] rfl ?_
    refine AOps.heap (HS.appMove (xs := (x.2.2).map fun n => [D.int .i64 n]) (zs := (x.2.2 ++ [k]).map fun n => [D.int .i64 n]) (n := (x.2.2 ++ [k]).length) hσ rfl rfl rfl rfl rfl rfl rfl rfl rfl rfl rfl rfl rfl rfl rfl rfl (.row rfl (List.length_map _).symm) rfl rfl (by decide) rfl (by simp; omega) (by simp; omega) (List.map_append (f := fun n => [D.int .i64 n]) (l₁ := x.2.2) (l₂ := [k])).symm (List.length_map _)) rfl ?_
    refine jnm ?_
    refine jnm ?_
    refine jst hσ rfl rfl rfl rfl rfl ?_
    refine jf [5, 30, 6, 24, 12, 0, 1, 7] rfl ?_
    refine jn ?_
    refine AWP.region ?_
    iterate 3 refine jst hσ rfl rfl rfl rfl rfl ?_
    first | refine jin hσ rfl rfl rfl rfl rfl rfl rfl rfl rfl rfl rfl ?_ | refine jix hσ rfl rfl rfl rfl rfl rfl rfl rfl rfl rfl rfl ?_ | refine jvf hσ rfl rfl rfl rfl rfl ?_
    refine jst hσ rfl rfl rfl rfl rfl ?_
    refine jf [39, 35, 5, 30, 6, 24, 12, 0, 1, 7] rfl ?_
    refine AOps.heap (HS.lit hσ rfl rfl rfl) rfl ?_
    refine jnm ?_
    refine jf [40, 35, 5, 30, 6, 24, 12, 0, 1, 7] rfl ?_
    first | refine AOps.heap (HS.appMove (xs := (x.2.2 ++ [k]).map fun n => [D.int .i64 n]) (zs := (x.2.2 ++ [k] ++ [(xs.getD x.1 default)]).map fun n => [D.int .i64 n]) (n := (x.2.2 ++ [k] ++ [(xs.getD x.1 default)]).length) hσ rfl rfl rfl rfl rfl rfl rfl rfl rfl rfl rfl rfl rfl rfl rfl rfl (.row rfl (List.length_map _).symm) rfl rfl (by decide) rfl (by simp; omega) (by simp; omega) (List.map_append (f := fun n => [D.int .i64 n]) (l₁ := x.2.2 ++ [k]) (l₂ := [(xs.getD x.1 default)])).symm (List.length_map _)) rfl ?_ | refine AOps.heap (HS.appMove (xs := (x.2.2).map fun n => [D.int .i64 n]) (zs := (x.2.2 ++ [(xs.getD x.1 default)]).map fun n => [D.int .i64 n]) (n := (x.2.2 ++ [(xs.getD x.1 default)]).length) hσ rfl rfl rfl rfl rfl rfl rfl rfl rfl rfl rfl rfl rfl rfl rfl rfl (.row rfl (List.length_map _).symm) rfl rfl (by decide) rfl (by simp; omega) (by simp; omega) (List.map_append (f := fun n => [D.int .i64 n]) (l₁ := x.2.2) (l₂ := [(xs.getD x.1 default)])).symm (List.length_map _)) rfl ?_
    refine jnm ?_
    refine jnm ?_
    refine jst hσ rfl rfl rfl rfl rfl ?_
    refine jf [5, 30, 6, 24, 12, 0, 1, 7] rfl ?_
    refine jn ?_
    refine AWP.region ?_
    refine jst hσ rfl rfl rfl rfl rfl ?_
    first | refine jfi hσ rfl rfl rfl rfl rfl ?_ | refine jvf hσ rfl rfl rfl rfl rfl ?_
    refine jst hσ rfl rfl rfl rfl rfl ?_
    refine jf [7, 5, 30, 6, 24, 12, 0, 1] rfl ?_
    refine jn ?_
    refine ⟨(x.1 + 1, true, x.2.2 ++ [k] ++ [(xs.getD x.1 default)]), ((Ent.sel [41] (e' := [(0, _), (1, _), (5, _), (6, _), (7, _)]) rfl rfl ⟨rfl, rfl, rfl, rfl, rfl, trivial⟩ rfl).trans (Ent.sub2 41 900 rfl rfl)), ⟨by show x.1 + 1 ≤ _; omega, put_T hxl hi.2 hpt.1 hpt.2 (of_decide_eq_true hc30)⟩, by show xs.length - (x.1 + 1) < xs.length - x.1; omega⟩
   ·
    skip
    refine AWP.skip ?_
    refine AWP.region ?_
    iterate 3 refine jst hσ rfl rfl rfl rfl rfl ?_
    first | refine jin hσ rfl rfl rfl rfl rfl rfl rfl rfl rfl rfl rfl ?_ | refine jix hσ rfl rfl rfl rfl rfl rfl rfl rfl rfl rfl rfl ?_ | refine jvf hσ rfl rfl rfl rfl rfl ?_
    refine jst hσ rfl rfl rfl rfl rfl ?_
    refine jf [39, 35, 30, 6, 24, 12, 0, 1, 5, 7] rfl ?_
    refine AOps.heap (HS.lit hσ rfl rfl rfl) rfl ?_
    refine jnm ?_
    refine jf [40, 35, 30, 6, 24, 12, 0, 1, 5, 7] rfl ?_
    first | refine AOps.heap (HS.appMove (xs := (x.2.2 ++ [k]).map fun n => [D.int .i64 n]) (zs := (x.2.2 ++ [k] ++ [(xs.getD x.1 default)]).map fun n => [D.int .i64 n]) (n := (x.2.2 ++ [k] ++ [(xs.getD x.1 default)]).length) hσ rfl rfl rfl rfl rfl rfl rfl rfl rfl rfl rfl rfl rfl rfl rfl rfl (.row rfl (List.length_map _).symm) rfl rfl (by decide) rfl (by simp; omega) (by simp; omega) (List.map_append (f := fun n => [D.int .i64 n]) (l₁ := x.2.2 ++ [k]) (l₂ := [(xs.getD x.1 default)])).symm (List.length_map _)) rfl ?_ | refine AOps.heap (HS.appMove (xs := (x.2.2).map fun n => [D.int .i64 n]) (zs := (x.2.2 ++ [(xs.getD x.1 default)]).map fun n => [D.int .i64 n]) (n := (x.2.2 ++ [(xs.getD x.1 default)]).length) hσ rfl rfl rfl rfl rfl rfl rfl rfl rfl rfl rfl rfl rfl rfl rfl rfl (.row rfl (List.length_map _).symm) rfl rfl (by decide) rfl (by simp; omega) (by simp; omega) (List.map_append (f := fun n => [D.int .i64 n]) (l₁ := x.2.2) (l₂ := [(xs.getD x.1 default)])).symm (List.length_map _)) rfl ?_
    refine jnm ?_
    refine jnm ?_
    refine jst hσ rfl rfl rfl rfl rfl ?_
    refine jf [5, 30, 6, 24, 12, 0, 1, 7] rfl ?_
    refine jn ?_
    refine AWP.region ?_
    refine jst hσ rfl rfl rfl rfl rfl ?_
    first | refine jfi hσ rfl rfl rfl rfl rfl ?_ | refine jvf hσ rfl rfl rfl rfl rfl ?_
    refine jst hσ rfl rfl rfl rfl rfl ?_
    refine jf [7, 5, 30, 6, 24, 12, 0, 1] rfl ?_
    refine jn ?_
    refine ⟨(x.1 + 1, true, x.2.2 ++ [(xs.getD x.1 default)]), ((Ent.sel [41] (e' := [(0, _), (1, _), (5, _), (6, _), (7, _)]) rfl rfl ⟨rfl, rfl, rfl, rfl, rfl, trivial⟩ rfl).trans (Ent.sub2 41 900 rfl rfl)), ⟨by show x.1 + 1 ≤ _; omega, put_M hxl hi.2 hpt.1 hpt.2 (of_decide_eq_false hc30)⟩, by show xs.length - (x.1 + 1) < xs.length - x.1; omega⟩
  ·
   skip
   refine AWP.skip ?_
   refine AWP.region ?_
   iterate 3 refine jst hσ rfl rfl rfl rfl rfl ?_
   first | refine jin hσ rfl rfl rfl rfl rfl rfl rfl rfl rfl rfl rfl ?_ | refine jix hσ rfl rfl rfl rfl rfl rfl rfl rfl rfl rfl rfl ?_ | refine jvf hσ rfl rfl rfl rfl rfl ?_
   refine jst hσ rfl rfl rfl rfl rfl ?_
   refine jf [39, 35, 24, 12, 0, 1, 5, 6, 7] rfl ?_
   refine AOps.heap (HS.lit hσ rfl rfl rfl) rfl ?_
   refine jnm ?_
   refine jf [40, 35, 24, 12, 0, 1, 5, 6, 7] rfl ?_
   first | refine AOps.heap (HS.appMove (xs := (x.2.2 ++ [k]).map fun n => [D.int .i64 n]) (zs := (x.2.2 ++ [k] ++ [(xs.getD x.1 default)]).map fun n => [D.int .i64 n]) (n := (x.2.2 ++ [k] ++ [(xs.getD x.1 default)]).length) hσ rfl rfl rfl rfl rfl rfl rfl rfl rfl rfl rfl rfl rfl rfl rfl rfl (.row rfl (List.length_map _).symm) rfl rfl (by decide) rfl (by simp; omega) (by simp; omega) (List.map_append (f := fun n => [D.int .i64 n]) (l₁ := x.2.2 ++ [k]) (l₂ := [(xs.getD x.1 default)])).symm (List.length_map _)) rfl ?_ | refine AOps.heap (HS.appMove (xs := (x.2.2).map fun n => [D.int .i64 n]) (zs := (x.2.2 ++ [(xs.getD x.1 default)]).map fun n => [D.int .i64 n]) (n := (x.2.2 ++ [(xs.getD x.1 default)]).length) hσ rfl rfl rfl rfl rfl rfl rfl rfl rfl rfl rfl rfl rfl rfl rfl rfl (.row rfl (List.length_map _).symm) rfl rfl (by decide) rfl (by simp; omega) (by simp; omega) (List.map_append (f := fun n => [D.int .i64 n]) (l₁ := x.2.2) (l₂ := [(xs.getD x.1 default)])).symm (List.length_map _)) rfl ?_
   refine jnm ?_
   refine jnm ?_
   refine jst hσ rfl rfl rfl rfl rfl ?_
   refine jf [5, 24, 12, 0, 1, 6, 7] rfl ?_
   refine jn ?_
   refine AWP.region ?_
   refine jst hσ rfl rfl rfl rfl rfl ?_
   first | refine jfi hσ rfl rfl rfl rfl rfl ?_ | refine jvf hσ rfl rfl rfl rfl rfl ?_
   refine jst hσ rfl rfl rfl rfl rfl ?_
   refine jf [7, 5, 24, 12, 0, 1, 6] rfl ?_
   refine jn ?_
   refine ⟨(x.1 + 1, x.2.1, x.2.2 ++ [(xs.getD x.1 default)]), ((Ent.sel [41] (e' := [(0, _), (1, _), (5, _), (6, _), (7, _)]) rfl rfl ⟨rfl, rfl, rfl, rfl, rfl, trivial⟩ rfl).trans (Ent.sub2 41 900 rfl rfl)), ⟨by show x.1 + 1 ≤ _; omega, put_F hxl hi.2 (putc_F hc24)⟩, by show xs.length - (x.1 + 1) < xs.length - x.1; omega⟩
 ·
  skip
  refine AWP.exit ?_
  refine AWP.seq ?_
  refine jsr ?_
  have hxl : ¬ x.1 < xs.length := by have := of_decide_eq_false hc12; omega
  have hle : x.2.2.length ≤ 1002 := by have := (putF_len (k := k) (xs.take x.1)).1; rw [← hi.2, List.length_take] at this; omega
  iterate 2 refine jst hσ rfl rfl rfl rfl rfl ?_
  refine jn ?_
  refine AWP.cond hσ rfl rfl (fun hc43 => ?_) (fun hc43 => ?_)
  ·
   skip
   refine AWP.region ?_
   iterate 2 refine jst hσ rfl rfl rfl rfl rfl ?_
   refine AOps.heap (HS.lit hσ rfl rfl rfl) rfl ?_
   refine jnm ?_
   refine jf [46, 44, 43, 42, 12, 0, 1, 5, 6, 7] rfl ?_
   refine AOps.heap (HS.appMove (xs := (x.2.2).map fun n => [D.int .i64 n]) (zs := (x.2.2 ++ [k]).map fun n => [D.int .i64 n]) (n := (x.2.2 ++ [k]).length) hσ rfl rfl rfl rfl rfl rfl rfl rfl rfl rfl rfl rfl rfl rfl rfl rfl (.row rfl (List.length_map _).symm) rfl rfl (by decide) rfl (by simp; omega) (by simp; omega) (List.map_append (f := fun n => [D.int .i64 n]) (l₁ := x.2.2) (l₂ := [k])).symm (List.length_map _)) rfl ?_
   refine jnm ?_
   refine jnm ?_
   refine jst hσ rfl rfl rfl rfl rfl ?_
   refine jf [5, 43, 42, 12, 0, 1, 6, 7] rfl ?_
   refine jns ?_
   iterate 2 refine jst hσ rfl rfl rfl rfl rfl ?_
   refine jn ?_
   refine AWP.ret ?_
   rw [put_end1 hxl hi.2 (notF hc43)]
   refine ⟨.inl rfl, _, Ent.refl, _, rfl, [47], by decide, rfl, rfl, rfl⟩
  ·
   skip
   refine AWP.skip ?_
   refine jsr ?_
   iterate 2 refine jst hσ rfl rfl rfl rfl rfl ?_
   refine jn ?_
   refine AWP.ret ?_
   rw [put_end2 hxl hi.2 (notT hc43)]
   refine ⟨.inl rfl, _, Ent.refl, _, rfl, [900], by decide, rfl, rfl, rfl⟩
theorem c1099 {L : Nat} (h1 : 4096 ≤ L) (h2 : L ≤ 1073741824) {c : List In} {k : Nat} (hk : k < c.length) (hc : c.length ≤ 1000) : MC Tryz.prog L 98 [ains c, eI k] [] (Rows (.c (.rs 0 0 (tg (c.getD k default) k).length)) [nrow (tg (c.getD k default) k)]) := by
 refine MC.rows ?_
 have hσ := SGok (nt := 35) h1 (Nat.le_trans h2 (by decide))
 refine MC.body hσ Tryz.func98 (by kernel_rfl) rfl rfl (Nat.le_of_ble_eq_true rfl) (fun hF => ?_)
 refine jsr ?_
 refine jst hσ rfl rfl rfl rfl rfl ?_
 refine jn ?_
 refine AWP.seq ?_
 refine jsr ?_
 iterate 2 refine jst hσ rfl rfl rfl rfl rfl ?_
 have hkc : k < c.length := hk
 refine AOps.step (Val.indexN hσ rfl rfl rfl rfl rfl rfl rfl rfl (idxN hk)) rfl rfl rfl ?_
 iterate 2 refine jst hσ rfl rfl rfl rfl rfl ?_
 refine jf [9, 4, 0, 1] rfl ?_
 refine jn ?_
 refine AWP.block ?_
 refine jsr ?_
 iterate 2 refine jst hσ rfl rfl rfl rfl rfl ?_
 refine jn ?_
 refine AWP.cond hσ rfl rfl (fun hc10 => ?_) (fun hc10 => ?_)
 ·
  skip
  refine jsr ?_
  refine AOps.heap (HS.lit hσ rfl rfl rfl) rfl ?_
  refine jnm ?_
  refine jst hσ rfl rfl rfl rfl rfl ?_
  refine jf [4, 11, 9, 0, 1] rfl ?_
  refine jn ?_
  refine AWP.ret ?_
  rw [tg, if_pos (of_decide_eq_true hc10)]
  refine ⟨.inl rfl, _, Ent.refl, _, rfl, [12], by decide, rfl, rfl, rfl⟩
 ·
  skip
  refine jsr ?_
  iterate 2 refine jst hσ rfl rfl rfl rfl rfl ?_
  refine jf [13, 11, 9, 4, 0, 1] rfl ?_
  refine jn ?_
  refine AWP.cond hσ rfl rfl (fun hc13 => ?_) (fun hc13 => ?_)
  ·
   skip
   refine jsr ?_
   iterate 2 refine jst hσ rfl rfl rfl rfl rfl ?_
   have hkc : k < c.length := hk
   refine AOps.step (Val.indexN hσ rfl rfl rfl rfl rfl rfl rfl rfl (idxN hk)) rfl rfl rfl ?_
   iterate 2 refine jst hσ rfl rfl rfl rfl rfl ?_
   refine jf [19, 11, 9, 4, 0, 1] rfl ?_
   refine AOps.heap (HS.lit hσ rfl rfl rfl) rfl ?_
   refine jnm ?_
   refine jst hσ rfl rfl rfl rfl rfl ?_
   refine jf [4, 11, 9, 0, 1] rfl ?_
   refine jn ?_
   refine AWP.ret ?_
   rw [tg, if_neg (of_decide_eq_false hc10), if_pos (of_decide_eq_true hc13)]
   refine ⟨.inl rfl, _, Ent.refl, _, rfl, [20], by decide, rfl, rfl, rfl⟩
  ·
   skip
   refine jsr ?_
   iterate 2 refine jst hσ rfl rfl rfl rfl rfl ?_
   refine jf [21, 11, 9, 4, 0, 1] rfl ?_
   refine jn ?_
   refine AWP.cond hσ rfl rfl (fun hc21 => ?_) (fun hc21 => ?_)
   ·
    skip
    refine jsr ?_
    refine jst hσ rfl rfl rfl rfl rfl ?_
    first | refine jfi hσ rfl rfl rfl rfl rfl ?_ | refine jvf hσ rfl rfl rfl rfl rfl ?_
    refine jf [24, 11, 9, 4, 0, 1] rfl ?_
    refine AOps.heap (HS.lit hσ rfl rfl rfl) rfl ?_
    refine jnm ?_
    iterate 2 refine jst hσ rfl rfl rfl rfl rfl ?_
    have hkc : k < c.length := hk
    refine AOps.step (Val.indexN hσ rfl rfl rfl rfl rfl rfl rfl rfl (idxN hk)) rfl rfl rfl ?_
    iterate 2 refine jst hσ rfl rfl rfl rfl rfl ?_
    refine jf [30, 25, 11, 9, 4, 0, 1] rfl ?_
    refine AOps.rows hσ (B0 := 32000) rfl rfl rfl rfl (c1039r (xs := [(k : Int) + 1]) (k := (c.getD k default).a) h1 h2 (by simp)) (.cons (.c (.whole rfl rfl)) (.cons (.c .d) .nil)) rfl rfl rfl rfl rfl rfl ?_
    refine jnm ?_
    refine jst hσ rfl rfl rfl rfl rfl ?_
    refine jf [4, 11, 9, 0, 1] rfl ?_
    refine jn ?_
    refine AWP.ret ?_
    rw [tg, if_neg (of_decide_eq_false hc10), if_neg (of_decide_eq_false hc13), if_pos (of_decide_eq_true hc21), ← putL_one]
    refine ⟨.inl rfl, _, Ent.refl, _, rfl, [32000], by decide, rfl, rfl, rfl⟩
   ·
    skip
    refine AWP.skip ?_
    refine jsr ?_
    refine jst hσ rfl rfl rfl rfl rfl ?_
    first | refine jfi hσ rfl rfl rfl rfl rfl ?_ | refine jvf hσ rfl rfl rfl rfl rfl ?_
    refine jf [33, 11, 9, 4, 0, 1] rfl ?_
    refine AOps.heap (HS.lit hσ rfl rfl rfl) rfl ?_
    refine jnm ?_
    refine jst hσ rfl rfl rfl rfl rfl ?_
    refine jf [4, 11, 9, 0, 1] rfl ?_
    refine jn ?_
    refine AWP.ret ?_
    rw [tg, if_neg (of_decide_eq_false hc10), if_neg (of_decide_eq_false hc13), if_neg (of_decide_eq_false hc21)]
    refine ⟨.inl rfl, _, Ent.refl, _, rfl, [34], by decide, rfl, rfl, rfl⟩
theorem pt_st {a : An} (hA : AOk a) : ∀ z ∈ ((0 : Int) :: a.pts.map Pt.k), 0 ≤ z ∧ z ≤ 100 := by
  intro z hz
  rcases List.mem_cons.1 hz with rfl | hz
  · decide
  · obtain ⟨p, hp, rfl⟩ := List.mem_map.1 hz
    have := hA.pts p hp; omega
theorem pre_row {pre : List (List D)} {z : Int} {ws : List Int} : pre ++ (z :: ws).map (fun n => [D.int .i64 n]) = (pre ++ [[D.int .i64 z]]) ++ ws.map (fun n => [D.int .i64 n]) := by simp
theorem app_row {p q : List (List D)} {ws ts : List Int} : p ++ ((q ++ ws.map (fun n => [D.int .i64 n])).drop q.length ++ ts.map (fun n => [D.int .i64 n])) = p ++ (ws ++ ts).map (fun n => [D.int .i64 n]) := by simp
theorem app_len {q : List (List D)} {ws ts : List Int} : ((q ++ ws.map (fun n => [D.int .i64 n])).drop q.length ++ ts.map (fun n => [D.int .i64 n])).length = (ws ++ ts).length := by simp
theorem c1093 {L : Nat} (h1 : 4096 ≤ L) (h2 : L ≤ 1073741824) {a : An} (hA : AOk a) : MC Tryz.prog L 70 [ptr a.data] [] (Rows (.c (.rs 0 0 a.code.length)) [brow (reachB a.code ((0 : Int) :: a.pts.map Pt.k))]) := by
 refine MC.rows ?_
 have hσ := SGok (nt := 67) h1 (Nat.le_trans h2 (by decide))
 refine MC.body hσ Tryz.func70 (by kernel_rfl) rfl rfl (Nat.le_of_ble_eq_true rfl) (fun hF => ?_)
 have hl : a.code.length ≤ L := by simpa [As.fact, A.fact, M.fact, D.fact, Ds.fact] using hF.1.2.2.1.1
 have hlp : a.pts.length ≤ L := by simpa [As.fact, A.fact, M.fact, D.fact, Ds.fact] using hF.1.2.2.2.1.1
 have h80 := hA.len
 have h8 := hA.np
 have htg := hA.tg
 have hse : ((0 : Int) :: a.pts.map Pt.k).length = a.pts.length + 1 := by simp
 refine jsr ?_
 refine jst hσ rfl rfl rfl rfl rfl ?_
 refine jns ?_
 iterate 4 refine jst hσ rfl rfl rfl rfl rfl ?_
 first | refine jle hσ rfl rfl rfl rfl rfl rfl rfl rfl rfl rfl rfl ?_ | refine jst hσ rfl rfl rfl rfl rfl ?_ | refine jvf hσ rfl rfl rfl rfl rfl ?_
 refine jf [11, 2, 0] rfl ?_
 refine AOps.heap (HS.make hσ rfl rfl rfl rfl rfl rfl rfl rfl rfl (by first | omega | (simp at *; omega)) (by first | omega | (simp at *; omega)) (by first | omega | (simp at *; omega)) (by first | omega | (dsimp only; omega) | (simp only [List.length_map, beq_iff_eq, decide_eq_true_eq, decide_eq_false_iff_not, Bool.not_eq_true', Bool.not_eq_false', Bool.not_true, Bool.not_false, Int.not_lt, Int.not_le] at *; omega)) (by first | omega | (simp at *; omega)) rfl rfl rfl) rfl ?_
 refine jnm ?_
 refine jst hσ rfl rfl rfl rfl rfl ?_
 refine jf [3, 2, 0] rfl ?_
 refine jns ?_
 refine AOps.heap (HS.lit hσ rfl rfl rfl) rfl ?_
 refine jnm ?_
 refine jst hσ rfl rfl rfl rfl rfl ?_
 refine jn ?_
 refine AWP.seq ?_
 refine jsr ?_
 refine jst hσ rfl rfl rfl rfl rfl ?_
 refine jn ?_
 refine AWP.block ?_
 refine AWP.loopP (X := Nat) (fun i => ⟨[(0, ptr a.data), (3, .c (.rs 12 0 a.code.length)), (4, .c (.rs 900 0 ((0 : Int) :: (a.pts.take i).map Pt.k).length)), (5, eI i)], [(12, brow (List.replicate a.code.length false)), (900, nrow ((0 : Int) :: (a.pts.take i).map Pt.k))]⟩) (fun i => i ≤ a.pts.length) (fun i => a.pts.length - i) 0 ((Ent.sub2 13 900 rfl rfl).trans (Ent.to ⟨rfl, rfl, rfl, rfl, trivial⟩ (by rw [brow, List.map_replicate]; rfl))) ?_ (fun i hi => ?_)
 ·
  exact Nat.zero_le _
 refine AWP.seq ?_
 refine jsr ?_
 iterate 5 refine jst hσ rfl rfl rfl rfl rfl ?_
 first | refine jle hσ rfl rfl rfl rfl rfl rfl rfl rfl rfl rfl rfl ?_ | refine jst hσ rfl rfl rfl rfl rfl ?_ | refine jvf hσ rfl rfl rfl rfl rfl ?_
 refine jst hσ rfl rfl rfl rfl rfl ?_
 refine jf [20, 0, 3, 4, 5] rfl ?_
 refine jn ?_
 refine AWP.cond hσ rfl rfl (fun hc20 => ?_) (fun hc20 => ?_)
 ·
  skip
  refine AWP.skip ?_
  refine AWP.seq ?_
  refine AWP.block ?_
  refine AWP.region ?_
  iterate 6 refine jst hσ rfl rfl rfl rfl rfl ?_
  have hil : i < a.pts.length := by have := of_decide_eq_true hc20; omega
  refine jin hσ rfl rfl rfl rfl rfl rfl rfl rfl rfl rfl rfl ?_
  iterate 2 refine jst hσ rfl rfl rfl rfl rfl ?_
  refine jf [31, 23, 20, 0, 3, 4, 5] rfl ?_
  refine AOps.heap (HS.lit hσ rfl rfl rfl) rfl ?_
  refine jnm ?_
  refine jf [32, 23, 20, 0, 3, 4, 5] rfl ?_
  have hs1 : ((0 : Int) :: (a.pts.take (i + 1)).map Pt.k) = ((0 : Int) :: (a.pts.take i).map Pt.k) ++ [(a.pts.getD i default).k] := by rw [List.take_succ_eq_append_getElem hil, getD_lt hil, List.map_append]; rfl
  refine AOps.heap (HS.appMove (zs := (((0 : Int) :: (a.pts.take (i + 1)).map Pt.k)).map fun n => [.int .i64 n]) (n := ((0 : Int) :: (a.pts.take (i + 1)).map Pt.k).length) hσ rfl rfl rfl rfl rfl rfl rfl rfl rfl rfl rfl rfl rfl rfl rfl rfl (.row rfl (List.length_map _).symm) rfl rfl (by decide) rfl (by simp; omega) (by simp; omega) (by rw [hs1, List.map_append]; rfl) (List.length_map _)) rfl ?_
  refine jnm ?_
  refine jnm ?_
  refine jst hσ rfl rfl rfl rfl rfl ?_
  refine jf [4, 20, 0, 3, 5] rfl ?_
  refine jn ?_
  refine AWP.region ?_
  refine jst hσ rfl rfl rfl rfl rfl ?_
  first | refine jfi hσ rfl rfl rfl rfl rfl ?_ | refine jvf hσ rfl rfl rfl rfl rfl ?_
  refine jst hσ rfl rfl rfl rfl rfl ?_
  refine jf [5, 4, 20, 0, 3] rfl ?_
  refine jn ?_
  refine ⟨i + 1, ((Ent.sel [12, 33] (e' := [(0, _), (3, _), (4, _), (5, _)]) rfl rfl ⟨rfl, rfl, rfl, rfl, trivial⟩ rfl).trans (Ent.sub2 33 900 rfl rfl)).trans (Ent.to ⟨rfl, rfl, rfl, rfl, trivial⟩ rfl), by omega, by omega⟩
 ·
  skip
  refine AWP.exit ?_
  refine AWP.seq ?_
  refine AWP.block ?_
  refine AWP.loopP (X := List Bool × List Int × List (List D)) (fun x => ⟨[(0, ptr a.data), (3, .c (.rs 12 0 a.code.length)), (4, .c (.rs 901 x.2.2.length x.2.1.length))], [(12, brow x.1), (901, .row true 1 (x.2.2 ++ x.2.1.map (fun n => [D.int .i64 n])))]⟩) (fun x => Rs a.code ((0 : Int) :: a.pts.map Pt.k) x.1 x.2.1 ∧ x.2.2.length + x.2.1.length + 3 * cntF x.1 ≤ 3 * a.code.length + (a.pts.length + 1)) (fun x => 3 * cntF x.1 + x.2.1.length) (List.replicate a.code.length false, ((0 : Int) :: a.pts.map Pt.k), []) ((Ent.sub2 900 901 rfl rfl).trans (Ent.to ⟨rfl, rfl, (by rw [show a.pts.take i = a.pts from List.take_of_length_le (by have := of_decide_eq_false hc20; omega)]; rfl), trivial⟩ (by rw [show a.pts.take i = a.pts from List.take_of_length_le (by have := of_decide_eq_false hc20; omega)]; rfl))) ?_ (fun x hi => ?_)
  ·
   exact ⟨Rs.zero (pt_st hA), by show 0 + ((0 : Int) :: a.pts.map Pt.k).length + 3 * cntF (List.replicate a.code.length false) ≤ _; rw [cntF_zero, hse]; omega⟩
  refine AWP.seq ?_
  refine jsr ?_
  obtain ⟨u, eu⟩ : ∃ u, u = x.1 := ⟨_, rfl⟩
  obtain ⟨ws, ew⟩ : ∃ ws, ws = x.2.1 := ⟨_, rfl⟩
  obtain ⟨pre, ep⟩ : ∃ pre, pre = x.2.2 := ⟨_, rfl⟩
  rw [← eu, ← ew, ← ep] at hi ⊢
  obtain ⟨hi1, hi2⟩ := hi
  have hul := hi1.len
  have hwl : ws.length ≤ 300 := by omega
  refine jst hσ rfl rfl rfl rfl rfl ?_
  first | refine jle hσ rfl rfl rfl rfl rfl rfl rfl rfl rfl rfl rfl ?_ | refine jst hσ rfl rfl rfl rfl rfl ?_ | refine jvf hσ rfl rfl rfl rfl rfl ?_
  refine jst hσ rfl rfl rfl rfl rfl ?_
  refine jf [36, 0, 3, 4] rfl ?_
  refine jn ?_
  refine AWP.cond hσ rfl rfl (fun hc36 => ?_) (fun hc36 => ?_)
  ·
   skip
   refine AWP.skip ?_
   refine AWP.block ?_
   refine jsr ?_
   obtain ⟨z, w2, ez⟩ : ∃ z w2, ws = z :: w2 := by cases ws with | nil => cases hc36 | cons z w2 => exact ⟨_, _, rfl⟩
   rw [ez] at hi1 hi2
   rw [ez, show (z :: w2).length = w2.length + 1 from rfl]
   have hzz := hi1.nn z (by simp)
   obtain ⟨pre2, ep2⟩ : ∃ pre2, pre2 = pre ++ [[D.int .i64 z]] := ⟨_, rfl⟩
   have hpl : pre2.length = pre.length + 1 := by rw [ep2]; simp
   have hi2a : pre2.length + w2.length + 3 * cntF u ≤ 3 * a.code.length + (a.pts.length + 1) := by simp only [List.length_cons] at hi2; omega
   have hcu : cntF u ≤ a.code.length := by rw [← hul]; exact List.count_le_length
   refine jst hσ rfl rfl rfl rfl rfl ?_
   refine AOps.step ((Val.vif hσ rfl rfl (by omega)).cast (v' := .c (.pt 901 pre.length 0)) rfl) rfl rfl rfl ?_
   refine AOps.step (Val.loadRow hσ (ex := [.int .i64 z]) rfl rfl rfl rfl (by rw [List.getElem?_append_right (Nat.le_refl _), Nat.sub_self]; rfl) rfl) rfl rfl rfl ?_
   refine jst hσ rfl rfl rfl rfl rfl ?_
   refine jf [6, 36, 0, 3, 4] rfl ?_
   refine jns ?_
   refine jst hσ rfl rfl rfl rfl rfl ?_
   refine AOps.step (Val.sliceTail hσ rfl rfl rfl rfl rfl rfl rfl rfl rfl) rfl rfl rfl ?_
   rw [← hpl, pre_row, ← ep2]
   refine jst hσ rfl rfl rfl rfl rfl ?_
   refine jf [4, 6, 36, 0, 3] rfl ?_
   refine jn ?_
   refine AWP.seq ?_
   refine AWP.seq ?_
   refine AWP.mid ⟨[(54, eB (bif decide ((a.code.length : Int) ≤ z) then true else u.getD z.toNat default)), (0, ptr a.data), (3, .c (.rs 12 0 a.code.length)), (4, .c (.rs 901 pre2.length w2.length)), (6, eI z)], [(12, brow u), (901, .row true 1 (pre2 ++ w2.map (fun n => [D.int .i64 n])))]⟩ ?_ ?_
   ·
    skip
    refine AWP.region ?_
    iterate 5 refine jst hσ rfl rfl rfl rfl rfl ?_
    first | refine jle hσ rfl rfl rfl rfl rfl rfl rfl rfl rfl rfl rfl ?_ | refine jst hσ rfl rfl rfl rfl rfl ?_ | refine jvf hσ rfl rfl rfl rfl rfl ?_
    refine jst hσ rfl rfl rfl rfl rfl ?_
    cases hb49 : decide ((a.code.length : Int) ≤ z) with
    | true =>
     refine jst hσ rfl rfl rfl rfl rfl ?_
     refine jf [49, 4, 6, 36, 0, 3] rfl ?_
     refine AOps.skip rfl rfl rfl rfl rfl rfl ?_
     refine AOps.skip rfl rfl rfl rfl rfl rfl ?_
     refine AOps.skip rfl rfl rfl rfl rfl rfl ?_
     refine jf [52, 49, 4, 6, 36, 0, 3] rfl ?_
     refine AOps.skip rfl rfl rfl rfl rfl rfl ?_
     refine AOps.step (Val.pickY hσ rfl rfl rfl rfl rfl) rfl rfl rfl ?_
     refine jf [54, 4, 6, 36, 0, 3] rfl ?_
     refine jn ?_
     exact ⟨rfl, Ent.to ⟨rfl, rfl, rfl, rfl, rfl, trivial⟩ rfl⟩
    | false =>
     have hzn : z < (a.code.length : Int) := by have := of_decide_eq_false hb49; omega
     refine jst hσ rfl rfl rfl rfl rfl ?_
     refine jf [49, 4, 6, 36, 0, 3] rfl ?_
     refine AOps.live rfl rfl rfl rfl rfl ?_
     refine jst hσ rfl rfl rfl rfl rfl ?_
     refine AOps.live rfl rfl rfl rfl rfl ?_
     refine jst hσ rfl rfl rfl rfl rfl ?_
     refine AOps.live rfl rfl rfl rfl rfl ?_
     refine jvf hσ rfl rfl rfl rfl rfl ?_
     refine jf [52, 49, 4, 6, 36, 0, 3] rfl ?_
     refine AOps.live rfl rfl rfl rfl rfl ?_
     refine AOps.step (Val.loadRow hσ (ex := bL (u.getD z.toNat default)) rfl rfl rfl rfl (gj' (by omega) (by omega)) rfl) rfl rfl rfl ?_
     refine AOps.step (Val.pickN hσ rfl rfl rfl rfl rfl) rfl rfl rfl ?_
     refine jf [54, 4, 6, 36, 0, 3] rfl ?_
     refine jn ?_
     exact ⟨rfl, Ent.to ⟨rfl, rfl, rfl, rfl, rfl, trivial⟩ rfl⟩
   refine AWP.cond hσ rfl rfl (fun hc54 => ?_) (fun hc54 => ?_)
   ·
    skip
    refine AWP.exit ?_
    refine ⟨(u, w2, pre2), Ent.to ⟨rfl, rfl, rfl, trivial⟩ rfl, ⟨hi1.out (ws' := w2) (fun y => List.mem_cons) (fun hl => ?_), hi2a⟩, by show 3 * cntF u + w2.length < 3 * cntF u + (w2.length + 1); omega⟩
    rcases (show (decide ((a.code.length : Int) ≤ z) = true ∨ u.getD z.toNat default = true) by generalize decide ((a.code.length : Int) ≤ z) = b at hc54; cases b; exact .inr hc54; exact .inl rfl) with g | g
    ·
     have := of_decide_eq_true g; omega
    ·
     exact g
   ·
    skip
    refine AWP.skip ?_
    refine jsr ?_
    obtain ⟨k, rfl⟩ : ∃ k : Nat, z = (k : Int) := ⟨z.toNat, by omega⟩
    obtain ⟨hc7, hc8⟩ := orF hc54
    have hkn : k < a.code.length := by have := of_decide_eq_false hc7; omega
    have hcs := cntF_set (u := u) (j := k) (by omega) hc8
    have htl := tg_len (x := a.code.getD k default) (k := k)
    iterate 2 refine jst hσ rfl rfl rfl rfl rfl ?_
    first | refine jin hσ rfl rfl rfl rfl rfl rfl rfl rfl rfl rfl rfl ?_ | refine jix hσ rfl rfl rfl rfl rfl rfl rfl rfl rfl rfl rfl ?_ | refine jvf hσ rfl rfl rfl rfl rfl ?_
    refine jf [57, 54, 0, 3, 4, 6] rfl ?_
    refine AOps.heap (HS.storeRow (ex := bL (u.getD k default)) (xs' := (u.set k true).map bL) hσ rfl rfl rfl rfl rfl rfl rfl rfl rfl rfl rfl rfl rfl rfl (gj' (by omega) (by omega)) (sj' (v := true) (by omega) rfl)) rfl ?_
    refine jnm ?_
    refine jnm ?_
    refine jn ?_
    refine AWP.region ?_
    iterate 6 refine jst hσ rfl rfl rfl rfl rfl ?_
    refine jf [63, 62, 58, 57, 54, 0, 3, 4, 6] rfl ?_
    refine AOps.rows hσ (B0 := 65000) rfl rfl rfl rfl (c1099 (c := a.code) (k := k) h1 h2 hkn (by omega)) (VAs.self rfl) rfl rfl rfl rfl rfl rfl ?_
    refine jnm ?_
    refine jf [64, 58, 57, 54, 0, 3, 4, 6] rfl ?_
    refine AOps.appTail hσ rfl rfl rfl rfl rfl rfl rfl rfl rfl rfl rfl rfl rfl rfl rfl rfl rfl (by simp) (.whole rfl (List.length_map _).symm (.inl ints_scal)) ints_size rfl (by simp only [List.length_append, List.length_map, List.length_cons, List.length_nil]; omega) (by show _ * 8 ≤ _; simp only [List.length_append, List.length_map, List.length_cons, List.length_nil]; omega) rfl (fun pre3 hp3 => ?_)
    refine jnm ?_
    rw [app_row, app_len]
    refine jnm ?_
    refine jst hσ rfl rfl rfl rfl rfl ?_
    refine jf [4, 57, 54, 0, 3, 6] rfl ?_
    refine jn ?_
    have hin := Rs.into htg hi1 (ws' := w2) (fun y => List.mem_cons) (by omega) (by omega)
    refine ⟨(u.set k true, w2 ++ tg (a.code.getD k default) k, pre3), ((Ent.sel [12, 65] (e' := [(0, _), (3, _), (4, _)]) rfl rfl ⟨rfl, rfl, rfl, trivial⟩ rfl).trans (Ent.sub2 65 901 rfl rfl)).trans (Ent.to ⟨rfl, rfl, rfl, trivial⟩ rfl), ⟨hin, ?_⟩, ?_⟩
    ·
     show pre3.length + (w2 ++ tg (a.code.getD k default) k).length + 3 * cntF (u.set k true) ≤ _
     rw [List.length_append]; omega
    ·
     show 3 * cntF (u.set k true) + (w2 ++ tg (a.code.getD k default) k).length < 3 * cntF u + (w2.length + 1)
     rw [List.length_append]; omega
  ·
   skip
   refine AWP.exit ?_
   refine jsr ?_
   iterate 2 refine jst hσ rfl rfl rfl rfl rfl ?_
   refine jn ?_
   refine AWP.ret ?_
   have hw0 : ws = [] := by cases ws with | nil => rfl | cons z w2 => have h9 : ¬ (0 : Int) < ((z :: w2).length : Nat) := of_decide_eq_false hc36; rw [List.length_cons] at h9; omega
   rw [hw0] at hi1
   rw [← hi1.done]
   refine ⟨.inl rfl, _, Ent.refl, _, rfl, [12], by decide, rfl, rfl, rfl⟩
end Go.Al
