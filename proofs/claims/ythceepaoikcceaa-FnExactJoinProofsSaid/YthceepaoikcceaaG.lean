/- The contexts of a proof, as the reference computes them. -/
import Derived.Test.YthceepaoikcceaaE
namespace Go.Al
set_option linter.unusedVariables false
/-! ### The contexts of a proof, as the reference computes them -/
theorem mkT_ok {c : Int} {xs : List Int} (h : (mkT c xs).2 = true) : (mkT c xs).1.ok = true := by
  unfold mkT at h ⊢
  split at h
  · rename_i h1; rw [if_pos h1]; exact h1
  · cases h
theorem oppT_ok {t : Tm} (h : (oppT t).2 = true) : (oppT t).1.ok = true := mkT_ok h
theorem tightS_ok {t : Tm} (h : (tightS t).2 = true) : (tightS t).1.ok = true := by
  unfold tightS at h ⊢
  split at h
  · cases h
  · rename_i h1; rw [if_neg h1]; exact mkT_ok h
theorem zero_ok {t : Tm} (h : t.zero = true) : t.ok = true := by
  simp only [Tm.zero, Bool.and_eq_true, decide_eq_true_eq] at h
  have h3 : t.xs = [] := List.eq_nil_of_length_eq_zero (by omega)
  simp [Tm.ok, num, h.1, h3]
theorem isB_spec {p : List Nd} (h : isB p = true) : 1 ≤ p.length ∧ p.length ≤ 60 ∧ (∀ n ∈ p, ndB n = true) ∧ endP p 0 = p.length := by
  simp only [isB, Bool.and_eq_true, decide_eq_true_eq, List.all_eq_true] at h
  exact ⟨by omega, by omega, h.2.1, h.2.2⟩
theorem ndB_get {p : List Nd} (h : isB p = true) {i : Nat} (hi : i < p.length) : ndB (p.getD i default) = true := by
  rw [getD_lt hi]; exact (isB_spec h).2.2.1 _ (List.getElem_mem hi)
theorem ndB_term {n : Nd} (h : ndB n = true) : n.term.ok = true := by
  unfold ndB at h
  split at h
  · simp only [Bool.and_eq_true] at h; exact zero_ok h.1.2
  · split at h
    · simp only [Bool.and_eq_true] at h; exact h.1.2
    · split at h
      · simp only [Bool.and_eq_true] at h; exact zero_ok h.1.2
      · cases h
theorem ndB_fact {n : Nd} (h : ndB n = true) : 0 ≤ n.fact := by
  unfold ndB at h
  split at h
  · simp only [Bool.and_eq_true, decide_eq_true_eq] at h; omega
  · split at h
    · simp only [Bool.and_eq_true, decide_eq_true_eq] at h; omega
    · split at h
      · simp only [Bool.and_eq_true, inB, decide_eq_true_eq] at h; omega
      · cases h
theorem ndB_mul {n : Nd} (h : ndB n = true) : n.mul.all co = true := by
  unfold ndB at h
  split at h
  · simp only [Bool.and_eq_true, mulB] at h; exact h.2.1
  · split at h
    · simp only [Bool.and_eq_true, decide_eq_true_eq] at h
      rw [List.eq_nil_of_length_eq_zero (by omega : n.mul.length = 0)]; rfl
    · split at h
      · simp only [Bool.and_eq_true, decide_eq_true_eq] at h
        rw [List.eq_nil_of_length_eq_zero (by omega : n.mul.length = 0)]; rfl
      · cases h
theorem ndB_kind {n : Nd} (h : ndB n = true) : n.kind = 1 ∨ n.kind = 2 ∨ n.kind = 3 := by
  unfold ndB at h
  split at h
  · exact .inl ‹_›
  · split at h
    · exact .inr (.inl ‹_›)
    · split at h
      · exact .inr (.inr ‹_›)
      · cases h
theorem endP_close {p : List Nd} {k : Nat} (hk : k < p.length) (h : (p.getD k default).kind = 1) : endP p k = k + 1 := by
  have h1 := endK_pos (l := p) (n := 1) (by decide) hk
  rw [h, show dl 1 = -1 from rfl, show (1 : Int) + -1 = 0 from rfl, endK_neg (Int.le_refl 0)] at h1
  unfold endP; rw [h1]; rfl
/-- A node behind the first one has a parent. -/
theorem par_in {p : List Nd} (h : isB p = true) {k : Nat} (h0 : 0 < k) (hk : k < p.length) : ∃ a : Nat, (par p k k).1 = (a : Int) ∧ a < k := by
  obtain ⟨_, _, _, hend⟩ := isB_spec h
  have key : ∀ i, 0 < i → ∃ a : Nat, (par p k i).1 = (a : Int) ∧ a < i := by
    intro i hi
    induction i with
    | zero => omega
    | succ i ih =>
      unfold par
      split
      · rename_i hc
        by_cases h1 : 0 < i
        · obtain ⟨a, h2, h3⟩ := ih h1
          exact ⟨a, h2, by omega⟩
        · obtain rfl : i = 0 := by omega
          rcases hc with hc | hc
          · have := endP_close (by omega) hc
            omega
          · omega
      · exact ⟨i, rfl, by omega⟩
  exact key k h0
structure CS where
  all : List (List Tm)
  has : List Bool
  right : List Bool
  flaw : Int
def fineF (p : List Nd) (k : Nat) (z : CS) : Bool := if k = 0 then true else z.right.getD (par p k k).1.toNat default
def ownF (p : List Nd) (c0 : List Tm) (k : Nat) (z : CS) : List Tm := if k = 0 then c0 else if fineF p k z = true then belowS (p.getD (par p k k).1.toNat default) (z.all.getD (par p k k).1.toNat default) (par p k k).2 else []
def rightF (p : List Nd) (c0 : List Tm) (k : Nat) (z : CS) : Bool := fineF p k z && rightB (p.getD k default) (ownF p c0 k z)
def csStep (p : List Nd) (c0 : List Tm) (k : Nat) (z : CS) : CS := ⟨z.all ++ [ownF p c0 k z], z.has ++ [fineF p k z], z.right ++ [rightF p c0 k z], if (fineF p k z && !rightF p c0 k z) && decide (z.flaw < 0) then (k : Int) else z.flaw⟩
def csRun (p : List Nd) (c0 : List Tm) : Nat → CS
  | 0 => ⟨[], [], [], -1⟩
  | k + 1 => csStep p c0 k (csRun p c0 k)
structure CSok (p : List Nd) (k : Nat) (z : CS) : Prop where
  all : z.all.length = k
  has : z.has.length = k
  right : z.right.length = k
  flaw : -1 ≤ z.flaw ∧ z.flaw < k
  ctx : ∀ j, j < k → z.has.getD j default = true → CtxOk (z.all.getD j default)
  good : ∀ j, j < k → z.right.getD j default = true → z.has.getD j default = true ∧ rightB (p.getD j default) (z.all.getD j default) = true
theorem getD_snoc {α : Type} [Inhabited α] {l : List α} {a : α} {j : Nat} : (l ++ [a]).getD j default = if j = l.length then a else l.getD j default := by
  simp only [List.getD_eq_getElem?_getD]
  by_cases h : j < l.length
  · rw [List.getElem?_append_left h, if_neg (by omega)]
  · by_cases e : j = l.length
    · subst e; simp
    · rw [if_neg e, List.getElem?_eq_none (by simp; omega), List.getElem?_eq_none (by omega)]
theorem below_ok {n : Nd} {ctx : List Tm} {first : Bool} (hn : ndB n = true) (hc : CtxOk ctx) (hk : n.kind ≠ 1) (hr : rightB n ctx = true) : CtxOk (belowS n ctx first) ∧ (n.kind = 3 → 0 ≤ n.fact ∧ n.fact < ctx.length) := by
  unfold rightB at hr
  rw [if_neg hk] at hr
  split at hr
  · cases hr
  · rename_i h20
    have key : ∀ t : Tm, t.ok = true → CtxOk (ctx ++ [t]) := fun t ht => ⟨fun u hu => by
      rcases List.mem_append.1 hu with hu | hu
      · exact hc.ok u hu
      · simp at hu; subst hu; exact ht, by simp; omega⟩
    unfold belowS
    split at hr
    · rename_i h2
      rw [if_neg (by omega)]
      refine ⟨?_, fun h => absurd (h2.symm.trans h) (by decide)⟩
      split
      · exact key _ (ndB_term hn)
      · exact key _ (oppT_ok hr)
    · rename_i h2
      have h3 : n.kind = 3 := by rcases ndB_kind hn with h | h | h <;> first | exact h | contradiction
      rw [if_pos h3]
      split at hr
      · cases hr
      · rename_i h4
        exact ⟨key _ (tightS_ok hr), fun _ => ⟨ndB_fact hn, by omega⟩⟩
theorem par_kind {p : List Nd} {k : Nat} : ∀ {i a : Nat}, (par p k i).1 = (a : Int) → (p.getD a default).kind ≠ 1 ∧ (k : Int) < endP p a ∧ a < i
  | 0, a, h => by have h : (-1 : Int) = a := h; omega
  | i + 1, a, h => by
    unfold par at h
    split at h
    · have := par_kind h; exact ⟨this.1, this.2.1, by omega⟩
    · rename_i hc
      have h : (i : Int) = a := h
      obtain rfl : i = a := by omega
      exact ⟨fun e => hc (.inl e), by have := fun e => hc (.inr e); omega, by omega⟩
theorem cs_own {p : List Nd} {c0 : List Tm} {k : Nat} {z : CS} (hp : isB p = true) (h0 : CtxOk c0) (hk : k < p.length) (hz : CSok p k z) (hf : fineF p k z = true) : CtxOk (ownF p c0 k z) := by
  unfold ownF
  split
  · exact h0
  · rename_i hk0
    try rw [if_pos hf]
    obtain ⟨a, ha, hak⟩ := par_in hp (by omega) hk
    have hf' := hf
    unfold fineF at hf'
    rw [if_neg hk0, ha, Int.toNat_natCast] at hf'
    obtain ⟨h1, h2⟩ := hz.good a hak hf'
    rw [ha, Int.toNat_natCast]
    exact (below_ok (ndB_get hp (by omega)) (hz.ctx a hak h1) (par_kind ha).1 h2).1
theorem CSok.step {p : List Nd} {c0 : List Tm} {k : Nat} {z : CS} (hp : isB p = true) (h0 : CtxOk c0) (hk : k < p.length) (hz : CSok p k z) : CSok p (k + 1) (csStep p c0 k z) := by
  refine ⟨by simp [csStep, hz.all], by simp [csStep, hz.has], by simp [csStep, hz.right], ?_, fun j hj h => ?_, fun j hj h => ?_⟩
  · have := hz.flaw
    unfold csStep
    dsimp only
    split <;> omega
  · simp only [csStep, getD_snoc, hz.has, hz.all] at h ⊢
    by_cases e : j = k
    · rw [if_pos e] at h ⊢; exact cs_own hp h0 hk hz h
    · rw [if_neg e] at h ⊢; exact hz.ctx j (by omega) h
  · simp only [csStep, getD_snoc, hz.has, hz.all, hz.right] at h ⊢
    by_cases e : j = k
    · rw [if_pos e] at h
      rw [if_pos e, if_pos e, e]
      unfold rightF at h
      simpa using h
    · rw [if_neg e] at h
      rw [if_neg e, if_neg e]
      exact hz.good j (by omega) h
theorem csRun_ok {p : List Nd} {c0 : List Tm} (hp : isB p = true) (h0 : CtxOk c0) : ∀ {k : Nat}, k ≤ p.length → CSok p k (csRun p c0 k)
  | 0, _ => ⟨rfl, rfl, rfl, ⟨Int.le_refl _, by show (-1 : Int) < ((0 : Nat) : Int); decide⟩, fun j hj => absurd hj (Nat.not_lt_zero j), fun j hj => absurd hj (Nat.not_lt_zero j)⟩
  | k + 1, hk => (csRun_ok hp h0 (k := k) (by omega)).step hp h0 (by omega)
abbrev cL (c : List Tm) : List D := [tms c]
abbrev bL (b : Bool) : List D := [.bool b]
abbrev ctxsD (cs : List (List Tm)) : D := .slc 1 (cs.map cL)
abbrev boolsD (bs : List Bool) : D := .slc 1 (bs.map bL)
structure Con where
  all : List (List Tm)
  has : List Bool
  flaw : Int
  ok : Bool
def conS (s : Sq) (p : List Nd) : Con := if (oppT s.goal).2 = true then ⟨(csRun p (ctxS s).1 p.length).all, (csRun p (ctxS s).1 p.length).has, (csRun p (ctxS s).1 p.length).flaw, true⟩ else ⟨[], [], 0, false⟩
theorem seqB_spec {s : Sq} (h : seqB s = true) : (∀ t ∈ s.facts, t.ok = true) ∧ s.facts.length ≤ 13 ∧ s.goal.ok = true := by
  simp only [seqB, allOk, Bool.and_eq_true, decide_eq_true_eq, List.all_eq_true] at h
  exact ⟨h.1.1, by omega, h.2⟩
theorem ctxS_ok {s : Sq} (h : seqB s = true) : CtxOk (ctxS s).1 := by
  obtain ⟨h1, h2, h3⟩ := seqB_spec h
  unfold ctxS
  split
  · rename_i ho
    refine ⟨fun u hu => ?_, by simp; omega⟩
    rcases List.mem_append.1 hu with hu | hu
    · exact h1 u hu
    · simp at hu; subst hu; exact oppT_ok ho
  · exact ⟨fun u hu => by simp at hu, by simp⟩
end Go.Al
namespace Go.Al
open Go.Proofs
set_option linter.unusedVariables false
set_option linter.unusedSimpArgs false
set_option maxRecDepth 10000
theorem c142 {L : Nat} (h1 : 4096 ≤ L) (h2 : L ≤ 1073741824) {n : Nd} {ctx : List Tm} (hc : CtxOk ctx) (hn : ndB n = true) : MC Try.prog L 117 [ptr n.cells, atms ctx] [] (Plain (eB (rightB n ctx))) := by
 refine MC.alone ?_ rfl
 have hσ := SGok (nt := 54) h1 (Nat.le_trans h2 (by decide))
 refine MC.body hσ Try.func117 (by kernel_rfl) rfl rfl (Nat.le_of_ble_eq_true rfl) (fun hF => ?_)
 have hlc := hc.len
 have ht := Small.of (ndB_term hn)
 have hmn := co_num (ndB_mul hn)
 have hfa := ndB_fact hn
 refine jsr ?_
 refine jst hσ rfl rfl rfl rfl rfl ?_
 refine jn ?_
 refine AWP.seq ?_
 refine jsr ?_
 iterate 5 refine jst hσ rfl rfl rfl rfl rfl ?_
 refine jf4 13 4 0 1 rfl rfl rfl rfl ?_
 refine jn ?_
 refine AWP.cond hσ rfl rfl (fun hc13 => ?_) (fun hc13 => ?_)
 ·
  try simp only [jcs] at hc13
  refine jsr ?_
  iterate 5 refine jst hσ rfl rfl rfl rfl rfl ?_
  refine jf5 18 14 4 0 1 rfl rfl rfl rfl rfl ?_
  refine AOps.lone hσ rfl rfl rfl rfl (c183 (ctx := ctx) (ms := n.mul) h1 h2 hc hmn) (VAs.self rfl) rfl rfl rfl rfl rfl (B0 := 20000) rfl ?_
  refine jst hσ rfl rfl rfl rfl rfl ?_
  refine AOps.forget [(4, _), (0, _), (1, _)] ⟨rfl, rfl, rfl, trivial⟩ ?_
  refine jn ?_
  refine AWP.ret ?_
  refine ⟨.inl rfl, _, Ent.refl, _, rfl, ?_⟩
  rw [rightB, if_pos hc13]
 ·
  try simp only [jcs] at hc13
  refine AWP.skip ?_
  refine AWP.seq ?_
  refine jsr ?_
  refine jst hσ rfl rfl rfl rfl rfl ?_
  first | refine jle hσ rfl rfl rfl rfl rfl rfl rfl rfl rfl rfl rfl ?_ | refine jst hσ rfl rfl rfl rfl rfl ?_ | refine jvf hσ rfl rfl rfl rfl rfl ?_
  refine jst hσ rfl rfl rfl rfl rfl ?_
  refine jf4 22 4 0 1 rfl rfl rfl rfl ?_
  refine jn ?_
  refine AWP.cond hσ rfl rfl (fun hc22 => ?_) (fun hc22 => ?_)
  ·
   try simp only [jcs] at hc22
   refine jsr ?_
   refine jst hσ rfl rfl rfl rfl rfl ?_
   refine jn ?_
   refine AWP.ret ?_
   refine ⟨.inl rfl, _, Ent.refl, _, rfl, ?_⟩
   rw [rightB, if_neg hc13, if_pos (by omega)]
  ·
   try simp only [jcs] at hc22
   refine AWP.skip ?_
   refine AWP.seq ?_
   refine jsr ?_
   iterate 5 refine jst hσ rfl rfl rfl rfl rfl ?_
   refine jf4 27 4 0 1 rfl rfl rfl rfl ?_
   refine jn ?_
   refine AWP.cond hσ rfl rfl (fun hc27 => ?_) (fun hc27 => ?_)
   ·
    try simp only [jcs] at hc27
    refine jsr ?_
    iterate 3 refine jst hσ rfl rfl rfl rfl rfl ?_
    refine jf4 31 4 0 1 rfl rfl rfl rfl ?_
    refine AOps.plainD hσ rfl rfl rfl rfl (c181 (t := n.term) h1 h2 ht) (.cons (.c (.sub rfl)) .nil) rfl rfl rfl rfl (B0 := 33000) rfl rfl ?_
    iterate 3 refine jst hσ rfl rfl rfl rfl rfl ?_
    refine jf5 34 33 4 0 1 rfl rfl rfl rfl rfl ?_
    refine AOps.heap (HS.alloc hσ rfl rfl rfl rfl rfl) rfl ?_
    refine AOps.heap (HS.storeBox hσ rfl rfl rfl rfl rfl rfl rfl rfl rfl rfl rfl) rfl ?_
    refine jst hσ rfl rfl rfl rfl rfl ?_
    refine jf4 6 4 0 1 rfl rfl rfl rfl ?_
    refine jns ?_
    iterate 2 refine jst hσ rfl rfl rfl rfl rfl ?_
    refine AOps.forget [(4, _), (0, _), (1, _)] ⟨rfl, rfl, rfl, trivial⟩ ?_
    refine jn ?_
    refine AWP.ret ?_
    refine ⟨.inl rfl, _, Ent.refl, _, rfl, ?_⟩
    rw [rightB, if_neg hc13, if_neg (by omega), if_pos hc27]
   ·
    try simp only [jcs] at hc27
    refine AWP.skip ?_
    refine AWP.seq ?_
    refine jsr ?_
    iterate 5 refine jst hσ rfl rfl rfl rfl rfl ?_
    first | refine jle hσ rfl rfl rfl rfl rfl rfl rfl rfl rfl rfl rfl ?_ | refine jst hσ rfl rfl rfl rfl rfl ?_ | refine jvf hσ rfl rfl rfl rfl rfl ?_
    refine jst hσ rfl rfl rfl rfl rfl ?_
    refine jf4 42 4 0 1 rfl rfl rfl rfl ?_
    refine jn ?_
    refine AWP.cond hσ rfl rfl (fun hc42 => ?_) (fun hc42 => ?_)
    ·
     try simp only [jcs] at hc42
     refine jsr ?_
     refine jst hσ rfl rfl rfl rfl rfl ?_
     refine jn ?_
     refine AWP.ret ?_
     refine ⟨.inl rfl, _, Ent.refl, _, rfl, ?_⟩
     rw [rightB, if_neg hc13, if_neg (by omega), if_neg hc27, if_pos (by omega)]
    ·
     try simp only [jcs] at hc42
     refine AWP.skip ?_
     refine jsr ?_
     iterate 5 refine jst hσ rfl rfl rfl rfl rfl ?_
     first | refine jix hσ rfl rfl rfl rfl rfl rfl rfl rfl rfl rfl rfl ?_ | refine jvf hσ rfl rfl rfl rfl rfl ?_
     refine jf4 49 4 0 1 rfl rfl rfl rfl ?_
     refine AOps.plainD hσ rfl rfl rfl rfl (c182 (t := ctx.getD n.fact.toNat default) h1 h2 (Small.of (hc.get (by omega)))) (VAs.self rfl) rfl rfl rfl rfl (B0 := 51000) rfl rfl ?_
     iterate 3 refine jst hσ rfl rfl rfl rfl rfl ?_
     refine jf5 52 51 4 0 1 rfl rfl rfl rfl rfl ?_
     refine AOps.heap (HS.alloc hσ rfl rfl rfl rfl rfl) rfl ?_
     refine AOps.heap (HS.storeBox hσ rfl rfl rfl rfl rfl rfl rfl rfl rfl rfl rfl) rfl ?_
     refine jst hσ rfl rfl rfl rfl rfl ?_
     refine jf4 8 4 0 1 rfl rfl rfl rfl ?_
     refine jns ?_
     iterate 2 refine jst hσ rfl rfl rfl rfl rfl ?_
     refine AOps.forget [(4, _), (0, _), (1, _)] ⟨rfl, rfl, rfl, trivial⟩ ?_
     refine jn ?_
     refine AWP.ret ?_
     refine ⟨.inl rfl, _, Ent.refl, _, rfl, ?_⟩
     rw [rightB, if_neg hc13, if_neg (by omega), if_neg hc27, if_neg (by omega)]
theorem ctxS_2 {s : Sq} : (ctxS s).2 = (oppT s.goal).2 := by unfold ctxS; split <;> simp_all
theorem snoc_get {α β : Type} {l : List α} {a : α} {f : α → β} {i : Nat} (h : l.length = i) : ((l ++ [a]).map f)[i]? = some (f a) := by subst h; simp
theorem csRun_snoc {p : List Nd} {c0 O : List Tm} {i : Nat} {z : CS} {Fi R : Bool} (hz : z = csRun p c0 i) (hO : O = ownF p c0 i z) (hF : Fi = fineF p i z) (hR : R = rightF p c0 i z) {fl : Int} (h : fl = if ((Fi && !R) && decide (z.flaw < 0)) = true then (i : Int) else z.flaw) :
    csRun p c0 (i + 1) = ⟨z.all ++ [O], z.has ++ [Fi], z.right ++ [R], fl⟩ := by
  subst hz hO hF hR h; rfl
set_option maxHeartbeats 1000000 in
theorem c85 {L : Nat} (h1 : 4096 ≤ L) (h2 : L ≤ 1073741824) {s : Sq} {p : List Nd} (hs : seqB s = true) (hp : isB p = true) : MC Try.prog L 87 [ptr s.cells, ands p] [] (Plain (.tup [.c (.d (ctxsD (conS s p).all)), .c (.d (boolsD (conS s p).has)), eI (conS s p).flaw, eB (conS s p).ok])) := by
 refine MC.data ?_
 have hσ := SGok (nt := 94) h1 (Nat.le_trans h2 (by decide))
 refine MC.body hσ Try.func87 (by kernel_rfl) rfl rfl (Nat.le_of_ble_eq_true rfl) (fun hF => ?_)
 obtain ⟨hs1, hs2, hs3⟩ := seqB_spec hs
 obtain ⟨hp1, hp2, hp3, hp4⟩ := isB_spec hp
 have hc0 := ctxS_ok hs
 refine jsr ?_
 iterate 4 refine jst hσ rfl rfl rfl rfl rfl ?_
 refine jns ?_
 refine jst hσ rfl rfl rfl rfl rfl ?_
 refine jf6 20 7 6 5 4 1 rfl rfl rfl rfl rfl rfl ?_
 refine AOps.plainD hσ rfl rfl rfl rfl (c139 (s := s) h1 h2 (Small.of hs3) (by omega)) (VAs.self rfl) rfl rfl rfl rfl (B0 := 22000) rfl rfl ?_
 iterate 5 refine jst hσ rfl rfl rfl rfl rfl ?_
 refine jf7 9 8 7 6 5 4 1 rfl rfl rfl rfl rfl rfl rfl ?_
 refine jn ?_
 refine AWP.seq ?_
 refine jsr ?_
 iterate 2 refine jst hσ rfl rfl rfl rfl rfl ?_
 refine jf7 25 8 7 6 5 4 1 rfl rfl rfl rfl rfl rfl rfl ?_
 refine jn ?_
 refine AWP.cond hσ rfl rfl (fun hc25 => ?_) (fun hc25 => ?_)
 ·
  skip
  refine jsr ?_
  iterate 4 refine jst hσ rfl rfl rfl rfl rfl ?_
  refine jn ?_
  refine AWP.ret ?_
  refine ⟨.inl rfl, _, Ent.refl, _, rfl, ?_⟩
  have hok : (oppT s.goal).2 = false := by rw [← ctxS_2]; simpa using hc25
  rw [show conS s p = ⟨[], [], 0, false⟩ from if_neg (by rw [hok]; decide)]
  exact .tup (.cons (.c .nils) (.cons (.c .nils) (.cons (.c .d) (.cons (.c .d) .nil))))
 ·
  skip
  refine AWP.skip ?_
  refine jsr ?_
  obtain ⟨c0, hc0e⟩ : ∃ c0, c0 = (ctxS s).1 := ⟨_, rfl⟩
  rw [← hc0e] at hc0 ⊢
  refine AOps.heap (HS.lit hσ rfl rfl rfl) rfl ?_
  refine jnm ?_
  refine jst hσ rfl rfl rfl rfl rfl ?_
  refine jf7 10 8 7 6 5 4 1 rfl rfl rfl rfl rfl rfl rfl ?_
  refine jns ?_
  refine AOps.heap (HS.lit hσ rfl rfl rfl) rfl ?_
  refine jnm ?_
  refine jst hσ rfl rfl rfl rfl rfl ?_
  refine jns ?_
  refine AOps.heap (HS.lit hσ rfl rfl rfl) rfl ?_
  refine jnm ?_
  refine jst hσ rfl rfl rfl rfl rfl ?_
  refine jns ?_
  refine jst hσ rfl rfl rfl rfl rfl ?_
  refine jn ?_
  refine AWP.seq ?_
  refine jsr ?_
  refine jst hσ rfl rfl rfl rfl rfl ?_
  refine jn ?_
  refine AWP.block ?_
  refine AWP.loopP (X := Nat) (fun i => ⟨[(1, ands p), (8, atms c0), (10, .c (.rs 900 0 i)), (11, .c (.rs 901 0 i)), (12, .c (.rs 902 0 i)), (13, eI (csRun p c0 i).flaw), (14, eI i)], [(900, .row false 1 ((csRun p c0 i).all.map cL)), (901, .row true 1 ((csRun p c0 i).has.map bL)), (902, .row true 1 ((csRun p c0 i).right.map bL))]⟩) (fun i => i ≤ p.length) (fun i => p.length - i) 0 ((Ent.unown 26 rfl).trans ((Ent.sub2 26 900 rfl rfl).trans ((Ent.sub2 27 901 rfl rfl).trans ((Ent.sub2 28 902 rfl rfl).trans (Ent.to ⟨rfl, rfl, rfl, rfl, rfl, rfl, rfl, trivial⟩ rfl))))) ?_ (fun i hi => ?_)
  ·
   exact Nat.zero_le _
  obtain ⟨z, hz⟩ : ∃ z, z = csRun p c0 i := ⟨_, rfl⟩
  have hzk : CSok p i z := by rw [hz]; exact csRun_ok hp hc0 hi
  rw [← hz]
  have hza := hzk.all
  have hzh := hzk.has
  have hzr := hzk.right
  obtain ⟨Fi, hFi⟩ : ∃ Fi, Fi = fineF p i z := ⟨_, rfl⟩
  obtain ⟨O, hO⟩ : ∃ O, O = ownF p c0 i z := ⟨_, rfl⟩
  obtain ⟨R, hR⟩ : ∃ R, R = rightF p c0 i z := ⟨_, rfl⟩
  refine AWP.seq ?_
  refine jsr ?_
  iterate 2 refine jst hσ rfl rfl rfl rfl rfl ?_
  first | refine jle hσ rfl rfl rfl rfl rfl rfl rfl rfl rfl rfl rfl ?_ | refine jst hσ rfl rfl rfl rfl rfl ?_ | refine jvf hσ rfl rfl rfl rfl rfl ?_
  refine jst hσ rfl rfl rfl rfl rfl ?_
  refine jf8 32 1 8 10 11 12 13 14 rfl rfl rfl rfl rfl rfl rfl rfl ?_
  refine jn ?_
  refine AWP.cond hσ rfl rfl (fun hc32 => ?_) (fun hc32 => ?_)
  ·
   skip
   refine AWP.skip ?_
   refine AWP.seq ?_
   refine AWP.block ?_
   refine jsr ?_
   have hik : i < p.length := by have h9 := of_decide_eq_true hc32; omega
   iterate 2 refine jst hσ rfl rfl rfl rfl rfl ?_
   refine jns ?_
   refine jst hσ rfl rfl rfl rfl rfl ?_
   refine jn ?_
   refine AWP.seq ?_
   refine jsr ?_
   iterate 2 refine jst hσ rfl rfl rfl rfl rfl ?_
   refine jn ?_
   refine AWP.cond hσ rfl rfl (fun hc37 => ?_) (fun hc37 => ?_)
   ·
    skip
    refine jsr ?_
    iterate 2 refine jst hσ rfl rfl rfl rfl rfl ?_
    refine AOps.plainD hσ rfl rfl rfl rfl (c140 (p := p) (k := i) h1 h2 (by omega)) (VAs.self rfl) rfl rfl rfl rfl (B0 := 42000) rfl rfl ?_
    iterate 5 refine jst hσ rfl rfl rfl rfl rfl ?_
    refine AOps.forget [(18, _), (17, _), (37, _), (36, _), (16, _), (15, _), (35, _), (32, _), (1, _), (8, _), (10, _), (11, _), (12, _), (13, _), (14, _)] ⟨rfl, rfl, rfl, rfl, rfl, rfl, rfl, rfl, rfl, rfl, rfl, rfl, rfl, rfl, rfl, trivial⟩ ?_
    refine jns ?_
    have hgt : 0 < i := by have h9 := of_decide_eq_true hc37; omega
    obtain ⟨a, ha, hak⟩ := par_in hp hgt hik
    rw [ha]
    have hFa : z.right.getD a default = Fi := by rw [hFi, fineF, if_neg (by omega), ha, Int.toNat_natCast]
    iterate 2 refine jst hσ rfl rfl rfl rfl rfl ?_
    first | refine jix hσ rfl rfl rfl rfl rfl rfl rfl rfl rfl rfl rfl ?_ | refine jvf hσ rfl rfl rfl rfl rfl ?_
    refine AOps.step ((Val.loadRow hσ (ex := bL (z.right.getD a default)) rfl rfl rfl rfl (by simp [show a < z.right.length by omega]) rfl).cast (v' := eB Fi) (by rw [hFa]; rfl)) rfl rfl rfl ?_
    refine jst hσ rfl rfl rfl rfl rfl ?_
    refine AOps.forget [(16, _), (18, _), (17, _), (37, _), (36, _), (15, _), (35, _), (32, _), (1, _), (8, _), (10, _), (11, _), (12, _), (13, _), (14, _)] ⟨rfl, rfl, rfl, rfl, rfl, rfl, rfl, rfl, rfl, rfl, rfl, rfl, rfl, rfl, rfl, trivial⟩ ?_
    refine jns ?_
    refine AOps.heap (HS.lit hσ rfl rfl rfl) rfl ?_
    refine jnm ?_
    refine AOps.to (Ent.freeze 48 (e' := [(48, _), (18, _), (17, _), (16, _), (1, _), (8, _), (10, _), (11, _), (12, _), (13, _), (14, _)]) rfl (.cons rfl (.c (.row rfl rfl)) (.cons rfl (.keep rfl) (.cons rfl (.keep rfl) (.cons rfl (.keep rfl) (.cons rfl (.keep rfl) (.cons rfl (.keep rfl) (.cons rfl (.keep rfl) (.cons rfl (.keep rfl) (.cons rfl (.keep rfl) (.cons rfl (.keep rfl) (.cons rfl (.keep rfl) .nil))))))))))) (.skip (.cons rfl .row (.cons rfl .row (.cons rfl .row .nil))))) ?_
    refine jnm ?_
    refine jst hσ rfl rfl rfl rfl rfl ?_
    refine jns ?_
    refine jst hσ rfl rfl rfl rfl rfl ?_
    refine jn ?_
    refine AWP.cond hσ rfl rfl (fun hc49 => ?_) (fun hc49 => ?_)
    ·
     skip
     refine AWP.forget [(49, _), (48, _), (18, _), (17, _), (16, _), (1, _), (8, _), (10, _), (11, _), (12, _), (13, _), (14, _)] ⟨rfl, rfl, rfl, rfl, rfl, rfl, rfl, rfl, rfl, rfl, rfl, rfl, trivial⟩ ?_
     have hz9 := hzk.good a hak (by rw [hFa]; exact hc49)
     have hcx := hzk.ctx a hak hz9.1
     have hbo := below_ok (first := (par p i i).2) (ndB_get hp (by omega)) hcx (par_kind ha).1 hz9.2
     have hnt := Small.of (ndB_term (ndB_get hp (show a < p.length by omega)))
     refine AWP.drawR hσ _ [_, _, _, _, _, _, _, _, _, _] [⟨[], 0, 0, none⟩, ⟨[], 0, 0, none⟩, ⟨[0, 1], 0, 0, none⟩, ⟨[], 0, 0, none⟩, ⟨[], 0, 0, none⟩, ⟨[3, 4], 0, 0, none⟩, ⟨[3, 4, 5], 0, 0, none⟩, ⟨[], 0, 0, none⟩, ⟨[0, 1, 2, 3, 4, 5, 6, 7], 0, 0, some 0⟩, ⟨[0, 1, 2, 3, 4, 5, 6, 7, 8], 1, 1, none⟩] [8] [_, _] rfl rfl (by decide) (by decide) (by kernel_rfl) (And.intro (Val.of hσ rfl rfl) (And.intro (Val.of hσ rfl rfl) (And.intro (Val.indexD hσ rfl rfl rfl rfl rfl rfl rfl rfl (by first | omega | (simp at *; omega)) (idx_get (by first | omega | (simp at *; omega)) (by first | omega | (simp at *; omega)))) (And.intro (Val.of hσ rfl rfl) (And.intro (Val.of hσ rfl rfl) (And.intro (Val.vif hσ rfl rfl (by first | omega | (simp at *; omega))) (And.intro (Val.loadRow hσ (ex := cL (z.all.getD a default)) rfl rfl rfl rfl (by simp [show a < z.all.length by omega]) rfl) (And.intro (Val.of hσ rfl rfl) (And.intro (Eff.plainD hσ (B0 := 59000) rfl rfl rfl rfl (c141 (n := p.getD a default) (ctx := z.all.getD a default) (first := (par p i i).2) h1 h2 hcx hnt hbo.2) (VAs.self rfl) rfl rfl rfl rfl rfl) (And.intro (Val.of hσ rfl rfl) trivial)))))))))) ?_
     refine AWP.forget [(15, _), (49, _), (48, _), (17, _), (16, _), (1, _), (8, _), (10, _), (11, _), (12, _), (13, _), (14, _)] ⟨rfl, rfl, rfl, rfl, rfl, rfl, rfl, rfl, rfl, rfl, rfl, rfl, trivial⟩ ?_
     refine jnw ?_
     refine jsr ?_
     refine AOps.to (Ent.to (e' := [(15, atms O), (16, eB Fi), (1, _), (8, _), (10, _), (11, _), (12, _), (13, _), (14, _)]) ⟨(by first | (rw [hO, ownF, if_pos (by have h9 := of_decide_eq_false hc37; omega)]; rfl) | (rw [hO, ownF, if_neg (by omega), if_pos (by rw [← hFi]; exact hc49), ha, Int.toNat_natCast]; rfl) | (rw [hO, ownF, if_neg (by omega), if_neg (by rw [← hFi, hc49]; decide)]; rfl)), (by first | rfl | (rw [hFi, fineF, if_pos (by have h9 := of_decide_eq_false hc37; omega)]; rfl)), rfl, rfl, rfl, rfl, rfl, rfl, rfl, trivial⟩ rfl) ?_
     iterate 2 refine jst hσ rfl rfl rfl rfl rfl ?_
     refine AOps.heap (HS.litD hσ rfl rfl rfl rfl rfl rfl rfl rfl rfl rfl rfl) rfl ?_
     refine jnm ?_
     refine jf11 61 59 15 16 1 8 10 11 12 13 14 rfl rfl rfl rfl rfl rfl rfl rfl rfl rfl rfl ?_
     refine AOps.heap (HS.appCopy (own := false) (xs := (z.all).map cL) (ys := [cL O]) (zs := (z.all ++ [O]).map cL) (n := i + 1) hσ rfl rfl rfl rfl rfl rfl rfl rfl rfl rfl rfl rfl rfl rfl rfl rfl (.row rfl (by simp [hza])) (.whole rfl rfl (.inr ⟨rfl, rfl⟩)) (by simp) rfl (by simp [hza]; omega) (by simp [hza]; omega) (List.map_append (f := cL) (l₁ := z.all) (l₂ := [O])).symm (by simp [hza])) rfl ?_
     refine jnm ?_
     refine jnm ?_
     refine jst hσ rfl rfl rfl rfl rfl ?_
     refine jf9 10 15 16 1 8 11 12 13 14 rfl rfl rfl rfl rfl rfl rfl rfl rfl ?_
     refine jns ?_
     iterate 2 refine jst hσ rfl rfl rfl rfl rfl ?_
     refine AOps.heap (HS.lit hσ rfl rfl rfl) rfl ?_
     refine jnm ?_
     refine jf11 65 63 10 15 16 1 8 11 12 13 14 rfl rfl rfl rfl rfl rfl rfl rfl rfl rfl rfl ?_
     refine AOps.heap (HS.appMove (zs := (z.has ++ [Fi]).map bL) (n := i + 1) hσ rfl rfl rfl rfl rfl rfl rfl rfl rfl rfl rfl rfl rfl rfl rfl rfl (.row rfl (by simp [hzh])) rfl rfl (by decide) rfl (by simp [hzh]; omega) (by simp [hzh]; omega) (List.map_append (f := bL) (l₁ := z.has) (l₂ := [Fi])).symm (by simp [hzh])) rfl ?_
     refine jnm ?_
     refine jnm ?_
     refine jst hσ rfl rfl rfl rfl rfl ?_
     refine jf9 11 10 15 16 1 8 12 13 14 rfl rfl rfl rfl rfl rfl rfl rfl rfl ?_
     refine jns ?_
     iterate 3 refine jst hσ rfl rfl rfl rfl rfl ?_
     refine jf11 69 67 11 10 15 16 1 8 12 13 14 rfl rfl rfl rfl rfl rfl rfl rfl rfl rfl rfl ?_
     refine AOps.gr 5 rfl rfl rfl (fun hx => AN.step hx rfl rfl rfl (Val.of hσ rfl rfl) rfl rfl ( AN.step hx rfl rfl rfl (Val.of hσ rfl rfl) rfl rfl ( AN.step hx rfl rfl rfl (Val.indexD hσ rfl rfl rfl rfl rfl rfl rfl rfl (by first | omega | (simp at *; omega)) (idx_get (by first | omega | (simp at *; omega)) (by first | omega | (simp at *; omega)))) rfl rfl ( AN.step hx rfl rfl rfl (Val.of hσ rfl rfl) rfl rfl ( AN.lone hσ hx rfl rfl rfl rfl (c142 (n := p.getD i default) (ctx := O) h1 h2 (by rw [hO]; exact cs_own hp hc0 hik hzk (by rw [← hFi]; simpa using hx)) (ndB_get hp hik)) (VAs.self rfl) rfl rfl rfl rfl rfl rfl rfl (B0 := 75000) rfl ( AN.nil)))))) rfl rfl ?_
     refine AOps.step ((Val.pickT hσ rfl rfl rfl rfl rfl).cast (v' := eB R) (by rw [hR, rightF, ← hFi, ← hO, Bool.cond_false_right])) rfl rfl rfl ?_
     refine jf11 75 67 11 10 15 16 1 8 12 13 14 rfl rfl rfl rfl rfl rfl rfl rfl rfl rfl rfl ?_
     refine AOps.heap (HS.lit hσ rfl rfl rfl) rfl ?_
     refine jnm ?_
     refine jf11 76 67 11 10 15 16 1 8 12 13 14 rfl rfl rfl rfl rfl rfl rfl rfl rfl rfl rfl ?_
     refine AOps.heap (HS.appMove (zs := (z.right ++ [R]).map bL) (n := i + 1) hσ rfl rfl rfl rfl rfl rfl rfl rfl rfl rfl rfl rfl rfl rfl rfl rfl (.row rfl (by simp [hzr])) rfl rfl (by decide) rfl (by simp [hzr]; omega) (by simp [hzr]; omega) (List.map_append (f := bL) (l₁ := z.right) (l₂ := [R])).symm (by simp [hzr])) rfl ?_
     refine jnm ?_
     refine jnm ?_
     refine jst hσ rfl rfl rfl rfl rfl ?_
     refine jf9 12 11 10 15 16 1 8 13 14 rfl rfl rfl rfl rfl rfl rfl rfl rfl ?_
     refine jns ?_
     iterate 2 refine jst hσ rfl rfl rfl rfl rfl ?_
     refine jf10 79 12 11 10 15 16 1 8 13 14 rfl rfl rfl rfl rfl rfl rfl rfl rfl rfl ?_
     refine AOps.gr 5 rfl rfl rfl (fun hx => AN.step hx rfl rfl rfl (Val.of hσ rfl rfl) rfl rfl ( AN.step hx rfl rfl rfl (Val.of hσ rfl rfl) rfl rfl ( AN.step hx rfl rfl rfl (Val.vif hσ rfl rfl (by first | omega | (simp at *; omega))) rfl rfl ( AN.step hx rfl rfl rfl (Val.loadRow hσ (ex := bL R) rfl rfl rfl rfl (by rw [Nat.zero_add, Int.toNat_natCast]; exact snoc_get hzr) rfl) rfl rfl ( AN.step hx rfl rfl rfl (Val.of hσ rfl rfl) rfl rfl ( AN.nil)))))) rfl rfl ?_
     first | refine AOps.step (Val.pickT hσ rfl rfl rfl rfl rfl) rfl rfl rfl ?_ | refine AOps.step (Val.pickF hσ rfl rfl rfl rfl rfl) rfl rfl rfl ?_ | refine AOps.step (Val.pickB hσ rfl rfl rfl rfl rfl) rfl rfl rfl ?_
     refine jst hσ rfl rfl rfl rfl rfl ?_
     refine jf10 86 12 11 10 15 16 1 8 13 14 rfl rfl rfl rfl rfl rfl rfl rfl rfl rfl ?_
     refine AOps.gr 2 rfl rfl rfl (fun hx => AN.step hx rfl rfl rfl (Val.of hσ rfl rfl) rfl rfl ( AN.step hx rfl rfl rfl (Val.of hσ rfl rfl) rfl rfl ( AN.nil))) rfl rfl ?_
     first | refine AOps.step (Val.pickT hσ rfl rfl rfl rfl rfl) rfl rfl rfl ?_ | refine AOps.step (Val.pickF hσ rfl rfl rfl rfl rfl) rfl rfl rfl ?_ | refine AOps.step (Val.pickB hσ rfl rfl rfl rfl rfl) rfl rfl rfl ?_
     refine jf10 89 12 11 10 15 16 1 8 13 14 rfl rfl rfl rfl rfl rfl rfl rfl rfl rfl ?_
     refine jn ?_
     refine AWP.cond hσ rfl rfl (fun hc89 => ?_) (fun hc89 => ?_)
     ·
      skip
      refine AWP.region ?_
      iterate 2 refine jst hσ rfl rfl rfl rfl rfl ?_
      refine jn ?_
      refine AWP.region ?_
      refine jst hσ rfl rfl rfl rfl rfl ?_
      first | refine jfi hσ rfl rfl rfl rfl rfl ?_ | refine jvf hσ rfl rfl rfl rfl rfl ?_
      refine jst hσ rfl rfl rfl rfl rfl ?_
      refine jf11 14 13 90 89 12 11 10 15 16 1 8 rfl rfl rfl rfl rfl rfl rfl rfl rfl rfl rfl ?_
      refine jn ?_
      have hc89' : ((Fi && !R) && decide (z.flaw < 0)) = true := by have h9 := hc89; rw [Bool.cond_false_right, Bool.cond_false_right] at h9; exact h9
      have hst := csRun_snoc hz hO hFi hR (fl := (i : Int)) (by rw [if_pos hc89'])
      refine ⟨i + 1, (((((Ent.sel [62, 66, 77] (e' := [(1, _), (8, _), (10, _), (11, _), (12, _), (13, _), (14, _)]) rfl rfl ⟨rfl, rfl, rfl, rfl, rfl, rfl, rfl, trivial⟩ rfl).trans (Ent.sub2 62 900 rfl rfl)).trans (Ent.sub2 66 901 rfl rfl)).trans (Ent.sub2 77 902 rfl rfl))).trans (Ent.to ⟨rfl, rfl, rfl, rfl, rfl, by rw [hst]; rfl, rfl, trivial⟩ (by rw [hst]; rfl)), by omega, by omega⟩
     ·
      skip
      refine AWP.skip ?_
      refine AWP.region ?_
      refine jst hσ rfl rfl rfl rfl rfl ?_
      first | refine jfi hσ rfl rfl rfl rfl rfl ?_ | refine jvf hσ rfl rfl rfl rfl rfl ?_
      refine jst hσ rfl rfl rfl rfl rfl ?_
      refine jf10 14 89 12 11 10 15 16 1 8 13 rfl rfl rfl rfl rfl rfl rfl rfl rfl rfl ?_
      refine jn ?_
      have hc89' : ((Fi && !R) && decide (z.flaw < 0)) = false := by have h9 := hc89; rw [Bool.cond_false_right, Bool.cond_false_right] at h9; exact h9
      have hst := csRun_snoc hz hO hFi hR (fl := z.flaw) (by rw [if_neg (by rw [hc89']; decide)])
      refine ⟨i + 1, (((((Ent.sel [62, 66, 77] (e' := [(1, _), (8, _), (10, _), (11, _), (12, _), (13, _), (14, _)]) rfl rfl ⟨rfl, rfl, rfl, rfl, rfl, rfl, rfl, trivial⟩ rfl).trans (Ent.sub2 62 900 rfl rfl)).trans (Ent.sub2 66 901 rfl rfl)).trans (Ent.sub2 77 902 rfl rfl))).trans (Ent.to ⟨rfl, rfl, rfl, rfl, rfl, by rw [hst]; rfl, rfl, trivial⟩ (by rw [hst]; rfl)), by omega, by omega⟩
    ·
     skip
     refine AWP.skip ?_
     refine jsr ?_
     refine AOps.to (Ent.to (e' := [(15, atms O), (16, eB Fi), (1, _), (8, _), (10, _), (11, _), (12, _), (13, _), (14, _)]) ⟨(by first | (rw [hO, ownF, if_pos (by have h9 := of_decide_eq_false hc37; omega)]; rfl) | (rw [hO, ownF, if_neg (by omega), if_pos (by rw [← hFi]; exact hc49), ha, Int.toNat_natCast]; rfl) | (rw [hO, ownF, if_neg (by omega), if_neg (by rw [← hFi, hc49]; decide)]; rfl)), (by first | rfl | (rw [hFi, fineF, if_pos (by have h9 := of_decide_eq_false hc37; omega)]; rfl)), rfl, rfl, rfl, rfl, rfl, rfl, rfl, trivial⟩ rfl) ?_
     iterate 2 refine jst hσ rfl rfl rfl rfl rfl ?_
     refine AOps.heap (HS.litD hσ rfl rfl rfl rfl rfl rfl rfl rfl rfl rfl rfl) rfl ?_
     refine jnm ?_
     refine jf11 61 59 15 16 1 8 10 11 12 13 14 rfl rfl rfl rfl rfl rfl rfl rfl rfl rfl rfl ?_
     refine AOps.heap (HS.appCopy (own := false) (xs := (z.all).map cL) (ys := [cL O]) (zs := (z.all ++ [O]).map cL) (n := i + 1) hσ rfl rfl rfl rfl rfl rfl rfl rfl rfl rfl rfl rfl rfl rfl rfl rfl (.row rfl (by simp [hza])) (.whole rfl rfl (.inr ⟨rfl, rfl⟩)) (by simp) rfl (by simp [hza]; omega) (by simp [hza]; omega) (List.map_append (f := cL) (l₁ := z.all) (l₂ := [O])).symm (by simp [hza])) rfl ?_
     refine jnm ?_
     refine jnm ?_
     refine jst hσ rfl rfl rfl rfl rfl ?_
     refine jf9 10 15 16 1 8 11 12 13 14 rfl rfl rfl rfl rfl rfl rfl rfl rfl ?_
     refine jns ?_
     iterate 2 refine jst hσ rfl rfl rfl rfl rfl ?_
     refine AOps.heap (HS.lit hσ rfl rfl rfl) rfl ?_
     refine jnm ?_
     refine jf11 65 63 10 15 16 1 8 11 12 13 14 rfl rfl rfl rfl rfl rfl rfl rfl rfl rfl rfl ?_
     refine AOps.heap (HS.appMove (zs := (z.has ++ [Fi]).map bL) (n := i + 1) hσ rfl rfl rfl rfl rfl rfl rfl rfl rfl rfl rfl rfl rfl rfl rfl rfl (.row rfl (by simp [hzh])) rfl rfl (by decide) rfl (by simp [hzh]; omega) (by simp [hzh]; omega) (List.map_append (f := bL) (l₁ := z.has) (l₂ := [Fi])).symm (by simp [hzh])) rfl ?_
     refine jnm ?_
     refine jnm ?_
     refine jst hσ rfl rfl rfl rfl rfl ?_
     refine jf9 11 10 15 16 1 8 12 13 14 rfl rfl rfl rfl rfl rfl rfl rfl rfl ?_
     refine jns ?_
     iterate 3 refine jst hσ rfl rfl rfl rfl rfl ?_
     refine jf11 69 67 11 10 15 16 1 8 12 13 14 rfl rfl rfl rfl rfl rfl rfl rfl rfl rfl rfl ?_
     refine AOps.gr 5 rfl rfl rfl (fun hx => AN.step hx rfl rfl rfl (Val.of hσ rfl rfl) rfl rfl ( AN.step hx rfl rfl rfl (Val.of hσ rfl rfl) rfl rfl ( AN.step hx rfl rfl rfl (Val.indexD hσ rfl rfl rfl rfl rfl rfl rfl rfl (by first | omega | (simp at *; omega)) (idx_get (by first | omega | (simp at *; omega)) (by first | omega | (simp at *; omega)))) rfl rfl ( AN.step hx rfl rfl rfl (Val.of hσ rfl rfl) rfl rfl ( AN.lone hσ hx rfl rfl rfl rfl (c142 (n := p.getD i default) (ctx := O) h1 h2 (by rw [hO]; exact cs_own hp hc0 hik hzk (by rw [← hFi]; simpa using hx)) (ndB_get hp hik)) (VAs.self rfl) rfl rfl rfl rfl rfl rfl rfl (B0 := 75000) rfl ( AN.nil)))))) rfl rfl ?_
     refine AOps.step ((Val.pickT hσ rfl rfl rfl rfl rfl).cast (v' := eB R) (by rw [hR, rightF, ← hFi, ← hO, Bool.cond_false_right])) rfl rfl rfl ?_
     refine jf11 75 67 11 10 15 16 1 8 12 13 14 rfl rfl rfl rfl rfl rfl rfl rfl rfl rfl rfl ?_
     refine AOps.heap (HS.lit hσ rfl rfl rfl) rfl ?_
     refine jnm ?_
     refine jf11 76 67 11 10 15 16 1 8 12 13 14 rfl rfl rfl rfl rfl rfl rfl rfl rfl rfl rfl ?_
     refine AOps.heap (HS.appMove (zs := (z.right ++ [R]).map bL) (n := i + 1) hσ rfl rfl rfl rfl rfl rfl rfl rfl rfl rfl rfl rfl rfl rfl rfl rfl (.row rfl (by simp [hzr])) rfl rfl (by decide) rfl (by simp [hzr]; omega) (by simp [hzr]; omega) (List.map_append (f := bL) (l₁ := z.right) (l₂ := [R])).symm (by simp [hzr])) rfl ?_
     refine jnm ?_
     refine jnm ?_
     refine jst hσ rfl rfl rfl rfl rfl ?_
     refine jf9 12 11 10 15 16 1 8 13 14 rfl rfl rfl rfl rfl rfl rfl rfl rfl ?_
     refine jns ?_
     iterate 2 refine jst hσ rfl rfl rfl rfl rfl ?_
     refine jf10 79 12 11 10 15 16 1 8 13 14 rfl rfl rfl rfl rfl rfl rfl rfl rfl rfl ?_
     refine AOps.gr 5 rfl rfl rfl (fun hx => AN.step hx rfl rfl rfl (Val.of hσ rfl rfl) rfl rfl ( AN.step hx rfl rfl rfl (Val.of hσ rfl rfl) rfl rfl ( AN.step hx rfl rfl rfl (Val.vif hσ rfl rfl (by first | omega | (simp at *; omega))) rfl rfl ( AN.step hx rfl rfl rfl (Val.loadRow hσ (ex := bL R) rfl rfl rfl rfl (by rw [Nat.zero_add, Int.toNat_natCast]; exact snoc_get hzr) rfl) rfl rfl ( AN.step hx rfl rfl rfl (Val.of hσ rfl rfl) rfl rfl ( AN.nil)))))) rfl rfl ?_
     first | refine AOps.step (Val.pickT hσ rfl rfl rfl rfl rfl) rfl rfl rfl ?_ | refine AOps.step (Val.pickF hσ rfl rfl rfl rfl rfl) rfl rfl rfl ?_ | refine AOps.step (Val.pickB hσ rfl rfl rfl rfl rfl) rfl rfl rfl ?_
     refine jst hσ rfl rfl rfl rfl rfl ?_
     refine jf10 86 12 11 10 15 16 1 8 13 14 rfl rfl rfl rfl rfl rfl rfl rfl rfl rfl ?_
     refine AOps.gr 2 rfl rfl rfl (fun hx => AN.step hx rfl rfl rfl (Val.of hσ rfl rfl) rfl rfl ( AN.step hx rfl rfl rfl (Val.of hσ rfl rfl) rfl rfl ( AN.nil))) rfl rfl ?_
     first | refine AOps.step (Val.pickT hσ rfl rfl rfl rfl rfl) rfl rfl rfl ?_ | refine AOps.step (Val.pickF hσ rfl rfl rfl rfl rfl) rfl rfl rfl ?_ | refine AOps.step (Val.pickB hσ rfl rfl rfl rfl rfl) rfl rfl rfl ?_
     refine jf10 89 12 11 10 15 16 1 8 13 14 rfl rfl rfl rfl rfl rfl rfl rfl rfl rfl ?_
     refine jn ?_
     refine AWP.cond hσ rfl rfl (fun hc89 => ?_) (fun hc89 => ?_)
     ·
      skip
      refine AWP.region ?_
      iterate 2 refine jst hσ rfl rfl rfl rfl rfl ?_
      refine jn ?_
      refine AWP.region ?_
      refine jst hσ rfl rfl rfl rfl rfl ?_
      first | refine jfi hσ rfl rfl rfl rfl rfl ?_ | refine jvf hσ rfl rfl rfl rfl rfl ?_
      refine jst hσ rfl rfl rfl rfl rfl ?_
      refine jf11 14 13 90 89 12 11 10 15 16 1 8 rfl rfl rfl rfl rfl rfl rfl rfl rfl rfl rfl ?_
      refine jn ?_
      have hc89' : ((Fi && !R) && decide (z.flaw < 0)) = true := by have h9 := hc89; rw [Bool.cond_false_right, Bool.cond_false_right] at h9; exact h9
      have hst := csRun_snoc hz hO hFi hR (fl := (i : Int)) (by rw [if_pos hc89'])
      refine ⟨i + 1, (((((Ent.sel [62, 66, 77] (e' := [(1, _), (8, _), (10, _), (11, _), (12, _), (13, _), (14, _)]) rfl rfl ⟨rfl, rfl, rfl, rfl, rfl, rfl, rfl, trivial⟩ rfl).trans (Ent.sub2 62 900 rfl rfl)).trans (Ent.sub2 66 901 rfl rfl)).trans (Ent.sub2 77 902 rfl rfl))).trans (Ent.to ⟨rfl, rfl, rfl, rfl, rfl, by rw [hst]; rfl, rfl, trivial⟩ (by rw [hst]; rfl)), by omega, by omega⟩
     ·
      skip
      refine AWP.skip ?_
      refine AWP.region ?_
      refine jst hσ rfl rfl rfl rfl rfl ?_
      first | refine jfi hσ rfl rfl rfl rfl rfl ?_ | refine jvf hσ rfl rfl rfl rfl rfl ?_
      refine jst hσ rfl rfl rfl rfl rfl ?_
      refine jf10 14 89 12 11 10 15 16 1 8 13 rfl rfl rfl rfl rfl rfl rfl rfl rfl rfl ?_
      refine jn ?_
      have hc89' : ((Fi && !R) && decide (z.flaw < 0)) = false := by have h9 := hc89; rw [Bool.cond_false_right, Bool.cond_false_right] at h9; exact h9
      have hst := csRun_snoc hz hO hFi hR (fl := z.flaw) (by rw [if_neg (by rw [hc89']; decide)])
      refine ⟨i + 1, (((((Ent.sel [62, 66, 77] (e' := [(1, _), (8, _), (10, _), (11, _), (12, _), (13, _), (14, _)]) rfl rfl ⟨rfl, rfl, rfl, rfl, rfl, rfl, rfl, trivial⟩ rfl).trans (Ent.sub2 62 900 rfl rfl)).trans (Ent.sub2 66 901 rfl rfl)).trans (Ent.sub2 77 902 rfl rfl))).trans (Ent.to ⟨rfl, rfl, rfl, rfl, rfl, by rw [hst]; rfl, rfl, trivial⟩ (by rw [hst]; rfl)), by omega, by omega⟩
   ·
    skip
    refine AWP.skip ?_
    refine jsr ?_
    refine AOps.to (Ent.to (e' := [(15, atms O), (16, eB Fi), (1, _), (8, _), (10, _), (11, _), (12, _), (13, _), (14, _)]) ⟨(by first | (rw [hO, ownF, if_pos (by have h9 := of_decide_eq_false hc37; omega)]; rfl) | (rw [hO, ownF, if_neg (by omega), if_pos (by rw [← hFi]; exact hc49), ha, Int.toNat_natCast]; rfl) | (rw [hO, ownF, if_neg (by omega), if_neg (by rw [← hFi, hc49]; decide)]; rfl)), (by first | rfl | (rw [hFi, fineF, if_pos (by have h9 := of_decide_eq_false hc37; omega)]; rfl)), rfl, rfl, rfl, rfl, rfl, rfl, rfl, trivial⟩ rfl) ?_
    iterate 2 refine jst hσ rfl rfl rfl rfl rfl ?_
    refine AOps.heap (HS.litD hσ rfl rfl rfl rfl rfl rfl rfl rfl rfl rfl rfl) rfl ?_
    refine jnm ?_
    refine jf11 61 59 15 16 1 8 10 11 12 13 14 rfl rfl rfl rfl rfl rfl rfl rfl rfl rfl rfl ?_
    refine AOps.heap (HS.appCopy (own := false) (xs := (z.all).map cL) (ys := [cL O]) (zs := (z.all ++ [O]).map cL) (n := i + 1) hσ rfl rfl rfl rfl rfl rfl rfl rfl rfl rfl rfl rfl rfl rfl rfl rfl (.row rfl (by simp [hza])) (.whole rfl rfl (.inr ⟨rfl, rfl⟩)) (by simp) rfl (by simp [hza]; omega) (by simp [hza]; omega) (List.map_append (f := cL) (l₁ := z.all) (l₂ := [O])).symm (by simp [hza])) rfl ?_
    refine jnm ?_
    refine jnm ?_
    refine jst hσ rfl rfl rfl rfl rfl ?_
    refine jf9 10 15 16 1 8 11 12 13 14 rfl rfl rfl rfl rfl rfl rfl rfl rfl ?_
    refine jns ?_
    iterate 2 refine jst hσ rfl rfl rfl rfl rfl ?_
    refine AOps.heap (HS.lit hσ rfl rfl rfl) rfl ?_
    refine jnm ?_
    refine jf11 65 63 10 15 16 1 8 11 12 13 14 rfl rfl rfl rfl rfl rfl rfl rfl rfl rfl rfl ?_
    refine AOps.heap (HS.appMove (zs := (z.has ++ [Fi]).map bL) (n := i + 1) hσ rfl rfl rfl rfl rfl rfl rfl rfl rfl rfl rfl rfl rfl rfl rfl rfl (.row rfl (by simp [hzh])) rfl rfl (by decide) rfl (by simp [hzh]; omega) (by simp [hzh]; omega) (List.map_append (f := bL) (l₁ := z.has) (l₂ := [Fi])).symm (by simp [hzh])) rfl ?_
    refine jnm ?_
    refine jnm ?_
    refine jst hσ rfl rfl rfl rfl rfl ?_
    refine jf9 11 10 15 16 1 8 12 13 14 rfl rfl rfl rfl rfl rfl rfl rfl rfl ?_
    refine jns ?_
    iterate 3 refine jst hσ rfl rfl rfl rfl rfl ?_
    refine jf11 69 67 11 10 15 16 1 8 12 13 14 rfl rfl rfl rfl rfl rfl rfl rfl rfl rfl rfl ?_
    refine AOps.gr 5 rfl rfl rfl (fun hx => AN.step hx rfl rfl rfl (Val.of hσ rfl rfl) rfl rfl ( AN.step hx rfl rfl rfl (Val.of hσ rfl rfl) rfl rfl ( AN.step hx rfl rfl rfl (Val.indexD hσ rfl rfl rfl rfl rfl rfl rfl rfl (by first | omega | (simp at *; omega)) (idx_get (by first | omega | (simp at *; omega)) (by first | omega | (simp at *; omega)))) rfl rfl ( AN.step hx rfl rfl rfl (Val.of hσ rfl rfl) rfl rfl ( AN.lone hσ hx rfl rfl rfl rfl (c142 (n := p.getD i default) (ctx := O) h1 h2 (by rw [hO]; exact cs_own hp hc0 hik hzk (by rw [← hFi]; simpa using hx)) (ndB_get hp hik)) (VAs.self rfl) rfl rfl rfl rfl rfl rfl rfl (B0 := 75000) rfl ( AN.nil)))))) rfl rfl ?_
    refine AOps.step ((Val.pickT hσ rfl rfl rfl rfl rfl).cast (v' := eB R) (by rw [hR, rightF, ← hFi, ← hO, Bool.cond_false_right])) rfl rfl rfl ?_
    refine jf11 75 67 11 10 15 16 1 8 12 13 14 rfl rfl rfl rfl rfl rfl rfl rfl rfl rfl rfl ?_
    refine AOps.heap (HS.lit hσ rfl rfl rfl) rfl ?_
    refine jnm ?_
    refine jf11 76 67 11 10 15 16 1 8 12 13 14 rfl rfl rfl rfl rfl rfl rfl rfl rfl rfl rfl ?_
    refine AOps.heap (HS.appMove (zs := (z.right ++ [R]).map bL) (n := i + 1) hσ rfl rfl rfl rfl rfl rfl rfl rfl rfl rfl rfl rfl rfl rfl rfl rfl (.row rfl (by simp [hzr])) rfl rfl (by decide) rfl (by simp [hzr]; omega) (by simp [hzr]; omega) (List.map_append (f := bL) (l₁ := z.right) (l₂ := [R])).symm (by simp [hzr])) rfl ?_
    refine jnm ?_
    refine jnm ?_
    refine jst hσ rfl rfl rfl rfl rfl ?_
    refine jf9 12 11 10 15 16 1 8 13 14 rfl rfl rfl rfl rfl rfl rfl rfl rfl ?_
    refine jns ?_
    iterate 2 refine jst hσ rfl rfl rfl rfl rfl ?_
    refine jf10 79 12 11 10 15 16 1 8 13 14 rfl rfl rfl rfl rfl rfl rfl rfl rfl rfl ?_
    refine AOps.gr 5 rfl rfl rfl (fun hx => AN.step hx rfl rfl rfl (Val.of hσ rfl rfl) rfl rfl ( AN.step hx rfl rfl rfl (Val.of hσ rfl rfl) rfl rfl ( AN.step hx rfl rfl rfl (Val.vif hσ rfl rfl (by first | omega | (simp at *; omega))) rfl rfl ( AN.step hx rfl rfl rfl (Val.loadRow hσ (ex := bL R) rfl rfl rfl rfl (by rw [Nat.zero_add, Int.toNat_natCast]; exact snoc_get hzr) rfl) rfl rfl ( AN.step hx rfl rfl rfl (Val.of hσ rfl rfl) rfl rfl ( AN.nil)))))) rfl rfl ?_
    first | refine AOps.step (Val.pickT hσ rfl rfl rfl rfl rfl) rfl rfl rfl ?_ | refine AOps.step (Val.pickF hσ rfl rfl rfl rfl rfl) rfl rfl rfl ?_ | refine AOps.step (Val.pickB hσ rfl rfl rfl rfl rfl) rfl rfl rfl ?_
    refine jst hσ rfl rfl rfl rfl rfl ?_
    refine jf10 86 12 11 10 15 16 1 8 13 14 rfl rfl rfl rfl rfl rfl rfl rfl rfl rfl ?_
    refine AOps.gr 2 rfl rfl rfl (fun hx => AN.step hx rfl rfl rfl (Val.of hσ rfl rfl) rfl rfl ( AN.step hx rfl rfl rfl (Val.of hσ rfl rfl) rfl rfl ( AN.nil))) rfl rfl ?_
    first | refine AOps.step (Val.pickT hσ rfl rfl rfl rfl rfl) rfl rfl rfl ?_ | refine AOps.step (Val.pickF hσ rfl rfl rfl rfl rfl) rfl rfl rfl ?_ | refine AOps.step (Val.pickB hσ rfl rfl rfl rfl rfl) rfl rfl rfl ?_
    refine jf10 89 12 11 10 15 16 1 8 13 14 rfl rfl rfl rfl rfl rfl rfl rfl rfl rfl ?_
    refine jn ?_
    refine AWP.cond hσ rfl rfl (fun hc89 => ?_) (fun hc89 => ?_)
    ·
     skip
     refine AWP.region ?_
     iterate 2 refine jst hσ rfl rfl rfl rfl rfl ?_
     refine jn ?_
     refine AWP.region ?_
     refine jst hσ rfl rfl rfl rfl rfl ?_
     first | refine jfi hσ rfl rfl rfl rfl rfl ?_ | refine jvf hσ rfl rfl rfl rfl rfl ?_
     refine jst hσ rfl rfl rfl rfl rfl ?_
     refine jf11 14 13 90 89 12 11 10 15 16 1 8 rfl rfl rfl rfl rfl rfl rfl rfl rfl rfl rfl ?_
     refine jn ?_
     have hc89' : ((Fi && !R) && decide (z.flaw < 0)) = true := by have h9 := hc89; rw [Bool.cond_false_right, Bool.cond_false_right] at h9; exact h9
     have hst := csRun_snoc hz hO hFi hR (fl := (i : Int)) (by rw [if_pos hc89'])
     refine ⟨i + 1, (((((Ent.sel [62, 66, 77] (e' := [(1, _), (8, _), (10, _), (11, _), (12, _), (13, _), (14, _)]) rfl rfl ⟨rfl, rfl, rfl, rfl, rfl, rfl, rfl, trivial⟩ rfl).trans (Ent.sub2 62 900 rfl rfl)).trans (Ent.sub2 66 901 rfl rfl)).trans (Ent.sub2 77 902 rfl rfl))).trans (Ent.to ⟨rfl, rfl, rfl, rfl, rfl, by rw [hst]; rfl, rfl, trivial⟩ (by rw [hst]; rfl)), by omega, by omega⟩
    ·
     skip
     refine AWP.skip ?_
     refine AWP.region ?_
     refine jst hσ rfl rfl rfl rfl rfl ?_
     first | refine jfi hσ rfl rfl rfl rfl rfl ?_ | refine jvf hσ rfl rfl rfl rfl rfl ?_
     refine jst hσ rfl rfl rfl rfl rfl ?_
     refine jf10 14 89 12 11 10 15 16 1 8 13 rfl rfl rfl rfl rfl rfl rfl rfl rfl rfl ?_
     refine jn ?_
     have hc89' : ((Fi && !R) && decide (z.flaw < 0)) = false := by have h9 := hc89; rw [Bool.cond_false_right, Bool.cond_false_right] at h9; exact h9
     have hst := csRun_snoc hz hO hFi hR (fl := z.flaw) (by rw [if_neg (by rw [hc89']; decide)])
     refine ⟨i + 1, (((((Ent.sel [62, 66, 77] (e' := [(1, _), (8, _), (10, _), (11, _), (12, _), (13, _), (14, _)]) rfl rfl ⟨rfl, rfl, rfl, rfl, rfl, rfl, rfl, trivial⟩ rfl).trans (Ent.sub2 62 900 rfl rfl)).trans (Ent.sub2 66 901 rfl rfl)).trans (Ent.sub2 77 902 rfl rfl))).trans (Ent.to ⟨rfl, rfl, rfl, rfl, rfl, by rw [hst]; rfl, rfl, trivial⟩ (by rw [hst]; rfl)), by omega, by omega⟩
  ·
   skip
   refine AWP.exit ?_
   refine jsr ?_
   iterate 7 refine jst hσ rfl rfl rfl rfl rfl ?_
   refine jf12 7 6 5 4 32 1 8 10 11 12 13 14 rfl rfl rfl rfl rfl rfl rfl rfl rfl rfl rfl rfl ?_
   refine jn ?_
   refine AWP.ret ?_
   refine ⟨.inl rfl, _, Ent.refl, _, rfl, ?_⟩
   have hok : (oppT s.goal).2 = true := by rw [← ctxS_2]; simpa using hc25
   have h9 := of_decide_eq_false hc32
   obtain rfl : i = p.length := by omega
   rw [show conS s p = ⟨z.all, z.has, z.flaw, true⟩ by rw [hz, hc0e]; exact if_pos hok]
   exact .tup (.cons (.c (.whole rfl (by simp [hza]))) (.cons (.c (.whole rfl (by simp [hzh]))) (.cons (.c .d) (.cons (.c .d) .nil))))
end Go.Al
namespace Go.Al
open Go.Proofs
set_option linter.unusedVariables false
set_option linter.unusedSimpArgs false
set_option maxRecDepth 10000
theorem nt {b : Bool} (h : (!b) = true) : b = false := by cases b <;> simp_all
theorem nf {b : Bool} (h : (!b) = false) : b = true := by cases b <;> simp_all
theorem g2 {a b : Bool} : (bif !a then true else !b) = !(a && b) := by cases a <;> cases b <;> rfl
def inK (k : Int) (p : List Nd) : Bool := decide (0 ≤ k) && decide (k ≤ (p.length : Int) - 1)
def ctxAtS (s : Sq) (p : List Nd) (k : Int) : List Tm × Bool := if (seqB s && isB p && inK k p) = true then (if ((conS s p).ok && (conS s p).has.getD k.toNat default) = true then ((conS s p).all.getD k.toNat default, true) else ([], false)) else ([], false)
def chkS (s : Sq) (p : List Nd) : Bool := (seqB s && isB p) && ((conS s p).ok && decide ((conS s p).flaw < 0))
theorem c97 {L : Nat} (h1 : 4096 ≤ L) (h2 : L ≤ 1073741824) {s : Sq} {p : List Nd} : MC Try.prog L 46 [ptr s.cells, ands p] [] (Plain (eB (chkS s p))) := by
 refine MC.alone ?_ rfl
 have hσ := SGok (nt := 30) h1 (Nat.le_trans h2 (by decide))
 refine MC.body hσ Try.func46 (by kernel_rfl) rfl rfl (Nat.le_of_ble_eq_true rfl) (fun hF => ?_)
 refine jsr ?_
 refine jst hσ rfl rfl rfl rfl rfl ?_
 refine jn ?_
 refine AWP.seq ?_
 refine jsr ?_
 refine jst hσ rfl rfl rfl rfl rfl ?_
 refine AOps.lone hσ rfl rfl rfl rfl (c82 h1 h2) (VAs.self rfl) rfl rfl rfl rfl rfl (B0 := 11000) rfl ?_
 iterate 2 refine jst hσ rfl rfl rfl rfl rfl ?_
 refine jf4 12 4 0 1 rfl rfl rfl rfl ?_
 refine AOps.gr 3 rfl rfl rfl (fun hx => AN.step hx rfl rfl rfl (Val.of hσ rfl rfl) rfl rfl ( AN.lone hσ hx rfl rfl rfl rfl (c83 h1 h2) (VAs.self rfl) rfl rfl rfl rfl rfl rfl rfl (B0 := 15000) rfl ( AN.step hx rfl rfl rfl (Val.of hσ rfl rfl) rfl rfl ( AN.nil)))) rfl rfl ?_
 first | refine AOps.step (Val.pickF hσ rfl rfl rfl rfl rfl) rfl rfl rfl ?_ | refine AOps.step (Val.pickB hσ rfl rfl rfl rfl rfl) rfl rfl rfl ?_ | refine AOps.step (Val.pickT hσ rfl rfl rfl rfl rfl) rfl rfl rfl ?_
 refine jf4 16 4 0 1 rfl rfl rfl rfl ?_
 refine jn ?_
 refine AWP.cond hσ rfl rfl (fun hc16 => ?_) (fun hc16 => ?_)
 ·
  skip
  refine jsr ?_
  refine jst hσ rfl rfl rfl rfl rfl ?_
  refine jn ?_
  refine AWP.ret ?_
  refine ⟨.inl rfl, _, Ent.refl, _, rfl, ?_⟩
  have hg : (seqB s && isB p) = false := by have h9 := hc16; rw [g2] at h9; exact nt h9
  rw [chkS, hg, Bool.false_and]
 ·
  skip
  refine AWP.skip ?_
  refine jsr ?_
  have hg : (seqB s && isB p) = true := by have h9 := hc16; rw [g2] at h9; exact nf h9
  have hg' := hg
  rw [Bool.and_eq_true] at hg'
  iterate 2 refine jst hσ rfl rfl rfl rfl rfl ?_
  refine jf5 19 18 4 0 1 rfl rfl rfl rfl rfl ?_
  refine AOps.plainD hσ rfl rfl rfl rfl (c85 (s := s) (p := p) h1 h2 hg'.1 hg'.2) (VAs.self rfl) rfl rfl rfl rfl (B0 := 21000) rfl rfl ?_
  iterate 9 refine jst hσ rfl rfl rfl rfl rfl ?_
  refine jf5 8 7 4 0 1 rfl rfl rfl rfl rfl ?_
  refine jns ?_
  iterate 2 refine jst hσ rfl rfl rfl rfl rfl ?_
  refine jf5 26 7 4 0 1 rfl rfl rfl rfl rfl ?_
  refine AOps.gr 2 rfl rfl rfl (fun hx => AN.step hx rfl rfl rfl (Val.of hσ rfl rfl) rfl rfl ( AN.step hx rfl rfl rfl (Val.of hσ rfl rfl) rfl rfl ( AN.nil))) rfl rfl ?_
  first | refine AOps.step (Val.pickT hσ rfl rfl rfl rfl rfl) rfl rfl rfl ?_ | refine AOps.step (Val.pickF hσ rfl rfl rfl rfl rfl) rfl rfl rfl ?_ | refine AOps.step (Val.pickB hσ rfl rfl rfl rfl rfl) rfl rfl rfl ?_
  refine jst hσ rfl rfl rfl rfl rfl ?_
  refine AOps.forget [(4, _), (0, _), (1, _)] ⟨rfl, rfl, rfl, trivial⟩ ?_
  refine jn ?_
  refine AWP.ret ?_
  refine ⟨.inl rfl, _, Ent.refl, _, rfl, ?_⟩
  rw [chkS, hg, Bool.true_and, Bool.cond_false_right]
end Go.Al
namespace Go.Al
open Go.Proofs
set_option linter.unusedVariables false
set_option linter.unusedSimpArgs false
set_option maxRecDepth 10000
def muls (f : Int → Bool) (ms : List Int) (n : Nat) (bs : List Bool) : Nat → List Bool
  | 0 => bs
  | j + 1 => if (f (ms.getD j default) && decide (j < n)) = true then (muls f ms n bs j).set j true else muls f ms n bs j
def factB (x : Nd) (n : Nat) (bs : List Bool) : List Bool := if x.kind = 3 ∧ x.fact < n then bs.set x.fact.toNat true else bs
def usedN (f : Int → Bool) (p : List Nd) (n : Nat) : Nat → List Bool
  | 0 => List.replicate n false
  | i + 1 => muls f (p.getD i default).mul n (factB (p.getD i default) n (usedN f p n i)) (p.getD i default).mul.length
abbrev brow (bs : List Bool) : B := .row true 1 (bs.map bL)
abbrev psv : Int → Bool := fun m => decide (0 < m)
abbrev nz : Int → Bool := fun m => !decide (m = 0)
def idxs (bs : List Bool) : Nat → List Int
  | 0 => []
  | i + 1 => if bs.getD i default = true then idxs bs i ++ [(i : Int)] else idxs bs i
theorem idx0 {α β : Type} [Inhabited α] {l : List α} {f : α → β} {n : Nat} (h : n < l.length) : (l.map f)[0 + n]? = some (f (l.getD n default)) := by rw [Nat.zero_add]; simp [h]
end Go.Al
namespace Go.Al
open Go.Proofs
set_option linter.unusedVariables false
set_option linter.unusedSimpArgs false
set_option maxRecDepth 10000
theorem chkS_spec {s : Sq} {p : List Nd} (h : chkS s p = true) : seqB s = true ∧ isB p = true := by
  unfold chkS at h
  simp only [Bool.and_eq_true] at h
  exact h.1
def usedFactsS (s : Sq) (p : List Nd) : List Int × Bool := if chkS s p = true then (idxs (usedN psv p (s.facts.length + 1) p.length) (s.facts.length + 1), true) else ([], false)
abbrev resU (r : List Int × Bool) : A := .tup [aints r.1, eB r.2]
abbrev sqs (ss : List Sq) : D := .slc 3 (ss.map Sq.cells)
abbrev asqs (ss : List Sq) : A := .c (.d (sqs ss))
abbrev ndC (p : List Nd) : List D := [nds p]
abbrev ndss (ps : List (List Nd)) : D := .slc 1 (ps.map ndC)
abbrev andss (ps : List (List Nd)) : A := .c (.d (ndss ps))
def provedS (ss : List Sq) (ps : List (List Nd)) : Bool := decide (ps.length = ss.length) && (List.range ss.length).all fun j => chkS (ss.getD j default) (ps.getD j default)
def areS (ss : List Sq) (ps : List (List Nd)) : Bool := ss.all seqB && (decide ((ss.length : Int) ≤ 60) && provedS ss ps)
end Go.Al
namespace Go.Al
open Go.Proofs
set_option linter.unusedVariables false
set_option linter.unusedSimpArgs false
set_option maxRecDepth 10000
abbrev combI (ts : List Tm) (ms : List Int) : Tm := ⟨dotG Tm.c ts ms, trim (colsL ts ms)⟩
abbrev oppI (t : Tm) : Tm := ⟨dotG Tm.c [t] [-1] - 1, trim (colsL [t] [-1])⟩
def closesI (ctx : List Tm) (ms : List Int) : Bool := decide (ms.length = ctx.length) && (decide ((trim (colsL ctx ms)).length = 0) && decide (dotG Tm.c ctx ms < 0))
def ctxI (s : Sq) : List Tm × Bool := if (seqB s && (oppI s.goal).ok) = true then (s.facts ++ [oppI s.goal], true) else ([], false)
theorem c200 {L : Nat} (h1 : 4096 ≤ L) (h2 : L ≤ 1073741824) {ts : List Tm} {n : Int} : MC Try.prog L 94 [atms ts, eI n] [] (Plain (eB (allOk ts n))) := by
 refine MC.alone ?_ rfl
 have hσ := SGok (nt := 21) h1 (Nat.le_trans h2 (by decide))
 refine MC.body hσ Try.func94 (by kernel_rfl) rfl rfl (Nat.le_of_ble_eq_true rfl) (fun hF => ?_)
 have hl : ts.length ≤ L := by simpa [As.fact, A.fact, M.fact, D.fact, Ds.fact] using hF.1.1
 refine jsr ?_
 refine jst hσ rfl rfl rfl rfl rfl ?_
 refine jn ?_
 refine AWP.seq ?_
 refine jsr ?_
 refine jst hσ rfl rfl rfl rfl rfl ?_
 first | refine jle hσ rfl rfl rfl rfl rfl rfl rfl rfl rfl rfl rfl ?_ | refine jst hσ rfl rfl rfl rfl rfl ?_ | refine jvf hσ rfl rfl rfl rfl rfl ?_
 iterate 2 refine jst hσ rfl rfl rfl rfl rfl ?_
 refine jf4 10 4 0 1 rfl rfl rfl rfl ?_
 refine jn ?_
 refine AWP.cond hσ rfl rfl (fun hc10 => ?_) (fun hc10 => ?_)
 ·
  try simp only [jcs] at hc10
  refine jsr ?_
  refine jst hσ rfl rfl rfl rfl rfl ?_
  refine jn ?_
  refine AWP.ret ?_
  refine ⟨.inl rfl, _, Ent.refl, _, rfl, ?_⟩
  rw [allOk, decide_eq_false (show ¬ (ts.length : Int) ≤ n by omega), Bool.and_false]
 ·
  try simp only [jcs] at hc10
  refine AWP.skip ?_
  refine AWP.seq ?_
  refine jsr ?_
  refine jst hσ rfl rfl rfl rfl rfl ?_
  first | refine jle hσ rfl rfl rfl rfl rfl rfl rfl rfl rfl rfl rfl ?_ | refine jst hσ rfl rfl rfl rfl rfl ?_ | refine jvf hσ rfl rfl rfl rfl rfl ?_
  refine jst hσ rfl rfl rfl rfl rfl ?_
  refine jn ?_
  refine AWP.block ?_
  refine AWP.loopP (X := Nat) (fun i => ⟨[(1, eI n), (11, atms ts), (12, eI ts.length), (13, eI i)], []⟩) (fun i => i ≤ ts.length ∧ ∀ j (h : j < ts.length), j < i → Tm.ok ts[j] = true) (fun i => ts.length - i) 0 (Ent.to ⟨rfl, rfl, rfl, rfl, trivial⟩ rfl) ?_ (fun i hi => ?_)
  ·
   exact ⟨Nat.zero_le _, fun j h hj => absurd hj (Nat.not_lt_zero j)⟩
  refine jsr ?_
  refine jst hσ rfl rfl rfl rfl rfl ?_
  refine jn ?_
  refine AWP.seq ?_
  refine AWP.cond hσ rfl rfl (fun hc14 => ?_) (fun hc14 => ?_)
  ·
   try simp only [jcs] at hc14
   refine AWP.skip ?_
   refine AWP.seq ?_
   refine AWP.block ?_
   refine jsr ?_
   first | refine jin hσ rfl rfl rfl rfl rfl rfl rfl rfl rfl rfl rfl ?_ | refine jix hσ rfl rfl rfl rfl rfl rfl rfl rfl rfl rfl rfl ?_ | refine jvf hσ rfl rfl rfl rfl rfl ?_
   refine jst hσ rfl rfl rfl rfl rfl ?_
   refine jf6 16 14 1 11 12 13 rfl rfl rfl rfl rfl rfl ?_
   refine AOps.heap (HS.alloc hσ rfl rfl rfl rfl rfl) rfl ?_
   refine AOps.heap (HS.storeBox hσ rfl rfl rfl rfl rfl rfl rfl rfl rfl rfl rfl) rfl ?_
   refine jns ?_
   refine jst hσ rfl rfl rfl rfl rfl ?_
   refine AOps.lone hσ rfl rfl rfl rfl (c185 (t := ts.getD i default) h1 h2) (VAs.self rfl) rfl rfl rfl rfl rfl (B0 := 19000) rfl ?_
   refine jst hσ rfl rfl rfl rfl rfl ?_
   refine jf8 19 6 16 14 1 11 12 13 rfl rfl rfl rfl rfl rfl rfl rfl ?_
   refine jn ?_
   refine AWP.cond hσ rfl rfl (fun hc19 => ?_) (fun hc19 => ?_)
   ·
    try simp only [jcs] at hc19
    refine jsr ?_
    refine jst hσ rfl rfl rfl rfl rfl ?_
    refine jn ?_
    refine AWP.ret ?_
    refine ⟨.inl rfl, _, Ent.refl, _, rfl, ?_⟩
    rw [getD_lt (by omega)] at hc19
    rw [allOk, all_not i (by omega) hc19, Bool.false_and]
   ·
    try simp only [jcs] at hc19
    refine AWP.skip ?_
    refine AWP.region ?_
    first | refine jfi hσ rfl rfl rfl rfl rfl ?_ | refine jvf hσ rfl rfl rfl rfl rfl ?_
    refine jst hσ rfl rfl rfl rfl rfl ?_
    refine jn ?_
    refine ⟨i + 1, (Ent.sel [] (e' := [(1, _), (11, _), (12, _), (13, _)]) rfl rfl ⟨rfl, rfl, rfl, rfl, trivial⟩ rfl), ⟨by omega, fun j h hj => ?_⟩, by omega⟩
    by_cases e : j = i
    ·
     subst e; rw [getD_lt h] at hc19; exact hc19
    ·
     exact hi.2 j h (by omega)
  ·
   try simp only [jcs] at hc14
   refine AWP.exit ?_
   refine jsr ?_
   refine jst hσ rfl rfl rfl rfl rfl ?_
   refine jn ?_
   refine AWP.ret ?_
   refine ⟨.inl rfl, _, Ent.refl, _, rfl, ?_⟩
   rw [allOk, all_of (fun j hj => hi.2 j hj (by omega)), decide_eq_true (show (ts.length : Int) ≤ n by omega), Bool.true_and]
theorem c184 {L : Nat} (h1 : 4096 ≤ L) (h2 : L ≤ 1073741824) {s : Sq} : MC Try.prog L 70 [aSq s] [] (Plain (eB (seqB s))) := by
 refine MC.alone ?_ rfl
 have hσ := SGok (nt := 11) h1 (Nat.le_trans h2 (by decide))
 refine MC.body hσ Try.func70 (by kernel_rfl) rfl rfl (Nat.le_of_ble_eq_true rfl) (fun hF => ?_)
 refine jsr ?_
 refine AOps.heap (HS.box hσ rfl rfl rfl rfl rfl rfl rfl) rfl ?_
 refine jst hσ rfl rfl rfl rfl rfl ?_
 refine jns ?_
 iterate 2 refine jst hσ rfl rfl rfl rfl rfl ?_
 refine jf4 4 2 1 0 rfl rfl rfl rfl ?_
 refine AOps.lone hσ rfl rfl rfl rfl (c200 h1 h2) (VAs.self rfl) rfl rfl rfl rfl rfl (B0 := 6000) rfl ?_
 refine jst hσ rfl rfl rfl rfl rfl ?_
 refine jf4 6 2 1 0 rfl rfl rfl rfl ?_
 refine AOps.gr 3 rfl rfl rfl (fun hx => AN.step hx rfl rfl rfl (Val.of hσ rfl rfl) rfl rfl ( AN.step hx rfl rfl rfl (Val.of hσ rfl rfl) rfl rfl ( AN.lone hσ hx rfl rfl rfl rfl (c185 h1 h2) (VAs.self rfl) rfl rfl rfl rfl rfl rfl rfl (B0 := 10000) rfl ( AN.nil)))) rfl rfl ?_
 first | refine AOps.step (Val.pickT hσ rfl rfl rfl rfl rfl) rfl rfl rfl ?_ | refine AOps.step (Val.pickF hσ rfl rfl rfl rfl rfl) rfl rfl rfl ?_ | refine AOps.step (Val.pickB hσ rfl rfl rfl rfl rfl) rfl rfl rfl ?_
 refine jst hσ rfl rfl rfl rfl rfl ?_
 refine AOps.forget [(2, _), (0, _)] ⟨rfl, rfl, trivial⟩ ?_
 refine jn ?_
 refine AWP.ret ?_
 refine ⟨.inl rfl, _, Ent.refl, _, rfl, ?_⟩
 rw [Bool.cond_false_right]; rfl
theorem c210 {L : Nat} (h1 : 4096 ≤ L) (h2 : L ≤ 1073741824) {t : Tm} : MC Try.prog L 150 [aTm' t] [] (Plain (aTm' ⟨t.c, trim t.xs⟩)) := by
 refine MC.data ?_
 have hσ := SGok (nt := 26) h1 (Nat.le_trans h2 (by decide))
 refine MC.body hσ Try.func150 (by kernel_rfl) rfl rfl (Nat.le_of_ble_eq_true rfl) (fun hF => ?_)
 have hl : t.xs.length ≤ L := by simpa [As.fact, A.fact, M.fact, Ms.fact, D.fact, Ds.fact] using hF.1.2.1.1
 refine jsr ?_
 refine AOps.heap (HS.box hσ rfl rfl rfl rfl rfl rfl rfl) rfl ?_
 refine AOps.forget [(1, _)] ⟨rfl, trivial⟩ ?_
 refine AOps.heap (HS.alloc hσ rfl rfl rfl rfl rfl) rfl ?_
 refine jns ?_
 iterate 2 refine jst hσ rfl rfl rfl rfl rfl ?_
 first | refine jle hσ rfl rfl rfl rfl rfl rfl rfl rfl rfl rfl rfl ?_ | refine jst hσ rfl rfl rfl rfl rfl ?_ | refine jvf hσ rfl rfl rfl rfl rfl ?_
 refine jst hσ rfl rfl rfl rfl rfl ?_
 refine AOps.forget [(3, _), (2, _), (1, _)] ⟨rfl, rfl, rfl, trivial⟩ ?_
 refine jn ?_
 refine AWP.seq ?_
 refine AWP.block ?_
 refine AWP.loopP (X := Nat) (fun n => ⟨[(1, .c (.pt 1 0 0)), (2, .c (.pt 2 0 0)), (3, eI n)], [(1, .box [.d (.int .i64 t.c), .d (ints t.xs)]), (2, .box [.d (.int .i64 0), .d .nils])]⟩) (fun n => n ≤ t.xs.length ∧ trim (t.xs.take n) = trim t.xs) (fun n => n) t.xs.length (Ent.env ⟨rfl, rfl, rfl, trivial⟩) ?_ (fun n hi => ?_)
 ·
  exact ⟨Nat.le_refl _, by rw [List.take_length]⟩
 refine AWP.seq ?_
 refine jsr ?_
 iterate 3 refine jst hσ rfl rfl rfl rfl rfl ?_
 refine jf4 9 1 2 3 rfl rfl rfl rfl ?_
 refine AOps.gr 7 rfl rfl rfl (fun hx => AN.step hx rfl rfl rfl (Val.of hσ rfl rfl) rfl rfl ( AN.step hx rfl rfl rfl (Val.of hσ rfl rfl) rfl rfl ( AN.step hx rfl rfl rfl (Val.of hσ rfl rfl) rfl rfl ( AN.step hx rfl rfl rfl (Val.fits64 hσ rfl rfl (by first | omega | (simp at *; omega)) (by first | omega | (simp at *; omega))) rfl rfl ( AN.step hx rfl rfl rfl (Val.indexD hσ rfl rfl rfl rfl rfl rfl rfl rfl (by first | omega | (simp at *; omega)) (idx_get (by first | omega | (simp at *; omega)) (by first | omega | (simp at *; omega)))) rfl rfl ( AN.step hx rfl rfl rfl (Val.of hσ rfl rfl) rfl rfl ( AN.step hx rfl rfl rfl (Val.of hσ rfl rfl) rfl rfl ( AN.nil)))))))) rfl rfl ?_
 first | refine AOps.step (Val.pickT hσ rfl rfl rfl rfl rfl) rfl rfl rfl ?_ | refine AOps.step (Val.pickF hσ rfl rfl rfl rfl rfl) rfl rfl rfl ?_ | refine AOps.step (Val.pickB hσ rfl rfl rfl rfl rfl) rfl rfl rfl ?_
 refine jf4 17 1 2 3 rfl rfl rfl rfl ?_
 refine jn ?_
 refine AWP.cond hσ rfl rfl (fun hc17 => ?_) (fun hc17 => ?_)
 ·
  skip
  refine AWP.skip ?_
  refine AWP.block ?_
  refine AWP.region ?_
  refine jst hσ rfl rfl rfl rfl rfl ?_
  first | refine jfi hσ rfl rfl rfl rfl rfl ?_ | refine jvf hσ rfl rfl rfl rfl rfl ?_
  refine jst hσ rfl rfl rfl rfl rfl ?_
  refine jf4 3 17 1 2 rfl rfl rfl rfl ?_
  refine jn ?_
  rw [Bool.cond_false_right, Bool.and_eq_true, decide_eq_true_eq, decide_eq_true_eq] at hc17
  obtain ⟨k, hk⟩ : ∃ k, n = k + 1 := ⟨n - 1, by omega⟩
  subst hk
  have hk2 : ((k + 1 : Nat) : Int) - 1 = k := by omega
  rw [hk2] at hc17
  refine ⟨k, Ent.to ⟨rfl, rfl, by rw [hk2]; rfl, trivial⟩ rfl, ⟨by omega, ?_⟩, Nat.lt_succ_self k⟩
  rw [← hi.2, trim_succ (by omega) (by simpa using hc17.2)]
 ·
  skip
  refine AWP.exit ?_
  refine jsr ?_
  iterate 3 refine jst hσ rfl rfl rfl rfl rfl ?_
  have hd : trim (t.xs.take n) = t.xs.take n := trim_done hi.1 (by
   rw [Bool.cond_false_right] at hc17
   rcases Nat.eq_zero_or_pos n with h0 | h0
   ·
    exact .inl h0
   ·
    refine .inr (fun h9 => ?_)
    have e1 : ((n : Int) - 1).toNat = n - 1 := by omega
    rw [e1, h9] at hc17; simp at hc17; omega)
  have ht := hi.2
  rw [hd] at ht
  refine AOps.step ((Val.vif hσ rfl rfl ⟨by omega, by simp; omega⟩).cast (v' := aints (trim t.xs)) (by rw [← ht]; simp [List.map_take])) rfl rfl rfl ?_
  refine jst hσ rfl rfl rfl rfl rfl ?_
  refine jf6 24 23 17 1 2 3 rfl rfl rfl rfl rfl rfl ?_
  refine AOps.heap (HS.storeBox hσ rfl rfl rfl rfl rfl rfl rfl rfl rfl rfl rfl) rfl ?_
  refine jf4 17 1 2 3 rfl rfl rfl rfl ?_
  refine jns ?_
  refine jst hσ rfl rfl rfl rfl rfl ?_
  refine AOps.heap (HS.storeBox hσ rfl rfl rfl rfl rfl rfl rfl rfl rfl rfl rfl) rfl ?_
  refine jn ?_
  refine AWP.ret ?_
  refine ⟨.inl rfl, _, Ent.refl, _, rfl, ?_⟩
  exact .v (.agg (VMs.self rfl))
theorem dotG_all {f : Tm → Int} : ∀ {ts : List Tm} {ms : List Int}, ts.length ≤ ms.length → dotG f (ts.take ts.length) (ms.take ts.length) = dotG f ts ms
  | [], ms, _ => by cases ms <;> simp [dotG]
  | t :: ts, [], h => by simp at h
  | t :: ts, m :: ms, h => by
    have := dotG_all (f := f) (ts := ts) (ms := ms) (by simpa using h)
    simp only [List.length_cons, List.take_succ_cons, dotG] at this ⊢
    rw [this]
theorem colsL_all {ts : List Tm} {ms : List Int} (h : ts.length ≤ ms.length) : colsL (ts.take ts.length) (ms.take ts.length) = colsL ts ms := by
  unfold colsL
  apply List.map_congr_left
  intro k _
  exact dotG_all h
theorem c201 {L : Nat} (h1 : 4096 ≤ L) (h2 : L ≤ 1073741824) {ts : List Tm} {ms : List Int} (hc : CtxOk ts) (hm : ms.all num = true) (hle : ts.length ≤ ms.length) : MC Try.prog L 129 [atms ts, aints ms] [] (Plain (aTm' (combI ts ms))) := by
 refine MC.data ?_
 have hσ := SGok (nt := 55) h1 (Nat.le_trans h2 (by decide))
 refine MC.body hσ Try.func129 (by kernel_rfl) rfl rfl (Nat.le_of_ble_eq_true rfl) (fun hF => ?_)
 have hl : ms.length ≤ L := by simpa [As.fact, A.fact, M.fact, D.fact, Ds.fact] using hF.2.1.1
 have hlc := hc.len
 refine jsr ?_
 refine AOps.heap (HS.alloc hσ rfl rfl rfl rfl rfl) rfl ?_
 refine jns ?_
 refine AOps.heap (HS.make hσ rfl rfl rfl rfl rfl rfl rfl rfl rfl (by first | omega | (simp at *; omega)) (by first | omega | (simp at *; omega)) (by first | omega | (simp at *; omega)) (by first | omega | (dsimp only; omega) | (simp only [List.length_map, beq_iff_eq, decide_eq_true_eq, decide_eq_false_iff_not, Bool.not_eq_true', Bool.not_eq_false', Bool.not_true, Bool.not_false, Int.not_lt, Int.not_le] at *; omega)) (by first | omega | (simp at *; omega)) rfl rfl rfl) rfl ?_
 refine jst hσ rfl rfl rfl rfl rfl ?_
 refine jf4 11 4 0 1 rfl rfl rfl rfl ?_
 refine AOps.heap (HS.alloc hσ rfl rfl rfl rfl rfl) rfl ?_
 refine AOps.heap (HS.storeBox hσ rfl rfl rfl rfl rfl rfl rfl rfl rfl rfl rfl) rfl ?_
 refine jn ?_
 refine AWP.seq ?_
 refine jsr ?_
 refine jst hσ rfl rfl rfl rfl rfl ?_
 first | refine jle hσ rfl rfl rfl rfl rfl rfl rfl rfl rfl rfl rfl ?_ | refine jst hσ rfl rfl rfl rfl rfl ?_ | refine jvf hσ rfl rfl rfl rfl rfl ?_
 refine jst hσ rfl rfl rfl rfl rfl ?_
 refine jn ?_
 refine AWP.block ?_
 refine AWP.loopP (X := Nat) (fun i => ⟨[(1, aints ms), (4, .c (.pt 4 0 0)), (5, .c (.pt 5 0 0)), (12, atms ts), (13, eI ts.length), (14, eI i)], [(4, .box [.d (.int .i64 0), .d .nils]), (5, .box [.d (.int .i64 (dotG Tm.c (ts.take i) (ms.take i))), .rs 10 0 10]), (10, nrow (colsL (ts.take i) (ms.take i)))]⟩) (fun i => i ≤ ts.length) (fun i => ts.length - i) 0 (Ent.to ⟨rfl, rfl, rfl, rfl, rfl, rfl, trivial⟩ rfl) ?_ (fun i hi => ?_)
 ·
  exact Nat.zero_le _
 refine jsr ?_
 refine jst hσ rfl rfl rfl rfl rfl ?_
 refine jn ?_
 refine AWP.seq ?_
 refine AWP.cond hσ rfl rfl (fun hc15 => ?_) (fun hc15 => ?_)
 ·
  try simp only [jcs] at hc15
  refine AWP.skip ?_
  refine AWP.seq ?_
  refine AWP.block ?_
  refine jsr ?_
  refine jst hσ rfl rfl rfl rfl rfl ?_
  first | refine jin hσ rfl rfl rfl rfl rfl rfl rfl rfl rfl rfl rfl ?_ | refine jix hσ rfl rfl rfl rfl rfl rfl rfl rfl rfl rfl rfl ?_ | refine jvf hσ rfl rfl rfl rfl rfl ?_
  refine jst hσ rfl rfl rfl rfl rfl ?_
  refine jf9 18 16 15 1 4 5 12 13 14 rfl rfl rfl rfl rfl rfl rfl rfl rfl ?_
  refine AOps.heap (HS.alloc hσ rfl rfl rfl rfl rfl) rfl ?_
  refine jst hσ rfl rfl rfl rfl rfl ?_
  refine jf10 6 7 18 15 1 4 5 12 13 14 rfl rfl rfl rfl rfl rfl rfl rfl rfl rfl ?_
  refine AOps.heap (HS.storeBox hσ rfl rfl rfl rfl rfl rfl rfl rfl rfl rfl rfl) rfl ?_
  refine jn ?_
  refine AWP.seq ?_
  have hi0 := hi
  have hts := Small.of (hc.get (show i < ts.length by omega))
  have hd1 := dotG_in (f := Tm.c) (ts := ts) (ms := ms) (fun t ht => (Small.of (hc.ok t ht)).c) hm hi (by omega)
  have hd2 := dotG_succ (f := Tm.c) (ts := ts) (ms := ms) (i := i) (by omega) (by omega)
  have hmi : num (ms.getD i default) = true := by rw [getD_lt (by omega)]; exact List.all_eq_true.1 hm _ (List.getElem_mem _)
  have hmu := mul_num hmi hts.c
  refine AWP.drawR hσ _ [_, _, _, _, _, _, _, _, _, _, _, _] [⟨[], 0, 0, none⟩, ⟨[0], 0, 0, none⟩, ⟨[], 0, 0, none⟩, ⟨[], 0, 0, none⟩, ⟨[2, 3], 0, 0, none⟩, ⟨[2, 3, 4], 0, 0, none⟩, ⟨[], 0, 0, none⟩, ⟨[6], 0, 0, none⟩, ⟨[2, 3, 4, 5, 6, 7], 0, 0, none⟩, ⟨[0, 1, 2, 3, 4, 5, 6, 7, 8], 0, 0, none⟩, ⟨[0, 1, 2, 3, 4, 5, 6, 7, 8, 9], 0, 0, none⟩, ⟨[0, 1, 2, 3, 4, 5, 6, 7, 8, 9, 10], 0, 0, some 0⟩] [11] [_, _] rfl rfl (by decide) (by decide) (by kernel_rfl) (And.intro (Val.of hσ rfl rfl) (And.intro (Val.of hσ rfl rfl) (And.intro (Val.of hσ rfl rfl) (And.intro (Val.of hσ rfl rfl) (And.intro (Val.indexN hσ rfl rfl rfl rfl rfl rfl rfl rfl (idxN (by first | omega | (simp at *; omega)))) (And.intro (Val.of hσ rfl rfl) (And.intro (Val.of hσ rfl rfl) (And.intro (Val.of hσ rfl rfl) (And.intro (Val.fits64 hσ rfl rfl (by first | omega | (simp at *; omega)) (by first | omega | (simp at *; omega))) (And.intro (Val.fits64 hσ rfl rfl (by first | omega | (simp at *; omega)) (by first | omega | (simp at *; omega))) (And.intro (Val.of hσ rfl rfl) (And.intro (Eff.storeBox hσ rfl rfl rfl rfl rfl rfl rfl rfl rfl rfl rfl rfl rfl) trivial)))))))))))) ?_
  refine AWP.forget [(6, _), (7, _), (18, _), (15, _), (1, _), (4, _), (5, _), (12, _), (13, _), (14, _)] ⟨rfl, rfl, rfl, rfl, rfl, rfl, rfl, rfl, rfl, rfl, trivial⟩ ?_
  refine jnw ?_
  refine jsr ?_
  iterate 2 refine jst hσ rfl rfl rfl rfl rfl ?_
  first | refine jle hσ rfl rfl rfl rfl rfl rfl rfl rfl rfl rfl rfl ?_ | refine jst hσ rfl rfl rfl rfl rfl ?_ | refine jvf hσ rfl rfl rfl rfl rfl ?_
  refine jst hσ rfl rfl rfl rfl rfl ?_
  refine jn ?_
  refine AWP.block ?_
  refine AWP.loopP (X := Nat) (fun j => ⟨[(1, aints ms), (4, .c (.pt 4 0 0)), (5, .c (.pt 5 0 0)), (12, atms ts), (13, eI ts.length), (14, eI i), (6, eI i), (31, aints (ts.getD i default).xs), (32, eI (ts.getD i default).xs.length), (33, eI j)], [(4, .box [.d (.int .i64 0), .d .nils]), (5, .box [.d (.int .i64 (dotG Tm.c (ts.take i) (ms.take i) + ms.getD i default * (ts.getD i default).c)), .rs 10 0 10]), (10, nrow (part ts ms i j))]⟩) (fun j => j ≤ (ts.getD i default).xs.length) (fun j => (ts.getD i default).xs.length - j) 0 (((Ent.sel [4, 5, 10] (e' := [(1, _), (4, _), (5, _), (12, _), (13, _), (14, _), (6, _), (31, _), (32, _), (33, _)]) rfl rfl ⟨rfl, rfl, rfl, rfl, rfl, rfl, rfl, rfl, rfl, rfl, trivial⟩ rfl)).trans (Ent.to ⟨rfl, rfl, rfl, rfl, rfl, rfl, rfl, rfl, rfl, rfl, trivial⟩ (by rw [part_zero]; rfl))) ?_ (fun j hi => ?_)
  ·
   exact Nat.zero_le _
  refine jsr ?_
  refine jst hσ rfl rfl rfl rfl rfl ?_
  refine jn ?_
  refine AWP.seq ?_
  refine AWP.cond hσ rfl rfl (fun hc34 => ?_) (fun hc34 => ?_)
  ·
   try simp only [jcs] at hc34
   refine AWP.skip ?_
   refine AWP.seq ?_
   refine AWP.block ?_
   refine jsr ?_
   refine jst hσ rfl rfl rfl rfl rfl ?_
   first | refine jin hσ rfl rfl rfl rfl rfl rfl rfl rfl rfl rfl rfl ?_ | refine jix hσ rfl rfl rfl rfl rfl rfl rfl rfl rfl rfl rfl ?_ | refine jvf hσ rfl rfl rfl rfl rfl ?_
   iterate 3 refine jst hσ rfl rfl rfl rfl rfl ?_
   refine jf13 9 8 34 1 4 5 12 13 14 6 31 32 33 rfl rfl rfl rfl rfl rfl rfl rfl rfl rfl rfl rfl rfl ?_
   refine jn ?_
   have hjl : j < 10 := by have := ok_len (hc.get (show i < ts.length by omega)); omega
   have hpj := part_get (ts := ts) (ms := ms) (i := i) hjl
   have hps := part_succ (ts := ts) (ms := ms) (i := i) hjl
   have hpl := part_length (ts := ts) (ms := ms) (i := i) (j := j)
   have hd3 := dotG_in (f := colF j) (ts := ts) (ms := ms) (fun t ht => (Small.of (hc.ok t ht)).get j) hm hi0 (by omega)
   have hmx := mul_num hmi (hts.get j)
   rw [show (ts.getD i default).xs.getD j 0 = (ts.getD i default).xs.getD j default from rfl] at hmx
   refine AWP.drawR hσ _ [_, _, _, _, _, _, _, _, _, _, _, _, _, _] [⟨[], 0, 0, none⟩, ⟨[0], 0, 0, none⟩, ⟨[], 0, 0, none⟩, ⟨[0, 1, 2], 0, 0, none⟩, ⟨[0, 1, 2, 3], 0, 0, none⟩, ⟨[], 0, 0, none⟩, ⟨[], 0, 0, none⟩, ⟨[5, 6], 0, 0, none⟩, ⟨[5, 6, 7], 0, 0, none⟩, ⟨[], 0, 0, none⟩, ⟨[5, 6, 7, 8, 9], 0, 0, none⟩, ⟨[0, 1, 2, 3, 4, 5, 6, 7, 8, 9, 10], 0, 0, none⟩, ⟨[0, 1, 2, 3, 4, 5, 6, 7, 8, 9, 10, 11], 0, 0, none⟩, ⟨[0, 1, 2, 3, 4, 5, 6, 7, 8, 9, 10, 11, 12], 0, 0, some 0⟩] [13] [_, _] rfl rfl (by decide) (by decide) (by kernel_rfl) (And.intro (Val.of hσ rfl rfl) (And.intro (Val.of hσ rfl rfl) (And.intro (Val.of hσ rfl rfl) (And.intro (Val.vif hσ rfl rfl (by first | omega | (simp at *; omega))) (And.intro (Val.loadRow hσ (ex := [.int .i64 ((part ts ms i j).getD j default)]) rfl rfl rfl rfl (idx0 (by omega)) rfl) (And.intro (Val.of hσ rfl rfl) (And.intro (Val.of hσ rfl rfl) (And.intro (Val.indexN hσ rfl rfl rfl rfl rfl rfl rfl rfl (idxN (by first | omega | (simp at *; omega)))) (And.intro (Val.of hσ rfl rfl) (And.intro (Val.of hσ rfl rfl) (And.intro (Val.fits64 hσ rfl rfl (by first | omega | (simp at *; omega)) (by first | omega | (simp at *; omega))) (And.intro (Val.fits64 hσ rfl rfl (by first | omega | (simp at *; omega)) (by first | omega | (simp at *; omega))) (And.intro (Val.vif hσ rfl rfl (by first | omega | (simp at *; omega))) (And.intro (Eff.storeRow (ex := [.int .i64 ((part ts ms i j).getD j default)]) (xs' := (part ts ms i (j + 1)).map (fun n => [D.int .i64 n])) hσ rfl rfl rfl rfl rfl rfl rfl rfl rfl rfl rfl rfl rfl rfl rfl (idx0 (by omega)) (by rw [← hps, List.map_set]; simp only [Int.toNat_natCast, Nat.zero_add]; rfl) rfl) trivial)))))))))))))) ?_
   refine AWP.forget [(34, _), (1, _), (4, _), (5, _), (12, _), (13, _), (14, _), (6, _), (31, _), (32, _), (33, _)] ⟨rfl, rfl, rfl, rfl, rfl, rfl, rfl, rfl, rfl, rfl, rfl, trivial⟩ ?_
   refine jnw ?_
   refine AWP.region ?_
   first | refine jfi hσ rfl rfl rfl rfl rfl ?_ | refine jvf hσ rfl rfl rfl rfl rfl ?_
   refine jst hσ rfl rfl rfl rfl rfl ?_
   refine jn ?_
   refine ⟨j + 1, Ent.to ⟨rfl, rfl, rfl, rfl, rfl, rfl, rfl, rfl, rfl, rfl, trivial⟩ rfl, by omega, by omega⟩
  ·
   try simp only [jcs] at hc34
   refine AWP.exit ?_
   refine AWP.region ?_
   first | refine jfi hσ rfl rfl rfl rfl rfl ?_ | refine jvf hσ rfl rfl rfl rfl rfl ?_
   refine jst hσ rfl rfl rfl rfl rfl ?_
   refine jn ?_
   refine ⟨i + 1, ((Ent.sel [4, 5, 10] (e' := [(1, _), (4, _), (5, _), (12, _), (13, _), (14, _)]) rfl rfl ⟨rfl, rfl, rfl, rfl, rfl, rfl, trivial⟩ rfl)).trans (Ent.to ⟨rfl, rfl, rfl, rfl, rfl, rfl, trivial⟩ ?_), by omega, by omega⟩
   rw [hd2, ← part_all (j := j) (by omega) (by omega) (by omega)]; rfl
 ·
  try simp only [jcs] at hc15
  refine AWP.exit ?_
  refine jsr ?_
  obtain rfl : i = ts.length := by omega
  have hcl := colsL_length (ts := ts.take ts.length) (ms := ms.take ts.length)
  refine AOps.to (Ent.freeze 10 (e' := [(5, _), (4, _)]) rfl (.cons rfl (.keep rfl) (.cons rfl (.keep rfl) .nil)) (.cons rfl (.box (.cons (.keep rfl) (.cons (.keep rfl) .nil))) (.cons rfl (.box (.cons (.keep rfl) (.cons (.row rfl (by rw [List.length_map, hcl])) .nil))) (.skip .nil)))) ?_
  refine jst hσ rfl rfl rfl rfl rfl ?_
  refine AOps.plainD hσ rfl rfl rfl rfl (c210 (t := ⟨dotG Tm.c (ts.take ts.length) (ms.take ts.length), colsL (ts.take ts.length) (ms.take ts.length)⟩) h1 h2) (VAs.self rfl) rfl rfl rfl rfl (B0 := 55000) rfl rfl ?_
  refine AOps.forget [(54, _), (5, _), (4, _)] ⟨rfl, rfl, rfl, trivial⟩ ?_
  refine AOps.heap (HS.storeBox hσ rfl rfl rfl rfl rfl rfl rfl rfl rfl rfl rfl) rfl ?_
  refine jn ?_
  refine AWP.ret ?_
  refine ⟨.inl rfl, _, Ent.refl, _, rfl, ?_⟩
  have e1 : dotG Tm.c (ts.take ts.length) (ms.take ts.length) = dotG Tm.c ts ms := dotG_all hle
  have e2 : colsL (ts.take ts.length) (ms.take ts.length) = colsL ts ms := colsL_all hle
  rw [e1, e2]
  exact .v (.agg (VMs.self rfl))
end Go.Al
