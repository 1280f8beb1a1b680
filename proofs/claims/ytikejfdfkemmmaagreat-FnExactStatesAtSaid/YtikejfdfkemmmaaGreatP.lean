/- Policies: runs, states at the starts, offences. -/
import Derived.Test.YtikejfdfkemmmaaGreatW
import Derived.Test.YtikejfdfkemmmaaGreatC
set_option linter.unusedVariables false
set_option linter.unusedSimpArgs false
set_option maxRecDepth 10000
set_option maxHeartbeats 4000000
open Go.Proofs
namespace Go.Al
variable {L : Nat} (h1 : 4096 ≤ L) (h2 : L ≤ 1073741824)
def cV (bs : List Bool) : Nat → List Int
  | 0 => []
  | i + 1 => if bs.getD i default = true then cV bs i ++ [(i : Int)] else cV bs i
theorem ml {bs : List Bool} {i : Nat} (h : bs.getD i default = true) : cV bs (i + 1) = cV bs i ++ [(i : Int)] := if_pos h
theorem nX {bs : List Bool} {i : Nat} (h : bs.getD i default = false) : cV bs (i + 1) = cV bs i := if_neg (by rw [h]; decide)
theorem dO {bs : List Bool} : ∀ {i : Nat}, (cV bs i).length ≤ i
 | 0 => by simp [cV]
 | i + 1 => by
  have := dO (bs := bs) (i := i)
  rw [cV]; split
  simp; omega
  omega
theorem mK {bs cs : List Bool} : ∀ {n : Nat}, (∀ j, j < n → bs.getD j default = cs.getD j default) → cV bs n = cV cs n
 | 0, _ => rfl
 | n + 1, h => by rw [cV, cV, h n (by omega), mK fun j hj => h j (by omega)]
theorem fm {bs : List Bool} {k j : Nat} (hk : k < bs.length) : (bs.set k true).getD j default = if j = k then true else bs.getD j default := by
 rw [List.getD_eq_getElem?_getD, List.getD_eq_getElem?_getD, List.getElem?_set]
 by_cases h : k = j
 subst h; simp [hk]
 rw [if_neg h, if_neg (fun e => h e.symm)]
theorem mA {bs : List Bool} {k : Nat} : ∀ {n : Nat}, n ≤ k → dA k (cV bs n) = (false, cV bs n)
 | 0, _ => rfl
 | n + 1, h => by
  have ih := mA (bs := bs) (k := k) (n := n) (by omega)
  rw [cV]; split
  rw [g9, ih]
  unfold di
  rw [if_neg (by rintro ⟨_, h2⟩; omega)]
  exact ih
theorem qS {bs : List Bool} {k : Nat} (hk : k < bs.length) : ∀ {n : Nat}, k < n → mf k (cV bs n) = cV (bs.set k true) n := by
 have key : ∀ {m : Nat}, ((dA k (cV bs (k + 1 + m))).1 = true ∧ (dA k (cV bs (k + 1 + m))).2 = cV (bs.set k true) (k + 1 + m)) ∨
    ((dA k (cV bs (k + 1 + m))).1 = false ∧ (dA k (cV bs (k + 1 + m))).2 ++ [(k : Int)] = cV (bs.set k true) (k + 1 + m)) := by
  intro m
  induction m with
  | zero =>
    have h0 := mA (bs := bs) (k := k) (bw k)
    have h1 : cV (bs.set k true) k = cV bs k := mK fun j hj => by rw [fm hk, if_neg (by omega)]
    have h2 : cV (bs.set k true) (k + 1) = cV bs k ++ [(k : Int)] := by rw [ml (by rw [fm hk, if_pos Z]), h1]
    show ((dA k (cV bs (k + 1))).1 = true ∧ (dA k (cV bs (k + 1))).2 = cV (bs.set k true) (k + 1)) ∨ ((dA k (cV bs (k + 1))).1 = false ∧ (dA k (cV bs (k + 1))).2 ++ [(k : Int)] = cV (bs.set k true) (k + 1))
    rw [h2]
    cases hb : bs.getD k default with
    | true =>
      rw [ml hb, g9, h0]
      left
      unfold di
      rw [if_pos ⟨rfl, Int.le_refl _⟩, if_neg (by omega)]
      exact ⟨Z, Z⟩
    | false =>
      rw [nX hb, h0]
      exact .inr ⟨Z, Z⟩
  | succ m ih =>
    rw [show k + 1 + (m + 1) = (k + 1 + m) + 1 by omega]
    have hs : (bs.set k true).getD (k + 1 + m) default = bs.getD (k + 1 + m) default := by rw [fm hk, if_neg (by omega)]
    cases hb : bs.getD (k + 1 + m) default with
    | false =>
      rw [nX hb, nX (hs.trans hb)]; exact ih
    | true =>
      rw [ml hb, ml (hs.trans hb), g9]
      left
      unfold di
      rcases ih with ⟨a, b⟩ | ⟨a, b⟩
      · rw [if_neg (by rw [a]; simp)]
        exact ⟨a, by rw [b]⟩
      · rw [if_pos ⟨a, by omega⟩, if_pos (by omega)]
        exact ⟨Z, by rw [b]⟩
 intro n hn
 obtain ⟨m, rfl⟩ : ∃ m, n = k + 1 + m := ⟨n - (k + 1), by omega⟩
 unfold mf
 rcases key (m := m) with ⟨a, b⟩ | ⟨a, b⟩
 rw [if_pos a, b]
 rw [if_neg (by rw [a]; decide), b]
theorem uR {bs : List Bool} {q : Nat} : ∀ {n : Nat}, ((q : Int) ∈ cV bs n) ↔ q < n ∧ bs.getD q default = true
 | 0 => by simp [cV]
 | n + 1 => by
  have ih := uR (bs := bs) (q := q) (n := n)
  rw [cV]
  split
  rename_i h
  rw [List.mem_append, ih, List.mem_singleton]
  constructor
  rintro (h1 | h1)
  exact ⟨by omega, h1.2⟩
  have : q = n := by omega
  subst this; exact ⟨by omega, h⟩
  intro h1
  by_cases e : q = n
  exact .inr (by rw [e])
  exact .inl ⟨by omega, h1.2⟩
  rename_i h
  rw [ih]
  constructor
  intro h1; exact ⟨by omega, h1.2⟩
  intro h1
  have : q ≠ n := fun e => h (by rw [← e]; exact h1.2)
  exact ⟨by omega, h1.2⟩
theorem s8 {bs : List Bool} {n k : Nat} (h : k < (cV bs n).length) : ∃ q : Nat, (cV bs n).getD k default = (q : Int) ∧ q < n ∧ bs.getD q default = true := by
 have h1 : (cV bs n).getD k default ∈ cV bs n := by rw [ar h]; exact List.getElem_mem h
 have key : ∀ {m : Nat} {x : Int}, x ∈ cV bs m → ∃ q : Nat, x = (q : Int) := by
  intro m
  induction m with
  | zero => intro x hx; simp [cV] at hx
  | succ m ih =>
   intro x hx
   rw [cV] at hx
   split at hx
   rcases List.mem_append.1 hx with h2 | h2
   exact ih h2
   exact ⟨m, List.mem_singleton.1 h2⟩
   exact ih hx
 obtain ⟨q, hq⟩ := key h1
 rw [hq] at h1
 exact ⟨q, hq, uR.1 h1⟩
abbrev ce := List (List Int)
def kU (P : ce) (q : Nat) (e : Int) : Int := (P.getD q default).getD e.toNat default
def bP (P : ce) : Nat → List Int → Nat × Nat
  | q, [] => (0, q)
  | q, e :: r => if kU P q e < 0 then (0, q) else ((bP P (kU P q e).toNat r).1 + 1, (bP P (kU P q e).toNat r).2)
def jN (n : Nat) (r : List Int) : Bool := decide (r.length = 4) && r.all fun x => da (-1) ((n : Int) - 1) x
def dD (P : ce) : Bool := da 1 12 (P.length : Int) && P.all (jN P.length)
structure POk (P : ce) : Prop where
  lo : 1 ≤ P.length
  hi : P.length ≤ 12
  row : ∀ r ∈ P, r.length = 4 ∧ ∀ x ∈ r, -1 ≤ x ∧ x < (P.length : Int)
theorem ni {P : ce} (h : dD P = true) : POk P := by
 unfold dD jN da at h
 simp only [bF, decide_eq_true_eq, List.all_eq_true] at h
 refine ⟨by omega, by omega, fun r hr => ⟨(h.2 r hr).1, fun x hx => ?_⟩⟩
 have := (h.2 r hr).2 x hx
 omega
theorem POk.nx {P : ce} (h : POk P) {q : Nat} (hq : q < P.length) {e : Int} (he : 0 ≤ e ∧ e < 4) : -1 ≤ kU P q e ∧ kU P q e < (P.length : Int) := by
 have h1 := h.row (P.getD q default) (by rw [ar hq]; exact List.getElem_mem hq)
 have h2 : e.toNat < (P.getD q default).length := by rw [h1.1]; omega
 exact h1.2 _ (by unfold kU; rw [ar h2]; exact List.getElem_mem h2)
abbrev vk (es : List Int) : Prop := ∀ e ∈ es, 0 ≤ e ∧ e < 4
theorem i7 {P : ce} (h : POk P) : ∀ {es : List Int} {q : Nat}, q < P.length → vk es → (bP P q es).2 < P.length ∧ (bP P q es).1 ≤ es.length
 | [], q, hq, _ => ⟨hq, bw _⟩
 | e :: r, q, hq, he => by
  rw [bP]
  split
  exact ⟨hq, cm _⟩
  have h1 := h.nx hq (he e (by simp))
  have h2 := i7 h (es := r) (q := (kU P q e).toNat) (by omega) fun x hx => he x (by simp [hx])
  exact ⟨h2.1, by rw [jI]; exact Nat.succ_le_succ h2.2⟩
theorem og {P : ce} {q i : Nat} {es : List Int} (hi : i < es.length) (h : kU P q (es.getD i default) < 0) : bP P q (es.drop i) = (0, q) := by
 rw [List.drop_eq_getElem_cons hi, ← ar hi, bP, if_pos h]
theorem od {P : ce} {q i : Nat} {es : List Int} (hi : i < es.length) (h : ¬ kU P q (es.getD i default) < 0) : bP P q (es.drop i) = ((bP P (kU P q (es.getD i default)).toNat (es.drop (i + 1))).1 + 1, (bP P (kU P q (es.getD i default)).toNat (es.drop (i + 1))).2) := by
 rw [List.drop_eq_getElem_cons hi, ← ar hi, bP, if_neg h]
theorem oe {P : ce} {q i : Nat} {es : List Int} (hi : ¬ i < es.length) : bP P q (es.drop i) = (0, q) := by
 rw [List.drop_eq_nil_of_le (by omega)]; rfl
inductive PRch (P : ce) (ps : List Pth) : Nat → Nat → Prop
  | zero : PRch P ps 0 0
  | step {p : Pth} {q : Nat} : p ∈ ps → 0 ≤ p.to → PRch P ps (p.frm + 1).toNat q → (bP P q p.ev).1 = p.ev.length → PRch P ps (p.to + 1).toNat (bP P q p.ev).2
structure PthB (m : Nat) (p : Pth) : Prop where
  frm : -1 ≤ p.frm ∧ p.frm < (m : Int)
  to : -1 ≤ p.to ∧ p.to < (m : Int)
  ev : vk p.ev
  len : p.ev.length ≤ 1000
abbrev Mx := List (List Bool)
def gM (U : Mx) (i q : Nat) : Bool := (U.getD i default).getD q default
def sM (U : Mx) (i q : Nat) : Mx := U.set i ((U.getD i default).set q true)
def cM (U : Mx) : Nat := (U.map fd).sum
def xO (p : Pth) (P : ce) (q : Nat) : Bool := decide ((bP P q p.ev).1 = p.ev.length)
structure UI (P : ce) (ps : List Pth) (m : Nat) (U : Mx) : Prop where
  len : U.length = m + 1
  row : ∀ u ∈ U, u.length = P.length
  sub : ∀ i q, gM U i q = true → PRch P ps i q
  z : gM U 0 0 = true
theorem UI.rl {P : ce} {ps : List Pth} {m : Nat} {U : Mx} (h : UI P ps m U) {i : Nat} (hi : i ≤ m) : (U.getD i default).length = P.length := by
 have hl := h.len
 exact h.row _ (by rw [ar (by omega)]; exact List.getElem_mem _)
theorem ze {U : Mx} {i q : Nat} (hi : i < U.length) (hq : q < (U.getD i default).length) {j k : Nat} : gM (sM U i q) j k = if j = i ∧ k = q then true else gM U j k := by
 unfold gM sM
 by_cases e : j = i
 subst e
 rw [show (U.set j ((U.getD j default).set q true)).getD j default = (U.getD j default).set q true by simp [List.getD_eq_getElem?_getD, hi]]
 rw [fm hq]
 by_cases e2 : k = q
 rw [if_pos e2, if_pos ⟨rfl, e2⟩]
 rw [if_neg e2, if_neg (fun h => e2 h.2)]
 rw [if_neg (fun h => e h.1), show (U.set i ((U.getD i default).set q true)).getD j default = U.getD j default by simp [List.getD_eq_getElem?_getD, List.getElem?_set, Ne.symm e]]
theorem zh {U : Mx} {i q : Nat} (hi : i < U.length) (hq : q < (U.getD i default).length) (h : gM U i q = false) : cM (sM U i q) + 1 = cM U := by
 have h1 := oB hq h
 have key : ∀ {V : Mx} {j : Nat} {v : List Bool}, j < V.length → (V.map fd).sum + fd v = ((V.set j v).map fd).sum + fd (V.getD j default) := by
  intro V
  induction V with
  | nil => intro j v hj; simp at hj
  | cons x V ih =>
   intro j v hj
   cases j with
   | zero => simp only [List.set_cons_zero, List.map_cons, List.sum_cons, List.getD_cons_zero]; omega
   | succ j =>
    have := ih (j := j) (v := v) (by simpa using hj)
    simp only [List.set_cons_succ, List.map_cons, List.sum_cons, List.getD_cons_succ]; omega
 have := key (V := U) (j := i) (v := (U.getD i default).set q true) hi
 unfold cM sM
 omega
theorem UI.set {P : ce} {ps : List Pth} {m : Nat} {U : Mx} (h : UI P ps m U) {i q : Nat} (hi : i ≤ m) (hq : q < P.length) (hr : PRch P ps i q) : UI P ps m (sM U i q) := by
 have hl := h.len
 have hrl := h.rl hi
 have hg : ∀ j k, gM (sM U i q) j k = if j = i ∧ k = q then true else gM U j k := fun j k => ze (by omega) (by omega)
 refine ⟨by simp [sM, hl], fun u hu => ?_, fun j k hjk => ?_, ?_⟩
 rcases List.mem_or_eq_of_mem_set hu with h1 | h1
 exact h.row u h1
 rw [h1, List.length_set]; exact hrl
 rw [hg] at hjk
 split at hjk
 rename_i e; rw [e.1, e.2]; exact hr
 exact h.sub j k hjk
 rw [hg]; split
 rfl
 exact h.z
def Am (P : ce) (U : Mx) (p : Pth) : Prop := 0 ≤ p.to → ∀ q, gM U (p.frm + 1).toNat q = true → (bP P q p.ev).1 = p.ev.length → gM U (p.to + 1).toNat (bP P q p.ev).2 = true
noncomputable def x5 (P : ce) (ps : List Pth) (i q : Nat) : Bool := @decide (PRch P ps i q) (Classical.propDecidable _)
noncomputable def dd (P : ce) (ps : List Pth) (m : Nat) : Mx := (List.range (m + 1)).map fun i => (List.range P.length).map fun q => x5 P ps i q
theorem UI.rch {P : ce} {ps : List Pth} {m : Nat} {U : Mx} (h : UI P ps m U) (hc : ∀ p ∈ ps, Am P U p) {i q : Nat} (hr : PRch P ps i q) : gM U i q = true := by
 induction hr with
 | zero => exact h.z
 | step h1 h2 h3 h4 ih => exact hc _ h1 h2 _ ih h4
theorem UI.can {P : ce} {ps : List Pth} {m : Nat} {U : Mx} (h : UI P ps m U) (hc : ∀ p ∈ ps, Am P U p) : U = dd P ps m := by
 have hl := h.len
 refine List.ext_getElem (by simp [dd, hl]) fun i h1 h2 => ?_
 have hr := h.row U[i] (List.getElem_mem h1)
 refine List.ext_getElem (by simp [dd, hr]) fun q h3 h4 => ?_
 have e : gM U i q = U[i][q] := by unfold gM; rw [ar h1, ar h3]
 have e2 : (dd P ps m)[i][q] = x5 P ps i q := by
  simp only [dd, List.getElem_map, List.getElem_range]
 rw [← e, e2]
 cases hg : gM U i q with
 | true => exact (@decide_eq_true _ (Classical.propDecidable _) (h.sub i q hg)).symm
 | false => exact (@decide_eq_false _ (Classical.propDecidable _) (fun hr => by rw [h.rch hc hr] at hg; cases hg)).symm
theorem fU {P : ce} {ps : List Pth} {m : Nat} : (dd P ps m).length = m + 1 := by simp [dd]
theorem ns {P : ce} {ps : List Pth} {m i : Nat} (hi : i ≤ m) : ((dd P ps m).getD i default).length = P.length := by
 rw [ar (by rw [fU]; omega)]; simp [dd]
structure Ps1 (P : ce) (ps : List Pth) (m : Nat) (U0 U : Mx) (g : Bool) (i : Nat) : Prop where
  ui : UI P ps m U
  le : cM U ≤ cM U0
  lt : g = true → cM U < cM U0
  cl : g = false → U = U0 ∧ ∀ p ∈ ps.take i, Am P U p
structure Ps2 (P : ce) (ps : List Pth) (m : Nat) (U0 U : Mx) (g : Bool) (i : Nat) (K : Nat → Prop) : Prop where
  ps1 : Ps1 P ps m U0 U g i
  cl : g = false → ∀ q, K q → gM U ((ps.getD i default).frm + 1).toNat q = true → (bP P q (ps.getD i default).ev).1 = (ps.getD i default).ev.length → gM U ((ps.getD i default).to + 1).toNat (bP P q (ps.getD i default).ev).2 = true
theorem Ps1.zero {P : ce} {ps : List Pth} {m : Nat} {U : Mx} (h : UI P ps m U) : Ps1 P ps m U U false 0 :=
  ⟨h, bw _, fun h => (by cases h), fun _ => ⟨rfl, fun p hp => by simp at hp⟩⟩
theorem hZ {α : Type} [Inhabited α] {ps : List α} {i : Nat} (hi : i < ps.length) {p : α} (hp : p ∈ ps.take (i + 1)) : p ∈ ps.take i ∨ p = ps.getD i default := by
 rw [List.take_succ_eq_append_getElem hi, List.mem_append, List.mem_singleton, ← ar hi] at hp
 exact hp
theorem Ps1.skip {P : ce} {ps : List Pth} {m : Nat} {U0 U : Mx} {g : Bool} {i : Nat} (h : Ps1 P ps m U0 U g i) (hi : i < ps.length) (ht : ¬ 0 ≤ (ps.getD i default).to) : Ps1 P ps m U0 U g (i + 1) :=
  ⟨h.ui, h.le, h.lt, fun hg => ⟨(h.cl hg).1, fun p hp => by
 rcases hZ hi hp with h1 | h1
 exact (h.cl hg).2 p h1
 subst h1; exact fun h2 => absurd h2 ht⟩⟩
theorem Ps1.into {P : ce} {ps : List Pth} {m : Nat} {U0 U : Mx} {g : Bool} {i : Nat} (h : Ps1 P ps m U0 U g i) {K : Nat → Prop} (hK : ∀ q, ¬ K q) : Ps2 P ps m U0 U g i K := ⟨h, fun _ q hq => absurd hq (hK q)⟩
theorem Ps2.out {P : ce} {ps : List Pth} {m : Nat} {U0 U : Mx} {g : Bool} {i : Nat} {K : Nat → Prop} (h : Ps2 P ps m U0 U g i K) (hi : i < ps.length) (hK : g = false → ∀ q, gM U ((ps.getD i default).frm + 1).toNat q = true → K q) : Ps1 P ps m U0 U g (i + 1) :=
  ⟨h.ps1.ui, h.ps1.le, h.ps1.lt, fun hg => ⟨(h.ps1.cl hg).1, fun p hp => by
 rcases hZ hi hp with h1 | h1
 exact (h.ps1.cl hg).2 p h1
 subst h1; exact fun _ q hq => h.cl hg q (hK hg q hq) hq⟩⟩
theorem Ps2.pass {P : ce} {ps : List Pth} {m : Nat} {U0 U : Mx} {g : Bool} {i : Nat} {K K' : Nat → Prop} (h : Ps2 P ps m U0 U g i K) {q : Nat} (hK : ∀ j, K' j → K j ∨ j = q)
    (hq : g = false → gM U ((ps.getD i default).frm + 1).toNat q = true → (bP P q (ps.getD i default).ev).1 = (ps.getD i default).ev.length → gM U ((ps.getD i default).to + 1).toNat (bP P q (ps.getD i default).ev).2 = true) : Ps2 P ps m U0 U g i K' :=
  ⟨h.ps1, fun hg j hj => by
    rcases hK j hj with h1 | h1
    · exact h.cl hg j h1
    · subst h1; exact hq hg⟩
theorem Ps2.grow {P : ce} {ps : List Pth} {m : Nat} {U0 U : Mx} {g : Bool} {i : Nat} {K K' : Nat → Prop} (h : Ps2 P ps m U0 U g i K) (hP : POk P) (hi : i < ps.length) (hb : PthB m (ps.getD i default)) {q : Nat} (hq : q < P.length) (ht : 0 ≤ (ps.getD i default).to)
    (hr : PRch P ps ((ps.getD i default).frm + 1).toNat q) (hl : (bP P q (ps.getD i default).ev).1 = (ps.getD i default).ev.length) (hf : gM U ((ps.getD i default).to + 1).toNat (bP P q (ps.getD i default).ev).2 = false) :
    Ps2 P ps m U0 (sM U ((ps.getD i default).to + 1).toNat (bP P q (ps.getD i default).ev).2) true i K' := by
 have hmem : ps.getD i default ∈ ps := by rw [ar hi]; exact List.getElem_mem hi
 have hto := hb.to
 have hul := h.ps1.ui.len
 have hpl := (i7 hP hq hb.ev).1
 have hrl := h.ps1.ui.rl (i := ((ps.getD i default).to + 1).toNat) (by omega)
 have hc := zh (U := U) (i := ((ps.getD i default).to + 1).toNat) (by omega) (by rw [hrl]; exact hpl) hf
 have hle := h.ps1.le
 exact ⟨⟨h.ps1.ui.set (by omega) hpl (.step hmem ht hr hl), by omega, fun _ => by omega, fun hg => by cases hg⟩, fun hg => by cases hg⟩
theorem Ps1.done {P : ce} {ps : List Pth} {m : Nat} {U0 U : Mx} {i : Nat} (h : Ps1 P ps m U0 U false i) (hi : ¬ i < ps.length) : U = dd P ps m := by
 have h1 := h.cl Z
 rw [List.take_of_length_le (by omega)] at h1
 exact h.ui.can h1.2
def r8 (n m : Nat) : Mx := (List.replicate n false).set 0 true :: List.replicate m (List.replicate n false)
theorem lw {n k : Nat} : (List.replicate n false).getD k default = false := by
 rw [List.getD_eq_getElem?_getD, List.getElem?_replicate]
 split <;> rfl
theorem s4 {P : ce} {ps : List Pth} {m : Nat} (h : POk P) : UI P ps m (r8 P.length m) := by
 have h1 := h.lo
 refine ⟨by simp [r8], fun u hu => ?_, fun i q hg => ?_, ?_⟩
 unfold r8 at hu
 rcases List.mem_cons.1 hu with h2 | h2
 rw [h2]; simp
 rw [(List.mem_replicate.1 h2).2]; simp
 unfold r8 gM at hg
 cases i with
 | zero =>
  rw [List.getD_cons_zero, fm (by rw [List.length_replicate]; omega)] at hg
  split at hg
  rename_i e; rw [e]; exact .zero
  rw [lw] at hg; cases hg
 | succ i =>
  rw [List.getD_cons_succ] at hg
  have h2 : (List.replicate m (List.replicate P.length false)).getD i default = if i < m then List.replicate P.length false else [] := by
   rw [List.getD_eq_getElem?_getD, List.getElem?_replicate]; split <;> rfl
  rw [h2] at hg
  split at hg
  rw [show (List.replicate P.length false).getD q default = false from lw] at hg; cases hg
  simp at hg
 unfold r8 gM
 rw [List.getD_cons_zero, fm (by rw [List.length_replicate]; omega), if_pos Z]
def kJ (P : ce) (p : Pth) (q : Nat) : Bool := decide ((bP P q p.ev).1 < p.ev.length)
def i3 (P : ce) (p : Pth) (u : List Bool) : Nat → Nat → Option Nat
  | 0, _ => none
  | n + 1, k => if u.getD k default = true ∧ kJ P p k = true then some k else i3 P p u n (k + 1)
def gh (P : ce) (U : Mx) : Nat → List Pth → Option (Nat × Nat)
  | _, [] => none
  | i, p :: r => match i3 P p (U.getD (p.frm + 1).toNat default) P.length 0 with
    | some q => some (i, q)
    | none => gh P U (i + 1) r
theorem hJ {P : ce} {U : Mx} {i : Nat} {ps : List Pth} (hi : i < ps.length) : gh P U i (ps.drop i) = match i3 P (ps.getD i default) (U.getD ((ps.getD i default).frm + 1).toNat default) P.length 0 with
    | some q => some (i, q)
    | none => gh P U (i + 1) (ps.drop (i + 1)) := by
  rw [List.drop_eq_getElem_cons hi, ← ar hi, gh]
theorem oo {P : ce} {U : Mx} {i : Nat} {ps : List Pth} (hi : ¬ i < ps.length) : gh P U i (ps.drop i) = none := by
 rw [List.drop_eq_nil_of_le (by omega)]; rfl
def gd (P : ce) (p : Pth) : List Int → Option Nat
  | [] => none
  | x :: r => if kJ P p x.toNat = true then some x.toNat else gd P p r
theorem tI {P : ce} {p : Pth} {xs ys : List Int} : gd P p (xs ++ ys) = match gd P p xs with
    | some q => some q
    | none => gd P p ys := by
  induction xs with
  | nil => rfl
  | cons x xs ih =>
    rw [List.cons_append, gd, gd]
    split
    · rfl
    · exact ih
theorem sZ {P : ce} {p : Pth} {u : List Bool} : ∀ n, i3 P p u n 0 = gd P p (cV u n) := by
 have key : ∀ n k, i3 P p u (n + 1) k = match i3 P p u n k with
    | some q => some q
    | none => if u.getD (k + n) default = true ∧ kJ P p (k + n) = true then some (k + n) else none := by
  intro n
  induction n with
  | zero => intro k; rfl
  | succ n ih =>
    intro k
    rw [i3, ih (k + 1)]
    conv => rhs; rw [i3]
    split
    · rfl
    · rw [show k + 1 + n = k + (n + 1) by omega]
 intro n
 induction n with
 | zero => rfl
 | succ n ih =>
  rw [key, ih, cV, Nat.zero_add]
  by_cases h : u.getD n default = true
  rw [if_pos h, tI]
  cases gd P p (cV u n) with
  | some q => rfl
  | none =>
   show (if _ then _ else _) = gd P p [(n : Int)]
   rw [gd, gd, Int.toNat_natCast]
   by_cases hb : kJ P p n = true
   rw [if_pos ⟨h, hb⟩, if_pos hb]
   rw [if_neg (fun h => hb h.2), if_neg hb]
  rw [if_neg h]
  cases gd P p (cV u n) with
  | some q => rfl
  | none => exact if_neg (fun h2 => h h2.1)
theorem mF {P : ce} {p : Pth} {xs : List Int} {k : Nat} (hk : k < xs.length) : gd P p (xs.drop k) = if kJ P p (xs.getD k default).toNat = true then some (xs.getD k default).toNat else gd P p (xs.drop (k + 1)) := by
 rw [List.drop_eq_getElem_cons hk, ← ar hk, gd]
def m9 (m : Nat) (g : Gs) : Prop := ∀ p ∈ g.paths, PthB m p
theorem tb {m : Nat} {frm to : Int} (hf : -1 ≤ frm ∧ frm < (m : Int)) (ht : -1 ≤ to ∧ to < (m : Int)) {n : Nat} {w : Pw} {st : List Tm} (hw : CW n w st) (he : vk w.ev) {fs : List Tm} {g : Gs} (h : m9 m g) : m9 m (cj frm w to fs g) := fun p hp => by
 unfold cj el at hp
 rw [dq] at hp
 rcases List.mem_append.1 hp with h1 | h1
 exact h p h1
 rw [List.mem_singleton.1 h1]
 have := hw.ev
 exact ⟨hf, ht, he, by show w.ev.length ≤ 1000; omega⟩
theorem uQ {x : In} (hx : aV x = true) {w : Pw} {st : List Tm} {g : Gs} (h : vk w.ev) : vk (cg x w st g).w.ev := by
 unfold cg
 split
 exact h
 split
 exact h
 split
 exact h
 split
 exact h
 split
 exact h
 split
 split <;> exact h
 split
 exact h
 split
 rename_i h9
 intro e he
 rcases List.mem_append.1 he with h1 | h1
 exact h e h1
 rw [List.mem_singleton.1 h1]
 unfold aV at hx
 rw [if_neg (by omega), if_neg (by omega), if_neg (by omega), if_pos h9] at hx
 unfold da at hx
 simp only [bF, decide_eq_true_eq] at hx
 omega
 split
 exact h
 exact h
theorem lm {a : An} {frm : Int} (hf : -1 ≤ frm ∧ frm < (a.pts.length : Int)) (hc : ∀ x ∈ a.code, aV x = true) : ∀ {n : Nat} {at_ : Int} {b : Bool} {w : Pw} {st : List Tm} {g : Gs}, (g.bad = false → CW n w st ∧ vk w.ev) → m9 a.pts.length g → m9 a.pts.length (dL jL a frm n at_ b w st g)
 | 0, at_, b, w, st, g, _, hg => hg
 | n + 1, at_, b, w, st, g, hw, hg => by
  refine fF (P := m9 a.pts.length) (fun _ => hg) (fun hb => ?_)
  obtain ⟨hw, he⟩ := hw hb
  refine ⟨fun _ => hg, fun hi => ⟨fun hp => ?_, fun hp => ⟨fun _ => tb hf ⟨Int.le_refl _, by omega⟩ hw he hg, fun ho => ⟨fun _ => hg, fun hs => ?_⟩, fun h11 h6 => ?_⟩⟩⟩
  show m9 a.pts.length (if st.length = 0 then _ else _)
  split
  have hn : 0 ≤ dC a.pts at_ := by
   rw [Bool.and_eq_true] at hp
   exact of_decide_eq_true hp.2
  have hl := na hn
  exact tb hf ⟨by omega, by omega⟩ hw he hg
  exact hg
  unfold ga
  have k1 : ((g.flag (!(bK (bg st)).2)).flag (w.fact (bg st)).long).bad = false → (w.fact (bg st)).long = false := fun h => by
   simp only [Gs.flag, Bool.or_eq_false_iff] at h; exact h.2
  have e1 := lm hf hc (n := n) (at_ := at_ + 1) (b := false) (w := w.fact (bg st)) (st := cJ st) (g := (g.flag (!(bK (bg st)).2)).flag (w.fact (bg st)).long) (fun hb2 => ⟨hw.test (k1 hb2), he⟩) hg
  refine lm hf hc (fun hb2 => ⟨hw.test ?_, he⟩) e1
  rw [i9 (u := bg st)]
  refine k1 ?_
  cases hq : ((g.flag (!(bK (bg st)).2)).flag (w.fact (bg st)).long).bad with
  | false => rfl
  | true =>
   have hb3 : (dL jL a frm n (at_ + 1) false (w.fact (bg st)) (cJ st) ((g.flag (!(bK (bg st)).2)).flag (w.fact (bg st)).long)).bad = false := hb2
   rw [cb hq, hq] at hb3; cases hb3
  have hin := uS.1 hi
  have hx : aV (a.code.getD at_.toNat default) = true := by
   rw [ar (by omega)]; exact hc _ (List.getElem_mem (by omega))
  refine lm hf hc (fun hb2 => ⟨hw.leaf hx hb2, uQ hx he⟩) (fun p hp => hg p ?_)
  have e : (jL.leaf (a.code.getD at_.toNat default) w st g).g.paths = g.paths := zb.1
  rwa [e] at hp
theorem wO {a : An} (h : VA' a) {n : Nat} (hn : n ≤ a.pts.length) {g : Gs} (hg : m9 a.pts.length g) : m9 a.pts.length (fK jL a n g) := by
 cases n with
 | zero => exact lm ⟨Int.le_refl _, by omega⟩ h.ok.code (fun _ => ⟨ki h.ok.npre, fun e he => by cases he⟩) hg
 | succ n =>
  have hp := h.pt (n := n) (by omega)
  exact lm ⟨by omega, by omega⟩ h.ok.code (fun _ => ⟨ki (cP (n := 6) hp.1), fun e he => by cases he⟩) hg
theorem tf {a : An} (h : VA' a) : ∀ {n : Nat}, n ≤ a.pts.length + 1 → m9 a.pts.length (kW a n)
 | 0, _ => fun p hp => by cases hp
 | n + 1, hn => by
  rw [kW]
  exact wO h (by omega) (tf h (by omega))
abbrev mC (xs : List Int) : List D := [gj xs]
abbrev fL (P : List (List Int)) : D := .slc 1 (P.map mC)
abbrev kK (P : List (List Int)) : A := .c (.d (fL P))
abbrev gf (P : List (List Int)) : B := .row true 1 (P.map mC)
abbrev aPol (P : ce) : A := .agg [.d (fL P)]
abbrev mL (k : Int) (xs : List Int) : List Int := bq mI dm k xs
abbrev nL (xs : List Int) : Nat := xs.length
theorem lv {α : Type} {f : α → Nat} {xs : List α} : szs f xs = xs.length + (xs.map f).sum := rfl

theorem zD {L : Nat} (h1 : 4096 ≤ L) (h2 : L ≤ 9223372036854775807) {ts : List (List Int)} {left : Int} (hl0 : 0 ≤ left) (hl1 : left ≤ 1048576) : MC Tryz.prog L 64 [.c (.d (fL ts)), eI left] [] (Plain (eI (bO left (Al.szs List.length ts)))) := by
 refine aA ?_ Z
 have O := gk (nt := 27) h1 h2
 refine MC.body O Tryz.func64 (by kernel_rfl) Z Z (Nat.le_of_ble_eq_true Z) (fun hF => ?_)
 have hl : ts.length ≤ L := by simpa [As.fact, A.fact, M.fact, D.fact, Ds.fact] using hF.1.1
 refine ac (js O Z (aP (j2 O Z Z ?_)))
 first | refine bo O Z ?_ | refine js O Z ?_ | refine aU O Z Z ?_
 first | refine ji O Z ?_ | refine aU O Z Z ?_
 refine js O Z (jn (af (ac (j2 O Z Z (jn (ab O Z Z (fun hc11 => ?_) (fun hc11 => ?_)))))))
 try simp only [aN] at hc11
 refine ac (js O Z (jr ?_))
 refine ⟨.inl Z, _, ak, _, Z, ?_⟩
 rw [show bO left (Al.szs List.length ts) = -1 from if_pos (by rw [lv]; omega)]
 try simp only [aN] at hc11
 refine ah (af (ac (js O Z (jn (am (ap (X := Nat) (fun i => ⟨[(0, .c (.d (fL ts))), (1, eI (left - ts.length - ((ts.take i).map List.length).sum)), (5, eI i)], []⟩) (fun i => i ≤ ts.length ∧ (0 : Int) ≤ left - ts.length - ((ts.take i).map List.length).sum) (fun i => ts.length - i) 0 (Ent.env ⟨Z, by simp [aB], Z, trivial⟩) ?_ (fun i hi => ?_)))))))
 exact ⟨cm _, by simp; omega⟩
 refine af (ac (j2 O Z Z ?_))
 first | refine bo O Z ?_ | refine js O Z ?_ | refine aU O Z Z ?_
 refine js O Z (jn (ab O Z Z (fun hc15 => ?_) (fun hc15 => ?_)))
 try simp only [aN] at hc15
 refine ah (af (am (ac (j2 O Z Z ?_))))
 first | refine f7 O Z Z ?_ | refine aU O Z Z ?_
 refine j2 O Z Z (ae O Z Z Z Z (BG h1 h2 hi.2 (by omega)) (aa Z) Z Z Z Z Z (B0 := 24000) Z (js O Z (aP (j2 O Z Z (jn (ab O Z Z (fun hc25 => ?_) (fun hc25 => ?_)))))))
 try simp only [aN] at hc25
 refine ac (js O Z (jr ?_))
 refine ⟨.inl Z, _, ak, _, Z, ?_⟩
 have e := fj List.length ts i (by omega)
 have e3 := pg List.length ts (i + 1)
 rw [Int.toNat_natCast] at hc25
 rw [show bO left (Al.szs List.length ts) = -1 from if_pos (by unfold bO at hc25; rw [lv]; split at hc25 <;> omega)]
 try simp only [aN] at hc25
 refine ah (aj (js O Z ?_))
 first | refine ji O Z ?_ | refine aU O Z Z ?_
 refine js O Z (jn ?_)
 have e := fj List.length ts i (by omega)
 have e2 : bO (left - ts.length - ((ts.take i).map List.length).sum) (List.length (ts.getD i default)) = left - ts.length - ((ts.take (i + 1)).map List.length).sum := by
  unfold bO at hc25 ⊢
  rw [Int.toNat_natCast] at hc25
  split at hc25 <;> omega
 refine ⟨i + 1, Ent.env ⟨Z, ?_, Z, trivial⟩, ⟨by omega, ?_⟩, by omega⟩
 rw [← e2]; rfl
 rw [← e2]; rw [Int.toNat_natCast] at hc25; omega
 try simp only [aN] at hc15
 refine aQ (ac (j2 O Z Z (jr ?_)))
 refine ⟨.inl Z, _, ak, _, Z, ?_⟩
 obtain rfl : i = ts.length := by omega
 have e4 := hi.2
 rw [List.take_length] at e4 ⊢
 rw [show bO left (Al.szs List.length ts) = left - ts.length - (ts.map List.length).sum from by rw [lv]; unfold bO; rw [if_neg (by omega)]; omega]
theorem ip {L : Nat} (h1 : 4096 ≤ L) (h2 : L ≤ 9223372036854775807) {P : ce} {left : Int} (hl0 : 0 ≤ left) (hl1 : left ≤ 1048576) : MC Tryz.prog L 25 [aPol P, eI left] [] (Plain (eI (bO left (szs List.length P)))) := by
 refine aA ?_ Z
 have O := gk (nt := 12) h1 h2
 refine MC.body O Tryz.func25 (by kernel_rfl) Z Z (Nat.le_of_ble_eq_true Z) (fun hF => ?_)
 refine ac (jx O Z (js O Z (aP (j3 O Z Z Z (ae O Z Z Z Z (zD (ts := P) h1 h2 hl0 hl1) (aa Z) Z Z Z Z Z (B0 := 9000) Z (js O Z (jn (af (ac (j2 O Z Z (jn (ab O Z Z (fun hc10 => ?_) (fun hc10 => ?_)))))))))))))
 try simp only [aN] at hc10
 refine ac (js O Z (jr ?_))
 refine ⟨.inl Z, _, ak, _, Z, ?_⟩
 have : bO left (szs List.length P) = -1 := by unfold bO at *; split at hc10 <;> simp_all <;> omega
 rw [this]
 try simp only [aN] at hc10
 refine ah (ac (j2 O Z Z (jr ?_)))
 refine ⟨.inl Z, _, ak, _, Z, ?_⟩
 rfl
variable {ts : List (List Int)}
theorem zB : MQ h1 h2 67 [.c (.d (fL ts))] [] (Rows (.c (.rs 0 0 ts.length)) [gf ts]) := by
 refine bh (jB 23 h1 h2 Tryz.func67 Z Z Z fun O hF => ?_)
 have hl : ts.length ≤ L := by simpa [As.fact, A.fact, M.fact, D.fact, Ds.fact] using hF.1.1
 refine ac (js O Z (aP (js O Z ?_)))
 first | refine bo O Z ?_ | refine js O Z ?_ | refine aU O Z Z ?_
 refine AOps.heap (cd O Z Z Z Z Z Z Z Z Z (by first | omega | (simp at *; omega)) (by first | omega | (simp at *; omega)) (by first | omega | (simp at *; omega)) (by first | omega | (dsimp only; omega) | (simp only [aN] at *; omega)) (by first | omega | (simp at *; omega)) Z Z Z) Z (js O Z (jn (af (ac (js O Z (jn (am (ap (X := Nat × List (List Int)) (fun x => ⟨[(0, .c (.d (fL ts))), (3, .c (.rs 7 0 ts.length)), (4, eI x.1)], [(7, gf x.2)]⟩) (fun x => x.1 ≤ ts.length ∧ x.2.length = ts.length ∧ ∀ j, j < x.1 → x.2[j]? = ts[j]?) (fun x => ts.length - x.1) (0, List.replicate ts.length []) ((Ent.rowLe 7 Z (NLess.replicate (.cons (.nil (sz := 1)) .nil))).trans (Ent.to ⟨Z, Z, Z, trivial⟩ (by simp [ins, dV, gf]))) ?_ (fun x hi => ?_)))))))))
 exact ⟨cm _, List.length_replicate, fun j hj => absurd hj (Nat.not_lt_zero j)⟩
 refine af (ac (j2 O Z Z ?_))
 first | refine bo O Z ?_ | refine js O Z ?_ | refine aU O Z Z ?_
 refine js O Z (jn (ab O Z Z (fun hc11 => ?_) (fun hc11 => ?_)))
 try simp only [aN] at hc11
 refine ah (af (am (aj (j4 O Z Z Z Z ?_))))
 first | refine f7 O Z Z ?_ | refine aU O Z Z ?_
 refine js O Z (aI O (B0 := 21000) Z Z Z Z (BF h1 h2) (aa Z) Z Z Z Z Z Z ?_)
 first | refine f7 O Z Z ?_ | refine aU O Z Z ?_
 refine AOps.heap (eR (ex := mC (x.2.getD x.1 default)) (xs' := (x.2.set x.1 (ts.getD x.1 default)).map mC) O Z Z Z Z Z Z Z (.rs Z (by simp) .nil) Z Z Z Z Z Z (by simp [hi.2.1, show x.1 < ts.length by omega]) (by simp [List.map_set])) Z (jn (aj (js O Z ?_)))
 first | refine ji O Z ?_ | refine aU O Z Z ?_
 refine js O Z (jn ?_)
 refine ⟨(x.1 + 1, x.2.set x.1 (ts.getD x.1 default)), Ent.to ⟨Z, Z, Z, trivial⟩ Z, ⟨by omega, by simp [hi.2.1], fun j hj => ?_⟩, by omega⟩
 rw [List.getElem?_set]
 split
 rename_i e; subst e; simp [hi.2.1, show x.1 < ts.length by omega]
 exact hi.2.2 j (by omega)
 try simp only [aN] at hc11
 refine aQ (ac (j2 O Z Z (jr ?_)))
 have e : x.2 = ts := List.ext_getElem? fun j => by
  rcases Nat.lt_or_ge j x.1 with h | h
  ·
   exact hi.2.2 j h
  ·
   rw [List.getElem?_eq_none (by omega), List.getElem?_eq_none (by omega)]
 refine ⟨.inl Z, _, ak, _, Z, [7], by decide, Z, Z, ?_⟩
 rw [← e]; rfl
theorem nZ {P : ce} : MQ h1 h2 27 [aPol P] [] (Rows (.agg [.rs 0 0 P.length]) [gf P]) := by
 refine bh (jB 9 h1 h2 Tryz.func27 Z Z Z fun O hF => ?_)
 refine ac (jx O Z (ao ?_))
 refine jl O Z (ao ?_)
 refine aP (jl O Z (ao ?_))
 refine aP (j2 O Z Z (aI O (B0 := 7000) Z Z Z Z (zB h1 h2) (aa Z) Z Z Z Z Z Z (ao ?_)))
 refine js O Z (jo O Z (ao ?_))
 refine aP (js O Z (jo O Z (ao ?_)))
 refine jr ?_
 refine ⟨.inl Z, _, ak, _, Z, [7000], by decide, Z, Z, Z⟩
theorem eX {L : Nat} (h1 : 4096 ≤ L) (h2 : L ≤ 1073741824) {P : ce} : MC Tryz.prog L 27 [aPol P] [] (Plain (aPol P)) := (nZ h1 h2).frozen (.v (.agg (.cons (.whole rfl (bt _).symm) .nil)))
theorem lc {xs ys : List (List Int)} : MQ h1 h2 34 [.c (.d (fL xs)), .c (.d (fL ys))] [] (Plain (eB (decide (xs = ys)))) := by
 refine aA ?_ Z
 refine jB 27 h1 h2 Tryz.func34 Z Z Z fun O hF => ?_
 have hl : xs.length ≤ L := by simpa [As.fact, A.fact, M.fact, D.fact, Ds.fact] using hF.1.1
 have hl2 : ys.length ≤ L := by simpa [As.fact, A.fact, M.fact, D.fact, Ds.fact] using hF.2.1.1
 refine ac (js O Z (jn (af (ac (js O Z ?_)))))
 first | refine bo O Z ?_ | refine js O Z ?_ | refine aU O Z Z ?_
 refine js O Z ?_
 first | refine bo O Z ?_ | refine js O Z ?_ | refine aU O Z Z ?_
 refine js O Z (jn (ab O Z Z (fun hc10 => ?_) (fun hc10 => ?_)))
 try simp only [aN] at hc10
 refine ac (js O Z (jr ?_))
 refine ⟨.inl Z, _, ak, _, Z, ?_⟩
 rw [decide_eq_false (fun e => by subst e; simp at hc10)]
 try simp only [aN] at hc10
 refine ah (af (ac (js O Z (jn (am (ap (X := Nat) (fun i => ⟨[(0, .c (.d (fL xs))), (1, .c (.d (fL ys))), (5, eI i)], []⟩) (fun i => i ≤ xs.length ∧ ∀ j, j < i → xs[j]? = ys[j]?) (fun i => xs.length - i) 0 (Ent.env ⟨Z, Z, Z, trivial⟩) ?_ (fun i hi => ?_)))))))
 exact ⟨cm _, fun j hj => absurd hj (Nat.not_lt_zero j)⟩
 refine af (ac (j2 O Z Z ?_))
 first | refine bo O Z ?_ | refine js O Z ?_ | refine aU O Z Z ?_
 refine js O Z (jn (ab O Z Z (fun hc14 => ?_) (fun hc14 => ?_)))
 try simp only [aN] at hc14
 refine ah (af (am (af (fI O [_,_,_,_,_,_,_,_,_,_] [pn [] 0 0, pn [] 0 0, pn [0,1] 0 0, pn [0,1,2] 0 0, pn [] 0 0, pn [] 0 0, pn [4,5] 0 0, pn [4,5,6] 0 0, pe (rg 0 8) 0, pn (rg 0 9) 1 1] [8] [_,_] (kc O Z (kc O Z (ai (vD O Z) (kc O Z (kc O Z (kc O Z (ai (vD O Z) (kc O Z (ai (bm O (B0 := 26000) Z Z Z Z (BI h1 h2) (aa Z) Z Z Z Z Z) (kc O Z trivial)))))))))) ?_))))
 refine ab O Z Z (fun hc26 => ?_) (fun hc26 => ?_)
 try simp only [aN] at hc26
 refine ac (js O Z (jr ?_))
 refine ⟨.inl Z, _, ak, _, Z, ?_⟩
 rw [decide_eq_false (fun e => by subst e; simp at hc26)]
 try simp only [aN] at hc26
 refine ah (aj (js O Z ?_))
 first | refine ji O Z ?_ | refine aU O Z Z ?_
 refine js O Z (jn ?_)
 refine ⟨i + 1, Ent.env ⟨Z, Z, Z, trivial⟩, ⟨by omega, fun j hj => ?_⟩, by omega⟩
 rcases Nat.lt_or_ge j i with h | h
 exact hi.2 j h
 obtain rfl : j = i := by omega
 rw [Int.toNat_natCast, ar (by omega), ar (by omega)] at hc26
 rw [List.getElem?_eq_getElem (by omega), List.getElem?_eq_getElem (by omega), hc26]
 try simp only [aN] at hc14
 refine aQ (ac (js O Z (jr ?_)))
 refine ⟨.inl Z, _, ak, _, Z, ?_⟩
 have e : xs = ys := List.ext_getElem? fun j => by
  rcases Nat.lt_or_ge j i with h | h
  ·
   exact hi.2 j h
  ·
   rw [List.getElem?_eq_none (by omega), List.getElem?_eq_none (by omega)]
 rw [decide_eq_true e]
theorem qG {s t : ce} : MQ h1 h2 29 [aPol s, aPol t] [] (Plain (eB (decide (s = t)))) := by
 refine aA ?_ Z
 refine jB 11 h1 h2 Tryz.func29 Z Z Z fun O hF => ?_
 refine ac (jx O Z (jx O Z (js O Z (jn (af (ac (j4 O Z Z Z Z (ae O Z Z Z Z (lc h1 h2) (aa Z) Z Z Z Z Z (B0 := 10000) Z (js O Z (jn (ab O Z Z (fun hc10 => ?_) (fun hc10 => ?_))))))))))))
 try simp only [aN] at hc10
 refine ac (js O Z (jr ?_))
 refine ⟨.inl Z, _, ak, _, Z, ?_⟩
 rw [decide_eq_false (fun e => hc10 e)]
 try simp only [aN] at hc10
 refine ah (ac (js O Z (jr ?_)))
 refine ⟨.inl Z, _, ak, _, Z, ?_⟩
 rw [decide_eq_true (show s = t from hc10)]
variable {k : Int}
theorem xd : MQ h1 h2 36 [.c (.d (fL [])), eI k] [] (Plain (eI k)) := by
 refine aA ?_ Z
 refine jB 19 h1 h2 Tryz.func36 Z Z Z fun O hF => ?_
 refine ac (js O Z (jn (af (ac (js O Z (jn (am (ap (X := Nat) (fun i => ⟨[(0, .c (.d (fL []))), (1, eI k), (5, eI 0)], []⟩) (fun i => True) (fun i => 0) 0 (Ent.env ⟨Z, Z, Z, trivial⟩) ?_ (fun i hi => ?_)))))))))
 trivial
 refine af (ac (j2 O Z Z ?_))
 first | refine bo O Z ?_ | refine js O Z ?_ | refine aU O Z Z ?_
 refine js O Z (jn (ab O Z Z (fun hc9 => ?_) (fun hc9 => ?_)))
 try simp only [aN] at hc9
 exact absurd hc9 (by simp)
 try simp only [aN] at hc9
 refine aQ (ac (j2 O Z Z (jr ?_)))
 refine ⟨.inl Z, _, ak, _, Z, ?_⟩
 first | rfl | skip
theorem vS (hk0 : 0 ≤ k) (hk1 : k + bC nL ts ≤ 1073741824) : MQ h1 h2 36 [.c (.rs 0 0 ts.length), eI k] [(0, gf ts)] (bb (eI (k + bC nL ts)) [(0, gf (bq mL nL k ts))]) := by
 refine jH 19 [0] h1 h2 Tryz.func36 Z Z Z Z fun O hF => ?_
 refine fG 0 Z (fun hB => ?_)
 have hl : ts.length ≤ L := by simpa [B.fact] using hB.1
 refine ac (js O Z (jn (af (ac (js O Z (jn (am (ap (X := Nat) (fun i => ⟨[(0, .c (.rs 0 0 ts.length)), (1, eI (k + bC nL (ts.take i))), (5, eI i)], [(0, gf (mk mL nL k i ts))]⟩) (fun i => i ≤ ts.length) (fun i => ts.length - i) 0 (Ent.to ⟨Z, by simp [bT, aB, bC], Z, trivial⟩ (by simp [i8])) ?_ (fun i hi => ?_)))))))))
 exact cm _
 refine af (ac (j2 O Z Z ?_))
 first | refine bo O Z ?_ | refine js O Z ?_ | refine aU O Z Z ?_
 refine js O Z (jf [9,0,1,5] Z (jn (ab O Z Z (fun hc9 => ?_) (fun hc9 => ?_))))
 try simp only [aN] at hc9
 refine ah (af (am (aj ?_)))
 obtain ⟨K, hK⟩ : ∃ K, K = k + (bC nL (ts.take i) : Int) := ⟨_, rfl⟩
 rw [← hK]
 have hcs := gy (sz := nL) (show i < ts.length by omega)
 have hcl := ll (sz := nL) (l := ts) (i := i + 1)
 have hg := jY (f := mL) (sz := nL) (k := k) (show i < ts.length by omega)
 have hs := gQ (f := mL) (sz := nL) (k := k) (show i < ts.length by omega)
 rw [← ar (show i < ts.length by omega)] at hcs hg hs
 obtain ⟨t, ht⟩ : ∃ t, t = ts.getD i default := ⟨_, rfl⟩
 rw [← ht] at hcs hg hs
 rw [← hK] at hs
 simp only [nL] at hcs
 have hb : K + (t.length : Nat) ≤ 1073741824 := by omega
 obtain ⟨R, hR⟩ : ∃ R, R = (mk mL nL k i ts).map mC := ⟨_, rfl⟩
 have hRl : i < R.length := by rw [hR, bt, fz]; omega
 have hRi : R[i]? = some (mC t) := by rw [hR, List.getElem?_map, hg]; rfl
 have hRn : R.set i (mC (mL K t)) = (mk mL nL k (i + 1) ts).map mC := by rw [hR, ← hs, List.map_set]
 have e0 : gf (mk mL nL k i ts) = .row true 1 (R.set i (mC t)) := by rw [fw hRi, hR]
 rw [e0]
 refine j2 O Z Z ?_
 first | refine f7 O Z Z ?_ | refine aU O Z Z ?_
 refine AOps.step (av O (ex := mC t) Z Z Z Z (by simp [hRl]) Z) Z Z Z (js O Z (jf [16,15,9,0,1,5] Z (iX O (l := 0) (j := 0) (z := 1) (ex := mC t) (ys := (t).map (fun n => [D.int .i64 n])) (ys' := (bq mI dm K t).map (fun n => [D.int .i64 n])) (xs' := R.set i (mC (mL K t))) Z Z Z Z (.rp (.d Z .nil)) (.rp (.d Z .nil)) Z (by simp [hRl]) Z (z3 (xs := t) (k := K) h1 h2 (by omega) (by omega)).1 (fun _ => by rw [bt]; exact z3 (xs := t) h1 h2 (by omega) (by omega)) (fun hys => ?_) Z (by simp [bv]) Z Z Z Z (by simp) ?_)))
 have hy : t = [] := by simpa using hys
 rw [hy]
 exact (yk h1 h2 (k := K)).plain (by simp [bC, hy])
 refine ao ?_
 refine js O Z (jf [1,9,0,5] Z (jn (aj (js O Z ?_))))
 first | refine ji O Z ?_ | refine aU O Z Z ?_
 refine js O Z (jf [5,1,9,0] Z (jn ?_))
 refine ⟨i + 1, Ent.to ⟨Z, ?_, Z, trivial⟩ (by rw [gf, ← hRn]), by omega, by omega⟩
 rw [hcs]
 exact congrArg (fun z => some (eI z)) (by omega)
 try simp only [aN] at hc9
 refine aQ (ac (j2 O Z Z (jr ?_)))
 refine ⟨.inl Z, _, ak, _, Z, ?_⟩
 obtain rfl : i = ts.length := by omega
 rw [li (bw _), List.take_length]
 exact ⟨Z, Z⟩
theorem vT {P : ce} (hk0 : 0 ≤ k) (hk1 : k + bC nL P ≤ 1073741824) : MQ h1 h2 35 [.agg [.rs 0 0 P.length], eI k] [(0, gf P)] (bb (eI (k + bC nL P)) [(0, gf (bq mL nL k P))]) := by
 refine aJ 500 Z (jH 10 [500] h1 h2 Tryz.func35 Z Z Z Z fun O hF => ?_)
 refine ac (jx O Z (js O Z (aP (j3 O Z Z Z (jf [7,6,4,0,1] Z (ay O [500] (bin := [gf P]) Z Z Z Z (vS (ts := P) (k := k) h1 h2 hk0 (by omega)) Z Z Z Z Z Z (B0 := 9000) Z Z (ao ?_)))))))
 refine js O Z (jf [1,4,0] Z (aP (j2 O Z Z (jr ?_))))
 refine ⟨.inl Z, _, aw [500] Z Z (e' := [(4, eI (k + bC nL P))]) ⟨Z, trivial⟩ Z, _, Z, Z, Z⟩
theorem qF (hk0 : 0 ≤ k) (hk1 : k + bC nL ts ≤ 1073741824) : MQ h1 h2 37 [kK (bq mL nL k ts), eI k] [] (Plain (eI (k + bC nL ts))) := by
 refine aA ?_ Z
 refine jB 21 h1 h2 Tryz.func37 Z Z Z fun O hF => ?_
 have hlm := bv (f := mL) (sz := nL) (k := k) (l := ts)
 have hl : (bq mL nL k ts).length ≤ L := by simpa [As.fact, A.fact, M.fact, D.fact, Ds.fact] using hF.1.1
 refine ac (js O Z (jn (af (ac (js O Z (jn (am (ap (X := Nat) (fun i => ⟨[(0, kK (bq mL nL k ts)), (1, eI (k + bC nL (ts.take i))), (5, eI i)], []⟩) (fun i => i ≤ ts.length) (fun i => ts.length - i) 0 (Ent.env ⟨Z, by simp [bT, aB, bC], Z, trivial⟩) ?_ (fun i hi => ?_)))))))))
 exact cm _
 refine af (ac (j2 O Z Z ?_))
 first | refine bo O Z ?_ | refine js O Z ?_ | refine aU O Z Z ?_
 refine js O Z (jf [9,0,1,5] Z (jn (ab O Z Z (fun hc9 => ?_) (fun hc9 => ?_))))
 refine ah (af (am (ac ?_)))
 have hil : i < ts.length := by have h9 := aR hc9; omega
 have hg := lR (f := mL) (sz := nL) (k := k) hil
 have hcs := gy (sz := nL) hil
 have hcl := ll (sz := nL) (l := ts) (i := i + 1)
 rw [← ar hil] at hcs
 obtain ⟨t, ht⟩ : ∃ t, t = ts.getD i default := ⟨_, rfl⟩
 rw [← ht] at hg hcs
 simp only [nL] at hcs
 obtain ⟨K, hK⟩ : ∃ K, K = k + (bC nL (ts.take i) : Int) := ⟨_, rfl⟩
 rw [← hK] at hg ⊢
 refine j2 O Z Z (AOps.step ((aL O Z Z Z Z Z Z Z Z (cB (by omega))).cast (v' := ptr (mC (mL K t))) (by rw [hg])) Z Z Z (j2 O Z Z (jf [16,15,9,0,1,5] Z (ae O Z Z Z Z ((c21 (xs := bq mI dm K t) (k := K) h1 h2 (by omega) (by omega)).plain (congrArg eI (pO t K))) (aa Z) Z Z Z Z Z (B0 := 18000) Z (js O Z (jf [1,9,0,5] Z (aP (j2 O Z Z (jn (ab O Z Z (fun hc19 => ?_) (fun hc19 => ?_)))))))))))
 exact absurd (aR hc19) (by omega)
 refine ah (aj (js O Z ?_))
 first | refine ji O Z ?_ | refine aU O Z Z ?_
 refine js O Z (jf [5,19,18,1,9,0] Z (jn ?_))
 refine ⟨i + 1, Ent.env ⟨Z, ?_, Z, trivial⟩, by omega, by omega⟩
 rw [hcs]
 exact congrArg (fun z => some (eI z)) (by omega)
 refine aQ (ac (j2 O Z Z (jr ?_)))
 refine ⟨.inl Z, _, ak, _, Z, ?_⟩
 have h9 := bn hc9
 obtain rfl : i = ts.length := by omega
 rw [List.take_length]
abbrev pP (P : ce) : A := ptr [fL P]
theorem wF {n : Nat} {r : List Int} (k : Nat) (hk : k < r.length) (h : da (-1) ((n : Int) - 1) (r.getD k default) = false) : jN n r = false := by
 unfold jN
 rw [Bool.and_eq_false_iff]
 right
 rw [← Bool.not_eq_true, List.all_eq_true]
 intro h1
 have := h1 (r.getD k default) (by rw [ar hk]; exact List.getElem_mem hk)
 rw [h] at this; cases this
theorem uD {n : Nat} {r : List Int} (hl : r.length = 4) (h : ∀ j, j < 4 → da (-1) ((n : Int) - 1) (r.getD j default) = true) : jN n r = true := by
 unfold jN
 rw [decide_eq_true hl, Bool.true_and, List.all_eq_true]
 intro x hx
 obtain ⟨j, hj, rfl⟩ := List.getElem_of_mem hx
 rw [← ar hj]; exact h j (by omega)
theorem pi {P : ce} (i : Nat) (hi : i < P.length) (h : jN P.length (P.getD i default) = false) : dD P = false := by
 unfold dD
 rw [Bool.and_eq_false_iff]
 right
 rw [← Bool.not_eq_true, List.all_eq_true]
 intro h1
 have := h1 (P.getD i default) (by rw [ar hi]; exact List.getElem_mem hi)
 rw [h] at this; cases this
theorem qW {P : ce} (h0 : da 1 12 (P.length : Int) = true) (h : ∀ j, j < P.length → jN P.length (P.getD j default) = true) : dD P = true := by
 unfold dD
 rw [h0, Bool.true_and, List.all_eq_true]
 intro x hx
 obtain ⟨j, hj, rfl⟩ := List.getElem_of_mem hx
 rw [← ar hj]; exact h j hj
theorem gn {P : ce} : MQ h1 h2 65 [pP P] [] (Plain (eB (dD P))) := by
 refine aA ?_ Z
 refine jB 46 h1 h2 Tryz.func65 Z Z Z fun O hF => ?_
 have hl : P.length ≤ L := by have h0 := hF; simp only [As.fact, A.fact, M.fact, D.fact, Ds.fact, bt] at h0; exact h0.1.1.1
 refine ac (js O Z (aP (j4 O Z Z Z Z ?_)))
 first | refine bo O Z ?_ | refine js O Z ?_ | refine aU O Z Z ?_
 refine js O Z (jf [3,2,0] Z (jn (af (ac (js O Z (ae O Z Z Z Z ((kX (x := (P.length : Int)) (lo := 1) (hi := 12) h1 h2).plain (u := eB (da (1) (12) ((P.length : Int)))) Z) (aa Z) Z Z Z Z Z (B0 := 13000) Z (js O Z (jf [13,3,2,0] Z (jn (ab O Z Z (fun hc13 => ?_) (fun hc13 => ?_)))))))))))
 refine ac (js O Z (jr ?_))
 refine ⟨.inl Z, _, ak, _, Z, ?_⟩
 rw [show dD P = false by unfold dD; rw [jQ hc13]; rfl]
 refine ah (af (ac (js O Z (jn (am ?_)))))
 have hin := gi hc13
 refine ap (X := Nat) (fun i => ⟨[(0, pP P), (3, eI P.length), (4, eI i)], []⟩) (fun i => i ≤ P.length ∧ ∀ j, j < i → jN P.length (P.getD j default) = true) (fun i => P.length - i) 0 (Ent.env ⟨Z, Z, Z, trivial⟩) ?_ (fun i hi => ?_)
 exact ⟨cm _, fun j hj => absurd hj (Nat.not_lt_zero j)⟩
 refine af (ac (j3 O Z Z Z (jf [16,0,3,4] Z (jn (ab O Z Z (fun hc16 => ?_) (fun hc16 => ?_))))))
 refine ah (af (am (af (ac (j4 O Z Z Z Z (js O Z ?_))))))
 first | refine kV O Z Z ?_ | refine f7 O Z Z ?_ | refine aU O Z Z ?_
 refine js O Z ?_
 first | refine bo O Z ?_ | refine js O Z ?_ | refine aU O Z Z ?_
 refine js O Z (jf [27,16,0,3,4] Z (jn (ab O Z Z (fun hc27 => ?_) (fun hc27 => ?_))))
 refine ac (js O Z (jr ?_))
 refine ⟨.inl Z, _, ak, _, Z, ?_⟩
 rw [pi i (by have := aR hc16; omega) (by unfold jN; rw [decide_eq_false (fun e => by rw [e] at hc27; exact absurd hc27 (by decide))]; rfl)]
 refine ah (ac (js O Z (jn (am ?_))))
 have hil : i < P.length := by have := aR hc16; omega
 have hr4 : (P.getD i default).length = 4 := by have h9 : (((P.getD i default).length : Nat) : Int) = 4 := (by simpa using hc27); omega
 refine ap (X := Nat) (fun k => ⟨[(0, pP P), (3, eI P.length), (4, eI i), (5, eI k)], []⟩) (fun k => k ≤ 4 ∧ ∀ q, q < k → da (-1) ((P.length : Int) - 1) ((P.getD i default).getD q default) = true) (fun k => 4 - k) 0 (Ent.env ⟨Z, Z, Z, Z, trivial⟩) ?_ (fun k hk => ?_)
 exact ⟨cm _, fun j hj => absurd hj (Nat.not_lt_zero j)⟩
 refine af (ac ?_)
 have hr4 : (P.getD i default).length = 4 := by have h9 : (((P.getD i default).length : Nat) : Int) = 4 := (by simpa using hc27); omega
 refine j2 O Z Z (jn (ab O Z Z (fun hc29 => ?_) (fun hc29 => ?_)))
 refine ah (af (am (ac (j4 O Z Z Z Z (js O Z ?_)))))
 first | refine kV O Z Z ?_ | refine f7 O Z Z ?_ | refine aU O Z Z ?_
 refine j2 O Z Z ?_
 first | refine kV O Z Z ?_ | refine f7 O Z Z ?_ | refine aU O Z Z ?_
 refine j2 O Z Z ?_
 first | refine ji O Z ?_ | refine aU O Z Z ?_
 refine jf [43,41,29,28,0,3,4,5] Z (ae O Z Z Z Z ((kX (x := (P.getD i default).getD k default) (lo := -1) (hi := (P.length : Int) - 1) h1 h2).plain (u := eB (da (-1) ((P.length : Int) - 1) ((P.getD i default).getD k default))) Z) (aa Z) Z Z Z Z Z (B0 := 45000) Z (js O Z (jf [45,29,28,0,3,4,5] Z (jn (ab O Z Z (fun hc45 => ?_) (fun hc45 => ?_))))))
 refine ac (js O Z (jr ?_))
 refine ⟨.inl Z, _, ak, _, Z, ?_⟩
 rw [pi i hil (wF k (by have := aR hc29; omega) (jQ hc45))]
 refine ah (aj (js O Z ?_))
 first | refine ji O Z ?_ | refine aU O Z Z ?_
 refine js O Z (jf [5,45,29,28,0,3,4] Z (jn ?_))
 have hk4 : k < 4 := by have := aR hc29; omega
 refine ⟨k + 1, Ent.env ⟨Z, Z, Z, Z, trivial⟩, ⟨by omega, fun j hj => ?_⟩, by omega⟩
 rcases Nat.lt_or_ge j k with h | h
 exact hk.2 j h
 obtain rfl : j = k := by omega
 exact gi hc45
 refine aQ (aj (js O Z ?_))
 first | refine ji O Z ?_ | refine aU O Z Z ?_
 refine js O Z (jf [4,29,28,0,3,5] Z (jn ?_))
 refine ⟨i + 1, Ent.env ⟨Z, Z, Z, trivial⟩, ⟨by omega, fun j hj => ?_⟩, by omega⟩
 rcases Nat.lt_or_ge j i with h | h
 exact hi.2 j h
 obtain rfl : j = i := by omega
 exact uD hr4 fun q hq => hk.2 q (by have := bn hc29; omega)
 refine aQ (ac (js O Z (jr ?_)))
 refine ⟨.inl Z, _, ak, _, Z, ?_⟩
 rw [qW (gi hc13) fun j hj => hi.2 j (by have := bn hc16; omega)]
variable {es : List Int}
theorem vK {P : ce} {q : Nat} (hP : POk P) (hq : q < P.length) (he : vk es) (hl : es.length ≤ L) : MQ h1 h2 100 [pP P, eI q, bM es] [] (Plain (.tup [eI (bP P q es).1, eI (bP P q es).2])) := by
 refine jB 37 h1 h2 Tryz.func100 Z Z Z fun O hF => ?_
 refine ac (j2 O Z Z (jn (af (ac (js O Z (jn (am (ap (X := Nat × Nat) (fun x => ⟨[(0, pP P), (1, eI x.2), (2, bM es), (8, eI x.1)], []⟩) (fun x => x.1 ≤ es.length ∧ x.2 < P.length ∧ bP P q es = (x.1 + (bP P x.2 (es.drop x.1)).1, (bP P x.2 (es.drop x.1)).2)) (fun x => es.length - x.1) (0, q) (Ent.env ⟨Z, Z, Z, Z, trivial⟩) ?_ (fun x hi => ?_)))))))))
 exact ⟨cm _, hq, by simp⟩
 refine af (ac (j2 O Z Z ?_))
 first | refine bo O Z ?_ | refine js O Z ?_ | refine aU O Z Z ?_
 refine js O Z (jf [13,0,1,2,8] Z (jn (ab O Z Z (fun hc13 => ?_) (fun hc13 => ?_))))
 refine ah (af (am (af ?_)))
 have hxl : x.1 < es.length := by have := aR hc13; omega
 have hev := he (es.getD x.1 default) (by rw [ar hxl]; exact List.getElem_mem hxl)
 have hr4 := (hP.row (P.getD x.2 default) (by rw [ar hi.2.1]; exact List.getElem_mem hi.2.1)).1
 have hnx := hP.nx hi.2.1 hev
 refine fI O [_,_,_,_,_,_,_,_,_,_,_,_,_,_] [pn [] 0 0, pn [0] 0 0, pn [0,1] 0 0, pn [0,1,2] 0 0, pn [] 0 0, pn (rg 0 5) 0 0, pn (rg 0 6) 0 0, pn [] 0 0, pn [] 0 0, pn [7,8] 0 0, pn [7,8,9] 0 0, pn (rg 0 11) 0 0, pn (rg 0 12) 0 0, pn (rg 0 13) 0 0] [] [_] (kc O Z (kc O Z (kc O Z (kc O Z (kc O Z (ai (vN O Z) (kc O Z (kc O Z (kc O Z (ai (vN O Z) (kc O Z (ai (bA O Z Z Z Z Z Z Z Z (by omega) (ja (by omega) (by omega))) (kc O Z (kc O Z trivial)))))))))))))) ?_
 refine jw [9,13,0,1,2,8] Z (ch ?_)
 refine af (ac (j2 O Z Z (jn (ab O Z Z (fun hc30 => ?_) (fun hc30 => ?_)))))
 refine ac (j4 O Z Z Z Z (jf [7,6,30,29,9,13,0,1,2,8] Z (jr ?_)))
 refine ⟨.inl Z, _, ak, _, Z, ?_⟩
 refine ⟨?_, Z⟩
 have hns := aR hc30
 have e := hi.2.2
 rw [og hxl hns] at e
 exact (congrArg (fun z : Nat × Nat => A.tup [eI z.1, eI z.2]) e).symm
 refine ah (aj (j2 O Z Z (jn (aj (js O Z ?_)))))
 first | refine ji O Z ?_ | refine aU O Z Z ?_
 refine js O Z (jf [8,1,33,30,29,9,13,0,2] Z (jn ?_))
 have hns := bn hc30
 have hnx0 : ¬ kU P x.2 (es.getD x.1 default) < 0 := hns
 refine ⟨(x.1 + 1, (kU P x.2 (es.getD x.1 default)).toNat), Ent.env ⟨Z, congrArg (fun z => some (eI z)) (show _ = ((kU P x.2 (es.getD x.1 default)).toNat : Int) by rw [Int.toNat_of_nonneg (by omega)]; rfl), Z, Z, trivial⟩, ⟨by omega, by show (kU P x.2 (es.getD x.1 default)).toNat < P.length; omega, ?_⟩, by show es.length - (x.1 + 1) < es.length - x.1; omega⟩
 rw [hi.2.2, od hxl hnx0]
 show (_, _) = (_, _)
 rw [show x.1 + ((bP P (kU P x.2 (es.getD x.1 default)).toNat (es.drop (x.1 + 1))).1 + 1) = x.1 + 1 + (bP P (kU P x.2 (es.getD x.1 default)).toNat (es.drop (x.1 + 1))).1 by omega]
 refine aQ (ac (js O Z ?_))
 first | refine bo O Z ?_ | refine js O Z ?_ | refine aU O Z Z ?_
 refine j3 O Z Z Z (jf [7,6,13,0,1,2,8] Z (jr ?_))
 refine ⟨.inl Z, _, ak, _, Z, ?_⟩
 refine ⟨?_, Z⟩
 have hxe : x.1 = es.length := by have := bn hc13; omega
 have e := hi.2.2
 rw [oe (by omega)] at e
 rw [hxe] at e
 exact (congrArg (fun z : Nat × Nat => A.tup [eI z.1, eI z.2]) e).symm
theorem zx {xs : List Int} {z : Int} : MQ h1 h2 101 [bM xs, eI z] [] (Plain (eB (decide (z ∈ xs)))) := by
 refine aA ?_ Z
 refine jB 18 h1 h2 Tryz.func101 Z Z Z fun O hF => ?_
 have hl : xs.length ≤ L := by simpa [As.fact, A.fact, M.fact, D.fact, Ds.fact] using hF.1.1
 refine ac (js O Z (jn (af (ac (js O Z (jn (am (ap (X := Nat) (fun i => ⟨[(0, bM xs), (1, eI z), (5, eI i)], []⟩) (fun i => i ≤ xs.length ∧ ∀ j, j < i → xs.getD j default ≠ z) (fun i => xs.length - i) 0 (Ent.env ⟨Z, Z, Z, trivial⟩) ?_ (fun i hi => ?_)))))))))
 exact ⟨cm _, fun j hj => absurd hj (Nat.not_lt_zero j)⟩
 refine af (ac (j2 O Z Z ?_))
 first | refine bo O Z ?_ | refine js O Z ?_ | refine aU O Z Z ?_
 refine js O Z (jf [9,0,1,5] Z (jn (ab O Z Z (fun hc9 => ?_) (fun hc9 => ?_))))
 refine ah (af (am (ac (j2 O Z Z ?_))))
 first | refine kV O Z Z ?_ | refine f7 O Z Z ?_ | refine aU O Z Z ?_
 refine j3 O Z Z Z (jf [17,9,0,1,5] Z (jn (ab O Z Z (fun hc17 => ?_) (fun hc17 => ?_))))
 refine ac (js O Z (jr ?_))
 refine ⟨.inl Z, _, ak, _, Z, ?_⟩
 have hil : i < xs.length := by have := aR hc9; omega
 have h9 : xs.getD i default = z := aR hc17
 rw [decide_eq_true (show z ∈ xs by rw [← h9, ar hil]; exact List.getElem_mem hil)]
 refine ah (aj (js O Z ?_))
 first | refine ji O Z ?_ | refine aU O Z Z ?_
 refine js O Z (jf [5,17,9,0,1] Z (jn ?_))
 have hil : i < xs.length := by have := aR hc9; omega
 refine ⟨i + 1, Ent.env ⟨Z, Z, Z, trivial⟩, ⟨by omega, fun j hj => ?_⟩, by omega⟩
 rcases Nat.lt_or_ge j i with h | h
 exact hi.2 j h
 obtain rfl : j = i := by omega
 exact bn hc17
 refine aQ (ac (js O Z (jr ?_)))
 refine ⟨.inl Z, _, ak, _, Z, ?_⟩
 rw [decide_eq_false (fun h => ?_)]
 obtain ⟨j, hj, e⟩ := List.getElem_of_mem h
 exact hi.2 j (by have := bn hc9; omega) (by rw [ar hj, e])
theorem xH {L : Nat} (h1 : 4096 ≤ L) (h2 : L ≤ 1073741824) {xs : List Int} {k : Int} (hl : xs.length ≤ 1000) : MC Tryz.prog L 102 [bM xs, eI k] [] (Plain (bM (mf k xs))) := (xG h1 h2 hl).frozen (.v (.c (.whole rfl (bt _).symm)))
theorem lz {n : Nat} : ∀ {m : Nat}, cV (List.replicate n false) m = []
 | 0 => rfl
 | m + 1 => by
  rw [cV, if_neg, lz]
  rw [lw]
  decide
def iY (U : Mx) : List (List Int) := U.map fun u => cV u u.length
def vd (i : Nat) : List (List Int) := [0] :: List.replicate i []
abbrev si (U : Mx) : B := .row false 1 ((iY U).map mC)
theorem wz {n m : Nat} (h : 1 ≤ n) : iY (r8 n m) = vd m := by
 have h1 := qS (bs := List.replicate n false) (k := 0) (by rw [List.length_replicate]; omega) (n := n) (by omega)
 rw [lz] at h1
 unfold iY r8 vd
 rw [List.map_cons, List.map_replicate, List.length_set, List.length_replicate, ← h1, lz]
 rfl
theorem qr {U : Mx} {n f : Nat} (h : f < U.length) (hn : (U.getD f default).length = n) : ((iY U).map mC)[0 + ((f : Nat) : Int).toNat]? = some (mC (cV (U.getD f default) n)) := by
 subst hn
 rw [Nat.zero_add, Int.toNat_natCast, List.getElem?_map, iY, List.getElem?_map, List.getElem?_eq_getElem h, ar h]; rfl
theorem wy {U : Mx} {n t s : Nat} (h : t < U.length) (hn : (U.getD t default).length = n) (hs : s < n) : ((iY U).map mC).set (0 + ((t : Nat) : Int).toNat) (mC (mf s (cV (U.getD t default) n))) = (iY (sM U t s)).map mC := by
 subst hn
 rw [Nat.zero_add, Int.toNat_natCast, qS hs hs]
 unfold iY sM
 rw [List.map_set, List.map_set, List.length_set]
theorem zd {u : List Bool} {n s : Nat} (hs : s < n) : decide ((s : Int) ∈ cV u n) = u.getD s default := by
 cases h : u.getD s default with
 | true => exact decide_eq_true (uR.2 ⟨hs, h⟩)
 | false => exact decide_eq_false fun h1 => by rw [(uR.1 h1).2] at h; cases h
theorem ta {u : List Bool} {q : Nat} (h : u.getD q default = true) : q < u.length := by
 rcases Nat.lt_or_ge q u.length with h1 | h1
 exact h1
 rw [List.getD_eq_getElem?_getD, List.getElem?_eq_none h1] at h; cases h
theorem ra {P : ce} {p : Pth} {q : Nat} : decide (((bP P q p.ev).1 : Int) = (p.ev.length : Int)) = xO p P q := by
 unfold xO
 exact decide_eq_decide.2 ⟨fun h => by omega, fun h => by omega⟩
variable {ps : List Pth} {m : Nat}
theorem vO {P : ce} (hP : POk P) (hm : m ≤ 8) (hb : ∀ p ∈ ps, PthB m p) : MQ h1 h2 70 [pP P, eI m, .c (.d (dc ps))] [] (Plain (kK (iY (dd P ps m)))) := by
 refine MC.data (jB 109 h1 h2 Tryz.func70 Z Z Z fun O hF => ?_)
 have hl : ps.length ≤ L := by have h0 := hF; simp only [As.fact, A.fact, M.fact, D.fact, Ds.fact, bt] at h0; omega
 refine ac (js O Z (aP (AOps.heap (cH O Z Z Z Z Z Z Z Z Z Z Z) Z (ao ?_))))
 refine AOps.to (aw [16] (e' := [(16, _), (0, _), (1, _), (2, _)]) Z Z ⟨Z, Z, Z, Z, trivial⟩ Z) (AOps.to (Ent.freeze 16 (e' := [(16, _), (0, _), (1, _), (2, _)]) Z (.cons Z (.c (.row Z Z)) (fe [0,1,2] Z)) (.skip .nil)) ?_)
 refine ao ?_
 refine ao ?_
 refine AOps.heap (cH O Z Z Z Z Z Z Z Z Z Z Z) Z (ao ?_)
 refine ao ?_
 refine js O Z (jf [7,0,1,2] Z (jn (af (ac (js O Z (jn (am (ap (X := Nat) (fun i => ⟨[(0, pP P), (1, eI m), (2, .c (.d (dc ps))), (7, .c (.rs 900 0 (i + 1))), (8, eI i)], [(900, .row false 1 ((vd i).map mC))]⟩) (fun i => i ≤ m) (fun i => m - i) 0 ((ag 17 900 Z Z).trans (Ent.to ⟨Z, Z, Z, Z, Z, trivial⟩ Z)) ?_ (fun i hi => ?_)))))))))
 exact cm _
 refine af (ac (j3 O Z Z Z (jf [20,0,1,2,7,8] Z (jn (ab O Z Z (fun hc20 => ?_) (fun hc20 => ?_))))))
 refine ah (af (am (aj (js O Z (AOps.heap (cH O Z Z Z Z Z Z Z Z Z Z Z) Z (ao ?_))))))
 refine AOps.to (aw [900,24] (e' := [(24, _), (23, _), (0, _), (1, _), (2, _), (8, _)]) Z Z ⟨Z, Z, Z, Z, Z, Z, trivial⟩ Z) (AOps.to (Ent.freeze 24 (e' := [(24, _), (23, _), (0, _), (1, _), (2, _), (8, _)]) Z (.cons Z (.c (.row Z Z)) (fe [23,0,1,2,8] Z)) (.cons Z .row (.skip .nil))) ?_)
 refine ao ?_
 refine ao ?_
 refine AOps.heap (cH O Z Z Z Z Z Z Z Z Z Z Z) Z (ao ?_)
 refine ao ?_
 refine jf [25,23,0,1,2,8] Z ?_
 have hs0 : ((vd i).map mC).length = i + 1 := by simp [vd]
 have him : i < m := by have := aR hc20; omega
 refine AOps.heap (bH (own := false) (zs := (vd (i + 1)).map mC) (n := i + 1 + 1) O Z Z Z Z Z Z Z Z Z Z Z Z Z Z Z Z (.row Z hs0.symm) (.whole Z Z (.inr ⟨Z, Z⟩)) (by simp) Z (by rw [hs0]; show i + 1 + 1 ≤ L; omega) (by rw [hs0]; show (i + 1 + 1) * 24 ≤ _; omega) (by simp [vd, List.replicate_succ']) (by simp [vd])) Z (ao ?_)
 refine ao ?_
 refine js O Z (jf [7,0,1,2,8] Z (jn (aj (js O Z ?_))))
 first | refine ji O Z ?_ | refine aU O Z Z ?_
 refine js O Z (jf [8,7,0,1,2] Z (jn ?_))
 refine ⟨i + 1, ((aw [26] (e' := [(0, _), (1, _), (2, _), (7, _), (8, _)]) Z Z ⟨Z, Z, Z, Z, Z, trivial⟩ Z).trans (ag 26 900 Z Z)).trans (Ent.to ⟨Z, Z, Z, Z, Z, trivial⟩ Z), by omega, by omega⟩
 refine aQ (af (ac (js O Z (jn (am ?_)))))
 have him : m = i := by have := bn hc20; omega
 subst him
 refine ap (X := Mx × Bool) (fun y => ⟨[(0, pP P), (1, eI m), (2, .c (.d (dc ps))), (7, .c (.rs 900 0 (m + 1))), (9, eB y.2)], [(900, si y.1)]⟩) (fun y => UI P ps m y.1 ∧ (y.2 = false → y.1 = dd P ps m)) (fun y => 2 * cM y.1 + (bif y.2 then 1 else 0)) (r8 P.length m, true) (Ent.to ⟨Z, Z, Z, Z, Z, trivial⟩ (by show _ = [(900, si _)]; rw [si, wz hP.lo])) ?_ (fun y hy => ?_)
 exact ⟨s4 hP, fun h => by cases h⟩
 refine af (ac (js O Z (jn (ab O Z Z (fun hc27 => ?_) (fun hc27 => ?_)))))
 refine ah (am (ac (js O Z (aP (js O Z (jn (am (ap (X := Nat × Mx × Bool) (fun x => ⟨[(0, pP P), (1, eI m), (2, .c (.d (dc ps))), (7, .c (.rs 900 0 (m + 1))), (9, eB x.2.2), (10, eI x.1)], [(900, si x.2.1)]⟩) (fun x => x.1 ≤ ps.length ∧ Ps1 P ps m y.1 x.2.1 x.2.2 x.1) (fun x => ps.length - x.1) (0, y.1, false) (Ent.to ⟨Z, Z, Z, Z, Z, Z, trivial⟩ Z) ?_ (fun x hx => ?_)))))))))
 exact ⟨cm _, Ps1.zero hy.1⟩
 refine af (ac (j2 O Z Z ?_))
 first | refine bo O Z ?_ | refine js O Z ?_ | refine aU O Z Z ?_
 refine js O Z (jf [31,0,1,2,7,9,10] Z (jn (ab O Z Z (fun hc31 => ?_) (fun hc31 => ?_))))
 refine ah (af (am (ac (j2 O Z Z ?_))))
 have hxl : x.1 < ps.length := by have := aR hc31; omega
 have hpm : ps.getD x.1 default ∈ ps := by rw [ar hxl]; exact List.getElem_mem hxl
 have hpb := hb _ hpm
 obtain ⟨p, hp⟩ : ∃ p, p = ps.getD x.1 default := ⟨_, rfl⟩
 rw [← hp] at hpb
 have hpf := hpb.frm
 have hpt := hpb.to
 have hul := hx.2.ui.len
 obtain ⟨f, hf⟩ : ∃ f : Nat, f = (p.frm + 1).toNat := ⟨_, rfl⟩
 have hfl : f < x.2.1.length := by omega
 obtain ⟨u, hu⟩ : ∃ u, u = x.2.1.getD f default := ⟨_, rfl⟩
 have hur : u.length = P.length := by rw [hu]; exact hx.2.ui.rl (by omega)
 obtain ⟨fr, hfr⟩ : ∃ fr, fr = cV u P.length := ⟨_, rfl⟩
 refine AOps.step ((aL O Z Z Z Z Z Z Z Z (cB hxl)).cast (v' := ptr (Pth.cells p)) (by rw [hp])) Z Z Z (js O Z (jf [11,31,0,1,2,7,9,10] Z (aP (j4 O Z Z Z Z (js O Z (AOps.step ((az O Z Z (by omega) (by omega)).cast (v' := eI ((f : Nat) : Int)) (congrArg eI (by omega))) Z Z Z (AOps.step (aO O Z Z (by omega)) Z Z Z (AOps.step (av O (ex := mC fr) Z Z Z Z (by rw [hfr, hu]; exact qr hfl (by rw [← hu]; exact hur)) Z) Z Z Z (js O Z (jf [12,11,31,0,1,2,7,9,10] Z (aP (js O Z (jn (am (ap (X := Nat × Mx × Bool) (fun z => ⟨[(0, pP P), (1, eI m), (2, .c (.d (dc ps))), (7, .c (.rs 900 0 (m + 1))), (9, eB z.2.2), (10, eI x.1), (11, ptr (Pth.cells p)), (12, bM fr), (13, eI z.1)], [(900, si z.2.1)]⟩) (fun z => z.1 ≤ fr.length ∧ Ps2 P ps m y.1 z.2.1 z.2.2 x.1 (fun q => (q : Int) ∈ fr.take z.1) ∧ (z.2.2 = false → z.2.1 = x.2.1)) (fun z => fr.length - z.1) (0, x.2.1, x.2.2) (Ent.to ⟨Z, Z, Z, Z, Z, Z, Z, Z, Z, trivial⟩ Z) ?_ (fun z hz => ?_))))))))))))))))
 exact ⟨cm _, hx.2.into (fun q h => by simp at h), fun _ => rfl⟩
 refine af (ac (j2 O Z Z ?_))
 first | refine bo O Z ?_ | refine js O Z ?_ | refine aU O Z Z ?_
 refine j2 O Z Z (jf [49,0,1,2,7,9,10,11,12,13] Z (aS 5 Z Z Z (fun hx => AN.step hx Z Z Z (V O Z) Z Z ( AN.step hx Z Z Z (V O Z) Z Z ( AN.step hx Z Z Z (V O Z) Z Z ( AN.step hx Z Z Z (V O Z) Z Z ( AN.step hx Z Z Z (V O Z) Z Z ( AN.nil)))))) Z Z ?_))
 first | refine AOps.step (aM O Z Z Z Z Z) Z Z Z ?_ | refine AOps.step (aK O Z Z Z Z Z) Z Z Z ?_ | refine AOps.step (Val.pickB O Z Z Z Z Z) Z Z Z ?_
 refine jf [55,0,1,2,7,9,10,11,12,13] Z (jn (ab O Z Z (fun hc55 => ?_) (fun hc55 => ?_)))
 refine ah (af (am (af ?_)))
 obtain ⟨hc51, hc52⟩ := sP hc55
 have hzl : z.1 < fr.length := by have := aR hc51; omega
 have ht0 : 0 ≤ p.to := aR hc52
 obtain ⟨q, hq, hqn, hqu⟩ := s8 (bs := u) (n := P.length) (k := z.1) (by rw [← hfr]; exact hzl)
 rw [← hfr] at hq
 have hfl2 : fr.length ≤ 12 := by rw [hfr]; have := dO (bs := u) (i := P.length); have := hP.hi; omega
 have hrl := i7 hP hqn hpb.ev
 have hev := hpb.len
 refine fI O [_,_,_,_,_,_,_,_,_,_,_,_,_,_,_] [pn [] 0 0, pn [] 0 0, pn [] 0 0, pn [1,2] 0 0, pn [1,2,3] 0 0, pn [] 0 0, pn [5] 0 0, pn [5,6] 0 0, pn [5,6,7] 0 0, pe (rg 0 9) 0, pn (rg 0 10) 1 1, pn (rg 0 11) 1 1, pn (rg 0 11) 1 1, pn (rg 0 12) 1 1, pn (rg 0 14) 1 1] [9] [_,_] (kc O Z (kc O Z (kc O Z (ai (vN O Z) (ai ((V O Z).cast (v' := eI ((q : Nat) : Int)) (congrArg eI hq)) (kc O Z (kc O Z (kc O Z (kc O Z (ai (aC O (B0 := 69000) Z Z Z Z (vK (P := P) (q := q) (es := p.ev) h1 h2 hP hqn hpb.ev (by omega)) (aa Z) Z Z Z Z Z) (kc O Z (kc O Z (kc O Z (kc O Z (kc O Z trivial))))))))))))))) ?_
 refine jw [15,14,55,0,1,2,7,9,10,11,12,13] Z (ch ?_)
 refine ac (j4 O Z Z Z Z (js O Z ?_))
 first | refine bo O Z ?_ | refine js O Z ?_ | refine aU O Z Z ?_
 refine AOps.step ((V O Z).cast (v' := eB (xO p P q)) (congrArg eB ra)) Z Z Z (js O Z ?_)
 cases hb79 : xO p P q with
 | true =>
  have hse : (bP P q p.ev).1 = p.ev.length := aR hb79
  obtain ⟨t, ht⟩ : ∃ t : Nat, t = (p.to + 1).toNat := ⟨_, rfl⟩
  have hzu := hz.2.1.ps1.ui.len
  have htl : t < z.2.1.length := by omega
  have htr : (z.2.1.getD t default).length = P.length := hz.2.1.ps1.ui.rl (by omega)
  refine jf [78,15,55,0,1,2,7,9,10,11,12,13] Z (bz Z (js O Z (bz Z (js O Z (bz Z (js O Z (jf [81,79,78,15,55,0,1,2,7,9,10,11,12,13] Z (bz Z (js O Z (jf [82,79,78,15,55,0,1,2,7,9,10,11,12,13] Z (bz Z (js O Z (jf [83,79,78,15,55,0,1,2,7,9,10,11,12,13] Z (bz Z (AOps.step ((az O Z Z (by omega) (by omega)).cast (v' := eI ((t : Nat) : Int)) (congrArg eI (by omega))) Z Z Z (jf [84,79,78,15,55,0,1,2,7,9,10,11,12,13] Z (bz Z (AOps.step (aO O Z Z (by omega)) Z Z Z (jf [85,78,15,55,0,1,2,7,9,10,11,12,13] Z (bz Z (AOps.step (av O (ex := mC (cV (z.2.1.getD t default) P.length)) Z Z Z Z (qr htl htr) Z) Z Z Z (jf [86,78,15,55,0,1,2,7,9,10,11,12,13] Z (bz Z (js O Z (bz Z (ae O Z Z Z Z ((zx (xs := (cV (z.2.1.getD t default) P.length)) (z := ((bP P q p.ev).2 : Nat)) h1 h2).plain (u := eB (gM z.2.1 t (bP P q p.ev).2)) (congrArg eB (zd hrl.1))) (aa Z) Z Z Z Z Z (B0 := 89000) Z (jf [88,78,15,55,0,1,2,7,9,10,11,12,13] Z (bz Z (js O Z ?_)))))))))))))))))))))))))))))
  refine AOps.step (ba O Z Z Z Z Z) Z Z Z (jf [90,15,55,0,1,2,7,9,10,11,12,13] Z (jn (ab O Z Z (fun hc90 => ?_) (fun hc90 => ?_))))
  refine af ?_
  have hgf := jQ hc90
  refine fI O [_,_,_,_,_,_,_,_,_,_,_,_,_,_,_,_,_,_] [pn [] 0 1, pn [] 0 1, pn [1] 0 1, pn [1,2] 0 1, pn [1,2,3] 0 1, pn (rg 1 4) 0 1, pn [] 0 0, pn [] 0 0, pn [7] 0 0, pn [7,8] 0 0, pn [7,8,9] 0 0, pn (rg 7 4) 0 0, pn (rg 6 6) 0 0, pn (rg 6 7) 0 0, pn [] 0 0, pe (rg 6 9) 0, pn (rg 0 16) 1 1, pe (rg 0 17) 1] [15,17] [_,_,_] (ai (kc O Z (V O Z)) (ai (kc O Z (V O Z)) (ai (kc O Z (V O Z)) (ai (kc O Z (V O Z)) (ai (kc O Z (V O Z)) (ai (ai ((az O Z Z (by omega) (by omega)).cast (v' := eI ((t : Nat) : Int)) (congrArg eI (by omega))) ((az O Z Z (by omega) (by omega)).cast (v' := eI ((t : Nat) : Int)) (congrArg eI (by omega)))) (kc O Z (kc O Z (kc O Z (kc O Z (kc O Z (ai ((az O Z Z (by omega) (by omega)).cast (v' := eI ((t : Nat) : Int)) (congrArg eI (by omega))) (ai (aO O Z Z (by omega)) (ai (av O (ex := mC (cV (z.2.1.getD t default) P.length)) Z Z Z Z (qr htl htr) Z) (kc O Z (ai (aC O (B0 := 107000) Z Z Z Z (xH (xs := (cV (z.2.1.getD t default) P.length)) (k := ((bP P q p.ev).2 : Nat)) h1 h2 (by have := dO (bs := z.2.1.getD t default) (i := P.length); have := hP.hi; omega)) (aa Z) Z Z Z Z Z) (ai (aO O Z Z (by omega)) (ai (cI (ex := mC (cV (z.2.1.getD t default) P.length)) (xs' := (iY (sM z.2.1 t (bP P q p.ev).2)).map mC) O Z Z Z Z Z Z Z Z Z Z Z Z Z Z Z (qr htl htr) (wy htl htr hrl.1) Z) trivial)))))))))))))))))) ?_
  refine jw [90,15,55,0,1,2,7,9,10,11,12,13] Z (ch ?_)
  refine aj (js O Z (jn (aj (js O Z ?_))))
  first | refine ji O Z ?_ | refine aU O Z Z ?_
  refine js O Z (jf [13,9,90,15,55,0,1,2,7,10,11,12] Z (jn ?_))
  have h9 := hz.2.1.grow (K' := fun q => (q : Int) ∈ fr.take (z.1 + 1)) (q := q) hP hxl (by rw [← hp]; exact hpb) hqn (by rw [← hp]; exact ht0) (by rw [← hp, ← hf]; exact hx.2.ui.sub f q (by show (x.2.1.getD f default).getD q default = true; rw [← hu]; exact hqu)) (by rw [← hp]; exact hse) (by rw [← hp, ← ht]; exact hgf)
  rw [← hp, ← ht] at h9
  refine ⟨(z.1 + 1, sM z.2.1 t (bP P q p.ev).2, true), Ent.to ⟨rfl, rfl, rfl, rfl, rfl, rfl, rfl, rfl, rfl, trivial⟩ rfl, ⟨by show z.1 + 1 ≤ fr.length; omega, h9, fun h => by cases h⟩, by show fr.length - (z.1 + 1) < fr.length - z.1; omega⟩
  refine ah (aj (js O Z ?_))
  first | refine ji O Z ?_ | refine aU O Z Z ?_
  refine js O Z (jf [13,90,15,55,0,1,2,7,9,10,11,12] Z (jn ?_))
  have hK : ∀ j : Nat, (j : Int) ∈ fr.take (z.1 + 1) → (j : Int) ∈ fr.take z.1 ∨ j = q := fun j hj => by
   rcases hZ hzl hj with h | h
   ·
    exact .inl h
   ·
    rw [hq] at h; exact .inr (by omega)
  refine ⟨(z.1 + 1, z.2.1, z.2.2), Ent.to ⟨Z, Z, Z, Z, Z, Z, Z, Z, Z, trivial⟩ Z, ⟨by show z.1 + 1 ≤ fr.length; omega, hz.2.1.pass (q := q) hK (fun hg _ hl => ?_), hz.2.2⟩, by show fr.length - (z.1 + 1) < fr.length - z.1; omega⟩
  rw [← hp, ← ht]
  exact gi hc90
 | false =>
  refine jf [78,15,55,0,1,2,7,9,10,11,12,13] Z (AOps.skip Z Z Z Z Z Z (AOps.skip Z Z Z Z Z Z (AOps.skip Z Z Z Z Z Z (jf [81,79,78,15,55,0,1,2,7,9,10,11,12,13] Z (AOps.skip Z Z Z Z Z Z (jf [82,79,78,15,55,0,1,2,7,9,10,11,12,13] Z (AOps.skip Z Z Z Z Z Z (jf [83,79,78,15,55,0,1,2,7,9,10,11,12,13] Z (AOps.skip Z Z Z Z Z Z (jf [84,79,78,15,55,0,1,2,7,9,10,11,12,13] Z (AOps.skip Z Z Z Z Z Z (jf [85,78,15,55,0,1,2,7,9,10,11,12,13] Z (AOps.skip Z Z Z Z Z Z (jf [86,78,15,55,0,1,2,7,9,10,11,12,13] Z (AOps.skip Z Z Z Z Z Z (AOps.skip Z Z Z Z Z Z (jf [88,78,15,55,0,1,2,7,9,10,11,12,13] Z (AOps.skip Z Z Z Z Z Z (AOps.step (aF O Z Z Z Z Z) Z Z Z (jf [90,15,55,0,1,2,7,9,10,11,12,13] Z (jn (ab O Z Z (fun hc90 => ?_) (fun hc90 => ?_)))))))))))))))))))))))
  exact absurd hc90 (by decide)
  refine ah (aj (js O Z ?_))
  first | refine ji O Z ?_ | refine aU O Z Z ?_
  refine js O Z (jf [13,90,15,55,0,1,2,7,9,10,11,12] Z (jn ?_))
  have hK : ∀ j : Nat, (j : Int) ∈ fr.take (z.1 + 1) → (j : Int) ∈ fr.take z.1 ∨ j = q := fun j hj => by
   rcases hZ hzl hj with h | h
   ·
    exact .inl h
   ·
    rw [hq] at h; exact .inr (by omega)
  refine ⟨(z.1 + 1, z.2.1, z.2.2), Ent.to ⟨Z, Z, Z, Z, Z, Z, Z, Z, Z, trivial⟩ Z, ⟨by show z.1 + 1 ≤ fr.length; omega, hz.2.1.pass (q := q) hK (fun hg _ hl => ?_), hz.2.2⟩, by show fr.length - (z.1 + 1) < fr.length - z.1; omega⟩
  rw [← hp] at hl
  exact absurd hl (bn hb79)
 refine aQ (aj (js O Z ?_))
 first | refine ji O Z ?_ | refine aU O Z Z ?_
 refine js O Z (jf [10,55,0,1,2,7,9,11,12,13] Z (jn ?_))
 have hps : Ps1 P ps m y.1 z.2.1 z.2.2 (x.1 + 1) := by
  by_cases ht0 : 0 ≤ p.to
  refine hz.2.1.out hxl fun hg q hq => ?_
  rw [← hp, ← hf, hz.2.2 hg] at hq
  have hq2 : u.getD q default = true := by rw [hu]; exact hq
  have hzf : ¬ z.1 < fr.length := by
   rcases wb hc55 with h9 | h9
   have := bn h9; omega
   exact absurd ht0 (bn h9)
  show (q : Int) ∈ fr.take z.1
  rw [List.take_of_length_le (by omega), hfr]
  exact uR.2 ⟨by rw [← hur]; exact ta hq2, hq2⟩
  exact hz.2.1.ps1.skip hxl (by rw [← hp]; exact ht0)
 refine ⟨(x.1 + 1, z.2.1, z.2.2), Ent.to ⟨Z, Z, Z, Z, Z, Z, trivial⟩ Z, ⟨by show x.1 + 1 ≤ ps.length; omega, hps⟩, by show ps.length - (x.1 + 1) < ps.length - x.1; omega⟩
 refine aQ ?_
 refine ⟨(x.2.1, x.2.2), Ent.to ⟨Z, Z, Z, Z, Z, trivial⟩ Z, ⟨hx.2.ui, fun hg => ?_⟩, ?_⟩
 have h9 := hx.2; rw [show x.2.2 = false from hg] at h9; exact h9.done (by have := bn hc31; omega)
 show 2 * cM x.2.1 + (bif x.2.2 then 1 else 0) < 2 * cM y.1 + (bif y.2 then 1 else 0)
 have hle := hx.2.le
 have hlt := hx.2.lt
 rw [show y.2 = true from hc27]
 cases hg : x.2.2 with
 | true => have := hlt hg; show 2 * cM x.2.1 + 1 < 2 * cM y.1 + 1; omega
 | false => show 2 * cM x.2.1 + 0 < 2 * cM y.1 + 1; omega
 refine aQ (ac ?_)
 rw [hy.2 hc27]
 refine AOps.to (Ent.freeze 900 (e' := [(7, _)]) Z (.cons Z (.c (.row Z (by rw [bt, iY, bt, fU]))) .nil) (.skip .nil)) ?_
 refine j2 O Z Z (jr ?_)
 refine ⟨.inl Z, _, ak, _, Z, ?_⟩
 exact .v (.c .d)
def rA : Option (Nat × Nat) → Int
  | none => -1
  | some x => x.1
def wk : Option (Nat × Nat) → Int
  | none => 0
  | some x => x.2
abbrev AR (o : Option (Nat × Nat)) : A := .tup [eI (rA o), eI (wk o)]
theorem lL {P : ce} {p : Pth} {q : Nat} : decide (((bP P q p.ev).1 : Int) < (p.ev.length : Int)) = kJ P p q := by
 unfold kJ
 exact decide_eq_decide.2 ⟨fun h => by omega, fun h => by omega⟩
theorem jV {U : Mx} : (iY U).length = U.length := by simp [iY]
theorem uw {U : Mx} {f n : Nat} (h : f < U.length) (hn : (U.getD f default).length = n) : (iY U).getD f default = cV (U.getD f default) n := by
 subst hn
 rw [ar (by rw [jV]; exact h), ar h]
 simp [iY]
theorem vP {P : ce} (hP : POk P) (hm : m ≤ 8) (hb : ∀ p ∈ ps, PthB m p) : MQ h1 h2 69 [pP P, eI m, .c (.d (dc ps))] [] (Plain (AR (gh P (dd P ps m) 0 ps))) := by
 refine jB 66 h1 h2 Tryz.func69 Z Z Z fun O hF => ?_
 have hl : ps.length ≤ L := by have h0 := hF; simp only [As.fact, A.fact, M.fact, D.fact, Ds.fact, bt] at h0; omega
 refine ac (j2 O Z Z (aP (j3 O Z Z Z (jf [16,15,14,7,6,0,2] Z (ax O Z Z Z Z (vO (P := P) (ps := ps) (m := m) h1 h2 hP hm hb) (aa Z) Z Z Z Z (B0 := 18000) Z Z (js O Z (jf [8,7,6,0,2] Z (jn (af (ac (js O Z (jn (am ?_)))))))))))))
 obtain ⟨U, hU⟩ : ∃ U, U = dd P ps m := ⟨_, rfl⟩
 have hUl : U.length = m + 1 := by rw [hU]; exact fU
 have hUr : ∀ i, i ≤ m → (U.getD i default).length = P.length := fun i hi => by rw [hU]; exact ns hi
 rw [← hU]
 refine ap (X := Nat) (fun i => ⟨[(0, pP P), (2, .c (.d (dc ps))), (8, kK (iY U)), (9, eI i)], []⟩) (fun i => i ≤ ps.length ∧ gh P U 0 ps = gh P U i (ps.drop i)) (fun i => ps.length - i) 0 (Ent.to ⟨Z, Z, Z, Z, trivial⟩ Z) ?_ (fun i hi => ?_)
 exact ⟨cm _, Z⟩
 refine af (ac (j2 O Z Z ?_))
 first | refine bo O Z ?_ | refine js O Z ?_ | refine aU O Z Z ?_
 refine js O Z (jf [21,0,2,8,9] Z (jn (ab O Z Z (fun hc21 => ?_) (fun hc21 => ?_))))
 refine ah (af (am (ac (j3 O Z Z Z ?_))))
 have hil : i < ps.length := by have := aR hc21; omega
 have hpm : ps.getD i default ∈ ps := by rw [ar hil]; exact List.getElem_mem hil
 have hpb := hb _ hpm
 obtain ⟨p, hp⟩ : ∃ p, p = ps.getD i default := ⟨_, rfl⟩
 rw [← hp] at hpb
 have hpf := hpb.frm
 obtain ⟨f, hf⟩ : ∃ f : Nat, f = (p.frm + 1).toNat := ⟨_, rfl⟩
 have hfl : f < U.length := by omega
 have hfr0 := uw hfl (hUr f (by omega))
 obtain ⟨fr, hfr⟩ : ∃ fr, fr = cV (U.getD f default) P.length := ⟨_, rfl⟩
 rw [← hfr] at hfr0
 have hfl2 : fr.length ≤ 12 := by rw [hfr]; have := dO (bs := U.getD f default) (i := P.length); have := hP.hi; omega
 refine AOps.step ((aL O Z Z Z Z Z Z Z Z (cB hil)).cast (v' := ptr (Pth.cells p)) (by rw [hp])) Z Z Z (j2 O Z Z (AOps.step ((az O Z Z (by omega) (by omega)).cast (v' := eI ((f : Nat) : Int)) (congrArg eI (by omega))) Z Z Z (AOps.step ((aL O Z Z Z Z Z Z Z Z (cB (by rw [jV]; exact hfl))).cast (v' := ptr (mC fr)) (by rw [hfr0])) Z Z Z (j2 O Z Z (jf [10,21,0,2,8,9] Z (aP (js O Z (jn (am (ap (X := Nat) (fun k => ⟨[(0, pP P), (2, .c (.d (dc ps))), (8, kK (iY U)), (9, eI i), (10, bM fr), (11, eI k)], []⟩) (fun k => k ≤ fr.length ∧ gd P p fr = gd P p (fr.drop k)) (fun k => fr.length - k) 0 (Ent.to ⟨Z, Z, Z, Z, Z, Z, trivial⟩ Z) ?_ (fun k hk => ?_)))))))))))
 exact ⟨cm _, Z⟩
 refine af (ac (j2 O Z Z ?_))
 first | refine bo O Z ?_ | refine js O Z ?_ | refine aU O Z Z ?_
 refine js O Z (jf [36,0,2,8,9,10,11] Z (jn (ab O Z Z (fun hc36 => ?_) (fun hc36 => ?_))))
 refine ah (af (am (af ?_)))
 have hkl : k < fr.length := by have := aR hc36; omega
 obtain ⟨q, hq, hqn, hqu⟩ := s8 (bs := U.getD f default) (n := P.length) (k := k) (by rw [← hfr]; exact hkl)
 rw [← hfr] at hq
 have hrl := i7 hP hqn hpb.ev
 have hev := hpb.len
 refine fI O [_,_,_,_,_,_,_,_,_,_,_,_,_,_,_,_] [pn [] 0 0, pn [] 0 0, pn [] 0 0, pn [1,2] 0 0, pn [1,2,3] 0 0, pn [] 0 0, pn [] 0 0, pn [5,6] 0 0, pn [5,6,7] 0 0, pn (rg 5 4) 0 0, pe (rg 0 10) 0, pn (rg 0 11) 1 1, pn (rg 0 12) 1 1, pn (rg 0 12) 1 1, pn (rg 0 13) 1 1, pn (rg 0 15) 1 1] [10] [_,_] (kc O Z (kc O Z (kc O Z (ai (vN O Z) (ai ((V O Z).cast (v' := eI ((q : Nat) : Int)) (congrArg eI hq)) (kc O Z (kc O Z (ai ((aL O Z Z Z Z Z Z Z Z (cB hil)).cast (v' := ptr (Pth.cells p)) (by rw [hp])) (kc O Z (kc O Z (ai (aC O (B0 := 51000) Z Z Z Z (vK (P := P) (q := q) (es := p.ev) h1 h2 hP hqn hpb.ev (by omega)) (aa Z) Z Z Z Z Z) (kc O Z (kc O Z (kc O Z (kc O Z (kc O Z trivial)))))))))))))))) ?_
 refine jw [12,36,0,2,8,9,10,11] Z (ch ?_)
 refine ac (j3 O Z Z Z (AOps.step ((aL O Z Z Z Z Z Z Z Z (cB hil)).cast (v' := ptr (Pth.cells p)) (by rw [hp])) Z Z Z (j2 O Z Z ?_)))
 first | refine bo O Z ?_ | refine js O Z ?_ | refine aU O Z Z ?_
 refine AOps.step ((V O Z).cast (v' := eB (kJ P p q)) (congrArg eB lL)) Z Z Z (jf [60,36,0,2,8,9,10,11] Z (jn (ab O Z Z (fun hc60 => ?_) (fun hc60 => ?_))))
 refine af (fI O [_,_,_,_,_,_,_] [pn [] 0 0, pn [] 0 0, pn [] 0 0, pn [1,2] 0 0, pn [1,2,3] 0 0, pn [0] 0 0, pn (rg 0 6) 0 0] [] [_] (kc O Z (kc O Z (kc O Z (ai (vN O Z) (ai ((V O Z).cast (v' := eI ((q : Nat) : Int)) (congrArg eI hq)) (kc O Z (kc O Z trivial))))))) ?_)
 refine jw [7,6,60,36,0,2,8,9,10,11] Z (ch ?_)
 refine iZ ?_
 refine ⟨.inl Z, _, ak, _, Z, ?_⟩
 refine ⟨?_, Z⟩
 have hbd : kJ P p q = true := hc60
 rw [hi.2, hJ hil, ← hp, ← hf, sZ, ← hfr, hk.2, mF hkl, hq, Int.toNat_natCast, if_pos hbd]
 rfl
 refine ah (aj (js O Z ?_))
 first | refine ji O Z ?_ | refine aU O Z Z ?_
 refine js O Z (jf [11,60,36,0,2,8,9,10] Z (jn ?_))
 have hbd : kJ P p q = false := hc60
 refine ⟨k + 1, Ent.to ⟨Z, Z, Z, Z, Z, Z, trivial⟩ Z, ⟨by omega, ?_⟩, by omega⟩
 rw [hk.2, mF hkl, hq, Int.toNat_natCast, if_neg (by rw [hbd]; decide)]
 refine aQ (aj (js O Z ?_))
 first | refine ji O Z ?_ | refine aU O Z Z ?_
 refine js O Z (jf [9,36,0,2,8,10,11] Z (jn ?_))
 have hnn : gd P p fr = none := by rw [hk.2, List.drop_eq_nil_of_le (by have := bn hc36; omega)]; rfl
 refine ⟨i + 1, Ent.to ⟨Z, Z, Z, Z, trivial⟩ Z, ⟨by omega, ?_⟩, by omega⟩
 rw [hi.2, hJ hil, ← hp, ← hf, sZ, ← hfr, hnn]
 refine aQ (ac (j2 O Z Z (jr ?_)))
 refine ⟨.inl Z, _, ak, _, Z, ?_⟩
 refine ⟨?_, Z⟩
 rw [hi.2, oo (by have := bn hc21; omega)]
 rfl
variable {a : An} {cs : List Sq}
theorem zC {P : ce} (hA : MQ h1 h2 61 [ptr a.data] [] (Plain (.tup [.c (.d (dc ps)), .c (.d (me cs)), eB true]))) (hP : POk P) (hm : a.pts.length ≤ 8) (hb : ∀ p ∈ ps, PthB a.pts.length p) : MQ h1 h2 66 [pP P, ptr a.data] [] (Plain (.tup [eB (decide (rA (gh P (dd P ps a.pts.length) 0 ps) < 0)), eB true])) := by
 refine jB 32 h1 h2 Tryz.func66 Z Z Z fun O hF => ?_
 refine ac (j2 O Z Z (aP (js O Z (ax O Z Z Z Z (hA) (aa Z) Z Z Z Z (B0 := 14000) Z Z (j4 O Z Z Z Z (j3 O Z Z Z (jf [8,6,5,4,0,1] Z (jn (af (ac (j2 O Z Z (jf [18,6,5,4,0,1] Z (jn (ab O Z Z (fun hc18 => ?_) (fun hc18 => ?_)))))))))))))))
 exact absurd hc18 (by decide)
 refine ah (ac (j4 O Z Z Z Z (js O Z ?_)))
 first | refine bo O Z ?_ | refine js O Z ?_ | refine aU O Z Z ?_
 refine js O Z (jf [26,25,20,5,4,1] Z (ax O Z Z Z Z (vP (P := P) (ps := ps) (m := a.pts.length) h1 h2 hP hm hb) (aa Z) Z Z Z Z (B0 := 28000) Z Z (j4 O Z Z Z Z (js O Z (jf [9,5,4,1] Z (aP (j4 O Z Z Z Z (jf [5,4,1] Z (jr ?_)))))))))
 refine ⟨.inl Z, _, ak, _, Z, ?_⟩
 exact ⟨Z, Z⟩
theorem wZ {P : ce} (hA : MQ h1 h2 61 [ptr a.data] [] (Plain (.tup [.c (.d (dc ps)), .c (.d (me cs)), eB false]))) : MQ h1 h2 66 [pP P, ptr a.data] [] (Plain (.tup [eB false, eB false])) := by
 refine jB 32 h1 h2 Tryz.func66 Z Z Z fun O hF => ?_
 refine ac (j2 O Z Z (aP (js O Z (ax O Z Z Z Z (hA) (aa Z) Z Z Z Z (B0 := 14000) Z Z (j4 O Z Z Z Z (j3 O Z Z Z (jf [8,6,5,4,0,1] Z (jn (af (ac (j2 O Z Z (jf [18,6,5,4,0,1] Z (jn (ab O Z Z (fun hc18 => ?_) (fun hc18 => ?_)))))))))))))))
 refine ac (j2 O Z Z (jr ?_))
 refine ⟨.inl Z, _, ak, _, Z, ?_⟩
 exact ⟨Z, Z⟩
 exact absurd hc18 (by decide)
theorem xk {P : ce} (hp : dD P = false) : MQ h1 h2 26 [aPol P, aAn a] [] (Plain (.tup [eB false, eB false])) := by
 refine MC.data (jB 15 h1 h2 Tryz.func26 Z Z Z fun O hF => ?_)
 refine ac (jx O Z (ao ?_))
 refine AOps.to (Ent.freeze 2 (e' := [(2, _), (0, _), (1, _)]) Z (.cons Z (.c (.box (cs := [fL P]) Z (aq Z))) (fe [0,1] Z)) (.skip .nil)) ?_
 refine ao ?_
 refine jf [2,1] Z (jx O Z (ao ?_))
 refine AOps.to (Ent.freeze 3 (e' := [(3, _), (2, _), (1, _)]) Z (.cons Z (.c (.box (cs := a.data) Z (aq Z))) (fe [2,1] Z)) (.skip .nil)) ?_
 refine ao ?_
 refine j2 O Z Z (jn (af (ac (ae O Z Z Z Z ((gn (P := P) h1 h2).plain (u := eB false) (by rw [hp])) (aa Z) Z Z Z Z Z (B0 := 7000) Z (j2 O Z Z (jf [8,5,4,3,2,1] Z (AOps.skip Z Z Z Z Z Z (AOps.skip Z Z Z Z Z Z (AOps.step (ba O Z Z Z Z Z) Z Z Z (jf [11,5,4,3,2,1] Z (jn (ab O Z Z (fun hc11 => ?_) (fun hc11 => ?_)))))))))))))
 refine ac (j2 O Z Z (jr ?_))
 refine ⟨.inl Z, _, ak, _, Z, ?_⟩
 exact .tup (.cons (.c .d) (.cons (.c .d) .nil))
 exact absurd hc11 (by decide)
theorem xl {P : ce} (hp : dD P = true) (ha : cK a = false) : MQ h1 h2 26 [aPol P, aAn a] [] (Plain (.tup [eB false, eB false])) := by
 refine MC.data (jB 15 h1 h2 Tryz.func26 Z Z Z fun O hF => ?_)
 refine ac (jx O Z (ao ?_))
 refine AOps.to (Ent.freeze 2 (e' := [(2, _), (0, _), (1, _)]) Z (.cons Z (.c (.box (cs := [fL P]) Z (aq Z))) (fe [0,1] Z)) (.skip .nil)) ?_
 refine ao ?_
 refine jf [2,1] Z (jx O Z (ao ?_))
 refine AOps.to (Ent.freeze 3 (e' := [(3, _), (2, _), (1, _)]) Z (.cons Z (.c (.box (cs := a.data) Z (aq Z))) (fe [2,1] Z)) (.skip .nil)) ?_
 refine ao ?_
 refine j2 O Z Z (jn (af (ac (ae O Z Z Z Z ((gn (P := P) h1 h2).plain (u := eB true) (by rw [hp])) (aa Z) Z Z Z Z Z (B0 := 7000) Z (j2 O Z Z (jf [8,5,4,3,2,1] Z (bz Z (ae O Z Z Z Z ((vi (a := a) h1 h2).plain (u := eB false) (by rw [ha])) (aa Z) Z Z Z Z Z (B0 := 10000) Z (bz Z (js O Z (AOps.step (aF O Z Z Z Z Z) Z Z Z (jf [11,5,4,3,2,1] Z (jn (ab O Z Z (fun hc11 => ?_) (fun hc11 => ?_)))))))))))))))
 refine ac (j2 O Z Z (jr ?_))
 refine ⟨.inl Z, _, ak, _, Z, ?_⟩
 exact .tup (.cons (.c .d) (.cons (.c .d) .nil))
 exact absurd hc11 (by decide)
theorem vU {P : ce} (hp : dD P = true) (ha : cK a = true) {x y : Bool} (h56 : MQ h1 h2 66 [pP P, ptr a.data] [] (Plain (.tup [eB x, eB y]))) : MQ h1 h2 26 [aPol P, aAn a] [] (Plain (.tup [eB x, eB y])) := by
 refine MC.data (jB 15 h1 h2 Tryz.func26 Z Z Z fun O hF => ?_)
 refine ac (jx O Z (ao ?_))
 refine AOps.to (Ent.freeze 2 (e' := [(2, _), (0, _), (1, _)]) Z (.cons Z (.c (.box (cs := [fL P]) Z (aq Z))) (fe [0,1] Z)) (.skip .nil)) ?_
 refine ao ?_
 refine jf [2,1] Z (jx O Z (ao ?_))
 refine AOps.to (Ent.freeze 3 (e' := [(3, _), (2, _), (1, _)]) Z (.cons Z (.c (.box (cs := a.data) Z (aq Z))) (fe [2,1] Z)) (.skip .nil)) ?_
 refine ao ?_
 refine j2 O Z Z (jn (af (ac (ae O Z Z Z Z ((gn (P := P) h1 h2).plain (u := eB true) (by rw [hp])) (aa Z) Z Z Z Z Z (B0 := 7000) Z (j2 O Z Z (jf [8,5,4,3,2,1] Z (bz Z (ae O Z Z Z Z ((vi (a := a) h1 h2).plain (u := eB true) (by rw [ha])) (aa Z) Z Z Z Z Z (B0 := 10000) Z (bz Z (js O Z (AOps.step (aF O Z Z Z Z Z) Z Z Z (jf [11,5,4,3,2,1] Z (jn (ab O Z Z (fun hc11 => ?_) (fun hc11 => ?_)))))))))))))))
 exact absurd hc11 (by decide)
 refine ah (ac (ax O Z Z Z Z (h56) (aa Z) Z Z Z Z (B0 := 13000) Z Z (j4 O Z Z Z Z (jf [5,4,3,2,1] Z (jr ?_)))))
 refine ⟨.inl Z, _, ak, _, Z, ?_⟩
 exact .tup (.cons (.c .d) (.cons (.c .d) .nil))
theorem xh {P : ce} (hp : dD P = false) : MQ h1 h2 30 [aPol P, aAn a] [] (Plain (.tup [eI 0, eI 0, eB false])) := by
 refine MC.data (jB 37 h1 h2 Tryz.func30 Z Z Z fun O hF => ?_)
 refine ac (jx O Z (ao ?_))
 refine AOps.to (Ent.freeze 2 (e' := [(2, _), (0, _), (1, _)]) Z (.cons Z (.c (.box (cs := [fL P]) Z (aq Z))) (fe [0,1] Z)) (.skip .nil)) ?_
 refine ao ?_
 refine jf [2,1] Z (jx O Z (ao ?_))
 refine AOps.to (Ent.freeze 3 (e' := [(3, _), (2, _), (1, _)]) Z (.cons Z (.c (.box (cs := a.data) Z (aq Z))) (fe [2,1] Z)) (.skip .nil)) ?_
 refine ao ?_
 refine j3 O Z Z Z (jn (af (ac (ae O Z Z Z Z ((gn (P := P) h1 h2).plain (u := eB false) (by rw [hp])) (aa Z) Z Z Z Z Z (B0 := 13000) Z (j2 O Z Z (jf [14,6,5,4,3,2,1] Z (AOps.skip Z Z Z Z Z Z (AOps.skip Z Z Z Z Z Z (AOps.step (ba O Z Z Z Z Z) Z Z Z (jf [17,6,5,4,3,2,1] Z (jn (ab O Z Z (fun hc17 => ?_) (fun hc17 => ?_)))))))))))))
 refine ac (j3 O Z Z Z (jr ?_))
 refine ⟨.inl Z, _, ak, _, Z, ?_⟩
 exact .tup (.cons (.c .d) (.cons (.c .d) (.cons (.c .d) .nil)))
 exact absurd hc17 (by decide)
theorem xi {P : ce} (hp : dD P = true) (ha : cK a = false) : MQ h1 h2 30 [aPol P, aAn a] [] (Plain (.tup [eI 0, eI 0, eB false])) := by
 refine MC.data (jB 37 h1 h2 Tryz.func30 Z Z Z fun O hF => ?_)
 refine ac (jx O Z (ao ?_))
 refine AOps.to (Ent.freeze 2 (e' := [(2, _), (0, _), (1, _)]) Z (.cons Z (.c (.box (cs := [fL P]) Z (aq Z))) (fe [0,1] Z)) (.skip .nil)) ?_
 refine ao ?_
 refine jf [2,1] Z (jx O Z (ao ?_))
 refine AOps.to (Ent.freeze 3 (e' := [(3, _), (2, _), (1, _)]) Z (.cons Z (.c (.box (cs := a.data) Z (aq Z))) (fe [2,1] Z)) (.skip .nil)) ?_
 refine ao ?_
 refine j3 O Z Z Z (jn (af (ac (ae O Z Z Z Z ((gn (P := P) h1 h2).plain (u := eB true) (by rw [hp])) (aa Z) Z Z Z Z Z (B0 := 13000) Z (j2 O Z Z (jf [14,6,5,4,3,2,1] Z (bz Z (ae O Z Z Z Z ((vi (a := a) h1 h2).plain (u := eB false) (by rw [ha])) (aa Z) Z Z Z Z Z (B0 := 16000) Z (bz Z (js O Z (AOps.step (aF O Z Z Z Z Z) Z Z Z (jf [17,6,5,4,3,2,1] Z (jn (ab O Z Z (fun hc17 => ?_) (fun hc17 => ?_)))))))))))))))
 refine ac (j3 O Z Z Z (jr ?_))
 refine ⟨.inl Z, _, ak, _, Z, ?_⟩
 exact .tup (.cons (.c .d) (.cons (.c .d) (.cons (.c .d) .nil)))
 exact absurd hc17 (by decide)
theorem xj {P : ce} (hp : dD P = true) (ha : cK a = true) (hA : MQ h1 h2 61 [ptr a.data] [] (Plain (.tup [.c (.d (dc ps)), .c (.d (me cs)), eB false]))) : MQ h1 h2 30 [aPol P, aAn a] [] (Plain (.tup [eI 0, eI 0, eB false])) := by
 refine MC.data (jB 37 h1 h2 Tryz.func30 Z Z Z fun O hF => ?_)
 refine ac (jx O Z (ao ?_))
 refine AOps.to (Ent.freeze 2 (e' := [(2, _), (0, _), (1, _)]) Z (.cons Z (.c (.box (cs := [fL P]) Z (aq Z))) (fe [0,1] Z)) (.skip .nil)) ?_
 refine ao ?_
 refine jf [2,1] Z (jx O Z (ao ?_))
 refine AOps.to (Ent.freeze 3 (e' := [(3, _), (2, _), (1, _)]) Z (.cons Z (.c (.box (cs := a.data) Z (aq Z))) (fe [2,1] Z)) (.skip .nil)) ?_
 refine ao ?_
 refine j3 O Z Z Z (jn (af (ac (ae O Z Z Z Z ((gn (P := P) h1 h2).plain (u := eB true) (by rw [hp])) (aa Z) Z Z Z Z Z (B0 := 13000) Z (j2 O Z Z (jf [14,6,5,4,3,2,1] Z (bz Z (ae O Z Z Z Z ((vi (a := a) h1 h2).plain (u := eB true) (by rw [ha])) (aa Z) Z Z Z Z Z (B0 := 16000) Z (bz Z (js O Z (AOps.step (aF O Z Z Z Z Z) Z Z Z (jf [17,6,5,4,3,2,1] Z (jn (ab O Z Z (fun hc17 => ?_) (fun hc17 => ?_)))))))))))))))
 exact absurd hc17 (by decide)
 refine ah (ac (ax O Z Z Z Z (hA) (aa Z) Z Z Z Z (B0 := 20000) Z Z (j4 O Z Z Z Z (j3 O Z Z Z (jf [9,7,6,5,4,3,2,1] Z (jn (af (ac (j2 O Z Z (jf [24,7,6,5,4,3,2,1] Z (jn (ab O Z Z (fun hc24 => ?_) (fun hc24 => ?_)))))))))))))
 refine ac (j3 O Z Z Z (jr ?_))
 refine ⟨.inl Z, _, ak, _, Z, ?_⟩
 exact .tup (.cons (.c .d) (.cons (.c .d) (.cons (.c .d) .nil)))
 exact absurd hc24 (by decide)
theorem zI {P : ce} (hp : dD P = true) (ha : cK a = true) (hA : MQ h1 h2 61 [ptr a.data] [] (Plain (.tup [.c (.d (dc ps)), .c (.d (me cs)), eB true]))) (hP : POk P) (hm : a.pts.length ≤ 8) (hb : ∀ p ∈ ps, PthB a.pts.length p) : MQ h1 h2 30 [aPol P, aAn a] [] (Plain (if rA (gh P (dd P ps a.pts.length) 0 ps) < 0 then .tup [eI 0, eI 0, eB false] else .tup [eI (rA (gh P (dd P ps a.pts.length) 0 ps)), eI (wk (gh P (dd P ps a.pts.length) 0 ps)), eB true])) := by
 refine MC.data (jB 37 h1 h2 Tryz.func30 Z Z Z fun O hF => ?_)
 refine ac (jx O Z (ao ?_))
 refine AOps.to (Ent.freeze 2 (e' := [(2, _), (0, _), (1, _)]) Z (.cons Z (.c (.box (cs := [fL P]) Z (aq Z))) (fe [0,1] Z)) (.skip .nil)) ?_
 refine ao ?_
 refine jf [2,1] Z (jx O Z (ao ?_))
 refine AOps.to (Ent.freeze 3 (e' := [(3, _), (2, _), (1, _)]) Z (.cons Z (.c (.box (cs := a.data) Z (aq Z))) (fe [2,1] Z)) (.skip .nil)) ?_
 refine ao ?_
 refine j3 O Z Z Z (jn (af (ac (ae O Z Z Z Z ((gn (P := P) h1 h2).plain (u := eB true) (by rw [hp])) (aa Z) Z Z Z Z Z (B0 := 13000) Z (j2 O Z Z (jf [14,6,5,4,3,2,1] Z (bz Z (ae O Z Z Z Z ((vi (a := a) h1 h2).plain (u := eB true) (by rw [ha])) (aa Z) Z Z Z Z Z (B0 := 16000) Z (bz Z (js O Z (AOps.step (aF O Z Z Z Z Z) Z Z Z (jf [17,6,5,4,3,2,1] Z (jn (ab O Z Z (fun hc17 => ?_) (fun hc17 => ?_)))))))))))))))
 exact absurd hc17 (by decide)
 refine ah (ac (ax O Z Z Z Z (hA) (aa Z) Z Z Z Z (B0 := 20000) Z Z (j4 O Z Z Z Z (j3 O Z Z Z (jf [9,7,6,5,4,3,2,1] Z (jn (af (ac (j2 O Z Z (jf [24,7,6,5,4,3,2,1] Z (jn (ab O Z Z (fun hc24 => ?_) (fun hc24 => ?_)))))))))))))
 exact absurd hc24 (by decide)
 refine ah (ac (j2 O Z Z ?_))
 first | refine bo O Z ?_ | refine js O Z ?_ | refine aU O Z Z ?_
 refine js O Z (jf [29,28,6,5,4,3,2,1] Z (ax O Z Z Z Z (vP (P := P) (ps := ps) (m := a.pts.length) h1 h2 hP hm hb) (aa Z) Z Z Z Z (B0 := 31000) Z Z (j4 O Z Z Z Z (js O Z (jf [11,10,6,5,4,3,2,1] Z (jn (af (ac (j2 O Z Z (jn (ab O Z Z (fun hc34 => ?_) (fun hc34 => ?_))))))))))))
 refine ac (j3 O Z Z Z (jr ?_))
 refine ⟨.inl Z, _, ak, _, Z, ?_⟩
 rw [if_pos (aR hc34)]
 exact .tup (.cons (.c .d) (.cons (.c .d) (.cons (.c .d) .nil)))
 refine ah (ac (j4 O Z Z Z Z (js O Z (jf [6,5,4,33,10,3,2,1] Z (jr ?_)))))
 refine ⟨.inl Z, _, ak, _, Z, ?_⟩
 rw [if_neg (bn hc34)]
 exact .tup (.cons (.c .d) (.cons (.c .d) (.cons (.c .d) .nil)))
theorem xe {P : ce} (hp : dD P = false) : MQ h1 h2 32 [aPol P, aAn a] [] (Plain (.tup [kK [], eB false])) := by
 refine MC.data (jB 27 h1 h2 Tryz.func32 Z Z Z fun O hF => ?_)
 refine ac (jx O Z (ao ?_))
 refine AOps.to (Ent.freeze 2 (e' := [(2, _), (0, _), (1, _)]) Z (.cons Z (.c (.box (cs := [fL P]) Z (aq Z))) (fe [0,1] Z)) (.skip .nil)) ?_
 refine ao ?_
 refine jf [2,1] Z (jx O Z (ao ?_))
 refine AOps.to (Ent.freeze 3 (e' := [(3, _), (2, _), (1, _)]) Z (.cons Z (.c (.box (cs := a.data) Z (aq Z))) (fe [2,1] Z)) (.skip .nil)) ?_
 refine ao ?_
 refine j2 O Z Z (jn (af (ac (ae O Z Z Z Z ((gn (P := P) h1 h2).plain (u := eB false) (by rw [hp])) (aa Z) Z Z Z Z Z (B0 := 10000) Z (j2 O Z Z (jf [11,5,4,3,2,1] Z (AOps.skip Z Z Z Z Z Z (AOps.skip Z Z Z Z Z Z (AOps.step (ba O Z Z Z Z Z) Z Z Z (jf [14,5,4,3,2,1] Z (jn (ab O Z Z (fun hc14 => ?_) (fun hc14 => ?_)))))))))))))
 refine ac (j2 O Z Z (jr ?_))
 refine ⟨.inl Z, _, ak, _, Z, ?_⟩
 exact .tup (.cons (.c .nils) (.cons (.c .d) .nil))
 exact absurd hc14 (by decide)
theorem xf {P : ce} (hp : dD P = true) (ha : cK a = false) : MQ h1 h2 32 [aPol P, aAn a] [] (Plain (.tup [kK [], eB false])) := by
 refine MC.data (jB 27 h1 h2 Tryz.func32 Z Z Z fun O hF => ?_)
 refine ac (jx O Z (ao ?_))
 refine AOps.to (Ent.freeze 2 (e' := [(2, _), (0, _), (1, _)]) Z (.cons Z (.c (.box (cs := [fL P]) Z (aq Z))) (fe [0,1] Z)) (.skip .nil)) ?_
 refine ao ?_
 refine jf [2,1] Z (jx O Z (ao ?_))
 refine AOps.to (Ent.freeze 3 (e' := [(3, _), (2, _), (1, _)]) Z (.cons Z (.c (.box (cs := a.data) Z (aq Z))) (fe [2,1] Z)) (.skip .nil)) ?_
 refine ao ?_
 refine j2 O Z Z (jn (af (ac (ae O Z Z Z Z ((gn (P := P) h1 h2).plain (u := eB true) (by rw [hp])) (aa Z) Z Z Z Z Z (B0 := 10000) Z (j2 O Z Z (jf [11,5,4,3,2,1] Z (bz Z (ae O Z Z Z Z ((vi (a := a) h1 h2).plain (u := eB false) (by rw [ha])) (aa Z) Z Z Z Z Z (B0 := 13000) Z (bz Z (js O Z (AOps.step (aF O Z Z Z Z Z) Z Z Z (jf [14,5,4,3,2,1] Z (jn (ab O Z Z (fun hc14 => ?_) (fun hc14 => ?_)))))))))))))))
 refine ac (j2 O Z Z (jr ?_))
 refine ⟨.inl Z, _, ak, _, Z, ?_⟩
 exact .tup (.cons (.c .nils) (.cons (.c .d) .nil))
 exact absurd hc14 (by decide)
theorem xg {P : ce} (hp : dD P = true) (ha : cK a = true) (hA : MQ h1 h2 61 [ptr a.data] [] (Plain (.tup [.c (.d (dc ps)), .c (.d (me cs)), eB false]))) : MQ h1 h2 32 [aPol P, aAn a] [] (Plain (.tup [kK [], eB false])) := by
 refine MC.data (jB 27 h1 h2 Tryz.func32 Z Z Z fun O hF => ?_)
 refine ac (jx O Z (ao ?_))
 refine AOps.to (Ent.freeze 2 (e' := [(2, _), (0, _), (1, _)]) Z (.cons Z (.c (.box (cs := [fL P]) Z (aq Z))) (fe [0,1] Z)) (.skip .nil)) ?_
 refine ao ?_
 refine jf [2,1] Z (jx O Z (ao ?_))
 refine AOps.to (Ent.freeze 3 (e' := [(3, _), (2, _), (1, _)]) Z (.cons Z (.c (.box (cs := a.data) Z (aq Z))) (fe [2,1] Z)) (.skip .nil)) ?_
 refine ao ?_
 refine j2 O Z Z (jn (af (ac (ae O Z Z Z Z ((gn (P := P) h1 h2).plain (u := eB true) (by rw [hp])) (aa Z) Z Z Z Z Z (B0 := 10000) Z (j2 O Z Z (jf [11,5,4,3,2,1] Z (bz Z (ae O Z Z Z Z ((vi (a := a) h1 h2).plain (u := eB true) (by rw [ha])) (aa Z) Z Z Z Z Z (B0 := 13000) Z (bz Z (js O Z (AOps.step (aF O Z Z Z Z Z) Z Z Z (jf [14,5,4,3,2,1] Z (jn (ab O Z Z (fun hc14 => ?_) (fun hc14 => ?_)))))))))))))))
 exact absurd hc14 (by decide)
 refine ah (ac (ax O Z Z Z Z (hA) (aa Z) Z Z Z Z (B0 := 17000) Z Z (j4 O Z Z Z Z (j3 O Z Z Z (jf [8,6,5,4,3,2,1] Z (jn (af (ac (j2 O Z Z (jf [21,6,5,4,3,2,1] Z (jn (ab O Z Z (fun hc21 => ?_) (fun hc21 => ?_)))))))))))))
 refine ac (j2 O Z Z (jr ?_))
 refine ⟨.inl Z, _, ak, _, Z, ?_⟩
 exact .tup (.cons (.c .nils) (.cons (.c .d) .nil))
 exact absurd hc21 (by decide)
theorem zG {P : ce} (hp : dD P = true) (ha : cK a = true) (hA : MQ h1 h2 61 [ptr a.data] [] (Plain (.tup [.c (.d (dc ps)), .c (.d (me cs)), eB true]))) (hP : POk P) (hm : a.pts.length ≤ 8) (hb : ∀ p ∈ ps, PthB a.pts.length p) : MQ h1 h2 32 [aPol P, aAn a] [] (Plain (.tup [kK (iY (dd P ps a.pts.length)), eB true])) := by
 refine MC.data (jB 27 h1 h2 Tryz.func32 Z Z Z fun O hF => ?_)
 refine ac (jx O Z (ao ?_))
 refine AOps.to (Ent.freeze 2 (e' := [(2, _), (0, _), (1, _)]) Z (.cons Z (.c (.box (cs := [fL P]) Z (aq Z))) (fe [0,1] Z)) (.skip .nil)) ?_
 refine ao ?_
 refine jf [2,1] Z (jx O Z (ao ?_))
 refine AOps.to (Ent.freeze 3 (e' := [(3, _), (2, _), (1, _)]) Z (.cons Z (.c (.box (cs := a.data) Z (aq Z))) (fe [2,1] Z)) (.skip .nil)) ?_
 refine ao ?_
 refine j2 O Z Z (jn (af (ac (ae O Z Z Z Z ((gn (P := P) h1 h2).plain (u := eB true) (by rw [hp])) (aa Z) Z Z Z Z Z (B0 := 10000) Z (j2 O Z Z (jf [11,5,4,3,2,1] Z (bz Z (ae O Z Z Z Z ((vi (a := a) h1 h2).plain (u := eB true) (by rw [ha])) (aa Z) Z Z Z Z Z (B0 := 13000) Z (bz Z (js O Z (AOps.step (aF O Z Z Z Z Z) Z Z Z (jf [14,5,4,3,2,1] Z (jn (ab O Z Z (fun hc14 => ?_) (fun hc14 => ?_)))))))))))))))
 exact absurd hc14 (by decide)
 refine ah (ac (ax O Z Z Z Z (hA) (aa Z) Z Z Z Z (B0 := 17000) Z Z (j4 O Z Z Z Z (j3 O Z Z Z (jf [8,6,5,4,3,2,1] Z (jn (af (ac (j2 O Z Z (jf [21,6,5,4,3,2,1] Z (jn (ab O Z Z (fun hc21 => ?_) (fun hc21 => ?_)))))))))))))
 exact absurd hc21 (by decide)
 refine ah (ac (j2 O Z Z ?_))
 first | refine bo O Z ?_ | refine js O Z ?_ | refine aU O Z Z ?_
 refine js O Z (jf [25,24,5,4,3,2,1] Z (ax O Z Z Z Z (vO (P := P) (ps := ps) (m := a.pts.length) h1 h2 hP hm hb) (aa Z) Z Z Z Z (B0 := 27000) Z Z (j2 O Z Z (jf [5,4,3,2,1] Z (jr ?_)))))
 refine ⟨.inl Z, _, ak, _, Z, ?_⟩
 exact .tup (.cons (.c .d) (.cons (.c .d) .nil))
abbrev BK (u : List Bool) : D := .slc 1 (u.map bL)
abbrev wr (u : List Bool) : A := .c (.d (BK u))
theorem n7 {n : Nat} {r : List Int} : (bif !decide ((r.length : Int) = 4) then true else !(r.all (da (-1) ((n : Int) - 1)))) = !jN n r := by
 unfold jN
 rw [show decide ((r.length : Int) = 4) = decide (r.length = 4) from decide_eq_decide.2 ⟨fun h => by omega, fun h => by omega⟩]
 cases decide (r.length = 4) <;> rfl
theorem sJ {P : ce} (hl : P.length ≤ L) : MQ h1 h2 103 [aPol P] [] (Plain (eB (dD P))) := by
 refine aA ?_ Z
 refine jB 31 h1 h2 Tryz.func103 Z Z Z fun O hF => ?_
 refine ac (jx O Z (ao ?_))
 refine AOps.to (Ent.freeze 1 (e' := [(1, _), (0, _)]) Z (.cons Z (.c (.box (cs := [fL P]) Z (aq Z))) (fe [0] Z)) (.skip .nil)) ?_
 refine ao ?_
 refine js O Z (aP (j2 O Z Z ?_))
 first | refine bo O Z ?_ | refine js O Z ?_ | refine aU O Z Z ?_
 refine jf [8,2,1,0] Z (ae O Z Z Z Z (rB (n := (P.length : Int)) h1 h2) (aa Z) Z Z Z Z Z (B0 := 10000) Z (js O Z (jf [3,2,1,0] Z (jn (af (ac (js O Z (ae O Z Z Z Z (nU (x := (P.length : Int)) (lo := 1) (hi := 12) h1 h2) (aa Z) Z Z Z Z Z (B0 := 12000) Z (js O Z (jf [12,3,2,1,0] Z (jn (ab O Z Z (fun hc12 => ?_) (fun hc12 => ?_)))))))))))))
 refine ac (js O Z (jr ?_))
 refine ⟨.inl Z, _, ak, _, Z, ?_⟩
 rw [show dD P = false by unfold dD; rw [jQ hc12]; rfl]
 refine ah (af (ac (j2 O Z Z ?_)))
 first | refine bo O Z ?_ | refine js O Z ?_ | refine aU O Z Z ?_
 refine js O Z (jf [16,15,14,3,2,1,0] Z (jn (am (ap (X := Nat) (fun i => ⟨[(1, pP P), (3, eI P.length), (14, kK P), (15, eI P.length), (16, eI i)], []⟩) (fun i => i ≤ P.length ∧ ∀ j, j < i → jN P.length (P.getD j default) = true) (fun i => P.length - i) 0 (Ent.to ⟨Z, Z, Z, Z, Z, trivial⟩ Z) ?_ (fun i hi => ?_)))))
 exact ⟨cm _, fun j hj => absurd hj (Nat.not_lt_zero j)⟩
 refine ac (js O Z (jn (af (ab O Z Z (fun hc17 => ?_) (fun hc17 => ?_)))))
 refine ah (af (am (ac ?_)))
 have hil : i < P.length := by have := aR hc17; omega
 refine AOps.step (aL O Z Z Z Z Z Z Z Z (cB hil)) Z Z Z (j2 O Z Z (jf [5,17,1,3,14,15,16] Z (aP (js O Z ?_))))
 first | refine bo O Z ?_ | refine js O Z ?_ | refine aU O Z Z ?_
 refine j2 O Z Z (jf [23,5,17,1,3,14,15,16] Z (aS 5 Z Z Z (fun hx => AN.step hx Z Z Z (V O Z) Z Z ( AN.step hx Z Z Z (V O Z) Z Z ( AN.step hx Z Z Z (vF O Z) Z Z ( dI O hx Z Z Z Z (yo (xs := P.getD i default) (lo := -1) (hi := (P.length : Int) - 1) h1 h2) (aa Z) Z Z Z Z Z Z Z (B0 := 28000) Z ( AN.step hx Z Z Z (V O Z) Z Z ( AN.nil)))))) Z Z ?_))
 first | refine AOps.step (aK O Z Z Z Z Z) Z Z Z ?_ | refine AOps.step (Val.pickB O Z Z Z Z Z) Z Z Z ?_ | refine AOps.step (aM O Z Z Z Z Z) Z Z Z ?_
 refine jf [29,17,1,3,14,15,16] Z (jn (ab O Z Z (fun hc29 => ?_) (fun hc29 => ?_)))
 refine ac (js O Z (jr ?_))
 refine ⟨.inl Z, _, ak, _, Z, ?_⟩
 have h9 := hc29
 rw [n7] at h9
 rw [pi i hil (jQ h9)]
 refine ah (aj ?_)
 first | refine ji O Z ?_ | refine aU O Z Z ?_
 refine js O Z (jn ?_)
 have h9 := hc29
 rw [n7] at h9
 refine ⟨i + 1, Ent.to ⟨Z, Z, Z, Z, Z, trivial⟩ Z, ⟨by omega, fun j hj => ?_⟩, by omega⟩
 rcases Nat.lt_or_ge j i with h | h
 exact hi.2 j h
 obtain rfl : j = i := by omega
 exact gi h9
 refine aQ (ac (js O Z (jr ?_)))
 refine ⟨.inl Z, _, ak, _, Z, ?_⟩
 rw [qW (gi hc12) fun j hj => hi.2 j (by have := bn hc17; omega)]
theorem vL {P : ce} {q : Nat} (hP : POk P) (hq : q < P.length) (he : vk es) (hl : es.length ≤ L) : MQ h1 h2 98 [aPol P, eI q, bM es] [] (Plain (.tup [eI (bP P q es).1, eI (bP P q es).2])) := by
 refine jB 36 h1 h2 Tryz.func98 Z Z Z fun O hF => ?_
 refine ac (jx O Z (ao ?_))
 refine AOps.to (Ent.freeze 3 (e' := [(3, _), (0, _), (1, _), (2, _)]) Z (.cons Z (.c (.box (cs := [fL P]) Z (aq Z))) (fe [0,1,2] Z)) (.skip .nil)) ?_
 refine ao ?_
 refine j2 O Z Z (jn (af (ac (js O Z ?_))))
 first | refine bo O Z ?_ | refine js O Z ?_ | refine aU O Z Z ?_
 refine js O Z (jn (am (ap (X := Nat × Nat) (fun x => ⟨[(1, eI x.2), (2, bM es), (3, pP P), (11, bM es), (12, eI es.length), (13, eI x.1)], []⟩) (fun x => x.1 ≤ es.length ∧ x.2 < P.length ∧ bP P q es = (x.1 + (bP P x.2 (es.drop x.1)).1, (bP P x.2 (es.drop x.1)).2)) (fun x => es.length - x.1) (0, q) (Ent.to ⟨Z, Z, Z, Z, Z, Z, trivial⟩ Z) ?_ (fun x hi => ?_))))
 exact ⟨cm _, hq, by simp⟩
 refine ac (js O Z (jn (af (ab O Z Z (fun hc14 => ?_) (fun hc14 => ?_)))))
 refine ah (af (am (ac ?_)))
 have hxl : x.1 < es.length := by have := aR hc14; omega
 have hev := he (es.getD x.1 default) (by rw [ar hxl]; exact List.getElem_mem hxl)
 have hr4 := (hP.row (P.getD x.2 default) (by rw [ar hi.2.1]; exact List.getElem_mem hi.2.1)).1
 have hnx := hP.nx hi.2.1 hev
 have hxq := hi.2.1
 refine js O Z (AOps.step (aL O Z Z Z Z Z Z Z Z (cB hxl)) Z Z Z (j3 O Z Z Z (jf [9,8,14,1,2,3,11,12,13] Z (aP (j3 O Z Z Z (AOps.step (aL O Z Z Z Z Z Z Z Z (cB hxq)) Z Z Z (j2 O Z Z (AOps.step (bA O Z Z Z Z Z Z Z Z (by omega) (ja (by omega) (by omega))) Z Z Z (j2 O Z Z (jf [10,8,14,1,2,3,11,12,13] Z (jn (af (ac (j2 O Z Z (jn (ab O Z Z (fun hc27 => ?_) (fun hc27 => ?_)))))))))))))))))
 refine ac (j4 O Z Z Z Z (jf [7,6,27,26,10,14,1,2,3,11,12,13] Z (jr ?_)))
 refine ⟨.inl Z, _, ak, _, Z, ?_⟩
 refine ⟨?_, Z⟩
 have hns := aR hc27
 have e := hi.2.2
 rw [og hxl hns] at e
 exact (congrArg (fun z : Nat × Nat => A.tup [eI z.1, eI z.2]) e).symm
 refine ah (aj (j2 O Z Z (jn (aj ?_))))
 first | refine ji O Z ?_ | refine aU O Z Z ?_
 refine js O Z (jn ?_)
 have hns := bn hc27
 have hnx0 : ¬ (kU P x.2 (es.getD x.1 default)) < 0 := hns
 refine ⟨(x.1 + 1, (kU P x.2 (es.getD x.1 default)).toNat), Ent.to ⟨congrArg (fun z => some (eI z)) (show _ = ((kU P x.2 (es.getD x.1 default)).toNat : Int) by rw [Int.toNat_of_nonneg (by omega)]; rfl), Z, Z, Z, Z, Z, trivial⟩ Z, ⟨by show x.1 + 1 ≤ es.length; omega, by show (kU P x.2 (es.getD x.1 default)).toNat < P.length; omega, ?_⟩, by show es.length - (x.1 + 1) < es.length - x.1; omega⟩
 rw [hi.2.2, od hxl hnx0]
 show (_, _) = (_, _)
 rw [show x.1 + ((bP P (kU P x.2 (es.getD x.1 default)).toNat (es.drop (x.1 + 1))).1 + 1) = x.1 + 1 + (bP P (kU P x.2 (es.getD x.1 default)).toNat (es.drop (x.1 + 1))).1 by omega]
 refine aQ (ac (js O Z ?_))
 first | refine bo O Z ?_ | refine js O Z ?_ | refine aU O Z Z ?_
 refine jf [33,14,1,2,3,11,12,13] Z (ae O Z Z Z Z (rB (n := (es.length : Int)) h1 h2) (aa Z) Z Z Z Z Z (B0 := 35000) Z (j3 O Z Z Z (jf [7,6,14,1,2,3,11,12,13] Z (jr ?_))))
 refine ⟨.inl Z, _, ak, _, Z, ?_⟩
 refine ⟨?_, Z⟩
 have hxe : x.1 = es.length := by have := bn hc14; omega
 have e := hi.2.2
 rw [oe (by omega)] at e
 rw [hxe] at e
 exact (congrArg (fun z : Nat × Nat => A.tup [eI z.1, eI z.2]) e).symm
theorem zA {u : List Bool} (hl : u.length ≤ L) : MQ h1 h2 72 [wr u] [] (Rows (.c (.rs 0 0 (cV u u.length).length)) [aD (cV u u.length)]) := by
 refine bh (jB 20 h1 h2 Tryz.func72 Z Z Z fun O hF => ?_)
 refine ac (js O Z (aP (js O Z (jn (af (ac (js O Z ?_)))))))
 first | refine bo O Z ?_ | refine js O Z ?_ | refine aU O Z Z ?_
 refine js O Z (jn (am (ap (X := Nat) (fun i => ⟨[(3, .c (.rs 900 0 (cV u i).length)), (6, wr u), (7, eI u.length), (8, eI i)], [(900, aD (cV u i))]⟩) (fun i => i ≤ u.length) (fun i => u.length - i) 0 ((cw 3 900 1 true Z Z).trans (Ent.to (e' := [(3, _), (6, _), (7, _), (8, _)]) ⟨Z, Z, Z, Z, trivial⟩ Z)) ?_ (fun i hi => ?_))))
 exact cm _
 refine ac (js O Z (jn (af (ab O Z Z (fun hc9 => ?_) (fun hc9 => ?_)))))
 refine ah (af (am (ac ?_)))
 have hil : i < u.length := by have := aR hc9; omega
 have hxl := dO (bs := u) (i := i)
 refine js O Z (AOps.step (aL O Z Z Z Z Z Z Z Z (cB hil)) Z Z Z (j3 O Z Z Z (jf [5,4,9,3,6,7,8] Z (aP (js O Z (jn (ab O Z Z (fun hc13 => ?_) (fun hc13 => ?_))))))))
 refine aj (j2 O Z Z (jf [15,14,13,5,9,3,6,7,8] Z (AOps.heap (aZ O Z Z Z) Z (ao ?_))))
 refine jf [16,14,13,5,9,3,6,7,8] Z (AOps.heap (bj (zs := (cV u i ++ [(i : Int)]).map fun n => [.int .i64 n]) (n := ((cV u i).length + 1)) O Z Z Z Z Z Z Z Z Z Z Z Z Z Z Z Z (.row Z (bt _).symm) Z Z (by decide) Z (by simp; omega) (by simp; omega) (by simp) (by simp)) Z (ao ?_))
 refine ao ?_
 refine js O Z (jf [3,13,5,9,6,7,8] Z (jn (aj ?_)))
 first | refine ji O Z ?_ | refine aU O Z Z ?_
 refine js O Z (jn ?_)
 refine ⟨i + 1, ((aw [17] (e' := [(3, _), (6, _), (7, _), (8, _)]) Z Z ⟨Z, Z, Z, Z, trivial⟩ Z).trans (ag 17 900 Z Z)).trans (Ent.to ⟨by rw [ml hc13, c9]; rfl, Z, Z, Z, trivial⟩ (by rw [ml hc13]; rfl)), by omega, by omega⟩
 refine ah (aj ?_)
 first | refine ji O Z ?_ | refine aU O Z Z ?_
 refine js O Z (jn ?_)
 refine ⟨i + 1, Ent.to ⟨by rw [nX hc13]; rfl, Z, Z, Z, trivial⟩ (by rw [nX hc13]), by omega, by omega⟩
 refine aQ (ac (j2 O Z Z (jr ?_)))
 have hie : i = u.length := by have := bn hc9; omega
 rw [← hie]
 refine ⟨.inl Z, _, ak, _, Z, [900], by decide, Z, Z, Z⟩
abbrev m7 (u : List Bool) : List D := [BK u]
abbrev t8 (U : Mx) : D := .slc 1 (U.map m7)
abbrev qK (U : Mx) : B := .row true 1 (U.map m7)
theorem i5 {U : Mx} {f : Nat} (h : f < U.length) : (U.map m7)[0 + ((f : Nat) : Int).toNat]? = some (m7 (U.getD f default)) := by
 rw [Nat.zero_add, Int.toNat_natCast, List.getElem?_map, List.getElem?_eq_getElem h, ar h]; rfl
theorem wa {u : List Bool} {k : Nat} (h : k < u.length) : (u.map bL)[k]? = some [.bool (u.getD k default)] := by
 rw [List.getElem?_map, List.getElem?_eq_getElem h, ar h]; rfl
theorem tu {U : Mx} {t s : Nat} (h : t < U.length) (hs : s < (U.getD t default).length) : (U.map m7).set (0 + ((t : Nat) : Int).toNat) ((m7 (U.getD t default)).set 0 (.slc 1 (((U.getD t default).map bL).set s [.bool true]))) = (sM U t s).map m7 := by
 rw [Nat.zero_add, Int.toNat_natCast]
 unfold sM
 rw [List.map_set]
 congr 1
 show [D.slc 1 _] = [D.slc 1 _]
 rw [List.map_set]
theorem pp {P : ce} (hp0 : dD P = false) : MQ h1 h2 71 [aPol P, aAn a] [] (Plain (.tup [.c (.d (dc [])), .c (.d (t8 [])), eB false])) := by
 refine MC.data (jB 107 h1 h2 Tryz.func71 Z Z Z fun O hF => ?_)
 have hPL : P.length ≤ L := by have h0 := hF; simp only [As.fact, A.fact, Ms.fact, M.fact, D.fact, Ds.fact, bt, List.map_cons, List.map_nil] at h0; omega
 refine ac (jx O Z (ao ?_))
 refine AOps.to (Ent.freeze 2 (e' := [(2, _), (0, _), (1, _)]) Z (.cons Z (.c (.box (cs := [fL P]) Z (aq Z))) (fe [0,1] Z)) (.skip .nil)) ?_
 refine ao ?_
 refine jf [2,1] Z (jx O Z (ao ?_))
 refine AOps.to (Ent.freeze 3 (e' := [(3, _), (2, _), (1, _)]) Z (.cons Z (.c (.box (cs := a.data) Z (aq Z))) (fe [2,1] Z)) (.skip .nil)) ?_
 refine ao ?_
 refine j3 O Z Z Z (jn (af (ac (js O Z (ae O Z Z Z Z ((sJ (P := P) h1 h2 hPL).plain (u := eB false) (by rw [hp0])) (aa Z) Z Z Z Z Z (B0 := 19000) Z (js O Z (jf [19,6,5,4,3,2,1] Z (jn (ab O Z Z (fun hc19 => ?_) (fun hc19 => ?_))))))))))
 refine ac (j3 O Z Z Z (jr ?_))
 refine ⟨.inl Z, _, ak, _, Z, ?_⟩
 exact .tup (.cons (.c .nils) (.cons (.c .nils) (.cons (.c .d) .nil)))
 exact absurd hc19 (by decide)
theorem j5 {P : ce} (hp0 : dD P = true) (hI : MQ h1 h2 19 [aAn a] [] (Rows (.tup [.c (.d .nils), eB false]) [])) : MQ h1 h2 71 [aPol P, aAn a] [] (Plain (.tup [.c (.d (dc [])), .c (.d (t8 [])), eB false])) := by
 refine MC.data (jB 107 h1 h2 Tryz.func71 Z Z Z fun O hF => ?_)
 have hPL : P.length ≤ L := by have h0 := hF; simp only [As.fact, A.fact, Ms.fact, M.fact, D.fact, Ds.fact, bt, List.map_cons, List.map_nil] at h0; omega
 refine ac (jx O Z (ao ?_))
 refine AOps.to (Ent.freeze 2 (e' := [(2, _), (0, _), (1, _)]) Z (.cons Z (.c (.box (cs := [fL P]) Z (aq Z))) (fe [0,1] Z)) (.skip .nil)) ?_
 refine ao ?_
 refine jf [2,1] Z (jx O Z (ao ?_))
 refine AOps.to (Ent.freeze 3 (e' := [(3, _), (2, _), (1, _)]) Z (.cons Z (.c (.box (cs := a.data) Z (aq Z))) (fe [2,1] Z)) (.skip .nil)) ?_
 refine ao ?_
 refine j3 O Z Z Z (jn (af (ac (js O Z (ae O Z Z Z Z ((sJ (P := P) h1 h2 hPL).plain (u := eB true) (by rw [hp0])) (aa Z) Z Z Z Z Z (B0 := 19000) Z (js O Z (jf [19,6,5,4,3,2,1] Z (jn (ab O Z Z (fun hc19 => ?_) (fun hc19 => ?_))))))))))
 exact absurd hc19 (by decide)
 refine ah (ac (js O Z (jf [21,6,5,4,3,2,1] Z (aI O (B0 := 23000) Z Z Z Z (hI) (aa Z) Z Z Z Z Z Z (ao ?_)))))
 refine j4 O Z Z Z Z (js O Z (jf [8,7,6,5,4,3,2,1] Z (jn (af (ac (j2 O Z Z (jf [26,7,6,5,4,3,2,1] Z (jn (ab O Z Z (fun hc26 => ?_) (fun hc26 => ?_))))))))))
 refine ac (j3 O Z Z Z (jr ?_))
 refine ⟨.inl Z, _, ak, _, Z, ?_⟩
 exact .tup (.cons (.c .nils) (.cons (.c .nils) (.cons (.c .d) .nil)))
 exact absurd hc26 (by decide)
theorem y5 {n m : Nat} : sM (List.replicate (m + 1) (List.replicate n false)) 0 0 = r8 n m := by
 unfold sM r8
 rw [List.replicate_succ, List.set_cons_zero]; rfl
theorem sN {P : ce} (hp0 : dD P = true) (hI : MQ h1 h2 19 [aAn a] [] (Rows (.tup [.c (.rs 0 0 ps.length), eB true]) [aG ps])) (hP : POk P) (hb : ∀ p ∈ ps, PthB a.pts.length p) (hm8 : a.pts.length ≤ 8) (hpl : ps.length ≤ L) : MQ h1 h2 71 [aPol P, aAn a] [] (Plain (.tup [.c (.d (dc ps)), .c (.d (t8 (dd P ps a.pts.length))), eB true])) := by
 refine MC.data (jB 107 h1 h2 Tryz.func71 Z Z Z fun O hF => ?_)
 have hPL : P.length ≤ L := by have h0 := hF; simp only [As.fact, A.fact, Ms.fact, M.fact, D.fact, Ds.fact, bt, List.map_cons, List.map_nil] at h0; omega
 refine ac (jx O Z (ao ?_))
 refine AOps.to (Ent.freeze 2 (e' := [(2, _), (0, _), (1, _)]) Z (.cons Z (.c (.box (cs := [fL P]) Z (aq Z))) (fe [0,1] Z)) (.skip .nil)) ?_
 refine ao ?_
 refine jf [2,1] Z (jx O Z (ao ?_))
 refine AOps.to (Ent.freeze 3 (e' := [(3, _), (2, _), (1, _)]) Z (.cons Z (.c (.box (cs := a.data) Z (aq Z))) (fe [2,1] Z)) (.skip .nil)) ?_
 refine ao ?_
 refine j3 O Z Z Z (jn (af (ac (js O Z (ae O Z Z Z Z ((sJ (P := P) h1 h2 hPL).plain (u := eB true) (by rw [hp0])) (aa Z) Z Z Z Z Z (B0 := 19000) Z (js O Z (jf [19,6,5,4,3,2,1] Z (jn (ab O Z Z (fun hc19 => ?_) (fun hc19 => ?_))))))))))
 exact absurd hc19 (by decide)
 refine ah (ac (js O Z (jf [21,6,5,4,3,2,1] Z (aI O (B0 := 23000) Z Z Z Z (hI) (aa Z) Z Z Z Z Z Z (ao ?_)))))
 refine j4 O Z Z Z Z (js O Z (jf [8,7,6,5,4,3,2,1] Z (jn (af (ac (AOps.to (Ent.freeze 23000 (e' := [(2, _), (3, _), (7, _), (8, _)]) Z (.cons Z (.keep Z) (.cons Z (.keep Z) (.cons Z (.c (.row Z (bt _).symm)) (fe [8] Z)))) (.skip .nil)) ?_))))))
 refine j2 O Z Z (jf [26,2,3,7] Z (jn (ab O Z Z (fun hc26 => ?_) (fun hc26 => ?_))))
 exact absurd hc26 (by decide)
 refine ah (ac (js O Z (jn (af (ac (j2 O Z Z ?_))))))
 first | refine bo O Z ?_ | refine js O Z ?_ | refine aU O Z Z ?_
 obtain ⟨m, hm⟩ : ∃ m, m = a.pts.length := ⟨_, rfl⟩
 rw [← hm] at hb hm8 ⊢
 refine AOps.step ((az O Z Z (by omega) (by omega)).cast (v' := eI ((m + 1 : Nat) : Int)) (congrArg eI (by omega))) Z Z Z (js O Z (jf [31,30,9,2,3,7] Z (jn (am (ap (X := Nat) (fun i => ⟨[(2, pP P), (3, ptr a.data), (7, .c (.d (dc ps))), (9, .c (.rs 900 0 i)), (30, eI ((m + 1 : Nat) : Int)), (31, eI i)], [(900, qK (List.replicate i (List.replicate P.length false)))]⟩) (fun i => i ≤ m + 1) (fun i => m + 1 - i) 0 ((cw 9 900 1 true Z Z).trans (Ent.to (e' := [(2, _), (3, _), (7, _), (9, _), (30, _), (31, _)]) ⟨Z, Z, Z, Z, Z, Z, trivial⟩ Z)) ?_ (fun i hi => ?_))))))
 exact cm _
 refine ac (js O Z (jn (af (ab O Z Z (fun hc32 => ?_) (fun hc32 => ?_)))))
 refine ah (af (am (aj (j3 O Z Z Z ?_))))
 first | refine bo O Z ?_ | refine js O Z ?_ | refine aU O Z Z ?_
 refine jf [36,33,32,2,3,7,9,30,31] Z (AOps.heap (cd O Z Z Z Z Z Z Z Z Z (by first | omega | (simp at *; omega)) (by first | omega | (simp at *; omega)) (by first | omega | (simp at *; omega)) (by first | omega | (dsimp only; omega) | (simp only [aN] at *; omega)) (by first | omega | (simp at *; omega)) Z Z Z) Z (ao ?_))
 refine jf [37,33,32,2,3,7,9,30,31] Z (AOps.to (aw [900,37] (e' := [(33, _), (2, _), (3, _), (7, _), (30, _), (31, _), (37, _)]) Z Z ⟨Z, Z, Z, Z, Z, Z, Z, trivial⟩ Z) (AOps.heap (ii (ds := [.slc 1 (List.replicate P.length [.bool false])]) O Z Z Z Z Z Z Z Z Z Z (.rs Z (by simp) .nil) Z Z Z) Z (ao ?_)))
 refine ao ?_
 refine jf [38,33,2,3,7,30,31] Z ?_
 have him : i < m + 1 := by have := aR hc32; omega
 refine AOps.heap (bj (zs := (List.replicate (i + 1) (List.replicate P.length false)).map m7) (n := i + 1) O Z Z Z Z Z Z Z Z Z Z Z Z Z Z Z Z (.row Z (by simp)) Z Z (by decide) Z (by simp; omega) (by simp; omega) (by rw [List.replicate_succ', List.map_append]; simp [bL]) (by simp)) Z (ao ?_)
 refine ao ?_
 refine js O Z (jf [9,2,3,7,30,31] Z (jn (aj ?_)))
 first | refine ji O Z ?_ | refine aU O Z Z ?_
 refine js O Z (jn ?_)
 refine ⟨i + 1, ((aw [39] (e' := [(2, _), (3, _), (7, _), (9, _), (30, _), (31, _)]) Z Z ⟨Z, Z, Z, Z, Z, Z, trivial⟩ Z).trans (ag 39 900 Z Z)).trans (Ent.to ⟨Z, Z, Z, Z, Z, Z, trivial⟩ Z), by omega, by omega⟩
 refine aQ (ac ?_)
 have him : m + 1 = i := by have := bn hc32; omega
 subst him
 have hp1 := hP.lo
 have hz0 : 0 < (List.replicate (m + 1) (List.replicate P.length false)).length := by simp
 have hz1 : ((List.replicate (m + 1) (List.replicate P.length false)).getD 0 default).length = P.length := by rw [ar hz0]; simp
 refine js O Z (AOps.step (aO O Z Z (by omega)) Z Z Z (AOps.step (av O (ex := m7 ((List.replicate (m + 1) (List.replicate P.length false)).getD 0 default)) Z Z Z Z (i5 hz0) Z) Z Z Z (jG O (n := 0) (ex := m7 ((List.replicate (m + 1) (List.replicate P.length false)).getD 0 default)) (ys := ((List.replicate (m + 1) (List.replicate P.length false)).getD 0 default).map bL) (xs' := (r8 P.length m).map m7) Z Z Z Z Z Z Z Z Z Z Z Z Z Z Z Z Z Z Z Z Z (i5 hz0) Z (by rw [bt]; exact (by rw [hz1]; omega)) (by rw [← y5]; exact tu hz0 (by rw [hz1]; omega)) (ao ?_))))
 refine jf [44,32,2,3,7,9,30,31] Z (ao ?_)
 refine jn (af (ac (js O Z (jn (am (ap (X := Mx × Bool) (fun y => ⟨[(2, pP P), (7, .c (.d (dc ps))), (9, .c (.rs 900 0 (m + 1))), (10, eB y.2)], [(900, qK y.1)]⟩) (fun y => UI P ps m y.1 ∧ (y.2 = false → y.1 = dd P ps m)) (fun y => 2 * cM y.1 + (bif y.2 then 1 else 0)) (r8 P.length m, true) (Ent.to ⟨Z, Z, Z, Z, trivial⟩ Z) ?_ (fun y hy => ?_)))))))
 exact ⟨s4 hP, fun h => by cases h⟩
 refine af (ac (js O Z (jn (ab O Z Z (fun hc45 => ?_) (fun hc45 => ?_)))))
 refine ah (am (ac (js O Z (aP (js O Z ?_)))))
 first | refine bo O Z ?_ | refine js O Z ?_ | refine aU O Z Z ?_
 refine js O Z (jn (am (ap (X := Nat × Mx × Bool) (fun x => ⟨[(2, pP P), (7, .c (.d (dc ps))), (9, .c (.rs 900 0 (m + 1))), (10, eB x.2.2), (46, .c (.d (dc ps))), (47, eI ps.length), (48, eI x.1)], [(900, qK x.2.1)]⟩) (fun x => x.1 ≤ ps.length ∧ Ps1 P ps m y.1 x.2.1 x.2.2 x.1) (fun x => ps.length - x.1) (0, y.1, false) (Ent.to ⟨Z, Z, Z, Z, Z, Z, Z, trivial⟩ Z) ?_ (fun x hx => ?_))))
 exact ⟨cm _, Ps1.zero hy.1⟩
 refine ac (js O Z (jn (af (ab O Z Z (fun hc49 => ?_) (fun hc49 => ?_)))))
 refine ah (af (am (ac ?_)))
 have hxl : x.1 < ps.length := by have := aR hc49; omega
 have hpm : ps.getD x.1 default ∈ ps := by rw [ar hxl]; exact List.getElem_mem hxl
 have hpb := hb _ hpm
 obtain ⟨p, hp⟩ : ∃ p, p = ps.getD x.1 default := ⟨_, rfl⟩
 rw [← hp] at hpb
 have hpf := hpb.frm
 have hpt := hpb.to
 have hev := hpb.len
 have hul := hx.2.ui.len
 obtain ⟨f, hf⟩ : ∃ f : Nat, f = (p.frm + 1).toNat := ⟨_, rfl⟩
 have hfl : f < x.2.1.length := by omega
 have hur : (x.2.1.getD f default).length = P.length := hx.2.ui.rl (by omega)
 refine AOps.step ((aL O Z Z Z Z Z Z Z Z (cB hxl)).cast (v' := ptr (Pth.cells p)) (by rw [hp])) Z Z Z (js O Z (jf [51,49,2,7,9,10,46,47,48] Z (jl O Z (ao ?_))))
 refine jo O Z (ao ?_)
 refine AOps.to (Ent.freeze 12 (e' := [(12, _), (2, _), (7, _), (9, _), (10, _), (46, _), (47, _), (48, _)]) Z (.cons Z (.c (.box (cs := Pth.cells p) Z (aq Z))) (fe [2,7,9,10,46,47,48] Z)) (.skip (.cons Z .row .nil))) ?_
 refine ao ?_
 refine jn (af (ac (j3 O Z Z Z (jf [54,12,2,7,9,10,46,47,48] Z (jn (ab O Z Z (fun hc54 => ?_) (fun hc54 => ?_)))))))
 refine aQ (aj ?_)
 first | refine ji O Z ?_ | refine aU O Z Z ?_
 refine js O Z (jn ?_)
 have hps := hx.2.skip hxl (by rw [← hp]; have := aR hc54; omega)
 refine ⟨(x.1 + 1, x.2.1, x.2.2), Ent.to ⟨Z, Z, Z, Z, Z, Z, Z, trivial⟩ Z, ⟨by show x.1 + 1 ≤ ps.length; omega, hps⟩, by show ps.length - (x.1 + 1) < ps.length - x.1; omega⟩
 refine ah (ac (j3 O Z Z Z (AOps.step ((az O Z Z (by omega) (by omega)).cast (v' := eI ((f : Nat) : Int)) (congrArg eI (by omega))) Z Z Z (AOps.step (aO O Z Z (by omega)) Z Z Z (AOps.step (av O (ex := m7 (x.2.1.getD f default)) Z Z Z Z (i5 hfl) Z) Z Z Z (AOps.step ((rV O Z Z Z Z Z Z Z (i5 hfl) Z Z Z).cast (v' := eI P.length) (congrArg eI (by rw [bt, hur]))) Z Z Z (js O Z (jf [62,61,60,54,12,2,7,9,10,46,47,48] Z (jn (am (ap (X := Nat × Mx × Bool) (fun z => ⟨[(2, pP P), (7, .c (.d (dc ps))), (9, .c (.rs 900 0 (m + 1))), (10, eB z.2.2), (12, ptr (Pth.cells p)), (46, .c (.d (dc ps))), (47, eI ps.length), (48, eI x.1), (60, .c (.rp 900 (0 + ((f : Nat) : Int).toNat) 0)), (61, eI P.length), (62, eI z.1)], [(900, qK z.2.1)]⟩) (fun z => z.1 ≤ P.length ∧ Ps2 P ps m y.1 z.2.1 z.2.2 x.1 (fun q => q < z.1)) (fun z => P.length - z.1) (0, x.2.1, x.2.2) (Ent.to ⟨Z, Z, Z, Z, Z, Z, Z, Z, Z, Z, Z, trivial⟩ Z) ?_ (fun z hz => ?_))))))))))))
 exact ⟨cm _, hx.2.into (fun q h => absurd h (Nat.not_lt_zero _))⟩
 refine ac (js O Z (jn (af (ab O Z Z (fun hc63 => ?_) (fun hc63 => ?_)))))
 refine ah (af (am (ac ?_)))
 have hzl : z.1 < P.length := by have := aR hc63; omega
 have hzu := hz.2.ps1.ui.len
 have hzf : f < z.2.1.length := by omega
 have hzr : (z.2.1.getD f default).length = P.length := hz.2.ps1.ui.rl (by omega)
 refine js O Z (kH O (n := z.1) (ex := m7 (z.2.1.getD f default)) (ys := (z.2.1.getD f default).map bL) (z := .bool (gM z.2.1 f z.1)) Z Z Z Z Z Z Z (.inl Z) Z Z Z Z Z Z Z Z Z Z Z (i5 hzf) Z (wa (by rw [hzr]; exact hzl)) (j2 O Z Z (jf [14,13,63,2,7,9,10,12,46,47,48,60,61,62] Z (jn (af (ac (j2 O Z Z (jf [68,13,63,2,7,9,10,12,46,47,48,60,61,62] Z (jn (ab O Z Z (fun hc68 => ?_) (fun hc68 => ?_)))))))))))
 refine aQ (aj ?_)
 first | refine ji O Z ?_ | refine aU O Z Z ?_
 refine js O Z (jn ?_)
 have hK : ∀ j, j < z.1 + 1 → j < z.1 ∨ j = z.1 := fun j hj => by omega
 refine ⟨(z.1 + 1, z.2.1, z.2.2), Ent.to ⟨rfl, rfl, rfl, rfl, rfl, rfl, rfl, rfl, rfl, rfl, rfl, trivial⟩ rfl, ⟨by show z.1 + 1 ≤ P.length; omega, hz.2.pass (q := z.1) hK (fun _ hg _ => by rw [← hp, ← hf, show gM z.2.1 f z.1 = false from jQ hc68] at hg; cases hg)⟩, by show P.length - (z.1 + 1) < P.length - z.1; omega⟩
 refine ah (ac (j4 O Z Z Z Z (jf [73,71,70,68,63,2,7,9,10,12,46,47,48,60,61,62] Z (ax O Z Z Z Z (vL (P := P) (q := z.1) (es := p.ev) h1 h2 hP hzl hpb.ev (by omega)) (aa Z) Z Z Z Z (B0 := 75000) Z Z (j4 O Z Z Z Z (js O Z (jf [16,15,68,63,2,7,9,10,12,46,47,48,60,61,62] Z (aP (j3 O Z Z Z ?_)))))))))
 first | refine bo O Z ?_ | refine js O Z ?_ | refine aU O Z Z ?_
 refine jf [80,77,16,68,63,2,7,9,10,12,46,47,48,60,61,62] Z (ae O Z Z Z Z (rB (n := (p.ev.length : Int)) h1 h2) (aa Z) Z Z Z Z Z (B0 := 82000) Z (AOps.step ((V O Z).cast (v' := eB (xO p P z.1)) (congrArg eB ra)) Z Z Z (js O Z ?_)))
 cases hb84 : xO p P z.1 with
 | true =>
  have hse : (bP P z.1 p.ev).1 = p.ev.length := aR hb84
  have ht0 : 0 ≤ p.to := by have := bn hc54; omega
  have hrl := i7 hP hzl hpb.ev
  obtain ⟨t, ht⟩ : ∃ t : Nat, t = (p.to + 1).toNat := ⟨_, rfl⟩
  have htl : t < z.2.1.length := by omega
  have htr : (z.2.1.getD t default).length = P.length := hz.2.ps1.ui.rl (by omega)
  refine jf [83,16,68,63,2,7,9,10,12,46,47,48,60,61,62] Z (bz Z (js O Z (bz Z (js O Z (bz Z (js O Z (jf [86,84,83,16,68,63,2,7,9,10,12,46,47,48,60,61,62] Z (bz Z (AOps.step ((az O Z Z (by omega) (by omega)).cast (v' := eI ((t : Nat) : Int)) (congrArg eI (by omega))) Z Z Z (jf [87,84,83,16,68,63,2,7,9,10,12,46,47,48,60,61,62] Z (bz Z (AOps.step (aO O Z Z (by omega)) Z Z Z (jf [88,83,16,68,63,2,7,9,10,12,46,47,48,60,61,62] Z (bz Z (AOps.step (av O (ex := m7 (z.2.1.getD t default)) Z Z Z Z (i5 htl) Z) Z Z Z (jf [89,83,16,68,63,2,7,9,10,12,46,47,48,60,61,62] Z (bz Z (js O Z (bz Z (kH O (n := (bP P z.1 p.ev).2) (ex := m7 (z.2.1.getD t default)) (ys := (z.2.1.getD t default).map bL) (z := .bool (gM z.2.1 t (bP P z.1 p.ev).2)) Z Z Z Z Z Z Z (.inr ⟨_, _, _, _, Z, Z, Z, Z⟩) Z Z Z Z Z Z Z Z Z Z Z (i5 htl) Z (wa (by rw [htr]; exact hrl.1)) (jf [92,83,16,68,63,2,7,9,10,12,46,47,48,60,61,62] Z (bz Z (js O Z (AOps.step (ba O Z Z Z Z Z) Z Z Z (jf [94,16,68,63,2,7,9,10,12,46,47,48,60,61,62] Z (jn (ab O Z Z (fun hc94 => ?_) (fun hc94 => ?_))))))))))))))))))))))))))))
  refine aj (j3 O Z Z Z (AOps.step ((az O Z Z (by omega) (by omega)).cast (v' := eI ((t : Nat) : Int)) (congrArg eI (by omega))) Z Z Z (AOps.step (aO O Z Z (by omega)) Z Z Z (AOps.step (av O (ex := m7 (z.2.1.getD t default)) Z Z Z Z (i5 htl) Z) Z Z Z (js O Z ?_)))))
  have hgf : gM z.2.1 t (bP P z.1 p.ev).2 = false := jQ hc94
  refine jG O (n := (bP P z.1 p.ev).2) (ex := m7 (z.2.1.getD t default)) (ys := (z.2.1.getD t default).map bL) (xs' := (sM z.2.1 t (bP P z.1 p.ev).2).map m7) Z Z Z Z Z Z Z Z Z Z Z Z Z Z Z Z Z Z Z Z Z (i5 htl) Z (by rw [bt]; exact (by rw [htr]; exact hrl.1)) (tu htl (by rw [htr]; exact hrl.1)) (ao ?_)
  refine jf [102,94,16,68,63,2,7,9,10,12,46,47,48,60,61,62] Z (ao ?_)
  refine js O Z (jn (aj ?_))
  first | refine ji O Z ?_ | refine aU O Z Z ?_
  refine js O Z (jn ?_)
  have hgr : gM z.2.1 f z.1 = true := gi hc68
  have h9 := hz.2.grow (K' := fun q => q < z.1 + 1) (q := z.1) hP hxl (by rw [← hp]; exact hpb) hzl (by rw [← hp]; exact ht0) (by rw [← hp, ← hf]; exact hz.2.ps1.ui.sub f z.1 hgr) (by rw [← hp]; exact hse) (by rw [← hp, ← ht]; exact hgf)
  rw [← hp, ← ht] at h9
  refine ⟨(z.1 + 1, sM z.2.1 t (bP P z.1 p.ev).2, true), Ent.to ⟨Z, Z, Z, Z, Z, Z, Z, Z, Z, Z, Z, trivial⟩ Z, ⟨by show z.1 + 1 ≤ P.length; omega, h9⟩, by show P.length - (z.1 + 1) < P.length - z.1; omega⟩
  refine ah (aj ?_)
  first | refine ji O Z ?_ | refine aU O Z Z ?_
  refine js O Z (jn ?_)
  have hK : ∀ j, j < z.1 + 1 → j < z.1 ∨ j = z.1 := fun j hj => by omega
  refine ⟨(z.1 + 1, z.2.1, z.2.2), Ent.to ⟨Z, Z, Z, Z, Z, Z, Z, Z, Z, Z, Z, trivial⟩ Z, ⟨by show z.1 + 1 ≤ P.length; omega, hz.2.pass (q := z.1) hK (fun _ _ _ => by rw [← hp, ← ht]; exact gi hc94)⟩, by show P.length - (z.1 + 1) < P.length - z.1; omega⟩
 | false =>
  refine jf [83,16,68,63,2,7,9,10,12,46,47,48,60,61,62] Z (AOps.skip Z Z Z Z Z Z (AOps.skip Z Z Z Z Z Z (AOps.skip Z Z Z Z Z Z (jf [86,84,83,16,68,63,2,7,9,10,12,46,47,48,60,61,62] Z (AOps.skip Z Z Z Z Z Z (jf [87,84,83,16,68,63,2,7,9,10,12,46,47,48,60,61,62] Z (AOps.skip Z Z Z Z Z Z (jf [88,83,16,68,63,2,7,9,10,12,46,47,48,60,61,62] Z (AOps.skip Z Z Z Z Z Z (jf [89,83,16,68,63,2,7,9,10,12,46,47,48,60,61,62] Z (AOps.skip Z Z Z Z Z Z (AOps.skip Z Z Z Z Z Z (jf [91,83,16,68,63,2,7,9,10,12,46,47,48,60,61,62] Z (AOps.skip Z Z Z Z Z Z (jf [92,83,16,68,63,2,7,9,10,12,46,47,48,60,61,62] Z (AOps.skip Z Z Z Z Z Z (AOps.step (aF O Z Z Z Z Z) Z Z Z (jf [94,16,68,63,2,7,9,10,12,46,47,48,60,61,62] Z (jn (ab O Z Z (fun hc94 => ?_) (fun hc94 => ?_)))))))))))))))))))))
  exact absurd hc94 (by decide)
  refine ah (aj ?_)
  first | refine ji O Z ?_ | refine aU O Z Z ?_
  refine js O Z (jn ?_)
  have hK : ∀ j, j < z.1 + 1 → j < z.1 ∨ j = z.1 := fun j hj => by omega
  refine ⟨(z.1 + 1, z.2.1, z.2.2), Ent.to ⟨Z, Z, Z, Z, Z, Z, Z, Z, Z, Z, Z, trivial⟩ Z, ⟨by show z.1 + 1 ≤ P.length; omega, hz.2.pass (q := z.1) hK (fun _ _ hl => by rw [← hp] at hl; exact absurd hl (bn hb84))⟩, by show P.length - (z.1 + 1) < P.length - z.1; omega⟩
 refine aQ (aj ?_)
 first | refine ji O Z ?_ | refine aU O Z Z ?_
 refine js O Z (jn ?_)
 have hzu := hz.2.ps1.ui.len
 have hzr : (z.2.1.getD f default).length = P.length := hz.2.ps1.ui.rl (by omega)
 have hps : Ps1 P ps m y.1 z.2.1 z.2.2 (x.1 + 1) := hz.2.out hxl fun hg q hq => by
  rw [← hp, ← hf] at hq
  have h8 := ta hq
  have h9 := bn hc63
  omega
 refine ⟨(x.1 + 1, z.2.1, z.2.2), Ent.to ⟨Z, Z, Z, Z, Z, Z, Z, trivial⟩ Z, ⟨by show x.1 + 1 ≤ ps.length; omega, hps⟩, by show ps.length - (x.1 + 1) < ps.length - x.1; omega⟩
 refine aQ ?_
 refine ⟨(x.2.1, x.2.2), Ent.to ⟨Z, Z, Z, Z, trivial⟩ Z, ⟨hx.2.ui, fun hg => ?_⟩, ?_⟩
 have h9 := hx.2; rw [show x.2.2 = false from hg] at h9; exact h9.done (by have := bn hc49; omega)
 show 2 * cM x.2.1 + (bif x.2.2 then 1 else 0) < 2 * cM y.1 + (bif y.2 then 1 else 0)
 have hle := hx.2.le
 have hlt := hx.2.lt
 rw [show y.2 = true from hc45]
 cases hg : x.2.2 with
 | true => have := hlt hg; show 2 * cM x.2.1 + 1 < 2 * cM y.1 + 1; omega
 | false => show 2 * cM x.2.1 + 0 < 2 * cM y.1 + 1; omega
 refine aQ (ac ?_)
 rw [hy.2 hc45]
 refine j4 O Z Z Z Z (js O Z (jf [6,5,4,45,2,7,9,10] Z (jr ?_)))
 refine ⟨.inl Z, _, ak, _, Z, ?_⟩
 exact .tup (.cons (.c .d) (.cons (.c (.whole Z (by rw [bt, fU]))) (.cons (.c .d) .nil)))
theorem mE {P : ce} {p : Pth} {u : List Bool} {k : Nat} (hk : k < P.length) : i3 P p u (P.length - k) k = if u.getD k default = true ∧ kJ P p k = true then some k else i3 P p u (P.length - (k + 1)) (k + 1) := by
 rw [show P.length - k = (P.length - (k + 1)) + 1 by omega, i3]
theorem qO {U : Mx} {i : Nat} (h : i < U.length) : (iY U).take (i + 1) = (iY U).take i ++ [cV (U.getD i default) (U.getD i default).length] := by
 rw [List.take_succ_eq_append_getElem (by rw [jV]; exact h), ar h]
 simp [iY]
theorem j6 {P : ce} (hS : MQ h1 h2 71 [aPol P, aAn a] [] (Plain (.tup [.c (.d (dc [])), .c (.d (t8 [])), eB false]))) : MQ h1 h2 68 [aPol P, aAn a] [] (Plain (.tup [eI (-1), eI 0, eB false])) := by
 refine jB 65 h1 h2 Tryz.func68 Z Z Z fun O hF => ?_
 refine ac (jx O Z (ao ?_))
 refine AOps.to (Ent.freeze 2 (e' := [(2, _), (0, _), (1, _)]) Z (.cons Z (.c (.box (cs := [fL P]) Z (aq Z))) (fe [0,1] Z)) (.skip .nil)) ?_
 refine ao ?_
 refine jf [2,1] Z (jx O Z (ao ?_))
 refine AOps.to (Ent.freeze 3 (e' := [(3, _), (2, _), (1, _)]) Z (.cons Z (.c (.box (cs := a.data) Z (aq Z))) (fe [2,1] Z)) (.skip .nil)) ?_
 refine ao ?_
 refine j3 O Z Z Z (aP (j2 O Z Z (jf [18,17,6,5,4,2,1] Z (ax O Z Z Z Z (hS) (aa Z) Z Z Z Z (B0 := 20000) Z Z (j4 O Z Z Z Z (j3 O Z Z Z (jf [9,8,7,6,5,4,2,1] Z (jn (af (ac (j2 O Z Z (jf [24,8,7,6,5,4,2,1] Z (jn (ab O Z Z (fun hc24 => ?_) (fun hc24 => ?_)))))))))))))))
 refine ac (j3 O Z Z Z (jr ?_))
 refine ⟨.inl Z, _, ak, _, Z, ?_⟩
 exact ⟨Z, Z⟩
 exact absurd hc24 (by decide)
theorem vQ {P : ce} (hS : MQ h1 h2 71 [aPol P, aAn a] [] (Plain (.tup [.c (.d (dc ps)), .c (.d (t8 (dd P ps m))), eB true]))) (hP : POk P) (hb : ∀ p ∈ ps, PthB m p) (hm : m ≤ 8) (hpl0 : ps.length ≤ L) : MQ h1 h2 68 [aPol P, aAn a] [] (Plain (.tup [eI (rA (gh P (dd P ps m) 0 ps)), eI (wk (gh P (dd P ps m) 0 ps)), eB true])) := by
 refine jB 65 h1 h2 Tryz.func68 Z Z Z fun O hF => ?_
 have hpl : ps.length ≤ 1073741824 := by omega
 refine ac (jx O Z (ao ?_))
 refine AOps.to (Ent.freeze 2 (e' := [(2, _), (0, _), (1, _)]) Z (.cons Z (.c (.box (cs := [fL P]) Z (aq Z))) (fe [0,1] Z)) (.skip .nil)) ?_
 refine ao ?_
 refine jf [2,1] Z (jx O Z (ao ?_))
 refine AOps.to (Ent.freeze 3 (e' := [(3, _), (2, _), (1, _)]) Z (.cons Z (.c (.box (cs := a.data) Z (aq Z))) (fe [2,1] Z)) (.skip .nil)) ?_
 refine ao ?_
 refine j3 O Z Z Z (aP (j2 O Z Z (jf [18,17,6,5,4,2,1] Z (ax O Z Z Z Z (hS) (aa Z) Z Z Z Z (B0 := 20000) Z Z (j4 O Z Z Z Z (j3 O Z Z Z (jf [9,8,7,6,5,4,2,1] Z (jn (af (ac (j2 O Z Z (jf [24,8,7,6,5,4,2,1] Z (jn (ab O Z Z (fun hc24 => ?_) (fun hc24 => ?_)))))))))))))))
 exact absurd hc24 (by decide)
 refine ah (af (ac (js O Z ?_)))
 first | refine bo O Z ?_ | refine js O Z ?_ | refine aU O Z Z ?_
 refine js O Z (jf [27,26,25,8,6,5,4,2,1] Z (jn (am ?_)))
 obtain ⟨U, hU⟩ : ∃ U, U = dd P ps m := ⟨_, rfl⟩
 have hUl : U.length = m + 1 := by rw [hU]; exact fU
 have hUr : ∀ i, i ≤ m → (U.getD i default).length = P.length := fun i hi => by rw [hU]; exact ns hi
 rw [← hU]
 refine ap (X := Nat) (fun i => ⟨[(2, pP P), (8, .c (.d (t8 U))), (25, .c (.d (dc ps))), (26, eI ps.length), (27, eI i)], []⟩) (fun i => i ≤ ps.length ∧ gh P U 0 ps = gh P U i (ps.drop i)) (fun i => ps.length - i) 0 (Ent.to ⟨Z, Z, Z, Z, Z, trivial⟩ Z) ?_ (fun i hi => ?_)
 exact ⟨cm _, Z⟩
 refine ac (js O Z (jn (af (ab O Z Z (fun hc28 => ?_) (fun hc28 => ?_)))))
 refine ah (af (am (ac (js O Z ?_))))
 have hil : i < ps.length := by have := aR hc28; omega
 have hpm : ps.getD i default ∈ ps := by rw [ar hil]; exact List.getElem_mem hil
 have hpb := hb _ hpm
 obtain ⟨p, hp⟩ : ∃ p, p = ps.getD i default := ⟨_, rfl⟩
 rw [← hp] at hpb
 have hpf := hpb.frm
 have hev := hpb.len
 obtain ⟨f, hf⟩ : ∃ f : Nat, f = (p.frm + 1).toNat := ⟨_, rfl⟩
 have hfl : f < U.length := by omega
 obtain ⟨u, hu⟩ : ∃ u, u = U.getD f default := ⟨_, rfl⟩
 have hur : u.length = P.length := by rw [hu]; exact hUr f (by omega)
 refine AOps.step ((aL O Z Z Z Z Z Z Z Z (cB hil)).cast (v' := ptr (Pth.cells p)) (by rw [hp])) Z Z Z (js O Z (jf [31,29,28,2,8,25,26,27] Z (jl O Z (ao ?_))))
 refine js O Z (jf [10,11,31,28,2,8,25,26,27] Z (jo O Z (ao ?_)))
 refine AOps.to (Ent.freeze 11 (e' := [(11, _), (2, _), (8, _), (10, _), (25, _), (26, _), (27, _)]) Z (.cons Z (.c (.box (cs := Pth.cells p) Z (aq Z))) (fe [2,8,10,25,26,27] Z)) (.skip .nil)) ?_
 refine ao ?_
 refine aP (j3 O Z Z Z (AOps.step ((az O Z Z (by omega) (by omega)).cast (v' := eI ((f : Nat) : Int)) (congrArg eI (by omega))) Z Z Z (AOps.step ((aL O Z Z Z Z Z Z Z Z (cB hfl)).cast (v' := ptr (m7 u)) (by rw [hu])) Z Z Z (js O Z (AOps.step ((bZ O Z Z Z Z Z Z Z Z).cast (v' := eI P.length) (congrArg eI (by rw [hur]))) Z Z Z (js O Z (jf [39,38,37,11,2,8,10,25,26,27] Z (jn (am (ap (X := Nat) (fun k => ⟨[(2, pP P), (8, .c (.d (t8 U))), (10, eI i), (11, ptr (Pth.cells p)), (25, .c (.d (dc ps))), (26, eI ps.length), (27, eI i), (37, wr u), (38, eI P.length), (39, eI k)], []⟩) (fun k => k ≤ P.length ∧ i3 P p u P.length 0 = i3 P p u (P.length - k) k) (fun k => P.length - k) 0 (Ent.to ⟨Z, Z, Z, Z, Z, Z, Z, Z, Z, Z, trivial⟩ Z) ?_ (fun k hk => ?_)))))))))))
 exact ⟨cm _, Z⟩
 refine ac (js O Z (jn (af (ab O Z Z (fun hc40 => ?_) (fun hc40 => ?_)))))
 refine ah (af (am (ac ?_)))
 have hkl : k < P.length := by have := aR hc40; omega
 have hp12 := hP.hi
 refine js O Z (AOps.step (aL O Z Z Z Z Z Z Z Z (cB (by omega))) Z Z Z (j3 O Z Z Z (jf [13,12,40,2,8,10,11,25,26,27,37,38,39] Z (aP (j4 O Z Z Z Z (jf [48,46,45,13,12,40,2,8,10,11,25,26,27,37,38,39] Z (ax O Z Z Z Z (vL (P := P) (q := k) (es := p.ev) h1 h2 hP hkl hpb.ev (by omega)) (aa Z) Z Z Z Z (B0 := 50000) Z Z (j4 O Z Z Z Z (js O Z (jf [14,13,12,40,2,8,10,11,25,26,27,37,38,39] Z (aP (j2 O Z Z (jf [53,14,12,40,2,8,10,11,25,26,27,37,38,39] Z (aS 6 Z Z Z (fun hx => AN.step hx Z Z Z (V O Z) Z Z ( AN.step hx Z Z Z (V O Z) Z Z ( AN.step hx Z Z Z (V O Z) Z Z ( AN.step hx Z Z Z (bZ O Z Z Z Z Z Z Z Z) Z Z ( dI O hx Z Z Z Z (rB (n := (p.ev.length : Int)) h1 h2) (aa Z) Z Z Z Z Z Z Z (B0 := 59000) Z ( AN.step hx Z Z Z (V O Z) Z Z ( AN.nil))))))) Z Z ?_))))))))))))))
 first | refine AOps.step (aM O Z Z Z Z Z) Z Z Z ?_ | refine AOps.step (aK O Z Z Z Z Z) Z Z Z ?_ | refine AOps.step (Val.pickB O Z Z Z Z Z) Z Z Z ?_
 refine jf [60,12,40,2,8,10,11,25,26,27,37,38,39] Z (jn (ab O Z Z (fun hc60 => ?_) (fun hc60 => ?_)))
 refine ac (j4 O Z Z Z Z (js O Z (jf [6,5,4,60,12,40,2,8,10,11,25,26,27,37,38,39] Z (jr ?_))))
 refine ⟨.inl Z, _, ak, _, Z, ?_⟩
 refine ⟨?_, Z⟩
 obtain ⟨h8, h9⟩ := sP hc60
 rw [hi.2, hJ hil, ← hp, ← hf, ← hu, hk.2, mE hkl, if_pos ⟨h8, by rw [← lL]; exact h9⟩]
 rfl
 refine ah (aj ?_)
 first | refine ji O Z ?_ | refine aU O Z Z ?_
 refine js O Z (jn ?_)
 have hno : ¬ (u.getD k default = true ∧ kJ P p k = true) := fun hh => by
  rcases wb hc60 with h9 | h9
  ·
   have h8 := hh.1; rw [h9] at h8; cases h8
  ·
   have h8 := hh.2; rw [← lL] at h8; rw [h9] at h8; cases h8
 refine ⟨k + 1, Ent.to ⟨Z, Z, Z, Z, Z, Z, Z, Z, Z, Z, trivial⟩ Z, ⟨by omega, ?_⟩, by omega⟩
 rw [hk.2, mE hkl, if_neg hno]
 refine aQ (aj ?_)
 first | refine ji O Z ?_ | refine aU O Z Z ?_
 refine js O Z (jn ?_)
 have hnn : i3 P p u P.length 0 = none := by rw [hk.2, show P.length - k = 0 by have := bn hc40; omega]; rfl
 refine ⟨i + 1, Ent.to ⟨Z, Z, Z, Z, Z, trivial⟩ Z, ⟨by omega, ?_⟩, by omega⟩
 rw [hi.2, hJ hil, ← hp, ← hf, ← hu, hnn]
 refine aQ (ac (j3 O Z Z Z (jr ?_)))
 refine ⟨.inl Z, _, ak, _, Z, ?_⟩
 refine ⟨?_, Z⟩
 rw [hi.2, oo (by have := bn hc28; omega)]
 rfl
variable {x y : Int}
theorem qH {P : ce} {z : Bool} (h58 : MQ h1 h2 68 [aPol P, aAn a] [] (Plain (.tup [eI x, eI y, eB z]))) : MQ h1 h2 28 [aPol P, aAn a] [] (Plain (.tup [eB (bif z then decide (x < 0) else false), eB z])) := by
 refine jB 22 h1 h2 Tryz.func28 Z Z Z fun O hF => ?_
 refine ac (jx O Z (ao ?_))
 refine AOps.to (Ent.freeze 2 (e' := [(2, _), (0, _), (1, _)]) Z (.cons Z (.c (.box (cs := [fL P]) Z (aq Z))) (fe [0,1] Z)) (.skip .nil)) ?_
 refine ao ?_
 refine jf [2,1] Z (jx O Z (ao ?_))
 refine AOps.to (Ent.freeze 3 (e' := [(3, _), (2, _), (1, _)]) Z (.cons Z (.c (.box (cs := a.data) Z (aq Z))) (fe [2,1] Z)) (.skip .nil)) ?_
 refine ao ?_
 refine j2 O Z Z (aP (j2 O Z Z (jf [11,10,5,4,1] Z (ax O Z Z Z Z (h58) (aa Z) Z Z Z Z (B0 := 13000) Z Z (j4 O Z Z Z Z (j3 O Z Z Z (jf [8,6,5,4,1] Z (aP (j2 O Z Z (jf [17,8,6,5,4,1] Z (aS 2 Z Z Z (fun hx => AN.step hx Z Z Z (V O Z) Z Z ( AN.step hx Z Z Z (V O Z) Z Z ( AN.nil))) Z Z ?_)))))))))))
 first | refine AOps.step (aM O Z Z Z Z Z) Z Z Z ?_ | refine AOps.step (aK O Z Z Z Z Z) Z Z Z ?_ | refine AOps.step (Val.pickB O Z Z Z Z Z) Z Z Z ?_
 refine j3 O Z Z Z (jf [5,4,1] Z (jr ?_))
 refine ⟨.inl Z, _, ak, _, Z, ?_⟩
 exact ⟨Z, Z⟩
theorem pu {P : ce} (h58 : MQ h1 h2 68 [aPol P, aAn a] [] (Plain (.tup [eI x, eI y, eB false]))) : MQ h1 h2 31 [aPol P, aAn a] [] (Plain (.tup [eI 0, eI 0, eB false])) := by
 refine jB 25 h1 h2 Tryz.func31 Z Z Z fun O hF => ?_
 refine ac (jx O Z (ao ?_))
 refine AOps.to (Ent.freeze 2 (e' := [(2, _), (0, _), (1, _)]) Z (.cons Z (.c (.box (cs := [fL P]) Z (aq Z))) (fe [0,1] Z)) (.skip .nil)) ?_
 refine ao ?_
 refine jf [2,1] Z (jx O Z (ao ?_))
 refine AOps.to (Ent.freeze 3 (e' := [(3, _), (2, _), (1, _)]) Z (.cons Z (.c (.box (cs := a.data) Z (aq Z))) (fe [2,1] Z)) (.skip .nil)) ?_
 refine ao ?_
 refine j3 O Z Z Z (aP (j2 O Z Z (jf [12,11,6,5,4,1] Z (ax O Z Z Z Z (h58) (aa Z) Z Z Z Z (B0 := 14000) Z Z (j4 O Z Z Z Z (j3 O Z Z Z (jf [9,8,7,6,5,4,1] Z (jn (af (ac (j3 O Z Z Z (jf [19,8,7,6,5,4,1] Z (aS 2 Z Z Z (fun hx => AN.step hx Z Z Z (V O Z) Z Z ( AN.step hx Z Z Z (V O Z) Z Z ( AN.nil))) Z Z ?_)))))))))))))
 first | refine AOps.step (aK O Z Z Z Z Z) Z Z Z ?_ | refine AOps.step (Val.pickB O Z Z Z Z Z) Z Z Z ?_ | refine AOps.step (aM O Z Z Z Z Z) Z Z Z ?_
 refine jf [22,8,7,6,5,4,1] Z (jn (ab O Z Z (fun hc22 => ?_) (fun hc22 => ?_)))
 refine ac (j3 O Z Z Z (jr ?_))
 refine ⟨.inl Z, _, ak, _, Z, ?_⟩
 exact ⟨Z, Z⟩
 exact absurd hc22 (by simp)
theorem zH {P : ce} (h58 : MQ h1 h2 68 [aPol P, aAn a] [] (Plain (.tup [eI x, eI y, eB true]))) : MQ h1 h2 31 [aPol P, aAn a] [] (Plain (if x < 0 then .tup [eI 0, eI 0, eB false] else .tup [eI x, eI y, eB true])) := by
 refine jB 25 h1 h2 Tryz.func31 Z Z Z fun O hF => ?_
 refine ac (jx O Z (ao ?_))
 refine AOps.to (Ent.freeze 2 (e' := [(2, _), (0, _), (1, _)]) Z (.cons Z (.c (.box (cs := [fL P]) Z (aq Z))) (fe [0,1] Z)) (.skip .nil)) ?_
 refine ao ?_
 refine jf [2,1] Z (jx O Z (ao ?_))
 refine AOps.to (Ent.freeze 3 (e' := [(3, _), (2, _), (1, _)]) Z (.cons Z (.c (.box (cs := a.data) Z (aq Z))) (fe [2,1] Z)) (.skip .nil)) ?_
 refine ao ?_
 refine j3 O Z Z Z (aP (j2 O Z Z (jf [12,11,6,5,4,1] Z (ax O Z Z Z Z (h58) (aa Z) Z Z Z Z (B0 := 14000) Z Z (j4 O Z Z Z Z (j3 O Z Z Z (jf [9,8,7,6,5,4,1] Z (jn (af (ac (j3 O Z Z Z (jf [19,8,7,6,5,4,1] Z (aS 2 Z Z Z (fun hx => AN.step hx Z Z Z (V O Z) Z Z ( AN.step hx Z Z Z (V O Z) Z Z ( AN.nil))) Z Z ?_)))))))))))))
 first | refine AOps.step (aK O Z Z Z Z Z) Z Z Z ?_ | refine AOps.step (Val.pickB O Z Z Z Z Z) Z Z Z ?_ | refine AOps.step (aM O Z Z Z Z Z) Z Z Z ?_
 refine jf [22,8,7,6,5,4,1] Z (jn (ab O Z Z (fun hc22 => ?_) (fun hc22 => ?_)))
 refine ac (j3 O Z Z Z (jr ?_))
 refine ⟨.inl Z, _, ak, _, Z, ?_⟩
 refine ⟨?_, Z⟩
 rw [if_pos (show x < 0 from aR hc22)]
 refine ah (ac (j4 O Z Z Z Z (js O Z (jf [6,5,4,7,1] Z (jr ?_)))))
 refine ⟨.inl Z, _, ak, _, Z, ?_⟩
 refine ⟨?_, Z⟩
 rw [if_neg (show ¬ x < 0 from bn hc22)]
theorem pq {P : ce} (hS : MQ h1 h2 71 [aPol P, aAn a] [] (Plain (.tup [.c (.d (dc [])), .c (.d (t8 [])), eB false]))) : MQ h1 h2 33 [aPol P, aAn a] [] (Rows (.tup [.c (.d .nils), eB false]) []) := by
 refine bh (jB 34 h1 h2 Tryz.func33 Z Z Z fun O hF => ?_)
 refine ac (jx O Z (ao ?_))
 refine AOps.to (Ent.freeze 2 (e' := [(2, _), (0, _), (1, _)]) Z (.cons Z (.c (.box (cs := [fL P]) Z (aq Z))) (fe [0,1] Z)) (.skip .nil)) ?_
 refine ao ?_
 refine jf [2,1] Z (jx O Z (ao ?_))
 refine AOps.to (Ent.freeze 3 (e' := [(3, _), (2, _), (1, _)]) Z (.cons Z (.c (.box (cs := a.data) Z (aq Z))) (fe [2,1] Z)) (.skip .nil)) ?_
 refine ao ?_
 refine j2 O Z Z (aP (j2 O Z Z (jf [14,13,5,4,1] Z (ax O Z Z Z Z (hS) (aa Z) Z Z Z Z (B0 := 16000) Z Z (j4 O Z Z Z Z (j3 O Z Z Z (jf [8,7,5,4,1] Z (jn (af (ac (j2 O Z Z (jf [20,7,5,4,1] Z (jn (ab O Z Z (fun hc20 => ?_) (fun hc20 => ?_)))))))))))))))
 refine ac (j2 O Z Z (jr ?_))
 refine ⟨.inl Z, _, ak, _, Z, [], by decide, Z, Z, Z⟩
 exact absurd hc20 (by decide)
theorem zF {P : ce} (hS : MQ h1 h2 71 [aPol P, aAn a] [] (Plain (.tup [.c (.d (dc ps)), .c (.d (t8 (dd P ps m))), eB true]))) (hP : POk P) (hm : m ≤ 8) : MQ h1 h2 33 [aPol P, aAn a] [] (Rows (.tup [.c (.rs 0 0 (iY (dd P ps m)).length), eB true]) [gf (iY (dd P ps m))]) := by
 refine bh (jB 34 h1 h2 Tryz.func33 Z Z Z fun O hF => ?_)
 refine ac (jx O Z (ao ?_))
 refine AOps.to (Ent.freeze 2 (e' := [(2, _), (0, _), (1, _)]) Z (.cons Z (.c (.box (cs := [fL P]) Z (aq Z))) (fe [0,1] Z)) (.skip .nil)) ?_
 refine ao ?_
 refine jf [2,1] Z (jx O Z (ao ?_))
 refine AOps.to (Ent.freeze 3 (e' := [(3, _), (2, _), (1, _)]) Z (.cons Z (.c (.box (cs := a.data) Z (aq Z))) (fe [2,1] Z)) (.skip .nil)) ?_
 refine ao ?_
 refine j2 O Z Z (aP (j2 O Z Z (jf [14,13,5,4,1] Z (ax O Z Z Z Z (hS) (aa Z) Z Z Z Z (B0 := 16000) Z Z (j4 O Z Z Z Z (j3 O Z Z Z (jf [8,7,5,4,1] Z (jn (af (ac (j2 O Z Z (jf [20,7,5,4,1] Z (jn (ab O Z Z (fun hc20 => ?_) (fun hc20 => ?_)))))))))))))))
 exact absurd hc20 (by decide)
 refine ah (ac (js O Z (jn (af (ac (js O Z ?_))))))
 obtain ⟨U, hU⟩ : ∃ U, U = dd P ps m := ⟨_, rfl⟩
 have hUl : U.length = m + 1 := by rw [hU]; exact fU
 have hUr : ∀ i, i ≤ m → (U.getD i default).length = P.length := fun i hi => by rw [hU]; exact ns hi
 rw [← hU]
 refine bo O Z (js O Z (jf [23,22,21,9,5,4,1] Z (jn (am (ap (X := Nat) (fun i => ⟨[(9, .c (.rs 900 0 i)), (21, .c (.d (t8 U))), (22, eI U.length), (23, eI i)], [(900, gf ((iY U).take i))]⟩) (fun i => i ≤ U.length) (fun i => U.length - i) 0 ((cw 9 900 1 true Z Z).trans (Ent.to (e' := [(9, _), (21, _), (22, _), (23, _)]) ⟨Z, Z, Z, Z, trivial⟩ Z)) ?_ (fun i hi => ?_))))))
 exact cm _
 refine ac (js O Z (jn (af (ab O Z Z (fun hc24 => ?_) (fun hc24 => ?_)))))
 refine ah (af (am (ac ?_)))
 have hil : i < U.length := by have := aR hc24; omega
 refine AOps.step (aL O Z Z Z Z Z Z Z Z (cB hil)) Z Z Z (j2 O Z Z (jf [11,24,9,21,22,23] Z (jn (aj (j2 O Z Z (jf [28,27,24,9,21,22,23] Z ?_))))))
 have hur := hUr i (by omega)
 refine aI O (B0 := 30000) Z Z Z Z (zA (u := (U.getD i default)) h1 h2 (by have := hP.hi; omega)) (aa Z) Z Z Z Z Z Z (ao ?_)
 refine jf [29,27,24,9,21,22,23] Z (AOps.to (aw [900,30000] (e' := [(27, _), (21, _), (22, _), (23, _), (29, _)]) Z Z ⟨Z, Z, Z, Z, Z, trivial⟩ Z) (AOps.heap (ii (ds := mC (cV (U.getD i default) (U.getD i default).length)) O Z Z Z Z Z Z Z Z Z Z (.rs Z (bt _).symm .nil) Z Z Z) Z (ao ?_)))
 refine ao ?_
 refine jf [30,27,21,22,23] Z ?_
 have htk : ((iY U).take i).length = i := by rw [List.length_take, jV]; omega
 refine AOps.heap (bj (zs := ((iY U).take (i + 1)).map mC) (n := i + 1) O Z Z Z Z Z Z Z Z Z Z Z Z Z Z Z Z (.row Z (by rw [bt, htk])) Z Z (by decide) Z (by rw [bt, htk]; show i + 1 ≤ L; omega) (by rw [bt, htk]; show (i + 1) * 24 ≤ _; omega) (by rw [qO hil, List.map_append]; rfl) (by rw [bt, qO hil, c9, htk]; rfl)) Z (ao ?_)
 refine ao ?_
 refine js O Z (jf [9,21,22,23] Z (jn (aj ?_)))
 first | refine ji O Z ?_ | refine aU O Z Z ?_
 refine js O Z (jn ?_)
 refine ⟨i + 1, ((aw [31] (e' := [(9, _), (21, _), (22, _), (23, _)]) Z Z ⟨Z, Z, Z, Z, trivial⟩ Z).trans (ag 31 900 Z Z)).trans (Ent.to ⟨Z, Z, Z, Z, trivial⟩ Z), by omega, by omega⟩
 refine aQ (ac (j3 O Z Z Z (jr ?_)))
 have hie : i = U.length := by have := bn hc24; omega
 rw [hie, List.take_of_length_le (by rw [jV]; exact bw _), jV]
 refine ⟨.inl Z, _, ak, _, Z, [900], by decide, Z, Z, Z⟩
end Go.Al
