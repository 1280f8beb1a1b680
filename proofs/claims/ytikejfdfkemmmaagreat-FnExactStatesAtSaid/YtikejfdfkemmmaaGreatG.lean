/- Paths of code, in plain Lean; the reference follows them. -/
import Derived.Test.YtikejfdfkemmmaaGreatF
import Derived.Test.YtikejfdfkemmmaaGreatH
import Derived.Test.YtikejfdfkemmmaaGreatE
import Derived.Test.YtikejfdfkemmmaaGreatC
set_option linter.unusedVariables false
set_option linter.unusedSimpArgs false
set_option maxRecDepth 10000
set_option maxHeartbeats 4000000
open Go.Proofs
namespace Go.Al
variable {L : Nat} (h1 : 4096 ≤ L) (h2 : L ≤ 1073741824)
inductive Gr (e : Nat → List Int) (n : Nat) (st : List Int) : Nat → Prop
  | start {z : Int} : z ∈ st → 0 ≤ z → z < n → Gr e n st z.toNat
  | step {k : Nat} {z : Int} : Gr e n st k → z ∈ e k → 0 ≤ z → z < n → Gr e n st z.toNat
theorem Gr.lt {e : Nat → List Int} {n : Nat} {st : List Int} {k : Nat} (h : Gr e n st k) : k < n := by cases h <;> omega
open Classical in
noncomputable def se (e : Nat → List Int) (n : Nat) (st : List Int) : List Bool := (List.range n).map fun k => decide (Gr e n st k)
theorem fR {e : Nat → List Int} {n : Nat} {st : List Int} : (se e n st).length = n := by simp [se]
theorem kS {e : Nat → List Int} {n : Nat} {st : List Int} {k : Nat} : (se e n st).getD k default = true ↔ Gr e n st k := by
 by_cases h : k < n
 rw [ar (by rw [fR]; exact h)]
 simp [se]
 rw [List.getD_eq_getElem?_getD, List.getElem?_eq_none (by rw [fR]; omega)]
 constructor
 intro g; cases g
 intro g; exact absurd g.lt h
theorem Gr.mono {e e' : Nat → List Int} {n : Nat} {st st' : List Int} (hs : ∀ z ∈ st, 0 ≤ z → z < n → Gr e' n st' z.toNat) (he : ∀ k, Gr e' n st' k → ∀ z ∈ e k, 0 ≤ z → z < n → Gr e' n st' z.toNat) {k : Nat} (h : Gr e n st k) : Gr e' n st' k := by
 induction h with
 | start a b c => exact hs _ a b c
 | step _ a b c ih => exact he _ ih _ a b c
theorem m1 {n : Nat} {u v : List Bool} (hu : u.length = n) (hv : v.length = n) (h : ∀ k, k < n → (u.getD k default = true ↔ v.getD k default = true)) : u = v := by
 refine List.ext_getElem (by rw [hu, hv]) fun k h1 h2 => ?_
 have := h k (by omega)
 rw [ar h1, ar h2] at this
 cases g : u[k] <;> cases g2 : v[k] <;> simp_all
structure GR (e : Nat → List Int) (n : Nat) (st : List Int) (u : List Bool) (ws : List Int) : Prop where
  len : u.length = n
  nn : ∀ z ∈ ws, 0 ≤ z ∧ z < n
  sd : ∀ k, k < n → u.getD k default = true → Gr e n st k
  sw : ∀ z ∈ ws, Gr e n st z.toNat
  cl : ∀ k, k < n → u.getD k default = true → ∀ z ∈ e k, 0 ≤ z → z < n → u.getD z.toNat default = true ∨ z ∈ ws
  cs : ∀ z ∈ st, 0 ≤ z → z < n → u.getD z.toNat default = true ∨ z ∈ ws
theorem nW {n k : Nat} : (List.replicate n false).getD k default = false := by
 rw [List.getD_eq_getElem?_getD, List.getElem?_replicate]; split <;> rfl
theorem GR.zero {e : Nat → List Int} {n : Nat} {st : List Int} (h : ∀ z ∈ st, 0 ≤ z ∧ z < n) : GR e n st (List.replicate n false) st :=
  ⟨List.length_replicate, h, fun k _ hk => (by rw [nW] at hk; cases hk), fun z hz => .start hz (h z hz).1 (h z hz).2, fun k _ hk => (by rw [nW] at hk; cases hk), fun z hz _ _ => .inr hz⟩
theorem GR.out {e : Nat → List Int} {n : Nat} {st : List Int} {u : List Bool} {ws ws' : List Int} {z : Int} (h : GR e n st u ws) (hm : ∀ y, y ∈ ws ↔ y = z ∨ y ∈ ws') (hz : u.getD z.toNat default = true) : GR e n st u ws' := by
 refine ⟨h.len, fun y hy => h.nn y ((hm y).2 (.inr hy)), h.sd, fun y hy => h.sw y ((hm y).2 (.inr hy)), fun k hk hu y hy h0 hl => ?_, fun y hy h0 hl => ?_⟩
 rcases h.cl k hk hu y hy h0 hl with g | g
 exact .inl g
 rcases (hm y).1 g with rfl | g
 exact .inl hz
 exact .inr g
 rcases h.cs y hy h0 hl with g | g
 exact .inl g
 rcases (hm y).1 g with rfl | g
 exact .inl hz
 exact .inr g
theorem GR.into {e : Nat → List Int} {n : Nat} {st : List Int} {u : List Bool} {ws ws' : List Int} {z : Int} (he : ∀ k, k < n → ∀ y ∈ e k, 0 ≤ y ∧ y < n) (h : GR e n st u ws) (hm : ∀ y, y ∈ ws ↔ y = z ∨ y ∈ ws') : GR e n st (u.set z.toNat true) (ws' ++ e z.toNat) := by
 obtain ⟨h0, hz⟩ := h.nn z ((hm z).2 (.inl rfl))
 have hzn : z.toNat < n := by omega
 have hzu : z.toNat < u.length := by rw [h.len]; exact hzn
 have hr : Gr e n st z.toNat := h.sw z ((hm z).2 (.inl Z))
 have ht := he _ hzn
 refine ⟨by rw [List.length_set]; exact h.len, fun y hy => ?_, fun k hk hu => ?_, fun y hy => ?_, fun k hk hu y hy g0 hl => ?_, fun y hy g0 hl => ?_⟩
 rcases List.mem_append.1 hy with hy | hy
 exact h.nn y ((hm y).2 (.inr hy))
 exact ht y hy
 rcases (cY hzu).1 hu with rfl | g
 exact hr
 exact h.sd k hk g
 rcases List.mem_append.1 hy with hy | hy
 exact h.sw y ((hm y).2 (.inr hy))
 exact .step hr hy (ht y hy).1 (ht y hy).2
 rcases (cY hzu).1 hu with rfl | g
 exact .inr (List.mem_append_right _ hy)
 rcases h.cl k hk g y hy g0 hl with g1 | g1
 exact .inl ((cY hzu).2 (.inr g1))
 rcases (hm y).1 g1 with rfl | g1
 exact .inl ((cY hzu).2 (.inl Z))
 exact .inr (List.mem_append_left _ g1)
 rcases h.cs y hy g0 hl with g1 | g1
 exact .inl ((cY hzu).2 (.inr g1))
 rcases (hm y).1 g1 with rfl | g1
 exact .inl ((cY hzu).2 (.inl Z))
 exact .inr (List.mem_append_left _ g1)
theorem GR.done {e : Nat → List Int} {n : Nat} {st : List Int} {u : List Bool} (h : GR e n st u []) : u = se e n st := by
 refine m1 h.len fR fun k hk => ⟨fun g => kS.2 (h.sd k hk g), fun g => ?_⟩
 have := kS.1 g
 induction this with
 | start hz h0 hl => exact (h.cs _ hz h0 hl).resolve_right (by simp)
 | step hk' hz h0 hl ih =>
  rename_i j z
  exact (h.cl j hk'.lt (ih hk'.lt (kS.2 hk')) z hz h0 hl).resolve_right (by simp)
structure GP (e : Nat → List Int) (n i : Nat) (u : List Bool) (pd : List Int) : Prop where
  len : u.length = n
  nn : ∀ z ∈ pd, 0 ≤ z ∧ z < n
  sd : ∀ k, k < n → u.getD k default = true → Gr e n (e i) k
  pr : ∀ z ∈ pd, z.toNat = i ∨ Gr e n (e i) z.toNat
  cl : ∀ k, k < n → (k = i ∨ u.getD k default = true) → (k : Int) ∈ pd ∨ ∀ z ∈ e k, 0 ≤ z → z < n → u.getD z.toNat default = true
structure GPi (e : Nat → List Int) (n i : Nat) (u : List Bool) (pd : List Int) (k j : Nat) : Prop where
  len : u.length = n
  nn : ∀ z ∈ pd, 0 ≤ z ∧ z < n
  sd : ∀ m, m < n → u.getD m default = true → Gr e n (e i) m
  pr : ∀ z ∈ pd, z.toNat = i ∨ Gr e n (e i) z.toNat
  cl : ∀ m, m < n → (m = i ∨ u.getD m default = true) → m = k ∨ (m : Int) ∈ pd ∨ ∀ z ∈ e m, 0 ≤ z → z < n → u.getD z.toNat default = true
  kn : k < n
  kk : k = i ∨ Gr e n (e i) k
  dn : ∀ z ∈ (e k).take j, 0 ≤ z → z < n → u.getD z.toNat default = true
theorem GP.zero {e : Nat → List Int} {n i : Nat} (hi : i < n) : GP e n i (List.replicate n false) [(i : Int)] :=
  ⟨List.length_replicate, fun z hz => by simp only [List.mem_singleton] at hz; omega, fun k _ hk => (by rw [nW] at hk; cases hk), fun z hz => .inl (by simp only [List.mem_singleton] at hz; omega),
    fun k _ hk => by
 rcases hk with rfl | hk
 exact .inl (by simp)
 rw [nW] at hk; cases hk⟩
theorem GP.take {e : Nat → List Int} {n i : Nat} {u : List Bool} {pd pd' : List Int} {k : Nat} (h : GP e n i u pd) (hm : ∀ y, y ∈ pd ↔ y = (k : Int) ∨ y ∈ pd') : GPi e n i u pd' k 0 := by
 have hk := h.nn k ((hm k).2 (.inl Z))
 refine ⟨h.len, fun z hz => h.nn z ((hm z).2 (.inr hz)), h.sd, fun z hz => h.pr z ((hm z).2 (.inr hz)), fun m hmn hmu => ?_, by omega, ?_, fun z hz => by simp at hz⟩
 rcases h.cl m hmn hmu with g | g
 rcases (hm m).1 g with g | g
 exact .inl (by omega)
 exact .inr (.inl g)
 exact .inr (.inr g)
 have := h.pr k ((hm k).2 (.inl Z))
 rwa [Int.toNat_natCast] at this
theorem GPi.old {e : Nat → List Int} {n i : Nat} {u : List Bool} {pd : List Int} {k j : Nat} (h : GPi e n i u pd k j) (hj : j < (e k).length) (ho : 0 ≤ (e k).getD j default → (e k).getD j default < n → u.getD ((e k).getD j default).toNat default = true) : GPi e n i u pd k (j + 1) := by
 refine ⟨h.len, h.nn, h.sd, h.pr, h.cl, h.kn, h.kk, fun z hz h0 hl => ?_⟩
 rw [List.take_succ_eq_append_getElem hj, List.mem_append, List.mem_singleton] at hz
 rcases hz with hz | hz
 exact h.dn z hz h0 hl
 rw [ar hj, ← hz] at ho
 exact ho h0 hl
theorem GPi.new {e : Nat → List Int} {n i : Nat} {u : List Bool} {pd pd' : List Int} {k j : Nat} {z : Int} (h : GPi e n i u pd k j) (hj : j < (e k).length) (hz : (e k).getD j default = z) (h0 : 0 ≤ z) (hl : z < n) (hm : ∀ y, y ∈ pd' ↔ y = z ∨ y ∈ pd) : GPi e n i (u.set z.toNat true) pd' k (j + 1) := by
 have hzu : z.toNat < u.length := by rw [h.len]; omega
 have hze : z ∈ e k := by rw [← hz, ar hj]; exact List.getElem_mem hj
 have hg : Gr e n (e i) z.toNat := by
  rcases h.kk with rfl | g
  exact .start hze h0 hl
  exact .step g hze h0 hl
 have up : ∀ m, u.getD m default = true → (u.set z.toNat true).getD m default = true := fun m g => (cY hzu).2 (.inr g)
 refine ⟨by rw [List.length_set]; exact h.len, fun y hy => ?_, fun m hmn hmu => ?_, fun y hy => ?_, fun m hmn hmu => ?_, h.kn, h.kk, fun y hy g0 gl => ?_⟩
 rcases (hm y).1 hy with rfl | hy
 exact ⟨h0, hl⟩
 exact h.nn y hy
 rcases (cY hzu).1 hmu with rfl | g
 exact hg
 exact h.sd m hmn g
 rcases (hm y).1 hy with rfl | hy
 exact .inr hg
 exact h.pr y hy
 have key : m = z.toNat ∨ (m = i ∨ u.getD m default = true) := by
  rcases hmu with g | g
  exact .inr (.inl g)
  rcases (cY hzu).1 g with g | g
  exact .inl g
  exact .inr (.inr g)
 rcases key with rfl | g
 exact .inr (.inl ((hm _).2 (.inl (by omega))))
 rcases h.cl m hmn g with g | g | g
 exact .inl g
 exact .inr (.inl ((hm _).2 (.inr g)))
 exact .inr (.inr fun y hy a b => up _ (g y hy a b))
 rw [List.take_succ_eq_append_getElem hj, List.mem_append, List.mem_singleton] at hy
 rcases hy with hy | hy
 exact up _ (h.dn y hy g0 gl)
 rw [← ar hj, hz] at hy
 subst hy
 exact (cY hzu).2 (.inl Z)
theorem GPi.end_ {e : Nat → List Int} {n i : Nat} {u : List Bool} {pd : List Int} {k j : Nat} (h : GPi e n i u pd k j) (hj : (e k).length ≤ j) : GP e n i u pd := by
 refine ⟨h.len, h.nn, h.sd, h.pr, fun m hmn hmu => ?_⟩
 rcases h.cl m hmn hmu with rfl | g | g
 refine .inr fun z hz => h.dn z ?_
 rwa [List.take_of_length_le hj]
 exact .inl g
 exact .inr g
theorem GP.done {e : Nat → List Int} {n i : Nat} {u : List Bool} (hi : i < n) (h : GP e n i u []) : u = se e n (e i) := by
 refine m1 h.len fR fun k hk => ⟨fun g => kS.2 (h.sd k hk g), fun g => ?_⟩
 have := kS.1 g
 induction this with
 | start hz h0 hl => exact ((h.cl i hi (.inl Z)).resolve_left (by simp)) _ hz h0 hl
 | step hk' hz h0 hl ih =>
  rename_i j z
  exact ((h.cl j hk'.lt (.inr (ih hk'.lt (kS.2 hk')))).resolve_left (by simp)) z hz h0 hl
theorem tV {u : List Bool} {j : Nat} (hj : j < u.length) (h : u.getD j default = false) : (u.set j true).count true = u.count true + 1 := by
 rw [ar hj] at h
 rw [List.count_set hj]
 simp [h]
def mv (x : In) : Int × Int := if x.op = 0 ∨ x.op = 1 then (0, 1) else if x.op = 2 ∨ x.op = 6 ∨ x.op = 10 then (1, 0) else if x.op = 3 then (2, 1) else if x.op = 4 ∨ x.op = 7 then (1, 1) else if x.op = 8 then (2, 0) else (0, 0)
theorem dG {x : In} : (0 ≤ (mv x).1 ∧ (mv x).1 ≤ 2) ∧ 0 ≤ (mv x).2 ∧ (mv x).2 ≤ 1 := by
 unfold mv
 split
 decide
 split
 decide
 split
 decide
 split
 decide
 split <;> decide
abbrev oU (c : List In) : Nat → List Int := fun k => tg (c.getD k default) k
abbrev fN (c : List In) (h : List Int) (k : Nat) : Int := h.getD k default - (mv (c.getD k default)).1 + (mv (c.getD k default)).2
abbrev R0 (c : List In) : Nat → Prop := Gr (oU c) c.length [0]
structure HOk (c : List In) (Q : Nat → Int → Prop) (h : List Int) : Prop where
  len : h.length = c.length
  zero : h.getD 0 default = 0
  neg : ∀ k, k < c.length → ¬ R0 c k → h.getD k default = -1
  nn : ∀ k, R0 c k → 0 ≤ h.getD k default
  q : ∀ k, R0 c k → Q k (h.getD k default)
  low : ∀ k, R0 c k → (mv (c.getD k default)).1 ≤ h.getD k default ∧ fN c h k ≤ 6
  nx : ∀ k, R0 c k → ∀ z ∈ oU c k, 0 ≤ z ∧ z < c.length ∧ h.getD z.toNat default = fN c h k
theorem HOk.val {c : List In} {Q Q' : Nat → Int → Prop} {h h' : List Int} (a : HOk c Q h) (b : HOk c Q' h') {k : Nat} (hk : R0 c k) : h.getD k default = h'.getD k default := by
 induction hk with
 | start hz _ _ =>
  simp only [List.mem_singleton] at hz; subst hz
  exact a.zero.trans b.zero.symm
 | step hk hz _ _ ih =>
  rw [(a.nx _ hk _ hz).2.2, (b.nx _ hk _ hz).2.2]
  show h.getD _ default - _ + _ = h'.getD _ default - _ + _
  rw [ih]
theorem HOk.eq {c : List In} {Q Q' : Nat → Int → Prop} {h h' : List Int} (a : HOk c Q h) (b : HOk c Q' h') : h = h' := by
 refine List.ext_getElem (by rw [a.len, b.len]) fun k h1 h2 => ?_
 rw [← ar h1, ← ar h2]
 by_cases hk : R0 c k
 exact a.val b hk
 rw [a.neg k (by rw [← a.len]; exact h1) hk, b.neg k (by rw [← a.len]; exact h1) hk]
abbrev Dn (c : List In) (Q : Nat → Int → Prop) (u : List Int) (k : Nat) : Prop :=
  Q k (u.getD k default) ∧ ((mv (c.getD k default)).1 ≤ u.getD k default ∧ fN c u k ≤ 6) ∧ ∀ z ∈ oU c k, 0 ≤ z ∧ z < c.length ∧ u.getD z.toNat default = fN c u k
structure HSr (c : List In) (Q : Nat → Int → Prop) (u : List Int) (pd : List Int) : Prop where
  len : u.length = c.length
  zero : u.getD 0 default = 0
  lo : ∀ k, k < c.length → -1 ≤ u.getD k default ∧ u.getD k default ≤ 6
  nn : ∀ z ∈ pd, 0 ≤ z ∧ z < c.length ∧ 0 ≤ u.getD z.toNat default
  sd : ∀ k, k < c.length → 0 ≤ u.getD k default → R0 c k
  con : ∀ h, HOk c Q h → ∀ k, k < c.length → 0 ≤ u.getD k default → h.getD k default = u.getD k default
  dn : ∀ k, k < c.length → 0 ≤ u.getD k default → (k : Int) ∈ pd ∨ Dn c Q u k
structure HSi (c : List In) (Q : Nat → Int → Prop) (u : List Int) (pd : List Int) (ts : List Int) (k j : Nat) : Prop where
  len : u.length = c.length
  zero : u.getD 0 default = 0
  lo : ∀ k, k < c.length → -1 ≤ u.getD k default ∧ u.getD k default ≤ 6
  nn : ∀ z ∈ pd, 0 ≤ z ∧ z < c.length ∧ 0 ≤ u.getD z.toNat default
  sd : ∀ k, k < c.length → 0 ≤ u.getD k default → R0 c k
  con : ∀ h, HOk c Q h → ∀ k, k < c.length → 0 ≤ u.getD k default → h.getD k default = u.getD k default
  dn : ∀ m, m < c.length → 0 ≤ u.getD m default → m = k ∨ (m : Int) ∈ pd ∨ Dn c Q u m
  kn : k < c.length
  k0 : 0 ≤ u.getD k default
  kk : Q k (u.getD k default) ∧ ((mv (c.getD k default)).1 ≤ u.getD k default ∧ fN c u k ≤ 6)
  tk : ∀ z ∈ (ts.take j), 0 ≤ z ∧ z < c.length ∧ u.getD z.toNat default = fN c u k
theorem dK {u : List Int} {j k : Nat} {v : Int} (hj : j < u.length) : (u.set j v).getD k default = if k = j then v else u.getD k default := by
 rw [List.getD_eq_getElem?_getD, List.getD_eq_getElem?_getD, List.getElem?_set]
 by_cases h : j = k
 subst h; simp [hj]
 rw [if_neg h, if_neg (fun e => h e.symm)]
def ry (n : Nat) : List Int := (List.replicate n (-1)).set 0 0
theorem jb {n k : Nat} (hn : 0 < n) (hk : k < n) : (ry n).getD k default = if k = 0 then 0 else -1 := by
 unfold ry
 rw [dK (by simpa using hn)]
 split
 rfl
 rw [List.getD_eq_getElem?_getD, List.getElem?_replicate, if_pos hk]; rfl
theorem oH {c : List In} {Q : Nat → Int → Prop} (hn : 0 < c.length) : HSr c Q (ry c.length) [0] := by
 have key : ∀ k, k < c.length → 0 ≤ (ry c.length).getD k default → k = 0 := fun k hk h => by
  rw [jb hn hk] at h
  split at h
  · assumption
  · exact absurd h (by decide)
 refine ⟨by simp [ry], by rw [jb hn hn]; rfl, fun k hk => ?_, fun z hz => ?_, fun k hk h => ?_, fun h hh k hk h0 => ?_, fun k hk h => ?_⟩
 rw [jb hn hk]; split <;> decide
 simp only [List.mem_singleton] at hz; subst hz
 refine ⟨by decide, by omega, ?_⟩
 show 0 ≤ (ry c.length).getD 0 default
 rw [jb hn hn]; decide
 have := key k hk h; subst this
 exact .start (z := 0) (by simp) (by decide) (by omega)
 have := key k hk h0; subst this
 rw [hh.zero, jb hn hn]; rfl
 have := key k hk h; subst this
 exact .inl (by simp)
theorem HSr.take {c : List In} {Q : Nat → Int → Prop} {u pd pd' ts : List Int} {k : Nat} (h : HSr c Q u pd) (hm : ∀ y, y ∈ pd ↔ y = (k : Int) ∨ y ∈ pd') (hq : Q k (u.getD k default)) (h1 : (mv (c.getD k default)).1 ≤ u.getD k default) (h2 : fN c u k ≤ 6) : HSi c Q u pd' ts k 0 := by
 have hk := h.nn k ((hm k).2 (.inl Z))
 rw [Int.toNat_natCast] at hk
 refine ⟨h.len, h.zero, h.lo, fun z hz => h.nn z ((hm z).2 (.inr hz)), h.sd, h.con, fun m hmn hmu => ?_, by omega, hk.2.2, ⟨hq, h1, h2⟩, fun z hz => by simp at hz⟩
 rcases h.dn m hmn hmu with g | g
 rcases (hm m).1 g with g | g
 exact .inl (by omega)
 exact .inr (.inl g)
 exact .inr (.inr g)
theorem HSr.mem {c : List In} {Q : Nat → Int → Prop} {u pd : List Int} {k : Nat} (h : HSr c Q u pd) (hk : (k : Int) ∈ pd) : k < c.length ∧ 0 ≤ u.getD k default ∧ R0 c k ∧ ∀ x, HOk c Q x → x.getD k default = u.getD k default := by
 have g := h.nn k hk
 rw [Int.toNat_natCast] at g
 have hkn : k < c.length := by omega
 exact ⟨hkn, g.2.2, h.sd k hkn g.2.2, fun x hx => h.con x hx k hkn g.2.2⟩
theorem HSr.noq {c : List In} {Q : Nat → Int → Prop} {u pd : List Int} {k : Nat} (h : HSr c Q u pd) (hk : (k : Int) ∈ pd) (hq : ¬ Q k (u.getD k default)) : ∀ x, ¬ HOk c Q x := fun x hx => by
 obtain ⟨_, _, hr, hc⟩ := h.mem hk
 have := hx.q k hr
 rw [hc x hx] at this; exact hq this
theorem HSr.nol {c : List In} {Q : Nat → Int → Prop} {u pd : List Int} {k : Nat} (h : HSr c Q u pd) (hk : (k : Int) ∈ pd) (hq : ¬ ((mv (c.getD k default)).1 ≤ u.getD k default ∧ fN c u k ≤ 6)) : ∀ x, ¬ HOk c Q x := fun x hx => by
 obtain ⟨_, _, hr, hc⟩ := h.mem hk
 have := hx.low k hr
 simp only [fN, hc x hx] at this; exact hq this
theorem HSi.nox {c : List In} {Q : Nat → Int → Prop} {u pd ts : List Int} {k j : Nat} {z : Int} (h : HSi c Q u pd ts k j) (hz : z ∈ oU c k) (hb : ¬ (0 ≤ z ∧ z < c.length)) : ∀ x, ¬ HOk c Q x := fun x hx => by
 have := hx.nx k (h.sd k h.kn h.k0) z hz
 exact hb ⟨this.1, this.2.1⟩
theorem HSi.noe {c : List In} {Q : Nat → Int → Prop} {u pd ts : List Int} {k j : Nat} {z : Int} (h : HSi c Q u pd ts k j) (hz : z ∈ oU c k) (h0 : 0 ≤ z) (hl : z < c.length) (hu : 0 ≤ u.getD z.toNat default) (hb : u.getD z.toNat default ≠ fN c u k) : ∀ x, ¬ HOk c Q x := fun x hx => by
 have a := (hx.nx k (h.sd k h.kn h.k0) z hz).2.2
 rw [h.con x hx z.toNat (by omega) hu] at a
 simp only [fN, h.con x hx k h.kn h.k0] at a
 exact hb a
theorem HSi.old {c : List In} {Q : Nat → Int → Prop} {u pd ts : List Int} {k j : Nat} {z : Int} (h : HSi c Q u pd ts k j) (hj : j < ts.length) (hz : ts.getD j default = z) (h0 : 0 ≤ z) (hl : z < c.length) (hb : u.getD z.toNat default = fN c u k) : HSi c Q u pd ts k (j + 1) := by
 refine ⟨h.len, h.zero, h.lo, h.nn, h.sd, h.con, h.dn, h.kn, h.k0, h.kk, fun y hy => ?_⟩
 rw [List.take_succ_eq_append_getElem hj, List.mem_append, List.mem_singleton, ← ar hj, hz] at hy
 rcases hy with hy | rfl
 exact h.tk y hy
 exact ⟨h0, hl, hb⟩
theorem HSi.new {c : List In} {Q : Nat → Int → Prop} {u pd pd' ts : List Int} {k j : Nat} {z : Int} (h : HSi c Q u pd ts k j) (hj : j < ts.length) (hz : ts.getD j default = z) (ht : z ∈ oU c k) (h0 : 0 ≤ z) (hl : z < c.length) (hu : u.getD z.toNat default < 0) (hm : ∀ y, y ∈ pd' ↔ y = z ∨ y ∈ pd) : HSi c Q (u.set z.toNat (fN c u k)) pd' ts k (j + 1) := by
 have hzu : z.toNat < u.length := by rw [h.len]; omega
 have hb0 : 0 ≤ fN c u k ∧ fN c u k ≤ 6 := by
  have := h.kk.2; have := dG (x := c.getD k default)
  exact ⟨by show 0 ≤ _ - _ + _; omega, h.kk.2.2⟩
 have same : ∀ m, 0 ≤ u.getD m default → (u.set z.toNat (fN c u k)).getD m default = u.getD m default := fun m g => by
  rw [dK hzu, if_neg (fun e => by subst e; omega)]
 have hbk : fN c (u.set z.toNat (fN c u k)) k = fN c u k := by
  show (u.set z.toNat (fN c u k)).getD k default - _ + _ = _
  rw [same k h.k0]
 have dnk : ∀ m, 0 ≤ u.getD m default → Dn c Q u m → Dn c Q (u.set z.toNat (fN c u k)) m := fun m g0 ⟨a, b, d⟩ => by
  have e := same m g0
  have e2 : fN c (u.set z.toNat (fN c u k)) m = fN c u m := by
    show (u.set z.toNat (fN c u k)).getD m default - _ + _ = _
    rw [e]
  refine ⟨by rw [e]; exact a, by rw [e, e2]; exact b, fun y hy => ?_⟩
  have g := d y hy
  have := dG (x := c.getD m default)
  have h9 := b.1
  refine ⟨g.1, g.2.1, ?_⟩
  rw [e2, same _ (by rw [g.2.2]; show 0 ≤ _ - _ + _; omega)]
  exact g.2.2
 refine ⟨by rw [List.length_set]; exact h.len, ?_, fun m hm2 => ?_, fun y hy => ?_, fun m hmn hmu => ?_, fun x hx m hmn hmu => ?_, fun m hmn hmu => ?_, h.kn, by rw [same k h.k0]; exact h.k0, by rw [hbk, same k h.k0]; exact h.kk, fun y hy => ?_⟩
 rw [same 0 (by rw [h.zero]; decide)]; exact h.zero
 rw [dK hzu]
 split
 omega
 exact h.lo m hm2
 rcases (hm y).1 hy with rfl | hy
 exact ⟨h0, hl, by rw [dK hzu, if_pos Z]; exact hb0.1⟩
 have := h.nn y hy
 exact ⟨this.1, this.2.1, by rw [same _ this.2.2]; exact this.2.2⟩
 rw [dK hzu] at hmu
 split at hmu
 rename_i e; subst e
 exact .step (h.sd k h.kn h.k0) ht h0 hl
 exact h.sd m hmn hmu
 rw [dK hzu] at hmu ⊢
 split at hmu
 rename_i e; subst e
 rw [if_pos Z]
 have := (hx.nx k (h.sd k h.kn h.k0) z ht).2.2
 rw [this]
 show x.getD k default - _ + _ = _
 rw [h.con x hx k h.kn h.k0]
 rename_i e
 rw [if_neg e]
 exact h.con x hx m hmn hmu
 by_cases e : m = z.toNat
 exact .inr (.inl ((hm _).2 (.inl (by omega))))
 rw [dK hzu, if_neg e] at hmu
 rcases h.dn m hmn hmu with g | g | g
 exact .inl g
 exact .inr (.inl ((hm _).2 (.inr g)))
 exact .inr (.inr (dnk m hmu g))
 rw [List.take_succ_eq_append_getElem hj, List.mem_append, List.mem_singleton, ← ar hj, hz] at hy
 rw [hbk]
 rcases hy with hy | rfl
 have g := h.tk y hy
 exact ⟨g.1, g.2.1, by rw [same _ (by rw [g.2.2]; exact hb0.1)]; exact g.2.2⟩
 exact ⟨h0, hl, by rw [dK hzu, if_pos Z]⟩
theorem HSi.end_ {c : List In} {Q : Nat → Int → Prop} {u pd ts : List Int} {k j : Nat} (h : HSi c Q u pd ts k j) (hj : ts.length ≤ j) (ht : ∀ z ∈ oU c k, z ∈ ts) : HSr c Q u pd := by
 refine ⟨h.len, h.zero, h.lo, h.nn, h.sd, h.con, fun m hmn hmu => ?_⟩
 rcases h.dn m hmn hmu with rfl | g | g
 exact .inr ⟨h.kk.1, h.kk.2, fun z hz => h.tk z (by rw [List.take_of_length_le hj]; exact ht z hz)⟩
 exact .inl g
 exact .inr g
theorem HSr.done {c : List In} {Q : Nat → Int → Prop} {u : List Int} (h : HSr c Q u []) : HOk c Q u := by
 have nn : ∀ k, R0 c k → 0 ≤ u.getD k default := fun k hk => by
  induction hk with
  | start hz _ _ =>
    simp only [List.mem_singleton] at hz; subst hz
    show 0 ≤ u.getD 0 default
    rw [h.zero]; decide
  | step hk hz h0 hl ih =>
    rename_i k z
    obtain ⟨_, b, d⟩ := (h.dn k hk.lt ih).resolve_left (by simp)
    rw [(d z hz).2.2]
    have := dG (x := c.getD k default)
    show 0 ≤ _ - _ + _; omega
 have dn : ∀ k, R0 c k → Dn c Q u k := fun k hk => (h.dn k hk.lt (nn k hk)).resolve_left (by simp)
 refine ⟨h.len, h.zero, fun k hk hn => ?_, nn, fun k hk => (dn k hk).1, fun k hk => (dn k hk).2.1, fun k hk => (dn k hk).2.2⟩
 have := h.lo k hk
 have : ¬ 0 ≤ u.getD k default := fun g => hn (h.sd k hk g)
 omega
open Classical in
noncomputable def f9 (c : List In) (Q : Nat → Int → Prop) : Option (List Int) := if h : ∃ u, HOk c Q u then some (Classical.choose h) else none
theorem jv {c : List In} {Q : Nat → Int → Prop} {u : List Int} (h : HOk c Q u) : f9 c Q = some u := by
 unfold f9
 rw [dif_pos ⟨u, h⟩]
 exact congrArg some ((Classical.choose_spec (⟨u, h⟩ : ∃ u, HOk c Q u)).eq h)
theorem dZ {c : List In} {Q : Nat → Int → Prop} (h : ∀ u, ¬ HOk c Q u) : f9 c Q = none := by
 unfold f9
 rw [dif_neg (fun ⟨u, hu⟩ => h u hu)]
theorem s9 {c : List In} {Q : Nat → Int → Prop} {u : List Int} (h : f9 c Q = some u) : HOk c Q u := by
 unfold f9 at h
 split at h
 rename_i g; rw [← Option.some.inj h]; exact Classical.choose_spec g
 cases h
abbrev qT : Nat → Int → Prop := fun _ _ => True
abbrev qP (ps : List Pt) : Nat → Int → Prop := fun k v => dB ps (k : Int) = true → v = 0
theorem uT {c : List In} {ps : List Pt} (hp : ∀ p ∈ ps, 0 ≤ p.k ∧ p.k < c.length) {u : List Int} (h : f9 c qT = some u) : f9 c (qP ps) = if ∀ p ∈ ps, u.getD p.k.toNat default ≤ 0 then some u else none := by
 have hu := s9 h
 split
 rename_i g
 refine jv ⟨hu.len, hu.zero, hu.neg, hu.nn, fun k hk hpk => ?_, hu.low, hu.nx⟩
 unfold dB at hpk
 obtain ⟨p, hp1, hp2⟩ := List.any_eq_true.1 hpk
 have e := aR hp2
 have a := g p hp1
 rw [e, Int.toNat_natCast] at a
 have b := hu.nn k hk
 omega
 rename_i g
 refine dZ fun x hx => g fun p hp1 => ?_
 have e := hu.eq hx; subst e
 have hpk := hp p hp1
 have hpe : ((p.k.toNat : Nat) : Int) = p.k := by omega
 by_cases hk : R0 c p.k.toNat
 have := hx.q _ hk (List.any_eq_true.2 ⟨p, hp1, decide_eq_true hpe.symm⟩)
 omega
 have := hu.neg _ (by omega) hk
 omega
theorem tL {c : List In} {ps : List Pt} (h : f9 c qT = none) : f9 c (qP ps) = none := dZ fun x hx => by
 have : HOk c qT x := ⟨hx.len, hx.zero, hx.neg, hx.nn, fun _ _ => trivial, hx.low, hx.nx⟩
 rw [jv this] at h; cases h
abbrev eT (u : List Int) : Nat := u.countP fun v => decide (v < 0)
theorem ly {u : List Int} {j : Nat} {v : Int} (hj : j < u.length) (h : u.getD j default < 0) (hv : 0 ≤ v) : eT (u.set j v) + 1 = eT u := by
 rw [ar hj] at h
 have hp : 0 < u.countP (fun v => decide (v < 0)) := List.countP_pos_iff.2 ⟨_, List.getElem_mem hj, decide_eq_true h⟩
 show List.countP _ (u.set j v) + 1 = _
 rw [List.countP_set hj]
 simp only [h, decide_true, if_true]
 rw [if_neg (by simp; omega)]
 show List.countP _ u - 1 + 0 + 1 = List.countP _ u
 omega
theorem mG {n : Nat} (hn : 0 < n) : eT (ry n) + 1 = n := by
 have h := ly (u := List.replicate n (-1 : Int)) (j := 0) (v := 0) (by simpa using hn) (by cases n with | zero => omega | succ n => exact (by decide : (-1 : Int) < 0)) (by decide)
 have e : eT (List.replicate n (-1 : Int)) = n := by simp [eT, List.countP_replicate]
 rw [e] at h; exact h
abbrev dk (n : Nat) (z : Int) : Bool := da 0 ((n : Int) - 1) z
def iC (a : An) (k : Nat) : List Int := (tg (a.code.getD k default) k).filter fun z => dk a.code.length z && !dB a.pts z
theorem uS {n : Nat} {z : Int} : dk n z = true ↔ 0 ≤ z ∧ z < n := by
 unfold dk da; simp only [bF, decide_eq_true_eq]; omega
theorem z9 {a : An} {k : Nat} {z : Int} : z ∈ iC a k ↔ z ∈ oU a.code k ∧ (0 ≤ z ∧ z < a.code.length) ∧ dB a.pts z = false := by
 unfold iC
 rw [List.mem_filter, bF, uS, Bool.not_eq_true']
def nI (x : In) (k : Int) : List Int := if x.op = 11 then [] else if x.op = 5 then [x.a] else if x.op = 6 then [k + 1, x.a] else [k + 1]
theorem z6 {x : In} {k z : Int} : z ∈ nI x k ↔ z ∈ tg x k := by
 unfold nI tg
 split
 exact Iff.rfl
 split
 exact Iff.rfl
 split
 split
 simp [or_comm]
 split
 rename_i h; rw [h]; simp
 exact Iff.rfl
 exact Iff.rfl
def m6 (a : An) (k : Nat) : List Int := if dB a.pts k = true then [] else nI (a.code.getD k default) k
theorem wK {a : An} {k : Nat} (hp : dB a.pts k = false) : Gr (m6 a) a.code.length (m6 a k) k ↔ Gr (iC a) a.code.length (iC a k) k := by
 have hk : m6 a k = nI (a.code.getD k default) k := if_neg (by rw [hp]; decide)
 constructor
 intro h
 have key : ∀ m, Gr (m6 a) a.code.length (m6 a k) m → dB a.pts m = false → Gr (iC a) a.code.length (iC a k) m := fun m hm => by
  induction hm with
  | start hz h0 hl =>
    rename_i z
    intro hq
    rw [show ((z.toNat : Nat) : Int) = z by omega] at hq
    rw [hk] at hz
    exact .start (z9.2 ⟨z6.1 hz, ⟨h0, hl⟩, hq⟩) h0 hl
  | step hm hz h0 hl ih =>
    rename_i m z
    intro hq
    rw [show ((z.toNat : Nat) : Int) = z by omega] at hq
    have hmp : dB a.pts m = false := by
      cases g : dB a.pts m with
      | false => rfl
      | true => rw [m6, if_pos g] at hz; cases hz
    rw [m6, if_neg (by rw [hmp]; decide)] at hz
    exact .step (ih hmp) (z9.2 ⟨z6.1 hz, ⟨h0, hl⟩, hq⟩) h0 hl
 exact key k h hp
 intro h
 have key : ∀ m, Gr (iC a) a.code.length (iC a k) m → Gr (m6 a) a.code.length (m6 a k) m ∧ dB a.pts m = false := fun m hm => by
  induction hm with
  | start hz h0 hl =>
    rename_i z
    obtain ⟨a1, a2, a3⟩ := z9.1 hz
    refine ⟨.start (by rw [hk]; exact z6.2 a1) h0 hl, ?_⟩
    rw [show ((z.toNat : Nat) : Int) = z by omega]; exact a3
  | step hm hz h0 hl ih =>
    rename_i m z
    obtain ⟨a1, a2, a3⟩ := z9.1 hz
    refine ⟨.step ih.1 (by rw [m6, if_neg (by rw [ih.2]; decide)]; exact z6.2 a1) h0 hl, ?_⟩
    rw [show ((z.toNat : Nat) : Int) = z by omega]; exact a3
 exact (key k h).1
open Classical in
noncomputable def i2 (a : An) (k : Nat) : Bool := decide (dB a.pts k = false ∧ Gr (iC a) a.code.length (iC a k) k)
noncomputable abbrev bQ (a : An) : List Bool := (List.range a.code.length).map (i2 a)
theorem qY {a : An} {k : Nat} (h : dB a.pts k = true) : i2 a k = false := by
 unfold i2; rw [h]; simp
theorem nj {a : An} {k : Nat} (h : dB a.pts k = false) : i2 a k = (se (iC a) a.code.length (iC a k)).getD k default := by
 rw [Bool.eq_iff_iff, kS]
 unfold i2; rw [h]; simp
theorem uI {a : An} {k : Nat} (h : dB a.pts k = false) : i2 a k = (se (m6 a) a.code.length (m6 a k)).getD k default := by
 rw [nj h, Bool.eq_iff_iff, kS, kS, wK h]
noncomputable def dF (a : An) : Bool := (f9 a.code (qP a.pts)).isSome && (bQ a).all (!·)
noncomputable def rk (a : An) (k : Nat) : Nat := (se (iC a) a.code.length (iC a k)).count true
theorem mZ : ∀ {u v : List Bool}, u.length = v.length → (∀ k, u.getD k default = true → v.getD k default = true) → u.count true ≤ v.count true
 | [], [], _, _ => bw _
 | x :: u, y :: v, hl, h => by
  have ih := mZ (u := u) (v := v) (by simpa using hl) (fun k hk => by have := h (k + 1) (by simpa using hk); simpa using this)
  have h0 := h 0
  simp only [List.getD_cons_zero] at h0
  cases x with
  | false => cases y <;> simp <;> omega
  | true => rw [h0 Z]; simpa using ih
theorem mY : ∀ {u v : List Bool} {m : Nat}, u.length = v.length → (∀ k, u.getD k default = true → v.getD k default = true) → u.getD m default = false → v.getD m default = true → u.count true < v.count true
 | x :: u, y :: v, 0, hl, h, h1, h2 => by
  have ih := mZ (u := u) (v := v) (by simpa using hl) (fun k hk => by have := h (k + 1) (by simpa using hk); simpa using this)
  simp only [List.getD_cons_zero] at h1 h2
  subst h1; subst h2
  simp; omega
 | x :: u, y :: v, m + 1, hl, h, h1, h2 => by
  have ih := mY (u := u) (v := v) (m := m) (by simpa using hl) (fun k hk => by have := h (k + 1) (by simpa using hk); simpa using this) (by simpa using h1) (by simpa using h2)
  have h0 := h 0
  simp only [List.getD_cons_zero] at h0
  cases x with
  | false => cases y <;> simp <;> omega
  | true => rw [h0 Z]; simpa using ih
 | [], [], m, _, _, _, h2 => by simp at h2
theorem yU {a : An} {k : Nat} : rk a k ≤ a.code.length := by
 have := List.count_le_length (a := true) (l := se (iC a) a.code.length (iC a k))
 rwa [fR] at this
theorem yT {a : An} {k : Nat} {z : Int} (hc : dF a = true) (hz : z ∈ iC a k) : rk a z.toNat < rk a k := by
 obtain ⟨h1, h2, h3⟩ := z9.1 hz
 have hze : ((z.toNat : Nat) : Int) = z := by omega
 unfold rk
 refine mY (m := z.toNat) (by rw [fR, fR]) (fun m hm => ?_) ?_ (kS.2 (.start hz h2.1 h2.2))
 rw [kS] at hm ⊢
 exact hm.mono (fun y hy g0 gl => .step (.start hz h2.1 h2.2) hy g0 gl) (fun j hj y hy g0 gl => .step hj hy g0 gl)
 unfold dF at hc
 rw [bF, List.all_eq_true] at hc
 have := hc.2 (i2 a z.toNat) (List.mem_map.2 ⟨z.toNat, List.mem_range.2 (by omega), rfl⟩)
 rw [nj (by rw [hze]; exact h3)] at this
 simpa using this
structure Pth where
  frm : Int
  to : Int
  facts : List Tm
  ends : List Tm
  ev : List Int
abbrev Pth.cells (p : Pth) : List D := [.int .i64 p.frm, .int .i64 p.to, fH p.facts, fH p.ends, gj p.ev]
structure Pw where
  vars : List Tm
  facts : List Tm
  ev : List Int
  sym : Nat
structure Gs where
  paths : List Pth
  conds : List Sq
  bad : Bool
inductive Fr where
  | st (t : Tr)
  | lp (k : Nat)
structure Pe where
  post : List Tm
  lf : Nat → List Tm
  num : Int → Nat
def eb (t : Tm) (vs : List Tm) : Tm × Bool := r9 (t.c + cn Tm.c vs t.xs) (bU vs t.xs)
def ik (k : Nat) : Tm := ⟨0, List.replicate k 0 ++ [1]⟩
def Gs.flag (b : Bool) (g : Gs) : Gs := ⟨g.paths, g.conds, g.bad || b⟩
def Gs.goal (w : Pw) (t : Tm) (g : Gs) : Gs := ⟨g.paths, g.conds ++ [⟨w.facts, t⟩], g.bad⟩
def Pw.fact (t : Tm) (w : Pw) : Pw := ⟨w.vars, w.facts ++ [t], w.ev, w.sym⟩
def Pw.set (i : Nat) (t : Tm) (w : Pw) : Pw := ⟨w.vars.set i t, w.facts, w.ev, w.sym⟩
def Pw.long (w : Pw) : Bool := decide (12 < w.facts.length)
def i1 (w : Pw) (t : Tm) (g : Gs) : Gs := g.flag (!(eb t w.vars).2)
def bf (w : Pw) (g : Gs) (t : Tm) : Gs := (i1 w t g).goal w (eb t w.vars).1
def el (frm : Int) (w : Pw) (to : Int) (g : Gs) : Gs := ⟨g.paths ++ [⟨frm, to, w.facts, w.vars, w.ev⟩], g.conds, g.bad || decide (200 < g.paths.length + 1)⟩
def cj (frm : Int) (w : Pw) (to : Int) (facts : List Tm) (g : Gs) : Gs := el frm w to (facts.foldl (bf w) g)
abbrev pc := Tm → Tm × Bool
def aY (la : pc) (w : Pw) (t : Tm) (g : Gs) : Gs := ((g.goal w t).flag (!(la t).2)).goal w (la t).1
def ga (yes no : Pw → Gs → Gs) (w : Pw) (t : Tm) (g : Gs) : Gs := no (w.fact (bK t).1) (yes (w.fact t) ((g.flag (!(bK t).2)).flag (w.fact t).long))
structure GEq (g h : Gs) : Prop where
  bad : g.bad = h.bad
  eq : g.bad = false → g = h
theorem GEq.refl {g : Gs} : GEq g g := ⟨rfl, fun _ => rfl⟩
theorem GEq.of {g h : Gs} (hb : g.bad = true) (hc : h.bad = true) : GEq g h := ⟨by rw [hb, hc], fun e => by rw [hb] at e; cases e⟩
theorem GEq.cases {g h : Gs} (e : GEq g h) : g = h ∨ (g.bad = true ∧ h.bad = true) := by
 cases hb : g.bad with
 | false => exact .inl (e.eq hb)
 | true => exact .inr ⟨Z, by rw [← e.bad, hb]⟩
theorem GEq.flag {g h : Gs} (e : GEq g h) {b : Bool} : GEq (g.flag b) (h.flag b) := by
 rcases e.cases with rfl | ⟨h1, h2⟩
 exact .refl
 exact .of (by simp [Gs.flag, h1]) (by simp [Gs.flag, h2])
theorem GEq.goal {g h : Gs} (e : GEq g h) {w : Pw} {t : Tm} : GEq (g.goal w t) (h.goal w t) := by
 rcases e.cases with rfl | ⟨h1, h2⟩
 exact .refl
 exact .of h1 h2
theorem ou {w : Pw} : ∀ {fs : List Tm} {g : Gs}, g.bad = true → (fs.foldl (bf w) g).bad = true
 | [], g, h => h
 | t :: fs, g, h => ou (fs := fs) (g := bf w g t) (by simp [bf, i1, Gs.goal, Gs.flag, h])
theorem jd {frm : Int} {w : Pw} {to : Int} {fs : List Tm} {g : Gs} (h : g.bad = true) : (cj frm w to fs g).bad = true := by simp [cj, el, ou h]
structure LaEq (la lb : pc) : Prop where
  two : ∀ t, t.ok = true → (la t).2 = (lb t).2
  one : ∀ t, t.ok = true → (la t).2 = true → (la t).1 = (lb t).1
theorem wB {t : Tm} {vs : List Tm} : (eb t vs).1.ok = true := by
 unfold eb r9; split
 assumption
 rfl
structure WOk (m : Nat) (w : Pw) : Prop where
  vars : w.vars.length = 4
  ok : ∀ t ∈ w.vars, t.ok = true
  facts : w.facts.length + m ≤ 64
  ev : w.ev.length + m ≤ 64
  sym : w.sym ≤ 10
theorem wx {k : Nat} (h : k < 10) : (ik k).ok = true := by
 have : ∀ k : Fin 10, (ik k).ok = true := by decide
 exact this ⟨k, h⟩
theorem wD {xs : List Tm} {i : Nat} {t : Tm} (h : ∀ t ∈ xs, t.ok = true) (ht : t.ok = true) : ∀ u ∈ xs.set i t, u.ok = true := fun u hu => by
 rcases List.mem_or_eq_of_mem_set hu with h1 | h1
 exact h u h1
 rw [h1]; exact ht
structure GOk (n : Nat) (g : Gs) : Prop where
  paths : g.paths.length ≤ 201
  good : g.bad = false → g.paths.length ≤ 200
  conds : g.conds.length ≤ n
theorem dq {w : Pw} : ∀ {fs : List Tm} {g : Gs}, (fs.foldl (bf w) g).paths = g.paths
 | [], g => rfl
 | t :: fs, g => dq (fs := fs) (g := bf w g t)
def kZ (t : Tm) : Tm × Bool := if t.ok = true then (t, true) else (⟨0, []⟩, false)
theorem gx {f : Tm → Int} : ∀ {ts : List Tm} {ms : List Int}, cn f (ts.take ms.length) ms = cn f ts ms
 | [], ms => by simp
 | t :: ts, [] => by simp [cn]
 | t :: ts, m :: ms => by simp only [jI, List.take_succ_cons, cn]; rw [gx]
theorem tB {t : Tm} {vs : List Tm} : kZ (em (⟨t.c, []⟩ :: vs.take t.xs.length) (1 :: t.xs)) = eb t vs := by
 have h1 : cn Tm.c (⟨t.c, []⟩ :: vs.take t.xs.length) (1 :: t.xs) = t.c + cn Tm.c vs t.xs := by rw [cn, gx, Int.one_mul]
 have h2 : bU (⟨t.c, []⟩ :: vs.take t.xs.length) (1 :: t.xs) = bU vs t.xs := by
  unfold bU
  apply List.map_congr_left
  intro k _
  rw [cn, gx]
  simp [nQ]
 rw [em, h1, h2]; rfl
theorem tA {t : Tm} {vs : List Tm} : r9 (t.c + cn Tm.c (vs.take t.xs.length) (t.xs.take t.xs.length)) (bU (vs.take t.xs.length) (t.xs.take t.xs.length)) = eb t vs := by
 have h2 : bU (vs.take t.xs.length) t.xs = bU vs t.xs := by
  unfold bU
  apply List.map_congr_left
  intro k _
  rw [gx]
 rw [List.take_length, gx, h2]; rfl
theorem wQ {t : Tm} (h : t.ok = true) : (Tm.mk t.c []).ok = true := by
 have := (Small.of h).c
 simp [Tm.ok, this]
theorem pC {vs : List Tm} {n : Int} (h : go vs n = true) : (∀ t ∈ vs, t.ok = true) ∧ (vs.length : Int) ≤ n := by
 unfold go at h
 simpa using h
theorem ux {t : Tm} {vs : List Tm} {n : Nat} (ht : t.ok = true) (hv : go vs 10 = true) : CtxOk (⟨t.c, []⟩ :: vs.take n) := by
 have h1 := pC hv
 refine ⟨fun u hu => ?_, by simp; omega⟩
 rcases List.mem_cons.1 hu with rfl | h
 exact wQ ht
 exact h1.1 u (List.mem_of_mem_take h)
theorem uH {t : Tm} : bK t = kZ (sl t) := wI
variable {t : Tm}
theorem sO : MQ h1 h2 173 [cU t] [] (Plain (eM (kZ t))) := by
 refine MC.data (jB 10 h1 h2 Tryz.func173 Z Z Z fun O hF => ?_)
 refine ac (jx O Z (jf [1] Z (jl O Z (js O Z (jn (af (ac (js O Z (ae O Z Z Z Z (mh (t := t) h1 h2) (aa Z) Z Z Z Z Z (B0 := 6000) Z (js O Z (jf [6,3,2,1] Z (jn (ab O Z Z (fun hc6 => ?_) (fun hc6 => ?_))))))))))))))
 refine ac (js O Z (jf [7,3,2,1] Z (jo O Z (js O Z (jr ?_)))))
 refine ⟨.inl Z, _, ak, _, Z, ?_⟩
 have hok : t.ok = false := by simpa using hc6
 rw [show kZ t = (⟨0, []⟩, false) from if_neg (by rw [hok]; decide)]
 exact .tup (.cons (.agg (.cons .d (.cons .nils .nil))) (.cons (.c .d) .nil))
 refine ah (ac (js O Z (jf [8,3,2,1] Z (ax O Z Z Z Z (Bl (t := t) h1 h2) (aa Z) Z Z Z Z (B0 := 10000) Z Z (jf [9,3,2,1] Z (jo O Z (js O Z (jr ?_))))))))
 refine ⟨.inl Z, _, ak, _, Z, ?_⟩
 have hok : t.ok = true := by simpa using hc6
 rw [show kZ t = (t, true) from if_pos hok]
 exact .tup (.cons (.agg (aq Z)) (.cons (.c .d) .nil))
theorem zJ (ht : t.ok = true) : MQ h1 h2 174 [cU t] [] (Plain (eM (bK t))) := by
 refine MC.data (jB 13 h1 h2 Tryz.func174 Z Z Z fun O hF => ?_)
 refine ac (jx O Z (jf [1] Z (jl O Z (js O Z (jn (af (ac (js O Z (ae O Z Z Z Z (mh (t := t) h1 h2) (aa Z) Z Z Z Z Z (B0 := 6000) Z (js O Z (jf [6,3,2,1] Z (jn (ab O Z Z (fun hc6 => ?_) (fun hc6 => ?_))))))))))))))
 exact absurd hc6 (by rw [ht]; decide)
 refine ah (ac (js O Z (jf [8,3,2,1] Z (ax O Z Z Z Z (Bb (t := t) h1 h2 ht) (aa Z) Z Z Z Z (B0 := 10000) Z Z (jf [9,3,2,1] Z (ax O Z Z Z Z (sO (t := sl t) h1 h2) (aa Z) Z Z Z Z (B0 := 11000) Z Z (j2 O Z Z (jf [12,11,3,2,1] Z (jo O Z (js O Z (jf [3,2,1] Z (jr ?_))))))))))))
 refine ⟨.inl Z, _, ak, _, Z, ?_⟩
 rw [uH]
 exact .tup (.cons (.agg (aq Z)) (.cons (.c .d) .nil))
theorem kO {k : Nat} : (List.replicate (k + 1) [D.int .i64 0])[0 + k]? = some [D.int .i64 0] := by simp
theorem kN {k : Nat} : (List.replicate (k + 1) [D.int .i64 0]).set (0 + k) [D.int .i64 1] = ((List.replicate k 0 ++ [1] : List Int)).map fun n => [D.int .i64 n] := by
 rw [List.replicate_succ', Nat.zero_add, List.set_append_right _ _ (by simp)]; simp
variable {k : Nat}
theorem vX (hk : k < 10) : MQ h1 h2 156 [eI k] [] (Plain (cU (ik k))) := by
 refine MC.data (jB 13 h1 h2 Tryz.func156 Z Z Z fun O hF => ?_)
 refine ac (jl O Z (ao ?_))
 refine aP (js O Z (ji O Z (jf [5,2,0] Z (AOps.heap (cd O Z Z Z Z Z Z Z Z Z (by first | omega | (simp at *; omega)) (by first | omega | (simp at *; omega)) (by first | omega | (simp at *; omega)) (by first | omega | (dsimp only; omega) | (simp only [aN] at *; omega)) (by first | omega | (simp at *; omega)) Z Z Z) Z (ao ?_)))))
 refine js O Z (jf [7,2,0] Z (jl O Z (ao ?_)))
 refine jo O Z (ao ?_)
 refine aP (j3 O Z Z Z (aU O Z Z (jf [11,3,7,2,0] Z (AOps.heap (bd (ex := [.int .i64 0]) (xs' := ((List.replicate k 0 ++ [1] : List Int)).map (fun n => [D.int .i64 n])) O Z Z Z Z Z Z Z Z Z Z Z Z Z Z kO kN) Z (ao ?_)))))
 refine aP (js O Z (jo O Z (ao ?_)))
 refine jr ?_
 refine ⟨.inl Z, _, ak, _, Z, ?_⟩
 exact .v (.agg (.cons .d (.cons (.whole Z (by simp [ik])) .nil)))
theorem vY {vs : List Tm} (hc : CtxOk vs) (hm : t.xs.all num = true) (hn : num t.c = true) (hle : t.xs.length ≤ vs.length) : MQ h1 h2 134 [ptr t.cells, cD vs] [] (Plain (eM (eb t vs))) := by
 refine MC.data (jB 93 h1 h2 Tryz.func134 Z Z Z fun O hF => ?_)
 have hlc := hc.len
 have hnc := z7.1 hn
 have hl : t.xs.length ≤ L := by simpa [As.fact, A.fact, M.fact, D.fact, Ds.fact] using hF.1.2.1.1
 refine ac (jl O Z (js O Z (aP (j4 O Z Z Z Z (js O Z (jf [6,5,4,0,1] Z (aP (AOps.heap (cd O Z Z Z Z Z Z Z Z Z (by first | omega | (simp at *; omega)) (by first | omega | (simp at *; omega)) (by first | omega | (simp at *; omega)) (by first | omega | (dsimp only; omega) | (simp only [aN] at *; omega)) (by first | omega | (simp at *; omega)) Z Z Z) Z (js O Z (jn (af (ac (js O Z (jn (am (ap (X := Nat) (fun i => ⟨[(0, ptr t.cells), (1, cD vs), (4, .c (.pt 4 0 0)), (6, eI (t.c + cn Tm.c (vs.take i) (t.xs.take i))), (7, .c (.rs 14 0 10)), (8, eI i)], [(4, .box [.d (.int .i64 0), .d .nils]), (14, aD (bU (vs.take i) (t.xs.take i)))]⟩) (fun i => i ≤ t.xs.length) (fun i => t.xs.length - i) 0 (Ent.to ⟨Z, Z, Z, by show some (eI t.c) = _; simp [cn], Z, Z, trivial⟩ Z) ?_ (fun i hi => ?_)))))))))))))))))
 exact cm _
 refine af (ac (j4 O Z Z Z Z (js O Z (bo O Z (js O Z (jf [21,0,1,4,6,7,8] Z (jn (ab O Z Z (fun hc21 => ?_) (fun hc21 => ?_)))))))))
 try simp only [aN] at hc21
 refine ah (af (am (af (ac (j2 O Z Z (bo O Z (js O Z (jf [27,21,0,1,4,6,7,8] Z (jn (ab O Z Z (fun hc27 => ?_) (fun hc27 => ?_)))))))))))
 try simp only [aN] at hc27
 exact absurd hc27 (by omega)
 try simp only [aN] at hc27
 refine ah (af ?_)
 have hi0 := hi
 have f9 := Small.of (hc.get (show i < vs.length by omega))
 have hd1 := je (f := Tm.c) (ts := vs) (ms := t.xs) (fun t ht => (Small.of (hc.ok t ht)).c) hm (i := i) (by omega) hi
 have hd2 := fE (f := Tm.c) (ts := vs) (ms := t.xs) (i := i) (by omega) (by omega)
 have hmi : num (t.xs.getD i default) = true := by rw [ar (by omega)]; exact List.all_eq_true.1 hm _ (List.getElem_mem _)
 have hmu := et hmi f9.c
 refine fI O [_,_,_,_,_,_,_,_,_,_,_,_,_,_,_,_] [pn [] 0 0, pn [] 0 0, pn [1] 0 0, pn [1,2] 0 0, pn [1,2,3] 0 0, pn [] 0 0, pn (rg 1 5) 0 0, pn (rg 1 6) 0 0, pn [] 0 0, pn [] 0 0, pn [8,9] 0 0, pn [8,9,10] 0 0, pn (rg 8 4) 0 0, pn (rg 1 12) 0 0, pn (rg 0 14) 0 0, pn (rg 0 15) 0 0] [] [_] (kc O Z (kc O Z (kc O Z (kc O Z (kc O Z (kc O Z (ai (vN O Z) (kc O Z (kc O Z (kc O Z (ai (vN O Z) (kc O Z (kc O Z (ai (az O Z Z (by omega) (by omega)) (ai (az O Z Z (by omega) (by omega)) (kc O Z trivial)))))))))))))))) ?_
 refine jw [6,27,21,0,1,4,7,8] Z (ch ?_)
 refine ac (js O Z (jn (am (ap (X := Nat) (fun j => ⟨[(0, ptr t.cells), (1, cD vs), (4, .c (.pt 4 0 0)), (6, eI (t.c + cn Tm.c (vs.take i) (t.xs.take i) + t.xs.getD i default * (vs.getD i default).c)), (7, .c (.rs 14 0 10)), (8, eI i), (9, eI j)], [(4, .box [.d (.int .i64 0), .d .nils]), (14, aD (ef vs t.xs i j))]⟩) (fun j => j ≤ (vs.getD i default).xs.length) (fun j => (vs.getD i default).xs.length - j) 0 (((aw [4,14] (e' := [(0, _), (1, _), (4, _), (6, _), (7, _), (8, _), (9, _)]) Z Z ⟨Z, Z, Z, Z, Z, Z, Z, trivial⟩ Z)).trans (Ent.to ⟨Z, Z, Z, Z, Z, Z, Z, trivial⟩ (by rw [mB]; rfl))) ?_ (fun j hi => ?_)))))
 exact cm _
 refine af (ac (j3 O Z Z Z (kV O Z Z (j2 O Z Z (bo O Z (js O Z (jf [63,0,1,4,6,7,8,9] Z (jn (ab O Z Z (fun hc63 => ?_) (fun hc63 => ?_))))))))))
 try simp only [aN] at hc63
 refine ah (af (am ?_))
 have hjl : j < 10 := by have := pj (hc.get (show i < vs.length by omega)); omega
 have hpj := lx (ts := vs) (ms := t.xs) (i := i) hjl
 have hps := mD (ts := vs) (ms := t.xs) (i := i) hjl
 have hpl := dw (ts := vs) (ms := t.xs) (i := i) (j := j)
 have hd3 := je (f := nQ j) (ts := vs) (ms := t.xs) (fun t ht => (Small.of (hc.ok t ht)).get j) hm (i := i) (by omega) (by omega)
 have hmx := et hmi (f9.get j)
 rw [show (vs.getD i default).xs.getD j 0 = (vs.getD i default).xs.getD j default from Z] at hmx
 refine fI O [_,_,_,_,_,_,_,_,_,_,_,_,_,_,_,_,_,_,_,_,_,_,_] [pn [] 0 0, pn [] 0 0, pn [0,1] 0 0, pn [0,1,2] 0 0, pn [] 0 0, pn [4] 0 0, pn [4,5] 0 0, pn [4,5,6] 0 0, pn [] 0 0, pn (rg 4 5) 0 0, pn (rg 4 6) 0 0, pn [] 0 0, pn [] 0 0, pn [11,12] 0 0, pn [11,12,13] 0 0, pn (rg 11 4) 0 0, pn [] 0 0, pn (rg 11 6) 0 0, pn (rg 11 7) 0 0, pn (rg 4 15) 0 0, pn (rg 0 20) 0 0, pn (rg 0 21) 0 0, pe (rg 0 22) 0] [22] [_,_] (kc O Z (kc O Z (ai (vI O Z Z) (ai (av O (ex := [.int .i64 ((ef vs t.xs i j).getD j default)]) Z Z Z Z (ug (by omega)) Z) (kc O Z (kc O Z (kc O Z (kc O Z (kc O Z (ai (vN O Z) (kc O Z (kc O Z (kc O Z (ai (vN O Z) (kc O Z (kc O Z (kc O Z (ai (vN O Z) (kc O Z (ai (az O Z Z (by omega) (by omega)) (ai (az O Z Z (by omega) (by omega)) (ai (vI O Z Z) (ai (cI (ex := [.int .i64 ((ef vs t.xs i j).getD j default)]) (xs' := (ef vs t.xs i (j + 1)).map (fun n => [D.int .i64 n])) O Z Z Z Z Z Z Z Z Z Z Z Z Z Z Z (ug (by omega)) (by rw [← hps, List.map_set]; simp only [Int.toNat_natCast, Nat.zero_add]; rfl) Z) trivial))))))))))))))))))))))) ?_
 refine jw [63,0,1,4,6,7,8,9] Z (ch ?_)
 refine aj (js O Z (ji O Z (js O Z (jf [9,63,0,1,4,6,7,8] Z (jn ?_)))))
 refine ⟨j + 1, Ent.to ⟨Z, Z, Z, Z, Z, Z, Z, trivial⟩ Z, by omega, by omega⟩
 try simp only [aN] at hc63
 refine aQ (aj (js O Z (ji O Z (js O Z (jf [8,63,0,1,4,6,7,9] Z (jn ?_))))))
 refine ⟨i + 1, ((aw [4,14] (e' := [(0, _), (1, _), (4, _), (6, _), (7, _), (8, _)]) Z Z ⟨Z, Z, Z, Z, Z, Z, trivial⟩ Z)).trans (Ent.to ⟨Z, Z, Z, by rw [hd2, ← Int.add_assoc]; rfl, Z, Z, trivial⟩ ?_), by omega, by omega⟩
 rw [← ol (j := j) (by omega) (by omega) (by omega)]; rfl
 try simp only [aN] at hc21
 refine aQ (ac ?_)
 obtain rfl : i = t.xs.length := by omega
 have hcl := jC (ts := vs.take t.xs.length) (ms := t.xs.take t.xs.length)
 refine AOps.to (Ent.freeze 14 (e' := [(7, _), (6, _), (4, _)]) Z (.cons Z (.c (.row Z (by rw [bt, hcl]))) (fe [6,4] Z)) (.cons Z (.box (fk Z)) (.skip .nil))) ?_
 refine j2 O Z Z (ax O Z Z Z Z (yl (c := t.c + cn Tm.c (vs.take t.xs.length) (t.xs.take t.xs.length)) (xs := bU (vs.take t.xs.length) (t.xs.take t.xs.length)) h1 h2) (aa Z) Z Z Z Z (B0 := 91000) Z Z (j2 O Z Z (jf [92,91,7,6,4] Z (jo O Z (js O Z (jf [5,7,6,4] Z (jr ?_)))))))
 refine ⟨.inl Z, _, ak, _, Z, ?_⟩
 rw [← tA]
 exact .tup (.cons (.agg (aq Z)) (.cons (.c .d) .nil))
def oQ (i : Nat) : List Tm := (List.range i).map ik
def w0 (fs : List Tm) : Pw := ⟨oQ 4, fs, [], 4⟩
def g0 : Gs := ⟨[], [], false⟩
def cu : pc := fun t => kY ⟨7, []⟩ 1 t (-1)
def bE : pc := fun t => (em [⟨7, []⟩, t] [1, -1], (em [⟨7, []⟩, t] [1, -1]).ok)
theorem q9 {t : Tm} : cu t = if (em [⟨7, []⟩, t] [1, -1]).ok = true then (em [⟨7, []⟩, t] [1, -1], true) else (⟨0, []⟩, false) := by
 unfold cu kY r9
 have h1 : (1 * (⟨7, []⟩ : Tm).c + -1 * t.c) = cn Tm.c [⟨7, []⟩, t] [1, -1] := by
  simp only [cn] <;> omega
 have h2 : gb ⟨7, []⟩ 1 t (-1) = bU [⟨7, []⟩, t] [1, -1] := by
  unfold gb bU
  apply List.map_congr_left
  intro k _
  simp only [cn, nQ] <;> omega
 rw [h1, h2]
theorem BM : LaEq bE cu := by
 refine ⟨fun t _ => ?_, fun t _ h => ?_⟩
 rw [q9]; unfold bE; dsimp only
 cases h : (em [⟨7, []⟩, t] [1, -1]).ok <;> simp
 have h : (em [⟨7, []⟩, t] [1, -1]).ok = true := h
 rw [q9, if_pos h]; rfl
def eg (u t : Tm) : Tm × Bool := if (em [u, t] [1,1]).ok = true then (em [u, t] [1,1], true) else (⟨0, []⟩, false)
def ee (t : Tm) (n : Int) : Tm × Bool := if (em [t] [n]).ok = true then (em [t] [n], true) else (⟨0, []⟩, false)
theorem xK {u t : Tm} : kY t 1 u 1 = eg u t := by
 unfold kY r9 eg
 have h1 : (1 * t.c + 1 * u.c) = cn Tm.c [u, t] [1,1] := by simp only [cn] <;> omega
 have h2 : gb t 1 u 1 = bU [u, t] [1,1] := by
  unfold gb bU
  apply List.map_congr_left
  intro k _
  simp only [cn, nQ] <;> omega
 rw [h1, h2]
theorem wE {t : Tm} {n : Int} : kY t n ⟨0, []⟩ 0 = ee t n := by
 unfold kY r9 ee
 have h1 : (n * t.c + 0 * (⟨0, []⟩ : Tm).c) = cn Tm.c [t] [n] := by
  show n * t.c + 0 * 0 = n * t.c + 0
  omega
 have h2 : gb t n ⟨0, []⟩ 0 = bU [t] [n] := by
  unfold gb bU
  apply List.map_congr_left
  intro k _
  show n * t.xs.getD k 0 + 0 * ([] : List Int).getD k 0 = n * t.xs.getD k 0 + 0
  rw [Int.zero_mul]
 rw [h1, h2]
theorem vc {u t : Tm} : (eg u t).1.ok = true := by
 unfold eg; split
 assumption
 rfl
theorem uB {t : Tm} {n : Int} : (ee t n).1.ok = true := by
 unfold ee; split
 assumption
 rfl
abbrev tz : Tm := ⟨0, []⟩
structure Lf where
  w : Pw
  st : List Tm
  g : Gs
def nM (k : Nat) (st : List Tm) : List Tm × List Tm × Bool := if st.length < k then (List.replicate k tz, st, false) else (st.drop (st.length - k), st.take (st.length - k), true)
def aW (t : Tm) (ok : Bool) (z : Lf) : Lf := ⟨z.w, z.st ++ [t], (z.g.flag (!ok)).flag (decide (6 < (z.st ++ [t]).length))⟩
abbrev p0 (k : Nat) (st : List Tm) : Tm := (nM k st).1.getD 0 tz
abbrev p1 (k : Nat) (st : List Tm) : Tm := (nM k st).1.getD 1 tz
abbrev pR (k : Nat) (st : List Tm) : List Tm := (nM k st).2.1
abbrev pG (k : Nat) (st : List Tm) (g : Gs) : Gs := g.flag (!(nM k st).2.2)
def cg (x : In) (w : Pw) (st : List Tm) (g : Gs) : Lf :=
  if x.op = 0 then aW ⟨x.a, []⟩ true ⟨w, st, g⟩
  else if x.op = 1 then aW (w.vars.getD x.a.toNat tz) true ⟨w, st, g⟩
  else if x.op = 2 then ⟨w.set x.a.toNat (p0 1 st), pR 1 st, pG 1 st g⟩
  else if x.op = 3 then aW (eg (p0 2 st) (p1 2 st)).1 (eg (p0 2 st) (p1 2 st)).2 ⟨w, pR 2 st, pG 2 st g⟩
  else if x.op = 4 then aW (ee (p0 1 st) x.a).1 (ee (p0 1 st) x.a).2 ⟨w, pR 1 st, pG 1 st g⟩
  else if x.op = 7 then if w.sym = 10 then aW tz true ⟨w, pR 1 st, (aY bE w (p0 1 st) (pG 1 st g)).flag true⟩
    else aW (ik w.sym) true ⟨⟨w.vars, w.facts, w.ev, w.sym + 1⟩, pR 1 st, aY bE w (p0 1 st) (pG 1 st g)⟩
  else if x.op = 8 then ⟨w, pR 2 st, aY bE w (p0 2 st) (pG 2 st g)⟩
  else if x.op = 9 then ⟨⟨w.vars, w.facts, w.ev ++ [x.a], w.sym⟩, st, g⟩
  else if x.op = 10 then ⟨w.fact (p0 1 st), pR 1 st, ((pG 1 st g).goal w (p0 1 st)).flag (w.fact (p0 1 st)).long⟩
  else ⟨w, st, g⟩
abbrev bg (st : List Tm) : Tm := st.getD (st.length - 1) tz
abbrev jK (st : List Tm) : Tm := st.getD (st.length - 2) tz
abbrev cJ (st : List Tm) : List Tm := st.take (st.length - 1)
abbrev nH (st : List Tm) : List Tm := st.take (st.length - 2)
def cR (x : In) (st : List Tm) : Bool := decide ((st.length : Int) < (mv x).1) || decide (6 < (st.length : Int) - (mv x).1 + (mv x).2)
def dj (x : In) (w : Pw) (st : List Tm) (g : Gs) : Lf :=
  if cR x st = true then ⟨w, st, g.flag true⟩
  else if x.op = 0 then ⟨w, st ++ [⟨x.a, []⟩], g⟩
  else if x.op = 1 then ⟨w, st ++ [w.vars.getD x.a.toNat tz], g⟩
  else if x.op = 2 then ⟨w.set x.a.toNat (bg st), cJ st, g⟩
  else if x.op = 3 then ⟨w, nH st ++ [(eg (jK st) (bg st)).1], g.flag (!(eg (jK st) (bg st)).2)⟩
  else if x.op = 4 then ⟨w, cJ st ++ [(ee (bg st) x.a).1], g.flag (!(ee (bg st) x.a).2)⟩
  else if x.op = 7 then if w.sym = 10 then ⟨w, cJ st, (aY cu w (bg st) g).flag true⟩
    else ⟨⟨w.vars, w.facts, w.ev, w.sym + 1⟩, cJ st ++ [ik w.sym], aY cu w (bg st) g⟩
  else if x.op = 8 then ⟨w, nH st, aY cu w (jK st) g⟩
  else if x.op = 9 then ⟨⟨w.vars, w.facts, w.ev ++ [x.a], w.sym⟩, st, g⟩
  else if x.op = 10 then ⟨w.fact (bg st), cJ st, (g.goal w (bg st)).flag (w.fact (bg st)).long⟩
  else ⟨w, st, g⟩
def jJ (x : In) (k : Int) : Int := if x.op = 5 then x.a else k + 1
structure Ops where
  leaf : In → Pw → List Tm → Gs → Lf
  pend : Int → Pw → List Tm → Int → List Tm → Gs → Gs
def jL : Ops := ⟨cg, fun frm w st k fs g => if st.length = 0 then cj frm w k fs g else g.flag true⟩
def eZ : Ops := ⟨dj, fun frm w st k fs g => cj frm w k fs (g.flag (decide (0 < st.length)))⟩
def dC (ps : List Pt) (k : Int) : Int := qp (fun p => decide (p.k = k)) ps
theorem gO {ps : List Pt} {k : Int} : decide (0 ≤ dC ps k) = dB ps k := po
theorem na {ps : List Pt} {k : Int} (h : 0 ≤ dC ps k) : (dC ps k).toNat < ps.length := by
 unfold dC qp at h ⊢
 split
 rename_i ha
 rw [Int.toNat_natCast]
 exact List.findIdx_lt_length_of_exists (by simpa using List.any_eq_true.1 ha)
 rename_i ha; rw [if_neg ha] at h; exact absurd h (by decide)
abbrev oV (a : An) (k : Int) : List Tm := (a.pts.getD (dC a.pts k).toNat default).fs
def dL (X : Ops) (a : An) (frm : Int) : Nat → Int → Bool → Pw → List Tm → Gs → Gs
  | 0, _, _, _, _, g => g.flag true
  | n + 1, at_, begun, w, st, g => if g.bad = true then g else if dk a.code.length at_ = false then g.flag true
    else if (!begun && decide (0 ≤ dC a.pts at_)) = true then X.pend frm w st (dC a.pts at_) (oV a at_) g
    else if (a.code.getD at_.toNat default).op = 11 then cj frm w (-1) a.post g
    else if (a.code.getD at_.toNat default).op = 6 then if st.length = 0 then g.flag true
      else ga (fun u h => dL X a frm n (at_ + 1) false u (cJ st) h) (fun u h => dL X a frm n (a.code.getD at_.toNat default).a false u (cJ st) h) w (bg st) g
    else dL X a frm n (jJ (a.code.getD at_.toNat default) at_) false (X.leaf (a.code.getD at_.toNat default) w st g).w (X.leaf (a.code.getD at_.toNat default) w st g).st (X.leaf (a.code.getD at_.toNat default) w st g).g
theorem lE {g : Gs} (h : g.bad = true) {b : Bool} : g.flag b = g := by cases g; simp only at h; simp [Gs.flag, h]
theorem cb {X : Ops} {a : An} {frm : Int} {n : Nat} {at_ : Int} {b : Bool} {w : Pw} {st : List Tm} {g : Gs} (h : g.bad = true) : dL X a frm n at_ b w st g = g := by
 cases n with
 | zero => exact lE h
 | succ n => rw [dL, if_pos h]
section
variable {X : Ops} {a : An} {frm : Int} {n : Nat} {at_ : Int} {b : Bool} {w : Pw} {st : List Tm} {g : Gs}
theorem jj (h : g.bad = false) (hi : dk a.code.length at_ = false) : dL X a frm (n + 1) at_ b w st g = g.flag true := by
 rw [dL, if_neg (by rw [h]; decide), if_pos hi]
theorem j0 (h : g.bad = false) (hi : dk a.code.length at_ = true) (hp : (!b && decide (0 ≤ dC a.pts at_)) = true) : dL X a frm (n + 1) at_ b w st g = X.pend frm w st (dC a.pts at_) (oV a at_) g := by
 rw [dL, if_neg (by rw [h]; decide), if_neg (by rw [hi]; decide), if_pos hp]
theorem gA (h : g.bad = false) (hi : dk a.code.length at_ = true) (hp : (!b && decide (0 ≤ dC a.pts at_)) = false) (ho : (a.code.getD at_.toNat default).op = 11) : dL X a frm (n + 1) at_ b w st g = cj frm w (-1) a.post g := by
 rw [dL, if_neg (by rw [h]; decide), if_neg (by rw [hi]; decide), if_neg (by rw [hp]; decide), if_pos ho]
theorem jk (h : g.bad = false) (hi : dk a.code.length at_ = true) (hp : (!b && decide (0 ≤ dC a.pts at_)) = false) (ho : (a.code.getD at_.toNat default).op = 6) (hs : st.length = 0) : dL X a frm (n + 1) at_ b w st g = g.flag true := by
 rw [dL, if_neg (by rw [h]; decide), if_neg (by rw [hi]; decide), if_neg (by rw [hp]; decide), if_neg (by rw [ho]; decide), if_pos ho, if_pos hs]
theorem gz (h : g.bad = false) (hi : dk a.code.length at_ = true) (hp : (!b && decide (0 ≤ dC a.pts at_)) = false) (ho : (a.code.getD at_.toNat default).op = 6) (hs : st.length ≠ 0) : dL X a frm (n + 1) at_ b w st g =
    ga (fun u h => dL X a frm n (at_ + 1) false u (cJ st) h) (fun u h => dL X a frm n (a.code.getD at_.toNat default).a false u (cJ st) h) w (bg st) g := by
 rw [dL, if_neg (by rw [h]; decide), if_neg (by rw [hi]; decide), if_neg (by rw [hp]; decide), if_neg (by rw [ho]; decide), if_pos ho, if_neg hs]
theorem ft (h : g.bad = false) (hi : dk a.code.length at_ = true) (hp : (!b && decide (0 ≤ dC a.pts at_)) = false) (h11 : (a.code.getD at_.toNat default).op ≠ 11) (h6 : (a.code.getD at_.toNat default).op ≠ 6) : dL X a frm (n + 1) at_ b w st g =
    dL X a frm n (jJ (a.code.getD at_.toNat default) at_) false (X.leaf (a.code.getD at_.toNat default) w st g).w (X.leaf (a.code.getD at_.toNat default) w st g).st (X.leaf (a.code.getD at_.toNat default) w st g).g := by
 rw [dL, if_neg (by rw [h]; decide), if_neg (by rw [hi]; decide), if_neg (by rw [hp]; decide), if_neg h11, if_neg h6]
theorem fF {P : Gs → Prop} (hbad : g.bad = true → P g) (hgood : g.bad = false →
      (dk a.code.length at_ = false → P (g.flag true)) ∧ (dk a.code.length at_ = true →
      ((!b && decide (0 ≤ dC a.pts at_)) = true → P (X.pend frm w st (dC a.pts at_) (oV a at_) g)) ∧ ((!b && decide (0 ≤ dC a.pts at_)) = false →
      ((a.code.getD at_.toNat default).op = 11 → P (cj frm w (-1) a.post g)) ∧ ((a.code.getD at_.toNat default).op = 6 → (st.length = 0 → P (g.flag true)) ∧ (st.length ≠ 0 → P (ga (fun u h => dL X a frm n (at_ + 1) false u (cJ st) h) (fun u h => dL X a frm n (a.code.getD at_.toNat default).a false u (cJ st) h) w (bg st) g))) ∧
      ((a.code.getD at_.toNat default).op ≠ 11 → (a.code.getD at_.toNat default).op ≠ 6 → P (dL X a frm n (jJ (a.code.getD at_.toNat default) at_) false (X.leaf (a.code.getD at_.toNat default) w st g).w (X.leaf (a.code.getD at_.toNat default) w st g).st (X.leaf (a.code.getD at_.toNat default) w st g).g))))) : P (dL X a frm (n + 1) at_ b w st g) := by
 cases h : g.bad with
 | true => rw [cb h]; exact hbad h
 | false =>
  obtain ⟨q1, q2⟩ := hgood h
  cases hi : dk a.code.length at_ with
  | false => rw [jj h hi]; exact q1 hi
  | true =>
   obtain ⟨q3, q4⟩ := q2 hi
   cases hp : (!b && decide (0 ≤ dC a.pts at_)) with
   | true => rw [j0 h hi hp]; exact q3 hp
   | false =>
    obtain ⟨q5, q6, q7⟩ := q4 hp
    by_cases h11 : (a.code.getD at_.toNat default).op = 11
    rw [gA h hi hp h11]; exact q5 h11
    by_cases h6 : (a.code.getD at_.toNat default).op = 6
    by_cases hs : st.length = 0
    rw [jk h hi hp h6 hs]; exact (q6 h6).1 hs
    rw [gz h hi hp h6 hs]; exact (q6 h6).2 hs
    rw [ft h hi hp h11 h6]; exact q7 h11 h6
end
theorem GEq.end {g h : Gs} (e : GEq g h) {frm : Int} {w : Pw} {to : Int} {fs : List Tm} : GEq (cj frm w to fs g) (cj frm w to fs h) := by
 rcases e.cases with rfl | ⟨h1, h2⟩
 exact .refl
 exact .of (jd h1) (jd h2)
theorem cp {g : Gs} : (g.flag true).bad = true := by simp [Gs.flag]
theorem eW {g : Gs} : g.flag false = g := by simp [Gs.flag]
theorem q8 {w : Pw} {t : Tm} (ht : t.ok = true) {g h : Gs} (e : GEq g h) : GEq (aY bE w t g) (aY cu w t h) := by
 have h2 := BM.two t ht
 have h1 := BM.one t ht
 unfold aY
 cases hb : (bE t).2 with
 | true =>
  rw [← h2, h1 hb, hb]
  exact (GEq.flag (GEq.goal e)).goal
 | false =>
  rw [← h2, hb]
  exact .of (by simp [Gs.goal, Gs.flag]) (by simp [Gs.goal, Gs.flag])
structure LEq (x y : Lf) : Prop where
  g : GEq x.g y.g
  w : x.g.bad = false → x.w = y.w ∧ x.st = y.st
theorem LEq.of {x y : Lf} (hx : x.g.bad = true) (hy : y.g.bad = true) : LEq x y := ⟨.of hx hy, fun e => by rw [hx] at e; cases e⟩
theorem lh {k : Nat} {st : List Tm} (h : k ≤ st.length) : nM k st = (st.drop (st.length - k), st.take (st.length - k), true) := if_neg (by omega)
theorem ph {k : Nat} {st : List Tm} (h : st.length < k) : nM k st = (List.replicate k tz, st, false) := if_pos h
theorem sk {st : List Tm} (h : 1 ≤ st.length) : p0 1 st = bg st := by
 unfold p0; rw [lh h]; simp [List.getD_eq_getElem?_getD]
theorem wj {st : List Tm} (h : 2 ≤ st.length) : p0 2 st = jK st := by
 unfold p0; rw [lh h]; simp [List.getD_eq_getElem?_getD]
theorem x6 {st : List Tm} (h : 2 ≤ st.length) : p1 2 st = bg st := by
 unfold p1; rw [lh h]; simp [List.getD_eq_getElem?_getD, show st.length - 2 + 1 = st.length - 1 by omega]
theorem fo {la : pc} {w : Pw} {t : Tm} {g : Gs} (h : g.bad = true) : (aY la w t g).bad = true := by simp [aY, Gs.goal, Gs.flag, h]
theorem cN {t : Tm} {ok : Bool} {z : Lf} (h : z.g.bad = true) : (aW t ok z).g.bad = true := by simp [aW, Gs.flag, h]
theorem qU {t : Tm} {ok : Bool} {z : Lf} (h : 6 ≤ z.st.length) : (aW t ok z).g.bad = true := by
 have : 6 < (z.st ++ [t]).length := by simp; omega
 simp only [aW, Gs.flag, decide_eq_true this, Bool.or_true]
theorem kR {t : Tm} {ok : Bool} {z : Lf} (h : z.st.length < 6) : aW t ok z = ⟨z.w, z.st ++ [t], z.g.flag (!ok)⟩ := by
 have : ¬ 6 < (z.st ++ [t]).length := by simp; omega
 simp only [aW, decide_eq_false this, eW]
theorem eE {g : Gs} (h : g.bad = true) {b : Bool} : (g.flag b).bad = true := by simp [Gs.flag, h]
theorem wL {x : In} {st : List Tm} (hm : mv x = (0, 1)) (hl : st.length ≤ 6) : cR x st = decide (st.length = 6) := by
 unfold cR; rw [hm]
 by_cases h : st.length = 6
 rw [decide_eq_true h]; simp only [Bool.or_eq_true, decide_eq_true_eq]; omega
 rw [decide_eq_false h]; simp only [Bool.or_eq_false_iff, decide_eq_false_iff_not]; omega
theorem low_1 {x : In} {st : List Tm} (hm : (mv x).1 = 1) (hl : st.length ≤ 6) : cR x st = decide (st.length = 0) := by
 have := (dG (x := x)).2
 unfold cR; rw [hm]
 by_cases h : st.length = 0
 rw [decide_eq_true h]; simp only [Bool.or_eq_true, decide_eq_true_eq]; omega
 rw [decide_eq_false h]; simp only [Bool.or_eq_false_iff, decide_eq_false_iff_not]; omega
theorem y7 {x : In} {st : List Tm} (hm : (mv x).1 = 2) (hl : st.length ≤ 6) : cR x st = decide (st.length < 2) := by
 have := (dG (x := x)).2
 unfold cR; rw [hm]
 by_cases h : st.length < 2
 rw [decide_eq_true h]; simp only [Bool.or_eq_true, decide_eq_true_eq]; omega
 rw [decide_eq_false h]; simp only [Bool.or_eq_false_iff, decide_eq_false_iff_not]; omega
theorem s6 {x : In} {st : List Tm} (hm : mv x = (0, 0)) (hl : st.length ≤ 6) : cR x st = false := by
 unfold cR; rw [hm]; simp only [Bool.or_eq_false_iff, decide_eq_false_iff_not]; omega
theorem km {k : Nat} {st : List Tm} {g : Gs} (h : k ≤ st.length) : pG k st g = g := by unfold pG; rw [lh h]; exact eW
theorem vq {k : Nat} {st : List Tm} {g : Gs} (h : st.length < k) : (pG k st g).bad = true := by unfold pG; rw [ph h]; exact cp
theorem kl {k : Nat} {st : List Tm} (h : k ≤ st.length) : pR k st = st.take (st.length - k) := by unfold pR; rw [lh h]
theorem s7 {x : In} {w : Pw} {st : List Tm} {g : Gs} (hs : ∀ t ∈ st, t.ok = true) (hl : st.length ≤ 6) (h6 : x.op ≠ 6) : LEq (cg x w st g) (dj x w st g) := by
 have mem : ∀ i, i < st.length → (st.getD i tz).ok = true := fun i hi => by
  rw [List.getD_eq_getElem?_getD, List.getElem?_eq_getElem hi]; exact hs _ (List.getElem_mem hi)
 have fin : ∀ {t : Tm} {ok : Bool} {z : Lf}, z.st.length < 6 → LEq (aW t ok z) ⟨z.w, z.st ++ [t], z.g.flag (!ok)⟩ := fun h => by
  rw [kR h]; exact ⟨.refl, fun _ => ⟨rfl, rfl⟩⟩
 by_cases e0 : x.op = 0 ∨ x.op = 1
 have hm : mv x = (0, 1) := if_pos e0
 have hlow := wL (st := st) hm hl
 by_cases h : st.length = 6
 rw [decide_eq_true h] at hlow
 rw [show dj x w st g = ⟨w, st, g.flag true⟩ from if_pos hlow]
 refine .of ?_ cp
 rcases e0 with e | e
 have hI : cg x w st g = aW ⟨x.a, []⟩ true ⟨w, st, g⟩ := by unfold cg; rw [if_pos e]
 rw [hI]; exact qU (by show 6 ≤ st.length; omega)
 have hI : cg x w st g = aW (w.vars.getD x.a.toNat tz) true ⟨w, st, g⟩ := by unfold cg; rw [if_neg (by omega), if_pos e]
 rw [hI]; exact qU (by show 6 ≤ st.length; omega)
 rw [decide_eq_false h] at hlow
 have hlt : st.length < 6 := by omega
 rcases e0 with e | e
 have hI : cg x w st g = aW ⟨x.a, []⟩ true ⟨w, st, g⟩ := by unfold cg; rw [if_pos e]
 have hS : dj x w st g = ⟨w, st ++ [⟨x.a, []⟩], g⟩ := by unfold dj; rw [if_neg (c := cR x st = true) (by rw [hlow]; decide), if_pos e]
 rw [hI, hS, kR hlt, Bool.not_true, eW]; exact ⟨.refl, fun _ => ⟨rfl, rfl⟩⟩
 have hI : cg x w st g = aW (w.vars.getD x.a.toNat tz) true ⟨w, st, g⟩ := by unfold cg; rw [if_neg (by omega), if_pos e]
 have hS : dj x w st g = ⟨w, st ++ [w.vars.getD x.a.toNat tz], g⟩ := by unfold dj; rw [if_neg (c := cR x st = true) (by rw [hlow]; decide), if_neg (by omega), if_pos e]
 rw [hI, hS, kR hlt, Bool.not_true, eW]; exact ⟨.refl, fun _ => ⟨rfl, rfl⟩⟩
 by_cases e1 : x.op = 2 ∨ x.op = 4 ∨ x.op = 7 ∨ x.op = 10
 have hm : (mv x).1 = 1 := by
  unfold mv
  rcases e1 with e | e | e | e <;> simp [e]
 have hlow := low_1 (st := st) hm hl
 by_cases h : st.length = 0
 rw [decide_eq_true h] at hlow
 rw [show dj x w st g = ⟨w, st, g.flag true⟩ from if_pos hlow]
 refine .of ?_ cp
 have hb : (pG 1 st g).bad = true := vq (by omega)
 rcases e1 with e | e | e | e
 have hI : cg x w st g = ⟨w.set x.a.toNat (p0 1 st), pR 1 st, pG 1 st g⟩ := by unfold cg; rw [if_neg (by omega), if_neg (by omega), if_pos e]
 rw [hI]; exact hb
 have hI : cg x w st g = aW (ee (p0 1 st) x.a).1 (ee (p0 1 st) x.a).2 ⟨w, pR 1 st, pG 1 st g⟩ := by unfold cg; rw [if_neg (by omega), if_neg (by omega), if_neg (by omega), if_neg (by omega), if_pos e]
 rw [hI]; exact cN hb
 have hI : cg x w st g = if w.sym = 10 then aW tz true ⟨w, pR 1 st, (aY bE w (p0 1 st) (pG 1 st g)).flag true⟩ else aW (ik w.sym) true ⟨⟨w.vars, w.facts, w.ev, w.sym + 1⟩, pR 1 st, aY bE w (p0 1 st) (pG 1 st g)⟩ := by unfold cg; rw [if_neg (by omega), if_neg (by omega), if_neg (by omega), if_neg (by omega), if_neg (by omega), if_pos e]
 rw [hI]; split
 exact cN cp
 exact cN (fo hb)
 have hI : cg x w st g = ⟨w.fact (p0 1 st), pR 1 st, ((pG 1 st g).goal w (p0 1 st)).flag (w.fact (p0 1 st)).long⟩ := by unfold cg; rw [if_neg (by omega), if_neg (by omega), if_neg (by omega), if_neg (by omega), if_neg (by omega), if_neg (by omega), if_neg (by omega), if_neg (by omega), if_pos e]
 rw [hI]; exact eE hb
 rw [decide_eq_false h] at hlow
 have h1 : 1 ≤ st.length := by omega
 have ht := mem (st.length - 1) (by omega)
 have h9 : (st.take (st.length - 1)).length < 6 := by rw [List.length_take]; omega
 rcases e1 with e | e | e | e
 have hI : cg x w st g = ⟨w.set x.a.toNat (p0 1 st), pR 1 st, pG 1 st g⟩ := by unfold cg; rw [if_neg (by omega), if_neg (by omega), if_pos e]
 have hS : dj x w st g = ⟨w.set x.a.toNat (bg st), cJ st, g⟩ := by unfold dj; rw [if_neg (c := cR x st = true) (by rw [hlow]; decide), if_neg (by omega), if_neg (by omega), if_pos e]
 rw [hI, hS, sk h1, km h1, kl h1]; exact ⟨.refl, fun _ => ⟨rfl, rfl⟩⟩
 have hI : cg x w st g = aW (ee (p0 1 st) x.a).1 (ee (p0 1 st) x.a).2 ⟨w, pR 1 st, pG 1 st g⟩ := by unfold cg; rw [if_neg (by omega), if_neg (by omega), if_neg (by omega), if_neg (by omega), if_pos e]
 have hS : dj x w st g = ⟨w, cJ st ++ [(ee (bg st) x.a).1], g.flag (!(ee (bg st) x.a).2)⟩ := by unfold dj; rw [if_neg (c := cR x st = true) (by rw [hlow]; decide), if_neg (by omega), if_neg (by omega), if_neg (by omega), if_neg (by omega), if_pos e]
 rw [hI, hS, sk h1, km h1, kl h1]; exact fin h9
 have hI : cg x w st g = if w.sym = 10 then aW tz true ⟨w, pR 1 st, (aY bE w (p0 1 st) (pG 1 st g)).flag true⟩ else aW (ik w.sym) true ⟨⟨w.vars, w.facts, w.ev, w.sym + 1⟩, pR 1 st, aY bE w (p0 1 st) (pG 1 st g)⟩ := by unfold cg; rw [if_neg (by omega), if_neg (by omega), if_neg (by omega), if_neg (by omega), if_neg (by omega), if_pos e]
 have hS : dj x w st g = if w.sym = 10 then ⟨w, cJ st, (aY cu w (bg st) g).flag true⟩ else ⟨⟨w.vars, w.facts, w.ev, w.sym + 1⟩, cJ st ++ [ik w.sym], aY cu w (bg st) g⟩ := by unfold dj; rw [if_neg (c := cR x st = true) (by rw [hlow]; decide), if_neg (by omega), if_neg (by omega), if_neg (by omega), if_neg (by omega), if_neg (by omega), if_pos e]
 rw [hI, hS, sk h1, km h1, kl h1]
 by_cases hy : w.sym = 10
 rw [if_pos hy, if_pos hy]; exact .of (cN cp) cp
 rw [if_neg hy, if_neg hy, kR h9, Bool.not_true, eW]
 exact ⟨q8 ht .refl, fun _ => ⟨Z, Z⟩⟩
 have hI : cg x w st g = ⟨w.fact (p0 1 st), pR 1 st, ((pG 1 st g).goal w (p0 1 st)).flag (w.fact (p0 1 st)).long⟩ := by unfold cg; rw [if_neg (by omega), if_neg (by omega), if_neg (by omega), if_neg (by omega), if_neg (by omega), if_neg (by omega), if_neg (by omega), if_neg (by omega), if_pos e]
 have hS : dj x w st g = ⟨w.fact (bg st), cJ st, (g.goal w (bg st)).flag (w.fact (bg st)).long⟩ := by unfold dj; rw [if_neg (c := cR x st = true) (by rw [hlow]; decide), if_neg (by omega), if_neg (by omega), if_neg (by omega), if_neg (by omega), if_neg (by omega), if_neg (by omega), if_neg (by omega), if_neg (by omega), if_pos e]
 rw [hI, hS, sk h1, km h1, kl h1]; exact ⟨.refl, fun _ => ⟨rfl, rfl⟩⟩
 by_cases e2 : x.op = 3 ∨ x.op = 8
 have hm : (mv x).1 = 2 := by
  unfold mv
  rcases e2 with e | e <;> simp [e]
 have hlow := y7 (st := st) hm hl
 by_cases h : st.length < 2
 rw [decide_eq_true h] at hlow
 rw [show dj x w st g = ⟨w, st, g.flag true⟩ from if_pos hlow]
 refine .of ?_ cp
 have hb : (pG 2 st g).bad = true := vq (by omega)
 rcases e2 with e | e
 have hI : cg x w st g = aW (eg (p0 2 st) (p1 2 st)).1 (eg (p0 2 st) (p1 2 st)).2 ⟨w, pR 2 st, pG 2 st g⟩ := by unfold cg; rw [if_neg (by omega), if_neg (by omega), if_neg (by omega), if_pos e]
 rw [hI]; exact cN hb
 have hI : cg x w st g = ⟨w, pR 2 st, aY bE w (p0 2 st) (pG 2 st g)⟩ := by unfold cg; rw [if_neg (by omega), if_neg (by omega), if_neg (by omega), if_neg (by omega), if_neg (by omega), if_neg (by omega), if_pos e]
 rw [hI]; exact fo hb
 rw [decide_eq_false h] at hlow
 have h1 : 2 ≤ st.length := by omega
 have ht := mem (st.length - 2) (by omega)
 have h9 : (st.take (st.length - 2)).length < 6 := by rw [List.length_take]; omega
 rcases e2 with e | e
 have hI : cg x w st g = aW (eg (p0 2 st) (p1 2 st)).1 (eg (p0 2 st) (p1 2 st)).2 ⟨w, pR 2 st, pG 2 st g⟩ := by unfold cg; rw [if_neg (by omega), if_neg (by omega), if_neg (by omega), if_pos e]
 have hS : dj x w st g = ⟨w, nH st ++ [(eg (jK st) (bg st)).1], g.flag (!(eg (jK st) (bg st)).2)⟩ := by unfold dj; rw [if_neg (c := cR x st = true) (by rw [hlow]; decide), if_neg (by omega), if_neg (by omega), if_neg (by omega), if_pos e]
 rw [hI, hS, wj h1, x6 h1, km h1, kl h1]; exact fin h9
 have hI : cg x w st g = ⟨w, pR 2 st, aY bE w (p0 2 st) (pG 2 st g)⟩ := by unfold cg; rw [if_neg (by omega), if_neg (by omega), if_neg (by omega), if_neg (by omega), if_neg (by omega), if_neg (by omega), if_pos e]
 have hS : dj x w st g = ⟨w, nH st, aY cu w (jK st) g⟩ := by unfold dj; rw [if_neg (c := cR x st = true) (by rw [hlow]; decide), if_neg (by omega), if_neg (by omega), if_neg (by omega), if_neg (by omega), if_neg (by omega), if_neg (by omega), if_pos e]
 rw [hI, hS, wj h1, km h1, kl h1]; exact ⟨q8 ht .refl, fun _ => ⟨rfl, rfl⟩⟩
 have hm : mv x = (0, 0) := by
  unfold mv
  rw [if_neg e0, if_neg (by omega), if_neg (by omega), if_neg (by omega), if_neg (by omega)]
 have hlow := s6 (st := st) hm hl
 by_cases e9 : x.op = 9
 have hI : cg x w st g = ⟨⟨w.vars, w.facts, w.ev ++ [x.a], w.sym⟩, st, g⟩ := by unfold cg; rw [if_neg (by omega), if_neg (by omega), if_neg (by omega), if_neg (by omega), if_neg (by omega), if_neg (by omega), if_neg (by omega), if_pos e9]
 have hS : dj x w st g = ⟨⟨w.vars, w.facts, w.ev ++ [x.a], w.sym⟩, st, g⟩ := by unfold dj; rw [if_neg (c := cR x st = true) (by rw [hlow]; decide), if_neg (by omega), if_neg (by omega), if_neg (by omega), if_neg (by omega), if_neg (by omega), if_neg (by omega), if_neg (by omega), if_pos e9]
 rw [hI, hS]; exact ⟨.refl, fun _ => ⟨rfl, rfl⟩⟩
 have hI : cg x w st g = ⟨w, st, g⟩ := by unfold cg; rw [if_neg (by omega), if_neg (by omega), if_neg (by omega), if_neg (by omega), if_neg (by omega), if_neg (by omega), if_neg (by omega), if_neg (by omega), if_neg (by omega)]
 have hS : dj x w st g = ⟨w, st, g⟩ := by unfold dj; rw [if_neg (c := cR x st = true) (by rw [hlow]; decide), if_neg (by omega), if_neg (by omega), if_neg (by omega), if_neg (by omega), if_neg (by omega), if_neg (by omega), if_neg (by omega), if_neg (by omega), if_neg (by omega)]
 rw [hI, hS]; exact ⟨.refl, fun _ => ⟨rfl, rfl⟩⟩
theorem uP {x : In} {w : Pw} {st : List Tm} {g : Gs} (h : g.bad = true) : (cg x w st g).g.bad = true := by
 unfold cg
 split
 exact cN h
 split
 exact cN h
 split
 exact eE h
 split
 exact cN (eE h)
 split
 exact cN (eE h)
 split
 split
 exact cN cp
 exact cN (fo (eE h))
 split
 exact fo (eE h)
 split
 exact h
 split
 exact eE (eE h)
 exact h
theorem uO {x : In} {w : Pw} {st : List Tm} {g : Gs} (h : g.bad = true) : (dj x w st g).g.bad = true := by
 unfold dj
 split
 exact cp
 split
 exact h
 split
 exact h
 split
 exact h
 split
 exact eE h
 split
 exact eE h
 split
 split
 exact cp
 exact fo h
 split
 exact fo h
 split
 exact h
 split
 exact eE h
 exact h
structure CW (m : Nat) (w : Pw) (st : List Tm) : Prop where
  vars : w.vars.length = 4
  vok : ∀ t ∈ w.vars, t.ok = true
  facts : w.facts.length ≤ 12
  ev : w.ev.length + m ≤ 110
  sym : w.sym ≤ 10
  sok : ∀ t ∈ st, t.ok = true
  len : st.length ≤ 6
theorem gm : tz.ok = true := by decide
theorem dQ {ts : List Tm} (h : ∀ t ∈ ts, t.ok = true) {i : Nat} : (ts.getD i tz).ok = true := by
 rw [List.getD_eq_getElem?_getD]
 by_cases hi : i < ts.length
 rw [List.getElem?_eq_getElem hi]; exact h _ (List.getElem_mem hi)
 rw [List.getElem?_eq_none (by omega)]; exact gm
theorem sX {k : Nat} {st : List Tm} (h : ∀ t ∈ st, t.ok = true) : (∀ t ∈ (nM k st).1, t.ok = true) ∧ (∀ t ∈ pR k st, t.ok = true) ∧ (pR k st).length ≤ st.length := by
 unfold pR nM
 split
 exact ⟨fun t ht => by rw [List.eq_of_mem_replicate ht]; exact gm, h, bw _⟩
 exact ⟨fun t ht => h t (List.mem_of_mem_drop ht), fun t ht => h t (List.mem_of_mem_take ht), by simp only [List.length_take]; omega⟩
theorem tT {c : Int} (h : num c = true) : (⟨c, []⟩ : Tm).ok = true := Bv.2 ⟨h, rfl, cm _, .inl rfl⟩
theorem uA {ts : List Tm} {t : Tm} (h : ∀ t ∈ ts, t.ok = true) (ht : t.ok = true) : ∀ u ∈ ts ++ [t], u.ok = true := fun u hu => by
 rcases List.mem_append.1 hu with hu | hu
 exact h u hu
 simp only [List.mem_singleton] at hu; subst hu; exact ht
theorem CW.leaf {m : Nat} {x : In} {w : Pw} {st : List Tm} {g : Gs} (h : CW (m + 1) w st) (hx : aV x = true) (hb : (cg x w st g).g.bad = false) : CW m (cg x w st g).w (cg x w st g).st := by
 obtain ⟨h1, h2, h3, h4, h5, h6, h7⟩ := h
 have q1 := sX (k := 1) h6
 have q2 := sX (k := 2) h6
 have push : ∀ {t : Tm} {ok : Bool} {u : Pw} {s : List Tm} {g : Gs}, (aW t ok ⟨u, s, g⟩).g.bad = false → t.ok = true → (∀ t ∈ s, t.ok = true) → (u.vars = w.vars ∧ u.facts = w.facts ∧ u.ev = w.ev ∧ u.sym ≤ 10) → CW m (aW t ok ⟨u, s, g⟩).w (aW t ok ⟨u, s, g⟩).st := by
  intro t ok u s g hb ht hs ⟨a, b, c, d⟩
  simp only [aW, Gs.flag, Bool.or_eq_false_iff, decide_eq_false_iff_not] at hb
  exact ⟨by rw [show (aW t ok ⟨u, s, g⟩).w = u from Z, a]; exact h1, by rw [show (aW t ok ⟨u, s, g⟩).w = u from Z, a]; exact h2, by rw [show (aW t ok ⟨u, s, g⟩).w = u from Z, b]; exact h3, by rw [show (aW t ok ⟨u, s, g⟩).w = u from Z, c]; omega, d, uA hs ht, by have := hb.2; exact Nat.le_of_not_lt this⟩
 unfold cg at hb ⊢
 split
 rename_i e
 rw [if_pos e] at hb
 have hn : num x.a = true := by unfold aV at hx; rw [if_pos (.inl e)] at hx; exact hx
 exact push hb (tT hn) h6 ⟨Z, Z, Z, h5⟩
 rename_i e0; rw [if_neg e0] at hb
 split
 rename_i e
 rw [if_pos e] at hb
 exact push hb (dQ h2) h6 ⟨Z, Z, Z, h5⟩
 rename_i e1; rw [if_neg e1] at hb
 split
 exact ⟨by simp [Pw.set, h1], wD h2 (dQ q1.1), h3, by show w.ev.length + m ≤ 110; omega, h5, q1.2.1, Nat.le_trans q1.2.2 h7⟩
 rename_i e2; rw [if_neg e2] at hb
 split
 rename_i e
 rw [if_pos e] at hb
 exact push hb vc q2.2.1 ⟨Z, Z, Z, h5⟩
 rename_i e3; rw [if_neg e3] at hb
 split
 rename_i e
 rw [if_pos e] at hb
 exact push hb uB q1.2.1 ⟨Z, Z, Z, h5⟩
 rename_i e4; rw [if_neg e4] at hb
 split
 rename_i e
 rw [if_pos e] at hb
 split
 rename_i e9
 rw [if_pos e9] at hb
 rw [cN cp] at hb; cases hb
 rename_i e9
 rw [if_neg e9] at hb
 exact push hb (wx (by omega)) q1.2.1 ⟨Z, Z, Z, by show w.sym + 1 ≤ 10; omega⟩
 rename_i e5; rw [if_neg e5] at hb
 split
 exact ⟨h1, h2, h3, by show w.ev.length + m ≤ 110; omega, h5, q2.2.1, Nat.le_trans q2.2.2 h7⟩
 rename_i e6; rw [if_neg e6] at hb
 split
 exact ⟨h1, h2, h3, by simp only [c9, ij]; omega, h5, h6, h7⟩
 rename_i e7; rw [if_neg e7] at hb
 split
 rename_i e
 rw [if_pos e] at hb
 simp only [Gs.flag, Bool.or_eq_false_iff] at hb
 have := bn hb.2
 exact ⟨h1, h2, Nat.le_of_not_lt this, by show w.ev.length + m ≤ 110; omega, h5, q1.2.1, Nat.le_trans q1.2.2 h7⟩
 exact ⟨h1, h2, h3, by show w.ev.length + m ≤ 110; omega, h5, h6, h7⟩
theorem CW.test {m : Nat} {w : Pw} {st : List Tm} (h : CW (m + 1) w st) {t : Tm} (hb : (w.fact t).long = false) : CW m (w.fact t) (cJ st) :=
  ⟨h.vars, h.vok, Nat.le_of_not_lt (bn hb), by have := h.ev; show w.ev.length + m ≤ 110; omega, h.sym, fun t ht => h.sok t (List.mem_of_mem_take ht), by have := h.len; simp only [cJ, List.length_take]; omega⟩
theorem i9 {w : Pw} {t u : Tm} : (w.fact t).long = (w.fact u).long := by simp [Pw.long, Pw.fact]
theorem wN {frm : Int} {w : Pw} {st : List Tm} {k : Int} {fs : List Tm} {g h : Gs} (e : GEq g h) : GEq (jL.pend frm w st k fs g) (eZ.pend frm w st k fs h) := by
 show GEq (if st.length = 0 then cj frm w k fs g else g.flag true) (cj frm w k fs (h.flag (decide (0 < st.length))))
 split
 rename_i hz
 rw [decide_eq_false (by omega), eW]; exact e.end
 rename_i hz
 rw [decide_eq_true (by omega)]
 exact .of cp (jd cp)
theorem ln {a : An} {frm : Int} (hc : ∀ x ∈ a.code, aV x = true) : ∀ {n : Nat} {at_ : Int} {b : Bool} {w : Pw} {st : List Tm} {g h : Gs}, (g.bad = false → CW n w st) → GEq g h → GEq (dL jL a frm n at_ b w st g) (dL eZ a frm n at_ b w st h)
 | 0, at_, b, w, st, g, h, _, e => e.flag
 | n + 1, at_, b, w, st, g, h, hw, e => by
  rcases e.cases with rfl | ⟨h1, h2⟩
  refine fF (P := fun z => GEq z (dL eZ a frm (n + 1) at_ b w st g)) (fun hb => by rw [cb hb]; exact .refl) (fun hb => ?_)
  have hw := hw hb
  refine ⟨fun hi => by rw [jj hb hi]; exact .refl, fun hi => ⟨fun hp => by rw [j0 hb hi hp]; exact wN .refl, fun hp => ⟨fun ho => by rw [gA hb hi hp ho]; exact .refl, fun ho => ⟨fun hs => by rw [jk hb hi hp ho hs]; exact .refl, fun hs => ?_⟩, fun h11 h6 => ?_⟩⟩⟩
  rw [gz hb hi hp ho hs]
  unfold ga
  have k1 : ((g.flag (!(bK (bg st)).2)).flag (w.fact (bg st)).long).bad = false → (w.fact (bg st)).long = false := fun h => by
   simp only [Gs.flag, Bool.or_eq_false_iff] at h; exact h.2
  have e1 := ln hc (n := n) (at_ := at_ + 1) (b := false) (w := w.fact (bg st)) (st := cJ st) (g := (g.flag (!(bK (bg st)).2)).flag (w.fact (bg st)).long) (h := (g.flag (!(bK (bg st)).2)).flag (w.fact (bg st)).long) (frm := frm) (fun hb2 => hw.test (k1 hb2)) .refl
  refine ln hc (fun hb2 => ?_) e1
  refine hw.test ?_
  rw [i9 (u := bg st)]
  refine k1 ?_
  cases hq : ((g.flag (!(bK (bg st)).2)).flag (w.fact (bg st)).long).bad with
  | false => rfl
  | true =>
   have hb3 : (dL jL a frm n (at_ + 1) false (w.fact (bg st)) (cJ st) ((g.flag (!(bK (bg st)).2)).flag (w.fact (bg st)).long)).bad = false := hb2
   rw [cb hq, hq] at hb3; cases hb3
  rw [ft hb hi hp h11 h6]
  have hin := uS.1 hi
  have hx : aV (a.code.getD at_.toNat default) = true := by
   rw [ar (by omega)]; exact hc _ (List.getElem_mem (by omega))
  have le := s7 (x := a.code.getD at_.toNat default) (w := w) (g := g) hw.sok hw.len h6
  show GEq (dL jL a frm n _ false (cg _ w st g).w (cg _ w st g).st (cg _ w st g).g) (dL eZ a frm n _ false (dj _ w st g).w (dj _ w st g).st (dj _ w st g).g)
  cases hq : (cg (a.code.getD at_.toNat default) w st g).g.bad with
  | true => rw [cb hq, cb (by rw [← le.g.bad]; exact hq)]; exact le.g
  | false =>
   rw [← (le.w hq).1, ← (le.w hq).2]
   exact ln hc (fun _ => hw.leaf hx hq) le.g
  rw [cb h1, cb h2]; exact .of h1 h2
structure Sim (P : List Pth) (C : List Sq) (g h : Gs) : Prop where
  ok : g.bad = false → h.bad = false ∧ g.paths = P ++ h.paths ∧ g.conds = C ++ h.conds ∧ g.paths.length ≤ 200
  bad : g.bad = true → h.bad = true ∨ 200 < P.length + h.paths.length
theorem Sim.flag {P C g h} (s : Sim P C g h) {b : Bool} : Sim P C (g.flag b) (h.flag b) := by
 refine ⟨fun e => ?_, fun e => ?_⟩
 simp only [Gs.flag, Bool.or_eq_false_iff] at e ⊢
 have := s.ok e.1
 exact ⟨⟨this.1, e.2⟩, this.2⟩
 simp only [Gs.flag, Bool.or_eq_true] at e ⊢
 rcases e with e | e
 exact (s.bad e).imp .inl id
 exact .inl (.inr e)
theorem Sim.goal {P C g h} (s : Sim P C g h) {w : Pw} {t : Tm} : Sim P C (g.goal w t) (h.goal w t) :=
  ⟨fun e => by
 have := s.ok e
 exact ⟨this.1, this.2.1, by simp only [Gs.goal, this.2.2.1, er], this.2.2.2⟩, fun e => s.bad e⟩
theorem Sim.path {P C g h} (s : Sim P C g h) {frm : Int} {w : Pw} {to : Int} : Sim P C (el frm w to g) (el frm w to h) := by
 refine ⟨fun e => ?_, fun e => ?_⟩
 simp only [el, Bool.or_eq_false_iff, decide_eq_false_iff_not] at e ⊢
 have := s.ok e.1
 have hl := congrArg List.length this.2.1
 rw [c9] at hl
 refine ⟨⟨this.1, by omega⟩, by rw [this.2.1, er], this.2.2.1, ?_⟩
 rw [c9, ij]; omega
 simp only [el, Bool.or_eq_true, decide_eq_true_eq] at e ⊢
 rw [c9, ij]
 cases hb : g.bad with
 | true =>
  rcases s.bad hb with h1 | h1
  exact .inl (.inl h1)
  exact .inr (by omega)
 | false =>
  have := s.ok hb
  have hl := congrArg List.length this.2.1
  rw [c9] at hl
  rcases e with e | e
  rw [hb] at e; cases e
  exact .inr (by omega)
theorem Sim.fold {P C} {w : Pw} : ∀ {fs : List Tm} {g h : Gs}, Sim P C g h → Sim P C (fs.foldl (bf w) g) (fs.foldl (bf w) h)
 | [], g, h, s => s
 | t :: fs, g, h, s => Sim.fold (fs := fs) (s.flag.goal : Sim P C (bf w g t) (bf w h t))
theorem Sim.end {P C g h} (s : Sim P C g h) {frm : Int} {w : Pw} {to : Int} {fs : List Tm} : Sim P C (cj frm w to fs g) (cj frm w to fs h) := s.fold.path
theorem Sim.last {la : pc} {P C g h} (s : Sim P C g h) {w : Pw} {t : Tm} : Sim P C (aY la w t g) (aY la w t h) := s.goal.flag.goal
theorem Sim.push {P C} {t : Tm} {ok : Bool} {u : Pw} {s : List Tm} {g h : Gs} (z : Sim P C g h) : Sim P C (aW t ok ⟨u, s, g⟩).g (aW t ok ⟨u, s, h⟩).g := z.flag.flag
theorem Sim.leaf {P C g h} (s : Sim P C g h) {x : In} {w : Pw} {st : List Tm} : ((cg x w st g).w = (cg x w st h).w ∧ (cg x w st g).st = (cg x w st h).st) ∧ Sim P C (cg x w st g).g (cg x w st h).g := by
 unfold cg
 split
 exact ⟨⟨Z, Z⟩, s.push⟩
 split
 exact ⟨⟨Z, Z⟩, s.push⟩
 split
 exact ⟨⟨Z, Z⟩, s.flag⟩
 split
 exact ⟨⟨Z, Z⟩, s.flag.push⟩
 split
 exact ⟨⟨Z, Z⟩, s.flag.push⟩
 split
 split
 exact ⟨⟨Z, Z⟩, s.flag.last.flag.push⟩
 exact ⟨⟨Z, Z⟩, s.flag.last.push⟩
 split
 exact ⟨⟨Z, Z⟩, s.flag.last⟩
 split
 exact ⟨⟨Z, Z⟩, s⟩
 split
 exact ⟨⟨Z, Z⟩, s.flag.goal.flag⟩
 exact ⟨⟨Z, Z⟩, s⟩
def Grow (g h : Gs) : Prop := g.paths.length ≤ h.paths.length ∧ (g.bad = true → h.bad = true)
theorem Grow.refl {g : Gs} : Grow g g := ⟨bw _, id⟩
theorem Grow.trans {g h k : Gs} (a : Grow g h) (b : Grow h k) : Grow g k := ⟨Nat.le_trans a.1 b.1, fun e => b.2 (a.2 e)⟩
theorem Grow.flag {g : Gs} {b : Bool} : Grow g (g.flag b) := ⟨bw _, fun e => by simp [Gs.flag, e]⟩
theorem Grow.goal {g : Gs} {w : Pw} {t : Tm} : Grow g (g.goal w t) := ⟨bw _, id⟩
theorem Grow.end {g : Gs} {frm : Int} {w : Pw} {to : Int} {fs : List Tm} : Grow g (cj frm w to fs g) :=
  ⟨by
    have h3 := congrArg List.length (dq (fs := fs) (w := w) (g := g))
    simp only [cj, el, c9, ij]; omega, fun e => jd e⟩
theorem Grow.last {la : pc} {g : Gs} {w : Pw} {t : Tm} : Grow g (aY la w t g) := (Grow.goal.trans .flag).trans .goal
theorem xL {g : Gs} {x : In} {w : Pw} {st : List Tm} : Grow g (cg x w st g).g := by
 have push : ∀ {t : Tm} {ok : Bool} {u : Pw} {s : List Tm} {h : Gs}, Grow g h → Grow g (aW t ok ⟨u, s, h⟩).g := fun h => h.trans (Grow.flag.trans .flag)
 unfold cg
 split
 exact push .refl
 split
 exact push .refl
 split
 exact .flag
 split
 exact push .flag
 split
 exact push .flag
 split
 split
 exact push ((Grow.flag.trans .last).trans .flag)
 exact push (Grow.flag.trans .last)
 split
 exact Grow.flag.trans .last
 split
 exact .refl
 split
 exact (Grow.flag.trans .goal).trans .flag
 exact .refl
theorem lJ {a : An} {frm : Int} : ∀ {n : Nat} {at_ : Int} {b : Bool} {w : Pw} {st : List Tm} {g : Gs}, Grow g (dL jL a frm n at_ b w st g)
 | 0, at_, b, w, st, g => .flag
 | n + 1, at_, b, w, st, g => by
  refine fF (P := fun z => Grow g z) (fun _ => .refl) (fun hb => ⟨fun _ => .flag, fun hi => ⟨fun hp => ?_, fun hp => ⟨fun _ => .end, fun _ => ⟨fun _ => .flag, fun _ => ?_⟩, fun _ _ => xL.trans lJ⟩⟩⟩)
  show Grow g (if st.length = 0 then _ else _)
  split
  exact .end
  exact .flag
  unfold ga
  exact (Grow.flag.trans .flag).trans (lJ.trans lJ)
theorem Sim.grow {P C g h k} (s : Sim P C g h) (hg : g.bad = true) (a : Grow h k) : Sim P C g k :=
  ⟨fun e => absurd (hg.symm.trans e) (by decide), fun _ => (s.bad hg).imp a.2 (fun h => by have := a.1; omega)⟩
theorem jh {a : An} {frm : Int} {P C} : ∀ {n : Nat} {at_ : Int} {b : Bool} {w : Pw} {st : List Tm} {g h : Gs}, Sim P C g h → Sim P C (dL jL a frm n at_ b w st g) (dL jL a frm n at_ b w st h)
 | 0, at_, b, w, st, g, h, s => s.flag
 | n + 1, at_, b, w, st, g, h, s => by
  refine fF (P := fun z => Sim P C z (dL jL a frm (n + 1) at_ b w st h)) (fun hb => s.grow hb lJ) (fun hb => ?_)
  have hc := (s.ok hb).1
  refine ⟨fun hi => by rw [jj hc hi]; exact s.flag, fun hi => ⟨fun hp => ?_, fun hp => ⟨fun ho => by rw [gA hc hi hp ho]; exact s.end, fun ho => ⟨fun hs => by rw [jk hc hi hp ho hs]; exact s.flag, fun hs => ?_⟩, fun h11 h6 => ?_⟩⟩⟩
  rw [j0 hc hi hp]
  show Sim P C (if st.length = 0 then _ else _) (if st.length = 0 then _ else _)
  split
  exact s.end
  exact s.flag
  rw [gz hc hi hp ho hs]
  unfold ga
  exact jh (jh s.flag.flag)
  rw [ft hc hi hp h11 h6]
  have q := s.leaf (x := a.code.getD at_.toNat default) (w := w) (st := st)
  show Sim P C (dL jL a frm n _ false (cg _ w st g).w (cg _ w st g).st (cg _ w st g).g) (dL jL a frm n _ false (cg _ w st h).w (cg _ w st h).st (cg _ w st h).g)
  rw [q.1.1, q.1.2]
  exact jh q.2
def fK (X : Ops) (a : An) : Nat → Gs → Gs
  | 0, g => dL X a (-1) 100 0 false (w0 a.pre) [] g
  | n + 1, g => dL X a (n : Nat) 100 (a.pts.getD n default).k true (w0 (a.pts.getD n default).fs) [] g
def kW (a : An) : Nat → Gs
  | 0 => g0
  | i + 1 => fK jL a i (kW a i)
def ew (a : An) : Nat → Gs
  | 0 => g0
  | i + 1 => if (ew a i).bad = true then ew a i else ⟨(ew a i).paths ++ (fK eZ a i g0).paths, (ew a i).conds ++ (fK eZ a i g0).conds, (fK eZ a i g0).bad || decide (200 < ((ew a i).paths ++ (fK eZ a i g0).paths).length)⟩
theorem wt : ∀ t ∈ oQ 4, t.ok = true := by decide
theorem ki {fs : List Tm} (h : fs.length ≤ 6) : CW 100 (w0 fs) [] := ⟨rfl, wt, by show fs.length ≤ 12; omega, by show 0 + 100 ≤ 110; decide, by show 4 ≤ 10; decide, by simp, by simp⟩
structure VA' (a : An) : Prop where
  ok : AOk a
  pre : cf a.pre 6 = true
  post : cf a.post 6 = true
  pts : ∀ p ∈ a.pts, cf p.fs 6 = true ∧ 0 ≤ p.k ∧ p.k < a.code.length
  n0 : 0 < a.code.length
theorem fV {a : An} (h : cK a = true) : VA' a := by
 have h0 := u9 h
 simp only [cK, eo, da, bF, decide_eq_true_eq] at h
 obtain ⟨⟨h1, h2, h3⟩, h4, h5, h6, h7⟩ := h
 refine ⟨h0, h4, h5, fun p hp => ?_, by omega⟩
 obtain ⟨i, hi, rfl⟩ := List.getElem_of_mem hp
 have := List.all_eq_true.1 h7 i (List.mem_range.2 hi)
 simp only [rv, da, bF, decide_eq_true_eq, ar hi] at this
 exact ⟨this.1.2, by omega, by omega⟩
theorem VA'.pt {a : An} (h : VA' a) {n : Nat} (hn : n < a.pts.length) : cf (a.pts.getD n default).fs 6 = true ∧ 0 ≤ (a.pts.getD n default).k ∧ (a.pts.getD n default).k < a.code.length := by
 rw [ar hn]; exact h.pts _ (List.getElem_mem hn)
theorem wP {a : An} (h : VA' a) {n : Nat} (hn : n ≤ a.pts.length) {g : Gs} : GEq (fK jL a n g) (fK eZ a n g) := by
 cases n with
 | zero => exact ln h.ok.code (fun _ => ki h.ok.npre) .refl
 | succ n => exact ln h.ok.code (fun _ => ki (cP (n := 6) (h.pt (by omega)).1)) .refl
theorem nr {X : Ops} {a : An} {n : Nat} {g : Gs} (h : g.bad = true) : fK X a n g = g := by
 cases n with
 | zero => exact cb h
 | succ n => exact cb h
theorem uV {a : An} {P C} {n : Nat} {g h : Gs} (s : Sim P C g h) : Sim P C (fK jL a n g) (fK jL a n h) := by
 cases n with
 | zero => exact jh s
 | succ n => exact jh s
theorem vA {a : An} (h : VA' a) : ∀ n, n ≤ a.pts.length + 1 → GEq (kW a n) (ew a n) ∧ ((kW a n).bad = false → (kW a n).paths.length ≤ 200)
 | 0, _ => ⟨.refl, fun _ => cm _⟩
 | n + 1, hn => by
  obtain ⟨e, hl⟩ := vA h n (by omega)
  rw [kW, ew]
  cases hb : (kW a n).bad with
  | true =>
   rw [if_pos (by rw [← e.bad]; exact hb), nr hb]
   exact ⟨e, fun h => by rw [hb] at h; cases h⟩
  | false =>
   have ha := e.eq hb
   rw [← ha, if_neg (by rw [hb]; decide)]
   have s0 : Sim (kW a n).paths (kW a n).conds (kW a n) g0 := ⟨fun _ => ⟨rfl, by simp [g0], by simp [g0], hl hb⟩, fun h => absurd (hb.symm.trans h) (by decide)⟩
   have s := uV (a := a) (n := n) s0
   have q := wP h (n := n) (by omega) (g := g0)
   generalize fK jL a n (kW a n) = x at s ⊢
   generalize fK jL a n g0 = y at s q
   generalize fK eZ a n g0 = z at q ⊢
   refine ⟨?_, fun h => (s.ok h).2.2.2⟩
   cases hc : x.bad with
   | false =>
    obtain ⟨a1, a2, a3, a4⟩ := s.ok hc
    have a5 := q.eq a1
    subst a5
    rw [← a2, ← a3, a1, decide_eq_false (show ¬ 200 < x.paths.length by omega)]
    have e : (⟨x.paths, x.conds, false || false⟩ : Gs) = x := by cases x; simp only at hc; subst hc; rfl
    rw [e]
    exact .refl
   | true =>
    refine .of hc ?_
    have : z.bad = true ∨ 200 < ((kW a n).paths ++ z.paths).length := by
     cases hd : y.bad with
     | true => exact .inl (by rw [← q.bad]; exact hd)
     | false =>
      have a6 := q.eq hd
      subst a6
      rcases s.bad hc with h | h
      exact .inl h
      exact .inr (by rw [c9]; exact h)
    rcases this with h | h
    simp [h]
    simp only [decide_eq_true h, Bool.or_true]
structure GC (n : Nat) (g : Gs) : Prop where
  paths : g.paths.length ≤ 201
  good : g.bad = false → g.paths.length ≤ 200
  conds : g.conds.length ≤ 210 * g.paths.length + 2 * (100 - n)
structure GD (g : Gs) : Prop where
  paths : g.paths.length ≤ 201
  good : g.bad = false → g.paths.length ≤ 200 ∧ g.conds.length ≤ 210 * g.paths.length
  conds : g.conds.length ≤ 210 * g.paths.length + 210
theorem GC.lt {n : Nat} {g : Gs} (h : GC n g) : g.conds.length ≤ 42410 := by have := h.paths; have := h.conds; omega
theorem GD.lt {g : Gs} (h : GD g) : g.conds.length ≤ 42420 := by have := h.paths; have := h.conds; omega
theorem GC.bad {n : Nat} {g : Gs} (h : GC n g) (hb : g.bad = true) : GD g := ⟨h.paths, fun e => absurd (hb.symm.trans e) (by decide), by have := h.conds; omega⟩
theorem GD.start {g : Gs} (h : GD g) (hb : g.bad = false) : GC 100 g := ⟨h.paths, fun e => (h.good e).1, by have := (h.good hb).2; omega⟩
theorem GC.flag {n : Nat} {g : Gs} (h : GC n g) {b : Bool} : GC n (g.flag b) := ⟨h.paths, fun e => h.good (by simp only [Gs.flag, Bool.or_eq_false_iff] at e; exact e.1), h.conds⟩
theorem GC.more {n : Nat} {g h : Gs} (hn : n + 1 ≤ 100) (a : GC (n + 1) g) (hp : h.paths = g.paths) (hb : h.bad = false → g.bad = false) (hc : h.conds.length ≤ g.conds.length + 2) : GC n h :=
  ⟨by rw [hp]; exact a.paths, fun e => by rw [hp]; exact a.good (hb e), by have := a.conds; rw [hp]; omega⟩
theorem GC.end {n : Nat} {g : Gs} (h : GC n g) (hb : g.bad = false) {frm : Int} {w : Pw} {to : Int} {fs : List Tm} (hf : fs.length ≤ 6) : GD (cj frm w to fs g) := by
 have h2 := h.good hb
 have h3 := congrArg List.length (dq (fs := fs) (w := w) (g := g))
 have key : ∀ {fs : List Tm} {g : Gs}, (fs.foldl (bf w) g).conds.length = g.conds.length + fs.length := fun {fs} => by
  induction fs with
  | nil => intro g; rfl
  | cons t fs ih =>
    intro g
    rw [List.foldl_cons, ih]
    simp only [bf, i1, Gs.goal, Gs.flag, c9, jI, List.length_nil]; omega
 have h4 := key (fs := fs) (g := g)
 have h5 := h.conds
 refine ⟨?_, fun e => ?_, ?_⟩
 simp only [cj, el, c9, ij]; omega
 simp only [cj, el, Bool.or_eq_false_iff, decide_eq_false_iff_not] at e
 simp only [cj, el, c9, ij]; omega
 simp only [cj, el, c9, ij]; omega
theorem zb {x : In} {w : Pw} {st : List Tm} {g : Gs} : (cg x w st g).g.paths = g.paths ∧ ((cg x w st g).g.bad = false → g.bad = false) ∧ (cg x w st g).g.conds.length ≤ g.conds.length + 2 := by
 refine ⟨?_, fun e => ?_, ?_⟩
 unfold cg; repeat' (first | rfl | split)
 cases h : g.bad with
 | false => rfl
 | true => rw [uP h] at e; cases e
 unfold cg
 split
 exact Nat.le_add_right _ _
 split
 exact Nat.le_add_right _ _
 split
 exact Nat.le_add_right _ _
 split
 exact Nat.le_add_right _ _
 split
 exact Nat.le_add_right _ _
 split
 split
 simp only [aW, aY, pG, Gs.goal, Gs.flag, c9, ij]; omega
 simp only [aW, aY, pG, Gs.goal, Gs.flag, c9, ij]; omega
 split
 simp only [aW, aY, pG, Gs.goal, Gs.flag, c9, ij]; omega
 split
 exact Nat.le_add_right _ _
 split
 simp only [aW, aY, pG, Gs.goal, Gs.flag, c9, ij]; omega
 exact Nat.le_add_right _ _
theorem y8 {x : In} {w : Pw} {st : List Tm} {g : Gs} : (dj x w st g).g.paths = g.paths ∧ ((dj x w st g).g.bad = false → g.bad = false) ∧ (dj x w st g).g.conds.length ≤ g.conds.length + 2 := by
 refine ⟨?_, fun e => ?_, ?_⟩
 unfold dj; repeat' (first | rfl | split)
 cases h : g.bad with
 | false => rfl
 | true => rw [uO h] at e; cases e
 unfold dj
 split
 exact Nat.le_add_right _ _
 split
 exact Nat.le_add_right _ _
 split
 exact Nat.le_add_right _ _
 split
 exact Nat.le_add_right _ _
 split
 exact Nat.le_add_right _ _
 split
 exact Nat.le_add_right _ _
 split
 split
 simp only [aY, Gs.goal, Gs.flag, c9, ij]; omega
 simp only [aY, Gs.goal, Gs.flag, c9, ij]; omega
 split
 simp only [aY, Gs.goal, Gs.flag, c9, ij]; omega
 split
 exact Nat.le_add_right _ _
 split
 simp only [Gs.goal, Gs.flag, c9, ij]; omega
 exact Nat.le_add_right _ _
structure XOk (X : Ops) : Prop where
  leaf : ∀ x w st g, (X.leaf x w st g).g.paths = g.paths ∧ ((X.leaf x w st g).g.bad = false → g.bad = false) ∧ (X.leaf x w st g).g.conds.length ≤ g.conds.length + 2
  pend : ∀ frm w st k fs g n, GC n g → g.bad = false → fs.length ≤ 6 → GD (X.pend frm w st k fs g)
theorem wM {frm : Int} {w : Pw} {k : Int} {fs : List Tm} {g : Gs} {n : Nat} {b : Bool} (h : GC n g) (hb : g.bad = false) (hf : fs.length ≤ 6) : GD (cj frm w k fs (g.flag b)) := by
 cases b with
 | false => rw [eW]; exact h.end hb hf
 | true =>
  have h2 := h.good hb
  have h3 := congrArg List.length (dq (fs := fs) (w := w) (g := g.flag true))
  have key : ∀ {fs : List Tm} {g : Gs}, (fs.foldl (bf w) g).conds.length = g.conds.length + fs.length := fun {fs} => by
   induction fs with
   | nil => intro g; rfl
   | cons t fs ih =>
     intro g
     rw [List.foldl_cons, ih]
     simp only [bf, i1, Gs.goal, Gs.flag, c9, jI, List.length_nil]; omega
  have h4 := key (fs := fs) (g := g.flag true)
  have h5 := h.conds
  have h6 : (cj frm w k fs (g.flag true)).bad = true := jd cp
  have e1 : (g.flag true).paths = g.paths := rfl
  have e2 : (g.flag true).conds = g.conds := rfl
  rw [e1] at h3; rw [e2] at h4
  refine ⟨?_, fun e => ?_, ?_⟩
  simp only [cj, el, c9, ij]; omega
  rw [h6] at e; cases e
  simp only [cj, el, c9, ij]; omega
theorem vn : XOk jL := ⟨fun x w st g => zb, fun frm w st k fs g n h hb hf => by
 show GD (if st.length = 0 then _ else _)
 split
 exact h.end hb hf
 exact (h.flag (b := true)).bad cp⟩
theorem vm : XOk eZ := ⟨fun x w st g => y8, fun frm w st k fs g n h hb hf => wM h hb hf⟩
theorem uF {a : An} (h : VA' a) {k : Int} : (oV a k).length ≤ 6 := by
 unfold oV
 by_cases hk : (dC a.pts k).toNat < a.pts.length
 exact cP (n := 6) (h.pt hk).1
 rw [List.getD_eq_getElem?_getD, List.getElem?_eq_none (by omega)]; exact cm _
theorem GD.any {g : Gs} (h : GD g) (hb : g.bad = false) {n : Nat} : GC n g := ⟨h.paths, fun e => (h.good e).1, by have := (h.good hb).2; omega⟩
theorem iJ {X : Ops} (hX : XOk X) {a : An} (ha : VA' a) {frm : Int} : ∀ {n : Nat} {at_ : Int} {b : Bool} {w : Pw} {st : List Tm} {g : Gs}, n ≤ 100 → GC n g → GD (dL X a frm n at_ b w st g)
 | 0, at_, b, w, st, g, _, h => (h.flag (b := true)).bad cp
 | n + 1, at_, b, w, st, g, hn, h => by
  refine fF (P := GD) (fun hb => h.bad hb) (fun hb => ⟨fun _ => (h.flag (b := true)).bad cp, fun hi => ⟨fun hp => hX.pend _ _ _ _ _ _ _ h hb (uF ha), fun hp => ⟨fun _ => h.end hb ha.ok.npost, fun _ => ⟨fun _ => (h.flag (b := true)).bad cp, fun _ => ?_⟩, fun _ _ => ?_⟩⟩⟩)
  unfold ga
  have h1 := iJ hX ha (frm := frm) (n := n) (at_ := at_ + 1) (b := false) (w := w.fact (bg st)) (st := cJ st) (g := (g.flag (!(bK (bg st)).2)).flag (w.fact (bg st)).long) (by omega) (h.more hn Z (fun e => by simp only [Gs.flag, Bool.or_eq_false_iff] at e; exact e.1.1) (Nat.le_add_right _ _))
  cases hq : (dL X a frm n (at_ + 1) false (w.fact (bg st)) (cJ st) ((g.flag (!(bK (bg st)).2)).flag (w.fact (bg st)).long)).bad with
  | true => show GD (dL X a frm n _ false _ _ (dL X a frm n _ false _ _ _)); rw [cb hq]; exact h1
  | false => exact iJ hX ha (by omega) (h1.any hq)
  have q := hX.leaf (a.code.getD at_.toNat default) w st g
  exact iJ hX ha (by omega) (h.more hn q.1 q.2.1 q.2.2)
theorem vv : GD g0 := ⟨cm _, fun _ => ⟨cm _, cm _⟩, cm _⟩
theorem tc {X : Ops} (hX : XOk X) {a : An} (ha : VA' a) {n : Nat} {g : Gs} (h : GD g) : GD (fK X a n g) := by
 cases hb : g.bad with
 | true => rw [nr hb]; exact h
 | false =>
  cases n with
  | zero => exact iJ hX ha (bw _) (h.start hb)
  | succ n => exact iJ hX ha (bw _) (h.start hb)
theorem th {a : An} (ha : VA' a) : ∀ n, GD (kW a n)
 | 0 => vv
 | n + 1 => tc vn ha (th ha n)
def FuOk (a : An) (n : Nat) (at_ : Int) (b : Bool) : Prop := 1 ≤ n ∧ (dk a.code.length at_ = true → (!b && decide (0 ≤ dC a.pts at_)) = false → rk a at_.toNat + 2 ≤ n)
theorem FuOk.step {a : An} {n : Nat} {at_ : Int} {b : Bool} (hc : dF a = true) (h : FuOk a (n + 1) at_ b) (hi : dk a.code.length at_ = true) (hp : (!b && decide (0 ≤ dC a.pts at_)) = false) {z : Int} (hz : z ∈ oU a.code at_.toNat) : FuOk a n z false := by
 have h2 := h.2 hi hp
 refine ⟨by omega, fun hzi hzp => ?_⟩
 rw [Bool.not_false, Bool.true_and, gO] at hzp
 have := yT hc (z9.2 ⟨hz, uS.1 hzi, hzp⟩)
 omega
theorem FuOk.start {a : An} (h : VA' a) {at_ : Int} {b : Bool} : FuOk a 100 at_ b := ⟨by decide, fun _ _ => by
 have := yU (a := a) (k := at_.toNat)
 have := h.ok.len
 omega⟩
theorem s3 {a : An} {at_ : Int} (hi : dk a.code.length at_ = true) (h11 : (a.code.getD at_.toNat default).op ≠ 11) (h6 : (a.code.getD at_.toNat default).op ≠ 6) : jJ (a.code.getD at_.toNat default) at_ ∈ oU a.code at_.toNat := by
 have := uS.1 hi
 have e : ((at_.toNat : Nat) : Int) = at_ := by omega
 show _ ∈ tg _ _
 rw [e]
 unfold jJ tg
 rw [if_neg h11]
 split
 simp
 simp
theorem qN {a : An} {at_ : Int} (hi : dk a.code.length at_ = true) (h6 : (a.code.getD at_.toNat default).op = 6) : at_ + 1 ∈ oU a.code at_.toNat ∧ (a.code.getD at_.toNat default).a ∈ oU a.code at_.toNat := by
 have := uS.1 hi
 have e : ((at_.toNat : Nat) : Int) = at_ := by omega
 have : ∀ z, z ∈ nI (a.code.getD at_.toNat default) at_ → z ∈ oU a.code at_.toNat := fun z hz => by
  show z ∈ tg _ _
  rw [e]; exact z6.1 hz
 constructor
 refine this _ ?_
 unfold nI; rw [if_neg (by omega), if_neg (by omega), if_pos h6]; simp
 refine this _ ?_
 unfold nI; rw [if_neg (by omega), if_neg (by omega), if_pos h6]; simp
variable {a : An}
theorem io {k : Int} : MQ h1 h2 106 [ptr a.data, eI k] [] (Plain (eI (dC a.pts k))) := by
 refine aA ?_ Z
 refine jB 26 h1 h2 Tryz.func106 Z Z Z fun O hF => ?_
 have hlp : a.pts.length ≤ L := by simpa [As.fact, A.fact, M.fact, D.fact, Ds.fact] using hF.1.2.2.2.1.1
 refine ac (js O Z (jn (af (ac (js O Z (jn (am (ap (X := Nat) (fun i => ⟨[(0, ptr a.data), (1, eI k), (5, eI i)], []⟩) (fun i => i ≤ a.pts.length ∧ ∀ j (h : j < a.pts.length), j < i → (fun p : Pt => decide (p.k = k)) a.pts[j] = false) (fun i => a.pts.length - i) 0 (Ent.env ⟨Z, Z, Z, trivial⟩) ?_ (fun i hi => ?_)))))))))
 exact ⟨cm _, fun j h hj => absurd hj (Nat.not_lt_zero j)⟩
 refine af (ac (j4 O Z Z Z Z (js O Z ?_)))
 first | refine bo O Z ?_ | refine js O Z ?_ | refine aU O Z Z ?_
 refine js O Z (jf [12,0,1,5] Z (jn (ab O Z Z (fun hc12 => ?_) (fun hc12 => ?_))))
 refine ah (af (am (ac ?_)))
 have hil : i < a.pts.length := by have := aR hc12; omega
 refine j4 O Z Z Z Z (js O Z ?_)
 first | refine kV O Z Z ?_ | refine f7 O Z Z ?_ | refine aU O Z Z ?_
 refine j4 O Z Z Z Z (jf [24,12,0,1,5] Z (jn (ab O Z Z (fun hc24 => ?_) (fun hc24 => ?_))))
 refine ac (j2 O Z Z (jr ?_))
 refine ⟨.inl Z, _, ak, _, Z, ?_⟩
 rw [show dC a.pts k = i from nd hil hi.2 (by rw [← ar hil]; exact hc24)]
 refine ah (aj (js O Z ?_))
 first | refine ji O Z ?_ | refine aU O Z Z ?_
 refine js O Z (jf [5,24,12,0,1] Z (jn ?_))
 refine ⟨i + 1, Ent.env ⟨Z, Z, Z, trivial⟩, ⟨by omega, fun j h hj => ?_⟩, by omega⟩
 by_cases e : j = i
 subst e; rw [← ar h]; exact hc24
 exact hi.2 j h (by omega)
 refine aQ (ac (js O Z (jr ?_)))
 refine ⟨.inl Z, _, ak, _, Z, ?_⟩
 have h9 := bn hc12
 rw [show dC a.pts k = -1 from nc fun j hj => hi.2 j hj (by omega)]
variable {x : In}
theorem k9 : MQ h1 h2 107 [eI x.op] [] (Plain (.tup [eI (mv x).1, eI (mv x).2])) := by
 refine MC.data (jB 19 h1 h2 Tryz.func107 Z Z Z fun O hF => ?_)
 refine ac (j2 O Z Z (jn (af (ac (js O Z (jn (am (af (ac (j2 O Z Z (jn (ab O Z Z (fun hc5 => ?_) (fun hc5 => ?_)))))))))))))
 try simp only [aN] at hc5
 refine ah (ab O Z Z (fun hc5 => ?_) (fun hc5 => ?_))
 try simp only [aN] at hc5
 refine ac (j2 O Z Z (jr ?_))
 refine ⟨.inl Z, _, ak, _, Z, ?_⟩
 rw [show mv x = (0, 1) by unfold mv; simp_all]
 exact .tup (.cons (.c .d) (.cons (.c .d) .nil))
 try simp only [aN] at hc5
 contradiction
 try simp only [aN] at hc5
 refine aj (j2 O Z Z (jn (ab O Z Z (fun hc5 => ?_) (fun hc5 => ?_))))
 try simp only [aN] at hc5
 refine ac (j2 O Z Z (jr ?_))
 refine ⟨.inl Z, _, ak, _, Z, ?_⟩
 rw [show mv x = (0, 1) by unfold mv; simp_all]
 exact .tup (.cons (.c .d) (.cons (.c .d) .nil))
 try simp only [aN] at hc5
 refine af (ac (j2 O Z Z (jn (ab O Z Z (fun hc8 => ?_) (fun hc8 => ?_)))))
 try simp only [aN] at hc8
 refine ah (ab O Z Z (fun hc8 => ?_) (fun hc8 => ?_))
 try simp only [aN] at hc8
 refine ac (j2 O Z Z (jr ?_))
 refine ⟨.inl Z, _, ak, _, Z, ?_⟩
 rw [show mv x = (1, 0) by unfold mv; simp_all]
 exact .tup (.cons (.c .d) (.cons (.c .d) .nil))
 try simp only [aN] at hc8
 contradiction
 try simp only [aN] at hc8
 refine ac (j2 O Z Z (jn (ab O Z Z (fun hc8 => ?_) (fun hc8 => ?_))))
 try simp only [aN] at hc8
 refine ah (ab O Z Z (fun hc8 => ?_) (fun hc8 => ?_))
 try simp only [aN] at hc8
 refine ac (j2 O Z Z (jr ?_))
 refine ⟨.inl Z, _, ak, _, Z, ?_⟩
 rw [show mv x = (1, 0) by unfold mv; simp_all]
 exact .tup (.cons (.c .d) (.cons (.c .d) .nil))
 try simp only [aN] at hc8
 contradiction
 try simp only [aN] at hc8
 refine aj (j2 O Z Z (jn (ab O Z Z (fun hc8 => ?_) (fun hc8 => ?_))))
 try simp only [aN] at hc8
 refine ac (j2 O Z Z (jr ?_))
 refine ⟨.inl Z, _, ak, _, Z, ?_⟩
 rw [show mv x = (1, 0) by unfold mv; simp_all]
 exact .tup (.cons (.c .d) (.cons (.c .d) .nil))
 try simp only [aN] at hc8
 refine ac (j2 O Z Z (jn (ab O Z Z (fun hc12 => ?_) (fun hc12 => ?_))))
 try simp only [aN] at hc12
 refine ac (j2 O Z Z (jr ?_))
 refine ⟨.inl Z, _, ak, _, Z, ?_⟩
 rw [show mv x = (2, 1) by unfold mv; simp_all]
 exact .tup (.cons (.c .d) (.cons (.c .d) .nil))
 try simp only [aN] at hc12
 refine af (ac (j2 O Z Z (jn (ab O Z Z (fun hc14 => ?_) (fun hc14 => ?_)))))
 try simp only [aN] at hc14
 refine ah (ab O Z Z (fun hc14 => ?_) (fun hc14 => ?_))
 try simp only [aN] at hc14
 refine ac (j2 O Z Z (jr ?_))
 refine ⟨.inl Z, _, ak, _, Z, ?_⟩
 rw [show mv x = (1, 1) by unfold mv; simp_all]
 exact .tup (.cons (.c .d) (.cons (.c .d) .nil))
 try simp only [aN] at hc14
 contradiction
 try simp only [aN] at hc14
 refine aj (j2 O Z Z (jn (ab O Z Z (fun hc14 => ?_) (fun hc14 => ?_))))
 try simp only [aN] at hc14
 refine ac (j2 O Z Z (jr ?_))
 refine ⟨.inl Z, _, ak, _, Z, ?_⟩
 rw [show mv x = (1, 1) by unfold mv; simp_all]
 exact .tup (.cons (.c .d) (.cons (.c .d) .nil))
 try simp only [aN] at hc14
 refine ac (j2 O Z Z (jn (ab O Z Z (fun hc17 => ?_) (fun hc17 => ?_))))
 try simp only [aN] at hc17
 refine ac (j2 O Z Z (jr ?_))
 refine ⟨.inl Z, _, ak, _, Z, ?_⟩
 rw [show mv x = (2, 0) by unfold mv; simp_all]
 exact .tup (.cons (.c .d) (.cons (.c .d) .nil))
 try simp only [aN] at hc17
 refine ah (ac (j2 O Z Z (jr ?_)))
 refine ⟨.inl Z, _, ak, _, Z, ?_⟩
 rw [show mv x = (0, 0) by unfold mv; simp_all]
 exact .tup (.cons (.c .d) (.cons (.c .d) .nil))
theorem vJ (hk : k < a.code.length) (hc : a.code.length ≤ 1000) : MQ h1 h2 108 [ptr a.data, eI k] [] (Rows (.c (.rs 0 0 (nI (a.code.getD k default) k).length)) [aD (nI (a.code.getD k default) k)]) := by
 refine bh (jB 33 h1 h2 Tryz.func108 Z Z Z fun O hF => ?_)
 refine ac (js O Z (aP (j4 O Z Z Z Z (js O Z (AOps.step (aL O Z Z Z Z Z Z Z Z (cB hk)) Z Z Z (js O Z (jf [12,4,1] Z (jl O Z (ao ?_)))))))))
 refine jo O Z (ao ?_)
 refine jn (af (ac (j2 O Z Z (jn (am (ac (j2 O Z Z (jn (ab O Z Z (fun hc15 => ?_) (fun hc15 => ?_))))))))))
 refine ac (AOps.heap (aZ O Z Z Z) Z (ao ?_))
 refine js O Z (jf [4,16,14,13,5,12,1] Z (jr ?_))
 rw [nI, if_pos (aR hc15)]
 refine ⟨.inl Z, _, ak, _, Z, [17], by decide, Z, Z, Z⟩
 refine ac (j2 O Z Z (jf [18,16,14,13,5,12,4,1] Z (jn (ab O Z Z (fun hc18 => ?_) (fun hc18 => ?_)))))
 refine ac (j2 O Z Z (jf [21,16,14,13,5,12,4,1] Z (AOps.heap (aZ O Z Z Z) Z (ao ?_))))
 refine js O Z (jf [4,16,14,13,5,12,1] Z (jr ?_))
 rw [nI, if_neg (bn hc15), if_pos (aR hc18)]
 refine ⟨.inl Z, _, ak, _, Z, [22], by decide, Z, Z, Z⟩
 refine ac (j2 O Z Z (jf [23,16,14,13,5,12,4,1] Z (jn (ab O Z Z (fun hc23 => ?_) (fun hc23 => ?_)))))
 refine ac (js O Z ?_)
 first | refine ji O Z ?_ | refine aU O Z Z ?_
 refine j2 O Z Z (jf [28,26,16,14,13,5,12,4,1] Z (AOps.heap (aZ O Z Z Z) Z (ao ?_)))
 refine js O Z (jf [4,16,14,13,5,12,1] Z (jr ?_))
 rw [nI, if_neg (bn hc15), if_neg (bn hc18), if_pos (aR hc23)]
 refine ⟨.inl Z, _, ak, _, Z, [29], by decide, Z, Z, Z⟩
 refine ah (ac (js O Z ?_))
 first | refine ji O Z ?_ | refine aU O Z Z ?_
 refine jf [31,16,14,13,5,12,4,1] Z (AOps.heap (aZ O Z Z Z) Z (ao ?_))
 refine js O Z (jf [4,16,14,13,5,12,1] Z (jr ?_))
 rw [nI, if_neg (bn hc15), if_neg (bn hc18), if_neg (bn hc23)]
 refine ⟨.inl Z, _, ak, _, Z, [32], by decide, Z, Z, Z⟩
theorem qZ {x : In} {k : Int} : (nI x k).length ≤ 2 := by
 unfold nI; split
 simp
 split
 simp
 split <;> simp
def sv : Option (List Int) → A
  | some h => .tup [.c (.rs 0 0 h.length), eB true]
  | none => .tup [.c (.d .nils), eB false]
def su : Option (List Int) → List B
  | some h => [aD h]
  | none => []
def dX (n i : Nat) : List Int := List.replicate i (-1) ++ List.replicate (n - i) 0
theorem lV {n : Nat} : dX n 0 = List.replicate n 0 := by simp [dX]
theorem mR {n : Nat} : dX n n = List.replicate n (-1) := by simp [dX]
theorem ic {n i : Nat} (h : i ≤ n) : (dX n i).length = n := by simp [dX]; omega
theorem mQ {n i : Nat} (h : i < n) : (dX n i).set i (-1) = dX n (i + 1) := by
 unfold dX
 obtain ⟨m, rfl⟩ : ∃ m, n = i + 1 + m := ⟨n - (i + 1), by omega⟩
 rw [show i + 1 + m - i = m + 1 by omega, show i + 1 + m - (i + 1) = m by omega, List.set_append_right _ _ (by simp), List.length_replicate, Nat.sub_self, List.replicate_succ, List.set_cons_zero, List.replicate_succ', er]; rfl
theorem jz {ws : List Int} {p : Nat} (h : p < ws.length) {z : Int} (hz : ws.getD p default = z) : ∀ y, y ∈ ws.drop p ↔ y = z ∨ y ∈ ws.drop (p + 1) := fun y => by
 rw [List.drop_eq_getElem_cons h, ← ar h, hz]; exact List.mem_cons
theorem mV {ws : List Int} {p : Nat} (h : p ≤ ws.length) {z : Int} : ∀ y, y ∈ (ws ++ [z]).drop p ↔ y = z ∨ y ∈ ws.drop p := fun y => by
 rw [List.drop_append_of_le_length h, List.mem_append, List.mem_singleton]; exact Or.comm
theorem HSi.be {c : List In} {Q : Nat → Int → Prop} {u pd ts : List Int} {k j : Nat} (h : HSi c Q u pd ts k j) : 0 ≤ fN c u k ∧ fN c u k ≤ 6 := by
 have := h.kk.2; have := dG (x := c.getD k default)
 exact ⟨by show 0 ≤ _ - _ + _; omega, h.kk.2.2⟩
theorem HSi.bes {c : List In} {Q : Nat → Int → Prop} {u pd ts : List Int} {k j : Nat} {z : Int} {v : Int} (h : HSi c Q u pd ts k j) (hz : u.getD z.toNat default < 0) (h0 : 0 ≤ z) (hl : z < c.length) : fN c (u.set z.toNat v) k = fN c u k := by
 have hzu : z.toNat < u.length := by rw [h.len]; omega
 show (u.set z.toNat v).getD k default - _ + _ = _
 rw [dK hzu, if_neg (fun e => by have := h.k0; rw [e] at this; omega)]
theorem vM (hv : VA' a) : MQ h1 h2 78 [ptr a.data] [] (Rows (sv (f9 a.code (qP a.pts))) (su (f9 a.code (qP a.pts)))) := by
 refine bh (jB 145 h1 h2 Tryz.func78 Z Z Z fun O hF => ?_)
 have hl : a.code.length ≤ L := by simpa [As.fact, A.fact, M.fact, D.fact, Ds.fact] using hF.1.2.2.1.1
 have h80 := hv.ok.len
 have h0n := hv.n0
 refine ac (j2 O Z Z (aP (j4 O Z Z Z Z ?_)))
 first | refine bo O Z ?_ | refine js O Z ?_ | refine aU O Z Z ?_
 refine js O Z (jf [4,3,2,0] Z (aP (js O Z (AOps.heap (cd O Z Z Z Z Z Z Z Z Z (by first | omega | (simp at *; omega)) (by first | omega | (simp at *; omega)) (by first | omega | (simp at *; omega)) (by first | omega | (dsimp only; omega) | (simp only [aN] at *; omega)) (by first | omega | (simp at *; omega)) Z Z Z) Z (ao ?_)))))
 refine js O Z (jf [5,4,3,2,0] Z (jn (af (ac (js O Z (jn (am (ap (X := Nat) (fun i => ⟨[(0, ptr a.data), (4, eI a.code.length), (5, .c (.rs 21 0 a.code.length)), (6, eI i)], [(21, aD (dX a.code.length i))]⟩) (fun i => i ≤ a.code.length) (fun i => a.code.length - i) 0 (Ent.to ⟨Z, Z, Z, Z, trivial⟩ (by rw [lV, aD, List.map_replicate]; rfl)) ?_ (fun i hi => ?_)))))))))
 exact cm _
 refine af (ac (j3 O Z Z Z (jf [24,0,4,5,6] Z (jn (ab O Z Z (fun hc24 => ?_) (fun hc24 => ?_))))))
 refine ah (af (am (aj (j2 O Z Z ?_))))
 have hil : i < a.code.length := by have := aR hc24; omega
 have hfl := ic (n := a.code.length) (i := i) (by omega)
 refine AOps.step (aO O Z Z (by omega)) Z Z Z (jf [29,24,0,4,5,6] Z (AOps.heap (bd (ex := [.int .i64 ((dX a.code.length i).getD i default)]) (xs' := (dX a.code.length (i + 1)).map (fun n => [D.int .i64 n])) O Z Z Z Z Z Z Z Z Z Z Z Z Z Z (fM (by omega) (by omega)) (by rw [← mQ hil]; exact t9 (by omega) Z)) Z (ao ?_)))
 refine ao ?_
 refine jn (aj (js O Z ?_))
 first | refine ji O Z ?_ | refine aU O Z Z ?_
 refine js O Z (jf [6,29,24,0,4,5] Z (jn ?_))
 refine ⟨i + 1, Ent.to ⟨Z, Z, Z, Z, trivial⟩ Z, by omega, by omega⟩
 refine aQ (ac ?_)
 have hin : i = a.code.length := by have := bn hc24; omega
 have hfl := ic (n := a.code.length) (i := i) (by omega)
 refine js O Z (AOps.step (aO O Z Z (by omega)) Z Z Z (jf [31,24,0,4,5,6] Z (AOps.heap (bd (ex := [.int .i64 ((dX a.code.length i).getD 0 default)]) (xs' := (ry a.code.length).map (fun n => [D.int .i64 n])) O Z Z Z Z Z Z Z Z Z Z Z Z Z Z (fM (by omega) (by omega)) (by rw [hin, mR]; exact t9 (by omega) Z)) Z (ao ?_))))
 refine ao ?_
 refine aP (AOps.heap (aZ O Z Z Z) Z (ao ?_))
 refine js O Z (jn (af (ac (js O Z (jn (am (ap (X := List Int × List Int × Nat) (fun x => ⟨[(0, ptr a.data), (4, eI a.code.length), (5, .c (.rs 21 0 a.code.length)), (7, .c (.rs 902 0 x.2.1.length)), (8, eI (x.2.2 : Nat))], [(21, aD x.1), (902, aD x.2.1)]⟩) (fun x => HSr a.code (qP a.pts) x.1 (x.2.1.drop x.2.2) ∧ x.2.1.length + eT x.1 = a.code.length ∧ x.2.2 ≤ x.2.1.length) (fun x => a.code.length + 1 - x.2.2) (ry a.code.length, [0], 0) (((aw [21,32] (e' := [(0, _), (4, _), (5, _), (7, _), (8, _)]) Z Z ⟨Z, Z, Z, Z, Z, trivial⟩ Z).trans (ag 32 902 Z Z)).trans (Ent.to ⟨Z, Z, Z, Z, Z, trivial⟩ Z)) ?_ (fun x hi => ?_))))))))
 exact ⟨oH h0n, by have := mG h0n; show 1 + eT (ry a.code.length) = _; omega, cm _⟩
 refine af (ac ?_)
 obtain ⟨u, e_u⟩ : ∃ u, u = x.1 := ⟨_, rfl⟩
 obtain ⟨ws, e_ws⟩ : ∃ ws, ws = x.2.1 := ⟨_, rfl⟩
 obtain ⟨p, e_p⟩ : ∃ p, p = x.2.2 := ⟨_, rfl⟩
 rw [← e_u, ← e_ws, ← e_p] at hi ⊢
 obtain ⟨kM, jM, hi3⟩ := hi
 have hul := kM.len
 refine j2 O Z Z ?_
 first | refine bo O Z ?_ | refine js O Z ?_ | refine aU O Z Z ?_
 refine js O Z (jf [36,0,4,5,7,8] Z (jn (ab O Z Z (fun hc36 => ?_) (fun hc36 => ?_))))
 refine ah (af (am (ac ?_)))
 have hpl : p < ws.length := by have := aR hc36; omega
 have hz0 := kM.nn (ws.getD p default) ((jz hpl Z _).2 (.inl Z))
 obtain ⟨k, hk⟩ : ∃ k : Nat, ws.getD p default = (k : Int) := ⟨(ws.getD p default).toNat, by omega⟩
 have hdm := jz hpl hk
 have hkm : (k : Int) ∈ ws.drop p := (hdm k).2 (.inl Z)
 obtain ⟨hkn, hk0, hkr, hkc⟩ := kM.mem hkm
 have hlo := kM.lo k hkn
 have hmv := dG (x := (a.code.getD k default))
 refine j2 O Z Z (AOps.step (aO O Z Z (by omega)) Z Z Z (AOps.step (av O (ex := [.int .i64 (k : Int)]) Z Z Z Z (by rw [fM hpl (by omega), hk]) Z) Z Z Z (js O Z (jf [9,36,0,4,5,7,8] Z (jn (af (af (c6 ⟨[(53, eB (bif (dB a.pts (k : Int)) then (!decide (u.getD k default = 0)) else false)), (0, ptr a.data), (4, eI a.code.length), (5, .c (.rs 21 0 a.code.length)), (7, .c (.rs 902 0 ws.length)), (8, eI (p : Nat)), (9, eI (k : Nat))], [(21, aD u), (902, aD ws)]⟩ ?_ ?_))))))))
 refine aj (j2 O Z Z (ae O Z Z Z Z (io (a := a) (k := (k : Int)) h1 h2) (aa Z) Z Z Z Z Z (B0 := 46000) Z (AOps.step ((V O Z).cast (v' := eB (dB a.pts (k : Int))) (congrArg eB gO)) Z Z Z (js O Z ?_))))
 cases hb48 : (dB a.pts (k : Int)) with
 | true =>
  refine jf [47,9,36,0,4,5,7,8] Z (bz Z (js O Z (bz Z (js O Z (bz Z (AOps.step (aO O Z Z (by omega)) Z Z Z (jf [50,47,9,36,0,4,5,7,8] Z (bz Z (AOps.step (av O (ex := [.int .i64 (u.getD k default)]) Z Z Z Z (fM (by omega) (by omega)) Z) Z Z Z (jf [51,47,9,36,0,4,5,7,8] Z (bz Z (js O Z (AOps.step (ba O Z Z Z Z Z) Z Z Z (jf [53,9,36,0,4,5,7,8] Z (jn ?_)))))))))))))))
  exact ⟨Z, (aw [21,902] (e' := [(53, _), (0, _), (4, _), (5, _), (7, _), (8, _), (9, _)]) Z Z ⟨Z, Z, Z, Z, Z, Z, Z, trivial⟩ Z).trans (Ent.to ⟨Z, Z, Z, Z, Z, Z, Z, trivial⟩ Z)⟩
 | false =>
  refine jf [47,9,36,0,4,5,7,8] Z (AOps.skip Z Z Z Z Z Z (AOps.skip Z Z Z Z Z Z (AOps.skip Z Z Z Z Z Z (jf [50,47,9,36,0,4,5,7,8] Z (AOps.skip Z Z Z Z Z Z (jf [51,47,9,36,0,4,5,7,8] Z (AOps.skip Z Z Z Z Z Z (AOps.step (aF O Z Z Z Z Z) Z Z Z (jf [53,9,36,0,4,5,7,8] Z (jn ?_))))))))))
  exact ⟨Z, (aw [21,902] (e' := [(53, _), (0, _), (4, _), (5, _), (7, _), (8, _), (9, _)]) Z Z ⟨Z, Z, Z, Z, Z, Z, Z, trivial⟩ Z).trans (Ent.to ⟨Z, Z, Z, Z, Z, Z, Z, trivial⟩ Z)⟩
 refine ab O Z Z (fun hc53 => ?_) (fun hc53 => ?_)
 refine ac (j2 O Z Z (jr ?_))
 obtain ⟨q1, q2⟩ := uo hc53
 rw [dZ (kM.noq hkm (fun h => by have := h q1; rw [decide_eq_true this] at q2; cases q2))]
 refine ⟨.inl Z, _, ak, _, Z, [], by decide, Z, Z, Z⟩
 refine ah (ac (j4 O Z Z Z Z (js O Z (AOps.step (aL O Z Z Z Z Z Z Z Z (cB hkn)) Z Z Z (j2 O Z Z (jf [62,53,0,4,5,7,8,9] Z (ax O Z Z Z Z (k9 (x := (a.code.getD k default)) h1 h2) (aa Z) Z Z Z Z (B0 := 64000) Z Z (j4 O Z Z Z Z (js O Z (jf [11,10,53,0,4,5,7,8,9] Z (aP (j2 O Z Z (AOps.step (aO O Z Z (by omega)) Z Z Z (AOps.step (av O (ex := [.int .i64 (u.getD k default)]) Z Z Z Z (fM (by omega) (by omega)) Z) Z Z Z (js O Z ?_)))))))))))))))
 first | refine ji O Z ?_ | refine aU O Z Z ?_
 refine js O Z ?_
 first | refine ji O Z ?_ | refine aU O Z Z ?_
 refine js O Z (jf [12,10,53,0,4,5,7,8,9] Z (jn (af (af (c6 ⟨[(83, eB (bif decide (u.getD k default < (mv (a.code.getD k default)).1) then true else decide (6 < fN a.code u k))), (0, ptr a.data), (4, eI a.code.length), (5, .c (.rs 21 0 a.code.length)), (7, .c (.rs 902 0 ws.length)), (8, eI (p : Nat)), (9, eI (k : Nat)), (10, eI (mv (a.code.getD k default)).1), (12, eI (fN a.code u k))], [(21, aD u), (902, aD ws)]⟩ ?_ ?_)))))
 refine aj (j2 O Z Z (AOps.step (aO O Z Z (by omega)) Z Z Z (AOps.step (av O (ex := [.int .i64 (u.getD k default)]) Z Z Z Z (fM (by omega) (by omega)) Z) Z Z Z (j3 O Z Z Z ?_))))
 cases hb81 : decide (u.getD k default < (mv (a.code.getD k default)).1) with
 | true =>
  refine jf [80,12,10,53,0,4,5,7,8,9] Z (AOps.skip Z Z Z Z Z Z (AOps.skip Z Z Z Z Z Z (AOps.step (ba O Z Z Z Z Z) Z Z Z (jf [83,12,10,53,0,4,5,7,8,9] Z (jn ?_)))))
  exact ⟨Z, (aw [21,902] (e' := [(83, _), (0, _), (4, _), (5, _), (7, _), (8, _), (9, _), (10, _), (12, _)]) Z Z ⟨Z, Z, Z, Z, Z, Z, Z, Z, Z, trivial⟩ Z).trans (Ent.to ⟨Z, Z, Z, Z, Z, Z, Z, Z, Z, trivial⟩ Z)⟩
 | false =>
  refine jf [80,12,10,53,0,4,5,7,8,9] Z (bz Z (js O Z (bz Z (js O Z (AOps.step (aF O Z Z Z Z Z) Z Z Z (jf [83,12,10,53,0,4,5,7,8,9] Z (jn ?_)))))))
  exact ⟨Z, (aw [21,902] (e' := [(83, _), (0, _), (4, _), (5, _), (7, _), (8, _), (9, _), (10, _), (12, _)]) Z Z ⟨Z, Z, Z, Z, Z, Z, Z, Z, Z, trivial⟩ Z).trans (Ent.to ⟨Z, Z, Z, Z, Z, Z, Z, Z, Z, trivial⟩ Z)⟩
 refine ab O Z Z (fun hc83 => ?_) (fun hc83 => ?_)
 refine ac (j2 O Z Z (jr ?_))
 have q3 := hc83
 rw [dZ (kM.nol hkm (fun h => by rw [decide_eq_false (show ¬ u.getD k default < (mv (a.code.getD k default)).1 by omega), decide_eq_false (show ¬ 6 < fN a.code u k by omega)] at q3; cases q3))]
 refine ⟨.inl Z, _, ak, _, Z, [], by decide, Z, Z, Z⟩
 refine ah (ac ?_)
 have hqq : qP a.pts k (u.getD k default) := fun h => by have h5 := hc53; rw [h] at h5; simpa using h5
 obtain ⟨hq1, hq2⟩ := Ab hc83
 have hq1 := bn hq1
 have hq2 := bn hq2
 refine j2 O Z Z (aI O (B0 := 87000) Z Z Z Z (vJ (a := a) (k := k) h1 h2 hkn (by omega)) (aa Z) Z Z Z Z Z Z (ao ?_))
 refine js O Z (jf [13,83,0,4,5,7,8,9,10,12] Z (aP (js O Z (jn (am ?_)))))
 obtain ⟨M, hM⟩ : ∃ M, M = nI (a.code.getD k default) k := ⟨_, rfl⟩
 have hM2 : M.length ≤ 2 := by rw [hM]; exact qZ
 obtain ⟨B, hB⟩ : ∃ B, B = fN a.code u k := ⟨_, rfl⟩
 rw [← hM, ← hB]
 refine ap (X := List Int × List Int × Nat) (fun y => ⟨[(0, ptr a.data), (4, eI a.code.length), (5, .c (.rs 21 0 a.code.length)), (7, .c (.rs 903 0 y.2.1.length)), (8, eI (p : Nat)), (12, eI B), (13, .c (.rs 87000 0 M.length)), (14, eI (y.2.2 : Nat))], [(21, aD y.1), (903, aD y.2.1), (87000, aD M)]⟩) (fun y => HSi a.code (qP a.pts) y.1 (y.2.1.drop (p + 1)) M k y.2.2 ∧ y.2.1.length + eT y.1 = a.code.length ∧ p + 1 ≤ y.2.1.length ∧ fN a.code y.1 k = B) (fun y => M.length - y.2.2) (u, ws, 0) (((aw [21,902,87000] (e' := [(0, _), (4, _), (5, _), (7, _), (8, _), (12, _), (13, _), (14, _)]) Z Z ⟨Z, Z, Z, Z, Z, Z, Z, Z, trivial⟩ Z).trans (ag 902 903 Z Z)).trans (Ent.to ⟨Z, Z, Z, Z, Z, Z, Z, Z, trivial⟩ Z)) ?_ (fun y hi => ?_)
 exact ⟨kM.take hdm hqq (by omega) (by omega), jM, hpl, hB.symm⟩
 refine af (ac ?_)
 obtain ⟨u2, e_u2⟩ : ∃ u2, u2 = y.1 := ⟨_, rfl⟩
 obtain ⟨w2, e_w2⟩ : ∃ w2, w2 = y.2.1 := ⟨_, rfl⟩
 obtain ⟨j, e_j⟩ : ∃ j, j = y.2.2 := ⟨_, rfl⟩
 rw [← e_u2, ← e_w2, ← e_j] at hi ⊢
 obtain ⟨hj1, hj2, hj3, hj4⟩ := hi
 have hul2 := hj1.len
 have hBe := hj1.be
 refine j2 O Z Z ?_
 first | refine bo O Z ?_ | refine js O Z ?_ | refine aU O Z Z ?_
 refine js O Z (jf [90,0,4,5,7,8,12,13,14] Z (jn (ab O Z Z (fun hc90 => ?_) (fun hc90 => ?_))))
 refine ah (af (am (af (af ?_))))
 have hjm : j < M.length := by have := aR hc90; omega
 obtain ⟨z, hz⟩ : ∃ z, z = M.getD j default := ⟨_, rfl⟩
 have hzt : z ∈ oU a.code k := by rw [hz, hM, ar (by rw [← hM]; exact hjm)]; exact z6.1 (List.getElem_mem _)
 refine c6 ⟨[(121, eB (bif !dk a.code.length z then true else (bif decide (0 ≤ (u2.getD z.toNat default)) then !decide ((u2.getD z.toNat default) = B) else false))), (0, ptr a.data), (4, eI a.code.length), (5, .c (.rs 21 0 a.code.length)), (7, .c (.rs 903 0 w2.length)), (8, eI (p : Nat)), (12, eI B), (13, .c (.rs 87000 0 M.length)), (14, eI (j : Nat))], [(21, aD u2), (903, aD w2), (87000, aD M)]⟩ ?_ ?_
 refine aj (j2 O Z Z (AOps.step (aO O Z Z (by omega)) Z Z Z (AOps.step (av O (ex := [.int .i64 z]) Z Z Z Z (by rw [fM hjm (by omega), hz]) Z) Z Z Z (js O Z ?_))))
 first | refine ji O Z ?_ | refine aU O Z Z ?_
 refine jf [98,96,90,0,4,5,7,8,12,13,14] Z (ae O Z Z Z Z ((kX (x := z) (lo := 0) (hi := (a.code.length : Int) - 1) h1 h2).plain (u := eB (dk a.code.length z)) Z) (aa Z) Z Z Z Z Z (B0 := 100000) Z (j2 O Z Z ?_))
 cases hb102 : !dk a.code.length z with
 | true =>
  refine jf [101,90,0,4,5,7,8,12,13,14] Z (AOps.skip Z Z Z Z Z Z (AOps.skip Z Z Z Z Z Z (AOps.skip Z Z Z Z Z Z (AOps.skip Z Z Z Z Z Z (jf [105,102,101,90,0,4,5,7,8,12,13,14] Z (AOps.skip Z Z Z Z Z Z (jf [106,102,101,90,0,4,5,7,8,12,13,14] Z (AOps.skip Z Z Z Z Z Z (jf [107,101,90,0,4,5,7,8,12,13,14] Z (AOps.skip Z Z Z Z Z Z (jf [108,101,90,0,4,5,7,8,12,13,14] Z (AOps.skip Z Z Z Z Z Z (jf [109,101,90,0,4,5,7,8,12,13,14] Z (AOps.skip Z Z Z Z Z Z ?_))))))))))))))
  cases hb111 : decide (0 ≤ (u2.getD z.toNat default)) with
  | true =>
   refine jf [110,101,90,0,4,5,7,8,12,13,14] Z (bu Z Z Z Z Z (bu Z Z Z Z Z (bu Z Z Z Z Z (bu Z Z Z Z Z (jf [114,111,110,101,90,0,4,5,7,8,12,13,14] Z (bu Z Z Z Z Z (jf [115,111,110,101,90,0,4,5,7,8,12,13,14] Z (bu Z Z Z Z Z (jf [116,110,101,90,0,4,5,7,8,12,13,14] Z (bu Z Z Z Z Z (jf [117,110,101,90,0,4,5,7,8,12,13,14] Z (bu Z Z Z Z Z (bu Z Z Z Z Z (jf [119,110,101,90,0,4,5,7,8,12,13,14] Z (AOps.skip Z Z Z Z Z Z (AOps.step (ba O Z Z Z Z Z) Z Z Z (jf [121,90,0,4,5,7,8,12,13,14] Z (jn ?_))))))))))))))))))
   exact ⟨Z, (aw [21,903,87000] (e' := [(121, _), (0, _), (4, _), (5, _), (7, _), (8, _), (12, _), (13, _), (14, _)]) Z Z ⟨Z, Z, Z, Z, Z, Z, Z, Z, Z, trivial⟩ Z).trans (Ent.to ⟨Z, Z, Z, Z, Z, Z, Z, Z, Z, trivial⟩ Z)⟩
  | false =>
   refine jf [110,101,90,0,4,5,7,8,12,13,14] Z (bu Z Z Z Z Z (bu Z Z Z Z Z (bu Z Z Z Z Z (bu Z Z Z Z Z (jf [114,111,110,101,90,0,4,5,7,8,12,13,14] Z (bu Z Z Z Z Z (jf [115,111,110,101,90,0,4,5,7,8,12,13,14] Z (bu Z Z Z Z Z (jf [116,110,101,90,0,4,5,7,8,12,13,14] Z (bu Z Z Z Z Z (jf [117,110,101,90,0,4,5,7,8,12,13,14] Z (bu Z Z Z Z Z (bu Z Z Z Z Z (jf [119,110,101,90,0,4,5,7,8,12,13,14] Z (AOps.skip Z Z Z Z Z Z (AOps.step (ba O Z Z Z Z Z) Z Z Z (jf [121,90,0,4,5,7,8,12,13,14] Z (jn ?_))))))))))))))))))
   exact ⟨Z, (aw [21,903,87000] (e' := [(121, _), (0, _), (4, _), (5, _), (7, _), (8, _), (12, _), (13, _), (14, _)]) Z Z ⟨Z, Z, Z, Z, Z, Z, Z, Z, Z, trivial⟩ Z).trans (Ent.to ⟨Z, Z, Z, Z, Z, Z, Z, Z, Z, trivial⟩ Z)⟩
 | false =>
  refine jf [101,90,0,4,5,7,8,12,13,14] Z (bz Z (js O Z (bz Z (js O Z (bz Z (js O Z (bz Z ?_)))))))
  obtain ⟨hz0, hzn⟩ := uS.1 (gi hb102)
  refine AOps.step (aO O Z Z (by omega)) Z Z Z (jf [105,102,101,90,0,4,5,7,8,12,13,14] Z (bz Z (AOps.step (av O (ex := [.int .i64 z]) Z Z Z Z (by rw [fM hjm (by omega), hz]) Z) Z Z Z (jf [106,102,101,90,0,4,5,7,8,12,13,14] Z (bz Z (AOps.step (aO O Z Z (by omega)) Z Z Z (jf [107,101,90,0,4,5,7,8,12,13,14] Z (bz Z (AOps.step (av O (ex := [.int .i64 (u2.getD z.toNat default)]) Z Z Z Z (fM (by omega) (by omega)) Z) Z Z Z (jf [108,101,90,0,4,5,7,8,12,13,14] Z (bz Z (js O Z (jf [109,101,90,0,4,5,7,8,12,13,14] Z (bz Z (js O Z ?_)))))))))))))))
  cases hb111 : decide (0 ≤ (u2.getD z.toNat default)) with
  | true =>
   refine jf [110,101,90,0,4,5,7,8,12,13,14] Z (bz Z (js O Z (bz Z (js O Z (bz Z (js O Z (bz Z (AOps.step (aO O Z Z (by omega)) Z Z Z (jf [114,111,110,101,90,0,4,5,7,8,12,13,14] Z (bz Z (AOps.step (av O (ex := [.int .i64 z]) Z Z Z Z (by rw [fM hjm (by omega), hz]) Z) Z Z Z (jf [115,111,110,101,90,0,4,5,7,8,12,13,14] Z (bz Z (AOps.step (aO O Z Z (by omega)) Z Z Z (jf [116,110,101,90,0,4,5,7,8,12,13,14] Z (bz Z (AOps.step (av O (ex := [.int .i64 (u2.getD z.toNat default)]) Z Z Z Z (fM (by omega) (by omega)) Z) Z Z Z (jf [117,110,101,90,0,4,5,7,8,12,13,14] Z (bz Z (js O Z (bz Z (js O Z (jf [119,110,101,90,0,4,5,7,8,12,13,14] Z (bz Z (AOps.step (ba O Z Z Z Z Z) Z Z Z (AOps.step (aF O Z Z Z Z Z) Z Z Z (jf [121,90,0,4,5,7,8,12,13,14] Z (jn ?_))))))))))))))))))))))))))))
   exact ⟨Z, (aw [21,903,87000] (e' := [(121, _), (0, _), (4, _), (5, _), (7, _), (8, _), (12, _), (13, _), (14, _)]) Z Z ⟨Z, Z, Z, Z, Z, Z, Z, Z, Z, trivial⟩ Z).trans (Ent.to ⟨Z, Z, Z, Z, Z, Z, Z, Z, Z, trivial⟩ Z)⟩
  | false =>
   refine jf [110,101,90,0,4,5,7,8,12,13,14] Z (AOps.skip Z Z Z Z Z Z (AOps.skip Z Z Z Z Z Z (AOps.skip Z Z Z Z Z Z (AOps.skip Z Z Z Z Z Z (jf [114,111,110,101,90,0,4,5,7,8,12,13,14] Z (AOps.skip Z Z Z Z Z Z (jf [115,111,110,101,90,0,4,5,7,8,12,13,14] Z (AOps.skip Z Z Z Z Z Z (jf [116,110,101,90,0,4,5,7,8,12,13,14] Z (AOps.skip Z Z Z Z Z Z (jf [117,110,101,90,0,4,5,7,8,12,13,14] Z (AOps.skip Z Z Z Z Z Z (AOps.skip Z Z Z Z Z Z (jf [119,110,101,90,0,4,5,7,8,12,13,14] Z (bz Z (AOps.step (aF O Z Z Z Z Z) Z Z Z (AOps.step (aF O Z Z Z Z Z) Z Z Z (jf [121,90,0,4,5,7,8,12,13,14] Z (jn ?_)))))))))))))))))))
   exact ⟨Z, (aw [21,903,87000] (e' := [(121, _), (0, _), (4, _), (5, _), (7, _), (8, _), (12, _), (13, _), (14, _)]) Z Z ⟨Z, Z, Z, Z, Z, Z, Z, Z, Z, trivial⟩ Z).trans (Ent.to ⟨Z, Z, Z, Z, Z, Z, Z, Z, Z, trivial⟩ Z)⟩
 refine ab O Z Z (fun hc121 => ?_) (fun hc121 => ?_)
 refine ac (j2 O Z Z (jr ?_))
 rw [dZ (show ∀ x, ¬ HOk a.code (qP a.pts) x from by
  cases hzi : dk a.code.length z with
  | false => exact hj1.nox hzt (fun h => by rw [uS.2 h] at hzi; cases hzi)
  | true =>
   obtain ⟨hz0, hzn⟩ := uS.1 hzi
   rw [hzi] at hc121
   obtain ⟨q1, q2⟩ := uo (show (bif decide (0 ≤ (u2.getD z.toNat default)) then !decide ((u2.getD z.toNat default) = B) else false) = true from hc121)
   exact hj1.noe hzt hz0 hzn (aR q1) (fun h => by rw [hj4] at h; rw [decide_eq_true h] at q2; cases q2))]
 refine ⟨.inl Z, _, ak, _, Z, [], by decide, Z, Z, Z⟩
 refine ah (ac ?_)
 obtain ⟨hzi, hzb⟩ := Ab hc121
 have hzi := gi hzi
 obtain ⟨hz0, hzn⟩ := uS.1 hzi
 refine j3 O Z Z Z (AOps.step (aO O Z Z (by omega)) Z Z Z (AOps.step (av O (ex := [.int .i64 z]) Z Z Z Z (by rw [fM hjm (by omega), hz]) Z) Z Z Z (AOps.step (aO O Z Z (by omega)) Z Z Z (AOps.step (av O (ex := [.int .i64 (u2.getD z.toNat default)]) Z Z Z Z (fM (by omega) (by omega)) Z) Z Z Z (js O Z (jf [129,121,0,4,5,7,8,12,13,14] Z (jn (ab O Z Z (fun hc129 => ?_) (fun hc129 => ?_)))))))))
 refine ac (j3 O Z Z Z ?_)
 have hzl := aR hc129
 have hzm : M.getD j default = z := hz.symm
 have hwn : w2.length ≤ 1000 := by omega
 refine AOps.step (aO O Z Z (by omega)) Z Z Z (AOps.step (av O (ex := [.int .i64 z]) Z Z Z Z (by rw [fM hjm (by omega), hz]) Z) Z Z Z (js O Z (AOps.step (aO O Z Z (by omega)) Z Z Z (jf [136,135,129,121,0,4,5,7,8,12,13,14] Z (AOps.heap (bd (ex := [.int .i64 ((u2).getD z.toNat default)]) (xs' := (u2.set z.toNat B).map (fun n => [D.int .i64 n])) O Z Z Z Z Z Z Z Z Z Z Z Z Z Z (fM (by omega) (by omega)) (t9 (v := B) (by omega) Z)) Z (ao ?_))))))
 refine ao ?_
 refine jf [129,121,0,4,5,7,8,12,13,14] Z (jn (aj (j3 O Z Z Z (AOps.step (aO O Z Z (by omega)) Z Z Z (AOps.step (av O (ex := [.int .i64 z]) Z Z Z Z (by rw [fM hjm (by omega), hz]) Z) Z Z Z (jf [141,137,129,121,0,4,5,7,8,12,13,14] Z (AOps.heap (aZ O Z Z Z) Z (ao ?_))))))))
 refine jf [142,137,129,121,0,4,5,7,8,12,13,14] Z (AOps.heap (bj (zs := (w2 ++ [z]).map fun n => [.int .i64 n]) (n := (w2 ++ [z]).length) O Z Z Z Z Z Z Z Z Z Z Z Z Z Z Z Z (.row Z (bt _).symm) Z Z (by decide) Z (by simp; omega) (by simp; omega) (by simp) (by simp)) Z (ao ?_))
 refine ao ?_
 refine js O Z (jf [7,129,121,0,4,5,8,12,13,14] Z (jn (aj (js O Z ?_))))
 first | refine ji O Z ?_ | refine aU O Z Z ?_
 refine js O Z (jf [14,7,129,121,0,4,5,8,12,13] Z (jn ?_))
 have hng := ly (u := u2) (j := z.toNat) (v := B) (by omega) hzl (by rw [← hj4]; have := hj1.kk.2; have := dG (x := (a.code.getD k default)); show 0 ≤ _ - _ + _; omega)
 refine ⟨(u2.set z.toNat B, w2 ++ [z], j + 1), ((aw [21,143,87000] (e' := [(0, _), (4, _), (5, _), (7, _), (8, _), (12, _), (13, _), (14, _)]) Z Z ⟨Z, Z, Z, Z, Z, Z, Z, Z, trivial⟩ Z).trans (ag 143 903 Z Z)).trans (Ent.to ⟨Z, Z, Z, Z, Z, Z, Z, Z, trivial⟩ Z), ⟨?_, ?_, ?_, ?_⟩, by show M.length - (j + 1) < M.length - j; omega⟩
 rw [← hj4]; exact hj1.new hjm hzm hzt hz0 hzn hzl (mV hj3)
 show (w2 ++ [z]).length + eT (u2.set z.toNat B) = _; rw [c9, ij]; omega
 show p + 1 ≤ (w2 ++ [z]).length; rw [c9]; omega
 rw [← hj4]; exact hj1.bes hzl hz0 hzn
 refine ah (aj (js O Z ?_))
 first | refine ji O Z ?_ | refine aU O Z Z ?_
 refine js O Z (jf [14,129,121,0,4,5,7,8,12,13] Z (jn ?_))
 have hzl := bn hc129
 have hzB : (u2.getD z.toNat default) = B := by rw [decide_eq_true (by omega)] at hzb; simpa using hzb
 refine ⟨(u2, w2, j + 1), (aw [21,903,87000] (e' := [(0, _), (4, _), (5, _), (7, _), (8, _), (12, _), (13, _), (14, _)]) Z Z ⟨Z, Z, Z, Z, Z, Z, Z, Z, trivial⟩ Z).trans (Ent.to ⟨Z, Z, Z, Z, Z, Z, Z, Z, trivial⟩ Z), ⟨hj1.old hjm hz.symm hz0 hzn (hzB.trans hj4.symm), hj2, hj3, hj4⟩, by show M.length - (j + 1) < M.length - j; omega⟩
 refine aQ (aj (js O Z ?_))
 first | refine ji O Z ?_ | refine aU O Z Z ?_
 refine js O Z (jf [8,90,0,4,5,7,12,13,14] Z (jn ?_))
 have hjm : M.length ≤ j := by have := bn hc90; omega
 refine ⟨(u2, w2, p + 1), ((aw [21,903] (e' := [(0, _), (4, _), (5, _), (7, _), (8, _)]) Z Z ⟨Z, Z, Z, Z, Z, trivial⟩ Z).trans (ag 903 902 Z Z)).trans (Ent.to ⟨Z, Z, Z, Z, Z, trivial⟩ Z), ⟨hj1.end_ hjm (fun y hy => by rw [hM]; exact z6.2 hy), hj2, hj3⟩, by show a.code.length + 1 - (p + 1) < a.code.length + 1 - p; omega⟩
 refine aQ (ac (j3 O Z Z Z (jr ?_)))
 have hpe : ws.length ≤ p := by have := bn hc36; omega
 rw [List.drop_of_length_le hpe] at kM
 rw [jv kM.done]
 refine ⟨.inl Z, _, ak, _, by rw [← hul]; rfl, [21], by decide, Z, Z, Z⟩
theorem om {a : An} {i : Nat} (h : i < a.code.length) : (bQ a).getD i default = i2 a i := by simp [bQ, h]
theorem wJ {a : An} {i : Nat} (h : i < a.code.length) {u : List Bool} (hu : u = se (m6 a) a.code.length (m6 a i)) : (bif u.getD i default then decide (dC a.pts (i : Int) < 0) else false) = i2 a i := by
 have e : decide (dC a.pts (i : Int) < 0) = !dB a.pts (i : Int) := by
  rw [← gO]
  by_cases g : dC a.pts (i : Int) < 0
  rw [decide_eq_true g, decide_eq_false (by omega)]; rfl
  rw [decide_eq_false g, decide_eq_true (by omega)]; rfl
 rw [e]
 cases hp : dB a.pts (i : Int) with
 | true => rw [qY hp]; cases u.getD i default <;> rfl
 | false => rw [uI hp, ← hu]; cases u.getD i default <;> rfl
theorem oq {bs : List Bool} : ∀ {n : Nat}, n ≤ bs.length → ((dE bs n).length = 0 ↔ ∀ j, j < n → bs.getD j default = false)
 | 0, _ => by simp [dE]
 | n + 1, h => by
  have ih := oq (bs := bs) (n := n) (by omega)
  unfold dE
  split
  rename_i ht
  constructor
  intro h; simp at h
  intro g; rw [g n (by omega)] at ht; cases ht
  rename_i ht
  rw [ih]
  constructor
  intro g j hj
  by_cases e : j = n
  subst e; cases hb : bs.getD j default with
  | false => rfl
  | true => exact absurd hb ht
  exact g j (by omega)
  intro g j hj; exact g j (by omega)
theorem uY {a : An} : decide ((dE (bQ a) a.code.length).length = (0 : Nat)) = (bQ a).all (!·) := by
 rw [Bool.eq_iff_iff, decide_eq_true_eq, oq (by simp), List.all_eq_true]
 constructor
 intro h x hx
 obtain ⟨i, hi, rfl⟩ := List.mem_iff_getElem.1 hx
 have := h i (by simpa using hi)
 rw [ar hi] at this; rw [this]; rfl
 intro h j hj
 have := h _ (List.getElem_mem (show j < (bQ a).length by simpa using hj))
 rw [ar (by simpa using hj)]; simpa using this
theorem zz (hv : VA' a) : MQ h1 h2 79 [ptr a.data] [] (Rows (.c (.rs 0 0 (dE (bQ a) a.code.length).length)) [aD (dE (bQ a) a.code.length)]) := by
 refine bh (jB 103 h1 h2 Tryz.func79 Z Z Z fun O hF => ?_)
 have hl : a.code.length ≤ L := by simpa [As.fact, A.fact, M.fact, D.fact, Ds.fact] using hF.1.2.2.1.1
 have h80 := hv.ok.len
 refine ac (js O Z (aP (j4 O Z Z Z Z ?_)))
 first | refine bo O Z ?_ | refine js O Z ?_ | refine aU O Z Z ?_
 refine js O Z (jf [3,2,0] Z (aP (AOps.heap (aZ O Z Z Z) Z (ao ?_))))
 refine js O Z (jn (af (ac (js O Z (jn (am (ap (X := Nat) (fun i => ⟨[(0, ptr a.data), (3, eI a.code.length), (4, .c (.rs 900 0 (dE (bQ a) i).length)), (5, eI i)], [(900, aD (dE (bQ a) i))]⟩) (fun i => i ≤ a.code.length) (fun i => a.code.length - i) 0 ((ag 17 900 Z Z).trans (Ent.to ⟨Z, Z, Z, Z, trivial⟩ Z)) ?_ (fun i hi => ?_))))))))
 exact cm _
 refine af (ac (j3 O Z Z Z (jf [20,0,3,4,5] Z (jn (ab O Z Z (fun hc20 => ?_) (fun hc20 => ?_))))))
 refine ah (af (am (ac ?_)))
 have hil : i < a.code.length := by have := aR hc20; omega
 have hxl := gF (bs := bQ a) (i := i)
 refine js O Z (AOps.heap (cd O Z Z Z Z Z Z Z Z Z (by first | omega | (simp at *; omega)) (by first | omega | (simp at *; omega)) (by first | omega | (simp at *; omega)) (by first | omega | (dsimp only; omega) | (simp only [aN] at *; omega)) (by first | omega | (simp at *; omega)) Z Z Z) Z (ao ?_))
 refine js O Z (jf [6,20,0,3,4,5] Z (aP (js O Z (AOps.heap (aZ O Z Z Z) Z (ao ?_)))))
 refine js O Z (jf [7,6,20,0,3,4,5] Z (aP (js O Z (jn (af (ac (js O Z (jn (am (ap (X := List Bool × List Int × Nat) (fun x => ⟨[(0, ptr a.data), (3, eI a.code.length), (4, .c (.rs 900 0 (dE (bQ a) i).length)), (5, eI i), (6, .c (.rs 24 0 a.code.length)), (7, .c (.rs 903 0 x.2.1.length)), (8, eB (x.1.getD i default)), (9, eI (x.2.2 : Nat))], [(24, dN x.1), (900, aD (dE (bQ a) i)), (903, aD x.2.1)]⟩) (fun x => GP (m6 a) a.code.length i x.1 (x.2.1.drop x.2.2) ∧ x.2.1.length ≤ 1 + x.1.count true ∧ x.2.2 ≤ x.2.1.length) (fun x => a.code.length + 2 - x.2.2) (List.replicate a.code.length false, [(i : Int)], 0) (((aw [24,900,26] (e' := [(0, _), (3, _), (4, _), (5, _), (6, _), (7, _), (8, _), (9, _)]) Z Z ⟨Z, Z, Z, Z, Z, Z, Z, Z, trivial⟩ Z).trans (ag 26 903 Z Z)).trans (Ent.to ⟨Z, Z, Z, Z, Z, Z, by rw [nW]; rfl, Z, trivial⟩ (by rw [dN, List.map_replicate]; rfl))) ?_ (fun x hi => ?_)))))))))))
 exact ⟨GP.zero hil, Nat.le_add_right _ _, cm _⟩
 refine af (ac ?_)
 obtain ⟨u, e_u⟩ : ∃ u, u = x.1 := ⟨_, rfl⟩
 obtain ⟨ws, e_ws⟩ : ∃ ws, ws = x.2.1 := ⟨_, rfl⟩
 obtain ⟨p, e_p⟩ : ∃ p, p = x.2.2 := ⟨_, rfl⟩
 rw [← e_u, ← e_ws, ← e_p] at hi ⊢
 obtain ⟨kM, jM, hi3⟩ := hi
 have hul := kM.len
 have hcu : u.count true ≤ a.code.length := by rw [← hul]; exact List.count_le_length
 refine j2 O Z Z ?_
 first | refine bo O Z ?_ | refine js O Z ?_ | refine aU O Z Z ?_
 refine js O Z (jf [30,0,3,4,5,6,7,8,9] Z (jn (ab O Z Z (fun hc30 => ?_) (fun hc30 => ?_))))
 refine ah (af (am (af (ac ?_))))
 have hpl : p < ws.length := by have := aR hc30; omega
 have hz0 := kM.nn (ws.getD p default) ((jz hpl Z _).2 (.inl Z))
 obtain ⟨k, hk⟩ : ∃ k : Nat, ws.getD p default = (k : Int) := ⟨(ws.getD p default).toNat, by omega⟩
 have hdm := jz hpl hk
 have hkn : k < a.code.length := by omega
 refine j3 O Z Z Z (AOps.step (aO O Z Z (by omega)) Z Z Z (AOps.step (av O (ex := [.int .i64 (k : Int)]) Z Z Z Z (by rw [fM hpl (by omega), hk]) Z) Z Z Z (jf [37,33,30,0,3,4,5,6,7,8,9] Z (ae O Z Z Z Z (io (a := a) (k := (k : Int)) h1 h2) (aa Z) Z Z Z Z Z (B0 := 39000) Z (AOps.step ((V O Z).cast (v' := eB (dB a.pts (k : Int))) (congrArg eB gO)) Z Z Z (jf [39,30,0,3,4,5,6,7,8,9] Z (jn (ab O Z Z (fun hc39 => ?_) (fun hc39 => ?_)))))))))
 refine aQ (aj (js O Z ?_))
 first | refine ji O Z ?_ | refine aU O Z Z ?_
 refine js O Z (jf [9,39,30,0,3,4,5,6,7,8] Z (jn ?_))
 have hke : m6 a k = [] := if_pos hc39
 refine ⟨(u, ws, p + 1), (aw [24,900,903] (e' := [(0, _), (3, _), (4, _), (5, _), (6, _), (7, _), (8, _), (9, _)]) Z Z ⟨Z, Z, Z, Z, Z, Z, Z, Z, trivial⟩ Z).trans (Ent.to ⟨Z, Z, Z, Z, Z, Z, Z, Z, trivial⟩ Z), ⟨(kM.take hdm).end_ (by rw [hke]; exact bw _), jM, hpl⟩, by show a.code.length + 2 - (p + 1) < a.code.length + 2 - p; omega⟩
 refine ah (ac (j3 O Z Z Z (AOps.step (aO O Z Z (by omega)) Z Z Z (AOps.step (av O (ex := [.int .i64 (k : Int)]) Z Z Z Z (by rw [fM hpl (by omega), hk]) Z) Z Z Z (jf [44,40,39,30,0,3,4,5,6,7,8,9] Z (aI O (B0 := 46000) Z Z Z Z (vJ (a := a) (k := k) h1 h2 hkn (by omega)) (aa Z) Z Z Z Z Z Z (ao ?_)))))))
 refine js O Z (jf [10,39,30,0,3,4,5,6,7,8,9] Z (aP (js O Z (jn (am ?_)))))
 obtain ⟨M, hM⟩ : ∃ M, M = nI (a.code.getD k default) k := ⟨_, rfl⟩
 have hM2 : M.length ≤ 2 := by rw [hM]; exact qZ
 have hke : m6 a k = M := by rw [hM]; exact if_neg (by rw [hc39]; decide)
 rw [← hM]
 refine ap (X := List Bool × List Int × Nat) (fun y => ⟨[(0, ptr a.data), (3, eI a.code.length), (4, .c (.rs 900 0 (dE (bQ a) i).length)), (5, eI i), (6, .c (.rs 24 0 a.code.length)), (7, .c (.rs 904 0 y.2.1.length)), (8, eB (y.1.getD i default)), (9, eI (p : Nat)), (10, .c (.rs 46000 0 M.length)), (11, eI (y.2.2 : Nat))], [(24, dN y.1), (900, aD (dE (bQ a) i)), (904, aD y.2.1), (46000, aD M)]⟩) (fun y => GPi (m6 a) a.code.length i y.1 (y.2.1.drop (p + 1)) k y.2.2 ∧ y.2.1.length ≤ 1 + y.1.count true ∧ p + 1 ≤ y.2.1.length) (fun y => M.length - y.2.2) (u, ws, 0) (((aw [24,900,903,46000] (e' := [(0, _), (3, _), (4, _), (5, _), (6, _), (7, _), (8, _), (9, _), (10, _), (11, _)]) Z Z ⟨Z, Z, Z, Z, Z, Z, Z, Z, Z, Z, trivial⟩ Z).trans (ag 903 904 Z Z)).trans (Ent.to ⟨Z, Z, Z, Z, Z, Z, Z, Z, Z, Z, trivial⟩ Z)) ?_ (fun y hi => ?_)
 exact ⟨kM.take hdm, jM, hpl⟩
 refine af (ac ?_)
 obtain ⟨u2, e_u2⟩ : ∃ u2, u2 = y.1 := ⟨_, rfl⟩
 obtain ⟨w2, e_w2⟩ : ∃ w2, w2 = y.2.1 := ⟨_, rfl⟩
 obtain ⟨j, e_j⟩ : ∃ j, j = y.2.2 := ⟨_, rfl⟩
 rw [← e_u2, ← e_w2, ← e_j] at hi ⊢
 obtain ⟨hj1, hj2, hj3⟩ := hi
 have hul2 := hj1.len
 have hcu2 : u2.count true ≤ a.code.length := by rw [← hul2]; exact List.count_le_length
 refine j2 O Z Z ?_
 first | refine bo O Z ?_ | refine js O Z ?_ | refine aU O Z Z ?_
 refine js O Z (jf [49,0,3,4,5,6,7,8,9,10,11] Z (jn (ab O Z Z (fun hc49 => ?_) (fun hc49 => ?_))))
 refine ah (af (am (af ?_)))
 have hjm : j < M.length := by have := aR hc49; omega
 obtain ⟨z, hz⟩ : ∃ z, z = M.getD j default := ⟨_, rfl⟩
 refine c6 ⟨[(0, ptr a.data), (3, eI a.code.length), (4, .c (.rs 900 0 (dE (bQ a) i).length)), (5, eI i), (6, .c (.rs 24 0 a.code.length)), (7, .c (.rs 904 0 w2.length)), (8, eB (bif u2.getD i default then true else decide (z = (i : Int)))), (9, eI (p : Nat)), (10, .c (.rs 46000 0 M.length)), (11, eI (j : Nat))], [(24, dN u2), (900, aD (dE (bQ a) i)), (904, aD w2), (46000, aD M)]⟩ ?_ ?_
 refine aj (j2 O Z Z ?_)
 cases hb54 : u2.getD i default with
 | true =>
  refine jf [53,49,0,3,4,5,6,7,8,9,10,11] Z (AOps.skip Z Z Z Z Z Z (AOps.skip Z Z Z Z Z Z (AOps.skip Z Z Z Z Z Z (jf [56,53,49,0,3,4,5,6,7,8,9,10,11] Z (AOps.skip Z Z Z Z Z Z (jf [57,53,49,0,3,4,5,6,7,8,9,10,11] Z (AOps.skip Z Z Z Z Z Z (AOps.skip Z Z Z Z Z Z (AOps.step (ba O Z Z Z Z Z) Z Z Z (js O Z (jf [8,49,0,3,4,5,6,7,9,10,11] Z (jn ?_))))))))))))
  exact ⟨Z, (aw [24,900,904,46000] (e' := [(0, _), (3, _), (4, _), (5, _), (6, _), (7, _), (8, _), (9, _), (10, _), (11, _)]) Z Z ⟨Z, Z, Z, Z, Z, Z, Z, Z, Z, Z, trivial⟩ Z).trans (Ent.to ⟨Z, Z, Z, Z, Z, Z, Z, Z, Z, Z, trivial⟩ Z)⟩
 | false =>
  refine jf [53,49,0,3,4,5,6,7,8,9,10,11] Z (bz Z (js O Z (bz Z (js O Z (bz Z (AOps.step (aO O Z Z (by omega)) Z Z Z (jf [56,53,49,0,3,4,5,6,7,8,9,10,11] Z (bz Z (AOps.step (av O (ex := [.int .i64 z]) Z Z Z Z (by rw [fM hjm (by omega), hz]) Z) Z Z Z (jf [57,53,49,0,3,4,5,6,7,8,9,10,11] Z (bz Z (js O Z (bz Z (js O Z (AOps.step (aF O Z Z Z Z Z) Z Z Z (js O Z (jf [8,49,0,3,4,5,6,7,9,10,11] Z (jn ?_))))))))))))))))))
  exact ⟨Z, (aw [24,900,904,46000] (e' := [(0, _), (3, _), (4, _), (5, _), (6, _), (7, _), (8, _), (9, _), (10, _), (11, _)]) Z Z ⟨Z, Z, Z, Z, Z, Z, Z, Z, Z, Z, trivial⟩ Z).trans (Ent.to ⟨Z, Z, Z, Z, Z, Z, Z, Z, Z, Z, trivial⟩ Z)⟩
 refine af ?_
 obtain ⟨bk, hbk⟩ : ∃ bk, bk = (bif u2.getD i default then true else decide (z = (i : Int))) := ⟨_, rfl⟩
 rw [← hbk]
 refine c6 ⟨[(77, eB (bif dk a.code.length z then !(u2.getD z.toNat default) else false)), (0, ptr a.data), (3, eI a.code.length), (4, .c (.rs 900 0 (dE (bQ a) i).length)), (5, eI i), (6, .c (.rs 24 0 a.code.length)), (7, .c (.rs 904 0 w2.length)), (8, eB bk), (9, eI (p : Nat)), (10, .c (.rs 46000 0 M.length)), (11, eI (j : Nat))], [(24, dN u2), (900, aD (dE (bQ a) i)), (904, aD w2), (46000, aD M)]⟩ ?_ ?_
 refine aj (j2 O Z Z (AOps.step (aO O Z Z (by omega)) Z Z Z (AOps.step (av O (ex := [.int .i64 z]) Z Z Z Z (by rw [fM hjm (by omega), hz]) Z) Z Z Z (js O Z ?_))))
 first | refine ji O Z ?_ | refine aU O Z Z ?_
 refine jf [66,64,0,3,4,5,6,7,8,9,10,11] Z (ae O Z Z Z Z ((kX (x := z) (lo := 0) (hi := (a.code.length : Int) - 1) h1 h2).plain (u := eB (dk a.code.length z)) Z) (aa Z) Z Z Z Z Z (B0 := 68000) Z (js O Z ?_))
 cases hb69 : dk a.code.length z with
 | true =>
  refine jf [68,0,3,4,5,6,7,8,9,10,11] Z (bz Z (js O Z (bz Z (js O Z (bz Z (js O Z (bz Z ?_)))))))
  obtain ⟨hz0, hzn⟩ := uS.1 hb69
  refine AOps.step (aO O Z Z (by omega)) Z Z Z (jf [72,69,68,0,3,4,5,6,7,8,9,10,11] Z (bz Z (AOps.step (av O (ex := [.int .i64 z]) Z Z Z Z (by rw [fM hjm (by omega), hz]) Z) Z Z Z (jf [73,69,68,0,3,4,5,6,7,8,9,10,11] Z (bz Z (AOps.step (aO O Z Z (by omega)) Z Z Z (jf [74,68,0,3,4,5,6,7,8,9,10,11] Z (bz Z (AOps.step (av O (ex := bL (u2.getD z.toNat default)) Z Z Z Z (fM (by omega) (by omega)) Z) Z Z Z (jf [75,68,0,3,4,5,6,7,8,9,10,11] Z (bz Z (js O Z (AOps.step (ba O Z Z Z Z Z) Z Z Z (jf [77,0,3,4,5,6,7,8,9,10,11] Z (jn ?_)))))))))))))))
  exact ⟨Z, (aw [24,900,904,46000] (e' := [(77, _), (0, _), (3, _), (4, _), (5, _), (6, _), (7, _), (8, _), (9, _), (10, _), (11, _)]) Z Z ⟨Z, Z, Z, Z, Z, Z, Z, Z, Z, Z, Z, trivial⟩ Z).trans (Ent.to ⟨Z, Z, Z, Z, Z, Z, Z, Z, Z, Z, Z, trivial⟩ Z)⟩
 | false =>
  refine jf [68,0,3,4,5,6,7,8,9,10,11] Z (AOps.skip Z Z Z Z Z Z (AOps.skip Z Z Z Z Z Z (AOps.skip Z Z Z Z Z Z (AOps.skip Z Z Z Z Z Z (jf [72,69,68,0,3,4,5,6,7,8,9,10,11] Z (AOps.skip Z Z Z Z Z Z (jf [73,69,68,0,3,4,5,6,7,8,9,10,11] Z (AOps.skip Z Z Z Z Z Z (jf [74,68,0,3,4,5,6,7,8,9,10,11] Z (AOps.skip Z Z Z Z Z Z (jf [75,68,0,3,4,5,6,7,8,9,10,11] Z (AOps.skip Z Z Z Z Z Z (AOps.step (aF O Z Z Z Z Z) Z Z Z (jf [77,0,3,4,5,6,7,8,9,10,11] Z (jn ?_)))))))))))))))
  exact ⟨Z, (aw [24,900,904,46000] (e' := [(77, _), (0, _), (3, _), (4, _), (5, _), (6, _), (7, _), (8, _), (9, _), (10, _), (11, _)]) Z Z ⟨Z, Z, Z, Z, Z, Z, Z, Z, Z, Z, Z, trivial⟩ Z).trans (Ent.to ⟨Z, Z, Z, Z, Z, Z, Z, Z, Z, Z, Z, trivial⟩ Z)⟩
 refine ab O Z Z (fun hc77 => ?_) (fun hc77 => ?_)
 refine ac ?_
 obtain ⟨hzi, hzf⟩ := uo hc77
 obtain ⟨hz0, hzn⟩ := uS.1 hzi
 have hzf := jQ hzf
 have hct := tV (u := u2) (j := z.toNat) (by omega) hzf
 refine j3 O Z Z Z (AOps.step (aO O Z Z (by omega)) Z Z Z (AOps.step (av O (ex := [.int .i64 z]) Z Z Z Z (by rw [fM hjm (by omega), hz]) Z) Z Z Z (AOps.step (aO O Z Z (by omega)) Z Z Z (jf [83,77,0,3,4,5,6,7,8,9,10,11] Z (AOps.heap (bd (ex := bL (u2.getD z.toNat default)) (xs' := (u2.set z.toNat true).map bL) O Z Z Z Z Z Z Z Z Z Z Z Z Z Z (fM (by omega) (by omega)) (t9 (v := true) (by omega) Z)) Z (ao ?_))))))
 refine ao ?_
 refine jn (aj (j3 O Z Z Z (AOps.step (aO O Z Z (by omega)) Z Z Z (AOps.step (av O (ex := [.int .i64 z]) Z Z Z Z (by rw [fM hjm (by omega), hz]) Z) Z Z Z (jf [88,84,83,77,0,3,4,5,6,7,8,9,10,11] Z (AOps.heap (aZ O Z Z Z) Z (ao ?_)))))))
 refine jf [89,84,83,77,0,3,4,5,6,7,8,9,10,11] Z (AOps.heap (bj (zs := (w2 ++ [z]).map fun n => [.int .i64 n]) (n := (w2 ++ [z]).length) O Z Z Z Z Z Z Z Z Z Z Z Z Z Z Z Z (.row Z (bt _).symm) Z Z (by decide) Z (by simp; omega) (by simp; omega) (by simp) (by simp)) Z (ao ?_))
 refine ao ?_
 refine js O Z (jf [7,83,77,0,3,4,5,6,8,9,10,11] Z (jn (aj (js O Z ?_))))
 first | refine ji O Z ?_ | refine aU O Z Z ?_
 refine js O Z (jf [11,7,83,77,0,3,4,5,6,8,9,10] Z (jn ?_))
 have hzm : (m6 a k).getD j default = z := by rw [hke]; exact hz.symm
 refine ⟨(u2.set z.toNat true, w2 ++ [z], j + 1), ((aw [24,900,90,46000] (e' := [(0, _), (3, _), (4, _), (5, _), (6, _), (7, _), (8, _), (9, _), (10, _), (11, _)]) Z Z ⟨Z, Z, Z, Z, Z, Z, Z, Z, Z, Z, trivial⟩ Z).trans (ag 90 904 Z Z)).trans (Ent.to ⟨Z, Z, Z, Z, Z, Z, ?_, Z, Z, Z, trivial⟩ Z), ⟨hj1.new (by rw [hke]; exact hjm) hzm hz0 hzn (mV hj3), ?_, ?_⟩, by show M.length - (j + 1) < M.length - j; omega⟩
 refine congrArg (fun q => some (eB q)) ?_
 rw [hbk, Bool.eq_iff_iff, cY (by omega)]
 cases u2.getD i default
 simp only [cond_false, decide_eq_true_eq, Bool.false_eq_true, or_false]; omega
 simp
 show (w2 ++ [z]).length ≤ 1 + (u2.set z.toNat true).count true; rw [c9, ij]; omega
 show p + 1 ≤ (w2 ++ [z]).length; rw [c9]; omega
 refine ah (aj (js O Z ?_))
 first | refine ji O Z ?_ | refine aU O Z Z ?_
 refine js O Z (jf [11,77,0,3,4,5,6,7,8,9,10] Z (jn ?_))
 have hold : 0 ≤ z → z < (a.code.length : Int) → u2.getD z.toNat default = true := fun g0 g1 => by have h9 := hc77; rw [uS.2 ⟨g0, g1⟩] at h9; exact gi h9
 refine ⟨(u2, w2, j + 1), (aw [24,900,904,46000] (e' := [(0, _), (3, _), (4, _), (5, _), (6, _), (7, _), (8, _), (9, _), (10, _), (11, _)]) Z Z ⟨Z, Z, Z, Z, Z, Z, Z, Z, Z, Z, trivial⟩ Z).trans (Ent.to ⟨Z, Z, Z, Z, Z, Z, ?_, Z, Z, Z, trivial⟩ Z), ⟨hj1.old (by rw [hke]; exact hjm) (by rw [hke, ← hz]; exact hold), hj2, hj3⟩, by show M.length - (j + 1) < M.length - j; omega⟩
 refine congrArg (fun q => some (eB q)) ?_
 rw [hbk]
 by_cases g : z = (i : Int)
 have := hold (by omega) (by omega); rw [g, Int.toNat_natCast] at this; rw [this]; rfl
 rw [decide_eq_false g]; cases u2.getD i default <;> rfl
 refine aQ (aj (js O Z ?_))
 first | refine ji O Z ?_ | refine aU O Z Z ?_
 refine js O Z (jf [9,49,0,3,4,5,6,7,8,10,11] Z (jn ?_))
 have hjm : M.length ≤ j := by have := bn hc49; omega
 refine ⟨(u2, w2, p + 1), ((aw [24,900,904] (e' := [(0, _), (3, _), (4, _), (5, _), (6, _), (7, _), (8, _), (9, _)]) Z Z ⟨Z, Z, Z, Z, Z, Z, Z, Z, trivial⟩ Z).trans (ag 904 903 Z Z)).trans (Ent.to ⟨Z, Z, Z, Z, Z, Z, Z, Z, trivial⟩ Z), ⟨hj1.end_ (by rw [hke]; exact hjm), hj2, hj3⟩, by show a.code.length + 2 - (p + 1) < a.code.length + 2 - p; omega⟩
 refine aQ (af ?_)
 have hpe : ws.length ≤ p := by have := bn hc30; omega
 rw [List.drop_of_length_le hpe] at kM
 have hO := wJ hil (kM.done hil)
 refine c6 ⟨[(97, eB (bif u.getD i default then decide (dC a.pts (i : Int) < 0) else false)), (0, ptr a.data), (3, eI a.code.length), (4, .c (.rs 900 0 (dE (bQ a) i).length)), (5, eI i)], [(900, aD (dE (bQ a) i))]⟩ ?_ ?_
 refine aj (j2 O Z Z ?_)
 cases hb93 : u.getD i default with
 | true =>
  refine jf [92,30,0,3,4,5,6,7,8,9] Z (bz Z (js O Z (bz Z (js O Z (bz Z (ae O Z Z Z Z (io (a := a) (k := (i : Int)) h1 h2) (aa Z) Z Z Z Z Z (B0 := 96000) Z (jf [95,92,30,0,3,4,5,6,7,8,9] Z (bz Z (js O Z (AOps.step (ba O Z Z Z Z Z) Z Z Z (jf [97,30,0,3,4,5,6,7,8,9] Z (jn ?_))))))))))))
  exact ⟨Z, (aw [900] (e' := [(97, _), (0, _), (3, _), (4, _), (5, _)]) Z Z ⟨Z, Z, Z, Z, Z, trivial⟩ Z).trans (Ent.to ⟨Z, Z, Z, Z, Z, trivial⟩ Z)⟩
 | false =>
  refine jf [92,30,0,3,4,5,6,7,8,9] Z (AOps.skip Z Z Z Z Z Z (AOps.skip Z Z Z Z Z Z (AOps.skip Z Z Z Z Z Z (jf [95,92,30,0,3,4,5,6,7,8,9] Z (AOps.skip Z Z Z Z Z Z (AOps.step (aF O Z Z Z Z Z) Z Z Z (jf [97,30,0,3,4,5,6,7,8,9] Z (jn ?_))))))))
  exact ⟨Z, (aw [900] (e' := [(97, _), (0, _), (3, _), (4, _), (5, _)]) Z Z ⟨Z, Z, Z, Z, Z, trivial⟩ Z).trans (Ent.to ⟨Z, Z, Z, Z, Z, trivial⟩ Z)⟩
 refine ab O Z Z (fun hc97 => ?_) (fun hc97 => ?_)
 refine aj (j2 O Z Z (AOps.heap (aZ O Z Z Z) Z (ao ?_)))
 refine jf [100,98,97,0,3,4,5] Z (AOps.heap (bj (zs := (dE (bQ a) i ++ [(i : Int)]).map fun n => [.int .i64 n]) (n := (dE (bQ a) i ++ [(i : Int)]).length) O Z Z Z Z Z Z Z Z Z Z Z Z Z Z Z Z (.row Z (bt _).symm) Z Z (by decide) Z (by simp; omega) (by simp; omega) (by simp) (by simp)) Z (ao ?_))
 refine ao ?_
 refine js O Z (jf [4,97,0,3,5] Z (jn (aj (js O Z ?_))))
 first | refine ji O Z ?_ | refine aU O Z Z ?_
 refine js O Z (jf [5,4,97,0,3] Z (jn ?_))
 have hx9 : dE (bQ a) (i + 1) = dE (bQ a) i ++ [(i : Int)] := if_pos (by rw [om hil, ← hO]; exact hc97)
 refine ⟨i + 1, (((aw [101] (e' := [(0, _), (3, _), (4, _), (5, _)]) Z Z ⟨Z, Z, Z, Z, trivial⟩ Z).trans (ag 101 900 Z Z))).trans (Ent.to ⟨Z, Z, by rw [hx9]; rfl, Z, trivial⟩ (by rw [hx9]; rfl)), by omega, by omega⟩
 refine ah (aj (js O Z ?_))
 first | refine ji O Z ?_ | refine aU O Z Z ?_
 refine js O Z (jf [5,97,0,3,4] Z (jn ?_))
 have hx9 : dE (bQ a) (i + 1) = dE (bQ a) i := if_neg (by rw [om hil, ← hO, hc97]; decide)
 refine ⟨i + 1, ((aw [900] (e' := [(0, _), (3, _), (4, _), (5, _)]) Z Z ⟨Z, Z, Z, Z, trivial⟩ Z)).trans (Ent.to ⟨Z, Z, by rw [hx9]; rfl, Z, trivial⟩ (by rw [hx9]; rfl)), by omega, by omega⟩
 refine aQ (ac (j2 O Z Z (jr ?_)))
 have hin : i = a.code.length := by have := bn hc20; omega
 rw [← hin]
 refine ⟨.inl Z, _, ak, _, Z, [900], by decide, Z, Z, Z⟩
theorem xc (hv : VA' a) (hn : f9 a.code (qP a.pts) = none) : MQ h1 h2 43 [ptr a.data] [] (Plain (eB (dF a))) := by
 refine aA ?_ Z
 refine jB 17 h1 h2 Tryz.func43 Z Z Z fun O hF => ?_
 have h63 := vM h1 h2 hv
 rw [hn] at h63
 refine ac (js O Z (aP (js O Z (aI O (B0 := 8000) Z Z Z Z (show MC Tryz.prog L 78 [ptr a.data] [] (Rows (.tup [.c (.d .nils), eB false]) []) from h63) (aa Z) Z Z Z Z Z Z (ao ?_)))))
 refine j4 O Z Z Z Z (js O Z (jf [4,2,0] Z (aP (j2 O Z Z (jf [11,2,0] Z (AOps.skip Z Z Z Z Z Z (AOps.skip Z Z Z Z Z Z (jf [13,11,2,0] Z (AOps.skip Z Z Z Z Z Z (jf [14,11,2,0] Z (AOps.skip Z Z Z Z Z Z (AOps.step (aF O Z Z Z Z Z) Z Z Z (js O Z (jf [2,0] Z (jr ?_)))))))))))))))
 refine ⟨.inl Z, _, ak, _, Z, ?_⟩
 rw [show dF a = false by rw [dF, hn]; rfl]
theorem xb (hv : VA' a) {h : List Int} (hn : f9 a.code (qP a.pts) = some h) : MQ h1 h2 43 [ptr a.data] [] (Plain (eB (dF a))) := by
 refine aA ?_ Z
 refine jB 17 h1 h2 Tryz.func43 Z Z Z fun O hF => ?_
 have h63 := vM h1 h2 hv
 rw [hn] at h63
 refine ac (js O Z (aP (js O Z (aI O (B0 := 8000) Z Z Z Z (show MC Tryz.prog L 78 [ptr a.data] [] (Rows (.tup [.c (.rs 0 0 h.length), eB true]) [aD h]) from h63) (aa Z) Z Z Z Z Z Z (ao ?_)))))
 refine j4 O Z Z Z Z (js O Z (jf [4,2,0] Z (aP (j2 O Z Z (jf [11,2,0] Z (bz Z (js O Z (bz Z (aI O (B0 := 14000) Z Z Z Z (zz h1 h2 hv) (aa Z) Z Z Z Z Z Z (ao ?_))))))))))
 refine jf [13,11,2,0] Z (bz Z ?_)
 have hxl := gF (bs := bQ a) (i := a.code.length)
 have h80 := hv.ok.len
 refine AOps.step (aO O Z Z (by omega)) Z Z Z (jf [14,11,2,0] Z (bz Z (js O Z (AOps.step (ba O Z Z Z Z Z) Z Z Z (js O Z (jf [2,0] Z (jr ?_)))))))
 refine ⟨.inl Z, _, ak, _, Z, ?_⟩
 rw [show dF a = decide (((dE (bQ a) a.code.length).length : Int) = 0) by rw [dF, hn, ← uY]; exact decide_eq_decide.2 (by omega)]
theorem vR {L : Nat} (h1 : 4096 ≤ L) (h2 : L ≤ 1073741824) {a : An} (hv : VA' a) : MC Tryz.prog L 43 [ptr a.data] [] (Plain (eB (dF a))) := by
 cases h : f9 a.code (qP a.pts) with
 | none => exact xc h1 h2 hv h
 | some x => exact xb h1 h2 hv h
abbrev bI (ps : List Pth) : B := .row false 5 (ps.map Pth.cells)
abbrev bJ (ss : List Sq) : B := .row false 3 (ss.map Sq.cells)
abbrev fJ (p : D) (frm : Int) (g : Gs) (i j : Nat) : B := .box [.d p, .d (.int .i64 frm), .rs i 0 g.paths.length, .rs j 0 g.conds.length, .d (.bool g.bad)]
abbrev hC (w : Pw) (st : List Tm) : B := .box [.d (fH w.vars), .d (fH st), .d (.int .i64 (w.sym : Int)), .d (fH w.facts), .d (gj w.ev)]
abbrev qq (w : Pw) (st : List Tm) : A := .agg [.d (fH w.vars), .d (fH st), .d (.int .i64 (w.sym : Int)), .d (fH w.facts), .d (gj w.ev)]
abbrev fC (p : D) (frm : Int) (g : Gs) (w : Pw) (st : List Tm) : List (Nat × B) := [(0, fJ p frm g 1 2), (1, bI g.paths), (2, bJ g.conds), (3, hC w st)]
abbrev BD (p : D) (frm : Int) (g : Gs) (w : Pw) (st : List Tm) : List (Nat × B) := [(0, fJ p frm g 1 6), (1, bI g.paths), (3, hC w st), (6, bJ g.conds)]
abbrev A0 (p : D) (frm : Int) (g : Gs) (w : Pw) (st : List Tm) : List (Nat × B) := [(0, fJ p frm g 5 6), (3, hC w st), (5, bI g.paths), (6, bJ g.conds)]
theorem vj {a b : Bool} : (bif a then true else b) = (a || b) := by cases a <;> rfl
variable {w : Pw} {st : List Tm}
theorem qD (hl : st.length ≤ 1000) : MQ h1 h2 111 [.c (.pt 0 0 0), cU t] [(0, hC w st)] (bb (.tup []) [(0, hC w (st ++ [t]))]) := by
 refine aJ 500 Z (MC.keep [500] (bs := [hC w (st ++ [t])]) Z Z (jH 15 [500] h1 h2 Tryz.func111 Z Z Z Z fun O hF => ?_))
 refine ch ?_
 refine ac (jx O Z (ao ?_))
 refine AOps.to (Ent.freeze 3 (e' := [(3, _), (0, _)]) Z (.cons Z (.c (.box (cs := Tm.cells t) Z (aq Z))) (fe [0] Z)) (.skip (.cons Z (.box (fk Z)) .nil))) ?_
 refine ao ?_
 refine jn (rx O [_,_,_,_,_,_,_,_,_,_,_,_] [pn [] 0 2, pn [] 0 0, pn [1] 0 0, pn [1,2] 0 0, pn [1,2,3] 0 0, pe [1,2,3,4] 0, pn [] 0 1, pn [6] 0 1, pe [1,2,3,4,5,6,7] 1, pn [0,1,2,3,4,5,6,7,8] 2 2, pn [0,1,2,3,4,5,6,7,8,9] 2 2, pe [0,1,2,3,4,5,6,7,8,9,10] 2] [5,8,11] 7 11 (.row false 2 [Tm.cells t]) [_,_] [_,_] [[], [10000], []] (ai (kf O Z Z Z (kf O Z Z Z (kg O Z Z Z))) (kf O Z Z Z (kf O Z Z Z (kf O Z Z Z (kf O Z Z Z (ai (ai (aE (aT (eA O (B0 := 10000) Z Z Z Z (nR (ts := st) h1 h2) (aa Z) Z Z Z Z)) (aT (eA O (B0 := 10000) Z Z Z Z (nR (ts := st) h1 h2) (aa Z) Z Z Z Z))) Z) (ai (kf O Z Z Z (kg O Z Z Z)) (ai (ai (ai (aT (b9 O Z Z Z Z Z Z Z Z Z Z Z Z Z Z)) Z) (ai (aT (b9 O Z Z Z Z Z Z Z Z Z Z Z Z Z Z)) Z)) (ai (ai (aE trivial (bN (own := false) (xs := st.map Tm.cells) (ys := [Tm.cells t]) (zs := ((st ++ [t])).map Tm.cells) (n := (st ++ [t]).length) O Z Z Z Z Z Z Z Z Z Z Z Z Z Z Z Z (.row Z (bt _).symm) (.whole Z Z (.inr ⟨Z, Z⟩)) (by simp) Z (by simp; omega) (by simp; omega) (by simp) (by simp) Z)) Z) (ai (ai (aE trivial (V O Z)) Z) (ai (ai (aE trivial (V O Z)) Z) (ai (ai (aE trivial (aT (eS O Z Z Z))) Z) trivial)))))))))))) ?_)
 show _ ∧ _
 refine Ad ?_
 refine ⟨.inr Z, _, Ent.freeze 12 (e' := [(0, _)]) Z (fe [0] Z) (.cons Z .row (.skip (.cons Z (.box (.cons (.keep Z) (.cons (.row Z (bt _).symm) (fk Z)))) .nil))), _, Z, Z, Z⟩
theorem im (h0 : 0 < st.length) (hl : st.length ≤ 1000) : MQ h1 h2 112 [.c (.pt 0 0 0)] [(0, hC w st)] (bb (cU (bg st)) [(0, hC w (cJ st))]) := by
 refine aJ 500 Z (MC.keep [500] (bs := [hC w (cJ st)]) Z Z (jH 29 [500] h1 h2 Tryz.func112 Z Z Z Z fun O hF => ?_))
 refine ch ?_
 refine ac (jl O Z (ao ?_))
 refine aP (j4 O Z Z Z Z ?_)
 first | refine bo O Z ?_ | refine js O Z ?_ | refine aU O Z Z ?_
 refine AOps.step ((az O Z Z (by omega) (by omega)).cast (v' := eI ((st.length - 1 : Nat) : Int)) (congrArg eI (by omega))) Z Z Z (js O Z (jf [3,2,0] Z (aP (j4 O Z Z Z Z (js O Z (AOps.step (aL O Z Z Z Z Z Z Z Z (cB (by omega))) Z Z Z (js O Z (jf [17,3,2,0] Z (jl O Z (ao ?_))))))))))
 refine jo O Z (ao ?_)
 refine aP (j4 O Z Z Z Z (j2 O Z Z (AOps.step (qh (sz := 2) (xs := st.map Tm.cells) (a := 0) (b := st.length - 1) (ys := (cJ st).map Tm.cells) O Z Z Z Z Z Z Z Z Z Z y4 ⟨cm _, by rw [bt]; omega⟩ (by rw [List.drop_zero, Nat.sub_zero, ← List.map_take])) Z Z Z (jf [24,18,4,17,3,2,0] Z (ax O Z Z Z Z (ud (ts := cJ st) h1 h2) (aa Z) Z Z Z Z (B0 := 26000) Z Z (j2 O Z Z (jf [27,25,4,17,3,2,0] Z (jo O Z (ao ?_)))))))))
 refine jf [4,17,3,2,0] Z (aP (js O Z (jo O Z (ao ?_))))
 refine jr ?_
 refine ⟨.inl Z, _, ak, _, Z, Z, Z⟩
theorem zw {s : Tm} (hs : Small s) (ht : Small t) : MQ h1 h2 113 [ptr s.cells, ptr t.cells] [] (Plain (eM (kY s 1 t 1))) := by
 refine MC.data (jB 11 h1 h2 Tryz.func113 Z Z Z fun O hF => ?_)
 refine ac (jl O Z (js O Z (aP (j2 O Z Z (jf [7,6,5,4] Z (ax O Z Z Z Z (uj (a := s) (m := 1) (b := t) (n := 1) h1 h2 hs ht (by decide) (by decide)) (aa Z) Z Z Z Z (B0 := 9000) Z Z (j2 O Z Z (jf [10,9,5,4] Z (jo O Z (js O Z (jf [5,4] Z (jr ?_))))))))))))
 refine ⟨.inl Z, _, ak, _, Z, ?_⟩
 exact .tup (.cons (.agg (aq Z)) (.cons (.c .d) .nil))
theorem zu {n : Int} (ht : Small t) (hn : num n = true) : MQ h1 h2 114 [ptr t.cells, eI n] [] (Plain (eM (kY t n ⟨0, []⟩ 0))) := by
 refine MC.data (jB 13 h1 h2 Tryz.func114 Z Z Z fun O hF => ?_)
 refine ac (jl O Z (ao ?_))
 refine js O Z (aP (j3 O Z Z Z (jf [8,7,6,5,4] Z (jx O Z (ao ?_)))))
 refine AOps.to (Ent.freeze 9 (e' := [(9, _), (7, _), (6, _), (4, _)]) Z (.cons Z (.c (.box (cs := Tm.cells ⟨0, []⟩) Z (.cons .d (.cons .nils .nil)))) (fe [7,6,4] Z)) (.cons Z (.box (fk Z)) (.skip .nil))) ?_
 refine ao ?_
 refine ax O Z Z Z Z (uj (a := t) (m := n) (b := ⟨0, []⟩) (n := 0) h1 h2 ht ⟨by decide, by decide⟩ hn (by decide)) (aa Z) Z Z Z Z (B0 := 11000) Z Z (j2 O Z Z (jf [12,11,4] Z (jo O Z (ao ?_))))
 refine js O Z (jf [5,4] Z (jr ?_))
 refine ⟨.inl Z, _, ak, _, Z, ?_⟩
 exact .tup (.cons (.agg (aq Z)) (.cons (.c .d) .nil))
variable {p : D} {frm : Int} {g : Gs}
theorem qC (hg : g.conds.length + 1 ≤ L) : MQ h1 h2 117 [.c (.pt 0 0 0), .c (.pt 3 0 0), ptr t.cells] (fC p frm g w st) (bb (.tup []) (BD p frm (g.goal w t) w st)) := by
 refine aJ 500 Z (MC.keep [500,501,503,506] (bs := [fJ p frm (g.goal w t) 501 506, bI g.paths, hC w st, bJ (g.goal w t).conds]) Z Z (jH 23 [500,501,502,503] h1 h2 Tryz.func117 Z Z Z Z fun O hF => ?_))
 refine ch ?_
 refine rx O [_,_,_,_,_,_,_,_,_,_,_,_,_,_,_,_,_,_] [pn [] 0 3, pn [] 0 2, pn [1] 0 2, pn [1,2] 0 2, pn [1,2,3] 0 2, pn [] 0 0, pn [5] 0 0, pn [5,6] 0 0, pn [5,6,7] 0 0, pe [5,6,7,8] 0, pn [] 0 1, pe [5,6,7,8,9,10] 1, pn [5,6,7,8,9,10,11] 2 2, pn [5,6,7,8,9,10,11,12] 2 2, pe [1,2,3,4,5,6,7,8,9,10,11,12,13] 2, pn [0,1,2,3,4,5,6,7,8,9,10,11,12,13,14] 3 3, pn [0,1,2,3,4,5,6,7,8,9,10,11,12,13,14,15] 3 3, pe [0,1,2,3,4,5,6,7,8,9,10,11,12,13,14,15,16] 3] [9,11,14,17] 13 19 (.row false 3 [Sq.cells (⟨w.facts, t⟩ : Sq)]) [_,_,_] [_,_] [[], [], [502], []] (ai (kf O Z Z Z (kf O Z Z Z (kf O Z Z Z (kg O Z Z Z)))) (ai (kf O Z Z Z (kf O Z Z Z (kg O Z Z Z))) (ai (kf O Z Z Z (kf O Z Z Z (kg O Z Z Z))) (ai (kf O Z Z Z (kf O Z Z Z (kg O Z Z Z))) (ai (kf O Z Z Z (kf O Z Z Z (kg O Z Z Z))) (kf O Z Z Z (kf O Z Z Z (kf O Z Z Z (kf O Z Z Z (ai (ai (aE (aC O (B0 := 16000) Z Z Z Z (ud (ts := w.facts) h1 h2) (aa Z) Z Z Z Z Z) (aC O (B0 := 16000) Z Z Z Z (ud (ts := w.facts) h1 h2) (aa Z) Z Z Z Z Z)) Z) (ai (kf O Z Z Z (kg O Z Z Z)) (ai (ai (aE (aC O (B0 := 18000) Z Z Z Z (wq (t := t) h1 h2) (aa Z) Z Z Z Z Z) (aC O (B0 := 18000) Z Z Z Z (wq (t := t) h1 h2) (aa Z) Z Z Z Z Z)) Z) (kf O Z Z Z (ai (ai (b9 O Z Z Z Z Z Z Z Z Z Z Z Z Z Z) Z) (ai (ai (aE trivial (bN (own := false) (xs := g.conds.map Sq.cells) (ys := [Sq.cells (⟨w.facts, t⟩ : Sq)]) (zs := ((g.conds ++ [(⟨w.facts, t⟩ : Sq)])).map Sq.cells) (n := (g.conds ++ [(⟨w.facts, t⟩ : Sq)]).length) O Z Z Z Z Z Z Z Z Z Z Z Z Z Z Z Z (.row Z (bt _).symm) (.whole Z Z (.inr ⟨Z, Z⟩)) (by simp) Z (by simp; omega) (by simp; omega) (by simp) (by simp) Z)) Z) (ai (ai (aE trivial (V O Z)) Z) (ai (ai (aE trivial (V O Z)) Z) (ai (ai (aE trivial (aT (eS O Z Z Z))) Z) trivial)))))))))))))))))) ?_
 show _ ∧ _
 refine ⟨.inr Z, _, ag 20 506 Z Z, _, Z, Z, Z⟩
theorem sH (hl : w.facts.length ≤ 1000) : MQ h1 h2 118 [.c (.pt 0 0 0), .c (.pt 3 0 0), cU t] (fC p frm g w st) (bb (.tup []) (fC p frm (g.flag (w.fact t).long) (w.fact t) st)) := by
 refine aJ 500 Z (MC.keep [500,501,502,503] (bs := [fJ p frm (g.flag (w.fact t).long) 501 502, bI g.paths, bJ g.conds, hC (w.fact t) st]) Z Z (jH 32 [500,501,502,503] h1 h2 Tryz.func118 Z Z Z Z fun O hF => ?_))
 refine ch ?_
 refine ac (jx O Z (ao ?_))
 refine AOps.to (Ent.freeze 5 (e' := [(5, _), (0, _), (1, _)]) Z (.cons Z (.c (.box (cs := Tm.cells t) Z (aq Z))) (fe [0,1] Z)) (.skip (.cons Z (.box (fk Z)) (.cons Z .row (.cons Z .row (.cons Z (.box (fk Z)) .nil)))))) ?_
 refine ao ?_
 refine jn (af (rx O [_,_,_,_,_,_,_,_,_,_,_,_] [pn [] 0 2, pn [] 0 0, pn [1] 0 0, pn [1,2] 0 0, pn [1,2,3] 0 0, pe [1,2,3,4] 0, pn [] 0 1, pn [6] 0 1, pe [1,2,3,4,5,6,7] 1, pn [0,1,2,3,4,5,6,7,8] 2 2, pn [0,1,2,3,4,5,6,7,8,9] 2 2, pe [0,1,2,3,4,5,6,7,8,9,10] 2] [5,8,11] 7 13 (.row false 2 [Tm.cells t]) [_,_] [_,_] [[], [12000], []] (ai (kf O Z Z Z (kf O Z Z Z (kg O Z Z Z))) (kf O Z Z Z (kf O Z Z Z (kf O Z Z Z (kf O Z Z Z (ai (ai (aE (aT (eA O (B0 := 12000) Z Z Z Z (nR (ts := w.facts) h1 h2) (aa Z) Z Z Z Z)) (aT (eA O (B0 := 12000) Z Z Z Z (nR (ts := w.facts) h1 h2) (aa Z) Z Z Z Z))) Z) (ai (kf O Z Z Z (kg O Z Z Z)) (ai (ai (ai (aT (b9 O Z Z Z Z Z Z Z Z Z Z Z Z Z Z)) Z) (ai (aT (b9 O Z Z Z Z Z Z Z Z Z Z Z Z Z Z)) Z)) (ai (ai (aE trivial (bN (own := false) (xs := w.facts.map Tm.cells) (ys := [Tm.cells t]) (zs := ((w.facts ++ [t])).map Tm.cells) (n := (w.facts ++ [t]).length) O Z Z Z Z Z Z Z Z Z Z Z Z Z Z Z Z (.row Z (bt _).symm) (.whole Z Z (.inr ⟨Z, Z⟩)) (by simp) Z (by simp; omega) (by simp; omega) (by simp) (by simp) Z)) Z) (ai (ai (aE trivial (V O Z)) Z) (ai (ai (aE trivial (V O Z)) Z) (ai (ai (aE trivial (aT (eS O Z Z Z))) Z) trivial)))))))))))) ?_))
 refine jw [0,1] Z (ch ?_)
 refine aj (AOps.to (Ent.freeze 14 (e' := [(0, _), (1, _)]) Z (fe [0,1] Z) (.cons Z .row (.skip (.cons Z (.box (fk Z)) (.cons Z .row (.cons Z .row (.cons Z (.box (.cons (.keep Z) (.cons (.keep Z) (.cons (.keep Z) (.cons (.row Z (bt _).symm) (fk Z)))))) .nil))))))) ?_)
 refine j4 O Z Z Z Z (j2 O Z Z (jf [22,17,1] Z (aS 6 Z Z Z (fun hx => AN.step hx Z Z Z (V O Z) Z Z ( AN.step hx Z Z Z (V O Z) Z Z ( AN.step hx Z Z Z (V O Z) Z Z ( AN.step hx Z Z Z (V O Z) Z Z ( AN.step hx Z Z Z (bZ O Z Z Z Z Z Z Z Z) Z Z ( AN.step hx Z Z Z (V O Z) Z Z ( AN.nil))))))) Z Z (AOps.step ((aK O Z Z Z Z Z).cast (v' := eB (g.bad || (w.fact t).long)) (congrArg eB (by rw [vj, Pw.long]; exact congrArg (g.bad || ·) (decide_eq_decide.2 (by simp [Pw.fact]; omega))))) Z Z Z (j2 O Z Z (jf [31,29,1] Z (jo O Z (ao ?_))))))))
 refine jf [1] Z (jn ?_)
 show _ ∧ _
 refine ⟨.inr Z, _, ak, _, Z, Z, Z⟩
theorem wC : Small (⟨7, []⟩ : Tm) := ⟨by decide, by decide⟩
theorem sI (ht : t.ok = true) (hg : g.conds.length + 2 ≤ L) : MQ h1 h2 115 [.c (.pt 0 0 0), .c (.pt 3 0 0), ptr t.cells] (fC p frm g w st) (bb (.tup []) (BD p frm (aY cu w t g) w st)) := by
 refine aJ 500 Z (MC.keep [500,501,503,506] (bs := [fJ p frm (aY cu w t g) 501 506, bI (aY cu w t g).paths, hC w st, bJ (aY cu w t g).conds]) Z Z (jH 33 [500,501,502,503] h1 h2 Tryz.func115 Z Z Z Z fun O hF => ?_))
 refine ch ?_
 refine ac (j3 O Z Z Z (ay O [500,501,502,503] (bin := [fJ p frm g 1 2, bI g.paths, bJ g.conds, hC w st]) Z Z Z Z (qC (p := p) (frm := frm) (st := st) (g := g) (w := w) (t := t) h1 h2 (by omega)) Z Z Z Z Z Z (B0 := 12000) Z Z (ao ?_)))
 refine jf [0,1,2] Z (aP (js O Z (jx O Z (ao ?_))))
 refine AOps.to (Ent.freeze 14 (e' := [(14, _), (0, _), (1, _), (2, _)]) Z (.cons Z (.c (.box (cs := Tm.cells ⟨7, []⟩) Z (.cons .d (.cons .nils .nil)))) (fe [0,1,2] Z)) (.skip (.cons Z (.box (fk Z)) (.cons Z .row (.cons Z (.box (fk Z)) (.cons Z .row .nil)))))) ?_
 refine ao ?_
 refine js O Z (ax O Z Z Z Z (uj (a := ⟨7, []⟩) (m := 1) (b := t) (n := -1) h1 h2 wC (Small.of ht) (by decide) (by decide)) (aa Z) Z Z Z Z (B0 := 17000) Z Z (j3 O Z Z Z (jf [18,17,0,1,2] Z (jl O Z (ao ?_)))))
 refine jo O Z (ao ?_)
 refine js O Z (jf [7,6,0,1,2] Z (aP (j4 O Z Z Z Z (j2 O Z Z (jf [24,19,7,6,0,1,2] Z (aS 2 Z Z Z (fun hx => AN.step hx Z Z Z (V O Z) Z Z ( AN.step hx Z Z Z (V O Z) Z Z ( AN.nil))) Z Z (AOps.step ((aK O Z Z Z Z Z).cast (v' := eB ((g.goal w t).bad || !(cu t).2)) (congrArg eB vj)) Z Z Z (j2 O Z Z (jf [29,27,6,0,1,2] Z (jo O Z (ao ?_)))))))))))
 refine jf [6,0,1,2] Z (jn (aj (AOps.to (Ent.freeze 6 (e' := [(0, _), (1, _), (6, _)]) Z (.cons Z (.keep Z) (.cons Z (.keep Z) (.cons Z (.c (.box (cs := Tm.cells (cu t).1) Z (aq Z))) .nil))) (.skip (.cons Z (.box (fk Z)) (.cons Z .row (.cons Z (.box (fk Z)) (.cons Z .row .nil)))))) ?_)))
 refine j2 O Z Z (ay O [500,501,12006,503] (bin := [fJ p frm ((g.goal w t).flag (!(cu t).2)) 1 2, bI ((g.goal w t).flag (!(cu t).2)).paths, bJ ((g.goal w t).flag (!(cu t).2)).conds, hC w st]) Z Z Z Z (qC (p := p) (frm := frm) (st := st) (g := ((g.goal w t).flag (!(cu t).2))) (w := w) (t := (cu t).1) h1 h2 (by simp only [Gs.flag, Gs.goal, c9, ij]; omega)) Z Z Z Z Z Z (B0 := 33000) Z Z (ao ?_))
 refine jf [0,1,6] Z (jn ?_)
 show _ ∧ _
 refine ⟨.inr Z, _, ag 33006 506 Z Z, _, Z, Z, Z⟩
theorem mM {w : Pw} {g : Gs} {fs : List Tm} {i : Nat} (h : i < fs.length) : (fs.take (i + 1)).foldl (bf w) g = bf w ((fs.take i).foldl (bf w) g) (fs.getD i default) := by
 rw [List.take_succ_eq_append_getElem h, List.foldl_append, ar h]; rfl
theorem iP {w : Pw} : ∀ {fs : List Tm} {g : Gs}, (fs.foldl (bf w) g).conds.length = g.conds.length + fs.length
 | [], g => rfl
 | t :: fs, g => by
  rw [List.foldl_cons, iP]
  simp only [bf, i1, Gs.goal, Gs.flag, c9, jI, List.length_nil]; omega
def TsOk (fs : List Tm) : Prop := ∀ t ∈ fs, t.ok = true ∧ t.xs.length ≤ 4
theorem TsOk.get {fs : List Tm} (h : TsOk fs) {i : Nat} (hi : i < fs.length) : (fs.getD i default).ok = true ∧ (fs.getD i default).xs.length ≤ 4 := by rw [ar hi]; exact h _ (List.getElem_mem hi)
theorem vH {h : Gs} {to : Int} {fs : List Tm} (hh : h = g.flag (decide (0 ≤ to) && decide (0 < st.length))) (hw : CtxOk w.vars) (hv : w.vars.length = 4) (hf : TsOk fs) (hg : g.conds.length + fs.length ≤ L) (hp : g.paths.length + 1 ≤ L) (hst : st.length ≤ 1000) : MQ h1 h2 110 [.c (.pt 0 0 0), .c (.pt 3 0 0), eI to, cD fs] (fC p frm g w st) (bb (.tup []) (A0 p frm (cj frm w to fs h) w st)) := by
 refine aJ 500 Z (MC.keep [500,503,505,506] (bs := [fJ p frm (cj frm w to fs h) 505 506, hC w st, bI (cj frm w to fs h).paths, bJ (cj frm w to fs h).conds]) Z Z (jH 106 [500,501,502,503] h1 h2 Tryz.func110 Z Z Z Z fun O hF => ?_))
 refine ch ?_
 have hbp : (bif decide (0 ≤ to) then decide ((0 : Int) < (st.length : Nat)) else false) = (decide (0 ≤ to) && decide (0 < st.length)) := by rw [show decide ((0 : Int) < (st.length : Nat)) = decide (0 < st.length) from decide_eq_decide.2 (by omega)]; cases decide (0 ≤ to) <;> rfl
 have hhc : h.conds = g.conds := by subst hh; rfl
 have hhp : h.paths = g.paths := by subst hh; rfl
 have hpe : (fs.foldl (bf w) h).paths.length = h.paths.length := congrArg List.length dq
 rw [hhp] at hpe
 refine ac (j4 O Z Z Z Z (j2 O Z Z (jf [16,11,0,1,2,3] Z (aS 10 Z Z Z (fun hx => AN.step hx Z Z Z (V O Z) Z Z ( AN.step hx Z Z Z (V O Z) Z Z ( AN.step hx Z Z Z (V O Z) Z Z ( pH 6 Z Z Z Z (fun hx' => AN.step hx' Z Z Z (V O Z) Z Z ( AN.step hx' Z Z Z (V O Z) Z Z ( AN.step hx' Z Z Z (V O Z) Z Z ( AN.step hx' Z Z Z (V O Z) Z Z ( AN.step hx' Z Z Z (bZ O Z Z Z Z Z Z Z Z) Z Z ( AN.step hx' Z Z Z (V O Z) Z Z ( AN.nil))))))) Z Z ( AN.step hx Z Z Z (aM O Z Z Z Z Z) Z Z ( AN.nil)))))) Z Z (AOps.step ((aK O Z Z Z Z Z).cast (v' := eB (g.bad || (decide (0 ≤ to) && decide (0 < st.length)))) (congrArg eB (vj.trans (congrArg (g.bad || ·) hbp)))) Z Z Z (j2 O Z Z (jf [29,27,0,1,2,3] Z (jo O Z (ao ?_)))))))))
 refine jf [0,1,2,3] Z (jn (af (ac (js O Z (jn (am (ap (X := Nat) (fun i => ⟨[(0, .c (.pt 500 0 0)), (1, .c (.pt 503 0 0)), (2, eI to), (3, cD fs), (8, eI i)], [(500, fJ p frm ((fs.take i).foldl (bf w) h) 501 902), (501, bI ((fs.take i).foldl (bf w) h).paths), (503, hC w st), (902, bJ ((fs.take i).foldl (bf w) h).conds)]⟩) (fun i => i ≤ fs.length) (fun i => fs.length - i) 0 (((aw [500,501,503,502] (e' := [(0, _), (1, _), (2, _), (3, _), (8, _)]) rfl rfl ⟨rfl, rfl, rfl, rfl, rfl, trivial⟩ rfl).trans (ag 502 902 rfl rfl)).trans (Ent.to ⟨rfl, rfl, rfl, rfl, rfl, trivial⟩ (by subst hh; rfl))) ?_ (fun i hi => ?_))))))))
 exact cm _
 refine af (ac (j2 O Z Z ?_))
 first | refine bo O Z ?_ | refine js O Z ?_ | refine aU O Z Z ?_
 refine js O Z (jf [33,0,1,2,3,8] Z (jn (ab O Z Z (fun hc33 => ?_) (fun hc33 => ?_))))
 refine ah (af (am (af ?_)))
 have hil : i < fs.length := by have := aR hc33; omega
 have hfi := hf.get hil
 refine rx O [_,_,_,_,_,_,_,_,_,_,_,_,_,_] [pn [] 0 0, pn [] 0 0, pn [0,1] 0 0, pn [] 0 0, pn [3] 0 0, pn [3,4] 0 0, pn [3,4,5] 0 0, pe [0,1,2,3,4,5,6] 0, pn [0,1,2,3,4,5,6,7] 1 1, pn [0,1,2,3,4,5,6,7,8] 1 1, pn [0,1,2,3,4,5,6,7,8] 1 2, pn [] 0 1, pe [0,1,2,3,4,5,6,7,8,9,11] 1, pn [0,1,2,3,4,5,6,7,8,9,10,11,12] 2 2] [7,12] 11 9 (.box [.d (.int .i64 0), .d .nils]) [_,_] [_] [[], []] (kf O Z Z Z (kf O Z Z Z (ai (ai (aE (vN O Z) (vN O Z)) Z) (kf O Z Z Z (kf O Z Z Z (kf O Z Z Z (kf O Z Z Z (ai (ai (aE (aC O (B0 := 45000) Z Z Z Z (vY (t := (fs.getD i default)) (vs := w.vars) h1 h2 hw (Small.of hfi.1).xs (Small.of hfi.1).c (by omega)) (aa Z) Z Z Z Z Z) (aC O (B0 := 45000) Z Z Z Z (vY (t := (fs.getD i default)) (vs := w.vars) h1 h2 hw (Small.of hfi.1).xs (Small.of hfi.1).c (by omega)) (aa Z) Z Z Z Z Z)) Z) (kf O Z Z Z (kf O Z Z Z (ai (kf O Z Z Z (kg O Z Z Z)) (ai (ai (ai (aT (Eff.alloc O Z Z Z Z Z Z)) Z) (ai (aT (Eff.alloc O Z Z Z Z Z Z)) Z)) (ai (ai (aE trivial (aT (eS O Z Z Z))) Z) (ai (ai (aE trivial (V O Z)) Z) trivial)))))))))))))) ?_
 refine jw [10,9,33,0,1,2,3,8] Z (ch ?_)
 refine ac (j4 O Z Z Z Z (j2 O Z Z (jf [52,47,10,9,33,0,1,2,3,8] Z (aS 2 Z Z Z (fun hx => AN.step hx Z Z Z (V O Z) Z Z ( AN.step hx Z Z Z (V O Z) Z Z ( AN.nil))) Z Z (AOps.step ((aK O Z Z Z Z Z).cast (v' := eB (((fs.take i).foldl (bf w) h).bad || !(eb (fs.getD i default) w.vars).2)) (congrArg eB vj)) Z Z Z (j2 O Z Z (jf [57,55,9,33,0,1,2,3,8] Z (jo O Z (ao ?_)))))))))
 refine jf [9,33,0,1,2,3,8] Z (jn (aj (AOps.to (Ent.freeze 9 (e' := [(0, _), (1, _), (2, _), (3, _), (8, _), (9, _)]) Z (.cons Z (.keep Z) (.cons Z (.keep Z) (.cons Z (.keep Z) (.cons Z (.keep Z) (.cons Z (.keep Z) (.cons Z (.c (.box (cs := Tm.cells (eb (fs.getD i default) w.vars).1) Z (aq Z))) .nil)))))) (.skip (.cons Z (.box (fk Z)) (.cons Z .row (.cons Z (.box (fk Z)) (.cons Z .row .nil)))))) ?_)))
 refine j2 O Z Z ?_
 have hil : i < fs.length := by have := aR hc33; omega
 have hci := iP (w := w) (fs := fs.take i) (g := h)
 rw [List.length_take, Nat.min_eq_left (by omega), hhc] at hci
 refine ay O [500,501,902,503] (bin := [fJ p frm (((fs.take i).foldl (bf w) h).flag (!(eb (fs.getD i default) w.vars).2)) 1 2, bI (((fs.take i).foldl (bf w) h).flag (!(eb (fs.getD i default) w.vars).2)).paths, bJ (((fs.take i).foldl (bf w) h).flag (!(eb (fs.getD i default) w.vars).2)).conds, hC w st]) Z Z Z Z (qC (p := p) (frm := frm) (st := st) (g := ((fs.take i).foldl (bf w) h).flag (!(eb (fs.getD i default) w.vars).2)) (w := w) (t := (eb (fs.getD i default) w.vars).1) h1 h2 (show ((fs.take i).foldl (bf w) h).conds.length + 1 ≤ L by omega)) Z Z Z Z Z Z (B0 := 61000) Z Z (ao ?_)
 refine jf [0,1,2,3,8,9] Z (jn (aj (js O Z ?_)))
 first | refine ji O Z ?_ | refine aU O Z Z ?_
 refine js O Z (jf [8,0,1,2,3,9] Z (jn ?_))
 refine ⟨i + 1, ((aw [500,501,503,61006] (e' := [(0, _), (1, _), (2, _), (3, _), (8, _)]) Z Z ⟨Z, Z, Z, Z, Z, trivial⟩ Z).trans (ag 61006 902 Z Z)).trans (Ent.to ⟨Z, Z, Z, Z, Z, trivial⟩ (by rw [mM (by omega)]; rfl)), by omega, by omega⟩
 refine aQ (af ?_)
 obtain rfl : i = fs.length := by have := bn hc33; omega
 rw [List.take_length]
 refine rx O [_,_,_,_,_,_,_,_,_,_,_,_,_,_,_,_,_,_,_,_,_,_,_,_,_,_,_,_,_,_,_] [pn [] 0 4, pn [] 0 3, pn [1] 0 3, pn [1,2] 0 3, pn [1,2,3] 0 3, pn [] 0 3, pn [5] 0 3, pn [5,6] 0 3, pn [5,6,7] 0 3, pn [] 0 3, pn [] 0 0, pn [10] 0 0, pn [10,11] 0 0, pn [10,11,12] 0 0, pe [10,11,12,13] 0, pn [] 0 1, pn [15] 0 1, pn [15,16] 0 1, pn [15,16,17] 0 1, pe [10,11,12,13,14,15,16,17,18] 1, pn [] 0 2, pn [20] 0 2, pn [20,21] 0 2, pn [20,21,22] 0 2, pe [10,11,12,13,14,15,16,17,18,19,20,21,22,23] 2, pn [5,6,7,8,9,10,11,12,13,14,15,16,17,18,19,20,21,22,23,24] 3 3, pn [5,6,7,8,9,10,11,12,13,14,15,16,17,18,19,20,21,22,23,24,25] 3 3, pe [1,2,3,4,5,6,7,8,9,10,11,12,13,14,15,16,17,18,19,20,21,22,23,24,25,26] 3, pn [0,1,2,3,4,5,6,7,8,9,10,11,12,13,14,15,16,17,18,19,20,21,22,23,24,25,26,27] 4 4, pn [0,1,2,3,4,5,6,7,8,9,10,11,12,13,14,15,16,17,18,19,20,21,22,23,24,25,26,27,28] 4 4, pe [0,1,2,3,4,5,6,7,8,9,10,11,12,13,14,15,16,17,18,19,20,21,22,23,24,25,26,27,28,29] 4] [14,19,24,27,30] 26 87 (.row false 5 [Pth.cells (⟨frm, to, w.facts, w.vars, w.ev⟩ : Pth)]) [_,_,_,_] [_,_] [[], [], [], [501], []] (ai (kf O Z Z Z (kf O Z Z Z (kf O Z Z Z (kf O Z Z Z (kg O Z Z Z))))) (ai (kf O Z Z Z (kf O Z Z Z (kf O Z Z Z (kg O Z Z Z)))) (ai (kf O Z Z Z (kf O Z Z Z (kf O Z Z Z (kg O Z Z Z)))) (ai (kf O Z Z Z (kf O Z Z Z (kf O Z Z Z (kg O Z Z Z)))) (ai (kf O Z Z Z (kf O Z Z Z (kf O Z Z Z (kg O Z Z Z)))) (ai (kf O Z Z Z (kf O Z Z Z (kf O Z Z Z (kg O Z Z Z)))) (ai (kf O Z Z Z (kf O Z Z Z (kf O Z Z Z (kg O Z Z Z)))) (ai (kf O Z Z Z (kf O Z Z Z (kf O Z Z Z (kg O Z Z Z)))) (ai (kf O Z Z Z (kf O Z Z Z (kf O Z Z Z (kg O Z Z Z)))) (ai (kf O Z Z Z (kf O Z Z Z (kf O Z Z Z (kg O Z Z Z)))) (kf O Z Z Z (kf O Z Z Z (kf O Z Z Z (kf O Z Z Z (ai (ai (aE (aC O (B0 := 76000) Z Z Z Z (ud (ts := w.facts) h1 h2) (aa Z) Z Z Z Z Z) (aC O (B0 := 76000) Z Z Z Z (ud (ts := w.facts) h1 h2) (aa Z) Z Z Z Z Z)) Z) (ai (kf O Z Z Z (kg O Z Z Z)) (ai (kf O Z Z Z (kg O Z Z Z)) (ai (kf O Z Z Z (kg O Z Z Z)) (ai (kf O Z Z Z (kg O Z Z Z)) (ai (ai (aE (aC O (B0 := 81000) Z Z Z Z (ud (ts := w.vars) h1 h2) (aa Z) Z Z Z Z Z) (aC O (B0 := 81000) Z Z Z Z (ud (ts := w.vars) h1 h2) (aa Z) Z Z Z Z Z)) Z) (ai (kf O Z Z Z (kf O Z Z Z (kg O Z Z Z))) (ai (kf O Z Z Z (kf O Z Z Z (kg O Z Z Z))) (ai (kf O Z Z Z (kf O Z Z Z (kg O Z Z Z))) (ai (kf O Z Z Z (kf O Z Z Z (kg O Z Z Z))) (ai (ai (aE (aC O (B0 := 86000) Z Z Z Z (qy (xs := w.ev) h1 h2) (aa Z) Z Z Z Z Z) (aC O (B0 := 86000) Z Z Z Z (qy (xs := w.ev) h1 h2) (aa Z) Z Z Z Z Z)) Z) (kf O Z Z Z (ai (ai (aT (b9 O Z Z Z Z Z Z Z Z Z Z Z Z Z Z)) Z) (ai (ai (aE trivial (bN (own := false) (xs := (fs.foldl (bf w) h).paths.map Pth.cells) (ys := [Pth.cells (⟨frm, to, w.facts, w.vars, w.ev⟩ : Pth)]) (zs := (((fs.foldl (bf w) h).paths ++ [(⟨frm, to, w.facts, w.vars, w.ev⟩ : Pth)])).map Pth.cells) (n := ((fs.foldl (bf w) h).paths ++ [(⟨frm, to, w.facts, w.vars, w.ev⟩ : Pth)]).length) O Z Z Z Z Z Z Z Z Z Z Z Z Z Z Z Z (.row Z (bt _).symm) (.whole Z Z (.inr ⟨Z, Z⟩)) (by simp) Z (by simp; omega) (by simp; omega) (by simp) (by simp) Z)) Z) (ai (ai (aE trivial (V O Z)) Z) (ai (ai (aE trivial (V O Z)) Z) (ai (ai (aE trivial (aT (eS O Z Z Z))) Z) trivial))))))))))))))))))))))))))))))) ?_
 refine jw [33,0,1,2,3,8] Z (ch ?_)
 refine aj (j4 O Z Z Z Z (j2 O Z Z (jf [96,91,33,0,1,2,3,8] Z (aS 6 Z Z Z (fun hx => AN.step hx Z Z Z (V O Z) Z Z ( AN.step hx Z Z Z (V O Z) Z Z ( AN.step hx Z Z Z (V O Z) Z Z ( AN.step hx Z Z Z (V O Z) Z Z ( AN.step hx Z Z Z (aO O Z Z (by simp only [c9, ij]; omega)) Z Z ( AN.step hx Z Z Z (V O Z) Z Z ( AN.nil))))))) Z Z (AOps.step ((aK O Z Z Z Z Z).cast (v' := eB ((fs.foldl (bf w) h).bad || decide (200 < (fs.foldl (bf w) h).paths.length + 1))) (congrArg eB (by rw [vj]; exact congrArg ((fs.foldl (bf w) h).bad || ·) (decide_eq_decide.2 (by simp; omega))))) Z Z Z (j2 O Z Z (jf [105,103,33,0,1,2,3,8] Z (jo O Z (ao ?_)))))))))
 refine jf [33,0,1,2,3,8] Z (jn ?_)
 show _ ∧ _
 refine ⟨.inr Z, _, (ag 88 505 Z Z).trans (ag 902 506 Z Z), _, Z, Z, Z⟩
abbrev pA (a : An) : D := .ptr a.data 0
abbrev gC (p : D) (frm : Int) (g : Gs) : List (Nat × B) := [(0, fJ p frm g 1 2), (1, bI g.paths), (2, bJ g.conds)]
abbrev fP (p : D) (frm : Int) (g : Gs) : List (Nat × B) := [(0, fJ p frm g 5 6), (5, bI g.paths), (6, bJ g.conds)]
theorem oW {α β : Type} [Inhabited α] {l : List α} {f : α → β} {n j : Nat} (h : n < l.length) (hj : j = n) : (l.map f)[j]? = some (f (l.getD n default)) := by subst hj; simp [h]
theorem Aa {α β : Type} {l : List α} {f : α → β} {n j : Nat} {v : α} {ds : β} (hj : j = n) (hd : ds = f v) : (l.map f).set j ds = (l.set n v).map f := by subst hj; subst hd; rw [List.map_set]
theorem gR {x : In} {st : List Tm} : (bif decide ((st.length : Int) < (mv x).1) then true else decide (6 < (st.length : Int) - (mv x).1 + (mv x).2)) = cR x st := vj
theorem eV {b c : Bool} : (bif c then !b else false) = (!b && c) := by cases b <;> cases c <;> rfl
theorem rS (hv : VA' a) {at_ : Int} {first : Bool} (hb : g.bad = true) : MQ h1 h2 82 [.c (.pt 0 0 0), eI at_, qq w st, eB first] (gC (pA a) frm g) (bb (.tup []) (fP (pA a) frm g)) := by
 refine aJ 500 Z (MC.keep [500,505,506] (bs := [fJ (pA a) frm g 505 506, bI g.paths, bJ g.conds]) Z Z (jH 289 [500,501,502] h1 h2 Tryz.func82 Z Z Z Z fun O hF => ?_))
 have h80 : a.code.length ≤ 80 := hv.ok.len
 have hmv := fun x => dG (x := x)
 refine ch ?_
 refine ac (jx O Z (ao ?_))
 refine jn (af (ac (j4 O Z Z Z Z (jf [32,6,0,1,2,3] Z (jn (ab O Z Z (fun hc32 => ?_) (fun hc32 => ?_)))))))
 refine iZ ?_
 refine ⟨.inl Z, _, (ag 501 505 Z Z).trans (ag 502 506 Z Z), _, Z, Z, Z⟩
 exact absurd hc32 (by rw [hb]; decide)
theorem rQ (hv : VA' a) {at_ : Int} {first : Bool} (hb : g.bad = false) (hi : dk a.code.length at_ = false) : MQ h1 h2 82 [.c (.pt 0 0 0), eI at_, qq w st, eB first] (gC (pA a) frm g) (bb (.tup []) (fP (pA a) frm (g.flag true))) := by
 refine aJ 500 Z (MC.keep [500,505,506] (bs := [fJ (pA a) frm (g.flag true) 505 506, bI (g.flag true).paths, bJ (g.flag true).conds]) Z Z (jH 289 [500,501,502] h1 h2 Tryz.func82 Z Z Z Z fun O hF => ?_))
 have h80 : a.code.length ≤ 80 := hv.ok.len
 have hmv := fun x => dG (x := x)
 rw [show g.flag true = ⟨g.paths, g.conds, true⟩ by simp [Gs.flag]]
 refine ch ?_
 refine ac (jx O Z (ao ?_))
 refine jn (af (ac (j4 O Z Z Z Z (jf [32,6,0,1,2,3] Z (jn (ab O Z Z (fun hc32 => ?_) (fun hc32 => ?_)))))))
 exact absurd hc32 (by rw [hb]; decide)
 refine ah (af (ac (j4 O Z Z Z Z (j4 O Z Z Z Z ?_))))
 first | refine bo O Z ?_ | refine js O Z ?_ | refine aU O Z Z ?_
 first | refine ji O Z ?_ | refine aU O Z Z ?_
 refine jf [42,33,6,0,1,2,3] Z (ae O Z Z Z Z ((kX (x := at_) (lo := 0) (hi := (a.code.length : Int) - 1) h1 h2).plain (u := eB (dk a.code.length at_)) Z) (aa Z) Z Z Z Z Z (B0 := 44000) Z (js O Z (jf [44,6,0,1,2,3] Z (jn (ab O Z Z (fun hc44 => ?_) (fun hc44 => ?_))))))
 refine ac (j3 O Z Z Z (jf [47,6,0,1,2,3] Z (jo O Z (ao ?_))))
 refine jr ?_
 refine ⟨.inl Z, _, (ag 501 505 Z Z).trans (ag 502 506 Z Z), _, Z, Z, Z⟩
 exact absurd hc44 (by rw [hi]; decide)
theorem tZ (hv : VA' a) {m : Nat} (hb : g.bad = false) (hi : dk a.code.length (k : Int) = true) (hm : dC a.pts (k : Int) = (m : Nat)) (hml : m < a.pts.length) (hf : TsOk (a.pts.getD m default).fs) (hg : g.conds.length + (a.pts.getD m default).fs.length ≤ L) (hp : g.paths.length + 1 ≤ L) (hst : st.length ≤ 1000) (hw : CtxOk w.vars) (hvl : w.vars.length = 4)  : MQ h1 h2 82 [.c (.pt 0 0 0), eI (k : Nat), qq w st, eB false] (gC (pA a) frm g) (bb (.tup []) (fP (pA a) frm (cj frm w (m : Nat) (a.pts.getD m default).fs (g.flag (decide (0 < st.length)))))) := by
 refine aJ 500 Z (MC.keep [500,505,506] (bs := [fJ (pA a) frm (cj frm w (m : Nat) (a.pts.getD m default).fs (g.flag (decide (0 < st.length)))) 505 506, bI (cj frm w (m : Nat) (a.pts.getD m default).fs (g.flag (decide (0 < st.length)))).paths, bJ (cj frm w (m : Nat) (a.pts.getD m default).fs (g.flag (decide (0 < st.length)))).conds]) Z Z (jH 289 [500,501,502] h1 h2 Tryz.func82 Z Z Z Z fun O hF => ?_))
 have h80 : a.code.length ≤ 80 := hv.ok.len
 have hmv := fun x => dG (x := x)
 refine ch ?_
 refine ac (jx O Z (ao ?_))
 refine jn (af (ac (j4 O Z Z Z Z (jf [32,6,0,1,2,3] Z (jn (ab O Z Z (fun hc32 => ?_) (fun hc32 => ?_)))))))
 exact absurd hc32 (by rw [hb]; decide)
 refine ah (af (ac (j4 O Z Z Z Z (j4 O Z Z Z Z ?_))))
 first | refine bo O Z ?_ | refine js O Z ?_ | refine aU O Z Z ?_
 first | refine ji O Z ?_ | refine aU O Z Z ?_
 refine jf [42,33,6,0,1,2,3] Z (ae O Z Z Z Z ((kX (x := (k : Int)) (lo := 0) (hi := (a.code.length : Int) - 1) h1 h2).plain (u := eB (dk a.code.length (k : Int))) Z) (aa Z) Z Z Z Z Z (B0 := 44000) Z (js O Z (jf [44,6,0,1,2,3] Z (jn (ab O Z Z (fun hc44 => ?_) (fun hc44 => ?_))))))
 exact absurd hc44 (by rw [hi]; decide)
 refine ah (af (ac (j4 O Z Z Z Z (js O Z (jf [52,51,6,0,1,2,3] Z (ae O Z Z Z Z ((io (a := a) (k := (k : Int)) h1 h2).plain (u := eI (m : Nat)) (by rw [hm])) (aa Z) Z Z Z Z Z (B0 := 54000) Z (js O Z (jf [8,6,0,1,2,3] Z (aP (j3 O Z Z Z (jf [56,8,6,0,1,2,3] Z (aS 2 Z Z Z (fun hx => AN.step hx Z Z Z (V O Z) Z Z ( AN.step hx Z Z Z (V O Z) Z Z ( AN.nil))) Z Z ?_))))))))))))
 first | refine AOps.step (aM O Z Z Z Z Z) Z Z Z ?_ | refine AOps.step (aK O Z Z Z Z Z) Z Z Z ?_ | refine AOps.step (Val.pickB O Z Z Z Z Z) Z Z Z ?_
 refine jf [59,8,6,0,1,2] Z (jn (ab O Z Z (fun hc59 => ?_) (fun hc59 => ?_)))
 refine ac (j4 O Z Z Z Z (j4 O Z Z Z Z (j2 O Z Z (AOps.step (aL O Z Z Z Z Z Z Z Z (cB hml)) Z Z Z (j2 O Z Z (jf [72,61,60,8,6,0,1,2] Z (ay O [500,501,502,6] (bin := [fJ (pA a) frm g 1 2, bI g.paths, bJ g.conds, hC w st]) Z Z Z Z (vH (p := (pA a)) (frm := frm) (g := g) (w := w) (st := st) (to := (m : Nat)) (fs := (a.pts.getD m default).fs) (h := g.flag (decide (0 < st.length))) h1 h2 (by rw [decide_eq_true (show (0 : Int) ≤ (m : Nat) by omega), Bool.true_and]) hw hvl hf hg hp hst) Z Z Z Z Z Z (B0 := 74000) Z Z (ao ?_))))))))
 refine jf [8,6,0,1,2] Z (jr ?_)
 refine ⟨.inl Z, _, (ag 74005 505 Z Z).trans (ag 74006 506 Z Z), _, Z, Z, Z⟩
 exact absurd hc59 (by simp)
variable {b : Bool}
theorem rR (hv : VA' a) (hb : g.bad = false) (hi : dk a.code.length (k : Int) = true) (hx : a.code.getD k default = x) (hpt : (!b && decide (0 ≤ dC a.pts (k : Int))) = false) (hst : st.length ≤ 1000) (hlo : cR x st = true) : MQ h1 h2 82 [.c (.pt 0 0 0), eI (k : Nat), qq w st, eB b] (gC (pA a) frm g) (bb (.tup []) (fP (pA a) frm (g.flag true))) := by
 refine aJ 500 Z (MC.keep [500,505,506] (bs := [fJ (pA a) frm (g.flag true) 505 506, bI (g.flag true).paths, bJ (g.flag true).conds]) Z Z (jH 289 [500,501,502] h1 h2 Tryz.func82 Z Z Z Z fun O hF => ?_))
 have h80 : a.code.length ≤ 80 := hv.ok.len
 have hmv := fun x => dG (x := x)
 rw [show g.flag true = ⟨g.paths, g.conds, true⟩ by simp [Gs.flag]]
 refine ch ?_
 refine ac (jx O Z (ao ?_))
 refine jn (af (ac (j4 O Z Z Z Z (jf [32,6,0,1,2,3] Z (jn (ab O Z Z (fun hc32 => ?_) (fun hc32 => ?_)))))))
 exact absurd hc32 (by rw [hb]; decide)
 refine ah (af (ac ?_))
 have hmx := hmv x
 refine j4 O Z Z Z Z (j4 O Z Z Z Z ?_)
 first | refine bo O Z ?_ | refine js O Z ?_ | refine aU O Z Z ?_
 first | refine ji O Z ?_ | refine aU O Z Z ?_
 refine jf [42,33,6,0,1,2,3] Z (ae O Z Z Z Z ((kX (x := (k : Int)) (lo := 0) (hi := (a.code.length : Int) - 1) h1 h2).plain (u := eB (dk a.code.length (k : Int))) Z) (aa Z) Z Z Z Z Z (B0 := 44000) Z (js O Z (jf [44,6,0,1,2,3] Z (jn (ab O Z Z (fun hc44 => ?_) (fun hc44 => ?_))))))
 exact absurd hc44 (by rw [hi]; decide)
 refine ah (af (ac (j4 O Z Z Z Z (js O Z (jf [52,51,6,0,1,2,3] Z (ae O Z Z Z Z (io (a := a) (k := (k : Int)) h1 h2) (aa Z) Z Z Z Z Z (B0 := 54000) Z (js O Z (jf [8,6,0,1,2,3] Z (aP (j3 O Z Z Z (jf [56,8,6,0,1,2,3] Z (aS 2 Z Z Z (fun hx => AN.step hx Z Z Z (V O Z) Z Z ( AN.step hx Z Z Z (V O Z) Z Z ( AN.nil))) Z Z ?_))))))))))))
 first | refine AOps.step (aM O Z Z Z Z Z) Z Z Z ?_ | refine AOps.step (aK O Z Z Z Z Z) Z Z Z ?_ | refine AOps.step (Val.pickB O Z Z Z Z Z) Z Z Z ?_
 refine jf [59,8,6,0,1,2] Z (jn (ab O Z Z (fun hc59 => ?_) (fun hc59 => ?_)))
 exact absurd hc59 (by rw [eV, hpt]; decide)
 refine ah (ac (j4 O Z Z Z Z (j4 O Z Z Z Z (AOps.step ((aL O Z Z Z Z Z Z Z Z (cB (by have := uS.1 hi; omega))).cast (v' := ptr (In.cells x)) (by rw [hx])) Z Z Z (js O Z (jf [83,8,6,0,1,2] Z (jl O Z (ao ?_))))))))
 refine jo O Z (ao ?_)
 refine aP (j2 O Z Z (jf [86,9,83,8,6,0,1,2] Z (ax O Z Z Z Z (k9 (x := x) h1 h2) (aa Z) Z Z Z Z (B0 := 88000) Z Z (j4 O Z Z Z Z (js O Z (jf [11,10,9,83,8,6,0,1,2] Z (aP (j2 O Z Z ?_))))))))
 first | refine bo O Z ?_ | refine js O Z ?_ | refine aU O Z Z ?_
 refine js O Z (jf [12,11,10,9,83,8,6,0,1,2] Z (jn (af (ac (j4 O Z Z Z Z (jf [96,12,11,10,9,83,8,6,0,1,2] Z (aS 6 Z Z Z (fun hx => AN.step hx Z Z Z (V O Z) Z Z ( AN.step hx Z Z Z (V O Z) Z Z ( AN.step hx Z Z Z ((az O Z Z (by omega) (by omega)).cast (v' := eI ((st.length : Int) - (mv x).1)) Z) Z Z ( AN.step hx Z Z Z (V O Z) Z Z ( AN.step hx Z Z Z ((az O Z Z (by omega) (by omega)).cast (v' := eI ((st.length : Int) - (mv x).1 + (mv x).2)) Z) Z Z ( AN.step hx Z Z Z (V O Z) Z Z ( AN.nil))))))) Z Z ?_)))))))
 first | refine AOps.step (aK O Z Z Z Z Z) Z Z Z ?_ | refine AOps.step (Val.pickB O Z Z Z Z Z) Z Z Z ?_ | refine AOps.step (aM O Z Z Z Z Z) Z Z Z ?_
 refine jf [103,9,83,8,6,0,1,2] Z (jn (ab O Z Z (fun hc103 => ?_) (fun hc103 => ?_)))
 refine ac (j3 O Z Z Z (jf [106,9,83,8,6,0,1,2] Z (jo O Z (ao ?_))))
 refine jr ?_
 refine ⟨.inl Z, _, (ag 501 505 Z Z).trans (ag 502 506 Z Z), _, Z, Z, Z⟩
 exact absurd hc103 (by rw [gR, hlo]; decide)
theorem qa (hv : VA' a) (hb : g.bad = false) (hi : dk a.code.length (k : Int) = true) (hx : a.code.getD k default = x) (hpt : (!b && decide (0 ≤ dC a.pts (k : Int))) = false) (hst : st.length ≤ 1000) (hlo : cR x st = false) (hw : CtxOk w.vars) (hvl : w.vars.length = 4) (ho : x.op = 11) (hf : TsOk a.post) (hg : g.conds.length + a.post.length ≤ L) (hp : g.paths.length + 1 ≤ L) : MQ h1 h2 82 [.c (.pt 0 0 0), eI (k : Nat), qq w st, eB b] (gC (pA a) frm g) (bb (.tup []) (fP (pA a) frm (cj frm w (-1) a.post g))) := by
 refine aJ 500 Z (MC.keep [500,505,506] (bs := [fJ (pA a) frm (cj frm w (-1) a.post g) 505 506, bI (cj frm w (-1) a.post g).paths, bJ (cj frm w (-1) a.post g).conds]) Z Z (jH 289 [500,501,502] h1 h2 Tryz.func82 Z Z Z Z fun O hF => ?_))
 have h80 : a.code.length ≤ 80 := hv.ok.len
 have hmv := fun x => dG (x := x)
 refine ch ?_
 refine ac (jx O Z (ao ?_))
 refine jn (af (ac (j4 O Z Z Z Z (jf [32,6,0,1,2,3] Z (jn (ab O Z Z (fun hc32 => ?_) (fun hc32 => ?_)))))))
 exact absurd hc32 (by rw [hb]; decide)
 refine ah (af (ac ?_))
 have hmx := hmv x
 refine j4 O Z Z Z Z (j4 O Z Z Z Z ?_)
 first | refine bo O Z ?_ | refine js O Z ?_ | refine aU O Z Z ?_
 first | refine ji O Z ?_ | refine aU O Z Z ?_
 refine jf [42,33,6,0,1,2,3] Z (ae O Z Z Z Z ((kX (x := (k : Int)) (lo := 0) (hi := (a.code.length : Int) - 1) h1 h2).plain (u := eB (dk a.code.length (k : Int))) Z) (aa Z) Z Z Z Z Z (B0 := 44000) Z (js O Z (jf [44,6,0,1,2,3] Z (jn (ab O Z Z (fun hc44 => ?_) (fun hc44 => ?_))))))
 exact absurd hc44 (by rw [hi]; decide)
 refine ah (af (ac (j4 O Z Z Z Z (js O Z (jf [52,51,6,0,1,2,3] Z (ae O Z Z Z Z (io (a := a) (k := (k : Int)) h1 h2) (aa Z) Z Z Z Z Z (B0 := 54000) Z (js O Z (jf [8,6,0,1,2,3] Z (aP (j3 O Z Z Z (jf [56,8,6,0,1,2,3] Z (aS 2 Z Z Z (fun hx => AN.step hx Z Z Z (V O Z) Z Z ( AN.step hx Z Z Z (V O Z) Z Z ( AN.nil))) Z Z ?_))))))))))))
 first | refine AOps.step (aM O Z Z Z Z Z) Z Z Z ?_ | refine AOps.step (aK O Z Z Z Z Z) Z Z Z ?_ | refine AOps.step (Val.pickB O Z Z Z Z Z) Z Z Z ?_
 refine jf [59,8,6,0,1,2] Z (jn (ab O Z Z (fun hc59 => ?_) (fun hc59 => ?_)))
 exact absurd hc59 (by rw [eV, hpt]; decide)
 refine ah (ac (j4 O Z Z Z Z (j4 O Z Z Z Z (AOps.step ((aL O Z Z Z Z Z Z Z Z (cB (by have := uS.1 hi; omega))).cast (v' := ptr (In.cells x)) (by rw [hx])) Z Z Z (js O Z (jf [83,8,6,0,1,2] Z (jl O Z (ao ?_))))))))
 refine jo O Z (ao ?_)
 refine aP (j2 O Z Z (jf [86,9,83,8,6,0,1,2] Z (ax O Z Z Z Z (k9 (x := x) h1 h2) (aa Z) Z Z Z Z (B0 := 88000) Z Z (j4 O Z Z Z Z (js O Z (jf [11,10,9,83,8,6,0,1,2] Z (aP (j2 O Z Z ?_))))))))
 first | refine bo O Z ?_ | refine js O Z ?_ | refine aU O Z Z ?_
 refine js O Z (jf [12,11,10,9,83,8,6,0,1,2] Z (jn (af (ac (j4 O Z Z Z Z (jf [96,12,11,10,9,83,8,6,0,1,2] Z (aS 6 Z Z Z (fun hx => AN.step hx Z Z Z (V O Z) Z Z ( AN.step hx Z Z Z (V O Z) Z Z ( AN.step hx Z Z Z ((az O Z Z (by omega) (by omega)).cast (v' := eI ((st.length : Int) - (mv x).1)) Z) Z Z ( AN.step hx Z Z Z (V O Z) Z Z ( AN.step hx Z Z Z ((az O Z Z (by omega) (by omega)).cast (v' := eI ((st.length : Int) - (mv x).1 + (mv x).2)) Z) Z Z ( AN.step hx Z Z Z (V O Z) Z Z ( AN.nil))))))) Z Z ?_)))))))
 first | refine AOps.step (aK O Z Z Z Z Z) Z Z Z ?_ | refine AOps.step (Val.pickB O Z Z Z Z Z) Z Z Z ?_ | refine AOps.step (aM O Z Z Z Z Z) Z Z Z ?_
 refine jf [103,9,83,8,6,0,1,2] Z (jn (ab O Z Z (fun hc103 => ?_) (fun hc103 => ?_)))
 exact absurd hc103 (by rw [gR, hlo]; decide)
 refine ah (af (ac (j2 O Z Z (jf [108,9,83,8,6,0,1,2] Z (jn (am (ac (j2 O Z Z (jn (ab O Z Z (fun hc109 => ?_) (fun hc109 => ?_)))))))))))
 exact absurd (aR hc109) (by omega)
 refine ac (j2 O Z Z (jf [115,110,108,9,83,8,6,0,1,2] Z (jn (ab O Z Z (fun hc115 => ?_) (fun hc115 => ?_)))))
 exact absurd (aR hc115) (by omega)
 refine ac (j2 O Z Z (jf [124,110,108,9,83,8,6,0,1,2] Z (jn (ab O Z Z (fun hc124 => ?_) (fun hc124 => ?_)))))
 exact absurd (aR hc124) (by omega)
 refine ac (j2 O Z Z (jf [137,110,108,9,83,8,6,0,1,2] Z (jn (ab O Z Z (fun hc137 => ?_) (fun hc137 => ?_)))))
 exact absurd (aR hc137) (by omega)
 refine ac (j2 O Z Z (jf [158,110,108,9,83,8,6,0,1,2] Z (jn (ab O Z Z (fun hc158 => ?_) (fun hc158 => ?_)))))
 exact absurd (aR hc158) (by omega)
 refine ac (j2 O Z Z (jf [180,110,108,9,83,8,6,0,1,2] Z (jn (ab O Z Z (fun hc180 => ?_) (fun hc180 => ?_)))))
 exact absurd (aR hc180) (by omega)
 refine ac (j2 O Z Z (jf [207,110,108,9,83,8,6,0,1,2] Z (jn (ab O Z Z (fun hc207 => ?_) (fun hc207 => ?_)))))
 exact absurd (aR hc207) (by omega)
 refine ac (j2 O Z Z (jf [213,110,108,9,83,8,6,0,1,2] Z (jn (ab O Z Z (fun hc213 => ?_) (fun hc213 => ?_)))))
 exact absurd (aR hc213) (by omega)
 refine ac (j2 O Z Z (jf [223,110,108,9,83,8,6,0,1,2] Z (jn (ab O Z Z (fun hc223 => ?_) (fun hc223 => ?_)))))
 exact absurd (aR hc223) (by omega)
 refine ac (j2 O Z Z (jf [231,110,108,9,83,8,6,0,1,2] Z (jn (ab O Z Z (fun hc231 => ?_) (fun hc231 => ?_)))))
 exact absurd (aR hc231) (by omega)
 refine ac (j2 O Z Z (jf [266,110,108,9,83,8,6,0,1,2] Z (jn (ab O Z Z (fun hc266 => ?_) (fun hc266 => ?_)))))
 exact absurd (aR hc266) (by omega)
 refine ac (j2 O Z Z (jf [273,110,108,9,83,8,6,0,1,2] Z (jn (ab O Z Z (fun hc273 => ?_) (fun hc273 => ?_)))))
 refine ac (j4 O Z Z Z Z (j4 O Z Z Z Z (jf [282,275,110,108,9,83,8,6,0,1,2] Z (ay O [500,501,502,6] (bin := [fJ (pA a) frm g 1 2, bI g.paths, bJ g.conds, hC w st]) Z Z Z Z (vH (p := (pA a)) (frm := frm) (g := g) (w := w) (st := st) (to := -1) (fs := a.post) (h := g) h1 h2 (by simp [Gs.flag]) hw hvl hf hg hp hst) Z Z Z Z Z Z (B0 := 284000) Z Z (ao ?_)))))
 refine jf [110,108,9,83,8,6,0,1,2] Z (jr ?_)
 refine ⟨.inl Z, _, (ag 284005 505 Z Z).trans (ag 284006 506 Z Z), _, Z, Z, Z⟩
 exact absurd (bn hc273) (by omega)
variable {g4 : Gs}
theorem p9 (hv : VA' a) (hb : g.bad = false) (hi : dk a.code.length (k : Int) = true) (hx : a.code.getD k default = x) (hpt : (!b && decide (0 ≤ dC a.pts (k : Int))) = false) (hst : st.length ≤ 1000) (hlo : cR x st = false) (ho : x.op = 5) (ih : MQ h1 h2 82 [.c (.pt 0 0 0), eI x.a, qq w st, eB false] (gC (pA a) frm g) (bb (.tup []) (fP (pA a) frm g4))) : MQ h1 h2 82 [.c (.pt 0 0 0), eI (k : Nat), qq w st, eB b] (gC (pA a) frm g) (bb (.tup []) (fP (pA a) frm g4)) := by
 refine aJ 500 Z (MC.keep [500,505,506] (bs := [fJ (pA a) frm g4 505 506, bI g4.paths, bJ g4.conds]) Z Z (jH 289 [500,501,502] h1 h2 Tryz.func82 Z Z Z Z fun O hF => ?_))
 have h80 : a.code.length ≤ 80 := hv.ok.len
 have hmv := fun x => dG (x := x)
 refine ch ?_
 refine ac (jx O Z (ao ?_))
 refine jn (af (ac (j4 O Z Z Z Z (jf [32,6,0,1,2,3] Z (jn (ab O Z Z (fun hc32 => ?_) (fun hc32 => ?_)))))))
 exact absurd hc32 (by rw [hb]; decide)
 refine ah (af (ac ?_))
 have hmx := hmv x
 refine j4 O Z Z Z Z (j4 O Z Z Z Z ?_)
 first | refine bo O Z ?_ | refine js O Z ?_ | refine aU O Z Z ?_
 first | refine ji O Z ?_ | refine aU O Z Z ?_
 refine jf [42,33,6,0,1,2,3] Z (ae O Z Z Z Z ((kX (x := (k : Int)) (lo := 0) (hi := (a.code.length : Int) - 1) h1 h2).plain (u := eB (dk a.code.length (k : Int))) Z) (aa Z) Z Z Z Z Z (B0 := 44000) Z (js O Z (jf [44,6,0,1,2,3] Z (jn (ab O Z Z (fun hc44 => ?_) (fun hc44 => ?_))))))
 exact absurd hc44 (by rw [hi]; decide)
 refine ah (af (ac (j4 O Z Z Z Z (js O Z (jf [52,51,6,0,1,2,3] Z (ae O Z Z Z Z (io (a := a) (k := (k : Int)) h1 h2) (aa Z) Z Z Z Z Z (B0 := 54000) Z (js O Z (jf [8,6,0,1,2,3] Z (aP (j3 O Z Z Z (jf [56,8,6,0,1,2,3] Z (aS 2 Z Z Z (fun hx => AN.step hx Z Z Z (V O Z) Z Z ( AN.step hx Z Z Z (V O Z) Z Z ( AN.nil))) Z Z ?_))))))))))))
 first | refine AOps.step (aM O Z Z Z Z Z) Z Z Z ?_ | refine AOps.step (aK O Z Z Z Z Z) Z Z Z ?_ | refine AOps.step (Val.pickB O Z Z Z Z Z) Z Z Z ?_
 refine jf [59,8,6,0,1,2] Z (jn (ab O Z Z (fun hc59 => ?_) (fun hc59 => ?_)))
 exact absurd hc59 (by rw [eV, hpt]; decide)
 refine ah (ac (j4 O Z Z Z Z (j4 O Z Z Z Z (AOps.step ((aL O Z Z Z Z Z Z Z Z (cB (by have := uS.1 hi; omega))).cast (v' := ptr (In.cells x)) (by rw [hx])) Z Z Z (js O Z (jf [83,8,6,0,1,2] Z (jl O Z (ao ?_))))))))
 refine jo O Z (ao ?_)
 refine aP (j2 O Z Z (jf [86,9,83,8,6,0,1,2] Z (ax O Z Z Z Z (k9 (x := x) h1 h2) (aa Z) Z Z Z Z (B0 := 88000) Z Z (j4 O Z Z Z Z (js O Z (jf [11,10,9,83,8,6,0,1,2] Z (aP (j2 O Z Z ?_))))))))
 first | refine bo O Z ?_ | refine js O Z ?_ | refine aU O Z Z ?_
 refine js O Z (jf [12,11,10,9,83,8,6,0,1,2] Z (jn (af (ac (j4 O Z Z Z Z (jf [96,12,11,10,9,83,8,6,0,1,2] Z (aS 6 Z Z Z (fun hx => AN.step hx Z Z Z (V O Z) Z Z ( AN.step hx Z Z Z (V O Z) Z Z ( AN.step hx Z Z Z ((az O Z Z (by omega) (by omega)).cast (v' := eI ((st.length : Int) - (mv x).1)) Z) Z Z ( AN.step hx Z Z Z (V O Z) Z Z ( AN.step hx Z Z Z ((az O Z Z (by omega) (by omega)).cast (v' := eI ((st.length : Int) - (mv x).1 + (mv x).2)) Z) Z Z ( AN.step hx Z Z Z (V O Z) Z Z ( AN.nil))))))) Z Z ?_)))))))
 first | refine AOps.step (aK O Z Z Z Z Z) Z Z Z ?_ | refine AOps.step (Val.pickB O Z Z Z Z Z) Z Z Z ?_ | refine AOps.step (aM O Z Z Z Z Z) Z Z Z ?_
 refine jf [103,9,83,8,6,0,1,2] Z (jn (ab O Z Z (fun hc103 => ?_) (fun hc103 => ?_)))
 exact absurd hc103 (by rw [gR, hlo]; decide)
 refine ah (af (ac (j2 O Z Z (jf [108,9,83,8,6,0,1,2] Z (jn (am (ac (j2 O Z Z (jn (ab O Z Z (fun hc109 => ?_) (fun hc109 => ?_)))))))))))
 exact absurd (aR hc109) (by omega)
 refine ac (j2 O Z Z (jf [115,110,108,9,83,8,6,0,1,2] Z (jn (ab O Z Z (fun hc115 => ?_) (fun hc115 => ?_)))))
 exact absurd (aR hc115) (by omega)
 refine ac (j2 O Z Z (jf [124,110,108,9,83,8,6,0,1,2] Z (jn (ab O Z Z (fun hc124 => ?_) (fun hc124 => ?_)))))
 exact absurd (aR hc124) (by omega)
 refine ac (j2 O Z Z (jf [137,110,108,9,83,8,6,0,1,2] Z (jn (ab O Z Z (fun hc137 => ?_) (fun hc137 => ?_)))))
 exact absurd (aR hc137) (by omega)
 refine ac (j2 O Z Z (jf [158,110,108,9,83,8,6,0,1,2] Z (jn (ab O Z Z (fun hc158 => ?_) (fun hc158 => ?_)))))
 exact absurd (aR hc158) (by omega)
 refine ac (j2 O Z Z (jf [180,110,108,9,83,8,6,0,1,2] Z (jn (ab O Z Z (fun hc180 => ?_) (fun hc180 => ?_)))))
 exact absurd (aR hc180) (by omega)
 refine ac (j2 O Z Z (jf [207,110,108,9,83,8,6,0,1,2] Z (jn (ab O Z Z (fun hc207 => ?_) (fun hc207 => ?_)))))
 exact absurd (aR hc207) (by omega)
 refine ac (j2 O Z Z (jf [213,110,108,9,83,8,6,0,1,2] Z (jn (ab O Z Z (fun hc213 => ?_) (fun hc213 => ?_)))))
 exact absurd (aR hc213) (by omega)
 refine ac (j2 O Z Z (jf [223,110,108,9,83,8,6,0,1,2] Z (jn (ab O Z Z (fun hc223 => ?_) (fun hc223 => ?_)))))
 exact absurd (aR hc223) (by omega)
 refine ac (j2 O Z Z (jf [231,110,108,9,83,8,6,0,1,2] Z (jn (ab O Z Z (fun hc231 => ?_) (fun hc231 => ?_)))))
 exact absurd (aR hc231) (by omega)
 refine ac (j2 O Z Z (jf [266,110,108,9,83,8,6,0,1,2] Z (jn (ab O Z Z (fun hc266 => ?_) (fun hc266 => ?_)))))
 refine ac (j4 O Z Z Z Z (jf [271,270,268,110,108,9,83,8,6,0,1,2] Z (ay O [500,501,502] (bin := [fJ (pA a) frm g 1 2, bI g.paths, bJ g.conds]) Z Z Z Z (ih) Z Z Z Z Z Z (B0 := 273000) Z Z (ao ?_))))
 refine jf [110,108,9,83,8,6,0,1,2] Z (jr ?_)
 refine ⟨.inl Z, _, (ag 273005 505 Z Z).trans (ag 273006 506 Z Z), _, Z, Z, Z⟩
 exact absurd (bn hc266) (by omega)
theorem s5 {x : In} {st : List Tm} (h : cR x st = false) : ((mv x).1 : Int) ≤ st.length := by
 unfold cR at h; simp only [Bool.or_eq_false_iff, decide_eq_false_iff_not] at h; omega
theorem x8 {x : In} (h : x.op = 2 ∨ x.op = 4 ∨ x.op = 6 ∨ x.op = 7 ∨ x.op = 10) : (mv x).1 = 1 := by
 unfold mv; rcases h with e | e | e | e | e <;> simp [e]
theorem AV {x : In} (h : x.op = 3 ∨ x.op = 8) : (mv x).1 = 2 := by
 unfold mv; rcases h with e | e <;> simp [e]
theorem oX {x : In} {st : List Tm} (h : cR x st = false) (ho : x.op = 2 ∨ x.op = 4 ∨ x.op = 6 ∨ x.op = 7 ∨ x.op = 10) : 0 < st.length := by
 have := s5 h; rw [x8 ho] at this; omega
theorem x9 {x : In} {st : List Tm} (h : cR x st = false) (ho : x.op = 3 ∨ x.op = 8) : 2 ≤ st.length := by
 have := s5 h; rw [AV ho] at this; omega
theorem jZ {st : List Tm} : (cJ st).length = st.length - 1 := by simp only [cJ, List.length_take]; omega
theorem sR {st : List Tm} (h : 2 ≤ st.length) : bg (cJ st) = jK st := by
 simp only [bg, jK, cJ, List.getD_eq_getElem?_getD, List.length_take, List.getElem?_take]
 rw [Nat.min_eq_left (by omega), if_pos (by omega), show st.length - 1 - 1 = st.length - 2 by omega]
theorem vx {st : List Tm} (h : 2 ≤ st.length) : cJ (cJ st) = nH st := by
 simp only [cJ, nH, List.length_take, List.take_take]
 rw [Nat.min_eq_left (by omega), Nat.min_eq_left (by omega)]; congr 1
theorem iE {st : List Tm} (h : ∀ t ∈ st, t.ok = true) {i : Nat} : (st.getD i tz).ok = true := dQ h
theorem pZ (hv : VA' a) (hb : g.bad = false) (hi : dk a.code.length (k : Int) = true) (hx : a.code.getD k default = x) (hpt : (!b && decide (0 ≤ dC a.pts (k : Int))) = false) (hst : st.length ≤ 1000) (hlo : cR x st = false) (ho : x.op = 6) (hso : ∀ t ∈ st, t.ok = true) (hfl : w.facts.length ≤ 1000) {g3 : Gs} (ih1 : MQ h1 h2 82 [.c (.pt 0 0 0), eI ((k : Int) + 1), qq (w.fact (bg st)) (cJ st), eB false] (gC (pA a) frm ((g.flag (!(bK (bg st)).2)).flag (w.fact (bg st)).long)) (bb (.tup []) (fP (pA a) frm g3))) (ih2 : MQ h1 h2 82 [.c (.pt 0 0 0), eI x.a, qq (w.fact (bK (bg st)).1) (cJ st), eB false] (gC (pA a) frm (g3.flag (w.fact (bK (bg st)).1).long)) (bb (.tup []) (fP (pA a) frm g4)))  : MQ h1 h2 82 [.c (.pt 0 0 0), eI (k : Nat), qq w st, eB b] (gC (pA a) frm g) (bb (.tup []) (fP (pA a) frm g4)) := by
 refine aJ 500 Z (MC.keep [500,505,506] (bs := [fJ (pA a) frm g4 505 506, bI g4.paths, bJ g4.conds]) Z Z (jH 289 [500,501,502] h1 h2 Tryz.func82 Z Z Z Z fun O hF => ?_))
 have h80 : a.code.length ≤ 80 := hv.ok.len
 have hmv := fun x => dG (x := x)
 have hk80 := uS.1 hi
 refine ch ?_
 refine ac (jx O Z (ao ?_))
 refine jn (af (ac (j4 O Z Z Z Z (jf [32,6,0,1,2,3] Z (jn (ab O Z Z (fun hc32 => ?_) (fun hc32 => ?_)))))))
 exact absurd hc32 (by rw [hb]; decide)
 refine ah (af (ac ?_))
 have hmx := hmv x
 refine j4 O Z Z Z Z (j4 O Z Z Z Z ?_)
 first | refine bo O Z ?_ | refine js O Z ?_ | refine aU O Z Z ?_
 first | refine ji O Z ?_ | refine aU O Z Z ?_
 refine jf [42,33,6,0,1,2,3] Z (ae O Z Z Z Z ((kX (x := (k : Int)) (lo := 0) (hi := (a.code.length : Int) - 1) h1 h2).plain (u := eB (dk a.code.length (k : Int))) Z) (aa Z) Z Z Z Z Z (B0 := 44000) Z (js O Z (jf [44,6,0,1,2,3] Z (jn (ab O Z Z (fun hc44 => ?_) (fun hc44 => ?_))))))
 exact absurd hc44 (by rw [hi]; decide)
 refine ah (af (ac (j4 O Z Z Z Z (js O Z (jf [52,51,6,0,1,2,3] Z (ae O Z Z Z Z (io (a := a) (k := (k : Int)) h1 h2) (aa Z) Z Z Z Z Z (B0 := 54000) Z (js O Z (jf [8,6,0,1,2,3] Z (aP (j3 O Z Z Z (jf [56,8,6,0,1,2,3] Z (aS 2 Z Z Z (fun hx => AN.step hx Z Z Z (V O Z) Z Z ( AN.step hx Z Z Z (V O Z) Z Z ( AN.nil))) Z Z ?_))))))))))))
 first | refine AOps.step (aM O Z Z Z Z Z) Z Z Z ?_ | refine AOps.step (aK O Z Z Z Z Z) Z Z Z ?_ | refine AOps.step (Val.pickB O Z Z Z Z Z) Z Z Z ?_
 refine jf [59,8,6,0,1,2] Z (jn (ab O Z Z (fun hc59 => ?_) (fun hc59 => ?_)))
 exact absurd hc59 (by rw [eV, hpt]; decide)
 refine ah (ac (j4 O Z Z Z Z (j4 O Z Z Z Z (AOps.step ((aL O Z Z Z Z Z Z Z Z (cB (by have := uS.1 hi; omega))).cast (v' := ptr (In.cells x)) (by rw [hx])) Z Z Z (js O Z (jf [83,8,6,0,1,2] Z (jl O Z (ao ?_))))))))
 refine jo O Z (ao ?_)
 refine aP (j2 O Z Z (jf [86,9,83,8,6,0,1,2] Z (ax O Z Z Z Z (k9 (x := x) h1 h2) (aa Z) Z Z Z Z (B0 := 88000) Z Z (j4 O Z Z Z Z (js O Z (jf [11,10,9,83,8,6,0,1,2] Z (aP (j2 O Z Z ?_))))))))
 first | refine bo O Z ?_ | refine js O Z ?_ | refine aU O Z Z ?_
 refine js O Z (jf [12,11,10,9,83,8,6,0,1,2] Z (jn (af (ac (j4 O Z Z Z Z (jf [96,12,11,10,9,83,8,6,0,1,2] Z (aS 6 Z Z Z (fun hx => AN.step hx Z Z Z (V O Z) Z Z ( AN.step hx Z Z Z (V O Z) Z Z ( AN.step hx Z Z Z ((az O Z Z (by omega) (by omega)).cast (v' := eI ((st.length : Int) - (mv x).1)) Z) Z Z ( AN.step hx Z Z Z (V O Z) Z Z ( AN.step hx Z Z Z ((az O Z Z (by omega) (by omega)).cast (v' := eI ((st.length : Int) - (mv x).1 + (mv x).2)) Z) Z Z ( AN.step hx Z Z Z (V O Z) Z Z ( AN.nil))))))) Z Z ?_)))))))
 first | refine AOps.step (aK O Z Z Z Z Z) Z Z Z ?_ | refine AOps.step (Val.pickB O Z Z Z Z Z) Z Z Z ?_ | refine AOps.step (aM O Z Z Z Z Z) Z Z Z ?_
 refine jf [103,9,83,8,6,0,1,2] Z (jn (ab O Z Z (fun hc103 => ?_) (fun hc103 => ?_)))
 exact absurd hc103 (by rw [gR, hlo]; decide)
 refine ah (af (ac (j2 O Z Z (jf [108,9,83,8,6,0,1,2] Z (jn (am (ac (j2 O Z Z (jn (ab O Z Z (fun hc109 => ?_) (fun hc109 => ?_)))))))))))
 exact absurd (aR hc109) (by omega)
 refine ac (j2 O Z Z (jf [115,110,108,9,83,8,6,0,1,2] Z (jn (ab O Z Z (fun hc115 => ?_) (fun hc115 => ?_)))))
 exact absurd (aR hc115) (by omega)
 refine ac (j2 O Z Z (jf [124,110,108,9,83,8,6,0,1,2] Z (jn (ab O Z Z (fun hc124 => ?_) (fun hc124 => ?_)))))
 exact absurd (aR hc124) (by omega)
 refine ac (j2 O Z Z (jf [137,110,108,9,83,8,6,0,1,2] Z (jn (ab O Z Z (fun hc137 => ?_) (fun hc137 => ?_)))))
 exact absurd (aR hc137) (by omega)
 refine ac (j2 O Z Z (jf [158,110,108,9,83,8,6,0,1,2] Z (jn (ab O Z Z (fun hc158 => ?_) (fun hc158 => ?_)))))
 exact absurd (aR hc158) (by omega)
 refine ac (j2 O Z Z (jf [180,110,108,9,83,8,6,0,1,2] Z (jn (ab O Z Z (fun hc180 => ?_) (fun hc180 => ?_)))))
 exact absurd (aR hc180) (by omega)
 refine ac (j2 O Z Z (jf [207,110,108,9,83,8,6,0,1,2] Z (jn (ab O Z Z (fun hc207 => ?_) (fun hc207 => ?_)))))
 exact absurd (aR hc207) (by omega)
 refine ac (j2 O Z Z (jf [213,110,108,9,83,8,6,0,1,2] Z (jn (ab O Z Z (fun hc213 => ?_) (fun hc213 => ?_)))))
 exact absurd (aR hc213) (by omega)
 refine ac (j2 O Z Z (jf [223,110,108,9,83,8,6,0,1,2] Z (jn (ab O Z Z (fun hc223 => ?_) (fun hc223 => ?_)))))
 exact absurd (aR hc223) (by omega)
 refine ac (j2 O Z Z (jf [231,110,108,9,83,8,6,0,1,2] Z (jn (ab O Z Z (fun hc231 => ?_) (fun hc231 => ?_)))))
 refine ac ?_
 have h0 := oX hlo (by omega)
 refine ay O [6] (bin := [hC w st]) Z Z Z Z (im (w := w) (st := st) h1 h2 h0 hst) Z Z Z Z Z Z (B0 := 234000) Z Z (ao ?_)
 refine jf [233,110,108,9,83,8,6,0,1,2] Z (jl O Z (ao ?_))
 refine jo O Z (ao ?_)
 refine aP (AOps.to (Ent.freeze 25 (e' := [(25, _), (0, _), (1, _), (6, _), (9, _)]) Z (.cons Z (.c (.box (cs := Tm.cells (bg st)) Z (aq Z))) (fe [0,1,6,9] Z)) (.cons Z (.box (fk Z)) (.skip (.cons Z (.box (fk Z)) (.cons Z .row (.cons Z .row (.cons Z (.box (fk Z)) .nil))))))) ?_)
 refine ax O Z Z Z Z (Bc (t := bg st) h1 h2 (Small.of (iE hso))) (aa Z) Z Z Z Z (B0 := 236000) Z Z (j3 O Z Z Z (jf [237,236,25,0,1,6,9] Z (jl O Z (ao ?_))))
 refine jo O Z (ao ?_)
 refine js O Z (jf [27,26,25,0,1,6,9] Z (aP (j4 O Z Z Z Z (j2 O Z Z (jf [243,238,27,26,25,0,1,6,9] Z (aS 2 Z Z Z (fun hx => AN.step hx Z Z Z (V O Z) Z Z ( AN.step hx Z Z Z (V O Z) Z Z ( AN.nil))) Z Z (AOps.step ((aK O Z Z Z Z Z).cast (v' := eB (g.bad || !(bK (bg st)).2)) (congrArg eB vj)) Z Z Z (j2 O Z Z (jf [248,246,26,25,0,1,6,9] Z (jo O Z (ao ?_)))))))))))
 refine jf [26,25,0,1,6,9] Z (aP (js O Z (jl O Z (ao ?_))))
 refine jo O Z (ao ?_)
 refine aP (j2 O Z Z (ay O [500,501,502,28] (bin := [fJ (pA a) frm (g.flag (!(bK (bg st)).2)) 1 2, bI (g.flag (!(bK (bg st)).2)).paths, bJ (g.flag (!(bK (bg st)).2)).conds, hC w (cJ st)]) Z Z Z Z (sH (p := (pA a)) (frm := frm) (g := (g.flag (!(bK (bg st)).2))) (w := w) (st := cJ st) (t := bg st) h1 h2 hfl) Z Z Z Z Z Z (B0 := 253000) Z Z (ao ?_)))
 refine jf [28,249,26,25,0,1,6,9] Z (aP (j2 O Z Z (AOps.step ((az O Z Z (by omega) (by omega)).cast (v' := eI ((k : Int) + 1)) Z) Z Z Z (js O Z (jf [256,255,253,28,249,26,25,0,1,6,9] Z (ay O [500,501,502] (bin := [fJ (pA a) frm ((g.flag (!(bK (bg st)).2)).flag (w.fact (bg st)).long) 1 2, bI ((g.flag (!(bK (bg st)).2)).flag (w.fact (bg st)).long).paths, bJ ((g.flag (!(bK (bg st)).2)).flag (w.fact (bg st)).long).conds]) Z Z Z Z (ih1) Z Z Z Z Z Z (B0 := 258000) Z Z (ao ?_)))))))
 refine jf [28,249,26,25,0,1,6,9] Z (aP (j2 O Z Z (ay O [500,258005,258006,6] (bin := [fJ (pA a) frm g3 1 2, bI g3.paths, bJ g3.conds, hC w (cJ st)]) Z Z Z Z (sH (p := (pA a)) (frm := frm) (g := g3) (w := w) (st := cJ st) (t := (bK (bg st)).1) h1 h2 hfl) Z Z Z Z Z Z (B0 := 261000) Z Z (ao ?_))))
 refine jf [28,249,26,25,0,1,6,9] Z (aP (j4 O Z Z Z Z (jf [264,263,261,28,249,26,25,0,1,6,9] Z (ay O [500,258005,258006] (bin := [fJ (pA a) frm (g3.flag (w.fact (bK (bg st)).1).long) 1 2, bI (g3.flag (w.fact (bK (bg st)).1).long).paths, bJ (g3.flag (w.fact (bK (bg st)).1).long).conds]) Z Z Z Z (ih2) Z Z Z Z Z Z (B0 := 266000) Z Z (ao ?_)))))
 refine jf [28,249,26,25,0,1,6,9] Z (jr ?_)
 refine ⟨.inl Z, _, (ag 266005 505 Z Z).trans (ag 266006 506 Z Z), _, Z, Z, Z⟩
 exact absurd (bn hc231) (by omega)
theorem wW {n : Int} (hl : st.length ≤ 1000) : MQ h1 h2 111 [.c (.pt 0 0 0), .agg [.d (.int .i64 n), .d .nils]] [(0, hC w st)] (bb (.tup []) [(0, hC w (st ++ [(⟨n, []⟩ : Tm)]))]) := by
 refine aJ 500 Z (MC.keep [500] (bs := [hC w (st ++ [(⟨n, []⟩ : Tm)])]) Z Z (jH 15 [500] h1 h2 Tryz.func111 Z Z Z Z fun O hF => ?_))
 refine ch ?_
 refine ac (jx O Z (ao ?_))
 refine AOps.to (Ent.freeze 3 (e' := [(3, _), (0, _)]) Z (.cons Z (.c (.box (cs := Tm.cells (⟨n, []⟩ : Tm)) Z (.cons .d (.cons .nils .nil)))) (fe [0] Z)) (.skip (.cons Z (.box (fk Z)) .nil))) ?_
 refine ao ?_
 refine jn (rx O [_,_,_,_,_,_,_,_,_,_,_,_] [pn [] 0 2, pn [] 0 0, pn [1] 0 0, pn [1,2] 0 0, pn [1,2,3] 0 0, pe [1,2,3,4] 0, pn [] 0 1, pn [6] 0 1, pe [1,2,3,4,5,6,7] 1, pn [0,1,2,3,4,5,6,7,8] 2 2, pn [0,1,2,3,4,5,6,7,8,9] 2 2, pe [0,1,2,3,4,5,6,7,8,9,10] 2] [5,8,11] 7 11 (.row false 2 [Tm.cells (⟨n, []⟩ : Tm)]) [_,_] [_,_] [[], [10000], []] (ai (kf O Z Z Z (kf O Z Z Z (kg O Z Z Z))) (kf O Z Z Z (kf O Z Z Z (kf O Z Z Z (kf O Z Z Z (ai (ai (aE (aT (eA O (B0 := 10000) Z Z Z Z (nR (ts := st) h1 h2) (aa Z) Z Z Z Z)) (aT (eA O (B0 := 10000) Z Z Z Z (nR (ts := st) h1 h2) (aa Z) Z Z Z Z))) Z) (ai (kf O Z Z Z (kg O Z Z Z)) (ai (ai (ai (aT (b9 O Z Z Z Z Z Z Z Z Z Z Z Z Z Z)) Z) (ai (aT (b9 O Z Z Z Z Z Z Z Z Z Z Z Z Z Z)) Z)) (ai (ai (aE trivial (bN (own := false) (xs := st.map Tm.cells) (ys := [Tm.cells (⟨n, []⟩ : Tm)]) (zs := ((st ++ [(⟨n, []⟩ : Tm)])).map Tm.cells) (n := (st ++ [(⟨n, []⟩ : Tm)]).length) O Z Z Z Z Z Z Z Z Z Z Z Z Z Z Z Z (.row Z (bt _).symm) (.whole Z Z (.inr ⟨Z, Z⟩)) (by simp) Z (by simp; omega) (by simp; omega) (by simp) (by simp) Z)) Z) (ai (ai (aE trivial (V O Z)) Z) (ai (ai (aE trivial (V O Z)) Z) (ai (ai (aE trivial (aT (eS O Z Z Z))) Z) trivial)))))))))))) ?_)
 show _ ∧ _
 refine Ad ?_
 refine ⟨.inr Z, _, Ent.freeze 12 (e' := [(0, _)]) Z (fe [0] Z) (.cons Z .row (.skip (.cons Z (.box (.cons (.keep Z) (.cons (.row Z (bt _).symm) (fk Z)))) .nil))), _, Z, Z, Z⟩
theorem p8 (hv : VA' a) (hb : g.bad = false) (hi : dk a.code.length (k : Int) = true) (hx : a.code.getD k default = x) (hpt : (!b && decide (0 ≤ dC a.pts (k : Int))) = false) (hst : st.length ≤ 1000) (hlo : cR x st = false) (hin : aV x = true) (ho : x.op ≠ 5 ∧ x.op ≠ 6 ∧ x.op ≠ 11) (hs7 : x.op = 7 → w.sym < 10) (hso : ∀ t ∈ st, t.ok = true) (hvl : w.vars.length = 4) (hfl : w.facts.length ≤ 1000) (hev : w.ev.length ≤ 1000) (hsyl : w.sym ≤ 10) (hg : g.conds.length + 2 ≤ L) (ih : MQ h1 h2 82 [.c (.pt 0 0 0), eI ((k : Int) + 1), qq (dj x w st g).w (dj x w st g).st, eB false] (gC (pA a) frm (dj x w st g).g) (bb (.tup []) (fP (pA a) frm g4)))  : MQ h1 h2 82 [.c (.pt 0 0 0), eI (k : Nat), qq w st, eB b] (gC (pA a) frm g) (bb (.tup []) (fP (pA a) frm g4)) := by
 refine aJ 500 Z (MC.keep [500,505,506] (bs := [fJ (pA a) frm g4 505 506, bI g4.paths, bJ g4.conds]) Z Z (jH 289 [500,501,502] h1 h2 Tryz.func82 Z Z Z Z fun O hF => ?_))
 have h80 : a.code.length ≤ 80 := hv.ok.len
 have hmv := fun x => dG (x := x)
 have hk80 := uS.1 hi
 have hl9 : ¬ cR x st = true := by rw [hlo]; decide
 have hin1 : x.op = 1 ∨ x.op = 2 → 0 ≤ x.a ∧ x.a ≤ 3 := fun e => by unfold aV at hin; rw [if_neg (by omega), if_pos e] at hin; simpa [da] using hin
 have hin4 : x.op = 4 → num x.a = true := fun e => by unfold aV at hin; rw [if_pos (.inr e)] at hin; exact hin
 refine ch ?_
 refine ac (jx O Z (ao ?_))
 refine jn (af (ac (j4 O Z Z Z Z (jf [32,6,0,1,2,3] Z (jn (ab O Z Z (fun hc32 => ?_) (fun hc32 => ?_)))))))
 exact absurd hc32 (by rw [hb]; decide)
 refine ah (af (ac ?_))
 have hmx := hmv x
 refine j4 O Z Z Z Z (j4 O Z Z Z Z ?_)
 first | refine bo O Z ?_ | refine js O Z ?_ | refine aU O Z Z ?_
 first | refine ji O Z ?_ | refine aU O Z Z ?_
 refine jf [42,33,6,0,1,2,3] Z (ae O Z Z Z Z ((kX (x := (k : Int)) (lo := 0) (hi := (a.code.length : Int) - 1) h1 h2).plain (u := eB (dk a.code.length (k : Int))) Z) (aa Z) Z Z Z Z Z (B0 := 44000) Z (js O Z (jf [44,6,0,1,2,3] Z (jn (ab O Z Z (fun hc44 => ?_) (fun hc44 => ?_))))))
 exact absurd hc44 (by rw [hi]; decide)
 refine ah (af (ac (j4 O Z Z Z Z (js O Z (jf [52,51,6,0,1,2,3] Z (ae O Z Z Z Z (io (a := a) (k := (k : Int)) h1 h2) (aa Z) Z Z Z Z Z (B0 := 54000) Z (js O Z (jf [8,6,0,1,2,3] Z (aP (j3 O Z Z Z (jf [56,8,6,0,1,2,3] Z (aS 2 Z Z Z (fun hx => AN.step hx Z Z Z (V O Z) Z Z ( AN.step hx Z Z Z (V O Z) Z Z ( AN.nil))) Z Z ?_))))))))))))
 first | refine AOps.step (aM O Z Z Z Z Z) Z Z Z ?_ | refine AOps.step (aK O Z Z Z Z Z) Z Z Z ?_ | refine AOps.step (Val.pickB O Z Z Z Z Z) Z Z Z ?_
 refine jf [59,8,6,0,1,2] Z (jn (ab O Z Z (fun hc59 => ?_) (fun hc59 => ?_)))
 exact absurd hc59 (by rw [eV, hpt]; decide)
 refine ah (ac (j4 O Z Z Z Z (j4 O Z Z Z Z (AOps.step ((aL O Z Z Z Z Z Z Z Z (cB (by have := uS.1 hi; omega))).cast (v' := ptr (In.cells x)) (by rw [hx])) Z Z Z (js O Z (jf [83,8,6,0,1,2] Z (jl O Z (ao ?_))))))))
 refine jo O Z (ao ?_)
 refine aP (j2 O Z Z (jf [86,9,83,8,6,0,1,2] Z (ax O Z Z Z Z (k9 (x := x) h1 h2) (aa Z) Z Z Z Z (B0 := 88000) Z Z (j4 O Z Z Z Z (js O Z (jf [11,10,9,83,8,6,0,1,2] Z (aP (j2 O Z Z ?_))))))))
 first | refine bo O Z ?_ | refine js O Z ?_ | refine aU O Z Z ?_
 refine js O Z (jf [12,11,10,9,83,8,6,0,1,2] Z (jn (af (ac (j4 O Z Z Z Z (jf [96,12,11,10,9,83,8,6,0,1,2] Z (aS 6 Z Z Z (fun hx => AN.step hx Z Z Z (V O Z) Z Z ( AN.step hx Z Z Z (V O Z) Z Z ( AN.step hx Z Z Z ((az O Z Z (by omega) (by omega)).cast (v' := eI ((st.length : Int) - (mv x).1)) Z) Z Z ( AN.step hx Z Z Z (V O Z) Z Z ( AN.step hx Z Z Z ((az O Z Z (by omega) (by omega)).cast (v' := eI ((st.length : Int) - (mv x).1 + (mv x).2)) Z) Z Z ( AN.step hx Z Z Z (V O Z) Z Z ( AN.nil))))))) Z Z ?_)))))))
 first | refine AOps.step (aK O Z Z Z Z Z) Z Z Z ?_ | refine AOps.step (Val.pickB O Z Z Z Z Z) Z Z Z ?_ | refine AOps.step (aM O Z Z Z Z Z) Z Z Z ?_
 refine jf [103,9,83,8,6,0,1,2] Z (jn (ab O Z Z (fun hc103 => ?_) (fun hc103 => ?_)))
 exact absurd hc103 (by rw [gR, hlo]; decide)
 refine ah (af (ac (j2 O Z Z (jf [108,9,83,8,6,0,1,2] Z (jn ?_)))))
 obtain ⟨d, ed⟩ : ∃ d, d = dj x w st g := ⟨_, rfl⟩
 rw [← ed] at ih
 refine c6 ⟨[(0, .c (.pt 500 0 0)), (1, eI (k : Nat)), (6, .c (.pt 6 0 0))], [(6, hC d.w d.st), (500, fJ (pA a) frm d.g 901 902), (901, bI d.g.paths), (902, bJ d.g.conds)]⟩ ?_ ?_
 refine am (ac (j2 O Z Z (jn (ab O Z Z (fun hc109 => ?_) (fun hc109 => ?_)))))
 refine aj (j3 O Z Z Z (jf [113,110,108,9,83,8,6,0,1,2] Z (ay O [6] (bin := [hC w st]) Z Z Z Z (wW (w := w) (st := st) (n := x.a) h1 h2 hst) Z Z Z Z Z Z (B0 := 115000) Z Z (ao ?_))))
 refine jf [110,108,9,83,8,6,0,1,2] Z (jn ?_)
 rw [ed, dj, if_neg hl9, if_pos (aR hc109)]
 exact ⟨Z, (((aw [6,500,501,502] (e' := [(0, _), (1, _), (6, _)]) Z Z ⟨Z, Z, Z, trivial⟩ Z).trans (ag 501 901 Z Z)).trans (ag 502 902 Z Z)).trans (Ent.to ⟨Z, Z, Z, trivial⟩ Z)⟩
 refine ac (j2 O Z Z (jf [115,110,108,9,83,8,6,0,1,2] Z (jn (ab O Z Z (fun hc115 => ?_) (fun hc115 => ?_)))))
 refine aj (js O Z ?_)
 have hxa := hin1 (.inl (aR hc115))
 refine j3 O Z Z Z (AOps.step ((bA O Z Z Z Z Z Z Z Z (e := Tm.cells (w.vars.getD x.a.toNat tz)) (by omega) (by rw [List.getElem?_map, List.getElem?_eq_getElem (by omega), List.getD_eq_getElem?_getD, List.getElem?_eq_getElem (by omega)]; rfl)).cast (v' := ptr (Tm.cells (w.vars.getD x.a.toNat tz))) Z) Z Z Z ?_)
 refine js O Z (jf [122,110,108,9,83,8,6,0,1,2] Z (ay O [6] (bin := [hC w st]) Z Z Z Z (qD (w := w) (st := st) (t := w.vars.getD x.a.toNat tz) h1 h2 (by first | omega | (simp only [cJ, nH, List.length_take]; omega))) Z Z Z Z Z Z (B0 := 124000) Z Z (ao ?_)))
 refine jf [110,108,9,83,8,6,0,1,2] Z (jn ?_)
 rw [ed, dj, if_neg hl9, if_neg (bn hc109), if_pos (aR hc115)]
 exact ⟨Z, (((aw [6,500,501,502] (e' := [(0, _), (1, _), (6, _)]) Z Z ⟨Z, Z, Z, trivial⟩ Z).trans (ag 501 901 Z Z)).trans (ag 502 902 Z Z)).trans (Ent.to ⟨Z, Z, Z, trivial⟩ Z)⟩
 refine ac (j2 O Z Z (jf [124,110,108,9,83,8,6,0,1,2] Z (jn (ab O Z Z (fun hc124 => ?_) (fun hc124 => ?_)))))
 refine ac ?_
 have h0 := oX hlo (by have := aR hc124; omega)
 have hxa := hin1 (.inr (aR hc124))
 refine ay O [6] (bin := [hC w st]) Z Z Z Z (im (w := w) (st := st) h1 h2 h0 hst) Z Z Z Z Z Z (B0 := 127000) Z Z (ao ?_)
 refine jf [126,110,108,9,83,8,6,0,1,2] Z (jl O Z (ao ?_))
 refine jo O Z (ao ?_)
 refine aP (j2 O Z Z (jf [128,13,126,110,108,9,83,8,6,0,1,2] Z (l5 O (B0 := 130000) Z Z Z Z (nR (ts := w.vars) h1 h2) (aa Z) Z Z Z Z Z (ao ?_))))
 refine js O Z (jf [130,129,13,126,110,108,9,83,8,6,0,1,2] Z (jo O Z (ao ?_)))
 refine jf [13,126,110,108,9,83,8,6,0,1,2] Z (jn (aj (j4 O Z Z Z Z (js O Z (aU O Z Z (jf [136,135,13,126,110,108,9,83,8,6,0,1,2] Z (AOps.heap (bd (ex := Tm.cells (w.vars.getD x.a.toNat default)) (xs' := (w.vars.set x.a.toNat (bg st)).map Tm.cells) O Z Z Z Z Z Z Z Z Z Z Z Z Z Z (oW (by omega) (by omega)) (Aa (v := bg st) (by omega) Z)) Z (ao ?_))))))))
 refine jf [13,126,110,108,9,83,8,6,0,1,2] Z (jn ?_)
 rw [ed, dj, if_neg hl9, if_neg (bn hc109), if_neg (bn hc115), if_pos (aR hc124)]
 exact ⟨Z, ((((aw [6,500,501,502,130000] (e' := [(0, _), (1, _), (6, _)]) Z Z ⟨Z, Z, Z, trivial⟩ Z).trans (Ent.freeze 130000 (e' := [(0, _), (1, _), (6, _)]) Z (fe [0,1,6] Z) (.cons Z (.box (.cons (.row Z (by simp [hvl])) (fk Z))) (.cons Z (.box (fk Z)) (.cons Z .row (.cons Z .row (.skip .nil))))))).trans (ag 501 901 Z Z)).trans (ag 502 902 Z Z)).trans (Ent.to ⟨Z, Z, Z, trivial⟩ Z)⟩
 refine ac (j2 O Z Z (jf [137,110,108,9,83,8,6,0,1,2] Z (jn (ab O Z Z (fun hc137 => ?_) (fun hc137 => ?_)))))
 refine ac ?_
 have h0 := x9 hlo (by have := aR hc137; omega)
 have h01 : 0 < st.length := by omega
 refine ay O [6] (bin := [hC w st]) Z Z Z Z (im (w := w) (st := st) h1 h2 h01 hst) Z Z Z Z Z Z (B0 := 140000) Z Z (ao ?_)
 refine jf [139,110,108,9,83,8,6,0,1,2] Z (jl O Z (ao ?_))
 refine jo O Z (ao ?_)
 refine aP ?_
 have hP2 := im (w := w) (st := cJ st) h1 h2 (by rw [jZ]; omega) (by rw [jZ]; omega)
 rw [sR h0, vx h0] at hP2
 refine ay O [6] (bin := [hC w (cJ st)]) Z Z Z Z (hP2) Z Z Z Z Z Z (B0 := 141000) Z Z (ao ?_)
 refine jl O Z (ao ?_)
 refine jo O Z (ao ?_)
 refine aP (AOps.to (Ent.freeze 14 (e' := [(14, _), (15, _), (0, _), (1, _), (6, _)]) Z (.cons Z (.c (.box (cs := Tm.cells (bg st)) Z (aq Z))) (fe [15,0,1,6] Z)) (.cons Z (.box (fk Z)) (.skip (.cons Z (.box (fk Z)) (.cons Z (.box (fk Z)) (.cons Z .row (.cons Z .row (.cons Z (.box (fk Z)) .nil)))))))) ?_)
 refine AOps.to (Ent.freeze 15 (e' := [(14, _), (15, _), (0, _), (1, _), (6, _)]) Z (.cons Z (.keep Z) (.cons Z (.c (.box (cs := Tm.cells (jK st)) Z (aq Z))) (fe [0,1,6] Z))) (.cons Z (.box (fk Z)) (.skip (.cons Z (.box (fk Z)) (.cons Z .row (.cons Z .row (.cons Z (.box (fk Z)) .nil))))))) ?_
 refine ax O Z Z Z Z ((zw (s := bg st) (t := jK st) h1 h2 (Small.of (iE hso)) (Small.of (iE hso))).plain (u := eM (eg (jK st) (bg st))) (by rw [xK])) (aa Z) Z Z Z Z (B0 := 143000) Z Z (j3 O Z Z Z (jf [144,143,14,15,0,1,6] Z (jl O Z (ao ?_))))
 refine jo O Z (ao ?_)
 refine js O Z (jf [17,16,14,15,0,1,6] Z (aP (j4 O Z Z Z Z (j2 O Z Z (jf [150,145,17,16,14,15,0,1,6] Z (aS 2 Z Z Z (fun hx => AN.step hx Z Z Z (V O Z) Z Z ( AN.step hx Z Z Z (V O Z) Z Z ( AN.nil))) Z Z (AOps.step ((aK O Z Z Z Z Z).cast (v' := eB (g.bad || !(eg (jK st) (bg st)).2)) (congrArg eB vj)) Z Z Z (j2 O Z Z (jf [155,153,16,14,15,0,1,6] Z (jo O Z (ao ?_)))))))))))
 refine jf [16,14,15,0,1,6] Z (jn (aj (js O Z (ay O [6] (bin := [hC w (nH st)]) Z Z Z Z (qD (w := w) (st := (nH st)) (t := (eg (jK st) (bg st)).1) h1 h2 (by first | omega | (simp only [cJ, nH, List.length_take]; omega))) Z Z Z Z Z Z (B0 := 158000) Z Z (ao ?_)))))
 refine jf [16,14,15,0,1,6] Z (jn ?_)
 rw [ed, dj, if_neg hl9, if_neg (bn hc109), if_neg (bn hc115), if_neg (bn hc124), if_pos (aR hc137)]
 exact ⟨Z, (((aw [6,500,501,502] (e' := [(0, _), (1, _), (6, _)]) Z Z ⟨Z, Z, Z, trivial⟩ Z).trans (ag 501 901 Z Z)).trans (ag 502 902 Z Z)).trans (Ent.to ⟨Z, Z, Z, trivial⟩ Z)⟩
 refine ac (j2 O Z Z (jf [158,110,108,9,83,8,6,0,1,2] Z (jn (ab O Z Z (fun hc158 => ?_) (fun hc158 => ?_)))))
 refine ac ?_
 have h0 := oX hlo (by have := aR hc158; omega)
 have hxn := hin4 (aR hc158)
 refine ay O [6] (bin := [hC w st]) Z Z Z Z (im (w := w) (st := st) h1 h2 h0 hst) Z Z Z Z Z Z (B0 := 161000) Z Z (ao ?_)
 refine jf [160,110,108,9,83,8,6,0,1,2] Z (jl O Z (ao ?_))
 refine jo O Z (ao ?_)
 refine aP (j2 O Z Z (jf [163,18,160,110,108,9,83,8,6,0,1,2] Z (AOps.to (Ent.freeze 18 (e' := [(18, _), (163, _), (0, _), (1, _), (6, _)]) Z (.cons Z (.c (.box (cs := Tm.cells (bg st)) Z (aq Z))) (fe [163,0,1,6] Z)) (.cons Z (.box (fk Z)) (.skip (.cons Z (.box (fk Z)) (.cons Z .row (.cons Z .row (.cons Z (.box (fk Z)) .nil))))))) ?_)))
 refine ax O Z Z Z Z ((zu (t := bg st) (n := x.a) h1 h2 (Small.of (iE hso)) hxn).plain (u := eM (ee (bg st) x.a)) (by rw [wE])) (aa Z) Z Z Z Z (B0 := 165000) Z Z (j3 O Z Z Z (jf [166,165,18,0,1,6] Z (jl O Z (ao ?_))))
 refine jo O Z (ao ?_)
 refine js O Z (jf [20,19,18,0,1,6] Z (aP (j4 O Z Z Z Z (j2 O Z Z (jf [172,167,20,19,18,0,1,6] Z (aS 2 Z Z Z (fun hx => AN.step hx Z Z Z (V O Z) Z Z ( AN.step hx Z Z Z (V O Z) Z Z ( AN.nil))) Z Z (AOps.step ((aK O Z Z Z Z Z).cast (v' := eB (g.bad || !(ee (bg st) x.a).2)) (congrArg eB vj)) Z Z Z (j2 O Z Z (jf [177,175,19,18,0,1,6] Z (jo O Z (ao ?_)))))))))))
 refine jf [19,18,0,1,6] Z (jn (aj (js O Z (ay O [6] (bin := [hC w (cJ st)]) Z Z Z Z (qD (w := w) (st := (cJ st)) (t := (ee (bg st) x.a).1) h1 h2 (by first | omega | (simp only [cJ, nH, List.length_take]; omega))) Z Z Z Z Z Z (B0 := 180000) Z Z (ao ?_)))))
 refine jf [19,18,0,1,6] Z (jn ?_)
 rw [ed, dj, if_neg hl9, if_neg (bn hc109), if_neg (bn hc115), if_neg (bn hc124), if_neg (bn hc137), if_pos (aR hc158)]
 exact ⟨Z, (((aw [6,500,501,502] (e' := [(0, _), (1, _), (6, _)]) Z Z ⟨Z, Z, Z, trivial⟩ Z).trans (ag 501 901 Z Z)).trans (ag 502 902 Z Z)).trans (Ent.to ⟨Z, Z, Z, trivial⟩ Z)⟩
 refine ac (j2 O Z Z (jf [180,110,108,9,83,8,6,0,1,2] Z (jn (ab O Z Z (fun hc180 => ?_) (fun hc180 => ?_)))))
 refine ac ?_
 have h0 := oX hlo (by have := aR hc180; omega)
 have hsy := hs7 (aR hc180)
 refine ay O [6] (bin := [hC w st]) Z Z Z Z (im (w := w) (st := st) h1 h2 h0 hst) Z Z Z Z Z Z (B0 := 183000) Z Z (ao ?_)
 refine jf [182,110,108,9,83,8,6,0,1,2] Z (jl O Z (ao ?_))
 refine jo O Z (ao ?_)
 refine aP (AOps.to (Ent.freeze 21 (e' := [(21, _), (0, _), (1, _), (6, _)]) Z (.cons Z (.c (.box (cs := Tm.cells (bg st)) Z (aq Z))) (fe [0,1,6] Z)) (.cons Z (.box (fk Z)) (.skip (.cons Z (.box (fk Z)) (.cons Z .row (.cons Z .row (.cons Z (.box (fk Z)) .nil))))))) ?_)
 refine js O Z (ay O [500,501,502,6] (bin := [fJ (pA a) frm g 1 2, bI g.paths, bJ g.conds, hC w (cJ st)]) Z Z Z Z (sI (p := (pA a)) (frm := frm) (g := g) (w := w) (st := cJ st) (t := bg st) h1 h2 (iE hso) hg) Z Z Z Z Z Z (B0 := 185000) Z Z (ao ?_))
 refine jf [21,0,1,6] Z (jn (af (ac (j3 O Z Z Z (jf [187,21,0,1,6] Z (jn (ab O Z Z (fun hc187 => ?_) (fun hc187 => ?_))))))))
 exact absurd (aR hc187) (by omega)
 refine ah (ac (j2 O Z Z ?_))
 first | refine ji O Z ?_ | refine aU O Z Z ?_
 refine jf [193,21,0,1,6] Z (AOps.heap (cd O Z Z Z Z Z Z Z Z Z (by first | omega | (simp at *; omega)) (by first | omega | (simp at *; omega)) (by first | omega | (simp at *; omega)) (by first | omega | (dsimp only; omega) | (simp only [aN] at *; omega)) (by first | omega | (simp at *; omega)) Z Z Z) Z (ao ?_))
 refine js O Z (jf [195,21,0,1,6] Z (jl O Z (ao ?_)))
 refine jo O Z (ao ?_)
 refine aP (j4 O Z Z Z Z ?_)
 first | refine kV O Z Z ?_ | refine f7 O Z Z ?_ | refine aU O Z Z ?_
 refine jf [200,22,195,21,0,1,6] Z (AOps.heap (bd (ex := [.int .i64 0]) (xs' := ((List.replicate w.sym 0 ++ [1] : List Int)).map (fun n => [D.int .i64 n])) O Z Z Z Z Z Z Z Z Z Z Z Z Z Z kO kN) Z (ao ?_))
 refine aP (AOps.to (Ent.freeze 194 (e' := [(0, _), (1, _), (6, _), (22, _)]) Z (fe [0,1,6,22] Z) (.cons Z (.box (fk Z)) (.cons Z (.box (.cons (.keep Z) (.cons (.row Z (by simp)) .nil))) (.skip (.cons Z (.box (fk Z)) (.cons Z .row (.cons Z (.box (fk Z)) (.cons Z .row .nil)))))))) ?_)
 refine js O Z (ay O [6] (bin := [hC w (cJ st)]) Z Z Z Z (qD (w := w) (st := cJ st) (t := ik w.sym) h1 h2 (by rw [jZ]; omega)) Z Z Z Z Z Z (B0 := 203000) Z Z (ao ?_))
 refine jf [0,1,6,22] Z (jn (aj (j2 O Z Z ?_)))
 first | refine ji O Z ?_ | refine aU O Z Z ?_
 refine js O Z (jf [206,205,0,1,6,22] Z (jo O Z (ao ?_)))
 refine jf [0,1,6,22] Z (jn ?_)
 rw [ed, dj, if_neg hl9, if_neg (bn hc109), if_neg (bn hc115), if_neg (bn hc124), if_neg (bn hc137), if_neg (bn hc158), if_pos (aR hc180), if_neg (by have := hs7 (aR hc180); omega)]
 exact ⟨Z, (((aw [6,500,501,185006] (e' := [(0, _), (1, _), (6, _)]) Z Z ⟨Z, Z, Z, trivial⟩ Z).trans (ag 501 901 Z Z)).trans (ag 185006 902 Z Z)).trans (Ent.to ⟨Z, Z, Z, trivial⟩ Z)⟩
 refine ac (j2 O Z Z (jf [207,110,108,9,83,8,6,0,1,2] Z (jn (ab O Z Z (fun hc207 => ?_) (fun hc207 => ?_)))))
 refine ac ?_
 have h0 := x9 hlo (by have := aR hc207; omega)
 have h01 : 0 < st.length := by omega
 refine ay O [6] (bin := [hC w st]) Z Z Z Z (im (w := w) (st := st) h1 h2 h01 hst) Z Z Z Z Z Z (B0 := 210000) Z Z (ao ?_)
 refine jf [110,108,9,83,8,6,0,1,2] Z (aP ?_)
 have hP2 := im (w := w) (st := cJ st) h1 h2 (by rw [jZ]; omega) (by rw [jZ]; omega)
 rw [sR h0, vx h0] at hP2
 refine ay O [6] (bin := [hC w (cJ st)]) Z Z Z Z (hP2) Z Z Z Z Z Z (B0 := 211000) Z Z (ao ?_)
 refine jl O Z (ao ?_)
 refine jo O Z (ao ?_)
 refine jn (aj (AOps.to (Ent.freeze 23 (e' := [(23, _), (0, _), (1, _), (6, _)]) Z (.cons Z (.c (.box (cs := Tm.cells (jK st)) Z (aq Z))) (fe [0,1,6] Z)) (.cons Z (.box (fk Z)) (.skip (.cons Z (.box (fk Z)) (.cons Z .row (.cons Z .row (.cons Z (.box (fk Z)) .nil))))))) ?_))
 refine js O Z (ay O [500,501,502,6] (bin := [fJ (pA a) frm g 1 2, bI g.paths, bJ g.conds, hC w (nH st)]) Z Z Z Z (sI (p := (pA a)) (frm := frm) (g := g) (w := w) (st := nH st) (t := jK st) h1 h2 (iE hso) hg) Z Z Z Z Z Z (B0 := 213000) Z Z (ao ?_))
 refine jf [23,0,1,6] Z (jn ?_)
 rw [ed, dj, if_neg hl9, if_neg (bn hc109), if_neg (bn hc115), if_neg (bn hc124), if_neg (bn hc137), if_neg (bn hc158), if_neg (bn hc180), if_pos (aR hc207)]
 exact ⟨Z, (((aw [6,500,501,213006] (e' := [(0, _), (1, _), (6, _)]) Z Z ⟨Z, Z, Z, trivial⟩ Z).trans (ag 501 901 Z Z)).trans (ag 213006 902 Z Z)).trans (Ent.to ⟨Z, Z, Z, trivial⟩ Z)⟩
 refine ac (j2 O Z Z (jf [213,110,108,9,83,8,6,0,1,2] Z (jn (ab O Z Z (fun hc213 => ?_) (fun hc213 => ?_)))))
 refine jw [110,108,9,83,8,6,0,1,2] Z (rx O [_,_,_,_,_,_,_,_,_] [pn [] 0 0, pn [0] 0 0, pe [0,1] 0, pn [] 0 1, pn [3] 0 1, pn [3,4] 0 1, pe [0,1,2,3,4,5] 1, pn [0,1,2,3,4,5,6] 2 2, pe [0,1,2,3,4,5,6,7] 2] [2,6,8] 5 220 (.row false 1 [[.int .i64 x.a]]) [_,_] [_,_] [[], [218000], []] (kf O Z Z Z (kf O Z Z Z (ai (ai (aE (aT (cC O (B0 := 218000) Z Z Z Z (wo (xs := w.ev) h1 h2) (aa Z) Z Z Z Z Z)) (aT (cC O (B0 := 218000) Z Z Z Z (wo (xs := w.ev) h1 h2) (aa Z) Z Z Z Z Z))) Z) (ai (kf O Z Z Z (kg O Z Z Z)) (ai (kf O Z Z Z (kg O Z Z Z)) (ai (ai (ai (aT (b9 O Z Z Z Z Z Z Z Z Z Z Z Z Z Z)) Z) (ai (aT (b9 O Z Z Z Z Z Z Z Z Z Z Z Z Z Z)) Z)) (ai (ai (aE trivial (bN (own := true) (xs := w.ev.map (fun n => [D.int .i64 n])) (ys := [[.int .i64 x.a]]) (zs := (w.ev ++ [x.a]).map (fun n => [D.int .i64 n])) (n := (w.ev ++ [x.a]).length) O Z Z Z Z Z Z Z Z Z Z Z Z Z Z Z Z (.row Z (bt _).symm) (.whole Z Z (.inl (by simp [Scal, D.scalar]))) (by simp) Z (by simp; omega) (by simp; omega) (by simp) (by simp) Z)) Z) (ai (ai (aE trivial (V O Z)) Z) (ai (ai (aE trivial (aT (eS O Z Z Z))) Z) trivial))))))))) ?_)
 rw [ed, dj, if_neg hl9, if_neg (bn hc109), if_neg (bn hc115), if_neg (bn hc124), if_neg (bn hc137), if_neg (bn hc158), if_neg (bn hc180), if_neg (bn hc207), if_pos (aR hc213)]
 exact ⟨Z, ((((aw [6,500,501,502,221] (e' := [(0, _), (1, _), (6, _)]) Z Z ⟨Z, Z, Z, trivial⟩ Z).trans (Ent.freeze 221 (e' := [(0, _), (1, _), (6, _)]) Z (fe [0,1,6] Z) (.cons Z (.box (.cons (.keep Z) (.cons (.keep Z) (.cons (.keep Z) (.cons (.keep Z) (.cons (.row Z (by simp)) .nil)))))) (.cons Z (.box (fk Z)) (.cons Z .row (.cons Z .row (.skip .nil))))))).trans (ag 501 901 Z Z)).trans (ag 502 902 Z Z)).trans (Ent.to ⟨Z, Z, Z, trivial⟩ Z)⟩
 refine ac (j2 O Z Z (jf [223,110,108,9,83,8,6,0,1,2] Z (jn (ab O Z Z (fun hc223 => ?_) (fun hc223 => ?_)))))
 refine ac ?_
 have h0 := oX hlo (by have := aR hc223; omega)
 refine ay O [6] (bin := [hC w st]) Z Z Z Z (im (w := w) (st := st) h1 h2 h0 hst) Z Z Z Z Z Z (B0 := 226000) Z Z (ao ?_)
 refine jf [225,110,108,9,83,8,6,0,1,2] Z (jl O Z (ao ?_))
 refine jo O Z (ao ?_)
 refine aP (AOps.to (Ent.freeze 24 (e' := [(24, _), (0, _), (1, _), (6, _)]) Z (.cons Z (.c (.box (cs := Tm.cells (bg st)) Z (aq Z))) (fe [0,1,6] Z)) (.cons Z (.box (fk Z)) (.skip (.cons Z (.box (fk Z)) (.cons Z .row (.cons Z .row (.cons Z (.box (fk Z)) .nil))))))) ?_)
 refine js O Z (ay O [500,501,502,6] (bin := [fJ (pA a) frm g 1 2, bI g.paths, bJ g.conds, hC w (cJ st)]) Z Z Z Z (qC (p := (pA a)) (frm := frm) (g := g) (w := w) (st := cJ st) (t := bg st) h1 h2 (by omega)) Z Z Z Z Z Z (B0 := 228000) Z Z (ao ?_))
 refine jf [24,0,1,6] Z (jn (aj (j2 O Z Z (ay O [500,501,228006,6] (bin := [fJ (pA a) frm (g.goal w (bg st)) 1 2, bI (g.goal w (bg st)).paths, bJ (g.goal w (bg st)).conds, hC w (cJ st)]) Z Z Z Z (sH (p := (pA a)) (frm := frm) (g := g.goal w (bg st)) (w := w) (st := cJ st) (t := bg st) h1 h2 hfl) Z Z Z Z Z Z (B0 := 231000) Z Z (ao ?_)))))
 refine jf [24,0,1,6] Z (jn ?_)
 rw [ed, dj, if_neg hl9, if_neg (bn hc109), if_neg (bn hc115), if_neg (bn hc124), if_neg (bn hc137), if_neg (bn hc158), if_neg (bn hc180), if_neg (bn hc207), if_neg (bn hc213), if_pos (aR hc223)]
 exact ⟨Z, (((aw [6,500,501,228006] (e' := [(0, _), (1, _), (6, _)]) Z Z ⟨Z, Z, Z, trivial⟩ Z).trans (ag 501 901 Z Z)).trans (ag 228006 902 Z Z)).trans (Ent.to ⟨Z, Z, Z, trivial⟩ Z)⟩
 refine ac (j2 O Z Z (jf [231,110,108,9,83,8,6,0,1,2] Z (jn (ab O Z Z (fun hc231 => ?_) (fun hc231 => ?_)))))
 exact absurd (aR hc231) (by omega)
 refine ac (j2 O Z Z (jf [266,110,108,9,83,8,6,0,1,2] Z (jn (ab O Z Z (fun hc266 => ?_) (fun hc266 => ?_)))))
 exact absurd (aR hc266) (by omega)
 refine ac (j2 O Z Z (jf [273,110,108,9,83,8,6,0,1,2] Z (jn (ab O Z Z (fun hc273 => ?_) (fun hc273 => ?_)))))
 exact absurd (aR hc273) (by omega)
 refine ah ?_
 rw [ed, dj, if_neg hl9, if_neg (bn hc109), if_neg (bn hc115), if_neg (bn hc124), if_neg (bn hc137), if_neg (bn hc158), if_neg (bn hc180), if_neg (bn hc207), if_neg (bn hc213), if_neg (bn hc223)]
 exact ⟨Z, (((aw [6,500,501,502] (e' := [(0, _), (1, _), (6, _)]) Z Z ⟨Z, Z, Z, trivial⟩ Z).trans (ag 501 901 Z Z)).trans (ag 502 902 Z Z)).trans (Ent.to ⟨Z, Z, Z, trivial⟩ Z)⟩
 refine aj (j2 O Z Z (AOps.step ((az O Z Z (by omega) (by omega)).cast (v' := eI ((k : Int) + 1)) Z) Z Z Z (js O Z (jf [287,286,284,0,1,6] Z (ay O [500,901,902] (bin := [fJ (pA a) frm d.g 1 2, bI d.g.paths, bJ d.g.conds]) Z Z Z Z (ih) Z Z Z Z Z Z (B0 := 289000) Z Z (ao ?_))))))
 refine jf [0,1,6] Z (jn ?_)
 show _ ∧ _
 refine ⟨.inr Z, _, (ag 289005 505 Z Z).trans (ag 289006 506 Z Z), _, Z, Z, Z⟩
theorem qb (hv : VA' a) (hb : g.bad = false) (hi : dk a.code.length (k : Int) = true) (hx : a.code.getD k default = x) (hpt : (!b && decide (0 ≤ dC a.pts (k : Int))) = false) (hst : st.length ≤ 1000) (hlo : cR x st = false) (ho : x.op = 7) (hsy : w.sym = 10) (hso : ∀ t ∈ st, t.ok = true) (hg : g.conds.length + 2 ≤ L)  : MQ h1 h2 82 [.c (.pt 0 0 0), eI (k : Nat), qq w st, eB b] (gC (pA a) frm g) (bb (.tup []) (fP (pA a) frm ((aY cu w (bg st) g).flag true))) := by
 refine aJ 500 Z (MC.keep [500,505,506] (bs := [fJ (pA a) frm ((aY cu w (bg st) g).flag true) 505 506, bI ((aY cu w (bg st) g).flag true).paths, bJ ((aY cu w (bg st) g).flag true).conds]) Z Z (jH 289 [500,501,502] h1 h2 Tryz.func82 Z Z Z Z fun O hF => ?_))
 have h80 : a.code.length ≤ 80 := hv.ok.len
 have hmv := fun x => dG (x := x)
 have hk80 := uS.1 hi
 rw [show ((aY cu w (bg st) g).flag true) = ⟨(aY cu w (bg st) g).paths, (aY cu w (bg st) g).conds, true⟩ by simp [Gs.flag]]
 refine ch ?_
 refine ac (jx O Z (ao ?_))
 refine jn (af (ac (j4 O Z Z Z Z (jf [32,6,0,1,2,3] Z (jn (ab O Z Z (fun hc32 => ?_) (fun hc32 => ?_)))))))
 exact absurd hc32 (by rw [hb]; decide)
 refine ah (af (ac ?_))
 have hmx := hmv x
 refine j4 O Z Z Z Z (j4 O Z Z Z Z ?_)
 first | refine bo O Z ?_ | refine js O Z ?_ | refine aU O Z Z ?_
 first | refine ji O Z ?_ | refine aU O Z Z ?_
 refine jf [42,33,6,0,1,2,3] Z (ae O Z Z Z Z ((kX (x := (k : Int)) (lo := 0) (hi := (a.code.length : Int) - 1) h1 h2).plain (u := eB (dk a.code.length (k : Int))) Z) (aa Z) Z Z Z Z Z (B0 := 44000) Z (js O Z (jf [44,6,0,1,2,3] Z (jn (ab O Z Z (fun hc44 => ?_) (fun hc44 => ?_))))))
 exact absurd hc44 (by rw [hi]; decide)
 refine ah (af (ac (j4 O Z Z Z Z (js O Z (jf [52,51,6,0,1,2,3] Z (ae O Z Z Z Z (io (a := a) (k := (k : Int)) h1 h2) (aa Z) Z Z Z Z Z (B0 := 54000) Z (js O Z (jf [8,6,0,1,2,3] Z (aP (j3 O Z Z Z (jf [56,8,6,0,1,2,3] Z (aS 2 Z Z Z (fun hx => AN.step hx Z Z Z (V O Z) Z Z ( AN.step hx Z Z Z (V O Z) Z Z ( AN.nil))) Z Z ?_))))))))))))
 first | refine AOps.step (aM O Z Z Z Z Z) Z Z Z ?_ | refine AOps.step (aK O Z Z Z Z Z) Z Z Z ?_ | refine AOps.step (Val.pickB O Z Z Z Z Z) Z Z Z ?_
 refine jf [59,8,6,0,1,2] Z (jn (ab O Z Z (fun hc59 => ?_) (fun hc59 => ?_)))
 exact absurd hc59 (by rw [eV, hpt]; decide)
 refine ah (ac (j4 O Z Z Z Z (j4 O Z Z Z Z (AOps.step ((aL O Z Z Z Z Z Z Z Z (cB (by have := uS.1 hi; omega))).cast (v' := ptr (In.cells x)) (by rw [hx])) Z Z Z (js O Z (jf [83,8,6,0,1,2] Z (jl O Z (ao ?_))))))))
 refine jo O Z (ao ?_)
 refine aP (j2 O Z Z (jf [86,9,83,8,6,0,1,2] Z (ax O Z Z Z Z (k9 (x := x) h1 h2) (aa Z) Z Z Z Z (B0 := 88000) Z Z (j4 O Z Z Z Z (js O Z (jf [11,10,9,83,8,6,0,1,2] Z (aP (j2 O Z Z ?_))))))))
 first | refine bo O Z ?_ | refine js O Z ?_ | refine aU O Z Z ?_
 refine js O Z (jf [12,11,10,9,83,8,6,0,1,2] Z (jn (af (ac (j4 O Z Z Z Z (jf [96,12,11,10,9,83,8,6,0,1,2] Z (aS 6 Z Z Z (fun hx => AN.step hx Z Z Z (V O Z) Z Z ( AN.step hx Z Z Z (V O Z) Z Z ( AN.step hx Z Z Z ((az O Z Z (by omega) (by omega)).cast (v' := eI ((st.length : Int) - (mv x).1)) Z) Z Z ( AN.step hx Z Z Z (V O Z) Z Z ( AN.step hx Z Z Z ((az O Z Z (by omega) (by omega)).cast (v' := eI ((st.length : Int) - (mv x).1 + (mv x).2)) Z) Z Z ( AN.step hx Z Z Z (V O Z) Z Z ( AN.nil))))))) Z Z ?_)))))))
 first | refine AOps.step (aK O Z Z Z Z Z) Z Z Z ?_ | refine AOps.step (Val.pickB O Z Z Z Z Z) Z Z Z ?_ | refine AOps.step (aM O Z Z Z Z Z) Z Z Z ?_
 refine jf [103,9,83,8,6,0,1,2] Z (jn (ab O Z Z (fun hc103 => ?_) (fun hc103 => ?_)))
 exact absurd hc103 (by rw [gR, hlo]; decide)
 refine ah (af (ac (j2 O Z Z (jf [108,9,83,8,6,0,1,2] Z (jn (am (ac (j2 O Z Z (jn (ab O Z Z (fun hc109 => ?_) (fun hc109 => ?_)))))))))))
 exact absurd (aR hc109) (by omega)
 refine ac (j2 O Z Z (jf [115,110,108,9,83,8,6,0,1,2] Z (jn (ab O Z Z (fun hc115 => ?_) (fun hc115 => ?_)))))
 exact absurd (aR hc115) (by omega)
 refine ac (j2 O Z Z (jf [124,110,108,9,83,8,6,0,1,2] Z (jn (ab O Z Z (fun hc124 => ?_) (fun hc124 => ?_)))))
 exact absurd (aR hc124) (by omega)
 refine ac (j2 O Z Z (jf [137,110,108,9,83,8,6,0,1,2] Z (jn (ab O Z Z (fun hc137 => ?_) (fun hc137 => ?_)))))
 exact absurd (aR hc137) (by omega)
 refine ac (j2 O Z Z (jf [158,110,108,9,83,8,6,0,1,2] Z (jn (ab O Z Z (fun hc158 => ?_) (fun hc158 => ?_)))))
 exact absurd (aR hc158) (by omega)
 refine ac (j2 O Z Z (jf [180,110,108,9,83,8,6,0,1,2] Z (jn (ab O Z Z (fun hc180 => ?_) (fun hc180 => ?_)))))
 refine ac ?_
 have h0 := oX hlo (by have := aR hc180; omega)
 refine ay O [6] (bin := [hC w st]) Z Z Z Z (im (w := w) (st := st) h1 h2 h0 hst) Z Z Z Z Z Z (B0 := 183000) Z Z (ao ?_)
 refine jf [182,110,108,9,83,8,6,0,1,2] Z (jl O Z (ao ?_))
 refine jo O Z (ao ?_)
 refine aP (AOps.to (Ent.freeze 21 (e' := [(21, _), (0, _), (1, _), (6, _)]) Z (.cons Z (.c (.box (cs := Tm.cells (bg st)) Z (aq Z))) (fe [0,1,6] Z)) (.cons Z (.box (fk Z)) (.skip (.cons Z (.box (fk Z)) (.cons Z .row (.cons Z .row (.cons Z (.box (fk Z)) .nil))))))) ?_)
 refine js O Z (ay O [500,501,502,6] (bin := [fJ (pA a) frm g 1 2, bI g.paths, bJ g.conds, hC w (cJ st)]) Z Z Z Z (sI (p := (pA a)) (frm := frm) (g := g) (w := w) (st := cJ st) (t := bg st) h1 h2 (iE hso) hg) Z Z Z Z Z Z (B0 := 185000) Z Z (ao ?_))
 refine jf [21,0,1,6] Z (jn (af (ac (j3 O Z Z Z (jf [187,21,0,1,6] Z (jn (ab O Z Z (fun hc187 => ?_) (fun hc187 => ?_))))))))
 refine ac (j3 O Z Z Z (jf [190,21,0,1,6] Z (jo O Z (ao ?_))))
 refine jr ?_
 refine ⟨.inl Z, _, (ag 501 505 Z Z).trans (ag 185006 506 Z Z), _, Z, Z, Z⟩
 exact absurd (bn hc187) (by omega)
 exact absurd (bn hc180) (by omega)
theorem jq {ts : List Tm} {n : Int} (h : cf ts n = true) : TsOk ts := fun t ht => by
 simp only [cf, bF, List.all_eq_true] at h
 have := h.1 t ht
 simp only [Tm.term, bF, decide_eq_true_eq] at this
 exact ⟨this.1, by omega⟩
theorem CW.ctx {m : Nat} {w : Pw} {st : List Tm} (h : CW m w st) : CtxOk w.vars := ⟨h.vok, by have := h.vars; omega⟩
theorem lr {g : Gs} {b : Bool} (h : (g.flag b).bad = false) : g.bad = false ∧ b = false := by
 simpa only [Gs.flag, Bool.or_eq_false_iff] using h
theorem y6 {x : In} (h : x.op = 11) : mv x = (0, 0) := by unfold mv; simp [h]
theorem uN {x : In} {w : Pw} {st : List Tm} {g : Gs} (h : cR x st = true) : dj x w st g = ⟨w, st, g.flag true⟩ := if_pos h
theorem za {x : In} {w : Pw} {st : List Tm} {g : Gs} (h : cR x st = false) (ho : x.op = 5) : dj x w st g = ⟨w, st, g⟩ := by
 unfold dj
 rw [if_neg (c := cR x st = true) (by rw [h]; decide)]
 simp [ho]
theorem y9 {x : In} {w : Pw} {st : List Tm} {g : Gs} (h : cR x st = false) (ho : x.op = 7) (hy : w.sym = 10) : dj x w st g = ⟨w, cJ st, (aY cu w (bg st) g).flag true⟩ := by
 unfold dj
 rw [if_neg (c := cR x st = true) (by rw [h]; decide), if_neg (by omega), if_neg (by omega), if_neg (by omega), if_neg (by omega), if_neg (by omega), if_pos ho, if_pos hy]
theorem nY {L : Nat} (h1 : 4096 ≤ L) (h2 : L ≤ 1073741824) (hL : 100000 ≤ L) {a : An} (hv : VA' a) (hcl : dF a = true) {frm : Int} : ∀ {n : Nat} {at_ : Int} {b : Bool} {w : Pw} {st : List Tm} {g : Gs}, n ≤ 100 → FuOk a n at_ b → (g.bad = false → CW n w st) → (g.bad = false → GC n g) →
  MC Tryz.prog L 82 [.c (.pt 0 0 0), eI at_, qq w st, eB b] (gC (pA a) frm g) (bb (.tup []) (fP (pA a) frm (dL eZ a frm n at_ b w st g)))
 | 0, at_, b, w, st, g, _, hf, _, _ => absurd hf.1 (by decide)
 | n + 1, at_, b, w, st, g, hn, hf, hw, hg => by
  cases hb : g.bad with
  | true => rw [cb hb]; exact rS h1 h2 hv hb
  | false =>
  have hw := hw hb
  have hg := hg hb
  have hgl := hg.lt
  have hgp := hg.paths
  have hwl := hw.len
  cases hi : dk a.code.length at_ with
  | false => rw [jj hb hi]; exact rQ h1 h2 hv hb hi
  | true =>
  have hin := uS.1 hi
  obtain ⟨k, rfl⟩ : ∃ k : Nat, at_ = (k : Int) := ⟨at_.toNat, by omega⟩
  cases hp : (!b && decide (0 ≤ dC a.pts (k : Int))) with
  | true =>
   rw [j0 hb hi hp]
   simp only [bF, Bool.not_eq_true', decide_eq_true_eq] at hp
   obtain ⟨rfl, hp⟩ := hp
   have hml := na hp
   obtain ⟨m, hm⟩ : ∃ m : Nat, dC a.pts (k : Int) = (m : Int) := ⟨(dC a.pts (k : Int)).toNat, by omega⟩
   rw [hm, Int.toNat_natCast] at hml
   have hfs : oV a (k : Int) = (a.pts.getD m default).fs := by unfold oV; rw [hm, Int.toNat_natCast]
   have hvt := hv.pt hml
   have hl6 := cP (n := 6) hvt.1
   rw [show eZ.pend frm w st (dC a.pts (k : Int)) (oV a (k : Int)) g = cj frm w (m : Nat) (a.pts.getD m default).fs (g.flag (decide (0 < st.length))) by rw [hm, hfs]; rfl]
   exact tZ h1 h2 hv hb hi hm hml (jq hvt.1) (by omega) (by omega) (by omega) hw.ctx hw.vars
  | false =>
  obtain ⟨x, hx⟩ : ∃ x, a.code.getD k default = x := ⟨_, rfl⟩
  have hxk : a.code.getD ((k : Int)).toNat default = x := by rw [Int.toNat_natCast]; exact hx
  have hxi : aV x = true := by rw [← hx, ar (by omega)]; exact hv.ok.code _ (List.getElem_mem (by omega))
  cases hlo : cR x st with
  | true =>
   have key : dL eZ a frm (n + 1) (k : Int) b w st g = g.flag true := by
    by_cases h6 : x.op = 6
    have hz : st.length = 0 := by
     rw [Go.Al.low_1 (x8 (.inr (.inr (.inl h6)))) hwl] at hlo
     exact aR hlo
    exact jk hb hi hp (by rw [hxk]; exact h6) hz
    by_cases h11 : x.op = 11
    rw [s6 (y6 h11) hwl] at hlo; cases hlo
    rw [ft hb hi hp (by rw [hxk]; exact h11) (by rw [hxk]; exact h6), hxk]
    show dL eZ a frm n _ false (dj x w st g).w (dj x w st g).st (dj x w st g).g = _
    rw [uN hlo]; exact cb cp
   rw [key]
   exact rR h1 h2 hv hb hi hx hp (by omega) hlo
  | false =>
  by_cases h11 : x.op = 11
  rw [gA hb hi hp (by rw [hxk]; exact h11)]
  have := hv.ok.npost
  exact qa h1 h2 hv hb hi hx hp (by omega) hlo hw.ctx hw.vars h11 (jq hv.post) (by omega) (by omega)
  by_cases h6 : x.op = 6
  have hs := oX hlo (.inr (.inr (.inl h6)))
  rw [gz hb hi hp (by rw [hxk]; exact h6) (by omega), hxk]
  have htg := qN hi (by rw [hxk]; exact h6)
  rw [hxk] at htg
  have k1 : ∀ {b1 b2 : Bool}, ((g.flag b1).flag b2).bad = false → b2 = false := fun h => (lr h).2
  have q1 : GC n ((g.flag (!(bK (bg st)).2)).flag (w.fact (bg st)).long) := hg.more hn Z (fun _ => hb) (Nat.le_add_right _ _)
  have ih1 := nY h1 h2 hL hv hcl (frm := frm) (n := n) (at_ := (k : Int) + 1) (b := false) (w := w.fact (bg st)) (st := cJ st) (g := (g.flag (!(bK (bg st)).2)).flag (w.fact (bg st)).long) (by omega) (hf.step hcl hi hp htg.1) (fun h => hw.test (k1 h)) (fun _ => q1)
  have q2 := iJ vm hv (frm := frm) (n := n) (at_ := (k : Int) + 1) (b := false) (w := w.fact (bg st)) (st := cJ st) (by omega) q1
  obtain ⟨g3, e3⟩ : ∃ g3, g3 = dL eZ a frm n ((k : Int) + 1) false (w.fact (bg st)) (cJ st) ((g.flag (!(bK (bg st)).2)).flag (w.fact (bg st)).long) := ⟨_, rfl⟩
  have hlg : (w.fact (bK (bg st)).1).long = (w.fact (bg st)).long := i9
  have e4 : g3.flag (w.fact (bK (bg st)).1).long = g3 := by
   rw [hlg]
   cases hq : (w.fact (bg st)).long with
   | false => exact eW
   | true =>
    rw [hq] at e3
    refine lE ?_
    rw [e3, cb cp]; exact cp
  show MC _ _ _ _ _ (bb _ (fP (pA a) frm (dL eZ a frm n x.a false (w.fact (bK (bg st)).1) (cJ st) (dL eZ a frm n ((k : Int) + 1) false (w.fact (bg st)) (cJ st) ((g.flag (!(bK (bg st)).2)).flag (w.fact (bg st)).long)))))
  rw [← e3] at ih1 q2 ⊢
  have ih2 := nY h1 h2 hL hv hcl (frm := frm) (n := n) (at_ := x.a) (b := false) (w := w.fact (bK (bg st)).1) (st := cJ st) (g := g3.flag (w.fact (bK (bg st)).1).long) (by omega) (hf.step hcl hi hp htg.2) (fun h => hw.test (lr h).2) (fun h => q2.any (lr h).1 |>.flag)
  rw [e4] at ih2
  refine pZ h1 h2 hv hb hi hx hp (by omega) hlo h6 hw.sok (by have := hw.facts; omega) ih1 ?_
  rw [e4]; exact ih2
  rw [ft hb hi hp (by rw [hxk]; exact h11) (by rw [hxk]; exact h6), hxk]
  have htg := s3 hi (by rw [hxk]; exact h11) (by rw [hxk]; exact h6)
  rw [hxk] at htg
  show MC _ _ _ _ _ (bb _ (fP (pA a) frm (dL eZ a frm n (jJ x (k : Int)) false (dj x w st g).w (dj x w st g).st (dj x w st g).g)))
  have le := s7 (x := x) (w := w) (g := g) hw.sok hw.len h6
  have ih := nY h1 h2 hL hv hcl (frm := frm) (n := n) (at_ := jJ x (k : Int)) (b := false) (w := (dj x w st g).w) (st := (dj x w st g).st) (g := (dj x w st g).g) (by omega) (hf.step hcl hi hp htg)
   (fun h => by
    have hq : (cg x w st g).g.bad = false := by rw [le.g.bad]; exact h
    rw [← (le.w hq).1, ← (le.w hq).2]; exact hw.leaf hxi hq)
   (fun _ => hg.more hn y8.1 y8.2.1 y8.2.2)
  by_cases h5 : x.op = 5
  rw [show jJ x (k : Int) = x.a from if_pos h5, za hlo h5] at ih ⊢
  exact p9 h1 h2 hv hb hi hx hp (by omega) hlo h5 ih
  rw [show jJ x (k : Int) = (k : Int) + 1 from if_neg h5] at ih ⊢
  by_cases h7 : x.op = 7 ∧ w.sym = 10
  rw [y9 hlo h7.1 h7.2, cb cp]
  exact qb h1 h2 hv hb hi hx hp (by omega) hlo h7.1 h7.2 hw.sok (by omega)
  have := hw.sym
  exact p8 h1 h2 hv hb hi hx hp (by omega) hlo hxi ⟨h5, h6, h11⟩ (fun e => by omega) hw.sok hw.vars (by have := hw.facts; omega) (by have := hw.ev; omega) hw.sym (by omega) ih
abbrev dc (ps : List Pth) : D := .slc 5 (ps.map Pth.cells)
abbrev me (ss : List Sq) : D := .slc 3 (ss.map Sq.cells)
theorem i6 {i : Nat} : (oQ i).length = i := by simp [oQ]
theorem n5 {i : Nat} : oQ (i + 1) = oQ i ++ [ik i] := by simp [oQ, List.range_succ]
theorem vZ : MQ h1 h2 80 [] [] (Plain (cD (oQ 4))) := by
 refine MC.data (jB 22 h1 h2 Tryz.func80 Z Z Z fun O hF => ?_)
 refine ac (js O Z (aP (AOps.heap (aZ O Z Z Z) Z (ao ?_))))
 refine js O Z (jn (af (ac (js O Z (jn (am (ap (X := Nat) (fun i => ⟨[(1, .c (.rs 900 0 i)), (2, eI i)], [(900, au (oQ i))]⟩) (fun i => i ≤ 4) (fun i => 4 - i) 0 ((ct 4 Z).trans ((ag 4 900 Z Z).trans (Ent.to ⟨Z, Z, trivial⟩ Z))) ?_ (fun i hi => ?_))))))))
 exact cm _
 refine af (ac (j2 O Z Z (jn (ab O Z Z (fun hc6 => ?_) (fun hc6 => ?_)))))
 refine ah (af (am (ac (js O Z (ji O Z (jf [10,6,5,1,2] Z (AOps.heap (cd O Z Z Z Z Z Z Z Z Z (by first | omega | (simp at *; omega)) (by first | omega | (simp at *; omega)) (by first | omega | (simp at *; omega)) (by first | omega | (dsimp only; omega) | (simp only [aN] at *; omega)) (by first | omega | (simp at *; omega)) Z Z Z) Z (ao ?_))))))))
 refine js O Z (jf [12,6,5,1,2] Z (jl O Z (ao ?_)))
 refine jo O Z (ao ?_)
 refine aP (j3 O Z Z Z (aU O Z Z (jf [16,3,12,6,5,1,2] Z (AOps.heap (bd (ex := [.int .i64 0]) (xs' := ((List.replicate i 0 ++ [1] : List Int)).map (fun n => [D.int .i64 n])) O Z Z Z Z Z Z Z Z Z Z Z Z Z Z kO kN) Z (ao ?_)))))
 refine jn (aj (AOps.to (Ent.freeze 11 (e' := [(1, _), (2, _), (3, _)]) Z (fe [1,2,3] Z) (.cons Z (.box (.cons (.keep Z) (.cons (.row Z (by simp)) .nil))) (.skip (.cons Z .row .nil)))) ?_))
 refine j2 O Z Z (AOps.heap (cH O Z Z Z Z Z Z Z Z Z Z Z) Z (ao ?_))
 refine jf [19,17,1,2,3] Z ?_
 have hvl := i6 (i := i)
 refine AOps.heap (bH (own := false) (xs := (oQ i).map Tm.cells) (ys := [Tm.cells (ik i)]) (zs := (oQ (i + 1)).map Tm.cells) (n := i + 1) O Z Z Z Z Z Z Z Z Z Z Z Z Z Z Z Z (.row Z (by simp; omega)) (.whole Z Z (.inr ⟨Z, Z⟩)) (by simp) Z (by simp; omega) (by simp; omega) (by rw [n5, List.map_append]; rfl) (by simp [i6])) Z (ao ?_)
 refine ao ?_
 refine js O Z (jf [1,2,3] Z (jn (aj (js O Z (ji O Z (js O Z (jf [2,1,3] Z (jn ?_))))))))
 refine ⟨i + 1, ((aw [20] (e' := [(1, _), (2, _)]) Z Z ⟨Z, Z, trivial⟩ Z).trans (ag 20 900 Z Z)).trans (Ent.to ⟨Z, Z, trivial⟩ Z), by have := aR hc6; omega, by have := aR hc6; omega⟩
 refine aQ (ac (j2 O Z Z (jr ?_)))
 refine ⟨.inl Z, _, ak, _, Z, ?_⟩
 obtain rfl : i = 4 := by have := bn hc6; omega
 exact .v (.c (.whole Z (by simp [i6])))
theorem xa (hv : VA' a) (hcl : dF a = true) (hL : 100000 ≤ L) : MQ h1 h2 44 [ptr a.data, eI (-1)] [] (bb (.c (.pt 0 0 0)) (fP (pA a) (-1) (fK eZ a 0 g0))) := by
 refine aJ 500 Z (MC.keep [500,505,506] (bs := [fJ (pA a) (-1) (fK eZ a 0 g0) 505 506, bI (fK eZ a 0 g0).paths, bJ (fK eZ a 0 g0).conds]) Z Z (jB 50 h1 h2 Tryz.func44 Z Z Z fun O hF => ?_))
 refine ac (js O Z (aP (j2 O Z Z (AOps.heap (aZ O Z Z Z) Z (ao ?_)))))
 refine AOps.to (ct 11 Z) (ao ?_)
 refine ao ?_
 refine AOps.heap (aZ O Z Z Z) Z (ao ?_)
 refine AOps.to (ct 12 Z) (ao ?_)
 refine ao ?_
 refine js O Z (jf [13,4,0,1] Z (jx O Z (ao ?_)))
 refine js O Z (jf [5,4,0,1] Z (aP (j4 O Z Z Z Z (js O Z (jf [6,5,4,0,1] Z (aP (js O Z (jn (af (ac (j2 O Z Z (jn (ab O Z Z (fun hc20 => ?_) (fun hc20 => ?_))))))))))))))
 exact absurd (aR hc20) (by decide)
 refine ah (ac (ax O Z Z Z Z (vZ h1 h2) (aa Z) Z Z Z Z (B0 := 38000) Z Z (jf [37,19,7,6,5,4,0,1] Z (AOps.heap (aZ O Z Z Z) Z (ao ?_)))))
 refine AOps.to (Ent.freeze 38 (e' := [(0, _), (1, _), (5, _), (6, _), (7, _), (37, _), (38, _)]) Z (.cons Z (.keep Z) (.cons Z (.keep Z) (.cons Z (.keep Z) (.cons Z (.keep Z) (.cons Z (.keep Z) (.cons Z (.keep Z) (.cons Z (.c (.row Z Z)) .nil))))))) (.cons Z .row (.cons Z .row (.cons Z (.box (fk Z)) (.skip .nil))))) ?_
 refine ao ?_
 refine js O Z (jf [39,38,0,1,5,7,37] Z (ax O Z Z Z Z (ud (ts := a.pre) h1 h2) (aa Z) Z Z Z Z (B0 := 41000) Z Z (jf [40,38,0,1,5,7,37] Z (AOps.heap (aZ O Z Z Z) Z (ao ?_)))))
 refine AOps.to (Ent.freeze 41 (e' := [(0, _), (1, _), (5, _), (7, _), (37, _), (38, _), (40, _), (41, _)]) Z (.cons Z (.keep Z) (.cons Z (.keep Z) (.cons Z (.keep Z) (.cons Z (.keep Z) (.cons Z (.keep Z) (.cons Z (.keep Z) (.cons Z (.keep Z) (.cons Z (.c (.row Z Z)) .nil)))))))) (.cons Z .row (.cons Z .row (.cons Z (.box (fk Z)) (.skip .nil))))) ?_
 refine ao ?_
 refine js O Z (jf [42,0,1,5,7] Z (jl O Z (ao ?_)))
 refine jo O Z (ao ?_)
 refine aP (j4 O Z Z Z Z (AOps.step ((V O Z).cast (v' := eB false) (congrArg eB (by decide))) Z Z Z (jf [47,45,44,43,8,42,0,1,5] Z (ay O [14,11,12] (bin := [fJ (pA a) (-1) g0 1 2, bI g0.paths, bJ g0.conds]) Z Z Z Z (nY h1 h2 hL hv hcl (frm := (-1)) (n := 100) (at_ := 0) (b := false) (w := w0 a.pre) (st := []) (g := g0) (bw _) (FuOk.start hv) (fun _ => ki hv.ok.npre) (fun _ => vv.start Z)) Z Z Z Z Z Z (B0 := 49000) Z Z (ao ?_)))))
 refine jf [8,42,0,1,5] Z (aP (j2 O Z Z (jr ?_)))
 refine ⟨.inl Z, _, ((ag 14 500 Z Z).trans (ag 49005 505 Z Z)).trans (ag 49006 506 Z Z), _, Z, Z, Z⟩
theorem w9 (hv : VA' a) (hcl : dF a = true) (hL : 100000 ≤ L) {n : Nat} (hn : n < a.pts.length) : MQ h1 h2 44 [ptr a.data, eI (n : Nat)] [] (bb (.c (.pt 0 0 0)) (fP (pA a) (n : Nat) (fK eZ a (n + 1) g0))) := by
 refine aJ 500 Z (MC.keep [500,505,506] (bs := [fJ (pA a) (n : Nat) (fK eZ a (n + 1) g0) 505 506, bI (fK eZ a (n + 1) g0).paths, bJ (fK eZ a (n + 1) g0).conds]) Z Z (jB 50 h1 h2 Tryz.func44 Z Z Z fun O hF => ?_))
 refine ac (js O Z (aP (j2 O Z Z (AOps.heap (aZ O Z Z Z) Z (ao ?_)))))
 refine AOps.to (ct 11 Z) (ao ?_)
 refine ao ?_
 refine AOps.heap (aZ O Z Z Z) Z (ao ?_)
 refine AOps.to (ct 12 Z) (ao ?_)
 refine ao ?_
 refine js O Z (jf [13,4,0,1] Z (jx O Z (ao ?_)))
 refine js O Z (jf [5,4,0,1] Z (aP (j4 O Z Z Z Z (js O Z (jf [6,5,4,0,1] Z (aP (js O Z (jn (af (ac (j2 O Z Z (jn (ab O Z Z (fun hc20 => ?_) (fun hc20 => ?_))))))))))))))
 refine ac (j4 O Z Z Z Z (js O Z (AOps.step (aL O Z Z Z Z Z Z Z Z (cB hn)) Z Z Z (j3 O Z Z Z (jf [6,19,7,5,4,0,1] Z (jn (aj (j4 O Z Z Z Z (js O Z (AOps.step (aL O Z Z Z Z Z Z Z Z (cB hn)) Z Z Z (j3 O Z Z Z (jf [7,6,19,5,4,0,1] Z (aP (ax O Z Z Z Z (vZ h1 h2) (aa Z) Z Z Z Z (B0 := 38000) Z Z (AOps.heap (aZ O Z Z Z) Z (ao ?_))))))))))))))))
 refine AOps.to (Ent.freeze 38 (e' := [(0, _), (1, _), (5, _), (6, _), (7, _), (37, _), (38, _)]) Z (.cons Z (.keep Z) (.cons Z (.keep Z) (.cons Z (.keep Z) (.cons Z (.keep Z) (.cons Z (.keep Z) (.cons Z (.keep Z) (.cons Z (.c (.row Z Z)) .nil))))))) (.cons Z .row (.cons Z .row (.cons Z (.box (fk Z)) (.skip .nil))))) ?_
 refine ao ?_
 refine js O Z (jf [39,38,0,1,5,7,37] Z (ax O Z Z Z Z (ud (ts := (a.pts.getD n default).fs) h1 h2) (aa Z) Z Z Z Z (B0 := 41000) Z Z (jf [40,38,0,1,5,7,37] Z (AOps.heap (aZ O Z Z Z) Z (ao ?_)))))
 refine AOps.to (Ent.freeze 41 (e' := [(0, _), (1, _), (5, _), (7, _), (37, _), (38, _), (40, _), (41, _)]) Z (.cons Z (.keep Z) (.cons Z (.keep Z) (.cons Z (.keep Z) (.cons Z (.keep Z) (.cons Z (.keep Z) (.cons Z (.keep Z) (.cons Z (.keep Z) (.cons Z (.c (.row Z Z)) .nil)))))))) (.cons Z .row (.cons Z .row (.cons Z (.box (fk Z)) (.skip .nil))))) ?_
 refine ao ?_
 refine js O Z (jf [42,0,1,5,7] Z (jl O Z (ao ?_)))
 refine jo O Z (ao ?_)
 refine aP (j4 O Z Z Z Z (AOps.step ((V O Z).cast (v' := eB true) (congrArg eB (decide_eq_true (by omega)))) Z Z Z (jf [47,45,44,43,8,42,0,1,5] Z (ay O [14,11,12] (bin := [fJ (pA a) (n : Nat) g0 1 2, bI g0.paths, bJ g0.conds]) Z Z Z Z (nY h1 h2 hL hv hcl (frm := (n : Nat)) (n := 100) (at_ := (a.pts.getD n default).k) (b := true) (w := w0 (a.pts.getD n default).fs) (st := []) (g := g0) (bw _) (FuOk.start hv) (fun _ => ki (cP (n := 6) (hv.pt hn).1)) (fun _ => vv.start Z)) Z Z Z Z Z Z (B0 := 49000) Z Z (ao ?_)))))
 refine jf [8,42,0,1,5] Z (aP (j2 O Z Z (jr ?_)))
 refine ⟨.inl Z, _, ((ag 14 500 Z Z).trans (ag 49005 505 Z Z)).trans (ag 49006 506 Z Z), _, Z, Z, Z⟩
 exact absurd (bn hc20) (by omega)
theorem zE {L : Nat} (h1 : 4096 ≤ L) (h2 : L ≤ 1073741824) {a : An} (hv : VA' a) (hcl : dF a = true) (hL : 100000 ≤ L) {n : Nat} (hn : n ≤ a.pts.length) : MC Tryz.prog L 44 [ptr a.data, eI ((n : Int) - 1)] [] (bb (.c (.pt 0 0 0)) (fP (pA a) ((n : Int) - 1) (fK eZ a n g0))) := by
 cases n with
 | zero => exact xa h1 h2 hv hcl hL
 | succ n =>
  rw [show (((n + 1 : Nat)) : Int) - 1 = (n : Nat) by omega]
  exact w9 h1 h2 hv hcl hL (by omega)
theorem rd {a : An} (hv : VA' a) (m : Nat) : (fK eZ a m g0).paths.length ≤ 201 ∧ (fK eZ a m g0).conds.length ≤ 42420 := by
 have h := tc vm hv (n := m) vv
 exact ⟨h.paths, h.lt⟩
theorem vB {a : An} (hv : VA' a) : ∀ n, (ew a n).conds.length ≤ n * 42420
 | 0 => by rw [Nat.zero_mul]; exact bw 0
 | n + 1 => by
  have ih := vB hv n
  have k := (rd hv n).2
  rw [ew]; split
  exact Nat.le_trans ih (Nat.mul_le_mul_right _ (Nat.le_succ n))
  simp only [c9]; rw [Nat.add_mul, Nat.one_mul]; exact Nat.add_le_add ih k
theorem zg {a : An} : ∀ n, (ew a n).bad = false → (ew a n).paths.length ≤ 200
 | 0 => fun _ => cm _
 | n + 1 => by
  rw [ew]; split
  rename_i h; intro h2; rw [h] at h2; cases h2
  intro h2
  simp only [Bool.or_eq_false_iff, decide_eq_false_iff_not] at h2
  exact Nat.le_of_not_lt h2.2
theorem wT {a : An} (hv : VA' a) (n : Nat) : (ew a n).conds.length ≤ n * 42420 ∧ ((ew a n).bad = false → (ew a n).paths.length ≤ 200) ∧ (fK eZ a n g0).paths.length ≤ 201 ∧ (fK eZ a n g0).conds.length ≤ 42420 := ⟨vB hv n, zg n, rd hv n⟩
theorem lK {a : An} {m : Nat} (h : (ew a m).bad = true) : ∀ {n}, m ≤ n → ew a n = ew a m
 | 0, hn => by
  obtain rfl : m = 0 := Nat.le_zero.1 hn
  rfl
 | n + 1, hn => by
  by_cases e : m = n + 1
  rw [e]
  have := lK h (n := n) (by omega)
  rw [ew, this, if_pos h]
abbrev uc (a : An) : Gs := ew a (a.pts.length + 1)
theorem w1 (hv : VA' a) (hcl : dF a = true) (hL : 1000000 ≤ L) : MQ h1 h2 61 [ptr a.data] [] (Plain (.tup [.c (.d (dc (if (uc a).bad then [] else (uc a).paths))), .c (.d (me (if (uc a).bad then [] else (uc a).conds))), eB (!(uc a).bad)])) := by
 refine MC.data (jB 49 h1 h2 Tryz.func61 Z Z Z fun O hF => ?_)
 have h8 : a.pts.length ≤ 8 := hv.ok.np
 refine ac (j3 O Z Z Z (jn (af (ac (js O Z (ae O Z Z Z Z ((vR (a := a) h1 h2 hv).plain (u := eB true) (by rw [hcl])) (aa Z) Z Z Z Z Z (B0 := 11000) Z (js O Z (jf [11,4,3,2,0] Z (jn (ab O Z Z (fun hc11 => ?_) (fun hc11 => ?_)))))))))))
 cases hc11
 refine ah (ac (AOps.heap (aZ O Z Z Z) Z (ao ?_)))
 refine js O Z (jf [5,4,3,2,0] Z (aP (AOps.heap (aZ O Z Z Z) Z (ao ?_))))
 refine js O Z (jn (af (ac (js O Z (jn (am (ap (X := Nat) (fun i => ⟨[(0, ptr a.data), (5, .c (.rs 905 0 (ew a i).paths.length)), (6, .c (.rs 906 0 (ew a i).conds.length)), (7, eI ((i : Int) - 1))], [(905, bI (ew a i).paths), (906, bJ (ew a i).conds)]⟩) (fun i => i ≤ (a.pts.length + 1) ∧ (ew a i).bad = false) (fun i => (a.pts.length + 1) - i) 0 (((ct 12 Z).trans (ct 13 Z)).trans (((ag 12 905 Z Z).trans (ag 13 906 Z Z)).trans (Ent.to ⟨Z, Z, Z, Z, trivial⟩ Z))) ?_ (fun i hi => ?_))))))))
 exact ⟨cm _, Z⟩
 obtain ⟨kM, jM⟩ := hi
 obtain ⟨k1, k2, k5, k6⟩ := wT hv i
 have k4 := k2 jM
 refine af (ac (j4 O Z Z Z Z (js O Z ?_)))
 first | refine bo O Z ?_ | refine js O Z ?_ | refine aU O Z Z ?_
 refine js O Z (jf [20,0,5,6,7] Z (jn (ab O Z Z (fun hc20 => ?_) (fun hc20 => ?_))))
 refine ah (af (am (ac (j2 O Z Z ?_))))
 have hin : i ≤ a.pts.length := by have := aR hc20; omega
 have hla : ((ew a i).paths ++ (fK eZ a i g0).paths).length = (ew a i).paths.length + (fK eZ a i g0).paths.length := c9
 refine ay O [] (bin := []) Z Z Z Z (zE h1 h2 hv hcl (by omega) hin) Z Z Z Z Z Z (B0 := 26000) Z Z (ao ?_)
 refine js O Z (jf [8,20,0,5,6,7] Z (aP (j4 O Z Z Z Z (js O Z (jf [30,26,8,20,0,5,6,7] Z (AOps.heap (bH (own := false) (xs := (ew a i).paths.map Pth.cells) (ys := (fK eZ a i g0).paths.map Pth.cells) (zs := ((ew a i).paths ++ (fK eZ a i g0).paths).map Pth.cells) (n := ((ew a i).paths ++ (fK eZ a i g0).paths).length) O Z Z Z Z Z Z Z Z Z Z Z Z Z Z Z Z (.row Z (bt _).symm) (.whole Z (by simp) (.inr ⟨Z, Z⟩)) (by simp) Z (by simp; omega) (by simp; omega) (by simp) (by simp)) Z (ao ?_)))))))
 refine ao ?_
 refine js O Z (jf [5,8,20,0,6,7] Z (aP (j4 O Z Z Z Z (js O Z (jf [36,32,5,8,20,0,6,7] Z (AOps.heap (bH (own := false) (xs := (ew a i).conds.map Sq.cells) (ys := (fK eZ a i g0).conds.map Sq.cells) (zs := ((ew a i).conds ++ (fK eZ a i g0).conds).map Sq.cells) (n := ((ew a i).conds ++ (fK eZ a i g0).conds).length) O Z Z Z Z Z Z Z Z Z Z Z Z Z Z Z Z (.row Z (bt _).symm) (.whole Z (by simp) (.inr ⟨Z, Z⟩)) (by simp) Z (by simp; omega) (by simp; omega) (by simp) (by simp)) Z (ao ?_)))))))
 refine ao ?_
 refine js O Z (jf [6,5,8,20,0,7] Z (aP (j4 O Z Z Z Z ?_)))
 cases hb42 : (fK eZ a i g0).bad with
 | true =>
  refine js O Z (jf [42,6,5,8,20,0,7] Z (AOps.skip Z Z Z Z Z Z (AOps.skip Z Z Z Z Z Z (jf [44,42,6,5,8,20,0,7] Z (AOps.skip Z Z Z Z Z Z (AOps.step (ba O Z Z Z Z Z) Z Z Z (jf [46,6,5,8,20,0,7] Z (jn (ab O Z Z (fun hc46 => ?_) (fun hc46 => ?_))))))))))
  refine ac (j3 O Z Z Z (jr ?_))
  refine ⟨.inl Z, _, ak, _, Z, ?_⟩
  have hbad : (ew a (i + 1)).bad = true := by rw [ew, if_neg (by rw [jM]; decide)]; simp [hb42]
  rw [show uc a = ew a (i + 1) from lK hbad (by have := aR hc20; omega), hbad, if_pos Z, if_pos Z]
  exact .tup (.cons (.c .nils) (.cons (.c .nils) (.cons (.c .d) .nil)))
  cases hc46
 | false =>
  refine js O Z (jf [42,6,5,8,20,0,7] Z (bz Z (js O Z (bz Z ?_))))
  first | refine bo O Z ?_ | refine js O Z ?_ | refine aU O Z Z ?_
  refine jf [44,42,6,5,8,20,0,7] Z (bz Z (js O Z (AOps.step (aF O Z Z Z Z Z) Z Z Z (jf [46,6,5,8,20,0,7] Z (jn (ab O Z Z (fun hc46 => ?_) (fun hc46 => ?_)))))))
  refine ac (j3 O Z Z Z (jr ?_))
  refine ⟨.inl Z, _, ak, _, Z, ?_⟩
  have hbad : (ew a (i + 1)).bad = true := by rw [ew, if_neg (by rw [jM]; decide)]; simp only [decide_eq_true (show 200 < ((ew a i).paths ++ (fK eZ a i g0).paths).length by have := aR hc46; omega), Bool.or_true]
  rw [show uc a = ew a (i + 1) from lK hbad (by have := aR hc20; omega), hbad, if_pos Z, if_pos Z]
  exact .tup (.cons (.c .nils) (.cons (.c .nils) (.cons (.c .d) .nil)))
  refine ah (aj (js O Z ?_))
  first | refine ji O Z ?_ | refine aU O Z Z ?_
  refine js O Z (jf [7,46,6,5,8,20,0] Z (jn ?_))
  refine ⟨i + 1, (((aw [31,37] (e' := [(0, _), (5, _), (6, _), (7, _)]) Z Z ⟨Z, Z, Z, Z, trivial⟩ Z).trans (ag 31 905 Z Z)).trans (ag 37 906 Z Z)).trans (Ent.to ⟨Z, by rw [ew, if_neg (by rw [jM]; decide)]; rfl, by rw [ew, if_neg (by rw [jM]; decide)]; rfl, by rw [show (((i + 1 : Nat)) : Int) - 1 = ((i : Int) - 1) + 1 by omega]; rfl, trivial⟩ (by rw [ew, if_neg (by rw [jM]; decide)]; rfl)), ⟨by omega, ?_⟩, by omega⟩
  rw [ew, if_neg (by rw [jM]; decide)]
  simp only [hb42, decide_eq_false (show ¬ 200 < ((ew a i).paths ++ (fK eZ a i g0).paths).length by have := bn hc46; omega)]; rfl
 refine aQ (ac (j4 O Z Z Z Z (js O Z (jf [4,3,2,20,0,5,6,7] Z (jr ?_)))))
 refine ⟨.inl Z, _, ak, _, Z, ?_⟩
 obtain rfl : i = (a.pts.length + 1) := by have := bn hc20; omega
 rw [show uc a = ew a (a.pts.length + 1) from Z, jM, if_neg (by decide), if_neg (by decide)]
 exact .tup (.cons (.c (.whole Z (bt _).symm)) (.cons (.c (.whole Z (bt _).symm)) (.cons (.c .d) .nil)))
theorem w3 (hv : VA' a) (hcl : dF a = false) : MQ h1 h2 61 [ptr a.data] [] (Plain (.tup [.c (.d (dc [])), .c (.d (me [])), eB false])) := by
 refine MC.data (jB 49 h1 h2 Tryz.func61 Z Z Z fun O hF => ?_)
 refine ac (j3 O Z Z Z (jn (af (ac (js O Z (ae O Z Z Z Z ((vR (a := a) h1 h2 hv).plain (u := eB false) (by rw [hcl])) (aa Z) Z Z Z Z Z (B0 := 11000) Z (js O Z (jf [11,4,3,2,0] Z (jn (ab O Z Z (fun hc11 => ?_) (fun hc11 => ?_)))))))))))
 refine ac (j3 O Z Z Z (jr ?_))
 refine ⟨.inl Z, _, ak, _, Z, ?_⟩
 exact .tup (.cons (.c .nils) (.cons (.c .nils) (.cons (.c .d) .nil)))
 cases hc11
end Go.Al
