/- Contracts of the program's functions for wx; the types of the arguments. -/
import Derived.Test.YtbkloknmpkgmbaaE
import Derived.Test.YtbkloknmpkgmbaaC
import Derived.Test.YtbkloknmpkgmbaaRows
set_option linter.unusedVariables false
set_option linter.unusedSimpArgs false
set_option maxRecDepth 10000
set_option maxHeartbeats 4000000
open Go.Proofs
namespace Go.Al
variable {L : Nat} (h1 : 4096 ≤ L) (h2 : L ≤ 1073741824)
theorem rZ {c : Int} {xs : List Int} (h : (fQ c xs).2 = true) : (fQ c xs).1.ok = true := by
 unfold fQ at h ⊢
 split at h
 rename_i h1; rw [if_pos h1]; exact h1
 cases h
theorem kD {t : Tm} (h : (aT t).2 = true) : (aT t).1.ok = true := rZ h
theorem fG {t : Tm} (h : (aM t).2 = true) : (aM t).1.ok = true := by
 unfold aM at h ⊢
 split at h
 cases h
 rename_i h1; rw [if_neg h1]; exact rZ h
theorem pT {t : Tm} (h : t.zero = true) : t.ok = true := by
 simp only [Tm.zero, aX, decide_eq_true_eq] at h
 have h3 : t.xs = [] := List.eq_nil_of_length_eq_zero (by omega)
 simp [Tm.ok, num, h.1, h3]
theorem gA {p : List Nd} (h : no p = true) : 1 ≤ p.length ∧ p.length ≤ 60 ∧ (∀ n ∈ p, di n = true) ∧ endP p 0 = p.length := by
 simp only [no, aX, decide_eq_true_eq, List.all_eq_true] at h
 exact ⟨by omega, by omega, h.2.1, h.2.2⟩
theorem tL {p : List Nd} (h : no p = true) {i : Nat} (hi : i < p.length) : di (p.getD i default) = true := by
 rw [ar hi]; exact (gA h).2.2.1 _ (List.getElem_mem hi)
theorem i2 {n : Nd} (h : di n = true) : n.term.ok = true := by
 unfold di at h
 split at h
 simp only [aX] at h; exact pT h.1.2
 split at h
 simp only [aX] at h; exact h.1.2
 split at h
 simp only [aX] at h; exact pT h.1.2
 cases h
theorem ld {n : Nd} (h : di n = true) : 0 ≤ n.fact := by
 unfold di at h
 split at h
 simp only [aX, decide_eq_true_eq] at h; omega
 split at h
 simp only [aX, decide_eq_true_eq] at h; omega
 split at h
 simp only [aX, pG, decide_eq_true_eq] at h; omega
 cases h
theorem tK {n : Nd} (h : di n = true) : n.mul.all co = true := by
 unfold di at h
 split at h
 simp only [aX, oz] at h; exact h.2.1
 split at h
 simp only [aX, decide_eq_true_eq] at h
 rw [List.eq_nil_of_length_eq_zero (by omega : n.mul.length = 0)]; rfl
 split at h
 simp only [aX, decide_eq_true_eq] at h
 rw [List.eq_nil_of_length_eq_zero (by omega : n.mul.length = 0)]; rfl
 cases h
theorem lc {n : Nd} (h : di n = true) : n.kind = 1 ∨ n.kind = 2 ∨ n.kind = 3 := by
 unfold di at h
 split at h
 exact .inl ‹_›
 split at h
 exact .inr (.inl ‹_›)
 split at h
 exact .inr (.inr ‹_›)
 cases h
theorem pg {p : List Nd} {k : Nat} (hk : k < p.length) (h : (p.getD k default).kind = 1) : endP p k = k + 1 := by
 have h1 := gC (l := p) (n := 1) (by decide) hk
 rw [h, show dl 1 = -1 from Z, show (1 : Int) + -1 = 0 from Z, n6 (Int.le_refl 0)] at h1
 unfold endP; rw [h1]; rfl
theorem oE {p : List Nd} (h : no p = true) {k : Nat} (h0 : 0 < k) (hk : k < p.length) : ∃ a : Nat, (lR p k k).1 = (a : Int) ∧ a < k := by
 obtain ⟨_, _, _, hend⟩ := gA h
 have key : ∀ i, 0 < i → ∃ a : Nat, (lR p k i).1 = (a : Int) ∧ a < i := by
  intro i hi
  induction i with
  | zero => omega
  | succ i ih =>
   unfold lR
   split
   rename_i hc
   by_cases h1 : 0 < i
   obtain ⟨a, h2, h3⟩ := ih h1
   exact ⟨a, h2, by omega⟩
   obtain rfl : i = 0 := by omega
   rcases hc with hc | hc
   have := pg (by omega) hc
   omega
   omega
   exact ⟨i, Z, by omega⟩
 exact key k h0
structure CS where
  all : List (List Tm)
  has : List Bool
  right : List Bool
  flaw : Int
def iR (p : List Nd) (k : Nat) (z : CS) : Bool := if k = 0 then true else z.right.getD (lR p k k).1.toNat default
def qw (p : List Nd) (c0 : List Tm) (k : Nat) (z : CS) : List Tm := if k = 0 then c0 else if iR p k z = true then gt (p.getD (lR p k k).1.toNat default) (z.all.getD (lR p k k).1.toNat default) (lR p k k).2 else []
def jA (p : List Nd) (c0 : List Tm) (k : Nat) (z : CS) : Bool := iR p k z && fj (p.getD k default) (qw p c0 k z)
def gq (p : List Nd) (c0 : List Tm) (k : Nat) (z : CS) : CS := ⟨z.all ++ [qw p c0 k z], z.has ++ [iR p k z], z.right ++ [jA p c0 k z], if (iR p k z && !jA p c0 k z) && decide (z.flaw < 0) then (k : Int) else z.flaw⟩
def bk (p : List Nd) (c0 : List Tm) : Nat → CS
  | 0 => ⟨[], [], [], -1⟩
  | k + 1 => gq p c0 k (bk p c0 k)
structure CSok (p : List Nd) (k : Nat) (z : CS) : Prop where
  all : z.all.length = k
  has : z.has.length = k
  right : z.right.length = k
  flaw : -1 ≤ z.flaw ∧ z.flaw < k
  ctx : ∀ j, j < k → z.has.getD j default = true → CtxOk (z.all.getD j default)
  good : ∀ j, j < k → z.right.getD j default = true → z.has.getD j default = true ∧ fj (p.getD j default) (z.all.getD j default) = true
theorem cR {α : Type} [Inhabited α] {l : List α} {a : α} {j : Nat} : (l ++ [a]).getD j default = if j = l.length then a else l.getD j default := by
 simp only [List.getD_eq_getElem?_getD]
 by_cases h : j < l.length
 rw [List.getElem?_append_left h, if_neg (by omega)]
 by_cases e : j = l.length
 subst e; simp
 rw [if_neg e, List.getElem?_eq_none (by simp; omega), List.getElem?_eq_none (by omega)]
theorem sP {n : Nd} {ctx : List Tm} {first : Bool} (hn : di n = true) (hc : CtxOk ctx) (hk : n.kind ≠ 1) (hr : fj n ctx = true) : CtxOk (gt n ctx first) ∧ (n.kind = 3 → 0 ≤ n.fact ∧ n.fact < ctx.length) := by
 unfold fj at hr
 rw [if_neg hk] at hr
 split at hr
 cases hr
 rename_i h20
 have key : ∀ t : Tm, t.ok = true → CtxOk (ctx ++ [t]) := fun t ht => ⟨fun u hu => by
  rcases List.mem_append.1 hu with hu | hu
  · exact hc.ok u hu
  · simp at hu; subst hu; exact ht, by simp; omega⟩
 unfold gt
 split at hr
 rename_i h2
 rw [if_neg (by omega)]
 refine ⟨?_, fun h => absurd (h2.symm.trans h) (by decide)⟩
 split
 exact key _ (i2 hn)
 exact key _ (kD hr)
 rename_i h2
 have h3 : n.kind = 3 := by rcases lc hn with h | h | h <;> first | exact h | contradiction
 rw [if_pos h3]
 split at hr
 cases hr
 rename_i h4
 exact ⟨key _ (fG hr), fun _ => ⟨ld hn, by omega⟩⟩
theorem nP {p : List Nd} {k : Nat} : ∀ {i a : Nat}, (lR p k i).1 = (a : Int) → (p.getD a default).kind ≠ 1 ∧ (k : Int) < endP p a ∧ a < i
 | 0, a, h => by have h : (-1 : Int) = a := h; omega
 | i + 1, a, h => by
  unfold lR at h
  split at h
  have := nP h; exact ⟨this.1, this.2.1, by omega⟩
  rename_i hc
  have h : (i : Int) = a := h
  obtain rfl : i = a := by omega
  exact ⟨fun e => hc (.inl e), by have := fun e => hc (.inr e); omega, by omega⟩
theorem ve {p : List Nd} {c0 : List Tm} {k : Nat} {z : CS} (hp : no p = true) (h0 : CtxOk c0) (hk : k < p.length) (hz : CSok p k z) (hf : iR p k z = true) : CtxOk (qw p c0 k z) := by
 unfold qw
 split
 exact h0
 rename_i hk0
 try rw [if_pos hf]
 obtain ⟨a, ha, hak⟩ := oE hp (by omega) hk
 have hf' := hf
 unfold iR at hf'
 rw [if_neg hk0, ha, Int.toNat_natCast] at hf'
 obtain ⟨h1, h2⟩ := hz.good a hak hf'
 rw [ha, Int.toNat_natCast]
 exact (sP (tL hp (by omega)) (hz.ctx a hak h1) (nP ha).1 h2).1
theorem CSok.step {p : List Nd} {c0 : List Tm} {k : Nat} {z : CS} (hp : no p = true) (h0 : CtxOk c0) (hk : k < p.length) (hz : CSok p k z) : CSok p (k + 1) (gq p c0 k z) := by
 refine ⟨by simp [gq, hz.all], by simp [gq, hz.has], by simp [gq, hz.right], ?_, fun j hj h => ?_, fun j hj h => ?_⟩
 have := hz.flaw
 unfold gq
 dsimp only
 split <;> omega
 simp only [gq, cR, hz.has, hz.all] at h ⊢
 by_cases e : j = k
 rw [if_pos e] at h ⊢; exact ve hp h0 hk hz h
 rw [if_neg e] at h ⊢; exact hz.ctx j (by omega) h
 simp only [gq, cR, hz.has, hz.all, hz.right] at h ⊢
 by_cases e : j = k
 rw [if_pos e] at h
 rw [if_pos e, if_pos e, e]
 unfold jA at h
 simpa using h
 rw [if_neg e] at h
 rw [if_neg e, if_neg e]
 exact hz.good j (by omega) h
theorem lu {p : List Nd} {c0 : List Tm} (hp : no p = true) (h0 : CtxOk c0) : ∀ {k : Nat}, k ≤ p.length → CSok p k (bk p c0 k)
 | 0, _ => ⟨rfl, rfl, rfl, ⟨Int.le_refl _, by show (-1 : Int) < ((0 : Nat) : Int); decide⟩, fun j hj => absurd hj (Nat.not_lt_zero j), fun j hj => absurd hj (Nat.not_lt_zero j)⟩
 | k + 1, hk => (lu hp h0 (k := k) (by omega)).step hp h0 (by omega)
abbrev bL (b : Bool) : List D := [.bool b]
abbrev r8 (bs : List Bool) : D := .slc 1 (bs.map bL)
structure Con where
  all : List (List Tm)
  has : List Bool
  flaw : Int
  ok : Bool
def s6 (s : Sq) (p : List Nd) : Con := if (aT s.goal).2 = true then ⟨(bk p (iw s).1 p.length).all, (bk p (iw s).1 p.length).has, (bk p (iw s).1 p.length).flaw, true⟩ else ⟨[], [], 0, false⟩
theorem cC {s : Sq} (h : bX s = true) : (∀ t ∈ s.facts, t.ok = true) ∧ s.facts.length ≤ 13 ∧ s.goal.ok = true := by
 simp only [bX, fA, aX, decide_eq_true_eq, List.all_eq_true] at h
 exact ⟨h.1.1, by omega, h.2⟩
theorem qi {s : Sq} (h : bX s = true) : CtxOk (iw s).1 := by
 obtain ⟨h1, h2, h3⟩ := cC h
 unfold iw
 split
 rename_i ho
 refine ⟨fun u hu => ?_, by simp; omega⟩
 rcases List.mem_append.1 hu with hu | hu
 exact h1 u hu
 simp at hu; subst hu; exact kD ho
 exact ⟨fun u hu => by simp at hu, by simp⟩
theorem oN {s : Sq} : (iw s).2 = (aT s.goal).2 := by unfold iw; split <;> simp_all
theorem nt {b : Bool} (h : (!b) = true) : b = false := by cases b <;> simp_all
theorem nf {b : Bool} (h : (!b) = false) : b = true := by cases b <;> simp_all
theorem g2 {a b : Bool} : (bif !a then true else !b) = !(a && b) := by cases a <;> cases b <;> rfl
def jy (s : Sq) (p : List Nd) : Bool := (bX s && no p) && ((s6 s p).ok && decide ((s6 s p).flaw < 0))
def dM (f : Int → Bool) (ms : List Int) (n : Nat) (bs : List Bool) : Nat → List Bool
  | 0 => bs
  | j + 1 => if (f (ms.getD j default) && decide (j < n)) = true then (dM f ms n bs j).set j true else dM f ms n bs j
def l4 (x : Nd) (n : Nat) (bs : List Bool) : List Bool := if x.kind = 3 ∧ x.fact < n then bs.set x.fact.toNat true else bs
def dV (f : Int → Bool) (p : List Nd) (n : Nat) : Nat → List Bool
  | 0 => List.replicate n false
  | i + 1 => dM f (p.getD i default).mul n (l4 (p.getD i default) n (dV f p n i)) (p.getD i default).mul.length
theorem ff {f ms n bs} : ∀ {j : Nat}, (dM f ms n bs j).length = bs.length
 | 0 => rfl
 | j + 1 => by unfold dM; split <;> simp [ff]
theorem jg {x n bs} : (l4 x n bs).length = bs.length := by unfold l4; split <;> simp
theorem dg {f p n} : ∀ {i : Nat}, (dV f p n i).length = n
 | 0 => by simp [dV]
 | i + 1 => by rw [dV, ff, jg, dg]
abbrev uO (bs : List Bool) : B := .row true 1 (bs.map bL)
abbrev nz : Int → Bool := fun m => !decide (m = 0)
theorem oA {α β : Type} [Inhabited α] {l : List α} {f : α → β} {n : Nat} (h : n < l.length) : (l.map f)[0 + n]? = some (f (l.getD n default)) := by rw [Nat.zero_add]; simp [h]
theorem rC {a b : Bool} (h : (bif a then b else false) = true) : a = true ∧ b = true := by cases a <;> cases b <;> simp_all
theorem rM {a b : Bool} (h : (bif a then b else false) = false) : ¬ (a = true ∧ b = true) := by cases a <;> cases b <;> simp_all
abbrev sqs (ss : List Sq) : D := .slc 3 (ss.map Sq.cells)
abbrev ft (ss : List Sq) : A := .c (.d (sqs ss))
abbrev vV (p : List Nd) : List D := [uD p]
abbrev xZ (ps : List (List Nd)) : D := .slc 1 (ps.map vV)
abbrev iS (ps : List (List Nd)) : A := .c (.d (xZ ps))
def fW (ss : List Sq) (ps : List (List Nd)) : Bool := decide (ps.length = ss.length) && (List.range ss.length).all fun j => jy (ss.getD j default) (ps.getD j default)
theorem qN {ss : List Sq} {ps : List (List Nd)} (h : ps.length = ss.length) (ha : ∀ j, j < ss.length → jy (ss.getD j default) (ps.getD j default) = true) : fW ss ps = true := by
 unfold fW
 rw [decide_eq_true h, Bool.true_and, List.all_eq_true]
 intro j hj
 exact ha j (List.mem_range.1 hj)
theorem oW {ss : List Sq} {ps : List (List Nd)} {j : Nat} (hj : j < ss.length) (h : jy (ss.getD j default) (ps.getD j default) = false) : fW ss ps = false := by
 unfold fW
 rw [show ((List.range ss.length).all fun j => jy (ss.getD j default) (ps.getD j default)) = false from List.all_eq_false.2 ⟨j, List.mem_range.2 hj, by rw [h]; decide⟩, Bool.and_false]
abbrev uj (ts : List Tm) (ms : List Int) : Tm := ⟨aR Tm.c ts ms, aN (be ts ms)⟩
abbrev cJ (t : Tm) : Tm := ⟨aR Tm.c [t] [-1] - 1, aN (be [t] [-1])⟩
def cx (ctx : List Tm) (ms : List Int) : Bool := decide (ms.length = ctx.length) && (decide ((aN (be ctx ms)).length = 0) && decide (aR Tm.c ctx ms < 0))
def dO (s : Sq) : List Tm × Bool := if (bX s && (cJ s.goal).ok) = true then (s.facts ++ [cJ s.goal], true) else ([], false)
variable {ts : List Tm}
theorem we {n : Int} : MQ h1 h2 59 [bo ts, eI n] [] (Plain (eB (fA ts n))) := by
 refine aw ?_ Z
 refine jB 21 h1 h2 Try.func59 Z Z Z fun O hF => ?_
 have hl : ts.length ≤ L := by simpa [As.fact, A.fact, M.fact, D.fact, Ds.fact] using hF.1.1
 refine ag (js O Z (jn (ac (ag (js O Z (cj O Z (j2 O Z Z (jf [10,4,0,1] Z (jn (ae O Z Z (fun hc10 => ?_) (fun hc10 => ?_)))))))))))
 try simp only [ba] at hc10
 refine ag (js O Z (jr ?_))
 refine ⟨.inl Z, _, ak, _, Z, ?_⟩
 rw [fA, decide_eq_false (show ¬ (ts.length : Int) ≤ n by omega), Bool.and_false]
 try simp only [ba] at hc10
 refine aj (ac (ag (js O Z (cj O Z (js O Z (jn (ah (al (X := Nat) (fun i => ⟨[(1, eI n), (11, bo ts), (12, eI ts.length), (13, eI i)], []⟩) (fun i => i ≤ ts.length ∧ ∀ j (h : j < ts.length), j < i → Tm.ok ts[j] = true) (fun i => ts.length - i) 0 (Ent.to ⟨Z, Z, Z, Z, trivial⟩ Z) ?_ (fun i hi => ?_)))))))))
 exact ⟨b9 _, fun j h hj => absurd hj (Nat.not_lt_zero j)⟩
 refine ag (js O Z (jn (ac (ae O Z Z (fun hc14 => ?_) (fun hc14 => ?_)))))
 try simp only [ba] at hc14
 refine aj (ac (ah (ag (fR O Z Z (js O Z (jf [16,14,1,11,12,13] Z (jl O Z (jo O Z (aP (js O Z (ao O Z Z Z Z (nu (t := ts.getD i default) h1 h2) (aa Z) Z Z Z Z Z (B0 := 19000) Z (js O Z (jf [19,6,16,14,1,11,12,13] Z (jn (ae O Z Z (fun hc19 => ?_) (fun hc19 => ?_))))))))))))))))
 try simp only [ba] at hc19
 refine ag (js O Z (jr ?_))
 refine ⟨.inl Z, _, ak, _, Z, ?_⟩
 rw [ar (by omega)] at hc19
 rw [fA, kO i (by omega) hc19, Bool.false_and]
 try simp only [ba] at hc19
 refine aj (af (ji O Z (js O Z (jn ?_))))
 refine ⟨i + 1, (am [] (e' := [(1, _), (11, _), (12, _), (13, _)]) Z Z ⟨Z, Z, Z, Z, trivial⟩ Z), ⟨by omega, fun j h hj => ?_⟩, by omega⟩
 by_cases e : j = i
 subst e; rw [ar h] at hc19; exact hc19
 exact hi.2 j h (by omega)
 try simp only [ba] at hc14
 refine aD (ag (js O Z (jr ?_)))
 refine ⟨.inl Z, _, ak, _, Z, ?_⟩
 rw [fA, mV (fun j hj => hi.2 j hj (by omega)), decide_eq_true (show (ts.length : Int) ≤ n by omega), Bool.true_and]
variable {s : Sq}
theorem wh : MQ h1 h2 33 [iP s] [] (Plain (eB (bX s))) := by
 refine aw ?_ Z
 refine jB 11 h1 h2 Try.func33 Z Z Z fun O hF => ?_
 refine ag (jx O Z (js O Z (aP (j2 O Z Z (jf [4,2,1,0] Z (ao O Z Z Z Z (we h1 h2) (aa Z) Z Z Z Z Z (B0 := 6000) Z (js O Z (jf [6,2,1,0] Z (aB 3 Z Z Z (fun hx => AN.step hx Z Z Z (V O Z) Z Z ( AN.step hx Z Z Z (V O Z) Z Z ( bl O hx Z Z Z Z (nu h1 h2) (aa Z) Z Z Z Z Z Z Z (B0 := 10000) Z ( AN.nil)))) Z Z (AOps.step (aA O Z Z Z Z Z) Z Z Z (js O Z (jf [2,0] Z (jr ?_)))))))))))))
 refine ⟨.inl Z, _, ak, _, Z, ?_⟩
 rw [Bool.cond_false_right]; rfl
variable {t : Tm}
theorem ya : MQ h1 h2 80 [dn t] [] (Plain (dn ⟨t.c, aN t.xs⟩)) := by
 refine MC.data (jB 26 h1 h2 Try.func80 Z Z Z fun O hF => ?_)
 have hl : t.xs.length ≤ L := by simpa [As.fact, A.fact, M.fact, Ms.fact, D.fact, Ds.fact] using hF.1.2.1.1
 refine ag (jx O Z (jf [1] Z (jl O Z (aP (j2 O Z Z (cj O Z (js O Z (jf [3,2,1] Z (jn (ac (ah (al (X := Nat) (fun n => ⟨[(1, .c (.pt 1 0 0)), (2, .c (.pt 2 0 0)), (3, eI n)], [(1, .box [.d (.int .i64 t.c), .d (dk t.xs)]), (2, .box [.d (.int .i64 0), .d .nils])]⟩) (fun n => n ≤ t.xs.length ∧ aN (t.xs.take n) = aN t.xs) (fun n => n) t.xs.length (Ent.env ⟨Z, Z, Z, trivial⟩) ?_ (fun n hi => ?_)))))))))))))
 exact ⟨cu _, by rw [List.take_length]⟩
 refine ac (ag (j3 O Z Z Z (jf [9,1,2,3] Z (aB 7 Z Z Z (fun hx => AN.step hx Z Z Z (V O Z) Z Z ( AN.step hx Z Z Z (V O Z) Z Z ( AN.step hx Z Z Z (V O Z) Z Z ( AN.step hx Z Z Z (vF O Z) Z Z ( AN.step hx Z Z Z (vD O Z) Z Z ( AN.step hx Z Z Z (V O Z) Z Z ( AN.step hx Z Z Z (V O Z) Z Z ( AN.nil)))))))) Z Z (AOps.step (aA O Z Z Z Z Z) Z Z Z (jf [17,1,2,3] Z (jn (ae O Z Z (fun hc17 => ?_) (fun hc17 => ?_)))))))))
 refine aj (ah (af (js O Z (ji O Z (js O Z (jf [3,17,1,2] Z (jn ?_)))))))
 rw [Bool.cond_false_right, aX, decide_eq_true_eq, decide_eq_true_eq] at hc17
 obtain ⟨k, hk⟩ : ∃ k, n = k + 1 := ⟨n - 1, by omega⟩
 subst hk
 have hk2 : ((k + 1 : Nat) : Int) - 1 = k := by omega
 rw [hk2] at hc17
 refine ⟨k, Ent.to ⟨Z, Z, by rw [hk2]; rfl, trivial⟩ Z, ⟨by omega, ?_⟩, Nat.lt_succ_self k⟩
 rw [← hi.2, jG (by omega) (by simpa using hc17.2)]
 refine aD (ag (j3 O Z Z Z ?_))
 have hd : aN (t.xs.take n) = t.xs.take n := gZ hi.1 (by
  rw [Bool.cond_false_right] at hc17
  rcases Nat.eq_zero_or_pos n with h0 | h0
  ·
   exact .inl h0
  ·
   refine .inr (fun h9 => ?_)
   have e1 : ((n : Int) - 1).toNat = n - 1 := by omega
   rw [e1, h9] at hc17; simp at hc17; omega)
 have ht := hi.2
 rw [hd] at ht
 refine AOps.step ((gV O Z Z ⟨by omega, by simp; omega⟩).cast (v' := aQ (aN t.xs)) (by rw [← ht]; simp [List.map_take])) Z Z Z (js O Z (jf [24,23,17,1,2,3] Z (jo O Z (jf [17,1,2,3] Z (aP (js O Z (jo O Z (jr ?_))))))))
 refine ⟨.inl Z, _, ak, _, Z, ?_⟩
 exact .v (.agg (aC Z))
theorem gD {f : Tm → Int} : ∀ {ts : List Tm} {ms : List Int}, ts.length ≤ ms.length → aR f (ts.take ts.length) (ms.take ts.length) = aR f ts ms
 | [], ms, _ => by cases ms <;> simp [aR]
 | t :: ts, [], h => by simp at h
 | t :: ts, m :: ms, h => by
  have := gD (f := f) (ts := ts) (ms := ms) (by simpa using h)
  simp only [dp, List.take_succ_cons, aR] at this ⊢
  rw [this]
theorem jY {ts : List Tm} {ms : List Int} (h : ts.length ≤ ms.length) : be (ts.take ts.length) (ms.take ts.length) = be ts ms := by
 unfold be
 apply List.map_congr_left
 intro k _
 exact gD h
variable {ms : List Int}
theorem wd (hc : CtxOk ts) (hm : ms.all num = true) (hle : ts.length ≤ ms.length) : MQ h1 h2 62 [bo ts, aQ ms] [] (Plain (dn (uj ts ms))) := by
 refine MC.data (jB 55 h1 h2 Try.func62 Z Z Z fun O hF => ?_)
 have hl : ms.length ≤ L := by simpa [As.fact, A.fact, M.fact, D.fact, Ds.fact] using hF.2.1.1
 have hlc := hc.len
 refine ag (jl O Z (aP (AOps.heap (gX O Z Z Z Z Z Z Z Z Z (by first | omega | (simp at *; omega)) (by first | omega | (simp at *; omega)) (by first | omega | (simp at *; omega)) (by first | omega | (dsimp only; omega) | (simp only [ba] at *; omega)) (by first | omega | (simp at *; omega)) Z Z Z) Z (js O Z (jf [11,4,0,1] Z (jl O Z (jo O Z (jn (ac (ag (js O Z (cj O Z (js O Z (jn (ah (al (X := Nat) (fun i => ⟨[(1, aQ ms), (4, .c (.pt 4 0 0)), (5, .c (.pt 5 0 0)), (12, bo ts), (13, eI ts.length), (14, eI i)], [(4, .box [.d (.int .i64 0), .d .nils]), (5, .box [.d (.int .i64 (aR Tm.c (ts.take i) (ms.take i))), .rs 10 0 10]), (10, bW (be (ts.take i) (ms.take i)))]⟩) (fun i => i ≤ ts.length) (fun i => ts.length - i) 0 (Ent.to ⟨Z, Z, Z, Z, Z, Z, trivial⟩ Z) ?_ (fun i hi => ?_)))))))))))))))))
 exact b9 _
 refine ag (js O Z (jn (ac (ae O Z Z (fun hc15 => ?_) (fun hc15 => ?_)))))
 try simp only [ba] at hc15
 refine aj (ac (ah (ag (js O Z (fR O Z Z (js O Z (jf [18,16,15,1,4,5,12,13,14] Z (jl O Z (js O Z (jf [6,7,18,15,1,4,5,12,13,14] Z (jo O Z (jn (ac ?_)))))))))))))
 have hi0 := hi
 have hts := bh (hc.get (show i < ts.length by omega))
 have hd1 := fY (f := Tm.c) (ts := ts) (ms := ms) (fun t ht => (bh (hc.ok t ht)).c) hm hi (by omega)
 have hd2 := ee (f := Tm.c) (ts := ts) (ms := ms) (i := i) (by omega) (by omega)
 have hmi : num (ms.getD i default) = true := by rw [ar (by omega)]; exact List.all_eq_true.1 hm _ (List.getElem_mem _)
 have hmu := cN hmi hts.c
 refine j7 O [_,_,_,_,_,_,_,_,_,_,_,_] [pn [] 0 0, pn [0] 0 0, pn [] 0 0, pn [] 0 0, pn [2,3] 0 0, pn [2,3,4] 0 0, pn [] 0 0, pn [6] 0 0, pn (rg 2 6) 0 0, pn (rg 0 9) 0 0, pn (rg 0 10) 0 0, pe (rg 0 11) 0] [11] [_,_] (kc O Z (kc O Z (kc O Z (kc O Z (ai (vN O Z) (kc O Z (kc O Z (kc O Z (ai (vF O Z) (ai (vF O Z) (kc O Z (ai (eS O Z Z Z) trivial)))))))))))) ?_
 refine jw [6,7,18,15,1,4,5,12,13,14] Z (dL ?_)
 refine ag (j2 O Z Z (cj O Z (js O Z (jn (ah (al (X := Nat) (fun j => ⟨[(1, aQ ms), (4, .c (.pt 4 0 0)), (5, .c (.pt 5 0 0)), (12, bo ts), (13, eI ts.length), (14, eI i), (6, eI i), (31, aQ (ts.getD i default).xs), (32, eI (ts.getD i default).xs.length), (33, eI j)], [(4, .box [.d (.int .i64 0), .d .nils]), (5, .box [.d (.int .i64 (aR Tm.c (ts.take i) (ms.take i) + ms.getD i default * (ts.getD i default).c)), .rs 10 0 10]), (10, bW (c6 ts ms i j))]⟩) (fun j => j ≤ (ts.getD i default).xs.length) (fun j => (ts.getD i default).xs.length - j) 0 (((am [4,5,10] (e' := [(1, _), (4, _), (5, _), (12, _), (13, _), (14, _), (6, _), (31, _), (32, _), (33, _)]) Z Z ⟨Z, Z, Z, Z, Z, Z, Z, Z, Z, Z, trivial⟩ Z)).trans (Ent.to ⟨Z, Z, Z, Z, Z, Z, Z, Z, Z, Z, trivial⟩ (by rw [jO]; rfl))) ?_ (fun j hi => ?_)))))))
 exact b9 _
 refine ag (js O Z (jn (ac (ae O Z Z (fun hc34 => ?_) (fun hc34 => ?_)))))
 try simp only [ba] at hc34
 refine aj (ac (ah (ag (js O Z (fR O Z Z (j3 O Z Z Z (jf [9,8,34,1,4,5,12,13,14,6,31,32,33] Z (jn ?_))))))))
 have hjl : j < 10 := by have := kW (hc.get (show i < ts.length by omega)); omega
 have hpj := i1 (ts := ts) (ms := ms) (i := i) hjl
 have hps := jP (ts := ts) (ms := ms) (i := i) hjl
 have hpl := bU (ts := ts) (ms := ms) (i := i) (j := j)
 have hd3 := fY (f := ix j) (ts := ts) (ms := ms) (fun t ht => (bh (hc.ok t ht)).get j) hm hi0 (by omega)
 have hmx := cN hmi (hts.get j)
 rw [show (ts.getD i default).xs.getD j 0 = (ts.getD i default).xs.getD j default from Z] at hmx
 refine j7 O [_,_,_,_,_,_,_,_,_,_,_,_,_,_] [pn [] 0 0, pn [0] 0 0, pn [] 0 0, pn [0,1,2] 0 0, pn (rg 0 4) 0 0, pn [] 0 0, pn [] 0 0, pn [5,6] 0 0, pn [5,6,7] 0 0, pn [] 0 0, pn (rg 5 5) 0 0, pn (rg 0 11) 0 0, pn (rg 0 12) 0 0, pe (rg 0 13) 0] [13] [_,_] (kc O Z (kc O Z (kc O Z (ai (vI O Z Z) (ai (aF O (ex := [.int .i64 ((c6 ts ms i j).getD j default)]) Z Z Z Z (oA (by omega)) Z) (kc O Z (kc O Z (ai (vN O Z) (kc O Z (kc O Z (ai (vF O Z) (ai (vF O Z) (ai (vI O Z Z) (ai (gi (ex := [.int .i64 ((c6 ts ms i j).getD j default)]) (xs' := (c6 ts ms i (j + 1)).map (fun n => [D.int .i64 n])) O Z Z Z Z Z Z Z Z Z Z Z Z Z Z Z (oA (by omega)) (by rw [← hps, List.map_set]; simp only [Int.toNat_natCast, Nat.zero_add]; rfl) Z) trivial)))))))))))))) ?_
 refine jw [34,1,4,5,12,13,14,6,31,32,33] Z (dL ?_)
 refine af (ji O Z (js O Z (jn ?_)))
 refine ⟨j + 1, Ent.to ⟨Z, Z, Z, Z, Z, Z, Z, Z, Z, Z, trivial⟩ Z, by omega, by omega⟩
 try simp only [ba] at hc34
 refine aD (af (ji O Z (js O Z (jn ?_))))
 refine ⟨i + 1, ((am [4,5,10] (e' := [(1, _), (4, _), (5, _), (12, _), (13, _), (14, _)]) Z Z ⟨Z, Z, Z, Z, Z, Z, trivial⟩ Z)).trans (Ent.to ⟨Z, Z, Z, Z, Z, Z, trivial⟩ ?_), by omega, by omega⟩
 rw [hd2, ← k9 (j := j) (by omega) (by omega) (by omega)]; rfl
 try simp only [ba] at hc15
 refine aD (ag ?_)
 obtain rfl : i = ts.length := by omega
 have hcl := gg (ts := ts.take ts.length) (ms := ms.take ts.length)
 refine az (Ent.freeze 10 (e' := [(5, _), (4, _)]) Z (fe [5,4] Z) (.cons Z (.box (fk Z)) (.cons Z (.box (.cons (.keep Z) (.cons (.row Z (by rw [bp, hcl])) .nil))) (.skip .nil)))) ?_
 refine js O Z (ab O Z Z Z Z (ya (t := ⟨aR Tm.c (ts.take ts.length) (ms.take ts.length), be (ts.take ts.length) (ms.take ts.length)⟩) h1 h2) (aa Z) Z Z Z Z (B0 := 55000) Z Z (jf [54,5,4] Z (jo O Z (jr ?_))))
 refine ⟨.inl Z, _, ak, _, Z, ?_⟩
 have e1 : aR Tm.c (ts.take ts.length) (ms.take ts.length) = aR Tm.c ts ms := gD hle
 have e2 : be (ts.take ts.length) (ms.take ts.length) = be ts ms := jY hle
 rw [e1, e2]
 exact .v (.agg (aC Z))
theorem x3 {t : Tm} (h : t.ok = true) : CtxOk [t] := ⟨fun u hu => by simp at hu; subst hu; exact h, by simp⟩
theorem x2 {t : Tm} (h : Small t) : -1000000 ≤ aR Tm.c [t] [-1] ∧ aR Tm.c [t] [-1] ≤ 1000000 := by
 have := xA.1 h.c
 show -1000000 ≤ -1 * t.c + 0 ∧ -1 * t.c + 0 ≤ 1000000
 omega
theorem ta (ht : t.ok = true) : MQ h1 h2 35 [dn t] [] (Plain (dn (cJ t))) := by
 refine MC.data (jB 13 h1 h2 Try.func35 Z Z Z fun O hF => ?_)
 have hd1 := x2 (bh ht)
 refine ag (jx O Z (jf [1] Z (jl O Z (aP (js O Z (jf [4,2] Z (AOps.heap (bd O Z Z Z Z Z Z Z Z Z Z Z) Z (jf [5,2] Z (AOps.heap (bq O Z Z Z) Z (az (Ent.freeze 5 (e' := [(6, _), (5, _), (2, _)]) Z (.cons Z (.keep Z) (.cons Z (.c (.row Z Z)) (fe [2] Z))) (.cons Z (.box (fk Z)) (.cons Z (.box (fk Z)) (.skip (.cons Z .row .nil))))) ?_))))))))))
 refine az (Ent.freeze 6 (e' := [(6, _), (5, _), (2, _)]) Z (.cons Z (.c (.row Z Z)) (fe [5,2] Z)) (.cons Z (.box (fk Z)) (.cons Z (.box (fk Z)) (.skip .nil)))) ?_
 refine ab O Z Z Z Z (wd (ts := [t]) (ms := [-1]) h1 h2 (x3 ht) (by decide) (cu 1)) (aa Z) Z Z Z Z (B0 := 8000) Z Z (jf [7,2] Z (jl O Z (jo O Z (aP (j2 O Z Z (ji O Z (js O Z (jf [11,10,3,7,2] Z (jo O Z (jf [3,7,2] Z (aP (js O Z (jo O Z (jr ?_))))))))))))))
 refine ⟨.inl Z, _, ak, _, Z, ?_⟩
 exact .v (.agg (aC Z))
theorem td : MQ h1 h2 19 [iP s] [] (Plain (wa (dO s))) := by
 refine MC.data (jB 23 h1 h2 Try.func19 Z Z Z fun O hF => ?_)
 refine ag (jx O Z (j2 O Z Z (jn (ac (ag (js O Z (ao O Z Z Z Z (wh (s := s) h1 h2) (aa Z) Z Z Z Z Z (B0 := 6000) Z (j2 O Z Z (jf [7,3,2,1,0] Z (aB 5 Z Z Z (fun hx => AN.step hx Z Z Z (V O Z) Z Z ( AN.step hx Z Z Z (V O Z) Z Z ( mE O hx Z Z Z Z (ta (t := s.goal) h1 h2 (cC (by simpa using hx)).2.2) (aa Z) (B0 := 11000) Z Z Z Z Z Z Z Z ( bl O hx Z Z Z Z (nu (t := cJ s.goal) h1 h2) (aa Z) Z Z Z Z Z Z Z (B0 := 12000) Z ( AN.step hx Z Z Z (V O Z) Z Z ( AN.nil)))))) Z Z (AOps.step (ay O Z Z Z Z Z) Z Z Z (jf [13,3,2,1,0] Z (jn (ae O Z Z (fun hc13 => ?_) (fun hc13 => ?_)))))))))))))))
 refine ag (j2 O Z Z (jr ?_))
 refine ⟨.inl Z, _, ak, _, Z, ?_⟩
 have hg : (bX s && (cJ s.goal).ok) = false := by have h9 := hc13; rw [g2] at h9; exact nt h9
 rw [show dO s = ([], false) from if_neg (by rw [hg]; decide)]
 exact .tup (.cons (.c .nils) (.cons (.c .d) .nil))
 refine aj (ac (jw [1,0] Z ?_))
 have hg : (bX s && (cJ s.goal).ok) = true := by have h9 := hc13; rw [g2] at h9; exact nf h9
 have hsq := (aX _ _ ▸ hg).1
 obtain ⟨hs1, hs2, hs3⟩ := cC hsq
 refine tZ O [_,_,_,_,_,_,_,_,_,_,_] [pn [] 0 0, pn [0] 0 0, pe [0,1] 0, pn [] 0 1, pn [3] 0 1, pe (rg 0 5) 1, pe (rg 0 6) 2, pe (rg 0 7) 3, pe (rg 0 8) 4, pn (rg 0 9) 5 5, pn (rg 0 10) 5 5] [2,5,6,7,8] [_,_,_,_,_,_] [[], [], [], [], [17000]] (ka O Z Z (ka O Z Z (ai (ai (bc (cU O (B0 := 17000) Z Z Z Z (x6 (ts := s.facts) h1 h2) (aa Z) Z Z Z Z)) Z) (ai (ka O Z Z (kw O Z Z)) (ai (ka O Z Z (kw O Z Z)) (ai (ai (bc (cg O (B0 := 20000) Z Z Z Z (ta (t := s.goal) h1 h2 hs3) (aa Z) Z Z Z Z Z)) Z) (ai (ai (bc (cg O (B0 := 21000) Z Z Z Z (uM (t := cJ s.goal) h1 h2) (aa Z) Z Z Z Z Z)) Z) (ai (ai (bc (df O Z Z Z Z Z Z Z Z Z Z Z Z Z Z)) Z) (ai (ai (cX (own := false) (xs := s.facts.map Tm.cells) (ys := [Tm.cells (cJ s.goal)]) (zs := (s.facts ++ [cJ s.goal]).map Tm.cells) (n := (s.facts ++ [cJ s.goal]).length) O Z Z Z Z Z Z Z Z Z Z Z Z Z Z Z Z (.row Z (bp _).symm) (.whole Z Z (.inr ⟨Z, Z⟩)) (by simp) Z (by simp; omega) (by simp; omega) (by simp) (by simp) Z) Z) (ka O Z Z (ka O Z Z trivial))))))))))) ?_
 refine jw [3,2,1,0] Z (dL ?_)
 refine fT ?_
 refine ⟨.inl Z, _, ak, _, Z, ?_⟩
 rw [show dO s = (s.facts ++ [cJ s.goal], true) from if_pos hg]
 exact .tup (.cons (.c (.whole Z (bp _).symm)) (.cons (.c .d) .nil))
theorem rA {n : Int} : MQ h1 h2 65 [eI n] [] (Plain (eI n)) := by
 refine aw ?_ Z
 refine jB 4 h1 h2 Try.func65 Z Z Z fun O hF => ?_
 refine ag (js O Z (aP (j2 O Z Z (jr ?_))))
 refine ⟨.inl Z, _, ak, _, Z, ?_⟩
 first | rfl | skip
theorem c90 {k : Int} {n : Nat} (hn : n ≤ 1073741824) : MQ h1 h2 78 [eI k, eI n] [] (Plain (eB (pG 0 ((n : Int) - 1) k))) := by
 refine aw ?_ Z
 refine jB 10 h1 h2 Try.func78 Z Z Z fun O hF => ?_
 refine ag (js O Z (aP (j2 O Z Z (ao O Z Z Z Z (rA (n := n) h1 h2) (aa Z) Z Z Z Z Z (B0 := 8000) Z ?_))))
 first | refine ji O Z ?_ | refine bz O Z Z ?_
 refine ao O Z Z Z Z (rB h1 h2) (aa Z) Z Z Z Z Z (B0 := 10000) Z (js O Z (jr ?_))
 refine ⟨.inl Z, _, ak, _, Z, ?_⟩
 first | rfl | skip
theorem yf {ctx : List Tm} (hc : CtxOk ctx) (hm : ms.all num = true) : MQ h1 h2 77 [bo ctx, aQ ms] [] (Plain (eB (cx ctx ms))) := by
 refine aw ?_ Z
 refine jB 23 h1 h2 Try.func77 Z Z Z fun O hF => ?_
 refine ag (js O Z (jn (ac (ag (js O Z ?_)))))
 first | refine cj O Z ?_ | refine js O Z ?_ | refine bz O Z Z ?_
 refine js O Z ?_
 first | refine cj O Z ?_ | refine js O Z ?_ | refine bz O Z Z ?_
 refine js O Z (jf [10,4,0,1] Z (jn (ae O Z Z (fun hc10 => ?_) (fun hc10 => ?_))))
 try simp only [ba] at hc10
 refine ag (js O Z (jr ?_))
 refine ⟨.inl Z, _, ak, _, Z, ?_⟩
 rw [cx, decide_eq_false (by omega), Bool.false_and]
 try simp only [ba] at hc10
 refine aj (ag (j2 O Z Z (jf [12,11,4,0,1] Z (ab O Z Z Z Z (wd (ts := ctx) (ms := ms) h1 h2 hc hm (by omega)) (aa Z) Z Z Z Z (B0 := 14000) Z Z (jf [13,4,0,1] Z (jl O Z (jo O Z (aP (j2 O Z Z ?_)))))))))
 first | refine cj O Z ?_ | refine js O Z ?_ | refine bz O Z Z ?_
 refine j2 O Z Z (jf [18,5,13,4,0,1] Z (aB 3 Z Z Z (fun hx => AN.step hx Z Z Z (V O Z) Z Z ( AN.step hx Z Z Z (V O Z) Z Z ( AN.step hx Z Z Z (V O Z) Z Z ( AN.nil)))) Z Z ?_))
 first | refine AOps.step (aA O Z Z Z Z Z) Z Z Z ?_ | refine AOps.step (ay O Z Z Z Z Z) Z Z Z ?_ | refine AOps.step (Val.pickB O Z Z Z Z Z) Z Z Z ?_
 refine js O Z (jf [4,5,13,0,1] Z (jr ?_))
 refine ⟨.inl Z, _, ak, _, Z, ?_⟩
 rw [cx, decide_eq_true (show ms.length = ctx.length by omega), Bool.true_and, Bool.cond_false_right, show decide (((uj ctx ms).xs.length : Int) = 0) = decide ((aN (be ctx ms)).length = 0) from decide_eq_decide.2 (by show ((aN (be ctx ms)).length : Int) = 0 ↔ _; omega)]
variable {r : List Tm}
theorem wc {c : Tm} (hl : (c :: r).length ≤ 1000) : MQ h1 h2 84 [bo (c :: r)] [] (Rows (.c (.rs 0 0 (c :: r).length)) [bG (c :: r)]) := by
 refine cy (jB 8 h1 h2 Try.func84 Z Z Z fun O hF => ?_)
 refine ag (js O Z (jn (ac (ag (j2 O Z Z (jn (ae O Z Z (fun hc4 => ?_) (fun hc4 => ?_))))))))
 exact absurd (show false = true from hc4) (by decide)
 refine aj (ag (AOps.heap (bq O Z Z Z) Z (js O Z (jf [6,5,3,2,0] Z (az (jZ 5 Z) (AOps.heap (aI (own := false) (zs := (c :: r).map Tm.cells) (n := (c :: r).length) O Z Z Z Z Z Z Z Z Z Z Z Z Z Z Z Z (.row Z Z) (.slc (.inl Z)) (by simp) Z (by simp at hl ⊢; omega) (by simp at hl ⊢; omega) Z (by simp)) Z (js O Z (jf [2,3,0] Z (jr ?_)))))))))
 refine ⟨.inl Z, _, ak, _, Z, [7], by decide, Z, Z, Z⟩
theorem s9 {c : Tm} (hl : (c :: r).length ≤ 1000) : MQ h1 h2 66 [bo (c :: r), dn t] [] (Plain (bo (c :: r ++ [t]))) := by
 refine MC.data (jB 10 h1 h2 Try.func66 Z Z Z fun O hF => ?_)
 refine ag (jx O Z (js O Z (jn (ac (jw [3,0,1] Z (uE O [_,_,_,_,_,_] [pn [] 0 0, pe [0] 0, pn [] 0 1, pn [2] 0 1, pe [0,1,2,3] 1, pn [0,1,2,3,4] 2 2] [1,4] 3 8 (.row false 2 [Tm.cells t]) [_,_] [_] [[], [7000]] (kf O Z Z Z (ai (ai (aO (bc (cU O (B0 := 7000) Z Z Z Z (wc (c := c) (r := r) h1 h2 hl) (aa Z) Z Z Z Z)) (bc (cU O (B0 := 7000) Z Z Z Z (wc (c := c) (r := r) h1 h2 hl) (aa Z) Z Z Z Z))) Z) (ai (kf O Z Z Z (kg O Z Z Z)) (ai (ai (ai (bc (df O Z Z Z Z Z Z Z Z Z Z Z Z Z Z)) Z) (ai (bc (df O Z Z Z Z Z Z Z Z Z Z Z Z Z Z)) Z)) (ai (ai (aO trivial (cX (own := false) (xs := (c :: r).map Tm.cells) (ys := [Tm.cells t]) (zs := (c :: r ++ [t]).map Tm.cells) (n := (c :: r ++ [t]).length) O Z Z Z Z Z Z Z Z Z Z Z Z Z Z Z Z (.row Z (bp _).symm) (.whole Z Z (.inr ⟨Z, Z⟩)) (by simp) Z (by simp at hl ⊢; omega) (by simp at hl ⊢; omega) (by simp) (by simp) Z)) Z) (ai (ai (aO trivial (V O Z)) Z) trivial)))))) ?_))))))
 refine jw [4,1] Z (dL ?_)
 refine fT ?_
 refine ⟨.inl Z, _, ak, _, Z, ?_⟩
 exact .v (.c (.whole Z (bp _).symm))
theorem x9 {x : Int} (hx : -1000000 ≤ x ∧ x ≤ 1000000) : MQ h1 h2 70 [eI x] [] (Plain (eI x.natAbs)) := by
 refine aw ?_ Z
 refine jB 7 h1 h2 Try.func70 Z Z Z fun O hF => ?_
 refine ag (js O Z (aP (j2 O Z Z (ji O Z (j2 O Z Z (jr ?_))))))
 refine ⟨.inl Z, _, ak, _, Z, ?_⟩
 exact congrArg eI (show (if 0 - x > x then 0 - x else x) = (x.natAbs : Int) by split <;> omega)
def ox (c g : Int) : Int := if c.tmod g < 0 then c.tdiv g - 1 else c.tdiv g
abbrev ym (t : Tm) : Tm := ⟨ox t.c (aE t.xs), t.xs.map fun x => x.tdiv (aE t.xs)⟩
def gp (t : Tm) : Tm × Bool := if aE t.xs < 2 then (⟨0, []⟩, false) else (ym t, true)
def dW (n : Nd) : Int := if di n = true then (if n.kind = 1 then 0 else if n.kind = 2 then 2 else 1) else -1
theorem s8 {xs : List Int} (ht : xs.all num = true) : MQ h1 h2 45 [aQ xs] [] (Plain (eI (aE xs))) := by
 refine aw ?_ Z
 refine jB 26 h1 h2 Try.func45 Z Z Z fun O hF => ?_
 have hl : xs.length ≤ L := by simpa [As.fact, A.fact, M.fact, D.fact, Ds.fact] using hF.1.1
 refine ag (js O Z (aP (js O Z (jn (ac (ag (js O Z (cj O Z (js O Z (jn (ah (al (X := Nat) (fun i => ⟨[(3, eI (aE (xs.take i))), (8, aQ xs), (9, eI xs.length), (10, eI i)], []⟩) (fun i => i ≤ xs.length) (fun i => xs.length - i) 0 (Ent.env ⟨Z, Z, Z, Z, trivial⟩) ?_ (fun i hi => ?_)))))))))))))
 exact b9 _
 refine ag (js O Z (jn (ac (ae O Z Z (fun hc11 => ?_) (fun hc11 => ?_)))))
 try simp only [ba] at hc11
 refine aj (ac (ah (ag ?_)))
 have hi0 := hi
 have hx := xA.1 (List.all_eq_true.1 ht _ (List.getElem_mem (show i < xs.length by omega)))
 rw [← ar (by omega)] at hx
 have hgs := hY (xs := xs) (i := i) (by omega)
 have hgl := kJ ht hi
 refine AOps.step (aY O Z Z Z Z Z Z Z Z (fi (by omega))) Z Z Z (j2 O Z Z (jf [5,11,3,8,9,10] Z (aP (j2 O Z Z (jf [15,14,11,3,8,9,10] Z (ao O Z Z Z Z (x9 (x := xs.getD i default) h1 h2 hx) (aa Z) Z Z Z Z Z (B0 := 17000) Z (j2 O Z Z (jf [7,6,11,3,8,9,10] Z (jn (ac (ah (al (X := Nat × Nat) (fun z => ⟨[(8, aQ xs), (9, eI xs.length), (10, eI i), (6, eI z.1), (7, eI z.2)], []⟩) (fun z => Nat.gcd z.1 z.2 = Nat.gcd (aE (xs.take i)) (xs.getD i default).natAbs ∧ z.1 ≤ 1000000 ∧ z.2 ≤ 1000000) (fun z => z.2) (aE (xs.take i), (xs.getD i default).natAbs) (Ent.env ⟨Z, Z, Z, Z, Z, trivial⟩) ?_ (fun z hi => ?_)))))))))))))
 exact ⟨Z, hgl, by show (xs.getD i default).natAbs ≤ 1000000; omega⟩
 have hz := dY (a := z.1) (b := z.2) (by omega)
 refine ac (ag (j2 O Z Z (jn (ae O Z Z (fun hc18 => ?_) (fun hc18 => ?_)))))
 try simp only [ba] at hc18
 refine aj (ah (j0 O _ [_,_,_,_,_,_] [pn [] 0 0, pn [] 0 0, pn [] 0 0, pn [1,2] 0 0, pn [0,1] 0 0, pn (rg 0 5) 0 0] [] [[], [], [6], [6], [], [6]] [_] Z Z (by decide) (by decide) (by kernel_rfl) (kc O Z (kc O Z (kc O Z (ai (fN O Z Z Z Z (by omega) (by omega) (by omega)) (kc O Z (kc O Z trivial)))))) ?_))
 have hm : z.1 % z.2 < z.2 := Nat.mod_lt _ (by omega)
 refine ⟨(z.2, z.1 % z.2), Ent.env ⟨Z, Z, Z, Z, Z, trivial⟩, ⟨?_, hi.2.2, by show z.1 % z.2 ≤ 1000000; omega⟩, hm⟩
 show Nat.gcd z.2 (z.1 % z.2) = _
 rw [← hi.1, Nat.gcd_comm z.2, ← Nat.gcd_rec, Nat.gcd_comm]
 try simp only [ba] at hc18
 refine aD (af (j2 O Z Z (jn (af (ji O Z (js O Z (jn ?_)))))))
 have hz0 : z.2 = 0 := by omega
 have hz1 : z.1 = aE (xs.take (i + 1)) := by rw [hgs, ← hi.1, hz0, Nat.gcd_zero_right]
 rw [hz1]
 exact ⟨i + 1, Ent.env ⟨Z, Z, Z, Z, trivial⟩, by omega, by omega⟩
 try simp only [ba] at hc11
 refine aD (ag (j2 O Z Z (jr ?_)))
 refine ⟨.inl Z, _, ak, _, Z, ?_⟩
 obtain rfl : i = xs.length := by omega
 rw [List.take_length]
theorem yc {a b : Int} (ha : -1000000 ≤ a ∧ a ≤ 1000000) (hb : b ≠ 0) : MQ h1 h2 81 [eI a, eI b] [] (Plain (eI (ox a b))) := by
 refine aw ?_ Z
 refine jB 16 h1 h2 Try.func81 Z Z Z fun O hF => ?_
 have hq := ce (b := b) ha
 have hr := dY (b := b) ha
 refine ag (js O Z (aP (j2 O Z Z (AOps.step (vQ O Z Z Z Z) Z Z Z (js O Z (jn (ac (ag (j2 O Z Z (AOps.step (vR O Z Z Z Z) Z Z Z (js O Z (jn (ae O Z Z (fun hc12 => ?_) (fun hc12 => ?_))))))))))))))
 try simp only [ba] at hc12
 refine af (js O Z (ji O Z (js O Z (aP (j2 O Z Z (jr ?_))))))
 refine ⟨.inl Z, _, ak, _, Z, ?_⟩
 rw [ox, if_pos hc12]
 try simp only [ba] at hc12
 refine aj (ag (j2 O Z Z (jr ?_)))
 refine ⟨.inl Z, _, ak, _, Z, ?_⟩
 rw [ox, if_neg (by omega)]
theorem uq : MQ h1 h2 37 [dn t] [] (Rows (.agg [.d (.int .i64 t.c), .rs 0 0 t.xs.length]) [bW t.xs]) := by
 refine cy (jB 9 h1 h2 Try.func37 Z Z Z fun O hF => ?_)
 refine ag (jx O Z (jl O Z (jn (ac (j7 O [_,_,_,_,_,_,_] [pn [] 0 1, pn [0] 0 1, pn [] 0 0, pn [2] 0 0, pe [2,3] 0, pn (rg 0 5) 1 1, pe (rg 0 6) 1] [4,6] [_,_,_] (ai (kc O Z (V O Z)) (ai (kc O Z (V O Z)) (kc O Z (kc O Z (ai (lx O (B0 := 8000) Z Z Z Z (tb (xs := t.xs) h1 h2) (aa Z) Z Z Z Z Z) (kc O Z (ai (eS O Z Z Z) trivial))))))) ?_)))))
 refine fT ?_
 refine ⟨.inl Z, _, ak, _, Z, [8000], by decide, Z, Z, Z⟩
def j5 (xs : List Int) (g : Int) (i : Nat) : List Int := (xs.take i).map (fun x => x.tdiv g) ++ xs.drop i
theorem gv {xs g} : j5 xs g 0 = xs := by simp [j5]
theorem gS {xs : List Int} {g : Int} : j5 xs g xs.length = xs.map fun x => x.tdiv g := by simp [j5]
theorem iF {xs g i} : (j5 xs g i).length = xs.length := by simp [j5]; omega
theorem dx {xs : List Int} {g : Int} {i : Nat} (h : i < xs.length) : ((j5 xs g i).map fun n => [D.int .i64 n])[i]? = some [.int .i64 (xs.getD i default)] := by
 rw [List.getElem?_map, j5, List.getElem?_append_right (by simp; omega), bp, List.length_take, Nat.min_eq_left (Nat.le_of_lt h), Nat.sub_self, List.getElem?_drop, Nat.add_zero, List.getElem?_eq_getElem h, ar h]
 rfl
theorem fC {xs : List Int} {g : Int} {i : Nat} (h : i < xs.length) : (j5 xs g i).set i ((xs.getD i default).tdiv g) = j5 xs g (i + 1) := by
 have hl : ((xs.take i).map fun x => x.tdiv g).length = i := by simp; omega
 rw [j5, List.set_append_right _ _ (by omega), hl, Nat.sub_self, j5, List.take_succ_eq_append_getElem h, List.drop_eq_getElem_cons h, List.set_cons_zero, ar h, List.map_append, ef]
 rfl
theorem wg (ht : Small t) : MQ h1 h2 63 [dn t] [] (Plain (fw (gp t))) := by
 refine MC.data (jB 36 h1 h2 Try.func63 Z Z Z fun O hF => ?_)
 have hl : t.xs.length ≤ L := by simpa [As.fact, A.fact, M.fact, Ms.fact, D.fact, Ds.fact] using hF.1.2.1.1
 have hc0 := xA.1 ht.c
 refine ag (jx O Z (av ?_))
 refine jf [1] Z (jl O Z (av ?_))
 refine js O Z (aP (j2 O Z Z (jf [8,3,2,1] Z (ao O Z Z Z Z (s8 (xs := t.xs) h1 h2 ht.xs) (aa Z) Z Z Z Z Z (B0 := 10000) Z (js O Z (jf [4,3,2,1] Z (jn (ac (ag (j2 O Z Z (jn (ae O Z Z (fun hc11 => ?_) (fun hc11 => ?_)))))))))))))
 try simp only [ba] at hc11
 refine ag (js O Z (jf [12,10,4,3,2,1] Z (jo O Z (av ?_))))
 refine js O Z (jr ?_)
 refine ⟨.inl Z, _, ak, _, Z, ?_⟩
 rw [show gp t = (⟨0, []⟩, false) from if_pos (by omega)]
 exact .tup (.cons (.agg (.cons .d (.cons .nils .nil))) (.cons (.c .d) .nil))
 try simp only [ba] at hc11
 refine aj (ag ?_)
 obtain ⟨g, hg⟩ : ∃ g : Int, g = (aE t.xs : Int) := ⟨_, rfl⟩
 rw [← hg]
 rw [← hg] at hc11
 refine js O Z (jf [13,10,4,3,2,1] Z (fP O (B0 := 15000) Z Z Z Z (uq (t := t) h1 h2) (aa Z) Z Z Z Z Z Z (av ?_)))
 refine jf [14,10,4,3,2,1] Z (jl O Z (av ?_))
 refine jo O Z (av ?_)
 refine aP (j3 O Z Z Z (jf [17,16,5,14,10,4,3,2,1] Z (ao O Z Z Z Z (yc (a := t.c) (b := g) h1 h2 hc0 (by omega)) (aa Z) Z Z Z Z Z (B0 := 19000) Z (js O Z (jf [19,18,5,14,10,4,3,2,1] Z (jo O Z (av ?_)))))))
 refine jf [5,14,10,4,3,2,1] Z (jn (ac (ag (j2 O Z Z (bz O Z Z (js O Z (jf [23,22,5,14,10,4,3,2,1] Z (jn (ah (al (X := Nat) (fun i => ⟨[(2, .c (.pt 2 0 0)), (4, eI g), (5, .c (.pt 5 0 0)), (22, eI t.xs.length), (23, eI i)], [(2, .box [.d (.int .i64 0), .d .nils]), (5, .box [.d (.int .i64 (ox t.c g)), .rs 15000 0 t.xs.length]), (15000, bW (j5 t.xs g i))]⟩) (fun i => i ≤ t.xs.length) (fun i => t.xs.length - i) 0 (((am [2,5,15000] (e' := [(2, _), (4, _), (5, _), (22, _), (23, _)]) Z Z ⟨Z, Z, Z, Z, Z, trivial⟩ Z)).trans (Ent.to ⟨Z, Z, Z, Z, Z, trivial⟩ (by rw [gv]; rfl))) ?_ (fun i hi => ?_)))))))))))
 exact b9 _
 refine ag (js O Z (jn (ac (ae O Z Z (fun hc24 => ?_) (fun hc24 => ?_)))))
 try simp only [ba] at hc24
 refine aj (ac (ah (ag (j2 O Z Z (jn (af ?_))))))
 have hx := ce (b := g) (xA.1 (List.all_eq_true.1 ht.xs _ (List.getElem_mem (show i < t.xs.length by omega))))
 rw [← ar (by omega)] at hx
 have hkl := iF (xs := t.xs) (g := g) (i := i)
 refine j3 O Z Z Z (bz O Z Z (AOps.step (aF O (ex := [.int .i64 (t.xs.getD i default)]) Z Z Z Z (by rw [Nat.zero_add]; exact dx (by omega)) Z) Z Z Z (js O Z (AOps.step (vQ O Z Z Z Z) Z Z Z (bz O Z Z (jf [33,32,25,24,2,4,5,22,23] Z (AOps.heap (bt (ex := [.int .i64 (t.xs.getD i default)]) (xs' := (j5 t.xs g (i + 1)).map (fun n => [D.int .i64 n])) O Z Z Z Z Z Z Z Z Z Z Z Z Z Z (by rw [Nat.zero_add]; exact dx (by omega)) (by rw [← fC (by omega), List.map_set, Nat.zero_add]; rfl)) Z (av ?_))))))))
 refine jf [25,24,2,4,5,22,23] Z (jn (af (ji O Z (js O Z (jn ?_)))))
 refine ⟨i + 1, Ent.to ⟨Z, Z, Z, Z, Z, trivial⟩ Z, by omega, by omega⟩
 try simp only [ba] at hc24
 refine aD (ag (js O Z (jo O Z (av ?_))))
 refine js O Z (jr ?_)
 refine ⟨.inl Z, _, ak, _, Z, ?_⟩
 obtain rfl : i = t.xs.length := by omega
 rw [show gp t = (⟨ox t.c g, t.xs.map fun x => x.tdiv g⟩, true) by rw [hg]; exact if_neg (by omega)]
 have hkl := iF (xs := t.xs) (g := g) (i := t.xs.length)
 exact .tup (.cons (.agg (.cons .d (.cons (.whole (by rw [← gS]; rfl) (by simp)) .nil))) (.cons (.c .d) .nil))
theorem yq {n : Nd} (h : n.kind = 1) : di n = ((decide (n.fact = 0) && n.term.zero) && oz n.mul) := by rw [di, if_pos h]
theorem yp {n : Nd} (h : n.kind = 2) : di n = ((decide (n.fact = 0) && n.term.ok) && decide ((n.mul.length : Int) = 0)) := by rw [di, if_neg (by omega), if_pos h]
theorem yo {n : Nd} (h : n.kind = 3) : di n = ((pG 0 19 n.fact && n.term.zero) && decide ((n.mul.length : Int) = 0)) := by rw [di, if_neg (by omega), if_neg (by omega), if_pos h]
theorem fK {n : Nd} (h : di n = false) : dW n = -1 := by rw [dW, if_neg (by rw [h]; decide)]
theorem de {n : Nd} (h : di n = true) : dW n = if n.kind = 1 then 0 else if n.kind = 2 then 2 else 1 := by rw [dW, if_pos h]
theorem yx {a b c d : Bool} : (bif bif bif a then b else false then c else false then d else false) = ((a && b) && (d && c)) := by cases a <;> cases b <;> cases c <;> cases d <;> rfl
theorem yw {a b c : Bool} : (bif bif a then b else false then c else false) = ((a && c) && b) := by cases a <;> cases b <;> cases c <;> rfl
theorem yv {a b c : Bool} : (bif bif a then b else false then c else false) = ((a && b) && c) := by cases a <;> cases b <;> cases c <;> rfl
def e6 (f : Nat → Option (Nat × Int)) : Nat → Nat → Int → Option (Nat × Int)
  | 0, k, d => some (k, d)
  | q + 1, k, d => match f k with
    | none => none
    | some (k', b) => e6 f q k' (if b > d then b else d)
def dB : Nat → List Nd → Nat → Option (Nat × Int)
  | 0, _, _ => none
  | n + 1, p, k => if p.length ≤ k then none else if dW (p.getD k default) < 0 then none else
      (e6 (dB n p) (dW (p.getD k default)).toNat (k + 1) 0).map fun r => (r.1, r.2 + 1)
theorem cq {f : Nat → Option (Nat × Int)} {q k k' : Nat} {d b : Int} (h : f k = some (k', b)) : e6 f (q + 1) k d = e6 f q k' (if b > d then b else d) := by rw [e6, h]
theorem eL {f : Nat → Option (Nat × Int)} {q k : Nat} {d : Int} (h : f k = none) : e6 f (q + 1) k d = none := by rw [e6, h]
theorem nV {f : Nat → Option (Nat × Int)} {N : Nat} (hf : ∀ k b k', f k = some (k', b) → k < k' ∧ k' ≤ N ∧ 0 ≤ b ∧ b ≤ (k' : Int) - k) : ∀ {q k : Nat} {d d' : Int} {k' s : Nat}, e6 f q k d = some (k', d') → k ≤ N → s ≤ k → 0 ≤ d → d ≤ (k : Int) - s → k ≤ k' ∧ k' ≤ N ∧ 0 ≤ d' ∧ d' ≤ (k' : Int) - s
 | 0, k, d, d', k', s, h, hk, hs, h0, h1 => by simp only [e6, cY, Prod.mk.injEq] at h; omega
 | q + 1, k, d, d', k', s, h, hk, hs, h0, h1 => by
  cases hx : f k with
  | none => rw [eL hx] at h; cases h
  | some x =>
   obtain ⟨k1, b⟩ := x
   rw [cq hx] at h
   have h3 := hf k b k1 hx
   have h4 := nV hf h h3.2.1 (s := s) (by omega) (by split <;> omega) (by split <;> omega)
   omega
theorem ql : ∀ {n : Nat} {p : List Nd} {k k' : Nat} {d : Int}, dB n p k = some (k', d) → k < k' ∧ k' ≤ p.length ∧ 0 ≤ d ∧ d ≤ (k' : Int) - k
 | 0, _, _, _, _, h => by cases h
 | n + 1, p, k, k', d, h => by
  unfold dB at h
  split at h
  cases h
  split at h
  cases h
  simp only [Option.map_eq_some_iff] at h
  obtain ⟨⟨k2, d2⟩, h1, h2⟩ := h
  simp only [Prod.mk.injEq] at h2
  have := nV (N := p.length) (fun k b k' h => ql h) h1 (by omega) (cu _) (Int.le_refl 0) (by omega)
  omega
abbrev eN (r : Option (Nat × Int)) : Int := match r with | some (k, _) => k | none => 0
abbrev eD (r : Option (Nat × Int)) : Int := match r with | some (_, d) => d | none => 0
abbrev eO (r : Option (Nat × Int)) : Bool := match r with | some _ => true | none => false
abbrev uI (r : Option (Nat × Int)) : A := .tup [eI (eN r), eI (eD r), eB (eO r)]
theorem qg {r : Option (Nat × Int)} (h : eO r = true) : ∃ k d, r = some (k, d) := by
 cases r with
 | none => cases h
 | some x => exact ⟨x.1, x.2, Z⟩
theorem sL {r : Option (Nat × Int)} (h : eO r = false) : r = none := by
 cases r with
 | none => rfl
 | some x => cases h
theorem sD (n : Nd) : dW n ≤ 2 := by unfold dW; split <;> (try split) <;> (try split) <;> decide
def ow (p : List Nd) : Bool := decide ((p.length : Int) ≤ 60) && (eO (dB (p.length + 1) p 0) && decide (eN (dB (p.length + 1) p 0) = p.length))
variable {n : Nd}
theorem yd : MQ h1 h2 92 [aNd n] [] (Plain (eI (dW n))) := by
 refine aw ?_ Z
 refine jB 59 h1 h2 Try.func92 Z Z Z fun O hF => ?_
 have hl : n.mul.length ≤ L := by simpa [As.fact, A.fact, M.fact, Ms.fact, D.fact, Ds.fact] using hF.1.2.2.2.2.1.1
 refine ag (jx O Z (js O Z (jn (ac (j7 O [_,_,_,_,_,_,_,_,_,_,_,_,_] [pn [] 0 1, pn [0] 0 1, pn [0,1] 0 1, pn [] 0 0, pn [3] 0 0, pe [3,4] 0, pn [] 0 1, pn [6] 0 1, pn [6,7] 0 1, pn [6,7,8] 0 1, pn (rg 0 6) 1 1, pn (rg 0 6++[10]) 1 1, pn (rg 0 12) 1 1] [5] [_,_] (ai (kc O Z (V O Z)) (ai (kc O Z (V O Z)) (ai (kc O Z (V O Z)) (kc O Z (kc O Z (ai (bj O (B0 := 13000) Z Z Z Z (yb h1 h2) (aa Z) Z Z Z Z Z) (ai (kc O Z (V O Z)) (ai (kc O Z (V O Z)) (ai (ai (br O Z Z Z Z Z Z Z Z) (br O Z Z Z Z Z Z Z Z)) (ai (kc O Z (V O Z)) (kc O Z (kc O Z (kc O Z trivial))))))))))))) ?_)))))
 refine jw [5,4,3,2,1,0] Z (dL ?_)
 refine ag (js O Z (jn (ac (ag (j2 O Z Z (jn (ah (ag (j2 O Z Z (jn (ae O Z Z (fun hc19 => ?_) (fun hc19 => ?_))))))))))))
 refine ag (j2 O Z Z (jf [22,20,18,17,6,5,4,3,2,1,0] Z (aB 1 Z Z Z (fun hx => AN.step hx Z Z Z (V O Z) Z Z ( AN.nil)) Z Z ?_)))
 first | refine AOps.step (aA O Z Z Z Z Z) Z Z Z ?_ | refine AOps.step (ay O Z Z Z Z Z) Z Z Z ?_ | refine AOps.step (Val.pickB O Z Z Z Z Z) Z Z Z ?_
 refine js O Z (jf [25,20,18,17,6,5,4,3,2,1,0] Z (aB 4 Z Z Z (fun hx => AN.step hx Z Z Z (V O Z) Z Z ( AN.step hx Z Z Z (V O Z) Z Z ( AN.step hx Z Z Z (br O Z Z Z Z Z Z Z Z) Z Z ( AN.step hx Z Z Z (V O Z) Z Z ( AN.nil))))) Z Z ?_))
 first | refine AOps.step (aA O Z Z Z Z Z) Z Z Z ?_ | refine AOps.step (ay O Z Z Z Z Z) Z Z Z ?_ | refine AOps.step (Val.pickB O Z Z Z Z Z) Z Z Z ?_
 refine js O Z (jf [31,20,18,17,6,5,4,3,2,1,0] Z (aB 3 Z Z Z (fun hx => AN.step hx Z Z Z (V O Z) Z Z ( AN.step hx Z Z Z (V O Z) Z Z ( bl O hx Z Z Z Z (rz h1 h2) (aa Z) Z Z Z Z Z Z Z (B0 := 35000) Z ( AN.nil)))) Z Z ?_))
 first | refine AOps.step (aA O Z Z Z Z Z) Z Z Z ?_ | refine AOps.step (ay O Z Z Z Z Z) Z Z Z ?_ | refine AOps.step (Val.pickB O Z Z Z Z Z) Z Z Z ?_
 refine jf [35,20,18,17,6,5,4,3,2,1,0] Z (jn (ae O Z Z (fun hc35 => ?_) (fun hc35 => ?_)))
 refine af (js O Z (jn (ag (j2 O Z Z (jf [2,20,18,17,5,4,3,1,0] Z (jr ?_))))))
 refine ⟨.inl Z, _, ak, _, Z, ?_⟩
 have hb : di n = true := by rw [yq (cI hc19)]; have h9 := hc35; rw [yx] at h9; exact h9
 rw [de hb, if_pos (cI hc19)]
 refine aj (ag (j2 O Z Z (jf [2,20,18,17,5,4,3,1,0] Z (jr ?_))))
 refine ⟨.inl Z, _, ak, _, Z, ?_⟩
 have hb : di n = false := by rw [yq (cI hc19)]; have h9 := hc35; rw [yx] at h9; exact h9
 rw [fK hb]
 refine ag (j2 O Z Z (jf [36,20,18,17,6,5,4,3,2,1,0] Z (jn (ae O Z Z (fun hc36 => ?_) (fun hc36 => ?_)))))
 refine ag (j2 O Z Z (jf [39,20,18,17,6,5,4,3,2,1,0] Z (aB 1 Z Z Z (fun hx => AN.step hx Z Z Z (V O Z) Z Z ( AN.nil)) Z Z ?_)))
 first | refine AOps.step (aA O Z Z Z Z Z) Z Z Z ?_ | refine AOps.step (ay O Z Z Z Z Z) Z Z Z ?_ | refine AOps.step (Val.pickB O Z Z Z Z Z) Z Z Z ?_
 refine js O Z (jf [42,20,18,17,6,5,4,3,2,1,0] Z (aB 3 Z Z Z (fun hx => AN.step hx Z Z Z (V O Z) Z Z ( AN.step hx Z Z Z (V O Z) Z Z ( bl O hx Z Z Z Z (nu h1 h2) (aa Z) Z Z Z Z Z Z Z (B0 := 46000) Z ( AN.nil)))) Z Z ?_))
 first | refine AOps.step (aA O Z Z Z Z Z) Z Z Z ?_ | refine AOps.step (ay O Z Z Z Z Z) Z Z Z ?_ | refine AOps.step (Val.pickB O Z Z Z Z Z) Z Z Z ?_
 refine jf [46,20,18,17,6,5,4,3,2,1,0] Z (jn (ae O Z Z (fun hc46 => ?_) (fun hc46 => ?_)))
 refine af (js O Z (jn (ag (j2 O Z Z (jf [2,20,18,17,5,4,3,1,0] Z (jr ?_))))))
 refine ⟨.inl Z, _, ak, _, Z, ?_⟩
 have hb : di n = true := by rw [yp (cI hc36)]; have h9 := hc46; rw [yw] at h9; exact h9
 rw [de hb, if_neg (dh hc19), if_pos (cI hc36)]
 refine aj (ag (j2 O Z Z (jf [2,20,18,17,5,4,3,1,0] Z (jr ?_))))
 refine ⟨.inl Z, _, ak, _, Z, ?_⟩
 have hb : di n = false := by rw [yp (cI hc36)]; have h9 := hc46; rw [yw] at h9; exact h9
 rw [fK hb]
 refine ag (j2 O Z Z (jf [47,20,18,17,6,5,4,3,2,1,0] Z (jn (ae O Z Z (fun hc47 => ?_) (fun hc47 => ?_)))))
 refine ag (j2 O Z Z (jf [50,20,18,17,6,5,4,3,2,1,0] Z (ao O Z Z Z Z (rB h1 h2) (aa Z) Z Z Z Z Z (B0 := 52000) Z (js O Z (jf [52,20,18,17,6,5,4,3,2,1,0] Z (aB 1 Z Z Z (fun hx => AN.step hx Z Z Z (V O Z) Z Z ( AN.nil)) Z Z ?_))))))
 first | refine AOps.step (aA O Z Z Z Z Z) Z Z Z ?_ | refine AOps.step (ay O Z Z Z Z Z) Z Z Z ?_ | refine AOps.step (Val.pickB O Z Z Z Z Z) Z Z Z ?_
 refine js O Z (jf [55,20,18,17,6,5,4,3,2,1,0] Z (aB 1 Z Z Z (fun hx => AN.step hx Z Z Z (V O Z) Z Z ( AN.nil)) Z Z ?_))
 first | refine AOps.step (aA O Z Z Z Z Z) Z Z Z ?_ | refine AOps.step (ay O Z Z Z Z Z) Z Z Z ?_ | refine AOps.step (Val.pickB O Z Z Z Z Z) Z Z Z ?_
 refine jf [57,20,18,17,6,5,4,3,2,1,0] Z (jn (ae O Z Z (fun hc57 => ?_) (fun hc57 => ?_)))
 refine af (js O Z (jn (ag (j2 O Z Z (jf [2,20,18,17,5,4,3,1,0] Z (jr ?_))))))
 refine ⟨.inl Z, _, ak, _, Z, ?_⟩
 have hb : di n = true := by rw [yo (cI hc47)]; have h9 := hc57; rw [yv] at h9; exact h9
 rw [de hb, if_neg (dh hc19), if_neg (dh hc36)]
 refine aj (ag (j2 O Z Z (jf [2,20,18,17,5,4,3,1,0] Z (jr ?_))))
 refine ⟨.inl Z, _, ak, _, Z, ?_⟩
 have hb : di n = false := by rw [yo (cI hc47)]; have h9 := hc57; rw [yv] at h9; exact h9
 rw [fK hb]
 refine aj (ag (j2 O Z Z (jf [2,20,18,17,5,4,3,1,0] Z (jr ?_))))
 refine ⟨.inl Z, _, ak, _, Z, ?_⟩
 rw [fK (by rw [di, if_neg (dh hc19), if_neg (dh hc36), if_neg (dh hc47)])]
variable {p : List Nd} {k : Nat}
theorem wU {n : Nat} (hk : k ≤ p.length) (hn : p.length < n + 1 + k) (ih : ∀ k', k' ≤ p.length → p.length < n + k' → MQ h1 h2 76 [c7 p, eI k'] [] (Plain (uI (dB n p k')))) : MQ h1 h2 76 [c7 p, eI k] [] (Plain (uI (dB (n + 1) p k))) := by
 refine jB 45 h1 h2 Try.func76 Z Z Z fun O hF => ?_
 have hl : p.length ≤ L := by simpa [As.fact, A.fact, M.fact, D.fact, Ds.fact] using hF.1.1
 refine ag (j3 O Z Z Z (jn (ac (ag (j2 O Z Z ?_)))))
 first | refine cj O Z ?_ | refine js O Z ?_ | refine bz O Z Z ?_
 refine js O Z (jf [15,6,5,4,0,1] Z (jn (ae O Z Z (fun hc15 => ?_) (fun hc15 => ?_))))
 try simp only [ba] at hc15
 refine ag (j3 O Z Z Z (jr ?_))
 refine ⟨.inl Z, _, ak, _, Z, ?_, Z⟩
 rw [show dB (n + 1) p k = none from if_pos (by omega)]
 try simp only [ba] at hc15
 refine aj (ag (j2 O Z Z ?_))
 first | refine fR O Z Z ?_ | refine j6 O Z Z ?_ | refine bz O Z Z ?_
 refine js O Z (jf [19,6,5,4,0,1] Z (ao O Z Z Z Z (yd (n := p.getD k default) h1 h2) (aa Z) Z Z Z Z Z (B0 := 21000) Z (js O Z (jf [7,6,5,4,0,1] Z (jn (ac (ag (j2 O Z Z (jn (ae O Z Z (fun hc22 => ?_) (fun hc22 => ?_)))))))))))
 try simp only [ba] at hc22
 refine ag (j3 O Z Z Z (jr ?_))
 refine ⟨.inl Z, _, ak, _, Z, ?_, Z⟩
 rw [show dB (n + 1) p k = none by unfold dB; rw [if_neg (by omega)]; exact if_pos hc22]
 try simp only [ba] at hc22
 refine aj (ag (js O Z ?_))
 first | refine ji O Z ?_ | refine bz O Z Z ?_
 refine js O Z (jf [1,21,7,6,5,4,0] Z (aP (js O Z (jn (ac (ah (al (X := Nat × Nat × Int) (fun x => ⟨[(0, c7 p), (1, eI x.2.1), (7, eI x.1), (8, eI x.2.2)], []⟩) (fun x => x.2.1 ≤ p.length ∧ k < x.2.1 ∧ e6 (dB n p) (dW (p.getD k default)).toNat (k + 1) 0 = e6 (dB n p) x.1 x.2.1 x.2.2 ∧ x.1 ≤ 2 ∧ 0 ≤ x.2.2 ∧ x.2.2 ≤ (x.2.1 : Int) - (k + 1 : Nat)) (fun x => x.1) ((dW (p.getD k default)).toNat, k + 1, 0) (Ent.to ⟨Z, Z, congrArg (fun z => some (eI z)) (Int.toNat_of_nonneg hc22).symm, Z, trivial⟩ Z) ?_ (fun x hi => ?_))))))))
 exact ⟨(show k + 1 ≤ p.length by omega), Nat.lt_succ_self k, Z, by have := sD (p.getD k default); show (dW (p.getD k default)).toNat ≤ 2; omega, Int.le_refl 0, by show (0 : Int) ≤ ((k + 1 : Nat) : Int) - (k + 1 : Nat); omega⟩
 refine ac (ag (j2 O Z Z (jn (ae O Z Z (fun hc26 => ?_) (fun hc26 => ?_)))))
 try simp only [ba] at hc26
 refine aj (ac (ah (ag (j2 O Z Z (ab O Z Z Z Z (ih x.2.1 hi.1 (by omega)) (aa Z) Z Z Z Z (B0 := 33000) Z Z (j4 O Z Z Z Z (j3 O Z Z Z (jf [11,10,9,26,25,0,1,7,8] Z (jn (ac (ag (j2 O Z Z (jf [37,10,9,26,25,0,1,7,8] Z (jn (ae O Z Z (fun hc37 => ?_) (fun hc37 => ?_))))))))))))))))
 try simp only [ba] at hc37
 refine ag (j3 O Z Z Z (jr ?_))
 refine ⟨.inl Z, _, ak, _, Z, ?_, Z⟩
 have e0 := sL hc37
 rw [show dB (n + 1) p k = none by
  unfold dB
  rw [if_neg (by omega), if_neg (by omega), hi.2.2.1]
  obtain ⟨q, hq⟩ : ∃ q, x.1 = q + 1 := ⟨x.1 - 1, by omega⟩
  rw [hq, eL e0]; rfl]
 try simp only [ba] at hc37
 refine aj (ag ?_)
 obtain ⟨k1, d1, hr⟩ := qg hc37
 rw [hr]
 refine j4 O Z Z Z Z (jf [8,37,9,26,25,0,1,7] Z (jn (af (j2 O Z Z (jf [1,8,37,26,25,0,7] Z (jn (af (js O Z ?_))))))))
 first | refine ji O Z ?_ | refine bz O Z Z ?_
 refine js O Z (jf [7,1,8,37,26,25,0] Z (jn ?_))
 have hle := ql hr
 refine ⟨(x.1 - 1, k1, if d1 > x.2.2 then d1 else x.2.2), Ent.to ⟨Z, Z, ?_, Z, trivial⟩ Z, ⟨hle.2.1, by show k < k1; omega, ?_, by show x.1 - 1 ≤ 2; omega, by show 0 ≤ (if d1 > x.2.2 then d1 else x.2.2); split <;> omega, by show (if d1 > x.2.2 then d1 else x.2.2) ≤ (k1 : Int) - (k + 1 : Nat); split <;> omega⟩, ?_⟩
 exact congrArg (fun z => some (eI z)) (by show (x.1 : Int) - 1 = (x.1 - 1 : Nat); omega)
 rw [hi.2.2.1]
 obtain ⟨q, hq⟩ : ∃ q, x.1 = q + 1 := ⟨x.1 - 1, by omega⟩
 rw [hq, cq hr]; rfl
 show x.1 - 1 < x.1; omega
 try simp only [ba] at hc26
 refine aD (ag (j2 O Z Z ?_))
 first | refine ji O Z ?_ | refine bz O Z Z ?_
 refine j3 O Z Z Z (jf [6,5,4,26,25,0,1,7,8] Z (jr ?_))
 refine ⟨.inl Z, _, ak, _, Z, ?_, Z⟩
 have hx : x.1 = 0 := by omega
 rw [show dB (n + 1) p k = some (x.2.1, x.2.2 + 1) by
  unfold dB
  rw [if_neg (by omega), if_neg (by omega), hi.2.2.1, hx]; rfl]
theorem rx {L : Nat} (h1 : 4096 ≤ L) (h2 : L ≤ 1073741824) {p : List Nd} : ∀ {n k : Nat}, k ≤ p.length → p.length < n + k → MC Try.prog L 76 [c7 p, eI k] [] (Plain (uI (dB n p k)))
 | 0, k, hk, hn => by omega
 | n + 1, k, hk, hn => wU h1 h2 hk hn (fun k' hk' hn' => rx h1 h2 hk' hn')
theorem wj : MQ h1 h2 53 [c7 p] [] (Plain (eB (ow p))) := by
 refine aw ?_ Z
 refine jB 22 h1 h2 Try.func53 Z Z Z fun O hF => ?_
 have hl : p.length ≤ L := by simpa [As.fact, A.fact, M.fact, D.fact, Ds.fact] using hF.1.1
 refine ag (js O Z (jn (ac (ag (js O Z ?_)))))
 first | refine cj O Z ?_ | refine js O Z ?_ | refine bz O Z Z ?_
 refine js O Z (jf [8,2,0] Z (jn (ae O Z Z (fun hc8 => ?_) (fun hc8 => ?_))))
 try simp only [ba] at hc8
 refine ag (js O Z (jr ?_))
 refine ⟨.inl Z, _, ak, _, Z, ?_⟩
 rw [ow, decide_eq_false (show ¬ (p.length : Int) ≤ 60 by omega), Bool.false_and]
 try simp only [ba] at hc8
 refine aj (ag (js O Z (ge [(10, _), (2, _), (0, _)] [] ⟨Z, Z, Z, trivial⟩ Z (ab O Z Z Z Z (rx (p := p) (n := p.length + 1) (k := 0) h1 h2 (b9 _) (by omega)) (aa Z) Z Z Z Z (B0 := 12000) Z Z (j4 O Z Z Z Z (j3 O Z Z Z (jf [5,3,2,0] Z (aP (j2 O Z Z (ge [(16, _), (3, _), (2, _), (0, _)] [] ⟨Z, Z, Z, Z, trivial⟩ Z (aB 4 Z Z Z (fun hx => AN.step hx Z Z Z (V O Z) Z Z ( AN.step hx Z Z Z (V O Z) Z Z ( AN.step hx Z Z Z (br O Z Z Z Z Z Z Z Z) Z Z ( AN.step hx Z Z Z (V O Z) Z Z ( AN.nil))))) Z Z ?_)))))))))))
 first | refine AOps.step (aA O Z Z Z Z Z) Z Z Z ?_ | refine AOps.step (ay O Z Z Z Z Z) Z Z Z ?_ | refine AOps.step (Val.pickB O Z Z Z Z Z) Z Z Z ?_
 refine js O Z (jf [2,0] Z (jr ?_))
 refine ⟨.inl Z, _, ak, _, Z, ?_⟩
 rw [ow, decide_eq_true (show (p.length : Int) ≤ 60 by omega), Bool.true_and, Bool.cond_false_right]
theorem ip : ∀ {xs : List Int} {g : Nat}, (xs.foldl (fun g x => Nat.gcd g x.natAbs) g ∣ g) ∧ ∀ x ∈ xs, xs.foldl (fun g x => Nat.gcd g x.natAbs) g ∣ x.natAbs
 | [], g => ⟨Nat.dvd_refl _, fun x hx => by cases hx⟩
 | y :: r, g => by
  have ih := ip (xs := r) (g := Nat.gcd g y.natAbs)
  refine ⟨Nat.dvd_trans ih.1 (Nat.gcd_dvd_left _ _), fun x hx => ?_⟩
  rcases List.mem_cons.1 hx with rfl | hx
  exact Nat.dvd_trans ih.1 (Nat.gcd_dvd_right _ _)
  exact ih.2 x hx
theorem fE {xs : List Int} {x : Int} (hx : x ∈ xs) : aE xs ∣ x.natAbs := (ip (g := 0)).2 x hx
theorem tz {x : Int} {g : Nat} (h : g ∣ x.natAbs) (hx : x ≠ 0) (hg : 2 ≤ g) : x.tdiv g ≠ 0 := by
 intro h0
 have h1 : (x.tdiv g).natAbs = x.natAbs / g := by rw [Int.natAbs_tdiv]; rfl
 rw [h0] at h1
 obtain ⟨q, hq⟩ := h
 rw [hq, Nat.mul_div_cancel_left _ (by omega)] at h1
 have : q = 0 := by simpa using h1.symm
 rw [this] at hq
 omega
theorem mb {xs : List Int} (h : xs = [] ∨ xs.getD (xs.length - 1) default ≠ 0) : aN xs = xs := by
 have := gZ (xs := xs) (n := xs.length) (cu _) (h.imp (fun e => by rw [e]; rfl) id)
 rwa [List.take_length] at this
theorem uZ {t : Tm} : t.ok = true ↔ num t.c = true ∧ t.xs.all num = true ∧ t.xs.length ≤ 10 ∧ (t.xs = [] ∨ t.xs.getD (t.xs.length - 1) default ≠ 0) := by
 unfold Tm.ok
 have hz : ((t.xs.length : Int) - 1).toNat = t.xs.length - 1 := by omega
 rw [hz]
 cases h1 : num t.c <;> cases h2 : t.xs.all num <;> simp
 by_cases h3 : t.xs.length ≤ 10
 have h4 : ¬ (10 : Int) < t.xs.length := by omega
 by_cases h5 : t.xs = []
 simp [h5]
 have h6 : 0 < t.xs.length := List.length_pos_iff.2 h5
 simp [h3, h5]
 intro _; omega
 have h4 : (10 : Int) < t.xs.length := by omega
 simp [h3, h4]
theorem u6 {c : Int} {xs : List Int} (h : (Tm.mk c xs).ok = true) : fQ c xs = (⟨c, xs⟩, true) := by
 have h1 := uZ.1 h
 have h2 : aN xs = xs := mb h1.2.2.2
 unfold fQ
 rw [h2, if_pos h]
theorem dC {t : Tm} (h : t.ok = true) : gp t = aM t := by
 unfold gp aM
 split
 rfl
 rename_i hg
 obtain ⟨h1, h2, h3, h4⟩ := uZ.1 h
 have hc := xA.1 h1
 have e : (if t.c.tmod (aE t.xs) < 0 then t.c.tdiv (aE t.xs) - 1 else t.c.tdiv (aE t.xs)) = ox t.c (aE t.xs) := rfl
 rw [e]
 refine (u6 ?_).symm
 refine uZ.2 ⟨?_, ?_, by simpa using h3, ?_⟩
 have hq : (t.c.tdiv (aE t.xs)).natAbs = t.c.natAbs / aE t.xs := by rw [Int.natAbs_tdiv]; rfl
 have hq2 : t.c.natAbs / aE t.xs ≤ t.c.natAbs / 2 := Nat.div_le_div_left (by omega) (by decide)
 refine xA.2 ?_
 show -1000000 ≤ ox t.c (aE t.xs) ∧ ox t.c (aE t.xs) ≤ 1000000
 unfold ox
 split <;> omega
 rw [List.all_eq_true]
 intro y hy
 obtain ⟨x, hx, rfl⟩ := List.mem_map.1 hy
 have := xA.1 (List.all_eq_true.1 h2 x hx)
 exact xA.2 (ce this)
 rcases h4 with h4 | h4
 exact .inl (by rw [h4]; rfl)
 by_cases h0 : t.xs = []
 exact .inl (by rw [h0]; rfl)
 refine .inr ?_
 have hl : 0 < t.xs.length := List.length_pos_iff.2 h0
 rw [ar (by omega)] at h4
 rw [ar (by simp; omega)]
 simp only [bp, List.getElem_map]
 exact tz (fE (List.getElem_mem _)) h4 (by omega)
theorem su {t : Tm} : kv t (-1) ⟨1, []⟩ (-1) = be [t] [-1] := by
 unfold kv be
 apply List.map_congr_left
 intro k _
 show -1 * t.xs.getD k 0 + -1 * 0 = -1 * t.xs.getD k 0 + 0
 omega
theorem rU {t : Tm} : aT t = if (cJ t).ok = true then (cJ t, true) else (⟨0, []⟩, false) := by
 unfold aT uG fQ
 rw [su]
 have : (-1 * t.c + -1 * (⟨1, []⟩ : Tm).c) = aR Tm.c [t] [-1] - 1 := by
  show -1 * t.c + -1 * 1 = -1 * t.c + 0 - 1
  omega
 rw [this]
theorem ij {t : Tm} : (aT t).2 = (cJ t).ok := by
 rw [rU]
 cases h : (cJ t).ok <;> simp
theorem rG {t : Tm} (h : (cJ t).ok = true) : (aT t).1 = cJ t := by rw [rU, if_pos h]
theorem tY {xs : List Int} : aN xs = [] ↔ xs.all (fun x => decide (x = 0)) = true := by
 unfold aN
 rw [List.reverse_eq_nil_iff, List.all_eq_true]
 constructor
 intro h x hx
 have key : ∀ {l : List Int}, l.dropWhile (· == 0) = [] → ∀ x ∈ l, x = 0 := by
  intro l
  induction l with
  | nil => intro _ x hx; cases hx
  | cons y r ih =>
   intro h x hx
   rw [List.dropWhile_cons] at h
   split at h
   rename_i hy
   rcases List.mem_cons.1 hx with rfl | hx
   simpa using hy
   exact ih h x hx
   cases h
 exact decide_eq_true (key h x (List.mem_reverse.2 hx))
 intro h
 have key : ∀ {l : List Int}, (∀ x ∈ l, x = 0) → l.dropWhile (· == 0) = [] := by
  intro l
  induction l with
  | nil => intro _; rfl
  | cons y r ih =>
   intro h
   rw [List.dropWhile_cons, if_pos (by simpa using h y (by simp))]
   exact ih fun x hx => h x (by simp [hx])
 exact key fun x hx => cI (h x (List.mem_reverse.1 hx))
theorem mz {ctx : List Tm} {ms : List Int} : cx ctx ms = kM ctx ms := by
 unfold cx kM
 have h1 : decide (ms.length = ctx.length) = decide (ctx.length = ms.length) := decide_eq_decide.2 ⟨Eq.symm, Eq.symm⟩
 have h2 : decide ((aN (be ctx ms)).length = 0) = (be ctx ms).all (fun x => decide (x = 0)) := by
  cases h : (be ctx ms).all (fun x => decide (x = 0)) with
  | true => rw [tY.2 h]; rfl
  | false =>
   refine decide_eq_false fun h0 => ?_
   rw [tY.1 (List.eq_nil_of_length_eq_zero h0)] at h
   cases h
 rw [h1, h2]
inductive Pf where
  | close (n : Nd)
  | tight (n : Nd) (a : Pf)
  | split (n : Nd) (a b : Pf)
def Pf.size : Pf → Nat
  | .close _ => 1
  | .tight _ a => 1 + a.size
  | .split _ a b => 1 + a.size + b.size
def Pf.At (p : List Nd) : Pf → Nat → Prop
  | .close n, k => p[k]? = some n ∧ di n = true ∧ n.kind = 1
  | .tight n a, k => p[k]? = some n ∧ di n = true ∧ n.kind = 3 ∧ a.At p (k + 1)
  | .split n a b, k => p[k]? = some n ∧ di n = true ∧ n.kind = 2 ∧ a.At p (k + 1) ∧ b.At p (k + 1 + a.size)
theorem bi {p : List Nd} {k : Nat} {n : Nd} (h : p[k]? = some n) : k < p.length ∧ p.getD k default = n := by
 have h1 := (List.getElem?_eq_some_iff.1 h).1
 exact ⟨h1, by rw [ar h1]; exact (List.getElem?_eq_some_iff.1 h).2⟩
theorem Pf.At.le {p : List Nd} : ∀ {t : Pf} {k : Nat}, t.At p k → k + t.size ≤ p.length
 | .close n, k, h => by have := (bi h.1).1; simp only [Pf.size]; omega
 | .tight n a, k, h => by have := h.2.2.2.le; simp only [Pf.size]; omega
 | .split n a b, k, h => by have := h.2.2.2.2.le; simp only [Pf.size]; omega
theorem bE : ∀ {t : Pf}, 0 < t.size
 | .close _ => by simp [Pf.size]
 | .tight _ _ => by simp only [Pf.size]; omega
 | .split _ _ _ => by simp only [Pf.size]; omega
theorem Pf.At.beh {p : List Nd} : ∀ {t : Pf} {k n : Nat}, t.At p k → p.length < n + k → ∃ d, dB n p k = some (k + t.size, d)
 | .close x, k, 0, h, hn => by have := (bi h.1).1; omega
 | .tight x a, k, 0, h, hn => by have := (bi h.1).1; omega
 | .split x a b, k, 0, h, hn => by have := (bi h.1).1; omega
 | .close x, k, n + 1, h, hn => by
  obtain ⟨h1, h2⟩ := bi h.1
  have hk : dW x = 0 := by rw [de h.2.1, if_pos h.2.2]
  refine ⟨0 + 1, ?_⟩
  unfold dB
  rw [if_neg (by omega), h2, hk, if_neg (by decide)]
  rfl
 | .tight x a, k, n + 1, h, hn => by
  obtain ⟨h1, h2⟩ := bi h.1
  have hk : dW x = 1 := by rw [de h.2.1, if_neg (by rw [h.2.2.1]; decide), if_neg (by rw [h.2.2.1]; decide)]
  obtain ⟨d, hd⟩ := h.2.2.2.beh (n := n) (by omega)
  refine ⟨(if d > 0 then d else 0) + 1, ?_⟩
  unfold dB
  rw [if_neg (by omega), h2, hk, if_neg (by decide), show (1 : Int).toNat = 0 + 1 from Z, cq hd]
  show some (k + 1 + a.size, _) = some (k + (1 + a.size), _)
  rw [Nat.add_assoc]
 | .split x a b, k, n + 1, h, hn => by
  obtain ⟨h1, h2⟩ := bi h.1
  have hk : dW x = 2 := by rw [de h.2.1, if_neg (by rw [h.2.2.1]; decide), if_pos h.2.2.1]
  obtain ⟨d, hd⟩ := h.2.2.2.1.beh (n := n) (by omega)
  obtain ⟨d', hd'⟩ := h.2.2.2.2.beh (n := n) (by have := bE (t := a); omega)
  refine ⟨(if d' > (if d > 0 then d else 0) then d' else (if d > 0 then d else 0)) + 1, ?_⟩
  unfold dB
  rw [if_neg (by omega), h2, hk, if_neg (by decide), show (2 : Int).toNat = 1 + 1 from Z, cq hd, show (1 : Nat) = 0 + 1 from Z, cq hd']
  show some (k + 1 + a.size + b.size, _) = some (k + (1 + a.size + b.size), _)
  rw [show k + 1 + a.size + b.size = k + (1 + a.size + b.size) by omega]
theorem om {n : Nd} (h : ¬ dW n < 0) : di n = true := by
 cases hb : di n with
 | true => rfl
 | false => rw [fK hb] at h; exact absurd (by decide) h
theorem mR {p : List Nd} : ∀ {n k k' : Nat} {d : Int}, dB n p k = some (k', d) → ∃ t : Pf, t.At p k ∧ k' = k + t.size
 | 0, _, _, _, h => by cases h
 | n + 1, k, k', d, h => by
  unfold dB at h
  split at h
  cases h
  rename_i hl
  split at h
  cases h
  rename_i hk
  have hb := om hk
  have hg : p[k]? = some (p.getD k default) := by rw [ar (by omega)]; exact List.getElem?_eq_getElem (by omega)
  generalize p.getD k default = x at hk hb hg h
  rcases lc hb with h1 | h1 | h1
  rw [de hb, if_pos h1] at h
  simp only [Int.toNat_zero, e6, Option.map_some, cY, Prod.mk.injEq] at h
  exact ⟨.close x, ⟨hg, hb, h1⟩, h.1.symm⟩
  rw [de hb, if_neg (by omega), if_pos h1, show (2 : Int).toNat = 1 + 1 from Z] at h
  cases e1 : dB n p (k + 1) with
  | none => rw [eL e1] at h; cases h
  | some r1 =>
   obtain ⟨k1, d1⟩ := r1
   rw [cq e1, show (1 : Nat) = 0 + 1 from Z] at h
   obtain ⟨a, ha, rfl⟩ := mR e1
   cases e2 : dB n p (k + 1 + a.size) with
   | none => rw [eL e2] at h; cases h
   | some r2 =>
    obtain ⟨k2, d2⟩ := r2
    rw [cq e2] at h
    obtain ⟨b, hb2, rfl⟩ := mR e2
    simp only [e6, Option.map_some, cY, Prod.mk.injEq] at h
    exact ⟨.split x a b, ⟨hg, hb, h1, ha, hb2⟩, by rw [← h.1]; simp only [Pf.size]; omega⟩
  rw [de hb, if_neg (by omega), if_neg (by omega), show (1 : Int).toNat = 0 + 1 from Z] at h
  cases e1 : dB n p (k + 1) with
  | none => rw [eL e1] at h; cases h
  | some r1 =>
   obtain ⟨k1, d1⟩ := r1
   rw [cq e1] at h
   obtain ⟨a, ha, rfl⟩ := mR e1
   simp only [e6, Option.map_some, cY, Prod.mk.injEq] at h
   exact ⟨.tight x a, ⟨hg, hb, h1, ha⟩, by rw [← h.1]; simp only [Pf.size]; omega⟩
theorem Pf.At.endK {p : List Nd} : ∀ {t : Pf} {k : Nat} {need : Int}, t.At p k → 0 < need → Al.endK (p.drop k) need = (Al.endK (p.drop (k + t.size)) (need - 1)).map (· + t.size)
 | .close x, k, need, h, hn => by
  obtain ⟨h1, h2⟩ := bi h.1
  rw [gC hn h1, h2, h.2.2]; rfl
 | .tight x a, k, need, h, hn => by
  obtain ⟨h1, h2⟩ := bi h.1
  rw [gC hn h1, h2, h.2.2.1, show need + dl 3 = need by show need + 0 = need; omega, h.2.2.2.endK hn, Option.map_map]
  simp only [Pf.size]
  rw [show k + 1 + a.size = k + (1 + a.size) by omega]
  exact congrArg (fun f => Option.map f _) (funext fun n => by show n + a.size + 1 = n + (1 + a.size); omega)
 | .split x a b, k, need, h, hn => by
  obtain ⟨h1, h2⟩ := bi h.1
  rw [gC hn h1, h2, h.2.2.1, show need + dl 2 = need + 1 from Z, h.2.2.2.1.endK (by omega), show need + 1 - 1 = need by omega, h.2.2.2.2.endK hn, Option.map_map, Option.map_map]
  simp only [Pf.size]
  rw [show k + 1 + a.size + b.size = k + (1 + a.size + b.size) by omega]
  exact congrArg (fun f => Option.map f _) (funext fun n => by show n + b.size + a.size + 1 = n + (1 + a.size + b.size); omega)
theorem Pf.At.endP {p : List Nd} {t : Pf} {k : Nat} (h : t.At p k) : Al.endP p k = k + t.size := by
 unfold Al.endP
 rw [h.endK (by decide), show (1 : Int) - 1 = 0 from Z, n6 (Int.le_refl 0)]
 show (k : Int) + (0 + t.size : Nat) = _
 omega
theorem Pf.At.valid {p : List Nd} : ∀ {t : Pf} {k j : Nat}, t.At p k → k ≤ j → j < k + t.size → di (p.getD j default) = true
 | .close x, k, j, h, h1, h2 => by
  simp only [Pf.size] at h2
  obtain rfl : j = k := by omega
  rw [(bi h.1).2]; exact h.2.1
 | .tight x a, k, j, h, h1, h2 => by
  by_cases e : j = k
  subst e; rw [(bi h.1).2]; exact h.2.1
  simp only [Pf.size] at h2
  exact h.2.2.2.valid (by omega) (by omega)
 | .split x a b, k, j, h, h1, h2 => by
  by_cases e : j = k
  subst e; rw [(bi h.1).2]; exact h.2.1
  simp only [Pf.size] at h2
  by_cases e2 : j < k + 1 + a.size
  exact h.2.2.2.1.valid (by omega) (by omega)
  exact h.2.2.2.2.valid (by omega) (by omega)
theorem kK {p : List Nd} (hv : ∀ n ∈ p, di n = true) : ∀ {m k : Nat} {need : Int} {r : Nat}, p.length - k ≤ m → 0 < need → endK (p.drop k) need = some r → ∃ t : Pf, t.At p k
 | 0, k, need, r, hm, hn, h => by
  rw [List.drop_of_length_le (by omega), n5 hn] at h; cases h
 | m + 1, k, need, r, hm, hn, h => by
  by_cases hk : k < p.length
  have hg : p[k]? = some (p.getD k default) := by rw [ar hk]; exact List.getElem?_eq_getElem hk
  have hb : di (p.getD k default) = true := by rw [ar hk]; exact hv _ (List.getElem_mem hk)
  rw [gC hn hk] at h
  generalize p.getD k default = x at hb hg h
  rcases lc hb with h1 | h1 | h1
  exact ⟨.close x, hg, hb, h1⟩
  rw [h1, show need + dl 2 = need + 1 from Z] at h
  simp only [Option.map_eq_some_iff] at h
  obtain ⟨r1, h2, _⟩ := h
  obtain ⟨a, ha⟩ := kK hv (m := m) (by omega) (by omega) h2
  rw [ha.endK (by omega), show need + 1 - 1 = need by omega] at h2
  simp only [Option.map_eq_some_iff] at h2
  obtain ⟨r2, h3, _⟩ := h2
  obtain ⟨b, hb2⟩ := kK hv (m := m) (by have := bE (t := a); omega) hn h3
  exact ⟨.split x a b, hg, hb, h1, ha, hb2⟩
  rw [h1, show need + dl 3 = need by show need + 0 = need; omega] at h
  simp only [Option.map_eq_some_iff] at h
  obtain ⟨r1, h2, _⟩ := h
  obtain ⟨a, ha⟩ := kK hv (m := m) (by omega) hn h2
  exact ⟨.tight x a, hg, hb, h1, ha⟩
  rw [List.drop_of_length_le (by omega), n5 hn] at h; cases h
theorem sG {p : List Nd} (h : no p = true) : ∃ t : Pf, t.At p 0 ∧ t.size = p.length := by
 obtain ⟨h1, h2, h3, h4⟩ := gA h
 have h5 : ∃ r, endK (p.drop 0) 1 = some r := by
  unfold endP at h4
  cases e : endK (p.drop 0) 1 with
  | some r => exact ⟨r, Z⟩
  | none => rw [e] at h4; have h4 : (-1 : Int) = p.length := h4; omega
 obtain ⟨r, hr⟩ := h5
 obtain ⟨t, ht⟩ := kK h3 (cu _) (by decide) hr
 refine ⟨t, ht, ?_⟩
 rw [ht.endP] at h4
 omega
theorem lf {p : List Nd} (h : ow p = true) : p.length ≤ 60 ∧ ∃ t : Pf, t.At p 0 ∧ t.size = p.length := by
 unfold ow at h
 simp only [aX, decide_eq_true_eq] at h
 obtain ⟨k, d, hr⟩ := qg h.2.1
 obtain ⟨t, ht, hk⟩ := mR hr
 have h3 := h.2.2
 rw [hr] at h3
 have h3 : (k : Int) = p.length := h3
 exact ⟨by omega, t, ht, by omega⟩
theorem oI {p : List Nd} : ow p = no p := by
 rw [Bool.eq_iff_iff]
 constructor
 intro h
 obtain ⟨h1, t, ht, hs⟩ := lf h
 have hp := bE (t := t)
 unfold no
 rw [decide_eq_true (show (1 : Int) ≤ p.length by omega), decide_eq_true (show (p.length : Int) ≤ 60 by omega), ht.endP, decide_eq_true (show ((0 : Nat) : Int) + t.size = p.length by omega)]
 simp only [Bool.and_true, Bool.true_and, List.all_eq_true]
 intro n hn
 obtain ⟨j, hj, rfl⟩ := List.mem_iff_getElem.1 hn
 have := ht.valid (b9 j) (by omega)
 rwa [ar hj] at this
 intro h
 obtain ⟨t, ht, hs⟩ := sG h
 obtain ⟨h1, h2, _, _⟩ := gA h
 obtain ⟨d, hd⟩ := ht.beh (n := p.length + 1) (by omega)
 unfold ow
 rw [decide_eq_true (show (p.length : Int) ≤ 60 by omega), hd]
 show (true && decide (((0 + t.size : Nat) : Int) = p.length)) = true
 rw [decide_eq_true (by omega)]; rfl
structure Ex where
  es : List (Int × List Tm)
  flaw : Int
def jm : List (Int × List Tm) → Int → List Tm → List (Int × List Tm)
  | [], k, x => [(k, x)]
  | (j, y) :: r, k, x => if k = j then (k, x) :: r else (j, y) :: jm r k x
def ej : List (Int × List Tm) → Int → Option (List Tm)
  | [], _ => none
  | (j, x) :: r, k => if k = j then some x else ej r k
abbrev cm (es : List (Int × List Tm)) : List (Int × D) := es.map fun x => (x.1, ri x.2)
theorem kG {k : Int} {c : List Tm} : ∀ {es : List (Int × List Tm)}, kQ (cm es) k (ri c) = cm (jm es k c)
 | [] => rfl
 | (j, y) :: r => by
  show (if k = j then (k, ri c) :: cm r else (j, ri y) :: kQ (cm r) k (ri c)) = cm (if k = j then (k, c) :: r else (j, y) :: jm r k c)
  rw [kG]
  split <;> rfl
theorem i0 {k j : Int} {c : List Tm} : ∀ {es : List (Int × List Tm)}, ej (jm es k c) j = if j = k then some c else ej es j
 | [] => by simp [jm, ej]
 | (i, y) :: r => by
  unfold jm
  by_cases h : k = i
  subst h
  rw [if_pos Z]
  simp only [ej]
  split <;> rfl
  rw [if_neg h]
  simp only [ej, i0]
  by_cases h1 : j = i
  subst h1; rw [if_pos rfl, if_pos rfl, if_neg (fun e => h e.symm)]
  rw [if_neg h1, if_neg h1]
def Ex.put (e : Ex) (k : Nat) (c : List Tm) : Ex := { e with es := jm e.es k c }
def Ex.bad (e : Ex) (k : Nat) : Ex := if e.flaw < 0 then { e with flaw := k } else e
def dR (n : Nd) (c : List Tm) : Bool := decide ((c.length : Int) < 20) && (cJ n.term).ok
def e7 (n : Nd) (c : List Tm) : Bool := decide ((c.length : Int) < 20) && pG 0 ((c.length : Int) - 1) n.fact
def kA (n : Nd) (c : List Tm) : Tm × Bool := gp (c.getD n.fact.toNat default)
def fS : Pf → Nat → List Tm → Ex → Ex
  | .close n, k, c, e => if cx c n.mul = true then e.put k c else (e.put k c).bad k
  | .tight n a, k, c, e => if (e7 n c && (kA n c).2) = true then fS a (k + 1) (c ++ [(kA n c).1]) (e.put k c) else (e.put k c).bad k
  | .split n a b, k, c, e => if dR n c = true then fS b (k + 1 + a.size) (c ++ [cJ n.term]) (fS a (k + 1) (c ++ [n.term]) (e.put k c)) else (e.put k c).bad k
theorem CtxOk.snoc {c : List Tm} {t : Tm} (h : CtxOk c) (ht : t.ok = true) (hl : (c.length : Int) < 20) : CtxOk (c ++ [t]) := ⟨fun u hu => by
 rcases List.mem_append.1 hu with hu | hu
 exact h.ok u hu
 simp at hu; subst hu; exact ht, by simp; omega⟩
theorem uF : Try.prog.underlying 66 = some (.map 3 24) := by kernel_rfl
theorem u3 : Try.prog.underlying 3 = some (.int .i64) := by kernel_rfl
abbrev xH (p : List Nd) (e : Ex) : List (Nat × B) := [(0, .box [.d (uD p), .mp 1, .d (.int .i64 e.flaw)]), (1, kR (cm e.es))]
theorem mS {e : Ex} {k : Nat} (h : e.flaw < 0) : e.bad k = { e with flaw := k } := if_pos h
theorem mT {e : Ex} {k : Nat} (h : ¬ e.flaw < 0) : e.bad k = e := if_neg h
theorem vO {a b : Bool} : (bif a then b else false) = (a && b) := by cases a <;> rfl
variable {c0 : Tm} {r0 : List Tm}
theorem vj {e : Ex} (hA : Pf.At p (.close n) k) (hc : CtxOk (c0 :: r0)) (hpl : p.length ≤ 1000) : MQ h1 h2 54 [.c (.pt 0 0 0), eI k, bo (c0 :: r0)] (xH p e) (bR (eI ((k + Pf.size (.close n) : Nat) : Int)) (xH p (fS (.close n) k (c0 :: r0) e))) := by
 refine jH 112 [0,1] h1 h2 Try.func54 Z Z Z Z fun O hF => ?_
 obtain ⟨dd, hd⟩ := hA.beh (n := p.length + 1) (by omega)
 obtain ⟨hkl, hgn⟩ := bi hA.1
 have hnb := hA.2.1
 have hks := hA.le
 have hlc := hc.len
 refine ag (js O Z (aP (j4 O Z Z Z Z (js O Z (jf [21,20,6,0,1,2] Z (ab O Z Z Z Z ((rx (p := p) (n := p.length + 1) (k := k) h1 h2 (by omega) (by omega)).plain (u := .tup [eI ((k + Pf.size (.close n) : Nat) : Int), eI dd, eB true]) (by rw [hd])) (aa Z) Z Z Z Z (B0 := 23000) Z Z (j4 O Z Z Z Z (j3 O Z Z Z (jf [7,6,0,1,2] Z (aP (j4 O Z Z Z Z (js O Z (AOps.step ((aY O Z Z Z Z Z Z Z Z (fi hkl)).cast (v' := ptr n.cells) (by rw [hgn])) Z Z Z (js O Z (jf [32,7,6,0,1,2] Z (jl O Z (av ?_)))))))))))))))))
 refine jo O Z (av ?_)
 refine aP (j4 O Z Z Z Z (j2 O Z Z (jf [38,37,36,10,32,7,6,0,1,2] Z (AOps.heap (HS.mapUpdate (kt := 3) (et := 24) (q := .i64) (es := cm e.es) (k := (k : Int)) (v := ri (c0 :: r0)) O Z Z Z Z uF u3 Z Z Z Z Z) Z ?_))))
 rw [kG]
 obtain ⟨e1, he1⟩ : ∃ e1 : Ex, e1 = e.put k (c0 :: r0) := ⟨_, rfl⟩
 have he1s : jm e.es k (c0 :: r0) = e1.es := by rw [he1]; rfl
 have he1f : e.flaw = e1.flaw := by rw [he1]; rfl
 rw [he1s, he1f]
 refine av ?_
 refine av ?_
 refine jf [10,32,7,6,0,1,2] Z (aP (js O Z ?_))
 first | refine cj O Z ?_ | refine js O Z ?_ | refine bz O Z Z ?_
 refine j2 O Z Z (jf [11,10,32,7,6,0,1,2] Z (jn (ac (ag (j2 O Z Z (jn (ah (ag (j2 O Z Z (jn (ae O Z Z (fun hc44 => ?_) (fun hc44 => ?_))))))))))))
 refine ag (j3 O Z Z Z (jf [48,46,45,43,42,11,10,32,7,6,0,1,2] Z (ao O Z Z Z Z (yf (ctx := c0 :: r0) (ms := n.mul) h1 h2 hc (vf (tK hnb))) (aa Z) Z Z Z Z Z (B0 := 50000) Z (jf [49,45,43,42,11,10,32,7,6,0,1,2] Z (jn (ae O Z Z (fun hc49 => ?_) (fun hc49 => ?_)))))))
 refine ag (j2 O Z Z (jf [6,45,43,42,11,10,32,7,0,1,2] Z (jr ?_)))
 have hv : fS (.close n) k (c0 :: r0) e = e1 := by rw [he1]; exact if_pos hc49
 refine ⟨.inl Z, _, am [0,1] Z Z (e' := [(6, _)]) ⟨Z, trivial⟩ Z, _, Z, ?_, ?_⟩
 rfl
 rw [hv]; rfl
 refine aj (ac (ag (j4 O Z Z Z Z (js O Z (jf [106,45,43,42,11,10,32,7,6,0,1,2] Z (jn (ae O Z Z (fun hc106 => ?_) (fun hc106 => ?_))))))))
 refine af (j4 O Z Z Z Z (jf [110,108,45,43,42,11,10,32,7,6,0,1,2] Z (jo O Z (av ?_))))
 refine jf [45,43,42,11,10,32,7,6,0,1,2] Z (aP (j2 O Z Z (jr ?_)))
 have hv : fS (.close n) k (c0 :: r0) e = e1.bad k := by rw [he1]; exact if_neg (by rw [hc49]; decide)
 rw [mS (cI hc106)] at hv
 refine ⟨.inl Z, _, am [0,1] Z Z (e' := [(6, _)]) ⟨Z, trivial⟩ Z, _, Z, ?_, ?_⟩
 rfl
 rw [hv]; rfl
 refine aj (ag (j2 O Z Z (jf [6,45,43,42,11,10,32,7,0,1,2] Z (jr ?_))))
 have hv : fS (.close n) k (c0 :: r0) e = e1.bad k := by rw [he1]; exact if_neg (by rw [hc49]; decide)
 rw [mT (dh hc106)] at hv
 refine ⟨.inl Z, _, am [0,1] Z Z (e' := [(6, _)]) ⟨Z, trivial⟩ Z, _, Z, ?_, ?_⟩
 rfl
 rw [hv]; rfl
 exact absurd hA.2.2 (dh hc44)
theorem vi {a b : Pf} {e : Ex} (hA : Pf.At p (.split n a b) k) (hc : CtxOk (c0 :: r0)) (hpl : p.length ≤ 1000) (iha : ∀ {c0 : Tm} {r0 : List Tm} {e : Ex}, CtxOk (c0 :: r0) → MQ h1 h2 54 [.c (.pt 0 0 0), eI (k + 1 : Nat), bo (c0 :: r0)] (xH p e) (bR (eI ((k + 1 + a.size : Nat) : Int)) (xH p (fS a (k + 1) (c0 :: r0) e)))) (ihb : ∀ {c0 : Tm} {r0 : List Tm} {e : Ex}, CtxOk (c0 :: r0) → MQ h1 h2 54 [.c (.pt 0 0 0), eI (k + 1 + a.size : Nat), bo (c0 :: r0)] (xH p e) (bR (eI ((k + 1 + a.size + b.size : Nat) : Int)) (xH p (fS b (k + 1 + a.size) (c0 :: r0) e)))) : MQ h1 h2 54 [.c (.pt 0 0 0), eI k, bo (c0 :: r0)] (xH p e) (bR (eI ((k + Pf.size (.split n a b) : Nat) : Int)) (xH p (fS (.split n a b) k (c0 :: r0) e))) := by
 refine jH 112 [0,1] h1 h2 Try.func54 Z Z Z Z fun O hF => ?_
 obtain ⟨dd, hd⟩ := hA.beh (n := p.length + 1) (by omega)
 obtain ⟨hkl, hgn⟩ := bi hA.1
 have hnb := hA.2.1
 have hks := hA.le
 have hlc := hc.len
 refine ag (js O Z (aP (j4 O Z Z Z Z (js O Z (jf [21,20,6,0,1,2] Z (ab O Z Z Z Z ((rx (p := p) (n := p.length + 1) (k := k) h1 h2 (by omega) (by omega)).plain (u := .tup [eI ((k + Pf.size (.split n a b) : Nat) : Int), eI dd, eB true]) (by rw [hd])) (aa Z) Z Z Z Z (B0 := 23000) Z Z (j4 O Z Z Z Z (j3 O Z Z Z (jf [7,6,0,1,2] Z (aP (j4 O Z Z Z Z (js O Z (AOps.step ((aY O Z Z Z Z Z Z Z Z (fi hkl)).cast (v' := ptr n.cells) (by rw [hgn])) Z Z Z (js O Z (jf [32,7,6,0,1,2] Z (jl O Z (av ?_)))))))))))))))))
 refine jo O Z (av ?_)
 refine aP (j4 O Z Z Z Z (j2 O Z Z (jf [38,37,36,10,32,7,6,0,1,2] Z (AOps.heap (HS.mapUpdate (kt := 3) (et := 24) (q := .i64) (es := cm e.es) (k := (k : Int)) (v := ri (c0 :: r0)) O Z Z Z Z uF u3 Z Z Z Z Z) Z ?_))))
 rw [kG]
 obtain ⟨e1, he1⟩ : ∃ e1 : Ex, e1 = e.put k (c0 :: r0) := ⟨_, rfl⟩
 have he1s : jm e.es k (c0 :: r0) = e1.es := by rw [he1]; rfl
 have he1f : e.flaw = e1.flaw := by rw [he1]; rfl
 rw [he1s, he1f]
 refine av ?_
 refine av ?_
 refine jf [10,32,7,6,0,1,2] Z (aP (js O Z ?_))
 first | refine cj O Z ?_ | refine js O Z ?_ | refine bz O Z Z ?_
 refine j2 O Z Z (jf [11,10,32,7,6,0,1,2] Z (jn (ac (ag (j2 O Z Z (jn (ah (ag (j2 O Z Z (jn (ae O Z Z (fun hc44 => ?_) (fun hc44 => ?_))))))))))))
 exact absurd (cI hc44) (by rw [hA.2.2.1]; decide)
 refine ag (j2 O Z Z (jf [51,45,43,42,11,10,32,7,6,0,1,2] Z (jn (ae O Z Z (fun hc51 => ?_) (fun hc51 => ?_)))))
 refine ag (j2 O Z Z (jf [54,45,43,42,11,10,32,7,6,0,1,2] Z (ab O Z Z Z Z (ta (t := n.term) h1 h2 (i2 hnb)) (aa Z) Z Z Z Z (B0 := 56000) Z Z (jf [55,45,43,42,11,10,32,7,6,0,1,2] Z (jl O Z (av ?_))))))
 refine jo O Z (av ?_)
 refine aP (j2 O Z Z (jf [57,12,55,45,43,42,11,10,32,7,6,0,1,2] Z (aB 2 Z Z Z (fun hx => AN.step hx Z Z Z (V O Z) Z Z ( bl O hx Z Z Z Z (nu (t := cJ n.term) h1 h2) (aa Z) Z Z Z Z Z Z Z (B0 := 60000) Z ( AN.nil))) Z Z ?_)))
 first | refine AOps.step (aA O Z Z Z Z Z) Z Z Z ?_ | refine AOps.step (ay O Z Z Z Z Z) Z Z Z ?_ | refine AOps.step (Val.pickB O Z Z Z Z Z) Z Z Z ?_
 refine jf [60,12,55,45,43,42,11,10,32,7,6,0,1,2] Z (jn (ae O Z Z (fun hc60 => ?_) (fun hc60 => ?_)))
 refine ag ?_
 have hs : dR n (c0 :: r0) = true := by have h9 := hc60; rw [vO] at h9; exact h9
 have hs' := hs
 simp only [dR, aX, decide_eq_true_eq] at hs'
 have hcl := hs'.1
 have hok := hs'.2
 have hl1 : (c0 :: r0).length ≤ 1000 := hc.len
 refine j2 O Z Z ?_
 first | refine ji O Z ?_ | refine bz O Z Z ?_
 refine j3 O Z Z Z (jf [66,64,63,61,12,55,45,43,42,11,10,32,7,6,0,1,2] Z (ab O Z Z Z Z (s9 (c := c0) (r := r0) (t := n.term) h1 h2 hl1) (aa Z) Z Z Z Z (B0 := 68000) Z Z (jf [67,63,61,12,55,45,43,42,11,10,32,7,6,0,1,2] Z (aH O [0,1] (bin := [.box [.d (uD p), .mp 1, .d (.int .i64 (e1).flaw)], kR (cm (e1).es)]) Z Z Z Z (iha (c0 := c0) (r0 := r0 ++ [n.term]) (e := e1) (hc.snoc (i2 hnb) hcl)) Z Z Z Z Z Z (B0 := 69000) Z Z (av ?_)))))
 refine js O Z (jf [13,12,55,45,43,42,11,10,32,7,6,0,1,2] Z (aP ?_))
 obtain ⟨e2, he2⟩ : ∃ e2 : Ex, e2 = fS a (k + 1) (c0 :: (r0 ++ [n.term])) e1 := ⟨_, rfl⟩
 rw [show fS a (k + 1) (c0 :: (r0 ++ [n.term])) e1 = e2 from he2.symm]
 refine j4 O Z Z Z Z (jf [72,71,70,69,12,55,45,43,42,11,10,32,7,6,0,1,2] Z (ab O Z Z Z Z (s9 (c := c0) (r := r0) (t := cJ n.term) h1 h2 hl1) (aa Z) Z Z Z Z (B0 := 74000) Z Z (jf [73,70,69,12,55,45,43,42,11,10,32,7,6,0,1,2] Z (aH O [0,1] (bin := [.box [.d (uD p), .mp 1, .d (.int .i64 (e2).flaw)], kR (cm (e2).es)]) Z Z Z Z (ihb (c0 := c0) (r0 := r0 ++ [cJ n.term]) (e := e2) (hc.snoc hok hcl)) Z Z Z Z Z Z (B0 := 75000) Z Z (av ?_)))))
 refine js O Z (jf [6,12,55,45,43,42,11,10,32,7,0,1,2] Z (jr ?_))
 have hv : fS (.split n a b) k (c0 :: r0) e = fS b (k + 1 + a.size) (c0 :: r0 ++ [cJ n.term]) e2 := by rw [he2, he1]; exact if_pos hs
 refine ⟨.inl Z, _, am [0,1] Z Z (e' := [(6, _)]) ⟨Z, trivial⟩ Z, _, Z, ?_, ?_⟩
 exact congrArg (fun z : Nat => eI (z : Int)) (by simp only [Pf.size]; omega)
 rw [hv]; rfl
 refine aj (ac (ag (j4 O Z Z Z Z (js O Z (jf [106,12,55,45,43,42,11,10,32,7,6,0,1,2] Z (jn (ae O Z Z (fun hc106 => ?_) (fun hc106 => ?_))))))))
 refine af (j4 O Z Z Z Z (jf [110,108,12,55,45,43,42,11,10,32,7,6,0,1,2] Z (jo O Z (av ?_))))
 refine jf [12,55,45,43,42,11,10,32,7,6,0,1,2] Z (aP (j2 O Z Z (jr ?_)))
 have hv : fS (.split n a b) k (c0 :: r0) e = e1.bad k := by rw [he1]; exact if_neg (by rw [show dR n (c0 :: r0) = false by have h9 := hc60; rw [vO] at h9; exact h9]; decide)
 rw [mS (cI hc106)] at hv
 refine ⟨.inl Z, _, am [0,1] Z Z (e' := [(6, _)]) ⟨Z, trivial⟩ Z, _, Z, ?_, ?_⟩
 rfl
 rw [hv]; rfl
 refine aj (ag (j2 O Z Z (jf [6,12,55,45,43,42,11,10,32,7,0,1,2] Z (jr ?_))))
 have hv : fS (.split n a b) k (c0 :: r0) e = e1.bad k := by rw [he1]; exact if_neg (by rw [show dR n (c0 :: r0) = false by have h9 := hc60; rw [vO] at h9; exact h9]; decide)
 rw [mT (dh hc106)] at hv
 refine ⟨.inl Z, _, am [0,1] Z Z (e' := [(6, _)]) ⟨Z, trivial⟩ Z, _, Z, ?_, ?_⟩
 rfl
 rw [hv]; rfl
 exact absurd hA.2.2.1 (dh hc51)
theorem vg {a : Pf} {e : Ex} (hA : Pf.At p (.tight n a) k) (hc : CtxOk (c0 :: r0)) (hpl : p.length ≤ 1000) (iha : ∀ {c0 : Tm} {r0 : List Tm} {e : Ex}, CtxOk (c0 :: r0) → MQ h1 h2 54 [.c (.pt 0 0 0), eI (k + 1 : Nat), bo (c0 :: r0)] (xH p e) (bR (eI ((k + 1 + a.size : Nat) : Int)) (xH p (fS a (k + 1) (c0 :: r0) e)))) : MQ h1 h2 54 [.c (.pt 0 0 0), eI k, bo (c0 :: r0)] (xH p e) (bR (eI ((k + Pf.size (.tight n a) : Nat) : Int)) (xH p (fS (.tight n a) k (c0 :: r0) e))) := by
 refine jH 112 [0,1] h1 h2 Try.func54 Z Z Z Z fun O hF => ?_
 obtain ⟨dd, hd⟩ := hA.beh (n := p.length + 1) (by omega)
 obtain ⟨hkl, hgn⟩ := bi hA.1
 have hnb := hA.2.1
 have hks := hA.le
 have hlc := hc.len
 refine ag (js O Z (aP (j4 O Z Z Z Z (js O Z (jf [21,20,6,0,1,2] Z (ab O Z Z Z Z ((rx (p := p) (n := p.length + 1) (k := k) h1 h2 (by omega) (by omega)).plain (u := .tup [eI ((k + Pf.size (.tight n a) : Nat) : Int), eI dd, eB true]) (by rw [hd])) (aa Z) Z Z Z Z (B0 := 23000) Z Z (j4 O Z Z Z Z (j3 O Z Z Z (jf [7,6,0,1,2] Z (aP (j4 O Z Z Z Z (js O Z (AOps.step ((aY O Z Z Z Z Z Z Z Z (fi hkl)).cast (v' := ptr n.cells) (by rw [hgn])) Z Z Z (js O Z (jf [32,7,6,0,1,2] Z (jl O Z (av ?_)))))))))))))))))
 refine jo O Z (av ?_)
 refine aP (j4 O Z Z Z Z (j2 O Z Z (jf [38,37,36,10,32,7,6,0,1,2] Z (AOps.heap (HS.mapUpdate (kt := 3) (et := 24) (q := .i64) (es := cm e.es) (k := (k : Int)) (v := ri (c0 :: r0)) O Z Z Z Z uF u3 Z Z Z Z Z) Z ?_))))
 rw [kG]
 obtain ⟨e1, he1⟩ : ∃ e1 : Ex, e1 = e.put k (c0 :: r0) := ⟨_, rfl⟩
 have he1s : jm e.es k (c0 :: r0) = e1.es := by rw [he1]; rfl
 have he1f : e.flaw = e1.flaw := by rw [he1]; rfl
 rw [he1s, he1f]
 refine av ?_
 refine av ?_
 refine jf [10,32,7,6,0,1,2] Z (aP (js O Z ?_))
 first | refine cj O Z ?_ | refine js O Z ?_ | refine bz O Z Z ?_
 refine j2 O Z Z (jf [11,10,32,7,6,0,1,2] Z (jn (ac (ag (j2 O Z Z (jn (ah (ag (j2 O Z Z (jn (ae O Z Z (fun hc44 => ?_) (fun hc44 => ?_))))))))))))
 exact absurd (cI hc44) (by rw [hA.2.2.1]; decide)
 refine ag (j2 O Z Z (jf [51,45,43,42,11,10,32,7,6,0,1,2] Z (jn (ae O Z Z (fun hc51 => ?_) (fun hc51 => ?_)))))
 exact absurd (cI hc51) (by rw [hA.2.2.1]; decide)
 refine ag (j2 O Z Z (jf [75,45,43,42,11,10,32,7,6,0,1,2] Z (jn (ae O Z Z (fun hc75 => ?_) (fun hc75 => ?_)))))
 refine ag (j2 O Z Z (jf [78,45,43,42,11,10,32,7,6,0,1,2] Z (aB 5 Z Z Z (fun hx => AN.step hx Z Z Z (V O Z) Z Z ( AN.step hx Z Z Z (V O Z) Z Z ( AN.step hx Z Z Z (V O Z) Z Z ( AN.step hx Z Z Z (br O Z Z Z Z Z Z Z Z) Z Z ( bl O hx Z Z Z Z (c90 (k := n.fact) (n := (c0 :: r0).length) h1 h2 (by omega)) (aa Z) Z Z Z Z Z Z Z (B0 := 84000) Z ( AN.nil)))))) Z Z ?_)))
 first | refine AOps.step (aA O Z Z Z Z Z) Z Z Z ?_ | refine AOps.step (ay O Z Z Z Z Z) Z Z Z ?_ | refine AOps.step (Val.pickB O Z Z Z Z Z) Z Z Z ?_
 refine jf [84,45,43,42,11,10,32,7,6,0,1,2] Z (jn (ae O Z Z (fun hc84 => ?_) (fun hc84 => ?_)))
 refine ag ?_
 have hs : e7 n (c0 :: r0) = true := by have h9 := hc84; rw [vO] at h9; exact h9
 have hs' := hs
 simp only [e7, pG, aX, decide_eq_true_eq] at hs'
 have hcl := hs'.1
 have hf0 := hs'.2.1
 have hf1 := hs'.2.2
 have hl1 : (c0 :: r0).length ≤ 1000 := hc.len
 have hgt := hc.get (show n.fact.toNat < (c0 :: r0).length by omega)
 refine j3 O Z Z Z (AOps.step (gb O Z Z Z Z Z Z Z Z hf0 (kH hf0 (by omega))) Z Z Z (js O Z (jf [90,45,43,42,11,10,32,7,6,0,1,2] Z (ab O Z Z Z Z (wg (t := (c0 :: r0).getD n.fact.toNat default) h1 h2 (bh hgt)) (aa Z) Z Z Z Z (B0 := 92000) Z Z (j3 O Z Z Z (jf [93,92,45,43,42,11,10,32,7,6,0,1,2] Z (jl O Z (av ?_))))))))
 refine jo O Z (av ?_)
 refine js O Z (jf [15,14,45,43,42,11,10,32,7,6,0,1,2] Z (aP (js O Z (jn (ae O Z Z (fun hc94 => ?_) (fun hc94 => ?_))))))
 refine ag ?_
 have htok : (kA n (c0 :: r0)).1.ok = true := by have h9 : (kA n (c0 :: r0)).2 = true := hc94; unfold kA at h9 ⊢; rw [dC hgt] at h9 ⊢; exact fG h9
 refine j2 O Z Z ?_
 first | refine ji O Z ?_ | refine bz O Z Z ?_
 refine j2 O Z Z (jf [99,98,97,95,15,14,45,43,42,11,10,32,7,6,0,1,2] Z (ab O Z Z Z Z (s9 (c := c0) (r := r0) (t := (kA n (c0 :: r0)).1) h1 h2 hl1) (aa Z) Z Z Z Z (B0 := 101000) Z Z (jf [100,97,95,15,14,45,43,42,11,10,32,7,6,0,1,2] Z (aH O [0,1] (bin := [.box [.d (uD p), .mp 1, .d (.int .i64 (e1).flaw)], kR (cm (e1).es)]) Z Z Z Z (iha (c0 := c0) (r0 := r0 ++ [(kA n (c0 :: r0)).1]) (e := e1) (hc.snoc htok hcl)) Z Z Z Z Z Z (B0 := 102000) Z Z (av ?_)))))
 refine js O Z (jf [6,15,14,45,43,42,11,10,32,7,0,1,2] Z (jr ?_))
 have hv : fS (.tight n a) k (c0 :: r0) e = fS a (k + 1) (c0 :: r0 ++ [(kA n (c0 :: r0)).1]) e1 := by rw [he1]; exact if_pos (by rw [hs]; exact hc94)
 refine ⟨.inl Z, _, am [0,1] Z Z (e' := [(6, _)]) ⟨Z, trivial⟩ Z, _, Z, ?_, ?_⟩
 exact congrArg (fun z : Nat => eI (z : Int)) (by simp only [Pf.size]; omega)
 rw [hv]; rfl
 refine aj (ac (ag (j4 O Z Z Z Z (js O Z (jf [106,15,14,45,43,42,11,10,32,7,6,0,1,2] Z (jn (ae O Z Z (fun hc106 => ?_) (fun hc106 => ?_))))))))
 refine af (j4 O Z Z Z Z (jf [110,108,15,14,45,43,42,11,10,32,7,6,0,1,2] Z (jo O Z (av ?_))))
 refine jf [15,14,45,43,42,11,10,32,7,6,0,1,2] Z (aP (j2 O Z Z (jr ?_)))
 have hv : fS (.tight n a) k (c0 :: r0) e = e1.bad k := by rw [he1]; exact if_neg (by rw [show (e7 n (c0 :: r0) && (kA n (c0 :: r0)).2) = false by rw [show (kA n (c0 :: r0)).2 = false from hc94, Bool.and_false]]; decide)
 rw [mS (cI hc106)] at hv
 refine ⟨.inl Z, _, am [0,1] Z Z (e' := [(6, _)]) ⟨Z, trivial⟩ Z, _, Z, ?_, ?_⟩
 rfl
 rw [hv]; rfl
 refine aj (ag (j2 O Z Z (jf [6,15,14,45,43,42,11,10,32,7,0,1,2] Z (jr ?_))))
 have hv : fS (.tight n a) k (c0 :: r0) e = e1.bad k := by rw [he1]; exact if_neg (by rw [show (e7 n (c0 :: r0) && (kA n (c0 :: r0)).2) = false by rw [show (kA n (c0 :: r0)).2 = false from hc94, Bool.and_false]]; decide)
 rw [mT (dh hc106)] at hv
 refine ⟨.inl Z, _, am [0,1] Z Z (e' := [(6, _)]) ⟨Z, trivial⟩ Z, _, Z, ?_, ?_⟩
 rfl
 rw [hv]; rfl
 refine aj (ac (ag (j4 O Z Z Z Z (js O Z (jf [106,45,43,42,11,10,32,7,6,0,1,2] Z (jn (ae O Z Z (fun hc106 => ?_) (fun hc106 => ?_))))))))
 refine af (j4 O Z Z Z Z (jf [110,108,45,43,42,11,10,32,7,6,0,1,2] Z (jo O Z (av ?_))))
 refine jf [45,43,42,11,10,32,7,6,0,1,2] Z (aP (j2 O Z Z (jr ?_)))
 have hv : fS (.tight n a) k (c0 :: r0) e = e1.bad k := by rw [he1]; exact if_neg (by rw [show e7 n (c0 :: r0) = false by have h9 := hc84; rw [vO] at h9; exact h9, Bool.false_and]; decide)
 rw [mS (cI hc106)] at hv
 refine ⟨.inl Z, _, am [0,1] Z Z (e' := [(6, _)]) ⟨Z, trivial⟩ Z, _, Z, ?_, ?_⟩
 rfl
 rw [hv]; rfl
 refine aj (ag (j2 O Z Z (jf [6,45,43,42,11,10,32,7,0,1,2] Z (jr ?_))))
 have hv : fS (.tight n a) k (c0 :: r0) e = e1.bad k := by rw [he1]; exact if_neg (by rw [show e7 n (c0 :: r0) = false by have h9 := hc84; rw [vO] at h9; exact h9, Bool.false_and]; decide)
 rw [mT (dh hc106)] at hv
 refine ⟨.inl Z, _, am [0,1] Z Z (e' := [(6, _)]) ⟨Z, trivial⟩ Z, _, Z, ?_, ?_⟩
 rfl
 rw [hv]; rfl
 exact absurd hA.2.2.1 (dh hc75)
theorem tc {L : Nat} (h1 : 4096 ≤ L) (h2 : L ≤ 1073741824) {p : List Nd} (hpl : p.length ≤ 1000) : ∀ {t : Pf} {k : Nat}, t.At p k → ∀ {c0 : Tm} {r0 : List Tm} {e : Ex}, CtxOk (c0 :: r0) →
  MC Try.prog L 54 [.c (.pt 0 0 0), eI k, bo (c0 :: r0)] (xH p e) (bR (eI ((k + t.size : Nat) : Int)) (xH p (fS t k (c0 :: r0) e)))
 | .close n, k, h, _, _, _, hc => vj h1 h2 h hc hpl
 | .split n a b, k, h, _, _, _, hc => vi h1 h2 h hc hpl (fun hc' => tc h1 h2 hpl h.2.2.2.1 hc') (fun hc' => tc h1 h2 hpl h.2.2.2.2 hc')
 | .tight n a, k, h, _, _, _, hc => vg h1 h2 h hc hpl (fun hc' => tc h1 h2 hpl h.2.2.2 hc')
def fl (b : Nat → Bool) : Nat → Nat → Int → Int
  | _, 0, f => f
  | k, n + 1, f => fl b (k + 1) n (if b k = true ∧ f < 0 then (k : Int) else f)
theorem nb {b : Nat → Bool} : ∀ {n k : Nat} {f : Int}, (∀ j, k ≤ j → j < k + n → b j = false) → fl b k n f = f
 | 0, _, _, _ => rfl
 | n + 1, k, f, h => by
  unfold fl
  rw [h k (cu _) (by omega), if_neg (by simp)]
  exact nb fun j h1 h2 => h j (by omega) (by omega)
theorem oL {b : Nat → Bool} : ∀ {m n k : Nat} {f : Int}, fl b k (m + n) f = fl b (k + m) n (fl b k m f)
 | 0, n, k, f => by rw [Nat.zero_add]; rfl
 | m + 1, n, k, f => by
  rw [show m + 1 + n = (m + n) + 1 by omega]
  show fl b (k + 1) (m + n) _ = fl b (k + (m + 1)) n (fl b (k + 1) m _)
  rw [oL, show k + 1 + m = k + (m + 1) by omega]
theorem tS {b : Nat → Bool} {n k : Nat} {f : Int} : fl b k (n + 1) f = if b (k + n) = true ∧ fl b k n f < 0 then ((k + n : Nat) : Int) else fl b k n f := by
 rw [oL]; rfl
structure Eqs (p : List Nd) (c0 : List Tm) (H : Nat → Bool) (A : Nat → List Tm) (R : Nat → Bool) : Prop where
  h0 : 0 < p.length → H 0 = true ∧ A 0 = c0
  h : ∀ j, 0 < j → j < p.length → H j = R (lR p j j).1.toNat
  a : ∀ j, 0 < j → j < p.length → H j = true → A j = gt (p.getD (lR p j j).1.toNat default) (A (lR p j j).1.toNat) (lR p j j).2
  r : ∀ j, j < p.length → R j = (H j && fj (p.getD j default) (A j))
theorem ic {p : List Nd} {c0 : List Tm} (hp : no p = true) (h0 : CtxOk c0) {n : Nat} : ∀ {m : Nat}, n ≤ m → m ≤ p.length → ∀ j, j < n →
    (bk p c0 m).all.getD j default = (bk p c0 n).all.getD j default ∧ (bk p c0 m).has.getD j default = (bk p c0 n).has.getD j default ∧ (bk p c0 m).right.getD j default = (bk p c0 n).right.getD j default
 | 0, h, _, j, hj => by omega
 | m + 1, h, hm, j, hj => by
  by_cases e : n = m + 1
  subst e; exact ⟨rfl, rfl, rfl⟩
  have ih := ic hp h0 (n := n) (m := m) (by omega) (by omega) j hj
  have hz := lu (c0 := c0) hp h0 (k := m) (by omega)
  show ((bk p c0 m).all ++ [_]).getD j default = _ ∧ ((bk p c0 m).has ++ [_]).getD j default = _ ∧ ((bk p c0 m).right ++ [_]).getD j default = _
  rw [cR, cR, cR, hz.all, hz.has, hz.right, if_neg (by omega), if_neg (by omega), if_neg (by omega)]
  exact ih
theorem gE {p : List Nd} {c0 : List Tm} (hp : no p = true) (h0 : CtxOk c0) {j : Nat} (hj : j < p.length) :
    (bk p c0 p.length).all.getD j default = qw p c0 j (bk p c0 j) ∧ (bk p c0 p.length).has.getD j default = iR p j (bk p c0 j) ∧ (bk p c0 p.length).right.getD j default = jA p c0 j (bk p c0 j) := by
 have h1 := ic (c0 := c0) hp h0 (n := j + 1) (m := p.length) (by omega) (cu _) j (by omega)
 have hz := lu (c0 := c0) hp h0 (k := j) (by omega)
 rw [h1.1, h1.2.1, h1.2.2]
 show ((bk p c0 j).all ++ [_]).getD j default = _ ∧ ((bk p c0 j).has ++ [_]).getD j default = _ ∧ ((bk p c0 j).right ++ [_]).getD j default = _
 rw [cR, cR, cR, hz.all, hz.has, hz.right, if_pos Z, if_pos Z, if_pos Z]
 exact ⟨Z, Z, Z⟩
theorem qW {p : List Nd} {c0 : List Tm} (hp : no p = true) (h0 : CtxOk c0) :
    Eqs p c0 (fun j => (bk p c0 p.length).has.getD j default) (fun j => (bk p c0 p.length).all.getD j default) (fun j => (bk p c0 p.length).right.getD j default) := by
 refine ⟨fun h => ?_, fun j hj0 hj => ?_, fun j hj0 hj hH => ?_, fun j hj => ?_⟩
 have := gE (c0 := c0) hp h0 h
 exact ⟨this.2.1, this.1⟩
 have h1 := gE (c0 := c0) hp h0 hj
 obtain ⟨a, ha, hak⟩ := oE hp hj0 hj
 have h2 := ic (c0 := c0) hp h0 (n := j) (m := p.length) (by omega) (cu _) a hak
 show (bk p c0 p.length).has.getD j default = _
 rw [h1.2.1, iR, if_neg (by omega)]
 show _ = (bk p c0 p.length).right.getD _ default
 rw [ha, Int.toNat_natCast, h2.2.2]
 have h1 := gE (c0 := c0) hp h0 hj
 obtain ⟨a, ha, hak⟩ := oE hp hj0 hj
 have h2 := ic (c0 := c0) hp h0 (n := j) (m := p.length) (by omega) (cu _) a hak
 have hH : (bk p c0 p.length).has.getD j default = true := hH
 show (bk p c0 p.length).all.getD j default = _
 rw [h1.1, qw, if_neg (by omega), if_pos (by rw [← h1.2.1]; exact hH)]
 show _ = gt _ ((bk p c0 p.length).all.getD _ default) _
 rw [ha, Int.toNat_natCast, h2.1]
 have h1 := gE (c0 := c0) hp h0 hj
 show (bk p c0 p.length).right.getD j default = _
 rw [h1.2.2, jA, ← h1.1, ← h1.2.1]
theorem lK {p : List Nd} {c0 : List Tm} (hp : no p = true) (h0 : CtxOk c0) : ∀ {n : Nat}, n ≤ p.length →
    (bk p c0 n).flaw = fl (fun j => (bk p c0 p.length).has.getD j default && !(bk p c0 p.length).right.getD j default) 0 n (-1)
 | 0, _ => rfl
 | n + 1, hn => by
  have h1 := gE (c0 := c0) hp h0 (show n < p.length by omega)
  rw [tS, ← lK hp h0 (n := n) (by omega), Nat.zero_add, h1.2.1, h1.2.2]
  show (if ((iR p n (bk p c0 n) && !jA p c0 n (bk p c0 n)) && decide ((bk p c0 n).flaw < 0)) = true then (n : Int) else (bk p c0 n).flaw) = _
  simp only [aX, decide_eq_true_eq]
theorem Pf.At.nested {p : List Nd} : ∀ {t : Pf} {k i : Nat}, t.At p k → k ≤ i → i < k + t.size → Al.endP p i ≤ ((k + t.size : Nat) : Int)
 | .close x, k, i, h, h1, h2 => by
  simp only [Pf.size] at h2
  obtain rfl : i = k := by omega
  rw [h.endP]; omega
 | .tight x a, k, i, h, h1, h2 => by
  by_cases e : i = k
  subst e; rw [h.endP]; omega
  simp only [Pf.size] at h2 ⊢
  have := h.2.2.2.nested (i := i) (by omega) (by omega)
  omega
 | .split x a b, k, i, h, h1, h2 => by
  by_cases e : i = k
  subst e; rw [h.endP]; omega
  simp only [Pf.size] at h2 ⊢
  by_cases e2 : i < k + 1 + a.size
  have := h.2.2.2.1.nested (i := i) (by omega) (by omega)
  omega
  have := h.2.2.2.2.nested (i := i) (by omega) (by omega)
  omega
theorem nO {p : List Nd} {k lo : Nat} : ∀ {hi : Nat}, lo ≤ hi → (∀ i, lo ≤ i → i < hi → Al.endP p i ≤ k) → lR p k hi = lR p k lo
 | 0, h, _ => by
  obtain rfl : lo = 0 := by omega
  rfl
 | hi + 1, h, hs => by
  by_cases e : lo = hi + 1
  rw [e]
  rw [lR, if_pos (.inr (hs hi (by omega) (by omega)))]
  exact nO (by omega) fun i h1 h2 => hs i h1 (by omega)
theorem hJ {p : List Nd} {k : Nat} (hk : (p.getD k default).kind ≠ 1) (he : ((k + 1 : Nat) : Int) < Al.endP p k) : lR p (k + 1) (k + 1) = ((k : Int), true) := by
 rw [lR, if_neg (by rintro (h | h); exact hk h; omega)]
 simp
theorem lC {p : List Nd} {k m : Nat} (hm : 0 < m) (hk : (p.getD k default).kind ≠ 1) (he : ((k + 1 + m : Nat) : Int) < Al.endP p k) (hs : ∀ i, k + 1 ≤ i → i < k + 1 + m → Al.endP p i ≤ ((k + 1 + m : Nat) : Int)) : lR p (k + 1 + m) (k + 1 + m) = ((k : Int), false) := by
 rw [nO (lo := k + 1) (by omega) hs, lR, if_neg (by rintro (h | h); exact hk h; omega)]
 simp; omega
theorem Pf.At.dead {p : List Nd} {c0 H A R} (E : Eqs p c0 H A R) : ∀ {t : Pf} {k : Nat}, t.At p k → H k = false → ∀ j, k ≤ j → j < k + t.size → H j = false
 | .close x, k, h, hk, j, h1, h2 => by
  simp only [Pf.size] at h2
  obtain rfl : j = k := by omega
  exact hk
 | .tight x a, k, h, hk, j, h1, h2 => by
  by_cases e : j = k
  subst e; exact hk
  have hl := h.le
  have hp := bE (t := a)
  simp only [Pf.size] at h2 hl
  have hpar := hJ (p := p) (k := k) (by rw [(bi h.1).2, h.2.2.1]; decide) (by rw [h.endP]; simp only [Pf.size]; omega)
  refine h.2.2.2.dead E ?_ j (by omega) (by omega)
  rw [E.h (k + 1) (by omega) (by omega), hpar, Int.toNat_natCast, E.r k (by omega), hk]; rfl
 | .split x a b, k, h, hk, j, h1, h2 => by
  by_cases e : j = k
  subst e; exact hk
  have hl := h.le
  have hp := bE (t := a)
  have hq := bE (t := b)
  simp only [Pf.size] at h2 hl
  have hkk : (p.getD k default).kind ≠ 1 := by rw [(bi h.1).2, h.2.2.1]; decide
  have hend : Al.endP p k = ((k + 1 + a.size + b.size : Nat) : Int) := by rw [h.endP]; simp only [Pf.size]; omega
  have hpar := hJ (p := p) (k := k) hkk (by rw [hend]; omega)
  have hpar2 := lC (p := p) (k := k) (m := a.size) hp hkk (by rw [hend]; omega) (fun i h1 h2 => h.2.2.2.1.nested h1 h2)
  have hr : R k = false := by rw [E.r k (by omega), hk]; rfl
  by_cases e2 : j < k + 1 + a.size
  refine h.2.2.2.1.dead E ?_ j (by omega) (by omega)
  rw [E.h (k + 1) (by omega) (by omega), hpar, Int.toNat_natCast, hr]
  refine h.2.2.2.2.dead E ?_ j (by omega) (by omega)
  rw [E.h (k + 1 + a.size) (by omega) (by omega), hpar2, Int.toNat_natCast, hr]
theorem uV {n : Nd} {c : List Tm} (h : n.kind = 2) : fj n c = dR n c := by
 unfold fj dR
 rw [if_neg (by omega), ij]
 by_cases h1 : 20 ≤ c.length
 rw [if_pos h1, decide_eq_false (by omega), Bool.false_and]
 rw [if_neg h1, if_pos h, decide_eq_true (by omega), Bool.true_and]
theorem uU {n : Nd} {c : List Tm} (hn : di n = true) (h : n.kind = 3) (hc : CtxOk c) : fj n c = (e7 n c && (kA n c).2) := by
 have hf := ld hn
 unfold fj e7 kA pG
 rw [if_neg (by omega)]
 by_cases h1 : 20 ≤ c.length
 rw [if_pos h1, decide_eq_false (show ¬ (c.length : Int) < 20 by omega), Bool.false_and, Bool.false_and]
 rw [if_neg h1, if_neg (by omega), decide_eq_true (show (c.length : Int) < 20 by omega), Bool.true_and, decide_eq_true hf, Bool.true_and]
 by_cases h2 : n.fact ≥ c.length
 rw [if_pos h2, decide_eq_false (by omega), Bool.false_and]
 rw [if_neg h2, decide_eq_true (by omega), Bool.true_and, dC (hc.get (by omega))]
theorem oK {b : Nat → Bool} {n k : Nat} {f : Int} (hk : b k = true) (h : ∀ j, k < j → j < k + (n + 1) → b j = false) : fl b k (n + 1) f = if f < 0 then (k : Int) else f := by
 unfold fl
 rw [nb fun j h1 h2 => h j (by omega) (by omega)]
 simp [hk]
theorem qf {b : Nat → Bool} {n k : Nat} {f : Int} (hk : b k = false) : fl b k (n + 1) f = fl b (k + 1) n f := by
 rw [fl, if_neg (by simp [hk])]
def mH (H : Nat → Bool) (A : Nat → List Tm) (j : Nat) : Option (List Tm) := if H j = true then some (A j) else none
theorem Pf.At.exam {p : List Nd} {c0 H A R} (E : Eqs p c0 H A R) : ∀ {t : Pf} {k : Nat} {e : Ex}, t.At p k → H k = true → CtxOk (A k) → (∀ j, k ≤ j → j < k + t.size → ej e.es j = none) →
    (fS t k (A k) e).flaw = fl (fun j => H j && !R j) k t.size e.flaw ∧ ∀ j : Nat, ej (fS t k (A k) e).es j = if k ≤ j ∧ j < k + t.size then mH H A j else ej e.es j
 | .close x, k, e, h, hk, hc, hn => by
  obtain ⟨hl, hg⟩ := bi h.1
  have hr : R k = cx (A k) x.mul := by rw [E.r k hl, hk, hg, fj, if_pos h.2.2, Bool.true_and, mz]
  have hes : ∀ j : Nat, ej (e.put k (A k)).es j = if k ≤ j ∧ j < k + 1 then mH H A j else ej e.es j := fun j => by
   show ej (jm e.es k (A k)) j = _
   rw [i0]
   by_cases e1 : j = k
   · subst e1; rw [if_pos rfl, if_pos (by omega), mH, if_pos hk]
   · rw [if_neg (by omega), if_neg (by omega)]
  unfold fS
  cases hcl : cx (A k) x.mul with
  | true =>
   rw [if_pos Z]
   refine ⟨?_, hes⟩
   show e.flaw = _
   have h0 : ∀ j, k ≤ j → j < k + 1 → (H j && !R j) = false := fun j h1 h2 => by
    obtain rfl : j = k := by omega
    rw [hr, hcl]; simp
   rw [Pf.size, nb h0]
  | false =>
   rw [if_neg (by decide)]
   have hb : (fun j => H j && !R j) k = true := by show (H k && !R k) = true; rw [hk, hr, hcl]; rfl
   refine ⟨?_, fun j => ?_⟩
   show ((e.put k (A k)).bad k).flaw = fl _ k (0 + 1) _
   rw [oK hb (fun j h1 h2 => by omega)]
   unfold Ex.bad
   show (if e.flaw < 0 then _ else _ : Ex).flaw = _
   split <;> rfl
   rw [Pf.size, ← hes j]
   unfold Ex.bad
   split <;> rfl
 | .tight x a, k, e, h, hk, hc, hn => by
  obtain ⟨hl, hg⟩ := bi h.1
  have hll := h.le
  have hp := bE (t := a)
  simp only [Pf.size] at hll hn
  have hr : R k = (e7 x (A k) && (kA x (A k)).2) := by rw [E.r k hl, hk, hg, uU h.2.1 h.2.2.1 hc, Bool.true_and]
  have hpar := hJ (p := p) (k := k) (by rw [hg, h.2.2.1]; decide) (by rw [h.endP]; simp only [Pf.size]; omega)
  have hH1 : H (k + 1) = R k := by rw [E.h (k + 1) (by omega) (by omega), hpar, Int.toNat_natCast]
  have hput : ∀ j : Nat, ej (e.put k (A k)).es j = if j = k then some (A k) else ej e.es j := fun j => by
   show ej (jm e.es k (A k)) j = _
   rw [i0]
   by_cases e1 : j = k
   · rw [if_pos e1, if_pos (by omega)]
   · rw [if_neg (by omega), if_neg e1]
  unfold fS
  cases hcl : (e7 x (A k) && (kA x (A k)).2) with
  | true =>
   rw [hcl] at hr
   rw [if_pos Z]
   rw [hr] at hH1
   have hcl' := hcl
   simp only [e7, pG, aX, decide_eq_true_eq] at hcl'
   have hA1 : A (k + 1) = A k ++ [(kA x (A k)).1] := by
    rw [E.a (k + 1) (by omega) (by omega) hH1, hpar, Int.toNat_natCast, hg, gt, if_pos h.2.2.1]
    unfold kA
    rw [dC (hc.get (by omega))]
   have htok : (kA x (A k)).1.ok = true := by
    have h9 := hcl'.2
    unfold kA at h9 ⊢
    rw [dC (hc.get (by omega))] at h9 ⊢
    exact fG h9
   have ih := h.2.2.2.exam E (e := e.put k (A k)) hH1 (by rw [hA1]; exact hc.snoc htok hcl'.1.1) (fun j h1 h2 => by rw [hput, if_neg (by omega)]; exact hn j (by omega) (by omega))
   rw [hA1] at ih
   refine ⟨?_, fun j => ?_⟩
   rw [ih.1, Pf.size, Nat.add_comm 1, qf (by show (H k && !R k) = false; rw [hr]; simp)]
   rfl
   rw [ih.2 j, hput j, Pf.size]
   by_cases e1 : j = k
   subst e1; rw [if_neg (by omega), if_pos rfl, if_pos (by omega), mH, if_pos hk]
   by_cases e2 : k + 1 ≤ j ∧ j < k + 1 + a.size
   rw [if_pos e2, if_pos (by omega)]
   rw [if_neg e2, if_neg e1, if_neg (by omega)]
  | false =>
   rw [hcl] at hr
   rw [if_neg (by decide)]
   rw [hr] at hH1
   have hd := h.2.2.2.dead E hH1
   have hb : (fun j => H j && !R j) k = true := by show (H k && !R k) = true; rw [hk, hr]; rfl
   refine ⟨?_, fun j => ?_⟩
   rw [Pf.size, Nat.add_comm 1, oK hb (fun j h1 h2 => by show (H j && !R j) = false; rw [hd j (by omega) (by omega)]; rfl)]
   unfold Ex.bad
   show (if e.flaw < 0 then _ else _ : Ex).flaw = _
   split <;> rfl
   have : ej ((e.put k (A k)).bad k).es j = ej (e.put k (A k)).es j := by unfold Ex.bad; split <;> rfl
   rw [this, hput j, Pf.size]
   by_cases e1 : j = k
   subst e1; rw [if_pos rfl, if_pos (by omega), mH, if_pos hk]
   rw [if_neg e1]
   by_cases e2 : k ≤ j ∧ j < k + (1 + a.size)
   rw [if_pos e2, mH, hd j (by omega) (by omega), if_neg (by decide)]
   exact hn j e2.1 (by omega)
   rw [if_neg e2]
 | .split x a b, k, e, h, hk, hc, hn => by
  obtain ⟨hl, hg⟩ := bi h.1
  have hll := h.le
  have hp := bE (t := a)
  have hq := bE (t := b)
  simp only [Pf.size] at hll hn
  have hr : R k = dR x (A k) := by rw [E.r k hl, hk, hg, uV h.2.2.1, Bool.true_and]
  have hkk : (p.getD k default).kind ≠ 1 := by rw [hg, h.2.2.1]; decide
  have hend : Al.endP p k = ((k + 1 + a.size + b.size : Nat) : Int) := by rw [h.endP]; simp only [Pf.size]; omega
  have hpar := hJ (p := p) (k := k) hkk (by rw [hend]; omega)
  have hpar2 := lC (p := p) (k := k) (m := a.size) hp hkk (by rw [hend]; omega) (fun i h1 h2 => h.2.2.2.1.nested h1 h2)
  have hH1 : H (k + 1) = R k := by rw [E.h (k + 1) (by omega) (by omega), hpar, Int.toNat_natCast]
  have hH2 : H (k + 1 + a.size) = R k := by rw [E.h (k + 1 + a.size) (by omega) (by omega), hpar2, Int.toNat_natCast]
  have hput : ∀ j : Nat, ej (e.put k (A k)).es j = if j = k then some (A k) else ej e.es j := fun j => by
   show ej (jm e.es k (A k)) j = _
   rw [i0]
   by_cases e1 : j = k
   · rw [if_pos e1, if_pos (by omega)]
   · rw [if_neg (by omega), if_neg e1]
  unfold fS
  cases hcl : dR x (A k) with
  | true =>
   rw [hcl] at hr
   rw [if_pos Z]
   rw [hr] at hH1 hH2
   have hcl' := hcl
   simp only [dR, aX, decide_eq_true_eq] at hcl'
   have hA1 : A (k + 1) = A k ++ [x.term] := by
    rw [E.a (k + 1) (by omega) (by omega) hH1, hpar, Int.toNat_natCast, hg, gt, if_neg (by rw [h.2.2.1]; decide), if_pos Z]
   have hA2 : A (k + 1 + a.size) = A k ++ [cJ x.term] := by
    rw [E.a (k + 1 + a.size) (by omega) (by omega) hH2, hpar2, Int.toNat_natCast, hg, gt, if_neg (by rw [h.2.2.1]; decide), if_neg (show ¬ ((k : Int), false).2 = true from Bool.false_ne_true), rG hcl'.2]
   have ih1 := h.2.2.2.1.exam E (e := e.put k (A k)) hH1 (by rw [hA1]; exact hc.snoc (i2 h.2.1) hcl'.1) (fun j h1 h2 => by rw [hput, if_neg (by omega)]; exact hn j (by omega) (by omega))
   rw [hA1] at ih1
   have ih2 := h.2.2.2.2.exam E (e := fS a (k + 1) (A k ++ [x.term]) (e.put k (A k))) hH2 (by rw [hA2]; exact hc.snoc hcl'.2 hcl'.1) (fun j h1 h2 => by
    rw [ih1.2 j, if_neg (by omega), hput, if_neg (by omega)]; exact hn j (by omega) (by omega))
   rw [hA2] at ih2
   refine ⟨?_, fun j => ?_⟩
   rw [ih2.1, ih1.1, Pf.size, show 1 + a.size + b.size = (a.size + b.size) + 1 by omega, qf (by show (H k && !R k) = false; rw [hr]; simp), oL]
   rfl
   rw [ih2.2 j, ih1.2 j, hput j, Pf.size]
   by_cases e1 : j = k
   subst e1; rw [if_neg (by omega), if_neg (by omega), if_pos rfl, if_pos (by omega), mH, if_pos hk]
   by_cases e2 : k + 1 + a.size ≤ j ∧ j < k + 1 + a.size + b.size
   rw [if_pos e2, if_pos (by omega)]
   rw [if_neg e2]
   by_cases e3 : k + 1 ≤ j ∧ j < k + 1 + a.size
   rw [if_pos e3, if_pos (by omega)]
   rw [if_neg e3, if_neg e1, if_neg (by omega)]
  | false =>
   rw [hcl] at hr
   rw [if_neg (by decide)]
   rw [hr] at hH1 hH2
   have hd1 := h.2.2.2.1.dead E hH1
   have hd2 := h.2.2.2.2.dead E hH2
   have hd : ∀ j, k < j → j < k + (1 + a.size + b.size) → H j = false := fun j h1 h2 => by
    by_cases e2 : j < k + 1 + a.size
    · exact hd1 j (by omega) e2
    · exact hd2 j (by omega) (by omega)
   have hb : (fun j => H j && !R j) k = true := by show (H k && !R k) = true; rw [hk, hr]; rfl
   refine ⟨?_, fun j => ?_⟩
   rw [Pf.size, show 1 + a.size + b.size = (a.size + b.size) + 1 by omega, oK hb (fun j h1 h2 => by show (H j && !R j) = false; rw [hd j h1 (by omega)]; rfl)]
   unfold Ex.bad
   show (if e.flaw < 0 then _ else _ : Ex).flaw = _
   split <;> rfl
   have : ej ((e.put k (A k)).bad k).es j = ej (e.put k (A k)).es j := by unfold Ex.bad; split <;> rfl
   rw [this, hput j, Pf.size]
   by_cases e1 : j = k
   subst e1; rw [if_pos rfl, if_pos (by omega), mH, if_pos hk]
   rw [if_neg e1]
   by_cases e2 : k ≤ j ∧ j < k + (1 + a.size + b.size)
   rw [if_pos e2, mH, hd j (by omega) e2.2, if_neg (by decide)]
   exact hn j e2.1 (by omega)
   rw [if_neg e2]
theorem tT {p : List Nd} {c0 : List Tm} {t : Pf} (hp : no p = true) (h0 : CtxOk c0) (ht : t.At p 0) (hs : t.size = p.length) :
    (fS t 0 c0 ⟨[], -1⟩).flaw = (bk p c0 p.length).flaw ∧ ∀ j : Nat, j < p.length → ej (fS t 0 c0 ⟨[], -1⟩).es j = if (bk p c0 p.length).has.getD j default = true then some ((bk p c0 p.length).all.getD j default) else none := by
 have hl := (gA hp).1
 have E := qW (c0 := c0) hp h0
 have h1 := E.h0 (by omega)
 have h2 := ht.exam E (e := ⟨[], -1⟩) h1.1 (by rw [h1.2]; exact h0) (fun j _ _ => rfl)
 rw [h1.2] at h2
 refine ⟨?_, fun j hj => ?_⟩
 rw [h2.1, lK (c0 := c0) hp h0 (cu _), hs]
 rw [h2.2 j, if_pos (by omega)]; rfl
theorem gU {s : Sq} (h : bX s = true) : dO s = iw s := by
 unfold dO iw
 rw [h, Bool.true_and, ij]
 split
 rename_i ho; rw [rG ho]
 rfl
theorem kY {s : Sq} (h : (dO s).2 = true) : bX s = true ∧ (cJ s.goal).ok = true := by
 unfold dO at h
 split at h
 rename_i h1; simpa using h1
 cases h
theorem qV {s : Sq} (h : (dO s).2 = true) : ∃ c r, (dO s).1 = c :: r ∧ CtxOk (c :: r) := by
 obtain ⟨h1, h2⟩ := kY h
 have h3 : CtxOk (dO s).1 := by rw [gU h1]; exact qi h1
 unfold dO at h3 ⊢
 rw [h1, h2] at h3 ⊢
 simp only [Bool.and_true, if_true] at h3 ⊢
 cases hf : s.facts with
 | nil => rw [hf] at h3; exact ⟨_, _, rfl, h3⟩
 | cons c r => rw [hf] at h3; exact ⟨_, _, rfl, h3⟩
abbrev E0 (s : Sq) (t : Pf) : Ex := fS t 0 (dO s).1 ⟨[], -1⟩
theorem x7 {t : Pf} (h : (dO s).2 = true) (hI : ow p = true) (ht : t.At p 0) (hts : t.size = p.length) : MQ h1 h2 26 [iP s, c7 p] [] (bR (.tup [.c (.pt 0 0 0), eB true]) (xH p (E0 s t))) := by
 refine jB 29 h1 h2 Try.func26 Z Z Z fun O hF => ?_
 obtain ⟨c0, r0, hcr, hco⟩ := qV h
 have hpl := (lf hI).1
 refine ag (jx O Z (av ?_))
 refine j2 O Z Z (aP (js O Z (jf [10,5,4,0,1] Z (ab O Z Z Z Z (td (s := s) h1 h2) (aa Z) Z Z Z Z (B0 := 12000) Z Z (j4 O Z Z Z Z (js O Z (jf [7,6,5,4,0,1] Z (jn (ac (ag (j3 O Z Z Z (jf [16,6,5,4,0,1] Z (aB 3 Z Z Z (fun hx => AN.step hx Z Z Z (V O Z) Z Z ( bl O hx Z Z Z Z (wj (p := p) h1 h2) (aa Z) Z Z Z Z Z Z Z (B0 := 19000) Z ( AN.step hx Z Z Z (V O Z) Z Z ( AN.nil)))) Z Z ?_)))))))))))))
 first | refine AOps.step (ay O Z Z Z Z Z) Z Z Z ?_ | refine AOps.step (Val.pickB O Z Z Z Z Z) Z Z Z ?_ | refine AOps.step (aA O Z Z Z Z Z) Z Z Z ?_
 refine jf [20,6,5,4,0,1] Z (jn (ae O Z Z (fun hc20 => ?_) (fun hc20 => ?_)))
 exact absurd hc20 (by rw [h, hI]; decide)
 refine aj (ag ?_)
 rw [E0, hcr]
 refine js O Z (jf [21,6,5,4,0,1] Z (AOps.heap (HS.makeMap O Z Z Z Z) Z (av ?_)))
 refine av ?_
 refine js O Z (jf [23,6,5,4,0,1] Z (jx O Z (av ?_)))
 refine js O Z (jf [8,6,5,4,0,1] Z (aP (j2 O Z Z (jf [26,25,8,5,4,0,1] Z (aH O [24,22] (bin := [.box [.d (uD p), .mp 1, .d (.int .i64 (Ex.flaw ⟨[], -1⟩))], kR (cm (Ex.es ⟨[], -1⟩))]) Z Z Z Z (tc (k := 0) (c0 := c0) (r0 := r0) (e := ⟨[], -1⟩) h1 h2 (by omega) ht hco) Z Z Z Z Z Z (B0 := 28000) Z Z (av ?_))))))
 refine jf [8,5,4,0,1] Z (aP (j3 O Z Z Z (jr ?_)))
 refine ⟨.inl Z, _, (am [24,22] (e' := [(4, _), (5, _)]) Z Z ⟨Z, Z, trivial⟩ Z).trans ((au 24 0 Z Z).trans (au 22 1 Z Z)), _, Z, Z, Z⟩
theorem x8 (hn : ((dO s).2 && ow p) = false) : MQ h1 h2 26 [iP s, c7 p] [] (Plain (.tup [.c (.d .nilp), eB false])) := by
 refine MC.data (jB 29 h1 h2 Try.func26 Z Z Z fun O hF => ?_)
 refine ag (jx O Z (av ?_))
 refine j2 O Z Z (aP (js O Z (jf [10,5,4,0,1] Z (ab O Z Z Z Z (td (s := s) h1 h2) (aa Z) Z Z Z Z (B0 := 12000) Z Z (j4 O Z Z Z Z (js O Z (jf [7,6,5,4,0,1] Z (jn (ac (ag (j3 O Z Z Z (jf [16,6,5,4,0,1] Z (aB 3 Z Z Z (fun hx => AN.step hx Z Z Z (V O Z) Z Z ( bl O hx Z Z Z Z (wj (p := p) h1 h2) (aa Z) Z Z Z Z Z Z Z (B0 := 19000) Z ( AN.step hx Z Z Z (V O Z) Z Z ( AN.nil)))) Z Z ?_)))))))))))))
 first | refine AOps.step (ay O Z Z Z Z Z) Z Z Z ?_ | refine AOps.step (Val.pickB O Z Z Z Z Z) Z Z Z ?_ | refine AOps.step (aA O Z Z Z Z Z) Z Z Z ?_
 refine jf [20,6,5,4,0,1] Z (jn (ae O Z Z (fun hc20 => ?_) (fun hc20 => ?_)))
 refine ag (j2 O Z Z (jr ?_))
 refine ⟨.inl Z, _, ak, _, Z, ?_⟩
 exact .tup (.cons (.c .d) (.cons (.c .d) .nil))
 exact absurd hc20 (by rw [g2, hn]; decide)
theorem x4 {t : Pf} (h : (dO s).2 = true) (hI : ow p = true) (ht : t.At p 0) (hts : t.size = p.length) : MQ h1 h2 8 [iP s, c7 p] [] (Plain (eB (decide ((E0 s t).flaw < 0)))) := by
 refine aw ?_ Z
 refine jB 21 h1 h2 Try.func8 Z Z Z fun O hF => ?_
 refine ag (jx O Z (av ?_))
 refine js O Z (aP (j2 O Z Z (jf [9,8,4,0] Z (rc O Z Z Z Z (x7 (s := s) (p := p) (t := t) h1 h2 h hI ht hts) (aa Z) Z Z Z Z (B0 := 11000) Z (av ?_)))))
 refine j4 O Z Z Z Z (js O Z (jf [6,5,4,0] Z (aP (j2 O Z Z (jf [14,5,4,0] Z (aB 5 Z Z Z (fun hx => AN.step hx Z Z Z (V O Z) Z Z ( AN.step hx Z Z Z (V O Z) Z Z ( AN.step hx Z Z Z (V O Z) Z Z ( AN.step hx Z Z Z (V O Z) Z Z ( AN.step hx Z Z Z (V O Z) Z Z ( AN.nil)))))) Z Z ?_))))))
 first | refine AOps.step (aA O Z Z Z Z Z) Z Z Z ?_ | refine AOps.step (ay O Z Z Z Z Z) Z Z Z ?_ | refine AOps.step (Val.pickB O Z Z Z Z Z) Z Z Z ?_
 refine js O Z (jf [4,0] Z (jr ?_))
 refine ⟨.inl Z, _, ak, _, Z, ?_⟩
 rfl
theorem x5 (hn : ((dO s).2 && ow p) = false) : MQ h1 h2 8 [iP s, c7 p] [] (Plain (eB false)) := by
 refine aw ?_ Z
 refine jB 21 h1 h2 Try.func8 Z Z Z fun O hF => ?_
 refine ag (jx O Z (av ?_))
 refine js O Z (aP (j2 O Z Z (jf [9,8,4,0] Z (ab O Z Z Z Z (x8 (s := s) (p := p) h1 h2 hn) (aa Z) Z Z Z Z (B0 := 11000) Z Z (j4 O Z Z Z Z (js O Z (jf [6,5,4,0] Z (aP (j2 O Z Z (jf [14,5,4,0] Z (AOps.skip Z Z Z Z Z Z (jf [15,14,4,0] Z (AOps.skip Z Z Z Z Z Z (jf [16,14,4,0] Z (AOps.skip Z Z Z Z Z Z (jf [17,14,4,0] Z (AOps.skip Z Z Z Z Z Z (jf [18,14,4,0] Z (AOps.skip Z Z Z Z Z Z (AOps.step (bb O Z Z Z Z Z) Z Z Z (js O Z (jf [4,0] Z (jr ?_)))))))))))))))))))))))
 refine ⟨.inl Z, _, ak, _, Z, ?_⟩
 rfl
theorem uk {s : Sq} {p : List Nd} {t : Pf} (h : (dO s).2 = true) (hI : ow p = true) (ht : t.At p 0) (hts : t.size = p.length) : decide ((E0 s t).flaw < 0) = jy s p := by
 obtain ⟨h1, h2⟩ := kY h
 have hp : no p = true := by rw [← oI]; exact hI
 have ho : (aT s.goal).2 = true := by rw [ij]; exact h2
 have he := tT (c0 := (iw s).1) hp (qi h1) ht hts
 unfold jy s6 E0
 rw [h1, hp, if_pos ho, gU h1, he.1]; rfl
theorem wN {s : Sq} {p : List Nd} (h : ((dO s).2 && ow p) = false) : jy s p = false := by
 unfold jy s6
 rw [← oI]
 cases h1 : bX s with
 | false => rfl
 | true =>
  rw [gU h1, oN] at h
  cases h2 : ow p with
  | false => rfl
  | true => rw [h2, Bool.and_true] at h; rw [if_neg (by rw [h]; decide)]; rfl
theorem yy {L : Nat} (h1 : 4096 ≤ L) (h2 : L ≤ 1073741824) {s : Sq} {p : List Nd} : MC Try.prog L 8 [iP s, c7 p] [] (Plain (eB (jy s p))) := by
 cases h : ((dO s).2 && ow p) with
 | false => rw [wN h]; exact x5 h1 h2 h
 | true =>
  rw [aX] at h
  obtain ⟨_, t, ht, hts⟩ := lf h.2
  rw [← uk h.1 h.2 ht hts]
  exact x4 h1 h2 h.1 h.2 ht hts
theorem sA {n : Nd} (h : di n = true) : n.mul.length ≤ 20 := by
 unfold di at h
 split at h
 simp only [aX, oz, decide_eq_true_eq] at h; omega
 split at h
 simp only [aX, decide_eq_true_eq] at h; omega
 split at h
 simp only [aX, decide_eq_true_eq] at h; omega
 cases h
theorem c99 {n : Nat} (hn : n ≤ 1001) (hp : ∀ x ∈ p, di x = true) : MQ h1 h2 27 [c7 p, eI n] [] (Plain (.c (.d (r8 (dV nz p n p.length))))) := by
 refine MC.data (jB 52 h1 h2 Try.func27 Z Z Z fun O hF => ?_)
 have hl : p.length ≤ L := by simpa [As.fact, A.fact, M.fact, D.fact, Ds.fact] using hF.1.1
 refine ag (js O Z (aP (js O Z (AOps.heap (gX O Z Z Z Z Z Z Z Z Z (by first | omega | (simp at *; omega)) (by first | omega | (simp at *; omega)) (by first | omega | (simp at *; omega)) (by first | omega | (dsimp only; omega) | (simp only [ba] at *; omega)) (by first | omega | (simp at *; omega)) Z Z Z) Z (av ?_)))))
 refine js O Z (jf [5,4,0,1] Z (jn (ac (ag (js O Z ?_)))))
 first | refine cj O Z ?_ | refine js O Z ?_ | refine bz O Z Z ?_
 refine js O Z (jn (ah (al (X := Nat) (fun i => ⟨[(1, eI n), (5, .c (.rs 11 0 n)), (12, c7 p), (13, eI p.length), (14, eI i)], [(11, uO (dV nz p n i))]⟩) (fun i => i ≤ p.length) (fun i => p.length - i) 0 (Ent.to ⟨Z, Z, Z, Z, Z, trivial⟩ (by simp [dV, ins])) ?_ (fun i hi => ?_))))
 exact b9 _
 refine ag (js O Z (jn (ac (ae O Z Z (fun hc15 => ?_) (fun hc15 => ?_)))))
 refine aj (ac (ah (ag ?_)))
 have hip : i < p.length := by have h9 := cI hc15; omega
 have hi0 := hi
 have hfa := ld (hp _ (List.getElem_mem hip))
 have hmn := sA (hp _ (List.getElem_mem hip))
 rw [← ar hip] at hfa hmn
 obtain ⟨F, hF⟩ : ∃ F, F = l4 (p.getD i default) n (dV nz p n i) := ⟨_, rfl⟩
 have hFl : F.length = n := by rw [hF, jg, dg]
 refine AOps.step (aY O Z Z Z Z Z Z Z Z (fi (by omega))) Z Z Z (js O Z (jf [17,15,1,5,12,13,14] Z (jl O Z (av ?_))))
 refine jo O Z (av ?_)
 refine jn (ac (ag (j4 O Z Z Z Z (jf [21,7,17,15,1,5,12,13,14] Z (aB 4 Z Z Z (fun hx => AN.step hx Z Z Z (V O Z) Z Z ( AN.step hx Z Z Z (V O Z) Z Z ( AN.step hx Z Z Z (V O Z) Z Z ( AN.step hx Z Z Z (V O Z) Z Z ( AN.nil))))) Z Z ?_)))))
 first | refine AOps.step (aA O Z Z Z Z Z) Z Z Z ?_ | refine AOps.step (ay O Z Z Z Z Z) Z Z Z ?_ | refine AOps.step (Val.pickB O Z Z Z Z Z) Z Z Z ?_
 refine jf [26,7,17,15,1,5,12,13,14] Z (jn (ae O Z Z (fun hc26 => ?_) (fun hc26 => ?_)))
 refine af ?_
 have hb9 := rC hc26
 rw [decide_eq_true_eq, decide_eq_true_eq] at hb9
 have hF1 : F = (dV nz p n i).set (p.getD i default).fact.toNat true := by rw [hF, l4, if_pos ⟨hb9.1, hb9.2⟩]
 have hfn := hb9.2
 refine j3 O Z Z Z ?_
 first | refine fR O Z Z ?_ | refine j6 O Z Z ?_ | refine bz O Z Z ?_
 refine jf [30,26,7,17,15,1,5,12,13,14] Z (AOps.heap (bt (ex := bL ((dV nz p n i).getD (p.getD i default).fact.toNat default)) (xs' := ((dV nz p n i).set (p.getD i default).fact.toNat true).map bL) O Z Z Z Z Z Z Z Z Z Z Z Z Z Z (oA (by rw [dg]; omega)) (by simp [List.map_set])) Z (av ?_))
 refine aP (j2 O Z Z ?_)
 first | refine cj O Z ?_ | refine js O Z ?_ | refine bz O Z Z ?_
 refine js O Z (jn (ah (al (X := Nat) (fun j => ⟨[(1, eI n), (5, .c (.rs 11 0 n)), (12, c7 p), (13, eI p.length), (14, eI i), (32, aQ (p.getD i default).mul), (33, eI (p.getD i default).mul.length), (34, eI j)], [(11, uO (dM nz (p.getD i default).mul n F j))]⟩) (fun j => j ≤ (p.getD i default).mul.length) (fun j => (p.getD i default).mul.length - j) 0 (((am [11] (e' := [(1, _), (5, _), (12, _), (13, _), (14, _), (32, _), (33, _), (34, _)]) Z Z ⟨Z, Z, Z, Z, Z, Z, Z, Z, trivial⟩ Z)).trans (Ent.to ⟨Z, Z, Z, Z, Z, Z, Z, Z, trivial⟩ (by rw [hF1]; rfl))) ?_ (fun j hi => ?_))))
 exact b9 _
 refine ag (js O Z (jn (ac (ae O Z Z (fun hc35 => ?_) (fun hc35 => ?_)))))
 refine aj (ac (ah (ag ?_)))
 have hjm := cI hc35
 refine js O Z ?_
 first | refine fR O Z Z ?_ | refine j6 O Z Z ?_ | refine bz O Z Z ?_
 refine j3 O Z Z Z (jf [9,8,35,1,5,12,13,14,32,33,34] Z (aP (j3 O Z Z Z (jf [41,8,35,1,5,12,13,14,32,33,34] Z (aB 3 Z Z Z (fun hx => AN.step hx Z Z Z (V O Z) Z Z ( AN.step hx Z Z Z (V O Z) Z Z ( AN.step hx Z Z Z (V O Z) Z Z ( AN.nil)))) Z Z ?_)))))
 first | refine AOps.step (aA O Z Z Z Z Z) Z Z Z ?_ | refine AOps.step (ay O Z Z Z Z Z) Z Z Z ?_ | refine AOps.step (Val.pickB O Z Z Z Z Z) Z Z Z ?_
 refine jf [45,8,35,1,5,12,13,14,32,33,34] Z (jn (ae O Z Z (fun hc45 => ?_) (fun hc45 => ?_)))
 refine af ?_
 have hb8 := (rC hc45).2
 rw [decide_eq_true_eq] at hb8
 have hjn : j < n := by omega
 refine j2 O Z Z ?_
 first | refine fR O Z Z ?_ | refine j6 O Z Z ?_ | refine bz O Z Z ?_
 refine jf [48,45,8,35,1,5,12,13,14,32,33,34] Z ?_
 have hml : (dM nz (p.getD i default).mul n F j).length = n := by rw [ff, hFl]
 refine AOps.heap (bt (ex := bL ((dM nz (p.getD i default).mul n F j).getD j default)) (xs' := ((dM nz (p.getD i default).mul n F j).set j true).map bL) O Z Z Z Z Z Z Z Z Z Z Z Z Z Z (oA (by rw [hml]; omega)) (by simp [List.map_set])) Z (av ?_)
 refine jn (af ?_)
 first | refine ji O Z ?_ | refine bz O Z Z ?_
 refine js O Z (jn ?_)
 have hms : dM nz (p.getD i default).mul n F (j + 1) = (dM nz (p.getD i default).mul n F j).set j true := by rw [dM, if_pos (by rw [aX]; exact ⟨(rC hc45).1, decide_eq_true hjn⟩)]
 exact ⟨j + 1, Ent.to ⟨Z, Z, Z, Z, Z, Z, Z, Z, trivial⟩ (by rw [hms]; try exact Z), by omega, by omega⟩
 refine aj (af ?_)
 first | refine ji O Z ?_ | refine bz O Z Z ?_
 refine js O Z (jn ?_)
 have hms : dM nz (p.getD i default).mul n F (j + 1) = dM nz (p.getD i default).mul n F j := by rw [dM, if_neg (fun h9 => rM hc45 (by rw [aX, decide_eq_true_eq] at h9; exact ⟨h9.1, decide_eq_true (by omega)⟩))]
 exact ⟨j + 1, Ent.to ⟨Z, Z, Z, Z, Z, Z, Z, Z, trivial⟩ (by rw [hms]; try exact Z), by omega, by omega⟩
 refine aD (af ?_)
 first | refine ji O Z ?_ | refine bz O Z Z ?_
 refine js O Z (jn ?_)
 have h8 := dh hc35
 obtain rfl : j = (p.getD i default).mul.length := by omega
 refine ⟨i + 1, Ent.to ⟨Z, Z, Z, Z, Z, trivial⟩ (by rw [hF]; try exact Z), by omega, by omega⟩
 refine aj (ag (j2 O Z Z ?_))
 first | refine cj O Z ?_ | refine js O Z ?_ | refine bz O Z Z ?_
 refine js O Z (jn (ah (al (X := Nat) (fun j => ⟨[(1, eI n), (5, .c (.rs 11 0 n)), (12, c7 p), (13, eI p.length), (14, eI i), (32, aQ (p.getD i default).mul), (33, eI (p.getD i default).mul.length), (34, eI j)], [(11, uO (dM nz (p.getD i default).mul n F j))]⟩) (fun j => j ≤ (p.getD i default).mul.length) (fun j => (p.getD i default).mul.length - j) 0 (((am [11] (e' := [(1, _), (5, _), (12, _), (13, _), (14, _), (32, _), (33, _), (34, _)]) Z Z ⟨Z, Z, Z, Z, Z, Z, Z, Z, trivial⟩ Z)).trans (Ent.to ⟨Z, Z, Z, Z, Z, Z, Z, Z, trivial⟩ (by rw [show F = dV nz p n i by rw [hF, l4, if_neg (fun h => rM hc26 ⟨decide_eq_true h.1, decide_eq_true h.2⟩)]]; rfl))) ?_ (fun j hi => ?_))))
 exact b9 _
 refine ag (js O Z (jn (ac (ae O Z Z (fun hc35 => ?_) (fun hc35 => ?_)))))
 refine aj (ac (ah (ag ?_)))
 have hjm := cI hc35
 refine js O Z ?_
 first | refine fR O Z Z ?_ | refine j6 O Z Z ?_ | refine bz O Z Z ?_
 refine j3 O Z Z Z (jf [9,8,35,1,5,12,13,14,32,33,34] Z (aP (j3 O Z Z Z (jf [41,8,35,1,5,12,13,14,32,33,34] Z (aB 3 Z Z Z (fun hx => AN.step hx Z Z Z (V O Z) Z Z ( AN.step hx Z Z Z (V O Z) Z Z ( AN.step hx Z Z Z (V O Z) Z Z ( AN.nil)))) Z Z ?_)))))
 first | refine AOps.step (aA O Z Z Z Z Z) Z Z Z ?_ | refine AOps.step (ay O Z Z Z Z Z) Z Z Z ?_ | refine AOps.step (Val.pickB O Z Z Z Z Z) Z Z Z ?_
 refine jf [45,8,35,1,5,12,13,14,32,33,34] Z (jn (ae O Z Z (fun hc45 => ?_) (fun hc45 => ?_)))
 refine af ?_
 have hb8 := (rC hc45).2
 rw [decide_eq_true_eq] at hb8
 have hjn : j < n := by omega
 refine j2 O Z Z ?_
 first | refine fR O Z Z ?_ | refine j6 O Z Z ?_ | refine bz O Z Z ?_
 refine jf [48,45,8,35,1,5,12,13,14,32,33,34] Z ?_
 have hml : (dM nz (p.getD i default).mul n F j).length = n := by rw [ff, hFl]
 refine AOps.heap (bt (ex := bL ((dM nz (p.getD i default).mul n F j).getD j default)) (xs' := ((dM nz (p.getD i default).mul n F j).set j true).map bL) O Z Z Z Z Z Z Z Z Z Z Z Z Z Z (oA (by rw [hml]; omega)) (by simp [List.map_set])) Z (av ?_)
 refine jn (af ?_)
 first | refine ji O Z ?_ | refine bz O Z Z ?_
 refine js O Z (jn ?_)
 have hms : dM nz (p.getD i default).mul n F (j + 1) = (dM nz (p.getD i default).mul n F j).set j true := by rw [dM, if_pos (by rw [aX]; exact ⟨(rC hc45).1, decide_eq_true hjn⟩)]
 exact ⟨j + 1, Ent.to ⟨Z, Z, Z, Z, Z, Z, Z, Z, trivial⟩ (by rw [hms]; try exact Z), by omega, by omega⟩
 refine aj (af ?_)
 first | refine ji O Z ?_ | refine bz O Z Z ?_
 refine js O Z (jn ?_)
 have hms : dM nz (p.getD i default).mul n F (j + 1) = dM nz (p.getD i default).mul n F j := by rw [dM, if_neg (fun h9 => rM hc45 (by rw [aX, decide_eq_true_eq] at h9; exact ⟨h9.1, decide_eq_true (by omega)⟩))]
 exact ⟨j + 1, Ent.to ⟨Z, Z, Z, Z, Z, Z, Z, Z, trivial⟩ (by rw [hms]; try exact Z), by omega, by omega⟩
 refine aD (af ?_)
 first | refine ji O Z ?_ | refine bz O Z Z ?_
 refine js O Z (jn ?_)
 have h8 := dh hc35
 obtain rfl : j = (p.getD i default).mul.length := by omega
 refine ⟨i + 1, Ent.to ⟨Z, Z, Z, Z, Z, trivial⟩ (by rw [hF]; try exact Z), by omega, by omega⟩
 refine aD (ag (j2 O Z Z (jr ?_)))
 refine ⟨.inl Z, _, ak, _, Z, ?_⟩
 have h9 := dh hc15
 obtain rfl : i = p.length := by omega
 exact .v (.c (.whole Z (by simp [dg])))
def nx (ss : List Sq) (ps : List (List Nd)) : Bool := decide ((ss.length : Int) ≤ 60) && fW ss ps
theorem wJ {ss : List Sq} {ps : List (List Nd)} (h : (bif decide (60 < (ss.length : Int)) then true else !decide ((ps.length : Int) = ss.length)) = false) : (ss.length : Int) ≤ 60 ∧ ps.length = ss.length := by
 by_cases h1 : 60 < (ss.length : Int)
 rw [decide_eq_true h1] at h; cases h
 rw [decide_eq_false h1] at h
 have h2 : ((ps.length : Int) = ss.length) := by simpa using h
 exact ⟨by omega, by omega⟩
theorem wI {ss : List Sq} {ps : List (List Nd)} (h : (bif decide (60 < (ss.length : Int)) then true else !decide ((ps.length : Int) = ss.length)) = true) : nx ss ps = false := by
 unfold nx fW
 by_cases h1 : 60 < (ss.length : Int)
 rw [decide_eq_false (show ¬ (ss.length : Int) ≤ 60 by omega), Bool.false_and]
 rw [decide_eq_false h1] at h
 have h2 : ¬ ((ps.length : Int) = ss.length) := by simpa using h
 rw [decide_eq_false (show ¬ ps.length = ss.length by omega), Bool.false_and, Bool.and_false]
theorem c47 {ss : List Sq} {ps : List (List Nd)} : MQ h1 h2 12 [ft ss, iS ps] [] (Plain (eB (nx ss ps))) := by
 refine aw ?_ Z
 refine jB 32 h1 h2 Try.func12 Z Z Z fun O hF => ?_
 have hl : ss.length ≤ L := by simpa [As.fact, A.fact, M.fact, D.fact, Ds.fact] using hF.1.1
 refine ag (js O Z (jn (ac (ag (js O Z ?_)))))
 first | refine cj O Z ?_ | refine js O Z ?_ | refine bz O Z Z ?_
 refine j2 O Z Z (jf [10,4,0,1] Z (aB 5 Z Z Z (fun hx => AN.step hx Z Z Z (V O Z) Z Z ( AN.step hx Z Z Z (br O Z Z Z Z Z Z Z Z) Z Z ( AN.step hx Z Z Z (V O Z) Z Z ( AN.step hx Z Z Z (br O Z Z Z Z Z Z Z Z) Z Z ( AN.step hx Z Z Z (V O Z) Z Z ( AN.nil)))))) Z Z ?_))
 first | refine AOps.step (ay O Z Z Z Z Z) Z Z Z ?_ | refine AOps.step (Val.pickB O Z Z Z Z Z) Z Z Z ?_ | refine AOps.step (aA O Z Z Z Z Z) Z Z Z ?_
 refine jf [16,4,0,1] Z (jn (ae O Z Z (fun hc16 => ?_) (fun hc16 => ?_)))
 refine ag (js O Z (jr ?_))
 refine ⟨.inl Z, _, ak, _, Z, ?_⟩
 rw [show nx ss ps = false from wI hc16]
 refine aj (ac (ag ?_))
 have hx16 : (ss.length : Int) ≤ 60 ∧ ps.length = ss.length := wJ hc16
 have hx1 := hx16.1
 have hx2 := hx16.2
 refine js O Z ?_
 first | refine cj O Z ?_ | refine js O Z ?_ | refine bz O Z Z ?_
 refine js O Z (jn (ah (al (X := Nat) (fun i => ⟨[(1, iS ps), (17, ft ss), (18, eI ss.length), (19, eI i)], []⟩) (fun i => i ≤ ss.length ∧ ∀ j, j < i → jy (ss.getD j default) (ps.getD j default) = true) (fun i => ss.length - i) 0 (Ent.env ⟨Z, Z, Z, Z, trivial⟩) ?_ (fun i hi => ?_))))
 exact ⟨b9 _, fun j hj => absurd hj (Nat.not_lt_zero j)⟩
 refine ag (js O Z (jn (ac (ae O Z Z (fun hc20 => ?_) (fun hc20 => ?_)))))
 refine aj (ac (ah (ag ?_)))
 have hij : i < ss.length := by have h9 := cI hc20; omega
 refine js O Z ?_
 first | refine fR O Z Z ?_ | refine j6 O Z Z ?_ | refine bz O Z Z ?_
 refine js O Z (jf [23,21,20,1,17,18,19] Z (jl O Z (av ?_)))
 refine js O Z (jf [5,6,23,20,1,17,18,19] Z (jo O Z (av ?_)))
 refine jn (ac (j7 O [_,_,_,_,_,_,_] [pn [] 0 0, pn [] 0 0, pn [] 0 0, pn [1,2] 0 0, pn [1,2,3] 0 0, pe (rg 0 5) 0, pn (rg 0 6) 1 1] [5] [_,_] (kc O Z (kc O Z (kc O Z (ai (aY O Z Z Z Z Z Z Z Z (fi (by omega))) (kc O Z (ai (bj O (B0 := 30000) Z Z Z Z (yy (s := ss.getD i default) (p := ps.getD i default) h1 h2) (aa Z) Z Z Z Z Z) (kc O Z trivial))))))) ?_))
 refine jw [30,6,23,20,1,17,18,19] Z (dL ?_)
 refine ae O Z Z (fun hc30 => ?_) (fun hc30 => ?_)
 refine ag (js O Z (jr ?_))
 refine ⟨.inl Z, _, ak, _, Z, ?_⟩
 rw [nx, oW hij (nt hc30), Bool.and_false]
 refine aj (af ?_)
 first | refine ji O Z ?_ | refine bz O Z Z ?_
 refine js O Z (jn ?_)
 refine ⟨i + 1, (am [] (e' := [(1, _), (17, _), (18, _), (19, _)]) Z Z ⟨Z, Z, Z, Z, trivial⟩ Z), ⟨by omega, fun j hj => ?_⟩, by omega⟩
 by_cases e : j = i
 subst e; exact nf hc30
 exact hi.2 j (by omega)
 refine aD (ag (js O Z (jr ?_)))
 refine ⟨.inl Z, _, ak, _, Z, ?_⟩
 have h9 := dh hc20
 rw [nx, qN hx2 (fun j hj => hi.2 j (by omega)), decide_eq_true hx1, Bool.and_self]
end Go.Al
/- What the laws of the certificates share: the types of their arguments; what came in reads as it did. -/
namespace Go.Proofs.Ytbkloknmpkgmbaa
open Go.ChangeShapes Go.WideShapes Go.ChangeAt Go.RowKit Go.Al

theorem ownK : ownKnob Try.prog.godebug = none := by kernel_rfl
theorem kidsK : Kids Try.prog (· < Try.prog.types.size) := kids_rows (by kernel_rfl) (by kernel_rfl)
theorem fullK : ∀ t e, t < Try.prog.types.size → Try.prog.underlying t = some (.slice e) → 0 < Try.prog.cellsOf e := slices_full_of Try.prog (by kernel_rfl)

theorem fits_all {α : Type} {es : List Ty} {g : α → List D} (hg : ∀ e, FitsL es e → ∃ a, e = g a) : ∀ {xs : List (List D)}, FitsA es xs → ∃ ys : List α, xs = ys.map g
 | _, .nil => ⟨[], rfl⟩
 | _, .cons h1 h2 => by
  obtain ⟨a, rfl⟩ := hg _ h1
  obtain ⟨ys, rfl⟩ := fits_all hg h2
  exact ⟨a :: ys, Z⟩
theorem fits_one {t : Ty} {e : List D} (h : FitsL [t] e) : ∃ d, e = [d] ∧ Fits t d := by
 cases h with
 | cons a h => cases h; exact ⟨_, rfl, a⟩
theorem rdl_rms {L : Nat} {w : World} {ok : Nat → Prop} {m : Nat → Go.Al.Loc} : ∀ {ds : List D} {vs : List Value} {F : List Nat}, RDL L w ok ds vs F → F = [] → RMs L w ok m (ds.map .d) vs
 | _, _, _, .nil, _ => .nil
 | _, _, _, .cons (F1 := F1) (F2 := F2) h1 h2, hF => by
  obtain ⟨rfl, rfl⟩ := List.append_eq_nil_iff.1 hF
  exact .cons (.d h1) (rdl_rms h2 Z)
section
variable {H : Type} {enc : TypeId × Value → H} {P : Program} {w w' : World}
theorem tB (hs : ∀ b, b < w.heap.size → Same w w' b) {p : MemPlace} (hp : p.block < w.heap.size) : w.sameAt w' p := by
 cases p with
 | cell b o => exact (hs b hp).cell
 | map b => exact hs b hp
theorem trodAll_same (hs : ∀ b, b < w.heap.size → Same w w' b) {base : Nat} {sp : Nat → Bool} {held : Bool} : ∀ {ts : List TypeId} {vs : List Value} {ds : List (DataW H)} {ps : List MemPlace}, (∀ p ∈ ps, p.block < w.heap.size) → DataW.TrodAll enc P w base sp held ts vs ds ps → DataW.TrodAll enc P w' base sp held ts vs ds ps
 | [], [], [], _, _, h => h
 | _ :: _, _ :: _, _ :: _, _, hl, ⟨p, q, ⟨n, h1⟩, h2, e⟩ =>
  ⟨p, q, ⟨n, DataW.trod_carry n _ _ _ h1 (fun x hx => tB hs (hl x (by rw [e]; exact List.mem_append_left _ hx)))⟩, trodAll_same hs (fun x hx => hl x (by rw [e]; exact List.mem_append_right _ hx)) h2, e⟩
theorem o9 (hf : Go.Al.Frame w w' []) (may : MemPlace → Prop) : w.keptBut w' may := by
 refine ⟨hf.os, hf.output, fun i hi => ?_⟩
 have h := hf.block i hi (by simp)
 unfold Same at h
 rw [h]
 cases hx : w.heap[i]? with
 | none => trivial
 | some o =>
  cases o with
  | cells c t fr => exact ⟨Z, Z, Z, fun _ _ => rfl⟩
  | map es clock => exact .inr ⟨Z, Z⟩
  | _ => rfl
theorem o0 (hf : Go.Al.Frame w w' []) {a : Addr} (ha : a.block < w.heap.size) : w'.frozen? a = w.frozen? a := by
 have h := hf.block a.block ha (by simp)
 unfold Same at h
 unfold World.frozen?
 rw [h]
theorem post_of_old {f : Func} {s : ChangeSpec} {apart fresh handsOn again : Bool} {args : Array Value} {v : Value} {ds gs : List (DataW H)} {before pa pv : List MemPlace}
    (hW : DataW.Whole enc P f.params.toList s.vars apart w args.toList ds gs before)
    (hres : ∀ (b : Nat) (sp : Nat → Bool) (hd : Bool), DataW.TrodAll enc P w' b sp hd f.resultTypes.toList (v.resultList f.resultTypes.size) (s.fn H (ds ++ gs)).results [])
    (hargs : ∀ sp : Nat → Bool, (∀ p ∈ before, sp p.block = true) → DataW.TrodAll enc P w' 0 sp true f.params.toList args.toList (s.fn H (ds ++ gs)).args pa)
    (hvars : ∀ sp : Nat → Bool, (∀ p ∈ before, sp p.block = true) → DataW.TrodVars enc P w' sp s.vars (s.fn H (ds ++ gs)).vars pv)
    (hps : before = pa ++ pv) (hf : Go.Al.Frame w w' [])
    (hok : ∀ (j : Nat) (t : TypeId) (r : Value), f.resultTypes[j]? = some t → (v.resultList f.resultTypes.size)[j]? = some r → Value.okWide P w' .any 0 t r) :
    s.post enc P f apart fresh handsOn again w args v w' := by
 have hlt := hW.lt
 have hold : ∀ p ∈ before, (fun b => decide (b < w.heap.size)) p.block = true := fun p hp => by simpa using hlt p hp
 refine ⟨ds, gs, before, [], pa, pv, hW, hres _ _ _, hargs _ hold, hvars _ hold, World.keptBut_mono (fun p hp => ⟨hp, ?_⟩) (o9 hf (· ∈ before)), fun _ => ?_⟩
 rw [hps, List.mem_append] at hp
 exact Or.inr hp
 obtain ⟨_, _, _, _, _, hz, hn⟩ := hW
 refine ⟨hok, _, _, ([] ++ pa) ++ pv, ⟨[] ++ pa, pv, trodAll_append (hargs _ (fun _ _ => rfl)) (hres _ _ _), hvars _ (fun _ _ => rfl), Z, ?_, ?_⟩, ?_⟩
 intro b off hp
 have hp' : MemPlace.cell b off ∈ before := by rw [hps]; simpa using hp
 rw [o0 hf (hlt _ hp')]
 exact hz b off hp'
 intro ha
 have := hn ha
 rw [hps] at this
 simpa using this
 intro p hp _
 rw [hps]
 simpa using hp
end

end Go.Proofs.Ytbkloknmpkgmbaa
