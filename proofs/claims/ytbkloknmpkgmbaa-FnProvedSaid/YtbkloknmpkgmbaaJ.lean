/- Lists of sequents; what is found is accepted. -/
import Derived.Test.YtbkloknmpkgmbaaF
import Derived.Test.YtbkloknmpkgmbaaI
import Derived.Test.YtbkloknmpkgmbaaH
set_option linter.unusedVariables false
set_option linter.unusedSimpArgs false
set_option maxRecDepth 10000
set_option maxHeartbeats 4000000
open Go.Proofs
namespace Go.Al
variable {L : Nat} (h1 : 4096 ≤ L) (h2 : L ≤ 1073741824)
theorem qK {s : Sq} {b : Int} (hv : (bD s b).2 = true) (h : ((dO s).2 && e5 b) = false) : False := by rw [nK h] at hv; cases hv
theorem sj {s : Sq} {b : Int} (h1 : (dO s).2 = true) (h2 : e5 b = true) : ((fp b (15 - (s.facts ++ [(aT s.goal).1]).length) (s.facts ++ [(aT s.goal).1]) ([], false)).2 = true → bD s b = ([], false)) ∧
    ((fp b (15 - (s.facts ++ [(aT s.goal).1]).length) (s.facts ++ [(aT s.goal).1]) ([], false)).2 = false → bD s b = ((fp b (15 - (s.facts ++ [(aT s.goal).1]).length) (s.facts ++ [(aT s.goal).1]) ([], false)).1, true)) := by
 obtain ⟨h3, h4⟩ := kY h1
 rw [jC h3 h2]
 exact nD h3 (by rw [ij]; exact h4) (by have := kN h2; omega)
variable {b : Int}
theorem vE {s : Sq} (hv : (bD s b).2 = true) : MQ h1 h2 6 [iP s, eI b] [] (Rows (.tup [.c (.rs 0 0 (bD s b).1.length), eB true]) [rH (bD s b).1]) := by
 refine cy (jB 36 h1 h2 Try.func6 Z Z Z fun O hF => ?_)
 refine ag (jx O Z (av ?_))
 refine az (Ent.freeze 2 (e' := [(2, _), (1, _)]) Z (.cons Z (.c (.box (cs := Sq.cells s) Z (aC Z))) (fe [1] Z)) (.skip .nil)) ?_
 refine av ?_
 refine j2 O Z Z (aP (js O Z (jf [10,5,4,1] Z (ab O Z Z Z Z (td (s := s) h1 h2) (aa Z) Z Z Z Z (B0 := 12000) Z Z (j4 O Z Z Z Z (js O Z (jf [7,6,5,4,1] Z (jn (ac (ag (j3 O Z Z Z (jf [16,6,5,4,1] Z (aB 3 Z Z Z (fun hx => AN.step hx Z Z Z (V O Z) Z Z ( bl O hx Z Z Z Z (nB h1 h2) (aa Z) Z Z Z Z Z Z Z (B0 := 19000) Z ( AN.step hx Z Z Z (V O Z) Z Z ( AN.nil)))) Z Z (AOps.step (ay O Z Z Z Z Z) Z Z Z (jf [20,6,5,4,1] Z (jn (ae O Z Z (fun hc20 => ?_) (fun hc20 => ?_))))))))))))))))))
 exact (qK hv (vS hc20)).elim
 refine aj (ag ?_)
 obtain ⟨hq1, hq2⟩ := vT hc20
 obtain ⟨hq3, hq4⟩ := kY hq1
 have hok : (aT s.goal).2 = true := by rw [ij]; exact hq4
 have hfc := iW hq3 hok
 have hlen := hfc.len
 have hbb := kN hq2
 obtain ⟨hw1, hw2⟩ := sj hq1 hq2
 have hwl : ((fp b (15 - (s.facts ++ [(aT s.goal).1]).length) (s.facts ++ [(aT s.goal).1]) ([], false)).1.length : Int) ≤ b := iU (by show (0 : Int) ≤ b; omega)
 rw [gU hq3, ui hok]
 refine j2 O Z Z (jf [22,6,5,4,1] Z (jx O Z (av ?_)))
 refine js O Z (jf [8,6,5,4,1] Z (aP (j2 O Z Z (jf [25,24,8,5,4,1] Z (az (dJ 23 901 5 false 1 Z Z Z) (aH O [23,901] (bin := [el b ([], false) 1, bH []]) Z Z Z Z (uB (b := b) h1 h2 hbb (15 - (s.facts ++ [(aT s.goal).1]).length) (s.facts ++ [(aT s.goal).1]) ([], false) ⟨.inl hfc, by omega, by simp, by omega, by show (0 : Int) ≤ b; omega⟩) Z Z Z Z Z Z (B0 := 27000) Z Z (av ?_)))))))
 refine jf [8,5,4,1] Z (jn (ac (ag (j4 O Z Z Z Z (jf [30,8,5,4,1] Z (jn (ae O Z Z (fun hc30 => ?_) (fun hc30 => ?_))))))))
 rw [hw1 hc30] at hv; cases hv
 refine aj (ag (j4 O Z Z Z Z (jf [34,8,5,4,1] Z (fP O (B0 := 36000) Z Z Z Z (uA (ts := (fp b (15 - (s.facts ++ [(aT s.goal).1]).length) (s.facts ++ [(aT s.goal).1]) ([], false)).1) h1 h2) (.cons (.c (.whole Z (bp _).symm)) .nil) Z Z Z Z Z Z (av ?_)))))
 refine j2 O Z Z (jf [5,4,8,1] Z (jr ?_))
 rw [hw2 hc30]
 refine ⟨.inl Z, _, ak, _, Z, [36000], by decide, Z, Z, Z⟩
theorem tF {ss : List Sq} {b : Int} {i : Nat} (hi : i < ss.length) (h : ∀ s ∈ ss, (bD s b).2 = true) : (bD (ss.getD i default) b).2 = true := by rw [ar hi]; exact h _ (List.getElem_mem hi)
variable {ss : List Sq}
theorem vu (hq : iu ss = true) (hb : e5 b = true) (ha : ∀ s ∈ ss, (bD s b).2 = true) : MQ h1 h2 10 [ft ss, eI b] [] (Rows (.tup [.c (.rs 0 0 ss.length), eB true]) [rV (ss.map (fun s => (bD s b).1))]) := by
 refine cy (jB 39 h1 h2 Try.func10 Z Z Z fun O hF => ?_)
 have hl : ss.length ≤ L := by simpa [As.fact, A.fact, M.fact, D.fact, Ds.fact] using hF.1.1
 refine ag (j2 O Z Z (jn (ac (ag (js O Z (ao O Z Z Z Z ((rL (ss := ss) h1 h2).plain (u := eB true) (congrArg eB hq)) (aa Z) Z Z Z Z Z (B0 := 13000) Z (j2 O Z Z (jf [14,5,4,0,1] Z (aB 3 Z Z Z (fun hx => AN.step hx Z Z Z (V O Z) Z Z ( bl O hx Z Z Z Z ((nB (b := b) h1 h2).plain (u := eB true) (congrArg eB hb)) (aa Z) Z Z Z Z Z Z Z (B0 := 17000) Z ( AN.step hx Z Z Z (V O Z) Z Z ( AN.nil)))) Z Z (AOps.step (ay O Z Z Z Z Z) Z Z Z (jf [18,5,4,0,1] Z (jn (ae O Z Z (fun hc18 => ?_) (fun hc18 => ?_))))))))))))))
 exact absurd hc18 (by decide)
 refine aj (ag (js O Z (jn (ac (ag (js O Z (cj O Z (js O Z (jn (ah (al (X := Nat) (fun i => ⟨[(1, eI b), (6, .c (.rs 900 0 i)), (19, ft ss), (20, eI ss.length), (21, eI i)], [(900, rV ((ss.take i).map (fun s => (bD s b).1)))]⟩) (fun i => i ≤ ss.length) (fun i => ss.length - i) 0 ((bF 6 900 1 true Z Z).trans (Ent.to ⟨Z, Z, Z, Z, Z, trivial⟩ Z)) ?_ (fun i hi => ?_))))))))))))
 exact b9 _
 refine ag (js O Z (jn (ac (ae O Z Z (fun hc22 => ?_) (fun hc22 => ?_)))))
 refine aj (ac (ah (ag ?_)))
 have hil : i < ss.length := by have := cI hc22; omega
 refine AOps.step (aY O Z Z Z Z Z Z Z Z (fi hil)) Z Z Z (js O Z (jf [24,22,1,6,19,20,21] Z (jl O Z (av ?_))))
 refine jo O Z (av ?_)
 refine aP (j2 O Z Z (fP O (B0 := 29000) Z Z Z Z (vE (s := (ss.getD i default)) (b := b) h1 h2 (tF hil ha)) (aa Z) Z Z Z Z Z Z (av ?_)))
 refine j4 O Z Z Z Z (js O Z (jf [10,9,8,24,22,1,6,19,20,21] Z (jn (ac (ag (j2 O Z Z (jf [32,9,8,24,22,1,6,19,20,21] Z (jn (ae O Z Z (fun hc32 => ?_) (fun hc32 => ?_))))))))))
 exact absurd hc32 (by decide)
 refine aj (af (j2 O Z Z (jf [34,33,32,8,24,22,1,6,19,20,21] Z (az (am [900,29000] (e' := [(34, _), (1, _), (19, _), (20, _), (21, _), (33, _)]) Z Z ⟨Z, Z, Z, Z, Z, Z, trivial⟩ Z) (AOps.heap (mB (ds := vV (bD (ss.getD i default) b).1) O Z Z Z Z Z Z Z Z Z Z (.rs Z (bp _).symm .nil) Z Z Z) Z (av ?_))))))
 refine av ?_
 refine jf [35,1,19,20,21,33] Z (AOps.heap (bw (zs := ((ss.take (i + 1)).map (fun s => (bD s b).1)).map vV) (n := i + 1) O Z Z Z Z Z Z Z Z Z Z Z Z Z Z Z Z (.row Z (by simp; omega)) Z Z (by decide) Z (by simp; omega) (by simp; omega) (by rw [List.take_succ_eq_append_getElem hil, List.map_append, List.map_append, ar hil]; rfl) (by simp; omega)) Z (av ?_))
 refine av ?_
 refine js O Z (jf [6,1,19,20,21] Z (jn (af (ji O Z (js O Z (jn ?_))))))
 refine ⟨i + 1, ((am [36] (e' := [(1, _), (6, _), (19, _), (20, _), (21, _)]) Z Z ⟨Z, Z, Z, Z, Z, trivial⟩ Z).trans (au 36 900 Z Z)), by omega, by omega⟩
 refine aD (ag (j3 O Z Z Z (jr ?_)))
 obtain rfl : i = ss.length := by have := dh hc22; omega
 rw [List.take_length]
 refine ⟨.inl Z, _, ak, _, Z, [900], by decide, Z, Z, Z⟩
theorem qj (hq : iu ss = true) (hb : e5 b = true) (hn : (dP b ss).length < ss.length) : MQ h1 h2 10 [ft ss, eI b] [] (Rows (.tup [.c (.d .nils), eB false]) []) := by
 refine cy (jB 39 h1 h2 Try.func10 Z Z Z fun O hF => ?_)
 have hl : ss.length ≤ L := by simpa [As.fact, A.fact, M.fact, D.fact, Ds.fact] using hF.1.1
 obtain ⟨hq3, hq4⟩ := pW hq
 refine ag (j2 O Z Z (jn (ac (ag (js O Z (ao O Z Z Z Z ((rL (ss := ss) h1 h2).plain (u := eB true) (congrArg eB hq)) (aa Z) Z Z Z Z Z (B0 := 13000) Z (j2 O Z Z (jf [14,5,4,0,1] Z (aB 3 Z Z Z (fun hx => AN.step hx Z Z Z (V O Z) Z Z ( bl O hx Z Z Z Z ((nB (b := b) h1 h2).plain (u := eB true) (congrArg eB hb)) (aa Z) Z Z Z Z Z Z Z (B0 := 17000) Z ( AN.step hx Z Z Z (V O Z) Z Z ( AN.nil)))) Z Z (AOps.step (ay O Z Z Z Z Z) Z Z Z (jf [18,5,4,0,1] Z (jn (ae O Z Z (fun hc18 => ?_) (fun hc18 => ?_))))))))))))))
 exact absurd hc18 (by decide)
 refine aj (ag (js O Z (jn (ac (ag (js O Z (cj O Z (js O Z (jn (ah (al (X := Nat) (fun i => ⟨[(1, eI b), (6, .c (.rs 900 0 i)), (19, ft ss), (20, eI ss.length), (21, eI i)], [(900, wG (ss.take i) b)]⟩) (fun i => i ≤ ss.length ∧ ∀ j (h : j < ss.length), j < i → (aU ss[j] b).2 = true) (fun i => ss.length - i) 0 ((bF 6 900 1 false Z Z).trans (Ent.to ⟨Z, Z, Z, Z, Z, trivial⟩ Z)) ?_ (fun i hi => ?_))))))))))))
 exact ⟨b9 _, fun j h hj => absurd hj (Nat.not_lt_zero j)⟩
 refine ag (js O Z (jn (ac (ae O Z Z (fun hc22 => ?_) (fun hc22 => ?_)))))
 refine aj (ac (ah (ag ?_)))
 have hil : i < ss.length := by have := cI hc22; omega
 refine AOps.step (aY O Z Z Z Z Z Z Z Z (fi hil)) Z Z Z (js O Z (jf [24,22,1,6,19,20,21] Z (jl O Z (av ?_))))
 refine jo O Z (av ?_)
 refine aP (j2 O Z Z (ab O Z Z Z Z ((pQ (s := (ss.getD i default)) (b := b) h1 h2).plain (u := gj (aU (ss.getD i default) b)) (by rw [jC (qn hq3 hil) hb])) (aa Z) Z Z Z Z (B0 := 29000) Z Z (j4 O Z Z Z Z (js O Z (jf [10,9,8,24,22,1,6,19,20,21] Z (jn (ac (ag (j2 O Z Z (jf [32,9,8,24,22,1,6,19,20,21] Z (jn (ae O Z Z (fun hc32 => ?_) (fun hc32 => ?_)))))))))))))
 refine ag (j2 O Z Z (jr ?_))
 refine ⟨.inl Z, _, ak, _, Z, [], by decide, Z, Z, Z⟩
 refine aj (af (j2 O Z Z (jf [34,33,32,8,24,22,1,6,19,20,21] Z (AOps.heap (bd O Z Z Z Z Z Z Z Z Z Z Z) Z (av ?_)))))
 refine jf [35,33,32,8,24,22,1,6,19,20,21] Z (AOps.heap (aI (own := false) (xs := (ss.take i).map fun s => xx s b) (ys := [xx (ss.getD i default) b]) (zs := (ss.take (i + 1)).map fun s => xx s b) (n := i + 1) O Z Z Z Z Z Z Z Z Z Z Z Z Z Z Z Z (.row Z (by simp; omega)) (.whole Z Z (.inr ⟨Z, Z⟩)) (by simp) Z (by simp; omega) (by simp; omega) (by rw [List.take_succ_eq_append_getElem hil, List.map_append, ar hil]; rfl) (by simp; omega)) Z (av ?_))
 refine av ?_
 refine js O Z (jf [6,32,8,24,22,1,19,20,21] Z (jn (af (ji O Z (js O Z (jn ?_))))))
 refine ⟨i + 1, ((am [36] (e' := [(1, _), (6, _), (19, _), (20, _), (21, _)]) Z Z ⟨Z, Z, Z, Z, Z, trivial⟩ Z).trans (au 36 900 Z Z)), ⟨by omega, fun j h hj => ?_⟩, by omega⟩
 by_cases e : j = i
 subst e; rw [ar h] at hc32; exact sX hc32
 exact hi.2 j h (by omega)
 exact absurd hn (by rw [mA (fun j hj => hi.2 j hj (by have := dh hc22; omega)), bp]; omega)
def Pf.flat : Pf → List Nd
  | .close n => [n]
  | .tight n a => n :: a.flat
  | .split n a b => n :: (a.flat ++ b.flat)
theorem ct : ∀ {t : Pf}, t.flat.length = t.size
 | .close _ => rfl
 | .tight n a => by simp only [Pf.flat, Pf.size, dp, ct (t := a)]; omega
 | .split n a b => by simp only [Pf.flat, Pf.size, dp, bK, ct (t := a), ct (t := b)]; omega
def Pf.fine : Pf → Prop
  | .close n => di n = true ∧ n.kind = 1
  | .tight n a => di n = true ∧ n.kind = 3 ∧ a.fine
  | .split n a b => di n = true ∧ n.kind = 2 ∧ a.fine ∧ b.fine
theorem gc : ∀ {t : Pf}, t.fine → ∀ n ∈ t.flat, di n = true
 | .close n, h, x, hx => by
  simp only [Pf.flat, List.mem_singleton] at hx; subst hx; exact h.1
 | .tight n a, h, x, hx => by
  rcases List.mem_cons.1 hx with rfl | hx
  exact h.1
  exact gc h.2.2 x hx
 | .split n a b, h, x, hx => by
  rcases List.mem_cons.1 hx with rfl | hx
  exact h.1
  rcases List.mem_append.1 hx with hx | hx
  exact gc h.2.2.1 x hx
  exact gc h.2.2.2 x hx
theorem gd {p : List Nd} : ∀ {t : Pf} {k : Nat}, t.fine → (∀ j, j < t.size → p[k + j]? = t.flat[j]?) → t.At p k
 | .close n, k, h, hp => ⟨by have := hp 0 (by simp [Pf.size]); simpa [Pf.flat] using this, h.1, h.2⟩
 | .tight n a, k, h, hp => ⟨by have := hp 0 (by simp only [Pf.size]; omega); simpa [Pf.flat] using this, h.1, h.2.1, gd h.2.2 fun j hj => by
  have := hp (1 + j) (by simp only [Pf.size]; omega)
  rw [← Nat.add_assoc] at this
  rw [this, Nat.add_comm 1 j]; rfl⟩
 | .split n a b, k, h, hp => ⟨by have := hp 0 (by simp only [Pf.size]; omega); simpa [Pf.flat] using this, h.1, h.2.1, gd h.2.2.1 fun j hj => by
  have := hp (1 + j) (by simp only [Pf.size]; omega)
  rw [← Nat.add_assoc] at this
  rw [this, Nat.add_comm 1 j]
  show (a.flat ++ b.flat)[j]? = _
  rw [List.getElem?_append_left (by rw [ct]; exact hj)], gd h.2.2.2 fun j hj => by
  have := hp (1 + a.size + j) (by simp only [Pf.size]; omega)
  rw [show k + 1 + a.size + j = k + (1 + a.size + j) by omega, this, show 1 + a.size + j = a.size + j + 1 by omega]
  show (a.flat ++ b.flat)[a.size + j]? = _
  rw [List.getElem?_append_right (by rw [ct]; omega), ct, Nat.add_sub_cancel_left]⟩
def Pf.okay : Pf → List Tm → Prop
  | .close n, c => cx c n.mul = true
  | .tight n a, c => (e7 n c && (kA n c).2) = true ∧ a.okay (c ++ [(kA n c).1])
  | .split n a b, c => dR n c = true ∧ a.okay (c ++ [n.term]) ∧ b.okay (c ++ [cJ n.term])
theorem ea : ∀ {t : Pf} {k : Nat} {c : List Tm} {e : Ex}, t.okay c → (fS t k c e).flaw = e.flaw
 | .close n, k, c, e, h => by rw [fS, if_pos (show cx c n.mul = true from h)]; rfl
 | .tight n a, k, c, e, h => by rw [fS, if_pos h.1, ea h.2]; rfl
 | .split n a b, k, c, e, h => by rw [fS, if_pos h.1, ea h.2.2, ea h.2.1]; rfl
theorem n8 {f : Tm → Int} {ts : List Tm} : aR f ts [] = 0 := by cases ts <;> rfl
theorem lJ {f : Tm → Int} : ∀ {ts : List Tm} {n : Nat}, aR f ts (List.replicate n 0) = 0
 | [], n => by cases n <;> rfl
 | t :: ts, 0 => rfl
 | t :: ts, n + 1 => by rw [List.replicate_succ, aR, lJ, Int.zero_mul]; rfl
theorem jU {f : Tm → Int} : ∀ {ts : List Tm} {i : Nat}, i < ts.length → aR f ts (fu ts.length i) = f (ts.getD i default)
 | t :: ts, 0, _ => by
  show aR f (t :: ts) ((List.replicate (ts.length + 1) (0 : Int)).set 0 1) = _
  rw [List.replicate_succ, List.set_cons_zero, aR, lJ]; simp
 | t :: ts, i + 1, h => by
  show aR f (t :: ts) ((List.replicate (ts.length + 1) (0 : Int)).set (i + 1) 1) = _
  rw [List.replicate_succ, List.set_cons_succ, aR, Int.zero_mul, Int.zero_add]
  exact jU (f := f) (ts := ts) (by simpa using h)
theorem nT {n m x y : Int} {xs ys : List Int} {l : Nat} : eW n m (x :: xs) (y :: ys) (l + 1) = (n * x + m * y) :: eW n m xs ys l := by
 unfold eW
 rw [List.range_succ_eq_map, List.map_cons, List.map_map]; rfl
theorem ln {f : Tm → Int} {n m : Int} : ∀ {ts : List Tm} {xs ys : List Int}, xs.length = ys.length → aR f ts (eW n m xs ys xs.length) = n * aR f ts xs + m * aR f ts ys
 | ts, [], [], _ => by
  rw [show eW n m [] [] ([] : List Int).length = [] from Z, n8]; simp
 | [], x :: xs, y :: ys, h => by
  rw [dp, nT]; simp [aR]
 | t :: ts, x :: xs, y :: ys, h => by
  rw [dp, nT, aR, aR, aR, ln (by simpa using h), Int.add_mul, Int.mul_add, Int.mul_add, Int.mul_assoc, Int.mul_assoc]
  omega
 | ts, [], y :: ys, h => by simp at h
 | ts, x :: xs, [], h => by simp at h
theorem jc {g : Nat} {x : Int} (h : g ∣ x.natAbs) : (g : Int) * x.tdiv g = x := Int.mul_tdiv_cancel' (Int.ofNat_dvd_left.2 h)
theorem lr {f : Tm → Int} {g : Nat} : ∀ {ts : List Tm} {ms : List Int}, (∀ x ∈ ms, g ∣ x.natAbs) → (g : Int) * aR f ts (ms.map fun x => x.tdiv g) = aR f ts ms
 | ts, [], _ => by rw [List.map_nil, n8, Int.mul_zero]
 | [], x :: xs, _ => by rw [List.map_cons]; simp [aR]
 | t :: ts, x :: xs, h => by
  rw [List.map_cons, aR, aR, Int.mul_add, lr fun y hy => h y (by simp [hy]), ← Int.mul_assoc, jc (h x (by simp))]
theorem pV {g : Nat} {d e : Int} (hg : 0 < g) (h : (g : Int) * e = d) : d.tdiv g = e := by
 subst h; exact Int.mul_tdiv_cancel_left _ (by omega)
structure RIn (ts : List Tm) (r : Rw) : Prop where
  ok : ROk ts.length r
  c : r.c = aR Tm.c ts r.ms
  xs : ∀ k, k < 10 → r.xs.getD k default = aR (ix k) ts r.ms
abbrev t0 (k : Nat) (r : Rw) : Prop := ∀ j, j < k → r.xs.getD j default = 0
theorem qO {xs : List Int} {k n : Nat} (h : k < n) : (gk xs n).getD k default = xs.getD k 0 := by simp [gk, h]
theorem p9 {n m : Int} {xs ys : List Int} {k l : Nat} (h : k < l) : (eW n m xs ys l).getD k default = n * xs.getD k default + m * ys.getD k default := by simp [eW, h]
theorem tD {ts : List Tm} (h : Fs ts) {i : Nat} (hi : i < ts.length) : RIn ts (mI ts i) :=
  ⟨pZ h hi, (jU (f := Tm.c) hi).symm, fun k hk => by rw [jU hi]; exact qO hk⟩
theorem iH {xs : List Int} {g k : Nat} : (xs.map fun x => x.tdiv g).getD k default = (xs.getD k default).tdiv g := by
 rw [List.getD_eq_getElem?_getD, List.getD_eq_getElem?_getD, List.getElem?_map]
 cases xs[k]? with
 | none => exact (Int.zero_tdiv _).symm
 | some x => rfl
theorem u7 {ts : List Tm} {p q : Rw} {k : Nat} (hp : RIn ts p) (hq : RIn ts q) (h1 : 0 < p.xs.getD k default) (h2 : q.xs.getD k default < 0) (h : pE (cv p q k) = true) : RIn ts (cv p q k) := by
 have hg := (kI hp.ok hq.ok h1 h2).1
 have hd := nX (r := iv p q k)
 have hl : p.ms.length = q.ms.length := hp.ok.n.trans hq.ok.n.symm
 refine ⟨mO hp.ok hq.ok h1 h2 h, ?_, fun j hj => ?_⟩
 refine pV hg ?_
 show _ * aR Tm.c ts ((iv p q k).ms.map _) = _
 rw [lr hd.2.2]
 show aR Tm.c ts (eW _ _ p.ms q.ms p.ms.length) = jq p q k * p.c + jt p q k * q.c
 rw [ln hl, hp.c, hq.c]
 show ((iv p q k).xs.map _).getD j default = _
 rw [iH]
 refine pV hg ?_
 show _ * aR (ix j) ts ((iv p q k).ms.map _) = _
 rw [lr hd.2.2]
 show aR (ix j) ts (eW _ _ p.ms q.ms p.ms.length) = (eW (jq p q k) (jt p q k) p.xs q.xs p.xs.length).getD j default
 rw [ln hl, p9 (by rw [hp.ok.l]; exact hj), hp.xs j hj, hq.xs j hj]
theorem tM {ts : List Tm} {p q : Rw} {k : Nat} (hp : RIn ts p) (hq : RIn ts q) (h1 : 0 < p.xs.getD k default) (h2 : q.xs.getD k default < 0) (zp : t0 k p) (zq : t0 k q) : t0 (k + 1) (cv p q k) := fun j hj => by
 have h10 : p.xs.length = 10 := hp.ok.l
 show ((iv p q k).xs.map _).getD j default = _
 rw [iH]
 have e : (eW (jq p q k) (jt p q k) p.xs q.xs p.xs.length).getD j default = 0 := by
  by_cases hl : j < p.xs.length
  rw [p9 hl]
  by_cases e : j = k
  subst e
  have d1 : (dN p q j : Int) * (p.xs.getD j default).tdiv (dN p q j) = p.xs.getD j default := jc (Nat.gcd_dvd_left _ _)
  have d2 : (dN p q j : Int) * (-(q.xs.getD j default)).tdiv (dN p q j) = -(q.xs.getD j default) := jc (by rw [Int.natAbs_neg]; exact Nat.gcd_dvd_right _ _)
  show (-(q.xs.getD j default)).tdiv (dN p q j) * p.xs.getD j default + (p.xs.getD j default).tdiv (dN p q j) * q.xs.getD j default = 0
  generalize (p.xs.getD j default).tdiv (dN p q j) = a at d1 ⊢
  generalize (-(q.xs.getD j default)).tdiv (dN p q j) = b at d2 ⊢
  rw [show q.xs.getD j default = -((dN p q j : Int) * b) by omega, ← d1, Int.mul_neg, Int.mul_left_comm b, Int.mul_left_comm a, Int.mul_comm a b]
  omega
  rw [zp j (by omega), zq j (by omega)]; simp
  rw [List.getD_eq_getElem?_getD, List.getElem?_eq_none (by rw [aS]; omega)]; rfl
 show ((eW (jq p q k) (jt p q k) p.xs q.xs p.xs.length).getD j default).tdiv _ = 0
 rw [e, Int.zero_tdiv]
theorem na {P Q : Rw → Prop} {p : Rw} {k b : Nat} (hm : ∀ q, P q → 0 < p.xs.getD k default → q.xs.getD k default < 0 → pE (cv p q k) = true → Q (cv p q k)) :
    ∀ {qs new y : List Rw}, (∀ r ∈ qs, P r) → (∀ r ∈ new, Q r) → np p k b qs new = some y → ∀ r ∈ y, Q r
 | [], new, y, _, hn, h => by
  simp only [np, cY] at h; subst h; exact hn
 | q :: qs, new, y, hq, hn, h => by
  have hqs : ∀ r ∈ qs, P r := fun r hr => hq r (by simp [hr])
  unfold np at h
  split at h
  exact na hm hqs hn h
  rename_i h0
  split at h
  rename_i h3
  refine na hm hqs (fun r hr => ?_) h
  rcases List.mem_append.1 hr with hr | hr
  exact hn r hr
  simp only [List.mem_singleton] at hr; subst hr
  exact hm q (hq q (by simp)) (by omega) (by omega) h3.1
  cases h
theorem qd {P Q : Rw → Prop} {k b : Nat} {rs : List Rw} (hr : ∀ r ∈ rs, P r) (hm : ∀ p q, P p → P q → 0 < p.xs.getD k default → q.xs.getD k default < 0 → pE (cv p q k) = true → Q (cv p q k)) :
    ∀ {ps new y : List Rw}, (∀ r ∈ ps, P r) → (∀ r ∈ new, Q r) → mF k b rs ps new = some y → ∀ r ∈ y, Q r
 | [], new, y, _, hn, h => by
  simp only [mF, cY] at h; subst h; exact hn
 | p :: ps, new, y, hq, hn, h => by
  unfold mF at h
  split at h
  cases h
  rename_i z hz
  exact qd hr hm (fun r h => hq r (by simp [h])) (na (hm p · (hq p (by simp))) hr hn hz) h
theorem mr {ts : List Tm} : ∀ {f k : Nat} {rs news a b : List Rw}, (∀ r ∈ rs, RIn ts r ∧ t0 k r) → (∀ r ∈ news, RIn ts r) → ep f k rs news = some (a, b) → (∀ r ∈ a, RIn ts r ∧ t0 (k + f) r) ∧ ∀ r ∈ b, RIn ts r
 | 0, k, rs, news, a, b, h1, h3, h => by
  simp only [ep, cY, Prod.mk.injEq] at h
  obtain ⟨rfl, rfl⟩ := h
  exact ⟨h1, h3⟩
 | f + 1, k, rs, news, a, b, h1, h3, h => by
  cases hs : cO k rs with
  | none => rw [f9 hs] at h; cases h
  | some new =>
   rw [f8 hs] at h
   have hn := qd (P := fun r => RIn ts r ∧ t0 k r) (Q := fun r => RIn ts r ∧ t0 (k + 1) r) h1 (fun p q hp hq g1 g2 g3 => ⟨u7 hp.1 hq.1 g1 g2 g3, tM hp.1 hq.1 g1 g2 hp.2 hq.2⟩) h1 (by simp) hs
   have := mr (k := k + 1) (fun r hr => by
    rcases List.mem_append.1 hr with hr | hr
    · obtain ⟨g1, g2⟩ := List.mem_filter.1 hr
      have g3 := cI g2
      refine ⟨(h1 r g1).1, fun j hj => ?_⟩
      by_cases e : j = k
      · subst e; exact g3
      · exact (h1 r g1).2 j (by omega)
    · exact hn r hr) (fun r hr => by
    rcases List.mem_append.1 hr with hr | hr
    · exact h3 r hr
    · exact (hn r hr).1) h
   rwa [show k + 1 + f = k + (f + 1) by omega] at this
theorem n3 {ts : List Tm} (h : Fs ts) {a b : List Rw} (he : bQ ts = some (a, b)) : (∀ r ∈ a, RIn ts r ∧ t0 10 r) ∧ ∀ r ∈ b, RIn ts r := by
 have := mr (ts := ts) (k := 0) (fun r hr => by
  obtain ⟨i, hi, rfl⟩ := List.mem_map.1 hr
  exact ⟨tD h (List.mem_range.1 hi), fun j hj => absurd hj (Nat.not_lt_zero j)⟩) (by simp) he
 simpa using this
theorem mj : ∀ {rs : List Rw} {r : Rw}, eo rs = some r → r.c < 0
 | x :: rs, r, h => by
  unfold eo at h
  split at h
  rename_i h1; simp only [cY] at h; subst h; exact h1
  exact mj h
theorem my {ctx : List Tm} {ms : List Int} (hl : ms.length = ctx.length) (hx : ∀ k, k < 10 → aR (ix k) ctx ms = 0) (hc : aR Tm.c ctx ms < 0) : cx ctx ms = true := by
 rw [mz, kM, decide_eq_true hl.symm, decide_eq_true hc, Bool.true_and, Bool.and_true, List.all_eq_true]
 intro x hx'
 obtain ⟨k, hk, rfl⟩ := List.mem_map.1 hx'
 exact decide_eq_true (hx k (List.mem_range.1 hk))
theorem oT {ts : List Tm} (h : Fs ts) (h2 : (bO ts).2 = true) : cx ts (bO ts).1 = true := by
 unfold bO at h2 ⊢
 split at h2
 cases h2
 rename_i z hz
 split at h2
 cases h2
 rename_i r hr
 obtain ⟨g1, g2⟩ := (n3 h (a := z.1) (b := z.2) hz).1 r (jS hr)
 exact my g1.ok.n (fun k hk => (g1.xs k hk).symm.trans (g2 k hk)) (by rw [← g1.c]; exact mj hr)
theorem jV {f : Tm → Int} {u : Tm} {m : Int} : ∀ {ts : List Tm} {ms : List Int}, ms.length = ts.length → aR f (ts ++ [u]) (ms ++ [m]) = aR f ts ms + m * f u
 | [], [], _ => by simp [aR]
 | t :: ts, x :: xs, h => by
  rw [List.cons_append, List.cons_append, aR, aR, jV (by simpa using h)]; omega
 | [], x :: xs, h => by simp at h
 | t :: ts, [], h => by simp at h
theorem tI {x : Tm} {k : Nat} (hk : k < 10) : ix k (cJ x) = -(ix k x) := by
 show (aN (be [x] [-1])).getD k 0 = _
 rw [cB]
 unfold be
 have : ((List.range 10).map fun k => aR (ix k) [x] [-1]).getD k 0 = aR (ix k) [x] [-1] := by simp [hk]
 rw [this]
 show -1 * ix k x + 0 = _
 omega
theorem tQ {xs : List Int} {k : Nat} : aE xs ∣ (xs.getD k default).natAbs := by
 by_cases h : k < xs.length
 rw [ar h]; exact fE (List.getElem_mem h)
 rw [List.getD_eq_getElem?_getD, List.getElem?_eq_none (by omega)]; exact Nat.dvd_zero _
theorem u9 {c : Int} {g : Nat} (hg : 0 < g) : c + g * (-(ox c g) - 1) < 0 := by
 have h1 : (g : Int) * c.tdiv g + c.tmod g = c := Int.mul_tdiv_add_tmod c g
 have h2 : c.tmod g < g := Int.tmod_lt_of_pos c (by omega)
 unfold ox
 split
 rw [Int.neg_sub, show (1 : Int) - c.tdiv g - 1 = -(c.tdiv g) by omega, Int.mul_neg]; omega
 rw [Int.mul_sub, Int.mul_neg, Int.mul_one]; omega
theorem pi {ts : List Tm} (h : Fs ts) {r : Rw} (hr : cG ts = some r) : cx (ts ++ [cJ (an ts r.tm).1]) (cF r) = true := by
 obtain ⟨hro, hsr⟩ := fd h hr
 have hin : RIn ts r := by
  unfold cG at hr
  split at hr
  cases hr
  rename_i z hz
  exact (n3 h (a := z.1) (b := z.2) hz).2 r (fL hr).1
 have e : (an ts r.tm).1 = ym r.tm ∧ 2 ≤ aE r.tm.xs := by
  unfold an at hsr ⊢
  split at hsr
  cases hsr
  rename_i h0
  rw [if_neg h0, ← dC hro.tm, gp, if_neg (fun h9 => h0 (.inl h9))]
  exact ⟨Z, Nat.le_of_not_lt fun h9 => h0 (.inl h9)⟩
 rw [e.1]
 have hg : 0 < aE r.tm.xs := by omega
 have hl : r.ms.length = ts.length := hro.n
 refine my (by simp [hl]) (fun k hk => ?_) ?_
 rw [jV hl, tI hk, ← hin.xs k hk]
 show _ + _ * -((List.map (fun x => Int.tdiv x (aE r.tm.xs)) (aN r.xs)).getD k default) = 0
 rw [iH, Int.mul_neg, jc (tQ (xs := r.tm.xs))]
 have := cB r.xs k
 show r.xs.getD k default + -((aN r.xs).getD k 0) = 0
 rw [this]
 show r.xs.getD k default + -(r.xs.getD k default) = 0
 omega
 rw [jV hl, ← hin.c]
 show r.c + (aE r.tm.xs : Int) * (-1 * ox r.tm.c (aE r.tm.xs) + 0 - 1) < 0
 rw [show (-1 * ox r.tm.c (aE r.tm.xs) + 0 - 1 : Int) = -(ox r.c (aE r.tm.xs)) - 1 by show -1 * ox r.c (aE r.tm.xs) + 0 - 1 = _; omega]
 exact u9 hg
theorem jM : ∀ {f : Nat} {ts : List Tm} {z : List Nd × List Nd}, Fs ts → fh f ts = some z → ∃ t : Pf, t.flat = z.1 ++ z.2 ∧ t.fine ∧ t.okay ts
 | 0, ts, z, _, h => by cases h
 | f + 1, ts, z, hF, h => by
  have h14 := hF.len
  rw [fh] at h
  cases ht : dj ts with
  | some i =>
   rw [ht] at h
   simp only at h
   obtain ⟨_, hi, hs⟩ := fH ht
   have hx := b0 hs
   split at h
   cases h
   rename_i hl
   obtain ⟨y, hy, rfl⟩ := Option.map_eq_some_iff.1 h
   obtain ⟨t, h1, h2, h3⟩ := jM (hF.snoc hx hl) hy
   have e : kA (ci i) ts = (aM (ts.getD i default)) := by
    unfold kA
    rw [Int.toNat_natCast, dC (hF.get (by omega))]
   have e2 : (aM (ts.getD i default)).2 = true ∧ (an ts (ts.getD i default)).1 = (aM (ts.getD i default)).1 := by
    unfold an at hs ⊢
    split at hs
    cases hs
    rename_i h0
    simp only [aX] at hs
    rw [if_neg h0]; exact ⟨hs.1, rfl⟩
   refine ⟨.tight (ci i) t, by simp [Pf.flat, h1], ⟨?_, Z, h2⟩, ?_, ?_⟩
   simp [di, pG, Tm.zero]; omega
   rw [e, e2.1, Bool.and_true]
   simp [e7, pG]; omega
   rw [e, ← e2.2]; exact h3
  | none =>
   rw [ht] at h
   simp only at h
   split at h
   rename_i hr
   simp only [cY] at h; subst h
   obtain ⟨g1, g2⟩ := kC hF hr
   refine ⟨.close (bA (bO ts).1), Z, ⟨?_, Z⟩, oT hF hr⟩
   unfold di
   rw [if_pos Z]
   simp [Tm.zero, oz, g1]; omega
   cases hc : cG ts with
   | none => rw [hc] at h; cases h
   | some r =>
    rw [hc] at h
    simp only at h
    obtain ⟨hro, hsr⟩ := fd hF hc
    have hx := b0 hsr
    split at h
    cases h
    rename_i hl
    split at h
    rename_i ho
    obtain ⟨y, hy, rfl⟩ := Option.map_eq_some_iff.1 h
    obtain ⟨t, h1, h2, h3⟩ := jM (hF.snoc hx hl) hy
    have hm := oM hro
    have hml : (cF r).length = ts.length + 1 := by simp [hro.n]
    refine ⟨.split (bN (an ts r.tm).1) t (.close (bA (cF r))), by simp [Pf.flat, h1], ⟨?_, Z, h2, ?_, Z⟩, ?_, h3, pi hF hc⟩
    simp [di, hx]
    unfold di
    rw [if_pos Z, oz]
    show (decide ((0 : Int) = 0) && Tm.zero ⟨0, []⟩ && ((cF r).all co && decide (((cF r).length : Int) ≤ 20))) = true
    rw [hm, hml, decide_eq_true (show ((ts.length + 1 : Nat) : Int) ≤ 20 by omega)]; rfl
    rw [dR, ← ij, ho, Bool.and_true]
    exact decide_eq_true (by omega)
    cases h
theorem k7 {s : Sq} {b : Int} (hs : bX s = true) (hb : b ≤ 60) (h : (aU s b).2 = true) : jy s (aU s b).1 = true ∧ ((aU s b).1.length : Int) ≤ b := by
 obtain ⟨g1, g2, g3⟩ := cC hs
 unfold aU at h ⊢
 split at h
 rename_i ho
 rw [if_pos ho]
 split at h
 cases h
 rename_i z hz
 split at h
 rename_i hl
 have hF : Fs (s.facts ++ [(aT s.goal).1]) := ⟨fun u hu => by
  rcases List.mem_append.1 hu with hu | hu
  · exact g1 u hu
  · simp only [List.mem_singleton] at hu; subst hu; exact kD ho, by simp; omega⟩
 obtain ⟨t, h1, h2, h3⟩ := jM hF hz
 have ho2 : (cJ s.goal).ok = true := by rw [← ij]; exact ho
 have hc : dO s = (s.facts ++ [cJ s.goal], true) := by unfold dO; rw [hs, ho2]; rfl
 have hat : t.At (z.1 ++ z.2) 0 := gd h2 fun j _ => by rw [Nat.zero_add, h1]
 have hsz : t.size = (z.1 ++ z.2).length := by rw [← h1, ct]
 have hpos := bE (t := t)
 have hI : ow (z.1 ++ z.2) = true := by
  rw [oI]
  unfold no
  rw [decide_eq_true (show (1 : Int) ≤ (z.1 ++ z.2).length by omega), decide_eq_true (show ((z.1 ++ z.2).length : Int) ≤ 60 by omega), ← h1, List.all_eq_true.2 (gc h2), h1, hat.endP, decide_eq_true (by omega)]; rfl
 rw [if_pos hl]
 refine ⟨?_, hl⟩
 rw [← uk (by rw [hc]) hI hat hsz]
 refine decide_eq_true ?_
 show (fS t 0 (dO s).1 ⟨[], -1⟩).flaw < 0
 rw [hc, ea (by rw [← rG ho2]; exact h3)]
 decide
 cases h
 cases h
theorem oH {bs : List Bool} : ∀ {i : Nat}, ∀ x ∈ lS bs i, 0 ≤ x ∧ x < i
 | 0, x, h => by cases h
 | i + 1, x, h => by
  rw [lS] at h
  split at h
  rcases List.mem_append.1 h with h | h
  have := oH x h; omega
  simp only [List.mem_singleton] at h; omega
  have := oH x h; omega
theorem tw {q r : Sq} {b : Int} (hq : bX q = true) (hr : bX r = true) (hb : e5 b = true) : (kT [q, r] b).2 = decide ((dr [q, r] b).1 < 0) ∧ (dr [q, r] b).2 = true ∧ ((aU q b).2 = false → (dr [q, r] b).1 = 0) := by
 have h : (iu [q, r] && e5 b) = true := by simp [iu, hq, hr, hb]
 unfold kT dr
 rw [if_pos h, if_pos h]
 cases h1 : (aU q b).2 <;> cases h2 : (aU r b).2 <;> simp [dP, h1, h2]
theorem tv {q r : Sq} {b : Int} (hq : bX q = true) (hr : bX r = true) (hb : e5 b = true) (h : (kT [q, r] b).2 = true) : nx [q, r] (kT [q, r] b).1 = true := by
 have hs : (iu [q, r] && e5 b) = true := by simp [iu, hq, hr, hb]
 have hb60 : b ≤ 60 := by unfold e5 at hb; simp only [aX, decide_eq_true_eq] at hb; exact hb.2
 have key : (aU q b).2 = true ∧ (aU r b).2 = true := by
  unfold kT at h
  rw [if_pos hs] at h
  cases h1 : (aU q b).2 <;> cases h2 : (aU r b).2 <;> simp [dP, h1, h2] at h ⊢
 have e : (kT [q, r] b).1 = [(aU q b).1, (aU r b).1] := by
  unfold kT
  rw [if_pos hs]
  simp [dP, key.1, key.2]
 rw [e, nx, fW]
 have c1 := (k7 hq hb60 key.1).1
 have c2 := (k7 hr hb60 key.2).1
 show (decide ((2 : Int) ≤ 60) && (decide (2 = 2) && (jy q (aU q b).1 && (jy r (aU r b).1 && true)))) = true
 rw [c1, c2]; rfl
end Go.Al
