/- Contracts of the program's functions for de; the types of the arguments. -/
import Derived.Test.YtbkloknmpkgmbaaGreatE
import Derived.Test.YtbkloknmpkgmbaaGreatC
import Derived.Test.YtbkloknmpkgmbaaGreatRows
set_option linter.unusedVariables false
set_option linter.unusedSimpArgs false
set_option maxRecDepth 10000
set_option maxHeartbeats 4000000
open Go.Proofs
namespace Go.Al
variable {L : Nat} (h1 : 4096 ≤ L) (h2 : L ≤ 1073741824)
theorem vT {c : Int} {xs : List Int} (h : (oo c xs).2 = true) : (oo c xs).1.ok = true := by
 unfold oo at h ⊢
 split at h
 rename_i h1; rw [if_pos h1]; exact h1
 cases h
theorem xI {t : Tm} (h : (aR t).2 = true) : (aR t).1.ok = true := vT h
theorem t8 {t : Tm} (h : (bS t).2 = true) : (bS t).1.ok = true := by
 unfold bS at h ⊢
 split at h
 cases h
 rename_i h1; rw [if_neg h1]; exact vT h
theorem tz {t : Tm} (h : t.zero = true) : t.ok = true := by
 simp only [Tm.zero, bP, decide_eq_true_eq] at h
 have h3 : t.xs = [] := List.eq_nil_of_length_eq_zero (by omega)
 simp [Tm.ok, num, h.1, h3]
theorem wE {n : Nd} (h : rY n = true) : n.term.ok = true := by
 unfold rY at h
 split at h
 simp only [bP] at h; exact tz h.1.2
 split at h
 simp only [bP] at h; exact h.1.2
 split at h
 simp only [bP] at h; exact tz h.1.2
 cases h
structure CS where
  all : List (List Tm)
  has : List Bool
  right : List Bool
  flaw : Int
structure CSok (p : List Nd) (k : Nat) (z : CS) : Prop where
  all : z.all.length = k
  has : z.has.length = k
  right : z.right.length = k
  flaw : -1 ≤ z.flaw ∧ z.flaw < k
  ctx : ∀ j, j < k → z.has.getD j default = true → CtxOk (z.all.getD j default)
  good : ∀ j, j < k → z.right.getD j default = true → z.has.getD j default = true ∧ vG (p.getD j default) (z.all.getD j default) = true
structure Con where
  all : List (List Tm)
  has : List Bool
  flaw : Int
  ok : Bool
theorem gX {s : Sq} (h : dA s = true) : (∀ t ∈ s.facts, t.ok = true) ∧ s.facts.length ≤ 13 ∧ s.goal.ok = true := by
 simp only [dA, eH, bP, decide_eq_true_eq, List.all_eq_true] at h
 exact ⟨h.1.1, by omega, h.2⟩
theorem vX {s : Sq} : (pL s).2 = (aR s.goal).2 := by unfold pL; split <;> simp_all
theorem nt {b : Bool} (h : (!b) = true) : b = false := by cases b <;> simp_all
theorem nf {b : Bool} (h : (!b) = false) : b = true := by cases b <;> simp_all
theorem g2 {a b : Bool} : (bif !a then true else !b) = !(a && b) := by cases a <;> cases b <;> rfl
theorem t2 {α β : Type} [Inhabited α] {l : List α} {f : α → β} {n : Nat} (h : n < l.length) : (l.map f)[0 + n]? = some (f (l.getD n default)) := by rw [Nat.zero_add]; simp [h]
abbrev sqs (ss : List Sq) : D := .slc 3 (ss.map Sq.cells)
abbrev lE (ss : List Sq) : A := .c (.d (sqs ss))
abbrev qE (p : List Nd) : List D := [x6 p]
abbrev r5 (ps : List (List Nd)) : D := .slc 1 (ps.map qE)
abbrev iL (ps : List (List Nd)) : A := .c (.d (r5 ps))
abbrev j9 (ts : List Tm) (ms : List Int) : Tm := ⟨cO Tm.c ts ms, bF (cx ts ms)⟩
abbrev gk (t : Tm) : Tm := ⟨cO Tm.c [t] [-1] - 1, bF (cx [t] [-1])⟩
def ox (s : Sq) : List Tm × Bool := if (dA s && (gk s.goal).ok) = true then (s.facts ++ [gk s.goal], true) else ([], false)
variable {ts : List Tm}
theorem y5 {n : Int} : MQ h1 h2 133 [bN ts, eI n] [] (Plain (eB (eH ts n))) := by
 refine aA ?_ Z
 refine jB 21 h1 h2 Tryz.func133 Z Z Z fun O hF => ?_
 have hl : ts.length ≤ L := by simpa [As.fact, A.fact, M.fact, D.fact, Ds.fact] using hF.1.1
 refine ah (js O Z (jn (ag (ah (js O Z (cu O Z (j2 O Z Z (jf [10,4,0,1] Z (jn (ae O Z Z (fun hc10 => ?_) (fun hc10 => ?_)))))))))))
 try simp only [aT] at hc10
 refine ah (js O Z (jr ?_))
 refine ⟨.inl Z, _, am, _, Z, ?_⟩
 rw [eH, decide_eq_false (show ¬ (ts.length : Int) ≤ n by omega), Bool.and_false]
 try simp only [aT] at hc10
 refine aj (ag (ah (js O Z (cu O Z (js O Z (jn (ao (aq (X := Nat) (fun i => ⟨[(1, eI n), (11, bN ts), (12, eI ts.length), (13, eI i)], []⟩) (fun i => i ≤ ts.length ∧ ∀ j (h : j < ts.length), j < i → Tm.ok ts[j] = true) (fun i => ts.length - i) 0 (Ent.to ⟨Z, Z, Z, Z, trivial⟩ Z) ?_ (fun i hi => ?_)))))))))
 exact ⟨ct _, fun j h hj => absurd hj (Nat.not_lt_zero j)⟩
 refine ah (js O Z (jn (ag (ae O Z Z (fun hc14 => ?_) (fun hc14 => ?_)))))
 try simp only [aT] at hc14
 refine aj (ag (ao (ah (iM O Z Z (js O Z (jf [16,14,1,11,12,13] Z (jl O Z (jo O Z (aV (js O Z (ap O Z Z Z Z (mU (t := ts.getD i default) h1 h2) (aa Z) Z Z Z Z Z (B0 := 19000) Z (js O Z (jf [19,6,16,14,1,11,12,13] Z (jn (ae O Z Z (fun hc19 => ?_) (fun hc19 => ?_))))))))))))))))
 try simp only [aT] at hc19
 refine ah (js O Z (jr ?_))
 refine ⟨.inl Z, _, am, _, Z, ?_⟩
 rw [ax (by omega)] at hc19
 rw [eH, gD i (by omega) hc19, Bool.false_and]
 try simp only [aT] at hc19
 refine aj (ak (ji O Z (js O Z (jn ?_))))
 refine ⟨i + 1, (aw [] (e' := [(1, _), (11, _), (12, _), (13, _)]) Z Z ⟨Z, Z, Z, Z, trivial⟩ Z), ⟨by omega, fun j h hj => ?_⟩, by omega⟩
 by_cases e : j = i
 subst e; rw [ax h] at hc19; exact hc19
 exact hi.2 j h (by omega)
 try simp only [aT] at hc14
 refine aO (ah (js O Z (jr ?_)))
 refine ⟨.inl Z, _, am, _, Z, ?_⟩
 rw [eH, ii (fun j hj => hi.2 j hj (by omega)), decide_eq_true (show (ts.length : Int) ≤ n by omega), Bool.true_and]
theorem xi {s : Sq} : MQ h1 h2 91 [AZ s] [] (Plain (eB (dA s))) := by
 refine aA ?_ Z
 refine jB 11 h1 h2 Tryz.func91 Z Z Z fun O hF => ?_
 refine ah (jx O Z (js O Z (aV (j2 O Z Z (jf [4,2,1,0] Z (ap O Z Z Z Z (y5 h1 h2) (aa Z) Z Z Z Z Z (B0 := 6000) Z (js O Z (jf [6,2,1,0] Z (az 3 Z Z Z (fun hx => ab hx Z Z Z (V O Z) Z Z ( ab hx Z Z Z (V O Z) Z Z ( bv O hx Z Z Z Z (mU h1 h2) (aa Z) Z Z Z Z Z Z Z (B0 := 10000) Z ( AN.nil)))) Z Z (ac (aC O Z Z Z Z Z) Z Z Z (js O Z (jf [2,0] Z (jr ?_)))))))))))))
 refine ⟨.inl Z, _, am, _, Z, ?_⟩
 rw [Bool.cond_false_right]; rfl
variable {t : Tm}
theorem D4 : MQ h1 h2 211 [cL t] [] (Plain (cL ⟨t.c, bF t.xs⟩)) := by
 refine MC.data (jB 26 h1 h2 Tryz.func211 Z Z Z fun O hF => ?_)
 have hl : t.xs.length ≤ L := by simpa [As.fact, A.fact, M.fact, Ms.fact, D.fact, Ds.fact] using hF.1.2.1.1
 refine ah (jx O Z (jf [1] Z (jl O Z (aV (j2 O Z Z (cu O Z (js O Z (jf [3,2,1] Z (jn (ag (ao (aq (X := Nat) (fun n => ⟨[(1, .c (.pt 1 0 0)), (2, .c (.pt 2 0 0)), (3, eI n)], [(1, .box [.d (.int .i64 t.c), .d (bj t.xs)]), (2, .box [.d (.int .i64 0), .d .nils])]⟩) (fun n => n ≤ t.xs.length ∧ bF (t.xs.take n) = bF t.xs) (fun n => n) t.xs.length (Ent.env ⟨Z, Z, Z, trivial⟩) ?_ (fun n hi => ?_)))))))))))))
 exact ⟨cC _, by rw [List.take_length]⟩
 refine ag (ah (j3 O Z Z Z (jf [9,1,2,3] Z (az 7 Z Z Z (fun hx => ab hx Z Z Z (V O Z) Z Z ( ab hx Z Z Z (V O Z) Z Z ( ab hx Z Z Z (V O Z) Z Z ( ab hx Z Z Z (vF O Z) Z Z ( ab hx Z Z Z (vD O Z) Z Z ( ab hx Z Z Z (V O Z) Z Z ( ab hx Z Z Z (V O Z) Z Z ( AN.nil)))))))) Z Z (ac (aC O Z Z Z Z Z) Z Z Z (jf [17,1,2,3] Z (jn (ae O Z Z (fun hc17 => ?_) (fun hc17 => ?_)))))))))
 refine aj (ao (ak (js O Z (ji O Z (js O Z (jf [3,17,1,2] Z (jn ?_)))))))
 rw [Bool.cond_false_right, bP, decide_eq_true_eq, decide_eq_true_eq] at hc17
 obtain ⟨k, hk⟩ : ∃ k, n = k + 1 := ⟨n - 1, by omega⟩
 subst hk
 have hk2 : ((k + 1 : Nat) : Int) - 1 = k := by omega
 rw [hk2] at hc17
 refine ⟨k, Ent.to ⟨Z, Z, by rw [hk2]; rfl, trivial⟩ Z, ⟨by omega, ?_⟩, Nat.lt_succ_self k⟩
 rw [← hi.2, lR (by omega) (by simpa using hc17.2)]
 refine aO (ah (j3 O Z Z Z ?_))
 have hd : bF (t.xs.take n) = t.xs.take n := jN hi.1 (by
  rw [Bool.cond_false_right] at hc17
  rcases Nat.eq_zero_or_pos n with h0 | h0
  ·
   exact .inl h0
  ·
   refine .inr (fun h9 => ?_)
   have e1 : ((n : Int) - 1).toNat = n - 1 := by omega
   rw [e1, h9] at hc17; simp at hc17; omega)
 have ht := hi.2
 rw [hd] at ht
 refine ac ((fJ O Z Z ⟨by omega, by simp; omega⟩).cast (v' := bH (bF t.xs)) (by rw [← ht]; simp [List.map_take])) Z Z Z (js O Z (jf [24,23,17,1,2,3] Z (jo O Z (jf [17,1,2,3] Z (aV (js O Z (jo O Z (jr ?_))))))))
 refine ⟨.inl Z, _, am, _, Z, ?_⟩
 exact .v (.agg (aE Z))
theorem lm {f : Tm → Int} : ∀ {ts : List Tm} {ms : List Int}, ts.length ≤ ms.length → cO f (ts.take ts.length) (ms.take ts.length) = cO f ts ms
 | [], ms, _ => by cases ms <;> simp [cO]
 | t :: ts, [], h => by simp at h
 | t :: ts, m :: ms, h => by
  have := lm (f := f) (ts := ts) (ms := ms) (by simpa using h)
  simp only [dL, List.take_succ_cons, cO] at this ⊢
  rw [this]
theorem pp {ts : List Tm} {ms : List Int} (h : ts.length ≤ ms.length) : cx (ts.take ts.length) (ms.take ts.length) = cx ts ms := by
 unfold cx
 apply List.map_congr_left
 intro k _
 exact lm h
theorem y4 {ms : List Int} (hc : CtxOk ts) (hm : ms.all num = true) (hle : ts.length ≤ ms.length) : MQ h1 h2 190 [bN ts, bH ms] [] (Plain (cL (j9 ts ms))) := by
 refine MC.data (jB 55 h1 h2 Tryz.func190 Z Z Z fun O hF => ?_)
 have hl : ms.length ≤ L := by simpa [As.fact, A.fact, M.fact, D.fact, Ds.fact] using hF.2.1.1
 have hlc := hc.len
 refine ah (jl O Z (aV (AOps.heap (ea O Z Z Z Z Z Z Z Z Z (by first | omega | (simp at *; omega)) (by first | omega | (simp at *; omega)) (by first | omega | (simp at *; omega)) (by first | omega | (dsimp only; omega) | (simp only [aT] at *; omega)) (by first | omega | (simp at *; omega)) Z Z Z) Z (js O Z (jf [11,4,0,1] Z (jl O Z (jo O Z (jn (ag (ah (js O Z (cu O Z (js O Z (jn (ao (aq (X := Nat) (fun i => ⟨[(1, bH ms), (4, .c (.pt 4 0 0)), (5, .c (.pt 5 0 0)), (12, bN ts), (13, eI ts.length), (14, eI i)], [(4, .box [.d (.int .i64 0), .d .nils]), (5, .box [.d (.int .i64 (cO Tm.c (ts.take i) (ms.take i))), .rs 10 0 10]), (10, aX (cx (ts.take i) (ms.take i)))]⟩) (fun i => i ≤ ts.length) (fun i => ts.length - i) 0 (Ent.to ⟨Z, Z, Z, Z, Z, Z, trivial⟩ Z) ?_ (fun i hi => ?_)))))))))))))))))
 exact ct _
 refine ah (js O Z (jn (ag (ae O Z Z (fun hc15 => ?_) (fun hc15 => ?_)))))
 try simp only [aT] at hc15
 refine aj (ag (ao (ah (js O Z (iM O Z Z (js O Z (jf [18,16,15,1,4,5,12,13,14] Z (jl O Z (js O Z (jf [6,7,18,15,1,4,5,12,13,14] Z (jo O Z (jn (ag ?_)))))))))))))
 have hi0 := hi
 have hts := Small.of (hc.get (show i < ts.length by omega))
 have hd1 := im (f := Tm.c) (ts := ts) (ms := ms) (fun t ht => (Small.of (hc.ok t ht)).c) hm hi (by omega)
 have hd2 := fR (f := Tm.c) (ts := ts) (ms := ms) (i := i) (by omega) (by omega)
 have hmi : num (ms.getD i default) = true := by rw [ax (by omega)]; exact List.all_eq_true.1 hm _ (List.getElem_mem _)
 have hmu := dZ hmi hts.c
 refine gL O [_,_,_,_,_,_,_,_,_,_,_,_] [pn [] 0 0, pn [0] 0 0, pn [] 0 0, pn [] 0 0, pn [2,3] 0 0, pn [2,3,4] 0 0, pn [] 0 0, pn [6] 0 0, pn (rg 2 6) 0 0, pn (rg 0 9) 0 0, pn (rg 0 10) 0 0, pe (rg 0 11) 0] [11] [_,_] (kc O Z (kc O Z (kc O Z (kc O Z (ai (vN O Z) (kc O Z (kc O Z (kc O Z (ai (vF O Z) (ai (vF O Z) (kc O Z (ai (eS O Z Z Z) trivial)))))))))))) ?_
 refine jw [6,7,18,15,1,4,5,12,13,14] Z (b9 ?_)
 refine ah (j2 O Z Z (cu O Z (js O Z (jn (ao (aq (X := Nat) (fun j => ⟨[(1, bH ms), (4, .c (.pt 4 0 0)), (5, .c (.pt 5 0 0)), (12, bN ts), (13, eI ts.length), (14, eI i), (6, eI i), (31, bH (ts.getD i default).xs), (32, eI (ts.getD i default).xs.length), (33, eI j)], [(4, .box [.d (.int .i64 0), .d .nils]), (5, .box [.d (.int .i64 (cO Tm.c (ts.take i) (ms.take i) + ms.getD i default * (ts.getD i default).c)), .rs 10 0 10]), (10, aX (eF ts ms i j))]⟩) (fun j => j ≤ (ts.getD i default).xs.length) (fun j => (ts.getD i default).xs.length - j) 0 (((aw [4,5,10] (e' := [(1, _), (4, _), (5, _), (12, _), (13, _), (14, _), (6, _), (31, _), (32, _), (33, _)]) Z Z ⟨Z, Z, Z, Z, Z, Z, Z, Z, Z, Z, trivial⟩ Z)).trans (Ent.to ⟨Z, Z, Z, Z, Z, Z, Z, Z, Z, Z, trivial⟩ (by rw [l3]; rfl))) ?_ (fun j hi => ?_)))))))
 exact ct _
 refine ah (js O Z (jn (ag (ae O Z Z (fun hc34 => ?_) (fun hc34 => ?_)))))
 try simp only [aT] at hc34
 refine aj (ag (ao (ah (js O Z (iM O Z Z (j3 O Z Z Z (jf [9,8,34,1,4,5,12,13,14,6,31,32,33] Z (jn ?_))))))))
 have hjl : j < 10 := by have := lK (hc.get (show i < ts.length by omega)); omega
 have hpj := kW (ts := ts) (ms := ms) (i := i) hjl
 have hps := l4 (ts := ts) (ms := ms) (i := i) hjl
 have hpl := dI (ts := ts) (ms := ms) (i := i) (j := j)
 have hd3 := im (f := qK j) (ts := ts) (ms := ms) (fun t ht => (Small.of (hc.ok t ht)).get j) hm hi0 (by omega)
 have hmx := dZ hmi (hts.get j)
 rw [show (ts.getD i default).xs.getD j 0 = (ts.getD i default).xs.getD j default from Z] at hmx
 refine gL O [_,_,_,_,_,_,_,_,_,_,_,_,_,_] [pn [] 0 0, pn [0] 0 0, pn [] 0 0, pn [0,1,2] 0 0, pn (rg 0 4) 0 0, pn [] 0 0, pn [] 0 0, pn [5,6] 0 0, pn [5,6,7] 0 0, pn [] 0 0, pn (rg 5 5) 0 0, pn (rg 0 11) 0 0, pn (rg 0 12) 0 0, pe (rg 0 13) 0] [13] [_,_] (kc O Z (kc O Z (kc O Z (ai (vI O Z Z) (ai (aS O (ex := [.int .i64 ((eF ts ms i j).getD j default)]) Z Z Z Z (t2 (by omega)) Z) (kc O Z (kc O Z (ai (vN O Z) (kc O Z (kc O Z (ai (vF O Z) (ai (vF O Z) (ai (vI O Z Z) (ai (dt (ex := [.int .i64 ((eF ts ms i j).getD j default)]) (xs' := (eF ts ms i (j + 1)).map (fun n => [D.int .i64 n])) O Z Z Z Z Z Z Z Z Z Z Z Z Z Z Z (t2 (by omega)) (by rw [← hps, List.map_set]; simp only [Int.toNat_natCast, Nat.zero_add]; rfl) Z) trivial)))))))))))))) ?_
 refine jw [34,1,4,5,12,13,14,6,31,32,33] Z (b9 ?_)
 refine ak (ji O Z (js O Z (jn ?_)))
 refine ⟨j + 1, Ent.to ⟨Z, Z, Z, Z, Z, Z, Z, Z, Z, Z, trivial⟩ Z, by omega, by omega⟩
 try simp only [aT] at hc34
 refine aO (ak (ji O Z (js O Z (jn ?_))))
 refine ⟨i + 1, ((aw [4,5,10] (e' := [(1, _), (4, _), (5, _), (12, _), (13, _), (14, _)]) Z Z ⟨Z, Z, Z, Z, Z, Z, trivial⟩ Z)).trans (Ent.to ⟨Z, Z, Z, Z, Z, Z, trivial⟩ ?_), by omega, by omega⟩
 rw [hd2, ← nz (j := j) (by omega) (by omega) (by omega)]; rfl
 try simp only [aT] at hc15
 refine aO (ah ?_)
 obtain rfl : i = ts.length := by omega
 have hcl := iy (ts := ts.take ts.length) (ms := ms.take ts.length)
 refine ay (Ent.freeze 10 (e' := [(5, _), (4, _)]) Z (fe [5,4] Z) (.cons Z (.box (fk Z)) (.cons Z (.box (.cons (.keep Z) (.cons (.row Z (by rw [bz, hcl])) .nil))) (.skip .nil)))) ?_
 refine js O Z (ar O Z Z Z Z (D4 (t := ⟨cO Tm.c (ts.take ts.length) (ms.take ts.length), cx (ts.take ts.length) (ms.take ts.length)⟩) h1 h2) (aa Z) Z Z Z Z (B0 := 55000) Z Z (jf [54,5,4] Z (jo O Z (jr ?_))))
 refine ⟨.inl Z, _, am, _, Z, ?_⟩
 have e1 : cO Tm.c (ts.take ts.length) (ms.take ts.length) = cO Tm.c ts ms := lm hle
 have e2 : cx (ts.take ts.length) (ms.take ts.length) = cx ts ms := pp hle
 rw [e1, e2]
 exact .v (.agg (aE Z))
theorem DZ {t : Tm} (h : t.ok = true) : CtxOk [t] := ⟨fun u hu => by simp at hu; subst hu; exact h, by simp⟩
theorem DY {t : Tm} (h : Small t) : -1000000 ≤ cO Tm.c [t] [-1] ∧ cO Tm.c [t] [-1] ≤ 1000000 := by
 have := Db.1 h.c
 show -1000000 ≤ -1 * t.c + 0 ∧ -1 * t.c + 0 ≤ 1000000
 omega
theorem xh (ht : t.ok = true) : MQ h1 h2 183 [cL t] [] (Plain (cL (gk t))) := by
 refine MC.data (jB 13 h1 h2 Tryz.func183 Z Z Z fun O hF => ?_)
 have hd1 := DY (Small.of ht)
 refine ah (jx O Z (jf [1] Z (jl O Z (aV (js O Z (jf [4,2] Z (AOps.heap (bE O Z Z Z Z Z Z Z Z Z Z Z) Z (jf [5,2] Z (AOps.heap (bA O Z Z Z) Z (ay (Ent.freeze 5 (e' := [(6, _), (5, _), (2, _)]) Z (.cons Z (.keep Z) (.cons Z (.c (.row Z Z)) (fe [2] Z))) (.cons Z (.box (fk Z)) (.cons Z (.box (fk Z)) (.skip (.cons Z .row .nil))))) ?_))))))))))
 refine ay (Ent.freeze 6 (e' := [(6, _), (5, _), (2, _)]) Z (.cons Z (.c (.row Z Z)) (fe [5,2] Z)) (.cons Z (.box (fk Z)) (.cons Z (.box (fk Z)) (.skip .nil)))) ?_
 refine ar O Z Z Z Z (y4 (ts := [t]) (ms := [-1]) h1 h2 (DZ ht) (by decide) (cC 1)) (aa Z) Z Z Z Z (B0 := 8000) Z Z (jf [7,2] Z (jl O Z (jo O Z (aV (j2 O Z Z (ji O Z (js O Z (jf [11,10,3,7,2] Z (jo O Z (jf [3,7,2] Z (aV (js O Z (jo O Z (jr ?_))))))))))))))
 refine ⟨.inl Z, _, am, _, Z, ?_⟩
 exact .v (.agg (aE Z))
theorem Bm {s : Sq} : MQ h1 h2 148 [AZ s] [] (Plain (Bd (ox s))) := by
 refine MC.data (jB 23 h1 h2 Tryz.func148 Z Z Z fun O hF => ?_)
 refine ah (jx O Z (j2 O Z Z (jn (ag (ah (js O Z (ap O Z Z Z Z (xi (s := s) h1 h2) (aa Z) Z Z Z Z Z (B0 := 6000) Z (j2 O Z Z (jf [7,3,2,1,0] Z (az 5 Z Z Z (fun hx => ab hx Z Z Z (V O Z) Z Z ( ab hx Z Z Z (V O Z) Z Z ( pC O hx Z Z Z Z (xh (t := s.goal) h1 h2 (gX (by simpa using hx)).2.2) (aa Z) (B0 := 11000) Z Z Z Z Z Z Z Z ( bv O hx Z Z Z Z (mU (t := gk s.goal) h1 h2) (aa Z) Z Z Z Z Z Z Z (B0 := 12000) Z ( ab hx Z Z Z (V O Z) Z Z ( AN.nil)))))) Z Z (ac (aL O Z Z Z Z Z) Z Z Z (jf [13,3,2,1,0] Z (jn (ae O Z Z (fun hc13 => ?_) (fun hc13 => ?_)))))))))))))))
 refine ah (j2 O Z Z (jr ?_))
 refine ⟨.inl Z, _, am, _, Z, ?_⟩
 have hg : (dA s && (gk s.goal).ok) = false := by have h9 := hc13; rw [g2] at h9; exact nt h9
 rw [show ox s = ([], false) from if_neg (by rw [hg]; decide)]
 exact .tup (.cons (.c .nils) (.cons (.c .d) .nil))
 refine aj (ag (jw [1,0] Z ?_))
 have hg : (dA s && (gk s.goal).ok) = true := by have h9 := hc13; rw [g2] at h9; exact nf h9
 have hsq := (bP _ _ ▸ hg).1
 obtain ⟨hs1, hs2, hs3⟩ := gX hsq
 refine jA O [_,_,_,_,_,_,_,_,_,_,_] [pn [] 0 0, pn [0] 0 0, pe [0,1] 0, pn [] 0 1, pn [3] 0 1, pe (rg 0 5) 1, pe (rg 0 6) 2, pe (rg 0 7) 3, pe (rg 0 8) 4, pn (rg 0 9) 5 5, pn (rg 0 10) 5 5] [2,5,6,7,8] [_,_,_,_,_,_] [[], [], [], [], [17000]] (ka O Z Z (ka O Z Z (ai (ai (aG (dv O (B0 := 17000) Z Z Z Z (D0 (ts := s.facts) h1 h2) (aa Z) Z Z Z Z)) Z) (ai (ka O Z Z (kw O Z Z)) (ai (ka O Z Z (kw O Z Z)) (ai (ai (aG (bo O (B0 := 20000) Z Z Z Z (xh (t := s.goal) h1 h2 hs3) (aa Z) Z Z Z Z Z)) Z) (ai (ai (aG (bo O (B0 := 21000) Z Z Z Z (xl (t := gk s.goal) h1 h2) (aa Z) Z Z Z Z Z)) Z) (ai (ai (aG (ck O Z Z Z Z Z Z Z Z Z Z Z Z Z Z)) Z) (ai (ai (bU (own := false) (xs := s.facts.map Tm.cells) (ys := [Tm.cells (gk s.goal)]) (zs := (s.facts ++ [gk s.goal]).map Tm.cells) (n := (s.facts ++ [gk s.goal]).length) O Z Z Z Z Z Z Z Z Z Z Z Z Z Z Z Z (.row Z (bz _).symm) (.whole Z Z (.inr ⟨Z, Z⟩)) (by simp) Z (by simp; omega) (by simp; omega) (by simp) (by simp) Z) Z) (ka O Z Z (ka O Z Z trivial))))))))))) ?_
 refine jw [3,2,1,0] Z (b9 ?_)
 refine dz ?_
 refine ⟨.inl Z, _, am, _, Z, ?_⟩
 rw [show ox s = (s.facts ++ [gk s.goal], true) from if_pos hg]
 exact .tup (.cons (.c (.whole Z (bz _).symm)) (.cons (.c .d) .nil))
theorem vf {n : Int} : MQ h1 h2 93 [eI n] [] (Plain (eI n)) := by
 refine aA ?_ Z
 refine jB 4 h1 h2 Tryz.func93 Z Z Z fun O hF => ?_
 refine ah (js O Z (aV (j2 O Z Z (jr ?_))))
 refine ⟨.inl Z, _, am, _, Z, ?_⟩
 first | rfl | skip
variable {r : List Tm}
theorem y3 {c : Tm} (hl : (c :: r).length ≤ 1000) : MQ h1 h2 152 [bN (c :: r)] [] (Rows (.c (.rs 0 0 (c :: r).length)) [aH (c :: r)]) := by
 refine bI (jB 8 h1 h2 Tryz.func152 Z Z Z fun O hF => ?_)
 refine ah (js O Z (jn (ag (ah (j2 O Z Z (jn (ae O Z Z (fun hc4 => ?_) (fun hc4 => ?_))))))))
 exact absurd (show false = true from hc4) (by decide)
 refine aj (ah (AOps.heap (bA O Z Z Z) Z (js O Z (jf [6,5,3,2,0] Z (ay (cZ 5 Z) (AOps.heap (aU (own := false) (zs := (c :: r).map Tm.cells) (n := (c :: r).length) O Z Z Z Z Z Z Z Z Z Z Z Z Z Z Z Z (.row Z Z) (.slc (.inl Z)) (by simp) Z (by simp at hl ⊢; omega) (by simp at hl ⊢; omega) Z (by simp)) Z (js O Z (jf [2,3,0] Z (jr ?_)))))))))
 refine ⟨.inl Z, _, am, _, Z, [7], by decide, Z, Z, Z⟩
theorem Ea {c : Tm} (hl : (c :: r).length ≤ 1000) : MQ h1 h2 206 [bN (c :: r), cL t] [] (Plain (bN (c :: r ++ [t]))) := by
 refine MC.data (jB 10 h1 h2 Tryz.func206 Z Z Z fun O hF => ?_)
 refine ah (jx O Z (js O Z (jn (ag (jw [3,0,1] Z (oq O [_,_,_,_,_,_] [pn [] 0 0, pe [0] 0, pn [] 0 1, pn [2] 0 1, pe [0,1,2,3] 1, pn [0,1,2,3,4] 2 2] [1,4] 3 8 (.row false 2 [Tm.cells t]) [_,_] [_] [[], [7000]] (kf O Z Z Z (ai (ai (aD (aG (dv O (B0 := 7000) Z Z Z Z (y3 (c := c) (r := r) h1 h2 hl) (aa Z) Z Z Z Z)) (aG (dv O (B0 := 7000) Z Z Z Z (y3 (c := c) (r := r) h1 h2 hl) (aa Z) Z Z Z Z))) Z) (ai (kf O Z Z Z (kg O Z Z Z)) (ai (ai (ai (aG (ck O Z Z Z Z Z Z Z Z Z Z Z Z Z Z)) Z) (ai (aG (ck O Z Z Z Z Z Z Z Z Z Z Z Z Z Z)) Z)) (ai (ai (aD trivial (bU (own := false) (xs := (c :: r).map Tm.cells) (ys := [Tm.cells t]) (zs := (c :: r ++ [t]).map Tm.cells) (n := (c :: r ++ [t]).length) O Z Z Z Z Z Z Z Z Z Z Z Z Z Z Z Z (.row Z (bz _).symm) (.whole Z Z (.inr ⟨Z, Z⟩)) (by simp) Z (by simp at hl ⊢; omega) (by simp at hl ⊢; omega) (by simp) (by simp) Z)) Z) (ai (ai (aD trivial (V O Z)) Z) trivial)))))) ?_))))))
 refine jw [4,1] Z (b9 ?_)
 refine dz ?_
 refine ⟨.inl Z, _, am, _, Z, ?_⟩
 exact .v (.c (.whole Z (bz _).symm))
theorem D3 {x : Int} (hx : -1000000 ≤ x ∧ x ≤ 1000000) : MQ h1 h2 210 [eI x] [] (Plain (eI x.natAbs)) := by
 refine aA ?_ Z
 refine jB 7 h1 h2 Tryz.func210 Z Z Z fun O hF => ?_
 refine ah (js O Z (aV (j2 O Z Z (ji O Z (j2 O Z Z (jr ?_))))))
 refine ⟨.inl Z, _, am, _, Z, ?_⟩
 exact congrArg eI (show (if 0 - x > x then 0 - x else x) = (x.natAbs : Int) by split <;> omega)
def w4 (c g : Int) : Int := if c.tmod g < 0 then c.tdiv g - 1 else c.tdiv g
abbrev tiI (t : Tm) : Tm := ⟨w4 t.c (bk t.xs), t.xs.map fun x => x.tdiv (bk t.xs)⟩
def lH (t : Tm) : Tm × Bool := if bk t.xs < 2 then (⟨0, []⟩, false) else (tiI t, true)
theorem xg {xs : List Int} (ht : xs.all num = true) : MQ h1 h2 189 [bH xs] [] (Plain (eI (bk xs))) := by
 refine aA ?_ Z
 refine jB 26 h1 h2 Tryz.func189 Z Z Z fun O hF => ?_
 have hl : xs.length ≤ L := by simpa [As.fact, A.fact, M.fact, D.fact, Ds.fact] using hF.1.1
 refine ah (js O Z (aV (js O Z (jn (ag (ah (js O Z (cu O Z (js O Z (jn (ao (aq (X := Nat) (fun i => ⟨[(3, eI (bk (xs.take i))), (8, bH xs), (9, eI xs.length), (10, eI i)], []⟩) (fun i => i ≤ xs.length) (fun i => xs.length - i) 0 (Ent.env ⟨Z, Z, Z, Z, trivial⟩) ?_ (fun i hi => ?_)))))))))))))
 exact ct _
 refine ah (js O Z (jn (ag (ae O Z Z (fun hc11 => ?_) (fun hc11 => ?_)))))
 try simp only [aT] at hc11
 refine aj (ag (ao (ah ?_)))
 have hi0 := hi
 have hx := Db.1 (List.all_eq_true.1 ht _ (List.getElem_mem (show i < xs.length by omega)))
 rw [← ax (by omega)] at hx
 have hgs := jT (xs := xs) (i := i) (by omega)
 have hgl := nb ht hi
 refine ac (aP O Z Z Z Z Z Z Z Z (dc (by omega))) Z Z Z (j2 O Z Z (jf [5,11,3,8,9,10] Z (aV (j2 O Z Z (jf [15,14,11,3,8,9,10] Z (ap O Z Z Z Z (D3 (x := xs.getD i default) h1 h2 hx) (aa Z) Z Z Z Z Z (B0 := 17000) Z (j2 O Z Z (jf [7,6,11,3,8,9,10] Z (jn (ag (ao (aq (X := Nat × Nat) (fun z => ⟨[(8, bH xs), (9, eI xs.length), (10, eI i), (6, eI z.1), (7, eI z.2)], []⟩) (fun z => Nat.gcd z.1 z.2 = Nat.gcd (bk (xs.take i)) (xs.getD i default).natAbs ∧ z.1 ≤ 1000000 ∧ z.2 ≤ 1000000) (fun z => z.2) (bk (xs.take i), (xs.getD i default).natAbs) (Ent.env ⟨Z, Z, Z, Z, Z, trivial⟩) ?_ (fun z hi => ?_)))))))))))))
 exact ⟨Z, hgl, by show (xs.getD i default).natAbs ≤ 1000000; omega⟩
 have hz := gq (a := z.1) (b := z.2) (by omega)
 refine ag (ah (j2 O Z Z (jn (ae O Z Z (fun hc18 => ?_) (fun hc18 => ?_)))))
 try simp only [aT] at hc18
 refine aj (ao (mh O _ [_,_,_,_,_,_] [pn [] 0 0, pn [] 0 0, pn [] 0 0, pn [1,2] 0 0, pn [0,1] 0 0, pn (rg 0 5) 0 0] [] [[], [], [6], [6], [], [6]] [_] Z Z (by decide) (by decide) (by kernel_rfl) (kc O Z (kc O Z (kc O Z (ai (mg O Z Z Z Z (by omega) (by omega) (by omega)) (kc O Z (kc O Z trivial)))))) ?_))
 have hm : z.1 % z.2 < z.2 := Nat.mod_lt _ (by omega)
 refine ⟨(z.2, z.1 % z.2), Ent.env ⟨Z, Z, Z, Z, Z, trivial⟩, ⟨?_, hi.2.2, by show z.1 % z.2 ≤ 1000000; omega⟩, hm⟩
 show Nat.gcd z.2 (z.1 % z.2) = _
 rw [← hi.1, Nat.gcd_comm z.2, ← Nat.gcd_rec, Nat.gcd_comm]
 try simp only [aT] at hc18
 refine aO (ak (j2 O Z Z (jn (ak (ji O Z (js O Z (jn ?_)))))))
 have hz0 : z.2 = 0 := by omega
 have hz1 : z.1 = bk (xs.take (i + 1)) := by rw [hgs, ← hi.1, hz0, Nat.gcd_zero_right]
 rw [hz1]
 exact ⟨i + 1, Ent.env ⟨Z, Z, Z, Z, trivial⟩, by omega, by omega⟩
 try simp only [aT] at hc11
 refine aO (ah (j2 O Z Z (jr ?_)))
 refine ⟨.inl Z, _, am, _, Z, ?_⟩
 obtain rfl : i = xs.length := by omega
 rw [List.take_length]
theorem D5 {a b : Int} (ha : -1000000 ≤ a ∧ a ≤ 1000000) (hb : b ≠ 0) : MQ h1 h2 214 [eI a, eI b] [] (Plain (eI (w4 a b))) := by
 refine aA ?_ Z
 refine jB 16 h1 h2 Tryz.func214 Z Z Z fun O hF => ?_
 have hq := dN (b := b) ha
 have hr := gq (b := b) ha
 refine ah (js O Z (aV (j2 O Z Z (ac (vQ O Z Z Z Z) Z Z Z (js O Z (jn (ag (ah (j2 O Z Z (ac (vR O Z Z Z Z) Z Z Z (js O Z (jn (ae O Z Z (fun hc12 => ?_) (fun hc12 => ?_))))))))))))))
 try simp only [aT] at hc12
 refine ak (js O Z (ji O Z (js O Z (aV (j2 O Z Z (jr ?_))))))
 refine ⟨.inl Z, _, am, _, Z, ?_⟩
 rw [w4, if_pos hc12]
 try simp only [aT] at hc12
 refine aj (ah (j2 O Z Z (jr ?_)))
 refine ⟨.inl Z, _, am, _, Z, ?_⟩
 rw [w4, if_neg (by omega)]
theorem oG : MQ h1 h2 94 [cL t] [] (Rows (.agg [.d (.int .i64 t.c), .rs 0 0 t.xs.length]) [aX t.xs]) := by
 refine bI (jB 9 h1 h2 Tryz.func94 Z Z Z fun O hF => ?_)
 refine ah (jx O Z (jl O Z (jn (ag (gL O [_,_,_,_,_,_,_] [pn [] 0 1, pn [0] 0 1, pn [] 0 0, pn [2] 0 0, pe [2,3] 0, pn (rg 0 5) 1 1, pe (rg 0 6) 1] [4,6] [_,_,_] (ai (kc O Z (V O Z)) (ai (kc O Z (V O Z)) (kc O Z (kc O Z (ai (dg O (B0 := 8000) Z Z Z Z (ve (xs := t.xs) h1 h2) (aa Z) Z Z Z Z Z) (kc O Z (ai (eS O Z Z Z) trivial))))))) ?_)))))
 refine dz ?_
 refine ⟨.inl Z, _, am, _, Z, [8000], by decide, Z, Z, Z⟩
def mj (xs : List Int) (g : Int) (i : Nat) : List Int := (xs.take i).map (fun x => x.tdiv g) ++ xs.drop i
theorem iZ {xs g} : mj xs g 0 = xs := by simp [mj]
theorem jF {xs : List Int} {g : Int} : mj xs g xs.length = xs.map fun x => x.tdiv g := by simp [mj]
theorem kr {xs g i} : (mj xs g i).length = xs.length := by simp [mj]; omega
theorem fc {xs : List Int} {g : Int} {i : Nat} (h : i < xs.length) : ((mj xs g i).map fun n => [D.int .i64 n])[i]? = some [.int .i64 (xs.getD i default)] := by
 rw [List.getElem?_map, mj, List.getElem?_append_right (by simp; omega), bz, List.length_take, Nat.min_eq_left (Nat.le_of_lt h), Nat.sub_self, List.getElem?_drop, Nat.add_zero, List.getElem?_eq_getElem h, ax h]
 rfl
theorem gR {xs : List Int} {g : Int} {i : Nat} (h : i < xs.length) : (mj xs g i).set i ((xs.getD i default).tdiv g) = mj xs g (i + 1) := by
 have hl : ((xs.take i).map fun x => x.tdiv g).length = i := by simp; omega
 rw [mj, List.set_append_right _ _ (by omega), hl, Nat.sub_self, mj, List.take_succ_eq_append_getElem h, List.drop_eq_getElem_cons h, List.set_cons_zero, ax h, List.map_append, eP]
 rfl
theorem D9 (ht : Small t) : MQ h1 h2 204 [cL t] [] (Plain (gn (lH t))) := by
 refine MC.data (jB 36 h1 h2 Tryz.func204 Z Z Z fun O hF => ?_)
 have hl : t.xs.length ≤ L := by simpa [As.fact, A.fact, M.fact, Ms.fact, D.fact, Ds.fact] using hF.1.2.1.1
 have hc0 := Db.1 ht.c
 refine ah (jx O Z (au ?_))
 refine jf [1] Z (jl O Z (au ?_))
 refine js O Z (aV (j2 O Z Z (jf [8,3,2,1] Z (ap O Z Z Z Z (xg (xs := t.xs) h1 h2 ht.xs) (aa Z) Z Z Z Z Z (B0 := 10000) Z (js O Z (jf [4,3,2,1] Z (jn (ag (ah (j2 O Z Z (jn (ae O Z Z (fun hc11 => ?_) (fun hc11 => ?_)))))))))))))
 try simp only [aT] at hc11
 refine ah (js O Z (jf [12,10,4,3,2,1] Z (jo O Z (au ?_))))
 refine js O Z (jr ?_)
 refine ⟨.inl Z, _, am, _, Z, ?_⟩
 rw [show lH t = (⟨0, []⟩, false) from if_pos (by omega)]
 exact .tup (.cons (.agg (.cons .d (.cons .nils .nil))) (.cons (.c .d) .nil))
 try simp only [aT] at hc11
 refine aj (ah ?_)
 obtain ⟨g, hg⟩ : ∃ g : Int, g = (bk t.xs : Int) := ⟨_, rfl⟩
 rw [← hg]
 rw [← hg] at hc11
 refine js O Z (jf [13,10,4,3,2,1] Z (bn O (B0 := 15000) Z Z Z Z (oG (t := t) h1 h2) (aa Z) Z Z Z Z Z Z (au ?_)))
 refine jf [14,10,4,3,2,1] Z (jl O Z (au ?_))
 refine jo O Z (au ?_)
 refine aV (j3 O Z Z Z (jf [17,16,5,14,10,4,3,2,1] Z (ap O Z Z Z Z (D5 (a := t.c) (b := g) h1 h2 hc0 (by omega)) (aa Z) Z Z Z Z Z (B0 := 19000) Z (js O Z (jf [19,18,5,14,10,4,3,2,1] Z (jo O Z (au ?_)))))))
 refine jf [5,14,10,4,3,2,1] Z (jn (ag (ah (j2 O Z Z (dk O Z Z (js O Z (jf [23,22,5,14,10,4,3,2,1] Z (jn (ao (aq (X := Nat) (fun i => ⟨[(2, .c (.pt 2 0 0)), (4, eI g), (5, .c (.pt 5 0 0)), (22, eI t.xs.length), (23, eI i)], [(2, .box [.d (.int .i64 0), .d .nils]), (5, .box [.d (.int .i64 (w4 t.c g)), .rs 15000 0 t.xs.length]), (15000, aX (mj t.xs g i))]⟩) (fun i => i ≤ t.xs.length) (fun i => t.xs.length - i) 0 (((aw [2,5,15000] (e' := [(2, _), (4, _), (5, _), (22, _), (23, _)]) Z Z ⟨Z, Z, Z, Z, Z, trivial⟩ Z)).trans (Ent.to ⟨Z, Z, Z, Z, Z, trivial⟩ (by rw [iZ]; rfl))) ?_ (fun i hi => ?_)))))))))))
 exact ct _
 refine ah (js O Z (jn (ag (ae O Z Z (fun hc24 => ?_) (fun hc24 => ?_)))))
 try simp only [aT] at hc24
 refine aj (ag (ao (ah (j2 O Z Z (jn (ak ?_))))))
 have hx := dN (b := g) (Db.1 (List.all_eq_true.1 ht.xs _ (List.getElem_mem (show i < t.xs.length by omega))))
 rw [← ax (by omega)] at hx
 have hkl := kr (xs := t.xs) (g := g) (i := i)
 refine j3 O Z Z Z (dk O Z Z (ac (aS O (ex := [.int .i64 (t.xs.getD i default)]) Z Z Z Z (by rw [Nat.zero_add]; exact fc (by omega)) Z) Z Z Z (js O Z (ac (vQ O Z Z Z Z) Z Z Z (dk O Z Z (jf [33,32,25,24,2,4,5,22,23] Z (AOps.heap (bg (ex := [.int .i64 (t.xs.getD i default)]) (xs' := (mj t.xs g (i + 1)).map (fun n => [D.int .i64 n])) O Z Z Z Z Z Z Z Z Z Z Z Z Z Z (by rw [Nat.zero_add]; exact fc (by omega)) (by rw [← gR (by omega), List.map_set, Nat.zero_add]; rfl)) Z (au ?_))))))))
 refine jf [25,24,2,4,5,22,23] Z (jn (ak (ji O Z (js O Z (jn ?_)))))
 refine ⟨i + 1, Ent.to ⟨Z, Z, Z, Z, Z, trivial⟩ Z, by omega, by omega⟩
 try simp only [aT] at hc24
 refine aO (ah (js O Z (jo O Z (au ?_))))
 refine js O Z (jr ?_)
 refine ⟨.inl Z, _, am, _, Z, ?_⟩
 obtain rfl : i = t.xs.length := by omega
 rw [show lH t = (⟨w4 t.c g, t.xs.map fun x => x.tdiv g⟩, true) by rw [hg]; exact if_neg (by omega)]
 have hkl := kr (xs := t.xs) (g := g) (i := t.xs.length)
 exact .tup (.cons (.agg (.cons .d (.cons (.whole (by rw [← jF]; rfl) (by simp)) .nil))) (.cons (.c .d) .nil))
theorem ki : ∀ {xs : List Int} {g : Nat}, (xs.foldl (fun g x => Nat.gcd g x.natAbs) g ∣ g) ∧ ∀ x ∈ xs, xs.foldl (fun g x => Nat.gcd g x.natAbs) g ∣ x.natAbs
 | [], g => ⟨Nat.dvd_refl _, fun x hx => by cases hx⟩
 | y :: r, g => by
  have ih := ki (xs := r) (g := Nat.gcd g y.natAbs)
  refine ⟨Nat.dvd_trans ih.1 (Nat.gcd_dvd_left _ _), fun x hx => ?_⟩
  rcases List.mem_cons.1 hx with rfl | hx
  exact Nat.dvd_trans ih.1 (Nat.gcd_dvd_right _ _)
  exact ih.2 x hx
theorem i8 {xs : List Int} {x : Int} (hx : x ∈ xs) : bk xs ∣ x.natAbs := (ki (g := 0)).2 x hx
theorem xy {x : Int} {g : Nat} (h : g ∣ x.natAbs) (hx : x ≠ 0) (hg : 2 ≤ g) : x.tdiv g ≠ 0 := by
 intro h0
 have h1 : (x.tdiv g).natAbs = x.natAbs / g := by rw [Int.natAbs_tdiv]; rfl
 rw [h0] at h1
 obtain ⟨q, hq⟩ := h
 rw [hq, Nat.mul_div_cancel_left _ (by omega)] at h1
 have : q = 0 := by simpa using h1.symm
 rw [this] at hq
 omega
theorem oO {xs : List Int} (h : xs = [] ∨ xs.getD (xs.length - 1) default ≠ 0) : bF xs = xs := by
 have := jN (xs := xs) (n := xs.length) (cC _) (h.imp (fun e => by rw [e]; rfl) id)
 rwa [List.take_length] at this
theorem zn {t : Tm} : t.ok = true ↔ num t.c = true ∧ t.xs.all num = true ∧ t.xs.length ≤ 10 ∧ (t.xs = [] ∨ t.xs.getD (t.xs.length - 1) default ≠ 0) := by
 unfold Tm.ok
 have hz : ((t.xs.length : Int) - 1).toNat = t.xs.length - 1 := by omega
 rw [hz]
 cases h1 : num t.c <;> cases h2 : t.xs.all num <;> simp
 by_cases h3 : t.xs.length ≤ 10
 have h4 : ¬ (10 : Int) < t.xs.length := by omega
 by_cases h5 : t.xs = []
 simp [h5]
 have h6 : 0 < t.xs.length := List.length_pos_iff.2 h5
 simp [h3, h5]
 intro _; omega
 have h4 : (10 : Int) < t.xs.length := by omega
 simp [h3, h4]
theorem zq {c : Int} {xs : List Int} (h : (Tm.mk c xs).ok = true) : oo c xs = (⟨c, xs⟩, true) := by
 have h1 := zn.1 h
 have h2 : bF xs = xs := oO h1.2.2.2
 unfold oo
 rw [h2, if_pos h]
theorem q9 {t : Tm} (h : t.ok = true) : lH t = bS t := by
 unfold lH bS
 split
 rfl
 rename_i hg
 obtain ⟨h1, h2, h3, h4⟩ := zn.1 h
 have hc := Db.1 h1
 have e : (if t.c.tmod (bk t.xs) < 0 then t.c.tdiv (bk t.xs) - 1 else t.c.tdiv (bk t.xs)) = w4 t.c (bk t.xs) := rfl
 rw [e]
 refine (zq ?_).symm
 refine zn.2 ⟨?_, ?_, by simpa using h3, ?_⟩
 have hq : (t.c.tdiv (bk t.xs)).natAbs = t.c.natAbs / bk t.xs := by rw [Int.natAbs_tdiv]; rfl
 have hq2 : t.c.natAbs / bk t.xs ≤ t.c.natAbs / 2 := Nat.div_le_div_left (by omega) (by decide)
 refine Db.2 ?_
 show -1000000 ≤ w4 t.c (bk t.xs) ∧ w4 t.c (bk t.xs) ≤ 1000000
 unfold w4
 split <;> omega
 rw [List.all_eq_true]
 intro y hy
 obtain ⟨x, hx, rfl⟩ := List.mem_map.1 hy
 have := Db.1 (List.all_eq_true.1 h2 x hx)
 exact Db.2 (dN this)
 rcases h4 with h4 | h4
 exact .inl (by rw [h4]; rfl)
 by_cases h0 : t.xs = []
 exact .inl (by rw [h0]; rfl)
 refine .inr ?_
 have hl : 0 < t.xs.length := List.length_pos_iff.2 h0
 rw [ax (by omega)] at h4
 rw [ax (by simp; omega)]
 simp only [bz, List.getElem_map]
 exact xy (i8 (List.getElem_mem _)) h4 (by omega)
theorem wB {t : Tm} : kH t (-1) ⟨1, []⟩ (-1) = cx [t] [-1] := by
 unfold kH cx
 apply List.map_congr_left
 intro k _
 show -1 * t.xs.getD k 0 + -1 * 0 = -1 * t.xs.getD k 0 + 0
 omega
theorem sb {t : Tm} : aR t = if (gk t).ok = true then (gk t, true) else (⟨0, []⟩, false) := by
 unfold aR u3 oo
 rw [wB]
 have : (-1 * t.c + -1 * (⟨1, []⟩ : Tm).c) = cO Tm.c [t] [-1] - 1 := by
  show -1 * t.c + -1 * 1 = -1 * t.c + 0 - 1
  omega
 rw [this]
theorem oC {t : Tm} : (aR t).2 = (gk t).ok := by
 rw [sb]
 cases h : (gk t).ok <;> simp
theorem B5 {t : Tm} (h : (gk t).ok = true) : (aR t).1 = gk t := by rw [sb, if_pos h]
inductive Pf where
  | close (n : Nd)
  | tight (n : Nd) (a : Pf)
  | split (n : Nd) (a b : Pf)
structure Ex where
  es : List (Int × List Tm)
  flaw : Int
def fl (b : Nat → Bool) : Nat → Nat → Int → Int
  | _, 0, f => f
  | k, n + 1, f => fl b (k + 1) n (if b k = true ∧ f < 0 then (k : Int) else f)
structure Eqs (p : List Nd) (c0 : List Tm) (H : Nat → Bool) (A : Nat → List Tm) (R : Nat → Bool) : Prop where
  h0 : 0 < p.length → H 0 = true ∧ A 0 = c0
  h : ∀ j, 0 < j → j < p.length → H j = R (AQ p j j).1.toNat
  a : ∀ j, 0 < j → j < p.length → H j = true → A j = Aw (p.getD (AQ p j j).1.toNat default) (A (AQ p j j).1.toNat) (AQ p j j).2
  r : ∀ j, j < p.length → R j = (H j && vG (p.getD j default) (A j))
theorem qn {s : Sq} (h : dA s = true) : ox s = pL s := by
 unfold ox pL
 rw [h, Bool.true_and, oC]
 split
 rename_i ho; rw [B5 ho]
 rfl
theorem si {s : Sq} (h : (ox s).2 = true) : dA s = true ∧ (gk s.goal).ok = true := by
 unfold ox at h
 split at h
 rename_i h1; simpa using h1
 cases h
theorem xf : MQ h1 h2 52 [bN ts] [] (Rows (.c (.rs 0 0 ts.length)) [gF ts]) := by
 refine bI (jB 19 h1 h2 Tryz.func52 Z Z Z fun O hF => ?_)
 have hl : ts.length ≤ L := by simpa [As.fact, A.fact, M.fact, D.fact, Ds.fact] using hF.1.1
 refine ah (js O Z (aV (js O Z (jn (ag (ah (js O Z (cu O Z (js O Z (jn (ao (aq (X := Nat) (fun i => ⟨[(3, .c (.rs 900 0 i)), (6, bN ts), (7, eI ts.length), (8, eI i)], [(900, gF (ts.take i))]⟩) (fun i => i ≤ ts.length) (fun i => ts.length - i) 0 ((cb 3 900 2 true Z Z).trans (Ent.to ⟨Z, Z, Z, Z, trivial⟩ Z)) ?_ (fun i hi => ?_)))))))))))))
 exact ct _
 refine ah (js O Z (jn (ag (ae O Z Z (fun hc9 => ?_) (fun hc9 => ?_)))))
 try simp only [aT] at hc9
 refine aj (ag (ao (ah (iM O Z Z (js O Z (jf [11,9,3,6,7,8] Z (jl O Z (au ?_))))))))
 refine jo O Z (au ?_)
 refine jn (ak (j2 O Z Z (bn O (B0 := 15000) Z Z Z Z (oG (t := ts.getD i default) h1 h2) (aa Z) Z Z Z Z Z Z (au ?_))))
 refine jf [14,12,5,11,9,3,6,7,8] Z (AOps.heap (jZ (ds := Tm.cells (ts.getD i default)) O Z Z Z Z Z Z Z Z Z Z (.d Z (.rs Z (bz _).symm .nil)) Z Z Z) Z (au ?_))
 refine au ?_
 refine jf [15,12,5,11,9,3,6,7,8] Z (AOps.heap (cm (zs := (ts.take (i + 1)).map Tm.cells) (n := i + 1) O Z Z Z Z Z Z Z Z Z Z Z Z Z Z Z Z (.row Z (by simp; omega)) Z Z (by decide) Z (by simp; omega) (by simp; omega) (by rw [List.take_succ_eq_append_getElem (by omega), List.map_append, ax (by omega)]; rfl) (by simp; omega)) Z (au ?_))
 refine au ?_
 refine js O Z (jf [3,5,11,9,6,7,8] Z (jn (ak (ji O Z (js O Z (jn ?_))))))
 refine ⟨i + 1, ((aw [16] (e' := [(3, _), (6, _), (7, _), (8, _)]) Z Z ⟨Z, Z, Z, Z, trivial⟩ Z).trans (af 16 900 Z Z)), by omega, by omega⟩
 try simp only [aT] at hc9
 refine aO (ah (j2 O Z Z (jr ?_)))
 obtain rfl : i = ts.length := by omega
 rw [List.take_length]
 refine ⟨.inl Z, _, am, _, Z, [900], by decide, Z, Z, Z⟩
theorem wF {n : Nd} (h : rY n = true) : n.mul.length ≤ 20 := by
 unfold rY at h
 split at h
 simp only [bP, yZ, decide_eq_true_eq] at h; omega
 split at h
 simp only [bP, decide_eq_true_eq] at h; omega
 split at h
 simp only [bP, decide_eq_true_eq] at h; omega
 cases h
theorem ui : ∀ {k : Int} {xs : List Int}, bb mI cv k (bb mI cv k xs) = bb mI cv k xs
 | _, [] => rfl
 | k, x :: xs => by
  show k :: bb mI cv (k + 1) (bb mI cv (k + 1) xs) = k :: bb mI cv (k + 1) xs
  rw [ui]
theorem nY (xs : List Int) (k : Int) : (if bb mI cv k xs = bb mI cv k (bb mI cv k xs) then k + ((bb mI cv k xs).length : Int) else -1) = k + xs.length := by
 rw [if_pos ui.symm, bq]
theorem kv {α : Type} [Inhabited α] {f : Int → α → α} {sz : α → Nat} : ∀ {l : List α} {k : Int} {i : Nat}, i < l.length → (bb f sz k l).getD i default = f (k + cn sz (l.take i)) (l.getD i default)
 | [], _, _, h => by simp at h
 | a :: r, k, 0, _ => by simp [bb, cn]
 | a :: r, k, i + 1, h => by
  have := kv (f := f) (sz := sz) (l := r) (k := k + sz a) (i := i) (by simpa using h)
  simp only [bb, List.getD_cons_succ, List.take_succ_cons] at this ⊢
  rw [this]
  have e : k + (sz a : Int) + (cn sz (r.take i) : Int) = k + (cn sz (a :: r.take i) : Int) := by simp [cn]; omega
  rw [e]
theorem qo (ts : List Tm) : cn nT ts = szs Tm.size ts := by
 unfold cn szs
 induction ts with
 | nil => rfl
 | cons t r ih =>
  simp only [List.map_cons, List.sum_cons, dL] at ih ⊢
  have : nT t = 1 + Tm.size t := rfl
  omega
theorem sv {left : Int} {n : Nat} (h : 0 ≤ gE left n) (h0 : 0 ≤ left) : (n : Int) ≤ left := by
 unfold gE at h
 split at h <;> omega
theorem l8 {L S : Nat} {xs : List Int} (h : D.fact L (bj xs)) (hl : xs.length ≤ S) : D.fact S (bj xs) := by
 simp only [D.fact, bz, fN, Ds.fact] at h ⊢
 exact ⟨hl, h.2⟩
theorem qa {α : Type} (f : α → Nat) : ∀ {xs : List α} {x : α}, x ∈ xs → f x ≤ (xs.map f).sum
 | y :: r, x, h => by
  simp only [List.map_cons, List.sum_cons]
  rcases List.mem_cons.1 h with rfl | h
  omega
  have := qa f h; omega
theorem nF {L S : Nat} {ts : List Tm} (h : D.fact L (dK ts)) (hl : szs Tm.size ts ≤ S) : D.fact S (dK ts) := by
 unfold szs at hl
 simp only [D.fact, bz, fN] at h ⊢
 refine ⟨by omega, fun t ht => ?_⟩
 have h1 := h.2 t ht
 have h2 := qa Tm.size ht
 have h3 : Tm.size t = t.xs.length := rfl
 exact ⟨h1.1, l8 h1.2.1 (by omega), trivial⟩
end Go.Al
/- What the laws of the certificates share: the types of their arguments; what came in reads as it did. -/
namespace Go.Proofs.YtbkloknmpkgmbaaGreat
open Go.ChangeShapes Go.WideShapes Go.ChangeAt Go.RowKit Go.Al

theorem ownK : ownKnob Tryz.prog.godebug = none := by kernel_rfl
theorem kidsK : Kids Tryz.prog (· < Tryz.prog.types.size) := kids_rows (by kernel_rfl) (by kernel_rfl)
theorem fullK : ∀ t e, t < Tryz.prog.types.size → Tryz.prog.underlying t = some (.slice e) → 0 < Tryz.prog.cellsOf e := slices_full_of Tryz.prog (by kernel_rfl)

abbrev uT : List Ty := [.int .i64]
abbrev s8 : List Ty := [.int .i64, .slc uT]
theorem AS : TyOf Tryz.prog 2 uT := .int Tryz.underlying2
theorem DU : TyOf Tryz.prog 29 [.slc uT] := .slc Tryz.underlying29 AS (by kernel_rfl) (by decide)
theorem yW : TyOf Tryz.prog 167 s8 := .struct Tryz.underlying167 (show FieldsAre Tryz.prog _ (uT ++ ([.slc uT] ++ [])) 0 from .cons rfl (by kernel_rfl) AS (.cons rfl (by kernel_rfl) DU .nil)) (by kernel_rfl)
theorem yX : TyOf Tryz.prog 58 [.slc s8] := .slc Tryz.underlying58 yW (by kernel_rfl) (by decide)
theorem f4 {d : D} (h : Fits (.int .i64) d) : ∃ n, d = .int .i64 n := by cases h; exact ⟨_, rfl⟩
theorem lh {α : Type} {es : List Ty} {g : α → List D} (hg : ∀ e, FitsL es e → ∃ a, e = g a) : ∀ {xs : List (List D)}, FitsA es xs → ∃ ys : List α, xs = ys.map g
 | _, .nil => ⟨[], rfl⟩
 | _, .cons h1 h2 => by
  obtain ⟨a, rfl⟩ := hg _ h1
  obtain ⟨ys, rfl⟩ := lh hg h2
  exact ⟨a :: ys, Z⟩
theorem l7 {d : D} (h : Fits (.slc uT) d) : ∃ xs, d = bj xs := by
 cases h with
 | slc h =>
  obtain ⟨xs, rfl⟩ := lh (g := fun n => [D.int .i64 n]) (fun e he => by
   cases he with
   | cons h1 h2 =>
     cases h2
     obtain ⟨n, rfl⟩ := f4 h1
     exact ⟨n, Z⟩) h
  exact ⟨xs, Z⟩
theorem uq {e : List D} (h : FitsL s8 e) : ∃ t : Tm, e = t.cells := by
 cases h with
 | cons h1 h2 =>
  cases h2 with
  | cons h2 h3 =>
   cases h3
   obtain ⟨n, rfl⟩ := f4 h1
   obtain ⟨xs, rfl⟩ := l7 h2
   exact ⟨⟨n, xs⟩, Z⟩
theorem kz {d : D} (h : Fits (.slc s8) d) : ∃ ts, d = dK ts := by
 cases h with
 | slc h =>
  obtain ⟨xs, rfl⟩ := lh (g := Tm.cells) (fun e he => uq he) h
  exact ⟨xs, Z⟩
theorem rdl_rms {L : Nat} {w : World} {ok : Nat → Prop} {m : Nat → Go.Al.Loc} : ∀ {ds : List D} {vs : List Value} {F : List Nat}, RDL L w ok ds vs F → F = [] → RMs L w ok m (ds.map .d) vs
 | _, _, _, .nil, _ => .nil
 | _, _, _, .cons (F1 := F1) (F2 := F2) h1 h2, hF => by
  obtain ⟨rfl, rfl⟩ := List.append_eq_nil_iff.1 hF
  exact .cons (.d h1) (rdl_rms h2 Z)
section
variable {H : Type} {enc : TypeId × Value → H} {P : Program} {w w' : World}
theorem xC (hs : ∀ b, b < w.heap.size → Same w w' b) {p : MemPlace} (hp : p.block < w.heap.size) : w.sameAt w' p := by
 cases p with
 | cell b o => exact (hs b hp).cell
 | map b => exact hs b hp
theorem trodAll_same (hs : ∀ b, b < w.heap.size → Same w w' b) {base : Nat} {sp : Nat → Bool} {held : Bool} : ∀ {ts : List TypeId} {vs : List Value} {ds : List (DataW H)} {ps : List MemPlace}, (∀ p ∈ ps, p.block < w.heap.size) → DataW.TrodAll enc P w base sp held ts vs ds ps → DataW.TrodAll enc P w' base sp held ts vs ds ps
 | [], [], [], _, _, h => h
 | _ :: _, _ :: _, _ :: _, _, hl, ⟨p, q, ⟨n, h1⟩, h2, e⟩ =>
  ⟨p, q, ⟨n, DataW.trod_carry n _ _ _ h1 (fun x hx => xC hs (hl x (by rw [e]; exact List.mem_append_left _ hx)))⟩, trodAll_same hs (fun x hx => hl x (by rw [e]; exact List.mem_append_right _ hx)) h2, e⟩
theorem sH (hf : Go.Al.Frame w w' []) (may : MemPlace → Prop) : w.keptBut w' may := by
 refine ⟨hf.os, hf.output, fun i hi => ?_⟩
 have h := hf.block i hi (by simp)
 unfold Same at h
 rw [h]
 cases hx : w.heap[i]? with
 | none => trivial
 | some o =>
  cases o with
  | cells c t fr => exact ⟨Z, Z, Z, fun _ _ => rfl⟩
  | map es clock => exact .inr ⟨Z, Z⟩
  | _ => rfl
theorem sG (hf : Go.Al.Frame w w' []) {a : Addr} (ha : a.block < w.heap.size) : w'.frozen? a = w.frozen? a := by
 have h := hf.block a.block ha (by simp)
 unfold Same at h
 unfold World.frozen?
 rw [h]
theorem post_of_old {f : Func} {s : ChangeSpec} {apart fresh handsOn again : Bool} {args : Array Value} {v : Value} {ds gs : List (DataW H)} {before pa pv : List MemPlace}
    (hW : DataW.Whole enc P f.params.toList s.vars apart w args.toList ds gs before)
    (hres : ∀ (b : Nat) (sp : Nat → Bool) (hd : Bool), DataW.TrodAll enc P w' b sp hd f.resultTypes.toList (v.resultList f.resultTypes.size) (s.fn H (ds ++ gs)).results [])
    (hargs : ∀ sp : Nat → Bool, (∀ p ∈ before, sp p.block = true) → DataW.TrodAll enc P w' 0 sp true f.params.toList args.toList (s.fn H (ds ++ gs)).args pa)
    (hvars : ∀ sp : Nat → Bool, (∀ p ∈ before, sp p.block = true) → DataW.TrodVars enc P w' sp s.vars (s.fn H (ds ++ gs)).vars pv)
    (hps : before = pa ++ pv) (hf : Go.Al.Frame w w' [])
    (hok : ∀ (j : Nat) (t : TypeId) (r : Value), f.resultTypes[j]? = some t → (v.resultList f.resultTypes.size)[j]? = some r → Value.okWide P w' .any 0 t r) :
    s.post enc P f apart fresh handsOn again w args v w' := by
 have hlt := hW.lt
 have hold : ∀ p ∈ before, (fun b => decide (b < w.heap.size)) p.block = true := fun p hp => by simpa using hlt p hp
 refine ⟨ds, gs, before, [], pa, pv, hW, hres _ _ _, hargs _ hold, hvars _ hold, World.keptBut_mono (fun p hp => ⟨hp, ?_⟩) (sH hf (· ∈ before)), fun _ => ?_⟩
 rw [hps, List.mem_append] at hp
 exact Or.inr hp
 obtain ⟨_, _, _, _, _, hz, hn⟩ := hW
 refine ⟨hok, _, _, ([] ++ pa) ++ pv, ⟨[] ++ pa, pv, trodAll_append (hargs _ (fun _ _ => rfl)) (hres _ _ _), hvars _ (fun _ _ => rfl), Z, ?_, ?_⟩, ?_⟩
 intro b off hp
 have hp' : MemPlace.cell b off ∈ before := by rw [hps]; simpa using hp
 rw [sG hf (hlt _ hp')]
 exact hz b off hp'
 intro ha
 have := hn ha
 rw [hps] at this
 simpa using this
 intro p hp _
 rw [hps]
 simpa using hp
end

end Go.Proofs.YtbkloknmpkgmbaaGreat
