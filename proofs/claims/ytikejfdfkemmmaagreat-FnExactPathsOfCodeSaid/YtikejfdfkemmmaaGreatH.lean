/- Contracts of the program's functions for bV; the types of the arguments. -/
import Derived.Test.YtikejfdfkemmmaaGreatE
import Derived.Test.YtikejfdfkemmmaaGreatC
import Derived.Test.YtikejfdfkemmmaaGreatRows
set_option linter.unusedVariables false
set_option linter.unusedSimpArgs false
set_option maxRecDepth 10000
set_option maxHeartbeats 4000000
open Go.Proofs
namespace Go.Al
variable {L : Nat} (h1 : 4096 ≤ L) (h2 : L ≤ 1073741824)
structure CS where
  all : List (List Tm)
  has : List Bool
  right : List Bool
  flaw : Int
structure CSok (p : List Nd) (k : Nat) (z : CS) : Prop where
  all : z.all.length = k
  has : z.has.length = k
  right : z.right.length = k
  flaw : -1 ≤ z.flaw ∧ z.flaw < k
  ctx : ∀ j, j < k → z.has.getD j default = true → CtxOk (z.all.getD j default)
  good : ∀ j, j < k → z.right.getD j default = true → z.has.getD j default = true ∧ qU (p.getD j default) (z.all.getD j default) = true
abbrev bL (b : Bool) : List D := [.bool b]
structure Con where
  all : List (List Tm)
  has : List Bool
  flaw : Int
  ok : Bool
theorem g2 {a b : Bool} : (bif !a then true else !b) = !(a && b) := by cases a <;> cases b <;> rfl
def sc (f : Int → Bool) (ms : List Int) (n : Nat) (bs : List Bool) : Nat → List Bool
  | 0 => bs
  | j + 1 => if (f (ms.getD j default) && decide (j < n)) = true then (sc f ms n bs j).set j true else sc f ms n bs j
theorem m6 {f ms n bs} : ∀ {j : Nat}, (sc f ms n bs j).length = bs.length
 | 0 => rfl
 | j + 1 => by unfold sc; split <;> simp [m6]
abbrev dF (bs : List Bool) : B := .row true 1 (bs.map bL)
def dq (bs : List Bool) : Nat → List Int
  | 0 => []
  | i + 1 => if bs.getD i default = true then dq bs i ++ [(i : Int)] else dq bs i
theorem ga {bs : List Bool} : ∀ {i : Nat}, (dq bs i).length ≤ i
 | 0 => ch _
 | i + 1 => by have := ga (bs := bs) (i := i); unfold dq; split <;> simp <;> omega
theorem se {α β : Type} [Inhabited α] {l : List α} {f : α → β} {n : Nat} (h : n < l.length) : (l.map f)[0 + n]? = some (f (l.getD n default)) := by rw [Nat.zero_add]; simp [h]
abbrev d9 (ts : List Tm) (ms : List Int) : Tm := ⟨ca Tm.c ts ms, dD (bO ts ms)⟩
abbrev qs (t : Tm) : Tm := ⟨ca Tm.c [t] [-1] - 1, dD (bO [t] [-1])⟩
variable {ts : List Tm}
theorem yo {n : Int} : MQ h1 h2 129 [ct ts, eI n] [] (Plain (eB (fU ts n))) := by
 refine aB ?_ Z
 refine jB 21 h1 h2 Tryz.func129 Z Z Z fun O hF => ?_
 have hl : ts.length ≤ L := by simpa [As.fact, A.fact, M.fact, D.fact, Ds.fact] using hF.1.1
 refine ae (js O Z (jn (ag (ae (js O Z (bA O Z (j2 O Z Z (jf [10,4,0,1] Z (jn (ab O Z Z (fun hc10 => ?_) (fun hc10 => ?_)))))))))))
 try simp only [aI] at hc10
 refine ae (js O Z (jr ?_))
 refine ⟨.inl Z, _, ak, _, Z, ?_⟩
 rw [fU, decide_eq_false (show ¬ (ts.length : Int) ≤ n by omega), Bool.and_false]
 try simp only [aI] at hc10
 refine ah (ag (ae (js O Z (bA O Z (js O Z (jn (am (ar (X := Nat) (fun i => ⟨[(1, eI n), (11, ct ts), (12, eI ts.length), (13, eI i)], []⟩) (fun i => i ≤ ts.length ∧ ∀ j (h : j < ts.length), j < i → Tm.ok ts[j] = true) (fun i => ts.length - i) 0 (Ent.to ⟨Z, Z, Z, Z, trivial⟩ Z) ?_ (fun i hi => ?_)))))))))
 exact ⟨cI _, fun j h hj => absurd hj (Nat.not_lt_zero j)⟩
 refine ae (js O Z (jn (ag (ab O Z Z (fun hc14 => ?_) (fun hc14 => ?_)))))
 try simp only [aI] at hc14
 refine ah (ag (am (ae (nj O Z Z (js O Z (jf [16,14,1,11,12,13] Z (jl O Z (jo O Z (aQ (js O Z (af O Z Z Z Z (kU (t := ts.getD i default) h1 h2) (aa Z) Z Z Z Z Z (B0 := 19000) Z (js O Z (jf [19,6,16,14,1,11,12,13] Z (jn (ab O Z Z (fun hc19 => ?_) (fun hc19 => ?_))))))))))))))))
 try simp only [aI] at hc19
 refine ae (js O Z (jr ?_))
 refine ⟨.inl Z, _, ak, _, Z, ?_⟩
 rw [aw (by omega)] at hc19
 rw [fU, gt i (by omega) hc19, Bool.false_and]
 try simp only [aI] at hc19
 refine ah (aj (ji O Z (js O Z (jn ?_))))
 refine ⟨i + 1, (au [] (e' := [(1, _), (11, _), (12, _), (13, _)]) Z Z ⟨Z, Z, Z, Z, trivial⟩ Z), ⟨by omega, fun j h hj => ?_⟩, by omega⟩
 by_cases e : j = i
 subst e; rw [aw h] at hc19; exact hc19
 exact hi.2 j h (by omega)
 try simp only [aI] at hc14
 refine aW (ae (js O Z (jr ?_)))
 refine ⟨.inl Z, _, ak, _, Z, ?_⟩
 rw [fU, jj (fun j hj => hi.2 j hj (by omega)), decide_eq_true (show (ts.length : Int) ≤ n by omega), Bool.true_and]
variable {t : Tm}
theorem ym : MQ h1 h2 185 [cK t] [] (Plain (cK ⟨t.c, dD t.xs⟩)) := by
 refine MC.data (jB 26 h1 h2 Tryz.func185 Z Z Z fun O hF => ?_)
 have hl : t.xs.length ≤ L := by simpa [As.fact, A.fact, M.fact, Ms.fact, D.fact, Ds.fact] using hF.1.2.1.1
 refine ae (jx O Z (jf [1] Z (jl O Z (aQ (j2 O Z Z (bA O Z (js O Z (jf [3,2,1] Z (jn (ag (am (ar (X := Nat) (fun n => ⟨[(1, .c (.pt 1 0 0)), (2, .c (.pt 2 0 0)), (3, eI n)], [(1, .box [.d (.int .i64 t.c), .d (dp t.xs)]), (2, .box [.d (.int .i64 0), .d .nils])]⟩) (fun n => n ≤ t.xs.length ∧ dD (t.xs.take n) = dD t.xs) (fun n => n) t.xs.length (Ent.env ⟨Z, Z, Z, trivial⟩) ?_ (fun n hi => ?_)))))))))))))
 exact ⟨ch _, by rw [List.take_length]⟩
 refine ag (ae (j3 O Z Z Z (jf [9,1,2,3] Z (aT 7 Z Z Z (fun hx => AN.step hx Z Z Z (V O Z) Z Z ( AN.step hx Z Z Z (V O Z) Z Z ( AN.step hx Z Z Z (V O Z) Z Z ( AN.step hx Z Z Z (vF O Z) Z Z ( AN.step hx Z Z Z (vD O Z) Z Z ( AN.step hx Z Z Z (V O Z) Z Z ( AN.step hx Z Z Z (V O Z) Z Z ( AN.nil)))))))) Z Z (AOps.step (aL O Z Z Z Z Z) Z Z Z (jf [17,1,2,3] Z (jn (ab O Z Z (fun hc17 => ?_) (fun hc17 => ?_)))))))))
 refine ah (am (aj (js O Z (ji O Z (js O Z (jf [3,17,1,2] Z (jn ?_)))))))
 rw [Bool.cond_false_right, bv, decide_eq_true_eq, decide_eq_true_eq] at hc17
 obtain ⟨k, hk⟩ : ∃ k, n = k + 1 := ⟨n - 1, by omega⟩
 subst hk
 have hk2 : ((k + 1 : Nat) : Int) - 1 = k := by omega
 rw [hk2] at hc17
 refine ⟨k, Ent.to ⟨Z, Z, by rw [hk2]; rfl, trivial⟩ Z, ⟨by omega, ?_⟩, Nat.lt_succ_self k⟩
 rw [← hi.2, lh (by omega) (by simpa using hc17.2)]
 refine aW (ae (j3 O Z Z Z ?_))
 have hd : dD (t.xs.take n) = t.xs.take n := li hi.1 (by
  rw [Bool.cond_false_right] at hc17
  rcases Nat.eq_zero_or_pos n with h0 | h0
  ·
   exact .inl h0
  ·
   refine .inr (fun h9 => ?_)
   have e1 : ((n : Int) - 1).toNat = n - 1 := by omega
   rw [e1, h9] at hc17; simp at hc17; omega)
 have ht := hi.2
 rw [hd] at ht
 refine AOps.step ((aO O Z Z ⟨by omega, by simp; omega⟩).cast (v' := cv (dD t.xs)) (by rw [← ht]; simp [List.map_take])) Z Z Z (js O Z (jf [24,23,17,1,2,3] Z (jo O Z (jf [17,1,2,3] Z (aQ (js O Z (jo O Z (jr ?_))))))))
 refine ⟨.inl Z, _, ak, _, Z, ?_⟩
 exact .v (.agg (aF Z))
theorem kx {f : Tm → Int} : ∀ {ts : List Tm} {ms : List Int}, ts.length ≤ ms.length → ca f (ts.take ts.length) (ms.take ts.length) = ca f ts ms
 | [], ms, _ => by cases ms <;> simp [ca]
 | t :: ts, [], h => by simp at h
 | t :: ts, m :: ms, h => by
  have := kx (f := f) (ts := ts) (ms := ms) (by simpa using h)
  simp only [iZ, List.take_succ_cons, ca] at this ⊢
  rw [this]
theorem pT {ts : List Tm} {ms : List Int} (h : ts.length ≤ ms.length) : bO (ts.take ts.length) (ms.take ts.length) = bO ts ms := by
 unfold bO
 apply List.map_congr_left
 intro k _
 exact kx h
theorem qB {ms : List Int} (hc : CtxOk ts) (hm : ms.all num = true) (hle : ts.length ≤ ms.length) : MQ h1 h2 172 [ct ts, cv ms] [] (Plain (cK (d9 ts ms))) := by
 refine MC.data (jB 55 h1 h2 Tryz.func172 Z Z Z fun O hF => ?_)
 have hl : ms.length ≤ L := by simpa [As.fact, A.fact, M.fact, D.fact, Ds.fact] using hF.2.1.1
 have hlc := hc.len
 refine ae (jl O Z (aQ (AOps.heap (cn O Z Z Z Z Z Z Z Z Z (by first | omega | (simp at *; omega)) (by first | omega | (simp at *; omega)) (by first | omega | (simp at *; omega)) (by first | omega | (dsimp only; omega) | (simp only [aI] at *; omega)) (by first | omega | (simp at *; omega)) Z Z Z) Z (js O Z (jf [11,4,0,1] Z (jl O Z (jo O Z (jn (ag (ae (js O Z (bA O Z (js O Z (jn (am (ar (X := Nat) (fun i => ⟨[(1, cv ms), (4, .c (.pt 4 0 0)), (5, .c (.pt 5 0 0)), (12, ct ts), (13, eI ts.length), (14, eI i)], [(4, .box [.d (.int .i64 0), .d .nils]), (5, .box [.d (.int .i64 (ca Tm.c (ts.take i) (ms.take i))), .rs 10 0 10]), (10, aA (bO (ts.take i) (ms.take i)))]⟩) (fun i => i ≤ ts.length) (fun i => ts.length - i) 0 (Ent.to ⟨Z, Z, Z, Z, Z, Z, trivial⟩ Z) ?_ (fun i hi => ?_)))))))))))))))))
 exact cI _
 refine ae (js O Z (jn (ag (ab O Z Z (fun hc15 => ?_) (fun hc15 => ?_)))))
 try simp only [aI] at hc15
 refine ah (ag (am (ae (js O Z (nj O Z Z (js O Z (jf [18,16,15,1,4,5,12,13,14] Z (jl O Z (js O Z (jf [6,7,18,15,1,4,5,12,13,14] Z (jo O Z (jn (ag ?_)))))))))))))
 have hi0 := hi
 have fN := Small.of (hc.get (show i < ts.length by omega))
 have hd1 := iA (f := Tm.c) (ts := ts) (ms := ms) (fun t ht => (Small.of (hc.ok t ht)).c) hm hi (by omega)
 have hd2 := fh (f := Tm.c) (ts := ts) (ms := ms) (i := i) (by omega) (by omega)
 have hmi : num (ms.getD i default) = true := by rw [aw (by omega)]; exact List.all_eq_true.1 hm _ (List.getElem_mem _)
 have hmu := ee hmi fN.c
 refine jZ O [_,_,_,_,_,_,_,_,_,_,_,_] [pn [] 0 0, pn [0] 0 0, pn [] 0 0, pn [] 0 0, pn [2,3] 0 0, pn [2,3,4] 0 0, pn [] 0 0, pn [6] 0 0, pn (rg 2 6) 0 0, pn (rg 0 9) 0 0, pn (rg 0 10) 0 0, pe (rg 0 11) 0] [11] [_,_] (kc O Z (kc O Z (kc O Z (kc O Z (ai (vN O Z) (kc O Z (kc O Z (kc O Z (ai (vF O Z) (ai (vF O Z) (kc O Z (ai (eS O Z Z Z) trivial)))))))))))) ?_
 refine jw [6,7,18,15,1,4,5,12,13,14] Z (cu ?_)
 refine ae (j2 O Z Z (bA O Z (js O Z (jn (am (ar (X := Nat) (fun j => ⟨[(1, cv ms), (4, .c (.pt 4 0 0)), (5, .c (.pt 5 0 0)), (12, ct ts), (13, eI ts.length), (14, eI i), (6, eI i), (31, cv (ts.getD i default).xs), (32, eI (ts.getD i default).xs.length), (33, eI j)], [(4, .box [.d (.int .i64 0), .d .nils]), (5, .box [.d (.int .i64 (ca Tm.c (ts.take i) (ms.take i) + ms.getD i default * (ts.getD i default).c)), .rs 10 0 10]), (10, aA (dV ts ms i j))]⟩) (fun j => j ≤ (ts.getD i default).xs.length) (fun j => (ts.getD i default).xs.length - j) 0 (((au [4,5,10] (e' := [(1, _), (4, _), (5, _), (12, _), (13, _), (14, _), (6, _), (31, _), (32, _), (33, _)]) Z Z ⟨Z, Z, Z, Z, Z, Z, Z, Z, Z, Z, trivial⟩ Z)).trans (Ent.to ⟨Z, Z, Z, Z, Z, Z, Z, Z, Z, Z, trivial⟩ (by rw [lm]; rfl))) ?_ (fun j hi => ?_)))))))
 exact cI _
 refine ae (js O Z (jn (ag (ab O Z Z (fun hc34 => ?_) (fun hc34 => ?_)))))
 try simp only [aI] at hc34
 refine ah (ag (am (ae (js O Z (nj O Z Z (j3 O Z Z Z (jf [9,8,34,1,4,5,12,13,14,6,31,32,33] Z (jn ?_))))))))
 have hjl : j < 10 := by have := lN (hc.get (show i < ts.length by omega)); omega
 have hpj := kl (ts := ts) (ms := ms) (i := i) hjl
 have hps := ln (ts := ts) (ms := ms) (i := i) hjl
 have hpl := dg (ts := ts) (ms := ms) (i := i) (j := j)
 have hd3 := iA (f := mA j) (ts := ts) (ms := ms) (fun t ht => (Small.of (hc.ok t ht)).get j) hm hi0 (by omega)
 have hmx := ee hmi (fN.get j)
 rw [show (ts.getD i default).xs.getD j 0 = (ts.getD i default).xs.getD j default from Z] at hmx
 refine jZ O [_,_,_,_,_,_,_,_,_,_,_,_,_,_] [pn [] 0 0, pn [0] 0 0, pn [] 0 0, pn [0,1,2] 0 0, pn (rg 0 4) 0 0, pn [] 0 0, pn [] 0 0, pn [5,6] 0 0, pn [5,6,7] 0 0, pn [] 0 0, pn (rg 5 5) 0 0, pn (rg 0 11) 0 0, pn (rg 0 12) 0 0, pe (rg 0 13) 0] [13] [_,_] (kc O Z (kc O Z (kc O Z (ai (vI O Z Z) (ai (aq O (ex := [.int .i64 ((dV ts ms i j).getD j default)]) Z Z Z Z (se (by omega)) Z) (kc O Z (kc O Z (ai (vN O Z) (kc O Z (kc O Z (ai (vF O Z) (ai (vF O Z) (ai (vI O Z Z) (ai (cU (ex := [.int .i64 ((dV ts ms i j).getD j default)]) (xs' := (dV ts ms i (j + 1)).map (fun n => [D.int .i64 n])) O Z Z Z Z Z Z Z Z Z Z Z Z Z Z Z (se (by omega)) (by rw [← hps, List.map_set]; simp only [Int.toNat_natCast, Nat.zero_add]; rfl) Z) trivial)))))))))))))) ?_
 refine jw [34,1,4,5,12,13,14,6,31,32,33] Z (cu ?_)
 refine aj (ji O Z (js O Z (jn ?_)))
 refine ⟨j + 1, Ent.to ⟨Z, Z, Z, Z, Z, Z, Z, Z, Z, Z, trivial⟩ Z, by omega, by omega⟩
 try simp only [aI] at hc34
 refine aW (aj (ji O Z (js O Z (jn ?_))))
 refine ⟨i + 1, ((au [4,5,10] (e' := [(1, _), (4, _), (5, _), (12, _), (13, _), (14, _)]) Z Z ⟨Z, Z, Z, Z, Z, Z, trivial⟩ Z)).trans (Ent.to ⟨Z, Z, Z, Z, Z, Z, trivial⟩ ?_), by omega, by omega⟩
 rw [hd2, ← mO (j := j) (by omega) (by omega) (by omega)]; rfl
 try simp only [aI] at hc15
 refine aW (ae ?_)
 obtain rfl : i = ts.length := by omega
 have hcl := iR (ts := ts.take ts.length) (ms := ms.take ts.length)
 refine ay (Ent.freeze 10 (e' := [(5, _), (4, _)]) Z (fe [5,4] Z) (.cons Z (.box (fk Z)) (.cons Z (.box (.cons (.keep Z) (.cons (.row Z (by rw [b9, hcl])) .nil))) (.skip .nil)))) ?_
 refine js O Z (az O Z Z Z Z (ym (t := ⟨ca Tm.c (ts.take ts.length) (ms.take ts.length), bO (ts.take ts.length) (ms.take ts.length)⟩) h1 h2) (aa Z) Z Z Z Z (B0 := 55000) Z Z (jf [54,5,4] Z (jo O Z (jr ?_))))
 refine ⟨.inl Z, _, ak, _, Z, ?_⟩
 have e1 : ca Tm.c (ts.take ts.length) (ms.take ts.length) = ca Tm.c ts ms := kx hle
 have e2 : bO (ts.take ts.length) (ms.take ts.length) = bO ts ms := pT hle
 rw [e1, e2]
 exact .v (.agg (aF Z))
theorem yl {t : Tm} (h : t.ok = true) : CtxOk [t] := ⟨fun u hu => by simp at hu; subst hu; exact h, by simp⟩
theorem yj {t : Tm} (h : Small t) : -1000000 ≤ ca Tm.c [t] [-1] ∧ ca Tm.c [t] [-1] ≤ 1000000 := by
 have := xn.1 h.c
 show -1000000 ≤ -1 * t.c + 0 ∧ -1 * t.c + 0 ≤ 1000000
 omega
theorem yr (ht : t.ok = true) : MQ h1 h2 186 [cK t] [] (Plain (cK (qs t))) := by
 refine MC.data (jB 13 h1 h2 Tryz.func186 Z Z Z fun O hF => ?_)
 have hd1 := yj (Small.of ht)
 refine ae (jx O Z (jf [1] Z (jl O Z (aQ (js O Z (jf [4,2] Z (AOps.heap (dy O Z Z Z Z Z Z Z Z Z Z Z) Z (jf [5,2] Z (AOps.heap (bg O Z Z Z) Z (ay (Ent.freeze 5 (e' := [(6, _), (5, _), (2, _)]) Z (.cons Z (.keep Z) (.cons Z (.c (.row Z Z)) (fe [2] Z))) (.cons Z (.box (fk Z)) (.cons Z (.box (fk Z)) (.skip (.cons Z .row .nil))))) ?_))))))))))
 refine ay (Ent.freeze 6 (e' := [(6, _), (5, _), (2, _)]) Z (.cons Z (.c (.row Z Z)) (fe [5,2] Z)) (.cons Z (.box (fk Z)) (.cons Z (.box (fk Z)) (.skip .nil)))) ?_
 refine az O Z Z Z Z (qB (ts := [t]) (ms := [-1]) h1 h2 (yl ht) (by decide) (ch 1)) (aa Z) Z Z Z Z (B0 := 8000) Z Z (jf [7,2] Z (jl O Z (jo O Z (aQ (j2 O Z Z (ji O Z (js O Z (jf [11,10,3,7,2] Z (jo O Z (jf [3,7,2] Z (aQ (js O Z (jo O Z (jr ?_))))))))))))))
 refine ⟨.inl Z, _, ak, _, Z, ?_⟩
 exact .v (.agg (aF Z))
theorem vL {n : Int} : MQ h1 h2 99 [eI n] [] (Plain (eI n)) := by
 refine aB ?_ Z
 refine jB 4 h1 h2 Tryz.func99 Z Z Z fun O hF => ?_
 refine ae (js O Z (aQ (j2 O Z Z (jr ?_))))
 refine ⟨.inl Z, _, ak, _, Z, ?_⟩
 first | rfl | skip
theorem ql {k : Int} {n : Nat} (hn : n ≤ 1073741824) : MQ h1 h2 138 [eI k, eI n] [] (Plain (eB (dE 0 ((n : Int) - 1) k))) := by
 refine aB ?_ Z
 refine jB 10 h1 h2 Tryz.func138 Z Z Z fun O hF => ?_
 refine ae (js O Z (aQ (j2 O Z Z (af O Z Z Z Z (vL (n := n) h1 h2) (aa Z) Z Z Z Z Z (B0 := 8000) Z ?_))))
 first | refine ji O Z ?_ | refine bb O Z Z ?_
 refine af O Z Z Z Z (nq h1 h2) (aa Z) Z Z Z Z Z (B0 := 10000) Z (js O Z (jr ?_))
 refine ⟨.inl Z, _, ak, _, Z, ?_⟩
 first | rfl | skip
theorem yn {c : Tm} {r : List Tm} (hl : (c :: r).length ≤ 1000) : MQ h1 h2 155 [ct (c :: r)] [] (Rows (.c (.rs 0 0 (c :: r).length)) [ao (c :: r)]) := by
 refine bq (jB 8 h1 h2 Tryz.func155 Z Z Z fun O hF => ?_)
 refine ae (js O Z (jn (ag (ae (j2 O Z Z (jn (ab O Z Z (fun hc4 => ?_) (fun hc4 => ?_))))))))
 exact absurd (show false = true from hc4) (by decide)
 refine ah (ae (AOps.heap (bg O Z Z Z) Z (js O Z (jf [6,5,3,2,0] Z (ay (ck 5 Z) (AOps.heap (bH (own := false) (zs := (c :: r).map Tm.cells) (n := (c :: r).length) O Z Z Z Z Z Z Z Z Z Z Z Z Z Z Z Z (.row Z Z) (.slc (.inl Z)) (by simp) Z (by simp at hl ⊢; omega) (by simp at hl ⊢; omega) Z (by simp)) Z (js O Z (jf [2,3,0] Z (jr ?_)))))))))
 refine ⟨.inl Z, _, ak, _, Z, [7], by decide, Z, Z, Z⟩
theorem oI : MQ h1 h2 176 [cK t] [] (Rows (.agg [.d (.int .i64 t.c), .rs 0 0 t.xs.length]) [aA t.xs]) := by
 refine bq (jB 9 h1 h2 Tryz.func176 Z Z Z fun O hF => ?_)
 refine ae (jx O Z (jl O Z (jn (ag (jZ O [_,_,_,_,_,_,_] [pn [] 0 1, pn [0] 0 1, pn [] 0 0, pn [2] 0 0, pe [2,3] 0, pn (rg 0 5) 1 1, pe (rg 0 6) 1] [4,6] [_,_,_] (ai (kc O Z (V O Z)) (ai (kc O Z (V O Z)) (kc O Z (kc O Z (ai (cO O (B0 := 8000) Z Z Z Z (t7 (xs := t.xs) h1 h2) (aa Z) Z Z Z Z Z) (kc O Z (ai (eS O Z Z Z) trivial))))))) ?_)))))
 refine i3 ?_
 refine ⟨.inl Z, _, ak, _, Z, [8000], by decide, Z, Z, Z⟩
theorem yN {t : Tm} : t.ok = true ↔ num t.c = true ∧ t.xs.all num = true ∧ t.xs.length ≤ 10 ∧ (t.xs = [] ∨ t.xs.getD (t.xs.length - 1) default ≠ 0) := by
 unfold Tm.ok
 have hz : ((t.xs.length : Int) - 1).toNat = t.xs.length - 1 := by omega
 rw [hz]
 cases h1 : num t.c <;> cases h2 : t.xs.all num <;> simp
 by_cases h3 : t.xs.length ≤ 10
 have h4 : ¬ (10 : Int) < t.xs.length := by omega
 by_cases h5 : t.xs = []
 simp [h5]
 have h6 : 0 < t.xs.length := List.length_pos_iff.2 h5
 simp [h3, h5]
 intro _; omega
 have h4 : (10 : Int) < t.xs.length := by omega
 simp [h3, h4]
theorem rB {t : Tm} : fP t (-1) ⟨1, []⟩ (-1) = bO [t] [-1] := by
 unfold fP bO
 apply List.map_congr_left
 intro k _
 show -1 * t.xs.getD k 0 + -1 * 0 = -1 * t.xs.getD k 0 + 0
 omega
theorem uj {t : Tm} : bC t = if (qs t).ok = true then (qs t, true) else (⟨0, []⟩, false) := by
 unfold bC jQ py
 rw [rB]
 have : (-1 * t.c + -1 * (⟨1, []⟩ : Tm).c) = ca Tm.c [t] [-1] - 1 := by
  show -1 * t.c + -1 * 1 = -1 * t.c + 0 - 1
  omega
 rw [this]
inductive Pf where
  | close (n : Nd)
  | tight (n : Nd) (a : Pf)
  | split (n : Nd) (a b : Pf)
structure Ex where
  es : List (Int × List Tm)
  flaw : Int
def fl (b : Nat → Bool) : Nat → Nat → Int → Int
  | _, 0, f => f
  | k, n + 1, f => fl b (k + 1) n (if b k = true ∧ f < 0 then (k : Int) else f)
structure Eqs (p : List Nd) (c0 : List Tm) (H : Nat → Bool) (A : Nat → List Tm) (R : Nat → Bool) : Prop where
  h0 : 0 < p.length → H 0 = true ∧ A 0 = c0
  h : ∀ j, 0 < j → j < p.length → H j = R (vg p j j).1.toNat
  a : ∀ j, 0 < j → j < p.length → H j = true → A j = u4 (p.getD (vg p j j).1.toNat default) (A (vg p j j).1.toNat) (vg p j j).2
  r : ∀ j, j < p.length → R j = (H j && qU (p.getD j default) (A j))
theorem sf : MQ h1 h2 169 [ct ts] [] (Rows (.c (.rs 0 0 ts.length)) [ft ts]) := by
 refine bq (jB 19 h1 h2 Tryz.func169 Z Z Z fun O hF => ?_)
 have hl : ts.length ≤ L := by simpa [As.fact, A.fact, M.fact, D.fact, Ds.fact] using hF.1.1
 refine ae (js O Z (aQ (js O Z (jn (ag (ae (js O Z (bA O Z (js O Z (jn (am (ar (X := Nat) (fun i => ⟨[(3, .c (.rs 900 0 i)), (6, ct ts), (7, eI ts.length), (8, eI i)], [(900, ft (ts.take i))]⟩) (fun i => i ≤ ts.length) (fun i => ts.length - i) 0 ((di 3 900 2 true Z Z).trans (Ent.to ⟨Z, Z, Z, Z, trivial⟩ Z)) ?_ (fun i hi => ?_)))))))))))))
 exact cI _
 refine ae (js O Z (jn (ag (ab O Z Z (fun hc9 => ?_) (fun hc9 => ?_)))))
 try simp only [aI] at hc9
 refine ah (ag (am (ae (nj O Z Z (js O Z (jf [11,9,3,6,7,8] Z (jl O Z (ap ?_))))))))
 refine jo O Z (ap ?_)
 refine jn (aj (j2 O Z Z (aN O (B0 := 15000) Z Z Z Z (oI (t := ts.getD i default) h1 h2) (aa Z) Z Z Z Z Z Z (ap ?_))))
 refine jf [14,12,5,11,9,3,6,7,8] Z (AOps.heap (lF (ds := Tm.cells (ts.getD i default)) O Z Z Z Z Z Z Z Z Z Z (.d Z (.rs Z (b9 _).symm .nil)) Z Z Z) Z (ap ?_))
 refine ap ?_
 refine jf [15,12,5,11,9,3,6,7,8] Z (AOps.heap (cf (zs := (ts.take (i + 1)).map Tm.cells) (n := i + 1) O Z Z Z Z Z Z Z Z Z Z Z Z Z Z Z Z (.row Z (by simp; omega)) Z Z (by decide) Z (by simp; omega) (by simp; omega) (by rw [List.take_succ_eq_append_getElem (by omega), List.map_append, aw (by omega)]; rfl) (by simp; omega)) Z (ap ?_))
 refine ap ?_
 refine js O Z (jf [3,5,11,9,6,7,8] Z (jn (aj (ji O Z (js O Z (jn ?_))))))
 refine ⟨i + 1, ((au [16] (e' := [(3, _), (6, _), (7, _), (8, _)]) Z Z ⟨Z, Z, Z, Z, trivial⟩ Z).trans (ac 16 900 Z Z)), by omega, by omega⟩
 try simp only [aI] at hc9
 refine aW (ae (j2 O Z Z (jr ?_)))
 obtain rfl : i = ts.length := by omega
 rw [List.take_length]
 refine ⟨.inl Z, _, ak, _, Z, [900], by decide, Z, Z, Z⟩
theorem pM : ∀ {k : Int} {xs : List Int}, aY mI cW k (aY mI cW k xs) = aY mI cW k xs
 | _, [] => rfl
 | k, x :: xs => by
  show k :: aY mI cW (k + 1) (aY mI cW (k + 1) xs) = k :: aY mI cW (k + 1) xs
  rw [pM]
theorem kH (xs : List Int) (k : Int) : (if aY mI cW k xs = aY mI cW k (aY mI cW k xs) then k + ((aY mI cW k xs).length : Int) else -1) = k + xs.length := by
 rw [if_pos pM.symm, bl]
theorem hZ {α : Type} [Inhabited α] {f : Int → α → α} {sz : α → Nat} : ∀ {l : List α} {k : Int} {i : Nat}, i < l.length → (aY f sz k l).getD i default = f (k + bp sz (l.take i)) (l.getD i default)
 | [], _, _, h => by simp at h
 | a :: r, k, 0, _ => by simp [aY, bp]
 | a :: r, k, i + 1, h => by
  have := hZ (f := f) (sz := sz) (l := r) (k := k + sz a) (i := i) (by simpa using h)
  simp only [aY, List.getD_cons_succ, List.take_succ_cons] at this ⊢
  rw [this]
  have e : k + (sz a : Int) + (bp sz (r.take i) : Int) = k + (bp sz (a :: r.take i) : Int) := by simp [bp]; omega
  rw [e]
theorem yY {k : Int} (hk0 : 0 ≤ k) (hk1 : k + bp nT ts ≤ 1073741824) : MQ h1 h2 59 [ct (aY mT nT k ts), eI k] [] (Plain (eI (k + bp nT ts))) := by
 refine aB ?_ Z
 refine jB 31 h1 h2 Tryz.func59 Z Z Z fun O hF => ?_
 have hlm := bl (f := mT) (sz := nT) (k := k) (l := ts)
 have hl : (aY mT nT k ts).length ≤ L := by simpa [As.fact, A.fact, M.fact, D.fact, Ds.fact] using hF.1.1
 refine ae (js O Z (jn (ag (ae (js O Z (jn (am (ar (X := Nat) (fun i => ⟨[(0, ct (aY mT nT k ts)), (1, eI (k + bp nT (ts.take i))), (5, eI i)], []⟩) (fun i => i ≤ ts.length) (fun i => ts.length - i) 0 (Ent.env ⟨Z, by simp [bJ, ax, bp], Z, trivial⟩) ?_ (fun i hi => ?_)))))))))
 exact cI _
 refine ag (ae (j2 O Z Z ?_))
 first | refine bA O Z ?_ | refine js O Z ?_ | refine bb O Z Z ?_
 refine js O Z (jf [9,0,1,5] Z (jn (ab O Z Z (fun hc9 => ?_) (fun hc9 => ?_))))
 refine ah (ag (am (ag (ae ?_))))
 have hil : i < ts.length := by have h9 := aS hc9; omega
 have hg := hZ (f := mT) (sz := nT) (k := k) hil
 have hcs := eX (sz := nT) hil
 have hcl := je (sz := nT) (l := ts) (i := i + 1)
 rw [← aw hil] at hcs
 obtain ⟨t, ht⟩ : ∃ t, t = ts.getD i default := ⟨_, rfl⟩
 rw [← ht] at hg hcs
 simp only [nT] at hcs
 obtain ⟨K, hK⟩ : ∃ K, K = k + (bp nT (ts.take i) : Int) := ⟨_, rfl⟩
 rw [← hK] at hg ⊢
 refine j2 O Z Z (AOps.step ((aP O Z Z Z Z Z Z Z Z (cQ (by omega))).cast (v' := ptr (Tm.cells (mT K t))) (by rw [hg])) Z Z Z (j4 O Z Z Z Z (jf [18,9,0,1,5] Z (jn (ab O Z Z (fun hc18 => ?_) (fun hc18 => ?_))))))
 exact absurd hc18 (by simp)
 refine ah (ae (js O Z ?_))
 first | refine ji O Z ?_ | refine bb O Z Z ?_
 refine js O Z (jf [1,18,9,0,5] Z (aQ (j2 O Z Z (AOps.step ((aP O Z Z Z Z Z Z Z Z (cQ (by omega))).cast (v' := ptr (Tm.cells (mT K t))) (by rw [hg])) Z Z Z (j3 O Z Z Z (jf [26,25,1,18,9,0,5] Z (af O Z Z Z Z ((y2 (xs := aY mI cW (K + 1) t.xs) (k := K + 1) h1 h2 (by omega) (by omega)).plain (congrArg eI (kH t.xs (K + 1)))) (aa Z) Z Z Z Z Z (B0 := 28000) Z (js O Z (jf [1,18,9,0,5] Z (aQ (j2 O Z Z (jn (ab O Z Z (fun hc29 => ?_) (fun hc29 => ?_))))))))))))))
 exact absurd (aS hc29) (by omega)
 refine ah (aj (js O Z ?_))
 first | refine ji O Z ?_ | refine bb O Z Z ?_
 refine js O Z (jf [5,29,28,1,18,9,0] Z (jn ?_))
 refine ⟨i + 1, Ent.env ⟨Z, ?_, Z, trivial⟩, by omega, by omega⟩
 rw [hcs]
 exact congrArg (fun z => some (eI z)) (by omega)
 refine aW (ae (j2 O Z Z (jr ?_)))
 refine ⟨.inl Z, _, ak, _, Z, ?_⟩
 have h9 := bB hc9
 obtain rfl : i = ts.length := by omega
 rw [List.take_length]
theorem ma (ts : List Tm) : bp nT ts = szs Tm.size ts := by
 unfold bp szs
 induction ts with
 | nil => rfl
 | cons t r ih =>
  simp only [List.map_cons, List.sum_cons, iZ] at ih ⊢
  have : nT t = 1 + Tm.size t := rfl
  omega
theorem nQ {left : Int} {n : Nat} (h : 0 ≤ eh left n) (h0 : 0 ≤ left) : (n : Int) ≤ left := by
 unfold eh at h
 split at h <;> omega
theorem pS {L S : Nat} {xs : List Int} (h : D.fact L (dp xs)) (hl : xs.length ≤ S) : D.fact S (dp xs) := by
 simp only [D.fact, b9, dB, Ds.fact] at h ⊢
 exact ⟨hl, h.2⟩
theorem lT {α : Type} (f : α → Nat) : ∀ {xs : List α} {x : α}, x ∈ xs → f x ≤ (xs.map f).sum
 | y :: r, x, h => by
  simp only [List.map_cons, List.sum_cons]
  rcases List.mem_cons.1 h with rfl | h
  omega
  have := lT f h; omega
theorem ku {L S : Nat} {ts : List Tm} (h : D.fact L (cY ts)) (hl : szs Tm.size ts ≤ S) : D.fact S (cY ts) := by
 unfold szs at hl
 simp only [D.fact, b9, dB] at h ⊢
 refine ⟨by omega, fun t ht => ?_⟩
 have h1 := h.2 t ht
 have h2 := lT Tm.size ht
 have h3 : Tm.size t = t.xs.length := rfl
 exact ⟨h1.1, pS h1.2.1 (by omega), trivial⟩
end Go.Al
/- What the laws of the certificates share: the types of their arguments; what came in reads as it did. -/
namespace Go.Proofs.YtikejfdfkemmmaaGreat
open Go.ChangeShapes Go.WideShapes Go.ChangeAt Go.RowKit Go.Al

theorem ownK : ownKnob Tryz.prog.godebug = none := by kernel_rfl
theorem kidsK : Kids Tryz.prog (· < Tryz.prog.types.size) := kids_rows (by kernel_rfl) (by kernel_rfl)
theorem fullK : ∀ t e, t < Tryz.prog.types.size → Tryz.prog.underlying t = some (.slice e) → 0 < Tryz.prog.cellsOf e := slices_full_of Tryz.prog (by kernel_rfl)

abbrev r5 : List Ty := [.int .i64]
abbrev r3 : List Ty := [.int .i64, .slc r5]
theorem vi : TyOf Tryz.prog 2 r5 := .int Tryz.underlying2
theorem yb : TyOf Tryz.prog 90 [.slc r5] := .slc Tryz.underlying90 vi (by kernel_rfl) (by decide)
theorem x8 : TyOf Tryz.prog 122 r3 := .struct Tryz.underlying122 (show FieldsAre Tryz.prog _ (r5 ++ ([.slc r5] ++ [])) 0 from .cons rfl (by kernel_rfl) vi (.cons rfl (by kernel_rfl) yb .nil)) (by kernel_rfl)
theorem t4 : TyOf Tryz.prog 22 [.slc r3] := .slc Tryz.underlying22 x8 (by kernel_rfl) (by decide)
theorem fZ {d : D} (h : Fits (.int .i64) d) : ∃ n, d = .int .i64 n := by cases h; exact ⟨_, rfl⟩
theorem f1 {α : Type} {es : List Ty} {g : α → List D} (hg : ∀ e, FitsL es e → ∃ a, e = g a) : ∀ {xs : List (List D)}, FitsA es xs → ∃ ys : List α, xs = ys.map g
 | _, .nil => ⟨[], rfl⟩
 | _, .cons h1 h2 => by
  obtain ⟨a, rfl⟩ := hg _ h1
  obtain ⟨ys, rfl⟩ := f1 hg h2
  exact ⟨a :: ys, Z⟩
theorem pQ {d : D} (h : Fits (.slc r5) d) : ∃ xs, d = dp xs := by
 cases h with
 | slc h =>
  obtain ⟨xs, rfl⟩ := f1 (g := fun n => [D.int .i64 n]) (fun e he => by
   cases he with
   | cons h1 h2 =>
     cases h2
     obtain ⟨n, rfl⟩ := fZ h1
     exact ⟨n, Z⟩) h
  exact ⟨xs, Z⟩
theorem pP {e : List D} (h : FitsL r3 e) : ∃ t : Tm, e = t.cells := by
 cases h with
 | cons h1 h2 =>
  cases h2 with
  | cons h2 h3 =>
   cases h3
   obtain ⟨n, rfl⟩ := fZ h1
   obtain ⟨xs, rfl⟩ := pQ h2
   exact ⟨⟨n, xs⟩, Z⟩
theorem ig {d : D} (h : Fits (.slc r3) d) : ∃ ts, d = cY ts := by
 cases h with
 | slc h =>
  obtain ⟨xs, rfl⟩ := f1 (g := Tm.cells) (fun e he => pP he) h
  exact ⟨xs, Z⟩
theorem rdl_rms {L : Nat} {w : World} {ok : Nat → Prop} {m : Nat → Go.Al.Loc} : ∀ {ds : List D} {vs : List Value} {F : List Nat}, RDL L w ok ds vs F → F = [] → RMs L w ok m (ds.map .d) vs
 | _, _, _, .nil, _ => .nil
 | _, _, _, .cons (F1 := F1) (F2 := F2) h1 h2, hF => by
  obtain ⟨rfl, rfl⟩ := List.append_eq_nil_iff.1 hF
  exact .cons (.d h1) (rdl_rms h2 Z)
section
variable {H : Type} {enc : TypeId × Value → H} {P : Program} {w w' : World}
theorem sF (hs : ∀ b, b < w.heap.size → Same w w' b) {p : MemPlace} (hp : p.block < w.heap.size) : w.sameAt w' p := by
 cases p with
 | cell b o => exact (hs b hp).cell
 | map b => exact hs b hp
theorem trodAll_same (hs : ∀ b, b < w.heap.size → Same w w' b) {base : Nat} {sp : Nat → Bool} {held : Bool} : ∀ {ts : List TypeId} {vs : List Value} {ds : List (DataW H)} {ps : List MemPlace}, (∀ p ∈ ps, p.block < w.heap.size) → DataW.TrodAll enc P w base sp held ts vs ds ps → DataW.TrodAll enc P w' base sp held ts vs ds ps
 | [], [], [], _, _, h => h
 | _ :: _, _ :: _, _ :: _, _, hl, ⟨p, q, ⟨n, h1⟩, h2, e⟩ =>
  ⟨p, q, ⟨n, DataW.trod_carry n _ _ _ h1 (fun x hx => sF hs (hl x (by rw [e]; exact List.mem_append_left _ hx)))⟩, trodAll_same hs (fun x hx => hl x (by rw [e]; exact List.mem_append_right _ hx)) h2, e⟩
theorem nY (hf : Go.Al.Frame w w' []) (may : MemPlace → Prop) : w.keptBut w' may := by
 refine ⟨hf.os, hf.output, fun i hi => ?_⟩
 have h := hf.block i hi (by simp)
 unfold Same at h
 rw [h]
 cases hx : w.heap[i]? with
 | none => trivial
 | some o =>
  cases o with
  | cells c t fr => exact ⟨Z, Z, Z, fun _ _ => rfl⟩
  | map es clock => exact .inr ⟨Z, Z⟩
  | _ => rfl
theorem nX (hf : Go.Al.Frame w w' []) {a : Addr} (ha : a.block < w.heap.size) : w'.frozen? a = w.frozen? a := by
 have h := hf.block a.block ha (by simp)
 unfold Same at h
 unfold World.frozen?
 rw [h]
theorem post_of_old {f : Func} {s : ChangeSpec} {apart fresh handsOn again : Bool} {args : Array Value} {v : Value} {ds gs : List (DataW H)} {before pa pv : List MemPlace}
    (hW : DataW.Whole enc P f.params.toList s.vars apart w args.toList ds gs before)
    (hres : ∀ (b : Nat) (sp : Nat → Bool) (hd : Bool), DataW.TrodAll enc P w' b sp hd f.resultTypes.toList (v.resultList f.resultTypes.size) (s.fn H (ds ++ gs)).results [])
    (hargs : ∀ sp : Nat → Bool, (∀ p ∈ before, sp p.block = true) → DataW.TrodAll enc P w' 0 sp true f.params.toList args.toList (s.fn H (ds ++ gs)).args pa)
    (hvars : ∀ sp : Nat → Bool, (∀ p ∈ before, sp p.block = true) → DataW.TrodVars enc P w' sp s.vars (s.fn H (ds ++ gs)).vars pv)
    (hps : before = pa ++ pv) (hf : Go.Al.Frame w w' [])
    (hok : ∀ (j : Nat) (t : TypeId) (r : Value), f.resultTypes[j]? = some t → (v.resultList f.resultTypes.size)[j]? = some r → Value.okWide P w' .any 0 t r) :
    s.post enc P f apart fresh handsOn again w args v w' := by
 have hlt := hW.lt
 have hold : ∀ p ∈ before, (fun b => decide (b < w.heap.size)) p.block = true := fun p hp => by simpa using hlt p hp
 refine ⟨ds, gs, before, [], pa, pv, hW, hres _ _ _, hargs _ hold, hvars _ hold, World.keptBut_mono (fun p hp => ⟨hp, ?_⟩) (nY hf (· ∈ before)), fun _ => ?_⟩
 rw [hps, List.mem_append] at hp
 exact Or.inr hp
 obtain ⟨_, _, _, _, _, hz, hn⟩ := hW
 refine ⟨hok, _, _, ([] ++ pa) ++ pv, ⟨[] ++ pa, pv, trodAll_append (hargs _ (fun _ _ => rfl)) (hres _ _ _), hvars _ (fun _ _ => rfl), Z, ?_, ?_⟩, ?_⟩
 intro b off hp
 have hp' : MemPlace.cell b off ∈ before := by rw [hps]; simpa using hp
 rw [nX hf (hlt _ hp')]
 exact hz b off hp'
 intro ha
 have := hn ha
 rw [hps] at this
 simpa using this
 intro p hp _
 rw [hps]
 simpa using hp
end

end Go.Proofs.YtikejfdfkemmmaaGreat
