/- Contracts of the program's functions for cf; the types of the arguments. -/
import Derived.Test.YtikejfdfkemmmaaGreatE
import Derived.Test.YtikejfdfkemmmaaGreatC
import Derived.Test.YtikejfdfkemmmaaGreatRows
set_option linter.unusedVariables false
set_option linter.unusedSimpArgs false
set_option maxRecDepth 10000
set_option maxHeartbeats 4000000
open Go.Proofs
namespace Go.Al
variable {L : Nat} (h1 : 4096 ≤ L) (h2 : L ≤ 1073741824)
structure CS where
  all : List (List Tm)
  has : List Bool
  right : List Bool
  flaw : Int
structure CSok (p : List Nd) (k : Nat) (z : CS) : Prop where
  all : z.all.length = k
  has : z.has.length = k
  right : z.right.length = k
  flaw : -1 ≤ z.flaw ∧ z.flaw < k
  ctx : ∀ j, j < k → z.has.getD j default = true → CtxOk (z.all.getD j default)
  good : ∀ j, j < k → z.right.getD j default = true → z.has.getD j default = true ∧ sV (p.getD j default) (z.all.getD j default) = true
abbrev bL (b : Bool) : List D := [.bool b]
structure Con where
  all : List (List Tm)
  has : List Bool
  flaw : Int
  ok : Bool
theorem g2 {a b : Bool} : (bif !a then true else !b) = !(a && b) := by cases a <;> cases b <;> rfl
def uf (f : Int → Bool) (ms : List Int) (n : Nat) (bs : List Bool) : Nat → List Bool
  | 0 => bs
  | j + 1 => if (f (ms.getD j default) && decide (j < n)) = true then (uf f ms n bs j).set j true else uf f ms n bs j
theorem oJ {f ms n bs} : ∀ {j : Nat}, (uf f ms n bs j).length = bs.length
 | 0 => rfl
 | j + 1 => by unfold uf; split <;> simp [oJ]
abbrev dN (bs : List Bool) : B := .row true 1 (bs.map bL)
def dE (bs : List Bool) : Nat → List Int
  | 0 => []
  | i + 1 => if bs.getD i default = true then dE bs i ++ [(i : Int)] else dE bs i
theorem gF {bs : List Bool} : ∀ {i : Nat}, (dE bs i).length ≤ i
 | 0 => bw _
 | i + 1 => by have := gF (bs := bs) (i := i); unfold dE; split <;> simp <;> omega
theorem ug {α β : Type} [Inhabited α] {l : List α} {f : α → β} {n : Nat} (h : n < l.length) : (l.map f)[0 + n]? = some (f (l.getD n default)) := by rw [Nat.zero_add]; simp [h]
abbrev em (ts : List Tm) (ms : List Int) : Tm := ⟨cn Tm.c ts ms, dM (bU ts ms)⟩
abbrev sl (t : Tm) : Tm := ⟨cn Tm.c [t] [-1] - 1, dM (bU [t] [-1])⟩
variable {ts : List Tm}
theorem A8 {n : Int} : MQ h1 h2 129 [cD ts, eI n] [] (Plain (eB (go ts n))) := by
 refine aA ?_ Z
 refine jB 21 h1 h2 Tryz.func129 Z Z Z fun O hF => ?_
 have hl : ts.length ≤ L := by simpa [As.fact, A.fact, M.fact, D.fact, Ds.fact] using hF.1.1
 refine ac (js O Z (jn (af (ac (js O Z (bo O Z (j2 O Z Z (jf [10,4,0,1] Z (jn (ab O Z Z (fun hc10 => ?_) (fun hc10 => ?_)))))))))))
 try simp only [aN] at hc10
 refine ac (js O Z (jr ?_))
 refine ⟨.inl Z, _, ak, _, Z, ?_⟩
 rw [go, decide_eq_false (show ¬ (ts.length : Int) ≤ n by omega), Bool.and_false]
 try simp only [aN] at hc10
 refine ah (af (ac (js O Z (bo O Z (js O Z (jn (am (ap (X := Nat) (fun i => ⟨[(1, eI n), (11, cD ts), (12, eI ts.length), (13, eI i)], []⟩) (fun i => i ≤ ts.length ∧ ∀ j (h : j < ts.length), j < i → Tm.ok ts[j] = true) (fun i => ts.length - i) 0 (Ent.to ⟨Z, Z, Z, Z, trivial⟩ Z) ?_ (fun i hi => ?_)))))))))
 exact ⟨cm _, fun j h hj => absurd hj (Nat.not_lt_zero j)⟩
 refine ac (js O Z (jn (af (ab O Z Z (fun hc14 => ?_) (fun hc14 => ?_)))))
 try simp only [aN] at hc14
 refine ah (af (am (ac (kV O Z Z (js O Z (jf [16,14,1,11,12,13] Z (jl O Z (jo O Z (aP (js O Z (ae O Z Z Z Z (mh (t := ts.getD i default) h1 h2) (aa Z) Z Z Z Z Z (B0 := 19000) Z (js O Z (jf [19,6,16,14,1,11,12,13] Z (jn (ab O Z Z (fun hc19 => ?_) (fun hc19 => ?_))))))))))))))))
 try simp only [aN] at hc19
 refine ac (js O Z (jr ?_))
 refine ⟨.inl Z, _, ak, _, Z, ?_⟩
 rw [ar (by omega)] at hc19
 rw [go, gU i (by omega) hc19, Bool.false_and]
 try simp only [aN] at hc19
 refine ah (aj (ji O Z (js O Z (jn ?_))))
 refine ⟨i + 1, (aw [] (e' := [(1, _), (11, _), (12, _), (13, _)]) Z Z ⟨Z, Z, Z, Z, trivial⟩ Z), ⟨by omega, fun j h hj => ?_⟩, by omega⟩
 by_cases e : j = i
 subst e; rw [ar h] at hc19; exact hc19
 exact hi.2 j h (by omega)
 try simp only [aN] at hc14
 refine aQ (ac (js O Z (jr ?_)))
 refine ⟨.inl Z, _, ak, _, Z, ?_⟩
 rw [go, j7 (fun j hj => hi.2 j hj (by omega)), decide_eq_true (show (ts.length : Int) ≤ n by omega), Bool.true_and]
variable {t : Tm}
theorem A6 : MQ h1 h2 185 [cU t] [] (Plain (cU ⟨t.c, dM t.xs⟩)) := by
 refine MC.data (jB 26 h1 h2 Tryz.func185 Z Z Z fun O hF => ?_)
 have hl : t.xs.length ≤ L := by simpa [As.fact, A.fact, M.fact, Ms.fact, D.fact, Ds.fact] using hF.1.2.1.1
 refine ac (jx O Z (jf [1] Z (jl O Z (aP (j2 O Z Z (bo O Z (js O Z (jf [3,2,1] Z (jn (af (am (ap (X := Nat) (fun n => ⟨[(1, .c (.pt 1 0 0)), (2, .c (.pt 2 0 0)), (3, eI n)], [(1, .box [.d (.int .i64 t.c), .d (gj t.xs)]), (2, .box [.d (.int .i64 0), .d .nils])]⟩) (fun n => n ≤ t.xs.length ∧ dM (t.xs.take n) = dM t.xs) (fun n => n) t.xs.length (Ent.env ⟨Z, Z, Z, trivial⟩) ?_ (fun n hi => ?_)))))))))))))
 exact ⟨bw _, by rw [List.take_length]⟩
 refine af (ac (j3 O Z Z Z (jf [9,1,2,3] Z (aS 7 Z Z Z (fun hx => AN.step hx Z Z Z (V O Z) Z Z ( AN.step hx Z Z Z (V O Z) Z Z ( AN.step hx Z Z Z (V O Z) Z Z ( AN.step hx Z Z Z (vF O Z) Z Z ( AN.step hx Z Z Z (vD O Z) Z Z ( AN.step hx Z Z Z (V O Z) Z Z ( AN.step hx Z Z Z (V O Z) Z Z ( AN.nil)))))))) Z Z (AOps.step (aM O Z Z Z Z Z) Z Z Z (jf [17,1,2,3] Z (jn (ab O Z Z (fun hc17 => ?_) (fun hc17 => ?_)))))))))
 refine ah (am (aj (js O Z (ji O Z (js O Z (jf [3,17,1,2] Z (jn ?_)))))))
 rw [Bool.cond_false_right, bF, decide_eq_true_eq, decide_eq_true_eq] at hc17
 obtain ⟨k, hk⟩ : ∃ k, n = k + 1 := ⟨n - 1, by omega⟩
 subst hk
 have hk2 : ((k + 1 : Nat) : Int) - 1 = k := by omega
 rw [hk2] at hc17
 refine ⟨k, Ent.to ⟨Z, Z, by rw [hk2]; rfl, trivial⟩ Z, ⟨by omega, ?_⟩, Nat.lt_succ_self k⟩
 rw [← hi.2, mw (by omega) (by simpa using hc17.2)]
 refine aQ (ac (j3 O Z Z Z ?_))
 have hd : dM (t.xs.take n) = t.xs.take n := my hi.1 (by
  rw [Bool.cond_false_right] at hc17
  rcases Nat.eq_zero_or_pos n with h0 | h0
  ·
   exact .inl h0
  ·
   refine .inr (fun h9 => ?_)
   have e1 : ((n : Int) - 1).toNat = n - 1 := by omega
   rw [e1, h9] at hc17; simp at hc17; omega)
 have ht := hi.2
 rw [hd] at ht
 refine AOps.step ((aO O Z Z ⟨by omega, by simp; omega⟩).cast (v' := bM (dM t.xs)) (by rw [← ht]; simp [List.map_take])) Z Z Z (js O Z (jf [24,23,17,1,2,3] Z (jo O Z (jf [17,1,2,3] Z (aP (js O Z (jo O Z (jr ?_))))))))
 refine ⟨.inl Z, _, ak, _, Z, ?_⟩
 exact .v (.agg (aq Z))
theorem lI {f : Tm → Int} : ∀ {ts : List Tm} {ms : List Int}, ts.length ≤ ms.length → cn f (ts.take ts.length) (ms.take ts.length) = cn f ts ms
 | [], ms, _ => by cases ms <;> simp [cn]
 | t :: ts, [], h => by simp at h
 | t :: ts, m :: ms, h => by
  have := lI (f := f) (ts := ts) (ms := ms) (by simpa using h)
  simp only [jI, List.take_succ_cons, cn] at this ⊢
  rw [this]
theorem rM {ts : List Tm} {ms : List Int} (h : ts.length ≤ ms.length) : bU (ts.take ts.length) (ms.take ts.length) = bU ts ms := by
 unfold bU
 apply List.map_congr_left
 intro k _
 exact lI h
theorem sB {ms : List Int} (hc : CtxOk ts) (hm : ms.all num = true) (hle : ts.length ≤ ms.length) : MQ h1 h2 172 [cD ts, bM ms] [] (Plain (cU (em ts ms))) := by
 refine MC.data (jB 55 h1 h2 Tryz.func172 Z Z Z fun O hF => ?_)
 have hl : ms.length ≤ L := by simpa [As.fact, A.fact, M.fact, D.fact, Ds.fact] using hF.2.1.1
 have hlc := hc.len
 refine ac (jl O Z (aP (AOps.heap (cd O Z Z Z Z Z Z Z Z Z (by first | omega | (simp at *; omega)) (by first | omega | (simp at *; omega)) (by first | omega | (simp at *; omega)) (by first | omega | (dsimp only; omega) | (simp only [aN] at *; omega)) (by first | omega | (simp at *; omega)) Z Z Z) Z (js O Z (jf [11,4,0,1] Z (jl O Z (jo O Z (jn (af (ac (js O Z (bo O Z (js O Z (jn (am (ap (X := Nat) (fun i => ⟨[(1, bM ms), (4, .c (.pt 4 0 0)), (5, .c (.pt 5 0 0)), (12, cD ts), (13, eI ts.length), (14, eI i)], [(4, .box [.d (.int .i64 0), .d .nils]), (5, .box [.d (.int .i64 (cn Tm.c (ts.take i) (ms.take i))), .rs 10 0 10]), (10, aD (bU (ts.take i) (ms.take i)))]⟩) (fun i => i ≤ ts.length) (fun i => ts.length - i) 0 (Ent.to ⟨Z, Z, Z, Z, Z, Z, trivial⟩ Z) ?_ (fun i hi => ?_)))))))))))))))))
 exact cm _
 refine ac (js O Z (jn (af (ab O Z Z (fun hc15 => ?_) (fun hc15 => ?_)))))
 try simp only [aN] at hc15
 refine ah (af (am (ac (js O Z (kV O Z Z (js O Z (jf [18,16,15,1,4,5,12,13,14] Z (jl O Z (js O Z (jf [6,7,18,15,1,4,5,12,13,14] Z (jo O Z (jn (af ?_)))))))))))))
 have hi0 := hi
 have f9 := Small.of (hc.get (show i < ts.length by omega))
 have hd1 := je (f := Tm.c) (ts := ts) (ms := ms) (fun t ht => (Small.of (hc.ok t ht)).c) hm hi (by omega)
 have hd2 := fE (f := Tm.c) (ts := ts) (ms := ms) (i := i) (by omega) (by omega)
 have hmi : num (ms.getD i default) = true := by rw [ar (by omega)]; exact List.all_eq_true.1 hm _ (List.getElem_mem _)
 have hmu := et hmi f9.c
 refine fI O [_,_,_,_,_,_,_,_,_,_,_,_] [pn [] 0 0, pn [0] 0 0, pn [] 0 0, pn [] 0 0, pn [2,3] 0 0, pn [2,3,4] 0 0, pn [] 0 0, pn [6] 0 0, pn (rg 2 6) 0 0, pn (rg 0 9) 0 0, pn (rg 0 10) 0 0, pe (rg 0 11) 0] [11] [_,_] (kc O Z (kc O Z (kc O Z (kc O Z (ai (vN O Z) (kc O Z (kc O Z (kc O Z (ai (vF O Z) (ai (vF O Z) (kc O Z (ai (eS O Z Z Z) trivial)))))))))))) ?_
 refine jw [6,7,18,15,1,4,5,12,13,14] Z (ch ?_)
 refine ac (j2 O Z Z (bo O Z (js O Z (jn (am (ap (X := Nat) (fun j => ⟨[(1, bM ms), (4, .c (.pt 4 0 0)), (5, .c (.pt 5 0 0)), (12, cD ts), (13, eI ts.length), (14, eI i), (6, eI i), (31, bM (ts.getD i default).xs), (32, eI (ts.getD i default).xs.length), (33, eI j)], [(4, .box [.d (.int .i64 0), .d .nils]), (5, .box [.d (.int .i64 (cn Tm.c (ts.take i) (ms.take i) + ms.getD i default * (ts.getD i default).c)), .rs 10 0 10]), (10, aD (ef ts ms i j))]⟩) (fun j => j ≤ (ts.getD i default).xs.length) (fun j => (ts.getD i default).xs.length - j) 0 (((aw [4,5,10] (e' := [(1, _), (4, _), (5, _), (12, _), (13, _), (14, _), (6, _), (31, _), (32, _), (33, _)]) Z Z ⟨Z, Z, Z, Z, Z, Z, Z, Z, Z, Z, trivial⟩ Z)).trans (Ent.to ⟨Z, Z, Z, Z, Z, Z, Z, Z, Z, Z, trivial⟩ (by rw [mB]; rfl))) ?_ (fun j hi => ?_)))))))
 exact cm _
 refine ac (js O Z (jn (af (ab O Z Z (fun hc34 => ?_) (fun hc34 => ?_)))))
 try simp only [aN] at hc34
 refine ah (af (am (ac (js O Z (kV O Z Z (j3 O Z Z Z (jf [9,8,34,1,4,5,12,13,14,6,31,32,33] Z (jn ?_))))))))
 have hjl : j < 10 := by have := pj (hc.get (show i < ts.length by omega)); omega
 have hpj := lx (ts := ts) (ms := ms) (i := i) hjl
 have hps := mD (ts := ts) (ms := ms) (i := i) hjl
 have hpl := dw (ts := ts) (ms := ms) (i := i) (j := j)
 have hd3 := je (f := nQ j) (ts := ts) (ms := ms) (fun t ht => (Small.of (hc.ok t ht)).get j) hm hi0 (by omega)
 have hmx := et hmi (f9.get j)
 rw [show (ts.getD i default).xs.getD j 0 = (ts.getD i default).xs.getD j default from Z] at hmx
 refine fI O [_,_,_,_,_,_,_,_,_,_,_,_,_,_] [pn [] 0 0, pn [0] 0 0, pn [] 0 0, pn [0,1,2] 0 0, pn (rg 0 4) 0 0, pn [] 0 0, pn [] 0 0, pn [5,6] 0 0, pn [5,6,7] 0 0, pn [] 0 0, pn (rg 5 5) 0 0, pn (rg 0 11) 0 0, pn (rg 0 12) 0 0, pe (rg 0 13) 0] [13] [_,_] (kc O Z (kc O Z (kc O Z (ai (vI O Z Z) (ai (av O (ex := [.int .i64 ((ef ts ms i j).getD j default)]) Z Z Z Z (ug (by omega)) Z) (kc O Z (kc O Z (ai (vN O Z) (kc O Z (kc O Z (ai (vF O Z) (ai (vF O Z) (ai (vI O Z Z) (ai (cI (ex := [.int .i64 ((ef ts ms i j).getD j default)]) (xs' := (ef ts ms i (j + 1)).map (fun n => [D.int .i64 n])) O Z Z Z Z Z Z Z Z Z Z Z Z Z Z Z (ug (by omega)) (by rw [← hps, List.map_set]; simp only [Int.toNat_natCast, Nat.zero_add]; rfl) Z) trivial)))))))))))))) ?_
 refine jw [34,1,4,5,12,13,14,6,31,32,33] Z (ch ?_)
 refine aj (ji O Z (js O Z (jn ?_)))
 refine ⟨j + 1, Ent.to ⟨Z, Z, Z, Z, Z, Z, Z, Z, Z, Z, trivial⟩ Z, by omega, by omega⟩
 try simp only [aN] at hc34
 refine aQ (aj (ji O Z (js O Z (jn ?_))))
 refine ⟨i + 1, ((aw [4,5,10] (e' := [(1, _), (4, _), (5, _), (12, _), (13, _), (14, _)]) Z Z ⟨Z, Z, Z, Z, Z, Z, trivial⟩ Z)).trans (Ent.to ⟨Z, Z, Z, Z, Z, Z, trivial⟩ ?_), by omega, by omega⟩
 rw [hd2, ← ol (j := j) (by omega) (by omega) (by omega)]; rfl
 try simp only [aN] at hc15
 refine aQ (ac ?_)
 obtain rfl : i = ts.length := by omega
 have hcl := jC (ts := ts.take ts.length) (ms := ms.take ts.length)
 refine AOps.to (Ent.freeze 10 (e' := [(5, _), (4, _)]) Z (fe [5,4] Z) (.cons Z (.box (fk Z)) (.cons Z (.box (.cons (.keep Z) (.cons (.row Z (by rw [bt, hcl])) .nil))) (.skip .nil)))) ?_
 refine js O Z (ax O Z Z Z Z (A6 (t := ⟨cn Tm.c (ts.take ts.length) (ms.take ts.length), bU (ts.take ts.length) (ms.take ts.length)⟩) h1 h2) (aa Z) Z Z Z Z (B0 := 55000) Z Z (jf [54,5,4] Z (jo O Z (jr ?_))))
 refine ⟨.inl Z, _, ak, _, Z, ?_⟩
 have e1 : cn Tm.c (ts.take ts.length) (ms.take ts.length) = cn Tm.c ts ms := lI hle
 have e2 : bU (ts.take ts.length) (ms.take ts.length) = bU ts ms := rM hle
 rw [e1, e2]
 exact .v (.agg (aq Z))
theorem A4 {t : Tm} (h : t.ok = true) : CtxOk [t] := ⟨fun u hu => by simp at hu; subst hu; exact h, by simp⟩
theorem A2 {t : Tm} (h : Small t) : -1000000 ≤ cn Tm.c [t] [-1] ∧ cn Tm.c [t] [-1] ≤ 1000000 := by
 have := z7.1 h.c
 show -1000000 ≤ -1 * t.c + 0 ∧ -1 * t.c + 0 ≤ 1000000
 omega
theorem Bb (ht : t.ok = true) : MQ h1 h2 186 [cU t] [] (Plain (cU (sl t))) := by
 refine MC.data (jB 13 h1 h2 Tryz.func186 Z Z Z fun O hF => ?_)
 have hd1 := A2 (Small.of ht)
 refine ac (jx O Z (jf [1] Z (jl O Z (aP (js O Z (jf [4,2] Z (AOps.heap (cH O Z Z Z Z Z Z Z Z Z Z Z) Z (jf [5,2] Z (AOps.heap (aZ O Z Z Z) Z (AOps.to (Ent.freeze 5 (e' := [(6, _), (5, _), (2, _)]) Z (.cons Z (.keep Z) (.cons Z (.c (.row Z Z)) (fe [2] Z))) (.cons Z (.box (fk Z)) (.cons Z (.box (fk Z)) (.skip (.cons Z .row .nil))))) ?_))))))))))
 refine AOps.to (Ent.freeze 6 (e' := [(6, _), (5, _), (2, _)]) Z (.cons Z (.c (.row Z Z)) (fe [5,2] Z)) (.cons Z (.box (fk Z)) (.cons Z (.box (fk Z)) (.skip .nil)))) ?_
 refine ax O Z Z Z Z (sB (ts := [t]) (ms := [-1]) h1 h2 (A4 ht) (by decide) (bw 1)) (aa Z) Z Z Z Z (B0 := 8000) Z Z (jf [7,2] Z (jl O Z (jo O Z (aP (j2 O Z Z (ji O Z (js O Z (jf [11,10,3,7,2] Z (jo O Z (jf [3,7,2] Z (aP (js O Z (jo O Z (jr ?_))))))))))))))
 refine ⟨.inl Z, _, ak, _, Z, ?_⟩
 exact .v (.agg (aq Z))
theorem rB {n : Int} : MQ h1 h2 99 [eI n] [] (Plain (eI n)) := by
 refine aA ?_ Z
 refine jB 4 h1 h2 Tryz.func99 Z Z Z fun O hF => ?_
 refine ac (js O Z (aP (j2 O Z Z (jr ?_))))
 refine ⟨.inl Z, _, ak, _, Z, ?_⟩
 first | rfl | skip
theorem sb {k : Int} {n : Nat} (hn : n ≤ 1073741824) : MQ h1 h2 138 [eI k, eI n] [] (Plain (eB (da 0 ((n : Int) - 1) k))) := by
 refine aA ?_ Z
 refine jB 10 h1 h2 Tryz.func138 Z Z Z fun O hF => ?_
 refine ac (js O Z (aP (j2 O Z Z (ae O Z Z Z Z (rB (n := n) h1 h2) (aa Z) Z Z Z Z Z (B0 := 8000) Z ?_))))
 first | refine ji O Z ?_ | refine aU O Z Z ?_
 refine ae O Z Z Z Z (nU h1 h2) (aa Z) Z Z Z Z Z (B0 := 10000) Z (js O Z (jr ?_))
 refine ⟨.inl Z, _, ak, _, Z, ?_⟩
 first | rfl | skip
theorem A7 {c : Tm} {r : List Tm} (hl : (c :: r).length ≤ 1000) : MQ h1 h2 155 [cD (c :: r)] [] (Rows (.c (.rs 0 0 (c :: r).length)) [au (c :: r)]) := by
 refine bh (jB 8 h1 h2 Tryz.func155 Z Z Z fun O hF => ?_)
 refine ac (js O Z (jn (af (ac (j2 O Z Z (jn (ab O Z Z (fun hc4 => ?_) (fun hc4 => ?_))))))))
 exact absurd (show false = true from hc4) (by decide)
 refine ah (ac (AOps.heap (aZ O Z Z Z) Z (js O Z (jf [6,5,3,2,0] Z (AOps.to (ct 5 Z) (AOps.heap (bH (own := false) (zs := (c :: r).map Tm.cells) (n := (c :: r).length) O Z Z Z Z Z Z Z Z Z Z Z Z Z Z Z Z (.row Z Z) (.slc (.inl Z)) (by simp) Z (by simp at hl ⊢; omega) (by simp at hl ⊢; omega) Z (by simp)) Z (js O Z (jf [2,3,0] Z (jr ?_)))))))))
 refine ⟨.inl Z, _, ak, _, Z, [7], by decide, Z, Z, Z⟩
theorem qz : MQ h1 h2 176 [cU t] [] (Rows (.agg [.d (.int .i64 t.c), .rs 0 0 t.xs.length]) [aD t.xs]) := by
 refine bh (jB 9 h1 h2 Tryz.func176 Z Z Z fun O hF => ?_)
 refine ac (jx O Z (jl O Z (jn (af (fI O [_,_,_,_,_,_,_] [pn [] 0 1, pn [0] 0 1, pn [] 0 0, pn [2] 0 0, pe [2,3] 0, pn (rg 0 5) 1 1, pe (rg 0 6) 1] [4,6] [_,_,_] (ai (kc O Z (V O Z)) (ai (kc O Z (V O Z)) (kc O Z (kc O Z (ai (cC O (B0 := 8000) Z Z Z Z (wn (xs := t.xs) h1 h2) (aa Z) Z Z Z Z Z) (kc O Z (ai (eS O Z Z Z) trivial))))))) ?_)))))
 refine iZ ?_
 refine ⟨.inl Z, _, ak, _, Z, [8000], by decide, Z, Z, Z⟩
theorem Bv {t : Tm} : t.ok = true ↔ num t.c = true ∧ t.xs.all num = true ∧ t.xs.length ≤ 10 ∧ (t.xs = [] ∨ t.xs.getD (t.xs.length - 1) default ≠ 0) := by
 unfold Tm.ok
 have hz : ((t.xs.length : Int) - 1).toNat = t.xs.length - 1 := by omega
 rw [hz]
 cases h1 : num t.c <;> cases h2 : t.xs.all num <;> simp
 by_cases h3 : t.xs.length ≤ 10
 have h4 : ¬ (10 : Int) < t.xs.length := by omega
 by_cases h5 : t.xs = []
 simp [h5]
 have h6 : 0 < t.xs.length := List.length_pos_iff.2 h5
 simp [h3, h5]
 intro _; omega
 have h4 : (10 : Int) < t.xs.length := by omega
 simp [h3, h4]
theorem tF {t : Tm} : gb t (-1) ⟨1, []⟩ (-1) = bU [t] [-1] := by
 unfold gb bU
 apply List.map_congr_left
 intro k _
 show -1 * t.xs.getD k 0 + -1 * 0 = -1 * t.xs.getD k 0 + 0
 omega
theorem wI {t : Tm} : bK t = if (sl t).ok = true then (sl t, true) else (⟨0, []⟩, false) := by
 unfold bK kY r9
 rw [tF]
 have : (-1 * t.c + -1 * (⟨1, []⟩ : Tm).c) = cn Tm.c [t] [-1] - 1 := by
  show -1 * t.c + -1 * 1 = -1 * t.c + 0 - 1
  omega
 rw [this]
inductive Pf where
  | close (n : Nd)
  | tight (n : Nd) (a : Pf)
  | split (n : Nd) (a b : Pf)
structure Ex where
  es : List (Int × List Tm)
  flaw : Int
def fl (b : Nat → Bool) : Nat → Nat → Int → Int
  | _, 0, f => f
  | k, n + 1, f => fl b (k + 1) n (if b k = true ∧ f < 0 then (k : Int) else f)
structure Eqs (p : List Nd) (c0 : List Tm) (H : Nat → Bool) (A : Nat → List Tm) (R : Nat → Bool) : Prop where
  h0 : 0 < p.length → H 0 = true ∧ A 0 = c0
  h : ∀ j, 0 < j → j < p.length → H j = R (xT p j j).1.toNat
  a : ∀ j, 0 < j → j < p.length → H j = true → A j = xI (p.getD (xT p j j).1.toNat default) (A (xT p j j).1.toNat) (xT p j j).2
  r : ∀ j, j < p.length → R j = (H j && sV (p.getD j default) (A j))
theorem uh : MQ h1 h2 169 [cD ts] [] (Rows (.c (.rs 0 0 ts.length)) [fO ts]) := by
 refine bh (jB 19 h1 h2 Tryz.func169 Z Z Z fun O hF => ?_)
 have hl : ts.length ≤ L := by simpa [As.fact, A.fact, M.fact, D.fact, Ds.fact] using hF.1.1
 refine ac (js O Z (aP (js O Z (jn (af (ac (js O Z (bo O Z (js O Z (jn (am (ap (X := Nat) (fun i => ⟨[(3, .c (.rs 900 0 i)), (6, cD ts), (7, eI ts.length), (8, eI i)], [(900, fO (ts.take i))]⟩) (fun i => i ≤ ts.length) (fun i => ts.length - i) 0 ((cw 3 900 2 true Z Z).trans (Ent.to ⟨Z, Z, Z, Z, trivial⟩ Z)) ?_ (fun i hi => ?_)))))))))))))
 exact cm _
 refine ac (js O Z (jn (af (ab O Z Z (fun hc9 => ?_) (fun hc9 => ?_)))))
 try simp only [aN] at hc9
 refine ah (af (am (ac (kV O Z Z (js O Z (jf [11,9,3,6,7,8] Z (jl O Z (ao ?_))))))))
 refine jo O Z (ao ?_)
 refine jn (aj (j2 O Z Z (aI O (B0 := 15000) Z Z Z Z (qz (t := ts.getD i default) h1 h2) (aa Z) Z Z Z Z Z Z (ao ?_))))
 refine jf [14,12,5,11,9,3,6,7,8] Z (AOps.heap (ii (ds := Tm.cells (ts.getD i default)) O Z Z Z Z Z Z Z Z Z Z (.d Z (.rs Z (bt _).symm .nil)) Z Z Z) Z (ao ?_))
 refine ao ?_
 refine jf [15,12,5,11,9,3,6,7,8] Z (AOps.heap (bj (zs := (ts.take (i + 1)).map Tm.cells) (n := i + 1) O Z Z Z Z Z Z Z Z Z Z Z Z Z Z Z Z (.row Z (by simp; omega)) Z Z (by decide) Z (by simp; omega) (by simp; omega) (by rw [List.take_succ_eq_append_getElem (by omega), List.map_append, ar (by omega)]; rfl) (by simp; omega)) Z (ao ?_))
 refine ao ?_
 refine js O Z (jf [3,5,11,9,6,7,8] Z (jn (aj (ji O Z (js O Z (jn ?_))))))
 refine ⟨i + 1, ((aw [16] (e' := [(3, _), (6, _), (7, _), (8, _)]) Z Z ⟨Z, Z, Z, Z, trivial⟩ Z).trans (ag 16 900 Z Z)), by omega, by omega⟩
 try simp only [aN] at hc9
 refine aQ (ac (j2 O Z Z (jr ?_)))
 obtain rfl : i = ts.length := by omega
 rw [List.take_length]
 refine ⟨.inl Z, _, ak, _, Z, [900], by decide, Z, Z, Z⟩
theorem rI : ∀ {k : Int} {xs : List Int}, bq mI dm k (bq mI dm k xs) = bq mI dm k xs
 | _, [] => rfl
 | k, x :: xs => by
  show k :: bq mI dm (k + 1) (bq mI dm (k + 1) xs) = k :: bq mI dm (k + 1) xs
  rw [rI]
theorem pO (xs : List Int) (k : Int) : (if bq mI dm k xs = bq mI dm k (bq mI dm k xs) then k + ((bq mI dm k xs).length : Int) else -1) = k + xs.length := by
 rw [if_pos rI.symm, bv]
theorem lR {α : Type} [Inhabited α] {f : Int → α → α} {sz : α → Nat} : ∀ {l : List α} {k : Int} {i : Nat}, i < l.length → (bq f sz k l).getD i default = f (k + bC sz (l.take i)) (l.getD i default)
 | [], _, _, h => by simp at h
 | a :: r, k, 0, _ => by simp [bq, bC]
 | a :: r, k, i + 1, h => by
  have := lR (f := f) (sz := sz) (l := r) (k := k + sz a) (i := i) (by simpa using h)
  simp only [bq, List.getD_cons_succ, List.take_succ_cons] at this ⊢
  rw [this]
  have e : k + (sz a : Int) + (bC sz (r.take i) : Int) = k + (bC sz (a :: r.take i) : Int) := by simp [bC]; omega
  rw [e]
theorem jg (ts : List Tm) : bC nT ts = szs Tm.size ts := by
 unfold bC szs
 induction ts with
 | nil => rfl
 | cons t r ih =>
  simp only [List.map_cons, List.sum_cons, jI] at ih ⊢
  have : nT t = 1 + Tm.size t := rfl
  omega
theorem iL {left : Int} {n : Nat} (h : 0 ≤ bO left n) (h0 : 0 ≤ left) : (n : Int) ≤ left := by
 unfold bO at h
 split at h <;> omega
theorem mS {L S : Nat} {xs : List Int} (h : D.fact L (gj xs)) (hl : xs.length ≤ S) : D.fact S (gj xs) := by
 simp only [D.fact, bt, c8, Ds.fact] at h ⊢
 exact ⟨hl, h.2⟩
theorem kP {α : Type} (f : α → Nat) : ∀ {xs : List α} {x : α}, x ∈ xs → f x ≤ (xs.map f).sum
 | y :: r, x, h => by
  simp only [List.map_cons, List.sum_cons]
  rcases List.mem_cons.1 h with rfl | h
  omega
  have := kP f h; omega
theorem lF {L S : Nat} {ts : List Tm} (h : D.fact L (fH ts)) (hl : szs Tm.size ts ≤ S) : D.fact S (fH ts) := by
 unfold szs at hl
 simp only [D.fact, bt, c8] at h ⊢
 refine ⟨by omega, fun t ht => ?_⟩
 have h1 := h.2 t ht
 have h2 := kP Tm.size ht
 have h3 : Tm.size t = t.xs.length := rfl
 exact ⟨h1.1, mS h1.2.1 (by omega), trivial⟩
end Go.Al
/- What the laws of the certificates share: the types of their arguments; what came in reads as it did. -/
namespace Go.Proofs.YtikejfdfkemmmaaGreat
open Go.ChangeShapes Go.WideShapes Go.ChangeAt Go.RowKit Go.Al

theorem ownK : ownKnob Tryz.prog.godebug = none := by kernel_rfl
theorem kidsK : Kids Tryz.prog (· < Tryz.prog.types.size) := kids_rows (by kernel_rfl) (by kernel_rfl)
theorem fullK : ∀ t e, t < Tryz.prog.types.size → Tryz.prog.underlying t = some (.slice e) → 0 < Tryz.prog.cellsOf e := slices_full_of Tryz.prog (by kernel_rfl)

abbrev rq : List Ty := [.int .i64]
abbrev t6 : List Ty := [.int .i64, .slc rq]
theorem xU : TyOf Tryz.prog 2 rq := .int Tryz.underlying2
theorem x7 : TyOf Tryz.prog 90 [.slc rq] := .slc Tryz.underlying90 xU (by kernel_rfl) (by decide)
theorem AS : TyOf Tryz.prog 122 t6 := .struct Tryz.underlying122 (show FieldsAre Tryz.prog _ (rq ++ ([.slc rq] ++ [])) 0 from .cons rfl (by kernel_rfl) xU (.cons rfl (by kernel_rfl) x7 .nil)) (by kernel_rfl)
theorem wl : TyOf Tryz.prog 22 [.slc t6] := .slc Tryz.underlying22 AS (by kernel_rfl) (by decide)
theorem gv {d : D} (h : Fits (.int .i64) d) : ∃ n, d = .int .i64 n := by cases h; exact ⟨_, rfl⟩
theorem fq {α : Type} {es : List Ty} {g : α → List D} (hg : ∀ e, FitsL es e → ∃ a, e = g a) : ∀ {xs : List (List D)}, FitsA es xs → ∃ ys : List α, xs = ys.map g
 | _, .nil => ⟨[], rfl⟩
 | _, .cons h1 h2 => by
  obtain ⟨a, rfl⟩ := hg _ h1
  obtain ⟨ys, rfl⟩ := fq hg h2
  exact ⟨a :: ys, Z⟩
theorem mO {d : D} (h : Fits (.slc rq) d) : ∃ xs, d = gj xs := by
 cases h with
 | slc h =>
  obtain ⟨xs, rfl⟩ := fq (g := fun n => [D.int .i64 n]) (fun e he => by
   cases he with
   | cons h1 h2 =>
     cases h2
     obtain ⟨n, rfl⟩ := gv h1
     exact ⟨n, Z⟩) h
  exact ⟨xs, Z⟩
theorem rL {e : List D} (h : FitsL t6 e) : ∃ t : Tm, e = t.cells := by
 cases h with
 | cons h1 h2 =>
  cases h2 with
  | cons h2 h3 =>
   cases h3
   obtain ⟨n, rfl⟩ := gv h1
   obtain ⟨xs, rfl⟩ := mO h2
   exact ⟨⟨n, xs⟩, Z⟩
theorem iQ {d : D} (h : Fits (.slc t6) d) : ∃ ts, d = fH ts := by
 cases h with
 | slc h =>
  obtain ⟨xs, rfl⟩ := fq (g := Tm.cells) (fun e he => rL he) h
  exact ⟨xs, Z⟩
theorem ow {t : Ty} {e : List D} (h : FitsL [t] e) : ∃ d, e = [d] ∧ Fits t d := by
 cases h with
 | cons a h => cases h; exact ⟨_, rfl, a⟩
theorem rdl_rms {L : Nat} {w : World} {ok : Nat → Prop} {m : Nat → Go.Al.Loc} : ∀ {ds : List D} {vs : List Value} {F : List Nat}, RDL L w ok ds vs F → F = [] → RMs L w ok m (ds.map .d) vs
 | _, _, _, .nil, _ => .nil
 | _, _, _, .cons (F1 := F1) (F2 := F2) h1 h2, hF => by
  obtain ⟨rfl, rfl⟩ := List.append_eq_nil_iff.1 hF
  exact .cons (.d h1) (rdl_rms h2 Z)
section
variable {H : Type} {enc : TypeId × Value → H} {P : Program} {w w' : World}
theorem uC (hs : ∀ b, b < w.heap.size → Same w w' b) {p : MemPlace} (hp : p.block < w.heap.size) : w.sameAt w' p := by
 cases p with
 | cell b o => exact (hs b hp).cell
 | map b => exact hs b hp
theorem trodAll_same (hs : ∀ b, b < w.heap.size → Same w w' b) {base : Nat} {sp : Nat → Bool} {held : Bool} : ∀ {ts : List TypeId} {vs : List Value} {ds : List (DataW H)} {ps : List MemPlace}, (∀ p ∈ ps, p.block < w.heap.size) → DataW.TrodAll enc P w base sp held ts vs ds ps → DataW.TrodAll enc P w' base sp held ts vs ds ps
 | [], [], [], _, _, h => h
 | _ :: _, _ :: _, _ :: _, _, hl, ⟨p, q, ⟨n, h1⟩, h2, e⟩ =>
  ⟨p, q, ⟨n, DataW.trod_carry n _ _ _ h1 (fun x hx => uC hs (hl x (by rw [e]; exact List.mem_append_left _ hx)))⟩, trodAll_same hs (fun x hx => hl x (by rw [e]; exact List.mem_append_right _ hx)) h2, e⟩
theorem pS (hf : Go.Al.Frame w w' []) (may : MemPlace → Prop) : w.keptBut w' may := by
 refine ⟨hf.os, hf.output, fun i hi => ?_⟩
 have h := hf.block i hi (by simp)
 unfold Same at h
 rw [h]
 cases hx : w.heap[i]? with
 | none => trivial
 | some o =>
  cases o with
  | cells c t fr => exact ⟨Z, Z, Z, fun _ _ => rfl⟩
  | map es clock => exact .inr ⟨Z, Z⟩
  | _ => rfl
theorem pQ (hf : Go.Al.Frame w w' []) {a : Addr} (ha : a.block < w.heap.size) : w'.frozen? a = w.frozen? a := by
 have h := hf.block a.block ha (by simp)
 unfold Same at h
 unfold World.frozen?
 rw [h]
theorem post_of_old {f : Func} {s : ChangeSpec} {apart fresh handsOn again : Bool} {args : Array Value} {v : Value} {ds gs : List (DataW H)} {before pa pv : List MemPlace}
    (hW : DataW.Whole enc P f.params.toList s.vars apart w args.toList ds gs before)
    (hres : ∀ (b : Nat) (sp : Nat → Bool) (hd : Bool), DataW.TrodAll enc P w' b sp hd f.resultTypes.toList (v.resultList f.resultTypes.size) (s.fn H (ds ++ gs)).results [])
    (hargs : ∀ sp : Nat → Bool, (∀ p ∈ before, sp p.block = true) → DataW.TrodAll enc P w' 0 sp true f.params.toList args.toList (s.fn H (ds ++ gs)).args pa)
    (hvars : ∀ sp : Nat → Bool, (∀ p ∈ before, sp p.block = true) → DataW.TrodVars enc P w' sp s.vars (s.fn H (ds ++ gs)).vars pv)
    (hps : before = pa ++ pv) (hf : Go.Al.Frame w w' [])
    (hok : ∀ (j : Nat) (t : TypeId) (r : Value), f.resultTypes[j]? = some t → (v.resultList f.resultTypes.size)[j]? = some r → Value.okWide P w' .any 0 t r) :
    s.post enc P f apart fresh handsOn again w args v w' := by
 have hlt := hW.lt
 have hold : ∀ p ∈ before, (fun b => decide (b < w.heap.size)) p.block = true := fun p hp => by simpa using hlt p hp
 refine ⟨ds, gs, before, [], pa, pv, hW, hres _ _ _, hargs _ hold, hvars _ hold, World.keptBut_mono (fun p hp => ⟨hp, ?_⟩) (pS hf (· ∈ before)), fun _ => ?_⟩
 rw [hps, List.mem_append] at hp
 exact Or.inr hp
 obtain ⟨_, _, _, _, _, hz, hn⟩ := hW
 refine ⟨hok, _, _, ([] ++ pa) ++ pv, ⟨[] ++ pa, pv, trodAll_append (hargs _ (fun _ _ => rfl)) (hres _ _ _), hvars _ (fun _ _ => rfl), Z, ?_, ?_⟩, ?_⟩
 intro b off hp
 have hp' : MemPlace.cell b off ∈ before := by rw [hps]; simpa using hp
 rw [pQ hf (hlt _ hp')]
 exact hz b off hp'
 intro ha
 have := hn ha
 rw [hps] at this
 simpa using this
 intro p hp _
 rw [hps]
 simpa using hp
end

end Go.Proofs.YtikejfdfkemmmaaGreat
