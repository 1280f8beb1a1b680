/- Contracts of the program's functions for bW; the types of the arguments. -/
import Derived.Test.YtnnbiajhcolfiaaGreatE
import Derived.Test.YtnnbiajhcolfiaaGreatC
import Derived.Test.YtnnbiajhcolfiaaGreatRows
set_option linter.unusedVariables false
set_option linter.unusedSimpArgs false
set_option maxRecDepth 10000
set_option maxHeartbeats 4000000
open Go.Proofs
namespace Go.Al
variable {L : Nat} (h1 : 4096 ≤ L) (h2 : L ≤ 1073741824)
structure CS where
  all : List (List Tm)
  has : List Bool
  right : List Bool
  flaw : Int
structure CSok (p : List Nd) (k : Nat) (z : CS) : Prop where
  all : z.all.length = k
  has : z.has.length = k
  right : z.right.length = k
  flaw : -1 ≤ z.flaw ∧ z.flaw < k
  ctx : ∀ j, j < k → z.has.getD j default = true → CtxOk (z.all.getD j default)
  good : ∀ j, j < k → z.right.getD j default = true → z.has.getD j default = true ∧ sQ (p.getD j default) (z.all.getD j default) = true
structure Con where
  all : List (List Tm)
  has : List Bool
  flaw : Int
  ok : Bool
theorem g2 {a b : Bool} : (bif !a then true else !b) = !(a && b) := by cases a <;> cases b <;> rfl
theorem sk {α β : Type} [Inhabited α] {l : List α} {f : α → β} {n : Nat} (h : n < l.length) : (l.map f)[0 + n]? = some (f (l.getD n default)) := by rw [Nat.zero_add]; simp [h]
theorem AL {a b : Bool} (h : (bif a then b else false) = true) : a = true ∧ b = true := by cases a <;> cases b <;> simp_all
theorem zp {a b : Bool} (h : (bif a then b else false) = false) : ¬ (a = true ∧ b = true) := by cases a <;> cases b <;> simp_all
abbrev iP (ts : List Tm) (ms : List Int) : Tm := ⟨bS Tm.c ts ms, df (cj ts ms)⟩
abbrev se (t : Tm) : Tm := ⟨bS Tm.c [t] [-1] - 1, df (cj [t] [-1])⟩
variable {ts : List Tm}
theorem Aq {n : Int} : MQ h1 h2 94 [cW ts, eI n] [] (Plain (eB (gI ts n))) := by
 refine aY ?_ Z
 refine jB 21 h1 h2 Tryz.func94 Z Z Z fun O hF => ?_
 have hl : ts.length ≤ L := by simpa [As.fact, A.fact, M.fact, D.fact, Ds.fact] using hF.1.1
 refine ag (js O Z (jn (ah (ag (js O Z (eK O Z (j2 O Z Z (jf [10,4,0,1] Z (jn (ae O Z Z (fun hc10 => ?_) (fun hc10 => ?_)))))))))))
 try simp only [cf] at hc10
 refine ag (js O Z (jr ?_))
 refine ⟨.inl Z, _, av, _, Z, ?_⟩
 rw [gI, decide_eq_false (show ¬ (ts.length : Int) ≤ n by omega), Bool.and_false]
 try simp only [cf] at hc10
 refine ak (ah (ag (js O Z (eK O Z (js O Z (jn (aq (aH (X := Nat) (fun i => ⟨[(1, eI n), (11, cW ts), (12, eI ts.length), (13, eI i)], []⟩) (fun i => i ≤ ts.length ∧ ∀ j (h : j < ts.length), j < i → Tm.ok ts[j] = true) (fun i => ts.length - i) 0 (Ent.to ⟨Z, Z, Z, Z, trivial⟩ Z) ?_ (fun i hi => ?_)))))))))
 exact ⟨dF _, fun j h hj => absurd hj (Nat.not_lt_zero j)⟩
 refine ag (js O Z (jn (ah (ae O Z Z (fun hc14 => ?_) (fun hc14 => ?_)))))
 try simp only [cf] at hc14
 refine ak (ah (aq (ag (r6 O Z Z (js O Z (jf [16,14,1,11,12,13] Z (jl O Z (jo O Z (bn (js O Z (aB O Z Z Z Z (pu (t := ts.getD i default) h1 h2) (af Z) Z Z Z Z Z (B0 := 19000) Z (js O Z (jf [19,6,16,14,1,11,12,13] Z (jn (ae O Z Z (fun hc19 => ?_) (fun hc19 => ?_))))))))))))))))
 try simp only [cf] at hc19
 refine ag (js O Z (jr ?_))
 refine ⟨.inl Z, _, av, _, Z, ?_⟩
 rw [aM (by omega)] at hc19
 rw [gI, iu i (by omega) hc19, Bool.false_and]
 try simp only [cf] at hc19
 refine ak (an (ji O Z (js O Z (jn ?_))))
 refine ⟨i + 1, (am [] (e' := [(1, _), (11, _), (12, _), (13, _)]) Z Z ⟨Z, Z, Z, Z, trivial⟩ Z), ⟨by omega, fun j h hj => ?_⟩, by omega⟩
 by_cases e : j = i
 subst e; rw [aM h] at hc19; exact hc19
 exact hi.2 j h (by omega)
 try simp only [cf] at hc14
 refine bH (ag (js O Z (jr ?_)))
 refine ⟨.inl Z, _, av, _, Z, ?_⟩
 rw [gI, kb (fun j hj => hi.2 j hj (by omega)), decide_eq_true (show (ts.length : Int) ≤ n by omega), Bool.true_and]
variable {t : Tm}
theorem Ao : MQ h1 h2 179 [cT t] [] (Plain (cT ⟨t.c, df t.xs⟩)) := by
 refine MC.data (jB 26 h1 h2 Tryz.func179 Z Z Z fun O hF => ?_)
 have hl : t.xs.length ≤ L := by simpa [As.fact, A.fact, M.fact, Ms.fact, D.fact, Ds.fact] using hF.1.2.1.1
 refine ag (jx O Z (jf [1] Z (jl O Z (bn (j2 O Z Z (eK O Z (js O Z (jf [3,2,1] Z (jn (ah (aq (aH (X := Nat) (fun n => ⟨[(1, .c (.pt 1 0 0)), (2, .c (.pt 2 0 0)), (3, eI n)], [(1, .box [.d (.int .i64 t.c), .d (cG t.xs)]), (2, .box [.d (.int .i64 0), .d .nils])]⟩) (fun n => n ≤ t.xs.length ∧ df (t.xs.take n) = df t.xs) (fun n => n) t.xs.length (Ent.env ⟨Z, Z, Z, trivial⟩) ?_ (fun n hi => ?_)))))))))))))
 exact ⟨cN _, by rw [List.take_length]⟩
 refine ah (ag (j3 O Z Z Z (jf [9,1,2,3] Z (aw 7 Z Z Z (fun hx => ab hx Z Z Z (V O Z) Z Z ( ab hx Z Z Z (V O Z) Z Z ( ab hx Z Z Z (V O Z) Z Z ( ab hx Z Z Z (vF O Z) Z Z ( ab hx Z Z Z (vD O Z) Z Z ( ab hx Z Z Z (V O Z) Z Z ( ab hx Z Z Z (V O Z) Z Z ( AN.nil)))))))) Z Z (aa (ar O Z Z Z Z Z) Z Z Z (jf [17,1,2,3] Z (jn (ae O Z Z (fun hc17 => ?_) (fun hc17 => ?_)))))))))
 refine ak (aq (an (js O Z (ji O Z (js O Z (jf [3,17,1,2] Z (jn ?_)))))))
 rw [Bool.cond_false_right, bM, decide_eq_true_eq, decide_eq_true_eq] at hc17
 obtain ⟨k, hk⟩ : ∃ k, n = k + 1 := ⟨n - 1, by omega⟩
 subst hk
 have hk2 : ((k + 1 : Nat) : Int) - 1 = k := by omega
 rw [hk2] at hc17
 refine ⟨k, Ent.to ⟨Z, Z, by rw [hk2]; rfl, trivial⟩ Z, ⟨by omega, ?_⟩, Nat.lt_succ_self k⟩
 rw [← hi.2, mC (by omega) (by simpa using hc17.2)]
 refine bH (ag (j3 O Z Z Z ?_))
 have hd : df (t.xs.take n) = t.xs.take n := mE hi.1 (by
  rw [Bool.cond_false_right] at hc17
  rcases Nat.eq_zero_or_pos n with h0 | h0
  ·
   exact .inl h0
  ·
   refine .inr (fun h9 => ?_)
   have e1 : ((n : Int) - 1).toNat = n - 1 := by omega
   rw [e1, h9] at hc17; simp at hc17; omega)
 have ht := hi.2
 rw [hd] at ht
 refine aa ((eX O Z Z ⟨by omega, by simp; omega⟩).cast (v' := cz (df t.xs)) (by rw [← ht]; simp [List.map_take])) Z Z Z (js O Z (jf [24,23,17,1,2,3] Z (jo O Z (jf [17,1,2,3] Z (bn (js O Z (jo O Z (jr ?_))))))))
 refine ⟨.inl Z, _, av, _, Z, ?_⟩
 exact .v (.agg (aC Z))
theorem lO {f : Tm → Int} : ∀ {ts : List Tm} {ms : List Int}, ts.length ≤ ms.length → bS f (ts.take ts.length) (ms.take ts.length) = bS f ts ms
 | [], ms, _ => by cases ms <;> simp [bS]
 | t :: ts, [], h => by simp at h
 | t :: ts, m :: ms, h => by
  have := lO (f := f) (ts := ts) (ms := ms) (by simpa using h)
  simp only [iX, List.take_succ_cons, bS] at this ⊢
  rw [this]
theorem rD {ts : List Tm} {ms : List Int} (h : ts.length ≤ ms.length) : cj (ts.take ts.length) (ms.take ts.length) = cj ts ms := by
 unfold cj
 apply List.map_congr_left
 intro k _
 exact lO h
theorem vU {ms : List Int} (hc : CtxOk ts) (hm : ms.all num = true) (hle : ts.length ≤ ms.length) : MQ h1 h2 157 [cW ts, cz ms] [] (Plain (cT (iP ts ms))) := by
 refine MC.data (jB 55 h1 h2 Tryz.func157 Z Z Z fun O hF => ?_)
 have hl : ms.length ≤ L := by simpa [As.fact, A.fact, M.fact, D.fact, Ds.fact] using hF.2.1.1
 have hlc := hc.len
 refine ag (jl O Z (bn (AOps.heap (ep O Z Z Z Z Z Z Z Z Z (by first | omega | (simp at *; omega)) (by first | omega | (simp at *; omega)) (by first | omega | (simp at *; omega)) (by first | omega | (dsimp only; omega) | (simp only [cf] at *; omega)) (by first | omega | (simp at *; omega)) Z Z Z) Z (js O Z (jf [11,4,0,1] Z (jl O Z (jo O Z (jn (ah (ag (js O Z (eK O Z (js O Z (jn (aq (aH (X := Nat) (fun i => ⟨[(1, cz ms), (4, .c (.pt 4 0 0)), (5, .c (.pt 5 0 0)), (12, cW ts), (13, eI ts.length), (14, eI i)], [(4, .box [.d (.int .i64 0), .d .nils]), (5, .box [.d (.int .i64 (bS Tm.c (ts.take i) (ms.take i))), .rs 10 0 10]), (10, aA (cj (ts.take i) (ms.take i)))]⟩) (fun i => i ≤ ts.length) (fun i => ts.length - i) 0 (Ent.to ⟨Z, Z, Z, Z, Z, Z, trivial⟩ Z) ?_ (fun i hi => ?_)))))))))))))))))
 exact dF _
 refine ag (js O Z (jn (ah (ae O Z Z (fun hc15 => ?_) (fun hc15 => ?_)))))
 try simp only [cf] at hc15
 refine ak (ah (aq (ag (js O Z (r6 O Z Z (js O Z (jf [18,16,15,1,4,5,12,13,14] Z (jl O Z (js O Z (jf [6,7,18,15,1,4,5,12,13,14] Z (jo O Z (jn (ah ?_)))))))))))))
 have hi0 := hi
 have hts := Small.of (hc.get (show i < ts.length by omega))
 have hd1 := jE (f := Tm.c) (ts := ts) (ms := ms) (fun t ht => (Small.of (hc.ok t ht)).c) hm hi (by omega)
 have hd2 := gf (f := Tm.c) (ts := ts) (ms := ms) (i := i) (by omega) (by omega)
 have hmi : num (ms.getD i default) = true := by rw [aM (by omega)]; exact List.all_eq_true.1 hm _ (List.getElem_mem _)
 have hmu := eV hmi hts.c
 refine fc O [_,_,_,_,_,_,_,_,_,_,_,_] [pn [] 0 0, pn [0] 0 0, pn [] 0 0, pn [] 0 0, pn [2,3] 0 0, pn [2,3,4] 0 0, pn [] 0 0, pn [6] 0 0, pn (rg 2 6) 0 0, pn (rg 0 9) 0 0, pn (rg 0 10) 0 0, pe (rg 0 11) 0] [11] [_,_] (kc O Z (kc O Z (kc O Z (kc O Z (ai (vN O Z) (kc O Z (kc O Z (kc O Z (ai (vF O Z) (ai (vF O Z) (kc O Z (ai (eS O Z Z Z) trivial)))))))))))) ?_
 refine jw [6,7,18,15,1,4,5,12,13,14] Z (bK ?_)
 refine ag (j2 O Z Z (eK O Z (js O Z (jn (aq (aH (X := Nat) (fun j => ⟨[(1, cz ms), (4, .c (.pt 4 0 0)), (5, .c (.pt 5 0 0)), (12, cW ts), (13, eI ts.length), (14, eI i), (6, eI i), (31, cz (ts.getD i default).xs), (32, eI (ts.getD i default).xs.length), (33, eI j)], [(4, .box [.d (.int .i64 0), .d .nils]), (5, .box [.d (.int .i64 (bS Tm.c (ts.take i) (ms.take i) + ms.getD i default * (ts.getD i default).c)), .rs 10 0 10]), (10, aA (eM ts ms i j))]⟩) (fun j => j ≤ (ts.getD i default).xs.length) (fun j => (ts.getD i default).xs.length - j) 0 (((am [4,5,10] (e' := [(1, _), (4, _), (5, _), (12, _), (13, _), (14, _), (6, _), (31, _), (32, _), (33, _)]) Z Z ⟨Z, Z, Z, Z, Z, Z, Z, Z, Z, Z, trivial⟩ Z)).trans (Ent.to ⟨Z, Z, Z, Z, Z, Z, Z, Z, Z, Z, trivial⟩ (by rw [mI]; rfl))) ?_ (fun j hi => ?_)))))))
 exact dF _
 refine ag (js O Z (jn (ah (ae O Z Z (fun hc34 => ?_) (fun hc34 => ?_)))))
 try simp only [cf] at hc34
 refine ak (ah (aq (ag (js O Z (r6 O Z Z (j3 O Z Z Z (jf [9,8,34,1,4,5,12,13,14,6,31,32,33] Z (jn ?_))))))))
 have hjl : j < 10 := by have := pE (hc.get (show i < ts.length by omega)); omega
 have hpj := lG (ts := ts) (ms := ms) (i := i) hjl
 have hps := mJ (ts := ts) (ms := ms) (i := i) hjl
 have hpl := dL (ts := ts) (ms := ms) (i := i) (j := j)
 have hd3 := jE (f := m8 j) (ts := ts) (ms := ms) (fun t ht => (Small.of (hc.ok t ht)).get j) hm hi0 (by omega)
 have hmx := eV hmi (hts.get j)
 rw [show (ts.getD i default).xs.getD j 0 = (ts.getD i default).xs.getD j default from Z] at hmx
 refine fc O [_,_,_,_,_,_,_,_,_,_,_,_,_,_] [pn [] 0 0, pn [0] 0 0, pn [] 0 0, pn [0,1,2] 0 0, pn (rg 0 4) 0 0, pn [] 0 0, pn [] 0 0, pn [5,6] 0 0, pn [5,6,7] 0 0, pn [] 0 0, pn (rg 5 5) 0 0, pn (rg 0 11) 0 0, pn (rg 0 12) 0 0, pe (rg 0 13) 0] [13] [_,_] (kc O Z (kc O Z (kc O Z (ai (vI O Z Z) (ai (eJ O (ex := [.int .i64 ((eM ts ms i j).getD j default)]) Z Z Z Z (sk (by omega)) Z) (kc O Z (kc O Z (ai (vN O Z) (kc O Z (kc O Z (ai (vF O Z) (ai (vF O Z) (ai (vI O Z Z) (ai (cu (ex := [.int .i64 ((eM ts ms i j).getD j default)]) (xs' := (eM ts ms i (j + 1)).map (fun n => [D.int .i64 n])) O Z Z Z Z Z Z Z Z Z Z Z Z Z Z Z (sk (by omega)) (by rw [← hps, List.map_set]; simp only [Int.toNat_natCast, Nat.zero_add]; rfl) Z) trivial)))))))))))))) ?_
 refine jw [34,1,4,5,12,13,14,6,31,32,33] Z (bK ?_)
 refine an (ji O Z (js O Z (jn ?_)))
 refine ⟨j + 1, Ent.to ⟨Z, Z, Z, Z, Z, Z, Z, Z, Z, Z, trivial⟩ Z, by omega, by omega⟩
 try simp only [cf] at hc34
 refine bH (an (ji O Z (js O Z (jn ?_))))
 refine ⟨i + 1, ((am [4,5,10] (e' := [(1, _), (4, _), (5, _), (12, _), (13, _), (14, _)]) Z Z ⟨Z, Z, Z, Z, Z, Z, trivial⟩ Z)).trans (Ent.to ⟨Z, Z, Z, Z, Z, Z, trivial⟩ ?_), by omega, by omega⟩
 rw [hd2, ← oA (j := j) (by omega) (by omega) (by omega)]; rfl
 try simp only [cf] at hc15
 refine bH (ag ?_)
 obtain rfl : i = ts.length := by omega
 have hcl := jU (ts := ts.take ts.length) (ms := ms.take ts.length)
 refine au (Ent.freeze 10 (e' := [(5, _), (4, _)]) Z (fe [5,4] Z) (.cons Z (.box (fk Z)) (.cons Z (.box (.cons (.keep Z) (.cons (.row Z (by rw [cw, hcl])) .nil))) (.skip .nil)))) ?_
 refine js O Z (ay O Z Z Z Z (Ao (t := ⟨bS Tm.c (ts.take ts.length) (ms.take ts.length), cj (ts.take ts.length) (ms.take ts.length)⟩) h1 h2) (af Z) Z Z Z Z (B0 := 55000) Z Z (jf [54,5,4] Z (jo O Z (jr ?_))))
 refine ⟨.inl Z, _, av, _, Z, ?_⟩
 have e1 : bS Tm.c (ts.take ts.length) (ms.take ts.length) = bS Tm.c ts ms := lO hle
 have e2 : cj (ts.take ts.length) (ms.take ts.length) = cj ts ms := rD hle
 rw [e1, e2]
 exact .v (.agg (aC Z))
theorem Ak {t : Tm} (h : t.ok = true) : CtxOk [t] := ⟨fun u hu => by simp at hu; subst hu; exact h, by simp⟩
theorem Aj {t : Tm} (h : Small t) : -1000000 ≤ bS Tm.c [t] [-1] ∧ bS Tm.c [t] [-1] ≤ 1000000 := by
 have := zy.1 h.c
 show -1000000 ≤ -1 * t.c + 0 ∧ -1 * t.c + 0 ≤ 1000000
 omega
theorem Aw (ht : t.ok = true) : MQ h1 h2 138 [cT t] [] (Plain (cT (se t))) := by
 refine MC.data (jB 13 h1 h2 Tryz.func138 Z Z Z fun O hF => ?_)
 have hd1 := Aj (Small.of ht)
 refine ag (jx O Z (jf [1] Z (jl O Z (bn (js O Z (jf [4,2] Z (AOps.heap (bA O Z Z Z Z Z Z Z Z Z Z Z) Z (jf [5,2] Z (AOps.heap (bB O Z Z Z) Z (au (Ent.freeze 5 (e' := [(6, _), (5, _), (2, _)]) Z (.cons Z (.keep Z) (.cons Z (.c (.row Z Z)) (fe [2] Z))) (.cons Z (.box (fk Z)) (.cons Z (.box (fk Z)) (.skip (.cons Z .row .nil))))) ?_))))))))))
 refine au (Ent.freeze 6 (e' := [(6, _), (5, _), (2, _)]) Z (.cons Z (.c (.row Z Z)) (fe [5,2] Z)) (.cons Z (.box (fk Z)) (.cons Z (.box (fk Z)) (.skip .nil)))) ?_
 refine ay O Z Z Z Z (vU (ts := [t]) (ms := [-1]) h1 h2 (Ak ht) (by decide) (cN 1)) (af Z) Z Z Z Z (B0 := 8000) Z Z (jf [7,2] Z (jl O Z (jo O Z (bn (j2 O Z Z (ji O Z (js O Z (jf [11,10,3,7,2] Z (jo O Z (jf [3,7,2] Z (bn (js O Z (jo O Z (jr ?_))))))))))))))
 refine ⟨.inl Z, _, av, _, Z, ?_⟩
 exact .v (.agg (aC Z))
theorem AD {n : Int} : MQ h1 h2 109 [eI n] [] (Plain (eI n)) := by
 refine aY ?_ Z
 refine jB 4 h1 h2 Tryz.func109 Z Z Z fun O hF => ?_
 refine ag (js O Z (bn (j2 O Z Z (jr ?_))))
 refine ⟨.inl Z, _, av, _, Z, ?_⟩
 first | rfl | skip
theorem Ap {c : Tm} {r : List Tm} (hl : (c :: r).length ≤ 1000) : MQ h1 h2 110 [cW (c :: r)] [] (Rows (.c (.rs 0 0 (c :: r).length)) [aE (c :: r)]) := by
 refine db (jB 8 h1 h2 Tryz.func110 Z Z Z fun O hF => ?_)
 refine ag (js O Z (jn (ah (ag (j2 O Z Z (jn (ae O Z Z (fun hc4 => ?_) (fun hc4 => ?_))))))))
 exact absurd (show false = true from hc4) (by decide)
 refine ak (ag (AOps.heap (bB O Z Z Z) Z (js O Z (jf [6,5,3,2,0] Z (au (cy 5 Z) (AOps.heap (bk (own := false) (zs := (c :: r).map Tm.cells) (n := (c :: r).length) O Z Z Z Z Z Z Z Z Z Z Z Z Z Z Z Z (.row Z Z) (.slc (.inl Z)) (by simp) Z (by simp at hl ⊢; omega) (by simp at hl ⊢; omega) Z (by simp)) Z (js O Z (jf [2,3,0] Z (jr ?_)))))))))
 refine ⟨.inl Z, _, av, _, Z, [7], by decide, Z, Z, Z⟩
theorem qF : MQ h1 h2 140 [cT t] [] (Rows (.agg [.d (.int .i64 t.c), .rs 0 0 t.xs.length]) [aA t.xs]) := by
 refine db (jB 9 h1 h2 Tryz.func140 Z Z Z fun O hF => ?_)
 refine ag (jx O Z (jl O Z (jn (ah (fc O [_,_,_,_,_,_,_] [pn [] 0 1, pn [0] 0 1, pn [] 0 0, pn [2] 0 0, pe [2,3] 0, pn (rg 0 5) 1 1, pe (rg 0 6) 1] [4,6] [_,_,_] (ai (kc O Z (V O Z)) (ai (kc O Z (V O Z)) (kc O Z (kc O Z (ai (cR O (B0 := 8000) Z Z Z Z (sq (xs := t.xs) h1 h2) (af Z) Z Z Z Z Z) (kc O Z (ai (eS O Z Z Z) trivial))))))) ?_)))))
 refine ff ?_
 refine ⟨.inl Z, _, av, _, Z, [8000], by decide, Z, Z, Z⟩
theorem tD {t : Tm} : iK t (-1) ⟨1, []⟩ (-1) = cj [t] [-1] := by
 unfold iK cj
 apply List.map_congr_left
 intro k _
 show -1 * t.xs.getD k 0 + -1 * 0 = -1 * t.xs.getD k 0 + 0
 omega
theorem wk {t : Tm} : bu t = if (se t).ok = true then (se t, true) else (⟨0, []⟩, false) := by
 unfold bu rd me
 rw [tD]
 have : (-1 * t.c + -1 * (⟨1, []⟩ : Tm).c) = bS Tm.c [t] [-1] - 1 := by
  show -1 * t.c + -1 * 1 = -1 * t.c + 0 - 1
  omega
 rw [this]
inductive Pf where
  | close (n : Nd)
  | tight (n : Nd) (a : Pf)
  | split (n : Nd) (a b : Pf)
structure Ex where
  es : List (Int × List Tm)
  flaw : Int
def fl (b : Nat → Bool) : Nat → Nat → Int → Int
  | _, 0, f => f
  | k, n + 1, f => fl b (k + 1) n (if b k = true ∧ f < 0 then (k : Int) else f)
structure Eqs (p : List Nd) (c0 : List Tm) (H : Nat → Bool) (A : Nat → List Tm) (R : Nat → Bool) : Prop where
  h0 : 0 < p.length → H 0 = true ∧ A 0 = c0
  h : ∀ j, 0 < j → j < p.length → H j = R (xG p j j).1.toNat
  a : ∀ j, 0 < j → j < p.length → H j = true → A j = xn (p.getD (xG p j j).1.toNat default) (A (xG p j j).1.toNat) (xG p j j).2
  r : ∀ j, j < p.length → R j = (H j && sQ (p.getD j default) (A j))
theorem uh : MQ h1 h2 139 [cW ts] [] (Rows (.c (.rs 0 0 ts.length)) [xP ts]) := by
 refine db (jB 19 h1 h2 Tryz.func139 Z Z Z fun O hF => ?_)
 have hl : ts.length ≤ L := by simpa [As.fact, A.fact, M.fact, D.fact, Ds.fact] using hF.1.1
 refine ag (js O Z (bn (js O Z (jn (ah (ag (js O Z (eK O Z (js O Z (jn (aq (aH (X := Nat) (fun i => ⟨[(3, .c (.rs 900 0 i)), (6, cW ts), (7, eI ts.length), (8, eI i)], [(900, xP (ts.take i))]⟩) (fun i => i ≤ ts.length) (fun i => ts.length - i) 0 ((fU 3 900 2 true Z Z).trans (Ent.to ⟨Z, Z, Z, Z, trivial⟩ Z)) ?_ (fun i hi => ?_)))))))))))))
 exact dF _
 refine ag (js O Z (jn (ah (ae O Z Z (fun hc9 => ?_) (fun hc9 => ?_)))))
 try simp only [cf] at hc9
 refine ak (ah (aq (ag (r6 O Z Z (js O Z (jf [11,9,3,6,7,8] Z (jl O Z (ap ?_))))))))
 refine jo O Z (ap ?_)
 refine jn (an (j2 O Z Z (c7 O (B0 := 15000) Z Z Z Z (qF (t := ts.getD i default) h1 h2) (af Z) Z Z Z Z Z Z (ap ?_))))
 refine jf [14,12,5,11,9,3,6,7,8] Z (AOps.heap (mW (ds := Tm.cells (ts.getD i default)) O Z Z Z Z Z Z Z Z Z Z (.d Z (.rs Z (cw _).symm .nil)) Z Z Z) Z (ap ?_))
 refine ap ?_
 refine jf [15,12,5,11,9,3,6,7,8] Z (AOps.heap (cZ (zs := (ts.take (i + 1)).map Tm.cells) (n := i + 1) O Z Z Z Z Z Z Z Z Z Z Z Z Z Z Z Z (.row Z (by simp; omega)) Z Z (by decide) Z (by simp; omega) (by simp; omega) (by rw [List.take_succ_eq_append_getElem (by omega), List.map_append, aM (by omega)]; rfl) (by simp; omega)) Z (ap ?_))
 refine ap ?_
 refine js O Z (jf [3,5,11,9,6,7,8] Z (jn (an (ji O Z (js O Z (jn ?_))))))
 refine ⟨i + 1, ((am [16] (e' := [(3, _), (6, _), (7, _), (8, _)]) Z Z ⟨Z, Z, Z, Z, trivial⟩ Z).trans (ac 16 900 Z Z)), by omega, by omega⟩
 try simp only [cf] at hc9
 refine bH (ag (j2 O Z Z (jr ?_)))
 obtain rfl : i = ts.length := by omega
 rw [List.take_length]
 refine ⟨.inl Z, _, av, _, Z, [900], by decide, Z, Z, Z⟩
end Go.Al
/- What the laws of the certificates share: the types of their arguments; what came in reads as it did. -/
namespace Go.Proofs.YtnnbiajhcolfiaaGreat
open Go.ChangeShapes Go.WideShapes Go.ChangeAt Go.RowKit Go.Al

theorem ownK : ownKnob Tryz.prog.godebug = none := by kernel_rfl
theorem kidsK : Kids Tryz.prog (· < Tryz.prog.types.size) := kids_rows (by kernel_rfl) (by kernel_rfl)
theorem fullK : ∀ t e, t < Tryz.prog.types.size → Tryz.prog.underlying t = some (.slice e) → 0 < Tryz.prog.cellsOf e := slices_full_of Tryz.prog (by kernel_rfl)

theorem fits_all {α : Type} {es : List Ty} {g : α → List D} (hg : ∀ e, FitsL es e → ∃ a, e = g a) : ∀ {xs : List (List D)}, FitsA es xs → ∃ ys : List α, xs = ys.map g
 | _, .nil => ⟨[], rfl⟩
 | _, .cons h1 h2 => by
  obtain ⟨a, rfl⟩ := hg _ h1
  obtain ⟨ys, rfl⟩ := fits_all hg h2
  exact ⟨a :: ys, Z⟩
theorem fits_one {t : Ty} {e : List D} (h : FitsL [t] e) : ∃ d, e = [d] ∧ Fits t d := by
 cases h with
 | cons a h => cases h; exact ⟨_, rfl, a⟩
theorem rdl_rms {L : Nat} {w : World} {ok : Nat → Prop} {m : Nat → Go.Al.Loc} : ∀ {ds : List D} {vs : List Value} {F : List Nat}, RDL L w ok ds vs F → F = [] → RMs L w ok m (ds.map .d) vs
 | _, _, _, .nil, _ => .nil
 | _, _, _, .cons (F1 := F1) (F2 := F2) h1 h2, hF => by
  obtain ⟨rfl, rfl⟩ := List.append_eq_nil_iff.1 hF
  exact .cons (.d h1) (rdl_rms h2 Z)
section
variable {H : Type} {enc : TypeId × Value → H} {P : Program} {w w' : World}
theorem uy (hs : ∀ b, b < w.heap.size → Same w w' b) {p : MemPlace} (hp : p.block < w.heap.size) : w.sameAt w' p := by
 cases p with
 | cell b o => exact (hs b hp).cell
 | map b => exact hs b hp
theorem trodAll_same (hs : ∀ b, b < w.heap.size → Same w w' b) {base : Nat} {sp : Nat → Bool} {held : Bool} : ∀ {ts : List TypeId} {vs : List Value} {ds : List (DataW H)} {ps : List MemPlace}, (∀ p ∈ ps, p.block < w.heap.size) → DataW.TrodAll enc P w base sp held ts vs ds ps → DataW.TrodAll enc P w' base sp held ts vs ds ps
 | [], [], [], _, _, h => h
 | _ :: _, _ :: _, _ :: _, _, hl, ⟨p, q, ⟨n, h1⟩, h2, e⟩ =>
  ⟨p, q, ⟨n, DataW.trod_carry n _ _ _ h1 (fun x hx => uy hs (hl x (by rw [e]; exact List.mem_append_left _ hx)))⟩, trodAll_same hs (fun x hx => hl x (by rw [e]; exact List.mem_append_right _ hx)) h2, e⟩
theorem pZ (hf : Go.Al.Frame w w' []) (may : MemPlace → Prop) : w.keptBut w' may := by
 refine ⟨hf.os, hf.output, fun i hi => ?_⟩
 have h := hf.block i hi (by simp)
 unfold Same at h
 rw [h]
 cases hx : w.heap[i]? with
 | none => trivial
 | some o =>
  cases o with
  | cells c t fr => exact ⟨Z, Z, Z, fun _ _ => rfl⟩
  | map es clock => exact .inr ⟨Z, Z⟩
  | _ => rfl
theorem pY (hf : Go.Al.Frame w w' []) {a : Addr} (ha : a.block < w.heap.size) : w'.frozen? a = w.frozen? a := by
 have h := hf.block a.block ha (by simp)
 unfold Same at h
 unfold World.frozen?
 rw [h]
theorem post_of_old {f : Func} {s : ChangeSpec} {apart fresh handsOn again : Bool} {args : Array Value} {v : Value} {ds gs : List (DataW H)} {before pa pv : List MemPlace}
    (hW : DataW.Whole enc P f.params.toList s.vars apart w args.toList ds gs before)
    (hres : ∀ (b : Nat) (sp : Nat → Bool) (hd : Bool), DataW.TrodAll enc P w' b sp hd f.resultTypes.toList (v.resultList f.resultTypes.size) (s.fn H (ds ++ gs)).results [])
    (hargs : ∀ sp : Nat → Bool, (∀ p ∈ before, sp p.block = true) → DataW.TrodAll enc P w' 0 sp true f.params.toList args.toList (s.fn H (ds ++ gs)).args pa)
    (hvars : ∀ sp : Nat → Bool, (∀ p ∈ before, sp p.block = true) → DataW.TrodVars enc P w' sp s.vars (s.fn H (ds ++ gs)).vars pv)
    (hps : before = pa ++ pv) (hf : Go.Al.Frame w w' [])
    (hok : ∀ (j : Nat) (t : TypeId) (r : Value), f.resultTypes[j]? = some t → (v.resultList f.resultTypes.size)[j]? = some r → Value.okWide P w' .any 0 t r) :
    s.post enc P f apart fresh handsOn again w args v w' := by
 have hlt := hW.lt
 have hold : ∀ p ∈ before, (fun b => decide (b < w.heap.size)) p.block = true := fun p hp => by simpa using hlt p hp
 refine ⟨ds, gs, before, [], pa, pv, hW, hres _ _ _, hargs _ hold, hvars _ hold, World.keptBut_mono (fun p hp => ⟨hp, ?_⟩) (pZ hf (· ∈ before)), fun _ => ?_⟩
 rw [hps, List.mem_append] at hp
 exact Or.inr hp
 obtain ⟨_, _, _, _, _, hz, hn⟩ := hW
 refine ⟨hok, _, _, ([] ++ pa) ++ pv, ⟨[] ++ pa, pv, trodAll_append (hargs _ (fun _ _ => rfl)) (hres _ _ _), hvars _ (fun _ _ => rfl), Z, ?_, ?_⟩, ?_⟩
 intro b off hp
 have hp' : MemPlace.cell b off ∈ before := by rw [hps]; simpa using hp
 rw [pY hf (hlt _ hp')]
 exact hz b off hp'
 intro ha
 have := hn ha
 rw [hps] at this
 simpa using this
 intro p hp _
 rw [hps]
 simpa using hp
end

end Go.Proofs.YtnnbiajhcolfiaaGreat
