/- Contracts of the program's functions for bW; the types of the arguments. -/
import Derived.Test.YtikejfdfkemmmaaGreatE
import Derived.Test.YtikejfdfkemmmaaGreatC
import Derived.Test.YtikejfdfkemmmaaGreatRows
set_option linter.unusedVariables false
set_option linter.unusedSimpArgs false
set_option maxRecDepth 10000
set_option maxHeartbeats 4000000
open Go.Proofs
namespace Go.Al
variable {L : Nat} (h1 : 4096 ≤ L) (h2 : L ≤ 1073741824)
structure CS where
  all : List (List Tm)
  has : List Bool
  right : List Bool
  flaw : Int
structure CSok (p : List Nd) (k : Nat) (z : CS) : Prop where
  all : z.all.length = k
  has : z.has.length = k
  right : z.right.length = k
  flaw : -1 ≤ z.flaw ∧ z.flaw < k
  ctx : ∀ j, j < k → z.has.getD j default = true → CtxOk (z.all.getD j default)
  good : ∀ j, j < k → z.right.getD j default = true → z.has.getD j default = true ∧ rn (p.getD j default) (z.all.getD j default) = true
abbrev bL (b : Bool) : List D := [.bool b]
structure Con where
  all : List (List Tm)
  has : List Bool
  flaw : Int
  ok : Bool
theorem g2 {a b : Bool} : (bif !a then true else !b) = !(a && b) := by cases a <;> cases b <;> rfl
def sH (f : Int → Bool) (ms : List Int) (n : Nat) (bs : List Bool) : Nat → List Bool
  | 0 => bs
  | j + 1 => if (f (ms.getD j default) && decide (j < n)) = true then (sH f ms n bs j).set j true else sH f ms n bs j
theorem ng {f ms n bs} : ∀ {j : Nat}, (sH f ms n bs j).length = bs.length
 | 0 => rfl
 | j + 1 => by unfold sH; split <;> simp [ng]
abbrev dE (bs : List Bool) : B := .row true 1 (bs.map bL)
def du (bs : List Bool) : Nat → List Int
  | 0 => []
  | i + 1 => if bs.getD i default = true then du bs i ++ [(i : Int)] else du bs i
theorem ga {bs : List Bool} : ∀ {i : Nat}, (du bs i).length ≤ i
 | 0 => bH _
 | i + 1 => by have := ga (bs := bs) (i := i); unfold du; split <;> simp <;> omega
theorem sI {α β : Type} [Inhabited α] {l : List α} {f : α → β} {n : Nat} (h : n < l.length) : (l.map f)[0 + n]? = some (f (l.getD n default)) := by rw [Nat.zero_add]; simp [h]
abbrev ea (ts : List Tm) (ms : List Int) : Tm := ⟨b9 Tm.c ts ms, dC (bR ts ms)⟩
abbrev qG (t : Tm) : Tm := ⟨b9 Tm.c [t] [-1] - 1, dC (bR [t] [-1])⟩
variable {ts : List Tm}
theorem wl {n : Int} : MQ h1 h2 129 [cm ts, eI n] [] (Plain (eB (ee ts n))) := by
 refine aB ?_ Z
 refine jB 21 h1 h2 Tryz.func129 Z Z Z fun O hF => ?_
 have hl : ts.length ≤ L := by simpa [As.fact, A.fact, M.fact, D.fact, Ds.fact] using hF.1.1
 refine ae (js O Z (jn (ag (ae (js O Z (bw O Z (j2 O Z Z (jf [10,4,0,1] Z (jn (ab O Z Z (fun hc10 => ?_) (fun hc10 => ?_)))))))))))
 try simp only [aJ] at hc10
 refine ae (js O Z (jr ?_))
 refine ⟨.inl Z, _, aj, _, Z, ?_⟩
 rw [ee, decide_eq_false (show ¬ (ts.length : Int) ≤ n by omega), Bool.and_false]
 try simp only [aJ] at hc10
 refine ah (ag (ae (js O Z (bw O Z (js O Z (jn (am (au (X := Nat) (fun i => ⟨[(1, eI n), (11, cm ts), (12, eI ts.length), (13, eI i)], []⟩) (fun i => i ≤ ts.length ∧ ∀ j (h : j < ts.length), j < i → Tm.ok ts[j] = true) (fun i => ts.length - i) 0 (Ent.to ⟨Z, Z, Z, Z, trivial⟩ Z) ?_ (fun i hi => ?_)))))))))
 exact ⟨cC _, fun j h hj => absurd hj (Nat.not_lt_zero j)⟩
 refine ae (js O Z (jn (ag (ab O Z Z (fun hc14 => ?_) (fun hc14 => ?_)))))
 try simp only [aJ] at hc14
 refine ah (ag (am (ae (nu O Z Z (js O Z (jf [16,14,1,11,12,13] Z (jl O Z (jo O Z (aN (js O Z (ac O Z Z Z Z (j9 (t := ts.getD i default) h1 h2) (aa Z) Z Z Z Z Z (B0 := 19000) Z (js O Z (jf [19,6,16,14,1,11,12,13] Z (jn (ab O Z Z (fun hc19 => ?_) (fun hc19 => ?_))))))))))))))))
 try simp only [aJ] at hc19
 refine ae (js O Z (jr ?_))
 refine ⟨.inl Z, _, aj, _, Z, ?_⟩
 rw [aw (by omega)] at hc19
 rw [ee, eQ i (by omega) hc19, Bool.false_and]
 try simp only [aJ] at hc19
 refine ah (ak (ji O Z (js O Z (jn ?_))))
 refine ⟨i + 1, (av [] (e' := [(1, _), (11, _), (12, _), (13, _)]) Z Z ⟨Z, Z, Z, Z, trivial⟩ Z), ⟨by omega, fun j h hj => ?_⟩, by omega⟩
 by_cases e : j = i
 subst e; rw [aw h] at hc19; exact hc19
 exact hi.2 j h (by omega)
 try simp only [aJ] at hc14
 refine aU (ae (js O Z (jr ?_)))
 refine ⟨.inl Z, _, aj, _, Z, ?_⟩
 rw [ee, fB (fun j hj => hi.2 j hj (by omega)), decide_eq_true (show (ts.length : Int) ≤ n by omega), Bool.true_and]
theorem wr {s : Sq} : MQ h1 h2 92 [x6 s] [] (Plain (eB (k8 s))) := by
 refine aB ?_ Z
 refine jB 11 h1 h2 Tryz.func92 Z Z Z fun O hF => ?_
 refine ae (jx O Z (js O Z (aN (j2 O Z Z (jf [4,2,1,0] Z (ac O Z Z Z Z (wl h1 h2) (aa Z) Z Z Z Z Z (B0 := 6000) Z (js O Z (jf [6,2,1,0] Z (aR 3 Z Z Z (fun hx => AN.step hx Z Z Z (V O Z) Z Z ( AN.step hx Z Z Z (V O Z) Z Z ( db O hx Z Z Z Z (j9 h1 h2) (aa Z) Z Z Z Z Z Z Z (B0 := 10000) Z ( AN.nil)))) Z Z (AOps.step (aK O Z Z Z Z Z) Z Z Z (js O Z (jf [2,0] Z (jr ?_)))))))))))))
 refine ⟨.inl Z, _, aj, _, Z, ?_⟩
 rw [Bool.cond_false_right]; rfl
variable {t : Tm}
theorem yN : MQ h1 h2 185 [cM t] [] (Plain (cM ⟨t.c, dC t.xs⟩)) := by
 refine MC.data (jB 26 h1 h2 Tryz.func185 Z Z Z fun O hF => ?_)
 have hl : t.xs.length ≤ L := by simpa [As.fact, A.fact, M.fact, Ms.fact, D.fact, Ds.fact] using hF.1.2.1.1
 refine ae (jx O Z (jf [1] Z (jl O Z (aN (j2 O Z Z (bw O Z (js O Z (jf [3,2,1] Z (jn (ag (am (au (X := Nat) (fun n => ⟨[(1, .c (.pt 1 0 0)), (2, .c (.pt 2 0 0)), (3, eI n)], [(1, .box [.d (.int .i64 t.c), .d (eh t.xs)]), (2, .box [.d (.int .i64 0), .d .nils])]⟩) (fun n => n ≤ t.xs.length ∧ dC (t.xs.take n) = dC t.xs) (fun n => n) t.xs.length (Ent.env ⟨Z, Z, Z, trivial⟩) ?_ (fun n hi => ?_)))))))))))))
 exact ⟨bH _, by rw [List.take_length]⟩
 refine ag (ae (j3 O Z Z Z (jf [9,1,2,3] Z (aR 7 Z Z Z (fun hx => AN.step hx Z Z Z (V O Z) Z Z ( AN.step hx Z Z Z (V O Z) Z Z ( AN.step hx Z Z Z (V O Z) Z Z ( AN.step hx Z Z Z (vF O Z) Z Z ( AN.step hx Z Z Z (vD O Z) Z Z ( AN.step hx Z Z Z (V O Z) Z Z ( AN.step hx Z Z Z (V O Z) Z Z ( AN.nil)))))))) Z Z (AOps.step (aK O Z Z Z Z Z) Z Z Z (jf [17,1,2,3] Z (jn (ab O Z Z (fun hc17 => ?_) (fun hc17 => ?_)))))))))
 refine ah (am (ak (js O Z (ji O Z (js O Z (jf [3,17,1,2] Z (jn ?_)))))))
 rw [Bool.cond_false_right, bA, decide_eq_true_eq, decide_eq_true_eq] at hc17
 obtain ⟨k, hk⟩ : ∃ k, n = k + 1 := ⟨n - 1, by omega⟩
 subst hk
 have hk2 : ((k + 1 : Nat) : Int) - 1 = k := by omega
 rw [hk2] at hc17
 refine ⟨k, Ent.to ⟨Z, Z, by rw [hk2]; rfl, trivial⟩ Z, ⟨by omega, ?_⟩, Nat.lt_succ_self k⟩
 rw [← hi.2, lq (by omega) (by simpa using hc17.2)]
 refine aU (ae (j3 O Z Z Z ?_))
 have hd : dC (t.xs.take n) = t.xs.take n := lr hi.1 (by
  rw [Bool.cond_false_right] at hc17
  rcases Nat.eq_zero_or_pos n with h0 | h0
  ·
   exact .inl h0
  ·
   refine .inr (fun h9 => ?_)
   have e1 : ((n : Int) - 1).toNat = n - 1 := by omega
   rw [e1, h9] at hc17; simp at hc17; omega)
 have ht := hi.2
 rw [hd] at ht
 refine AOps.step ((aP O Z Z ⟨by omega, by simp; omega⟩).cast (v' := cw (dC t.xs)) (by rw [← ht]; simp [List.map_take])) Z Z Z (js O Z (jf [24,23,17,1,2,3] Z (jo O Z (jf [17,1,2,3] Z (aN (js O Z (jo O Z (jr ?_))))))))
 refine ⟨.inl Z, _, aj, _, Z, ?_⟩
 exact .v (.agg (aC Z))
theorem kD {f : Tm → Int} : ∀ {ts : List Tm} {ms : List Int}, ts.length ≤ ms.length → b9 f (ts.take ts.length) (ms.take ts.length) = b9 f ts ms
 | [], ms, _ => by cases ms <;> simp [b9]
 | t :: ts, [], h => by simp at h
 | t :: ts, m :: ms, h => by
  have := kD (f := f) (ts := ts) (ms := ms) (by simpa using h)
  simp only [i3, List.take_succ_cons, b9] at this ⊢
  rw [this]
theorem qc {ts : List Tm} {ms : List Int} (h : ts.length ≤ ms.length) : bR (ts.take ts.length) (ms.take ts.length) = bR ts ms := by
 unfold bR
 apply List.map_congr_left
 intro k _
 exact kD h
theorem qQ {ms : List Int} (hc : CtxOk ts) (hm : ms.all num = true) (hle : ts.length ≤ ms.length) : MQ h1 h2 172 [cm ts, cw ms] [] (Plain (cM (ea ts ms))) := by
 refine MC.data (jB 55 h1 h2 Tryz.func172 Z Z Z fun O hF => ?_)
 have hl : ms.length ≤ L := by simpa [As.fact, A.fact, M.fact, D.fact, Ds.fact] using hF.2.1.1
 have hlc := hc.len
 refine ae (jl O Z (aN (AOps.heap (co O Z Z Z Z Z Z Z Z Z (by first | omega | (simp at *; omega)) (by first | omega | (simp at *; omega)) (by first | omega | (simp at *; omega)) (by first | omega | (dsimp only; omega) | (simp only [aJ] at *; omega)) (by first | omega | (simp at *; omega)) Z Z Z) Z (js O Z (jf [11,4,0,1] Z (jl O Z (jo O Z (jn (ag (ae (js O Z (bw O Z (js O Z (jn (am (au (X := Nat) (fun i => ⟨[(1, cw ms), (4, .c (.pt 4 0 0)), (5, .c (.pt 5 0 0)), (12, cm ts), (13, eI ts.length), (14, eI i)], [(4, .box [.d (.int .i64 0), .d .nils]), (5, .box [.d (.int .i64 (b9 Tm.c (ts.take i) (ms.take i))), .rs 10 0 10]), (10, aE (bR (ts.take i) (ms.take i)))]⟩) (fun i => i ≤ ts.length) (fun i => ts.length - i) 0 (Ent.to ⟨Z, Z, Z, Z, Z, Z, trivial⟩ Z) ?_ (fun i hi => ?_)))))))))))))))))
 exact cC _
 refine ae (js O Z (jn (ag (ab O Z Z (fun hc15 => ?_) (fun hc15 => ?_)))))
 try simp only [aJ] at hc15
 refine ah (ag (am (ae (js O Z (nu O Z Z (js O Z (jf [18,16,15,1,4,5,12,13,14] Z (jl O Z (js O Z (jf [6,7,18,15,1,4,5,12,13,14] Z (jo O Z (jn (ag ?_)))))))))))))
 have hi0 := hi
 have fP := Small.of (hc.get (show i < ts.length by omega))
 have hd1 := iE (f := Tm.c) (ts := ts) (ms := ms) (fun t ht => (Small.of (hc.ok t ht)).c) hm hi (by omega)
 have hd2 := fp (f := Tm.c) (ts := ts) (ms := ms) (i := i) (by omega) (by omega)
 have hmi : num (ms.getD i default) = true := by rw [aw (by omega)]; exact List.all_eq_true.1 hm _ (List.getElem_mem _)
 have hmu := ej hmi fP.c
 refine jS O [_,_,_,_,_,_,_,_,_,_,_,_] [pn [] 0 0, pn [0] 0 0, pn [] 0 0, pn [] 0 0, pn [2,3] 0 0, pn [2,3,4] 0 0, pn [] 0 0, pn [6] 0 0, pn (rg 2 6) 0 0, pn (rg 0 9) 0 0, pn (rg 0 10) 0 0, pe (rg 0 11) 0] [11] [_,_] (kc O Z (kc O Z (kc O Z (kc O Z (ai (vN O Z) (kc O Z (kc O Z (kc O Z (ai (vF O Z) (ai (vF O Z) (kc O Z (ai (eS O Z Z Z) trivial)))))))))))) ?_
 refine jw [6,7,18,15,1,4,5,12,13,14] Z (ct ?_)
 refine ae (j2 O Z Z (bw O Z (js O Z (jn (am (au (X := Nat) (fun j => ⟨[(1, cw ms), (4, .c (.pt 4 0 0)), (5, .c (.pt 5 0 0)), (12, cm ts), (13, eI ts.length), (14, eI i), (6, eI i), (31, cw (ts.getD i default).xs), (32, eI (ts.getD i default).xs.length), (33, eI j)], [(4, .box [.d (.int .i64 0), .d .nils]), (5, .box [.d (.int .i64 (b9 Tm.c (ts.take i) (ms.take i) + ms.getD i default * (ts.getD i default).c)), .rs 10 0 10]), (10, aE (dX ts ms i j))]⟩) (fun j => j ≤ (ts.getD i default).xs.length) (fun j => (ts.getD i default).xs.length - j) 0 (((av [4,5,10] (e' := [(1, _), (4, _), (5, _), (12, _), (13, _), (14, _), (6, _), (31, _), (32, _), (33, _)]) Z Z ⟨Z, Z, Z, Z, Z, Z, Z, Z, Z, Z, trivial⟩ Z)).trans (Ent.to ⟨Z, Z, Z, Z, Z, Z, Z, Z, Z, Z, trivial⟩ (by rw [lw]; rfl))) ?_ (fun j hi => ?_)))))))
 exact cC _
 refine ae (js O Z (jn (ag (ab O Z Z (fun hc34 => ?_) (fun hc34 => ?_)))))
 try simp only [aJ] at hc34
 refine ah (ag (am (ae (js O Z (nu O Z Z (j3 O Z Z Z (jf [9,8,34,1,4,5,12,13,14,6,31,32,33] Z (jn ?_))))))))
 have hjl : j < 10 := by have := kl (hc.get (show i < ts.length by omega)); omega
 have hpj := kt (ts := ts) (ms := ms) (i := i) hjl
 have hps := lx (ts := ts) (ms := ms) (i := i) hjl
 have hpl := di (ts := ts) (ms := ms) (i := i) (j := j)
 have hd3 := iE (f := mJ j) (ts := ts) (ms := ms) (fun t ht => (Small.of (hc.ok t ht)).get j) hm hi0 (by omega)
 have hmx := ej hmi (fP.get j)
 rw [show (ts.getD i default).xs.getD j 0 = (ts.getD i default).xs.getD j default from Z] at hmx
 refine jS O [_,_,_,_,_,_,_,_,_,_,_,_,_,_] [pn [] 0 0, pn [0] 0 0, pn [] 0 0, pn [0,1,2] 0 0, pn (rg 0 4) 0 0, pn [] 0 0, pn [] 0 0, pn [5,6] 0 0, pn [5,6,7] 0 0, pn [] 0 0, pn (rg 5 5) 0 0, pn (rg 0 11) 0 0, pn (rg 0 12) 0 0, pe (rg 0 13) 0] [13] [_,_] (kc O Z (kc O Z (kc O Z (ai (vI O Z Z) (ai (ar O (ex := [.int .i64 ((dX ts ms i j).getD j default)]) Z Z Z Z (sI (by omega)) Z) (kc O Z (kc O Z (ai (vN O Z) (kc O Z (kc O Z (ai (vF O Z) (ai (vF O Z) (ai (vI O Z Z) (ai (cX (ex := [.int .i64 ((dX ts ms i j).getD j default)]) (xs' := (dX ts ms i (j + 1)).map (fun n => [D.int .i64 n])) O Z Z Z Z Z Z Z Z Z Z Z Z Z Z Z (sI (by omega)) (by rw [← hps, List.map_set]; simp only [Int.toNat_natCast, Nat.zero_add]; rfl) Z) trivial)))))))))))))) ?_
 refine jw [34,1,4,5,12,13,14,6,31,32,33] Z (ct ?_)
 refine ak (ji O Z (js O Z (jn ?_)))
 refine ⟨j + 1, Ent.to ⟨Z, Z, Z, Z, Z, Z, Z, Z, Z, Z, trivial⟩ Z, by omega, by omega⟩
 try simp only [aJ] at hc34
 refine aU (ak (ji O Z (js O Z (jn ?_))))
 refine ⟨i + 1, ((av [4,5,10] (e' := [(1, _), (4, _), (5, _), (12, _), (13, _), (14, _)]) Z Z ⟨Z, Z, Z, Z, Z, Z, trivial⟩ Z)).trans (Ent.to ⟨Z, Z, Z, Z, Z, Z, trivial⟩ ?_), by omega, by omega⟩
 rw [hd2, ← m1 (j := j) (by omega) (by omega) (by omega)]; rfl
 try simp only [aJ] at hc15
 refine aU (ae ?_)
 obtain rfl : i = ts.length := by omega
 have hcl := iY (ts := ts.take ts.length) (ms := ms.take ts.length)
 refine ay (Ent.freeze 10 (e' := [(5, _), (4, _)]) Z (fe [5,4] Z) (.cons Z (.box (fk Z)) (.cons Z (.box (.cons (.keep Z) (.cons (.row Z (by rw [bJ, hcl])) .nil))) (.skip .nil)))) ?_
 refine js O Z (ax O Z Z Z Z (yN (t := ⟨b9 Tm.c (ts.take ts.length) (ms.take ts.length), bR (ts.take ts.length) (ms.take ts.length)⟩) h1 h2) (aa Z) Z Z Z Z (B0 := 55000) Z Z (jf [54,5,4] Z (jo O Z (jr ?_))))
 refine ⟨.inl Z, _, aj, _, Z, ?_⟩
 have e1 : b9 Tm.c (ts.take ts.length) (ms.take ts.length) = b9 Tm.c ts ms := kD hle
 have e2 : bR (ts.take ts.length) (ms.take ts.length) = bR ts ms := qc hle
 rw [e1, e2]
 exact .v (.agg (aC Z))
theorem yM {t : Tm} (h : t.ok = true) : CtxOk [t] := ⟨fun u hu => by simp at hu; subst hu; exact h, by simp⟩
theorem yK {t : Tm} (h : Small t) : -1000000 ≤ b9 Tm.c [t] [-1] ∧ b9 Tm.c [t] [-1] ≤ 1000000 := by
 have := xP.1 h.c
 show -1000000 ≤ -1 * t.c + 0 ∧ -1 * t.c + 0 ≤ 1000000
 omega
theorem yR (ht : t.ok = true) : MQ h1 h2 186 [cM t] [] (Plain (cM (qG t))) := by
 refine MC.data (jB 13 h1 h2 Tryz.func186 Z Z Z fun O hF => ?_)
 have hd1 := yK (Small.of ht)
 refine ae (jx O Z (jf [1] Z (jl O Z (aN (js O Z (jf [4,2] Z (AOps.heap (dy O Z Z Z Z Z Z Z Z Z Z Z) Z (jf [5,2] Z (AOps.heap (bi O Z Z Z) Z (ay (Ent.freeze 5 (e' := [(6, _), (5, _), (2, _)]) Z (.cons Z (.keep Z) (.cons Z (.c (.row Z Z)) (fe [2] Z))) (.cons Z (.box (fk Z)) (.cons Z (.box (fk Z)) (.skip (.cons Z .row .nil))))) ?_))))))))))
 refine ay (Ent.freeze 6 (e' := [(6, _), (5, _), (2, _)]) Z (.cons Z (.c (.row Z Z)) (fe [5,2] Z)) (.cons Z (.box (fk Z)) (.cons Z (.box (fk Z)) (.skip .nil)))) ?_
 refine ax O Z Z Z Z (qQ (ts := [t]) (ms := [-1]) h1 h2 (yM ht) (by decide) (bH 1)) (aa Z) Z Z Z Z (B0 := 8000) Z Z (jf [7,2] Z (jl O Z (jo O Z (aN (j2 O Z Z (ji O Z (js O Z (jf [11,10,3,7,2] Z (jo O Z (jf [3,7,2] Z (aN (js O Z (jo O Z (jr ?_))))))))))))))
 refine ⟨.inl Z, _, aj, _, Z, ?_⟩
 exact .v (.agg (aC Z))
theorem ut {n : Int} : MQ h1 h2 99 [eI n] [] (Plain (eI n)) := by
 refine aB ?_ Z
 refine jB 4 h1 h2 Tryz.func99 Z Z Z fun O hF => ?_
 refine ae (js O Z (aN (j2 O Z Z (jr ?_))))
 refine ⟨.inl Z, _, aj, _, Z, ?_⟩
 first | rfl | skip
theorem qx {k : Int} {n : Nat} (hn : n ≤ 1073741824) : MQ h1 h2 138 [eI k, eI n] [] (Plain (eB (dp 0 ((n : Int) - 1) k))) := by
 refine aB ?_ Z
 refine jB 10 h1 h2 Tryz.func138 Z Z Z fun O hF => ?_
 refine ae (js O Z (aN (j2 O Z Z (ac O Z Z Z Z (ut (n := n) h1 h2) (aa Z) Z Z Z Z Z (B0 := 8000) Z ?_))))
 first | refine ji O Z ?_ | refine bb O Z Z ?_
 refine ac O Z Z Z Z (mM h1 h2) (aa Z) Z Z Z Z Z (B0 := 10000) Z (js O Z (jr ?_))
 refine ⟨.inl Z, _, aj, _, Z, ?_⟩
 first | rfl | skip
theorem yO {c : Tm} {r : List Tm} (hl : (c :: r).length ≤ 1000) : MQ h1 h2 155 [cm (c :: r)] [] (Rows (.c (.rs 0 0 (c :: r).length)) [ao (c :: r)]) := by
 refine bm (jB 8 h1 h2 Tryz.func155 Z Z Z fun O hF => ?_)
 refine ae (js O Z (jn (ag (ae (j2 O Z Z (jn (ab O Z Z (fun hc4 => ?_) (fun hc4 => ?_))))))))
 exact absurd (show false = true from hc4) (by decide)
 refine ah (ae (AOps.heap (bi O Z Z Z) Z (js O Z (jf [6,5,3,2,0] Z (ay (ck 5 Z) (AOps.heap (bI (own := false) (zs := (c :: r).map Tm.cells) (n := (c :: r).length) O Z Z Z Z Z Z Z Z Z Z Z Z Z Z Z Z (.row Z Z) (.slc (.inl Z)) (by simp) Z (by simp at hl ⊢; omega) (by simp at hl ⊢; omega) Z (by simp)) Z (js O Z (jf [2,3,0] Z (jr ?_)))))))))
 refine ⟨.inl Z, _, aj, _, Z, [7], by decide, Z, Z, Z⟩
theorem oS : MQ h1 h2 176 [cM t] [] (Rows (.agg [.d (.int .i64 t.c), .rs 0 0 t.xs.length]) [aE t.xs]) := by
 refine bm (jB 9 h1 h2 Tryz.func176 Z Z Z fun O hF => ?_)
 refine ae (jx O Z (jl O Z (jn (ag (jS O [_,_,_,_,_,_,_] [pn [] 0 1, pn [0] 0 1, pn [] 0 0, pn [2] 0 0, pe [2,3] 0, pn (rg 0 5) 1 1, pe (rg 0 6) 1] [4,6] [_,_,_] (ai (kc O Z (V O Z)) (ai (kc O Z (V O Z)) (kc O Z (kc O Z (ai (cQ O (B0 := 8000) Z Z Z Z (uq (xs := t.xs) h1 h2) (aa Z) Z Z Z Z Z) (kc O Z (ai (eS O Z Z Z) trivial))))))) ?_)))))
 refine i6 ?_
 refine ⟨.inl Z, _, aj, _, Z, [8000], by decide, Z, Z, Z⟩
theorem ze {t : Tm} : t.ok = true ↔ num t.c = true ∧ t.xs.all num = true ∧ t.xs.length ≤ 10 ∧ (t.xs = [] ∨ t.xs.getD (t.xs.length - 1) default ≠ 0) := by
 unfold Tm.ok
 have hz : ((t.xs.length : Int) - 1).toNat = t.xs.length - 1 := by omega
 rw [hz]
 cases h1 : num t.c <;> cases h2 : t.xs.all num <;> simp
 by_cases h3 : t.xs.length ≤ 10
 have h4 : ¬ (10 : Int) < t.xs.length := by omega
 by_cases h5 : t.xs = []
 simp [h5]
 have h6 : 0 < t.xs.length := List.length_pos_iff.2 h5
 simp [h3, h5]
 intro _; omega
 have h4 : (10 : Int) < t.xs.length := by omega
 simp [h3, h4]
theorem rU {t : Tm} : fQ t (-1) ⟨1, []⟩ (-1) = bR [t] [-1] := by
 unfold fQ bR
 apply List.map_congr_left
 intro k _
 show -1 * t.xs.getD k 0 + -1 * 0 = -1 * t.xs.getD k 0 + 0
 omega
theorem uE {t : Tm} : bM t = if (qG t).ok = true then (qG t, true) else (⟨0, []⟩, false) := by
 unfold bM j7 qu
 rw [rU]
 have : (-1 * t.c + -1 * (⟨1, []⟩ : Tm).c) = b9 Tm.c [t] [-1] - 1 := by
  show -1 * t.c + -1 * 1 = -1 * t.c + 0 - 1
  omega
 rw [this]
inductive Pf where
  | close (n : Nd)
  | tight (n : Nd) (a : Pf)
  | split (n : Nd) (a b : Pf)
structure Ex where
  es : List (Int × List Tm)
  flaw : Int
def fl (b : Nat → Bool) : Nat → Nat → Int → Int
  | _, 0, f => f
  | k, n + 1, f => fl b (k + 1) n (if b k = true ∧ f < 0 then (k : Int) else f)
structure Eqs (p : List Nd) (c0 : List Tm) (H : Nat → Bool) (A : Nat → List Tm) (R : Nat → Bool) : Prop where
  h0 : 0 < p.length → H 0 = true ∧ A 0 = c0
  h : ∀ j, 0 < j → j < p.length → H j = R (vP p j j).1.toNat
  a : ∀ j, 0 < j → j < p.length → H j = true → A j = vz (p.getD (vP p j j).1.toNat default) (A (vP p j j).1.toNat) (vP p j j).2
  r : ∀ j, j < p.length → R j = (H j && rn (p.getD j default) (A j))
theorem sJ : MQ h1 h2 169 [cm ts] [] (Rows (.c (.rs 0 0 ts.length)) [eu ts]) := by
 refine bm (jB 19 h1 h2 Tryz.func169 Z Z Z fun O hF => ?_)
 have hl : ts.length ≤ L := by simpa [As.fact, A.fact, M.fact, D.fact, Ds.fact] using hF.1.1
 refine ae (js O Z (aN (js O Z (jn (ag (ae (js O Z (bw O Z (js O Z (jn (am (au (X := Nat) (fun i => ⟨[(3, .c (.rs 900 0 i)), (6, cm ts), (7, eI ts.length), (8, eI i)], [(900, eu (ts.take i))]⟩) (fun i => i ≤ ts.length) (fun i => ts.length - i) 0 ((dk 3 900 2 true Z Z).trans (Ent.to ⟨Z, Z, Z, Z, trivial⟩ Z)) ?_ (fun i hi => ?_)))))))))))))
 exact cC _
 refine ae (js O Z (jn (ag (ab O Z Z (fun hc9 => ?_) (fun hc9 => ?_)))))
 try simp only [aJ] at hc9
 refine ah (ag (am (ae (nu O Z Z (js O Z (jf [11,9,3,6,7,8] Z (jl O Z (ap ?_))))))))
 refine jo O Z (ap ?_)
 refine jn (ak (j2 O Z Z (aL O (B0 := 15000) Z Z Z Z (oS (t := ts.getD i default) h1 h2) (aa Z) Z Z Z Z Z Z (ap ?_))))
 refine jf [14,12,5,11,9,3,6,7,8] Z (AOps.heap (lM (ds := Tm.cells (ts.getD i default)) O Z Z Z Z Z Z Z Z Z Z (.d Z (.rs Z (bJ _).symm .nil)) Z Z Z) Z (ap ?_))
 refine ap ?_
 refine jf [15,12,5,11,9,3,6,7,8] Z (AOps.heap (ce (zs := (ts.take (i + 1)).map Tm.cells) (n := i + 1) O Z Z Z Z Z Z Z Z Z Z Z Z Z Z Z Z (.row Z (by simp; omega)) Z Z (by decide) Z (by simp; omega) (by simp; omega) (by rw [List.take_succ_eq_append_getElem (by omega), List.map_append, aw (by omega)]; rfl) (by simp; omega)) Z (ap ?_))
 refine ap ?_
 refine js O Z (jf [3,5,11,9,6,7,8] Z (jn (ak (ji O Z (js O Z (jn ?_))))))
 refine ⟨i + 1, ((av [16] (e' := [(3, _), (6, _), (7, _), (8, _)]) Z Z ⟨Z, Z, Z, Z, trivial⟩ Z).trans (af 16 900 Z Z)), by omega, by omega⟩
 try simp only [aJ] at hc9
 refine aU (ae (j2 O Z Z (jr ?_)))
 obtain rfl : i = ts.length := by omega
 rw [List.take_length]
 refine ⟨.inl Z, _, aj, _, Z, [900], by decide, Z, Z, Z⟩
theorem pY : ∀ {k : Int} {xs : List Int}, bf mI c5 k (bf mI c5 k xs) = bf mI c5 k xs
 | _, [] => rfl
 | k, x :: xs => by
  show k :: bf mI c5 (k + 1) (bf mI c5 (k + 1) xs) = k :: bf mI c5 (k + 1) xs
  rw [pY]
theorem kN (xs : List Int) (k : Int) : (if bf mI c5 k xs = bf mI c5 k (bf mI c5 k xs) then k + ((bf mI c5 k xs).length : Int) else -1) = k + xs.length := by
 rw [if_pos pY.symm, bg]
theorem ig {α : Type} [Inhabited α] {f : Int → α → α} {sz : α → Nat} : ∀ {l : List α} {k : Int} {i : Nat}, i < l.length → (bf f sz k l).getD i default = f (k + bq sz (l.take i)) (l.getD i default)
 | [], _, _, h => by simp at h
 | a :: r, k, 0, _ => by simp [bf, bq]
 | a :: r, k, i + 1, h => by
  have := ig (f := f) (sz := sz) (l := r) (k := k + sz a) (i := i) (by simpa using h)
  simp only [bf, List.getD_cons_succ, List.take_succ_cons] at this ⊢
  rw [this]
  have e : k + (sz a : Int) + (bq sz (r.take i) : Int) = k + (bq sz (a :: r.take i) : Int) := by simp [bq]; omega
  rw [e]
theorem c41 {k : Int} (hk0 : 0 ≤ k) (hk1 : k + bq nT ts ≤ 1073741824) : MQ h1 h2 59 [cm (bf mT nT k ts), eI k] [] (Plain (eI (k + bq nT ts))) := by
 refine aB ?_ Z
 refine jB 31 h1 h2 Tryz.func59 Z Z Z fun O hF => ?_
 have hlm := bg (f := mT) (sz := nT) (k := k) (l := ts)
 have hl : (bf mT nT k ts).length ≤ L := by simpa [As.fact, A.fact, M.fact, D.fact, Ds.fact] using hF.1.1
 refine ae (js O Z (jn (ag (ae (js O Z (jn (am (au (X := Nat) (fun i => ⟨[(0, cm (bf mT nT k ts)), (1, eI (k + bq nT (ts.take i))), (5, eI i)], []⟩) (fun i => i ≤ ts.length) (fun i => ts.length - i) 0 (Ent.env ⟨Z, by simp [bN, aA, bq], Z, trivial⟩) ?_ (fun i hi => ?_)))))))))
 exact cC _
 refine ag (ae (j2 O Z Z ?_))
 first | refine bw O Z ?_ | refine js O Z ?_ | refine bb O Z Z ?_
 refine js O Z (jf [9,0,1,5] Z (jn (ab O Z Z (fun hc9 => ?_) (fun hc9 => ?_))))
 refine ah (ag (am (ag (ae ?_))))
 have hil : i < ts.length := by have h9 := aQ hc9; omega
 have hg := ig (f := mT) (sz := nT) (k := k) hil
 have hcs := ff (sz := nT) hil
 have hcl := jg (sz := nT) (l := ts) (i := i + 1)
 rw [← aw hil] at hcs
 obtain ⟨t, ht⟩ : ∃ t, t = ts.getD i default := ⟨_, rfl⟩
 rw [← ht] at hg hcs
 simp only [nT] at hcs
 obtain ⟨K, hK⟩ : ∃ K, K = k + (bq nT (ts.take i) : Int) := ⟨_, rfl⟩
 rw [← hK] at hg ⊢
 refine j2 O Z Z (AOps.step ((aS O Z Z Z Z Z Z Z Z (c9 (by omega))).cast (v' := ptr (Tm.cells (mT K t))) (by rw [hg])) Z Z Z (j4 O Z Z Z Z (jf [18,9,0,1,5] Z (jn (ab O Z Z (fun hc18 => ?_) (fun hc18 => ?_))))))
 exact absurd hc18 (by simp)
 refine ah (ae (js O Z ?_))
 first | refine ji O Z ?_ | refine bb O Z Z ?_
 refine js O Z (jf [1,18,9,0,5] Z (aN (j2 O Z Z (AOps.step ((aS O Z Z Z Z Z Z Z Z (c9 (by omega))).cast (v' := ptr (Tm.cells (mT K t))) (by rw [hg])) Z Z Z (j3 O Z Z Z (jf [26,25,1,18,9,0,5] Z (ac O Z Z Z Z ((zp (xs := bf mI c5 (K + 1) t.xs) (k := K + 1) h1 h2 (by omega) (by omega)).plain (congrArg eI (kN t.xs (K + 1)))) (aa Z) Z Z Z Z Z (B0 := 28000) Z (js O Z (jf [1,18,9,0,5] Z (aN (j2 O Z Z (jn (ab O Z Z (fun hc29 => ?_) (fun hc29 => ?_))))))))))))))
 exact absurd (aQ hc29) (by omega)
 refine ah (ak (js O Z ?_))
 first | refine ji O Z ?_ | refine bb O Z Z ?_
 refine js O Z (jf [5,29,28,1,18,9,0] Z (jn ?_))
 refine ⟨i + 1, Ent.env ⟨Z, ?_, Z, trivial⟩, by omega, by omega⟩
 rw [hcs]
 exact congrArg (fun z => some (eI z)) (by omega)
 refine aU (ae (j2 O Z Z (jr ?_)))
 refine ⟨.inl Z, _, aj, _, Z, ?_⟩
 have h9 := bB hc9
 obtain rfl : i = ts.length := by omega
 rw [List.take_length]
theorem mi (ts : List Tm) : bq nT ts = szs Tm.size ts := by
 unfold bq szs
 induction ts with
 | nil => rfl
 | cons t r ih =>
  simp only [List.map_cons, List.sum_cons, i3] at ih ⊢
  have : nT t = 1 + Tm.size t := rfl
  omega
theorem n4 {left : Int} {n : Nat} (h : 0 ≤ dN left n) (h0 : 0 ≤ left) : (n : Int) ≤ left := by
 unfold dN at h
 split at h <;> omega
theorem qb {L S : Nat} {xs : List Int} (h : D.fact L (eh xs)) (hl : xs.length ≤ S) : D.fact S (eh xs) := by
 simp only [D.fact, bJ, dB, Ds.fact] at h ⊢
 exact ⟨hl, h.2⟩
theorem l9 {α : Type} (f : α → Nat) : ∀ {xs : List α} {x : α}, x ∈ xs → f x ≤ (xs.map f).sum
 | y :: r, x, h => by
  simp only [List.map_cons, List.sum_cons]
  rcases List.mem_cons.1 h with rfl | h
  omega
  have := l9 f h; omega
theorem kB {L S : Nat} {ts : List Tm} (h : D.fact L (em ts)) (hl : szs Tm.size ts ≤ S) : D.fact S (em ts) := by
 unfold szs at hl
 simp only [D.fact, bJ, dB] at h ⊢
 refine ⟨by omega, fun t ht => ?_⟩
 have h1 := h.2 t ht
 have h2 := l9 Tm.size ht
 have h3 : Tm.size t = t.xs.length := rfl
 exact ⟨h1.1, qb h1.2.1 (by omega), trivial⟩
end Go.Al
/- What the laws of the certificates share: the types of their arguments; what came in reads as it did. -/
namespace Go.Proofs.YtikejfdfkemmmaaGreat
open Go.ChangeShapes Go.WideShapes Go.ChangeAt Go.RowKit Go.Al

theorem ownK : ownKnob Tryz.prog.godebug = none := by kernel_rfl
theorem kidsK : Kids Tryz.prog (· < Tryz.prog.types.size) := kids_rows (by kernel_rfl) (by kernel_rfl)
theorem fullK : ∀ t e, t < Tryz.prog.types.size → Tryz.prog.underlying t = some (.slice e) → 0 < Tryz.prog.cellsOf e := slices_full_of Tryz.prog (by kernel_rfl)

abbrev sA : List Ty := [.int .i64]
abbrev sr : List Ty := [.int .i64, .slc sA]
theorem vQ : TyOf Tryz.prog 2 sA := .int Tryz.underlying2
theorem yC : TyOf Tryz.prog 90 [.slc sA] := .slc Tryz.underlying90 vQ (by kernel_rfl) (by decide)
theorem yz : TyOf Tryz.prog 122 sr := .struct Tryz.underlying122 (show FieldsAre Tryz.prog _ (sA ++ ([.slc sA] ++ [])) 0 from .cons rfl (by kernel_rfl) vQ (.cons rfl (by kernel_rfl) yC .nil)) (by kernel_rfl)
theorem um : TyOf Tryz.prog 22 [.slc sr] := .slc Tryz.underlying22 yz (by kernel_rfl) (by decide)
theorem fZ {d : D} (h : Fits (.int .i64) d) : ∃ n, d = .int .i64 n := by cases h; exact ⟨_, rfl⟩
theorem f1 {α : Type} {es : List Ty} {g : α → List D} (hg : ∀ e, FitsL es e → ∃ a, e = g a) : ∀ {xs : List (List D)}, FitsA es xs → ∃ ys : List α, xs = ys.map g
 | _, .nil => ⟨[], rfl⟩
 | _, .cons h1 h2 => by
  obtain ⟨a, rfl⟩ := hg _ h1
  obtain ⟨ys, rfl⟩ := f1 hg h2
  exact ⟨a :: ys, Z⟩
theorem qa {d : D} (h : Fits (.slc sA) d) : ∃ xs, d = eh xs := by
 cases h with
 | slc h =>
  obtain ⟨xs, rfl⟩ := f1 (g := fun n => [D.int .i64 n]) (fun e he => by
   cases he with
   | cons h1 h2 =>
     cases h2
     obtain ⟨n, rfl⟩ := fZ h1
     exact ⟨n, Z⟩) h
  exact ⟨xs, Z⟩
theorem p9 {e : List D} (h : FitsL sr e) : ∃ t : Tm, e = t.cells := by
 cases h with
 | cons h1 h2 =>
  cases h2 with
  | cons h2 h3 =>
   cases h3
   obtain ⟨n, rfl⟩ := fZ h1
   obtain ⟨xs, rfl⟩ := qa h2
   exact ⟨⟨n, xs⟩, Z⟩
theorem ik {d : D} (h : Fits (.slc sr) d) : ∃ ts, d = em ts := by
 cases h with
 | slc h =>
  obtain ⟨xs, rfl⟩ := f1 (g := Tm.cells) (fun e he => p9 he) h
  exact ⟨xs, Z⟩
theorem rdl_rms {L : Nat} {w : World} {ok : Nat → Prop} {m : Nat → Go.Al.Loc} : ∀ {ds : List D} {vs : List Value} {F : List Nat}, RDL L w ok ds vs F → F = [] → RMs L w ok m (ds.map .d) vs
 | _, _, _, .nil, _ => .nil
 | _, _, _, .cons (F1 := F1) (F2 := F2) h1 h2, hF => by
  obtain ⟨rfl, rfl⟩ := List.append_eq_nil_iff.1 hF
  exact .cons (.d h1) (rdl_rms h2 Z)
section
variable {H : Type} {enc : TypeId × Value → H} {P : Program} {w w' : World}
theorem s4 (hs : ∀ b, b < w.heap.size → Same w w' b) {p : MemPlace} (hp : p.block < w.heap.size) : w.sameAt w' p := by
 cases p with
 | cell b o => exact (hs b hp).cell
 | map b => exact hs b hp
theorem trodAll_same (hs : ∀ b, b < w.heap.size → Same w w' b) {base : Nat} {sp : Nat → Bool} {held : Bool} : ∀ {ts : List TypeId} {vs : List Value} {ds : List (DataW H)} {ps : List MemPlace}, (∀ p ∈ ps, p.block < w.heap.size) → DataW.TrodAll enc P w base sp held ts vs ds ps → DataW.TrodAll enc P w' base sp held ts vs ds ps
 | [], [], [], _, _, h => h
 | _ :: _, _ :: _, _ :: _, _, hl, ⟨p, q, ⟨n, h1⟩, h2, e⟩ =>
  ⟨p, q, ⟨n, DataW.trod_carry n _ _ _ h1 (fun x hx => s4 hs (hl x (by rw [e]; exact List.mem_append_left _ hx)))⟩, trodAll_same hs (fun x hx => hl x (by rw [e]; exact List.mem_append_right _ hx)) h2, e⟩
theorem oc (hf : Go.Al.Frame w w' []) (may : MemPlace → Prop) : w.keptBut w' may := by
 refine ⟨hf.os, hf.output, fun i hi => ?_⟩
 have h := hf.block i hi (by simp)
 unfold Same at h
 rw [h]
 cases hx : w.heap[i]? with
 | none => trivial
 | some o =>
  cases o with
  | cells c t fr => exact ⟨Z, Z, Z, fun _ _ => rfl⟩
  | map es clock => exact .inr ⟨Z, Z⟩
  | _ => rfl
theorem n9 (hf : Go.Al.Frame w w' []) {a : Addr} (ha : a.block < w.heap.size) : w'.frozen? a = w.frozen? a := by
 have h := hf.block a.block ha (by simp)
 unfold Same at h
 unfold World.frozen?
 rw [h]
theorem post_of_old {f : Func} {s : ChangeSpec} {apart fresh handsOn again : Bool} {args : Array Value} {v : Value} {ds gs : List (DataW H)} {before pa pv : List MemPlace}
    (hW : DataW.Whole enc P f.params.toList s.vars apart w args.toList ds gs before)
    (hres : ∀ (b : Nat) (sp : Nat → Bool) (hd : Bool), DataW.TrodAll enc P w' b sp hd f.resultTypes.toList (v.resultList f.resultTypes.size) (s.fn H (ds ++ gs)).results [])
    (hargs : ∀ sp : Nat → Bool, (∀ p ∈ before, sp p.block = true) → DataW.TrodAll enc P w' 0 sp true f.params.toList args.toList (s.fn H (ds ++ gs)).args pa)
    (hvars : ∀ sp : Nat → Bool, (∀ p ∈ before, sp p.block = true) → DataW.TrodVars enc P w' sp s.vars (s.fn H (ds ++ gs)).vars pv)
    (hps : before = pa ++ pv) (hf : Go.Al.Frame w w' [])
    (hok : ∀ (j : Nat) (t : TypeId) (r : Value), f.resultTypes[j]? = some t → (v.resultList f.resultTypes.size)[j]? = some r → Value.okWide P w' .any 0 t r) :
    s.post enc P f apart fresh handsOn again w args v w' := by
 have hlt := hW.lt
 have hold : ∀ p ∈ before, (fun b => decide (b < w.heap.size)) p.block = true := fun p hp => by simpa using hlt p hp
 refine ⟨ds, gs, before, [], pa, pv, hW, hres _ _ _, hargs _ hold, hvars _ hold, World.keptBut_mono (fun p hp => ⟨hp, ?_⟩) (oc hf (· ∈ before)), fun _ => ?_⟩
 rw [hps, List.mem_append] at hp
 exact Or.inr hp
 obtain ⟨_, _, _, _, _, hz, hn⟩ := hW
 refine ⟨hok, _, _, ([] ++ pa) ++ pv, ⟨[] ++ pa, pv, trodAll_append (hargs _ (fun _ _ => rfl)) (hres _ _ _), hvars _ (fun _ _ => rfl), Z, ?_, ?_⟩, ?_⟩
 intro b off hp
 have hp' : MemPlace.cell b off ∈ before := by rw [hps]; simpa using hp
 rw [n9 hf (hlt _ hp')]
 exact hz b off hp'
 intro ha
 have := hn ha
 rw [hps] at this
 simpa using this
 intro p hp _
 rw [hps]
 simpa using hp
end

end Go.Proofs.YtikejfdfkemmmaaGreat
