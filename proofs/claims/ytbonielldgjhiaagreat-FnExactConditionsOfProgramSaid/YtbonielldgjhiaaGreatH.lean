/- Contracts of the program's functions for cB; the types of the arguments. -/
import Derived.Test.YtbonielldgjhiaaGreatE
import Derived.Test.YtbonielldgjhiaaGreatRows
set_option linter.unusedVariables false
set_option linter.unusedSimpArgs false
set_option maxRecDepth 10000
set_option maxHeartbeats 4000000
open Go.Proofs
namespace Go.Al
variable {L : Nat} (h1 : 4096 ≤ L) (h2 : L ≤ 1073741824)
structure CS where
  all : List (List Tm)
  has : List Bool
  right : List Bool
  flaw : Int
structure CSok (p : List Nd) (k : Nat) (z : CS) : Prop where
  all : z.all.length = k
  has : z.has.length = k
  right : z.right.length = k
  flaw : -1 ≤ z.flaw ∧ z.flaw < k
  ctx : ∀ j, j < k → z.has.getD j default = true → CtxOk (z.all.getD j default)
  good : ∀ j, j < k → z.right.getD j default = true → z.has.getD j default = true ∧ qF (p.getD j default) (z.all.getD j default) = true
structure Con where
  all : List (List Tm)
  has : List Bool
  flaw : Int
  ok : Bool
theorem g2 {a b : Bool} : (bif !a then true else !b) = !(a && b) := by cases a <;> cases b <;> rfl
theorem rM {α β : Type} [Inhabited α] {l : List α} {f : α → β} {n : Nat} (h : n < l.length) : (l.map f)[0 + n]? = some (f (l.getD n default)) := by rw [Nat.zero_add]; simp [h]
abbrev gY (ts : List Tm) (ms : List Int) : Tm := ⟨cv Tm.c ts ms, dG (cn ts ms)⟩
abbrev ql (t : Tm) : Tm := ⟨cv Tm.c [t] [-1] - 1, dG (cn [t] [-1])⟩
theorem uO {ts : List Tm} {n : Int} : MQ h1 h2 92 [cr ts, eI n] [] (Plain (eB (ea ts n))) := by
 refine av ?_ Z
 refine jB 21 h1 h2 Tryz.func92 Z Z Z fun O hF => ?_
 have hl : ts.length ≤ L := by simpa [As.fact, A.fact, M.fact, D.fact, Ds.fact] using hF.1.1
 refine ag (js O Z (jn (AWP.seq (ag (js O Z ?_)))))
 first | refine cy O Z Z Z Z Z Z Z Z Z Z Z ?_ | refine js O Z ?_ | refine aY O Z Z Z Z Z ?_
 refine j2 O Z Z (jf [10,4,0,1] Z (jn (AWP.cond O Z Z (fun hc10 => ?_) (fun hc10 => ?_))))
 try simp only [bg] at hc10
 refine ag (js O Z (jn (AWP.ret ?_)))
 refine ⟨.inl Z, _, Ent.refl, _, Z, ?_⟩
 rw [ea, decide_eq_false (show ¬ (ts.length : Int) ≤ n by omega), Bool.and_false]
 try simp only [bg] at hc10
 refine AWP.skip (AWP.seq (ag (js O Z ?_)))
 first | refine cy O Z Z Z Z Z Z Z Z Z Z Z ?_ | refine js O Z ?_ | refine aY O Z Z Z Z Z ?_
 refine js O Z (jn (AWP.block (az (X := Nat) (fun i => ⟨[(1, eI n), (11, cr ts), (12, eI ts.length), (13, eI i)], []⟩) (fun i => i ≤ ts.length ∧ ∀ j (h : j < ts.length), j < i → Tm.ok ts[j] = true) (fun i => ts.length - i) 0 (Ent.to ⟨Z, Z, Z, Z, trivial⟩ Z) ?_ (fun i hi => ?_))))
 exact ⟨Nat.zero_le _, fun j h hj => absurd hj (Nat.not_lt_zero j)⟩
 refine ag (js O Z (jn (AWP.seq (AWP.cond O Z Z (fun hc14 => ?_) (fun hc14 => ?_)))))
 try simp only [bg] at hc14
 refine AWP.skip (AWP.seq (AWP.block (ag ?_)))
 first | refine oE O Z Z Z Z Z Z Z Z Z Z Z ?_ | refine dR O Z Z Z Z Z Z Z Z Z Z Z ?_ | refine aY O Z Z Z Z Z ?_
 refine js O Z (jf [16,14,1,11,12,13] Z (jl O Z Z Z Z Z Z (jo O Z Z Z Z Z Z Z Z Z Z Z Z (aP (js O Z (ae O Z Z Z Z (mJ (t := ts.getD i default) h1 h2) (ab Z) Z Z Z Z Z (B0 := 19000) Z (js O Z (jf [19,6,16,14,1,11,12,13] Z (jn (AWP.cond O Z Z (fun hc19 => ?_) (fun hc19 => ?_)))))))))))
 try simp only [bg] at hc19
 refine ag (js O Z (jn (AWP.ret ?_)))
 refine ⟨.inl Z, _, Ent.refl, _, Z, ?_⟩
 rw [aI (by omega)] at hc19
 rw [ea, fh i (by omega) hc19, Bool.false_and]
 try simp only [bg] at hc19
 refine AWP.skip (AWP.region ?_)
 first | refine ji O Z ?_ | refine aY O Z Z Z Z Z ?_
 refine js O Z (jn ?_)
 refine ⟨i + 1, (aT [] (e' := [(1, _), (11, _), (12, _), (13, _)]) Z Z ⟨Z, Z, Z, Z, trivial⟩ Z), ⟨by omega, fun j h hj => ?_⟩, by omega⟩
 by_cases e : j = i
 subst e; rw [aI h] at hc19; exact hc19
 exact hi.2 j h (by omega)
 try simp only [bg] at hc14
 refine AWP.exit (ag (js O Z (jn (AWP.ret ?_))))
 refine ⟨.inl Z, _, Ent.refl, _, Z, ?_⟩
 rw [ea, fP (fun j hj => hi.2 j hj (by omega)), decide_eq_true (show (ts.length : Int) ≤ n by omega), Bool.true_and]
theorem uS {s : Sq} : MQ h1 h2 64 [wb s] [] (Plain (eB (k9 s))) := by
 refine av ?_ Z
 refine jB 11 h1 h2 Tryz.func64 Z Z Z fun O hF => ?_
 refine ag (jx O Z Z Z Z Z Z Z Z (js O Z (aP (j2 O Z Z (jf [4,2,1,0] Z (ae O Z Z Z Z (uO h1 h2) (ab Z) Z Z Z Z Z (B0 := 6000) Z (js O Z (jf [6,2,1,0] Z (au 3 Z Z Z (fun hx => ac hx Z Z Z (V O Z) Z Z ( ac hx Z Z Z (V O Z) Z Z ( bv O hx Z Z Z Z (mJ h1 h2) (ab Z) Z Z Z Z Z Z Z (B0 := 10000) Z ( AN.nil)))) Z Z ?_)))))))))
 first | refine aa (ak O Z Z Z Z Z) Z Z Z ?_ | refine aa (aj O Z Z Z Z Z) Z Z Z ?_ | refine aa (Val.pickB O Z Z Z Z Z) Z Z Z ?_
 refine js O Z (jf [2,0] Z (jn (AWP.ret ?_)))
 refine ⟨.inl Z, _, Ent.refl, _, Z, ?_⟩
 rw [Bool.cond_false_right]; rfl
theorem wQ {t : Tm} : MQ h1 h2 137 [cZ t] [] (Plain (cZ ⟨t.c, dG t.xs⟩)) := by
 refine MC.data (jB 26 h1 h2 Tryz.func137 Z Z Z fun O hF => ?_)
 have hl : t.xs.length ≤ L := by simpa [As.fact, A.fact, M.fact, Ms.fact, D.fact, Ds.fact] using hF.1.2.1.1
 refine ag (jx O Z Z Z Z Z Z Z Z (jf [1] Z (jl O Z Z Z Z Z Z (aP (j2 O Z Z ?_)))))
 first | refine cy O Z Z Z Z Z Z Z Z Z Z Z ?_ | refine js O Z ?_ | refine aY O Z Z Z Z Z ?_
 refine js O Z (jf [3,2,1] Z (jn (AWP.seq (AWP.block (az (X := Nat) (fun n => ⟨[(1, .c (.pt 1 0 0)), (2, .c (.pt 2 0 0)), (3, eI n)], [(1, .box [.d (.int .i64 t.c), .d (bp t.xs)]), (2, .box [.d (.int .i64 0), .d .nils])]⟩) (fun n => n ≤ t.xs.length ∧ dG (t.xs.take n) = dG t.xs) (fun n => n) t.xs.length (Ent.env ⟨Z, Z, Z, trivial⟩) ?_ (fun n hi => ?_))))))
 exact ⟨Nat.le_refl _, by rw [List.take_length]⟩
 refine AWP.seq (ag (j3 O Z Z Z (jf [9,1,2,3] Z (au 7 Z Z Z (fun hx => ac hx Z Z Z (V O Z) Z Z ( ac hx Z Z Z (V O Z) Z Z ( ac hx Z Z Z (V O Z) Z Z ( ac hx Z Z Z (bc O Z Z (by first | omega | (simp at *; omega)) (by first | omega | (simp at *; omega))) Z Z ( ac hx Z Z Z (aV O Z Z Z Z Z Z Z Z (by first | omega | (simp at *; omega)) (cJ (by first | omega | (simp at *; omega)) (by first | omega | (simp at *; omega)))) Z Z ( ac hx Z Z Z (V O Z) Z Z ( ac hx Z Z Z (V O Z) Z Z ( AN.nil)))))))) Z Z ?_))))
 first | refine aa (ak O Z Z Z Z Z) Z Z Z ?_ | refine aa (aj O Z Z Z Z Z) Z Z Z ?_ | refine aa (Val.pickB O Z Z Z Z Z) Z Z Z ?_
 refine jf [17,1,2,3] Z (jn (AWP.cond O Z Z (fun hc17 => ?_) (fun hc17 => ?_)))
 refine AWP.skip (AWP.block (AWP.region (js O Z ?_)))
 first | refine ji O Z ?_ | refine aY O Z Z Z Z Z ?_
 refine js O Z (jf [3,17,1,2] Z (jn ?_))
 rw [Bool.cond_false_right, Bool.and_eq_true, decide_eq_true_eq, decide_eq_true_eq] at hc17
 obtain ⟨k, hk⟩ : ∃ k, n = k + 1 := ⟨n - 1, by omega⟩
 subst hk
 have hk2 : ((k + 1 : Nat) : Int) - 1 = k := by omega
 rw [hk2] at hc17
 refine ⟨k, Ent.to ⟨Z, Z, by rw [hk2]; rfl, trivial⟩ Z, ⟨by omega, ?_⟩, Nat.lt_succ_self k⟩
 rw [← hi.2, lz (by omega) (by simpa using hc17.2)]
 refine AWP.exit (ag (j3 O Z Z Z ?_))
 have hd : dG (t.xs.take n) = t.xs.take n := lA hi.1 (by
  rw [Bool.cond_false_right] at hc17
  rcases Nat.eq_zero_or_pos n with h0 | h0
  ·
   exact .inl h0
  ·
   refine .inr (fun h9 => ?_)
   have e1 : ((n : Int) - 1).toNat = n - 1 := by omega
   rw [e1, h9] at hc17; simp at hc17; omega)
 have ht := hi.2
 rw [hd] at ht
 refine aa ((cL O Z Z ⟨by omega, by simp; omega⟩).cast (v' := cD (dG t.xs)) (by rw [← ht]; simp [List.map_take])) Z Z Z (js O Z (jf [24,23,17,1,2,3] Z (jo O Z Z Z Z Z Z Z Z Z Z Z Z (jf [17,1,2,3] Z (aP (js O Z (jo O Z Z Z Z Z Z Z Z Z Z Z Z (jn (AWP.ret ?_)))))))))
 refine ⟨.inl Z, _, Ent.refl, _, Z, ?_⟩
 exact .v (.agg (aw Z))
theorem kB {f : Tm → Int} : ∀ {ts : List Tm} {ms : List Int}, ts.length ≤ ms.length → cv f (ts.take ts.length) (ms.take ts.length) = cv f ts ms
 | [], ms, _ => by cases ms <;> simp [cv]
 | t :: ts, [], h => by simp at h
 | t :: ts, m :: ms, h => by
  have := kB (f := f) (ts := ts) (ms := ms) (by simpa using h)
  simp only [List.length_cons, List.take_succ_cons, cv] at this ⊢
  rw [this]
theorem pN {ts : List Tm} {ms : List Int} (h : ts.length ≤ ms.length) : cn (ts.take ts.length) (ms.take ts.length) = cn ts ms := by
 unfold cn
 apply List.map_congr_left
 intro k _
 exact kB h
theorem sW {ts : List Tm} {ms : List Int} (hc : CtxOk ts) (hm : ms.all num = true) (hle : ts.length ≤ ms.length) : MQ h1 h2 128 [cr ts, cD ms] [] (Plain (cZ (gY ts ms))) := by
 refine MC.data (jB 55 h1 h2 Tryz.func128 Z Z Z fun O hF => ?_)
 have hl : ms.length ≤ L := by simpa [As.fact, A.fact, M.fact, D.fact, Ds.fact] using hF.2.1.1
 have hlc := hc.len
 refine ag (jl O Z Z Z Z Z Z (aP (AOps.heap (er O Z Z Z Z Z Z Z Z Z (by first | omega | (simp at *; omega)) (by first | omega | (simp at *; omega)) (by first | omega | (simp at *; omega)) (by first | omega | (dsimp only; omega) | (simp only [List.length_map, beq_iff_eq, decide_eq_true_eq, decide_eq_false_iff_not, Bool.not_eq_true', Bool.not_eq_false', Bool.not_true, Bool.not_false, Int.not_lt, Int.not_le] at *; omega)) (by first | omega | (simp at *; omega)) Z Z Z) Z (js O Z (jf [11,4,0,1] Z (jl O Z Z Z Z Z Z (jo O Z Z Z Z Z Z Z Z Z Z Z Z (jn (AWP.seq (ag (js O Z ?_)))))))))))
 first | refine cy O Z Z Z Z Z Z Z Z Z Z Z ?_ | refine js O Z ?_ | refine aY O Z Z Z Z Z ?_
 refine js O Z (jn (AWP.block (az (X := Nat) (fun i => ⟨[(1, cD ms), (4, .c (.pt 4 0 0)), (5, .c (.pt 5 0 0)), (12, cr ts), (13, eI ts.length), (14, eI i)], [(4, .box [.d (.int .i64 0), .d .nils]), (5, .box [.d (.int .i64 (cv Tm.c (ts.take i) (ms.take i))), .rs 10 0 10]), (10, ba (cn (ts.take i) (ms.take i)))]⟩) (fun i => i ≤ ts.length) (fun i => ts.length - i) 0 (Ent.to ⟨Z, Z, Z, Z, Z, Z, trivial⟩ Z) ?_ (fun i hi => ?_))))
 exact Nat.zero_le _
 refine ag (js O Z (jn (AWP.seq (AWP.cond O Z Z (fun hc15 => ?_) (fun hc15 => ?_)))))
 try simp only [bg] at hc15
 refine AWP.skip (AWP.seq (AWP.block (ag (js O Z ?_))))
 first | refine oE O Z Z Z Z Z Z Z Z Z Z Z ?_ | refine dR O Z Z Z Z Z Z Z Z Z Z Z ?_ | refine aY O Z Z Z Z Z ?_
 refine js O Z (jf [18,16,15,1,4,5,12,13,14] Z (jl O Z Z Z Z Z Z (js O Z (jf [6,7,18,15,1,4,5,12,13,14] Z (jo O Z Z Z Z Z Z Z Z Z Z Z Z (jn (AWP.seq ?_)))))))
 have hi0 := hi
 have hts := Small.of (hc.get (show i < ts.length by omega))
 have hd1 := iK (f := Tm.c) (ts := ts) (ms := ms) (fun t ht => (Small.of (hc.ok t ht)).c) hm hi (by omega)
 have hd2 := fF (f := Tm.c) (ts := ts) (ms := ms) (i := i) (by omega) (by omega)
 have hmi : num (ms.getD i default) = true := by rw [aI (by omega)]; exact List.all_eq_true.1 hm _ (List.getElem_mem _)
 have hmu := el hmi hts.c
 refine f6 O [_,_,_,_,_,_,_,_,_,_,_,_] [pn [] 0 0, pn [0] 0 0, pn [] 0 0, pn [] 0 0, pn [2,3] 0 0, pn [2,3,4] 0 0, pn [] 0 0, pn [6] 0 0, pn [2,3,4,5,6,7] 0 0, pn [0,1,2,3,4,5,6,7,8] 0 0, pn [0,1,2,3,4,5,6,7,8,9] 0 0, pe [0,1,2,3,4,5,6,7,8,9,10] 0] [11] [_,_] (kc O Z (kc O Z (kc O Z (kc O Z (ai (aB O Z Z Z Z Z Z Z Z (cq (by first | omega | (simp at *; omega)))) (kc O Z (kc O Z (kc O Z (ai (bc O Z Z (by first | omega | (simp at *; omega)) (by first | omega | (simp at *; omega))) (ai (bc O Z Z (by first | omega | (simp at *; omega)) (by first | omega | (simp at *; omega))) (kc O Z (ai (aC O Z Z Z Z Z Z Z Z Z Z Z Z Z) trivial)))))))))))) ?_
 refine jw [6,7,18,15,1,4,5,12,13,14] Z (bZ ?_)
 refine ag (j2 O Z Z ?_)
 first | refine cy O Z Z Z Z Z Z Z Z Z Z Z ?_ | refine js O Z ?_ | refine aY O Z Z Z Z Z ?_
 refine js O Z (jn (AWP.block (az (X := Nat) (fun j => ⟨[(1, cD ms), (4, .c (.pt 4 0 0)), (5, .c (.pt 5 0 0)), (12, cr ts), (13, eI ts.length), (14, eI i), (6, eI i), (31, cD (ts.getD i default).xs), (32, eI (ts.getD i default).xs.length), (33, eI j)], [(4, .box [.d (.int .i64 0), .d .nils]), (5, .box [.d (.int .i64 (cv Tm.c (ts.take i) (ms.take i) + ms.getD i default * (ts.getD i default).c)), .rs 10 0 10]), (10, ba (dX ts ms i j))]⟩) (fun j => j ≤ (ts.getD i default).xs.length) (fun j => (ts.getD i default).xs.length - j) 0 (((aT [4,5,10] (e' := [(1, _), (4, _), (5, _), (12, _), (13, _), (14, _), (6, _), (31, _), (32, _), (33, _)]) Z Z ⟨Z, Z, Z, Z, Z, Z, Z, Z, Z, Z, trivial⟩ Z)).trans (Ent.to ⟨Z, Z, Z, Z, Z, Z, Z, Z, Z, Z, trivial⟩ (by rw [lE]; rfl))) ?_ (fun j hi => ?_))))
 exact Nat.zero_le _
 refine ag (js O Z (jn (AWP.seq (AWP.cond O Z Z (fun hc34 => ?_) (fun hc34 => ?_)))))
 try simp only [bg] at hc34
 refine AWP.skip (AWP.seq (AWP.block (ag (js O Z ?_))))
 first | refine oE O Z Z Z Z Z Z Z Z Z Z Z ?_ | refine dR O Z Z Z Z Z Z Z Z Z Z Z ?_ | refine aY O Z Z Z Z Z ?_
 refine j3 O Z Z Z (jf [9,8,34,1,4,5,12,13,14,6,31,32,33] Z (jn ?_))
 have hjl : j < 10 := by have := kn (hc.get (show i < ts.length by omega)); omega
 have hpj := kv (ts := ts) (ms := ms) (i := i) hjl
 have hps := lF (ts := ts) (ms := ms) (i := i) hjl
 have hpl := dx (ts := ts) (ms := ms) (i := i) (j := j)
 have hd3 := iK (f := nD j) (ts := ts) (ms := ms) (fun t ht => (Small.of (hc.ok t ht)).get j) hm hi0 (by omega)
 have hmx := el hmi (hts.get j)
 rw [show (ts.getD i default).xs.getD j 0 = (ts.getD i default).xs.getD j default from Z] at hmx
 refine f6 O [_,_,_,_,_,_,_,_,_,_,_,_,_,_] [pn [] 0 0, pn [0] 0 0, pn [] 0 0, pn [0,1,2] 0 0, pn [0,1,2,3] 0 0, pn [] 0 0, pn [] 0 0, pn [5,6] 0 0, pn [5,6,7] 0 0, pn [] 0 0, pn [5,6,7,8,9] 0 0, pn [0,1,2,3,4,5,6,7,8,9,10] 0 0, pn [0,1,2,3,4,5,6,7,8,9,10,11] 0 0, pe [0,1,2,3,4,5,6,7,8,9,10,11,12] 0] [13] [_,_] (kc O Z (kc O Z (kc O Z (ai (cL O Z Z (by first | omega | (simp at *; omega))) (ai (bO O (ex := [.int .i64 ((dX ts ms i j).getD j default)]) Z Z Z Z (rM (by omega)) Z) (kc O Z (kc O Z (ai (aB O Z Z Z Z Z Z Z Z (cq (by first | omega | (simp at *; omega)))) (kc O Z (kc O Z (ai (bc O Z Z (by first | omega | (simp at *; omega)) (by first | omega | (simp at *; omega))) (ai (bc O Z Z (by first | omega | (simp at *; omega)) (by first | omega | (simp at *; omega))) (ai (cL O Z Z (by first | omega | (simp at *; omega))) (ai (dc (ex := [.int .i64 ((dX ts ms i j).getD j default)]) (xs' := (dX ts ms i (j + 1)).map (fun n => [D.int .i64 n])) O Z Z Z Z Z Z Z Z Z Z Z Z Z Z Z (rM (by omega)) (by rw [← hps, List.map_set]; simp only [Int.toNat_natCast, Nat.zero_add]; rfl) Z) trivial)))))))))))))) ?_
 refine jw [34,1,4,5,12,13,14,6,31,32,33] Z (bZ ?_)
 refine AWP.region ?_
 first | refine ji O Z ?_ | refine aY O Z Z Z Z Z ?_
 refine js O Z (jn ?_)
 refine ⟨j + 1, Ent.to ⟨Z, Z, Z, Z, Z, Z, Z, Z, Z, Z, trivial⟩ Z, by omega, by omega⟩
 try simp only [bg] at hc34
 refine AWP.exit (AWP.region ?_)
 first | refine ji O Z ?_ | refine aY O Z Z Z Z Z ?_
 refine js O Z (jn ?_)
 refine ⟨i + 1, ((aT [4,5,10] (e' := [(1, _), (4, _), (5, _), (12, _), (13, _), (14, _)]) Z Z ⟨Z, Z, Z, Z, Z, Z, trivial⟩ Z)).trans (Ent.to ⟨Z, Z, Z, Z, Z, Z, trivial⟩ ?_), by omega, by omega⟩
 rw [hd2, ← m4 (j := j) (by omega) (by omega) (by omega)]; rfl
 try simp only [bg] at hc15
 refine AWP.exit (ag ?_)
 obtain rfl : i = ts.length := by omega
 have hcl := i5 (ts := ts.take ts.length) (ms := ms.take ts.length)
 refine aA (Ent.freeze 10 (e' := [(5, _), (4, _)]) Z (.cons Z (.keep Z) (.cons Z (.keep Z) .nil)) (.cons Z (.box (.cons (.keep Z) (.cons (.keep Z) .nil))) (.cons Z (.box (.cons (.keep Z) (.cons (.row Z (by rw [List.length_map, hcl])) .nil))) (.skip .nil)))) ?_
 refine js O Z (ao O Z Z Z Z (wQ (t := ⟨cv Tm.c (ts.take ts.length) (ms.take ts.length), cn (ts.take ts.length) (ms.take ts.length)⟩) h1 h2) (ab Z) Z Z Z Z (B0 := 55000) Z Z (jf [54,5,4] Z (jo O Z Z Z Z Z Z Z Z Z Z Z Z (jn (AWP.ret ?_)))))
 refine ⟨.inl Z, _, Ent.refl, _, Z, ?_⟩
 have e1 : cv Tm.c (ts.take ts.length) (ms.take ts.length) = cv Tm.c ts ms := kB hle
 have e2 : cn (ts.take ts.length) (ms.take ts.length) = cn ts ms := pN hle
 rw [e1, e2]
 exact .v (.agg (aw Z))
theorem wP {t : Tm} (h : t.ok = true) : CtxOk [t] := ⟨fun u hu => by simp at hu; subst hu; exact h, by simp⟩
theorem wO {t : Tm} (h : Small t) : -1000000 ≤ cv Tm.c [t] [-1] ∧ cv Tm.c [t] [-1] ≤ 1000000 := by
 have := vQ.1 h.c
 show -1000000 ≤ -1 * t.c + 0 ∧ -1 * t.c + 0 ≤ 1000000
 omega
theorem wV {t : Tm} (ht : t.ok = true) : MQ h1 h2 130 [cZ t] [] (Plain (cZ (ql t))) := by
 refine MC.data (jB 13 h1 h2 Tryz.func130 Z Z Z fun O hF => ?_)
 have hd1 := wO (Small.of ht)
 refine ag (jx O Z Z Z Z Z Z Z Z (jf [1] Z (jl O Z Z Z Z Z Z (aP (js O Z (jf [4,2] Z (AOps.heap (dO O Z Z Z Z Z Z Z Z Z Z Z) Z (jf [5,2] Z (AOps.heap (bE O Z Z Z) Z (aA (Ent.freeze 5 (e' := [(6, _), (5, _), (2, _)]) Z (.cons Z (.keep Z) (.cons Z (.c (.row Z Z)) (.cons Z (.keep Z) .nil))) (.cons Z (.box (.cons (.keep Z) (.cons (.keep Z) .nil))) (.cons Z (.box (.cons (.keep Z) (.cons (.keep Z) .nil))) (.skip (.cons Z .row .nil))))) ?_))))))))))
 refine aA (Ent.freeze 6 (e' := [(6, _), (5, _), (2, _)]) Z (.cons Z (.c (.row Z Z)) (.cons Z (.keep Z) (.cons Z (.keep Z) .nil))) (.cons Z (.box (.cons (.keep Z) (.cons (.keep Z) .nil))) (.cons Z (.box (.cons (.keep Z) (.cons (.keep Z) .nil))) (.skip .nil)))) ?_
 refine ao O Z Z Z Z (sW (ts := [t]) (ms := [-1]) h1 h2 (wP ht) (by decide) (Nat.le_refl 1)) (ab Z) Z Z Z Z (B0 := 8000) Z Z (jf [7,2] Z (jl O Z Z Z Z Z Z (jo O Z Z Z Z Z Z Z Z Z Z Z Z (aP (j2 O Z Z ?_)))))
 first | refine ji O Z ?_ | refine aY O Z Z Z Z Z ?_
 refine js O Z (jf [11,10,3,7,2] Z (jo O Z Z Z Z Z Z Z Z Z Z Z Z (jf [3,7,2] Z (aP (js O Z (jo O Z Z Z Z Z Z Z Z Z Z Z Z (jn (AWP.ret ?_))))))))
 refine ⟨.inl Z, _, Ent.refl, _, Z, ?_⟩
 exact .v (.agg (aw Z))
theorem uX {n : Int} : MQ h1 h2 102 [eI n] [] (Plain (eI n)) := by
 refine av ?_ Z
 refine jB 4 h1 h2 Tryz.func102 Z Z Z fun O hF => ?_
 refine ag (js O Z (aP (j2 O Z Z (jn (AWP.ret ?_)))))
 refine ⟨.inl Z, _, Ent.refl, _, Z, ?_⟩
 first | rfl | skip
theorem wR {c : Tm} {r : List Tm} (hl : (c :: r).length ≤ 1000) : MQ h1 h2 104 [cr (c :: r)] [] (Rows (.c (.rs 0 0 (c :: r).length)) [aE (c :: r)]) := by
 refine bF (jB 8 h1 h2 Tryz.func104 Z Z Z fun O hF => ?_)
 refine ag (js O Z (jn (AWP.seq (ag (j2 O Z Z (jn (AWP.cond O Z Z (fun hc4 => ?_) (fun hc4 => ?_))))))))
 exact absurd (show false = true from hc4) (by decide)
 refine AWP.skip (ag (AOps.heap (bE O Z Z Z) Z (js O Z (jf [6,5,3,2,0] Z (aA (cp 5 Z) (AOps.heap (bD (own := false) (zs := (c :: r).map Tm.cells) (n := (c :: r).length) O Z Z Z Z Z Z Z Z Z Z Z Z Z Z Z Z (.row Z Z) (.slc (.inl Z)) (by simp) Z (by simp at hl ⊢; omega) (by simp at hl ⊢; omega) Z (by simp)) Z (js O Z (jf [2,3,0] Z (jn (AWP.ret ?_))))))))))
 refine ⟨.inl Z, _, Ent.refl, _, Z, [7], by decide, Z, Z, Z⟩
theorem oP {t : Tm} : MQ h1 h2 129 [cZ t] [] (Rows (.agg [.d (.int .i64 t.c), .rs 0 0 t.xs.length]) [ba t.xs]) := by
 refine bF (jB 9 h1 h2 Tryz.func129 Z Z Z fun O hF => ?_)
 refine ag (jx O Z Z Z Z Z Z Z Z (jl O Z Z Z Z Z Z (jn (AWP.seq (f6 O [_,_,_,_,_,_,_] [pn [] 0 1, pn [0] 0 1, pn [] 0 0, pn [2] 0 0, pe [2,3] 0, pn [0,1,2,3,4] 1 1, pe [0,1,2,3,4,5] 1] [4,6] [_,_,_] (ai (kc O Z (V O Z)) (ai (kc O Z (V O Z)) (kc O Z (kc O Z (ai (cV O (B0 := 8000) Z Z Z Z (sX (xs := t.xs) h1 h2) (ab Z) Z Z Z Z Z) (kc O Z (ai (aC O Z Z Z Z Z Z Z Z Z Z Z Z Z) trivial))))))) ?_)))))
 refine AWP.ret ?_
 refine ⟨.inl Z, _, Ent.refl, _, Z, [8000], by decide, Z, Z, Z⟩
theorem ra {t : Tm} : iD t (-1) ⟨1, []⟩ (-1) = cn [t] [-1] := by
 unfold iD cn
 apply List.map_congr_left
 intro k _
 show -1 * t.xs.getD k 0 + -1 * 0 = -1 * t.xs.getD k 0 + 0
 omega
theorem te {t : Tm} : bo t = if (ql t).ok = true then (ql t, true) else (⟨0, []⟩, false) := by
 unfold bo pp qj
 rw [ra]
 have : (-1 * t.c + -1 * (⟨1, []⟩ : Tm).c) = cv Tm.c [t] [-1] - 1 := by
  show -1 * t.c + -1 * 1 = -1 * t.c + 0 - 1
  omega
 rw [this]
inductive Pf where
  | close (n : Nd)
  | tight (n : Nd) (a : Pf)
  | split (n : Nd) (a b : Pf)
structure Ex where
  es : List (Int × List Tm)
  flaw : Int
def fl (b : Nat → Bool) : Nat → Nat → Int → Int
  | _, 0, f => f
  | k, n + 1, f => fl b (k + 1) n (if b k = true ∧ f < 0 then (k : Int) else f)
structure Eqs (p : List Nd) (c0 : List Tm) (H : Nat → Bool) (A : Nat → List Tm) (R : Nat → Bool) : Prop where
  h0 : 0 < p.length → H 0 = true ∧ A 0 = c0
  h : ∀ j, 0 < j → j < p.length → H j = R (uk p j j).1.toNat
  a : ∀ j, 0 < j → j < p.length → H j = true → A j = ub (p.getD (uk p j j).1.toNat default) (A (uk p j j).1.toNat) (uk p j j).2
  r : ∀ j, j < p.length → R j = (H j && qF (p.getD j default) (A j))
theorem rN {ts : List Tm} : MQ h1 h2 126 [cr ts] [] (Rows (.c (.rs 0 0 ts.length)) [df ts]) := by
 refine bF (jB 19 h1 h2 Tryz.func126 Z Z Z fun O hF => ?_)
 have hl : ts.length ≤ L := by simpa [As.fact, A.fact, M.fact, D.fact, Ds.fact] using hF.1.1
 refine ag (js O Z (aP (js O Z (jn (AWP.seq (ag (js O Z ?_)))))))
 first | refine cy O Z Z Z Z Z Z Z Z Z Z Z ?_ | refine js O Z ?_ | refine aY O Z Z Z Z Z ?_
 refine js O Z (jn (AWP.block (az (X := Nat) (fun i => ⟨[(3, .c (.rs 900 0 i)), (6, cr ts), (7, eI ts.length), (8, eI i)], [(900, df (ts.take i))]⟩) (fun i => i ≤ ts.length) (fun i => ts.length - i) 0 ((fi 3 900 2 true Z Z).trans (Ent.to ⟨Z, Z, Z, Z, trivial⟩ Z)) ?_ (fun i hi => ?_))))
 exact Nat.zero_le _
 refine ag (js O Z (jn (AWP.seq (AWP.cond O Z Z (fun hc9 => ?_) (fun hc9 => ?_)))))
 try simp only [bg] at hc9
 refine AWP.skip (AWP.seq (AWP.block (ag ?_)))
 first | refine oE O Z Z Z Z Z Z Z Z Z Z Z ?_ | refine dR O Z Z Z Z Z Z Z Z Z Z Z ?_ | refine aY O Z Z Z Z Z ?_
 refine js O Z (jf [11,9,3,6,7,8] Z (jl O Z Z Z Z Z Z (aq ?_)))
 refine jo O Z Z Z Z Z Z Z Z Z Z Z Z (aq ?_)
 refine jn (AWP.region (j2 O Z Z (aU O (B0 := 15000) Z Z Z Z (oP (t := ts.getD i default) h1 h2) (ab Z) Z Z Z Z Z Z (aq ?_))))
 refine jf [14,12,5,11,9,3,6,7,8] Z (AOps.heap (lP (ds := Tm.cells (ts.getD i default)) O Z Z Z Z Z Z Z Z Z Z (.d Z (.rs Z (List.length_map _).symm .nil)) Z Z Z) Z (aq ?_))
 refine aq ?_
 refine jf [15,12,5,11,9,3,6,7,8] Z (AOps.heap (cX (zs := (ts.take (i + 1)).map Tm.cells) (n := i + 1) O Z Z Z Z Z Z Z Z Z Z Z Z Z Z Z Z (.row Z (by simp; omega)) Z Z (by decide) Z (by simp; omega) (by simp; omega) (by rw [List.take_succ_eq_append_getElem (by omega), List.map_append, aI (by omega)]; rfl) (by simp; omega)) Z (aq ?_))
 refine aq ?_
 refine js O Z (jf [3,5,11,9,6,7,8] Z (jn (AWP.region ?_)))
 first | refine ji O Z ?_ | refine aY O Z Z Z Z Z ?_
 refine js O Z (jn ?_)
 refine ⟨i + 1, ((aT [16] (e' := [(3, _), (6, _), (7, _), (8, _)]) Z Z ⟨Z, Z, Z, Z, trivial⟩ Z).trans (af 16 900 Z Z)), by omega, by omega⟩
 try simp only [bg] at hc9
 refine AWP.exit (ag (j2 O Z Z (jn (AWP.ret ?_))))
 obtain rfl : i = ts.length := by omega
 rw [List.take_length]
 refine ⟨.inl Z, _, Ent.refl, _, Z, [900], by decide, Z, Z, Z⟩
theorem pG : ∀ {k : Int} {xs : List Int}, aH mI bW k (aH mI bW k xs) = aH mI bW k xs
 | _, [] => rfl
 | k, x :: xs => by
  show k :: aH mI bW (k + 1) (aH mI bW (k + 1) xs) = k :: aH mI bW (k + 1) xs
  rw [pG]
theorem ir (xs : List Int) (k : Int) : (if aH mI bW k xs = aH mI bW k (aH mI bW k xs) then k + ((aH mI bW k xs).length : Int) else -1) = k + xs.length := by
 rw [if_pos pG.symm, aK]
theorem fW {α : Type} [Inhabited α] {f : Int → α → α} {sz : α → Nat} : ∀ {l : List α} {k : Int} {i : Nat}, i < l.length → (aH f sz k l).getD i default = f (k + bf sz (l.take i)) (l.getD i default)
 | [], _, _, h => by simp at h
 | a :: r, k, 0, _ => by simp [aH, bf]
 | a :: r, k, i + 1, h => by
  have := fW (f := f) (sz := sz) (l := r) (k := k + sz a) (i := i) (by simpa using h)
  simp only [aH, List.getD_cons_succ, List.take_succ_cons] at this ⊢
  rw [this]
  have e : k + (sz a : Int) + (bf sz (r.take i) : Int) = k + (bf sz (a :: r.take i) : Int) := by simp [bf]; omega
  rw [e]
theorem vY {ts : List Tm} {k : Int} (hk0 : 0 ≤ k) (hk1 : k + bf nT ts ≤ 1073741824) : MQ h1 h2 39 [cr (aH mT nT k ts), eI k] [] (Plain (eI (k + bf nT ts))) := by
 refine av ?_ Z
 refine jB 31 h1 h2 Tryz.func39 Z Z Z fun O hF => ?_
 have hlm := aK (f := mT) (sz := nT) (k := k) (l := ts)
 have hl : (aH mT nT k ts).length ≤ L := by simpa [As.fact, A.fact, M.fact, D.fact, Ds.fact] using hF.1.1
 refine ag (js O Z (jn (AWP.seq (ag (js O Z (jn (AWP.block (az (X := Nat) (fun i => ⟨[(0, cr (aH mT nT k ts)), (1, eI (k + bf nT (ts.take i))), (5, eI i)], []⟩) (fun i => i ≤ ts.length) (fun i => ts.length - i) 0 (Ent.env ⟨Z, by simp [bL, ar, bf], Z, trivial⟩) ?_ (fun i hi => ?_)))))))))
 exact Nat.zero_le _
 refine AWP.seq (ag (j2 O Z Z ?_))
 first | refine cy O Z Z Z Z Z Z Z Z Z Z Z ?_ | refine js O Z ?_ | refine aY O Z Z Z Z Z ?_
 refine js O Z (jf [9,0,1,5] Z (jn (AWP.cond O Z Z (fun hc9 => ?_) (fun hc9 => ?_))))
 refine AWP.skip (AWP.seq (AWP.block (AWP.seq (ag ?_))))
 have hil : i < ts.length := by have h9 := of_decide_eq_true hc9; omega
 have hg := fW (f := mT) (sz := nT) (k := k) hil
 have hcs := eQ (sz := nT) hil
 have hcl := il (sz := nT) (l := ts) (i := i + 1)
 rw [← aI hil] at hcs
 obtain ⟨t, ht⟩ : ∃ t, t = ts.getD i default := ⟨_, rfl⟩
 rw [← ht] at hg hcs
 simp only [nT] at hcs
 obtain ⟨K, hK⟩ : ∃ K, K = k + (bf nT (ts.take i) : Int) := ⟨_, rfl⟩
 rw [← hK] at hg ⊢
 refine j2 O Z Z (aa ((aB O Z Z Z Z Z Z Z Z (cq (by omega))).cast (v' := ptr (Tm.cells (mT K t))) (by rw [hg])) Z Z Z (j4 O Z Z Z Z (jf [18,9,0,1,5] Z (jn (AWP.cond O Z Z (fun hc18 => ?_) (fun hc18 => ?_))))))
 exact absurd hc18 (by simp)
 refine AWP.skip (ag (js O Z ?_))
 first | refine ji O Z ?_ | refine aY O Z Z Z Z Z ?_
 refine js O Z (jf [1,18,9,0,5] Z (aP (j2 O Z Z (aa ((aB O Z Z Z Z Z Z Z Z (cq (by omega))).cast (v' := ptr (Tm.cells (mT K t))) (by rw [hg])) Z Z Z (j3 O Z Z Z (jf [26,25,1,18,9,0,5] Z (ae O Z Z Z Z ((vZ (xs := aH mI bW (K + 1) t.xs) (k := K + 1) h1 h2 (by omega) (by omega)).plain (congrArg eI (ir t.xs (K + 1)))) (ab Z) Z Z Z Z Z (B0 := 28000) Z (js O Z (jf [1,18,9,0,5] Z (aP (j2 O Z Z (jn (AWP.cond O Z Z (fun hc29 => ?_) (fun hc29 => ?_))))))))))))))
 exact absurd (of_decide_eq_true hc29) (by omega)
 refine AWP.skip (AWP.region (js O Z ?_))
 first | refine ji O Z ?_ | refine aY O Z Z Z Z Z ?_
 refine js O Z (jf [5,29,28,1,18,9,0] Z (jn ?_))
 refine ⟨i + 1, Ent.env ⟨Z, ?_, Z, trivial⟩, by omega, by omega⟩
 rw [hcs]
 exact congrArg (fun z => some (eI z)) (by omega)
 refine AWP.exit (ag (j2 O Z Z (jn (AWP.ret ?_))))
 refine ⟨.inl Z, _, Ent.refl, _, Z, ?_⟩
 have h9 := of_decide_eq_false hc9
 obtain rfl : i = ts.length := by omega
 rw [List.take_length]
theorem ep (ts : List Tm) : bf nT ts = szs Tm.size ts := by
 unfold bf szs
 induction ts with
 | nil => rfl
 | cons t r ih =>
  simp only [List.map_cons, List.sum_cons, List.length_cons] at ih ⊢
  have : nT t = 1 + Tm.size t := rfl
  omega
theorem fU {left : Int} {n : Nat} (h : 0 ≤ dE left n) (h0 : 0 ≤ left) : (n : Int) ≤ left := by
 unfold dE at h
 split at h <;> omega
theorem jt {L S : Nat} {xs : List Int} (h : D.fact L (bp xs)) (hl : xs.length ≤ S) : D.fact S (bp xs) := by
 simp only [D.fact, List.length_map, eA, Ds.fact] at h ⊢
 exact ⟨hl, h.2⟩
theorem mf {α : Type} (f : α → Nat) : ∀ {xs : List α} {x : α}, x ∈ xs → f x ≤ (xs.map f).sum
 | y :: r, x, h => by
  simp only [List.map_cons, List.sum_cons]
  rcases List.mem_cons.1 h with rfl | h
  omega
  have := mf f h; omega
theorem kz {L S : Nat} {ts : List Tm} (h : D.fact L (bX ts)) (hl : szs Tm.size ts ≤ S) : D.fact S (bX ts) := by
 unfold szs at hl
 simp only [D.fact, List.length_map, eA] at h ⊢
 refine ⟨by omega, fun t ht => ?_⟩
 have h1 := h.2 t ht
 have h2 := mf Tm.size ht
 have h3 : Tm.size t = t.xs.length := rfl
 exact ⟨h1.1, jt h1.2.1 (by omega), trivial⟩
end Go.Al
/- What the laws of the certificates share: the types of their arguments; what came in reads as it did. -/
namespace Go.Proofs.YtbonielldgjhiaaGreat
open Go.ChangeShapes Go.WideShapes Go.ChangeAt Go.RowKit Go.Al

theorem ownK : ownKnob Tryz.prog.godebug = none := by kernel_rfl
theorem kidsK : Kids Tryz.prog (· < Tryz.prog.types.size) := kids_rows (by kernel_rfl) (by kernel_rfl)
theorem fullK : ∀ t e, t < Tryz.prog.types.size → Tryz.prog.underlying t = some (.slice e) → 0 < Tryz.prog.cellsOf e := slices_full_of Tryz.prog (by kernel_rfl)

abbrev qg : List Ty := [.int .i64]
abbrev oD : List Ty := [.int .i64, .slc qg]
theorem ul : TyOf Tryz.prog 2 qg := .int Tryz.underlying2
theorem wK : TyOf Tryz.prog 73 [.slc qg] := .slc Tryz.underlying73 ul (by kernel_rfl) (by decide)
theorem sR : TyOf Tryz.prog 91 oD := .struct Tryz.underlying91 (show FieldsAre Tryz.prog _ (qg ++ ([.slc qg] ++ [])) 0 from .cons rfl (by kernel_rfl) ul (.cons rfl (by kernel_rfl) wK .nil)) (by kernel_rfl)
theorem sS : TyOf Tryz.prog 22 [.slc oD] := .slc Tryz.underlying22 sR (by kernel_rfl) (by decide)
theorem eP {d : D} (h : Fits (.int .i64) d) : ∃ n, d = .int .i64 n := by cases h; exact ⟨_, rfl⟩
theorem iV {α : Type} {es : List Ty} {g : α → List D} (hg : ∀ e, FitsL es e → ∃ a, e = g a) : ∀ {xs : List (List D)}, FitsA es xs → ∃ ys : List α, xs = ys.map g
 | _, .nil => ⟨[], rfl⟩
 | _, .cons h1 h2 => by
  obtain ⟨a, rfl⟩ := hg _ h1
  obtain ⟨ys, rfl⟩ := iV hg h2
  exact ⟨a :: ys, Z⟩
theorem jr {d : D} (h : Fits (.slc qg) d) : ∃ xs, d = bp xs := by
 cases h with
 | slc h =>
  obtain ⟨xs, rfl⟩ := iV (g := fun n => [D.int .i64 n]) (fun e he => by
   cases he with
   | cons h1 h2 =>
     cases h2
     obtain ⟨n, rfl⟩ := eP h1
     exact ⟨n, Z⟩) h
  exact ⟨xs, Z⟩
theorem pJ {e : List D} (h : FitsL oD e) : ∃ t : Tm, e = t.cells := by
 cases h with
 | cons h1 h2 =>
  cases h2 with
  | cons h2 h3 =>
   cases h3
   obtain ⟨n, rfl⟩ := eP h1
   obtain ⟨xs, rfl⟩ := jr h2
   exact ⟨⟨n, xs⟩, Z⟩
theorem iv {d : D} (h : Fits (.slc oD) d) : ∃ ts, d = bX ts := by
 cases h with
 | slc h =>
  obtain ⟨xs, rfl⟩ := iV (g := Tm.cells) (fun e he => pJ he) h
  exact ⟨xs, Z⟩
theorem rdl_rms {L : Nat} {w : World} {ok : Nat → Prop} {m : Nat → Go.Al.Loc} : ∀ {ds : List D} {vs : List Value} {F : List Nat}, RDL L w ok ds vs F → F = [] → RMs L w ok m (ds.map .d) vs
 | _, _, _, .nil, _ => .nil
 | _, _, _, .cons (F1 := F1) (F2 := F2) h1 h2, hF => by
  obtain ⟨rfl, rfl⟩ := List.append_eq_nil_iff.1 hF
  exact .cons (.d h1) (rdl_rms h2 Z)
section
variable {H : Type} {enc : TypeId × Value → H} {P : Program} {w w' : World}
theorem rW (hs : ∀ b, b < w.heap.size → Same w w' b) {p : MemPlace} (hp : p.block < w.heap.size) : w.sameAt w' p := by
 cases p with
 | cell b o => exact (hs b hp).cell
 | map b => exact hs b hp
theorem trodAll_same (hs : ∀ b, b < w.heap.size → Same w w' b) {base : Nat} {sp : Nat → Bool} {held : Bool} : ∀ {ts : List TypeId} {vs : List Value} {ds : List (DataW H)} {ps : List MemPlace}, (∀ p ∈ ps, p.block < w.heap.size) → DataW.TrodAll enc P w base sp held ts vs ds ps → DataW.TrodAll enc P w' base sp held ts vs ds ps
 | [], [], [], _, _, h => h
 | _ :: _, _ :: _, _ :: _, _, hl, ⟨p, q, ⟨n, h1⟩, h2, e⟩ =>
  ⟨p, q, ⟨n, DataW.trod_carry n _ _ _ h1 (fun x hx => rW hs (hl x (by rw [e]; exact List.mem_append_left _ hx)))⟩, trodAll_same hs (fun x hx => hl x (by rw [e]; exact List.mem_append_right _ hx)) h2, e⟩
theorem n9 (hf : Go.Al.Frame w w' []) (may : MemPlace → Prop) : w.keptBut w' may := by
 refine ⟨hf.os, hf.output, fun i hi => ?_⟩
 have h := hf.block i hi (by simp)
 unfold Same at h
 rw [h]
 cases hx : w.heap[i]? with
 | none => trivial
 | some o =>
  cases o with
  | cells c t fr => exact ⟨Z, Z, Z, fun _ _ => rfl⟩
  | map es clock => exact .inr ⟨Z, Z⟩
  | _ => rfl
theorem n7 (hf : Go.Al.Frame w w' []) {a : Addr} (ha : a.block < w.heap.size) : w'.frozen? a = w.frozen? a := by
 have h := hf.block a.block ha (by simp)
 unfold Same at h
 unfold World.frozen?
 rw [h]
theorem post_of_old {f : Func} {s : ChangeSpec} {apart fresh handsOn again : Bool} {args : Array Value} {v : Value} {ds gs : List (DataW H)} {before pa pv : List MemPlace}
    (hW : DataW.Whole enc P f.params.toList s.vars apart w args.toList ds gs before)
    (hres : ∀ (b : Nat) (sp : Nat → Bool) (hd : Bool), DataW.TrodAll enc P w' b sp hd f.resultTypes.toList (v.resultList f.resultTypes.size) (s.fn H (ds ++ gs)).results [])
    (hargs : ∀ sp : Nat → Bool, (∀ p ∈ before, sp p.block = true) → DataW.TrodAll enc P w' 0 sp true f.params.toList args.toList (s.fn H (ds ++ gs)).args pa)
    (hvars : ∀ sp : Nat → Bool, (∀ p ∈ before, sp p.block = true) → DataW.TrodVars enc P w' sp s.vars (s.fn H (ds ++ gs)).vars pv)
    (hps : before = pa ++ pv) (hf : Go.Al.Frame w w' [])
    (hok : ∀ (j : Nat) (t : TypeId) (r : Value), f.resultTypes[j]? = some t → (v.resultList f.resultTypes.size)[j]? = some r → Value.okWide P w' .any 0 t r) :
    s.post enc P f apart fresh handsOn again w args v w' := by
 have hlt := hW.lt
 have hold : ∀ p ∈ before, (fun b => decide (b < w.heap.size)) p.block = true := fun p hp => by simpa using hlt p hp
 refine ⟨ds, gs, before, [], pa, pv, hW, hres _ _ _, hargs _ hold, hvars _ hold, World.keptBut_mono (fun p hp => ⟨hp, ?_⟩) (n9 hf (· ∈ before)), fun _ => ?_⟩
 rw [hps, List.mem_append] at hp
 exact Or.inr hp
 obtain ⟨_, _, _, _, _, hz, hn⟩ := hW
 refine ⟨hok, _, _, ([] ++ pa) ++ pv, ⟨[] ++ pa, pv, trodAll_append (hargs _ (fun _ _ => rfl)) (hres _ _ _), hvars _ (fun _ _ => rfl), Z, ?_, ?_⟩, ?_⟩
 intro b off hp
 have hp' : MemPlace.cell b off ∈ before := by rw [hps]; simpa using hp
 rw [n7 hf (hlt _ hp')]
 exact hz b off hp'
 intro ha
 have := hn ha
 rw [hps] at this
 simpa using this
 intro p hp _
 rw [hps]
 simpa using hp
end

end Go.Proofs.YtbonielldgjhiaaGreat
