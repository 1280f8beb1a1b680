/- The reference proves. -/
import Derived.Test.YtbkloknmpkgmbaaC
import Derived.Test.YtbkloknmpkgmbaaF
set_option linter.unusedVariables false
set_option linter.unusedSimpArgs false
set_option maxRecDepth 10000
set_option maxHeartbeats 4000000
open Go.Proofs
namespace Go.Al
variable {L : Nat} (h1 : 4096 ≤ L) (h2 : L ≤ 1073741824)
theorem jI {t : Tm} (h : t.ok = true) (hg : ¬ aE t.xs < 2) : (aM t).2 = true := by rw [← dC h, gp, if_neg hg]
theorem w4 {xs ys : List Int} : MQ h1 h2 98 [aQ xs, aQ ys] [] (Plain (eB (decide (xs = ys)))) := by
 refine aw ?_ Z
 refine jB 26 h1 h2 Try.func98 Z Z Z fun O hF => ?_
 have hl : xs.length ≤ L := by simpa [As.fact, A.fact, M.fact, D.fact, Ds.fact] using hF.1.1
 have hl2 : ys.length ≤ L := by simpa [As.fact, A.fact, M.fact, D.fact, Ds.fact] using hF.2.1.1
 refine ag (js O Z (jn (ac (ag (js O Z (cj O Z (js O Z (cj O Z (js O Z (jn (ae O Z Z (fun hc10 => ?_) (fun hc10 => ?_))))))))))))
 try simp only [ba] at hc10
 refine ag (js O Z (jr ?_))
 refine ⟨.inl Z, _, ak, _, Z, ?_⟩
 rw [decide_eq_false (fun e => by subst e; simp at hc10)]
 try simp only [ba] at hc10
 refine aj (ac (ag (js O Z (jn (ah (al (X := Nat) (fun i => ⟨[(0, aQ xs), (1, aQ ys), (5, eI i)], []⟩) (fun i => i ≤ xs.length ∧ ∀ j, j < i → xs[j]? = ys[j]?) (fun i => xs.length - i) 0 (Ent.env ⟨Z, Z, Z, trivial⟩) ?_ (fun i hi => ?_)))))))
 exact ⟨b9 _, fun j hj => absurd hj (Nat.not_lt_zero j)⟩
 refine ac (ag (j2 O Z Z (cj O Z (js O Z (jn (ae O Z Z (fun hc14 => ?_) (fun hc14 => ?_)))))))
 try simp only [ba] at hc14
 refine aj (ac (ah (ac (j7 O [_,_,_,_,_,_,_,_,_] [pn [] 0 0, pn [] 0 0, pn [0,1] 0 0, pn [0,1,2] 0 0, pn [] 0 0, pn [] 0 0, pn [4,5] 0 0, pn [4,5,6] 0 0, pn (rg 0 8) 0 0] [] [_] (kc O Z (kc O Z (ai (vN O Z) (kc O Z (kc O Z (kc O Z (ai (vN O Z) (kc O Z (kc O Z trivial))))))))) ?_))))
 refine ae O Z Z (fun hc25 => ?_) (fun hc25 => ?_)
 try simp only [ba] at hc25
 refine ag (js O Z (jr ?_))
 refine ⟨.inl Z, _, ak, _, Z, ?_⟩
 rw [decide_eq_false (fun e => by subst e; simp at hc25)]
 try simp only [ba] at hc25
 refine aj (af (js O Z (ji O Z (js O Z (jn ?_)))))
 refine ⟨i + 1, Ent.env ⟨Z, Z, Z, trivial⟩, ⟨by omega, fun j hj => ?_⟩, by omega⟩
 rcases Nat.lt_or_ge j i with h | h
 exact hi.2 j h
 obtain rfl : j = i := by omega
 rw [ar (by omega), ar (by omega)] at hc25
 rw [List.getElem?_eq_getElem (by omega), List.getElem?_eq_getElem (by omega), hc25]
 try simp only [ba] at hc14
 refine aD (ag (js O Z (jr ?_)))
 refine ⟨.inl Z, _, ak, _, Z, ?_⟩
 have e : xs = ys := List.ext_getElem? fun j => by
  rcases Nat.lt_or_ge j i with h | h
  ·
   exact hi.2 j h
  ·
   rw [List.getElem?_eq_none (by omega), List.getElem?_eq_none (by omega)]
 rw [decide_eq_true e]
theorem vv {a b : Tm} (h : a.c = b.c) : MQ h1 h2 95 [ptr a.cells, ptr b.cells] [] (Plain (eB (decide (a = b)))) := by
 refine aw ?_ Z
 refine jB 25 h1 h2 Try.func95 Z Z Z fun O hF => ?_
 refine ag (js O Z (jn (ac (pF O [_,_,_,_,_,_,_,_,_,_,_,_,_,_,_,_,_,_,_,_,_] [pn [] 0 0, pn [0] 0 0, pn [0,1] 0 0, pn [0,1,2] 0 0, pn [] 0 0, pn [4] 0 0, pn [4,5] 0 0, pn [4,5,6] 0 0, pn (rg 0 8) 0 0, pn (rg 0 9) 0 0, pn (rg 0 10) 0 0, pn (rg 0 11) 0 0, pn (rg 0 12) 0 0, pn (rg 0 13) 0 0, pn (rg 0 10) 0 0, pn (rg 0 10++[14]) 0 0, pn (rg 0 10++[14,15]) 0 0, pn (rg 0 10++[14,15,16]) 0 0, pe (rg 0 18) 0, pn (rg 0 19) 1 1, pn (rg 0 20) 1 1] [18] [_,_] (kc O Z (kc O Z (kc O Z (kc O Z (kc O Z (kc O Z (kc O Z (kc O Z (ai ((V O Z).cast (v' := eB true) (by rw [decide_eq_true h])) (kc O Z (kc O Z (kc O Z (kc O Z (kc O Z (kc O Z (kc O Z (kc O Z (kc O Z (ai (bj O (B0 := 24000) Z Z Z Z (w4 h1 h2) (aa Z) Z Z Z Z Z) (ai (bm O Z Z Z Z Z) (kc O Z trivial))))))))))))))))))))) ?_))))
 refine fT ?_
 refine ⟨.inl Z, _, ak, _, Z, ?_⟩
 rw [show decide (a = b) = decide (a.xs = b.xs) from decide_eq_decide.2 ⟨fun e => by rw [e], fun e => by cases a; cases b; simp_all⟩]
theorem vw {a b : Tm} (h : ¬ a.c = b.c) : MQ h1 h2 95 [ptr a.cells, ptr b.cells] [] (Plain (eB (decide (a = b)))) := by
 refine aw ?_ Z
 refine jB 25 h1 h2 Try.func95 Z Z Z fun O hF => ?_
 refine ag (js O Z (jn (ac (pF O [_,_,_,_,_,_,_,_,_,_,_,_,_,_,_,_,_,_,_,_,_] [pn [] 0 0, pn [0] 0 0, pn [0,1] 0 0, pn [0,1,2] 0 0, pn [] 0 0, pn [4] 0 0, pn [4,5] 0 0, pn [4,5,6] 0 0, pn (rg 0 8) 0 0, pn (rg 0 9) 0 0, pn (rg 0 10) 0 0, pn (rg 0 11) 0 0, pn (rg 0 12) 0 0, pn (rg 0 13) 0 0, pn (rg 0 10) 0 0, pn (rg 0 10++[14]) 0 0, pn (rg 0 10++[14,15]) 0 0, pn (rg 0 10++[14,15,16]) 0 0, pn (rg 0 18) 0 0, pn (rg 0 19) 0 0, pn (rg 0 20) 0 0] [] [_] (kc O Z (kc O Z (kc O Z (kc O Z (kc O Z (kc O Z (kc O Z (kc O Z (ai ((V O Z).cast (v' := eB false) (by rw [decide_eq_false h])) (kc O Z (ai ⟨Z, Z⟩ (ai ⟨Z, Z⟩ (ai ⟨Z, Z⟩ (ai ⟨Z, Z⟩ (ai ⟨Z, Z⟩ (ai ⟨Z, Z⟩ (ai ⟨Z, Z⟩ (ai ⟨Z, Z⟩ (ai ⟨Z, Z⟩ (ai (bb O Z Z Z Z Z) (kc O Z trivial))))))))))))))))))))) ?_))))
 refine fT ?_
 refine ⟨.inl Z, _, ak, _, Z, ?_⟩
 rw [decide_eq_false (fun e => h (by rw [e]))]
theorem w6 {L : Nat} (h1 : 4096 ≤ L) (h2 : L ≤ 1073741824) {a b : Tm} : MC Try.prog L 95 [ptr a.cells, ptr b.cells] [] (Plain (eB (decide (a = b)))) := by
 by_cases h : a.c = b.c
 exact vv h1 h2 h
 exact vw h1 h2 h
variable {ts : List Tm} {t : Tm}
theorem uu : MQ h1 h2 88 [bo ts, ptr t.cells] [] (Plain (eB (ew ts t))) := by
 refine aw ?_ Z
 refine jB 17 h1 h2 Try.func88 Z Z Z fun O hF => ?_
 have hl : ts.length ≤ L := by simpa [As.fact, A.fact, M.fact, D.fact, Ds.fact] using hF.1.1
 refine ag (js O Z (jn (ac (ag (js O Z (jn (ah (al (X := Nat) (fun i => ⟨[(0, bo ts), (1, ptr t.cells), (5, eI i)], []⟩) (fun i => i ≤ ts.length ∧ ∀ j (h : j < ts.length), j < i → decide (ts[j] = t) = false) (fun i => ts.length - i) 0 (Ent.env ⟨Z, Z, Z, trivial⟩) ?_ (fun i hi => ?_)))))))))
 exact ⟨b9 _, fun j h hj => absurd hj (Nat.not_lt_zero j)⟩
 refine ac (ag (j2 O Z Z (cj O Z (js O Z (jn (ae O Z Z (fun hc9 => ?_) (fun hc9 => ?_)))))))
 try simp only [ba] at hc9
 refine aj (ac (ah (ag (j2 O Z Z (fR O Z Z (js O Z (ao O Z Z Z Z (w6 (a := ts.getD i default) (b := t) h1 h2) (aa Z) Z Z Z Z Z (B0 := 17000) Z (jn (ae O Z Z (fun hc16 => ?_) (fun hc16 => ?_))))))))))
 try simp only [ba] at hc16
 refine ag (js O Z (jr ?_))
 refine ⟨.inl Z, _, ak, _, Z, ?_⟩
 rw [ar (by omega)] at hc16
 rw [show ew ts t = true from List.any_eq_true.2 ⟨ts[i], List.getElem_mem _, decide_eq_true hc16⟩]
 try simp only [ba] at hc16
 refine aj (af (js O Z (ji O Z (js O Z (jn ?_)))))
 refine ⟨i + 1, Ent.env ⟨Z, Z, Z, trivial⟩, ⟨by omega, fun j h hj => ?_⟩, by omega⟩
 by_cases e : j = i
 subst e; rw [ar h] at hc16; exact decide_eq_false hc16
 exact hi.2 j h (by omega)
 try simp only [ba] at hc9
 refine aD (ag (js O Z (jr ?_)))
 refine ⟨.inl Z, _, ak, _, Z, ?_⟩
 rw [show ew ts t = false from List.any_eq_false.2 fun x hx => by
  obtain ⟨j, hj, rfl⟩ := List.mem_iff_getElem.1 hx
  simpa using hi.2 j hj (by omega)]
variable {b : Int}
theorem pP {a : Int} (ha : 0 ≤ a ∧ a ≤ 4000000000000) (hb : -4000000000000 ≤ b ∧ b ≤ 4000000000000) : MQ h1 h2 99 [eI a, eI b] [] (Plain (eI (Nat.gcd a.natAbs b.natAbs))) := by
 refine aw ?_ Z
 refine jB 18 h1 h2 Try.func99 Z Z Z fun O hF => ?_
 refine ag (js O Z (aP (j2 O Z Z (ji O Z (ao O Z Z Z Z (wb h1 h2) (aa Z) Z Z Z Z Z (B0 := 10000) Z (js O Z (jn (ac (ah (al (X := Nat × Nat) (fun z => ⟨[(0, eI z.1), (1, eI z.2)], []⟩) (fun z => Nat.gcd z.1 z.2 = Nat.gcd a.natAbs b.natAbs ∧ z.1 ≤ 4000000000000 ∧ z.2 ≤ 4000000000000) (fun z => z.2) (a.natAbs, b.natAbs) (Ent.env ⟨congrArg (fun z => some (eI z)) (show a = (a.natAbs : Int) by omega), congrArg (fun z => some (eI z)) (rX b), trivial⟩) ?_ (fun z hi => ?_)))))))))))
 exact ⟨Z, by show a.natAbs ≤ _; omega, by show b.natAbs ≤ _; omega⟩
 have hz : -4000000000000 ≤ (z.1 : Int).tmod z.2 ∧ (z.1 : Int).tmod z.2 ≤ 4000000000000 := by have := Nat.mod_le z.1 z.2; rw [← Int.ofNat_tmod]; omega
 refine ac (ag (j2 O Z Z (jn (ae O Z Z (fun hc11 => ?_) (fun hc11 => ?_)))))
 try simp only [ba] at hc11
 refine aj (ah (ag (j2 O Z Z (AOps.step (vR O Z Z Z Z) Z Z Z (js O Z (aP (j2 O Z Z (jn (af (j2 O Z Z (jn ?_)))))))))))
 have hm : z.1 % z.2 < z.2 := Nat.mod_lt _ (by omega)
 refine ⟨(z.2, z.1 % z.2), Ent.env ⟨Z, Z, trivial⟩, ⟨?_, hi.2.2, by show z.1 % z.2 ≤ 4000000000000; omega⟩, hm⟩
 show Nat.gcd z.2 (z.1 % z.2) = _
 rw [← hi.1, Nat.gcd_comm z.2, ← Nat.gcd_rec, Nat.gcd_comm]
 try simp only [ba] at hc11
 refine aD (ag (j2 O Z Z (jr ?_)))
 refine ⟨.inl Z, _, ak, _, Z, ?_⟩
 have hz0 : z.2 = 0 := by omega
 rw [← hi.1, hz0, Nat.gcd_zero_right]
theorem xd {r : Rw} (h : r.tm.ok = true) : MQ h1 h2 74 [ptr r.cells] [] (Plain (dn r.tm)) := by
 refine MC.data (jB 18 h1 h2 Try.func74 Z Z Z fun O hF => ?_)
 refine ag (jl O Z (jn (ac (uE O [_,_,_,_,_,_,_,_,_,_,_,_,_,_,_] [pn [] 0 0, pn [0] 0 0, pn [0,1] 0 0, pn [0,1,2] 0 0, pn [] 0 0, pn [4] 0 0, pn [4,5] 0 0, pn [4,5,6] 0 0, pe [0,1,2,3,4,5,6,7] 0, pn [0,1,2,3,4,5,6,7,8] 1 1, pn [0,1,2,3,4,5,6,7,8,9] 1 1, pn [0,1,2,3,4,5,6,7,8,9] 1 2, pn [] 0 1, pe [0,1,2,3,4,5,6,7,8,9,10,12] 1, pn [0,1,2,3,4,5,6,7,8,9,10,11,12,13] 2 2] [8,13] 12 3 (.box [.d (.int .i64 0), .d .nils]) [_,_] [_] [] (kf O Z Z Z (kf O Z Z Z (kf O Z Z Z (kf O Z Z Z (kf O Z Z Z (kf O Z Z Z (kf O Z Z Z (kf O Z Z Z (ai (ai (aO (bc (cg O (B0 := 15000) Z Z Z Z ((kS (c := r.c) (xs := r.xs) h1 h2).plain (u := .tup [dn r.tm, eB true]) (by rw [fQ, if_pos h])) (aa Z) Z Z Z Z Z)) (bc (cg O (B0 := 15000) Z Z Z Z ((kS (c := r.c) (xs := r.xs) h1 h2).plain (u := .tup [dn r.tm, eB true]) (by rw [fQ, if_pos h])) (aa Z) Z Z Z Z Z))) Z) (kf O Z Z Z (kf O Z Z Z (ai (kf O Z Z Z (kg O Z Z Z)) (ai (ai (ai (bc (Eff.alloc O Z Z Z Z Z Z)) Z) (ai (bc (Eff.alloc O Z Z Z Z Z Z)) Z)) (ai (ai (aO trivial (bc (eS O Z Z Z))) Z) (ai (ai (aO trivial (V O Z)) Z) trivial))))))))))))))) ?_))))
 refine jw [3,2] Z (dL ?_)
 refine ag (js O Z (jo O Z (jr ?_)))
 refine ⟨.inl Z, _, ak, _, Z, ?_⟩
 exact .v (.agg (aC Z))
theorem wW {a : Nat} (hget : (ts.map Tm.cells)[a]? = some t.cells) (ht : Small t) (ht10 : t.xs.length ≤ 10) : MQ h1 h2 17 [.c (.pt 0 a 0)] [(0, bG ts)] (bR (fw (aM t)) [(0, bG ts)]) := by
 refine MC.shift 500 Z (dI (jH 55 [500] h1 h2 Try.func17 Z Z Z Z fun O hF => ?_))
 refine ag (jl O Z (js O Z (aP (js O Z (ao O Z Z Z Z (qz (t := t) h1 h2 ht.xs) (.cons (.c (.pe Z hget)) .nil) Z Z Z Z Z (B0 := 10000) Z (js O Z (jf [4,3,2,0] Z (jn (ac (ag (j2 O Z Z (jn (ae O Z Z (fun hc11 => ?_) (fun hc11 => ?_))))))))))))))
 try simp only [ba] at hc11
 refine ag (js O Z (jf [12,10,4,3,2,0] Z (jo O Z (js O Z (jr ?_)))))
 refine ⟨.inl Z, _, ak, _, Z, ?_⟩
 refine ⟨?_, Z⟩
 rw [show aM t = (⟨0, []⟩, false) from if_pos (by omega)]
 exact .tup (.cons (.agg (.cons .d (.cons .nils .nil))) (.cons (.c .d) .nil))
 try simp only [ba] at hc11
 refine aj (ag ?_)
 have hxl := ht10
 obtain ⟨g, hg⟩ : ∃ g : Int, g = (aE t.xs : Int) := ⟨_, rfl⟩
 rw [← hg]
 rw [← hg] at hc11
 refine AOps.heap (bq O Z Z Z) Z (js O Z (jf [5,10,4,3,2,0] Z (jn (ac (ag (js O Z (jn (ah (al (X := Nat) (fun i => ⟨[(0, .c (.pt 500 a 0)), (2, .c (.pt 2 0 0)), (4, eI g), (5, .c (.rs 900 0 i)), (6, eI i)], [(2, .box [.d (.int .i64 0), .d .nils]), (900, bW ((t.xs.map fun x => x.tdiv g).take i)), (500, bG ts)]⟩) (fun i => i ≤ t.xs.length) (fun i => t.xs.length - i) 0 ((au 13 900 Z Z).trans (Ent.to ⟨Z, Z, Z, Z, Z, trivial⟩ Z)) ?_ (fun i hi => ?_))))))))))
 exact b9 _
 refine ac (ag (j4 O Z Z Z Z (AOps.step (aF O (ex := t.cells) Z Z Z Z hget Z) Z Z Z (cj O Z (js O Z (jf [20,0,2,4,5,6] Z (jn (ae O Z Z (fun hc20 => ?_) (fun hc20 => ?_)))))))))
 try simp only [ba] at hc20
 refine aj (ac (ah (af ?_)))
 have hx := ce (b := g) (xA.1 (List.all_eq_true.1 ht.xs _ (List.getElem_mem (show i < t.xs.length by omega))))
 rw [← ar (by omega)] at hx
 refine j4 O Z Z Z Z (AOps.step (aF O (ex := t.cells) Z Z Z Z hget Z) Z Z Z (js O Z (fR O Z Z (j2 O Z Z (AOps.step (cT O Z Z Z Z (by omega) (by omega) (by omega)) Z Z Z (jf [32,23,20,0,2,4,5,6] Z (AOps.heap (bq O Z Z Z) Z (jf [33,23,20,0,2,4,5,6] Z (AOps.heap (bw (zs := ((t.xs.map fun x => x.tdiv g).take (i + 1)).map fun n => [.int .i64 n]) (n := i + 1) O Z Z Z Z Z Z Z Z Z Z Z Z Z Z Z Z (.row Z (by simp; omega)) Z Z (by decide) Z (by simp; omega) (by simp; omega) (by rw [List.take_succ_eq_append_getElem (by simp; omega), List.map_append, List.getElem_map, ar (by omega)]; rfl) (by simp; omega)) Z (js O Z (jf [5,20,0,2,4,6] Z (jn (af (js O Z (ji O Z (js O Z (jf [6,5,20,0,2,4] Z (jn ?_))))))))))))))))))
 refine ⟨i + 1, ((am [2,34,500] (e' := [(0, _), (2, _), (4, _), (5, _), (6, _)]) Z Z ⟨Z, Z, Z, Z, Z, trivial⟩ Z).trans (au 34 900 Z Z)), by omega, by omega⟩
 try simp only [ba] at hc20
 refine aD (ag ?_)
 have hc0 := xA.1 ht.c
 have hq := ce (b := g) hc0
 have hr := dY (b := g) hc0
 obtain rfl : i = t.xs.length := by omega
 rw [List.take_of_length_le (by simp)]
 refine az (Ent.freeze 900 (e' := [(2, _), (4, _), (5, _), (0, _)]) Z (.cons Z (.keep Z) (.cons Z (.keep Z) (.cons Z (.c (.row Z (by simp))) (fe [0] Z)))) (.cons Z (.box (fk Z)) (.skip (.cons Z .row .nil)))) ?_
 refine j3 O Z Z Z (AOps.step (aF O (ex := t.cells) Z Z Z Z hget Z) Z Z Z (js O Z (AOps.step (vQ O Z Z Z Z) Z Z Z (js O Z (jf [7,2,4,5,0] Z (jn (ac (ag (j3 O Z Z Z (AOps.step (aF O (ex := t.cells) Z Z Z Z hget Z) Z Z Z (js O Z (AOps.step (vR O Z Z Z Z) Z Z Z (js O Z (jf [47,7,2,4,5,0] Z (jn (ae O Z Z (fun hc47 => ?_) (fun hc47 => ?_)))))))))))))))))
 try simp only [ba] at hc47
 refine af (js O Z (ji O Z (js O Z (jf [7,47,2,4,5,0] Z (aP (j2 O Z Z (ab O Z Z Z Z (kS (c := _) (xs := t.xs.map fun x => x.tdiv g) h1 h2) (aa Z) Z Z Z Z (B0 := 53000) Z Z (j2 O Z Z (jf [54,53,7,47,2,4,5,0] Z (jo O Z (js O Z (jf [3,7,47,2,4,5,0] Z (jr ?_)))))))))))))
 refine ⟨.inl Z, _, ak, _, Z, ?_⟩
 refine ⟨?_, Z⟩
 rw [show aM t = fQ (t.c.tdiv g - 1) (t.xs.map fun x => x.tdiv g) by rw [hg, aM, if_neg (by omega), if_pos (by rw [← hg]; exact hc47)]]
 exact .tup (.cons (.agg (aC Z)) (.cons (.c .d) .nil))
 try simp only [ba] at hc47
 refine aj (ag (j2 O Z Z (ab O Z Z Z Z (kS (c := _) (xs := t.xs.map fun x => x.tdiv g) h1 h2) (aa Z) Z Z Z Z (B0 := 53000) Z Z (j2 O Z Z (jf [54,53,47,7,2,4,5,0] Z (jo O Z (js O Z (jf [3,47,7,2,4,5,0] Z (jr ?_)))))))))
 refine ⟨.inl Z, _, ak, _, Z, ?_⟩
 refine ⟨?_, Z⟩
 rw [show aM t = fQ (t.c.tdiv g) (t.xs.map fun x => x.tdiv g) by rw [hg, aM, if_neg (by omega), if_neg (by rw [← hg]; omega)]]
 exact .tup (.cons (.agg (aC Z)) (.cons (.c .d) .nil))
theorem vy {a : Nat} (hget : (ts.map Tm.cells)[a]? = some t.cells) (ht : t.ok = true) : MQ h1 h2 72 [.c (.rs 0 0 ts.length), .c (.pt 0 a 0)] [(0, bG ts)] (bR (fw (an ts t)) [(0, bG ts)]) := by
 refine MC.shift 500 Z (dI (jH 35 [500] h1 h2 Try.func72 Z Z Z Z fun O hF => ?_))
 have hs := bh ht
 have hc := xA.1 hs.c
 have hr := dY (a := t.c) (b := aE t.xs) hc
 refine ag (jl O Z (js O Z (aP (js O Z (ao O Z Z Z Z (qz (t := t) h1 h2 hs.xs) (.cons (.c (.pe Z hget)) .nil) Z Z Z Z Z (B0 := 11000) Z (js O Z (jf [6,5,4,0,1] Z (jn (ac (ag (j3 O Z Z Z (jf [13,6,5,4,0,1] Z (aB 7 Z Z Z (fun hx => AN.step hx Z Z Z (V O Z) Z Z ( AN.step hx Z Z Z (V O Z) Z Z ( AN.step hx Z Z Z (V O Z) Z Z ( AN.step hx Z Z Z (aF O (ex := t.cells) Z Z Z Z hget Z) Z Z ( AN.step hx Z Z Z (V O Z) Z Z ( AN.step hx Z Z Z (vR O Z Z Z Z) Z Z ( AN.step hx Z Z Z (V O Z) Z Z ( AN.nil)))))))) Z Z (AOps.step (ay O Z Z Z Z Z) Z Z Z (jf [21,5,4,0,1] Z (jn (ae O Z Z (fun hc21 => ?_) (fun hc21 => ?_))))))))))))))))))
 try simp only [ba] at hc21
 refine ag (js O Z (jf [22,5,4,0,1] Z (jo O Z (js O Z (jr ?_)))))
 refine ⟨.inl Z, _, ak, _, Z, ?_⟩
 refine ⟨?_, Z⟩
 have hn : aE t.xs < 2 ∨ t.c.tmod (aE t.xs) = 0 := by by_cases h9 : aE t.xs < 2; exact .inl h9; refine .inr ?_; simpa [show ¬ (aE t.xs : Int) < 2 by omega] using hc21
 rw [show an ts t = s5 from if_pos hn]
 exact .tup (.cons (.agg (.cons .d (.cons .nils .nil))) (.cons (.c .d) .nil))
 try simp only [ba] at hc21
 refine aj (ag ?_)
 have hn : ¬ (aE t.xs < 2 ∨ t.c.tmod (aE t.xs) = 0) := by intro h9; rcases h9 with h9 | h9 <;> simp [h9] at hc21 <;> omega
 have hok := jI ht (fun h => hn (.inl h))
 refine js O Z (jf [24,5,4,0,1] Z (aH O [500] (bin := [bG ts]) Z Z Z Z (wW h1 h2 hget hs (kW ht)) Z Z Z Z Z Z (B0 := 26000) Z Z (av ?_)))
 refine j3 O Z Z Z (jf [27,26,5,4,0,1] Z (jl O Z (jo O Z (js O Z (jf [8,7,5,4,0,1] Z (jn (ac (jw [8,7,4,0,1] Z ?_))))))))
 rw [hok]
 refine pF O [_,_,_,_,_,_,_,_,_] [pn [] 0 1, pn [] 0 0, pn [1] 0 0, pn [1,2] 0 0, pe [1,2,3] 0, pn (rg 1 4) 1 2, pn (rg 1 5) 1 2, pe (rg 0 5) 1, pn (rg 0 8) 2 2] [4,7] [_,_,_] (ai (kc O Z (V O Z)) (kc O Z (kc O Z (kc O Z (ai (bj O (B0 := 33000) Z Z Z Z (uu (ts := ts) (t := (aM t).1) h1 h2) (.cons (.c (.whole Z (bp _).symm)) (.cons (.c (.pb (cs := Tm.cells (aM t).1) Z (aC Z))) .nil)) Z Z Z Z Z) (ai (kc O Z (V O Z)) (ai (ai (bm O Z Z Z Z Z) (bm O Z Z Z Z Z)) (ai (eS O Z Z Z) (kc O Z trivial))))))))) ?_
 refine jw [5,7,4,1] Z (dL ?_)
 refine fT ?_
 refine ⟨.inl Z, _, ak, _, Z, ?_⟩
 refine ⟨?_, Z⟩
 rw [show an ts t = ((aM t).1, !ew ts (aM t).1) by unfold an; rw [if_neg hn, hok]; rfl]
 exact .tup (.cons (.agg (aC Z)) (.cons (.c .d) .nil))
theorem vx (ht : t.ok = true) : MQ h1 h2 72 [.c (.rs 0 0 ts.length), ptr t.cells] [(0, bG ts)] (bR (fw (an ts t)) [(0, bG ts)]) := by
 refine MC.shift 500 Z (dI (jH 35 [500] h1 h2 Try.func72 Z Z Z Z fun O hF => ?_))
 have hs := bh ht
 have hc := xA.1 hs.c
 have hr := dY (a := t.c) (b := aE t.xs) hc
 refine ag (jl O Z (js O Z (aP (js O Z (ao O Z Z Z Z (qz (t := t) h1 h2 hs.xs) (aa Z) Z Z Z Z Z (B0 := 11000) Z (js O Z (jf [6,5,4,0,1] Z (jn (ac (ag (j3 O Z Z Z (jf [13,6,5,4,0,1] Z (aB 7 Z Z Z (fun hx => AN.step hx Z Z Z (V O Z) Z Z ( AN.step hx Z Z Z (V O Z) Z Z ( AN.step hx Z Z Z (V O Z) Z Z ( AN.step hx Z Z Z (V O Z) Z Z ( AN.step hx Z Z Z (V O Z) Z Z ( AN.step hx Z Z Z (vR O Z Z Z Z) Z Z ( AN.step hx Z Z Z (V O Z) Z Z ( AN.nil)))))))) Z Z (AOps.step (ay O Z Z Z Z Z) Z Z Z (jf [21,5,4,0,1] Z (jn (ae O Z Z (fun hc21 => ?_) (fun hc21 => ?_))))))))))))))))))
 try simp only [ba] at hc21
 refine ag (js O Z (jf [22,5,4,0,1] Z (jo O Z (js O Z (jr ?_)))))
 refine ⟨.inl Z, _, ak, _, Z, ?_⟩
 refine ⟨?_, Z⟩
 have hn : aE t.xs < 2 ∨ t.c.tmod (aE t.xs) = 0 := by by_cases h9 : aE t.xs < 2; exact .inl h9; refine .inr ?_; simpa [show ¬ (aE t.xs : Int) < 2 by omega] using hc21
 rw [show an ts t = s5 from if_pos hn]
 exact .tup (.cons (.agg (.cons .d (.cons .nils .nil))) (.cons (.c .d) .nil))
 try simp only [ba] at hc21
 refine aj (ag ?_)
 have hn : ¬ (aE t.xs < 2 ∨ t.c.tmod (aE t.xs) = 0) := by intro h9; rcases h9 with h9 | h9 <;> simp [h9] at hc21 <;> omega
 have hok := jI ht (fun h => hn (.inl h))
 refine js O Z (jf [24,5,4,0,1] Z (ab O Z Z Z Z (yg (t := t) h1 h2 hs) (aa Z) Z Z Z Z (B0 := 26000) Z Z (j3 O Z Z Z (jf [27,26,5,4,0,1] Z (jl O Z (jo O Z (js O Z (jf [8,7,5,4,0,1] Z (jn (ac (jw [8,7,4,0,1] Z ?_)))))))))))
 rw [hok]
 refine pF O [_,_,_,_,_,_,_,_,_] [pn [] 0 1, pn [] 0 0, pn [1] 0 0, pn [1,2] 0 0, pe [1,2,3] 0, pn (rg 1 4) 1 2, pn (rg 1 5) 1 2, pe (rg 0 5) 1, pn (rg 0 8) 2 2] [4,7] [_,_,_] (ai (kc O Z (V O Z)) (kc O Z (kc O Z (kc O Z (ai (bj O (B0 := 33000) Z Z Z Z (uu (ts := ts) (t := (aM t).1) h1 h2) (.cons (.c (.whole Z (bp _).symm)) (.cons (.c (.pb (cs := Tm.cells (aM t).1) Z (aC Z))) .nil)) Z Z Z Z Z) (ai (kc O Z (V O Z)) (ai (ai (bm O Z Z Z Z Z) (bm O Z Z Z Z Z)) (ai (eS O Z Z Z) (kc O Z trivial))))))))) ?_
 refine jw [5,7,4,1] Z (dL ?_)
 refine fT ?_
 refine ⟨.inl Z, _, ak, _, Z, ?_⟩
 refine ⟨?_, Z⟩
 rw [show an ts t = ((aM t).1, !ew ts (aM t).1) by unfold an; rw [if_neg hn, hok]; rfl]
 exact .tup (.cons (.agg (aC Z)) (.cons (.c .d) .nil))
abbrev jz (rs : List Rw) : A := .c (.d (.slc 3 (rs.map Rw.cells)))
abbrev lZ (rs : List Rw) : B := .row false 3 (rs.map Rw.cells)
abbrev yC (r : Rw) : A := .agg (r.cells.map .d)
theorem nH {n i : Nat} : (List.replicate n [D.int .i64 0]).set (0 + ((i : Nat) : Int).toNat) [D.int .i64 1] = (fu n i).map fun n => [D.int .i64 n] := by
 unfold fu
 rw [List.map_set, List.map_replicate, Nat.zero_add, Int.toNat_natCast]
theorem xa (hf : Fs ts) : MQ h1 h2 89 [.c (.rs 0 0 ts.length)] [(0, bG ts)] (bR (jz (ny ts)) [(0, bG ts)]) := by
 refine MC.shift 500 Z (dI (jH 46 [500] h1 h2 Try.func89 Z Z Z Z fun O hF => ?_))
 have hlen := hf.len
 refine ag (js O Z (aP (AOps.heap (bd O Z Z Z Z Z Z Z Z Z Z Z) Z (av ?_))))
 refine js O Z (jn (ac (ag (js O Z (jn (ah (al (X := Nat) (fun i => ⟨[(0, .c (.rs 500 0 ts.length)), (3, .c (.rs 900 0 i)), (4, eI i)], [(900, lZ (c8 ts i)), (500, bG ts)]⟩) (fun i => i ≤ ts.length) (fun i => ts.length - i) 0 ((au 7 900 Z Z).trans (Ent.to ⟨Z, Z, Z, trivial⟩ Z)) ?_ (fun i hi => ?_))))))))
 exact b9 _
 refine ac (ag (j2 O Z Z (bz O Z Z (js O Z (jf [11,0,3,4] Z (jn (ae O Z Z (fun hc11 => ?_) (fun hc11 => ?_))))))))
 try simp only [ba] at hc11
 refine aj (ac (ah (ac ?_)))
 have hget : (ts.map Tm.cells)[0 + ((i : Nat) : Int).toNat]? = some (ts.getD i default).cells := by rw [Nat.zero_add, Int.toNat_natCast, List.getElem?_map, List.getElem?_eq_getElem (by omega), ar (by omega)]; rfl
 refine uE O [_,_,_,_,_,_,_,_,_,_,_] [pn [] 0 1, pn [] 0 1, pn [0,1] 0 1, pn [0,1,2] 0 1, pn [0,1,2,3] 0 1, pn [] 0 0, pn [5] 0 0, pe [5,6] 0, pn [0,1,2,3,4,5,6,7] 1 1, pn [] 0 1, pe [0,1,2,3,4,5,6,7,8,9] 1] [7,10] 9 5 (.box [.d (.int .i64 0), .d .nils, .d .nils]) [_,_] [_] [] (ai (kf O Z Z Z (kg O Z Z Z)) (ai (kf O Z Z Z (kg O Z Z Z)) (ai (ai (ai (aO (vI O Z Z) (vI O Z Z)) Z) (ai (aO (vI O Z Z) (vI O Z Z)) Z)) (ai (kf O Z Z Z (kg O Z Z Z)) (ai (ai (ai (aO (aF O (ex := (ts.getD i default).cells) Z Z Z Z hget Z) (aF O (ex := (ts.getD i default).cells) Z Z Z Z hget Z)) Z) (ai (aO (aF O (ex := (ts.getD i default).cells) Z Z Z Z hget Z) (aF O (ex := (ts.getD i default).cells) Z Z Z Z hget Z)) Z)) (kf O Z Z Z (ai (ai (aO (vI O Z Z) (vI O Z Z)) Z) (ai (ai (aO (bc (oh O Z Z Z Z Z Z Z Z Z (by first | omega | (simp at *; omega)) (by first | omega | (simp at *; omega)) (by first | omega | (simp at *; omega)) (by first | omega | (dsimp only; omega) | (simp only [ba] at *; omega)) (by first | omega | (simp at *; omega)) Z Z Z Z)) (bc (oh O Z Z Z Z Z Z Z Z Z (by first | omega | (simp at *; omega)) (by first | omega | (simp at *; omega)) (by first | omega | (simp at *; omega)) (by first | omega | (dsimp only; omega) | (simp only [ba] at *; omega)) (by first | omega | (simp at *; omega)) Z Z Z Z))) Z) (kf O Z Z Z (ai (ai (ai (bc (Eff.alloc O Z Z Z Z Z Z)) Z) (ai (bc (Eff.alloc O Z Z Z Z Z Z)) Z)) (ai (ai (aO trivial (bc (eS O Z Z Z))) Z) trivial))))))))))) ?_
 refine jw [5,11,0,3,4] Z (dL ?_)
 refine ac (ag (js O Z (jn (ah (al (X := Nat) (fun j => ⟨[(0, .c (.rs 500 0 ts.length)), (3, .c (.rs 900 0 i)), (4, eI i), (5, .c (.pt 5 0 0)), (6, eI j)], [(5, .box [.d (.int .i64 (ts.getD i default).c), .rs 901 0 j, .rs 21 0 ts.length]), (21, .row true 1 (List.replicate ts.length [.int .i64 0])), (900, lZ (c8 ts i)), (500, bG ts), (901, bW (gk (ts.getD i default).xs j))]⟩) (fun j => j ≤ 10) (fun j => 10 - j) 0 (((am [5,21,900,500] (e' := [(0, _), (3, _), (4, _), (5, _), (6, _)]) Z Z ⟨Z, Z, Z, Z, Z, trivial⟩ Z).trans (dJ 5 901 1 true 1 Z Z Z)).trans (Ent.to ⟨Z, Z, Z, Z, Z, trivial⟩ Z)) ?_ (fun j hi => ?_))))))
 exact b9 _
 refine ac (ag (j2 O Z Z (jn (ae O Z Z (fun hc24 => ?_) (fun hc24 => ?_)))))
 try simp only [ba] at hc24
 refine aj (ac (ah (tZ O [_,_,_,_,_,_,_,_,_,_,_] [pn [] 0 2, pn [0] 0 2, pn [] 0 0, pn [] 0 0, pn [2,3] 0 0, pn [] 0 0, pe (rg 2 4) 0, pe (rg 2 5) 1, pe (rg 0 8) 2, pn (rg 0 9) 3 3, pe (rg 0 10) 3] [6,7,8,10] [_,_,_,_,_] [[], [], [901,34], []] (ai (ka O Z Z (ka O Z Z (kw O Z Z))) (ai (ka O Z Z (ka O Z Z (kw O Z Z))) (ka O Z Z (ka O Z Z (ai (ai (vI O Z Z) Z) (ka O Z Z (ai (ai (bc (bj O (B0 := 34000) Z Z Z Z (uK (t := ts.getD i default) (i := j) h1 h2 (by omega)) (.cons (.c (.pe Z hget)) (.cons (.c .d) .nil)) Z Z Z Z Z)) Z) (ai (ai (bc (gF O Z Z Z Z Z Z Z Z Z Z Z Z Z)) Z) (ai (ai (dK (zs := (gk (ts.getD i default).xs (j + 1)).map fun n => [.int .i64 n]) (n := j + 1) O Z Z Z Z Z Z Z Z Z Z Z Z Z Z Z Z (.row Z (by simp [cD])) Z Z (by decide) Z (by simp [cD]; omega) (by simp [cD]; omega) (by rw [oX, List.map_append]; rfl) (by simp [cD]) Z) Z) (ka O Z Z (ai (ai (bc (eS O Z Z Z)) Z) trivial))))))))))) ?_)))
 refine jw [24,23,0,3,4,5,6] Z (dL ?_)
 refine af (js O Z (ji O Z (js O Z (jf [6,24,23,0,3,4,5] Z (jn ?_)))))
 refine ⟨j + 1, ((am [5,21,900,500,35] (e' := [(0, _), (3, _), (4, _), (5, _), (6, _)]) Z Z ⟨Z, Z, Z, Z, Z, trivial⟩ Z).trans (au 35 901 Z Z)), by omega, by omega⟩
 try simp only [ba] at hc24
 refine aD (ag ?_)
 obtain rfl : j = 10 := by omega
 refine j3 O Z Z Z (bz O Z Z (jf [40,24,23,0,3,4,5,6] Z (AOps.heap (bt (ex := [.int .i64 0]) (xs' := (fu ts.length i).map (fun n => [D.int .i64 n])) O Z Z Z Z Z Z Z Z Z Z Z Z Z Z (by rw [Nat.zero_add, Int.toNat_natCast, List.getElem?_replicate, if_pos (by omega)]) nH) Z ?_)))
 refine av ?_
 refine jn (af (az (Ent.freeze 901 (e' := [(3, _), (5, _), (0, _), (4, _)]) Z (fe [3,5,0,4] Z) (.cons Z (.box (.cons (.keep Z) (.cons (.row Z (by simp [cD])) (fk Z)))) (.cons Z .row (.cons Z .row (.cons Z .row (.skip .nil)))))) ?_))
 refine az (Ent.freeze 21 (e' := [(3, _), (5, _), (0, _), (4, _)]) Z (fe [3,5,0,4] Z) (.cons Z (.box (.cons (.keep Z) (.cons (.keep Z) (.cons (.row Z (by simp [dZ])) .nil)))) (.skip (.cons Z .row (.cons Z .row .nil))))) ?_
 refine j2 O Z Z (AOps.heap (bd O Z Z Z Z Z Z Z Z Z Z Z) Z (av ?_))
 refine jf [43,41,3,5,0,4] Z (AOps.heap (aI (own := false) (zs := (c8 ts (i + 1)).map Rw.cells) (n := i + 1) O Z Z Z Z Z Z Z Z Z Z Z Z Z Z Z Z (.row Z (by simp [bf])) (.whole Z Z (.inr ⟨Z, Z⟩)) (by simp) Z (by simp [bf]; omega) (by simp [bf]; omega) (by rw [kd, List.map_append]; rfl) (by simp [bf])) Z (av ?_))
 refine js O Z (jf [3,5,0,4] Z (jn (af (js O Z (ji O Z (js O Z (jf [4,3,5,0] Z (jn ?_))))))))
 refine ⟨i + 1, ((am [44,500] (e' := [(0, _), (3, _), (4, _)]) Z Z ⟨Z, Z, Z, trivial⟩ Z).trans (au 44 900 Z Z)), by omega, by omega⟩
 try simp only [ba] at hc11
 refine aD (ag (j2 O Z Z (jr ?_)))
 refine ⟨.inl Z, _, ak, _, Z, ?_⟩
 refine ⟨?_, Z⟩
 obtain rfl : i = ts.length := by omega
 exact .v (.c (.whole Z (by simp [bf])))
theorem r3 {n m : Int} {xs ys : List Int} {i : Nat} : ((eW n m xs ys (i + 1)).map fun n => [D.int .i64 n])[0 + ((i : Nat) : Int).toNat]? = some [D.int .i64 (n * xs.getD i default + m * ys.getD i default)] := by
 rw [Nat.zero_add, Int.toNat_natCast, fD, List.map_append, List.getElem?_append_right (by simp [aS])]
 simp [aS]
def ju (c0 : Bool) (xs : List Int) (g : Int) (i : Nat) : Bool := c0 && (xs.take i).all fun x => num (x.tdiv g)
theorem vP {c0 : Bool} {xs : List Int} {g : Int} : ju c0 xs g 0 = c0 := by simp [ju]
theorem mo {c0 : Bool} {xs : List Int} {g : Int} {i : Nat} (h : i < xs.length) : ju c0 xs g (i + 1) = (ju c0 xs g i && num ((xs.getD i default).tdiv g)) := by
 unfold ju
 rw [List.take_succ_eq_append_getElem h, List.all_append, ar h, Bool.and_assoc]
 simp
theorem tJ {r : Rw} {g : Nat} : pE (jv r g) = ju (ju (num (r.c.tdiv g)) r.xs g r.xs.length) r.ms g r.ms.length := by
 simp [pE, jv, ju, List.all_map, Function.comp_def]
theorem gP {a b B : Int} (h : -B ≤ a ∧ a ≤ B) : -B ≤ a.tdiv b ∧ a.tdiv b ≤ B := by
 have h1 : (a.tdiv b).natAbs ≤ a.natAbs := by rw [Int.natAbs_tdiv]; exact Nat.div_le_self _ _
 omega
theorem jE {a b : Int} {xs ys : List Int} {i : Nat} (h1 : 1 ≤ a ∧ a ≤ 1000000) (h2 : 1 ≤ b ∧ b ≤ 1000000) (hx : ∀ k, -1000000 ≤ xs.getD k default ∧ xs.getD k default ≤ 1000000) (hy : ∀ k, -1000000 ≤ ys.getD k default ∧ ys.getD k default ≤ 1000000) :
    ∀ x ∈ eW a b xs ys i, -2000000000000 ≤ x ∧ x ≤ 2000000000000 := fun x h => by
 obtain ⟨k, _, rfl⟩ := kF h
 exact mQ h1 h2 (hx k) (hy k)
theorem uf {C : Int} {l : List Int} (hC : -2000000000000 ≤ C ∧ C ≤ 2000000000000) (hl : ∀ x ∈ l, -2000000000000 ≤ x ∧ x ≤ 2000000000000) : aE (C :: l) ≤ 2000000000000 := lj fun x hx => by
 rcases List.mem_cons.1 hx with rfl | hx
 omega
 have := hl x hx; omega
theorem vG {a b : List Int} (ha : ∀ x ∈ a, -2000000000000 ≤ x ∧ x ≤ 2000000000000) (hb : ∀ x ∈ b, -2000000000000 ≤ x ∧ x ≤ 2000000000000) : ∀ x ∈ a ++ b, -2000000000000 ≤ x ∧ x ≤ 2000000000000 := fun x hx => by
 rcases List.mem_append.1 hx with hx | hx
 exact ha x hx
 exact hb x hx
theorem rY {xs : List Int} {g : Int} {i : Nat} (h : i < xs.length) : ((j5 xs g (i + 1)).map fun n => [D.int .i64 n])[0 + ((i : Nat) : Int).toNat]? = some [D.int .i64 ((xs.getD i default).tdiv g)] := by
 rw [Nat.zero_add, Int.toNat_natCast, ← fC h, List.map_set, List.getElem?_set]
 simp [iF, h]
theorem kE {xs : List Int} {i : Nat} (h : i < xs.length) : xs.getD i default ∈ xs := by rw [ar h]; exact List.getElem_mem h
theorem ut {n : Nat} {p q : Rw} {k : Nat} (hp : ROk n p) (hq : ROk n q) (hk : k < 10) (hx : 0 < p.xs.getD k default) (hy : q.xs.getD k default < 0) (hn : n ≤ 1000) : MQ h1 h2 96 [ptr p.cells, ptr q.cells, eI k] [] (Plain (.tup [yC (cv p q k), eB (pE (cv p q k))])) := by
 refine MC.data (jB 196 h1 h2 Try.func96 Z Z Z fun O hF => ?_)
 obtain ⟨hg0, hm0, hn0⟩ := m5 hp hq hx hy
 have hb1 := hp.get k
 have hb2 := hq.get k
 have lp := hp.l
 have lq := hq.l
 have lpm := hp.n
 have lqm := hq.n
 have hd1 := ce (a := p.xs.getD k default) (b := ((dN p q k : Nat) : Int)) (by omega)
 have hd2 := ce (a := -(q.xs.getD k default)) (b := ((dN p q k : Nat) : Int)) (by omega)
 obtain ⟨m, em⟩ : ∃ m, m = jt p q k := ⟨_, rfl⟩
 obtain ⟨nn, en⟩ : ∃ m, m = jq p q k := ⟨_, rfl⟩
 rw [← em] at hm0
 rw [← en] at hn0
 have hc1 := dS (a := nn) (b := p.c) (by omega) (xA.1 hp.c)
 have hc2 := dS (a := m) (b := q.c) (by omega) (xA.1 hq.c)
 have hpm : ∀ j, -1000000 ≤ p.ms.getD j default ∧ p.ms.getD j default ≤ 1000000 := fun j => by have := hp.mul j; omega
 have hqm : ∀ j, -1000000 ≤ q.ms.getD j default ∧ q.ms.getD j default ≤ 1000000 := fun j => by have := hq.mul j; omega
 refine ag (jl O Z (av ?_))
 refine js O Z (aP (j4 O Z Z Z Z (js O Z ?_)))
 first | refine fR O Z Z ?_ | refine j6 O Z Z ?_ | refine bz O Z Z ?_
 refine j2 O Z Z (jf [8,7,6,0,1,2] Z (aP (j4 O Z Z Z Z (js O Z ?_))))
 first | refine fR O Z Z ?_ | refine j6 O Z Z ?_ | refine bz O Z Z ?_
 refine js O Z (AOps.step ((aZ O Z Z (by omega) (by omega)).cast (v' := eI (-(q.xs.getD k default))) (by rw [Int.zero_sub])) Z Z Z (js O Z (jf [9,8,7,6,0,1,2] Z (aP (j2 O Z Z (ao O Z Z Z Z ((pP (a := p.xs.getD k default) (b := -(q.xs.getD k default)) h1 h2 (by omega) (by omega)).plain (u := eI (dN p q k)) (by rw [Int.natAbs_neg])) (aa Z) Z Z Z Z Z (B0 := 35000) Z (js O Z (jf [10,9,8,7,6,0,1,2] Z (aP (j2 O Z Z (AOps.step ((cT O Z Z Z Z (by omega) (by omega) (by omega)).cast (v' := eI m) (by rw [em])) Z Z Z (js O Z (jf [8,10,9,7,6,0,1,2] Z (aP (j2 O Z Z (AOps.step ((cT O Z Z Z Z (by omega) (by omega) (by omega)).cast (v' := eI nn) (by rw [en])) Z Z Z (js O Z (jf [9,8,10,7,6,0,1,2] Z (jn (ac (uE O [_,_,_,_,_,_,_,_,_,_,_,_,_,_,_,_] [pn [] 0 0, pn [] 0 0, pn [1] 0 0, pn [1,2] 0 0, pn [1,2,3] 0 0, pn [0,1,2,3,4] 0 0, pn [] 0 0, pn [] 0 0, pn [7] 0 0, pn [7,8] 0 0, pn [7,8,9] 0 0, pn [6,7,8,9,10] 0 0, pn [0,1,2,3,4,5,6,7,8,9,10,11] 0 0, pn [0,1,2,3,4,5,6,7,8,9,10,11,12] 0 0, pn [] 0 0, pe [0,1,2,3,4,5,6,7,8,9,10,11,12,13,14] 0] [15] 14 11 (.box [.d (.int .i64 0), .d .nils, .d .nils]) [_] [_] [] (kf O Z Z Z (kf O Z Z Z (kf O Z Z Z (kf O Z Z Z (kf O Z Z Z (ai (ai (aO (vF O Z) (vF O Z)) Z) (kf O Z Z Z (kf O Z Z Z (kf O Z Z Z (kf O Z Z Z (kf O Z Z Z (ai (ai (aO (vF O Z) (vF O Z)) Z) (ai (ai (aO (vF O Z) (vF O Z)) Z) (kf O Z Z Z (ai (ai (bc (Eff.alloc O Z Z Z Z Z Z)) Z) (ai (ai (aO trivial (bc (eS O Z Z Z))) Z) trivial)))))))))))))))) ?_)))))))))))))))))))))
 refine jw [11,9,8,10,7,6,0,1,2] Z (dL ?_)
 refine ag ?_
 obtain ⟨C, eC⟩ : ∃ C, C = nn * p.c + m * q.c := ⟨_, rfl⟩
 have hC : -2000000000000 ≤ C ∧ C ≤ 2000000000000 := by omega
 rw [← eC]
 refine j2 O Z Z (jf [56,11,9,8,10,7,6,0,1,2] Z (ao O Z Z Z Z ((pP (a := 0) (b := C) h1 h2 (by decide) (by omega)).plain (u := eI (aE [C])) (by rw [sK]; exact congrArg (fun z : Nat => eI z) (Nat.gcd_zero_left _))) (aa Z) Z Z Z Z Z (B0 := 58000) Z (js O Z (jf [10,11,9,8,7,6,0,1,2] Z (jn (ac (ag (js O Z (jn (ah (al (X := Nat) (fun i => ⟨[(0, ptr p.cells), (1, ptr q.cells), (6, .c (.pt 6 0 0)), (8, eI m), (9, eI nn), (10, eI (aE (C :: eW nn m p.xs q.xs i))), (11, .c (.pt 11 0 0)), (12, eI i)], [(6, .box [.d (.int .i64 0), .d .nils, .d .nils]), (11, .box [.d (.int .i64 C), .rs 900 0 i, .d .nils]), (900, bW (eW nn m p.xs q.xs i))]⟩) (fun i => i ≤ p.xs.length) (fun i => p.xs.length - i) 0 ((dJ 11 900 1 true 1 Z Z Z).trans (Ent.to ⟨Z, Z, Z, Z, Z, Z, Z, Z, trivial⟩ Z)) ?_ (fun i hi => ?_))))))))))))
 exact b9 _
 refine ac (ag (j4 O Z Z Z Z (js O Z ?_)))
 first | refine cj O Z ?_ | refine js O Z ?_ | refine bz O Z Z ?_
 refine js O Z (jf [64,0,1,6,8,9,10,11,12] Z (jn (ae O Z Z (fun hc64 => ?_) (fun hc64 => ?_))))
 try simp only [ba] at hc64
 refine aj (ac (ah (ac ?_)))
 have f1 := dS (a := nn) (b := p.xs.getD i default) (by omega) (hp.get i)
 have f2 := dS (a := m) (b := q.xs.getD i default) (by omega) (hq.get i)
 have hgl := uf hC (l := eW nn m p.xs q.xs i) (jE hn0 hm0 hp.get hq.get)
 refine tZ O [_,_,_,_,_,_,_,_,_,_,_,_,_,_,_,_,_,_,_,_,_,_,_,_,_] [pn [] 0 1, pn [0] 0 1, pn [] 0 0, pn [] 0 0, pn [3] 0 0, pn [3,4] 0 0, pn [3,4,5] 0 0, pn [] 0 0, pn (rg 3 5) 0 0, pn (rg 3 6) 0 0, pn (rg 2 8) 0 0, pn [] 0 0, pn [] 0 0, pn [12] 0 0, pn [12,13] 0 0, pn [12,13,14] 0 0, pn [] 0 0, pn (rg 12 5) 0 0, pn (rg 12 6) 0 0, pn (rg 11 8) 0 0, pn (rg 2 18) 0 0, pe (rg 2 19) 0, pe (rg 0 22) 1, pn (rg 0 23) 2 2, pe (rg 0 24) 2] [21,22,24] [_,_,_,_] [[], [900,88], []] (ai (ka O Z Z (kw O Z Z)) (ai (ka O Z Z (kw O Z Z)) (ka O Z Z (ka O Z Z (ka O Z Z (ka O Z Z (ka O Z Z (ka O Z Z (ai (ai (vN O Z) Z) (ka O Z Z (ai (ai (vF O Z) Z) (ka O Z Z (ka O Z Z (ka O Z Z (ka O Z Z (ka O Z Z (ka O Z Z (ai (ai (vN O Z) Z) (ka O Z Z (ai (ai (vF O Z) Z) (ai (ai (vF O Z) Z) (ai (ai (bc (gF O Z Z Z Z Z Z Z Z Z Z Z Z Z)) Z) (ai (ai (dK (zs := (eW nn m p.xs q.xs (i + 1)).map fun n => [.int .i64 n]) (n := i + 1) O Z Z Z Z Z Z Z Z Z Z Z Z Z Z Z Z (.row Z (by simp [aS])) Z Z (by decide) Z (by simp [aS]; omega) (by simp [aS]; omega) (by rw [fD, List.map_append]; rfl) (by simp [aS]) Z) Z) (ka O Z Z (ai (ai (bc (eS O Z Z Z)) Z) trivial))))))))))))))))))))))))) ?_
 refine jw [64,0,1,6,8,9,10,11,12] Z (dL ?_)
 refine af (j4 O Z Z Z Z ?_)
 first | refine fR O Z Z ?_ | refine j6 O Z Z ?_ | refine bz O Z Z ?_
 refine AOps.step (aF O (ex := [.int .i64 (nn * p.xs.getD i default + m * q.xs.getD i default)]) Z Z Z Z r3 Z) Z Z Z (jf [96,91,64,0,1,6,8,9,10,11,12] Z (ao O Z Z Z Z ((pP (a := (aE (C :: eW nn m p.xs q.xs i) : Nat)) (b := nn * p.xs.getD i default + m * q.xs.getD i default) h1 h2 (by omega) (by omega)).plain (u := eI (aE (C :: eW nn m p.xs q.xs (i + 1)))) (by rw [Int.natAbs_natCast, fD, ← List.cons_append, mi])) (aa Z) Z Z Z Z Z (B0 := 98000) Z (js O Z (jf [10,64,0,1,6,8,9,11,12] Z (jn (af (js O Z ?_)))))))
 first | refine ji O Z ?_ | refine bz O Z Z ?_
 refine js O Z (jf [12,10,64,0,1,6,8,9,11] Z (jn ?_))
 refine ⟨i + 1, ((am [6,11,89] (e' := [(0, _), (1, _), (6, _), (8, _), (9, _), (10, _), (11, _), (12, _)]) Z Z ⟨Z, Z, Z, Z, Z, Z, Z, Z, trivial⟩ Z).trans (au 89 900 Z Z)), by omega, by omega⟩
 try simp only [ba] at hc64
 refine aD (ac (ag ?_))
 obtain rfl : i = p.xs.length := by omega
 obtain ⟨X, eX⟩ : ∃ X, X = eW nn m p.xs q.xs p.xs.length := ⟨_, rfl⟩
 have lXp : X.length = p.xs.length := by rw [eX, aS]
 have hXb : ∀ x ∈ X, -2000000000000 ≤ x ∧ x ≤ 2000000000000 := by rw [eX]; exact jE hn0 hm0 hp.get hq.get
 rw [← eX]
 refine js O Z (jn (ah (al (X := Nat) (fun j => ⟨[(0, ptr p.cells), (1, ptr q.cells), (6, .c (.pt 6 0 0)), (8, eI m), (9, eI nn), (10, eI (aE (C :: X ++ eW nn m p.ms q.ms j))), (11, .c (.pt 11 0 0)), (13, eI j)], [(6, .box [.d (.int .i64 0), .d .nils, .d .nils]), (11, .box [.d (.int .i64 C), .rs 900 0 p.xs.length, .rs 901 0 j]), (900, bW X), (901, bW (eW nn m p.ms q.ms j))]⟩) (fun j => j ≤ p.ms.length) (fun j => p.ms.length - j) 0 ((dJ 11 901 1 true 2 Z Z Z).trans (Ent.to ⟨Z, Z, Z, Z, Z, congrArg (fun z => some (eI (aE z))) (List.append_nil (C :: X)).symm, Z, Z, trivial⟩ Z)) ?_ (fun j hi => ?_))))
 exact b9 _
 refine ac (ag (j4 O Z Z Z Z (js O Z ?_)))
 first | refine cj O Z ?_ | refine js O Z ?_ | refine bz O Z Z ?_
 refine js O Z (jf [104,0,1,6,8,9,10,11,13] Z (jn (ae O Z Z (fun hc104 => ?_) (fun hc104 => ?_))))
 try simp only [ba] at hc104
 refine aj (ac (ah (ac ?_)))
 have f1 := dS (a := nn) (b := p.ms.getD j default) (by omega) (hpm j)
 have f2 := dS (a := m) (b := q.ms.getD j default) (by omega) (hqm j)
 have hgl : aE (C :: X ++ eW nn m p.ms q.ms j) ≤ 2000000000000 := uf hC (vG hXb (jE hn0 hm0 hpm hqm))
 refine tZ O [_,_,_,_,_,_,_,_,_,_,_,_,_,_,_,_,_,_,_,_,_,_,_,_,_] [pn [] 0 1, pn [0] 0 1, pn [] 0 0, pn [] 0 0, pn [3] 0 0, pn [3,4] 0 0, pn [3,4,5] 0 0, pn [] 0 0, pn (rg 3 5) 0 0, pn (rg 3 6) 0 0, pn (rg 2 8) 0 0, pn [] 0 0, pn [] 0 0, pn [12] 0 0, pn [12,13] 0 0, pn [12,13,14] 0 0, pn [] 0 0, pn (rg 12 5) 0 0, pn (rg 12 6) 0 0, pn (rg 11 8) 0 0, pn (rg 2 18) 0 0, pe (rg 2 19) 0, pe (rg 0 22) 1, pn (rg 0 23) 2 2, pe (rg 0 24) 2] [21,22,24] [_,_,_,_] [[], [901,128], []] (ai (ka O Z Z (kw O Z Z)) (ai (ka O Z Z (kw O Z Z)) (ka O Z Z (ka O Z Z (ka O Z Z (ka O Z Z (ka O Z Z (ka O Z Z (ai (ai (vN O Z) Z) (ka O Z Z (ai (ai (vF O Z) Z) (ka O Z Z (ka O Z Z (ka O Z Z (ka O Z Z (ka O Z Z (ka O Z Z (ai (ai (vN O Z) Z) (ka O Z Z (ai (ai (vF O Z) Z) (ai (ai (vF O Z) Z) (ai (ai (bc (gF O Z Z Z Z Z Z Z Z Z Z Z Z Z)) Z) (ai (ai (dK (zs := (eW nn m p.ms q.ms (j + 1)).map fun n => [.int .i64 n]) (n := j + 1) O Z Z Z Z Z Z Z Z Z Z Z Z Z Z Z Z (.row Z (by simp [aS])) Z Z (by decide) Z (by simp [aS]; omega) (by simp [aS]; omega) (by rw [fD, List.map_append]; rfl) (by simp [aS]) Z) Z) (ka O Z Z (ai (ai (bc (eS O Z Z Z)) Z) trivial))))))))))))))))))))))))) ?_
 refine jw [104,0,1,6,8,9,10,11,13] Z (dL ?_)
 refine af (j4 O Z Z Z Z ?_)
 first | refine fR O Z Z ?_ | refine j6 O Z Z ?_ | refine bz O Z Z ?_
 refine AOps.step (aF O (ex := [.int .i64 (nn * p.ms.getD j default + m * q.ms.getD j default)]) Z Z Z Z r3 Z) Z Z Z (jf [136,131,104,0,1,6,8,9,10,11,13] Z (ao O Z Z Z Z ((pP (a := (aE (C :: X ++ eW nn m p.ms q.ms j) : Nat)) (b := nn * p.ms.getD j default + m * q.ms.getD j default) h1 h2 (by omega) (by omega)).plain (u := eI (aE (C :: X ++ eW nn m p.ms q.ms (j + 1)))) (by rw [Int.natAbs_natCast, fD, ← ef, mi])) (aa Z) Z Z Z Z Z (B0 := 138000) Z (js O Z (jf [10,104,0,1,6,8,9,11,13] Z (jn (af (js O Z ?_)))))))
 first | refine ji O Z ?_ | refine bz O Z Z ?_
 refine js O Z (jf [13,10,104,0,1,6,8,9,11] Z (jn ?_))
 refine ⟨j + 1, ((am [6,11,900,129] (e' := [(0, _), (1, _), (6, _), (8, _), (9, _), (10, _), (11, _), (13, _)]) Z Z ⟨Z, Z, Z, Z, Z, Z, Z, Z, trivial⟩ Z).trans (au 129 901 Z Z)), by omega, by omega⟩
 try simp only [ba] at hc104
 refine aD (ag ?_)
 obtain rfl : j = p.ms.length := by omega
 obtain ⟨Y, eY⟩ : ∃ Y, Y = eW nn m p.ms q.ms p.ms.length := ⟨_, rfl⟩
 have lYp : Y.length = p.ms.length := by rw [eY, aS]
 have hYb : ∀ x ∈ Y, -2000000000000 ≤ x ∧ x ≤ 2000000000000 := by rw [eY]; exact jE hn0 hm0 hpm hqm
 rw [← eY]
 obtain ⟨G, eG⟩ : ∃ G, G = aE (C :: X ++ Y) := ⟨_, rfl⟩
 rw [← eG]
 have hG : 0 < G ∧ G ≤ 2000000000000 := by rw [eG, eC, eX, eY, em, en]; exact kI hp hq hx hy
 have hq0 := gP (b := (G : Int)) hC
 refine j3 O Z Z Z ?_
 first | refine AOps.step (vQ O Z Z Z Z) Z Z Z ?_ | refine ji O Z ?_
 refine js O Z (jf [142,141,104,0,1,6,8,9,10,11,13] Z (jo O Z (av ?_)))
 refine jf [104,0,1,6,8,9,10,11,13] Z (aP (j2 O Z Z (jf [144,104,0,1,6,8,9,10,11,13] Z (ao O Z Z Z Z (ry h1 h2) (aa Z) Z Z Z Z Z (B0 := 146000) Z (js O Z (jf [14,104,0,1,6,8,9,10,11,13] Z (jn (ac (ag (js O Z (jn (ah (al (X := Nat) (fun i => ⟨[(6, .c (.pt 6 0 0)), (10, eI G), (11, .c (.pt 11 0 0)), (14, eB (ju (num (C.tdiv G)) X G i)), (15, eI i)], [(6, .box [.d (.int .i64 0), .d .nils, .d .nils]), (11, .box [.d (.int .i64 (C.tdiv G)), .rs 900 0 p.xs.length, .rs 901 0 p.ms.length]), (900, bW (j5 X G i)), (901, bW Y)]⟩) (fun i => i ≤ p.xs.length) (fun i => p.xs.length - i) 0 (((am [6,11,900,901] (e' := [(6, _), (10, _), (11, _), (14, _), (15, _)]) Z Z ⟨Z, Z, Z, Z, Z, trivial⟩ Z)).trans (Ent.to ⟨Z, Z, Z, congrArg (fun z => some (eB z)) vP.symm, Z, trivial⟩ (by rw [gv]; rfl))) ?_ (fun i hi => ?_))))))))))))))
 exact b9 _
 refine ac (ag (j3 O Z Z Z ?_))
 first | refine cj O Z ?_ | refine js O Z ?_ | refine bz O Z Z ?_
 refine js O Z (jf [150,6,10,11,14,15] Z (jn (ae O Z Z (fun hc150 => ?_) (fun hc150 => ?_))))
 try simp only [ba] at hc150
 refine aj (ac (ah (ag ?_)))
 have hil : i < X.length := by omega
 have hxi := gP (b := (G : Int)) (hXb _ (kE hil))
 refine j3 O Z Z Z ?_
 first | refine fR O Z Z ?_ | refine j6 O Z Z ?_ | refine bz O Z Z ?_
 refine AOps.step (aF O (ex := [.int .i64 (X.getD i default)]) Z Z Z Z (by rw [Nat.zero_add]; exact dx (by omega)) Z) Z Z Z (js O Z ?_)
 first | refine AOps.step (vQ O Z Z Z Z) Z Z Z ?_ | refine ji O Z ?_
 first | refine fR O Z Z ?_ | refine j6 O Z Z ?_ | refine bz O Z Z ?_
 refine jf [160,159,150,6,10,11,14,15] Z (AOps.heap (bt (ex := [.int .i64 (X.getD i default)]) (xs' := (j5 X G (i + 1)).map (fun n => [D.int .i64 n])) O Z Z Z Z Z Z Z Z Z Z Z Z Z Z (by rw [Nat.zero_add]; exact dx (by omega)) (by rw [← fC (by omega), List.map_set, Nat.zero_add]; rfl)) Z (av ?_))
 refine jf [150,6,10,11,14,15] Z (jn (af (j2 O Z Z (jf [162,150,6,10,11,14,15] Z (aB 6 Z Z Z (fun hx => AN.step hx Z Z Z (V O Z) Z Z ( AN.step hx Z Z Z (V O Z) Z Z ( AN.step hx Z Z Z (V O Z) Z Z ( AN.step hx Z Z Z (vI O Z Z) Z Z ( AN.step hx Z Z Z (aF O (ex := [.int .i64 ((X.getD i default).tdiv G)]) Z Z Z Z (rY (by omega)) Z) Z Z ( bl O hx Z Z Z Z (ry h1 h2) (aa Z) Z Z Z Z Z Z Z (B0 := 169000) Z ( AN.nil))))))) Z Z ?_)))))
 first | refine AOps.step (aA O Z Z Z Z Z) Z Z Z ?_ | refine AOps.step (ay O Z Z Z Z Z) Z Z Z ?_ | refine AOps.step (Val.pickB O Z Z Z Z Z) Z Z Z ?_
 refine js O Z (jf [14,150,6,10,11,15] Z (jn (af (js O Z ?_))))
 first | refine ji O Z ?_ | refine bz O Z Z ?_
 refine js O Z (jf [15,14,150,6,10,11] Z (jn ?_))
 refine ⟨i + 1, Ent.to ⟨Z, Z, Z, congrArg (fun z => some (eB z)) (by rw [mo (by omega), Bool.cond_false_right]), Z, trivial⟩ Z, by omega, by omega⟩
 try simp only [ba] at hc150
 refine aD (ac (ag ?_))
 obtain rfl : i = p.xs.length := by omega
 refine js O Z (jn (ah (al (X := Nat) (fun j => ⟨[(6, .c (.pt 6 0 0)), (10, eI G), (11, .c (.pt 11 0 0)), (14, eB (ju (ju (num (C.tdiv G)) X G p.xs.length) Y G j)), (16, eI j)], [(6, .box [.d (.int .i64 0), .d .nils, .d .nils]), (11, .box [.d (.int .i64 (C.tdiv G)), .rs 900 0 p.xs.length, .rs 901 0 p.ms.length]), (900, bW (j5 X G p.xs.length)), (901, bW (j5 Y G j))]⟩) (fun j => j ≤ p.ms.length) (fun j => p.ms.length - j) 0 (((am [6,11,900,901] (e' := [(6, _), (10, _), (11, _), (14, _), (16, _)]) Z Z ⟨Z, Z, Z, Z, Z, trivial⟩ Z)).trans (Ent.to ⟨Z, Z, Z, congrArg (fun z => some (eB z)) vP.symm, Z, trivial⟩ (by rw [gv]; rfl))) ?_ (fun j hi => ?_))))
 exact b9 _
 refine ac (ag (j3 O Z Z Z ?_))
 first | refine cj O Z ?_ | refine js O Z ?_ | refine bz O Z Z ?_
 refine js O Z (jf [174,6,10,11,14,16] Z (jn (ae O Z Z (fun hc174 => ?_) (fun hc174 => ?_))))
 try simp only [ba] at hc174
 refine aj (ac (ah (ag ?_)))
 have hjl : j < Y.length := by omega
 have hyj := gP (b := (G : Int)) (hYb _ (kE hjl))
 refine j3 O Z Z Z ?_
 first | refine fR O Z Z ?_ | refine j6 O Z Z ?_ | refine bz O Z Z ?_
 refine AOps.step (aF O (ex := [.int .i64 (Y.getD j default)]) Z Z Z Z (by rw [Nat.zero_add]; exact dx (by omega)) Z) Z Z Z (js O Z ?_)
 first | refine AOps.step (vQ O Z Z Z Z) Z Z Z ?_ | refine ji O Z ?_
 first | refine fR O Z Z ?_ | refine j6 O Z Z ?_ | refine bz O Z Z ?_
 refine jf [184,183,174,6,10,11,14,16] Z (AOps.heap (bt (ex := [.int .i64 (Y.getD j default)]) (xs' := (j5 Y G (j + 1)).map (fun n => [D.int .i64 n])) O Z Z Z Z Z Z Z Z Z Z Z Z Z Z (by rw [Nat.zero_add]; exact dx (by omega)) (by rw [← fC (by omega), List.map_set, Nat.zero_add]; rfl)) Z (av ?_))
 refine jf [174,6,10,11,14,16] Z (jn (af (j2 O Z Z (jf [186,174,6,10,11,14,16] Z (aB 6 Z Z Z (fun hx => AN.step hx Z Z Z (V O Z) Z Z ( AN.step hx Z Z Z (V O Z) Z Z ( AN.step hx Z Z Z (V O Z) Z Z ( AN.step hx Z Z Z (vI O Z Z) Z Z ( AN.step hx Z Z Z (aF O (ex := [.int .i64 ((Y.getD j default).tdiv G)]) Z Z Z Z (rY (by omega)) Z) Z Z ( bl O hx Z Z Z Z (ry h1 h2) (aa Z) Z Z Z Z Z Z Z (B0 := 193000) Z ( AN.nil))))))) Z Z ?_)))))
 first | refine AOps.step (aA O Z Z Z Z Z) Z Z Z ?_ | refine AOps.step (ay O Z Z Z Z Z) Z Z Z ?_ | refine AOps.step (Val.pickB O Z Z Z Z Z) Z Z Z ?_
 refine js O Z (jf [14,174,6,10,11,16] Z (jn (af (js O Z ?_))))
 first | refine ji O Z ?_ | refine bz O Z Z ?_
 refine js O Z (jf [16,14,174,6,10,11] Z (jn ?_))
 refine ⟨j + 1, Ent.to ⟨Z, Z, Z, congrArg (fun z => some (eB z)) (by rw [mo (by omega), Bool.cond_false_right]), Z, trivial⟩ Z, by omega, by omega⟩
 try simp only [ba] at hc174
 refine aD (ag (j2 O Z Z (jo O Z (av ?_))))
 refine js O Z (jf [7,174,6,10,11,14,16] Z (jr ?_))
 refine ⟨.inl Z, _, ak, _, Z, ?_⟩
 obtain rfl : j = p.ms.length := by omega
 have e1 : j5 X G p.xs.length = X.map (fun x => x.tdiv G) := by rw [← lXp]; exact gS
 have e2 : j5 Y G p.ms.length = Y.map (fun x => x.tdiv G) := by rw [← lYp]; exact gS
 rw [e1, e2]
 rw [show cv p q k = jv ⟨C, X, Y⟩ G by subst eG; subst eY; subst eX; subst eC; subst em; subst en; rfl, tJ]
 show VR _ _ (.tup [yC (jv ⟨C, X, Y⟩ G), eB (ju (ju (num (C.tdiv G)) X G X.length) Y G Y.length)])
 rw [lXp, lYp]
 exact .tup (.cons (.agg (.cons .d (.cons (.whole Z (by simp [jv, lXp])) (.cons (.whole Z (by simp [jv, lYp])) .nil)))) (.cons (.c .d) .nil))
def uC (k : Nat) (rs : List Rw) : List Rw × Nat × Bool := match cO k rs with
  | none => ([], 0, false)
  | some new => (bu k rs ++ new, (bu k rs).length, true)
theorem nJ {k : Nat} {rs : List Rw} (h : cO k rs = none) : uC k rs = ([], 0, false) := by unfold uC; rw [h]
theorem k5 {k : Nat} {rs new : List Rw} (h : cO k rs = some new) : uC k rs = (bu k rs ++ new, (bu k rs).length, true) := by unfold uC; rw [h]
theorem wz {k : Nat} {rs : List Rw} (h : (uC k rs).2.2 = true) : ∃ new, cO k rs = some new := by
 cases hs : cO k rs with
 | none => rw [nJ hs] at h; cases h
 | some new => exact ⟨new, Z⟩
theorem wA {k : Nat} {rs : List Rw} (h : (uC k rs).2.2 = false) : cO k rs = none := by
 cases hs : cO k rs with
 | none => rfl
 | some new => rw [k5 hs] at h; cases h
def sY (ts : List Tm) : List Rw × List Rw × Bool := match bQ ts with
  | none => ([], [], false)
  | some z => (z.1, z.2, true)
theorem lm {ts : List Tm} (h : bQ ts = none) : sY ts = ([], [], false) := by unfold sY; rw [h]
theorem eF {ts : List Tm} {z : List Rw × List Rw} (h : bQ ts = some z) : sY ts = (z.1, z.2, true) := by unfold sY; rw [h]
theorem pM {ts : List Tm} (h : (sY ts).2.2 = true) : ∃ z, bQ ts = some z := by
 cases hs : bQ ts with
 | none => rw [lm hs] at h; cases h
 | some z => exact ⟨z, Z⟩
theorem pN {ts : List Tm} (h : (sY ts).2.2 = false) : bQ ts = none := by
 cases hs : bQ ts with
 | none => rfl
 | some z => rw [eF hs] at h; cases h
abbrev wB (z : List Rw × Nat × Bool) : A := .tup [jz z.1, eI z.2.1, eB z.2.2]
abbrev ua (z : List Rw × List Rw × Bool) : A := .tup [jz z.1, jz z.2.1, eB z.2.2]
theorem wl {a b : Int} (h : (bif decide (a ≤ 0) then true else decide (0 ≤ b)) = true) : a ≤ 0 ∨ 0 ≤ b := by
 by_cases h1 : a ≤ 0
 exact .inl h1
 right; simpa [h1] using h
theorem wm {a b : Int} (h : (bif decide (a ≤ 0) then true else decide (0 ≤ b)) = false) : ¬ (a ≤ 0 ∨ 0 ≤ b) := by
 by_cases h1 : a ≤ 0
 simp [h1] at h
 rintro (h2 | h2)
 exact h1 h2
 simp [h1, h2] at h
theorem ug {o : Bool} {n : Nat} (h : (bif !o then true else decide ((n : Int) = 60)) = true) : ¬ (o = true ∧ n ≠ 60) := by
 rintro ⟨h1, h2⟩
 simp [h1] at h; omega
theorem uh {o : Bool} {n : Nat} (h : (bif !o then true else decide ((n : Int) = 60)) = false) : o = true ∧ n ≠ 60 := by
 cases o with
 | false => simp at h
 | true => simp at h; exact ⟨rfl, by omega⟩
theorem w9 {n : Nat} {rs : List Rw} {k : Nat} (hr : AllR n rs) (hl60 : rs.length ≤ 60) (hk : k < 10) (hn : n ≤ 1000) : MQ h1 h2 90 [jz rs, eI k] [] (Plain (wB (uC k rs))) := by
 refine MC.data (jB 95 h1 h2 Try.func90 Z Z Z fun O hF => ?_)
 refine ag (j3 O Z Z Z (aP (AOps.heap (bd O Z Z Z Z Z Z Z Z Z Z Z) Z (av ?_))))
 refine js O Z (jn (ac (ag (js O Z (jn (ah (al (X := Nat) (fun i => ⟨[(0, jz rs), (1, eI k), (7, .c (.rs 900 0 (bu k (rs.take i)).length)), (8, eI i)], [(900, lZ (bu k (rs.take i)))]⟩) (fun i => i ≤ rs.length) (fun i => rs.length - i) 0 ((au 14 900 Z Z).trans (Ent.to ⟨Z, Z, Z, Z, trivial⟩ Z)) ?_ (fun i hi => ?_))))))))
 exact b9 _
 refine ac (ag (j2 O Z Z (cj O Z (js O Z (jf [18,0,1,7,8] Z (jn (ae O Z Z (fun hc18 => ?_) (fun hc18 => ?_))))))))
 refine aj (ac (ah (ag ?_)))
 have hil : i < rs.length := by have := cI hc18; omega
 have hri := (hr.get hil).l
 refine j2 O Z Z (fR O Z Z (j3 O Z Z Z (fR O Z Z (j2 O Z Z (jf [29,18,0,1,7,8] Z (jn (ae O Z Z (fun hc29 => ?_) (fun hc29 => ?_))))))))
 refine af (j3 O Z Z Z (fR O Z Z (js O Z (jf [34,30,29,18,0,1,7,8] Z (AOps.heap (bd O Z Z Z Z Z Z Z Z Z Z Z) Z (av ?_))))))
 refine jf [35,30,29,18,0,1,7,8] Z ?_
 have hki := dF (k := k) (rs := rs.take (i + 1))
 rw [List.length_take] at hki
 refine AOps.heap (aI (own := false) (zs := (bu k (rs.take (i + 1))).map Rw.cells) (n := (bu k (rs.take (i + 1))).length) O Z Z Z Z Z Z Z Z Z Z Z Z Z Z Z Z (.row Z (bp _).symm) (.whole Z Z (.inr ⟨Z, Z⟩)) (by simp) Z (by have := dF (k := k) (rs := rs.take i); simp at this ⊢; omega) (by have := dF (k := k) (rs := rs.take i); simp at this ⊢; omega) (by rw [qa hil (cI hc29), List.map_append]; rfl) (bp _)) Z (av ?_)
 refine js O Z (jf [7,29,18,0,1,8] Z (jn (af (js O Z (ji O Z (js O Z (jf [8,7,29,18,0,1] Z (jn ?_))))))))
 refine ⟨i + 1, ((am [36] (e' := [(0, _), (1, _), (7, _), (8, _)]) Z Z ⟨Z, Z, Z, Z, trivial⟩ Z).trans (au 36 900 Z Z)), by omega, by omega⟩
 refine aj (af (js O Z (ji O Z (js O Z (jf [8,29,18,0,1,7] Z (jn ?_))))))
 have hkf := qb (k := k) (i := i) (rs := rs) (by omega) (dh hc29)
 rw [← hkf]
 refine ⟨i + 1, Ent.to ⟨Z, Z, Z, Z, trivial⟩ Z, by omega, by omega⟩
 refine aD (ag ?_)
 have hie : i = rs.length := by have := dh hc18; omega
 subst hie
 rw [List.take_length]
 have hkl := dF (k := k) (rs := rs)
 obtain ⟨KP, eK⟩ : ∃ KP, KP = bu k rs := ⟨_, rfl⟩
 rw [← eK]
 rw [← eK] at hkl
 refine js O Z (bz O Z Z (js O Z (jf [9,18,0,1,7,8] Z (jn (ac (ag (js O Z (jn (ah (al (X := Nat × List Rw) (fun x => ⟨[(0, jz rs), (1, eI k), (7, .c (.rs 900 0 (KP.length + x.2.length))), (9, eI KP.length), (10, eI x.1)], [(900, lZ (KP ++ x.2))]⟩) (fun x => x.1 ≤ rs.length ∧ mF k KP.length rs (rs.drop x.1) x.2 = mF k KP.length rs rs [] ∧ AllR n x.2 ∧ KP.length + x.2.length ≤ 60) (fun x => rs.length - x.1) (0, []) (Ent.to ⟨Z, Z, Z, Z, Z, trivial⟩ (by rw [List.append_nil])) ?_ (fun x hi => ?_)))))))))))
 exact ⟨b9 _, Z, AllR.nil, by simp only [List.length_nil]; omega⟩
 refine ac (ag (j2 O Z Z (cj O Z (js O Z (jf [42,0,1,7,9,10] Z (jn (ae O Z Z (fun hc42 => ?_) (fun hc42 => ?_))))))))
 refine aj (ac (ah (ag ?_)))
 obtain ⟨hx1, hx2, hx3, hx4⟩ := hi
 have hxl : x.1 < rs.length := by have := cI hc42; omega
 refine js O Z (jn (ah (al (X := Nat × List Rw) (fun y => ⟨[(0, jz rs), (1, eI k), (7, .c (.rs 900 0 (KP.length + y.2.length))), (9, eI KP.length), (10, eI x.1), (11, eI y.1)], [(900, lZ (KP ++ y.2))]⟩) (fun y => y.1 ≤ rs.length ∧ np (rs.getD x.1 default) k KP.length (rs.drop y.1) y.2 = np (rs.getD x.1 default) k KP.length rs x.2 ∧ AllR n y.2 ∧ KP.length + y.2.length ≤ 60) (fun y => rs.length - y.1) (0, x.2) (Ent.to ⟨Z, Z, Z, Z, Z, Z, trivial⟩ Z) ?_ (fun y hi => ?_))))
 exact ⟨b9 _, Z, hx3, hx4⟩
 refine ac (ag (j2 O Z Z (cj O Z (js O Z (jf [48,0,1,7,9,10,11] Z (jn (ae O Z Z (fun hc48 => ?_) (fun hc48 => ?_))))))))
 refine aj (ac (ah (ac (ag ?_))))
 obtain ⟨hy1, hy2, hy3, hy4⟩ := hi
 have hyl : y.1 < rs.length := by have := cI hc48; omega
 have hpi := hr.get hxl
 have hqj := hr.get hyl
 have l1 := hpi.l
 have l2 := hqj.l
 have hgj := nW (p := (rs.getD x.1 default)) (k := k) (b := KP.length) (rs := rs) (new := y.2) (j := y.1) hyl
 refine j2 O Z Z (fR O Z Z (j3 O Z Z Z (fR O Z Z (j3 O Z Z Z (jf [60,48,0,1,7,9,10,11] Z (aB 9 Z Z Z (fun hx => AN.step hx Z Z Z (V O Z) Z Z ( AN.step hx Z Z Z (V O Z) Z Z ( AN.step hx Z Z Z (vN O Z) Z Z ( AN.step hx Z Z Z (V O Z) Z Z ( AN.step hx Z Z Z (V O Z) Z Z ( AN.step hx Z Z Z (V O Z) Z Z ( AN.step hx Z Z Z (vN O Z) Z Z ( AN.step hx Z Z Z (V O Z) Z Z ( AN.step hx Z Z Z (V O Z) Z Z ( AN.nil)))))))))) Z Z (AOps.step (ay O Z Z Z Z Z) Z Z Z (jf [70,48,0,1,7,9,10,11] Z (jn (ae O Z Z (fun hc70 => ?_) (fun hc70 => ?_)))))))))))
 refine aD (af (js O Z (ji O Z (js O Z (jf [11,70,48,0,1,7,9,10] Z (jn ?_))))))
 rw [if_pos (wl hc70)] at hgj
 refine ⟨(y.1 + 1, y.2), Ent.to ⟨Z, Z, Z, Z, Z, Z, trivial⟩ Z, ⟨by show y.1 + 1 ≤ _; omega, hgj.symm.trans hy2, hy3, hy4⟩, by show rs.length - (y.1 + 1) < rs.length - y.1; omega⟩
 refine aj (ac ?_)
 have hcc := wm hc70
 have hpk : 0 < (rs.getD x.1 default).xs.getD k default := by omega
 have hqk : (rs.getD y.1 default).xs.getD k default < 0 := by omega
 refine uE O [_,_,_,_,_,_,_,_,_,_,_,_,_,_] [pn [] 0 0, pn [] 0 0, pn [0,1] 0 0, pn [] 0 0, pn [] 0 0, pn [3,4] 0 0, pn [] 0 0, pe [0,1,2,3,4,5,6] 0, pn [0,1,2,3,4,5,6,7] 1 1, pn [0,1,2,3,4,5,6,7,8] 1 1, pn [0,1,2,3,4,5,6,7,8] 1 2, pn [] 0 1, pe [0,1,2,3,4,5,6,7,8,9,11] 1, pn [0,1,2,3,4,5,6,7,8,9,10,11,12] 2 2] [7,12] 11 12 (.box [.d (.int .i64 0), .d .nils, .d .nils]) [_,_] [_] [] (kf O Z Z Z (kf O Z Z Z (ai (ai (aO (vN O Z) (vN O Z)) Z) (kf O Z Z Z (kf O Z Z Z (ai (ai (aO (vN O Z) (vN O Z)) Z) (kf O Z Z Z (ai (ai (aO (bc (cg O (B0 := 80000) Z Z Z Z (ut (p := (rs.getD x.1 default)) (q := (rs.getD y.1 default)) (k := k) h1 h2 hpi hqj hk hpk hqk hn) (aa Z) Z Z Z Z Z)) (bc (cg O (B0 := 80000) Z Z Z Z (ut (p := (rs.getD x.1 default)) (q := (rs.getD y.1 default)) (k := k) h1 h2 hpi hqj hk hpk hqk hn) (aa Z) Z Z Z Z Z))) Z) (kf O Z Z Z (kf O Z Z Z (ai (kf O Z Z Z (kg O Z Z Z)) (ai (ai (ai (bc (Eff.alloc O Z Z Z Z Z Z)) Z) (ai (bc (Eff.alloc O Z Z Z Z Z Z)) Z)) (ai (ai (aO trivial (bc (eS O Z Z Z))) Z) (ai (ai (aO trivial (V O Z)) Z) trivial)))))))))))))) ?_
 refine jw [13,12,70,48,0,1,7,9,10,11] Z (dL ?_)
 refine ac (ag ?_)
 rw [if_neg hcc] at hgj
 refine j3 O Z Z Z (jf [84,12,70,48,0,1,7,9,10,11] Z (aB 3 Z Z Z (fun hx => AN.step hx Z Z Z (V O Z) Z Z ( AN.step hx Z Z Z (vI O Z Z) Z Z ( AN.step hx Z Z Z (V O Z) Z Z ( AN.nil)))) Z Z (AOps.step (ay O Z Z Z Z Z) Z Z Z (jf [88,12,70,48,0,1,7,9,10,11] Z (jn (ae O Z Z (fun hc88 => ?_) (fun hc88 => ?_)))))))
 refine ag (j3 O Z Z Z (jr ?_))
 refine ⟨.inl Z, _, ak, _, Z, ?_⟩
 have hno := ug hc88
 rw [if_neg hno] at hgj
 have hgi := i6 (k := k) (b := KP.length) (rs := rs) (new := x.2) (i := x.1) hxl
 rw [← hy2, hgj] at hgi
 rw [nJ (by show mF k (bu k rs).length rs rs [] = none; rw [← eK, ← hx2]; exact hgi)]
 exact .tup (.cons (.c .nils) (.cons (.c .d) (.cons (.c .d) .nil)))
 refine aj (af ?_)
 have hyes := uh hc88
 refine j2 O Z Z (AOps.heap (bd O Z Z Z Z Z Z Z Z Z Z Z) Z (av ?_))
 refine jf [91,89,88,12,70,48,0,1,7,9,10,11] Z (AOps.heap (aI (own := false) (xs := (KP ++ y.2).map Rw.cells) (zs := (KP ++ (y.2 ++ [cv (rs.getD x.1 default) (rs.getD y.1 default) k])).map Rw.cells) (n := KP.length + (y.2 ++ [cv (rs.getD x.1 default) (rs.getD y.1 default) k]).length) O Z Z Z Z Z Z Z Z Z Z Z Z Z Z Z Z (.row Z (by simp)) (.whole Z Z (.inr ⟨Z, Z⟩)) (by simp) Z (by simp; omega) (by simp; omega) (by rw [← ef, List.map_append (l₁ := KP ++ y.2)]; rfl) (by simp)) Z (av ?_))
 refine js O Z (jf [7,88,12,70,48,0,1,9,10,11] Z (jn (af (js O Z (ji O Z (js O Z (jf [11,7,88,12,70,48,0,1,9,10] Z (jn ?_))))))))
 rw [if_pos hyes] at hgj
 refine ⟨(y.1 + 1, y.2 ++ [cv (rs.getD x.1 default) (rs.getD y.1 default) k]), ((am [92] (e' := [(0, _), (1, _), (7, _), (9, _), (10, _), (11, _)]) Z Z ⟨Z, Z, Z, Z, Z, Z, trivial⟩ Z).trans (au 92 900 Z Z)), ⟨by show y.1 + 1 ≤ _; omega, hgj.symm.trans hy2, hy3.snoc (mO hpi hqj hpk hqk hyes.1), by simp only [bK, cZ]; omega⟩, by show rs.length - (y.1 + 1) < rs.length - y.1; omega⟩
 refine aD (af (js O Z (ji O Z (js O Z (jf [10,48,0,1,7,9,11] Z (jn ?_))))))
 obtain ⟨hy1, hy2, hy3, hy4⟩ := hi
 have hye : rs.length ≤ y.1 := by have := dh hc48; omega
 rw [qc hye] at hy2
 have hgi := i6 (k := k) (b := KP.length) (rs := rs) (new := x.2) (i := x.1) (by omega)
 rw [← hy2] at hgi
 refine ⟨(x.1 + 1, y.2), Ent.to ⟨Z, Z, Z, Z, Z, trivial⟩ Z, ⟨by show x.1 + 1 ≤ _; omega, hgi.symm.trans hx2, hy3, hy4⟩, by show rs.length - (x.1 + 1) < rs.length - x.1; omega⟩
 refine aD (ag (j4 O Z Z Z Z (js O Z (jf [6,5,4,42,0,1,7,9,10] Z (jr ?_)))))
 refine ⟨.inl Z, _, ak, _, Z, ?_⟩
 obtain ⟨hx1, hx2, hx3, hx4⟩ := hi
 have hxe : rs.length ≤ x.1 := by have := dh hc42; omega
 rw [qe hxe] at hx2
 rw [k5 (new := x.2) (by show mF k (bu k rs).length rs rs [] = some x.2; rw [← eK, ← hx2]), ← eK]
 exact .tup (.cons (.c (.whole Z (by simp))) (.cons (.c .d) (.cons (.c .d) .nil)))
theorem ux (hf : Fs ts) : MQ h1 h2 73 [.c (.rs 0 0 ts.length)] [(0, bG ts)] (bR (ua (sY ts)) [(0, bG ts)]) := by
 refine MC.shift 500 Z (dI (jH 35 [500] h1 h2 Try.func73 Z Z Z Z fun O hF => ?_))
 have hlen := hf.len
 refine ag (j3 O Z Z Z (aP (js O Z (jf [11,4,3,2] Z (aH O [500] (bin := [bG ts]) Z Z Z Z (xa (ts := ts) h1 h2 hf) Z Z Z Z Z Z (B0 := 13000) Z Z (av ?_))))))
 refine js O Z (jf [5,4,3,2] Z (aP (AOps.heap (bd O Z Z Z Z Z Z Z Z Z Z Z) Z (av ?_))))
 refine js O Z (jn (ac (ag (js O Z (jn (ah (al (X := Nat × List Rw × List Rw) (fun x => ⟨[(5, jz x.2.1), (6, .c (.rs 900 0 x.2.2.length)), (7, eI x.1)], [(900, lZ x.2.2), (500, bG ts)]⟩) (fun x => x.1 ≤ 10 ∧ ep (10 - x.1) x.1 x.2.1 x.2.2 = bQ ts ∧ AllR ts.length x.2.1 ∧ x.2.1.length ≤ 60 ∧ AllR ts.length x.2.2 ∧ x.2.2.length ≤ 60 * x.1) (fun x => 10 - x.1) (0, ny ts, []) ((au 13 900 Z Z).trans (Ent.to ⟨Z, Z, Z, trivial⟩ Z)) ?_ (fun x hi => ?_))))))))
 exact ⟨b9 _, Z, k6 hf, by show (c8 ts ts.length).length ≤ 60; rw [bf]; omega, AllR.nil, b9 _⟩
 refine ac (ag (j2 O Z Z (jn (ae O Z Z (fun hc15 => ?_) (fun hc15 => ?_)))))
 refine aj (ac (ah (ag ?_)))
 obtain ⟨hx1, hx2, hx3, hx4, hx5, hx6⟩ := hi
 have hxl : x.1 < 10 := by have := cI hc15; omega
 refine j2 O Z Z (ab O Z Z Z Z (w9 (n := ts.length) (rs := x.2.1) (k := x.1) h1 h2 hx3 hx4 hxl (by omega)) (aa Z) Z Z Z Z (B0 := 22000) Z Z (j4 O Z Z Z Z (j3 O Z Z Z (jf [10,9,8,15,14,5,6,7] Z (jn (ac (ag (j2 O Z Z (jf [26,9,8,15,14,5,6,7] Z (jn (ae O Z Z (fun hc26 => ?_) (fun hc26 => ?_))))))))))))
 refine ag (j3 O Z Z Z (jr ?_))
 refine ⟨.inl Z, _, ak, _, Z, ?_⟩
 refine ⟨?_, Z⟩
 have hs := wA (k := x.1) (rs := x.2.1) (by simpa using hc26)
 have he : bQ ts = none := by rw [← hx2, show 10 - x.1 = (10 - (x.1 + 1)) + 1 by omega, f9 hs]
 rw [lm he]
 exact .tup (.cons (.c .nils) (.cons (.c .nils) (.cons (.c .d) .nil)))
 refine aj (ag ?_)
 obtain ⟨new, hs⟩ := wz (k := x.1) (rs := x.2.1) (by simpa using hc26)
 have hso := jL hx3 hx4 hs
 rw [k5 hs]
 refine j3 O Z Z Z (AOps.step ((gV O Z Z ⟨by simp, by simp⟩).cast (v' := jz new) (by simp [List.map_append]; exact List.take_of_length_le (by simp))) Z Z Z (jf [30,27,26,8,15,14,5,6,7] Z (AOps.heap (aI (own := false) (xs := x.2.2.map Rw.cells) (ys := new.map Rw.cells) (zs := (x.2.2 ++ new).map Rw.cells) (n := (x.2.2 ++ new).length) O Z Z Z Z Z Z Z Z Z Z Z Z Z Z Z Z (.row Z (bp _).symm) (.slc (.inl Z)) (by simp) Z (by simp; omega) (by simp; omega) (by simp) (by simp)) Z (av ?_))))
 refine js O Z (jf [6,26,8,15,14,5,7] Z (jn (af (j2 O Z Z (jn (af (js O Z (ji O Z (js O Z (jf [7,5,32,6,26,8,15,14] Z (jn ?_)))))))))))
 refine ⟨(x.1 + 1, bu x.1 x.2.1 ++ new, x.2.2 ++ new), ((am [31,500] (e' := [(5, _), (6, _), (7, _)]) Z Z ⟨Z, Z, Z, trivial⟩ Z).trans (au 31 900 Z Z)), ⟨by show x.1 + 1 ≤ 10; omega, ?_, hso.1, hso.2.1, hx5.app hso.2.2.1, ?_⟩, by show 10 - (x.1 + 1) < 10 - x.1; omega⟩
 show ep (10 - (x.1 + 1)) (x.1 + 1) _ _ = _
 rw [← hx2, show 10 - x.1 = (10 - (x.1 + 1)) + 1 by omega, f8 hs]
 show (x.2.2 ++ new).length ≤ 60 * (x.1 + 1)
 rw [bK]; omega
 refine aD (ag (j4 O Z Z Z Z (js O Z (jf [4,3,2,15,14,5,6,7] Z (jr ?_)))))
 refine ⟨.inl Z, _, ak, _, Z, ?_⟩
 refine ⟨?_, Z⟩
 obtain ⟨hx1, hx2, hx3, hx4, hx5, hx6⟩ := hi
 have hxe : x.1 = 10 := by have := dh hc15; omega
 rw [hxe] at hx2
 have he : bQ ts = some x.2 := hx2.symm
 rw [eF he]
 exact .tup (.cons (.c .d) (.cons (.c (.whole Z (bp _).symm)) (.cons (.c .d) .nil)))
abbrev rF (z : List Int × Bool) : A := .tup [aQ z.1, eB z.2]
def nr (ts : List Tm) : Tm × List Int × Int × Bool := match cG ts with
  | none => (⟨0, []⟩, [], 0, false)
  | some r => ((an ts r.tm).1, r.ms, (aE r.tm.xs : Int), true)
abbrev ub (z : Tm × List Int × Int × Bool) : A := .tup [dn z.1, aQ z.2.1, eI z.2.2.1, eB z.2.2.2]
theorem jX {ts : List Tm} (h : cG ts = none) : nr ts = (⟨0, []⟩, [], 0, false) := by unfold nr; rw [h]
theorem jW {ts : List Tm} {r : Rw} (h : cG ts = some r) : nr ts = ((an ts r.tm).1, r.ms, (aE r.tm.xs : Int), true) := by unfold nr; rw [h]
theorem qh {ts : List Tm} (h : bQ ts = none) : cG ts = none := by unfold cG; rw [h]
theorem kL {ts : List Tm} {z : List Rw × List Rw} (h : bQ ts = some z) : cG ts = gl ts z.2 := by unfold cG; rw [h]
theorem p8 {ts : List Tm} (h : bQ ts = none) : bO ts = ([], false) := by unfold bO; rw [h]
theorem rS {ts : List Tm} {z : List Rw × List Rw} (h : bQ ts = some z) (h2 : eo z.1 = none) : bO ts = ([], false) := by unfold bO; rw [h]; simp only; rw [h2]
theorem rR {ts : List Tm} {z : List Rw × List Rw} {r : Rw} (h : bQ ts = some z) (h2 : eo z.1 = some r) : bO ts = (r.ms, true) := by unfold bO; rw [h]; simp only; rw [h2]
def nq (ts : List Tm) : Int × Tm := match dj ts with
  | some i => ((i : Int), (an ts (ts.getD i default)).1)
  | none => (-1, ⟨0, []⟩)
abbrev t8 (z : Int × Tm) : A := .tup [eI z.1, dn z.2]
theorem jJ {ts : List Tm} {i : Nat} (h : dj ts = some i) : nq ts = ((i : Int), (an ts (ts.getD i default)).1) := by unfold nq; rw [h]
theorem md {ts : List Tm} (h : dj ts = none) : nq ts = (-1, ⟨0, []⟩) := by unfold nq; rw [h]
theorem rO {ts : List Tm} {i : Nat} (h : i < ts.length) (h2 : (an ts (ts.getD i default)).2 = true) : kP ts (ts.length - i) i = some i := by
 rw [show ts.length - i = (ts.length - (i + 1)) + 1 by omega, kP, if_pos h2]
theorem rP {ts : List Tm} {i : Nat} (h : i < ts.length) (h2 : (an ts (ts.getD i default)).2 = false) : kP ts (ts.length - i) i = kP ts (ts.length - (i + 1)) (i + 1) := by
 rw [show ts.length - i = (ts.length - (i + 1)) + 1 by omega, kP, if_neg (by rw [h2]; decide)]
theorem qS {ts : List Tm} {i : Nat} (h : i < ts.length) : (ts.map Tm.cells)[0 + ((i : Nat) : Int).toNat]? = some (ts.getD i default).cells := by
 rw [Nat.zero_add, Int.toNat_natCast, List.getElem?_map, List.getElem?_eq_getElem h, ar h]; rfl
theorem xi (hf : Fs ts) : MQ h1 h2 50 [.c (.rs 0 0 ts.length)] [(0, bG ts)] (bR (rF (bO ts)) [(0, bG ts)]) := by
 refine MC.shift 500 Z (dI (jH 33 [500] h1 h2 Try.func50 Z Z Z Z fun O hF => ?_))
 refine ag (j2 O Z Z (aP (js O Z (jf [9,3,2] Z (aH O [500] (bin := [bG ts]) Z Z Z Z (ux (ts := ts) h1 h2 hf) Z Z Z Z Z Z (B0 := 11000) Z Z (av ?_))))))
 refine j4 O Z Z Z Z (j3 O Z Z Z (jf [6,4,3,2] Z (jn (ac (ag (j2 O Z Z (jf [15,4,3,2] Z (jn (ae O Z Z (fun hc15 => ?_) (fun hc15 => ?_))))))))))
 refine ag (j2 O Z Z (jr ?_))
 refine ⟨.inl Z, _, ak, _, Z, ?_⟩
 refine ⟨?_, Z⟩
 rw [p8 (pN (by simpa using hc15))]
 exact .tup (.cons (.c .nils) (.cons (.c .d) .nil))
 refine aj (ac (ag ?_))
 obtain ⟨z, hz⟩ := pM (ts := ts) (by simpa using hc15)
 rw [eF hz]
 obtain ⟨ha, hal, hb, hbl⟩ := fF hf (a := z.1) (b := z.2) hz
 refine js O Z (jn (ah (al (X := Nat) (fun i => ⟨[(4, jz z.1), (7, eI i)], [(500, bG ts)]⟩) (fun i => i ≤ z.1.length ∧ eo (z.1.drop i) = eo z.1) (fun i => z.1.length - i) 0 (Ent.to ⟨Z, Z, trivial⟩ Z) ?_ (fun i hi => ?_))))
 exact ⟨b9 _, Z⟩
 refine ac (ag (j2 O Z Z (cj O Z (js O Z (jf [19,4,7] Z (jn (ae O Z Z (fun hc19 => ?_) (fun hc19 => ?_))))))))
 refine aj (ac (ah (ag ?_)))
 have hil : i < z.1.length := by have := cI hc19; omega
 have hfc := lH (rs := z.1) hil
 refine j2 O Z Z (fR O Z Z (j3 O Z Z Z (jf [27,19,4,7] Z (jn (ae O Z Z (fun hc27 => ?_) (fun hc27 => ?_))))))
 refine ag (j2 O Z Z (fR O Z Z (j4 O Z Z Z Z (jf [3,2,27,19,4,7] Z (jr ?_)))))
 refine ⟨.inl Z, _, ak, _, Z, ?_⟩
 refine ⟨?_, Z⟩
 rw [if_pos (cI hc27), hi.2] at hfc
 rw [rR hz hfc]
 exact .tup (.cons (.c .d) (.cons (.c .d) .nil))
 refine aj (af (js O Z (ji O Z (js O Z (jf [7,27,19,4] Z (jn ?_))))))
 rw [if_neg (dh hc27)] at hfc
 exact ⟨i + 1, Ent.to ⟨Z, Z, trivial⟩ Z, ⟨by omega, hfc.symm.trans hi.2⟩, by omega⟩
 refine aD (ag (j2 O Z Z (jr ?_)))
 refine ⟨.inl Z, _, ak, _, Z, ?_⟩
 refine ⟨?_, Z⟩
 have hle : z.1.length ≤ i := by have := dh hc19; omega
 have h9 := hi.2
 rw [ml hle] at h9
 rw [rS hz h9.symm]
 exact .tup (.cons (.c .nils) (.cons (.c .d) .nil))
theorem xh (hf : Fs ts) : MQ h1 h2 51 [.c (.rs 0 0 ts.length)] [(0, bG ts)] (bR (ub (nr ts)) [(0, bG ts)]) := by
 refine MC.shift 500 Z (dI (jH 46 [500] h1 h2 Try.func51 Z Z Z Z fun O hF => ?_))
 refine ag (jl O Z (av ?_))
 refine j3 O Z Z Z (aP (js O Z (aH O [500] (bin := [bG ts]) Z Z Z Z (ux (ts := ts) h1 h2 hf) Z Z Z Z Z Z (B0 := 16000) Z Z (az (Ent.to (e' := [(15, ua (sY ts)), (0, .c (.rs 500 0 ts.length)), (2, .c (.pt 2 0 0))]) (H' := [(2, .box [.d (.int .i64 0), .d .nils]), (500, bG ts)]) ⟨Z, Z, Z, trivial⟩ Z) (j4 O Z Z Z Z (j3 O Z Z Z (jf [8,7,0,2] Z (jn (ac (ag (j2 O Z Z (jf [20,7,0,2] Z (jn (ae O Z Z (fun hc20 => ?_) (fun hc20 => ?_)))))))))))))))
 refine ag (js O Z (jf [21,7,0,2] Z (jo O Z (av ?_))))
 refine j3 O Z Z Z (jr ?_)
 refine ⟨.inl Z, _, ak, _, Z, ?_⟩
 refine ⟨?_, Z⟩
 rw [jX (qh (pN (by simpa using hc20)))]
 exact .tup (.cons (.agg (.cons .d (.cons .nils .nil))) (.cons (.c .nils) (.cons (.c .d) (.cons (.c .d) .nil))))
 refine aj (ac (ag ?_))
 obtain ⟨z, hz⟩ := pM (ts := ts) (by simpa using hc20)
 rw [eF hz]
 obtain ⟨ha, hal, hb, hbl⟩ := fF hf (a := z.1) (b := z.2) hz
 refine js O Z (jn (ah (al (X := Nat) (fun i => ⟨[(0, .c (.rs 500 0 ts.length)), (2, .c (.pt 2 0 0)), (7, jz z.2), (9, eI i)], [(2, .box [.d (.int .i64 0), .d .nils]), (500, bG ts)]⟩) (fun i => i ≤ z.2.length ∧ gl ts (z.2.drop i) = gl ts z.2) (fun i => z.2.length - i) 0 (Ent.to ⟨Z, Z, Z, Z, trivial⟩ Z) ?_ (fun i hi => ?_))))
 exact ⟨b9 _, Z⟩
 refine ac (ag (j2 O Z Z (cj O Z (js O Z (jf [25,0,2,7,9] Z (jn (ae O Z Z (fun hc25 => ?_) (fun hc25 => ?_))))))))
 refine aj (ac (ah (ag ?_)))
 have hil : i < z.2.length := by have := cI hc25; omega
 have hfc := lI (ts := ts) (rs := z.2) hil
 have hro := hb.get hil
 refine j2 O Z Z (fR O Z Z (jf [30,25,0,2,7,9] Z (ab O Z Z Z Z (xd (r := z.2.getD i default) h1 h2 hro.tm) (aa Z) Z Z Z Z (B0 := 32000) Z Z (jf [31,25,0,2,7,9] Z (jl O Z (av ?_))))))
 refine jo O Z (av ?_)
 refine aP (az (Ent.freeze 10 (e' := [(10, _), (0, _), (2, _), (7, _), (9, _)]) Z (.cons Z (.c (.box (cs := Tm.cells (z.2.getD i default).tm) Z (aC Z))) (fe [0,2,7,9] Z)) (.cons Z (.box (fk Z)) (.skip (.cons Z .row .nil)))) ?_)
 refine js O Z (aH O [500] (bin := [bG ts]) Z Z Z Z (vx (ts := ts) (t := (z.2.getD i default).tm) h1 h2 hro.tm) Z Z Z Z Z Z (B0 := 35000) Z Z (az (Ent.to (e' := [(34, fw (an ts (z.2.getD i default).tm)), (0, .c (.rs 500 0 ts.length)), (2, .c (.pt 2 0 0)), (7, jz z.2), (9, eI i), (10, ptr (Tm.cells (z.2.getD i default).tm))]) (H' := [(2, .box [.d (.int .i64 0), .d .nils]), (500, bG ts)]) ⟨Z, Z, Z, Z, Z, Z, trivial⟩ Z) (j3 O Z Z Z (jf [36,35,0,2,7,9,10] Z (jl O Z (av ?_))))))
 refine jo O Z (av ?_)
 refine js O Z (jf [12,11,0,2,7,9,10] Z (aP (js O Z (jn (ae O Z Z (fun hc37 => ?_) (fun hc37 => ?_))))))
 refine ac (j7 O [_,_,_,_,_,_,_,_,_,_,_] [pn [] 0 1, pn [] 0 2, pn [] 0 2, pn [1,2] 0 2, pn [1,2,3] 0 2, pn (rg 1 4) 0 2, pe [] 0, pe [0,6] 1, pn (rg 0 8) 2 2, pn (rg 0 9) 2 2, pn (rg 0 10) 2 2] [6,7] [_,_,_] (ai (kc O Z (V O Z)) (ai (kc O Z (kc O Z (V O Z))) (ai (kc O Z (kc O Z (V O Z))) (ai (ai (vN O Z) (ai (vN O Z) (vN O Z))) (ai (kc O Z (kc O Z (V O Z))) (ai (kc O Z (kc O Z (V O Z))) (ai (bj O (B0 := 45000) Z Z Z Z (qz (t := (z.2.getD i default).tm) h1 h2 (bh hro.tm).xs) (aa Z) Z Z Z Z Z) (ai (eS O Z Z Z) (kc O Z (kc O Z (kc O Z trivial))))))))))) ?_)
 refine jw [5,4,3,37,12,11,0,2,7,9,10] Z (dL ?_)
 refine fT ?_
 refine ⟨.inl Z, _, ak, _, Z, ?_⟩
 refine ⟨?_, Z⟩
 rw [if_pos hc37, hi.2, ← kL hz] at hfc
 rw [jW hfc]
 exact .tup (.cons (.agg (aC Z)) (.cons (.c .d) (.cons (.c .d) (.cons (.c .d) .nil))))
 refine aj (af (js O Z (ji O Z (js O Z (jf [9,37,12,11,0,2,7,10] Z (jn ?_))))))
 rw [if_neg (by rw [hc37]; decide)] at hfc
 refine ⟨i + 1, ((am [2,500] (e' := [(0, _), (2, _), (7, _), (9, _)]) Z Z ⟨Z, Z, Z, Z, trivial⟩ Z).trans ak), ⟨by omega, hfc.symm.trans hi.2⟩, by omega⟩
 refine aD (ag (js O Z (jo O Z (av ?_))))
 refine j3 O Z Z Z (jr ?_)
 refine ⟨.inl Z, _, ak, _, Z, ?_⟩
 refine ⟨?_, Z⟩
 have hle : z.2.length ≤ i := by have := dh hc25; omega
 have h9 := hi.2
 rw [mn hle, ← kL hz] at h9
 rw [jX h9.symm]
 exact .tup (.cons (.agg (.cons .d (.cons .nils .nil))) (.cons (.c .nils) (.cons (.c .d) (.cons (.c .d) .nil))))
theorem xj (hf : Fs ts) : MQ h1 h2 49 [.c (.rs 0 0 ts.length)] [(0, bG ts)] (bR (t8 (nq ts)) [(0, bG ts)]) := by
 refine MC.shift 500 Z (dI (jH 25 [500] h1 h2 Try.func49 Z Z Z Z fun O hF => ?_))
 have hlen := hf.len
 refine ag (js O Z (jl O Z (av ?_)))
 refine jn (ac (ag (js O Z (jn (ah (al (X := Nat) (fun i => ⟨[(0, .c (.rs 500 0 ts.length)), (3, .c (.pt 3 0 0)), (4, eI i)], [(3, .box [.d (.int .i64 0), .d .nils]), (500, bG ts)]⟩) (fun i => i ≤ ts.length ∧ kP ts (ts.length - i) i = dj ts) (fun i => ts.length - i) 0 (Ent.to ⟨Z, Z, Z, trivial⟩ Z) ?_ (fun i hi => ?_)))))))
 exact ⟨b9 _, Z⟩
 refine ac (ag (j2 O Z Z (bz O Z Z (js O Z (jf [10,0,3,4] Z (jn (ae O Z Z (fun hc10 => ?_) (fun hc10 => ?_))))))))
 refine aj (ac (ah (ag ?_)))
 have hil : i < ts.length := by have := cI hc10; omega
 have hget := qS hil
 have hti := hf.get hil
 refine j3 O Z Z Z (bz O Z Z (jf [17,14,10,0,3,4] Z (aH O [500] (bin := [bG ts]) Z Z Z Z (vy (ts := ts) (t := ts.getD i default) h1 h2 hget hti) Z Z Z Z Z Z (B0 := 19000) Z Z (az (Ent.to (e' := [(18, fw (an ts (ts.getD i default))), (0, .c (.rs 500 0 ts.length)), (3, .c (.pt 3 0 0)), (4, eI i)]) (H' := [(3, .box [.d (.int .i64 0), .d .nils]), (500, bG ts)]) ⟨Z, Z, Z, Z, trivial⟩ Z) (j3 O Z Z Z (jf [20,19,0,3,4] Z (jl O Z (av ?_))))))))
 refine jo O Z (av ?_)
 refine js O Z (jf [6,5,0,3,4] Z (aP (js O Z (jn (ae O Z Z (fun hc21 => ?_) (fun hc21 => ?_))))))
 refine ac (j7 O [_,_,_,_] [pn [] 0 0, pn [] 0 0, pn [0] 0 0, pe [0,1,2] 0] [3] [_,_] (kc O Z (kc O Z (kc O Z (ai (eS O Z Z Z) trivial)))) ?_)
 refine jw [2,21,6,5,0,3,4] Z (dL ?_)
 refine fT ?_
 refine ⟨.inl Z, _, ak, _, Z, ?_⟩
 refine ⟨?_, Z⟩
 have hg := rO hil hc21
 rw [hi.2] at hg
 rw [jJ hg]
 exact .tup (.cons (.c .d) (.cons (.agg (aC Z)) .nil))
 refine aj (af (js O Z (ji O Z (js O Z (jf [4,21,6,5,0,3] Z (jn ?_))))))
 have hg := rP hil hc21
 refine ⟨i + 1, ((am [3,500] (e' := [(0, _), (3, _), (4, _)]) Z Z ⟨Z, Z, Z, trivial⟩ Z).trans ak), ⟨by omega, hg.symm.trans hi.2⟩, by omega⟩
 refine aD (ag (j2 O Z Z (jo O Z (av ?_))))
 refine jr ?_
 refine ⟨.inl Z, _, ak, _, Z, ?_⟩
 refine ⟨?_, Z⟩
 have hie : i = ts.length := by have := dh hc10; omega
 have h9 := hi.2
 rw [hie, Nat.sub_self] at h9
 rw [md h9.symm]
 exact .tup (.cons (.c .d) (.cons (.agg (.cons .d (.cons .nils .nil))) .nil))
abbrev c5 (ts : List Tm) : Option (List Nd × List Nd) := fh (15 - ts.length) ts
theorem qM {ts : List Tm} {i : Nat} (hl : ts.length = 14) (h : dj ts = some i) : c5 ts = none := by
 unfold c5; rw [show 15 - ts.length = 0 + 1 by omega, fh, h]; simp only; rw [if_pos hl]
theorem sk {ts : List Tm} {i : Nat} (hl : ts.length < 14) (h : dj ts = some i) : c5 ts = (c5 (ts ++ [(an ts (ts.getD i default)).1])).map fun z => (ci i :: z.1, z.2) := by
 unfold c5; rw [bK, cZ, show 15 - ts.length = (15 - (ts.length + 1)) + 1 by omega, fh, h]; simp only; rw [if_neg (by omega)]
theorem sm {ts : List Tm} (hl : ts.length ≤ 14) (h : dj ts = none) (h2 : (bO ts).2 = true) : c5 ts = some ([bA (bO ts).1], []) := by
 unfold c5; rw [show 15 - ts.length = (14 - ts.length) + 1 by omega, fh, h]; simp only; rw [if_pos h2]
theorem lA {ts : List Tm} (hl : ts.length ≤ 14) (h : dj ts = none) (h2 : (bO ts).2 = false) (h3 : cG ts = none) : c5 ts = none := by
 unfold c5; rw [show 15 - ts.length = (14 - ts.length) + 1 by omega, fh, h]; simp only; rw [if_neg (by rw [h2]; decide), h3]
theorem oV {ts : List Tm} {r : Rw} (hl : ts.length = 14) (h : dj ts = none) (h2 : (bO ts).2 = false) (h3 : cG ts = some r) : c5 ts = none := by
 unfold c5; rw [show 15 - ts.length = 0 + 1 by omega, fh, h]; simp only; rw [if_neg (by rw [h2]; decide), h3]; simp only; rw [if_pos hl]
theorem oU {ts : List Tm} {r : Rw} (hl : ts.length ≤ 14) (h : dj ts = none) (h2 : (bO ts).2 = false) (h3 : cG ts = some r) (h4 : (aT (an ts r.tm).1).2 = false) : c5 ts = none := by
 unfold c5; rw [show 15 - ts.length = (14 - ts.length) + 1 by omega, fh, h]; simp only; rw [if_neg (by rw [h2]; decide), h3]; simp only; split
 rfl
 rw [if_neg (by rw [h4]; decide)]
theorem sl {ts : List Tm} {r : Rw} (hl : ts.length < 14) (h : dj ts = none) (h2 : (bO ts).2 = false) (h3 : cG ts = some r) (h4 : (aT (an ts r.tm).1).2 = true) : c5 ts = (c5 (ts ++ [(an ts r.tm).1])).map fun z => (bN (an ts r.tm).1 :: z.1, z.2 ++ [bA (cF r)]) := by
 unfold c5; rw [bK, cZ, show 15 - ts.length = (15 - (ts.length + 1)) + 1 by omega, fh, h]; simp only; rw [if_neg (by rw [h2]; decide), h3]; simp only; rw [if_neg (by omega), if_pos h4]
theorem fI {s : Sq} {b : Int} (hok : (aT s.goal).2 = true) (h : c5 (s.facts ++ [(aT s.goal).1]) = none) : aU s b = ([], false) := by
 unfold c5 at h; rw [bK, cZ] at h
 unfold aU; rw [if_pos hok, h]
theorem jN {s : Sq} {b : Int} {z : List Nd × List Nd} (hok : (aT s.goal).2 = true) (h : c5 (s.facts ++ [(aT s.goal).1]) = some z) : aU s b = if ((z.1 ++ z.2).length : Int) ≤ b then (z.1 ++ z.2, true) else ([], false) := by
 unfold c5 at h; rw [bK, cZ] at h
 unfold aU; rw [if_pos hok, h]
theorem k8 {s : Sq} {b : Int} (hok : (aT s.goal).2 = false) : aU s b = ([], false) := by
 unfold aU; rw [if_neg (by rw [hok]; decide)]
theorem uR {ts : List Tm} (h : 0 ≤ (nq ts).1) : ∃ i, dj ts = some i := by
 cases ht : dj ts with
 | some i => exact ⟨i, Z⟩
 | none => rw [md ht] at h; exact absurd h (by decide)
theorem uS {ts : List Tm} (h : ¬ 0 ≤ (nq ts).1) : dj ts = none := by
 cases ht : dj ts with
 | none => rfl
 | some i => rw [jJ ht] at h; exact absurd (Int.natCast_nonneg i) h
theorem vc {ts : List Tm} (h : (nr ts).2.2.2 = true) : ∃ r, cG ts = some r := by
 cases ht : cG ts with
 | some r => exact ⟨r, Z⟩
 | none => rw [jX ht] at h; cases h
theorem vd {ts : List Tm} (h : (nr ts).2.2.2 = false) : cG ts = none := by
 cases ht : cG ts with
 | none => rfl
 | some r => rw [jW ht] at h; cases h
theorem Fs.snoc' {ts : List Tm} {t : Tm} (h : Fs ts) (ht : t.ok = true) (hl : ¬ (ts.length : Int) = 14) : Fs (ts ++ [t]) := h.snoc ht (by omega)
theorem iW {s : Sq} (hs : bX s = true) (hok : (aT s.goal).2 = true) : Fs (s.facts ++ [(aT s.goal).1]) := by
 obtain ⟨q1, q2, q3⟩ := cC hs
 exact Fs.snoc ⟨q1, by omega⟩ (kD hok) (by omega)
abbrev gj (z : List Nd × Bool) : A := .tup [c7 z.1, eB z.2]
theorem dE {H : List (Nat × B)} : VR H (.tup [.c (.d .nils), eB false]) (gj ([], false)) := .tup (.cons (.c .nils) (.cons (.c .d) .nil))
structure PvI (C : List Tm) (x : List Tm × List Nd × List Nd) : Prop where
  f : Fs x.1
  a : x.2.1.length ≤ x.1.length
  b : x.2.2.length ≤ x.1.length
  e : (c5 x.1).map (fun z => (x.2.1 ++ z.1, z.2 ++ x.2.2)) = c5 C
theorem PvI.none {C : List Tm} {x : List Tm × List Nd × List Nd} (h : PvI C x) (hn : c5 x.1 = none) : c5 C = none := by rw [← h.e, hn]; rfl
theorem PvI.zero {C : List Tm} (h : Fs C) : PvI C (C, [], []) := ⟨h, b9 _, b9 _, by
  simp only [List.nil_append, List.append_nil]
  cases c5 C <;> rfl⟩
theorem PvI.tig {C : List Tm} {x : List Tm × List Nd × List Nd} {i : Nat} (h : PvI C x) (hl : ¬ (x.1.length : Int) = 14) (hi : dj x.1 = some i) : PvI C (x.1 ++ [(an x.1 (x.1.getD i default)).1], x.2.1 ++ [ci i], x.2.2) := by
 have h14 := h.f.len
 refine ⟨h.f.snoc' (b0 (fH hi).2.2) hl, by simp only [bK, cZ]; have := h.a; omega, by simp only [bK, cZ]; have := h.b; omega, ?_⟩
 rw [← h.e, sk (by omega) hi]
 cases c5 (x.1 ++ [(an x.1 (x.1.getD i default)).1]) <;> simp
theorem PvI.cut {C : List Tm} {x : List Tm × List Nd × List Nd} {r : Rw} (h : PvI C x) (hl : ¬ (x.1.length : Int) = 14) (h0 : dj x.1 = .none) (h2 : (bO x.1).2 = false) (h3 : cG x.1 = some r) (h4 : (aT (an x.1 r.tm).1).2 = true) : PvI C (x.1 ++ [(an x.1 r.tm).1], x.2.1 ++ [bN (an x.1 r.tm).1], bA (cF r) :: x.2.2) := by
 have h14 := h.f.len
 refine ⟨h.f.snoc' (b0 (fd h.f h3).2) hl, by simp only [bK, cZ]; have := h.a; omega, by simp only [bK, cZ, dp]; have := h.b; omega, ?_⟩
 rw [← h.e, sl (by omega) h0 h2 h3 h4]
 cases c5 (x.1 ++ [(an x.1 r.tm).1]) <;> simp
theorem xY {o : Bool} {n : Nat} (h : (bif !o then true else decide ((n : Int) = 14)) = true) : o = false ∨ n = 14 := by
 cases o with
 | false => exact .inl Z
 | true => simp at h; right; omega
theorem wH {o : Bool} {n : Nat} (h : (bif !o then true else decide ((n : Int) = 14)) = false) : o = true ∧ ¬ (n : Int) = 14 := by
 cases o with
 | false => simp at h
 | true => simp at h; exact ⟨rfl, by omega⟩
variable {s : Sq}
theorem wY (hg : Small s.goal) (hn : s.facts.length ≤ 1000) (hok : (aT s.goal).2 = true) : MQ h1 h2 48 [ptr s.cells] [] (Rows (.tup [.c (.rs 0 0 (s.facts ++ [(aT s.goal).1]).length), eB true]) [bG (s.facts ++ [(aT s.goal).1])]) := by
 refine cy (jB 23 h1 h2 Try.func48 Z Z Z fun O hF => ?_)
 refine ag (j2 O Z Z (aP (j3 O Z Z Z (jf [9,3,2,0] Z (ab O Z Z Z Z (uL (t := s.goal) h1 h2 hg) (.cons (.c (.sub Z)) .nil) Z Z Z Z (B0 := 11000) Z Z (j3 O Z Z Z (jf [12,11,3,2,0] Z (jl O Z (jo O Z (js O Z (jf [5,4,3,2,0] Z (jn (ac (ag (j2 O Z Z (jf [14,4,3,2,0] Z (jn (ae O Z Z (fun hc14 => ?_) (fun hc14 => ?_)))))))))))))))))))
 try simp only [ba] at hc14
 rw [hok] at hc14; cases hc14
 try simp only [ba] at hc14
 refine aj (ac (jw [4,0] Z (uE O [_,_,_,_,_,_,_,_,_,_] [pn [] 0 0, pn [0] 0 0, pn [0,1] 0 0, pn [0,1,2] 0 0, pe [0,1,2,3] 0, pn [] 0 1, pn [5] 0 1, pe [0,1,2,3,4,5,6] 1, pn [0,1,2,3,4,5,6,7] 2 2, pn [0,1,2,3,4,5,6,7,8] 2 2] [4,7] 6 21 (.row false 2 [Tm.cells (aT s.goal).1]) [_,_] [_] [[], [20000]] (kf O Z Z Z (kf O Z Z Z (kf O Z Z Z (kf O Z Z Z (ai (ai (aO (bc (cU O (B0 := 20000) Z Z Z Z (s7 (ts := s.facts) h1 h2) (aa Z) Z Z Z Z)) (bc (cU O (B0 := 20000) Z Z Z Z (s7 (ts := s.facts) h1 h2) (aa Z) Z Z Z Z))) Z) (ai (kf O Z Z Z (kg O Z Z Z)) (ai (ai (ai (bc (df O Z Z Z Z Z Z Z Z Z Z Z Z Z Z)) Z) (ai (bc (df O Z Z Z Z Z Z Z Z Z Z Z Z Z Z)) Z)) (ai (ai (aO trivial (cX (own := false) (xs := s.facts.map Tm.cells) (ys := [Tm.cells (aT s.goal).1]) (zs := (s.facts ++ [(aT s.goal).1]).map Tm.cells) (n := (s.facts ++ [(aT s.goal).1]).length) O Z Z Z Z Z Z Z Z Z Z Z Z Z Z Z Z (.row Z (bp _).symm) (.whole Z Z (.inr ⟨Z, Z⟩)) (by simp) Z (by simp; omega) (by simp; omega) (by simp) (by simp) Z)) Z) (ai (ai (aO trivial (V O Z)) Z) (ai (ai (aO trivial (V O Z)) Z) trivial)))))))))) ?_)))
 refine jw [3,2,4,0] Z (dL ?_)
 refine fT ?_
 refine ⟨.inl Z, _, ak, _, Z, [22], by decide, Z, Z, Z⟩
theorem vB (hs : bX s = true) (hb : 1 ≤ b ∧ b ≤ 60) (hok : (aT s.goal).2 = true) : MQ h1 h2 25 [ptr s.cells, eI b] [] (Plain (gj (aU s b))) := by
 refine MC.data (jB 104 h1 h2 Try.func25 Z Z Z fun O hF => ?_)
 obtain ⟨hs1, hs2, hs3⟩ := cC hs
 refine ag (j2 O Z Z (aP (js O Z (jf [19,5,4,1] Z (lO O (B0 := 21000) Z Z Z Z (wY (s := s) h1 h2 (bh hs3) (by omega) hok) (aa Z) Z Z Z Z Z (j4 O Z Z Z Z (js O Z (jf [7,6,5,4,1] Z (jn (ac (ag (j2 O Z Z (jf [24,6,5,4,1] Z (jn (ae O Z Z (fun hc24 => ?_) (fun hc24 => ?_))))))))))))))))
 exact absurd hc24 (by decide)
 refine aj (ag (AOps.heap (bd O Z Z Z Z Z Z Z Z Z Z Z) Z (av ?_)))
 refine js O Z (jf [8,6,5,4,1] Z (aP (AOps.heap (bd O Z Z Z Z Z Z Z Z Z Z Z) Z (av ?_))))
 refine js O Z (jn (ac (ah (al (X := List Tm × List Nd × List Nd) (fun x => ⟨[(1, eI b), (6, .c (.rs 901 0 x.1.length)), (8, .c (.rs 902 0 x.2.1.length)), (9, .c (.rs 903 0 x.2.2.length))], [(902, bH x.2.1), (903, bH x.2.2), (901, bG x.1)]⟩) (fun x => PvI (s.facts ++ [(aT s.goal).1]) x) (fun x => 15 - x.1.length) ((s.facts ++ [(aT s.goal).1]), [], []) (((((am [25,26,21000] (e' := [(1, _), (6, _), (8, _), (9, _)]) Z Z ⟨Z, Z, Z, Z, trivial⟩ Z).trans (au 25 902 Z Z)).trans (au 26 903 Z Z)).trans (au 21000 901 Z Z))) ?_ (fun x hi => ?_)))))
 exact PvI.zero (iW hs hok)
 refine ah (ag ?_)
 have hlen := hi.f.len; have hla := hi.a; have hlb := hi.b
 refine js O Z (aH O [901] (bin := [bG x.1]) Z Z Z Z (xj (ts := x.1) h1 h2 hi.f) Z Z Z Z Z Z (B0 := 30000) Z Z (az (Ent.to (e' := [(29, t8 (nq x.1)), (1, eI b), (6, .c (.rs 901 0 x.1.length)), (8, .c (.rs 902 0 x.2.1.length)), (9, .c (.rs 903 0 x.2.2.length))]) (H' := [(902, bH x.2.1), (903, bH x.2.2), (901, bG x.1)]) ⟨Z, Z, Z, Z, Z, trivial⟩ Z) (j3 O Z Z Z (jf [31,30,1,6,8,9] Z (jl O Z (av ?_))))))
 refine js O Z (jf [10,11,31,1,6,8,9] Z (jo O Z (av ?_)))
 refine jn (ac (ag (j2 O Z Z (jn (ae O Z Z (fun hc33 => ?_) (fun hc33 => ?_))))))
 refine ac (ag ?_)
 obtain ⟨i, hti⟩ := uR (cI hc33)
 rw [jJ hti]
 refine js O Z (bz O Z Z (js O Z (jf [36,33,32,10,11,31,1,6,8,9] Z (jn (ae O Z Z (fun hc36 => ?_) (fun hc36 => ?_))))))
 refine ag (j2 O Z Z (jr ?_))
 refine ⟨.inl Z, _, ak, _, Z, ?_⟩
 rw [fI hok (hi.none (qM (by have := cI hc36; omega) hti))]
 exact dE
 refine aj (ag (j3 O Z Z Z (jf [39,37,36,33,32,10,11,31,1,6,8,9] Z (AOps.heap (bd O Z Z Z Z Z Z Z Z Z Z Z) Z (az (Ent.rowLe 40 Z (NLess.cons (ys := []) (y := Nd.cells (ci i)) (.cons .refl (.cons .refl (.cons .refl (.cons (.nil (sz := 1)) (.cons (.nil (sz := 1)) .nil))))) .nil)) (av ?_))))))
 refine av ?_
 refine jf [40,37,36,33,32,10,11,31,1,6,8,9] Z (AOps.heap (aI (own := false) (xs := (x.2.1).map Nd.cells) (ys := [Nd.cells (ci i)]) (zs := (x.2.1 ++ [ci i]).map Nd.cells) (n := (x.2.1 ++ [ci i]).length) O Z Z Z Z Z Z Z Z Z Z Z Z Z Z Z Z (.row Z (bp _).symm) (.whole Z Z (.inr ⟨Z, Z⟩)) (by simp) Z (by simp only [bp, bK, cZ, dp, List.length_nil]; omega) (by simp only [bp, bK, cZ, dp, List.length_nil]; omega) (by rw [List.map_append]; rfl) (bp _)) Z (av ?_))
 refine av ?_
 refine js O Z (jf [8,36,33,32,10,11,31,1,6,9] Z (aP (j2 O Z Z (AOps.heap (bd O Z Z Z Z Z Z Z Z Z Z Z) Z (av ?_)))))
 refine jf [44,42,8,36,33,32,10,11,31,1,6,9] Z (AOps.heap (aI (own := false) (xs := (x.1).map Tm.cells) (ys := [Tm.cells (an x.1 (x.1.getD i default)).1]) (zs := (x.1 ++ [(an x.1 (x.1.getD i default)).1]).map Tm.cells) (n := (x.1 ++ [(an x.1 (x.1.getD i default)).1]).length) O Z Z Z Z Z Z Z Z Z Z Z Z Z Z Z Z (.row Z (bp _).symm) (.whole Z Z (.inr ⟨Z, Z⟩)) (by simp) Z (by simp only [bp, bK, cZ, dp, List.length_nil]; omega) (by simp only [bp, bK, cZ, dp, List.length_nil]; omega) (by rw [List.map_append]; rfl) (bp _)) Z (av ?_))
 refine av ?_
 refine js O Z (jf [6,8,36,33,32,10,11,31,1,9] Z (jn (aD ?_)))
 refine ⟨(x.1 ++ [(an x.1 (x.1.getD i default)).1], x.2.1 ++ [ci i], x.2.2), (((am [41,903,45] (e' := [(1, _), (6, _), (8, _), (9, _)]) Z Z ⟨Z, Z, Z, Z, trivial⟩ Z).trans (au 41 902 Z Z)).trans (au 45 901 Z Z)), hi.tig (dh hc36) hti, by simp only [bK, cZ]; have := dh hc36; omega⟩
 refine aj (ag ?_)
 have htn := uS (dh hc33)
 refine az (am [902,903,901] (e' := [(1, _), (6, _), (8, _), (9, _)]) Z Z ⟨Z, Z, Z, Z, trivial⟩ Z) (js O Z (aH O [901] (bin := [bG x.1]) Z Z Z Z (xi (ts := x.1) h1 h2 hi.f) Z Z Z Z Z Z (B0 := 49000) Z Z (az (Ent.to (e' := [(48, rF (bO x.1)), (1, eI b), (6, .c (.rs 901 0 x.1.length)), (8, .c (.rs 902 0 x.2.1.length)), (9, .c (.rs 903 0 x.2.2.length))]) (H' := [(902, bH x.2.1), (903, bH x.2.2), (901, bG x.1)]) ⟨Z, Z, Z, Z, Z, trivial⟩ Z) (j4 O Z Z Z Z (js O Z (jf [13,12,1,6,8,9] Z (jn (ac (ag (js O Z (jn (ae O Z Z (fun hc51 => ?_) (fun hc51 => ?_)))))))))))))
 refine ag (js O Z ?_)
 have hrl := (kC hi.f hc51).2
 refine js O Z (jf [53,52,51,13,1,6,8,9] Z (ab O Z Z Z Z (rI (xs := (bO x.1).1) h1 h2) (aa Z) Z Z Z Z (B0 := 55000) Z Z (js O Z (jf [55,52,51,13,1,6,8,9] Z (AOps.heap (bd O Z Z Z Z Z Z Z Z Z Z Z) Z (az (Ent.rowLe 56 Z (NLess.cons (ys := []) (y := Nd.cells (bA (bO x.1).1)) (.cons .refl (.cons .refl (.cons .refl (.cons (.nil (sz := 1)) (.cons .refl .nil))))) .nil)) (av ?_)))))))
 refine av ?_
 refine jf [56,52,51,13,1,6,8,9] Z (AOps.heap (aI (own := false) (xs := (x.2.1).map Nd.cells) (ys := [Nd.cells (bA (bO x.1).1)]) (zs := (x.2.1 ++ [bA (bO x.1).1]).map Nd.cells) (n := (x.2.1 ++ [bA (bO x.1).1]).length) O Z Z Z Z Z Z Z Z Z Z Z Z Z Z Z Z (.row Z (bp _).symm) (.whole Z Z (.inr ⟨Z, Z⟩)) (by simp) Z (by simp only [bp, bK, cZ, dp, List.length_nil]; omega) (by simp only [bp, bK, cZ, dp, List.length_nil]; omega) (by rw [List.map_append]; rfl) (bp _)) Z (av ?_))
 refine av ?_
 refine js O Z (jf [8,51,13,1,6,9] Z (jn (aD (ag (j2 O Z Z (AOps.heap (aI (own := false) (xs := (x.2.1 ++ [bA (bO x.1).1]).map Nd.cells) (zs := (x.2.1 ++ [bA (bO x.1).1] ++ x.2.2).map Nd.cells) (n := (x.2.1 ++ [bA (bO x.1).1] ++ x.2.2).length) O Z Z Z Z Z Z Z Z Z Z Z Z Z Z Z Z (.row Z (bp _).symm) (.whole Z (bp _).symm (.inr ⟨Z, Z⟩)) (by simp) Z (by simp only [bp, bK, cZ, dp, List.length_nil]; omega) (by simp only [bp, bK, cZ, dp, List.length_nil]; omega) (by rw [← List.map_append]) (bp _)) Z (av ?_)))))))
 refine av ?_
 refine js O Z (jf [8,51,13,1,6,9] Z (jn (ac (ag (js O Z ?_)))))
 have hz := hi.e
 rw [sm (by omega) htn hc51] at hz
 have hpv := jN (b := b) hok hz.symm
 have hl9 : (x.2.1 ++ [bA (bO x.1).1] ++ x.2.2).length ≤ 40 := by simp only [bK, cZ]; omega
 refine bz O Z Z (j2 O Z Z (jf [102,8,51,13,1,6,9] Z (jn (ae O Z Z (fun hc102 => ?_) (fun hc102 => ?_)))))
 refine ag (j2 O Z Z (jr ?_))
 refine ⟨.inl Z, _, ak, _, Z, ?_⟩
 rw [hpv, if_neg (by have := cI hc102; simpa using this)]
 exact dE
 refine aj (ag (j3 O Z Z Z (jr ?_)))
 refine ⟨.inl Z, _, ak, _, Z, ?_⟩
 rw [hpv, if_pos (by have := dh hc102; simpa using this)]
 exact .tup (.cons (.c (.whole Z (by simp))) (.cons (.c .d) .nil))
 refine aj (ag ?_)
 have hrf : (bO x.1).2 = false := hc51
 refine az (am [902,903,901] (e' := [(1, _), (6, _), (8, _), (9, _)]) Z Z ⟨Z, Z, Z, Z, trivial⟩ Z) (js O Z (aH O [901] (bin := [bG x.1]) Z Z Z Z (xh (ts := x.1) h1 h2 hi.f) Z Z Z Z Z Z (B0 := 61000) Z Z (az (Ent.to (e' := [(60, ub (nr x.1)), (1, eI b), (6, .c (.rs 901 0 x.1.length)), (8, .c (.rs 902 0 x.2.1.length)), (9, .c (.rs 903 0 x.2.2.length))]) (H' := [(902, bH x.2.1), (903, bH x.2.2), (901, bG x.1)]) ⟨Z, Z, Z, Z, Z, trivial⟩ Z) (j4 O Z Z Z Z (js O Z (jf [64,63,62,61,1,6,8,9] Z (jl O Z (av ?_))))))))
 refine jo O Z (av ?_)
 refine j3 O Z Z Z (jf [17,16,15,14,1,6,8,9] Z (jn (ac (ag (j3 O Z Z Z (jf [67,17,16,15,14,1,6,8,9] Z (aB 3 Z Z Z (fun hx => AN.step hx Z Z Z (V O Z) Z Z ( AN.step hx Z Z Z (vI O Z Z) Z Z ( AN.step hx Z Z Z (V O Z) Z Z ( AN.nil)))) Z Z (AOps.step (ay O Z Z Z Z Z) Z Z Z (jf [71,17,16,15,14,1,6,8,9] Z (jn (ae O Z Z (fun hc71 => ?_) (fun hc71 => ?_))))))))))))
 refine ag (j2 O Z Z (jr ?_))
 refine ⟨.inl Z, _, ak, _, Z, ?_⟩
 rw [fI hok (hi.none (by rcases xY hc71 with h | h; exact lA hlen htn hrf (vd h); cases hcr : cG x.1 with | none => exact lA hlen htn hrf hcr | some r => exact oV h htn hrf hcr))]
 exact dE
 refine aj (ag ?_)
 obtain ⟨hcT, h14⟩ := wH hc71
 obtain ⟨r, hcr⟩ := vc hcT
 obtain ⟨hro, hsr⟩ := fd hi.f hcr
 have hTo := b0 hsr
 have hrn := hro.n
 rw [jW hcr]
 dsimp only
 refine az (Ent.freeze 14 (e' := [(14, _), (15, _), (16, _), (1, _), (6, _), (8, _), (9, _)]) Z (.cons Z (.c (.box (cs := Tm.cells (an x.1 r.tm).1) Z (aC Z))) (fe [15,16,1,6,8,9] Z)) (.skip (.cons Z .row (.cons Z .row (.cons Z .row .nil))))) ?_
 refine ab O Z Z Z Z (uL (t := (an x.1 r.tm).1) h1 h2 (bh hTo)) (aa Z) Z Z Z Z (B0 := 74000) Z Z (j4 O Z Z Z Z (jf [17,14,15,16,1,6,8,9] Z (jn (ac (ag (j2 O Z Z (jn (ae O Z Z (fun hc77 => ?_) (fun hc77 => ?_)))))))))
 refine ag (j2 O Z Z (jr ?_))
 refine ⟨.inl Z, _, ak, _, Z, ?_⟩
 rw [fI hok (hi.none (oU hlen htn hrf hcr (by simpa using hc77)))]
 exact dE
 refine aj (ag ?_)
 have hop : (aT (an x.1 r.tm).1).2 = true := by simpa using hc77
 refine j3 O Z Z Z (jf [80,78,77,76,17,14,15,16,1,6,8,9] Z (AOps.heap (bd O Z Z Z Z Z Z Z Z Z Z Z) Z (az (Ent.rowLe 81 Z (NLess.cons (ys := []) (y := Nd.cells (bN (an x.1 r.tm).1)) (.cons .refl (.cons .refl (.cons .refl (.cons .refl (.cons (.nil (sz := 1)) .nil))))) .nil)) (av ?_))))
 refine av ?_
 refine jf [81,78,77,76,17,14,15,16,1,6,8,9] Z (AOps.heap (aI (own := false) (xs := (x.2.1).map Nd.cells) (ys := [Nd.cells (bN (an x.1 r.tm).1)]) (zs := (x.2.1 ++ [bN (an x.1 r.tm).1]).map Nd.cells) (n := (x.2.1 ++ [bN (an x.1 r.tm).1]).length) O Z Z Z Z Z Z Z Z Z Z Z Z Z Z Z Z (.row Z (bp _).symm) (.whole Z Z (.inr ⟨Z, Z⟩)) (by simp) Z (by simp only [bp, bK, cZ, dp, List.length_nil]; omega) (by simp only [bp, bK, cZ, dp, List.length_nil]; omega) (by rw [List.map_append]; rfl) (bp _)) Z (av ?_))
 refine av ?_
 refine js O Z (jf [8,77,76,17,14,15,16,1,6,9] Z (aP (az (am [82,903,901] (e' := [(14, _), (15, _), (16, _), (1, _), (6, _), (8, _), (9, _)]) Z Z ⟨Z, Z, Z, Z, Z, Z, Z, trivial⟩ Z) (js O Z (jf [83,14,16,1,6,8,9] Z (lO O (B0 := 85000) Z Z Z Z (wi (xs := r.ms) h1 h2) (aa Z) Z Z Z Z Z (js O Z (jf [85,84,14,1,6,8,9] Z (AOps.heap (bq O Z Z Z) Z (av ?_))))))))))
 refine av ?_
 refine jf [86,84,14,1,6,8,9] Z (AOps.heap (bw (zs := (cF r).map fun n => [.int .i64 n]) (n := (cF r).length) O Z Z Z Z Z Z Z Z Z Z Z Z Z Z Z Z (.row Z (bp _).symm) Z Z (by decide) Z (by simp; omega) (by simp; omega) (List.map_append (f := fun n => [D.int .i64 n]) (l₁ := r.ms) (l₂ := [(aE r.tm.xs : Int)])).symm (bp _)) Z (av ?_))
 refine av ?_
 refine az (Ent.freeze 87 (e' := [(87, _), (14, _), (1, _), (6, _), (8, _), (9, _)]) Z (.cons Z (.c (.row Z (bp _).symm)) (fe [14,1,6,8,9] Z)) (by first | exact .skip (.cons Z .row (.cons Z .row (.cons Z .row .nil))) | exact .cons Z .row (.skip (.cons Z .row (.cons Z .row .nil))) | exact .cons Z .row (.cons Z .row (.skip (.cons Z .row .nil))))) ?_
 refine js O Z (jf [88,14,1,6,8,9] Z (AOps.heap (bd O Z Z Z Z Z Z Z Z Z Z Z) Z (az (Ent.rowLe 89 Z (NLess.cons (ys := []) (y := Nd.cells (bA (cF r))) (.cons .refl (.cons .refl (.cons .refl (.cons (.nil (sz := 1)) (.cons .refl .nil))))) .nil)) (av ?_))))
 refine av ?_
 refine js O Z (jf [90,89,14,1,6,8,9] Z (AOps.heap (aI (own := false) (xs := [Nd.cells (bA (cF r))]) (ys := (x.2.2).map Nd.cells) (zs := (bA (cF r) :: x.2.2).map Nd.cells) (n := (bA (cF r) :: x.2.2).length) O Z Z Z Z Z Z Z Z Z Z Z Z Z Z Z Z (.row Z Z) (.whole Z (bp _).symm (.inr ⟨Z, Z⟩)) (by simp) Z (by simp only [bp, bK, cZ, dp, List.length_nil]; omega) (by simp only [bp, bK, cZ, dp, List.length_nil]; omega) Z (bp _)) Z (av ?_)))
 refine av ?_
 refine js O Z (jf [9,14,1,6,8] Z (jn (af (j2 O Z Z (AOps.heap (bd O Z Z Z Z Z Z Z Z Z Z Z) Z (av ?_))))))
 refine jf [94,92,9,14,1,6,8] Z (AOps.heap (aI (own := false) (xs := (x.1).map Tm.cells) (ys := [Tm.cells (an x.1 r.tm).1]) (zs := (x.1 ++ [(an x.1 r.tm).1]).map Tm.cells) (n := (x.1 ++ [(an x.1 r.tm).1]).length) O Z Z Z Z Z Z Z Z Z Z Z Z Z Z Z Z (.row Z (bp _).symm) (.whole Z Z (.inr ⟨Z, Z⟩)) (by simp) Z (by simp only [bp, bK, cZ, dp, List.length_nil]; omega) (by simp only [bp, bK, cZ, dp, List.length_nil]; omega) (by rw [List.map_append]; rfl) (bp _)) Z (av ?_))
 refine av ?_
 refine js O Z (jf [6,9,14,1,8] Z (jn ?_))
 refine ⟨(x.1 ++ [(an x.1 r.tm).1], x.2.1 ++ [bN (an x.1 r.tm).1], bA (cF r) :: x.2.2), ((((am [82,91,95] (e' := [(1, _), (6, _), (8, _), (9, _)]) Z Z ⟨Z, Z, Z, Z, trivial⟩ Z).trans (au 82 902 Z Z)).trans (au 91 903 Z Z)).trans (au 95 901 Z Z)), hi.cut h14 htn hrf hcr hop, by simp only [bK, cZ]; omega⟩
theorem vC (hs : bX s = true) (hok : (aT s.goal).2 = false) : MQ h1 h2 25 [ptr s.cells, eI b] [] (Plain (gj (aU s b))) := by
 refine MC.data (jB 104 h1 h2 Try.func25 Z Z Z fun O hF => ?_)
 obtain ⟨hs1, hs2, hs3⟩ := cC hs
 refine ag (j2 O Z Z (aP (js O Z (jf [19,5,4,1] Z (ab O Z Z Z Z (yj (s := s) h1 h2 (bh hs3) (by omega)) (aa Z) Z Z Z Z (B0 := 21000) Z Z (j4 O Z Z Z Z (js O Z (jf [7,6,5,4,1] Z (jn (ac (ag (j2 O Z Z (jf [24,6,5,4,1] Z (jn (ae O Z Z (fun hc24 => ?_) (fun hc24 => ?_))))))))))))))))
 refine ag (j2 O Z Z (jr ?_))
 refine ⟨.inl Z, _, ak, _, Z, ?_⟩
 rw [k8 hok]
 exact dE
 rw [oN, hok] at hc24; cases hc24
theorem xm {L : Nat} (h1 : 4096 ≤ L) (h2 : L ≤ 1073741824) {s : Sq} {b : Int} (hs : bX s = true) (hb : 1 ≤ b ∧ b ≤ 60) : MC Try.prog L 25 [ptr s.cells, eI b] [] (Plain (gj (aU s b))) := by
 cases hok : (aT s.goal).2 with
 | true => exact vB h1 h2 hs hb hok
 | false => exact vC h1 h2 hs hok
theorem pS : (⟨0, []⟩ : Tm).zero = true := by decide
theorem u4 {i : Nat} (h : i ≤ 19) : di (ci i) = true := by
 unfold di pG
 rw [if_neg (show ¬ (3 : Int) = 1 by decide), if_neg (show ¬ (3 : Int) = 2 by decide), if_pos Z, pS, decide_eq_true (show (0 : Int) ≤ (i : Int) by omega), decide_eq_true (show (i : Int) ≤ 19 by omega)]; rfl
theorem u5 {t : Tm} (h : t.ok = true) : di (bN t) = true := by
 unfold di
 rw [if_neg (show ¬ (2 : Int) = 1 by decide), if_pos Z, h]; rfl
theorem rW {ms : List Int} (h : ms.all co = true) (hl : ms.length ≤ 20) : di (bA ms) = true := by
 unfold di oz
 rw [if_pos Z, pS, h, decide_eq_true (show (ms.length : Int) ≤ 20 by omega)]; rfl
theorem mZ : ∀ {f : Nat} {ts : List Tm} {z : List Nd × List Nd}, Fs ts → fh f ts = some z → (∀ n ∈ z.1, di n = true) ∧ (∀ n ∈ z.2, di n = true)
 | 0, _, _, _, h => by cases h
 | f + 1, ts, z, hf, h => by
  have hlen := hf.len
  rw [fh] at h
  cases ht : dj ts with
  | some i =>
   rw [ht] at h
   simp only at h
   obtain ⟨_, hi, hs⟩ := fH ht
   split at h
   cases h
   rename_i hl
   obtain ⟨y, hy, rfl⟩ := Option.map_eq_some_iff.1 h
   obtain ⟨q1, q2⟩ := mZ (hf.snoc (b0 hs) hl) hy
   refine ⟨fun n hn => ?_, q2⟩
   rcases List.mem_cons.1 hn with rfl | hn
   exact u4 (by omega)
   exact q1 n hn
  | none =>
   rw [ht] at h
   simp only at h
   split at h
   rename_i hr
   obtain ⟨r1, r2⟩ := kC hf hr
   simp only [cY] at h; subst h
   exact ⟨fun n hn => by rw [List.mem_singleton.1 hn]; exact rW r1 (by omega), fun n hn => by cases hn⟩
   split at h
   cases h
   rename_i r hc
   obtain ⟨c1, c2⟩ := fd hf hc
   split at h
   cases h
   rename_i hl
   split at h
   obtain ⟨y, hy, rfl⟩ := Option.map_eq_some_iff.1 h
   obtain ⟨q1, q2⟩ := mZ (hf.snoc (b0 c2) hl) hy
   refine ⟨fun n hn => ?_, fun n hn => ?_⟩
   rcases List.mem_cons.1 hn with rfl | hn
   exact u5 (b0 c2)
   exact q1 n hn
   rcases List.mem_append.1 hn with hn | hn
   exact q2 n hn
   rw [List.mem_singleton.1 hn]
   exact rW (oM c1) (by have := c1.n; simp; omega)
   cases h
theorem tG {s : Sq} {b : Int} (hs : bX s = true) (h : (aU s b).2 = true) : (∀ n ∈ (aU s b).1, di n = true) ∧ ((aU s b).1.length : Int) ≤ b := by
 cases hok : (aT s.goal).2 with
 | false => rw [k8 hok] at h; cases h
 | true =>
  cases hz : c5 (s.facts ++ [(aT s.goal).1]) with
  | none => rw [fI hok hz] at h; cases h
  | some z =>
   rw [jN hok hz] at h ⊢
   obtain ⟨q1, q2⟩ := mZ (iW hs hok) hz
   by_cases hl : ((z.1 ++ z.2).length : Int) ≤ b
   rw [if_pos hl]
   exact ⟨fun n hn => by
    rcases List.mem_append.1 hn with hn | hn
    · exact q1 n hn
    · exact q2 n hn, hl⟩
   rw [if_neg hl] at h; cases h
theorem vS {a b : Bool} (h : (bif !a then true else !b) = true) : (a && b) = false := by cases a <;> cases b <;> simp_all
theorem vT {a b : Bool} (h : (bif !a then true else !b) = false) : a = true ∧ b = true := by cases a <;> cases b <;> simp_all
theorem kN {b : Int} (h : e5 b = true) : 1 ≤ b ∧ b ≤ 60 := by simpa [e5] using h
theorem jC {s : Sq} {b : Int} (h1 : bX s = true) (h2 : e5 b = true) : bD s b = aU s b := by unfold bD; rw [h1, h2]; rfl
theorem tE {s : Sq} {b : Int} (h : (bX s && e5 b) = false) : bD s b = ([], false) := by unfold bD; rw [h]; rfl
theorem vL {a : Bool} (h : (!a) = true) : a = false := by simpa using h
theorem sX {a : Bool} (h : (!a) = false) : a = true := by simpa using h
theorem xn : MQ h1 h2 24 [eI b] [] (Plain (eB (e5 b))) := by
 refine aw ?_ Z
 refine jB 5 h1 h2 Try.func24 Z Z Z fun O hF => ?_
 refine ag (js O Z (aP (js O Z (ao O Z Z Z Z (yz h1 h2) (aa Z) Z Z Z Z Z (B0 := 5000) Z (js O Z (jr ?_))))))
 refine ⟨.inl Z, _, ak, _, Z, ?_⟩
 rfl
theorem xo : MQ h1 h2 7 [iP s, eI b] [] (Plain (gj (bD s b))) := by
 refine MC.data (jB 17 h1 h2 Try.func7 Z Z Z fun O hF => ?_)
 refine ag (jx O Z (av ?_))
 refine az (Ent.freeze 2 (e' := [(2, _), (1, _)]) Z (.cons Z (.c (.box (cs := Sq.cells s) Z (aC Z))) (fe [1] Z)) (.skip .nil)) ?_
 refine av ?_
 refine j2 O Z Z (jn (ac (ag (ao O Z Z Z Z (c82 (s := s) h1 h2) (aa Z) Z Z Z Z Z (B0 := 7000) Z (j2 O Z Z (jf [8,5,4,2,1] Z (aB 3 Z Z Z (fun hx => AN.step hx Z Z Z (V O Z) Z Z ( bl O hx Z Z Z Z (xn h1 h2) (aa Z) Z Z Z Z Z Z Z (B0 := 11000) Z ( AN.step hx Z Z Z (V O Z) Z Z ( AN.nil)))) Z Z ?_)))))))
 first | refine AOps.step (ay O Z Z Z Z Z) Z Z Z ?_ | refine AOps.step (Val.pickB O Z Z Z Z Z) Z Z Z ?_ | refine AOps.step (aA O Z Z Z Z Z) Z Z Z ?_
 refine jf [12,5,4,2,1] Z (jn (ae O Z Z (fun hc12 => ?_) (fun hc12 => ?_)))
 refine ag (j2 O Z Z (jr ?_))
 refine ⟨.inl Z, _, ak, _, Z, ?_⟩
 rw [tE (vS hc12)]
 exact dE
 refine aj (ag ?_)
 obtain ⟨hq1, hq2⟩ := vT hc12
 rw [jC hq1 hq2]
 refine js O Z (jf [13,5,4,2,1] Z (ab O Z Z Z Z (xm (s := s) (b := b) h1 h2 hq1 (kN hq2)) (aa Z) Z Z Z Z (B0 := 15000) Z Z (j4 O Z Z Z Z (jf [5,4,2,1] Z (jr ?_)))))
 refine ⟨.inl Z, _, ak, _, Z, ?_⟩
 exact .tup (.cons (.c .d) (.cons (.c .d) .nil))
abbrev xx (s : Sq) (b : Int) : List D := vV (aU s b).1
abbrev wG (ss : List Sq) (b : Int) : B := .row false 1 (ss.map fun s => xx s b)
theorem qn {ss : List Sq} (h : ss.all bX = true) {i : Nat} (hi : i < ss.length) : bX (ss.getD i default) = true := by rw [ar hi]; exact List.all_eq_true.1 h _ (List.getElem_mem hi)
abbrev t9 (z : Int × Bool) : A := .tup [eI z.1, eB z.2]
theorem qU {ss : List Sq} {b : Int} (h : (iu ss && e5 b) = false) : dr ss b = (0, false) := by unfold dr; rw [h]; rfl
theorem nY {ss : List Sq} {b : Int} (h1 : iu ss = true) (h2 : e5 b = true) : dr ss b = (if (dP b ss).length = ss.length then -1 else ((dP b ss).length : Int), true) := by unfold dr; rw [h1, h2]; rfl
theorem pW {ss : List Sq} (h : iu ss = true) : ss.all bX = true ∧ ss.length ≤ 60 := by
 unfold iu at h; rw [aX, decide_eq_true_eq] at h; exact ⟨h.1, by omega⟩
abbrev pI (z : List Int × Bool) : A := .tup [aQ z.1, eB z.2]
theorem tU {s : Sq} {b : Int} (h : (bD s b).2 = false) : fz s b = ([], false) := by unfold fz; rw [h]; rfl
theorem sN {s : Sq} {b : Int} (h : (bD s b).2 = true) : fz s b = (lS (dV nz (bD s b).1 s.facts.length (bD s b).1.length) s.facts.length, true) := by unfold fz; rw [if_pos h]
theorem si {H : List (Nat × B)} : VR H (.tup [.c (.d .nils), eB false]) (pI ([], false)) := .tup (.cons (.c .nils) (.cons (.c .d) .nil))
end Go.Al
