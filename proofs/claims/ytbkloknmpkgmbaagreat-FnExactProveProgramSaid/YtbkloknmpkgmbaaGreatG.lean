/- The reference proves. -/
import Derived.Test.YtbkloknmpkgmbaaGreatC
import Derived.Test.YtbkloknmpkgmbaaGreatF
set_option linter.unusedVariables false
set_option linter.unusedSimpArgs false
set_option maxRecDepth 10000
set_option maxHeartbeats 4000000
open Go.Proofs
namespace Go.Al
variable {L : Nat} (h1 : 4096 ≤ L) (h2 : L ≤ 1073741824)
theorem lU {t : Tm} (h : t.ok = true) (hg : ¬ bk t.xs < 2) : (bS t).2 = true := by rw [← q9 h, lH, if_neg hg]
theorem CG {xs ys : List Int} : MQ h1 h2 218 [bH xs, bH ys] [] (Plain (eB (decide (xs = ys)))) := by
 refine aA ?_ Z
 refine jB 26 h1 h2 Tryz.func218 Z Z Z fun O hF => ?_
 have hl : xs.length ≤ L := by simpa [As.fact, A.fact, M.fact, D.fact, Ds.fact] using hF.1.1
 have hl2 : ys.length ≤ L := by simpa [As.fact, A.fact, M.fact, D.fact, Ds.fact] using hF.2.1.1
 refine ah (js O Z (jn (ag (ah (js O Z (cu O Z (js O Z (cu O Z (js O Z (jn (ae O Z Z (fun hc10 => ?_) (fun hc10 => ?_))))))))))))
 try simp only [aT] at hc10
 refine ah (js O Z (jr ?_))
 refine ⟨.inl Z, _, am, _, Z, ?_⟩
 rw [decide_eq_false (fun e => by subst e; simp at hc10)]
 try simp only [aT] at hc10
 refine aj (ag (ah (js O Z (jn (ao (aq (X := Nat) (fun i => ⟨[(0, bH xs), (1, bH ys), (5, eI i)], []⟩) (fun i => i ≤ xs.length ∧ ∀ j, j < i → xs[j]? = ys[j]?) (fun i => xs.length - i) 0 (Ent.env ⟨Z, Z, Z, trivial⟩) ?_ (fun i hi => ?_)))))))
 exact ⟨ct _, fun j hj => absurd hj (Nat.not_lt_zero j)⟩
 refine ag (ah (j2 O Z Z (cu O Z (js O Z (jn (ae O Z Z (fun hc14 => ?_) (fun hc14 => ?_)))))))
 try simp only [aT] at hc14
 refine aj (ag (ao (ag (gL O [_,_,_,_,_,_,_,_,_] [pn [] 0 0, pn [] 0 0, pn [0,1] 0 0, pn [0,1,2] 0 0, pn [] 0 0, pn [] 0 0, pn [4,5] 0 0, pn [4,5,6] 0 0, pn (rg 0 8) 0 0] [] [_] (kc O Z (kc O Z (ai (vN O Z) (kc O Z (kc O Z (kc O Z (ai (vN O Z) (kc O Z (kc O Z trivial))))))))) ?_))))
 refine ae O Z Z (fun hc25 => ?_) (fun hc25 => ?_)
 try simp only [aT] at hc25
 refine ah (js O Z (jr ?_))
 refine ⟨.inl Z, _, am, _, Z, ?_⟩
 rw [decide_eq_false (fun e => by subst e; simp at hc25)]
 try simp only [aT] at hc25
 refine aj (ak (js O Z (ji O Z (js O Z (jn ?_)))))
 refine ⟨i + 1, Ent.env ⟨Z, Z, Z, trivial⟩, ⟨by omega, fun j hj => ?_⟩, by omega⟩
 rcases Nat.lt_or_ge j i with h | h
 exact hi.2 j h
 obtain rfl : j = i := by omega
 rw [ax (by omega), ax (by omega)] at hc25
 rw [List.getElem?_eq_getElem (by omega), List.getElem?_eq_getElem (by omega), hc25]
 try simp only [aT] at hc14
 refine aO (ah (js O Z (jr ?_)))
 refine ⟨.inl Z, _, am, _, Z, ?_⟩
 have e : xs = ys := List.ext_getElem? fun j => by
  rcases Nat.lt_or_ge j i with h | h
  ·
   exact hi.2 j h
  ·
   rw [List.getElem?_eq_none (by omega), List.getElem?_eq_none (by omega)]
 rw [decide_eq_true e]
theorem Ak {a b : Tm} (h : a.c = b.c) : MQ h1 h2 212 [ptr a.cells, ptr b.cells] [] (Plain (eB (decide (a = b)))) := by
 refine aA ?_ Z
 refine jB 25 h1 h2 Tryz.func212 Z Z Z fun O hF => ?_
 refine ah (js O Z (jn (ag (uW O [_,_,_,_,_,_,_,_,_,_,_,_,_,_,_,_,_,_,_,_,_] [pn [] 0 0, pn [0] 0 0, pn [0,1] 0 0, pn [0,1,2] 0 0, pn [] 0 0, pn [4] 0 0, pn [4,5] 0 0, pn [4,5,6] 0 0, pn (rg 0 8) 0 0, pn (rg 0 9) 0 0, pn (rg 0 10) 0 0, pn (rg 0 11) 0 0, pn (rg 0 12) 0 0, pn (rg 0 13) 0 0, pn (rg 0 10) 0 0, pn (rg 0 10++[14]) 0 0, pn (rg 0 10++[14,15]) 0 0, pn (rg 0 10++[14,15,16]) 0 0, pe (rg 0 18) 0, pn (rg 0 19) 1 1, pn (rg 0 20) 1 1] [18] [_,_] (kc O Z (kc O Z (kc O Z (kc O Z (kc O Z (kc O Z (kc O Z (kc O Z (ai ((V O Z).cast (v' := eB true) (by rw [decide_eq_true h])) (kc O Z (kc O Z (kc O Z (kc O Z (kc O Z (kc O Z (kc O Z (kc O Z (kc O Z (ai (bw O (B0 := 24000) Z Z Z Z (CG h1 h2) (aa Z) Z Z Z Z Z) (ai (cy O Z Z Z Z Z) (kc O Z trivial))))))))))))))))))))) ?_))))
 refine dz ?_
 refine ⟨.inl Z, _, am, _, Z, ?_⟩
 rw [show decide (a = b) = decide (a.xs = b.xs) from decide_eq_decide.2 ⟨fun e => by rw [e], fun e => by cases a; cases b; simp_all⟩]
theorem Am {a b : Tm} (h : ¬ a.c = b.c) : MQ h1 h2 212 [ptr a.cells, ptr b.cells] [] (Plain (eB (decide (a = b)))) := by
 refine aA ?_ Z
 refine jB 25 h1 h2 Tryz.func212 Z Z Z fun O hF => ?_
 refine ah (js O Z (jn (ag (uW O [_,_,_,_,_,_,_,_,_,_,_,_,_,_,_,_,_,_,_,_,_] [pn [] 0 0, pn [0] 0 0, pn [0,1] 0 0, pn [0,1,2] 0 0, pn [] 0 0, pn [4] 0 0, pn [4,5] 0 0, pn [4,5,6] 0 0, pn (rg 0 8) 0 0, pn (rg 0 9) 0 0, pn (rg 0 10) 0 0, pn (rg 0 11) 0 0, pn (rg 0 12) 0 0, pn (rg 0 13) 0 0, pn (rg 0 10) 0 0, pn (rg 0 10++[14]) 0 0, pn (rg 0 10++[14,15]) 0 0, pn (rg 0 10++[14,15,16]) 0 0, pn (rg 0 18) 0 0, pn (rg 0 19) 0 0, pn (rg 0 20) 0 0] [] [_] (kc O Z (kc O Z (kc O Z (kc O Z (kc O Z (kc O Z (kc O Z (kc O Z (ai ((V O Z).cast (v' := eB false) (by rw [decide_eq_false h])) (kc O Z (ai ⟨Z, Z⟩ (ai ⟨Z, Z⟩ (ai ⟨Z, Z⟩ (ai ⟨Z, Z⟩ (ai ⟨Z, Z⟩ (ai ⟨Z, Z⟩ (ai ⟨Z, Z⟩ (ai ⟨Z, Z⟩ (ai ⟨Z, Z⟩ (ai (cF O Z Z Z Z Z) (kc O Z trivial))))))))))))))))))))) ?_))))
 refine dz ?_
 refine ⟨.inl Z, _, am, _, Z, ?_⟩
 rw [decide_eq_false (fun e => h (by rw [e]))]
theorem CI {L : Nat} (h1 : 4096 ≤ L) (h2 : L ≤ 1073741824) {a b : Tm} : MC Tryz.prog L 212 [ptr a.cells, ptr b.cells] [] (Plain (eB (decide (a = b)))) := by
 by_cases h : a.c = b.c
 exact Ak h1 h2 h
 exact Am h1 h2 h
variable {ts : List Tm} {t : Tm}
theorem yH : MQ h1 h2 199 [bN ts, ptr t.cells] [] (Plain (eB (fX ts t))) := by
 refine aA ?_ Z
 refine jB 17 h1 h2 Tryz.func199 Z Z Z fun O hF => ?_
 have hl : ts.length ≤ L := by simpa [As.fact, A.fact, M.fact, D.fact, Ds.fact] using hF.1.1
 refine ah (js O Z (jn (ag (ah (js O Z (jn (ao (aq (X := Nat) (fun i => ⟨[(0, bN ts), (1, ptr t.cells), (5, eI i)], []⟩) (fun i => i ≤ ts.length ∧ ∀ j (h : j < ts.length), j < i → decide (ts[j] = t) = false) (fun i => ts.length - i) 0 (Ent.env ⟨Z, Z, Z, trivial⟩) ?_ (fun i hi => ?_)))))))))
 exact ⟨ct _, fun j h hj => absurd hj (Nat.not_lt_zero j)⟩
 refine ag (ah (j2 O Z Z (cu O Z (js O Z (jn (ae O Z Z (fun hc9 => ?_) (fun hc9 => ?_)))))))
 try simp only [aT] at hc9
 refine aj (ag (ao (ah (j2 O Z Z (iM O Z Z (js O Z (ap O Z Z Z Z (CI (a := ts.getD i default) (b := t) h1 h2) (aa Z) Z Z Z Z Z (B0 := 17000) Z (jn (ae O Z Z (fun hc16 => ?_) (fun hc16 => ?_))))))))))
 try simp only [aT] at hc16
 refine ah (js O Z (jr ?_))
 refine ⟨.inl Z, _, am, _, Z, ?_⟩
 rw [ax (by omega)] at hc16
 rw [show fX ts t = true from List.any_eq_true.2 ⟨ts[i], List.getElem_mem _, decide_eq_true hc16⟩]
 try simp only [aT] at hc16
 refine aj (ak (js O Z (ji O Z (js O Z (jn ?_)))))
 refine ⟨i + 1, Ent.env ⟨Z, Z, Z, trivial⟩, ⟨by omega, fun j h hj => ?_⟩, by omega⟩
 by_cases e : j = i
 subst e; rw [ax h] at hc16; exact decide_eq_false hc16
 exact hi.2 j h (by omega)
 try simp only [aT] at hc9
 refine aO (ah (js O Z (jr ?_)))
 refine ⟨.inl Z, _, am, _, Z, ?_⟩
 rw [show fX ts t = false from List.any_eq_false.2 fun x hx => by
  obtain ⟨j, hj, rfl⟩ := List.mem_iff_getElem.1 hx
  simpa using hi.2 j hj (by omega)]
variable {b : Int}
theorem tu {a : Int} (ha : 0 ≤ a ∧ a ≤ 4000000000000) (hb : -4000000000000 ≤ b ∧ b ≤ 4000000000000) : MQ h1 h2 219 [eI a, eI b] [] (Plain (eI (Nat.gcd a.natAbs b.natAbs))) := by
 refine aA ?_ Z
 refine jB 18 h1 h2 Tryz.func219 Z Z Z fun O hF => ?_
 refine ah (js O Z (aV (j2 O Z Z (ji O Z (ap O Z Z Z Z (Bg h1 h2) (aa Z) Z Z Z Z Z (B0 := 10000) Z (js O Z (jn (ag (ao (aq (X := Nat × Nat) (fun z => ⟨[(0, eI z.1), (1, eI z.2)], []⟩) (fun z => Nat.gcd z.1 z.2 = Nat.gcd a.natAbs b.natAbs ∧ z.1 ≤ 4000000000000 ∧ z.2 ≤ 4000000000000) (fun z => z.2) (a.natAbs, b.natAbs) (Ent.env ⟨congrArg (fun z => some (eI z)) (show a = (a.natAbs : Int) by omega), congrArg (fun z => some (eI z)) (vP b), trivial⟩) ?_ (fun z hi => ?_)))))))))))
 exact ⟨Z, by show a.natAbs ≤ _; omega, by show b.natAbs ≤ _; omega⟩
 have hz : -4000000000000 ≤ (z.1 : Int).tmod z.2 ∧ (z.1 : Int).tmod z.2 ≤ 4000000000000 := by have := Nat.mod_le z.1 z.2; rw [← Int.ofNat_tmod]; omega
 refine ag (ah (j2 O Z Z (jn (ae O Z Z (fun hc11 => ?_) (fun hc11 => ?_)))))
 try simp only [aT] at hc11
 refine aj (ao (ah (j2 O Z Z (ac (vR O Z Z Z Z) Z Z Z (js O Z (aV (j2 O Z Z (jn (ak (j2 O Z Z (jn ?_)))))))))))
 have hm : z.1 % z.2 < z.2 := Nat.mod_lt _ (by omega)
 refine ⟨(z.2, z.1 % z.2), Ent.env ⟨Z, Z, trivial⟩, ⟨?_, hi.2.2, by show z.1 % z.2 ≤ 4000000000000; omega⟩, hm⟩
 show Nat.gcd z.2 (z.1 % z.2) = _
 rw [← hi.1, Nat.gcd_comm z.2, ← Nat.gcd_rec, Nat.gcd_comm]
 try simp only [aT] at hc11
 refine aO (ah (j2 O Z Z (jr ?_)))
 refine ⟨.inl Z, _, am, _, Z, ?_⟩
 have hz0 : z.2 = 0 := by omega
 rw [← hi.1, hz0, Nat.gcd_zero_right]
theorem CP {r : Rw} (h : r.tm.ok = true) : MQ h1 h2 179 [ptr r.cells] [] (Plain (cL r.tm)) := by
 refine MC.data (jB 18 h1 h2 Tryz.func179 Z Z Z fun O hF => ?_)
 refine ah (jl O Z (jn (ag (oq O [_,_,_,_,_,_,_,_,_,_,_,_,_,_,_] [pn [] 0 0, pn [0] 0 0, pn [0,1] 0 0, pn [0,1,2] 0 0, pn [] 0 0, pn [4] 0 0, pn [4,5] 0 0, pn [4,5,6] 0 0, pe [0,1,2,3,4,5,6,7] 0, pn [0,1,2,3,4,5,6,7,8] 1 1, pn [0,1,2,3,4,5,6,7,8,9] 1 1, pn [0,1,2,3,4,5,6,7,8,9] 1 2, pn [] 0 1, pe [0,1,2,3,4,5,6,7,8,9,10,12] 1, pn [0,1,2,3,4,5,6,7,8,9,10,11,12,13] 2 2] [8,13] 12 3 (.box [.d (.int .i64 0), .d .nils]) [_,_] [_] [] (kf O Z Z Z (kf O Z Z Z (kf O Z Z Z (kf O Z Z Z (kf O Z Z Z (kf O Z Z Z (kf O Z Z Z (kf O Z Z Z (ai (ai (aD (aG (bo O (B0 := 15000) Z Z Z Z ((qL (c := r.c) (xs := r.xs) h1 h2).plain (u := .tup [cL r.tm, eB true]) (by rw [oo, if_pos h])) (aa Z) Z Z Z Z Z)) (aG (bo O (B0 := 15000) Z Z Z Z ((qL (c := r.c) (xs := r.xs) h1 h2).plain (u := .tup [cL r.tm, eB true]) (by rw [oo, if_pos h])) (aa Z) Z Z Z Z Z))) Z) (kf O Z Z Z (kf O Z Z Z (ai (kf O Z Z Z (kg O Z Z Z)) (ai (ai (ai (aG (Eff.alloc O Z Z Z Z Z Z)) Z) (ai (aG (Eff.alloc O Z Z Z Z Z Z)) Z)) (ai (ai (aD trivial (aG (eS O Z Z Z))) Z) (ai (ai (aD trivial (V O Z)) Z) trivial))))))))))))))) ?_))))
 refine jw [3,2] Z (b9 ?_)
 refine ah (js O Z (jo O Z (jr ?_)))
 refine ⟨.inl Z, _, am, _, Z, ?_⟩
 exact .v (.agg (aE Z))
theorem Cm {a : Nat} (hget : (ts.map Tm.cells)[a]? = some t.cells) (ht : Small t) (ht10 : t.xs.length ≤ 10) : MQ h1 h2 198 [.c (.pt 0 a 0)] [(0, aH ts)] (bc (gn (bS t)) [(0, aH ts)]) := by
 refine aJ 500 Z (fv (jH 55 [500] h1 h2 Tryz.func198 Z Z Z Z fun O hF => ?_))
 refine ah (jl O Z (js O Z (aV (js O Z (ap O Z Z Z Z (va (t := t) h1 h2 ht.xs) (.cons (.c (.pe Z hget)) .nil) Z Z Z Z Z (B0 := 10000) Z (js O Z (jf [4,3,2,0] Z (jn (ag (ah (j2 O Z Z (jn (ae O Z Z (fun hc11 => ?_) (fun hc11 => ?_))))))))))))))
 try simp only [aT] at hc11
 refine ah (js O Z (jf [12,10,4,3,2,0] Z (jo O Z (js O Z (jr ?_)))))
 refine ⟨.inl Z, _, am, _, Z, ?_⟩
 refine ⟨?_, Z⟩
 rw [show bS t = (⟨0, []⟩, false) from if_pos (by omega)]
 exact .tup (.cons (.agg (.cons .d (.cons .nils .nil))) (.cons (.c .d) .nil))
 try simp only [aT] at hc11
 refine aj (ah ?_)
 have hxl := ht10
 obtain ⟨g, hg⟩ : ∃ g : Int, g = (bk t.xs : Int) := ⟨_, rfl⟩
 rw [← hg]
 rw [← hg] at hc11
 refine AOps.heap (bA O Z Z Z) Z (js O Z (jf [5,10,4,3,2,0] Z (jn (ag (ah (js O Z (jn (ao (aq (X := Nat) (fun i => ⟨[(0, .c (.pt 500 a 0)), (2, .c (.pt 2 0 0)), (4, eI g), (5, .c (.rs 900 0 i)), (6, eI i)], [(2, .box [.d (.int .i64 0), .d .nils]), (900, aX ((t.xs.map fun x => x.tdiv g).take i)), (500, aH ts)]⟩) (fun i => i ≤ t.xs.length) (fun i => t.xs.length - i) 0 ((af 13 900 Z Z).trans (Ent.to ⟨Z, Z, Z, Z, Z, trivial⟩ Z)) ?_ (fun i hi => ?_))))))))))
 exact ct _
 refine ag (ah (j4 O Z Z Z Z (ac (aS O (ex := t.cells) Z Z Z Z hget Z) Z Z Z (cu O Z (js O Z (jf [20,0,2,4,5,6] Z (jn (ae O Z Z (fun hc20 => ?_) (fun hc20 => ?_)))))))))
 try simp only [aT] at hc20
 refine aj (ag (ao (ak ?_)))
 have hx := dN (b := g) (Db.1 (List.all_eq_true.1 ht.xs _ (List.getElem_mem (show i < t.xs.length by omega))))
 rw [← ax (by omega)] at hx
 refine j4 O Z Z Z Z (ac (aS O (ex := t.cells) Z Z Z Z hget Z) Z Z Z (js O Z (iM O Z Z (j2 O Z Z (ac (e8 O Z Z Z Z (by omega) (by omega) (by omega)) Z Z Z (jf [32,23,20,0,2,4,5,6] Z (AOps.heap (bA O Z Z Z) Z (jf [33,23,20,0,2,4,5,6] Z (AOps.heap (cm (zs := ((t.xs.map fun x => x.tdiv g).take (i + 1)).map fun n => [.int .i64 n]) (n := i + 1) O Z Z Z Z Z Z Z Z Z Z Z Z Z Z Z Z (.row Z (by simp; omega)) Z Z (by decide) Z (by simp; omega) (by simp; omega) (by rw [List.take_succ_eq_append_getElem (by simp; omega), List.map_append, List.getElem_map, ax (by omega)]; rfl) (by simp; omega)) Z (js O Z (jf [5,20,0,2,4,6] Z (jn (ak (js O Z (ji O Z (js O Z (jf [6,5,20,0,2,4] Z (jn ?_))))))))))))))))))
 refine ⟨i + 1, ((aw [2,34,500] (e' := [(0, _), (2, _), (4, _), (5, _), (6, _)]) Z Z ⟨Z, Z, Z, Z, Z, trivial⟩ Z).trans (af 34 900 Z Z)), by omega, by omega⟩
 try simp only [aT] at hc20
 refine aO (ah ?_)
 have hc0 := Db.1 ht.c
 have hq := dN (b := g) hc0
 have hr := gq (b := g) hc0
 obtain rfl : i = t.xs.length := by omega
 rw [List.take_of_length_le (by simp)]
 refine ay (Ent.freeze 900 (e' := [(2, _), (4, _), (5, _), (0, _)]) Z (.cons Z (.keep Z) (.cons Z (.keep Z) (.cons Z (.c (.row Z (by simp))) (fe [0] Z)))) (.cons Z (.box (fk Z)) (.skip (.cons Z .row .nil)))) ?_
 refine j3 O Z Z Z (ac (aS O (ex := t.cells) Z Z Z Z hget Z) Z Z Z (js O Z (ac (vQ O Z Z Z Z) Z Z Z (js O Z (jf [7,2,4,5,0] Z (jn (ag (ah (j3 O Z Z Z (ac (aS O (ex := t.cells) Z Z Z Z hget Z) Z Z Z (js O Z (ac (vR O Z Z Z Z) Z Z Z (js O Z (jf [47,7,2,4,5,0] Z (jn (ae O Z Z (fun hc47 => ?_) (fun hc47 => ?_)))))))))))))))))
 try simp only [aT] at hc47
 refine ak (js O Z (ji O Z (js O Z (jf [7,47,2,4,5,0] Z (aV (j2 O Z Z (ar O Z Z Z Z (qL (c := _) (xs := t.xs.map fun x => x.tdiv g) h1 h2) (aa Z) Z Z Z Z (B0 := 53000) Z Z (j2 O Z Z (jf [54,53,7,47,2,4,5,0] Z (jo O Z (js O Z (jf [3,7,47,2,4,5,0] Z (jr ?_)))))))))))))
 refine ⟨.inl Z, _, am, _, Z, ?_⟩
 refine ⟨?_, Z⟩
 rw [show bS t = oo (t.c.tdiv g - 1) (t.xs.map fun x => x.tdiv g) by rw [hg, bS, if_neg (by omega), if_pos (by rw [← hg]; exact hc47)]]
 exact .tup (.cons (.agg (aE Z)) (.cons (.c .d) .nil))
 try simp only [aT] at hc47
 refine aj (ah (j2 O Z Z (ar O Z Z Z Z (qL (c := _) (xs := t.xs.map fun x => x.tdiv g) h1 h2) (aa Z) Z Z Z Z (B0 := 53000) Z Z (j2 O Z Z (jf [54,53,47,7,2,4,5,0] Z (jo O Z (js O Z (jf [3,47,7,2,4,5,0] Z (jr ?_)))))))))
 refine ⟨.inl Z, _, am, _, Z, ?_⟩
 refine ⟨?_, Z⟩
 rw [show bS t = oo (t.c.tdiv g) (t.xs.map fun x => x.tdiv g) by rw [hg, bS, if_neg (by omega), if_neg (by rw [← hg]; omega)]]
 exact .tup (.cons (.agg (aE Z)) (.cons (.c .d) .nil))
theorem Ap {a : Nat} (hget : (ts.map Tm.cells)[a]? = some t.cells) (ht : t.ok = true) : MQ h1 h2 177 [.c (.rs 0 0 ts.length), .c (.pt 0 a 0)] [(0, aH ts)] (bc (gn (aI ts t)) [(0, aH ts)]) := by
 refine aJ 500 Z (fv (jH 35 [500] h1 h2 Tryz.func177 Z Z Z Z fun O hF => ?_))
 have hs := Small.of ht
 have hc := Db.1 hs.c
 have hr := gq (a := t.c) (b := bk t.xs) hc
 refine ah (jl O Z (js O Z (aV (js O Z (ap O Z Z Z Z (va (t := t) h1 h2 hs.xs) (.cons (.c (.pe Z hget)) .nil) Z Z Z Z Z (B0 := 11000) Z (js O Z (jf [6,5,4,0,1] Z (jn (ag (ah (j3 O Z Z Z (jf [13,6,5,4,0,1] Z (az 7 Z Z Z (fun hx => ab hx Z Z Z (V O Z) Z Z ( ab hx Z Z Z (V O Z) Z Z ( ab hx Z Z Z (V O Z) Z Z ( ab hx Z Z Z (aS O (ex := t.cells) Z Z Z Z hget Z) Z Z ( ab hx Z Z Z (V O Z) Z Z ( ab hx Z Z Z (vR O Z Z Z Z) Z Z ( ab hx Z Z Z (V O Z) Z Z ( AN.nil)))))))) Z Z (ac (aL O Z Z Z Z Z) Z Z Z (jf [21,5,4,0,1] Z (jn (ae O Z Z (fun hc21 => ?_) (fun hc21 => ?_))))))))))))))))))
 try simp only [aT] at hc21
 refine ah (js O Z (jf [22,5,4,0,1] Z (jo O Z (js O Z (jr ?_)))))
 refine ⟨.inl Z, _, am, _, Z, ?_⟩
 refine ⟨?_, Z⟩
 have hn : bk t.xs < 2 ∨ t.c.tmod (bk t.xs) = 0 := by by_cases h9 : bk t.xs < 2; exact .inl h9; refine .inr ?_; simpa [show ¬ (bk t.xs : Int) < 2 by omega] using hc21
 rw [show aI ts t = xe from if_pos hn]
 exact .tup (.cons (.agg (.cons .d (.cons .nils .nil))) (.cons (.c .d) .nil))
 try simp only [aT] at hc21
 refine aj (ah ?_)
 have hn : ¬ (bk t.xs < 2 ∨ t.c.tmod (bk t.xs) = 0) := by intro h9; rcases h9 with h9 | h9 <;> simp [h9] at hc21 <;> omega
 have hok := lU ht (fun h => hn (.inl h))
 refine js O Z (jf [24,5,4,0,1] Z (aB O [500] (bin := [aH ts]) Z Z Z Z (Cm h1 h2 hget hs (lK ht)) Z Z Z Z Z Z (B0 := 26000) Z Z (au ?_)))
 refine j3 O Z Z Z (jf [27,26,5,4,0,1] Z (jl O Z (jo O Z (js O Z (jf [8,7,5,4,0,1] Z (jn (ag (jw [8,7,4,0,1] Z ?_))))))))
 rw [hok]
 refine uW O [_,_,_,_,_,_,_,_,_] [pn [] 0 1, pn [] 0 0, pn [1] 0 0, pn [1,2] 0 0, pe [1,2,3] 0, pn (rg 1 4) 1 2, pn (rg 1 5) 1 2, pe (rg 0 5) 1, pn (rg 0 8) 2 2] [4,7] [_,_,_] (ai (kc O Z (V O Z)) (kc O Z (kc O Z (kc O Z (ai (bw O (B0 := 33000) Z Z Z Z (yH (ts := ts) (t := (bS t).1) h1 h2) (.cons (.c (.whole Z (bz _).symm)) (.cons (.c (.pb (cs := Tm.cells (bS t).1) Z (aE Z))) .nil)) Z Z Z Z Z) (ai (kc O Z (V O Z)) (ai (ai (cy O Z Z Z Z Z) (cy O Z Z Z Z Z)) (ai (eS O Z Z Z) (kc O Z trivial))))))))) ?_
 refine jw [5,7,4,1] Z (b9 ?_)
 refine dz ?_
 refine ⟨.inl Z, _, am, _, Z, ?_⟩
 refine ⟨?_, Z⟩
 rw [show aI ts t = ((bS t).1, !fX ts (bS t).1) by unfold aI; rw [if_neg hn, hok]; rfl]
 exact .tup (.cons (.agg (aE Z)) (.cons (.c .d) .nil))
theorem Ao (ht : t.ok = true) : MQ h1 h2 177 [.c (.rs 0 0 ts.length), ptr t.cells] [(0, aH ts)] (bc (gn (aI ts t)) [(0, aH ts)]) := by
 refine aJ 500 Z (fv (jH 35 [500] h1 h2 Tryz.func177 Z Z Z Z fun O hF => ?_))
 have hs := Small.of ht
 have hc := Db.1 hs.c
 have hr := gq (a := t.c) (b := bk t.xs) hc
 refine ah (jl O Z (js O Z (aV (js O Z (ap O Z Z Z Z (va (t := t) h1 h2 hs.xs) (aa Z) Z Z Z Z Z (B0 := 11000) Z (js O Z (jf [6,5,4,0,1] Z (jn (ag (ah (j3 O Z Z Z (jf [13,6,5,4,0,1] Z (az 7 Z Z Z (fun hx => ab hx Z Z Z (V O Z) Z Z ( ab hx Z Z Z (V O Z) Z Z ( ab hx Z Z Z (V O Z) Z Z ( ab hx Z Z Z (V O Z) Z Z ( ab hx Z Z Z (V O Z) Z Z ( ab hx Z Z Z (vR O Z Z Z Z) Z Z ( ab hx Z Z Z (V O Z) Z Z ( AN.nil)))))))) Z Z (ac (aL O Z Z Z Z Z) Z Z Z (jf [21,5,4,0,1] Z (jn (ae O Z Z (fun hc21 => ?_) (fun hc21 => ?_))))))))))))))))))
 try simp only [aT] at hc21
 refine ah (js O Z (jf [22,5,4,0,1] Z (jo O Z (js O Z (jr ?_)))))
 refine ⟨.inl Z, _, am, _, Z, ?_⟩
 refine ⟨?_, Z⟩
 have hn : bk t.xs < 2 ∨ t.c.tmod (bk t.xs) = 0 := by by_cases h9 : bk t.xs < 2; exact .inl h9; refine .inr ?_; simpa [show ¬ (bk t.xs : Int) < 2 by omega] using hc21
 rw [show aI ts t = xe from if_pos hn]
 exact .tup (.cons (.agg (.cons .d (.cons .nils .nil))) (.cons (.c .d) .nil))
 try simp only [aT] at hc21
 refine aj (ah ?_)
 have hn : ¬ (bk t.xs < 2 ∨ t.c.tmod (bk t.xs) = 0) := by intro h9; rcases h9 with h9 | h9 <;> simp [h9] at hc21 <;> omega
 have hok := lU ht (fun h => hn (.inl h))
 refine js O Z (jf [24,5,4,0,1] Z (ar O Z Z Z Z (Eb (t := t) h1 h2 hs) (aa Z) Z Z Z Z (B0 := 26000) Z Z (j3 O Z Z Z (jf [27,26,5,4,0,1] Z (jl O Z (jo O Z (js O Z (jf [8,7,5,4,0,1] Z (jn (ag (jw [8,7,4,0,1] Z ?_)))))))))))
 rw [hok]
 refine uW O [_,_,_,_,_,_,_,_,_] [pn [] 0 1, pn [] 0 0, pn [1] 0 0, pn [1,2] 0 0, pe [1,2,3] 0, pn (rg 1 4) 1 2, pn (rg 1 5) 1 2, pe (rg 0 5) 1, pn (rg 0 8) 2 2] [4,7] [_,_,_] (ai (kc O Z (V O Z)) (kc O Z (kc O Z (kc O Z (ai (bw O (B0 := 33000) Z Z Z Z (yH (ts := ts) (t := (bS t).1) h1 h2) (.cons (.c (.whole Z (bz _).symm)) (.cons (.c (.pb (cs := Tm.cells (bS t).1) Z (aE Z))) .nil)) Z Z Z Z Z) (ai (kc O Z (V O Z)) (ai (ai (cy O Z Z Z Z Z) (cy O Z Z Z Z Z)) (ai (eS O Z Z Z) (kc O Z trivial))))))))) ?_
 refine jw [5,7,4,1] Z (b9 ?_)
 refine dz ?_
 refine ⟨.inl Z, _, am, _, Z, ?_⟩
 refine ⟨?_, Z⟩
 rw [show aI ts t = ((bS t).1, !fX ts (bS t).1) by unfold aI; rw [if_neg hn, hok]; rfl]
 exact .tup (.cons (.agg (aE Z)) (.cons (.c .d) .nil))
abbrev lF (rs : List Rw) : A := .c (.d (.slc 3 (rs.map Rw.cells)))
abbrev oA (rs : List Rw) : B := .row false 3 (rs.map Rw.cells)
abbrev EF (r : Rw) : A := .agg (r.cells.map .d)
theorem qY {n i : Nat} : (List.replicate n [D.int .i64 0]).set (0 + ((i : Nat) : Int).toNat) [D.int .i64 1] = (iD n i).map fun n => [D.int .i64 n] := by
 unfold iD
 rw [List.map_set, List.map_replicate, Nat.zero_add, Int.toNat_natCast]
theorem CM (hf : Fs ts) : MQ h1 h2 200 [.c (.rs 0 0 ts.length)] [(0, aH ts)] (bc (lF (qN ts)) [(0, aH ts)]) := by
 refine aJ 500 Z (fv (jH 46 [500] h1 h2 Tryz.func200 Z Z Z Z fun O hF => ?_))
 have hlen := hf.len
 refine ah (js O Z (aV (AOps.heap (bE O Z Z Z Z Z Z Z Z Z Z Z) Z (au ?_))))
 refine js O Z (jn (ag (ah (js O Z (jn (ao (aq (X := Nat) (fun i => ⟨[(0, .c (.rs 500 0 ts.length)), (3, .c (.rs 900 0 i)), (4, eI i)], [(900, oA (eL ts i)), (500, aH ts)]⟩) (fun i => i ≤ ts.length) (fun i => ts.length - i) 0 ((af 7 900 Z Z).trans (Ent.to ⟨Z, Z, Z, trivial⟩ Z)) ?_ (fun i hi => ?_))))))))
 exact ct _
 refine ag (ah (j2 O Z Z (dk O Z Z (js O Z (jf [11,0,3,4] Z (jn (ae O Z Z (fun hc11 => ?_) (fun hc11 => ?_))))))))
 try simp only [aT] at hc11
 refine aj (ag (ao (ag ?_)))
 have hget : (ts.map Tm.cells)[0 + ((i : Nat) : Int).toNat]? = some (ts.getD i default).cells := by rw [Nat.zero_add, Int.toNat_natCast, List.getElem?_map, List.getElem?_eq_getElem (by omega), ax (by omega)]; rfl
 refine oq O [_,_,_,_,_,_,_,_,_,_,_] [pn [] 0 1, pn [] 0 1, pn [0,1] 0 1, pn [0,1,2] 0 1, pn [0,1,2,3] 0 1, pn [] 0 0, pn [5] 0 0, pe [5,6] 0, pn [0,1,2,3,4,5,6,7] 1 1, pn [] 0 1, pe [0,1,2,3,4,5,6,7,8,9] 1] [7,10] 9 5 (.box [.d (.int .i64 0), .d .nils, .d .nils]) [_,_] [_] [] (ai (kf O Z Z Z (kg O Z Z Z)) (ai (kf O Z Z Z (kg O Z Z Z)) (ai (ai (ai (aD (vI O Z Z) (vI O Z Z)) Z) (ai (aD (vI O Z Z) (vI O Z Z)) Z)) (ai (kf O Z Z Z (kg O Z Z Z)) (ai (ai (ai (aD (aS O (ex := (ts.getD i default).cells) Z Z Z Z hget Z) (aS O (ex := (ts.getD i default).cells) Z Z Z Z hget Z)) Z) (ai (aD (aS O (ex := (ts.getD i default).cells) Z Z Z Z hget Z) (aS O (ex := (ts.getD i default).cells) Z Z Z Z hget Z)) Z)) (kf O Z Z Z (ai (ai (aD (vI O Z Z) (vI O Z Z)) Z) (ai (ai (aD (aG (rK O Z Z Z Z Z Z Z Z Z (by first | omega | (simp at *; omega)) (by first | omega | (simp at *; omega)) (by first | omega | (simp at *; omega)) (by first | omega | (dsimp only; omega) | (simp only [aT] at *; omega)) (by first | omega | (simp at *; omega)) Z Z Z Z)) (aG (rK O Z Z Z Z Z Z Z Z Z (by first | omega | (simp at *; omega)) (by first | omega | (simp at *; omega)) (by first | omega | (simp at *; omega)) (by first | omega | (dsimp only; omega) | (simp only [aT] at *; omega)) (by first | omega | (simp at *; omega)) Z Z Z Z))) Z) (kf O Z Z Z (ai (ai (ai (aG (Eff.alloc O Z Z Z Z Z Z)) Z) (ai (aG (Eff.alloc O Z Z Z Z Z Z)) Z)) (ai (ai (aD trivial (aG (eS O Z Z Z))) Z) trivial))))))))))) ?_
 refine jw [5,11,0,3,4] Z (b9 ?_)
 refine ag (ah (js O Z (jn (ao (aq (X := Nat) (fun j => ⟨[(0, .c (.rs 500 0 ts.length)), (3, .c (.rs 900 0 i)), (4, eI i), (5, .c (.pt 5 0 0)), (6, eI j)], [(5, .box [.d (.int .i64 (ts.getD i default).c), .rs 901 0 j, .rs 21 0 ts.length]), (21, .row true 1 (List.replicate ts.length [.int .i64 0])), (900, oA (eL ts i)), (500, aH ts), (901, aX (j8 (ts.getD i default).xs j))]⟩) (fun j => j ≤ 10) (fun j => 10 - j) 0 (((aw [5,21,900,500] (e' := [(0, _), (3, _), (4, _), (5, _), (6, _)]) Z Z ⟨Z, Z, Z, Z, Z, trivial⟩ Z).trans (cd 5 901 1 true 1 Z Z Z)).trans (Ent.to ⟨Z, Z, Z, Z, Z, trivial⟩ Z)) ?_ (fun j hi => ?_))))))
 exact ct _
 refine ag (ah (j2 O Z Z (jn (ae O Z Z (fun hc24 => ?_) (fun hc24 => ?_)))))
 try simp only [aT] at hc24
 refine aj (ag (ao (jA O [_,_,_,_,_,_,_,_,_,_,_] [pn [] 0 2, pn [0] 0 2, pn [] 0 0, pn [] 0 0, pn [2,3] 0 0, pn [] 0 0, pe (rg 2 4) 0, pe (rg 2 5) 1, pe (rg 0 8) 2, pn (rg 0 9) 3 3, pe (rg 0 10) 3] [6,7,8,10] [_,_,_,_,_] [[], [], [901,34], []] (ai (ka O Z Z (ka O Z Z (kw O Z Z))) (ai (ka O Z Z (ka O Z Z (kw O Z Z))) (ka O Z Z (ka O Z Z (ai (ai (vI O Z Z) Z) (ka O Z Z (ai (ai (aG (bw O (B0 := 34000) Z Z Z Z (y2 (t := ts.getD i default) (i := j) h1 h2 (by omega)) (.cons (.c (.pe Z hget)) (.cons (.c .d) .nil)) Z Z Z Z Z)) Z) (ai (ai (aG (jg O Z Z Z Z Z Z Z Z Z Z Z Z Z)) Z) (ai (ai (dm (zs := (j8 (ts.getD i default).xs (j + 1)).map fun n => [.int .i64 n]) (n := j + 1) O Z Z Z Z Z Z Z Z Z Z Z Z Z Z Z Z (.row Z (by simp [dR])) Z Z (by decide) Z (by simp [dR]; omega) (by simp [dR]; omega) (by rw [sE, List.map_append]; rfl) (by simp [dR]) Z) Z) (ka O Z Z (ai (ai (aG (eS O Z Z Z)) Z) trivial))))))))))) ?_)))
 refine jw [24,23,0,3,4,5,6] Z (b9 ?_)
 refine ak (js O Z (ji O Z (js O Z (jf [6,24,23,0,3,4,5] Z (jn ?_)))))
 refine ⟨j + 1, ((aw [5,21,900,500,35] (e' := [(0, _), (3, _), (4, _), (5, _), (6, _)]) Z Z ⟨Z, Z, Z, Z, Z, trivial⟩ Z).trans (af 35 901 Z Z)), by omega, by omega⟩
 try simp only [aT] at hc24
 refine aO (ah ?_)
 obtain rfl : j = 10 := by omega
 refine j3 O Z Z Z (dk O Z Z (jf [40,24,23,0,3,4,5,6] Z (AOps.heap (bg (ex := [.int .i64 0]) (xs' := (iD ts.length i).map (fun n => [D.int .i64 n])) O Z Z Z Z Z Z Z Z Z Z Z Z Z Z (by rw [Nat.zero_add, Int.toNat_natCast, List.getElem?_replicate, if_pos (by omega)]) qY) Z ?_)))
 refine au ?_
 refine jn (ak (ay (Ent.freeze 901 (e' := [(3, _), (5, _), (0, _), (4, _)]) Z (fe [3,5,0,4] Z) (.cons Z (.box (.cons (.keep Z) (.cons (.row Z (by simp [dR])) (fk Z)))) (.cons Z .row (.cons Z .row (.cons Z .row (.skip .nil)))))) ?_))
 refine ay (Ent.freeze 21 (e' := [(3, _), (5, _), (0, _), (4, _)]) Z (fe [3,5,0,4] Z) (.cons Z (.box (.cons (.keep Z) (.cons (.keep Z) (.cons (.row Z (by simp [fK])) .nil)))) (.skip (.cons Z .row (.cons Z .row .nil))))) ?_
 refine j2 O Z Z (AOps.heap (bE O Z Z Z Z Z Z Z Z Z Z Z) Z (au ?_))
 refine jf [43,41,3,5,0,4] Z (AOps.heap (aU (own := false) (zs := (eL ts (i + 1)).map Rw.cells) (n := i + 1) O Z Z Z Z Z Z Z Z Z Z Z Z Z Z Z Z (.row Z (by simp [bR])) (.whole Z Z (.inr ⟨Z, Z⟩)) (by simp) Z (by simp [bR]; omega) (by simp [bR]; omega) (by rw [mw, List.map_append]; rfl) (by simp [bR])) Z (au ?_))
 refine js O Z (jf [3,5,0,4] Z (jn (ak (js O Z (ji O Z (js O Z (jf [4,3,5,0] Z (jn ?_))))))))
 refine ⟨i + 1, ((aw [44,500] (e' := [(0, _), (3, _), (4, _)]) Z Z ⟨Z, Z, Z, trivial⟩ Z).trans (af 44 900 Z Z)), by omega, by omega⟩
 try simp only [aT] at hc11
 refine aO (ah (j2 O Z Z (jr ?_)))
 refine ⟨.inl Z, _, am, _, Z, ?_⟩
 refine ⟨?_, Z⟩
 obtain rfl : i = ts.length := by omega
 exact .v (.c (.whole Z (by simp [bR])))
theorem vU {n m : Int} {xs ys : List Int} {i : Nat} : ((jz n m xs ys (i + 1)).map fun n => [D.int .i64 n])[0 + ((i : Nat) : Int).toNat]? = some [D.int .i64 (n * xs.getD i default + m * ys.getD i default)] := by
 rw [Nat.zero_add, Int.toNat_natCast, gS, List.map_append, List.getElem?_append_right (by simp [bG])]
 simp [bG]
def lC (c0 : Bool) (xs : List Int) (g : Int) (i : Nat) : Bool := c0 && (xs.take i).all fun x => num (x.tdiv g)
theorem AL {c0 : Bool} {xs : List Int} {g : Int} : lC c0 xs g 0 = c0 := by simp [lC]
theorem pg {c0 : Bool} {xs : List Int} {g : Int} {i : Nat} (h : i < xs.length) : lC c0 xs g (i + 1) = (lC c0 xs g i && num ((xs.getD i default).tdiv g)) := by
 unfold lC
 rw [List.take_succ_eq_append_getElem h, List.all_append, ax h, Bool.and_assoc]
 simp
theorem xJ {r : Rw} {g : Nat} : uV (lD r g) = lC (lC (num (r.c.tdiv g)) r.xs g r.xs.length) r.ms g r.ms.length := by
 simp [uV, lD, lC, List.all_map, Function.comp_def]
theorem jC {a b B : Int} (h : -B ≤ a ∧ a ≤ B) : -B ≤ a.tdiv b ∧ a.tdiv b ≤ B := by
 have h1 : (a.tdiv b).natAbs ≤ a.natAbs := by rw [Int.natAbs_tdiv]; exact Nat.div_le_self _ _
 omega
theorem lM {a b : Int} {xs ys : List Int} {i : Nat} (h1 : 1 ≤ a ∧ a ≤ 1000000) (h2 : 1 ≤ b ∧ b ≤ 1000000) (hx : ∀ k, -1000000 ≤ xs.getD k default ∧ xs.getD k default ≤ 1000000) (hy : ∀ k, -1000000 ≤ ys.getD k default ∧ ys.getD k default ≤ 1000000) :
    ∀ x ∈ jz a b xs ys i, -2000000000000 ≤ x ∧ x ≤ 2000000000000 := fun x h => by
 obtain ⟨k, _, rfl⟩ := m8 h
 exact pT h1 h2 (hx k) (hy k)
theorem yp {C : Int} {l : List Int} (hC : -2000000000000 ≤ C ∧ C ≤ 2000000000000) (hl : ∀ x ∈ l, -2000000000000 ≤ x ∧ x ≤ 2000000000000) : bk (C :: l) ≤ 2000000000000 := nD fun x hx => by
 rcases List.mem_cons.1 hx with rfl | hx
 omega
 have := hl x hx; omega
theorem Ax {a b : List Int} (ha : ∀ x ∈ a, -2000000000000 ≤ x ∧ x ≤ 2000000000000) (hb : ∀ x ∈ b, -2000000000000 ≤ x ∧ x ≤ 2000000000000) : ∀ x ∈ a ++ b, -2000000000000 ≤ x ∧ x ≤ 2000000000000 := fun x hx => by
 rcases List.mem_append.1 hx with hx | hx
 exact ha x hx
 exact hb x hx
theorem vS {xs : List Int} {g : Int} {i : Nat} (h : i < xs.length) : ((mj xs g (i + 1)).map fun n => [D.int .i64 n])[0 + ((i : Nat) : Int).toNat]? = some [D.int .i64 ((xs.getD i default).tdiv g)] := by
 rw [Nat.zero_add, Int.toNat_natCast, ← gR h, List.map_set, List.getElem?_set]
 simp [kr, h]
theorem m7 {xs : List Int} {i : Nat} (h : i < xs.length) : xs.getD i default ∈ xs := by rw [ax h]; exact List.getElem_mem h
theorem yG {n : Nat} {p q : Rw} {k : Nat} (hp : ROk n p) (hq : ROk n q) (hk : k < 10) (hx : 0 < p.xs.getD k default) (hy : q.xs.getD k default < 0) (hn : n ≤ 1000) : MQ h1 h2 213 [ptr p.cells, ptr q.cells, eI k] [] (Plain (.tup [EF (eU p q k), eB (uV (eU p q k))])) := by
 refine MC.data (jB 196 h1 h2 Tryz.func213 Z Z Z fun O hF => ?_)
 obtain ⟨hg0, hm0, hn0⟩ := qf hp hq hx hy
 have hb1 := hp.get k
 have hb2 := hq.get k
 have lp := hp.l
 have lq := hq.l
 have lpm := hp.n
 have lqm := hq.n
 have hd1 := dN (a := p.xs.getD k default) (b := ((j5 p q k : Nat) : Int)) (by omega)
 have hd2 := dN (a := -(q.xs.getD k default)) (b := ((j5 p q k : Nat) : Int)) (by omega)
 obtain ⟨m, em⟩ : ∃ m, m = pH p q k := ⟨_, rfl⟩
 obtain ⟨nn, en⟩ : ∃ m, m = pG p q k := ⟨_, rfl⟩
 rw [← em] at hm0
 rw [← en] at hn0
 have hc1 := fB (a := nn) (b := p.c) (by omega) (Db.1 hp.c)
 have hc2 := fB (a := m) (b := q.c) (by omega) (Db.1 hq.c)
 have hpm : ∀ j, -1000000 ≤ p.ms.getD j default ∧ p.ms.getD j default ≤ 1000000 := fun j => by have := hp.mul j; omega
 have hqm : ∀ j, -1000000 ≤ q.ms.getD j default ∧ q.ms.getD j default ≤ 1000000 := fun j => by have := hq.mul j; omega
 refine ah (jl O Z (au ?_))
 refine js O Z (aV (j4 O Z Z Z Z (js O Z ?_)))
 first | refine iM O Z Z ?_ | refine lz O Z Z ?_ | refine dk O Z Z ?_
 refine j2 O Z Z (jf [8,7,6,0,1,2] Z (aV (j4 O Z Z Z Z (js O Z ?_))))
 first | refine iM O Z Z ?_ | refine lz O Z Z ?_ | refine dk O Z Z ?_
 refine js O Z (ac ((cz O Z Z (by omega) (by omega)).cast (v' := eI (-(q.xs.getD k default))) (by rw [Int.zero_sub])) Z Z Z (js O Z (jf [9,8,7,6,0,1,2] Z (aV (j2 O Z Z (ap O Z Z Z Z ((tu (a := p.xs.getD k default) (b := -(q.xs.getD k default)) h1 h2 (by omega) (by omega)).plain (u := eI (j5 p q k)) (by rw [Int.natAbs_neg])) (aa Z) Z Z Z Z Z (B0 := 35000) Z (js O Z (jf [10,9,8,7,6,0,1,2] Z (aV (j2 O Z Z (ac ((e8 O Z Z Z Z (by omega) (by omega) (by omega)).cast (v' := eI m) (by rw [em])) Z Z Z (js O Z (jf [8,10,9,7,6,0,1,2] Z (aV (j2 O Z Z (ac ((e8 O Z Z Z Z (by omega) (by omega) (by omega)).cast (v' := eI nn) (by rw [en])) Z Z Z (js O Z (jf [9,8,10,7,6,0,1,2] Z (jn (ag (oq O [_,_,_,_,_,_,_,_,_,_,_,_,_,_,_,_] [pn [] 0 0, pn [] 0 0, pn [1] 0 0, pn [1,2] 0 0, pn [1,2,3] 0 0, pn [0,1,2,3,4] 0 0, pn [] 0 0, pn [] 0 0, pn [7] 0 0, pn [7,8] 0 0, pn [7,8,9] 0 0, pn [6,7,8,9,10] 0 0, pn [0,1,2,3,4,5,6,7,8,9,10,11] 0 0, pn [0,1,2,3,4,5,6,7,8,9,10,11,12] 0 0, pn [] 0 0, pe [0,1,2,3,4,5,6,7,8,9,10,11,12,13,14] 0] [15] 14 11 (.box [.d (.int .i64 0), .d .nils, .d .nils]) [_] [_] [] (kf O Z Z Z (kf O Z Z Z (kf O Z Z Z (kf O Z Z Z (kf O Z Z Z (ai (ai (aD (vF O Z) (vF O Z)) Z) (kf O Z Z Z (kf O Z Z Z (kf O Z Z Z (kf O Z Z Z (kf O Z Z Z (ai (ai (aD (vF O Z) (vF O Z)) Z) (ai (ai (aD (vF O Z) (vF O Z)) Z) (kf O Z Z Z (ai (ai (aG (Eff.alloc O Z Z Z Z Z Z)) Z) (ai (ai (aD trivial (aG (eS O Z Z Z))) Z) trivial)))))))))))))))) ?_)))))))))))))))))))))
 refine jw [11,9,8,10,7,6,0,1,2] Z (b9 ?_)
 refine ah ?_
 obtain ⟨C, eC⟩ : ∃ C, C = nn * p.c + m * q.c := ⟨_, rfl⟩
 have hC : -2000000000000 ≤ C ∧ C ≤ 2000000000000 := by omega
 rw [← eC]
 refine j2 O Z Z (jf [56,11,9,8,10,7,6,0,1,2] Z (ap O Z Z Z Z ((tu (a := 0) (b := C) h1 h2 (by decide) (by omega)).plain (u := eI (bk [C])) (by rw [wO]; exact congrArg (fun z : Nat => eI z) (Nat.gcd_zero_left _))) (aa Z) Z Z Z Z Z (B0 := 58000) Z (js O Z (jf [10,11,9,8,7,6,0,1,2] Z (jn (ag (ah (js O Z (jn (ao (aq (X := Nat) (fun i => ⟨[(0, ptr p.cells), (1, ptr q.cells), (6, .c (.pt 6 0 0)), (8, eI m), (9, eI nn), (10, eI (bk (C :: jz nn m p.xs q.xs i))), (11, .c (.pt 11 0 0)), (12, eI i)], [(6, .box [.d (.int .i64 0), .d .nils, .d .nils]), (11, .box [.d (.int .i64 C), .rs 900 0 i, .d .nils]), (900, aX (jz nn m p.xs q.xs i))]⟩) (fun i => i ≤ p.xs.length) (fun i => p.xs.length - i) 0 ((cd 11 900 1 true 1 Z Z Z).trans (Ent.to ⟨Z, Z, Z, Z, Z, Z, Z, Z, trivial⟩ Z)) ?_ (fun i hi => ?_))))))))))))
 exact ct _
 refine ag (ah (j4 O Z Z Z Z (js O Z ?_)))
 first | refine cu O Z ?_ | refine js O Z ?_ | refine dk O Z Z ?_
 refine js O Z (jf [64,0,1,6,8,9,10,11,12] Z (jn (ae O Z Z (fun hc64 => ?_) (fun hc64 => ?_))))
 try simp only [aT] at hc64
 refine aj (ag (ao (ag ?_)))
 have f1 := fB (a := nn) (b := p.xs.getD i default) (by omega) (hp.get i)
 have f2 := fB (a := m) (b := q.xs.getD i default) (by omega) (hq.get i)
 have hgl := yp hC (l := jz nn m p.xs q.xs i) (lM hn0 hm0 hp.get hq.get)
 refine jA O [_,_,_,_,_,_,_,_,_,_,_,_,_,_,_,_,_,_,_,_,_,_,_,_,_] [pn [] 0 1, pn [0] 0 1, pn [] 0 0, pn [] 0 0, pn [3] 0 0, pn [3,4] 0 0, pn [3,4,5] 0 0, pn [] 0 0, pn (rg 3 5) 0 0, pn (rg 3 6) 0 0, pn (rg 2 8) 0 0, pn [] 0 0, pn [] 0 0, pn [12] 0 0, pn [12,13] 0 0, pn [12,13,14] 0 0, pn [] 0 0, pn (rg 12 5) 0 0, pn (rg 12 6) 0 0, pn (rg 11 8) 0 0, pn (rg 2 18) 0 0, pe (rg 2 19) 0, pe (rg 0 22) 1, pn (rg 0 23) 2 2, pe (rg 0 24) 2] [21,22,24] [_,_,_,_] [[], [900,88], []] (ai (ka O Z Z (kw O Z Z)) (ai (ka O Z Z (kw O Z Z)) (ka O Z Z (ka O Z Z (ka O Z Z (ka O Z Z (ka O Z Z (ka O Z Z (ai (ai (vN O Z) Z) (ka O Z Z (ai (ai (vF O Z) Z) (ka O Z Z (ka O Z Z (ka O Z Z (ka O Z Z (ka O Z Z (ka O Z Z (ai (ai (vN O Z) Z) (ka O Z Z (ai (ai (vF O Z) Z) (ai (ai (vF O Z) Z) (ai (ai (aG (jg O Z Z Z Z Z Z Z Z Z Z Z Z Z)) Z) (ai (ai (dm (zs := (jz nn m p.xs q.xs (i + 1)).map fun n => [.int .i64 n]) (n := i + 1) O Z Z Z Z Z Z Z Z Z Z Z Z Z Z Z Z (.row Z (by simp [bG])) Z Z (by decide) Z (by simp [bG]; omega) (by simp [bG]; omega) (by rw [gS, List.map_append]; rfl) (by simp [bG]) Z) Z) (ka O Z Z (ai (ai (aG (eS O Z Z Z)) Z) trivial))))))))))))))))))))))))) ?_
 refine jw [64,0,1,6,8,9,10,11,12] Z (b9 ?_)
 refine ak (j4 O Z Z Z Z ?_)
 first | refine iM O Z Z ?_ | refine lz O Z Z ?_ | refine dk O Z Z ?_
 refine ac (aS O (ex := [.int .i64 (nn * p.xs.getD i default + m * q.xs.getD i default)]) Z Z Z Z vU Z) Z Z Z (jf [96,91,64,0,1,6,8,9,10,11,12] Z (ap O Z Z Z Z ((tu (a := (bk (C :: jz nn m p.xs q.xs i) : Nat)) (b := nn * p.xs.getD i default + m * q.xs.getD i default) h1 h2 (by omega) (by omega)).plain (u := eI (bk (C :: jz nn m p.xs q.xs (i + 1)))) (by rw [Int.natAbs_natCast, gS, ← List.cons_append, o0])) (aa Z) Z Z Z Z Z (B0 := 98000) Z (js O Z (jf [10,64,0,1,6,8,9,11,12] Z (jn (ak (js O Z ?_)))))))
 first | refine ji O Z ?_ | refine dk O Z Z ?_
 refine js O Z (jf [12,10,64,0,1,6,8,9,11] Z (jn ?_))
 refine ⟨i + 1, ((aw [6,11,89] (e' := [(0, _), (1, _), (6, _), (8, _), (9, _), (10, _), (11, _), (12, _)]) Z Z ⟨Z, Z, Z, Z, Z, Z, Z, Z, trivial⟩ Z).trans (af 89 900 Z Z)), by omega, by omega⟩
 try simp only [aT] at hc64
 refine aO (ag (ah ?_))
 obtain rfl : i = p.xs.length := by omega
 obtain ⟨X, eX⟩ : ∃ X, X = jz nn m p.xs q.xs p.xs.length := ⟨_, rfl⟩
 have lXp : X.length = p.xs.length := by rw [eX, bG]
 have hXb : ∀ x ∈ X, -2000000000000 ≤ x ∧ x ≤ 2000000000000 := by rw [eX]; exact lM hn0 hm0 hp.get hq.get
 rw [← eX]
 refine js O Z (jn (ao (aq (X := Nat) (fun j => ⟨[(0, ptr p.cells), (1, ptr q.cells), (6, .c (.pt 6 0 0)), (8, eI m), (9, eI nn), (10, eI (bk (C :: X ++ jz nn m p.ms q.ms j))), (11, .c (.pt 11 0 0)), (13, eI j)], [(6, .box [.d (.int .i64 0), .d .nils, .d .nils]), (11, .box [.d (.int .i64 C), .rs 900 0 p.xs.length, .rs 901 0 j]), (900, aX X), (901, aX (jz nn m p.ms q.ms j))]⟩) (fun j => j ≤ p.ms.length) (fun j => p.ms.length - j) 0 ((cd 11 901 1 true 2 Z Z Z).trans (Ent.to ⟨Z, Z, Z, Z, Z, congrArg (fun z => some (eI (bk z))) (List.append_nil (C :: X)).symm, Z, Z, trivial⟩ Z)) ?_ (fun j hi => ?_))))
 exact ct _
 refine ag (ah (j4 O Z Z Z Z (js O Z ?_)))
 first | refine cu O Z ?_ | refine js O Z ?_ | refine dk O Z Z ?_
 refine js O Z (jf [104,0,1,6,8,9,10,11,13] Z (jn (ae O Z Z (fun hc104 => ?_) (fun hc104 => ?_))))
 try simp only [aT] at hc104
 refine aj (ag (ao (ag ?_)))
 have f1 := fB (a := nn) (b := p.ms.getD j default) (by omega) (hpm j)
 have f2 := fB (a := m) (b := q.ms.getD j default) (by omega) (hqm j)
 have hgl : bk (C :: X ++ jz nn m p.ms q.ms j) ≤ 2000000000000 := yp hC (Ax hXb (lM hn0 hm0 hpm hqm))
 refine jA O [_,_,_,_,_,_,_,_,_,_,_,_,_,_,_,_,_,_,_,_,_,_,_,_,_] [pn [] 0 1, pn [0] 0 1, pn [] 0 0, pn [] 0 0, pn [3] 0 0, pn [3,4] 0 0, pn [3,4,5] 0 0, pn [] 0 0, pn (rg 3 5) 0 0, pn (rg 3 6) 0 0, pn (rg 2 8) 0 0, pn [] 0 0, pn [] 0 0, pn [12] 0 0, pn [12,13] 0 0, pn [12,13,14] 0 0, pn [] 0 0, pn (rg 12 5) 0 0, pn (rg 12 6) 0 0, pn (rg 11 8) 0 0, pn (rg 2 18) 0 0, pe (rg 2 19) 0, pe (rg 0 22) 1, pn (rg 0 23) 2 2, pe (rg 0 24) 2] [21,22,24] [_,_,_,_] [[], [901,128], []] (ai (ka O Z Z (kw O Z Z)) (ai (ka O Z Z (kw O Z Z)) (ka O Z Z (ka O Z Z (ka O Z Z (ka O Z Z (ka O Z Z (ka O Z Z (ai (ai (vN O Z) Z) (ka O Z Z (ai (ai (vF O Z) Z) (ka O Z Z (ka O Z Z (ka O Z Z (ka O Z Z (ka O Z Z (ka O Z Z (ai (ai (vN O Z) Z) (ka O Z Z (ai (ai (vF O Z) Z) (ai (ai (vF O Z) Z) (ai (ai (aG (jg O Z Z Z Z Z Z Z Z Z Z Z Z Z)) Z) (ai (ai (dm (zs := (jz nn m p.ms q.ms (j + 1)).map fun n => [.int .i64 n]) (n := j + 1) O Z Z Z Z Z Z Z Z Z Z Z Z Z Z Z Z (.row Z (by simp [bG])) Z Z (by decide) Z (by simp [bG]; omega) (by simp [bG]; omega) (by rw [gS, List.map_append]; rfl) (by simp [bG]) Z) Z) (ka O Z Z (ai (ai (aG (eS O Z Z Z)) Z) trivial))))))))))))))))))))))))) ?_
 refine jw [104,0,1,6,8,9,10,11,13] Z (b9 ?_)
 refine ak (j4 O Z Z Z Z ?_)
 first | refine iM O Z Z ?_ | refine lz O Z Z ?_ | refine dk O Z Z ?_
 refine ac (aS O (ex := [.int .i64 (nn * p.ms.getD j default + m * q.ms.getD j default)]) Z Z Z Z vU Z) Z Z Z (jf [136,131,104,0,1,6,8,9,10,11,13] Z (ap O Z Z Z Z ((tu (a := (bk (C :: X ++ jz nn m p.ms q.ms j) : Nat)) (b := nn * p.ms.getD j default + m * q.ms.getD j default) h1 h2 (by omega) (by omega)).plain (u := eI (bk (C :: X ++ jz nn m p.ms q.ms (j + 1)))) (by rw [Int.natAbs_natCast, gS, ← eP, o0])) (aa Z) Z Z Z Z Z (B0 := 138000) Z (js O Z (jf [10,104,0,1,6,8,9,11,13] Z (jn (ak (js O Z ?_)))))))
 first | refine ji O Z ?_ | refine dk O Z Z ?_
 refine js O Z (jf [13,10,104,0,1,6,8,9,11] Z (jn ?_))
 refine ⟨j + 1, ((aw [6,11,900,129] (e' := [(0, _), (1, _), (6, _), (8, _), (9, _), (10, _), (11, _), (13, _)]) Z Z ⟨Z, Z, Z, Z, Z, Z, Z, Z, trivial⟩ Z).trans (af 129 901 Z Z)), by omega, by omega⟩
 try simp only [aT] at hc104
 refine aO (ah ?_)
 obtain rfl : j = p.ms.length := by omega
 obtain ⟨Y, eY⟩ : ∃ Y, Y = jz nn m p.ms q.ms p.ms.length := ⟨_, rfl⟩
 have lYp : Y.length = p.ms.length := by rw [eY, bG]
 have hYb : ∀ x ∈ Y, -2000000000000 ≤ x ∧ x ≤ 2000000000000 := by rw [eY]; exact lM hn0 hm0 hpm hqm
 rw [← eY]
 obtain ⟨G, eG⟩ : ∃ G, G = bk (C :: X ++ Y) := ⟨_, rfl⟩
 rw [← eG]
 have hG : 0 < G ∧ G ≤ 2000000000000 := by rw [eG, eC, eX, eY, em, en]; exact qm hp hq hx hy
 have hq0 := jC (b := (G : Int)) hC
 refine j3 O Z Z Z ?_
 first | refine ac (vQ O Z Z Z Z) Z Z Z ?_ | refine ji O Z ?_
 refine js O Z (jf [142,141,104,0,1,6,8,9,10,11,13] Z (jo O Z (au ?_)))
 refine jf [104,0,1,6,8,9,10,11,13] Z (aV (j2 O Z Z (jf [144,104,0,1,6,8,9,10,11,13] Z (ap O Z Z Z Z (vd h1 h2) (aa Z) Z Z Z Z Z (B0 := 146000) Z (js O Z (jf [14,104,0,1,6,8,9,10,11,13] Z (jn (ag (ah (js O Z (jn (ao (aq (X := Nat) (fun i => ⟨[(6, .c (.pt 6 0 0)), (10, eI G), (11, .c (.pt 11 0 0)), (14, eB (lC (num (C.tdiv G)) X G i)), (15, eI i)], [(6, .box [.d (.int .i64 0), .d .nils, .d .nils]), (11, .box [.d (.int .i64 (C.tdiv G)), .rs 900 0 p.xs.length, .rs 901 0 p.ms.length]), (900, aX (mj X G i)), (901, aX Y)]⟩) (fun i => i ≤ p.xs.length) (fun i => p.xs.length - i) 0 (((aw [6,11,900,901] (e' := [(6, _), (10, _), (11, _), (14, _), (15, _)]) Z Z ⟨Z, Z, Z, Z, Z, trivial⟩ Z)).trans (Ent.to ⟨Z, Z, Z, congrArg (fun z => some (eB z)) AL.symm, Z, trivial⟩ (by rw [iZ]; rfl))) ?_ (fun i hi => ?_))))))))))))))
 exact ct _
 refine ag (ah (j3 O Z Z Z ?_))
 first | refine cu O Z ?_ | refine js O Z ?_ | refine dk O Z Z ?_
 refine js O Z (jf [150,6,10,11,14,15] Z (jn (ae O Z Z (fun hc150 => ?_) (fun hc150 => ?_))))
 try simp only [aT] at hc150
 refine aj (ag (ao (ah ?_)))
 have hil : i < X.length := by omega
 have hxi := jC (b := (G : Int)) (hXb _ (m7 hil))
 refine j3 O Z Z Z ?_
 first | refine iM O Z Z ?_ | refine lz O Z Z ?_ | refine dk O Z Z ?_
 refine ac (aS O (ex := [.int .i64 (X.getD i default)]) Z Z Z Z (by rw [Nat.zero_add]; exact fc (by omega)) Z) Z Z Z (js O Z ?_)
 first | refine ac (vQ O Z Z Z Z) Z Z Z ?_ | refine ji O Z ?_
 first | refine iM O Z Z ?_ | refine lz O Z Z ?_ | refine dk O Z Z ?_
 refine jf [160,159,150,6,10,11,14,15] Z (AOps.heap (bg (ex := [.int .i64 (X.getD i default)]) (xs' := (mj X G (i + 1)).map (fun n => [D.int .i64 n])) O Z Z Z Z Z Z Z Z Z Z Z Z Z Z (by rw [Nat.zero_add]; exact fc (by omega)) (by rw [← gR (by omega), List.map_set, Nat.zero_add]; rfl)) Z (au ?_))
 refine jf [150,6,10,11,14,15] Z (jn (ak (j2 O Z Z (jf [162,150,6,10,11,14,15] Z (az 6 Z Z Z (fun hx => ab hx Z Z Z (V O Z) Z Z ( ab hx Z Z Z (V O Z) Z Z ( ab hx Z Z Z (V O Z) Z Z ( ab hx Z Z Z (vI O Z Z) Z Z ( ab hx Z Z Z (aS O (ex := [.int .i64 ((X.getD i default).tdiv G)]) Z Z Z Z (vS (by omega)) Z) Z Z ( bv O hx Z Z Z Z (vd h1 h2) (aa Z) Z Z Z Z Z Z Z (B0 := 169000) Z ( AN.nil))))))) Z Z ?_)))))
 first | refine ac (aC O Z Z Z Z Z) Z Z Z ?_ | refine ac (aL O Z Z Z Z Z) Z Z Z ?_ | refine ac (Val.pickB O Z Z Z Z Z) Z Z Z ?_
 refine js O Z (jf [14,150,6,10,11,15] Z (jn (ak (js O Z ?_))))
 first | refine ji O Z ?_ | refine dk O Z Z ?_
 refine js O Z (jf [15,14,150,6,10,11] Z (jn ?_))
 refine ⟨i + 1, Ent.to ⟨Z, Z, Z, congrArg (fun z => some (eB z)) (by rw [pg (by omega), Bool.cond_false_right]), Z, trivial⟩ Z, by omega, by omega⟩
 try simp only [aT] at hc150
 refine aO (ag (ah ?_))
 obtain rfl : i = p.xs.length := by omega
 refine js O Z (jn (ao (aq (X := Nat) (fun j => ⟨[(6, .c (.pt 6 0 0)), (10, eI G), (11, .c (.pt 11 0 0)), (14, eB (lC (lC (num (C.tdiv G)) X G p.xs.length) Y G j)), (16, eI j)], [(6, .box [.d (.int .i64 0), .d .nils, .d .nils]), (11, .box [.d (.int .i64 (C.tdiv G)), .rs 900 0 p.xs.length, .rs 901 0 p.ms.length]), (900, aX (mj X G p.xs.length)), (901, aX (mj Y G j))]⟩) (fun j => j ≤ p.ms.length) (fun j => p.ms.length - j) 0 (((aw [6,11,900,901] (e' := [(6, _), (10, _), (11, _), (14, _), (16, _)]) Z Z ⟨Z, Z, Z, Z, Z, trivial⟩ Z)).trans (Ent.to ⟨Z, Z, Z, congrArg (fun z => some (eB z)) AL.symm, Z, trivial⟩ (by rw [iZ]; rfl))) ?_ (fun j hi => ?_))))
 exact ct _
 refine ag (ah (j3 O Z Z Z ?_))
 first | refine cu O Z ?_ | refine js O Z ?_ | refine dk O Z Z ?_
 refine js O Z (jf [174,6,10,11,14,16] Z (jn (ae O Z Z (fun hc174 => ?_) (fun hc174 => ?_))))
 try simp only [aT] at hc174
 refine aj (ag (ao (ah ?_)))
 have hjl : j < Y.length := by omega
 have hyj := jC (b := (G : Int)) (hYb _ (m7 hjl))
 refine j3 O Z Z Z ?_
 first | refine iM O Z Z ?_ | refine lz O Z Z ?_ | refine dk O Z Z ?_
 refine ac (aS O (ex := [.int .i64 (Y.getD j default)]) Z Z Z Z (by rw [Nat.zero_add]; exact fc (by omega)) Z) Z Z Z (js O Z ?_)
 first | refine ac (vQ O Z Z Z Z) Z Z Z ?_ | refine ji O Z ?_
 first | refine iM O Z Z ?_ | refine lz O Z Z ?_ | refine dk O Z Z ?_
 refine jf [184,183,174,6,10,11,14,16] Z (AOps.heap (bg (ex := [.int .i64 (Y.getD j default)]) (xs' := (mj Y G (j + 1)).map (fun n => [D.int .i64 n])) O Z Z Z Z Z Z Z Z Z Z Z Z Z Z (by rw [Nat.zero_add]; exact fc (by omega)) (by rw [← gR (by omega), List.map_set, Nat.zero_add]; rfl)) Z (au ?_))
 refine jf [174,6,10,11,14,16] Z (jn (ak (j2 O Z Z (jf [186,174,6,10,11,14,16] Z (az 6 Z Z Z (fun hx => ab hx Z Z Z (V O Z) Z Z ( ab hx Z Z Z (V O Z) Z Z ( ab hx Z Z Z (V O Z) Z Z ( ab hx Z Z Z (vI O Z Z) Z Z ( ab hx Z Z Z (aS O (ex := [.int .i64 ((Y.getD j default).tdiv G)]) Z Z Z Z (vS (by omega)) Z) Z Z ( bv O hx Z Z Z Z (vd h1 h2) (aa Z) Z Z Z Z Z Z Z (B0 := 193000) Z ( AN.nil))))))) Z Z ?_)))))
 first | refine ac (aC O Z Z Z Z Z) Z Z Z ?_ | refine ac (aL O Z Z Z Z Z) Z Z Z ?_ | refine ac (Val.pickB O Z Z Z Z Z) Z Z Z ?_
 refine js O Z (jf [14,174,6,10,11,16] Z (jn (ak (js O Z ?_))))
 first | refine ji O Z ?_ | refine dk O Z Z ?_
 refine js O Z (jf [16,14,174,6,10,11] Z (jn ?_))
 refine ⟨j + 1, Ent.to ⟨Z, Z, Z, congrArg (fun z => some (eB z)) (by rw [pg (by omega), Bool.cond_false_right]), Z, trivial⟩ Z, by omega, by omega⟩
 try simp only [aT] at hc174
 refine aO (ah (j2 O Z Z (jo O Z (au ?_))))
 refine js O Z (jf [7,174,6,10,11,14,16] Z (jr ?_))
 refine ⟨.inl Z, _, am, _, Z, ?_⟩
 obtain rfl : j = p.ms.length := by omega
 have e1 : mj X G p.xs.length = X.map (fun x => x.tdiv G) := by rw [← lXp]; exact jF
 have e2 : mj Y G p.ms.length = Y.map (fun x => x.tdiv G) := by rw [← lYp]; exact jF
 rw [e1, e2]
 rw [show eU p q k = lD ⟨C, X, Y⟩ G by subst eG; subst eY; subst eX; subst eC; subst em; subst en; rfl, xJ]
 show VR _ _ (.tup [EF (lD ⟨C, X, Y⟩ G), eB (lC (lC (num (C.tdiv G)) X G X.length) Y G Y.length)])
 rw [lXp, lYp]
 exact .tup (.cons (.agg (.cons .d (.cons (.whole Z (by simp [lD, lXp])) (.cons (.whole Z (by simp [lD, lYp])) .nil)))) (.cons (.c .d) .nil))
def yS (k : Nat) (rs : List Rw) : List Rw × Nat × Bool := match eJ k rs with
  | none => ([], 0, false)
  | some new => (cD k rs ++ new, (cD k rs).length, true)
theorem rf {k : Nat} {rs : List Rw} (h : eJ k rs = none) : yS k rs = ([], 0, false) := by unfold yS; rw [h]
theorem nu {k : Nat} {rs new : List Rw} (h : eJ k rs = some new) : yS k rs = (cD k rs ++ new, (cD k rs).length, true) := by unfold yS; rw [h]
theorem BT {k : Nat} {rs : List Rw} (h : (yS k rs).2.2 = true) : ∃ new, eJ k rs = some new := by
 cases hs : eJ k rs with
 | none => rw [rf hs] at h; cases h
 | some new => exact ⟨new, Z⟩
theorem BU {k : Nat} {rs : List Rw} (h : (yS k rs).2.2 = false) : eJ k rs = none := by
 cases hs : eJ k rs with
 | none => rfl
 | some new => rw [nu hs] at h; cases h
def w9 (ts : List Tm) : List Rw × List Rw × Bool := match c9 ts with
  | none => ([], [], false)
  | some z => (z.1, z.2, true)
theorem nG {ts : List Tm} (h : c9 ts = none) : w9 ts = ([], [], false) := by unfold w9; rw [h]
theorem f6 {ts : List Tm} {z : List Rw × List Rw} (h : c9 ts = some z) : w9 ts = (z.1, z.2, true) := by unfold w9; rw [h]
theorem th {ts : List Tm} (h : (w9 ts).2.2 = true) : ∃ z, c9 ts = some z := by
 cases hs : c9 ts with
 | none => rw [nG hs] at h; cases h
 | some z => exact ⟨z, Z⟩
theorem tj {ts : List Tm} (h : (w9 ts).2.2 = false) : c9 ts = none := by
 cases hs : c9 ts with
 | none => rfl
 | some z => rw [f6 hs] at h; cases h
abbrev BW (z : List Rw × Nat × Bool) : A := .tup [lF z.1, eI z.2.1, eB z.2.2]
abbrev yk (z : List Rw × List Rw × Bool) : A := .tup [lF z.1, lF z.2.1, eB z.2.2]
theorem Bp {a b : Int} (h : (bif decide (a ≤ 0) then true else decide (0 ≤ b)) = true) : a ≤ 0 ∨ 0 ≤ b := by
 by_cases h1 : a ≤ 0
 exact .inl h1
 right; simpa [h1] using h
theorem Bq {a b : Int} (h : (bif decide (a ≤ 0) then true else decide (0 ≤ b)) = false) : ¬ (a ≤ 0 ∨ 0 ≤ b) := by
 by_cases h1 : a ≤ 0
 simp [h1] at h
 rintro (h2 | h2)
 exact h1 h2
 simp [h1, h2] at h
theorem yq {o : Bool} {n : Nat} (h : (bif !o then true else decide ((n : Int) = 60)) = true) : ¬ (o = true ∧ n ≠ 60) := by
 rintro ⟨h1, h2⟩
 simp [h1] at h; omega
theorem yr {o : Bool} {n : Nat} (h : (bif !o then true else decide ((n : Int) = 60)) = false) : o = true ∧ n ≠ 60 := by
 cases o with
 | false => simp at h
 | true => simp at h; exact ⟨rfl, by omega⟩
theorem CL {n : Nat} {rs : List Rw} {k : Nat} (hr : AllR n rs) (hl60 : rs.length ≤ 60) (hk : k < 10) (hn : n ≤ 1000) : MQ h1 h2 201 [lF rs, eI k] [] (Plain (BW (yS k rs))) := by
 refine MC.data (jB 95 h1 h2 Tryz.func201 Z Z Z fun O hF => ?_)
 refine ah (j3 O Z Z Z (aV (AOps.heap (bE O Z Z Z Z Z Z Z Z Z Z Z) Z (au ?_))))
 refine js O Z (jn (ag (ah (js O Z (jn (ao (aq (X := Nat) (fun i => ⟨[(0, lF rs), (1, eI k), (7, .c (.rs 900 0 (cD k (rs.take i)).length)), (8, eI i)], [(900, oA (cD k (rs.take i)))]⟩) (fun i => i ≤ rs.length) (fun i => rs.length - i) 0 ((af 14 900 Z Z).trans (Ent.to ⟨Z, Z, Z, Z, trivial⟩ Z)) ?_ (fun i hi => ?_))))))))
 exact ct _
 refine ag (ah (j2 O Z Z (cu O Z (js O Z (jf [18,0,1,7,8] Z (jn (ae O Z Z (fun hc18 => ?_) (fun hc18 => ?_))))))))
 refine aj (ag (ao (ah ?_)))
 have hil : i < rs.length := by have := bC hc18; omega
 have hri := (hr.get hil).l
 refine j2 O Z Z (iM O Z Z (j3 O Z Z Z (iM O Z Z (j2 O Z Z (jf [29,18,0,1,7,8] Z (jn (ae O Z Z (fun hc29 => ?_) (fun hc29 => ?_))))))))
 refine ak (j3 O Z Z Z (iM O Z Z (js O Z (jf [34,30,29,18,0,1,7,8] Z (AOps.heap (bE O Z Z Z Z Z Z Z Z Z Z Z) Z (au ?_))))))
 refine jf [35,30,29,18,0,1,7,8] Z ?_
 have hki := fm (k := k) (rs := rs.take (i + 1))
 rw [List.length_take] at hki
 refine AOps.heap (aU (own := false) (zs := (cD k (rs.take (i + 1))).map Rw.cells) (n := (cD k (rs.take (i + 1))).length) O Z Z Z Z Z Z Z Z Z Z Z Z Z Z Z Z (.row Z (bz _).symm) (.whole Z Z (.inr ⟨Z, Z⟩)) (by simp) Z (by have := fm (k := k) (rs := rs.take i); simp at this ⊢; omega) (by have := fm (k := k) (rs := rs.take i); simp at this ⊢; omega) (by rw [tH hil (bC hc29), List.map_append]; rfl) (bz _)) Z (au ?_)
 refine js O Z (jf [7,29,18,0,1,8] Z (jn (ak (js O Z (ji O Z (js O Z (jf [8,7,29,18,0,1] Z (jn ?_))))))))
 refine ⟨i + 1, ((aw [36] (e' := [(0, _), (1, _), (7, _), (8, _)]) Z Z ⟨Z, Z, Z, Z, trivial⟩ Z).trans (af 36 900 Z Z)), by omega, by omega⟩
 refine aj (ak (js O Z (ji O Z (js O Z (jf [8,29,18,0,1,7] Z (jn ?_))))))
 have hkf := tI (k := k) (i := i) (rs := rs) (by omega) (cH hc29)
 rw [← hkf]
 refine ⟨i + 1, Ent.to ⟨Z, Z, Z, Z, trivial⟩ Z, by omega, by omega⟩
 refine aO (ah ?_)
 have hie : i = rs.length := by have := cH hc18; omega
 subst hie
 rw [List.take_length]
 have hkl := fm (k := k) (rs := rs)
 obtain ⟨KP, eK⟩ : ∃ KP, KP = cD k rs := ⟨_, rfl⟩
 rw [← eK]
 rw [← eK] at hkl
 refine js O Z (dk O Z Z (js O Z (jf [9,18,0,1,7,8] Z (jn (ag (ah (js O Z (jn (ao (aq (X := Nat × List Rw) (fun x => ⟨[(0, lF rs), (1, eI k), (7, .c (.rs 900 0 (KP.length + x.2.length))), (9, eI KP.length), (10, eI x.1)], [(900, oA (KP ++ x.2))]⟩) (fun x => x.1 ≤ rs.length ∧ rW k KP.length rs (rs.drop x.1) x.2 = rW k KP.length rs rs [] ∧ AllR n x.2 ∧ KP.length + x.2.length ≤ 60) (fun x => rs.length - x.1) (0, []) (Ent.to ⟨Z, Z, Z, Z, Z, trivial⟩ (by rw [List.append_nil])) ?_ (fun x hi => ?_)))))))))))
 exact ⟨ct _, Z, AllR.nil, by simp only [List.length_nil]; omega⟩
 refine ag (ah (j2 O Z Z (cu O Z (js O Z (jf [42,0,1,7,9,10] Z (jn (ae O Z Z (fun hc42 => ?_) (fun hc42 => ?_))))))))
 refine aj (ag (ao (ah ?_)))
 obtain ⟨hx1, hx2, hx3, hx4⟩ := hi
 have hxl : x.1 < rs.length := by have := bC hc42; omega
 refine js O Z (jn (ao (aq (X := Nat × List Rw) (fun y => ⟨[(0, lF rs), (1, eI k), (7, .c (.rs 900 0 (KP.length + y.2.length))), (9, eI KP.length), (10, eI x.1), (11, eI y.1)], [(900, oA (KP ++ y.2))]⟩) (fun y => y.1 ≤ rs.length ∧ r3 (rs.getD x.1 default) k KP.length (rs.drop y.1) y.2 = r3 (rs.getD x.1 default) k KP.length rs x.2 ∧ AllR n y.2 ∧ KP.length + y.2.length ≤ 60) (fun y => rs.length - y.1) (0, x.2) (Ent.to ⟨Z, Z, Z, Z, Z, Z, trivial⟩ Z) ?_ (fun y hi => ?_))))
 exact ⟨ct _, Z, hx3, hx4⟩
 refine ag (ah (j2 O Z Z (cu O Z (js O Z (jf [48,0,1,7,9,10,11] Z (jn (ae O Z Z (fun hc48 => ?_) (fun hc48 => ?_))))))))
 refine aj (ag (ao (ag (ah ?_))))
 obtain ⟨hy1, hy2, hy3, hy4⟩ := hi
 have hyl : y.1 < rs.length := by have := bC hc48; omega
 have hpi := hr.get hxl
 have hqj := hr.get hyl
 have l1 := hpi.l
 have l2 := hqj.l
 have hgj := ru (p := (rs.getD x.1 default)) (k := k) (b := KP.length) (rs := rs) (new := y.2) (j := y.1) hyl
 refine j2 O Z Z (iM O Z Z (j3 O Z Z Z (iM O Z Z (j3 O Z Z Z (jf [60,48,0,1,7,9,10,11] Z (az 9 Z Z Z (fun hx => ab hx Z Z Z (V O Z) Z Z ( ab hx Z Z Z (V O Z) Z Z ( ab hx Z Z Z (vN O Z) Z Z ( ab hx Z Z Z (V O Z) Z Z ( ab hx Z Z Z (V O Z) Z Z ( ab hx Z Z Z (V O Z) Z Z ( ab hx Z Z Z (vN O Z) Z Z ( ab hx Z Z Z (V O Z) Z Z ( ab hx Z Z Z (V O Z) Z Z ( AN.nil)))))))))) Z Z (ac (aL O Z Z Z Z Z) Z Z Z (jf [70,48,0,1,7,9,10,11] Z (jn (ae O Z Z (fun hc70 => ?_) (fun hc70 => ?_)))))))))))
 refine aO (ak (js O Z (ji O Z (js O Z (jf [11,70,48,0,1,7,9,10] Z (jn ?_))))))
 rw [if_pos (Bp hc70)] at hgj
 refine ⟨(y.1 + 1, y.2), Ent.to ⟨Z, Z, Z, Z, Z, Z, trivial⟩ Z, ⟨by show y.1 + 1 ≤ _; omega, hgj.symm.trans hy2, hy3, hy4⟩, by show rs.length - (y.1 + 1) < rs.length - y.1; omega⟩
 refine aj (ag ?_)
 have hcc := Bq hc70
 have hpk : 0 < (rs.getD x.1 default).xs.getD k default := by omega
 have hqk : (rs.getD y.1 default).xs.getD k default < 0 := by omega
 refine oq O [_,_,_,_,_,_,_,_,_,_,_,_,_,_] [pn [] 0 0, pn [] 0 0, pn [0,1] 0 0, pn [] 0 0, pn [] 0 0, pn [3,4] 0 0, pn [] 0 0, pe [0,1,2,3,4,5,6] 0, pn [0,1,2,3,4,5,6,7] 1 1, pn [0,1,2,3,4,5,6,7,8] 1 1, pn [0,1,2,3,4,5,6,7,8] 1 2, pn [] 0 1, pe [0,1,2,3,4,5,6,7,8,9,11] 1, pn [0,1,2,3,4,5,6,7,8,9,10,11,12] 2 2] [7,12] 11 12 (.box [.d (.int .i64 0), .d .nils, .d .nils]) [_,_] [_] [] (kf O Z Z Z (kf O Z Z Z (ai (ai (aD (vN O Z) (vN O Z)) Z) (kf O Z Z Z (kf O Z Z Z (ai (ai (aD (vN O Z) (vN O Z)) Z) (kf O Z Z Z (ai (ai (aD (aG (bo O (B0 := 80000) Z Z Z Z (yG (p := (rs.getD x.1 default)) (q := (rs.getD y.1 default)) (k := k) h1 h2 hpi hqj hk hpk hqk hn) (aa Z) Z Z Z Z Z)) (aG (bo O (B0 := 80000) Z Z Z Z (yG (p := (rs.getD x.1 default)) (q := (rs.getD y.1 default)) (k := k) h1 h2 hpi hqj hk hpk hqk hn) (aa Z) Z Z Z Z Z))) Z) (kf O Z Z Z (kf O Z Z Z (ai (kf O Z Z Z (kg O Z Z Z)) (ai (ai (ai (aG (Eff.alloc O Z Z Z Z Z Z)) Z) (ai (aG (Eff.alloc O Z Z Z Z Z Z)) Z)) (ai (ai (aD trivial (aG (eS O Z Z Z))) Z) (ai (ai (aD trivial (V O Z)) Z) trivial)))))))))))))) ?_
 refine jw [13,12,70,48,0,1,7,9,10,11] Z (b9 ?_)
 refine ag (ah ?_)
 rw [if_neg hcc] at hgj
 refine j3 O Z Z Z (jf [84,12,70,48,0,1,7,9,10,11] Z (az 3 Z Z Z (fun hx => ab hx Z Z Z (V O Z) Z Z ( ab hx Z Z Z (vI O Z Z) Z Z ( ab hx Z Z Z (V O Z) Z Z ( AN.nil)))) Z Z (ac (aL O Z Z Z Z Z) Z Z Z (jf [88,12,70,48,0,1,7,9,10,11] Z (jn (ae O Z Z (fun hc88 => ?_) (fun hc88 => ?_)))))))
 refine ah (j3 O Z Z Z (jr ?_))
 refine ⟨.inl Z, _, am, _, Z, ?_⟩
 have hno := yq hc88
 rw [if_neg hno] at hgj
 have hgi := k9 (k := k) (b := KP.length) (rs := rs) (new := x.2) (i := x.1) hxl
 rw [← hy2, hgj] at hgi
 rw [rf (by show rW k (cD k rs).length rs rs [] = none; rw [← eK, ← hx2]; exact hgi)]
 exact .tup (.cons (.c .nils) (.cons (.c .d) (.cons (.c .d) .nil)))
 refine aj (ak ?_)
 have hyes := yr hc88
 refine j2 O Z Z (AOps.heap (bE O Z Z Z Z Z Z Z Z Z Z Z) Z (au ?_))
 refine jf [91,89,88,12,70,48,0,1,7,9,10,11] Z (AOps.heap (aU (own := false) (xs := (KP ++ y.2).map Rw.cells) (zs := (KP ++ (y.2 ++ [eU (rs.getD x.1 default) (rs.getD y.1 default) k])).map Rw.cells) (n := KP.length + (y.2 ++ [eU (rs.getD x.1 default) (rs.getD y.1 default) k]).length) O Z Z Z Z Z Z Z Z Z Z Z Z Z Z Z Z (.row Z (by simp)) (.whole Z Z (.inr ⟨Z, Z⟩)) (by simp) Z (by simp; omega) (by simp; omega) (by rw [← eP, List.map_append (l₁ := KP ++ y.2)]; rfl) (by simp)) Z (au ?_))
 refine js O Z (jf [7,88,12,70,48,0,1,9,10,11] Z (jn (ak (js O Z (ji O Z (js O Z (jf [11,7,88,12,70,48,0,1,9,10] Z (jn ?_))))))))
 rw [if_pos hyes] at hgj
 refine ⟨(y.1 + 1, y.2 ++ [eU (rs.getD x.1 default) (rs.getD y.1 default) k]), ((aw [92] (e' := [(0, _), (1, _), (7, _), (9, _), (10, _), (11, _)]) Z Z ⟨Z, Z, Z, Z, Z, Z, trivial⟩ Z).trans (af 92 900 Z Z)), ⟨by show y.1 + 1 ≤ _; omega, hgj.symm.trans hy2, hy3.snoc (sc hpi hqj hpk hqk hyes.1), by simp only [ce, dj]; omega⟩, by show rs.length - (y.1 + 1) < rs.length - y.1; omega⟩
 refine aO (ak (js O Z (ji O Z (js O Z (jf [10,48,0,1,7,9,11] Z (jn ?_))))))
 obtain ⟨hy1, hy2, hy3, hy4⟩ := hi
 have hye : rs.length ≤ y.1 := by have := cH hc48; omega
 rw [tJ hye] at hy2
 have hgi := k9 (k := k) (b := KP.length) (rs := rs) (new := x.2) (i := x.1) (by omega)
 rw [← hy2] at hgi
 refine ⟨(x.1 + 1, y.2), Ent.to ⟨Z, Z, Z, Z, Z, trivial⟩ Z, ⟨by show x.1 + 1 ≤ _; omega, hgi.symm.trans hx2, hy3, hy4⟩, by show rs.length - (x.1 + 1) < rs.length - x.1; omega⟩
 refine aO (ah (j4 O Z Z Z Z (js O Z (jf [6,5,4,42,0,1,7,9,10] Z (jr ?_)))))
 refine ⟨.inl Z, _, am, _, Z, ?_⟩
 obtain ⟨hx1, hx2, hx3, hx4⟩ := hi
 have hxe : rs.length ≤ x.1 := by have := cH hc42; omega
 rw [tK hxe] at hx2
 rw [nu (new := x.2) (by show rW k (cD k rs).length rs rs [] = some x.2; rw [← eK, ← hx2]), ← eK]
 exact .tup (.cons (.c (.whole Z (by simp))) (.cons (.c .d) (.cons (.c .d) .nil)))
theorem yK (hf : Fs ts) : MQ h1 h2 178 [.c (.rs 0 0 ts.length)] [(0, aH ts)] (bc (yk (w9 ts)) [(0, aH ts)]) := by
 refine aJ 500 Z (fv (jH 35 [500] h1 h2 Tryz.func178 Z Z Z Z fun O hF => ?_))
 have hlen := hf.len
 refine ah (j3 O Z Z Z (aV (js O Z (jf [11,4,3,2] Z (aB O [500] (bin := [aH ts]) Z Z Z Z (CM (ts := ts) h1 h2 hf) Z Z Z Z Z Z (B0 := 13000) Z Z (au ?_))))))
 refine js O Z (jf [5,4,3,2] Z (aV (AOps.heap (bE O Z Z Z Z Z Z Z Z Z Z Z) Z (au ?_))))
 refine js O Z (jn (ag (ah (js O Z (jn (ao (aq (X := Nat × List Rw × List Rw) (fun x => ⟨[(5, lF x.2.1), (6, .c (.rs 900 0 x.2.2.length)), (7, eI x.1)], [(900, oA x.2.2), (500, aH ts)]⟩) (fun x => x.1 ≤ 10 ∧ gP (10 - x.1) x.1 x.2.1 x.2.2 = c9 ts ∧ AllR ts.length x.2.1 ∧ x.2.1.length ≤ 60 ∧ AllR ts.length x.2.2 ∧ x.2.2.length ≤ 60 * x.1) (fun x => 10 - x.1) (0, qN ts, []) ((af 13 900 Z Z).trans (Ent.to ⟨Z, Z, Z, trivial⟩ Z)) ?_ (fun x hi => ?_))))))))
 exact ⟨ct _, Z, nv hf, by show (eL ts ts.length).length ≤ 60; rw [bR]; omega, AllR.nil, ct _⟩
 refine ag (ah (j2 O Z Z (jn (ae O Z Z (fun hc15 => ?_) (fun hc15 => ?_)))))
 refine aj (ag (ao (ah ?_)))
 obtain ⟨hx1, hx2, hx3, hx4, hx5, hx6⟩ := hi
 have hxl : x.1 < 10 := by have := bC hc15; omega
 refine j2 O Z Z (ar O Z Z Z Z (CL (n := ts.length) (rs := x.2.1) (k := x.1) h1 h2 hx3 hx4 hxl (by omega)) (aa Z) Z Z Z Z (B0 := 22000) Z Z (j4 O Z Z Z Z (j3 O Z Z Z (jf [10,9,8,15,14,5,6,7] Z (jn (ag (ah (j2 O Z Z (jf [26,9,8,15,14,5,6,7] Z (jn (ae O Z Z (fun hc26 => ?_) (fun hc26 => ?_))))))))))))
 refine ah (j3 O Z Z Z (jr ?_))
 refine ⟨.inl Z, _, am, _, Z, ?_⟩
 refine ⟨?_, Z⟩
 have hs := BU (k := x.1) (rs := x.2.1) (by simpa using hc26)
 have he : c9 ts = none := by rw [← hx2, show 10 - x.1 = (10 - (x.1 + 1)) + 1 by omega, kC hs]
 rw [nG he]
 exact .tup (.cons (.c .nils) (.cons (.c .nils) (.cons (.c .d) .nil)))
 refine aj (ah ?_)
 obtain ⟨new, hs⟩ := BT (k := x.1) (rs := x.2.1) (by simpa using hc26)
 have hso := lY hx3 hx4 hs
 rw [nu hs]
 refine j3 O Z Z Z (ac ((fJ O Z Z ⟨by simp, by simp⟩).cast (v' := lF new) (by simp [List.map_append]; exact List.take_of_length_le (by simp))) Z Z Z (jf [30,27,26,8,15,14,5,6,7] Z (AOps.heap (aU (own := false) (xs := x.2.2.map Rw.cells) (ys := new.map Rw.cells) (zs := (x.2.2 ++ new).map Rw.cells) (n := (x.2.2 ++ new).length) O Z Z Z Z Z Z Z Z Z Z Z Z Z Z Z Z (.row Z (bz _).symm) (.slc (.inl Z)) (by simp) Z (by simp; omega) (by simp; omega) (by simp) (by simp)) Z (au ?_))))
 refine js O Z (jf [6,26,8,15,14,5,7] Z (jn (ak (j2 O Z Z (jn (ak (js O Z (ji O Z (js O Z (jf [7,5,32,6,26,8,15,14] Z (jn ?_)))))))))))
 refine ⟨(x.1 + 1, cD x.1 x.2.1 ++ new, x.2.2 ++ new), ((aw [31,500] (e' := [(5, _), (6, _), (7, _)]) Z Z ⟨Z, Z, Z, trivial⟩ Z).trans (af 31 900 Z Z)), ⟨by show x.1 + 1 ≤ 10; omega, ?_, hso.1, hso.2.1, hx5.app hso.2.2.1, ?_⟩, by show 10 - (x.1 + 1) < 10 - x.1; omega⟩
 show gP (10 - (x.1 + 1)) (x.1 + 1) _ _ = _
 rw [← hx2, show 10 - x.1 = (10 - (x.1 + 1)) + 1 by omega, kB hs]
 show (x.2.2 ++ new).length ≤ 60 * (x.1 + 1)
 rw [ce]; omega
 refine aO (ah (j4 O Z Z Z Z (js O Z (jf [4,3,2,15,14,5,6,7] Z (jr ?_)))))
 refine ⟨.inl Z, _, am, _, Z, ?_⟩
 refine ⟨?_, Z⟩
 obtain ⟨hx1, hx2, hx3, hx4, hx5, hx6⟩ := hi
 have hxe : x.1 = 10 := by have := cH hc15; omega
 rw [hxe] at hx2
 have he : c9 ts = some x.2 := hx2.symm
 rw [f6 he]
 exact .tup (.cons (.c .d) (.cons (.c (.whole Z (bz _).symm)) (.cons (.c .d) .nil)))
abbrev vm (z : List Int × Bool) : A := .tup [bH z.1, eB z.2]
def qJ (ts : List Tm) : Tm × List Int × Int × Bool := match ew ts with
  | none => (⟨0, []⟩, [], 0, false)
  | some r => ((aI ts r.tm).1, r.ms, (bk r.tm.xs : Int), true)
abbrev yl (z : Tm × List Int × Int × Bool) : A := .tup [cL z.1, bH z.2.1, eI z.2.2.1, eB z.2.2.2]
theorem md {ts : List Tm} (h : ew ts = none) : qJ ts = (⟨0, []⟩, [], 0, false) := by unfold qJ; rw [h]
theorem mb {ts : List Tm} {r : Rw} (h : ew ts = some r) : qJ ts = ((aI ts r.tm).1, r.ms, (bk r.tm.xs : Int), true) := by unfold qJ; rw [h]
theorem tM {ts : List Tm} (h : c9 ts = none) : ew ts = none := by unfold ew; rw [h]
theorem nc {ts : List Tm} {z : List Rw × List Rw} (h : c9 ts = some z) : ew ts = iI ts z.2 := by unfold ew; rw [h]
theorem tF {ts : List Tm} (h : c9 ts = none) : db ts = ([], false) := by unfold db; rw [h]
theorem vJ {ts : List Tm} {z : List Rw × List Rw} (h : c9 ts = some z) (h2 : gO z.1 = none) : db ts = ([], false) := by unfold db; rw [h]; simp only; rw [h2]
theorem vH {ts : List Tm} {z : List Rw × List Rw} {r : Rw} (h : c9 ts = some z) (h2 : gO z.1 = some r) : db ts = (r.ms, true) := by unfold db; rw [h]; simp only; rw [h2]
def qF (ts : List Tm) : Int × Tm := match eR ts with
  | some i => ((i : Int), (aI ts (ts.getD i default)).1)
  | none => (-1, ⟨0, []⟩)
abbrev yj (z : Int × Tm) : A := .tup [eI z.1, cL z.2]
theorem lV {ts : List Tm} {i : Nat} (h : eR ts = some i) : qF ts = ((i : Int), (aI ts (ts.getD i default)).1) := by unfold qF; rw [h]
theorem oP {ts : List Tm} (h : eR ts = none) : qF ts = (-1, ⟨0, []⟩) := by unfold qF; rw [h]
theorem vz {ts : List Tm} {i : Nat} (h : i < ts.length) (h2 : (aI ts (ts.getD i default)).2 = true) : ne ts (ts.length - i) i = some i := by
 rw [show ts.length - i = (ts.length - (i + 1)) + 1 by omega, ne, if_pos h2]
theorem vA {ts : List Tm} {i : Nat} (h : i < ts.length) (h2 : (aI ts (ts.getD i default)).2 = false) : ne ts (ts.length - i) i = ne ts (ts.length - (i + 1)) (i + 1) := by
 rw [show ts.length - i = (ts.length - (i + 1)) + 1 by omega, ne, if_neg (by rw [h2]; decide)]
theorem um {ts : List Tm} {i : Nat} (h : i < ts.length) : (ts.map Tm.cells)[0 + ((i : Nat) : Int).toNat]? = some (ts.getD i default).cells := by
 rw [Nat.zero_add, Int.toNat_natCast, List.getElem?_map, List.getElem?_eq_getElem h, ax h]; rfl
theorem CV (hf : Fs ts) : MQ h1 h2 142 [.c (.rs 0 0 ts.length)] [(0, aH ts)] (bc (vm (db ts)) [(0, aH ts)]) := by
 refine aJ 500 Z (fv (jH 33 [500] h1 h2 Tryz.func142 Z Z Z Z fun O hF => ?_))
 refine ah (j2 O Z Z (aV (js O Z (jf [9,3,2] Z (aB O [500] (bin := [aH ts]) Z Z Z Z (yK (ts := ts) h1 h2 hf) Z Z Z Z Z Z (B0 := 11000) Z Z (au ?_))))))
 refine j4 O Z Z Z Z (j3 O Z Z Z (jf [6,4,3,2] Z (jn (ag (ah (j2 O Z Z (jf [15,4,3,2] Z (jn (ae O Z Z (fun hc15 => ?_) (fun hc15 => ?_))))))))))
 refine ah (j2 O Z Z (jr ?_))
 refine ⟨.inl Z, _, am, _, Z, ?_⟩
 refine ⟨?_, Z⟩
 rw [tF (tj (by simpa using hc15))]
 exact .tup (.cons (.c .nils) (.cons (.c .d) .nil))
 refine aj (ag (ah ?_))
 obtain ⟨z, hz⟩ := th (ts := ts) (by simpa using hc15)
 rw [f6 hz]
 obtain ⟨ha, hal, hb, hbl⟩ := gT hf (a := z.1) (b := z.2) hz
 refine js O Z (jn (ao (aq (X := Nat) (fun i => ⟨[(4, lF z.1), (7, eI i)], [(500, aH ts)]⟩) (fun i => i ≤ z.1.length ∧ gO (z.1.drop i) = gO z.1) (fun i => z.1.length - i) 0 (Ent.to ⟨Z, Z, trivial⟩ Z) ?_ (fun i hi => ?_))))
 exact ⟨ct _, Z⟩
 refine ag (ah (j2 O Z Z (cu O Z (js O Z (jf [19,4,7] Z (jn (ae O Z Z (fun hc19 => ?_) (fun hc19 => ?_))))))))
 refine aj (ag (ao (ah ?_)))
 have hil : i < z.1.length := by have := bC hc19; omega
 have hfc := n5 (rs := z.1) hil
 refine j2 O Z Z (iM O Z Z (j3 O Z Z Z (jf [27,19,4,7] Z (jn (ae O Z Z (fun hc27 => ?_) (fun hc27 => ?_))))))
 refine ah (j2 O Z Z (iM O Z Z (j4 O Z Z Z Z (jf [3,2,27,19,4,7] Z (jr ?_)))))
 refine ⟨.inl Z, _, am, _, Z, ?_⟩
 refine ⟨?_, Z⟩
 rw [if_pos (bC hc27), hi.2] at hfc
 rw [vH hz hfc]
 exact .tup (.cons (.c .d) (.cons (.c .d) .nil))
 refine aj (ak (js O Z (ji O Z (js O Z (jf [7,27,19,4] Z (jn ?_))))))
 rw [if_neg (cH hc27)] at hfc
 exact ⟨i + 1, Ent.to ⟨Z, Z, trivial⟩ Z, ⟨by omega, hfc.symm.trans hi.2⟩, by omega⟩
 refine aO (ah (j2 O Z Z (jr ?_)))
 refine ⟨.inl Z, _, am, _, Z, ?_⟩
 refine ⟨?_, Z⟩
 have hle : z.1.length ≤ i := by have := cH hc19; omega
 have h9 := hi.2
 rw [pd hle] at h9
 rw [vJ hz h9.symm]
 exact .tup (.cons (.c .nils) (.cons (.c .d) .nil))
theorem CU (hf : Fs ts) : MQ h1 h2 143 [.c (.rs 0 0 ts.length)] [(0, aH ts)] (bc (yl (qJ ts)) [(0, aH ts)]) := by
 refine aJ 500 Z (fv (jH 46 [500] h1 h2 Tryz.func143 Z Z Z Z fun O hF => ?_))
 refine ah (jl O Z (au ?_))
 refine j3 O Z Z Z (aV (js O Z (aB O [500] (bin := [aH ts]) Z Z Z Z (yK (ts := ts) h1 h2 hf) Z Z Z Z Z Z (B0 := 16000) Z Z (ay (Ent.to (e' := [(15, yk (w9 ts)), (0, .c (.rs 500 0 ts.length)), (2, .c (.pt 2 0 0))]) (H' := [(2, .box [.d (.int .i64 0), .d .nils]), (500, aH ts)]) ⟨Z, Z, Z, trivial⟩ Z) (j4 O Z Z Z Z (j3 O Z Z Z (jf [8,7,0,2] Z (jn (ag (ah (j2 O Z Z (jf [20,7,0,2] Z (jn (ae O Z Z (fun hc20 => ?_) (fun hc20 => ?_)))))))))))))))
 refine ah (js O Z (jf [21,7,0,2] Z (jo O Z (au ?_))))
 refine j3 O Z Z Z (jr ?_)
 refine ⟨.inl Z, _, am, _, Z, ?_⟩
 refine ⟨?_, Z⟩
 rw [md (tM (tj (by simpa using hc20)))]
 exact .tup (.cons (.agg (.cons .d (.cons .nils .nil))) (.cons (.c .nils) (.cons (.c .d) (.cons (.c .d) .nil))))
 refine aj (ag (ah ?_))
 obtain ⟨z, hz⟩ := th (ts := ts) (by simpa using hc20)
 rw [f6 hz]
 obtain ⟨ha, hal, hb, hbl⟩ := gT hf (a := z.1) (b := z.2) hz
 refine js O Z (jn (ao (aq (X := Nat) (fun i => ⟨[(0, .c (.rs 500 0 ts.length)), (2, .c (.pt 2 0 0)), (7, lF z.2), (9, eI i)], [(2, .box [.d (.int .i64 0), .d .nils]), (500, aH ts)]⟩) (fun i => i ≤ z.2.length ∧ iI ts (z.2.drop i) = iI ts z.2) (fun i => z.2.length - i) 0 (Ent.to ⟨Z, Z, Z, Z, trivial⟩ Z) ?_ (fun i hi => ?_))))
 exact ⟨ct _, Z⟩
 refine ag (ah (j2 O Z Z (cu O Z (js O Z (jf [25,0,2,7,9] Z (jn (ae O Z Z (fun hc25 => ?_) (fun hc25 => ?_))))))))
 refine aj (ag (ao (ah ?_)))
 have hil : i < z.2.length := by have := bC hc25; omega
 have hfc := n7 (ts := ts) (rs := z.2) hil
 have hro := hb.get hil
 refine j2 O Z Z (iM O Z Z (jf [30,25,0,2,7,9] Z (ar O Z Z Z Z (CP (r := z.2.getD i default) h1 h2 hro.tm) (aa Z) Z Z Z Z (B0 := 32000) Z Z (jf [31,25,0,2,7,9] Z (jl O Z (au ?_))))))
 refine jo O Z (au ?_)
 refine aV (ay (Ent.freeze 10 (e' := [(10, _), (0, _), (2, _), (7, _), (9, _)]) Z (.cons Z (.c (.box (cs := Tm.cells (z.2.getD i default).tm) Z (aE Z))) (fe [0,2,7,9] Z)) (.cons Z (.box (fk Z)) (.skip (.cons Z .row .nil)))) ?_)
 refine js O Z (aB O [500] (bin := [aH ts]) Z Z Z Z (Ao (ts := ts) (t := (z.2.getD i default).tm) h1 h2 hro.tm) Z Z Z Z Z Z (B0 := 35000) Z Z (ay (Ent.to (e' := [(34, gn (aI ts (z.2.getD i default).tm)), (0, .c (.rs 500 0 ts.length)), (2, .c (.pt 2 0 0)), (7, lF z.2), (9, eI i), (10, ptr (Tm.cells (z.2.getD i default).tm))]) (H' := [(2, .box [.d (.int .i64 0), .d .nils]), (500, aH ts)]) ⟨Z, Z, Z, Z, Z, Z, trivial⟩ Z) (j3 O Z Z Z (jf [36,35,0,2,7,9,10] Z (jl O Z (au ?_))))))
 refine jo O Z (au ?_)
 refine js O Z (jf [12,11,0,2,7,9,10] Z (aV (js O Z (jn (ae O Z Z (fun hc37 => ?_) (fun hc37 => ?_))))))
 refine ag (gL O [_,_,_,_,_,_,_,_,_,_,_] [pn [] 0 1, pn [] 0 2, pn [] 0 2, pn [1,2] 0 2, pn [1,2,3] 0 2, pn (rg 1 4) 0 2, pe [] 0, pe [0,6] 1, pn (rg 0 8) 2 2, pn (rg 0 9) 2 2, pn (rg 0 10) 2 2] [6,7] [_,_,_] (ai (kc O Z (V O Z)) (ai (kc O Z (kc O Z (V O Z))) (ai (kc O Z (kc O Z (V O Z))) (ai (ai (vN O Z) (ai (vN O Z) (vN O Z))) (ai (kc O Z (kc O Z (V O Z))) (ai (kc O Z (kc O Z (V O Z))) (ai (bw O (B0 := 45000) Z Z Z Z (va (t := (z.2.getD i default).tm) h1 h2 (Small.of hro.tm).xs) (aa Z) Z Z Z Z Z) (ai (eS O Z Z Z) (kc O Z (kc O Z (kc O Z trivial))))))))))) ?_)
 refine jw [5,4,3,37,12,11,0,2,7,9,10] Z (b9 ?_)
 refine dz ?_
 refine ⟨.inl Z, _, am, _, Z, ?_⟩
 refine ⟨?_, Z⟩
 rw [if_pos hc37, hi.2, ← nc hz] at hfc
 rw [mb hfc]
 exact .tup (.cons (.agg (aE Z)) (.cons (.c .d) (.cons (.c .d) (.cons (.c .d) .nil))))
 refine aj (ak (js O Z (ji O Z (js O Z (jf [9,37,12,11,0,2,7,10] Z (jn ?_))))))
 rw [if_neg (by rw [hc37]; decide)] at hfc
 refine ⟨i + 1, ((aw [2,500] (e' := [(0, _), (2, _), (7, _), (9, _)]) Z Z ⟨Z, Z, Z, Z, trivial⟩ Z).trans am), ⟨by omega, hfc.symm.trans hi.2⟩, by omega⟩
 refine aO (ah (js O Z (jo O Z (au ?_))))
 refine j3 O Z Z Z (jr ?_)
 refine ⟨.inl Z, _, am, _, Z, ?_⟩
 refine ⟨?_, Z⟩
 have hle : z.2.length ≤ i := by have := cH hc25; omega
 have h9 := hi.2
 rw [pf hle, ← nc hz] at h9
 rw [md h9.symm]
 exact .tup (.cons (.agg (.cons .d (.cons .nils .nil))) (.cons (.c .nils) (.cons (.c .d) (.cons (.c .d) .nil))))
theorem CW (hf : Fs ts) : MQ h1 h2 141 [.c (.rs 0 0 ts.length)] [(0, aH ts)] (bc (yj (qF ts)) [(0, aH ts)]) := by
 refine aJ 500 Z (fv (jH 25 [500] h1 h2 Tryz.func141 Z Z Z Z fun O hF => ?_))
 have hlen := hf.len
 refine ah (js O Z (jl O Z (au ?_)))
 refine jn (ag (ah (js O Z (jn (ao (aq (X := Nat) (fun i => ⟨[(0, .c (.rs 500 0 ts.length)), (3, .c (.pt 3 0 0)), (4, eI i)], [(3, .box [.d (.int .i64 0), .d .nils]), (500, aH ts)]⟩) (fun i => i ≤ ts.length ∧ ne ts (ts.length - i) i = eR ts) (fun i => ts.length - i) 0 (Ent.to ⟨Z, Z, Z, trivial⟩ Z) ?_ (fun i hi => ?_)))))))
 exact ⟨ct _, Z⟩
 refine ag (ah (j2 O Z Z (dk O Z Z (js O Z (jf [10,0,3,4] Z (jn (ae O Z Z (fun hc10 => ?_) (fun hc10 => ?_))))))))
 refine aj (ag (ao (ah ?_)))
 have hil : i < ts.length := by have := bC hc10; omega
 have hget := um hil
 have hti := hf.get hil
 refine j3 O Z Z Z (dk O Z Z (jf [17,14,10,0,3,4] Z (aB O [500] (bin := [aH ts]) Z Z Z Z (Ap (ts := ts) (t := ts.getD i default) h1 h2 hget hti) Z Z Z Z Z Z (B0 := 19000) Z Z (ay (Ent.to (e' := [(18, gn (aI ts (ts.getD i default))), (0, .c (.rs 500 0 ts.length)), (3, .c (.pt 3 0 0)), (4, eI i)]) (H' := [(3, .box [.d (.int .i64 0), .d .nils]), (500, aH ts)]) ⟨Z, Z, Z, Z, trivial⟩ Z) (j3 O Z Z Z (jf [20,19,0,3,4] Z (jl O Z (au ?_))))))))
 refine jo O Z (au ?_)
 refine js O Z (jf [6,5,0,3,4] Z (aV (js O Z (jn (ae O Z Z (fun hc21 => ?_) (fun hc21 => ?_))))))
 refine ag (gL O [_,_,_,_] [pn [] 0 0, pn [] 0 0, pn [0] 0 0, pe [0,1,2] 0] [3] [_,_] (kc O Z (kc O Z (kc O Z (ai (eS O Z Z Z) trivial)))) ?_)
 refine jw [2,21,6,5,0,3,4] Z (b9 ?_)
 refine dz ?_
 refine ⟨.inl Z, _, am, _, Z, ?_⟩
 refine ⟨?_, Z⟩
 have hg := vz hil hc21
 rw [hi.2] at hg
 rw [lV hg]
 exact .tup (.cons (.c .d) (.cons (.agg (aE Z)) .nil))
 refine aj (ak (js O Z (ji O Z (js O Z (jf [4,21,6,5,0,3] Z (jn ?_))))))
 have hg := vA hil hc21
 refine ⟨i + 1, ((aw [3,500] (e' := [(0, _), (3, _), (4, _)]) Z Z ⟨Z, Z, Z, trivial⟩ Z).trans am), ⟨by omega, hg.symm.trans hi.2⟩, by omega⟩
 refine aO (ah (j2 O Z Z (jo O Z (au ?_))))
 refine jr ?_
 refine ⟨.inl Z, _, am, _, Z, ?_⟩
 refine ⟨?_, Z⟩
 have hie : i = ts.length := by have := cH hc10; omega
 have h9 := hi.2
 rw [hie, Nat.sub_self] at h9
 rw [oP h9.symm]
 exact .tup (.cons (.c .d) (.cons (.agg (.cons .d (.cons .nils .nil))) .nil))
abbrev eE (ts : List Tm) : Option (List Nd × List Nd) := hZ (15 - ts.length) ts
theorem uh {ts : List Tm} {i : Nat} (hl : ts.length = 14) (h : eR ts = some i) : eE ts = none := by
 unfold eE; rw [show 15 - ts.length = 0 + 1 by omega, hZ, h]; simp only; rw [if_pos hl]
theorem wv {ts : List Tm} {i : Nat} (hl : ts.length < 14) (h : eR ts = some i) : eE ts = (eE (ts ++ [(aI ts (ts.getD i default)).1])).map fun z => (dD i :: z.1, z.2) := by
 unfold eE; rw [ce, dj, show 15 - ts.length = (15 - (ts.length + 1)) + 1 by omega, hZ, h]; simp only; rw [if_neg (by omega)]
theorem wx {ts : List Tm} (hl : ts.length ≤ 14) (h : eR ts = none) (h2 : (db ts).2 = true) : eE ts = some ([cR (db ts).1], []) := by
 unfold eE; rw [show 15 - ts.length = (14 - ts.length) + 1 by omega, hZ, h]; simp only; rw [if_pos h2]
theorem nP {ts : List Tm} (hl : ts.length ≤ 14) (h : eR ts = none) (h2 : (db ts).2 = false) (h3 : ew ts = none) : eE ts = none := by
 unfold eE; rw [show 15 - ts.length = (14 - ts.length) + 1 by omega, hZ, h]; simp only; rw [if_neg (by rw [h2]; decide), h3]
theorem sD {ts : List Tm} {r : Rw} (hl : ts.length = 14) (h : eR ts = none) (h2 : (db ts).2 = false) (h3 : ew ts = some r) : eE ts = none := by
 unfold eE; rw [show 15 - ts.length = 0 + 1 by omega, hZ, h]; simp only; rw [if_neg (by rw [h2]; decide), h3]; simp only; rw [if_pos hl]
theorem sC {ts : List Tm} {r : Rw} (hl : ts.length ≤ 14) (h : eR ts = none) (h2 : (db ts).2 = false) (h3 : ew ts = some r) (h4 : (aR (aI ts r.tm).1).2 = false) : eE ts = none := by
 unfold eE; rw [show 15 - ts.length = (14 - ts.length) + 1 by omega, hZ, h]; simp only; rw [if_neg (by rw [h2]; decide), h3]; simp only; split
 rfl
 rw [if_neg (by rw [h4]; decide)]
theorem ww {ts : List Tm} {r : Rw} (hl : ts.length < 14) (h : eR ts = none) (h2 : (db ts).2 = false) (h3 : ew ts = some r) (h4 : (aR (aI ts r.tm).1).2 = true) : eE ts = (eE (ts ++ [(aI ts r.tm).1])).map fun z => (c5 (aI ts r.tm).1 :: z.1, z.2 ++ [cR (fi r)]) := by
 unfold eE; rw [ce, dj, show 15 - ts.length = (15 - (ts.length + 1)) + 1 by omega, hZ, h]; simp only; rw [if_neg (by rw [h2]; decide), h3]; simp only; rw [if_neg (by omega), if_pos h4]
theorem gY {s : Sq} {b : Int} (hok : (aR s.goal).2 = true) (h : eE (s.facts ++ [(aR s.goal).1]) = none) : cI s b = ([], false) := by
 unfold eE at h; rw [ce, dj] at h
 unfold cI; rw [if_pos hok, h]
theorem lZ {s : Sq} {b : Int} {z : List Nd × List Nd} (hok : (aR s.goal).2 = true) (h : eE (s.facts ++ [(aR s.goal).1]) = some z) : cI s b = if ((z.1 ++ z.2).length : Int) ≤ b then (z.1 ++ z.2, true) else ([], false) := by
 unfold eE at h; rw [ce, dj] at h
 unfold cI; rw [if_pos hok, h]
theorem ny {s : Sq} {b : Int} (hok : (aR s.goal).2 = false) : cI s b = ([], false) := by
 unfold cI; rw [if_neg (by rw [hok]; decide)]
theorem ze {ts : List Tm} (h : 0 ≤ (qF ts).1) : ∃ i, eR ts = some i := by
 cases ht : eR ts with
 | some i => exact ⟨i, Z⟩
 | none => rw [oP ht] at h; exact absurd h (by decide)
theorem zf {ts : List Tm} (h : ¬ 0 ≤ (qF ts).1) : eR ts = none := by
 cases ht : eR ts with
 | none => rfl
 | some i => rw [lV ht] at h; exact absurd (Int.natCast_nonneg i) h
theorem zD {ts : List Tm} (h : (qJ ts).2.2.2 = true) : ∃ r, ew ts = some r := by
 cases ht : ew ts with
 | some r => exact ⟨r, Z⟩
 | none => rw [md ht] at h; cases h
theorem zE {ts : List Tm} (h : (qJ ts).2.2.2 = false) : ew ts = none := by
 cases ht : ew ts with
 | none => rfl
 | some r => rw [mb ht] at h; cases h
theorem Fs.snoc' {ts : List Tm} {t : Tm} (h : Fs ts) (ht : t.ok = true) (hl : ¬ (ts.length : Int) = 14) : Fs (ts ++ [t]) := h.snoc ht (by omega)
theorem kO {s : Sq} (hs : dA s = true) (hok : (aR s.goal).2 = true) : Fs (s.facts ++ [(aR s.goal).1]) := by
 obtain ⟨q1, q2, q3⟩ := gX hs
 exact Fs.snoc ⟨q1, by omega⟩ (xI hok) (by omega)
abbrev oB (z : List Nd × Bool) : A := .tup [vi z.1, eB z.2]
theorem f3 {H : List (Nat × B)} : VR H (.tup [.c (.d .nils), eB false]) (oB ([], false)) := .tup (.cons (.c .nils) (.cons (.c .d) .nil))
structure PvI (C : List Tm) (x : List Tm × List Nd × List Nd) : Prop where
  f : Fs x.1
  a : x.2.1.length ≤ x.1.length
  b : x.2.2.length ≤ x.1.length
  e : (eE x.1).map (fun z => (x.2.1 ++ z.1, z.2 ++ x.2.2)) = eE C
theorem PvI.none {C : List Tm} {x : List Tm × List Nd × List Nd} (h : PvI C x) (hn : eE x.1 = none) : eE C = none := by rw [← h.e, hn]; rfl
theorem PvI.zero {C : List Tm} (h : Fs C) : PvI C (C, [], []) := ⟨h, ct _, ct _, by
  simp only [List.nil_append, List.append_nil]
  cases eE C <;> rfl⟩
theorem PvI.tig {C : List Tm} {x : List Tm × List Nd × List Nd} {i : Nat} (h : PvI C x) (hl : ¬ (x.1.length : Int) = 14) (hi : eR x.1 = some i) : PvI C (x.1 ++ [(aI x.1 (x.1.getD i default)).1], x.2.1 ++ [dD i], x.2.2) := by
 have h14 := h.f.len
 refine ⟨h.f.snoc' (dE (jP hi).2.2) hl, by simp only [ce, dj]; have := h.a; omega, by simp only [ce, dj]; have := h.b; omega, ?_⟩
 rw [← h.e, wv (by omega) hi]
 cases eE (x.1 ++ [(aI x.1 (x.1.getD i default)).1]) <;> simp
theorem PvI.cut {C : List Tm} {x : List Tm × List Nd × List Nd} {r : Rw} (h : PvI C x) (hl : ¬ (x.1.length : Int) = 14) (h0 : eR x.1 = .none) (h2 : (db x.1).2 = false) (h3 : ew x.1 = some r) (h4 : (aR (aI x.1 r.tm).1).2 = true) : PvI C (x.1 ++ [(aI x.1 r.tm).1], x.2.1 ++ [c5 (aI x.1 r.tm).1], cR (fi r) :: x.2.2) := by
 have h14 := h.f.len
 refine ⟨h.f.snoc' (dE (jK h.f h3).2) hl, by simp only [ce, dj]; have := h.a; omega, by simp only [ce, dj, dL]; have := h.b; omega, ?_⟩
 rw [← h.e, ww (by omega) h0 h2 h3 h4]
 cases eE (x.1 ++ [(aI x.1 r.tm).1]) <;> simp
theorem DT {o : Bool} {n : Nat} (h : (bif !o then true else decide ((n : Int) = 14)) = true) : o = false ∨ n = 14 := by
 cases o with
 | false => exact .inl Z
 | true => simp at h; right; omega
theorem B4 {o : Bool} {n : Nat} (h : (bif !o then true else decide ((n : Int) = 14)) = false) : o = true ∧ ¬ (n : Int) = 14 := by
 cases o with
 | false => simp at h
 | true => simp at h; exact ⟨rfl, by omega⟩
variable {s : Sq}
theorem Cp (hg : Small s.goal) (hn : s.facts.length ≤ 1000) (hok : (aR s.goal).2 = true) : MQ h1 h2 140 [ptr s.cells] [] (Rows (.tup [.c (.rs 0 0 (s.facts ++ [(aR s.goal).1]).length), eB true]) [aH (s.facts ++ [(aR s.goal).1])]) := by
 refine bI (jB 23 h1 h2 Tryz.func140 Z Z Z fun O hF => ?_)
 refine ah (j2 O Z Z (aV (j3 O Z Z Z (jf [9,3,2,0] Z (ar O Z Z Z Z (vc (t := s.goal) h1 h2 hg) (.cons (.c (.sub Z)) .nil) Z Z Z Z (B0 := 11000) Z Z (j3 O Z Z Z (jf [12,11,3,2,0] Z (jl O Z (jo O Z (js O Z (jf [5,4,3,2,0] Z (jn (ag (ah (j2 O Z Z (jf [14,4,3,2,0] Z (jn (ae O Z Z (fun hc14 => ?_) (fun hc14 => ?_)))))))))))))))))))
 try simp only [aT] at hc14
 rw [hok] at hc14; cases hc14
 try simp only [aT] at hc14
 refine aj (ag (jw [4,0] Z (oq O [_,_,_,_,_,_,_,_,_,_] [pn [] 0 0, pn [0] 0 0, pn [0,1] 0 0, pn [0,1,2] 0 0, pe [0,1,2,3] 0, pn [] 0 1, pn [5] 0 1, pe [0,1,2,3,4,5,6] 1, pn [0,1,2,3,4,5,6,7] 2 2, pn [0,1,2,3,4,5,6,7,8] 2 2] [4,7] 6 21 (.row false 2 [Tm.cells (aR s.goal).1]) [_,_] [_] [[], [20000]] (kf O Z Z Z (kf O Z Z Z (kf O Z Z Z (kf O Z Z Z (ai (ai (aD (aG (dv O (B0 := 20000) Z Z Z Z (pM (ts := s.facts) h1 h2) (aa Z) Z Z Z Z)) (aG (dv O (B0 := 20000) Z Z Z Z (pM (ts := s.facts) h1 h2) (aa Z) Z Z Z Z))) Z) (ai (kf O Z Z Z (kg O Z Z Z)) (ai (ai (ai (aG (ck O Z Z Z Z Z Z Z Z Z Z Z Z Z Z)) Z) (ai (aG (ck O Z Z Z Z Z Z Z Z Z Z Z Z Z Z)) Z)) (ai (ai (aD trivial (bU (own := false) (xs := s.facts.map Tm.cells) (ys := [Tm.cells (aR s.goal).1]) (zs := (s.facts ++ [(aR s.goal).1]).map Tm.cells) (n := (s.facts ++ [(aR s.goal).1]).length) O Z Z Z Z Z Z Z Z Z Z Z Z Z Z Z Z (.row Z (bz _).symm) (.whole Z Z (.inr ⟨Z, Z⟩)) (by simp) Z (by simp; omega) (by simp; omega) (by simp) (by simp) Z)) Z) (ai (ai (aD trivial (V O Z)) Z) (ai (ai (aD trivial (V O Z)) Z) trivial)))))))))) ?_)))
 refine jw [3,2,4,0] Z (b9 ?_)
 refine dz ?_
 refine ⟨.inl Z, _, am, _, Z, [22], by decide, Z, Z, Z⟩
theorem At (hs : dA s = true) (hb : 1 ≤ b ∧ b ≤ 60) (hok : (aR s.goal).2 = true) : MQ h1 h2 100 [ptr s.cells, eI b] [] (Plain (oB (cI s b))) := by
 refine MC.data (jB 104 h1 h2 Tryz.func100 Z Z Z fun O hF => ?_)
 obtain ⟨hs1, hs2, hs3⟩ := gX hs
 refine ah (j2 O Z Z (aV (js O Z (jf [19,5,4,1] Z (gc O (B0 := 21000) Z Z Z Z (Cp (s := s) h1 h2 (Small.of hs3) (by omega) hok) (aa Z) Z Z Z Z Z (j4 O Z Z Z Z (js O Z (jf [7,6,5,4,1] Z (jn (ag (ah (j2 O Z Z (jf [24,6,5,4,1] Z (jn (ae O Z Z (fun hc24 => ?_) (fun hc24 => ?_))))))))))))))))
 exact absurd hc24 (by decide)
 refine aj (ah (AOps.heap (bE O Z Z Z Z Z Z Z Z Z Z Z) Z (au ?_)))
 refine js O Z (jf [8,6,5,4,1] Z (aV (AOps.heap (bE O Z Z Z Z Z Z Z Z Z Z Z) Z (au ?_))))
 refine js O Z (jn (ag (ao (aq (X := List Tm × List Nd × List Nd) (fun x => ⟨[(1, eI b), (6, .c (.rs 901 0 x.1.length)), (8, .c (.rs 902 0 x.2.1.length)), (9, .c (.rs 903 0 x.2.2.length))], [(902, cQ x.2.1), (903, cQ x.2.2), (901, aH x.1)]⟩) (fun x => PvI (s.facts ++ [(aR s.goal).1]) x) (fun x => 15 - x.1.length) ((s.facts ++ [(aR s.goal).1]), [], []) (((((aw [25,26,21000] (e' := [(1, _), (6, _), (8, _), (9, _)]) Z Z ⟨Z, Z, Z, Z, trivial⟩ Z).trans (af 25 902 Z Z)).trans (af 26 903 Z Z)).trans (af 21000 901 Z Z))) ?_ (fun x hi => ?_)))))
 exact PvI.zero (kO hs hok)
 refine ao (ah ?_)
 have hlen := hi.f.len; have hla := hi.a; have hlb := hi.b
 refine js O Z (aB O [901] (bin := [aH x.1]) Z Z Z Z (CW (ts := x.1) h1 h2 hi.f) Z Z Z Z Z Z (B0 := 30000) Z Z (ay (Ent.to (e' := [(29, yj (qF x.1)), (1, eI b), (6, .c (.rs 901 0 x.1.length)), (8, .c (.rs 902 0 x.2.1.length)), (9, .c (.rs 903 0 x.2.2.length))]) (H' := [(902, cQ x.2.1), (903, cQ x.2.2), (901, aH x.1)]) ⟨Z, Z, Z, Z, Z, trivial⟩ Z) (j3 O Z Z Z (jf [31,30,1,6,8,9] Z (jl O Z (au ?_))))))
 refine js O Z (jf [10,11,31,1,6,8,9] Z (jo O Z (au ?_)))
 refine jn (ag (ah (j2 O Z Z (jn (ae O Z Z (fun hc33 => ?_) (fun hc33 => ?_))))))
 refine ag (ah ?_)
 obtain ⟨i, hti⟩ := ze (bC hc33)
 rw [lV hti]
 refine js O Z (dk O Z Z (js O Z (jf [36,33,32,10,11,31,1,6,8,9] Z (jn (ae O Z Z (fun hc36 => ?_) (fun hc36 => ?_))))))
 refine ah (j2 O Z Z (jr ?_))
 refine ⟨.inl Z, _, am, _, Z, ?_⟩
 rw [gY hok (hi.none (uh (by have := bC hc36; omega) hti))]
 exact f3
 refine aj (ah (j3 O Z Z Z (jf [39,37,36,33,32,10,11,31,1,6,8,9] Z (AOps.heap (bE O Z Z Z Z Z Z Z Z Z Z Z) Z (ay (Ent.rowLe 40 Z (NLess.cons (ys := []) (y := Nd.cells (dD i)) (.cons .refl (.cons .refl (.cons .refl (.cons (.nil (sz := 1)) (.cons (.nil (sz := 1)) .nil))))) .nil)) (au ?_))))))
 refine au ?_
 refine jf [40,37,36,33,32,10,11,31,1,6,8,9] Z (AOps.heap (aU (own := false) (xs := (x.2.1).map Nd.cells) (ys := [Nd.cells (dD i)]) (zs := (x.2.1 ++ [dD i]).map Nd.cells) (n := (x.2.1 ++ [dD i]).length) O Z Z Z Z Z Z Z Z Z Z Z Z Z Z Z Z (.row Z (bz _).symm) (.whole Z Z (.inr ⟨Z, Z⟩)) (by simp) Z (by simp only [bz, ce, dj, dL, List.length_nil]; omega) (by simp only [bz, ce, dj, dL, List.length_nil]; omega) (by rw [List.map_append]; rfl) (bz _)) Z (au ?_))
 refine au ?_
 refine js O Z (jf [8,36,33,32,10,11,31,1,6,9] Z (aV (j2 O Z Z (AOps.heap (bE O Z Z Z Z Z Z Z Z Z Z Z) Z (au ?_)))))
 refine jf [44,42,8,36,33,32,10,11,31,1,6,9] Z (AOps.heap (aU (own := false) (xs := (x.1).map Tm.cells) (ys := [Tm.cells (aI x.1 (x.1.getD i default)).1]) (zs := (x.1 ++ [(aI x.1 (x.1.getD i default)).1]).map Tm.cells) (n := (x.1 ++ [(aI x.1 (x.1.getD i default)).1]).length) O Z Z Z Z Z Z Z Z Z Z Z Z Z Z Z Z (.row Z (bz _).symm) (.whole Z Z (.inr ⟨Z, Z⟩)) (by simp) Z (by simp only [bz, ce, dj, dL, List.length_nil]; omega) (by simp only [bz, ce, dj, dL, List.length_nil]; omega) (by rw [List.map_append]; rfl) (bz _)) Z (au ?_))
 refine au ?_
 refine js O Z (jf [6,8,36,33,32,10,11,31,1,9] Z (jn (aO ?_)))
 refine ⟨(x.1 ++ [(aI x.1 (x.1.getD i default)).1], x.2.1 ++ [dD i], x.2.2), (((aw [41,903,45] (e' := [(1, _), (6, _), (8, _), (9, _)]) Z Z ⟨Z, Z, Z, Z, trivial⟩ Z).trans (af 41 902 Z Z)).trans (af 45 901 Z Z)), hi.tig (cH hc36) hti, by simp only [ce, dj]; have := cH hc36; omega⟩
 refine aj (ah ?_)
 have htn := zf (cH hc33)
 refine ay (aw [902,903,901] (e' := [(1, _), (6, _), (8, _), (9, _)]) Z Z ⟨Z, Z, Z, Z, trivial⟩ Z) (js O Z (aB O [901] (bin := [aH x.1]) Z Z Z Z (CV (ts := x.1) h1 h2 hi.f) Z Z Z Z Z Z (B0 := 49000) Z Z (ay (Ent.to (e' := [(48, vm (db x.1)), (1, eI b), (6, .c (.rs 901 0 x.1.length)), (8, .c (.rs 902 0 x.2.1.length)), (9, .c (.rs 903 0 x.2.2.length))]) (H' := [(902, cQ x.2.1), (903, cQ x.2.2), (901, aH x.1)]) ⟨Z, Z, Z, Z, Z, trivial⟩ Z) (j4 O Z Z Z Z (js O Z (jf [13,12,1,6,8,9] Z (jn (ag (ah (js O Z (jn (ae O Z Z (fun hc51 => ?_) (fun hc51 => ?_)))))))))))))
 refine ah (js O Z ?_)
 have hrl := (qc hi.f hc51).2
 refine js O Z (jf [53,52,51,13,1,6,8,9] Z (ar O Z Z Z Z (qO (xs := (db x.1).1) h1 h2) (aa Z) Z Z Z Z (B0 := 55000) Z Z (js O Z (jf [55,52,51,13,1,6,8,9] Z (AOps.heap (bE O Z Z Z Z Z Z Z Z Z Z Z) Z (ay (Ent.rowLe 56 Z (NLess.cons (ys := []) (y := Nd.cells (cR (db x.1).1)) (.cons .refl (.cons .refl (.cons .refl (.cons (.nil (sz := 1)) (.cons .refl .nil))))) .nil)) (au ?_)))))))
 refine au ?_
 refine jf [56,52,51,13,1,6,8,9] Z (AOps.heap (aU (own := false) (xs := (x.2.1).map Nd.cells) (ys := [Nd.cells (cR (db x.1).1)]) (zs := (x.2.1 ++ [cR (db x.1).1]).map Nd.cells) (n := (x.2.1 ++ [cR (db x.1).1]).length) O Z Z Z Z Z Z Z Z Z Z Z Z Z Z Z Z (.row Z (bz _).symm) (.whole Z Z (.inr ⟨Z, Z⟩)) (by simp) Z (by simp only [bz, ce, dj, dL, List.length_nil]; omega) (by simp only [bz, ce, dj, dL, List.length_nil]; omega) (by rw [List.map_append]; rfl) (bz _)) Z (au ?_))
 refine au ?_
 refine js O Z (jf [8,51,13,1,6,9] Z (jn (aO (ah (j2 O Z Z (AOps.heap (aU (own := false) (xs := (x.2.1 ++ [cR (db x.1).1]).map Nd.cells) (zs := (x.2.1 ++ [cR (db x.1).1] ++ x.2.2).map Nd.cells) (n := (x.2.1 ++ [cR (db x.1).1] ++ x.2.2).length) O Z Z Z Z Z Z Z Z Z Z Z Z Z Z Z Z (.row Z (bz _).symm) (.whole Z (bz _).symm (.inr ⟨Z, Z⟩)) (by simp) Z (by simp only [bz, ce, dj, dL, List.length_nil]; omega) (by simp only [bz, ce, dj, dL, List.length_nil]; omega) (by rw [← List.map_append]) (bz _)) Z (au ?_)))))))
 refine au ?_
 refine js O Z (jf [8,51,13,1,6,9] Z (jn (ag (ah (js O Z ?_)))))
 have hz := hi.e
 rw [wx (by omega) htn hc51] at hz
 have hpv := lZ (b := b) hok hz.symm
 have hl9 : (x.2.1 ++ [cR (db x.1).1] ++ x.2.2).length ≤ 40 := by simp only [ce, dj]; omega
 refine dk O Z Z (j2 O Z Z (jf [102,8,51,13,1,6,9] Z (jn (ae O Z Z (fun hc102 => ?_) (fun hc102 => ?_)))))
 refine ah (j2 O Z Z (jr ?_))
 refine ⟨.inl Z, _, am, _, Z, ?_⟩
 rw [hpv, if_neg (by have := bC hc102; simpa using this)]
 exact f3
 refine aj (ah (j3 O Z Z Z (jr ?_)))
 refine ⟨.inl Z, _, am, _, Z, ?_⟩
 rw [hpv, if_pos (by have := cH hc102; simpa using this)]
 exact .tup (.cons (.c (.whole Z (by simp))) (.cons (.c .d) .nil))
 refine aj (ah ?_)
 have hrf : (db x.1).2 = false := hc51
 refine ay (aw [902,903,901] (e' := [(1, _), (6, _), (8, _), (9, _)]) Z Z ⟨Z, Z, Z, Z, trivial⟩ Z) (js O Z (aB O [901] (bin := [aH x.1]) Z Z Z Z (CU (ts := x.1) h1 h2 hi.f) Z Z Z Z Z Z (B0 := 61000) Z Z (ay (Ent.to (e' := [(60, yl (qJ x.1)), (1, eI b), (6, .c (.rs 901 0 x.1.length)), (8, .c (.rs 902 0 x.2.1.length)), (9, .c (.rs 903 0 x.2.2.length))]) (H' := [(902, cQ x.2.1), (903, cQ x.2.2), (901, aH x.1)]) ⟨Z, Z, Z, Z, Z, trivial⟩ Z) (j4 O Z Z Z Z (js O Z (jf [64,63,62,61,1,6,8,9] Z (jl O Z (au ?_))))))))
 refine jo O Z (au ?_)
 refine j3 O Z Z Z (jf [17,16,15,14,1,6,8,9] Z (jn (ag (ah (j3 O Z Z Z (jf [67,17,16,15,14,1,6,8,9] Z (az 3 Z Z Z (fun hx => ab hx Z Z Z (V O Z) Z Z ( ab hx Z Z Z (vI O Z Z) Z Z ( ab hx Z Z Z (V O Z) Z Z ( AN.nil)))) Z Z (ac (aL O Z Z Z Z Z) Z Z Z (jf [71,17,16,15,14,1,6,8,9] Z (jn (ae O Z Z (fun hc71 => ?_) (fun hc71 => ?_))))))))))))
 refine ah (j2 O Z Z (jr ?_))
 refine ⟨.inl Z, _, am, _, Z, ?_⟩
 rw [gY hok (hi.none (by rcases DT hc71 with h | h; exact nP hlen htn hrf (zE h); cases hcr : ew x.1 with | none => exact nP hlen htn hrf hcr | some r => exact sD h htn hrf hcr))]
 exact f3
 refine aj (ah ?_)
 obtain ⟨hcT, h14⟩ := B4 hc71
 obtain ⟨r, hcr⟩ := zD hcT
 obtain ⟨hro, hsr⟩ := jK hi.f hcr
 have hTo := dE hsr
 have hrn := hro.n
 rw [mb hcr]
 dsimp only
 refine ay (Ent.freeze 14 (e' := [(14, _), (15, _), (16, _), (1, _), (6, _), (8, _), (9, _)]) Z (.cons Z (.c (.box (cs := Tm.cells (aI x.1 r.tm).1) Z (aE Z))) (fe [15,16,1,6,8,9] Z)) (.skip (.cons Z .row (.cons Z .row (.cons Z .row .nil))))) ?_
 refine ar O Z Z Z Z (vc (t := (aI x.1 r.tm).1) h1 h2 (Small.of hTo)) (aa Z) Z Z Z Z (B0 := 74000) Z Z (j4 O Z Z Z Z (jf [17,14,15,16,1,6,8,9] Z (jn (ag (ah (j2 O Z Z (jn (ae O Z Z (fun hc77 => ?_) (fun hc77 => ?_)))))))))
 refine ah (j2 O Z Z (jr ?_))
 refine ⟨.inl Z, _, am, _, Z, ?_⟩
 rw [gY hok (hi.none (sC hlen htn hrf hcr (by simpa using hc77)))]
 exact f3
 refine aj (ah ?_)
 have hop : (aR (aI x.1 r.tm).1).2 = true := by simpa using hc77
 refine j3 O Z Z Z (jf [80,78,77,76,17,14,15,16,1,6,8,9] Z (AOps.heap (bE O Z Z Z Z Z Z Z Z Z Z Z) Z (ay (Ent.rowLe 81 Z (NLess.cons (ys := []) (y := Nd.cells (c5 (aI x.1 r.tm).1)) (.cons .refl (.cons .refl (.cons .refl (.cons .refl (.cons (.nil (sz := 1)) .nil))))) .nil)) (au ?_))))
 refine au ?_
 refine jf [81,78,77,76,17,14,15,16,1,6,8,9] Z (AOps.heap (aU (own := false) (xs := (x.2.1).map Nd.cells) (ys := [Nd.cells (c5 (aI x.1 r.tm).1)]) (zs := (x.2.1 ++ [c5 (aI x.1 r.tm).1]).map Nd.cells) (n := (x.2.1 ++ [c5 (aI x.1 r.tm).1]).length) O Z Z Z Z Z Z Z Z Z Z Z Z Z Z Z Z (.row Z (bz _).symm) (.whole Z Z (.inr ⟨Z, Z⟩)) (by simp) Z (by simp only [bz, ce, dj, dL, List.length_nil]; omega) (by simp only [bz, ce, dj, dL, List.length_nil]; omega) (by rw [List.map_append]; rfl) (bz _)) Z (au ?_))
 refine au ?_
 refine js O Z (jf [8,77,76,17,14,15,16,1,6,9] Z (aV (ay (aw [82,903,901] (e' := [(14, _), (15, _), (16, _), (1, _), (6, _), (8, _), (9, _)]) Z Z ⟨Z, Z, Z, Z, Z, Z, Z, trivial⟩ Z) (js O Z (jf [83,14,16,1,6,8,9] Z (gc O (B0 := 85000) Z Z Z Z (xk (xs := r.ms) h1 h2) (aa Z) Z Z Z Z Z (js O Z (jf [85,84,14,1,6,8,9] Z (AOps.heap (bA O Z Z Z) Z (au ?_))))))))))
 refine au ?_
 refine jf [86,84,14,1,6,8,9] Z (AOps.heap (cm (zs := (fi r).map fun n => [.int .i64 n]) (n := (fi r).length) O Z Z Z Z Z Z Z Z Z Z Z Z Z Z Z Z (.row Z (bz _).symm) Z Z (by decide) Z (by simp; omega) (by simp; omega) (List.map_append (f := fun n => [D.int .i64 n]) (l₁ := r.ms) (l₂ := [(bk r.tm.xs : Int)])).symm (bz _)) Z (au ?_))
 refine au ?_
 refine ay (Ent.freeze 87 (e' := [(87, _), (14, _), (1, _), (6, _), (8, _), (9, _)]) Z (.cons Z (.c (.row Z (bz _).symm)) (fe [14,1,6,8,9] Z)) (by first | exact .skip (.cons Z .row (.cons Z .row (.cons Z .row .nil))) | exact .cons Z .row (.skip (.cons Z .row (.cons Z .row .nil))) | exact .cons Z .row (.cons Z .row (.skip (.cons Z .row .nil))))) ?_
 refine js O Z (jf [88,14,1,6,8,9] Z (AOps.heap (bE O Z Z Z Z Z Z Z Z Z Z Z) Z (ay (Ent.rowLe 89 Z (NLess.cons (ys := []) (y := Nd.cells (cR (fi r))) (.cons .refl (.cons .refl (.cons .refl (.cons (.nil (sz := 1)) (.cons .refl .nil))))) .nil)) (au ?_))))
 refine au ?_
 refine js O Z (jf [90,89,14,1,6,8,9] Z (AOps.heap (aU (own := false) (xs := [Nd.cells (cR (fi r))]) (ys := (x.2.2).map Nd.cells) (zs := (cR (fi r) :: x.2.2).map Nd.cells) (n := (cR (fi r) :: x.2.2).length) O Z Z Z Z Z Z Z Z Z Z Z Z Z Z Z Z (.row Z Z) (.whole Z (bz _).symm (.inr ⟨Z, Z⟩)) (by simp) Z (by simp only [bz, ce, dj, dL, List.length_nil]; omega) (by simp only [bz, ce, dj, dL, List.length_nil]; omega) Z (bz _)) Z (au ?_)))
 refine au ?_
 refine js O Z (jf [9,14,1,6,8] Z (jn (ak (j2 O Z Z (AOps.heap (bE O Z Z Z Z Z Z Z Z Z Z Z) Z (au ?_))))))
 refine jf [94,92,9,14,1,6,8] Z (AOps.heap (aU (own := false) (xs := (x.1).map Tm.cells) (ys := [Tm.cells (aI x.1 r.tm).1]) (zs := (x.1 ++ [(aI x.1 r.tm).1]).map Tm.cells) (n := (x.1 ++ [(aI x.1 r.tm).1]).length) O Z Z Z Z Z Z Z Z Z Z Z Z Z Z Z Z (.row Z (bz _).symm) (.whole Z Z (.inr ⟨Z, Z⟩)) (by simp) Z (by simp only [bz, ce, dj, dL, List.length_nil]; omega) (by simp only [bz, ce, dj, dL, List.length_nil]; omega) (by rw [List.map_append]; rfl) (bz _)) Z (au ?_))
 refine au ?_
 refine js O Z (jf [6,9,14,1,8] Z (jn ?_))
 refine ⟨(x.1 ++ [(aI x.1 r.tm).1], x.2.1 ++ [c5 (aI x.1 r.tm).1], cR (fi r) :: x.2.2), ((((aw [82,91,95] (e' := [(1, _), (6, _), (8, _), (9, _)]) Z Z ⟨Z, Z, Z, Z, trivial⟩ Z).trans (af 82 902 Z Z)).trans (af 91 903 Z Z)).trans (af 95 901 Z Z)), hi.cut h14 htn hrf hcr hop, by simp only [ce, dj]; omega⟩
theorem Au (hs : dA s = true) (hok : (aR s.goal).2 = false) : MQ h1 h2 100 [ptr s.cells, eI b] [] (Plain (oB (cI s b))) := by
 refine MC.data (jB 104 h1 h2 Tryz.func100 Z Z Z fun O hF => ?_)
 obtain ⟨hs1, hs2, hs3⟩ := gX hs
 refine ah (j2 O Z Z (aV (js O Z (jf [19,5,4,1] Z (ar O Z Z Z Z (Ei (s := s) h1 h2 (Small.of hs3) (by omega)) (aa Z) Z Z Z Z (B0 := 21000) Z Z (j4 O Z Z Z Z (js O Z (jf [7,6,5,4,1] Z (jn (ag (ah (j2 O Z Z (jf [24,6,5,4,1] Z (jn (ae O Z Z (fun hc24 => ?_) (fun hc24 => ?_))))))))))))))))
 refine ah (j2 O Z Z (jr ?_))
 refine ⟨.inl Z, _, am, _, Z, ?_⟩
 rw [ny hok]
 exact f3
 rw [vX, hok] at hc24; cases hc24
theorem CZ {L : Nat} (h1 : 4096 ≤ L) (h2 : L ≤ 1073741824) {s : Sq} {b : Int} (hs : dA s = true) (hb : 1 ≤ b ∧ b ≤ 60) : MC Tryz.prog L 100 [ptr s.cells, eI b] [] (Plain (oB (cI s b))) := by
 cases hok : (aR s.goal).2 with
 | true => exact At h1 h2 hs hb hok
 | false => exact Au h1 h2 hs hok
theorem tw : (⟨0, []⟩ : Tm).zero = true := by decide
theorem zo {i : Nat} (h : i ≤ 19) : rY (dD i) = true := by
 unfold rY j0
 rw [if_neg (show ¬ (3 : Int) = 1 by decide), if_neg (show ¬ (3 : Int) = 2 by decide), if_pos Z, tw, decide_eq_true (show (0 : Int) ≤ (i : Int) by omega), decide_eq_true (show (i : Int) ≤ 19 by omega)]; rfl
theorem zp {t : Tm} (h : t.ok = true) : rY (c5 t) = true := by
 unfold rY
 rw [if_neg (show ¬ (2 : Int) = 1 by decide), if_pos Z, h]; rfl
theorem vO {ms : List Int} (h : ms.all co = true) (hl : ms.length ≤ 20) : rY (cR ms) = true := by
 unfold rY yZ
 rw [if_pos Z, tw, h, decide_eq_true (show (ms.length : Int) ≤ 20 by omega)]; rfl
theorem qd : ∀ {f : Nat} {ts : List Tm} {z : List Nd × List Nd}, Fs ts → hZ f ts = some z → (∀ n ∈ z.1, rY n = true) ∧ (∀ n ∈ z.2, rY n = true)
 | 0, _, _, _, h => by cases h
 | f + 1, ts, z, hf, h => by
  have hlen := hf.len
  rw [hZ] at h
  cases ht : eR ts with
  | some i =>
   rw [ht] at h
   simp only at h
   obtain ⟨_, hi, hs⟩ := jP ht
   split at h
   cases h
   rename_i hl
   obtain ⟨y, hy, rfl⟩ := Option.map_eq_some_iff.1 h
   obtain ⟨q1, q2⟩ := qd (hf.snoc (dE hs) hl) hy
   refine ⟨fun n hn => ?_, q2⟩
   rcases List.mem_cons.1 hn with rfl | hn
   exact zo (by omega)
   exact q1 n hn
  | none =>
   rw [ht] at h
   simp only at h
   split at h
   rename_i hr
   obtain ⟨r1, r2⟩ := qc hf hr
   simp only [eD] at h; subst h
   exact ⟨fun n hn => by rw [List.mem_singleton.1 hn]; exact vO r1 (by omega), fun n hn => by cases hn⟩
   split at h
   cases h
   rename_i r hc
   obtain ⟨c1, c2⟩ := jK hf hc
   split at h
   cases h
   rename_i hl
   split at h
   obtain ⟨y, hy, rfl⟩ := Option.map_eq_some_iff.1 h
   obtain ⟨q1, q2⟩ := qd (hf.snoc (dE c2) hl) hy
   refine ⟨fun n hn => ?_, fun n hn => ?_⟩
   rcases List.mem_cons.1 hn with rfl | hn
   exact zp (dE c2)
   exact q1 n hn
   rcases List.mem_append.1 hn with hn | hn
   exact q2 n hn
   rw [List.mem_singleton.1 hn]
   exact vO (vW c1) (by have := c1.n; simp; omega)
   cases h
theorem xG {s : Sq} {b : Int} (hs : dA s = true) (h : (cI s b).2 = true) : (∀ n ∈ (cI s b).1, rY n = true) ∧ ((cI s b).1.length : Int) ≤ b := by
 cases hok : (aR s.goal).2 with
 | false => rw [ny hok] at h; cases h
 | true =>
  cases hz : eE (s.facts ++ [(aR s.goal).1]) with
  | none => rw [gY hok hz] at h; cases h
  | some z =>
   rw [lZ hok hz] at h ⊢
   obtain ⟨q1, q2⟩ := qd (kO hs hok) hz
   by_cases hl : ((z.1 ++ z.2).length : Int) ≤ b
   rw [if_pos hl]
   exact ⟨fun n hn => by
    rcases List.mem_append.1 hn with hn | hn
    · exact q1 n hn
    · exact q2 n hn, hl⟩
   rw [if_neg hl] at h; cases h
theorem Df {a b : Bool} (h : (bif !a then true else !b) = true) : (a && b) = false := by cases a <;> cases b <;> simp_all
theorem C5 {a b : Bool} (h : (bif !a then true else !b) = false) : a = true ∧ b = true := by cases a <;> cases b <;> simp_all
theorem jL {b : Int} (h : gG b = true) : 1 ≤ b ∧ b ≤ 60 := by simpa [gG] using h
theorem lI {s : Sq} {b : Int} (h1 : dA s = true) (h2 : gG b = true) : fw s b = cI s b := by unfold fw; rw [h1, h2]; rfl
theorem AT {a : Bool} (h : (!a) = true) : a = false := by simpa using h
theorem AC {a : Bool} (h : (!a) = false) : a = true := by simpa using h
theorem qT : MQ h1 h2 57 [eI b] [] (Plain (eB (gG b))) := by
 refine aA ?_ Z
 refine jB 5 h1 h2 Tryz.func57 Z Z Z fun O hF => ?_
 refine ah (js O Z (aV (js O Z (ap O Z Z Z Z (AF h1 h2) (aa Z) Z Z Z Z Z (B0 := 5000) Z (js O Z (jr ?_))))))
 refine ⟨.inl Z, _, am, _, Z, ?_⟩
 rfl
abbrev x4 (s : Sq) (b : Int) : List D := qE (cI s b).1
abbrev yn (ss : List Sq) (b : Int) : B := .row false 1 (ss.map fun s => x4 s b)
theorem tR {ss : List Sq} (h : ss.all dA = true) {i : Nat} (hi : i < ss.length) : dA (ss.getD i default) = true := by rw [ax hi]; exact List.all_eq_true.1 h _ (List.getElem_mem hi)
theorem rG {b : Int} {ss : List Sq} {i : Nat} (h : gm b ss = (ss.take i).map fun s => (cI s b).1) (hi : i ≤ ss.length) : (gm b ss).map qE = (ss.take i).map fun s => x4 s b := by rw [h, List.map_map]; rfl
theorem yP {ss : List Sq} (hs : ss.all dA = true) (hb : 1 ≤ b ∧ b ≤ 60) : MQ h1 h2 58 [lE ss, eI b] [] (Plain (iL (gm b ss))) := by
 refine MC.data (jB 31 h1 h2 Tryz.func58 Z Z Z fun O hF => ?_)
 have hl : ss.length ≤ L := by simpa [As.fact, A.fact, M.fact, D.fact, Ds.fact] using hF.1.1
 refine ah (js O Z (aV (AOps.heap (bE O Z Z Z Z Z Z Z Z Z Z Z) Z (au ?_))))
 refine js O Z (jn (ag (ah (js O Z (jn (ao (aq (X := Nat) (fun i => ⟨[(0, lE ss), (1, eI b), (5, .c (.rs 900 0 i)), (6, eI i)], [(900, yn (ss.take i) b)]⟩) (fun i => i ≤ ss.length ∧ ∀ j (h : j < ss.length), j < i → (cI ss[j] b).2 = true) (fun i => ss.length - i) 0 ((af 9 900 Z Z).trans (Ent.to ⟨Z, Z, Z, Z, trivial⟩ Z)) ?_ (fun i hi => ?_))))))))
 exact ⟨ct _, fun j h hj => absurd hj (Nat.not_lt_zero j)⟩
 refine ag (ah (j2 O Z Z (cu O Z (js O Z (jf [13,0,1,5,6] Z (jn (ae O Z Z (fun hc13 => ?_) (fun hc13 => ?_))))))))
 refine aj (ag (ao (ah ?_)))
 have hil : i < ss.length := by have := bC hc13; omega
 refine j2 O Z Z (iM O Z Z (js O Z (jf [20,19,13,0,1,5,6] Z (ar O Z Z Z Z (CZ (s := ss.getD i default) (b := b) h1 h2 (tR hs hil) hb) (aa Z) Z Z Z Z (B0 := 22000) Z Z (j4 O Z Z Z Z (js O Z (jf [8,7,13,0,1,5,6] Z (jn (ag (ah (j2 O Z Z (jf [25,7,13,0,1,5,6] Z (jn (ae O Z Z (fun hc25 => ?_) (fun hc25 => ?_)))))))))))))))
 refine aO (ah (j2 O Z Z (jr ?_)))
 refine ⟨.inl Z, _, am, _, Z, ?_⟩
 have hst := rG (uB hil hi.2 (AT hc25)) hi.1
 show VR _ _ (.c (.d (.slc 1 ((gm b ss).map qE))))
 rw [hst]
 exact .v (.c (.whole Z (by simp; omega)))
 refine aj (ak (j2 O Z Z (jf [27,26,25,13,0,1,5,6] Z (AOps.heap (bE O Z Z Z Z Z Z Z Z Z Z Z) Z (au ?_)))))
 refine jf [28,26,25,13,0,1,5,6] Z (AOps.heap (aU (own := false) (xs := (ss.take i).map fun s => x4 s b) (ys := [x4 (ss.getD i default) b]) (zs := (ss.take (i + 1)).map fun s => x4 s b) (n := i + 1) O Z Z Z Z Z Z Z Z Z Z Z Z Z Z Z Z (.row Z (by simp; omega)) (.whole Z Z (.inr ⟨Z, Z⟩)) (by simp) Z (by simp; omega) (by simp; omega) (by rw [List.take_succ_eq_append_getElem hil, List.map_append, ax hil]; rfl) (by simp; omega)) Z (au ?_))
 refine js O Z (jf [5,25,13,0,1,6] Z (jn (ak (js O Z (ji O Z (js O Z (jf [6,5,25,13,0,1] Z (jn ?_))))))))
 refine ⟨i + 1, ((aw [29] (e' := [(0, _), (1, _), (5, _), (6, _)]) Z Z ⟨Z, Z, Z, Z, trivial⟩ Z).trans (af 29 900 Z Z)), ⟨by omega, fun j h hj => ?_⟩, by omega⟩
 by_cases e : j = i
 subst e; rw [ax h] at hc25; exact AC hc25
 exact hi.2 j h (by omega)
 refine aO (ah (j2 O Z Z (jr ?_)))
 refine ⟨.inl Z, _, am, _, Z, ?_⟩
 obtain rfl : i = ss.length := by have := cH hc13; omega
 have hst := rG (b := b) (ss := ss) (i := ss.length) (by rw [List.take_length]; exact pr fun j hj => hi.2 j hj hj) (cC _)
 show VR _ _ (.c (.d (.slc 1 ((gm b ss).map qE))))
 rw [hst]
 exact .v (.c (.whole Z (by simp)))
theorem m6 {ss : List Sq} (h : tY ss = true) : ss.all dA = true ∧ ss.length ≤ 60 := by
 unfold tY at h; rw [bP, decide_eq_true_eq] at h; exact ⟨h.1, by omega⟩
end Go.Al
