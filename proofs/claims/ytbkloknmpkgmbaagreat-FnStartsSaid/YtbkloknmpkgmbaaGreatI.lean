/- The functions of the law. -/
import Derived.Test.YtbkloknmpkgmbaaGreatE
import Derived.Test.YtbkloknmpkgmbaaGreatG
import Derived.Test.YtbkloknmpkgmbaaGreatR
set_option linter.unusedVariables false
set_option linter.unusedSimpArgs false
set_option maxRecDepth 10000
set_option maxHeartbeats 4000000
open Go.Proofs
namespace Go.Al
variable {L : Nat} (h1 : 4096 ≤ L) (h2 : L ≤ 1073741824)
theorem jQ {ts : List Tm} {n : Int} (h : bz ts n = true) : ∀ t ∈ ts, t.term = true := by
 unfold bz at h
 cases ha : ts.all Tm.term with
 | true => exact List.all_eq_true.1 ha
 | false => rw [ha] at h; simp at h
theorem nN {s : Sx} (h : s3 s = true) : b9 s.vars 4 = true := by
 unfold s3 at h
 cases ha : b9 s.vars 4 with
 | true => rfl
 | false => rw [ha] at h; simp at h
variable {ts : List Tm}
theorem xA {s : Sx} (h : bz ts 14 = true) (hs : s3 s = true) : MQ h1 h2 54 [b0 ts, wi s] [] (Plain (.tup [eB (gm ts s.vars), eB true])) := by
 refine MC.data (jB 18 h1 h2 Tryz.func54 Z Z Z fun O hF => ?_)
 refine ag (jx O Z (j2 O Z Z (jn (ah (ag (js O Z (aA O Z Z Z Z (te (ts := ts) (n := 14) h1 h2) (ac Z) Z Z Z Z Z (B0 := 8000) Z (j2 O Z Z (jf [9,5,4,3,0,1] Z (ax 3 Z Z Z (fun hx => ab hx Z Z Z (V O Z) Z Z ( bv O hx Z Z Z Z (y9 (s := s) h1 h2) (ac Z) Z Z Z Z Z Z Z (B0 := 12000) Z ( ab hx Z Z Z (V O Z) Z Z ( AN.nil)))) Z Z ?_))))))))))
 first | refine aa (aQ O Z Z Z Z Z) Z Z Z ?_ | refine aa (Val.pickB O Z Z Z Z Z) Z Z Z ?_ | refine aa (ao O Z Z Z Z Z) Z Z Z ?_
 refine jf [13,5,4,3,0,1] Z (jn (af O Z Z (fun hc13 => ?_) (fun hc13 => ?_)))
 exact absurd hc13 (by rw [h, hs]; decide)
 refine an (ag (j3 O Z Z Z (jf [16,14,5,4,3,0,1] Z (aA O Z Z Z Z (xz (ts := ts) (vars := s.vars) h1 h2 (jQ h) (nN hs)) (ac Z) Z Z Z Z Z (B0 := 18000) Z (j2 O Z Z (jf [5,4,3,0,1] Z (jr ?_)))))))
 refine ⟨.inl Z, _, ar, _, Z, ?_⟩
 exact .tup (.cons (.c .d) (.cons (.c .d) .nil))
variable {vars : List Int}
theorem xJ {t : Tm} (h : t.term = true) (hv : b9 vars 4 = true) : MQ h1 h2 14 [cP t, cm vars] [] (Plain (eI (dQ t vars))) := by
 refine aP ?_ Z
 refine jB 35 h1 h2 Tryz.func14 Z Z Z fun O hF => ?_
 have ht := kX h
 have hs := jS hv
 have hlen : t.xs.length ≤ vars.length := by omega
 refine ag (jx O Z (js O Z (bf (j3 O Z Z Z (jf [5,4,2,0,1] Z (jn (ah (ag (js O Z (jn (aw (aE (X := Nat) (fun i => ⟨[(1, cm vars), (2, .c (.pt 2 0 0)), (5, eI (t.c + iY (t.xs.take i) (vars.take i))), (6, eI i)], [(2, .box [.d (.int .i64 t.c), .d (c7 t.xs)])]⟩) (fun i => i ≤ t.xs.length) (fun i => t.xs.length - i) 0 (Ent.to ⟨Z, Z, by show some (eI t.c) = _; simp [iY], Z, trivial⟩ Z) ?_ (fun i hi => ?_)))))))))))))
 exact dm _
 refine ah (ag (j3 O Z Z Z ?_))
 first | refine dn O Z ?_ | refine js O Z ?_ | refine dI O Z Z ?_
 refine j2 O Z Z (jf [14,1,2,5,6] Z (ax 4 Z Z Z (fun hx => ab hx Z Z Z (V O Z) Z Z ( ab hx Z Z Z (V O Z) Z Z ( ab hx Z Z Z (bG O Z Z Z Z Z Z Z Z) Z Z ( ab hx Z Z Z (V O Z) Z Z ( AN.nil))))) Z Z ?_))
 first | refine aa (ao O Z Z Z Z Z) Z Z Z ?_ | refine aa (aQ O Z Z Z Z Z) Z Z Z ?_ | refine aa (Val.pickB O Z Z Z Z Z) Z Z Z ?_
 refine jf [19,1,2,5,6] Z (jn (af O Z Z (fun hc19 => ?_) (fun hc19 => ?_)))
 refine an (ah (aw ?_))
 obtain ⟨hb1, hb2⟩ := ze hc19
 have hi2 := bp hb1
 have hd := mK ht.2.1 hs.1 hi (Nat.le_trans hi hlen)
 have hds := gK (xs := t.xs) (ys := vars) (i := i) (by omega) (by omega)
 have hn := ya.1 ht.1
 have hm := mH (ya.1 (List.all_eq_true.1 ht.2.1 _ (List.getElem_mem (show i < t.xs.length by omega)))) (yd.1 (List.all_eq_true.1 hs.1 _ (List.getElem_mem (show i < vars.length by omega))))
 rw [← aK (show i < t.xs.length by omega), ← aK (show i < vars.length by omega)] at hm
 refine gv O [_,_,_,_,_,_,_,_,_,_,_,_,_] [pn [] 0 0, pn [] 0 0, pn [1] 0 0, pn [] 0 0, pn [1,2,3] 0 0, pn (rg 1 4) 0 0, pn [] 0 0, pn [] 0 0, pn [6,7] 0 0, pn [6,7,8] 0 0, pn (rg 1 9) 0 0, pn (rg 0 11) 0 0, pn (rg 0 12) 0 0] [] [_] (kc O Z (kc O Z (kc O Z (kc O Z (ai (vN O Z) (kc O Z (kc O Z (kc O Z (ai (vN O Z) (kc O Z (ai (aN O Z Z (Int.le_trans (by decide) hm.1) (Int.le_trans hm.2 (by decide))) (ai (aN O Z Z (show (-9223372036854775808 : Int) ≤ t.c + iY (t.xs.take i) (vars.take i) + t.xs.getD i default * vars.getD i default by omega) (show t.c + iY (t.xs.take i) (vars.take i) + t.xs.getD i default * vars.getD i default ≤ 9223372036854775807 by omega)) (kc O Z trivial))))))))))))) ?_
 refine jw [5,19,1,2,6] Z (bQ ?_)
 refine am (js O Z ?_)
 first | refine ji O Z ?_ | refine dI O Z Z ?_
 refine js O Z (jf [6,5,19,1,2] Z (jn ?_))
 refine ⟨i + 1, Ent.to ⟨Z, Z, ?_, Z, trivial⟩ Z, by omega, by omega⟩
 exact congrArg (fun z => some (eI z)) (by rw [hds]; show t.c + iY (t.xs.take i) (vars.take i) + t.xs.getD i default * vars.getD i default = _; omega)
 refine bt (ag (j2 O Z Z (jr ?_)))
 refine ⟨.inl Z, _, ar, _, Z, ?_⟩
 have hn := x3 hc19
 obtain rfl : i = t.xs.length := by
  rcases Nat.lt_or_ge i t.xs.length with hlt | hge
  exact absurd ⟨decide_eq_true (by omega), decide_eq_true (by omega)⟩ hn
  omega
 rw [kI (cz _)]; rfl
theorem xL (ht : ∀ t ∈ ts, t.term = true) (hv : b9 vars 4 = true) : MQ h1 h2 12 [b0 ts, cm vars] [] (Plain (eB (gm ts vars))) := by
 refine aP ?_ Z
 refine jB 19 h1 h2 Tryz.func12 Z Z Z fun O hF => ?_
 have hl : ts.length ≤ L := by have := hF; simp [As.fact, A.fact, M.fact, D.fact, Ds.fact] at this; omega
 refine ag (js O Z (jn (ah (ag (js O Z (jn (aw (aE (X := Nat) (fun i => ⟨[(0, b0 ts), (1, cm vars), (5, eI i)], []⟩) (fun i => i ≤ ts.length ∧ ∀ j, j < i → 0 ≤ dQ (ts.getD j default) vars) (fun i => ts.length - i) 0 (Ent.to ⟨Z, Z, Z, trivial⟩ Z) ?_ (fun i hi => ?_)))))))))
 exact ⟨dm _, fun j hj => absurd hj (Nat.not_lt_zero j)⟩
 refine ah (ag (j2 O Z Z ?_))
 first | refine dn O Z ?_ | refine js O Z ?_ | refine dI O Z Z ?_
 refine js O Z (jf [9,0,1,5] Z (jn (af O Z Z (fun hc9 => ?_) (fun hc9 => ?_))))
 try simp only [bL] at hc9
 refine an (ah (aw (ag (j2 O Z Z ?_))))
 first | refine pD O Z Z ?_ | refine nq O Z Z ?_ | refine dI O Z Z ?_
 refine j2 O Z Z (jf [16,15,9,0,1,5] Z (aA O Z Z Z Z (xJ (t := ts.getD i default) (vars := vars) h1 h2 (kY ht (by omega)) hv) (ac Z) Z Z Z Z Z (B0 := 18000) Z (js O Z (jf [18,9,0,1,5] Z (jn (af O Z Z (fun hc18 => ?_) (fun hc18 => ?_)))))))
 try simp only [bL] at hc18
 refine ag (js O Z (jr ?_))
 refine ⟨.inl Z, _, ar, _, Z, ?_⟩
 rw [mY (i := i) (by omega) (by simpa using hc18)]
 try simp only [bL] at hc18
 refine an (am (js O Z ?_))
 first | refine ji O Z ?_ | refine dI O Z Z ?_
 refine js O Z (jf [5,18,9,0,1] Z (jn ?_))
 refine ⟨i + 1, Ent.to ⟨Z, Z, Z, trivial⟩ Z, ⟨by omega, fun j hj => ?_⟩, by omega⟩
 rcases Nat.lt_or_ge j i with h | h
 exact hi.2 j h
 obtain rfl : j = i := by omega
 have := hc18; simp at this; exact this
 try simp only [bL] at hc9
 refine bt (ag (js O Z (jr ?_)))
 refine ⟨.inl Z, _, ar, _, Z, ?_⟩
 obtain rfl : i = ts.length := by omega
 rw [ld hi.2]
theorem xF {xs ys : List Sq} : MQ h1 h2 24 [th xs, th ys] [] (Plain (eB (decide (xs = ys)))) := by
 refine aP ?_ Z
 refine jB 43 h1 h2 Tryz.func24 Z Z Z fun O hF => ?_
 have hl : xs.length ≤ L := by have := hF; simp [As.fact, A.fact, M.fact, D.fact, Ds.fact] at this; omega
 refine ag (js O Z (jn (ah (ag (js O Z ?_)))))
 first | refine dn O Z ?_ | refine js O Z ?_ | refine dI O Z Z ?_
 refine js O Z ?_
 first | refine dn O Z ?_ | refine js O Z ?_ | refine dI O Z Z ?_
 refine js O Z (jf [10,4,0,1] Z (jn (af O Z Z (fun hc10 => ?_) (fun hc10 => ?_))))
 refine ag (js O Z (jr ?_))
 refine ⟨.inl Z, _, ar, _, Z, ?_⟩
 rw [decide_eq_false (fun e => by rw [e] at hc10; simp at hc10)]
 refine an (ah (ag (js O Z (jn (aw (aE (X := Nat) (fun i => ⟨[(0, th xs), (1, th ys), (5, eI i)], []⟩) (fun i => xs.length = ys.length ∧ i ≤ xs.length ∧ xs.take i = ys.take i) (fun i => xs.length - i) 0 (Ent.to ⟨Z, Z, Z, trivial⟩ Z) ?_ (fun i hi => ?_)))))))
 exact ⟨by have h := hc10; simp at h; omega, dm _, Z⟩
 refine ah (ag (j2 O Z Z ?_))
 first | refine dn O Z ?_ | refine js O Z ?_ | refine dI O Z Z ?_
 refine js O Z (jf [14,0,1,5] Z (jn (af O Z Z (fun hc14 => ?_) (fun hc14 => ?_))))
 refine an (ah (aw (ah ?_)))
 cases hb6 : !decide ((xs.getD i default).goal = (ys.getD i default).goal) with
 | true =>
  have hk : i < xs.length := by have := bp hc14; omega
  have hk2 : i < ys.length := by omega
  refine yh O [_,_,_,_,_,_,_,_,_,_,_,_,_,_,_,_,_,_,_,_,_,_,_,_,_,_] [pn [] 0 0, pn [] 0 0, pn [0,1] 0 0, pn [0,1,2] 0 0, pn (rg 0 4) 0 0, pn [] 0 0, pn [] 0 0, pn [5,6] 0 0, pn [5,6,7] 0 0, pn (rg 5 4) 0 0, pe (rg 0 10) 0, pn (rg 0 11) 1 1, pn (rg 0 12) 1 1, pn (rg 0 13) 0 1, pn (rg 0 13) 0 1, pn (rg 0 15) 0 1, pn (rg 0 16) 0 1, pn (rg 0 17) 0 1, pn (rg 0 13) 0 1, pn (rg 0 13) 0 1, pn (rg 0 13++[18,19]) 0 1, pn (rg 0 13++[18,19,20]) 0 1, pn (rg 0 13++rg 18 4) 0 1, pn (rg 0 23) 0 1, pn (rg 0 24) 0 1, pn (rg 0 25) 1 1] [10] [_,_] (kc O Z (kc O Z (ai (vN O Z) (kc O Z (kc O Z (kc O Z (kc O Z (ai (vN O Z) (kc O Z (kc O Z (ai (c9 O (B0 := 28000) Z Z Z Z (rH h1 h2) (ac Z) Z Z Z Z Z) (ai ((V O Z).cast (v' := eB true) (congrArg eB hb6)) (kc O Z (ai ⟨Z, Z⟩ (ai ⟨Z, Z⟩ (ai ⟨Z, Z⟩ (ai ⟨Z, Z⟩ (ai ⟨Z, Z⟩ (ai ⟨Z, Z⟩ (ai ⟨Z, Z⟩ (ai ⟨Z, Z⟩ (ai ⟨Z, Z⟩ (ai ⟨Z, Z⟩ (ai ⟨Z, Z⟩ (ai ⟨Z, Z⟩ (ai (eT O Z Z Z Z Z) trivial)))))))))))))))))))))))))) ?_
  refine jw [42,14,0,1,5] Z (bQ ?_)
  refine af O Z Z (fun hc42 => ?_) (fun hc42 => ?_)
  refine ag (js O Z (jr ?_))
  refine ⟨.inl Z, _, ar, _, Z, ?_⟩
  rw [decide_eq_false (kA (fun e => by rw [e] at hb6; simp at hb6))]
  cases hc42
 | false =>
  have hk : i < xs.length := by have := bp hc14; omega
  have hk2 : i < ys.length := by omega
  refine yh O [_,_,_,_,_,_,_,_,_,_,_,_,_,_,_,_,_,_,_,_,_,_,_,_,_,_] [pn [] 0 0, pn [] 0 0, pn [0,1] 0 0, pn [0,1,2] 0 0, pn (rg 0 4) 0 0, pn [] 0 0, pn [] 0 0, pn [5,6] 0 0, pn [5,6,7] 0 0, pn (rg 5 4) 0 0, pe (rg 0 10) 0, pn (rg 0 11) 1 1, pn (rg 0 12) 1 1, pn (rg 0 13) 1 1, pn (rg 0 13) 1 1, pn (rg 0 15) 1 1, pn (rg 0 16) 1 1, pn (rg 0 17) 1 1, pn (rg 0 13) 1 1, pn (rg 0 13) 1 1, pn (rg 0 13++[18,19]) 1 1, pn (rg 0 13++[18,19,20]) 1 1, pn (rg 0 13++rg 18 4) 1 1, pe (rg 0 23) 1, pn (rg 0 24) 2 2, pn (rg 0 25) 2 2] [10,23] [_,_,_] (kc O Z (kc O Z (ai (vN O Z) (kc O Z (kc O Z (kc O Z (kc O Z (ai (vN O Z) (kc O Z (kc O Z (ai (c9 O (B0 := 28000) Z Z Z Z (rH h1 h2) (ac Z) Z Z Z Z Z) (ai ((V O Z).cast (v' := eB false) (congrArg eB hb6)) (kc O Z (kc O Z (kc O Z (ai (vN O Z) (kc O Z (kc O Z (kc O Z (kc O Z (ai (vN O Z) (kc O Z (kc O Z (ai (c9 O (B0 := 41000) Z Z Z Z (pT h1 h2) (ac Z) Z Z Z Z Z) (kc O Z (ai (cJ O Z Z Z Z Z) trivial)))))))))))))))))))))))))) ?_
  refine jw [42,14,0,1,5] Z (bQ ?_)
  refine af O Z Z (fun hc42 => ?_) (fun hc42 => ?_)
  refine ag (js O Z (jr ?_))
  refine ⟨.inl Z, _, ar, _, Z, ?_⟩
  rw [decide_eq_false (kA (fun e => by rw [e] at hc42; simp at hc42))]
  refine an (am (js O Z ?_))
  first | refine ji O Z ?_ | refine dI O Z Z ?_
  refine js O Z (jf [5,42,14,0,1] Z (jn ?_))
  have hk : i < xs.length := by have := bp hc14; omega
  refine ⟨i + 1, Ent.to ⟨Z, Z, Z, trivial⟩ Z, ⟨hi.1, by omega, kZ hi.2.2 hk (by omega) (zn.2 ⟨by simpa using hb6, by simpa using hc42⟩)⟩, by omega⟩
 refine bt (ag (js O Z (jr ?_)))
 refine ⟨.inl Z, _, ar, _, Z, ?_⟩
 obtain rfl : i = xs.length := by have := ch hc14; omega
 rw [decide_eq_true (mS hi.1 hi.2.2)]
theorem uW {m n : Nat} (h : n < m) : gp (-1) ((m : Int) - 2) ((n : Int) - 1) = true := by
 unfold gp; simp; omega
variable {p : Pm} {t : Tr} {f : List Tm}
theorem ue {n : Nat} (hp : eD p = true) (htd : qn p.body = t.d) (ht : PtOk p t) (hl : (p.pre :: (cN t).lp.map (·.s.facts)).length ≤ 1000) (hn : n < (p.pre :: (cN t).lp.map (·.s.facts)).length) (hf : (p.pre :: (cN t).lp.map (·.s.facts)).getD n default = f) : MQ h1 h2 19 [fo p, eI ((n : Int) - 1)] [] (Plain (.tup [b0 f, eB true])) := by
 refine MC.data (jB 33 h1 h2 Tryz.func19 Z Z Z fun O hF => ?_)
 refine ag (jx O Z (av ?_))
 refine aj (Ent.freeze 2 (e' := [(2, _), (0, _), (1, _)]) Z (.cons Z (.c (.box (cs := Pm.data p) Z (aI Z))) (fe [0,1] Z)) (.skip .nil)) ?_
 refine av ?_
 refine j2 O Z Z (bf (js O Z (jf [9,5,4,0,1] Z (aq O [] (bin := []) Z Z Z Z (mM (p := p) (t := t) h1 h2 hp htd ht) Z Z Z Z Z Z (B0 := 11000) Z Z (av ?_)))))
 refine j4 O Z Z Z Z (js O Z (jf [7,6,5,4,0,1] Z (jn (ah (ag (j3 O Z Z Z (jf [15,6,5,4,0,1] Z (dS Z (js O Z (dS Z (js O Z (jf [17,15,6,5,4,0,1] Z (dS Z (js O Z (jf [18,15,6,5,4,0,1] Z (dS Z (js O Z (dS Z (aq O [11000,11001,11002,11003] (bin := [iB (mC p t) g0 1 2 3, aB [], aD [], aO (cN t).nm]) Z Z Z Z (ui (E := nn p.body p.post) (SS := (p.pre :: (cN t).lp.map (·.s.facts))) (bd := t.d) (lo := .slc 1 ((cN t).lp.map fun q => [gl q])) (be := .slc 1 (((cN t).lp.map (·.r)).map fun r => [fD r])) (nm := (cN t).nm) (g := g0) (k := (n : Int) - 1) h1 h2 (by simp) hl) Z Z Z Z Z Z (B0 := 21000) Z Z (av ?_))))))))))))))))))))
 refine jf [20,15,6,5,4,0,1] Z (dS Z (js O Z (aa (cJ O Z Z Z Z Z) Z Z Z (jf [22,6,5,4,0,1] Z (jn (af O Z Z (fun hc22 => ?_) (fun hc22 => ?_)))))))
 exact absurd hc22 (by rw [uW hn]; decide)
 refine an (ag (j4 O Z Z Z Z (j2 O Z Z (aa ((aN O Z Z (by omega) (by omega)).cast (v' := eI (n : Nat)) (congrArg eI (by omega))) Z Z Z (aa ((aR O Z Z Z Z Z Z Z Z (c5 hn)).cast (v' := ptr [dP f]) (by rw [hf])) Z Z Z (js O Z (jf [31,6,5,4,0,1] Z (ak O Z Z Z Z (c91 (ts := f) h1 h2) (ac Z) Z Z Z Z (B0 := 33000) Z Z (j2 O Z Z (jf [5,4,6,0,1] Z (jr ?_)))))))))))
 refine ⟨.inl Z, _, ar, _, Z, ?_⟩
 exact .tup (.cons (.c .d) (.cons (.c .d) .nil))
theorem xG {n : Nat} {s : Sx} (hp : eD p = true) (htd : qn p.body = t.d) (ht : PtOk p t) (hl : (p.pre :: (cN t).lp.map (·.s.facts)).length ≤ 1000) (hn : n < (p.pre :: (cN t).lp.map (·.s.facts)).length) (hf : (p.pre :: (cN t).lp.map (·.s.facts)).getD n default = f) (h14 : bz f 14 = true) (hs : s3 s = true) : MQ h1 h2 23 [fo p, eI ((n : Int) - 1), wi s] [] (Plain (.tup [eB (gm f s.vars), eB true])) := by
 refine MC.data (jB 23 h1 h2 Tryz.func23 Z Z Z fun O hF => ?_)
 refine ag (jx O Z (av ?_))
 refine aj (Ent.freeze 3 (e' := [(3, _), (0, _), (1, _), (2, _)]) Z (.cons Z (.c (.box (cs := Pm.data p) Z (aI Z))) (fe [0,1,2] Z)) (.skip .nil)) ?_
 refine av ?_
 refine jf [3,1,2] Z (jx O Z (av ?_))
 refine aj (Ent.freeze 5 (e' := [(5, _), (3, _), (1, _), (2, _)]) Z (.cons Z (.c (.box (cs := Sx.data s) Z (aI Z))) (fe [3,1,2] Z)) (.skip .nil)) ?_
 refine av ?_
 refine j2 O Z Z (bf (j2 O Z Z (jf [12,11,7,6,5,2] Z (ak O Z Z Z Z (ue (p := p) (t := t) (n := n) (f := f) h1 h2 hp htd ht hl hn hf) (ac Z) Z Z Z Z (B0 := 14000) Z Z (j4 O Z Z Z Z (js O Z (jf [9,8,7,6,5,2] Z (jn (ah (ag (j2 O Z Z (jf [17,8,7,6,5,2] Z (jn (af O Z Z (fun hc17 => ?_) (fun hc17 => ?_)))))))))))))))
 exact absurd hc17 (by decide)
 refine an (ag (j2 O Z Z (jf [19,18,7,6,2] Z (ak O Z Z Z Z (xA (ts := f) (s := s) h1 h2 h14 hs) (ac Z) Z Z Z Z (B0 := 21000) Z Z (j4 O Z Z Z Z (jf [7,6,2] Z (jr ?_)))))))
 refine ⟨.inl Z, _, ar, _, Z, ?_⟩
 exact .tup (.cons (.c .d) (.cons (.c .d) .nil))
abbrev aC (q : Lp) : List D := [.int .i64 (q.a : Nat)]
theorem xH (hp : eD p = true) (htd : qn p.body = t.d) (ht : PtOk p t) (hl : (cN t).lp.length ≤ 1000) : MQ h1 h2 16 [fo p] [] (Plain (.tup [.c (.d (.slc 1 ((cN t).lp.map aC))), eB true])) := by
 refine MC.data (jB 34 h1 h2 Tryz.func16 Z Z Z fun O hF => ?_)
 refine ag (jx O Z (av ?_))
 refine aj (Ent.freeze 1 (e' := [(1, _), (0, _)]) Z (.cons Z (.c (.box (cs := Pm.data p) Z (aI Z))) (fe [0] Z)) (.skip .nil)) ?_
 refine av ?_
 refine j2 O Z Z (bf (js O Z (jf [10,3,2,0] Z (aq O [] (bin := []) Z Z Z Z (mM (p := p) (t := t) h1 h2 hp htd ht) Z Z Z Z Z Z (B0 := 12000) Z Z (av ?_)))))
 refine j4 O Z Z Z Z (js O Z (jf [5,4,3,2,0] Z (jn (ah (ag (j2 O Z Z (jf [15,4,3,2,0] Z (jn (af O Z Z (fun hc15 => ?_) (fun hc15 => ?_))))))))))
 exact absurd hc15 (by decide)
 refine an (ag (js O Z (jn (ah (ag (j4 O Z Z Z Z ?_))))))
 first | refine dn O Z ?_ | refine js O Z ?_ | refine dI O Z Z ?_
 refine js O Z (jf [21,20,19,6,3,2,0] Z (jn (aw (aE (X := Nat) (fun i => ⟨[(6, .c (.rs 900 0 i)), (19, .c (.d (.slc 1 ((cN t).lp.map fun q => [gl q])))), (20, eI ((cN t).lp.length : Nat)), (21, eI i)], [(900, .row false 1 (((cN t).lp.take i).map aC))]⟩) (fun i => i ≤ (cN t).lp.length) (fun i => (cN t).lp.length - i) 0 ((dF 6 900 1 false Z Z).trans ((au [900] (e' := [(6, _), (19, _), (20, _), (21, _)]) Z Z ⟨Z, Z, Z, Z, trivial⟩ Z).trans (Ent.to ⟨Z, Z, Z, Z, trivial⟩ Z))) ?_ (fun i hi => ?_)))))
 exact dm _
 refine ag (js O Z (jn (ah (af O Z Z (fun hc22 => ?_) (fun hc22 => ?_)))))
 refine an (ah (aw (ag ?_)))
 have hk : i < (cN t).lp.length := by have := bp hc22; omega
 refine aa ((aR O Z Z Z Z Z Z Z Z (c5 hk)).cast (v' := ptr [gl ((cN t).lp.getD i default)]) Z) Z Z Z (j2 O Z Z (jf [8,22,6,19,20,21] Z (jn (am (j4 O Z Z Z Z (js O Z (jf [29,25,22,6,19,20,21] Z (AOps.heap (bn O Z Z Z Z Z Z Z Z Z Z Z) Z (av ?_)))))))))
 refine jf [30,25,22,6,19,20,21] Z (AOps.heap (bh (own := false) (xs := ((cN t).lp.take i).map aC) (ys := [aC ((cN t).lp.getD i default)]) (zs := ((cN t).lp.take (i + 1)).map aC) (n := i + 1) O Z Z Z Z Z Z Z Z Z Z Z Z Z Z Z Z (.row Z (by simp; omega)) (.whole Z Z (.inr ⟨Z, Z⟩)) (by simp) Z (by simp; omega) (by simp; omega) (by rw [List.take_succ_eq_append_getElem hk, List.map_append, aK hk]; rfl) (by simp; omega)) Z (av ?_))
 refine av ?_
 refine js O Z (jf [6,22,19,20,21] Z (jn (am ?_)))
 first | refine ji O Z ?_ | refine dI O Z Z ?_
 refine js O Z (jn ?_)
 have hk : i < (cN t).lp.length := by have := bp hc22; omega
 refine ⟨i + 1, ((au [31] (e' := [(6, _), (19, _), (20, _), (21, _)]) Z Z ⟨Z, Z, Z, Z, trivial⟩ Z).trans (ae 31 900 Z Z)).trans (Ent.to ⟨Z, Z, Z, Z, trivial⟩ Z), by omega, by omega⟩
 refine bt (ag (j3 O Z Z Z (jr ?_)))
 refine ⟨.inl Z, _, ar, _, Z, ?_⟩
 obtain rfl : i = (cN t).lp.length := by have := ch hc22; omega
 rw [List.take_length]
 exact .tup (.cons (.c (.whole Z (cY _).symm)) (.cons (.c .d) .nil))
end Go.Al
