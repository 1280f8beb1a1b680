/- The program follows paths of code. -/
import Derived.Test.YtikejfdfkemmmaaGreatI
set_option linter.unusedVariables false
set_option linter.unusedSimpArgs false
set_option maxRecDepth 10000
set_option maxHeartbeats 4000000
open Go.Proofs
namespace Go.Al
variable {L : Nat} (h1 : 4096 ≤ L) (h2 : L ≤ 1073741824)
set_option maxHeartbeats 8000000
theorem yh {st : List Tm} : (cJ st).length = st.length - 1 := jZ
theorem A3 {st : List Tm} : (nH st).length = st.length - 2 := by simp only [nH, List.length_take]; omega
theorem wV {L : Nat} (h1 : 4096 ≤ L) (h2 : L ≤ 1073741824) {SS : List (List Tm)} {a : An} {frm : Int} {z0 : Int} {b0 : Bool} {w0 : Pw} {st0 : List Tm} {g0 G : Gs} {N : Nat} (hv : VA' a) (hcl : dF a = true) (hL : 100000 ≤ L)
  (ih : ∀ n, n < N → ∀ {z : Int} {b : Bool} {w : Pw} {st : List Tm} {g : Gs}, FuOk a n z b → (g.bad = false → CW n w st) → (g.bad = false → GC n g) → pf L (bS SS a) frm w st g z b (dL jL a frm n z b w st g))
  (hi0 : CI a frm N G ⟨N, z0, b0, w0, st0, g0⟩) : pf L (bS SS a) frm w0 st0 g0 z0 b0 G := by
 refine aJ 500 Z (MC.keep [500,510,511] (bs := [iB (bS SS a) G 510 511 503, aG G.paths, aH G.conds]) Z Z (jH 232 [500,501,502,503,504,505,506] h1 h2 Tryz.func127 Z Z Z Z fun O hF => ?_))
 refine ch ?_
 refine ac (jx O Z (ao ?_))
 refine jf [4,1,2,3] Z (jx O Z (ao ?_))
 refine jn (am (ap (X := CX) (fun x => ⟨[(2, eI x.z), (3, eB x.b), (4, .c (.pt 4 0 0)), (5, .c (.pt 5 0 0))], [(4, pB 500), (5, iW x.st.length 903 frm x.w 904 905 906), (500, iB (bS SS a) x.g 901 902 503), (901, aG x.g.paths), (902, aH x.g.conds), (903, au x.st), (904, au x.w.vars), (905, au x.w.facts), (906, aD x.w.ev)]⟩) (fun x => CI a frm N G x) (fun x => x.n) ⟨N, z0, b0, w0, st0, g0⟩ ((((((((aw [4,5,500,501,502,503,504,505,506] (e' := [(2, _), (3, _), (4, _), (5, _)]) Z Z ⟨Z, Z, Z, Z, trivial⟩ Z).trans (ag 501 901 Z Z)).trans (ag 502 902 Z Z)).trans (ag 503 903 Z Z)).trans (ag 504 904 Z Z)).trans (ag 505 905 Z Z)).trans (ag 506 906 Z Z)).trans (Ent.to ⟨Z, Z, Z, Z, trivial⟩ Z)) ?_ (fun x hi => ?_)))
 exact hi0
 obtain ⟨n, z, b, w, st, g⟩ := x
 have hci := hi
 obtain ⟨hfu, hle, hN, hw, hg, hG⟩ := hi
 dsimp only at hfu hle hw hg hG
 refine gX (Ent.to (e' := [(2, eI z), (3, eB b), (4, .c (.pt 4 0 0)), (5, .c (.pt 5 0 0))]) (H' := [(4, pB 500), (5, iW st.length 903 frm w 904 905 906), (500, iB (bS SS a) g 901 902 503), (901, aG g.paths), (902, aH g.conds), (903, au st), (904, au w.vars), (905, au w.facts), (906, aD w.ev)]) ⟨Z, Z, Z, Z, trivial⟩ Z) ?_
 obtain ⟨n, rfl⟩ : ∃ m, n = m + 1 := ⟨n - 1, by have := hfu.1; omega⟩
 refine af (ac (j4 O Z Z Z Z (j2 O Z Z (jf [23,2,3,4,5] Z (jn (ab O Z Z (fun hc23 => ?_) (fun hc23 => ?_)))))))
 refine ah (af ?_)
 have hb : g.bad = false := by simpa using hc23
 have hw := hw hb
 have hg := hg hb
 have hgl := hg.lt
 have hgp := hg.paths
 have hst := hw.len
 have hvl := hw.vars
 have hfa := hw.facts
 have hev := hw.ev
 have hsy := hw.sym
 have h80 := hv.ok.len
 have hnp := hv.ok.npost
 cases uG hv.ok.code (z := z) (b := b) (st := st) with
 | out hi =>
  rw [jj hb hi] at hG
  refine am (af (ac (j4 O Z Z Z Z (j2 O Z Z ?_))))
  first | refine bo O Z ?_ | refine js O Z ?_ | refine aU O Z Z ?_
  refine jf [30,24,23,2,3,4,5] Z (ae O Z Z Z Z ((sb (k := z) (n := a.code.length) h1 h2 (by omega)).plain (u := eB (dk a.code.length z)) Z) (aa Z) Z Z Z Z Z (B0 := 32000) Z (js O Z (jf [32,23,2,3,4,5] Z (jn (ab O Z Z (fun hc32 => ?_) (fun hc32 => ?_))))))
  refine ac (j4 O Z Z Z Z (jf [36,32,23,2,3,4,5] Z (jo O Z (ao ?_))))
  refine jr ?_
  rw [← hG, Go.Al.flag_true]
  refine ⟨.inl Z, _, (ag 901 510 Z Z).trans (ag 902 511 Z Z), _, Z, Z, Z⟩
  exact absurd hc32 (by rw [hi]; decide)
 | pt0 hi hp s0 =>
  rw [j0 hb hi hp, show jL.pend frm w st (dC a.pts z) (oV a z) g = cj frm w (dC a.pts z) (oV a z) g from if_pos s0] at hG
  have hin := uS.1 hi
  obtain ⟨k, rfl⟩ : ∃ k : Nat, z = (k : Int) := ⟨z.toNat, by omega⟩
  obtain ⟨x, hx⟩ : ∃ x, a.code.getD k default = x := ⟨_, rfl⟩
  have hxi : aV x = true := by rw [← hx, ar (by omega)]; exact hv.ok.code _ (List.getElem_mem (by omega))
  simp only [bF, Bool.not_eq_true', decide_eq_true_eq] at hp
  obtain ⟨hbf, hp⟩ := hp
  subst hbf
  have hml := na hp
  obtain ⟨m, hm⟩ : ∃ m : Nat, dC a.pts (k : Int) = (m : Int) := ⟨(dC a.pts (k : Int)).toNat, by omega⟩
  rw [hm, Int.toNat_natCast] at hml
  have hfs : oV a (k : Int) = (a.pts.getD m default).fs := by unfold oV; rw [hm, Int.toNat_natCast]
  have hvt := hv.pt hml
  have hl6 := cP (n := 6) hvt.1
  rw [hm, hfs] at hG
  refine am (af (ac (j4 O Z Z Z Z (j2 O Z Z ?_))))
  first | refine bo O Z ?_ | refine js O Z ?_ | refine aU O Z Z ?_
  refine jf [30,24,23,2,3,4,5] Z (ae O Z Z Z Z ((sb (k := (k : Int)) (n := a.code.length) h1 h2 (by omega)).plain (u := eB (dk a.code.length (k : Int))) Z) (aa Z) Z Z Z Z Z (B0 := 32000) Z (js O Z (jf [32,23,2,3,4,5] Z (jn (ab O Z Z (fun hc32 => ?_) (fun hc32 => ?_))))))
  exact absurd hc32 (by rw [hi]; decide)
  refine ah (af (ac (j4 O Z Z Z Z (js O Z (jf [41,40,32,23,2,3,4,5] Z (ae O Z Z Z Z ((nS (a := a) (k := (k : Int)) h1 h2).plain (u := eI (m : Nat)) (congrArg eI hm)) (aa Z) Z Z Z Z Z (B0 := 43000) Z (js O Z (jf [8,32,23,2,3,4,5] Z (aP (j3 O Z Z Z (jf [45,8,32,23,2,3,4,5] Z (aS 2 Z Z Z (fun hx => AN.step hx Z Z Z (V O Z) Z Z ( AN.step hx Z Z Z (V O Z) Z Z ( AN.nil))) Z Z ?_))))))))))))
  first | refine AOps.step (aM O Z Z Z Z Z) Z Z Z ?_ | refine AOps.step (aK O Z Z Z Z Z) Z Z Z ?_ | refine AOps.step (Val.pickB O Z Z Z Z Z) Z Z Z ?_
  refine jf [48,8,32,23,2,3,4,5] Z (jn (ab O Z Z (fun hc48 => ?_) (fun hc48 => ?_)))
  refine af (ac (j2 O Z Z ?_))
  first | refine bo O Z ?_ | refine js O Z ?_ | refine aU O Z Z ?_
  refine js O Z (jf [52,48,8,32,23,2,3,4,5] Z (jn (ab O Z Z (fun hc52 => ?_) (fun hc52 => ?_))))
  exact absurd (aR hc52) (by omega)
  refine ah (af (mb O [_,_,_,_,_,_,_,_,_,_,_,_,_,_] [pn [] 0 0, pn [0] 0 0, pn [0,1] 0 0, pn [] 0 0, pn [] 0 0, pn [4] 0 0, pn [4,5] 0 0, pn [4,5,6] 0 0, pn (rg 4 4) 0 0, pn [] 0 0, pn (rg 4 6) 0 0, pn (rg 4 7) 0 0, pn (rg 4 8) 0 0, pe (rg 0 13) 0] [13] [_,_] [[901,902]] (ka O Z Z (ka O Z Z (ka O Z Z (ka O Z Z (ka O Z Z (ka O Z Z (ka O Z Z (ka O Z Z (ka O Z Z (ka O Z Z (ai (ai (aL O Z Z Z Z Z Z Z Z (cB hml)) Z) (ka O Z Z (ka O Z Z (ai (ai (cv O [500,901,902,903,5,904,905,906] [901,902] (bin := [iB (bS SS a) g 1 2 3, aG g.paths, aH g.conds, au st, iW st.length 3 frm w 5 6 7, au w.vars, au w.facts, aD w.ev]) Z Z Z Z (vW (sn := st.length) (st := st) (c := (bS SS a)) (frm := frm) (g := g) (w := w) (to := (m : Nat)) (fs := (a.pts.getD m default).fs) h1 h2 hw.ctx hw.vars (jq hvt.1) (by omega) (by omega)) Z Z Z Z Z (B0 := 71000) Z Z Z Z Z Z Z) Z) trivial)))))))))))))) ?_))
  refine jw [52,48,8,32,23,2,3,4,5] Z (ch ?_)
  refine iZ ?_
  rw [← hG]
  refine ⟨.inl Z, _, (ag 71009 510 Z Z).trans (ag 71008 511 Z Z), _, Z, Z, Z⟩
  exact absurd hc48 (by simp)
 | ptn hi hp s0 =>
  rw [j0 hb hi hp, show jL.pend frm w st (dC a.pts z) (oV a z) g = g.flag true from if_neg (by omega)] at hG
  have hin := uS.1 hi
  obtain ⟨k, rfl⟩ : ∃ k : Nat, z = (k : Int) := ⟨z.toNat, by omega⟩
  obtain ⟨x, hx⟩ : ∃ x, a.code.getD k default = x := ⟨_, rfl⟩
  have hxi : aV x = true := by rw [← hx, ar (by omega)]; exact hv.ok.code _ (List.getElem_mem (by omega))
  simp only [bF, Bool.not_eq_true', decide_eq_true_eq] at hp
  obtain ⟨hbf, hp⟩ := hp
  subst hbf
  have hml := na hp
  obtain ⟨m, hm⟩ : ∃ m : Nat, dC a.pts (k : Int) = (m : Int) := ⟨(dC a.pts (k : Int)).toNat, by omega⟩
  rw [hm, Int.toNat_natCast] at hml
  have hfs : oV a (k : Int) = (a.pts.getD m default).fs := by unfold oV; rw [hm, Int.toNat_natCast]
  have hvt := hv.pt hml
  have hl6 := cP (n := 6) hvt.1
  refine am (af (ac (j4 O Z Z Z Z (j2 O Z Z ?_))))
  first | refine bo O Z ?_ | refine js O Z ?_ | refine aU O Z Z ?_
  refine jf [30,24,23,2,3,4,5] Z (ae O Z Z Z Z ((sb (k := (k : Int)) (n := a.code.length) h1 h2 (by omega)).plain (u := eB (dk a.code.length (k : Int))) Z) (aa Z) Z Z Z Z Z (B0 := 32000) Z (js O Z (jf [32,23,2,3,4,5] Z (jn (ab O Z Z (fun hc32 => ?_) (fun hc32 => ?_))))))
  exact absurd hc32 (by rw [hi]; decide)
  refine ah (af (ac (j4 O Z Z Z Z (js O Z (jf [41,40,32,23,2,3,4,5] Z (ae O Z Z Z Z ((nS (a := a) (k := (k : Int)) h1 h2).plain (u := eI (m : Nat)) (congrArg eI hm)) (aa Z) Z Z Z Z Z (B0 := 43000) Z (js O Z (jf [8,32,23,2,3,4,5] Z (aP (j3 O Z Z Z (jf [45,8,32,23,2,3,4,5] Z (aS 2 Z Z Z (fun hx => AN.step hx Z Z Z (V O Z) Z Z ( AN.step hx Z Z Z (V O Z) Z Z ( AN.nil))) Z Z ?_))))))))))))
  first | refine AOps.step (aM O Z Z Z Z Z) Z Z Z ?_ | refine AOps.step (aK O Z Z Z Z Z) Z Z Z ?_ | refine AOps.step (Val.pickB O Z Z Z Z Z) Z Z Z ?_
  refine jf [48,8,32,23,2,3,4,5] Z (jn (ab O Z Z (fun hc48 => ?_) (fun hc48 => ?_)))
  refine af (ac (j2 O Z Z ?_))
  first | refine bo O Z ?_ | refine js O Z ?_ | refine aU O Z Z ?_
  refine js O Z (jf [52,48,8,32,23,2,3,4,5] Z (jn (ab O Z Z (fun hc52 => ?_) (fun hc52 => ?_))))
  refine ac (j4 O Z Z Z Z (jf [56,52,48,8,32,23,2,3,4,5] Z (jo O Z (ao ?_))))
  refine jr ?_
  rw [← hG, Go.Al.flag_true]
  refine ⟨.inl Z, _, (ag 901 510 Z Z).trans (ag 902 511 Z Z), _, Z, Z, Z⟩
  exact absurd (bn hc52) (by omega)
  exact absurd hc48 (by simp)
 | halt hi hp hop =>
  rw [gA hb hi hp hop] at hG
  have hin := uS.1 hi
  obtain ⟨k, rfl⟩ : ∃ k : Nat, z = (k : Int) := ⟨z.toNat, by omega⟩
  obtain ⟨x, hx⟩ : ∃ x, a.code.getD k default = x := ⟨_, rfl⟩
  have hxi : aV x = true := by rw [← hx, ar (by omega)]; exact hv.ok.code _ (List.getElem_mem (by omega))
  rw [Int.toNat_natCast, hx] at hop
  refine am (af (ac (j4 O Z Z Z Z (j2 O Z Z ?_))))
  first | refine bo O Z ?_ | refine js O Z ?_ | refine aU O Z Z ?_
  refine jf [30,24,23,2,3,4,5] Z (ae O Z Z Z Z ((sb (k := (k : Int)) (n := a.code.length) h1 h2 (by omega)).plain (u := eB (dk a.code.length (k : Int))) Z) (aa Z) Z Z Z Z Z (B0 := 32000) Z (js O Z (jf [32,23,2,3,4,5] Z (jn (ab O Z Z (fun hc32 => ?_) (fun hc32 => ?_))))))
  exact absurd hc32 (by rw [hi]; decide)
  refine ah (af (ac (j4 O Z Z Z Z (js O Z (jf [41,40,32,23,2,3,4,5] Z (ae O Z Z Z Z ((nS (a := a) (k := (k : Int)) h1 h2).plain (u := eI (dC a.pts (k : Int))) Z) (aa Z) Z Z Z Z Z (B0 := 43000) Z (js O Z (jf [8,32,23,2,3,4,5] Z (aP (j3 O Z Z Z (jf [45,8,32,23,2,3,4,5] Z (aS 2 Z Z Z (fun hx => AN.step hx Z Z Z (V O Z) Z Z ( AN.step hx Z Z Z (V O Z) Z Z ( AN.nil))) Z Z ?_))))))))))))
  first | refine AOps.step (aM O Z Z Z Z Z) Z Z Z ?_ | refine AOps.step (aK O Z Z Z Z Z) Z Z Z ?_ | refine AOps.step (Val.pickB O Z Z Z Z Z) Z Z Z ?_
  refine jf [48,8,32,23,2,3,4,5] Z (jn (ab O Z Z (fun hc48 => ?_) (fun hc48 => ?_)))
  exact absurd hc48 (by rw [eV, hp]; decide)
  refine ah (ac (j4 O Z Z Z Z (j2 O Z Z (AOps.step ((aL O Z Z Z Z Z Z Z Z (cB (by omega))).cast (v' := ptr (In.cells x)) (by rw [hx])) Z Z Z (js O Z (jf [78,48,8,32,23,2,3,4,5] Z (jl O Z (ao ?_))))))))
  refine jo O Z (ao ?_)
  refine aP (js O Z (AOps.step ((az O Z Z (by omega) (by omega)).cast (v' := eI ((k : Int) + 1)) Z) Z Z Z (jf [80,9,78,48,8,32,23,2,3,4,5] Z (jl O Z (ao ?_)))))
  refine jo O Z (ao ?_)
  refine jn (af (ac (j2 O Z Z (jn (am (ac (j2 O Z Z (jn (ab O Z Z (fun hc83 => ?_) (fun hc83 => ?_))))))))))
  exact absurd (aR hc83) (by omega)
  refine ac (j2 O Z Z (jn (ab O Z Z (fun hc90 => ?_) (fun hc90 => ?_))))
  exact absurd (aR hc90) (by omega)
  refine ac (j2 O Z Z (jn (ab O Z Z (fun hc100 => ?_) (fun hc100 => ?_))))
  exact absurd (aR hc100) (by omega)
  refine ac (j2 O Z Z (jn (ab O Z Z (fun hc111 => ?_) (fun hc111 => ?_))))
  exact absurd (aR hc111) (by omega)
  refine ac (j2 O Z Z (jn (ab O Z Z (fun hc129 => ?_) (fun hc129 => ?_))))
  exact absurd (aR hc129) (by omega)
  refine ac (j2 O Z Z (jn (ab O Z Z (fun hc145 => ?_) (fun hc145 => ?_))))
  exact absurd (aR hc145) (by omega)
  refine ac (j2 O Z Z (jn (ab O Z Z (fun hc149 => ?_) (fun hc149 => ?_))))
  exact absurd (aR hc149) (by omega)
  refine ac (j2 O Z Z (jn (ab O Z Z (fun hc169 => ?_) (fun hc169 => ?_))))
  exact absurd (aR hc169) (by omega)
  refine ac (j2 O Z Z (jn (ab O Z Z (fun hc185 => ?_) (fun hc185 => ?_))))
  exact absurd (aR hc185) (by omega)
  refine ac (j2 O Z Z (jn (ab O Z Z (fun hc195 => ?_) (fun hc195 => ?_))))
  exact absurd (aR hc195) (by omega)
  refine ac (j2 O Z Z (jn (ab O Z Z (fun hc204 => ?_) (fun hc204 => ?_))))
  exact absurd (aR hc204) (by omega)
  refine ac (j2 O Z Z (jn (ab O Z Z (fun hc220 => ?_) (fun hc220 => ?_))))
  refine af (mb O [_,_,_,_,_,_,_,_,_] [pn [] 0 0, pn [0] 0 0, pn [0,1] 0 0, pn [] 0 0, pn [3] 0 0, pn [3,4] 0 0, pn [3,4,5] 0 0, pn (rg 3 4) 0 0, pe (rg 0 8) 0] [8] [_,_] [[901,902]] (ka O Z Z (ka O Z Z (ka O Z Z (ka O Z Z (ka O Z Z (ka O Z Z (ka O Z Z (ka O Z Z (ai (ai (cv O [500,901,902,903,5,904,905,906] [901,902] (bin := [iB (bS SS a) g 1 2 3, aG g.paths, aH g.conds, au st, iW st.length 3 frm w 5 6 7, au w.vars, au w.facts, aD w.ev]) Z Z Z Z (vW (sn := st.length) (st := st) (c := (bS SS a)) (frm := frm) (g := g) (w := w) (to := -1) (fs := a.post) h1 h2 hw.ctx hw.vars (jq hv.post) (by omega) (by omega)) Z Z Z Z Z (B0 := 231000) Z Z Z Z Z Z Z) Z) trivial))))))))) ?_)
  refine jw [220,221,204,205,195,196,185,186,169,170,149,150,145,146,129,130,111,112,100,101,90,91,83,84,82,81,10,80,9,78,48,8,32,23,2,3,4,5] Z (ch ?_)
  refine iZ ?_
  rw [← hG]
  refine ⟨.inl Z, _, (ag 231009 510 Z Z).trans (ag 231008 511 Z Z), _, Z, Z, Z⟩
  exact absurd (bn hc220) (by omega)
 | l6 hi hp hop hs =>
  rw [jk hb hi hp hop hs] at hG
  have hin := uS.1 hi
  obtain ⟨k, rfl⟩ : ∃ k : Nat, z = (k : Int) := ⟨z.toNat, by omega⟩
  obtain ⟨x, hx⟩ : ∃ x, a.code.getD k default = x := ⟨_, rfl⟩
  have hxi : aV x = true := by rw [← hx, ar (by omega)]; exact hv.ok.code _ (List.getElem_mem (by omega))
  rw [Int.toNat_natCast, hx] at hop
  refine am (af (ac (j4 O Z Z Z Z (j2 O Z Z ?_))))
  first | refine bo O Z ?_ | refine js O Z ?_ | refine aU O Z Z ?_
  refine jf [30,24,23,2,3,4,5] Z (ae O Z Z Z Z ((sb (k := (k : Int)) (n := a.code.length) h1 h2 (by omega)).plain (u := eB (dk a.code.length (k : Int))) Z) (aa Z) Z Z Z Z Z (B0 := 32000) Z (js O Z (jf [32,23,2,3,4,5] Z (jn (ab O Z Z (fun hc32 => ?_) (fun hc32 => ?_))))))
  exact absurd hc32 (by rw [hi]; decide)
  refine ah (af (ac (j4 O Z Z Z Z (js O Z (jf [41,40,32,23,2,3,4,5] Z (ae O Z Z Z Z ((nS (a := a) (k := (k : Int)) h1 h2).plain (u := eI (dC a.pts (k : Int))) Z) (aa Z) Z Z Z Z Z (B0 := 43000) Z (js O Z (jf [8,32,23,2,3,4,5] Z (aP (j3 O Z Z Z (jf [45,8,32,23,2,3,4,5] Z (aS 2 Z Z Z (fun hx => AN.step hx Z Z Z (V O Z) Z Z ( AN.step hx Z Z Z (V O Z) Z Z ( AN.nil))) Z Z ?_))))))))))))
  first | refine AOps.step (aM O Z Z Z Z Z) Z Z Z ?_ | refine AOps.step (aK O Z Z Z Z Z) Z Z Z ?_ | refine AOps.step (Val.pickB O Z Z Z Z Z) Z Z Z ?_
  refine jf [48,8,32,23,2,3,4,5] Z (jn (ab O Z Z (fun hc48 => ?_) (fun hc48 => ?_)))
  exact absurd hc48 (by rw [eV, hp]; decide)
  refine ah (ac (j4 O Z Z Z Z (j2 O Z Z (AOps.step ((aL O Z Z Z Z Z Z Z Z (cB (by omega))).cast (v' := ptr (In.cells x)) (by rw [hx])) Z Z Z (js O Z (jf [78,48,8,32,23,2,3,4,5] Z (jl O Z (ao ?_))))))))
  refine jo O Z (ao ?_)
  refine aP (js O Z (AOps.step ((az O Z Z (by omega) (by omega)).cast (v' := eI ((k : Int) + 1)) Z) Z Z Z (jf [80,9,78,48,8,32,23,2,3,4,5] Z (jl O Z (ao ?_)))))
  refine jo O Z (ao ?_)
  refine jn (af (ac (j2 O Z Z (jn (am (ac (j2 O Z Z (jn (ab O Z Z (fun hc83 => ?_) (fun hc83 => ?_))))))))))
  exact absurd (aR hc83) (by omega)
  refine ac (j2 O Z Z (jn (ab O Z Z (fun hc90 => ?_) (fun hc90 => ?_))))
  exact absurd (aR hc90) (by omega)
  refine ac (j2 O Z Z (jn (ab O Z Z (fun hc100 => ?_) (fun hc100 => ?_))))
  exact absurd (aR hc100) (by omega)
  refine ac (j2 O Z Z (jn (ab O Z Z (fun hc111 => ?_) (fun hc111 => ?_))))
  exact absurd (aR hc111) (by omega)
  refine ac (j2 O Z Z (jn (ab O Z Z (fun hc129 => ?_) (fun hc129 => ?_))))
  exact absurd (aR hc129) (by omega)
  refine ac (j2 O Z Z (jn (ab O Z Z (fun hc145 => ?_) (fun hc145 => ?_))))
  exact absurd (aR hc145) (by omega)
  refine ac (j2 O Z Z (jn (ab O Z Z (fun hc149 => ?_) (fun hc149 => ?_))))
  refine ac (js O Z (ay O [500,901,902,903,5,904,905,906] (bin := [iB (bS SS a) g 1 2 3, aG g.paths, aH g.conds, au st, iW st.length 3 frm w 5 6 7, au w.vars, au w.facts, aD w.ev]) Z Z Z Z (j1 (c := (bS SS a)) (frm := frm) (g := g) (w := w) (st := st) h1 h2 (by omega)) Z Z Z Z Z Z (B0 := 153000) Z Z (ao ?_)))
  refine AOps.step (bA O Z Z Z Z Z Z Z Z (by simp) Z) Z Z Z (js O Z (jf [154,149,150,145,146,129,130,111,112,100,101,90,91,83,84,82,81,10,80,9,78,48,8,32,23,2,3,4,5] Z (jl O Z (ao ?_))))
  refine jo O Z (ao ?_)
  refine jn (af (ac (j4 O Z Z Z Z (j2 O Z Z (jf [160,16,154,149,150,145,146,129,130,111,112,100,101,90,91,83,84,82,81,10,80,9,78,48,8,32,23,2,3,4,5] Z (jn (ab O Z Z (fun hc160 => ?_) (fun hc160 => ?_))))))))
  exact absurd hc160 (by rw [show (g.flag true).bad = true from cp]; decide)
  refine ah (iZ ?_)
  rw [← hG]
  refine ⟨.inl Z, _, (ag 901 510 Z Z).trans (ag 902 511 Z Z), _, Z, Z, Z⟩
  exact absurd (bn hc149) (by omega)
 | h6 hi hp hop hs =>
  rw [gz hb hi hp hop (by omega)] at hG
  have hin := uS.1 hi
  obtain ⟨k, rfl⟩ : ∃ k : Nat, z = (k : Int) := ⟨z.toNat, by omega⟩
  obtain ⟨x, hx⟩ : ∃ x, a.code.getD k default = x := ⟨_, rfl⟩
  have hxi : aV x = true := by rw [← hx, ar (by omega)]; exact hv.ok.code _ (List.getElem_mem (by omega))
  rw [Int.toNat_natCast, hx] at hop
  rw [Int.toNat_natCast, hx] at hG
  have htg := qN hi (by rw [Int.toNat_natCast, hx]; exact hop)
  rw [Int.toNat_natCast, hx] at htg
  have q1 : GC n (db w (bg st) g) := hg.more (show n + 1 ≤ 100 by omega) Z (fun _ => hb) (Nat.le_add_right _ _)
  have q2 := iJ vn hv (frm := frm) (n := n) (at_ := (k : Int) + 1) (b := false) (w := w.fact (bg st)) (st := cJ st) (by omega) q1
  have hlong : (dL jL a frm n ((k : Int) + 1) false (w.fact (bg st)) (cJ st) (db w (bg st) g)).bad = false → (w.fact (bg st)).long = false := fun hq => by
   cases h9 : (db w (bg st) g).bad with
   | false => exact (lr h9).2
   | true => rw [cb h9, h9] at hq; cases hq
  have htop : (bg st).ok = true := dQ hw.sok
  have hT := fun s2 (es : s2 = cJ st) => (xE (c := (bS SS a)) (g := g) (frm := frm) (w := w) (t := bg st) (st := s2) (d8 := .int .i64 ((k : Int) + 1)) (x := x) (Y := fun u h => dL jL a frm n ((k : Int) + 1) false u s2 h) (N := fun u h => dL jL a frm n x.a false u s2 h) h1 h2 (fun u g h => cb h) (fun u g h => cb h) htop (by omega) (by omega) (by omega) (by rw [es, yh]; omega) (fun hq => zp h1 h2 (by subst es; exact ih n (by omega) (hfu.step hcl hi hp htg.1) (fun _ => hw.test (lr hq).2) (fun _ => q1))) (fun hq => zo h1 h2 (by subst es; exact ih n (by omega) (hfu.step hcl hi hp htg.2) (fun _ => hw.test (by rw [i9 (u := bg st)]; exact hlong hq)) (fun _ => q2.any hq))))
  refine am (af (ac (j4 O Z Z Z Z (j2 O Z Z ?_))))
  first | refine bo O Z ?_ | refine js O Z ?_ | refine aU O Z Z ?_
  refine jf [30,24,23,2,3,4,5] Z (ae O Z Z Z Z ((sb (k := (k : Int)) (n := a.code.length) h1 h2 (by omega)).plain (u := eB (dk a.code.length (k : Int))) Z) (aa Z) Z Z Z Z Z (B0 := 32000) Z (js O Z (jf [32,23,2,3,4,5] Z (jn (ab O Z Z (fun hc32 => ?_) (fun hc32 => ?_))))))
  exact absurd hc32 (by rw [hi]; decide)
  refine ah (af (ac (j4 O Z Z Z Z (js O Z (jf [41,40,32,23,2,3,4,5] Z (ae O Z Z Z Z ((nS (a := a) (k := (k : Int)) h1 h2).plain (u := eI (dC a.pts (k : Int))) Z) (aa Z) Z Z Z Z Z (B0 := 43000) Z (js O Z (jf [8,32,23,2,3,4,5] Z (aP (j3 O Z Z Z (jf [45,8,32,23,2,3,4,5] Z (aS 2 Z Z Z (fun hx => AN.step hx Z Z Z (V O Z) Z Z ( AN.step hx Z Z Z (V O Z) Z Z ( AN.nil))) Z Z ?_))))))))))))
  first | refine AOps.step (aM O Z Z Z Z Z) Z Z Z ?_ | refine AOps.step (aK O Z Z Z Z Z) Z Z Z ?_ | refine AOps.step (Val.pickB O Z Z Z Z Z) Z Z Z ?_
  refine jf [48,8,32,23,2,3,4,5] Z (jn (ab O Z Z (fun hc48 => ?_) (fun hc48 => ?_)))
  exact absurd hc48 (by rw [eV, hp]; decide)
  refine ah (ac (j4 O Z Z Z Z (j2 O Z Z (AOps.step ((aL O Z Z Z Z Z Z Z Z (cB (by omega))).cast (v' := ptr (In.cells x)) (by rw [hx])) Z Z Z (js O Z (jf [78,48,8,32,23,2,3,4,5] Z (jl O Z (ao ?_))))))))
  refine jo O Z (ao ?_)
  refine aP (js O Z (AOps.step ((az O Z Z (by omega) (by omega)).cast (v' := eI ((k : Int) + 1)) Z) Z Z Z (jf [80,9,78,48,8,32,23,2,3,4,5] Z (jl O Z (ao ?_)))))
  refine jo O Z (ao ?_)
  refine jn (af (ac (j2 O Z Z (jn (am (ac (j2 O Z Z (jn (ab O Z Z (fun hc83 => ?_) (fun hc83 => ?_))))))))))
  exact absurd (aR hc83) (by omega)
  refine ac (j2 O Z Z (jn (ab O Z Z (fun hc90 => ?_) (fun hc90 => ?_))))
  exact absurd (aR hc90) (by omega)
  refine ac (j2 O Z Z (jn (ab O Z Z (fun hc100 => ?_) (fun hc100 => ?_))))
  exact absurd (aR hc100) (by omega)
  refine ac (j2 O Z Z (jn (ab O Z Z (fun hc111 => ?_) (fun hc111 => ?_))))
  exact absurd (aR hc111) (by omega)
  refine ac (j2 O Z Z (jn (ab O Z Z (fun hc129 => ?_) (fun hc129 => ?_))))
  exact absurd (aR hc129) (by omega)
  refine ac (j2 O Z Z (jn (ab O Z Z (fun hc145 => ?_) (fun hc145 => ?_))))
  exact absurd (aR hc145) (by omega)
  refine ac (j2 O Z Z (jn (ab O Z Z (fun hc149 => ?_) (fun hc149 => ?_))))
  refine ac (js O Z (ay O [500,901,902,903,5,904,905,906] (bin := [iB (bS SS a) g 1 2 3, aG g.paths, aH g.conds, au st, iW st.length 3 frm w 5 6 7, au w.vars, au w.facts, aD w.ev]) Z Z Z Z (gp (c := (bS SS a)) (frm := frm) (g := g) (w := w) (st := st) (k := 1) h1 h2 hs (by omega)) Z Z Z Z Z Z (B0 := 153000) Z Z (ao ?_)))
  refine js O Z (AOps.step (av O (ex := Tm.cells (bg st)) Z Z Z Z (oW (n := (st.length - 1)) (by omega) (by omega)) Z) Z Z Z (jf [154,149,150,145,146,129,130,111,112,100,101,90,91,83,84,82,81,10,80,9,78,48,8,32,23,2,3,4,5] Z (jl O Z (ao ?_))))
  refine jo O Z (ao ?_)
  refine jn (af (ac (j4 O Z Z Z Z (j2 O Z Z (jf [160,16,154,149,150,145,146,129,130,111,112,100,101,90,91,83,84,82,81,10,80,9,78,48,8,32,23,2,3,4,5] Z (jn (ab O Z Z (fun hc160 => ?_) (fun hc160 => ?_))))))))
  obtain ⟨s2, es⟩ : ∃ s2, s2 = cJ st := ⟨_, rfl⟩
  have hs2 : st.length - 1 = s2.length := by rw [es]; exact yh.symm
  refine gX (Ent.cut 903 (st.length - 1) Z) (ch ?_)
  rw [← List.map_take, show List.take (st.length - 1) st = s2 from es.symm, hs2]
  have hT := hT s2 es
  refine mb O [_,_,_,_,_,_,_,_] [pn [] 0 0, pn [0] 0 0, pn [0,1] 0 0, pn [] 0 0, pn [] 0 0, pn [] 0 0, pn [] 0 0, pe (rg 0 7) 0] [7] [_,_] [[901,902,903,904,905,906]] (ka O Z Z (ka O Z Z (ka O Z Z (ka O Z Z (ka O Z Z (ka O Z Z (ka O Z Z (ai (ai (cv O [500,901,902,903,904,905,906,4,10,9] [901,902,903,904,905,906] (bin := [iB (bS SS a) g 1 2 3, aG g.paths, aH g.conds, au s2, au w.vars, au w.facts, aD w.ev, pB 0, xB (.int .i64 ((k : Int) + 1)), bX x]) Z Z Z Z (hT) Z Z Z Z Z (B0 := 169000) Z Z Z Z Z Z Z) Z) trivial)))))))) ?_
  refine jw [160,16,154,149,150,145,146,129,130,111,112,100,101,90,91,83,84,82,81,10,80,9,78,48,8,32,23,2,3,4,5] Z (ch ?_)
  refine iZ ?_
  subst es
  rw [← hG]
  refine ⟨.inl Z, _, (ag 169010 510 Z Z).trans (ag 169011 511 Z Z), _, Z, Z, Z⟩
  exact absurd hc160 (by rw [hb]; decide)
  exact absurd (bn hc149) (by omega)
 | leaf hi hp h11 h6 hway =>
  have hin := uS.1 hi
  obtain ⟨k, rfl⟩ : ∃ k : Nat, z = (k : Int) := ⟨z.toNat, by omega⟩
  obtain ⟨x, hx⟩ : ∃ x, a.code.getD k default = x := ⟨_, rfl⟩
  have hxi : aV x = true := by rw [← hx, ar (by omega)]; exact hv.ok.code _ (List.getElem_mem (by omega))
  rw [Int.toNat_natCast, hx] at h11 h6 hway
  have hci2 := CI.leaf hcl hxi hci hb hi hp (by rw [Int.toNat_natCast]; exact hx) h11 h6
  have hin1 : x.op = 1 ∨ x.op = 2 → 0 ≤ x.a ∧ x.a ≤ 3 := fun e => by unfold aV at hxi; rw [if_neg (by omega), if_pos e] at hxi; simpa [da] using hxi
  have hin4 : x.op = 4 → num x.a = true := fun e => by unfold aV at hxi; rw [if_pos (.inr e)] at hxi; exact hxi
  refine am (af (ac (j4 O Z Z Z Z (j2 O Z Z ?_))))
  first | refine bo O Z ?_ | refine js O Z ?_ | refine aU O Z Z ?_
  refine jf [30,24,23,2,3,4,5] Z (ae O Z Z Z Z ((sb (k := (k : Int)) (n := a.code.length) h1 h2 (by omega)).plain (u := eB (dk a.code.length (k : Int))) Z) (aa Z) Z Z Z Z Z (B0 := 32000) Z (js O Z (jf [32,23,2,3,4,5] Z (jn (ab O Z Z (fun hc32 => ?_) (fun hc32 => ?_))))))
  exact absurd hc32 (by rw [hi]; decide)
  refine ah (af (ac (j4 O Z Z Z Z (js O Z (jf [41,40,32,23,2,3,4,5] Z (ae O Z Z Z Z ((nS (a := a) (k := (k : Int)) h1 h2).plain (u := eI (dC a.pts (k : Int))) Z) (aa Z) Z Z Z Z Z (B0 := 43000) Z (js O Z (jf [8,32,23,2,3,4,5] Z (aP (j3 O Z Z Z (jf [45,8,32,23,2,3,4,5] Z (aS 2 Z Z Z (fun hx => AN.step hx Z Z Z (V O Z) Z Z ( AN.step hx Z Z Z (V O Z) Z Z ( AN.nil))) Z Z ?_))))))))))))
  first | refine AOps.step (aM O Z Z Z Z Z) Z Z Z ?_ | refine AOps.step (aK O Z Z Z Z Z) Z Z Z ?_ | refine AOps.step (Val.pickB O Z Z Z Z Z) Z Z Z ?_
  refine jf [48,8,32,23,2,3,4,5] Z (jn (ab O Z Z (fun hc48 => ?_) (fun hc48 => ?_)))
  exact absurd hc48 (by rw [eV, hp]; decide)
  refine ah (ac (j4 O Z Z Z Z (j2 O Z Z (AOps.step ((aL O Z Z Z Z Z Z Z Z (cB (by omega))).cast (v' := ptr (In.cells x)) (by rw [hx])) Z Z Z (js O Z (jf [78,48,8,32,23,2,3,4,5] Z (jl O Z (ao ?_))))))))
  refine jo O Z (ao ?_)
  refine aP (js O Z (AOps.step ((az O Z Z (by omega) (by omega)).cast (v' := eI ((k : Int) + 1)) Z) Z Z Z (jf [80,9,78,48,8,32,23,2,3,4,5] Z (jl O Z (ao ?_)))))
  refine jo O Z (ao ?_)
  refine jn (af (ac (j2 O Z Z (jn ?_))))
  obtain ⟨d, ed⟩ : ∃ d, d = cg x w st g := ⟨_, rfl⟩
  refine c6 ⟨[(4, .c (.pt 4 0 0)), (5, .c (.pt 5 0 0)), (10, .c (.pt 10 0 0))], [(4, pB 500), (10, xB (.int .i64 (jJ x (k : Int)))), (5, iW d.st.length 903 frm d.w 904 905 906), (500, iB (bS SS a) d.g 901 902 503), (901, aG d.g.paths), (902, aH d.g.conds), (903, au d.st), (904, au d.w.vars), (905, au d.w.facts), (906, aD d.w.ev)]⟩ ?_ ?_
  cases hway with
  | o0 he =>
   refine am (ac (j2 O Z Z (jn (ab O Z Z (fun hc83 => ?_) (fun hc83 => ?_)))))
   refine aj (j4 O Z Z Z Z (jf [88,85,83,84,82,81,10,80,9,78,48,8,32,23,2,3,4,5] Z (ay O [500,901,902,903,5,904,905,906] (bin := [iB (bS SS a) g 1 2 3, aG g.paths, aH g.conds, au st, iW st.length 3 frm w 5 6 7, au w.vars, au w.facts, aD w.ev]) Z Z Z Z (wU (c := (bS SS a)) (frm := frm) (g := g) (w := w) (st := st) (n := x.a) (ok := true) h1 h2 (by omega)) Z Z Z Z Z Z (B0 := 90000) Z Z (ao ?_))))
   refine jf [83,84,82,81,10,80,9,78,48,8,32,23,2,3,4,5] Z (jn ?_)
   rw [ed, AZ he, show jJ x (k : Int) = (k : Int) + 1 from if_neg (by omega)]
   refine oS ?_
   exact ⟨Z, ((aw [4,10,5,500,901,902,90008,904,905,906] (e' := [(4, _), (5, _), (10, _)]) Z Z ⟨Z, Z, Z, trivial⟩ Z).trans (ag 90008 903 Z Z)).trans (Ent.to ⟨Z, Z, Z, trivial⟩ Z)⟩
   exact absurd (bn hc83) (by omega)
  | o1 he =>
   have hxv := hin1 (.inl he)
   refine am (ac (j2 O Z Z (jn (ab O Z Z (fun hc83 => ?_) (fun hc83 => ?_)))))
   exact absurd (aR hc83) (by omega)
   refine ac (j2 O Z Z (jn (ab O Z Z (fun hc90 => ?_) (fun hc90 => ?_))))
   refine fI O [_,_,_,_,_,_,_,_] [pn [] 0 0, pn [] 0 0, pn [1] 0 0, pn [] 0 0, pn [3] 0 0, pn (rg 1 4) 0 0, pn (rg 1 5) 0 0, pe (rg 0 7) 0] [7] [_,_] (kc O Z (kc O Z (kc O Z (kc O Z (kc O Z (ai (vI O Z Z) (ai (av O (ex := Tm.cells (w.vars.getD x.a.toNat default)) Z Z Z Z (oW (by omega) (by omega)) Z) (ai (bR O [500,901,902,903,5,904,905,906] (bin := [iB (bS SS a) g 1 2 3, aG g.paths, aH g.conds, au st, iW st.length 3 frm w 5 6 7, au w.vars, au w.facts, aD w.ev]) Z Z Z Z (k8 (c := (bS SS a)) (frm := frm) (g := g) (w := w) (st := st) (t := w.vars.getD x.a.toNat tz) (ok := true) h1 h2 (by omega)) Z Z Z Z Z (B0 := 100000) Z Z Z Z Z Z) trivial)))))))) ?_
   rw [ed, AY he, show jJ x (k : Int) = (k : Int) + 1 from if_neg (by omega)]
   refine oS ?_
   exact ⟨Z, ((aw [4,10,5,500,901,902,100008,904,905,906] (e' := [(4, _), (5, _), (10, _)]) Z Z ⟨Z, Z, Z, trivial⟩ Z).trans (ag 100008 903 Z Z)).trans (Ent.to ⟨Z, Z, Z, trivial⟩ Z)⟩
   exact absurd (bn hc90) (by omega)
  | l2 he hs =>
   have hxv := hin1 (.inr he)
   refine am (ac (j2 O Z Z (jn (ab O Z Z (fun hc83 => ?_) (fun hc83 => ?_)))))
   exact absurd (aR hc83) (by omega)
   refine ac (j2 O Z Z (jn (ab O Z Z (fun hc90 => ?_) (fun hc90 => ?_))))
   exact absurd (aR hc90) (by omega)
   refine ac (j2 O Z Z (jn (ab O Z Z (fun hc100 => ?_) (fun hc100 => ?_))))
   refine fI O [_,_,_,_,_,_,_,_,_,_] [pn [] 0 1, pn [0] 0 1, pn [] 0 1, pn [2] 0 1, pn [] 0 0, pe [4] 0, pn [4,5] 1 1, pn [4,5,6] 1 1, pn (rg 0 8) 1 1, pe (rg 0 9) 1] [5,9] [_,_,_] (ai (kc O Z (V O Z)) (ai (kc O Z (V O Z)) (ai (kc O Z (V O Z)) (ai (kc O Z (V O Z)) (kc O Z (ai (bR O [500,901,902,903,5,904,905,906] (bin := [iB (bS SS a) g 1 2 3, aG g.paths, aH g.conds, au st, iW st.length 3 frm w 5 6 7, au w.vars, au w.facts, aD w.ev]) Z Z Z Z (j1 (c := (bS SS a)) (frm := frm) (g := g) (w := w) (st := st) h1 h2 (by omega)) Z Z Z Z Z (B0 := 108000) Z Z Z Z Z Z) (ai (bA O Z Z Z Z Z Z Z Z (by simp) Z) (kc O Z (ai (vI O Z Z) (ai (cI (ex := Tm.cells (w.vars.getD x.a.toNat default)) (xs' := (w.vars.set x.a.toNat tz).map Tm.cells) O Z Z Z Z Z Z Z Z Z Z Z Z Z Z Z (oW (by omega) (by omega)) (Aa (v := tz) (by omega) Z) Z) trivial)))))))))) ?_
   rw [ed, ye he, (sa (g := g) hs).1, (sa (g := g) hs).2.1, (sa (g := g) hs).2.2, show jJ x (k : Int) = (k : Int) + 1 from if_neg (by omega)]
   refine oS ?_
   exact ⟨Z, (aw [4,10,5,500,901,902,903,904,905,906] (e' := [(4, _), (5, _), (10, _)]) Z Z ⟨Z, Z, Z, trivial⟩ Z).trans (Ent.to ⟨Z, Z, Z, trivial⟩ (by simp only [Pw.set, iW, List.length_set]; rfl))⟩
   exact absurd (bn hc100) (by omega)
  | h2 he hs =>
   have hxv := hin1 (.inr he)
   refine am (ac (j2 O Z Z (jn (ab O Z Z (fun hc83 => ?_) (fun hc83 => ?_)))))
   exact absurd (aR hc83) (by omega)
   refine ac (j2 O Z Z (jn (ab O Z Z (fun hc90 => ?_) (fun hc90 => ?_))))
   exact absurd (aR hc90) (by omega)
   refine ac (j2 O Z Z (jn (ab O Z Z (fun hc100 => ?_) (fun hc100 => ?_))))
   refine fI O [_,_,_,_,_,_,_,_,_,_] [pn [] 0 1, pn [0] 0 1, pn [] 0 1, pn [2] 0 1, pn [] 0 0, pe [4] 0, pn [4,5] 1 1, pn [4,5,6] 1 1, pn (rg 0 8) 1 1, pe (rg 0 9) 1] [5,9] [_,_,_] (ai (kc O Z (V O Z)) (ai (kc O Z (V O Z)) (ai (kc O Z (V O Z)) (ai (kc O Z (V O Z)) (kc O Z (ai (bR O [500,901,902,903,5,904,905,906] (bin := [iB (bS SS a) g 1 2 3, aG g.paths, aH g.conds, au st, iW st.length 3 frm w 5 6 7, au w.vars, au w.facts, aD w.ev]) Z Z Z Z (gp (c := (bS SS a)) (frm := frm) (g := g) (w := w) (st := st) (k := 1) h1 h2 hs (by omega)) Z Z Z Z Z (B0 := 108000) Z Z Z Z Z Z) (kc O Z (ai (av O (ex := Tm.cells (bg st)) Z Z Z Z (oW (n := (st.length - 1)) (by omega) (by omega)) Z) (ai (vI O Z Z) (ai (cI (ex := Tm.cells (w.vars.getD x.a.toNat default)) (xs' := (w.vars.set x.a.toNat (bg st)).map Tm.cells) O Z Z Z Z Z Z Z Z Z Z Z Z Z Z Z (oW (by omega) (by omega)) (Aa (v := (bg st)) (by omega) Z) Z) trivial)))))))))) ?_
   rw [ed, ye he, (kM (g := g) hs).1, (kM (g := g) hs).2.1, (kM (g := g) hs).2.2, show jJ x (k : Int) = (k : Int) + 1 from if_neg (by omega)]
   refine oS ?_
   exact ⟨Z, (Ent.cut 903 (st.length - 1) Z).trans ((aw [4,10,5,500,901,902,903,904,905,906] (e' := [(4, _), (5, _), (10, _)]) Z Z ⟨Z, Z, Z, trivial⟩ Z).trans (Ent.to ⟨Z, Z, Z, trivial⟩ (by rw [← List.map_take, show (cJ st).length = st.length - 1 from yh]; simp only [Pw.set, iW, List.length_set]; rfl)))⟩
   exact absurd (bn hc100) (by omega)
  | l3 he hs =>
   refine am (ac (j2 O Z Z (jn (ab O Z Z (fun hc83 => ?_) (fun hc83 => ?_)))))
   exact absurd (aR hc83) (by omega)
   refine ac (j2 O Z Z (jn (ab O Z Z (fun hc90 => ?_) (fun hc90 => ?_))))
   exact absurd (aR hc90) (by omega)
   refine ac (j2 O Z Z (jn (ab O Z Z (fun hc100 => ?_) (fun hc100 => ?_))))
   exact absurd (aR hc100) (by omega)
   refine ac (j2 O Z Z (jn (ab O Z Z (fun hc111 => ?_) (fun hc111 => ?_))))
   refine ac (js O Z (ay O [500,901,902,903,5,904,905,906] (bin := [iB (bS SS a) g 1 2 3, aG g.paths, aH g.conds, au st, iW st.length 3 frm w 5 6 7, au w.vars, au w.facts, aD w.ev]) Z Z Z Z (tj (c := (bS SS a)) (frm := frm) (g := g) (w := w) (st := st) h1 h2 (by omega)) Z Z Z Z Z Z (B0 := 115000) Z Z (ao ?_)))
   refine js O Z (jf [11,111,112,100,101,90,91,83,84,82,81,10,80,9,78,48,8,32,23,2,3,4,5] Z (jn (af (rx O [_,_,_,_,_,_,_,_,_,_,_,_,_] [pn [] 0 0, pn [0] 0 0, pn [0,1] 0 0, pn [] 0 0, pn [3] 0 0, pn [3,4] 0 0, pe [0,1,2,3,4,5] 0, pn [0,1,2,3,4,5,6] 1 1, pn [0,1,2,3,4,5,6,7] 1 1, pn [0,1,2,3,4,5,6,7] 1 2, pn [] 0 1, pe [0,1,2,3,4,5,6,7,8,10] 1, pn [0,1,2,3,4,5,6,7,8,9,10,11] 2 2] [6,11] 10 12 (.box [.d (.int .i64 0), .d .nils]) [_,_] [_] [[], []] (kf O Z Z Z (ai (ai (aE (bA O Z Z Z Z Z Z Z Z (by simp) Z) (bA O Z Z Z Z Z Z Z Z (by simp) Z)) Z) (kf O Z Z Z (kf O Z Z Z (ai (ai (aE (bA O Z Z Z Z Z Z Z Z (by simp) Z) (bA O Z Z Z Z Z Z Z Z (by simp) Z)) Z) (kf O Z Z Z (ai (ai (aE (aT (aC O (B0 := 123000) Z Z Z Z (qB (u := tz) (t := tz) h1 h2 gm gm) (aa Z) Z Z Z Z Z)) (aT (aC O (B0 := 123000) Z Z Z Z (qB (u := tz) (t := tz) h1 h2 gm gm) (aa Z) Z Z Z Z Z))) Z) (kf O Z Z Z (kf O Z Z Z (ai (kf O Z Z Z (kg O Z Z Z)) (ai (ai (ai (aT (Eff.alloc O Z Z Z Z Z Z)) Z) (ai (aT (Eff.alloc O Z Z Z Z Z Z)) Z)) (ai (ai (aE trivial (aT (eS O Z Z Z))) Z) (ai (ai (aE trivial (V O Z)) Z) trivial))))))))))))) ?_))))
   refine jw [13,12,111,112,100,101,90,91,83,84,82,81,10,80,9,78,48,8,32,23,2,3,4,5] Z (ch ?_)
   refine aj (j3 O Z Z Z (jf [127,126,125,12,111,112,100,101,90,91,83,84,82,81,10,80,9,78,48,8,32,23,2,3,4,5] Z (ay O [500,901,902,903,5,904,905,906] (bin := [iB (bS SS a) (g.flag true) 1 2 3, aG (g.flag true).paths, aH (g.flag true).conds, au st, iW st.length 3 frm w 5 6 7, au w.vars, au w.facts, aD w.ev]) Z Z Z Z (k8 (c := (bS SS a)) (frm := frm) (g := (g.flag true)) (w := w) (st := st) (t := (eg tz tz).1) (ok := (eg tz tz).2) h1 h2 (by omega)) Z Z Z Z Z Z (B0 := 129000) Z Z (ao ?_))))
   refine jf [12,111,112,100,101,90,91,83,84,82,81,10,80,9,78,48,8,32,23,2,3,4,5] Z (jn ?_)
   rw [ed, yd he, (wg (g := g) hs).1, (wg (g := g) hs).2.1, (wg (g := g) hs).2.2.1, (wg (g := g) hs).2.2.2, show jJ x (k : Int) = (k : Int) + 1 from if_neg (by omega)]
   refine oS ?_
   exact ⟨Z, ((aw [4,10,5,500,901,902,129008,904,905,906] (e' := [(4, _), (5, _), (10, _)]) Z Z ⟨Z, Z, Z, trivial⟩ Z).trans (ag 129008 903 Z Z)).trans (Ent.to ⟨Z, Z, Z, trivial⟩ Z)⟩
   exact absurd (bn hc111) (by omega)
  | h3 he hs =>
   have htop : (bg st).ok = true := dQ hw.sok
   have hund : (jK st).ok = true := dQ hw.sok
   refine am (ac (j2 O Z Z (jn (ab O Z Z (fun hc83 => ?_) (fun hc83 => ?_)))))
   exact absurd (aR hc83) (by omega)
   refine ac (j2 O Z Z (jn (ab O Z Z (fun hc90 => ?_) (fun hc90 => ?_))))
   exact absurd (aR hc90) (by omega)
   refine ac (j2 O Z Z (jn (ab O Z Z (fun hc100 => ?_) (fun hc100 => ?_))))
   exact absurd (aR hc100) (by omega)
   refine ac (j2 O Z Z (jn (ab O Z Z (fun hc111 => ?_) (fun hc111 => ?_))))
   refine ac (js O Z (ay O [500,901,902,903,5,904,905,906] (bin := [iB (bS SS a) g 1 2 3, aG g.paths, aH g.conds, au st, iW st.length 3 frm w 5 6 7, au w.vars, au w.facts, aD w.ev]) Z Z Z Z (gp (c := (bS SS a)) (frm := frm) (g := g) (w := w) (st := st) (k := 2) h1 h2 hs (by omega)) Z Z Z Z Z Z (B0 := 115000) Z Z (ao ?_)))
   refine js O Z (jf [11,111,112,100,101,90,91,83,84,82,81,10,80,9,78,48,8,32,23,2,3,4,5] Z (jn (af (rx O [_,_,_,_,_,_,_,_,_,_,_,_,_] [pn [] 0 0, pn [0] 0 0, pn [0,1] 0 0, pn [] 0 0, pn [3] 0 0, pn [3,4] 0 0, pe [0,1,2,3,4,5] 0, pn [0,1,2,3,4,5,6] 1 1, pn [0,1,2,3,4,5,6,7] 1 1, pn [0,1,2,3,4,5,6,7] 1 2, pn [] 0 1, pe [0,1,2,3,4,5,6,7,8,10] 1, pn [0,1,2,3,4,5,6,7,8,9,10,11] 2 2] [6,11] 10 12 (.box [.d (.int .i64 0), .d .nils]) [_,_] [_] [[], []] (kf O Z Z Z (kf O Z Z Z (ai (ai (aE (av O (ex := Tm.cells (jK st)) Z Z Z Z (oW (n := (st.length - 2)) (by omega) (by omega)) Z) (av O (ex := Tm.cells (jK st)) Z Z Z Z (oW (n := (st.length - 2)) (by omega) (by omega)) Z)) Z) (kf O Z Z Z (kf O Z Z Z (ai (ai (aE (av O (ex := Tm.cells (bg st)) Z Z Z Z (oW (n := (st.length - 1)) (by omega) (by omega)) Z) (av O (ex := Tm.cells (bg st)) Z Z Z Z (oW (n := (st.length - 1)) (by omega) (by omega)) Z)) Z) (ai (ai (aE (aT (aC O (B0 := 123000) Z Z Z Z (qB (u := (jK st)) (t := (bg st)) h1 h2 hund htop) (aa Z) Z Z Z Z Z)) (aT (aC O (B0 := 123000) Z Z Z Z (qB (u := (jK st)) (t := (bg st)) h1 h2 hund htop) (aa Z) Z Z Z Z Z))) Z) (kf O Z Z Z (kf O Z Z Z (ai (kf O Z Z Z (kg O Z Z Z)) (ai (ai (ai (aT (Eff.alloc O Z Z Z Z Z Z)) Z) (ai (aT (Eff.alloc O Z Z Z Z Z Z)) Z)) (ai (ai (aE trivial (aT (eS O Z Z Z))) Z) (ai (ai (aE trivial (V O Z)) Z) trivial))))))))))))) ?_))))
   refine jw [13,12,111,112,100,101,90,91,83,84,82,81,10,80,9,78,48,8,32,23,2,3,4,5] Z (ch ?_)
   refine aj ?_
   obtain ⟨s2, es⟩ : ∃ s2, s2 = nH st := ⟨_, rfl⟩
   have hs2 : st.length - 2 = s2.length := by rw [es]; exact A3.symm
   refine AOps.to (Ent.cut 903 (st.length - 2) Z) (ao ?_)
   rw [← List.map_take, show List.take (st.length - 2) st = s2 from es.symm, hs2]
   refine j3 O Z Z Z (jf [127,126,125,12,111,112,100,101,90,91,83,84,82,81,10,80,9,78,48,8,32,23,2,3,4,5] Z (ay O [500,901,902,903,5,904,905,906] (bin := [iB (bS SS a) g 1 2 3, aG g.paths, aH g.conds, au s2, iW s2.length 3 frm w 5 6 7, au w.vars, au w.facts, aD w.ev]) Z Z Z Z (k8 (c := (bS SS a)) (frm := frm) (g := g) (w := w) (st := s2) (t := (eg (jK st) (bg st)).1) (ok := (eg (jK st) (bg st)).2) h1 h2 (by omega)) Z Z Z Z Z Z (B0 := 129000) Z Z (ao ?_)))
   refine jf [12,111,112,100,101,90,91,83,84,82,81,10,80,9,78,48,8,32,23,2,3,4,5] Z (jn ?_)
   subst es
   rw [ed, yd he, (jM (g := g) hs).1, (jM (g := g) hs).2.1, (jM (g := g) hs).2.2.1, (jM (g := g) hs).2.2.2, show jJ x (k : Int) = (k : Int) + 1 from if_neg (by omega)]
   refine oS ?_
   exact ⟨Z, ((aw [4,10,5,500,901,902,129008,904,905,906] (e' := [(4, _), (5, _), (10, _)]) Z Z ⟨Z, Z, Z, trivial⟩ Z).trans (ag 129008 903 Z Z)).trans (Ent.to ⟨Z, Z, Z, trivial⟩ Z)⟩
   exact absurd (bn hc111) (by omega)
  | l4 he hs =>
   have hxn := hin4 he
   refine am (ac (j2 O Z Z (jn (ab O Z Z (fun hc83 => ?_) (fun hc83 => ?_)))))
   exact absurd (aR hc83) (by omega)
   refine ac (j2 O Z Z (jn (ab O Z Z (fun hc90 => ?_) (fun hc90 => ?_))))
   exact absurd (aR hc90) (by omega)
   refine ac (j2 O Z Z (jn (ab O Z Z (fun hc100 => ?_) (fun hc100 => ?_))))
   exact absurd (aR hc100) (by omega)
   refine ac (j2 O Z Z (jn (ab O Z Z (fun hc111 => ?_) (fun hc111 => ?_))))
   exact absurd (aR hc111) (by omega)
   refine ac (j2 O Z Z (jn (ab O Z Z (fun hc129 => ?_) (fun hc129 => ?_))))
   refine af (rx O [_,_,_,_,_,_,_,_,_,_,_,_,_] [pn [] 0 0, pe [0] 0, pn [0,1] 1 1, pn [0,1,2] 1 1, pn [] 0 1, pn [4] 0 1, pe [0,1,2,3,4,5] 1, pn [0,1,2,3,4,5,6] 2 2, pn [0,1,2,3,4,5,6,7] 2 2, pn [0,1,2,3,4,5,6,7] 2 3, pn [] 0 2, pe [0,1,2,3,4,5,6,7,8,10] 2, pn [0,1,2,3,4,5,6,7,8,9,10,11] 3 3] [1,6,11] 10 14 (.box [.d (.int .i64 0), .d .nils]) [_,_,_] [_] [[], [], []] (kf O Z Z Z (ai (ai (aE (aT (bR O [500,901,902,903,5,904,905,906] (bin := [iB (bS SS a) g 1 2 3, aG g.paths, aH g.conds, au st, iW st.length 3 frm w 5 6 7, au w.vars, au w.facts, aD w.ev]) Z Z Z Z (j1 (c := (bS SS a)) (frm := frm) (g := g) (w := w) (st := st) h1 h2 (by omega)) Z Z Z Z Z (B0 := 134000) Z Z Z Z Z Z)) (aT (bR O [500,901,902,903,5,904,905,906] (bin := [iB (bS SS a) g 1 2 3, aG g.paths, aH g.conds, au st, iW st.length 3 frm w 5 6 7, au w.vars, au w.facts, aD w.ev]) Z Z Z Z (j1 (c := (bS SS a)) (frm := frm) (g := g) (w := w) (st := st) h1 h2 (by omega)) Z Z Z Z Z (B0 := 134000) Z Z Z Z Z Z))) Z) (ai (ai (aE (bA O Z Z Z Z Z Z Z Z (by simp) Z) (bA O Z Z Z Z Z Z Z Z (by simp) Z)) Z) (kf O Z Z Z (ai (kf O Z Z Z (kg O Z Z Z)) (ai (kf O Z Z Z (kg O Z Z Z)) (ai (ai (aE (aT (aC O (B0 := 139000) Z Z Z Z (qA (t := tz) (n := x.a) h1 h2 gm hxn) (aa Z) Z Z Z Z Z)) (aT (aC O (B0 := 139000) Z Z Z Z (qA (t := tz) (n := x.a) h1 h2 gm hxn) (aa Z) Z Z Z Z Z))) Z) (kf O Z Z Z (kf O Z Z Z (ai (kf O Z Z Z (kg O Z Z Z)) (ai (ai (ai (aT (Eff.alloc O Z Z Z Z Z Z)) Z) (ai (ai (aT (Eff.alloc O Z Z Z Z Z Z)) Z) (ai (aT (Eff.alloc O Z Z Z Z Z Z)) Z))) (ai (ai (aE trivial (aT (eS O Z Z Z))) Z) (ai (ai (aE trivial (V O Z)) Z) trivial))))))))))))) ?_)
   refine jw [15,14,129,130,111,112,100,101,90,91,83,84,82,81,10,80,9,78,48,8,32,23,2,3,4,5] Z (ch ?_)
   refine aj (j3 O Z Z Z (jf [143,142,141,14,129,130,111,112,100,101,90,91,83,84,82,81,10,80,9,78,48,8,32,23,2,3,4,5] Z (ay O [500,901,902,903,5,904,905,906] (bin := [iB (bS SS a) (g.flag true) 1 2 3, aG (g.flag true).paths, aH (g.flag true).conds, au st, iW st.length 3 frm w 5 6 7, au w.vars, au w.facts, aD w.ev]) Z Z Z Z (k8 (c := (bS SS a)) (frm := frm) (g := (g.flag true)) (w := w) (st := st) (t := (ee tz x.a).1) (ok := (ee tz x.a).2) h1 h2 (by omega)) Z Z Z Z Z Z (B0 := 145000) Z Z (ao ?_))))
   refine jf [14,129,130,111,112,100,101,90,91,83,84,82,81,10,80,9,78,48,8,32,23,2,3,4,5] Z (jn ?_)
   rw [ed, yc he, (sa (g := g) hs).1, (sa (g := g) hs).2.1, (sa (g := g) hs).2.2, show jJ x (k : Int) = (k : Int) + 1 from if_neg (by omega)]
   refine oS ?_
   exact ⟨Z, ((aw [4,10,5,500,901,902,145008,904,905,906] (e' := [(4, _), (5, _), (10, _)]) Z Z ⟨Z, Z, Z, trivial⟩ Z).trans (ag 145008 903 Z Z)).trans (Ent.to ⟨Z, Z, Z, trivial⟩ Z)⟩
   exact absurd (bn hc129) (by omega)
  | h4 he hs =>
   have hxn := hin4 he
   have htop : (bg st).ok = true := dQ hw.sok
   refine am (ac (j2 O Z Z (jn (ab O Z Z (fun hc83 => ?_) (fun hc83 => ?_)))))
   exact absurd (aR hc83) (by omega)
   refine ac (j2 O Z Z (jn (ab O Z Z (fun hc90 => ?_) (fun hc90 => ?_))))
   exact absurd (aR hc90) (by omega)
   refine ac (j2 O Z Z (jn (ab O Z Z (fun hc100 => ?_) (fun hc100 => ?_))))
   exact absurd (aR hc100) (by omega)
   refine ac (j2 O Z Z (jn (ab O Z Z (fun hc111 => ?_) (fun hc111 => ?_))))
   exact absurd (aR hc111) (by omega)
   refine ac (j2 O Z Z (jn (ab O Z Z (fun hc129 => ?_) (fun hc129 => ?_))))
   refine af (rx O [_,_,_,_,_,_,_,_,_,_,_,_,_] [pn [] 0 0, pe [0] 0, pn [0,1] 1 1, pn [0,1,2] 1 1, pn [] 0 1, pn [4] 0 1, pe [0,1,2,3,4,5] 1, pn [0,1,2,3,4,5,6] 2 2, pn [0,1,2,3,4,5,6,7] 2 2, pn [0,1,2,3,4,5,6,7] 2 3, pn [] 0 2, pe [0,1,2,3,4,5,6,7,8,10] 2, pn [0,1,2,3,4,5,6,7,8,9,10,11] 3 3] [1,6,11] 10 14 (.box [.d (.int .i64 0), .d .nils]) [_,_,_] [_] [[], [], []] (kf O Z Z Z (ai (ai (aE (aT (bR O [500,901,902,903,5,904,905,906] (bin := [iB (bS SS a) g 1 2 3, aG g.paths, aH g.conds, au st, iW st.length 3 frm w 5 6 7, au w.vars, au w.facts, aD w.ev]) Z Z Z Z (gp (c := (bS SS a)) (frm := frm) (g := g) (w := w) (st := st) (k := 1) h1 h2 hs (by omega)) Z Z Z Z Z (B0 := 134000) Z Z Z Z Z Z)) (aT (bR O [500,901,902,903,5,904,905,906] (bin := [iB (bS SS a) g 1 2 3, aG g.paths, aH g.conds, au st, iW st.length 3 frm w 5 6 7, au w.vars, au w.facts, aD w.ev]) Z Z Z Z (gp (c := (bS SS a)) (frm := frm) (g := g) (w := w) (st := st) (k := 1) h1 h2 hs (by omega)) Z Z Z Z Z (B0 := 134000) Z Z Z Z Z Z))) Z) (kf O Z Z Z (ai (ai (aE (av O (ex := Tm.cells (bg st)) Z Z Z Z (oW (n := (st.length - 1)) (by omega) (by omega)) Z) (av O (ex := Tm.cells (bg st)) Z Z Z Z (oW (n := (st.length - 1)) (by omega) (by omega)) Z)) Z) (ai (kf O Z Z Z (kg O Z Z Z)) (ai (kf O Z Z Z (kg O Z Z Z)) (ai (ai (aE (aT (aC O (B0 := 139000) Z Z Z Z (qA (t := (bg st)) (n := x.a) h1 h2 htop hxn) (aa Z) Z Z Z Z Z)) (aT (aC O (B0 := 139000) Z Z Z Z (qA (t := (bg st)) (n := x.a) h1 h2 htop hxn) (aa Z) Z Z Z Z Z))) Z) (kf O Z Z Z (kf O Z Z Z (ai (kf O Z Z Z (kg O Z Z Z)) (ai (ai (ai (aT (Eff.alloc O Z Z Z Z Z Z)) Z) (ai (ai (aT (Eff.alloc O Z Z Z Z Z Z)) Z) (ai (aT (Eff.alloc O Z Z Z Z Z Z)) Z))) (ai (ai (aE trivial (aT (eS O Z Z Z))) Z) (ai (ai (aE trivial (V O Z)) Z) trivial))))))))))))) ?_)
   refine jw [15,14,129,130,111,112,100,101,90,91,83,84,82,81,10,80,9,78,48,8,32,23,2,3,4,5] Z (ch ?_)
   refine aj ?_
   obtain ⟨s2, es⟩ : ∃ s2, s2 = cJ st := ⟨_, rfl⟩
   have hs2 : st.length - 1 = s2.length := by rw [es]; exact yh.symm
   refine AOps.to (Ent.cut 903 (st.length - 1) Z) (ao ?_)
   rw [← List.map_take, show List.take (st.length - 1) st = s2 from es.symm, hs2]
   refine j3 O Z Z Z (jf [143,142,141,14,129,130,111,112,100,101,90,91,83,84,82,81,10,80,9,78,48,8,32,23,2,3,4,5] Z (ay O [500,901,902,903,5,904,905,906] (bin := [iB (bS SS a) g 1 2 3, aG g.paths, aH g.conds, au s2, iW s2.length 3 frm w 5 6 7, au w.vars, au w.facts, aD w.ev]) Z Z Z Z (k8 (c := (bS SS a)) (frm := frm) (g := g) (w := w) (st := s2) (t := (ee (bg st) x.a).1) (ok := (ee (bg st) x.a).2) h1 h2 (by omega)) Z Z Z Z Z Z (B0 := 145000) Z Z (ao ?_)))
   refine jf [14,129,130,111,112,100,101,90,91,83,84,82,81,10,80,9,78,48,8,32,23,2,3,4,5] Z (jn ?_)
   subst es
   rw [ed, yc he, (kM (g := g) hs).1, (kM (g := g) hs).2.1, (kM (g := g) hs).2.2, show jJ x (k : Int) = (k : Int) + 1 from if_neg (by omega)]
   refine oS ?_
   exact ⟨Z, ((aw [4,10,5,500,901,902,145008,904,905,906] (e' := [(4, _), (5, _), (10, _)]) Z Z ⟨Z, Z, Z, trivial⟩ Z).trans (ag 145008 903 Z Z)).trans (Ent.to ⟨Z, Z, Z, trivial⟩ Z)⟩
   exact absurd (bn hc129) (by omega)
  | o5 he =>
   refine am (ac (j2 O Z Z (jn (ab O Z Z (fun hc83 => ?_) (fun hc83 => ?_)))))
   exact absurd (aR hc83) (by omega)
   refine ac (j2 O Z Z (jn (ab O Z Z (fun hc90 => ?_) (fun hc90 => ?_))))
   exact absurd (aR hc90) (by omega)
   refine ac (j2 O Z Z (jn (ab O Z Z (fun hc100 => ?_) (fun hc100 => ?_))))
   exact absurd (aR hc100) (by omega)
   refine ac (j2 O Z Z (jn (ab O Z Z (fun hc111 => ?_) (fun hc111 => ?_))))
   exact absurd (aR hc111) (by omega)
   refine ac (j2 O Z Z (jn (ab O Z Z (fun hc129 => ?_) (fun hc129 => ?_))))
   exact absurd (aR hc129) (by omega)
   refine ac (j2 O Z Z (jn (ab O Z Z (fun hc145 => ?_) (fun hc145 => ?_))))
   refine aj (j2 O Z Z (jf [148,145,146,129,130,111,112,100,101,90,91,83,84,82,81,10,80,9,78,48,8,32,23,2,3,4,5] Z (jo O Z (ao ?_))))
   refine jn ?_
   rw [ed, AX he, show jJ x (k : Int) = x.a from if_pos he]
   refine oS ?_
   exact ⟨Z, (aw [4,10,5,500,901,902,903,904,905,906] (e' := [(4, _), (5, _), (10, _)]) Z Z ⟨Z, Z, Z, trivial⟩ Z).trans (Ent.to ⟨Z, Z, Z, trivial⟩ Z)⟩
   exact absurd (bn hc145) (by omega)
  | l7 he hs =>
   refine am (ac (j2 O Z Z (jn (ab O Z Z (fun hc83 => ?_) (fun hc83 => ?_)))))
   exact absurd (aR hc83) (by omega)
   refine ac (j2 O Z Z (jn (ab O Z Z (fun hc90 => ?_) (fun hc90 => ?_))))
   exact absurd (aR hc90) (by omega)
   refine ac (j2 O Z Z (jn (ab O Z Z (fun hc100 => ?_) (fun hc100 => ?_))))
   exact absurd (aR hc100) (by omega)
   refine ac (j2 O Z Z (jn (ab O Z Z (fun hc111 => ?_) (fun hc111 => ?_))))
   exact absurd (aR hc111) (by omega)
   refine ac (j2 O Z Z (jn (ab O Z Z (fun hc129 => ?_) (fun hc129 => ?_))))
   exact absurd (aR hc129) (by omega)
   refine ac (j2 O Z Z (jn (ab O Z Z (fun hc145 => ?_) (fun hc145 => ?_))))
   exact absurd (aR hc145) (by omega)
   refine ac (j2 O Z Z (jn (ab O Z Z (fun hc149 => ?_) (fun hc149 => ?_))))
   exact absurd (aR hc149) (by omega)
   refine ac (j2 O Z Z (jn (ab O Z Z (fun hc169 => ?_) (fun hc169 => ?_))))
   refine af (mb O [_,_,_,_,_,_,_,_] [pn [] 0 1, pn [0] 0 1, pn [0,1] 0 1, pn [] 0 0, pe [3] 0, pn [3,4] 1 1, pn [3,4,5] 1 1, pe (rg 0 7) 1] [4,7] [_, [(4, pB 500), (9, bX x), (10, xB (.int .i64 ((k : Int) + 1))), (500, iB (bS SS a) (g.flag true) 901 902 503), (901, aG (g.flag true).paths), (902, aH (g.flag true).conds), (903, au st), (5, iW st.length 903 frm w 904 905 906), (904, au w.vars), (905, au w.facts), (906, aD w.ev)], _] [[], [902]] (ai (ka O Z Z (kw O Z Z)) (ai (ka O Z Z (kw O Z Z)) (ai (ka O Z Z (kw O Z Z)) (ka O Z Z (ai (ai (aT (bR O [500,901,902,903,5,904,905,906] (bin := [iB (bS SS a) g 1 2 3, aG g.paths, aH g.conds, au st, iW st.length 3 frm w 5 6 7, au w.vars, au w.facts, aD w.ev]) Z Z Z Z (j1 (c := (bS SS a)) (frm := frm) (g := g) (w := w) (st := st) h1 h2 (by omega)) Z Z Z Z Z (B0 := 176000) Z Z Z Z Z Z)) Z) (ai (ai (bA O Z Z Z Z Z Z Z Z (by simp) Z) Z) (ka O Z Z (ai (ai (cv O [500,901,902,903,5,904,905,906] [902] (bin := [iB (bS SS a) (g.flag true) 1 2 3, aG (g.flag true).paths, aH (g.flag true).conds, au st, iW st.length 3 frm w 5 6 7, au w.vars, au w.facts, aD w.ev]) Z Z Z Z (qJ (sn := st.length) (st := st) (c := (bS SS a)) (frm := frm) (g := (g.flag true)) (w := w) (t := tz) h1 h2 gm (show g.conds.length + 2 ≤ L by omega)) Z Z Z Z Z (B0 := 179000) Z Z Z Z Z Z Z) Z) trivial)))))))) ?_)
   refine jw [169,170,149,150,145,146,129,130,111,112,100,101,90,91,83,84,82,81,10,80,9,78,48,8,32,23,2,3,4,5] Z (ch ?_)
   refine mb O [_,_,_,_,_,_] [pn [] 0 1, pn [] 0 0, pn [1] 0 0, pn [1,2] 0 0, pe [1,2,3] 0, pe (rg 0 5) 1] [4,5] [_, [(4, pB 500), (9, bX x), (10, xB (.int .i64 ((k : Int) + 1))), (500, iB (bS SS a) (mj w (aY bE w tz (g.flag true))) 901 179008 503), (901, aG (mj w (aY bE w tz (g.flag true))).paths), (179008, aH (mj w (aY bE w tz (g.flag true))).conds), (903, au st), (5, iW st.length 903 frm (nJ w) 904 905 906), (904, au w.vars), (905, au w.facts), (906, aD w.ev)], _] [[], [903]] (ai (ka O Z Z (kw O Z Z)) (ka O Z Z (ka O Z Z (ka O Z Z (ai (ai (aT (bR O [500,901,179008,903,5,904,905,906] (bin := [iB (bS SS a) (aY bE w tz (g.flag true)) 1 2 3, aG (aY bE w tz (g.flag true)).paths, aH (aY bE w tz (g.flag true)).conds, au st, iW st.length 3 frm w 5 6 7, au w.vars, au w.facts, aD w.ev]) Z Z Z Z (tl (sn := st.length) (st := st) (c := (bS SS a)) (frm := frm) (g := (aY bE w tz (g.flag true))) (w := w) h1 h2 hsy) Z Z Z Z Z (B0 := 184000) Z Z Z Z Z Z)) Z) (ai (ai (cv O [500,901,179008,903,5,904,905,906] [903] (bin := [iB (bS SS a) (mj w (aY bE w tz (g.flag true))) 1 2 3, aG (mj w (aY bE w tz (g.flag true))).paths, aH (mj w (aY bE w tz (g.flag true))).conds, au st, iW st.length 3 frm (nJ w) 5 6 7, au (nJ w).vars, au (nJ w).facts, aD (nJ w).ev]) Z Z Z Z (k8 (c := (bS SS a)) (frm := frm) (g := (mj w (aY bE w tz (g.flag true)))) (w := (nJ w)) (st := st) (t := vg w) (ok := true) h1 h2 (by omega)) Z Z Z Z Z (B0 := 185000) Z Z Z Z Z Z Z) Z) trivial)))))) ?_
   rw [ed, yb he hsy, (sa (g := g) hs).1, (sa (g := g) hs).2.1, (sa (g := g) hs).2.2, show jJ x (k : Int) = (k : Int) + 1 from if_neg (by omega)]
   refine oS ?_
   exact ⟨Z, (((aw [4,10,5,500,901,179008,185008,904,905,906] (e' := [(4, _), (5, _), (10, _)]) Z Z ⟨Z, Z, Z, trivial⟩ Z).trans (ag 179008 902 Z Z)).trans (ag 185008 903 Z Z)).trans (Ent.to ⟨Z, Z, Z, trivial⟩ Z)⟩
   exact absurd (bn hc169) (by omega)
  | h7 he hs =>
   have htop : (bg st).ok = true := dQ hw.sok
   refine am (ac (j2 O Z Z (jn (ab O Z Z (fun hc83 => ?_) (fun hc83 => ?_)))))
   exact absurd (aR hc83) (by omega)
   refine ac (j2 O Z Z (jn (ab O Z Z (fun hc90 => ?_) (fun hc90 => ?_))))
   exact absurd (aR hc90) (by omega)
   refine ac (j2 O Z Z (jn (ab O Z Z (fun hc100 => ?_) (fun hc100 => ?_))))
   exact absurd (aR hc100) (by omega)
   refine ac (j2 O Z Z (jn (ab O Z Z (fun hc111 => ?_) (fun hc111 => ?_))))
   exact absurd (aR hc111) (by omega)
   refine ac (j2 O Z Z (jn (ab O Z Z (fun hc129 => ?_) (fun hc129 => ?_))))
   exact absurd (aR hc129) (by omega)
   refine ac (j2 O Z Z (jn (ab O Z Z (fun hc145 => ?_) (fun hc145 => ?_))))
   exact absurd (aR hc145) (by omega)
   refine ac (j2 O Z Z (jn (ab O Z Z (fun hc149 => ?_) (fun hc149 => ?_))))
   exact absurd (aR hc149) (by omega)
   refine ac (j2 O Z Z (jn (ab O Z Z (fun hc169 => ?_) (fun hc169 => ?_))))
   refine af (mb O [_,_,_,_,_,_,_,_] [pn [] 0 1, pn [0] 0 1, pn [0,1] 0 1, pn [] 0 0, pe [3] 0, pn [3,4] 1 1, pn [3,4,5] 1 1, pe (rg 0 7) 1] [4,7] [_, [(4, pB 500), (9, bX x), (10, xB (.int .i64 ((k : Int) + 1))), (500, iB (bS SS a) g 901 902 503), (901, aG g.paths), (902, aH g.conds), (903, au st), (5, iW (st.length - 1) 903 frm w 904 905 906), (904, au w.vars), (905, au w.facts), (906, aD w.ev)], _] [[], [902]] (ai (ka O Z Z (kw O Z Z)) (ai (ka O Z Z (kw O Z Z)) (ai (ka O Z Z (kw O Z Z)) (ka O Z Z (ai (ai (aT (bR O [500,901,902,903,5,904,905,906] (bin := [iB (bS SS a) g 1 2 3, aG g.paths, aH g.conds, au st, iW st.length 3 frm w 5 6 7, au w.vars, au w.facts, aD w.ev]) Z Z Z Z (gp (c := (bS SS a)) (frm := frm) (g := g) (w := w) (st := st) (k := 1) h1 h2 hs (by omega)) Z Z Z Z Z (B0 := 176000) Z Z Z Z Z Z)) Z) (ka O Z Z (ai (ai (av O (ex := Tm.cells (bg st)) Z Z Z Z (oW (n := (st.length - 1)) (by omega) (by omega)) Z) Z) (ai (ai (cv O [500,901,902,903,5,904,905,906] [902] (bin := [iB (bS SS a) g 1 2 3, aG g.paths, aH g.conds, au st, iW (st.length - 1) 3 frm w 5 6 7, au w.vars, au w.facts, aD w.ev]) Z Z Z Z (qJ (sn := (st.length - 1)) (st := st) (c := (bS SS a)) (frm := frm) (g := g) (w := w) (t := (bg st)) h1 h2 htop (show g.conds.length + 2 ≤ L by omega)) Z Z Z Z Z (B0 := 179000) Z Z Z Z Z Z Z) Z) trivial)))))))) ?_)
   refine jw [169,170,149,150,145,146,129,130,111,112,100,101,90,91,83,84,82,81,10,80,9,78,48,8,32,23,2,3,4,5] Z (ch ?_)
   obtain ⟨s2, es⟩ : ∃ s2, s2 = cJ st := ⟨_, rfl⟩
   have hs2 : st.length - 1 = s2.length := by rw [es]; exact yh.symm
   refine gX (Ent.cut 903 (st.length - 1) Z) (ch ?_)
   rw [← List.map_take, show List.take (st.length - 1) st = s2 from es.symm, hs2]
   refine mb O [_,_,_,_,_,_] [pn [] 0 1, pn [] 0 0, pn [1] 0 0, pn [1,2] 0 0, pe [1,2,3] 0, pe (rg 0 5) 1] [4,5] [_, [(4, pB 500), (9, bX x), (10, xB (.int .i64 ((k : Int) + 1))), (500, iB (bS SS a) (mj w (aY bE w (bg st) g)) 901 179008 503), (901, aG (mj w (aY bE w (bg st) g)).paths), (179008, aH (mj w (aY bE w (bg st) g)).conds), (903, au s2), (5, iW s2.length 903 frm (nJ w) 904 905 906), (904, au w.vars), (905, au w.facts), (906, aD w.ev)], _] [[], [903]] (ai (ka O Z Z (kw O Z Z)) (ka O Z Z (ka O Z Z (ka O Z Z (ai (ai (aT (bR O [500,901,179008,903,5,904,905,906] (bin := [iB (bS SS a) (aY bE w (bg st) g) 1 2 3, aG (aY bE w (bg st) g).paths, aH (aY bE w (bg st) g).conds, au s2, iW s2.length 3 frm w 5 6 7, au w.vars, au w.facts, aD w.ev]) Z Z Z Z (tl (sn := s2.length) (st := s2) (c := (bS SS a)) (frm := frm) (g := (aY bE w (bg st) g)) (w := w) h1 h2 hsy) Z Z Z Z Z (B0 := 184000) Z Z Z Z Z Z)) Z) (ai (ai (cv O [500,901,179008,903,5,904,905,906] [903] (bin := [iB (bS SS a) (mj w (aY bE w (bg st) g)) 1 2 3, aG (mj w (aY bE w (bg st) g)).paths, aH (mj w (aY bE w (bg st) g)).conds, au s2, iW s2.length 3 frm (nJ w) 5 6 7, au (nJ w).vars, au (nJ w).facts, aD (nJ w).ev]) Z Z Z Z (k8 (c := (bS SS a)) (frm := frm) (g := (mj w (aY bE w (bg st) g))) (w := (nJ w)) (st := s2) (t := vg w) (ok := true) h1 h2 (by omega)) Z Z Z Z Z (B0 := 185000) Z Z Z Z Z Z Z) Z) trivial)))))) ?_
   subst es
   rw [ed, yb he hsy, (kM (g := g) hs).1, (kM (g := g) hs).2.1, (kM (g := g) hs).2.2, show jJ x (k : Int) = (k : Int) + 1 from if_neg (by omega)]
   refine oS ?_
   exact ⟨Z, (((aw [4,10,5,500,901,179008,185008,904,905,906] (e' := [(4, _), (5, _), (10, _)]) Z Z ⟨Z, Z, Z, trivial⟩ Z).trans (ag 179008 902 Z Z)).trans (ag 185008 903 Z Z)).trans (Ent.to ⟨Z, Z, Z, trivial⟩ Z)⟩
   exact absurd (bn hc169) (by omega)
  | l8 he hs =>
   refine am (ac (j2 O Z Z (jn (ab O Z Z (fun hc83 => ?_) (fun hc83 => ?_)))))
   exact absurd (aR hc83) (by omega)
   refine ac (j2 O Z Z (jn (ab O Z Z (fun hc90 => ?_) (fun hc90 => ?_))))
   exact absurd (aR hc90) (by omega)
   refine ac (j2 O Z Z (jn (ab O Z Z (fun hc100 => ?_) (fun hc100 => ?_))))
   exact absurd (aR hc100) (by omega)
   refine ac (j2 O Z Z (jn (ab O Z Z (fun hc111 => ?_) (fun hc111 => ?_))))
   exact absurd (aR hc111) (by omega)
   refine ac (j2 O Z Z (jn (ab O Z Z (fun hc129 => ?_) (fun hc129 => ?_))))
   exact absurd (aR hc129) (by omega)
   refine ac (j2 O Z Z (jn (ab O Z Z (fun hc145 => ?_) (fun hc145 => ?_))))
   exact absurd (aR hc145) (by omega)
   refine ac (j2 O Z Z (jn (ab O Z Z (fun hc149 => ?_) (fun hc149 => ?_))))
   exact absurd (aR hc149) (by omega)
   refine ac (j2 O Z Z (jn (ab O Z Z (fun hc169 => ?_) (fun hc169 => ?_))))
   exact absurd (aR hc169) (by omega)
   refine ac (j2 O Z Z (jn (ab O Z Z (fun hc185 => ?_) (fun hc185 => ?_))))
   refine mb O [_,_,_,_,_,_,_,_] [pn [] 0 1, pn [0] 0 1, pn [0,1] 0 1, pn [] 0 0, pe [3] 0, pn [3,4] 1 1, pn [3,4,5] 1 1, pe (rg 0 7) 1] [4,7] [_, [(4, pB 500), (9, bX x), (10, xB (.int .i64 ((k : Int) + 1))), (500, iB (bS SS a) (g.flag true) 901 902 503), (901, aG (g.flag true).paths), (902, aH (g.flag true).conds), (903, au st), (5, iW st.length 903 frm w 904 905 906), (904, au w.vars), (905, au w.facts), (906, aD w.ev)], _] [[], [902]] (ai (ka O Z Z (kw O Z Z)) (ai (ka O Z Z (kw O Z Z)) (ai (ka O Z Z (kw O Z Z)) (ka O Z Z (ai (ai (aT (bR O [500,901,902,903,5,904,905,906] (bin := [iB (bS SS a) g 1 2 3, aG g.paths, aH g.conds, au st, iW st.length 3 frm w 5 6 7, au w.vars, au w.facts, aD w.ev]) Z Z Z Z (tj (c := (bS SS a)) (frm := frm) (g := g) (w := w) (st := st) h1 h2 (by omega)) Z Z Z Z Z (B0 := 192000) Z Z Z Z Z Z)) Z) (ai (ai (bA O Z Z Z Z Z Z Z Z (by simp) Z) Z) (ka O Z Z (ai (ai (cv O [500,901,902,903,5,904,905,906] [902] (bin := [iB (bS SS a) (g.flag true) 1 2 3, aG (g.flag true).paths, aH (g.flag true).conds, au st, iW st.length 3 frm w 5 6 7, au w.vars, au w.facts, aD w.ev]) Z Z Z Z (qJ (sn := st.length) (st := st) (c := (bS SS a)) (frm := frm) (g := (g.flag true)) (w := w) (t := tz) h1 h2 gm (show g.conds.length + 2 ≤ L by omega)) Z Z Z Z Z (B0 := 195000) Z Z Z Z Z Z Z) Z) trivial)))))))) ?_
   rw [ed, ya he, (wg (g := g) hs).1, (wg (g := g) hs).2.2.1, (wg (g := g) hs).2.2.2, show jJ x (k : Int) = (k : Int) + 1 from if_neg (by omega)]
   refine oS ?_
   exact ⟨Z, ((aw [4,10,5,500,901,195008,903,904,905,906] (e' := [(4, _), (5, _), (10, _)]) Z Z ⟨Z, Z, Z, trivial⟩ Z).trans (ag 195008 902 Z Z)).trans (Ent.to ⟨Z, Z, Z, trivial⟩ Z)⟩
   exact absurd (bn hc185) (by omega)
  | h8 he hs =>
   have hund : (jK st).ok = true := dQ hw.sok
   refine am (ac (j2 O Z Z (jn (ab O Z Z (fun hc83 => ?_) (fun hc83 => ?_)))))
   exact absurd (aR hc83) (by omega)
   refine ac (j2 O Z Z (jn (ab O Z Z (fun hc90 => ?_) (fun hc90 => ?_))))
   exact absurd (aR hc90) (by omega)
   refine ac (j2 O Z Z (jn (ab O Z Z (fun hc100 => ?_) (fun hc100 => ?_))))
   exact absurd (aR hc100) (by omega)
   refine ac (j2 O Z Z (jn (ab O Z Z (fun hc111 => ?_) (fun hc111 => ?_))))
   exact absurd (aR hc111) (by omega)
   refine ac (j2 O Z Z (jn (ab O Z Z (fun hc129 => ?_) (fun hc129 => ?_))))
   exact absurd (aR hc129) (by omega)
   refine ac (j2 O Z Z (jn (ab O Z Z (fun hc145 => ?_) (fun hc145 => ?_))))
   exact absurd (aR hc145) (by omega)
   refine ac (j2 O Z Z (jn (ab O Z Z (fun hc149 => ?_) (fun hc149 => ?_))))
   exact absurd (aR hc149) (by omega)
   refine ac (j2 O Z Z (jn (ab O Z Z (fun hc169 => ?_) (fun hc169 => ?_))))
   exact absurd (aR hc169) (by omega)
   refine ac (j2 O Z Z (jn (ab O Z Z (fun hc185 => ?_) (fun hc185 => ?_))))
   refine mb O [_,_,_,_,_,_,_,_] [pn [] 0 1, pn [0] 0 1, pn [0,1] 0 1, pn [] 0 0, pe [3] 0, pn [3,4] 1 1, pn [3,4,5] 1 1, pe (rg 0 7) 1] [4,7] [_, [(4, pB 500), (9, bX x), (10, xB (.int .i64 ((k : Int) + 1))), (500, iB (bS SS a) g 901 902 503), (901, aG g.paths), (902, aH g.conds), (903, au st), (5, iW (st.length - 2) 903 frm w 904 905 906), (904, au w.vars), (905, au w.facts), (906, aD w.ev)], _] [[], [902]] (ai (ka O Z Z (kw O Z Z)) (ai (ka O Z Z (kw O Z Z)) (ai (ka O Z Z (kw O Z Z)) (ka O Z Z (ai (ai (aT (bR O [500,901,902,903,5,904,905,906] (bin := [iB (bS SS a) g 1 2 3, aG g.paths, aH g.conds, au st, iW st.length 3 frm w 5 6 7, au w.vars, au w.facts, aD w.ev]) Z Z Z Z (gp (c := (bS SS a)) (frm := frm) (g := g) (w := w) (st := st) (k := 2) h1 h2 hs (by omega)) Z Z Z Z Z (B0 := 192000) Z Z Z Z Z Z)) Z) (ka O Z Z (ai (ai (av O (ex := Tm.cells (jK st)) Z Z Z Z (oW (n := (st.length - 2)) (by omega) (by omega)) Z) Z) (ai (ai (cv O [500,901,902,903,5,904,905,906] [902] (bin := [iB (bS SS a) g 1 2 3, aG g.paths, aH g.conds, au st, iW (st.length - 2) 3 frm w 5 6 7, au w.vars, au w.facts, aD w.ev]) Z Z Z Z (qJ (sn := (st.length - 2)) (st := st) (c := (bS SS a)) (frm := frm) (g := g) (w := w) (t := (jK st)) h1 h2 hund (show g.conds.length + 2 ≤ L by omega)) Z Z Z Z Z (B0 := 195000) Z Z Z Z Z Z Z) Z) trivial)))))))) ?_
   rw [ed, ya he, (jM (g := g) hs).1, (jM (g := g) hs).2.2.1, (jM (g := g) hs).2.2.2, show jJ x (k : Int) = (k : Int) + 1 from if_neg (by omega)]
   refine oS ?_
   exact ⟨Z, (Ent.cut 903 (st.length - 2) Z).trans (((aw [4,10,5,500,901,195008,903,904,905,906] (e' := [(4, _), (5, _), (10, _)]) Z Z ⟨Z, Z, Z, trivial⟩ Z).trans (ag 195008 902 Z Z)).trans (Ent.to ⟨Z, Z, Z, trivial⟩ (by rw [← List.map_take, show (nH st).length = st.length - 2 from A3]; rfl)))⟩
   exact absurd (bn hc185) (by omega)
  | o9 he =>
   refine am (ac (j2 O Z Z (jn (ab O Z Z (fun hc83 => ?_) (fun hc83 => ?_)))))
   exact absurd (aR hc83) (by omega)
   refine ac (j2 O Z Z (jn (ab O Z Z (fun hc90 => ?_) (fun hc90 => ?_))))
   exact absurd (aR hc90) (by omega)
   refine ac (j2 O Z Z (jn (ab O Z Z (fun hc100 => ?_) (fun hc100 => ?_))))
   exact absurd (aR hc100) (by omega)
   refine ac (j2 O Z Z (jn (ab O Z Z (fun hc111 => ?_) (fun hc111 => ?_))))
   exact absurd (aR hc111) (by omega)
   refine ac (j2 O Z Z (jn (ab O Z Z (fun hc129 => ?_) (fun hc129 => ?_))))
   exact absurd (aR hc129) (by omega)
   refine ac (j2 O Z Z (jn (ab O Z Z (fun hc145 => ?_) (fun hc145 => ?_))))
   exact absurd (aR hc145) (by omega)
   refine ac (j2 O Z Z (jn (ab O Z Z (fun hc149 => ?_) (fun hc149 => ?_))))
   exact absurd (aR hc149) (by omega)
   refine ac (j2 O Z Z (jn (ab O Z Z (fun hc169 => ?_) (fun hc169 => ?_))))
   exact absurd (aR hc169) (by omega)
   refine ac (j2 O Z Z (jn (ab O Z Z (fun hc185 => ?_) (fun hc185 => ?_))))
   exact absurd (aR hc185) (by omega)
   refine ac (j2 O Z Z (jn (ab O Z Z (fun hc195 => ?_) (fun hc195 => ?_))))
   refine aj (j4 O Z Z Z Z (jf [200,198,195,196,185,186,169,170,149,150,145,146,129,130,111,112,100,101,90,91,83,84,82,81,10,80,9,78,48,8,32,23,2,3,4,5] Z (AOps.heap (aZ O Z Z Z) Z (ao ?_))))
   refine jf [201,198,195,196,185,186,169,170,149,150,145,146,129,130,111,112,100,101,90,91,83,84,82,81,10,80,9,78,48,8,32,23,2,3,4,5] Z (AOps.heap (bj (zs := (w.ev ++ [x.a]).map (fun n => [D.int .i64 n])) (n := (w.ev ++ [x.a]).length) O Z Z Z Z Z Z Z Z Z Z Z Z Z Z Z Z (.row Z (bt _).symm) Z Z (by decide) Z (by simp; omega) (by simp; omega) (by simp) (by simp)) Z (ao ?_))
   refine ao ?_
   refine js O Z (jf [203,202,195,196,185,186,169,170,149,150,145,146,129,130,111,112,100,101,90,91,83,84,82,81,10,80,9,78,48,8,32,23,2,3,4,5] Z (jo O Z (ao ?_)))
   refine jf [195,196,185,186,169,170,149,150,145,146,129,130,111,112,100,101,90,91,83,84,82,81,10,80,9,78,48,8,32,23,2,3,4,5] Z (jn ?_)
   rw [ed, AW he, show jJ x (k : Int) = (k : Int) + 1 from if_neg (by omega)]
   refine oS ?_
   exact ⟨Z, ((aw [4,10,5,500,901,902,903,904,905,202] (e' := [(4, _), (5, _), (10, _)]) Z Z ⟨Z, Z, Z, trivial⟩ Z).trans (ag 202 906 Z Z)).trans (Ent.to ⟨Z, Z, Z, trivial⟩ Z)⟩
   exact absurd (bn hc195) (by omega)
  | l10 he hs =>
   refine am (ac (j2 O Z Z (jn (ab O Z Z (fun hc83 => ?_) (fun hc83 => ?_)))))
   exact absurd (aR hc83) (by omega)
   refine ac (j2 O Z Z (jn (ab O Z Z (fun hc90 => ?_) (fun hc90 => ?_))))
   exact absurd (aR hc90) (by omega)
   refine ac (j2 O Z Z (jn (ab O Z Z (fun hc100 => ?_) (fun hc100 => ?_))))
   exact absurd (aR hc100) (by omega)
   refine ac (j2 O Z Z (jn (ab O Z Z (fun hc111 => ?_) (fun hc111 => ?_))))
   exact absurd (aR hc111) (by omega)
   refine ac (j2 O Z Z (jn (ab O Z Z (fun hc129 => ?_) (fun hc129 => ?_))))
   exact absurd (aR hc129) (by omega)
   refine ac (j2 O Z Z (jn (ab O Z Z (fun hc145 => ?_) (fun hc145 => ?_))))
   exact absurd (aR hc145) (by omega)
   refine ac (j2 O Z Z (jn (ab O Z Z (fun hc149 => ?_) (fun hc149 => ?_))))
   exact absurd (aR hc149) (by omega)
   refine ac (j2 O Z Z (jn (ab O Z Z (fun hc169 => ?_) (fun hc169 => ?_))))
   exact absurd (aR hc169) (by omega)
   refine ac (j2 O Z Z (jn (ab O Z Z (fun hc185 => ?_) (fun hc185 => ?_))))
   exact absurd (aR hc185) (by omega)
   refine ac (j2 O Z Z (jn (ab O Z Z (fun hc195 => ?_) (fun hc195 => ?_))))
   exact absurd (aR hc195) (by omega)
   refine ac (j2 O Z Z (jn (ab O Z Z (fun hc204 => ?_) (fun hc204 => ?_))))
   refine ac (js O Z (ay O [500,901,902,903,5,904,905,906] (bin := [iB (bS SS a) g 1 2 3, aG g.paths, aH g.conds, au st, iW st.length 3 frm w 5 6 7, au w.vars, au w.facts, aD w.ev]) Z Z Z Z (j1 (c := (bS SS a)) (frm := frm) (g := g) (w := w) (st := st) h1 h2 (by omega)) Z Z Z Z Z Z (B0 := 208000) Z Z (ao ?_)))
   refine AOps.step (bA O Z Z Z Z Z Z Z Z (by simp) Z) Z Z Z (js O Z (jf [209,204,205,195,196,185,186,169,170,149,150,145,146,129,130,111,112,100,101,90,91,83,84,82,81,10,80,9,78,48,8,32,23,2,3,4,5] Z (jl O Z (ao ?_))))
   refine jo O Z (ao ?_)
   refine jn (af (mb O [_,_,_,_,_] [pn [] 0 0, pn [0] 0 0, pn [0,1] 0 0, pn [] 0 0, pe (rg 0 4) 0] [4] [_,_] [[902]] (ka O Z Z (ka O Z Z (ka O Z Z (ka O Z Z (ai (ai (cv O [500,901,902,903,5,904,905,906] [902] (bin := [iB (bS SS a) (g.flag true) 1 2 3, aG (g.flag true).paths, aH (g.flag true).conds, au st, iW st.length 3 frm w 5 6 7, au w.vars, au w.facts, aD w.ev]) Z Z Z Z (n3 (sn := st.length) (st := st) (c := (bS SS a)) (frm := frm) (g := (g.flag true)) (w := w) (t := tz) h1 h2 (show g.conds.length + 1 ≤ L by omega)) Z Z Z Z Z (B0 := 215000) Z Z Z Z Z Z Z) Z) trivial))))) ?_))
   refine jw [17,209,204,205,195,196,185,186,169,170,149,150,145,146,129,130,111,112,100,101,90,91,83,84,82,81,10,80,9,78,48,8,32,23,2,3,4,5] Z (ch ?_)
   refine mb O [_,_,_,_,_] [pn [] 0 0, pn [0] 0 0, pn [0,1] 0 0, pn [] 0 0, pe (rg 0 4) 0] [4] [_,_] [[905]] (ka O Z Z (ka O Z Z (ka O Z Z (ka O Z Z (ai (ai (cv O [500,901,215008,903,5,904,905,906] [905] (bin := [iB (bS SS a) (cz w tz (g.flag true)) 1 2 3, aG (cz w tz (g.flag true)).paths, aH (cz w tz (g.flag true)).conds, au st, iW st.length 3 frm w 5 6 7, au w.vars, au w.facts, aD w.ev]) Z Z Z Z (qI (sn := st.length) (st := st) (c := (bS SS a)) (frm := frm) (g := cz w tz (g.flag true)) (w := w) (t := tz) h1 h2 (by omega)) Z Z Z Z Z (B0 := 220000) Z Z Z Z Z Z Z) Z) trivial))))) ?_
   rw [ot gm]
   rw [ed, vu he, (sa (g := g) hs).1, (sa (g := g) hs).2.1, (sa (g := g) hs).2.2, show jJ x (k : Int) = (k : Int) + 1 from if_neg (by omega)]
   refine oS ?_
   exact ⟨Z, (((aw [4,10,5,500,901,215008,903,904,220009,906] (e' := [(4, _), (5, _), (10, _)]) Z Z ⟨Z, Z, Z, trivial⟩ Z).trans (ag 215008 902 Z Z)).trans (ag 220009 905 Z Z)).trans (Ent.to ⟨Z, Z, Z, trivial⟩ Z)⟩
   exact absurd (bn hc204) (by omega)
  | h10 he hs =>
   have htop : (bg st).ok = true := dQ hw.sok
   refine am (ac (j2 O Z Z (jn (ab O Z Z (fun hc83 => ?_) (fun hc83 => ?_)))))
   exact absurd (aR hc83) (by omega)
   refine ac (j2 O Z Z (jn (ab O Z Z (fun hc90 => ?_) (fun hc90 => ?_))))
   exact absurd (aR hc90) (by omega)
   refine ac (j2 O Z Z (jn (ab O Z Z (fun hc100 => ?_) (fun hc100 => ?_))))
   exact absurd (aR hc100) (by omega)
   refine ac (j2 O Z Z (jn (ab O Z Z (fun hc111 => ?_) (fun hc111 => ?_))))
   exact absurd (aR hc111) (by omega)
   refine ac (j2 O Z Z (jn (ab O Z Z (fun hc129 => ?_) (fun hc129 => ?_))))
   exact absurd (aR hc129) (by omega)
   refine ac (j2 O Z Z (jn (ab O Z Z (fun hc145 => ?_) (fun hc145 => ?_))))
   exact absurd (aR hc145) (by omega)
   refine ac (j2 O Z Z (jn (ab O Z Z (fun hc149 => ?_) (fun hc149 => ?_))))
   exact absurd (aR hc149) (by omega)
   refine ac (j2 O Z Z (jn (ab O Z Z (fun hc169 => ?_) (fun hc169 => ?_))))
   exact absurd (aR hc169) (by omega)
   refine ac (j2 O Z Z (jn (ab O Z Z (fun hc185 => ?_) (fun hc185 => ?_))))
   exact absurd (aR hc185) (by omega)
   refine ac (j2 O Z Z (jn (ab O Z Z (fun hc195 => ?_) (fun hc195 => ?_))))
   exact absurd (aR hc195) (by omega)
   refine ac (j2 O Z Z (jn (ab O Z Z (fun hc204 => ?_) (fun hc204 => ?_))))
   refine ac (js O Z (ay O [500,901,902,903,5,904,905,906] (bin := [iB (bS SS a) g 1 2 3, aG g.paths, aH g.conds, au st, iW st.length 3 frm w 5 6 7, au w.vars, au w.facts, aD w.ev]) Z Z Z Z (gp (c := (bS SS a)) (frm := frm) (g := g) (w := w) (st := st) (k := 1) h1 h2 hs (by omega)) Z Z Z Z Z Z (B0 := 208000) Z Z (ao ?_)))
   refine js O Z (AOps.step (av O (ex := Tm.cells (bg st)) Z Z Z Z (oW (n := (st.length - 1)) (by omega) (by omega)) Z) Z Z Z (jf [209,204,205,195,196,185,186,169,170,149,150,145,146,129,130,111,112,100,101,90,91,83,84,82,81,10,80,9,78,48,8,32,23,2,3,4,5] Z (jl O Z (ao ?_))))
   refine jo O Z (ao ?_)
   refine jn (af ?_)
   obtain ⟨s2, es⟩ : ∃ s2, s2 = cJ st := ⟨_, rfl⟩
   have hs2 : st.length - 1 = s2.length := by rw [es]; exact yh.symm
   refine gX (Ent.cut 903 (st.length - 1) Z) (ch ?_)
   rw [← List.map_take, show List.take (st.length - 1) st = s2 from es.symm, hs2]
   refine mb O [_,_,_,_,_] [pn [] 0 0, pn [0] 0 0, pn [0,1] 0 0, pn [] 0 0, pe (rg 0 4) 0] [4] [_,_] [[902]] (ka O Z Z (ka O Z Z (ka O Z Z (ka O Z Z (ai (ai (cv O [500,901,902,903,5,904,905,906] [902] (bin := [iB (bS SS a) g 1 2 3, aG g.paths, aH g.conds, au s2, iW s2.length 3 frm w 5 6 7, au w.vars, au w.facts, aD w.ev]) Z Z Z Z (n3 (sn := s2.length) (st := s2) (c := (bS SS a)) (frm := frm) (g := g) (w := w) (t := (bg st)) h1 h2 (show g.conds.length + 1 ≤ L by omega)) Z Z Z Z Z (B0 := 215000) Z Z Z Z Z Z Z) Z) trivial))))) ?_
   refine jw [17,209,204,205,195,196,185,186,169,170,149,150,145,146,129,130,111,112,100,101,90,91,83,84,82,81,10,80,9,78,48,8,32,23,2,3,4,5] Z (ch ?_)
   refine mb O [_,_,_,_,_] [pn [] 0 0, pn [0] 0 0, pn [0,1] 0 0, pn [] 0 0, pe (rg 0 4) 0] [4] [_,_] [[905]] (ka O Z Z (ka O Z Z (ka O Z Z (ka O Z Z (ai (ai (cv O [500,901,215008,903,5,904,905,906] [905] (bin := [iB (bS SS a) (cz w (bg st) g) 1 2 3, aG (cz w (bg st) g).paths, aH (cz w (bg st) g).conds, au s2, iW s2.length 3 frm w 5 6 7, au w.vars, au w.facts, aD w.ev]) Z Z Z Z (qI (sn := s2.length) (st := s2) (c := (bS SS a)) (frm := frm) (g := cz w (bg st) g) (w := w) (t := (bg st)) h1 h2 (by omega)) Z Z Z Z Z (B0 := 220000) Z Z Z Z Z Z Z) Z) trivial))))) ?_
   subst es
   rw [ot htop]
   rw [ed, vu he, (kM (g := g) hs).1, (kM (g := g) hs).2.1, (kM (g := g) hs).2.2, show jJ x (k : Int) = (k : Int) + 1 from if_neg (by omega)]
   refine oS ?_
   exact ⟨Z, (((aw [4,10,5,500,901,215008,903,904,220009,906] (e' := [(4, _), (5, _), (10, _)]) Z Z ⟨Z, Z, Z, trivial⟩ Z).trans (ag 215008 902 Z Z)).trans (ag 220009 905 Z Z)).trans (Ent.to ⟨Z, Z, Z, trivial⟩ Z)⟩
   exact absurd (bn hc204) (by omega)
  refine aj (j2 O Z Z (jn (aj (js O Z (jn ?_)))))
  exact ⟨⟨n, jJ x (k : Int), false, d.w, d.st, d.g⟩, ((aw [4,5,500,901,902,903,904,905,906] (e' := [(2, _), (3, _), (4, _), (5, _)]) Z Z ⟨Z, Z, Z, Z, trivial⟩ Z)).trans (Ent.to ⟨Z, Z, Z, Z, trivial⟩ Z), (by rw [ed]; exact hci2), Nat.lt_succ_self n⟩
 refine aQ ?_
 show _ ∧ _
 have hb : g.bad = true := by simpa using hc23
 rw [← hG, cb hb]
 refine ⟨.inr Z, _, (ag 901 510 Z Z).trans (ag 902 511 Z Z), _, Z, Z, Z⟩
theorem vC {L : Nat} (h1 : 4096 ≤ L) (h2 : L ≤ 1073741824) {SS : List (List Tm)} {a : An} {frm : Int} (hv : VA' a) (hcl : dF a = true) (hL : 100000 ≤ L) (n : Nat) (hn : n ≤ 100) : ∀ {z : Int} {b : Bool} {w : Pw} {st : List Tm} {g : Gs}, FuOk a n z b → (g.bad = false → CW n w st) → (g.bad = false → GC n g) → pf L (bS SS a) frm w st g z b (dL jL a frm n z b w st g) := by
 induction n using Nat.strongRecOn with
 | _ n ih =>
  intro z b w st g hf hw hg
  exact wV h1 h2 hv hcl hL (N := n) (fun m hm => ih m hm (by omega)) ⟨hf, bw _, hn, hw, hg, Z⟩
theorem zi {z : List Tm} (hz : z = []) : MQ h1 h2 155 [cD z] [] (Rows (.c (.rs 0 0 0)) [au []]) := by
 refine bh (jB 8 h1 h2 Tryz.func155 Z Z Z fun O hF => ?_)
 subst hz
 refine ac (js O Z (jn (af (ac (js O Z (qn O Z Z Z Z Z Z Z Z Z Z (fun b => ?_)))))))
 refine jn (ab O Z Z (fun hc4 => ?_) (fun hc4 => ?_))
 refine ac (js O Z (jr ?_))
 refine ⟨.inl Z, _, (cw 2 900 2 false Z Z).trans (Ent.to (e' := [(2, _)]) ⟨Z, trivial⟩ Z), _, Z, [900], by decide, Z, Z, Z⟩
 refine ah (ac (AOps.heap (aZ O Z Z Z) Z (js O Z (AOps.to (ct 5 Z) (AOps.heap (bH (own := false) (zs := []) (n := 0) O Z Z Z Z Z Z Z Z Z Z Z Z Z Z Z Z (.row Z Z) (.slc (.inl Z)) (by simp) Z (by simp) (by simp) Z Z) Z (js O Z (jr ?_)))))))
 refine ⟨.inl Z, _, ak, _, Z, [7], by decide, Z, Z, Z⟩
theorem zk {L : Nat} (h1 : 4096 ≤ L) (h2 : L ≤ 1073741824) {ts : List Tm} (hl : ts.length ≤ 1000) : MC Tryz.prog L 155 [cD ts] [] (Rows (.c (.rs 0 0 ts.length)) [au ts]) := by
 cases ts with
 | nil => exact zi h1 h2 Z
 | cons c r => exact A7 h1 h2 hl
variable {SS : List (List Tm)} {a : An} {g : Gs} {f : List Tm}
theorem zN {n : Nat} (hn : n < SS.length) (hsl : SS.length ≤ 1000) (hf : SS.getD n default = f) (hl : f.length ≤ 1000) : MQ h1 h2 128 [.c (.pt 0 0 0), eI ((n : Int) - 1)] [(0, iB (bS SS a) g 1 2 3), (1, aG g.paths), (2, aH g.conds)] (bb (wA [] 3 ((n : Int) - 1) (w0 f) 4 5 6) [(0, iB (bS SS a) g 1 2 3), (1, aG g.paths), (2, aH g.conds), (3, au []), (4, au (oQ 4)), (5, au f), (6, aD [])]) := by
 refine aJ 500 Z (MC.keep [500,501,502,503,504,505,506] (bs := [iB (bS SS a) g 501 502 503, aG g.paths, aH g.conds, au [], au (oQ 4), au f, aD []]) Z Z (jH 30 [500,501,502] h1 h2 Tryz.func128 Z Z Z Z fun O hF => ?_))
 refine ch ?_
 refine ac (jl O Z (ao ?_))
 refine aP (j4 O Z Z Z Z (j2 O Z Z (AOps.step ((vF O Z).cast (v' := eI (n : Nat)) (congrArg eI (by omega))) Z Z Z (AOps.step ((aL O Z Z Z Z Z Z Z Z (cB hn)).cast (v' := ptr [fH f]) (by rw [hf])) Z Z Z (js O Z (jf [15,7,4] Z (l5 O (B0 := 17000) Z Z Z Z (zk (ts := f) h1 h2 hl) (aa Z) Z Z Z Z Z (ao ?_))))))))
 refine js O Z (jf [17,4] Z (jl O Z (ao ?_)))
 refine jo O Z (ao ?_)
 refine jn (af (ac (js O Z (jn (am (ap (X := Nat) (fun i => ⟨[(4, .c (.pt 4 0 0)), (5, .c (.pt 5 0 0)), (18, eI i)], [(4, .box [.d (.int .i64 0), .d .nils, .d .nils, .d .nils, .d .nils, .d (.int .i64 0)]), (5, .box [.d (.int .i64 ((n : Int) - 1)), .rs 904 0 i, .rs 903 0 0, .rs 905 0 f.length, .rs 906 0 0, .d (.int .i64 4)]), (500, iB (bS SS a) g 501 502 503), (501, aG g.paths), (502, aH g.conds), (903, au []), (904, au (oQ i)), (905, au f), (906, aD [])]⟩) (fun i => i ≤ 4) (fun i => 4 - i) 0 ((((cE 5 904 2 false 1 Z Z Z).trans (cE 5 906 1 true 4 Z Z Z)).trans (cE 5 903 2 false 2 Z Z Z)).trans (((aw [4,5,500,501,502,903,904,17000,906] (e' := [(4, _), (5, _), (18, _)]) Z Z ⟨Z, Z, Z, trivial⟩ Z).trans (ag 17000 905 Z Z)).trans (Ent.to ⟨Z, Z, Z, trivial⟩ Z))) ?_ (fun i hi => ?_)))))))
 exact cm _
 have hvl := i6 (i := i)
 refine ac (js O Z (jn (af (ab O Z Z (fun hc19 => ?_) (fun hc19 => ?_)))))
 refine ah (af (am (ac (j2 O Z Z (jn (mb O [_,_,_,_,_,_,_,_] [pn [] 0 2, pn [0] 0 2, pn [] 0 0, pe [2] 0, pe [2,3] 1, pe (rg 0 5) 2, pn (rg 0 6) 3 3, pe (rg 0 7) 3] [3,4,5,7] [_,_,_,_,_] [[], [], [904], []] (ai (ka O Z Z (ka O Z Z (kw O Z Z))) (ai (ka O Z Z (ka O Z Z (kw O Z Z))) (ka O Z Z (ai (ai (aT (aC O (B0 := 25000) Z Z Z Z (vX (k := i) h1 h2 (by have := aR hc19; omega)) (aa Z) Z Z Z Z Z)) Z) (ai (ai (aT (b9 O Z Z Z Z Z Z Z Z Z Z Z Z Z Z)) Z) (ai (ai (bN (own := false) (xs := (oQ i).map Tm.cells) (ys := [Tm.cells (ik i)]) (zs := (oQ (i + 1)).map Tm.cells) (n := i + 1) O Z Z Z Z Z Z Z Z Z Z Z Z Z Z Z Z (.row Z (by simp; omega)) (.whole Z Z (.inr ⟨Z, Z⟩)) (by simp) Z (by simp; omega) (by simp; omega) (by rw [n5]; simp) (by simp [i6]) Z) Z) (ka O Z Z (ai (ai (aT (eS O Z Z Z)) Z) trivial)))))))) ?_))))))
 refine jw [20,19,4,5,18] Z (ch ?_)
 refine aj (ji O Z (js O Z (jn ?_)))
 refine ⟨i + 1, ((aw [4,5,500,501,502,903,26,905,906] (e' := [(4, _), (5, _), (18, _)]) Z Z ⟨Z, Z, Z, trivial⟩ Z).trans (ag 26 904 Z Z)).trans (Ent.to ⟨Z, Z, Z, trivial⟩ Z), by have := aR hc19; omega, by have := aR hc19; omega⟩
 refine aQ (ac (js O Z (jo O Z (ao ?_))))
 refine jr ?_
 obtain rfl : i = 4 := by have := bn hc19; omega
 refine ⟨.inl Z, _, (((ag 904 504 Z Z).trans (ag 905 505 Z Z)).trans (ag 906 506 Z Z)).trans (ag 903 503 Z Z), _, Z, Z, Z⟩
theorem tm {L : Nat} (h1 : 4096 ≤ L) (h2 : L ≤ 1073741824) {SS : List (List Tm)} {a : An} {g : Gs} {n : Nat} {f : List Tm} {w : Pw} {frm : Int} (hw : w0 f = w) (hn : n < SS.length) (hsl : SS.length ≤ 1000) (hf : SS.getD n default = f) (hl : f.length ≤ 1000) (hfr : frm = (n : Int) - 1) : MC Tryz.prog L 128 [.c (.pt 0 0 0), eI frm] [(0, iB (bS SS a) g 1 2 3), (1, aG g.paths), (2, aH g.conds)] (bb (wA [] 3 frm w 4 5 6) [(0, iB (bS SS a) g 1 2 3), (1, aG g.paths), (2, aH g.conds), (3, au []), (4, au w.vars), (5, au w.facts), (6, aD w.ev)]) := by
 subst hw; subst hfr; exact zN h1 h2 hn hsl hf hl
set_option maxHeartbeats 8000000
variable {G : Gs}
theorem wY {w : Pw} (hw : w0 f = w) (hsl : SS.length ≤ 1000) (hfl : f.length ≤ 1000) (hn : 0 < SS.length) (hf : SS.getD 0 default = f) (ih : pf L (bS SS a) (-1) w [] g 0 false G) : MQ h1 h2 91 [.c (.pt 0 0 0), eI (-1)] [(0, iB (bS SS a) g 1 2 3), (1, aG g.paths), (2, aH g.conds)] (bb (.tup []) (oF (bS SS a) G)) := by
 refine aJ 500 Z (MC.keep [500,510,511] (R := .tup []) (bs := [iB (bS SS a) G 510 511 503, aG G.paths, aH G.conds]) Z Z (jH 29 [500,501,502] h1 h2 Tryz.func91 Z Z Z Z fun O hF => ?_))
 refine ch ?_
 refine af (ac (j2 O Z Z (jn (ab O Z Z (fun hc5 => ?_) (fun hc5 => ?_)))))
 refine ac (j4 O Z Z Z Z (js O Z (jf [10,9,6,4,0,1] Z (ay O [500,501,502] (bin := [iB (bS SS a) g 1 2 3, aG g.paths, aH g.conds]) Z Z Z Z (tm (SS := SS) (a := a) (g := g) (n := 0) (f := f) (w := w) h1 h2 hw hn hsl hf hfl Z) Z Z Z Z Z Z (B0 := 12000) Z Z (ao ?_)))))
 refine jf [11,6,4,0,1] Z (ay O [500,501,502,12003,12004,12005,12006] (bin := [iB (bS SS a) g 1 2 3, aG g.paths, aH g.conds, au [], au w.vars, au w.facts, aD w.ev]) Z Z Z Z (ih) Z Z Z Z Z Z (B0 := 13000) Z Z (ao ?_))
 refine jf [4,0,1] Z (jr ?_)
 refine ⟨.inl Z, _, (ag 13010 510 Z Z).trans (ag 13011 511 Z Z), _, Z, Z, Z⟩
 exact absurd hc5 (by decide)
variable {z : Int}
theorem wX {w : Pw} (hw : w0 f = w) (hsl : SS.length ≤ 1000) (hfl : f.length ≤ 1000) {k : Nat} (hk : k < a.pts.length) (hz : (a.pts.getD k default).k = z) (hn : k + 1 < SS.length) (hf : SS.getD (k + 1) default = f) (ih : pf L (bS SS a) (k : Nat) w [] g z true G) : MQ h1 h2 91 [.c (.pt 0 0 0), eI (k : Nat)] [(0, iB (bS SS a) g 1 2 3), (1, aG g.paths), (2, aH g.conds)] (bb (.tup []) (oF (bS SS a) G)) := by
 refine aJ 500 Z (MC.keep [500,510,511] (R := .tup []) (bs := [iB (bS SS a) G 510 511 503, aG G.paths, aH G.conds]) Z Z (jH 29 [500,501,502] h1 h2 Tryz.func91 Z Z Z Z fun O hF => ?_))
 refine ch ?_
 refine af (ac (j2 O Z Z (jn (ab O Z Z (fun hc5 => ?_) (fun hc5 => ?_)))))
 exact absurd (aR hc5) (by omega)
 refine ah (jw [4,0,1] Z (mb O [_,_,_,_,_,_,_,_,_,_,_,_,_,_,_,_] [pn [] 0 1, pn [] 0 0, pn [1] 0 0, pn [1,2] 0 0, pn [] 0 0, pe (rg 1 4) 0, pn [] 0 1, pn [6] 0 1, pn [6,7] 0 1, pn [6,7,8] 0 1, pn (rg 6 4) 0 1, pn [] 0 1, pn (rg 6 6) 0 1, pn (rg 6 7) 0 1, pn (rg 6 8) 0 1, pe (rg 0 15) 1] [5,15] [_,_,_] [[], [501,502,19003,19004,19005,19006]] (ai (ka O Z Z (kw O Z Z)) (ka O Z Z (ka O Z Z (ka O Z Z (ka O Z Z (ai (ai (aT (bR O [500,501,502] (bin := [iB (bS SS a) g 1 2 3, aG g.paths, aH g.conds]) Z Z Z Z (tm (SS := SS) (a := a) (g := g) (n := k + 1) (f := f) (w := w) h1 h2 hw hn hsl hf hfl (by omega)) Z Z Z Z Z (B0 := 19000) Z Z Z Z Z Z)) Z) (ai (ka O Z Z (kw O Z Z)) (ai (ka O Z Z (kw O Z Z)) (ai (ka O Z Z (kw O Z Z)) (ai (ka O Z Z (kw O Z Z)) (ai (ka O Z Z (kw O Z Z)) (ai (ka O Z Z (kw O Z Z)) (ai (ai (ai (aL O Z Z Z Z Z Z Z Z (cB hk)) Z) (ai (aL O Z Z Z Z Z Z Z Z (cB hk)) Z)) (ai (ka O Z Z (kw O Z Z)) (ai (ai (ai ((V O Z).cast (v' := eI z) (congrArg eI hz)) Z) (ai ((V O Z).cast (v' := eI z) (congrArg eI hz)) Z)) (ai (ai (cv O [500,501,502,19003,19004,19005,19006] [501,502,19003,19004,19005,19006] (bin := [iB (bS SS a) g 1 2 3, aG g.paths, aH g.conds, au [], au w.vars, au w.facts, aD w.ev]) Z Z Z Z (ih) Z Z Z Z Z (B0 := 29000) Z Z Z Z Z Z Z) Z) trivial)))))))))))))))) ?_))
 show _ ∧ _
 refine Ad ?_
 refine ⟨.inr Z, _, (ag 29010 510 Z Z).trans (ag 29011 511 Z Z), _, Z, Z, Z⟩
abbrev m5 (a : An) : List (List Tm) := a.pre :: a.pts.map (·.fs)
theorem zy (hv : VA' a) (hcl : dF a = true) (hL : 100000 ≤ L) {n : Nat} (hn : n ≤ a.pts.length) (hg : GD g) : MQ h1 h2 91 [.c (.pt 0 0 0), eI ((n : Int) - 1)] [(0, iB (bS (m5 a) a) g 1 2 3), (1, aG g.paths), (2, aH g.conds)] (bb (.tup []) (oF (bS (m5 a) a) (fK jL a n g))) := by
 have h8 := hv.ok.np
 have hsl : (m5 a).length = a.pts.length + 1 := by simp
 cases n with
 | zero =>
  refine wY h1 h2 (w := w0 a.pre) Z (by omega) (by have := hv.ok.npre; omega) (by omega) Z ?_
  exact vC h1 h2 hv hcl hL 100 (bw _) (FuOk.start hv) (fun _ => ki hv.ok.npre) (fun hb => hg.start hb)
 | succ n =>
  have hk : n < a.pts.length := by omega
  have hl6 := cP (n := 6) (hv.pt hk).1
  have hf : (m5 a).getD (n + 1) default = (a.pts.getD n default).fs := by
   rw [ar (by omega), ar hk]; simp
  rw [show (((n + 1 : Nat)) : Int) - 1 = (n : Nat) by omega]
  refine wX h1 h2 (w := w0 (a.pts.getD n default).fs) Z (by omega) (by omega) hk Z (by omega) hf ?_
  exact vC h1 h2 hv hcl hL 100 (bw _) (FuOk.start hv) (fun _ => ki hl6) (fun hb => hg.start hb)
abbrev vf (a : An) : Pc := bS (m5 a) a
abbrev xS (a : An) (g : Gs) : List (Nat × B) := [(0, iB (vf a) g 1 2 3), (1, aG g.paths), (2, aH g.conds)]
abbrev ve (a : An) (g : Gs) : List (Nat × B) := [(0, iB (vf a) g 10 11 3), (10, aG g.paths), (11, aH g.conds)]
theorem va {al : Nat → Gs} (h : ∀ i, (al i).bad = true → al (i + 1) = al i) {i : Nat} (hb : (al i).bad = true) : ∀ {n : Nat}, i ≤ n → al n = al i := fun {n} hn => by
 induction n with
 | zero =>
  obtain rfl : i = 0 := by omega
  rfl
 | succ n ih =>
  rcases Nat.lt_or_ge n i with h1 | h1
  obtain rfl : i = n + 1 := by omega
  rfl
  have := ih h1
  rw [h n (by rw [this]; exact hb), this]
theorem xF {k : Int} {al : Nat → Gs} (hl : (m5 a).length ≤ 1000) (hst : ∀ i, (al i).bad = true → al (i + 1) = al i) (h0 : (al 0).bad = false) (hal : ∀ i : Nat, i < (m5 a).length → (al i).bad = false → MQ h1 h2 91 [.c (.pt 0 0 0), eI ((i : Int) - 1)] (xS a (al i)) (bb (.tup []) (ve a (al (i + 1))))) : MQ h1 h2 90 [.c (.pt 0 0 0), eB true, eI k, .c (.fb 91 [.pt 0 0 0])] (xS a (al 0)) (bb (eB (!(al (m5 a).length).bad)) (ve a (al (m5 a).length))) := by
 refine aJ 500 Z (MC.keep [500,510,511] (R := eB (!(al (m5 a).length).bad)) (bs := [iB (vf a) (al (m5 a).length) 510 511 503, aG (al (m5 a).length).paths, aH (al (m5 a).length).conds]) Z Z (jH 41 [500,501,502] h1 h2 Tryz.func90 Z Z Z Z fun O hF => ?_))
 refine ch ?_
 refine ac (js O Z (jn (af (ac (j2 O Z Z (jf [11,8,0,2,3] Z (jn (ab O Z Z (fun hc11 => ?_) (fun hc11 => ?_)))))))))
 cases hc11
 refine ah (af (ac (j4 O Z Z Z Z (bo O Z (js O Z (jf [29,28,8,0,2,3] Z (jn (am (ap (X := Nat) (fun i => ⟨[(0, .c (.pt 500 0 0)), (3, .c (.fb 91 [.pt 500 0 0])), (28, eI ((m5 a).length : Nat)), (29, eI i)], [(500, iB (vf a) (al i) 901 902 503), (901, aG (al i).paths), (902, aH (al i).conds)]⟩) (fun i => i ≤ (m5 a).length ∧ (al i).bad = false) (fun i => (m5 a).length - i) 0 ((((aw [500,501,502] (e' := [(0, _), (3, _), (28, _), (29, _)]) Z Z ⟨Z, Z, Z, Z, trivial⟩ Z).trans (ag 501 901 Z Z)).trans (ag 502 902 Z Z)).trans (Ent.to ⟨Z, Z, Z, Z, trivial⟩ Z)) ?_ (fun i hi => ?_))))))))))
 exact ⟨cm _, h0⟩
 refine ac (js O Z (jn (af (ab O Z Z (fun hc30 => ?_) (fun hc30 => ?_)))))
 refine ah (af (am (ac (j2 O Z Z (aP (j2 O Z Z (ji O Z (jf [34,32,31,30,0,3,28,29] Z (r6 O [500,901,902] (bin := [iB (vf a) (al i) 1 2 3, aG (al i).paths, aH (al i).conds]) Z Z Z Z (hal i (by have := aR hc30; omega) hi.2) Z Z Z Z Z Z (B0 := 36000) Z Z (ao ?_))))))))))
 refine jf [31,30,0,3,28,29] Z (aP (j4 O Z Z Z Z (jf [39,31,30,0,3,28,29] Z (jn (ab O Z Z (fun hc39 => ?_) (fun hc39 => ?_))))))
 refine ac (js O Z (jr ?_))
 have e := va hst (show (al (i + 1)).bad = true from hc39) (n := (m5 a).length) (by have := aR hc30; omega)
 rw [e]
 refine ⟨.inl Z, _, (ag 36010 510 Z Z).trans (ag 36011 511 Z Z), _, Z, by rw [show (al (i + 1)).bad = true from hc39]; rfl, Z⟩
 refine ah (aj (ji O Z (js O Z (jn ?_))))
 refine ⟨i + 1, (((aw [500,36010,36011] (e' := [(0, _), (3, _), (28, _), (29, _)]) Z Z ⟨Z, Z, Z, Z, trivial⟩ Z).trans (ag 36010 901 Z Z)).trans (ag 36011 902 Z Z)).trans (Ent.to ⟨Z, Z, Z, Z, trivial⟩ Z), ⟨by have := aR hc30; omega, hc39⟩, by have := aR hc30; omega⟩
 refine aQ (ac (js O Z (jr ?_)))
 obtain rfl : i = (m5 a).length := by have := bn hc30; omega
 refine ⟨.inl Z, _, (ag 901 510 Z Z).trans (ag 902 511 Z Z), _, Z, by rw [hi.2]; rfl, Z⟩
variable {all : Bool}
theorem w8 (hv : cK a = false) : MQ h1 h2 49 [aAn a, eB all, eI z] [] (Plain (.tup [.c (.d .nilp), eB false])) := by
 refine MC.data (jB 63 h1 h2 Tryz.func49 Z Z Z fun O hF => ?_)
 have h66 := tY (L := L) h1 h2 hv
 refine ac (jx O Z (ao ?_))
 refine AOps.to (Ent.freeze 3 (e' := [(3, _), (0, _), (1, _), (2, _)]) Z (.cons Z (.c (.box (cs := a.data) Z (aq Z))) (fe [0,1,2] Z)) (.skip .nil)) ?_
 refine ao ?_
 refine j2 O Z Z (jn (af (ac (js O Z (aI O (B0 := 16000) Z Z Z Z (h66) (aa Z) Z Z Z Z Z Z (ao ?_))))))
 refine j4 O Z Z Z Z (js O Z (jf [9,7,6,3,0,1,2] Z (aP (j3 O Z Z Z (jf [20,7,6,3,0,1,2] Z (AOps.skip Z Z Z Z Z Z (AOps.skip Z Z Z Z Z Z (jf [22,20,7,6,3,0,1,2] Z (AOps.skip Z Z Z Z Z Z (AOps.step (ba O Z Z Z Z Z) Z Z Z (jf [24,7,6,3,0,1,2] Z (jn (ab O Z Z (fun hc24 => ?_) (fun hc24 => ?_))))))))))))))
 refine ac (j2 O Z Z (jr ?_))
 refine ⟨.inl Z, _, ak, _, Z, ?_⟩
 exact .tup (.cons (.c .d) (.cons (.c .d) .nil))
 exact absurd hc24 (by decide)
theorem w7 (hv : cK a = true) (hq : f9 a.code (qP a.pts) = none) : MQ h1 h2 49 [aAn a, eB all, eI z] [] (Plain (.tup [.c (.d .nilp), eB false])) := by
 refine MC.data (jB 63 h1 h2 Tryz.func49 Z Z Z fun O hF => ?_)
 have h66 := qE (L := L) h1 h2 hv
 rw [hq] at h66
 refine ac (jx O Z (ao ?_))
 refine AOps.to (Ent.freeze 3 (e' := [(3, _), (0, _), (1, _), (2, _)]) Z (.cons Z (.c (.box (cs := a.data) Z (aq Z))) (fe [0,1,2] Z)) (.skip .nil)) ?_
 refine ao ?_
 refine j2 O Z Z (jn (af (ac (js O Z (aI O (B0 := 16000) Z Z Z Z (h66) (aa Z) Z Z Z Z Z Z (ao ?_))))))
 refine j4 O Z Z Z Z (js O Z (jf [9,7,6,3,0,1,2] Z (aP (j3 O Z Z Z (jf [20,7,6,3,0,1,2] Z (AOps.skip Z Z Z Z Z Z (AOps.skip Z Z Z Z Z Z (jf [22,20,7,6,3,0,1,2] Z (AOps.skip Z Z Z Z Z Z (AOps.step (ba O Z Z Z Z Z) Z Z Z (jf [24,7,6,3,0,1,2] Z (jn (ab O Z Z (fun hc24 => ?_) (fun hc24 => ?_))))))))))))))
 refine ac (j2 O Z Z (jr ?_))
 refine ⟨.inl Z, _, ak, _, Z, ?_⟩
 exact .tup (.cons (.c .d) (.cons (.c .d) .nil))
 exact absurd hc24 (by decide)
variable {h : List Int}
theorem w6 (hv : cK a = true) (hq : f9 a.code (qP a.pts) = some h) (ho : (bQ a).any (fun b => b) = true) : MQ h1 h2 49 [aAn a, eB all, eI z] [] (Plain (.tup [.c (.d .nilp), eB false])) := by
 refine MC.data (jB 63 h1 h2 Tryz.func49 Z Z Z fun O hF => ?_)
 have hva := fV hv
 have h66 := qE (L := L) h1 h2 hv
 rw [hq] at h66
 have h68 := sK (L := L) h1 h2 (a := a) hva.ok.len
 have h80 := hva.ok.len
 have hA : MC Tryz.prog L 88 [.c (.rs 0 0 a.code.length), eB true] [(0, dN (bQ a))] (bb (eB true) [(0, dN (bQ a))]) := by have h9 := sL (L := L) h1 h2 (u := bQ a) (by rw [cO]; omega); rw [cO, ho] at h9; exact h9
 refine ac (jx O Z (ao ?_))
 refine AOps.to (Ent.freeze 3 (e' := [(3, _), (0, _), (1, _), (2, _)]) Z (.cons Z (.c (.box (cs := a.data) Z (aq Z))) (fe [0,1,2] Z)) (.skip .nil)) ?_
 refine ao ?_
 refine j2 O Z Z (jn (af (ac (js O Z (aI O (B0 := 16000) Z Z Z Z (h66) (aa Z) Z Z Z Z Z Z (ao ?_))))))
 refine j4 O Z Z Z Z (js O Z (jf [9,7,6,3,0,1,2] Z (aP (j3 O Z Z Z (jf [20,7,6,3,0,1,2] Z (bz Z (js O Z (bz Z (aI O (B0 := 23000) Z Z Z Z (h68) (aa Z) Z Z Z Z Z Z (ao ?_))))))))))
 refine jf [22,20,7,6,3,0,1,2] Z (bz Z (ay O [23000] (bin := [dN (bQ a)]) Z Z Z Z (hA) Z Z Z Z Z Z (B0 := 24000) Z Z (ao ?_)))
 refine AOps.step (aF O Z Z Z Z Z) Z Z Z (jf [24,7,6,3,0,1,2] Z (jn (ab O Z Z (fun hc24 => ?_) (fun hc24 => ?_))))
 refine ac (j2 O Z Z (jr ?_))
 refine ⟨.inl Z, _, ak, _, Z, ?_⟩
 exact .tup (.cons (.c .d) (.cons (.c .d) .nil))
 exact absurd hc24 (by decide)
theorem w4 (hv : cK a = true) (hq : f9 a.code (qP a.pts) = some h) (ho : (bQ a).any (fun b => b) = false) (hG : MQ h1 h2 90 [.c (.pt 0 0 0), eB all, eI z, .c (.fb 91 [.pt 0 0 0])] (xS a g0) (bb (eB true) (ve a G))) : MQ h1 h2 49 [aAn a, eB all, eI z] [] (bb (.tup [.c (.pt 0 0 0), eB true]) (ve a G)) := by
 refine aJ 500 Z (MC.keep [500,510,511] (bs := [iB (vf a) G 510 511 503, aG G.paths, aH G.conds]) Z Z (jB 63 h1 h2 Tryz.func49 Z Z Z fun O hF => ?_))
 have hva := fV hv
 have h66 := qE (L := L) h1 h2 hv
 rw [hq] at h66
 have h68 := sK (L := L) h1 h2 (a := a) hva.ok.len
 have h80 := hva.ok.len
 have hA : MC Tryz.prog L 88 [.c (.rs 0 0 a.code.length), eB true] [(0, dN (bQ a))] (bb (eB false) [(0, dN (bQ a))]) := by have h9 := sL (L := L) h1 h2 (u := bQ a) (by rw [cO]; omega); rw [cO, ho] at h9; exact h9
 have h8 := hva.ok.np
 refine ac (jx O Z (ao ?_))
 refine AOps.to (Ent.freeze 3 (e' := [(3, _), (0, _), (1, _), (2, _)]) Z (.cons Z (.c (.box (cs := a.data) Z (aq Z))) (fe [0,1,2] Z)) (.skip .nil)) ?_
 refine ao ?_
 refine j2 O Z Z (jn (af (ac (js O Z (aI O (B0 := 16000) Z Z Z Z (h66) (aa Z) Z Z Z Z Z Z (ao ?_))))))
 refine j4 O Z Z Z Z (js O Z (jf [9,7,6,3,0,1,2] Z (aP (j3 O Z Z Z (jf [20,7,6,3,0,1,2] Z (bz Z (js O Z (bz Z (aI O (B0 := 23000) Z Z Z Z (h68) (aa Z) Z Z Z Z Z Z (ao ?_))))))))))
 refine jf [22,20,7,6,3,0,1,2] Z (bz Z (ay O [23000] (bin := [dN (bQ a)]) Z Z Z Z (hA) Z Z Z Z Z Z (B0 := 24000) Z Z (ao ?_)))
 refine AOps.step (aF O Z Z Z Z Z) Z Z Z (jf [24,7,6,3,0,1,2] Z (jn (ab O Z Z (fun hc24 => ?_) (fun hc24 => ?_))))
 exact absurd hc24 (by decide)
 refine ah (ac (j3 O Z Z Z (jf [27,25,7,6,3,0,1,2] Z (AOps.heap (cH O Z Z Z Z Z Z Z Z Z Z Z) Z (ao ?_)))))
 refine j2 O Z Z (jf [30,7,6,3,0,1,2] Z (jx O Z (ao ?_)))
 refine js O Z (jf [10,7,6,3,0,1,2] Z (jn (af (ac (j2 O Z Z ?_)))))
 first | refine bo O Z ?_ | refine js O Z ?_ | refine aU O Z Z ?_
 refine js O Z (jn (am (ap (X := Nat) (fun i => ⟨[(1, eB all), (2, eI z), (10, .c (.pt 31 0 0)), (33, .c (.d (gc a.pts))), (34, eI a.pts.length), (35, eI i)], [(31, .box [.d .nils, .rs 901 0 (i + 1), .d .nils, .d .nils, .d (.bool false), .d (fH a.pre), .d (fH a.post), .d (jS a.code), .d (gc a.pts)]), (901, .row false 1 ((a.pre :: (a.pts.take i).map (·.fs)).map fun f => [fH f]))]⟩) (fun i => i ≤ a.pts.length) (fun i => a.pts.length - i) 0 (((aw [31,28] (e' := [(1, _), (2, _), (10, _), (33, _), (34, _), (35, _)]) Z Z ⟨Z, Z, Z, Z, Z, Z, trivial⟩ Z).trans (ag 28 901 Z Z)).trans (Ent.to ⟨Z, Z, Z, Z, Z, Z, trivial⟩ Z)) ?_ (fun i hi => ?_))))
 exact cm _
 refine ac (js O Z (jn (af (ab O Z Z (fun hc36 => ?_) (fun hc36 => ?_)))))
 refine ah (af (am (ac ?_)))
 have hil : i < a.pts.length := by have := aR hc36; omega
 refine AOps.step (aL O Z Z Z Z Z Z Z Z (cB hil)) Z Z Z (js O Z (jf [38,36,1,2,10,33,34,35] Z (jl O Z (ao ?_))))
 refine jo O Z (ao ?_)
 refine jn (mb O [_,_,_,_,_,_,_,_,_,_,_,_,_,_] [pn [] 0 2, pn [] 0 1, pn [1] 0 1, pn [1,2] 0 1, pn [1,2,3] 0 1, pn (rg 1 4) 0 1, pn [] 0 0, pn [6] 0 0, pe [6,7] 0, pe (rg 1 8) 1, pn (rg 0 10) 2 2, pn (rg 0 11) 2 2, pn (rg 0 12) 2 2, pe (rg 0 13) 2] [8,9,13] [_,_,_,_] [[], [901], []] (ai (ka O Z Z (ka O Z Z (kw O Z Z))) (ai (ka O Z Z (kw O Z Z)) (ai (ka O Z Z (kw O Z Z)) (ai (ka O Z Z (kw O Z Z)) (ai (ka O Z Z (kw O Z Z)) (ai (ka O Z Z (kw O Z Z)) (ka O Z Z (ka O Z Z (ai (ai (aT (b9 O Z Z Z Z Z Z Z Z Z Z Z Z Z Z)) Z) (ai (ai (bN (own := false) (xs := ((a.pre :: (a.pts.take i).map (·.fs)).map fun f => [fH f])) (ys := [[fH (a.pts.getD i default).fs]]) (zs := ((a.pre :: (a.pts.take (i + 1)).map (·.fs)).map fun f => [fH f])) (n := i + 2) O Z Z Z Z Z Z Z Z Z Z Z Z Z Z Z Z (.row Z (by simp; omega)) (.whole Z Z (.inr ⟨Z, Z⟩)) (by simp) Z (by simp; omega) (by simp; omega) (by rw [List.take_succ_eq_append_getElem hil, ar hil, List.map_append, ← List.cons_append, List.map_append]; rfl) (by simp; omega) Z) Z) (ka O Z Z (ka O Z Z (ka O Z Z (ai (ai (aT (eS O Z Z Z)) Z) trivial)))))))))))))) ?_)
 refine jw [12,38,36,1,2,10,33,34,35] Z (ch ?_)
 refine aj ?_
 first | refine ji O Z ?_ | refine aU O Z Z ?_
 refine js O Z (jn ?_)
 refine ⟨i + 1, ((aw [31,48] (e' := [(1, _), (2, _), (10, _), (33, _), (34, _), (35, _)]) Z Z ⟨Z, Z, Z, Z, Z, Z, trivial⟩ Z).trans (ag 48 901 Z Z)).trans (Ent.to ⟨Z, Z, Z, Z, Z, Z, trivial⟩ Z), by omega, by omega⟩
 refine aQ (af (ac ?_))
 obtain rfl : i = a.pts.length := by have := bn hc36; omega
 rw [List.take_length]
 refine AOps.to (Ent.freeze 901 (e' := [(1, _), (2, _), (10, _)]) Z (fe [1,2,10] Z) (.cons Z (.box (.cons (.keep Z) (.cons (.row Z (by simp)) (fk Z)))) (.skip .nil))) ?_
 refine AOps.to (cE 31 902 5 true 2 Z Z Z) (ao ?_)
 refine AOps.to (cE 31 904 3 true 3 Z Z Z) (ao ?_)
 refine j4 O Z Z Z Z (j2 O Z Z (AOps.step (lX O Z Z Z Z Z) Z Z Z (jf [59,57,56,55,1,2,10] Z (ay O [31,902,904] (bin := [iB (vf a) g0 1 2 3, aG g0.paths, aH g0.conds]) Z Z Z Z (hG) Z Z Z Z Z Z (B0 := 61000) Z Z (ao ?_)))))
 refine js O Z (jf [61,1,2,10] Z (jn (ab O Z Z (fun hc61 => ?_) (fun hc61 => ?_))))
 exact absurd hc61 (by decide)
 refine ah (ac (j3 O Z Z Z (jr ?_)))
 refine ⟨.inl Z, _, ((ag 31 500 Z Z).trans (ag 61010 510 Z Z)).trans (ag 61011 511 Z Z), _, Z, Z, Z⟩
theorem w5 (hv : cK a = true) (hq : f9 a.code (qP a.pts) = some h) (ho : (bQ a).any (fun b => b) = false) (hG : MQ h1 h2 90 [.c (.pt 0 0 0), eB all, eI z, .c (.fb 91 [.pt 0 0 0])] (xS a g0) (bb (eB false) (ve a G))) : MQ h1 h2 49 [aAn a, eB all, eI z] [] (Plain (.tup [.c (.d .nilp), eB false])) := by
 refine MC.data (jB 63 h1 h2 Tryz.func49 Z Z Z fun O hF => ?_)
 have hva := fV hv
 have h66 := qE (L := L) h1 h2 hv
 rw [hq] at h66
 have h68 := sK (L := L) h1 h2 (a := a) hva.ok.len
 have h80 := hva.ok.len
 have hA : MC Tryz.prog L 88 [.c (.rs 0 0 a.code.length), eB true] [(0, dN (bQ a))] (bb (eB false) [(0, dN (bQ a))]) := by have h9 := sL (L := L) h1 h2 (u := bQ a) (by rw [cO]; omega); rw [cO, ho] at h9; exact h9
 have h8 := hva.ok.np
 refine ac (jx O Z (ao ?_))
 refine AOps.to (Ent.freeze 3 (e' := [(3, _), (0, _), (1, _), (2, _)]) Z (.cons Z (.c (.box (cs := a.data) Z (aq Z))) (fe [0,1,2] Z)) (.skip .nil)) ?_
 refine ao ?_
 refine j2 O Z Z (jn (af (ac (js O Z (aI O (B0 := 16000) Z Z Z Z (h66) (aa Z) Z Z Z Z Z Z (ao ?_))))))
 refine j4 O Z Z Z Z (js O Z (jf [9,7,6,3,0,1,2] Z (aP (j3 O Z Z Z (jf [20,7,6,3,0,1,2] Z (bz Z (js O Z (bz Z (aI O (B0 := 23000) Z Z Z Z (h68) (aa Z) Z Z Z Z Z Z (ao ?_))))))))))
 refine jf [22,20,7,6,3,0,1,2] Z (bz Z (ay O [23000] (bin := [dN (bQ a)]) Z Z Z Z (hA) Z Z Z Z Z Z (B0 := 24000) Z Z (ao ?_)))
 refine AOps.step (aF O Z Z Z Z Z) Z Z Z (jf [24,7,6,3,0,1,2] Z (jn (ab O Z Z (fun hc24 => ?_) (fun hc24 => ?_))))
 exact absurd hc24 (by decide)
 refine ah (ac (j3 O Z Z Z (jf [27,25,7,6,3,0,1,2] Z (AOps.heap (cH O Z Z Z Z Z Z Z Z Z Z Z) Z (ao ?_)))))
 refine j2 O Z Z (jf [30,7,6,3,0,1,2] Z (jx O Z (ao ?_)))
 refine js O Z (jf [10,7,6,3,0,1,2] Z (jn (af (ac (j2 O Z Z ?_)))))
 first | refine bo O Z ?_ | refine js O Z ?_ | refine aU O Z Z ?_
 refine js O Z (jn (am (ap (X := Nat) (fun i => ⟨[(1, eB all), (2, eI z), (10, .c (.pt 31 0 0)), (33, .c (.d (gc a.pts))), (34, eI a.pts.length), (35, eI i)], [(31, .box [.d .nils, .rs 901 0 (i + 1), .d .nils, .d .nils, .d (.bool false), .d (fH a.pre), .d (fH a.post), .d (jS a.code), .d (gc a.pts)]), (901, .row false 1 ((a.pre :: (a.pts.take i).map (·.fs)).map fun f => [fH f]))]⟩) (fun i => i ≤ a.pts.length) (fun i => a.pts.length - i) 0 (((aw [31,28] (e' := [(1, _), (2, _), (10, _), (33, _), (34, _), (35, _)]) Z Z ⟨Z, Z, Z, Z, Z, Z, trivial⟩ Z).trans (ag 28 901 Z Z)).trans (Ent.to ⟨Z, Z, Z, Z, Z, Z, trivial⟩ Z)) ?_ (fun i hi => ?_))))
 exact cm _
 refine ac (js O Z (jn (af (ab O Z Z (fun hc36 => ?_) (fun hc36 => ?_)))))
 refine ah (af (am (ac ?_)))
 have hil : i < a.pts.length := by have := aR hc36; omega
 refine AOps.step (aL O Z Z Z Z Z Z Z Z (cB hil)) Z Z Z (js O Z (jf [38,36,1,2,10,33,34,35] Z (jl O Z (ao ?_))))
 refine jo O Z (ao ?_)
 refine jn (mb O [_,_,_,_,_,_,_,_,_,_,_,_,_,_] [pn [] 0 2, pn [] 0 1, pn [1] 0 1, pn [1,2] 0 1, pn [1,2,3] 0 1, pn (rg 1 4) 0 1, pn [] 0 0, pn [6] 0 0, pe [6,7] 0, pe (rg 1 8) 1, pn (rg 0 10) 2 2, pn (rg 0 11) 2 2, pn (rg 0 12) 2 2, pe (rg 0 13) 2] [8,9,13] [_,_,_,_] [[], [901], []] (ai (ka O Z Z (ka O Z Z (kw O Z Z))) (ai (ka O Z Z (kw O Z Z)) (ai (ka O Z Z (kw O Z Z)) (ai (ka O Z Z (kw O Z Z)) (ai (ka O Z Z (kw O Z Z)) (ai (ka O Z Z (kw O Z Z)) (ka O Z Z (ka O Z Z (ai (ai (aT (b9 O Z Z Z Z Z Z Z Z Z Z Z Z Z Z)) Z) (ai (ai (bN (own := false) (xs := ((a.pre :: (a.pts.take i).map (·.fs)).map fun f => [fH f])) (ys := [[fH (a.pts.getD i default).fs]]) (zs := ((a.pre :: (a.pts.take (i + 1)).map (·.fs)).map fun f => [fH f])) (n := i + 2) O Z Z Z Z Z Z Z Z Z Z Z Z Z Z Z Z (.row Z (by simp; omega)) (.whole Z Z (.inr ⟨Z, Z⟩)) (by simp) Z (by simp; omega) (by simp; omega) (by rw [List.take_succ_eq_append_getElem hil, ar hil, List.map_append, ← List.cons_append, List.map_append]; rfl) (by simp; omega) Z) Z) (ka O Z Z (ka O Z Z (ka O Z Z (ai (ai (aT (eS O Z Z Z)) Z) trivial)))))))))))))) ?_)
 refine jw [12,38,36,1,2,10,33,34,35] Z (ch ?_)
 refine aj ?_
 first | refine ji O Z ?_ | refine aU O Z Z ?_
 refine js O Z (jn ?_)
 refine ⟨i + 1, ((aw [31,48] (e' := [(1, _), (2, _), (10, _), (33, _), (34, _), (35, _)]) Z Z ⟨Z, Z, Z, Z, Z, Z, trivial⟩ Z).trans (ag 48 901 Z Z)).trans (Ent.to ⟨Z, Z, Z, Z, Z, Z, trivial⟩ Z), by omega, by omega⟩
 refine aQ (af (ac ?_))
 obtain rfl : i = a.pts.length := by have := bn hc36; omega
 rw [List.take_length]
 refine AOps.to (Ent.freeze 901 (e' := [(1, _), (2, _), (10, _)]) Z (fe [1,2,10] Z) (.cons Z (.box (.cons (.keep Z) (.cons (.row Z (by simp)) (fk Z)))) (.skip .nil))) ?_
 refine AOps.to (cE 31 902 5 true 2 Z Z Z) (ao ?_)
 refine AOps.to (cE 31 904 3 true 3 Z Z Z) (ao ?_)
 refine j4 O Z Z Z Z (j2 O Z Z (AOps.step (lX O Z Z Z Z Z) Z Z Z (jf [59,57,56,55,1,2,10] Z (ay O [31,902,904] (bin := [iB (vf a) g0 1 2 3, aG g0.paths, aH g0.conds]) Z Z Z Z (hG) Z Z Z Z Z Z (B0 := 61000) Z Z (ao ?_)))))
 refine js O Z (jf [61,1,2,10] Z (jn (ab O Z Z (fun hc61 => ?_) (fun hc61 => ?_))))
 refine ac (j2 O Z Z (jr ?_))
 refine ⟨.inl Z, _, ak, _, Z, ?_⟩
 exact .tup (.cons (.c .d) (.cons (.c .d) .nil))
 exact absurd hc61 (by decide)
theorem xm (hP : MQ h1 h2 49 [aAn a, eB true, eI 0] [] (bb (.tup [.c (.pt 0 0 0), eB true]) (ve a g))) : MQ h1 h2 19 [aAn a] [] (Rows (.tup [.c (.rs 0 0 g.paths.length), eB true]) [aG g.paths]) := by
 refine bh (jB 18 h1 h2 Tryz.func19 Z Z Z fun O hF => ?_)
 refine ac (jx O Z (ao ?_))
 refine AOps.to (Ent.freeze 1 (e' := [(1, _), (0, _)]) Z (.cons Z (.c (.box (cs := a.data) Z (aq Z))) (fe [0] Z)) (.skip .nil)) ?_
 refine ao ?_
 refine j2 O Z Z (aP (js O Z (jf [7,3,2,0] Z (ay O [] (bin := []) Z Z Z Z (hP) Z Z Z Z Z Z (B0 := 9000) Z Z (ao ?_)))))
 refine j4 O Z Z Z Z (js O Z (jf [5,4,3,2,0] Z (jn (af (ac (j2 O Z Z (jf [12,4,3,2,0] Z (jn (ab O Z Z (fun hc12 => ?_) (fun hc12 => ?_))))))))))
 exact absurd hc12 (by decide)
 refine ah (ac (j4 O Z Z Z Z (j3 O Z Z Z (jf [3,2,0] Z (jr ?_)))))
 refine ⟨.inl Z, _, ak, _, Z, [9010], by decide, Z, Z, Z⟩
theorem pw (hP : MQ h1 h2 49 [aAn a, eB true, eI 0] [] (Plain (.tup [.c (.d .nilp), eB false]))) : MQ h1 h2 19 [aAn a] [] (Rows (.tup [.c (.d .nils), eB false]) []) := by
 refine bh (jB 18 h1 h2 Tryz.func19 Z Z Z fun O hF => ?_)
 refine ac (jx O Z (ao ?_))
 refine AOps.to (Ent.freeze 1 (e' := [(1, _), (0, _)]) Z (.cons Z (.c (.box (cs := a.data) Z (aq Z))) (fe [0] Z)) (.skip .nil)) ?_
 refine ao ?_
 refine j2 O Z Z (aP (js O Z (jf [7,3,2,0] Z (ax O Z Z Z Z (hP) (aa Z) Z Z Z Z (B0 := 9000) Z Z (j4 O Z Z Z Z (js O Z (jf [5,4,3,2,0] Z (jn (af (ac (j2 O Z Z (jf [12,4,3,2,0] Z (jn (ab O Z Z (fun hc12 => ?_) (fun hc12 => ?_)))))))))))))))
 refine ac (j2 O Z Z (jr ?_))
 refine ⟨.inl Z, _, ak, _, Z, [], by decide, Z, Z, Z⟩
 exact absurd hc12 (by decide)
theorem rh {a : An} (h : dF a = true) : ∃ x, f9 a.code (qP a.pts) = some x ∧ (bQ a).any (fun b => b) = false := by
 unfold dF at h
 rw [bF, rj] at h
 obtain ⟨x, hx⟩ := Option.isSome_iff_exists.1 h.1
 exact ⟨x, hx, by simpa using h.2⟩
theorem wS {a : An} (h : dF a = false) : f9 a.code (qP a.pts) = none ∨ ∃ x, f9 a.code (qP a.pts) = some x ∧ (bQ a).any (fun b => b) = true := by
 cases hq : f9 a.code (qP a.pts) with
 | none => exact .inl Z
 | some x =>
  refine .inr ⟨x, Z, ?_⟩
  unfold dF at h
  rw [hq, rj] at h
  simpa using h
theorem td {L : Nat} (h1 : 4096 ≤ L) (h2 : L ≤ 1073741824) {a : An} {all : Bool} {z : Int} (h : cK a = true → dF a = false) : MC Tryz.prog L 49 [aAn a, eB all, eI z] [] (Plain (.tup [.c (.d .nilp), eB false])) := by
 cases hv : cK a with
 | false => exact w8 h1 h2 hv
 | true =>
  rcases wS (h hv) with hq | ⟨x, hq, ho⟩
  exact w7 h1 h2 hv hq
  exact w6 h1 h2 hv hq ho
theorem nh {a : An} : (m5 a).length = a.pts.length + 1 := by simp
theorem we {L : Nat} (h1 : 4096 ≤ L) (h2 : L ≤ 1073741824) (hL : 100000 ≤ L) {a : An} (hv : cK a = true) (hcl : dF a = true) : MC Tryz.prog L 90 [.c (.pt 0 0 0), eB true, eI 0, .c (.fb 91 [.pt 0 0 0])] (xS a g0) (bb (eB (!(kW a (a.pts.length + 1)).bad)) (ve a (kW a (a.pts.length + 1)))) := by
 have hva := fV hv
 have h8 := hva.ok.np
 have h := xF (L := L) h1 h2 (a := a) (k := 0) (al := kW a) (by rw [nh]; omega) (fun i hb => by rw [kW]; exact nr hb) Z
  (fun i hi hb => by rw [nh] at hi; rw [kW]; exact zy h1 h2 hva hcl hL (by omega) (th hva i))
 rw [nh] at h
 exact h
theorem uW {L : Nat} (h1 : 4096 ≤ L) (h2 : L ≤ 1073741824) (hL : 100000 ≤ L) {a : An} (hv : cK a = true) (hcl : dF a = true) (hb : (kW a (a.pts.length + 1)).bad = false) : MC Tryz.prog L 49 [aAn a, eB true, eI 0] [] (bb (.tup [.c (.pt 0 0 0), eB true]) (ve a (kW a (a.pts.length + 1)))) := by
 obtain ⟨x, hq, ho⟩ := rh hcl
 have h := we h1 h2 hL hv hcl
 rw [hb] at h
 exact w4 h1 h2 hv hq ho h
theorem tU {L : Nat} (h1 : 4096 ≤ L) (h2 : L ≤ 1073741824) (hL : 100000 ≤ L) {a : An} (hv : cK a = true) (hcl : dF a = true) (hb : (kW a (a.pts.length + 1)).bad = true) : MC Tryz.prog L 49 [aAn a, eB true, eI 0] [] (Plain (.tup [.c (.d .nilp), eB false])) := by
 obtain ⟨x, hq, ho⟩ := rh hcl
 have h := we h1 h2 hL hv hcl
 rw [hb] at h
 exact w5 h1 h2 hv hq ho h
end Go.Al
