/- The program follows paths of code. -/
import Derived.Test.YtikejfdfkemmmaaGreatI
set_option linter.unusedVariables false
set_option linter.unusedSimpArgs false
set_option maxRecDepth 10000
set_option maxHeartbeats 4000000
open Go.Proofs
namespace Go.Al
variable {L : Nat} (h1 : 4096 ≤ L) (h2 : L ≤ 1073741824)
set_option maxHeartbeats 8000000
theorem wh {st : List Tm} : (cH st).length = st.length - 1 := je
theorem yL {st : List Tm} : (mz st).length = st.length - 2 := by simp only [mz, List.length_take]; omega
theorem uQ {L : Nat} (h1 : 4096 ≤ L) (h2 : L ≤ 1073741824) {SS : List (List Tm)} {a : An} {frm : Int} {z0 : Int} {b0 : Bool} {w0 : Pw} {st0 : List Tm} {g0 G : Gs} {N : Nat} (hv : VA' a) (hcl : cL a = true) (hL : 100000 ≤ L)
  (ih : ∀ n, n < N → ∀ {z : Int} {b : Bool} {w : Pw} {st : List Tm} {g : Gs}, FuOk a n z b → (g.bad = false → CW n w st) → (g.bad = false → GC n g) → nF L (bO SS a) frm w st g z b (dD iq a frm n z b w st g))
  (hi0 : CI a frm N G ⟨N, z0, b0, w0, st0, g0⟩) : nF L (bO SS a) frm w0 st0 g0 z0 b0 G := by
 refine aI 500 Z (MC.keep [500,510,511] (bs := [iB (bO SS a) G 510 511 503, aD G.paths, az G.conds]) Z Z (jH 232 [500,501,502,503,504,505,506] h1 h2 Tryz.func127 Z Z Z Z fun O hF => ?_))
 refine ct ?_
 refine ae (jx O Z (ap ?_))
 refine jf [4,1,2,3] Z (jx O Z (ap ?_))
 refine jn (am (au (X := CX) (fun x => ⟨[(2, eI x.z), (3, eB x.b), (4, .c (.pt 4 0 0)), (5, .c (.pt 5 0 0))], [(4, pB 500), (5, iW x.st.length 903 frm x.w 904 905 906), (500, iB (bO SS a) x.g 901 902 503), (901, aD x.g.paths), (902, az x.g.conds), (903, ao x.st), (904, ao x.w.vars), (905, ao x.w.facts), (906, aE x.w.ev)]⟩) (fun x => CI a frm N G x) (fun x => x.n) ⟨N, z0, b0, w0, st0, g0⟩ ((((((((av [4,5,500,501,502,503,504,505,506] (e' := [(2, _), (3, _), (4, _), (5, _)]) Z Z ⟨Z, Z, Z, Z, trivial⟩ Z).trans (af 501 901 Z Z)).trans (af 502 902 Z Z)).trans (af 503 903 Z Z)).trans (af 504 904 Z Z)).trans (af 505 905 Z Z)).trans (af 506 906 Z Z)).trans (Ent.to ⟨Z, Z, Z, Z, trivial⟩ Z)) ?_ (fun x hi => ?_)))
 exact hi0
 obtain ⟨n, z, b, w, st, g⟩ := x
 have hci := hi
 obtain ⟨hfu, hle, hN, hw, hg, hG⟩ := hi
 dsimp only at hfu hle hw hg hG
 refine gx (Ent.to (e' := [(2, eI z), (3, eB b), (4, .c (.pt 4 0 0)), (5, .c (.pt 5 0 0))]) (H' := [(4, pB 500), (5, iW st.length 903 frm w 904 905 906), (500, iB (bO SS a) g 901 902 503), (901, aD g.paths), (902, az g.conds), (903, ao st), (904, ao w.vars), (905, ao w.facts), (906, aE w.ev)]) ⟨Z, Z, Z, Z, trivial⟩ Z) ?_
 obtain ⟨n, rfl⟩ : ∃ m, n = m + 1 := ⟨n - 1, by have := hfu.1; omega⟩
 refine ag (ae (j4 O Z Z Z Z (j2 O Z Z (jf [23,2,3,4,5] Z (jn (ab O Z Z (fun hc23 => ?_) (fun hc23 => ?_)))))))
 refine ah (ag ?_)
 have hb : g.bad = false := by simpa using hc23
 have hw := hw hb
 have hg := hg hb
 have hgl := hg.lt
 have hgp := hg.paths
 have hst := hw.len
 have hvl := hw.vars
 have hfa := hw.facts
 have hev := hw.ev
 have hsy := hw.sym
 have h80 := hv.ok.len
 have hnp := hv.ok.npost
 cases s7 hv.ok.code (z := z) (b := b) (st := st) with
 | out hi =>
  rw [iJ hb hi] at hG
  refine am (ag (ae (j4 O Z Z Z Z (j2 O Z Z ?_))))
  first | refine bw O Z ?_ | refine js O Z ?_ | refine bb O Z Z ?_
  refine jf [30,24,23,2,3,4,5] Z (ac O Z Z Z Z ((qx (k := z) (n := a.code.length) h1 h2 (by omega)).plain (u := eB (dd a.code.length z)) Z) (aa Z) Z Z Z Z Z (B0 := 32000) Z (js O Z (jf [32,23,2,3,4,5] Z (jn (ab O Z Z (fun hc32 => ?_) (fun hc32 => ?_))))))
  refine ae (j4 O Z Z Z Z (jf [36,32,23,2,3,4,5] Z (jo O Z (ap ?_))))
  refine jr ?_
  rw [← hG, Go.Al.flag_true]
  refine ⟨.inl Z, _, (af 901 510 Z Z).trans (af 902 511 Z Z), _, Z, Z, Z⟩
  exact absurd hc32 (by rw [hi]; decide)
 | pt0 hi hp s0 =>
  rw [jh hb hi hp, show iq.pend frm w st (dr a.pts z) (nz a z) g = cg frm w (dr a.pts z) (nz a z) g from if_pos s0] at hG
  have hin := tj.1 hi
  obtain ⟨k, rfl⟩ : ∃ k : Nat, z = (k : Int) := ⟨z.toNat, by omega⟩
  obtain ⟨x, hx⟩ : ∃ x, a.code.getD k default = x := ⟨_, rfl⟩
  have hxi : aT x = true := by rw [← hx, aw (by omega)]; exact hv.ok.code _ (List.getElem_mem (by omega))
  simp only [bA, Bool.not_eq_true', decide_eq_true_eq] at hp
  obtain ⟨hbf, hp⟩ := hp
  subst hbf
  have hml := nH hp
  obtain ⟨m, hm⟩ : ∃ m : Nat, dr a.pts (k : Int) = (m : Int) := ⟨(dr a.pts (k : Int)).toNat, by omega⟩
  rw [hm, Int.toNat_natCast] at hml
  have hfs : nz a (k : Int) = (a.pts.getD m default).fs := by unfold nz; rw [hm, Int.toNat_natCast]
  have hvt := hv.pt hml
  have hl6 := cV (n := 6) hvt.1
  rw [hm, hfs] at hG
  refine am (ag (ae (j4 O Z Z Z Z (j2 O Z Z ?_))))
  first | refine bw O Z ?_ | refine js O Z ?_ | refine bb O Z Z ?_
  refine jf [30,24,23,2,3,4,5] Z (ac O Z Z Z Z ((qx (k := (k : Int)) (n := a.code.length) h1 h2 (by omega)).plain (u := eB (dd a.code.length (k : Int))) Z) (aa Z) Z Z Z Z Z (B0 := 32000) Z (js O Z (jf [32,23,2,3,4,5] Z (jn (ab O Z Z (fun hc32 => ?_) (fun hc32 => ?_))))))
  exact absurd hc32 (by rw [hi]; decide)
  refine ah (ag (ae (j4 O Z Z Z Z (js O Z (jf [41,40,32,23,2,3,4,5] Z (ac O Z Z Z Z ((mL (a := a) (k := (k : Int)) h1 h2).plain (u := eI (m : Nat)) (congrArg eI hm)) (aa Z) Z Z Z Z Z (B0 := 43000) Z (js O Z (jf [8,32,23,2,3,4,5] Z (aN (j3 O Z Z Z (jf [45,8,32,23,2,3,4,5] Z (aR 2 Z Z Z (fun hx => AN.step hx Z Z Z (V O Z) Z Z ( AN.step hx Z Z Z (V O Z) Z Z ( AN.nil))) Z Z ?_))))))))))))
  first | refine AOps.step (aK O Z Z Z Z Z) Z Z Z ?_ | refine AOps.step (aM O Z Z Z Z Z) Z Z Z ?_ | refine AOps.step (Val.pickB O Z Z Z Z Z) Z Z Z ?_
  refine jf [48,8,32,23,2,3,4,5] Z (jn (ab O Z Z (fun hc48 => ?_) (fun hc48 => ?_)))
  refine ag (ae (j2 O Z Z ?_))
  first | refine bw O Z ?_ | refine js O Z ?_ | refine bb O Z Z ?_
  refine js O Z (jf [52,48,8,32,23,2,3,4,5] Z (jn (ab O Z Z (fun hc52 => ?_) (fun hc52 => ?_))))
  exact absurd (aQ hc52) (by omega)
  refine ah (ag (kX O [_,_,_,_,_,_,_,_,_,_,_,_,_,_] [pn [] 0 0, pn [0] 0 0, pn [0,1] 0 0, pn [] 0 0, pn [] 0 0, pn [4] 0 0, pn [4,5] 0 0, pn [4,5,6] 0 0, pn (rg 4 4) 0 0, pn [] 0 0, pn (rg 4 6) 0 0, pn (rg 4 7) 0 0, pn (rg 4 8) 0 0, pe (rg 0 13) 0] [13] [_,_] [[901,902]] (ka O Z Z (ka O Z Z (ka O Z Z (ka O Z Z (ka O Z Z (ka O Z Z (ka O Z Z (ka O Z Z (ka O Z Z (ka O Z Z (ai (ai (aS O Z Z Z Z Z Z Z Z (c9 hml)) Z) (ka O Z Z (ka O Z Z (ai (ai (cq O [500,901,902,903,5,904,905,906] [901,902] (bin := [iB (bO SS a) g 1 2 3, aD g.paths, az g.conds, ao st, iW st.length 3 frm w 5 6 7, ao w.vars, ao w.facts, aE w.ev]) Z Z Z Z (t8 (sn := st.length) (st := st) (c := (bO SS a)) (frm := frm) (g := g) (w := w) (to := (m : Nat)) (fs := (a.pts.getD m default).fs) h1 h2 hw.ctx hw.vars (iN hvt.1) (by omega) (by omega)) Z Z Z Z Z (B0 := 71000) Z Z Z Z Z Z Z) Z) trivial)))))))))))))) ?_))
  refine jw [52,48,8,32,23,2,3,4,5] Z (ct ?_)
  refine i6 ?_
  rw [← hG]
  refine ⟨.inl Z, _, (af 71009 510 Z Z).trans (af 71008 511 Z Z), _, Z, Z, Z⟩
  exact absurd hc48 (by simp)
 | ptn hi hp s0 =>
  rw [jh hb hi hp, show iq.pend frm w st (dr a.pts z) (nz a z) g = g.flag true from if_neg (by omega)] at hG
  have hin := tj.1 hi
  obtain ⟨k, rfl⟩ : ∃ k : Nat, z = (k : Int) := ⟨z.toNat, by omega⟩
  obtain ⟨x, hx⟩ : ∃ x, a.code.getD k default = x := ⟨_, rfl⟩
  have hxi : aT x = true := by rw [← hx, aw (by omega)]; exact hv.ok.code _ (List.getElem_mem (by omega))
  simp only [bA, Bool.not_eq_true', decide_eq_true_eq] at hp
  obtain ⟨hbf, hp⟩ := hp
  subst hbf
  have hml := nH hp
  obtain ⟨m, hm⟩ : ∃ m : Nat, dr a.pts (k : Int) = (m : Int) := ⟨(dr a.pts (k : Int)).toNat, by omega⟩
  rw [hm, Int.toNat_natCast] at hml
  have hfs : nz a (k : Int) = (a.pts.getD m default).fs := by unfold nz; rw [hm, Int.toNat_natCast]
  have hvt := hv.pt hml
  have hl6 := cV (n := 6) hvt.1
  refine am (ag (ae (j4 O Z Z Z Z (j2 O Z Z ?_))))
  first | refine bw O Z ?_ | refine js O Z ?_ | refine bb O Z Z ?_
  refine jf [30,24,23,2,3,4,5] Z (ac O Z Z Z Z ((qx (k := (k : Int)) (n := a.code.length) h1 h2 (by omega)).plain (u := eB (dd a.code.length (k : Int))) Z) (aa Z) Z Z Z Z Z (B0 := 32000) Z (js O Z (jf [32,23,2,3,4,5] Z (jn (ab O Z Z (fun hc32 => ?_) (fun hc32 => ?_))))))
  exact absurd hc32 (by rw [hi]; decide)
  refine ah (ag (ae (j4 O Z Z Z Z (js O Z (jf [41,40,32,23,2,3,4,5] Z (ac O Z Z Z Z ((mL (a := a) (k := (k : Int)) h1 h2).plain (u := eI (m : Nat)) (congrArg eI hm)) (aa Z) Z Z Z Z Z (B0 := 43000) Z (js O Z (jf [8,32,23,2,3,4,5] Z (aN (j3 O Z Z Z (jf [45,8,32,23,2,3,4,5] Z (aR 2 Z Z Z (fun hx => AN.step hx Z Z Z (V O Z) Z Z ( AN.step hx Z Z Z (V O Z) Z Z ( AN.nil))) Z Z ?_))))))))))))
  first | refine AOps.step (aK O Z Z Z Z Z) Z Z Z ?_ | refine AOps.step (aM O Z Z Z Z Z) Z Z Z ?_ | refine AOps.step (Val.pickB O Z Z Z Z Z) Z Z Z ?_
  refine jf [48,8,32,23,2,3,4,5] Z (jn (ab O Z Z (fun hc48 => ?_) (fun hc48 => ?_)))
  refine ag (ae (j2 O Z Z ?_))
  first | refine bw O Z ?_ | refine js O Z ?_ | refine bb O Z Z ?_
  refine js O Z (jf [52,48,8,32,23,2,3,4,5] Z (jn (ab O Z Z (fun hc52 => ?_) (fun hc52 => ?_))))
  refine ae (j4 O Z Z Z Z (jf [56,52,48,8,32,23,2,3,4,5] Z (jo O Z (ap ?_))))
  refine jr ?_
  rw [← hG, Go.Al.flag_true]
  refine ⟨.inl Z, _, (af 901 510 Z Z).trans (af 902 511 Z Z), _, Z, Z, Z⟩
  exact absurd (bB hc52) (by omega)
  exact absurd hc48 (by simp)
 | halt hi hp hop =>
  rw [f5 hb hi hp hop] at hG
  have hin := tj.1 hi
  obtain ⟨k, rfl⟩ : ∃ k : Nat, z = (k : Int) := ⟨z.toNat, by omega⟩
  obtain ⟨x, hx⟩ : ∃ x, a.code.getD k default = x := ⟨_, rfl⟩
  have hxi : aT x = true := by rw [← hx, aw (by omega)]; exact hv.ok.code _ (List.getElem_mem (by omega))
  rw [Int.toNat_natCast, hx] at hop
  refine am (ag (ae (j4 O Z Z Z Z (j2 O Z Z ?_))))
  first | refine bw O Z ?_ | refine js O Z ?_ | refine bb O Z Z ?_
  refine jf [30,24,23,2,3,4,5] Z (ac O Z Z Z Z ((qx (k := (k : Int)) (n := a.code.length) h1 h2 (by omega)).plain (u := eB (dd a.code.length (k : Int))) Z) (aa Z) Z Z Z Z Z (B0 := 32000) Z (js O Z (jf [32,23,2,3,4,5] Z (jn (ab O Z Z (fun hc32 => ?_) (fun hc32 => ?_))))))
  exact absurd hc32 (by rw [hi]; decide)
  refine ah (ag (ae (j4 O Z Z Z Z (js O Z (jf [41,40,32,23,2,3,4,5] Z (ac O Z Z Z Z ((mL (a := a) (k := (k : Int)) h1 h2).plain (u := eI (dr a.pts (k : Int))) Z) (aa Z) Z Z Z Z Z (B0 := 43000) Z (js O Z (jf [8,32,23,2,3,4,5] Z (aN (j3 O Z Z Z (jf [45,8,32,23,2,3,4,5] Z (aR 2 Z Z Z (fun hx => AN.step hx Z Z Z (V O Z) Z Z ( AN.step hx Z Z Z (V O Z) Z Z ( AN.nil))) Z Z ?_))))))))))))
  first | refine AOps.step (aK O Z Z Z Z Z) Z Z Z ?_ | refine AOps.step (aM O Z Z Z Z Z) Z Z Z ?_ | refine AOps.step (Val.pickB O Z Z Z Z Z) Z Z Z ?_
  refine jf [48,8,32,23,2,3,4,5] Z (jn (ab O Z Z (fun hc48 => ?_) (fun hc48 => ?_)))
  exact absurd hc48 (by rw [eT, hp]; decide)
  refine ah (ae (j4 O Z Z Z Z (j2 O Z Z (AOps.step ((aS O Z Z Z Z Z Z Z Z (c9 (by omega))).cast (v' := ptr (In.cells x)) (by rw [hx])) Z Z Z (js O Z (jf [78,48,8,32,23,2,3,4,5] Z (jl O Z (ap ?_))))))))
  refine jo O Z (ap ?_)
  refine aN (js O Z (AOps.step ((aG O Z Z (by omega) (by omega)).cast (v' := eI ((k : Int) + 1)) Z) Z Z Z (jf [80,9,78,48,8,32,23,2,3,4,5] Z (jl O Z (ap ?_)))))
  refine jo O Z (ap ?_)
  refine jn (ag (ae (j2 O Z Z (jn (am (ae (j2 O Z Z (jn (ab O Z Z (fun hc83 => ?_) (fun hc83 => ?_))))))))))
  exact absurd (aQ hc83) (by omega)
  refine ae (j2 O Z Z (jn (ab O Z Z (fun hc90 => ?_) (fun hc90 => ?_))))
  exact absurd (aQ hc90) (by omega)
  refine ae (j2 O Z Z (jn (ab O Z Z (fun hc100 => ?_) (fun hc100 => ?_))))
  exact absurd (aQ hc100) (by omega)
  refine ae (j2 O Z Z (jn (ab O Z Z (fun hc111 => ?_) (fun hc111 => ?_))))
  exact absurd (aQ hc111) (by omega)
  refine ae (j2 O Z Z (jn (ab O Z Z (fun hc129 => ?_) (fun hc129 => ?_))))
  exact absurd (aQ hc129) (by omega)
  refine ae (j2 O Z Z (jn (ab O Z Z (fun hc145 => ?_) (fun hc145 => ?_))))
  exact absurd (aQ hc145) (by omega)
  refine ae (j2 O Z Z (jn (ab O Z Z (fun hc149 => ?_) (fun hc149 => ?_))))
  exact absurd (aQ hc149) (by omega)
  refine ae (j2 O Z Z (jn (ab O Z Z (fun hc169 => ?_) (fun hc169 => ?_))))
  exact absurd (aQ hc169) (by omega)
  refine ae (j2 O Z Z (jn (ab O Z Z (fun hc185 => ?_) (fun hc185 => ?_))))
  exact absurd (aQ hc185) (by omega)
  refine ae (j2 O Z Z (jn (ab O Z Z (fun hc195 => ?_) (fun hc195 => ?_))))
  exact absurd (aQ hc195) (by omega)
  refine ae (j2 O Z Z (jn (ab O Z Z (fun hc204 => ?_) (fun hc204 => ?_))))
  exact absurd (aQ hc204) (by omega)
  refine ae (j2 O Z Z (jn (ab O Z Z (fun hc220 => ?_) (fun hc220 => ?_))))
  refine ag (kX O [_,_,_,_,_,_,_,_,_] [pn [] 0 0, pn [0] 0 0, pn [0,1] 0 0, pn [] 0 0, pn [3] 0 0, pn [3,4] 0 0, pn [3,4,5] 0 0, pn (rg 3 4) 0 0, pe (rg 0 8) 0] [8] [_,_] [[901,902]] (ka O Z Z (ka O Z Z (ka O Z Z (ka O Z Z (ka O Z Z (ka O Z Z (ka O Z Z (ka O Z Z (ai (ai (cq O [500,901,902,903,5,904,905,906] [901,902] (bin := [iB (bO SS a) g 1 2 3, aD g.paths, az g.conds, ao st, iW st.length 3 frm w 5 6 7, ao w.vars, ao w.facts, aE w.ev]) Z Z Z Z (t8 (sn := st.length) (st := st) (c := (bO SS a)) (frm := frm) (g := g) (w := w) (to := -1) (fs := a.post) h1 h2 hw.ctx hw.vars (iN hv.post) (by omega) (by omega)) Z Z Z Z Z (B0 := 231000) Z Z Z Z Z Z Z) Z) trivial))))))))) ?_)
  refine jw [220,221,204,205,195,196,185,186,169,170,149,150,145,146,129,130,111,112,100,101,90,91,83,84,82,81,10,80,9,78,48,8,32,23,2,3,4,5] Z (ct ?_)
  refine i6 ?_
  rw [← hG]
  refine ⟨.inl Z, _, (af 231009 510 Z Z).trans (af 231008 511 Z Z), _, Z, Z, Z⟩
  exact absurd (bB hc220) (by omega)
 | l6 hi hp hop hs =>
  rw [iK hb hi hp hop hs] at hG
  have hin := tj.1 hi
  obtain ⟨k, rfl⟩ : ∃ k : Nat, z = (k : Int) := ⟨z.toNat, by omega⟩
  obtain ⟨x, hx⟩ : ∃ x, a.code.getD k default = x := ⟨_, rfl⟩
  have hxi : aT x = true := by rw [← hx, aw (by omega)]; exact hv.ok.code _ (List.getElem_mem (by omega))
  rw [Int.toNat_natCast, hx] at hop
  refine am (ag (ae (j4 O Z Z Z Z (j2 O Z Z ?_))))
  first | refine bw O Z ?_ | refine js O Z ?_ | refine bb O Z Z ?_
  refine jf [30,24,23,2,3,4,5] Z (ac O Z Z Z Z ((qx (k := (k : Int)) (n := a.code.length) h1 h2 (by omega)).plain (u := eB (dd a.code.length (k : Int))) Z) (aa Z) Z Z Z Z Z (B0 := 32000) Z (js O Z (jf [32,23,2,3,4,5] Z (jn (ab O Z Z (fun hc32 => ?_) (fun hc32 => ?_))))))
  exact absurd hc32 (by rw [hi]; decide)
  refine ah (ag (ae (j4 O Z Z Z Z (js O Z (jf [41,40,32,23,2,3,4,5] Z (ac O Z Z Z Z ((mL (a := a) (k := (k : Int)) h1 h2).plain (u := eI (dr a.pts (k : Int))) Z) (aa Z) Z Z Z Z Z (B0 := 43000) Z (js O Z (jf [8,32,23,2,3,4,5] Z (aN (j3 O Z Z Z (jf [45,8,32,23,2,3,4,5] Z (aR 2 Z Z Z (fun hx => AN.step hx Z Z Z (V O Z) Z Z ( AN.step hx Z Z Z (V O Z) Z Z ( AN.nil))) Z Z ?_))))))))))))
  first | refine AOps.step (aK O Z Z Z Z Z) Z Z Z ?_ | refine AOps.step (aM O Z Z Z Z Z) Z Z Z ?_ | refine AOps.step (Val.pickB O Z Z Z Z Z) Z Z Z ?_
  refine jf [48,8,32,23,2,3,4,5] Z (jn (ab O Z Z (fun hc48 => ?_) (fun hc48 => ?_)))
  exact absurd hc48 (by rw [eT, hp]; decide)
  refine ah (ae (j4 O Z Z Z Z (j2 O Z Z (AOps.step ((aS O Z Z Z Z Z Z Z Z (c9 (by omega))).cast (v' := ptr (In.cells x)) (by rw [hx])) Z Z Z (js O Z (jf [78,48,8,32,23,2,3,4,5] Z (jl O Z (ap ?_))))))))
  refine jo O Z (ap ?_)
  refine aN (js O Z (AOps.step ((aG O Z Z (by omega) (by omega)).cast (v' := eI ((k : Int) + 1)) Z) Z Z Z (jf [80,9,78,48,8,32,23,2,3,4,5] Z (jl O Z (ap ?_)))))
  refine jo O Z (ap ?_)
  refine jn (ag (ae (j2 O Z Z (jn (am (ae (j2 O Z Z (jn (ab O Z Z (fun hc83 => ?_) (fun hc83 => ?_))))))))))
  exact absurd (aQ hc83) (by omega)
  refine ae (j2 O Z Z (jn (ab O Z Z (fun hc90 => ?_) (fun hc90 => ?_))))
  exact absurd (aQ hc90) (by omega)
  refine ae (j2 O Z Z (jn (ab O Z Z (fun hc100 => ?_) (fun hc100 => ?_))))
  exact absurd (aQ hc100) (by omega)
  refine ae (j2 O Z Z (jn (ab O Z Z (fun hc111 => ?_) (fun hc111 => ?_))))
  exact absurd (aQ hc111) (by omega)
  refine ae (j2 O Z Z (jn (ab O Z Z (fun hc129 => ?_) (fun hc129 => ?_))))
  exact absurd (aQ hc129) (by omega)
  refine ae (j2 O Z Z (jn (ab O Z Z (fun hc145 => ?_) (fun hc145 => ?_))))
  exact absurd (aQ hc145) (by omega)
  refine ae (j2 O Z Z (jn (ab O Z Z (fun hc149 => ?_) (fun hc149 => ?_))))
  refine ae (js O Z (aq O [500,901,902,903,5,904,905,906] (bin := [iB (bO SS a) g 1 2 3, aD g.paths, az g.conds, ao st, iW st.length 3 frm w 5 6 7, ao w.vars, ao w.facts, aE w.ev]) Z Z Z Z (jj (c := (bO SS a)) (frm := frm) (g := g) (w := w) (st := st) h1 h2 (by omega)) Z Z Z Z Z Z (B0 := 153000) Z Z (ap ?_)))
  refine AOps.step (bD O Z Z Z Z Z Z Z Z (by simp) Z) Z Z Z (js O Z (jf [154,149,150,145,146,129,130,111,112,100,101,90,91,83,84,82,81,10,80,9,78,48,8,32,23,2,3,4,5] Z (jl O Z (ap ?_))))
  refine jo O Z (ap ?_)
  refine jn (ag (ae (j4 O Z Z Z Z (j2 O Z Z (jf [160,16,154,149,150,145,146,129,130,111,112,100,101,90,91,83,84,82,81,10,80,9,78,48,8,32,23,2,3,4,5] Z (jn (ab O Z Z (fun hc160 => ?_) (fun hc160 => ?_))))))))
  exact absurd hc160 (by rw [show (g.flag true).bad = true from cb]; decide)
  refine ah (i6 ?_)
  rw [← hG]
  refine ⟨.inl Z, _, (af 901 510 Z Z).trans (af 902 511 Z Z), _, Z, Z, Z⟩
  exact absurd (bB hc149) (by omega)
 | h6 hi hp hop hs =>
  rw [f4 hb hi hp hop (by omega)] at hG
  have hin := tj.1 hi
  obtain ⟨k, rfl⟩ : ∃ k : Nat, z = (k : Int) := ⟨z.toNat, by omega⟩
  obtain ⟨x, hx⟩ : ∃ x, a.code.getD k default = x := ⟨_, rfl⟩
  have hxi : aT x = true := by rw [← hx, aw (by omega)]; exact hv.ok.code _ (List.getElem_mem (by omega))
  rw [Int.toNat_natCast, hx] at hop
  rw [Int.toNat_natCast, hx] at hG
  have htg := pk hi (by rw [Int.toNat_natCast, hx]; exact hop)
  rw [Int.toNat_natCast, hx] at htg
  have q1 : GC n (cZ w (bn st) g) := hg.more (show n + 1 ≤ 100 by omega) Z (fun _ => hb) (Nat.le_add_right _ _)
  have q2 := hJ qU hv (frm := frm) (n := n) (at_ := (k : Int) + 1) (b := false) (w := w.fact (bn st)) (st := cH st) (by omega) q1
  have hlong : (dD iq a frm n ((k : Int) + 1) false (w.fact (bn st)) (cH st) (cZ w (bn st) g)).bad = false → (w.fact (bn st)).long = false := fun hq => by
   cases h9 : (cZ w (bn st) g).bad with
   | false => exact (kq h9).2
   | true => rw [cf h9, h9] at hq; cases hq
  have htop : (bn st).ok = true := dI hw.sok
  have hT := fun s2 (es : s2 = cH st) => (vv (c := (bO SS a)) (g := g) (frm := frm) (w := w) (t := bn st) (st := s2) (d8 := .int .i64 ((k : Int) + 1)) (x := x) (Y := fun u h => dD iq a frm n ((k : Int) + 1) false u s2 h) (N := fun u h => dD iq a frm n x.a false u s2 h) h1 h2 (fun u g h => cf h) (fun u g h => cf h) htop (by omega) (by omega) (by omega) (by rw [es, wh]; omega) (fun hq => xj h1 h2 (by subst es; exact ih n (by omega) (hfu.step hcl hi hp htg.1) (fun _ => hw.test (kq hq).2) (fun _ => q1))) (fun hq => xi h1 h2 (by subst es; exact ih n (by omega) (hfu.step hcl hi hp htg.2) (fun _ => hw.test (by rw [j1 (u := bn st)]; exact hlong hq)) (fun _ => q2.any hq))))
  refine am (ag (ae (j4 O Z Z Z Z (j2 O Z Z ?_))))
  first | refine bw O Z ?_ | refine js O Z ?_ | refine bb O Z Z ?_
  refine jf [30,24,23,2,3,4,5] Z (ac O Z Z Z Z ((qx (k := (k : Int)) (n := a.code.length) h1 h2 (by omega)).plain (u := eB (dd a.code.length (k : Int))) Z) (aa Z) Z Z Z Z Z (B0 := 32000) Z (js O Z (jf [32,23,2,3,4,5] Z (jn (ab O Z Z (fun hc32 => ?_) (fun hc32 => ?_))))))
  exact absurd hc32 (by rw [hi]; decide)
  refine ah (ag (ae (j4 O Z Z Z Z (js O Z (jf [41,40,32,23,2,3,4,5] Z (ac O Z Z Z Z ((mL (a := a) (k := (k : Int)) h1 h2).plain (u := eI (dr a.pts (k : Int))) Z) (aa Z) Z Z Z Z Z (B0 := 43000) Z (js O Z (jf [8,32,23,2,3,4,5] Z (aN (j3 O Z Z Z (jf [45,8,32,23,2,3,4,5] Z (aR 2 Z Z Z (fun hx => AN.step hx Z Z Z (V O Z) Z Z ( AN.step hx Z Z Z (V O Z) Z Z ( AN.nil))) Z Z ?_))))))))))))
  first | refine AOps.step (aK O Z Z Z Z Z) Z Z Z ?_ | refine AOps.step (aM O Z Z Z Z Z) Z Z Z ?_ | refine AOps.step (Val.pickB O Z Z Z Z Z) Z Z Z ?_
  refine jf [48,8,32,23,2,3,4,5] Z (jn (ab O Z Z (fun hc48 => ?_) (fun hc48 => ?_)))
  exact absurd hc48 (by rw [eT, hp]; decide)
  refine ah (ae (j4 O Z Z Z Z (j2 O Z Z (AOps.step ((aS O Z Z Z Z Z Z Z Z (c9 (by omega))).cast (v' := ptr (In.cells x)) (by rw [hx])) Z Z Z (js O Z (jf [78,48,8,32,23,2,3,4,5] Z (jl O Z (ap ?_))))))))
  refine jo O Z (ap ?_)
  refine aN (js O Z (AOps.step ((aG O Z Z (by omega) (by omega)).cast (v' := eI ((k : Int) + 1)) Z) Z Z Z (jf [80,9,78,48,8,32,23,2,3,4,5] Z (jl O Z (ap ?_)))))
  refine jo O Z (ap ?_)
  refine jn (ag (ae (j2 O Z Z (jn (am (ae (j2 O Z Z (jn (ab O Z Z (fun hc83 => ?_) (fun hc83 => ?_))))))))))
  exact absurd (aQ hc83) (by omega)
  refine ae (j2 O Z Z (jn (ab O Z Z (fun hc90 => ?_) (fun hc90 => ?_))))
  exact absurd (aQ hc90) (by omega)
  refine ae (j2 O Z Z (jn (ab O Z Z (fun hc100 => ?_) (fun hc100 => ?_))))
  exact absurd (aQ hc100) (by omega)
  refine ae (j2 O Z Z (jn (ab O Z Z (fun hc111 => ?_) (fun hc111 => ?_))))
  exact absurd (aQ hc111) (by omega)
  refine ae (j2 O Z Z (jn (ab O Z Z (fun hc129 => ?_) (fun hc129 => ?_))))
  exact absurd (aQ hc129) (by omega)
  refine ae (j2 O Z Z (jn (ab O Z Z (fun hc145 => ?_) (fun hc145 => ?_))))
  exact absurd (aQ hc145) (by omega)
  refine ae (j2 O Z Z (jn (ab O Z Z (fun hc149 => ?_) (fun hc149 => ?_))))
  refine ae (js O Z (aq O [500,901,902,903,5,904,905,906] (bin := [iB (bO SS a) g 1 2 3, aD g.paths, az g.conds, ao st, iW st.length 3 frm w 5 6 7, ao w.vars, ao w.facts, aE w.ev]) Z Z Z Z (fV (c := (bO SS a)) (frm := frm) (g := g) (w := w) (st := st) (k := 1) h1 h2 hs (by omega)) Z Z Z Z Z Z (B0 := 153000) Z Z (ap ?_)))
  refine js O Z (AOps.step (ar O (ex := Tm.cells (bn st)) Z Z Z Z (nA (n := (st.length - 1)) (by omega) (by omega)) Z) Z Z Z (jf [154,149,150,145,146,129,130,111,112,100,101,90,91,83,84,82,81,10,80,9,78,48,8,32,23,2,3,4,5] Z (jl O Z (ap ?_))))
  refine jo O Z (ap ?_)
  refine jn (ag (ae (j4 O Z Z Z Z (j2 O Z Z (jf [160,16,154,149,150,145,146,129,130,111,112,100,101,90,91,83,84,82,81,10,80,9,78,48,8,32,23,2,3,4,5] Z (jn (ab O Z Z (fun hc160 => ?_) (fun hc160 => ?_))))))))
  obtain ⟨s2, es⟩ : ∃ s2, s2 = cH st := ⟨_, rfl⟩
  have hs2 : st.length - 1 = s2.length := by rw [es]; exact wh.symm
  refine gx (Ent.cut 903 (st.length - 1) Z) (ct ?_)
  rw [← List.map_take, show List.take (st.length - 1) st = s2 from es.symm, hs2]
  have hT := hT s2 es
  refine kX O [_,_,_,_,_,_,_,_] [pn [] 0 0, pn [0] 0 0, pn [0,1] 0 0, pn [] 0 0, pn [] 0 0, pn [] 0 0, pn [] 0 0, pe (rg 0 7) 0] [7] [_,_] [[901,902,903,904,905,906]] (ka O Z Z (ka O Z Z (ka O Z Z (ka O Z Z (ka O Z Z (ka O Z Z (ka O Z Z (ai (ai (cq O [500,901,902,903,904,905,906,4,10,9] [901,902,903,904,905,906] (bin := [iB (bO SS a) g 1 2 3, aD g.paths, az g.conds, ao s2, ao w.vars, ao w.facts, aE w.ev, pB 0, xB (.int .i64 ((k : Int) + 1)), bX x]) Z Z Z Z (hT) Z Z Z Z Z (B0 := 169000) Z Z Z Z Z Z Z) Z) trivial)))))))) ?_
  refine jw [160,16,154,149,150,145,146,129,130,111,112,100,101,90,91,83,84,82,81,10,80,9,78,48,8,32,23,2,3,4,5] Z (ct ?_)
  refine i6 ?_
  subst es
  rw [← hG]
  refine ⟨.inl Z, _, (af 169010 510 Z Z).trans (af 169011 511 Z Z), _, Z, Z, Z⟩
  exact absurd hc160 (by rw [hb]; decide)
  exact absurd (bB hc149) (by omega)
 | leaf hi hp h11 h6 hway =>
  have hin := tj.1 hi
  obtain ⟨k, rfl⟩ : ∃ k : Nat, z = (k : Int) := ⟨z.toNat, by omega⟩
  obtain ⟨x, hx⟩ : ∃ x, a.code.getD k default = x := ⟨_, rfl⟩
  have hxi : aT x = true := by rw [← hx, aw (by omega)]; exact hv.ok.code _ (List.getElem_mem (by omega))
  rw [Int.toNat_natCast, hx] at h11 h6 hway
  have hci2 := CI.leaf hcl hxi hci hb hi hp (by rw [Int.toNat_natCast]; exact hx) h11 h6
  have hin1 : x.op = 1 ∨ x.op = 2 → 0 ≤ x.a ∧ x.a ≤ 3 := fun e => by unfold aT at hxi; rw [if_neg (by omega), if_pos e] at hxi; simpa [dp] using hxi
  have hin4 : x.op = 4 → num x.a = true := fun e => by unfold aT at hxi; rw [if_pos (.inr e)] at hxi; exact hxi
  refine am (ag (ae (j4 O Z Z Z Z (j2 O Z Z ?_))))
  first | refine bw O Z ?_ | refine js O Z ?_ | refine bb O Z Z ?_
  refine jf [30,24,23,2,3,4,5] Z (ac O Z Z Z Z ((qx (k := (k : Int)) (n := a.code.length) h1 h2 (by omega)).plain (u := eB (dd a.code.length (k : Int))) Z) (aa Z) Z Z Z Z Z (B0 := 32000) Z (js O Z (jf [32,23,2,3,4,5] Z (jn (ab O Z Z (fun hc32 => ?_) (fun hc32 => ?_))))))
  exact absurd hc32 (by rw [hi]; decide)
  refine ah (ag (ae (j4 O Z Z Z Z (js O Z (jf [41,40,32,23,2,3,4,5] Z (ac O Z Z Z Z ((mL (a := a) (k := (k : Int)) h1 h2).plain (u := eI (dr a.pts (k : Int))) Z) (aa Z) Z Z Z Z Z (B0 := 43000) Z (js O Z (jf [8,32,23,2,3,4,5] Z (aN (j3 O Z Z Z (jf [45,8,32,23,2,3,4,5] Z (aR 2 Z Z Z (fun hx => AN.step hx Z Z Z (V O Z) Z Z ( AN.step hx Z Z Z (V O Z) Z Z ( AN.nil))) Z Z ?_))))))))))))
  first | refine AOps.step (aK O Z Z Z Z Z) Z Z Z ?_ | refine AOps.step (aM O Z Z Z Z Z) Z Z Z ?_ | refine AOps.step (Val.pickB O Z Z Z Z Z) Z Z Z ?_
  refine jf [48,8,32,23,2,3,4,5] Z (jn (ab O Z Z (fun hc48 => ?_) (fun hc48 => ?_)))
  exact absurd hc48 (by rw [eT, hp]; decide)
  refine ah (ae (j4 O Z Z Z Z (j2 O Z Z (AOps.step ((aS O Z Z Z Z Z Z Z Z (c9 (by omega))).cast (v' := ptr (In.cells x)) (by rw [hx])) Z Z Z (js O Z (jf [78,48,8,32,23,2,3,4,5] Z (jl O Z (ap ?_))))))))
  refine jo O Z (ap ?_)
  refine aN (js O Z (AOps.step ((aG O Z Z (by omega) (by omega)).cast (v' := eI ((k : Int) + 1)) Z) Z Z Z (jf [80,9,78,48,8,32,23,2,3,4,5] Z (jl O Z (ap ?_)))))
  refine jo O Z (ap ?_)
  refine jn (ag (ae (j2 O Z Z (jn ?_))))
  obtain ⟨d, ed⟩ : ∃ d, d = bZ x w st g := ⟨_, rfl⟩
  refine cU ⟨[(4, .c (.pt 4 0 0)), (5, .c (.pt 5 0 0)), (10, .c (.pt 10 0 0))], [(4, pB 500), (10, xB (.int .i64 (i2 x (k : Int)))), (5, iW d.st.length 903 frm d.w 904 905 906), (500, iB (bO SS a) d.g 901 902 503), (901, aD d.g.paths), (902, az d.g.conds), (903, ao d.st), (904, ao d.w.vars), (905, ao d.w.facts), (906, aE d.w.ev)]⟩ ?_ ?_
  cases hway with
  | o0 he =>
   refine am (ae (j2 O Z Z (jn (ab O Z Z (fun hc83 => ?_) (fun hc83 => ?_)))))
   refine ak (j4 O Z Z Z Z (jf [88,85,83,84,82,81,10,80,9,78,48,8,32,23,2,3,4,5] Z (aq O [500,901,902,903,5,904,905,906] (bin := [iB (bO SS a) g 1 2 3, aD g.paths, az g.conds, ao st, iW st.length 3 frm w 5 6 7, ao w.vars, ao w.facts, aE w.ev]) Z Z Z Z (uP (c := (bO SS a)) (frm := frm) (g := g) (w := w) (st := st) (n := x.a) (ok := true) h1 h2 (by omega)) Z Z Z Z Z Z (B0 := 90000) Z Z (ap ?_))))
   refine jf [83,84,82,81,10,80,9,78,48,8,32,23,2,3,4,5] Z (jn ?_)
   rw [ed, yH he, show i2 x (k : Int) = (k : Int) + 1 from if_neg (by omega)]
   refine nv ?_
   exact ⟨Z, ((av [4,10,5,500,901,902,90008,904,905,906] (e' := [(4, _), (5, _), (10, _)]) Z Z ⟨Z, Z, Z, trivial⟩ Z).trans (af 90008 903 Z Z)).trans (Ent.to ⟨Z, Z, Z, trivial⟩ Z)⟩
   exact absurd (bB hc83) (by omega)
  | o1 he =>
   have hxv := hin1 (.inl he)
   refine am (ae (j2 O Z Z (jn (ab O Z Z (fun hc83 => ?_) (fun hc83 => ?_)))))
   exact absurd (aQ hc83) (by omega)
   refine ae (j2 O Z Z (jn (ab O Z Z (fun hc90 => ?_) (fun hc90 => ?_))))
   refine jS O [_,_,_,_,_,_,_,_] [pn [] 0 0, pn [] 0 0, pn [1] 0 0, pn [] 0 0, pn [3] 0 0, pn (rg 1 4) 0 0, pn (rg 1 5) 0 0, pe (rg 0 7) 0] [7] [_,_] (kc O Z (kc O Z (kc O Z (kc O Z (kc O Z (ai (vI O Z Z) (ai (ar O (ex := Tm.cells (w.vars.getD x.a.toNat default)) Z Z Z Z (nA (by omega) (by omega)) Z) (ai (bQ O [500,901,902,903,5,904,905,906] (bin := [iB (bO SS a) g 1 2 3, aD g.paths, az g.conds, ao st, iW st.length 3 frm w 5 6 7, ao w.vars, ao w.facts, aE w.ev]) Z Z Z Z (kd (c := (bO SS a)) (frm := frm) (g := g) (w := w) (st := st) (t := w.vars.getD x.a.toNat tz) (ok := true) h1 h2 (by omega)) Z Z Z Z Z (B0 := 100000) Z Z Z Z Z Z) trivial)))))))) ?_
   rw [ed, yG he, show i2 x (k : Int) = (k : Int) + 1 from if_neg (by omega)]
   refine nv ?_
   exact ⟨Z, ((av [4,10,5,500,901,902,100008,904,905,906] (e' := [(4, _), (5, _), (10, _)]) Z Z ⟨Z, Z, Z, trivial⟩ Z).trans (af 100008 903 Z Z)).trans (Ent.to ⟨Z, Z, Z, trivial⟩ Z)⟩
   exact absurd (bB hc90) (by omega)
  | l2 he hs =>
   have hxv := hin1 (.inr he)
   refine am (ae (j2 O Z Z (jn (ab O Z Z (fun hc83 => ?_) (fun hc83 => ?_)))))
   exact absurd (aQ hc83) (by omega)
   refine ae (j2 O Z Z (jn (ab O Z Z (fun hc90 => ?_) (fun hc90 => ?_))))
   exact absurd (aQ hc90) (by omega)
   refine ae (j2 O Z Z (jn (ab O Z Z (fun hc100 => ?_) (fun hc100 => ?_))))
   refine jS O [_,_,_,_,_,_,_,_,_,_] [pn [] 0 1, pn [0] 0 1, pn [] 0 1, pn [2] 0 1, pn [] 0 0, pe [4] 0, pn [4,5] 1 1, pn [4,5,6] 1 1, pn (rg 0 8) 1 1, pe (rg 0 9) 1] [5,9] [_,_,_] (ai (kc O Z (V O Z)) (ai (kc O Z (V O Z)) (ai (kc O Z (V O Z)) (ai (kc O Z (V O Z)) (kc O Z (ai (bQ O [500,901,902,903,5,904,905,906] (bin := [iB (bO SS a) g 1 2 3, aD g.paths, az g.conds, ao st, iW st.length 3 frm w 5 6 7, ao w.vars, ao w.facts, aE w.ev]) Z Z Z Z (jj (c := (bO SS a)) (frm := frm) (g := g) (w := w) (st := st) h1 h2 (by omega)) Z Z Z Z Z (B0 := 108000) Z Z Z Z Z Z) (ai (bD O Z Z Z Z Z Z Z Z (by simp) Z) (kc O Z (ai (vI O Z Z) (ai (cX (ex := Tm.cells (w.vars.getD x.a.toNat default)) (xs' := (w.vars.set x.a.toNat tz).map Tm.cells) O Z Z Z Z Z Z Z Z Z Z Z Z Z Z Z (nA (by omega) (by omega)) (xS (v := tz) (by omega) Z) Z) trivial)))))))))) ?_
   rw [ed, wd he, (qv (g := g) hs).1, (qv (g := g) hs).2.1, (qv (g := g) hs).2.2, show i2 x (k : Int) = (k : Int) + 1 from if_neg (by omega)]
   refine nv ?_
   exact ⟨Z, (av [4,10,5,500,901,902,903,904,905,906] (e' := [(4, _), (5, _), (10, _)]) Z Z ⟨Z, Z, Z, trivial⟩ Z).trans (Ent.to ⟨Z, Z, Z, trivial⟩ (by simp only [Pw.set, iW, List.length_set]; rfl))⟩
   exact absurd (bB hc100) (by omega)
  | h2 he hs =>
   have hxv := hin1 (.inr he)
   refine am (ae (j2 O Z Z (jn (ab O Z Z (fun hc83 => ?_) (fun hc83 => ?_)))))
   exact absurd (aQ hc83) (by omega)
   refine ae (j2 O Z Z (jn (ab O Z Z (fun hc90 => ?_) (fun hc90 => ?_))))
   exact absurd (aQ hc90) (by omega)
   refine ae (j2 O Z Z (jn (ab O Z Z (fun hc100 => ?_) (fun hc100 => ?_))))
   refine jS O [_,_,_,_,_,_,_,_,_,_] [pn [] 0 1, pn [0] 0 1, pn [] 0 1, pn [2] 0 1, pn [] 0 0, pe [4] 0, pn [4,5] 1 1, pn [4,5,6] 1 1, pn (rg 0 8) 1 1, pe (rg 0 9) 1] [5,9] [_,_,_] (ai (kc O Z (V O Z)) (ai (kc O Z (V O Z)) (ai (kc O Z (V O Z)) (ai (kc O Z (V O Z)) (kc O Z (ai (bQ O [500,901,902,903,5,904,905,906] (bin := [iB (bO SS a) g 1 2 3, aD g.paths, az g.conds, ao st, iW st.length 3 frm w 5 6 7, ao w.vars, ao w.facts, aE w.ev]) Z Z Z Z (fV (c := (bO SS a)) (frm := frm) (g := g) (w := w) (st := st) (k := 1) h1 h2 hs (by omega)) Z Z Z Z Z (B0 := 108000) Z Z Z Z Z Z) (kc O Z (ai (ar O (ex := Tm.cells (bn st)) Z Z Z Z (nA (n := (st.length - 1)) (by omega) (by omega)) Z) (ai (vI O Z Z) (ai (cX (ex := Tm.cells (w.vars.getD x.a.toNat default)) (xs' := (w.vars.set x.a.toNat (bn st)).map Tm.cells) O Z Z Z Z Z Z Z Z Z Z Z Z Z Z Z (nA (by omega) (by omega)) (xS (v := (bn st)) (by omega) Z) Z) trivial)))))))))) ?_
   rw [ed, wd he, (jW (g := g) hs).1, (jW (g := g) hs).2.1, (jW (g := g) hs).2.2, show i2 x (k : Int) = (k : Int) + 1 from if_neg (by omega)]
   refine nv ?_
   exact ⟨Z, (Ent.cut 903 (st.length - 1) Z).trans ((av [4,10,5,500,901,902,903,904,905,906] (e' := [(4, _), (5, _), (10, _)]) Z Z ⟨Z, Z, Z, trivial⟩ Z).trans (Ent.to ⟨Z, Z, Z, trivial⟩ (by rw [← List.map_take, show (cH st).length = st.length - 1 from wh]; simp only [Pw.set, iW, List.length_set]; rfl)))⟩
   exact absurd (bB hc100) (by omega)
  | l3 he hs =>
   refine am (ae (j2 O Z Z (jn (ab O Z Z (fun hc83 => ?_) (fun hc83 => ?_)))))
   exact absurd (aQ hc83) (by omega)
   refine ae (j2 O Z Z (jn (ab O Z Z (fun hc90 => ?_) (fun hc90 => ?_))))
   exact absurd (aQ hc90) (by omega)
   refine ae (j2 O Z Z (jn (ab O Z Z (fun hc100 => ?_) (fun hc100 => ?_))))
   exact absurd (aQ hc100) (by omega)
   refine ae (j2 O Z Z (jn (ab O Z Z (fun hc111 => ?_) (fun hc111 => ?_))))
   refine ae (js O Z (aq O [500,901,902,903,5,904,905,906] (bin := [iB (bO SS a) g 1 2 3, aD g.paths, az g.conds, ao st, iW st.length 3 frm w 5 6 7, ao w.vars, ao w.facts, aE w.ev]) Z Z Z Z (rD (c := (bO SS a)) (frm := frm) (g := g) (w := w) (st := st) h1 h2 (by omega)) Z Z Z Z Z Z (B0 := 115000) Z Z (ap ?_)))
   refine js O Z (jf [11,111,112,100,101,90,91,83,84,82,81,10,80,9,78,48,8,32,23,2,3,4,5] Z (jn (ag (pO O [_,_,_,_,_,_,_,_,_,_,_,_,_] [pn [] 0 0, pn [0] 0 0, pn [0,1] 0 0, pn [] 0 0, pn [3] 0 0, pn [3,4] 0 0, pe [0,1,2,3,4,5] 0, pn [0,1,2,3,4,5,6] 1 1, pn [0,1,2,3,4,5,6,7] 1 1, pn [0,1,2,3,4,5,6,7] 1 2, pn [] 0 1, pe [0,1,2,3,4,5,6,7,8,10] 1, pn [0,1,2,3,4,5,6,7,8,9,10,11] 2 2] [6,11] 10 12 (.box [.d (.int .i64 0), .d .nils]) [_,_] [_] [[], []] (kf O Z Z Z (ai (ai (aF (bD O Z Z Z Z Z Z Z Z (by simp) Z) (bD O Z Z Z Z Z Z Z Z (by simp) Z)) Z) (kf O Z Z Z (kf O Z Z Z (ai (ai (aF (bD O Z Z Z Z Z Z Z Z (by simp) Z) (bD O Z Z Z Z Z Z Z Z (by simp) Z)) Z) (kf O Z Z Z (ai (ai (aF (aO (aW O (B0 := 123000) Z Z Z Z (oV (u := tz) (t := tz) h1 h2 fU fU) (aa Z) Z Z Z Z Z)) (aO (aW O (B0 := 123000) Z Z Z Z (oV (u := tz) (t := tz) h1 h2 fU fU) (aa Z) Z Z Z Z Z))) Z) (kf O Z Z Z (kf O Z Z Z (ai (kf O Z Z Z (kg O Z Z Z)) (ai (ai (ai (aO (Eff.alloc O Z Z Z Z Z Z)) Z) (ai (aO (Eff.alloc O Z Z Z Z Z Z)) Z)) (ai (ai (aF trivial (aO (eS O Z Z Z))) Z) (ai (ai (aF trivial (V O Z)) Z) trivial))))))))))))) ?_))))
   refine jw [13,12,111,112,100,101,90,91,83,84,82,81,10,80,9,78,48,8,32,23,2,3,4,5] Z (ct ?_)
   refine ak (j3 O Z Z Z (jf [127,126,125,12,111,112,100,101,90,91,83,84,82,81,10,80,9,78,48,8,32,23,2,3,4,5] Z (aq O [500,901,902,903,5,904,905,906] (bin := [iB (bO SS a) (g.flag true) 1 2 3, aD (g.flag true).paths, az (g.flag true).conds, ao st, iW st.length 3 frm w 5 6 7, ao w.vars, ao w.facts, aE w.ev]) Z Z Z Z (kd (c := (bO SS a)) (frm := frm) (g := (g.flag true)) (w := w) (st := st) (t := (dY tz tz).1) (ok := (dY tz tz).2) h1 h2 (by omega)) Z Z Z Z Z Z (B0 := 129000) Z Z (ap ?_))))
   refine jf [12,111,112,100,101,90,91,83,84,82,81,10,80,9,78,48,8,32,23,2,3,4,5] Z (jn ?_)
   rw [ed, wc he, (uj (g := g) hs).1, (uj (g := g) hs).2.1, (uj (g := g) hs).2.2.1, (uj (g := g) hs).2.2.2, show i2 x (k : Int) = (k : Int) + 1 from if_neg (by omega)]
   refine nv ?_
   exact ⟨Z, ((av [4,10,5,500,901,902,129008,904,905,906] (e' := [(4, _), (5, _), (10, _)]) Z Z ⟨Z, Z, Z, trivial⟩ Z).trans (af 129008 903 Z Z)).trans (Ent.to ⟨Z, Z, Z, trivial⟩ Z)⟩
   exact absurd (bB hc111) (by omega)
  | h3 he hs =>
   have htop : (bn st).ok = true := dI hw.sok
   have hund : (i4 st).ok = true := dI hw.sok
   refine am (ae (j2 O Z Z (jn (ab O Z Z (fun hc83 => ?_) (fun hc83 => ?_)))))
   exact absurd (aQ hc83) (by omega)
   refine ae (j2 O Z Z (jn (ab O Z Z (fun hc90 => ?_) (fun hc90 => ?_))))
   exact absurd (aQ hc90) (by omega)
   refine ae (j2 O Z Z (jn (ab O Z Z (fun hc100 => ?_) (fun hc100 => ?_))))
   exact absurd (aQ hc100) (by omega)
   refine ae (j2 O Z Z (jn (ab O Z Z (fun hc111 => ?_) (fun hc111 => ?_))))
   refine ae (js O Z (aq O [500,901,902,903,5,904,905,906] (bin := [iB (bO SS a) g 1 2 3, aD g.paths, az g.conds, ao st, iW st.length 3 frm w 5 6 7, ao w.vars, ao w.facts, aE w.ev]) Z Z Z Z (fV (c := (bO SS a)) (frm := frm) (g := g) (w := w) (st := st) (k := 2) h1 h2 hs (by omega)) Z Z Z Z Z Z (B0 := 115000) Z Z (ap ?_)))
   refine js O Z (jf [11,111,112,100,101,90,91,83,84,82,81,10,80,9,78,48,8,32,23,2,3,4,5] Z (jn (ag (pO O [_,_,_,_,_,_,_,_,_,_,_,_,_] [pn [] 0 0, pn [0] 0 0, pn [0,1] 0 0, pn [] 0 0, pn [3] 0 0, pn [3,4] 0 0, pe [0,1,2,3,4,5] 0, pn [0,1,2,3,4,5,6] 1 1, pn [0,1,2,3,4,5,6,7] 1 1, pn [0,1,2,3,4,5,6,7] 1 2, pn [] 0 1, pe [0,1,2,3,4,5,6,7,8,10] 1, pn [0,1,2,3,4,5,6,7,8,9,10,11] 2 2] [6,11] 10 12 (.box [.d (.int .i64 0), .d .nils]) [_,_] [_] [[], []] (kf O Z Z Z (kf O Z Z Z (ai (ai (aF (ar O (ex := Tm.cells (i4 st)) Z Z Z Z (nA (n := (st.length - 2)) (by omega) (by omega)) Z) (ar O (ex := Tm.cells (i4 st)) Z Z Z Z (nA (n := (st.length - 2)) (by omega) (by omega)) Z)) Z) (kf O Z Z Z (kf O Z Z Z (ai (ai (aF (ar O (ex := Tm.cells (bn st)) Z Z Z Z (nA (n := (st.length - 1)) (by omega) (by omega)) Z) (ar O (ex := Tm.cells (bn st)) Z Z Z Z (nA (n := (st.length - 1)) (by omega) (by omega)) Z)) Z) (ai (ai (aF (aO (aW O (B0 := 123000) Z Z Z Z (oV (u := (i4 st)) (t := (bn st)) h1 h2 hund htop) (aa Z) Z Z Z Z Z)) (aO (aW O (B0 := 123000) Z Z Z Z (oV (u := (i4 st)) (t := (bn st)) h1 h2 hund htop) (aa Z) Z Z Z Z Z))) Z) (kf O Z Z Z (kf O Z Z Z (ai (kf O Z Z Z (kg O Z Z Z)) (ai (ai (ai (aO (Eff.alloc O Z Z Z Z Z Z)) Z) (ai (aO (Eff.alloc O Z Z Z Z Z Z)) Z)) (ai (ai (aF trivial (aO (eS O Z Z Z))) Z) (ai (ai (aF trivial (V O Z)) Z) trivial))))))))))))) ?_))))
   refine jw [13,12,111,112,100,101,90,91,83,84,82,81,10,80,9,78,48,8,32,23,2,3,4,5] Z (ct ?_)
   refine ak ?_
   obtain ⟨s2, es⟩ : ∃ s2, s2 = mz st := ⟨_, rfl⟩
   have hs2 : st.length - 2 = s2.length := by rw [es]; exact yL.symm
   refine ay (Ent.cut 903 (st.length - 2) Z) (ap ?_)
   rw [← List.map_take, show List.take (st.length - 2) st = s2 from es.symm, hs2]
   refine j3 O Z Z Z (jf [127,126,125,12,111,112,100,101,90,91,83,84,82,81,10,80,9,78,48,8,32,23,2,3,4,5] Z (aq O [500,901,902,903,5,904,905,906] (bin := [iB (bO SS a) g 1 2 3, aD g.paths, az g.conds, ao s2, iW s2.length 3 frm w 5 6 7, ao w.vars, ao w.facts, aE w.ev]) Z Z Z Z (kd (c := (bO SS a)) (frm := frm) (g := g) (w := w) (st := s2) (t := (dY (i4 st) (bn st)).1) (ok := (dY (i4 st) (bn st)).2) h1 h2 (by omega)) Z Z Z Z Z Z (B0 := 129000) Z Z (ap ?_)))
   refine jf [12,111,112,100,101,90,91,83,84,82,81,10,80,9,78,48,8,32,23,2,3,4,5] Z (jn ?_)
   subst es
   rw [ed, wc he, (i5 (g := g) hs).1, (i5 (g := g) hs).2.1, (i5 (g := g) hs).2.2.1, (i5 (g := g) hs).2.2.2, show i2 x (k : Int) = (k : Int) + 1 from if_neg (by omega)]
   refine nv ?_
   exact ⟨Z, ((av [4,10,5,500,901,902,129008,904,905,906] (e' := [(4, _), (5, _), (10, _)]) Z Z ⟨Z, Z, Z, trivial⟩ Z).trans (af 129008 903 Z Z)).trans (Ent.to ⟨Z, Z, Z, trivial⟩ Z)⟩
   exact absurd (bB hc111) (by omega)
  | l4 he hs =>
   have hxn := hin4 he
   refine am (ae (j2 O Z Z (jn (ab O Z Z (fun hc83 => ?_) (fun hc83 => ?_)))))
   exact absurd (aQ hc83) (by omega)
   refine ae (j2 O Z Z (jn (ab O Z Z (fun hc90 => ?_) (fun hc90 => ?_))))
   exact absurd (aQ hc90) (by omega)
   refine ae (j2 O Z Z (jn (ab O Z Z (fun hc100 => ?_) (fun hc100 => ?_))))
   exact absurd (aQ hc100) (by omega)
   refine ae (j2 O Z Z (jn (ab O Z Z (fun hc111 => ?_) (fun hc111 => ?_))))
   exact absurd (aQ hc111) (by omega)
   refine ae (j2 O Z Z (jn (ab O Z Z (fun hc129 => ?_) (fun hc129 => ?_))))
   refine ag (pO O [_,_,_,_,_,_,_,_,_,_,_,_,_] [pn [] 0 0, pe [0] 0, pn [0,1] 1 1, pn [0,1,2] 1 1, pn [] 0 1, pn [4] 0 1, pe [0,1,2,3,4,5] 1, pn [0,1,2,3,4,5,6] 2 2, pn [0,1,2,3,4,5,6,7] 2 2, pn [0,1,2,3,4,5,6,7] 2 3, pn [] 0 2, pe [0,1,2,3,4,5,6,7,8,10] 2, pn [0,1,2,3,4,5,6,7,8,9,10,11] 3 3] [1,6,11] 10 14 (.box [.d (.int .i64 0), .d .nils]) [_,_,_] [_] [[], [], []] (kf O Z Z Z (ai (ai (aF (aO (bQ O [500,901,902,903,5,904,905,906] (bin := [iB (bO SS a) g 1 2 3, aD g.paths, az g.conds, ao st, iW st.length 3 frm w 5 6 7, ao w.vars, ao w.facts, aE w.ev]) Z Z Z Z (jj (c := (bO SS a)) (frm := frm) (g := g) (w := w) (st := st) h1 h2 (by omega)) Z Z Z Z Z (B0 := 134000) Z Z Z Z Z Z)) (aO (bQ O [500,901,902,903,5,904,905,906] (bin := [iB (bO SS a) g 1 2 3, aD g.paths, az g.conds, ao st, iW st.length 3 frm w 5 6 7, ao w.vars, ao w.facts, aE w.ev]) Z Z Z Z (jj (c := (bO SS a)) (frm := frm) (g := g) (w := w) (st := st) h1 h2 (by omega)) Z Z Z Z Z (B0 := 134000) Z Z Z Z Z Z))) Z) (ai (ai (aF (bD O Z Z Z Z Z Z Z Z (by simp) Z) (bD O Z Z Z Z Z Z Z Z (by simp) Z)) Z) (kf O Z Z Z (ai (kf O Z Z Z (kg O Z Z Z)) (ai (kf O Z Z Z (kg O Z Z Z)) (ai (ai (aF (aO (aW O (B0 := 139000) Z Z Z Z (oU (t := tz) (n := x.a) h1 h2 fU hxn) (aa Z) Z Z Z Z Z)) (aO (aW O (B0 := 139000) Z Z Z Z (oU (t := tz) (n := x.a) h1 h2 fU hxn) (aa Z) Z Z Z Z Z))) Z) (kf O Z Z Z (kf O Z Z Z (ai (kf O Z Z Z (kg O Z Z Z)) (ai (ai (ai (aO (Eff.alloc O Z Z Z Z Z Z)) Z) (ai (ai (aO (Eff.alloc O Z Z Z Z Z Z)) Z) (ai (aO (Eff.alloc O Z Z Z Z Z Z)) Z))) (ai (ai (aF trivial (aO (eS O Z Z Z))) Z) (ai (ai (aF trivial (V O Z)) Z) trivial))))))))))))) ?_)
   refine jw [15,14,129,130,111,112,100,101,90,91,83,84,82,81,10,80,9,78,48,8,32,23,2,3,4,5] Z (ct ?_)
   refine ak (j3 O Z Z Z (jf [143,142,141,14,129,130,111,112,100,101,90,91,83,84,82,81,10,80,9,78,48,8,32,23,2,3,4,5] Z (aq O [500,901,902,903,5,904,905,906] (bin := [iB (bO SS a) (g.flag true) 1 2 3, aD (g.flag true).paths, az (g.flag true).conds, ao st, iW st.length 3 frm w 5 6 7, ao w.vars, ao w.facts, aE w.ev]) Z Z Z Z (kd (c := (bO SS a)) (frm := frm) (g := (g.flag true)) (w := w) (st := st) (t := (dW tz x.a).1) (ok := (dW tz x.a).2) h1 h2 (by omega)) Z Z Z Z Z Z (B0 := 145000) Z Z (ap ?_))))
   refine jf [14,129,130,111,112,100,101,90,91,83,84,82,81,10,80,9,78,48,8,32,23,2,3,4,5] Z (jn ?_)
   rw [ed, wb he, (qv (g := g) hs).1, (qv (g := g) hs).2.1, (qv (g := g) hs).2.2, show i2 x (k : Int) = (k : Int) + 1 from if_neg (by omega)]
   refine nv ?_
   exact ⟨Z, ((av [4,10,5,500,901,902,145008,904,905,906] (e' := [(4, _), (5, _), (10, _)]) Z Z ⟨Z, Z, Z, trivial⟩ Z).trans (af 145008 903 Z Z)).trans (Ent.to ⟨Z, Z, Z, trivial⟩ Z)⟩
   exact absurd (bB hc129) (by omega)
  | h4 he hs =>
   have hxn := hin4 he
   have htop : (bn st).ok = true := dI hw.sok
   refine am (ae (j2 O Z Z (jn (ab O Z Z (fun hc83 => ?_) (fun hc83 => ?_)))))
   exact absurd (aQ hc83) (by omega)
   refine ae (j2 O Z Z (jn (ab O Z Z (fun hc90 => ?_) (fun hc90 => ?_))))
   exact absurd (aQ hc90) (by omega)
   refine ae (j2 O Z Z (jn (ab O Z Z (fun hc100 => ?_) (fun hc100 => ?_))))
   exact absurd (aQ hc100) (by omega)
   refine ae (j2 O Z Z (jn (ab O Z Z (fun hc111 => ?_) (fun hc111 => ?_))))
   exact absurd (aQ hc111) (by omega)
   refine ae (j2 O Z Z (jn (ab O Z Z (fun hc129 => ?_) (fun hc129 => ?_))))
   refine ag (pO O [_,_,_,_,_,_,_,_,_,_,_,_,_] [pn [] 0 0, pe [0] 0, pn [0,1] 1 1, pn [0,1,2] 1 1, pn [] 0 1, pn [4] 0 1, pe [0,1,2,3,4,5] 1, pn [0,1,2,3,4,5,6] 2 2, pn [0,1,2,3,4,5,6,7] 2 2, pn [0,1,2,3,4,5,6,7] 2 3, pn [] 0 2, pe [0,1,2,3,4,5,6,7,8,10] 2, pn [0,1,2,3,4,5,6,7,8,9,10,11] 3 3] [1,6,11] 10 14 (.box [.d (.int .i64 0), .d .nils]) [_,_,_] [_] [[], [], []] (kf O Z Z Z (ai (ai (aF (aO (bQ O [500,901,902,903,5,904,905,906] (bin := [iB (bO SS a) g 1 2 3, aD g.paths, az g.conds, ao st, iW st.length 3 frm w 5 6 7, ao w.vars, ao w.facts, aE w.ev]) Z Z Z Z (fV (c := (bO SS a)) (frm := frm) (g := g) (w := w) (st := st) (k := 1) h1 h2 hs (by omega)) Z Z Z Z Z (B0 := 134000) Z Z Z Z Z Z)) (aO (bQ O [500,901,902,903,5,904,905,906] (bin := [iB (bO SS a) g 1 2 3, aD g.paths, az g.conds, ao st, iW st.length 3 frm w 5 6 7, ao w.vars, ao w.facts, aE w.ev]) Z Z Z Z (fV (c := (bO SS a)) (frm := frm) (g := g) (w := w) (st := st) (k := 1) h1 h2 hs (by omega)) Z Z Z Z Z (B0 := 134000) Z Z Z Z Z Z))) Z) (kf O Z Z Z (ai (ai (aF (ar O (ex := Tm.cells (bn st)) Z Z Z Z (nA (n := (st.length - 1)) (by omega) (by omega)) Z) (ar O (ex := Tm.cells (bn st)) Z Z Z Z (nA (n := (st.length - 1)) (by omega) (by omega)) Z)) Z) (ai (kf O Z Z Z (kg O Z Z Z)) (ai (kf O Z Z Z (kg O Z Z Z)) (ai (ai (aF (aO (aW O (B0 := 139000) Z Z Z Z (oU (t := (bn st)) (n := x.a) h1 h2 htop hxn) (aa Z) Z Z Z Z Z)) (aO (aW O (B0 := 139000) Z Z Z Z (oU (t := (bn st)) (n := x.a) h1 h2 htop hxn) (aa Z) Z Z Z Z Z))) Z) (kf O Z Z Z (kf O Z Z Z (ai (kf O Z Z Z (kg O Z Z Z)) (ai (ai (ai (aO (Eff.alloc O Z Z Z Z Z Z)) Z) (ai (ai (aO (Eff.alloc O Z Z Z Z Z Z)) Z) (ai (aO (Eff.alloc O Z Z Z Z Z Z)) Z))) (ai (ai (aF trivial (aO (eS O Z Z Z))) Z) (ai (ai (aF trivial (V O Z)) Z) trivial))))))))))))) ?_)
   refine jw [15,14,129,130,111,112,100,101,90,91,83,84,82,81,10,80,9,78,48,8,32,23,2,3,4,5] Z (ct ?_)
   refine ak ?_
   obtain ⟨s2, es⟩ : ∃ s2, s2 = cH st := ⟨_, rfl⟩
   have hs2 : st.length - 1 = s2.length := by rw [es]; exact wh.symm
   refine ay (Ent.cut 903 (st.length - 1) Z) (ap ?_)
   rw [← List.map_take, show List.take (st.length - 1) st = s2 from es.symm, hs2]
   refine j3 O Z Z Z (jf [143,142,141,14,129,130,111,112,100,101,90,91,83,84,82,81,10,80,9,78,48,8,32,23,2,3,4,5] Z (aq O [500,901,902,903,5,904,905,906] (bin := [iB (bO SS a) g 1 2 3, aD g.paths, az g.conds, ao s2, iW s2.length 3 frm w 5 6 7, ao w.vars, ao w.facts, aE w.ev]) Z Z Z Z (kd (c := (bO SS a)) (frm := frm) (g := g) (w := w) (st := s2) (t := (dW (bn st) x.a).1) (ok := (dW (bn st) x.a).2) h1 h2 (by omega)) Z Z Z Z Z Z (B0 := 145000) Z Z (ap ?_)))
   refine jf [14,129,130,111,112,100,101,90,91,83,84,82,81,10,80,9,78,48,8,32,23,2,3,4,5] Z (jn ?_)
   subst es
   rw [ed, wb he, (jW (g := g) hs).1, (jW (g := g) hs).2.1, (jW (g := g) hs).2.2, show i2 x (k : Int) = (k : Int) + 1 from if_neg (by omega)]
   refine nv ?_
   exact ⟨Z, ((av [4,10,5,500,901,902,145008,904,905,906] (e' := [(4, _), (5, _), (10, _)]) Z Z ⟨Z, Z, Z, trivial⟩ Z).trans (af 145008 903 Z Z)).trans (Ent.to ⟨Z, Z, Z, trivial⟩ Z)⟩
   exact absurd (bB hc129) (by omega)
  | o5 he =>
   refine am (ae (j2 O Z Z (jn (ab O Z Z (fun hc83 => ?_) (fun hc83 => ?_)))))
   exact absurd (aQ hc83) (by omega)
   refine ae (j2 O Z Z (jn (ab O Z Z (fun hc90 => ?_) (fun hc90 => ?_))))
   exact absurd (aQ hc90) (by omega)
   refine ae (j2 O Z Z (jn (ab O Z Z (fun hc100 => ?_) (fun hc100 => ?_))))
   exact absurd (aQ hc100) (by omega)
   refine ae (j2 O Z Z (jn (ab O Z Z (fun hc111 => ?_) (fun hc111 => ?_))))
   exact absurd (aQ hc111) (by omega)
   refine ae (j2 O Z Z (jn (ab O Z Z (fun hc129 => ?_) (fun hc129 => ?_))))
   exact absurd (aQ hc129) (by omega)
   refine ae (j2 O Z Z (jn (ab O Z Z (fun hc145 => ?_) (fun hc145 => ?_))))
   refine ak (j2 O Z Z (jf [148,145,146,129,130,111,112,100,101,90,91,83,84,82,81,10,80,9,78,48,8,32,23,2,3,4,5] Z (jo O Z (ap ?_))))
   refine jn ?_
   rw [ed, yF he, show i2 x (k : Int) = x.a from if_pos he]
   refine nv ?_
   exact ⟨Z, (av [4,10,5,500,901,902,903,904,905,906] (e' := [(4, _), (5, _), (10, _)]) Z Z ⟨Z, Z, Z, trivial⟩ Z).trans (Ent.to ⟨Z, Z, Z, trivial⟩ Z)⟩
   exact absurd (bB hc145) (by omega)
  | l7 he hs =>
   refine am (ae (j2 O Z Z (jn (ab O Z Z (fun hc83 => ?_) (fun hc83 => ?_)))))
   exact absurd (aQ hc83) (by omega)
   refine ae (j2 O Z Z (jn (ab O Z Z (fun hc90 => ?_) (fun hc90 => ?_))))
   exact absurd (aQ hc90) (by omega)
   refine ae (j2 O Z Z (jn (ab O Z Z (fun hc100 => ?_) (fun hc100 => ?_))))
   exact absurd (aQ hc100) (by omega)
   refine ae (j2 O Z Z (jn (ab O Z Z (fun hc111 => ?_) (fun hc111 => ?_))))
   exact absurd (aQ hc111) (by omega)
   refine ae (j2 O Z Z (jn (ab O Z Z (fun hc129 => ?_) (fun hc129 => ?_))))
   exact absurd (aQ hc129) (by omega)
   refine ae (j2 O Z Z (jn (ab O Z Z (fun hc145 => ?_) (fun hc145 => ?_))))
   exact absurd (aQ hc145) (by omega)
   refine ae (j2 O Z Z (jn (ab O Z Z (fun hc149 => ?_) (fun hc149 => ?_))))
   exact absurd (aQ hc149) (by omega)
   refine ae (j2 O Z Z (jn (ab O Z Z (fun hc169 => ?_) (fun hc169 => ?_))))
   refine ag (kX O [_,_,_,_,_,_,_,_] [pn [] 0 1, pn [0] 0 1, pn [0,1] 0 1, pn [] 0 0, pe [3] 0, pn [3,4] 1 1, pn [3,4,5] 1 1, pe (rg 0 7) 1] [4,7] [_, [(4, pB 500), (9, bX x), (10, xB (.int .i64 ((k : Int) + 1))), (500, iB (bO SS a) (g.flag true) 901 902 503), (901, aD (g.flag true).paths), (902, az (g.flag true).conds), (903, ao st), (5, iW st.length 903 frm w 904 905 906), (904, ao w.vars), (905, ao w.facts), (906, aE w.ev)], _] [[], [902]] (ai (ka O Z Z (kw O Z Z)) (ai (ka O Z Z (kw O Z Z)) (ai (ka O Z Z (kw O Z Z)) (ka O Z Z (ai (ai (aO (bQ O [500,901,902,903,5,904,905,906] (bin := [iB (bO SS a) g 1 2 3, aD g.paths, az g.conds, ao st, iW st.length 3 frm w 5 6 7, ao w.vars, ao w.facts, aE w.ev]) Z Z Z Z (jj (c := (bO SS a)) (frm := frm) (g := g) (w := w) (st := st) h1 h2 (by omega)) Z Z Z Z Z (B0 := 176000) Z Z Z Z Z Z)) Z) (ai (ai (bD O Z Z Z Z Z Z Z Z (by simp) Z) Z) (ka O Z Z (ai (ai (cq O [500,901,902,903,5,904,905,906] [902] (bin := [iB (bO SS a) (g.flag true) 1 2 3, aD (g.flag true).paths, az (g.flag true).conds, ao st, iW st.length 3 frm w 5 6 7, ao w.vars, ao w.facts, aE w.ev]) Z Z Z Z (pg (sn := st.length) (st := st) (c := (bO SS a)) (frm := frm) (g := (g.flag true)) (w := w) (t := tz) h1 h2 fU (show g.conds.length + 2 ≤ L by omega)) Z Z Z Z Z (B0 := 179000) Z Z Z Z Z Z Z) Z) trivial)))))))) ?_)
   refine jw [169,170,149,150,145,146,129,130,111,112,100,101,90,91,83,84,82,81,10,80,9,78,48,8,32,23,2,3,4,5] Z (ct ?_)
   refine kX O [_,_,_,_,_,_] [pn [] 0 1, pn [] 0 0, pn [1] 0 0, pn [1,2] 0 0, pe [1,2,3] 0, pe (rg 0 5) 1] [4,5] [_, [(4, pB 500), (9, bX x), (10, xB (.int .i64 ((k : Int) + 1))), (500, iB (bO SS a) (lc w (aZ bz w tz (g.flag true))) 901 179008 503), (901, aD (lc w (aZ bz w tz (g.flag true))).paths), (179008, az (lc w (aZ bz w tz (g.flag true))).conds), (903, ao st), (5, iW st.length 903 frm (mC w) 904 905 906), (904, ao w.vars), (905, ao w.facts), (906, aE w.ev)], _] [[], [903]] (ai (ka O Z Z (kw O Z Z)) (ka O Z Z (ka O Z Z (ka O Z Z (ai (ai (aO (bQ O [500,901,179008,903,5,904,905,906] (bin := [iB (bO SS a) (aZ bz w tz (g.flag true)) 1 2 3, aD (aZ bz w tz (g.flag true)).paths, az (aZ bz w tz (g.flag true)).conds, ao st, iW st.length 3 frm w 5 6 7, ao w.vars, ao w.facts, aE w.ev]) Z Z Z Z (rH (sn := st.length) (st := st) (c := (bO SS a)) (frm := frm) (g := (aZ bz w tz (g.flag true))) (w := w) h1 h2 hsy) Z Z Z Z Z (B0 := 184000) Z Z Z Z Z Z)) Z) (ai (ai (cq O [500,901,179008,903,5,904,905,906] [903] (bin := [iB (bO SS a) (lc w (aZ bz w tz (g.flag true))) 1 2 3, aD (lc w (aZ bz w tz (g.flag true))).paths, az (lc w (aZ bz w tz (g.flag true))).conds, ao st, iW st.length 3 frm (mC w) 5 6 7, ao (mC w).vars, ao (mC w).facts, aE (mC w).ev]) Z Z Z Z (kd (c := (bO SS a)) (frm := frm) (g := (lc w (aZ bz w tz (g.flag true)))) (w := (mC w)) (st := st) (t := tK w) (ok := true) h1 h2 (by omega)) Z Z Z Z Z (B0 := 185000) Z Z Z Z Z Z Z) Z) trivial)))))) ?_
   rw [ed, wa he hsy, (qv (g := g) hs).1, (qv (g := g) hs).2.1, (qv (g := g) hs).2.2, show i2 x (k : Int) = (k : Int) + 1 from if_neg (by omega)]
   refine nv ?_
   exact ⟨Z, (((av [4,10,5,500,901,179008,185008,904,905,906] (e' := [(4, _), (5, _), (10, _)]) Z Z ⟨Z, Z, Z, trivial⟩ Z).trans (af 179008 902 Z Z)).trans (af 185008 903 Z Z)).trans (Ent.to ⟨Z, Z, Z, trivial⟩ Z)⟩
   exact absurd (bB hc169) (by omega)
  | h7 he hs =>
   have htop : (bn st).ok = true := dI hw.sok
   refine am (ae (j2 O Z Z (jn (ab O Z Z (fun hc83 => ?_) (fun hc83 => ?_)))))
   exact absurd (aQ hc83) (by omega)
   refine ae (j2 O Z Z (jn (ab O Z Z (fun hc90 => ?_) (fun hc90 => ?_))))
   exact absurd (aQ hc90) (by omega)
   refine ae (j2 O Z Z (jn (ab O Z Z (fun hc100 => ?_) (fun hc100 => ?_))))
   exact absurd (aQ hc100) (by omega)
   refine ae (j2 O Z Z (jn (ab O Z Z (fun hc111 => ?_) (fun hc111 => ?_))))
   exact absurd (aQ hc111) (by omega)
   refine ae (j2 O Z Z (jn (ab O Z Z (fun hc129 => ?_) (fun hc129 => ?_))))
   exact absurd (aQ hc129) (by omega)
   refine ae (j2 O Z Z (jn (ab O Z Z (fun hc145 => ?_) (fun hc145 => ?_))))
   exact absurd (aQ hc145) (by omega)
   refine ae (j2 O Z Z (jn (ab O Z Z (fun hc149 => ?_) (fun hc149 => ?_))))
   exact absurd (aQ hc149) (by omega)
   refine ae (j2 O Z Z (jn (ab O Z Z (fun hc169 => ?_) (fun hc169 => ?_))))
   refine ag (kX O [_,_,_,_,_,_,_,_] [pn [] 0 1, pn [0] 0 1, pn [0,1] 0 1, pn [] 0 0, pe [3] 0, pn [3,4] 1 1, pn [3,4,5] 1 1, pe (rg 0 7) 1] [4,7] [_, [(4, pB 500), (9, bX x), (10, xB (.int .i64 ((k : Int) + 1))), (500, iB (bO SS a) g 901 902 503), (901, aD g.paths), (902, az g.conds), (903, ao st), (5, iW (st.length - 1) 903 frm w 904 905 906), (904, ao w.vars), (905, ao w.facts), (906, aE w.ev)], _] [[], [902]] (ai (ka O Z Z (kw O Z Z)) (ai (ka O Z Z (kw O Z Z)) (ai (ka O Z Z (kw O Z Z)) (ka O Z Z (ai (ai (aO (bQ O [500,901,902,903,5,904,905,906] (bin := [iB (bO SS a) g 1 2 3, aD g.paths, az g.conds, ao st, iW st.length 3 frm w 5 6 7, ao w.vars, ao w.facts, aE w.ev]) Z Z Z Z (fV (c := (bO SS a)) (frm := frm) (g := g) (w := w) (st := st) (k := 1) h1 h2 hs (by omega)) Z Z Z Z Z (B0 := 176000) Z Z Z Z Z Z)) Z) (ka O Z Z (ai (ai (ar O (ex := Tm.cells (bn st)) Z Z Z Z (nA (n := (st.length - 1)) (by omega) (by omega)) Z) Z) (ai (ai (cq O [500,901,902,903,5,904,905,906] [902] (bin := [iB (bO SS a) g 1 2 3, aD g.paths, az g.conds, ao st, iW (st.length - 1) 3 frm w 5 6 7, ao w.vars, ao w.facts, aE w.ev]) Z Z Z Z (pg (sn := (st.length - 1)) (st := st) (c := (bO SS a)) (frm := frm) (g := g) (w := w) (t := (bn st)) h1 h2 htop (show g.conds.length + 2 ≤ L by omega)) Z Z Z Z Z (B0 := 179000) Z Z Z Z Z Z Z) Z) trivial)))))))) ?_)
   refine jw [169,170,149,150,145,146,129,130,111,112,100,101,90,91,83,84,82,81,10,80,9,78,48,8,32,23,2,3,4,5] Z (ct ?_)
   obtain ⟨s2, es⟩ : ∃ s2, s2 = cH st := ⟨_, rfl⟩
   have hs2 : st.length - 1 = s2.length := by rw [es]; exact wh.symm
   refine gx (Ent.cut 903 (st.length - 1) Z) (ct ?_)
   rw [← List.map_take, show List.take (st.length - 1) st = s2 from es.symm, hs2]
   refine kX O [_,_,_,_,_,_] [pn [] 0 1, pn [] 0 0, pn [1] 0 0, pn [1,2] 0 0, pe [1,2,3] 0, pe (rg 0 5) 1] [4,5] [_, [(4, pB 500), (9, bX x), (10, xB (.int .i64 ((k : Int) + 1))), (500, iB (bO SS a) (lc w (aZ bz w (bn st) g)) 901 179008 503), (901, aD (lc w (aZ bz w (bn st) g)).paths), (179008, az (lc w (aZ bz w (bn st) g)).conds), (903, ao s2), (5, iW s2.length 903 frm (mC w) 904 905 906), (904, ao w.vars), (905, ao w.facts), (906, aE w.ev)], _] [[], [903]] (ai (ka O Z Z (kw O Z Z)) (ka O Z Z (ka O Z Z (ka O Z Z (ai (ai (aO (bQ O [500,901,179008,903,5,904,905,906] (bin := [iB (bO SS a) (aZ bz w (bn st) g) 1 2 3, aD (aZ bz w (bn st) g).paths, az (aZ bz w (bn st) g).conds, ao s2, iW s2.length 3 frm w 5 6 7, ao w.vars, ao w.facts, aE w.ev]) Z Z Z Z (rH (sn := s2.length) (st := s2) (c := (bO SS a)) (frm := frm) (g := (aZ bz w (bn st) g)) (w := w) h1 h2 hsy) Z Z Z Z Z (B0 := 184000) Z Z Z Z Z Z)) Z) (ai (ai (cq O [500,901,179008,903,5,904,905,906] [903] (bin := [iB (bO SS a) (lc w (aZ bz w (bn st) g)) 1 2 3, aD (lc w (aZ bz w (bn st) g)).paths, az (lc w (aZ bz w (bn st) g)).conds, ao s2, iW s2.length 3 frm (mC w) 5 6 7, ao (mC w).vars, ao (mC w).facts, aE (mC w).ev]) Z Z Z Z (kd (c := (bO SS a)) (frm := frm) (g := (lc w (aZ bz w (bn st) g))) (w := (mC w)) (st := s2) (t := tK w) (ok := true) h1 h2 (by omega)) Z Z Z Z Z (B0 := 185000) Z Z Z Z Z Z Z) Z) trivial)))))) ?_
   subst es
   rw [ed, wa he hsy, (jW (g := g) hs).1, (jW (g := g) hs).2.1, (jW (g := g) hs).2.2, show i2 x (k : Int) = (k : Int) + 1 from if_neg (by omega)]
   refine nv ?_
   exact ⟨Z, (((av [4,10,5,500,901,179008,185008,904,905,906] (e' := [(4, _), (5, _), (10, _)]) Z Z ⟨Z, Z, Z, trivial⟩ Z).trans (af 179008 902 Z Z)).trans (af 185008 903 Z Z)).trans (Ent.to ⟨Z, Z, Z, trivial⟩ Z)⟩
   exact absurd (bB hc169) (by omega)
  | l8 he hs =>
   refine am (ae (j2 O Z Z (jn (ab O Z Z (fun hc83 => ?_) (fun hc83 => ?_)))))
   exact absurd (aQ hc83) (by omega)
   refine ae (j2 O Z Z (jn (ab O Z Z (fun hc90 => ?_) (fun hc90 => ?_))))
   exact absurd (aQ hc90) (by omega)
   refine ae (j2 O Z Z (jn (ab O Z Z (fun hc100 => ?_) (fun hc100 => ?_))))
   exact absurd (aQ hc100) (by omega)
   refine ae (j2 O Z Z (jn (ab O Z Z (fun hc111 => ?_) (fun hc111 => ?_))))
   exact absurd (aQ hc111) (by omega)
   refine ae (j2 O Z Z (jn (ab O Z Z (fun hc129 => ?_) (fun hc129 => ?_))))
   exact absurd (aQ hc129) (by omega)
   refine ae (j2 O Z Z (jn (ab O Z Z (fun hc145 => ?_) (fun hc145 => ?_))))
   exact absurd (aQ hc145) (by omega)
   refine ae (j2 O Z Z (jn (ab O Z Z (fun hc149 => ?_) (fun hc149 => ?_))))
   exact absurd (aQ hc149) (by omega)
   refine ae (j2 O Z Z (jn (ab O Z Z (fun hc169 => ?_) (fun hc169 => ?_))))
   exact absurd (aQ hc169) (by omega)
   refine ae (j2 O Z Z (jn (ab O Z Z (fun hc185 => ?_) (fun hc185 => ?_))))
   refine kX O [_,_,_,_,_,_,_,_] [pn [] 0 1, pn [0] 0 1, pn [0,1] 0 1, pn [] 0 0, pe [3] 0, pn [3,4] 1 1, pn [3,4,5] 1 1, pe (rg 0 7) 1] [4,7] [_, [(4, pB 500), (9, bX x), (10, xB (.int .i64 ((k : Int) + 1))), (500, iB (bO SS a) (g.flag true) 901 902 503), (901, aD (g.flag true).paths), (902, az (g.flag true).conds), (903, ao st), (5, iW st.length 903 frm w 904 905 906), (904, ao w.vars), (905, ao w.facts), (906, aE w.ev)], _] [[], [902]] (ai (ka O Z Z (kw O Z Z)) (ai (ka O Z Z (kw O Z Z)) (ai (ka O Z Z (kw O Z Z)) (ka O Z Z (ai (ai (aO (bQ O [500,901,902,903,5,904,905,906] (bin := [iB (bO SS a) g 1 2 3, aD g.paths, az g.conds, ao st, iW st.length 3 frm w 5 6 7, ao w.vars, ao w.facts, aE w.ev]) Z Z Z Z (rD (c := (bO SS a)) (frm := frm) (g := g) (w := w) (st := st) h1 h2 (by omega)) Z Z Z Z Z (B0 := 192000) Z Z Z Z Z Z)) Z) (ai (ai (bD O Z Z Z Z Z Z Z Z (by simp) Z) Z) (ka O Z Z (ai (ai (cq O [500,901,902,903,5,904,905,906] [902] (bin := [iB (bO SS a) (g.flag true) 1 2 3, aD (g.flag true).paths, az (g.flag true).conds, ao st, iW st.length 3 frm w 5 6 7, ao w.vars, ao w.facts, aE w.ev]) Z Z Z Z (pg (sn := st.length) (st := st) (c := (bO SS a)) (frm := frm) (g := (g.flag true)) (w := w) (t := tz) h1 h2 fU (show g.conds.length + 2 ≤ L by omega)) Z Z Z Z Z (B0 := 195000) Z Z Z Z Z Z Z) Z) trivial)))))))) ?_
   rw [ed, v9 he, (uj (g := g) hs).1, (uj (g := g) hs).2.2.1, (uj (g := g) hs).2.2.2, show i2 x (k : Int) = (k : Int) + 1 from if_neg (by omega)]
   refine nv ?_
   exact ⟨Z, ((av [4,10,5,500,901,195008,903,904,905,906] (e' := [(4, _), (5, _), (10, _)]) Z Z ⟨Z, Z, Z, trivial⟩ Z).trans (af 195008 902 Z Z)).trans (Ent.to ⟨Z, Z, Z, trivial⟩ Z)⟩
   exact absurd (bB hc185) (by omega)
  | h8 he hs =>
   have hund : (i4 st).ok = true := dI hw.sok
   refine am (ae (j2 O Z Z (jn (ab O Z Z (fun hc83 => ?_) (fun hc83 => ?_)))))
   exact absurd (aQ hc83) (by omega)
   refine ae (j2 O Z Z (jn (ab O Z Z (fun hc90 => ?_) (fun hc90 => ?_))))
   exact absurd (aQ hc90) (by omega)
   refine ae (j2 O Z Z (jn (ab O Z Z (fun hc100 => ?_) (fun hc100 => ?_))))
   exact absurd (aQ hc100) (by omega)
   refine ae (j2 O Z Z (jn (ab O Z Z (fun hc111 => ?_) (fun hc111 => ?_))))
   exact absurd (aQ hc111) (by omega)
   refine ae (j2 O Z Z (jn (ab O Z Z (fun hc129 => ?_) (fun hc129 => ?_))))
   exact absurd (aQ hc129) (by omega)
   refine ae (j2 O Z Z (jn (ab O Z Z (fun hc145 => ?_) (fun hc145 => ?_))))
   exact absurd (aQ hc145) (by omega)
   refine ae (j2 O Z Z (jn (ab O Z Z (fun hc149 => ?_) (fun hc149 => ?_))))
   exact absurd (aQ hc149) (by omega)
   refine ae (j2 O Z Z (jn (ab O Z Z (fun hc169 => ?_) (fun hc169 => ?_))))
   exact absurd (aQ hc169) (by omega)
   refine ae (j2 O Z Z (jn (ab O Z Z (fun hc185 => ?_) (fun hc185 => ?_))))
   refine kX O [_,_,_,_,_,_,_,_] [pn [] 0 1, pn [0] 0 1, pn [0,1] 0 1, pn [] 0 0, pe [3] 0, pn [3,4] 1 1, pn [3,4,5] 1 1, pe (rg 0 7) 1] [4,7] [_, [(4, pB 500), (9, bX x), (10, xB (.int .i64 ((k : Int) + 1))), (500, iB (bO SS a) g 901 902 503), (901, aD g.paths), (902, az g.conds), (903, ao st), (5, iW (st.length - 2) 903 frm w 904 905 906), (904, ao w.vars), (905, ao w.facts), (906, aE w.ev)], _] [[], [902]] (ai (ka O Z Z (kw O Z Z)) (ai (ka O Z Z (kw O Z Z)) (ai (ka O Z Z (kw O Z Z)) (ka O Z Z (ai (ai (aO (bQ O [500,901,902,903,5,904,905,906] (bin := [iB (bO SS a) g 1 2 3, aD g.paths, az g.conds, ao st, iW st.length 3 frm w 5 6 7, ao w.vars, ao w.facts, aE w.ev]) Z Z Z Z (fV (c := (bO SS a)) (frm := frm) (g := g) (w := w) (st := st) (k := 2) h1 h2 hs (by omega)) Z Z Z Z Z (B0 := 192000) Z Z Z Z Z Z)) Z) (ka O Z Z (ai (ai (ar O (ex := Tm.cells (i4 st)) Z Z Z Z (nA (n := (st.length - 2)) (by omega) (by omega)) Z) Z) (ai (ai (cq O [500,901,902,903,5,904,905,906] [902] (bin := [iB (bO SS a) g 1 2 3, aD g.paths, az g.conds, ao st, iW (st.length - 2) 3 frm w 5 6 7, ao w.vars, ao w.facts, aE w.ev]) Z Z Z Z (pg (sn := (st.length - 2)) (st := st) (c := (bO SS a)) (frm := frm) (g := g) (w := w) (t := (i4 st)) h1 h2 hund (show g.conds.length + 2 ≤ L by omega)) Z Z Z Z Z (B0 := 195000) Z Z Z Z Z Z Z) Z) trivial)))))))) ?_
   rw [ed, v9 he, (i5 (g := g) hs).1, (i5 (g := g) hs).2.2.1, (i5 (g := g) hs).2.2.2, show i2 x (k : Int) = (k : Int) + 1 from if_neg (by omega)]
   refine nv ?_
   exact ⟨Z, (Ent.cut 903 (st.length - 2) Z).trans (((av [4,10,5,500,901,195008,903,904,905,906] (e' := [(4, _), (5, _), (10, _)]) Z Z ⟨Z, Z, Z, trivial⟩ Z).trans (af 195008 902 Z Z)).trans (Ent.to ⟨Z, Z, Z, trivial⟩ (by rw [← List.map_take, show (mz st).length = st.length - 2 from yL]; rfl)))⟩
   exact absurd (bB hc185) (by omega)
  | o9 he =>
   refine am (ae (j2 O Z Z (jn (ab O Z Z (fun hc83 => ?_) (fun hc83 => ?_)))))
   exact absurd (aQ hc83) (by omega)
   refine ae (j2 O Z Z (jn (ab O Z Z (fun hc90 => ?_) (fun hc90 => ?_))))
   exact absurd (aQ hc90) (by omega)
   refine ae (j2 O Z Z (jn (ab O Z Z (fun hc100 => ?_) (fun hc100 => ?_))))
   exact absurd (aQ hc100) (by omega)
   refine ae (j2 O Z Z (jn (ab O Z Z (fun hc111 => ?_) (fun hc111 => ?_))))
   exact absurd (aQ hc111) (by omega)
   refine ae (j2 O Z Z (jn (ab O Z Z (fun hc129 => ?_) (fun hc129 => ?_))))
   exact absurd (aQ hc129) (by omega)
   refine ae (j2 O Z Z (jn (ab O Z Z (fun hc145 => ?_) (fun hc145 => ?_))))
   exact absurd (aQ hc145) (by omega)
   refine ae (j2 O Z Z (jn (ab O Z Z (fun hc149 => ?_) (fun hc149 => ?_))))
   exact absurd (aQ hc149) (by omega)
   refine ae (j2 O Z Z (jn (ab O Z Z (fun hc169 => ?_) (fun hc169 => ?_))))
   exact absurd (aQ hc169) (by omega)
   refine ae (j2 O Z Z (jn (ab O Z Z (fun hc185 => ?_) (fun hc185 => ?_))))
   exact absurd (aQ hc185) (by omega)
   refine ae (j2 O Z Z (jn (ab O Z Z (fun hc195 => ?_) (fun hc195 => ?_))))
   refine ak (j4 O Z Z Z Z (jf [200,198,195,196,185,186,169,170,149,150,145,146,129,130,111,112,100,101,90,91,83,84,82,81,10,80,9,78,48,8,32,23,2,3,4,5] Z (AOps.heap (bi O Z Z Z) Z (ap ?_))))
   refine jf [201,198,195,196,185,186,169,170,149,150,145,146,129,130,111,112,100,101,90,91,83,84,82,81,10,80,9,78,48,8,32,23,2,3,4,5] Z (AOps.heap (ce (zs := (w.ev ++ [x.a]).map (fun n => [D.int .i64 n])) (n := (w.ev ++ [x.a]).length) O Z Z Z Z Z Z Z Z Z Z Z Z Z Z Z Z (.row Z (bJ _).symm) Z Z (by decide) Z (by simp; omega) (by simp; omega) (by simp) (by simp)) Z (ap ?_))
   refine ap ?_
   refine js O Z (jf [203,202,195,196,185,186,169,170,149,150,145,146,129,130,111,112,100,101,90,91,83,84,82,81,10,80,9,78,48,8,32,23,2,3,4,5] Z (jo O Z (ap ?_)))
   refine jf [195,196,185,186,169,170,149,150,145,146,129,130,111,112,100,101,90,91,83,84,82,81,10,80,9,78,48,8,32,23,2,3,4,5] Z (jn ?_)
   rw [ed, yE he, show i2 x (k : Int) = (k : Int) + 1 from if_neg (by omega)]
   refine nv ?_
   exact ⟨Z, ((av [4,10,5,500,901,902,903,904,905,202] (e' := [(4, _), (5, _), (10, _)]) Z Z ⟨Z, Z, Z, trivial⟩ Z).trans (af 202 906 Z Z)).trans (Ent.to ⟨Z, Z, Z, trivial⟩ Z)⟩
   exact absurd (bB hc195) (by omega)
  | l10 he hs =>
   refine am (ae (j2 O Z Z (jn (ab O Z Z (fun hc83 => ?_) (fun hc83 => ?_)))))
   exact absurd (aQ hc83) (by omega)
   refine ae (j2 O Z Z (jn (ab O Z Z (fun hc90 => ?_) (fun hc90 => ?_))))
   exact absurd (aQ hc90) (by omega)
   refine ae (j2 O Z Z (jn (ab O Z Z (fun hc100 => ?_) (fun hc100 => ?_))))
   exact absurd (aQ hc100) (by omega)
   refine ae (j2 O Z Z (jn (ab O Z Z (fun hc111 => ?_) (fun hc111 => ?_))))
   exact absurd (aQ hc111) (by omega)
   refine ae (j2 O Z Z (jn (ab O Z Z (fun hc129 => ?_) (fun hc129 => ?_))))
   exact absurd (aQ hc129) (by omega)
   refine ae (j2 O Z Z (jn (ab O Z Z (fun hc145 => ?_) (fun hc145 => ?_))))
   exact absurd (aQ hc145) (by omega)
   refine ae (j2 O Z Z (jn (ab O Z Z (fun hc149 => ?_) (fun hc149 => ?_))))
   exact absurd (aQ hc149) (by omega)
   refine ae (j2 O Z Z (jn (ab O Z Z (fun hc169 => ?_) (fun hc169 => ?_))))
   exact absurd (aQ hc169) (by omega)
   refine ae (j2 O Z Z (jn (ab O Z Z (fun hc185 => ?_) (fun hc185 => ?_))))
   exact absurd (aQ hc185) (by omega)
   refine ae (j2 O Z Z (jn (ab O Z Z (fun hc195 => ?_) (fun hc195 => ?_))))
   exact absurd (aQ hc195) (by omega)
   refine ae (j2 O Z Z (jn (ab O Z Z (fun hc204 => ?_) (fun hc204 => ?_))))
   refine ae (js O Z (aq O [500,901,902,903,5,904,905,906] (bin := [iB (bO SS a) g 1 2 3, aD g.paths, az g.conds, ao st, iW st.length 3 frm w 5 6 7, ao w.vars, ao w.facts, aE w.ev]) Z Z Z Z (jj (c := (bO SS a)) (frm := frm) (g := g) (w := w) (st := st) h1 h2 (by omega)) Z Z Z Z Z Z (B0 := 208000) Z Z (ap ?_)))
   refine AOps.step (bD O Z Z Z Z Z Z Z Z (by simp) Z) Z Z Z (js O Z (jf [209,204,205,195,196,185,186,169,170,149,150,145,146,129,130,111,112,100,101,90,91,83,84,82,81,10,80,9,78,48,8,32,23,2,3,4,5] Z (jl O Z (ap ?_))))
   refine jo O Z (ap ?_)
   refine jn (ag (kX O [_,_,_,_,_] [pn [] 0 0, pn [0] 0 0, pn [0,1] 0 0, pn [] 0 0, pe (rg 0 4) 0] [4] [_,_] [[902]] (ka O Z Z (ka O Z Z (ka O Z Z (ka O Z Z (ai (ai (cq O [500,901,902,903,5,904,905,906] [902] (bin := [iB (bO SS a) (g.flag true) 1 2 3, aD (g.flag true).paths, az (g.flag true).conds, ao st, iW st.length 3 frm w 5 6 7, ao w.vars, ao w.facts, aE w.ev]) Z Z Z Z (mS (sn := st.length) (st := st) (c := (bO SS a)) (frm := frm) (g := (g.flag true)) (w := w) (t := tz) h1 h2 (show g.conds.length + 1 ≤ L by omega)) Z Z Z Z Z (B0 := 215000) Z Z Z Z Z Z Z) Z) trivial))))) ?_))
   refine jw [17,209,204,205,195,196,185,186,169,170,149,150,145,146,129,130,111,112,100,101,90,91,83,84,82,81,10,80,9,78,48,8,32,23,2,3,4,5] Z (ct ?_)
   refine kX O [_,_,_,_,_] [pn [] 0 0, pn [0] 0 0, pn [0,1] 0 0, pn [] 0 0, pe (rg 0 4) 0] [4] [_,_] [[905]] (ka O Z Z (ka O Z Z (ka O Z Z (ka O Z Z (ai (ai (cq O [500,901,215008,903,5,904,905,906] [905] (bin := [iB (bO SS a) (cu w tz (g.flag true)) 1 2 3, aD (cu w tz (g.flag true)).paths, az (cu w tz (g.flag true)).conds, ao st, iW st.length 3 frm w 5 6 7, ao w.vars, ao w.facts, aE w.ev]) Z Z Z Z (pf (sn := st.length) (st := st) (c := (bO SS a)) (frm := frm) (g := cu w tz (g.flag true)) (w := w) (t := tz) h1 h2 (by omega)) Z Z Z Z Z (B0 := 220000) Z Z Z Z Z Z Z) Z) trivial))))) ?_
   rw [m4 fU]
   rw [ed, tT he, (qv (g := g) hs).1, (qv (g := g) hs).2.1, (qv (g := g) hs).2.2, show i2 x (k : Int) = (k : Int) + 1 from if_neg (by omega)]
   refine nv ?_
   exact ⟨Z, (((av [4,10,5,500,901,215008,903,904,220009,906] (e' := [(4, _), (5, _), (10, _)]) Z Z ⟨Z, Z, Z, trivial⟩ Z).trans (af 215008 902 Z Z)).trans (af 220009 905 Z Z)).trans (Ent.to ⟨Z, Z, Z, trivial⟩ Z)⟩
   exact absurd (bB hc204) (by omega)
  | h10 he hs =>
   have htop : (bn st).ok = true := dI hw.sok
   refine am (ae (j2 O Z Z (jn (ab O Z Z (fun hc83 => ?_) (fun hc83 => ?_)))))
   exact absurd (aQ hc83) (by omega)
   refine ae (j2 O Z Z (jn (ab O Z Z (fun hc90 => ?_) (fun hc90 => ?_))))
   exact absurd (aQ hc90) (by omega)
   refine ae (j2 O Z Z (jn (ab O Z Z (fun hc100 => ?_) (fun hc100 => ?_))))
   exact absurd (aQ hc100) (by omega)
   refine ae (j2 O Z Z (jn (ab O Z Z (fun hc111 => ?_) (fun hc111 => ?_))))
   exact absurd (aQ hc111) (by omega)
   refine ae (j2 O Z Z (jn (ab O Z Z (fun hc129 => ?_) (fun hc129 => ?_))))
   exact absurd (aQ hc129) (by omega)
   refine ae (j2 O Z Z (jn (ab O Z Z (fun hc145 => ?_) (fun hc145 => ?_))))
   exact absurd (aQ hc145) (by omega)
   refine ae (j2 O Z Z (jn (ab O Z Z (fun hc149 => ?_) (fun hc149 => ?_))))
   exact absurd (aQ hc149) (by omega)
   refine ae (j2 O Z Z (jn (ab O Z Z (fun hc169 => ?_) (fun hc169 => ?_))))
   exact absurd (aQ hc169) (by omega)
   refine ae (j2 O Z Z (jn (ab O Z Z (fun hc185 => ?_) (fun hc185 => ?_))))
   exact absurd (aQ hc185) (by omega)
   refine ae (j2 O Z Z (jn (ab O Z Z (fun hc195 => ?_) (fun hc195 => ?_))))
   exact absurd (aQ hc195) (by omega)
   refine ae (j2 O Z Z (jn (ab O Z Z (fun hc204 => ?_) (fun hc204 => ?_))))
   refine ae (js O Z (aq O [500,901,902,903,5,904,905,906] (bin := [iB (bO SS a) g 1 2 3, aD g.paths, az g.conds, ao st, iW st.length 3 frm w 5 6 7, ao w.vars, ao w.facts, aE w.ev]) Z Z Z Z (fV (c := (bO SS a)) (frm := frm) (g := g) (w := w) (st := st) (k := 1) h1 h2 hs (by omega)) Z Z Z Z Z Z (B0 := 208000) Z Z (ap ?_)))
   refine js O Z (AOps.step (ar O (ex := Tm.cells (bn st)) Z Z Z Z (nA (n := (st.length - 1)) (by omega) (by omega)) Z) Z Z Z (jf [209,204,205,195,196,185,186,169,170,149,150,145,146,129,130,111,112,100,101,90,91,83,84,82,81,10,80,9,78,48,8,32,23,2,3,4,5] Z (jl O Z (ap ?_))))
   refine jo O Z (ap ?_)
   refine jn (ag ?_)
   obtain ⟨s2, es⟩ : ∃ s2, s2 = cH st := ⟨_, rfl⟩
   have hs2 : st.length - 1 = s2.length := by rw [es]; exact wh.symm
   refine gx (Ent.cut 903 (st.length - 1) Z) (ct ?_)
   rw [← List.map_take, show List.take (st.length - 1) st = s2 from es.symm, hs2]
   refine kX O [_,_,_,_,_] [pn [] 0 0, pn [0] 0 0, pn [0,1] 0 0, pn [] 0 0, pe (rg 0 4) 0] [4] [_,_] [[902]] (ka O Z Z (ka O Z Z (ka O Z Z (ka O Z Z (ai (ai (cq O [500,901,902,903,5,904,905,906] [902] (bin := [iB (bO SS a) g 1 2 3, aD g.paths, az g.conds, ao s2, iW s2.length 3 frm w 5 6 7, ao w.vars, ao w.facts, aE w.ev]) Z Z Z Z (mS (sn := s2.length) (st := s2) (c := (bO SS a)) (frm := frm) (g := g) (w := w) (t := (bn st)) h1 h2 (show g.conds.length + 1 ≤ L by omega)) Z Z Z Z Z (B0 := 215000) Z Z Z Z Z Z Z) Z) trivial))))) ?_
   refine jw [17,209,204,205,195,196,185,186,169,170,149,150,145,146,129,130,111,112,100,101,90,91,83,84,82,81,10,80,9,78,48,8,32,23,2,3,4,5] Z (ct ?_)
   refine kX O [_,_,_,_,_] [pn [] 0 0, pn [0] 0 0, pn [0,1] 0 0, pn [] 0 0, pe (rg 0 4) 0] [4] [_,_] [[905]] (ka O Z Z (ka O Z Z (ka O Z Z (ka O Z Z (ai (ai (cq O [500,901,215008,903,5,904,905,906] [905] (bin := [iB (bO SS a) (cu w (bn st) g) 1 2 3, aD (cu w (bn st) g).paths, az (cu w (bn st) g).conds, ao s2, iW s2.length 3 frm w 5 6 7, ao w.vars, ao w.facts, aE w.ev]) Z Z Z Z (pf (sn := s2.length) (st := s2) (c := (bO SS a)) (frm := frm) (g := cu w (bn st) g) (w := w) (t := (bn st)) h1 h2 (by omega)) Z Z Z Z Z (B0 := 220000) Z Z Z Z Z Z Z) Z) trivial))))) ?_
   subst es
   rw [m4 htop]
   rw [ed, tT he, (jW (g := g) hs).1, (jW (g := g) hs).2.1, (jW (g := g) hs).2.2, show i2 x (k : Int) = (k : Int) + 1 from if_neg (by omega)]
   refine nv ?_
   exact ⟨Z, (((av [4,10,5,500,901,215008,903,904,220009,906] (e' := [(4, _), (5, _), (10, _)]) Z Z ⟨Z, Z, Z, trivial⟩ Z).trans (af 215008 902 Z Z)).trans (af 220009 905 Z Z)).trans (Ent.to ⟨Z, Z, Z, trivial⟩ Z)⟩
   exact absurd (bB hc204) (by omega)
  refine ak (j2 O Z Z (jn (ak (js O Z (jn ?_)))))
  exact ⟨⟨n, i2 x (k : Int), false, d.w, d.st, d.g⟩, ((av [4,5,500,901,902,903,904,905,906] (e' := [(2, _), (3, _), (4, _), (5, _)]) Z Z ⟨Z, Z, Z, Z, trivial⟩ Z)).trans (Ent.to ⟨Z, Z, Z, Z, trivial⟩ Z), (by rw [ed]; exact hci2), Nat.lt_succ_self n⟩
 refine aU ?_
 show _ ∧ _
 have hb : g.bad = true := by simpa using hc23
 rw [← hG, cf hb]
 refine ⟨.inr Z, _, (af 901 510 Z Z).trans (af 902 511 Z Z), _, Z, Z, Z⟩
theorem tZ {L : Nat} (h1 : 4096 ≤ L) (h2 : L ≤ 1073741824) {SS : List (List Tm)} {a : An} {frm : Int} (hv : VA' a) (hcl : cL a = true) (hL : 100000 ≤ L) (n : Nat) (hn : n ≤ 100) : ∀ {z : Int} {b : Bool} {w : Pw} {st : List Tm} {g : Gs}, FuOk a n z b → (g.bad = false → CW n w st) → (g.bad = false → GC n g) → nF L (bO SS a) frm w st g z b (dD iq a frm n z b w st g) := by
 induction n using Nat.strongRecOn with
 | _ n ih =>
  intro z b w st g hf hw hg
  exact uQ h1 h2 hv hcl hL (N := n) (fun m hm => ih m hm (by omega)) ⟨hf, bH _, hn, hw, hg, Z⟩
theorem xc {z : List Tm} (hz : z = []) : MQ h1 h2 155 [cm z] [] (Rows (.c (.rs 0 0 0)) [ao []]) := by
 refine bm (jB 8 h1 h2 Tryz.func155 Z Z Z fun O hF => ?_)
 subst hz
 refine ae (js O Z (jn (ag (ae (js O Z (oH O Z Z Z Z Z Z Z Z Z Z (fun b => ?_)))))))
 refine jn (ab O Z Z (fun hc4 => ?_) (fun hc4 => ?_))
 refine ae (js O Z (jr ?_))
 refine ⟨.inl Z, _, (dk 2 900 2 false Z Z).trans (Ent.to (e' := [(2, _)]) ⟨Z, trivial⟩ Z), _, Z, [900], by decide, Z, Z, Z⟩
 refine ah (ae (AOps.heap (bi O Z Z Z) Z (js O Z (ay (ck 5 Z) (AOps.heap (bI (own := false) (zs := []) (n := 0) O Z Z Z Z Z Z Z Z Z Z Z Z Z Z Z Z (.row Z Z) (.slc (.inl Z)) (by simp) Z (by simp) (by simp) Z Z) Z (js O Z (jr ?_)))))))
 refine ⟨.inl Z, _, aj, _, Z, [7], by decide, Z, Z, Z⟩
theorem xe {L : Nat} (h1 : 4096 ≤ L) (h2 : L ≤ 1073741824) {ts : List Tm} (hl : ts.length ≤ 1000) : MC Tryz.prog L 155 [cm ts] [] (Rows (.c (.rs 0 0 ts.length)) [ao ts]) := by
 cases ts with
 | nil => exact xc h1 h2 Z
 | cons c r => exact yO h1 h2 hl
variable {SS : List (List Tm)} {a : An} {g : Gs} {f : List Tm}
theorem xv {n : Nat} (hn : n < SS.length) (hsl : SS.length ≤ 1000) (hf : SS.getD n default = f) (hl : f.length ≤ 1000) : MQ h1 h2 128 [.c (.pt 0 0 0), eI ((n : Int) - 1)] [(0, iB (bO SS a) g 1 2 3), (1, aD g.paths), (2, az g.conds)] (aY (wA [] 3 ((n : Int) - 1) (w0 f) 4 5 6) [(0, iB (bO SS a) g 1 2 3), (1, aD g.paths), (2, az g.conds), (3, ao []), (4, ao (nr 4)), (5, ao f), (6, aE [])]) := by
 refine aI 500 Z (MC.keep [500,501,502,503,504,505,506] (bs := [iB (bO SS a) g 501 502 503, aD g.paths, az g.conds, ao [], ao (nr 4), ao f, aE []]) Z Z (jH 30 [500,501,502] h1 h2 Tryz.func128 Z Z Z Z fun O hF => ?_))
 refine ct ?_
 refine ae (jl O Z (ap ?_))
 refine aN (j4 O Z Z Z Z (j2 O Z Z (AOps.step ((vF O Z).cast (v' := eI (n : Nat)) (congrArg eI (by omega))) Z Z Z (AOps.step ((aS O Z Z Z Z Z Z Z Z (c9 hn)).cast (v' := ptr [em f]) (by rw [hf])) Z Z Z (js O Z (jf [15,7,4] Z (kU O (B0 := 17000) Z Z Z Z (xe (ts := f) h1 h2 hl) (aa Z) Z Z Z Z Z (ap ?_))))))))
 refine js O Z (jf [17,4] Z (jl O Z (ap ?_)))
 refine jo O Z (ap ?_)
 refine jn (ag (ae (js O Z (jn (am (au (X := Nat) (fun i => ⟨[(4, .c (.pt 4 0 0)), (5, .c (.pt 5 0 0)), (18, eI i)], [(4, .box [.d (.int .i64 0), .d .nils, .d .nils, .d .nils, .d .nils, .d (.int .i64 0)]), (5, .box [.d (.int .i64 ((n : Int) - 1)), .rs 904 0 i, .rs 903 0 0, .rs 905 0 f.length, .rs 906 0 0, .d (.int .i64 4)]), (500, iB (bO SS a) g 501 502 503), (501, aD g.paths), (502, az g.conds), (903, ao []), (904, ao (nr i)), (905, ao f), (906, aE [])]⟩) (fun i => i ≤ 4) (fun i => 4 - i) 0 ((((cx 5 904 2 false 1 Z Z Z).trans (cx 5 906 1 true 4 Z Z Z)).trans (cx 5 903 2 false 2 Z Z Z)).trans (((av [4,5,500,501,502,903,904,17000,906] (e' := [(4, _), (5, _), (18, _)]) Z Z ⟨Z, Z, Z, trivial⟩ Z).trans (af 17000 905 Z Z)).trans (Ent.to ⟨Z, Z, Z, trivial⟩ Z))) ?_ (fun i hi => ?_)))))))
 exact cC _
 have hvl := iy (i := i)
 refine ae (js O Z (jn (ag (ab O Z Z (fun hc19 => ?_) (fun hc19 => ?_)))))
 refine ah (ag (am (ae (j2 O Z Z (jn (kX O [_,_,_,_,_,_,_,_] [pn [] 0 2, pn [0] 0 2, pn [] 0 0, pe [2] 0, pe [2,3] 1, pe (rg 0 5) 2, pn (rg 0 6) 3 3, pe (rg 0 7) 3] [3,4,5,7] [_,_,_,_,_] [[], [], [904], []] (ai (ka O Z Z (ka O Z Z (kw O Z Z))) (ai (ka O Z Z (ka O Z Z (kw O Z Z))) (ka O Z Z (ai (ai (aO (aW O (B0 := 25000) Z Z Z Z (t9 (k := i) h1 h2 (by have := aQ hc19; omega)) (aa Z) Z Z Z Z Z)) Z) (ai (ai (aO (bU O Z Z Z Z Z Z Z Z Z Z Z Z Z Z)) Z) (ai (ai (bK (own := false) (xs := (nr i).map Tm.cells) (ys := [Tm.cells (gG i)]) (zs := (nr (i + 1)).map Tm.cells) (n := i + 1) O Z Z Z Z Z Z Z Z Z Z Z Z Z Z Z Z (.row Z (by simp; omega)) (.whole Z Z (.inr ⟨Z, Z⟩)) (by simp) Z (by simp; omega) (by simp; omega) (by rw [mV]; simp) (by simp [iy]) Z) Z) (ka O Z Z (ai (ai (aO (eS O Z Z Z)) Z) trivial)))))))) ?_))))))
 refine jw [20,19,4,5,18] Z (ct ?_)
 refine ak (ji O Z (js O Z (jn ?_)))
 refine ⟨i + 1, ((av [4,5,500,501,502,903,26,905,906] (e' := [(4, _), (5, _), (18, _)]) Z Z ⟨Z, Z, Z, trivial⟩ Z).trans (af 26 904 Z Z)).trans (Ent.to ⟨Z, Z, Z, trivial⟩ Z), by have := aQ hc19; omega, by have := aQ hc19; omega⟩
 refine aU (ae (js O Z (jo O Z (ap ?_))))
 refine jr ?_
 obtain rfl : i = 4 := by have := bB hc19; omega
 refine ⟨.inl Z, _, (((af 904 504 Z Z).trans (af 905 505 Z Z)).trans (af 906 506 Z Z)).trans (af 903 503 Z Z), _, Z, Z, Z⟩
variable {k : Int}
theorem ub (hn : 1 ≤ SS.length) (hl : SS.length ≤ 1000) : MQ h1 h2 126 [.c (.pt 0 0 0), eI k] [(0, iB (bO SS a) g 1 2 3), (1, aD g.paths), (2, az g.conds)] (aY (eB (dp (-1) ((SS.length : Int) - 2) k)) [(0, iB (bO SS a) g 1 2 3), (1, aD g.paths), (2, az g.conds)]) := by
 refine aI 500 Z (MC.keep [500,501,502] (bs := [iB (bO SS a) g 501 502 503, aD g.paths, az g.conds]) Z Z (jH 14 [500,501,502] h1 h2 Tryz.func126 Z Z Z Z fun O hF => ?_))
 refine ct ?_
 refine ae (js O Z (aN (j4 O Z Z Z Z (js O Z (bw O Z (jf [10,5,4] Z (ac O Z Z Z Z (ut (n := SS.length) h1 h2) (aa Z) Z Z Z Z Z (B0 := 12000) Z (ji O Z (jf [12,5,4] Z (ac O Z Z Z Z (mM (x := k) (lo := -1) (hi := (SS.length : Int) - 2) h1 h2) (aa Z) Z Z Z Z Z (B0 := 14000) Z (js O Z (jf [4] Z (jr ?_)))))))))))))
 refine ⟨.inl Z, _, aj, _, Z, Z, Z⟩
theorem rI {L : Nat} (h1 : 4096 ≤ L) (h2 : L ≤ 1073741824) {SS : List (List Tm)} {a : An} {g : Gs} {n : Nat} {f : List Tm} {w : Pw} {frm : Int} (hw : w0 f = w) (hn : n < SS.length) (hsl : SS.length ≤ 1000) (hf : SS.getD n default = f) (hl : f.length ≤ 1000) (hfr : frm = (n : Int) - 1) : MC Tryz.prog L 128 [.c (.pt 0 0 0), eI frm] [(0, iB (bO SS a) g 1 2 3), (1, aD g.paths), (2, az g.conds)] (aY (wA [] 3 frm w 4 5 6) [(0, iB (bO SS a) g 1 2 3), (1, aD g.paths), (2, az g.conds), (3, ao []), (4, ao w.vars), (5, ao w.facts), (6, aE w.ev)]) := by
 subst hw; subst hfr; exact xv h1 h2 hn hsl hf hl
set_option maxHeartbeats 8000000
variable {G : Gs}
theorem uT {w : Pw} (hw : w0 f = w) (hsl : SS.length ≤ 1000) (hfl : f.length ≤ 1000) (hn : 0 < SS.length) (hf : SS.getD 0 default = f) (ih : nF L (bO SS a) (-1) w [] g 0 false G) : MQ h1 h2 91 [.c (.pt 0 0 0), eI (-1)] [(0, iB (bO SS a) g 1 2 3), (1, aD g.paths), (2, az g.conds)] (aY (.tup []) (oF (bO SS a) G)) := by
 refine aI 500 Z (MC.keep [500,510,511] (R := .tup []) (bs := [iB (bO SS a) G 510 511 503, aD G.paths, az G.conds]) Z Z (jH 29 [500,501,502] h1 h2 Tryz.func91 Z Z Z Z fun O hF => ?_))
 refine ct ?_
 refine ag (ae (j2 O Z Z (jn (ab O Z Z (fun hc5 => ?_) (fun hc5 => ?_)))))
 refine ae (j4 O Z Z Z Z (js O Z (jf [10,9,6,4,0,1] Z (aq O [500,501,502] (bin := [iB (bO SS a) g 1 2 3, aD g.paths, az g.conds]) Z Z Z Z (rI (SS := SS) (a := a) (g := g) (n := 0) (f := f) (w := w) h1 h2 hw hn hsl hf hfl Z) Z Z Z Z Z Z (B0 := 12000) Z Z (ap ?_)))))
 refine jf [11,6,4,0,1] Z (aq O [500,501,502,12003,12004,12005,12006] (bin := [iB (bO SS a) g 1 2 3, aD g.paths, az g.conds, ao [], ao w.vars, ao w.facts, aE w.ev]) Z Z Z Z (ih) Z Z Z Z Z Z (B0 := 13000) Z Z (ap ?_))
 refine jf [4,0,1] Z (jr ?_)
 refine ⟨.inl Z, _, (af 13010 510 Z Z).trans (af 13011 511 Z Z), _, Z, Z, Z⟩
 exact absurd hc5 (by decide)
variable {z : Int}
theorem uS {w : Pw} (hw : w0 f = w) (hsl : SS.length ≤ 1000) (hfl : f.length ≤ 1000) {k : Nat} (hk : k < a.pts.length) (hz : (a.pts.getD k default).k = z) (hn : k + 1 < SS.length) (hf : SS.getD (k + 1) default = f) (ih : nF L (bO SS a) (k : Nat) w [] g z true G) : MQ h1 h2 91 [.c (.pt 0 0 0), eI (k : Nat)] [(0, iB (bO SS a) g 1 2 3), (1, aD g.paths), (2, az g.conds)] (aY (.tup []) (oF (bO SS a) G)) := by
 refine aI 500 Z (MC.keep [500,510,511] (R := .tup []) (bs := [iB (bO SS a) G 510 511 503, aD G.paths, az G.conds]) Z Z (jH 29 [500,501,502] h1 h2 Tryz.func91 Z Z Z Z fun O hF => ?_))
 refine ct ?_
 refine ag (ae (j2 O Z Z (jn (ab O Z Z (fun hc5 => ?_) (fun hc5 => ?_)))))
 exact absurd (aQ hc5) (by omega)
 refine ah (jw [4,0,1] Z (kX O [_,_,_,_,_,_,_,_,_,_,_,_,_,_,_,_] [pn [] 0 1, pn [] 0 0, pn [1] 0 0, pn [1,2] 0 0, pn [] 0 0, pe (rg 1 4) 0, pn [] 0 1, pn [6] 0 1, pn [6,7] 0 1, pn [6,7,8] 0 1, pn (rg 6 4) 0 1, pn [] 0 1, pn (rg 6 6) 0 1, pn (rg 6 7) 0 1, pn (rg 6 8) 0 1, pe (rg 0 15) 1] [5,15] [_,_,_] [[], [501,502,19003,19004,19005,19006]] (ai (ka O Z Z (kw O Z Z)) (ka O Z Z (ka O Z Z (ka O Z Z (ka O Z Z (ai (ai (aO (bQ O [500,501,502] (bin := [iB (bO SS a) g 1 2 3, aD g.paths, az g.conds]) Z Z Z Z (rI (SS := SS) (a := a) (g := g) (n := k + 1) (f := f) (w := w) h1 h2 hw hn hsl hf hfl (by omega)) Z Z Z Z Z (B0 := 19000) Z Z Z Z Z Z)) Z) (ai (ka O Z Z (kw O Z Z)) (ai (ka O Z Z (kw O Z Z)) (ai (ka O Z Z (kw O Z Z)) (ai (ka O Z Z (kw O Z Z)) (ai (ka O Z Z (kw O Z Z)) (ai (ka O Z Z (kw O Z Z)) (ai (ai (ai (aS O Z Z Z Z Z Z Z Z (c9 hk)) Z) (ai (aS O Z Z Z Z Z Z Z Z (c9 hk)) Z)) (ai (ka O Z Z (kw O Z Z)) (ai (ai (ai ((V O Z).cast (v' := eI z) (congrArg eI hz)) Z) (ai ((V O Z).cast (v' := eI z) (congrArg eI hz)) Z)) (ai (ai (cq O [500,501,502,19003,19004,19005,19006] [501,502,19003,19004,19005,19006] (bin := [iB (bO SS a) g 1 2 3, aD g.paths, az g.conds, ao [], ao w.vars, ao w.facts, aE w.ev]) Z Z Z Z (ih) Z Z Z Z Z (B0 := 29000) Z Z Z Z Z Z Z) Z) trivial)))))))))))))))) ?_))
 show _ ∧ _
 refine xV ?_
 refine ⟨.inr Z, _, (af 29010 510 Z Z).trans (af 29011 511 Z Z), _, Z, Z, Z⟩
abbrev jq (a : An) : List (List Tm) := a.pre :: a.pts.map (·.fs)
theorem t4 (hv : VA' a) (hcl : cL a = true) (hL : 100000 ≤ L) {n : Nat} (hn : n ≤ a.pts.length) (hg : GD g) : MQ h1 h2 91 [.c (.pt 0 0 0), eI ((n : Int) - 1)] [(0, iB (bO (jq a) a) g 1 2 3), (1, aD g.paths), (2, az g.conds)] (aY (.tup []) (oF (bO (jq a) a) (eg iq a n g))) := by
 have h8 := hv.ok.np
 have hsl : (jq a).length = a.pts.length + 1 := by simp
 cases n with
 | zero =>
  refine uT h1 h2 (w := w0 a.pre) Z (by omega) (by have := hv.ok.npre; omega) (by omega) Z ?_
  exact tZ h1 h2 hv hcl hL 100 (bH _) (FuOk.start hv) (fun _ => ld hv.ok.npre) (fun hb => hg.start hb)
 | succ n =>
  have hk : n < a.pts.length := by omega
  have hl6 := cV (n := 6) (hv.pt hk).1
  have hf : (jq a).getD (n + 1) default = (a.pts.getD n default).fs := by
   rw [aw (by omega), aw hk]; simp
  rw [show (((n + 1 : Nat)) : Int) - 1 = (n : Nat) by omega]
  refine uS h1 h2 (w := w0 (a.pts.getD n default).fs) Z (by omega) (by omega) hk Z (by omega) hf ?_
  exact tZ h1 h2 hv hcl hL 100 (bH _) (FuOk.start hv) (fun _ => ld hl6) (fun hb => hg.start hb)
abbrev kY (a : An) : Pc := bO (jq a) a
abbrev su (a : An) (g : Gs) : List (Nat × B) := [(0, iB (kY a) g 1 2 3), (1, aD g.paths), (2, az g.conds)]
abbrev mA (a : An) (g : Gs) : List (Nat × B) := [(0, iB (kY a) g 10 11 3), (10, aD g.paths), (11, az g.conds)]
theorem vx (hl : (jq a).length ≤ 1000) (hs : (dp (-1) (((jq a).length : Int) - 2) k) = false) : MQ h1 h2 90 [.c (.pt 0 0 0), eB false, eI k, .c (.fb 91 [.pt 0 0 0])] (su a g) (aY (eB false) (mA a g)) := by
 refine aI 500 Z (MC.keep [500,510,511] (bs := [iB (kY a) g 510 511 503, aD g.paths, az g.conds]) Z Z (jH 41 [500,501,502] h1 h2 Tryz.func90 Z Z Z Z fun O hF => ?_))
 refine ct ?_
 refine ae (js O Z (jn (ag (ae (j2 O Z Z (jf [11,8,0,2,3] Z (jn (ab O Z Z (fun hc11 => ?_) (fun hc11 => ?_)))))))))
 refine ag (ae (j2 O Z Z (jf [13,12,8,0,2,3] Z (aq O [500,501,502] (bin := [iB (kY a) g 1 2 3, aD g.paths, az g.conds]) Z Z Z Z (ub (SS := (jq a)) (a := a) (g := g) (k := k) h1 h2 (by simp) hl) Z Z Z Z Z Z (B0 := 15000) Z Z (ap ?_)))))
 refine js O Z (jf [15,8,0,2,3] Z (jn (ab O Z Z (fun hc15 => ?_) (fun hc15 => ?_))))
 refine ae (js O Z (jr ?_))
 refine ⟨.inl Z, _, (af 501 510 Z Z).trans (af 502 511 Z Z), _, Z, Z, Z⟩
 exact absurd hc15 (by rw [hs]; decide)
 cases hc11
theorem vw (hl : (jq a).length ≤ 1000) {g' : Gs} (hs : (dp (-1) (((jq a).length : Int) - 2) k) = true) (ih : MQ h1 h2 91 [.c (.pt 0 0 0), eI k] (su a g) (aY (.tup []) (mA a g'))) : MQ h1 h2 90 [.c (.pt 0 0 0), eB false, eI k, .c (.fb 91 [.pt 0 0 0])] (su a g) (aY (eB (!g'.bad)) (mA a g')) := by
 refine aI 500 Z (MC.keep [500,510,511] (bs := [iB (kY a) g' 510 511 503, aD g'.paths, az g'.conds]) Z Z (jH 41 [500,501,502] h1 h2 Tryz.func90 Z Z Z Z fun O hF => ?_))
 refine ct ?_
 refine ae (js O Z (jn (ag (ae (j2 O Z Z (jf [11,8,0,2,3] Z (jn (ab O Z Z (fun hc11 => ?_) (fun hc11 => ?_)))))))))
 refine ag (ae (j2 O Z Z (jf [13,12,8,0,2,3] Z (aq O [500,501,502] (bin := [iB (kY a) g 1 2 3, aD g.paths, az g.conds]) Z Z Z Z (ub (SS := (jq a)) (a := a) (g := g) (k := k) h1 h2 (by simp) hl) Z Z Z Z Z Z (B0 := 15000) Z Z (ap ?_)))))
 refine js O Z (jf [15,8,0,2,3] Z (jn (ab O Z Z (fun hc15 => ?_) (fun hc15 => ?_))))
 exact absurd hc15 (by rw [hs]; decide)
 refine ah (ae (j2 O Z Z (jf [17,16,8,0,2,3] Z (lQ O [500,501,502] (bin := [iB (kY a) g 1 2 3, aD g.paths, az g.conds]) Z Z Z Z (ih) Z Z Z Z Z Z (B0 := 19000) Z Z (ap ?_)))))
 refine jf [8,0,2,3] Z (aN (j4 O Z Z Z Z (j2 O Z Z (jf [8,0,2,3] Z (jr ?_)))))
 refine ⟨.inl Z, _, (af 19010 510 Z Z).trans (af 19011 511 Z Z), _, Z, Z, Z⟩
 cases hc11
theorem tH {al : Nat → Gs} (h : ∀ i, (al i).bad = true → al (i + 1) = al i) {i : Nat} (hb : (al i).bad = true) : ∀ {n : Nat}, i ≤ n → al n = al i := fun {n} hn => by
 induction n with
 | zero =>
  obtain rfl : i = 0 := by omega
  rfl
 | succ n ih =>
  rcases Nat.lt_or_ge n i with h1 | h1
  obtain rfl : i = n + 1 := by omega
  rfl
  have := ih h1
  rw [h n (by rw [this]; exact hb), this]
theorem vy {al : Nat → Gs} (hl : (jq a).length ≤ 1000) (hst : ∀ i, (al i).bad = true → al (i + 1) = al i) (h0 : (al 0).bad = false) (hal : ∀ i : Nat, i < (jq a).length → (al i).bad = false → MQ h1 h2 91 [.c (.pt 0 0 0), eI ((i : Int) - 1)] (su a (al i)) (aY (.tup []) (mA a (al (i + 1))))) : MQ h1 h2 90 [.c (.pt 0 0 0), eB true, eI k, .c (.fb 91 [.pt 0 0 0])] (su a (al 0)) (aY (eB (!(al (jq a).length).bad)) (mA a (al (jq a).length))) := by
 refine aI 500 Z (MC.keep [500,510,511] (R := eB (!(al (jq a).length).bad)) (bs := [iB (kY a) (al (jq a).length) 510 511 503, aD (al (jq a).length).paths, az (al (jq a).length).conds]) Z Z (jH 41 [500,501,502] h1 h2 Tryz.func90 Z Z Z Z fun O hF => ?_))
 refine ct ?_
 refine ae (js O Z (jn (ag (ae (j2 O Z Z (jf [11,8,0,2,3] Z (jn (ab O Z Z (fun hc11 => ?_) (fun hc11 => ?_)))))))))
 cases hc11
 refine ah (ag (ae (j4 O Z Z Z Z (bw O Z (js O Z (jf [29,28,8,0,2,3] Z (jn (am (au (X := Nat) (fun i => ⟨[(0, .c (.pt 500 0 0)), (3, .c (.fb 91 [.pt 500 0 0])), (28, eI ((jq a).length : Nat)), (29, eI i)], [(500, iB (kY a) (al i) 901 902 503), (901, aD (al i).paths), (902, az (al i).conds)]⟩) (fun i => i ≤ (jq a).length ∧ (al i).bad = false) (fun i => (jq a).length - i) 0 ((((av [500,501,502] (e' := [(0, _), (3, _), (28, _), (29, _)]) Z Z ⟨Z, Z, Z, Z, trivial⟩ Z).trans (af 501 901 Z Z)).trans (af 502 902 Z Z)).trans (Ent.to ⟨Z, Z, Z, Z, trivial⟩ Z)) ?_ (fun i hi => ?_))))))))))
 exact ⟨cC _, h0⟩
 refine ae (js O Z (jn (ag (ab O Z Z (fun hc30 => ?_) (fun hc30 => ?_)))))
 refine ah (ag (am (ae (j2 O Z Z (aN (j2 O Z Z (ji O Z (jf [34,32,31,30,0,3,28,29] Z (lQ O [500,901,902] (bin := [iB (kY a) (al i) 1 2 3, aD (al i).paths, az (al i).conds]) Z Z Z Z (hal i (by have := aQ hc30; omega) hi.2) Z Z Z Z Z Z (B0 := 36000) Z Z (ap ?_))))))))))
 refine jf [31,30,0,3,28,29] Z (aN (j4 O Z Z Z Z (jf [39,31,30,0,3,28,29] Z (jn (ab O Z Z (fun hc39 => ?_) (fun hc39 => ?_))))))
 refine ae (js O Z (jr ?_))
 have e := tH hst (show (al (i + 1)).bad = true from hc39) (n := (jq a).length) (by have := aQ hc30; omega)
 rw [e]
 refine ⟨.inl Z, _, (af 36010 510 Z Z).trans (af 36011 511 Z Z), _, Z, by rw [show (al (i + 1)).bad = true from hc39]; rfl, Z⟩
 refine ah (ak (ji O Z (js O Z (jn ?_))))
 refine ⟨i + 1, (((av [500,36010,36011] (e' := [(0, _), (3, _), (28, _), (29, _)]) Z Z ⟨Z, Z, Z, Z, trivial⟩ Z).trans (af 36010 901 Z Z)).trans (af 36011 902 Z Z)).trans (Ent.to ⟨Z, Z, Z, Z, trivial⟩ Z), ⟨by have := aQ hc30; omega, hc39⟩, by have := aQ hc30; omega⟩
 refine aU (ae (js O Z (jr ?_)))
 obtain rfl : i = (jq a).length := by have := bB hc30; omega
 refine ⟨.inl Z, _, (af 901 510 Z Z).trans (af 902 511 Z Z), _, Z, by rw [hi.2]; rfl, Z⟩
theorem rJ {c : Pc} (hl : g.conds.length ≤ L) (hc : cY g.conds = true) : MQ h1 h2 50 [.c (.pt 0 0 0)] [(0, iB c g 1 2 3), (1, aD g.paths), (2, az g.conds)] (aY (.tup [.c (.rs 2 0 g.conds.length), eB true]) [(0, iB c g 1 2 3), (1, aD g.paths), (2, az g.conds)]) := by
 refine aI 500 Z (MC.keep [500,501,502] (bs := [iB c g 501 502 503, aD g.paths, az g.conds]) Z Z (jH 29 [500,501,502] h1 h2 Tryz.func50 Z Z Z Z fun O hF => ?_))
 refine ct ?_
 have hall : ∀ i, i < g.conds.length → k8 (g.conds.getD i default) = true := fun i hi => by rw [aw hi]; exact List.all_eq_true.1 (Bool.and_eq_true_iff.1 hc).1 _ (List.getElem_mem hi)
 refine ae (j2 O Z Z (jn (ag (ae (j4 O Z Z Z Z (bb O Z Z (js O Z (jf [11,3,2,0] Z (jn (ab O Z Z (fun hc11 => ?_) (fun hc11 => ?_)))))))))))
 exact absurd (aQ hc11) (by have := (Bool.and_eq_true_iff.1 hc).2; have := aQ this; omega)
 refine ah (ag (ae (j4 O Z Z Z Z (bb O Z Z (js O Z (jf [17,16,15,3,2,0] Z (jn (am (au (X := Nat) (fun i => ⟨[(0, .c (.pt 500 0 0)), (15, .c (.rs 502 0 g.conds.length)), (16, eI g.conds.length), (17, eI i)], [(500, iB c g 501 502 503), (501, aD g.paths), (502, az g.conds)]⟩) (fun i => i ≤ g.conds.length ∧ ∀ j (h : j < g.conds.length), j < i → k8 g.conds[j] = true) (fun i => g.conds.length - i) 0 (Ent.to ⟨Z, Z, Z, Z, trivial⟩ Z) ?_ (fun i hi => ?_))))))))))
 exact ⟨cC _, fun j h hj => absurd hj (Nat.not_lt_zero j)⟩
 refine ae (js O Z (jn (ag (ab O Z Z (fun hc18 => ?_) (fun hc18 => ?_)))))
 refine ah (ag (am (ae ?_)))
 have hil : i < g.conds.length := by have := aQ hc18; omega
 have hRi : (g.conds.map Sq.cells)[0 + (i : Int).toNat]? = some (Sq.cells (g.conds.getD i default)) := by rw [Int.toNat_natCast, Nat.zero_add, List.getElem?_map, aw hil, List.getElem?_eq_getElem hil]; rfl
 refine bb O Z Z (AOps.step (ar O (ex := Sq.cells (g.conds.getD i default)) Z Z Z Z hRi Z) Z Z Z (jf [20,18,0,15,16,17] Z (jl O Z (ap ?_))))
 refine jo O Z (ap ?_)
 refine aN (js O Z (ac O Z Z Z Z (wr (s := (g.conds.getD i default)) h1 h2) (.cons (.agg (.cons (.rp Z hRi Z) (.cons .d (.cons (.rp Z hRi Z) .nil)))) .nil) Z Z Z Z Z (B0 := 23000) Z (js O Z (jf [23,5,20,18,0,15,16,17] Z (jn (ab O Z Z (fun hc23 => ?_) (fun hc23 => ?_)))))))
 exact absurd hc23 (by rw [hall i (by have := aQ hc18; omega)]; decide)
 refine ah (ak (ji O Z (js O Z (jn ?_))))
 refine ⟨i + 1, (av [500,501,502] (e' := [(0, _), (15, _), (16, _), (17, _)]) Z Z ⟨Z, Z, Z, Z, trivial⟩ Z).trans (Ent.to ⟨Z, Z, Z, Z, trivial⟩ Z), ⟨by have := aQ hc18; omega, fun j h hj => ?_⟩, by have := aQ hc18; omega⟩
 by_cases e : j = i
 subst e; rw [aw h] at hc23; simpa using hc23
 exact hi.2 j h (by omega)
 refine aU (ae (j4 O Z Z Z Z (j2 O Z Z (jf [3,2,18,0,15,16,17] Z (jr ?_)))))
 refine ⟨.inl Z, _, av [500,501,502] (e' := [(2, _), (3, _)]) Z Z ⟨Z, Z, trivial⟩ Z, _, Z, Z, Z⟩
theorem rK {c : Pc} (hl : g.conds.length ≤ L) (hc : cY g.conds = false) : MQ h1 h2 50 [.c (.pt 0 0 0)] [(0, iB c g 1 2 3), (1, aD g.paths), (2, az g.conds)] (aY (.tup [.c (.d .nils), eB false]) [(0, iB c g 1 2 3), (1, aD g.paths), (2, az g.conds)]) := by
 refine aI 500 Z (MC.keep [500,501,502] (bs := [iB c g 501 502 503, aD g.paths, az g.conds]) Z Z (jH 29 [500,501,502] h1 h2 Tryz.func50 Z Z Z Z fun O hF => ?_))
 refine ct ?_
 refine ae (j2 O Z Z (jn (ag (ae (j4 O Z Z Z Z (bb O Z Z (js O Z (jf [11,3,2,0] Z (jn (ab O Z Z (fun hc11 => ?_) (fun hc11 => ?_)))))))))))
 refine ae (j2 O Z Z (jr ?_))
 refine ⟨.inl Z, _, av [500,501,502] (e' := [(2, _), (3, _)]) Z Z ⟨Z, Z, trivial⟩ Z, _, Z, Z, Z⟩
 refine ah (ag (ae (j4 O Z Z Z Z (bb O Z Z (js O Z (jf [17,16,15,3,2,0] Z (jn (am (au (X := Nat) (fun i => ⟨[(0, .c (.pt 500 0 0)), (15, .c (.rs 502 0 g.conds.length)), (16, eI g.conds.length), (17, eI i)], [(500, iB c g 501 502 503), (501, aD g.paths), (502, az g.conds)]⟩) (fun i => i ≤ g.conds.length ∧ ∀ j (h : j < g.conds.length), j < i → k8 g.conds[j] = true) (fun i => g.conds.length - i) 0 (Ent.to ⟨Z, Z, Z, Z, trivial⟩ Z) ?_ (fun i hi => ?_))))))))))
 exact ⟨cC _, fun j h hj => absurd hj (Nat.not_lt_zero j)⟩
 refine ae (js O Z (jn (ag (ab O Z Z (fun hc18 => ?_) (fun hc18 => ?_)))))
 refine ah (ag (am (ae ?_)))
 have hil : i < g.conds.length := by have := aQ hc18; omega
 have hRi : (g.conds.map Sq.cells)[0 + (i : Int).toNat]? = some (Sq.cells (g.conds.getD i default)) := by rw [Int.toNat_natCast, Nat.zero_add, List.getElem?_map, aw hil, List.getElem?_eq_getElem hil]; rfl
 refine bb O Z Z (AOps.step (ar O (ex := Sq.cells (g.conds.getD i default)) Z Z Z Z hRi Z) Z Z Z (jf [20,18,0,15,16,17] Z (jl O Z (ap ?_))))
 refine jo O Z (ap ?_)
 refine aN (js O Z (ac O Z Z Z Z (wr (s := (g.conds.getD i default)) h1 h2) (.cons (.agg (.cons (.rp Z hRi Z) (.cons .d (.cons (.rp Z hRi Z) .nil)))) .nil) Z Z Z Z Z (B0 := 23000) Z (js O Z (jf [23,5,20,18,0,15,16,17] Z (jn (ab O Z Z (fun hc23 => ?_) (fun hc23 => ?_)))))))
 refine ae (j2 O Z Z (jr ?_))
 refine ⟨.inl Z, _, av [500,501,502] (e' := [(2, _), (3, _)]) Z Z ⟨Z, Z, trivial⟩ Z, _, Z, Z, Z⟩
 refine ah (ak (ji O Z (js O Z (jn ?_))))
 refine ⟨i + 1, (av [500,501,502] (e' := [(0, _), (15, _), (16, _), (17, _)]) Z Z ⟨Z, Z, Z, Z, trivial⟩ Z).trans (Ent.to ⟨Z, Z, Z, Z, trivial⟩ Z), ⟨by have := aQ hc18; omega, fun j h hj => ?_⟩, by have := aQ hc18; omega⟩
 by_cases e : j = i
 subst e; rw [aw h] at hc23; simpa using hc23
 exact hi.2 j h (by omega)
 refine aU (ae (j4 O Z Z Z Z (j2 O Z Z (jf [3,2,18,0,15,16,17] Z (jr ?_)))))
 exfalso
 have hall := fB (p := k8) (fun j hj => hi.2 j hj (by have := bB hc18; omega))
 unfold cY at hc
 rw [hall, Bool.true_and] at hc
 exact absurd (bB hc) (by have := bB hc11; omega)
variable {all : Bool}
theorem u3 (hv : cy a = false) : MQ h1 h2 49 [aAn a, eB all, eI z] [] (Plain (.tup [.c (.d .nilp), eB false])) := by
 refine MC.data (jB 63 h1 h2 Tryz.func49 Z Z Z fun O hF => ?_)
 have h66 := sg (L := L) h1 h2 hv
 refine ae (jx O Z (ap ?_))
 refine ay (Ent.freeze 3 (e' := [(3, _), (0, _), (1, _), (2, _)]) Z (.cons Z (.c (.box (cs := a.data) Z (aC Z))) (fe [0,1,2] Z)) (.skip .nil)) ?_
 refine ap ?_
 refine j2 O Z Z (jn (ag (ae (js O Z (aL O (B0 := 16000) Z Z Z Z (h66) (aa Z) Z Z Z Z Z Z (ap ?_))))))
 refine j4 O Z Z Z Z (js O Z (jf [9,7,6,3,0,1,2] Z (aN (j3 O Z Z Z (jf [20,7,6,3,0,1,2] Z (AOps.skip Z Z Z Z Z Z (AOps.skip Z Z Z Z Z Z (jf [22,20,7,6,3,0,1,2] Z (AOps.skip Z Z Z Z Z Z (AOps.step (bd O Z Z Z Z Z) Z Z Z (jf [24,7,6,3,0,1,2] Z (jn (ab O Z Z (fun hc24 => ?_) (fun hc24 => ?_))))))))))))))
 refine ae (j2 O Z Z (jr ?_))
 refine ⟨.inl Z, _, aj, _, Z, ?_⟩
 exact .tup (.cons (.c .d) (.cons (.c .d) .nil))
 exact absurd hc24 (by decide)
theorem uZ (hv : cy a = true) (hq : fP a.code (qP a.pts) = none) : MQ h1 h2 49 [aAn a, eB all, eI z] [] (Plain (.tup [.c (.d .nilp), eB false])) := by
 refine MC.data (jB 63 h1 h2 Tryz.func49 Z Z Z fun O hF => ?_)
 have h66 := oY (L := L) h1 h2 hv
 rw [hq] at h66
 refine ae (jx O Z (ap ?_))
 refine ay (Ent.freeze 3 (e' := [(3, _), (0, _), (1, _), (2, _)]) Z (.cons Z (.c (.box (cs := a.data) Z (aC Z))) (fe [0,1,2] Z)) (.skip .nil)) ?_
 refine ap ?_
 refine j2 O Z Z (jn (ag (ae (js O Z (aL O (B0 := 16000) Z Z Z Z (h66) (aa Z) Z Z Z Z Z Z (ap ?_))))))
 refine j4 O Z Z Z Z (js O Z (jf [9,7,6,3,0,1,2] Z (aN (j3 O Z Z Z (jf [20,7,6,3,0,1,2] Z (AOps.skip Z Z Z Z Z Z (AOps.skip Z Z Z Z Z Z (jf [22,20,7,6,3,0,1,2] Z (AOps.skip Z Z Z Z Z Z (AOps.step (bd O Z Z Z Z Z) Z Z Z (jf [24,7,6,3,0,1,2] Z (jn (ab O Z Z (fun hc24 => ?_) (fun hc24 => ?_))))))))))))))
 refine ae (j2 O Z Z (jr ?_))
 refine ⟨.inl Z, _, aj, _, Z, ?_⟩
 exact .tup (.cons (.c .d) (.cons (.c .d) .nil))
 exact absurd hc24 (by decide)
variable {h : List Int}
theorem uY (hv : cy a = true) (hq : fP a.code (qP a.pts) = some h) (ho : (bP a).any (fun b => b) = true) : MQ h1 h2 49 [aAn a, eB all, eI z] [] (Plain (.tup [.c (.d .nilp), eB false])) := by
 refine MC.data (jB 63 h1 h2 Tryz.func49 Z Z Z fun O hF => ?_)
 have hva := cv hv
 have h66 := oY (L := L) h1 h2 hv
 rw [hq] at h66
 have h68 := qZ (L := L) h1 h2 (a := a) hva.ok.len
 have h80 := hva.ok.len
 have hA : MC Tryz.prog L 88 [.c (.rs 0 0 a.code.length), eB true] [(0, dE (bP a))] (aY (eB true) [(0, dE (bP a))]) := by have h9 := q8 (L := L) h1 h2 (u := bP a) (by rw [cF]; omega); rw [cF, ho] at h9; exact h9
 refine ae (jx O Z (ap ?_))
 refine ay (Ent.freeze 3 (e' := [(3, _), (0, _), (1, _), (2, _)]) Z (.cons Z (.c (.box (cs := a.data) Z (aC Z))) (fe [0,1,2] Z)) (.skip .nil)) ?_
 refine ap ?_
 refine j2 O Z Z (jn (ag (ae (js O Z (aL O (B0 := 16000) Z Z Z Z (h66) (aa Z) Z Z Z Z Z Z (ap ?_))))))
 refine j4 O Z Z Z Z (js O Z (jf [9,7,6,3,0,1,2] Z (aN (j3 O Z Z Z (jf [20,7,6,3,0,1,2] Z (bp Z (js O Z (bp Z (aL O (B0 := 23000) Z Z Z Z (h68) (aa Z) Z Z Z Z Z Z (ap ?_))))))))))
 refine jf [22,20,7,6,3,0,1,2] Z (bp Z (aq O [23000] (bin := [dE (bP a)]) Z Z Z Z (hA) Z Z Z Z Z Z (B0 := 24000) Z Z (ap ?_)))
 refine AOps.step (aH O Z Z Z Z Z) Z Z Z (jf [24,7,6,3,0,1,2] Z (jn (ab O Z Z (fun hc24 => ?_) (fun hc24 => ?_))))
 refine ae (j2 O Z Z (jr ?_))
 refine ⟨.inl Z, _, aj, _, Z, ?_⟩
 exact .tup (.cons (.c .d) (.cons (.c .d) .nil))
 exact absurd hc24 (by decide)
theorem rF (hv : cy a = true) (hq : fP a.code (qP a.pts) = some h) (ho : (bP a).any (fun b => b) = false) (hG : MQ h1 h2 90 [.c (.pt 0 0 0), eB all, eI z, .c (.fb 91 [.pt 0 0 0])] (su a g0) (aY (eB true) (mA a G))) : MQ h1 h2 49 [aAn a, eB all, eI z] [] (aY (.tup [.c (.pt 0 0 0), eB true]) (mA a G)) := by
 refine aI 500 Z (MC.keep [500,510,511] (bs := [iB (kY a) G 510 511 503, aD G.paths, az G.conds]) Z Z (jB 63 h1 h2 Tryz.func49 Z Z Z fun O hF => ?_))
 have hva := cv hv
 have h66 := oY (L := L) h1 h2 hv
 rw [hq] at h66
 have h68 := qZ (L := L) h1 h2 (a := a) hva.ok.len
 have h80 := hva.ok.len
 have hA : MC Tryz.prog L 88 [.c (.rs 0 0 a.code.length), eB true] [(0, dE (bP a))] (aY (eB false) [(0, dE (bP a))]) := by have h9 := q8 (L := L) h1 h2 (u := bP a) (by rw [cF]; omega); rw [cF, ho] at h9; exact h9
 have h8 := hva.ok.np
 refine ae (jx O Z (ap ?_))
 refine ay (Ent.freeze 3 (e' := [(3, _), (0, _), (1, _), (2, _)]) Z (.cons Z (.c (.box (cs := a.data) Z (aC Z))) (fe [0,1,2] Z)) (.skip .nil)) ?_
 refine ap ?_
 refine j2 O Z Z (jn (ag (ae (js O Z (aL O (B0 := 16000) Z Z Z Z (h66) (aa Z) Z Z Z Z Z Z (ap ?_))))))
 refine j4 O Z Z Z Z (js O Z (jf [9,7,6,3,0,1,2] Z (aN (j3 O Z Z Z (jf [20,7,6,3,0,1,2] Z (bp Z (js O Z (bp Z (aL O (B0 := 23000) Z Z Z Z (h68) (aa Z) Z Z Z Z Z Z (ap ?_))))))))))
 refine jf [22,20,7,6,3,0,1,2] Z (bp Z (aq O [23000] (bin := [dE (bP a)]) Z Z Z Z (hA) Z Z Z Z Z Z (B0 := 24000) Z Z (ap ?_)))
 refine AOps.step (aH O Z Z Z Z Z) Z Z Z (jf [24,7,6,3,0,1,2] Z (jn (ab O Z Z (fun hc24 => ?_) (fun hc24 => ?_))))
 exact absurd hc24 (by decide)
 refine ah (ae (j3 O Z Z Z (jf [27,25,7,6,3,0,1,2] Z (AOps.heap (dy O Z Z Z Z Z Z Z Z Z Z Z) Z (ap ?_)))))
 refine j2 O Z Z (jf [30,7,6,3,0,1,2] Z (jx O Z (ap ?_)))
 refine js O Z (jf [10,7,6,3,0,1,2] Z (jn (ag (ae (j2 O Z Z ?_)))))
 first | refine bw O Z ?_ | refine js O Z ?_ | refine bb O Z Z ?_
 refine js O Z (jn (am (au (X := Nat) (fun i => ⟨[(1, eB all), (2, eI z), (10, .c (.pt 31 0 0)), (33, .c (.d (fR a.pts))), (34, eI a.pts.length), (35, eI i)], [(31, .box [.d .nils, .rs 901 0 (i + 1), .d .nils, .d .nils, .d (.bool false), .d (em a.pre), .d (em a.post), .d (i8 a.code), .d (fR a.pts)]), (901, .row false 1 ((a.pre :: (a.pts.take i).map (·.fs)).map fun f => [em f]))]⟩) (fun i => i ≤ a.pts.length) (fun i => a.pts.length - i) 0 (((av [31,28] (e' := [(1, _), (2, _), (10, _), (33, _), (34, _), (35, _)]) Z Z ⟨Z, Z, Z, Z, Z, Z, trivial⟩ Z).trans (af 28 901 Z Z)).trans (Ent.to ⟨Z, Z, Z, Z, Z, Z, trivial⟩ Z)) ?_ (fun i hi => ?_))))
 exact cC _
 refine ae (js O Z (jn (ag (ab O Z Z (fun hc36 => ?_) (fun hc36 => ?_)))))
 refine ah (ag (am (ae ?_)))
 have hil : i < a.pts.length := by have := aQ hc36; omega
 refine AOps.step (aS O Z Z Z Z Z Z Z Z (c9 hil)) Z Z Z (js O Z (jf [38,36,1,2,10,33,34,35] Z (jl O Z (ap ?_))))
 refine jo O Z (ap ?_)
 refine jn (kX O [_,_,_,_,_,_,_,_,_,_,_,_,_,_] [pn [] 0 2, pn [] 0 1, pn [1] 0 1, pn [1,2] 0 1, pn [1,2,3] 0 1, pn (rg 1 4) 0 1, pn [] 0 0, pn [6] 0 0, pe [6,7] 0, pe (rg 1 8) 1, pn (rg 0 10) 2 2, pn (rg 0 11) 2 2, pn (rg 0 12) 2 2, pe (rg 0 13) 2] [8,9,13] [_,_,_,_] [[], [901], []] (ai (ka O Z Z (ka O Z Z (kw O Z Z))) (ai (ka O Z Z (kw O Z Z)) (ai (ka O Z Z (kw O Z Z)) (ai (ka O Z Z (kw O Z Z)) (ai (ka O Z Z (kw O Z Z)) (ai (ka O Z Z (kw O Z Z)) (ka O Z Z (ka O Z Z (ai (ai (aO (bU O Z Z Z Z Z Z Z Z Z Z Z Z Z Z)) Z) (ai (ai (bK (own := false) (xs := ((a.pre :: (a.pts.take i).map (·.fs)).map fun f => [em f])) (ys := [[em (a.pts.getD i default).fs]]) (zs := ((a.pre :: (a.pts.take (i + 1)).map (·.fs)).map fun f => [em f])) (n := i + 2) O Z Z Z Z Z Z Z Z Z Z Z Z Z Z Z Z (.row Z (by simp; omega)) (.whole Z Z (.inr ⟨Z, Z⟩)) (by simp) Z (by simp; omega) (by simp; omega) (by rw [List.take_succ_eq_append_getElem hil, aw hil, List.map_append, ← List.cons_append, List.map_append]; rfl) (by simp; omega) Z) Z) (ka O Z Z (ka O Z Z (ka O Z Z (ai (ai (aO (eS O Z Z Z)) Z) trivial)))))))))))))) ?_)
 refine jw [12,38,36,1,2,10,33,34,35] Z (ct ?_)
 refine ak ?_
 first | refine ji O Z ?_ | refine bb O Z Z ?_
 refine js O Z (jn ?_)
 refine ⟨i + 1, ((av [31,48] (e' := [(1, _), (2, _), (10, _), (33, _), (34, _), (35, _)]) Z Z ⟨Z, Z, Z, Z, Z, Z, trivial⟩ Z).trans (af 48 901 Z Z)).trans (Ent.to ⟨Z, Z, Z, Z, Z, Z, trivial⟩ Z), by omega, by omega⟩
 refine aU (ag (ae ?_))
 obtain rfl : i = a.pts.length := by have := bB hc36; omega
 rw [List.take_length]
 refine ay (Ent.freeze 901 (e' := [(1, _), (2, _), (10, _)]) Z (fe [1,2,10] Z) (.cons Z (.box (.cons (.keep Z) (.cons (.row Z (by simp)) (fk Z)))) (.skip .nil))) ?_
 refine ay (cx 31 902 5 true 2 Z Z Z) (ap ?_)
 refine ay (cx 31 904 3 true 3 Z Z Z) (ap ?_)
 refine j4 O Z Z Z Z (j2 O Z Z (AOps.step (kR O Z Z Z Z Z) Z Z Z (jf [59,57,56,55,1,2,10] Z (aq O [31,902,904] (bin := [iB (kY a) g0 1 2 3, aD g0.paths, az g0.conds]) Z Z Z Z (hG) Z Z Z Z Z Z (B0 := 61000) Z Z (ap ?_)))))
 refine js O Z (jf [61,1,2,10] Z (jn (ab O Z Z (fun hc61 => ?_) (fun hc61 => ?_))))
 exact absurd hc61 (by decide)
 refine ah (ae (j3 O Z Z Z (jr ?_)))
 refine ⟨.inl Z, _, ((af 31 500 Z Z).trans (af 61010 510 Z Z)).trans (af 61011 511 Z Z), _, Z, Z, Z⟩
theorem nO (hv : cy a = true) (hq : fP a.code (qP a.pts) = some h) (ho : (bP a).any (fun b => b) = false) (hG : MQ h1 h2 90 [.c (.pt 0 0 0), eB all, eI z, .c (.fb 91 [.pt 0 0 0])] (su a g0) (aY (eB false) (mA a G))) : MQ h1 h2 49 [aAn a, eB all, eI z] [] (Plain (.tup [.c (.d .nilp), eB false])) := by
 refine MC.data (jB 63 h1 h2 Tryz.func49 Z Z Z fun O hF => ?_)
 have hva := cv hv
 have h66 := oY (L := L) h1 h2 hv
 rw [hq] at h66
 have h68 := qZ (L := L) h1 h2 (a := a) hva.ok.len
 have h80 := hva.ok.len
 have hA : MC Tryz.prog L 88 [.c (.rs 0 0 a.code.length), eB true] [(0, dE (bP a))] (aY (eB false) [(0, dE (bP a))]) := by have h9 := q8 (L := L) h1 h2 (u := bP a) (by rw [cF]; omega); rw [cF, ho] at h9; exact h9
 have h8 := hva.ok.np
 refine ae (jx O Z (ap ?_))
 refine ay (Ent.freeze 3 (e' := [(3, _), (0, _), (1, _), (2, _)]) Z (.cons Z (.c (.box (cs := a.data) Z (aC Z))) (fe [0,1,2] Z)) (.skip .nil)) ?_
 refine ap ?_
 refine j2 O Z Z (jn (ag (ae (js O Z (aL O (B0 := 16000) Z Z Z Z (h66) (aa Z) Z Z Z Z Z Z (ap ?_))))))
 refine j4 O Z Z Z Z (js O Z (jf [9,7,6,3,0,1,2] Z (aN (j3 O Z Z Z (jf [20,7,6,3,0,1,2] Z (bp Z (js O Z (bp Z (aL O (B0 := 23000) Z Z Z Z (h68) (aa Z) Z Z Z Z Z Z (ap ?_))))))))))
 refine jf [22,20,7,6,3,0,1,2] Z (bp Z (aq O [23000] (bin := [dE (bP a)]) Z Z Z Z (hA) Z Z Z Z Z Z (B0 := 24000) Z Z (ap ?_)))
 refine AOps.step (aH O Z Z Z Z Z) Z Z Z (jf [24,7,6,3,0,1,2] Z (jn (ab O Z Z (fun hc24 => ?_) (fun hc24 => ?_))))
 exact absurd hc24 (by decide)
 refine ah (ae (j3 O Z Z Z (jf [27,25,7,6,3,0,1,2] Z (AOps.heap (dy O Z Z Z Z Z Z Z Z Z Z Z) Z (ap ?_)))))
 refine j2 O Z Z (jf [30,7,6,3,0,1,2] Z (jx O Z (ap ?_)))
 refine js O Z (jf [10,7,6,3,0,1,2] Z (jn (ag (ae (j2 O Z Z ?_)))))
 first | refine bw O Z ?_ | refine js O Z ?_ | refine bb O Z Z ?_
 refine js O Z (jn (am (au (X := Nat) (fun i => ⟨[(1, eB all), (2, eI z), (10, .c (.pt 31 0 0)), (33, .c (.d (fR a.pts))), (34, eI a.pts.length), (35, eI i)], [(31, .box [.d .nils, .rs 901 0 (i + 1), .d .nils, .d .nils, .d (.bool false), .d (em a.pre), .d (em a.post), .d (i8 a.code), .d (fR a.pts)]), (901, .row false 1 ((a.pre :: (a.pts.take i).map (·.fs)).map fun f => [em f]))]⟩) (fun i => i ≤ a.pts.length) (fun i => a.pts.length - i) 0 (((av [31,28] (e' := [(1, _), (2, _), (10, _), (33, _), (34, _), (35, _)]) Z Z ⟨Z, Z, Z, Z, Z, Z, trivial⟩ Z).trans (af 28 901 Z Z)).trans (Ent.to ⟨Z, Z, Z, Z, Z, Z, trivial⟩ Z)) ?_ (fun i hi => ?_))))
 exact cC _
 refine ae (js O Z (jn (ag (ab O Z Z (fun hc36 => ?_) (fun hc36 => ?_)))))
 refine ah (ag (am (ae ?_)))
 have hil : i < a.pts.length := by have := aQ hc36; omega
 refine AOps.step (aS O Z Z Z Z Z Z Z Z (c9 hil)) Z Z Z (js O Z (jf [38,36,1,2,10,33,34,35] Z (jl O Z (ap ?_))))
 refine jo O Z (ap ?_)
 refine jn (kX O [_,_,_,_,_,_,_,_,_,_,_,_,_,_] [pn [] 0 2, pn [] 0 1, pn [1] 0 1, pn [1,2] 0 1, pn [1,2,3] 0 1, pn (rg 1 4) 0 1, pn [] 0 0, pn [6] 0 0, pe [6,7] 0, pe (rg 1 8) 1, pn (rg 0 10) 2 2, pn (rg 0 11) 2 2, pn (rg 0 12) 2 2, pe (rg 0 13) 2] [8,9,13] [_,_,_,_] [[], [901], []] (ai (ka O Z Z (ka O Z Z (kw O Z Z))) (ai (ka O Z Z (kw O Z Z)) (ai (ka O Z Z (kw O Z Z)) (ai (ka O Z Z (kw O Z Z)) (ai (ka O Z Z (kw O Z Z)) (ai (ka O Z Z (kw O Z Z)) (ka O Z Z (ka O Z Z (ai (ai (aO (bU O Z Z Z Z Z Z Z Z Z Z Z Z Z Z)) Z) (ai (ai (bK (own := false) (xs := ((a.pre :: (a.pts.take i).map (·.fs)).map fun f => [em f])) (ys := [[em (a.pts.getD i default).fs]]) (zs := ((a.pre :: (a.pts.take (i + 1)).map (·.fs)).map fun f => [em f])) (n := i + 2) O Z Z Z Z Z Z Z Z Z Z Z Z Z Z Z Z (.row Z (by simp; omega)) (.whole Z Z (.inr ⟨Z, Z⟩)) (by simp) Z (by simp; omega) (by simp; omega) (by rw [List.take_succ_eq_append_getElem hil, aw hil, List.map_append, ← List.cons_append, List.map_append]; rfl) (by simp; omega) Z) Z) (ka O Z Z (ka O Z Z (ka O Z Z (ai (ai (aO (eS O Z Z Z)) Z) trivial)))))))))))))) ?_)
 refine jw [12,38,36,1,2,10,33,34,35] Z (ct ?_)
 refine ak ?_
 first | refine ji O Z ?_ | refine bb O Z Z ?_
 refine js O Z (jn ?_)
 refine ⟨i + 1, ((av [31,48] (e' := [(1, _), (2, _), (10, _), (33, _), (34, _), (35, _)]) Z Z ⟨Z, Z, Z, Z, Z, Z, trivial⟩ Z).trans (af 48 901 Z Z)).trans (Ent.to ⟨Z, Z, Z, Z, Z, Z, trivial⟩ Z), by omega, by omega⟩
 refine aU (ag (ae ?_))
 obtain rfl : i = a.pts.length := by have := bB hc36; omega
 rw [List.take_length]
 refine ay (Ent.freeze 901 (e' := [(1, _), (2, _), (10, _)]) Z (fe [1,2,10] Z) (.cons Z (.box (.cons (.keep Z) (.cons (.row Z (by simp)) (fk Z)))) (.skip .nil))) ?_
 refine ay (cx 31 902 5 true 2 Z Z Z) (ap ?_)
 refine ay (cx 31 904 3 true 3 Z Z Z) (ap ?_)
 refine j4 O Z Z Z Z (j2 O Z Z (AOps.step (kR O Z Z Z Z Z) Z Z Z (jf [59,57,56,55,1,2,10] Z (aq O [31,902,904] (bin := [iB (kY a) g0 1 2 3, aD g0.paths, az g0.conds]) Z Z Z Z (hG) Z Z Z Z Z Z (B0 := 61000) Z Z (ap ?_)))))
 refine js O Z (jf [61,1,2,10] Z (jn (ab O Z Z (fun hc61 => ?_) (fun hc61 => ?_))))
 refine ae (j2 O Z Z (jr ?_))
 refine ⟨.inl Z, _, aj, _, Z, ?_⟩
 exact .tup (.cons (.c .d) (.cons (.c .d) .nil))
 exact absurd hc61 (by decide)
theorem vc (hP : MQ h1 h2 49 [aAn a, eB false, eI k] [] (aY (.tup [.c (.pt 0 0 0), eB true]) (mA a g))) (hl : g.conds.length ≤ L) (hc : cY g.conds = true) : MQ h1 h2 12 [aAn a, eI k] [] (Rows (.tup [.c (.rs 0 0 g.conds.length), eB true]) [az g.conds]) := by
 refine bm (jB 22 h1 h2 Tryz.func12 Z Z Z fun O hF => ?_)
 refine ae (jx O Z (ap ?_))
 refine ay (Ent.freeze 2 (e' := [(2, _), (0, _), (1, _)]) Z (.cons Z (.c (.box (cs := a.data) Z (aC Z))) (fe [0,1] Z)) (.skip .nil)) ?_
 refine ap ?_
 refine j2 O Z Z (aN (j2 O Z Z (jf [10,9,5,4,0] Z (aq O [] (bin := []) Z Z Z Z (hP) Z Z Z Z Z Z (B0 := 12000) Z Z (ap ?_)))))
 refine j4 O Z Z Z Z (js O Z (jf [7,6,5,4,0] Z (jn (ag (ae (j2 O Z Z (jf [15,6,5,4,0] Z (jn (ab O Z Z (fun hc15 => ?_) (fun hc15 => ?_))))))))))
 exact absurd hc15 (by decide)
 refine ah (ae (j3 O Z Z Z (jf [18,5,4,0] Z (aq O [12000,12010,12011] (bin := [iB (kY a) g 1 2 3, aD g.paths, az g.conds]) Z Z Z Z (rJ (c := kY a) (g := g) h1 h2 hl hc) Z Z Z Z Z Z (B0 := 20000) Z Z (ap ?_)))))
 refine j4 O Z Z Z Z (jf [5,4,0] Z (jr ?_))
 refine ⟨.inl Z, _, aj, _, Z, [12011], by decide, Z, Z, Z⟩
theorem vd (hP : MQ h1 h2 49 [aAn a, eB false, eI k] [] (aY (.tup [.c (.pt 0 0 0), eB true]) (mA a g))) (hl : g.conds.length ≤ L) (hc : cY g.conds = false) : MQ h1 h2 12 [aAn a, eI k] [] (Rows (.tup [.c (.d .nils), eB false]) []) := by
 refine bm (jB 22 h1 h2 Tryz.func12 Z Z Z fun O hF => ?_)
 refine ae (jx O Z (ap ?_))
 refine ay (Ent.freeze 2 (e' := [(2, _), (0, _), (1, _)]) Z (.cons Z (.c (.box (cs := a.data) Z (aC Z))) (fe [0,1] Z)) (.skip .nil)) ?_
 refine ap ?_
 refine j2 O Z Z (aN (j2 O Z Z (jf [10,9,5,4,0] Z (aq O [] (bin := []) Z Z Z Z (hP) Z Z Z Z Z Z (B0 := 12000) Z Z (ap ?_)))))
 refine j4 O Z Z Z Z (js O Z (jf [7,6,5,4,0] Z (jn (ag (ae (j2 O Z Z (jf [15,6,5,4,0] Z (jn (ab O Z Z (fun hc15 => ?_) (fun hc15 => ?_))))))))))
 exact absurd hc15 (by decide)
 refine ah (ae (j3 O Z Z Z (jf [18,5,4,0] Z (aq O [12000,12010,12011] (bin := [iB (kY a) g 1 2 3, aD g.paths, az g.conds]) Z Z Z Z (rK (c := kY a) (g := g) h1 h2 hl hc) Z Z Z Z Z Z (B0 := 20000) Z Z (ap ?_)))))
 refine j4 O Z Z Z Z (jf [5,4,0] Z (jr ?_))
 refine ⟨.inl Z, _, aj, _, Z, [], by decide, Z, Z, Z⟩
theorem lX (hP : MQ h1 h2 49 [aAn a, eB false, eI k] [] (Plain (.tup [.c (.d .nilp), eB false]))) : MQ h1 h2 12 [aAn a, eI k] [] (Rows (.tup [.c (.d .nils), eB false]) []) := by
 refine bm (jB 22 h1 h2 Tryz.func12 Z Z Z fun O hF => ?_)
 refine ae (jx O Z (ap ?_))
 refine ay (Ent.freeze 2 (e' := [(2, _), (0, _), (1, _)]) Z (.cons Z (.c (.box (cs := a.data) Z (aC Z))) (fe [0,1] Z)) (.skip .nil)) ?_
 refine ap ?_
 refine j2 O Z Z (aN (j2 O Z Z (jf [10,9,5,4,0] Z (ax O Z Z Z Z (hP) (aa Z) Z Z Z Z (B0 := 12000) Z Z (j4 O Z Z Z Z (js O Z (jf [7,6,5,4,0] Z (jn (ag (ae (j2 O Z Z (jf [15,6,5,4,0] Z (jn (ab O Z Z (fun hc15 => ?_) (fun hc15 => ?_)))))))))))))))
 refine ae (j2 O Z Z (jr ?_))
 refine ⟨.inl Z, _, aj, _, Z, [], by decide, Z, Z, Z⟩
 exact absurd hc15 (by decide)
theorem u9 (hP : MQ h1 h2 49 [aAn a, eB true, eI 0] [] (aY (.tup [.c (.pt 0 0 0), eB true]) (mA a g))) (hl : g.conds.length ≤ L) (hc : cY g.conds = true) : MQ h1 h2 24 [aAn a] [] (Rows (.tup [.c (.rs 0 0 g.conds.length), eB true]) [az g.conds]) := by
 refine bm (jB 19 h1 h2 Tryz.func24 Z Z Z fun O hF => ?_)
 refine ae (jx O Z (ap ?_))
 refine ay (Ent.freeze 1 (e' := [(1, _), (0, _)]) Z (.cons Z (.c (.box (cs := a.data) Z (aC Z))) (fe [0] Z)) (.skip .nil)) ?_
 refine ap ?_
 refine j2 O Z Z (aN (js O Z (jf [7,3,2,0] Z (aq O [] (bin := []) Z Z Z Z (hP) Z Z Z Z Z Z (B0 := 9000) Z Z (ap ?_)))))
 refine j4 O Z Z Z Z (js O Z (jf [5,4,3,2,0] Z (jn (ag (ae (j2 O Z Z (jf [12,4,3,2,0] Z (jn (ab O Z Z (fun hc12 => ?_) (fun hc12 => ?_))))))))))
 exact absurd hc12 (by decide)
 refine ah (ae (j3 O Z Z Z (jf [15,3,2,0] Z (aq O [9000,9010,9011] (bin := [iB (kY a) g 1 2 3, aD g.paths, az g.conds]) Z Z Z Z (rJ (c := kY a) (g := g) h1 h2 hl hc) Z Z Z Z Z Z (B0 := 17000) Z Z (ap ?_)))))
 refine j4 O Z Z Z Z (jf [3,2,0] Z (jr ?_))
 refine ⟨.inl Z, _, aj, _, Z, [9011], by decide, Z, Z, Z⟩
theorem va (hP : MQ h1 h2 49 [aAn a, eB true, eI 0] [] (aY (.tup [.c (.pt 0 0 0), eB true]) (mA a g))) (hl : g.conds.length ≤ L) (hc : cY g.conds = false) : MQ h1 h2 24 [aAn a] [] (Rows (.tup [.c (.d .nils), eB false]) []) := by
 refine bm (jB 19 h1 h2 Tryz.func24 Z Z Z fun O hF => ?_)
 refine ae (jx O Z (ap ?_))
 refine ay (Ent.freeze 1 (e' := [(1, _), (0, _)]) Z (.cons Z (.c (.box (cs := a.data) Z (aC Z))) (fe [0] Z)) (.skip .nil)) ?_
 refine ap ?_
 refine j2 O Z Z (aN (js O Z (jf [7,3,2,0] Z (aq O [] (bin := []) Z Z Z Z (hP) Z Z Z Z Z Z (B0 := 9000) Z Z (ap ?_)))))
 refine j4 O Z Z Z Z (js O Z (jf [5,4,3,2,0] Z (jn (ag (ae (j2 O Z Z (jf [12,4,3,2,0] Z (jn (ab O Z Z (fun hc12 => ?_) (fun hc12 => ?_))))))))))
 exact absurd hc12 (by decide)
 refine ah (ae (j3 O Z Z Z (jf [15,3,2,0] Z (aq O [9000,9010,9011] (bin := [iB (kY a) g 1 2 3, aD g.paths, az g.conds]) Z Z Z Z (rK (c := kY a) (g := g) h1 h2 hl hc) Z Z Z Z Z Z (B0 := 17000) Z Z (ap ?_)))))
 refine j4 O Z Z Z Z (jf [3,2,0] Z (jr ?_))
 refine ⟨.inl Z, _, aj, _, Z, [], by decide, Z, Z, Z⟩
theorem nR (hP : MQ h1 h2 49 [aAn a, eB true, eI 0] [] (Plain (.tup [.c (.d .nilp), eB false]))) : MQ h1 h2 24 [aAn a] [] (Rows (.tup [.c (.d .nils), eB false]) []) := by
 refine bm (jB 19 h1 h2 Tryz.func24 Z Z Z fun O hF => ?_)
 refine ae (jx O Z (ap ?_))
 refine ay (Ent.freeze 1 (e' := [(1, _), (0, _)]) Z (.cons Z (.c (.box (cs := a.data) Z (aC Z))) (fe [0] Z)) (.skip .nil)) ?_
 refine ap ?_
 refine j2 O Z Z (aN (js O Z (jf [7,3,2,0] Z (ax O Z Z Z Z (hP) (aa Z) Z Z Z Z (B0 := 9000) Z Z (j4 O Z Z Z Z (js O Z (jf [5,4,3,2,0] Z (jn (ag (ae (j2 O Z Z (jf [12,4,3,2,0] Z (jn (ab O Z Z (fun hc12 => ?_) (fun hc12 => ?_)))))))))))))))
 refine ae (j2 O Z Z (jr ?_))
 refine ⟨.inl Z, _, aj, _, Z, [], by decide, Z, Z, Z⟩
 exact absurd hc12 (by decide)
theorem iG {a : An} (h : cL a = true) : ∃ x, fP a.code (qP a.pts) = some x ∧ (bP a).any (fun b => b) = false := by
 unfold cL at h
 rw [bA, pH] at h
 obtain ⟨x, hx⟩ := Option.isSome_iff_exists.1 h.1
 exact ⟨x, hx, by simpa using h.2⟩
theorem uN {a : An} (h : cL a = false) : fP a.code (qP a.pts) = none ∨ ∃ x, fP a.code (qP a.pts) = some x ∧ (bP a).any (fun b => b) = true := by
 cases hq : fP a.code (qP a.pts) with
 | none => exact .inl Z
 | some x =>
  refine .inr ⟨x, Z, ?_⟩
  unfold cL at h
  rw [hq, pH] at h
  simpa using h
theorem lW {L : Nat} (h1 : 4096 ≤ L) (h2 : L ≤ 1073741824) {a : An} {all : Bool} {z : Int} (h : cy a = true → cL a = false) : MC Tryz.prog L 49 [aAn a, eB all, eI z] [] (Plain (.tup [.c (.d .nilp), eB false])) := by
 cases hv : cy a with
 | false => exact u3 h1 h2 hv
 | true =>
  rcases uN (h hv) with hq | ⟨x, hq, ho⟩
  exact uZ h1 h2 hv hq
  exact uY h1 h2 hv hq ho
theorem gj {a : An} : (jq a).length = a.pts.length + 1 := by simp
theorem rz {a : An} {k : Int} : dp (-1) (((jq a).length : Int) - 2) k = qw a k := by
 rw [gj]
 unfold dp qw
 rw [show ((a.pts.length + 1 : Nat) : Int) - 2 = (a.pts.length : Int) - 1 by omega]
theorem tQ {L : Nat} (h1 : 4096 ≤ L) (h2 : L ≤ 1073741824) (hL : 100000 ≤ L) {a : An} (hv : cy a = true) (hcl : cL a = true) {n : Nat} (hn : n ≤ a.pts.length) : MC Tryz.prog L 90 [.c (.pt 0 0 0), eB false, eI ((n : Int) - 1), .c (.fb 91 [.pt 0 0 0])] (su a g0) (aY (eB (!(eg iq a n g0).bad)) (mA a (eg iq a n g0))) := by
 have hva := cv hv
 have h8 := hva.ok.np
 refine vw h1 h2 (by rw [gj]; omega) ?_ (t4 h1 h2 hva hcl hL hn oP)
 rw [rz]
 unfold qw
 rw [decide_eq_true (by omega), decide_eq_true (by omega)]; rfl
theorem uH {L : Nat} (h1 : 4096 ≤ L) (h2 : L ≤ 1073741824) {a : An} (hv : cy a = true) {k : Int} (hs : qw a k = false) : MC Tryz.prog L 90 [.c (.pt 0 0 0), eB false, eI k, .c (.fb 91 [.pt 0 0 0])] (su a g0) (aY (eB false) (mA a g0)) := by
 have h8 := (cv hv).ok.np
 exact vx h1 h2 (by rw [gj]; omega) (by rw [rz]; exact hs)
theorem ui {L : Nat} (h1 : 4096 ≤ L) (h2 : L ≤ 1073741824) (hL : 100000 ≤ L) {a : An} (hv : cy a = true) (hcl : cL a = true) : MC Tryz.prog L 90 [.c (.pt 0 0 0), eB true, eI 0, .c (.fb 91 [.pt 0 0 0])] (su a g0) (aY (eB (!(kZ a (a.pts.length + 1)).bad)) (mA a (kZ a (a.pts.length + 1)))) := by
 have hva := cv hv
 have h8 := hva.ok.np
 have h := vy (L := L) h1 h2 (a := a) (k := 0) (al := kZ a) (by rw [gj]; omega) (fun i hb => by rw [kZ]; exact mh hb) Z
  (fun i hi hb => by rw [gj] at hi; rw [kZ]; exact t4 h1 h2 hva hcl hL (by omega) (nN hva i))
 rw [gj] at h
 exact h
theorem tu {L : Nat} (h1 : 4096 ≤ L) (h2 : L ≤ 1073741824) (hL : 100000 ≤ L) {a : An} (hv : cy a = true) (hcl : cL a = true) (hb : (kZ a (a.pts.length + 1)).bad = false) : MC Tryz.prog L 49 [aAn a, eB true, eI 0] [] (aY (.tup [.c (.pt 0 0 0), eB true]) (mA a (kZ a (a.pts.length + 1)))) := by
 obtain ⟨x, hq, ho⟩ := iG hcl
 have h := ui h1 h2 hL hv hcl
 rw [hb] at h
 exact rF h1 h2 hv hq ho h
theorem sb {L : Nat} (h1 : 4096 ≤ L) (h2 : L ≤ 1073741824) (hL : 100000 ≤ L) {a : An} (hv : cy a = true) (hcl : cL a = true) (hb : (kZ a (a.pts.length + 1)).bad = true) : MC Tryz.prog L 49 [aAn a, eB true, eI 0] [] (Plain (.tup [.c (.d .nilp), eB false])) := by
 obtain ⟨x, hq, ho⟩ := iG hcl
 have h := ui h1 h2 hL hv hcl
 rw [hb] at h
 exact nO h1 h2 hv hq ho h
theorem tq {L : Nat} (h1 : 4096 ≤ L) (h2 : L ≤ 1073741824) (hL : 100000 ≤ L) {a : An} (hv : cy a = true) (hcl : cL a = true) {n : Nat} (hn : n ≤ a.pts.length) (hb : (eg iq a n g0).bad = false) : MC Tryz.prog L 49 [aAn a, eB false, eI ((n : Int) - 1)] [] (aY (.tup [.c (.pt 0 0 0), eB true]) (mA a (eg iq a n g0))) := by
 obtain ⟨x, hq, ho⟩ := iG hcl
 have h := tQ h1 h2 hL hv hcl hn
 rw [hb] at h
 exact rF h1 h2 hv hq ho h
theorem sa {L : Nat} (h1 : 4096 ≤ L) (h2 : L ≤ 1073741824) (hL : 100000 ≤ L) {a : An} (hv : cy a = true) (hcl : cL a = true) {n : Nat} (hn : n ≤ a.pts.length) (hb : (eg iq a n g0).bad = true) : MC Tryz.prog L 49 [aAn a, eB false, eI ((n : Int) - 1)] [] (Plain (.tup [.c (.d .nilp), eB false])) := by
 obtain ⟨x, hq, ho⟩ := iG hcl
 have h := tQ h1 h2 hL hv hcl hn
 rw [hb] at h
 exact nO h1 h2 hv hq ho h
theorem tp {L : Nat} (h1 : 4096 ≤ L) (h2 : L ≤ 1073741824) {a : An} (hv : cy a = true) (hcl : cL a = true) {k : Int} (hs : qw a k = false) : MC Tryz.prog L 49 [aAn a, eB false, eI k] [] (Plain (.tup [.c (.d .nilp), eB false])) := by
 obtain ⟨x, hq, ho⟩ := iG hcl
 exact nO h1 h2 hv hq ho (uH h1 h2 hv hs)
end Go.Al
