/- The program follows paths of code. -/
import Derived.Test.YtikejfdfkemmmaaGreatI
set_option linter.unusedVariables false
set_option linter.unusedSimpArgs false
set_option maxRecDepth 10000
set_option maxHeartbeats 4000000
open Go.Proofs
namespace Go.Al
variable {L : Nat} (h1 : 4096 ≤ L) (h2 : L ≤ 1073741824)
set_option maxHeartbeats 8000000
theorem vB {st : List Tm} : (cz st).length = st.length - 1 := jd
theorem yk {st : List Tm} : (mo st).length = st.length - 2 := by simp only [mo, List.length_take]; omega
theorem uz {L : Nat} (h1 : 4096 ≤ L) (h2 : L ≤ 1073741824) {SS : List (List Tm)} {a : An} {frm : Int} {z0 : Int} {b0 : Bool} {w0 : Pw} {st0 : List Tm} {g0 G : Gs} {N : Nat} (hv : VA' a) (hcl : dr a = true) (hL : 100000 ≤ L)
  (ih : ∀ n, n < N → ∀ {z : Int} {b : Bool} {w : Pw} {st : List Tm} {g : Gs}, FuOk a n z b → (g.bad = false → CW n w st) → (g.bad = false → GC n g) → nu L (bN SS a) frm w st g z b (dC i1 a frm n z b w st g))
  (hi0 : CI a frm N G ⟨N, z0, b0, w0, st0, g0⟩) : nu L (bN SS a) frm w0 st0 g0 z0 b0 G := by
 refine aH 500 Z (MC.keep [500,510,511] (bs := [iB (bN SS a) G 510 511 503, aE G.paths, aG G.conds]) Z Z (jH 232 [500,501,502,503,504,505,506] h1 h2 Tryz.func127 Z Z Z Z fun O hF => ?_))
 refine cu ?_
 refine ae (jx O Z (ap ?_))
 refine jf [4,1,2,3] Z (jx O Z (ap ?_))
 refine jn (am (ar (X := CX) (fun x => ⟨[(2, eI x.z), (3, eB x.b), (4, .c (.pt 4 0 0)), (5, .c (.pt 5 0 0))], [(4, pB 500), (5, iW x.st.length 903 frm x.w 904 905 906), (500, iB (bN SS a) x.g 901 902 503), (901, aE x.g.paths), (902, aG x.g.conds), (903, ao x.st), (904, ao x.w.vars), (905, ao x.w.facts), (906, aA x.w.ev)]⟩) (fun x => CI a frm N G x) (fun x => x.n) ⟨N, z0, b0, w0, st0, g0⟩ ((((((((au [4,5,500,501,502,503,504,505,506] (e' := [(2, _), (3, _), (4, _), (5, _)]) Z Z ⟨Z, Z, Z, Z, trivial⟩ Z).trans (ac 501 901 Z Z)).trans (ac 502 902 Z Z)).trans (ac 503 903 Z Z)).trans (ac 504 904 Z Z)).trans (ac 505 905 Z Z)).trans (ac 506 906 Z Z)).trans (Ent.to ⟨Z, Z, Z, Z, trivial⟩ Z)) ?_ (fun x hi => ?_)))
 exact hi0
 obtain ⟨n, z, b, w, st, g⟩ := x
 have hci := hi
 obtain ⟨hfu, hle, hN, hw, hg, hG⟩ := hi
 dsimp only at hfu hle hw hg hG
 refine gx (Ent.to (e' := [(2, eI z), (3, eB b), (4, .c (.pt 4 0 0)), (5, .c (.pt 5 0 0))]) (H' := [(4, pB 500), (5, iW st.length 903 frm w 904 905 906), (500, iB (bN SS a) g 901 902 503), (901, aE g.paths), (902, aG g.conds), (903, ao st), (904, ao w.vars), (905, ao w.facts), (906, aA w.ev)]) ⟨Z, Z, Z, Z, trivial⟩ Z) ?_
 obtain ⟨n, rfl⟩ : ∃ m, n = m + 1 := ⟨n - 1, by have := hfu.1; omega⟩
 refine ag (ae (j4 O Z Z Z Z (j2 O Z Z (jf [23,2,3,4,5] Z (jn (ab O Z Z (fun hc23 => ?_) (fun hc23 => ?_)))))))
 refine ah (ag ?_)
 have hb : g.bad = false := by simpa using hc23
 have hw := hw hb
 have hg := hg hb
 have hgl := hg.lt
 have hgp := hg.paths
 have hst := hw.len
 have hvl := hw.vars
 have hfa := hw.facts
 have hev := hw.ev
 have hsy := hw.sym
 have h80 := hv.ok.len
 have hnp := hv.ok.npost
 cases sI hv.ok.code (z := z) (b := b) (st := st) with
 | out hi =>
  rw [iD hb hi] at hG
  refine am (ag (ae (j4 O Z Z Z Z (j2 O Z Z ?_))))
  first | refine bA O Z ?_ | refine js O Z ?_ | refine bb O Z Z ?_
  refine jf [30,24,23,2,3,4,5] Z (af O Z Z Z Z ((ql (k := z) (n := a.code.length) h1 h2 (by omega)).plain (u := eB (c9 a.code.length z)) Z) (aa Z) Z Z Z Z Z (B0 := 32000) Z (js O Z (jf [32,23,2,3,4,5] Z (jn (ab O Z Z (fun hc32 => ?_) (fun hc32 => ?_))))))
  refine ae (j4 O Z Z Z Z (jf [36,32,23,2,3,4,5] Z (jo O Z (ap ?_))))
  refine jr ?_
  rw [← hG, Go.Al.flag_true]
  refine ⟨.inl Z, _, (ac 901 510 Z Z).trans (ac 902 511 Z Z), _, Z, Z, Z⟩
  exact absurd hc32 (by rw [hi]; decide)
 | pt0 hi hp s0 =>
  rw [jg hb hi hp, show i1.pend frm w st (dm a.pts z) (ni a z) g = bZ frm w (dm a.pts z) (ni a z) g from if_pos s0] at hG
  have hin := sU.1 hi
  obtain ⟨k, rfl⟩ : ∃ k : Nat, z = (k : Int) := ⟨z.toNat, by omega⟩
  obtain ⟨x, hx⟩ : ∃ x, a.code.getD k default = x := ⟨_, rfl⟩
  have hxi : aR x = true := by rw [← hx, aw (by omega)]; exact hv.ok.code _ (List.getElem_mem (by omega))
  simp only [bv, Bool.not_eq_true', decide_eq_true_eq] at hp
  obtain ⟨hbf, hp⟩ := hp
  subst hbf
  have hml := ny hp
  obtain ⟨m, hm⟩ : ∃ m : Nat, dm a.pts (k : Int) = (m : Int) := ⟨(dm a.pts (k : Int)).toNat, by omega⟩
  rw [hm, Int.toNat_natCast] at hml
  have hfs : ni a (k : Int) = (a.pts.getD m default).fs := by unfold ni; rw [hm, Int.toNat_natCast]
  have hvt := hv.pt hml
  have hl6 := cE (n := 6) hvt.1
  rw [hm, hfs] at hG
  refine am (ag (ae (j4 O Z Z Z Z (j2 O Z Z ?_))))
  first | refine bA O Z ?_ | refine js O Z ?_ | refine bb O Z Z ?_
  refine jf [30,24,23,2,3,4,5] Z (af O Z Z Z Z ((ql (k := (k : Int)) (n := a.code.length) h1 h2 (by omega)).plain (u := eB (c9 a.code.length (k : Int))) Z) (aa Z) Z Z Z Z Z (B0 := 32000) Z (js O Z (jf [32,23,2,3,4,5] Z (jn (ab O Z Z (fun hc32 => ?_) (fun hc32 => ?_))))))
  exact absurd hc32 (by rw [hi]; decide)
  refine ah (ag (ae (j4 O Z Z Z Z (js O Z (jf [41,40,32,23,2,3,4,5] Z (af O Z Z Z Z ((mC (a := a) (k := (k : Int)) h1 h2).plain (u := eI (m : Nat)) (congrArg eI hm)) (aa Z) Z Z Z Z Z (B0 := 43000) Z (js O Z (jf [8,32,23,2,3,4,5] Z (aQ (j3 O Z Z Z (jf [45,8,32,23,2,3,4,5] Z (aT 2 Z Z Z (fun hx => AN.step hx Z Z Z (V O Z) Z Z ( AN.step hx Z Z Z (V O Z) Z Z ( AN.nil))) Z Z ?_))))))))))))
  first | refine AOps.step (aL O Z Z Z Z Z) Z Z Z ?_ | refine AOps.step (aK O Z Z Z Z Z) Z Z Z ?_ | refine AOps.step (Val.pickB O Z Z Z Z Z) Z Z Z ?_
  refine jf [48,8,32,23,2,3,4,5] Z (jn (ab O Z Z (fun hc48 => ?_) (fun hc48 => ?_)))
  refine ag (ae (j2 O Z Z ?_))
  first | refine bA O Z ?_ | refine js O Z ?_ | refine bb O Z Z ?_
  refine js O Z (jf [52,48,8,32,23,2,3,4,5] Z (jn (ab O Z Z (fun hc52 => ?_) (fun hc52 => ?_))))
  exact absurd (aS hc52) (by omega)
  refine ah (ag (kR O [_,_,_,_,_,_,_,_,_,_,_,_,_,_] [pn [] 0 0, pn [0] 0 0, pn [0,1] 0 0, pn [] 0 0, pn [] 0 0, pn [4] 0 0, pn [4,5] 0 0, pn [4,5,6] 0 0, pn (rg 4 4) 0 0, pn [] 0 0, pn (rg 4 6) 0 0, pn (rg 4 7) 0 0, pn (rg 4 8) 0 0, pe (rg 0 13) 0] [13] [_,_] [[901,902]] (ka O Z Z (ka O Z Z (ka O Z Z (ka O Z Z (ka O Z Z (ka O Z Z (ka O Z Z (ka O Z Z (ka O Z Z (ka O Z Z (ai (ai (aP O Z Z Z Z Z Z Z Z (cQ hml)) Z) (ka O Z Z (ka O Z Z (ai (ai (cp O [500,901,902,903,5,904,905,906] [901,902] (bin := [iB (bN SS a) g 1 2 3, aE g.paths, aG g.conds, ao st, iW st.length 3 frm w 5 6 7, ao w.vars, ao w.facts, aA w.ev]) Z Z Z Z (tR (sn := st.length) (st := st) (c := (bN SS a)) (frm := frm) (g := g) (w := w) (to := (m : Nat)) (fs := (a.pts.getD m default).fs) h1 h2 hw.ctx hw.vars (eV hvt.1) (by omega) (by omega)) Z Z Z Z Z (B0 := 71000) Z Z Z Z Z Z Z) Z) trivial)))))))))))))) ?_))
  refine jw [52,48,8,32,23,2,3,4,5] Z (cu ?_)
  refine i3 ?_
  rw [← hG]
  refine ⟨.inl Z, _, (ac 71009 510 Z Z).trans (ac 71008 511 Z Z), _, Z, Z, Z⟩
  exact absurd hc48 (by simp)
 | ptn hi hp s0 =>
  rw [jg hb hi hp, show i1.pend frm w st (dm a.pts z) (ni a z) g = g.flag true from if_neg (by omega)] at hG
  have hin := sU.1 hi
  obtain ⟨k, rfl⟩ : ∃ k : Nat, z = (k : Int) := ⟨z.toNat, by omega⟩
  obtain ⟨x, hx⟩ : ∃ x, a.code.getD k default = x := ⟨_, rfl⟩
  have hxi : aR x = true := by rw [← hx, aw (by omega)]; exact hv.ok.code _ (List.getElem_mem (by omega))
  simp only [bv, Bool.not_eq_true', decide_eq_true_eq] at hp
  obtain ⟨hbf, hp⟩ := hp
  subst hbf
  have hml := ny hp
  obtain ⟨m, hm⟩ : ∃ m : Nat, dm a.pts (k : Int) = (m : Int) := ⟨(dm a.pts (k : Int)).toNat, by omega⟩
  rw [hm, Int.toNat_natCast] at hml
  have hfs : ni a (k : Int) = (a.pts.getD m default).fs := by unfold ni; rw [hm, Int.toNat_natCast]
  have hvt := hv.pt hml
  have hl6 := cE (n := 6) hvt.1
  refine am (ag (ae (j4 O Z Z Z Z (j2 O Z Z ?_))))
  first | refine bA O Z ?_ | refine js O Z ?_ | refine bb O Z Z ?_
  refine jf [30,24,23,2,3,4,5] Z (af O Z Z Z Z ((ql (k := (k : Int)) (n := a.code.length) h1 h2 (by omega)).plain (u := eB (c9 a.code.length (k : Int))) Z) (aa Z) Z Z Z Z Z (B0 := 32000) Z (js O Z (jf [32,23,2,3,4,5] Z (jn (ab O Z Z (fun hc32 => ?_) (fun hc32 => ?_))))))
  exact absurd hc32 (by rw [hi]; decide)
  refine ah (ag (ae (j4 O Z Z Z Z (js O Z (jf [41,40,32,23,2,3,4,5] Z (af O Z Z Z Z ((mC (a := a) (k := (k : Int)) h1 h2).plain (u := eI (m : Nat)) (congrArg eI hm)) (aa Z) Z Z Z Z Z (B0 := 43000) Z (js O Z (jf [8,32,23,2,3,4,5] Z (aQ (j3 O Z Z Z (jf [45,8,32,23,2,3,4,5] Z (aT 2 Z Z Z (fun hx => AN.step hx Z Z Z (V O Z) Z Z ( AN.step hx Z Z Z (V O Z) Z Z ( AN.nil))) Z Z ?_))))))))))))
  first | refine AOps.step (aL O Z Z Z Z Z) Z Z Z ?_ | refine AOps.step (aK O Z Z Z Z Z) Z Z Z ?_ | refine AOps.step (Val.pickB O Z Z Z Z Z) Z Z Z ?_
  refine jf [48,8,32,23,2,3,4,5] Z (jn (ab O Z Z (fun hc48 => ?_) (fun hc48 => ?_)))
  refine ag (ae (j2 O Z Z ?_))
  first | refine bA O Z ?_ | refine js O Z ?_ | refine bb O Z Z ?_
  refine js O Z (jf [52,48,8,32,23,2,3,4,5] Z (jn (ab O Z Z (fun hc52 => ?_) (fun hc52 => ?_))))
  refine ae (j4 O Z Z Z Z (jf [56,52,48,8,32,23,2,3,4,5] Z (jo O Z (ap ?_))))
  refine jr ?_
  rw [← hG, Go.Al.flag_true]
  refine ⟨.inl Z, _, (ac 901 510 Z Z).trans (ac 902 511 Z Z), _, Z, Z, Z⟩
  exact absurd (bB hc52) (by omega)
  exact absurd hc48 (by simp)
 | halt hi hp hop =>
  rw [f5 hb hi hp hop] at hG
  have hin := sU.1 hi
  obtain ⟨k, rfl⟩ : ∃ k : Nat, z = (k : Int) := ⟨z.toNat, by omega⟩
  obtain ⟨x, hx⟩ : ∃ x, a.code.getD k default = x := ⟨_, rfl⟩
  have hxi : aR x = true := by rw [← hx, aw (by omega)]; exact hv.ok.code _ (List.getElem_mem (by omega))
  rw [Int.toNat_natCast, hx] at hop
  refine am (ag (ae (j4 O Z Z Z Z (j2 O Z Z ?_))))
  first | refine bA O Z ?_ | refine js O Z ?_ | refine bb O Z Z ?_
  refine jf [30,24,23,2,3,4,5] Z (af O Z Z Z Z ((ql (k := (k : Int)) (n := a.code.length) h1 h2 (by omega)).plain (u := eB (c9 a.code.length (k : Int))) Z) (aa Z) Z Z Z Z Z (B0 := 32000) Z (js O Z (jf [32,23,2,3,4,5] Z (jn (ab O Z Z (fun hc32 => ?_) (fun hc32 => ?_))))))
  exact absurd hc32 (by rw [hi]; decide)
  refine ah (ag (ae (j4 O Z Z Z Z (js O Z (jf [41,40,32,23,2,3,4,5] Z (af O Z Z Z Z ((mC (a := a) (k := (k : Int)) h1 h2).plain (u := eI (dm a.pts (k : Int))) Z) (aa Z) Z Z Z Z Z (B0 := 43000) Z (js O Z (jf [8,32,23,2,3,4,5] Z (aQ (j3 O Z Z Z (jf [45,8,32,23,2,3,4,5] Z (aT 2 Z Z Z (fun hx => AN.step hx Z Z Z (V O Z) Z Z ( AN.step hx Z Z Z (V O Z) Z Z ( AN.nil))) Z Z ?_))))))))))))
  first | refine AOps.step (aL O Z Z Z Z Z) Z Z Z ?_ | refine AOps.step (aK O Z Z Z Z Z) Z Z Z ?_ | refine AOps.step (Val.pickB O Z Z Z Z Z) Z Z Z ?_
  refine jf [48,8,32,23,2,3,4,5] Z (jn (ab O Z Z (fun hc48 => ?_) (fun hc48 => ?_)))
  exact absurd hc48 (by rw [eM, hp]; decide)
  refine ah (ae (j4 O Z Z Z Z (j2 O Z Z (AOps.step ((aP O Z Z Z Z Z Z Z Z (cQ (by omega))).cast (v' := ptr (In.cells x)) (by rw [hx])) Z Z Z (js O Z (jf [78,48,8,32,23,2,3,4,5] Z (jl O Z (ap ?_))))))))
  refine jo O Z (ap ?_)
  refine aQ (js O Z (AOps.step ((aD O Z Z (by omega) (by omega)).cast (v' := eI ((k : Int) + 1)) Z) Z Z Z (jf [80,9,78,48,8,32,23,2,3,4,5] Z (jl O Z (ap ?_)))))
  refine jo O Z (ap ?_)
  refine jn (ag (ae (j2 O Z Z (jn (am (ae (j2 O Z Z (jn (ab O Z Z (fun hc83 => ?_) (fun hc83 => ?_))))))))))
  exact absurd (aS hc83) (by omega)
  refine ae (j2 O Z Z (jn (ab O Z Z (fun hc90 => ?_) (fun hc90 => ?_))))
  exact absurd (aS hc90) (by omega)
  refine ae (j2 O Z Z (jn (ab O Z Z (fun hc100 => ?_) (fun hc100 => ?_))))
  exact absurd (aS hc100) (by omega)
  refine ae (j2 O Z Z (jn (ab O Z Z (fun hc111 => ?_) (fun hc111 => ?_))))
  exact absurd (aS hc111) (by omega)
  refine ae (j2 O Z Z (jn (ab O Z Z (fun hc129 => ?_) (fun hc129 => ?_))))
  exact absurd (aS hc129) (by omega)
  refine ae (j2 O Z Z (jn (ab O Z Z (fun hc145 => ?_) (fun hc145 => ?_))))
  exact absurd (aS hc145) (by omega)
  refine ae (j2 O Z Z (jn (ab O Z Z (fun hc149 => ?_) (fun hc149 => ?_))))
  exact absurd (aS hc149) (by omega)
  refine ae (j2 O Z Z (jn (ab O Z Z (fun hc169 => ?_) (fun hc169 => ?_))))
  exact absurd (aS hc169) (by omega)
  refine ae (j2 O Z Z (jn (ab O Z Z (fun hc185 => ?_) (fun hc185 => ?_))))
  exact absurd (aS hc185) (by omega)
  refine ae (j2 O Z Z (jn (ab O Z Z (fun hc195 => ?_) (fun hc195 => ?_))))
  exact absurd (aS hc195) (by omega)
  refine ae (j2 O Z Z (jn (ab O Z Z (fun hc204 => ?_) (fun hc204 => ?_))))
  exact absurd (aS hc204) (by omega)
  refine ae (j2 O Z Z (jn (ab O Z Z (fun hc220 => ?_) (fun hc220 => ?_))))
  refine ag (kR O [_,_,_,_,_,_,_,_,_] [pn [] 0 0, pn [0] 0 0, pn [0,1] 0 0, pn [] 0 0, pn [3] 0 0, pn [3,4] 0 0, pn [3,4,5] 0 0, pn (rg 3 4) 0 0, pe (rg 0 8) 0] [8] [_,_] [[901,902]] (ka O Z Z (ka O Z Z (ka O Z Z (ka O Z Z (ka O Z Z (ka O Z Z (ka O Z Z (ka O Z Z (ai (ai (cp O [500,901,902,903,5,904,905,906] [901,902] (bin := [iB (bN SS a) g 1 2 3, aE g.paths, aG g.conds, ao st, iW st.length 3 frm w 5 6 7, ao w.vars, ao w.facts, aA w.ev]) Z Z Z Z (tR (sn := st.length) (st := st) (c := (bN SS a)) (frm := frm) (g := g) (w := w) (to := -1) (fs := a.post) h1 h2 hw.ctx hw.vars (eV hv.post) (by omega) (by omega)) Z Z Z Z Z (B0 := 231000) Z Z Z Z Z Z Z) Z) trivial))))))))) ?_)
  refine jw [220,221,204,205,195,196,185,186,169,170,149,150,145,146,129,130,111,112,100,101,90,91,83,84,82,81,10,80,9,78,48,8,32,23,2,3,4,5] Z (cu ?_)
  refine i3 ?_
  rw [← hG]
  refine ⟨.inl Z, _, (ac 231009 510 Z Z).trans (ac 231008 511 Z Z), _, Z, Z, Z⟩
  exact absurd (bB hc220) (by omega)
 | l6 hi hp hop hs =>
  rw [iE hb hi hp hop hs] at hG
  have hin := sU.1 hi
  obtain ⟨k, rfl⟩ : ∃ k : Nat, z = (k : Int) := ⟨z.toNat, by omega⟩
  obtain ⟨x, hx⟩ : ∃ x, a.code.getD k default = x := ⟨_, rfl⟩
  have hxi : aR x = true := by rw [← hx, aw (by omega)]; exact hv.ok.code _ (List.getElem_mem (by omega))
  rw [Int.toNat_natCast, hx] at hop
  refine am (ag (ae (j4 O Z Z Z Z (j2 O Z Z ?_))))
  first | refine bA O Z ?_ | refine js O Z ?_ | refine bb O Z Z ?_
  refine jf [30,24,23,2,3,4,5] Z (af O Z Z Z Z ((ql (k := (k : Int)) (n := a.code.length) h1 h2 (by omega)).plain (u := eB (c9 a.code.length (k : Int))) Z) (aa Z) Z Z Z Z Z (B0 := 32000) Z (js O Z (jf [32,23,2,3,4,5] Z (jn (ab O Z Z (fun hc32 => ?_) (fun hc32 => ?_))))))
  exact absurd hc32 (by rw [hi]; decide)
  refine ah (ag (ae (j4 O Z Z Z Z (js O Z (jf [41,40,32,23,2,3,4,5] Z (af O Z Z Z Z ((mC (a := a) (k := (k : Int)) h1 h2).plain (u := eI (dm a.pts (k : Int))) Z) (aa Z) Z Z Z Z Z (B0 := 43000) Z (js O Z (jf [8,32,23,2,3,4,5] Z (aQ (j3 O Z Z Z (jf [45,8,32,23,2,3,4,5] Z (aT 2 Z Z Z (fun hx => AN.step hx Z Z Z (V O Z) Z Z ( AN.step hx Z Z Z (V O Z) Z Z ( AN.nil))) Z Z ?_))))))))))))
  first | refine AOps.step (aL O Z Z Z Z Z) Z Z Z ?_ | refine AOps.step (aK O Z Z Z Z Z) Z Z Z ?_ | refine AOps.step (Val.pickB O Z Z Z Z Z) Z Z Z ?_
  refine jf [48,8,32,23,2,3,4,5] Z (jn (ab O Z Z (fun hc48 => ?_) (fun hc48 => ?_)))
  exact absurd hc48 (by rw [eM, hp]; decide)
  refine ah (ae (j4 O Z Z Z Z (j2 O Z Z (AOps.step ((aP O Z Z Z Z Z Z Z Z (cQ (by omega))).cast (v' := ptr (In.cells x)) (by rw [hx])) Z Z Z (js O Z (jf [78,48,8,32,23,2,3,4,5] Z (jl O Z (ap ?_))))))))
  refine jo O Z (ap ?_)
  refine aQ (js O Z (AOps.step ((aD O Z Z (by omega) (by omega)).cast (v' := eI ((k : Int) + 1)) Z) Z Z Z (jf [80,9,78,48,8,32,23,2,3,4,5] Z (jl O Z (ap ?_)))))
  refine jo O Z (ap ?_)
  refine jn (ag (ae (j2 O Z Z (jn (am (ae (j2 O Z Z (jn (ab O Z Z (fun hc83 => ?_) (fun hc83 => ?_))))))))))
  exact absurd (aS hc83) (by omega)
  refine ae (j2 O Z Z (jn (ab O Z Z (fun hc90 => ?_) (fun hc90 => ?_))))
  exact absurd (aS hc90) (by omega)
  refine ae (j2 O Z Z (jn (ab O Z Z (fun hc100 => ?_) (fun hc100 => ?_))))
  exact absurd (aS hc100) (by omega)
  refine ae (j2 O Z Z (jn (ab O Z Z (fun hc111 => ?_) (fun hc111 => ?_))))
  exact absurd (aS hc111) (by omega)
  refine ae (j2 O Z Z (jn (ab O Z Z (fun hc129 => ?_) (fun hc129 => ?_))))
  exact absurd (aS hc129) (by omega)
  refine ae (j2 O Z Z (jn (ab O Z Z (fun hc145 => ?_) (fun hc145 => ?_))))
  exact absurd (aS hc145) (by omega)
  refine ae (j2 O Z Z (jn (ab O Z Z (fun hc149 => ?_) (fun hc149 => ?_))))
  refine ae (js O Z (av O [500,901,902,903,5,904,905,906] (bin := [iB (bN SS a) g 1 2 3, aE g.paths, aG g.conds, ao st, iW st.length 3 frm w 5 6 7, ao w.vars, ao w.facts, aA w.ev]) Z Z Z Z (jh (c := (bN SS a)) (frm := frm) (g := g) (w := w) (st := st) h1 h2 (by omega)) Z Z Z Z Z Z (B0 := 153000) Z Z (ap ?_)))
  refine AOps.step (bD O Z Z Z Z Z Z Z Z (by simp) Z) Z Z Z (js O Z (jf [154,149,150,145,146,129,130,111,112,100,101,90,91,83,84,82,81,10,80,9,78,48,8,32,23,2,3,4,5] Z (jl O Z (ap ?_))))
  refine jo O Z (ap ?_)
  refine jn (ag (ae (j4 O Z Z Z Z (j2 O Z Z (jf [160,16,154,149,150,145,146,129,130,111,112,100,101,90,91,83,84,82,81,10,80,9,78,48,8,32,23,2,3,4,5] Z (jn (ab O Z Z (fun hc160 => ?_) (fun hc160 => ?_))))))))
  exact absurd hc160 (by rw [show (g.flag true).bad = true from cd]; decide)
  refine ah (i3 ?_)
  rw [← hG]
  refine ⟨.inl Z, _, (ac 901 510 Z Z).trans (ac 902 511 Z Z), _, Z, Z, Z⟩
  exact absurd (bB hc149) (by omega)
 | h6 hi hp hop hs =>
  rw [f3 hb hi hp hop (by omega)] at hG
  have hin := sU.1 hi
  obtain ⟨k, rfl⟩ : ∃ k : Nat, z = (k : Int) := ⟨z.toNat, by omega⟩
  obtain ⟨x, hx⟩ : ∃ x, a.code.getD k default = x := ⟨_, rfl⟩
  have hxi : aR x = true := by rw [← hx, aw (by omega)]; exact hv.ok.code _ (List.getElem_mem (by omega))
  rw [Int.toNat_natCast, hx] at hop
  rw [Int.toNat_natCast, hx] at hG
  have htg := oU hi (by rw [Int.toNat_natCast, hx]; exact hop)
  rw [Int.toNat_natCast, hx] at htg
  have q1 : GC n (cV w (bh st) g) := hg.more (show n + 1 ≤ 100 by omega) Z (fun _ => hb) (Nat.le_add_right _ _)
  have q2 := gY tq hv (frm := frm) (n := n) (at_ := (k : Int) + 1) (b := false) (w := w.fact (bh st)) (st := cz st) (by omega) q1
  have hlong : (dC i1 a frm n ((k : Int) + 1) false (w.fact (bh st)) (cz st) (cV w (bh st) g)).bad = false → (w.fact (bh st)).long = false := fun hq => by
   cases h9 : (cV w (bh st) g).bad with
   | false => exact (ki h9).2
   | true => rw [bU h9, h9] at hq; cases hq
  have htop : (bh st).ok = true := c7 hw.sok
  have hT := fun s2 (es : s2 = cz st) => (uY (c := (bN SS a)) (g := g) (frm := frm) (w := w) (t := bh st) (st := s2) (d8 := .int .i64 ((k : Int) + 1)) (x := x) (Y := fun u h => dC i1 a frm n ((k : Int) + 1) false u s2 h) (N := fun u h => dC i1 a frm n x.a false u s2 h) h1 h2 (fun u g h => bU h) (fun u g h => bU h) htop (by omega) (by omega) (by omega) (by rw [es, vB]; omega) (fun hq => wP h1 h2 (by subst es; exact ih n (by omega) (hfu.step hcl hi hp htg.1) (fun _ => hw.test (ki hq).2) (fun _ => q1))) (fun hq => wO h1 h2 (by subst es; exact ih n (by omega) (hfu.step hcl hi hp htg.2) (fun _ => hw.test (by rw [iw (u := bh st)]; exact hlong hq)) (fun _ => q2.any hq))))
  refine am (ag (ae (j4 O Z Z Z Z (j2 O Z Z ?_))))
  first | refine bA O Z ?_ | refine js O Z ?_ | refine bb O Z Z ?_
  refine jf [30,24,23,2,3,4,5] Z (af O Z Z Z Z ((ql (k := (k : Int)) (n := a.code.length) h1 h2 (by omega)).plain (u := eB (c9 a.code.length (k : Int))) Z) (aa Z) Z Z Z Z Z (B0 := 32000) Z (js O Z (jf [32,23,2,3,4,5] Z (jn (ab O Z Z (fun hc32 => ?_) (fun hc32 => ?_))))))
  exact absurd hc32 (by rw [hi]; decide)
  refine ah (ag (ae (j4 O Z Z Z Z (js O Z (jf [41,40,32,23,2,3,4,5] Z (af O Z Z Z Z ((mC (a := a) (k := (k : Int)) h1 h2).plain (u := eI (dm a.pts (k : Int))) Z) (aa Z) Z Z Z Z Z (B0 := 43000) Z (js O Z (jf [8,32,23,2,3,4,5] Z (aQ (j3 O Z Z Z (jf [45,8,32,23,2,3,4,5] Z (aT 2 Z Z Z (fun hx => AN.step hx Z Z Z (V O Z) Z Z ( AN.step hx Z Z Z (V O Z) Z Z ( AN.nil))) Z Z ?_))))))))))))
  first | refine AOps.step (aL O Z Z Z Z Z) Z Z Z ?_ | refine AOps.step (aK O Z Z Z Z Z) Z Z Z ?_ | refine AOps.step (Val.pickB O Z Z Z Z Z) Z Z Z ?_
  refine jf [48,8,32,23,2,3,4,5] Z (jn (ab O Z Z (fun hc48 => ?_) (fun hc48 => ?_)))
  exact absurd hc48 (by rw [eM, hp]; decide)
  refine ah (ae (j4 O Z Z Z Z (j2 O Z Z (AOps.step ((aP O Z Z Z Z Z Z Z Z (cQ (by omega))).cast (v' := ptr (In.cells x)) (by rw [hx])) Z Z Z (js O Z (jf [78,48,8,32,23,2,3,4,5] Z (jl O Z (ap ?_))))))))
  refine jo O Z (ap ?_)
  refine aQ (js O Z (AOps.step ((aD O Z Z (by omega) (by omega)).cast (v' := eI ((k : Int) + 1)) Z) Z Z Z (jf [80,9,78,48,8,32,23,2,3,4,5] Z (jl O Z (ap ?_)))))
  refine jo O Z (ap ?_)
  refine jn (ag (ae (j2 O Z Z (jn (am (ae (j2 O Z Z (jn (ab O Z Z (fun hc83 => ?_) (fun hc83 => ?_))))))))))
  exact absurd (aS hc83) (by omega)
  refine ae (j2 O Z Z (jn (ab O Z Z (fun hc90 => ?_) (fun hc90 => ?_))))
  exact absurd (aS hc90) (by omega)
  refine ae (j2 O Z Z (jn (ab O Z Z (fun hc100 => ?_) (fun hc100 => ?_))))
  exact absurd (aS hc100) (by omega)
  refine ae (j2 O Z Z (jn (ab O Z Z (fun hc111 => ?_) (fun hc111 => ?_))))
  exact absurd (aS hc111) (by omega)
  refine ae (j2 O Z Z (jn (ab O Z Z (fun hc129 => ?_) (fun hc129 => ?_))))
  exact absurd (aS hc129) (by omega)
  refine ae (j2 O Z Z (jn (ab O Z Z (fun hc145 => ?_) (fun hc145 => ?_))))
  exact absurd (aS hc145) (by omega)
  refine ae (j2 O Z Z (jn (ab O Z Z (fun hc149 => ?_) (fun hc149 => ?_))))
  refine ae (js O Z (av O [500,901,902,903,5,904,905,906] (bin := [iB (bN SS a) g 1 2 3, aE g.paths, aG g.conds, ao st, iW st.length 3 frm w 5 6 7, ao w.vars, ao w.facts, aA w.ev]) Z Z Z Z (fV (c := (bN SS a)) (frm := frm) (g := g) (w := w) (st := st) (k := 1) h1 h2 hs (by omega)) Z Z Z Z Z Z (B0 := 153000) Z Z (ap ?_)))
  refine js O Z (AOps.step (aq O (ex := Tm.cells (bh st)) Z Z Z Z (nk (n := (st.length - 1)) (by omega) (by omega)) Z) Z Z Z (jf [154,149,150,145,146,129,130,111,112,100,101,90,91,83,84,82,81,10,80,9,78,48,8,32,23,2,3,4,5] Z (jl O Z (ap ?_))))
  refine jo O Z (ap ?_)
  refine jn (ag (ae (j4 O Z Z Z Z (j2 O Z Z (jf [160,16,154,149,150,145,146,129,130,111,112,100,101,90,91,83,84,82,81,10,80,9,78,48,8,32,23,2,3,4,5] Z (jn (ab O Z Z (fun hc160 => ?_) (fun hc160 => ?_))))))))
  obtain ⟨s2, es⟩ : ∃ s2, s2 = cz st := ⟨_, rfl⟩
  have hs2 : st.length - 1 = s2.length := by rw [es]; exact vB.symm
  refine gx (Ent.cut 903 (st.length - 1) Z) (cu ?_)
  rw [← List.map_take, show List.take (st.length - 1) st = s2 from es.symm, hs2]
  have hT := hT s2 es
  refine kR O [_,_,_,_,_,_,_,_] [pn [] 0 0, pn [0] 0 0, pn [0,1] 0 0, pn [] 0 0, pn [] 0 0, pn [] 0 0, pn [] 0 0, pe (rg 0 7) 0] [7] [_,_] [[901,902,903,904,905,906]] (ka O Z Z (ka O Z Z (ka O Z Z (ka O Z Z (ka O Z Z (ka O Z Z (ka O Z Z (ai (ai (cp O [500,901,902,903,904,905,906,4,10,9] [901,902,903,904,905,906] (bin := [iB (bN SS a) g 1 2 3, aE g.paths, aG g.conds, ao s2, ao w.vars, ao w.facts, aA w.ev, pB 0, xB (.int .i64 ((k : Int) + 1)), bX x]) Z Z Z Z (hT) Z Z Z Z Z (B0 := 169000) Z Z Z Z Z Z Z) Z) trivial)))))))) ?_
  refine jw [160,16,154,149,150,145,146,129,130,111,112,100,101,90,91,83,84,82,81,10,80,9,78,48,8,32,23,2,3,4,5] Z (cu ?_)
  refine i3 ?_
  subst es
  rw [← hG]
  refine ⟨.inl Z, _, (ac 169010 510 Z Z).trans (ac 169011 511 Z Z), _, Z, Z, Z⟩
  exact absurd hc160 (by rw [hb]; decide)
  exact absurd (bB hc149) (by omega)
 | leaf hi hp h11 h6 hway =>
  have hin := sU.1 hi
  obtain ⟨k, rfl⟩ : ∃ k : Nat, z = (k : Int) := ⟨z.toNat, by omega⟩
  obtain ⟨x, hx⟩ : ∃ x, a.code.getD k default = x := ⟨_, rfl⟩
  have hxi : aR x = true := by rw [← hx, aw (by omega)]; exact hv.ok.code _ (List.getElem_mem (by omega))
  rw [Int.toNat_natCast, hx] at h11 h6 hway
  have hci2 := CI.leaf hcl hxi hci hb hi hp (by rw [Int.toNat_natCast]; exact hx) h11 h6
  have hin1 : x.op = 1 ∨ x.op = 2 → 0 ≤ x.a ∧ x.a ≤ 3 := fun e => by unfold aR at hxi; rw [if_neg (by omega), if_pos e] at hxi; simpa [dE] using hxi
  have hin4 : x.op = 4 → num x.a = true := fun e => by unfold aR at hxi; rw [if_pos (.inr e)] at hxi; exact hxi
  refine am (ag (ae (j4 O Z Z Z Z (j2 O Z Z ?_))))
  first | refine bA O Z ?_ | refine js O Z ?_ | refine bb O Z Z ?_
  refine jf [30,24,23,2,3,4,5] Z (af O Z Z Z Z ((ql (k := (k : Int)) (n := a.code.length) h1 h2 (by omega)).plain (u := eB (c9 a.code.length (k : Int))) Z) (aa Z) Z Z Z Z Z (B0 := 32000) Z (js O Z (jf [32,23,2,3,4,5] Z (jn (ab O Z Z (fun hc32 => ?_) (fun hc32 => ?_))))))
  exact absurd hc32 (by rw [hi]; decide)
  refine ah (ag (ae (j4 O Z Z Z Z (js O Z (jf [41,40,32,23,2,3,4,5] Z (af O Z Z Z Z ((mC (a := a) (k := (k : Int)) h1 h2).plain (u := eI (dm a.pts (k : Int))) Z) (aa Z) Z Z Z Z Z (B0 := 43000) Z (js O Z (jf [8,32,23,2,3,4,5] Z (aQ (j3 O Z Z Z (jf [45,8,32,23,2,3,4,5] Z (aT 2 Z Z Z (fun hx => AN.step hx Z Z Z (V O Z) Z Z ( AN.step hx Z Z Z (V O Z) Z Z ( AN.nil))) Z Z ?_))))))))))))
  first | refine AOps.step (aL O Z Z Z Z Z) Z Z Z ?_ | refine AOps.step (aK O Z Z Z Z Z) Z Z Z ?_ | refine AOps.step (Val.pickB O Z Z Z Z Z) Z Z Z ?_
  refine jf [48,8,32,23,2,3,4,5] Z (jn (ab O Z Z (fun hc48 => ?_) (fun hc48 => ?_)))
  exact absurd hc48 (by rw [eM, hp]; decide)
  refine ah (ae (j4 O Z Z Z Z (j2 O Z Z (AOps.step ((aP O Z Z Z Z Z Z Z Z (cQ (by omega))).cast (v' := ptr (In.cells x)) (by rw [hx])) Z Z Z (js O Z (jf [78,48,8,32,23,2,3,4,5] Z (jl O Z (ap ?_))))))))
  refine jo O Z (ap ?_)
  refine aQ (js O Z (AOps.step ((aD O Z Z (by omega) (by omega)).cast (v' := eI ((k : Int) + 1)) Z) Z Z Z (jf [80,9,78,48,8,32,23,2,3,4,5] Z (jl O Z (ap ?_)))))
  refine jo O Z (ap ?_)
  refine jn (ag (ae (j2 O Z Z (jn ?_))))
  obtain ⟨d, ed⟩ : ∃ d, d = bW x w st g := ⟨_, rfl⟩
  refine cS ⟨[(4, .c (.pt 4 0 0)), (5, .c (.pt 5 0 0)), (10, .c (.pt 10 0 0))], [(4, pB 500), (10, xB (.int .i64 (iX x (k : Int)))), (5, iW d.st.length 903 frm d.w 904 905 906), (500, iB (bN SS a) d.g 901 902 503), (901, aE d.g.paths), (902, aG d.g.conds), (903, ao d.st), (904, ao d.w.vars), (905, ao d.w.facts), (906, aA d.w.ev)]⟩ ?_ ?_
  cases hway with
  | o0 he =>
   refine am (ae (j2 O Z Z (jn (ab O Z Z (fun hc83 => ?_) (fun hc83 => ?_)))))
   refine aj (j4 O Z Z Z Z (jf [88,85,83,84,82,81,10,80,9,78,48,8,32,23,2,3,4,5] Z (av O [500,901,902,903,5,904,905,906] (bin := [iB (bN SS a) g 1 2 3, aE g.paths, aG g.conds, ao st, iW st.length 3 frm w 5 6 7, ao w.vars, ao w.facts, aA w.ev]) Z Z Z Z (uy (c := (bN SS a)) (frm := frm) (g := g) (w := w) (st := st) (n := x.a) (ok := true) h1 h2 (by omega)) Z Z Z Z Z Z (B0 := 90000) Z Z (ap ?_))))
   refine jf [83,84,82,81,10,80,9,78,48,8,32,23,2,3,4,5] Z (jn ?_)
   rw [ed, yg he, show iX x (k : Int) = (k : Int) + 1 from if_neg (by omega)]
   refine ng ?_
   exact ⟨Z, ((au [4,10,5,500,901,902,90008,904,905,906] (e' := [(4, _), (5, _), (10, _)]) Z Z ⟨Z, Z, Z, trivial⟩ Z).trans (ac 90008 903 Z Z)).trans (Ent.to ⟨Z, Z, Z, trivial⟩ Z)⟩
   exact absurd (bB hc83) (by omega)
  | o1 he =>
   have hxv := hin1 (.inl he)
   refine am (ae (j2 O Z Z (jn (ab O Z Z (fun hc83 => ?_) (fun hc83 => ?_)))))
   exact absurd (aS hc83) (by omega)
   refine ae (j2 O Z Z (jn (ab O Z Z (fun hc90 => ?_) (fun hc90 => ?_))))
   refine jZ O [_,_,_,_,_,_,_,_] [pn [] 0 0, pn [] 0 0, pn [1] 0 0, pn [] 0 0, pn [3] 0 0, pn (rg 1 4) 0 0, pn (rg 1 5) 0 0, pe (rg 0 7) 0] [7] [_,_] (kc O Z (kc O Z (kc O Z (kc O Z (kc O Z (ai (vI O Z Z) (ai (aq O (ex := Tm.cells (w.vars.getD x.a.toNat default)) Z Z Z Z (nk (by omega) (by omega)) Z) (ai (bM O [500,901,902,903,5,904,905,906] (bin := [iB (bN SS a) g 1 2 3, aE g.paths, aG g.conds, ao st, iW st.length 3 frm w 5 6 7, ao w.vars, ao w.facts, aA w.ev]) Z Z Z Z (j5 (c := (bN SS a)) (frm := frm) (g := g) (w := w) (st := st) (t := w.vars.getD x.a.toNat tz) (ok := true) h1 h2 (by omega)) Z Z Z Z Z (B0 := 100000) Z Z Z Z Z Z) trivial)))))))) ?_
   rw [ed, yf he, show iX x (k : Int) = (k : Int) + 1 from if_neg (by omega)]
   refine ng ?_
   exact ⟨Z, ((au [4,10,5,500,901,902,100008,904,905,906] (e' := [(4, _), (5, _), (10, _)]) Z Z ⟨Z, Z, Z, trivial⟩ Z).trans (ac 100008 903 Z Z)).trans (Ent.to ⟨Z, Z, Z, trivial⟩ Z)⟩
   exact absurd (bB hc90) (by omega)
  | l2 he hs =>
   have hxv := hin1 (.inr he)
   refine am (ae (j2 O Z Z (jn (ab O Z Z (fun hc83 => ?_) (fun hc83 => ?_)))))
   exact absurd (aS hc83) (by omega)
   refine ae (j2 O Z Z (jn (ab O Z Z (fun hc90 => ?_) (fun hc90 => ?_))))
   exact absurd (aS hc90) (by omega)
   refine ae (j2 O Z Z (jn (ab O Z Z (fun hc100 => ?_) (fun hc100 => ?_))))
   refine jZ O [_,_,_,_,_,_,_,_,_,_] [pn [] 0 1, pn [0] 0 1, pn [] 0 1, pn [2] 0 1, pn [] 0 0, pe [4] 0, pn [4,5] 1 1, pn [4,5,6] 1 1, pn (rg 0 8) 1 1, pe (rg 0 9) 1] [5,9] [_,_,_] (ai (kc O Z (V O Z)) (ai (kc O Z (V O Z)) (ai (kc O Z (V O Z)) (ai (kc O Z (V O Z)) (kc O Z (ai (bM O [500,901,902,903,5,904,905,906] (bin := [iB (bN SS a) g 1 2 3, aE g.paths, aG g.conds, ao st, iW st.length 3 frm w 5 6 7, ao w.vars, ao w.facts, aA w.ev]) Z Z Z Z (jh (c := (bN SS a)) (frm := frm) (g := g) (w := w) (st := st) h1 h2 (by omega)) Z Z Z Z Z (B0 := 108000) Z Z Z Z Z Z) (ai (bD O Z Z Z Z Z Z Z Z (by simp) Z) (kc O Z (ai (vI O Z Z) (ai (cU (ex := Tm.cells (w.vars.getD x.a.toNat default)) (xs' := (w.vars.set x.a.toNat tz).map Tm.cells) O Z Z Z Z Z Z Z Z Z Z Z Z Z Z Z (nk (by omega) (by omega)) (xq (v := tz) (by omega) Z) Z) trivial)))))))))) ?_
   rw [ed, vy he, (qk (g := g) hs).1, (qk (g := g) hs).2.1, (qk (g := g) hs).2.2, show iX x (k : Int) = (k : Int) + 1 from if_neg (by omega)]
   refine ng ?_
   exact ⟨Z, (au [4,10,5,500,901,902,903,904,905,906] (e' := [(4, _), (5, _), (10, _)]) Z Z ⟨Z, Z, Z, trivial⟩ Z).trans (Ent.to ⟨Z, Z, Z, trivial⟩ (by simp only [Pw.set, iW, List.length_set]; rfl))⟩
   exact absurd (bB hc100) (by omega)
  | h2 he hs =>
   have hxv := hin1 (.inr he)
   refine am (ae (j2 O Z Z (jn (ab O Z Z (fun hc83 => ?_) (fun hc83 => ?_)))))
   exact absurd (aS hc83) (by omega)
   refine ae (j2 O Z Z (jn (ab O Z Z (fun hc90 => ?_) (fun hc90 => ?_))))
   exact absurd (aS hc90) (by omega)
   refine ae (j2 O Z Z (jn (ab O Z Z (fun hc100 => ?_) (fun hc100 => ?_))))
   refine jZ O [_,_,_,_,_,_,_,_,_,_] [pn [] 0 1, pn [0] 0 1, pn [] 0 1, pn [2] 0 1, pn [] 0 0, pe [4] 0, pn [4,5] 1 1, pn [4,5,6] 1 1, pn (rg 0 8) 1 1, pe (rg 0 9) 1] [5,9] [_,_,_] (ai (kc O Z (V O Z)) (ai (kc O Z (V O Z)) (ai (kc O Z (V O Z)) (ai (kc O Z (V O Z)) (kc O Z (ai (bM O [500,901,902,903,5,904,905,906] (bin := [iB (bN SS a) g 1 2 3, aE g.paths, aG g.conds, ao st, iW st.length 3 frm w 5 6 7, ao w.vars, ao w.facts, aA w.ev]) Z Z Z Z (fV (c := (bN SS a)) (frm := frm) (g := g) (w := w) (st := st) (k := 1) h1 h2 hs (by omega)) Z Z Z Z Z (B0 := 108000) Z Z Z Z Z Z) (kc O Z (ai (aq O (ex := Tm.cells (bh st)) Z Z Z Z (nk (n := (st.length - 1)) (by omega) (by omega)) Z) (ai (vI O Z Z) (ai (cU (ex := Tm.cells (w.vars.getD x.a.toNat default)) (xs' := (w.vars.set x.a.toNat (bh st)).map Tm.cells) O Z Z Z Z Z Z Z Z Z Z Z Z Z Z Z (nk (by omega) (by omega)) (xq (v := (bh st)) (by omega) Z) Z) trivial)))))))))) ?_
   rw [ed, vy he, (jT (g := g) hs).1, (jT (g := g) hs).2.1, (jT (g := g) hs).2.2, show iX x (k : Int) = (k : Int) + 1 from if_neg (by omega)]
   refine ng ?_
   exact ⟨Z, (Ent.cut 903 (st.length - 1) Z).trans ((au [4,10,5,500,901,902,903,904,905,906] (e' := [(4, _), (5, _), (10, _)]) Z Z ⟨Z, Z, Z, trivial⟩ Z).trans (Ent.to ⟨Z, Z, Z, trivial⟩ (by rw [← List.map_take, show (cz st).length = st.length - 1 from vB]; simp only [Pw.set, iW, List.length_set]; rfl)))⟩
   exact absurd (bB hc100) (by omega)
  | l3 he hs =>
   refine am (ae (j2 O Z Z (jn (ab O Z Z (fun hc83 => ?_) (fun hc83 => ?_)))))
   exact absurd (aS hc83) (by omega)
   refine ae (j2 O Z Z (jn (ab O Z Z (fun hc90 => ?_) (fun hc90 => ?_))))
   exact absurd (aS hc90) (by omega)
   refine ae (j2 O Z Z (jn (ab O Z Z (fun hc100 => ?_) (fun hc100 => ?_))))
   exact absurd (aS hc100) (by omega)
   refine ae (j2 O Z Z (jn (ab O Z Z (fun hc111 => ?_) (fun hc111 => ?_))))
   refine ae (js O Z (av O [500,901,902,903,5,904,905,906] (bin := [iB (bN SS a) g 1 2 3, aE g.paths, aG g.conds, ao st, iW st.length 3 frm w 5 6 7, ao w.vars, ao w.facts, aA w.ev]) Z Z Z Z (rj (c := (bN SS a)) (frm := frm) (g := g) (w := w) (st := st) h1 h2 (by omega)) Z Z Z Z Z Z (B0 := 115000) Z Z (ap ?_)))
   refine js O Z (jf [11,111,112,100,101,90,91,83,84,82,81,10,80,9,78,48,8,32,23,2,3,4,5] Z (jn (ag (pz O [_,_,_,_,_,_,_,_,_,_,_,_,_] [pn [] 0 0, pn [0] 0 0, pn [0,1] 0 0, pn [] 0 0, pn [3] 0 0, pn [3,4] 0 0, pe [0,1,2,3,4,5] 0, pn [0,1,2,3,4,5,6] 1 1, pn [0,1,2,3,4,5,6,7] 1 1, pn [0,1,2,3,4,5,6,7] 1 2, pn [] 0 1, pe [0,1,2,3,4,5,6,7,8,10] 1, pn [0,1,2,3,4,5,6,7,8,9,10,11] 2 2] [6,11] 10 12 (.box [.d (.int .i64 0), .d .nils]) [_,_] [_] [[], []] (kf O Z Z Z (ai (ai (aC (bD O Z Z Z Z Z Z Z Z (by simp) Z) (bD O Z Z Z Z Z Z Z Z (by simp) Z)) Z) (kf O Z Z Z (kf O Z Z Z (ai (ai (aC (bD O Z Z Z Z Z Z Z Z (by simp) Z) (bD O Z Z Z Z Z Z Z Z (by simp) Z)) Z) (kf O Z Z Z (ai (ai (aC (aM (aZ O (B0 := 123000) Z Z Z Z (oK (u := tz) (t := tz) h1 h2 fT fT) (aa Z) Z Z Z Z Z)) (aM (aZ O (B0 := 123000) Z Z Z Z (oK (u := tz) (t := tz) h1 h2 fT fT) (aa Z) Z Z Z Z Z))) Z) (kf O Z Z Z (kf O Z Z Z (ai (kf O Z Z Z (kg O Z Z Z)) (ai (ai (ai (aM (Eff.alloc O Z Z Z Z Z Z)) Z) (ai (aM (Eff.alloc O Z Z Z Z Z Z)) Z)) (ai (ai (aC trivial (aM (eS O Z Z Z))) Z) (ai (ai (aC trivial (V O Z)) Z) trivial))))))))))))) ?_))))
   refine jw [13,12,111,112,100,101,90,91,83,84,82,81,10,80,9,78,48,8,32,23,2,3,4,5] Z (cu ?_)
   refine aj (j3 O Z Z Z (jf [127,126,125,12,111,112,100,101,90,91,83,84,82,81,10,80,9,78,48,8,32,23,2,3,4,5] Z (av O [500,901,902,903,5,904,905,906] (bin := [iB (bN SS a) (g.flag true) 1 2 3, aE (g.flag true).paths, aG (g.flag true).conds, ao st, iW st.length 3 frm w 5 6 7, ao w.vars, ao w.facts, aA w.ev]) Z Z Z Z (j5 (c := (bN SS a)) (frm := frm) (g := (g.flag true)) (w := w) (st := st) (t := (dW tz tz).1) (ok := (dW tz tz).2) h1 h2 (by omega)) Z Z Z Z Z Z (B0 := 129000) Z Z (ap ?_))))
   refine jf [12,111,112,100,101,90,91,83,84,82,81,10,80,9,78,48,8,32,23,2,3,4,5] Z (jn ?_)
   rw [ed, vx he, (t0 (g := g) hs).1, (t0 (g := g) hs).2.1, (t0 (g := g) hs).2.2.1, (t0 (g := g) hs).2.2.2, show iX x (k : Int) = (k : Int) + 1 from if_neg (by omega)]
   refine ng ?_
   exact ⟨Z, ((au [4,10,5,500,901,902,129008,904,905,906] (e' := [(4, _), (5, _), (10, _)]) Z Z ⟨Z, Z, Z, trivial⟩ Z).trans (ac 129008 903 Z Z)).trans (Ent.to ⟨Z, Z, Z, trivial⟩ Z)⟩
   exact absurd (bB hc111) (by omega)
  | h3 he hs =>
   have htop : (bh st).ok = true := c7 hw.sok
   have hund : (i0 st).ok = true := c7 hw.sok
   refine am (ae (j2 O Z Z (jn (ab O Z Z (fun hc83 => ?_) (fun hc83 => ?_)))))
   exact absurd (aS hc83) (by omega)
   refine ae (j2 O Z Z (jn (ab O Z Z (fun hc90 => ?_) (fun hc90 => ?_))))
   exact absurd (aS hc90) (by omega)
   refine ae (j2 O Z Z (jn (ab O Z Z (fun hc100 => ?_) (fun hc100 => ?_))))
   exact absurd (aS hc100) (by omega)
   refine ae (j2 O Z Z (jn (ab O Z Z (fun hc111 => ?_) (fun hc111 => ?_))))
   refine ae (js O Z (av O [500,901,902,903,5,904,905,906] (bin := [iB (bN SS a) g 1 2 3, aE g.paths, aG g.conds, ao st, iW st.length 3 frm w 5 6 7, ao w.vars, ao w.facts, aA w.ev]) Z Z Z Z (fV (c := (bN SS a)) (frm := frm) (g := g) (w := w) (st := st) (k := 2) h1 h2 hs (by omega)) Z Z Z Z Z Z (B0 := 115000) Z Z (ap ?_)))
   refine js O Z (jf [11,111,112,100,101,90,91,83,84,82,81,10,80,9,78,48,8,32,23,2,3,4,5] Z (jn (ag (pz O [_,_,_,_,_,_,_,_,_,_,_,_,_] [pn [] 0 0, pn [0] 0 0, pn [0,1] 0 0, pn [] 0 0, pn [3] 0 0, pn [3,4] 0 0, pe [0,1,2,3,4,5] 0, pn [0,1,2,3,4,5,6] 1 1, pn [0,1,2,3,4,5,6,7] 1 1, pn [0,1,2,3,4,5,6,7] 1 2, pn [] 0 1, pe [0,1,2,3,4,5,6,7,8,10] 1, pn [0,1,2,3,4,5,6,7,8,9,10,11] 2 2] [6,11] 10 12 (.box [.d (.int .i64 0), .d .nils]) [_,_] [_] [[], []] (kf O Z Z Z (kf O Z Z Z (ai (ai (aC (aq O (ex := Tm.cells (i0 st)) Z Z Z Z (nk (n := (st.length - 2)) (by omega) (by omega)) Z) (aq O (ex := Tm.cells (i0 st)) Z Z Z Z (nk (n := (st.length - 2)) (by omega) (by omega)) Z)) Z) (kf O Z Z Z (kf O Z Z Z (ai (ai (aC (aq O (ex := Tm.cells (bh st)) Z Z Z Z (nk (n := (st.length - 1)) (by omega) (by omega)) Z) (aq O (ex := Tm.cells (bh st)) Z Z Z Z (nk (n := (st.length - 1)) (by omega) (by omega)) Z)) Z) (ai (ai (aC (aM (aZ O (B0 := 123000) Z Z Z Z (oK (u := (i0 st)) (t := (bh st)) h1 h2 hund htop) (aa Z) Z Z Z Z Z)) (aM (aZ O (B0 := 123000) Z Z Z Z (oK (u := (i0 st)) (t := (bh st)) h1 h2 hund htop) (aa Z) Z Z Z Z Z))) Z) (kf O Z Z Z (kf O Z Z Z (ai (kf O Z Z Z (kg O Z Z Z)) (ai (ai (ai (aM (Eff.alloc O Z Z Z Z Z Z)) Z) (ai (aM (Eff.alloc O Z Z Z Z Z Z)) Z)) (ai (ai (aC trivial (aM (eS O Z Z Z))) Z) (ai (ai (aC trivial (V O Z)) Z) trivial))))))))))))) ?_))))
   refine jw [13,12,111,112,100,101,90,91,83,84,82,81,10,80,9,78,48,8,32,23,2,3,4,5] Z (cu ?_)
   refine aj ?_
   obtain ⟨s2, es⟩ : ∃ s2, s2 = mo st := ⟨_, rfl⟩
   have hs2 : st.length - 2 = s2.length := by rw [es]; exact yk.symm
   refine ay (Ent.cut 903 (st.length - 2) Z) (ap ?_)
   rw [← List.map_take, show List.take (st.length - 2) st = s2 from es.symm, hs2]
   refine j3 O Z Z Z (jf [127,126,125,12,111,112,100,101,90,91,83,84,82,81,10,80,9,78,48,8,32,23,2,3,4,5] Z (av O [500,901,902,903,5,904,905,906] (bin := [iB (bN SS a) g 1 2 3, aE g.paths, aG g.conds, ao s2, iW s2.length 3 frm w 5 6 7, ao w.vars, ao w.facts, aA w.ev]) Z Z Z Z (j5 (c := (bN SS a)) (frm := frm) (g := g) (w := w) (st := s2) (t := (dW (i0 st) (bh st)).1) (ok := (dW (i0 st) (bh st)).2) h1 h2 (by omega)) Z Z Z Z Z Z (B0 := 129000) Z Z (ap ?_)))
   refine jf [12,111,112,100,101,90,91,83,84,82,81,10,80,9,78,48,8,32,23,2,3,4,5] Z (jn ?_)
   subst es
   rw [ed, vx he, (i2 (g := g) hs).1, (i2 (g := g) hs).2.1, (i2 (g := g) hs).2.2.1, (i2 (g := g) hs).2.2.2, show iX x (k : Int) = (k : Int) + 1 from if_neg (by omega)]
   refine ng ?_
   exact ⟨Z, ((au [4,10,5,500,901,902,129008,904,905,906] (e' := [(4, _), (5, _), (10, _)]) Z Z ⟨Z, Z, Z, trivial⟩ Z).trans (ac 129008 903 Z Z)).trans (Ent.to ⟨Z, Z, Z, trivial⟩ Z)⟩
   exact absurd (bB hc111) (by omega)
  | l4 he hs =>
   have hxn := hin4 he
   refine am (ae (j2 O Z Z (jn (ab O Z Z (fun hc83 => ?_) (fun hc83 => ?_)))))
   exact absurd (aS hc83) (by omega)
   refine ae (j2 O Z Z (jn (ab O Z Z (fun hc90 => ?_) (fun hc90 => ?_))))
   exact absurd (aS hc90) (by omega)
   refine ae (j2 O Z Z (jn (ab O Z Z (fun hc100 => ?_) (fun hc100 => ?_))))
   exact absurd (aS hc100) (by omega)
   refine ae (j2 O Z Z (jn (ab O Z Z (fun hc111 => ?_) (fun hc111 => ?_))))
   exact absurd (aS hc111) (by omega)
   refine ae (j2 O Z Z (jn (ab O Z Z (fun hc129 => ?_) (fun hc129 => ?_))))
   refine ag (pz O [_,_,_,_,_,_,_,_,_,_,_,_,_] [pn [] 0 0, pe [0] 0, pn [0,1] 1 1, pn [0,1,2] 1 1, pn [] 0 1, pn [4] 0 1, pe [0,1,2,3,4,5] 1, pn [0,1,2,3,4,5,6] 2 2, pn [0,1,2,3,4,5,6,7] 2 2, pn [0,1,2,3,4,5,6,7] 2 3, pn [] 0 2, pe [0,1,2,3,4,5,6,7,8,10] 2, pn [0,1,2,3,4,5,6,7,8,9,10,11] 3 3] [1,6,11] 10 14 (.box [.d (.int .i64 0), .d .nils]) [_,_,_] [_] [[], [], []] (kf O Z Z Z (ai (ai (aC (aM (bM O [500,901,902,903,5,904,905,906] (bin := [iB (bN SS a) g 1 2 3, aE g.paths, aG g.conds, ao st, iW st.length 3 frm w 5 6 7, ao w.vars, ao w.facts, aA w.ev]) Z Z Z Z (jh (c := (bN SS a)) (frm := frm) (g := g) (w := w) (st := st) h1 h2 (by omega)) Z Z Z Z Z (B0 := 134000) Z Z Z Z Z Z)) (aM (bM O [500,901,902,903,5,904,905,906] (bin := [iB (bN SS a) g 1 2 3, aE g.paths, aG g.conds, ao st, iW st.length 3 frm w 5 6 7, ao w.vars, ao w.facts, aA w.ev]) Z Z Z Z (jh (c := (bN SS a)) (frm := frm) (g := g) (w := w) (st := st) h1 h2 (by omega)) Z Z Z Z Z (B0 := 134000) Z Z Z Z Z Z))) Z) (ai (ai (aC (bD O Z Z Z Z Z Z Z Z (by simp) Z) (bD O Z Z Z Z Z Z Z Z (by simp) Z)) Z) (kf O Z Z Z (ai (kf O Z Z Z (kg O Z Z Z)) (ai (kf O Z Z Z (kg O Z Z Z)) (ai (ai (aC (aM (aZ O (B0 := 139000) Z Z Z Z (oJ (t := tz) (n := x.a) h1 h2 fT hxn) (aa Z) Z Z Z Z Z)) (aM (aZ O (B0 := 139000) Z Z Z Z (oJ (t := tz) (n := x.a) h1 h2 fT hxn) (aa Z) Z Z Z Z Z))) Z) (kf O Z Z Z (kf O Z Z Z (ai (kf O Z Z Z (kg O Z Z Z)) (ai (ai (ai (aM (Eff.alloc O Z Z Z Z Z Z)) Z) (ai (ai (aM (Eff.alloc O Z Z Z Z Z Z)) Z) (ai (aM (Eff.alloc O Z Z Z Z Z Z)) Z))) (ai (ai (aC trivial (aM (eS O Z Z Z))) Z) (ai (ai (aC trivial (V O Z)) Z) trivial))))))))))))) ?_)
   refine jw [15,14,129,130,111,112,100,101,90,91,83,84,82,81,10,80,9,78,48,8,32,23,2,3,4,5] Z (cu ?_)
   refine aj (j3 O Z Z Z (jf [143,142,141,14,129,130,111,112,100,101,90,91,83,84,82,81,10,80,9,78,48,8,32,23,2,3,4,5] Z (av O [500,901,902,903,5,904,905,906] (bin := [iB (bN SS a) (g.flag true) 1 2 3, aE (g.flag true).paths, aG (g.flag true).conds, ao st, iW st.length 3 frm w 5 6 7, ao w.vars, ao w.facts, aA w.ev]) Z Z Z Z (j5 (c := (bN SS a)) (frm := frm) (g := (g.flag true)) (w := w) (st := st) (t := (dU tz x.a).1) (ok := (dU tz x.a).2) h1 h2 (by omega)) Z Z Z Z Z Z (B0 := 145000) Z Z (ap ?_))))
   refine jf [14,129,130,111,112,100,101,90,91,83,84,82,81,10,80,9,78,48,8,32,23,2,3,4,5] Z (jn ?_)
   rw [ed, vw he, (qk (g := g) hs).1, (qk (g := g) hs).2.1, (qk (g := g) hs).2.2, show iX x (k : Int) = (k : Int) + 1 from if_neg (by omega)]
   refine ng ?_
   exact ⟨Z, ((au [4,10,5,500,901,902,145008,904,905,906] (e' := [(4, _), (5, _), (10, _)]) Z Z ⟨Z, Z, Z, trivial⟩ Z).trans (ac 145008 903 Z Z)).trans (Ent.to ⟨Z, Z, Z, trivial⟩ Z)⟩
   exact absurd (bB hc129) (by omega)
  | h4 he hs =>
   have hxn := hin4 he
   have htop : (bh st).ok = true := c7 hw.sok
   refine am (ae (j2 O Z Z (jn (ab O Z Z (fun hc83 => ?_) (fun hc83 => ?_)))))
   exact absurd (aS hc83) (by omega)
   refine ae (j2 O Z Z (jn (ab O Z Z (fun hc90 => ?_) (fun hc90 => ?_))))
   exact absurd (aS hc90) (by omega)
   refine ae (j2 O Z Z (jn (ab O Z Z (fun hc100 => ?_) (fun hc100 => ?_))))
   exact absurd (aS hc100) (by omega)
   refine ae (j2 O Z Z (jn (ab O Z Z (fun hc111 => ?_) (fun hc111 => ?_))))
   exact absurd (aS hc111) (by omega)
   refine ae (j2 O Z Z (jn (ab O Z Z (fun hc129 => ?_) (fun hc129 => ?_))))
   refine ag (pz O [_,_,_,_,_,_,_,_,_,_,_,_,_] [pn [] 0 0, pe [0] 0, pn [0,1] 1 1, pn [0,1,2] 1 1, pn [] 0 1, pn [4] 0 1, pe [0,1,2,3,4,5] 1, pn [0,1,2,3,4,5,6] 2 2, pn [0,1,2,3,4,5,6,7] 2 2, pn [0,1,2,3,4,5,6,7] 2 3, pn [] 0 2, pe [0,1,2,3,4,5,6,7,8,10] 2, pn [0,1,2,3,4,5,6,7,8,9,10,11] 3 3] [1,6,11] 10 14 (.box [.d (.int .i64 0), .d .nils]) [_,_,_] [_] [[], [], []] (kf O Z Z Z (ai (ai (aC (aM (bM O [500,901,902,903,5,904,905,906] (bin := [iB (bN SS a) g 1 2 3, aE g.paths, aG g.conds, ao st, iW st.length 3 frm w 5 6 7, ao w.vars, ao w.facts, aA w.ev]) Z Z Z Z (fV (c := (bN SS a)) (frm := frm) (g := g) (w := w) (st := st) (k := 1) h1 h2 hs (by omega)) Z Z Z Z Z (B0 := 134000) Z Z Z Z Z Z)) (aM (bM O [500,901,902,903,5,904,905,906] (bin := [iB (bN SS a) g 1 2 3, aE g.paths, aG g.conds, ao st, iW st.length 3 frm w 5 6 7, ao w.vars, ao w.facts, aA w.ev]) Z Z Z Z (fV (c := (bN SS a)) (frm := frm) (g := g) (w := w) (st := st) (k := 1) h1 h2 hs (by omega)) Z Z Z Z Z (B0 := 134000) Z Z Z Z Z Z))) Z) (kf O Z Z Z (ai (ai (aC (aq O (ex := Tm.cells (bh st)) Z Z Z Z (nk (n := (st.length - 1)) (by omega) (by omega)) Z) (aq O (ex := Tm.cells (bh st)) Z Z Z Z (nk (n := (st.length - 1)) (by omega) (by omega)) Z)) Z) (ai (kf O Z Z Z (kg O Z Z Z)) (ai (kf O Z Z Z (kg O Z Z Z)) (ai (ai (aC (aM (aZ O (B0 := 139000) Z Z Z Z (oJ (t := (bh st)) (n := x.a) h1 h2 htop hxn) (aa Z) Z Z Z Z Z)) (aM (aZ O (B0 := 139000) Z Z Z Z (oJ (t := (bh st)) (n := x.a) h1 h2 htop hxn) (aa Z) Z Z Z Z Z))) Z) (kf O Z Z Z (kf O Z Z Z (ai (kf O Z Z Z (kg O Z Z Z)) (ai (ai (ai (aM (Eff.alloc O Z Z Z Z Z Z)) Z) (ai (ai (aM (Eff.alloc O Z Z Z Z Z Z)) Z) (ai (aM (Eff.alloc O Z Z Z Z Z Z)) Z))) (ai (ai (aC trivial (aM (eS O Z Z Z))) Z) (ai (ai (aC trivial (V O Z)) Z) trivial))))))))))))) ?_)
   refine jw [15,14,129,130,111,112,100,101,90,91,83,84,82,81,10,80,9,78,48,8,32,23,2,3,4,5] Z (cu ?_)
   refine aj ?_
   obtain ⟨s2, es⟩ : ∃ s2, s2 = cz st := ⟨_, rfl⟩
   have hs2 : st.length - 1 = s2.length := by rw [es]; exact vB.symm
   refine ay (Ent.cut 903 (st.length - 1) Z) (ap ?_)
   rw [← List.map_take, show List.take (st.length - 1) st = s2 from es.symm, hs2]
   refine j3 O Z Z Z (jf [143,142,141,14,129,130,111,112,100,101,90,91,83,84,82,81,10,80,9,78,48,8,32,23,2,3,4,5] Z (av O [500,901,902,903,5,904,905,906] (bin := [iB (bN SS a) g 1 2 3, aE g.paths, aG g.conds, ao s2, iW s2.length 3 frm w 5 6 7, ao w.vars, ao w.facts, aA w.ev]) Z Z Z Z (j5 (c := (bN SS a)) (frm := frm) (g := g) (w := w) (st := s2) (t := (dU (bh st) x.a).1) (ok := (dU (bh st) x.a).2) h1 h2 (by omega)) Z Z Z Z Z Z (B0 := 145000) Z Z (ap ?_)))
   refine jf [14,129,130,111,112,100,101,90,91,83,84,82,81,10,80,9,78,48,8,32,23,2,3,4,5] Z (jn ?_)
   subst es
   rw [ed, vw he, (jT (g := g) hs).1, (jT (g := g) hs).2.1, (jT (g := g) hs).2.2, show iX x (k : Int) = (k : Int) + 1 from if_neg (by omega)]
   refine ng ?_
   exact ⟨Z, ((au [4,10,5,500,901,902,145008,904,905,906] (e' := [(4, _), (5, _), (10, _)]) Z Z ⟨Z, Z, Z, trivial⟩ Z).trans (ac 145008 903 Z Z)).trans (Ent.to ⟨Z, Z, Z, trivial⟩ Z)⟩
   exact absurd (bB hc129) (by omega)
  | o5 he =>
   refine am (ae (j2 O Z Z (jn (ab O Z Z (fun hc83 => ?_) (fun hc83 => ?_)))))
   exact absurd (aS hc83) (by omega)
   refine ae (j2 O Z Z (jn (ab O Z Z (fun hc90 => ?_) (fun hc90 => ?_))))
   exact absurd (aS hc90) (by omega)
   refine ae (j2 O Z Z (jn (ab O Z Z (fun hc100 => ?_) (fun hc100 => ?_))))
   exact absurd (aS hc100) (by omega)
   refine ae (j2 O Z Z (jn (ab O Z Z (fun hc111 => ?_) (fun hc111 => ?_))))
   exact absurd (aS hc111) (by omega)
   refine ae (j2 O Z Z (jn (ab O Z Z (fun hc129 => ?_) (fun hc129 => ?_))))
   exact absurd (aS hc129) (by omega)
   refine ae (j2 O Z Z (jn (ab O Z Z (fun hc145 => ?_) (fun hc145 => ?_))))
   refine aj (j2 O Z Z (jf [148,145,146,129,130,111,112,100,101,90,91,83,84,82,81,10,80,9,78,48,8,32,23,2,3,4,5] Z (jo O Z (ap ?_))))
   refine jn ?_
   rw [ed, ye he, show iX x (k : Int) = x.a from if_pos he]
   refine ng ?_
   exact ⟨Z, (au [4,10,5,500,901,902,903,904,905,906] (e' := [(4, _), (5, _), (10, _)]) Z Z ⟨Z, Z, Z, trivial⟩ Z).trans (Ent.to ⟨Z, Z, Z, trivial⟩ Z)⟩
   exact absurd (bB hc145) (by omega)
  | l7 he hs =>
   refine am (ae (j2 O Z Z (jn (ab O Z Z (fun hc83 => ?_) (fun hc83 => ?_)))))
   exact absurd (aS hc83) (by omega)
   refine ae (j2 O Z Z (jn (ab O Z Z (fun hc90 => ?_) (fun hc90 => ?_))))
   exact absurd (aS hc90) (by omega)
   refine ae (j2 O Z Z (jn (ab O Z Z (fun hc100 => ?_) (fun hc100 => ?_))))
   exact absurd (aS hc100) (by omega)
   refine ae (j2 O Z Z (jn (ab O Z Z (fun hc111 => ?_) (fun hc111 => ?_))))
   exact absurd (aS hc111) (by omega)
   refine ae (j2 O Z Z (jn (ab O Z Z (fun hc129 => ?_) (fun hc129 => ?_))))
   exact absurd (aS hc129) (by omega)
   refine ae (j2 O Z Z (jn (ab O Z Z (fun hc145 => ?_) (fun hc145 => ?_))))
   exact absurd (aS hc145) (by omega)
   refine ae (j2 O Z Z (jn (ab O Z Z (fun hc149 => ?_) (fun hc149 => ?_))))
   exact absurd (aS hc149) (by omega)
   refine ae (j2 O Z Z (jn (ab O Z Z (fun hc169 => ?_) (fun hc169 => ?_))))
   refine ag (kR O [_,_,_,_,_,_,_,_] [pn [] 0 1, pn [0] 0 1, pn [0,1] 0 1, pn [] 0 0, pe [3] 0, pn [3,4] 1 1, pn [3,4,5] 1 1, pe (rg 0 7) 1] [4,7] [_, [(4, pB 500), (9, bX x), (10, xB (.int .i64 ((k : Int) + 1))), (500, iB (bN SS a) (g.flag true) 901 902 503), (901, aE (g.flag true).paths), (902, aG (g.flag true).conds), (903, ao st), (5, iW st.length 903 frm w 904 905 906), (904, ao w.vars), (905, ao w.facts), (906, aA w.ev)], _] [[], [902]] (ai (ka O Z Z (kw O Z Z)) (ai (ka O Z Z (kw O Z Z)) (ai (ka O Z Z (kw O Z Z)) (ka O Z Z (ai (ai (aM (bM O [500,901,902,903,5,904,905,906] (bin := [iB (bN SS a) g 1 2 3, aE g.paths, aG g.conds, ao st, iW st.length 3 frm w 5 6 7, ao w.vars, ao w.facts, aA w.ev]) Z Z Z Z (jh (c := (bN SS a)) (frm := frm) (g := g) (w := w) (st := st) h1 h2 (by omega)) Z Z Z Z Z (B0 := 176000) Z Z Z Z Z Z)) Z) (ai (ai (bD O Z Z Z Z Z Z Z Z (by simp) Z) Z) (ka O Z Z (ai (ai (cp O [500,901,902,903,5,904,905,906] [902] (bin := [iB (bN SS a) (g.flag true) 1 2 3, aE (g.flag true).paths, aG (g.flag true).conds, ao st, iW st.length 3 frm w 5 6 7, ao w.vars, ao w.facts, aA w.ev]) Z Z Z Z (oP (sn := st.length) (st := st) (c := (bN SS a)) (frm := frm) (g := (g.flag true)) (w := w) (t := tz) h1 h2 fT (show g.conds.length + 2 ≤ L by omega)) Z Z Z Z Z (B0 := 179000) Z Z Z Z Z Z Z) Z) trivial)))))))) ?_)
   refine jw [169,170,149,150,145,146,129,130,111,112,100,101,90,91,83,84,82,81,10,80,9,78,48,8,32,23,2,3,4,5] Z (cu ?_)
   refine kR O [_,_,_,_,_,_] [pn [] 0 1, pn [] 0 0, pn [1] 0 0, pn [1,2] 0 0, pe [1,2,3] 0, pe (rg 0 5) 1] [4,5] [_, [(4, pB 500), (9, bX x), (10, xB (.int .i64 ((k : Int) + 1))), (500, iB (bN SS a) (kX w (aX bu w tz (g.flag true))) 901 179008 503), (901, aE (kX w (aX bu w tz (g.flag true))).paths), (179008, aG (kX w (aX bu w tz (g.flag true))).conds), (903, ao st), (5, iW st.length 903 frm (mr w) 904 905 906), (904, ao w.vars), (905, ao w.facts), (906, aA w.ev)], _] [[], [903]] (ai (ka O Z Z (kw O Z Z)) (ka O Z Z (ka O Z Z (ka O Z Z (ai (ai (aM (bM O [500,901,179008,903,5,904,905,906] (bin := [iB (bN SS a) (aX bu w tz (g.flag true)) 1 2 3, aE (aX bu w tz (g.flag true)).paths, aG (aX bu w tz (g.flag true)).conds, ao st, iW st.length 3 frm w 5 6 7, ao w.vars, ao w.facts, aA w.ev]) Z Z Z Z (rn (sn := st.length) (st := st) (c := (bN SS a)) (frm := frm) (g := (aX bu w tz (g.flag true))) (w := w) h1 h2 hsy) Z Z Z Z Z (B0 := 184000) Z Z Z Z Z Z)) Z) (ai (ai (cp O [500,901,179008,903,5,904,905,906] [903] (bin := [iB (bN SS a) (kX w (aX bu w tz (g.flag true))) 1 2 3, aE (kX w (aX bu w tz (g.flag true))).paths, aG (kX w (aX bu w tz (g.flag true))).conds, ao st, iW st.length 3 frm (mr w) 5 6 7, ao (mr w).vars, ao (mr w).facts, aA (mr w).ev]) Z Z Z Z (j5 (c := (bN SS a)) (frm := frm) (g := (kX w (aX bu w tz (g.flag true)))) (w := (mr w)) (st := st) (t := tl w) (ok := true) h1 h2 (by omega)) Z Z Z Z Z (B0 := 185000) Z Z Z Z Z Z Z) Z) trivial)))))) ?_
   rw [ed, vv he hsy, (qk (g := g) hs).1, (qk (g := g) hs).2.1, (qk (g := g) hs).2.2, show iX x (k : Int) = (k : Int) + 1 from if_neg (by omega)]
   refine ng ?_
   exact ⟨Z, (((au [4,10,5,500,901,179008,185008,904,905,906] (e' := [(4, _), (5, _), (10, _)]) Z Z ⟨Z, Z, Z, trivial⟩ Z).trans (ac 179008 902 Z Z)).trans (ac 185008 903 Z Z)).trans (Ent.to ⟨Z, Z, Z, trivial⟩ Z)⟩
   exact absurd (bB hc169) (by omega)
  | h7 he hs =>
   have htop : (bh st).ok = true := c7 hw.sok
   refine am (ae (j2 O Z Z (jn (ab O Z Z (fun hc83 => ?_) (fun hc83 => ?_)))))
   exact absurd (aS hc83) (by omega)
   refine ae (j2 O Z Z (jn (ab O Z Z (fun hc90 => ?_) (fun hc90 => ?_))))
   exact absurd (aS hc90) (by omega)
   refine ae (j2 O Z Z (jn (ab O Z Z (fun hc100 => ?_) (fun hc100 => ?_))))
   exact absurd (aS hc100) (by omega)
   refine ae (j2 O Z Z (jn (ab O Z Z (fun hc111 => ?_) (fun hc111 => ?_))))
   exact absurd (aS hc111) (by omega)
   refine ae (j2 O Z Z (jn (ab O Z Z (fun hc129 => ?_) (fun hc129 => ?_))))
   exact absurd (aS hc129) (by omega)
   refine ae (j2 O Z Z (jn (ab O Z Z (fun hc145 => ?_) (fun hc145 => ?_))))
   exact absurd (aS hc145) (by omega)
   refine ae (j2 O Z Z (jn (ab O Z Z (fun hc149 => ?_) (fun hc149 => ?_))))
   exact absurd (aS hc149) (by omega)
   refine ae (j2 O Z Z (jn (ab O Z Z (fun hc169 => ?_) (fun hc169 => ?_))))
   refine ag (kR O [_,_,_,_,_,_,_,_] [pn [] 0 1, pn [0] 0 1, pn [0,1] 0 1, pn [] 0 0, pe [3] 0, pn [3,4] 1 1, pn [3,4,5] 1 1, pe (rg 0 7) 1] [4,7] [_, [(4, pB 500), (9, bX x), (10, xB (.int .i64 ((k : Int) + 1))), (500, iB (bN SS a) g 901 902 503), (901, aE g.paths), (902, aG g.conds), (903, ao st), (5, iW (st.length - 1) 903 frm w 904 905 906), (904, ao w.vars), (905, ao w.facts), (906, aA w.ev)], _] [[], [902]] (ai (ka O Z Z (kw O Z Z)) (ai (ka O Z Z (kw O Z Z)) (ai (ka O Z Z (kw O Z Z)) (ka O Z Z (ai (ai (aM (bM O [500,901,902,903,5,904,905,906] (bin := [iB (bN SS a) g 1 2 3, aE g.paths, aG g.conds, ao st, iW st.length 3 frm w 5 6 7, ao w.vars, ao w.facts, aA w.ev]) Z Z Z Z (fV (c := (bN SS a)) (frm := frm) (g := g) (w := w) (st := st) (k := 1) h1 h2 hs (by omega)) Z Z Z Z Z (B0 := 176000) Z Z Z Z Z Z)) Z) (ka O Z Z (ai (ai (aq O (ex := Tm.cells (bh st)) Z Z Z Z (nk (n := (st.length - 1)) (by omega) (by omega)) Z) Z) (ai (ai (cp O [500,901,902,903,5,904,905,906] [902] (bin := [iB (bN SS a) g 1 2 3, aE g.paths, aG g.conds, ao st, iW (st.length - 1) 3 frm w 5 6 7, ao w.vars, ao w.facts, aA w.ev]) Z Z Z Z (oP (sn := (st.length - 1)) (st := st) (c := (bN SS a)) (frm := frm) (g := g) (w := w) (t := (bh st)) h1 h2 htop (show g.conds.length + 2 ≤ L by omega)) Z Z Z Z Z (B0 := 179000) Z Z Z Z Z Z Z) Z) trivial)))))))) ?_)
   refine jw [169,170,149,150,145,146,129,130,111,112,100,101,90,91,83,84,82,81,10,80,9,78,48,8,32,23,2,3,4,5] Z (cu ?_)
   obtain ⟨s2, es⟩ : ∃ s2, s2 = cz st := ⟨_, rfl⟩
   have hs2 : st.length - 1 = s2.length := by rw [es]; exact vB.symm
   refine gx (Ent.cut 903 (st.length - 1) Z) (cu ?_)
   rw [← List.map_take, show List.take (st.length - 1) st = s2 from es.symm, hs2]
   refine kR O [_,_,_,_,_,_] [pn [] 0 1, pn [] 0 0, pn [1] 0 0, pn [1,2] 0 0, pe [1,2,3] 0, pe (rg 0 5) 1] [4,5] [_, [(4, pB 500), (9, bX x), (10, xB (.int .i64 ((k : Int) + 1))), (500, iB (bN SS a) (kX w (aX bu w (bh st) g)) 901 179008 503), (901, aE (kX w (aX bu w (bh st) g)).paths), (179008, aG (kX w (aX bu w (bh st) g)).conds), (903, ao s2), (5, iW s2.length 903 frm (mr w) 904 905 906), (904, ao w.vars), (905, ao w.facts), (906, aA w.ev)], _] [[], [903]] (ai (ka O Z Z (kw O Z Z)) (ka O Z Z (ka O Z Z (ka O Z Z (ai (ai (aM (bM O [500,901,179008,903,5,904,905,906] (bin := [iB (bN SS a) (aX bu w (bh st) g) 1 2 3, aE (aX bu w (bh st) g).paths, aG (aX bu w (bh st) g).conds, ao s2, iW s2.length 3 frm w 5 6 7, ao w.vars, ao w.facts, aA w.ev]) Z Z Z Z (rn (sn := s2.length) (st := s2) (c := (bN SS a)) (frm := frm) (g := (aX bu w (bh st) g)) (w := w) h1 h2 hsy) Z Z Z Z Z (B0 := 184000) Z Z Z Z Z Z)) Z) (ai (ai (cp O [500,901,179008,903,5,904,905,906] [903] (bin := [iB (bN SS a) (kX w (aX bu w (bh st) g)) 1 2 3, aE (kX w (aX bu w (bh st) g)).paths, aG (kX w (aX bu w (bh st) g)).conds, ao s2, iW s2.length 3 frm (mr w) 5 6 7, ao (mr w).vars, ao (mr w).facts, aA (mr w).ev]) Z Z Z Z (j5 (c := (bN SS a)) (frm := frm) (g := (kX w (aX bu w (bh st) g))) (w := (mr w)) (st := s2) (t := tl w) (ok := true) h1 h2 (by omega)) Z Z Z Z Z (B0 := 185000) Z Z Z Z Z Z Z) Z) trivial)))))) ?_
   subst es
   rw [ed, vv he hsy, (jT (g := g) hs).1, (jT (g := g) hs).2.1, (jT (g := g) hs).2.2, show iX x (k : Int) = (k : Int) + 1 from if_neg (by omega)]
   refine ng ?_
   exact ⟨Z, (((au [4,10,5,500,901,179008,185008,904,905,906] (e' := [(4, _), (5, _), (10, _)]) Z Z ⟨Z, Z, Z, trivial⟩ Z).trans (ac 179008 902 Z Z)).trans (ac 185008 903 Z Z)).trans (Ent.to ⟨Z, Z, Z, trivial⟩ Z)⟩
   exact absurd (bB hc169) (by omega)
  | l8 he hs =>
   refine am (ae (j2 O Z Z (jn (ab O Z Z (fun hc83 => ?_) (fun hc83 => ?_)))))
   exact absurd (aS hc83) (by omega)
   refine ae (j2 O Z Z (jn (ab O Z Z (fun hc90 => ?_) (fun hc90 => ?_))))
   exact absurd (aS hc90) (by omega)
   refine ae (j2 O Z Z (jn (ab O Z Z (fun hc100 => ?_) (fun hc100 => ?_))))
   exact absurd (aS hc100) (by omega)
   refine ae (j2 O Z Z (jn (ab O Z Z (fun hc111 => ?_) (fun hc111 => ?_))))
   exact absurd (aS hc111) (by omega)
   refine ae (j2 O Z Z (jn (ab O Z Z (fun hc129 => ?_) (fun hc129 => ?_))))
   exact absurd (aS hc129) (by omega)
   refine ae (j2 O Z Z (jn (ab O Z Z (fun hc145 => ?_) (fun hc145 => ?_))))
   exact absurd (aS hc145) (by omega)
   refine ae (j2 O Z Z (jn (ab O Z Z (fun hc149 => ?_) (fun hc149 => ?_))))
   exact absurd (aS hc149) (by omega)
   refine ae (j2 O Z Z (jn (ab O Z Z (fun hc169 => ?_) (fun hc169 => ?_))))
   exact absurd (aS hc169) (by omega)
   refine ae (j2 O Z Z (jn (ab O Z Z (fun hc185 => ?_) (fun hc185 => ?_))))
   refine kR O [_,_,_,_,_,_,_,_] [pn [] 0 1, pn [0] 0 1, pn [0,1] 0 1, pn [] 0 0, pe [3] 0, pn [3,4] 1 1, pn [3,4,5] 1 1, pe (rg 0 7) 1] [4,7] [_, [(4, pB 500), (9, bX x), (10, xB (.int .i64 ((k : Int) + 1))), (500, iB (bN SS a) (g.flag true) 901 902 503), (901, aE (g.flag true).paths), (902, aG (g.flag true).conds), (903, ao st), (5, iW st.length 903 frm w 904 905 906), (904, ao w.vars), (905, ao w.facts), (906, aA w.ev)], _] [[], [902]] (ai (ka O Z Z (kw O Z Z)) (ai (ka O Z Z (kw O Z Z)) (ai (ka O Z Z (kw O Z Z)) (ka O Z Z (ai (ai (aM (bM O [500,901,902,903,5,904,905,906] (bin := [iB (bN SS a) g 1 2 3, aE g.paths, aG g.conds, ao st, iW st.length 3 frm w 5 6 7, ao w.vars, ao w.facts, aA w.ev]) Z Z Z Z (rj (c := (bN SS a)) (frm := frm) (g := g) (w := w) (st := st) h1 h2 (by omega)) Z Z Z Z Z (B0 := 192000) Z Z Z Z Z Z)) Z) (ai (ai (bD O Z Z Z Z Z Z Z Z (by simp) Z) Z) (ka O Z Z (ai (ai (cp O [500,901,902,903,5,904,905,906] [902] (bin := [iB (bN SS a) (g.flag true) 1 2 3, aE (g.flag true).paths, aG (g.flag true).conds, ao st, iW st.length 3 frm w 5 6 7, ao w.vars, ao w.facts, aA w.ev]) Z Z Z Z (oP (sn := st.length) (st := st) (c := (bN SS a)) (frm := frm) (g := (g.flag true)) (w := w) (t := tz) h1 h2 fT (show g.conds.length + 2 ≤ L by omega)) Z Z Z Z Z (B0 := 195000) Z Z Z Z Z Z Z) Z) trivial)))))))) ?_
   rw [ed, vu he, (t0 (g := g) hs).1, (t0 (g := g) hs).2.2.1, (t0 (g := g) hs).2.2.2, show iX x (k : Int) = (k : Int) + 1 from if_neg (by omega)]
   refine ng ?_
   exact ⟨Z, ((au [4,10,5,500,901,195008,903,904,905,906] (e' := [(4, _), (5, _), (10, _)]) Z Z ⟨Z, Z, Z, trivial⟩ Z).trans (ac 195008 902 Z Z)).trans (Ent.to ⟨Z, Z, Z, trivial⟩ Z)⟩
   exact absurd (bB hc185) (by omega)
  | h8 he hs =>
   have hund : (i0 st).ok = true := c7 hw.sok
   refine am (ae (j2 O Z Z (jn (ab O Z Z (fun hc83 => ?_) (fun hc83 => ?_)))))
   exact absurd (aS hc83) (by omega)
   refine ae (j2 O Z Z (jn (ab O Z Z (fun hc90 => ?_) (fun hc90 => ?_))))
   exact absurd (aS hc90) (by omega)
   refine ae (j2 O Z Z (jn (ab O Z Z (fun hc100 => ?_) (fun hc100 => ?_))))
   exact absurd (aS hc100) (by omega)
   refine ae (j2 O Z Z (jn (ab O Z Z (fun hc111 => ?_) (fun hc111 => ?_))))
   exact absurd (aS hc111) (by omega)
   refine ae (j2 O Z Z (jn (ab O Z Z (fun hc129 => ?_) (fun hc129 => ?_))))
   exact absurd (aS hc129) (by omega)
   refine ae (j2 O Z Z (jn (ab O Z Z (fun hc145 => ?_) (fun hc145 => ?_))))
   exact absurd (aS hc145) (by omega)
   refine ae (j2 O Z Z (jn (ab O Z Z (fun hc149 => ?_) (fun hc149 => ?_))))
   exact absurd (aS hc149) (by omega)
   refine ae (j2 O Z Z (jn (ab O Z Z (fun hc169 => ?_) (fun hc169 => ?_))))
   exact absurd (aS hc169) (by omega)
   refine ae (j2 O Z Z (jn (ab O Z Z (fun hc185 => ?_) (fun hc185 => ?_))))
   refine kR O [_,_,_,_,_,_,_,_] [pn [] 0 1, pn [0] 0 1, pn [0,1] 0 1, pn [] 0 0, pe [3] 0, pn [3,4] 1 1, pn [3,4,5] 1 1, pe (rg 0 7) 1] [4,7] [_, [(4, pB 500), (9, bX x), (10, xB (.int .i64 ((k : Int) + 1))), (500, iB (bN SS a) g 901 902 503), (901, aE g.paths), (902, aG g.conds), (903, ao st), (5, iW (st.length - 2) 903 frm w 904 905 906), (904, ao w.vars), (905, ao w.facts), (906, aA w.ev)], _] [[], [902]] (ai (ka O Z Z (kw O Z Z)) (ai (ka O Z Z (kw O Z Z)) (ai (ka O Z Z (kw O Z Z)) (ka O Z Z (ai (ai (aM (bM O [500,901,902,903,5,904,905,906] (bin := [iB (bN SS a) g 1 2 3, aE g.paths, aG g.conds, ao st, iW st.length 3 frm w 5 6 7, ao w.vars, ao w.facts, aA w.ev]) Z Z Z Z (fV (c := (bN SS a)) (frm := frm) (g := g) (w := w) (st := st) (k := 2) h1 h2 hs (by omega)) Z Z Z Z Z (B0 := 192000) Z Z Z Z Z Z)) Z) (ka O Z Z (ai (ai (aq O (ex := Tm.cells (i0 st)) Z Z Z Z (nk (n := (st.length - 2)) (by omega) (by omega)) Z) Z) (ai (ai (cp O [500,901,902,903,5,904,905,906] [902] (bin := [iB (bN SS a) g 1 2 3, aE g.paths, aG g.conds, ao st, iW (st.length - 2) 3 frm w 5 6 7, ao w.vars, ao w.facts, aA w.ev]) Z Z Z Z (oP (sn := (st.length - 2)) (st := st) (c := (bN SS a)) (frm := frm) (g := g) (w := w) (t := (i0 st)) h1 h2 hund (show g.conds.length + 2 ≤ L by omega)) Z Z Z Z Z (B0 := 195000) Z Z Z Z Z Z Z) Z) trivial)))))))) ?_
   rw [ed, vu he, (i2 (g := g) hs).1, (i2 (g := g) hs).2.2.1, (i2 (g := g) hs).2.2.2, show iX x (k : Int) = (k : Int) + 1 from if_neg (by omega)]
   refine ng ?_
   exact ⟨Z, (Ent.cut 903 (st.length - 2) Z).trans (((au [4,10,5,500,901,195008,903,904,905,906] (e' := [(4, _), (5, _), (10, _)]) Z Z ⟨Z, Z, Z, trivial⟩ Z).trans (ac 195008 902 Z Z)).trans (Ent.to ⟨Z, Z, Z, trivial⟩ (by rw [← List.map_take, show (mo st).length = st.length - 2 from yk]; rfl)))⟩
   exact absurd (bB hc185) (by omega)
  | o9 he =>
   refine am (ae (j2 O Z Z (jn (ab O Z Z (fun hc83 => ?_) (fun hc83 => ?_)))))
   exact absurd (aS hc83) (by omega)
   refine ae (j2 O Z Z (jn (ab O Z Z (fun hc90 => ?_) (fun hc90 => ?_))))
   exact absurd (aS hc90) (by omega)
   refine ae (j2 O Z Z (jn (ab O Z Z (fun hc100 => ?_) (fun hc100 => ?_))))
   exact absurd (aS hc100) (by omega)
   refine ae (j2 O Z Z (jn (ab O Z Z (fun hc111 => ?_) (fun hc111 => ?_))))
   exact absurd (aS hc111) (by omega)
   refine ae (j2 O Z Z (jn (ab O Z Z (fun hc129 => ?_) (fun hc129 => ?_))))
   exact absurd (aS hc129) (by omega)
   refine ae (j2 O Z Z (jn (ab O Z Z (fun hc145 => ?_) (fun hc145 => ?_))))
   exact absurd (aS hc145) (by omega)
   refine ae (j2 O Z Z (jn (ab O Z Z (fun hc149 => ?_) (fun hc149 => ?_))))
   exact absurd (aS hc149) (by omega)
   refine ae (j2 O Z Z (jn (ab O Z Z (fun hc169 => ?_) (fun hc169 => ?_))))
   exact absurd (aS hc169) (by omega)
   refine ae (j2 O Z Z (jn (ab O Z Z (fun hc185 => ?_) (fun hc185 => ?_))))
   exact absurd (aS hc185) (by omega)
   refine ae (j2 O Z Z (jn (ab O Z Z (fun hc195 => ?_) (fun hc195 => ?_))))
   refine aj (j4 O Z Z Z Z (jf [200,198,195,196,185,186,169,170,149,150,145,146,129,130,111,112,100,101,90,91,83,84,82,81,10,80,9,78,48,8,32,23,2,3,4,5] Z (AOps.heap (bg O Z Z Z) Z (ap ?_))))
   refine jf [201,198,195,196,185,186,169,170,149,150,145,146,129,130,111,112,100,101,90,91,83,84,82,81,10,80,9,78,48,8,32,23,2,3,4,5] Z (AOps.heap (cf (zs := (w.ev ++ [x.a]).map (fun n => [D.int .i64 n])) (n := (w.ev ++ [x.a]).length) O Z Z Z Z Z Z Z Z Z Z Z Z Z Z Z Z (.row Z (b9 _).symm) Z Z (by decide) Z (by simp; omega) (by simp; omega) (by simp) (by simp)) Z (ap ?_))
   refine ap ?_
   refine js O Z (jf [203,202,195,196,185,186,169,170,149,150,145,146,129,130,111,112,100,101,90,91,83,84,82,81,10,80,9,78,48,8,32,23,2,3,4,5] Z (jo O Z (ap ?_)))
   refine jf [195,196,185,186,169,170,149,150,145,146,129,130,111,112,100,101,90,91,83,84,82,81,10,80,9,78,48,8,32,23,2,3,4,5] Z (jn ?_)
   rw [ed, yd he, show iX x (k : Int) = (k : Int) + 1 from if_neg (by omega)]
   refine ng ?_
   exact ⟨Z, ((au [4,10,5,500,901,902,903,904,905,202] (e' := [(4, _), (5, _), (10, _)]) Z Z ⟨Z, Z, Z, trivial⟩ Z).trans (ac 202 906 Z Z)).trans (Ent.to ⟨Z, Z, Z, trivial⟩ Z)⟩
   exact absurd (bB hc195) (by omega)
  | l10 he hs =>
   refine am (ae (j2 O Z Z (jn (ab O Z Z (fun hc83 => ?_) (fun hc83 => ?_)))))
   exact absurd (aS hc83) (by omega)
   refine ae (j2 O Z Z (jn (ab O Z Z (fun hc90 => ?_) (fun hc90 => ?_))))
   exact absurd (aS hc90) (by omega)
   refine ae (j2 O Z Z (jn (ab O Z Z (fun hc100 => ?_) (fun hc100 => ?_))))
   exact absurd (aS hc100) (by omega)
   refine ae (j2 O Z Z (jn (ab O Z Z (fun hc111 => ?_) (fun hc111 => ?_))))
   exact absurd (aS hc111) (by omega)
   refine ae (j2 O Z Z (jn (ab O Z Z (fun hc129 => ?_) (fun hc129 => ?_))))
   exact absurd (aS hc129) (by omega)
   refine ae (j2 O Z Z (jn (ab O Z Z (fun hc145 => ?_) (fun hc145 => ?_))))
   exact absurd (aS hc145) (by omega)
   refine ae (j2 O Z Z (jn (ab O Z Z (fun hc149 => ?_) (fun hc149 => ?_))))
   exact absurd (aS hc149) (by omega)
   refine ae (j2 O Z Z (jn (ab O Z Z (fun hc169 => ?_) (fun hc169 => ?_))))
   exact absurd (aS hc169) (by omega)
   refine ae (j2 O Z Z (jn (ab O Z Z (fun hc185 => ?_) (fun hc185 => ?_))))
   exact absurd (aS hc185) (by omega)
   refine ae (j2 O Z Z (jn (ab O Z Z (fun hc195 => ?_) (fun hc195 => ?_))))
   exact absurd (aS hc195) (by omega)
   refine ae (j2 O Z Z (jn (ab O Z Z (fun hc204 => ?_) (fun hc204 => ?_))))
   refine ae (js O Z (av O [500,901,902,903,5,904,905,906] (bin := [iB (bN SS a) g 1 2 3, aE g.paths, aG g.conds, ao st, iW st.length 3 frm w 5 6 7, ao w.vars, ao w.facts, aA w.ev]) Z Z Z Z (jh (c := (bN SS a)) (frm := frm) (g := g) (w := w) (st := st) h1 h2 (by omega)) Z Z Z Z Z Z (B0 := 208000) Z Z (ap ?_)))
   refine AOps.step (bD O Z Z Z Z Z Z Z Z (by simp) Z) Z Z Z (js O Z (jf [209,204,205,195,196,185,186,169,170,149,150,145,146,129,130,111,112,100,101,90,91,83,84,82,81,10,80,9,78,48,8,32,23,2,3,4,5] Z (jl O Z (ap ?_))))
   refine jo O Z (ap ?_)
   refine jn (ag (kR O [_,_,_,_,_] [pn [] 0 0, pn [0] 0 0, pn [0,1] 0 0, pn [] 0 0, pe (rg 0 4) 0] [4] [_,_] [[902]] (ka O Z Z (ka O Z Z (ka O Z Z (ka O Z Z (ai (ai (cp O [500,901,902,903,5,904,905,906] [902] (bin := [iB (bN SS a) (g.flag true) 1 2 3, aE (g.flag true).paths, aG (g.flag true).conds, ao st, iW st.length 3 frm w 5 6 7, ao w.vars, ao w.facts, aA w.ev]) Z Z Z Z (mG (sn := st.length) (st := st) (c := (bN SS a)) (frm := frm) (g := (g.flag true)) (w := w) (t := tz) h1 h2 (show g.conds.length + 1 ≤ L by omega)) Z Z Z Z Z (B0 := 215000) Z Z Z Z Z Z Z) Z) trivial))))) ?_))
   refine jw [17,209,204,205,195,196,185,186,169,170,149,150,145,146,129,130,111,112,100,101,90,91,83,84,82,81,10,80,9,78,48,8,32,23,2,3,4,5] Z (cu ?_)
   refine kR O [_,_,_,_,_] [pn [] 0 0, pn [0] 0 0, pn [0,1] 0 0, pn [] 0 0, pe (rg 0 4) 0] [4] [_,_] [[905]] (ka O Z Z (ka O Z Z (ka O Z Z (ka O Z Z (ai (ai (cp O [500,901,215008,903,5,904,905,906] [905] (bin := [iB (bN SS a) (cr w tz (g.flag true)) 1 2 3, aE (cr w tz (g.flag true)).paths, aG (cr w tz (g.flag true)).conds, ao st, iW st.length 3 frm w 5 6 7, ao w.vars, ao w.facts, aA w.ev]) Z Z Z Z (oO (sn := st.length) (st := st) (c := (bN SS a)) (frm := frm) (g := cr w tz (g.flag true)) (w := w) (t := tz) h1 h2 (by omega)) Z Z Z Z Z (B0 := 220000) Z Z Z Z Z Z Z) Z) trivial))))) ?_
   rw [mS fT]
   rw [ed, tC he, (qk (g := g) hs).1, (qk (g := g) hs).2.1, (qk (g := g) hs).2.2, show iX x (k : Int) = (k : Int) + 1 from if_neg (by omega)]
   refine ng ?_
   exact ⟨Z, (((au [4,10,5,500,901,215008,903,904,220009,906] (e' := [(4, _), (5, _), (10, _)]) Z Z ⟨Z, Z, Z, trivial⟩ Z).trans (ac 215008 902 Z Z)).trans (ac 220009 905 Z Z)).trans (Ent.to ⟨Z, Z, Z, trivial⟩ Z)⟩
   exact absurd (bB hc204) (by omega)
  | h10 he hs =>
   have htop : (bh st).ok = true := c7 hw.sok
   refine am (ae (j2 O Z Z (jn (ab O Z Z (fun hc83 => ?_) (fun hc83 => ?_)))))
   exact absurd (aS hc83) (by omega)
   refine ae (j2 O Z Z (jn (ab O Z Z (fun hc90 => ?_) (fun hc90 => ?_))))
   exact absurd (aS hc90) (by omega)
   refine ae (j2 O Z Z (jn (ab O Z Z (fun hc100 => ?_) (fun hc100 => ?_))))
   exact absurd (aS hc100) (by omega)
   refine ae (j2 O Z Z (jn (ab O Z Z (fun hc111 => ?_) (fun hc111 => ?_))))
   exact absurd (aS hc111) (by omega)
   refine ae (j2 O Z Z (jn (ab O Z Z (fun hc129 => ?_) (fun hc129 => ?_))))
   exact absurd (aS hc129) (by omega)
   refine ae (j2 O Z Z (jn (ab O Z Z (fun hc145 => ?_) (fun hc145 => ?_))))
   exact absurd (aS hc145) (by omega)
   refine ae (j2 O Z Z (jn (ab O Z Z (fun hc149 => ?_) (fun hc149 => ?_))))
   exact absurd (aS hc149) (by omega)
   refine ae (j2 O Z Z (jn (ab O Z Z (fun hc169 => ?_) (fun hc169 => ?_))))
   exact absurd (aS hc169) (by omega)
   refine ae (j2 O Z Z (jn (ab O Z Z (fun hc185 => ?_) (fun hc185 => ?_))))
   exact absurd (aS hc185) (by omega)
   refine ae (j2 O Z Z (jn (ab O Z Z (fun hc195 => ?_) (fun hc195 => ?_))))
   exact absurd (aS hc195) (by omega)
   refine ae (j2 O Z Z (jn (ab O Z Z (fun hc204 => ?_) (fun hc204 => ?_))))
   refine ae (js O Z (av O [500,901,902,903,5,904,905,906] (bin := [iB (bN SS a) g 1 2 3, aE g.paths, aG g.conds, ao st, iW st.length 3 frm w 5 6 7, ao w.vars, ao w.facts, aA w.ev]) Z Z Z Z (fV (c := (bN SS a)) (frm := frm) (g := g) (w := w) (st := st) (k := 1) h1 h2 hs (by omega)) Z Z Z Z Z Z (B0 := 208000) Z Z (ap ?_)))
   refine js O Z (AOps.step (aq O (ex := Tm.cells (bh st)) Z Z Z Z (nk (n := (st.length - 1)) (by omega) (by omega)) Z) Z Z Z (jf [209,204,205,195,196,185,186,169,170,149,150,145,146,129,130,111,112,100,101,90,91,83,84,82,81,10,80,9,78,48,8,32,23,2,3,4,5] Z (jl O Z (ap ?_))))
   refine jo O Z (ap ?_)
   refine jn (ag ?_)
   obtain ⟨s2, es⟩ : ∃ s2, s2 = cz st := ⟨_, rfl⟩
   have hs2 : st.length - 1 = s2.length := by rw [es]; exact vB.symm
   refine gx (Ent.cut 903 (st.length - 1) Z) (cu ?_)
   rw [← List.map_take, show List.take (st.length - 1) st = s2 from es.symm, hs2]
   refine kR O [_,_,_,_,_] [pn [] 0 0, pn [0] 0 0, pn [0,1] 0 0, pn [] 0 0, pe (rg 0 4) 0] [4] [_,_] [[902]] (ka O Z Z (ka O Z Z (ka O Z Z (ka O Z Z (ai (ai (cp O [500,901,902,903,5,904,905,906] [902] (bin := [iB (bN SS a) g 1 2 3, aE g.paths, aG g.conds, ao s2, iW s2.length 3 frm w 5 6 7, ao w.vars, ao w.facts, aA w.ev]) Z Z Z Z (mG (sn := s2.length) (st := s2) (c := (bN SS a)) (frm := frm) (g := g) (w := w) (t := (bh st)) h1 h2 (show g.conds.length + 1 ≤ L by omega)) Z Z Z Z Z (B0 := 215000) Z Z Z Z Z Z Z) Z) trivial))))) ?_
   refine jw [17,209,204,205,195,196,185,186,169,170,149,150,145,146,129,130,111,112,100,101,90,91,83,84,82,81,10,80,9,78,48,8,32,23,2,3,4,5] Z (cu ?_)
   refine kR O [_,_,_,_,_] [pn [] 0 0, pn [0] 0 0, pn [0,1] 0 0, pn [] 0 0, pe (rg 0 4) 0] [4] [_,_] [[905]] (ka O Z Z (ka O Z Z (ka O Z Z (ka O Z Z (ai (ai (cp O [500,901,215008,903,5,904,905,906] [905] (bin := [iB (bN SS a) (cr w (bh st) g) 1 2 3, aE (cr w (bh st) g).paths, aG (cr w (bh st) g).conds, ao s2, iW s2.length 3 frm w 5 6 7, ao w.vars, ao w.facts, aA w.ev]) Z Z Z Z (oO (sn := s2.length) (st := s2) (c := (bN SS a)) (frm := frm) (g := cr w (bh st) g) (w := w) (t := (bh st)) h1 h2 (by omega)) Z Z Z Z Z (B0 := 220000) Z Z Z Z Z Z Z) Z) trivial))))) ?_
   subst es
   rw [mS htop]
   rw [ed, tC he, (jT (g := g) hs).1, (jT (g := g) hs).2.1, (jT (g := g) hs).2.2, show iX x (k : Int) = (k : Int) + 1 from if_neg (by omega)]
   refine ng ?_
   exact ⟨Z, (((au [4,10,5,500,901,215008,903,904,220009,906] (e' := [(4, _), (5, _), (10, _)]) Z Z ⟨Z, Z, Z, trivial⟩ Z).trans (ac 215008 902 Z Z)).trans (ac 220009 905 Z Z)).trans (Ent.to ⟨Z, Z, Z, trivial⟩ Z)⟩
   exact absurd (bB hc204) (by omega)
  refine aj (j2 O Z Z (jn (aj (js O Z (jn ?_)))))
  exact ⟨⟨n, iX x (k : Int), false, d.w, d.st, d.g⟩, ((au [4,5,500,901,902,903,904,905,906] (e' := [(2, _), (3, _), (4, _), (5, _)]) Z Z ⟨Z, Z, Z, Z, trivial⟩ Z)).trans (Ent.to ⟨Z, Z, Z, Z, trivial⟩ Z), (by rw [ed]; exact hci2), Nat.lt_succ_self n⟩
 refine aW ?_
 show _ ∧ _
 have hb : g.bad = true := by simpa using hc23
 rw [← hG, bU hb]
 refine ⟨.inr Z, _, (ac 901 510 Z Z).trans (ac 902 511 Z Z), _, Z, Z, Z⟩
theorem tJ {L : Nat} (h1 : 4096 ≤ L) (h2 : L ≤ 1073741824) {SS : List (List Tm)} {a : An} {frm : Int} (hv : VA' a) (hcl : dr a = true) (hL : 100000 ≤ L) (n : Nat) (hn : n ≤ 100) : ∀ {z : Int} {b : Bool} {w : Pw} {st : List Tm} {g : Gs}, FuOk a n z b → (g.bad = false → CW n w st) → (g.bad = false → GC n g) → nu L (bN SS a) frm w st g z b (dC i1 a frm n z b w st g) := by
 induction n using Nat.strongRecOn with
 | _ n ih =>
  intro z b w st g hf hw hg
  exact uz h1 h2 hv hcl hL (N := n) (fun m hm => ih m hm (by omega)) ⟨hf, ch _, hn, hw, hg, Z⟩
theorem wI {z : List Tm} (hz : z = []) : MQ h1 h2 155 [ct z] [] (Rows (.c (.rs 0 0 0)) [ao []]) := by
 refine bq (jB 8 h1 h2 Tryz.func155 Z Z Z fun O hF => ?_)
 subst hz
 refine ae (js O Z (jn (ag (ae (js O Z (ox O Z Z Z Z Z Z Z Z Z Z (fun b => ?_)))))))
 refine jn (ab O Z Z (fun hc4 => ?_) (fun hc4 => ?_))
 refine ae (js O Z (jr ?_))
 refine ⟨.inl Z, _, (di 2 900 2 false Z Z).trans (Ent.to (e' := [(2, _)]) ⟨Z, trivial⟩ Z), _, Z, [900], by decide, Z, Z, Z⟩
 refine ah (ae (AOps.heap (bg O Z Z Z) Z (js O Z (ay (ck 5 Z) (AOps.heap (bH (own := false) (zs := []) (n := 0) O Z Z Z Z Z Z Z Z Z Z Z Z Z Z Z Z (.row Z Z) (.slc (.inl Z)) (by simp) Z (by simp) (by simp) Z Z) Z (js O Z (jr ?_)))))))
 refine ⟨.inl Z, _, ak, _, Z, [7], by decide, Z, Z, Z⟩
theorem wK {L : Nat} (h1 : 4096 ≤ L) (h2 : L ≤ 1073741824) {ts : List Tm} (hl : ts.length ≤ 1000) : MC Tryz.prog L 155 [ct ts] [] (Rows (.c (.rs 0 0 ts.length)) [ao ts]) := by
 cases ts with
 | nil => exact wI h1 h2 Z
 | cons c r => exact yn h1 h2 hl
variable {SS : List (List Tm)} {a : An} {g : Gs} {f : List Tm}
theorem w4 {n : Nat} (hn : n < SS.length) (hsl : SS.length ≤ 1000) (hf : SS.getD n default = f) (hl : f.length ≤ 1000) : MQ h1 h2 128 [.c (.pt 0 0 0), eI ((n : Int) - 1)] [(0, iB (bN SS a) g 1 2 3), (1, aE g.paths), (2, aG g.conds)] (bd (wA [] 3 ((n : Int) - 1) (w0 f) 4 5 6) [(0, iB (bN SS a) g 1 2 3), (1, aE g.paths), (2, aG g.conds), (3, ao []), (4, ao (ne 4)), (5, ao f), (6, aA [])]) := by
 refine aH 500 Z (MC.keep [500,501,502,503,504,505,506] (bs := [iB (bN SS a) g 501 502 503, aE g.paths, aG g.conds, ao [], ao (ne 4), ao f, aA []]) Z Z (jH 30 [500,501,502] h1 h2 Tryz.func128 Z Z Z Z fun O hF => ?_))
 refine cu ?_
 refine ae (jl O Z (ap ?_))
 refine aQ (j4 O Z Z Z Z (j2 O Z Z (AOps.step ((vF O Z).cast (v' := eI (n : Nat)) (congrArg eI (by omega))) Z Z Z (AOps.step ((aP O Z Z Z Z Z Z Z Z (cQ hn)).cast (v' := ptr [cY f]) (by rw [hf])) Z Z Z (js O Z (jf [15,7,4] Z (kO O (B0 := 17000) Z Z Z Z (wK (ts := f) h1 h2 hl) (aa Z) Z Z Z Z Z (ap ?_))))))))
 refine js O Z (jf [17,4] Z (jl O Z (ap ?_)))
 refine jo O Z (ap ?_)
 refine jn (ag (ae (js O Z (jn (am (ar (X := Nat) (fun i => ⟨[(4, .c (.pt 4 0 0)), (5, .c (.pt 5 0 0)), (18, eI i)], [(4, .box [.d (.int .i64 0), .d .nils, .d .nils, .d .nils, .d .nils, .d (.int .i64 0)]), (5, .box [.d (.int .i64 ((n : Int) - 1)), .rs 904 0 i, .rs 903 0 0, .rs 905 0 f.length, .rs 906 0 0, .d (.int .i64 4)]), (500, iB (bN SS a) g 501 502 503), (501, aE g.paths), (502, aG g.conds), (903, ao []), (904, ao (ne i)), (905, ao f), (906, aA [])]⟩) (fun i => i ≤ 4) (fun i => 4 - i) 0 ((((cw 5 904 2 false 1 Z Z Z).trans (cw 5 906 1 true 4 Z Z Z)).trans (cw 5 903 2 false 2 Z Z Z)).trans (((au [4,5,500,501,502,903,904,17000,906] (e' := [(4, _), (5, _), (18, _)]) Z Z ⟨Z, Z, Z, trivial⟩ Z).trans (ac 17000 905 Z Z)).trans (Ent.to ⟨Z, Z, Z, trivial⟩ Z))) ?_ (fun i hi => ?_)))))))
 exact cI _
 have hvl := iu (i := i)
 refine ae (js O Z (jn (ag (ab O Z Z (fun hc19 => ?_) (fun hc19 => ?_)))))
 refine ah (ag (am (ae (j2 O Z Z (jn (kR O [_,_,_,_,_,_,_,_] [pn [] 0 2, pn [0] 0 2, pn [] 0 0, pe [2] 0, pe [2,3] 1, pe (rg 0 5) 2, pn (rg 0 6) 3 3, pe (rg 0 7) 3] [3,4,5,7] [_,_,_,_,_] [[], [], [904], []] (ai (ka O Z Z (ka O Z Z (kw O Z Z))) (ai (ka O Z Z (ka O Z Z (kw O Z Z))) (ka O Z Z (ai (ai (aM (aZ O (B0 := 25000) Z Z Z Z (tS (k := i) h1 h2 (by have := aS hc19; omega)) (aa Z) Z Z Z Z Z)) Z) (ai (ai (aM (bS O Z Z Z Z Z Z Z Z Z Z Z Z Z Z)) Z) (ai (ai (bI (own := false) (xs := (ne i).map Tm.cells) (ys := [Tm.cells (gF i)]) (zs := (ne (i + 1)).map Tm.cells) (n := i + 1) O Z Z Z Z Z Z Z Z Z Z Z Z Z Z Z Z (.row Z (by simp; omega)) (.whole Z Z (.inr ⟨Z, Z⟩)) (by simp) Z (by simp; omega) (by simp; omega) (by rw [mJ]; simp) (by simp [iu]) Z) Z) (ka O Z Z (ai (ai (aM (eS O Z Z Z)) Z) trivial)))))))) ?_))))))
 refine jw [20,19,4,5,18] Z (cu ?_)
 refine aj (ji O Z (js O Z (jn ?_)))
 refine ⟨i + 1, ((au [4,5,500,501,502,903,26,905,906] (e' := [(4, _), (5, _), (18, _)]) Z Z ⟨Z, Z, Z, trivial⟩ Z).trans (ac 26 904 Z Z)).trans (Ent.to ⟨Z, Z, Z, trivial⟩ Z), by have := aS hc19; omega, by have := aS hc19; omega⟩
 refine aW (ae (js O Z (jo O Z (ap ?_))))
 refine jr ?_
 obtain rfl : i = 4 := by have := bB hc19; omega
 refine ⟨.inl Z, _, (((ac 904 504 Z Z).trans (ac 905 505 Z Z)).trans (ac 906 506 Z Z)).trans (ac 903 503 Z Z), _, Z, Z, Z⟩
theorem ro {L : Nat} (h1 : 4096 ≤ L) (h2 : L ≤ 1073741824) {SS : List (List Tm)} {a : An} {g : Gs} {n : Nat} {f : List Tm} {w : Pw} {frm : Int} (hw : w0 f = w) (hn : n < SS.length) (hsl : SS.length ≤ 1000) (hf : SS.getD n default = f) (hl : f.length ≤ 1000) (hfr : frm = (n : Int) - 1) : MC Tryz.prog L 128 [.c (.pt 0 0 0), eI frm] [(0, iB (bN SS a) g 1 2 3), (1, aE g.paths), (2, aG g.conds)] (bd (wA [] 3 frm w 4 5 6) [(0, iB (bN SS a) g 1 2 3), (1, aE g.paths), (2, aG g.conds), (3, ao []), (4, ao w.vars), (5, ao w.facts), (6, aA w.ev)]) := by
 subst hw; subst hfr; exact w4 h1 h2 hn hsl hf hl
set_option maxHeartbeats 8000000
variable {G : Gs}
theorem uC {w : Pw} (hw : w0 f = w) (hsl : SS.length ≤ 1000) (hfl : f.length ≤ 1000) (hn : 0 < SS.length) (hf : SS.getD 0 default = f) (ih : nu L (bN SS a) (-1) w [] g 0 false G) : MQ h1 h2 91 [.c (.pt 0 0 0), eI (-1)] [(0, iB (bN SS a) g 1 2 3), (1, aE g.paths), (2, aG g.conds)] (bd (.tup []) (oF (bN SS a) G)) := by
 refine aH 500 Z (MC.keep [500,510,511] (R := .tup []) (bs := [iB (bN SS a) G 510 511 503, aE G.paths, aG G.conds]) Z Z (jH 29 [500,501,502] h1 h2 Tryz.func91 Z Z Z Z fun O hF => ?_))
 refine cu ?_
 refine ag (ae (j2 O Z Z (jn (ab O Z Z (fun hc5 => ?_) (fun hc5 => ?_)))))
 refine ae (j4 O Z Z Z Z (js O Z (jf [10,9,6,4,0,1] Z (av O [500,501,502] (bin := [iB (bN SS a) g 1 2 3, aE g.paths, aG g.conds]) Z Z Z Z (ro (SS := SS) (a := a) (g := g) (n := 0) (f := f) (w := w) h1 h2 hw hn hsl hf hfl Z) Z Z Z Z Z Z (B0 := 12000) Z Z (ap ?_)))))
 refine jf [11,6,4,0,1] Z (av O [500,501,502,12003,12004,12005,12006] (bin := [iB (bN SS a) g 1 2 3, aE g.paths, aG g.conds, ao [], ao w.vars, ao w.facts, aA w.ev]) Z Z Z Z (ih) Z Z Z Z Z Z (B0 := 13000) Z Z (ap ?_))
 refine jf [4,0,1] Z (jr ?_)
 refine ⟨.inl Z, _, (ac 13010 510 Z Z).trans (ac 13011 511 Z Z), _, Z, Z, Z⟩
 exact absurd hc5 (by decide)
variable {z : Int}
theorem uB {w : Pw} (hw : w0 f = w) (hsl : SS.length ≤ 1000) (hfl : f.length ≤ 1000) {k : Nat} (hk : k < a.pts.length) (hz : (a.pts.getD k default).k = z) (hn : k + 1 < SS.length) (hf : SS.getD (k + 1) default = f) (ih : nu L (bN SS a) (k : Nat) w [] g z true G) : MQ h1 h2 91 [.c (.pt 0 0 0), eI (k : Nat)] [(0, iB (bN SS a) g 1 2 3), (1, aE g.paths), (2, aG g.conds)] (bd (.tup []) (oF (bN SS a) G)) := by
 refine aH 500 Z (MC.keep [500,510,511] (R := .tup []) (bs := [iB (bN SS a) G 510 511 503, aE G.paths, aG G.conds]) Z Z (jH 29 [500,501,502] h1 h2 Tryz.func91 Z Z Z Z fun O hF => ?_))
 refine cu ?_
 refine ag (ae (j2 O Z Z (jn (ab O Z Z (fun hc5 => ?_) (fun hc5 => ?_)))))
 exact absurd (aS hc5) (by omega)
 refine ah (jw [4,0,1] Z (kR O [_,_,_,_,_,_,_,_,_,_,_,_,_,_,_,_] [pn [] 0 1, pn [] 0 0, pn [1] 0 0, pn [1,2] 0 0, pn [] 0 0, pe (rg 1 4) 0, pn [] 0 1, pn [6] 0 1, pn [6,7] 0 1, pn [6,7,8] 0 1, pn (rg 6 4) 0 1, pn [] 0 1, pn (rg 6 6) 0 1, pn (rg 6 7) 0 1, pn (rg 6 8) 0 1, pe (rg 0 15) 1] [5,15] [_,_,_] [[], [501,502,19003,19004,19005,19006]] (ai (ka O Z Z (kw O Z Z)) (ka O Z Z (ka O Z Z (ka O Z Z (ka O Z Z (ai (ai (aM (bM O [500,501,502] (bin := [iB (bN SS a) g 1 2 3, aE g.paths, aG g.conds]) Z Z Z Z (ro (SS := SS) (a := a) (g := g) (n := k + 1) (f := f) (w := w) h1 h2 hw hn hsl hf hfl (by omega)) Z Z Z Z Z (B0 := 19000) Z Z Z Z Z Z)) Z) (ai (ka O Z Z (kw O Z Z)) (ai (ka O Z Z (kw O Z Z)) (ai (ka O Z Z (kw O Z Z)) (ai (ka O Z Z (kw O Z Z)) (ai (ka O Z Z (kw O Z Z)) (ai (ka O Z Z (kw O Z Z)) (ai (ai (ai (aP O Z Z Z Z Z Z Z Z (cQ hk)) Z) (ai (aP O Z Z Z Z Z Z Z Z (cQ hk)) Z)) (ai (ka O Z Z (kw O Z Z)) (ai (ai (ai ((V O Z).cast (v' := eI z) (congrArg eI hz)) Z) (ai ((V O Z).cast (v' := eI z) (congrArg eI hz)) Z)) (ai (ai (cp O [500,501,502,19003,19004,19005,19006] [501,502,19003,19004,19005,19006] (bin := [iB (bN SS a) g 1 2 3, aE g.paths, aG g.conds, ao [], ao w.vars, ao w.facts, aA w.ev]) Z Z Z Z (ih) Z Z Z Z Z (B0 := 29000) Z Z Z Z Z Z Z) Z) trivial)))))))))))))))) ?_))
 show _ ∧ _
 refine xu ?_
 refine ⟨.inr Z, _, (ac 29010 510 Z Z).trans (ac 29011 511 Z Z), _, Z, Z, Z⟩
abbrev lJ (a : An) : List (List Tm) := a.pre :: a.pts.map (·.fs)
theorem wV (hv : VA' a) (hcl : dr a = true) (hL : 100000 ≤ L) {n : Nat} (hn : n ≤ a.pts.length) (hg : GD g) : MQ h1 h2 91 [.c (.pt 0 0 0), eI ((n : Int) - 1)] [(0, iB (bN (lJ a) a) g 1 2 3), (1, aE g.paths), (2, aG g.conds)] (bd (.tup []) (oF (bN (lJ a) a) (fo i1 a n g))) := by
 have h8 := hv.ok.np
 have hsl : (lJ a).length = a.pts.length + 1 := by simp
 cases n with
 | zero =>
  refine uC h1 h2 (w := w0 a.pre) Z (by omega) (by have := hv.ok.npre; omega) (by omega) Z ?_
  exact tJ h1 h2 hv hcl hL 100 (ch _) (FuOk.start hv) (fun _ => jq hv.ok.npre) (fun hb => hg.start hb)
 | succ n =>
  have hk : n < a.pts.length := by omega
  have hl6 := cE (n := 6) (hv.pt hk).1
  have hf : (lJ a).getD (n + 1) default = (a.pts.getD n default).fs := by
   rw [aw (by omega), aw hk]; simp
  rw [show (((n + 1 : Nat)) : Int) - 1 = (n : Nat) by omega]
  refine uB h1 h2 (w := w0 (a.pts.getD n default).fs) Z (by omega) (by omega) hk Z (by omega) hf ?_
  exact tJ h1 h2 hv hcl hL 100 (ch _) (FuOk.start hv) (fun _ => jq hl6) (fun hb => hg.start hb)
abbrev tj (a : An) : Pc := bN (lJ a) a
abbrev vf (a : An) (g : Gs) : List (Nat × B) := [(0, iB (tj a) g 1 2 3), (1, aE g.paths), (2, aG g.conds)]
abbrev th (a : An) (g : Gs) : List (Nat × B) := [(0, iB (tj a) g 10 11 3), (10, aE g.paths), (11, aG g.conds)]
theorem tc {al : Nat → Gs} (h : ∀ i, (al i).bad = true → al (i + 1) = al i) {i : Nat} (hb : (al i).bad = true) : ∀ {n : Nat}, i ≤ n → al n = al i := fun {n} hn => by
 induction n with
 | zero =>
  obtain rfl : i = 0 := by omega
  rfl
 | succ n ih =>
  rcases Nat.lt_or_ge n i with h1 | h1
  obtain rfl : i = n + 1 := by omega
  rfl
  have := ih h1
  rw [h n (by rw [this]; exact hb), this]
theorem uZ {k : Int} {al : Nat → Gs} (hl : (lJ a).length ≤ 1000) (hst : ∀ i, (al i).bad = true → al (i + 1) = al i) (h0 : (al 0).bad = false) (hal : ∀ i : Nat, i < (lJ a).length → (al i).bad = false → MQ h1 h2 91 [.c (.pt 0 0 0), eI ((i : Int) - 1)] (vf a (al i)) (bd (.tup []) (th a (al (i + 1))))) : MQ h1 h2 90 [.c (.pt 0 0 0), eB true, eI k, .c (.fb 91 [.pt 0 0 0])] (vf a (al 0)) (bd (eB (!(al (lJ a).length).bad)) (th a (al (lJ a).length))) := by
 refine aH 500 Z (MC.keep [500,510,511] (R := eB (!(al (lJ a).length).bad)) (bs := [iB (tj a) (al (lJ a).length) 510 511 503, aE (al (lJ a).length).paths, aG (al (lJ a).length).conds]) Z Z (jH 41 [500,501,502] h1 h2 Tryz.func90 Z Z Z Z fun O hF => ?_))
 refine cu ?_
 refine ae (js O Z (jn (ag (ae (j2 O Z Z (jf [11,8,0,2,3] Z (jn (ab O Z Z (fun hc11 => ?_) (fun hc11 => ?_)))))))))
 cases hc11
 refine ah (ag (ae (j4 O Z Z Z Z (bA O Z (js O Z (jf [29,28,8,0,2,3] Z (jn (am (ar (X := Nat) (fun i => ⟨[(0, .c (.pt 500 0 0)), (3, .c (.fb 91 [.pt 500 0 0])), (28, eI ((lJ a).length : Nat)), (29, eI i)], [(500, iB (tj a) (al i) 901 902 503), (901, aE (al i).paths), (902, aG (al i).conds)]⟩) (fun i => i ≤ (lJ a).length ∧ (al i).bad = false) (fun i => (lJ a).length - i) 0 ((((au [500,501,502] (e' := [(0, _), (3, _), (28, _), (29, _)]) Z Z ⟨Z, Z, Z, Z, trivial⟩ Z).trans (ac 501 901 Z Z)).trans (ac 502 902 Z Z)).trans (Ent.to ⟨Z, Z, Z, Z, trivial⟩ Z)) ?_ (fun i hi => ?_))))))))))
 exact ⟨cI _, h0⟩
 refine ae (js O Z (jn (ag (ab O Z Z (fun hc30 => ?_) (fun hc30 => ?_)))))
 refine ah (ag (am (ae (j2 O Z Z (aQ (j2 O Z Z (ji O Z (jf [34,32,31,30,0,3,28,29] Z (qi O [500,901,902] (bin := [iB (tj a) (al i) 1 2 3, aE (al i).paths, aG (al i).conds]) Z Z Z Z (hal i (by have := aS hc30; omega) hi.2) Z Z Z Z Z Z (B0 := 36000) Z Z (ap ?_))))))))))
 refine jf [31,30,0,3,28,29] Z (aQ (j4 O Z Z Z Z (jf [39,31,30,0,3,28,29] Z (jn (ab O Z Z (fun hc39 => ?_) (fun hc39 => ?_))))))
 refine ae (js O Z (jr ?_))
 have e := tc hst (show (al (i + 1)).bad = true from hc39) (n := (lJ a).length) (by have := aS hc30; omega)
 rw [e]
 refine ⟨.inl Z, _, (ac 36010 510 Z Z).trans (ac 36011 511 Z Z), _, Z, by rw [show (al (i + 1)).bad = true from hc39]; rfl, Z⟩
 refine ah (aj (ji O Z (js O Z (jn ?_))))
 refine ⟨i + 1, (((au [500,36010,36011] (e' := [(0, _), (3, _), (28, _), (29, _)]) Z Z ⟨Z, Z, Z, Z, trivial⟩ Z).trans (ac 36010 901 Z Z)).trans (ac 36011 902 Z Z)).trans (Ent.to ⟨Z, Z, Z, Z, trivial⟩ Z), ⟨by have := aS hc30; omega, hc39⟩, by have := aS hc30; omega⟩
 refine aW (ae (js O Z (jr ?_)))
 obtain rfl : i = (lJ a).length := by have := bB hc30; omega
 refine ⟨.inl Z, _, (ac 901 510 Z Z).trans (ac 902 511 Z Z), _, Z, by rw [hi.2]; rfl, Z⟩
variable {all : Bool}
theorem uJ (hv : du a = false) : MQ h1 h2 49 [aAn a, eB all, eI z] [] (Plain (.tup [.c (.d .nilp), eB false])) := by
 refine MC.data (jB 63 h1 h2 Tryz.func49 Z Z Z fun O hF => ?_)
 have h66 := rU (L := L) h1 h2 hv
 refine ae (jx O Z (ap ?_))
 refine ay (Ent.freeze 3 (e' := [(3, _), (0, _), (1, _), (2, _)]) Z (.cons Z (.c (.box (cs := a.data) Z (aF Z))) (fe [0,1,2] Z)) (.skip .nil)) ?_
 refine ap ?_
 refine j2 O Z Z (jn (ag (ae (js O Z (aN O (B0 := 16000) Z Z Z Z (h66) (aa Z) Z Z Z Z Z Z (ap ?_))))))
 refine j4 O Z Z Z Z (js O Z (jf [9,7,6,3,0,1,2] Z (aQ (j3 O Z Z Z (jf [20,7,6,3,0,1,2] Z (AOps.skip Z Z Z Z Z Z (AOps.skip Z Z Z Z Z Z (jf [22,20,7,6,3,0,1,2] Z (AOps.skip Z Z Z Z Z Z (AOps.step (bm O Z Z Z Z Z) Z Z Z (jf [24,7,6,3,0,1,2] Z (jn (ab O Z Z (fun hc24 => ?_) (fun hc24 => ?_))))))))))))))
 refine ae (j2 O Z Z (jr ?_))
 refine ⟨.inl Z, _, ak, _, Z, ?_⟩
 exact .tup (.cons (.c .d) (.cons (.c .d) .nil))
 exact absurd hc24 (by decide)
theorem uI (hv : du a = true) (hq : fN a.code (qP a.pts) = none) : MQ h1 h2 49 [aAn a, eB all, eI z] [] (Plain (.tup [.c (.d .nilp), eB false])) := by
 refine MC.data (jB 63 h1 h2 Tryz.func49 Z Z Z fun O hF => ?_)
 have h66 := oN (L := L) h1 h2 hv
 rw [hq] at h66
 refine ae (jx O Z (ap ?_))
 refine ay (Ent.freeze 3 (e' := [(3, _), (0, _), (1, _), (2, _)]) Z (.cons Z (.c (.box (cs := a.data) Z (aF Z))) (fe [0,1,2] Z)) (.skip .nil)) ?_
 refine ap ?_
 refine j2 O Z Z (jn (ag (ae (js O Z (aN O (B0 := 16000) Z Z Z Z (h66) (aa Z) Z Z Z Z Z Z (ap ?_))))))
 refine j4 O Z Z Z Z (js O Z (jf [9,7,6,3,0,1,2] Z (aQ (j3 O Z Z Z (jf [20,7,6,3,0,1,2] Z (AOps.skip Z Z Z Z Z Z (AOps.skip Z Z Z Z Z Z (jf [22,20,7,6,3,0,1,2] Z (AOps.skip Z Z Z Z Z Z (AOps.step (bm O Z Z Z Z Z) Z Z Z (jf [24,7,6,3,0,1,2] Z (jn (ab O Z Z (fun hc24 => ?_) (fun hc24 => ?_))))))))))))))
 refine ae (j2 O Z Z (jr ?_))
 refine ⟨.inl Z, _, ak, _, Z, ?_⟩
 exact .tup (.cons (.c .d) (.cons (.c .d) .nil))
 exact absurd hc24 (by decide)
variable {h : List Int}
theorem uH (hv : du a = true) (hq : fN a.code (qP a.pts) = some h) (ho : (bK a).any (fun b => b) = true) : MQ h1 h2 49 [aAn a, eB all, eI z] [] (Plain (.tup [.c (.d .nilp), eB false])) := by
 refine MC.data (jB 63 h1 h2 Tryz.func49 Z Z Z fun O hF => ?_)
 have hva := fE hv
 have h66 := oN (L := L) h1 h2 hv
 rw [hq] at h66
 have h68 := qI (L := L) h1 h2 (a := a) hva.ok.len
 have h80 := hva.ok.len
 have hA : MC Tryz.prog L 88 [.c (.rs 0 0 a.code.length), eB true] [(0, dF (bK a))] (bd (eB true) [(0, dF (bK a))]) := by have h9 := qJ (L := L) h1 h2 (u := bK a) (by rw [cD]; omega); rw [cD, ho] at h9; exact h9
 refine ae (jx O Z (ap ?_))
 refine ay (Ent.freeze 3 (e' := [(3, _), (0, _), (1, _), (2, _)]) Z (.cons Z (.c (.box (cs := a.data) Z (aF Z))) (fe [0,1,2] Z)) (.skip .nil)) ?_
 refine ap ?_
 refine j2 O Z Z (jn (ag (ae (js O Z (aN O (B0 := 16000) Z Z Z Z (h66) (aa Z) Z Z Z Z Z Z (ap ?_))))))
 refine j4 O Z Z Z Z (js O Z (jf [9,7,6,3,0,1,2] Z (aQ (j3 O Z Z Z (jf [20,7,6,3,0,1,2] Z (bQ Z (js O Z (bQ Z (aN O (B0 := 23000) Z Z Z Z (h68) (aa Z) Z Z Z Z Z Z (ap ?_))))))))))
 refine jf [22,20,7,6,3,0,1,2] Z (bQ Z (av O [23000] (bin := [dF (bK a)]) Z Z Z Z (hA) Z Z Z Z Z Z (B0 := 24000) Z Z (ap ?_)))
 refine AOps.step (aJ O Z Z Z Z Z) Z Z Z (jf [24,7,6,3,0,1,2] Z (jn (ab O Z Z (fun hc24 => ?_) (fun hc24 => ?_))))
 refine ae (j2 O Z Z (jr ?_))
 refine ⟨.inl Z, _, ak, _, Z, ?_⟩
 exact .tup (.cons (.c .d) (.cons (.c .d) .nil))
 exact absurd hc24 (by decide)
theorem uF (hv : du a = true) (hq : fN a.code (qP a.pts) = some h) (ho : (bK a).any (fun b => b) = false) (hG : MQ h1 h2 90 [.c (.pt 0 0 0), eB all, eI z, .c (.fb 91 [.pt 0 0 0])] (vf a g0) (bd (eB true) (th a G))) : MQ h1 h2 49 [aAn a, eB all, eI z] [] (bd (.tup [.c (.pt 0 0 0), eB true]) (th a G)) := by
 refine aH 500 Z (MC.keep [500,510,511] (bs := [iB (tj a) G 510 511 503, aE G.paths, aG G.conds]) Z Z (jB 63 h1 h2 Tryz.func49 Z Z Z fun O hF => ?_))
 have hva := fE hv
 have h66 := oN (L := L) h1 h2 hv
 rw [hq] at h66
 have h68 := qI (L := L) h1 h2 (a := a) hva.ok.len
 have h80 := hva.ok.len
 have hA : MC Tryz.prog L 88 [.c (.rs 0 0 a.code.length), eB true] [(0, dF (bK a))] (bd (eB false) [(0, dF (bK a))]) := by have h9 := qJ (L := L) h1 h2 (u := bK a) (by rw [cD]; omega); rw [cD, ho] at h9; exact h9
 have h8 := hva.ok.np
 refine ae (jx O Z (ap ?_))
 refine ay (Ent.freeze 3 (e' := [(3, _), (0, _), (1, _), (2, _)]) Z (.cons Z (.c (.box (cs := a.data) Z (aF Z))) (fe [0,1,2] Z)) (.skip .nil)) ?_
 refine ap ?_
 refine j2 O Z Z (jn (ag (ae (js O Z (aN O (B0 := 16000) Z Z Z Z (h66) (aa Z) Z Z Z Z Z Z (ap ?_))))))
 refine j4 O Z Z Z Z (js O Z (jf [9,7,6,3,0,1,2] Z (aQ (j3 O Z Z Z (jf [20,7,6,3,0,1,2] Z (bQ Z (js O Z (bQ Z (aN O (B0 := 23000) Z Z Z Z (h68) (aa Z) Z Z Z Z Z Z (ap ?_))))))))))
 refine jf [22,20,7,6,3,0,1,2] Z (bQ Z (av O [23000] (bin := [dF (bK a)]) Z Z Z Z (hA) Z Z Z Z Z Z (B0 := 24000) Z Z (ap ?_)))
 refine AOps.step (aJ O Z Z Z Z Z) Z Z Z (jf [24,7,6,3,0,1,2] Z (jn (ab O Z Z (fun hc24 => ?_) (fun hc24 => ?_))))
 exact absurd hc24 (by decide)
 refine ah (ae (j3 O Z Z Z (jf [27,25,7,6,3,0,1,2] Z (AOps.heap (dy O Z Z Z Z Z Z Z Z Z Z Z) Z (ap ?_)))))
 refine j2 O Z Z (jf [30,7,6,3,0,1,2] Z (jx O Z (ap ?_)))
 refine js O Z (jf [10,7,6,3,0,1,2] Z (jn (ag (ae (j2 O Z Z ?_)))))
 first | refine bA O Z ?_ | refine js O Z ?_ | refine bb O Z Z ?_
 refine js O Z (jn (am (ar (X := Nat) (fun i => ⟨[(1, eB all), (2, eI z), (10, .c (.pt 31 0 0)), (33, .c (.d (fQ a.pts))), (34, eI a.pts.length), (35, eI i)], [(31, .box [.d .nils, .rs 901 0 (i + 1), .d .nils, .d .nils, .d (.bool false), .d (cY a.pre), .d (cY a.post), .d (i7 a.code), .d (fQ a.pts)]), (901, .row false 1 ((a.pre :: (a.pts.take i).map (·.fs)).map fun f => [cY f]))]⟩) (fun i => i ≤ a.pts.length) (fun i => a.pts.length - i) 0 (((au [31,28] (e' := [(1, _), (2, _), (10, _), (33, _), (34, _), (35, _)]) Z Z ⟨Z, Z, Z, Z, Z, Z, trivial⟩ Z).trans (ac 28 901 Z Z)).trans (Ent.to ⟨Z, Z, Z, Z, Z, Z, trivial⟩ Z)) ?_ (fun i hi => ?_))))
 exact cI _
 refine ae (js O Z (jn (ag (ab O Z Z (fun hc36 => ?_) (fun hc36 => ?_)))))
 refine ah (ag (am (ae ?_)))
 have hil : i < a.pts.length := by have := aS hc36; omega
 refine AOps.step (aP O Z Z Z Z Z Z Z Z (cQ hil)) Z Z Z (js O Z (jf [38,36,1,2,10,33,34,35] Z (jl O Z (ap ?_))))
 refine jo O Z (ap ?_)
 refine jn (kR O [_,_,_,_,_,_,_,_,_,_,_,_,_,_] [pn [] 0 2, pn [] 0 1, pn [1] 0 1, pn [1,2] 0 1, pn [1,2,3] 0 1, pn (rg 1 4) 0 1, pn [] 0 0, pn [6] 0 0, pe [6,7] 0, pe (rg 1 8) 1, pn (rg 0 10) 2 2, pn (rg 0 11) 2 2, pn (rg 0 12) 2 2, pe (rg 0 13) 2] [8,9,13] [_,_,_,_] [[], [901], []] (ai (ka O Z Z (ka O Z Z (kw O Z Z))) (ai (ka O Z Z (kw O Z Z)) (ai (ka O Z Z (kw O Z Z)) (ai (ka O Z Z (kw O Z Z)) (ai (ka O Z Z (kw O Z Z)) (ai (ka O Z Z (kw O Z Z)) (ka O Z Z (ka O Z Z (ai (ai (aM (bS O Z Z Z Z Z Z Z Z Z Z Z Z Z Z)) Z) (ai (ai (bI (own := false) (xs := ((a.pre :: (a.pts.take i).map (·.fs)).map fun f => [cY f])) (ys := [[cY (a.pts.getD i default).fs]]) (zs := ((a.pre :: (a.pts.take (i + 1)).map (·.fs)).map fun f => [cY f])) (n := i + 2) O Z Z Z Z Z Z Z Z Z Z Z Z Z Z Z Z (.row Z (by simp; omega)) (.whole Z Z (.inr ⟨Z, Z⟩)) (by simp) Z (by simp; omega) (by simp; omega) (by rw [List.take_succ_eq_append_getElem hil, aw hil, List.map_append, ← List.cons_append, List.map_append]; rfl) (by simp; omega) Z) Z) (ka O Z Z (ka O Z Z (ka O Z Z (ai (ai (aM (eS O Z Z Z)) Z) trivial)))))))))))))) ?_)
 refine jw [12,38,36,1,2,10,33,34,35] Z (cu ?_)
 refine aj ?_
 first | refine ji O Z ?_ | refine bb O Z Z ?_
 refine js O Z (jn ?_)
 refine ⟨i + 1, ((au [31,48] (e' := [(1, _), (2, _), (10, _), (33, _), (34, _), (35, _)]) Z Z ⟨Z, Z, Z, Z, Z, Z, trivial⟩ Z).trans (ac 48 901 Z Z)).trans (Ent.to ⟨Z, Z, Z, Z, Z, Z, trivial⟩ Z), by omega, by omega⟩
 refine aW (ag (ae ?_))
 obtain rfl : i = a.pts.length := by have := bB hc36; omega
 rw [List.take_length]
 refine ay (Ent.freeze 901 (e' := [(1, _), (2, _), (10, _)]) Z (fe [1,2,10] Z) (.cons Z (.box (.cons (.keep Z) (.cons (.row Z (by simp)) (fk Z)))) (.skip .nil))) ?_
 refine ay (cw 31 902 5 true 2 Z Z Z) (ap ?_)
 refine ay (cw 31 904 3 true 3 Z Z Z) (ap ?_)
 refine j4 O Z Z Z Z (j2 O Z Z (AOps.step (kL O Z Z Z Z Z) Z Z Z (jf [59,57,56,55,1,2,10] Z (av O [31,902,904] (bin := [iB (tj a) g0 1 2 3, aE g0.paths, aG g0.conds]) Z Z Z Z (hG) Z Z Z Z Z Z (B0 := 61000) Z Z (ap ?_)))))
 refine js O Z (jf [61,1,2,10] Z (jn (ab O Z Z (fun hc61 => ?_) (fun hc61 => ?_))))
 exact absurd hc61 (by decide)
 refine ah (ae (j3 O Z Z Z (jr ?_)))
 refine ⟨.inl Z, _, ((ac 31 500 Z Z).trans (ac 61010 510 Z Z)).trans (ac 61011 511 Z Z), _, Z, Z, Z⟩
theorem uG (hv : du a = true) (hq : fN a.code (qP a.pts) = some h) (ho : (bK a).any (fun b => b) = false) (hG : MQ h1 h2 90 [.c (.pt 0 0 0), eB all, eI z, .c (.fb 91 [.pt 0 0 0])] (vf a g0) (bd (eB false) (th a G))) : MQ h1 h2 49 [aAn a, eB all, eI z] [] (Plain (.tup [.c (.d .nilp), eB false])) := by
 refine MC.data (jB 63 h1 h2 Tryz.func49 Z Z Z fun O hF => ?_)
 have hva := fE hv
 have h66 := oN (L := L) h1 h2 hv
 rw [hq] at h66
 have h68 := qI (L := L) h1 h2 (a := a) hva.ok.len
 have h80 := hva.ok.len
 have hA : MC Tryz.prog L 88 [.c (.rs 0 0 a.code.length), eB true] [(0, dF (bK a))] (bd (eB false) [(0, dF (bK a))]) := by have h9 := qJ (L := L) h1 h2 (u := bK a) (by rw [cD]; omega); rw [cD, ho] at h9; exact h9
 have h8 := hva.ok.np
 refine ae (jx O Z (ap ?_))
 refine ay (Ent.freeze 3 (e' := [(3, _), (0, _), (1, _), (2, _)]) Z (.cons Z (.c (.box (cs := a.data) Z (aF Z))) (fe [0,1,2] Z)) (.skip .nil)) ?_
 refine ap ?_
 refine j2 O Z Z (jn (ag (ae (js O Z (aN O (B0 := 16000) Z Z Z Z (h66) (aa Z) Z Z Z Z Z Z (ap ?_))))))
 refine j4 O Z Z Z Z (js O Z (jf [9,7,6,3,0,1,2] Z (aQ (j3 O Z Z Z (jf [20,7,6,3,0,1,2] Z (bQ Z (js O Z (bQ Z (aN O (B0 := 23000) Z Z Z Z (h68) (aa Z) Z Z Z Z Z Z (ap ?_))))))))))
 refine jf [22,20,7,6,3,0,1,2] Z (bQ Z (av O [23000] (bin := [dF (bK a)]) Z Z Z Z (hA) Z Z Z Z Z Z (B0 := 24000) Z Z (ap ?_)))
 refine AOps.step (aJ O Z Z Z Z Z) Z Z Z (jf [24,7,6,3,0,1,2] Z (jn (ab O Z Z (fun hc24 => ?_) (fun hc24 => ?_))))
 exact absurd hc24 (by decide)
 refine ah (ae (j3 O Z Z Z (jf [27,25,7,6,3,0,1,2] Z (AOps.heap (dy O Z Z Z Z Z Z Z Z Z Z Z) Z (ap ?_)))))
 refine j2 O Z Z (jf [30,7,6,3,0,1,2] Z (jx O Z (ap ?_)))
 refine js O Z (jf [10,7,6,3,0,1,2] Z (jn (ag (ae (j2 O Z Z ?_)))))
 first | refine bA O Z ?_ | refine js O Z ?_ | refine bb O Z Z ?_
 refine js O Z (jn (am (ar (X := Nat) (fun i => ⟨[(1, eB all), (2, eI z), (10, .c (.pt 31 0 0)), (33, .c (.d (fQ a.pts))), (34, eI a.pts.length), (35, eI i)], [(31, .box [.d .nils, .rs 901 0 (i + 1), .d .nils, .d .nils, .d (.bool false), .d (cY a.pre), .d (cY a.post), .d (i7 a.code), .d (fQ a.pts)]), (901, .row false 1 ((a.pre :: (a.pts.take i).map (·.fs)).map fun f => [cY f]))]⟩) (fun i => i ≤ a.pts.length) (fun i => a.pts.length - i) 0 (((au [31,28] (e' := [(1, _), (2, _), (10, _), (33, _), (34, _), (35, _)]) Z Z ⟨Z, Z, Z, Z, Z, Z, trivial⟩ Z).trans (ac 28 901 Z Z)).trans (Ent.to ⟨Z, Z, Z, Z, Z, Z, trivial⟩ Z)) ?_ (fun i hi => ?_))))
 exact cI _
 refine ae (js O Z (jn (ag (ab O Z Z (fun hc36 => ?_) (fun hc36 => ?_)))))
 refine ah (ag (am (ae ?_)))
 have hil : i < a.pts.length := by have := aS hc36; omega
 refine AOps.step (aP O Z Z Z Z Z Z Z Z (cQ hil)) Z Z Z (js O Z (jf [38,36,1,2,10,33,34,35] Z (jl O Z (ap ?_))))
 refine jo O Z (ap ?_)
 refine jn (kR O [_,_,_,_,_,_,_,_,_,_,_,_,_,_] [pn [] 0 2, pn [] 0 1, pn [1] 0 1, pn [1,2] 0 1, pn [1,2,3] 0 1, pn (rg 1 4) 0 1, pn [] 0 0, pn [6] 0 0, pe [6,7] 0, pe (rg 1 8) 1, pn (rg 0 10) 2 2, pn (rg 0 11) 2 2, pn (rg 0 12) 2 2, pe (rg 0 13) 2] [8,9,13] [_,_,_,_] [[], [901], []] (ai (ka O Z Z (ka O Z Z (kw O Z Z))) (ai (ka O Z Z (kw O Z Z)) (ai (ka O Z Z (kw O Z Z)) (ai (ka O Z Z (kw O Z Z)) (ai (ka O Z Z (kw O Z Z)) (ai (ka O Z Z (kw O Z Z)) (ka O Z Z (ka O Z Z (ai (ai (aM (bS O Z Z Z Z Z Z Z Z Z Z Z Z Z Z)) Z) (ai (ai (bI (own := false) (xs := ((a.pre :: (a.pts.take i).map (·.fs)).map fun f => [cY f])) (ys := [[cY (a.pts.getD i default).fs]]) (zs := ((a.pre :: (a.pts.take (i + 1)).map (·.fs)).map fun f => [cY f])) (n := i + 2) O Z Z Z Z Z Z Z Z Z Z Z Z Z Z Z Z (.row Z (by simp; omega)) (.whole Z Z (.inr ⟨Z, Z⟩)) (by simp) Z (by simp; omega) (by simp; omega) (by rw [List.take_succ_eq_append_getElem hil, aw hil, List.map_append, ← List.cons_append, List.map_append]; rfl) (by simp; omega) Z) Z) (ka O Z Z (ka O Z Z (ka O Z Z (ai (ai (aM (eS O Z Z Z)) Z) trivial)))))))))))))) ?_)
 refine jw [12,38,36,1,2,10,33,34,35] Z (cu ?_)
 refine aj ?_
 first | refine ji O Z ?_ | refine bb O Z Z ?_
 refine js O Z (jn ?_)
 refine ⟨i + 1, ((au [31,48] (e' := [(1, _), (2, _), (10, _), (33, _), (34, _), (35, _)]) Z Z ⟨Z, Z, Z, Z, Z, Z, trivial⟩ Z).trans (ac 48 901 Z Z)).trans (Ent.to ⟨Z, Z, Z, Z, Z, Z, trivial⟩ Z), by omega, by omega⟩
 refine aW (ag (ae ?_))
 obtain rfl : i = a.pts.length := by have := bB hc36; omega
 rw [List.take_length]
 refine ay (Ent.freeze 901 (e' := [(1, _), (2, _), (10, _)]) Z (fe [1,2,10] Z) (.cons Z (.box (.cons (.keep Z) (.cons (.row Z (by simp)) (fk Z)))) (.skip .nil))) ?_
 refine ay (cw 31 902 5 true 2 Z Z Z) (ap ?_)
 refine ay (cw 31 904 3 true 3 Z Z Z) (ap ?_)
 refine j4 O Z Z Z Z (j2 O Z Z (AOps.step (kL O Z Z Z Z Z) Z Z Z (jf [59,57,56,55,1,2,10] Z (av O [31,902,904] (bin := [iB (tj a) g0 1 2 3, aE g0.paths, aG g0.conds]) Z Z Z Z (hG) Z Z Z Z Z Z (B0 := 61000) Z Z (ap ?_)))))
 refine js O Z (jf [61,1,2,10] Z (jn (ab O Z Z (fun hc61 => ?_) (fun hc61 => ?_))))
 refine ae (j2 O Z Z (jr ?_))
 refine ⟨.inl Z, _, ak, _, Z, ?_⟩
 exact .tup (.cons (.c .d) (.cons (.c .d) .nil))
 exact absurd hc61 (by decide)
theorem uO (hP : MQ h1 h2 49 [aAn a, eB true, eI 0] [] (bd (.tup [.c (.pt 0 0 0), eB true]) (th a g))) : MQ h1 h2 19 [aAn a] [] (Rows (.tup [.c (.rs 0 0 g.paths.length), eB true]) [aE g.paths]) := by
 refine bq (jB 18 h1 h2 Tryz.func19 Z Z Z fun O hF => ?_)
 refine ae (jx O Z (ap ?_))
 refine ay (Ent.freeze 1 (e' := [(1, _), (0, _)]) Z (.cons Z (.c (.box (cs := a.data) Z (aF Z))) (fe [0] Z)) (.skip .nil)) ?_
 refine ap ?_
 refine j2 O Z Z (aQ (js O Z (jf [7,3,2,0] Z (av O [] (bin := []) Z Z Z Z (hP) Z Z Z Z Z Z (B0 := 9000) Z Z (ap ?_)))))
 refine j4 O Z Z Z Z (js O Z (jf [5,4,3,2,0] Z (jn (ag (ae (j2 O Z Z (jf [12,4,3,2,0] Z (jn (ab O Z Z (fun hc12 => ?_) (fun hc12 => ?_))))))))))
 exact absurd hc12 (by decide)
 refine ah (ae (j4 O Z Z Z Z (j3 O Z Z Z (jf [3,2,0] Z (jr ?_)))))
 refine ⟨.inl Z, _, ak, _, Z, [9010], by decide, Z, Z, Z⟩
theorem nF (hP : MQ h1 h2 49 [aAn a, eB true, eI 0] [] (Plain (.tup [.c (.d .nilp), eB false]))) : MQ h1 h2 19 [aAn a] [] (Rows (.tup [.c (.d .nils), eB false]) []) := by
 refine bq (jB 18 h1 h2 Tryz.func19 Z Z Z fun O hF => ?_)
 refine ae (jx O Z (ap ?_))
 refine ay (Ent.freeze 1 (e' := [(1, _), (0, _)]) Z (.cons Z (.c (.box (cs := a.data) Z (aF Z))) (fe [0] Z)) (.skip .nil)) ?_
 refine ap ?_
 refine j2 O Z Z (aQ (js O Z (jf [7,3,2,0] Z (az O Z Z Z Z (hP) (aa Z) Z Z Z Z (B0 := 9000) Z Z (j4 O Z Z Z Z (js O Z (jf [5,4,3,2,0] Z (jn (ag (ae (j2 O Z Z (jf [12,4,3,2,0] Z (jn (ab O Z Z (fun hc12 => ?_) (fun hc12 => ?_)))))))))))))))
 refine ae (j2 O Z Z (jr ?_))
 refine ⟨.inl Z, _, ak, _, Z, [], by decide, Z, Z, Z⟩
 exact absurd hc12 (by decide)
theorem pk {a : An} (h : dr a = true) : ∃ x, fN a.code (qP a.pts) = some x ∧ (bK a).any (fun b => b) = false := by
 unfold dr at h
 rw [bv, po] at h
 obtain ⟨x, hx⟩ := Option.isSome_iff_exists.1 h.1
 exact ⟨x, hx, by simpa using h.2⟩
theorem uw {a : An} (h : dr a = false) : fN a.code (qP a.pts) = none ∨ ∃ x, fN a.code (qP a.pts) = some x ∧ (bK a).any (fun b => b) = true := by
 cases hq : fN a.code (qP a.pts) with
 | none => exact .inl Z
 | some x =>
  refine .inr ⟨x, Z, ?_⟩
  unfold dr at h
  rw [hq, po] at h
  simpa using h
theorem rd {L : Nat} (h1 : 4096 ≤ L) (h2 : L ≤ 1073741824) {a : An} {all : Bool} {z : Int} (h : du a = true → dr a = false) : MC Tryz.prog L 49 [aAn a, eB all, eI z] [] (Plain (.tup [.c (.d .nilp), eB false])) := by
 cases hv : du a with
 | false => exact uJ h1 h2 hv
 | true =>
  rcases uw (h hv) with hq | ⟨x, hq, ho⟩
  exact uI h1 h2 hv hq
  exact uH h1 h2 hv hq ho
theorem lU {a : An} : (lJ a).length = a.pts.length + 1 := by simp
theorem tZ {L : Nat} (h1 : 4096 ≤ L) (h2 : L ≤ 1073741824) (hL : 100000 ≤ L) {a : An} (hv : du a = true) (hcl : dr a = true) : MC Tryz.prog L 90 [.c (.pt 0 0 0), eB true, eI 0, .c (.fb 91 [.pt 0 0 0])] (vf a g0) (bd (eB (!(j0 a (a.pts.length + 1)).bad)) (th a (j0 a (a.pts.length + 1)))) := by
 have hva := fE hv
 have h8 := hva.ok.np
 have h := uZ (L := L) h1 h2 (a := a) (k := 0) (al := j0 a) (by rw [lU]; omega) (fun i hb => by rw [j0]; exact l9 hb) Z
  (fun i hi hb => by rw [lU] at hi; rw [j0]; exact wV h1 h2 hva hcl hL (by omega) (ri hva i))
 rw [lU] at h
 exact h
theorem sZ {L : Nat} (h1 : 4096 ≤ L) (h2 : L ≤ 1073741824) (hL : 100000 ≤ L) {a : An} (hv : du a = true) (hcl : dr a = true) (hb : (j0 a (a.pts.length + 1)).bad = false) : MC Tryz.prog L 49 [aAn a, eB true, eI 0] [] (bd (.tup [.c (.pt 0 0 0), eB true]) (th a (j0 a (a.pts.length + 1)))) := by
 obtain ⟨x, hq, ho⟩ := pk hcl
 have h := tZ h1 h2 hL hv hcl
 rw [hb] at h
 exact uF h1 h2 hv hq ho h
theorem rQ {L : Nat} (h1 : 4096 ≤ L) (h2 : L ≤ 1073741824) (hL : 100000 ≤ L) {a : An} (hv : du a = true) (hcl : dr a = true) (hb : (j0 a (a.pts.length + 1)).bad = true) : MC Tryz.prog L 49 [aAn a, eB true, eI 0] [] (Plain (.tup [.c (.d .nilp), eB false])) := by
 obtain ⟨x, hq, ho⟩ := pk hcl
 have h := tZ h1 h2 hL hv hcl
 rw [hb] at h
 exact uG h1 h2 hv hq ho h
end Go.Al
