/- The law, walked. -/
import Derived.Test.YtbkloknmpkgmbaaGreatS
import Derived.Test.YtbkloknmpkgmbaaGreatI
import Derived.Test.YtbkloknmpkgmbaaGreatF
set_option linter.unusedVariables false
set_option linter.unusedSimpArgs false
set_option maxRecDepth 10000
set_option maxHeartbeats 4000000
open Go.Proofs
namespace Go.Al
variable {L : Nat} (h1 : 4096 ≤ L) (h2 : L ≤ 1073741824)
variable {xs ys : List Int}
theorem ve (h0 : (bif decide ((1048576 : Int) < xs.length) then true else decide ((1048576 : Int) < ys.length)) = true) : MQ h1 h2 4 [.c (.d (bys xs)), .c (.d (bys ys))] [] (Plain (eB true)) := by
 refine MC.data (jB 217 h1 h2 Tryz.func4 Z Z Z fun O hF => ?_)
 refine ag (js O Z (jn (ah (ag (j2 O Z Z (aA O Z Z Z Z (pU (xs := xs) (ys := ys) h1 h2) (ac Z) Z Z Z Z Z (B0 := 31000) Z (jf [30,4,0,1] Z (jn (af O Z Z (fun hc30 => ?_) (fun hc30 => ?_))))))))))
 refine ag (js O Z (jr ?_))
 refine ⟨.inl Z, _, ar, _, Z, ?_⟩
 exact .v (.c .d)
 exact absurd hc30 (by rw [h0]; decide)
variable {p : Pm}
theorem vd {d1 d2 : D} {ps : List Pth} (h0 : (bif decide ((1048576 : Int) < xs.length) then true else decide ((1048576 : Int) < ys.length)) = false) (hB : MQ h1 h2 15 [.c (.d (bys xs))] [] (Plain (fo p))) (hLo : MQ h1 h2 16 [fo p] [] (Plain (.tup [.c (.d d1), eB true]))) (hP : MQ h1 h2 9 [fo p] [] (Rows (.tup [.c (.rs 0 0 ps.length), eB true]) [aB ps])) (hC : MQ h1 h2 17 [fo p] [] (Rows (.tup [.c (.d .nils), eB false]) [])) (hS : MQ h1 h2 18 [fo p] [] (Plain (.tup [.c (.d d2), eB false]))) : MQ h1 h2 4 [.c (.d (bys xs)), .c (.d (bys ys))] [] (Plain (eB true)) := by
 refine MC.data (jB 217 h1 h2 Tryz.func4 Z Z Z fun O hF => ?_)
 refine ag (js O Z (jn (ah (ag (j2 O Z Z (aA O Z Z Z Z (pU (xs := xs) (ys := ys) h1 h2) (ac Z) Z Z Z Z Z (B0 := 31000) Z (jf [30,4,0,1] Z (jn (af O Z Z (fun hc30 => ?_) (fun hc30 => ?_))))))))))
 exact absurd hc30 (by rw [h0]; decide)
 refine an (ag (js O Z (jf [31,4,0,1] Z (ak O Z Z Z Z (hB) (ac Z) Z Z Z Z (B0 := 33000) Z Z (jf [32,4,0,1] Z (jl O Z (av ?_)))))))
 refine jo O Z (av ?_)
 refine bf (js O Z (ak O Z Z Z Z (hLo) (ac Z) Z Z Z Z (B0 := 36000) Z Z (j4 O Z Z Z Z (js O Z (jf [7,6,5,32,4,0,1] Z (bf (js O Z (cK O (B0 := 41000) Z Z Z Z (hP) (ac Z) Z Z Z Z Z Z (av ?_)))))))))
 refine j4 O Z Z Z Z (js O Z (jf [9,8,7,6,5,32,4,0,1] Z (bf (js O Z (cK O (B0 := 46000) Z Z Z Z (hC) (ac Z) Z Z Z Z Z Z (av ?_))))))
 refine j4 O Z Z Z Z (js O Z (jf [11,10,9,8,7,6,5,32,4,0,1] Z (bf (js O Z (ak O Z Z Z Z (hS) (ac Z) Z Z Z Z (B0 := 51000) Z Z (j4 O Z Z Z Z (js O Z (jf [13,11,10,9,8,7,6,5,32,4,0,1] Z (jn (ah (ag (j3 O Z Z Z (jf [55,13,11,10,9,8,6,5,32,4,0,1] Z (ax 3 Z Z Z (fun hx => ab hx Z Z Z (V O Z) Z Z ( ab hx Z Z Z (V O Z) Z Z ( ab hx Z Z Z (V O Z) Z Z ( AN.nil)))) Z Z ?_))))))))))))))
 first | refine aa (aQ O Z Z Z Z Z) Z Z Z ?_ | refine aa (Val.pickB O Z Z Z Z Z) Z Z Z ?_ | refine aa (ao O Z Z Z Z Z) Z Z Z ?_
 refine js O Z (jf [60,11,10,9,8,6,5,32,4,0,1] Z (ax 5 Z Z Z (fun hx => ab hx Z Z Z (V O Z) Z Z ( ab hx Z Z Z (V O Z) Z Z ( gC 2 Z Z Z Z (fun hx' => ab hx' Z Z Z (V O Z) Z Z ( ab hx' Z Z Z (V O Z) Z Z ( AN.nil))) Z Z ( ab hx Z Z Z (ao O Z Z Z Z Z) Z Z ( AN.nil))))) Z Z ?_))
 first | refine aa (aQ O Z Z Z Z Z) Z Z Z ?_ | refine aa (Val.pickB O Z Z Z Z Z) Z Z Z ?_ | refine aa (ao O Z Z Z Z Z) Z Z Z ?_
 refine jf [66,11,10,8,6,5,32,4,0,1] Z (jn (af O Z Z (fun hc66 => ?_) (fun hc66 => ?_)))
 exact absurd hc66 (by decide)
 refine an (ah (ag (j2 O Z Z (jf [68,11,10,8,6,5,32,4,0,1] Z (jn (af O Z Z (fun hc68 => ?_) (fun hc68 => ?_)))))))
 refine ag (js O Z (jr ?_))
 refine ⟨.inl Z, _, ar, _, Z, ?_⟩
 exact .v (.c .d)
 exact absurd hc68 (by decide)
theorem vf {d1 d2 : D} (h0 : (bif decide ((1048576 : Int) < xs.length) then true else decide ((1048576 : Int) < ys.length)) = false) (hB : MQ h1 h2 15 [.c (.d (bys xs))] [] (Plain (fo p))) (hLo : MQ h1 h2 16 [fo p] [] (Plain (.tup [.c (.d d1), eB true]))) (hP : MQ h1 h2 9 [fo p] [] (Rows (.tup [.c (.d .nils), eB false]) [])) (hC : MQ h1 h2 17 [fo p] [] (Rows (.tup [.c (.d .nils), eB false]) [])) (hS : MQ h1 h2 18 [fo p] [] (Plain (.tup [.c (.d d2), eB false]))) : MQ h1 h2 4 [.c (.d (bys xs)), .c (.d (bys ys))] [] (Plain (eB true)) := by
 refine MC.data (jB 217 h1 h2 Tryz.func4 Z Z Z fun O hF => ?_)
 refine ag (js O Z (jn (ah (ag (j2 O Z Z (aA O Z Z Z Z (pU (xs := xs) (ys := ys) h1 h2) (ac Z) Z Z Z Z Z (B0 := 31000) Z (jf [30,4,0,1] Z (jn (af O Z Z (fun hc30 => ?_) (fun hc30 => ?_))))))))))
 exact absurd hc30 (by rw [h0]; decide)
 refine an (ag (js O Z (jf [31,4,0,1] Z (ak O Z Z Z Z (hB) (ac Z) Z Z Z Z (B0 := 33000) Z Z (jf [32,4,0,1] Z (jl O Z (av ?_)))))))
 refine jo O Z (av ?_)
 refine bf (js O Z (ak O Z Z Z Z (hLo) (ac Z) Z Z Z Z (B0 := 36000) Z Z (j4 O Z Z Z Z (js O Z (jf [7,6,5,32,4,0,1] Z (bf (js O Z (cK O (B0 := 41000) Z Z Z Z (hP) (ac Z) Z Z Z Z Z Z (av ?_)))))))))
 refine j4 O Z Z Z Z (js O Z (jf [9,8,7,6,5,32,4,0,1] Z (bf (js O Z (cK O (B0 := 46000) Z Z Z Z (hC) (ac Z) Z Z Z Z Z Z (av ?_))))))
 refine j4 O Z Z Z Z (js O Z (jf [11,10,9,8,7,6,5,32,4,0,1] Z (bf (js O Z (ak O Z Z Z Z (hS) (ac Z) Z Z Z Z (B0 := 51000) Z Z (j4 O Z Z Z Z (js O Z (jf [13,11,10,9,8,7,6,5,32,4,0,1] Z (jn (ah (ag (j3 O Z Z Z (jf [55,13,11,10,9,8,6,5,32,4,0,1] Z (ax 3 Z Z Z (fun hx => ab hx Z Z Z (V O Z) Z Z ( ab hx Z Z Z (V O Z) Z Z ( ab hx Z Z Z (V O Z) Z Z ( AN.nil)))) Z Z ?_))))))))))))))
 first | refine aa (aQ O Z Z Z Z Z) Z Z Z ?_ | refine aa (Val.pickB O Z Z Z Z Z) Z Z Z ?_ | refine aa (ao O Z Z Z Z Z) Z Z Z ?_
 refine js O Z (jf [60,11,10,9,8,6,5,32,4,0,1] Z (ax 5 Z Z Z (fun hx => ab hx Z Z Z (V O Z) Z Z ( ab hx Z Z Z (V O Z) Z Z ( gC 2 Z Z Z Z (fun hx' => ab hx' Z Z Z (V O Z) Z Z ( ab hx' Z Z Z (V O Z) Z Z ( AN.nil))) Z Z ( ab hx Z Z Z (ao O Z Z Z Z Z) Z Z ( AN.nil))))) Z Z ?_))
 first | refine aa (aQ O Z Z Z Z Z) Z Z Z ?_ | refine aa (Val.pickB O Z Z Z Z Z) Z Z Z ?_ | refine aa (ao O Z Z Z Z Z) Z Z Z ?_
 refine jf [66,11,10,8,6,5,32,4,0,1] Z (jn (af O Z Z (fun hc66 => ?_) (fun hc66 => ?_)))
 exact absurd hc66 (by decide)
 refine an (ah (ag (j2 O Z Z (jf [68,11,10,8,6,5,32,4,0,1] Z (jn (af O Z Z (fun hc68 => ?_) (fun hc68 => ?_)))))))
 refine ag (js O Z (jr ?_))
 refine ⟨.inl Z, _, ar, _, Z, ?_⟩
 exact .v (.c .d)
 exact absurd hc68 (by decide)
structure StW (L : Nat) (p : Pm) (N : Nat) (F : Nat → List Tm) (q : Nat → List Pth) (c : Nat → List Sq) (pS : Nat → List Pth) (cS : Nat → List Sq) (P : List Pth) (C : List Sq) : Prop where
  f : ∀ n, n < N + 1 → MC Tryz.prog L 19 [fo p, eI ((n : Int) - 1)] [] (Plain (.tup [b0 (F n), eB true]))
  ps : ∀ n, n < N + 1 → MC Tryz.prog L 20 [fo p, eI ((n : Int) - 1)] [] (Rows (.tup [.c (.rs 0 0 (q n).length), eB true]) [aB (q n)])
  cs : ∀ n, n < N + 1 → MC Tryz.prog L 21 [fo p, eI ((n : Int) - 1)] [] (Rows (.tup [.c (.rs 0 0 (c n).length), eB true]) [aD (c n)])
  p0 : pS 0 = []
  c0 : cS 0 = []
  pn : ∀ n, n < N + 1 → pS (n + 1) = pS n ++ q n
  cn : ∀ n, n < N + 1 → cS (n + 1) = cS n ++ c n
  pe : pS (N + 1) = P
  ce : cS (N + 1) = C
  pl : P.length ≤ 600000000
  cl : C.length ≤ L
  nl : N ≤ 1000
  cp : ∀ n, n ≤ N + 1 → cS n <+: C
  pp : ∀ n, n ≤ N + 1 → pS n <+: P
  frm : ∀ n, n < N + 1 → ∀ r ∈ q n, r.frm = (n : Int) - 1 ∧ F n <+: r.facts
theorem tG {α : Type} [Inhabited α] {P xs ys zs : List α} {i : Nat} (h : xs ++ ys ++ zs = P) (hi : i < ys.length) : P.getD (xs.length + i) default = ys.getD i default := by
 subst h
 rw [eV]
 simp only [List.getD_eq_getElem?_getD]
 rw [List.getElem?_append_right (by omega), show xs.length + i - xs.length = i by omega, List.getElem?_append_left hi]
theorem sq {α : Type} {xs ys : List α} (h : xs <+: ys) : ys.take xs.length = xs := by
 obtain ⟨zs, rfl⟩ := h; simp
theorem xN {N : Nat} {F : Nat → List Tm} {q : Nat → List Pth} {c : Nat → List Sq} {pS : Nat → List Pth} {cS : Nat → List Sq} {P : List Pth} {C : List Sq} {lp : List Lp} (h0 : (bif decide ((1048576 : Int) < xs.length) then true else decide ((1048576 : Int) < ys.length)) = false) (hB : MQ h1 h2 15 [.c (.d (bys xs))] [] (Plain (fo p))) (hLo : MQ h1 h2 16 [fo p] [] (Plain (.tup [.c (.d (.slc 1 (lp.map aC))), eB true]))) (hN : lp.length = N) (hP : MQ h1 h2 9 [fo p] [] (Rows (.tup [.c (.rs 0 0 P.length), eB true]) [aB P])) (hC : MQ h1 h2 17 [fo p] [] (Rows (.tup [.c (.rs 0 0 C.length), eB true]) [aD C])) (hS : MQ h1 h2 18 [fo p] [] (Plain (.tup [.c (.d (lO C)), eB true]))) (w : StW L p N F q c pS cS P C) (hy : ∀ n ∈ ys, 0 ≤ n ∧ n ≤ 255) (hpre : ∀ t ∈ p.pre, t.term = true) (hH : MQ h1 h2 23 [fo p, eI (-1), wi (mF ys p.pre)] [] (Plain (.tup [eB (gm p.pre (mF ys p.pre).vars), eB true]))) : MQ h1 h2 4 [.c (.d (bys xs)), .c (.d (bys ys))] [] (Plain (eB true)) := by
 refine MC.data (jB 217 h1 h2 Tryz.func4 Z Z Z fun O hF => ?_)
 refine ag (js O Z (jn (ah (ag (j2 O Z Z (aA O Z Z Z Z (pU (xs := xs) (ys := ys) h1 h2) (ac Z) Z Z Z Z Z (B0 := 31000) Z (jf [30,4,0,1] Z (jn (af O Z Z (fun hc30 => ?_) (fun hc30 => ?_))))))))))
 exact absurd hc30 (by rw [h0]; decide)
 refine an (ag (js O Z (jf [31,4,0,1] Z (ak O Z Z Z Z (hB) (ac Z) Z Z Z Z (B0 := 33000) Z Z (jf [32,4,0,1] Z (jl O Z (av ?_)))))))
 refine jo O Z (av ?_)
 refine bf (js O Z (ak O Z Z Z Z (hLo) (ac Z) Z Z Z Z (B0 := 36000) Z Z (j4 O Z Z Z Z (js O Z (jf [7,6,5,32,4,0,1] Z (bf (js O Z (cK O (B0 := 41000) Z Z Z Z (hP) (ac Z) Z Z Z Z Z Z (av ?_)))))))))
 refine j4 O Z Z Z Z (js O Z (jf [9,8,7,6,5,32,4,0,1] Z (bf (js O Z (cK O (B0 := 46000) Z Z Z Z (hC) (ac Z) Z Z Z Z Z Z (av ?_))))))
 refine j4 O Z Z Z Z (js O Z (jf [11,10,9,8,7,6,5,32,4,0,1] Z (bf (js O Z (ak O Z Z Z Z (hS) (ac Z) Z Z Z Z (B0 := 51000) Z Z (j4 O Z Z Z Z (js O Z (jf [13,11,10,9,8,7,6,5,32,4,0,1] Z (jn (ah (ag (aj (au [5,41000,46000] (e' := [(1, _), (5, _), (6, _), (7, _), (8, _), (9, _), (10, _), (11, _), (13, _)]) Z Z ⟨Z, Z, Z, Z, Z, Z, Z, Z, Z, trivial⟩ Z) (aj (Ent.freeze 41000 (e' := [(1, _), (5, _), (6, _), (7, _), (8, _), (9, _), (10, _), (11, _), (13, _)]) Z (.cons Z (.keep Z) (.cons Z (.keep Z) (.cons Z (.keep Z) (.cons Z (.keep Z) (.cons Z (.c (.row Z (cY _).symm)) (fe [9,10,11,13] Z)))))) (.cons Z (.box (fk Z)) (.skip (.cons Z .row .nil)))) ?_)))))))))))))
 refine aj (Ent.freeze 46000 (e' := [(1, _), (5, _), (6, _), (7, _), (8, _), (9, _), (10, _), (11, _), (13, _)]) Z (.cons Z (.keep Z) (.cons Z (.keep Z) (.cons Z (.keep Z) (.cons Z (.keep Z) (.cons Z (.keep Z) (.cons Z (.keep Z) (.cons Z (.c (.row Z (cY _).symm)) (fe [11,13] Z)))))))) (.cons Z (.box (fk Z)) (.skip .nil))) ?_
 refine j3 O Z Z Z (jf [55,1,5,6,8,9,10,11,13] Z (ax 3 Z Z Z (fun hx => ab hx Z Z Z (V O Z) Z Z ( ab hx Z Z Z (V O Z) Z Z ( ab hx Z Z Z (V O Z) Z Z ( AN.nil)))) Z Z ?_))
 first | refine aa (aQ O Z Z Z Z Z) Z Z Z ?_ | refine aa (Val.pickB O Z Z Z Z Z) Z Z Z ?_ | refine aa (ao O Z Z Z Z Z) Z Z Z ?_
 refine js O Z (jf [60,1,5,6,8,9,10,11] Z (ax 5 Z Z Z (fun hx => ab hx Z Z Z (V O Z) Z Z ( ab hx Z Z Z (V O Z) Z Z ( gC 2 Z Z Z Z (fun hx' => ab hx' Z Z Z (V O Z) Z Z ( ab hx' Z Z Z (V O Z) Z Z ( AN.nil))) Z Z ( ab hx Z Z Z (ao O Z Z Z Z Z) Z Z ( AN.nil))))) Z Z ?_))
 first | refine aa (aQ O Z Z Z Z Z) Z Z Z ?_ | refine aa (Val.pickB O Z Z Z Z Z) Z Z Z ?_ | refine aa (ao O Z Z Z Z Z) Z Z Z ?_
 refine jf [66,1,5,6,8,10,11] Z (jn (af O Z Z (fun hc66 => ?_) (fun hc66 => ?_)))
 exact absurd hc66 (by decide)
 refine an (ah (ag (j2 O Z Z (jf [68,1,5,6,8,10,11] Z (jn (af O Z Z (fun hc68 => ?_) (fun hc68 => ?_)))))))
 exact absurd hc68 (by decide)
 refine an (ag (AOps.heap (bn O Z Z Z Z Z Z Z Z Z Z Z) Z (av ?_)))
 refine av ?_
 refine js O Z (jf [14,1,5,6,8,10,11] Z (bf (js O Z (jn (ah (ag (js O Z (jn (aw (aE (X := Nat) (fun n => ⟨[(1, .c (.d (bys ys))), (5, .c (.pt 5 0 0)), (6, .c (.d (.slc 1 (lp.map aC)))), (8, .c (.d (.slc 5 (P.map Pth.cells)))), (10, .c (.d (.slc 3 (C.map Sq.cells)))), (14, .c (.rs 900 0 (cS n).length)), (15, eI ((pS n).length : Nat)), (16, eI ((n : Int) - 1))], [(5, .box (p.data.map .d)), (900, .row false 3 ((cS n).map Sq.cells))]⟩) (fun n => n ≤ N + 1) (fun n => N + 1 - n) 0 ((ae 69 900 Z Z).trans ((au [5,900] (e' := [(1, _), (5, _), (6, _), (8, _), (10, _), (14, _), (15, _), (16, _)]) Z Z ⟨Z, Z, Z, Z, Z, Z, Z, Z, trivial⟩ Z).trans (Ent.to ⟨Z, Z, Z, Z, Z, by rw [w.c0]; rfl, by rw [w.p0]; rfl, Z, trivial⟩ (by rw [w.c0]; rfl)))) ?_ (fun n hi => ?_)))))))))))
 exact dm _
 refine ah (ag (j2 O Z Z ?_))
 first | refine dn O Z ?_ | refine js O Z ?_ | refine dI O Z Z ?_
 refine js O Z (jf [73,1,5,6,8,10,14,15,16] Z (jn (af O Z Z (fun hc73 => ?_) (fun hc73 => ?_))))
 refine an (ah (aw (ag ?_)))
 have hnl := w.nl
 have hk : n < N + 1 := by have := bp hc73; omega
 refine j2 O Z Z (ak O Z Z Z Z (w.f n hk) (ac Z) Z Z Z Z (B0 := 80000) Z Z (j4 O Z Z Z Z (js O Z (jf [18,17,73,1,5,6,8,10,14,15,16] Z (bf (j2 O Z Z (cK O (B0 := 86000) Z Z Z Z (w.ps n hk) (ac Z) Z Z Z Z Z Z (av ?_))))))))
 refine j4 O Z Z Z Z (js O Z (jf [20,19,18,17,73,1,5,6,8,10,14,15,16] Z (bf (j2 O Z Z (cK O (B0 := 92000) Z Z Z Z (w.cs n hk) (ac Z) Z Z Z Z Z Z (av ?_))))))
 refine j4 O Z Z Z Z (js O Z (jf [22,21,20,19,18,17,73,1,5,6,8,10,14,15,16] Z (jn (ah (ag (aj (au [5,900,86000,92000] (e' := [(1, _), (5, _), (6, _), (8, _), (10, _), (14, _), (15, _), (16, _), (17, _), (18, _), (19, _), (20, _), (21, _), (22, _)]) Z Z ⟨Z, Z, Z, Z, Z, Z, Z, Z, Z, Z, Z, Z, Z, Z, trivial⟩ Z) (aj (Ent.freeze 86000 (e' := [(1, _), (5, _), (6, _), (8, _), (10, _), (14, _), (15, _), (16, _), (17, _), (18, _), (19, _), (20, _), (21, _), (22, _)]) Z (.cons Z (.keep Z) (.cons Z (.keep Z) (.cons Z (.keep Z) (.cons Z (.keep Z) (.cons Z (.keep Z) (.cons Z (.keep Z) (.cons Z (.keep Z) (.cons Z (.keep Z) (.cons Z (.keep Z) (.cons Z (.keep Z) (.cons Z (.c (.row Z (cY _).symm)) (fe [20,21,22] Z)))))))))))) (.cons Z (.box (fk Z)) (.cons Z .row (.skip (.cons Z .row .nil))))) ?_)))))))
 refine aj (Ent.freeze 92000 (e' := [(1, _), (5, _), (6, _), (8, _), (10, _), (14, _), (15, _), (16, _), (17, _), (18, _), (19, _), (20, _), (21, _), (22, _)]) Z (.cons Z (.keep Z) (.cons Z (.keep Z) (.cons Z (.keep Z) (.cons Z (.keep Z) (.cons Z (.keep Z) (.cons Z (.keep Z) (.cons Z (.keep Z) (.cons Z (.keep Z) (.cons Z (.keep Z) (.cons Z (.keep Z) (.cons Z (.keep Z) (.cons Z (.keep Z) (.cons Z (.c (.row Z (cY _).symm)) (fe [22] Z)))))))))))))) (.cons Z (.box (fk Z)) (.cons Z .row (.skip .nil)))) ?_
 have hle : (pS n).length + (q n).length ≤ P.length := by have := (w.pp (n + 1) hk).length_le; rw [w.pn n hk, dk] at this; exact this
 have hpl := w.pl
 refine j3 O Z Z Z (jf [96,1,5,6,8,10,14,15,16,17,19,20,21,22] Z (dS Z (js O Z (jf [97,96,1,5,6,8,10,14,15,16,17,19,21,22] Z (dS Z (js O Z (aa (cJ O Z Z Z Z Z) Z Z Z (js O Z (jf [100,1,5,6,8,10,14,15,16,17,19,21,22] Z (dS Z (js O Z (jf [101,100,1,5,6,8,10,14,15,16,17,19,21] Z (dS Z (js O Z (aa (cJ O Z Z Z Z Z) Z Z Z (js O Z (jf [104,1,5,6,8,10,14,15,16,17,19,21] Z (dS Z (js O Z (dS Z (js O Z (dS Z ?_))))))))))))))))))))))
 first | refine dn O Z ?_ | refine js O Z ?_ | refine dI O Z Z ?_
 refine jf [107,105,104,1,5,6,8,10,14,15,16,17,19,21] Z (dS Z ?_)
 first | refine ji O Z ?_ | refine dI O Z Z ?_
 refine jf [108,104,1,5,6,8,10,14,15,16,17,19,21] Z (dS Z (js O Z (dS Z ?_)))
 first | refine dn O Z ?_ | refine js O Z ?_ | refine dI O Z Z ?_
 refine jf [110,108,104,1,5,6,8,10,14,15,16,17,19,21] Z (dS Z (js O Z (aa (cJ O Z Z Z Z Z) Z Z Z (jf [112,1,5,6,8,10,14,15,16,17,19,21] Z (jn (af O Z Z (fun hc112 => ?_) (fun hc112 => ?_)))))))
 exact absurd (bp hc112) (by omega)
 refine an (ah (ag (js O Z (jn (aw ?_)))))
 have hi0 := hi
 refine aE (X := Nat) (fun i => ⟨[(1, .c (.d (bys ys))), (5, .c (.pt 5 0 0)), (6, .c (.d (.slc 1 (lp.map aC)))), (8, .c (.d (.slc 5 (P.map Pth.cells)))), (10, .c (.d (.slc 3 (C.map Sq.cells)))), (14, .c (.rs 900 0 (cS n).length)), (15, eI ((pS n).length : Nat)), (16, eI ((n : Int) - 1)), (17, b0 (F n)), (19, .c (.d (.slc 5 ((q n).map Pth.cells)))), (21, .c (.d (.slc 3 ((c n).map Sq.cells)))), (23, eI (i : Nat))], [(5, .box (p.data.map .d)), (900, .row false 3 ((cS n).map Sq.cells))]⟩) (fun i => i ≤ (q n).length) (fun i => (q n).length - i) 0 ((au [5,900] (e' := [(1, _), (5, _), (6, _), (8, _), (10, _), (14, _), (15, _), (16, _), (17, _), (19, _), (21, _), (23, _)]) Z Z ⟨Z, Z, Z, Z, Z, Z, Z, Z, Z, Z, Z, Z, trivial⟩ Z).trans (Ent.to ⟨Z, Z, Z, Z, Z, Z, Z, Z, Z, Z, Z, Z, trivial⟩ Z)) ?_ (fun i hi => ?_)
 exact dm _
 refine ah (ag (j2 O Z Z ?_))
 first | refine dn O Z ?_ | refine js O Z ?_ | refine dI O Z Z ?_
 refine js O Z (jf [116,1,5,6,8,10,14,15,16,17,19,21,23] Z (jn (af O Z Z (fun hc116 => ?_) (fun hc116 => ?_))))
 refine an (ah (aw (ag ?_)))
 have hik : i < (q n).length := by have := bp hc116; omega
 obtain ⟨r, hr⟩ : ∃ r, r = (q n).getD i default := ⟨_, rfl⟩
 have hget : P.getD ((pS n).length + i) default = r := by obtain ⟨z, hz⟩ := w.pp (n + 1) hk; rw [w.pn n hk] at hz; rw [hr]; exact tG hz hik
 obtain ⟨hr1, hr2⟩ := w.frm n hk r (by rw [hr, aK hik]; exact List.getElem_mem hik)
 have hr3 := hr2.length_le
 refine j3 O Z Z Z (aa ((aN O Z Z (by omega) (by omega)).cast (v' := eI (((pS n).length + i : Nat) : Int)) (congrArg eI (by omega))) Z Z Z (aa ((aR O Z Z Z Z Z Z Z Z (c5 (by omega))).cast (v' := ptr (Pth.cells r)) (by rw [hget])) Z Z Z (js O Z (jf [124,116,1,5,6,8,10,14,15,16,17,19,21,23] Z (jl O Z (av ?_))))))
 refine jo O Z (av ?_)
 refine jn (ah (yh O (_ :: _ :: _ :: _ :: _ :: _ :: _ :: _ :: _ :: _ :: _ :: _ :: _ :: _ :: _ :: _ :: _ :: _ :: _ :: _ :: _ :: _ :: _ :: _ :: _ :: _ :: _ :: _ :: _ :: _ :: _ :: _ :: _ :: _ :: _ :: _ :: _ :: _ :: _ :: _ :: _ :: _ :: _ :: _ :: _ :: _ :: _ :: _ :: _ :: _ :: _ :: _ :: _ :: _ :: []) (pn [] 0 0 :: pn [0] 0 0 :: pn [] 0 0 :: pn [0,1,2] 0 0 :: pn (rg 0 4) 0 0 :: pn (rg 0 5) 0 0 :: pn (rg 0 5) 0 0 :: pn (rg 0 7) 0 0 :: pn (rg 0 8) 0 0 :: pn (rg 0 9) 0 0 :: pn (rg 0 5) 0 0 :: pn [0,1,2,3,4,10] 0 0 :: pn (rg 0 12) 0 0 :: pn (rg 0 13) 0 0 :: pn (rg 0 14) 0 0 :: pn (rg 0 15) 0 0 :: pn (rg 0 15) 0 0 :: pn (rg 0 17) 0 0 :: pn (rg 0 18) 0 0 :: pn (rg 0 19) 0 0 :: pn (rg 0 15) 0 0 :: pn (rg 0 15++[20]) 0 0 :: pe (rg 0 22) 0 :: pn (rg 0 23) 1 1 :: pn (rg 0 24) 1 1 :: pn (rg 0 25) 1 1 :: pn (rg 0 26) 1 1 :: pn (rg 0 26) 1 1 :: pn (rg 0 28) 1 1 :: pn (rg 0 29) 1 1 :: pn (rg 0 30) 1 1 :: pn (rg 0 26) 1 1 :: pn (rg 0 26++[31]) 1 1 :: pe (rg 0 33) 1 :: pn (rg 0 34) 2 2 :: pn (rg 0 35) 2 2 :: pn (rg 0 36) 2 2 :: pn (rg 0 37) 2 2 :: pn (rg 0 38) 2 2 :: pn (rg 0 39) 2 2 :: pn (rg 0 37) 2 2 :: pn (rg 0 37++[40]) 2 2 :: pn (rg 0 42) 2 2 :: pn (rg 0 43) 2 2 :: pn (rg 0 44) 2 2 :: pn (rg 0 45) 2 2 :: pn (rg 0 46) 2 2 :: pn (rg 0 45) 2 2 :: pn (rg 0 45++[47]) 2 2 :: pn (rg 0 49) 2 2 :: pn (rg 0 45) 2 2 :: pe (rg 0 51) 2 :: pn (rg 0 52) 3 3 :: pn (rg 0 53) 3 3 :: []) [22,33,51] [_,_,_,_] (kc O Z (kc O Z (kc O Z (ai ((V O Z).cast (v' := eB false) (congrArg eB (by rw [hr1]; simp))) (kc O Z (kc O Z (kc O Z (ai ((aR O Z Z Z Z Z Z Z Z (c5 hik)).cast (v' := ptr (Pth.cells r)) (by rw [← hr])) (kc O Z (kc O Z (kc O Z (kc O Z (ai ((V O Z).cast (v' := eB false) (congrArg eB (by simp))) (ai (cJ O Z Z Z Z Z) (kc O Z (kc O Z (kc O Z (ai ((aR O Z Z Z Z Z Z Z Z (c5 hik)).cast (v' := ptr (Pth.cells r)) (by rw [← hr])) (kc O Z (kc O Z (kc O Z (kc O Z (ai (c9 O (B0 := 148000) Z Z Z Z (pT h1 h2) (ac Z) Z Z Z Z Z) (ai ((V O Z).cast (v' := eB false) (congrArg eB (by simp))) (ai (cJ O Z Z Z Z Z) (kc O Z (kc O Z (kc O Z (ai ((aR O Z Z Z Z Z Z Z Z (c5 hik)).cast (v' := ptr (Pth.cells r)) (by rw [← hr])) (kc O Z (kc O Z (kc O Z (kc O Z (ai (c9 O (B0 := 159000) Z Z Z Z (pT h1 h2) (ac Z) Z Z Z Z Z) (ai ((V O Z).cast (v' := eB false) (congrArg eB (by simp))) (ai (cJ O Z Z Z Z Z) (kc O Z (kc O Z (kc O Z (ai (bG O Z Z Z Z Z Z Z Z) (kc O Z (ai (bG O Z Z Z Z Z Z Z Z) (ai ((V O Z).cast (v' := eB false) (congrArg eB (decide_eq_false (by omega)))) (ai (cJ O Z Z Z Z Z) (kc O Z (kc O Z (kc O Z (kc O Z (ai (bG O Z Z Z Z Z Z Z Z) (ai (pj (sz := 2) (xs := r.facts.map Tm.cells) (a := 0) (b := (F n).length) (ys := (F n).map Tm.cells) O Z Z Z Z Z Z Z Z Z Z xo ⟨dm _, by rw [cY]; exact hr3⟩ (by rw [List.drop_zero, Nat.sub_zero, ← List.map_take, sq hr2])) (kc O Z (ai (c9 O (B0 := 177000) Z Z Z Z (pT h1 h2) (ac Z) Z Z Z Z Z) (ai ((V O Z).cast (v' := eB false) (congrArg eB (by simp))) (ai (cJ O Z Z Z Z Z) trivial)))))))))))))))))))))))))))))))))))))))))))))))))))))) ?_))
 refine jw [178,24,124,116,1,5,6,8,10,14,15,16,17,19,21,23] Z (bQ ?_)
 refine af O Z Z (fun hc178 => ?_) (fun hc178 => ?_)
 exact absurd hc178 (by decide)
 refine an (am (js O Z ?_))
 first | refine ji O Z ?_ | refine dI O Z Z ?_
 refine js O Z (jf [23,178,24,124,116,1,5,6,8,10,14,15,16,17,19,21] Z (jn ?_))
 refine ⟨i + 1, (au [5,900] (e' := [(1, _), (5, _), (6, _), (8, _), (10, _), (14, _), (15, _), (16, _), (17, _), (19, _), (21, _), (23, _)]) Z Z ⟨Z, Z, Z, Z, Z, Z, Z, Z, Z, Z, Z, Z, trivial⟩ Z).trans (Ent.to ⟨Z, Z, Z, Z, Z, Z, Z, Z, Z, Z, Z, Z, trivial⟩ Z), by omega, by omega⟩
 refine bt (ag (j2 O Z Z ?_))
 first | refine dn O Z ?_ | refine js O Z ?_ | refine dI O Z Z ?_
 first | refine ji O Z ?_ | refine dI O Z Z ?_
 refine js O Z (jf [15,116,1,5,6,8,10,14,16,17,19,21,23] Z (jn (am (j2 O Z Z ?_))))
 have hcl := (w.cp (n + 1) hk).length_le
 have hcL := w.cl
 rw [w.cn n hk, dk] at hcl
 refine AOps.heap (bh (own := false) (xs := (cS n).map Sq.cells) (ys := (c n).map Sq.cells) (zs := (cS (n + 1)).map Sq.cells) (n := (cS (n + 1)).length) O Z Z Z Z Z Z Z Z Z Z Z Z Z Z Z Z (.row Z (cY _).symm) (.slc (.inl Z)) (by simp) Z (by simp; omega) (by simp; omega) (by rw [w.cn n hk, List.map_append]) (by simp)) Z (av ?_)
 refine av ?_
 refine js O Z (jf [14,15,116,1,5,6,8,10,16,17,19,21,23] Z (jn (am (js O Z ?_))))
 first | refine ji O Z ?_ | refine dI O Z Z ?_
 refine js O Z (jf [16,14,15,116,1,5,6,8,10,17,19,21,23] Z (jn ?_))
 refine ⟨n + 1, ((au [5,185] (e' := [(1, _), (5, _), (6, _), (8, _), (10, _), (14, _), (15, _), (16, _)]) Z Z ⟨Z, Z, Z, Z, Z, Z, Z, Z, trivial⟩ Z).trans (ae 185 900 Z Z)).trans (Ent.to ⟨Z, Z, Z, Z, Z, Z, ?_, ?_, trivial⟩ Z), by omega, by omega⟩
 exact congrArg (fun z => some (eI z)) (by rw [w.pn n hk, dk]; omega)
 exact congrArg (fun z => some (eI z)) (by omega)
 refine bt (ag ?_)
 have hcn := ch hc73
 obtain rfl : n = N + 1 := by omega
 rw [w.pe, w.ce]
 refine aj (au [5,900] (e' := [(1, _), (5, _), (8, _), (10, _), (14, _), (15, _)]) Z Z ⟨Z, Z, Z, Z, Z, Z, trivial⟩ Z) (aj (Ent.freeze 900 (e' := [(1, _), (5, _), (8, _), (10, _), (14, _), (15, _)]) Z (.cons Z (.keep Z) (.cons Z (.keep Z) (.cons Z (.keep Z) (.cons Z (.keep Z) (.cons Z (.c (.row Z (cY _).symm)) (fe [15] Z)))))) (.cons Z (.box (fk Z)) (.skip .nil))) ?_)
 refine j3 O Z Z Z (jf [188,186,1,5,8,10,14,15] Z (ak O Z Z Z Z (xM (ys := ys) (ts := p.pre) h1 h2 hy hpre) (ac Z) Z Z Z Z (B0 := 190000) Z Z (jf [189,1,5,8,10,14,15] Z (jl O Z (av ?_)))))
 refine jo O Z (av ?_)
 refine bf (j2 O Z Z (ak O Z Z Z Z (hH) (ac Z) Z Z Z Z (B0 := 194000) Z Z (j4 O Z Z Z Z (js O Z (jf [27,26,25,189,1,5,8,10,14,15] Z (bf (j2 O Z Z ?_)))))))
 first | refine dn O Z ?_ | refine js O Z ?_ | refine dI O Z Z ?_
 refine aa (((V O Z)).cast (v' := eB true) (congrArg eB (by simp))) Z Z Z (js O Z (jf [200,27,26,25,189,1,5,8,10,14,15] Z (dS Z (js O Z (dS Z (js O Z (dS Z (aA O Z Z Z Z ((xF (xs := C) (ys := C) h1 h2).plain (u := eB true) (by simp)) (ac Z) Z Z Z Z Z (B0 := 204000) Z (aa (eT O Z Z Z Z Z) Z Z Z (js O Z (jf [205,27,26,25,189,1,5,8,10,14,15] Z (dS Z (js O Z (aa (eT O Z Z Z Z Z) Z Z Z (js O Z (jf [208,26,25,189,1,5,8,10,14,15] Z (dS Z (js O Z (jf [209,208,25,189,1,5,8,10,14,15] Z (dS Z (js O Z (dS Z (js O Z (jf [211,209,208,25,189,1,5,8,10,14,15] Z (dS Z (js O Z (dS Z (js O Z (jf [213,211,209,208,25,189,1,5,8,10,14,15] Z ?_)))))))))))))))))))))))))))))
 refine dS Z (aA O Z Z Z Z (xL (ts := p.pre) (vars := (mF ys p.pre).vars) h1 h2 hpre (nN (qi hy))) (ac Z) Z Z Z Z Z (B0 := 215000) Z (jf [214,209,208,25,189,1,5,8,10,14,15] Z (dS Z (aa (((V O Z)).cast (v' := eB true) (congrArg eB (by simp))) Z Z Z (aa (eT O Z Z Z Z Z) Z Z Z (js O Z (jf [4,25,189,1,5,8,10,14,15] Z (jr ?_))))))))
 refine ⟨.inl Z, _, ar, _, Z, ?_⟩
 exact .v (.c .d)
theorem qy {p : Pm} {t : Tr} (ht : PtOk p t) {n : Nat} : (p.pre :: (cN t).lp.map (·.s.facts)).getD n default = mG p t n ∨ (cN t).lp.length < n := by
 cases n with
 | zero => exact .inl Z
 | succ n =>
  rcases Nat.lt_or_ge n (cN t).lp.length with h | h
  left
  rw [List.getD_cons_succ, mG, show aU p.body t [] = (cN t).lp from (i7 ht.tree).2.symm, aK (by rw [cY]; exact h), aK h, List.getElem_map]
  exact .inr (by omega)
theorem stw {L : Nat} (h1 : 4096 ≤ L) (h2 : L ≤ 1073741824) (hL : 600000000 ≤ L) {p : Pm} {t : Tr} (ht : PtOk p t) (htd : qn p.body = t.d) (hv : eD p = true) (hb : (eA p t (aT p.body p.body.length + 1)).bad = false) (hc : dR (eA p t (aT p.body p.body.length + 1)).conds = true) :
    StW L p (aT p.body p.body.length) (mG p t) (fun n => (gI p t n).paths) (fun n => (gI p t n).conds) (fun n => (eA p t n).paths) (fun n => (eA p t n).conds) (eA p t (aT p.body p.body.length + 1)).paths (eA p t (aT p.body p.body.length + 1)).conds := by
 have hll := kS ht
 have hnl := dL (b := p.body) (k := p.body.length)
 have hlen := ht.len
 have hpl := (pZ (p := p) (t := t) (aT p.body p.body.length + 1)).2 hb
 have hcl : (eA p t (aT p.body p.body.length + 1)).conds.length ≤ L := by
  unfold dR at hc
  simp only [bJ, decide_eq_true_eq] at hc
  omega
 have hs := fun n (hn : n < aT p.body p.body.length + 1) => qk (m9 hb (show n + 1 ≤ _ from hn))
 have hg := fun n (hn : n < aT p.body p.body.length + 1) => xm h1 h2 hL ht (n := n) (by omega)
 have hpr := fun n (hn : n ≤ aT p.body p.body.length + 1) => r9 hn hb
 have hP := fun n (hn : n < aT p.body p.body.length + 1) => by
  have := hg n hn
  rw [(hs n hn).1] at this
  exact r6 h1 h2 hv htd ht this
 have hck : ∀ n, n < aT p.body p.body.length + 1 → dR (gI p t n).conds = true := fun n hn => by
  obtain ⟨z, hz⟩ := (hpr (n + 1) hn).2
  rw [(hs n hn).2.2, eV] at hz
  rw [← hz] at hc
  exact qF hc
 refine ⟨fun n hn => ?_, fun n hn => vR h1 h2 (hP n hn), fun n hn => vP h1 h2 (hP n hn) ?_ (hck n hn), Z, Z, fun n hn => (hs n hn).2.1, fun n hn => (hs n hn).2.2, Z, Z, by omega, hcl, by omega, fun n hn => (hpr n hn).2, fun n hn => (hpr n hn).1, fun n hn r hr => ?_⟩
 refine ue h1 h2 hv htd ht (by omega) (by omega) ?_
 rcases qy ht (n := n) with h | h
 exact h
 rw [iV, cY] at hll; omega
 have := (hpr (n + 1) hn).2.length_le
 rw [(hs n hn).2.2, dk] at this
 show (gx bF p t n g0).conds.length ≤ L
 omega
 exact ⟨(rP r hr).1, (rP r hr).2.1⟩
theorem sd {ts : List Tm} (h : bz ts 6 = true) : bz ts 14 = true := by
 have ha := jQ h
 unfold bz at h ⊢
 rw [List.all_eq_true.2 ha, Bool.true_and] at h ⊢
 have := bp h
 exact decide_eq_true (by omega)
theorem so {p : Pm} (h : eJ p = true) : bz p.pre 6 = true := by
 unfold eJ at h
 cases ha : bz p.pre 6 with
 | true => rfl
 | false => rw [ha] at h; simp at h
theorem sG {xs ys : List Int} (hx : ∀ n ∈ xs, 0 ≤ n ∧ n ≤ 255) (hy : ∀ n ∈ ys, 0 ≤ n ∧ n ≤ 255) : MC Tryz.prog 1073741824 4 [.c (.d (bys xs)), .c (.d (bys ys))] [] (Plain (eB true)) := by
 cases h0 : (bif decide ((1048576 : Int) < xs.length) then true else decide ((1048576 : Int) < ys.length)) with
 | true => exact ve (by decide) (cz _) h0
 | false =>
  have hp := tV hx
  have hB := xI (L := 1073741824) (by decide) (cz _) hx
  generalize tg xs = p at hp hB
  obtain ⟨t, ht, htd⟩ := xk hp
  have hv : eD p = true := by rw [← qd]; exact hp
  have hlen := ht.len
  have hll := kS ht
  have hnl := dL (b := p.body) (k := p.body.length)
  have hlp : (cN t).lp.length = aT p.body p.body.length := by rw [iV, cY] at hll; omega
  have hLo := xH (L := 1073741824) (by decide) (cz _) hv htd ht (by omega)
  obtain ⟨he, hpl⟩ := pZ (p := p) (t := t) (aT p.body p.body.length + 1)
  have hP := x4 (L := 1073741824) (by decide) (cz _) (by decide) ht
  have hA := xZ (L := 1073741824) (by decide) (cz _) ht (by decide)
  have hgo := (sa ht (aT p.body p.body.length + 1) (cz _)).1
  have hst := stw (L := 1073741824) (by decide) (cz _) (by decide) ht htd hv
  have h6 := so hp
  have hH := xG (L := 1073741824) (by decide) (cz _) (n := 0) (f := p.pre) (s := mF ys p.pre) hv htd ht (by omega) (by omega) Z (sd h6) (qi hy)
  generalize eA p t (aT p.body p.body.length + 1) = x at he hpl hP hst
  generalize fm p t (aT p.body p.body.length + 1) = y at he hA hgo
  cases hb : x.bad with
  | true =>
   rw [hb] at hP
   rw [show y.bad = true from he.bad ▸ hb] at hA
   have hQ := vC (by decide) (cz _) hv htd ht hP
   exact vf (by decide) (cz _) h0 hB hLo (vQ (by decide) (cz _) hQ) (vK (by decide) (cz _) hQ) (vO (by decide) (cz _) hp hA)
  | false =>
   have e := he.eq hb
   subst e
   rw [hb] at hP hA
   have hQ := r6 (by decide) (cz _) hv htd ht hP
   have hgl : x.conds.length ≤ 600000000 := by
    have : (aT p.body p.body.length + 1) * 16252928 ≤ 31 * 16252928 := Nat.mul_le_mul_right _ (by omega)
    omega
   cases hc : dR x.conds with
   | false => exact vd (ps := x.paths) (by decide) (cz _) h0 hB hLo (r7 (by decide) (cz _) hQ) (vJ (by decide) (cz _) hQ (by omega) hc) (vM (by decide) (cz _) hp hA hc)
   | true => exact xN (by decide) (cz _) h0 hB hLo hlp (r7 (by decide) (cz _) hQ) (vH (by decide) (cz _) hQ (by omega) hc) (vL (by decide) (cz _) hp hA hc) (hst hb hc) hy (jQ h6) hH
theorem vc {L : Nat} (h1 : 4096 ≤ L) (h2 : L ≤ 9223372036854775807) {xs ys : List Int} : MC Tryz.prog L 6 [.c (.d (bys xs)), .c (.d (bys ys))] [] (Plain (eB (bif decide ((1048576 : Int) < xs.length) then true else decide ((1048576 : Int) < ys.length)))) := by
 refine aP ?_ Z
 have O := tn (nt := 13) h1 h2
 refine MC.body O Tryz.func6 (by kernel_rfl) Z Z (Nat.le_of_ble_eq_true Z) (fun hF => ?_)
 refine ag (js O Z (bf (js O Z ?_)))
 first | refine dn O Z ?_ | refine js O Z ?_ | refine dI O Z Z ?_
 refine j2 O Z Z (jf [8,4,1] Z (ax 3 Z Z Z (fun hx => ab hx Z Z Z (V O Z) Z Z ( ab hx Z Z Z (bG O Z Z Z Z Z Z Z Z) Z Z ( ab hx Z Z Z (V O Z) Z Z ( AN.nil)))) Z Z ?_))
 first | refine aa (aQ O Z Z Z Z Z) Z Z Z ?_ | refine aa (Val.pickB O Z Z Z Z Z) Z Z Z ?_ | refine aa (ao O Z Z Z Z Z) Z Z Z ?_
 refine js O Z (jf [4] Z (jr ?_))
 refine ⟨.inl Z, _, ar, _, Z, ?_⟩
 rfl
theorem vg {L : Nat} (h1 : 4096 ≤ L) (h2 : L ≤ 9223372036854775807) {xs ys : List Int} (h0 : (bif decide ((1048576 : Int) < xs.length) then true else decide ((1048576 : Int) < ys.length)) = true) : MC Tryz.prog L 4 [.c (.d (bys xs)), .c (.d (bys ys))] [] (Plain (eB true)) := by
 refine MC.data ?_
 have O := tn (nt := 217) h1 h2
 refine MC.body O Tryz.func4 (by kernel_rfl) Z Z (Nat.le_of_ble_eq_true Z) (fun hF => ?_)
 refine ag (js O Z (jn (ah (ag (j2 O Z Z (aA O Z Z Z Z (vc (xs := xs) (ys := ys) h1 h2) (ac Z) Z Z Z Z Z (B0 := 31000) Z (jf [30,4,0,1] Z (jn (af O Z Z (fun hc30 => ?_) (fun hc30 => ?_))))))))))
 refine ag (js O Z (jr ?_))
 refine ⟨.inl Z, _, ar, _, Z, ?_⟩
 exact .v (.c .d)
 exact absurd hc30 (by rw [h0]; decide)
theorem ll {L M : Nat} : ∀ {xs : List Int}, Dss.fact L (List.map (fun n => [D.int IntKind.u8 n]) xs) → Dss.fact M (List.map (fun n => [D.int IntKind.u8 n]) xs)
 | [], _ => trivial
 | x :: xs, h => by
  have ih := ll (L := L) (M := M) (xs := xs)
  simp only [List.map_cons, Dss.fact, Ds.fact, D.fact] at h ⊢
  exact ⟨h.1, ih h.2⟩
theorem law1188 {L : Nat} (h1 : 4096 ≤ L) (h2 : L ≤ 9223372036854775807) {xs ys : List Int} (hx : ∀ n ∈ xs, 0 ≤ n ∧ n ≤ 255) (hy : ∀ n ∈ ys, 0 ≤ n ∧ n ≤ 255) : MC Tryz.prog L 4 [.c (.d (bys xs)), .c (.d (bys ys))] [] (Plain (eB true)) := by
 cases h0 : (bif decide ((1048576 : Int) < xs.length) then true else decide ((1048576 : Int) < ys.length)) with
 | true => exact vg h1 h2 h0
 | false =>
  have hl : xs.length ≤ 1048576 ∧ ys.length ≤ 1048576 := by
   cases ha : decide ((1048576 : Int) < xs.length) with
   | true => rw [ha] at h0; cases h0
   | false =>
    rw [ha] at h0
    have := ch ha
    have := ch h0
    omega
  refine MC.facts ⟨_, _, Tryz.func4, by kernel_rfl, Z⟩ fun hF => ?_
  refine tX (L0 := 1073741824) Z ?_ (sG hx hy)
  simp [As.fact, A.fact, M.fact, D.fact, Ds.fact] at hF ⊢
  exact ⟨⟨by omega, ll hF.1.2⟩, ⟨by omega, ll hF.2.2⟩⟩
end Go.Al
