/- The law of the paths, walked. -/
import Derived.Test.YtnnbiajhcolfiaaGreatI
import Derived.Test.YtnnbiajhcolfiaaGreatU
import Derived.Test.YtnnbiajhcolfiaaGreatS
import Derived.Test.YtnnbiajhcolfiaaGreatW
set_option linter.unusedVariables false
set_option linter.unusedSimpArgs false
set_option maxRecDepth 10000
set_option maxHeartbeats 4000000
open Go.Proofs
namespace Go.Al
variable {L : Nat} (h1 : 4096 ≤ L) (h2 : L ≤ 1073741824)
variable {xs ys : List Int}
theorem wN (h0 : (bif decide ((1048576 : Int) < xs.length) then true else decide ((1048576 : Int) < ys.length)) = true) : MQ h1 h2 3 [.c (.d (bys xs)), .c (.d (bys ys))] [] (Plain (eB true)) := by
 refine MC.data (jB 134 h1 h2 Tryz.func3 Z Z Z fun O hF => ?_)
 refine ag (js O Z (jn (ah (ag (j2 O Z Z (aB O Z Z Z Z (qG (xs := xs) (ys := ys) h1 h2) (af Z) Z Z Z Z Z (B0 := 21000) Z (jf [20,4,0,1] Z (jn (ae O Z Z (fun hc20 => ?_) (fun hc20 => ?_))))))))))
 refine ag (js O Z (jr ?_))
 refine ⟨.inl Z, _, av, _, Z, ?_⟩
 exact .v (.c .d)
 exact absurd hc20 (by rw [h0]; decide)
def kX (i0 i : Nat) : Int := if i0 < i then 1 else 0
theorem uR {i0 i : Nat} : 0 ≤ kX i0 i ∧ kX i0 i ≤ 1 := by unfold kX; split <;> decide
theorem uQ {i0 i : Nat} (h : i ≠ i0) : kX i0 (i + 1) = kX i0 i := by unfold kX; split <;> split <;> first | rfl | omega
theorem uS {i0 i : Nat} (h : i = i0) : kX i0 (i + 1) = kX i0 i + 1 := by unfold kX; split <;> split <;> first | rfl | omega
theorem tH {f : Tm → Int} {xs : List Tm} {k : Nat} (h : k < xs.length) : (xs.map f).getD k default = f (xs.getD k default) := by
 rw [aM (by rw [cw]; exact h), aM h, List.getElem_map]
variable {vs cs ev : List Int} {p : Pm} {d2 : D}
theorem wO {o : Int} (h0 : (bif decide ((1048576 : Int) < xs.length) then true else decide ((1048576 : Int) < ys.length)) = false) (hB : MQ h1 h2 6 [.c (.d (bys xs))] [] (Plain (lc p))) (hP : MQ h1 h2 8 [lc p] [] (Rows (.tup [.c (.d .nils), eB false]) [])) (hS : MQ h1 h2 9 [lc p] [] (Plain (.tup [.c (.d d2), eB false]))) (hRun : MQ h1 h2 10 [lc p, vM (fh ys []), eI 600] [] (Rows (.tup [.agg [.rs 0 0 4, .rs 1 0 8], .c (.rs 2 0 ev.length), eI o, eB true]) [aA vs, aA cs, aA ev])) (hv4 : vs.length = 4) (hc8 : cs.length = 8) (hy : ∀ n ∈ ys, 0 ≤ n ∧ n ≤ 255) : MQ h1 h2 3 [.c (.d (bys xs)), .c (.d (bys ys))] [] (Plain (eB true)) := by
 refine MC.data (jB 134 h1 h2 Tryz.func3 Z Z Z fun O hF => ?_)
 refine ag (js O Z (jn (ah (ag (j2 O Z Z (aB O Z Z Z Z (qG (xs := xs) (ys := ys) h1 h2) (af Z) Z Z Z Z Z (B0 := 21000) Z (jf [20,4,0,1] Z (jn (ae O Z Z (fun hc20 => ?_) (fun hc20 => ?_))))))))))
 exact absurd hc20 (by rw [h0]; decide)
 refine ak (ag (js O Z (jf [21,4,0,1] Z (ay O Z Z Z Z (hB) (af Z) Z Z Z Z (B0 := 23000) Z Z (jf [22,4,0,1] Z (jl O Z (ap ?_)))))))
 refine jo O Z (ap ?_)
 refine bn (js O Z (AOps.heap (bA O Z Z Z Z Z Z Z Z Z Z Z) Z (ap ?_)))
 refine au (am [5,24] (e' := [(24, _), (23, _), (5, _)]) Z Z ⟨Z, Z, Z, trivial⟩ Z) (au (Ent.freeze 24 (e' := [(24, _), (23, _), (5, _)]) Z (.cons Z (.c (.row Z Z)) (fe [23,5] Z)) (.cons Z (.box (fk Z)) (.skip .nil))) ?_)
 refine ap ?_
 refine ap ?_
 refine ay O rfl rfl rfl rfl (sF (ys := ys) (ts := []) h1 h2 hy (fun t ht => by cases ht)) (.cons (.c .d) (.cons (.c (.d)) .nil)) rfl rfl rfl rfl (B0 := 26000) rfl rfl (jf [25,5] Z (jl O Z (ap ?_)))
 refine jo O Z (ap ?_)
 refine bn (js O Z (c7 O (B0 := 29000) Z Z Z Z (hP) (af Z) Z Z Z Z Z Z (ap ?_)))
 refine j4 O Z Z Z Z (js O Z (jf [8,7,6,25,5] Z (bn (js O Z (ay O Z Z Z Z (hS) (af Z) Z Z Z Z (B0 := 34000) Z Z (j4 O Z Z Z Z (js O Z (jf [10,8,7,6,25,5] Z (bn (j2 O Z Z (c7 O (B0 := 40000) Z Z Z Z (hRun) (af Z) Z Z Z Z Z Z (ap ?_))))))))))))
 refine j4 O Z Z Z Z (js O Z (jf [43,42,41,40,10,8,7,6,25,5] Z (jl O Z (ap ?_))))
 refine jo O Z (ap ?_)
 refine j3 O Z Z Z (jf [14,13,12,11,10,8,7,6,25,5] Z (jn (ah (ag (j4 O Z Z Z Z (jf [47,14,13,12,11,8,7,6,25,5] Z (aZ Z (js O Z (jf [48,47,13,12,11,8,7,6,25,5] Z (aZ Z (js O Z (aa (aG O Z Z Z Z Z) Z Z Z (js O Z (jf [51,13,12,11,8,7,6,25,5] Z (aZ Z (js O Z (aZ Z (js O Z (jf [53,51,13,12,11,8,7,6,25,5] Z (aZ Z ?_))))))))))))))))))))
 first | refine eK O Z ?_ | refine js O Z ?_ | refine fI O Z Z ?_
 refine jf [54,51,13,12,11,8,7,6,25,5] Z (aZ Z (js O Z (aa (aG O Z Z Z Z Z) Z Z Z (jf [56,13,12,11,8,7,6,25,5] Z (jn (ae O Z Z (fun hc56 => ?_) (fun hc56 => ?_)))))))
 exact absurd hc56 (by decide)
 refine ak (ah (ag (j3 O Z Z Z (jf [59,13,12,11,8,7,6,25,5] Z (AOps.skip Z Z Z Z Z Z (jf [60,59,12,11,8,7,6,25,5] Z (AOps.skip Z Z Z Z Z Z (aa (br O Z Z Z Z Z) Z Z Z (jf [62,12,11,8,7,6,25,5] Z (jn (ae O Z Z (fun hc62 => ?_) (fun hc62 => ?_))))))))))))
 refine ag (js O Z (jr ?_))
 refine ⟨.inl Z, _, av, _, Z, ?_⟩
 exact .v (.c .d)
 exact absurd hc62 (by decide)
variable {P : List Pth}
theorem wM {o : Int} (h0 : (bif decide ((1048576 : Int) < xs.length) then true else decide ((1048576 : Int) < ys.length)) = false) (hB : MQ h1 h2 6 [.c (.d (bys xs))] [] (Plain (lc p))) (hP : MQ h1 h2 8 [lc p] [] (Rows (.tup [.c (.rs 0 0 P.length), eB true]) [aJ P])) (hS : MQ h1 h2 9 [lc p] [] (Plain (.tup [.c (.d d2), eB true]))) (hRun : MQ h1 h2 10 [lc p, vM (fh ys []), eI 600] [] (Rows (.tup [.agg [.rs 0 0 4, .rs 1 0 8], .c (.rs 2 0 ev.length), eI o, eB true]) [aA vs, aA cs, aA ev])) (hv4 : vs.length = 4) (hc8 : cs.length = 8) (hy : ∀ n ∈ ys, 0 ≤ n ∧ n ≤ 255) (ho : o ≠ 0) : MQ h1 h2 3 [.c (.d (bys xs)), .c (.d (bys ys))] [] (Plain (eB true)) := by
 refine MC.data (jB 134 h1 h2 Tryz.func3 Z Z Z fun O hF => ?_)
 refine ag (js O Z (jn (ah (ag (j2 O Z Z (aB O Z Z Z Z (qG (xs := xs) (ys := ys) h1 h2) (af Z) Z Z Z Z Z (B0 := 21000) Z (jf [20,4,0,1] Z (jn (ae O Z Z (fun hc20 => ?_) (fun hc20 => ?_))))))))))
 exact absurd hc20 (by rw [h0]; decide)
 refine ak (ag (js O Z (jf [21,4,0,1] Z (ay O Z Z Z Z (hB) (af Z) Z Z Z Z (B0 := 23000) Z Z (jf [22,4,0,1] Z (jl O Z (ap ?_)))))))
 refine jo O Z (ap ?_)
 refine bn (js O Z (AOps.heap (bA O Z Z Z Z Z Z Z Z Z Z Z) Z (ap ?_)))
 refine au (am [5,24] (e' := [(24, _), (23, _), (5, _)]) Z Z ⟨Z, Z, Z, trivial⟩ Z) (au (Ent.freeze 24 (e' := [(24, _), (23, _), (5, _)]) Z (.cons Z (.c (.row Z Z)) (fe [23,5] Z)) (.cons Z (.box (fk Z)) (.skip .nil))) ?_)
 refine ap ?_
 refine ap ?_
 refine ay O rfl rfl rfl rfl (sF (ys := ys) (ts := []) h1 h2 hy (fun t ht => by cases ht)) (.cons (.c .d) (.cons (.c (.d)) .nil)) rfl rfl rfl rfl (B0 := 26000) rfl rfl (jf [25,5] Z (jl O Z (ap ?_)))
 refine jo O Z (ap ?_)
 refine bn (js O Z (c7 O (B0 := 29000) Z Z Z Z (hP) (af Z) Z Z Z Z Z Z (ap ?_)))
 refine j4 O Z Z Z Z (js O Z (jf [8,7,6,25,5] Z (bn (js O Z (ay O Z Z Z Z (hS) (af Z) Z Z Z Z (B0 := 34000) Z Z (j4 O Z Z Z Z (js O Z (jf [10,8,7,6,25,5] Z (bn (j2 O Z Z (c7 O (B0 := 40000) Z Z Z Z (hRun) (af Z) Z Z Z Z Z Z (ap ?_))))))))))))
 refine j4 O Z Z Z Z (js O Z (jf [43,42,41,40,10,8,7,6,25,5] Z (jl O Z (ap ?_))))
 refine jo O Z (ap ?_)
 refine j3 O Z Z Z (jf [14,13,12,11,10,8,7,6,25,5] Z (jn (ah (ag (j4 O Z Z Z Z (jf [47,14,13,12,11,8,7,6,25,5] Z (aZ Z (js O Z (jf [48,47,13,12,11,8,7,6,25,5] Z (aZ Z (js O Z (aa (aG O Z Z Z Z Z) Z Z Z (js O Z (jf [51,13,12,11,8,7,6,25,5] Z (aZ Z (js O Z (aZ Z (js O Z (jf [53,51,13,12,11,8,7,6,25,5] Z (aZ Z ?_))))))))))))))))))))
 first | refine eK O Z ?_ | refine js O Z ?_ | refine fI O Z Z ?_
 refine jf [54,51,13,12,11,8,7,6,25,5] Z (aZ Z (js O Z (aa (aG O Z Z Z Z Z) Z Z Z (jf [56,13,12,11,8,7,6,25,5] Z (jn (ae O Z Z (fun hc56 => ?_) (fun hc56 => ?_)))))))
 exact absurd hc56 (by decide)
 refine ak (ah (ag (j3 O Z Z Z (jf [59,13,12,11,8,7,6,25,5] Z (aZ Z (js O Z (jf [60,59,12,11,8,7,6,25,5] Z (aZ Z (js O Z (aa (aG O Z Z Z Z Z) Z Z Z (jf [62,12,11,8,7,6,25,5] Z (jn (ae O Z Z (fun hc62 => ?_) (fun hc62 => ?_))))))))))))))
 refine ag (js O Z (jr ?_))
 refine ⟨.inl Z, _, av, _, Z, ?_⟩
 exact .v (.c .d)
 exact absurd hc62 (by simp [ho])
theorem y9 {i0 : Nat} (h0 : (bif decide ((1048576 : Int) < xs.length) then true else decide ((1048576 : Int) < ys.length)) = false) (hB : MQ h1 h2 6 [.c (.d (bys xs))] [] (Plain (lc p))) (hP : MQ h1 h2 8 [lc p] [] (Rows (.tup [.c (.rs 0 0 P.length), eB true]) [aJ P])) (hS : MQ h1 h2 9 [lc p] [] (Plain (.tup [.c (.d d2), eB true]))) (hRun : MQ h1 h2 10 [lc p, vM (fh ys []), eI 600] [] (Rows (.tup [.agg [.rs 0 0 4, .rs 1 0 8], .c (.rs 2 0 ev.length), eI 0, eB true]) [aA vs, aA cs, aA ev])) (hv4 : vs.length = 4) (hc8 : cs.length = 8) (hy : ∀ n ∈ ys, 0 ≤ n ∧ n ≤ 255) (w : PaW P i0 (fh ys []).vars ev vs) (hpl : P.length ≤ 1000) : MQ h1 h2 3 [.c (.d (bys xs)), .c (.d (bys ys))] [] (Plain (eB true)) := by
 refine MC.data (jB 134 h1 h2 Tryz.func3 Z Z Z fun O hF => ?_)
 refine ag (js O Z (jn (ah (ag (j2 O Z Z (aB O Z Z Z Z (qG (xs := xs) (ys := ys) h1 h2) (af Z) Z Z Z Z Z (B0 := 21000) Z (jf [20,4,0,1] Z (jn (ae O Z Z (fun hc20 => ?_) (fun hc20 => ?_))))))))))
 exact absurd hc20 (by rw [h0]; decide)
 refine ak (ag (js O Z (jf [21,4,0,1] Z (ay O Z Z Z Z (hB) (af Z) Z Z Z Z (B0 := 23000) Z Z (jf [22,4,0,1] Z (jl O Z (ap ?_)))))))
 refine jo O Z (ap ?_)
 refine bn (js O Z (AOps.heap (bA O Z Z Z Z Z Z Z Z Z Z Z) Z (ap ?_)))
 refine au (am [5,24] (e' := [(24, _), (23, _), (5, _)]) Z Z ⟨Z, Z, Z, trivial⟩ Z) (au (Ent.freeze 24 (e' := [(24, _), (23, _), (5, _)]) Z (.cons Z (.c (.row Z Z)) (fe [23,5] Z)) (.cons Z (.box (fk Z)) (.skip .nil))) ?_)
 refine ap ?_
 refine ap ?_
 refine ay O rfl rfl rfl rfl (sF (ys := ys) (ts := []) h1 h2 hy (fun t ht => by cases ht)) (.cons (.c .d) (.cons (.c (.d)) .nil)) rfl rfl rfl rfl (B0 := 26000) rfl rfl (jf [25,5] Z (jl O Z (ap ?_)))
 refine jo O Z (ap ?_)
 refine bn (js O Z (c7 O (B0 := 29000) Z Z Z Z (hP) (af Z) Z Z Z Z Z Z (ap ?_)))
 refine j4 O Z Z Z Z (js O Z (jf [8,7,6,25,5] Z (bn (js O Z (ay O Z Z Z Z (hS) (af Z) Z Z Z Z (B0 := 34000) Z Z (j4 O Z Z Z Z (js O Z (jf [10,8,7,6,25,5] Z (bn (j2 O Z Z (c7 O (B0 := 40000) Z Z Z Z (hRun) (af Z) Z Z Z Z Z Z (ap ?_))))))))))))
 refine j4 O Z Z Z Z (js O Z (jf [43,42,41,40,10,8,7,6,25,5] Z (jl O Z (ap ?_))))
 refine jo O Z (ap ?_)
 refine j3 O Z Z Z (jf [14,13,12,11,10,8,7,6,25,5] Z (jn (ah (ag (j4 O Z Z Z Z (jf [47,14,13,12,11,8,7,6,25,5] Z (aZ Z (js O Z (jf [48,47,13,12,11,8,7,6,25,5] Z (aZ Z (js O Z (aa (aG O Z Z Z Z Z) Z Z Z (js O Z (jf [51,13,12,11,8,7,6,25,5] Z (aZ Z (js O Z (aZ Z (js O Z (jf [53,51,13,12,11,8,7,6,25,5] Z (aZ Z ?_))))))))))))))))))))
 first | refine eK O Z ?_ | refine js O Z ?_ | refine fI O Z Z ?_
 refine jf [54,51,13,12,11,8,7,6,25,5] Z (aZ Z (js O Z (aa (aG O Z Z Z Z Z) Z Z Z (jf [56,13,12,11,8,7,6,25,5] Z (jn (ae O Z Z (fun hc56 => ?_) (fun hc56 => ?_)))))))
 exact absurd hc56 (by decide)
 refine ak (ah (ag (j3 O Z Z Z (jf [59,13,12,11,8,7,6,25,5] Z (aZ Z (js O Z (jf [60,59,12,11,8,7,6,25,5] Z (aZ Z (js O Z (aa (aG O Z Z Z Z Z) Z Z Z (jf [62,12,11,8,7,6,25,5] Z (jn (ae O Z Z (fun hc62 => ?_) (fun hc62 => ?_))))))))))))))
 exact absurd hc62 (by decide)
 refine ak (ag (au (am [6,11,29000,40000,40001,40002] (e' := [(6, _), (7, _), (11, _), (12, _)]) Z Z ⟨Z, Z, Z, Z, trivial⟩ Z) (au (Ent.freeze 29000 (e' := [(6, _), (7, _), (11, _), (12, _)]) Z (.cons Z (.keep Z) (.cons Z (.c (.row Z (cw _).symm)) (fe [11,12] Z))) (.cons Z (.box (fk Z)) (.cons Z (.box (fk Z)) (.skip (.cons Z .row (.cons Z .row (.cons Z .row .nil))))))) ?_)))
 refine au (Ent.freeze 40000 (e' := [(6, _), (7, _), (11, _), (12, _)]) Z (fe [6,7,11,12] Z) (.cons Z (.box (fk Z)) (.cons Z (.box (.cons (.row Z (by rw [cw, hv4])) (fk Z))) (.skip (.cons Z .row (.cons Z .row .nil)))))) ?_
 refine au (Ent.freeze 40001 (e' := [(6, _), (7, _), (11, _), (12, _)]) Z (fe [6,7,11,12] Z) (.cons Z (.box (fk Z)) (.cons Z (.box (.cons (.keep Z) (.cons (.row Z (by rw [cw, hc8])) .nil))) (.skip (.cons Z .row .nil))))) ?_
 refine au (Ent.freeze 40002 (e' := [(6, _), (7, _), (11, _), (12, _)]) Z (.cons Z (.keep Z) (.cons Z (.keep Z) (.cons Z (.keep Z) (.cons Z (.c (.row Z (cw _).symm)) .nil)))) (.cons Z (.box (fk Z)) (.cons Z (.box (fk Z)) (.skip .nil)))) ?_
 refine js O Z (jn (ah (ag (js O Z (jn (aq (aH (X := Nat) (fun i => ⟨[(6, .c (.pt 6 0 0)), (7, .c (.d (.slc 5 (P.map Pth.cells)))), (11, .c (.pt 11 0 0)), (12, cz ev), (15, eI (kX i0 i)), (16, eI (i : Nat))], [(6, .box [.d (cG (fh ys []).vars), .d (cG (fh ys []).cells)]), (11, .box [.d (cG vs), .d (cG cs)])]⟩) (fun i => i ≤ P.length) (fun i => P.length - i) 0 ((am [6,11] (e' := [(6, _), (7, _), (11, _), (12, _), (15, _), (16, _)]) Z Z ⟨Z, Z, Z, Z, Z, Z, trivial⟩ Z).trans (Ent.to ⟨Z, Z, Z, Z, Z, Z, trivial⟩ Z)) ?_ (fun i hi => ?_))))))))
 exact dF _
 refine ah (ag (j2 O Z Z ?_))
 first | refine eK O Z ?_ | refine js O Z ?_ | refine fI O Z Z ?_
 refine js O Z (jf [66,6,7,11,12,15,16] Z (jn (ae O Z Z (fun hc66 => ?_) (fun hc66 => ?_))))
 refine ak (ah (aq (ah (ag (js O Z ?_)))))
 have hip : i < P.length := by have := bz hc66; omega
 obtain ⟨r, hr⟩ : ∃ r, r = P.getD i default := ⟨_, rfl⟩
 have hrm : r ∈ P := by rw [hr, aM hip]; exact List.getElem_mem hip
 obtain ⟨hr1, hr2, hr3⟩ := w.frm r hrm
 have hrh := w.hold i hip
 rw [← hr] at hrh
 refine js O Z (aa ((aO O Z Z Z Z Z Z Z Z (cU hip)).cast (v' := ptr (Pth.cells r)) (by rw [← hr])) Z Z Z (j2 O Z Z (aa ((V O Z).cast (v' := eB false) (congrArg eB (by rw [hr1]; simp))) Z Z Z (js O Z (jf [75,66,6,7,11,12,15,16] Z (aZ Z (js O Z (aZ Z (js O Z (aZ Z (aa ((aO O Z Z Z Z Z Z Z Z (cU hip)).cast (v' := ptr (Pth.cells r)) (by rw [← hr])) Z Z Z (jf [78,75,66,6,7,11,12,15,16] Z (aZ Z (js O Z (jf [79,75,66,6,7,11,12,15,16] Z (aZ Z (js O Z (jf [80,75,66,6,7,11,12,15,16] Z (aZ Z (aa ((V O Z).cast (v' := eB false) (congrArg eB (by rw [hr2]; simp))) Z Z Z (aa (aG O Z Z Z Z Z) Z Z Z (js O Z (jf [83,66,6,7,11,12,15,16] Z (aZ Z (js O Z (aZ Z (js O Z (aZ Z (aa ((aO O Z Z Z Z Z Z Z Z (cU hip)).cast (v' := ptr (Pth.cells r)) (by rw [← hr])) Z Z Z ?_)))))))))))))))))))))))))))))
 refine jf [86,83,66,6,7,11,12,15,16] Z (aZ Z (js O Z (jf [87,83,66,6,7,11,12,15,16] Z (aZ Z (js O Z (jf [88,83,66,6,7,11,12,15,16] Z (aZ Z ?_)))))))
 first | refine eK O Z ?_ | refine js O Z ?_ | refine fI O Z Z ?_
 refine jf [89,83,66,6,7,11,12,15,16] Z (aZ Z (aa ((V O Z).cast (v' := eB false) (congrArg eB (by simp [hr3]))) Z Z Z (aa (aG O Z Z Z Z Z) Z Z Z (jf [91,66,6,7,11,12,15,16] Z (jn (ae O Z Z (fun hc91 => ?_) (fun hc91 => ?_)))))))
 exact absurd hc91 (by decide)
 refine ak (ah (ah (fc O [_,_,_,_,_,_,_,_,_] [pn [] 0 0, pn [] 0 0, pn [0,1] 0 0, pn [0,1,2] 0 0, pn (rg 0 4) 0 0, pn [] 0 0, pn [5] 0 0, pe (rg 0 7) 0, pn (rg 0 8) 1 1] [7] [_,_] (kc O Z (kc O Z (ai ((aO O Z Z Z Z Z Z Z Z (cU hip)).cast (v' := ptr (Pth.cells r)) (by rw [← hr])) (kc O Z (kc O Z (kc O Z (kc O Z (ai (bL O (B0 := 100000) Z Z Z Z (y7 (ts := r.facts) (vars := (fh ys []).vars) h1 h2 (w.facts r hrm) (ox (nM hy))) (af Z) Z Z Z Z Z) (kc O Z trivial))))))))) ?_)))
 refine jw [100,91,66,6,7,11,12,15,16] Z (bK ?_)
 refine ae O Z Z (fun hc100 => ?_) (fun hc100 => ?_)
 refine bH (an (js O Z ?_))
 first | refine ji O Z ?_ | refine fI O Z Z ?_
 refine js O Z (jf [16,100,91,66,6,7,11,12,15] Z (jn ?_))
 have hne : i ≠ i0 := cp (by have h9 : (!dg r.facts (fh ys []).vars) = true := hc100; rw [hrh] at h9; simpa using h9)
 refine ⟨i + 1, (am [6,11] (e' := [(6, _), (7, _), (11, _), (12, _), (15, _), (16, _)]) Z Z ⟨Z, Z, Z, Z, Z, Z, trivial⟩ Z).trans (Ent.to ⟨Z, Z, Z, Z, by rw [uQ hne]; rfl, Z, trivial⟩ Z), by omega, by omega⟩
 refine ak (ag (js O Z ?_))
 have hcn := uR (i0 := i0) (i := i)
 have hii : i = i0 := bz (by have h9 : (!dg r.facts (fh ys []).vars) = false := hc100; rw [hrh] at h9; simpa using h9)
 have hre : r.ev = ev := by rw [hr, hii]; exact w.ev
 have hvs : r.ends.map (fun u => aT u (fh ys []).vars) = vs := by rw [hr, hii]; exact w.vs
 refine aa (bc O Z Z (by omega) (by omega)) Z Z Z (js O Z (jf [15,100,91,66,6,7,11,12,16] Z (jn (ah (ag (j2 O Z Z (aa ((aO O Z Z Z Z Z Z Z Z (cU hip)).cast (v' := ptr (Pth.cells r)) (by rw [← hr])) Z Z Z (j3 O Z Z Z (jf [108,107,15,100,91,66,6,7,11,12,16] Z (aB O Z Z Z Z ((y6 (xs := r.ev) (ys := ev) h1 h2).plain (u := eB true) (by rw [decide_eq_true hre])) (af Z) Z Z Z Z Z (B0 := 110000) Z (js O Z (jf [110,15,100,91,66,6,7,11,12,16] Z (jn (ae O Z Z (fun hc110 => ?_) (fun hc110 => ?_)))))))))))))))
 exact absurd hc110 (by decide)
 refine ak (ag (js O Z (jn (aq ?_))))
 have hi0 := hi
 refine aH (X := Nat) (fun k => ⟨[(6, .c (.pt 6 0 0)), (7, .c (.d (.slc 5 (P.map Pth.cells)))), (11, .c (.pt 11 0 0)), (12, cz ev), (15, eI (kX i0 i + 1)), (16, eI (i : Nat)), (17, eI (k : Nat))], [(6, .box [.d (cG (fh ys []).vars), .d (cG (fh ys []).cells)]), (11, .box [.d (cG vs), .d (cG cs)])]⟩) (fun k => k ≤ 4) (fun k => 4 - k) 0 ((am [6,11] (e' := [(6, _), (7, _), (11, _), (12, _), (15, _), (16, _), (17, _)]) Z Z ⟨Z, Z, Z, Z, Z, Z, Z, trivial⟩ Z).trans (Ent.to ⟨Z, Z, Z, Z, Z, Z, Z, trivial⟩ Z)) ?_ (fun k hi => ?_)
 exact dF _
 refine ah (ag (j2 O Z Z (jn (ae O Z Z (fun hc112 => ?_) (fun hc112 => ?_)))))
 refine ak (ah (aq (ah ?_)))
 have hk4 : k < 4 := by have := bz hc112; omega
 have hke : k < r.ends.length := by omega
 have hvk : aT (r.ends.getD k default) (fh ys []).vars = vs.getD k default := by rw [← hvs, tH hke]
 refine fc O [_,_,_,_,_,_,_,_,_,_,_,_,_,_,_,_,_] [pn [] 0 0, pn [] 0 0, pn [0,1] 0 0, pn [0,1,2] 0 0, pn (rg 0 4) 0 0, pn [] 0 0, pn (rg 0 6) 0 0, pn (rg 0 7) 0 0, pn [] 0 0, pn [8] 0 0, pe (rg 0 10) 0, pn [] 0 1, pn [11] 0 1, pn [] 0 1, pn [11,12,13] 0 1, pn (rg 11 4) 0 1, pn (rg 0 16) 1 1] [10] [_,_] (kc O Z (kc O Z (ai ((aO O Z Z Z Z Z Z Z Z (cU hip)).cast (v' := ptr (Pth.cells r)) (by rw [← hr])) (kc O Z (kc O Z (kc O Z (ai (aO O Z Z Z Z Z Z Z Z (cU (by omega))) (kc O Z (kc O Z (kc O Z (ai (bL O (B0 := 126000) Z Z Z Z (vv (t := r.ends.getD k default) (vars := (fh ys []).vars) h1 h2 (w.ends r hrm _ (by rw [aM hke]; exact List.getElem_mem hke)) (ox (nM hy))) (af Z) Z Z Z Z Z) (ai (kc O Z (V O Z)) (ai (kc O Z (V O Z)) (ai (kc O Z (V O Z)) (ai (ai (aO O Z Z Z Z Z Z Z Z (cU (by omega))) (aO O Z Z Z Z Z Z Z Z (cU (by omega)))) (ai (kc O Z (V O Z)) (ai ((V O Z).cast (v' := eB false) (congrArg eB (by rw [hvk]; simp))) trivial))))))))))))))))) ?_
 refine jw [131,112,111,6,7,11,12,15,16,17] Z (bK ?_)
 refine ae O Z Z (fun hc131 => ?_) (fun hc131 => ?_)
 exact absurd hc131 (by decide)
 refine ak (an (js O Z ?_))
 first | refine ji O Z ?_ | refine fI O Z Z ?_
 refine js O Z (jf [17,131,112,111,6,7,11,12,15,16] Z (jn ?_))
 refine ⟨k + 1, (am [6,11] (e' := [(6, _), (7, _), (11, _), (12, _), (15, _), (16, _), (17, _)]) Z Z ⟨Z, Z, Z, Z, Z, Z, Z, trivial⟩ Z).trans (Ent.to ⟨Z, Z, Z, Z, Z, Z, Z, trivial⟩ Z), by omega, by omega⟩
 refine bH (an (js O Z ?_))
 first | refine ji O Z ?_ | refine fI O Z Z ?_
 refine js O Z (jf [16,112,111,6,7,11,12,15,17] Z (jn ?_))
 refine ⟨i + 1, (am [6,11] (e' := [(6, _), (7, _), (11, _), (12, _), (15, _), (16, _)]) Z Z ⟨Z, Z, Z, Z, Z, Z, trivial⟩ Z).trans (Ent.to ⟨Z, Z, Z, Z, by rw [uS hii]; rfl, Z, trivial⟩ Z), by omega, by omega⟩
 refine bH (ag (js O Z ?_))
 have hie : i = P.length := by have := cp hc66; omega
 have hlt := w.lt
 refine aa (((V O Z)).cast (v' := eB true) (congrArg eB (decide_eq_true (show kX i0 i = 1 from if_pos (by omega))))) Z Z Z (js O Z (jf [4,66,6,7,11,12,15,16] Z (jr ?_)))
 refine ⟨.inl Z, _, av, _, Z, ?_⟩
 exact .v (.c .d)
theorem wL {L : Nat} (h1 : 4096 ≤ L) (h2 : L ≤ 9223372036854775807) {xs ys : List Int} : MC Tryz.prog L 5 [.c (.d (bys xs)), .c (.d (bys ys))] [] (Plain (eB (bif decide ((1048576 : Int) < xs.length) then true else decide ((1048576 : Int) < ys.length)))) := by
 refine aY ?_ Z
 have O := uo (nt := 13) h1 h2
 refine MC.body O Tryz.func5 (by kernel_rfl) Z Z (Nat.le_of_ble_eq_true Z) (fun hF => ?_)
 refine ag (js O Z (bn (js O Z ?_)))
 first | refine eK O Z ?_ | refine js O Z ?_ | refine fI O Z Z ?_
 refine j2 O Z Z (jf [8,4,1] Z (aw 3 Z Z Z (fun hx => ab hx Z Z Z (V O Z) Z Z ( ab hx Z Z Z (b9 O Z Z Z Z Z Z Z Z) Z Z ( ab hx Z Z Z (V O Z) Z Z ( AN.nil)))) Z Z ?_))
 first | refine aa (bi O Z Z Z Z Z) Z Z Z ?_ | refine aa (Val.pickB O Z Z Z Z Z) Z Z Z ?_ | refine aa (ar O Z Z Z Z Z) Z Z Z ?_
 refine js O Z (jf [4] Z (jr ?_))
 refine ⟨.inl Z, _, av, _, Z, ?_⟩
 rfl
theorem wP {L : Nat} (h1 : 4096 ≤ L) (h2 : L ≤ 9223372036854775807) {xs ys : List Int} (h0 : (bif decide ((1048576 : Int) < xs.length) then true else decide ((1048576 : Int) < ys.length)) = true) : MC Tryz.prog L 3 [.c (.d (bys xs)), .c (.d (bys ys))] [] (Plain (eB true)) := by
 refine MC.data ?_
 have O := uo (nt := 134) h1 h2
 refine MC.body O Tryz.func3 (by kernel_rfl) Z Z (Nat.le_of_ble_eq_true Z) (fun hF => ?_)
 refine ag (js O Z (jn (ah (ag (j2 O Z Z (aB O Z Z Z Z (wL (xs := xs) (ys := ys) h1 h2) (af Z) Z Z Z Z Z (B0 := 21000) Z (jf [20,4,0,1] Z (jn (ae O Z Z (fun hc20 => ?_) (fun hc20 => ?_))))))))))
 refine ag (js O Z (jr ?_))
 refine ⟨.inl Z, _, av, _, Z, ?_⟩
 exact .v (.c .d)
 exact absurd hc20 (by rw [h0]; decide)
theorem tM {xs ys : List Int} (hx : ∀ n ∈ xs, 0 ≤ n ∧ n ≤ 255) (hy : ∀ n ∈ ys, 0 ≤ n ∧ n ≤ 255) : MC Tryz.prog 1073741824 3 [.c (.d (bys xs)), .c (.d (bys ys))] [] (Plain (eB true)) := by
 cases h0 : (bif decide ((1048576 : Int) < xs.length) then true else decide ((1048576 : Int) < ys.length)) with
 | true => exact wN (by decide) (cN _) h0
 | false =>
  obtain ⟨hp, hfl, hpre, hpost⟩ := u5 hx
  have hB := y8 (L := 1073741824) (by decide) (cN _) hx
  generalize m9 xs = p at hp hfl hpre hpost hB
  obtain ⟨t, ht, htd⟩ := yL hp
  have hv : eN p = true := by rw [← qT]; exact hp
  have htb : po p.body = true := by
   have h := hv
   unfold eN at h; simp only [bM] at h; exact h.1
  obtain ⟨he, hpl⟩ := vH (p := p) (t := t) (ba p.body p.body.length + 1)
  have hP := zr (L := 1073741824) (by decide) (cN _) (by decide) ht
  have hA := zm (L := 1073741824) (by decide) (cN _) ht (by decide)
  have hs := nM (ts := []) hy
  have hRun := AE (L := 1073741824) (by decide) (cN _) (p := p) (s := fh ys []) (f := 600) hv hs (by decide)
  have htr : gG p.body = t := by unfold gG; rw [show vJ p.body = some (t, p.body.length) from ht.tree]
  have hto := (lT htb).1
  rw [htr] at hRun hto
  have hr0 := vi hs (show eL 0 2000 600 = true by decide)
  have hok := (il hto hr0).ok
  have hv0 : (fh ys []).vars.length = 4 := hr0.nv
  have hpa := Af ht hfl hpre (s := fh ys []) (f := 600)
  have hv4 := hok.nv
  have hc8 := hok.nc
  generalize (aU t (r0 (fh ys []) 600)).2 = q at hRun hpa hv4 hc8
  generalize ii p t (ba p.body p.body.length + 1) = x at he hpl hP hpa
  generalize fJ p t (ba p.body p.body.length + 1) = y at he hA
  cases hb : x.bad with
  | true =>
   rw [hb] at hP
   rw [show y.bad = true from he.bad ▸ hb] at hA
   exact wO (by decide) (cN _) h0 hB (xm (by decide) (cN _) (xi (by decide) (cN _) hv htd ht hP)) (vB (by decide) (cN _) hp hA) hRun hv4 hc8 hy
  | false =>
   have e := he.eq hb
   subst e
   rw [hb] at hP hA
   have hQ := xl (by decide) (cN _) (xh (by decide) (cN _) hv htd ht hP)
   have hS := vB (by decide) (cN _) hp hA
   by_cases ho : q.out = 0
   obtain ⟨i0, hw⟩ := hpa hb hv0 ho
   rw [ho] at hRun
   exact y9 (by decide) (cN _) h0 hB hQ hS hRun hv4 hc8 hy hw (by have := hpl hb; omega)
   exact wM (by decide) (cN _) h0 hB hQ hS hRun hv4 hc8 hy ho
theorem lP {L M : Nat} : ∀ {xs : List Int}, Dss.fact L (List.map (fun n => [D.int IntKind.u8 n]) xs) → Dss.fact M (List.map (fun n => [D.int IntKind.u8 n]) xs)
 | [], _ => trivial
 | x :: xs, h => by
  have ih := lP (L := L) (M := M) (xs := xs)
  simp only [List.map_cons, Dss.fact, Ds.fact, D.fact] at h ⊢
  exact ⟨h.1, ih h.2⟩
theorem law1187 {L : Nat} (h1 : 4096 ≤ L) (h2 : L ≤ 9223372036854775807) {xs ys : List Int} (hx : ∀ n ∈ xs, 0 ≤ n ∧ n ≤ 255) (hy : ∀ n ∈ ys, 0 ≤ n ∧ n ≤ 255) : MC Tryz.prog L 3 [.c (.d (bys xs)), .c (.d (bys ys))] [] (Plain (eB true)) := by
 cases h0 : (bif decide ((1048576 : Int) < xs.length) then true else decide ((1048576 : Int) < ys.length)) with
 | true => exact wP h1 h2 h0
 | false =>
  have hl : xs.length ≤ 1048576 ∧ ys.length ≤ 1048576 := by
   cases ha : decide ((1048576 : Int) < xs.length) with
   | true => rw [ha] at h0; cases h0
   | false =>
    rw [ha] at h0
    have := cp ha
    have := cp h0
    omega
  refine MC.facts ⟨_, _, Tryz.func3, by kernel_rfl, Z⟩ fun hF => ?_
  refine u6 (L0 := 1073741824) Z ?_ (tM hx hy)
  simp [As.fact, A.fact, M.fact, D.fact, Ds.fact] at hF ⊢
  exact ⟨⟨by omega, lP hF.1.2⟩, ⟨by omega, lP hF.2.2⟩⟩
end Go.Al
