/- What is reached, leaders; states and code that are drawn. -/
import Derived.Test.YtikejfdfkemmmaaM
import Derived.Test.YtikejfdfkemmmaaQ
import Derived.Test.YtikejfdfkemmmaaC
set_option linter.unusedVariables false
set_option linter.unusedSimpArgs false
set_option maxRecDepth 10000
set_option maxHeartbeats 4000000
open Go.Proofs
namespace Go.Al
variable {L : Nat} (h1 : 4096 ≤ L) (h2 : L ≤ 1073741824)
def fq (bs : List Bool) : Nat → List Int
  | 0 => []
  | i + 1 => if bs.getD i default = true then fq bs i ++ [(i : Int)] else fq bs i
theorem nu {bs : List Bool} {i : Nat} (h : bs.getD i default = true) : fq bs (i + 1) = fq bs i ++ [(i : Int)] := if_pos h
theorem nv {bs : List Bool} {i : Nat} (h : bs.getD i default = false) : fq bs (i + 1) = fq bs i := if_neg (by rw [h]; decide)
theorem gG {bs : List Bool} : ∀ {i : Nat}, (fq bs i).length ≤ i
 | 0 => by simp [fq]
 | i + 1 => by
  have := gG (bs := bs) (i := i)
  rw [fq]; split
  simp; omega
  omega
theorem kM {bs : List Bool} {q : Nat} : ∀ {n : Nat}, ((q : Int) ∈ fq bs n) ↔ q < n ∧ bs.getD q default = true
 | 0 => by simp [fq]
 | n + 1 => by
  have ih := kM (bs := bs) (q := q) (n := n)
  rw [fq]
  split
  rename_i h
  rw [List.mem_append, ih, List.mem_singleton]
  constructor
  rintro (h1 | h1)
  exact ⟨by omega, h1.2⟩
  have : q = n := by omega
  subst this; exact ⟨by omega, h⟩
  intro h1
  by_cases e : q = n
  exact .inr (by rw [e])
  exact .inl ⟨by omega, h1.2⟩
  rename_i h
  rw [ih]
  constructor
  intro h1; exact ⟨by omega, h1.2⟩
  intro h1
  have : q ≠ n := fun e => h (by rw [← e]; exact h1.2)
  exact ⟨by omega, h1.2⟩
abbrev bls (u : List Bool) : D := .slc 1 (u.map bL)
abbrev pf (u : List Bool) : A := .c (.d (bls u))
theorem jX {c : List In} (h : br c = true) : m2 c := by
 have h1 := bO h
 refine ⟨h1.2.2, fun x hx hj => qe (h1.1 x hx) ?_⟩
 unfold c8 at hj
 simpa using hj
def dF (c : List In) : Nat → List Bool
  | 0 => (List.replicate (c.length + 80 + 1) false).set 0 true
  | i + 1 => if (c8 (c.getD i default) || decide ((c.getD i default).op = 11)) = true then (if c8 (c.getD i default) = true then (dF c i).set (c.getD i default).a.toNat true else dF c i).set (i + 1) true
      else (if c8 (c.getD i default) = true then (dF c i).set (c.getD i default).a.toNat true else dF c i)
theorem eY {c : List In} : ∀ {i : Nat}, (dF c i).length = c.length + 81
 | 0 => by simp [dF]
 | i + 1 => by
  have h := eY (c := c) (i := i)
  rw [dF]; split <;> split <;> simp [h]
abbrev lu (c : List In) : List Bool := (dF c c.length).take c.length
theorem iz {c : List In} : (lu c).length = c.length := by rw [List.length_take, eY]; omega
theorem nF {u : List Bool} (hl : u.length ≤ L) : MQ h1 h2 21 [pf u] [] (Rows (.c (.rs 0 0 (fq u u.length).length)) [ah (fq u u.length)]) := by
 refine b9 (jB 20 h1 h2 Try.func21 Z Z Z fun O hF => ?_)
 refine ac (js O Z (aW (js O Z (jn (ak (ac (js O Z ?_)))))))
 first | refine cw O Z ?_ | refine js O Z ?_ | refine bm O Z Z ?_
 refine js O Z (jn (aq (aG (X := Nat) (fun i => ⟨[(3, .c (.rs 900 0 (fq u i).length)), (6, pf u), (7, eI u.length), (8, eI i)], [(900, ah (fq u i))]⟩) (fun i => i ≤ u.length) (fun i => u.length - i) 0 ((fV 3 900 1 true Z Z).trans (Ent.to (e' := [(3, _), (6, _), (7, _), (8, _)]) ⟨Z, Z, Z, Z, trivial⟩ Z)) ?_ (fun i hi => ?_))))
 exact ga _
 refine ac (js O Z (jn (ak (aa O Z Z (fun hc9 => ?_) (fun hc9 => ?_)))))
 refine am (ak (aq (ac ?_)))
 have hil : i < u.length := by have := ay hc9; omega
 have hxl := gG (bs := u) (i := i)
 refine js O Z (AOps.step (cT O Z Z Z Z Z Z Z Z (iP hil)) Z Z Z (j3 O Z Z Z (jf [5,4,9,3,6,7,8] Z (aW (js O Z (jn (aa O Z Z (fun hc13 => ?_) (fun hc13 => ?_))))))))
 refine ae (j2 O Z Z (jf [15,14,13,5,9,3,6,7,8] Z (AOps.heap (bg O Z Z Z) Z (au ?_))))
 refine jf [16,14,13,5,9,3,6,7,8] Z (AOps.heap (aO (zs := (fq u i ++ [(i : Int)]).map fun n => [.int .i64 n]) (n := ((fq u i).length + 1)) O Z Z Z Z Z Z Z Z Z Z Z Z Z Z Z Z (.row Z (dE _).symm) Z Z (by decide) Z (by simp; omega) (by simp; omega) (by simp) (by simp)) Z (au ?_))
 refine au ?_
 refine js O Z (jf [3,13,5,9,6,7,8] Z (jn (ae ?_)))
 first | refine ji O Z ?_ | refine bm O Z Z ?_
 refine js O Z (jn ?_)
 refine ⟨i + 1, ((aN [17] (e' := [(3, _), (6, _), (7, _), (8, _)]) Z Z ⟨Z, Z, Z, Z, trivial⟩ Z).trans (aj 17 900 Z Z)).trans (Ent.to ⟨by rw [nu hc13, cx]; rfl, Z, Z, Z, trivial⟩ (by rw [nu hc13]; rfl)), by omega, by omega⟩
 refine am (ae ?_)
 first | refine ji O Z ?_ | refine bm O Z Z ?_
 refine js O Z (jn ?_)
 refine ⟨i + 1, Ent.to ⟨by rw [nv hc13]; rfl, Z, Z, Z, trivial⟩ (by rw [nv hc13]), by omega, by omega⟩
 refine bF (ac (j2 O Z Z (jr ?_)))
 have hie : i = u.length := by have := bh hc9; omega
 rw [← hie]
 refine ⟨.inl Z, _, ap, _, Z, [900], by decide, Z, Z, Z⟩
variable {xs : List Int}
theorem er {z : Int} : MQ h1 h2 12 [aT xs, eI z] [] (Plain (eB (decide (z ∈ xs)))) := by
 refine aI ?_ Z
 refine jB 18 h1 h2 Try.func12 Z Z Z fun O hF => ?_
 have hl : xs.length ≤ L := by simpa [As.fact, A.fact, M.fact, D.fact, Ds.fact] using hF.1.1
 refine ac (js O Z (jn (ak (ac (js O Z (jn (aq (aG (X := Nat) (fun i => ⟨[(0, aT xs), (1, eI z), (5, eI i)], []⟩) (fun i => i ≤ xs.length ∧ ∀ j, j < i → xs.getD j default ≠ z) (fun i => xs.length - i) 0 (Ent.env ⟨Z, Z, Z, trivial⟩) ?_ (fun i hi => ?_)))))))))
 exact ⟨ga _, fun j hj => absurd hj (Nat.not_lt_zero j)⟩
 refine ak (ac (j2 O Z Z ?_))
 first | refine cw O Z ?_ | refine js O Z ?_ | refine bm O Z Z ?_
 refine js O Z (jf [9,0,1,5] Z (jn (aa O Z Z (fun hc9 => ?_) (fun hc9 => ?_))))
 refine am (ak (aq (ac (j2 O Z Z ?_))))
 first | refine lx O Z Z ?_ | refine lv O Z Z ?_ | refine bm O Z Z ?_
 refine j3 O Z Z Z (jf [17,9,0,1,5] Z (jn (aa O Z Z (fun hc17 => ?_) (fun hc17 => ?_))))
 refine ac (js O Z (jr ?_))
 refine ⟨.inl Z, _, ap, _, Z, ?_⟩
 have hil : i < xs.length := by have := ay hc9; omega
 have h9 : xs.getD i default = z := ay hc17
 rw [decide_eq_true (show z ∈ xs by rw [← h9, aM hil]; exact List.getElem_mem hil)]
 refine am (ae (js O Z ?_))
 first | refine ji O Z ?_ | refine bm O Z Z ?_
 refine js O Z (jf [5,17,9,0,1] Z (jn ?_))
 have hil : i < xs.length := by have := ay hc9; omega
 refine ⟨i + 1, Ent.env ⟨Z, Z, Z, trivial⟩, ⟨by omega, fun j hj => ?_⟩, by omega⟩
 rcases Nat.lt_or_ge j i with h | h
 exact hi.2 j h
 obtain rfl : j = i := by omega
 exact bh hc17
 refine bF (ac (js O Z (jr ?_)))
 refine ⟨.inl Z, _, ap, _, Z, ?_⟩
 rw [decide_eq_false (fun h => ?_)]
 obtain ⟨j, hj, e⟩ := List.getElem_of_mem h
 exact hi.2 j (by have := bh hc9; omega) (by rw [aM hj, e])
variable {code : List In}
theorem pP {s : Sx} {F : Nat} (hcb : br code = true) (hs : lr s = true) (hF2 : F ≤ 2000) : MQ h1 h2 10 [bf code, jE s, eI F] [] (Rows (.tup [.c (.rs 0 0 (bA code F (eF code s)).cnt.length), eB true]) [ah (bA code F (eF code s)).cnt]) := by
 refine b9 (jB 23 h1 h2 Try.func10 Z Z Z fun O hF => ?_)
 obtain ⟨R, hR⟩ : ∃ R, R = (bA code F (eF code s)) := ⟨_, rfl⟩
 rw [← hR]
 have hC : MC Try.prog L 24 [bf code, jE s, eI F] [] (bB (.tup [.c (.pt 0 0 0), eB true]) (qp R)) := by rw [hR]; exact nD (code := code) (s := s) (F := F) h1 h2 hcb hs hF2
 refine ac (jx O Z (au ?_))
 refine aF (Ent.freeze 4 (e' := [(4, _), (0, _), (1, _), (2, _)]) Z (.cons Z (.c (.box (cs := Sx.data s) Z (ba Z))) (fe [0,1,2] Z)) (.skip .nil)) ?_
 refine au ?_
 refine j2 O Z Z (aW (j3 O Z Z Z (jf [13,12,11,7,6,1] Z (io O Z Z Z Z (hC) (ab Z) Z Z Z Z (B0 := 15000) Z (au ?_)))))
 refine j4 O Z Z Z Z (js O Z (jf [9,8,7,6,1] Z (jn (ak (ac (j2 O Z Z (jf [18,8,7,6,1] Z (jn (aa O Z Z (fun hc18 => ?_) (fun hc18 => ?_))))))))))
 exact absurd hc18 (by decide)
 refine am (ac (j4 O Z Z Z Z (j2 O Z Z (jf [7,6,1] Z (jr ?_)))))
 refine ⟨.inl Z, _, ap, _, Z, [15005], by decide, Z, Z, Z⟩
theorem ol {L : Nat} (h1 : 4096 ≤ L) (h2 : L ≤ 1073741824) {code : List In} {s : Sx} {F : Nat} (hcb : br code = true) (hs : lr s = true) (hF2 : F ≤ 2000) : MC Try.prog L 10 [bf code, jE s, eI F] [] (Plain (.tup [aT (bA code F (eF code s)).cnt, eB true])) := (pP h1 h2 hcb hs hF2).frozen (.tup (.cons (.c (.whole rfl (dE _).symm)) (.cons (.c .d) .nil)))
theorem pO {s : Sx} {F : Nat} (hcb : br code = true) (hs : lr s = true) (hF2 : F ≤ 2000) : MQ h1 h2 11 [bf code, jE s, eI F] [] (Rows (.tup [.agg [.rs 0 0 (bA code F (eF code s)).c.vars.length, .rs 1 0 (bA code F (eF code s)).c.cells.length], .c (.rs 2 0 (bA code F (eF code s)).ev.length), eI (bA code F (eF code s)).out, eB true]) [ah (bA code F (eF code s)).c.vars, ah (bA code F (eF code s)).c.cells, ah (bA code F (eF code s)).ev]) := by
 refine b9 (jB 35 h1 h2 Try.func11 Z Z Z fun O hF => ?_)
 obtain ⟨R, hR⟩ : ∃ R, R = (bA code F (eF code s)) := ⟨_, rfl⟩
 rw [← hR]
 have hC : MC Try.prog L 24 [bf code, jE s, eI F] [] (bB (.tup [.c (.pt 0 0 0), eB true]) (qp R)) := by rw [hR]; exact nD (code := code) (s := s) (F := F) h1 h2 hcb hs hF2
 refine ac (jx O Z (au ?_))
 refine aF (Ent.freeze 4 (e' := [(4, _), (0, _), (1, _), (2, _)]) Z (.cons Z (.c (.box (cs := Sx.data s) Z (ba Z))) (fe [0,1,2] Z)) (.skip .nil)) ?_
 refine au ?_
 refine jf [4,0,2] Z (jl O Z (au ?_))
 refine j3 O Z Z Z (aW (j3 O Z Z Z (jf [15,14,13,9,8,7,6] Z (io O Z Z Z Z (hC) (ab Z) Z Z Z Z (B0 := 17000) Z (au ?_)))))
 refine j4 O Z Z Z Z (js O Z (jf [11,10,9,8,7,6] Z (jn (ak (ac (j2 O Z Z (jf [20,10,9,8,7,6] Z (jn (aa O Z Z (fun hc20 => ?_) (fun hc20 => ?_))))))))))
 exact absurd hc20 (by decide)
 refine am (ak (jw [10,6] Z (gW O [_,_,_,_,_,_,_,_,_,_,_,_,_,_,_,_,_] [pn [] 0 0, pn [0] 0 0, pn [0,1] 0 0, pn [0,1,2] 0 0, pn (rg 0 4) 0 0, pn [] 0 1, pn [5] 0 1, pn [5,6] 0 1, pn [5,6,7] 0 1, pn [] 0 1, pn [9] 0 1, pn [9,10] 0 1, pn [9,10,11] 0 1, pe (rg 0 5) 0, pn (rg 0 9++[13]) 1 1, pn (rg 0 15) 1 1, pn (rg 0 16) 1 1] [13] [_,_] (kc O Z (kc O Z (kc O Z (kc O Z (kc O Z (ai (kc O Z (V O Z)) (ai (kc O Z (V O Z)) (ai (kc O Z (V O Z)) (ai (kc O Z (V O Z)) (ai (kc O Z (V O Z)) (ai (kc O Z (V O Z)) (ai (kc O Z (V O Z)) (ai (kc O Z (V O Z)) (ai (eS O Z Z Z) (kc O Z (kc O Z (kc O Z trivial))))))))))))))))) ?_)))
 refine jw [9,8,7,6] Z (dw ?_)
 refine oK ?_
 refine ⟨.inl Z, _, ap, _, Z, [17001,17002,17004], by decide, Z, Z, Z⟩
theorem oi {L : Nat} (h1 : 4096 ≤ L) (h2 : L ≤ 1073741824) {code : List In} {s : Sx} {F : Nat} (hcb : br code = true) (hs : lr s = true) (hF2 : F ≤ 2000) : MC Try.prog L 11 [bf code, jE s, eI F] [] (Plain (.tup [.agg [.d (dH (bA code F (eF code s)).c.vars), .d (dH (bA code F (eF code s)).c.cells)], aT (bA code F (eF code s)).ev, eI (bA code F (eF code s)).out, eB true])) := (pO h1 h2 hcb hs hF2).frozen (.tup (.cons (.agg (.cons (.whole rfl (dE _).symm) (.cons (.whole rfl (dE _).symm) .nil))) (.cons (.c (.whole rfl (dE _).symm)) (.cons (.c .d) (.cons (.c .d) .nil)))))
theorem pN {k : Nat} (hcb : br code = true) (hk : k < code.length) : MQ h1 h2 13 [bf code, eI k] [] (Rows (.tup [.c (.rs 0 0 (tg (code.getD k default) k).length), eB true]) [ah (tg (code.getD k default) k)]) := by
 refine b9 (jB 19 h1 h2 Try.func13 Z Z Z fun O hF => ?_)
 have hin := bO hcb
 refine ac (j2 O Z Z (jn (ak (ac (js O Z (af O Z Z Z Z ((lK (c := code) h1 h2).plain (u := eB true) (by rw [hcb])) (ab Z) Z Z Z Z Z (B0 := 8000) Z (j2 O Z Z (jf [9,5,4,0,1] Z (aV Z (js O Z (aV Z (js O Z (aV Z ?_)))))))))))))
 first | refine cw O Z ?_ | refine js O Z ?_ | refine bm O Z Z ?_
 refine jf [12,10,9,5,4,0,1] Z (aV Z (af O Z Z Z Z ((nl (k := (k : Int)) (n := code.length) h1 h2 (by omega)).plain (u := eB true) (congrArg eB (eZ.2 ⟨by omega, by omega⟩))) (ab Z) Z Z Z Z Z (B0 := 14000) Z (jf [13,9,5,4,0,1] Z (aV Z (js O Z (AOps.step (ax O Z Z Z Z Z) Z Z Z (jf [15,5,4,0,1] Z (jn (aa O Z Z (fun hc15 => ?_) (fun hc15 => ?_))))))))))
 exact absurd hc15 (by decide)
 refine am (ac (j2 O Z Z (jf [17,16,5,4,0,1] Z (dv O (B0 := 19000) Z Z Z Z (lY (c := code) (k := k) h1 h2 hk (by omega)) (ab Z) Z Z Z Z Z Z (au ?_)))))
 refine j2 O Z Z (jf [5,4,0,1] Z (jr ?_))
 refine ⟨.inl Z, _, ap, _, Z, [19000], by decide, Z, Z, Z⟩
theorem mi {L : Nat} (h1 : 4096 ≤ L) (h2 : L ≤ 1073741824) {code : List In} {k : Nat} (hcb : br code = true) (hk : k < code.length) : MC Try.prog L 13 [bf code, eI k] [] (Plain (.tup [aT (tg (code.getD k default) k), eB true])) := (pN h1 h2 hcb hk).frozen (.tup (.cons (.c (.whole rfl (dE _).symm)) (.cons (.c .d) .nil)))
theorem pR (hcb : br code = true) : MQ h1 h2 8 [bf code] [] (Rows (.tup [.c (.rs 0 0 (fq (bz code [0]) (bz code [0]).length).length), eB true]) [ah (fq (bz code [0]) (bz code [0]).length)]) := by
 refine b9 (jB 11 h1 h2 Try.func8 Z Z Z fun O hF => ?_)
 have hin := bO hcb
 refine ac (j2 O Z Z (jn (ak (ac (js O Z (af O Z Z Z Z ((lK (c := code) h1 h2).plain (u := eB true) (by rw [hcb])) (ab Z) Z Z Z Z Z (B0 := 6000) Z (js O Z (jf [6,3,2,0] Z (jn (aa O Z Z (fun hc6 => ?_) (fun hc6 => ?_)))))))))))
 exact absurd hc6 (by decide)
 refine am (ac (js O Z (jf [7,3,2,0] Z (AOps.heap (bg O Z Z Z) Z (au ?_)))))
 refine al O [8] (bin := [ah [0]]) Z Z Z Z (qc (c := code) (st := [0]) h1 h2 (jX hcb) (by simp) (by simp)) Z Z Z Z Z Z (B0 := 10000) Z Z (au ?_)
 refine jf [9,3,2,0] Z (dv O (B0 := 11000) Z Z Z Z (nF (u := (bz code [0])) h1 h2 (by rw [ck]; omega)) (.cons (.c (.whole Z (by rw [dE, ck]))) .nil) Z Z Z Z Z Z (au ?_))
 refine j2 O Z Z (jf [3,2,0] Z (jr ?_))
 refine ⟨.inl Z, _, ap, _, Z, [11000], by decide, Z, Z, Z⟩
theorem oo {L : Nat} (h1 : 4096 ≤ L) (h2 : L ≤ 1073741824) {code : List In} (hcb : br code = true) : MC Try.prog L 8 [bf code] [] (Plain (.tup [aT (fq (bz code [0]) (bz code [0]).length), eB true])) := (pR h1 h2 hcb).frozen (.tup (.cons (.c (.whole rfl (dE _).symm)) (.cons (.c .d) .nil)))
theorem qN {a b : Bool} (h : (bif a then true else b) = true) : (a || b) = true := by cases a <;> cases b <;> simp_all
theorem pA {a b : Bool} (h : (bif a then true else b) = false) : (a || b) = false := by cases a <;> cases b <;> simp_all
theorem pQ (hcb : br code = true) : MQ h1 h2 9 [bf code] [] (Rows (.tup [.c (.rs 0 0 (fq (lu code) (lu code).length).length), eB true]) [ah (fq (lu code) (lu code).length)]) := by
 refine b9 (jB 47 h1 h2 Try.func9 Z Z Z fun O hF => ?_)
 have hin := bO hcb
 have htg := jX hcb
 refine ac (j2 O Z Z (jn (ak (ac (js O Z (af O Z Z Z Z ((lK (c := code) h1 h2).plain (u := eB true) (by rw [hcb])) (ab Z) Z Z Z Z Z (B0 := 9000) Z (js O Z (jf [9,3,2,0] Z (jn (aa O Z Z (fun hc9 => ?_) (fun hc9 => ?_)))))))))))
 exact absurd hc9 (by decide)
 refine am (ac (js O Z ?_))
 first | refine cw O Z ?_ | refine js O Z ?_ | refine bm O Z Z ?_
 first | refine ji O Z ?_ | refine bm O Z Z ?_
 first | refine ji O Z ?_ | refine bm O Z Z ?_
 refine jf [13,3,2,0] Z (AOps.heap (f7 O Z Z Z Z Z Z Z Z Z (by first | omega | (simp at *; omega)) (by first | omega | (simp at *; omega)) (by first | omega | (simp at *; omega)) (by first | omega | (dsimp only; omega) | (simp only [bv] at *; omega)) (by first | omega | (simp at *; omega)) Z Z Z) Z (au ?_))
 refine js O Z (jf [4,3,2,0] Z (aW (js O Z ?_)))
 rw [show List.replicate ((code.length : Int) + 80 + 1).toNat [D.bool false] = (List.replicate (code.length + 80 + 1) false).map bL by rw [List.map_replicate]; exact congrArg (fun n => List.replicate n [D.bool false]) (by omega)]
 refine AOps.step (az O Z Z (by omega)) Z Z Z (jf [16,4,3,2,0] Z (AOps.heap (bd (ex := bL false) (xs' := (dF code 0).map bL) O Z Z Z Z Z Z Z Z Z Z Z Z Z Z (by simp [bL]) (by rw [dF, List.map_set]; rfl)) Z (au ?_)))
 refine au ?_
 refine jn (ak (ac (js O Z ?_)))
 first | refine cw O Z ?_ | refine js O Z ?_ | refine bm O Z Z ?_
 refine js O Z (jn (aq (aG (X := Nat) (fun i => ⟨[(0, bf code), (4, .c (.rs 900 0 (code.length + 81))), (17, bf code), (18, eI code.length), (19, eI i)], [(900, lL (dF code i))]⟩) (fun i => i ≤ code.length) (fun i => code.length - i) 0 ((aj 14 900 Z Z).trans (Ent.to ⟨Z, Z, Z, Z, Z, trivial⟩ Z)) ?_ (fun i hi => ?_))))
 exact ga _
 refine ac (js O Z (jn (ak (aa O Z Z (fun hc20 => ?_) (fun hc20 => ?_)))))
 refine am (ak (aq (ac (js O Z ?_))))
 have hil : i < code.length := by have := ay hc20; omega
 obtain ⟨x, hx⟩ : ∃ x, x = code.getD i default := ⟨_, rfl⟩
 have hja : c8 x = true → 0 ≤ x.a ∧ x.a ≤ 79 := by rw [hx, aM hil]; exact htg.2 _ (List.getElem_mem hil)
 have hll := eY (c := code) (i := i)
 refine AOps.step ((cT O Z Z Z Z Z Z Z Z (iP hil)).cast (v' := ptr (In.cells x)) (by rw [hx])) Z Z Z (js O Z (jf [23,21,20,0,4,17,18,19] Z (jl O Z (au ?_))))
 refine js O Z (jf [5,6,23,20,0,4,17,18,19] Z (jo O Z (au ?_)))
 refine aF (Ent.freeze 6 (e' := [(6, _), (0, _), (4, _), (5, _), (17, _), (18, _), (19, _)]) Z (.cons Z (.c (.box (cs := In.cells x) Z (ba Z))) (fe [0,4,5,17,18,19] Z)) (.skip (.cons Z .row .nil))) ?_
 refine au ?_
 refine jn (ak (ac (js O Z (af O Z Z Z Z (nQ (x := x) h1 h2) (ab Z) Z Z Z Z Z (B0 := 26000) Z (jn (aa O Z Z (fun hc25 => ?_) (fun hc25 => ?_)))))))
 refine ae (j3 O Z Z Z ?_)
 have hj := hja hc25
 refine AOps.step (az O Z Z (by omega)) Z Z Z (jf [29,25,24,6,0,4,5,17,18,19] Z (AOps.heap (bd (ex := bL ((dF code i).getD x.a.toNat default)) (xs' := ((dF code i).set x.a.toNat true).map bL) O Z Z Z Z Z Z Z Z Z Z Z Z Z Z (lw (by omega) (by omega)) (nI (v := true) (by omega) Z)) Z (au ?_)))
 refine au ?_
 refine aW (js O Z (af O Z Z Z Z (nQ (x := x) h1 h2) (ab Z) Z Z Z Z Z (B0 := 32000) Z (js O Z (jf [32,29,25,24,6,0,4,5,17,18,19] Z (aU 3 Z Z Z (fun hx => AN.step hx Z Z Z (V O Z) Z Z ( AN.step hx Z Z Z (V O Z) Z Z ( AN.step hx Z Z Z (V O Z) Z Z ( AN.nil)))) Z Z ?_)))))
 first | refine AOps.step (aQ O Z Z Z Z Z) Z Z Z ?_ | refine AOps.step (Val.pickB O Z Z Z Z Z) Z Z Z ?_ | refine AOps.step (aB O Z Z Z Z Z) Z Z Z ?_
 refine jf [36,29,25,24,6,0,4,5,17,18,19] Z (jn (aa O Z Z (fun hc36 => ?_) (fun hc36 => ?_)))
 refine ae (j2 O Z Z ?_)
 first | refine ji O Z ?_ | refine bm O Z Z ?_
 refine AOps.step (az O Z Z (by omega)) Z Z Z (jf [40,36,29,25,24,6,0,4,17,18,19] Z (AOps.heap (bd (ex := bL (((dF code i).set x.a.toNat true).getD (i + 1) default)) (xs' := (((dF code i).set x.a.toNat true).set (i + 1) true).map bL) O Z Z Z Z Z Z Z Z Z Z Z Z Z Z (lw (by rw [List.length_set]; omega) (by omega)) (nI (v := true) (by omega) Z)) Z (au ?_)))
 refine au ?_
 refine jn (ae ?_)
 first | refine ji O Z ?_ | refine bm O Z Z ?_
 refine js O Z (jn ?_)
 have hE : dF code (i + 1) = ((dF code i).set x.a.toNat true).set (i + 1) true := by rw [dF, ← hx]; rw [hc25, Bool.true_or, if_pos Z, if_pos Z]
 refine ⟨i + 1, Ent.to ⟨Z, Z, Z, Z, Z, trivial⟩ (by rw [hE]), by omega, by omega⟩
 refine am (ae ?_)
 first | refine ji O Z ?_ | refine bm O Z Z ?_
 refine js O Z (jn ?_)
 exact absurd (qY hc36).1 (by rw [hc25]; decide)
 refine am (ac (js O Z (af O Z Z Z Z (nQ (x := x) h1 h2) (ab Z) Z Z Z Z Z (B0 := 32000) Z (js O Z (jf [32,25,24,6,0,4,5,17,18,19] Z (aU 3 Z Z Z (fun hx => AN.step hx Z Z Z (V O Z) Z Z ( AN.step hx Z Z Z (V O Z) Z Z ( AN.step hx Z Z Z (V O Z) Z Z ( AN.nil)))) Z Z ?_))))))
 first | refine AOps.step (aQ O Z Z Z Z Z) Z Z Z ?_ | refine AOps.step (Val.pickB O Z Z Z Z Z) Z Z Z ?_ | refine AOps.step (aB O Z Z Z Z Z) Z Z Z ?_
 refine jf [36,25,24,6,0,4,5,17,18,19] Z (jn (aa O Z Z (fun hc36 => ?_) (fun hc36 => ?_)))
 refine ae (j2 O Z Z ?_)
 first | refine ji O Z ?_ | refine bm O Z Z ?_
 refine AOps.step (az O Z Z (by omega)) Z Z Z (jf [40,36,25,24,6,0,4,17,18,19] Z (AOps.heap (bd (ex := bL ((dF code i).getD (i + 1) default)) (xs' := ((dF code i).set (i + 1) true).map bL) O Z Z Z Z Z Z Z Z Z Z Z Z Z Z (lw (by omega) (by omega)) (nI (v := true) (by omega) Z)) Z (au ?_)))
 refine au ?_
 refine jn (ae ?_)
 first | refine ji O Z ?_ | refine bm O Z Z ?_
 refine js O Z (jn ?_)
 have hE : dF code (i + 1) = (dF code i).set (i + 1) true := by rw [dF, ← hx]; rw [show (c8 x || decide (x.op = 11)) = true from qN hc36, if_pos Z, if_neg (by rw [hc25]; decide)]
 refine ⟨i + 1, Ent.to ⟨Z, Z, Z, Z, Z, trivial⟩ (by rw [hE]), by omega, by omega⟩
 refine am (ae ?_)
 first | refine ji O Z ?_ | refine bm O Z Z ?_
 refine js O Z (jn ?_)
 have hE : dF code (i + 1) = dF code i := by rw [dF, ← hx]; rw [show (c8 x || decide (x.op = 11)) = false from pA hc36, if_neg (by decide), if_neg (by rw [hc25]; decide)]
 refine ⟨i + 1, Ent.to ⟨Z, Z, Z, Z, Z, trivial⟩ (by rw [hE]), by omega, by omega⟩
 refine bF (ac ?_)
 have hin2 : i = code.length := by have := bh hc20; omega
 rw [hin2]
 refine j2 O Z Z ?_
 first | refine cw O Z ?_ | refine js O Z ?_ | refine bm O Z Z ?_
 refine AOps.step (aJ O Z Z Z Z Z Z Z Z Z Z (by omega)) Z Z Z (aF (Ent.cut 900 code.length Z) (au ?_))
 rw [← List.map_take]
 refine jf [45,20,0,4,17,18,19] Z (dv O (B0 := 47000) Z Z Z Z (nF (u := lu code) h1 h2 (by rw [iz]; omega)) (.cons (.c (.whole Z (by rw [dE, iz]))) .nil) Z Z Z Z Z Z (au ?_))
 refine j2 O Z Z (jf [3,2,20,0,4,17,18,19] Z (jr ?_))
 refine ⟨.inl Z, _, ap, _, Z, [47000], by decide, Z, Z, Z⟩
def gS : Nat → Src → List Int → List Int × Src
  | 0, s, xs => (xs, s)
  | k + 1, s, xs => gS k (s.pick 9).2 (xs ++ [(s.pick 9).1 - 2])
theorem og : ∀ {k : Nat} {s : Src} {xs : List Int}, (gS k s xs).2.at_ ≤ s.at_ + 2 * k
 | 0, s, xs => cZ _
 | k + 1, s, xs => by
  have h1 := og (k := k) (s := (s.pick 9).2) (xs := xs ++ [(s.pick 9).1 - 2])
  have h2 := aX (s := s) (n := 9)
  rw [gS]; omega
theorem jQ : ∀ {k : Nat} {s : Src} {xs : List Int}, s.Ok → (gS k s xs).2.Ok
 | 0, s, xs, h => h
 | k + 1, s, xs, h => by rw [gS]; exact jQ h.pick
theorem iB : ∀ {k : Nat} {s : Src} {xs : List Int}, (gS k s xs).1.length = xs.length + k
 | 0, s, xs => rfl
 | k + 1, s, xs => by rw [gS, iB, cx, gb]; omega
theorem jR : ∀ {k : Nat} {s : Src} {xs : List Int}, s.Ok → (∀ n ∈ xs, -2 ≤ n ∧ n ≤ 6) → ∀ n ∈ (gS k s xs).1, -2 ≤ n ∧ n ≤ 6
 | 0, s, xs, h, hx => hx
 | k + 1, s, xs, h, hx => by
  have h0 := aR h (n := 9) (by omega)
  rw [gS]
  refine jR h.pick (fun n hn => ?_)
  rcases List.mem_append.1 hn with h1 | h1
  exact hx n h1
  rw [List.mem_singleton.1 h1]; omega
abbrev iO (xs : List Int) : B := .row false 1 (xs.map fun n => [D.int .i64 n])
def nO (vs cs : List Int) (s : Src) : Sx × Src := if (s.pick 8).1 = 0 then (⟨vs.set 0 ([1000000000, -1000000000].getD (((s.pick 8).2.pick 2).1.toNat) default), cs⟩, ((s.pick 8).2.pick 2).2) else (⟨vs, cs⟩, (s.pick 8).2)
def nP (vs : List Int) (c : List Int × Src) : Sx × Src := nO vs c.1 c.2
def lJ (v : List Int × Src) : Sx × Src := nP v.1 (gS 8 v.2 [])
def iL (s : Src) : Sx × Src := lJ (gS 4 s [])
theorem pW {s : Src} (hs : s.Ok) (ha : s.at_ ≤ 999999800) : MQ h1 h2 16 [.c (.pt 0 0 0)] [(0, aL s)] (bB (.agg [.rs 1 0 (iL s).1.vars.length, .rs 2 0 (iL s).1.cells.length]) [(0, aL (iL s).2), (1, iO (iL s).1.vars), (2, iO (iL s).1.cells)]) := by
 refine MC.shift 500 Z (MC.keep [500,501,502] (bs := [aL (iL s).2, iO (iL s).1.vars, iO (iL s).1.cells]) Z Z (jH 42 [500] h1 h2 Try.func16 Z Z Z Z fun O hF => ?_))
 refine dw ?_
 obtain ⟨R, hR⟩ : ∃ R, R = iL s := ⟨_, rfl⟩
 rw [← hR]
 refine ac (jl O Z (au ?_))
 refine aW (AOps.heap (e9 O Z Z Z Z Z Z Z Z Z Z Z) Z (au ?_))
 refine au ?_
 refine AOps.heap (e9 O Z Z Z Z Z Z Z Z Z Z Z) Z (au ?_)
 refine au ?_
 refine js O Z (jf [8,2,0] Z (jl O Z (au ?_)))
 refine jo O Z (au ?_)
 refine jn (ak (ac (js O Z (jn (aq (aG (X := Nat × Src × List Int) (fun x => ⟨[(0, .c (.pt 500 0 0)), (2, .c (.pt 2 0 0)), (3, .c (.pt 3 0 0)), (4, eI (x.1 : Nat))], [(2, .box [.d .nils, .d .nils]), (3, .box [.rs 900 0 x.2.2.length, .rs 7 0 0]), (7, iO []), (500, aL x.2.1), (900, iO x.2.2)]⟩) (fun x => x.2.1.Ok ∧ gS 4 s [] = gS (4 - x.1) x.2.1 x.2.2 ∧ x.2.2.length = x.1 ∧ x.1 ≤ 4 ∧ x.2.1.at_ ≤ s.at_ + 2 * x.1) (fun x => 4 - x.1) (0, s, []) ((aj 6 900 Z Z).trans ((aN [2,3,7,500,900] (e' := [(0, _), (2, _), (3, _), (4, _)]) Z Z ⟨Z, Z, Z, Z, trivial⟩ Z).trans (Ent.to ⟨Z, Z, Z, Z, trivial⟩ Z))) ?_ (fun x hi => ?_)))))))
 exact ⟨hs, Z, Z, ga _, cZ _⟩
 refine ak (ac (j2 O Z Z (jn (aa O Z Z (fun hc10 => ?_) (fun hc10 => ?_)))))
 refine am (ak (aq ?_))
 have hk := ay hc10
 have hp := aR hi.1 (n := 9) (by omega)
 have hat := aX (s := x.2.1) (n := 9)
 refine q7 O [_,_,_,_,_,_,_,_,_] [pn [] 0 2, pn [0] 0 2, pn [] 0 0, pe [2] 0, pn [2,3] 1 1, pe [2,3,4] 1, pe (rg 0 6) 2, pn (rg 0 7) 3 3, pe (rg 0 8) 3] [3,5,6,8] [_,_,_,_,_] [[], [], [900], []] (ai (ka O Z Z (ka O Z Z (kw O Z Z))) (ai (ka O Z Z (ka O Z Z (kw O Z Z))) (ka O Z Z (ai (ai (cy (f8 O [500] (bin := [aL x.2.1]) Z Z Z Z (bX (s := x.2.1) (n := 9) h1 h2 hi.1 (by omega) (by omega) (by omega)) Z Z Z Z Z (B0 := 17000) Z Z Z Z Z Z)) Z) (ai (ai (ag O Z Z (by omega) (by omega)) Z) (ai (ai (cy (gA O Z Z Z Z Z Z Z Z Z Z Z Z Z)) Z) (ai (ai (fX (own := false) (xs := x.2.2.map (fun n : Int => [D.int .i64 n])) (ys := [[.int .i64 ((x.2.1.pick 9).1 - 2)]]) (zs := (x.2.2 ++ [(x.2.1.pick 9).1 - 2]).map (fun n : Int => [D.int .i64 n])) (n := (x.2.2 ++ [(x.2.1.pick 9).1 - 2]).length) O Z Z Z Z Z Z Z Z Z Z Z Z Z Z Z Z (.row Z (dE _).symm) (.whole Z Z (.inr ⟨Z, Z⟩)) (by simp) Z (by simp; omega) (by simp; omega) (by simp) (by simp) Z) Z) (ka O Z Z (ai (ai (cy (eS O Z Z Z)) Z) trivial))))))))) ?_
 refine jw [10,9,0,2,3,4] Z (dw ?_)
 refine ae (js O Z ?_)
 first | refine ji O Z ?_ | refine bm O Z Z ?_
 refine js O Z (jf [4,10,9,0,2,3] Z (jn ?_))
 refine ⟨(x.1 + 1, (x.2.1.pick 9).2, x.2.2 ++ [(x.2.1.pick 9).1 - 2]), ((aj 19 900 Z Z).trans (aN [2,3,7,500,900] (e' := [(0, _), (2, _), (3, _), (4, _)]) Z Z ⟨Z, Z, Z, Z, trivial⟩ Z)).trans (Ent.to ⟨Z, Z, Z, ?_, trivial⟩ Z), ⟨hi.1.pick, ?_, by simp only [cx, gb]; omega, by simp only; omega, by simp only; omega⟩, by simp only; omega⟩
 exact congrArg (fun z => some (eI z)) (by simp only; omega)
 rw [hi.2.1, show 4 - x.1 = (4 - (x.1 + 1)) + 1 by omega, gS]
 refine bF (ak (ac (js O Z (jn (aq ?_)))))
 have hk := bh hc10
 obtain ⟨k1, s1, xs1⟩ := x
 simp only at hi hk
 obtain rfl : k1 = 4 := by omega
 obtain ⟨ho1, ho2, ho3, ho4, ho5⟩ := hi
 rw [show iL s = lJ (xs1, s1) from congrArg lJ ho2] at hR
 refine aG (X := Nat × Src × List Int) (fun y => ⟨[(0, .c (.pt 500 0 0)), (2, .c (.pt 2 0 0)), (3, .c (.pt 3 0 0)), (5, eI (y.1 : Nat))], [(2, .box [.d .nils, .d .nils]), (3, .box [.rs 900 0 xs1.length, .rs 901 0 y.2.2.length]), (500, aL y.2.1), (900, iO xs1), (901, iO y.2.2)]⟩) (fun y => y.2.1.Ok ∧ gS 8 s1 [] = gS (8 - y.1) y.2.1 y.2.2 ∧ y.2.2.length = y.1 ∧ y.1 ≤ 8 ∧ y.2.1.at_ ≤ s1.at_ + 2 * y.1) (fun y => 8 - y.1) (0, s1, []) ((aj 7 901 Z Z).trans ((aN [2,3,500,900,901] (e' := [(0, _), (2, _), (3, _), (5, _)]) Z Z ⟨Z, Z, Z, Z, trivial⟩ Z).trans (Ent.to ⟨Z, Z, Z, Z, trivial⟩ Z))) ?_ (fun y hi => ?_)
 exact ⟨ho1, Z, Z, ga _, cZ _⟩
 refine ak (ac (j2 O Z Z (jn (aa O Z Z (fun hc22 => ?_) (fun hc22 => ?_)))))
 refine am (ak (aq ?_))
 have hk := ay hc22
 have hp := aR hi.1 (n := 9) (by omega)
 have hat := aX (s := y.2.1) (n := 9)
 refine q7 O [_,_,_,_,_,_,_,_,_] [pn [] 0 2, pn [0] 0 2, pn [] 0 0, pe [2] 0, pn [2,3] 1 1, pe [2,3,4] 1, pe (rg 0 6) 2, pn (rg 0 7) 3 3, pe (rg 0 8) 3] [3,5,6,8] [_,_,_,_,_] [[], [], [901], []] (ai (ka O Z Z (ka O Z Z (kw O Z Z))) (ai (ka O Z Z (ka O Z Z (kw O Z Z))) (ka O Z Z (ai (ai (cy (f8 O [500] (bin := [aL y.2.1]) Z Z Z Z (bX (s := y.2.1) (n := 9) h1 h2 hi.1 (by omega) (by omega) (by omega)) Z Z Z Z Z (B0 := 29000) Z Z Z Z Z Z)) Z) (ai (ai (ag O Z Z (by omega) (by omega)) Z) (ai (ai (cy (gA O Z Z Z Z Z Z Z Z Z Z Z Z Z)) Z) (ai (ai (fX (own := false) (xs := y.2.2.map (fun n : Int => [D.int .i64 n])) (ys := [[.int .i64 ((y.2.1.pick 9).1 - 2)]]) (zs := (y.2.2 ++ [(y.2.1.pick 9).1 - 2]).map (fun n : Int => [D.int .i64 n])) (n := (y.2.2 ++ [(y.2.1.pick 9).1 - 2]).length) O Z Z Z Z Z Z Z Z Z Z Z Z Z Z Z Z (.row Z (dE _).symm) (.whole Z Z (.inr ⟨Z, Z⟩)) (by simp) Z (by simp; omega) (by simp; omega) (by simp) (by simp) Z) Z) (ka O Z Z (ai (ai (cy (eS O Z Z Z)) Z) trivial))))))))) ?_
 refine jw [22,21,0,2,3,5] Z (dw ?_)
 refine ae (js O Z ?_)
 first | refine ji O Z ?_ | refine bm O Z Z ?_
 refine js O Z (jf [5,22,21,0,2,3] Z (jn ?_))
 refine ⟨(y.1 + 1, (y.2.1.pick 9).2, y.2.2 ++ [(y.2.1.pick 9).1 - 2]), ((aj 31 901 Z Z).trans (aN [2,3,500,900,901] (e' := [(0, _), (2, _), (3, _), (5, _)]) Z Z ⟨Z, Z, Z, Z, trivial⟩ Z)).trans (Ent.to ⟨Z, Z, Z, ?_, trivial⟩ Z), ⟨hi.1.pick, ?_, by simp only [cx, gb]; omega, by simp only; omega, by simp only; omega⟩, by simp only; omega⟩
 exact congrArg (fun z => some (eI z)) (by simp only; omega)
 rw [hi.2.1, show 8 - y.1 = (8 - (y.1 + 1)) + 1 by omega, gS]
 refine bF (ak (ac ?_))
 have hk := bh hc22
 obtain ⟨k2, s2, ys2⟩ := y
 simp only at hi hk
 obtain rfl : k2 = 8 := by omega
 obtain ⟨hq1, hq2, hq3, hq4, hq5⟩ := hi
 rw [show lJ (xs1, s1) = nO xs1 ys2 s2 from congrArg (nP xs1) hq2] at hR
 have hat2 := aX (s := s2) (n := 8)
 refine js O Z (al O [500] (bin := [aL s2]) Z Z Z Z (iU (s := s2) (n := 8) h1 h2 hq1 (by omega) (by omega) (by omega)) Z Z Z Z Z Z (B0 := 35000) Z Z (au ?_))
 refine jn (aa O Z Z (fun hc34 => ?_) (fun hc34 => ?_))
 refine lh O _ [_,_,_,_,_,_,_] [pn [] 0 1, pn [0] 0 1, pn [] 0 0, pn [] 0 0, pe [2,3] 0, pn (rg 0 5) 1 1, pe (rg 0 6) 1] [4,6] 0 [_,_,_] [] Z Z (by decide) (by decide) (by decide) Z (by kernel_rfl) (ai (ai (ai (cy (ij (V O Z) Z Z)) Z) (ai (cy (ij (V O Z) Z Z)) Z)) (ai (ai (ai (bo trivial (.inl (V O Z))) Z) (ai (bo trivial (.inl (V O Z))) Z)) (ai (ai (bo (.inl (V O Z)) (.inl (V O Z))) Z) (ai (ai (bo (.inr (ik O Z Z Z Z Z Z Z Z Z Z Z Z Z (by repeat' (first | exact .nil | refine .skip ?_ | refine .cons Z .row ?_ | refine .cons Z (.box (FMs.keep Z)) ?_)))) (.inr (ik O Z Z Z Z Z Z Z Z Z Z Z Z Z (by repeat' (first | exact .nil | refine .skip ?_ | refine .cons Z .row ?_ | refine .cons Z (.box (FMs.keep Z)) ?_))))) Z) (ai (ai (bo (cy (f8 O [500] (bin := [aL (s2.pick 8).2]) Z Z Z Z (kE (s := (s2.pick 8).2) (xs := [1000000000, -1000000000]) h1 h2 hq1.pick (by omega) (by decide) (by decide)) Z Z Z Z Z (B0 := 40000) Z Z Z Z Z Z)) (cy (f8 O [500] (bin := [aL (s2.pick 8).2]) Z Z Z Z (kE (s := (s2.pick 8).2) (xs := [1000000000, -1000000000]) h1 h2 hq1.pick (by omega) (by decide) (by decide)) Z Z Z Z Z (B0 := 40000) Z Z Z Z Z Z))) Z) (ai (ai (bo trivial (.inl (az (c := (0:Int) ≤ 0 ∧ (0:Int) < ((xs1.length:Nat):Int)) (v := .c (.pt 900 0 0)) O Z Z (by omega)))) Z) (ai (ai (bo trivial (cy (ce (ex := [.int .i64 (xs1.getD 0 default)]) (xs' := (xs1.set 0 ([1000000000, -1000000000].getD (((s2.pick 8).2.pick 2).1.toNat) default)).map (fun n : Int => [D.int .i64 n])) O Z Z Z Z Z Z Z Z Z Z Z Z Z Z Z (iP (by omega)) (by rw [List.map_set]; rfl) Z))) Z) trivial))))))) ?_
 refine jw [34,33,22,21,0,2,3,5] Z (dw ?_)
 refine ac (js O Z (jo O Z (au ?_)))
 refine jr ?_
 have ho := ay hc34
 rw [show R = (⟨xs1.set 0 ([1000000000, -1000000000].getD (((s2.pick 8).2.pick 2).1.toNat) default), ys2⟩, ((s2.pick 8).2.pick 2).2) from hR.trans (if_pos ho)]
 simp only [List.length_set]
 refine ⟨.inl trivial, _, (aj 900 501 Z Z).trans (aj 901 502 Z Z), _, Z, Z, Z⟩
 refine am (ac (js O Z (jo O Z (au ?_))))
 refine jr ?_
 have ho := bh hc34
 rw [show R = (⟨xs1, ys2⟩, (s2.pick 8).2) from hR.trans (if_neg ho)]
 refine ⟨.inl Z, _, (aj 900 501 Z Z).trans (aj 901 502 Z Z), _, Z, Z, Z⟩
theorem ix {vs : List Int} {n : Nat} (hl : vs.length = n) (h : ∀ v ∈ vs, f5 v = true) : cf vs n = true := by
 unfold cf
 rw [decide_eq_true (by omega), List.all_eq_true.2 h]; rfl
theorem my {vs : List Int} {n : Nat} (h : cf vs n = true) : vs.length = n := by
 unfold cf at h
 cases hl : decide ((vs.length : Int) = n) with
 | true => have := ay hl; omega
 | false => rw [hl] at h; simp at h
theorem mz {vs : List Int} {n : Nat} (h : cf vs n = true) : ∀ v ∈ vs, f5 v = true := by
 unfold cf at h
 cases ha : vs.all f5 with
 | true => exact List.all_eq_true.1 ha
 | false => rw [ha] at h; simp at h
theorem jS {v : Int} (h : -1000000000 ≤ v ∧ v ≤ 1000000000) : f5 v = true := by
 unfold f5; simp; omega
theorem mw {vs : List Int} {n j : Nat} {v : Int} (h : cf vs n = true) (hv : -1000000000 ≤ v ∧ v ≤ 1000000000) : cf (vs.set j v) n = true :=
  ix (by rw [List.length_set]; exact my h) (fun u hu => by
 rcases List.mem_or_eq_of_mem_set hu with h1 | h1
 exact mz h u h1
 rw [h1]; exact jS hv)
theorem oe {s : Src} (h : s.Ok) : cf (iL s).1.vars 4 = true ∧ cf (iL s).1.cells 8 = true ∧ (iL s).2.Ok := by
 have a1 := jQ (k := 4) (xs := []) h
 have a2 := jR (k := 4) (xs := []) h (fun n hn => by cases hn)
 have a3 := iB (k := 4) (s := s) (xs := [])
 have b1 := jQ (k := 8) (xs := []) a1
 have b2 := jR (k := 8) (xs := []) a1 (fun n hn => by cases hn)
 have b3 := iB (k := 8) (s := (gS 4 s []).2) (xs := [])
 unfold iL lJ nP
 generalize gS 8 (gS 4 s []).2 [] = c at b1 b2 b3
 generalize gS 4 s [] = v at a1 a2 a3
 have hv : cf v.1 4 = true := ix (by rw [a3]; rfl) (fun u hu => jS (by have := a2 u hu; omega))
 have hc : cf c.1 8 = true := ix (by rw [b3]; rfl) (fun u hu => jS (by have := b2 u hu; omega))
 have hp := aR (b1.pick (n := 8)) (n := 2) (by omega)
 unfold nO; split
 refine ⟨mw hv ?_, hc, b1.pick.pick⟩
 generalize ((c.2.pick 8).2.pick 2).1 = z at hp
 rcases (show z = 0 ∨ z = 1 by omega) with rfl | rfl <;> decide
 exact ⟨hv, hc, b1.pick⟩
theorem nE {ys : List Int} : MQ h1 h2 4 [.c (.d (bys xs)), .c (.d (bys ys))] [] (Plain (eB (bif decide ((48 : Int) < xs.length) then true else decide ((48 : Int) < ys.length)))) := by
 refine aI ?_ Z
 refine jB 13 h1 h2 Try.func4 Z Z Z fun O hF => ?_
 refine ac (js O Z (aW (js O Z ?_)))
 first | refine cw O Z ?_ | refine js O Z ?_ | refine bm O Z Z ?_
 refine j2 O Z Z (jf [8,4,1] Z (aU 3 Z Z Z (fun hx => AN.step hx Z Z Z (V O Z) Z Z ( AN.step hx Z Z Z (bu O Z Z Z Z Z Z Z Z) Z Z ( AN.step hx Z Z Z (V O Z) Z Z ( AN.nil)))) Z Z ?_))
 first | refine AOps.step (aQ O Z Z Z Z Z) Z Z Z ?_ | refine AOps.step (Val.pickB O Z Z Z Z Z) Z Z Z ?_ | refine AOps.step (aB O Z Z Z Z Z) Z Z Z ?_
 refine js O Z (jf [4] Z (jr ?_))
 refine ⟨.inl Z, _, ap, _, Z, ?_⟩
 rfl
theorem pS (hx : ∀ n ∈ xs, 0 ≤ n ∧ n ≤ 255) : MQ h1 h2 6 [.c (.d (bys xs))] [] (Plain (jE (iL ⟨xs, 0, 0⟩).1)) := by
 refine MC.data (jB 8 h1 h2 Try.func6 Z Z Z fun O hF => ?_)
 obtain ⟨R, hR⟩ : ∃ R, R = iL ⟨xs, 0, 0⟩ := ⟨_, rfl⟩
 rw [← hR]
 refine ac (jl O Z (au ?_))
 refine aW (js O Z (jf [4,2] Z (al O [] (bin := []) Z Z Z Z (nG (xs := xs) h1 h2) Z Z Z Z Z Z (B0 := 6000) Z Z (au ?_))))
 refine js O Z (jf [3,2] Z (aW (js O Z (jf [6,2] Z (al O [6000] (bin := [aL ⟨xs, 0, 0⟩]) Z Z Z Z (pW (s := ⟨xs, 0, 0⟩) h1 h2 ⟨hx⟩ (by show (0 : Nat) ≤ 999999800; decide)) Z Z Z Z Z Z (B0 := 8000) Z Z (au ?_))))))
 rw [← hR]
 refine jf [7,2] Z (jo O Z (au ?_))
 refine jr ?_
 refine ⟨.inl Z, _, ap, _, Z, ?_⟩
 exact .v (.agg (.cons (.whole Z (dE _).symm) (.cons (.whole Z (dE _).symm) .nil)))
def cz (o n : Int) (s : Src) : Int × Src :=
  if o = 0 ∨ o = 4 then (if ((s.pick 9).2.pick 20).1 = 0 then ([1000000, -1000000].getD (((s.pick 9).2.pick 20).2.pick 2).1.toNat default, (((s.pick 9).2.pick 20).2.pick 2).2) else ((s.pick 9).1 - 3, ((s.pick 9).2.pick 20).2))
  else if o = 1 ∨ o = 2 then s.pick 4
  else if o = 5 ∨ o = 6 then s.pick (if n + 1 < 80 then n + 1 else 80)
  else if o = 9 then s.pick 4 else (0, s)
def jD (n : Int) (s : Src) : In × Src := (⟨(s.pick 12).1, (cz (s.pick 12).1 n (s.pick 12).2).1⟩, (cz (s.pick 12).1 n (s.pick 12).2).2)
theorem oc {o n : Int} {s : Src} (h : s.Ok) : (cz o n s).2.Ok := by
 unfold cz
 split
 split
 exact h.pick.pick.pick
 exact h.pick.pick
 split
 exact h.pick
 split
 exact h.pick
 split
 exact h.pick
 exact h
theorem od {o n : Int} {s : Src} : (cz o n s).2.at_ ≤ s.at_ + 6 := by
 have h1 := aX (s := s) (n := 9)
 have h2 := aX (s := (s.pick 9).2) (n := 20)
 have h3 := aX (s := ((s.pick 9).2.pick 20).2) (n := 2)
 have h4 := aX (s := s) (n := 4)
 have h5 := aX (s := s) (n := if n + 1 < 80 then n + 1 else 80)
 unfold cz
 split
 split
 show (((s.pick 9).2.pick 20).2.pick 2).2.at_ ≤ _; omega
 show ((s.pick 9).2.pick 20).2.at_ ≤ _; omega
 split
 omega
 split
 omega
 split
 omega
 exact Nat.le_add_right _ _
theorem n8 {n : Int} {s : Src} : (jD n s).2.at_ ≤ s.at_ + 8 := by
 have h1 := aX (s := s) (n := 12)
 have h2 := od (o := (s.pick 12).1) (n := n) (s := (s.pick 12).2)
 show (cz _ n _).2.at_ ≤ _
 omega
theorem mg {n : Int} {s : Src} (h : s.Ok) : (jD n s).2.Ok := oc h.pick
theorem ns {x : Int} (h : -1000000 ≤ x ∧ x ≤ 1000000) : gc x = true := by unfold gc; simp; omega
theorem pi {z : Int} (h : 0 ≤ z ∧ z < 2) : gc ([1000000, -1000000].getD z.toNat default) = true := by
 rcases (show z = 0 ∨ z = 1 by omega) with rfl | rfl <;> decide
theorem lW {o a : Int} (h : o = 0 ∨ o = 4) (ha : gc a = true) : av ⟨o, a⟩ = true := by
 show (if o = 0 ∨ o = 4 then gc a else _) = true
 rw [if_pos h]; exact ha
theorem iS {a lo hi : Int} (h : lo ≤ a ∧ a ≤ hi) : bW lo hi a = true := by unfold bW; rw [decide_eq_true h.1, decide_eq_true h.2]; rfl
theorem lV {o a : Int} (h : o = 1 ∨ o = 2) (ha : 0 ≤ a ∧ a ≤ 3) : av ⟨o, a⟩ = true := by
 show (if o = 0 ∨ o = 4 then gc a else if o = 1 ∨ o = 2 then bW 0 3 a else _) = true
 rw [if_neg (by omega), if_pos h]; exact iS ha
theorem lU {o a : Int} (h : o = 5 ∨ o = 6) (ha : 0 ≤ a ∧ a ≤ 79) : av ⟨o, a⟩ = true := by
 show (if o = 0 ∨ o = 4 then gc a else if o = 1 ∨ o = 2 then bW 0 3 a else if o = 5 ∨ o = 6 then bW 0 79 a else _) = true
 rw [if_neg (by omega), if_neg (by omega), if_pos h]; exact iS ha
theorem lT {o a : Int} (h : o = 9) (ha : 0 ≤ a ∧ a ≤ 3) : av ⟨o, a⟩ = true := by
 show (if o = 0 ∨ o = 4 then gc a else if o = 1 ∨ o = 2 then bW 0 3 a else if o = 5 ∨ o = 6 then bW 0 79 a else if o = 9 then bW 0 3 a else _) = true
 rw [if_neg (by omega), if_neg (by omega), if_neg (by omega), if_pos h]; exact iS ha
theorem pE {o a : Int} (h : o = 3 ∨ o = 7 ∨ o = 8 ∨ o = 10 ∨ o = 11) (ha : a = 0) : av ⟨o, a⟩ = true := by
 show (if o = 0 ∨ o = 4 then gc a else if o = 1 ∨ o = 2 then bW 0 3 a else if o = 5 ∨ o = 6 then bW 0 79 a else if o = 9 then bW 0 3 a else if o = 3 ∨ o = 7 ∨ o = 8 ∨ o = 10 ∨ o = 11 then decide (a = 0) else false) = true
 rw [if_neg (by omega), if_neg (by omega), if_neg (by omega), if_neg (by omega), if_pos h]; exact decide_eq_true ha
theorem n7 {n : Int} {s : Src} (h : s.Ok) (hn : 1 ≤ n) : av (jD n s).1 = true := by
 have h0 := aR h (n := 12) (by omega)
 have hp := h.pick (n := 12)
 show av ⟨(s.pick 12).1, (cz (s.pick 12).1 n (s.pick 12).2).1⟩ = true
 generalize (s.pick 12).1 = o at h0
 generalize (s.pick 12).2 = s at hp
 have h9 := aR hp (n := 9) (by omega)
 have h4 := aR hp (n := 4) (by omega)
 have h8 := aR hp (n := if n + 1 < 80 then n + 1 else 80) (by split <;> omega)
 have hle : (if n + 1 < 80 then n + 1 else (80 : Int)) ≤ 80 := by split <;> omega
 have h80 : (s.pick (if n + 1 < 80 then n + 1 else 80)).1 ≤ 79 := by omega
 unfold cz
 split
 rename_i e
 refine lW e ?_
 split
 exact pi (aR (hp.pick (n := 9)).pick (n := 2) (by omega))
 exact ns (by show -1000000 ≤ (s.pick 9).1 - 3 ∧ (s.pick 9).1 - 3 ≤ 1000000; omega)
 rename_i e
 split
 rename_i e2; exact lV e2 (by omega)
 rename_i e2
 split
 rename_i e3; exact lU e3 ⟨h8.1, h80⟩
 rename_i e3
 split
 rename_i e4; exact lT e4 (by omega)
 rename_i e4; exact pE (by omega) Z
theorem nC {a b : Int} : MQ h1 h2 41 [eI a, eI b] [] (Plain (eI (if a < b then a else b))) := by
 refine aI ?_ Z
 refine jB 10 h1 h2 Try.func41 Z Z Z fun O hF => ?_
 refine ac (js O Z (jn (ak (ac (j3 O Z Z Z (jn (aa O Z Z (fun hc7 => ?_) (fun hc7 => ?_))))))))
 refine ac (j2 O Z Z (jr ?_))
 refine ⟨.inl Z, _, ap, _, Z, ?_⟩
 rw [if_pos (ay hc7)]
 refine am (ac (j2 O Z Z (jr ?_)))
 refine ⟨.inl Z, _, ap, _, Z, ?_⟩
 rw [if_neg (bh hc7)]
theorem pJ {s : Src} {n : Int} (hs : s.Ok) (ha : s.at_ ≤ 999999900) (hn : 1 ≤ n) (hn2 : n ≤ 1000) : MQ h1 h2 28 [.c (.pt 0 0 0), eI n] [(0, aL s)] (bB (.agg ((jD n s).1.cells.map .d)) [(0, aL (jD n s).2)]) := by
 refine MC.shift 500 Z (MC.keep [500] (bs := [aL (jD n s).2]) Z Z (jH 45 [500] h1 h2 Try.func28 Z Z Z Z fun O hF => ?_))
 refine dw ?_
 obtain ⟨R, hR⟩ : ∃ R, R = jD n s := ⟨_, rfl⟩
 rw [← hR]
 have h12 := aR hs (n := 12) (by omega)
 have hat0 := aX (s := s) (n := 12)
 refine ac (jl O Z (au ?_))
 refine AOps.nil ?_
 refine AWP.seq ?_
 refine AWP.region ?_
 refine js O Z (al O [500] (bin := [aL s]) Z Z Z Z (bX (s := s) (n := 12) h1 h2 hs (by omega) (by omega) (by omega)) Z Z Z Z Z Z (B0 := 8000) Z Z (au ?_))
 obtain ⟨o, ho⟩ : ∃ o, o = (s.pick 12).1 := ⟨_, rfl⟩
 obtain ⟨s1, hs1e⟩ : ∃ s1, s1 = (s.pick 12).2 := ⟨_, rfl⟩
 rw [← ho] at h12
 rw [← hs1e] at hat0
 rw [← ho, ← hs1e]
 have hs1 : s1.Ok := by rw [hs1e]; exact hs.pick
 have hat1 := aX (s := s1) (n := 9)
 have hat2 := aX (s := (s1.pick 9).2) (n := 20)
 have hat3 := aX (s := ((s1.pick 9).2.pick 20).2) (n := 2)
 refine js O Z (jf [8,4,0,1] Z (jl O Z (au ?_)))
 refine jo O Z (au ?_)
 refine jn (ak (ac (j2 O Z Z (jn ?_))))
 rcases (show o = 0 ∨ o = 4 ∨ o = 1 ∨ o = 2 ∨ o = 5 ∨ o = 6 ∨ o = 9 ∨ (o ≠ 0 ∧ o ≠ 4 ∧ o ≠ 1 ∧ o ≠ 2 ∧ o ≠ 5 ∧ o ≠ 6 ∧ o ≠ 9) by omega) with hx | hx | hx | hx | hx | hx | hx | hx
 refine aq (ak (ac (j2 O Z Z (jn (aa O Z Z (fun hc11 => ?_) (fun hc11 => ?_))))))
 refine am (aa O Z Z (fun hc11 => ?_) (fun hc11 => ?_))
 refine ac (js O Z (jf [14,12,10,9,5,8,4,0,1] Z (al O [500] (bin := [aL s1]) Z Z Z Z (bX (s := s1) (n := 9) h1 h2 hs1 (by omega) (by omega) (by omega)) Z Z Z Z Z Z (B0 := 16000) Z Z (au ?_))))
 have hp9 := aR hs1 (n := 9) (by omega)
 refine AOps.step (ag O Z Z (by omega) (by omega)) Z Z Z (js O Z (jf [17,16,12,10,9,5,8,4,0,1] Z (jo O Z (au ?_))))
 refine jf [12,10,9,5,8,4,0,1] Z ?_
 refine AOps.nil ?_
 refine AWP.seq ?_
 refine AWP.region ?_
 refine js O Z (al O [500] (bin := [aL (s1.pick 9).2]) Z Z Z Z (iU (s := (s1.pick 9).2) (n := 20) h1 h2 hs1.pick (by omega) (by omega) (by omega)) Z Z Z Z Z Z (B0 := 20000) Z Z (au ?_))
 refine jn (aa O Z Z (fun hc19 => ?_) (fun hc19 => ?_))
 refine ae (js O Z (jf [20,18,12,10,9,5,8,4,0,1] Z ?_))
 have hone := ay hc19
 refine AOps.heap (e9 O Z Z Z Z Z Z Z Z Z Z Z) Z (au ?_)
 refine aF (aN [4,5,500,21] (e' := [(21, _), (20, _), (0, _), (4, _), (5, _)]) Z Z ⟨Z, Z, Z, Z, Z, trivial⟩ Z) (aF (Ent.freeze 21 (e' := [(21, _), (20, _), (0, _), (4, _), (5, _)]) Z (.cons Z (.c (.row Z Z)) (fe [20,0,4,5] Z)) (.cons Z (.box (fk Z)) (.cons Z (.box (fk Z)) (.cons Z (.box (fk Z)) (.skip .nil))))) ?_)
 refine au ?_
 refine au ?_
 refine al O [500] (bin := [aL ((s1.pick 9).2.pick 20).2]) Z Z Z Z (kE (s := ((s1.pick 9).2.pick 20).2) (xs := [1000000, -1000000]) h1 h2 hs1.pick.pick (by omega) (by decide) (by decide)) Z Z Z Z Z Z (B0 := 23000) Z Z (au ?_)
 refine js O Z (jf [23,22,0,4,5] Z (jo O Z (au ?_)))
 refine jf [0,4,5] Z ?_
 refine AOps.nil ?_
 refine AWP.seq ?_
 refine AWP.region ?_
 refine js O Z (jo O Z (au ?_))
 refine jr ?_
 have hG : cz o n s1 = ([1000000, -1000000].getD (((s1.pick 9).2.pick 20).2.pick 2).1.toNat default, (((s1.pick 9).2.pick 20).2.pick 2).2) := by unfold cz; rw [if_pos (by omega), if_pos hone]
 rw [show R = (⟨o, (cz o n s1).1⟩, (cz o n s1).2) from by rw [hR, ho, hs1e]; rfl, hG]
 refine ⟨.inl Z, _, ap, _, Z, Z, Z⟩
 refine am (ac (js O Z (jf [44,18,12,10,9,5,8,4,0,1] Z (jo O Z (au ?_)))))
 refine jr ?_
 have hG : cz o n s1 = ((s1.pick 9).1 - 3, ((s1.pick 9).2.pick 20).2) := by unfold cz; rw [if_pos (by omega), if_neg (bh hc19)]
 rw [show R = (⟨o, (cz o n s1).1⟩, (cz o n s1).2) from by rw [hR, ho, hs1e]; rfl, hG]
 refine ⟨.inl Z, _, ap, _, Z, Z, Z⟩
 exact absurd hx (bh hc11)
 exact absurd hx (bh hc11)
 refine aq (ak (ac (j2 O Z Z (jn (aa O Z Z (fun hc11 => ?_) (fun hc11 => ?_))))))
 exact absurd (ay hc11) (by omega)
 refine ae (j2 O Z Z (jn (aa O Z Z (fun hc11 => ?_) (fun hc11 => ?_))))
 refine ac (js O Z (jf [14,13,12,10,9,5,8,4,0,1] Z (al O [500] (bin := [aL s1]) Z Z Z Z (bX (s := s1) (n := 9) h1 h2 hs1 (by omega) (by omega) (by omega)) Z Z Z Z Z Z (B0 := 16000) Z Z (au ?_))))
 have hp9 := aR hs1 (n := 9) (by omega)
 refine AOps.step (ag O Z Z (by omega) (by omega)) Z Z Z (js O Z (jf [17,16,13,12,10,9,5,8,4,0,1] Z (jo O Z (au ?_))))
 refine jf [13,12,10,9,5,8,4,0,1] Z ?_
 refine AOps.nil ?_
 refine AWP.seq ?_
 refine AWP.region ?_
 refine js O Z (al O [500] (bin := [aL (s1.pick 9).2]) Z Z Z Z (iU (s := (s1.pick 9).2) (n := 20) h1 h2 hs1.pick (by omega) (by omega) (by omega)) Z Z Z Z Z Z (B0 := 20000) Z Z (au ?_))
 refine jn (aa O Z Z (fun hc19 => ?_) (fun hc19 => ?_))
 refine ae (js O Z (jf [20,18,13,12,10,9,5,8,4,0,1] Z ?_))
 have hone := ay hc19
 refine AOps.heap (e9 O Z Z Z Z Z Z Z Z Z Z Z) Z (au ?_)
 refine aF (aN [4,5,500,21] (e' := [(21, _), (20, _), (0, _), (4, _), (5, _)]) Z Z ⟨Z, Z, Z, Z, Z, trivial⟩ Z) (aF (Ent.freeze 21 (e' := [(21, _), (20, _), (0, _), (4, _), (5, _)]) Z (.cons Z (.c (.row Z Z)) (fe [20,0,4,5] Z)) (.cons Z (.box (fk Z)) (.cons Z (.box (fk Z)) (.cons Z (.box (fk Z)) (.skip .nil))))) ?_)
 refine au ?_
 refine au ?_
 refine al O [500] (bin := [aL ((s1.pick 9).2.pick 20).2]) Z Z Z Z (kE (s := ((s1.pick 9).2.pick 20).2) (xs := [1000000, -1000000]) h1 h2 hs1.pick.pick (by omega) (by decide) (by decide)) Z Z Z Z Z Z (B0 := 23000) Z Z (au ?_)
 refine js O Z (jf [23,22,0,4,5] Z (jo O Z (au ?_)))
 refine jf [0,4,5] Z ?_
 refine AOps.nil ?_
 refine AWP.seq ?_
 refine AWP.region ?_
 refine js O Z (jo O Z (au ?_))
 refine jr ?_
 have hG : cz o n s1 = ([1000000, -1000000].getD (((s1.pick 9).2.pick 20).2.pick 2).1.toNat default, (((s1.pick 9).2.pick 20).2.pick 2).2) := by unfold cz; rw [if_pos (by omega), if_pos hone]
 rw [show R = (⟨o, (cz o n s1).1⟩, (cz o n s1).2) from by rw [hR, ho, hs1e]; rfl, hG]
 refine ⟨.inl Z, _, ap, _, Z, Z, Z⟩
 refine am (ac (js O Z (jf [44,18,13,12,10,9,5,8,4,0,1] Z (jo O Z (au ?_)))))
 refine jr ?_
 have hG : cz o n s1 = ((s1.pick 9).1 - 3, ((s1.pick 9).2.pick 20).2) := by unfold cz; rw [if_pos (by omega), if_neg (bh hc19)]
 rw [show R = (⟨o, (cz o n s1).1⟩, (cz o n s1).2) from by rw [hR, ho, hs1e]; rfl, hG]
 refine ⟨.inl Z, _, ap, _, Z, Z, Z⟩
 exact absurd hx (bh hc11)
 refine aq (ak (ac (j2 O Z Z (jn (aa O Z Z (fun hc11 => ?_) (fun hc11 => ?_))))))
 exact absurd (ay hc11) (by omega)
 refine ae (j2 O Z Z (jn (aa O Z Z (fun hc11 => ?_) (fun hc11 => ?_))))
 exact absurd (ay hc11) (by omega)
 refine ak (ac (j2 O Z Z (jf [24,13,12,10,9,5,8,4,0,1] Z (jn (aa O Z Z (fun hc24 => ?_) (fun hc24 => ?_))))))
 refine am (aa O Z Z (fun hc24 => ?_) (fun hc24 => ?_))
 refine ae (js O Z (jf [27,13,12,10,9,5,8,4,0,1] Z (al O [500] (bin := [aL s1]) Z Z Z Z (bX (s := s1) (n := 4) h1 h2 hs1 (by omega) (by omega) (by omega)) Z Z Z Z Z Z (B0 := 29000) Z Z (au ?_))))
 refine js O Z (jf [29,28,13,12,10,9,5,8,4,0,1] Z (jo O Z (au ?_)))
 refine jf [13,12,10,9,5,8,4,0,1] Z ?_
 refine AOps.nil ?_
 refine AWP.seq ?_
 refine AWP.region ?_
 refine js O Z (jo O Z (au ?_))
 refine jr ?_
 have hG : cz o n s1 = s1.pick 4 := by unfold cz; rw [if_neg (by omega), if_pos (by omega)]
 rw [show R = (⟨o, (cz o n s1).1⟩, (cz o n s1).2) from by rw [hR, ho, hs1e]; rfl, hG]
 refine ⟨.inl Z, _, ap, _, Z, Z, Z⟩
 exact absurd hx (bh hc24)
 exact absurd hx (bh hc24)
 refine aq (ak (ac (j2 O Z Z (jn (aa O Z Z (fun hc11 => ?_) (fun hc11 => ?_))))))
 exact absurd (ay hc11) (by omega)
 refine ae (j2 O Z Z (jn (aa O Z Z (fun hc11 => ?_) (fun hc11 => ?_))))
 exact absurd (ay hc11) (by omega)
 refine ak (ac (j2 O Z Z (jf [24,13,12,10,9,5,8,4,0,1] Z (jn (aa O Z Z (fun hc24 => ?_) (fun hc24 => ?_))))))
 exact absurd (ay hc24) (by omega)
 refine ae (j2 O Z Z (jn (aa O Z Z (fun hc24 => ?_) (fun hc24 => ?_))))
 refine ae (js O Z (jf [27,26,13,12,10,9,5,8,4,0,1] Z (al O [500] (bin := [aL s1]) Z Z Z Z (bX (s := s1) (n := 4) h1 h2 hs1 (by omega) (by omega) (by omega)) Z Z Z Z Z Z (B0 := 29000) Z Z (au ?_))))
 refine js O Z (jf [29,28,26,13,12,10,9,5,8,4,0,1] Z (jo O Z (au ?_)))
 refine jf [26,13,12,10,9,5,8,4,0,1] Z ?_
 refine AOps.nil ?_
 refine AWP.seq ?_
 refine AWP.region ?_
 refine js O Z (jo O Z (au ?_))
 refine jr ?_
 have hG : cz o n s1 = s1.pick 4 := by unfold cz; rw [if_neg (by omega), if_pos (by omega)]
 rw [show R = (⟨o, (cz o n s1).1⟩, (cz o n s1).2) from by rw [hR, ho, hs1e]; rfl, hG]
 refine ⟨.inl Z, _, ap, _, Z, Z, Z⟩
 exact absurd hx (bh hc24)
 refine aq (ak (ac (j2 O Z Z (jn (aa O Z Z (fun hc11 => ?_) (fun hc11 => ?_))))))
 exact absurd (ay hc11) (by omega)
 refine ae (j2 O Z Z (jn (aa O Z Z (fun hc11 => ?_) (fun hc11 => ?_))))
 exact absurd (ay hc11) (by omega)
 refine ak (ac (j2 O Z Z (jf [24,13,12,10,9,5,8,4,0,1] Z (jn (aa O Z Z (fun hc24 => ?_) (fun hc24 => ?_))))))
 exact absurd (ay hc24) (by omega)
 refine ae (j2 O Z Z (jn (aa O Z Z (fun hc24 => ?_) (fun hc24 => ?_))))
 exact absurd (ay hc24) (by omega)
 refine ak (ac (j2 O Z Z (jf [30,26,13,12,10,9,5,8,4,0,1] Z (jn (aa O Z Z (fun hc30 => ?_) (fun hc30 => ?_))))))
 refine am (aa O Z Z (fun hc30 => ?_) (fun hc30 => ?_))
 refine ae (j2 O Z Z (AOps.step (ag O Z Z (by omega) (by omega)) Z Z Z (jf [35,33,26,13,12,10,9,5,8,4,0] Z (af O Z Z Z Z (nC (a := n + 1) (b := 80) h1 h2) (ab Z) Z Z Z Z Z (B0 := 37000) Z (jf [36,33,26,13,12,10,9,5,8,4,0] Z (al O [500] (bin := [aL s1]) Z Z Z Z (bX (s := s1) (n := (if n + 1 < 80 then n + 1 else 80)) h1 h2 hs1 (by omega) (by split <;> omega) (by split <;> omega)) Z Z Z Z Z Z (B0 := 38000) Z Z (au ?_)))))))
 refine js O Z (jf [38,37,26,13,12,10,9,5,8,4,0] Z (jo O Z (au ?_)))
 refine jf [26,13,12,10,9,5,8,4,0] Z ?_
 refine AOps.nil ?_
 refine AWP.seq ?_
 refine AWP.region ?_
 refine js O Z (jo O Z (au ?_))
 refine jr ?_
 have hG : cz o n s1 = s1.pick (if n + 1 < 80 then n + 1 else 80) := by unfold cz; rw [if_neg (by omega), if_neg (by omega), if_pos (by omega)]
 rw [show R = (⟨o, (cz o n s1).1⟩, (cz o n s1).2) from by rw [hR, ho, hs1e]; rfl, hG]
 refine ⟨.inl Z, _, ap, _, Z, Z, Z⟩
 exact absurd hx (bh hc30)
 exact absurd hx (bh hc30)
 refine aq (ak (ac (j2 O Z Z (jn (aa O Z Z (fun hc11 => ?_) (fun hc11 => ?_))))))
 exact absurd (ay hc11) (by omega)
 refine ae (j2 O Z Z (jn (aa O Z Z (fun hc11 => ?_) (fun hc11 => ?_))))
 exact absurd (ay hc11) (by omega)
 refine ak (ac (j2 O Z Z (jf [24,13,12,10,9,5,8,4,0,1] Z (jn (aa O Z Z (fun hc24 => ?_) (fun hc24 => ?_))))))
 exact absurd (ay hc24) (by omega)
 refine ae (j2 O Z Z (jn (aa O Z Z (fun hc24 => ?_) (fun hc24 => ?_))))
 exact absurd (ay hc24) (by omega)
 refine ak (ac (j2 O Z Z (jf [30,26,13,12,10,9,5,8,4,0,1] Z (jn (aa O Z Z (fun hc30 => ?_) (fun hc30 => ?_))))))
 exact absurd (ay hc30) (by omega)
 refine ae (j2 O Z Z (jn (aa O Z Z (fun hc30 => ?_) (fun hc30 => ?_))))
 refine ae (j2 O Z Z (AOps.step (ag O Z Z (by omega) (by omega)) Z Z Z (jf [35,33,32,26,13,12,10,9,5,8,4,0] Z (af O Z Z Z Z (nC (a := n + 1) (b := 80) h1 h2) (ab Z) Z Z Z Z Z (B0 := 37000) Z (jf [36,33,32,26,13,12,10,9,5,8,4,0] Z (al O [500] (bin := [aL s1]) Z Z Z Z (bX (s := s1) (n := (if n + 1 < 80 then n + 1 else 80)) h1 h2 hs1 (by omega) (by split <;> omega) (by split <;> omega)) Z Z Z Z Z Z (B0 := 38000) Z Z (au ?_)))))))
 refine js O Z (jf [38,37,32,26,13,12,10,9,5,8,4,0] Z (jo O Z (au ?_)))
 refine jf [32,26,13,12,10,9,5,8,4,0] Z ?_
 refine AOps.nil ?_
 refine AWP.seq ?_
 refine AWP.region ?_
 refine js O Z (jo O Z (au ?_))
 refine jr ?_
 have hG : cz o n s1 = s1.pick (if n + 1 < 80 then n + 1 else 80) := by unfold cz; rw [if_neg (by omega), if_neg (by omega), if_pos (by omega)]
 rw [show R = (⟨o, (cz o n s1).1⟩, (cz o n s1).2) from by rw [hR, ho, hs1e]; rfl, hG]
 refine ⟨.inl Z, _, ap, _, Z, Z, Z⟩
 exact absurd hx (bh hc30)
 refine aq (ak (ac (j2 O Z Z (jn (aa O Z Z (fun hc11 => ?_) (fun hc11 => ?_))))))
 exact absurd (ay hc11) (by omega)
 refine ae (j2 O Z Z (jn (aa O Z Z (fun hc11 => ?_) (fun hc11 => ?_))))
 exact absurd (ay hc11) (by omega)
 refine ak (ac (j2 O Z Z (jf [24,13,12,10,9,5,8,4,0,1] Z (jn (aa O Z Z (fun hc24 => ?_) (fun hc24 => ?_))))))
 exact absurd (ay hc24) (by omega)
 refine ae (j2 O Z Z (jn (aa O Z Z (fun hc24 => ?_) (fun hc24 => ?_))))
 exact absurd (ay hc24) (by omega)
 refine ak (ac (j2 O Z Z (jf [30,26,13,12,10,9,5,8,4,0,1] Z (jn (aa O Z Z (fun hc30 => ?_) (fun hc30 => ?_))))))
 exact absurd (ay hc30) (by omega)
 refine ae (j2 O Z Z (jn (aa O Z Z (fun hc30 => ?_) (fun hc30 => ?_))))
 exact absurd (ay hc30) (by omega)
 refine ac (j2 O Z Z (jf [39,32,26,13,12,10,9,5,8,4,0,1] Z (jn (aa O Z Z (fun hc39 => ?_) (fun hc39 => ?_)))))
 refine ae (js O Z (jf [41,32,26,13,12,10,9,5,8,4,0,1] Z (al O [500] (bin := [aL s1]) Z Z Z Z (bX (s := s1) (n := 4) h1 h2 hs1 (by omega) (by omega) (by omega)) Z Z Z Z Z Z (B0 := 43000) Z Z (au ?_))))
 refine js O Z (jf [43,42,32,26,13,12,10,9,5,8,4,0,1] Z (jo O Z (au ?_)))
 refine jf [32,26,13,12,10,9,5,8,4,0,1] Z ?_
 refine AOps.nil ?_
 refine AWP.seq ?_
 refine AWP.region ?_
 refine js O Z (jo O Z (au ?_))
 refine jr ?_
 have hG : cz o n s1 = s1.pick 4 := by unfold cz; rw [if_neg (by omega), if_neg (by omega), if_neg (by omega), if_pos (by omega)]
 rw [show R = (⟨o, (cz o n s1).1⟩, (cz o n s1).2) from by rw [hR, ho, hs1e]; rfl, hG]
 refine ⟨.inl Z, _, ap, _, Z, Z, Z⟩
 exact absurd hx (bh hc39)
 refine aq (ak (ac (j2 O Z Z (jn (aa O Z Z (fun hc11 => ?_) (fun hc11 => ?_))))))
 exact absurd (ay hc11) (by omega)
 refine ae (j2 O Z Z (jn (aa O Z Z (fun hc11 => ?_) (fun hc11 => ?_))))
 exact absurd (ay hc11) (by omega)
 refine ak (ac (j2 O Z Z (jf [24,13,12,10,9,5,8,4,0,1] Z (jn (aa O Z Z (fun hc24 => ?_) (fun hc24 => ?_))))))
 exact absurd (ay hc24) (by omega)
 refine ae (j2 O Z Z (jn (aa O Z Z (fun hc24 => ?_) (fun hc24 => ?_))))
 exact absurd (ay hc24) (by omega)
 refine ak (ac (j2 O Z Z (jf [30,26,13,12,10,9,5,8,4,0,1] Z (jn (aa O Z Z (fun hc30 => ?_) (fun hc30 => ?_))))))
 exact absurd (ay hc30) (by omega)
 refine ae (j2 O Z Z (jn (aa O Z Z (fun hc30 => ?_) (fun hc30 => ?_))))
 exact absurd (ay hc30) (by omega)
 refine ac (j2 O Z Z (jf [39,32,26,13,12,10,9,5,8,4,0,1] Z (jn (aa O Z Z (fun hc39 => ?_) (fun hc39 => ?_)))))
 exact absurd (ay hc39) (by omega)
 refine am (ac (js O Z (jf [44,32,26,13,12,10,9,5,8,4,0,1] Z (jo O Z (au ?_)))))
 refine jr ?_
 have hG : cz o n s1 = (0, s1) := by unfold cz; rw [if_neg (by omega), if_neg (by omega), if_neg (by omega), if_neg (by omega)]
 rw [show R = (⟨o, (cz o n s1).1⟩, (cz o n s1).2) from by rw [hR, ho, hs1e]; rfl, hG]
 refine ⟨.inl Z, _, ap, _, Z, Z, Z⟩
def sA (s : Src) : Src := (s.pick 4).2
def gR (s : Src) : Src := ((sA s).pick 9).2
def sC (s : Src) : Src := ((gR s).pick 4).2
def sD (n : Int) (s : Src) : Src := ((sC s).pick (n + 1)).2
def sE (n : Int) (s : Src) : Src := ((sD n s).pick 6).2
def mR (c l p st to k : Int) : List In :=
  if c = 0 then [⟨1, l⟩, ⟨0, p⟩, ⟨3, 0⟩, ⟨2, st⟩] else if c = 1 then [⟨1, l⟩, ⟨4, p⟩, ⟨6, to⟩, ⟨9, k.tmod 4⟩]
  else if c = 2 then [⟨0, p⟩, ⟨7, 0⟩, ⟨2, st⟩, ⟨9, st⟩] else if c = 3 then [⟨0, p⟩, ⟨1, l⟩, ⟨8, 0⟩, ⟨5, to⟩]
  else if c = 4 then [⟨1, l⟩, ⟨10, 0⟩, ⟨0, p⟩, ⟨2, st⟩] else [⟨1, l⟩, ⟨0, p⟩, ⟨3, 0⟩, ⟨6, to⟩]
theorem nb {c l p st to k : Int} : (mR c l p st to k).length = 4 := by
  unfold mR; repeat' split
  all_goals exact Z
def lA (n k : Int) (s : Src) : List In := mR ((sD n s).pick 6).1 (s.pick 4).1 (((sA s).pick 9).1 - 2) ((gR s).pick 4).1 (4 * ((sC s).pick (n + 1)).1) k
def eG (n : Int) : Nat → Src → List In → List In × Src
  | 0, s, out => (out, s)
  | j + 1, s, out => eG n j (sE n s) (out ++ lA n (n - (j + 1)) s)
def lB (s : Src) : List In × Src := ((eG (1 + (s.pick 5).1) (1 + (s.pick 5).1).toNat (s.pick 5).2 []).1 ++ [⟨11, 0⟩], (eG (1 + (s.pick 5).1) (1 + (s.pick 5).1).toNat (s.pick 5).2 []).2)
theorem ge {n : Int} {s : Src} (h : s.Ok) : (sE n s).Ok := by unfold sE sD sC gR sA; exact h.pick.pick.pick.pick.pick
theorem py {n : Int} {s : Src} : (sE n s).at_ ≤ s.at_ + 10 ∧ (sA s).at_ ≤ s.at_ + 2 ∧ (gR s).at_ ≤ s.at_ + 4 ∧ (sC s).at_ ≤ s.at_ + 6 ∧ (sD n s).at_ ≤ s.at_ + 8 := by
 have h1 := aX (s := s) (n := 4)
 have h2 := aX (s := sA s) (n := 9)
 have h3 := aX (s := gR s) (n := 4)
 have h4 := aX (s := sC s) (n := n + 1)
 have h5 := aX (s := sD n s) (n := 6)
 show (_ : Nat) ≤ _ ∧ (_ : Nat) ≤ _ ∧ (_ : Nat) ≤ _ ∧ (_ : Nat) ≤ _ ∧ (_ : Nat) ≤ _
 have e1 : sA s = (s.pick 4).2 := rfl
 have e2 : gR s = ((sA s).pick 9).2 := rfl
 have e3 : sC s = ((gR s).pick 4).2 := rfl
 have e4 : sD n s = ((sC s).pick (n + 1)).2 := rfl
 have e5 : sE n s = ((sD n s).pick 6).2 := rfl
 rw [← e1] at h1; rw [← e2] at h2; rw [← e3] at h3; rw [← e4] at h4; rw [← e5] at h5
 omega
theorem nr {a : Int} (h : -2 ≤ a ∧ a ≤ 6) : gc a = true := ns (by omega)
theorem n5 {n k : Int} {s : Src} (h : s.Ok) (hn : 1 ≤ n) (hn2 : n ≤ 5) (hk : 0 ≤ k) : ∀ x ∈ lA n k s, av x = true := by
  have hA : (sA s).Ok := h.pick
  have hB : (gR s).Ok := hA.pick
  have hC : (sC s).Ok := hB.pick
  have hD : (sD n s).Ok := hC.pick
  have h1 := aR h (n := 4) (by omega)
  have h2 := aR hA (n := 9) (by omega)
  have h3 := aR hB (n := 4) (by omega)
  have h4 := aR hC (n := n + 1) (by omega)
  have h5 := c5 hk (show (0 : Int) < 4 by decide)
  unfold lA mR
  generalize (s.pick 4).1 = l at h1
  generalize ((sA s).pick 9).1 = p at h2
  generalize ((gR s).pick 4).1 = st at h3
  generalize ((sC s).pick (n + 1)).1 = to at h4
  have i1 : av ⟨1, l⟩ = true := lV (.inl Z) (by omega)
  have i0 : av ⟨0, p - 2⟩ = true := lW (.inl Z) (nr (by omega))
  have i4 : av ⟨4, p - 2⟩ = true := lW (.inr Z) (nr (by omega))
  have i2 : av ⟨2, st⟩ = true := lV (.inr Z) (by omega)
  have i9 : av ⟨9, st⟩ = true := lT Z (by omega)
  have i9' : av ⟨9, k.tmod 4⟩ = true := lT Z (by omega)
  have i5 : av ⟨5, 4 * to⟩ = true := lU (.inl Z) (by omega)
  have i6 : av ⟨6, 4 * to⟩ = true := lU (.inr Z) (by omega)
  have i3 : av ⟨3, 0⟩ = true := by decide
  have i7 : av ⟨7, 0⟩ = true := by decide
  have i8 : av ⟨8, 0⟩ = true := by decide
  have i10 : av ⟨10, 0⟩ = true := by decide
  intro x hx
  repeat' split at hx
  all_goals
    simp only [List.mem_cons, List.not_mem_nil, or_false] at hx
    rcases hx with rfl | rfl | rfl | rfl <;> assumption
theorem me {n : Int} (hn : 1 ≤ n) (hn2 : n ≤ 5) : ∀ {j : Nat} {s : Src} {out : List In}, (j : Int) ≤ n → s.Ok → (∀ x ∈ out, av x = true) → (∀ x ∈ (eG n j s out).1, av x = true) ∧ (eG n j s out).1.length = out.length + 4 * j
 | 0, s, out, _, _, h => ⟨h, rfl⟩
 | j + 1, s, out, hj, hs, h => by
  rw [eG]
  have h1 := me hn hn2 (j := j) (s := sE n s) (out := out ++ lA n (n - (j + 1)) s) (by omega) (ge hs) (fun x hx => by
   rcases List.mem_append.1 hx with h2 | h2
   · exact h x h2
   · exact n5 hs hn hn2 (by omega) x h2)
  refine ⟨h1.1, ?_⟩
  rw [h1.2, cx, show (lA n (n - (j + 1)) s).length = 4 from nb]; omega
theorem n6 {s : Src} (h : s.Ok) : br (lB s).1 = true := by
 have h5 := aR h (n := 5) (by omega)
 have h1 := me (n := 1 + (s.pick 5).1) (by omega) (by omega) (j := (1 + (s.pick 5).1).toNat) (s := (s.pick 5).2) (out := []) (by omega) h.pick (fun x hx => by cases hx)
 unfold br lB
 rw [aY, List.all_eq_true]
 refine ⟨fun x hx => ?_, iS ?_⟩
 rcases List.mem_append.1 hx with h2 | h2
 exact h1.1 x h2
 rw [List.mem_singleton.1 h2]; decide
 have := h1.2
 show 1 ≤ (((eG _ _ _ []).1 ++ [_]).length : Int) ∧ (((eG _ _ _ []).1 ++ [_]).length : Int) ≤ 80
 rw [cx, this, gb, List.length_nil]; omega
def ku (n : Int) : Nat → Src → List In → List In × Src
  | 0, s, out => (out, s)
  | j + 1, s, out => ku n j (jD n s).2 (out ++ [(jD n s).1])
theorem mh {n : Int} (hn : 1 ≤ n) : ∀ {j : Nat} {s : Src} {out : List In}, s.Ok → (∀ x ∈ out, av x = true) → (∀ x ∈ (ku n j s out).1, av x = true) ∧ (ku n j s out).1.length = out.length + j
 | 0, s, out, _, h => ⟨h, rfl⟩
 | j + 1, s, out, hs, h => by
  rw [ku]
  have h1 := mh hn (j := j) (s := (jD n s).2) (out := out ++ [(jD n s).1]) (mg hs) (fun x hx => by
   rcases List.mem_append.1 hx with h2 | h2
   · exact h x h2
   · rw [List.mem_singleton.1 h2]; exact n7 hs hn)
  refine ⟨h1.1, ?_⟩
  rw [h1.2, cx, gb]; omega
def mS (s : Src) : Int := if ((s.pick 9).2.pick 14).1 = 0 then 80 else 1 + (s.pick 9).1
def qn (s : Src) : List In × Src := ku (mS s) (mS s).toNat ((s.pick 9).2.pick 14).2 []
def kV (s : Src) : List In × Src := if (s.pick 3).1 = 0 then qn (s.pick 3).2 else lB (s.pick 3).2
theorem mf {s : Src} (h : s.Ok) : 1 ≤ mS s ∧ mS s ≤ 80 := by
 have := aR h (n := 9) (by omega)
 unfold mS; split <;> omega
theorem n9 {s : Src} (h : s.Ok) : br (kV s).1 = true := by
 unfold kV; split
 have hn := mf (h.pick (n := 3))
 have h1 := mh hn.1 (j := (mS (s.pick 3).2).toNat) (s := (((s.pick 3).2.pick 9).2.pick 14).2) (out := []) h.pick.pick.pick (fun x hx => by cases hx)
 unfold br
 rw [aY, List.all_eq_true]
 refine ⟨h1.1, iS ?_⟩
 have h2 := h1.2
 show 1 ≤ ((ku _ _ _ []).1.length : Int) ∧ ((ku _ _ _ []).1.length : Int) ≤ 80
 rw [h2, List.length_nil]; omega
 exact n6 h.pick
theorem pK {s : Src} (hs : s.Ok) (ha : s.at_ ≤ 999999800) : MQ h1 h2 26 [.c (.pt 0 0 0)] [(0, aL s)] (bB (.c (.rs 1 0 (lB s).1.length)) [(0, aL (lB s).2), (1, jF (lB s).1)]) := by
 refine MC.shift 500 Z (MC.keep [500,501] (bs := [aL (lB s).2, jF (lB s).1]) Z Z (jH 103 [500] h1 h2 Try.func26 Z Z Z Z fun O hF => ?_))
 refine dw ?_
 obtain ⟨R, hR⟩ : ∃ R, R = lB s := ⟨_, rfl⟩
 rw [← hR]
 have h5 := aR hs (n := 5) (by omega)
 have hat0 := aX (s := s) (n := 5)
 obtain ⟨N, hN⟩ : ∃ N : Nat, N = (1 + (s.pick 5).1).toNat := ⟨_, rfl⟩
 have hN1 : (N : Int) = 1 + (s.pick 5).1 := by omega
 have hR2 : R = ((eG N N (s.pick 5).2 []).1 ++ [⟨11, 0⟩], (eG N N (s.pick 5).2 []).2) := by rw [hR]; unfold lB; rw [← hN, ← hN1]
 refine ac (js O Z (aW (AOps.heap (bg O Z Z Z) Z (au ?_))))
 refine js O Z (aW (js O Z (al O [500] (bin := [aL s]) Z Z Z Z (bX (s := s) (n := 5) h1 h2 hs (by omega) (by omega) (by omega)) Z Z Z Z Z Z (B0 := 13000) Z Z (au ?_))))
 refine AOps.step ((ag O Z Z (by omega) (by omega)).cast (v' := eI ((N : Nat) : Int)) (congrArg eI hN1.symm)) Z Z Z (js O Z (jf [4,3,10,2,0] Z (jn (ak (ac (js O Z (jn (aq (aG (X := Nat × Src × List In) (fun x => ⟨[(0, .c (.pt 500 0 0)), (3, .c (.rs 900 0 x.2.2.length)), (4, eI ((N : Nat) : Int)), (5, eI ((N : Int) - x.1))], [(500, aL x.2.1), (900, jF x.2.2)]⟩) (fun x => x.2.1.Ok ∧ eG N N (s.pick 5).2 [] = eG N x.1 x.2.1 x.2.2 ∧ x.1 ≤ N ∧ x.2.2.length + 4 * x.1 = 4 * N ∧ x.2.1.at_ + 10 * x.1 ≤ s.at_ + 70) (fun x => x.1) (N, (s.pick 5).2, []) ((aj 10 900 Z Z).trans ((aN [500,900] (e' := [(0, _), (3, _), (4, _), (5, _)]) Z Z ⟨Z, Z, Z, Z, trivial⟩ Z).trans (Ent.to ⟨Z, Z, Z, congrArg (fun z => some (eI z)) (show (0 : Int) = (N : Int) - N by omega), trivial⟩ Z))) ?_ (fun x hi => ?_))))))))))
 exact ⟨hs.pick, Z, cZ _, by show 0 + 4 * N = 4 * N; omega, by show (s.pick 5).2.at_ + 10 * N ≤ s.at_ + 70; omega⟩
 refine ak (ac (j3 O Z Z Z (jf [16,0,3,4,5] Z (jn (aa O Z Z (fun hc16 => ?_) (fun hc16 => ?_))))))
 refine am (ak (aq (ac (js O Z ?_))))
 have hxl : 0 < x.1 := by have := ay hc16; omega
 obtain ⟨j, hj⟩ : ∃ j, x.1 = j + 1 := ⟨x.1 - 1, by omega⟩
 have hat := py (n := N) (s := x.2.1)
 obtain ⟨hi1, hi2, hi3, hi4, hi5⟩ := hi
 have hi := ai hi1 (ai hi2 (ai hi3 (ai hi4 hi5)))
 have hA : (sA x.2.1).Ok := hi1.pick
 have hB : (gR x.2.1).Ok := hA.pick
 have hC : (sC x.2.1).Ok := hB.pick
 have hD : (sD N x.2.1).Ok := hC.pick
 have k1 := aR hi1 (n := 4) (by omega)
 have k2 := aR hA (n := 9) (by omega)
 have k3 := aR hB (n := 4) (by omega)
 have k4 := aR hC (n := (N : Int) + 1) (by omega)
 have k5 := aR hD (n := 6) (by omega)
 refine al O [500] (bin := [aL x.2.1]) Z Z Z Z (bX (s := x.2.1) (n := 4) h1 h2 hi1 (by omega) (by omega) (by omega)) Z Z Z Z Z Z (B0 := 21000) Z Z (au ?_)
 rw [show (x.2.1.pick 4).2 = sA x.2.1 from Z]
 obtain ⟨l, hl⟩ : ∃ l, l = (x.2.1.pick 4).1 := ⟨_, rfl⟩
 rw [← hl] at k1 ⊢
 refine js O Z (jf [21,16,0,3,4,5] Z (jl O Z (au ?_)))
 refine jo O Z (au ?_)
 refine aF (Ent.freeze 6 (e' := [(6, _), (0, _), (3, _), (4, _), (5, _)]) Z (.cons Z (.c (.box (cs := [.int .i64 1, .int .i64 l]) Z (ba Z))) (fe [0,3,4,5] Z)) (.skip (.cons Z .row (.cons Z (.box (fk Z)) .nil)))) ?_
 refine au ?_
 refine aW (js O Z (al O [500] (bin := [aL (sA x.2.1)]) Z Z Z Z (bX (s := (sA x.2.1)) (n := 9) h1 h2 hA (by omega) (by omega) (by omega)) Z Z Z Z Z Z (B0 := 24000) Z Z (au ?_)))
 rw [show ((sA x.2.1).pick 9).2 = gR x.2.1 from Z]
 obtain ⟨p, hp⟩ : ∃ p, p = ((sA x.2.1).pick 9).1 := ⟨_, rfl⟩
 rw [← hp] at k2 ⊢
 refine AOps.step (ag O Z Z (by omega) (by omega)) Z Z Z (js O Z (jf [25,6,0,3,4,5] Z (jl O Z (au ?_))))
 refine jo O Z (au ?_)
 refine aF (Ent.freeze 7 (e' := [(7, _), (6, _), (0, _), (3, _), (4, _), (5, _)]) Z (.cons Z (.c (.box (cs := [.int .i64 0, .int .i64 (p - 2)]) Z (ba Z))) (fe [6,0,3,4,5] Z)) (.skip (.cons Z .row (.cons Z (.box (fk Z)) .nil)))) ?_
 refine au ?_
 refine aW (js O Z (al O [500] (bin := [aL (gR x.2.1)]) Z Z Z Z (bX (s := (gR x.2.1)) (n := 4) h1 h2 hB (by omega) (by omega) (by omega)) Z Z Z Z Z Z (B0 := 28000) Z Z (au ?_)))
 rw [show ((gR x.2.1).pick 4).2 = sC x.2.1 from Z]
 obtain ⟨st, hst⟩ : ∃ st, st = ((gR x.2.1).pick 4).1 := ⟨_, rfl⟩
 rw [← hst] at k3 ⊢
 refine js O Z (jf [28,7,6,0,3,4,5] Z (jl O Z (au ?_)))
 refine jo O Z (au ?_)
 refine aF (Ent.freeze 8 (e' := [(8, _), (7, _), (6, _), (0, _), (3, _), (4, _), (5, _)]) Z (.cons Z (.c (.box (cs := [.int .i64 2, .int .i64 st]) Z (ba Z))) (fe [7,6,0,3,4,5] Z)) (.skip (.cons Z .row (.cons Z (.box (fk Z)) .nil)))) ?_
 refine au ?_
 refine aW (j2 O Z Z (AOps.step (ag O Z Z (by omega) (by omega)) Z Z Z (jf [31,29,8,7,6,0,3,4,5] Z (al O [500] (bin := [aL (sC x.2.1)]) Z Z Z Z (bX (s := (sC x.2.1)) (n := ((N : Int) + 1)) h1 h2 hC (by omega) (by omega) (by omega)) Z Z Z Z Z Z (B0 := 33000) Z Z (au ?_)))))
 rw [show ((sC x.2.1).pick ((N : Int) + 1)).2 = sD N x.2.1 from Z]
 obtain ⟨to, hto⟩ : ∃ to, to = ((sC x.2.1).pick ((N : Int) + 1)).1 := ⟨_, rfl⟩
 rw [← hto] at k4 ⊢
 refine AOps.step (ag O Z Z (by omega) (by omega)) Z Z Z (js O Z (jf [9,8,7,6,0,3,4,5] Z (aW (js O Z (al O [500] (bin := [aL (sD N x.2.1)]) Z Z Z Z (bX (s := (sD N x.2.1)) (n := 6) h1 h2 hD (by omega) (by omega) (by omega)) Z Z Z Z Z Z (B0 := 36000) Z Z (au ?_))))))
 rw [show ((sD N x.2.1).pick 6).2 = sE N x.2.1 from Z]
 obtain ⟨c, hc⟩ : ∃ c, c = ((sD N x.2.1).pick 6).1 := ⟨_, rfl⟩
 rw [← hc] at k5 ⊢
 refine jn ?_
 rcases (show c = 0 ∨ c = 1 ∨ c = 2 ∨ c = 3 ∨ c = 4 ∨ c = 5 by omega) with hx | hx | hx | hx | hx | hx
 refine aq (ac (j2 O Z Z (jn (aa O Z Z (fun hc36 => ?_) (fun hc36 => ?_)))))
 refine ae (j4 O Z Z Z Z (js O Z (AOps.heap (bg O Z Z Z) Z (au ?_))))
 refine jf [43,38,36,37,35,34,9,8,7,6,0,3,4,5] Z (AOps.heap (aO (zs := (x.2.2 ++ [(⟨1, l⟩ : In), ⟨0, p - 2⟩, ⟨3, 0⟩, ⟨2, st⟩]).map In.cells) (n := (x.2.2 ++ [(⟨1, l⟩ : In), ⟨0, p - 2⟩, ⟨3, 0⟩, ⟨2, st⟩]).length) O Z Z Z Z Z Z Z Z Z Z Z Z Z Z Z Z (.row Z (dE _).symm) Z Z (by decide) Z (by simp; omega) (by simp; omega) (by rw [List.map_append]; rfl) (by simp)) Z (au ?_))
 refine au ?_
 refine js O Z (jf [3,36,37,35,34,9,8,7,6,0,4,5] Z (jn (ae (js O Z (AOps.step ((ag O Z Z (by omega) (by omega)).cast (v' := eI ((N : Int) - (j : Nat))) (congrArg eI (by omega))) Z Z Z (js O Z (jf [5,3,36,37,35,34,9,8,7,6,0,4] Z (jn ?_))))))))
 have hB : lA (N : Int) ((N : Int) - (j + 1)) x.2.1 = [(⟨1, l⟩ : In), ⟨0, p - 2⟩, ⟨3, 0⟩, ⟨2, st⟩] := by
  show mR ((sD (N : Int) x.2.1).pick 6).1 (x.2.1.pick 4).1 (((sA x.2.1).pick 9).1 - 2) ((gR x.2.1).pick 4).1 (4 * ((sC x.2.1).pick ((N : Int) + 1)).1) _ = _
  rw [← hl, ← hp, ← hst, ← hto, ← hc, hx]
  rfl
 refine ⟨(j, sE N x.2.1, x.2.2 ++ [(⟨1, l⟩ : In), ⟨0, p - 2⟩, ⟨3, 0⟩, ⟨2, st⟩]), ((aN [500,44] (e' := [(0, _), (3, _), (4, _), (5, _)]) Z Z ⟨Z, Z, Z, Z, trivial⟩ Z).trans (aj 44 900 Z Z)).trans (Ent.to ⟨Z, Z, Z, Z, trivial⟩ Z), ⟨ge hi.1, hi.2.1.trans (by rw [show eG (N : Int) x.1 = eG (N : Int) (j + 1) from congrArg _ hj, eG, hB]), by show j ≤ N; omega, by show (x.2.2 ++ _).length + 4 * j = 4 * N; rw [cx]; show x.2.2.length + 4 + 4 * j = 4 * N; omega, by show (sE N x.2.1).at_ + 10 * j ≤ _; omega⟩, by show j < x.1; omega⟩
 exact absurd hx (bh hc36)
 refine aq (ac (j2 O Z Z (jn (aa O Z Z (fun hc36 => ?_) (fun hc36 => ?_)))))
 exact absurd (ay hc36) (by omega)
 refine ac (j2 O Z Z (jn (aa O Z Z (fun hc45 => ?_) (fun hc45 => ?_))))
 refine ae (j4 O Z Z Z Z (j4 O Z Z Z Z ?_))
 have ht4 := c5 (a := (N : Int) - x.1) (n := 4) (by omega) (by decide)
 refine AOps.step (fF O Z Z Z Z (by decide) (by omega) (by omega)) Z Z Z (js O Z (jf [56,53,51,48,47,45,46,36,37,35,34,9,8,7,6,0,3,4,5] Z (AOps.heap (bg O Z Z Z) Z (au ?_))))
 refine jf [57,47,45,46,36,37,35,34,9,8,7,6,0,3,4,5] Z (AOps.heap (aO (zs := (x.2.2 ++ [(⟨1, l⟩ : In), ⟨4, p - 2⟩, ⟨6, 4 * to⟩, ⟨9, ((N : Int) - x.1).tmod 4⟩]).map In.cells) (n := (x.2.2 ++ [(⟨1, l⟩ : In), ⟨4, p - 2⟩, ⟨6, 4 * to⟩, ⟨9, ((N : Int) - x.1).tmod 4⟩]).length) O Z Z Z Z Z Z Z Z Z Z Z Z Z Z Z Z (.row Z (dE _).symm) Z Z (by decide) Z (by simp; omega) (by simp; omega) (by rw [List.map_append]; rfl) (by simp)) Z (au ?_))
 refine au ?_
 refine js O Z (jf [3,45,46,36,37,35,34,9,8,7,6,0,4,5] Z (jn (ae (js O Z (AOps.step ((ag O Z Z (by omega) (by omega)).cast (v' := eI ((N : Int) - (j : Nat))) (congrArg eI (by omega))) Z Z Z (js O Z (jf [5,3,45,46,36,37,35,34,9,8,7,6,0,4] Z (jn ?_))))))))
 have hB : lA (N : Int) ((N : Int) - (j + 1)) x.2.1 = [(⟨1, l⟩ : In), ⟨4, p - 2⟩, ⟨6, 4 * to⟩, ⟨9, ((N : Int) - x.1).tmod 4⟩] := by
  show mR ((sD (N : Int) x.2.1).pick 6).1 (x.2.1.pick 4).1 (((sA x.2.1).pick 9).1 - 2) ((gR x.2.1).pick 4).1 (4 * ((sC x.2.1).pick ((N : Int) + 1)).1) _ = _
  rw [← hl, ← hp, ← hst, ← hto, ← hc, hx, hj]
  simp only [Int.natCast_add, Int.natCast_one]; rfl
 refine ⟨(j, sE N x.2.1, x.2.2 ++ [(⟨1, l⟩ : In), ⟨4, p - 2⟩, ⟨6, 4 * to⟩, ⟨9, ((N : Int) - x.1).tmod 4⟩]), ((aN [500,58] (e' := [(0, _), (3, _), (4, _), (5, _)]) Z Z ⟨Z, Z, Z, Z, trivial⟩ Z).trans (aj 58 900 Z Z)).trans (Ent.to ⟨Z, Z, Z, Z, trivial⟩ Z), ⟨ge hi.1, hi.2.1.trans (by rw [show eG (N : Int) x.1 = eG (N : Int) (j + 1) from congrArg _ hj, eG, hB]), by show j ≤ N; omega, by show (x.2.2 ++ _).length + 4 * j = 4 * N; rw [cx]; show x.2.2.length + 4 + 4 * j = 4 * N; omega, by show (sE N x.2.1).at_ + 10 * j ≤ _; omega⟩, by show j < x.1; omega⟩
 exact absurd hx (bh hc45)
 refine aq (ac (j2 O Z Z (jn (aa O Z Z (fun hc36 => ?_) (fun hc36 => ?_)))))
 exact absurd (ay hc36) (by omega)
 refine ac (j2 O Z Z (jn (aa O Z Z (fun hc45 => ?_) (fun hc45 => ?_))))
 exact absurd (ay hc45) (by omega)
 refine ac (j2 O Z Z (jn (aa O Z Z (fun hc59 => ?_) (fun hc59 => ?_))))
 refine ae (j4 O Z Z Z Z (j3 O Z Z Z (jf [67,64,63,62,61,59,60,45,46,36,37,35,34,9,8,7,6,0,3,4,5] Z (AOps.heap (bg O Z Z Z) Z (au ?_)))))
 refine jf [68,61,59,60,45,46,36,37,35,34,9,8,7,6,0,3,4,5] Z (AOps.heap (aO (zs := (x.2.2 ++ [(⟨0, p - 2⟩ : In), ⟨7, 0⟩, ⟨2, st⟩, ⟨9, st⟩]).map In.cells) (n := (x.2.2 ++ [(⟨0, p - 2⟩ : In), ⟨7, 0⟩, ⟨2, st⟩, ⟨9, st⟩]).length) O Z Z Z Z Z Z Z Z Z Z Z Z Z Z Z Z (.row Z (dE _).symm) Z Z (by decide) Z (by simp; omega) (by simp; omega) (by rw [List.map_append]; rfl) (by simp)) Z (au ?_))
 refine au ?_
 refine js O Z (jf [3,59,60,45,46,36,37,35,34,9,8,7,6,0,4,5] Z (jn (ae (js O Z (AOps.step ((ag O Z Z (by omega) (by omega)).cast (v' := eI ((N : Int) - (j : Nat))) (congrArg eI (by omega))) Z Z Z (js O Z (jf [5,3,59,60,45,46,36,37,35,34,9,8,7,6,0,4] Z (jn ?_))))))))
 have hB : lA (N : Int) ((N : Int) - (j + 1)) x.2.1 = [(⟨0, p - 2⟩ : In), ⟨7, 0⟩, ⟨2, st⟩, ⟨9, st⟩] := by
  show mR ((sD (N : Int) x.2.1).pick 6).1 (x.2.1.pick 4).1 (((sA x.2.1).pick 9).1 - 2) ((gR x.2.1).pick 4).1 (4 * ((sC x.2.1).pick ((N : Int) + 1)).1) _ = _
  rw [← hl, ← hp, ← hst, ← hto, ← hc, hx]
  rfl
 refine ⟨(j, sE N x.2.1, x.2.2 ++ [(⟨0, p - 2⟩ : In), ⟨7, 0⟩, ⟨2, st⟩, ⟨9, st⟩]), ((aN [500,69] (e' := [(0, _), (3, _), (4, _), (5, _)]) Z Z ⟨Z, Z, Z, Z, trivial⟩ Z).trans (aj 69 900 Z Z)).trans (Ent.to ⟨Z, Z, Z, Z, trivial⟩ Z), ⟨ge hi.1, hi.2.1.trans (by rw [show eG (N : Int) x.1 = eG (N : Int) (j + 1) from congrArg _ hj, eG, hB]), by show j ≤ N; omega, by show (x.2.2 ++ _).length + 4 * j = 4 * N; rw [cx]; show x.2.2.length + 4 + 4 * j = 4 * N; omega, by show (sE N x.2.1).at_ + 10 * j ≤ _; omega⟩, by show j < x.1; omega⟩
 exact absurd hx (bh hc59)
 refine aq (ac (j2 O Z Z (jn (aa O Z Z (fun hc36 => ?_) (fun hc36 => ?_)))))
 exact absurd (ay hc36) (by omega)
 refine ac (j2 O Z Z (jn (aa O Z Z (fun hc45 => ?_) (fun hc45 => ?_))))
 exact absurd (ay hc45) (by omega)
 refine ac (j2 O Z Z (jn (aa O Z Z (fun hc59 => ?_) (fun hc59 => ?_))))
 exact absurd (ay hc59) (by omega)
 refine ac (j2 O Z Z (jn (aa O Z Z (fun hc70 => ?_) (fun hc70 => ?_))))
 refine ae (j4 O Z Z Z Z (j2 O Z Z (jf [77,75,74,73,72,70,71,59,60,45,46,36,37,35,34,9,8,7,6,0,3,4,5] Z (AOps.heap (bg O Z Z Z) Z (au ?_)))))
 refine jf [78,72,70,71,59,60,45,46,36,37,35,34,9,8,7,6,0,3,4,5] Z (AOps.heap (aO (zs := (x.2.2 ++ [(⟨0, p - 2⟩ : In), ⟨1, l⟩, ⟨8, 0⟩, ⟨5, 4 * to⟩]).map In.cells) (n := (x.2.2 ++ [(⟨0, p - 2⟩ : In), ⟨1, l⟩, ⟨8, 0⟩, ⟨5, 4 * to⟩]).length) O Z Z Z Z Z Z Z Z Z Z Z Z Z Z Z Z (.row Z (dE _).symm) Z Z (by decide) Z (by simp; omega) (by simp; omega) (by rw [List.map_append]; rfl) (by simp)) Z (au ?_))
 refine au ?_
 refine js O Z (jf [3,70,71,59,60,45,46,36,37,35,34,9,8,7,6,0,4,5] Z (jn (ae (js O Z (AOps.step ((ag O Z Z (by omega) (by omega)).cast (v' := eI ((N : Int) - (j : Nat))) (congrArg eI (by omega))) Z Z Z (js O Z (jf [5,3,70,71,59,60,45,46,36,37,35,34,9,8,7,6,0,4] Z (jn ?_))))))))
 have hB : lA (N : Int) ((N : Int) - (j + 1)) x.2.1 = [(⟨0, p - 2⟩ : In), ⟨1, l⟩, ⟨8, 0⟩, ⟨5, 4 * to⟩] := by
  show mR ((sD (N : Int) x.2.1).pick 6).1 (x.2.1.pick 4).1 (((sA x.2.1).pick 9).1 - 2) ((gR x.2.1).pick 4).1 (4 * ((sC x.2.1).pick ((N : Int) + 1)).1) _ = _
  rw [← hl, ← hp, ← hst, ← hto, ← hc, hx]
  rfl
 refine ⟨(j, sE N x.2.1, x.2.2 ++ [(⟨0, p - 2⟩ : In), ⟨1, l⟩, ⟨8, 0⟩, ⟨5, 4 * to⟩]), ((aN [500,79] (e' := [(0, _), (3, _), (4, _), (5, _)]) Z Z ⟨Z, Z, Z, Z, trivial⟩ Z).trans (aj 79 900 Z Z)).trans (Ent.to ⟨Z, Z, Z, Z, trivial⟩ Z), ⟨ge hi.1, hi.2.1.trans (by rw [show eG (N : Int) x.1 = eG (N : Int) (j + 1) from congrArg _ hj, eG, hB]), by show j ≤ N; omega, by show (x.2.2 ++ _).length + 4 * j = 4 * N; rw [cx]; show x.2.2.length + 4 + 4 * j = 4 * N; omega, by show (sE N x.2.1).at_ + 10 * j ≤ _; omega⟩, by show j < x.1; omega⟩
 exact absurd hx (bh hc70)
 refine aq (ac (j2 O Z Z (jn (aa O Z Z (fun hc36 => ?_) (fun hc36 => ?_)))))
 exact absurd (ay hc36) (by omega)
 refine ac (j2 O Z Z (jn (aa O Z Z (fun hc45 => ?_) (fun hc45 => ?_))))
 exact absurd (ay hc45) (by omega)
 refine ac (j2 O Z Z (jn (aa O Z Z (fun hc59 => ?_) (fun hc59 => ?_))))
 exact absurd (ay hc59) (by omega)
 refine ac (j2 O Z Z (jn (aa O Z Z (fun hc70 => ?_) (fun hc70 => ?_))))
 exact absurd (ay hc70) (by omega)
 refine ac (j2 O Z Z (jn (aa O Z Z (fun hc80 => ?_) (fun hc80 => ?_))))
 refine ae (j4 O Z Z Z Z (js O Z (AOps.heap (bg O Z Z Z) Z (au ?_))))
 refine jf [87,82,80,81,70,71,59,60,45,46,36,37,35,34,9,8,7,6,0,3,4,5] Z (AOps.heap (aO (zs := (x.2.2 ++ [(⟨1, l⟩ : In), ⟨10, 0⟩, ⟨0, p - 2⟩, ⟨2, st⟩]).map In.cells) (n := (x.2.2 ++ [(⟨1, l⟩ : In), ⟨10, 0⟩, ⟨0, p - 2⟩, ⟨2, st⟩]).length) O Z Z Z Z Z Z Z Z Z Z Z Z Z Z Z Z (.row Z (dE _).symm) Z Z (by decide) Z (by simp; omega) (by simp; omega) (by rw [List.map_append]; rfl) (by simp)) Z (au ?_))
 refine au ?_
 refine js O Z (jf [3,80,81,70,71,59,60,45,46,36,37,35,34,9,8,7,6,0,4,5] Z (jn (ae (js O Z (AOps.step ((ag O Z Z (by omega) (by omega)).cast (v' := eI ((N : Int) - (j : Nat))) (congrArg eI (by omega))) Z Z Z (js O Z (jf [5,3,80,81,70,71,59,60,45,46,36,37,35,34,9,8,7,6,0,4] Z (jn ?_))))))))
 have hB : lA (N : Int) ((N : Int) - (j + 1)) x.2.1 = [(⟨1, l⟩ : In), ⟨10, 0⟩, ⟨0, p - 2⟩, ⟨2, st⟩] := by
  show mR ((sD (N : Int) x.2.1).pick 6).1 (x.2.1.pick 4).1 (((sA x.2.1).pick 9).1 - 2) ((gR x.2.1).pick 4).1 (4 * ((sC x.2.1).pick ((N : Int) + 1)).1) _ = _
  rw [← hl, ← hp, ← hst, ← hto, ← hc, hx]
  rfl
 refine ⟨(j, sE N x.2.1, x.2.2 ++ [(⟨1, l⟩ : In), ⟨10, 0⟩, ⟨0, p - 2⟩, ⟨2, st⟩]), ((aN [500,88] (e' := [(0, _), (3, _), (4, _), (5, _)]) Z Z ⟨Z, Z, Z, Z, trivial⟩ Z).trans (aj 88 900 Z Z)).trans (Ent.to ⟨Z, Z, Z, Z, trivial⟩ Z), ⟨ge hi.1, hi.2.1.trans (by rw [show eG (N : Int) x.1 = eG (N : Int) (j + 1) from congrArg _ hj, eG, hB]), by show j ≤ N; omega, by show (x.2.2 ++ _).length + 4 * j = 4 * N; rw [cx]; show x.2.2.length + 4 + 4 * j = 4 * N; omega, by show (sE N x.2.1).at_ + 10 * j ≤ _; omega⟩, by show j < x.1; omega⟩
 exact absurd hx (bh hc80)
 refine aq (ac (j2 O Z Z (jn (aa O Z Z (fun hc36 => ?_) (fun hc36 => ?_)))))
 exact absurd (ay hc36) (by omega)
 refine ac (j2 O Z Z (jn (aa O Z Z (fun hc45 => ?_) (fun hc45 => ?_))))
 exact absurd (ay hc45) (by omega)
 refine ac (j2 O Z Z (jn (aa O Z Z (fun hc59 => ?_) (fun hc59 => ?_))))
 exact absurd (ay hc59) (by omega)
 refine ac (j2 O Z Z (jn (aa O Z Z (fun hc70 => ?_) (fun hc70 => ?_))))
 exact absurd (ay hc70) (by omega)
 refine ac (j2 O Z Z (jn (aa O Z Z (fun hc80 => ?_) (fun hc80 => ?_))))
 exact absurd (ay hc80) (by omega)
 refine ac (j2 O Z Z (jn (aa O Z Z (fun hc89 => ?_) (fun hc89 => ?_))))
 refine ae (j4 O Z Z Z Z (j2 O Z Z (jf [96,94,93,92,91,89,90,80,81,70,71,59,60,45,46,36,37,35,34,9,8,7,6,0,3,4,5] Z (AOps.heap (bg O Z Z Z) Z (au ?_)))))
 refine jf [97,91,89,90,80,81,70,71,59,60,45,46,36,37,35,34,9,8,7,6,0,3,4,5] Z (AOps.heap (aO (zs := (x.2.2 ++ [(⟨1, l⟩ : In), ⟨0, p - 2⟩, ⟨3, 0⟩, ⟨6, 4 * to⟩]).map In.cells) (n := (x.2.2 ++ [(⟨1, l⟩ : In), ⟨0, p - 2⟩, ⟨3, 0⟩, ⟨6, 4 * to⟩]).length) O Z Z Z Z Z Z Z Z Z Z Z Z Z Z Z Z (.row Z (dE _).symm) Z Z (by decide) Z (by simp; omega) (by simp; omega) (by rw [List.map_append]; rfl) (by simp)) Z (au ?_))
 refine au ?_
 refine js O Z (jf [3,89,90,80,81,70,71,59,60,45,46,36,37,35,34,9,8,7,6,0,4,5] Z (jn (ae (js O Z (AOps.step ((ag O Z Z (by omega) (by omega)).cast (v' := eI ((N : Int) - (j : Nat))) (congrArg eI (by omega))) Z Z Z (js O Z (jf [5,3,89,90,80,81,70,71,59,60,45,46,36,37,35,34,9,8,7,6,0,4] Z (jn ?_))))))))
 have hB : lA (N : Int) ((N : Int) - (j + 1)) x.2.1 = [(⟨1, l⟩ : In), ⟨0, p - 2⟩, ⟨3, 0⟩, ⟨6, 4 * to⟩] := by
  show mR ((sD (N : Int) x.2.1).pick 6).1 (x.2.1.pick 4).1 (((sA x.2.1).pick 9).1 - 2) ((gR x.2.1).pick 4).1 (4 * ((sC x.2.1).pick ((N : Int) + 1)).1) _ = _
  rw [← hl, ← hp, ← hst, ← hto, ← hc, hx]
  rfl
 refine ⟨(j, sE N x.2.1, x.2.2 ++ [(⟨1, l⟩ : In), ⟨0, p - 2⟩, ⟨3, 0⟩, ⟨6, 4 * to⟩]), ((aN [500,98] (e' := [(0, _), (3, _), (4, _), (5, _)]) Z Z ⟨Z, Z, Z, Z, trivial⟩ Z).trans (aj 98 900 Z Z)).trans (Ent.to ⟨Z, Z, Z, Z, trivial⟩ Z), ⟨ge hi.1, hi.2.1.trans (by rw [show eG (N : Int) x.1 = eG (N : Int) (j + 1) from congrArg _ hj, eG, hB]), by show j ≤ N; omega, by show (x.2.2 ++ _).length + 4 * j = 4 * N; rw [cx]; show x.2.2.length + 4 + 4 * j = 4 * N; omega, by show (sE N x.2.1).at_ + 10 * j ≤ _; omega⟩, by show j < x.1; omega⟩
 exact absurd hx (bh hc89)
 refine bF (ac ?_)
 have hx0 : x.1 = 0 := by have := bh hc16; omega
 have hxe := hi.2.1
 rw [hx0, eG] at hxe
 refine j2 O Z Z (AOps.heap (bg O Z Z Z) Z (au ?_))
 refine jf [101,99,16,0,3,4,5] Z (AOps.heap (aO (zs := (x.2.2 ++ [(⟨11, 0⟩ : In)]).map In.cells) (n := (x.2.2 ++ [(⟨11, 0⟩ : In)]).length) O Z Z Z Z Z Z Z Z Z Z Z Z Z Z Z Z (.row Z (dE _).symm) Z Z (by decide) Z (by simp; omega) (by simp; omega) (by rw [List.map_append]; rfl) (by simp)) Z (au ?_))
 refine au ?_
 refine js O Z (jf [2,16,0,3,4,5] Z (jr ?_))
 rw [hR2, hxe]
 refine ⟨.inl Z, _, aj 102 501 Z Z, _, Z, Z, Z⟩
theorem pL {s : Src} (hs : s.Ok) (ha : s.at_ ≤ 999998000) : MQ h1 h2 15 [.c (.pt 0 0 0)] [(0, aL s)] (bB (.c (.rs 1 0 (kV s).1.length)) [(0, aL (kV s).2), (1, jF (kV s).1)]) := by
 refine MC.shift 500 Z (MC.keep [500,501] (bs := [aL (kV s).2, jF (kV s).1]) Z Z (jH 29 [500] h1 h2 Try.func15 Z Z Z Z fun O hF => ?_))
 refine dw ?_
 obtain ⟨R, hR⟩ : ∃ R, R = kV s := ⟨_, rfl⟩
 rw [← hR]
 have hat0 := aX (s := s) (n := 3)
 obtain ⟨s1, h1e⟩ : ∃ s1, s1 = (s.pick 3).2 := ⟨_, rfl⟩
 have hs1 : s1.Ok := by rw [h1e]; exact hs.pick
 rw [← h1e] at hat0
 have h9 := aR hs1 (n := 9) (by omega)
 have hat1 := aX (s := s1) (n := 9)
 have hat2 := aX (s := (s1.pick 9).2) (n := 14)
 obtain ⟨s4, h4e⟩ : ∃ s4, s4 = ((s1.pick 9).2.pick 14).2 := ⟨_, rfl⟩
 have hs4 : s4.Ok := by rw [h4e]; exact hs1.pick.pick
 rw [← h4e] at hat2
 obtain ⟨N, hN⟩ : ∃ N : Nat, N = (mS s1).toNat := ⟨_, rfl⟩
 have hN2 := mf hs1
 have hN1 : (N : Int) = mS s1 := by omega
 refine ac (js O Z (jn (ak (ac (js O Z (al O [500] (bin := [aL s]) Z Z Z Z (iU (s := s) (n := 3) h1 h2 hs (by omega) (by omega) (by omega)) Z Z Z Z Z Z (B0 := 8000) Z Z (au ?_)))))))
 rw [← h1e]
 refine js O Z (jf [8,2,0] Z (jn (aa O Z Z (fun hc8 => ?_) (fun hc8 => ?_))))
 refine ac (js O Z (jf [9,2,0] Z (al O [500] (bin := [aL s1]) Z Z Z Z (pK (s := s1) h1 h2 hs1 (by omega)) Z Z Z Z Z Z (B0 := 11000) Z Z (au ?_))))
 refine js O Z (jf [2,0] Z (jr ?_))
 rw [hR.trans (show kV s = lB s1 from by rw [h1e]; exact if_neg (bh (oQ hc8)))]
 refine ⟨.inl Z, _, aj 11001 501 Z Z, _, Z, Z, Z⟩
 refine am (ac (AOps.heap (bg O Z Z Z) Z (au ?_)))
 refine js O Z (jf [3,2,0] Z (aW (js O Z (al O [500] (bin := [aL s1]) Z Z Z Z (bX (s := s1) (n := 9) h1 h2 hs1 (by omega) (by omega) (by omega)) Z Z Z Z Z Z (B0 := 14000) Z Z (au ?_)))))
 refine AOps.step (ag O Z Z (by omega) (by omega)) Z Z Z (js O Z (jf [4,3,2,0] Z (jn (ak (ac (js O Z (al O [500] (bin := [aL (s1.pick 9).2]) Z Z Z Z (iU (s := (s1.pick 9).2) (n := 14) h1 h2 hs1.pick (by omega) (by omega) (by omega)) Z Z Z Z Z Z (B0 := 17000) Z Z (au ?_))))))))
 rw [← h4e]
 refine jn (f9 ⟨[(0, .c (.pt 500 0 0)), (3, .c (.rs 11 0 0)), (4, eI ((N : Nat) : Int))], [(11, jF []), (500, aL s4)]⟩ ?_ ?_)
 refine aa O Z Z (fun hc16 => ?_) (fun hc16 => ?_)
 refine ae (js O Z (jn ?_))
 exact ⟨Z, ap.trans (Ent.to ⟨Z, Z, congrArg (fun z => some (eI z)) (show (80 : Int) = (N : Int) by rw [hN1]; unfold mS; rw [if_pos (ay hc16)]), trivial⟩ Z)⟩
 refine am ?_
 exact ⟨Z, ap.trans (Ent.to ⟨Z, Z, congrArg (fun z => some (eI z)) (show 1 + (s1.pick 9).1 = (N : Int) by rw [hN1]; unfold mS; rw [if_neg (bh hc16)]), trivial⟩ Z)⟩
 refine ak (ac (js O Z (jn (aq (aG (X := Nat × Src × List In) (fun x => ⟨[(0, .c (.pt 500 0 0)), (3, .c (.rs 900 0 x.2.2.length)), (4, eI ((N : Nat) : Int)), (5, eI ((N : Int) - x.1))], [(500, aL x.2.1), (900, jF x.2.2)]⟩) (fun x => x.2.1.Ok ∧ ku N N s4 [] = ku N x.1 x.2.1 x.2.2 ∧ x.1 ≤ N ∧ x.2.2.length + x.1 = N ∧ x.2.1.at_ + 8 * x.1 ≤ s.at_ + 700) (fun x => x.1) (N, s4, []) ((aj 11 900 Z Z).trans ((aN [500,900] (e' := [(0, _), (3, _), (4, _), (5, _)]) Z Z ⟨Z, Z, Z, Z, trivial⟩ Z).trans (Ent.to ⟨Z, Z, Z, congrArg (fun z => some (eI z)) (show (0 : Int) = (N : Int) - N by omega), trivial⟩ Z))) ?_ (fun x hi => ?_))))))
 exact ⟨hs4, Z, cZ _, by show 0 + N = N; omega, by show s4.at_ + 8 * N ≤ s.at_ + 700; omega⟩
 refine ak (ac (j3 O Z Z Z (jf [19,0,3,4,5] Z (jn (aa O Z Z (fun hc19 => ?_) (fun hc19 => ?_))))))
 refine am (ak (aq (ae ?_)))
 have hxl : 0 < x.1 := by have := ay hc19; omega
 obtain ⟨j, hj⟩ : ∃ j, x.1 = j + 1 := ⟨x.1 - 1, by omega⟩
 obtain ⟨hi1, hi2, hi3, hi4, hi5⟩ := hi
 have hat3 := n8 (n := N) (s := x.2.1)
 refine j3 O Z Z Z (al O [500] (bin := [aL x.2.1]) Z Z Z Z (pJ (s := x.2.1) (n := N) h1 h2 hi1 (by omega) (by omega) (by omega)) Z Z Z Z Z Z (B0 := 26000) Z Z (au ?_))
 refine jf [25,22,19,0,3,4,5] Z (AOps.heap (bg O Z Z Z) Z (au ?_))
 refine jf [26,22,19,0,3,4,5] Z (AOps.heap (aO (zs := (x.2.2 ++ [(jD N x.2.1).1]).map In.cells) (n := (x.2.2 ++ [(jD N x.2.1).1]).length) O Z Z Z Z Z Z Z Z Z Z Z Z Z Z Z Z (.row Z (dE _).symm) Z Z (by decide) Z (by simp; omega) (by simp; omega) (by rw [List.map_append]; rfl) (by simp)) Z (au ?_))
 refine au ?_
 refine js O Z (jf [3,19,0,4,5] Z (jn (ae (js O Z (AOps.step ((ag O Z Z (by omega) (by omega)).cast (v' := eI ((N : Int) - (j : Nat))) (congrArg eI (by omega))) Z Z Z (js O Z (jf [5,3,19,0,4] Z (jn ?_))))))))
 refine ⟨(j, (jD N x.2.1).2, x.2.2 ++ [(jD N x.2.1).1]), ((aN [500,27] (e' := [(0, _), (3, _), (4, _), (5, _)]) Z Z ⟨Z, Z, Z, Z, trivial⟩ Z).trans (aj 27 900 Z Z)).trans (Ent.to ⟨Z, Z, Z, Z, trivial⟩ Z), ⟨mg hi1, hi2.trans (by rw [show ku (N : Int) x.1 = ku (N : Int) (j + 1) from congrArg _ hj, ku]), by show j ≤ N; omega, by show (x.2.2 ++ _).length + j = N; rw [cx, gb]; omega, by show (jD N x.2.1).2.at_ + 8 * j ≤ _; omega⟩, by show j < x.1; omega⟩
 refine bF (ac (j2 O Z Z (jr ?_)))
 have hx0 : x.1 = 0 := by have := bh hc19; omega
 have hxe := hi.2.1
 rw [hx0, ku] at hxe
 rw [hR.trans (show kV s = ku N N s4 [] from by show (if (s.pick 3).1 = 0 then qn (s.pick 3).2 else _) = _; rw [if_pos (ay (nN hc8)), ← h1e]; unfold qn; rw [← hN, ← hN1, ← h4e]), hxe]
 refine ⟨.inl Z, _, aj 900 501 Z Z, _, Z, Z, Z⟩
theorem pT (hx : ∀ n ∈ xs, 0 ≤ n ∧ n ≤ 255) : MQ h1 h2 5 [.c (.d (bys xs))] [] (Plain (bf (kV ⟨xs, 0, 0⟩).1)) := by
 refine MC.data (jB 8 h1 h2 Try.func5 Z Z Z fun O hF => ?_)
 obtain ⟨R, hR⟩ : ∃ R, R = kV ⟨xs, 0, 0⟩ := ⟨_, rfl⟩
 rw [← hR]
 refine ac (js O Z (aW (js O Z (jf [4,2] Z (al O [] (bin := []) Z Z Z Z (nG (xs := xs) h1 h2) Z Z Z Z Z Z (B0 := 6000) Z Z (au ?_))))))
 refine js O Z (jf [3,2] Z (aW (js O Z (jf [6,2] Z (al O [6000] (bin := [aL ⟨xs, 0, 0⟩]) Z Z Z Z (pL (s := ⟨xs, 0, 0⟩) h1 h2 ⟨hx⟩ (by show (0 : Nat) ≤ 999998000; decide)) Z Z Z Z Z Z (B0 := 8000) Z Z (au ?_))))))
 rw [← hR]
 refine js O Z (jf [2] Z (jr ?_))
 refine ⟨.inl Z, _, ap, _, Z, ?_⟩
 exact .v (.c (.whole Z (dE _).symm))
end Go.Al
