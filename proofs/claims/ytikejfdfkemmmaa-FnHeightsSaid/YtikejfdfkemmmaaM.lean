/- Steps and runs of the machine. -/
import Derived.Test.YtikejfdfkemmmaaF
import Derived.Test.YtikejfdfkemmmaaC
import Derived.Test.YtikejfdfkemmmaaQ
import Derived.Test.YtikejfdfkemmmaaE
set_option linter.unusedVariables false
set_option linter.unusedSimpArgs false
set_option maxRecDepth 10000
set_option maxHeartbeats 4000000
open Go.Proofs
namespace Go.Al
variable {L : Nat} (h1 : 4096 ≤ L) (h2 : L ≤ 1073741824)
theorem kA {x : In} {n : Nat} (h : cY x n = false) : 0 ≤ (n : Int) - (mv x).1 ∧ (0 < (mv x).2 → (n : Int) - (mv x).1 + (mv x).2 ≤ 6) := by
 unfold cY at h
 cases h1 : decide ((n : Int) - (mv x).1 < 0) with
 | true => rw [h1] at h; cases h
 | false =>
  rw [h1] at h
  have h2 := bh h1
  refine ⟨by omega, fun h3 => ?_⟩
  rw [show decide ((mv x).2 > 0) = true from decide_eq_true h3] at h
  have h4 := bh (show decide ((n : Int) - (mv x).1 + (mv x).2 > 6) = false from h)
  omega
theorem px {n b : Int} (hn : n ≠ 0) (h : (b.natAbs : Int) > (10000000000000000 : Int).tdiv n.natAbs) : bG (n * b) = false := by
 have h0 : 0 < n.natAbs := by omega
 rw [show (10000000000000000 : Int) = ((10000000000000000 : Nat) : Int) from Z, ← Int.ofNat_tdiv] at h
 have h1 : 10000000000000000 / n.natAbs < b.natAbs := by omega
 rw [Nat.div_lt_iff_lt_mul h0, Nat.mul_comm, ← Int.natAbs_mul] at h1
 cases hw : bG (n * b) with
 | false => rfl
 | true => have := iW.1 hw; omega
theorem nq {n b : Int} (h : n ≠ 0 → ¬ (b.natAbs : Int) > (10000000000000000 : Int).tdiv n.natAbs) : bG (n * b) = true := by
 by_cases hn : n = 0
 subst hn; rw [Int.zero_mul]; decide
 have h0 : 0 < n.natAbs := by omega
 have h := h hn
 rw [show (10000000000000000 : Int) = ((10000000000000000 : Nat) : Int) from Z, ← Int.ofNat_tdiv] at h
 have h1 : ¬ 10000000000000000 / n.natAbs < b.natAbs := by omega
 rw [Nat.div_lt_iff_lt_mul h0, Nat.mul_comm, ← Int.natAbs_mul] at h1
 exact iW.2 (by omega)
theorem qL {m : Nat} : 0 ≤ (10000000000000000 : Int).tdiv m ∧ (10000000000000000 : Int).tdiv m ≤ 10000000000000000 := by
 rw [show (10000000000000000 : Int) = ((10000000000000000 : Nat) : Int) from Z, ← Int.ofNat_tdiv]
 exact ⟨Int.natCast_nonneg _, Int.ofNat_le.2 (Nat.div_le_self 10000000000000000 m)⟩
theorem bb {xs : List Int} {k n : Nat} (h : n < xs.length) (hk : k = n) : (xs.map (fun n => [D.int .i64 n]))[k]? = some [.int .i64 (xs.getD n default)] := by
 subst hk; rw [List.getElem?_map, List.getElem?_eq_getElem h, aM h]; rfl
theorem kD {n : Int} : MQ h1 h2 52 [eI n] [] (Plain (eB (bG n))) := by
 refine aI ?_ Z
 refine jB 5 h1 h2 Try.func52 Z Z Z fun O hF => ?_
 refine ac (js O Z (aW (js O Z (af O Z Z Z Z (eK h1 h2) (ab Z) Z Z Z Z Z (B0 := 5000) Z (js O Z (jr ?_))))))
 refine ⟨.inl Z, _, ap, _, Z, ?_⟩
 first | rfl | skip
theorem nA {x : Int} (hx : -10000000000000000 ≤ x ∧ x ≤ 10000000000000000) : MQ h1 h2 65 [eI x] [] (Plain (eI x.natAbs)) := by
 refine aI ?_ Z
 refine jB 7 h1 h2 Try.func65 Z Z Z fun O hF => ?_
 refine ac (js O Z (aW (j2 O Z Z (ji O Z (j2 O Z Z (jr ?_))))))
 refine ⟨.inl Z, _, ap, _, Z, ?_⟩
 exact congrArg eI (show (if 0 - x > x then 0 - x else x) = (x.natAbs : Int) by split <;> omega)
theorem nB {n b : Int} (hn : bG n = true) (hb : gc b = true) : MQ h1 h2 53 [eI n, eI b] [] (Plain (.tup [eI (nJ n b).1, eB (nJ n b).2])) := by
 refine jB 23 h1 h2 Try.func53 Z Z Z fun O hF => ?_
 have hn2 := iW.1 hn
 have hb2 : -1000000 ≤ b ∧ b ≤ 1000000 := by unfold gc at hb; simpa using hb
 refine ac (j2 O Z Z (jn (ak (ac (js O Z (AOps.step ((V O Z).cast (v' := eB (decide (n ≠ 0))) (congrArg eB (by by_cases h : n = 0 <;> simp [h]))) Z Z Z (js O Z ?_)))))))
 cases hb9 : decide (n ≠ 0) with
 | true =>
  have hn0 := ay hb9
  refine jf [8,5,4,0,1] Z (aV Z (js O Z (aV Z (af O Z Z Z Z (nA (x := b) h1 h2 (by omega)) (ab Z) Z Z Z Z Z (B0 := 11000) Z (jf [10,8,5,4,0,1] Z (aV Z (js O Z (aV Z (af O Z Z Z Z (nA (x := n) h1 h2 hn2) (ab Z) Z Z Z Z Z (B0 := 13000) Z (jf [12,10,8,5,4,0,1] Z (aV Z ?_)))))))))))
  have hn3 : (n.natAbs : Int) ≠ 0 := by omega
  have hq := qL (m := n.natAbs)
  refine AOps.step (ld O Z Z Z Z hn3 (by omega) (by omega)) Z Z Z (jf [13,10,8,5,4,0,1] Z (aV Z (js O Z (AOps.step (cG O Z Z Z Z Z) Z Z Z (jf [15,5,4,0,1] Z (jn (aa O Z Z (fun hc15 => ?_) (fun hc15 => ?_))))))))
  refine ac (j2 O Z Z (jr ?_))
  refine ⟨.inl Z, _, ap, _, Z, ?_⟩
  refine ⟨?_, Z⟩
  rw [show nJ n b = (0, false) from if_neg (by rw [px hn0 (ay hc15)]; decide)]
  refine am (ac ?_)
  have hw : bG (n * b) = true := nq (fun h => by exact bh hc15)
  refine j2 O Z Z (AOps.step (ag O Z Z (by have := iW.1 hw; omega) (by have := iW.1 hw; omega)) Z Z Z (j2 O Z Z (AOps.step (ag O Z Z (by have := iW.1 hw; omega) (by have := iW.1 hw; omega)) Z Z Z (jf [21,18,5,4,0,1] Z (af O Z Z Z Z ((kD (n := n * b) h1 h2).plain (u := eB true) (by rw [hw])) (ab Z) Z Z Z Z Z (B0 := 23000) Z (j2 O Z Z (jf [5,4,0,1] Z (jr ?_))))))))
  refine ⟨.inl Z, _, ap, _, Z, ?_⟩
  refine ⟨?_, Z⟩
  rw [show nJ n b = (n * b, true) from if_pos hw]
 | false =>
  have hn0 := bh hb9
  refine jf [8,5,4,0,1] Z (AOps.skip Z Z Z Z Z Z (AOps.skip Z Z Z Z Z Z (jf [10,8,5,4,0,1] Z (AOps.skip Z Z Z Z Z Z (AOps.skip Z Z Z Z Z Z (jf [12,10,8,5,4,0,1] Z (AOps.skip Z Z Z Z Z Z (jf [13,10,8,5,4,0,1] Z (AOps.skip Z Z Z Z Z Z (AOps.step (ax O Z Z Z Z Z) Z Z Z (jf [15,5,4,0,1] Z (jn (aa O Z Z (fun hc15 => ?_) (fun hc15 => ?_))))))))))))))
  exact absurd hc15 (by decide)
  refine am (ac ?_)
  have hw : bG (n * b) = true := nq (fun h => absurd h hn0)
  refine j2 O Z Z (AOps.step (ag O Z Z (by have := iW.1 hw; omega) (by have := iW.1 hw; omega)) Z Z Z (j2 O Z Z (AOps.step (ag O Z Z (by have := iW.1 hw; omega) (by have := iW.1 hw; omega)) Z Z Z (jf [21,18,5,4,0,1] Z (af O Z Z Z Z ((kD (n := n * b) h1 h2).plain (u := eB true) (by rw [hw])) (ab Z) Z Z Z Z Z (B0 := 23000) Z (j2 O Z Z (jf [5,4,0,1] Z (jr ?_))))))))
  refine ⟨.inl Z, _, ap, _, Z, ?_⟩
  refine ⟨?_, Z⟩
  rw [show nJ n b = (n * b, true) from if_pos hw]
abbrev cI (c : Cf) (n : Nat) (ev cnt : List Int) (o : Int) (a1 a2 a3 a4 a5 : Nat) : B := .box [.rs a1 0 c.vars.length, .rs a2 0 c.cells.length, .rs a3 0 n, .d (.int .i64 c.at_), .rs a4 0 ev.length, .rs a5 0 cnt.length, .d (.int .i64 o)]
abbrev ir (c : Cf) (ev cnt : List Int) (o : Int) : List (Nat × B) := [(0, cI c c.stack.length ev cnt o 1 2 3 4 5), (1, ah c.vars), (2, ah c.cells), (3, ah c.stack), (4, ah ev), (5, ah cnt)]
abbrev qf (c : Cf) (ev cnt : List Int) (o : Int) : List (Nat × B) := [(0, cI c c.stack.length ev cnt o 1 2 6 4 5), (1, ah c.vars), (2, ah c.cells), (4, ah ev), (5, ah cnt), (6, ah c.stack)]
theorem bK {x : In} {k : Int} (h : x.op = k) : mv x = mv ⟨k, 0⟩ := by unfold mv; simp only [h]
theorem m7 {x : In} (h : av x = true) (hp : 0 < (mv x).2) : x.op = 0 ∨ x.op = 1 ∨ x.op = 3 ∨ x.op = 4 ∨ x.op = 7 := by
 rcases lS h with h1 | h1 | h1 | h1 | h1 | h1 | h1 | h1 | h1 | h1 | h1 | h1 <;> rw [bK h1] at hp <;> first | omega | exact absurd hp (by decide)
theorem mq {x : In} (h : av x = true) (hp : ¬ 0 < (mv x).2) (ho : x.op ≠ 11) : x.op = 2 ∨ x.op = 5 ∨ x.op = 6 ∨ x.op = 8 ∨ x.op = 9 ∨ x.op = 10 := by
 rcases lS h with h1 | h1 | h1 | h1 | h1 | h1 | h1 | h1 | h1 | h1 | h1 | h1 <;> rw [bK h1] at hp <;> first | omega | exact absurd (by decide) hp
theorem iR {b : Bool} {v : Int} (hv : v ≠ 0) (h : (if b = true then (0 : Int) else v) = 0) : b = true := by
 cases b with
 | true => rfl
 | false => exact absurd h hv
theorem lR {x : In} {c : Cf} (h : x.op = 2) : bc x c = if f5 (pM x c 0) = true then 0 else 4 := by unfold bc; rw [if_neg (by omega), if_pos h]
theorem lQ {x : In} {c : Cf} (h : x.op = 3) : bc x c = if bG (pM x c 0 + pM x c 1) = true then 0 else 4 := by unfold bc; rw [if_neg (by omega), if_neg (by omega), if_pos h]
theorem lP {x : In} {c : Cf} (h : x.op = 4) : bc x c = if bG (pM x c 0 * x.a) = true then 0 else 4 := by unfold bc; rw [if_neg (by omega), if_neg (by omega), if_neg (by omega), if_pos h]
theorem lO {x : In} {c : Cf} (h : x.op = 7) : bc x c = if bW 0 7 (pM x c 0) = true then 0 else 2 := by unfold bc; rw [if_neg (by omega), if_neg (by omega), if_neg (by omega), if_neg (by omega), if_pos h]
theorem ky {x : In} {c : Cf} (h : x.op = 8) : bc x c = if bW 0 7 (pM x c 0) = true then (if f5 (pM x c 1) = true then 0 else 4) else 2 := by unfold bc; rw [if_neg (by omega), if_neg (by omega), if_neg (by omega), if_neg (by omega), if_neg (by omega), if_pos h]
theorem jM {x : In} {c : Cf} (h : x.op = 10) : bc x c = if pM x c 0 < 0 then 3 else 0 := by unfold bc; rw [if_neg (by omega), if_neg (by omega), if_neg (by omega), if_neg (by omega), if_neg (by omega), if_neg (by omega), if_pos h]
theorem jL {x : In} {c : Cf} (h : x.op = 11) : bc x c = 6 := if_pos h
theorem dQ {x : In} {c : Cf} (h : x.op = 0 ∨ x.op = 1 ∨ x.op = 5 ∨ x.op = 6 ∨ x.op = 9) : bc x c = 0 := by
 unfold bc; rw [if_neg (by omega), if_neg (by omega), if_neg (by omega), if_neg (by omega), if_neg (by omega), if_neg (by omega), if_neg (by omega)]
theorem nc {x : In} {c : Cf} (h : av x = true) (ho : bc x c ≠ 0) : x.op = 11 ∨ (x.op = 2 ∧ f5 (pM x c 0) = false) ∨ (x.op = 3 ∧ bG (pM x c 0 + pM x c 1) = false) ∨ (x.op = 4 ∧ bG (pM x c 0 * x.a) = false) ∨ (x.op = 7 ∧ bW 0 7 (pM x c 0) = false) ∨ (x.op = 8 ∧ bW 0 7 (pM x c 0) = false) ∨ (x.op = 8 ∧ bW 0 7 (pM x c 0) = true ∧ f5 (pM x c 1) = false) ∨ (x.op = 10 ∧ pM x c 0 < 0) := by
 rcases lS h with h1 | h1 | h1 | h1 | h1 | h1 | h1 | h1 | h1 | h1 | h1 | h1
 exact absurd (dQ (.inl h1)) ho
 exact absurd (dQ (.inr (.inl h1))) ho
 rw [lR h1] at ho
 cases hb : f5 (pM x c 0) with
 | true => rw [hb] at ho; exact absurd Z ho
 | false => exact .inr (.inl ⟨h1, Z⟩)
 rw [lQ h1] at ho
 cases hb : bG (pM x c 0 + pM x c 1) with
 | true => rw [hb] at ho; exact absurd Z ho
 | false => exact .inr (.inr (.inl ⟨h1, Z⟩))
 rw [lP h1] at ho
 cases hb : bG (pM x c 0 * x.a) with
 | true => rw [hb] at ho; exact absurd Z ho
 | false => exact .inr (.inr (.inr (.inl ⟨h1, Z⟩)))
 exact absurd (dQ (.inr (.inr (.inl h1)))) ho
 exact absurd (dQ (.inr (.inr (.inr (.inl h1))))) ho
 rw [lO h1] at ho
 cases hb : bW 0 7 (pM x c 0) with
 | true => rw [hb] at ho; exact absurd Z ho
 | false => exact .inr (.inr (.inr (.inr (.inl ⟨h1, Z⟩))))
 rw [ky h1] at ho
 cases hb : bW 0 7 (pM x c 0) with
 | true =>
  cases hb2 : f5 (pM x c 1) with
  | true => rw [hb, hb2] at ho; exact absurd Z ho
  | false => exact .inr (.inr (.inr (.inr (.inr (.inr (.inl ⟨h1, Z, Z⟩))))))
 | false => exact .inr (.inr (.inr (.inr (.inr (.inl ⟨h1, Z⟩)))))
 exact absurd (dQ (.inr (.inr (.inr (.inr h1))))) ho
 rw [jM h1] at ho
 by_cases hb : pM x c 0 < 0
 exact .inr (.inr (.inr (.inr (.inr (.inr (.inr ⟨h1, hb⟩))))))
 rw [if_neg hb] at ho; exact absurd Z ho
 exact .inl h1
theorem cg {x : In} {c : Cf} (h5 : x.op ≠ 5) (h6 : x.op ≠ 6) : c.at_ + 1 = dI x c := by unfold dI; rw [if_neg h5, if_neg h6]
theorem fu {x : In} {c : Cf} (h5 : x.op = 5) : x.a = dI x c := by unfold dI; rw [if_pos h5]
theorem di {x : In} {c : Cf} (h6 : x.op = 6) (h : pM x c 0 < 0) : x.a = dI x c := by unfold dI; rw [if_neg (by omega), if_pos h6, if_pos h]
theorem dj {x : In} {c : Cf} (h6 : x.op = 6) (h : ¬ pM x c 0 < 0) : c.at_ + 1 = dI x c := by unfold dI; rw [if_neg (by omega), if_pos h6, if_neg h]
theorem f2 {x : In} (h : x.op = 9) : x.a = dJ x := by unfold dJ; rw [if_pos h]
theorem fZ {x : In} (h : x.op ≠ 9) : (-1 : Int) = dJ x := by unfold dJ; rw [if_neg h]
variable {code : List In} {x : In} {ev cnt : List Int} {o : Int}
theorem gj {c : Cf} (hC : COk c) (hcl : code.length ≤ 1000) (hix : av x = true) (hat : 0 ≤ c.at_ ∧ c.at_ < code.length) (hcx : x = code.getD c.at_.toNat default) (hlo : cY x c.stack.length = false) (hout : bc x c = 0) (hpu : 0 < (mv x).2) : MQ h1 h2 39 [.c (.pt 0 0 0), bf code] (ir c ev cnt o) (bB (.tup [eI 0, eI (dJ x)]) (qf (cH x c) ev cnt o)) := by
 refine MC.shift 500 Z (MC.keep [500,501,502,504,505,506] (bs := [cI (cH x c) (cH x c).stack.length ev cnt o 501 502 506 504 505, ah (cH x c).vars, ah (cH x c).cells, ah ev, ah cnt, ah (cH x c).stack]) Z Z (jH 210 [500,501,502,503,504,505] h1 h2 Try.func39 Z Z Z Z fun O hF => ?_))
 refine dw ?_
 have hmi := dk (x := x)
 have hsl := hC.sl
 obtain ⟨pk, hpk⟩ : ∃ pk, pk = iN x := ⟨_, rfl⟩
 have hpm : (pk : Int) = (mv x).1 := by rw [hpk]; unfold iN; omega
 obtain ⟨l, hl⟩ : ∃ l, l = gd x c.stack.length := ⟨_, rfl⟩
 obtain ⟨hl0, hl1⟩ := kA hlo
 have hlp : l + pk = c.stack.length := by rw [hl, hpk]; unfold gd iN; omega
 refine ac (j2 O Z Z (jn (ak (ac (j4 O Z Z Z Z (js O Z ?_))))))
 first | refine cw O Z ?_ | refine js O Z ?_ | refine bm O Z Z ?_
 refine jf [21,19,5,4,0,1] Z (af O Z Z Z Z ((nl (k := c.at_) (n := code.length) h1 h2 (by omega)).plain (u := eB true) (congrArg eB (eZ.2 hat))) (ab Z) Z Z Z Z Z (B0 := 23000) Z (js O Z (jf [23,5,4,0,1] Z (jn (aa O Z Z (fun hc23 => ?_) (fun hc23 => ?_))))))
 exact absurd hc23 (by decide)
 refine am (ac (j4 O Z Z Z Z (js O Z (AOps.step ((bR O Z Z Z Z Z Z Z Z (by omega) (ee (by omega) (by omega))).cast (v' := ptr (In.cells x)) (by rw [hcx])) Z Z Z (js O Z (jf [30,5,4,0,1] Z (jl O Z (au ?_))))))))
 refine jo O Z (au ?_)
 refine aF (Ent.freeze 6 (e' := [(6, _), (0, _), (1, _)]) Z (.cons Z (.c (.box (cs := In.cells x) Z (ba Z))) (fe [0,1] Z)) (.skip (.cons Z (.box (fk Z)) (.cons Z .row (.cons Z .row (.cons Z .row (.cons Z .row (.cons Z .row .nil)))))))) ?_
 refine au ?_
 refine aW (js O Z (aC O Z Z Z Z (iT (x := x) h1 h2) (ab Z) Z Z Z Z (B0 := 34000) Z Z (j4 O Z Z Z Z (js O Z (jf [8,7,6,0,1] Z (aW (j4 O Z Z Z Z ?_)))))))
 first | refine cw O Z ?_ | refine js O Z ?_ | refine bm O Z Z ?_
 refine js O Z (AOps.step ((ag O Z Z (by omega) (by omega)).cast (v' := eI ((c.stack.length : Int) - (mv x).1)) Z) Z Z Z (js O Z (jf [9,8,6,0,1] Z (jn (ak (ac (j3 O Z Z Z (jf [45,9,8,6,0,1] Z (aU 8 Z Z Z (fun hx => AN.step hx Z Z Z (V O Z) Z Z ( AN.step hx Z Z Z (V O Z) Z Z ( AN.step hx Z Z Z (V O Z) Z Z ( iw 4 Z Z Z Z (fun hx' => AN.step hx' Z Z Z (V O Z) Z Z ( AN.step hx' Z Z Z (V O Z) Z Z ( AN.step hx' Z Z Z (vF O Z) Z Z ( AN.step hx' Z Z Z (V O Z) Z Z ( AN.nil))))) Z Z ( AN.step hx Z Z Z (aB O Z Z Z Z Z) Z Z ( AN.nil)))))) Z Z ?_)))))))))
 first | refine AOps.step (aQ O Z Z Z Z Z) Z Z Z ?_ | refine AOps.step (Val.pickB O Z Z Z Z Z) Z Z Z ?_ | refine AOps.step (aB O Z Z Z Z Z) Z Z Z ?_
 refine jf [54,9,8,6,0,1] Z (jn (aa O Z Z (fun hc54 => ?_) (fun hc54 => ?_)))
 exact absurd (show cY x c.stack.length = true from hc54) (by rw [hlo]; decide)
 refine am (ak (jw [9,8,6,0,1] Z (gW O [_,_,_,_,_,_,_,_,_,_,_,_,_,_] [pn [] 0 0, pn [0] 0 0, pn [0,1] 0 0, pn [0,1,2] 0 0, pn [] 0 0, pn (rg 0 5) 0 0, pn [] 0 0, pn [6] 0 0, pn [6,7] 0 0, pn [6,7,8] 0 0, pn (rg 6 4) 0 0, pn (rg 0 6) 0 0, pn (rg 0 12) 0 0, pn (rg 0 13) 0 0] [] [_] (kc O Z (kc O Z (kc O Z (kc O Z (ai ((V O Z).cast (v' := eI ((l : Nat) : Int)) (congrArg eI (by omega))) (ai ((az O Z Z (by omega)).cast (v' := .c (.rs 503 l pk)) (by show A.c (.rs 503 _ _) = _; rw [Nat.zero_add, Int.toNat_natCast, show c.stack.length - l = pk by omega])) (kc O Z (kc O Z (kc O Z (kc O Z (ai (ag O Z Z (by omega) (by omega)) (kc O Z (kc O Z (kc O Z trivial)))))))))))))) ?_)))
 refine jw [12,11,10,9,8,6,0,1] Z (dw ?_)
 refine ac (js O Z (aW (js O Z (jn (ak (ac (j2 O Z Z (jn ?_))))))))
 rcases m7 hix hpu with hx | hx | hx | hx | hx
 have hmv : mv x = (0, 1) := by rw [bK hx]; decide
 have hpk1 : pk = 0 := by rw [hmv] at hpm; exact Int.ofNat.inj hpm
 refine aq (ac (j2 O Z Z (jn (aa O Z Z (fun hc68 => ?_) (fun hc68 => ?_)))))
 exact absurd (ay hc68) (by omega)
 refine ac (j2 O Z Z (jf [70,69,67,66,14,13,12,11,10,9,8,6,0,1] Z (jn (aa O Z Z (fun hc70 => ?_) (fun hc70 => ?_)))))
 refine ae (js O Z (AOps.step ((V O Z).cast (v' := eI (eU x c)) (congrArg eI (by unfold eU; rw [if_pos hx]))) Z Z Z (js O Z (jf [13,69,67,66,14,12,11,10,9,8,6,0,1] Z (jn (ak (ac (j2 O Z Z (jf [183,13,69,67,66,12,11,10,9,8,6,0,1] Z (jn (aa O Z Z (fun hc183 => ?_) (fun hc183 => ?_))))))))))))
 exact absurd hc183 (by decide)
 refine am (ac (j4 O Z Z Z Z (js O Z (AOps.step ((V O Z).cast (v' := eI ((l : Nat) : Int)) (congrArg eI (by omega))) Z Z Z (AOps.step (aJ O Z Z Z Z Z Z Z Z Z Z (by omega)) Z Z Z (j2 O Z Z (jf [192,190,13,69,67,66,12,11,10,9,8,6,0,1] Z (jo O Z (au ?_)))))))))
 refine jf [13,69,67,66,12,11,10,9,8,6,0,1] Z (jn (ak (ac (aF (Ent.cut 503 l Z) (au ?_)))))
 rw [← List.map_take]
 refine j2 O Z Z (jn (aa O Z Z (fun hc194 => ?_) (fun hc194 => ?_)))
 refine ae (j4 O Z Z Z Z (j2 O Z Z (jf [200,199,195,193,13,69,67,66,12,11,10,9,8,6,0,1] Z (AOps.heap (bg O Z Z Z) Z (au ?_)))))
 refine jf [201,199,195,193,13,69,67,66,12,11,10,9,8,6,0,1] Z (AOps.heap (aO (zs := (c.stack.take l ++ [eU x c]).map (fun n => [D.int .i64 n])) (n := l + 1) O Z Z Z Z Z Z Z Z Z Z Z Z Z Z Z Z (.row Z (by simp; omega)) Z Z (by decide) Z (by simp; omega) (by simp; omega) (by rw [List.map_append]; rfl) (by simp; omega)) Z (au ?_))
 refine au ?_
 refine j2 O Z Z (jf [204,202,193,13,69,67,66,12,11,10,9,8,6,0,1] Z (jo O Z (au ?_)))
 refine jf [193,13,69,67,66,12,11,10,9,8,6,0,1] Z (aW (js O Z (AOps.step ((V O Z).cast (v' := eI (dI x c)) (congrArg eI (by first | exact di hx (ay hc134) | exact dj hx (bh hc134) | exact cg (by omega) (by omega) | exact fu hx))) Z Z Z (j2 O Z Z (jf [208,206,193,13,69,67,66,12,10,9,8,6,0,1] Z (jo O Z (au ?_)))))))
 refine jf [193,13,69,67,66,12,10,9,8,6,0,1] Z (aW (AOps.step ((V O Z).cast (v' := eI (dJ x)) (congrArg eI (by first | exact fZ (by omega) | exact f2 hx))) Z Z Z (j2 O Z Z (jf [5,4,193,13,69,67,66,10,9,8,6,0,1] Z (jr ?_)))))
 have hnc : cH x c = ⟨c.vars, c.cells, c.stack.take l ++ [eU x c], dI x c⟩ := by unfold cH dZ d9 iq; rw [if_neg (by omega), if_neg (by omega), if_pos hpu, ← hl]
 have hln : (c.stack.take l ++ [eU x c]).length = l + 1 := by rw [cx, List.length_take, gb]; omega
 rw [hnc]
 simp only [hln]
 refine ⟨.inl trivial, _, aj 202 506 Z Z, _, Z, Z, Z⟩
 exact absurd hpu (bh hc194)
 exact absurd hx (bh hc70)
 have hv4 := hC.vl
 have hc8 := hC.cl
 have ha := lZ hix (.inl hx)
 have hmv : mv x = (0, 1) := by rw [bK hx]; decide
 have hpk1 : pk = 0 := by rw [hmv] at hpm; exact Int.ofNat.inj hpm
 refine aq (ac (j2 O Z Z (jn (aa O Z Z (fun hc68 => ?_) (fun hc68 => ?_)))))
 exact absurd (ay hc68) (by omega)
 refine ac (j2 O Z Z (jf [70,69,67,66,14,13,12,11,10,9,8,6,0,1] Z (jn (aa O Z Z (fun hc70 => ?_) (fun hc70 => ?_)))))
 exact absurd (ay hc70) (by omega)
 refine ac (j2 O Z Z (jf [74,69,67,66,14,13,12,11,10,9,8,6,0,1] Z (jn (aa O Z Z (fun hc74 => ?_) (fun hc74 => ?_)))))
 refine jw [69,67,66,14,12,11,10,9,8,6,0,1] Z (gW O [_,_,_,_,_,_,_,_,_,_] [pn [] 0 0, pn [0] 0 0, pn [0,1] 0 0, pn [0,1,2] 0 0, pn (rg 0 4) 0 0, pn [] 0 0, pn [5] 0 0, pn (rg 0 7) 0 0, pn (rg 0 8) 0 0, pn (rg 0 9) 0 0] [] [_] (kc O Z (kc O Z (kc O Z (kc O Z (kc O Z (kc O Z (kc O Z (ai (az O Z Z (by omega)) (ai (((ao O (ex := [.int .i64 (c.vars.getD x.a.toNat default)]) Z Z Z Z (bb (by omega) (Nat.zero_add _)) Z)).cast (v' := eI (eU x c)) (congrArg eI (by unfold eU; rw [if_neg (by omega), if_pos hx]))) (kc O Z trivial)))))))))) ?_)
 refine jw [13,69,67,66,14,12,11,10,9,8,6,0,1] Z (dw ?_)
 refine ak (ac (j2 O Z Z (jf [183,13,69,67,66,12,11,10,9,8,6,0,1] Z (jn (aa O Z Z (fun hc183 => ?_) (fun hc183 => ?_))))))
 exact absurd hc183 (by decide)
 refine am (ac (j4 O Z Z Z Z (js O Z (AOps.step ((V O Z).cast (v' := eI ((l : Nat) : Int)) (congrArg eI (by omega))) Z Z Z (AOps.step (aJ O Z Z Z Z Z Z Z Z Z Z (by omega)) Z Z Z (j2 O Z Z (jf [192,190,13,69,67,66,12,11,10,9,8,6,0,1] Z (jo O Z (au ?_)))))))))
 refine jf [13,69,67,66,12,11,10,9,8,6,0,1] Z (jn (ak (ac (aF (Ent.cut 503 l Z) (au ?_)))))
 rw [← List.map_take]
 refine j2 O Z Z (jn (aa O Z Z (fun hc194 => ?_) (fun hc194 => ?_)))
 refine ae (j4 O Z Z Z Z (j2 O Z Z (jf [200,199,195,193,13,69,67,66,12,11,10,9,8,6,0,1] Z (AOps.heap (bg O Z Z Z) Z (au ?_)))))
 refine jf [201,199,195,193,13,69,67,66,12,11,10,9,8,6,0,1] Z (AOps.heap (aO (zs := (c.stack.take l ++ [eU x c]).map (fun n => [D.int .i64 n])) (n := l + 1) O Z Z Z Z Z Z Z Z Z Z Z Z Z Z Z Z (.row Z (by simp; omega)) Z Z (by decide) Z (by simp; omega) (by simp; omega) (by rw [List.map_append]; rfl) (by simp; omega)) Z (au ?_))
 refine au ?_
 refine j2 O Z Z (jf [204,202,193,13,69,67,66,12,11,10,9,8,6,0,1] Z (jo O Z (au ?_)))
 refine jf [193,13,69,67,66,12,11,10,9,8,6,0,1] Z (aW (js O Z (AOps.step ((V O Z).cast (v' := eI (dI x c)) (congrArg eI (by first | exact di hx (ay hc134) | exact dj hx (bh hc134) | exact cg (by omega) (by omega) | exact fu hx))) Z Z Z (j2 O Z Z (jf [208,206,193,13,69,67,66,12,10,9,8,6,0,1] Z (jo O Z (au ?_)))))))
 refine jf [193,13,69,67,66,12,10,9,8,6,0,1] Z (aW (AOps.step ((V O Z).cast (v' := eI (dJ x)) (congrArg eI (by first | exact fZ (by omega) | exact f2 hx))) Z Z Z (j2 O Z Z (jf [5,4,193,13,69,67,66,10,9,8,6,0,1] Z (jr ?_)))))
 have hnc : cH x c = ⟨c.vars, c.cells, c.stack.take l ++ [eU x c], dI x c⟩ := by unfold cH dZ d9 iq; rw [if_neg (by omega), if_neg (by omega), if_pos hpu, ← hl]
 have hln : (c.stack.take l ++ [eU x c]).length = l + 1 := by rw [cx, List.length_take, gb]; omega
 rw [hnc]
 simp only [hln]
 refine ⟨.inl trivial, _, aj 202 506 Z Z, _, Z, Z, Z⟩
 exact absurd hpu (bh hc194)
 exact absurd hx (bh hc74)
 have ho := hout
 rw [lQ hx] at ho
 have hw := iR (by decide) ho
 have hpq : pM x c 0 + pM x c 1 = eU x c := by unfold eU; rw [if_neg (by omega), if_neg (by omega), if_pos hx]
 have hww := iW.1 hw
 have hmv : mv x = (2, 1) := by rw [bK hx]; decide
 have hpk1 : pk = 2 := by rw [hmv] at hpm; exact Int.ofNat.inj hpm
 have hp0 : l + 0 < c.stack.length → (c.stack.map (fun n => [D.int .i64 n]))[l + 0]? = some [.int .i64 (pM x c 0)] := fun h => by have := bb (xs := c.stack) h rfl; rw [this]; unfold pM; rw [← hl]
 have hp1 : l + 1 < c.stack.length → (c.stack.map (fun n => [D.int .i64 n]))[l + 1]? = some [.int .i64 (pM x c 1)] := fun h => by have := bb (xs := c.stack) h rfl; rw [this]; unfold pM; rw [← hl]
 refine aq (ac (j2 O Z Z (jn (aa O Z Z (fun hc68 => ?_) (fun hc68 => ?_)))))
 exact absurd (ay hc68) (by omega)
 refine ac (j2 O Z Z (jf [70,69,67,66,14,13,12,11,10,9,8,6,0,1] Z (jn (aa O Z Z (fun hc70 => ?_) (fun hc70 => ?_)))))
 exact absurd (ay hc70) (by omega)
 refine ac (j2 O Z Z (jf [74,69,67,66,14,13,12,11,10,9,8,6,0,1] Z (jn (aa O Z Z (fun hc74 => ?_) (fun hc74 => ?_)))))
 exact absurd (ay hc74) (by omega)
 refine ac (j2 O Z Z (jf [85,69,67,66,14,13,12,11,10,9,8,6,0,1] Z (jn (aa O Z Z (fun hc85 => ?_) (fun hc85 => ?_)))))
 exact absurd (ay hc85) (by omega)
 refine ac (j2 O Z Z (jf [103,69,67,66,14,13,12,11,10,9,8,6,0,1] Z (jn (aa O Z Z (fun hc103 => ?_) (fun hc103 => ?_)))))
 refine ak (jw [69,67,66,14,12,11,10,9,8,6,0,1] Z (gW O [_,_,_,_,_,_,_,_] [pn [] 0 0, pn [0] 0 0, pn [0,1] 0 0, pn [] 0 0, pn [3] 0 0, pn [3,4] 0 0, pn (rg 0 6) 0 0, pn (rg 0 7) 0 0] [] [_] (kc O Z (ai (az O Z Z (by omega)) (ai (ao O (ex := [.int .i64 (pM x c 0)]) Z Z Z Z (hp0 (by omega)) Z) (kc O Z (ai (az O Z Z (by omega)) (ai (ao O (ex := [.int .i64 (pM x c 1)]) Z Z Z Z (hp1 (by omega)) Z) (ai ((ag O Z Z (by omega) (by omega)).cast (v' := eI (eU x c)) (congrArg eI hpq)) (kc O Z trivial)))))))) ?_))
 refine jw [13,69,67,66,14,12,11,10,9,8,6,0,1] Z (dw ?_)
 refine ae (js O Z (af O Z Z Z Z ((kD (n := eU x c) h1 h2).plain (u := eB true) (by rw [← hpq, hw])) (ab Z) Z Z Z Z Z (B0 := 114000) Z (js O Z (jf [14,13,69,67,66,12,11,10,9,8,6,0,1] Z (jn (ak (ac (j2 O Z Z (jf [183,13,69,67,66,12,11,10,9,8,6,0,1] Z (jn (aa O Z Z (fun hc183 => ?_) (fun hc183 => ?_))))))))))))
 exact absurd hc183 (by decide)
 refine am (ac (j4 O Z Z Z Z (js O Z (AOps.step ((V O Z).cast (v' := eI ((l : Nat) : Int)) (congrArg eI (by omega))) Z Z Z (AOps.step (aJ O Z Z Z Z Z Z Z Z Z Z (by omega)) Z Z Z (j2 O Z Z (jf [192,190,13,69,67,66,12,11,10,9,8,6,0,1] Z (jo O Z (au ?_)))))))))
 refine jf [13,69,67,66,12,11,10,9,8,6,0,1] Z (jn (ak (ac (aF (Ent.cut 503 l Z) (au ?_)))))
 rw [← List.map_take]
 refine j2 O Z Z (jn (aa O Z Z (fun hc194 => ?_) (fun hc194 => ?_)))
 refine ae (j4 O Z Z Z Z (j2 O Z Z (jf [200,199,195,193,13,69,67,66,12,11,10,9,8,6,0,1] Z (AOps.heap (bg O Z Z Z) Z (au ?_)))))
 refine jf [201,199,195,193,13,69,67,66,12,11,10,9,8,6,0,1] Z (AOps.heap (aO (zs := (c.stack.take l ++ [eU x c]).map (fun n => [D.int .i64 n])) (n := l + 1) O Z Z Z Z Z Z Z Z Z Z Z Z Z Z Z Z (.row Z (by simp; omega)) Z Z (by decide) Z (by simp; omega) (by simp; omega) (by rw [List.map_append]; rfl) (by simp; omega)) Z (au ?_))
 refine au ?_
 refine j2 O Z Z (jf [204,202,193,13,69,67,66,12,11,10,9,8,6,0,1] Z (jo O Z (au ?_)))
 refine jf [193,13,69,67,66,12,11,10,9,8,6,0,1] Z (aW (js O Z (AOps.step ((V O Z).cast (v' := eI (dI x c)) (congrArg eI (by first | exact di hx (ay hc134) | exact dj hx (bh hc134) | exact cg (by omega) (by omega) | exact fu hx))) Z Z Z (j2 O Z Z (jf [208,206,193,13,69,67,66,12,10,9,8,6,0,1] Z (jo O Z (au ?_)))))))
 refine jf [193,13,69,67,66,12,10,9,8,6,0,1] Z (aW (AOps.step ((V O Z).cast (v' := eI (dJ x)) (congrArg eI (by first | exact fZ (by omega) | exact f2 hx))) Z Z Z (j2 O Z Z (jf [5,4,193,13,69,67,66,10,9,8,6,0,1] Z (jr ?_)))))
 have hnc : cH x c = ⟨c.vars, c.cells, c.stack.take l ++ [eU x c], dI x c⟩ := by unfold cH dZ d9 iq; rw [if_neg (by omega), if_neg (by omega), if_pos hpu, ← hl]
 have hln : (c.stack.take l ++ [eU x c]).length = l + 1 := by rw [cx, List.length_take, gb]; omega
 rw [hnc]
 simp only [hln]
 refine ⟨.inl trivial, _, aj 202 506 Z Z, _, Z, Z, Z⟩
 exact absurd hpu (bh hc194)
 exact absurd hx (bh hc103)
 have ho := hout
 rw [lP hx] at ho
 have hw := iR (by decide) ho
 have hpq : pM x c 0 * x.a = eU x c := by unfold eU; rw [if_neg (by omega), if_neg (by omega), if_neg (by omega), if_pos hx]
 have hmv : mv x = (1, 1) := by rw [bK hx]; decide
 have hpk1 : pk = 1 := by rw [hmv] at hpm; exact Int.ofNat.inj hpm
 have hp0 : l + 0 < c.stack.length → (c.stack.map (fun n => [D.int .i64 n]))[l + 0]? = some [.int .i64 (pM x c 0)] := fun h => by have := bb (xs := c.stack) h rfl; rw [this]; unfold pM; rw [← hl]
 refine aq (ac (j2 O Z Z (jn (aa O Z Z (fun hc68 => ?_) (fun hc68 => ?_)))))
 exact absurd (ay hc68) (by omega)
 refine ac (j2 O Z Z (jf [70,69,67,66,14,13,12,11,10,9,8,6,0,1] Z (jn (aa O Z Z (fun hc70 => ?_) (fun hc70 => ?_)))))
 exact absurd (ay hc70) (by omega)
 refine ac (j2 O Z Z (jf [74,69,67,66,14,13,12,11,10,9,8,6,0,1] Z (jn (aa O Z Z (fun hc74 => ?_) (fun hc74 => ?_)))))
 exact absurd (ay hc74) (by omega)
 refine ac (j2 O Z Z (jf [85,69,67,66,14,13,12,11,10,9,8,6,0,1] Z (jn (aa O Z Z (fun hc85 => ?_) (fun hc85 => ?_)))))
 exact absurd (ay hc85) (by omega)
 refine ac (j2 O Z Z (jf [103,69,67,66,14,13,12,11,10,9,8,6,0,1] Z (jn (aa O Z Z (fun hc103 => ?_) (fun hc103 => ?_)))))
 exact absurd (ay hc103) (by omega)
 refine ac (j2 O Z Z (jf [114,69,67,66,14,13,12,11,10,9,8,6,0,1] Z (jn (aa O Z Z (fun hc114 => ?_) (fun hc114 => ?_)))))
 refine jw [69,67,66,12,11,10,9,8,6,0,1] Z (gW O [_,_,_,_,_,_,_,_,_,_,_] [pn [] 0 0, pn [0] 0 0, pn [0,1] 0 0, pn [] 0 0, pn [3] 0 0, pe (rg 0 5) 0, pn (rg 0 6) 1 1, pn (rg 0 7) 1 1, pn (rg 0 7) 1 1, pn (rg 0 8) 1 1, pn (rg 0 10) 1 1] [5] [_,_] (kc O Z (ai (az O Z Z (by omega)) (ai (ao O (ex := [.int .i64 (pM x c 0)]) Z Z Z Z (hp0 (by omega)) Z) (kc O Z (kc O Z (ai (gM O (B0 := 123000) Z Z Z Z ((nB (n := pM x c 0) (b := x.a) h1 h2 (hC.pw (by rw [← hl]; omega)) (l3 hix (.inr hx))).plain (u := .tup [eI (eU x c), eB true]) (by unfold nJ; rw [if_pos hw, hpq])) (ab Z) Z Z Z Z Z) (kc O Z (kc O Z (kc O Z (kc O Z (kc O Z trivial))))))))))) ?_)
 refine jw [14,13,69,67,66,12,11,10,9,8,6,0,1] Z (dw ?_)
 refine ak (ac (j2 O Z Z (jf [183,13,69,67,66,12,11,10,9,8,6,0,1] Z (jn (aa O Z Z (fun hc183 => ?_) (fun hc183 => ?_))))))
 exact absurd hc183 (by decide)
 refine am (ac (j4 O Z Z Z Z (js O Z (AOps.step ((V O Z).cast (v' := eI ((l : Nat) : Int)) (congrArg eI (by omega))) Z Z Z (AOps.step (aJ O Z Z Z Z Z Z Z Z Z Z (by omega)) Z Z Z (j2 O Z Z (jf [192,190,13,69,67,66,12,11,10,9,8,6,0,1] Z (jo O Z (au ?_)))))))))
 refine jf [13,69,67,66,12,11,10,9,8,6,0,1] Z (jn (ak (ac (aF (Ent.cut 503 l Z) (au ?_)))))
 rw [← List.map_take]
 refine j2 O Z Z (jn (aa O Z Z (fun hc194 => ?_) (fun hc194 => ?_)))
 refine ae (j4 O Z Z Z Z (j2 O Z Z (jf [200,199,195,193,13,69,67,66,12,11,10,9,8,6,0,1] Z (AOps.heap (bg O Z Z Z) Z (au ?_)))))
 refine jf [201,199,195,193,13,69,67,66,12,11,10,9,8,6,0,1] Z (AOps.heap (aO (zs := (c.stack.take l ++ [eU x c]).map (fun n => [D.int .i64 n])) (n := l + 1) O Z Z Z Z Z Z Z Z Z Z Z Z Z Z Z Z (.row Z (by simp; omega)) Z Z (by decide) Z (by simp; omega) (by simp; omega) (by rw [List.map_append]; rfl) (by simp; omega)) Z (au ?_))
 refine au ?_
 refine j2 O Z Z (jf [204,202,193,13,69,67,66,12,11,10,9,8,6,0,1] Z (jo O Z (au ?_)))
 refine jf [193,13,69,67,66,12,11,10,9,8,6,0,1] Z (aW (js O Z (AOps.step ((V O Z).cast (v' := eI (dI x c)) (congrArg eI (by first | exact di hx (ay hc134) | exact dj hx (bh hc134) | exact cg (by omega) (by omega) | exact fu hx))) Z Z Z (j2 O Z Z (jf [208,206,193,13,69,67,66,12,10,9,8,6,0,1] Z (jo O Z (au ?_)))))))
 refine jf [193,13,69,67,66,12,10,9,8,6,0,1] Z (aW (AOps.step ((V O Z).cast (v' := eI (dJ x)) (congrArg eI (by first | exact fZ (by omega) | exact f2 hx))) Z Z Z (j2 O Z Z (jf [5,4,193,13,69,67,66,10,9,8,6,0,1] Z (jr ?_)))))
 have hnc : cH x c = ⟨c.vars, c.cells, c.stack.take l ++ [eU x c], dI x c⟩ := by unfold cH dZ d9 iq; rw [if_neg (by omega), if_neg (by omega), if_pos hpu, ← hl]
 have hln : (c.stack.take l ++ [eU x c]).length = l + 1 := by rw [cx, List.length_take, gb]; omega
 rw [hnc]
 simp only [hln]
 refine ⟨.inl trivial, _, aj 202 506 Z Z, _, Z, Z, Z⟩
 exact absurd hpu (bh hc194)
 exact absurd hx (bh hc114)
 have hv4 := hC.vl
 have hc8 := hC.cl
 have ho := hout
 rw [lO hx] at ho
 have hw := iR (by decide) ho
 have hi7 : 0 ≤ pM x c 0 ∧ pM x c 0 ≤ 7 := by unfold bW at hw; simpa using hw
 have hmv : mv x = (1, 1) := by rw [bK hx]; decide
 have hpk1 : pk = 1 := by rw [hmv] at hpm; exact Int.ofNat.inj hpm
 have hp0 : l + 0 < c.stack.length → (c.stack.map (fun n => [D.int .i64 n]))[l + 0]? = some [.int .i64 (pM x c 0)] := fun h => by have := bb (xs := c.stack) h rfl; rw [this]; unfold pM; rw [← hl]
 refine aq (ac (j2 O Z Z (jn (aa O Z Z (fun hc68 => ?_) (fun hc68 => ?_)))))
 exact absurd (ay hc68) (by omega)
 refine ac (j2 O Z Z (jf [70,69,67,66,14,13,12,11,10,9,8,6,0,1] Z (jn (aa O Z Z (fun hc70 => ?_) (fun hc70 => ?_)))))
 exact absurd (ay hc70) (by omega)
 refine ac (j2 O Z Z (jf [74,69,67,66,14,13,12,11,10,9,8,6,0,1] Z (jn (aa O Z Z (fun hc74 => ?_) (fun hc74 => ?_)))))
 exact absurd (ay hc74) (by omega)
 refine ac (j2 O Z Z (jf [85,69,67,66,14,13,12,11,10,9,8,6,0,1] Z (jn (aa O Z Z (fun hc85 => ?_) (fun hc85 => ?_)))))
 exact absurd (ay hc85) (by omega)
 refine ac (j2 O Z Z (jf [103,69,67,66,14,13,12,11,10,9,8,6,0,1] Z (jn (aa O Z Z (fun hc103 => ?_) (fun hc103 => ?_)))))
 exact absurd (ay hc103) (by omega)
 refine ac (j2 O Z Z (jf [114,69,67,66,14,13,12,11,10,9,8,6,0,1] Z (jn (aa O Z Z (fun hc114 => ?_) (fun hc114 => ?_)))))
 exact absurd (ay hc114) (by omega)
 refine ac (j2 O Z Z (jf [125,69,67,66,14,13,12,11,10,9,8,6,0,1] Z (jn (aa O Z Z (fun hc125 => ?_) (fun hc125 => ?_)))))
 exact absurd (ay hc125) (by omega)
 refine ac (j2 O Z Z (jf [129,69,67,66,14,13,12,11,10,9,8,6,0,1] Z (jn (aa O Z Z (fun hc129 => ?_) (fun hc129 => ?_)))))
 exact absurd (ay hc129) (by omega)
 refine ak (ac (j2 O Z Z (jf [137,69,67,66,14,13,12,11,10,9,8,6,0,1] Z (jn (aa O Z Z (fun hc137 => ?_) (fun hc137 => ?_))))))
 refine am (aa O Z Z (fun hc137 => ?_) (fun hc137 => ?_))
 refine ac (js O Z (AOps.step (az O Z Z (by omega)) Z Z Z (AOps.step (ao O (ex := [.int .i64 (pM x c 0)]) Z Z Z Z (hp0 (by omega)) Z) Z Z Z (js O Z (jf [15,69,67,66,14,13,12,11,10,9,8,6,0,1] Z (jn (ak (ac (js O Z (af O Z Z Z Z ((eK (x := pM x c 0) (lo := 0) (hi := 7) h1 h2).plain (u := eB true) (by rw [hw])) (ab Z) Z Z Z Z Z (B0 := 145000) Z (js O Z (jf [145,15,69,67,66,14,13,12,11,10,9,8,6,0,1] Z (jn (aa O Z Z (fun hc145 => ?_) (fun hc145 => ?_)))))))))))))))
 exact absurd hc145 (by decide)
 refine am (ac (j3 O Z Z Z (jf [148,15,69,67,66,14,13,12,11,10,9,8,6,0,1] Z (jn (aa O Z Z (fun hc148 => ?_) (fun hc148 => ?_))))))
 refine ae (j4 O Z Z Z Z (j2 O Z Z (AOps.step (az O Z Z (by omega)) Z Z Z (AOps.step ((ao O (ex := [.int .i64 (c.cells.getD (pM x c 0).toNat default)]) Z Z Z Z (bb (by omega) (Nat.zero_add _)) Z).cast (v' := eI (eU x c)) (congrArg eI (by unfold eU; rw [if_neg (by omega), if_neg (by omega), if_neg (by omega), if_neg (by omega), if_pos hx]))) Z Z Z (js O Z (jf [13,15,69,67,66,14,12,11,10,9,8,6,0,1] Z (jn (ak (ac (j2 O Z Z (jf [183,13,15,69,67,66,12,11,10,9,8,6,0,1] Z (jn (aa O Z Z (fun hc183 => ?_) (fun hc183 => ?_))))))))))))))
 exact absurd hc183 (by decide)
 refine am (ac (j4 O Z Z Z Z (js O Z (AOps.step ((V O Z).cast (v' := eI ((l : Nat) : Int)) (congrArg eI (by omega))) Z Z Z (AOps.step (aJ O Z Z Z Z Z Z Z Z Z Z (by omega)) Z Z Z (j2 O Z Z (jf [192,190,13,15,69,67,66,12,11,10,9,8,6,0,1] Z (jo O Z (au ?_)))))))))
 refine jf [13,15,69,67,66,12,11,10,9,8,6,0,1] Z (jn (ak (ac (aF (Ent.cut 503 l Z) (au ?_)))))
 rw [← List.map_take]
 refine j2 O Z Z (jn (aa O Z Z (fun hc194 => ?_) (fun hc194 => ?_)))
 refine ae (j4 O Z Z Z Z (j2 O Z Z (jf [200,199,195,193,13,15,69,67,66,12,11,10,9,8,6,0,1] Z (AOps.heap (bg O Z Z Z) Z (au ?_)))))
 refine jf [201,199,195,193,13,15,69,67,66,12,11,10,9,8,6,0,1] Z (AOps.heap (aO (zs := (c.stack.take l ++ [eU x c]).map (fun n => [D.int .i64 n])) (n := l + 1) O Z Z Z Z Z Z Z Z Z Z Z Z Z Z Z Z (.row Z (by simp; omega)) Z Z (by decide) Z (by simp; omega) (by simp; omega) (by rw [List.map_append]; rfl) (by simp; omega)) Z (au ?_))
 refine au ?_
 refine j2 O Z Z (jf [204,202,193,13,15,69,67,66,12,11,10,9,8,6,0,1] Z (jo O Z (au ?_)))
 refine jf [193,13,15,69,67,66,12,11,10,9,8,6,0,1] Z (aW (js O Z (AOps.step ((V O Z).cast (v' := eI (dI x c)) (congrArg eI (by first | exact di hx (ay hc134) | exact dj hx (bh hc134) | exact cg (by omega) (by omega) | exact fu hx))) Z Z Z (j2 O Z Z (jf [208,206,193,13,15,69,67,66,12,10,9,8,6,0,1] Z (jo O Z (au ?_)))))))
 refine jf [193,13,15,69,67,66,12,10,9,8,6,0,1] Z (aW (AOps.step ((V O Z).cast (v' := eI (dJ x)) (congrArg eI (by first | exact fZ (by omega) | exact f2 hx))) Z Z Z (j2 O Z Z (jf [5,4,193,13,15,69,67,66,10,9,8,6,0,1] Z (jr ?_)))))
 have hnc : cH x c = ⟨c.vars, c.cells, c.stack.take l ++ [eU x c], dI x c⟩ := by unfold cH dZ d9 iq; rw [if_neg (by omega), if_neg (by omega), if_pos hpu, ← hl]
 have hln : (c.stack.take l ++ [eU x c]).length = l + 1 := by rw [cx, List.length_take, gb]; omega
 rw [hnc]
 simp only [hln]
 refine ⟨.inl trivial, _, aj 202 506 Z Z, _, Z, Z, Z⟩
 exact absurd hpu (bh hc194)
 exact absurd hx (bh hc148)
 exact absurd hx (bh hc137)
 exact absurd hx (bh hc137)
theorem n0 {b : Bool} {u v : Int} (hv : v ≠ 0) (h : (if b = true then u else v) = 0) : b = true := by
 cases b with
 | true => rfl
 | false => exact absurd h hv
theorem gl {c : Cf} (hC : COk c) (hcl : code.length ≤ 1000) (hix : av x = true) (hat : 0 ≤ c.at_ ∧ c.at_ < code.length) (hcx : x = code.getD c.at_.toNat default) (hlo : cY x c.stack.length = false) (hout : bc x c = 0) (hpu : ¬ 0 < (mv x).2) : MQ h1 h2 39 [.c (.pt 0 0 0), bf code] (ir c ev cnt o) (bB (.tup [eI 0, eI (dJ x)]) (ir (cH x c) ev cnt o)) := by
 refine MC.shift 500 Z (MC.keep [500,501,502,503,504,505] (bs := [cI (cH x c) (cH x c).stack.length ev cnt o 501 502 503 504 505, ah (cH x c).vars, ah (cH x c).cells, ah (cH x c).stack, ah ev, ah cnt]) Z Z (jH 210 [500,501,502,503,504,505] h1 h2 Try.func39 Z Z Z Z fun O hF => ?_))
 refine dw ?_
 have hmi := dk (x := x)
 have hsl := hC.sl
 obtain ⟨pk, hpk⟩ : ∃ pk, pk = iN x := ⟨_, rfl⟩
 have hpm : (pk : Int) = (mv x).1 := by rw [hpk]; unfold iN; omega
 obtain ⟨l, hl⟩ : ∃ l, l = gd x c.stack.length := ⟨_, rfl⟩
 obtain ⟨hl0, hl1⟩ := kA hlo
 have hlp : l + pk = c.stack.length := by rw [hl, hpk]; unfold gd iN; omega
 refine ac (j2 O Z Z (jn (ak (ac (j4 O Z Z Z Z (js O Z ?_))))))
 first | refine cw O Z ?_ | refine js O Z ?_ | refine bm O Z Z ?_
 refine jf [21,19,5,4,0,1] Z (af O Z Z Z Z ((nl (k := c.at_) (n := code.length) h1 h2 (by omega)).plain (u := eB true) (congrArg eB (eZ.2 hat))) (ab Z) Z Z Z Z Z (B0 := 23000) Z (js O Z (jf [23,5,4,0,1] Z (jn (aa O Z Z (fun hc23 => ?_) (fun hc23 => ?_))))))
 exact absurd hc23 (by decide)
 refine am (ac (j4 O Z Z Z Z (js O Z (AOps.step ((bR O Z Z Z Z Z Z Z Z (by omega) (ee (by omega) (by omega))).cast (v' := ptr (In.cells x)) (by rw [hcx])) Z Z Z (js O Z (jf [30,5,4,0,1] Z (jl O Z (au ?_))))))))
 refine jo O Z (au ?_)
 refine aF (Ent.freeze 6 (e' := [(6, _), (0, _), (1, _)]) Z (.cons Z (.c (.box (cs := In.cells x) Z (ba Z))) (fe [0,1] Z)) (.skip (.cons Z (.box (fk Z)) (.cons Z .row (.cons Z .row (.cons Z .row (.cons Z .row (.cons Z .row .nil)))))))) ?_
 refine au ?_
 refine aW (js O Z (aC O Z Z Z Z (iT (x := x) h1 h2) (ab Z) Z Z Z Z (B0 := 34000) Z Z (j4 O Z Z Z Z (js O Z (jf [8,7,6,0,1] Z (aW (j4 O Z Z Z Z ?_)))))))
 first | refine cw O Z ?_ | refine js O Z ?_ | refine bm O Z Z ?_
 refine js O Z (AOps.step ((ag O Z Z (by omega) (by omega)).cast (v' := eI ((c.stack.length : Int) - (mv x).1)) Z) Z Z Z (js O Z (jf [9,8,6,0,1] Z (jn (ak (ac (j3 O Z Z Z (jf [45,9,8,6,0,1] Z (aU 8 Z Z Z (fun hx => AN.step hx Z Z Z (V O Z) Z Z ( AN.step hx Z Z Z (V O Z) Z Z ( AN.step hx Z Z Z (V O Z) Z Z ( iw 4 Z Z Z Z (fun hx' => AN.step hx' Z Z Z (V O Z) Z Z ( AN.step hx' Z Z Z (V O Z) Z Z ( AN.step hx' Z Z Z (vF O Z) Z Z ( AN.step hx' Z Z Z (V O Z) Z Z ( AN.nil))))) Z Z ( AN.step hx Z Z Z (aB O Z Z Z Z Z) Z Z ( AN.nil)))))) Z Z ?_)))))))))
 first | refine AOps.step (aQ O Z Z Z Z Z) Z Z Z ?_ | refine AOps.step (Val.pickB O Z Z Z Z Z) Z Z Z ?_ | refine AOps.step (aB O Z Z Z Z Z) Z Z Z ?_
 refine jf [54,9,8,6,0,1] Z (jn (aa O Z Z (fun hc54 => ?_) (fun hc54 => ?_)))
 exact absurd (show cY x c.stack.length = true from hc54) (by rw [hlo]; decide)
 refine am (ak (jw [9,8,6,0,1] Z (gW O [_,_,_,_,_,_,_,_,_,_,_,_,_,_] [pn [] 0 0, pn [0] 0 0, pn [0,1] 0 0, pn [0,1,2] 0 0, pn [] 0 0, pn (rg 0 5) 0 0, pn [] 0 0, pn [6] 0 0, pn [6,7] 0 0, pn [6,7,8] 0 0, pn (rg 6 4) 0 0, pn (rg 0 6) 0 0, pn (rg 0 12) 0 0, pn (rg 0 13) 0 0] [] [_] (kc O Z (kc O Z (kc O Z (kc O Z (ai ((V O Z).cast (v' := eI ((l : Nat) : Int)) (congrArg eI (by omega))) (ai ((az O Z Z (by omega)).cast (v' := .c (.rs 503 l pk)) (by show A.c (.rs 503 _ _) = _; rw [Nat.zero_add, Int.toNat_natCast, show c.stack.length - l = pk by omega])) (kc O Z (kc O Z (kc O Z (kc O Z (ai (ag O Z Z (by omega) (by omega)) (kc O Z (kc O Z (kc O Z trivial)))))))))))))) ?_)))
 refine jw [12,11,10,9,8,6,0,1] Z (dw ?_)
 refine ac (js O Z (aW (js O Z (jn (ak (ac (j2 O Z Z (jn ?_))))))))
 rcases mq hix hpu (fun h => by rw [jL h] at hout; cases hout) with hx | hx | hx | hx | hx | hx
 have hv4 := hC.vl
 have hc8 := hC.cl
 have ha := lZ hix (.inr hx)
 have ho := hout
 rw [lR hx] at ho
 have hw := iR (by decide) ho
 have hmv : mv x = (1, 0) := by rw [bK hx]; decide
 have hpk1 : pk = 1 := by rw [hmv] at hpm; exact Int.ofNat.inj hpm
 have hp0 : l + 0 < c.stack.length → (c.stack.map (fun n => [D.int .i64 n]))[l + 0]? = some [.int .i64 (pM x c 0)] := fun h => by have := bb (xs := c.stack) h rfl; rw [this]; unfold pM; rw [← hl]
 refine aq (ac (j2 O Z Z (jn (aa O Z Z (fun hc68 => ?_) (fun hc68 => ?_)))))
 exact absurd (ay hc68) (by omega)
 refine ac (j2 O Z Z (jf [70,69,67,66,14,13,12,11,10,9,8,6,0,1] Z (jn (aa O Z Z (fun hc70 => ?_) (fun hc70 => ?_)))))
 exact absurd (ay hc70) (by omega)
 refine ac (j2 O Z Z (jf [74,69,67,66,14,13,12,11,10,9,8,6,0,1] Z (jn (aa O Z Z (fun hc74 => ?_) (fun hc74 => ?_)))))
 exact absurd (ay hc74) (by omega)
 refine ac (j2 O Z Z (jf [85,69,67,66,14,13,12,11,10,9,8,6,0,1] Z (jn (aa O Z Z (fun hc85 => ?_) (fun hc85 => ?_)))))
 refine ak (ac (js O Z (AOps.step (az O Z Z (by omega)) Z Z Z (AOps.step (ao O (ex := [.int .i64 (pM x c 0)]) Z Z Z Z (hp0 (by omega)) Z) Z Z Z (jf [89,69,67,66,14,13,12,11,10,9,8,6,0,1] Z (af O Z Z Z Z ((mY (x := pM x c 0) h1 h2).plain (u := eB true) (by rw [hw])) (ab Z) Z Z Z Z Z (B0 := 91000) Z (js O Z (jf [91,69,67,66,14,13,12,11,10,9,8,6,0,1] Z (jn (aa O Z Z (fun hc91 => ?_) (fun hc91 => ?_)))))))))))
 exact absurd hc91 (by decide)
 refine am (jw [69,67,66,14,13,12,11,10,9,8,6,0,1] Z (gW O [_,_,_,_,_,_,_,_,_,_,_,_] [pn [] 0 0, pn [0] 0 0, pn [0,1] 0 0, pn [0,1,2] 0 0, pn (rg 0 4) 0 0, pn [] 0 0, pn [5] 0 0, pn [] 0 0, pn [7] 0 0, pn [7,8] 0 0, pn (rg 0 10) 0 0, pe (rg 0 11) 0] [11] [_,_] (kc O Z (kc O Z (kc O Z (kc O Z (kc O Z (kc O Z (kc O Z (kc O Z (ai (az O Z Z (by omega)) (ai (ao O (ex := [.int .i64 (pM x c 0)]) Z Z Z Z (hp0 (by omega)) Z) (ai (az O Z Z (by omega)) (ai (ce (ex := [.int .i64 (c.vars.getD x.a.toNat default)]) (xs' := (dZ x c).map (fun n => [D.int .i64 n])) O Z Z Z Z Z Z Z Z Z Z Z Z Z Z Z (bb (by omega) (Nat.zero_add _)) (by unfold dZ; rw [if_pos hx, List.map_set, Nat.zero_add]; rfl) Z) trivial)))))))))))) ?_))
 refine jw [69,67,66,14,13,12,11,10,9,8,6,0,1] Z (dw ?_)
 refine ak (ac (j2 O Z Z (jf [183,69,67,66,13,12,11,10,9,8,6,0,1] Z (jn (aa O Z Z (fun hc183 => ?_) (fun hc183 => ?_))))))
 exact absurd hc183 (by decide)
 refine am (ac (j4 O Z Z Z Z (js O Z (AOps.step ((V O Z).cast (v' := eI ((l : Nat) : Int)) (congrArg eI (by omega))) Z Z Z (AOps.step (aJ O Z Z Z Z Z Z Z Z Z Z (by omega)) Z Z Z (j2 O Z Z (jf [192,190,69,67,66,13,12,11,10,9,8,6,0,1] Z (jo O Z (au ?_)))))))))
 refine jf [69,67,66,13,12,11,10,9,8,6,0,1] Z (jn (ak (ac (aF (Ent.cut 503 l Z) (au ?_)))))
 rw [← List.map_take]
 refine j2 O Z Z (jn (aa O Z Z (fun hc194 => ?_) (fun hc194 => ?_)))
 exact absurd (ay hc194) hpu
 refine am (ac (js O Z (AOps.step ((V O Z).cast (v' := eI (dI x c)) (congrArg eI (by first | exact di hx (ay hc134) | exact dj hx (bh hc134) | exact cg (by omega) (by omega) | exact fu hx))) Z Z Z (j2 O Z Z (jf [208,206,193,69,67,66,13,12,10,9,8,6,0,1] Z (jo O Z (au ?_)))))))
 refine jf [193,69,67,66,13,12,10,9,8,6,0,1] Z (aW (AOps.step ((V O Z).cast (v' := eI (dJ x)) (congrArg eI (by first | exact fZ (by omega) | exact f2 hx))) Z Z Z (j2 O Z Z (jf [5,4,193,69,67,66,13,10,9,8,6,0,1] Z (jr ?_)))))
 have hnc : cH x c = ⟨dZ x c, c.cells, c.stack.take l, dI x c⟩ := by unfold cH dZ d9 iq; simp only [hx, ↓reduceIte, reduceCtorEq, if_true, if_false, show ¬ (2 : Int) = 8 by decide, show ¬ (5 : Int) = 2 by decide, show ¬ (5 : Int) = 8 by decide, show ¬ (6 : Int) = 2 by decide, show ¬ (6 : Int) = 8 by decide, show ¬ (8 : Int) = 2 by decide, show ¬ (9 : Int) = 2 by decide, show ¬ (9 : Int) = 8 by decide, show ¬ (10 : Int) = 2 by decide, show ¬ (10 : Int) = 8 by decide]; rw [if_neg hpu, ← hl]
 have hln : (c.stack.take l).length = l := by rw [List.length_take]; omega
 have hvl : (dZ x c).length = c.vars.length := by unfold dZ; split <;> simp
 have hcl2 : (d9 x c).length = c.cells.length := by unfold d9; split <;> simp
 rw [hnc]
 simp only [cI, hln, hvl, hcl2]
 refine ⟨.inl trivial, _, ap, _, Z, Z, Z⟩
 exact absurd hx (bh hc85)
 have hmv : mv x = (0, 0) := by rw [bK hx]; decide
 have hpk1 : pk = 0 := by rw [hmv] at hpm; exact Int.ofNat.inj hpm
 refine aq (ac (j2 O Z Z (jn (aa O Z Z (fun hc68 => ?_) (fun hc68 => ?_)))))
 exact absurd (ay hc68) (by omega)
 refine ac (j2 O Z Z (jf [70,69,67,66,14,13,12,11,10,9,8,6,0,1] Z (jn (aa O Z Z (fun hc70 => ?_) (fun hc70 => ?_)))))
 exact absurd (ay hc70) (by omega)
 refine ac (j2 O Z Z (jf [74,69,67,66,14,13,12,11,10,9,8,6,0,1] Z (jn (aa O Z Z (fun hc74 => ?_) (fun hc74 => ?_)))))
 exact absurd (ay hc74) (by omega)
 refine ac (j2 O Z Z (jf [85,69,67,66,14,13,12,11,10,9,8,6,0,1] Z (jn (aa O Z Z (fun hc85 => ?_) (fun hc85 => ?_)))))
 exact absurd (ay hc85) (by omega)
 refine ac (j2 O Z Z (jf [103,69,67,66,14,13,12,11,10,9,8,6,0,1] Z (jn (aa O Z Z (fun hc103 => ?_) (fun hc103 => ?_)))))
 exact absurd (ay hc103) (by omega)
 refine ac (j2 O Z Z (jf [114,69,67,66,14,13,12,11,10,9,8,6,0,1] Z (jn (aa O Z Z (fun hc114 => ?_) (fun hc114 => ?_)))))
 exact absurd (ay hc114) (by omega)
 refine ac (j2 O Z Z (jf [125,69,67,66,14,13,12,11,10,9,8,6,0,1] Z (jn (aa O Z Z (fun hc125 => ?_) (fun hc125 => ?_)))))
 refine ae (j3 O Z Z Z (jf [11,69,67,66,14,13,12,10,9,8,6,0,1] Z (jn (ak (ac (j2 O Z Z (jf [183,11,69,67,66,13,12,10,9,8,6,0,1] Z (jn (aa O Z Z (fun hc183 => ?_) (fun hc183 => ?_))))))))))
 exact absurd hc183 (by decide)
 refine am (ac (j4 O Z Z Z Z (js O Z (AOps.step ((V O Z).cast (v' := eI ((l : Nat) : Int)) (congrArg eI (by omega))) Z Z Z (AOps.step (aJ O Z Z Z Z Z Z Z Z Z Z (by omega)) Z Z Z (j2 O Z Z (jf [192,190,11,69,67,66,13,12,10,9,8,6,0,1] Z (jo O Z (au ?_)))))))))
 refine jf [11,69,67,66,13,12,10,9,8,6,0,1] Z (jn (ak (ac (aF (Ent.cut 503 l Z) (au ?_)))))
 rw [← List.map_take]
 refine j2 O Z Z (jn (aa O Z Z (fun hc194 => ?_) (fun hc194 => ?_)))
 exact absurd (ay hc194) hpu
 refine am (ac (js O Z (AOps.step ((V O Z).cast (v' := eI (dI x c)) (congrArg eI (by first | exact di hx (ay hc134) | exact dj hx (bh hc134) | exact cg (by omega) (by omega) | exact fu hx))) Z Z Z (j2 O Z Z (jf [208,206,193,69,67,66,13,12,10,9,8,6,0,1] Z (jo O Z (au ?_)))))))
 refine jf [193,69,67,66,13,12,10,9,8,6,0,1] Z (aW (AOps.step ((V O Z).cast (v' := eI (dJ x)) (congrArg eI (by first | exact fZ (by omega) | exact f2 hx))) Z Z Z (j2 O Z Z (jf [5,4,193,69,67,66,13,10,9,8,6,0,1] Z (jr ?_)))))
 have hnc : cH x c = ⟨c.vars, c.cells, c.stack.take l, dI x c⟩ := by unfold cH dZ d9 iq; simp only [hx, ↓reduceIte, reduceCtorEq, if_true, if_false, show ¬ (2 : Int) = 8 by decide, show ¬ (5 : Int) = 2 by decide, show ¬ (5 : Int) = 8 by decide, show ¬ (6 : Int) = 2 by decide, show ¬ (6 : Int) = 8 by decide, show ¬ (8 : Int) = 2 by decide, show ¬ (9 : Int) = 2 by decide, show ¬ (9 : Int) = 8 by decide, show ¬ (10 : Int) = 2 by decide, show ¬ (10 : Int) = 8 by decide]; rw [if_neg hpu, ← hl]
 have hln : (c.stack.take l).length = l := by rw [List.length_take]; omega
 have hvl : (dZ x c).length = c.vars.length := by unfold dZ; split <;> simp
 have hcl2 : (d9 x c).length = c.cells.length := by unfold d9; split <;> simp
 rw [hnc]
 simp only [cI, hln, hvl, hcl2]
 refine ⟨.inl trivial, _, ap, _, Z, Z, Z⟩
 exact absurd hx (bh hc125)
 have hmv : mv x = (1, 0) := by rw [bK hx]; decide
 have hpk1 : pk = 1 := by rw [hmv] at hpm; exact Int.ofNat.inj hpm
 have hp0 : l + 0 < c.stack.length → (c.stack.map (fun n => [D.int .i64 n]))[l + 0]? = some [.int .i64 (pM x c 0)] := fun h => by have := bb (xs := c.stack) h rfl; rw [this]; unfold pM; rw [← hl]
 refine aq (ac (j2 O Z Z (jn (aa O Z Z (fun hc68 => ?_) (fun hc68 => ?_)))))
 exact absurd (ay hc68) (by omega)
 refine ac (j2 O Z Z (jf [70,69,67,66,14,13,12,11,10,9,8,6,0,1] Z (jn (aa O Z Z (fun hc70 => ?_) (fun hc70 => ?_)))))
 exact absurd (ay hc70) (by omega)
 refine ac (j2 O Z Z (jf [74,69,67,66,14,13,12,11,10,9,8,6,0,1] Z (jn (aa O Z Z (fun hc74 => ?_) (fun hc74 => ?_)))))
 exact absurd (ay hc74) (by omega)
 refine ac (j2 O Z Z (jf [85,69,67,66,14,13,12,11,10,9,8,6,0,1] Z (jn (aa O Z Z (fun hc85 => ?_) (fun hc85 => ?_)))))
 exact absurd (ay hc85) (by omega)
 refine ac (j2 O Z Z (jf [103,69,67,66,14,13,12,11,10,9,8,6,0,1] Z (jn (aa O Z Z (fun hc103 => ?_) (fun hc103 => ?_)))))
 exact absurd (ay hc103) (by omega)
 refine ac (j2 O Z Z (jf [114,69,67,66,14,13,12,11,10,9,8,6,0,1] Z (jn (aa O Z Z (fun hc114 => ?_) (fun hc114 => ?_)))))
 exact absurd (ay hc114) (by omega)
 refine ac (j2 O Z Z (jf [125,69,67,66,14,13,12,11,10,9,8,6,0,1] Z (jn (aa O Z Z (fun hc125 => ?_) (fun hc125 => ?_)))))
 exact absurd (ay hc125) (by omega)
 refine ac (j2 O Z Z (jf [129,69,67,66,14,13,12,11,10,9,8,6,0,1] Z (jn (aa O Z Z (fun hc129 => ?_) (fun hc129 => ?_)))))
 refine ac (js O Z (AOps.step (az O Z Z (by omega)) Z Z Z (AOps.step (ao O (ex := [.int .i64 (pM x c 0)]) Z Z Z Z (hp0 (by omega)) Z) Z Z Z (js O Z (jf [134,69,67,66,14,13,12,11,10,9,8,6,0,1] Z (jn (aa O Z Z (fun hc134 => ?_) (fun hc134 => ?_))))))))
 refine ae (j3 O Z Z Z (jf [11,69,67,66,14,13,12,10,9,8,6,0,1] Z (jn (ak (ac (j2 O Z Z (jf [183,11,69,67,66,13,12,10,9,8,6,0,1] Z (jn (aa O Z Z (fun hc183 => ?_) (fun hc183 => ?_))))))))))
 exact absurd hc183 (by decide)
 refine am (ac (j4 O Z Z Z Z (js O Z (AOps.step ((V O Z).cast (v' := eI ((l : Nat) : Int)) (congrArg eI (by omega))) Z Z Z (AOps.step (aJ O Z Z Z Z Z Z Z Z Z Z (by omega)) Z Z Z (j2 O Z Z (jf [192,190,11,69,67,66,13,12,10,9,8,6,0,1] Z (jo O Z (au ?_)))))))))
 refine jf [11,69,67,66,13,12,10,9,8,6,0,1] Z (jn (ak (ac (aF (Ent.cut 503 l Z) (au ?_)))))
 rw [← List.map_take]
 refine j2 O Z Z (jn (aa O Z Z (fun hc194 => ?_) (fun hc194 => ?_)))
 exact absurd (ay hc194) hpu
 refine am (ac (js O Z (AOps.step ((V O Z).cast (v' := eI (dI x c)) (congrArg eI (by first | exact di hx (ay hc134) | exact dj hx (bh hc134) | exact cg (by omega) (by omega) | exact fu hx))) Z Z Z (j2 O Z Z (jf [208,206,193,69,67,66,13,12,10,9,8,6,0,1] Z (jo O Z (au ?_)))))))
 refine jf [193,69,67,66,13,12,10,9,8,6,0,1] Z (aW (AOps.step ((V O Z).cast (v' := eI (dJ x)) (congrArg eI (by first | exact fZ (by omega) | exact f2 hx))) Z Z Z (j2 O Z Z (jf [5,4,193,69,67,66,13,10,9,8,6,0,1] Z (jr ?_)))))
 have hnc : cH x c = ⟨c.vars, c.cells, c.stack.take l, dI x c⟩ := by unfold cH dZ d9 iq; simp only [hx, ↓reduceIte, reduceCtorEq, if_true, if_false, show ¬ (2 : Int) = 8 by decide, show ¬ (5 : Int) = 2 by decide, show ¬ (5 : Int) = 8 by decide, show ¬ (6 : Int) = 2 by decide, show ¬ (6 : Int) = 8 by decide, show ¬ (8 : Int) = 2 by decide, show ¬ (9 : Int) = 2 by decide, show ¬ (9 : Int) = 8 by decide, show ¬ (10 : Int) = 2 by decide, show ¬ (10 : Int) = 8 by decide]; rw [if_neg hpu, ← hl]
 have hln : (c.stack.take l).length = l := by rw [List.length_take]; omega
 have hvl : (dZ x c).length = c.vars.length := by unfold dZ; split <;> simp
 have hcl2 : (d9 x c).length = c.cells.length := by unfold d9; split <;> simp
 rw [hnc]
 simp only [cI, hln, hvl, hcl2]
 refine ⟨.inl trivial, _, ap, _, Z, Z, Z⟩
 refine am (ak (ac (j2 O Z Z (jf [183,69,67,66,13,12,11,10,9,8,6,0,1] Z (jn (aa O Z Z (fun hc183 => ?_) (fun hc183 => ?_)))))))
 exact absurd hc183 (by decide)
 refine am (ac (j4 O Z Z Z Z (js O Z (AOps.step ((V O Z).cast (v' := eI ((l : Nat) : Int)) (congrArg eI (by omega))) Z Z Z (AOps.step (aJ O Z Z Z Z Z Z Z Z Z Z (by omega)) Z Z Z (j2 O Z Z (jf [192,190,69,67,66,13,12,11,10,9,8,6,0,1] Z (jo O Z (au ?_)))))))))
 refine jf [69,67,66,13,12,11,10,9,8,6,0,1] Z (jn (ak (ac (aF (Ent.cut 503 l Z) (au ?_)))))
 rw [← List.map_take]
 refine j2 O Z Z (jn (aa O Z Z (fun hc194 => ?_) (fun hc194 => ?_)))
 exact absurd (ay hc194) hpu
 refine am (ac (js O Z (AOps.step ((V O Z).cast (v' := eI (dI x c)) (congrArg eI (by first | exact di hx (ay hc134) | exact dj hx (bh hc134) | exact cg (by omega) (by omega) | exact fu hx))) Z Z Z (j2 O Z Z (jf [208,206,193,69,67,66,13,12,10,9,8,6,0,1] Z (jo O Z (au ?_)))))))
 refine jf [193,69,67,66,13,12,10,9,8,6,0,1] Z (aW (AOps.step ((V O Z).cast (v' := eI (dJ x)) (congrArg eI (by first | exact fZ (by omega) | exact f2 hx))) Z Z Z (j2 O Z Z (jf [5,4,193,69,67,66,13,10,9,8,6,0,1] Z (jr ?_)))))
 have hnc : cH x c = ⟨c.vars, c.cells, c.stack.take l, dI x c⟩ := by unfold cH dZ d9 iq; simp only [hx, ↓reduceIte, reduceCtorEq, if_true, if_false, show ¬ (2 : Int) = 8 by decide, show ¬ (5 : Int) = 2 by decide, show ¬ (5 : Int) = 8 by decide, show ¬ (6 : Int) = 2 by decide, show ¬ (6 : Int) = 8 by decide, show ¬ (8 : Int) = 2 by decide, show ¬ (9 : Int) = 2 by decide, show ¬ (9 : Int) = 8 by decide, show ¬ (10 : Int) = 2 by decide, show ¬ (10 : Int) = 8 by decide]; rw [if_neg hpu, ← hl]
 have hln : (c.stack.take l).length = l := by rw [List.length_take]; omega
 have hvl : (dZ x c).length = c.vars.length := by unfold dZ; split <;> simp
 have hcl2 : (d9 x c).length = c.cells.length := by unfold d9; split <;> simp
 rw [hnc]
 simp only [cI, hln, hvl, hcl2]
 refine ⟨.inl trivial, _, ap, _, Z, Z, Z⟩
 exact absurd hx (bh hc129)
 have hv4 := hC.vl
 have hc8 := hC.cl
 have ho := hout
 rw [ky hx] at ho
 have hw : bW 0 7 (pM x c 0) = true := n0 (by decide) ho
 rw [if_pos hw] at ho
 have hw2 := iR (by decide) ho
 have hi7 : 0 ≤ pM x c 0 ∧ pM x c 0 ≤ 7 := by unfold bW at hw; simpa using hw
 have hmv : mv x = (2, 0) := by rw [bK hx]; decide
 have hpk1 : pk = 2 := by rw [hmv] at hpm; exact Int.ofNat.inj hpm
 have hp0 : l + 0 < c.stack.length → (c.stack.map (fun n => [D.int .i64 n]))[l + 0]? = some [.int .i64 (pM x c 0)] := fun h => by have := bb (xs := c.stack) h rfl; rw [this]; unfold pM; rw [← hl]
 have hp1 : l + 1 < c.stack.length → (c.stack.map (fun n => [D.int .i64 n]))[l + 1]? = some [.int .i64 (pM x c 1)] := fun h => by have := bb (xs := c.stack) h rfl; rw [this]; unfold pM; rw [← hl]
 refine aq (ac (j2 O Z Z (jn (aa O Z Z (fun hc68 => ?_) (fun hc68 => ?_)))))
 exact absurd (ay hc68) (by omega)
 refine ac (j2 O Z Z (jf [70,69,67,66,14,13,12,11,10,9,8,6,0,1] Z (jn (aa O Z Z (fun hc70 => ?_) (fun hc70 => ?_)))))
 exact absurd (ay hc70) (by omega)
 refine ac (j2 O Z Z (jf [74,69,67,66,14,13,12,11,10,9,8,6,0,1] Z (jn (aa O Z Z (fun hc74 => ?_) (fun hc74 => ?_)))))
 exact absurd (ay hc74) (by omega)
 refine ac (j2 O Z Z (jf [85,69,67,66,14,13,12,11,10,9,8,6,0,1] Z (jn (aa O Z Z (fun hc85 => ?_) (fun hc85 => ?_)))))
 exact absurd (ay hc85) (by omega)
 refine ac (j2 O Z Z (jf [103,69,67,66,14,13,12,11,10,9,8,6,0,1] Z (jn (aa O Z Z (fun hc103 => ?_) (fun hc103 => ?_)))))
 exact absurd (ay hc103) (by omega)
 refine ac (j2 O Z Z (jf [114,69,67,66,14,13,12,11,10,9,8,6,0,1] Z (jn (aa O Z Z (fun hc114 => ?_) (fun hc114 => ?_)))))
 exact absurd (ay hc114) (by omega)
 refine ac (j2 O Z Z (jf [125,69,67,66,14,13,12,11,10,9,8,6,0,1] Z (jn (aa O Z Z (fun hc125 => ?_) (fun hc125 => ?_)))))
 exact absurd (ay hc125) (by omega)
 refine ac (j2 O Z Z (jf [129,69,67,66,14,13,12,11,10,9,8,6,0,1] Z (jn (aa O Z Z (fun hc129 => ?_) (fun hc129 => ?_)))))
 exact absurd (ay hc129) (by omega)
 refine ak (ac (j2 O Z Z (jf [137,69,67,66,14,13,12,11,10,9,8,6,0,1] Z (jn (aa O Z Z (fun hc137 => ?_) (fun hc137 => ?_))))))
 exact absurd (ay hc137) (by omega)
 refine ae (j2 O Z Z (jn (aa O Z Z (fun hc137 => ?_) (fun hc137 => ?_))))
 refine ac (js O Z (AOps.step (az O Z Z (by omega)) Z Z Z (AOps.step (ao O (ex := [.int .i64 (pM x c 0)]) Z Z Z Z (hp0 (by omega)) Z) Z Z Z (js O Z (jf [15,139,69,67,66,14,13,12,11,10,9,8,6,0,1] Z (jn (ak (ac (js O Z (af O Z Z Z Z ((eK (x := pM x c 0) (lo := 0) (hi := 7) h1 h2).plain (u := eB true) (by rw [hw])) (ab Z) Z Z Z Z Z (B0 := 145000) Z (js O Z (jf [145,15,139,69,67,66,14,13,12,11,10,9,8,6,0,1] Z (jn (aa O Z Z (fun hc145 => ?_) (fun hc145 => ?_)))))))))))))))
 exact absurd hc145 (by decide)
 refine am (ac (j3 O Z Z Z (jf [148,15,139,69,67,66,14,13,12,11,10,9,8,6,0,1] Z (jn (aa O Z Z (fun hc148 => ?_) (fun hc148 => ?_))))))
 exact absurd (ay hc148) (by omega)
 refine ac (js O Z (AOps.step (az O Z Z (by omega)) Z Z Z (AOps.step (ao O (ex := [.int .i64 (pM x c 1)]) Z Z Z Z (hp1 (by omega)) Z) Z Z Z (jf [159,15,139,69,67,66,14,13,12,11,10,9,8,6,0,1] Z (af O Z Z Z Z ((mY (x := pM x c 1) h1 h2).plain (u := eB true) (by rw [hw2])) (ab Z) Z Z Z Z Z (B0 := 161000) Z (js O Z (jf [161,15,139,69,67,66,14,13,12,11,10,9,8,6,0,1] Z (jn (aa O Z Z (fun hc161 => ?_) (fun hc161 => ?_))))))))))
 exact absurd hc161 (by decide)
 refine jw [15,139,69,67,66,14,13,12,11,10,9,8,6,0,1] Z (gW O [_,_,_,_,_,_,_,_,_,_,_] [pn [] 0 0, pn [0] 0 0, pn [0,1] 0 0, pn [0,1,2] 0 0, pn (rg 0 4) 0 0, pn [] 0 0, pn [] 0 0, pn [6] 0 0, pn [6,7] 0 0, pn (rg 0 9) 0 0, pe (rg 0 10) 0] [10] [_,_] (kc O Z (kc O Z (kc O Z (kc O Z (kc O Z (kc O Z (kc O Z (ai (az O Z Z (by omega)) (ai (ao O (ex := [.int .i64 (pM x c 1)]) Z Z Z Z (hp1 (by omega)) Z) (ai (az O Z Z (by omega)) (ai (ce (ex := [.int .i64 (c.cells.getD (pM x c 0).toNat default)]) (xs' := (d9 x c).map (fun n => [D.int .i64 n])) O Z Z Z Z Z Z Z Z Z Z Z Z Z Z Z (bb (by omega) (Nat.zero_add _)) (by unfold d9; rw [if_pos hx, List.map_set, Nat.zero_add]; rfl) Z) trivial))))))))))) ?_)
 refine jw [15,139,69,67,66,14,13,12,11,10,9,8,6,0,1] Z (dw ?_)
 refine ak (ac (j2 O Z Z (jf [183,15,139,69,67,66,13,12,11,10,9,8,6,0,1] Z (jn (aa O Z Z (fun hc183 => ?_) (fun hc183 => ?_))))))
 exact absurd hc183 (by decide)
 refine am (ac (j4 O Z Z Z Z (js O Z (AOps.step ((V O Z).cast (v' := eI ((l : Nat) : Int)) (congrArg eI (by omega))) Z Z Z (AOps.step (aJ O Z Z Z Z Z Z Z Z Z Z (by omega)) Z Z Z (j2 O Z Z (jf [192,190,15,139,69,67,66,13,12,11,10,9,8,6,0,1] Z (jo O Z (au ?_)))))))))
 refine jf [15,139,69,67,66,13,12,11,10,9,8,6,0,1] Z (jn (ak (ac (aF (Ent.cut 503 l Z) (au ?_)))))
 rw [← List.map_take]
 refine j2 O Z Z (jn (aa O Z Z (fun hc194 => ?_) (fun hc194 => ?_)))
 exact absurd (ay hc194) hpu
 refine am (ac (js O Z (AOps.step ((V O Z).cast (v' := eI (dI x c)) (congrArg eI (by first | exact di hx (ay hc134) | exact dj hx (bh hc134) | exact cg (by omega) (by omega) | exact fu hx))) Z Z Z (j2 O Z Z (jf [208,206,193,15,139,69,67,66,13,12,10,9,8,6,0,1] Z (jo O Z (au ?_)))))))
 refine jf [193,15,139,69,67,66,13,12,10,9,8,6,0,1] Z (aW (AOps.step ((V O Z).cast (v' := eI (dJ x)) (congrArg eI (by first | exact fZ (by omega) | exact f2 hx))) Z Z Z (j2 O Z Z (jf [5,4,193,15,139,69,67,66,13,10,9,8,6,0,1] Z (jr ?_)))))
 have hnc : cH x c = ⟨c.vars, d9 x c, c.stack.take l, dI x c⟩ := by unfold cH dZ d9 iq; simp only [hx, ↓reduceIte, reduceCtorEq, if_true, if_false, show ¬ (2 : Int) = 8 by decide, show ¬ (5 : Int) = 2 by decide, show ¬ (5 : Int) = 8 by decide, show ¬ (6 : Int) = 2 by decide, show ¬ (6 : Int) = 8 by decide, show ¬ (8 : Int) = 2 by decide, show ¬ (9 : Int) = 2 by decide, show ¬ (9 : Int) = 8 by decide, show ¬ (10 : Int) = 2 by decide, show ¬ (10 : Int) = 8 by decide]; rw [if_neg hpu, ← hl]
 have hln : (c.stack.take l).length = l := by rw [List.length_take]; omega
 have hvl : (dZ x c).length = c.vars.length := by unfold dZ; split <;> simp
 have hcl2 : (d9 x c).length = c.cells.length := by unfold d9; split <;> simp
 rw [hnc]
 simp only [cI, hln, hvl, hcl2]
 refine ⟨.inl trivial, _, ap, _, Z, Z, Z⟩
 exact absurd hx (bh hc137)
 have hmv : mv x = (0, 0) := by rw [bK hx]; decide
 have hpk1 : pk = 0 := by rw [hmv] at hpm; exact Int.ofNat.inj hpm
 refine aq (ac (j2 O Z Z (jn (aa O Z Z (fun hc68 => ?_) (fun hc68 => ?_)))))
 exact absurd (ay hc68) (by omega)
 refine ac (j2 O Z Z (jf [70,69,67,66,14,13,12,11,10,9,8,6,0,1] Z (jn (aa O Z Z (fun hc70 => ?_) (fun hc70 => ?_)))))
 exact absurd (ay hc70) (by omega)
 refine ac (j2 O Z Z (jf [74,69,67,66,14,13,12,11,10,9,8,6,0,1] Z (jn (aa O Z Z (fun hc74 => ?_) (fun hc74 => ?_)))))
 exact absurd (ay hc74) (by omega)
 refine ac (j2 O Z Z (jf [85,69,67,66,14,13,12,11,10,9,8,6,0,1] Z (jn (aa O Z Z (fun hc85 => ?_) (fun hc85 => ?_)))))
 exact absurd (ay hc85) (by omega)
 refine ac (j2 O Z Z (jf [103,69,67,66,14,13,12,11,10,9,8,6,0,1] Z (jn (aa O Z Z (fun hc103 => ?_) (fun hc103 => ?_)))))
 exact absurd (ay hc103) (by omega)
 refine ac (j2 O Z Z (jf [114,69,67,66,14,13,12,11,10,9,8,6,0,1] Z (jn (aa O Z Z (fun hc114 => ?_) (fun hc114 => ?_)))))
 exact absurd (ay hc114) (by omega)
 refine ac (j2 O Z Z (jf [125,69,67,66,14,13,12,11,10,9,8,6,0,1] Z (jn (aa O Z Z (fun hc125 => ?_) (fun hc125 => ?_)))))
 exact absurd (ay hc125) (by omega)
 refine ac (j2 O Z Z (jf [129,69,67,66,14,13,12,11,10,9,8,6,0,1] Z (jn (aa O Z Z (fun hc129 => ?_) (fun hc129 => ?_)))))
 exact absurd (ay hc129) (by omega)
 refine ak (ac (j2 O Z Z (jf [137,69,67,66,14,13,12,11,10,9,8,6,0,1] Z (jn (aa O Z Z (fun hc137 => ?_) (fun hc137 => ?_))))))
 exact absurd (ay hc137) (by omega)
 refine ae (j2 O Z Z (jn (aa O Z Z (fun hc137 => ?_) (fun hc137 => ?_))))
 exact absurd (ay hc137) (by omega)
 refine ac (j2 O Z Z (jf [172,139,69,67,66,14,13,12,11,10,9,8,6,0,1] Z (jn (aa O Z Z (fun hc172 => ?_) (fun hc172 => ?_)))))
 refine ae (j3 O Z Z Z (jf [12,139,69,67,66,14,13,11,10,9,8,6,0,1] Z (jn (ak (ac (j2 O Z Z (jf [183,12,139,69,67,66,13,11,10,9,8,6,0,1] Z (jn (aa O Z Z (fun hc183 => ?_) (fun hc183 => ?_))))))))))
 exact absurd hc183 (by decide)
 refine am (ac (j4 O Z Z Z Z (js O Z (AOps.step ((V O Z).cast (v' := eI ((l : Nat) : Int)) (congrArg eI (by omega))) Z Z Z (AOps.step (aJ O Z Z Z Z Z Z Z Z Z Z (by omega)) Z Z Z (j2 O Z Z (jf [192,190,12,139,69,67,66,13,11,10,9,8,6,0,1] Z (jo O Z (au ?_)))))))))
 refine jf [12,139,69,67,66,13,11,10,9,8,6,0,1] Z (jn (ak (ac (aF (Ent.cut 503 l Z) (au ?_)))))
 rw [← List.map_take]
 refine j2 O Z Z (jn (aa O Z Z (fun hc194 => ?_) (fun hc194 => ?_)))
 exact absurd (ay hc194) hpu
 refine am (ac (js O Z (AOps.step ((V O Z).cast (v' := eI (dI x c)) (congrArg eI (by first | exact di hx (ay hc134) | exact dj hx (bh hc134) | exact cg (by omega) (by omega) | exact fu hx))) Z Z Z (j2 O Z Z (jf [208,206,193,12,139,69,67,66,13,10,9,8,6,0,1] Z (jo O Z (au ?_)))))))
 refine jf [193,12,139,69,67,66,13,10,9,8,6,0,1] Z (aW (AOps.step ((V O Z).cast (v' := eI (dJ x)) (congrArg eI (by first | exact fZ (by omega) | exact f2 hx))) Z Z Z (j2 O Z Z (jf [5,4,193,139,69,67,66,13,10,9,8,6,0,1] Z (jr ?_)))))
 have hnc : cH x c = ⟨c.vars, c.cells, c.stack.take l, dI x c⟩ := by unfold cH dZ d9 iq; simp only [hx, ↓reduceIte, reduceCtorEq, if_true, if_false, show ¬ (2 : Int) = 8 by decide, show ¬ (5 : Int) = 2 by decide, show ¬ (5 : Int) = 8 by decide, show ¬ (6 : Int) = 2 by decide, show ¬ (6 : Int) = 8 by decide, show ¬ (8 : Int) = 2 by decide, show ¬ (9 : Int) = 2 by decide, show ¬ (9 : Int) = 8 by decide, show ¬ (10 : Int) = 2 by decide, show ¬ (10 : Int) = 8 by decide]; rw [if_neg hpu, ← hl]
 have hln : (c.stack.take l).length = l := by rw [List.length_take]; omega
 have hvl : (dZ x c).length = c.vars.length := by unfold dZ; split <;> simp
 have hcl2 : (d9 x c).length = c.cells.length := by unfold d9; split <;> simp
 rw [hnc]
 simp only [cI, hln, hvl, hcl2]
 refine ⟨.inl trivial, _, ap, _, Z, Z, Z⟩
 exact absurd hx (bh hc172)
 have ho := hout
 rw [jM hx] at ho
 have hw : ¬ pM x c 0 < 0 := fun h => by rw [if_pos h] at ho; cases ho
 have hmv : mv x = (1, 0) := by rw [bK hx]; decide
 have hpk1 : pk = 1 := by rw [hmv] at hpm; exact Int.ofNat.inj hpm
 have hp0 : l + 0 < c.stack.length → (c.stack.map (fun n => [D.int .i64 n]))[l + 0]? = some [.int .i64 (pM x c 0)] := fun h => by have := bb (xs := c.stack) h rfl; rw [this]; unfold pM; rw [← hl]
 refine aq (ac (j2 O Z Z (jn (aa O Z Z (fun hc68 => ?_) (fun hc68 => ?_)))))
 exact absurd (ay hc68) (by omega)
 refine ac (j2 O Z Z (jf [70,69,67,66,14,13,12,11,10,9,8,6,0,1] Z (jn (aa O Z Z (fun hc70 => ?_) (fun hc70 => ?_)))))
 exact absurd (ay hc70) (by omega)
 refine ac (j2 O Z Z (jf [74,69,67,66,14,13,12,11,10,9,8,6,0,1] Z (jn (aa O Z Z (fun hc74 => ?_) (fun hc74 => ?_)))))
 exact absurd (ay hc74) (by omega)
 refine ac (j2 O Z Z (jf [85,69,67,66,14,13,12,11,10,9,8,6,0,1] Z (jn (aa O Z Z (fun hc85 => ?_) (fun hc85 => ?_)))))
 exact absurd (ay hc85) (by omega)
 refine ac (j2 O Z Z (jf [103,69,67,66,14,13,12,11,10,9,8,6,0,1] Z (jn (aa O Z Z (fun hc103 => ?_) (fun hc103 => ?_)))))
 exact absurd (ay hc103) (by omega)
 refine ac (j2 O Z Z (jf [114,69,67,66,14,13,12,11,10,9,8,6,0,1] Z (jn (aa O Z Z (fun hc114 => ?_) (fun hc114 => ?_)))))
 exact absurd (ay hc114) (by omega)
 refine ac (j2 O Z Z (jf [125,69,67,66,14,13,12,11,10,9,8,6,0,1] Z (jn (aa O Z Z (fun hc125 => ?_) (fun hc125 => ?_)))))
 exact absurd (ay hc125) (by omega)
 refine ac (j2 O Z Z (jf [129,69,67,66,14,13,12,11,10,9,8,6,0,1] Z (jn (aa O Z Z (fun hc129 => ?_) (fun hc129 => ?_)))))
 exact absurd (ay hc129) (by omega)
 refine ak (ac (j2 O Z Z (jf [137,69,67,66,14,13,12,11,10,9,8,6,0,1] Z (jn (aa O Z Z (fun hc137 => ?_) (fun hc137 => ?_))))))
 exact absurd (ay hc137) (by omega)
 refine ae (j2 O Z Z (jn (aa O Z Z (fun hc137 => ?_) (fun hc137 => ?_))))
 exact absurd (ay hc137) (by omega)
 refine ac (j2 O Z Z (jf [172,139,69,67,66,14,13,12,11,10,9,8,6,0,1] Z (jn (aa O Z Z (fun hc172 => ?_) (fun hc172 => ?_)))))
 exact absurd (ay hc172) (by omega)
 refine ac (j2 O Z Z (jf [176,139,69,67,66,14,13,12,11,10,9,8,6,0,1] Z (jn (aa O Z Z (fun hc176 => ?_) (fun hc176 => ?_)))))
 refine ac (js O Z (AOps.step (az O Z Z (by omega)) Z Z Z (AOps.step (ao O (ex := [.int .i64 (pM x c 0)]) Z Z Z Z (hp0 (by omega)) Z) Z Z Z (js O Z (jf [181,139,69,67,66,14,13,12,11,10,9,8,6,0,1] Z (jn (aa O Z Z (fun hc181 => ?_) (fun hc181 => ?_))))))))
 exact absurd (ay hc181) hw
 refine am (ak (ac (j2 O Z Z (jf [183,139,69,67,66,13,12,11,10,9,8,6,0,1] Z (jn (aa O Z Z (fun hc183 => ?_) (fun hc183 => ?_)))))))
 exact absurd hc183 (by decide)
 refine am (ac (j4 O Z Z Z Z (js O Z (AOps.step ((V O Z).cast (v' := eI ((l : Nat) : Int)) (congrArg eI (by omega))) Z Z Z (AOps.step (aJ O Z Z Z Z Z Z Z Z Z Z (by omega)) Z Z Z (j2 O Z Z (jf [192,190,139,69,67,66,13,12,11,10,9,8,6,0,1] Z (jo O Z (au ?_)))))))))
 refine jf [139,69,67,66,13,12,11,10,9,8,6,0,1] Z (jn (ak (ac (aF (Ent.cut 503 l Z) (au ?_)))))
 rw [← List.map_take]
 refine j2 O Z Z (jn (aa O Z Z (fun hc194 => ?_) (fun hc194 => ?_)))
 exact absurd (ay hc194) hpu
 refine am (ac (js O Z (AOps.step ((V O Z).cast (v' := eI (dI x c)) (congrArg eI (by first | exact di hx (ay hc134) | exact dj hx (bh hc134) | exact cg (by omega) (by omega) | exact fu hx))) Z Z Z (j2 O Z Z (jf [208,206,193,139,69,67,66,13,12,10,9,8,6,0,1] Z (jo O Z (au ?_)))))))
 refine jf [193,139,69,67,66,13,12,10,9,8,6,0,1] Z (aW (AOps.step ((V O Z).cast (v' := eI (dJ x)) (congrArg eI (by first | exact fZ (by omega) | exact f2 hx))) Z Z Z (j2 O Z Z (jf [5,4,193,139,69,67,66,13,10,9,8,6,0,1] Z (jr ?_)))))
 have hnc : cH x c = ⟨c.vars, c.cells, c.stack.take l, dI x c⟩ := by unfold cH dZ d9 iq; simp only [hx, ↓reduceIte, reduceCtorEq, if_true, if_false, show ¬ (2 : Int) = 8 by decide, show ¬ (5 : Int) = 2 by decide, show ¬ (5 : Int) = 8 by decide, show ¬ (6 : Int) = 2 by decide, show ¬ (6 : Int) = 8 by decide, show ¬ (8 : Int) = 2 by decide, show ¬ (9 : Int) = 2 by decide, show ¬ (9 : Int) = 8 by decide, show ¬ (10 : Int) = 2 by decide, show ¬ (10 : Int) = 8 by decide]; rw [if_neg hpu, ← hl]
 have hln : (c.stack.take l).length = l := by rw [List.length_take]; omega
 have hvl : (dZ x c).length = c.vars.length := by unfold dZ; split <;> simp
 have hcl2 : (d9 x c).length = c.cells.length := by unfold d9; split <;> simp
 rw [hnc]
 simp only [cI, hln, hvl, hcl2]
 refine ⟨.inl trivial, _, ap, _, Z, Z, Z⟩
 exact absurd hx (bh hc176)
theorem gk {c : Cf} (hcl : code.length ≤ 1000) (hat : ¬ (0 ≤ c.at_ ∧ c.at_ < code.length)) : MQ h1 h2 39 [.c (.pt 0 0 0), bf code] (ir c ev cnt o) (bB (.tup [eI 5, eI (-1)]) (ir c ev cnt o)) := by
 refine MC.shift 500 Z (MC.keep [500,501,502,503,504,505] (bs := [cI c c.stack.length ev cnt o 501 502 503 504 505, ah c.vars, ah c.cells, ah c.stack, ah ev, ah cnt]) Z Z (jH 210 [500,501,502,503,504,505] h1 h2 Try.func39 Z Z Z Z fun O hF => ?_))
 refine dw ?_
 refine ac (j2 O Z Z (jn (ak (ac (j4 O Z Z Z Z (js O Z ?_))))))
 first | refine cw O Z ?_ | refine js O Z ?_ | refine bm O Z Z ?_
 refine jf [21,19,5,4,0,1] Z (af O Z Z Z Z ((nl (k := c.at_) (n := code.length) h1 h2 (by omega)).plain (u := eB false) (congrArg eB (by rw [← Bool.not_eq_true]; exact fun h => hat (eZ.1 h)))) (ab Z) Z Z Z Z Z (B0 := 23000) Z (js O Z (jf [23,5,4,0,1] Z (jn (aa O Z Z (fun hc23 => ?_) (fun hc23 => ?_))))))
 refine ac (j2 O Z Z (jr ?_))
 refine ⟨.inl Z, _, ap, _, Z, Z, Z⟩
 exact absurd hc23 (by decide)
theorem gm {c : Cf} (hC : COk c) (hcl : code.length ≤ 1000) (hix : av x = true) (hat : 0 ≤ c.at_ ∧ c.at_ < code.length) (hcx : x = code.getD c.at_.toNat default) (hlo : cY x c.stack.length = true) : MQ h1 h2 39 [.c (.pt 0 0 0), bf code] (ir c ev cnt o) (bB (.tup [eI 5, eI (-1)]) (ir c ev cnt o)) := by
 refine MC.shift 500 Z (MC.keep [500,501,502,503,504,505] (bs := [cI c c.stack.length ev cnt o 501 502 503 504 505, ah c.vars, ah c.cells, ah c.stack, ah ev, ah cnt]) Z Z (jH 210 [500,501,502,503,504,505] h1 h2 Try.func39 Z Z Z Z fun O hF => ?_))
 refine dw ?_
 have hmi := dk (x := x)
 have hsl := hC.sl
 obtain ⟨pk, hpk⟩ : ∃ pk, pk = iN x := ⟨_, rfl⟩
 have hpm : (pk : Int) = (mv x).1 := by rw [hpk]; unfold iN; omega
 obtain ⟨l, hl⟩ : ∃ l, l = gd x c.stack.length := ⟨_, rfl⟩
 refine ac (j2 O Z Z (jn (ak (ac (j4 O Z Z Z Z (js O Z ?_))))))
 first | refine cw O Z ?_ | refine js O Z ?_ | refine bm O Z Z ?_
 refine jf [21,19,5,4,0,1] Z (af O Z Z Z Z ((nl (k := c.at_) (n := code.length) h1 h2 (by omega)).plain (u := eB true) (congrArg eB (eZ.2 hat))) (ab Z) Z Z Z Z Z (B0 := 23000) Z (js O Z (jf [23,5,4,0,1] Z (jn (aa O Z Z (fun hc23 => ?_) (fun hc23 => ?_))))))
 exact absurd hc23 (by decide)
 refine am (ac (j4 O Z Z Z Z (js O Z (AOps.step ((bR O Z Z Z Z Z Z Z Z (by omega) (ee (by omega) (by omega))).cast (v' := ptr (In.cells x)) (by rw [hcx])) Z Z Z (js O Z (jf [30,5,4,0,1] Z (jl O Z (au ?_))))))))
 refine jo O Z (au ?_)
 refine aF (Ent.freeze 6 (e' := [(6, _), (0, _), (1, _)]) Z (.cons Z (.c (.box (cs := In.cells x) Z (ba Z))) (fe [0,1] Z)) (.skip (.cons Z (.box (fk Z)) (.cons Z .row (.cons Z .row (.cons Z .row (.cons Z .row (.cons Z .row .nil)))))))) ?_
 refine au ?_
 refine aW (js O Z (aC O Z Z Z Z (iT (x := x) h1 h2) (ab Z) Z Z Z Z (B0 := 34000) Z Z (j4 O Z Z Z Z (js O Z (jf [8,7,6,0,1] Z (aW (j4 O Z Z Z Z ?_)))))))
 first | refine cw O Z ?_ | refine js O Z ?_ | refine bm O Z Z ?_
 refine js O Z (AOps.step ((ag O Z Z (by omega) (by omega)).cast (v' := eI ((c.stack.length : Int) - (mv x).1)) Z) Z Z Z (js O Z (jf [9,8,6,0,1] Z (jn (ak (ac (j3 O Z Z Z (jf [45,9,8,6,0,1] Z (aU 8 Z Z Z (fun hx => AN.step hx Z Z Z (V O Z) Z Z ( AN.step hx Z Z Z (V O Z) Z Z ( AN.step hx Z Z Z (V O Z) Z Z ( iw 4 Z Z Z Z (fun hx' => AN.step hx' Z Z Z (V O Z) Z Z ( AN.step hx' Z Z Z (V O Z) Z Z ( AN.step hx' Z Z Z (vF O Z) Z Z ( AN.step hx' Z Z Z (V O Z) Z Z ( AN.nil))))) Z Z ( AN.step hx Z Z Z (aB O Z Z Z Z Z) Z Z ( AN.nil)))))) Z Z ?_)))))))))
 first | refine AOps.step (aQ O Z Z Z Z Z) Z Z Z ?_ | refine AOps.step (Val.pickB O Z Z Z Z Z) Z Z Z ?_ | refine AOps.step (aB O Z Z Z Z Z) Z Z Z ?_
 refine jf [54,9,8,6,0,1] Z (jn (aa O Z Z (fun hc54 => ?_) (fun hc54 => ?_)))
 refine ac (j2 O Z Z (jr ?_))
 refine ⟨.inl Z, _, ap, _, Z, Z, Z⟩
 exact absurd (show cY x c.stack.length = false from hc54) (by rw [hlo]; decide)
theorem gn {c : Cf} (hC : COk c) (hcl : code.length ≤ 1000) (hix : av x = true) (hat : 0 ≤ c.at_ ∧ c.at_ < code.length) (hcx : x = code.getD c.at_.toNat default) (hlo : cY x c.stack.length = false) (hout : bc x c ≠ 0) : MQ h1 h2 39 [.c (.pt 0 0 0), bf code] (ir c ev cnt o) (bB (.tup [eI (bc x c), eI (-1)]) (ir c ev cnt o)) := by
 refine MC.shift 500 Z (MC.keep [500,501,502,503,504,505] (bs := [cI c c.stack.length ev cnt o 501 502 503 504 505, ah c.vars, ah c.cells, ah c.stack, ah ev, ah cnt]) Z Z (jH 210 [500,501,502,503,504,505] h1 h2 Try.func39 Z Z Z Z fun O hF => ?_))
 refine dw ?_
 have hmi := dk (x := x)
 have hsl := hC.sl
 obtain ⟨pk, hpk⟩ : ∃ pk, pk = iN x := ⟨_, rfl⟩
 have hpm : (pk : Int) = (mv x).1 := by rw [hpk]; unfold iN; omega
 obtain ⟨l, hl⟩ : ∃ l, l = gd x c.stack.length := ⟨_, rfl⟩
 obtain ⟨hl0, hl1⟩ := kA hlo
 have hlp : l + pk = c.stack.length := by rw [hl, hpk]; unfold gd iN; omega
 refine ac (j2 O Z Z (jn (ak (ac (j4 O Z Z Z Z (js O Z ?_))))))
 first | refine cw O Z ?_ | refine js O Z ?_ | refine bm O Z Z ?_
 refine jf [21,19,5,4,0,1] Z (af O Z Z Z Z ((nl (k := c.at_) (n := code.length) h1 h2 (by omega)).plain (u := eB true) (congrArg eB (eZ.2 hat))) (ab Z) Z Z Z Z Z (B0 := 23000) Z (js O Z (jf [23,5,4,0,1] Z (jn (aa O Z Z (fun hc23 => ?_) (fun hc23 => ?_))))))
 exact absurd hc23 (by decide)
 refine am (ac (j4 O Z Z Z Z (js O Z (AOps.step ((bR O Z Z Z Z Z Z Z Z (by omega) (ee (by omega) (by omega))).cast (v' := ptr (In.cells x)) (by rw [hcx])) Z Z Z (js O Z (jf [30,5,4,0,1] Z (jl O Z (au ?_))))))))
 refine jo O Z (au ?_)
 refine aF (Ent.freeze 6 (e' := [(6, _), (0, _), (1, _)]) Z (.cons Z (.c (.box (cs := In.cells x) Z (ba Z))) (fe [0,1] Z)) (.skip (.cons Z (.box (fk Z)) (.cons Z .row (.cons Z .row (.cons Z .row (.cons Z .row (.cons Z .row .nil)))))))) ?_
 refine au ?_
 refine aW (js O Z (aC O Z Z Z Z (iT (x := x) h1 h2) (ab Z) Z Z Z Z (B0 := 34000) Z Z (j4 O Z Z Z Z (js O Z (jf [8,7,6,0,1] Z (aW (j4 O Z Z Z Z ?_)))))))
 first | refine cw O Z ?_ | refine js O Z ?_ | refine bm O Z Z ?_
 refine js O Z (AOps.step ((ag O Z Z (by omega) (by omega)).cast (v' := eI ((c.stack.length : Int) - (mv x).1)) Z) Z Z Z (js O Z (jf [9,8,6,0,1] Z (jn (ak (ac (j3 O Z Z Z (jf [45,9,8,6,0,1] Z (aU 8 Z Z Z (fun hx => AN.step hx Z Z Z (V O Z) Z Z ( AN.step hx Z Z Z (V O Z) Z Z ( AN.step hx Z Z Z (V O Z) Z Z ( iw 4 Z Z Z Z (fun hx' => AN.step hx' Z Z Z (V O Z) Z Z ( AN.step hx' Z Z Z (V O Z) Z Z ( AN.step hx' Z Z Z (vF O Z) Z Z ( AN.step hx' Z Z Z (V O Z) Z Z ( AN.nil))))) Z Z ( AN.step hx Z Z Z (aB O Z Z Z Z Z) Z Z ( AN.nil)))))) Z Z ?_)))))))))
 first | refine AOps.step (aQ O Z Z Z Z Z) Z Z Z ?_ | refine AOps.step (Val.pickB O Z Z Z Z Z) Z Z Z ?_ | refine AOps.step (aB O Z Z Z Z Z) Z Z Z ?_
 refine jf [54,9,8,6,0,1] Z (jn (aa O Z Z (fun hc54 => ?_) (fun hc54 => ?_)))
 exact absurd (show cY x c.stack.length = true from hc54) (by rw [hlo]; decide)
 refine am (ak (jw [9,8,6,0,1] Z (gW O [_,_,_,_,_,_,_,_,_,_,_,_,_,_] [pn [] 0 0, pn [0] 0 0, pn [0,1] 0 0, pn [0,1,2] 0 0, pn [] 0 0, pn (rg 0 5) 0 0, pn [] 0 0, pn [6] 0 0, pn [6,7] 0 0, pn [6,7,8] 0 0, pn (rg 6 4) 0 0, pn (rg 0 6) 0 0, pn (rg 0 12) 0 0, pn (rg 0 13) 0 0] [] [_] (kc O Z (kc O Z (kc O Z (kc O Z (ai ((V O Z).cast (v' := eI ((l : Nat) : Int)) (congrArg eI (by omega))) (ai ((az O Z Z (by omega)).cast (v' := .c (.rs 503 l pk)) (by show A.c (.rs 503 _ _) = _; rw [Nat.zero_add, Int.toNat_natCast, show c.stack.length - l = pk by omega])) (kc O Z (kc O Z (kc O Z (kc O Z (ai (ag O Z Z (by omega) (by omega)) (kc O Z (kc O Z (kc O Z trivial)))))))))))))) ?_)))
 refine jw [12,11,10,9,8,6,0,1] Z (dw ?_)
 refine ac (js O Z (aW (js O Z (jn (ak (ac (j2 O Z Z (jn ?_))))))))
 rcases nc hix hout with hf | hf | hf | hf | hf | hf | hf | hf
 have hx := hf
 have hmv : mv x = (0, 0) := by rw [bK hx]; decide
 have hpk1 : pk = 0 := by rw [hmv] at hpm; exact Int.ofNat.inj hpm
 refine aq (ac (j2 O Z Z (jn (aa O Z Z (fun hc68 => ?_) (fun hc68 => ?_)))))
 refine ac (j2 O Z Z (jr ?_))
 rw [show bc x c = 6 from jL hx]
 refine ⟨.inl Z, _, ap, _, Z, Z, Z⟩
 exact absurd hx (bh hc68)
 obtain ⟨hx, hw⟩ := hf
 have hmv : mv x = (1, 0) := by rw [bK hx]; decide
 have hpk1 : pk = 1 := by rw [hmv] at hpm; exact Int.ofNat.inj hpm
 have hp0 : l + 0 < c.stack.length → (c.stack.map (fun n => [D.int .i64 n]))[l + 0]? = some [.int .i64 (pM x c 0)] := fun h => by have := bb (xs := c.stack) h rfl; rw [this]; unfold pM; rw [← hl]
 refine aq (ac (j2 O Z Z (jn (aa O Z Z (fun hc68 => ?_) (fun hc68 => ?_)))))
 exact absurd (ay hc68) (by omega)
 refine ac (j2 O Z Z (jf [70,69,67,66,14,13,12,11,10,9,8,6,0,1] Z (jn (aa O Z Z (fun hc70 => ?_) (fun hc70 => ?_)))))
 exact absurd (ay hc70) (by omega)
 refine ac (j2 O Z Z (jf [74,69,67,66,14,13,12,11,10,9,8,6,0,1] Z (jn (aa O Z Z (fun hc74 => ?_) (fun hc74 => ?_)))))
 exact absurd (ay hc74) (by omega)
 refine ac (j2 O Z Z (jf [85,69,67,66,14,13,12,11,10,9,8,6,0,1] Z (jn (aa O Z Z (fun hc85 => ?_) (fun hc85 => ?_)))))
 refine ak (ac (js O Z (AOps.step (az O Z Z (by omega)) Z Z Z (AOps.step (ao O (ex := [.int .i64 (pM x c 0)]) Z Z Z Z (hp0 (by omega)) Z) Z Z Z (jf [89,69,67,66,14,13,12,11,10,9,8,6,0,1] Z (af O Z Z Z Z ((mY (x := pM x c 0) h1 h2).plain (u := eB false) (by rw [hw])) (ab Z) Z Z Z Z Z (B0 := 91000) Z (js O Z (jf [91,69,67,66,14,13,12,11,10,9,8,6,0,1] Z (jn (aa O Z Z (fun hc91 => ?_) (fun hc91 => ?_)))))))))))
 refine ac (j2 O Z Z (jr ?_))
 rw [show bc x c = 4 from by rw [lR hx, hw]; rfl]
 refine ⟨.inl Z, _, ap, _, Z, Z, Z⟩
 exact absurd hc91 (by decide)
 exact absurd hx (bh hc85)
 obtain ⟨hx, hw⟩ := hf
 have hmv : mv x = (2, 1) := by rw [bK hx]; decide
 have hpk1 : pk = 2 := by rw [hmv] at hpm; exact Int.ofNat.inj hpm
 have hp0 : l + 0 < c.stack.length → (c.stack.map (fun n => [D.int .i64 n]))[l + 0]? = some [.int .i64 (pM x c 0)] := fun h => by have := bb (xs := c.stack) h rfl; rw [this]; unfold pM; rw [← hl]
 have hp1 : l + 1 < c.stack.length → (c.stack.map (fun n => [D.int .i64 n]))[l + 1]? = some [.int .i64 (pM x c 1)] := fun h => by have := bb (xs := c.stack) h rfl; rw [this]; unfold pM; rw [← hl]
 refine aq (ac (j2 O Z Z (jn (aa O Z Z (fun hc68 => ?_) (fun hc68 => ?_)))))
 exact absurd (ay hc68) (by omega)
 refine ac (j2 O Z Z (jf [70,69,67,66,14,13,12,11,10,9,8,6,0,1] Z (jn (aa O Z Z (fun hc70 => ?_) (fun hc70 => ?_)))))
 exact absurd (ay hc70) (by omega)
 refine ac (j2 O Z Z (jf [74,69,67,66,14,13,12,11,10,9,8,6,0,1] Z (jn (aa O Z Z (fun hc74 => ?_) (fun hc74 => ?_)))))
 exact absurd (ay hc74) (by omega)
 refine ac (j2 O Z Z (jf [85,69,67,66,14,13,12,11,10,9,8,6,0,1] Z (jn (aa O Z Z (fun hc85 => ?_) (fun hc85 => ?_)))))
 exact absurd (ay hc85) (by omega)
 refine ac (j2 O Z Z (jf [103,69,67,66,14,13,12,11,10,9,8,6,0,1] Z (jn (aa O Z Z (fun hc103 => ?_) (fun hc103 => ?_)))))
 refine ak (jw [69,67,66,14,12,11,10,9,8,6,0,1] Z (gW O [_,_,_,_,_,_,_,_] [pn [] 0 0, pn [0] 0 0, pn [0,1] 0 0, pn [] 0 0, pn [3] 0 0, pn [3,4] 0 0, pn (rg 0 6) 0 0, pn (rg 0 7) 0 0] [] [_] (kc O Z (ai (az O Z Z (by omega)) (ai (ao O (ex := [.int .i64 (pM x c 0)]) Z Z Z Z (hp0 (by omega)) Z) (kc O Z (ai (az O Z Z (by omega)) (ai (ao O (ex := [.int .i64 (pM x c 1)]) Z Z Z Z (hp1 (by omega)) Z) (ai (ag O Z Z (by have := iW.1 (hC.pw (x := x) (j := 0) (by rw [← hl]; omega)); have := iW.1 (hC.pw (x := x) (j := 1) (by rw [← hl]; omega)); omega) (by have := iW.1 (hC.pw (x := x) (j := 0) (by rw [← hl]; omega)); have := iW.1 (hC.pw (x := x) (j := 1) (by rw [← hl]; omega)); omega)) (kc O Z trivial)))))))) ?_))
 refine jw [13,69,67,66,14,12,11,10,9,8,6,0,1] Z (dw ?_)
 refine ae (js O Z (af O Z Z Z Z ((kD (n := pM x c 0 + pM x c 1) h1 h2).plain (u := eB false) (by rw [hw])) (ab Z) Z Z Z Z Z (B0 := 114000) Z (js O Z (jf [14,13,69,67,66,12,11,10,9,8,6,0,1] Z (jn (ak (ac (j2 O Z Z (jf [183,13,69,67,66,12,11,10,9,8,6,0,1] Z (jn (aa O Z Z (fun hc183 => ?_) (fun hc183 => ?_))))))))))))
 refine ac (j2 O Z Z (jr ?_))
 rw [show bc x c = 4 from by rw [lQ hx, hw]; rfl]
 refine ⟨.inl Z, _, ap, _, Z, Z, Z⟩
 exact absurd hc183 (by decide)
 exact absurd hx (bh hc103)
 obtain ⟨hx, hw⟩ := hf
 have hmv : mv x = (1, 1) := by rw [bK hx]; decide
 have hpk1 : pk = 1 := by rw [hmv] at hpm; exact Int.ofNat.inj hpm
 have hp0 : l + 0 < c.stack.length → (c.stack.map (fun n => [D.int .i64 n]))[l + 0]? = some [.int .i64 (pM x c 0)] := fun h => by have := bb (xs := c.stack) h rfl; rw [this]; unfold pM; rw [← hl]
 refine aq (ac (j2 O Z Z (jn (aa O Z Z (fun hc68 => ?_) (fun hc68 => ?_)))))
 exact absurd (ay hc68) (by omega)
 refine ac (j2 O Z Z (jf [70,69,67,66,14,13,12,11,10,9,8,6,0,1] Z (jn (aa O Z Z (fun hc70 => ?_) (fun hc70 => ?_)))))
 exact absurd (ay hc70) (by omega)
 refine ac (j2 O Z Z (jf [74,69,67,66,14,13,12,11,10,9,8,6,0,1] Z (jn (aa O Z Z (fun hc74 => ?_) (fun hc74 => ?_)))))
 exact absurd (ay hc74) (by omega)
 refine ac (j2 O Z Z (jf [85,69,67,66,14,13,12,11,10,9,8,6,0,1] Z (jn (aa O Z Z (fun hc85 => ?_) (fun hc85 => ?_)))))
 exact absurd (ay hc85) (by omega)
 refine ac (j2 O Z Z (jf [103,69,67,66,14,13,12,11,10,9,8,6,0,1] Z (jn (aa O Z Z (fun hc103 => ?_) (fun hc103 => ?_)))))
 exact absurd (ay hc103) (by omega)
 refine ac (j2 O Z Z (jf [114,69,67,66,14,13,12,11,10,9,8,6,0,1] Z (jn (aa O Z Z (fun hc114 => ?_) (fun hc114 => ?_)))))
 refine jw [69,67,66,12,11,10,9,8,6,0,1] Z (gW O [_,_,_,_,_,_,_,_,_,_,_] [pn [] 0 0, pn [0] 0 0, pn [0,1] 0 0, pn [] 0 0, pn [3] 0 0, pe (rg 0 5) 0, pn (rg 0 6) 1 1, pn (rg 0 7) 1 1, pn (rg 0 7) 1 1, pn (rg 0 8) 1 1, pn (rg 0 10) 1 1] [5] [_,_] (kc O Z (ai (az O Z Z (by omega)) (ai (ao O (ex := [.int .i64 (pM x c 0)]) Z Z Z Z (hp0 (by omega)) Z) (kc O Z (kc O Z (ai (gM O (B0 := 123000) Z Z Z Z ((nB (n := pM x c 0) (b := x.a) h1 h2 (hC.pw (by rw [← hl]; omega)) (l3 hix (.inr hx))).plain (u := .tup [eI 0, eB false]) (by unfold nJ; rw [if_neg (by rw [hw]; decide)])) (ab Z) Z Z Z Z Z) (kc O Z (kc O Z (kc O Z (kc O Z (kc O Z trivial))))))))))) ?_)
 refine jw [14,13,69,67,66,12,11,10,9,8,6,0,1] Z (dw ?_)
 refine ak (ac (j2 O Z Z (jf [183,13,69,67,66,12,11,10,9,8,6,0,1] Z (jn (aa O Z Z (fun hc183 => ?_) (fun hc183 => ?_))))))
 refine ac (j2 O Z Z (jr ?_))
 rw [show bc x c = 4 from by rw [lP hx, hw]; rfl]
 refine ⟨.inl Z, _, ap, _, Z, Z, Z⟩
 exact absurd hc183 (by decide)
 exact absurd hx (bh hc114)
 obtain ⟨hx, hw⟩ := hf
 have hmv : mv x = (1, 1) := by rw [bK hx]; decide
 have hpk1 : pk = 1 := by rw [hmv] at hpm; exact Int.ofNat.inj hpm
 have hp0 : l + 0 < c.stack.length → (c.stack.map (fun n => [D.int .i64 n]))[l + 0]? = some [.int .i64 (pM x c 0)] := fun h => by have := bb (xs := c.stack) h rfl; rw [this]; unfold pM; rw [← hl]
 refine aq (ac (j2 O Z Z (jn (aa O Z Z (fun hc68 => ?_) (fun hc68 => ?_)))))
 exact absurd (ay hc68) (by omega)
 refine ac (j2 O Z Z (jf [70,69,67,66,14,13,12,11,10,9,8,6,0,1] Z (jn (aa O Z Z (fun hc70 => ?_) (fun hc70 => ?_)))))
 exact absurd (ay hc70) (by omega)
 refine ac (j2 O Z Z (jf [74,69,67,66,14,13,12,11,10,9,8,6,0,1] Z (jn (aa O Z Z (fun hc74 => ?_) (fun hc74 => ?_)))))
 exact absurd (ay hc74) (by omega)
 refine ac (j2 O Z Z (jf [85,69,67,66,14,13,12,11,10,9,8,6,0,1] Z (jn (aa O Z Z (fun hc85 => ?_) (fun hc85 => ?_)))))
 exact absurd (ay hc85) (by omega)
 refine ac (j2 O Z Z (jf [103,69,67,66,14,13,12,11,10,9,8,6,0,1] Z (jn (aa O Z Z (fun hc103 => ?_) (fun hc103 => ?_)))))
 exact absurd (ay hc103) (by omega)
 refine ac (j2 O Z Z (jf [114,69,67,66,14,13,12,11,10,9,8,6,0,1] Z (jn (aa O Z Z (fun hc114 => ?_) (fun hc114 => ?_)))))
 exact absurd (ay hc114) (by omega)
 refine ac (j2 O Z Z (jf [125,69,67,66,14,13,12,11,10,9,8,6,0,1] Z (jn (aa O Z Z (fun hc125 => ?_) (fun hc125 => ?_)))))
 exact absurd (ay hc125) (by omega)
 refine ac (j2 O Z Z (jf [129,69,67,66,14,13,12,11,10,9,8,6,0,1] Z (jn (aa O Z Z (fun hc129 => ?_) (fun hc129 => ?_)))))
 exact absurd (ay hc129) (by omega)
 refine ak (ac (j2 O Z Z (jf [137,69,67,66,14,13,12,11,10,9,8,6,0,1] Z (jn (aa O Z Z (fun hc137 => ?_) (fun hc137 => ?_))))))
 refine am (aa O Z Z (fun hc137 => ?_) (fun hc137 => ?_))
 refine ac (js O Z (AOps.step (az O Z Z (by omega)) Z Z Z (AOps.step (ao O (ex := [.int .i64 (pM x c 0)]) Z Z Z Z (hp0 (by omega)) Z) Z Z Z (js O Z (jf [15,69,67,66,14,13,12,11,10,9,8,6,0,1] Z (jn (ak (ac (js O Z (af O Z Z Z Z ((eK (x := pM x c 0) (lo := 0) (hi := 7) h1 h2).plain (u := eB false) (by rw [hw])) (ab Z) Z Z Z Z Z (B0 := 145000) Z (js O Z (jf [145,15,69,67,66,14,13,12,11,10,9,8,6,0,1] Z (jn (aa O Z Z (fun hc145 => ?_) (fun hc145 => ?_)))))))))))))))
 refine ac (j2 O Z Z (jr ?_))
 rw [show bc x c = 2 from by rw [lO hx, hw]; rfl]
 refine ⟨.inl Z, _, ap, _, Z, Z, Z⟩
 exact absurd hc145 (by decide)
 exact absurd hx (bh hc137)
 exact absurd hx (bh hc137)
 obtain ⟨hx, hw⟩ := hf
 have hmv : mv x = (2, 0) := by rw [bK hx]; decide
 have hpk1 : pk = 2 := by rw [hmv] at hpm; exact Int.ofNat.inj hpm
 have hp0 : l + 0 < c.stack.length → (c.stack.map (fun n => [D.int .i64 n]))[l + 0]? = some [.int .i64 (pM x c 0)] := fun h => by have := bb (xs := c.stack) h rfl; rw [this]; unfold pM; rw [← hl]
 have hp1 : l + 1 < c.stack.length → (c.stack.map (fun n => [D.int .i64 n]))[l + 1]? = some [.int .i64 (pM x c 1)] := fun h => by have := bb (xs := c.stack) h rfl; rw [this]; unfold pM; rw [← hl]
 refine aq (ac (j2 O Z Z (jn (aa O Z Z (fun hc68 => ?_) (fun hc68 => ?_)))))
 exact absurd (ay hc68) (by omega)
 refine ac (j2 O Z Z (jf [70,69,67,66,14,13,12,11,10,9,8,6,0,1] Z (jn (aa O Z Z (fun hc70 => ?_) (fun hc70 => ?_)))))
 exact absurd (ay hc70) (by omega)
 refine ac (j2 O Z Z (jf [74,69,67,66,14,13,12,11,10,9,8,6,0,1] Z (jn (aa O Z Z (fun hc74 => ?_) (fun hc74 => ?_)))))
 exact absurd (ay hc74) (by omega)
 refine ac (j2 O Z Z (jf [85,69,67,66,14,13,12,11,10,9,8,6,0,1] Z (jn (aa O Z Z (fun hc85 => ?_) (fun hc85 => ?_)))))
 exact absurd (ay hc85) (by omega)
 refine ac (j2 O Z Z (jf [103,69,67,66,14,13,12,11,10,9,8,6,0,1] Z (jn (aa O Z Z (fun hc103 => ?_) (fun hc103 => ?_)))))
 exact absurd (ay hc103) (by omega)
 refine ac (j2 O Z Z (jf [114,69,67,66,14,13,12,11,10,9,8,6,0,1] Z (jn (aa O Z Z (fun hc114 => ?_) (fun hc114 => ?_)))))
 exact absurd (ay hc114) (by omega)
 refine ac (j2 O Z Z (jf [125,69,67,66,14,13,12,11,10,9,8,6,0,1] Z (jn (aa O Z Z (fun hc125 => ?_) (fun hc125 => ?_)))))
 exact absurd (ay hc125) (by omega)
 refine ac (j2 O Z Z (jf [129,69,67,66,14,13,12,11,10,9,8,6,0,1] Z (jn (aa O Z Z (fun hc129 => ?_) (fun hc129 => ?_)))))
 exact absurd (ay hc129) (by omega)
 refine ak (ac (j2 O Z Z (jf [137,69,67,66,14,13,12,11,10,9,8,6,0,1] Z (jn (aa O Z Z (fun hc137 => ?_) (fun hc137 => ?_))))))
 exact absurd (ay hc137) (by omega)
 refine ae (j2 O Z Z (jn (aa O Z Z (fun hc137 => ?_) (fun hc137 => ?_))))
 refine ac (js O Z (AOps.step (az O Z Z (by omega)) Z Z Z (AOps.step (ao O (ex := [.int .i64 (pM x c 0)]) Z Z Z Z (hp0 (by omega)) Z) Z Z Z (js O Z (jf [15,139,69,67,66,14,13,12,11,10,9,8,6,0,1] Z (jn (ak (ac (js O Z (af O Z Z Z Z ((eK (x := pM x c 0) (lo := 0) (hi := 7) h1 h2).plain (u := eB false) (by rw [hw])) (ab Z) Z Z Z Z Z (B0 := 145000) Z (js O Z (jf [145,15,139,69,67,66,14,13,12,11,10,9,8,6,0,1] Z (jn (aa O Z Z (fun hc145 => ?_) (fun hc145 => ?_)))))))))))))))
 refine ac (j2 O Z Z (jr ?_))
 rw [show bc x c = 2 from by rw [ky hx, hw]; rfl]
 refine ⟨.inl Z, _, ap, _, Z, Z, Z⟩
 exact absurd hc145 (by decide)
 exact absurd hx (bh hc137)
 obtain ⟨hx, hw⟩ := hf
 have hmv : mv x = (2, 0) := by rw [bK hx]; decide
 have hpk1 : pk = 2 := by rw [hmv] at hpm; exact Int.ofNat.inj hpm
 have hp0 : l + 0 < c.stack.length → (c.stack.map (fun n => [D.int .i64 n]))[l + 0]? = some [.int .i64 (pM x c 0)] := fun h => by have := bb (xs := c.stack) h rfl; rw [this]; unfold pM; rw [← hl]
 have hp1 : l + 1 < c.stack.length → (c.stack.map (fun n => [D.int .i64 n]))[l + 1]? = some [.int .i64 (pM x c 1)] := fun h => by have := bb (xs := c.stack) h rfl; rw [this]; unfold pM; rw [← hl]
 refine aq (ac (j2 O Z Z (jn (aa O Z Z (fun hc68 => ?_) (fun hc68 => ?_)))))
 exact absurd (ay hc68) (by omega)
 refine ac (j2 O Z Z (jf [70,69,67,66,14,13,12,11,10,9,8,6,0,1] Z (jn (aa O Z Z (fun hc70 => ?_) (fun hc70 => ?_)))))
 exact absurd (ay hc70) (by omega)
 refine ac (j2 O Z Z (jf [74,69,67,66,14,13,12,11,10,9,8,6,0,1] Z (jn (aa O Z Z (fun hc74 => ?_) (fun hc74 => ?_)))))
 exact absurd (ay hc74) (by omega)
 refine ac (j2 O Z Z (jf [85,69,67,66,14,13,12,11,10,9,8,6,0,1] Z (jn (aa O Z Z (fun hc85 => ?_) (fun hc85 => ?_)))))
 exact absurd (ay hc85) (by omega)
 refine ac (j2 O Z Z (jf [103,69,67,66,14,13,12,11,10,9,8,6,0,1] Z (jn (aa O Z Z (fun hc103 => ?_) (fun hc103 => ?_)))))
 exact absurd (ay hc103) (by omega)
 refine ac (j2 O Z Z (jf [114,69,67,66,14,13,12,11,10,9,8,6,0,1] Z (jn (aa O Z Z (fun hc114 => ?_) (fun hc114 => ?_)))))
 exact absurd (ay hc114) (by omega)
 refine ac (j2 O Z Z (jf [125,69,67,66,14,13,12,11,10,9,8,6,0,1] Z (jn (aa O Z Z (fun hc125 => ?_) (fun hc125 => ?_)))))
 exact absurd (ay hc125) (by omega)
 refine ac (j2 O Z Z (jf [129,69,67,66,14,13,12,11,10,9,8,6,0,1] Z (jn (aa O Z Z (fun hc129 => ?_) (fun hc129 => ?_)))))
 exact absurd (ay hc129) (by omega)
 refine ak (ac (j2 O Z Z (jf [137,69,67,66,14,13,12,11,10,9,8,6,0,1] Z (jn (aa O Z Z (fun hc137 => ?_) (fun hc137 => ?_))))))
 exact absurd (ay hc137) (by omega)
 refine ae (j2 O Z Z (jn (aa O Z Z (fun hc137 => ?_) (fun hc137 => ?_))))
 refine ac (js O Z (AOps.step (az O Z Z (by omega)) Z Z Z (AOps.step (ao O (ex := [.int .i64 (pM x c 0)]) Z Z Z Z (hp0 (by omega)) Z) Z Z Z (js O Z (jf [15,139,69,67,66,14,13,12,11,10,9,8,6,0,1] Z (jn (ak (ac (js O Z (af O Z Z Z Z ((eK (x := pM x c 0) (lo := 0) (hi := 7) h1 h2).plain (u := eB true) (by rw [hw.1])) (ab Z) Z Z Z Z Z (B0 := 145000) Z (js O Z (jf [145,15,139,69,67,66,14,13,12,11,10,9,8,6,0,1] Z (jn (aa O Z Z (fun hc145 => ?_) (fun hc145 => ?_)))))))))))))))
 exact absurd hc145 (by decide)
 refine am (ac (j3 O Z Z Z (jf [148,15,139,69,67,66,14,13,12,11,10,9,8,6,0,1] Z (jn (aa O Z Z (fun hc148 => ?_) (fun hc148 => ?_))))))
 exact absurd (ay hc148) (by omega)
 refine ac (js O Z (AOps.step (az O Z Z (by omega)) Z Z Z (AOps.step (ao O (ex := [.int .i64 (pM x c 1)]) Z Z Z Z (hp1 (by omega)) Z) Z Z Z (jf [159,15,139,69,67,66,14,13,12,11,10,9,8,6,0,1] Z (af O Z Z Z Z ((mY (x := pM x c 1) h1 h2).plain (u := eB false) (by rw [hw.2])) (ab Z) Z Z Z Z Z (B0 := 161000) Z (js O Z (jf [161,15,139,69,67,66,14,13,12,11,10,9,8,6,0,1] Z (jn (aa O Z Z (fun hc161 => ?_) (fun hc161 => ?_))))))))))
 refine ac (j2 O Z Z (jr ?_))
 rw [show bc x c = 4 from by rw [ky hx, hw.1, hw.2]; rfl]
 refine ⟨.inl Z, _, ap, _, Z, Z, Z⟩
 exact absurd hc161 (by decide)
 exact absurd hx (bh hc137)
 obtain ⟨hx, hw⟩ := hf
 have hmv : mv x = (1, 0) := by rw [bK hx]; decide
 have hpk1 : pk = 1 := by rw [hmv] at hpm; exact Int.ofNat.inj hpm
 have hp0 : l + 0 < c.stack.length → (c.stack.map (fun n => [D.int .i64 n]))[l + 0]? = some [.int .i64 (pM x c 0)] := fun h => by have := bb (xs := c.stack) h rfl; rw [this]; unfold pM; rw [← hl]
 refine aq (ac (j2 O Z Z (jn (aa O Z Z (fun hc68 => ?_) (fun hc68 => ?_)))))
 exact absurd (ay hc68) (by omega)
 refine ac (j2 O Z Z (jf [70,69,67,66,14,13,12,11,10,9,8,6,0,1] Z (jn (aa O Z Z (fun hc70 => ?_) (fun hc70 => ?_)))))
 exact absurd (ay hc70) (by omega)
 refine ac (j2 O Z Z (jf [74,69,67,66,14,13,12,11,10,9,8,6,0,1] Z (jn (aa O Z Z (fun hc74 => ?_) (fun hc74 => ?_)))))
 exact absurd (ay hc74) (by omega)
 refine ac (j2 O Z Z (jf [85,69,67,66,14,13,12,11,10,9,8,6,0,1] Z (jn (aa O Z Z (fun hc85 => ?_) (fun hc85 => ?_)))))
 exact absurd (ay hc85) (by omega)
 refine ac (j2 O Z Z (jf [103,69,67,66,14,13,12,11,10,9,8,6,0,1] Z (jn (aa O Z Z (fun hc103 => ?_) (fun hc103 => ?_)))))
 exact absurd (ay hc103) (by omega)
 refine ac (j2 O Z Z (jf [114,69,67,66,14,13,12,11,10,9,8,6,0,1] Z (jn (aa O Z Z (fun hc114 => ?_) (fun hc114 => ?_)))))
 exact absurd (ay hc114) (by omega)
 refine ac (j2 O Z Z (jf [125,69,67,66,14,13,12,11,10,9,8,6,0,1] Z (jn (aa O Z Z (fun hc125 => ?_) (fun hc125 => ?_)))))
 exact absurd (ay hc125) (by omega)
 refine ac (j2 O Z Z (jf [129,69,67,66,14,13,12,11,10,9,8,6,0,1] Z (jn (aa O Z Z (fun hc129 => ?_) (fun hc129 => ?_)))))
 exact absurd (ay hc129) (by omega)
 refine ak (ac (j2 O Z Z (jf [137,69,67,66,14,13,12,11,10,9,8,6,0,1] Z (jn (aa O Z Z (fun hc137 => ?_) (fun hc137 => ?_))))))
 exact absurd (ay hc137) (by omega)
 refine ae (j2 O Z Z (jn (aa O Z Z (fun hc137 => ?_) (fun hc137 => ?_))))
 exact absurd (ay hc137) (by omega)
 refine ac (j2 O Z Z (jf [172,139,69,67,66,14,13,12,11,10,9,8,6,0,1] Z (jn (aa O Z Z (fun hc172 => ?_) (fun hc172 => ?_)))))
 exact absurd (ay hc172) (by omega)
 refine ac (j2 O Z Z (jf [176,139,69,67,66,14,13,12,11,10,9,8,6,0,1] Z (jn (aa O Z Z (fun hc176 => ?_) (fun hc176 => ?_)))))
 refine ac (js O Z (AOps.step (az O Z Z (by omega)) Z Z Z (AOps.step (ao O (ex := [.int .i64 (pM x c 0)]) Z Z Z Z (hp0 (by omega)) Z) Z Z Z (js O Z (jf [181,139,69,67,66,14,13,12,11,10,9,8,6,0,1] Z (jn (aa O Z Z (fun hc181 => ?_) (fun hc181 => ?_))))))))
 refine ac (j2 O Z Z (jr ?_))
 rw [show bc x c = 3 from by rw [jM hx, if_pos hw]]
 refine ⟨.inl Z, _, ap, _, Z, Z, Z⟩
 exact absurd hw (bh hc181)
 exact absurd hx (bh hc176)
def eF (code : List In) (s : Sx) : Rn := ⟨⟨s.vars, s.cells, [], 0⟩, [], List.replicate code.length 0, 0⟩
abbrev qp (R : Rn) : List (Nat × B) := [(0, cI R.c R.c.stack.length R.ev R.cnt R.out 1 2 3 4 5), (1, ah R.c.vars), (2, ah R.c.cells), (3, ah R.c.stack), (4, ah R.ev), (5, ah R.cnt)]
theorem bO {c : List In} (h : br c = true) : (∀ x ∈ c, av x = true) ∧ 1 ≤ c.length ∧ c.length ≤ 80 := by
 unfold br bW at h
 simp only [aY, decide_eq_true_eq, List.all_eq_true] at h
 exact ⟨h.1, by omega, by omega⟩
abbrev xM (code : List In) (c : Cf) : In := code.getD c.at_.toNat default
abbrev ly (code : List In) (c : Cf) : Prop := 0 ≤ c.at_ ∧ c.at_ < code.length
theorem l9 {code : List In} {r : Rn} : bA code 0 r = { r with out := 1 } := rfl
theorem jK {code : List In} {n : Nat} {r : Rn} (h : ¬ (ly code r.c ∧ cY (xM code r.c) r.c.stack.length = false)) : bA code (n + 1) r = { r with out := 5 } := by
 rw [bA, if_neg h]
theorem jJ {code : List In} {n : Nat} {r : Rn} (h : ly code r.c) (hl : cY (xM code r.c) r.c.stack.length = false) (ho : bc (xM code r.c) r.c = 6) : bA code (n + 1) r = r := by
 rw [bA, if_pos ⟨h, hl⟩, if_pos ho]
theorem jI {code : List In} {n : Nat} {r : Rn} (h : ly code r.c) (hl : cY (xM code r.c) r.c.stack.length = false) (h6 : bc (xM code r.c) r.c ≠ 6) (ho : bc (xM code r.c) r.c ≠ 0) : bA code (n + 1) r = { r with out := bc (xM code r.c) r.c } := by
 rw [bA, if_pos ⟨h, hl⟩, if_neg h6, if_pos ho]
def kT (code : List In) (r : Rn) : Rn := ⟨cH (xM code r.c) r.c, nk r.ev (dJ (xM code r.c)), r.cnt.set r.c.at_.toNat (r.cnt.getD r.c.at_.toNat default + 1), r.out⟩
theorem fz {code : List In} {n : Nat} {r : Rn} (h : ly code r.c) (hl : cY (xM code r.c) r.c.stack.length = false) (ho : bc (xM code r.c) r.c = 0) : bA code (n + 1) r = bA code n (kT code r) := by
 rw [bA, if_pos ⟨h, hl⟩, if_neg (by rw [ho]; decide), if_neg (by rw [ho]; simp)]; rfl
structure RnOk (code : List In) (F k : Nat) (r : Rn) : Prop where
  ok : COk r.c
  cl : r.cnt.length = code.length
  cb : ∀ n ∈ r.cnt, 0 ≤ n ∧ n + k ≤ F
  el : r.ev.length + k ≤ F
  kF : k ≤ F
theorem RnOk.zero {code : List In} {s : Sx} {F : Nat} (hs : lr s = true) : RnOk code F F (eF code s) := by
 unfold lr cf at hs
 simp only [aY, decide_eq_true_eq, List.all_eq_true] at hs
 refine ⟨⟨by show s.vars.length = 4; omega, by show s.cells.length = 8; omega, hs.1.1, hs.2.1, fun n hn => (by cases hn), by show (0 : Nat) ≤ 6; omega⟩, by simp [eF], fun n hn => ?_, by show 0 + F ≤ F; omega, cZ _⟩
 have := (List.mem_replicate.1 hn).2
 omega
theorem RnOk.next {code : List In} {F k : Nat} {r : Rn} (hc : br code = true) (h : RnOk code F (k + 1) r) (hi : ly code r.c) (hl : cY (xM code r.c) r.c.stack.length = false) (ho : bc (xM code r.c) r.c = 0) : RnOk code F k (kT code r) := by
  have hx : av (xM code r.c) = true := by
    unfold xM; rw [aM (by omega)]; exact (bO hc).1 _ (List.getElem_mem _)
  have h1 := h.cl
  have h2 := h.el
  have h3 := h.kF
  refine ⟨h.ok.next hx hl ho, by show (r.cnt.set _ _).length = _; rw [List.length_set, h1], fun n hn => ?_, ?_, by omega⟩
  · rcases List.mem_or_eq_of_mem_set hn with h4 | h4
    · have := h.cb n h4; omega
    · have := h.cb (r.cnt.getD r.c.at_.toNat default) (by rw [aM (by omega)]; exact List.getElem_mem _)
      omega
  · show (nk r.ev _).length + k ≤ F
    unfold nk; split
    · rw [cx, gb]; omega
    · omega
theorem kH {cnt : List Int} {i : Nat} (h : i < cnt.length) : (cnt.map (fun n => [D.int .i64 n])).set (0 + i) [.int .i64 (cnt.getD i default + 1)] = (cnt.set i (cnt.getD i default + 1)).map (fun n => [D.int .i64 n]) := by
 rw [Nat.zero_add, List.map_set]
theorem nD {s : Sx} {F : Nat} (hcb : br code = true) (hs : lr s = true) (hF2 : F ≤ 2000) : MQ h1 h2 24 [bf code, jE s, eI F] [] (bB (.tup [.c (.pt 0 0 0), eB true]) (qp (bA code F (eF code s)))) := by
 refine jB 85 h1 h2 Try.func24 Z Z Z fun O hF => ?_
 have hin := bO hcb
 have hix : ∀ {c : Cf}, ly code c → av (xM code c) = true := fun {c} h => by unfold xM; rw [aM (by omega)]; exact hin.1 _ (List.getElem_mem _)
 refine ac (jx O Z (au ?_))
 refine aF (Ent.freeze 4 (e' := [(4, _), (0, _), (1, _), (2, _)]) Z (.cons Z (.c (.box (cs := Sx.data s) Z (ba Z))) (fe [0,1,2] Z)) (.skip .nil)) ?_
 refine au ?_
 refine j2 O Z Z (jn (ak (ac (js O Z (af O Z Z Z Z ((lK (c := code) h1 h2).plain (u := eB true) (by rw [hcb])) (ab Z) Z Z Z Z Z (B0 := 14000) Z (j2 O Z Z (jf [15,7,6,4,0,1,2] Z (aV Z (js O Z (aV Z (af O Z Z Z Z ((qW (s := s) h1 h2).plain (u := eB true) (by rw [hs])) (ab Z) Z Z Z Z Z (B0 := 18000) Z (jf [17,15,7,6,4,0,1,2] Z (aV Z (js O Z (AOps.step (ax O Z Z Z Z Z) Z Z Z (js O Z (jf [20,7,6,4,0,1,2] Z (aV Z (js O Z (aV Z (af O Z Z Z Z ((eK (x := (F : Int)) (lo := 0) (hi := 2000) h1 h2).plain (u := eB true) (by unfold bW; simp; omega)) (ab Z) Z Z Z Z Z (B0 := 23000) Z (jf [22,20,7,6,4,0,1,2] Z (aV Z (js O Z (AOps.step (ax O Z Z Z Z Z) Z Z Z (jf [24,7,6,4,0,1,2] Z (jn (aa O Z Z (fun hc24 => ?_) (fun hc24 => ?_)))))))))))))))))))))))))))))
 ·
  skip
  exact absurd hc24 (by decide)
 ·
  skip
  refine am (ak (jw [7,6,4,0,1,2] Z (jdF O [_,_,_,_,_,_,_,_,_] [pn [] 0 0, pe [0] 0, pn [0,1] 1 1, pn [] 0 1, pn [3] 0 1, pn [3,4] 0 1, pn [0,1,2,3,4,5] 1 1, pe [0,1,2,3,4,5,6] 1, pn [0,1,2,3,4,5,6,7] 2 2] [1,7] 5 30 (.row true 1 (List.replicate (code.length : Int).toNat [.int .i64 0])) [_,_] [_] [[], []] (kf O Z Z Z (ai (ai (bo (cy (fh O (B0 := 27000) Z Z Z Z (o9 (v := s.vars) (c := s.cells) h1 h2) (ab Z) Z Z Z Z Z)) (cy (fh O (B0 := 27000) Z Z Z Z (o9 (v := s.vars) (c := s.cells) h1 h2) (ab Z) Z Z Z Z Z))) Z) (kf O Z Z Z (ai (kf O Z Z Z (kg O Z Z Z)) (ai (ai (ai (bo (bu O Z Z Z Z Z Z Z Z) (bu O Z Z Z Z Z Z Z Z)) Z) (ai (bo (bu O Z Z Z Z Z Z Z Z) (bu O Z Z Z Z Z Z Z Z)) Z)) (ai (ai (ai (cy (jp O Z Z Z Z Z Z Z Z Z (by first | omega | (simp at *; omega)) (by first | omega | (simp at *; omega)) (by first | omega | (simp at *; omega)) (by first | omega | (dsimp only; omega) | (simp only [bv] at *; omega)) (by first | omega | (simp at *; omega)) Z Z Z Z)) Z) (ai (cy (jp O Z Z Z Z Z Z Z Z Z (by first | omega | (simp at *; omega)) (by first | omega | (simp at *; omega)) (by first | omega | (simp at *; omega)) (by first | omega | (dsimp only; omega) | (simp only [bv] at *; omega)) (by first | omega | (simp at *; omega)) Z Z Z Z)) Z)) (ai (ai (bo trivial (V O Z)) Z) (ai (ai (bo trivial (cy (Eff.box O Z Z Z Z Z Z Z Z))) Z) (ai (ai (bo trivial (V O Z)) Z) trivial))))))))) ?_)))
  refine jw [8,7,6,4,0,1,2] Z (dw ?_)
  refine aq (aG (X := Nat × Rn) (fun x => ⟨[(0, bf code), (2, eI x.1), (8, .c (.pt 32 0 0))], [(32, cI x.2.c x.2.c.stack.length x.2.ev x.2.cnt x.2.out 901 902 903 904 905), (901, ah x.2.c.vars), (902, ah x.2.c.cells), (903, ah x.2.c.stack), (904, ah x.2.ev), (905, ah x.2.cnt)]⟩) (fun x => RnOk code F x.1 x.2 ∧ bA code F (eF code s) = bA code x.1 x.2) (fun x => x.1) (F, eF code s) ((((((aN [32,27000,27001,30] (e' := [(0, _), (2, _), (8, _)]) Z Z ⟨Z, Z, Z, trivial⟩ Z).trans (aj 27000 901 Z Z)).trans (aj 27001 902 Z Z)).trans (aj 30 905 Z Z)).trans ((fW 32 903 1 true 2 Z Z Z).trans (fW 32 904 1 true 4 Z Z Z))).trans (Ent.to ⟨Z, Z, Z, trivial⟩ (by show _ = [(32, cI (eF code s).c (eF code s).c.stack.length (eF code s).ev (eF code s).cnt (eF code s).out 901 902 903 904 905), (901, ah s.vars), (902, ah s.cells), (903, ah []), (904, ah []), (905, ah (List.replicate code.length 0))]; simp only [cI, eF, List.length_replicate, ah, List.map_replicate]; rfl))) ?_ (fun x hi => ?_))
  ·
   exact ⟨RnOk.zero hs, Z⟩
  refine ak (aq (ak (ac (j2 O Z Z (jn (aa O Z Z (fun hc36 => ?_) (fun hc36 => ?_)))))))
  ·
   skip
   refine ac (j3 O Z Z Z (jf [39,36,35,0,2,8] Z (jo O Z (au ?_))))
   refine aW (j3 O Z Z Z (jr ?_))
   rw [hi.2, show x.1 = 0 by have := ay hc36; omega, l9]
   refine ⟨.inl Z, _, ((((((aj 32 0 Z Z).trans (aj 901 1 Z Z)).trans (aj 902 2 Z Z)).trans (aj 903 3 Z Z)).trans (aj 904 4 Z Z)).trans (aj 905 5 Z Z)), _, Z, Z, Z⟩
  ·
   skip
   refine am (ac ?_)
   obtain ⟨k, hk⟩ : ∃ k, x.1 = k + 1 := ⟨x.1 - 1, by have := bh hc36; omega⟩
   have hkF := hi.1.kF
   have hcl := hi.1.cl
   refine j4 O Z Z Z Z (j2 O Z Z (jf [9,36,35,0,2,8] Z (aW ?_)))
   cases hb47 : bW 0 ((code.length : Int) - 1) x.2.c.at_ with
   | true =>
    have hat : ly code x.2.c := eZ.1 hb47
    refine js O Z ?_
    cases hb48 : cY (xM code x.2.c) x.2.c.stack.length with
    | true =>
     have hlow := hb48
     refine j3 O Z Z Z (jf [50,49,9,36,35,0,2,8] Z ?_)
     first | refine al O [32,901,902,903,904,905] (bin := [cI x.2.c x.2.c.stack.length x.2.ev x.2.cnt x.2.out 1 2 3 4 5, ah x.2.c.vars, ah x.2.c.cells, ah x.2.c.stack, ah x.2.ev, ah x.2.cnt]) Z Z Z Z (gm (code := code) (c := x.2.c) (x := (xM code x.2.c)) (ev := x.2.ev) (cnt := x.2.cnt) (o := x.2.out) h1 h2 hi.1.ok (by omega) (hix hat) hat Z hlow) Z Z Z Z Z Z (B0 := 52000) Z Z ?_ | refine al O [32,901,902,903,904,905] (bin := [cI x.2.c x.2.c.stack.length x.2.ev x.2.cnt x.2.out 1 2 3 4 5, ah x.2.c.vars, ah x.2.c.cells, ah x.2.c.stack, ah x.2.ev, ah x.2.cnt]) Z Z Z Z (gj (code := code) (c := x.2.c) (x := (xM code x.2.c)) (ev := x.2.ev) (cnt := x.2.cnt) (o := x.2.out) h1 h2 hi.1.ok (by omega) (hix hat) hat Z hlo hou hpu) Z Z Z Z Z Z (B0 := 52000) Z Z ?_ | refine al O [32,901,902,903,904,905] (bin := [cI x.2.c x.2.c.stack.length x.2.ev x.2.cnt x.2.out 1 2 3 4 5, ah x.2.c.vars, ah x.2.c.cells, ah x.2.c.stack, ah x.2.ev, ah x.2.cnt]) Z Z Z Z (gl (code := code) (c := x.2.c) (x := (xM code x.2.c)) (ev := x.2.ev) (cnt := x.2.cnt) (o := x.2.out) h1 h2 hi.1.ok (by omega) (hix hat) hat Z hlo hou hpu') Z Z Z Z Z Z (B0 := 52000) Z Z ?_ | refine al O [32,901,902,903,904,905] (bin := [cI x.2.c x.2.c.stack.length x.2.ev x.2.cnt x.2.out 1 2 3 4 5, ah x.2.c.vars, ah x.2.c.cells, ah x.2.c.stack, ah x.2.ev, ah x.2.cnt]) Z Z Z Z (gn (code := code) (c := x.2.c) (x := (xM code x.2.c)) (ev := x.2.ev) (cnt := x.2.cnt) (o := x.2.out) h1 h2 hi.1.ok (by omega) (hix hat) hat Z hlo hou') Z Z Z Z Z Z (B0 := 52000) Z Z ?_ | refine al O [32,901,902,903,904,905] (bin := [cI x.2.c x.2.c.stack.length x.2.ev x.2.cnt x.2.out 1 2 3 4 5, ah x.2.c.vars, ah x.2.c.cells, ah x.2.c.stack, ah x.2.ev, ah x.2.cnt]) Z Z Z Z (gk (code := code) (c := x.2.c) (ev := x.2.ev) (cnt := x.2.cnt) (o := x.2.out) h1 h2 (by omega) hat') Z Z Z Z Z Z (B0 := 52000) Z Z ?_
     refine au ?_
     refine j4 O Z Z Z Z (js O Z (jf [11,10,9,36,35,0,2,8] Z (jn (ak (ac (j2 O Z Z (jn (aa O Z Z (fun hc55 => ?_) (fun hc55 => ?_)))))))))
     ·
      skip
      exact absurd hc55 (by decide)
     ·
      skip
      refine am (ak (ac (j2 O Z Z (jn (aa O Z Z (fun hc58 => ?_) (fun hc58 => ?_))))))
      ·
       skip
       refine ac (j4 O Z Z Z Z (jf [62,60,58,57,55,54,11,10,9,36,35,0,2,8] Z (jo O Z (au ?_))))
       refine jf [58,57,55,54,11,10,9,36,35,0,2,8] Z (aW (j3 O Z Z Z (jr ?_)))
       rw [hi.2, hk, jK (fun h => by rw [hlow] at h; cases h.2)]
       refine ⟨.inl Z, _, ((((((aj 32 0 Z Z).trans (aj 901 1 Z Z)).trans (aj 902 2 Z Z)).trans (aj 903 3 Z Z)).trans (aj 904 4 Z Z)).trans (aj 905 5 Z Z)), _, Z, Z, Z⟩
      ·
       skip
       exact absurd hc58 (by decide)
    | false =>
     have hlo := hb48
     refine js O Z ?_
     cases hb49 : decide (bc (xM code x.2.c) x.2.c = 0) with
     | true =>
      have hou := ay hb49
      refine js O Z ?_
      cases hb50 : decide (0 < (mv (xM code x.2.c)).2) with
      | true =>
       have hpu := ay hb50
       refine js O Z (jf [50,49,9,36,35,0,2,8] Z ?_)
       first | refine al O [32,901,902,903,904,905] (bin := [cI x.2.c x.2.c.stack.length x.2.ev x.2.cnt x.2.out 1 2 3 4 5, ah x.2.c.vars, ah x.2.c.cells, ah x.2.c.stack, ah x.2.ev, ah x.2.cnt]) Z Z Z Z (gm (code := code) (c := x.2.c) (x := (xM code x.2.c)) (ev := x.2.ev) (cnt := x.2.cnt) (o := x.2.out) h1 h2 hi.1.ok (by omega) (hix hat) hat Z hlow) Z Z Z Z Z Z (B0 := 52000) Z Z ?_ | refine al O [32,901,902,903,904,905] (bin := [cI x.2.c x.2.c.stack.length x.2.ev x.2.cnt x.2.out 1 2 3 4 5, ah x.2.c.vars, ah x.2.c.cells, ah x.2.c.stack, ah x.2.ev, ah x.2.cnt]) Z Z Z Z (gj (code := code) (c := x.2.c) (x := (xM code x.2.c)) (ev := x.2.ev) (cnt := x.2.cnt) (o := x.2.out) h1 h2 hi.1.ok (by omega) (hix hat) hat Z hlo hou hpu) Z Z Z Z Z Z (B0 := 52000) Z Z ?_ | refine al O [32,901,902,903,904,905] (bin := [cI x.2.c x.2.c.stack.length x.2.ev x.2.cnt x.2.out 1 2 3 4 5, ah x.2.c.vars, ah x.2.c.cells, ah x.2.c.stack, ah x.2.ev, ah x.2.cnt]) Z Z Z Z (gl (code := code) (c := x.2.c) (x := (xM code x.2.c)) (ev := x.2.ev) (cnt := x.2.cnt) (o := x.2.out) h1 h2 hi.1.ok (by omega) (hix hat) hat Z hlo hou hpu') Z Z Z Z Z Z (B0 := 52000) Z Z ?_ | refine al O [32,901,902,903,904,905] (bin := [cI x.2.c x.2.c.stack.length x.2.ev x.2.cnt x.2.out 1 2 3 4 5, ah x.2.c.vars, ah x.2.c.cells, ah x.2.c.stack, ah x.2.ev, ah x.2.cnt]) Z Z Z Z (gn (code := code) (c := x.2.c) (x := (xM code x.2.c)) (ev := x.2.ev) (cnt := x.2.cnt) (o := x.2.out) h1 h2 hi.1.ok (by omega) (hix hat) hat Z hlo hou') Z Z Z Z Z Z (B0 := 52000) Z Z ?_ | refine al O [32,901,902,903,904,905] (bin := [cI x.2.c x.2.c.stack.length x.2.ev x.2.cnt x.2.out 1 2 3 4 5, ah x.2.c.vars, ah x.2.c.cells, ah x.2.c.stack, ah x.2.ev, ah x.2.cnt]) Z Z Z Z (gk (code := code) (c := x.2.c) (ev := x.2.ev) (cnt := x.2.cnt) (o := x.2.out) h1 h2 (by omega) hat') Z Z Z Z Z Z (B0 := 52000) Z Z ?_
       refine au ?_
       refine j4 O Z Z Z Z (js O Z (jf [11,10,9,36,35,0,2,8] Z (jn (ak (ac (j2 O Z Z (jn (aa O Z Z (fun hc55 => ?_) (fun hc55 => ?_)))))))))
       ·
        skip
        exact absurd hc55 (by decide)
       ·
        skip
        refine am (ak (ac (j2 O Z Z (jn (aa O Z Z (fun hc58 => ?_) (fun hc58 => ?_))))))
        ·
         skip
         exact absurd hc58 (by decide)
        ·
         skip
         refine am (ac (j4 O Z Z Z Z (js O Z ?_)))
         have hel := hi.1.el
         have hcb2 := hi.1.cb (x.2.cnt.getD x.2.c.at_.toNat default) (by rw [aM (by omega)]; exact List.getElem_mem _)
         refine AOps.step (az O Z Z (by omega)) Z Z Z (AOps.step (ao O (ex := [.int .i64 (x.2.cnt.getD x.2.c.at_.toNat default)]) Z Z Z Z (bb (by omega) (Nat.zero_add _)) Z) Z Z Z (AOps.step (ag O Z Z (by omega) (by omega)) Z Z Z (AOps.step (az O Z Z (by omega)) Z Z Z (jf [72,71,58,57,55,54,11,10,36,35,0,2,8] Z (AOps.heap (bd (ex := [.int .i64 (x.2.cnt.getD x.2.c.at_.toNat default)]) (xs' := (x.2.cnt.set x.2.c.at_.toNat (x.2.cnt.getD x.2.c.at_.toNat default + 1)).map (fun n => [D.int .i64 n])) O Z Z Z Z Z Z Z Z Z Z Z Z Z Z (bb (by omega) (Nat.zero_add _)) (kH (by omega))) Z (au ?_))))))
         refine au ?_
         refine jf [58,57,55,54,11,10,36,35,0,2,8] Z (aW (j2 O Z Z (jn (aa O Z Z (fun hc74 => ?_) (fun hc74 => ?_)))))
         ·
          skip
          refine ae (j4 O Z Z Z Z (j2 O Z Z (jf [80,79,75,74,73,58,57,55,54,11,10,36,35,0,2,8] Z (AOps.heap (bg O Z Z Z) Z (au ?_)))))
          refine jf [81,79,75,74,73,58,57,55,54,11,10,36,35,0,2,8] Z (AOps.heap (aO (zs := (x.2.ev ++ [dJ (xM code x.2.c)]).map (fun n => [D.int .i64 n])) (n := x.2.ev.length + 1) O Z Z Z Z Z Z Z Z Z Z Z Z Z Z Z Z (.row Z (dE _).symm) Z Z (by decide) Z (by simp; omega) (by simp; omega) (by rw [List.map_append]; rfl) (by simp)) Z (au ?_))
          refine au ?_
          refine j2 O Z Z (jf [84,82,74,73,58,57,55,54,11,10,36,35,0,2,8] Z (jo O Z (au ?_)))
          refine jf [74,73,58,57,55,54,11,10,36,35,0,2,8] Z (jn (ae (js O Z (AOps.step ((ag O Z Z (by omega) (by omega)).cast (v' := eI ((k : Nat) : Int)) (congrArg eI (by omega))) Z Z Z (js O Z (jf [2,74,73,58,57,55,54,11,10,36,35,0,8] Z (jn ?_)))))))
          have hN := hi.1
          rw [hk] at hN
          have hN2 := hN.next hcb hat hlo hou
          have hrun := hi.2
          rw [hk, fz hat hlo hou] at hrun
          have hE : nk x.2.ev (dJ (xM code x.2.c)) = x.2.ev ++ [dJ (xM code x.2.c)] := if_pos (show 0 ≤ dJ (xM code x.2.c) from ay hc74)
          have hR : kT code x.2 = ⟨cH (xM code x.2.c) x.2.c, x.2.ev ++ [dJ (xM code x.2.c)], x.2.cnt.set x.2.c.at_.toNat (x.2.cnt.getD x.2.c.at_.toNat default + 1), x.2.out⟩ := by unfold kT; rw [hE]
          rw [hR] at hrun hN2
          refine ⟨(k, ⟨cH (xM code x.2.c) x.2.c, x.2.ev ++ [dJ (xM code x.2.c)], x.2.cnt.set x.2.c.at_.toNat (x.2.cnt.getD x.2.c.at_.toNat default + 1), x.2.out⟩), (((aN [32,901,902,52006,82,905] (e' := [(0, _), (2, _), (8, _)]) Z Z ⟨Z, Z, Z, trivial⟩ Z).trans (aj 52006 903 Z Z)).trans (aj 82 904 Z Z)).trans (Ent.to ⟨Z, Z, Z, trivial⟩ (by simp only [cI, List.length_set, cx, gb] <;> rfl)), ⟨hN2, hrun⟩, by show k < x.1; omega⟩
         ·
          skip
          refine am (ae (js O Z (AOps.step ((ag O Z Z (by omega) (by omega)).cast (v' := eI ((k : Nat) : Int)) (congrArg eI (by omega))) Z Z Z (js O Z (jf [2,74,73,58,57,55,54,11,10,36,35,0,8] Z (jn ?_))))))
          have hN := hi.1
          rw [hk] at hN
          have hN2 := hN.next hcb hat hlo hou
          have hrun := hi.2
          rw [hk, fz hat hlo hou] at hrun
          have hE : nk x.2.ev (dJ (xM code x.2.c)) = x.2.ev := if_neg (show ¬ 0 ≤ dJ (xM code x.2.c) from bh hc74)
          have hR : kT code x.2 = ⟨cH (xM code x.2.c) x.2.c, x.2.ev, x.2.cnt.set x.2.c.at_.toNat (x.2.cnt.getD x.2.c.at_.toNat default + 1), x.2.out⟩ := by unfold kT; rw [hE]
          rw [hR] at hrun hN2
          refine ⟨(k, ⟨cH (xM code x.2.c) x.2.c, x.2.ev, x.2.cnt.set x.2.c.at_.toNat (x.2.cnt.getD x.2.c.at_.toNat default + 1), x.2.out⟩), ((aN [32,901,902,52006,904,905] (e' := [(0, _), (2, _), (8, _)]) Z Z ⟨Z, Z, Z, trivial⟩ Z).trans (aj 52006 903 Z Z)).trans (Ent.to ⟨Z, Z, Z, trivial⟩ (by simp only [cI, List.length_set, cx, gb] <;> rfl)), ⟨hN2, hrun⟩, by show k < x.1; omega⟩
      | false =>
       have hpu' := bh hb50
       refine js O Z (jf [50,49,9,36,35,0,2,8] Z ?_)
       first | refine al O [32,901,902,903,904,905] (bin := [cI x.2.c x.2.c.stack.length x.2.ev x.2.cnt x.2.out 1 2 3 4 5, ah x.2.c.vars, ah x.2.c.cells, ah x.2.c.stack, ah x.2.ev, ah x.2.cnt]) Z Z Z Z (gm (code := code) (c := x.2.c) (x := (xM code x.2.c)) (ev := x.2.ev) (cnt := x.2.cnt) (o := x.2.out) h1 h2 hi.1.ok (by omega) (hix hat) hat Z hlow) Z Z Z Z Z Z (B0 := 52000) Z Z ?_ | refine al O [32,901,902,903,904,905] (bin := [cI x.2.c x.2.c.stack.length x.2.ev x.2.cnt x.2.out 1 2 3 4 5, ah x.2.c.vars, ah x.2.c.cells, ah x.2.c.stack, ah x.2.ev, ah x.2.cnt]) Z Z Z Z (gj (code := code) (c := x.2.c) (x := (xM code x.2.c)) (ev := x.2.ev) (cnt := x.2.cnt) (o := x.2.out) h1 h2 hi.1.ok (by omega) (hix hat) hat Z hlo hou hpu) Z Z Z Z Z Z (B0 := 52000) Z Z ?_ | refine al O [32,901,902,903,904,905] (bin := [cI x.2.c x.2.c.stack.length x.2.ev x.2.cnt x.2.out 1 2 3 4 5, ah x.2.c.vars, ah x.2.c.cells, ah x.2.c.stack, ah x.2.ev, ah x.2.cnt]) Z Z Z Z (gl (code := code) (c := x.2.c) (x := (xM code x.2.c)) (ev := x.2.ev) (cnt := x.2.cnt) (o := x.2.out) h1 h2 hi.1.ok (by omega) (hix hat) hat Z hlo hou hpu') Z Z Z Z Z Z (B0 := 52000) Z Z ?_ | refine al O [32,901,902,903,904,905] (bin := [cI x.2.c x.2.c.stack.length x.2.ev x.2.cnt x.2.out 1 2 3 4 5, ah x.2.c.vars, ah x.2.c.cells, ah x.2.c.stack, ah x.2.ev, ah x.2.cnt]) Z Z Z Z (gn (code := code) (c := x.2.c) (x := (xM code x.2.c)) (ev := x.2.ev) (cnt := x.2.cnt) (o := x.2.out) h1 h2 hi.1.ok (by omega) (hix hat) hat Z hlo hou') Z Z Z Z Z Z (B0 := 52000) Z Z ?_ | refine al O [32,901,902,903,904,905] (bin := [cI x.2.c x.2.c.stack.length x.2.ev x.2.cnt x.2.out 1 2 3 4 5, ah x.2.c.vars, ah x.2.c.cells, ah x.2.c.stack, ah x.2.ev, ah x.2.cnt]) Z Z Z Z (gk (code := code) (c := x.2.c) (ev := x.2.ev) (cnt := x.2.cnt) (o := x.2.out) h1 h2 (by omega) hat') Z Z Z Z Z Z (B0 := 52000) Z Z ?_
       refine au ?_
       refine j4 O Z Z Z Z (js O Z (jf [11,10,9,36,35,0,2,8] Z (jn (ak (ac (j2 O Z Z (jn (aa O Z Z (fun hc55 => ?_) (fun hc55 => ?_)))))))))
       ·
        skip
        exact absurd hc55 (by decide)
       ·
        skip
        refine am (ak (ac (j2 O Z Z (jn (aa O Z Z (fun hc58 => ?_) (fun hc58 => ?_))))))
        ·
         skip
         exact absurd hc58 (by decide)
        ·
         skip
         refine am (ac (j4 O Z Z Z Z (js O Z ?_)))
         have hel := hi.1.el
         have hcb2 := hi.1.cb (x.2.cnt.getD x.2.c.at_.toNat default) (by rw [aM (by omega)]; exact List.getElem_mem _)
         refine AOps.step (az O Z Z (by omega)) Z Z Z (AOps.step (ao O (ex := [.int .i64 (x.2.cnt.getD x.2.c.at_.toNat default)]) Z Z Z Z (bb (by omega) (Nat.zero_add _)) Z) Z Z Z (AOps.step (ag O Z Z (by omega) (by omega)) Z Z Z (AOps.step (az O Z Z (by omega)) Z Z Z (jf [72,71,58,57,55,54,11,10,36,35,0,2,8] Z (AOps.heap (bd (ex := [.int .i64 (x.2.cnt.getD x.2.c.at_.toNat default)]) (xs' := (x.2.cnt.set x.2.c.at_.toNat (x.2.cnt.getD x.2.c.at_.toNat default + 1)).map (fun n => [D.int .i64 n])) O Z Z Z Z Z Z Z Z Z Z Z Z Z Z (bb (by omega) (Nat.zero_add _)) (kH (by omega))) Z (au ?_))))))
         refine au ?_
         refine jf [58,57,55,54,11,10,36,35,0,2,8] Z (aW (j2 O Z Z (jn (aa O Z Z (fun hc74 => ?_) (fun hc74 => ?_)))))
         ·
          skip
          refine ae (j4 O Z Z Z Z (j2 O Z Z (jf [80,79,75,74,73,58,57,55,54,11,10,36,35,0,2,8] Z (AOps.heap (bg O Z Z Z) Z (au ?_)))))
          refine jf [81,79,75,74,73,58,57,55,54,11,10,36,35,0,2,8] Z (AOps.heap (aO (zs := (x.2.ev ++ [dJ (xM code x.2.c)]).map (fun n => [D.int .i64 n])) (n := x.2.ev.length + 1) O Z Z Z Z Z Z Z Z Z Z Z Z Z Z Z Z (.row Z (dE _).symm) Z Z (by decide) Z (by simp; omega) (by simp; omega) (by rw [List.map_append]; rfl) (by simp)) Z (au ?_))
          refine au ?_
          refine j2 O Z Z (jf [84,82,74,73,58,57,55,54,11,10,36,35,0,2,8] Z (jo O Z (au ?_)))
          refine jf [74,73,58,57,55,54,11,10,36,35,0,2,8] Z (jn (ae (js O Z (AOps.step ((ag O Z Z (by omega) (by omega)).cast (v' := eI ((k : Nat) : Int)) (congrArg eI (by omega))) Z Z Z (js O Z (jf [2,74,73,58,57,55,54,11,10,36,35,0,8] Z (jn ?_)))))))
          have hN := hi.1
          rw [hk] at hN
          have hN2 := hN.next hcb hat hlo hou
          have hrun := hi.2
          rw [hk, fz hat hlo hou] at hrun
          have hE : nk x.2.ev (dJ (xM code x.2.c)) = x.2.ev ++ [dJ (xM code x.2.c)] := if_pos (show 0 ≤ dJ (xM code x.2.c) from ay hc74)
          have hR : kT code x.2 = ⟨cH (xM code x.2.c) x.2.c, x.2.ev ++ [dJ (xM code x.2.c)], x.2.cnt.set x.2.c.at_.toNat (x.2.cnt.getD x.2.c.at_.toNat default + 1), x.2.out⟩ := by unfold kT; rw [hE]
          rw [hR] at hrun hN2
          refine ⟨(k, ⟨cH (xM code x.2.c) x.2.c, x.2.ev ++ [dJ (xM code x.2.c)], x.2.cnt.set x.2.c.at_.toNat (x.2.cnt.getD x.2.c.at_.toNat default + 1), x.2.out⟩), ((aN [32,901,902,903,82,905] (e' := [(0, _), (2, _), (8, _)]) Z Z ⟨Z, Z, Z, trivial⟩ Z).trans (aj 82 904 Z Z)).trans (Ent.to ⟨Z, Z, Z, trivial⟩ (by simp only [cI, List.length_set, cx, gb] <;> rfl)), ⟨hN2, hrun⟩, by show k < x.1; omega⟩
         ·
          skip
          refine am (ae (js O Z (AOps.step ((ag O Z Z (by omega) (by omega)).cast (v' := eI ((k : Nat) : Int)) (congrArg eI (by omega))) Z Z Z (js O Z (jf [2,74,73,58,57,55,54,11,10,36,35,0,8] Z (jn ?_))))))
          have hN := hi.1
          rw [hk] at hN
          have hN2 := hN.next hcb hat hlo hou
          have hrun := hi.2
          rw [hk, fz hat hlo hou] at hrun
          have hE : nk x.2.ev (dJ (xM code x.2.c)) = x.2.ev := if_neg (show ¬ 0 ≤ dJ (xM code x.2.c) from bh hc74)
          have hR : kT code x.2 = ⟨cH (xM code x.2.c) x.2.c, x.2.ev, x.2.cnt.set x.2.c.at_.toNat (x.2.cnt.getD x.2.c.at_.toNat default + 1), x.2.out⟩ := by unfold kT; rw [hE]
          rw [hR] at hrun hN2
          refine ⟨(k, ⟨cH (xM code x.2.c) x.2.c, x.2.ev, x.2.cnt.set x.2.c.at_.toNat (x.2.cnt.getD x.2.c.at_.toNat default + 1), x.2.out⟩), (aN [32,901,902,903,904,905] (e' := [(0, _), (2, _), (8, _)]) Z Z ⟨Z, Z, Z, trivial⟩ Z).trans (Ent.to ⟨Z, Z, Z, trivial⟩ (by simp only [cI, List.length_set, cx, gb] <;> rfl)), ⟨hN2, hrun⟩, by show k < x.1; omega⟩
     | false =>
      have hou' := bh hb49
      refine j2 O Z Z (jf [50,49,9,36,35,0,2,8] Z ?_)
      first | refine al O [32,901,902,903,904,905] (bin := [cI x.2.c x.2.c.stack.length x.2.ev x.2.cnt x.2.out 1 2 3 4 5, ah x.2.c.vars, ah x.2.c.cells, ah x.2.c.stack, ah x.2.ev, ah x.2.cnt]) Z Z Z Z (gm (code := code) (c := x.2.c) (x := (xM code x.2.c)) (ev := x.2.ev) (cnt := x.2.cnt) (o := x.2.out) h1 h2 hi.1.ok (by omega) (hix hat) hat Z hlow) Z Z Z Z Z Z (B0 := 52000) Z Z ?_ | refine al O [32,901,902,903,904,905] (bin := [cI x.2.c x.2.c.stack.length x.2.ev x.2.cnt x.2.out 1 2 3 4 5, ah x.2.c.vars, ah x.2.c.cells, ah x.2.c.stack, ah x.2.ev, ah x.2.cnt]) Z Z Z Z (gj (code := code) (c := x.2.c) (x := (xM code x.2.c)) (ev := x.2.ev) (cnt := x.2.cnt) (o := x.2.out) h1 h2 hi.1.ok (by omega) (hix hat) hat Z hlo hou hpu) Z Z Z Z Z Z (B0 := 52000) Z Z ?_ | refine al O [32,901,902,903,904,905] (bin := [cI x.2.c x.2.c.stack.length x.2.ev x.2.cnt x.2.out 1 2 3 4 5, ah x.2.c.vars, ah x.2.c.cells, ah x.2.c.stack, ah x.2.ev, ah x.2.cnt]) Z Z Z Z (gl (code := code) (c := x.2.c) (x := (xM code x.2.c)) (ev := x.2.ev) (cnt := x.2.cnt) (o := x.2.out) h1 h2 hi.1.ok (by omega) (hix hat) hat Z hlo hou hpu') Z Z Z Z Z Z (B0 := 52000) Z Z ?_ | refine al O [32,901,902,903,904,905] (bin := [cI x.2.c x.2.c.stack.length x.2.ev x.2.cnt x.2.out 1 2 3 4 5, ah x.2.c.vars, ah x.2.c.cells, ah x.2.c.stack, ah x.2.ev, ah x.2.cnt]) Z Z Z Z (gn (code := code) (c := x.2.c) (x := (xM code x.2.c)) (ev := x.2.ev) (cnt := x.2.cnt) (o := x.2.out) h1 h2 hi.1.ok (by omega) (hix hat) hat Z hlo hou') Z Z Z Z Z Z (B0 := 52000) Z Z ?_ | refine al O [32,901,902,903,904,905] (bin := [cI x.2.c x.2.c.stack.length x.2.ev x.2.cnt x.2.out 1 2 3 4 5, ah x.2.c.vars, ah x.2.c.cells, ah x.2.c.stack, ah x.2.ev, ah x.2.cnt]) Z Z Z Z (gk (code := code) (c := x.2.c) (ev := x.2.ev) (cnt := x.2.cnt) (o := x.2.out) h1 h2 (by omega) hat') Z Z Z Z Z Z (B0 := 52000) Z Z ?_
      refine au ?_
      refine j4 O Z Z Z Z (js O Z (jf [11,10,9,36,35,0,2,8] Z (jn (ak (ac (j2 O Z Z (jn (aa O Z Z (fun hc55 => ?_) (fun hc55 => ?_)))))))))
      ·
       skip
       refine ac (j3 O Z Z Z (jr ?_))
       rw [hi.2, hk, jJ hat hlo (ay hc55)]
       refine ⟨.inl Z, _, ((((((aj 32 0 Z Z).trans (aj 901 1 Z Z)).trans (aj 902 2 Z Z)).trans (aj 903 3 Z Z)).trans (aj 904 4 Z Z)).trans (aj 905 5 Z Z)), _, Z, Z, Z⟩
      ·
       skip
       refine am (ak (ac (j2 O Z Z (jn (aa O Z Z (fun hc58 => ?_) (fun hc58 => ?_))))))
       ·
        skip
        refine ac (j4 O Z Z Z Z (jf [62,60,58,57,55,54,11,10,9,36,35,0,2,8] Z (jo O Z (au ?_))))
        refine jf [58,57,55,54,11,10,9,36,35,0,2,8] Z (aW (j3 O Z Z Z (jr ?_)))
        rw [hi.2, hk, jI hat hlo (bh hc55) hou']
        refine ⟨.inl Z, _, ((((((aj 32 0 Z Z).trans (aj 901 1 Z Z)).trans (aj 902 2 Z Z)).trans (aj 903 3 Z Z)).trans (aj 904 4 Z Z)).trans (aj 905 5 Z Z)), _, Z, Z, Z⟩
       ·
        skip
        exact absurd (by simpa using hc58) hou'
   | false =>
    have hat' : ¬ (0 ≤ x.2.c.at_ ∧ x.2.c.at_ < code.length) := fun h => by rw [eZ.2 h] at hb47; cases hb47
    refine j4 O Z Z Z Z (jf [50,49,9,36,35,0,2,8] Z ?_)
    first | refine al O [32,901,902,903,904,905] (bin := [cI x.2.c x.2.c.stack.length x.2.ev x.2.cnt x.2.out 1 2 3 4 5, ah x.2.c.vars, ah x.2.c.cells, ah x.2.c.stack, ah x.2.ev, ah x.2.cnt]) Z Z Z Z (gm (code := code) (c := x.2.c) (x := (xM code x.2.c)) (ev := x.2.ev) (cnt := x.2.cnt) (o := x.2.out) h1 h2 hi.1.ok (by omega) (hix hat) hat Z hlow) Z Z Z Z Z Z (B0 := 52000) Z Z ?_ | refine al O [32,901,902,903,904,905] (bin := [cI x.2.c x.2.c.stack.length x.2.ev x.2.cnt x.2.out 1 2 3 4 5, ah x.2.c.vars, ah x.2.c.cells, ah x.2.c.stack, ah x.2.ev, ah x.2.cnt]) Z Z Z Z (gj (code := code) (c := x.2.c) (x := (xM code x.2.c)) (ev := x.2.ev) (cnt := x.2.cnt) (o := x.2.out) h1 h2 hi.1.ok (by omega) (hix hat) hat Z hlo hou hpu) Z Z Z Z Z Z (B0 := 52000) Z Z ?_ | refine al O [32,901,902,903,904,905] (bin := [cI x.2.c x.2.c.stack.length x.2.ev x.2.cnt x.2.out 1 2 3 4 5, ah x.2.c.vars, ah x.2.c.cells, ah x.2.c.stack, ah x.2.ev, ah x.2.cnt]) Z Z Z Z (gl (code := code) (c := x.2.c) (x := (xM code x.2.c)) (ev := x.2.ev) (cnt := x.2.cnt) (o := x.2.out) h1 h2 hi.1.ok (by omega) (hix hat) hat Z hlo hou hpu') Z Z Z Z Z Z (B0 := 52000) Z Z ?_ | refine al O [32,901,902,903,904,905] (bin := [cI x.2.c x.2.c.stack.length x.2.ev x.2.cnt x.2.out 1 2 3 4 5, ah x.2.c.vars, ah x.2.c.cells, ah x.2.c.stack, ah x.2.ev, ah x.2.cnt]) Z Z Z Z (gn (code := code) (c := x.2.c) (x := (xM code x.2.c)) (ev := x.2.ev) (cnt := x.2.cnt) (o := x.2.out) h1 h2 hi.1.ok (by omega) (hix hat) hat Z hlo hou') Z Z Z Z Z Z (B0 := 52000) Z Z ?_ | refine al O [32,901,902,903,904,905] (bin := [cI x.2.c x.2.c.stack.length x.2.ev x.2.cnt x.2.out 1 2 3 4 5, ah x.2.c.vars, ah x.2.c.cells, ah x.2.c.stack, ah x.2.ev, ah x.2.cnt]) Z Z Z Z (gk (code := code) (c := x.2.c) (ev := x.2.ev) (cnt := x.2.cnt) (o := x.2.out) h1 h2 (by omega) hat') Z Z Z Z Z Z (B0 := 52000) Z Z ?_
    refine au ?_
    refine j4 O Z Z Z Z (js O Z (jf [11,10,9,36,35,0,2,8] Z (jn (ak (ac (j2 O Z Z (jn (aa O Z Z (fun hc55 => ?_) (fun hc55 => ?_)))))))))
    ·
     skip
     exact absurd hc55 (by decide)
    ·
     skip
     refine am (ak (ac (j2 O Z Z (jn (aa O Z Z (fun hc58 => ?_) (fun hc58 => ?_))))))
     ·
      skip
      refine ac (j4 O Z Z Z Z (jf [62,60,58,57,55,54,11,10,9,36,35,0,2,8] Z (jo O Z (au ?_))))
      refine jf [58,57,55,54,11,10,9,36,35,0,2,8] Z (aW (j3 O Z Z Z (jr ?_)))
      rw [hi.2, hk, jK (fun h => hat' h.1)]
      refine ⟨.inl Z, _, ((((((aj 32 0 Z Z).trans (aj 901 1 Z Z)).trans (aj 902 2 Z Z)).trans (aj 903 3 Z Z)).trans (aj 904 4 Z Z)).trans (aj 905 5 Z Z)), _, Z, Z, Z⟩
     ·
      skip
      exact absurd hc58 (by decide)
end Go.Al
