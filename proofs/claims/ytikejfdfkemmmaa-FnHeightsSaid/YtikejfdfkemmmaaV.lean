/- The law of heights. -/
import Derived.Test.YtikejfdfkemmmaaN
set_option linter.unusedVariables false
set_option linter.unusedSimpArgs false
set_option maxRecDepth 10000
set_option maxHeartbeats 4000000
open Go.Proofs
namespace Go.Al
variable {L : Nat} (h1 : 4096 ≤ L) (h2 : L ≤ 1073741824)
def hsL : Option (List Int) → List Int
  | some h => h
  | none => []
noncomputable abbrev RL (C : List In) : List Int := fq (bz C [0]) (bz C [0]).length
abbrev LL (C : List In) : List Int := fq (lu C) (lu C).length
structure HtOk (C : List In) (a : Bool) (hs CN : List Int) (o : Int) : Prop where
  l0 : (0 : Int) ∈ LL C
  r0 : (0 : Int) ∈ RL C
  cl : CN.length = C.length
  hl : a = true → hs.length = C.length ∧ o ≠ 5
  ex : ∀ k, k < C.length → CN.getD k default > 0 → (k : Int) ∈ RL C
  hh : a = true → ∀ k, k < C.length → (hs.getD k default ≥ 0 ↔ (k : Int) ∈ RL C)
  t0 : ∀ k, k < C.length → ∀ t ∈ tg (C.getD k default) k, 0 ≤ t ∧ t ≤ 80
  tr : ∀ k, k < C.length → ∀ t ∈ tg (C.getD k default) k, (k : Int) ∈ RL C → t < C.length → t ∈ RL C
  tl : ∀ k, k < C.length → ∀ t ∈ tg (C.getD k default) k, t < C.length → t ≠ (k : Int) + 1 → t ∈ LL C
theorem mn {a b : Bool} (h : a = true → b = true) : (bif a then !b else false) = false := by cases a <;> cases b <;> simp_all
theorem f6 {p a b : Bool} (h : p = true → a = true → b = true) : (bif (bif p then a else false) then !b else false) = false := by cases p <;> cases a <;> cases b <;> simp_all
theorem oh {p q : Prop} [Decidable p] [Decidable q] (h : p ↔ q) : decide p = decide q := decide_eq_decide.2 h
variable {xs ys hs CN v c e : List Int} {C : List In}
theorem ot {o : Int} {st : Sx} (hlx : xs.length ≤ 48) (hly : ys.length ≤ 48) (hCB : br C = true) (hC : MQ h1 h2 5 [.c (.d (bys xs))] [] (Plain (bf C))) (hSt : MQ h1 h2 6 [.c (.d (bys ys))] [] (Plain (jE st))) (hH : MQ h1 h2 7 [bf C] [] (Plain (.tup [aT hs, eB true]))) (hR : MQ h1 h2 8 [bf C] [] (Plain (.tup [aT (RL C), eB true]))) (hLd : MQ h1 h2 9 [bf C] [] (Plain (.tup [aT (LL C), eB true]))) (hCn : MQ h1 h2 10 [bf C, jE st, eI 60] [] (Plain (.tup [aT CN, eB true]))) (hRn : MQ h1 h2 11 [bf C, jE st, eI 60] [] (Plain (.tup [.agg [.d (dH v), .d (dH c)], aT e, eI o, eB true]))) (hk : HtOk C true hs CN o) : MQ h1 h2 3 [.c (.d (bys xs)), .c (.d (bys ys))] [] (Plain (eB true)) := by
 refine aI ?_ Z
 refine jB 205 h1 h2 Try.func3 Z Z Z fun O hF => ?_
 have hin := bO hCB
 have hCl := hk.cl
 obtain ⟨hhl, ho5⟩ := hk.hl rfl
 refine ac (js O Z (jn (ak (ac (j2 O Z Z (af O Z Z Z Z ((nE (xs := xs) (ys := ys) h1 h2).plain (u := eB false) (by rw [decide_eq_false (by omega), decide_eq_false (by omega)]; rfl)) (ab Z) Z Z Z Z Z (B0 := 28000) Z (jf [27,4,0,1] Z (jn (aa O Z Z (fun hc27 => ?_) (fun hc27 => ?_))))))))))
 exact absurd hc27 (by decide)
 refine am (ac (js O Z (jf [28,4,0,1] Z (aC O Z Z Z Z (hC) (ab Z) Z Z Z Z (B0 := 30000) Z Z (js O Z (jf [5,4,0,1] Z (aW (js O Z (aC O Z Z Z Z (hSt) (ab Z) Z Z Z Z (B0 := 32000) Z Z (jf [31,5,4,0,1] Z (jl O Z (au ?_))))))))))))
 refine jo O Z (au ?_)
 refine aF (Ent.freeze 6 (e' := [(6, _), (5, _)]) Z (.cons Z (.c (.box (cs := Sx.data st) Z (ba Z))) (fe [5] Z)) (.skip .nil)) ?_
 refine au ?_
 refine aW (js O Z (aC O Z Z Z Z (hH) (ab Z) Z Z Z Z (B0 := 35000) Z Z (j4 O Z Z Z Z (js O Z (jf [8,7,6,5] Z (aW (js O Z (aC O Z Z Z Z (hR) (ab Z) Z Z Z Z (B0 := 40000) Z Z (j4 O Z Z Z Z (js O Z (jf [10,9,8,7,6,5] Z (aW (js O Z (aC O Z Z Z Z (hLd) (ab Z) Z Z Z Z (B0 := 45000) Z Z (j4 O Z Z Z Z (js O Z (jf [12,11,10,9,8,7,6,5] Z (aW (j2 O Z Z (aC O Z Z Z Z (hCn) (ab Z) Z Z Z Z (B0 := 51000) Z Z (j4 O Z Z Z Z (js O Z (jf [14,13,12,11,10,9,8,7,6,5] Z (aW (j2 O Z Z (aC O Z Z Z Z (hRn) (ab Z) Z Z Z Z (B0 := 57000) Z Z (j4 O Z Z Z Z (js O Z (jf [60,59,58,57,14,13,12,11,10,9,8,7,6,5] Z ?_)))))))))))))))))))))))))))))
 refine jl O Z (au ?_)
 refine jo O Z (au ?_)
 refine aF (Ent.freeze 15 (e' := [(15, _), (5, _), (7, _), (8, _), (9, _), (10, _), (11, _), (12, _), (13, _), (14, _), (58, _), (59, _), (60, _)]) Z (.cons Z (.c (.box (cs := [dH v, dH c]) Z (ba Z))) (fe [5,7,8,9,10,11,12,13,14,58,59,60] Z)) (.skip .nil)) ?_
 refine au ?_
 refine j3 O Z Z Z (jf [18,17,5,7,8,9,10,11,12,13,14] Z (jn (ak (ac (j3 O Z Z Z (jf [63,18,17,5,7,8,9,11,12,13,14] Z (aV Z (js O Z (jf [64,63,18,17,5,7,8,9,11,13,14] Z (aV Z (js O Z (AOps.step (ax O Z Z Z Z Z) Z Z Z (js O Z (jf [67,18,17,5,7,8,9,11,13,14] Z (aV Z (js O Z (jf [68,67,18,17,5,7,8,9,11,13] Z (aV Z (js O Z (AOps.step (ax O Z Z Z Z Z) Z Z Z (js O Z (jf [71,18,17,5,7,8,9,11,13] Z (aV Z (js O Z (jf [72,71,17,5,7,8,9,11,13] Z (aV Z (js O Z (AOps.step (ax O Z Z Z Z Z) Z Z Z (js O Z ?_)))))))))))))))))))))))))))))
 refine jf [75,17,5,7,8,9,11,13] Z (aV Z (js O Z (aV Z ?_)))
 first | refine cw O Z ?_ | refine js O Z ?_ | refine bm O Z Z ?_
 refine jf [77,75,17,5,7,8,9,11,13] Z (aV Z (js O Z (aV Z ?_)))
 first | refine cw O Z ?_ | refine js O Z ?_ | refine bm O Z Z ?_
 refine jf [79,77,75,17,5,7,8,9,11,13] Z (aV Z (AOps.step ((V O Z).cast (v' := eB false) (congrArg eB (by simp [hCl]))) Z Z Z (AOps.step (ax O Z Z Z Z Z) Z Z Z (js O Z (jf [82,17,5,7,8,9,11,13] Z (aV Z (js O Z (aV Z (af O Z Z Z Z ((er (xs := LL C) (z := 0) h1 h2).plain (u := eB true) (congrArg eB (decide_eq_true hk.l0))) (ab Z) Z Z Z Z Z (B0 := 85000) Z (jf [84,82,17,5,7,8,9,11,13] Z (aV Z (js O Z (AOps.step (ax O Z Z Z Z Z) Z Z Z (js O Z (jf [87,17,5,7,8,9,11,13] Z (aV Z (js O Z (aV Z (af O Z Z Z Z ((er (xs := RL C) (z := 0) h1 h2).plain (u := eB true) (congrArg eB (decide_eq_true hk.r0))) (ab Z) Z Z Z Z Z (B0 := 90000) Z (jf [89,87,17,5,7,8,9,11,13] Z (aV Z (js O Z (AOps.step (ax O Z Z Z Z Z) Z Z Z (js O Z (jf [92,17,5,7,8,9,11,13] Z (aV Z (js O Z (aV Z (js O Z ?_)))))))))))))))))))))))))))))
 refine jf [94,92,17,5,7,8,9,11,13] Z (aV Z (js O Z (aV Z ?_)))
 first | refine cw O Z ?_ | refine js O Z ?_ | refine bm O Z Z ?_
 refine jf [96,94,92,17,5,7,8,9,11,13] Z (aV Z (js O Z (aV Z ?_)))
 first | refine cw O Z ?_ | refine js O Z ?_ | refine bm O Z Z ?_
 refine jf [98,96,94,92,17,5,7,8,9,11,13] Z (aV Z (AOps.step ((V O Z).cast (v' := eB false) (congrArg eB (by simp [hhl]))) Z Z Z (jf [99,94,92,17,5,7,8,9,11,13] Z (aV Z (js O Z (jf [100,94,92,17,5,7,8,9,11,13] Z (aV Z (js O Z (jf [101,100,94,92,5,7,8,9,11,13] Z (aV Z (AOps.step ((V O Z).cast (v' := eB false) (congrArg eB (decide_eq_false ho5))) Z Z Z (jf [102,100,94,92,5,7,8,9,11,13] Z (aV Z (AOps.step (ax O Z Z Z Z Z) Z Z Z (jf [103,94,92,5,7,8,9,11,13] Z (aV Z (AOps.step (cG O Z Z Z Z Z) Z Z Z (AOps.step (ax O Z Z Z Z Z) Z Z Z (jf [105,5,7,8,9,11,13] Z (jn (aa O Z Z (fun hc105 => ?_) (fun hc105 => ?_))))))))))))))))))))))
 exact absurd hc105 (by decide)
 refine am (ak (ac (js O Z (jn (aq (aG (X := Nat) (fun k => ⟨[(5, bf C), (7, aT hs), (8, eB true), (9, aT (RL C)), (11, aT (LL C)), (13, aT CN), (19, eI k)], []⟩) (fun k => k ≤ C.length) (fun k => C.length - k) 0 (Ent.to ⟨Z, Z, Z, Z, Z, Z, Z, trivial⟩ Z) ?_ (fun k hkk => ?_)))))))
 exact ga _
 refine ak (ac (j2 O Z Z ?_))
 first | refine cw O Z ?_ | refine js O Z ?_ | refine bm O Z Z ?_
 refine js O Z (jf [109,5,7,8,9,11,13,19] Z (jn (aa O Z Z (fun hc109 => ?_) (fun hc109 => ?_))))
 refine am (ak (aq (ac ?_)))
 have hkn : k < C.length := by have := ay hc109; omega
 refine j2 O Z Z (aC O Z Z Z Z (mi (code := C) (k := k) h1 h2 hCB hkn) (ab Z) Z Z Z Z (B0 := 116000) Z Z (j4 O Z Z Z Z (js O Z (jf [21,20,109,5,7,8,9,11,13,19] Z (aW (j2 O Z Z (af O Z Z Z Z (er (xs := RL C) (z := (k : Int)) h1 h2) (ab Z) Z Z Z Z Z (B0 := 121000) Z (js O Z (jf [22,21,20,109,5,7,8,9,11,13,19] Z (jn (ak (ac (j3 O Z Z Z (jf [123,22,20,109,5,7,8,9,11,13,19] Z (aV Z (js O Z (aV Z (js O Z (aV Z ?_)))))))))))))))))))
 first | refine lx O Z Z ?_ | refine lv O Z Z ?_ | refine bm O Z Z ?_
 refine jf [126,123,22,20,109,5,7,8,9,11,13,19] Z (aV Z (js O Z (jf [127,123,22,20,109,5,7,8,9,11,13,19] Z (aV Z (js O Z (jf [128,123,22,20,109,5,7,8,9,11,13,19] Z (aV Z (js O Z (jf [129,123,22,20,109,5,7,8,9,11,13,19] Z (aU 2 Z Z Z (fun hx => AN.step hx Z Z Z (V O Z) Z Z ( AN.step hx Z Z Z (V O Z) Z Z ( AN.nil))) Z Z (jf [131,129,123,22,20,109,5,7,8,9,11,13,19] Z (aV Z ?_))))))))))))
 first | refine AOps.step (aB O Z Z Z Z Z) Z Z Z ?_ | refine AOps.step (aQ O Z Z Z Z Z) Z Z Z ?_ | refine AOps.step (Val.pickB O Z Z Z Z Z) Z Z Z ?_
 refine AOps.step (ax O Z Z Z Z Z) Z Z Z (AOps.step ((V O Z).cast (v' := eB false) (congrArg eB (mn fun h => decide_eq_true (hk.ex k hkn (ay h))))) Z Z Z (jf [134,22,20,109,5,7,8,9,11,13,19] Z (aV Z (js O Z (aV Z (js O Z (jf [136,134,22,20,109,5,7,8,9,11,13,19] Z (aV Z (js O Z (aV Z (js O Z (aV Z ?_))))))))))))
 first | refine lx O Z Z ?_ | refine lv O Z Z ?_ | refine bm O Z Z ?_
 refine jf [139,136,134,22,20,109,5,7,8,9,11,13,19] Z (aV Z (js O Z (jf [140,136,134,22,20,109,5,7,8,9,11,13,19] Z (aV Z (js O Z (jf [141,136,134,22,20,109,5,7,8,9,11,13,19] Z (aV Z (js O Z (aV Z (AOps.step ((V O Z).cast (v' := eB false) (congrArg eB (by rw [oh (hk.hh Z k hkn)]; simp))) Z Z Z (jf [143,136,134,22,20,109,5,7,8,9,11,13,19] Z (aV Z (AOps.step (cG O Z Z Z Z Z) Z Z Z (AOps.step (ax O Z Z Z Z Z) Z Z Z (jf [145,22,20,109,5,7,8,9,11,13,19] Z (jn (aa O Z Z (fun hc145 => ?_) (fun hc145 => ?_))))))))))))))))))
 exact absurd hc145 (by decide)
 refine am (ac (js O Z (jn (aq (aG (X := Nat) (fun i => ⟨[(5, bf C), (7, aT hs), (8, eB true), (9, aT (RL C)), (11, aT (LL C)), (13, aT CN), (19, eI k), (20, aT (tg (C.getD k default) k)), (22, eB (decide ((k : Int) ∈ RL C))), (23, eI i)], []⟩) (fun i => i ≤ (tg (C.getD k default) k).length) (fun i => (tg (C.getD k default) k).length - i) 0 (Ent.to ⟨Z, Z, Z, Z, Z, Z, Z, Z, Z, Z, trivial⟩ Z) ?_ (fun i hi => ?_))))))
 exact ga _
 refine ak (ac (j2 O Z Z ?_))
 first | refine cw O Z ?_ | refine js O Z ?_ | refine bm O Z Z ?_
 refine js O Z (jf [149,5,7,8,9,11,13,19,20,22,23] Z (jn (aa O Z Z (fun hc149 => ?_) (fun hc149 => ?_))))
 refine am (ak (aq (ak (ac ?_))))
 have hil : i < (tg (C.getD k default) k).length := by have := ay hc149; omega
 have htm : ((tg (C.getD k default) k).getD i default) ∈ (tg (C.getD k default) k) := by rw [aM hil]; exact List.getElem_mem hil
 have htl2 := gg (x := C.getD k default) (k := (k : Int))
 have ht0 := hk.t0 k hkn _ htm
 have htr := hk.tr k hkn _ htm
 have htl := hk.tl k hkn _ htm
 refine j2 O Z Z ?_
 first | refine lx O Z Z ?_ | refine lv O Z Z ?_ | refine bm O Z Z ?_
 refine js O Z (AOps.step ((V O Z).cast (v' := eB false) (congrArg eB (decide_eq_false (by omega)))) Z Z Z (js O Z (jf [157,149,5,7,8,9,11,13,19,20,22,23] Z (aV Z (js O Z (aV Z (js O Z (aV Z ?_))))))))
 first | refine lx O Z Z ?_ | refine lv O Z Z ?_ | refine bm O Z Z ?_
 refine jf [160,157,149,5,7,8,9,11,13,19,20,22,23] Z (aV Z (js O Z (jf [161,157,149,5,7,8,9,11,13,19,20,22,23] Z (aV Z (AOps.step ((V O Z).cast (v' := eB false) (congrArg eB (decide_eq_false (by omega)))) Z Z Z (AOps.step (ax O Z Z Z Z Z) Z Z Z (jf [163,149,5,7,8,9,11,13,19,20,22,23] Z (jn (aa O Z Z (fun hc163 => ?_) (fun hc163 => ?_))))))))))
 exact absurd hc163 (by decide)
 refine am (ac (j2 O Z Z ?_))
 first | refine lx O Z Z ?_ | refine lv O Z Z ?_ | refine bm O Z Z ?_
 refine j2 O Z Z ?_
 first | refine cw O Z ?_ | refine js O Z ?_ | refine bm O Z Z ?_
 refine j2 O Z Z (jf [24,163,149,5,7,8,9,11,13,19,20,22,23] Z (aW (j2 O Z Z (jf [172,24,163,149,5,7,8,9,11,13,19,20,22,23] Z (aU 1 Z Z Z (fun hx => AN.step hx Z Z Z (V O Z) Z Z ( AN.nil)) Z Z ?_)))))
 first | refine AOps.step (aB O Z Z Z Z Z) Z Z Z ?_ | refine AOps.step (aQ O Z Z Z Z Z) Z Z Z ?_ | refine AOps.step (Val.pickB O Z Z Z Z Z) Z Z Z ?_
 refine js O Z (jf [175,24,163,149,5,7,8,9,11,13,19,20,22,23] Z (aU 7 Z Z Z (fun hx => AN.step hx Z Z Z (V O Z) Z Z ( AN.step hx Z Z Z (V O Z) Z Z ( AN.step hx Z Z Z (V O Z) Z Z ( AN.step hx Z Z Z (vN O Z) Z Z ( AN.step hx Z Z Z (V O Z) Z Z ( dy O hx Z Z Z Z (er (xs := RL C) (z := ((tg (C.getD k default) k).getD i default)) h1 h2) (ab Z) Z Z Z Z Z Z Z (B0 := 182000) Z ( AN.step hx Z Z Z (V O Z) Z Z ( AN.nil)))))))) Z Z ?_))
 first | refine AOps.step (aB O Z Z Z Z Z) Z Z Z ?_ | refine AOps.step (aQ O Z Z Z Z Z) Z Z Z ?_ | refine AOps.step (Val.pickB O Z Z Z Z Z) Z Z Z ?_
 refine AOps.step ((V O Z).cast (v' := eB false) (congrArg eB (f6 fun h1 h2 => decide_eq_true (htr (ay h1) (ay h2))))) Z Z Z (jf [184,24,163,149,5,7,8,9,11,13,19,20,22,23] Z (aV Z (js O Z (jf [185,184,163,149,5,7,8,9,11,13,19,20,22,23] Z (aV Z (js O Z (jf [186,184,163,149,5,7,8,9,11,13,19,20,22,23] Z (aU 7 Z Z Z (fun hx => AN.step hx Z Z Z (V O Z) Z Z ( AN.step hx Z Z Z (V O Z) Z Z ( AN.step hx Z Z Z (vN O Z) Z Z ( AN.step hx Z Z Z (V O Z) Z Z ( AN.step hx Z Z Z (V O Z) Z Z ( AN.step hx Z Z Z (vF O Z) Z Z ( AN.step hx Z Z Z (V O Z) Z Z ( AN.nil)))))))) Z Z (jf [193,186,184,163,149,5,7,8,9,11,13,19,20,22,23] Z (aV Z ?_))))))))))
 first | refine AOps.step (aB O Z Z Z Z Z) Z Z Z ?_ | refine AOps.step (aQ O Z Z Z Z Z) Z Z Z ?_ | refine AOps.step (Val.pickB O Z Z Z Z Z) Z Z Z ?_
 refine jf [194,184,163,149,5,7,8,9,11,13,19,20,22,23] Z (aV Z (js O Z (jf [195,184,163,149,5,7,8,9,11,13,19,20,22,23] Z (aU 7 Z Z Z (fun hx => AN.step hx Z Z Z (V O Z) Z Z ( AN.step hx Z Z Z (V O Z) Z Z ( AN.step hx Z Z Z (V O Z) Z Z ( AN.step hx Z Z Z (vN O Z) Z Z ( AN.step hx Z Z Z (V O Z) Z Z ( dy O hx Z Z Z Z (er (xs := LL C) (z := ((tg (C.getD k default) k).getD i default)) h1 h2) (ab Z) Z Z Z Z Z Z Z (B0 := 202000) Z ( AN.step hx Z Z Z (V O Z) Z Z ( AN.nil)))))))) Z Z (jf [202,195,184,163,149,5,7,8,9,11,13,19,20,22,23] Z (aV Z ?_))))))
 first | refine AOps.step (aB O Z Z Z Z Z) Z Z Z ?_ | refine AOps.step (aQ O Z Z Z Z Z) Z Z Z ?_ | refine AOps.step (Val.pickB O Z Z Z Z Z) Z Z Z ?_
 refine AOps.step (ax O Z Z Z Z Z) Z Z Z (jf [204,163,149,5,7,8,9,11,13,19,20,22,23] Z (jn (aa O Z Z (fun hc204 => ?_) (fun hc204 => ?_))))
 exact absurd hc204 (by rw [show (bif (bif decide (((tg (C.getD k default) k).getD i default) < (C.length : Int)) then !decide (((tg (C.getD k default) k).getD i default) = (k : Int) + 1) else false) then !decide (((tg (C.getD k default) k).getD i default) ∈ LL C) else false) = false from f6 fun h1 h2 => decide_eq_true (htl (ay h1) (bh (by simpa using h2)))]; decide)
 refine am (ae (js O Z ?_))
 first | refine ji O Z ?_ | refine bm O Z Z ?_
 refine js O Z (jf [23,204,163,149,5,7,8,9,11,13,19,20,22] Z (jn ?_))
 refine ⟨i + 1, Ent.to ⟨Z, Z, Z, Z, Z, Z, Z, Z, Z, Z, trivial⟩ Z, by omega, by omega⟩
 refine bF (ae (js O Z ?_))
 first | refine ji O Z ?_ | refine bm O Z Z ?_
 refine js O Z (jf [19,149,5,7,8,9,11,13,20,22,23] Z (jn ?_))
 refine ⟨k + 1, Ent.to ⟨Z, Z, Z, Z, Z, Z, Z, trivial⟩ Z, by omega, by omega⟩
 refine bF (ac (js O Z (jr ?_)))
 refine ⟨.inl Z, _, ap, _, Z, ?_⟩
 rfl
theorem ou {o : Int} {st : Sx} (hlx : xs.length ≤ 48) (hly : ys.length ≤ 48) (hCB : br C = true) (hC : MQ h1 h2 5 [.c (.d (bys xs))] [] (Plain (bf C))) (hSt : MQ h1 h2 6 [.c (.d (bys ys))] [] (Plain (jE st))) (hH : MQ h1 h2 7 [bf C] [] (Plain (.tup [aT hs, eB false]))) (hR : MQ h1 h2 8 [bf C] [] (Plain (.tup [aT (RL C), eB true]))) (hLd : MQ h1 h2 9 [bf C] [] (Plain (.tup [aT (LL C), eB true]))) (hCn : MQ h1 h2 10 [bf C, jE st, eI 60] [] (Plain (.tup [aT CN, eB true]))) (hRn : MQ h1 h2 11 [bf C, jE st, eI 60] [] (Plain (.tup [.agg [.d (dH v), .d (dH c)], aT e, eI o, eB true]))) (hk : HtOk C false hs CN o) : MQ h1 h2 3 [.c (.d (bys xs)), .c (.d (bys ys))] [] (Plain (eB true)) := by
 refine aI ?_ Z
 refine jB 205 h1 h2 Try.func3 Z Z Z fun O hF => ?_
 have hin := bO hCB
 have hCl := hk.cl
 refine ac (js O Z (jn (ak (ac (j2 O Z Z (af O Z Z Z Z ((nE (xs := xs) (ys := ys) h1 h2).plain (u := eB false) (by rw [decide_eq_false (by omega), decide_eq_false (by omega)]; rfl)) (ab Z) Z Z Z Z Z (B0 := 28000) Z (jf [27,4,0,1] Z (jn (aa O Z Z (fun hc27 => ?_) (fun hc27 => ?_))))))))))
 exact absurd hc27 (by decide)
 refine am (ac (js O Z (jf [28,4,0,1] Z (aC O Z Z Z Z (hC) (ab Z) Z Z Z Z (B0 := 30000) Z Z (js O Z (jf [5,4,0,1] Z (aW (js O Z (aC O Z Z Z Z (hSt) (ab Z) Z Z Z Z (B0 := 32000) Z Z (jf [31,5,4,0,1] Z (jl O Z (au ?_))))))))))))
 refine jo O Z (au ?_)
 refine aF (Ent.freeze 6 (e' := [(6, _), (5, _)]) Z (.cons Z (.c (.box (cs := Sx.data st) Z (ba Z))) (fe [5] Z)) (.skip .nil)) ?_
 refine au ?_
 refine aW (js O Z (aC O Z Z Z Z (hH) (ab Z) Z Z Z Z (B0 := 35000) Z Z (j4 O Z Z Z Z (js O Z (jf [8,7,6,5] Z (aW (js O Z (aC O Z Z Z Z (hR) (ab Z) Z Z Z Z (B0 := 40000) Z Z (j4 O Z Z Z Z (js O Z (jf [10,9,8,7,6,5] Z (aW (js O Z (aC O Z Z Z Z (hLd) (ab Z) Z Z Z Z (B0 := 45000) Z Z (j4 O Z Z Z Z (js O Z (jf [12,11,10,9,8,7,6,5] Z (aW (j2 O Z Z (aC O Z Z Z Z (hCn) (ab Z) Z Z Z Z (B0 := 51000) Z Z (j4 O Z Z Z Z (js O Z (jf [14,13,12,11,10,9,8,7,6,5] Z (aW (j2 O Z Z (aC O Z Z Z Z (hRn) (ab Z) Z Z Z Z (B0 := 57000) Z Z (j4 O Z Z Z Z (js O Z (jf [60,59,58,57,14,13,12,11,10,9,8,7,6,5] Z ?_)))))))))))))))))))))))))))))
 refine jl O Z (au ?_)
 refine jo O Z (au ?_)
 refine aF (Ent.freeze 15 (e' := [(15, _), (5, _), (7, _), (8, _), (9, _), (10, _), (11, _), (12, _), (13, _), (14, _), (58, _), (59, _), (60, _)]) Z (.cons Z (.c (.box (cs := [dH v, dH c]) Z (ba Z))) (fe [5,7,8,9,10,11,12,13,14,58,59,60] Z)) (.skip .nil)) ?_
 refine au ?_
 refine j3 O Z Z Z (jf [18,17,5,7,8,9,10,11,12,13,14] Z (jn (ak (ac (j3 O Z Z Z (jf [63,18,17,5,7,8,9,11,12,13,14] Z (aV Z (js O Z (jf [64,63,18,17,5,7,8,9,11,13,14] Z (aV Z (js O Z (AOps.step (ax O Z Z Z Z Z) Z Z Z (js O Z (jf [67,18,17,5,7,8,9,11,13,14] Z (aV Z (js O Z (jf [68,67,18,17,5,7,8,9,11,13] Z (aV Z (js O Z (AOps.step (ax O Z Z Z Z Z) Z Z Z (js O Z (jf [71,18,17,5,7,8,9,11,13] Z (aV Z (js O Z (jf [72,71,17,5,7,8,9,11,13] Z (aV Z (js O Z (AOps.step (ax O Z Z Z Z Z) Z Z Z (js O Z ?_)))))))))))))))))))))))))))))
 refine jf [75,17,5,7,8,9,11,13] Z (aV Z (js O Z (aV Z ?_)))
 first | refine cw O Z ?_ | refine js O Z ?_ | refine bm O Z Z ?_
 refine jf [77,75,17,5,7,8,9,11,13] Z (aV Z (js O Z (aV Z ?_)))
 first | refine cw O Z ?_ | refine js O Z ?_ | refine bm O Z Z ?_
 refine jf [79,77,75,17,5,7,8,9,11,13] Z (aV Z (AOps.step ((V O Z).cast (v' := eB false) (congrArg eB (by simp [hCl]))) Z Z Z (AOps.step (ax O Z Z Z Z Z) Z Z Z (js O Z (jf [82,17,5,7,8,9,11,13] Z (aV Z (js O Z (aV Z (af O Z Z Z Z ((er (xs := LL C) (z := 0) h1 h2).plain (u := eB true) (congrArg eB (decide_eq_true hk.l0))) (ab Z) Z Z Z Z Z (B0 := 85000) Z (jf [84,82,17,5,7,8,9,11,13] Z (aV Z (js O Z (AOps.step (ax O Z Z Z Z Z) Z Z Z (js O Z (jf [87,17,5,7,8,9,11,13] Z (aV Z (js O Z (aV Z (af O Z Z Z Z ((er (xs := RL C) (z := 0) h1 h2).plain (u := eB true) (congrArg eB (decide_eq_true hk.r0))) (ab Z) Z Z Z Z Z (B0 := 90000) Z (jf [89,87,17,5,7,8,9,11,13] Z (aV Z (js O Z (AOps.step (ax O Z Z Z Z Z) Z Z Z (js O Z (jf [92,17,5,7,8,9,11,13] Z (aV Z (js O Z (aV Z (js O Z ?_)))))))))))))))))))))))))))))
 refine jf [94,92,17,5,7,8,9,11,13] Z (AOps.skip Z Z Z Z Z Z (AOps.skip Z Z Z Z Z Z (jf [96,94,92,17,5,7,8,9,11,13] Z (AOps.skip Z Z Z Z Z Z (AOps.skip Z Z Z Z Z Z (jf [98,96,94,92,17,5,7,8,9,11,13] Z (AOps.skip Z Z Z Z Z Z (jf [99,94,92,17,5,7,8,9,11,13] Z (AOps.skip Z Z Z Z Z Z (jf [100,94,92,17,5,7,8,9,11,13] Z (gO Z Z Z Z Z (jf [101,100,94,92,5,7,8,9,11,13] Z (gO Z Z Z Z Z (jf [102,100,94,92,5,7,8,9,11,13] Z (AOps.skip Z Z Z Z Z Z (jf [103,94,92,5,7,8,9,11,13] Z (aV Z (AOps.step (ax O Z Z Z Z Z) Z Z Z (AOps.step (ax O Z Z Z Z Z) Z Z Z (jf [105,5,7,8,9,11,13] Z (jn (aa O Z Z (fun hc105 => ?_) (fun hc105 => ?_)))))))))))))))))))))))
 exact absurd hc105 (by decide)
 refine am (ak (ac (js O Z (jn (aq (aG (X := Nat) (fun k => ⟨[(5, bf C), (7, aT hs), (8, eB false), (9, aT (RL C)), (11, aT (LL C)), (13, aT CN), (19, eI k)], []⟩) (fun k => k ≤ C.length) (fun k => C.length - k) 0 (Ent.to ⟨Z, Z, Z, Z, Z, Z, Z, trivial⟩ Z) ?_ (fun k hkk => ?_)))))))
 exact ga _
 refine ak (ac (j2 O Z Z ?_))
 first | refine cw O Z ?_ | refine js O Z ?_ | refine bm O Z Z ?_
 refine js O Z (jf [109,5,7,8,9,11,13,19] Z (jn (aa O Z Z (fun hc109 => ?_) (fun hc109 => ?_))))
 refine am (ak (aq (ac ?_)))
 have hkn : k < C.length := by have := ay hc109; omega
 refine j2 O Z Z (aC O Z Z Z Z (mi (code := C) (k := k) h1 h2 hCB hkn) (ab Z) Z Z Z Z (B0 := 116000) Z Z (j4 O Z Z Z Z (js O Z (jf [21,20,109,5,7,8,9,11,13,19] Z (aW (j2 O Z Z (af O Z Z Z Z (er (xs := RL C) (z := (k : Int)) h1 h2) (ab Z) Z Z Z Z Z (B0 := 121000) Z (js O Z (jf [22,21,20,109,5,7,8,9,11,13,19] Z (jn (ak (ac (j3 O Z Z Z (jf [123,22,20,109,5,7,8,9,11,13,19] Z (aV Z (js O Z (aV Z (js O Z (aV Z ?_)))))))))))))))))))
 first | refine lx O Z Z ?_ | refine lv O Z Z ?_ | refine bm O Z Z ?_
 refine jf [126,123,22,20,109,5,7,8,9,11,13,19] Z (aV Z (js O Z (jf [127,123,22,20,109,5,7,8,9,11,13,19] Z (aV Z (js O Z (jf [128,123,22,20,109,5,7,8,9,11,13,19] Z (aV Z (js O Z (jf [129,123,22,20,109,5,7,8,9,11,13,19] Z (aU 2 Z Z Z (fun hx => AN.step hx Z Z Z (V O Z) Z Z ( AN.step hx Z Z Z (V O Z) Z Z ( AN.nil))) Z Z (jf [131,129,123,22,20,109,5,7,8,9,11,13,19] Z (aV Z ?_))))))))))))
 first | refine AOps.step (aB O Z Z Z Z Z) Z Z Z ?_ | refine AOps.step (aQ O Z Z Z Z Z) Z Z Z ?_ | refine AOps.step (Val.pickB O Z Z Z Z Z) Z Z Z ?_
 refine AOps.step (ax O Z Z Z Z Z) Z Z Z (AOps.step ((V O Z).cast (v' := eB false) (congrArg eB (mn fun h => decide_eq_true (hk.ex k hkn (ay h))))) Z Z Z (jf [134,22,20,109,5,7,8,9,11,13,19] Z (aV Z (js O Z (aV Z (js O Z (jf [136,134,22,20,109,5,7,8,9,11,13,19] Z (AOps.skip Z Z Z Z Z Z (AOps.skip Z Z Z Z Z Z (AOps.skip Z Z Z Z Z Z (jf [139,136,134,22,20,109,5,7,8,9,11,13,19] Z (AOps.skip Z Z Z Z Z Z (jf [140,136,134,22,20,109,5,7,8,9,11,13,19] Z (AOps.skip Z Z Z Z Z Z (jf [141,136,134,22,20,109,5,7,8,9,11,13,19] Z (AOps.skip Z Z Z Z Z Z (AOps.skip Z Z Z Z Z Z (jf [143,136,134,22,20,109,5,7,8,9,11,13,19] Z (aV Z (AOps.step (ax O Z Z Z Z Z) Z Z Z (AOps.step (ax O Z Z Z Z Z) Z Z Z (jf [145,22,20,109,5,7,8,9,11,13,19] Z (jn (aa O Z Z (fun hc145 => ?_) (fun hc145 => ?_)))))))))))))))))))))))))
 exact absurd hc145 (by decide)
 refine am (ac (js O Z (jn (aq (aG (X := Nat) (fun i => ⟨[(5, bf C), (7, aT hs), (8, eB false), (9, aT (RL C)), (11, aT (LL C)), (13, aT CN), (19, eI k), (20, aT (tg (C.getD k default) k)), (22, eB (decide ((k : Int) ∈ RL C))), (23, eI i)], []⟩) (fun i => i ≤ (tg (C.getD k default) k).length) (fun i => (tg (C.getD k default) k).length - i) 0 (Ent.to ⟨Z, Z, Z, Z, Z, Z, Z, Z, Z, Z, trivial⟩ Z) ?_ (fun i hi => ?_))))))
 exact ga _
 refine ak (ac (j2 O Z Z ?_))
 first | refine cw O Z ?_ | refine js O Z ?_ | refine bm O Z Z ?_
 refine js O Z (jf [149,5,7,8,9,11,13,19,20,22,23] Z (jn (aa O Z Z (fun hc149 => ?_) (fun hc149 => ?_))))
 refine am (ak (aq (ak (ac ?_))))
 have hil : i < (tg (C.getD k default) k).length := by have := ay hc149; omega
 have htm : ((tg (C.getD k default) k).getD i default) ∈ (tg (C.getD k default) k) := by rw [aM hil]; exact List.getElem_mem hil
 have htl2 := gg (x := C.getD k default) (k := (k : Int))
 have ht0 := hk.t0 k hkn _ htm
 have htr := hk.tr k hkn _ htm
 have htl := hk.tl k hkn _ htm
 refine j2 O Z Z ?_
 first | refine lx O Z Z ?_ | refine lv O Z Z ?_ | refine bm O Z Z ?_
 refine js O Z (AOps.step ((V O Z).cast (v' := eB false) (congrArg eB (decide_eq_false (by omega)))) Z Z Z (js O Z (jf [157,149,5,7,8,9,11,13,19,20,22,23] Z (aV Z (js O Z (aV Z (js O Z (aV Z ?_))))))))
 first | refine lx O Z Z ?_ | refine lv O Z Z ?_ | refine bm O Z Z ?_
 refine jf [160,157,149,5,7,8,9,11,13,19,20,22,23] Z (aV Z (js O Z (jf [161,157,149,5,7,8,9,11,13,19,20,22,23] Z (aV Z (AOps.step ((V O Z).cast (v' := eB false) (congrArg eB (decide_eq_false (by omega)))) Z Z Z (AOps.step (ax O Z Z Z Z Z) Z Z Z (jf [163,149,5,7,8,9,11,13,19,20,22,23] Z (jn (aa O Z Z (fun hc163 => ?_) (fun hc163 => ?_))))))))))
 exact absurd hc163 (by decide)
 refine am (ac (j2 O Z Z ?_))
 first | refine lx O Z Z ?_ | refine lv O Z Z ?_ | refine bm O Z Z ?_
 refine j2 O Z Z ?_
 first | refine cw O Z ?_ | refine js O Z ?_ | refine bm O Z Z ?_
 refine j2 O Z Z (jf [24,163,149,5,7,8,9,11,13,19,20,22,23] Z (aW (j2 O Z Z (jf [172,24,163,149,5,7,8,9,11,13,19,20,22,23] Z (aU 1 Z Z Z (fun hx => AN.step hx Z Z Z (V O Z) Z Z ( AN.nil)) Z Z ?_)))))
 first | refine AOps.step (aB O Z Z Z Z Z) Z Z Z ?_ | refine AOps.step (aQ O Z Z Z Z Z) Z Z Z ?_ | refine AOps.step (Val.pickB O Z Z Z Z Z) Z Z Z ?_
 refine js O Z (jf [175,24,163,149,5,7,8,9,11,13,19,20,22,23] Z (aU 7 Z Z Z (fun hx => AN.step hx Z Z Z (V O Z) Z Z ( AN.step hx Z Z Z (V O Z) Z Z ( AN.step hx Z Z Z (V O Z) Z Z ( AN.step hx Z Z Z (vN O Z) Z Z ( AN.step hx Z Z Z (V O Z) Z Z ( dy O hx Z Z Z Z (er (xs := RL C) (z := ((tg (C.getD k default) k).getD i default)) h1 h2) (ab Z) Z Z Z Z Z Z Z (B0 := 182000) Z ( AN.step hx Z Z Z (V O Z) Z Z ( AN.nil)))))))) Z Z ?_))
 first | refine AOps.step (aB O Z Z Z Z Z) Z Z Z ?_ | refine AOps.step (aQ O Z Z Z Z Z) Z Z Z ?_ | refine AOps.step (Val.pickB O Z Z Z Z Z) Z Z Z ?_
 refine AOps.step ((V O Z).cast (v' := eB false) (congrArg eB (f6 fun h1 h2 => decide_eq_true (htr (ay h1) (ay h2))))) Z Z Z (jf [184,24,163,149,5,7,8,9,11,13,19,20,22,23] Z (aV Z (js O Z (jf [185,184,163,149,5,7,8,9,11,13,19,20,22,23] Z (aV Z (js O Z (jf [186,184,163,149,5,7,8,9,11,13,19,20,22,23] Z (aU 7 Z Z Z (fun hx => AN.step hx Z Z Z (V O Z) Z Z ( AN.step hx Z Z Z (V O Z) Z Z ( AN.step hx Z Z Z (vN O Z) Z Z ( AN.step hx Z Z Z (V O Z) Z Z ( AN.step hx Z Z Z (V O Z) Z Z ( AN.step hx Z Z Z (vF O Z) Z Z ( AN.step hx Z Z Z (V O Z) Z Z ( AN.nil)))))))) Z Z (jf [193,186,184,163,149,5,7,8,9,11,13,19,20,22,23] Z (aV Z ?_))))))))))
 first | refine AOps.step (aB O Z Z Z Z Z) Z Z Z ?_ | refine AOps.step (aQ O Z Z Z Z Z) Z Z Z ?_ | refine AOps.step (Val.pickB O Z Z Z Z Z) Z Z Z ?_
 refine jf [194,184,163,149,5,7,8,9,11,13,19,20,22,23] Z (aV Z (js O Z (jf [195,184,163,149,5,7,8,9,11,13,19,20,22,23] Z (aU 7 Z Z Z (fun hx => AN.step hx Z Z Z (V O Z) Z Z ( AN.step hx Z Z Z (V O Z) Z Z ( AN.step hx Z Z Z (V O Z) Z Z ( AN.step hx Z Z Z (vN O Z) Z Z ( AN.step hx Z Z Z (V O Z) Z Z ( dy O hx Z Z Z Z (er (xs := LL C) (z := ((tg (C.getD k default) k).getD i default)) h1 h2) (ab Z) Z Z Z Z Z Z Z (B0 := 202000) Z ( AN.step hx Z Z Z (V O Z) Z Z ( AN.nil)))))))) Z Z (jf [202,195,184,163,149,5,7,8,9,11,13,19,20,22,23] Z (aV Z ?_))))))
 first | refine AOps.step (aB O Z Z Z Z Z) Z Z Z ?_ | refine AOps.step (aQ O Z Z Z Z Z) Z Z Z ?_ | refine AOps.step (Val.pickB O Z Z Z Z Z) Z Z Z ?_
 refine AOps.step (ax O Z Z Z Z Z) Z Z Z (jf [204,163,149,5,7,8,9,11,13,19,20,22,23] Z (jn (aa O Z Z (fun hc204 => ?_) (fun hc204 => ?_))))
 exact absurd hc204 (by rw [show (bif (bif decide (((tg (C.getD k default) k).getD i default) < (C.length : Int)) then !decide (((tg (C.getD k default) k).getD i default) = (k : Int) + 1) else false) then !decide (((tg (C.getD k default) k).getD i default) ∈ LL C) else false) = false from f6 fun h1 h2 => decide_eq_true (htl (ay h1) (bh (by simpa using h2)))]; decide)
 refine am (ae (js O Z ?_))
 first | refine ji O Z ?_ | refine bm O Z Z ?_
 refine js O Z (jf [23,204,163,149,5,7,8,9,11,13,19,20,22] Z (jn ?_))
 refine ⟨i + 1, Ent.to ⟨Z, Z, Z, Z, Z, Z, Z, Z, Z, Z, trivial⟩ Z, by omega, by omega⟩
 refine bF (ae (js O Z ?_))
 first | refine ji O Z ?_ | refine bm O Z Z ?_
 refine js O Z (jf [19,149,5,7,8,9,11,13,20,22,23] Z (jn ?_))
 refine ⟨k + 1, Ent.to ⟨Z, Z, Z, Z, Z, Z, Z, trivial⟩ Z, by omega, by omega⟩
 refine bF (ac (js O Z (jr ?_)))
 refine ⟨.inl Z, _, ap, _, Z, ?_⟩
 rfl
theorem nU {c : List In} {k : Nat} : Rch c [0] k ↔ R0 c k := by
 constructor
 intro h
 induction h with
 | start h1 h2 h3 => exact .start h1 h2 h3
 | step h1 h2 h3 h4 ih => exact .step ih h2 h3 h4
 intro h
 induction h with
 | start h1 h2 h3 => exact .start h1 h2 h3
 | step h1 h2 h3 h4 ih => exact .step ih h2 h3 h4
theorem R0.lt {c : List In} {k : Nat} (h : R0 c k) : k < c.length := by
 cases h <;> omega
theorem l7 {x : In} {c : Cf} (h11 : x.op ≠ 11) : dI x c ∈ tg x c.at_ := by
 unfold tg
 rw [if_neg h11]
 by_cases h5 : x.op = 5
 rw [if_pos h5, ← fu (c := c) h5]; exact List.mem_singleton.2 Z
 rw [if_neg h5]
 by_cases h6 : x.op = 6
 rw [if_pos h6]
 by_cases hp : pM x c 0 < 0
 rw [← di h6 hp]
 split
 exact List.mem_cons_self
 split
 rename_i h; rw [h]; exact List.mem_singleton.2 Z
 exact List.mem_cons_of_mem _ (List.mem_singleton.2 Z)
 rw [← dj h6 hp]
 split
 exact List.mem_cons_of_mem _ (List.mem_singleton.2 Z)
 split
 exact List.mem_singleton.2 Z
 exact List.mem_cons_self
 rw [if_neg h6, ← cg h5 h6]; exact List.mem_singleton.2 Z
theorem kL {x : In} {c : Cf} (h : bc x c = 0) : x.op ≠ 11 := fun e => by rw [jL e] at h; cases h
theorem nW {x : In} {c : Cf} : bc x c ≠ 5 := by
 unfold bc
 split
 decide
 split
 split <;> decide
 split
 split <;> decide
 split
 split <;> decide
 split
 split <;> decide
 split
 split
 split <;> decide
 decide
 split
 split <;> decide
 decide
structure RI (C : List In) (r : Rn) : Prop where
  at_ : ly C r.c → R0 C r.c.at_.toNat
  cl : r.cnt.length = C.length
  cnt : ∀ k, r.cnt.getD k default > 0 → R0 C k
theorem RI.next {C : List In} {r : Rn} (h : RI C r) (hi : ly C r.c) (ho : bc (xM C r.c) r.c = 0) : RI C (kT C r) := by
 have hr := h.at_ hi
 refine ⟨fun hi2 => ?_, by show (r.cnt.set _ _).length = _; rw [List.length_set, h.cl], fun k hk => ?_⟩
 have hm := l7 (x := xM C r.c) (c := r.c) (kL ho)
 refine Gr.step hr ?_ hi2.1 hi2.2
 show (kT C r).c.at_ ∈ tg (C.getD r.c.at_.toNat default) (r.c.at_.toNat : Int)
 rw [Int.toNat_of_nonneg hi.1]
 exact hm
 have hk : (r.cnt.set r.c.at_.toNat (r.cnt.getD r.c.at_.toNat default + 1)).getD k default > 0 := hk
 by_cases e : k = r.c.at_.toNat
 rw [e]; exact hr
 rw [List.getD_eq_getElem?_getD, List.getElem?_set, if_neg (Ne.symm e), ← List.getD_eq_getElem?_getD] at hk
 exact h.cnt k hk
theorem RI.run {C : List In} : ∀ {n : Nat} {r : Rn}, RI C r → (bA C n r).cnt.length = C.length ∧ ∀ k, (bA C n r).cnt.getD k default > 0 → R0 C k
  | 0, r, h => ⟨h.cl, h.cnt⟩
  | n + 1, r, h => by
    by_cases hi : ly C r.c ∧ cY (xM C r.c) r.c.stack.length = false
    · by_cases h0 : bc (xM C r.c) r.c = 0
      · rw [fz hi.1 hi.2 h0]; exact RI.run (h.next hi.1 h0)
      · by_cases h6 : bc (xM C r.c) r.c = 6
        · rw [jJ hi.1 hi.2 h6]; exact ⟨h.cl, h.cnt⟩
        · rw [jI hi.1 hi.2 h6 h0]; exact ⟨h.cl, h.cnt⟩
    · rw [jK hi]; exact ⟨h.cl, h.cnt⟩
theorem qK {n k : Nat} : (List.replicate n (0 : Int)).getD k default = 0 := by
 rw [List.getD_eq_getElem?_getD, List.getElem?_replicate]
 split <;> rfl
theorem RI.zero {C : List In} {s : Sx} (h : 0 < C.length) : RI C (eF C s) :=
  ⟨fun hi => .start (z := 0) (by simp) (by decide) (by omega), by simp [eF], fun k hk => by
 have hk : (List.replicate C.length (0 : Int)).getD k default > 0 := hk
 rw [qK] at hk; exact absurd hk (by decide)⟩
structure RJ (C : List In) (h : List Int) (r : Rn) : Prop where
  i : ly C r.c
  at_ : R0 C r.c.at_.toNat
  st : (r.c.stack.length : Int) = h.getD r.c.at_.toNat default
  out : r.out = 0
theorem RJ.low {C : List In} {h : List Int} (hh : HOk C qT h) {r : Rn} (j : RJ C h r) : cY (xM C r.c) r.c.stack.length = false := by
 have h1 := hh.low _ j.at_
 have h2 := dk (x := xM C r.c)
 unfold cY
 rw [decide_eq_false (show ¬ (r.c.stack.length : Int) - (mv (xM C r.c)).1 < 0 by rw [j.st]; have := h1.1; show ¬ _ - (mv (C.getD r.c.at_.toNat default)).1 < 0; omega)]
 show (bif _ then _ else _) = false
 rw [decide_eq_false (show ¬ (r.c.stack.length : Int) - (mv (xM C r.c)).1 + (mv (xM C r.c)).2 > 6 by rw [j.st]; have := h1.2; show ¬ _ - (mv (C.getD r.c.at_.toNat default)).1 + (mv (C.getD r.c.at_.toNat default)).2 > 6; have e : dK C h r.c.at_.toNat = h.getD r.c.at_.toNat default - (mv (C.getD r.c.at_.toNat default)).1 + (mv (C.getD r.c.at_.toNat default)).2 := rfl; omega)]
 cases decide ((mv (xM C r.c)).2 > 0) <;> rfl
theorem RJ.next {C : List In} {h : List Int} (hh : HOk C qT h) {r : Rn} (j : RJ C h r) (ho : bc (xM C r.c) r.c = 0) : RJ C h (kT C r) := by
 have hm := l7 (x := xM C r.c) (c := r.c) (kL ho)
 have hm2 : dI (xM C r.c) r.c ∈ mT C r.c.at_.toNat := by
  show _ ∈ tg (C.getD r.c.at_.toNat default) (r.c.at_.toNat : Int)
  rw [Int.toNat_of_nonneg j.i.1]; exact hm
 obtain ⟨n1, n2, n3⟩ := hh.nx _ j.at_ _ hm2
 have hlo := kA (j.low hh)
 have h2 := dk (x := xM C r.c)
 refine ⟨⟨n1, n2⟩, .step j.at_ hm2 n1 n2, ?_, j.out⟩
 show ((iq (xM C r.c) r.c).length : Int) = h.getD (dI (xM C r.c) r.c).toNat default
 rw [n3]
 have e : dK C h r.c.at_.toNat = h.getD r.c.at_.toNat default - (mv (xM C r.c)).1 + (mv (xM C r.c)).2 := rfl
 rw [e, ← j.st]
 have hp : (iN (xM C r.c) : Int) = (mv (xM C r.c)).1 := by unfold iN; omega
 have ht : (r.c.stack.take (gd (xM C r.c) r.c.stack.length)).length = gd (xM C r.c) r.c.stack.length := by rw [List.length_take]; unfold gd; omega
 unfold iq
 split
 rw [cx, ht, gb]; unfold gd; omega
 rw [ht]; unfold gd; omega
theorem RJ.run {C : List In} {h : List Int} (hh : HOk C qT h) : ∀ {n : Nat} {r : Rn}, RJ C h r → (bA C n r).out ≠ 5
  | 0, r, j => by rw [l9]; show (1 : Int) ≠ 5; decide
  | n + 1, r, j => by
    have hl := j.low hh
    by_cases h0 : bc (xM C r.c) r.c = 0
    · rw [fz j.i hl h0]; exact RJ.run hh (j.next hh h0)
    · by_cases h6 : bc (xM C r.c) r.c = 6
      · rw [jJ j.i hl h6, j.out]; decide
      · rw [jI j.i hl h6 h0]; exact nW
theorem mC {c : List In} {j : Nat} : ∀ {i : Nat}, (dF c i).getD j default = true → (dF c (i + 1)).getD j default = true := by
 intro i h
 have hl := eY (c := c) (i := i)
 have key : ∀ {u : List Bool} {k : Nat}, u.getD j default = true → (u.set k true).getD j default = true := by
  intro u k hu
  rw [List.getD_eq_getElem?_getD, List.getElem?_set]
  split
  rename_i e
  split
  rfl
  rename_i hlt
  have hju := (show j < u.length by
   rcases Nat.lt_or_ge j u.length with h1 | h1
   · exact h1
   · rw [List.getD_eq_getElem?_getD, List.getElem?_eq_none h1] at hu; cases hu)
  omega
  rw [← List.getD_eq_getElem?_getD]; exact hu
 rw [dF]
 split <;> split <;> simp only [key h, key (key h), h]
theorem jP {c : List In} {j : Nat} : ∀ {n i : Nat}, i ≤ n → (dF c i).getD j default = true → (dF c n).getD j default = true
 | 0, i, hi, h => by
  obtain rfl : i = 0 := (by omega)
  exact h
 | n + 1, i, hi, h => by
  rcases Nat.lt_or_ge n i with h1 | h1
  obtain rfl : i = n + 1 := by omega
  exact h
  exact mC (jP h1 h)
theorem pC {c : List In} : (dF c 0).getD 0 default = true := by
 rw [dF, List.getD_eq_getElem?_getD, List.getElem?_set]; simp
theorem pB {c : List In} {i : Nat} (hi : i < c.length) (hj : c8 (c.getD i default) = true) (ha : 0 ≤ (c.getD i default).a ∧ (c.getD i default).a ≤ 79) : (dF c (i + 1)).getD (c.getD i default).a.toNat default = true := by
 have hl := eY (c := c) (i := i)
 rw [dF, if_pos (by rw [hj]; rfl), if_pos hj, List.getD_eq_getElem?_getD, List.getElem?_set]
 split
 rw [if_pos (by rw [List.length_set]; omega)]; rfl
 rw [List.getElem?_set, if_pos Z, if_pos (by omega)]; rfl
theorem md {c : List In} {t : Int} (h0 : 0 ≤ t) (hl : t < c.length) (h : (dF c c.length).getD t.toNat default = true) : t ∈ LL c := by
 have e : t = ((t.toNat : Nat) : Int) := by omega
 show t ∈ fq (lu c) (lu c).length
 rw [e]
 refine kM.2 ⟨by rw [iz]; omega, ?_⟩
 show ((dF c c.length).take c.length).getD t.toNat default = true
 rw [List.getD_eq_getElem?_getD, List.getElem?_take, if_pos (by omega), ← List.getD_eq_getElem?_getD]
 exact h
theorem nT {c : List In} {k : Nat} : ((k : Int) ∈ RL c) ↔ R0 c k := by
 show (k : Int) ∈ fq (bz c [0]) (bz c [0]).length ↔ _
 rw [kM, ck, ← nU]
 constructor
 rintro ⟨h1, h2⟩; exact (eP h1).1 h2
 intro h
 have hl := (nU.1 h).lt
 exact ⟨hl, (eP hl).2 h⟩
theorem pF {C : List In} {s : Sx} {n : Nat} (hc : br C = true) : HtOk C (kU C qT).isSome (hsL (kU C qT)) (bA C n (eF C s)).cnt (bA C n (eF C s)).out := by
 have hin := bO hc
 have htg := jX hc
 have hz : R0 C 0 := .start (z := 0) (by simp) (by decide) (by omega)
 have hrun := RI.run (n := n) (RI.zero (s := s) (show 0 < C.length by omega))
 have hsome : (kU C qT).isSome = true → ∃ h, kU C qT = some h ∧ HOk C qT h := fun hs => by
  obtain ⟨h, hh⟩ := Option.isSome_iff_exists.1 hs
  exact ⟨h, hh, n4 hh⟩
 have hta : ∀ k, k < C.length → ∀ t ∈ tg (C.getD k default) k, (t = k + 1) ∨ (c8 (C.getD k default) = true ∧ t = (C.getD k default).a) := by
  intro k hk t ht
  unfold tg at ht
  unfold c8
  split at ht
  cases ht
  split at ht
  rename_i h5
  exact .inr ⟨by rw [decide_eq_true h5]; rfl, List.mem_singleton.1 ht⟩
  split at ht
  rename_i h6
  split at ht
  simp only [List.mem_cons, List.not_mem_nil, or_false] at ht
  rcases ht with rfl | rfl
  exact .inr ⟨by rw [decide_eq_true h6, Bool.or_true], Z⟩
  exact .inl Z
  split at ht
  left; exact List.mem_singleton.1 ht
  simp only [List.mem_cons, List.not_mem_nil, or_false] at ht
  rcases ht with rfl | rfl
  exact .inl Z
  exact .inr ⟨by rw [decide_eq_true h6, Bool.or_true], Z⟩
  left; exact List.mem_singleton.1 ht
 have hja : ∀ k, k < C.length → c8 (C.getD k default) = true → 0 ≤ (C.getD k default).a ∧ (C.getD k default).a ≤ 79 := fun k hk hj => by
  rw [aM hk] at hj ⊢; exact htg.2 _ (List.getElem_mem hk) hj
 refine ⟨?_, nT.2 hz, hrun.1, fun hs => ?_, fun k hk hp => nT.2 (hrun.2 k hp), fun hs k hk => ?_, fun k hk t ht => ?_, fun k hk t ht hr hl => ?_, fun k hk t ht hl hne => ?_⟩
 exact md (by decide) (by omega) (jP (ga _) pC)
 obtain ⟨h, he, hh⟩ := hsome hs
 rw [he]
 exact ⟨hh.len, RJ.run hh ⟨⟨Int.le_refl _, by show (0 : Int) < C.length; omega⟩, hz, by show (0 : Int) = h.getD 0 default; rw [hh.zero], Z⟩⟩
 obtain ⟨h, he, hh⟩ := hsome hs
 rw [he, nT]
 show h.getD k default ≥ 0 ↔ _
 constructor
 intro h0
 by_cases hr : R0 C k
 exact hr
 rw [hh.neg k hk hr] at h0; exact absurd h0 (by decide)
 intro hr; exact hh.nn k hr
 rcases hta k hk t ht with h | ⟨h, e⟩
 omega
 have := hja k hk h; omega
 have h0 : 0 ≤ t := by
  rcases hta k hk t ht with h | ⟨h, e⟩
  omega
  have := hja k hk h; omega
 have e : t = ((t.toNat : Nat) : Int) := by omega
 rw [e]
 exact nT.2 (.step (nT.1 hr) ht h0 hl)
 rcases hta k hk t ht with h | ⟨h, e⟩
 exact absurd h hne
 have ha := hja k hk h
 rw [e]
 exact md ha.1 (by omega) (jP (i := k + 1) (by omega) (pB hk h ha))
theorem oq {L : Nat} (h1 : 4096 ≤ L) (h2 : L ≤ 9223372036854775807) {xs ys : List Int} : MC Try.prog L 4 [.c (.d (bys xs)), .c (.d (bys ys))] [] (Plain (eB (bif decide ((48 : Int) < xs.length) then true else decide ((48 : Int) < ys.length)))) := by
 refine aI ?_ Z
 have O := m3 (nt := 13) h1 h2
 refine MC.body O Try.func4 (by kernel_rfl) Z Z (Nat.le_of_ble_eq_true Z) (fun hF => ?_)
 refine ac (js O Z (aW (js O Z ?_)))
 first | refine cw O Z ?_ | refine js O Z ?_ | refine bm O Z Z ?_
 refine j2 O Z Z (jf [8,4,1] Z (aU 3 Z Z Z (fun hx => AN.step hx Z Z Z (V O Z) Z Z ( AN.step hx Z Z Z (bu O Z Z Z Z Z Z Z Z) Z Z ( AN.step hx Z Z Z (V O Z) Z Z ( AN.nil)))) Z Z ?_))
 first | refine AOps.step (aQ O Z Z Z Z Z) Z Z Z ?_ | refine AOps.step (Val.pickB O Z Z Z Z Z) Z Z Z ?_ | refine AOps.step (aB O Z Z Z Z Z) Z Z Z ?_
 refine js O Z (jf [4] Z (jr ?_))
 refine ⟨.inl Z, _, ap, _, Z, ?_⟩
 rfl
theorem ov {L : Nat} (h1 : 4096 ≤ L) (h2 : L ≤ 9223372036854775807) {xs ys : List Int} (h0 : (bif decide ((48 : Int) < xs.length) then true else decide ((48 : Int) < ys.length)) = true) : MC Try.prog L 3 [.c (.d (bys xs)), .c (.d (bys ys))] [] (Plain (eB true)) := by
 refine MC.data ?_
 have O := m3 (nt := 205) h1 h2
 refine MC.body O Try.func3 (by kernel_rfl) Z Z (Nat.le_of_ble_eq_true Z) (fun hF => ?_)
 refine ac (js O Z (jn (ak (ac (j2 O Z Z (af O Z Z Z Z (oq (xs := xs) (ys := ys) h1 h2) (ab Z) Z Z Z Z Z (B0 := 28000) Z (jf [27,4,0,1] Z (jn (aa O Z Z (fun hc27 => ?_) (fun hc27 => ?_))))))))))
 refine ac (js O Z (jr ?_))
 refine ⟨.inl Z, _, ap, _, Z, ?_⟩
 exact .v (.c .d)
 exact absurd hc27 (by rw [h0]; decide)
theorem om {L : Nat} (h1 : 4096 ≤ L) (h2 : L ≤ 1073741824) {code : List In} (hcb : br code = true) : MC Try.prog L 9 [bf code] [] (Plain (.tup [aT (fq (lu code) (lu code).length), eB true])) := (pQ h1 h2 hcb).frozen (.tup (.cons (.c (.whole rfl (dE _).symm)) (.cons (.c .d) .nil)))
theorem gy {L M : Nat} : ∀ {xs : List Int}, Dss.fact L (List.map (fun n => [D.int IntKind.u8 n]) xs) → Dss.fact M (List.map (fun n => [D.int IntKind.u8 n]) xs)
 | [], _ => trivial
 | x :: xs, h => by
  have ih := gy (L := L) (M := M) (xs := xs)
  simp only [List.map_cons, Dss.fact, Ds.fact, D.fact] at h ⊢
  exact ⟨h.1, ih h.2⟩
theorem mD {xs ys : List Int} (hx : ∀ n ∈ xs, 0 ≤ n ∧ n ≤ 255) (hy : ∀ n ∈ ys, 0 ≤ n ∧ n ≤ 255) (hlx : xs.length ≤ 48) (hly : ys.length ≤ 48) : MC Try.prog 1073741824 3 [.c (.d (bys xs)), .c (.d (bys ys))] [] (Plain (eB true)) := by
 have h1 : 4096 ≤ 1073741824 := by decide
 have h2 : 1073741824 ≤ 1073741824 := cZ _
 have hc := n9 (s := ⟨xs, 0, 0⟩) ⟨hx⟩
 have hst : lr (iL ⟨ys, 0, 0⟩).1 = true := by
  obtain ⟨a, b, _⟩ := oe (s := ⟨ys, 0, 0⟩) ⟨hy⟩
  unfold lr; rw [a, b]; rfl
 have hC := pT h1 h2 hx
 have hS := pS h1 h2 hy
 generalize (kV ⟨xs, 0, 0⟩).1 = C at hc hC
 generalize (iL ⟨ys, 0, 0⟩).1 = st at hst hS
 have hin := bO hc
 have hk := pF (s := st) (n := 60) hc
 have hR := oo h1 h2 hc
 have hL := om h1 h2 hc
 have hCn := ol (F := 60) h1 h2 hc hst (by decide)
 have hRn := oi (F := 60) h1 h2 hc hst (by decide)
 have hH := pV h1 h2 hc hin.2.2 (by omega)
 cases hq : kU C qT with
 | some h =>
  rw [hq] at hk hH
  exact ot h1 h2 hlx hly hc hC hS (MC.frozen (v := .tup [aT h, eB true]) hH (.tup (.cons (.c (.whole Z (dE _).symm)) (.cons (.c .d) .nil)))) hR hL hCn hRn hk
 | none =>
  rw [hq] at hk hH
  exact ou h1 h2 hlx hly hc hC hS (MC.frozen (v := .tup [aT [], eB false]) hH (.tup (.cons (.c .nils) (.cons (.c .d) .nil)))) hR hL hCn hRn hk
theorem law1296 {L : Nat} (h1 : 4096 ≤ L) (h2 : L ≤ 9223372036854775807) {xs ys : List Int} (hx : ∀ n ∈ xs, 0 ≤ n ∧ n ≤ 255) (hy : ∀ n ∈ ys, 0 ≤ n ∧ n ≤ 255) : MC Try.prog L 3 [.c (.d (bys xs)), .c (.d (bys ys))] [] (Plain (eB true)) := by
 cases h0 : (bif decide ((48 : Int) < xs.length) then true else decide ((48 : Int) < ys.length)) with
 | true => exact ov h1 h2 h0
 | false =>
  have hl : xs.length ≤ 48 ∧ ys.length ≤ 48 := by
   cases ha : decide ((48 : Int) < xs.length) with
   | true => rw [ha] at h0; cases h0
   | false =>
    rw [ha] at h0
    have := bh ha
    have := bh h0
    omega
  refine MC.facts ⟨_, _, Try.func3, by kernel_rfl, Z⟩ fun hF => ?_
  refine ni (L0 := 1073741824) Z ?_ (mD hx hy hl.1 hl.2)
  simp [As.fact, A.fact, M.fact, D.fact, Ds.fact] at hF ⊢
  exact ⟨⟨by omega, gy hF.1.2⟩, ⟨by omega, gy hF.2.2⟩⟩
end Go.Al
