/- What is drawn from bytes; the machine and heights of its stack. -/
import Derived.Test.YtikejfdfkemmmaaC
import Derived.Test.YtikejfdfkemmmaaE
import Derived.Test.YtikejfdfkemmmaaF
set_option linter.unusedVariables false
set_option linter.unusedSimpArgs false
set_option maxRecDepth 10000
set_option maxHeartbeats 4000000
open Go.Proofs
namespace Go.Al
variable {L : Nat} (h1 : 4096 ≤ L) (h2 : L ≤ 1073741824)
structure Src where
  code : List Int
  at_ : Nat
  seed : Int
abbrev bys (xs : List Int) : D := .slc 1 (xs.map fun n => [.int .u8 n])
abbrev aL (s : Src) : B := .box [.d (bys s.code), .d (.int .i64 (s.at_ : Nat)), .d (.int .u64 s.seed)]
def Src.b (s : Src) : Int := if s.at_ < s.code.length then IntKind.i64.wrap (s.code.getD s.at_ default) else 0
def Src.step (s : Src) : Src := ⟨s.code, s.at_ + 1, IntKind.u64.wrap (IntKind.u64.wrap (IntKind.u64.wrap (s.seed * 6364136223846793005) + IntKind.u64.wrap s.b) + 1442695040888963407)⟩
def Src.val (s : Src) : Int := if s.at_ + 1 ≤ s.code.length then s.b else lH s.step.seed
structure Src.Ok (s : Src) : Prop where
  code : ∀ n ∈ s.code, 0 ≤ n ∧ n ≤ 255
theorem Src.Ok.step {s : Src} (h : s.Ok) : s.step.Ok := ⟨h.code⟩
theorem mK {s : Src} (h : s.Ok) : 0 ≤ s.b ∧ s.b ≤ 255 := by
 unfold Src.b
 split
 rename_i hlt
 have := h.code _ (by rw [aM hlt]; exact List.getElem_mem hlt : s.code.getD s.at_ default ∈ s.code)
 rw [eW .i64 _ (by show (-9223372036854775808 : Int) ≤ _; omega) (by show _ ≤ (9223372036854775807 : Int); omega)]
 exact this
 omega
theorem bC {s : Src} (h : s.Ok) : 0 ≤ s.val ∧ s.val ≤ 255 := by
 unfold Src.val
 split
 exact mK h
 exact m9 _
theorem ow {s : Src} (ha : s.at_ ≤ 1000000000) (hi : s.at_ < s.code.length) : MQ h1 h2 40 [.c (.pt 0 0 0)] [(0, aL s)] (bB (eI s.val) [(0, aL s.step)]) := by
 refine MC.shift 500 Z (MC.keep [500] (bs := [aL s.step]) Z Z (jH 62 [500] h1 h2 Try.func40 Z Z Z Z fun O hF => ?_))
 refine dw ?_
 have hb : s.b = IntKind.i64.wrap (s.code.getD s.at_ default) := if_pos hi
 have hv : s.val = s.b := if_pos hi
 refine ac (js O Z (aW (js O Z (jn (ak (ak (gW O [_,_,_,_,_,_,_,_,_,_] [pn [] 0 0, pn [0] 0 0, pn [0,1] 0 0, pn [0,1,2] 0 0, pn [] 0 0, pn [4] 0 0, pn [4,5] 0 0, pn [4,5,6] 0 0, pn (rg 4 4) 0 0, pn (rg 0 9) 0 0] [] [_] (kc O Z (kc O Z (kc O Z (kc O Z (kc O Z (kc O Z (kc O Z (kc O Z (ai (bu O Z Z Z Z Z Z Z Z) (kc O Z trivial)))))))))) ?_)))))))
 refine jw [13,3,2,0] Z (dw ?_)
 refine aa O Z Z (fun hc13 => ?_) (fun hc13 => ?_)
 refine jw [2,0] Z (gW O [_,_,_,_,_,_,_,_,_,_,_,_] [pn [] 0 0, pn [0] 0 0, pn [0,1] 0 0, pn [0,1,2] 0 0, pn [] 0 0, pn [4] 0 0, pn [4,5] 0 0, pn [4,5,6] 0 0, pn (rg 0 8) 0 0, pn (rg 0 9) 0 0, pn (rg 0 10) 0 0, pn (rg 0 11) 0 0] [] [_] (kc O Z (kc O Z (kc O Z (kc O Z (kc O Z (kc O Z (kc O Z (kc O Z (ai (cT O Z Z Z Z Z Z Z Z (iP hi)) (kc O Z (ai (Val.conv O (k' := .i64) (dt := .int .u8) (b := true) Z Z Z (by kernel_rfl) (by kernel_rfl)) (kc O Z trivial)))))))))))) ?_)
 refine jw [3,2,0] Z (dw ?_)
 refine ac ?_
 rw [← hb]
 refine j4 O Z Z Z Z (AOps.step ((vF O Z).cast (v' := eI ((s.at_ + 1 : Nat) : Int)) (congrArg eI (by omega))) Z Z Z (j2 O Z Z (jf [31,29,3,2,0] Z (jo O Z (au ?_)))))
 refine jf [3,2,0] Z (aW (j4 O Z Z Z Z (j3 O Z Z Z (AOps.step (Val.conv O (k' := .u64) (dt := .int .i64) (b := true) Z Z Z (by kernel_rfl) (by kernel_rfl)) Z Z Z (j4 O Z Z Z Z (jf [43,41,3,2,0] Z (jo O Z (au ?_))))))))
 refine jf [3,2,0] Z (jn (ak (ak (gW O [_,_,_,_,_,_,_,_,_,_] [pn [] 0 0, pn [0] 0 0, pn [0,1] 0 0, pn [0,1,2] 0 0, pn [] 0 0, pn [4] 0 0, pn [4,5] 0 0, pn [4,5,6] 0 0, pn (rg 4 4) 0 0, pn (rg 0 9) 0 0] [] [_] (kc O Z (kc O Z (kc O Z (kc O Z (kc O Z (kc O Z (kc O Z (kc O Z (ai (bu O Z Z Z Z Z Z Z Z) (kc O Z trivial)))))))))) ?_))))
 refine jw [53,3,2,0] Z (dw ?_)
 refine aa O Z Z (fun hc53 => ?_) (fun hc53 => ?_)
 refine ac (j2 O Z Z (jf [2,3,0] Z (jr ?_)))
 refine ⟨.inl Z, _, ap, _, Z, by rw [hv]; rfl, Z⟩
 exact absurd (bh hc53) (by omega)
 exact absurd (bh hc13) (by omega)
theorem ox {s : Src} (ha : s.at_ ≤ 1000000000) (hi : ¬ s.at_ < s.code.length) : MQ h1 h2 40 [.c (.pt 0 0 0)] [(0, aL s)] (bB (eI s.val) [(0, aL s.step)]) := by
 refine MC.shift 500 Z (MC.keep [500] (bs := [aL s.step]) Z Z (jH 62 [500] h1 h2 Try.func40 Z Z Z Z fun O hF => ?_))
 refine dw ?_
 have hb : s.b = 0 := if_neg hi
 have hv : s.val = lH s.step.seed := if_neg (by omega)
 refine ac (js O Z (aW (js O Z (jn (ak (ak (gW O [_,_,_,_,_,_,_,_,_,_] [pn [] 0 0, pn [0] 0 0, pn [0,1] 0 0, pn [0,1,2] 0 0, pn [] 0 0, pn [4] 0 0, pn [4,5] 0 0, pn [4,5,6] 0 0, pn (rg 4 4) 0 0, pn (rg 0 9) 0 0] [] [_] (kc O Z (kc O Z (kc O Z (kc O Z (kc O Z (kc O Z (kc O Z (kc O Z (ai (bu O Z Z Z Z Z Z Z Z) (kc O Z trivial)))))))))) ?_)))))))
 refine jw [13,3,2,0] Z (dw ?_)
 refine aa O Z Z (fun hc13 => ?_) (fun hc13 => ?_)
 exact absurd (ay hc13) (by omega)
 refine am (ac (j4 O Z Z Z Z (AOps.step ((vF O Z).cast (v' := eI ((s.at_ + 1 : Nat) : Int)) (congrArg eI (by omega))) Z Z Z (j2 O Z Z (jf [31,29,3,2,0] Z (jo O Z (au ?_)))))))
 refine jf [3,2,0] Z (aW (j4 O Z Z Z Z (j3 O Z Z Z ?_)))
 rw [← hb]
 refine AOps.step (Val.conv O (k' := .u64) (dt := .int .i64) (b := true) Z Z Z (by kernel_rfl) (by kernel_rfl)) Z Z Z (j4 O Z Z Z Z (jf [43,41,3,2,0] Z (jo O Z (au ?_))))
 refine jf [3,2,0] Z (jn (ak (ak (gW O [_,_,_,_,_,_,_,_,_,_] [pn [] 0 0, pn [0] 0 0, pn [0,1] 0 0, pn [0,1,2] 0 0, pn [] 0 0, pn [4] 0 0, pn [4,5] 0 0, pn [4,5,6] 0 0, pn (rg 4 4) 0 0, pn (rg 0 9) 0 0] [] [_] (kc O Z (kc O Z (kc O Z (kc O Z (kc O Z (kc O Z (kc O Z (kc O Z (ai (bu O Z Z Z Z Z Z Z Z) (kc O Z trivial)))))))))) ?_))))
 refine jw [53,3,2,0] Z (dw ?_)
 refine aa O Z Z (fun hc53 => ?_) (fun hc53 => ?_)
 exact absurd (ay hc53) (by omega)
 refine am (ac (j4 O Z Z Z Z (AOps.step (Val.shr O Z Z Z Z Z (by decide)) Z Z Z (AOps.step (mI O Z Z Z Z Z) Z Z Z (AOps.step (Val.conv O (k' := .i64) (dt := .int .u64) (b := true) Z Z Z (by kernel_rfl) (by kernel_rfl)) Z Z Z (js O Z (jf [2,3,0] Z (jr ?_))))))))
 refine ⟨.inl Z, _, ap, _, Z, by rw [hv]; rfl, Z⟩
theorem lX {L : Nat} (h1 : 4096 ≤ L) (h2 : L ≤ 1073741824) {s : Src} (ha : s.at_ ≤ 1000000000) : MC Try.prog L 40 [.c (.pt 0 0 0)] [(0, aL s)] (bB (eI s.val) [(0, aL s.step)]) := by
 by_cases hi : s.at_ < s.code.length
 exact ow h1 h2 ha hi
 exact ox h1 h2 ha hi
def Src.pick (n : Int) (s : Src) : Int × Src := if n ≤ 1 then (0, s) else if 200 < n then ((s.val * 256 + s.step.val).tmod n, s.step.step) else (s.val.tmod n, s.step)
theorem m8 {n : Int} {s : Src} (h : n ≤ 1) : s.pick n = (0, s) := if_pos h
theorem mt {n : Int} {s : Src} (h : ¬ n ≤ 1) (h2 : ¬ 200 < n) : s.pick n = (s.val.tmod n, s.step) := by unfold Src.pick; rw [if_neg h, if_neg h2]
theorem mu {n : Int} {s : Src} (h : ¬ n ≤ 1) (h2 : 200 < n) : s.pick n = ((s.val * 256 + s.step.val).tmod n, s.step.step) := by unfold Src.pick; rw [if_neg h, if_pos h2]
theorem Src.Ok.pick {s : Src} (h : s.Ok) {n : Int} : (s.pick n).2.Ok := by
 unfold Src.pick; split
 exact h
 split
 exact h.step.step
 exact h.step
theorem aX {s : Src} {n : Int} : (s.pick n).2.at_ ≤ s.at_ + 2 := by
 unfold Src.pick; split
 exact Nat.le_add_right _ _
 split
 exact cZ _
 show s.at_ + 1 ≤ s.at_ + 2; omega
theorem c5 {a n : Int} (ha : 0 ≤ a) (hn : 0 < n) : 0 ≤ a.tmod n ∧ a.tmod n < n := by
 rw [Int.tmod_eq_emod_of_nonneg ha]
 exact ⟨Int.emod_nonneg _ (by omega), Int.emod_lt_of_pos _ hn⟩
theorem aR {s : Src} (h : s.Ok) {n : Int} (hn : 1 ≤ n) : 0 ≤ (s.pick n).1 ∧ (s.pick n).1 < n := by
 have h1 := bC h
 have h2 := bC h.step
 unfold Src.pick; split
 exact ⟨by show (0 : Int) ≤ 0; omega, by show (0 : Int) < n; omega⟩
 split
 exact c5 (by omega) (by omega)
 exact c5 h1.1 (by omega)
variable {n : Int}
theorem oA {s : Src} (hs : s.Ok) (ha : s.at_ ≤ 999999990) (hn0 : -1000000000 ≤ n) (hn1 : n ≤ 1000000000) (h : n ≤ 1) : MQ h1 h2 27 [.c (.pt 0 0 0), eI n] [(0, aL s)] (bB (eI (s.pick n).1) [(0, aL (s.pick n).2)]) := by
 refine MC.shift 500 Z (MC.keep [500] (bs := [aL (s.pick n).2]) Z Z (jH 20 [500] h1 h2 Try.func27 Z Z Z Z fun O hF => ?_))
 rw [m8 h]
 have hv := bC hs
 have hv2 := bC hs.step
 refine dw ?_
 refine ac (js O Z (jn (ak (ac (j2 O Z Z (jn (aa O Z Z (fun hc7 => ?_) (fun hc7 => ?_))))))))
 refine ac (js O Z (jr ?_))
 refine ⟨.inl Z, _, ap, _, Z, Z, Z⟩
 exact absurd (bh hc7) (by omega)
theorem oz {s : Src} (hs : s.Ok) (ha : s.at_ ≤ 999999990) (hn0 : -1000000000 ≤ n) (hn1 : n ≤ 1000000000) (h : ¬ n ≤ 1) (h3 : ¬ 200 < n) : MQ h1 h2 27 [.c (.pt 0 0 0), eI n] [(0, aL s)] (bB (eI (s.pick n).1) [(0, aL (s.pick n).2)]) := by
 refine MC.shift 500 Z (MC.keep [500] (bs := [aL (s.pick n).2]) Z Z (jH 20 [500] h1 h2 Try.func27 Z Z Z Z fun O hF => ?_))
 rw [mt h h3]
 have hv := bC hs
 have hv2 := bC hs.step
 refine dw ?_
 refine ac (js O Z (jn (ak (ac (j2 O Z Z (jn (aa O Z Z (fun hc7 => ?_) (fun hc7 => ?_))))))))
 exact absurd (ay hc7) (by omega)
 refine am (ac (js O Z (jf [8,6,4,0,1] Z (al O [500] (bin := [aL s]) Z Z Z Z (lX (s := s) h1 h2 (by omega)) Z Z Z Z Z Z (B0 := 10000) Z Z (au ?_)))))
 refine js O Z (jf [5,6,4,0,1] Z (jn (ak (ac (j2 O Z Z (jn (aa O Z Z (fun hc11 => ?_) (fun hc11 => ?_))))))))
 exact absurd (ay hc11) (by omega)
 refine am (ac (j2 O Z Z (AOps.step (fF O Z Z Z Z (by omega) (by have := c5 (n := n) hv.1 (by omega); omega) (by have := c5 (n := n) hv.1 (by omega); omega)) Z Z Z (js O Z (jf [4,10,5,6,0,1] Z (jr ?_))))))
 refine ⟨.inl Z, _, ap, _, Z, Z, Z⟩
theorem oy {s : Src} (hs : s.Ok) (ha : s.at_ ≤ 999999990) (hn0 : -1000000000 ≤ n) (hn1 : n ≤ 1000000000) (h : ¬ n ≤ 1) (h3 : 200 < n) : MQ h1 h2 27 [.c (.pt 0 0 0), eI n] [(0, aL s)] (bB (eI (s.pick n).1) [(0, aL (s.pick n).2)]) := by
 refine MC.shift 500 Z (MC.keep [500] (bs := [aL (s.pick n).2]) Z Z (jH 20 [500] h1 h2 Try.func27 Z Z Z Z fun O hF => ?_))
 rw [mu h h3]
 have hv := bC hs
 have hv2 := bC hs.step
 refine dw ?_
 refine ac (js O Z (jn (ak (ac (j2 O Z Z (jn (aa O Z Z (fun hc7 => ?_) (fun hc7 => ?_))))))))
 exact absurd (ay hc7) (by omega)
 refine am (ac (js O Z (jf [8,6,4,0,1] Z (al O [500] (bin := [aL s]) Z Z Z Z (lX (s := s) h1 h2 (by omega)) Z Z Z Z Z Z (B0 := 10000) Z Z (au ?_)))))
 refine js O Z (jf [5,6,4,0,1] Z (jn (ak (ac (j2 O Z Z (jn (aa O Z Z (fun hc11 => ?_) (fun hc11 => ?_))))))))
 refine ae (js O Z (AOps.step (ag O Z Z (by omega) (by omega)) Z Z Z (js O Z (jf [14,13,10,5,6,4,0,1] Z (al O [500] (bin := [aL s.step]) Z Z Z Z (lX (s := s.step) h1 h2 (by show s.at_ + 1 ≤ _; omega)) Z Z Z Z Z Z (B0 := 16000) Z Z (au ?_))))))
 refine AOps.step (ag O Z Z (by omega) (by omega)) Z Z Z (js O Z (jf [5,10,6,4,0,1] Z (aW (j2 O Z Z (AOps.step (fF O Z Z Z Z (by omega) (by have := c5 (n := n) (a := s.val * 256 + s.step.val) (by omega) (by omega); omega) (by have := c5 (n := n) (a := s.val * 256 + s.step.val) (by omega) (by omega); omega)) Z Z Z (js O Z (jf [4,5,10,6,0,1] Z (jr ?_))))))))
 refine ⟨.inl Z, _, ap, _, Z, Z, Z⟩
 exact absurd (bh hc11) (by omega)
theorem bX {L : Nat} (h1 : 4096 ≤ L) (h2 : L ≤ 1073741824) {s : Src} {n : Int} (hs : s.Ok) (ha : s.at_ ≤ 999999990) (hn0 : -1000000000 ≤ n) (hn1 : n ≤ 1000000000) : MC Try.prog L 27 [.c (.pt 0 0 0), eI n] [(0, aL s)] (bB (eI (s.pick n).1) [(0, aL (s.pick n).2)]) := by
 by_cases h : n ≤ 1
 exact oA h1 h2 hs ha hn0 hn1 h
 by_cases h3 : 200 < n
 exact oy h1 h2 hs ha hn0 hn1 h h3
 exact oz h1 h2 hs ha hn0 hn1 h h3
theorem iU {s : Src} (hs : s.Ok) (ha : s.at_ ≤ 999999990) (hn0 : -1000000000 ≤ n) (hn1 : n ≤ 1000000000)  : MQ h1 h2 25 [.c (.pt 0 0 0), eI n] [(0, aL s)] (bB (eB (decide ((s.pick n).1 = 0))) [(0, aL (s.pick n).2)]) := by
 refine MC.shift 500 Z (MC.keep [500] (bs := [aL (s.pick n).2]) Z Z (jH 9 [500] h1 h2 Try.func25 Z Z Z Z fun O hF => ?_))
 refine dw ?_
 refine ac (js O Z (aW (j2 O Z Z (jf [6,5,4] Z (al O [500] (bin := [aL s]) Z Z Z Z (bX (s := s) (n := n) h1 h2 hs ha hn0 hn1) Z Z Z Z Z Z (B0 := 8000) Z Z (au ?_))))))
 refine j2 O Z Z (jf [4] Z (jr ?_))
 refine ⟨.inl Z, _, ap, _, Z, Z, Z⟩
variable {xs : List Int}
theorem kE {s : Src} (hs : s.Ok) (ha : s.at_ ≤ 999999990) (hx0 : 1 ≤ xs.length) (hx1 : xs.length ≤ 1000) : MQ h1 h2 29 [.c (.pt 0 0 0), aT xs] [(0, aL s)] (bB (eI (xs.getD (s.pick xs.length).1.toNat default)) [(0, aL (s.pick xs.length).2)]) := by
 refine MC.shift 500 Z (MC.keep [500] (bs := [aL (s.pick xs.length).2]) Z Z (jH 12 [500] h1 h2 Try.func29 Z Z Z Z fun O hF => ?_))
 have hp := aR hs (n := xs.length) (by omega)
 refine dw ?_
 refine ac (js O Z (aW (j3 O Z Z Z ?_)))
 first | refine cw O Z ?_ | refine js O Z ?_ | refine bm O Z Z ?_
 refine jf [8,6,5,4] Z (al O [500] (bin := [aL s]) Z Z Z Z (bX (s := s) (n := xs.length) h1 h2 hs ha (by omega) (by omega)) Z Z Z Z Z Z (B0 := 10000) Z Z (au ?_))
 refine AOps.step (bR O Z Z Z Z Z Z Z Z hp.1 (ee hp.1 hp.2)) Z Z Z (j2 O Z Z (jf [4] Z (jr ?_)))
 refine ⟨.inl Z, _, ap, _, Z, Z, Z⟩
theorem nG : MQ h1 h2 14 [.c (.d (bys xs))] [] (bB (.c (.pt 0 0 0)) [(0, aL ⟨xs, 0, 0⟩)]) := by
 refine MC.shift 500 Z (MC.keep [500] (bs := [aL ⟨xs, 0, 0⟩]) Z Z (jB 6 h1 h2 Try.func14 Z Z Z fun O hF => ?_))
 refine ac (js O Z (aW (j2 O Z Z (jf [4,2] Z (jx O Z (au ?_))))))
 refine js O Z (jf [2] Z (jr ?_))
 refine ⟨.inl Z, _, aj 5 500 Z Z, _, Z, Z, Z⟩
inductive Gr (e : Nat → List Int) (n : Nat) (st : List Int) : Nat → Prop
  | start {z : Int} : z ∈ st → 0 ≤ z → z < n → Gr e n st z.toNat
  | step {k : Nat} {z : Int} : Gr e n st k → z ∈ e k → 0 ≤ z → z < n → Gr e n st z.toNat
theorem Gr.lt {e : Nat → List Int} {n : Nat} {st : List Int} {k : Nat} (h : Gr e n st k) : k < n := by cases h <;> omega
open Classical in
structure GR (e : Nat → List Int) (n : Nat) (st : List Int) (u : List Bool) (ws : List Int) : Prop where
  len : u.length = n
  nn : ∀ z ∈ ws, 0 ≤ z ∧ z < n
  sd : ∀ k, k < n → u.getD k default = true → Gr e n st k
  sw : ∀ z ∈ ws, Gr e n st z.toNat
  cl : ∀ k, k < n → u.getD k default = true → ∀ z ∈ e k, 0 ≤ z → z < n → u.getD z.toNat default = true ∨ z ∈ ws
  cs : ∀ z ∈ st, 0 ≤ z → z < n → u.getD z.toNat default = true ∨ z ∈ ws
structure GP (e : Nat → List Int) (n i : Nat) (u : List Bool) (pd : List Int) : Prop where
  len : u.length = n
  nn : ∀ z ∈ pd, 0 ≤ z ∧ z < n
  sd : ∀ k, k < n → u.getD k default = true → Gr e n (e i) k
  pr : ∀ z ∈ pd, z.toNat = i ∨ Gr e n (e i) z.toNat
  cl : ∀ k, k < n → (k = i ∨ u.getD k default = true) → (k : Int) ∈ pd ∨ ∀ z ∈ e k, 0 ≤ z → z < n → u.getD z.toNat default = true
structure GPi (e : Nat → List Int) (n i : Nat) (u : List Bool) (pd : List Int) (k j : Nat) : Prop where
  len : u.length = n
  nn : ∀ z ∈ pd, 0 ≤ z ∧ z < n
  sd : ∀ m, m < n → u.getD m default = true → Gr e n (e i) m
  pr : ∀ z ∈ pd, z.toNat = i ∨ Gr e n (e i) z.toNat
  cl : ∀ m, m < n → (m = i ∨ u.getD m default = true) → m = k ∨ (m : Int) ∈ pd ∨ ∀ z ∈ e m, 0 ≤ z → z < n → u.getD z.toNat default = true
  kn : k < n
  kk : k = i ∨ Gr e n (e i) k
  dn : ∀ z ∈ (e k).take j, 0 ≤ z → z < n → u.getD z.toNat default = true
def mv (x : In) : Int × Int := if x.op = 0 ∨ x.op = 1 then (0, 1) else if x.op = 2 ∨ x.op = 6 ∨ x.op = 10 then (1, 0) else if x.op = 3 then (2, 1) else if x.op = 4 ∨ x.op = 7 then (1, 1) else if x.op = 8 then (2, 0) else (0, 0)
theorem dk {x : In} : (0 ≤ (mv x).1 ∧ (mv x).1 ≤ 2) ∧ 0 ≤ (mv x).2 ∧ (mv x).2 ≤ 1 := by
 unfold mv
 split
 decide
 split
 decide
 split
 decide
 split
 decide
 split <;> decide
abbrev mT (c : List In) : Nat → List Int := fun k => tg (c.getD k default) k
abbrev dK (c : List In) (h : List Int) (k : Nat) : Int := h.getD k default - (mv (c.getD k default)).1 + (mv (c.getD k default)).2
abbrev R0 (c : List In) : Nat → Prop := Gr (mT c) c.length [0]
structure HOk (c : List In) (Q : Nat → Int → Prop) (h : List Int) : Prop where
  len : h.length = c.length
  zero : h.getD 0 default = 0
  neg : ∀ k, k < c.length → ¬ R0 c k → h.getD k default = -1
  nn : ∀ k, R0 c k → 0 ≤ h.getD k default
  q : ∀ k, R0 c k → Q k (h.getD k default)
  low : ∀ k, R0 c k → (mv (c.getD k default)).1 ≤ h.getD k default ∧ dK c h k ≤ 6
  nx : ∀ k, R0 c k → ∀ z ∈ mT c k, 0 ≤ z ∧ z < c.length ∧ h.getD z.toNat default = dK c h k
theorem HOk.val {c : List In} {Q Q' : Nat → Int → Prop} {h h' : List Int} (a : HOk c Q h) (b : HOk c Q' h') {k : Nat} (hk : R0 c k) : h.getD k default = h'.getD k default := by
 induction hk with
 | start hz _ _ =>
  simp only [List.mem_singleton] at hz; subst hz
  exact a.zero.trans b.zero.symm
 | step hk hz _ _ ih =>
  rw [(a.nx _ hk _ hz).2.2, (b.nx _ hk _ hz).2.2]
  show h.getD _ default - _ + _ = h'.getD _ default - _ + _
  rw [ih]
theorem HOk.eq {c : List In} {Q Q' : Nat → Int → Prop} {h h' : List Int} (a : HOk c Q h) (b : HOk c Q' h') : h = h' := by
 refine List.ext_getElem (by rw [a.len, b.len]) fun k h1 h2 => ?_
 rw [← aM h1, ← aM h2]
 by_cases hk : R0 c k
 exact a.val b hk
 rw [a.neg k (by rw [← a.len]; exact h1) hk, b.neg k (by rw [← a.len]; exact h1) hk]
abbrev Dn (c : List In) (Q : Nat → Int → Prop) (u : List Int) (k : Nat) : Prop :=
  Q k (u.getD k default) ∧ ((mv (c.getD k default)).1 ≤ u.getD k default ∧ dK c u k ≤ 6) ∧ ∀ z ∈ mT c k, 0 ≤ z ∧ z < c.length ∧ u.getD z.toNat default = dK c u k
structure HSr (c : List In) (Q : Nat → Int → Prop) (u : List Int) (pd : List Int) : Prop where
  len : u.length = c.length
  zero : u.getD 0 default = 0
  lo : ∀ k, k < c.length → -1 ≤ u.getD k default ∧ u.getD k default ≤ 6
  nn : ∀ z ∈ pd, 0 ≤ z ∧ z < c.length ∧ 0 ≤ u.getD z.toNat default
  sd : ∀ k, k < c.length → 0 ≤ u.getD k default → R0 c k
  con : ∀ h, HOk c Q h → ∀ k, k < c.length → 0 ≤ u.getD k default → h.getD k default = u.getD k default
  dn : ∀ k, k < c.length → 0 ≤ u.getD k default → (k : Int) ∈ pd ∨ Dn c Q u k
structure HSi (c : List In) (Q : Nat → Int → Prop) (u : List Int) (pd : List Int) (ts : List Int) (k j : Nat) : Prop where
  len : u.length = c.length
  zero : u.getD 0 default = 0
  lo : ∀ k, k < c.length → -1 ≤ u.getD k default ∧ u.getD k default ≤ 6
  nn : ∀ z ∈ pd, 0 ≤ z ∧ z < c.length ∧ 0 ≤ u.getD z.toNat default
  sd : ∀ k, k < c.length → 0 ≤ u.getD k default → R0 c k
  con : ∀ h, HOk c Q h → ∀ k, k < c.length → 0 ≤ u.getD k default → h.getD k default = u.getD k default
  dn : ∀ m, m < c.length → 0 ≤ u.getD m default → m = k ∨ (m : Int) ∈ pd ∨ Dn c Q u m
  kn : k < c.length
  k0 : 0 ≤ u.getD k default
  kk : Q k (u.getD k default) ∧ ((mv (c.getD k default)).1 ≤ u.getD k default ∧ dK c u k ≤ 6)
  tk : ∀ z ∈ (ts.take j), 0 ≤ z ∧ z < c.length ∧ u.getD z.toNat default = dK c u k
theorem cd {u : List Int} {j k : Nat} {v : Int} (hj : j < u.length) : (u.set j v).getD k default = if k = j then v else u.getD k default := by
 rw [List.getD_eq_getElem?_getD, List.getD_eq_getElem?_getD, List.getElem?_set]
 by_cases h : j = k
 subst h; simp [hj]
 rw [if_neg h, if_neg (fun e => h e.symm)]
def mQ (n : Nat) : List Int := (List.replicate n (-1)).set 0 0
theorem e6 {n k : Nat} (hn : 0 < n) (hk : k < n) : (mQ n).getD k default = if k = 0 then 0 else -1 := by
 unfold mQ
 rw [cd (by simpa using hn)]
 split
 rfl
 rw [List.getD_eq_getElem?_getD, List.getElem?_replicate, if_pos hk]; rfl
theorem mN {c : List In} {Q : Nat → Int → Prop} (hn : 0 < c.length) : HSr c Q (mQ c.length) [0] := by
 have key : ∀ k, k < c.length → 0 ≤ (mQ c.length).getD k default → k = 0 := fun k hk h => by
  rw [e6 hn hk] at h
  split at h
  · assumption
  · exact absurd h (by decide)
 refine ⟨by simp [mQ], by rw [e6 hn hn]; rfl, fun k hk => ?_, fun z hz => ?_, fun k hk h => ?_, fun h hh k hk h0 => ?_, fun k hk h => ?_⟩
 rw [e6 hn hk]; split <;> decide
 simp only [List.mem_singleton] at hz; subst hz
 refine ⟨by decide, by omega, ?_⟩
 show 0 ≤ (mQ c.length).getD 0 default
 rw [e6 hn hn]; decide
 have := key k hk h; subst this
 exact .start (z := 0) (by simp) (by decide) (by omega)
 have := key k hk h0; subst this
 rw [hh.zero, e6 hn hn]; rfl
 have := key k hk h; subst this
 exact .inl (by simp)
theorem HSr.take {c : List In} {Q : Nat → Int → Prop} {u pd pd' ts : List Int} {k : Nat} (h : HSr c Q u pd) (hm : ∀ y, y ∈ pd ↔ y = (k : Int) ∨ y ∈ pd') (hq : Q k (u.getD k default)) (h1 : (mv (c.getD k default)).1 ≤ u.getD k default) (h2 : dK c u k ≤ 6) : HSi c Q u pd' ts k 0 := by
 have hk := h.nn k ((hm k).2 (.inl Z))
 rw [Int.toNat_natCast] at hk
 refine ⟨h.len, h.zero, h.lo, fun z hz => h.nn z ((hm z).2 (.inr hz)), h.sd, h.con, fun m hmn hmu => ?_, by omega, hk.2.2, ⟨hq, h1, h2⟩, fun z hz => by simp at hz⟩
 rcases h.dn m hmn hmu with g | g
 rcases (hm m).1 g with g | g
 exact .inl (by omega)
 exact .inr (.inl g)
 exact .inr (.inr g)
theorem HSr.mem {c : List In} {Q : Nat → Int → Prop} {u pd : List Int} {k : Nat} (h : HSr c Q u pd) (hk : (k : Int) ∈ pd) : k < c.length ∧ 0 ≤ u.getD k default ∧ R0 c k ∧ ∀ x, HOk c Q x → x.getD k default = u.getD k default := by
 have g := h.nn k hk
 rw [Int.toNat_natCast] at g
 have hkn : k < c.length := by omega
 exact ⟨hkn, g.2.2, h.sd k hkn g.2.2, fun x hx => h.con x hx k hkn g.2.2⟩
theorem HSr.nol {c : List In} {Q : Nat → Int → Prop} {u pd : List Int} {k : Nat} (h : HSr c Q u pd) (hk : (k : Int) ∈ pd) (hq : ¬ ((mv (c.getD k default)).1 ≤ u.getD k default ∧ dK c u k ≤ 6)) : ∀ x, ¬ HOk c Q x := fun x hx => by
 obtain ⟨_, _, hr, hc⟩ := h.mem hk
 have := hx.low k hr
 simp only [dK, hc x hx] at this; exact hq this
theorem HSi.nox {c : List In} {Q : Nat → Int → Prop} {u pd ts : List Int} {k j : Nat} {z : Int} (h : HSi c Q u pd ts k j) (hz : z ∈ mT c k) (hb : ¬ (0 ≤ z ∧ z < c.length)) : ∀ x, ¬ HOk c Q x := fun x hx => by
 have := hx.nx k (h.sd k h.kn h.k0) z hz
 exact hb ⟨this.1, this.2.1⟩
theorem HSi.noe {c : List In} {Q : Nat → Int → Prop} {u pd ts : List Int} {k j : Nat} {z : Int} (h : HSi c Q u pd ts k j) (hz : z ∈ mT c k) (h0 : 0 ≤ z) (hl : z < c.length) (hu : 0 ≤ u.getD z.toNat default) (hb : u.getD z.toNat default ≠ dK c u k) : ∀ x, ¬ HOk c Q x := fun x hx => by
 have a := (hx.nx k (h.sd k h.kn h.k0) z hz).2.2
 rw [h.con x hx z.toNat (by omega) hu] at a
 simp only [dK, h.con x hx k h.kn h.k0] at a
 exact hb a
theorem HSi.old {c : List In} {Q : Nat → Int → Prop} {u pd ts : List Int} {k j : Nat} {z : Int} (h : HSi c Q u pd ts k j) (hj : j < ts.length) (hz : ts.getD j default = z) (h0 : 0 ≤ z) (hl : z < c.length) (hb : u.getD z.toNat default = dK c u k) : HSi c Q u pd ts k (j + 1) := by
 refine ⟨h.len, h.zero, h.lo, h.nn, h.sd, h.con, h.dn, h.kn, h.k0, h.kk, fun y hy => ?_⟩
 rw [List.take_succ_eq_append_getElem hj, List.mem_append, List.mem_singleton, ← aM hj, hz] at hy
 rcases hy with hy | rfl
 exact h.tk y hy
 exact ⟨h0, hl, hb⟩
theorem HSi.new {c : List In} {Q : Nat → Int → Prop} {u pd pd' ts : List Int} {k j : Nat} {z : Int} (h : HSi c Q u pd ts k j) (hj : j < ts.length) (hz : ts.getD j default = z) (ht : z ∈ mT c k) (h0 : 0 ≤ z) (hl : z < c.length) (hu : u.getD z.toNat default < 0) (hm : ∀ y, y ∈ pd' ↔ y = z ∨ y ∈ pd) : HSi c Q (u.set z.toNat (dK c u k)) pd' ts k (j + 1) := by
 have hzu : z.toNat < u.length := by rw [h.len]; omega
 have hb0 : 0 ≤ dK c u k ∧ dK c u k ≤ 6 := by
  have := h.kk.2; have := dk (x := c.getD k default)
  exact ⟨by show 0 ≤ _ - _ + _; omega, h.kk.2.2⟩
 have same : ∀ m, 0 ≤ u.getD m default → (u.set z.toNat (dK c u k)).getD m default = u.getD m default := fun m g => by
  rw [cd hzu, if_neg (fun e => by subst e; omega)]
 have hbk : dK c (u.set z.toNat (dK c u k)) k = dK c u k := by
  show (u.set z.toNat (dK c u k)).getD k default - _ + _ = _
  rw [same k h.k0]
 have dnk : ∀ m, 0 ≤ u.getD m default → Dn c Q u m → Dn c Q (u.set z.toNat (dK c u k)) m := fun m g0 ⟨a, b, d⟩ => by
  have e := same m g0
  have e2 : dK c (u.set z.toNat (dK c u k)) m = dK c u m := by
    show (u.set z.toNat (dK c u k)).getD m default - _ + _ = _
    rw [e]
  refine ⟨by rw [e]; exact a, by rw [e, e2]; exact b, fun y hy => ?_⟩
  have g := d y hy
  have := dk (x := c.getD m default)
  have h9 := b.1
  refine ⟨g.1, g.2.1, ?_⟩
  rw [e2, same _ (by rw [g.2.2]; show 0 ≤ _ - _ + _; omega)]
  exact g.2.2
 refine ⟨by rw [List.length_set]; exact h.len, ?_, fun m hm2 => ?_, fun y hy => ?_, fun m hmn hmu => ?_, fun x hx m hmn hmu => ?_, fun m hmn hmu => ?_, h.kn, by rw [same k h.k0]; exact h.k0, by rw [hbk, same k h.k0]; exact h.kk, fun y hy => ?_⟩
 rw [same 0 (by rw [h.zero]; decide)]; exact h.zero
 rw [cd hzu]
 split
 omega
 exact h.lo m hm2
 rcases (hm y).1 hy with rfl | hy
 exact ⟨h0, hl, by rw [cd hzu, if_pos Z]; exact hb0.1⟩
 have := h.nn y hy
 exact ⟨this.1, this.2.1, by rw [same _ this.2.2]; exact this.2.2⟩
 rw [cd hzu] at hmu
 split at hmu
 rename_i e; subst e
 exact .step (h.sd k h.kn h.k0) ht h0 hl
 exact h.sd m hmn hmu
 rw [cd hzu] at hmu ⊢
 split at hmu
 rename_i e; subst e
 rw [if_pos Z]
 have := (hx.nx k (h.sd k h.kn h.k0) z ht).2.2
 rw [this]
 show x.getD k default - _ + _ = _
 rw [h.con x hx k h.kn h.k0]
 rename_i e
 rw [if_neg e]
 exact h.con x hx m hmn hmu
 by_cases e : m = z.toNat
 exact .inr (.inl ((hm _).2 (.inl (by omega))))
 rw [cd hzu, if_neg e] at hmu
 rcases h.dn m hmn hmu with g | g | g
 exact .inl g
 exact .inr (.inl ((hm _).2 (.inr g)))
 exact .inr (.inr (dnk m hmu g))
 rw [List.take_succ_eq_append_getElem hj, List.mem_append, List.mem_singleton, ← aM hj, hz] at hy
 rw [hbk]
 rcases hy with hy | rfl
 have g := h.tk y hy
 exact ⟨g.1, g.2.1, by rw [same _ (by rw [g.2.2]; exact hb0.1)]; exact g.2.2⟩
 exact ⟨h0, hl, by rw [cd hzu, if_pos Z]⟩
theorem HSi.end_ {c : List In} {Q : Nat → Int → Prop} {u pd ts : List Int} {k j : Nat} (h : HSi c Q u pd ts k j) (hj : ts.length ≤ j) (ht : ∀ z ∈ mT c k, z ∈ ts) : HSr c Q u pd := by
 refine ⟨h.len, h.zero, h.lo, h.nn, h.sd, h.con, fun m hmn hmu => ?_⟩
 rcases h.dn m hmn hmu with rfl | g | g
 exact .inr ⟨h.kk.1, h.kk.2, fun z hz => h.tk z (by rw [List.take_of_length_le hj]; exact ht z hz)⟩
 exact .inl g
 exact .inr g
theorem HSr.done {c : List In} {Q : Nat → Int → Prop} {u : List Int} (h : HSr c Q u []) : HOk c Q u := by
 have nn : ∀ k, R0 c k → 0 ≤ u.getD k default := fun k hk => by
  induction hk with
  | start hz _ _ =>
    simp only [List.mem_singleton] at hz; subst hz
    show 0 ≤ u.getD 0 default
    rw [h.zero]; decide
  | step hk hz h0 hl ih =>
    rename_i k z
    obtain ⟨_, b, d⟩ := (h.dn k hk.lt ih).resolve_left (by simp)
    rw [(d z hz).2.2]
    have := dk (x := c.getD k default)
    show 0 ≤ _ - _ + _; omega
 have dn : ∀ k, R0 c k → Dn c Q u k := fun k hk => (h.dn k hk.lt (nn k hk)).resolve_left (by simp)
 refine ⟨h.len, h.zero, fun k hk hn => ?_, nn, fun k hk => (dn k hk).1, fun k hk => (dn k hk).2.1, fun k hk => (dn k hk).2.2⟩
 have := h.lo k hk
 have : ¬ 0 ≤ u.getD k default := fun g => hn (h.sd k hk g)
 omega
open Classical in
noncomputable def kU (c : List In) (Q : Nat → Int → Prop) : Option (List Int) := if h : ∃ u, HOk c Q u then some (Classical.choose h) else none
theorem mE {c : List In} {Q : Nat → Int → Prop} {u : List Int} (h : HOk c Q u) : kU c Q = some u := by
 unfold kU
 rw [dif_pos ⟨u, h⟩]
 exact congrArg some ((Classical.choose_spec (⟨u, h⟩ : ∃ u, HOk c Q u)).eq h)
theorem gt {c : List In} {Q : Nat → Int → Prop} (h : ∀ u, ¬ HOk c Q u) : kU c Q = none := by
 unfold kU
 rw [dif_neg (fun ⟨u, hu⟩ => h u hu)]
theorem n4 {c : List In} {Q : Nat → Int → Prop} {u : List Int} (h : kU c Q = some u) : HOk c Q u := by
 unfold kU at h
 split at h
 rename_i g; rw [← Option.some.inj h]; exact Classical.choose_spec g
 cases h
abbrev qT : Nat → Int → Prop := fun _ _ => True
abbrev dL (u : List Int) : Nat := u.countP fun v => decide (v < 0)
theorem je {u : List Int} {j : Nat} {v : Int} (hj : j < u.length) (h : u.getD j default < 0) (hv : 0 ≤ v) : dL (u.set j v) + 1 = dL u := by
 rw [aM hj] at h
 have hp : 0 < u.countP (fun v => decide (v < 0)) := List.countP_pos_iff.2 ⟨_, List.getElem_mem hj, decide_eq_true h⟩
 show List.countP _ (u.set j v) + 1 = _
 rw [List.countP_set hj]
 simp only [h, decide_true, if_true]
 rw [if_neg (by simp; omega)]
 show List.countP _ u - 1 + 0 + 1 = List.countP _ u
 omega
theorem kX {n : Nat} (hn : 0 < n) : dL (mQ n) + 1 = n := by
 have h := je (u := List.replicate n (-1 : Int)) (j := 0) (v := 0) (by simpa using hn) (by cases n with | zero => omega | succ n => exact (by decide : (-1 : Int) < 0)) (by decide)
 have e : dL (List.replicate n (-1 : Int)) = n := by simp [dL, List.countP_replicate]
 rw [e] at h; exact h
open Classical in
structure Cf where
  vars : List Int
  cells : List Int
  stack : List Int
  at_ : Int
def bG (n : Int) : Bool := bW (-10000000000000000) 10000000000000000 n
def iN (x : In) : Nat := (mv x).1.toNat
def gd (x : In) (n : Nat) : Nat := n - iN x
def pM (x : In) (c : Cf) (j : Nat) : Int := c.stack.getD (gd x c.stack.length + j) default
def cY (x : In) (n : Nat) : Bool := bif decide ((n : Int) - (mv x).1 < 0) then true else (bif decide ((mv x).2 > 0) then decide ((n : Int) - (mv x).1 + (mv x).2 > 6) else false)
def nJ (n b : Int) : Int × Bool := if bG (n * b) = true then (n * b, true) else (0, false)
def bc (x : In) (c : Cf) : Int :=
  if x.op = 11 then 6 else if x.op = 2 then (if f5 (pM x c 0) = true then 0 else 4)
  else if x.op = 3 then (if bG (pM x c 0 + pM x c 1) = true then 0 else 4)
  else if x.op = 4 then (if bG (pM x c 0 * x.a) = true then 0 else 4)
  else if x.op = 7 then (if bW 0 7 (pM x c 0) = true then 0 else 2)
  else if x.op = 8 then (if bW 0 7 (pM x c 0) = true then (if f5 (pM x c 1) = true then 0 else 4) else 2)
  else if x.op = 10 then (if pM x c 0 < 0 then 3 else 0)
  else 0
def dI (x : In) (c : Cf) : Int := if x.op = 5 then x.a else if x.op = 6 then (if pM x c 0 < 0 then x.a else c.at_ + 1) else c.at_ + 1
def dJ (x : In) : Int := if x.op = 9 then x.a else -1
def eU (x : In) (c : Cf) : Int :=
  if x.op = 0 then x.a else if x.op = 1 then c.vars.getD x.a.toNat default else if x.op = 3 then pM x c 0 + pM x c 1
  else if x.op = 4 then pM x c 0 * x.a else if x.op = 7 then c.cells.getD (pM x c 0).toNat default else 0
def dZ (x : In) (c : Cf) : List Int := if x.op = 2 then c.vars.set x.a.toNat (pM x c 0) else c.vars
def d9 (x : In) (c : Cf) : List Int := if x.op = 8 then c.cells.set (pM x c 0).toNat (pM x c 1) else c.cells
def iq (x : In) (c : Cf) : List Int := if 0 < (mv x).2 then c.stack.take (gd x c.stack.length) ++ [eU x c] else c.stack.take (gd x c.stack.length)
def cH (x : In) (c : Cf) : Cf := ⟨dZ x c, d9 x c, iq x c, dI x c⟩
structure COk (c : Cf) : Prop where
  vl : c.vars.length = 4
  cl : c.cells.length = 8
  vb : ∀ n ∈ c.vars, f5 n = true
  cb : ∀ n ∈ c.cells, f5 n = true
  sw : ∀ n ∈ c.stack, bG n = true
  sl : c.stack.length ≤ 6
theorem iW {n : Int} : bG n = true ↔ -10000000000000000 ≤ n ∧ n ≤ 10000000000000000 := by
 unfold bG bW; simp only [aY, decide_eq_true_eq]
theorem ne {n : Int} : f5 n = true ↔ -1000000000 ≤ n ∧ n ≤ 1000000000 := by
 unfold f5; simp only [aY, decide_eq_true_eq]
theorem COk.pw {c : Cf} (h : COk c) {x : In} {j : Nat} (hj : gd x c.stack.length + j < c.stack.length) : bG (pM x c j) = true := by
 unfold pM; rw [aM hj]; exact h.sw _ (List.getElem_mem hj)
theorem lS {x : In} (h : av x = true) : x.op = 0 ∨ x.op = 1 ∨ x.op = 2 ∨ x.op = 3 ∨ x.op = 4 ∨ x.op = 5 ∨ x.op = 6 ∨ x.op = 7 ∨ x.op = 8 ∨ x.op = 9 ∨ x.op = 10 ∨ x.op = 11 := by
 unfold av at h
 split at h
 omega
 split at h
 omega
 split at h
 omega
 split at h
 omega
 split at h
 omega
 cases h
theorem lZ {x : In} (h : av x = true) (ho : x.op = 1 ∨ x.op = 2) : 0 ≤ x.a ∧ x.a ≤ 3 := by
 unfold av at h
 rw [if_neg (by omega), if_pos ho] at h
 unfold bW at h; simp only [aY, decide_eq_true_eq] at h; exact h
theorem qe {x : In} (h : av x = true) (ho : x.op = 5 ∨ x.op = 6) : 0 ≤ x.a ∧ x.a ≤ 79 := by
 unfold av at h
 rw [if_neg (by omega), if_neg (by omega), if_pos ho] at h
 unfold bW at h; simp only [aY, decide_eq_true_eq] at h; exact h
theorem l3 {x : In} (h : av x = true) (ho : x.op = 0 ∨ x.op = 4) : gc x.a = true := by
 unfold av at h
 rwa [if_pos ho] at h
theorem COk.next {c : Cf} (h : COk c) {x : In} (hx : av x = true) (hlo : cY x c.stack.length = false) (ho : bc x c = 0) : COk (cH x c) := by
 have hlo1 : 0 ≤ (c.stack.length : Int) - (mv x).1 ∧ (0 < (mv x).2 → (c.stack.length : Int) - (mv x).1 + (mv x).2 ≤ 6) := by
  unfold cY at hlo
  cases h1 : decide ((c.stack.length : Int) - (mv x).1 < 0) with
  | true => rw [h1] at hlo; cases hlo
  | false =>
   rw [h1] at hlo
   have h2 := bh h1
   refine ⟨by omega, fun h3 => ?_⟩
   rw [show decide ((mv x).2 > 0) = true from decide_eq_true h3] at hlo
   have h4 := bh (show decide ((c.stack.length : Int) - (mv x).1 + (mv x).2 > 6) = false from hlo)
   omega
 have hmi := dk (x := x)
 have hpn : (iN x : Int) = (mv x).1 := by unfold iN; omega
 have hlf : (gd x c.stack.length : Int) = (c.stack.length : Int) - (mv x).1 := by unfold gd; omega
 have hpw : ∀ j, j < iN x → bG (pM x c j) = true := fun j hj => h.pw (by unfold gd; omega)
 have hsl : (c.stack.take (gd x c.stack.length)).length = gd x c.stack.length := by rw [List.length_take]; unfold gd; omega
 have hbw : ∀ {n : Int}, f5 n = true → bG n = true := fun hn => by rw [ne] at hn; rw [iW]; omega
 have hout := ho
 refine ⟨?_, ?_, ?_, ?_, ?_, ?_⟩
 show (dZ x c).length = 4
 unfold dZ; split
 rw [List.length_set]; exact h.vl
 exact h.vl
 show (d9 x c).length = 8
 unfold d9; split
 rw [List.length_set]; exact h.cl
 exact h.cl
 show ∀ n ∈ dZ x c, _
 unfold dZ; split
 rename_i h2
 intro n hn
 rcases List.mem_or_eq_of_mem_set hn with h3 | h3
 exact h.vb n h3
 rw [h3]
 unfold bc at ho
 rw [if_neg (by omega), if_pos h2] at ho
 split at ho
 assumption
 cases ho
 exact h.vb
 show ∀ n ∈ d9 x c, _
 unfold d9; split
 rename_i h2
 intro n hn
 rcases List.mem_or_eq_of_mem_set hn with h3 | h3
 exact h.cb n h3
 rw [h3]
 unfold bc at ho
 rw [if_neg (by omega), if_neg (by omega), if_neg (by omega), if_neg (by omega), if_neg (by omega), if_pos h2] at ho
 split at ho
 split at ho
 assumption
 cases ho
 cases ho
 exact h.cb
 show ∀ n ∈ iq x c, _
 unfold iq; split
 rename_i h2
 intro n hn
 rcases List.mem_append.1 hn with h3 | h3
 exact h.sw n (List.mem_of_mem_take h3)
 rw [List.mem_singleton.1 h3]
 unfold eU
 split
 rename_i h4
 have := l3 hx (.inl h4)
 unfold gc at this
 simp only [aY, decide_eq_true_eq] at this
 rw [iW]; omega
 split
 rename_i h4
 have h5 := lZ hx (.inl h4)
 have h6 := h.vl
 exact hbw (by rw [aM (by omega)]; exact h.vb _ (List.getElem_mem _))
 split
 rename_i h4
 unfold bc at ho
 rw [if_neg (by omega), if_neg (by omega), if_pos h4] at ho
 split at ho
 assumption
 cases ho
 split
 rename_i h4
 unfold bc at ho
 rw [if_neg (by omega), if_neg (by omega), if_neg (by omega), if_pos h4] at ho
 split at ho
 assumption
 cases ho
 split
 rename_i h4
 unfold bc at ho
 rw [if_neg (by omega), if_neg (by omega), if_neg (by omega), if_neg (by omega), if_pos h4] at ho
 split at ho
 rename_i h5
 unfold bW at h5; simp only [aY, decide_eq_true_eq] at h5
 have h6 := h.cl
 exact hbw (by rw [aM (by omega)]; exact h.cb _ (List.getElem_mem _))
 cases ho
 exact iW.2 (by omega)
 intro n hn
 exact h.sw n (List.mem_of_mem_take hn)
 show (iq x c).length ≤ 6
 have h0 := h.sl
 unfold iq; split
 rename_i h2
 have := hlo1.2 h2
 rw [cx, hsl, gb]; omega
 rw [hsl]; unfold gd; omega
structure Rn where
  c : Cf
  ev : List Int
  cnt : List Int
  out : Int
def nk (ev : List Int) (e : Int) : List Int := if 0 ≤ e then ev ++ [e] else ev
def bA (code : List In) : Nat → Rn → Rn
  | 0, r => { r with out := 1 }
  | n + 1, r => if (0 ≤ r.c.at_ ∧ r.c.at_ < code.length) ∧ cY (code.getD r.c.at_.toNat default) r.c.stack.length = false then
      (if bc (code.getD r.c.at_.toNat default) r.c = 6 then r else if bc (code.getD r.c.at_.toNat default) r.c ≠ 0 then { r with out := bc (code.getD r.c.at_.toNat default) r.c }
      else bA code n ⟨cH (code.getD r.c.at_.toNat default) r.c, nk r.ev (dJ (code.getD r.c.at_.toNat default)), r.cnt.set r.c.at_.toNat (r.cnt.getD r.c.at_.toNat default + 1), r.out⟩)
    else { r with out := 5 }
def qQ : Option (List Int) → A
  | some h => .tup [.c (.rs 0 0 h.length), eB true]
  | none => .tup [.c (.d .nils), eB false]
def qP : Option (List Int) → List B
  | some h => [ah h]
  | none => []
def dm (n i : Nat) : List Int := List.replicate i (-1) ++ List.replicate (n - i) 0
theorem j7 {n : Nat} : dm n 0 = List.replicate n 0 := by simp [dm]
theorem k7 {n : Nat} : dm n n = List.replicate n (-1) := by simp [dm]
theorem ie {n i : Nat} (h : i ≤ n) : (dm n i).length = n := by simp [dm]; omega
theorem k6 {n i : Nat} (h : i < n) : (dm n i).set i (-1) = dm n (i + 1) := by
 unfold dm
 obtain ⟨m, rfl⟩ : ∃ m, n = i + 1 + m := ⟨n - (i + 1), by omega⟩
 rw [show i + 1 + m - i = m + 1 by omega, show i + 1 + m - (i + 1) = m by omega, List.set_append_right _ _ (by simp), List.length_replicate, Nat.sub_self, List.replicate_succ, List.set_cons_zero, List.replicate_succ', dg]; rfl
theorem HSi.be {c : List In} {Q : Nat → Int → Prop} {u pd ts : List Int} {k j : Nat} (h : HSi c Q u pd ts k j) : 0 ≤ dK c u k ∧ dK c u k ≤ 6 := by
 have := h.kk.2; have := dk (x := c.getD k default)
 exact ⟨by show 0 ≤ _ - _ + _; omega, h.kk.2.2⟩
theorem HSi.bes {c : List In} {Q : Nat → Int → Prop} {u pd ts : List Int} {k j : Nat} {z : Int} {v : Int} (h : HSi c Q u pd ts k j) (hz : u.getD z.toNat default < 0) (h0 : 0 ≤ z) (hl : z < c.length) : dK c (u.set z.toNat v) k = dK c u k := by
 have hzu : z.toNat < u.length := by rw [h.len]; omega
 show (u.set z.toNat v).getD k default - _ + _ = _
 rw [cd hzu, if_neg (fun e => by have := h.k0; rw [e] at this; omega)]
abbrev aIn (x : In) : A := .agg (x.cells.map .d)
theorem iT {x : In} : MQ h1 h2 18 [aIn x] [] (Plain (.tup [eI (mv x).1, eI (mv x).2])) := by
 refine MC.data (jB 20 h1 h2 Try.func18 Z Z Z fun O hF => ?_)
 refine ac (jx O Z (au ?_))
 refine aF (Ent.freeze 1 (e' := [(1, _), (0, _)]) Z (.cons Z (.c (.box (cs := In.cells x) Z (ba Z))) (fe [0] Z)) (.skip .nil)) ?_
 refine au ?_
 refine j2 O Z Z (jn (ak (ac (j2 O Z Z (jn (aq (ak (ac (j2 O Z Z (jn (aa O Z Z (fun hc6 => ?_) (fun hc6 => ?_))))))))))))
 try simp only [bv] at hc6
 refine am (aa O Z Z (fun hc6 => ?_) (fun hc6 => ?_))
 try simp only [bv] at hc6
 refine ac (j2 O Z Z (jr ?_))
 refine ⟨.inl Z, _, ap, _, Z, ?_⟩
 rw [show mv x = (0, 1) by unfold mv; simp_all]
 exact .tup (.cons (.c .d) (.cons (.c .d) .nil))
 try simp only [bv] at hc6
 contradiction
 try simp only [bv] at hc6
 refine ae (j2 O Z Z (jn (aa O Z Z (fun hc6 => ?_) (fun hc6 => ?_))))
 try simp only [bv] at hc6
 refine ac (j2 O Z Z (jr ?_))
 refine ⟨.inl Z, _, ap, _, Z, ?_⟩
 rw [show mv x = (0, 1) by unfold mv; simp_all]
 exact .tup (.cons (.c .d) (.cons (.c .d) .nil))
 try simp only [bv] at hc6
 refine ak (ac (j2 O Z Z (jn (aa O Z Z (fun hc9 => ?_) (fun hc9 => ?_)))))
 try simp only [bv] at hc9
 refine am (aa O Z Z (fun hc9 => ?_) (fun hc9 => ?_))
 try simp only [bv] at hc9
 refine ac (j2 O Z Z (jr ?_))
 refine ⟨.inl Z, _, ap, _, Z, ?_⟩
 rw [show mv x = (1, 0) by unfold mv; simp_all]
 exact .tup (.cons (.c .d) (.cons (.c .d) .nil))
 try simp only [bv] at hc9
 contradiction
 try simp only [bv] at hc9
 refine ac (j2 O Z Z (jn (aa O Z Z (fun hc9 => ?_) (fun hc9 => ?_))))
 try simp only [bv] at hc9
 refine am (aa O Z Z (fun hc9 => ?_) (fun hc9 => ?_))
 try simp only [bv] at hc9
 refine ac (j2 O Z Z (jr ?_))
 refine ⟨.inl Z, _, ap, _, Z, ?_⟩
 rw [show mv x = (1, 0) by unfold mv; simp_all]
 exact .tup (.cons (.c .d) (.cons (.c .d) .nil))
 try simp only [bv] at hc9
 contradiction
 try simp only [bv] at hc9
 refine ae (j2 O Z Z (jn (aa O Z Z (fun hc9 => ?_) (fun hc9 => ?_))))
 try simp only [bv] at hc9
 refine ac (j2 O Z Z (jr ?_))
 refine ⟨.inl Z, _, ap, _, Z, ?_⟩
 rw [show mv x = (1, 0) by unfold mv; simp_all]
 exact .tup (.cons (.c .d) (.cons (.c .d) .nil))
 try simp only [bv] at hc9
 refine ac (j2 O Z Z (jn (aa O Z Z (fun hc13 => ?_) (fun hc13 => ?_))))
 try simp only [bv] at hc13
 refine ac (j2 O Z Z (jr ?_))
 refine ⟨.inl Z, _, ap, _, Z, ?_⟩
 rw [show mv x = (2, 1) by unfold mv; simp_all]
 exact .tup (.cons (.c .d) (.cons (.c .d) .nil))
 try simp only [bv] at hc13
 refine ak (ac (j2 O Z Z (jn (aa O Z Z (fun hc15 => ?_) (fun hc15 => ?_)))))
 try simp only [bv] at hc15
 refine am (aa O Z Z (fun hc15 => ?_) (fun hc15 => ?_))
 try simp only [bv] at hc15
 refine ac (j2 O Z Z (jr ?_))
 refine ⟨.inl Z, _, ap, _, Z, ?_⟩
 rw [show mv x = (1, 1) by unfold mv; simp_all]
 exact .tup (.cons (.c .d) (.cons (.c .d) .nil))
 try simp only [bv] at hc15
 contradiction
 try simp only [bv] at hc15
 refine ae (j2 O Z Z (jn (aa O Z Z (fun hc15 => ?_) (fun hc15 => ?_))))
 try simp only [bv] at hc15
 refine ac (j2 O Z Z (jr ?_))
 refine ⟨.inl Z, _, ap, _, Z, ?_⟩
 rw [show mv x = (1, 1) by unfold mv; simp_all]
 exact .tup (.cons (.c .d) (.cons (.c .d) .nil))
 try simp only [bv] at hc15
 refine ac (j2 O Z Z (jn (aa O Z Z (fun hc18 => ?_) (fun hc18 => ?_))))
 try simp only [bv] at hc18
 refine ac (j2 O Z Z (jr ?_))
 refine ⟨.inl Z, _, ap, _, Z, ?_⟩
 rw [show mv x = (2, 0) by unfold mv; simp_all]
 exact .tup (.cons (.c .d) (.cons (.c .d) .nil))
 try simp only [bv] at hc18
 refine am (ac (j2 O Z Z (jr ?_)))
 refine ⟨.inl Z, _, ap, _, Z, ?_⟩
 rw [show mv x = (0, 0) by unfold mv; simp_all]
 exact .tup (.cons (.c .d) (.cons (.c .d) .nil))
theorem pV {c : List In} (hcb : br c = true) (h80 : c.length ≤ 80) (h0n : 0 < c.length) : MQ h1 h2 7 [bf c] [] (Rows (qQ (kU c qT)) (qP (kU c qT))) := by
 refine b9 (jB 106 h1 h2 Try.func7 Z Z Z fun O hF => ?_)
 refine ac (j2 O Z Z (jn (ak (ac (js O Z (af O Z Z Z Z ((lK (c := c) h1 h2).plain (u := eB true) (by rw [hcb])) (ab Z) Z Z Z Z Z (B0 := 16000) Z (js O Z (jf [16,3,2,0] Z (jn (aa O Z Z (fun hc16 => ?_) (fun hc16 => ?_)))))))))))
 cases hc16
 refine am (ac (js O Z ?_))
 first | refine cw O Z ?_ | refine js O Z ?_ | refine bm O Z Z ?_
 refine jf [18,3,2,0] Z (AOps.heap (f7 O Z Z Z Z Z Z Z Z Z (by first | omega | (simp at *; omega)) (by first | omega | (simp at *; omega)) (by first | omega | (simp at *; omega)) (by first | omega | (dsimp only; omega) | (simp only [bv] at *; omega)) (by first | omega | (simp at *; omega)) Z Z Z) Z (au ?_))
 refine js O Z (jf [4,3,2,0] Z (jn (ak (ac (js O Z ?_)))))
 first | refine cw O Z ?_ | refine js O Z ?_ | refine bm O Z Z ?_
 refine js O Z (jn (aq (aG (X := Nat) (fun i => ⟨[(0, bf c), (4, .c (.rs 19 0 c.length)), (21, eI c.length), (22, eI i)], [(19, ah (dm c.length i))]⟩) (fun i => i ≤ c.length) (fun i => c.length - i) 0 (Ent.to ⟨Z, Z, Z, Z, trivial⟩ (by rw [j7, ah, List.map_replicate]; rfl)) ?_ (fun i hi => ?_))))
 exact ga _
 refine ac (js O Z (jn (ak (aa O Z Z (fun hc23 => ?_) (fun hc23 => ?_)))))
 refine am (ak (aq (ac (j2 O Z Z (jn (ae (j2 O Z Z ?_)))))))
 have hil : i < c.length := by have := ay hc23; omega
 have hfl := ie (n := c.length) (i := i) (by omega)
 refine AOps.step (az O Z Z (by omega)) Z Z Z (jf [27,24,23,0,4,21,22] Z (AOps.heap (bd (ex := [.int .i64 ((dm c.length i).getD i default)]) (xs' := (dm c.length (i + 1)).map (fun n => [D.int .i64 n])) O Z Z Z Z Z Z Z Z Z Z Z Z Z Z (lw (by omega) (by omega)) (by rw [← k6 hil]; exact nI (by omega) Z)) Z (au ?_)))
 refine au ?_
 refine jn (ae ?_)
 first | refine ji O Z ?_ | refine bm O Z Z ?_
 refine js O Z (jn ?_)
 refine ⟨i + 1, Ent.to ⟨Z, Z, Z, Z, trivial⟩ Z, by omega, by omega⟩
 refine bF (ac ?_)
 have hin : i = c.length := by have := bh hc23; omega
 have hfl := ie (n := c.length) (i := i) (by omega)
 refine js O Z (AOps.step (az O Z Z (by omega)) Z Z Z (jf [30,23,0,4,21,22] Z (AOps.heap (bd (ex := [.int .i64 ((dm c.length i).getD 0 default)]) (xs' := (mQ c.length).map (fun n => [D.int .i64 n])) O Z Z Z Z Z Z Z Z Z Z Z Z Z Z (lw (by omega) (by omega)) (by rw [hin, k7]; exact nI (by omega) Z)) Z (au ?_))))
 refine au ?_
 refine jn (ak (ac (AOps.heap (bg O Z Z Z) Z (au ?_))))
 refine js O Z (jn (aq (aG (X := List Int × List Int) (fun x => ⟨[(0, bf c), (4, .c (.rs 19 0 c.length)), (6, .c (.rs 901 0 x.2.length))], [(19, ah x.1), (901, ah x.2)]⟩) (fun x => HSr c qT x.1 x.2 ∧ x.2.length + dL x.1 ≤ c.length) (fun x => 2 * dL x.1 + x.2.length) (mQ c.length, [0]) (((aN [19,31] (e' := [(0, _), (4, _), (6, _)]) Z Z ⟨Z, Z, Z, trivial⟩ Z).trans (aj 31 901 Z Z)).trans (Ent.to ⟨Z, Z, Z, trivial⟩ Z)) ?_ (fun x hi => ?_))))
 exact ⟨mN h0n, by have := kX h0n; show 1 + dL (mQ c.length) ≤ _; omega⟩
 refine ak (ac ?_)
 obtain ⟨u, e_u⟩ : ∃ u, u = x.1 := ⟨_, rfl⟩
 obtain ⟨ws, e_ws⟩ : ∃ ws, ws = x.2 := ⟨_, rfl⟩
 rw [← e_u, ← e_ws] at hi ⊢
 obtain ⟨hi1, hi2⟩ := hi
 have hul := hi1.len
 refine js O Z ?_
 first | refine cw O Z ?_ | refine js O Z ?_ | refine bm O Z Z ?_
 refine js O Z (jf [34,0,4,6] Z (jn (aa O Z Z (fun hc34 => ?_) (fun hc34 => ?_))))
 refine am (aq (ac ?_))
 obtain ⟨w2, z, ez⟩ : ∃ w2 z, ws = w2 ++ [z] := by rcases List.eq_nil_or_concat ws with h9 | ⟨w2, z, h9⟩; rw [h9] at hc34; cases hc34; exact ⟨w2, z, by rw [h9, List.concat_eq_append]⟩
 rw [ez] at hi1 hi2
 rw [cx, gb] at hi2
 have hzz := hi1.nn z (by simp)
 obtain ⟨k, rfl⟩ : ∃ k : Nat, z = (k : Int) := ⟨z.toNat, by omega⟩
 rw [ez, show (w2 ++ [(k : Int)]).length = w2.length + 1 by simp]
 have hdm : ∀ y, y ∈ w2 ++ [(k : Int)] ↔ y = (k : Int) ∨ y ∈ w2 := fun y => by rw [List.mem_append, List.mem_singleton]; exact Or.comm
 have hkm : (k : Int) ∈ w2 ++ [(k : Int)] := (hdm k).2 (.inl Z)
 obtain ⟨hkn, hk0, hkr, hkc⟩ := hi1.mem hkm
 have hlo := hi1.lo k hkn
 have hmv := dk (x := (c.getD k default))
 refine j2 O Z Z ?_
 first | refine cw O Z ?_ | refine js O Z ?_ | refine bm O Z Z ?_
 refine AOps.step ((ag O Z Z (by omega) (by omega)).cast (v' := eI (w2.length : Nat)) (congrArg eI (by omega))) Z Z Z (AOps.step (az O Z Z (by omega)) Z Z Z (AOps.step (ao O (ex := [.int .i64 (k : Int)]) Z Z Z Z (by simp) Z) Z Z Z (js O Z (jf [7,34,0,4,6] Z (aW (j2 O Z Z ?_))))))
 first | refine cw O Z ?_ | refine js O Z ?_ | refine bm O Z Z ?_
 refine AOps.step ((ag O Z Z (by omega) (by omega)).cast (v' := eI (w2.length : Nat)) (congrArg eI (by omega))) Z Z Z (AOps.step (aJ O Z Z Z Z Z Z Z Z Z Z (Nat.le_succ _)) Z Z Z (aF (Ent.cut 901 w2.length Z) (au ?_)))
 rw [kK]
 refine js O Z (jf [6,7,34,0,4] Z (aW (j2 O Z Z (AOps.step (cT O Z Z Z Z Z Z Z Z (iP hkn)) Z Z Z (js O Z (jf [50,6,7,34,0,4] Z (aC O Z Z Z Z (iT (x := (c.getD k default)) h1 h2) (ab Z) Z Z Z Z (B0 := 52000) Z Z (j4 O Z Z Z Z (js O Z (jf [9,8,6,7,34,0,4] Z (aW (j2 O Z Z (AOps.step (az O Z Z (by omega)) Z Z Z (AOps.step (ao O (ex := [.int .i64 (u.getD k default)]) Z Z Z Z (lw (by omega) (by omega)) Z) Z Z Z (js O Z ?_)))))))))))))))
 first | refine ji O Z ?_ | refine bm O Z Z ?_
 refine js O Z (jf [10,9,6,7,34,0,4] Z (aW (j2 O Z Z ?_)))
 first | refine ji O Z ?_ | refine bm O Z Z ?_
 refine js O Z (jf [11,10,6,7,34,0,4] Z (jn (ak (ak (f9 ⟨[(68, eB (bif decide (u.getD k default - (mv (c.getD k default)).1 < 0) then true else decide (6 < dK c u k))), (0, bf c), (4, .c (.rs 19 0 c.length)), (6, .c (.rs 901 0 w2.length)), (7, eI (k : Nat)), (11, eI (dK c u k))], [(19, ah u), (901, ah w2)]⟩ ?_ ?_)))))
 refine ae (j3 O Z Z Z ?_)
 cases hb66 : decide (u.getD k default - (mv (c.getD k default)).1 < 0) with
 | true =>
  refine jf [65,11,10,6,7,34,0,4] Z (AOps.skip Z Z Z Z Z Z (AOps.skip Z Z Z Z Z Z (AOps.step (cG O Z Z Z Z Z) Z Z Z (jf [68,11,10,6,7,34,0,4] Z (jn ?_)))))
  exact ⟨Z, (aN [19,901] (e' := [(68, _), (0, _), (4, _), (6, _), (7, _), (11, _)]) Z Z ⟨Z, Z, Z, Z, Z, Z, trivial⟩ Z).trans (Ent.to ⟨Z, Z, Z, Z, Z, Z, trivial⟩ Z)⟩
 | false =>
  refine jf [65,11,10,6,7,34,0,4] Z (aV Z (js O Z (aV Z (js O Z (AOps.step (ax O Z Z Z Z Z) Z Z Z (jf [68,11,10,6,7,34,0,4] Z (jn ?_)))))))
  exact ⟨Z, (aN [19,901] (e' := [(68, _), (0, _), (4, _), (6, _), (7, _), (11, _)]) Z Z ⟨Z, Z, Z, Z, Z, Z, trivial⟩ Z).trans (Ent.to ⟨Z, Z, Z, Z, Z, Z, trivial⟩ Z)⟩
 refine aa O Z Z (fun hc68 => ?_) (fun hc68 => ?_)
 refine ac (j2 O Z Z (jr ?_))
 have q3 := hc68
 rw [gt (hi1.nol hkm (fun h => by rw [decide_eq_false (show ¬ (u.getD k default - (mv (c.getD k default)).1 < 0) by omega), decide_eq_false (show ¬ 6 < dK c u k by omega)] at q3; cases q3))]
 refine ⟨.inl Z, _, ap, _, Z, [], by decide, Z, Z, Z⟩
 refine am (ac ?_)
 obtain ⟨hq1, hq2⟩ := qY hc68
 have hq1 := bh hq1
 have hq2 := bh hq2
 have htl := gg (x := (c.getD k default)) (k := k)
 refine j2 O Z Z (dv O (B0 := 72000) Z Z Z Z (lY (c := c) (k := k) h1 h2 hkn (by omega)) (ab Z) Z Z Z Z Z Z (au ?_))
 first | refine cw O Z ?_ | refine js O Z ?_ | refine bm O Z Z ?_
 refine js O Z (jf [73,72,71,68,0,4,6,7,11] Z (jn (aq ?_)))
 obtain ⟨M, hM⟩ : ∃ M, M = tg (c.getD k default) k := ⟨_, rfl⟩
 have hM2 : M.length ≤ 2 := by rw [hM]; exact gg
 obtain ⟨B, hB⟩ : ∃ B, B = dK c u k := ⟨_, rfl⟩
 rw [← hM, ← hB]
 refine aG (X := List Int × List Int × Nat) (fun y => ⟨[(0, bf c), (4, .c (.rs 19 0 c.length)), (6, .c (.rs 903 0 y.2.1.length)), (11, eI B), (71, .c (.rs 72000 0 M.length)), (72, eI M.length), (73, eI (y.2.2 : Nat))], [(19, ah y.1), (903, ah y.2.1), (72000, ah M)]⟩) (fun y => HSi c qT y.1 y.2.1 M k y.2.2 ∧ y.2.1.length + 1 + dL y.1 ≤ c.length ∧ 2 * dL y.1 + y.2.1.length ≤ 2 * dL u + w2.length ∧ dK c y.1 k = B) (fun y => M.length - y.2.2) (u, w2, 0) (((aN [19,901,72000] (e' := [(0, _), (4, _), (6, _), (11, _), (71, _), (72, _), (73, _)]) Z Z ⟨Z, Z, Z, Z, Z, Z, Z, trivial⟩ Z).trans (aj 901 903 Z Z)).trans (Ent.to ⟨Z, Z, Z, Z, Z, Z, Z, trivial⟩ Z)) ?_ (fun y hi => ?_)
 exact ⟨hi1.take hdm trivial (by omega) (by omega), by show w2.length + 1 + dL u ≤ _; omega, cZ _, hB.symm⟩
 refine ac ?_
 obtain ⟨u2, e_u2⟩ : ∃ u2, u2 = y.1 := ⟨_, rfl⟩
 obtain ⟨v2, e_v2⟩ : ∃ v2, v2 = y.2.1 := ⟨_, rfl⟩
 obtain ⟨j, e_j⟩ : ∃ j, j = y.2.2 := ⟨_, rfl⟩
 rw [← e_u2, ← e_v2, ← e_j] at hi ⊢
 obtain ⟨hj1, hj2, hj3, hj4⟩ := hi
 have hul2 := hj1.len
 have hBe := hj1.be
 refine js O Z (jn (ak (aa O Z Z (fun hc74 => ?_) (fun hc74 => ?_))))
 refine am (ak (aq (ac ?_)))
 have hjm : j < M.length := by have := ay hc74; omega
 obtain ⟨z, hz⟩ : ∃ z, z = M.getD j default := ⟨_, rfl⟩
 have hzt : z ∈ mT c k := by rw [hz, aM hjm]; show _ ∈ tg _ _; rw [← hM]; exact List.getElem_mem _
 refine AOps.step (az O Z Z (by omega)) Z Z Z (AOps.step (ao O (ex := [.int .i64 z]) Z Z Z Z (by rw [lw hjm (by omega), hz]) Z) Z Z Z (js O Z (jf [13,74,0,4,6,11,71,72,73] Z (jn (aq (ac (j2 O Z Z ?_)))))))
 first | refine cw O Z ?_ | refine js O Z ?_ | refine bm O Z Z ?_
 refine jf [80,78,13,74,0,4,6,11,71,72,73] Z (af O Z Z Z Z (nl (k := z) (n := c.length) h1 h2 (by omega)) (ab Z) Z Z Z Z Z (B0 := 82000) Z (j2 O Z Z (jf [77,13,74,0,4,6,11,71,72,73] Z (jn (aa O Z Z (fun hc77 => ?_) (fun hc77 => ?_))))))
 refine ac (j2 O Z Z (jr ?_))
 rw [gt (hj1.nox hzt (fun h => by rw [(eZ (z := z)).2 h] at hc77; cases hc77))]
 refine ⟨.inl Z, _, ap, _, Z, [], by decide, Z, Z, Z⟩
 refine ac ?_
 obtain ⟨hz0, hzn⟩ := (eZ (z := z)).1 (nN hc77)
 refine j2 O Z Z (AOps.step (az O Z Z (by omega)) Z Z Z (AOps.step (ao O (ex := [.int .i64 (u2.getD z.toNat default)]) Z Z Z Z (lw (by omega) (by omega)) Z) Z Z Z (j2 O Z Z (jf [83,77,13,74,0,4,6,11,71,72,73] Z (jn (aa O Z Z (fun hc83 => ?_) (fun hc83 => ?_)))))))
 refine ac ?_
 have hzl := ay hc83
 have hzm : M.getD j default = z := hz.symm
 have hvn : v2.length ≤ 1000 := by omega
 refine j3 O Z Z Z (AOps.step (az O Z Z (by omega)) Z Z Z (jf [92,91,83,77,13,74,0,4,6,11,71,72,73] Z (AOps.heap (bd (ex := [.int .i64 ((u2).getD z.toNat default)]) (xs' := (u2.set z.toNat B).map (fun n => [D.int .i64 n])) O Z Z Z Z Z Z Z Z Z Z Z Z Z Z (lw (by omega) (by omega)) (nI (v := B) (by omega) Z)) Z (au ?_))))
 refine au ?_
 refine jf [83,77,13,74,0,4,6,11,71,72,73] Z (jn (ae (j2 O Z Z (AOps.heap (bg O Z Z Z) Z (au ?_)))))
 refine jf [95,93,83,77,13,74,0,4,6,11,71,72,73] Z (AOps.heap (aO (zs := (v2 ++ [z]).map fun n => [.int .i64 n]) (n := (v2 ++ [z]).length) O Z Z Z Z Z Z Z Z Z Z Z Z Z Z Z Z (.row Z (dE _).symm) Z Z (by decide) Z (by simp; omega) (by simp; omega) (by simp) (by simp)) Z (au ?_))
 refine au ?_
 refine js O Z (jf [6,83,77,13,74,0,4,11,71,72,73] Z (jn (ae ?_)))
 first | refine ji O Z ?_ | refine bm O Z Z ?_
 refine js O Z (jn ?_)
 have hng := je (u := u2) (j := z.toNat) (v := B) (by omega) hzl (by rw [← hj4]; have := hj1.kk.2; have := dk (x := (c.getD k default)); show 0 ≤ _ - _ + _; omega)
 refine ⟨(u2.set z.toNat B, v2 ++ [z], j + 1), ((aN [19,96,72000] (e' := [(0, _), (4, _), (6, _), (11, _), (71, _), (72, _), (73, _)]) Z Z ⟨Z, Z, Z, Z, Z, Z, Z, trivial⟩ Z).trans (aj 96 903 Z Z)).trans (Ent.to ⟨Z, Z, Z, Z, Z, Z, Z, trivial⟩ Z), ⟨?_, ?_, ?_, ?_⟩, by show M.length - (j + 1) < M.length - j; omega⟩
 rw [← hj4]; exact hj1.new hjm hzm hzt hz0 hzn hzl (fun y => by rw [List.mem_append, List.mem_singleton]; exact Or.comm)
 show (v2 ++ [z]).length + 1 + dL (u2.set z.toNat B) ≤ _; rw [cx, gb]; omega
 show 2 * dL (u2.set z.toNat B) + (v2 ++ [z]).length ≤ _; rw [cx, gb]; omega
 rw [← hj4]; exact hj1.bes hzl hz0 hzn
 refine ac ?_
 have hzg := bh hc83
 refine j2 O Z Z (AOps.step (az O Z Z (by omega)) Z Z Z (AOps.step (ao O (ex := [.int .i64 (u2.getD z.toNat default)]) Z Z Z Z (lw (by omega) (by omega)) Z) Z Z Z (j3 O Z Z Z (jf [97,83,77,13,74,0,4,6,11,71,72,73] Z (jn (aa O Z Z (fun hc97 => ?_) (fun hc97 => ?_)))))))
 refine ac (j2 O Z Z (jr ?_))
 rw [gt (hj1.noe hzt hz0 hzn (by omega) (fun h => by rw [hj4] at h; rw [decide_eq_true h] at hc97; cases hc97))]
 refine ⟨.inl Z, _, ap, _, Z, [], by decide, Z, Z, Z⟩
 refine am (ae ?_)
 first | refine ji O Z ?_ | refine bm O Z Z ?_
 refine js O Z (jn ?_)
 have hzB : (u2.getD z.toNat default) = B := by have h9 := hc97; cases hq : decide ((u2.getD z.toNat default) = B) with | true => exact ay hq | false => rw [hq] at h9; cases h9
 refine ⟨(u2, v2, j + 1), (aN [19,903,72000] (e' := [(0, _), (4, _), (6, _), (11, _), (71, _), (72, _), (73, _)]) Z Z ⟨Z, Z, Z, Z, Z, Z, Z, trivial⟩ Z).trans (Ent.to ⟨Z, Z, Z, Z, Z, Z, Z, trivial⟩ Z), ⟨hj1.old hjm hz.symm hz0 hzn (hzB.trans hj4.symm), hj2, hj3, hj4⟩, by show M.length - (j + 1) < M.length - j; omega⟩
 refine bF ?_
 have hjm : M.length ≤ j := by have := bh hc74; omega
 refine ⟨(u2, v2), ((aN [19,903] (e' := [(0, _), (4, _), (6, _)]) Z Z ⟨Z, Z, Z, trivial⟩ Z).trans (aj 903 901 Z Z)).trans (Ent.to ⟨Z, Z, Z, trivial⟩ Z), ⟨hj1.end_ hjm (fun y hy => by rw [hM]; exact hy), by show v2.length + dL u2 ≤ _; omega⟩, by show 2 * dL u2 + v2.length < 2 * dL u + (w2.length + 1); omega⟩
 refine bF (ac (j3 O Z Z Z (jr ?_)))
 have hw0 : ws = [] := by cases ws with | nil => rfl | cons z w2 => have h9 : ¬ (0 : Int) < ((z :: w2).length : Nat) := bh hc34; rw [lp] at h9; omega
 rw [hw0] at hi1
 rw [mE hi1.done]
 refine ⟨.inl Z, _, ap, _, by rw [← hul]; rfl, [19], by decide, Z, Z, Z⟩
end Go.Al
