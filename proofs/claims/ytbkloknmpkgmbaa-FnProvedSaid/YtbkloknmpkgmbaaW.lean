/- What is drawn from bytes; the law, walked. -/
import Derived.Test.YtbkloknmpkgmbaaC
import Derived.Test.YtbkloknmpkgmbaaE
import Derived.Test.YtbkloknmpkgmbaaJ
set_option linter.unusedVariables false
set_option linter.unusedSimpArgs false
set_option maxRecDepth 10000
set_option maxHeartbeats 4000000
open Go.Proofs
namespace Go.Al
variable {L : Nat} (h1 : 4096 ≤ L) (h2 : L ≤ 1073741824)
structure Src where
  code : List Int
  at_ : Nat
  seed : Int
abbrev bys (xs : List Int) : D := .slc 1 (xs.map fun n => [.int .u8 n])
abbrev ch (s : Src) : B := .box [.d (bys s.code), .d (.int .i64 (s.at_ : Nat)), .d (.int .u64 s.seed)]
def Src.b (s : Src) : Int := if s.at_ < s.code.length then IntKind.i64.wrap (s.code.getD s.at_ default) else 0
def Src.step (s : Src) : Src := ⟨s.code, s.at_ + 1, IntKind.u64.wrap (IntKind.u64.wrap (IntKind.u64.wrap (s.seed * 6364136223846793005) + IntKind.u64.wrap s.b) + 1442695040888963407)⟩
def Src.val (s : Src) : Int := if s.at_ + 1 ≤ s.code.length then s.b else rv s.step.seed
structure Src.Ok (s : Src) : Prop where
  code : ∀ n ∈ s.code, 0 ≤ n ∧ n ≤ 255
theorem Src.Ok.step {s : Src} (h : s.Ok) : s.step.Ok := ⟨h.code⟩
theorem sS {s : Src} (h : s.Ok) : 0 ≤ s.b ∧ s.b ≤ 255 := by
 unfold Src.b
 split
 rename_i hlt
 have := h.code _ (by rw [ar hlt]; exact List.getElem_mem hlt : s.code.getD s.at_ default ∈ s.code)
 rw [iV .i64 _ (by show (-9223372036854775808 : Int) ≤ _; omega) (by show _ ≤ (9223372036854775807 : Int); omega)]
 exact this
 omega
theorem cr {s : Src} (h : s.Ok) : 0 ≤ s.val ∧ s.val ≤ 255 := by
 unfold Src.val
 split
 exact sS h
 exact tN _
theorem vo {s : Src} (ha : s.at_ ≤ 1000000000) (hi : s.at_ < s.code.length) : MQ h1 h2 29 [.c (.pt 0 0 0)] [(0, ch s)] (bR (eI s.val) [(0, ch s.step)]) := by
 refine MC.shift 500 Z (MC.keep [500] (bs := [ch s.step]) Z Z (jH 62 [500] h1 h2 Try.func29 Z Z Z Z fun O hF => ?_))
 refine dL ?_
 have hb : s.b = IntKind.i64.wrap (s.code.getD s.at_ default) := if_pos hi
 have hv : s.val = s.b := if_pos hi
 refine ag (js O Z (aP (js O Z (jn (ac (ac (j7 O [_,_,_,_,_,_,_,_,_,_] [pn [] 0 0, pn [0] 0 0, pn [0,1] 0 0, pn [0,1,2] 0 0, pn [] 0 0, pn [4] 0 0, pn [4,5] 0 0, pn [4,5,6] 0 0, pn (rg 4 4) 0 0, pn (rg 0 9) 0 0] [] [_] (kc O Z (kc O Z (kc O Z (kc O Z (kc O Z (kc O Z (kc O Z (kc O Z (ai (br O Z Z Z Z Z Z Z Z) (kc O Z trivial)))))))))) ?_)))))))
 refine jw [13,3,2,0] Z (dL ?_)
 refine ae O Z Z (fun hc13 => ?_) (fun hc13 => ?_)
 refine jw [2,0] Z (j7 O [_,_,_,_,_,_,_,_,_,_,_,_] [pn [] 0 0, pn [0] 0 0, pn [0,1] 0 0, pn [0,1,2] 0 0, pn [] 0 0, pn [4] 0 0, pn [4,5] 0 0, pn [4,5,6] 0 0, pn (rg 0 8) 0 0, pn (rg 0 9) 0 0, pn (rg 0 10) 0 0, pn (rg 0 11) 0 0] [] [_] (kc O Z (kc O Z (kc O Z (kc O Z (kc O Z (kc O Z (kc O Z (kc O Z (ai (aY O Z Z Z Z Z Z Z Z (fi hi)) (kc O Z (ai (Val.conv O (k' := .i64) (dt := .int .u8) (b := true) Z Z Z (by kernel_rfl) (by kernel_rfl)) (kc O Z trivial)))))))))))) ?_)
 refine jw [3,2,0] Z (dL ?_)
 refine ag ?_
 rw [← hb]
 refine j4 O Z Z Z Z (AOps.step ((vF O Z).cast (v' := eI ((s.at_ + 1 : Nat) : Int)) (congrArg eI (by omega))) Z Z Z (j2 O Z Z (jf [31,29,3,2,0] Z (jo O Z (av ?_)))))
 refine jf [3,2,0] Z (aP (j4 O Z Z Z Z (j3 O Z Z Z (AOps.step (Val.conv O (k' := .u64) (dt := .int .i64) (b := true) Z Z Z (by kernel_rfl) (by kernel_rfl)) Z Z Z (j4 O Z Z Z Z (jf [43,41,3,2,0] Z (jo O Z (av ?_))))))))
 refine jf [3,2,0] Z (jn (ac (ac (j7 O [_,_,_,_,_,_,_,_,_,_] [pn [] 0 0, pn [0] 0 0, pn [0,1] 0 0, pn [0,1,2] 0 0, pn [] 0 0, pn [4] 0 0, pn [4,5] 0 0, pn [4,5,6] 0 0, pn (rg 4 4) 0 0, pn (rg 0 9) 0 0] [] [_] (kc O Z (kc O Z (kc O Z (kc O Z (kc O Z (kc O Z (kc O Z (kc O Z (ai (br O Z Z Z Z Z Z Z Z) (kc O Z trivial)))))))))) ?_))))
 refine jw [53,3,2,0] Z (dL ?_)
 refine ae O Z Z (fun hc53 => ?_) (fun hc53 => ?_)
 refine ag (j2 O Z Z (jf [2,3,0] Z (jr ?_)))
 refine ⟨.inl Z, _, ak, _, Z, by rw [hv]; rfl, Z⟩
 exact absurd (dh hc53) (by omega)
 exact absurd (dh hc13) (by omega)
theorem vp {s : Src} (ha : s.at_ ≤ 1000000000) (hi : ¬ s.at_ < s.code.length) : MQ h1 h2 29 [.c (.pt 0 0 0)] [(0, ch s)] (bR (eI s.val) [(0, ch s.step)]) := by
 refine MC.shift 500 Z (MC.keep [500] (bs := [ch s.step]) Z Z (jH 62 [500] h1 h2 Try.func29 Z Z Z Z fun O hF => ?_))
 refine dL ?_
 have hb : s.b = 0 := if_neg hi
 have hv : s.val = rv s.step.seed := if_neg (by omega)
 refine ag (js O Z (aP (js O Z (jn (ac (ac (j7 O [_,_,_,_,_,_,_,_,_,_] [pn [] 0 0, pn [0] 0 0, pn [0,1] 0 0, pn [0,1,2] 0 0, pn [] 0 0, pn [4] 0 0, pn [4,5] 0 0, pn [4,5,6] 0 0, pn (rg 4 4) 0 0, pn (rg 0 9) 0 0] [] [_] (kc O Z (kc O Z (kc O Z (kc O Z (kc O Z (kc O Z (kc O Z (kc O Z (ai (br O Z Z Z Z Z Z Z Z) (kc O Z trivial)))))))))) ?_)))))))
 refine jw [13,3,2,0] Z (dL ?_)
 refine ae O Z Z (fun hc13 => ?_) (fun hc13 => ?_)
 exact absurd (cI hc13) (by omega)
 refine aj (ag (j4 O Z Z Z Z (AOps.step ((vF O Z).cast (v' := eI ((s.at_ + 1 : Nat) : Int)) (congrArg eI (by omega))) Z Z Z (j2 O Z Z (jf [31,29,3,2,0] Z (jo O Z (av ?_)))))))
 refine jf [3,2,0] Z (aP (j4 O Z Z Z Z (j3 O Z Z Z ?_)))
 rw [← hb]
 refine AOps.step (Val.conv O (k' := .u64) (dt := .int .i64) (b := true) Z Z Z (by kernel_rfl) (by kernel_rfl)) Z Z Z (j4 O Z Z Z Z (jf [43,41,3,2,0] Z (jo O Z (av ?_))))
 refine jf [3,2,0] Z (jn (ac (ac (j7 O [_,_,_,_,_,_,_,_,_,_] [pn [] 0 0, pn [0] 0 0, pn [0,1] 0 0, pn [0,1,2] 0 0, pn [] 0 0, pn [4] 0 0, pn [4,5] 0 0, pn [4,5,6] 0 0, pn (rg 4 4) 0 0, pn (rg 0 9) 0 0] [] [_] (kc O Z (kc O Z (kc O Z (kc O Z (kc O Z (kc O Z (kc O Z (kc O Z (ai (br O Z Z Z Z Z Z Z Z) (kc O Z trivial)))))))))) ?_))))
 refine jw [53,3,2,0] Z (dL ?_)
 refine ae O Z Z (fun hc53 => ?_) (fun hc53 => ?_)
 exact absurd (cI hc53) (by omega)
 refine aj (ag (j4 O Z Z Z Z (AOps.step (Val.shr O Z Z Z Z Z (by decide)) Z Z Z (AOps.step (sQ O Z Z Z Z Z) Z Z Z (AOps.step (Val.conv O (k' := .i64) (dt := .int .u64) (b := true) Z Z Z (by kernel_rfl) (by kernel_rfl)) Z Z Z (js O Z (jf [2,3,0] Z (jr ?_))))))))
 refine ⟨.inl Z, _, ak, _, Z, by rw [hv]; rfl, Z⟩
theorem rJ {L : Nat} (h1 : 4096 ≤ L) (h2 : L ≤ 1073741824) {s : Src} (ha : s.at_ ≤ 1000000000) : MC Try.prog L 29 [.c (.pt 0 0 0)] [(0, ch s)] (bR (eI s.val) [(0, ch s.step)]) := by
 by_cases hi : s.at_ < s.code.length
 exact vo h1 h2 ha hi
 exact vp h1 h2 ha hi
def Src.pick (n : Int) (s : Src) : Int × Src := if n ≤ 1 then (0, s) else if 200 < n then ((s.val * 256 + s.step.val).tmod n, s.step.step) else (s.val.tmod n, s.step)
theorem tH {n : Int} {s : Src} (h : n ≤ 1) : s.pick n = (0, s) := if_pos h
theorem so {n : Int} {s : Src} (h : ¬ n ≤ 1) (h2 : ¬ 200 < n) : s.pick n = (s.val.tmod n, s.step) := by unfold Src.pick; rw [if_neg h, if_neg h2]
theorem sq {n : Int} {s : Src} (h : ¬ n ≤ 1) (h2 : 200 < n) : s.pick n = ((s.val * 256 + s.step.val).tmod n, s.step.step) := by unfold Src.pick; rw [if_neg h, if_pos h2]
theorem Src.Ok.pick {s : Src} (h : s.Ok) {n : Int} : (s.pick n).2.Ok := by
 unfold Src.pick; split
 exact h
 split
 exact h.step.step
 exact h.step
theorem dw {s : Src} {n : Int} : (s.pick n).2.at_ ≤ s.at_ + 2 := by
 unfold Src.pick; split
 exact Nat.le_add_right _ _
 split
 exact cu _
 show s.at_ + 1 ≤ s.at_ + 2; omega
theorem gO {a n : Int} (ha : 0 ≤ a) (hn : 0 < n) : 0 ≤ a.tmod n ∧ a.tmod n < n := by
 rw [Int.tmod_eq_emod_of_nonneg ha]
 exact ⟨Int.emod_nonneg _ (by omega), Int.emod_lt_of_pos _ hn⟩
theorem dv {s : Src} (h : s.Ok) {n : Int} (hn : 1 ≤ n) : 0 ≤ (s.pick n).1 ∧ (s.pick n).1 < n := by
 have h1 := cr h
 have h2 := cr h.step
 unfold Src.pick; split
 exact ⟨by show (0 : Int) ≤ 0; omega, by show (0 : Int) < n; omega⟩
 split
 exact gO (by omega) (by omega)
 exact gO h1.1 (by omega)
variable {n : Int}
theorem vt {s : Src} (hs : s.Ok) (ha : s.at_ ≤ 999999990) (hn0 : -1000000000 ≤ n) (hn1 : n ≤ 1000000000) (h : n ≤ 1) : MQ h1 h2 14 [.c (.pt 0 0 0), eI n] [(0, ch s)] (bR (eI (s.pick n).1) [(0, ch (s.pick n).2)]) := by
 refine MC.shift 500 Z (MC.keep [500] (bs := [ch (s.pick n).2]) Z Z (jH 20 [500] h1 h2 Try.func14 Z Z Z Z fun O hF => ?_))
 rw [tH h]
 have hv := cr hs
 have hv2 := cr hs.step
 refine dL ?_
 refine ag (js O Z (jn (ac (ag (j2 O Z Z (jn (ae O Z Z (fun hc7 => ?_) (fun hc7 => ?_))))))))
 refine ag (js O Z (jr ?_))
 refine ⟨.inl Z, _, ak, _, Z, Z, Z⟩
 exact absurd (dh hc7) (by omega)
theorem vr {s : Src} (hs : s.Ok) (ha : s.at_ ≤ 999999990) (hn0 : -1000000000 ≤ n) (hn1 : n ≤ 1000000000) (h : ¬ n ≤ 1) (h3 : ¬ 200 < n) : MQ h1 h2 14 [.c (.pt 0 0 0), eI n] [(0, ch s)] (bR (eI (s.pick n).1) [(0, ch (s.pick n).2)]) := by
 refine MC.shift 500 Z (MC.keep [500] (bs := [ch (s.pick n).2]) Z Z (jH 20 [500] h1 h2 Try.func14 Z Z Z Z fun O hF => ?_))
 rw [so h h3]
 have hv := cr hs
 have hv2 := cr hs.step
 refine dL ?_
 refine ag (js O Z (jn (ac (ag (j2 O Z Z (jn (ae O Z Z (fun hc7 => ?_) (fun hc7 => ?_))))))))
 exact absurd (cI hc7) (by omega)
 refine aj (ag (js O Z (jf [8,6,4,0,1] Z (aH O [500] (bin := [ch s]) Z Z Z Z (rJ (s := s) h1 h2 (by omega)) Z Z Z Z Z Z (B0 := 10000) Z Z (av ?_)))))
 refine js O Z (jf [5,6,4,0,1] Z (jn (ac (ag (j2 O Z Z (jn (ae O Z Z (fun hc11 => ?_) (fun hc11 => ?_))))))))
 exact absurd (cI hc11) (by omega)
 refine aj (ag (j2 O Z Z (AOps.step (fN O Z Z Z Z (by omega) (by have := gO (n := n) hv.1 (by omega); omega) (by have := gO (n := n) hv.1 (by omega); omega)) Z Z Z (js O Z (jf [4,10,5,6,0,1] Z (jr ?_))))))
 refine ⟨.inl Z, _, ak, _, Z, Z, Z⟩
theorem vq {s : Src} (hs : s.Ok) (ha : s.at_ ≤ 999999990) (hn0 : -1000000000 ≤ n) (hn1 : n ≤ 1000000000) (h : ¬ n ≤ 1) (h3 : 200 < n) : MQ h1 h2 14 [.c (.pt 0 0 0), eI n] [(0, ch s)] (bR (eI (s.pick n).1) [(0, ch (s.pick n).2)]) := by
 refine MC.shift 500 Z (MC.keep [500] (bs := [ch (s.pick n).2]) Z Z (jH 20 [500] h1 h2 Try.func14 Z Z Z Z fun O hF => ?_))
 rw [sq h h3]
 have hv := cr hs
 have hv2 := cr hs.step
 refine dL ?_
 refine ag (js O Z (jn (ac (ag (j2 O Z Z (jn (ae O Z Z (fun hc7 => ?_) (fun hc7 => ?_))))))))
 exact absurd (cI hc7) (by omega)
 refine aj (ag (js O Z (jf [8,6,4,0,1] Z (aH O [500] (bin := [ch s]) Z Z Z Z (rJ (s := s) h1 h2 (by omega)) Z Z Z Z Z Z (B0 := 10000) Z Z (av ?_)))))
 refine js O Z (jf [5,6,4,0,1] Z (jn (ac (ag (j2 O Z Z (jn (ae O Z Z (fun hc11 => ?_) (fun hc11 => ?_))))))))
 refine af (js O Z (AOps.step (aZ O Z Z (by omega) (by omega)) Z Z Z (js O Z (jf [14,13,10,5,6,4,0,1] Z (aH O [500] (bin := [ch s.step]) Z Z Z Z (rJ (s := s.step) h1 h2 (by show s.at_ + 1 ≤ _; omega)) Z Z Z Z Z Z (B0 := 16000) Z Z (av ?_))))))
 refine AOps.step (aZ O Z Z (by omega) (by omega)) Z Z Z (js O Z (jf [5,10,6,4,0,1] Z (aP (j2 O Z Z (AOps.step (fN O Z Z Z Z (by omega) (by have := gO (n := n) (a := s.val * 256 + s.step.val) (by omega) (by omega); omega) (by have := gO (n := n) (a := s.val * 256 + s.step.val) (by omega) (by omega); omega)) Z Z Z (js O Z (jf [4,5,10,6,0,1] Z (jr ?_))))))))
 refine ⟨.inl Z, _, ak, _, Z, Z, Z⟩
 exact absurd (dh hc11) (by omega)
theorem kU {L : Nat} (h1 : 4096 ≤ L) (h2 : L ≤ 1073741824) {s : Src} {n : Int} (hs : s.Ok) (ha : s.at_ ≤ 999999990) (hn0 : -1000000000 ≤ n) (hn1 : n ≤ 1000000000) : MC Try.prog L 14 [.c (.pt 0 0 0), eI n] [(0, ch s)] (bR (eI (s.pick n).1) [(0, ch (s.pick n).2)]) := by
 by_cases h : n ≤ 1
 exact vt h1 h2 hs ha hn0 hn1 h
 by_cases h3 : 200 < n
 exact vq h1 h2 hs ha hn0 hn1 h h3
 exact vr h1 h2 hs ha hn0 hn1 h h3
theorem w2 {s : Src} (hs : s.Ok) (ha : s.at_ ≤ 999999990) (hn0 : -1000000000 ≤ n) (hn1 : n ≤ 1000000000)  : MQ h1 h2 18 [.c (.pt 0 0 0), eI n] [(0, ch s)] (bR (eB (decide ((s.pick n).1 = 0))) [(0, ch (s.pick n).2)]) := by
 refine MC.shift 500 Z (MC.keep [500] (bs := [ch (s.pick n).2]) Z Z (jH 9 [500] h1 h2 Try.func18 Z Z Z Z fun O hF => ?_))
 refine dL ?_
 refine ag (js O Z (aP (j2 O Z Z (jf [6,5,4] Z (aH O [500] (bin := [ch s]) Z Z Z Z (kU (s := s) (n := n) h1 h2 hs ha hn0 hn1) Z Z Z Z Z Z (B0 := 8000) Z Z (av ?_))))))
 refine j2 O Z Z (jf [4] Z (jr ?_))
 refine ⟨.inl Z, _, ak, _, Z, Z, Z⟩
variable {xs : List Int}
theorem w3 : MQ h1 h2 13 [.c (.d (bys xs))] [] (bR (.c (.pt 0 0 0)) [(0, ch ⟨xs, 0, 0⟩)]) := by
 refine MC.shift 500 Z (MC.keep [500] (bs := [ch ⟨xs, 0, 0⟩]) Z Z (jB 6 h1 h2 Try.func13 Z Z Z fun O hF => ?_))
 refine ag (js O Z (aP (j2 O Z Z (jf [4,2] Z (jx O Z (av ?_))))))
 refine js O Z (jf [2] Z (jr ?_))
 refine ⟨.inl Z, _, au 5 500 Z Z, _, Z, Z, Z⟩
theorem wZ {ts : List Tm} {ms : List Int} (hc : CtxOk ts) (hm : ms.all num = true) (hle : ts.length ≤ ms.length) : MQ h1 h2 16 [bo ts, aQ ms] [] (Plain (fw (fQ (aR Tm.c ts ms) (be ts ms)))) := by
 refine MC.data (jB 63 h1 h2 Try.func16 Z Z Z fun O hF => ?_)
 have hl : ms.length ≤ L := by simpa [As.fact, A.fact, M.fact, D.fact, Ds.fact] using hF.2.1.1
 have hlc := hc.len
 refine ag (jl O Z (js O Z (aP (js O Z (aP (AOps.heap (gX O Z Z Z Z Z Z Z Z Z (by first | omega | (simp at *; omega)) (by first | omega | (simp at *; omega)) (by first | omega | (simp at *; omega)) (by first | omega | (dsimp only; omega) | (simp only [ba] at *; omega)) (by first | omega | (simp at *; omega)) Z Z Z) Z (js O Z (jn (ac (ag (js O Z (jn (ah (al (X := Nat) (fun i => ⟨[(0, bo ts), (1, aQ ms), (4, .c (.pt 4 0 0)), (6, eI (aR Tm.c (ts.take i) (ms.take i))), (7, .c (.rs 10 0 10)), (8, eI i)], [(4, .box [.d (.int .i64 0), .d .nils]), (10, bW (be (ts.take i) (ms.take i)))]⟩) (fun i => i ≤ ts.length) (fun i => ts.length - i) 0 (Ent.to ⟨Z, Z, Z, Z, Z, Z, trivial⟩ Z) ?_ (fun i hi => ?_)))))))))))))))
 exact b9 _
 refine ac (ag (j2 O Z Z ?_))
 first | refine cj O Z ?_ | refine js O Z ?_ | refine bz O Z Z ?_
 refine js O Z (jf [14,0,1,4,6,7,8] Z (jn (ae O Z Z (fun hc14 => ?_) (fun hc14 => ?_))))
 try simp only [ba] at hc14
 refine aj (ac (ah (ac ?_)))
 have hi0 := hi
 have hts := bh (hc.get (show i < ts.length by omega))
 have hd1 := fY (f := Tm.c) (ts := ts) (ms := ms) (fun t ht => (bh (hc.ok t ht)).c) hm hi (by omega)
 have hd2 := ee (f := Tm.c) (ts := ts) (ms := ms) (i := i) (by omega) (by omega)
 have hmi : num (ms.getD i default) = true := by rw [ar (by omega)]; exact List.all_eq_true.1 hm _ (List.getElem_mem _)
 have hmu := cN hmi hts.c
 refine j7 O [_,_,_,_,_,_,_,_,_,_,_,_,_] [pn [] 0 0, pn [] 0 0, pn [] 0 0, pn [1,2] 0 0, pn [1,2,3] 0 0, pn [] 0 0, pn [] 0 0, pn [5,6] 0 0, pn [5,6,7] 0 0, pn (rg 5 4) 0 0, pn (rg 1 9) 0 0, pn (rg 0 11) 0 0, pn (rg 0 12) 0 0] [] [_] (kc O Z (kc O Z (kc O Z (ai (vD O Z) (kc O Z (kc O Z (kc O Z (ai (vD O Z) (kc O Z (kc O Z (ai (aZ O Z Z (by simp only [Int.toNat_natCast]; omega) (by simp only [Int.toNat_natCast]; omega)) (ai (aZ O Z Z (by simp only [Int.toNat_natCast]; omega) (by simp only [Int.toNat_natCast]; omega)) (kc O Z trivial))))))))))))) ?_
 refine jw [6,14,0,1,4,7,8] Z (dL ?_)
 refine ag (js O Z (jn (ah (al (X := Nat) (fun j => ⟨[(0, bo ts), (1, aQ ms), (4, .c (.pt 4 0 0)), (6, eI (aR Tm.c (ts.take i) (ms.take i) + ms.getD i default * (ts.getD i default).c)), (7, .c (.rs 10 0 10)), (8, eI i), (9, eI j)], [(4, .box [.d (.int .i64 0), .d .nils]), (10, bW (c6 ts ms i j))]⟩) (fun j => j ≤ (ts.getD i default).xs.length) (fun j => (ts.getD i default).xs.length - j) 0 (Ent.to ⟨Z, Z, Z, Z, Z, Z, Z, trivial⟩ (by rw [jO])) ?_ (fun j hi => ?_)))))
 exact b9 _
 refine ac (ag (j3 O Z Z Z ?_))
 first | refine j6 O Z Z ?_ | refine bz O Z Z ?_
 refine j2 O Z Z ?_
 first | refine cj O Z ?_ | refine js O Z ?_ | refine bz O Z Z ?_
 refine js O Z (jf [36,0,1,4,6,7,8,9] Z (jn (ae O Z Z (fun hc36 => ?_) (fun hc36 => ?_))))
 try simp only [ba] at hc36
 refine aj (ac (ah ?_))
 have hc9 := hc36
 rw [Int.toNat_natCast] at hc9
 have hjl : j < 10 := by have := kW (hc.get (show i < ts.length by omega)); omega
 have hpj := i1 (ts := ts) (ms := ms) (i := i) hjl
 have hps := jP (ts := ts) (ms := ms) (i := i) hjl
 have hpl := bU (ts := ts) (ms := ms) (i := i) (j := j)
 have hd3 := fY (f := ix j) (ts := ts) (ms := ms) (fun t ht => (bh (hc.ok t ht)).get j) hm hi0 (by omega)
 have hmx := cN hmi (hts.get j)
 rw [show (ts.getD i default).xs.getD j 0 = (ts.getD i default).xs.getD j default from Z] at hmx
 refine j7 O [_,_,_,_,_,_,_,_,_,_,_,_,_,_,_,_,_,_,_,_] [pn [] 0 0, pn [] 0 0, pn [0,1] 0 0, pn [0,1,2] 0 0, pn [] 0 0, pn [] 0 0, pn [4,5] 0 0, pn [4,5,6] 0 0, pn [] 0 0, pn [] 0 0, pn [8,9] 0 0, pn [8,9,10] 0 0, pn (rg 8 4) 0 0, pn [] 0 0, pn (rg 8 6) 0 0, pn (rg 8 7) 0 0, pn (rg 4 12) 0 0, pn (rg 0 17) 0 0, pn (rg 0 18) 0 0, pe (rg 0 19) 0] [19] [_,_] (kc O Z (kc O Z (ai (vI O Z Z) (ai (aF O (ex := [.int .i64 ((c6 ts ms i j).getD j default)]) Z Z Z Z (by simp [bU, hjl]) Z) (kc O Z (kc O Z (ai (vD O Z) (kc O Z (kc O Z (kc O Z (ai (vD O Z) (kc O Z (kc O Z (kc O Z (ai (vD O Z) (kc O Z (ai (aZ O Z Z (by simp only [Int.toNat_natCast]; omega) (by simp only [Int.toNat_natCast]; omega)) (ai (aZ O Z Z (by simp only [Int.toNat_natCast]; omega) (by simp only [Int.toNat_natCast]; omega)) (ai (vI O Z Z) (ai (gi (ex := [.int .i64 ((c6 ts ms i j).getD j default)]) (xs' := (c6 ts ms i (j + 1)).map (fun n => [D.int .i64 n])) O Z Z Z Z Z Z Z Z Z Z Z Z Z Z Z (by simp [bU, hjl]) (by rw [← hps, List.map_set]; simp only [Int.toNat_natCast, Nat.zero_add]; rfl) Z) trivial)))))))))))))))))))) ?_
 refine jw [36,0,1,4,6,7,8,9] Z (dL ?_)
 refine af (js O Z ?_)
 first | refine ji O Z ?_ | refine bz O Z Z ?_
 refine js O Z (jf [9,36,0,1,4,6,7,8] Z (jn ?_))
 refine ⟨j + 1, Ent.to ⟨Z, Z, Z, Z, Z, Z, Z, trivial⟩ Z, by omega, by omega⟩
 try simp only [ba] at hc36
 refine aD (af (js O Z ?_))
 first | refine ji O Z ?_ | refine bz O Z Z ?_
 refine js O Z (jf [8,36,0,1,4,6,7,9] Z (jn ?_))
 rw [Int.toNat_natCast] at hc36
 refine ⟨i + 1, Ent.to ⟨Z, Z, Z, ?_, Z, Z, trivial⟩ ?_, by omega, by omega⟩
 rw [hd2]; rfl
 rw [← k9 (j := j) (by omega) (by omega) (by omega)]
 try simp only [ba] at hc14
 refine aD (ag ?_)
 obtain rfl : i = ts.length := by omega
 have e1 : aR Tm.c (ts.take ts.length) (ms.take ts.length) = aR Tm.c ts ms := gD hle
 have e2 : be (ts.take ts.length) (ms.take ts.length) = be ts ms := jY hle
 rw [e1, e2]
 have hcl := gg (ts := ts) (ms := ms)
 refine az (Ent.freeze 10 (e' := [(4, _), (6, _), (7, _)]) Z (.cons Z (.keep Z) (.cons Z (.keep Z) (.cons Z (.c (.row Z (by rw [bp, hcl]))) .nil))) (.cons Z (.box (fk Z)) (.skip .nil))) ?_
 refine j2 O Z Z (ab O Z Z Z Z (kS (c := aR Tm.c ts ms) (xs := be ts ms) h1 h2) (aa Z) Z Z Z Z (B0 := 61000) Z Z (j2 O Z Z (jf [62,61,4,6,7] Z (jo O Z (js O Z (jf [5,4,6,7] Z (jr ?_)))))))
 refine ⟨.inl Z, _, ak, _, Z, ?_⟩
 exact .tup (.cons (.agg (aC Z)) (.cons (.c .d) .nil))
theorem RMs.dm {L : Nat} {w : World} {ok : Nat → Prop} {m m2 : Nat → Al.Loc} : ∀ {cs : List D} {vs : List Value}, RMs L w ok m (cs.map .d) vs → RMs L w ok m2 (cs.map .d) vs
 | [], _, .nil => .nil
 | d :: cs, _, .cons (.d h1) h2 => .cons (.d h1) (RMs.dm h2)
theorem sT {P : Program} {L f N : Nat} {args : List A} {v : A} {cs : List D} (h : MC P L f args [(N, .box (cs.map .d))] (fun r H => VR (eZ H N) r v ∧ lk H N = some (.box (cs.map .d)))) : MC P L f args [(N, .box (cs.map .d))] (bR v [(N, .box (cs.map .d))]) := by
 refine ⟨h.1, fun w m F ok vs h1 h2 h3 h4 h5 => Calls.mono (h.2 w m F ok vs h1 h2 h3 h4 h5) fun e w' he => ?_⟩
 cases e with
 | returned u =>
  obtain ⟨r, H', m', F', ⟨hv, hN⟩, a1, a2, a3, a4, a5, a6, a7⟩ := he
  obtain ⟨Fl, Fr, G, c1, c2, c3⟩ := a1.taken hN
  have hnd := List.nodup_append.1 (c3.nodup_iff.1 a2)
  have hsub : ∀ b ∈ Fl, b ∈ F' := fun b hb => c3.mem_iff.2 (by simp [hb])
  have hk : Keep w' w' (fun b => b ∉ F' ∧ (ok b ∨ w.heap.size ≤ b ∨ b ∈ F)) (fun b => b ∉ Fl ∧ (ok b ∨ w.heap.size ≤ b ∨ b ∈ F)) := ⟨cu _, fun b _ hb => ⟨⟨fun hh => hb.1 (hsub b hh), hb.2⟩, rfl⟩⟩
  have hr : RH L w' (fun b => b ∉ Fl ∧ (ok b ∨ w.heap.size ≤ b ∨ b ∈ F)) (fun k => if k = N then m' N else .nil) [(N, .box (cs.map .d))] (Fl ++ []) := by
   refine .cons ?_ .nil
   rw [if_pos Z]
   have := c1.over hk (fun _ _ _ _ _ _ _ _ _ _ h => h) (fun _ _ => rfl)
   generalize m' N = loc at this
   cases this with
   | box a1 a2 => exact .box a1 a2.dm
  rw [List.append_nil] at hr
  refine ⟨v, [(N, .box (cs.map .d))], _, Fl, ⟨Z, Z⟩, hr, hnd.1, fun b hb => a3 b (hsub b hb), ?_, a5, fun l hl hs => ?_, fun l b cap z hl => ?_⟩
  refine a4.viewR c2 (fun b hb => ⟨fun hh => hb.1 (hsub b hh), hb.2⟩) (fun b hb => ⟨fun hh => ?_, .inr (a3 b (c3.mem_iff.2 (by simp [hb])))⟩) hv
  exact hnd.2.2 b hh b (by simp [hb]) Z
  have e : l = N := by simpa using hl
  subst e
  show (if l = l then m' l else Loc.nil) = m l
  rw [if_pos Z]
  exact a6 l hl (by rw [hN]; rfl)
  by_cases e : l = N
  subst e; simp [ap]
  simp only [if_neg e] at hl; cases hl
 | _ => exact he
theorem wV {t : Tm} (ht : Small t) (ht10 : t.xs.length ≤ 10) : MQ h1 h2 17 [.c (.pt 0 0 0)] [(0, .box (t.cells.map .d))] (bR (fw (aM t)) [(0, .box (t.cells.map .d))]) := by
 refine MC.shift 500 Z (sT (cs := t.cells) (jH 55 [500] h1 h2 Try.func17 Z Z Z Z fun O hF => ?_))
 refine ag (jl O Z (js O Z (aP (js O Z (ao O Z Z Z Z (qz (t := t) h1 h2 ht.xs) (.cons (.c (.pb (cs := t.cells) Z (aC Z))) .nil) Z Z Z Z Z (B0 := 10000) Z (js O Z (jf [4,3,2,0] Z (jn (ac (ag (j2 O Z Z (jn (ae O Z Z (fun hc11 => ?_) (fun hc11 => ?_))))))))))))))
 try simp only [ba] at hc11
 refine ag (js O Z (jf [12,10,4,3,2,0] Z (jo O Z (js O Z (jr ?_)))))
 refine ⟨.inl Z, _, ak, _, Z, ?_⟩
 refine ⟨?_, Z⟩
 rw [show aM t = (⟨0, []⟩, false) from if_pos (by omega)]
 exact .tup (.cons (.agg (.cons .d (.cons .nils .nil))) (.cons (.c .d) .nil))
 try simp only [ba] at hc11
 refine aj (ag ?_)
 have hxl := ht10
 obtain ⟨g, hg⟩ : ∃ g : Int, g = (aE t.xs : Int) := ⟨_, rfl⟩
 rw [← hg]
 rw [← hg] at hc11
 refine AOps.heap (bq O Z Z Z) Z (js O Z (jf [5,10,4,3,2,0] Z (jn (ac (ag (js O Z (jn (ah (al (X := Nat) (fun i => ⟨[(0, .c (.pt 500 0 0)), (2, .c (.pt 2 0 0)), (4, eI g), (5, .c (.rs 900 0 i)), (6, eI i)], [(2, .box [.d (.int .i64 0), .d .nils]), (900, bW ((t.xs.map fun x => x.tdiv g).take i)), (500, .box (t.cells.map .d))]⟩) (fun i => i ≤ t.xs.length) (fun i => t.xs.length - i) 0 ((au 13 900 Z Z).trans (Ent.to ⟨Z, Z, Z, Z, Z, trivial⟩ Z)) ?_ (fun i hi => ?_))))))))))
 exact b9 _
 refine ac (ag (j4 O Z Z Z Z (js O Z ?_)))
 first | refine cj O Z ?_ | refine js O Z ?_ | refine bz O Z Z ?_
 refine js O Z (jf [20,0,2,4,5,6] Z (jn (ae O Z Z (fun hc20 => ?_) (fun hc20 => ?_))))
 try simp only [ba] at hc20
 refine aj (ac (ah (af ?_)))
 have hx := ce (b := g) (xA.1 (List.all_eq_true.1 ht.xs _ (List.getElem_mem (show i < t.xs.length by omega))))
 rw [← ar (by omega)] at hx
 refine j4 O Z Z Z Z (j2 O Z Z ?_)
 first | refine fR O Z Z ?_ | refine j6 O Z Z ?_ | refine bz O Z Z ?_
 refine j2 O Z Z (AOps.step (cT O Z Z Z Z (by omega) (by omega) (by omega)) Z Z Z (jf [32,23,20,0,2,4,5,6] Z (AOps.heap (bq O Z Z Z) Z (jf [33,23,20,0,2,4,5,6] Z (AOps.heap (bw (zs := ((t.xs.map fun x => x.tdiv g).take (i + 1)).map fun n => [.int .i64 n]) (n := i + 1) O Z Z Z Z Z Z Z Z Z Z Z Z Z Z Z Z (.row Z (by simp; omega)) Z Z (by decide) Z (by simp; omega) (by simp; omega) (by rw [List.take_succ_eq_append_getElem (by simp; omega), List.map_append, List.getElem_map, ar (by omega)]; rfl) (by simp; omega)) Z (js O Z (jf [5,20,0,2,4,6] Z (jn (af (js O Z ?_))))))))))
 first | refine ji O Z ?_ | refine bz O Z Z ?_
 refine js O Z (jf [6,5,20,0,2,4] Z (jn ?_))
 refine ⟨i + 1, ((am [2,34,500] (e' := [(0, _), (2, _), (4, _), (5, _), (6, _)]) Z Z ⟨Z, Z, Z, Z, Z, trivial⟩ Z).trans (au 34 900 Z Z)), by omega, by omega⟩
 try simp only [ba] at hc20
 refine aD (ag ?_)
 have hc0 := xA.1 ht.c
 have hq := ce (b := g) hc0
 have hr := dY (b := g) hc0
 obtain rfl : i = t.xs.length := by omega
 rw [List.take_of_length_le (by simp)]
 refine az (Ent.freeze 900 (e' := [(2, _), (4, _), (5, _), (0, _)]) Z (.cons Z (.keep Z) (.cons Z (.keep Z) (.cons Z (.c (.row Z (by simp))) (fe [0] Z)))) (.cons Z (.box (fk Z)) (.skip (.cons Z (.box (fk Z)) .nil)))) ?_
 refine j4 O Z Z Z Z (js O Z ?_)
 first | refine AOps.step (vQ O Z Z Z Z) Z Z Z ?_ | refine ji O Z ?_
 refine js O Z (jf [7,2,4,5,0] Z (jn (ac (ag (j4 O Z Z Z Z (js O Z ?_))))))
 first | refine AOps.step (vR O Z Z Z Z) Z Z Z ?_ | refine ji O Z ?_
 refine js O Z (jf [47,7,2,4,5,0] Z (jn (ae O Z Z (fun hc47 => ?_) (fun hc47 => ?_))))
 try simp only [ba] at hc47
 refine af (js O Z ?_)
 first | refine ji O Z ?_ | refine bz O Z Z ?_
 refine js O Z (jf [7,47,2,4,5,0] Z (aP (j2 O Z Z (ab O Z Z Z Z (kS (c := _) (xs := t.xs.map fun x => x.tdiv g) h1 h2) (aa Z) Z Z Z Z (B0 := 53000) Z Z (j2 O Z Z (jf [54,53,7,47,2,4,5,0] Z (jo O Z (js O Z (jf [3,7,47,2,4,5,0] Z (jr ?_))))))))))
 refine ⟨.inl Z, _, ak, _, Z, ?_⟩
 refine ⟨?_, Z⟩
 rw [show aM t = fQ (t.c.tdiv g - 1) (t.xs.map fun x => x.tdiv g) by rw [hg, aM, if_neg (by omega), if_pos (by rw [← hg]; exact hc47)]]
 exact .tup (.cons (.agg (aC Z)) (.cons (.c .d) .nil))
 try simp only [ba] at hc47
 refine aj (ag (j2 O Z Z (ab O Z Z Z Z (kS (c := _) (xs := t.xs.map fun x => x.tdiv g) h1 h2) (aa Z) Z Z Z Z (B0 := 53000) Z Z (j2 O Z Z (jf [54,53,47,7,2,4,5,0] Z (jo O Z (js O Z (jf [3,47,7,2,4,5,0] Z (jr ?_)))))))))
 refine ⟨.inl Z, _, ak, _, Z, ?_⟩
 refine ⟨?_, Z⟩
 rw [show aM t = fQ (t.c.tdiv g) (t.xs.map fun x => x.tdiv g) by rw [hg, aM, if_neg (by omega), if_neg (by rw [← hg]; omega)]]
 exact .tup (.cons (.agg (aC Z)) (.cons (.c .d) .nil))
def qv : Nat → Src → List Int → List Int × Src
  | 0, s, xs => (xs, s)
  | k + 1, s, xs => qv k (s.pick 7).2 (xs ++ [(s.pick 7).1 - 3])
theorem r6 : ∀ {k : Nat} {s : Src} {xs : List Int}, (qv k s xs).2.at_ ≤ s.at_ + 2 * k
 | 0, s, xs => cu _
 | k + 1, s, xs => by
  have h1 := r6 (k := k) (s := (s.pick 7).2) (xs := xs ++ [(s.pick 7).1 - 3])
  have h2 := dw (s := s) (n := 7)
  rw [qv]; omega
theorem r5 : ∀ {k : Nat} {s : Src} {xs : List Int}, s.Ok → (qv k s xs).2.Ok
 | 0, s, xs, h => h
 | k + 1, s, xs, h => by rw [qv]; exact r5 h.pick
abbrev qTm (a : List Int × Src) : Tm := (fQ ((a.2.pick 9).1 - 3) a.1).1
def oy (s : Src) : Tm × Int × Src := (qTm (qv (s.pick 4).1.toNat (s.pick 4).2 []), (((qv (s.pick 4).1.toNat (s.pick 4).2 []).2.pick 9).2.pick 3).1, (((qv (s.pick 4).1.toNat (s.pick 4).2 []).2.pick 9).2.pick 3).2)
def qL : Nat → Src → List Tm → List Int → List Tm × List Int × Src
  | 0, s, ts, ms => (ts, ms, s)
  | k + 1, s, ts, ms => qL k (oy s).2.2 (ts ++ [(oy s).1]) (ms ++ [(oy s).2.1])
abbrev xC (ts : List Tm) (ms : List Int) : Tm := (fQ (aR Tm.c ts ms) (be ts ms)).1
def qG (g : Tm) : Tm := if (aM g).2 = true then (aM g).1 else g
abbrev q4 (s : Src) : Int := if ((s.pick 4).2.pick 3).1 = 0 then 4 else 0
def qE (ts : List Tm) (g : Tm) (s : Src) : Sq := ⟨ts, ⟨g.c + (s.pick 4).1 - q4 s, g.xs⟩⟩
def s3 (l : List Tm × List Int × Src) : Sq := qE l.1 (qG (xC l.1 l.2.1)) l.2.2
def nv (xs : List Int) : Sq := s3 (qL (1 + ((⟨xs, 0, 0⟩ : Src).pick 4).1).toNat ((⟨xs, 0, 0⟩ : Src).pick 4).2 [] [])
theorem m6 {c : Int} {xs : List Int} : (fQ c xs).1.ok = true := by
 unfold fQ
 split
 assumption
 rfl
theorem pK {c : Int} {xs : List Int} : (fQ c xs).1.c = c ∨ (fQ c xs).1.c = 0 := by
 unfold fQ
 split
 exact .inl Z
 exact .inr Z
structure QOk (ts : List Tm) (ms : List Int) : Prop where
  ok : ∀ t ∈ ts, t.ok = true
  c : ∀ t ∈ ts, -6 ≤ t.c ∧ t.c ≤ 6
  mok : ∀ m ∈ ms, 0 ≤ m ∧ m ≤ 2
  len : ms.length = ts.length
theorem QOk.num {ts ms} (h : QOk ts ms) : ms.all num = true := by
 rw [List.all_eq_true]; intro m hm
 have := h.mok m hm
 exact xA.2 (by omega)
theorem mY : ∀ {ts : List Tm} {ms : List Int}, (∀ t ∈ ts, -6 ≤ t.c ∧ t.c ≤ 6) → (∀ m ∈ ms, 0 ≤ m ∧ m ≤ 2) → -(12 * ts.length : Int) ≤ aR Tm.c ts ms ∧ aR Tm.c ts ms ≤ 12 * ts.length
 | [], ms, _, _ => by cases ms <;> simp [aR]
 | t :: ts, [], _, _ => by simp only [aR, dp]; omega
 | t :: ts, m :: ms, h1, h2 => by
  have ih := mY (ts := ts) (ms := ms) (fun x hx => h1 x (by simp [hx])) (fun x hx => h2 x (by simp [hx]))
  have a := h1 t (by simp)
  have b := h2 m (by simp)
  have key : -12 ≤ m * t.c ∧ m * t.c ≤ 12 := by
   rcases (show m = 0 ∨ m = 1 ∨ m = 2 by omega) with rfl | rfl | rfl <;> omega
  simp only [aR, dp]; omega
theorem oD {s : Src} (h : s.Ok) : (oy s).1.ok = true ∧ (-6 ≤ (oy s).1.c ∧ (oy s).1.c ≤ 6) ∧ (0 ≤ (oy s).2.1 ∧ (oy s).2.1 ≤ 2) ∧ (oy s).2.2.Ok ∧ (oy s).2.2.at_ ≤ s.at_ + 12 := by
 have h0 := dv h (n := 4) (by omega)
 have a0 := dw (s := s) (n := 4)
 have hq := r5 (k := (s.pick 4).1.toNat) (xs := []) (h.pick (n := 4))
 have aq := r6 (k := (s.pick 4).1.toNat) (s := (s.pick 4).2) (xs := [])
 unfold oy
 generalize qv (s.pick 4).1.toNat (s.pick 4).2 [] = a at hq aq
 have h1 := dv hq (n := 9) (by omega)
 have a1 := dw (s := a.2) (n := 9)
 have h2 := dv (hq.pick (n := 9)) (n := 3) (by omega)
 have a2 := dw (s := (a.2.pick 9).2) (n := 3)
 have hc := pK (c := (a.2.pick 9).1 - 3) (xs := a.1)
 refine ⟨m6, ?_, ⟨h2.1, by show ((a.2.pick 9).2.pick 3).1 ≤ 2; omega⟩, hq.pick.pick, by show (((a.2.pick 9).2.pick 3).2).at_ ≤ _; omega⟩
 show -6 ≤ (fQ ((a.2.pick 9).1 - 3) a.1).1.c ∧ (fQ ((a.2.pick 9).1 - 3) a.1).1.c ≤ 6
 omega
theorem QOk.snoc {ts ms} (h : QOk ts ms) {s : Src} (hs : s.Ok) : QOk (ts ++ [(oy s).1]) (ms ++ [(oy s).2.1]) := by
 have q := oD hs
 refine ⟨fun t ht => ?_, fun t ht => ?_, fun m hm => ?_, by simp [h.len]⟩
 rcases List.mem_append.1 ht with ht | ht
 exact h.ok t ht
 simp only [List.mem_singleton] at ht; subst ht; exact q.1
 rcases List.mem_append.1 ht with ht | ht
 exact h.c t ht
 simp only [List.mem_singleton] at ht; subst ht; exact q.2.1
 rcases List.mem_append.1 hm with hm | hm
 exact h.mok m hm
 simp only [List.mem_singleton] at hm; subst hm; exact q.2.2.1
theorem uc : ∀ {k : Nat} {s : Src} {ts : List Tm} {ms : List Int}, s.Ok → QOk ts ms → QOk (qL k s ts ms).1 (qL k s ts ms).2.1 ∧ (qL k s ts ms).2.2.Ok ∧ (qL k s ts ms).1.length = ts.length + k
 | 0, s, ts, ms, h, q => ⟨q, h, rfl⟩
 | k + 1, s, ts, ms, h, q => by
  have := uc (k := k) (oD h).2.2.2.1 (q.snoc h)
  rw [qL]
  refine ⟨this.1, this.2.1, ?_⟩
  rw [this.2.2, bK, cZ]; omega
theorem tR {c : Int} {g : Nat} : (if c.tmod g < 0 then c.tdiv g - 1 else c.tdiv g).natAbs ≤ c.natAbs + 1 := by
 have h1 : (c.tdiv g).natAbs ≤ c.natAbs := by rw [Int.natAbs_tdiv]; exact Nat.div_le_self _ _
 split <;> omega
theorem ud {g : Tm} (h : g.ok = true) (hc : -48 ≤ g.c ∧ g.c ≤ 48) : (qG g).ok = true ∧ -49 ≤ (qG g).c ∧ (qG g).c ≤ 49 := by
 unfold qG
 split
 rename_i ht
 refine ⟨fG ht, ?_⟩
 unfold aM
 split
 exact ⟨by show (-49 : Int) ≤ 0; decide, by show (0 : Int) ≤ 49; decide⟩
 have f := tR (c := g.c) (g := aE g.xs)
 generalize (if g.c.tmod (aE g.xs) < 0 then g.c.tdiv (aE g.xs) - 1 else g.c.tdiv (aE g.xs)) = d at f
 have := pK (c := d) (xs := g.xs.map fun x => x.tdiv (aE g.xs))
 omega
 exact ⟨h, by omega, by omega⟩
theorem qm {xs : List Int} (hx : ∀ n ∈ xs, 0 ≤ n ∧ n ≤ 255) : bX (nv xs) = true := by
 have hs : (⟨xs, 0, 0⟩ : Src).Ok := ⟨hx⟩
 have h0 := dv hs (n := 4) (by omega)
 have hl := uc (k := (1 + ((⟨xs, 0, 0⟩ : Src).pick 4).1).toNat) (ts := []) (ms := []) (hs.pick (n := 4)) ⟨by simp, by simp, by simp, rfl⟩
 unfold nv
 generalize qL (1 + ((⟨xs, 0, 0⟩ : Src).pick 4).1).toNat ((⟨xs, 0, 0⟩ : Src).pick 4).2 [] [] = l at hl
 obtain ⟨hq, hso, hlen⟩ := hl
 have hl4 : l.1.length ≤ 4 := by rw [hlen, List.length_nil]; omega
 have hd := mY hq.c hq.mok
 have hc := pK (c := aR Tm.c l.1 l.2.1) (xs := be l.1 l.2.1)
 have hg := ud (g := xC l.1 l.2.1) m6 (by show -48 ≤ (fQ (aR Tm.c l.1 l.2.1) (be l.1 l.2.1)).1.c ∧ (fQ (aR Tm.c l.1 l.2.1) (be l.1 l.2.1)).1.c ≤ 48; omega)
 have p4 := dv hso (n := 4) (by omega)
 have hq4 : 0 ≤ q4 l.2.2 ∧ q4 l.2.2 ≤ 4 := by unfold q4; split <;> decide
 unfold s3 qE
 generalize qG (xC l.1 l.2.1) = g at hg
 generalize q4 l.2.2 = z at hq4
 obtain ⟨k1, k2, k3, k4⟩ := uZ.1 hg.1
 have hgo : (⟨g.c + (l.2.2.pick 4).1 - z, g.xs⟩ : Tm).ok = true := uZ.2 ⟨xA.2 (by show -1000000 ≤ g.c + (l.2.2.pick 4).1 - z ∧ g.c + (l.2.2.pick 4).1 - z ≤ 1000000; omega), k2, k3, k4⟩
 have h13 : decide ((l.1.length : Int) ≤ 13) = true := decide_eq_true (by omega)
 unfold bX fA
 rw [hgo, List.all_eq_true.2 hq.ok, h13]; rfl
theorem uX {s s1 : Src} {xs : List Int} (h : qv (s.pick 4).1.toNat (s.pick 4).2 [] = (xs, s1)) : oy s = ((fQ ((s1.pick 9).1 - 3) xs).1, ((s1.pick 9).2.pick 3).1, ((s1.pick 9).2.pick 3).2) := by
 unfold oy; rw [h]
theorem ur (hx : ∀ n ∈ xs, 0 ≤ n ∧ n ≤ 255) : MQ h1 h2 5 [.c (.d (bys xs))] [] (Plain (iP (nv xs))) := by
 refine MC.data (jB 83 h1 h2 Try.func5 Z Z Z fun O hF => ?_)
 obtain ⟨R, hR⟩ : ∃ R, R = nv xs := ⟨_, rfl⟩
 rw [← hR]
 have hs : (⟨xs, 0, 0⟩ : Src).Ok := ⟨hx⟩
 have ha : (⟨xs, 0, 0⟩ : Src).at_ = 0 := rfl
 have hp0 := dv hs (n := 4) (by omega)
 have hat0 := dw (s := (⟨xs, 0, 0⟩ : Src)) (n := 4)
 refine ag (jl O Z (av ?_))
 refine aP (js O Z (jf [15,2] Z (aH O [] (bin := []) Z Z Z Z (w3 (xs := xs) h1 h2) Z Z Z Z Z Z (B0 := 17000) Z Z (av ?_))))
 refine js O Z (jf [3,2] Z (aP (AOps.heap (bq O Z Z Z) Z (av ?_))))
 refine js O Z (aP (AOps.heap (bq O Z Z Z) Z (av ?_)))
 refine js O Z (jn (ac (ag (js O Z (aH O [17000] (bin := [ch (⟨xs, 0, 0⟩ : Src)]) Z Z Z Z (kU (s := (⟨xs, 0, 0⟩ : Src)) (n := 4) h1 h2 hs (by omega) (by omega) (by omega)) Z Z Z Z Z Z (B0 := 21000) Z Z (av ?_))))))
 refine AOps.step (aZ O Z Z (by omega) (by omega)) Z Z Z (js O Z (jf [6,5,18,4,17,3,2] Z (jn (ah (al (X := Nat × Src × List Tm × List Int) (fun x => ⟨[(2, .c (.pt 2 0 0)), (3, .c (.pt 17000 0 0)), (4, .c (.rs 900 0 x.2.2.1.length)), (5, .c (.rs 901 0 x.2.2.2.length)), (6, eI (x.1 : Nat))], [(2, .box [.d .nils, .d (.int .i64 0), .d .nils]), (900, bG x.2.2.1), (901, bW x.2.2.2), (17000, ch x.2.1)]⟩) (fun x => x.2.1.Ok ∧ nv xs = s3 (qL x.1 x.2.1 x.2.2.1 x.2.2.2) ∧ x.2.2.1.length + x.1 ≤ 4 ∧ x.2.1.at_ + 12 * x.1 ≤ 100 ∧ x.2.2.1.length ≤ 4 ∧ QOk x.2.2.1 x.2.2.2) (fun x => x.1) ((1 + ((⟨xs, 0, 0⟩ : Src).pick 4).1).toNat, ((⟨xs, 0, 0⟩ : Src).pick 4).2, [], []) ((jZ 17 Z).trans ((((am [2,17,18,17000] (e' := [(2, _), (3, _), (4, _), (5, _), (6, _)]) Z Z ⟨Z, Z, Z, Z, Z, trivial⟩ Z).trans (au 17 900 Z Z)).trans (au 18 901 Z Z)).trans (Ent.to ⟨Z, Z, Z, Z, by rw [Int.toNat_of_nonneg (by omega)]; rfl, trivial⟩ Z))) ?_ (fun x hi => ?_))))))
 exact ⟨hs.pick, Z, by simp only [List.length_nil]; omega, by simp only; omega, by simp, ⟨by simp, by simp, by simp, Z⟩⟩
 refine ac (ag (j2 O Z Z (jn (ae O Z Z (fun hc23 => ?_) (fun hc23 => ?_)))))
 refine aj (ac (ah (ag ?_)))
 have hk := cI hc23
 have hq0 := dv hi.1 (n := 4) (by omega)
 have hqa := dw (s := x.2.1) (n := 4)
 refine AOps.heap (bq O Z Z Z) Z (av ?_)
 refine av ?_
 refine js O Z (jn (ac (ag (js O Z (aH O [17000] (bin := [ch x.2.1]) Z Z Z Z (kU (s := x.2.1) (n := 4) h1 h2 hi.1 (by omega) (by omega) (by omega)) Z Z Z Z Z Z (B0 := 29000) Z Z (av ?_))))))
 refine js O Z (jf [8,7,26,23,22,2,3,4,5,6] Z (jn (ah ?_)))
 have hi0 := hi
 refine al (X := Nat × Src × List Int) (fun y => ⟨[(2, .c (.pt 2 0 0)), (3, .c (.pt 17000 0 0)), (4, .c (.rs 900 0 x.2.2.1.length)), (5, .c (.rs 901 0 x.2.2.2.length)), (6, eI (x.1 : Nat)), (7, .c (.rs 902 0 y.2.2.length)), (8, eI (y.1 : Nat))], [(2, .box [.d .nils, .d (.int .i64 0), .d .nils]), (900, bG x.2.2.1), (901, bW x.2.2.2), (902, bW y.2.2), (17000, ch y.2.1)]⟩) (fun y => y.2.1.Ok ∧ qv (x.2.1.pick 4).1.toNat (x.2.1.pick 4).2 [] = qv y.1 y.2.1 y.2.2 ∧ y.2.2.length + y.1 ≤ 3 ∧ y.2.1.at_ + 2 * y.1 ≤ x.2.1.at_ + 8) (fun y => y.1) ((x.2.1.pick 4).1.toNat, (x.2.1.pick 4).2, []) (((am [2,900,901,26,17000] (e' := [(2, _), (3, _), (4, _), (5, _), (6, _), (7, _), (8, _)]) Z Z ⟨Z, Z, Z, Z, Z, Z, Z, trivial⟩ Z).trans (au 26 902 Z Z)).trans (Ent.to ⟨Z, Z, Z, Z, Z, Z, by rw [Int.toNat_of_nonneg hq0.1]; rfl, trivial⟩ Z)) ?_ (fun y hi => ?_)
 exact ⟨hi.1.pick, Z, by simp only [List.length_nil]; omega, by simp only; omega⟩
 refine ac (ag (j2 O Z Z (jn (ae O Z Z (fun hc30 => ?_) (fun hc30 => ?_)))))
 refine aj (ac (ah (af (j2 O Z Z ?_))))
 have hp := dv hi.1 (n := 7) (by omega)
 have hat := dw (s := y.2.1) (n := 7)
 have hk2 := cI hc30
 refine aH O [17000] (bin := [ch y.2.1]) Z Z Z Z (kU (s := y.2.1) (n := 7) h1 h2 hi.1 (by omega) (by omega) (by omega)) Z Z Z Z Z Z (B0 := 36000) Z Z (av ?_)
 refine AOps.step (aZ O Z Z (by omega) (by omega)) Z Z Z (jf [36,33,30,29,2,3,4,5,6,7,8] Z (AOps.heap (bq O Z Z Z) Z (av ?_)))
 refine jf [37,33,30,29,2,3,4,5,6,7,8] Z (AOps.heap (bw (zs := (y.2.2 ++ [(y.2.1.pick 7).1 - 3]).map fun n => [.int .i64 n]) (n := (y.2.2 ++ [(y.2.1.pick 7).1 - 3]).length) O Z Z Z Z Z Z Z Z Z Z Z Z Z Z Z Z (.row Z (bp _).symm) Z Z (by decide) Z (by simp; omega) (by simp; omega) (by simp) (by simp)) Z (av ?_))
 refine av ?_
 refine js O Z (jf [7,30,29,2,3,4,5,6,8] Z (jn (af (js O Z ?_))))
 first | refine ji O Z ?_ | refine bz O Z Z ?_
 refine js O Z (jf [8,7,30,29,2,3,4,5,6] Z (jn ?_))
 obtain ⟨k, hk1⟩ : ∃ k, y.1 = k + 1 := ⟨y.1 - 1, by omega⟩
 refine ⟨(k, (y.2.1.pick 7).2, y.2.2 ++ [(y.2.1.pick 7).1 - 3]), ((am [2,900,901,38,17000] (e' := [(2, _), (3, _), (4, _), (5, _), (6, _), (7, _), (8, _)]) Z Z ⟨Z, Z, Z, Z, Z, Z, Z, trivial⟩ Z).trans (au 38 902 Z Z)).trans (Ent.to ⟨Z, Z, Z, Z, Z, Z, ?_, trivial⟩ Z), ⟨hi.1.pick, by rw [hi.2.1, hk1, qv], by simp only [bK, cZ]; omega, by simp only; omega⟩, by simp only; omega⟩
 exact congrArg (fun z => some (eI z)) (by simp only; omega)
 refine aD (ag ?_)
 have hk2 := dh hc30
 obtain ⟨j, s1, xs1⟩ := y
 simp only at hi hk2
 obtain rfl : j = 0 := by omega
 obtain ⟨hi1, hi2, hi3, hi4⟩ := hi
 have hqs := uX hi2
 have hqi := oD hi0.1
 rw [hqs] at hqi
 have hat1 := dw (s := s1) (n := 9)
 have hp1 := dv hi1 (n := 9) (by omega)
 refine az (Ent.freeze 902 (e' := [(2, _), (3, _), (4, _), (5, _), (6, _), (7, _)]) Z (.cons Z (.keep Z) (.cons Z (.keep Z) (.cons Z (.keep Z) (.cons Z (.keep Z) (.cons Z (.keep Z) (.cons Z (.c (.row Z (bp _).symm)) .nil)))))) (.cons Z (.box (fk Z)) (.cons Z .row (.cons Z .row (.skip (.cons Z (.box (fk Z)) .nil)))))) ?_
 refine js O Z (aH O [17000] (bin := [ch s1]) Z Z Z Z (kU (s := s1) (n := 9) h1 h2 hi1 (by omega) (by omega) (by omega)) Z Z Z Z Z Z (B0 := 42000) Z Z (av ?_))
 refine AOps.step (aZ O Z Z (by omega) (by omega)) Z Z Z (js O Z (jf [43,42,2,3,4,5,6,7] Z (ab O Z Z Z Z (kS (c := (s1.pick 9).1 - 3) (xs := xs1) h1 h2) (aa Z) Z Z Z Z (B0 := 45000) Z Z (j3 O Z Z Z (jf [46,45,2,3,4,5,6,7] Z (jl O Z (av ?_)))))))
 refine jo O Z (av ?_)
 refine js O Z (jf [9,2,3,4,5,6,7] Z (aP (j2 O Z Z (AOps.heap (bd O Z Z Z Z Z Z Z Z Z Z Z) Z (av ?_)))))
 refine jf [49,47,9,2,3,4,5,6,7] Z (AOps.heap (aI (own := false) (xs := x.2.2.1.map Tm.cells) (ys := [Tm.cells (fQ ((s1.pick 9).1 - 3) xs1).1]) (zs := (x.2.2.1 ++ [(fQ ((s1.pick 9).1 - 3) xs1).1]).map Tm.cells) (n := (x.2.2.1 ++ [(fQ ((s1.pick 9).1 - 3) xs1).1]).length) O Z Z Z Z Z Z Z Z Z Z Z Z Z Z Z Z (.row Z (bp _).symm) (.whole Z Z (.inr ⟨Z, Z⟩)) (by simp) Z (by simp; omega) (by simp; omega) (by simp) (by simp)) Z (av ?_))
 refine av ?_
 refine js O Z (jf [4,9,2,3,5,6,7] Z (jn (af (j2 O Z Z (aH O [17000] (bin := [ch (s1.pick 9).2]) Z Z Z Z (kU (s := (s1.pick 9).2) (n := 3) h1 h2 hi1.pick (by omega) (by omega) (by omega)) Z Z Z Z Z Z (B0 := 54000) Z Z (av ?_))))))
 refine jf [53,51,4,9,2,3,5,6,7] Z (AOps.heap (bq O Z Z Z) Z (av ?_))
 refine jf [54,51,4,9,2,3,5,6,7] Z ?_
 have hml := hi0.2.2.2.2.2.len
 refine AOps.heap (bw (zs := (x.2.2.2 ++ [((s1.pick 9).2.pick 3).1]).map fun n => [.int .i64 n]) (n := (x.2.2.2 ++ [((s1.pick 9).2.pick 3).1]).length) O Z Z Z Z Z Z Z Z Z Z Z Z Z Z Z Z (.row Z (bp _).symm) Z Z (by decide) Z (by simp; omega) (by simp; omega) (by simp) (by simp)) Z (av ?_)
 refine av ?_
 refine js O Z (jf [5,4,9,2,3,6,7] Z (jn (af (js O Z ?_))))
 first | refine ji O Z ?_ | refine bz O Z Z ?_
 refine js O Z (jf [6,5,4,9,2,3,7] Z (jn ?_))
 obtain ⟨k, hk1⟩ : ∃ k, x.1 = k + 1 := ⟨x.1 - 1, by omega⟩
 refine ⟨(k, ((s1.pick 9).2.pick 3).2, x.2.2.1 ++ [(fQ ((s1.pick 9).1 - 3) xs1).1], x.2.2.2 ++ [((s1.pick 9).2.pick 3).1]), (((am [2,50,55,17000] (e' := [(2, _), (3, _), (4, _), (5, _), (6, _)]) Z Z ⟨Z, Z, Z, Z, Z, trivial⟩ Z).trans (au 50 900 Z Z)).trans (au 55 901 Z Z)).trans (Ent.to ⟨Z, Z, Z, Z, ?_, trivial⟩ Z), ⟨hqi.2.2.2.1, by rw [hi0.2.1, hk1, qL, hqs], by simp only [bK, cZ]; omega, by have := hqi.2.2.2.2; simp only at this ⊢; omega, by simp only [bK, cZ]; omega, by have := hi0.2.2.2.2.2.snoc hi0.1; rw [hqs] at this; exact this⟩, by simp only; omega⟩
 exact congrArg (fun z => some (eI z)) (by simp only; omega)
 refine aD (ag ?_)
 have hk := dh hc23
 obtain ⟨k, s1, ts, ms⟩ := x
 simp only at hi hk
 obtain rfl : k = 0 := by omega
 obtain ⟨hi1, hi2, hi3, hi4, hi5, hi6⟩ := hi
 rw [show nv xs = s3 (ts, ms, s1) from hi2] at hR
 have hml := hi6.len
 have hd := mY hi6.c hi6.mok
 obtain ⟨g, hg⟩ : ∃ g, g = (fQ (aR Tm.c ts ms) (be ts ms)).1 := ⟨_, rfl⟩
 have hcc : CtxOk ts := ⟨hi6.ok, by omega⟩
 have hp4 := dv hi1 (n := 4) (by omega)
 have hat4 := dw (s := s1) (n := 4)
 have hgi : -48 ≤ g.c ∧ g.c ≤ 48 := by have := pK (c := aR Tm.c ts ms) (xs := be ts ms); rw [hg]; show -48 ≤ (fQ (aR Tm.c ts ms) (be ts ms)).1.c ∧ (fQ (aR Tm.c ts ms) (be ts ms)).1.c ≤ 48; omega
 have hgo : g.ok = true := by rw [hg]; exact m6
 have hgq := ud hgo hgi
 refine az (Ent.freeze 900 (e' := [(2, _), (3, _), (4, _), (5, _)]) Z (.cons Z (.keep Z) (.cons Z (.keep Z) (.cons Z (.c (.row Z (bp _).symm)) (fe [5] Z)))) (.cons Z (.box (fk Z)) (.skip (.cons Z .row (.cons Z (.box (fk Z)) .nil))))) ?_
 refine az (Ent.freeze 901 (e' := [(2, _), (3, _), (4, _), (5, _)]) Z (.cons Z (.keep Z) (.cons Z (.keep Z) (.cons Z (.keep Z) (.cons Z (.c (.row Z (bp _).symm)) .nil)))) (.cons Z (.box (fk Z)) (.skip (.cons Z (.box (fk Z)) .nil)))) ?_
 refine j2 O Z Z (ab O Z Z Z Z ((wZ (ts := ts) (ms := ms) h1 h2 hcc hi6.num (by omega)).plain (u := .tup [dn g, eB (fQ (aR Tm.c ts ms) (be ts ms)).2]) (by rw [hg])) (aa Z) Z Z Z Z (B0 := 60000) Z Z (j3 O Z Z Z (jf [61,60,2,3,4,5] Z (jl O Z (av ?_)))))
 refine jo O Z (av ?_)
 refine js O Z (jf [11,2,3,4,5] Z (aP (aH O [11] (bin := [.box (g.cells.map .d)]) Z Z Z Z (wV (t := g) h1 h2 (bh hgo) (kW hgo)) Z Z Z Z Z Z (B0 := 64000) Z Z (av ?_))))
 refine j3 O Z Z Z (jf [65,64,2,3,4,11] Z (jl O Z (av ?_)))
 refine jo O Z (av ?_)
 refine js O Z (jf [14,13,2,3,4,11] Z (jn (ac (ag (js O Z (jn ?_))))))
 obtain ⟨g2, hg2⟩ : ∃ g2, g2 = qG g := ⟨_, rfl⟩
 rw [← hg2] at hgq
 refine qt ⟨[(2, .c (.pt 2 0 0)), (3, .c (.pt 17000 0 0)), (4, bo ts), (11, .c (.pt 11 0 0))], [(2, .box [.d .nils, .d (.int .i64 0), .d .nils]), (11, .box [.d (.int .i64 g2.c), .d (dk g2.xs)]), (17000, ch s1)]⟩ ?_ ?_
 refine ae O Z Z (fun hc66 => ?_) (fun hc66 => ?_)
 refine af (js O Z (jo O Z (av ?_)))
 refine jn ?_
 have e := hg2.trans (if_pos hc66)
 rw [e]
 exact ⟨Z, (am [2,11,17000] (e' := [(2, _), (3, _), (4, _), (11, _)]) Z Z ⟨Z, Z, Z, Z, trivial⟩ Z).trans (Ent.to ⟨Z, Z, Z, Z, trivial⟩ Z)⟩
 refine aj ?_
 have e := hg2.trans (if_neg (by rw [hc66]; decide))
 rw [e]
 exact ⟨Z, (am [2,11,17000] (e' := [(2, _), (3, _), (4, _), (11, _)]) Z Z ⟨Z, Z, Z, Z, trivial⟩ Z).trans (Ent.to ⟨Z, Z, Z, Z, trivial⟩ Z)⟩
 refine ac (j7 O [_,_,_,_,_,_,_] [pn [] 0 1, pn [0] 0 1, pn [] 0 0, pe [2] 0, pn (rg 0 4) 1 1, pn (rg 0 5) 1 1, pe (rg 0 6) 1] [3,6] [_,_,_] (ai (kc O Z (V O Z)) (ai (kc O Z (V O Z)) (kc O Z (ai (tX O [17000] (bin := [ch s1]) Z Z Z Z (kU (s := s1) (n := 4) h1 h2 hi1 (by omega) (by omega) (by omega)) Z Z Z Z Z (B0 := 72000) Z Z Z Z Z Z) (ai (aZ O Z Z (by omega) (by omega)) (kc O Z (ai (eS O Z Z Z) trivial))))))) ?_)
 refine jw [2,3,4,11] Z (dL ?_)
 refine ac (ag (js O Z ?_))
 have hat5 := dw (s := (s1.pick 4).2) (n := 3)
 refine aH O [17000] (bin := [ch (s1.pick 4).2]) Z Z Z Z (w2 (s := (s1.pick 4).2) (n := 3) h1 h2 hi1.pick (by omega) (by omega) (by omega)) Z Z Z Z Z Z (B0 := 76000) Z Z (av ?_)
 refine jn (qt ⟨[(2, .c (.pt 2 0 0)), (4, bo ts), (11, .c (.pt 11 0 0))], [(2, .box [.d .nils, .d (.int .i64 0), .d .nils]), (11, .box [.d (.int .i64 (g2.c + (s1.pick 4).1 - q4 s1)), .d (dk g2.xs)])]⟩ ?_ ?_)
 refine ae O Z Z (fun hc75 => ?_) (fun hc75 => ?_)
 refine af (j2 O Z Z (AOps.step (aZ O Z Z (by omega) (by omega)) Z Z Z (js O Z (jf [79,78,75,74,2,3,4,11] Z (jo O Z (av ?_))))))
 refine jf [75,74,2,3,4,11] Z (jn ?_)
 have e : q4 s1 = 4 := if_pos (cI hc75)
 rw [e]
 exact ⟨Z, (am [2,11] (e' := [(2, _), (4, _), (11, _)]) Z Z ⟨Z, Z, Z, trivial⟩ Z).trans (Ent.to ⟨Z, Z, Z, trivial⟩ Z)⟩
 refine aj ?_
 have e : q4 s1 = 0 := if_neg (dh hc75)
 rw [e]
 exact ⟨Z, (am [2,11] (e' := [(2, _), (4, _), (11, _)]) Z Z ⟨Z, Z, Z, trivial⟩ Z).trans (Ent.to ⟨Z, Z, Z, trivial⟩ (by simp))⟩
 refine ag (j3 O Z Z Z (jf [82,2,4,11] Z (jo O Z (av ?_))))
 refine jr ?_
 refine ⟨.inl Z, _, ak, _, Z, ?_⟩
 rw [show R = ⟨ts, ⟨g2.c + (s1.pick 4).1 - q4 s1, g2.xs⟩⟩ by rw [hR, hg2, hg]; rfl]
 exact .v (.agg (aC Z))
theorem pO {L : Nat} (h1 : 4096 ≤ L) (h2 : L ≤ 9223372036854775807) {xs ys : List Int} : MC Try.prog L 4 [.c (.d (bys xs)), .c (.d (bys ys))] [] (Plain (eB (bif decide ((1048576 : Int) < xs.length) then true else decide ((1048576 : Int) < ys.length)))) := by
 refine aw ?_ Z
 have O := th (nt := 13) h1 h2
 refine MC.body O Try.func4 (by kernel_rfl) Z Z (Nat.le_of_ble_eq_true Z) (fun hF => ?_)
 refine ag (js O Z (aP (js O Z ?_)))
 first | refine cj O Z ?_ | refine js O Z ?_ | refine bz O Z Z ?_
 refine j2 O Z Z (jf [8,4,1] Z (aB 3 Z Z Z (fun hx => AN.step hx Z Z Z (V O Z) Z Z ( AN.step hx Z Z Z (br O Z Z Z Z Z Z Z Z) Z Z ( AN.step hx Z Z Z (V O Z) Z Z ( AN.nil)))) Z Z ?_))
 first | refine AOps.step (ay O Z Z Z Z Z) Z Z Z ?_ | refine AOps.step (Val.pickB O Z Z Z Z Z) Z Z Z ?_ | refine AOps.step (aA O Z Z Z Z Z) Z Z Z ?_
 refine js O Z (jf [4] Z (jr ?_))
 refine ⟨.inl Z, _, ak, _, Z, ?_⟩
 rfl
theorem r7 {L : Nat} (h1 : 4096 ≤ L) (h2 : L ≤ 9223372036854775807) {xs ys : List Int} (h0 : (bif decide ((1048576 : Int) < xs.length) then true else decide ((1048576 : Int) < ys.length)) = true) : MC Try.prog L 3 [.c (.d (bys xs)), .c (.d (bys ys))] [] (Plain (eB true)) := by
 refine MC.data ?_
 have O := th (nt := 116) h1 h2
 refine MC.body O Try.func3 (by kernel_rfl) Z Z (Nat.le_of_ble_eq_true Z) (fun hF => ?_)
 refine ag (js O Z (jn (ac (ag (j2 O Z Z (ao O Z Z Z Z (pO (xs := xs) (ys := ys) h1 h2) (aa Z) Z Z Z Z Z (B0 := 22000) Z (jf [21,4,0,1] Z (jn (ae O Z Z (fun hc21 => ?_) (fun hc21 => ?_))))))))))
 refine ag (js O Z (jr ?_))
 refine ⟨.inl Z, _, ak, _, Z, ?_⟩
 exact .v (.c .d)
 exact absurd hc21 (by rw [h0]; decide)
variable {ys C : List Int} {q r : Sq} {p p2 : List Nd} {zl : List (List Nd)}
theorem vn (h0 : (bif decide ((1048576 : Int) < xs.length) then true else decide ((1048576 : Int) < ys.length)) = false) (hB1 : MQ h1 h2 5 [.c (.d (bys xs))] [] (Plain (iP q))) (hB2 : MQ h1 h2 5 [.c (.d (bys ys))] [] (Plain (iP r))) (hI : MQ h1 h2 6 [iP q, eI 60] [] (Plain (.tup [c7 p, eB true]))) (hS : MQ h1 h2 7 [iP q, eI 60] [] (Plain (.tup [c7 p2, eB true]))) (hK : MQ h1 h2 8 [iP q, c7 p] [] (Plain (eB true))) (hlen : (p.length : Int) ≤ 60) (hCo : MQ h1 h2 9 [iP q, eI 60] [] (Plain (.tup [aQ C, eB true]))) (hC : ∀ x ∈ C, 0 ≤ x ∧ x < q.facts.length) (hCl : C.length ≤ 1000) (hA : MQ h1 h2 10 [ft [q, r], eI 60] [] (Plain (.tup [iS zl, eB true]))) (hF2 : MQ h1 h2 11 [ft [q, r], eI 60] [] (Plain (.tup [eI n, eB true]))) (hz : decide (n < 0) = true) (hAr : MQ h1 h2 12 [ft [q, r], iS zl] [] (Plain (eB true))) : MQ h1 h2 3 [.c (.d (bys xs)), .c (.d (bys ys))] [] (Plain (eB true)) := by
 refine MC.data (jB 116 h1 h2 Try.func3 Z Z Z fun O hF => ?_)
 refine ag (js O Z (jn (ac (ag (j2 O Z Z (ao O Z Z Z Z (pO (xs := xs) (ys := ys) h1 (Nat.le_trans h2 (by decide))) (aa Z) Z Z Z Z Z (B0 := 22000) Z (jf [21,4,0,1] Z (jn (ae O Z Z (fun hc21 => ?_) (fun hc21 => ?_))))))))))
 exact absurd hc21 (by rw [h0]; decide)
 refine aj (ag (js O Z (jf [22,4,0,1] Z (ab O Z Z Z Z (hB1) (aa Z) Z Z Z Z (B0 := 24000) Z Z (jf [23,4,0,1] Z (jl O Z (av ?_)))))))
 refine jo O Z (av ?_)
 refine aP (js O Z (ab O Z Z Z Z (hB2) (aa Z) Z Z Z Z (B0 := 26000) Z Z (jf [25,5,23,4,0,1] Z (jl O Z (av ?_)))))
 refine jo O Z (av ?_)
 refine aP (js O Z (ab O Z Z Z Z (hI) (aa Z) Z Z Z Z (B0 := 29000) Z Z (j4 O Z Z Z Z (js O Z (jf [8,7,6,25,5,23,4,0,1] Z (aP (js O Z (ab O Z Z Z Z (hS) (aa Z) Z Z Z Z (B0 := 34000) Z Z (j4 O Z Z Z Z (js O Z (jf [10,8,7,6,25,5,23,4,0,1] Z (jn (ac (ag (j3 O Z Z Z (jf [38,8,7,6,25,5,23,4,0,1] Z (jn (ae O Z Z (fun hc38 => ?_) (fun hc38 => ?_)))))))))))))))))))
 exact absurd (show false = true from hc38) (by decide)
 refine aj (ac (ag (j2 O Z Z (jf [40,8,7,6,25,5,23,4,0,1] Z (eh Z (js O Z (eh Z (js O Z (eh Z (ao O Z Z Z Z (hK) (aa Z) Z Z Z Z Z (B0 := 44000) Z (jf [43,40,8,7,6,25,5,23,4,0,1] Z (eh Z (js O Z (jf [44,40,8,7,6,25,5,23,4,0,1] Z (eh Z (js O Z (jf [45,40,8,7,6,25,5,23,4,0,1] Z (eh Z (js O Z (jf [46,45,40,8,6,25,5,23,4,0,1] Z (eh Z ?_)))))))))))))))))))))
 first | refine cj O Z ?_ | refine js O Z ?_ | refine bz O Z Z ?_
 refine jf [47,45,40,8,6,25,5,23,4,0,1] Z (eh Z (js O Z (jf [48,45,40,8,6,25,5,23,4,0,1] Z (eh Z (AOps.step (bb O Z Z Z Z Z) Z Z Z (AOps.step (bm O Z Z Z Z Z) Z Z Z (jf [50,8,6,25,5,23,4,0,1] Z (jn (ae O Z Z (fun hc50 => ?_) (fun hc50 => ?_))))))))))
 exact absurd (cI hc50) (by omega)
 refine aj (ag (js O Z (jf [52,8,6,25,5,23,4,0,1] Z (ab O Z Z Z Z (hCo) (aa Z) Z Z Z Z (B0 := 54000) Z Z (j4 O Z Z Z Z (js O Z (jf [12,11,8,6,25,5,23,4,0,1] Z (jn (ac (ag (j3 O Z Z Z (jf [58,11,8,6,25,5,23,4,0,1] Z (jn (ae O Z Z (fun hc58 => ?_) (fun hc58 => ?_)))))))))))))))
 exact absurd (show false = true from hc58) (by decide)
 refine aj (ac (ag (js O Z (jn (ah (al (X := Nat) (fun i => ⟨[(5, .c (.pt 5 0 0)), (6, .c (.pt 6 0 0)), (8, eB true), (11, aQ C), (13, eI i)], [(5, .box (q.cells.map .d)), (6, .box (r.cells.map .d))]⟩) (fun i => i ≤ C.length) (fun i => C.length - i) 0 ((am [5,6] (e' := [(5, _), (6, _), (8, _), (11, _), (13, _)]) Z Z ⟨Z, Z, Z, Z, Z, trivial⟩ Z).trans (Ent.to ⟨Z, Z, Z, Z, Z, trivial⟩ Z)) ?_ (fun i hi => ?_)))))))
 exact b9 _
 refine ac (ag (j2 O Z Z ?_))
 first | refine cj O Z ?_ | refine js O Z ?_ | refine bz O Z Z ?_
 refine js O Z (jf [62,5,6,8,11,13] Z (jn (ae O Z Z (fun hc62 => ?_) (fun hc62 => ?_))))
 refine aj (ac (ah (ac ?_)))
 have hil : i < C.length := by have := cI hc62; omega
 have hx := hC (C.getD i default) (by rw [ar hil]; exact List.getElem_mem hil)
 refine pF O [_,_,_,_,_,_,_,_,_,_,_,_,_,_,_] [pn [] 0 0, pn [] 0 0, pn [0,1] 0 0, pn [0,1,2] 0 0, pn (rg 0 4) 0 0, pn (rg 0 5) 0 0, pn (rg 0 6) 0 0, pn (rg 0 6) 0 0, pn (rg 0 8) 0 0, pn (rg 0 9) 0 0, pn (rg 0 6) 0 0, pn (rg 0 6++[10]) 0 0, pn (rg 0 6++[10,11]) 0 0, pn (rg 0 13) 0 0, pn (rg 0 14) 0 0] [] [_] (kc O Z (kc O Z (ai (aY O Z Z Z Z Z Z Z Z (fi hil)) (kc O Z (ai ((V O Z).cast (v' := eB false) (congrArg eB (decide_eq_false (by omega)))) (kc O Z (kc O Z (kc O Z (ai (aY O Z Z Z Z Z Z Z Z (fi hil)) (kc O Z (kc O Z (kc O Z (ai (br O Z Z Z Z Z Z Z Z) (ai ((V O Z).cast (v' := eB false) (congrArg eB (decide_eq_false (by omega)))) (ai (bb O Z Z Z Z Z) trivial))))))))))))))) ?_
 refine jw [79,62,5,6,8,11,13] Z (dL ?_)
 refine ae O Z Z (fun hc79 => ?_) (fun hc79 => ?_)
 exact absurd (show false = true from hc79) (by decide)
 refine aj (af (js O Z ?_))
 first | refine ji O Z ?_ | refine bz O Z Z ?_
 refine js O Z (jf [13,79,62,5,6,8,11] Z (jn ?_))
 refine ⟨i + 1, (am [5,6] (e' := [(5, _), (6, _), (8, _), (11, _), (13, _)]) Z Z ⟨Z, Z, Z, Z, Z, trivial⟩ Z).trans (Ent.to ⟨Z, Z, Z, Z, Z, trivial⟩ Z), by omega, by omega⟩
 refine aD (ag (j2 O Z Z (AOps.heap (bd O Z Z Z Z Z Z Z Z Z Z Z) Z (av ?_))))
 refine az (am [5,6,82] (e' := [(82, _), (5, _), (6, _), (8, _)]) Z Z ⟨Z, Z, Z, Z, trivial⟩ Z) (az (Ent.freeze 82 (e' := [(82, _), (5, _), (6, _), (8, _)]) Z (.cons Z (.c (.row Z Z)) (fe [5,6,8] Z)) (.cons Z (.box (fk Z)) (.cons Z (.box (fk Z)) (.skip .nil)))) ?_)
 refine av ?_
 refine av ?_
 refine js O Z (aP (js O Z (ab O Z Z Z Z (hA) (aa Z) Z Z Z Z (B0 := 86000) Z Z (j4 O Z Z Z Z (js O Z (jf [16,15,14,82,5,6,8] Z (aP (js O Z (ab O Z Z Z Z (hF2) (aa Z) Z Z Z Z (B0 := 91000) Z Z (j4 O Z Z Z Z (js O Z (jf [18,17,16,15,14,82,5,6,8] Z (jn (ac (ag (j3 O Z Z Z (jf [95,17,16,15,14,82,5,6,8] Z (eh Z (js O Z (eh Z (js O Z (eh Z (js O Z (jf [98,96,95,17,16,15,14,82,5,6,8] Z (eh Z (AOps.step ((V O Z).cast (v' := eB false) (congrArg eB (by rw [hz]; rfl))) Z Z Z (AOps.step (bb O Z Z Z Z Z) Z Z Z (js O Z (jf [101,17,16,15,14,82,5,6,8] Z ?_)))))))))))))))))))))))))))))
 refine eh Z (js O Z (eh Z (js O Z (jf [103,101,17,16,15,14,82,5,6,8] Z (eh Z (js O Z (jf [104,101,17,16,15,14,82,5,6,8] Z (AOps.skip Z Z Z Z Z Z (jf [105,104,101,16,15,14,82,5,6,8] Z (AOps.skip Z Z Z Z Z Z (jf [106,104,101,16,15,14,82,5,6,8] Z (eh Z (AOps.step (bb O Z Z Z Z Z) Z Z Z (AOps.step (bb O Z Z Z Z Z) Z Z Z (jf [108,16,15,14,82,5,6,8] Z (jn (ae O Z Z (fun hc108 => ?_) (fun hc108 => ?_))))))))))))))))))
 exact absurd (show false = true from hc108) (by decide)
 refine aj (ag (j3 O Z Z Z (jf [111,108,16,15,14,82,5,6,8] Z (eh Z (js O Z (eh Z (js O Z (jf [113,112,111,108,16,14,82,5,6,8] Z (eh Z (ao O Z Z Z Z (hAr) (aa Z) Z Z Z Z Z (B0 := 115000) Z (AOps.step (bb O Z Z Z Z Z) Z Z Z (js O Z (jf [4,108,16,14,82,5,6,8] Z (jr ?_))))))))))))))
 refine ⟨.inl Z, _, ak, _, Z, ?_⟩
 exact .v (.c .d)
theorem vm (h0 : (bif decide ((1048576 : Int) < xs.length) then true else decide ((1048576 : Int) < ys.length)) = false) (hB1 : MQ h1 h2 5 [.c (.d (bys xs))] [] (Plain (iP q))) (hB2 : MQ h1 h2 5 [.c (.d (bys ys))] [] (Plain (iP r))) (hI : MQ h1 h2 6 [iP q, eI 60] [] (Plain (.tup [c7 p, eB true]))) (hS : MQ h1 h2 7 [iP q, eI 60] [] (Plain (.tup [c7 p2, eB true]))) (hK : MQ h1 h2 8 [iP q, c7 p] [] (Plain (eB true))) (hlen : (p.length : Int) ≤ 60) (hCo : MQ h1 h2 9 [iP q, eI 60] [] (Plain (.tup [aQ C, eB true]))) (hC : ∀ x ∈ C, 0 ≤ x ∧ x < q.facts.length) (hCl : C.length ≤ 1000) (hA : MQ h1 h2 10 [ft [q, r], eI 60] [] (Plain (.tup [iS zl, eB false]))) (hF2 : MQ h1 h2 11 [ft [q, r], eI 60] [] (Plain (.tup [eI n, eB true]))) (hz : decide (n < 0) = false) : MQ h1 h2 3 [.c (.d (bys xs)), .c (.d (bys ys))] [] (Plain (eB true)) := by
 refine MC.data (jB 116 h1 h2 Try.func3 Z Z Z fun O hF => ?_)
 refine ag (js O Z (jn (ac (ag (j2 O Z Z (ao O Z Z Z Z (pO (xs := xs) (ys := ys) h1 (Nat.le_trans h2 (by decide))) (aa Z) Z Z Z Z Z (B0 := 22000) Z (jf [21,4,0,1] Z (jn (ae O Z Z (fun hc21 => ?_) (fun hc21 => ?_))))))))))
 exact absurd hc21 (by rw [h0]; decide)
 refine aj (ag (js O Z (jf [22,4,0,1] Z (ab O Z Z Z Z (hB1) (aa Z) Z Z Z Z (B0 := 24000) Z Z (jf [23,4,0,1] Z (jl O Z (av ?_)))))))
 refine jo O Z (av ?_)
 refine aP (js O Z (ab O Z Z Z Z (hB2) (aa Z) Z Z Z Z (B0 := 26000) Z Z (jf [25,5,23,4,0,1] Z (jl O Z (av ?_)))))
 refine jo O Z (av ?_)
 refine aP (js O Z (ab O Z Z Z Z (hI) (aa Z) Z Z Z Z (B0 := 29000) Z Z (j4 O Z Z Z Z (js O Z (jf [8,7,6,25,5,23,4,0,1] Z (aP (js O Z (ab O Z Z Z Z (hS) (aa Z) Z Z Z Z (B0 := 34000) Z Z (j4 O Z Z Z Z (js O Z (jf [10,8,7,6,25,5,23,4,0,1] Z (jn (ac (ag (j3 O Z Z Z (jf [38,8,7,6,25,5,23,4,0,1] Z (jn (ae O Z Z (fun hc38 => ?_) (fun hc38 => ?_)))))))))))))))))))
 exact absurd (show false = true from hc38) (by decide)
 refine aj (ac (ag (j2 O Z Z (jf [40,8,7,6,25,5,23,4,0,1] Z (eh Z (js O Z (eh Z (js O Z (eh Z (ao O Z Z Z Z (hK) (aa Z) Z Z Z Z Z (B0 := 44000) Z (jf [43,40,8,7,6,25,5,23,4,0,1] Z (eh Z (js O Z (jf [44,40,8,7,6,25,5,23,4,0,1] Z (eh Z (js O Z (jf [45,40,8,7,6,25,5,23,4,0,1] Z (eh Z (js O Z (jf [46,45,40,8,6,25,5,23,4,0,1] Z (eh Z ?_)))))))))))))))))))))
 first | refine cj O Z ?_ | refine js O Z ?_ | refine bz O Z Z ?_
 refine jf [47,45,40,8,6,25,5,23,4,0,1] Z (eh Z (js O Z (jf [48,45,40,8,6,25,5,23,4,0,1] Z (eh Z (AOps.step (bb O Z Z Z Z Z) Z Z Z (AOps.step (bm O Z Z Z Z Z) Z Z Z (jf [50,8,6,25,5,23,4,0,1] Z (jn (ae O Z Z (fun hc50 => ?_) (fun hc50 => ?_))))))))))
 exact absurd (cI hc50) (by omega)
 refine aj (ag (js O Z (jf [52,8,6,25,5,23,4,0,1] Z (ab O Z Z Z Z (hCo) (aa Z) Z Z Z Z (B0 := 54000) Z Z (j4 O Z Z Z Z (js O Z (jf [12,11,8,6,25,5,23,4,0,1] Z (jn (ac (ag (j3 O Z Z Z (jf [58,11,8,6,25,5,23,4,0,1] Z (jn (ae O Z Z (fun hc58 => ?_) (fun hc58 => ?_)))))))))))))))
 exact absurd (show false = true from hc58) (by decide)
 refine aj (ac (ag (js O Z (jn (ah (al (X := Nat) (fun i => ⟨[(5, .c (.pt 5 0 0)), (6, .c (.pt 6 0 0)), (8, eB true), (11, aQ C), (13, eI i)], [(5, .box (q.cells.map .d)), (6, .box (r.cells.map .d))]⟩) (fun i => i ≤ C.length) (fun i => C.length - i) 0 ((am [5,6] (e' := [(5, _), (6, _), (8, _), (11, _), (13, _)]) Z Z ⟨Z, Z, Z, Z, Z, trivial⟩ Z).trans (Ent.to ⟨Z, Z, Z, Z, Z, trivial⟩ Z)) ?_ (fun i hi => ?_)))))))
 exact b9 _
 refine ac (ag (j2 O Z Z ?_))
 first | refine cj O Z ?_ | refine js O Z ?_ | refine bz O Z Z ?_
 refine js O Z (jf [62,5,6,8,11,13] Z (jn (ae O Z Z (fun hc62 => ?_) (fun hc62 => ?_))))
 refine aj (ac (ah (ac ?_)))
 have hil : i < C.length := by have := cI hc62; omega
 have hx := hC (C.getD i default) (by rw [ar hil]; exact List.getElem_mem hil)
 refine pF O [_,_,_,_,_,_,_,_,_,_,_,_,_,_,_] [pn [] 0 0, pn [] 0 0, pn [0,1] 0 0, pn [0,1,2] 0 0, pn (rg 0 4) 0 0, pn (rg 0 5) 0 0, pn (rg 0 6) 0 0, pn (rg 0 6) 0 0, pn (rg 0 8) 0 0, pn (rg 0 9) 0 0, pn (rg 0 6) 0 0, pn (rg 0 6++[10]) 0 0, pn (rg 0 6++[10,11]) 0 0, pn (rg 0 13) 0 0, pn (rg 0 14) 0 0] [] [_] (kc O Z (kc O Z (ai (aY O Z Z Z Z Z Z Z Z (fi hil)) (kc O Z (ai ((V O Z).cast (v' := eB false) (congrArg eB (decide_eq_false (by omega)))) (kc O Z (kc O Z (kc O Z (ai (aY O Z Z Z Z Z Z Z Z (fi hil)) (kc O Z (kc O Z (kc O Z (ai (br O Z Z Z Z Z Z Z Z) (ai ((V O Z).cast (v' := eB false) (congrArg eB (decide_eq_false (by omega)))) (ai (bb O Z Z Z Z Z) trivial))))))))))))))) ?_
 refine jw [79,62,5,6,8,11,13] Z (dL ?_)
 refine ae O Z Z (fun hc79 => ?_) (fun hc79 => ?_)
 exact absurd (show false = true from hc79) (by decide)
 refine aj (af (js O Z ?_))
 first | refine ji O Z ?_ | refine bz O Z Z ?_
 refine js O Z (jf [13,79,62,5,6,8,11] Z (jn ?_))
 refine ⟨i + 1, (am [5,6] (e' := [(5, _), (6, _), (8, _), (11, _), (13, _)]) Z Z ⟨Z, Z, Z, Z, Z, trivial⟩ Z).trans (Ent.to ⟨Z, Z, Z, Z, Z, trivial⟩ Z), by omega, by omega⟩
 refine aD (ag (j2 O Z Z (AOps.heap (bd O Z Z Z Z Z Z Z Z Z Z Z) Z (av ?_))))
 refine az (am [5,6,82] (e' := [(82, _), (5, _), (6, _), (8, _)]) Z Z ⟨Z, Z, Z, Z, trivial⟩ Z) (az (Ent.freeze 82 (e' := [(82, _), (5, _), (6, _), (8, _)]) Z (.cons Z (.c (.row Z Z)) (fe [5,6,8] Z)) (.cons Z (.box (fk Z)) (.cons Z (.box (fk Z)) (.skip .nil)))) ?_)
 refine av ?_
 refine av ?_
 refine js O Z (aP (js O Z (ab O Z Z Z Z (hA) (aa Z) Z Z Z Z (B0 := 86000) Z Z (j4 O Z Z Z Z (js O Z (jf [16,15,14,82,5,6,8] Z (aP (js O Z (ab O Z Z Z Z (hF2) (aa Z) Z Z Z Z (B0 := 91000) Z Z (j4 O Z Z Z Z (js O Z (jf [18,17,16,15,14,82,5,6,8] Z (jn (ac (ag (j3 O Z Z Z (jf [95,17,16,15,14,82,5,6,8] Z (eh Z (js O Z (eh Z (js O Z (eh Z (js O Z (jf [98,96,95,17,16,15,14,82,5,6,8] Z (eh Z (AOps.step ((V O Z).cast (v' := eB false) (congrArg eB (by rw [hz]; rfl))) Z Z Z (AOps.step (bb O Z Z Z Z Z) Z Z Z (js O Z (jf [101,17,16,15,14,82,5,6,8] Z ?_)))))))))))))))))))))))))))))
 refine eh Z (js O Z (eh Z (js O Z (jf [103,101,17,16,15,14,82,5,6,8] Z (eh Z (js O Z (jf [104,101,17,16,15,14,82,5,6,8] Z (AOps.skip Z Z Z Z Z Z (jf [105,104,101,16,15,14,82,5,6,8] Z (AOps.skip Z Z Z Z Z Z (jf [106,104,101,16,15,14,82,5,6,8] Z (eh Z (AOps.step (bb O Z Z Z Z Z) Z Z Z (AOps.step (bb O Z Z Z Z Z) Z Z Z (jf [108,16,15,14,82,5,6,8] Z (jn (ae O Z Z (fun hc108 => ?_) (fun hc108 => ?_))))))))))))))))))
 exact absurd (show false = true from hc108) (by decide)
 refine aj (ag (j3 O Z Z Z (jf [111,108,16,15,14,82,5,6,8] Z (AOps.skip Z Z Z Z Z Z (AOps.skip Z Z Z Z Z Z (jf [113,112,111,108,16,14,82,5,6,8] Z (AOps.skip Z Z Z Z Z Z (AOps.step (bm O Z Z Z Z Z) Z Z Z (js O Z (jf [4,108,16,14,82,5,6,8] Z (jr ?_)))))))))))
 refine ⟨.inl Z, _, ak, _, Z, ?_⟩
 exact .v (.c .d)
theorem vk (h0 : (bif decide ((1048576 : Int) < xs.length) then true else decide ((1048576 : Int) < ys.length)) = false) (hB1 : MQ h1 h2 5 [.c (.d (bys xs))] [] (Plain (iP q))) (hB2 : MQ h1 h2 5 [.c (.d (bys ys))] [] (Plain (iP r))) (hI : MQ h1 h2 6 [iP q, eI 60] [] (Plain (.tup [c7 p, eB false]))) (hS : MQ h1 h2 7 [iP q, eI 60] [] (Plain (.tup [c7 p2, eB false]))) (hn0 : n = 0) (hCo : MQ h1 h2 9 [iP q, eI 60] [] (Plain (.tup [aQ C, eB false]))) (hC : ∀ x ∈ C, 0 ≤ x ∧ x < q.facts.length) (hCl : C.length ≤ 1000) (hA : MQ h1 h2 10 [ft [q, r], eI 60] [] (Plain (.tup [iS zl, eB false]))) (hF2 : MQ h1 h2 11 [ft [q, r], eI 60] [] (Plain (.tup [eI n, eB true]))) (hz : decide (n < 0) = false) : MQ h1 h2 3 [.c (.d (bys xs)), .c (.d (bys ys))] [] (Plain (eB true)) := by
 refine MC.data (jB 116 h1 h2 Try.func3 Z Z Z fun O hF => ?_)
 refine ag (js O Z (jn (ac (ag (j2 O Z Z (ao O Z Z Z Z (pO (xs := xs) (ys := ys) h1 (Nat.le_trans h2 (by decide))) (aa Z) Z Z Z Z Z (B0 := 22000) Z (jf [21,4,0,1] Z (jn (ae O Z Z (fun hc21 => ?_) (fun hc21 => ?_))))))))))
 exact absurd hc21 (by rw [h0]; decide)
 refine aj (ag (js O Z (jf [22,4,0,1] Z (ab O Z Z Z Z (hB1) (aa Z) Z Z Z Z (B0 := 24000) Z Z (jf [23,4,0,1] Z (jl O Z (av ?_)))))))
 refine jo O Z (av ?_)
 refine aP (js O Z (ab O Z Z Z Z (hB2) (aa Z) Z Z Z Z (B0 := 26000) Z Z (jf [25,5,23,4,0,1] Z (jl O Z (av ?_)))))
 refine jo O Z (av ?_)
 refine aP (js O Z (ab O Z Z Z Z (hI) (aa Z) Z Z Z Z (B0 := 29000) Z Z (j4 O Z Z Z Z (js O Z (jf [8,7,6,25,5,23,4,0,1] Z (aP (js O Z (ab O Z Z Z Z (hS) (aa Z) Z Z Z Z (B0 := 34000) Z Z (j4 O Z Z Z Z (js O Z (jf [10,8,7,6,25,5,23,4,0,1] Z (jn (ac (ag (j3 O Z Z Z (jf [38,8,7,6,25,5,23,4,0,1] Z (jn (ae O Z Z (fun hc38 => ?_) (fun hc38 => ?_)))))))))))))))))))
 exact absurd (show false = true from hc38) (by decide)
 refine aj (ac (ag (j2 O Z Z (jf [40,8,7,6,25,5,23,4,0,1] Z (AOps.skip Z Z Z Z Z Z (AOps.skip Z Z Z Z Z Z (AOps.skip Z Z Z Z Z Z (jf [43,40,8,7,6,25,5,23,4,0,1] Z (AOps.skip Z Z Z Z Z Z (jf [44,40,8,7,6,25,5,23,4,0,1] Z (AOps.skip Z Z Z Z Z Z (jf [45,40,8,7,6,25,5,23,4,0,1] Z (iO Z Z Z Z Z (jf [46,45,40,8,6,25,5,23,4,0,1] Z (iO Z Z Z Z Z (jf [47,45,40,8,6,25,5,23,4,0,1] Z (iO Z Z Z Z Z (jf [48,45,40,8,6,25,5,23,4,0,1] Z (AOps.skip Z Z Z Z Z Z (AOps.step (bb O Z Z Z Z Z) Z Z Z (jf [50,8,6,25,5,23,4,0,1] Z (jn (ae O Z Z (fun hc50 => ?_) (fun hc50 => ?_))))))))))))))))))))))))
 exact absurd (show false = true from hc50) (by decide)
 refine aj (ag (js O Z (jf [52,8,6,25,5,23,4,0,1] Z (ab O Z Z Z Z (hCo) (aa Z) Z Z Z Z (B0 := 54000) Z Z (j4 O Z Z Z Z (js O Z (jf [12,11,8,6,25,5,23,4,0,1] Z (jn (ac (ag (j3 O Z Z Z (jf [58,11,8,6,25,5,23,4,0,1] Z (jn (ae O Z Z (fun hc58 => ?_) (fun hc58 => ?_)))))))))))))))
 exact absurd (show false = true from hc58) (by decide)
 refine aj (ac (ag (js O Z (jn (ah (al (X := Nat) (fun i => ⟨[(5, .c (.pt 5 0 0)), (6, .c (.pt 6 0 0)), (8, eB false), (11, aQ C), (13, eI i)], [(5, .box (q.cells.map .d)), (6, .box (r.cells.map .d))]⟩) (fun i => i ≤ C.length) (fun i => C.length - i) 0 ((am [5,6] (e' := [(5, _), (6, _), (8, _), (11, _), (13, _)]) Z Z ⟨Z, Z, Z, Z, Z, trivial⟩ Z).trans (Ent.to ⟨Z, Z, Z, Z, Z, trivial⟩ Z)) ?_ (fun i hi => ?_)))))))
 exact b9 _
 refine ac (ag (j2 O Z Z ?_))
 first | refine cj O Z ?_ | refine js O Z ?_ | refine bz O Z Z ?_
 refine js O Z (jf [62,5,6,8,11,13] Z (jn (ae O Z Z (fun hc62 => ?_) (fun hc62 => ?_))))
 refine aj (ac (ah (ac ?_)))
 have hil : i < C.length := by have := cI hc62; omega
 have hx := hC (C.getD i default) (by rw [ar hil]; exact List.getElem_mem hil)
 refine pF O [_,_,_,_,_,_,_,_,_,_,_,_,_,_,_] [pn [] 0 0, pn [] 0 0, pn [0,1] 0 0, pn [0,1,2] 0 0, pn (rg 0 4) 0 0, pn (rg 0 5) 0 0, pn (rg 0 6) 0 0, pn (rg 0 6) 0 0, pn (rg 0 8) 0 0, pn (rg 0 9) 0 0, pn (rg 0 6) 0 0, pn (rg 0 6++[10]) 0 0, pn (rg 0 6++[10,11]) 0 0, pn (rg 0 13) 0 0, pn (rg 0 14) 0 0] [] [_] (kc O Z (kc O Z (ai (aY O Z Z Z Z Z Z Z Z (fi hil)) (kc O Z (ai ((V O Z).cast (v' := eB false) (congrArg eB (decide_eq_false (by omega)))) (kc O Z (kc O Z (kc O Z (ai (aY O Z Z Z Z Z Z Z Z (fi hil)) (kc O Z (kc O Z (kc O Z (ai (br O Z Z Z Z Z Z Z Z) (ai ((V O Z).cast (v' := eB false) (congrArg eB (decide_eq_false (by omega)))) (ai (bb O Z Z Z Z Z) trivial))))))))))))))) ?_
 refine jw [79,62,5,6,8,11,13] Z (dL ?_)
 refine ae O Z Z (fun hc79 => ?_) (fun hc79 => ?_)
 exact absurd (show false = true from hc79) (by decide)
 refine aj (af (js O Z ?_))
 first | refine ji O Z ?_ | refine bz O Z Z ?_
 refine js O Z (jf [13,79,62,5,6,8,11] Z (jn ?_))
 refine ⟨i + 1, (am [5,6] (e' := [(5, _), (6, _), (8, _), (11, _), (13, _)]) Z Z ⟨Z, Z, Z, Z, Z, trivial⟩ Z).trans (Ent.to ⟨Z, Z, Z, Z, Z, trivial⟩ Z), by omega, by omega⟩
 refine aD (ag (j2 O Z Z (AOps.heap (bd O Z Z Z Z Z Z Z Z Z Z Z) Z (av ?_))))
 refine az (am [5,6,82] (e' := [(82, _), (5, _), (6, _), (8, _)]) Z Z ⟨Z, Z, Z, Z, trivial⟩ Z) (az (Ent.freeze 82 (e' := [(82, _), (5, _), (6, _), (8, _)]) Z (.cons Z (.c (.row Z Z)) (fe [5,6,8] Z)) (.cons Z (.box (fk Z)) (.cons Z (.box (fk Z)) (.skip .nil)))) ?_)
 refine av ?_
 refine av ?_
 refine js O Z (aP (js O Z (ab O Z Z Z Z (hA) (aa Z) Z Z Z Z (B0 := 86000) Z Z (j4 O Z Z Z Z (js O Z (jf [16,15,14,82,5,6,8] Z (aP (js O Z (ab O Z Z Z Z (hF2) (aa Z) Z Z Z Z (B0 := 91000) Z Z (j4 O Z Z Z Z (js O Z (jf [18,17,16,15,14,82,5,6,8] Z (jn (ac (ag (j3 O Z Z Z (jf [95,17,16,15,14,82,5,6,8] Z (eh Z (js O Z (eh Z (js O Z (eh Z (js O Z (jf [98,96,95,17,16,15,14,82,5,6,8] Z (eh Z (AOps.step ((V O Z).cast (v' := eB false) (congrArg eB (by rw [hz]; rfl))) Z Z Z (AOps.step (bb O Z Z Z Z Z) Z Z Z (js O Z (jf [101,17,16,15,14,82,5,6,8] Z ?_)))))))))))))))))))))))))))))
 refine eh Z (js O Z (eh Z (js O Z (jf [103,101,17,16,15,14,82,5,6,8] Z (eh Z (js O Z (jf [104,101,17,16,15,14,82,5,6,8] Z (eh Z (js O Z (jf [105,104,101,16,15,14,82,5,6,8] Z (eh Z (AOps.step ((V O Z).cast (v' := eB false) (congrArg eB (by rw [hn0]; rfl))) Z Z Z (jf [106,104,101,16,15,14,82,5,6,8] Z (eh Z (AOps.step (bm O Z Z Z Z Z) Z Z Z (AOps.step (bb O Z Z Z Z Z) Z Z Z (jf [108,16,15,14,82,5,6,8] Z (jn (ae O Z Z (fun hc108 => ?_) (fun hc108 => ?_))))))))))))))))))))
 exact absurd (show false = true from hc108) (by decide)
 refine aj (ag (j3 O Z Z Z (jf [111,108,16,15,14,82,5,6,8] Z (AOps.skip Z Z Z Z Z Z (AOps.skip Z Z Z Z Z Z (jf [113,112,111,108,16,14,82,5,6,8] Z (AOps.skip Z Z Z Z Z Z (AOps.step (bm O Z Z Z Z Z) Z Z Z (js O Z (jf [4,108,16,14,82,5,6,8] Z (jr ?_)))))))))))
 refine ⟨.inl Z, _, ak, _, Z, ?_⟩
 exact .v (.c .d)
theorem nL {s : Sq} (h : bX s = true) : bD s 60 = aU s 60 := by
 unfold bD; rw [h]; rfl
theorem ga {b : Int} {q r : Sq} (h : (aU q b).2 = false ∨ (aU r b).2 = false) : (dP b [q, r]).length < [q, r].length := by
 rcases h with h | h
 simp [dP, h]
 cases h1 : (aU q b).2 <;> simp [dP, h, h1]
theorem sC {xs ys : List Int} (hx : ∀ n ∈ xs, 0 ≤ n ∧ n ≤ 255) (hy : ∀ n ∈ ys, 0 ≤ n ∧ n ≤ 255) : MC Try.prog 1073741824 3 [.c (.d (bys xs)), .c (.d (bys ys))] [] (Plain (eB true)) := by
 cases h0 : (bif decide ((1048576 : Int) < xs.length) then true else decide ((1048576 : Int) < ys.length)) with
 | true => exact r7 (by decide) (by decide) h0
 | false =>
  have hB1 := ur (L := 1073741824) (by decide) (cu _) hx
  have hB2 := ur (L := 1073741824) (by decide) (cu _) hy
  have hq := qm hx
  have hr := qm hy
  generalize nv xs = q at hB1 hq
  generalize nv ys = r at hB2 hr
  have hI := pQ (L := 1073741824) (s := q) (b := 60) (by decide) (cu _)
  have hS := xo (L := 1073741824) (s := q) (b := 60) (by decide) (cu _)
  have hCo := xp (L := 1073741824) (s := q) (b := 60) (by decide) (cu _)
  have hF := xq (L := 1073741824) (ss := [q, r]) (b := 60) (by decide) (cu _)
  obtain ⟨t1, t2, t3⟩ := tw (b := 60) hq hr rfl
  have hsq : iu [q, r] = true := by simp [iu, hq, hr]
  have hqp := nL hq
  have hrp := nL hr
  have hCx : ∀ x ∈ (fz q 60).1, 0 ≤ x ∧ x < q.facts.length := by
   unfold fz; split
   exact oH
   intro x hx; cases hx
  have hCl : (fz q 60).1.length ≤ 1000 := by
   have := (cC hq).2.1
   unfold fz; split
   have := iJ (bs := dV nz (bD q 60).1 q.facts.length (bD q 60).1.length) (i := q.facts.length)
   simp only; omega
   exact b9 _
  have hC2 : (fz q 60).2 = (bD q 60).2 := by
   unfold fz
   cases h : (bD q 60).2 <;> simp
  have hF' : MC Try.prog 1073741824 11 [ft [q, r], eI 60] [] (Plain (.tup [eI (dr [q, r] 60).1, eB true])) := hF.plain (by unfold t9; rw [t2])
  cases hv : (bD q 60).2 with
  | true =>
   rw [hv] at hC2
   have hI' := hI.plain (u := .tup [c7 (bD q 60).1, eB true]) (by unfold gj; rw [hv])
   have hS' := hS.plain (u := .tup [c7 (bD q 60).1, eB true]) (by unfold gj; rw [hv])
   have hCo' := hCo.plain (u := .tup [aQ (fz q 60).1, eB true]) (by unfold pI; rw [hC2])
   obtain ⟨k1, k2⟩ := k7 (b := 60) hq (by decide) (by rw [← hqp]; exact hv)
   rw [← hqp] at k1 k2
   have hK := (yy (L := 1073741824) (s := q) (p := (bD q 60).1) (by decide) (cu _)).plain (u := eB true) (by rw [k1])
   cases hw : (aU r 60).2 with
   | true =>
    have hall : ∀ s ∈ [q, r], (bD s 60).2 = true := fun s hs => by
     simp only [List.mem_cons, List.not_mem_nil, or_false] at hs
     rcases hs with rfl | rfl
     · exact hv
     · rw [hrp]; exact hw
    have hA := (vu (L := 1073741824) (ss := [q, r]) (b := 60) (by decide) (cu _) hsq Z hall).frozen (v := .tup [iS ([q, r].map fun s => (bD s 60).1), eB true]) (.tup (.cons (.c (.whole Z (by simp))) (.cons (.c .d) .nil)))
    have e2 : (kT [q, r] 60) = ([q, r].map fun s => (bD s 60).1, true) := by
     unfold kT
     rw [if_pos (by rw [hsq]; rfl)]
     have hv' : (aU q 60).2 = true := by rw [← hqp]; exact hv
     simp [dP, hv', hw, hqp, hrp]
    have hz : decide ((dr [q, r] 60).1 < 0) = true := by rw [← t1, e2]
    have ha := tv (b := 60) hq hr Z (by rw [e2])
    rw [e2] at ha
    have hAr := (c47 (L := 1073741824) (ss := [q, r]) (ps := [q, r].map fun s => (bD s 60).1) (by decide) (cu _)).plain (u := eB true) (by rw [ha])
    exact vn (by decide) (cu _) h0 hB1 hB2 hI' hS' hK k2 hCo' hCx hCl hA hF' hz hAr
   | false =>
    have hA := (qj (L := 1073741824) (ss := [q, r]) (b := 60) (by decide) (cu _) hsq Z (ga (.inr hw))).frozen (v := .tup [iS [], eB false]) (.tup (.cons (.c .nils) (.cons (.c .d) .nil)))
    have hz : decide ((dr [q, r] 60).1 < 0) = false := by
     rw [← t1]; unfold kT
     rw [if_pos (by rw [hsq]; rfl), if_pos (ga (.inr hw))]
    exact vm (by decide) (cu _) h0 hB1 hB2 hI' hS' hK k2 hCo' hCx hCl hA hF' hz
  | false =>
   rw [hv] at hC2
   have hv' : (aU q 60).2 = false := by rw [← hqp]; exact hv
   have hI' := hI.plain (u := .tup [c7 (bD q 60).1, eB false]) (by unfold gj; rw [hv])
   have hS' := hS.plain (u := .tup [c7 (bD q 60).1, eB false]) (by unfold gj; rw [hv])
   have hCo' := hCo.plain (u := .tup [aQ (fz q 60).1, eB false]) (by unfold pI; rw [hC2])
   have hA := (qj (L := 1073741824) (ss := [q, r]) (b := 60) (by decide) (cu _) hsq Z (ga (.inl hv'))).frozen (v := .tup [iS [], eB false]) (.tup (.cons (.c .nils) (.cons (.c .d) .nil)))
   have hz : decide ((dr [q, r] 60).1 < 0) = false := by
    rw [← t1]; unfold kT
    rw [if_pos (by rw [hsq]; rfl), if_pos (ga (.inl hv'))]
   exact vk (by decide) (cu _) h0 hB1 hB2 hI' hS' (t3 hv') hCo' hCx hCl hA hF' hz
theorem lv {L M : Nat} : ∀ {xs : List Int}, Dss.fact L (List.map (fun n => [D.int IntKind.u8 n]) xs) → Dss.fact M (List.map (fun n => [D.int IntKind.u8 n]) xs)
 | [], _ => trivial
 | x :: xs, h => by
  have ih := lv (L := L) (M := M) (xs := xs)
  simp only [List.map_cons, Dss.fact, Ds.fact, D.fact] at h ⊢
  exact ⟨h.1, ih h.2⟩
theorem law1221 {L : Nat} (h1 : 4096 ≤ L) (h2 : L ≤ 9223372036854775807) {xs ys : List Int} (hx : ∀ n ∈ xs, 0 ≤ n ∧ n ≤ 255) (hy : ∀ n ∈ ys, 0 ≤ n ∧ n ≤ 255) : MC Try.prog L 3 [.c (.d (bys xs)), .c (.d (bys ys))] [] (Plain (eB true)) := by
 cases h0 : (bif decide ((1048576 : Int) < xs.length) then true else decide ((1048576 : Int) < ys.length)) with
 | true => exact r7 h1 h2 h0
 | false =>
  have hl : xs.length ≤ 1048576 ∧ ys.length ≤ 1048576 := by
   cases ha : decide ((1048576 : Int) < xs.length) with
   | true => rw [ha] at h0; cases h0
   | false =>
    rw [ha] at h0
    have := dh ha
    have := dh h0
    omega
  refine MC.facts ⟨_, _, Try.func3, by kernel_rfl, Z⟩ fun hF => ?_
  refine tW (L0 := 1073741824) Z ?_ (sC hx hy)
  simp [As.fact, A.fact, M.fact, D.fact, Ds.fact] at hF ⊢
  exact ⟨⟨by omega, lv hF.1.2⟩, ⟨by omega, lv hF.2.2⟩⟩
end Go.Al
