/- What is drawn from bytes: bW, facts, in plain Lean and walked. -/
import Derived.Test.YtnnbiajhcolfiaaGreatH
import Derived.Test.YtnnbiajhcolfiaaGreatC
import Derived.Test.YtnnbiajhcolfiaaGreatE
import Derived.Test.YtnnbiajhcolfiaaGreatS
set_option linter.unusedVariables false
set_option linter.unusedSimpArgs false
set_option maxRecDepth 10000
set_option maxHeartbeats 4000000
open Go.Proofs
namespace Go.Al
variable {L : Nat} (h1 : 4096 ≤ L) (h2 : L ≤ 1073741824)
structure NdAt (n : Nat) (x : Nd) : Prop where
  close : x.kind = 1 → n + 1 ≤ x.mul.length ∧ x.mul.length ≤ 20
  fact : x.kind = 3 → 0 ≤ x.fact ∧ x.fact ≤ 19
  kind : x.kind = 1 ∨ x.kind = 2 ∨ x.kind = 3
structure MvOk (zx to : Int → Int) (x : Nd) : Prop where
  kind : x.kind = 1 ∨ x.kind = 2 ∨ x.kind = 3
  fact : x.kind = 3 → 0 ≤ x.fact ∧ x.fact ≤ 19
  len : x.kind = 1 → x.mul.length ≤ 20
  cntb : x.kind = 1 → 0 ≤ zx x.mul.length ∧ zx x.mul.length ≤ 1000
  rng : x.kind = 1 → ∀ i : Nat, i < x.mul.length → to i < zx x.mul.length
structure Rw where
  c : Int
  xs : List Int
  ms : List Int
  deriving Inhabited
theorem mP : ∀ {ys : List Int}, ∃ z : Nat, ys.reverse = (ys.dropWhile (· == 0)).reverse ++ List.replicate z 0
 | [] => ⟨0, rfl⟩
 | y :: ys => by
  by_cases h : y = 0
  subst h
  obtain ⟨z, hz⟩ := mP (ys := ys)
  refine ⟨z + 1, ?_⟩
  rw [List.reverse_cons, hz, List.replicate_succ', eQ]
  rfl
  refine ⟨0, ?_⟩
  rw [List.dropWhile_cons_of_neg (by simpa using h)]
  simp
theorem tc (xs : List Int) : ∃ z : Nat, xs = df xs ++ List.replicate z 0 := by
 obtain ⟨z, hz⟩ := mP (ys := xs.reverse)
 rw [List.reverse_reverse] at hz
 exact ⟨z, hz⟩
theorem kC (xs : List Int) : (df xs).length ≤ xs.length := by
 obtain ⟨z, hz⟩ := tc xs
 have := congrArg List.length hz
 rw [de] at this
 omega
structure ROk (n : Nat) (r : Rw) : Prop where
  c : num r.c = true
  xs : r.xs.all num = true
  l : r.xs.length = 10
  ms : r.ms.all co = true
  n : r.ms.length = n
  pos : ∃ x ∈ r.ms, 0 < x
structure Fs (ts : List Tm) : Prop where
  ok : ∀ t ∈ ts, t.ok = true
  len : ts.length ≤ 14
structure Src where
  code : List Int
  at_ : Nat
  seed : Int
abbrev bys (xs : List Int) : D := .slc 1 (xs.map fun n => [.int .u8 n])
abbrev bb (s : Src) : B := .box [.d (bys s.code), .d (.int .i64 (s.at_ : Nat)), .d (.int .u64 s.seed)]
def Src.b (s : Src) : Int := if s.at_ < s.code.length then IntKind.i64.wrap (s.code.getD s.at_ default) else 0
def Src.step (s : Src) : Src := ⟨s.code, s.at_ + 1, IntKind.u64.wrap (IntKind.u64.wrap (IntKind.u64.wrap (s.seed * 6364136223846793005) + IntKind.u64.wrap s.b) + 1442695040888963407)⟩
def Src.val (s : Src) : Int := if s.at_ + 1 ≤ s.code.length then s.b else sj s.step.seed
structure Src.Ok (s : Src) : Prop where
  code : ∀ n ∈ s.code, 0 ≤ n ∧ n ≤ 255
theorem Src.Ok.step {s : Src} (h : s.Ok) : s.step.Ok := ⟨h.code⟩
theorem t4 {s : Src} (h : s.Ok) : 0 ≤ s.b ∧ s.b ≤ 255 := by
 unfold Src.b
 split
 rename_i hlt
 have := h.code _ (by rw [aM hlt]; exact List.getElem_mem hlt : s.code.getD s.at_ default ∈ s.code)
 rw [jy .i64 _ (by show (-9223372036854775808 : Int) ≤ _; omega) (by show _ ≤ (9223372036854775807 : Int); omega)]
 exact this
 omega
theorem di {s : Src} (h : s.Ok) : 0 ≤ s.val ∧ s.val ≤ 255 := by
 unfold Src.val
 split
 exact t4 h
 exact uE _
theorem wD {s : Src} (ha : s.at_ ≤ 1000000000) (hi : s.at_ < s.code.length) : MQ h1 h2 45 [.c (.pt 0 0 0)] [(0, bb s)] (aS (eI s.val) [(0, bb s.step)]) := by
 refine MC.shift 500 Z (MC.keep [500] (bs := [bb s.step]) Z Z (jH 62 [500] h1 h2 Tryz.func45 Z Z Z Z fun O hF => ?_))
 refine bK ?_
 have hb : s.b = IntKind.i64.wrap (s.code.getD s.at_ default) := if_pos hi
 have hv : s.val = s.b := if_pos hi
 refine ag (js O Z (bn (js O Z (jn (ah (ah (fc O [_,_,_,_,_,_,_,_,_,_] [pn [] 0 0, pn [0] 0 0, pn [0,1] 0 0, pn [0,1,2] 0 0, pn [] 0 0, pn [4] 0 0, pn [4,5] 0 0, pn [4,5,6] 0 0, pn (rg 4 4) 0 0, pn (rg 0 9) 0 0] [] [_] (kc O Z (kc O Z (kc O Z (kc O Z (kc O Z (kc O Z (kc O Z (kc O Z (ai (b9 O Z Z Z Z Z Z Z Z) (kc O Z trivial)))))))))) ?_)))))))
 refine jw [13,3,2,0] Z (bK ?_)
 refine ae O Z Z (fun hc13 => ?_) (fun hc13 => ?_)
 refine jw [2,0] Z (fc O [_,_,_,_,_,_,_,_,_,_,_,_] [pn [] 0 0, pn [0] 0 0, pn [0,1] 0 0, pn [0,1,2] 0 0, pn [] 0 0, pn [4] 0 0, pn [4,5] 0 0, pn [4,5,6] 0 0, pn (rg 0 8) 0 0, pn (rg 0 9) 0 0, pn (rg 0 10) 0 0, pn (rg 0 11) 0 0] [] [_] (kc O Z (kc O Z (kc O Z (kc O Z (kc O Z (kc O Z (kc O Z (kc O Z (ai (aO O Z Z Z Z Z Z Z Z (cU hi)) (kc O Z (ai (Val.conv O (k' := .i64) (dt := .int .u8) (b := true) Z Z Z (by kernel_rfl) (by kernel_rfl)) (kc O Z trivial)))))))))))) ?_)
 refine jw [3,2,0] Z (bK ?_)
 refine ag ?_
 rw [← hb]
 refine j4 O Z Z Z Z (aa ((vF O Z).cast (v' := eI ((s.at_ + 1 : Nat) : Int)) (congrArg eI (by omega))) Z Z Z (j2 O Z Z (jf [31,29,3,2,0] Z (jo O Z (ap ?_)))))
 refine jf [3,2,0] Z (bn (j4 O Z Z Z Z (j3 O Z Z Z (aa (Val.conv O (k' := .u64) (dt := .int .i64) (b := true) Z Z Z (by kernel_rfl) (by kernel_rfl)) Z Z Z (j4 O Z Z Z Z (jf [43,41,3,2,0] Z (jo O Z (ap ?_))))))))
 refine jf [3,2,0] Z (jn (ah (ah (fc O [_,_,_,_,_,_,_,_,_,_] [pn [] 0 0, pn [0] 0 0, pn [0,1] 0 0, pn [0,1,2] 0 0, pn [] 0 0, pn [4] 0 0, pn [4,5] 0 0, pn [4,5,6] 0 0, pn (rg 4 4) 0 0, pn (rg 0 9) 0 0] [] [_] (kc O Z (kc O Z (kc O Z (kc O Z (kc O Z (kc O Z (kc O Z (kc O Z (ai (b9 O Z Z Z Z Z Z Z Z) (kc O Z trivial)))))))))) ?_))))
 refine jw [53,3,2,0] Z (bK ?_)
 refine ae O Z Z (fun hc53 => ?_) (fun hc53 => ?_)
 refine ag (j2 O Z Z (jf [2,3,0] Z (jr ?_)))
 refine ⟨.inl Z, _, av, _, Z, by rw [hv]; rfl, Z⟩
 exact absurd (cp hc53) (by omega)
 exact absurd (cp hc13) (by omega)
theorem wE {s : Src} (ha : s.at_ ≤ 1000000000) (hi : ¬ s.at_ < s.code.length) : MQ h1 h2 45 [.c (.pt 0 0 0)] [(0, bb s)] (aS (eI s.val) [(0, bb s.step)]) := by
 refine MC.shift 500 Z (MC.keep [500] (bs := [bb s.step]) Z Z (jH 62 [500] h1 h2 Tryz.func45 Z Z Z Z fun O hF => ?_))
 refine bK ?_
 have hb : s.b = 0 := if_neg hi
 have hv : s.val = sj s.step.seed := if_neg (by omega)
 refine ag (js O Z (bn (js O Z (jn (ah (ah (fc O [_,_,_,_,_,_,_,_,_,_] [pn [] 0 0, pn [0] 0 0, pn [0,1] 0 0, pn [0,1,2] 0 0, pn [] 0 0, pn [4] 0 0, pn [4,5] 0 0, pn [4,5,6] 0 0, pn (rg 4 4) 0 0, pn (rg 0 9) 0 0] [] [_] (kc O Z (kc O Z (kc O Z (kc O Z (kc O Z (kc O Z (kc O Z (kc O Z (ai (b9 O Z Z Z Z Z Z Z Z) (kc O Z trivial)))))))))) ?_)))))))
 refine jw [13,3,2,0] Z (bK ?_)
 refine ae O Z Z (fun hc13 => ?_) (fun hc13 => ?_)
 exact absurd (bz hc13) (by omega)
 refine ak (ag (j4 O Z Z Z Z (aa ((vF O Z).cast (v' := eI ((s.at_ + 1 : Nat) : Int)) (congrArg eI (by omega))) Z Z Z (j2 O Z Z (jf [31,29,3,2,0] Z (jo O Z (ap ?_)))))))
 refine jf [3,2,0] Z (bn (j4 O Z Z Z Z (j3 O Z Z Z ?_)))
 rw [← hb]
 refine aa (Val.conv O (k' := .u64) (dt := .int .i64) (b := true) Z Z Z (by kernel_rfl) (by kernel_rfl)) Z Z Z (j4 O Z Z Z Z (jf [43,41,3,2,0] Z (jo O Z (ap ?_))))
 refine jf [3,2,0] Z (jn (ah (ah (fc O [_,_,_,_,_,_,_,_,_,_] [pn [] 0 0, pn [0] 0 0, pn [0,1] 0 0, pn [0,1,2] 0 0, pn [] 0 0, pn [4] 0 0, pn [4,5] 0 0, pn [4,5,6] 0 0, pn (rg 4 4) 0 0, pn (rg 0 9) 0 0] [] [_] (kc O Z (kc O Z (kc O Z (kc O Z (kc O Z (kc O Z (kc O Z (kc O Z (ai (b9 O Z Z Z Z Z Z Z Z) (kc O Z trivial)))))))))) ?_))))
 refine jw [53,3,2,0] Z (bK ?_)
 refine ae O Z Z (fun hc53 => ?_) (fun hc53 => ?_)
 exact absurd (bz hc53) (by omega)
 refine ak (ag (j4 O Z Z Z Z (aa (Val.shr O Z Z Z Z Z (by decide)) Z Z Z (aa (t2 O Z Z Z Z Z) Z Z Z (aa (Val.conv O (k' := .i64) (dt := .int .u64) (b := true) Z Z Z (by kernel_rfl) (by kernel_rfl)) Z Z Z (js O Z (jf [2,3,0] Z (jr ?_))))))))
 refine ⟨.inl Z, _, av, _, Z, by rw [hv]; rfl, Z⟩
theorem sD {L : Nat} (h1 : 4096 ≤ L) (h2 : L ≤ 1073741824) {s : Src} (ha : s.at_ ≤ 1000000000) : MC Tryz.prog L 45 [.c (.pt 0 0 0)] [(0, bb s)] (aS (eI s.val) [(0, bb s.step)]) := by
 by_cases hi : s.at_ < s.code.length
 exact wD h1 h2 ha hi
 exact wE h1 h2 ha hi
def Src.pick (n : Int) (s : Src) : Int × Src := if n ≤ 1 then (0, s) else if 200 < n then ((s.val * 256 + s.step.val).tmod n, s.step.step) else (s.val.tmod n, s.step)
theorem uA {n : Int} {s : Src} (h : n ≤ 1) : s.pick n = (0, s) := if_pos h
theorem tw {n : Int} {s : Src} (h : ¬ n ≤ 1) (h2 : ¬ 200 < n) : s.pick n = (s.val.tmod n, s.step) := by unfold Src.pick; rw [if_neg h, if_neg h2]
theorem tz {n : Int} {s : Src} (h : ¬ n ≤ 1) (h2 : 200 < n) : s.pick n = ((s.val * 256 + s.step.val).tmod n, s.step.step) := by unfold Src.pick; rw [if_neg h, if_pos h2]
theorem Src.Ok.pick {s : Src} (h : s.Ok) {n : Int} : (s.pick n).2.Ok := by
 unfold Src.pick; split
 exact h
 split
 exact h.step.step
 exact h.step
theorem bj {s : Src} {n : Int} : (s.pick n).2.at_ ≤ s.at_ + 2 := by
 unfold Src.pick; split
 exact Nat.le_add_right _ _
 split
 exact cN _
 show s.at_ + 1 ≤ s.at_ + 2; omega
theorem ij {a n : Int} (ha : 0 ≤ a) (hn : 0 < n) : 0 ≤ a.tmod n ∧ a.tmod n < n := by
 rw [Int.tmod_eq_emod_of_nonneg ha]
 exact ⟨Int.emod_nonneg _ (by omega), Int.emod_lt_of_pos _ hn⟩
theorem ch {s : Src} (h : s.Ok) {n : Int} (hn : 1 ≤ n) : 0 ≤ (s.pick n).1 ∧ (s.pick n).1 < n := by
 have h1 := di h
 have h2 := di h.step
 unfold Src.pick; split
 exact ⟨by show (0 : Int) ≤ 0; omega, by show (0 : Int) < n; omega⟩
 split
 exact ij (by omega) (by omega)
 exact ij h1.1 (by omega)
variable {n : Int}
theorem wK {s : Src} (hs : s.Ok) (ha : s.at_ ≤ 999999990) (hn0 : -1000000000 ≤ n) (hn1 : n ≤ 1000000000) (h : n ≤ 1) : MQ h1 h2 25 [.c (.pt 0 0 0), eI n] [(0, bb s)] (aS (eI (s.pick n).1) [(0, bb (s.pick n).2)]) := by
 refine MC.shift 500 Z (MC.keep [500] (bs := [bb (s.pick n).2]) Z Z (jH 20 [500] h1 h2 Tryz.func25 Z Z Z Z fun O hF => ?_))
 rw [uA h]
 have hv := di hs
 have hv2 := di hs.step
 refine bK ?_
 refine ag (js O Z (jn (ah (ag (j2 O Z Z (jn (ae O Z Z (fun hc7 => ?_) (fun hc7 => ?_))))))))
 refine ag (js O Z (jr ?_))
 refine ⟨.inl Z, _, av, _, Z, Z, Z⟩
 exact absurd (cp hc7) (by omega)
theorem wJ {s : Src} (hs : s.Ok) (ha : s.at_ ≤ 999999990) (hn0 : -1000000000 ≤ n) (hn1 : n ≤ 1000000000) (h : ¬ n ≤ 1) (h3 : ¬ 200 < n) : MQ h1 h2 25 [.c (.pt 0 0 0), eI n] [(0, bb s)] (aS (eI (s.pick n).1) [(0, bb (s.pick n).2)]) := by
 refine MC.shift 500 Z (MC.keep [500] (bs := [bb (s.pick n).2]) Z Z (jH 20 [500] h1 h2 Tryz.func25 Z Z Z Z fun O hF => ?_))
 rw [tw h h3]
 have hv := di hs
 have hv2 := di hs.step
 refine bK ?_
 refine ag (js O Z (jn (ah (ag (j2 O Z Z (jn (ae O Z Z (fun hc7 => ?_) (fun hc7 => ?_))))))))
 exact absurd (bz hc7) (by omega)
 refine ak (ag (js O Z (jf [8,6,4,0,1] Z (aj O [500] (bin := [bb s]) Z Z Z Z (sD (s := s) h1 h2 (by omega)) Z Z Z Z Z Z (B0 := 10000) Z Z (ap ?_)))))
 refine js O Z (jf [5,6,4,0,1] Z (jn (ah (ag (j2 O Z Z (jn (ae O Z Z (fun hc11 => ?_) (fun hc11 => ?_))))))))
 exact absurd (bz hc11) (by omega)
 refine ak (ag (j2 O Z Z (aa (mV O Z Z Z Z (by omega) (by have := ij (n := n) hv.1 (by omega); omega) (by have := ij (n := n) hv.1 (by omega); omega)) Z Z Z (js O Z (jf [4,10,5,6,0,1] Z (jr ?_))))))
 refine ⟨.inl Z, _, av, _, Z, Z, Z⟩
theorem wI {s : Src} (hs : s.Ok) (ha : s.at_ ≤ 999999990) (hn0 : -1000000000 ≤ n) (hn1 : n ≤ 1000000000) (h : ¬ n ≤ 1) (h3 : 200 < n) : MQ h1 h2 25 [.c (.pt 0 0 0), eI n] [(0, bb s)] (aS (eI (s.pick n).1) [(0, bb (s.pick n).2)]) := by
 refine MC.shift 500 Z (MC.keep [500] (bs := [bb (s.pick n).2]) Z Z (jH 20 [500] h1 h2 Tryz.func25 Z Z Z Z fun O hF => ?_))
 rw [tz h h3]
 have hv := di hs
 have hv2 := di hs.step
 refine bK ?_
 refine ag (js O Z (jn (ah (ag (j2 O Z Z (jn (ae O Z Z (fun hc7 => ?_) (fun hc7 => ?_))))))))
 exact absurd (bz hc7) (by omega)
 refine ak (ag (js O Z (jf [8,6,4,0,1] Z (aj O [500] (bin := [bb s]) Z Z Z Z (sD (s := s) h1 h2 (by omega)) Z Z Z Z Z Z (B0 := 10000) Z Z (ap ?_)))))
 refine js O Z (jf [5,6,4,0,1] Z (jn (ah (ag (j2 O Z Z (jn (ae O Z Z (fun hc11 => ?_) (fun hc11 => ?_))))))))
 refine an (js O Z (aa (bc O Z Z (by omega) (by omega)) Z Z Z (js O Z (jf [14,13,10,5,6,4,0,1] Z (aj O [500] (bin := [bb s.step]) Z Z Z Z (sD (s := s.step) h1 h2 (by show s.at_ + 1 ≤ _; omega)) Z Z Z Z Z Z (B0 := 16000) Z Z (ap ?_))))))
 refine aa (bc O Z Z (by omega) (by omega)) Z Z Z (js O Z (jf [5,10,6,4,0,1] Z (bn (j2 O Z Z (aa (mV O Z Z Z Z (by omega) (by have := ij (n := n) (a := s.val * 256 + s.step.val) (by omega) (by omega); omega) (by have := ij (n := n) (a := s.val * 256 + s.step.val) (by omega) (by omega); omega)) Z Z Z (js O Z (jf [4,5,10,6,0,1] Z (jr ?_))))))))
 refine ⟨.inl Z, _, av, _, Z, Z, Z⟩
 exact absurd (cp hc11) (by omega)
theorem eT {L : Nat} (h1 : 4096 ≤ L) (h2 : L ≤ 1073741824) {s : Src} {n : Int} (hs : s.Ok) (ha : s.at_ ≤ 999999990) (hn0 : -1000000000 ≤ n) (hn1 : n ≤ 1000000000) : MC Tryz.prog L 25 [.c (.pt 0 0 0), eI n] [(0, bb s)] (aS (eI (s.pick n).1) [(0, bb (s.pick n).2)]) := by
 by_cases h : n ≤ 1
 exact wK h1 h2 hs ha hn0 hn1 h
 by_cases h3 : 200 < n
 exact wI h1 h2 hs ha hn0 hn1 h h3
 exact wJ h1 h2 hs ha hn0 hn1 h h3
theorem ju {s : Src} (hs : s.Ok) (ha : s.at_ ≤ 999999990) (hn0 : -1000000000 ≤ n) (hn1 : n ≤ 1000000000)  : MQ h1 h2 31 [.c (.pt 0 0 0), eI n] [(0, bb s)] (aS (eB (decide ((s.pick n).1 = 0))) [(0, bb (s.pick n).2)]) := by
 refine MC.shift 500 Z (MC.keep [500] (bs := [bb (s.pick n).2]) Z Z (jH 9 [500] h1 h2 Tryz.func31 Z Z Z Z fun O hF => ?_))
 refine bK ?_
 refine ag (js O Z (bn (j2 O Z Z (jf [6,5,4] Z (aj O [500] (bin := [bb s]) Z Z Z Z (eT (s := s) (n := n) h1 h2 hs ha hn0 hn1) Z Z Z Z Z Z (B0 := 8000) Z Z (ap ?_))))))
 refine j2 O Z Z (jf [4] Z (jr ?_))
 refine ⟨.inl Z, _, av, _, Z, Z, Z⟩
variable {xs : List Int}
theorem n6 {s : Src} (hs : s.Ok) (ha : s.at_ ≤ 999999990) (hx0 : 1 ≤ xs.length) (hx1 : xs.length ≤ 1000) : MQ h1 h2 39 [.c (.pt 0 0 0), cz xs] [(0, bb s)] (aS (eI (xs.getD (s.pick xs.length).1.toNat default)) [(0, bb (s.pick xs.length).2)]) := by
 refine MC.shift 500 Z (MC.keep [500] (bs := [bb (s.pick xs.length).2]) Z Z (jH 12 [500] h1 h2 Tryz.func39 Z Z Z Z fun O hF => ?_))
 have hp := ch hs (n := xs.length) (by omega)
 refine bK ?_
 refine ag (js O Z (bn (j3 O Z Z Z ?_)))
 first | refine eK O Z ?_ | refine js O Z ?_ | refine fI O Z Z ?_
 refine jf [8,6,5,4] Z (aj O [500] (bin := [bb s]) Z Z Z Z (eT (s := s) (n := xs.length) h1 h2 hs ha (by omega) (by omega)) Z Z Z Z Z Z (B0 := 10000) Z Z (ap ?_))
 refine aa (bm O Z Z Z Z Z Z Z Z hp.1 (li hp.1 hp.2)) Z Z Z (j2 O Z Z (jf [4] Z (jr ?_)))
 refine ⟨.inl Z, _, av, _, Z, Z, Z⟩
theorem vu : MQ h1 h2 19 [.c (.d (bys xs))] [] (aS (.c (.pt 0 0 0)) [(0, bb ⟨xs, 0, 0⟩)]) := by
 refine MC.shift 500 Z (MC.keep [500] (bs := [bb ⟨xs, 0, 0⟩]) Z Z (jB 6 h1 h2 Tryz.func19 Z Z Z fun O hF => ?_))
 refine ag (js O Z (bn (j2 O Z Z (jf [4,2] Z (jx O Z (ap ?_))))))
 refine js O Z (jf [2] Z (jr ?_))
 refine ⟨.inl Z, _, ac 5 500 Z Z, _, Z, Z, Z⟩
def nX : Nat → Src → List Int → List Int × Src
  | 0, s, xs => (xs, s)
  | k + 1, s, xs => nX k (s.pick 5).2 (xs ++ [(s.pick 5).1 - 2])
theorem sU : ∀ {k : Nat} {s : Src} {xs : List Int}, (nX k s xs).2.at_ ≤ s.at_ + 2 * k
 | 0, s, xs => cN _
 | k + 1, s, xs => by
  have h1 := sU (k := k) (s := (s.pick 5).2) (xs := xs ++ [(s.pick 5).1 - 2])
  have h2 := bj (s := s) (n := 5)
  rw [nX]; omega
theorem pK : ∀ {k : Nat} {s : Src} {xs : List Int}, s.Ok → (nX k s xs).2.Ok
 | 0, s, xs, h => h
 | k + 1, s, xs, h => by rw [nX]; exact pK h.pick
def rf (t : Tm) (s : Src) : Tm × Src := if (s.pick 30).1 = 0 then (⟨[1000000, -1000000].getD (((s.pick 30).2.pick 2).1.toNat) default, t.xs⟩, ((s.pick 30).2.pick 2).2) else (t, (s.pick 30).2)
def sm (l : List Int × Src) : Tm × Src := rf (me ((l.2.pick 9).1 - 4) l.1).1 (l.2.pick 9).2
def fd (s : Src) : Tm × Src := sm (nX (s.pick 5).1.toNat (s.pick 5).2 [])
theorem kA {s : Src} (hs : s.Ok) (ha : s.at_ ≤ 999999900) : MQ h1 h2 21 [.c (.pt 0 0 0)] [(0, bb s)] (aS (cT (fd s).1) [(0, bb (fd s).2)]) := by
 refine MC.shift 500 Z (MC.keep [500] (bs := [bb (fd s).2]) Z Z (jH 35 [500] h1 h2 Tryz.func21 Z Z Z Z fun O hF => ?_))
 refine bK ?_
 obtain ⟨R, hR⟩ : ∃ R, R = fd s := ⟨_, rfl⟩
 rw [← hR]
 have hp0 := ch hs (n := 5) (by omega)
 have hat0 := bj (s := s) (n := 5)
 refine ag (jl O Z (ap ?_))
 refine bn (AOps.heap (bB O Z Z Z) Z (ap ?_))
 refine js O Z (jn (ah (ag (js O Z (aj O [500] (bin := [bb s]) Z Z Z Z (eT (s := s) (n := 5) h1 h2 hs (by omega) (by omega) (by omega)) Z Z Z Z Z Z (B0 := 10000) Z Z (ap ?_))))))
 refine js O Z (jf [4,3,7,2,0] Z (jn (aq (aH (X := Nat × Src × List Int) (fun x => ⟨[(0, .c (.pt 500 0 0)), (2, .c (.pt 2 0 0)), (3, .c (.rs 900 0 x.2.2.length)), (4, eI (x.1 : Nat))], [(2, .box [.d (.int .i64 0), .d .nils]), (500, bb x.2.1), (900, aA x.2.2)]⟩) (fun x => x.2.1.Ok ∧ fd s = sm (nX x.1 x.2.1 x.2.2) ∧ x.2.2.length + x.1 ≤ 4 ∧ x.2.1.at_ + 2 * x.1 ≤ s.at_ + 10) (fun x => x.1) ((s.pick 5).1.toNat, (s.pick 5).2, []) (((am [2,500,7] (e' := [(0, _), (2, _), (3, _), (4, _)]) Z Z ⟨Z, Z, Z, Z, trivial⟩ Z).trans (ac 7 900 Z Z)).trans (Ent.to ⟨Z, Z, Z, by rw [Int.toNat_of_nonneg hp0.1]; rfl, trivial⟩ Z)) ?_ (fun x hi => ?_)))))
 exact ⟨hs.pick, Z, by simp only [List.length_nil]; omega, by simp only; omega⟩
 refine ah (ag (j2 O Z Z (jn (ae O Z Z (fun hc11 => ?_) (fun hc11 => ?_)))))
 refine ak (ah (aq (an (j2 O Z Z ?_))))
 have hp := ch hi.1 (n := 5) (by omega)
 have hat := bj (s := x.2.1) (n := 5)
 have hk := bz hc11
 refine aj O [500] (bin := [bb x.2.1]) Z Z Z Z (eT (s := x.2.1) (n := 5) h1 h2 hi.1 (by omega) (by omega) (by omega)) Z Z Z Z Z Z (B0 := 17000) Z Z (ap ?_)
 refine aa (bc O Z Z (by omega) (by omega)) Z Z Z (jf [17,14,11,10,0,2,3,4] Z (AOps.heap (bB O Z Z Z) Z (ap ?_)))
 refine jf [18,14,11,10,0,2,3,4] Z (AOps.heap (cZ (zs := (x.2.2 ++ [(x.2.1.pick 5).1 - 2]).map fun n => [.int .i64 n]) (n := (x.2.2 ++ [(x.2.1.pick 5).1 - 2]).length) O Z Z Z Z Z Z Z Z Z Z Z Z Z Z Z Z (.row Z (cw _).symm) Z Z (by decide) Z (by simp; omega) (by simp; omega) (by simp) (by simp)) Z (ap ?_))
 refine ap ?_
 refine js O Z (jf [3,11,10,0,2,4] Z (jn (an (js O Z ?_))))
 first | refine ji O Z ?_ | refine fI O Z Z ?_
 refine js O Z (jf [4,3,11,10,0,2] Z (jn ?_))
 obtain ⟨k, hk1⟩ : ∃ k, x.1 = k + 1 := ⟨x.1 - 1, by omega⟩
 refine ⟨(k, (x.2.1.pick 5).2, x.2.2 ++ [(x.2.1.pick 5).1 - 2]), ((am [2,500,19] (e' := [(0, _), (2, _), (3, _), (4, _)]) Z Z ⟨Z, Z, Z, Z, trivial⟩ Z).trans (ac 19 900 Z Z)).trans (Ent.to ⟨Z, Z, Z, ?_, trivial⟩ Z), ⟨hi.1.pick, by rw [hi.2.1, hk1, nX], by simp only [de, gt]; omega, by simp only; omega⟩, by simp only; omega⟩
 exact congrArg (fun z => some (eI z)) (by simp only; omega)
 refine bH (ag ?_)
 have hk := cp hc11
 obtain ⟨k, s1, xs1⟩ := x
 simp only at hi hk
 obtain rfl : k = 0 := by omega
 obtain ⟨hi1, hi2, hi3, hi4⟩ := hi
 rw [show fd s = sm (xs1, s1) from hi2] at hR
 have hp1 := ch hi1 (n := 9) (by omega)
 have hat1 := bj (s := s1) (n := 9)
 have hat2 := bj (s := (s1.pick 9).2) (n := 30)
 refine au (Ent.freeze 900 (e' := [(3, _), (0, _), (2, _)]) Z (.cons Z (.c (.row Z (cw _).symm)) (fe [0,2] Z)) (.cons Z (.box (fk Z)) (.cons Z (.box (fk Z)) (.skip .nil)))) ?_
 refine js O Z (aj O [500] (bin := [bb s1]) Z Z Z Z (eT (s := s1) (n := 9) h1 h2 hi1 (by omega) (by omega) (by omega)) Z Z Z Z Z Z (B0 := 23000) Z Z (ap ?_))
 refine aa (bc O Z Z (by omega) (by omega)) Z Z Z (js O Z (jf [24,23,3,0,2] Z (ay O Z Z Z Z (ui (c := (s1.pick 9).1 - 4) (xs := xs1) h1 h2) (af Z) Z Z Z Z (B0 := 26000) Z Z (j3 O Z Z Z (jf [27,26,3,0,2] Z (jl O Z (ap ?_)))))))
 refine jo O Z (ap ?_)
 refine js O Z (jf [5,3,0,2] Z (jn (ah (ag (js O Z (aj O [500] (bin := [bb (s1.pick 9).2]) Z Z Z Z (ju (s := (s1.pick 9).2) (n := 30) h1 h2 hi1.pick (by omega) (by omega) (by omega)) Z Z Z Z Z Z (B0 := 30000) Z Z (ap ?_)))))))
 refine jn (ae O Z Z (fun hc29 => ?_) (fun hc29 => ?_))
 refine an (js O Z (AOps.heap (bB O Z Z Z) Z (ap ?_)))
 refine au (am [2,5,500,31] (e' := [(30, _), (5, _), (0, _), (31, _), (2, _)]) Z Z ⟨Z, Z, Z, Z, Z, trivial⟩ Z) (au (Ent.freeze 31 (e' := [(30, _), (5, _), (0, _), (31, _), (2, _)]) Z (.cons Z (.keep Z) (.cons Z (.keep Z) (.cons Z (.keep Z) (.cons Z (.c (.row Z Z)) (fe [2] Z))))) (.cons Z (.box (fk Z)) (.cons Z (.box (fk Z)) (.cons Z (.box (fk Z)) (.skip .nil))))) ?_)
 refine aj O [500] (bin := [bb ((s1.pick 9).2.pick 30).2]) Z Z Z Z (n6 (s := ((s1.pick 9).2.pick 30).2) (xs := [1000000, -1000000]) h1 h2 hi1.pick.pick (by omega) (by decide) (by decide)) Z Z Z Z Z Z (B0 := 33000) Z Z (ap ?_)
 refine js O Z (jf [33,32,5,0,2] Z (jo O Z (ap ?_)))
 refine jf [5,0,2] Z (bn (js O Z (jo O Z (ap ?_))))
 refine jr ?_
 have ho : ((s1.pick 9).2.pick 30).1 = 0 := bz hc29
 rw [show R = _ from hR.trans (if_pos ho)]
 refine ⟨.inl Z, _, av, _, Z, Z, Z⟩
 refine ak (ag (js O Z (jo O Z (ap ?_))))
 refine jr ?_
 have ho : ¬ ((s1.pick 9).2.pick 30).1 = 0 := cp hc29
 rw [show R = _ from hR.trans (if_neg ho)]
 refine ⟨.inl Z, _, av, _, Z, Z, Z⟩
theorem uD {t : Tm} {s : Src} : (rf t s).2.at_ ≤ s.at_ + 4 := by
 have h1 := bj (s := s) (n := 30)
 have h2 := bj (s := (s.pick 30).2) (n := 2)
 unfold rf; split
 show (((s.pick 30).2.pick 2).2).at_ ≤ _; omega
 show ((s.pick 30).2).at_ ≤ _; omega
theorem uC {t : Tm} {s : Src} (h : s.Ok) : (rf t s).2.Ok := by
 unfold rf; split
 exact h.pick.pick
 exact h.pick
theorem gM {s : Src} (h : s.Ok) : (fd s).2.at_ ≤ s.at_ + 16 := by
 have h0 := ch h (n := 5) (by omega)
 have h1 := bj (s := s) (n := 5)
 have h2 := sU (k := (s.pick 5).1.toNat) (s := (s.pick 5).2) (xs := [])
 have h3 := bj (s := (nX (s.pick 5).1.toNat (s.pick 5).2 []).2) (n := 9)
 have h4 := uD (t := (me (((nX (s.pick 5).1.toNat (s.pick 5).2 []).2.pick 9).1 - 4) (nX (s.pick 5).1.toNat (s.pick 5).2 []).1).1) (s := ((nX (s.pick 5).1.toNat (s.pick 5).2 []).2.pick 9).2)
 unfold fd sm
 omega
theorem dU {s : Src} (h : s.Ok) : (fd s).2.Ok := uC (pK h.pick).pick
def r7 : Nat → Src → List Tm → List Tm × Src
  | 0, s, ts => (ts, s)
  | k + 1, s, ts => r7 k (fd s).2 (ts ++ [(fd s).1])
def j1 (s : Src) : List Tm × Src := r7 (s.pick 3).1.toNat (s.pick 3).2 []
theorem sW : ∀ {k : Nat} {s : Src} {ts : List Tm}, s.Ok → (r7 k s ts).2.at_ ≤ s.at_ + 16 * k
 | 0, s, ts, _ => cN _
 | k + 1, s, ts, h => by
  have h1 := sW (k := k) (ts := ts ++ [(fd s).1]) (dU h)
  have h2 := gM h
  rw [r7]; omega
theorem sV : ∀ {k : Nat} {s : Src} {ts : List Tm}, s.Ok → (r7 k s ts).2.Ok
 | 0, s, ts, h => h
 | k + 1, s, ts, h => by rw [r7]; exact sV (dU h)
theorem uP {s : Src} (h : s.Ok) : (j1 s).2.at_ ≤ s.at_ + 50 := by
 have h0 := ch h (n := 3) (by omega)
 have h1 := bj (s := s) (n := 3)
 have h2 := sW (k := (s.pick 3).1.toNat) (ts := []) (h.pick (n := 3))
 unfold j1; omega
theorem uO {s : Src} (h : s.Ok) : (j1 s).2.Ok := sV h.pick
def gu (s : Src) : Tm × Src := if (s.pick 2).1 = 0 then (⟨((s.pick 2).2.pick 8).1, []⟩, ((s.pick 2).2.pick 8).2) else if ((s.pick 2).2.pick 2).1 = 0 then (⟨(((s.pick 2).2.pick 2).2.pick 3).1, [1]⟩, (((s.pick 2).2.pick 2).2.pick 3).2) else fd ((s.pick 2).2.pick 2).2
theorem j8 {s : Src} (h : s.Ok) : (gu s).2.Ok := by
 unfold gu; split
 exact h.pick.pick
 split
 exact h.pick.pick.pick
 exact dU h.pick.pick
theorem lz {s : Src} (h : s.Ok) : (gu s).2.at_ ≤ s.at_ + 20 := by
 have h1 := bj (s := s) (n := 2)
 have h2 := bj (s := (s.pick 2).2) (n := 8)
 have h3 := bj (s := (s.pick 2).2) (n := 2)
 have h4 := bj (s := ((s.pick 2).2.pick 2).2) (n := 3)
 have h5 := gM (s := ((s.pick 2).2.pick 2).2) h.pick.pick
 unfold gu; split
 show (((s.pick 2).2.pick 8).2).at_ ≤ _; omega
 split
 show ((((s.pick 2).2.pick 2).2.pick 3).2).at_ ≤ _; omega
 omega
theorem y2 {s : Src} (hs : s.Ok) (ha : s.at_ ≤ 999999800) : MQ h1 h2 41 [.c (.pt 0 0 0)] [(0, bb s)] (aS (.c (.d (e6 (j1 s).1))) [(0, bb (j1 s).2)]) := by
 refine MC.shift 500 Z (MC.keep [500] (bs := [bb (j1 s).2]) Z Z (jH 18 [500] h1 h2 Tryz.func41 Z Z Z Z fun O hF => ?_))
 refine bK ?_
 obtain ⟨R, hR⟩ : ∃ R, R = j1 s := ⟨_, rfl⟩
 rw [← hR]
 have hp0 := ch hs (n := 3) (by omega)
 have hat0 := bj (s := s) (n := 3)
 refine ag (js O Z (bn (AOps.heap (bB O Z Z Z) Z (ap ?_))))
 refine js O Z (jn (ah (ag (js O Z (aj O [500] (bin := [bb s]) Z Z Z Z (eT (s := s) (n := 3) h1 h2 hs (by omega) (by omega) (by omega)) Z Z Z Z Z Z (B0 := 8000) Z Z (ap ?_))))))
 refine js O Z (jf [4,3,5,2,0] Z (jn (aq (aH (X := Nat × Src × List Tm) (fun x => ⟨[(0, .c (.pt 500 0 0)), (3, .c (.rs 900 0 x.2.2.length)), (4, eI (x.1 : Nat))], [(500, bb x.2.1), (900, aE x.2.2)]⟩) (fun x => x.2.1.Ok ∧ j1 s = r7 x.1 x.2.1 x.2.2 ∧ x.2.2.length + x.1 ≤ 2 ∧ x.2.1.at_ + 16 * x.1 ≤ s.at_ + 40) (fun x => x.1) ((s.pick 3).1.toNat, (s.pick 3).2, []) ((cy 5 Z).trans (((am [500,5] (e' := [(0, _), (3, _), (4, _)]) Z Z ⟨Z, Z, Z, trivial⟩ Z).trans (ac 5 900 Z Z)).trans (Ent.to ⟨Z, Z, by rw [Int.toNat_of_nonneg hp0.1]; rfl, trivial⟩ Z))) ?_ (fun x hi => ?_)))))
 exact ⟨hs.pick, Z, by simp only [List.length_nil]; omega, by simp only; omega⟩
 refine ah (ag (j2 O Z Z (jn (ae O Z Z (fun hc9 => ?_) (fun hc9 => ?_)))))
 refine ak (ah (aq (an (j2 O Z Z ?_))))
 have hat := gM hi.1
 have hk := bz hc9
 refine aj O [500] (bin := [bb x.2.1]) Z Z Z Z (kA (s := x.2.1) h1 h2 hi.1 (by omega)) Z Z Z Z Z Z (B0 := 15000) Z Z (ap ?_)
 refine jf [14,12,9,8,0,3,4] Z (AOps.heap (bA O Z Z Z Z Z Z Z Z Z Z Z) Z (ap ?_))
 refine jf [15,12,9,8,0,3,4] Z (AOps.heap (bk (own := false) (xs := x.2.2.map Tm.cells) (ys := [Tm.cells (fd x.2.1).1]) (zs := (x.2.2 ++ [(fd x.2.1).1]).map Tm.cells) (n := (x.2.2 ++ [(fd x.2.1).1]).length) O Z Z Z Z Z Z Z Z Z Z Z Z Z Z Z Z (.row Z (cw _).symm) (.whole Z Z (.inr ⟨Z, Z⟩)) (by simp) Z (by simp; omega) (by simp; omega) (by simp) (by simp)) Z (ap ?_))
 refine ap ?_
 refine js O Z (jf [3,9,8,0,4] Z (jn (an (js O Z ?_))))
 first | refine ji O Z ?_ | refine fI O Z Z ?_
 refine js O Z (jf [4,3,9,8,0] Z (jn ?_))
 obtain ⟨k, hk1⟩ : ∃ k, x.1 = k + 1 := ⟨x.1 - 1, by omega⟩
 refine ⟨(k, (fd x.2.1).2, x.2.2 ++ [(fd x.2.1).1]), ((am [500,16] (e' := [(0, _), (3, _), (4, _)]) Z Z ⟨Z, Z, Z, trivial⟩ Z).trans (ac 16 900 Z Z)).trans (Ent.to ⟨Z, Z, ?_, trivial⟩ Z), ⟨dU hi.1, by rw [hi.2.1, hk1, r7], by simp only [de, gt]; omega, by simp only; omega⟩, by simp only; omega⟩
 exact congrArg (fun z => some (eI z)) (by simp only; omega)
 refine bH (ag ?_)
 have hk := cp hc9
 obtain ⟨k, s1, ts1⟩ := x
 simp only at hi hk
 obtain rfl : k = 0 := by omega
 rw [show R = (ts1, s1) from hR.trans hi.2.1]
 refine au (Ent.freeze 900 (e' := [(3, _), (0, _)]) Z (.cons Z (.c (.row Z (cw _).symm)) (fe [0] Z)) (.cons Z (.box (fk Z)) (.skip .nil))) ?_
 refine j2 O Z Z (jr ?_)
 refine ⟨.inl Z, _, av, _, Z, Z, Z⟩
theorem wH {s : Src} (hs : s.Ok) (ha : s.at_ ≤ 999999800) (h : (s.pick 2).1 = 0) : MQ h1 h2 40 [.c (.pt 0 0 0)] [(0, bb s)] (aS (.agg [.d (.int .i64 ((s.pick 2).2.pick 8).1), .d .nils]) [(0, bb (gu s).2)]) := by
 refine MC.shift 500 Z (MC.keep [500] (bs := [bb (gu s).2]) Z Z (jH 16 [500] h1 h2 Tryz.func40 Z Z Z Z fun O hF => ?_))
 refine bK ?_
 have hat1 := bj (s := s) (n := 2)
 have hat2 := bj (s := (s.pick 2).2) (n := 2)
 rw [show gu s = _ from if_pos h]
 refine ag (jl O Z (ap ?_))
 refine jn (ah (ag (js O Z (aj O [500] (bin := [bb s]) Z Z Z Z (ju (s := s) (n := 2) h1 h2 hs (by omega) (by omega) (by omega)) Z Z Z Z Z Z (B0 := 5000) Z Z (ap ?_)))))
 refine jn (ae O Z Z (fun hc4 => ?_) (fun hc4 => ?_))
 refine ag (js O Z (jf [5,3,2,0] Z (aj O [500] (bin := [bb (s.pick 2).2]) Z Z Z Z (eT (s := (s.pick 2).2) (n := 8) h1 h2 hs.pick (by omega) (by omega) (by omega)) Z Z Z Z Z Z (B0 := 7000) Z Z (ap ?_))))
 refine js O Z (jf [7,3,2,0] Z (jo O Z (ap ?_)))
 refine jr ?_
 refine ⟨.inl Z, _, av, _, Z, Z, Z⟩
 exact absurd h (cp hc4)
theorem wG {s : Src} (hs : s.Ok) (ha : s.at_ ≤ 999999800) (h : ¬ (s.pick 2).1 = 0) (h3 : ((s.pick 2).2.pick 2).1 = 0) : MQ h1 h2 40 [.c (.pt 0 0 0)] [(0, bb s)] (aS (cT (gu s).1) [(0, bb (gu s).2)]) := by
 refine MC.shift 500 Z (MC.keep [500] (bs := [bb (gu s).2]) Z Z (jH 16 [500] h1 h2 Tryz.func40 Z Z Z Z fun O hF => ?_))
 refine bK ?_
 have hat1 := bj (s := s) (n := 2)
 have hat2 := bj (s := (s.pick 2).2) (n := 2)
 rw [show gu s = _ from (if_neg h).trans (if_pos h3)]
 refine ag (jl O Z (ap ?_))
 refine jn (ah (ag (js O Z (aj O [500] (bin := [bb s]) Z Z Z Z (ju (s := s) (n := 2) h1 h2 hs (by omega) (by omega) (by omega)) Z Z Z Z Z Z (B0 := 5000) Z Z (ap ?_)))))
 refine jn (ae O Z Z (fun hc4 => ?_) (fun hc4 => ?_))
 exact absurd (bz hc4) h
 refine ak (ah (ag (js O Z (jf [8,3,2,0] Z (aj O [500] (bin := [bb (s.pick 2).2]) Z Z Z Z (ju (s := (s.pick 2).2) (n := 2) h1 h2 hs.pick (by omega) (by omega) (by omega)) Z Z Z Z Z Z (B0 := 10000) Z Z (ap ?_))))))
 refine jn (ae O Z Z (fun hc9 => ?_) (fun hc9 => ?_))
 refine ag (js O Z (jf [10,8,3,2,0] Z (aj O [500] (bin := [bb ((s.pick 2).2.pick 2).2]) Z Z Z Z (eT (s := ((s.pick 2).2.pick 2).2) (n := 3) h1 h2 hs.pick.pick (by omega) (by omega) (by omega)) Z Z Z Z Z Z (B0 := 12000) Z Z (ap ?_))))
 refine jf [11,8,3,2,0] Z (AOps.heap (bA O Z Z Z Z Z Z Z Z Z Z Z) Z (ap ?_))
 refine au (am [2,500,12] (e' := [(12, _), (11, _), (0, _), (2, _)]) Z Z ⟨Z, Z, Z, Z, trivial⟩ Z) (au (Ent.freeze 12 (e' := [(12, _), (11, _), (0, _), (2, _)]) Z (.cons Z (.c (.row Z Z)) (fe [11,0,2] Z)) (.cons Z (.box (fk Z)) (.cons Z (.box (fk Z)) (.skip .nil)))) ?_)
 refine ap ?_
 refine ap ?_
 refine js O Z (jf [13,0,2] Z (jo O Z (ap ?_)))
 refine jr ?_
 refine ⟨.inl Z, _, av, _, Z, Z, Z⟩
 exact absurd h3 (cp hc9)
theorem wF {s : Src} (hs : s.Ok) (ha : s.at_ ≤ 999999800) (h : ¬ (s.pick 2).1 = 0) (h3 : ¬ ((s.pick 2).2.pick 2).1 = 0) : MQ h1 h2 40 [.c (.pt 0 0 0)] [(0, bb s)] (aS (cT (gu s).1) [(0, bb (gu s).2)]) := by
 refine MC.shift 500 Z (MC.keep [500] (bs := [bb (gu s).2]) Z Z (jH 16 [500] h1 h2 Tryz.func40 Z Z Z Z fun O hF => ?_))
 refine bK ?_
 have hat1 := bj (s := s) (n := 2)
 have hat2 := bj (s := (s.pick 2).2) (n := 2)
 rw [show gu s = _ from (if_neg h).trans (if_neg h3)]
 refine ag (jl O Z (ap ?_))
 refine jn (ah (ag (js O Z (aj O [500] (bin := [bb s]) Z Z Z Z (ju (s := s) (n := 2) h1 h2 hs (by omega) (by omega) (by omega)) Z Z Z Z Z Z (B0 := 5000) Z Z (ap ?_)))))
 refine jn (ae O Z Z (fun hc4 => ?_) (fun hc4 => ?_))
 exact absurd (bz hc4) h
 refine ak (ah (ag (js O Z (jf [8,3,2,0] Z (aj O [500] (bin := [bb (s.pick 2).2]) Z Z Z Z (ju (s := (s.pick 2).2) (n := 2) h1 h2 hs.pick (by omega) (by omega) (by omega)) Z Z Z Z Z Z (B0 := 10000) Z Z (ap ?_))))))
 refine jn (ae O Z Z (fun hc9 => ?_) (fun hc9 => ?_))
 exact absurd (bz hc9) h3
 refine ak (ag (js O Z (jf [14,8,3,2,0] Z (aj O [500] (bin := [bb ((s.pick 2).2.pick 2).2]) Z Z Z Z (kA (s := ((s.pick 2).2.pick 2).2) h1 h2 hs.pick.pick (by omega)) Z Z Z Z Z Z (B0 := 16000) Z Z (ap ?_)))))
 refine jf [15,8,3,2,0] Z (jo O Z (ap ?_))
 refine jr ?_
 refine ⟨.inl Z, _, av, _, Z, Z, Z⟩
theorem sE {L : Nat} (h1 : 4096 ≤ L) (h2 : L ≤ 1073741824) {s : Src} (hs : s.Ok) (ha : s.at_ ≤ 999999800) : MC Tryz.prog L 40 [.c (.pt 0 0 0)] [(0, bb s)] (aS (cT (gu s).1) [(0, bb (gu s).2)]) := by
 by_cases h : (s.pick 2).1 = 0
 have hh := oW (fun h => RA.zero (sz := 1) h) (wH h1 h2 hs ha h)
 rw [show (gu s).1 = _ from congrArg Prod.fst (if_pos h)]; exact hh
 by_cases h3 : ((s.pick 2).2.pick 2).1 = 0
 exact wG h1 h2 hs ha h h3
 exact wF h1 h2 hs ha h h3
theorem tu {α : Type} {fs xs : List α} (h : fs <+: xs) {t : α} : fs <+: xs ++ [t] := h.trans (List.prefix_append _ _)
theorem tJ {la : cF} {s : Sm} {w : Pw} {g : Gs} {fs : List Tm} (h : fs <+: w.facts) : fs <+: (bo la s w g).1.facts := by
 unfold bo
 split
 exact h
 split
 split <;> exact h
 split
 exact h
 split
 exact h
 split
 exact tu h
 exact h
theorem qN {c : Int} {xs : List Int} (h : xs.length ≤ 4) : ((me c xs).1).term = true := by
 unfold me
 split
 rename_i h1
 have := kC xs
 unfold Tm.term
 rw [h1, Bool.true_and]
 exact decide_eq_true (by show ((df xs).length : Int) ≤ 4; omega)
 rfl
theorem qZ : ∀ {k : Nat} {s : Src} {xs : List Int}, (nX k s xs).1.length = xs.length + k
 | 0, s, xs => rfl
 | k + 1, s, xs => by rw [nX, qZ, de, gt]; omega
theorem nb {t : Tm} (h : t.term = true) {c : Int} (hc : -1000000 ≤ c ∧ c ≤ 1000000) : (⟨c, t.xs⟩ : Tm).term = true := by
 have hn : num c = true := by unfold num; rw [decide_eq_true hc.1, decide_eq_true hc.2]; rfl
 unfold Tm.term Tm.ok at h ⊢
 cases h1 : num t.c with
 | false => rw [h1] at h; simp at h
 | true => rw [h1] at h; rw [hn]; exact h
theorem eE {s : Src} (h : s.Ok) : (fd s).1.term = true := by
 have h0 := ch h (n := 5) (by omega)
 have hl := qZ (k := (s.pick 5).1.toNat) (s := (s.pick 5).2) (xs := [])
 have ht : ((me (((nX (s.pick 5).1.toNat (s.pick 5).2 []).2.pick 9).1 - 4) (nX (s.pick 5).1.toNat (s.pick 5).2 []).1).1).term = true := qN (by rw [hl, List.length_nil]; omega)
 unfold fd sm rf
 split
 rename_i ho
 have ho2 := ch (s := (((nX (s.pick 5).1.toNat (s.pick 5).2 []).2.pick 9).2.pick 30).2) (n := 2) (pK h.pick).pick.pick (by omega)
 refine nb ht ?_
 generalize ((((nX (s.pick 5).1.toNat (s.pick 5).2 []).2.pick 9).2.pick 30).2.pick 2).1 = z at ho2
 rcases (show z = 0 ∨ z = 1 by omega) with rfl | rfl <;> decide
 exact ht
theorem mQ : ∀ {k : Nat} {s : Src} {ts : List Tm}, s.Ok → (∀ t ∈ ts, t.term = true) → (∀ t ∈ (r7 k s ts).1, t.term = true) ∧ (r7 k s ts).1.length = ts.length + k
 | 0, s, ts, h, ht => ⟨ht, rfl⟩
 | k + 1, s, ts, h, ht => by
  have := mQ (k := k) (ts := ts ++ [(fd s).1]) (dU h) (fun t hm => by
   rcases List.mem_append.1 hm with h1 | h1
   · exact ht t h1
   · rw [List.mem_singleton.1 h1]; exact eE h)
  rw [r7]
  refine ⟨this.1, ?_⟩
  rw [this.2, de, gt]; omega
theorem om {ts : List Tm} (h : ∀ t ∈ ts, t.term = true) (hl : ts.length ≤ 6) : bW ts 6 = true := by
 unfold bW
 rw [List.all_eq_true.2 h, Bool.true_and]
 exact decide_eq_true (by omega)
theorem qc {s : Src} (h : s.Ok) : bW (j1 s).1 6 = true := by
 have h0 := ch h (n := 3) (by omega)
 have := mQ (k := (s.pick 3).1.toNat) (ts := []) (h.pick (n := 3)) (fun t ht => by cases ht)
 exact om this.1 (by show (r7 _ _ _).1.length ≤ 6; rw [this.2, List.length_nil]; omega)
abbrev z0 : Tm := ⟨0, []⟩
abbrev jq : Sm := ⟨1, 0, 0, z0, z0, []⟩
abbrev mi (v : Int) (t : Tm) : Sm := ⟨2, v, 0, t, z0, []⟩
abbrev vO (v : Int) (i : Tm) : Sm := ⟨3, v, 0, z0, i, []⟩
abbrev ud (i t : Tm) : Sm := ⟨4, 0, 0, t, i, []⟩
abbrev mo (e : Int) : Sm := ⟨5, 0, e, z0, z0, []⟩
abbrev nA (t : Tm) : Sm := ⟨6, 0, 0, t, z0, []⟩
abbrev xF (t : Tm) : Sm := ⟨7, 0, 0, t, z0, []⟩
abbrev dv (t : Tm) (fs : List Tm) : Sm := ⟨8, 0, 0, t, z0, fs⟩
theorem vE : aW jq = true := by decide
theorem sK {v : Int} {t : Tm} (hv : 0 ≤ v ∧ v ≤ 3) (h : t.term = true) : aW (mi v t) = true := by
 simp [aW, m6, rc, r3, nZ, n0, lr, h, hv, bW, Tm.zero, show (z0 : Tm).term = true by decide]
theorem zq {v : Int} {t : Tm} (hv : 0 ≤ v ∧ v ≤ 3) (h : t.term = true) : aW (vO v t) = true := by
 simp [aW, m6, rc, r3, nZ, n0, lr, h, hv, bW, Tm.zero, show (z0 : Tm).term = true by decide]
theorem vG {i t : Tm} (hi : i.term = true) (h : t.term = true) : aW (ud i t) = true := by
 simp [aW, m6, rc, r3, nZ, n0, lr, h, hi, bW, Tm.zero]
theorem s8 {e : Int} (h : 0 ≤ e ∧ e ≤ 3) : aW (mo e) = true := by
 simp [aW, m6, rc, r3, nZ, n0, lr, h, bW, Tm.zero, show (z0 : Tm).term = true by decide]
theorem t0 {t : Tm} (h : t.term = true) : aW (nA t) = true := by
 simp [aW, m6, rc, r3, nZ, n0, lr, h, bW, Tm.zero, show (z0 : Tm).term = true by decide]
theorem yk {t : Tm} (h : t.term = true) : aW (xF t) = true := by
 simp [aW, m6, rc, r3, nZ, n0, lr, h, bW, Tm.zero, show (z0 : Tm).term = true by decide]
theorem q7 {t : Tm} {fs : List Tm} (h : t.term = true) (hf : bW fs 6 = true) : aW (dv t fs) = true := by
 simp [aW, m6, rc, r3, nZ, n0, lr, h, hf, Tm.zero, show (z0 : Tm).term = true by decide]
theorem qS {p : Pm} (h1 : bW p.pre 6 = true) (h2 : ∀ s ∈ p.body, aW s = true) (h3 : 1 ≤ p.body.length ∧ p.body.length ≤ 30) (h4 : kW p.body 0 = p.body.length) (h5 : bW p.post 6 = true) : iO p = true := by
 unfold iO gx
 rw [h1, h5, List.all_eq_true.2 h2, decide_eq_true (show (1 : Int) ≤ p.body.length by omega), decide_eq_true (show (p.body.length : Int) ≤ 30 by omega), decide_eq_true h4]
 rfl
theorem yN {r k : Int} (h : -1000000 ≤ r ∧ r ≤ 1000000) (hk : k = 1 ∨ k = -1) : (⟨r, [k]⟩ : Tm).term = true := by
 refine nb (t := ⟨0, [k]⟩) ?_ h
 rcases hk with rfl | rfl <;> decide
theorem yO {r : Int} (h : -1000000 ≤ r ∧ r ≤ 1000000) : (⟨r, []⟩ : Tm).term = true := nb (t := ⟨0, []⟩) (by decide) h
def uk (c : Int) (v : Nat) (n : Int) : Tm := (me c (List.replicate v 0 ++ [n])).1
theorem xt {c n : Int} {v : Nat} (h : v ≤ 3) : (uk c v n).term = true := qN (by rw [de, List.length_replicate, gt]; omega)
end Go.Al
