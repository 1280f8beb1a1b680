/- What is drawn from bytes: bz, facts, in plain Lean and walked. -/
import Derived.Test.YtbkloknmpkgmbaaGreatH
import Derived.Test.YtbkloknmpkgmbaaGreatC
import Derived.Test.YtbkloknmpkgmbaaGreatE
import Derived.Test.YtbkloknmpkgmbaaGreatS
set_option linter.unusedVariables false
set_option linter.unusedSimpArgs false
set_option maxRecDepth 10000
set_option maxHeartbeats 4000000
open Go.Proofs
namespace Go.Al
variable {L : Nat} (h1 : 4096 ≤ L) (h2 : L ≤ 1073741824)
structure NdAt (n : Nat) (x : Nd) : Prop where
  close : x.kind = 1 → n + 1 ≤ x.mul.length ∧ x.mul.length ≤ 20
  fact : x.kind = 3 → 0 ≤ x.fact ∧ x.fact ≤ 19
  kind : x.kind = 1 ∨ x.kind = 2 ∨ x.kind = 3
structure MvOk (x9 to : Int → Int) (x : Nd) : Prop where
  kind : x.kind = 1 ∨ x.kind = 2 ∨ x.kind = 3
  fact : x.kind = 3 → 0 ≤ x.fact ∧ x.fact ≤ 19
  len : x.kind = 1 → x.mul.length ≤ 20
  cntb : x.kind = 1 → 0 ≤ x9 x.mul.length ∧ x9 x.mul.length ≤ 1000
  rng : x.kind = 1 → ∀ i : Nat, i < x.mul.length → to i < x9 x.mul.length
structure Rw where
  c : Int
  xs : List Int
  ms : List Int
  deriving Inhabited
theorem ml : ∀ {ys : List Int}, ∃ z : Nat, ys.reverse = (ys.dropWhile (· == 0)).reverse ++ List.replicate z 0
 | [] => ⟨0, rfl⟩
 | y :: ys => by
  by_cases h : y = 0
  subst h
  obtain ⟨z, hz⟩ := ml (ys := ys)
  refine ⟨z + 1, ?_⟩
  rw [List.reverse_cons, hz, List.replicate_succ', eV]
  rfl
  refine ⟨0, ?_⟩
  rw [List.dropWhile_cons_of_neg (by simpa using h)]
  simp
theorem sc (xs : List Int) : ∃ z : Nat, xs = dy xs ++ List.replicate z 0 := by
 obtain ⟨z, hz⟩ := ml (ys := xs.reverse)
 rw [List.reverse_reverse] at hz
 exact ⟨z, hz⟩
theorem n4 (xs : List Int) : (dy xs).length ≤ xs.length := by
 obtain ⟨z, hz⟩ := sc xs
 have := congrArg List.length hz
 rw [dk] at this
 omega
structure ROk (n : Nat) (r : Rw) : Prop where
  c : num r.c = true
  xs : r.xs.all num = true
  l : r.xs.length = 10
  ms : r.ms.all co = true
  n : r.ms.length = n
  sY : ∃ x ∈ r.ms, 0 < x
structure Fs (ts : List Tm) : Prop where
  ok : ∀ t ∈ ts, t.ok = true
  len : ts.length ≤ 14
structure Src where
  code : List Int
  at_ : Nat
  seed : Int
abbrev bys (xs : List Int) : D := .slc 1 (xs.map fun n => [.int .u8 n])
abbrev bm (s : Src) : B := .box [.d (bys s.code), .d (.int .i64 (s.at_ : Nat)), .d (.int .u64 s.seed)]
def Src.b (s : Src) : Int := if s.at_ < s.code.length then IntKind.i64.wrap (s.code.getD s.at_ default) else 0
def Src.step (s : Src) : Src := ⟨s.code, s.at_ + 1, IntKind.u64.wrap (IntKind.u64.wrap (IntKind.u64.wrap (s.seed * 6364136223846793005) + IntKind.u64.wrap s.b) + 1442695040888963407)⟩
def Src.val (s : Src) : Int := if s.at_ + 1 ≤ s.code.length then s.b else rk s.step.seed
structure Src.Ok (s : Src) : Prop where
  code : ∀ n ∈ s.code, 0 ≤ n ∧ n ≤ 255
theorem Src.Ok.step {s : Src} (h : s.Ok) : s.step.Ok := ⟨h.code⟩
theorem sU {s : Src} (h : s.Ok) : 0 ≤ s.b ∧ s.b ≤ 255 := by
 unfold Src.b
 split
 rename_i hlt
 have := h.code _ (by rw [aK hlt]; exact List.getElem_mem hlt : s.code.getD s.at_ default ∈ s.code)
 rw [ja .i64 _ (by show (-9223372036854775808 : Int) ≤ _; omega) (by show _ ≤ (9223372036854775807 : Int); omega)]
 exact this
 omega
theorem db {s : Src} (h : s.Ok) : 0 ≤ s.val ∧ s.val ≤ 255 := by
 unfold Src.val
 split
 exact sU h
 exact tD _
theorem u5 {s : Src} (ha : s.at_ ≤ 1000000000) (hi : s.at_ < s.code.length) : MQ h1 h2 75 [.c (.pt 0 0 0)] [(0, bm s)] (aV (eI s.val) [(0, bm s.step)]) := by
 refine MC.shift 500 Z (MC.keep [500] (bs := [bm s.step]) Z Z (jH 62 [500] h1 h2 Tryz.func75 Z Z Z Z fun O hF => ?_))
 refine bQ ?_
 have hb : s.b = IntKind.i64.wrap (s.code.getD s.at_ default) := if_pos hi
 have hv : s.val = s.b := if_pos hi
 refine ag (js O Z (bf (js O Z (jn (ah (ah (gv O [_,_,_,_,_,_,_,_,_,_] [pn [] 0 0, pn [0] 0 0, pn [0,1] 0 0, pn [0,1,2] 0 0, pn [] 0 0, pn [4] 0 0, pn [4,5] 0 0, pn [4,5,6] 0 0, pn (rg 4 4) 0 0, pn (rg 0 9) 0 0] [] [_] (kc O Z (kc O Z (kc O Z (kc O Z (kc O Z (kc O Z (kc O Z (kc O Z (ai (bG O Z Z Z Z Z Z Z Z) (kc O Z trivial)))))))))) ?_)))))))
 refine jw [13,3,2,0] Z (bQ ?_)
 refine af O Z Z (fun hc13 => ?_) (fun hc13 => ?_)
 refine jw [2,0] Z (gv O [_,_,_,_,_,_,_,_,_,_,_,_] [pn [] 0 0, pn [0] 0 0, pn [0,1] 0 0, pn [0,1,2] 0 0, pn [] 0 0, pn [4] 0 0, pn [4,5] 0 0, pn [4,5,6] 0 0, pn (rg 0 8) 0 0, pn (rg 0 9) 0 0, pn (rg 0 10) 0 0, pn (rg 0 11) 0 0] [] [_] (kc O Z (kc O Z (kc O Z (kc O Z (kc O Z (kc O Z (kc O Z (kc O Z (ai (aR O Z Z Z Z Z Z Z Z (c5 hi)) (kc O Z (ai (Val.conv O (k' := .i64) (dt := .int .u8) (b := true) Z Z Z (by kernel_rfl) (by kernel_rfl)) (kc O Z trivial)))))))))))) ?_)
 refine jw [3,2,0] Z (bQ ?_)
 refine ag ?_
 rw [← hb]
 refine j4 O Z Z Z Z (aa ((vF O Z).cast (v' := eI ((s.at_ + 1 : Nat) : Int)) (congrArg eI (by omega))) Z Z Z (j2 O Z Z (jf [31,29,3,2,0] Z (jo O Z (av ?_)))))
 refine jf [3,2,0] Z (bf (j4 O Z Z Z Z (j3 O Z Z Z (aa (Val.conv O (k' := .u64) (dt := .int .i64) (b := true) Z Z Z (by kernel_rfl) (by kernel_rfl)) Z Z Z (j4 O Z Z Z Z (jf [43,41,3,2,0] Z (jo O Z (av ?_))))))))
 refine jf [3,2,0] Z (jn (ah (ah (gv O [_,_,_,_,_,_,_,_,_,_] [pn [] 0 0, pn [0] 0 0, pn [0,1] 0 0, pn [0,1,2] 0 0, pn [] 0 0, pn [4] 0 0, pn [4,5] 0 0, pn [4,5,6] 0 0, pn (rg 4 4) 0 0, pn (rg 0 9) 0 0] [] [_] (kc O Z (kc O Z (kc O Z (kc O Z (kc O Z (kc O Z (kc O Z (kc O Z (ai (bG O Z Z Z Z Z Z Z Z) (kc O Z trivial)))))))))) ?_))))
 refine jw [53,3,2,0] Z (bQ ?_)
 refine af O Z Z (fun hc53 => ?_) (fun hc53 => ?_)
 refine ag (j2 O Z Z (jf [2,3,0] Z (jr ?_)))
 refine ⟨.inl Z, _, ar, _, Z, by rw [hv]; rfl, Z⟩
 exact absurd (ch hc53) (by omega)
 exact absurd (ch hc13) (by omega)
theorem u6 {s : Src} (ha : s.at_ ≤ 1000000000) (hi : ¬ s.at_ < s.code.length) : MQ h1 h2 75 [.c (.pt 0 0 0)] [(0, bm s)] (aV (eI s.val) [(0, bm s.step)]) := by
 refine MC.shift 500 Z (MC.keep [500] (bs := [bm s.step]) Z Z (jH 62 [500] h1 h2 Tryz.func75 Z Z Z Z fun O hF => ?_))
 refine bQ ?_
 have hb : s.b = 0 := if_neg hi
 have hv : s.val = rk s.step.seed := if_neg (by omega)
 refine ag (js O Z (bf (js O Z (jn (ah (ah (gv O [_,_,_,_,_,_,_,_,_,_] [pn [] 0 0, pn [0] 0 0, pn [0,1] 0 0, pn [0,1,2] 0 0, pn [] 0 0, pn [4] 0 0, pn [4,5] 0 0, pn [4,5,6] 0 0, pn (rg 4 4) 0 0, pn (rg 0 9) 0 0] [] [_] (kc O Z (kc O Z (kc O Z (kc O Z (kc O Z (kc O Z (kc O Z (kc O Z (ai (bG O Z Z Z Z Z Z Z Z) (kc O Z trivial)))))))))) ?_)))))))
 refine jw [13,3,2,0] Z (bQ ?_)
 refine af O Z Z (fun hc13 => ?_) (fun hc13 => ?_)
 exact absurd (bp hc13) (by omega)
 refine an (ag (j4 O Z Z Z Z (aa ((vF O Z).cast (v' := eI ((s.at_ + 1 : Nat) : Int)) (congrArg eI (by omega))) Z Z Z (j2 O Z Z (jf [31,29,3,2,0] Z (jo O Z (av ?_)))))))
 refine jf [3,2,0] Z (bf (j4 O Z Z Z Z (j3 O Z Z Z ?_)))
 rw [← hb]
 refine aa (Val.conv O (k' := .u64) (dt := .int .i64) (b := true) Z Z Z (by kernel_rfl) (by kernel_rfl)) Z Z Z (j4 O Z Z Z Z (jf [43,41,3,2,0] Z (jo O Z (av ?_))))
 refine jf [3,2,0] Z (jn (ah (ah (gv O [_,_,_,_,_,_,_,_,_,_] [pn [] 0 0, pn [0] 0 0, pn [0,1] 0 0, pn [0,1,2] 0 0, pn [] 0 0, pn [4] 0 0, pn [4,5] 0 0, pn [4,5,6] 0 0, pn (rg 4 4) 0 0, pn (rg 0 9) 0 0] [] [_] (kc O Z (kc O Z (kc O Z (kc O Z (kc O Z (kc O Z (kc O Z (kc O Z (ai (bG O Z Z Z Z Z Z Z Z) (kc O Z trivial)))))))))) ?_))))
 refine jw [53,3,2,0] Z (bQ ?_)
 refine af O Z Z (fun hc53 => ?_) (fun hc53 => ?_)
 exact absurd (bp hc53) (by omega)
 refine an (ag (j4 O Z Z Z Z (aa (Val.shr O Z Z Z Z Z (by decide)) Z Z Z (aa (sS O Z Z Z Z Z) Z Z Z (aa (Val.conv O (k' := .i64) (dt := .int .u64) (b := true) Z Z Z (by kernel_rfl) (by kernel_rfl)) Z Z Z (js O Z (jf [2,3,0] Z (jr ?_))))))))
 refine ⟨.inl Z, _, ar, _, Z, by rw [hv]; rfl, Z⟩
theorem rF {L : Nat} (h1 : 4096 ≤ L) (h2 : L ≤ 1073741824) {s : Src} (ha : s.at_ ≤ 1000000000) : MC Tryz.prog L 75 [.c (.pt 0 0 0)] [(0, bm s)] (aV (eI s.val) [(0, bm s.step)]) := by
 by_cases hi : s.at_ < s.code.length
 exact u5 h1 h2 ha hi
 exact u6 h1 h2 ha hi
def Src.pick (n : Int) (s : Src) : Int × Src := if n ≤ 1 then (0, s) else if 200 < n then ((s.val * 256 + s.step.val).tmod n, s.step.step) else (s.val.tmod n, s.step)
theorem tw {n : Int} {s : Src} (h : n ≤ 1) : s.pick n = (0, s) := if_pos h
theorem sv {n : Int} {s : Src} (h : ¬ n ≤ 1) (h2 : ¬ 200 < n) : s.pick n = (s.val.tmod n, s.step) := by unfold Src.pick; rw [if_neg h, if_neg h2]
theorem sA {n : Int} {s : Src} (h : ¬ n ≤ 1) (h2 : 200 < n) : s.pick n = ((s.val * 256 + s.step.val).tmod n, s.step.step) := by unfold Src.pick; rw [if_neg h, if_pos h2]
theorem Src.Ok.pick {s : Src} (h : s.Ok) {n : Int} : (s.pick n).2.Ok := by
 unfold Src.pick; split
 exact h
 split
 exact h.step.step
 exact h.step
theorem br {s : Src} {n : Int} : (s.pick n).2.at_ ≤ s.at_ + 2 := by
 unfold Src.pick; split
 exact Nat.le_add_right _ _
 split
 exact cz _
 show s.at_ + 1 ≤ s.at_ + 2; omega
theorem gZ {a n : Int} (ha : 0 ≤ a) (hn : 0 < n) : 0 ≤ a.tmod n ∧ a.tmod n < n := by
 rw [Int.tmod_eq_emod_of_nonneg ha]
 exact ⟨Int.emod_nonneg _ (by omega), Int.emod_lt_of_pos _ hn⟩
theorem bP {s : Src} (h : s.Ok) {n : Int} (hn : 1 ≤ n) : 0 ≤ (s.pick n).1 ∧ (s.pick n).1 < n := by
 have h1 := db h
 have h2 := db h.step
 unfold Src.pick; split
 exact ⟨by show (0 : Int) ≤ 0; omega, by show (0 : Int) < n; omega⟩
 split
 exact gZ (by omega) (by omega)
 exact gZ h1.1 (by omega)
variable {n : Int}
theorem va {s : Src} (hs : s.Ok) (ha : s.at_ ≤ 999999990) (hn0 : -1000000000 ≤ n) (hn1 : n ≤ 1000000000) (h : n ≤ 1) : MQ h1 h2 40 [.c (.pt 0 0 0), eI n] [(0, bm s)] (aV (eI (s.pick n).1) [(0, bm (s.pick n).2)]) := by
 refine MC.shift 500 Z (MC.keep [500] (bs := [bm (s.pick n).2]) Z Z (jH 20 [500] h1 h2 Tryz.func40 Z Z Z Z fun O hF => ?_))
 rw [tw h]
 have hv := db hs
 have hv2 := db hs.step
 refine bQ ?_
 refine ag (js O Z (jn (ah (ag (j2 O Z Z (jn (af O Z Z (fun hc7 => ?_) (fun hc7 => ?_))))))))
 refine ag (js O Z (jr ?_))
 refine ⟨.inl Z, _, ar, _, Z, Z, Z⟩
 exact absurd (ch hc7) (by omega)
theorem u9 {s : Src} (hs : s.Ok) (ha : s.at_ ≤ 999999990) (hn0 : -1000000000 ≤ n) (hn1 : n ≤ 1000000000) (h : ¬ n ≤ 1) (h3 : ¬ 200 < n) : MQ h1 h2 40 [.c (.pt 0 0 0), eI n] [(0, bm s)] (aV (eI (s.pick n).1) [(0, bm (s.pick n).2)]) := by
 refine MC.shift 500 Z (MC.keep [500] (bs := [bm (s.pick n).2]) Z Z (jH 20 [500] h1 h2 Tryz.func40 Z Z Z Z fun O hF => ?_))
 rw [sv h h3]
 have hv := db hs
 have hv2 := db hs.step
 refine bQ ?_
 refine ag (js O Z (jn (ah (ag (j2 O Z Z (jn (af O Z Z (fun hc7 => ?_) (fun hc7 => ?_))))))))
 exact absurd (bp hc7) (by omega)
 refine an (ag (js O Z (jf [8,6,4,0,1] Z (aq O [500] (bin := [bm s]) Z Z Z Z (rF (s := s) h1 h2 (by omega)) Z Z Z Z Z Z (B0 := 10000) Z Z (av ?_)))))
 refine js O Z (jf [5,6,4,0,1] Z (jn (ah (ag (j2 O Z Z (jn (af O Z Z (fun hc11 => ?_) (fun hc11 => ?_))))))))
 exact absurd (bp hc11) (by omega)
 refine an (ag (j2 O Z Z (aa (mr O Z Z Z Z (by omega) (by have := gZ (n := n) hv.1 (by omega); omega) (by have := gZ (n := n) hv.1 (by omega); omega)) Z Z Z (js O Z (jf [4,10,5,6,0,1] Z (jr ?_))))))
 refine ⟨.inl Z, _, ar, _, Z, Z, Z⟩
theorem u7 {s : Src} (hs : s.Ok) (ha : s.at_ ≤ 999999990) (hn0 : -1000000000 ≤ n) (hn1 : n ≤ 1000000000) (h : ¬ n ≤ 1) (h3 : 200 < n) : MQ h1 h2 40 [.c (.pt 0 0 0), eI n] [(0, bm s)] (aV (eI (s.pick n).1) [(0, bm (s.pick n).2)]) := by
 refine MC.shift 500 Z (MC.keep [500] (bs := [bm (s.pick n).2]) Z Z (jH 20 [500] h1 h2 Tryz.func40 Z Z Z Z fun O hF => ?_))
 rw [sA h h3]
 have hv := db hs
 have hv2 := db hs.step
 refine bQ ?_
 refine ag (js O Z (jn (ah (ag (j2 O Z Z (jn (af O Z Z (fun hc7 => ?_) (fun hc7 => ?_))))))))
 exact absurd (bp hc7) (by omega)
 refine an (ag (js O Z (jf [8,6,4,0,1] Z (aq O [500] (bin := [bm s]) Z Z Z Z (rF (s := s) h1 h2 (by omega)) Z Z Z Z Z Z (B0 := 10000) Z Z (av ?_)))))
 refine js O Z (jf [5,6,4,0,1] Z (jn (ah (ag (j2 O Z Z (jn (af O Z Z (fun hc11 => ?_) (fun hc11 => ?_))))))))
 refine am (js O Z (aa (aN O Z Z (by omega) (by omega)) Z Z Z (js O Z (jf [14,13,10,5,6,4,0,1] Z (aq O [500] (bin := [bm s.step]) Z Z Z Z (rF (s := s.step) h1 h2 (by show s.at_ + 1 ≤ _; omega)) Z Z Z Z Z Z (B0 := 16000) Z Z (av ?_))))))
 refine aa (aN O Z Z (by omega) (by omega)) Z Z Z (js O Z (jf [5,10,6,4,0,1] Z (bf (j2 O Z Z (aa (mr O Z Z Z Z (by omega) (by have := gZ (n := n) (a := s.val * 256 + s.step.val) (by omega) (by omega); omega) (by have := gZ (n := n) (a := s.val * 256 + s.step.val) (by omega) (by omega); omega)) Z Z Z (js O Z (jf [4,5,10,6,0,1] Z (jr ?_))))))))
 refine ⟨.inl Z, _, ar, _, Z, Z, Z⟩
 exact absurd (ch hc11) (by omega)
theorem dJ {L : Nat} (h1 : 4096 ≤ L) (h2 : L ≤ 1073741824) {s : Src} {n : Int} (hs : s.Ok) (ha : s.at_ ≤ 999999990) (hn0 : -1000000000 ≤ n) (hn1 : n ≤ 1000000000) : MC Tryz.prog L 40 [.c (.pt 0 0 0), eI n] [(0, bm s)] (aV (eI (s.pick n).1) [(0, bm (s.pick n).2)]) := by
 by_cases h : n ≤ 1
 exact va h1 h2 hs ha hn0 hn1 h
 by_cases h3 : 200 < n
 exact u7 h1 h2 hs ha hn0 hn1 h h3
 exact u9 h1 h2 hs ha hn0 hn1 h h3
theorem pR {s : Src} (hs : s.Ok) (ha : s.at_ ≤ 999999990) (hn0 : -1000000000 ≤ n) (hn1 : n ≤ 1000000000)  : MQ h1 h2 46 [.c (.pt 0 0 0), eI n] [(0, bm s)] (aV (eB (decide ((s.pick n).1 = 0))) [(0, bm (s.pick n).2)]) := by
 refine MC.shift 500 Z (MC.keep [500] (bs := [bm (s.pick n).2]) Z Z (jH 9 [500] h1 h2 Tryz.func46 Z Z Z Z fun O hF => ?_))
 refine bQ ?_
 refine ag (js O Z (bf (j2 O Z Z (jf [6,5,4] Z (aq O [500] (bin := [bm s]) Z Z Z Z (dJ (s := s) (n := n) h1 h2 hs ha hn0 hn1) Z Z Z Z Z Z (B0 := 8000) Z Z (av ?_))))))
 refine j2 O Z Z (jf [4] Z (jr ?_))
 refine ⟨.inl Z, _, ar, _, Z, Z, Z⟩
variable {xs : List Int}
theorem rG {s : Src} (hs : s.Ok) (ha : s.at_ ≤ 999999990) (hx0 : 1 ≤ xs.length) (hx1 : xs.length ≤ 1000) : MQ h1 h2 69 [.c (.pt 0 0 0), cm xs] [(0, bm s)] (aV (eI (xs.getD (s.pick xs.length).1.toNat default)) [(0, bm (s.pick xs.length).2)]) := by
 refine MC.shift 500 Z (MC.keep [500] (bs := [bm (s.pick xs.length).2]) Z Z (jH 12 [500] h1 h2 Tryz.func69 Z Z Z Z fun O hF => ?_))
 have hp := bP hs (n := xs.length) (by omega)
 refine bQ ?_
 refine ag (js O Z (bf (j3 O Z Z Z ?_)))
 first | refine dn O Z ?_ | refine js O Z ?_ | refine dI O Z Z ?_
 refine jf [8,6,5,4] Z (aq O [500] (bin := [bm s]) Z Z Z Z (dJ (s := s) (n := xs.length) h1 h2 hs ha (by omega) (by omega)) Z Z Z Z Z Z (B0 := 10000) Z Z (av ?_))
 refine aa (bD O Z Z Z Z Z Z Z Z hp.1 (kG hp.1 hp.2)) Z Z Z (j2 O Z Z (jf [4] Z (jr ?_)))
 refine ⟨.inl Z, _, ar, _, Z, Z, Z⟩
theorem ud : MQ h1 h2 34 [.c (.d (bys xs))] [] (aV (.c (.pt 0 0 0)) [(0, bm ⟨xs, 0, 0⟩)]) := by
 refine MC.shift 500 Z (MC.keep [500] (bs := [bm ⟨xs, 0, 0⟩]) Z Z (jB 6 h1 h2 Tryz.func34 Z Z Z fun O hF => ?_))
 refine ag (js O Z (bf (j2 O Z Z (jf [4,2] Z (jx O Z (av ?_))))))
 refine js O Z (jf [2] Z (jr ?_))
 refine ⟨.inl Z, _, ae 5 500 Z Z, _, Z, Z, Z⟩
def nr : Nat → Src → List Int → List Int × Src
  | 0, s, xs => (xs, s)
  | k + 1, s, xs => nr k (s.pick 5).2 (xs ++ [(s.pick 5).1 - 2])
theorem rX : ∀ {k : Nat} {s : Src} {xs : List Int}, (nr k s xs).2.at_ ≤ s.at_ + 2 * k
 | 0, s, xs => cz _
 | k + 1, s, xs => by
  have h1 := rX (k := k) (s := (s.pick 5).2) (xs := xs ++ [(s.pick 5).1 - 2])
  have h2 := br (s := s) (n := 5)
  rw [nr]; omega
theorem oG : ∀ {k : Nat} {s : Src} {xs : List Int}, s.Ok → (nr k s xs).2.Ok
 | 0, s, xs, h => h
 | k + 1, s, xs, h => by rw [nr]; exact oG h.pick
def qr (t : Tm) (s : Src) : Tm × Src := if (s.pick 30).1 = 0 then (⟨[1000000, -1000000].getD (((s.pick 30).2.pick 2).1.toNat) default, t.xs⟩, ((s.pick 30).2.pick 2).2) else (t, (s.pick 30).2)
def rq (l : List Int × Src) : Tm × Src := qr (ns ((l.2.pick 9).1 - 4) l.1).1 (l.2.pick 9).2
def iX (s : Src) : Tm × Src := rq (nr (s.pick 5).1.toNat (s.pick 5).2 [])
theorem uc {s : Src} (hs : s.Ok) (ha : s.at_ ≤ 999999900) : MQ h1 h2 36 [.c (.pt 0 0 0)] [(0, bm s)] (aV (cP (iX s).1) [(0, bm (iX s).2)]) := by
 refine MC.shift 500 Z (MC.keep [500] (bs := [bm (iX s).2]) Z Z (jH 35 [500] h1 h2 Tryz.func36 Z Z Z Z fun O hF => ?_))
 refine bQ ?_
 obtain ⟨R, hR⟩ : ∃ R, R = iX s := ⟨_, rfl⟩
 rw [← hR]
 have hp0 := bP hs (n := 5) (by omega)
 have hat0 := br (s := s) (n := 5)
 refine ag (jl O Z (av ?_))
 refine bf (AOps.heap (bC O Z Z Z) Z (av ?_))
 refine js O Z (jn (ah (ag (js O Z (aq O [500] (bin := [bm s]) Z Z Z Z (dJ (s := s) (n := 5) h1 h2 hs (by omega) (by omega) (by omega)) Z Z Z Z Z Z (B0 := 10000) Z Z (av ?_))))))
 refine js O Z (jf [4,3,7,2,0] Z (jn (aw (aE (X := Nat × Src × List Int) (fun x => ⟨[(0, .c (.pt 500 0 0)), (2, .c (.pt 2 0 0)), (3, .c (.rs 900 0 x.2.2.length)), (4, eI (x.1 : Nat))], [(2, .box [.d (.int .i64 0), .d .nils]), (500, bm x.2.1), (900, aZ x.2.2)]⟩) (fun x => x.2.1.Ok ∧ iX s = rq (nr x.1 x.2.1 x.2.2) ∧ x.2.2.length + x.1 ≤ 4 ∧ x.2.1.at_ + 2 * x.1 ≤ s.at_ + 10) (fun x => x.1) ((s.pick 5).1.toNat, (s.pick 5).2, []) (((au [2,500,7] (e' := [(0, _), (2, _), (3, _), (4, _)]) Z Z ⟨Z, Z, Z, Z, trivial⟩ Z).trans (ae 7 900 Z Z)).trans (Ent.to ⟨Z, Z, Z, by rw [Int.toNat_of_nonneg hp0.1]; rfl, trivial⟩ Z)) ?_ (fun x hi => ?_)))))
 exact ⟨hs.pick, Z, by simp only [List.length_nil]; omega, by simp only; omega⟩
 refine ah (ag (j2 O Z Z (jn (af O Z Z (fun hc11 => ?_) (fun hc11 => ?_)))))
 refine an (ah (aw (am (j2 O Z Z ?_))))
 have hp := bP hi.1 (n := 5) (by omega)
 have hat := br (s := x.2.1) (n := 5)
 have hk := bp hc11
 refine aq O [500] (bin := [bm x.2.1]) Z Z Z Z (dJ (s := x.2.1) (n := 5) h1 h2 hi.1 (by omega) (by omega) (by omega)) Z Z Z Z Z Z (B0 := 17000) Z Z (av ?_)
 refine aa (aN O Z Z (by omega) (by omega)) Z Z Z (jf [17,14,11,10,0,2,3,4] Z (AOps.heap (bC O Z Z Z) Z (av ?_)))
 refine jf [18,14,11,10,0,2,3,4] Z (AOps.heap (cU (zs := (x.2.2 ++ [(x.2.1.pick 5).1 - 2]).map fun n => [.int .i64 n]) (n := (x.2.2 ++ [(x.2.1.pick 5).1 - 2]).length) O Z Z Z Z Z Z Z Z Z Z Z Z Z Z Z Z (.row Z (cY _).symm) Z Z (by decide) Z (by simp; omega) (by simp; omega) (by simp) (by simp)) Z (av ?_))
 refine av ?_
 refine js O Z (jf [3,11,10,0,2,4] Z (jn (am (js O Z ?_))))
 first | refine ji O Z ?_ | refine dI O Z Z ?_
 refine js O Z (jf [4,3,11,10,0,2] Z (jn ?_))
 obtain ⟨k, hk1⟩ : ∃ k, x.1 = k + 1 := ⟨x.1 - 1, by omega⟩
 refine ⟨(k, (x.2.1.pick 5).2, x.2.2 ++ [(x.2.1.pick 5).1 - 2]), ((au [2,500,19] (e' := [(0, _), (2, _), (3, _), (4, _)]) Z Z ⟨Z, Z, Z, Z, trivial⟩ Z).trans (ae 19 900 Z Z)).trans (Ent.to ⟨Z, Z, Z, ?_, trivial⟩ Z), ⟨hi.1.pick, by rw [hi.2.1, hk1, nr], by simp only [dk, iw]; omega, by simp only; omega⟩, by simp only; omega⟩
 exact congrArg (fun z => some (eI z)) (by simp only; omega)
 refine bt (ag ?_)
 have hk := ch hc11
 obtain ⟨k, s1, xs1⟩ := x
 simp only at hi hk
 obtain rfl : k = 0 := by omega
 obtain ⟨hi1, hi2, hi3, hi4⟩ := hi
 rw [show iX s = rq (xs1, s1) from hi2] at hR
 have hp1 := bP hi1 (n := 9) (by omega)
 have hat1 := br (s := s1) (n := 9)
 have hat2 := br (s := (s1.pick 9).2) (n := 30)
 refine aj (Ent.freeze 900 (e' := [(3, _), (0, _), (2, _)]) Z (.cons Z (.c (.row Z (cY _).symm)) (fe [0,2] Z)) (.cons Z (.box (fk Z)) (.cons Z (.box (fk Z)) (.skip .nil)))) ?_
 refine js O Z (aq O [500] (bin := [bm s1]) Z Z Z Z (dJ (s := s1) (n := 9) h1 h2 hi1 (by omega) (by omega) (by omega)) Z Z Z Z Z Z (B0 := 23000) Z Z (av ?_))
 refine aa (aN O Z Z (by omega) (by omega)) Z Z Z (js O Z (jf [24,23,3,0,2] Z (ak O Z Z Z Z (ru (c := (s1.pick 9).1 - 4) (xs := xs1) h1 h2) (ac Z) Z Z Z Z (B0 := 26000) Z Z (j3 O Z Z Z (jf [27,26,3,0,2] Z (jl O Z (av ?_)))))))
 refine jo O Z (av ?_)
 refine js O Z (jf [5,3,0,2] Z (jn (ah (ag (js O Z (aq O [500] (bin := [bm (s1.pick 9).2]) Z Z Z Z (pR (s := (s1.pick 9).2) (n := 30) h1 h2 hi1.pick (by omega) (by omega) (by omega)) Z Z Z Z Z Z (B0 := 30000) Z Z (av ?_)))))))
 refine jn (af O Z Z (fun hc29 => ?_) (fun hc29 => ?_))
 refine am (js O Z (AOps.heap (bC O Z Z Z) Z (av ?_)))
 refine aj (au [2,5,500,31] (e' := [(30, _), (5, _), (0, _), (31, _), (2, _)]) Z Z ⟨Z, Z, Z, Z, Z, trivial⟩ Z) (aj (Ent.freeze 31 (e' := [(30, _), (5, _), (0, _), (31, _), (2, _)]) Z (.cons Z (.keep Z) (.cons Z (.keep Z) (.cons Z (.keep Z) (.cons Z (.c (.row Z Z)) (fe [2] Z))))) (.cons Z (.box (fk Z)) (.cons Z (.box (fk Z)) (.cons Z (.box (fk Z)) (.skip .nil))))) ?_)
 refine aq O [500] (bin := [bm ((s1.pick 9).2.pick 30).2]) Z Z Z Z (rG (s := ((s1.pick 9).2.pick 30).2) (xs := [1000000, -1000000]) h1 h2 hi1.pick.pick (by omega) (by decide) (by decide)) Z Z Z Z Z Z (B0 := 33000) Z Z (av ?_)
 refine js O Z (jf [33,32,5,0,2] Z (jo O Z (av ?_)))
 refine jf [5,0,2] Z (bf (js O Z (jo O Z (av ?_))))
 refine jr ?_
 have ho : ((s1.pick 9).2.pick 30).1 = 0 := bp hc29
 rw [show R = _ from hR.trans (if_pos ho)]
 refine ⟨.inl Z, _, ar, _, Z, Z, Z⟩
 refine an (ag (js O Z (jo O Z (av ?_))))
 refine jr ?_
 have ho : ¬ ((s1.pick 9).2.pick 30).1 = 0 := ch hc29
 rw [show R = _ from hR.trans (if_neg ho)]
 refine ⟨.inl Z, _, ar, _, Z, Z, Z⟩
theorem tC {t : Tm} {s : Src} : (qr t s).2.at_ ≤ s.at_ + 4 := by
 have h1 := br (s := s) (n := 30)
 have h2 := br (s := (s.pick 30).2) (n := 2)
 unfold qr; split
 show (((s.pick 30).2.pick 2).2).at_ ≤ _; omega
 show ((s.pick 30).2).at_ ≤ _; omega
theorem tA {t : Tm} {s : Src} (h : s.Ok) : (qr t s).2.Ok := by
 unfold qr; split
 exact h.pick.pick
 exact h.pick
theorem mJ {s : Src} (h : s.Ok) : (iX s).2.at_ ≤ s.at_ + 16 := by
 have h0 := bP h (n := 5) (by omega)
 have h1 := br (s := s) (n := 5)
 have h2 := rX (k := (s.pick 5).1.toNat) (s := (s.pick 5).2) (xs := [])
 have h3 := br (s := (nr (s.pick 5).1.toNat (s.pick 5).2 []).2) (n := 9)
 have h4 := tC (t := (ns (((nr (s.pick 5).1.toNat (s.pick 5).2 []).2.pick 9).1 - 4) (nr (s.pick 5).1.toNat (s.pick 5).2 []).1).1) (s := ((nr (s.pick 5).1.toNat (s.pick 5).2 []).2.pick 9).2)
 unfold iX rq
 omega
theorem iL {s : Src} (h : s.Ok) : (iX s).2.Ok := tA (oG h.pick).pick
def q8 : Nat → Src → List Tm → List Tm × Src
  | 0, s, ts => (ts, s)
  | k + 1, s, ts => q8 k (iX s).2 (ts ++ [(iX s).1])
def fN (s : Src) : List Tm × Src := q8 (s.pick 3).1.toNat (s.pick 3).2 []
theorem rZ : ∀ {k : Nat} {s : Src} {ts : List Tm}, s.Ok → (q8 k s ts).2.at_ ≤ s.at_ + 16 * k
 | 0, s, ts, _ => cz _
 | k + 1, s, ts, h => by
  have h1 := rZ (k := k) (ts := ts ++ [(iX s).1]) (iL h)
  have h2 := mJ h
  rw [q8]; omega
theorem rY : ∀ {k : Nat} {s : Src} {ts : List Tm}, s.Ok → (q8 k s ts).2.Ok
 | 0, s, ts, h => h
 | k + 1, s, ts, h => by rw [q8]; exact rY (iL h)
theorem m4 {s : Src} (h : s.Ok) : (fN s).2.at_ ≤ s.at_ + 50 := by
 have h0 := bP h (n := 3) (by omega)
 have h1 := br (s := s) (n := 3)
 have h2 := rZ (k := (s.pick 3).1.toNat) (ts := []) (h.pick (n := 3))
 unfold fN; omega
theorem kH {s : Src} (h : s.Ok) : (fN s).2.Ok := rY h.pick
theorem ub {s : Src} (hs : s.Ok) (ha : s.at_ ≤ 999999800) : MQ h1 h2 71 [.c (.pt 0 0 0)] [(0, bm s)] (aV (.c (.d (dP (fN s).1))) [(0, bm (fN s).2)]) := by
 refine MC.shift 500 Z (MC.keep [500] (bs := [bm (fN s).2]) Z Z (jH 18 [500] h1 h2 Tryz.func71 Z Z Z Z fun O hF => ?_))
 refine bQ ?_
 obtain ⟨R, hR⟩ : ∃ R, R = fN s := ⟨_, rfl⟩
 rw [← hR]
 have hp0 := bP hs (n := 3) (by omega)
 have hat0 := br (s := s) (n := 3)
 refine ag (js O Z (bf (AOps.heap (bC O Z Z Z) Z (av ?_))))
 refine js O Z (jn (ah (ag (js O Z (aq O [500] (bin := [bm s]) Z Z Z Z (dJ (s := s) (n := 3) h1 h2 hs (by omega) (by omega) (by omega)) Z Z Z Z Z Z (B0 := 8000) Z Z (av ?_))))))
 refine js O Z (jf [4,3,5,2,0] Z (jn (aw (aE (X := Nat × Src × List Tm) (fun x => ⟨[(0, .c (.pt 500 0 0)), (3, .c (.rs 900 0 x.2.2.length)), (4, eI (x.1 : Nat))], [(500, bm x.2.1), (900, aG x.2.2)]⟩) (fun x => x.2.1.Ok ∧ fN s = q8 x.1 x.2.1 x.2.2 ∧ x.2.2.length + x.1 ≤ 2 ∧ x.2.1.at_ + 16 * x.1 ≤ s.at_ + 40) (fun x => x.1) ((s.pick 3).1.toNat, (s.pick 3).2, []) ((ck 5 Z).trans (((au [500,5] (e' := [(0, _), (3, _), (4, _)]) Z Z ⟨Z, Z, Z, trivial⟩ Z).trans (ae 5 900 Z Z)).trans (Ent.to ⟨Z, Z, by rw [Int.toNat_of_nonneg hp0.1]; rfl, trivial⟩ Z))) ?_ (fun x hi => ?_)))))
 exact ⟨hs.pick, Z, by simp only [List.length_nil]; omega, by simp only; omega⟩
 refine ah (ag (j2 O Z Z (jn (af O Z Z (fun hc9 => ?_) (fun hc9 => ?_)))))
 refine an (ah (aw (am (j2 O Z Z ?_))))
 have hat := mJ hi.1
 have hk := bp hc9
 refine aq O [500] (bin := [bm x.2.1]) Z Z Z Z (uc (s := x.2.1) h1 h2 hi.1 (by omega)) Z Z Z Z Z Z (B0 := 15000) Z Z (av ?_)
 refine jf [14,12,9,8,0,3,4] Z (AOps.heap (bn O Z Z Z Z Z Z Z Z Z Z Z) Z (av ?_))
 refine jf [15,12,9,8,0,3,4] Z (AOps.heap (bh (own := false) (xs := x.2.2.map Tm.cells) (ys := [Tm.cells (iX x.2.1).1]) (zs := (x.2.2 ++ [(iX x.2.1).1]).map Tm.cells) (n := (x.2.2 ++ [(iX x.2.1).1]).length) O Z Z Z Z Z Z Z Z Z Z Z Z Z Z Z Z (.row Z (cY _).symm) (.whole Z Z (.inr ⟨Z, Z⟩)) (by simp) Z (by simp; omega) (by simp; omega) (by simp) (by simp)) Z (av ?_))
 refine av ?_
 refine js O Z (jf [3,9,8,0,4] Z (jn (am (js O Z ?_))))
 first | refine ji O Z ?_ | refine dI O Z Z ?_
 refine js O Z (jf [4,3,9,8,0] Z (jn ?_))
 obtain ⟨k, hk1⟩ : ∃ k, x.1 = k + 1 := ⟨x.1 - 1, by omega⟩
 refine ⟨(k, (iX x.2.1).2, x.2.2 ++ [(iX x.2.1).1]), ((au [500,16] (e' := [(0, _), (3, _), (4, _)]) Z Z ⟨Z, Z, Z, trivial⟩ Z).trans (ae 16 900 Z Z)).trans (Ent.to ⟨Z, Z, ?_, trivial⟩ Z), ⟨iL hi.1, by rw [hi.2.1, hk1, q8], by simp only [dk, iw]; omega, by simp only; omega⟩, by simp only; omega⟩
 exact congrArg (fun z => some (eI z)) (by simp only; omega)
 refine bt (ag ?_)
 have hk := ch hc9
 obtain ⟨k, s1, ts1⟩ := x
 simp only at hi hk
 obtain rfl : k = 0 := by omega
 rw [show R = (ts1, s1) from hR.trans hi.2.1]
 refine aj (Ent.freeze 900 (e' := [(3, _), (0, _)]) Z (.cons Z (.c (.row Z (cY _).symm)) (fe [0] Z)) (.cons Z (.box (fk Z)) (.skip .nil))) ?_
 refine j2 O Z Z (jr ?_)
 refine ⟨.inl Z, _, ar, _, Z, Z, Z⟩
theorem sR {p : Pm} {t : Tr} {i : Nat} (hb : (eA p t i).bad = true) : ∀ {n : Nat}, i ≤ n → (eA p t n).bad = true := fun {n} hn => by
 induction n with
 | zero =>
  obtain rfl : i = 0 := by omega
  exact hb
 | succ n ih =>
  rcases Nat.lt_or_ge n i with h1 | h1
  obtain rfl : i = n + 1 := by omega
  exact hb
  have := ih h1
  rw [eA, gx, jR this]; exact this
theorem m9 {p : Pm} {t : Tr} {n : Nat} (hb : (eA p t n).bad = false) {i : Nat} (hi : i ≤ n) : (eA p t i).bad = false := by
 cases h : (eA p t i).bad with
 | false => rfl
 | true => rw [sR h hi] at hb; cases hb
theorem qk {p : Pm} {t : Tr} {n : Nat} (hb : (eA p t (n + 1)).bad = false) : (gx bF p t n g0).bad = false ∧ (eA p t (n + 1)).paths = (eA p t n).paths ++ (gx bF p t n g0).paths ∧ (eA p t (n + 1)).conds = (eA p t n).conds ++ (gx bF p t n g0).conds := by
 have hn := m9 hb (Nat.le_succ n)
 have hl := (pZ (p := p) (t := t) n).2 hn
 rw [eA] at hb ⊢
 have s0 : Sim (eA p t n).paths (eA p t n).conds (eA p t n) g0 := ⟨fun _ => ⟨rfl, by simp [g0], by simp [g0], hl⟩, fun h => absurd (hn.symm.trans h) (by decide)⟩
 have s := l9 (la := bF) (E := nn p.body p.post) (b := p.body) (t := t) (pre := p.pre) (n := n) s0
 obtain ⟨a1, a2, a3, a4⟩ := s.ok hb
 exact ⟨a1, a2, a3⟩
def Frm (k : Int) (fs : List Tm) (g : Gs) : Prop := ∀ q ∈ g.paths, q.frm = k ∧ fs <+: q.facts ∧ q.ends.length = 4
theorem Frm.paths {k : Int} {fs : List Tm} {g h : Gs} (hg : Frm k fs g) (e : h.paths = g.paths) : Frm k fs h := fun q hq => hg q (by rw [← e]; exact hq)
theorem mZ {k to : Int} {w : Pw} {fs : List Tm} (hw : fs <+: w.facts) (hv : w.vars.length = 4) {ts : List Tm} {g : Gs} (h : Frm k fs g) : Frm k fs (cO k w to ts g) := fun q hq => by
 unfold cO fT at hq
 rw [ea] at hq
 rcases List.mem_append.1 hq with h1 | h1
 exact h q h1
 rw [List.mem_singleton.1 h1]; exact ⟨rfl, hw, hv⟩
theorem gD {α : Type} {fs xs : List α} (h : fs <+: xs) {t : α} : fs <+: xs ++ [t] := h.trans (List.prefix_append _ _)
theorem nS {la : cB} {s : Sm} {w : Pw} {g : Gs} {fs : List Tm} (h : fs <+: w.facts) : fs <+: (bu la s w g).1.facts := by
 unfold bu
 split
 exact h
 split
 split <;> exact h
 split
 exact h
 split
 exact h
 split
 exact gD h
 exact h
theorem mg {la : cB} {s : Sm} {w : Pw} {g : Gs} (h : w.vars.length = 4) : (bu la s w g).1.vars.length = 4 := by
 unfold bu
 split
 simp [Pw.set, h]
 split
 split
 simp [Pw.set, h]
 simp [kU, h]
 split
 exact h
 split
 exact h
 split
 exact h
 exact h
theorem fB {la : cB} {E : Pe} {k : Int} {fs : List Tm} : ∀ {n : Nat} {r : List Fr} {w : Pw} {g : Gs}, fs <+: w.facts → w.vars.length = 4 → Frm k fs g → Frm k fs (dH la E k n r w g)
 | 0, r, w, g, hw, hv, hg => hg
 | n + 1, r, w, g, hw, hv, hg => by
  cases hb : g.bad with
  | true => rw [cf hb]; exact hg
  | false =>
   match r with
   | [] => rw [eN hb]; exact mZ hw hv hg
   | .lp j :: r => rw [f7 hb]; exact mZ hw hv hg
   | .st (.node s a []) :: r =>
    rw [dO hb]
    exact fB (nS hw) (mg hv) (hg.paths lz)
   | .st (.node s a [x]) :: r => rw [f6 hb]; exact mZ hw hv hg
   | .st (.node s a [x, y]) :: r =>
    by_cases hk : s.kind = 1
    rw [eM hb hk]; exact fB hw hv hg
    rw [f8 hb hk]
    exact fB (gD hw) hv (fB (gD hw) hv hg)
   | .st (.node s a (x :: y :: z :: ks)) :: r =>
    rw [fW hb]
    exact fB (nS hw) (mg hv) (hg.paths lz)
def mG (p : Pm) (t : Tr) : Nat → List Tm
  | 0 => p.pre
  | n + 1 => ((aU p.body t []).getD n default).s.facts
theorem rP {la : cB} {p : Pm} {t : Tr} {n : Nat} : Frm ((n : Int) - 1) (mG p t n) (gx la p t n g0) := by
 have h0 : ∀ k fs, Frm k fs g0 := fun k fs q hq => by cases hq
 unfold gx
 cases n with
 | zero =>
  rw [bX]
  exact fB (List.prefix_refl _) Z (h0 _ _)
 | succ n =>
  rw [bX, show ((n + 1 : Nat) : Int) - 1 = (n : Nat) by omega]
  exact fB (gD (List.prefix_refl _)) Z (fB (gD (List.prefix_refl _)) Z (h0 _ _))
theorem qF {xs bs cs : List Sq} (h : dR (xs ++ (bs ++ cs)) = true) : dR bs = true := by
 unfold dR at h ⊢
 simp only [bJ, decide_eq_true_eq, List.all_append, dk] at h ⊢
 exact ⟨h.1.2.1, by omega⟩
theorem r9 {p : Pm} {t : Tr} : ∀ {n m : Nat}, n ≤ m → (eA p t m).bad = false → (eA p t n).paths <+: (eA p t m).paths ∧ (eA p t n).conds <+: (eA p t m).conds
 | n, 0, hn, hb => by obtain rfl : n = 0 := (by omega); exact ⟨List.prefix_refl _, List.prefix_refl _⟩
 | n, m + 1, hn, hb => by
  rcases Nat.lt_or_ge n (m + 1) with h1 | h1
  obtain ⟨_, a2, a3⟩ := qk hb
  have ih := r9 (n := n) (m := m) (by omega) (m9 hb (Nat.le_succ m))
  rw [a2, a3]
  exact ⟨ih.1.trans (List.prefix_append _ _), ih.2.trans (List.prefix_append _ _)⟩
  obtain rfl : n = m + 1 := by omega
  exact ⟨List.prefix_refl _, List.prefix_refl _⟩
theorem mR {c : Int} {xs : List Int} (h : xs.length ≤ 4) : ((ns c xs).1).term = true := by
 unfold ns
 split
 rename_i h1
 have := n4 xs
 unfold Tm.term
 rw [h1, Bool.true_and]
 exact decide_eq_true (by show ((dy xs).length : Int) ≤ 4; omega)
 rfl
theorem qh : ∀ {k : Nat} {s : Src} {xs : List Int}, (nr k s xs).1.length = xs.length + k
 | 0, s, xs => rfl
 | k + 1, s, xs => by rw [nr, qh, dk, iw]; omega
theorem ow {t : Tm} (h : t.term = true) {c : Int} (hc : -1000000 ≤ c ∧ c ≤ 1000000) : (⟨c, t.xs⟩ : Tm).term = true := by
 have hn : num c = true := by unfold num; rw [decide_eq_true hc.1, decide_eq_true hc.2]; rfl
 unfold Tm.term Tm.ok at h ⊢
 cases h1 : num t.c with
 | false => rw [h1] at h; simp at h
 | true => rw [h1] at h; rw [hn]; exact h
theorem jy {s : Src} (h : s.Ok) : (iX s).1.term = true := by
 have h0 := bP h (n := 5) (by omega)
 have hl := qh (k := (s.pick 5).1.toNat) (s := (s.pick 5).2) (xs := [])
 have ht : ((ns (((nr (s.pick 5).1.toNat (s.pick 5).2 []).2.pick 9).1 - 4) (nr (s.pick 5).1.toNat (s.pick 5).2 []).1).1).term = true := mR (by rw [hl, List.length_nil]; omega)
 unfold iX rq qr
 split
 rename_i ho
 have ho2 := bP (s := (((nr (s.pick 5).1.toNat (s.pick 5).2 []).2.pick 9).2.pick 30).2) (n := 2) (oG h.pick).pick.pick (by omega)
 refine ow ht ?_
 generalize ((((nr (s.pick 5).1.toNat (s.pick 5).2 []).2.pick 9).2.pick 30).2.pick 2).1 = z at ho2
 rcases (show z = 0 ∨ z = 1 by omega) with rfl | rfl <;> decide
 exact ht
theorem mn : ∀ {k : Nat} {s : Src} {ts : List Tm}, s.Ok → (∀ t ∈ ts, t.term = true) → (∀ t ∈ (q8 k s ts).1, t.term = true) ∧ (q8 k s ts).1.length = ts.length + k
 | 0, s, ts, h, ht => ⟨ht, rfl⟩
 | k + 1, s, ts, h, ht => by
  have := mn (k := k) (ts := ts ++ [(iX s).1]) (iL h) (fun t hm => by
   rcases List.mem_append.1 hm with h1 | h1
   · exact ht t h1
   · rw [List.mem_singleton.1 h1]; exact jy h)
  rw [q8]
  refine ⟨this.1, ?_⟩
  rw [this.2, dk, iw]; omega
theorem fV {ts : List Tm} (h : ∀ t ∈ ts, t.term = true) (hl : ts.length ≤ 6) : bz ts 6 = true := by
 unfold bz
 rw [List.all_eq_true.2 h, Bool.true_and]
 exact decide_eq_true (by omega)
theorem lC {s : Src} (h : s.Ok) : bz (fN s).1 6 = true := by
 have h0 := bP h (n := 3) (by omega)
 have := mn (k := (s.pick 3).1.toNat) (ts := []) (h.pick (n := 3)) (fun t ht => by cases ht)
 exact fV this.1 (by show (q8 _ _ _).1.length ≤ 6; rw [this.2, List.length_nil]; omega)
abbrev z0 : Tm := ⟨0, []⟩
abbrev fM : Sm := ⟨1, 0, 0, z0, z0, []⟩
abbrev fL (v : Int) (t : Tm) : Sm := ⟨2, v, 0, t, z0, []⟩
abbrev ur (v : Int) (i : Tm) : Sm := ⟨3, v, 0, z0, i, []⟩
abbrev s7 (i t : Tm) : Sm := ⟨4, 0, 0, t, i, []⟩
abbrev rA (e : Int) : Sm := ⟨5, 0, e, z0, z0, []⟩
abbrev kD (t : Tm) : Sm := ⟨6, 0, 0, t, z0, []⟩
abbrev yf (t : Tm) : Sm := ⟨7, 0, 0, t, z0, []⟩
abbrev gA (t : Tm) (fs : List Tm) : Sm := ⟨8, 0, 0, t, z0, fs⟩
theorem lY : bb fM = true := by decide
theorem lX {v : Int} {t : Tm} (hv : 0 ≤ v ∧ v ≤ 3) (h : t.term = true) : bb (fL v t) = true := by
 simp [bb, nk, qp, qY, nv, ny, kM, h, hv, bz, Tm.zero, show (z0 : Tm).term = true by decide]
theorem uq {v : Int} {t : Tm} (hv : 0 ≤ v ∧ v ≤ 3) (h : t.term = true) : bb (ur v t) = true := by
 simp [bb, nk, qp, qY, nv, ny, kM, h, hv, bz, Tm.zero, show (z0 : Tm).term = true by decide]
theorem uo {i t : Tm} (hi : i.term = true) (h : t.term = true) : bb (s7 i t) = true := by
 simp [bb, nk, qp, qY, nv, ny, kM, h, hi, bz, Tm.zero]
theorem r8 {e : Int} (h : 0 ≤ e ∧ e ≤ 3) : bb (rA e) = true := by
 simp [bb, nk, qp, qY, nv, ny, kM, h, bz, Tm.zero, show (z0 : Tm).term = true by decide]
theorem ln {t : Tm} (h : t.term = true) : bb (kD t) = true := by
 simp [bb, nk, qp, qY, nv, ny, kM, h, bz, Tm.zero, show (z0 : Tm).term = true by decide]
theorem wP {t : Tm} (h : t.term = true) : bb (yf t) = true := by
 simp [bb, nk, qp, qY, nv, ny, kM, h, bz, Tm.zero, show (z0 : Tm).term = true by decide]
theorem tU {t : Tm} {fs : List Tm} (h : t.term = true) (hf : bz fs 6 = true) : bb (gA t fs) = true := by
 simp [bb, nk, qp, qY, nv, ny, kM, h, hf, Tm.zero, show (z0 : Tm).term = true by decide]
theorem kE {p : Pm} (h1 : bz p.pre 6 = true) (h2 : ∀ s ∈ p.body, bb s = true) (h3 : 1 ≤ p.body.length ∧ p.body.length ≤ 30) (h4 : mE p.body 0 = p.body.length) (h5 : bz p.post 6 = true) : eJ p = true := by
 unfold eJ gn
 rw [h1, h5, List.all_eq_true.2 h2, decide_eq_true (show (1 : Int) ≤ p.body.length by omega), decide_eq_true (show (p.body.length : Int) ≤ 30 by omega), decide_eq_true h4]
 rfl
def lR (low tm : Tm) (s : Src) : Sm × Src :=
  if (s.pick 4).1 = 0 then (ur (1 + ((s.pick 4).2.pick 3).1) low, ((s.pick 4).2.pick 3).2)
  else if (s.pick 4).1 = 1 then (rA ((s.pick 4).2.pick 4).1, ((s.pick 4).2.pick 4).2)
  else if (s.pick 4).1 = 2 then (kD low, (s.pick 4).2) else (s7 low tm, (s.pick 4).2)
def i8 (post : List Tm) (s : Src) : List Tm × Src := if (s.pick 4).1 = 0 then fN (s.pick 4).2 else (post, (s.pick 4).2)
def qt (r : Int) (pre : List Tm) (m : Sm × Src) : Pm × Src :=
  ⟨⟨pre, [fM, fL 0 ⟨(m.2.pick 2).1, []⟩, gA ⟨r - 1, [-1]⟩ [⟨0, [1]⟩, ⟨r, [-1]⟩], fM, m.1, fL 0 ⟨1, [1]⟩], (i8 [⟨-r, [1]⟩] (m.2.pick 2).2).1⟩, (i8 [⟨-r, [1]⟩] (m.2.pick 2).2).2⟩
def ux (r : Int) (f : List Tm × Src) : Pm × Src := qt r f.1 (lR ⟨0, [1]⟩ (iX f.2).1 (iX f.2).2)
def qq (s : Src) : Pm × Src := ux (3 + (s.pick 6).1) (fN (s.pick 6).2)
theorem rE {low tm : Tm} {s : Src} (h : s.Ok) (hl : low.term = true) (ht : tm.term = true) : bb (lR low tm s).1 = true ∧ (lR low tm s).1.kind ∈ [3,4,5,6] ∧ (lR low tm s).2.Ok := by
 have h1 := bP (h.pick (n := 4)) (n := 3) (by omega)
 have h2 := bP (h.pick (n := 4)) (n := 4) (by omega)
 unfold lR
 split
 exact ⟨uq (by omega) hl, by simp, h.pick.pick⟩
 split
 exact ⟨r8 (by omega), by simp, h.pick.pick⟩
 split
 exact ⟨ln hl, by simp, h.pick⟩
 exact ⟨uo hl ht, by simp, h.pick⟩
theorem tJ {post : List Tm} {s : Src} (h : s.Ok) (hp : bz post 6 = true) : bz (i8 post s).1 6 = true ∧ (i8 post s).2.Ok := by
 unfold i8; split
 exact ⟨lC h.pick, kH h.pick⟩
 exact ⟨hp, h.pick⟩
theorem rC {r k : Int} (h : -1000000 ≤ r ∧ r ≤ 1000000) (hk : k = 1 ∨ k = -1) : (⟨r, [k]⟩ : Tm).term = true := by
 refine ow (t := ⟨0, [k]⟩) ?_ h
 rcases hk with rfl | rfl <;> decide
theorem xn {r : Int} (h : -1000000 ≤ r ∧ r ≤ 1000000) : (⟨r, []⟩ : Tm).term = true := ow (t := ⟨0, []⟩) (by decide) h
theorem rV {s : Src} (h : s.Ok) : eJ (qq s).1 = true ∧ (qq s).2.Ok := by
 have h0 := bP h (n := 6) (by omega)
 have hf := lC (h.pick (n := 6))
 have hfo := kH (h.pick (n := 6))
 have hm := rE (low := ⟨0, [1]⟩) (iL hfo) (by decide) (jy hfo)
 unfold qq ux
 generalize lR ⟨0, [1]⟩ (iX (fN (s.pick 6).2).2).1 (iX (fN (s.pick 6).2).2).2 = m at hm
 generalize (fN (s.pick 6).2).1 = pre at hf
 generalize (s.pick 6).1 = a at h0
 have h2 := bP hm.2.2 (n := 2) (by omega)
 have he := tJ (post := [⟨-(3 + a), [1]⟩]) (hm.2.2.pick (n := 2)) (fV (fun t ht => by rw [List.mem_singleton.1 ht]; exact rC (by omega) (.inl Z)) (by simp))
 refine ⟨?_, he.2⟩
 refine kE hf (fun x hx => ?_) ⟨by show 1 ≤ 6; decide, by show 6 ≤ 30; decide⟩ ?_ he.1
 simp only [qt, List.mem_cons, List.not_mem_nil, or_false] at hx
 rcases hx with rfl | rfl | rfl | rfl | rfl | rfl
 exact lY
 exact lX (by decide) (xn (by omega))
 exact tU (rC (by omega) (.inr Z)) (fV (fun t ht => by
  simp only [List.mem_cons, List.not_mem_nil, or_false] at ht
  rcases ht with rfl | rfl
  · decide
  · exact rC (by omega) (.inr Z)) (by simp))
 exact lY
 exact hm.1
 exact lX (by decide) (by decide)
 obtain ⟨⟨k, v, e, t, i, fs⟩, s'⟩ := m
 have hk := hm.2.1
 simp only [List.mem_cons, List.not_mem_nil, or_false] at hk
 rcases hk with rfl | rfl | rfl | rfl <;> rfl
def ir (c : Int) (v : Nat) (n : Int) : Tm := (ns c (List.replicate v 0 ++ [n])).1
theorem dV {c n : Int} {v : Nat} (h : v ≤ 3) : (ir c v n).term = true := mR (by rw [dk, List.length_replicate, iw]; omega)
def kP (off : Int) (p : Pm) (s : Src) : Pm × Src :=
  if (s.pick 5).1 = 0 then (⟨[], [fM, fL 2 (ir 0 1 2), yf (ir (-1) 2 1), kD (ir (-1 - off) 1 1), kD (ir 0 1 (-1))], []⟩, (s.pick 5).2)
  else if (s.pick 5).1 = 1 then (⟨[], [yf (ir (-(((s.pick 5).2.pick 9).1 - 4)) 1 1), fL 0 (ir (-(((s.pick 5).2.pick 9).1 - 4)) 1 1), fL 0 (ir (((s.pick 5).2.pick 9).1 - 4 - off) 1 (-1))], [ir 0 0 1]⟩, ((s.pick 5).2.pick 9).2)
  else if (s.pick 5).1 = 2 then (⟨[ir 0 1 1, ir (7 + off) 1 (-1)], [fM, ur 2 (ir 0 1 1), fM, s7 (ir 0 1 1) (ir 1 2 1), fM, rA ((s.pick 5).2.pick 4).1, fL 3 (ir (((s.pick 5).2.pick 4).2.pick 3).1 2 1)], [(ns 0 [0, 0, -1, 1]).1]⟩, (((s.pick 5).2.pick 4).2.pick 3).2)
  else (p, (s.pick 5).2)
def tg (xs : List Int) : Pm := (kP (if ((qq ⟨xs, 0, 0⟩).2.pick 4).1 = 0 then 1 else 0) (qq ⟨xs, 0, 0⟩).1 ((qq ⟨xs, 0, 0⟩).2.pick 4).2).1
theorem tW {off : Int} {p : Pm} {s : Src} (h : s.Ok) (hp : eJ p = true) : eJ (kP off p s).1 = true := by
 have h4 := bP (h.pick (n := 5)) (n := 4) (by omega)
 unfold kP
 split
 refine kE Z (fun x hx => ?_) ⟨by show 1 ≤ 5; decide, by show 5 ≤ 30; decide⟩ Z Z
 simp only [List.mem_cons, List.not_mem_nil, or_false] at hx
 rcases hx with rfl | rfl | rfl | rfl | rfl
 exact lY
 exact lX (by decide) (dV (by decide))
 exact wP (dV (by decide))
 exact ln (dV (by decide))
 exact ln (dV (by decide))
 split
 refine kE Z (fun x hx => ?_) ⟨by show 1 ≤ 3; decide, by show 3 ≤ 30; decide⟩ Z (fV (fun t ht => by rw [List.mem_singleton.1 ht]; exact dV (by decide)) (by simp))
 simp only [List.mem_cons, List.not_mem_nil, or_false] at hx
 rcases hx with rfl | rfl | rfl
 exact wP (dV (by decide))
 exact lX (by decide) (dV (by decide))
 exact lX (by decide) (dV (by decide))
 split
 refine kE (fV (fun t ht => ?_) (by simp)) (fun x hx => ?_) ⟨by show 1 ≤ 7; decide, by show 7 ≤ 30; decide⟩ Z (fV (fun t ht => by rw [List.mem_singleton.1 ht]; exact mR (by decide)) (by simp))
 simp only [List.mem_cons, List.not_mem_nil, or_false] at ht
 rcases ht with rfl | rfl <;> exact dV (by decide)
 simp only [List.mem_cons, List.not_mem_nil, or_false] at hx
 rcases hx with rfl | rfl | rfl | rfl | rfl | rfl | rfl
 exact lY
 exact uq (by decide) (dV (by decide))
 exact lY
 exact uo (dV (by decide)) (dV (by decide))
 exact lY
 exact r8 (by omega)
 exact lX (by decide) (dV (by decide))
 exact hp
theorem tV {xs : List Int} (h : ∀ n ∈ xs, 0 ≤ n ∧ n ≤ 255) : eJ (tg xs) = true := by
 have h0 : (⟨xs, 0, 0⟩ : Src).Ok := ⟨h⟩
 have h1 := rV h0
 exact tW h1.2.pick h1.1
end Go.Al
