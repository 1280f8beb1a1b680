/- The program: its loops, the paths of a start, of all starts. -/
import Derived.Test.YtnnbiajhcolfiaaGreatC
import Derived.Test.YtnnbiajhcolfiaaGreatQ
set_option linter.unusedVariables false
set_option linter.unusedSimpArgs false
set_option maxRecDepth 10000
set_option maxHeartbeats 4000000
open Go.Proofs
namespace Go.Al
variable {L : Nat} (h1 : 4096 ≤ L) (h2 : L ≤ 1073741824)
structure Fd where
  lp : List Lp
  nm : List (Int × D)
def fK : Tr → List Fr → Fd → Fd
  | .node s a [x, y], r, c => if s.kind = 1 then fK y r (fK x (.st y :: r) c) else fK y r (fK x r c)
  | .node s a [x], r, c => fK x [.lp c.lp.length] ⟨c.lp ++ [⟨s, a.toNat, x, r⟩], fg c.nm a (.int .i64 (c.lp.length : Nat))⟩
  | _, _, c => c
abbrev ig (q : Lp) : D := Tr.d (.node q.s (q.a : Nat) [q.x])
abbrev zB (post bd : D) (c : Fd) (i j k m : Nat) : B := .box [.d post, .rs i 0 (c.lp.length + 1), .d .nils, .d .nils, .d (.bool false), .d bd, .rs j 0 c.lp.length, .rs k 0 c.lp.length, .mp m]
abbrev rZ (pre : List Tm) (c : Fd) : B := .row false 1 ((pre :: c.lp.map (·.s.facts)).map fun f => [e6 f])
abbrev r5 (c : Fd) : B := .row false 1 (c.lp.map fun q => [ig q])
abbrev r8 (c : Fd) : B := .row false 1 ((c.lp.map (·.r)).map fun r => [fD r])
abbrev zH (post bd : D) (pre : List Tm) (c : Fd) : List (Nat × B) := [(0, zB post bd c 1 2 3 4), (1, rZ pre c), (2, r5 c), (3, r8 c), (4, aX c.nm)]
abbrev zO (post bd : D) (pre : List Tm) (c : Fd) : List (Nat × B) := [(0, zB post bd c 10 11 12 4), (4, aX c.nm), (10, rZ pre c), (11, r5 c), (12, r8 c)]
abbrev lw (L : Nat) (post bd : D) (pre : List Tm) (t r : D) (c c' : Fd) : Prop := MC Tryz.prog L 69 [.c (.pt 0 0 0), .c (.d t), .c (.d r)] (zH post bd pre c) (aS (.tup []) (zO post bd pre c'))
theorem vn {L : Nat} {post bd : D} {pre : List Tm} {t d1 d2 d3 : D} {c c' : Fd} (h : lw L post bd pre t (.ptr [d1, d2, d3] 0) c c') : MC Tryz.prog L 69 [.c (.pt 0 0 0), .c (.d t), .c (.pt 5 0 0)] (zH post bd pre c ++ [(5, ub d1 d2 d3)]) (aS (.tup []) (zO post bd pre c')) :=
  MC.freeze 5 Z (.cons (.keep Z) (.cons (.keep Z) (.cons (.c (.box Z (aC Z))) .nil))) (.cons Z (.box (.cons (.keep Z) (.cons (.keep Z) (.cons (.keep Z) (.cons (.keep Z) (.cons (.keep Z) (.cons (.keep Z) (.cons (.keep Z) (.cons (.keep Z) (.cons (.keep Z) .nil)))))))))) (.cons Z .row (.cons Z .row (.cons Z .row (.cons Z .map (.skip .nil)))))) Z h
theorem qe {L : Nat} (h1 : 4096 ≤ L) (h2 : L ≤ 1073741824) {post bd : D} {pre : List Tm} {s : Sm} {r : List Fr} {c c1 c2 : Fd} {a : Int} (hk : s.kind ≠ 1 ∧ s.kind ≠ 7 ∧ s.kind ≠ 8) : lw L post bd pre (Tr.d (.node s a [])) (fD r) c c := by
 refine MC.shift 500 Z (MC.keep [500,504,510,511,512] (bs := [zB post bd c 510 511 512 504, aX c.nm, rZ pre c, r5 c, r8 c]) Z Z (jH 124 [500,501,502,503,504] h1 h2 Tryz.func69 Z Z Z Z fun O hF => ?_))
 refine bK ?_
 refine ag (j4 O Z Z Z Z (js O Z (jf [11,0,1,2] Z (jn (aq (ag (j2 O Z Z (jn (ae O Z Z (fun hc12 => ?_) (fun hc12 => ?_))))))))))
 exact absurd (bz hc12) (by omega)
 refine ag (j2 O Z Z (jf [40,13,11,0,1,2] Z (jn (ae O Z Z (fun hc40 => ?_) (fun hc40 => ?_)))))
 exact absurd (bz hc40) (by omega)
 refine ag (j2 O Z Z (jf [60,13,11,0,1,2] Z (jn (ae O Z Z (fun hc60 => ?_) (fun hc60 => ?_)))))
 exact absurd (bz hc60) (by omega)
 refine ak ?_
 show _ ∧ _
 refine ⟨.inr Z, _, ((ac 501 510 Z Z).trans (ac 502 511 Z Z)).trans (ac 503 512 Z Z), _, Z, Z, Z⟩
theorem rF {L : Nat} (h1 : 4096 ≤ L) (h2 : L ≤ 1073741824) {post bd : D} {pre : List Tm} {s : Sm} {r : List Fr} {c c1 c2 : Fd} {a : Int} {x y : Tr} (hk : s.kind = 1) (ih1 : lw L post bd pre x.d (fD (.st y :: r)) c c1) (ih2 : lw L post bd pre y.d (fD r) c1 c2) : lw L post bd pre (Tr.d (.node s a [x, y])) (fD r) c c2 := by
 refine MC.shift 500 Z (MC.keep [500,504,510,511,512] (bs := [zB post bd c2 510 511 512 504, aX c2.nm, rZ pre c2, r5 c2, r8 c2]) Z Z (jH 124 [500,501,502,503,504] h1 h2 Tryz.func69 Z Z Z Z fun O hF => ?_))
 refine bK ?_
 refine ag (j4 O Z Z Z Z (js O Z (jf [11,0,1,2] Z (jn (aq (ag (j2 O Z Z (jn (ae O Z Z (fun hc12 => ?_) (fun hc12 => ?_))))))))))
 refine ah (jw [13,11,0,1,2] Z (jj O [_,_,_,_,_,_,_,_,_,_,_,_,_,_,_,_,_] [pn [] 0 1, pn [] 0 1, pn [1] 0 1, pn [1,2] 0 1, pn [1,2,3] 0 1, pn (rg 1 4) 0 1, pn (rg 1 5) 0 1, pn [] 0 0, pn [7] 0 0, pn [7,8] 0 0, pn [7,8,9] 0 0, pn (rg 7 4) 0 0, pn (rg 7 5) 0 0, pn [] 0 0, pn (rg 7 7) 0 0, pe (rg 7 8) 0, pe (rg 0 16) 1] [15,16] [_,_,_] [[], [501,502,503,29]] (ai (ka O Z Z (kw O Z Z)) (ai (ka O Z Z (kw O Z Z)) (ai (ka O Z Z (kw O Z Z)) (ai (ka O Z Z (kw O Z Z)) (ai (ka O Z Z (kw O Z Z)) (ai (ai (ai (bm O Z Z Z Z Z Z Z Z (by simp [Trs.d]) Z) Z) (ai (bm O Z Z Z Z Z Z Z Z (by simp [Trs.d]) Z) Z)) (ai (ka O Z Z (kw O Z Z)) (ka O Z Z (ka O Z Z (ka O Z Z (ka O Z Z (ai (ai (bm O Z Z Z Z Z Z Z Z (by simp [Trs.d]) Z) Z) (ka O Z Z (ka O Z Z (ka O Z Z (ai (ai (aI (Eff.box O Z Z Z Z Z Z Z Z)) Z) (ai (ai (bU O [500,501,502,503,504,29] [501,502,503,29] (bin := [zB post bd c 1 2 3 4, rZ pre c, r5 c, r8 c, aX c.nm, ub y.d (.int .i64 0) (fD r)]) Z Z Z Z (vn ih1) Z Z Z Z Z (B0 := 31000) Z Z Z Z Z Z Z) Z) trivial))))))))))))))))) ?_))
 refine jw [13,11,0,1,2] Z (bK ?_)
 refine an (j4 O Z Z Z Z (js O Z (aa (bm O Z Z Z Z Z Z Z Z (by simp [Trs.d]) Z) Z Z Z (j2 O Z Z (jf [38,37,31,13,11,0,1,2] Z (aj O [500,31010,31011,31012,504] (bin := [zB post bd c1 1 2 3 4, rZ pre c1, r5 c1, r8 c1, aX c1.nm]) Z Z Z Z (ih2) Z Z Z Z Z Z (B0 := 40000) Z Z (ap ?_)))))))
 refine jf [13,11,0,1,2] Z (jn ?_)
 show _ ∧ _
 refine ⟨.inr Z, _, ((ac 40010 510 Z Z).trans (ac 40011 511 Z Z)).trans (ac 40012 512 Z Z), _, Z, Z, Z⟩
 exact absurd (cp hc12) (by omega)
theorem tX {L : Nat} (h1 : 4096 ≤ L) (h2 : L ≤ 1073741824) {post bd : D} {pre : List Tm} {s : Sm} {r : List Fr} {c c1 c2 : Fd} {a : Int} {x y : Tr} (hk : s.kind = 7) (ih1 : lw L post bd pre x.d (fD r) c c1) (ih2 : lw L post bd pre y.d (fD r) c1 c2) : lw L post bd pre (Tr.d (.node s a [x, y])) (fD r) c c2 := by
 refine MC.shift 500 Z (MC.keep [500,504,510,511,512] (bs := [zB post bd c2 510 511 512 504, aX c2.nm, rZ pre c2, r5 c2, r8 c2]) Z Z (jH 124 [500,501,502,503,504] h1 h2 Tryz.func69 Z Z Z Z fun O hF => ?_))
 refine bK ?_
 refine ag (j4 O Z Z Z Z (js O Z (jf [11,0,1,2] Z (jn (aq (ag (j2 O Z Z (jn (ae O Z Z (fun hc12 => ?_) (fun hc12 => ?_))))))))))
 exact absurd (bz hc12) (by omega)
 refine ag (j2 O Z Z (jf [40,13,11,0,1,2] Z (jn (ae O Z Z (fun hc40 => ?_) (fun hc40 => ?_)))))
 refine ag (j4 O Z Z Z Z (js O Z (aa (bm O Z Z Z Z Z Z Z Z (by simp [Trs.d]) Z) Z Z Z (j2 O Z Z (jf [49,48,42,13,11,0,1,2] Z (aj O [500,501,502,503,504] (bin := [zB post bd c 1 2 3 4, rZ pre c, r5 c, r8 c, aX c.nm]) Z Z Z Z (ih1) Z Z Z Z Z Z (B0 := 51000) Z Z (ap ?_)))))))
 refine jf [13,11,0,1,2] Z (jn (an (j4 O Z Z Z Z (js O Z (aa (bm O Z Z Z Z Z Z Z Z (by simp [Trs.d]) Z) Z Z Z (j2 O Z Z (jf [58,57,51,13,11,0,1,2] Z (aj O [500,51010,51011,51012,504] (bin := [zB post bd c1 1 2 3 4, rZ pre c1, r5 c1, r8 c1, aX c1.nm]) Z Z Z Z (ih2) Z Z Z Z Z Z (B0 := 60000) Z Z (ap ?_)))))))))
 refine jf [13,11,0,1,2] Z (jn ?_)
 show _ ∧ _
 refine ⟨.inr Z, _, ((ac 60010 510 Z Z).trans (ac 60011 511 Z Z)).trans (ac 60012 512 Z Z), _, Z, Z, Z⟩
 exact absurd (cp hc40) (by omega)
theorem qd {L : Nat} (h1 : 4096 ≤ L) (h2 : L ≤ 1073741824) {post bd : D} {pre : List Tm} {s : Sm} {r : List Fr} {c c1 c2 : Fd} {k : Nat} {x : Tr} (hk : s.kind = 8) (hl : c.lp.length ≤ 1000) (ih : lw L post bd pre x.d (fD [.lp c.lp.length]) (⟨c.lp ++ [⟨s, k, x, r⟩], fg c.nm (k : Nat) (.int .i64 (c.lp.length : Nat))⟩ : Fd) c2) : lw L post bd pre (Tr.d (.node s (k : Nat) [x])) (fD r) c c2 := by
 refine MC.shift 500 Z (MC.keep [500,504,510,511,512] (bs := [zB post bd c2 510 511 512 504, aX c2.nm, rZ pre c2, r5 c2, r8 c2]) Z Z (jH 124 [500,501,502,503,504] h1 h2 Tryz.func69 Z Z Z Z fun O hF => ?_))
 refine bK ?_
 refine ag (j4 O Z Z Z Z (js O Z (jf [11,0,1,2] Z (jn (aq (ag (j2 O Z Z (jn (ae O Z Z (fun hc12 => ?_) (fun hc12 => ?_))))))))))
 exact absurd (bz hc12) (by omega)
 refine ag (j2 O Z Z (jf [40,13,11,0,1,2] Z (jn (ae O Z Z (fun hc40 => ?_) (fun hc40 => ?_)))))
 exact absurd (bz hc40) (by omega)
 refine ag (j2 O Z Z (jf [60,13,11,0,1,2] Z (jn (ae O Z Z (fun hc60 => ?_) (fun hc60 => ?_)))))
 refine ag (j4 O Z Z Z Z (fI O Z Z (jf [66,13,11,0,1,2] Z (aB O Z Z Z Z (AD (n := c.lp.length) h1 h2) (af Z) Z Z Z Z Z (B0 := 68000) Z (js O Z (jf [6,13,11,0,1,2] Z (jn (ah (fc O [_,_,_,_,_,_,_,_,_,_] [pn [] 0 0, pn [0] 0 0, pn [0,1] 0 0, pn [0,1,2] 0 0, pn [] 0 0, pn [4] 0 0, pn [4,5] 0 0, pn [4,5,6] 0 0, pn [] 0 0, pe (rg 0 9) 0] [9] [_,_] (kc O Z (kc O Z (kc O Z (kc O Z (kc O Z (kc O Z (kc O Z (kc O Z (kc O Z (ai (Eff.mapUpdate (kt := 2) (et := 2) (q := .i64) (es := c.nm) (k := (k : Nat)) (v := .int .i64 (c.lp.length : Nat)) O Z Z Z Z xO uK Z Z Z Z Z Z) trivial)))))))))) ?_)))))))))
 refine jw [6,13,11,0,1,2] Z (bK ?_)
 refine ag (j4 O Z Z Z Z (j2 O Z Z (jf [82,81,77,6,13,11,0,1,2] Z (AOps.heap (bA O Z Z Z Z Z Z Z Z Z Z Z) Z (ap ?_)))))
 refine jf [83,81,77,6,13,11,0,1,2] Z (AOps.heap (bk (own := false) (xs := c.lp.map fun q => [ig q]) (ys := [[ig (⟨s, k, x, r⟩ : Lp)]]) (zs := (c.lp ++ [(⟨s, k, x, r⟩ : Lp)]).map fun q => [ig q]) (n := (c.lp ++ [(⟨s, k, x, r⟩ : Lp)]).length) O Z Z Z Z Z Z Z Z Z Z Z Z Z Z Z Z (.row Z (cw _).symm) (.whole Z Z (.inr ⟨Z, Z⟩)) (by simp) Z (by simp; omega) (by simp; omega) (by simp) (by simp)) Z (ap ?_))
 refine ap ?_
 refine j2 O Z Z (jf [86,84,6,13,11,0,1,2] Z (jo O Z (ap ?_)))
 refine jf [6,13,11,0,1,2] Z (bn (j4 O Z Z Z Z (j2 O Z Z (jf [92,91,87,6,13,11,0,1,2] Z (AOps.heap (bA O Z Z Z Z Z Z Z Z Z Z Z) Z (ap ?_))))))
 refine jf [93,91,87,6,13,11,0,1,2] Z (AOps.heap (bk (own := false) (xs := (c.lp.map (·.r)).map fun r => [fD r]) (ys := [[fD r]]) (zs := ((c.lp ++ [(⟨s, k, x, r⟩ : Lp)]).map (·.r)).map fun r => [fD r]) (n := (c.lp ++ [(⟨s, k, x, r⟩ : Lp)]).length) O Z Z Z Z Z Z Z Z Z Z Z Z Z Z Z Z (.row Z (by simp)) (.whole Z Z (.inr ⟨Z, Z⟩)) (by simp) Z (by simp; omega) (by simp; omega) (by simp) (by simp)) Z (ap ?_))
 refine ap ?_
 refine j2 O Z Z (jf [96,94,6,13,11,0,1,2] Z (jo O Z (ap ?_)))
 refine jf [6,13,11,0,1,2] Z (jn (ah (jj O [_,_,_,_,_,_,_,_,_,_,_,_,_,_,_,_,_] [pn [] 0 2, pn [] 0 1, pn [1] 0 1, pn [1,2] 0 1, pn [1,2,3] 0 1, pn (rg 1 4) 0 1, pn [] 0 0, pn [6] 0 0, pn [6,7] 0 0, pn [6,7,8] 0 0, pn (rg 6 4) 0 0, pe (rg 6 5) 0, pe (rg 1 11) 1, pn (rg 0 13) 2 2, pn (rg 0 14) 2 2, pn (rg 0 15) 2 2, pe (rg 0 16) 2] [11,12,16] [_,_,_,_] [[], [501], []] (ai (ka O Z Z (ka O Z Z (kw O Z Z))) (ai (ka O Z Z (kw O Z Z)) (ai (ka O Z Z (kw O Z Z)) (ai (ka O Z Z (kw O Z Z)) (ai (ka O Z Z (kw O Z Z)) (ai (ka O Z Z (kw O Z Z)) (ka O Z Z (ka O Z Z (ka O Z Z (ka O Z Z (ka O Z Z (ai (ai (aI (dD O Z Z Z Z Z Z Z Z Z Z Z Z Z Z)) Z) (ai (ai (cm (own := false) (xs := (pre :: c.lp.map (·.s.facts)).map fun f => [e6 f]) (ys := [[e6 s.facts]]) (zs := (pre :: (c.lp ++ [(⟨s, k, x, r⟩ : Lp)]).map (·.s.facts)).map fun f => [e6 f]) (n := (c.lp ++ [(⟨s, k, x, r⟩ : Lp)]).length + 1) O Z Z Z Z Z Z Z Z Z Z Z Z Z Z Z Z (.row Z (by simp)) (.whole Z Z (.inr ⟨Z, Z⟩)) (by simp) Z (by simp; omega) (by simp; omega) (by simp) (by simp) Z) Z) (ka O Z Z (ka O Z Z (ka O Z Z (ai (ai (aI (eS O Z Z Z)) Z) trivial))))))))))))))))) ?_)))
 refine jw [6,13,11,0,1,2] Z (bK ?_)
 refine an (j4 O Z Z Z Z (js O Z (aa (bm O Z Z Z Z Z Z Z Z (by simp [Trs.d]) Z) Z Z Z (j3 O Z Z Z (jf [121,119,113,6,13,11,0,1,2] Z (jx O Z (ap ?_)))))))
 refine jf [122,119,113,6,13,11,0,1,2] Z (aj O [500,109,84,94,504,122] (bin := [zB post bd (⟨c.lp ++ [⟨s, k, x, r⟩], fg c.nm (k : Nat) (.int .i64 (c.lp.length : Nat))⟩ : Fd) 1 2 3 4, rZ pre (⟨c.lp ++ [⟨s, k, x, r⟩], fg c.nm (k : Nat) (.int .i64 (c.lp.length : Nat))⟩ : Fd), r5 (⟨c.lp ++ [⟨s, k, x, r⟩], fg c.nm (k : Nat) (.int .i64 (c.lp.length : Nat))⟩ : Fd), r8 (⟨c.lp ++ [⟨s, k, x, r⟩], fg c.nm (k : Nat) (.int .i64 (c.lp.length : Nat))⟩ : Fd), aX (⟨c.lp ++ [⟨s, k, x, r⟩], fg c.nm (k : Nat) (.int .i64 (c.lp.length : Nat))⟩ : Fd).nm, ub .nilp (.int .i64 (c.lp.length : Nat)) .nilp]) Z Z Z Z (vn ih) Z Z Z Z Z Z (B0 := 124000) Z Z (ap ?_))
 refine jf [6,13,11,0,1,2] Z (jn ?_)
 show _ ∧ _
 refine ⟨.inr Z, _, ((ac 124010 510 Z Z).trans (ac 124011 511 Z Z)).trans (ac 124012 512 Z Z), _, Z, Z, Z⟩
 exact absurd (cp hc60) (by omega)
theorem mu {L : Nat} (h1 : 4096 ≤ L) (h2 : L ≤ 1073741824) {b : List Sm} {post bd : D} {pre : List Tm} : ∀ {t : Tr} {k k' : Nat}, bR b k = some (t, k') → ∀ {r : List Fr} {c : Fd}, c.lp.length + t.nodes ≤ 1000 → lw L post bd pre t.d (fD r) c (fK t r c) ∧ (fK t r c).lp.length ≤ c.lp.length + t.nodes
 | .node s a [x, y], k, k', h, r, c, hc => by
  obtain ⟨e1, rfl, e3, e4, e5⟩ := bI h
  obtain rfl := cC h
  obtain ⟨k1, i1, i2⟩ := bJ e4
  obtain ⟨k2, i3, i4⟩ := bJ i2
  have hn : Tr.nodes (.node (b.getD k default) (k : Nat) [x, y]) = 1 + (x.nodes + y.nodes) := by simp [Tr.nodes, Trs.nodes]
  rw [hn] at hc ⊢
  by_cases hk : (b.getD k default).kind = 1
  rw [fK, if_pos hk]
  obtain ⟨a1, a2⟩ := mu h1 h2 i1 (r := .st y :: r) (c := c) (by omega) (post := post) (bd := bd) (pre := pre)
  obtain ⟨b1, b2⟩ := mu h1 h2 i3 (r := r) (c := fK x (.st y :: r) c) (by omega) (post := post) (bd := bd) (pre := pre)
  exact ⟨rF h1 h2 hk a1 b1, by omega⟩
  rw [fK, if_neg hk]
  obtain ⟨a1, a2⟩ := mu h1 h2 i1 (r := r) (c := c) (by omega) (post := post) (bd := bd) (pre := pre)
  obtain ⟨b1, b2⟩ := mu h1 h2 i3 (r := r) (c := fK x r c) (by omega) (post := post) (bd := bd) (pre := pre)
  have hk7 : (b.getD k default).kind = 7 := by
   have h3 : aN (b.getD k default).kind = 2 := e5.symm
   unfold aN at h3
   split at h3
   omega
   split at h3
   assumption
   split at h3 <;> omega
  exact ⟨tX h1 h2 hk7 a1 b1, by omega⟩
 | .node s a [x], k, k', h, r, c, hc => by
  obtain ⟨e1, rfl, e3, e4, e5⟩ := bI h
  obtain rfl := cC h
  obtain ⟨k1, i1, i2⟩ := bJ e4
  have hk8 : (b.getD k default).kind = 8 := f9 e5.symm
  have hn : Tr.nodes (.node (b.getD k default) (k : Nat) [x]) = 1 + x.nodes := by simp [Tr.nodes, Trs.nodes]
  rw [hn] at hc ⊢
  rw [fK, Int.toNat_natCast]
  obtain ⟨a1, a2⟩ := mu h1 h2 i1 (r := [.lp c.lp.length]) (c := ⟨c.lp ++ [⟨b.getD k default, k, x, r⟩], fg c.nm (k : Nat) (.int .i64 (c.lp.length : Nat))⟩) (by simp only [de, gt]; omega) (post := post) (bd := bd) (pre := pre)
  refine ⟨qd (c1 := c) h1 h2 hk8 (by omega) a1, ?_⟩
  simp only [de, gt] at a2; omega
 | .node s a [], k, k', h, r, c, hc => by
  obtain ⟨e1, rfl, e3, e4, e5⟩ := bI h
  obtain rfl := cC h
  have hne := fT (e5.symm : aN (b.getD k default).kind = 0)
  have e : fK (.node (b.getD k default) (k : Nat) []) r c = c := by rw [fK] <;> simp
  rw [e]
  exact ⟨qe (c1 := c) (c2 := c) h1 h2 ⟨hne.1, hne.2.1, hne.2.2⟩, Nat.le_add_right _ _⟩
 | .node s a (x :: y :: z :: ks), k, k', h, r, c, hc => by
  obtain ⟨e1, rfl, e3, e4, e5⟩ := bI h
  have h2 := (b0 (b.getD k default).kind).2
  simp only [iX] at e5
  omega
theorem oG {es : List (Int × D)} {k j : Int} {v : D} : jt (fg es k v) j = if j = k then some v else jt es j := by
 induction es with
 | nil => simp only [fg, jt]
 | cons e es ih =>
  obtain ⟨i, y⟩ := e
  by_cases hk : k = i
  subst hk
  simp only [fg, if_true, jt]
  by_cases h : j = k <;> simp [h]
  simp only [fg, if_neg hk, jt, ih]
  by_cases h : j = i
  subst h; rw [if_pos rfl, if_pos rfl, if_neg (Ne.symm hk)]
  rw [if_neg h, if_neg h]
structure FdOk (b : List Sm) (k : Nat) (c : Fd) : Prop where
  len : c.lp.length = ba b k
  at_ : ∀ q ∈ c.lp, q.a < k
  nm : ∀ q ∈ c.lp, jt c.nm (q.a : Nat) = some (.int .i64 (ba b q.a : Nat))
theorem FdOk.next {b : List Sm} {k : Nat} {c : Fd} (h : FdOk b k c) (h8 : ¬ (b.getD k default).kind = 8) : FdOk b (k + 1) c :=
  ⟨by rw [h.len, ba, if_neg h8]; rfl, fun q hq => Nat.lt_succ_of_lt (h.at_ q hq), h.nm⟩
theorem j6 {b : List Sm} : ∀ {t : Tr} {k k' : Nat}, bR b k = some (t, k') → ∀ {r : List Fr} {c : Fd}, FdOk b k c → FdOk b k' (fK t r c) ∧ (fK t r c).lp = c.lp ++ aV b t r
  | .node s a [x, y], k, k', h, r, c, hc => by
    obtain ⟨e1, rfl, e3, e4, e5⟩ := bI h
    obtain rfl := cC h
    obtain ⟨k1, i1, i2⟩ := bJ e4
    obtain ⟨k2, i3, i4⟩ := bJ i2
    obtain rfl := dm i4
    have h8 : ¬ (b.getD k default).kind = 8 := by
      intro h8; rw [h8] at e5; revert e5; simp only [iX, List.length_nil]; decide
    by_cases hk : (b.getD k default).kind = 1
    · rw [fK, if_pos hk, dH, if_pos hk]
      obtain ⟨a1, a2⟩ := j6 i1 (r := .st y :: r) (hc.next h8)
      obtain ⟨b1, b2⟩ := j6 i3 (r := r) a1
      exact ⟨b1, by rw [b2, a2, eQ]⟩
    · rw [fK, if_neg hk, dH, if_neg hk]
      obtain ⟨a1, a2⟩ := j6 i1 (r := r) (hc.next h8)
      obtain ⟨b1, b2⟩ := j6 i3 (r := r) a1
      exact ⟨b1, by rw [b2, a2, eQ]⟩
  | .node s a [x], k, k', h, r, c, hc => by
    obtain ⟨e1, rfl, e3, e4, e5⟩ := bI h
    obtain rfl := cC h
    obtain ⟨k1, i1, i2⟩ := bJ e4
    obtain rfl := dm i2
    have hk8 : (b.getD k default).kind = 8 := f9 e5.symm
    rw [fK, iC, Int.toNat_natCast]
    have hlen := hc.len
    have hn : FdOk b (k + 1) ⟨c.lp ++ [⟨b.getD k default, k, x, r⟩], fg c.nm (k : Nat) (.int .i64 (c.lp.length : Nat))⟩ := by
      refine ⟨?_, fun q hq => ?_, fun q hq => ?_⟩
      · rw [de, gt, hlen, ba, if_pos hk8]
      · rcases List.mem_append.1 hq with hq | hq
        · exact Nat.lt_succ_of_lt (hc.at_ q hq)
        · rw [List.mem_singleton.1 hq]; exact Nat.lt_succ_self k
      · rcases List.mem_append.1 hq with hq | hq
        · have := hc.at_ q hq
          rw [oG, if_neg (by omega)]; exact hc.nm q hq
        · rw [List.mem_singleton.1 hq, oG, if_pos Z, hlen]
    obtain ⟨a1, a2⟩ := j6 i1 (r := [.lp c.lp.length]) hn
    refine ⟨a1, ?_⟩
    rw [a2, eQ, hlen]; rfl
  | .node s a [], k, k', h, r, c, hc => by
    obtain ⟨e1, rfl, e3, e4, e5⟩ := bI h
    obtain rfl := cC h
    obtain rfl := dm e4
    have hne := fT (e5.symm : aN (b.getD k default).kind = 0)
    have e : fK (.node (b.getD k default) (k : Nat) []) r c = c := by rw [fK] <;> simp
    rw [e, gb, List.append_nil]
    exact ⟨hc.next hne.2.2, Z⟩
  | .node s a (x :: y :: z :: ks), k, k', h, r, c, hc => by
    obtain ⟨e1, rfl, e3, e4, e5⟩ := bI h
    have h2 := (b0 (b.getD k default).kind).2
    simp only [iX] at e5
    omega
theorem tF {b : List Sm} {i j : Nat} (hi : (b.getD i default).kind = 8) (hj : (b.getD j default).kind = 8) (h : ba b i = ba b j) : i = j := by
 have key : ∀ {i j : Nat}, (b.getD i default).kind = 8 → ba b i = ba b j → ¬ i < j := fun {i j} hi h hlt => by
  have h1 := e9 (b := b) (show i + 1 ≤ j by omega)
  have h2 : ba b (i + 1) = ba b i + 1 := by rw [ba, if_pos hi]
  omega
 have h1 := key hi h
 have h2 := key hj h.symm
 omega
def gD (t : Tr) : Fd := fK t [] ⟨[], []⟩
theorem ky {b : List Sm} {t : Tr} (hT : bR b 0 = some (t, b.length)) : FdOk b b.length (gD t) ∧ (gD t).lp = aV b t [] := by
 have h := j6 hT (r := []) (c := ⟨[], []⟩) ⟨rfl, fun q hq => (by cases hq), fun q hq => (by cases hq)⟩
 exact ⟨h.1, h.2.trans (List.nil_append _)⟩
theorem vj {b : List Sm} {t : Tr} (hT : bR b 0 = some (t, b.length)) {k : Nat} (hk : k < b.length) (h8 : (b.getD k default).kind = 8) : ba b k < (aV b t []).length ∧ ((aV b t []).getD (ba b k) default).a = k ∧ ((aV b t []).getD (ba b k) default).s = b.getD k default ∧ (aV b t []).getD (ba b k) default ∈ aV b t [] := by
 have h1 : ba b (k + 1) = ba b k + 1 := by rw [ba, if_pos h8]
 have h2 := e9 (b := b) (show k + 1 ≤ b.length by omega)
 obtain ⟨hm, ha⟩ := jC hT (n := ba b k) (by omega)
 have hat := (r4 hT (r := [])).at_ _ hm
 have he := tF hat.2.2.1 h8 ha
 have hl := (ky hT).1.len
 rw [(ky hT).2] at hl
 exact ⟨by omega, he, by rw [hat.2.2.2, he], hm⟩
theorem yM {b : List Sm} {t : Tr} {pre post : List Tm} (hT : bR b 0 = some (t, b.length)) : PcOk (pj b post) b (pre :: (gD t).lp.map (·.s.facts)) (gD t).nm := by
 refine ⟨fun k hk h8 => ?_, fun k hk h8 => ?_⟩
 obtain ⟨h1, h2, h3, h4⟩ := vj hT hk h8
 rw [(ky hT).2]
 refine ⟨by simp; exact h1, ?_⟩
 rw [List.getD_cons_succ, ← h3]
 simp [List.getD_eq_getElem?_getD, h1]
 obtain ⟨h1, h2, h3, h4⟩ := vj hT hk h8
 have := (ky hT).1.nm _ (by rw [(ky hT).2]; exact h4)
 rw [h2] at this; exact this
theorem yS {z : List Tm} (hz : z = []) : MQ h1 h2 110 [cW z] [] (Rows (.c (.rs 0 0 0)) [aE []]) := by
 refine db (jB 8 h1 h2 Tryz.func110 Z Z Z fun O hF => ?_)
 subst hz
 refine ag (js O Z (jn (ah (ag (js O Z (qu O Z Z Z Z Z Z Z Z Z Z (fun b => ?_)))))))
 refine jn (ae O Z Z (fun hc4 => ?_) (fun hc4 => ?_))
 refine ag (js O Z (jr ?_))
 refine ⟨.inl Z, _, (fU 2 900 2 false Z Z).trans (Ent.to (e' := [(2, _)]) ⟨Z, trivial⟩ Z), _, Z, [900], by decide, Z, Z, Z⟩
 refine ak (ag (AOps.heap (bB O Z Z Z) Z (js O Z (au (cy 5 Z) (AOps.heap (bk (own := false) (zs := []) (n := 0) O Z Z Z Z Z Z Z Z Z Z Z Z Z Z Z Z (.row Z Z) (.slc (.inl Z)) (by simp) Z (by simp) (by simp) Z Z) Z (js O Z (jr ?_)))))))
 refine ⟨.inl Z, _, av, _, Z, [7], by decide, Z, Z, Z⟩
theorem yV {L : Nat} (h1 : 4096 ≤ L) (h2 : L ≤ 1073741824) {ts : List Tm} (hl : ts.length ≤ 1000) : MC Tryz.prog L 110 [cW ts] [] (Rows (.c (.rs 0 0 ts.length)) [aE ts]) := by
 cases ts with
 | nil => exact yS h1 h2 Z
 | cons c r => exact Ap h1 h2 hl
variable {E : Pe} {SS : List (List Tm)} {bd : D} {nm : List (Int × D)} {g : Gs} {f : List Tm}
theorem zi {lo be : D} {n : Nat} (hn : n < SS.length) (hsl : SS.length ≤ 1000) (hf : SS.getD n default = f) (hl : f.length ≤ 1000) : MQ h1 h2 71 [.c (.pt 0 0 0), eI ((n : Int) - 1)] [(0, iB (bC E SS bd lo be nm) g 1 2 3), (1, aJ g.paths), (2, aK g.conds), (3, aX nm)] (aS (wA ((n : Int) - 1) (w0 f) 4 5 6) [(0, iB (bC E SS bd lo be nm) g 1 2 3), (1, aJ g.paths), (2, aK g.conds), (3, aX nm), (4, aE (m5 4)), (5, aE f), (6, aA [])]) := by
 refine MC.shift 500 Z (MC.keep [500,501,502,503,504,505,506] (bs := [iB (bC E SS bd lo be nm) g 501 502 503, aJ g.paths, aK g.conds, aX nm, aE (m5 4), aE f, aA []]) Z Z (jH 30 [500,501,502,503] h1 h2 Tryz.func71 Z Z Z Z fun O hF => ?_))
 refine bK ?_
 refine ag (jl O Z (ap ?_))
 refine bn (j4 O Z Z Z Z (j2 O Z Z (aa ((vF O Z).cast (v' := eI (n : Nat)) (congrArg eI (by omega))) Z Z Z (aa ((aO O Z Z Z Z Z Z Z Z (cU hn)).cast (v' := ptr [e6 f]) (by rw [hf])) Z Z Z (js O Z (jf [15,7,4] Z (jh O (B0 := 17000) Z Z Z Z (yV (ts := f) h1 h2 hl) (af Z) Z Z Z Z Z (ap ?_))))))))
 refine js O Z (jf [17,4] Z (jl O Z (ap ?_)))
 refine jo O Z (ap ?_)
 refine jn (ah (ag (js O Z (jn (aq (aH (X := Nat) (fun i => ⟨[(4, .c (.pt 4 0 0)), (5, .c (.pt 5 0 0)), (18, eI i)], [(4, .box [.d (.int .i64 0), .d .nils, .d .nils, .d .nils, .d .nils, .d (.int .i64 0)]), (5, .box [.d (.int .i64 ((n : Int) - 1)), .rs 904 0 i, .d .nils, .rs 905 0 f.length, .rs 906 0 0, .d (.int .i64 4)]), (500, iB (bC E SS bd lo be nm) g 501 502 503), (501, aJ g.paths), (502, aK g.conds), (503, aX nm), (904, aE (m5 i)), (905, aE f), (906, aA [])]⟩) (fun i => i ≤ 4) (fun i => 4 - i) 0 (((cK 5 904 2 false 1 Z Z Z).trans (cK 5 906 1 true 4 Z Z Z)).trans (((am [4,5,500,501,502,503,904,17000,906] (e' := [(4, _), (5, _), (18, _)]) Z Z ⟨Z, Z, Z, trivial⟩ Z).trans (ac 17000 905 Z Z)).trans (Ent.to ⟨Z, Z, Z, trivial⟩ Z))) ?_ (fun i hi => ?_)))))))
 exact dF _
 have hvl := gj (i := i)
 refine ag (js O Z (jn (ah (ae O Z Z (fun hc19 => ?_) (fun hc19 => ?_)))))
 refine ak (ah (aq (ag (j2 O Z Z (jn (jj O [_,_,_,_,_,_,_,_] [pn [] 0 2, pn [0] 0 2, pn [] 0 0, pe [2] 0, pe [2,3] 1, pe (rg 0 5) 2, pn (rg 0 6) 3 3, pe (rg 0 7) 3] [3,4,5,7] [_,_,_,_,_] [[], [], [904], []] (ai (ka O Z Z (ka O Z Z (kw O Z Z))) (ai (ka O Z Z (ka O Z Z (kw O Z Z))) (ka O Z Z (ai (ai (aI (bN O (B0 := 25000) Z Z Z Z (vy (k := i) h1 h2 (by have := bz hc19; omega)) (af Z) Z Z Z Z Z)) Z) (ai (ai (aI (dD O Z Z Z Z Z Z Z Z Z Z Z Z Z Z)) Z) (ai (ai (cm (own := false) (xs := (m5 i).map Tm.cells) (ys := [Tm.cells (gz i)]) (zs := (m5 (i + 1)).map Tm.cells) (n := i + 1) O Z Z Z Z Z Z Z Z Z Z Z Z Z Z Z Z (.row Z (by simp; omega)) (.whole Z Z (.inr ⟨Z, Z⟩)) (by simp) Z (by simp; omega) (by simp; omega) (by rw [oe]; simp) (by simp [gj]) Z) Z) (ka O Z Z (ai (ai (aI (eS O Z Z Z)) Z) trivial)))))))) ?_))))))
 refine jw [20,19,4,5,18] Z (bK ?_)
 refine an (ji O Z (js O Z (jn ?_)))
 refine ⟨i + 1, ((am [4,5,500,501,502,503,26,905,906] (e' := [(4, _), (5, _), (18, _)]) Z Z ⟨Z, Z, Z, trivial⟩ Z).trans (ac 26 904 Z Z)).trans (Ent.to ⟨Z, Z, Z, trivial⟩ Z), by have := bz hc19; omega, by have := bz hc19; omega⟩
 refine bH (ag (js O Z (jo O Z (ap ?_))))
 refine jr ?_
 obtain rfl : i = 4 := by have := cp hc19; omega
 refine ⟨.inl Z, _, ((ac 904 504 Z Z).trans (ac 905 505 Z Z)).trans (ac 906 506 Z Z), _, Z, Z, Z⟩
variable {w : Pw} {k : Nat}
theorem zh {c : Pc} {g' : Gs} {frm : Int} {s : Sm} {a : Int} {x : Tr} (ih : kZ L c frm w g (fD [.st x, .lp k]) g') : MQ h1 h2 75 [wA frm w 4 5 6, .c (.pt 7 0 0), .c (.pt 8 0 0), .c (.pt 9 0 0)] (iT c g w (Tr.d (.node s a [x])) (.int .i64 (k : Nat))) (aS (.tup []) (oT c g' (Tr.d (.node s a [x])) (.int .i64 (k : Nat)))) := by
 refine MC.shift 500 Z (MC.keep [500,503,507,508,509,510,511] (bs := [iB c g' 510 511 503, aX c.num, pB 500, xB (Tr.d (.node s a [x])), xB (.int .i64 (k : Nat)), aJ g'.paths, aK g'.conds]) Z Z (jH 19 [500,501,502,503,504,505,506,507,508,509] h1 h2 Tryz.func75 Z Z Z Z fun O hF => ?_))
 refine bK ?_
 refine ag (jx O Z (ap ?_))
 refine jn (jj O [_,_,_,_,_,_,_,_,_,_,_,_,_,_] [pn [] 0 2, pn [] 0 2, pn [] 0 1, pn [2] 0 1, pn [2,3] 0 1, pn [2,3,4] 0 1, pn (rg 2 4) 0 1, pn (rg 2 5) 0 1, pn [] 0 0, pn [8] 0 0, pe [8,9] 0, pn (rg 2 9) 1 1, pe (rg 2 10) 1, pe (rg 0 13) 2] [10,12,13] [_,_,_,_] [[], [], [501,502,504,505,506,17,15]] (ai (ka O Z Z (ka O Z Z (kw O Z Z))) (ai (ka O Z Z (ka O Z Z (kw O Z Z))) (ai (ka O Z Z (kw O Z Z)) (ai (ka O Z Z (kw O Z Z)) (ai (ka O Z Z (kw O Z Z)) (ai (ka O Z Z (kw O Z Z)) (ai (ai (ai (bm O Z Z Z Z Z Z Z Z (by simp [Trs.d]) Z) Z) (ai (bm O Z Z Z Z Z Z Z Z (by simp [Trs.d]) Z) Z)) (ai (ka O Z Z (kw O Z Z)) (ka O Z Z (ka O Z Z (ai (ai (aI (Eff.box O Z Z Z Z Z Z Z Z)) Z) (ka O Z Z (ai (ai (aI (Eff.box O Z Z Z Z Z Z Z Z)) Z) (ai (ai (bU O [500,501,502,503,504,505,506,17,15] [501,502,504,505,506,17,15] (bin := [iB c g 1 2 3, aJ g.paths, aK g.conds, aX c.num, aE w.vars, aE w.facts, aA w.ev, .box [.d x.d, .d (.int .i64 0), .pt 8 0 0], ub .nilp (.int .i64 (k : Nat)) .nilp]) Z Z Z Z (ww ih) Z Z Z Z Z (B0 := 19000) Z Z Z Z Z Z Z) Z) trivial)))))))))))))) ?_)
 show _ ∧ _
 refine xI ?_
 refine ⟨.inr Z, _, (ac 19010 510 Z Z).trans (ac 19011 511 Z Z), _, Z, Z, Z⟩
theorem zg {lo : D} {RS : List (List Fr)} {g' : Gs} {frm : Int} {d8 : D} {r : List Fr} (hk : k < RS.length) (hr : RS.getD k default = r) (ih : kZ L (bC E SS bd lo (.slc 1 (RS.map fun r => [fD r])) nm) frm w g (fD r) g') : MQ h1 h2 76 [wA frm w 4 5 6, .c (.pt 7 0 0), .c (.pt 9 0 0)] (iT (bC E SS bd lo (.slc 1 (RS.map fun r => [fD r])) nm) g w d8 (.int .i64 (k : Nat))) (aS (.tup []) (oT (bC E SS bd lo (.slc 1 (RS.map fun r => [fD r])) nm) g' d8 (.int .i64 (k : Nat)))) := by
 refine MC.shift 500 Z (MC.keep [500,503,507,508,509,510,511] (bs := [iB (bC E SS bd lo (.slc 1 (RS.map fun r => [fD r])) nm) g' 510 511 503, aX nm, pB 500, xB d8, xB (.int .i64 (k : Nat)), aJ g'.paths, aK g'.conds]) Z Z (jH 14 [500,501,502,503,504,505,506,507,508,509] h1 h2 Tryz.func76 Z Z Z Z fun O hF => ?_))
 refine bK ?_
 refine ag (jx O Z (ap ?_))
 refine jn (jj O [_,_,_,_,_,_,_,_,_,_] [pn [] 0 0, pn [] 0 0, pn [] 0 0, pn [2] 0 0, pn [2,3] 0 0, pn [2,3,4] 0 0, pn [] 0 0, pn (rg 2 5) 0 0, pn (rg 2 6) 0 0, pe (rg 0 9) 0] [9] [_,_] [[501,502,504,505,506]] (ka O Z Z (ka O Z Z (ka O Z Z (ka O Z Z (ka O Z Z (ka O Z Z (ka O Z Z (ai (ai ((aO O Z Z Z Z Z Z Z Z (cU hk)).cast (v' := ptr [fD r]) (by rw [hr])) Z) (ka O Z Z (ai (ai (bU O [500,501,502,503,504,505,506] [501,502,504,505,506] (bin := [iB (bC E SS bd lo (.slc 1 (RS.map fun r => [fD r])) nm) g 1 2 3, aJ g.paths, aK g.conds, aX nm, aE w.vars, aE w.facts, aA w.ev]) Z Z Z Z (ih) Z Z Z Z Z (B0 := 14000) Z Z Z Z Z Z Z) Z) trivial)))))))))) ?_)
 show _ ∧ _
 refine xI ?_
 refine ⟨.inr Z, _, (ac 14010 510 Z Z).trans (ac 14011 511 Z Z), _, Z, Z, Z⟩
set_option maxHeartbeats 8000000
theorem nh {L : Nat} (h1 : 4096 ≤ L) (h2 : L ≤ 1073741824) {E : Pe} {SS : List (List Tm)} {bd lo be : D} {nm : List (Int × D)} {g : Gs} {n : Nat} {f : List Tm} {w : Pw} {frm : Int} (hw : w0 f = w) (hn : n < SS.length) (hsl : SS.length ≤ 1000) (hf : SS.getD n default = f) (hl : f.length ≤ 1000) (hfr : frm = (n : Int) - 1) : MC Tryz.prog L 71 [.c (.pt 0 0 0), eI frm] [(0, iB (bC E SS bd lo be nm) g 1 2 3), (1, aJ g.paths), (2, aK g.conds), (3, aX nm)] (aS (wA frm w 4 5 6) [(0, iB (bC E SS bd lo be nm) g 1 2 3), (1, aJ g.paths), (2, aK g.conds), (3, aX nm), (4, aE w.vars), (5, aE w.facts), (6, aA w.ev)]) := by
 subst hw; subst hfr; exact zi h1 h2 hn hsl hf hl
variable {LP : List Lp} {t : Tr}
theorem w3 {G : Gs} (hw : w0 f = w) (hn : 0 < SS.length) (hsl : SS.length ≤ 1000) (hf : SS.getD 0 default = f) (hfl : f.length ≤ 1000) (hbd : bd = t.d) (ih : kZ L (bC E SS bd (.slc 1 (LP.map fun q => [ig q])) (.slc 1 ((LP.map (·.r)).map fun r => [fD r])) nm) (-1) w g (fD [.st t]) G) : MQ h1 h2 48 [.c (.pt 0 0 0), eI (-1)] [(0, iB (bC E SS bd (.slc 1 (LP.map fun q => [ig q])) (.slc 1 ((LP.map (·.r)).map fun r => [fD r])) nm) g 1 2 3), (1, aJ g.paths), (2, aK g.conds), (3, aX nm)] (aS (.tup []) (oF (bC E SS bd (.slc 1 (LP.map fun q => [ig q])) (.slc 1 ((LP.map (·.r)).map fun r => [fD r])) nm) G)) := by
 refine MC.shift 500 Z (MC.keep [500,503,510,511] (R := .tup []) (bs := [iB (bC E SS bd (.slc 1 (LP.map fun q => [ig q])) (.slc 1 ((LP.map (·.r)).map fun r => [fD r])) nm) G 510 511 503, aX nm, aJ G.paths, aK G.conds]) Z Z (jH 45 [500,501,502,503] h1 h2 Tryz.func48 Z Z Z Z fun O hF => ?_))
 subst hbd
 refine bK ?_
 refine ag (jx O Z (ap ?_))
 refine jf [2,1] Z (jx O Z (ap ?_))
 refine jn (ah (qw O [_,_,_,_,_,_,_] [pn [] 0 0, pn [0] 0 0, pn [0,1] 0 0, pn [] 0 0, pe [0,1,2,3] 0, pn [] 0 1, pe [0,1,2,3,4,5] 1] [4,6] 5 4 (.box [.d (.int .i64 0), .d .nils, .d .nils, .d .nils, .d .nils, .d (.int .i64 0)]) [_,_] [_] [[], []] (kf O Z Z Z (kf O Z Z Z (kf O Z Z Z (kf O Z Z Z (ai (ai (aF (aI (bO O [500,501,502,503] (bin := [iB (bC E SS t.d (.slc 1 (LP.map fun q => [ig q])) (.slc 1 ((LP.map (·.r)).map fun r => [fD r])) nm) g 1 2 3, aJ g.paths, aK g.conds, aX nm]) Z Z Z Z (nh (E := E) (SS := SS) (bd := t.d) (lo := (.slc 1 (LP.map fun q => [ig q]))) (be := (.slc 1 ((LP.map (·.r)).map fun r => [fD r]))) (nm := nm) (g := g) (n := 0) (f := f) (w := w) h1 h2 hw hn hsl hf hfl Z) Z Z Z Z Z (B0 := 11000) Z Z Z Z Z Z)) (aI (bO O [500,501,502,503] (bin := [iB (bC E SS t.d (.slc 1 (LP.map fun q => [ig q])) (.slc 1 ((LP.map (·.r)).map fun r => [fD r])) nm) g 1 2 3, aJ g.paths, aK g.conds, aX nm]) Z Z Z Z (nh (E := E) (SS := SS) (bd := t.d) (lo := (.slc 1 (LP.map fun q => [ig q]))) (be := (.slc 1 ((LP.map (·.r)).map fun r => [fD r]))) (nm := nm) (g := g) (n := 0) (f := f) (w := w) h1 h2 hw hn hsl hf hfl Z) Z Z Z Z Z (B0 := 11000) Z Z Z Z Z Z))) Z) (ai (ai (ai (aI (Eff.alloc O Z Z Z Z Z Z)) Z) (ai (aI (Eff.alloc O Z Z Z Z Z Z)) Z)) (ai (ai (aF trivial (aI (eS O Z Z Z))) Z) trivial))))))) ?_))
 refine jw [4,3,2,1] Z (bK ?_)
 refine ah (ag (j2 O Z Z (jn (ae O Z Z (fun hc12 => ?_) (fun hc12 => ?_)))))
 refine ah (jw [11,4,3,2,1] Z (jj O [_,_,_,_,_,_,_,_,_] [pn [] 0 1, pn [] 0 1, pn [] 0 0, pn [2] 0 0, pn [2,3] 0 0, pn [2,3,4] 0 0, pn (rg 2 4) 0 0, pe (rg 2 5) 0, pe (rg 0 8) 1] [7,8] [_,_,_] [[], [501,502,11004,11005,11006,20]] (ai (ka O Z Z (kw O Z Z)) (ai (ka O Z Z (kw O Z Z)) (ka O Z Z (ka O Z Z (ka O Z Z (ka O Z Z (ka O Z Z (ai (ai (aI (Eff.box O Z Z Z Z Z Z Z Z)) Z) (ai (ai (bU O [500,501,502,503,11004,11005,11006,20] [501,502,11004,11005,11006,20] (bin := [iB (bC E SS t.d (.slc 1 (LP.map fun q => [ig q])) (.slc 1 ((LP.map (·.r)).map fun r => [fD r])) nm) g 1 2 3, aJ g.paths, aK g.conds, aX nm, aE w.vars, aE w.facts, aA w.ev, ub t.d (.int .i64 0) .nilp]) Z Z Z Z (qD ih) Z Z Z Z Z (B0 := 22000) Z Z Z Z Z Z Z) Z) trivial))))))))) ?_))
 refine jw [11,4,3,2,1] Z (bK ?_)
 refine ff ?_
 refine ⟨.inl Z, _, (ac 22010 510 Z Z).trans (ac 22011 511 Z Z), _, Z, Z, Z⟩
 exact absurd hc12 (by decide)
theorem w2 {q : Lp} {Y N : Pw → Gs → Gs} (hw : w0 f = w) (hk : k < LP.length) (hq : LP.getD k default = q) (hn : k + 1 < SS.length) (hsl : SS.length ≤ 1000) (hf : SS.getD (k + 1) default = f) (hfl : f.length ≤ 1000) (hs : q.s.sum.ok = true ∧ q.s.sum.xs.length ≤ 4) (hkl : k ≤ 1000) (hY : kY Y) (hN : kY N)
  (hy : (ca w (aD q.s.sum w.vars).1 (aR w q.s.sum g)).bad = false → kZ L (bC E SS bd (.slc 1 (LP.map fun q => [ig q])) (.slc 1 ((LP.map (·.r)).map fun r => [fD r])) nm) (k : Nat) (w.fact (aD q.s.sum w.vars).1) (ca w (aD q.s.sum w.vars).1 (aR w q.s.sum g)) (fD [.st q.x, .lp k]) (Y (w.fact (aD q.s.sum w.vars).1) (ca w (aD q.s.sum w.vars).1 (aR w q.s.sum g)))) (hn2 : (Y (w.fact (aD q.s.sum w.vars).1) (ca w (aD q.s.sum w.vars).1 (aR w q.s.sum g))).bad = false → kZ L (bC E SS bd (.slc 1 (LP.map fun q => [ig q])) (.slc 1 ((LP.map (·.r)).map fun r => [fD r])) nm) (k : Nat) (w.fact (bu (aD q.s.sum w.vars).1).1) (Y (w.fact (aD q.s.sum w.vars).1) (ca w (aD q.s.sum w.vars).1 (aR w q.s.sum g))) (fD q.r) (N (w.fact (bu (aD q.s.sum w.vars).1).1) (Y (w.fact (aD q.s.sum w.vars).1) (ca w (aD q.s.sum w.vars).1 (aR w q.s.sum g))))) :
  MQ h1 h2 48 [.c (.pt 0 0 0), eI (k : Nat)] [(0, iB (bC E SS bd (.slc 1 (LP.map fun q => [ig q])) (.slc 1 ((LP.map (·.r)).map fun r => [fD r])) nm) g 1 2 3), (1, aJ g.paths), (2, aK g.conds), (3, aX nm)] (aS (.tup []) (oF (bC E SS bd (.slc 1 (LP.map fun q => [ig q])) (.slc 1 ((LP.map (·.r)).map fun r => [fD r])) nm) (c8 Y N w (aD q.s.sum w.vars).1 (aR w q.s.sum g)))) := by
 refine MC.shift 500 Z (MC.keep [500,503,510,511] (R := .tup []) (bs := [iB (bC E SS bd (.slc 1 (LP.map fun q => [ig q])) (.slc 1 ((LP.map (·.r)).map fun r => [fD r])) nm) (c8 Y N w (aD q.s.sum w.vars).1 (aR w q.s.sum g)) 510 511 503, aX nm, aJ (c8 Y N w (aD q.s.sum w.vars).1 (aR w q.s.sum g)).paths, aK (c8 Y N w (aD q.s.sum w.vars).1 (aR w q.s.sum g)).conds]) Z Z (jH 45 [500,501,502,503] h1 h2 Tryz.func48 Z Z Z Z fun O hF => ?_))
 have hv4 : w.vars.length = 4 := by rw [← hw]; exact gj
 have hfw : w.facts.length ≤ 1000 := by rw [← hw]; exact hfl
 have hew : w.ev.length ≤ 1000 := by rw [← hw]; exact dF _
 have hva := nr (w := w) ⟨by rw [← hw]; show ∀ t ∈ m5 4, t.ok = true; decide, by omega⟩ hv4
 refine bK ?_
 refine ag (jx O Z (ap ?_))
 refine jf [2,1] Z (jx O Z (ap ?_))
 refine jn (ah (qw O [_,_,_,_,_,_,_] [pn [] 0 0, pn [0] 0 0, pn [0,1] 0 0, pn [] 0 0, pe [0,1,2,3] 0, pn [] 0 1, pe [0,1,2,3,4,5] 1] [4,6] 5 4 (.box [.d (.int .i64 0), .d .nils, .d .nils, .d .nils, .d .nils, .d (.int .i64 0)]) [_,_] [_] [[], []] (kf O Z Z Z (kf O Z Z Z (kf O Z Z Z (kf O Z Z Z (ai (ai (aF (aI (bO O [500,501,502,503] (bin := [iB (bC E SS bd (.slc 1 (LP.map fun q => [ig q])) (.slc 1 ((LP.map (·.r)).map fun r => [fD r])) nm) g 1 2 3, aJ g.paths, aK g.conds, aX nm]) Z Z Z Z (nh (E := E) (SS := SS) (bd := bd) (lo := (.slc 1 (LP.map fun q => [ig q]))) (be := (.slc 1 ((LP.map (·.r)).map fun r => [fD r]))) (nm := nm) (g := g) (n := k + 1) (f := f) (w := w) h1 h2 hw hn hsl hf hfl (by omega)) Z Z Z Z Z (B0 := 11000) Z Z Z Z Z Z)) (aI (bO O [500,501,502,503] (bin := [iB (bC E SS bd (.slc 1 (LP.map fun q => [ig q])) (.slc 1 ((LP.map (·.r)).map fun r => [fD r])) nm) g 1 2 3, aJ g.paths, aK g.conds, aX nm]) Z Z Z Z (nh (E := E) (SS := SS) (bd := bd) (lo := (.slc 1 (LP.map fun q => [ig q]))) (be := (.slc 1 ((LP.map (·.r)).map fun r => [fD r]))) (nm := nm) (g := g) (n := k + 1) (f := f) (w := w) h1 h2 hw hn hsl hf hfl (by omega)) Z Z Z Z Z (B0 := 11000) Z Z Z Z Z Z))) Z) (ai (ai (ai (aI (Eff.alloc O Z Z Z Z Z Z)) Z) (ai (aI (Eff.alloc O Z Z Z Z Z Z)) Z)) (ai (ai (aF trivial (aI (eS O Z Z Z))) Z) trivial))))))) ?_))
 refine jw [4,3,2,1] Z (bK ?_)
 refine ah (ag (j2 O Z Z (jn (ae O Z Z (fun hc12 => ?_) (fun hc12 => ?_)))))
 exact absurd (bz hc12) (by omega)
 refine ak (ah (jw [11,4,3,2,1] Z (qw O [_,_,_,_,_,_,_,_,_] [pn [] 0 0, pn [0] 0 0, pn [0,1] 0 0, pn [0,1,2] 0 0, pn [] 0 0, pn [0,1,2,3,4] 0 0, pn [0,1,2,3,4,5] 0 0, pn [] 0 0, pe [0,1,2,3,4,5,6,7] 0] [8] 7 5 (.box [.d .nilp]) [_] [_] [] (kf O Z Z Z (kf O Z Z Z (kf O Z Z Z (kf O Z Z Z (kf O Z Z Z (ai (ai (aF ((aO O Z Z Z Z Z Z Z Z (cU hk)).cast (v' := ptr [ig q]) (by rw [hq])) ((aO O Z Z Z Z Z Z Z Z (cU hk)).cast (v' := ptr [ig q]) (by rw [hq]))) Z) (kf O Z Z Z (ai (ai (aI (Eff.alloc O Z Z Z Z Z Z)) Z) (ai (ai (aF trivial (aI (eS O Z Z Z))) Z) trivial))))))))) ?_)))
 refine jw [5,11,4,3,2,1] Z (bK ?_)
 have hrr : (LP.map (·.r)).getD k default = q.r := by rw [← hq]; simp [List.getD_eq_getElem?_getD, hk]
 have hT := wX (c := (bC E SS bd (.slc 1 (LP.map fun q => [ig q])) (.slc 1 ((LP.map (·.r)).map fun r => [fD r])) nm)) (g := (aR w q.s.sum g)) (frm := (k : Nat)) (w := w) (t := (aD q.s.sum w.vars).1) (d8 := ig q) (d9 := .int .i64 (k : Nat)) (Y := Y) (N := N) h1 h2 hY hN dN (by omega) hfw hew (fun h => zh h1 h2 (hy h)) (fun h => zg (d8 := ig q) h1 h2 (k := k) (by rw [cw]; exact hk) hrr (hn2 h))
 refine jj O [_,_,_,_,_,_,_,_,_,_,_,_,_,_,_,_] [pn [] 0 1, pn [0] 0 1, pn [0,1] 0 1, pn [] 0 1, pn [] 0 0, pn [4] 0 0, pn [4,5] 0 0, pn [] 0 0, pn [7] 0 0, pn [7,8] 0 0, pn [7,8,9] 0 0, pn (rg 7 4) 0 0, pe (rg 4 8) 0, pn [] 0 1, pn [] 0 1, pe (rg 0 15) 1] [12,15] [_, [(2, pB 500), (3, xB (.int .i64 (k : Nat))), (5, xB (ig q)), (500, iB (bC E SS bd (.slc 1 (LP.map fun q => [ig q])) (.slc 1 ((LP.map (·.r)).map fun r => [fD r])) nm) (aR w q.s.sum g) 501 502 503), (501, aJ (aR w q.s.sum g).paths), (502, aK (aR w q.s.sum g).conds), (503, aX nm), (4, iW (k : Nat) w 11004 11005 11006), (11004, aE w.vars), (11005, aE w.facts), (11006, aA w.ev)], _] [[], [501,502,11004,11005,11006]] (ai (ka O Z Z (kw O Z Z)) (ai (ka O Z Z (kw O Z Z)) (ai (ka O Z Z (kw O Z Z)) (ai (ka O Z Z (kw O Z Z)) (ka O Z Z (ka O Z Z (ka O Z Z (ka O Z Z (ka O Z Z (ka O Z Z (ka O Z Z (ka O Z Z (ai (ai (aI (bO O [500,501,502,503,4,11004,11005,11006] (bin := [iB (bC E SS bd (.slc 1 (LP.map fun q => [ig q])) (.slc 1 ((LP.map (·.r)).map fun r => [fD r])) nm) g 1 2 3, aJ g.paths, aK g.conds, aX nm, iW (k : Nat) w 5 6 7, aE w.vars, aE w.facts, aA w.ev]) Z Z Z Z (kB (c := (bC E SS bd (.slc 1 (LP.map fun q => [ig q])) (.slc 1 ((LP.map (·.r)).map fun r => [fD r])) nm)) (g := g) (frm := (k : Nat)) (w := w) (t := q.s.sum) h1 h2 hs.1 hva (by have := hs.2; omega)) Z Z Z Z Z (B0 := 42000) Z Z Z Z Z Z)) Z) (ai (ka O Z Z (kw O Z Z)) (ai (ka O Z Z (kw O Z Z)) (ai (ai (bU O [500,501,502,503,11004,11005,11006,2,5,3] [501,502,11004,11005,11006] (bin := [iB (bC E SS bd (.slc 1 (LP.map fun q => [ig q])) (.slc 1 ((LP.map (·.r)).map fun r => [fD r])) nm) (aR w q.s.sum g) 1 2 3, aJ (aR w q.s.sum g).paths, aK (aR w q.s.sum g).conds, aX nm, aE w.vars, aE w.facts, aA w.ev, pB 0, xB (ig q), xB (.int .i64 (k : Nat))]) Z Z Z Z (hT) Z Z Z Z Z (B0 := 45000) Z Z Z Z Z Z Z) Z) trivial)))))))))))))))) ?_
 show _ ∧ _
 refine xI ?_
 refine ⟨.inr Z, _, (ac 45010 510 Z Z).trans (ac 45011 511 Z Z), _, Z, Z, Z⟩
abbrev t9 (p : Pm) (t : Tr) : Pc := bC (pj p.body p.post) (p.pre :: (gD t).lp.map (·.s.facts)) t.d (.slc 1 ((gD t).lp.map fun q => [ig q])) (.slc 1 (((gD t).lp.map (·.r)).map fun r => [fD r])) (gD t).nm
abbrev vK (p : Pm) (t : Tr) (g : Gs) : List (Nat × B) := [(0, iB (t9 p t) g 1 2 3), (1, aJ g.paths), (2, aK g.conds), (3, aX (gD t).nm)]
abbrev u7 (p : Pm) (t : Tr) (g : Gs) : List (Nat × B) := [(0, iB (t9 p t) g 10 11 3), (3, aX (gD t).nm), (10, aJ g.paths), (11, aK g.conds)]
variable {p : Pm}
theorem s3 (hp : eN p = true) (htd : t8 p.body = t.d) (ht : PtOk p t) : MQ h1 h2 46 [lc p] [] (aS (.tup [.c (.pt 0 0 0), eB true]) (vK p t g0)) := by
 refine MC.shift 500 Z (MC.keep [500,501,502,503] (bs := [iB (t9 p t) g0 501 502 503, aJ [], aK [], aX (gD t).nm]) Z Z (jB 30 h1 h2 Tryz.func46 Z Z Z fun O hF => ?_))
 have hfd := mu (L := L) h1 h2 ht.tree (r := []) (c := ⟨[], []⟩) (by have := ht.nodes; show 0 + _ ≤ _; omega) (post := e6 p.post) (bd := t.d) (pre := p.pre)
 refine ag (jx O Z (ap ?_))
 refine au (Ent.freeze 1 (e' := [(1, _), (0, _)]) Z (.cons Z (.c (.box (cs := Pm.data p) Z (aC Z))) (fe [0] Z)) (.skip .nil)) ?_
 refine ap ?_
 refine j2 O Z Z (jn (ah (ag (js O Z (aB O Z Z Z Z ((yi (p := p) h1 h2).plain (u := eB true) (by rw [hp])) (af Z) Z Z Z Z Z (B0 := 9000) Z (js O Z (jf [9,3,2,1,0] Z (jn (ae O Z Z (fun hc9 => ?_) (fun hc9 => ?_))))))))))
 cases hc9
 refine ak (ag (j2 O Z Z (jf [12,3,2,1,0] Z (ay O Z Z Z Z (v9 h1 h2) (af Z) Z Z Z Z (B0 := 14000) Z Z ?_))))
 rw [htd]
 refine j4 O Z Z Z Z (js O Z (jf [4,3,2,1,0] Z (bn (j4 O Z Z Z Z (jf [19,17,4,3,2,1,0] Z (AOps.heap (bA O Z Z Z Z Z Z Z Z Z Z Z) Z (ap ?_)))))))
 refine j2 O Z Z (jf [22,21,4,3,2,1,0] Z (AOps.heap (HS.makeMap O Z Z Z Z) Z (ap ?_)))
 refine ap ?_
 refine js O Z (jf [24,4,3,2,1,0] Z (jx O Z (ap ?_)))
 refine js O Z (jf [6,4,3,2,1,0] Z (bn (j2 O Z Z (au (cK 25 902 1 false 6 Z Z Z) (ap ?_)))))
 refine au (cK 25 903 1 false 7 Z Z Z) (ap ?_)
 refine aj O [25,20,902,903,23] (bin := [zB (e6 p.post) t.d ⟨[], []⟩ 1 2 3 4, rZ p.pre ⟨[], []⟩, r5 ⟨[], []⟩, r8 ⟨[], []⟩, aX []]) Z Z Z Z (hfd.1) Z Z Z Z Z Z (B0 := 29000) Z Z (ap ?_)
 refine jf [6,4,3,2,1,0] Z (bn (au (Ent.freeze 29010 (e' := [(6, _)]) Z (fe [6] Z) (.cons Z (.box (.cons (.keep Z) (.cons (.row Z (by simp)) (fk Z)))) (.cons Z .map (.skip (.cons Z .row (.cons Z .row .nil)))))) ?_))
 refine au (Ent.freeze 29011 (e' := [(6, _)]) Z (fe [6] Z) (.cons Z (.box (.cons (.keep Z) (.cons (.keep Z) (.cons (.keep Z) (.cons (.keep Z) (.cons (.keep Z) (.cons (.keep Z) (.cons (.row Z (by simp)) (fk Z))))))))) (.cons Z .map (.skip (.cons Z .row .nil))))) ?_
 refine au (Ent.freeze 29012 (e' := [(6, _)]) Z (fe [6] Z) (.cons Z (.box (.cons (.keep Z) (.cons (.keep Z) (.cons (.keep Z) (.cons (.keep Z) (.cons (.keep Z) (.cons (.keep Z) (.cons (.keep Z) (.cons (.row Z (by simp)) (fk Z)))))))))) (.cons Z .map (.skip .nil)))) ?_
 refine au (cK 25 901 5 true 2 Z Z Z) (ap ?_)
 refine au (cK 25 904 3 true 3 Z Z Z) (ap ?_)
 refine j3 O Z Z Z (jr ?_)
 refine ⟨.inl Z, _, (((ac 25 500 Z Z).trans (ac 901 501 Z Z)).trans (ac 904 502 Z Z)).trans (ac 23 503 Z Z), _, Z, Z, Z⟩
theorem nN {al : Nat → Gs} (h : ∀ i, (al i).bad = true → al (i + 1) = al i) {i : Nat} (hb : (al i).bad = true) : ∀ {n : Nat}, i ≤ n → al n = al i := fun {n} hn => by
 induction n with
 | zero =>
  obtain rfl : i = 0 := by omega
  rfl
 | succ n ih =>
  rcases Nat.lt_or_ge n i with h1 | h1
  obtain rfl : i = n + 1 := by omega
  rfl
  have := ih h1
  rw [h n (by rw [this]; exact hb), this]
theorem w4 {k : Int} {al : Nat → Gs} (hl : (p.pre :: (gD t).lp.map (·.s.facts)).length ≤ 1000) (hst : ∀ i, (al i).bad = true → al (i + 1) = al i) (h0 : (al 0).bad = false) (hal : ∀ i : Nat, i < (p.pre :: (gD t).lp.map (·.s.facts)).length → (al i).bad = false → MQ h1 h2 48 [.c (.pt 0 0 0), eI ((i : Int) - 1)] (vK p t (al i)) (aS (.tup []) (u7 p t (al (i + 1))))) : MQ h1 h2 47 [.c (.pt 0 0 0), eB true, eI k, .c (.fb 48 [.pt 0 0 0])] (vK p t (al 0)) (aS (eB (!(al (p.pre :: (gD t).lp.map (·.s.facts)).length).bad)) (u7 p t (al (p.pre :: (gD t).lp.map (·.s.facts)).length))) := by
 refine MC.shift 500 Z (MC.keep [500,503,510,511] (R := eB (!(al (p.pre :: (gD t).lp.map (·.s.facts)).length).bad)) (bs := [iB (t9 p t) (al (p.pre :: (gD t).lp.map (·.s.facts)).length) 510 511 503, aX (gD t).nm, aJ (al (p.pre :: (gD t).lp.map (·.s.facts)).length).paths, aK (al (p.pre :: (gD t).lp.map (·.s.facts)).length).conds]) Z Z (jH 41 [500,501,502,503] h1 h2 Tryz.func47 Z Z Z Z fun O hF => ?_))
 refine bK ?_
 refine ag (js O Z (jn (ah (ag (j2 O Z Z (jf [11,8,0,2,3] Z (jn (ae O Z Z (fun hc11 => ?_) (fun hc11 => ?_)))))))))
 cases hc11
 refine ak (ah (ag (j4 O Z Z Z Z (eK O Z (js O Z (jf [29,28,8,0,2,3] Z (jn (aq (aH (X := Nat) (fun i => ⟨[(0, .c (.pt 500 0 0)), (3, .c (.fb 48 [.pt 500 0 0])), (28, eI ((p.pre :: (gD t).lp.map (·.s.facts)).length : Nat)), (29, eI i)], [(500, iB (t9 p t) (al i) 901 902 503), (503, aX (gD t).nm), (901, aJ (al i).paths), (902, aK (al i).conds)]⟩) (fun i => i ≤ (p.pre :: (gD t).lp.map (·.s.facts)).length ∧ (al i).bad = false) (fun i => (p.pre :: (gD t).lp.map (·.s.facts)).length - i) 0 ((((am [500,503,501,502] (e' := [(0, _), (3, _), (28, _), (29, _)]) Z Z ⟨Z, Z, Z, Z, trivial⟩ Z).trans (ac 501 901 Z Z)).trans (ac 502 902 Z Z)).trans (Ent.to ⟨Z, Z, Z, Z, trivial⟩ Z)) ?_ (fun i hi => ?_))))))))))
 exact ⟨dF _, h0⟩
 refine ag (js O Z (jn (ah (ae O Z Z (fun hc30 => ?_) (fun hc30 => ?_)))))
 refine ak (ah (aq (ag (j2 O Z Z (bn (j2 O Z Z (ji O Z (jf [34,32,31,30,0,3,28,29] Z (rY O [500,901,902,503] (bin := [iB (t9 p t) (al i) 1 2 3, aJ (al i).paths, aK (al i).conds, aX (gD t).nm]) Z Z Z Z (hal i (by have := bz hc30; omega) hi.2) Z Z Z Z Z Z (B0 := 36000) Z Z (ap ?_))))))))))
 refine jf [31,30,0,3,28,29] Z (bn (j4 O Z Z Z Z (jf [39,31,30,0,3,28,29] Z (jn (ae O Z Z (fun hc39 => ?_) (fun hc39 => ?_))))))
 refine ag (js O Z (jr ?_))
 have e := nN hst (show (al (i + 1)).bad = true from hc39) (n := (p.pre :: (gD t).lp.map (·.s.facts)).length) (by have := bz hc30; omega)
 rw [e]
 refine ⟨.inl Z, _, (ac 36010 510 Z Z).trans (ac 36011 511 Z Z), _, Z, by rw [show (al (i + 1)).bad = true from hc39]; rfl, Z⟩
 refine ak (an (ji O Z (js O Z (jn ?_))))
 refine ⟨i + 1, (((am [500,503,36010,36011] (e' := [(0, _), (3, _), (28, _), (29, _)]) Z Z ⟨Z, Z, Z, Z, trivial⟩ Z).trans (ac 36010 901 Z Z)).trans (ac 36011 902 Z Z)).trans (Ent.to ⟨Z, Z, Z, Z, trivial⟩ Z), ⟨by have := bz hc30; omega, hc39⟩, by have := bz hc30; omega⟩
 refine bH (ag (js O Z (jr ?_)))
 obtain rfl : i = (p.pre :: (gD t).lp.map (·.s.facts)).length := by have := cp hc30; omega
 refine ⟨.inl Z, _, (ac 901 510 Z Z).trans (ac 902 511 Z Z), _, Z, by rw [hi.2]; rfl, Z⟩
theorem xh {all : Bool} {k : Int} (hp : eN p = true) (htd : t8 p.body = t.d) (ht : PtOk p t) (hg : MQ h1 h2 47 [.c (.pt 0 0 0), eB all, eI k, .c (.fb 48 [.pt 0 0 0])] (vK p t g0) (aS (eB true) (u7 p t g))) : MQ h1 h2 26 [lc p, eB all, eI k] [] (aS (.tup [.c (.pt 0 0 0), eB true]) (u7 p t g)) := by
 refine MC.shift 500 Z (MC.keep [500,503,510,511] (bs := [iB (t9 p t) g 510 511 503, aX (gD t).nm, aJ g.paths, aK g.conds]) Z Z (jB 29 h1 h2 Tryz.func26 Z Z Z fun O hF => ?_))
 refine ag (jx O Z (ap ?_))
 refine au (Ent.freeze 3 (e' := [(3, _), (0, _), (1, _), (2, _)]) Z (.cons Z (.c (.box (cs := Pm.data p) Z (aC Z))) (fe [0,1,2] Z)) (.skip .nil)) ?_
 refine ap ?_
 refine j2 O Z Z (bn (js O Z (jf [11,7,6,0,1,2] Z (aj O [] (bin := []) Z Z Z Z (s3 (p := p) (t := t) h1 h2 hp htd ht) Z Z Z Z Z Z (B0 := 13000) Z Z (ap ?_)))))
 refine j4 O Z Z Z Z (js O Z (jf [9,8,7,6,0,1,2] Z (jn (ah (ag (j3 O Z Z Z (jf [17,8,7,6,0,1,2] Z (aZ Z (js O Z (aZ Z (js O Z (jf [19,17,8,7,6,0,1,2] Z (aZ Z (js O Z (jf [20,17,8,7,6,0,1,2] Z (aZ Z (js O Z (jf [21,20,17,8,7,6,0,2] Z (aZ Z (js O Z (jf [22,21,20,17,8,7,6,0] Z (aZ Z (js O Z (aZ Z (aa (l7 O Z Z Z Z Z) Z Z Z (jf [24,22,21,20,17,8,7,6,0] Z (aZ Z (aj O [13000,13001,13002,13003] (bin := [iB (t9 p t) g0 1 2 3, aJ [], aK [], aX (gD t).nm]) Z Z Z Z (hg) Z Z Z Z Z Z (B0 := 26000) Z Z (ap ?_)))))))))))))))))))))))))))))
 refine jf [25,17,8,7,6,0] Z (aZ Z (js O Z (aa (bi O Z Z Z Z Z) Z Z Z (jf [27,8,7,6,0] Z (jn (ae O Z Z (fun hc27 => ?_) (fun hc27 => ?_)))))))
 exact absurd hc27 (by decide)
 refine ak (ag (j3 O Z Z Z (jf [7,6,8,0] Z (jr ?_))))
 refine ⟨.inl Z, _, (((ac 13000 500 Z Z).trans (ac 13003 503 Z Z)).trans (ac 26010 510 Z Z)).trans (ac 26011 511 Z Z), _, Z, Z, Z⟩
theorem xi {all : Bool} {k : Int} (hp : eN p = true) (htd : t8 p.body = t.d) (ht : PtOk p t) (hg : MQ h1 h2 47 [.c (.pt 0 0 0), eB all, eI k, .c (.fb 48 [.pt 0 0 0])] (vK p t g0) (aS (eB false) (u7 p t g))) : MQ h1 h2 26 [lc p, eB all, eI k] [] (Plain (.tup [.c (.d .nilp), eB false])) := by
 refine MC.data (jB 29 h1 h2 Tryz.func26 Z Z Z fun O hF => ?_)
 refine ag (jx O Z (ap ?_))
 refine au (Ent.freeze 3 (e' := [(3, _), (0, _), (1, _), (2, _)]) Z (.cons Z (.c (.box (cs := Pm.data p) Z (aC Z))) (fe [0,1,2] Z)) (.skip .nil)) ?_
 refine ap ?_
 refine j2 O Z Z (bn (js O Z (jf [11,7,6,0,1,2] Z (aj O [] (bin := []) Z Z Z Z (s3 (p := p) (t := t) h1 h2 hp htd ht) Z Z Z Z Z Z (B0 := 13000) Z Z (ap ?_)))))
 refine j4 O Z Z Z Z (js O Z (jf [9,8,7,6,0,1,2] Z (jn (ah (ag (j3 O Z Z Z (jf [17,8,7,6,0,1,2] Z (aZ Z (js O Z (aZ Z (js O Z (jf [19,17,8,7,6,0,1,2] Z (aZ Z (js O Z (jf [20,17,8,7,6,0,1,2] Z (aZ Z (js O Z (jf [21,20,17,8,7,6,0,2] Z (aZ Z (js O Z (jf [22,21,20,17,8,7,6,0] Z (aZ Z (js O Z (aZ Z (aa (l7 O Z Z Z Z Z) Z Z Z (jf [24,22,21,20,17,8,7,6,0] Z (aZ Z (aj O [13000,13001,13002,13003] (bin := [iB (t9 p t) g0 1 2 3, aJ [], aK [], aX (gD t).nm]) Z Z Z Z (hg) Z Z Z Z Z Z (B0 := 26000) Z Z (ap ?_)))))))))))))))))))))))))))))
 refine jf [25,17,8,7,6,0] Z (aZ Z (js O Z (aa (bi O Z Z Z Z Z) Z Z Z (jf [27,8,7,6,0] Z (jn (ae O Z Z (fun hc27 => ?_) (fun hc27 => ?_)))))))
 refine ag (j2 O Z Z (jr ?_))
 refine ⟨.inl Z, _, av, _, Z, ?_⟩
 exact .tup (.cons (.c .d) (.cons (.c .d) .nil))
 exact absurd hc27 (by decide)
theorem xl (hP : MQ h1 h2 26 [lc p, eB true, eI 0] [] (aS (.tup [.c (.pt 0 0 0), eB true]) (u7 p t g))) : MQ h1 h2 8 [lc p] [] (Rows (.tup [.c (.rs 0 0 g.paths.length), eB true]) [aJ g.paths]) := by
 refine db (jB 18 h1 h2 Tryz.func8 Z Z Z fun O hF => ?_)
 refine ag (jx O Z (ap ?_))
 refine au (Ent.freeze 1 (e' := [(1, _), (0, _)]) Z (.cons Z (.c (.box (cs := Pm.data p) Z (aC Z))) (fe [0] Z)) (.skip .nil)) ?_
 refine ap ?_
 refine j2 O Z Z (bn (js O Z (jf [7,3,2,0] Z (aj O [] (bin := []) Z Z Z Z (hP) Z Z Z Z Z Z (B0 := 9000) Z Z (ap ?_)))))
 refine j4 O Z Z Z Z (js O Z (jf [5,4,3,2,0] Z (jn (ah (ag (j2 O Z Z (jf [12,4,3,2,0] Z (jn (ae O Z Z (fun hc12 => ?_) (fun hc12 => ?_))))))))))
 exact absurd hc12 (by decide)
 refine ak (ag (j4 O Z Z Z Z (j3 O Z Z Z (jf [3,2,0] Z (jr ?_)))))
 refine ⟨.inl Z, _, av, _, Z, [9010], by decide, Z, Z, Z⟩
theorem xm (hP : MQ h1 h2 26 [lc p, eB true, eI 0] [] (Plain (.tup [.c (.d .nilp), eB false]))) : MQ h1 h2 8 [lc p] [] (Rows (.tup [.c (.d .nils), eB false]) []) := by
 refine db (jB 18 h1 h2 Tryz.func8 Z Z Z fun O hF => ?_)
 refine ag (jx O Z (ap ?_))
 refine au (Ent.freeze 1 (e' := [(1, _), (0, _)]) Z (.cons Z (.c (.box (cs := Pm.data p) Z (aC Z))) (fe [0] Z)) (.skip .nil)) ?_
 refine ap ?_
 refine j2 O Z Z (bn (js O Z (jf [7,3,2,0] Z (ay O Z Z Z Z (hP) (af Z) Z Z Z Z (B0 := 9000) Z Z (j4 O Z Z Z Z (js O Z (jf [5,4,3,2,0] Z (jn (ah (ag (j2 O Z Z (jf [12,4,3,2,0] Z (jn (ae O Z Z (fun hc12 => ?_) (fun hc12 => ?_)))))))))))))))
 refine ag (j2 O Z Z (jr ?_))
 refine ⟨.inl Z, _, av, _, Z, [], by decide, Z, Z, Z⟩
 exact absurd hc12 (by decide)
end Go.Al
