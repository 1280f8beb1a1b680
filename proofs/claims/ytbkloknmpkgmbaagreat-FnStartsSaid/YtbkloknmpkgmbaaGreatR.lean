/- The program: its loops, the paths of a start, of all starts. -/
import Derived.Test.YtbkloknmpkgmbaaGreatC
import Derived.Test.YtbkloknmpkgmbaaGreatQ
set_option linter.unusedVariables false
set_option linter.unusedSimpArgs false
set_option maxRecDepth 10000
set_option maxHeartbeats 4000000
open Go.Proofs
namespace Go.Al
variable {L : Nat} (h1 : 4096 ≤ L) (h2 : L ≤ 1073741824)
structure Fd where
  lp : List Lp
  nm : List (Int × D)
def ft : Tr → List Fr → Fd → Fd
  | .node s a [x, y], r, c => if s.kind = 1 then ft y r (ft x (.st y :: r) c) else ft y r (ft x r c)
  | .node s a [x], r, c => ft x [.lp c.lp.length] ⟨c.lp ++ [⟨s, a.toNat, x, r⟩], eW c.nm a (.int .i64 (c.lp.length : Nat))⟩
  | _, _, c => c
abbrev gl (q : Lp) : D := Tr.d (.node q.s (q.a : Nat) [q.x])
abbrev zB (post bd : D) (c : Fd) (i j k m : Nat) : B := .box [.d post, .rs i 0 (c.lp.length + 1), .d .nils, .d .nils, .d (.bool false), .d bd, .rs j 0 c.lp.length, .rs k 0 c.lp.length, .mp m]
abbrev qX (pre : List Tm) (c : Fd) : B := .row false 1 ((pre :: c.lp.map (·.s.facts)).map fun f => [dP f])
abbrev q7 (c : Fd) : B := .row false 1 (c.lp.map fun q => [gl q])
abbrev q9 (c : Fd) : B := .row false 1 ((c.lp.map (·.r)).map fun r => [fD r])
abbrev zH (post bd : D) (pre : List Tm) (c : Fd) : List (Nat × B) := [(0, zB post bd c 1 2 3 4), (1, qX pre c), (2, q7 c), (3, q9 c), (4, aO c.nm)]
abbrev zO (post bd : D) (pre : List Tm) (c : Fd) : List (Nat × B) := [(0, zB post bd c 10 11 12 4), (4, aO c.nm), (10, qX pre c), (11, q7 c), (12, q9 c)]
abbrev kQ (L : Nat) (post bd : D) (pre : List Tm) (t r : D) (c c' : Fd) : Prop := MC Tryz.prog L 90 [.c (.pt 0 0 0), .c (.d t), .c (.d r)] (zH post bd pre c) (aV (.tup []) (zO post bd pre c'))
theorem t8 {L : Nat} {post bd : D} {pre : List Tm} {t d1 d2 d3 : D} {c c' : Fd} (h : kQ L post bd pre t (.ptr [d1, d2, d3] 0) c c') : MC Tryz.prog L 90 [.c (.pt 0 0 0), .c (.d t), .c (.pt 5 0 0)] (zH post bd pre c ++ [(5, s5 d1 d2 d3)]) (aV (.tup []) (zO post bd pre c')) :=
  MC.freeze 5 Z (.cons (.keep Z) (.cons (.keep Z) (.cons (.c (.box Z (aI Z))) .nil))) (.cons Z (.box (.cons (.keep Z) (.cons (.keep Z) (.cons (.keep Z) (.cons (.keep Z) (.cons (.keep Z) (.cons (.keep Z) (.cons (.keep Z) (.cons (.keep Z) (.cons (.keep Z) .nil)))))))))) (.cons Z .row (.cons Z .row (.cons Z .row (.cons Z .map (.skip .nil)))))) Z h
theorem o0 {L : Nat} (h1 : 4096 ≤ L) (h2 : L ≤ 1073741824) {post bd : D} {pre : List Tm} {s : Sm} {r : List Fr} {c c1 c2 : Fd} {a : Int} (hk : s.kind ≠ 1 ∧ s.kind ≠ 7 ∧ s.kind ≠ 8) : kQ L post bd pre (Tr.d (.node s a [])) (fD r) c c := by
 refine MC.shift 500 Z (MC.keep [500,504,510,511,512] (bs := [zB post bd c 510 511 512 504, aO c.nm, qX pre c, q7 c, q9 c]) Z Z (jH 124 [500,501,502,503,504] h1 h2 Tryz.func90 Z Z Z Z fun O hF => ?_))
 refine bQ ?_
 refine ag (j4 O Z Z Z Z (js O Z (jf [11,0,1,2] Z (jn (aw (ag (j2 O Z Z (jn (af O Z Z (fun hc12 => ?_) (fun hc12 => ?_))))))))))
 exact absurd (bp hc12) (by omega)
 refine ag (j2 O Z Z (jf [40,13,11,0,1,2] Z (jn (af O Z Z (fun hc40 => ?_) (fun hc40 => ?_)))))
 exact absurd (bp hc40) (by omega)
 refine ag (j2 O Z Z (jf [60,13,11,0,1,2] Z (jn (af O Z Z (fun hc60 => ?_) (fun hc60 => ?_)))))
 exact absurd (bp hc60) (by omega)
 refine an ?_
 show _ ∧ _
 refine ⟨.inr Z, _, ((ae 501 510 Z Z).trans (ae 502 511 Z Z)).trans (ae 503 512 Z Z), _, Z, Z, Z⟩
theorem qI {L : Nat} (h1 : 4096 ≤ L) (h2 : L ≤ 1073741824) {post bd : D} {pre : List Tm} {s : Sm} {r : List Fr} {c c1 c2 : Fd} {a : Int} {x y : Tr} (hk : s.kind = 1) (ih1 : kQ L post bd pre x.d (fD (.st y :: r)) c c1) (ih2 : kQ L post bd pre y.d (fD r) c1 c2) : kQ L post bd pre (Tr.d (.node s a [x, y])) (fD r) c c2 := by
 refine MC.shift 500 Z (MC.keep [500,504,510,511,512] (bs := [zB post bd c2 510 511 512 504, aO c2.nm, qX pre c2, q7 c2, q9 c2]) Z Z (jH 124 [500,501,502,503,504] h1 h2 Tryz.func90 Z Z Z Z fun O hF => ?_))
 refine bQ ?_
 refine ag (j4 O Z Z Z Z (js O Z (jf [11,0,1,2] Z (jn (aw (ag (j2 O Z Z (jn (af O Z Z (fun hc12 => ?_) (fun hc12 => ?_))))))))))
 refine ah (jw [13,11,0,1,2] Z (jG O [_,_,_,_,_,_,_,_,_,_,_,_,_,_,_,_,_] [pn [] 0 1, pn [] 0 1, pn [1] 0 1, pn [1,2] 0 1, pn [1,2,3] 0 1, pn (rg 1 4) 0 1, pn (rg 1 5) 0 1, pn [] 0 0, pn [7] 0 0, pn [7,8] 0 0, pn [7,8,9] 0 0, pn (rg 7 4) 0 0, pn (rg 7 5) 0 0, pn [] 0 0, pn (rg 7 7) 0 0, pe (rg 7 8) 0, pe (rg 0 16) 1] [15,16] [_,_,_] [[], [501,502,503,29]] (ai (ka O Z Z (kw O Z Z)) (ai (ka O Z Z (kw O Z Z)) (ai (ka O Z Z (kw O Z Z)) (ai (ka O Z Z (kw O Z Z)) (ai (ka O Z Z (kw O Z Z)) (ai (ai (ai (bD O Z Z Z Z Z Z Z Z (by simp [Trs.d]) Z) Z) (ai (bD O Z Z Z Z Z Z Z Z (by simp [Trs.d]) Z) Z)) (ai (ka O Z Z (kw O Z Z)) (ka O Z Z (ka O Z Z (ka O Z Z (ka O Z Z (ai (ai (bD O Z Z Z Z Z Z Z Z (by simp [Trs.d]) Z) Z) (ka O Z Z (ka O Z Z (ka O Z Z (ai (ai (aH (Eff.box O Z Z Z Z Z Z Z Z)) Z) (ai (ai (bO O [500,501,502,503,504,29] [501,502,503,29] (bin := [zB post bd c 1 2 3 4, qX pre c, q7 c, q9 c, aO c.nm, s5 y.d (.int .i64 0) (fD r)]) Z Z Z Z (t8 ih1) Z Z Z Z Z (B0 := 31000) Z Z Z Z Z Z Z) Z) trivial))))))))))))))))) ?_))
 refine jw [13,11,0,1,2] Z (bQ ?_)
 refine am (j4 O Z Z Z Z (js O Z (aa (bD O Z Z Z Z Z Z Z Z (by simp [Trs.d]) Z) Z Z Z (j2 O Z Z (jf [38,37,31,13,11,0,1,2] Z (aq O [500,31010,31011,31012,504] (bin := [zB post bd c1 1 2 3 4, qX pre c1, q7 c1, q9 c1, aO c1.nm]) Z Z Z Z (ih2) Z Z Z Z Z Z (B0 := 40000) Z Z (av ?_)))))))
 refine jf [13,11,0,1,2] Z (jn ?_)
 show _ ∧ _
 refine ⟨.inr Z, _, ((ae 40010 510 Z Z).trans (ae 40011 511 Z Z)).trans (ae 40012 512 Z Z), _, Z, Z, Z⟩
 exact absurd (ch hc12) (by omega)
theorem sO {L : Nat} (h1 : 4096 ≤ L) (h2 : L ≤ 1073741824) {post bd : D} {pre : List Tm} {s : Sm} {r : List Fr} {c c1 c2 : Fd} {a : Int} {x y : Tr} (hk : s.kind = 7) (ih1 : kQ L post bd pre x.d (fD r) c c1) (ih2 : kQ L post bd pre y.d (fD r) c1 c2) : kQ L post bd pre (Tr.d (.node s a [x, y])) (fD r) c c2 := by
 refine MC.shift 500 Z (MC.keep [500,504,510,511,512] (bs := [zB post bd c2 510 511 512 504, aO c2.nm, qX pre c2, q7 c2, q9 c2]) Z Z (jH 124 [500,501,502,503,504] h1 h2 Tryz.func90 Z Z Z Z fun O hF => ?_))
 refine bQ ?_
 refine ag (j4 O Z Z Z Z (js O Z (jf [11,0,1,2] Z (jn (aw (ag (j2 O Z Z (jn (af O Z Z (fun hc12 => ?_) (fun hc12 => ?_))))))))))
 exact absurd (bp hc12) (by omega)
 refine ag (j2 O Z Z (jf [40,13,11,0,1,2] Z (jn (af O Z Z (fun hc40 => ?_) (fun hc40 => ?_)))))
 refine ag (j4 O Z Z Z Z (js O Z (aa (bD O Z Z Z Z Z Z Z Z (by simp [Trs.d]) Z) Z Z Z (j2 O Z Z (jf [49,48,42,13,11,0,1,2] Z (aq O [500,501,502,503,504] (bin := [zB post bd c 1 2 3 4, qX pre c, q7 c, q9 c, aO c.nm]) Z Z Z Z (ih1) Z Z Z Z Z Z (B0 := 51000) Z Z (av ?_)))))))
 refine jf [13,11,0,1,2] Z (jn (am (j4 O Z Z Z Z (js O Z (aa (bD O Z Z Z Z Z Z Z Z (by simp [Trs.d]) Z) Z Z Z (j2 O Z Z (jf [58,57,51,13,11,0,1,2] Z (aq O [500,51010,51011,51012,504] (bin := [zB post bd c1 1 2 3 4, qX pre c1, q7 c1, q9 c1, aO c1.nm]) Z Z Z Z (ih2) Z Z Z Z Z Z (B0 := 60000) Z Z (av ?_)))))))))
 refine jf [13,11,0,1,2] Z (jn ?_)
 show _ ∧ _
 refine ⟨.inr Z, _, ((ae 60010 510 Z Z).trans (ae 60011 511 Z Z)).trans (ae 60012 512 Z Z), _, Z, Z, Z⟩
 exact absurd (ch hc40) (by omega)
theorem oZ {L : Nat} (h1 : 4096 ≤ L) (h2 : L ≤ 1073741824) {post bd : D} {pre : List Tm} {s : Sm} {r : List Fr} {c c1 c2 : Fd} {k : Nat} {x : Tr} (hk : s.kind = 8) (hl : c.lp.length ≤ 1000) (ih : kQ L post bd pre x.d (fD [.lp c.lp.length]) (⟨c.lp ++ [⟨s, k, x, r⟩], eW c.nm (k : Nat) (.int .i64 (c.lp.length : Nat))⟩ : Fd) c2) : kQ L post bd pre (Tr.d (.node s (k : Nat) [x])) (fD r) c c2 := by
 refine MC.shift 500 Z (MC.keep [500,504,510,511,512] (bs := [zB post bd c2 510 511 512 504, aO c2.nm, qX pre c2, q7 c2, q9 c2]) Z Z (jH 124 [500,501,502,503,504] h1 h2 Tryz.func90 Z Z Z Z fun O hF => ?_))
 refine bQ ?_
 refine ag (j4 O Z Z Z Z (js O Z (jf [11,0,1,2] Z (jn (aw (ag (j2 O Z Z (jn (af O Z Z (fun hc12 => ?_) (fun hc12 => ?_))))))))))
 exact absurd (bp hc12) (by omega)
 refine ag (j2 O Z Z (jf [40,13,11,0,1,2] Z (jn (af O Z Z (fun hc40 => ?_) (fun hc40 => ?_)))))
 exact absurd (bp hc40) (by omega)
 refine ag (j2 O Z Z (jf [60,13,11,0,1,2] Z (jn (af O Z Z (fun hc60 => ?_) (fun hc60 => ?_)))))
 refine ag (j4 O Z Z Z Z (dI O Z Z (jf [66,13,11,0,1,2] Z (aA O Z Z Z Z (wM (n := c.lp.length) h1 h2) (ac Z) Z Z Z Z Z (B0 := 68000) Z (js O Z (jf [6,13,11,0,1,2] Z (jn (ah (gv O [_,_,_,_,_,_,_,_,_,_] [pn [] 0 0, pn [0] 0 0, pn [0,1] 0 0, pn [0,1,2] 0 0, pn [] 0 0, pn [4] 0 0, pn [4,5] 0 0, pn [4,5,6] 0 0, pn [] 0 0, pe (rg 0 9) 0] [9] [_,_] (kc O Z (kc O Z (kc O Z (kc O Z (kc O Z (kc O Z (kc O Z (kc O Z (kc O Z (ai (Eff.mapUpdate (kt := 2) (et := 2) (q := .i64) (es := c.nm) (k := (k : Nat)) (v := .int .i64 (c.lp.length : Nat)) O Z Z Z Z wj uK Z Z Z Z Z Z) trivial)))))))))) ?_)))))))))
 refine jw [6,13,11,0,1,2] Z (bQ ?_)
 refine ag (j4 O Z Z Z Z (j2 O Z Z (jf [82,81,77,6,13,11,0,1,2] Z (AOps.heap (bn O Z Z Z Z Z Z Z Z Z Z Z) Z (av ?_)))))
 refine jf [83,81,77,6,13,11,0,1,2] Z (AOps.heap (bh (own := false) (xs := c.lp.map fun q => [gl q]) (ys := [[gl (⟨s, k, x, r⟩ : Lp)]]) (zs := (c.lp ++ [(⟨s, k, x, r⟩ : Lp)]).map fun q => [gl q]) (n := (c.lp ++ [(⟨s, k, x, r⟩ : Lp)]).length) O Z Z Z Z Z Z Z Z Z Z Z Z Z Z Z Z (.row Z (cY _).symm) (.whole Z Z (.inr ⟨Z, Z⟩)) (by simp) Z (by simp; omega) (by simp; omega) (by simp) (by simp)) Z (av ?_))
 refine av ?_
 refine j2 O Z Z (jf [86,84,6,13,11,0,1,2] Z (jo O Z (av ?_)))
 refine jf [6,13,11,0,1,2] Z (bf (j4 O Z Z Z Z (j2 O Z Z (jf [92,91,87,6,13,11,0,1,2] Z (AOps.heap (bn O Z Z Z Z Z Z Z Z Z Z Z) Z (av ?_))))))
 refine jf [93,91,87,6,13,11,0,1,2] Z (AOps.heap (bh (own := false) (xs := (c.lp.map (·.r)).map fun r => [fD r]) (ys := [[fD r]]) (zs := ((c.lp ++ [(⟨s, k, x, r⟩ : Lp)]).map (·.r)).map fun r => [fD r]) (n := (c.lp ++ [(⟨s, k, x, r⟩ : Lp)]).length) O Z Z Z Z Z Z Z Z Z Z Z Z Z Z Z Z (.row Z (by simp)) (.whole Z Z (.inr ⟨Z, Z⟩)) (by simp) Z (by simp; omega) (by simp; omega) (by simp) (by simp)) Z (av ?_))
 refine av ?_
 refine j2 O Z Z (jf [96,94,6,13,11,0,1,2] Z (jo O Z (av ?_)))
 refine jf [6,13,11,0,1,2] Z (jn (ah (jG O [_,_,_,_,_,_,_,_,_,_,_,_,_,_,_,_,_] [pn [] 0 2, pn [] 0 1, pn [1] 0 1, pn [1,2] 0 1, pn [1,2,3] 0 1, pn (rg 1 4) 0 1, pn [] 0 0, pn [6] 0 0, pn [6,7] 0 0, pn [6,7,8] 0 0, pn (rg 6 4) 0 0, pe (rg 6 5) 0, pe (rg 1 11) 1, pn (rg 0 13) 2 2, pn (rg 0 14) 2 2, pn (rg 0 15) 2 2, pe (rg 0 16) 2] [11,12,16] [_,_,_,_] [[], [501], []] (ai (ka O Z Z (ka O Z Z (kw O Z Z))) (ai (ka O Z Z (kw O Z Z)) (ai (ka O Z Z (kw O Z Z)) (ai (ka O Z Z (kw O Z Z)) (ai (ka O Z Z (kw O Z Z)) (ai (ka O Z Z (kw O Z Z)) (ka O Z Z (ka O Z Z (ka O Z Z (ka O Z Z (ka O Z Z (ai (ai (aH (du O Z Z Z Z Z Z Z Z Z Z Z Z Z Z)) Z) (ai (ai (ci (own := false) (xs := (pre :: c.lp.map (·.s.facts)).map fun f => [dP f]) (ys := [[dP s.facts]]) (zs := (pre :: (c.lp ++ [(⟨s, k, x, r⟩ : Lp)]).map (·.s.facts)).map fun f => [dP f]) (n := (c.lp ++ [(⟨s, k, x, r⟩ : Lp)]).length + 1) O Z Z Z Z Z Z Z Z Z Z Z Z Z Z Z Z (.row Z (by simp)) (.whole Z Z (.inr ⟨Z, Z⟩)) (by simp) Z (by simp; omega) (by simp; omega) (by simp) (by simp) Z) Z) (ka O Z Z (ka O Z Z (ka O Z Z (ai (ai (aH (eS O Z Z Z)) Z) trivial))))))))))))))))) ?_)))
 refine jw [6,13,11,0,1,2] Z (bQ ?_)
 refine am (j4 O Z Z Z Z (js O Z (aa (bD O Z Z Z Z Z Z Z Z (by simp [Trs.d]) Z) Z Z Z (j3 O Z Z Z (jf [121,119,113,6,13,11,0,1,2] Z (jx O Z (av ?_)))))))
 refine jf [122,119,113,6,13,11,0,1,2] Z (aq O [500,109,84,94,504,122] (bin := [zB post bd (⟨c.lp ++ [⟨s, k, x, r⟩], eW c.nm (k : Nat) (.int .i64 (c.lp.length : Nat))⟩ : Fd) 1 2 3 4, qX pre (⟨c.lp ++ [⟨s, k, x, r⟩], eW c.nm (k : Nat) (.int .i64 (c.lp.length : Nat))⟩ : Fd), q7 (⟨c.lp ++ [⟨s, k, x, r⟩], eW c.nm (k : Nat) (.int .i64 (c.lp.length : Nat))⟩ : Fd), q9 (⟨c.lp ++ [⟨s, k, x, r⟩], eW c.nm (k : Nat) (.int .i64 (c.lp.length : Nat))⟩ : Fd), aO (⟨c.lp ++ [⟨s, k, x, r⟩], eW c.nm (k : Nat) (.int .i64 (c.lp.length : Nat))⟩ : Fd).nm, s5 .nilp (.int .i64 (c.lp.length : Nat)) .nilp]) Z Z Z Z (t8 ih) Z Z Z Z Z Z (B0 := 124000) Z Z (av ?_))
 refine jf [6,13,11,0,1,2] Z (jn ?_)
 show _ ∧ _
 refine ⟨.inr Z, _, ((ae 124010 510 Z Z).trans (ae 124011 511 Z Z)).trans (ae 124012 512 Z Z), _, Z, Z, Z⟩
 exact absurd (ch hc60) (by omega)
theorem lV {L : Nat} (h1 : 4096 ≤ L) (h2 : L ≤ 1073741824) {b : List Sm} {post bd : D} {pre : List Tm} : ∀ {t : Tr} {k k' : Nat}, bM b k = some (t, k') → ∀ {r : List Fr} {c : Fd}, c.lp.length + t.nodes ≤ 1000 → kQ L post bd pre t.d (fD r) c (ft t r c) ∧ (ft t r c).lp.length ≤ c.lp.length + t.nodes
 | .node s a [x, y], k, k', h, r, c, hc => by
  obtain ⟨e1, rfl, e3, e4, e5⟩ := bR h
  obtain rfl := cr h
  obtain ⟨k1, i1, i2⟩ := bN e4
  obtain ⟨k2, i3, i4⟩ := bN i2
  have hn : Tr.nodes (.node (b.getD k default) (k : Nat) [x, y]) = 1 + (x.nodes + y.nodes) := by simp [Tr.nodes, Trs.nodes]
  rw [hn] at hc ⊢
  by_cases hk : (b.getD k default).kind = 1
  rw [ft, if_pos hk]
  obtain ⟨a1, a2⟩ := lV h1 h2 i1 (r := .st y :: r) (c := c) (by omega) (post := post) (bd := bd) (pre := pre)
  obtain ⟨b1, b2⟩ := lV h1 h2 i3 (r := r) (c := ft x (.st y :: r) c) (by omega) (post := post) (bd := bd) (pre := pre)
  exact ⟨qI h1 h2 hk a1 b1, by omega⟩
  rw [ft, if_neg hk]
  obtain ⟨a1, a2⟩ := lV h1 h2 i1 (r := r) (c := c) (by omega) (post := post) (bd := bd) (pre := pre)
  obtain ⟨b1, b2⟩ := lV h1 h2 i3 (r := r) (c := ft x r c) (by omega) (post := post) (bd := bd) (pre := pre)
  have hk7 : (b.getD k default).kind = 7 := by
   have h3 : ba (b.getD k default).kind = 2 := e5.symm
   unfold ba at h3
   split at h3
   omega
   split at h3
   assumption
   split at h3 <;> omega
  exact ⟨sO h1 h2 hk7 a1 b1, by omega⟩
 | .node s a [x], k, k', h, r, c, hc => by
  obtain ⟨e1, rfl, e3, e4, e5⟩ := bR h
  obtain rfl := cr h
  obtain ⟨k1, i1, i2⟩ := bN e4
  have hk8 : (b.getD k default).kind = 8 := gM e5.symm
  have hn : Tr.nodes (.node (b.getD k default) (k : Nat) [x]) = 1 + x.nodes := by simp [Tr.nodes, Trs.nodes]
  rw [hn] at hc ⊢
  rw [ft, Int.toNat_natCast]
  obtain ⟨a1, a2⟩ := lV h1 h2 i1 (r := [.lp c.lp.length]) (c := ⟨c.lp ++ [⟨b.getD k default, k, x, r⟩], eW c.nm (k : Nat) (.int .i64 (c.lp.length : Nat))⟩) (by simp only [dk, iw]; omega) (post := post) (bd := bd) (pre := pre)
  refine ⟨oZ (c1 := c) h1 h2 hk8 (by omega) a1, ?_⟩
  simp only [dk, iw] at a2; omega
 | .node s a [], k, k', h, r, c, hc => by
  obtain ⟨e1, rfl, e3, e4, e5⟩ := bR h
  obtain rfl := cr h
  have hne := fF (e5.symm : ba (b.getD k default).kind = 0)
  have e : ft (.node (b.getD k default) (k : Nat) []) r c = c := by rw [ft] <;> simp
  rw [e]
  exact ⟨o0 (c1 := c) (c2 := c) h1 h2 ⟨hne.1, hne.2.1, hne.2.2⟩, Nat.le_add_right _ _⟩
 | .node s a (x :: y :: z :: ks), k, k', h, r, c, hc => by
  obtain ⟨e1, rfl, e3, e4, e5⟩ := bR h
  have h2 := (cu (b.getD k default).kind).2
  simp only [iV] at e5
  omega
theorem nV {es : List (Int × D)} {k j : Int} {v : D} : i6 (eW es k v) j = if j = k then some v else i6 es j := by
 induction es with
 | nil => simp only [eW, i6]
 | cons e es ih =>
  obtain ⟨i, y⟩ := e
  by_cases hk : k = i
  subst hk
  simp only [eW, if_true, i6]
  by_cases h : j = k <;> simp [h]
  simp only [eW, if_neg hk, i6, ih]
  by_cases h : j = i
  subst h; rw [if_pos rfl, if_pos rfl, if_neg (Ne.symm hk)]
  rw [if_neg h, if_neg h]
structure FdOk (b : List Sm) (k : Nat) (c : Fd) : Prop where
  len : c.lp.length = aT b k
  at_ : ∀ q ∈ c.lp, q.a < k
  nm : ∀ q ∈ c.lp, i6 c.nm (q.a : Nat) = some (.int .i64 (aT b q.a : Nat))
theorem FdOk.next {b : List Sm} {k : Nat} {c : Fd} (h : FdOk b k c) (h8 : ¬ (b.getD k default).kind = 8) : FdOk b (k + 1) c :=
  ⟨by rw [h.len, aT, if_neg h8]; rfl, fun q hq => Nat.lt_succ_of_lt (h.at_ q hq), h.nm⟩
theorem jN {b : List Sm} : ∀ {t : Tr} {k k' : Nat}, bM b k = some (t, k') → ∀ {r : List Fr} {c : Fd}, FdOk b k c → FdOk b k' (ft t r c) ∧ (ft t r c).lp = c.lp ++ aU b t r
  | .node s a [x, y], k, k', h, r, c, hc => by
    obtain ⟨e1, rfl, e3, e4, e5⟩ := bR h
    obtain rfl := cr h
    obtain ⟨k1, i1, i2⟩ := bN e4
    obtain ⟨k2, i3, i4⟩ := bN i2
    obtain rfl := de i4
    have h8 : ¬ (b.getD k default).kind = 8 := by
      intro h8; rw [h8] at e5; revert e5; simp only [iV, List.length_nil]; decide
    by_cases hk : (b.getD k default).kind = 1
    · rw [ft, if_pos hk, dz, if_pos hk]
      obtain ⟨a1, a2⟩ := jN i1 (r := .st y :: r) (hc.next h8)
      obtain ⟨b1, b2⟩ := jN i3 (r := r) a1
      exact ⟨b1, by rw [b2, a2, eV]⟩
    · rw [ft, if_neg hk, dz, if_neg hk]
      obtain ⟨a1, a2⟩ := jN i1 (r := r) (hc.next h8)
      obtain ⟨b1, b2⟩ := jN i3 (r := r) a1
      exact ⟨b1, by rw [b2, a2, eV]⟩
  | .node s a [x], k, k', h, r, c, hc => by
    obtain ⟨e1, rfl, e3, e4, e5⟩ := bR h
    obtain rfl := cr h
    obtain ⟨k1, i1, i2⟩ := bN e4
    obtain rfl := de i2
    have hk8 : (b.getD k default).kind = 8 := gM e5.symm
    rw [ft, il, Int.toNat_natCast]
    have hlen := hc.len
    have hn : FdOk b (k + 1) ⟨c.lp ++ [⟨b.getD k default, k, x, r⟩], eW c.nm (k : Nat) (.int .i64 (c.lp.length : Nat))⟩ := by
      refine ⟨?_, fun q hq => ?_, fun q hq => ?_⟩
      · rw [dk, iw, hlen, aT, if_pos hk8]
      · rcases List.mem_append.1 hq with hq | hq
        · exact Nat.lt_succ_of_lt (hc.at_ q hq)
        · rw [List.mem_singleton.1 hq]; exact Nat.lt_succ_self k
      · rcases List.mem_append.1 hq with hq | hq
        · have := hc.at_ q hq
          rw [nV, if_neg (by omega)]; exact hc.nm q hq
        · rw [List.mem_singleton.1 hq, nV, if_pos Z, hlen]
    obtain ⟨a1, a2⟩ := jN i1 (r := [.lp c.lp.length]) hn
    refine ⟨a1, ?_⟩
    rw [a2, eV, hlen]; rfl
  | .node s a [], k, k', h, r, c, hc => by
    obtain ⟨e1, rfl, e3, e4, e5⟩ := bR h
    obtain rfl := cr h
    obtain rfl := de e4
    have hne := fF (e5.symm : ba (b.getD k default).kind = 0)
    have e : ft (.node (b.getD k default) (k : Nat) []) r c = c := by rw [ft] <;> simp
    rw [e, fY, List.append_nil]
    exact ⟨hc.next hne.2.2, Z⟩
  | .node s a (x :: y :: z :: ks), k, k', h, r, c, hc => by
    obtain ⟨e1, rfl, e3, e4, e5⟩ := bR h
    have h2 := (cu (b.getD k default).kind).2
    simp only [iV] at e5
    omega
theorem sD {b : List Sm} {i j : Nat} (hi : (b.getD i default).kind = 8) (hj : (b.getD j default).kind = 8) (h : aT b i = aT b j) : i = j := by
 have key : ∀ {i j : Nat}, (b.getD i default).kind = 8 → aT b i = aT b j → ¬ i < j := fun {i j} hi h hlt => by
  have h1 := eR (b := b) (show i + 1 ≤ j by omega)
  have h2 : aT b (i + 1) = aT b i + 1 := by rw [aT, if_pos hi]
  omega
 have h1 := key hi h
 have h2 := key hj h.symm
 omega
def cN (t : Tr) : Fd := ft t [] ⟨[], []⟩
theorem i7 {b : List Sm} {t : Tr} (hT : bM b 0 = some (t, b.length)) : FdOk b b.length (cN t) ∧ (cN t).lp = aU b t [] := by
 have h := jN hT (r := []) (c := ⟨[], []⟩) ⟨rfl, fun q hq => (by cases hq), fun q hq => (by cases hq)⟩
 exact ⟨h.1, h.2.trans (List.nil_append _)⟩
theorem t5 {b : List Sm} {t : Tr} (hT : bM b 0 = some (t, b.length)) {k : Nat} (hk : k < b.length) (h8 : (b.getD k default).kind = 8) : aT b k < (aU b t []).length ∧ ((aU b t []).getD (aT b k) default).a = k ∧ ((aU b t []).getD (aT b k) default).s = b.getD k default ∧ (aU b t []).getD (aT b k) default ∈ aU b t [] := by
 have h1 : aT b (k + 1) = aT b k + 1 := by rw [aT, if_pos h8]
 have h2 := eR (b := b) (show k + 1 ≤ b.length by omega)
 obtain ⟨hm, ha⟩ := jc hT (n := aT b k) (by omega)
 have hat := (qZ hT (r := [])).at_ _ hm
 have he := sD hat.2.2.1 h8 ha
 have hl := (i7 hT).1.len
 rw [(i7 hT).2] at hl
 exact ⟨by omega, he, by rw [hat.2.2.2, he], hm⟩
theorem xl {b : List Sm} {t : Tr} {pre post : List Tm} (hT : bM b 0 = some (t, b.length)) : PcOk (nn b post) b (pre :: (cN t).lp.map (·.s.facts)) (cN t).nm := by
 refine ⟨fun k hk h8 => ?_, fun k hk h8 => ?_⟩
 obtain ⟨h1, h2, h3, h4⟩ := t5 hT hk h8
 rw [(i7 hT).2]
 refine ⟨by simp; exact h1, ?_⟩
 rw [List.getD_cons_succ, ← h3]
 simp [List.getD_eq_getElem?_getD, h1]
 obtain ⟨h1, h2, h3, h4⟩ := t5 hT hk h8
 have := (i7 hT).1.nm _ (by rw [(i7 hT).2]; exact h4)
 rw [h2] at this; exact this
theorem xr {z : List Tm} (hz : z = []) : MQ h1 h2 152 [b0 z] [] (Rows (.c (.rs 0 0 0)) [aG []]) := by
 refine cw (jB 8 h1 h2 Tryz.func152 Z Z Z fun O hF => ?_)
 subst hz
 refine ag (js O Z (jn (ah (ag (js O Z (pA O Z Z Z Z Z Z Z Z Z Z (fun b => ?_)))))))
 refine jn (af O Z Z (fun hc4 => ?_) (fun hc4 => ?_))
 refine ag (js O Z (jr ?_))
 refine ⟨.inl Z, _, (dF 2 900 2 false Z Z).trans (Ent.to (e' := [(2, _)]) ⟨Z, trivial⟩ Z), _, Z, [900], by decide, Z, Z, Z⟩
 refine an (ag (AOps.heap (bC O Z Z Z) Z (js O Z (aj (ck 5 Z) (AOps.heap (bh (own := false) (zs := []) (n := 0) O Z Z Z Z Z Z Z Z Z Z Z Z Z Z Z Z (.row Z Z) (.slc (.inl Z)) (by simp) Z (by simp) (by simp) Z Z) Z (js O Z (jr ?_)))))))
 refine ⟨.inl Z, _, ar, _, Z, [7], by decide, Z, Z, Z⟩
theorem xv {L : Nat} (h1 : 4096 ≤ L) (h2 : L ≤ 1073741824) {ts : List Tm} (hl : ts.length ≤ 1000) : MC Tryz.prog L 152 [b0 ts] [] (Rows (.c (.rs 0 0 ts.length)) [aG ts]) := by
 cases ts with
 | nil => exact xr h1 h2 Z
 | cons c r => exact yU h1 h2 hl
variable {E : Pe} {SS : List (List Tm)} {bd lo : D} {nm : List (Int × D)} {g : Gs} {f : List Tm}
theorem xW {be : D} {n : Nat} (hn : n < SS.length) (hsl : SS.length ≤ 1000) (hf : SS.getD n default = f) (hl : f.length ≤ 1000) : MQ h1 h2 111 [.c (.pt 0 0 0), eI ((n : Int) - 1)] [(0, iB (bq E SS bd lo be nm) g 1 2 3), (1, aB g.paths), (2, aD g.conds), (3, aO nm)] (aV (wA ((n : Int) - 1) (w0 f) 4 5 6) [(0, iB (bq E SS bd lo be nm) g 1 2 3), (1, aB g.paths), (2, aD g.conds), (3, aO nm), (4, aG (mB 4)), (5, aG f), (6, aZ [])]) := by
 refine MC.shift 500 Z (MC.keep [500,501,502,503,504,505,506] (bs := [iB (bq E SS bd lo be nm) g 501 502 503, aB g.paths, aD g.conds, aO nm, aG (mB 4), aG f, aZ []]) Z Z (jH 30 [500,501,502,503] h1 h2 Tryz.func111 Z Z Z Z fun O hF => ?_))
 refine bQ ?_
 refine ag (jl O Z (av ?_))
 refine bf (j4 O Z Z Z Z (j2 O Z Z (aa ((vF O Z).cast (v' := eI (n : Nat)) (congrArg eI (by omega))) Z Z Z (aa ((aR O Z Z Z Z Z Z Z Z (c5 hn)).cast (v' := ptr [dP f]) (by rw [hf])) Z Z Z (js O Z (jf [15,7,4] Z (iU O (B0 := 17000) Z Z Z Z (xv (ts := f) h1 h2 hl) (ac Z) Z Z Z Z Z (av ?_))))))))
 refine js O Z (jf [17,4] Z (jl O Z (av ?_)))
 refine jo O Z (av ?_)
 refine jn (ah (ag (js O Z (jn (aw (aE (X := Nat) (fun i => ⟨[(4, .c (.pt 4 0 0)), (5, .c (.pt 5 0 0)), (18, eI i)], [(4, .box [.d (.int .i64 0), .d .nils, .d .nils, .d .nils, .d .nils, .d (.int .i64 0)]), (5, .box [.d (.int .i64 ((n : Int) - 1)), .rs 904 0 i, .d .nils, .rs 905 0 f.length, .rs 906 0 0, .d (.int .i64 4)]), (500, iB (bq E SS bd lo be nm) g 501 502 503), (501, aB g.paths), (502, aD g.conds), (503, aO nm), (904, aG (mB i)), (905, aG f), (906, aZ [])]⟩) (fun i => i ≤ 4) (fun i => 4 - i) 0 (((cM 5 904 2 false 1 Z Z Z).trans (cM 5 906 1 true 4 Z Z Z)).trans (((au [4,5,500,501,502,503,904,17000,906] (e' := [(4, _), (5, _), (18, _)]) Z Z ⟨Z, Z, Z, trivial⟩ Z).trans (ae 17000 905 Z Z)).trans (Ent.to ⟨Z, Z, Z, trivial⟩ Z))) ?_ (fun i hi => ?_)))))))
 exact dm _
 have hvl := gd (i := i)
 refine ag (js O Z (jn (ah (af O Z Z (fun hc19 => ?_) (fun hc19 => ?_)))))
 refine an (ah (aw (ag (j2 O Z Z (jn (jG O [_,_,_,_,_,_,_,_] [pn [] 0 2, pn [0] 0 2, pn [] 0 0, pe [2] 0, pe [2,3] 1, pe (rg 0 5) 2, pn (rg 0 6) 3 3, pe (rg 0 7) 3] [3,4,5,7] [_,_,_,_,_] [[], [], [904], []] (ai (ka O Z Z (ka O Z Z (kw O Z Z))) (ai (ka O Z Z (ka O Z Z (kw O Z Z))) (ka O Z Z (ai (ai (aH (bH O (B0 := 25000) Z Z Z Z (uh (k := i) h1 h2 (by have := bp hc19; omega)) (ac Z) Z Z Z Z Z)) Z) (ai (ai (aH (du O Z Z Z Z Z Z Z Z Z Z Z Z Z Z)) Z) (ai (ai (ci (own := false) (xs := (mB i).map Tm.cells) (ys := [Tm.cells (jI i)]) (zs := (mB (i + 1)).map Tm.cells) (n := i + 1) O Z Z Z Z Z Z Z Z Z Z Z Z Z Z Z Z (.row Z (by simp; omega)) (.whole Z Z (.inr ⟨Z, Z⟩)) (by simp) Z (by simp; omega) (by simp; omega) (by rw [nF]; simp) (by simp [gd]) Z) Z) (ka O Z Z (ai (ai (aH (eS O Z Z Z)) Z) trivial)))))))) ?_))))))
 refine jw [20,19,4,5,18] Z (bQ ?_)
 refine am (ji O Z (js O Z (jn ?_)))
 refine ⟨i + 1, ((au [4,5,500,501,502,503,26,905,906] (e' := [(4, _), (5, _), (18, _)]) Z Z ⟨Z, Z, Z, trivial⟩ Z).trans (ae 26 904 Z Z)).trans (Ent.to ⟨Z, Z, Z, trivial⟩ Z), by have := bp hc19; omega, by have := bp hc19; omega⟩
 refine bt (ag (js O Z (jo O Z (av ?_))))
 refine jr ?_
 obtain rfl : i = 4 := by have := ch hc19; omega
 refine ⟨.inl Z, _, ((ae 904 504 Z Z).trans (ae 905 505 Z Z)).trans (ae 906 506 Z Z), _, Z, Z, Z⟩
variable {k : Int}
theorem ui {be : D} (hn : 1 ≤ SS.length) (hl : SS.length ≤ 1000) : MQ h1 h2 51 [.c (.pt 0 0 0), eI k] [(0, iB (bq E SS bd lo be nm) g 1 2 3), (1, aB g.paths), (2, aD g.conds), (3, aO nm)] (aV (eB (gp (-1) ((SS.length : Int) - 2) k)) [(0, iB (bq E SS bd lo be nm) g 1 2 3), (1, aB g.paths), (2, aD g.conds), (3, aO nm)]) := by
 refine MC.shift 500 Z (MC.keep [500,501,502,503] (bs := [iB (bq E SS bd lo be nm) g 501 502 503, aB g.paths, aD g.conds, aO nm]) Z Z (jH 14 [500,501,502,503] h1 h2 Tryz.func51 Z Z Z Z fun O hF => ?_))
 refine bQ ?_
 refine ag (js O Z (bf (j4 O Z Z Z Z (js O Z (dn O Z (jf [10,5,4] Z (aA O Z Z Z Z (wM (n := SS.length) h1 h2) (ac Z) Z Z Z Z Z (B0 := 12000) Z (ji O Z (jf [12,5,4] Z (aA O Z Z Z Z (rv (x := k) (lo := -1) (hi := (SS.length : Int) - 2) h1 h2) (ac Z) Z Z Z Z Z (B0 := 14000) Z (js O Z (jf [4] Z (jr ?_)))))))))))))
 refine ⟨.inl Z, _, ar, _, Z, Z, Z⟩
variable {c : Pc} {g' : Gs} {w : Pw}
theorem xV {frm : Int} {s : Sm} {a : Int} {x : Tr} {k : Nat} (ih : kx L c frm w g (fD [.st x, .lp k]) g') : MQ h1 h2 115 [wA frm w 4 5 6, .c (.pt 7 0 0), .c (.pt 8 0 0), .c (.pt 9 0 0)] (iT c g w (Tr.d (.node s a [x])) (.int .i64 (k : Nat))) (aV (.tup []) (oT c g' (Tr.d (.node s a [x])) (.int .i64 (k : Nat)))) := by
 refine MC.shift 500 Z (MC.keep [500,503,507,508,509,510,511] (bs := [iB c g' 510 511 503, aO c.num, pB 500, xB (Tr.d (.node s a [x])), xB (.int .i64 (k : Nat)), aB g'.paths, aD g'.conds]) Z Z (jH 19 [500,501,502,503,504,505,506,507,508,509] h1 h2 Tryz.func115 Z Z Z Z fun O hF => ?_))
 refine bQ ?_
 refine ag (jx O Z (av ?_))
 refine jn (jG O [_,_,_,_,_,_,_,_,_,_,_,_,_,_] [pn [] 0 2, pn [] 0 2, pn [] 0 1, pn [2] 0 1, pn [2,3] 0 1, pn [2,3,4] 0 1, pn (rg 2 4) 0 1, pn (rg 2 5) 0 1, pn [] 0 0, pn [8] 0 0, pe [8,9] 0, pn (rg 2 9) 1 1, pe (rg 2 10) 1, pe (rg 0 13) 2] [10,12,13] [_,_,_,_] [[], [], [501,502,504,505,506,17,15]] (ai (ka O Z Z (ka O Z Z (kw O Z Z))) (ai (ka O Z Z (ka O Z Z (kw O Z Z))) (ai (ka O Z Z (kw O Z Z)) (ai (ka O Z Z (kw O Z Z)) (ai (ka O Z Z (kw O Z Z)) (ai (ka O Z Z (kw O Z Z)) (ai (ai (ai (bD O Z Z Z Z Z Z Z Z (by simp [Trs.d]) Z) Z) (ai (bD O Z Z Z Z Z Z Z Z (by simp [Trs.d]) Z) Z)) (ai (ka O Z Z (kw O Z Z)) (ka O Z Z (ka O Z Z (ai (ai (aH (Eff.box O Z Z Z Z Z Z Z Z)) Z) (ka O Z Z (ai (ai (aH (Eff.box O Z Z Z Z Z Z Z Z)) Z) (ai (ai (bO O [500,501,502,503,504,505,506,17,15] [501,502,504,505,506,17,15] (bin := [iB c g 1 2 3, aB g.paths, aD g.conds, aO c.num, aG w.vars, aG w.facts, aZ w.ev, .box [.d x.d, .d (.int .i64 0), .pt 8 0 0], s5 .nilp (.int .i64 (k : Nat)) .nilp]) Z Z Z Z (uX ih) Z Z Z Z Z (B0 := 19000) Z Z Z Z Z Z Z) Z) trivial)))))))))))))) ?_)
 show _ ∧ _
 refine wc ?_
 refine ⟨.inr Z, _, (ae 19010 510 Z Z).trans (ae 19011 511 Z Z), _, Z, Z, Z⟩
theorem xU {RS : List (List Fr)} {frm : Int} {d8 : D} {k : Nat} {r : List Fr} (hk : k < RS.length) (hr : RS.getD k default = r) (ih : kx L (bq E SS bd lo (.slc 1 (RS.map fun r => [fD r])) nm) frm w g (fD r) g') : MQ h1 h2 116 [wA frm w 4 5 6, .c (.pt 7 0 0), .c (.pt 9 0 0)] (iT (bq E SS bd lo (.slc 1 (RS.map fun r => [fD r])) nm) g w d8 (.int .i64 (k : Nat))) (aV (.tup []) (oT (bq E SS bd lo (.slc 1 (RS.map fun r => [fD r])) nm) g' d8 (.int .i64 (k : Nat)))) := by
 refine MC.shift 500 Z (MC.keep [500,503,507,508,509,510,511] (bs := [iB (bq E SS bd lo (.slc 1 (RS.map fun r => [fD r])) nm) g' 510 511 503, aO nm, pB 500, xB d8, xB (.int .i64 (k : Nat)), aB g'.paths, aD g'.conds]) Z Z (jH 14 [500,501,502,503,504,505,506,507,508,509] h1 h2 Tryz.func116 Z Z Z Z fun O hF => ?_))
 refine bQ ?_
 refine ag (jx O Z (av ?_))
 refine jn (jG O [_,_,_,_,_,_,_,_,_,_] [pn [] 0 0, pn [] 0 0, pn [] 0 0, pn [2] 0 0, pn [2,3] 0 0, pn [2,3,4] 0 0, pn [] 0 0, pn (rg 2 5) 0 0, pn (rg 2 6) 0 0, pe (rg 0 9) 0] [9] [_,_] [[501,502,504,505,506]] (ka O Z Z (ka O Z Z (ka O Z Z (ka O Z Z (ka O Z Z (ka O Z Z (ka O Z Z (ai (ai ((aR O Z Z Z Z Z Z Z Z (c5 hk)).cast (v' := ptr [fD r]) (by rw [hr])) Z) (ka O Z Z (ai (ai (bO O [500,501,502,503,504,505,506] [501,502,504,505,506] (bin := [iB (bq E SS bd lo (.slc 1 (RS.map fun r => [fD r])) nm) g 1 2 3, aB g.paths, aD g.conds, aO nm, aG w.vars, aG w.facts, aZ w.ev]) Z Z Z Z (ih) Z Z Z Z Z (B0 := 14000) Z Z Z Z Z Z Z) Z) trivial)))))))))) ?_)
 show _ ∧ _
 refine wc ?_
 refine ⟨.inr Z, _, (ae 14010 510 Z Z).trans (ae 14011 511 Z Z), _, Z, Z, Z⟩
set_option maxHeartbeats 8000000
theorem mL {L : Nat} (h1 : 4096 ≤ L) (h2 : L ≤ 1073741824) {E : Pe} {SS : List (List Tm)} {bd lo be : D} {nm : List (Int × D)} {g : Gs} {n : Nat} {f : List Tm} {w : Pw} {frm : Int} (hw : w0 f = w) (hn : n < SS.length) (hsl : SS.length ≤ 1000) (hf : SS.getD n default = f) (hl : f.length ≤ 1000) (hfr : frm = (n : Int) - 1) : MC Tryz.prog L 111 [.c (.pt 0 0 0), eI frm] [(0, iB (bq E SS bd lo be nm) g 1 2 3), (1, aB g.paths), (2, aD g.conds), (3, aO nm)] (aV (wA frm w 4 5 6) [(0, iB (bq E SS bd lo be nm) g 1 2 3), (1, aB g.paths), (2, aD g.conds), (3, aO nm), (4, aG w.vars), (5, aG w.facts), (6, aZ w.ev)]) := by
 subst hw; subst hfr; exact xW h1 h2 hn hsl hf hl
variable {LP : List Lp} {t : Tr}
theorem vv {G : Gs} (hw : w0 f = w) (hn : 0 < SS.length) (hsl : SS.length ≤ 1000) (hf : SS.getD 0 default = f) (hfl : f.length ≤ 1000) (hbd : bd = t.d) (ih : kx L (bq E SS bd (.slc 1 (LP.map fun q => [gl q])) (.slc 1 ((LP.map (·.r)).map fun r => [fD r])) nm) (-1) w g (fD [.st t]) G) : MQ h1 h2 77 [.c (.pt 0 0 0), eI (-1)] [(0, iB (bq E SS bd (.slc 1 (LP.map fun q => [gl q])) (.slc 1 ((LP.map (·.r)).map fun r => [fD r])) nm) g 1 2 3), (1, aB g.paths), (2, aD g.conds), (3, aO nm)] (aV (.tup []) (oF (bq E SS bd (.slc 1 (LP.map fun q => [gl q])) (.slc 1 ((LP.map (·.r)).map fun r => [fD r])) nm) G)) := by
 refine MC.shift 500 Z (MC.keep [500,503,510,511] (R := .tup []) (bs := [iB (bq E SS bd (.slc 1 (LP.map fun q => [gl q])) (.slc 1 ((LP.map (·.r)).map fun r => [fD r])) nm) G 510 511 503, aO nm, aB G.paths, aD G.conds]) Z Z (jH 45 [500,501,502,503] h1 h2 Tryz.func77 Z Z Z Z fun O hF => ?_))
 subst hbd
 refine bQ ?_
 refine ag (jx O Z (av ?_))
 refine jf [2,1] Z (jx O Z (av ?_))
 refine jn (ah (pE O [_,_,_,_,_,_,_] [pn [] 0 0, pn [0] 0 0, pn [0,1] 0 0, pn [] 0 0, pe [0,1,2,3] 0, pn [] 0 1, pe [0,1,2,3,4,5] 1] [4,6] 5 4 (.box [.d (.int .i64 0), .d .nils, .d .nils, .d .nils, .d .nils, .d (.int .i64 0)]) [_,_] [_] [[], []] (kf O Z Z Z (kf O Z Z Z (kf O Z Z Z (kf O Z Z Z (ai (ai (ay (aH (bE O [500,501,502,503] (bin := [iB (bq E SS t.d (.slc 1 (LP.map fun q => [gl q])) (.slc 1 ((LP.map (·.r)).map fun r => [fD r])) nm) g 1 2 3, aB g.paths, aD g.conds, aO nm]) Z Z Z Z (mL (E := E) (SS := SS) (bd := t.d) (lo := (.slc 1 (LP.map fun q => [gl q]))) (be := (.slc 1 ((LP.map (·.r)).map fun r => [fD r]))) (nm := nm) (g := g) (n := 0) (f := f) (w := w) h1 h2 hw hn hsl hf hfl Z) Z Z Z Z Z (B0 := 11000) Z Z Z Z Z Z)) (aH (bE O [500,501,502,503] (bin := [iB (bq E SS t.d (.slc 1 (LP.map fun q => [gl q])) (.slc 1 ((LP.map (·.r)).map fun r => [fD r])) nm) g 1 2 3, aB g.paths, aD g.conds, aO nm]) Z Z Z Z (mL (E := E) (SS := SS) (bd := t.d) (lo := (.slc 1 (LP.map fun q => [gl q]))) (be := (.slc 1 ((LP.map (·.r)).map fun r => [fD r]))) (nm := nm) (g := g) (n := 0) (f := f) (w := w) h1 h2 hw hn hsl hf hfl Z) Z Z Z Z Z (B0 := 11000) Z Z Z Z Z Z))) Z) (ai (ai (ai (aH (Eff.alloc O Z Z Z Z Z Z)) Z) (ai (aH (Eff.alloc O Z Z Z Z Z Z)) Z)) (ai (ai (ay trivial (aH (eS O Z Z Z))) Z) trivial))))))) ?_))
 refine jw [4,3,2,1] Z (bQ ?_)
 refine ah (ag (j2 O Z Z (jn (af O Z Z (fun hc12 => ?_) (fun hc12 => ?_)))))
 refine ah (jw [11,4,3,2,1] Z (jG O [_,_,_,_,_,_,_,_,_] [pn [] 0 1, pn [] 0 1, pn [] 0 0, pn [2] 0 0, pn [2,3] 0 0, pn [2,3,4] 0 0, pn (rg 2 4) 0 0, pe (rg 2 5) 0, pe (rg 0 8) 1] [7,8] [_,_,_] [[], [501,502,11004,11005,11006,20]] (ai (ka O Z Z (kw O Z Z)) (ai (ka O Z Z (kw O Z Z)) (ka O Z Z (ka O Z Z (ka O Z Z (ka O Z Z (ka O Z Z (ai (ai (aH (Eff.box O Z Z Z Z Z Z Z Z)) Z) (ai (ai (bO O [500,501,502,503,11004,11005,11006,20] [501,502,11004,11005,11006,20] (bin := [iB (bq E SS t.d (.slc 1 (LP.map fun q => [gl q])) (.slc 1 ((LP.map (·.r)).map fun r => [fD r])) nm) g 1 2 3, aB g.paths, aD g.conds, aO nm, aG w.vars, aG w.facts, aZ w.ev, s5 t.d (.int .i64 0) .nilp]) Z Z Z Z (pN ih) Z Z Z Z Z (B0 := 22000) Z Z Z Z Z Z Z) Z) trivial))))))))) ?_))
 refine jw [11,4,3,2,1] Z (bQ ?_)
 refine fK ?_
 refine ⟨.inl Z, _, (ae 22010 510 Z Z).trans (ae 22011 511 Z Z), _, Z, Z, Z⟩
 exact absurd hc12 (by decide)
theorem vu {k : Nat} {q : Lp} {Y N : Pw → Gs → Gs} (hw : w0 f = w) (hk : k < LP.length) (hq : LP.getD k default = q) (hn : k + 1 < SS.length) (hsl : SS.length ≤ 1000) (hf : SS.getD (k + 1) default = f) (hfl : f.length ≤ 1000) (hs : q.s.sum.ok = true ∧ q.s.sum.xs.length ≤ 4) (hkl : k ≤ 1000) (hY : kv Y) (hN : kv N)
  (hy : (bT w (aJ q.s.sum w.vars).1 (aS w q.s.sum g)).bad = false → kx L (bq E SS bd (.slc 1 (LP.map fun q => [gl q])) (.slc 1 ((LP.map (·.r)).map fun r => [fD r])) nm) (k : Nat) (w.fact (aJ q.s.sum w.vars).1) (bT w (aJ q.s.sum w.vars).1 (aS w q.s.sum g)) (fD [.st q.x, .lp k]) (Y (w.fact (aJ q.s.sum w.vars).1) (bT w (aJ q.s.sum w.vars).1 (aS w q.s.sum g)))) (hn2 : (Y (w.fact (aJ q.s.sum w.vars).1) (bT w (aJ q.s.sum w.vars).1 (aS w q.s.sum g))).bad = false → kx L (bq E SS bd (.slc 1 (LP.map fun q => [gl q])) (.slc 1 ((LP.map (·.r)).map fun r => [fD r])) nm) (k : Nat) (w.fact (bo (aJ q.s.sum w.vars).1).1) (Y (w.fact (aJ q.s.sum w.vars).1) (bT w (aJ q.s.sum w.vars).1 (aS w q.s.sum g))) (fD q.r) (N (w.fact (bo (aJ q.s.sum w.vars).1).1) (Y (w.fact (aJ q.s.sum w.vars).1) (bT w (aJ q.s.sum w.vars).1 (aS w q.s.sum g))))) :
  MQ h1 h2 77 [.c (.pt 0 0 0), eI (k : Nat)] [(0, iB (bq E SS bd (.slc 1 (LP.map fun q => [gl q])) (.slc 1 ((LP.map (·.r)).map fun r => [fD r])) nm) g 1 2 3), (1, aB g.paths), (2, aD g.conds), (3, aO nm)] (aV (.tup []) (oF (bq E SS bd (.slc 1 (LP.map fun q => [gl q])) (.slc 1 ((LP.map (·.r)).map fun r => [fD r])) nm) (c6 Y N w (aJ q.s.sum w.vars).1 (aS w q.s.sum g)))) := by
 refine MC.shift 500 Z (MC.keep [500,503,510,511] (R := .tup []) (bs := [iB (bq E SS bd (.slc 1 (LP.map fun q => [gl q])) (.slc 1 ((LP.map (·.r)).map fun r => [fD r])) nm) (c6 Y N w (aJ q.s.sum w.vars).1 (aS w q.s.sum g)) 510 511 503, aO nm, aB (c6 Y N w (aJ q.s.sum w.vars).1 (aS w q.s.sum g)).paths, aD (c6 Y N w (aJ q.s.sum w.vars).1 (aS w q.s.sum g)).conds]) Z Z (jH 45 [500,501,502,503] h1 h2 Tryz.func77 Z Z Z Z fun O hF => ?_))
 have hv4 : w.vars.length = 4 := by rw [← hw]; exact gd
 have hfw : w.facts.length ≤ 1000 := by rw [← hw]; exact hfl
 have hew : w.ev.length ≤ 1000 := by rw [← hw]; exact dm _
 have hva := mP (w := w) ⟨by rw [← hw]; show ∀ t ∈ mB 4, t.ok = true; decide, by omega⟩ hv4
 refine bQ ?_
 refine ag (jx O Z (av ?_))
 refine jf [2,1] Z (jx O Z (av ?_))
 refine jn (ah (pE O [_,_,_,_,_,_,_] [pn [] 0 0, pn [0] 0 0, pn [0,1] 0 0, pn [] 0 0, pe [0,1,2,3] 0, pn [] 0 1, pe [0,1,2,3,4,5] 1] [4,6] 5 4 (.box [.d (.int .i64 0), .d .nils, .d .nils, .d .nils, .d .nils, .d (.int .i64 0)]) [_,_] [_] [[], []] (kf O Z Z Z (kf O Z Z Z (kf O Z Z Z (kf O Z Z Z (ai (ai (ay (aH (bE O [500,501,502,503] (bin := [iB (bq E SS bd (.slc 1 (LP.map fun q => [gl q])) (.slc 1 ((LP.map (·.r)).map fun r => [fD r])) nm) g 1 2 3, aB g.paths, aD g.conds, aO nm]) Z Z Z Z (mL (E := E) (SS := SS) (bd := bd) (lo := (.slc 1 (LP.map fun q => [gl q]))) (be := (.slc 1 ((LP.map (·.r)).map fun r => [fD r]))) (nm := nm) (g := g) (n := k + 1) (f := f) (w := w) h1 h2 hw hn hsl hf hfl (by omega)) Z Z Z Z Z (B0 := 11000) Z Z Z Z Z Z)) (aH (bE O [500,501,502,503] (bin := [iB (bq E SS bd (.slc 1 (LP.map fun q => [gl q])) (.slc 1 ((LP.map (·.r)).map fun r => [fD r])) nm) g 1 2 3, aB g.paths, aD g.conds, aO nm]) Z Z Z Z (mL (E := E) (SS := SS) (bd := bd) (lo := (.slc 1 (LP.map fun q => [gl q]))) (be := (.slc 1 ((LP.map (·.r)).map fun r => [fD r]))) (nm := nm) (g := g) (n := k + 1) (f := f) (w := w) h1 h2 hw hn hsl hf hfl (by omega)) Z Z Z Z Z (B0 := 11000) Z Z Z Z Z Z))) Z) (ai (ai (ai (aH (Eff.alloc O Z Z Z Z Z Z)) Z) (ai (aH (Eff.alloc O Z Z Z Z Z Z)) Z)) (ai (ai (ay trivial (aH (eS O Z Z Z))) Z) trivial))))))) ?_))
 refine jw [4,3,2,1] Z (bQ ?_)
 refine ah (ag (j2 O Z Z (jn (af O Z Z (fun hc12 => ?_) (fun hc12 => ?_)))))
 exact absurd (bp hc12) (by omega)
 refine an (ah (jw [11,4,3,2,1] Z (pE O [_,_,_,_,_,_,_,_,_] [pn [] 0 0, pn [0] 0 0, pn [0,1] 0 0, pn [0,1,2] 0 0, pn [] 0 0, pn [0,1,2,3,4] 0 0, pn [0,1,2,3,4,5] 0 0, pn [] 0 0, pe [0,1,2,3,4,5,6,7] 0] [8] 7 5 (.box [.d .nilp]) [_] [_] [] (kf O Z Z Z (kf O Z Z Z (kf O Z Z Z (kf O Z Z Z (kf O Z Z Z (ai (ai (ay ((aR O Z Z Z Z Z Z Z Z (c5 hk)).cast (v' := ptr [gl q]) (by rw [hq])) ((aR O Z Z Z Z Z Z Z Z (c5 hk)).cast (v' := ptr [gl q]) (by rw [hq]))) Z) (kf O Z Z Z (ai (ai (aH (Eff.alloc O Z Z Z Z Z Z)) Z) (ai (ai (ay trivial (aH (eS O Z Z Z))) Z) trivial))))))))) ?_)))
 refine jw [5,11,4,3,2,1] Z (bQ ?_)
 have hrr : (LP.map (·.r)).getD k default = q.r := by rw [← hq]; simp [List.getD_eq_getElem?_getD, hk]
 have hT := vq (c := (bq E SS bd (.slc 1 (LP.map fun q => [gl q])) (.slc 1 ((LP.map (·.r)).map fun r => [fD r])) nm)) (g := (aS w q.s.sum g)) (frm := (k : Nat)) (w := w) (t := (aJ q.s.sum w.vars).1) (d8 := gl q) (d9 := .int .i64 (k : Nat)) (Y := Y) (N := N) h1 h2 hY hN eE (by omega) hfw hew (fun h => xV h1 h2 (hy h)) (fun h => xU (d8 := gl q) h1 h2 (k := k) (by rw [cY]; exact hk) hrr (hn2 h))
 refine jG O [_,_,_,_,_,_,_,_,_,_,_,_,_,_,_,_] [pn [] 0 1, pn [0] 0 1, pn [0,1] 0 1, pn [] 0 1, pn [] 0 0, pn [4] 0 0, pn [4,5] 0 0, pn [] 0 0, pn [7] 0 0, pn [7,8] 0 0, pn [7,8,9] 0 0, pn (rg 7 4) 0 0, pe (rg 4 8) 0, pn [] 0 1, pn [] 0 1, pe (rg 0 15) 1] [12,15] [_, [(2, pB 500), (3, xB (.int .i64 (k : Nat))), (5, xB (gl q)), (500, iB (bq E SS bd (.slc 1 (LP.map fun q => [gl q])) (.slc 1 ((LP.map (·.r)).map fun r => [fD r])) nm) (aS w q.s.sum g) 501 502 503), (501, aB (aS w q.s.sum g).paths), (502, aD (aS w q.s.sum g).conds), (503, aO nm), (4, iW (k : Nat) w 11004 11005 11006), (11004, aG w.vars), (11005, aG w.facts), (11006, aZ w.ev)], _] [[], [501,502,11004,11005,11006]] (ai (ka O Z Z (kw O Z Z)) (ai (ka O Z Z (kw O Z Z)) (ai (ka O Z Z (kw O Z Z)) (ai (ka O Z Z (kw O Z Z)) (ka O Z Z (ka O Z Z (ka O Z Z (ka O Z Z (ka O Z Z (ka O Z Z (ka O Z Z (ka O Z Z (ai (ai (aH (bE O [500,501,502,503,4,11004,11005,11006] (bin := [iB (bq E SS bd (.slc 1 (LP.map fun q => [gl q])) (.slc 1 ((LP.map (·.r)).map fun r => [fD r])) nm) g 1 2 3, aB g.paths, aD g.conds, aO nm, iW (k : Nat) w 5 6 7, aG w.vars, aG w.facts, aZ w.ev]) Z Z Z Z (j6 (c := (bq E SS bd (.slc 1 (LP.map fun q => [gl q])) (.slc 1 ((LP.map (·.r)).map fun r => [fD r])) nm)) (g := g) (frm := (k : Nat)) (w := w) (t := q.s.sum) h1 h2 hs.1 hva (by have := hs.2; omega)) Z Z Z Z Z (B0 := 42000) Z Z Z Z Z Z)) Z) (ai (ka O Z Z (kw O Z Z)) (ai (ka O Z Z (kw O Z Z)) (ai (ai (bO O [500,501,502,503,11004,11005,11006,2,5,3] [501,502,11004,11005,11006] (bin := [iB (bq E SS bd (.slc 1 (LP.map fun q => [gl q])) (.slc 1 ((LP.map (·.r)).map fun r => [fD r])) nm) (aS w q.s.sum g) 1 2 3, aB (aS w q.s.sum g).paths, aD (aS w q.s.sum g).conds, aO nm, aG w.vars, aG w.facts, aZ w.ev, pB 0, xB (gl q), xB (.int .i64 (k : Nat))]) Z Z Z Z (hT) Z Z Z Z Z (B0 := 45000) Z Z Z Z Z Z Z) Z) trivial)))))))))))))))) ?_
 show _ ∧ _
 refine wc ?_
 refine ⟨.inr Z, _, (ae 45010 510 Z Z).trans (ae 45011 511 Z Z), _, Z, Z, Z⟩
abbrev mC (p : Pm) (t : Tr) : Pc := bq (nn p.body p.post) (p.pre :: (cN t).lp.map (·.s.facts)) t.d (.slc 1 ((cN t).lp.map fun q => [gl q])) (.slc 1 (((cN t).lp.map (·.r)).map fun r => [fD r])) (cN t).nm
abbrev sZ (p : Pm) (t : Tr) (g : Gs) : List (Nat × B) := [(0, iB (mC p t) g 1 2 3), (1, aB g.paths), (2, aD g.conds), (3, aO (cN t).nm)]
abbrev om (p : Pm) (t : Tr) (g : Gs) : List (Nat × B) := [(0, iB (mC p t) g 10 11 3), (3, aO (cN t).nm), (10, aB g.paths), (11, aD g.conds)]
variable {p : Pm}
theorem mM (hp : eD p = true) (htd : qn p.body = t.d) (ht : PtOk p t) : MQ h1 h2 48 [fo p] [] (aV (.tup [.c (.pt 0 0 0), eB true]) (sZ p t g0)) := by
 refine MC.shift 500 Z (MC.keep [500,501,502,503] (bs := [iB (mC p t) g0 501 502 503, aB [], aD [], aO (cN t).nm]) Z Z (jB 30 h1 h2 Tryz.func48 Z Z Z fun O hF => ?_))
 have hfd := lV (L := L) h1 h2 ht.tree (r := []) (c := ⟨[], []⟩) (by have := ht.nodes; show 0 + _ ≤ _; omega) (post := dP p.post) (bd := t.d) (pre := p.pre)
 refine ag (jx O Z (av ?_))
 refine aj (Ent.freeze 1 (e' := [(1, _), (0, _)]) Z (.cons Z (.c (.box (cs := Pm.data p) Z (aI Z))) (fe [0] Z)) (.skip .nil)) ?_
 refine av ?_
 refine j2 O Z Z (jn (ah (ag (js O Z (aA O Z Z Z Z ((za (p := p) h1 h2).plain (u := eB true) (by rw [hp])) (ac Z) Z Z Z Z Z (B0 := 9000) Z (js O Z (jf [9,3,2,1,0] Z (jn (af O Z Z (fun hc9 => ?_) (fun hc9 => ?_))))))))))
 cases hc9
 refine an (ag (j2 O Z Z (jf [12,3,2,1,0] Z (ak O Z Z Z Z (wN h1 h2) (ac Z) Z Z Z Z (B0 := 14000) Z Z ?_))))
 rw [htd]
 refine j4 O Z Z Z Z (js O Z (jf [4,3,2,1,0] Z (bf (j4 O Z Z Z Z (jf [19,17,4,3,2,1,0] Z (AOps.heap (bn O Z Z Z Z Z Z Z Z Z Z Z) Z (av ?_)))))))
 refine j2 O Z Z (jf [22,21,4,3,2,1,0] Z (AOps.heap (HS.makeMap O Z Z Z Z) Z (av ?_)))
 refine av ?_
 refine js O Z (jf [24,4,3,2,1,0] Z (jx O Z (av ?_)))
 refine js O Z (jf [6,4,3,2,1,0] Z (bf (j2 O Z Z (aj (cM 25 902 1 false 6 Z Z Z) (av ?_)))))
 refine aj (cM 25 903 1 false 7 Z Z Z) (av ?_)
 refine aq O [25,20,902,903,23] (bin := [zB (dP p.post) t.d ⟨[], []⟩ 1 2 3 4, qX p.pre ⟨[], []⟩, q7 ⟨[], []⟩, q9 ⟨[], []⟩, aO []]) Z Z Z Z (hfd.1) Z Z Z Z Z Z (B0 := 29000) Z Z (av ?_)
 refine jf [6,4,3,2,1,0] Z (bf (aj (Ent.freeze 29010 (e' := [(6, _)]) Z (fe [6] Z) (.cons Z (.box (.cons (.keep Z) (.cons (.row Z (by simp)) (fk Z)))) (.cons Z .map (.skip (.cons Z .row (.cons Z .row .nil)))))) ?_))
 refine aj (Ent.freeze 29011 (e' := [(6, _)]) Z (fe [6] Z) (.cons Z (.box (.cons (.keep Z) (.cons (.keep Z) (.cons (.keep Z) (.cons (.keep Z) (.cons (.keep Z) (.cons (.keep Z) (.cons (.row Z (by simp)) (fk Z))))))))) (.cons Z .map (.skip (.cons Z .row .nil))))) ?_
 refine aj (Ent.freeze 29012 (e' := [(6, _)]) Z (fe [6] Z) (.cons Z (.box (.cons (.keep Z) (.cons (.keep Z) (.cons (.keep Z) (.cons (.keep Z) (.cons (.keep Z) (.cons (.keep Z) (.cons (.keep Z) (.cons (.row Z (by simp)) (fk Z)))))))))) (.cons Z .map (.skip .nil)))) ?_
 refine aj (cM 25 901 5 true 2 Z Z Z) (av ?_)
 refine aj (cM 25 904 3 true 3 Z Z Z) (av ?_)
 refine j3 O Z Z Z (jr ?_)
 refine ⟨.inl Z, _, (((ae 25 500 Z Z).trans (ae 901 501 Z Z)).trans (ae 904 502 Z Z)).trans (ae 23 503 Z Z), _, Z, Z, Z⟩
theorem vw (hl : (p.pre :: (cN t).lp.map (·.s.facts)).length ≤ 1000) (hs : (gp (-1) (((p.pre :: (cN t).lp.map (·.s.facts)).length : Int) - 2) k) = true) (ih : MQ h1 h2 77 [.c (.pt 0 0 0), eI k] (sZ p t g) (aV (.tup []) (om p t g'))) : MQ h1 h2 76 [.c (.pt 0 0 0), eB false, eI k, .c (.fb 77 [.pt 0 0 0])] (sZ p t g) (aV (eB (!g'.bad)) (om p t g')) := by
 refine MC.shift 500 Z (MC.keep [500,503,510,511] (bs := [iB (mC p t) g' 510 511 503, aO (cN t).nm, aB g'.paths, aD g'.conds]) Z Z (jH 41 [500,501,502,503] h1 h2 Tryz.func76 Z Z Z Z fun O hF => ?_))
 refine bQ ?_
 refine ag (js O Z (jn (ah (ag (j2 O Z Z (jf [11,8,0,2,3] Z (jn (af O Z Z (fun hc11 => ?_) (fun hc11 => ?_)))))))))
 refine ah (ag (j2 O Z Z (jf [13,12,8,0,2,3] Z (aq O [500,501,502,503] (bin := [iB (mC p t) g 1 2 3, aB g.paths, aD g.conds, aO (cN t).nm]) Z Z Z Z (ui (E := nn p.body p.post) (SS := (p.pre :: (cN t).lp.map (·.s.facts))) (bd := t.d) (lo := .slc 1 ((cN t).lp.map fun q => [gl q])) (be := .slc 1 (((cN t).lp.map (·.r)).map fun r => [fD r])) (nm := (cN t).nm) (g := g) (k := k) h1 h2 (by simp) hl) Z Z Z Z Z Z (B0 := 15000) Z Z (av ?_)))))
 refine js O Z (jf [15,8,0,2,3] Z (jn (af O Z Z (fun hc15 => ?_) (fun hc15 => ?_))))
 exact absurd hc15 (by rw [hs]; decide)
 refine an (ag (j2 O Z Z (jf [17,16,8,0,2,3] Z (mA O [500,501,502,503] (bin := [iB (mC p t) g 1 2 3, aB g.paths, aD g.conds, aO (cN t).nm]) Z Z Z Z (ih) Z Z Z Z Z Z (B0 := 19000) Z Z (av ?_)))))
 refine jf [8,0,2,3] Z (bf (j4 O Z Z Z Z (j2 O Z Z (jf [8,0,2,3] Z (jr ?_)))))
 refine ⟨.inl Z, _, (ae 19010 510 Z Z).trans (ae 19011 511 Z Z), _, Z, Z, Z⟩
 cases hc11
theorem m8 {al : Nat → Gs} (h : ∀ i, (al i).bad = true → al (i + 1) = al i) {i : Nat} (hb : (al i).bad = true) : ∀ {n : Nat}, i ≤ n → al n = al i := fun {n} hn => by
 induction n with
 | zero =>
  obtain rfl : i = 0 := by omega
  rfl
 | succ n ih =>
  rcases Nat.lt_or_ge n i with h1 | h1
  obtain rfl : i = n + 1 := by omega
  rfl
  have := ih h1
  rw [h n (by rw [this]; exact hb), this]
theorem vx {al : Nat → Gs} (hl : (p.pre :: (cN t).lp.map (·.s.facts)).length ≤ 1000) (hst : ∀ i, (al i).bad = true → al (i + 1) = al i) (h0 : (al 0).bad = false) (hal : ∀ i : Nat, i < (p.pre :: (cN t).lp.map (·.s.facts)).length → (al i).bad = false → MQ h1 h2 77 [.c (.pt 0 0 0), eI ((i : Int) - 1)] (sZ p t (al i)) (aV (.tup []) (om p t (al (i + 1))))) : MQ h1 h2 76 [.c (.pt 0 0 0), eB true, eI k, .c (.fb 77 [.pt 0 0 0])] (sZ p t (al 0)) (aV (eB (!(al (p.pre :: (cN t).lp.map (·.s.facts)).length).bad)) (om p t (al (p.pre :: (cN t).lp.map (·.s.facts)).length))) := by
 refine MC.shift 500 Z (MC.keep [500,503,510,511] (R := eB (!(al (p.pre :: (cN t).lp.map (·.s.facts)).length).bad)) (bs := [iB (mC p t) (al (p.pre :: (cN t).lp.map (·.s.facts)).length) 510 511 503, aO (cN t).nm, aB (al (p.pre :: (cN t).lp.map (·.s.facts)).length).paths, aD (al (p.pre :: (cN t).lp.map (·.s.facts)).length).conds]) Z Z (jH 41 [500,501,502,503] h1 h2 Tryz.func76 Z Z Z Z fun O hF => ?_))
 refine bQ ?_
 refine ag (js O Z (jn (ah (ag (j2 O Z Z (jf [11,8,0,2,3] Z (jn (af O Z Z (fun hc11 => ?_) (fun hc11 => ?_)))))))))
 cases hc11
 refine an (ah (ag (j4 O Z Z Z Z (dn O Z (js O Z (jf [29,28,8,0,2,3] Z (jn (aw (aE (X := Nat) (fun i => ⟨[(0, .c (.pt 500 0 0)), (3, .c (.fb 77 [.pt 500 0 0])), (28, eI ((p.pre :: (cN t).lp.map (·.s.facts)).length : Nat)), (29, eI i)], [(500, iB (mC p t) (al i) 901 902 503), (503, aO (cN t).nm), (901, aB (al i).paths), (902, aD (al i).conds)]⟩) (fun i => i ≤ (p.pre :: (cN t).lp.map (·.s.facts)).length ∧ (al i).bad = false) (fun i => (p.pre :: (cN t).lp.map (·.s.facts)).length - i) 0 ((((au [500,503,501,502] (e' := [(0, _), (3, _), (28, _), (29, _)]) Z Z ⟨Z, Z, Z, Z, trivial⟩ Z).trans (ae 501 901 Z Z)).trans (ae 502 902 Z Z)).trans (Ent.to ⟨Z, Z, Z, Z, trivial⟩ Z)) ?_ (fun i hi => ?_))))))))))
 exact ⟨dm _, h0⟩
 refine ag (js O Z (jn (ah (af O Z Z (fun hc30 => ?_) (fun hc30 => ?_)))))
 refine an (ah (aw (ag (j2 O Z Z (bf (j2 O Z Z (ji O Z (jf [34,32,31,30,0,3,28,29] Z (mA O [500,901,902,503] (bin := [iB (mC p t) (al i) 1 2 3, aB (al i).paths, aD (al i).conds, aO (cN t).nm]) Z Z Z Z (hal i (by have := bp hc30; omega) hi.2) Z Z Z Z Z Z (B0 := 36000) Z Z (av ?_))))))))))
 refine jf [31,30,0,3,28,29] Z (bf (j4 O Z Z Z Z (jf [39,31,30,0,3,28,29] Z (jn (af O Z Z (fun hc39 => ?_) (fun hc39 => ?_))))))
 refine ag (js O Z (jr ?_))
 have e := m8 hst (show (al (i + 1)).bad = true from hc39) (n := (p.pre :: (cN t).lp.map (·.s.facts)).length) (by have := bp hc30; omega)
 rw [e]
 refine ⟨.inl Z, _, (ae 36010 510 Z Z).trans (ae 36011 511 Z Z), _, Z, by rw [show (al (i + 1)).bad = true from hc39]; rfl, Z⟩
 refine an (am (ji O Z (js O Z (jn ?_))))
 refine ⟨i + 1, (((au [500,503,36010,36011] (e' := [(0, _), (3, _), (28, _), (29, _)]) Z Z ⟨Z, Z, Z, Z, trivial⟩ Z).trans (ae 36010 901 Z Z)).trans (ae 36011 902 Z Z)).trans (Ent.to ⟨Z, Z, Z, Z, trivial⟩ Z), ⟨by have := bp hc30; omega, hc39⟩, by have := bp hc30; omega⟩
 refine bt (ag (js O Z (jr ?_)))
 obtain rfl : i = (p.pre :: (cN t).lp.map (·.s.facts)).length := by have := ch hc30; omega
 refine ⟨.inl Z, _, (ae 901 510 Z Z).trans (ae 902 511 Z Z), _, Z, by rw [hi.2]; rfl, Z⟩
theorem r5 (hl : g.conds.length ≤ L) (hc : dR g.conds = true) : MQ h1 h2 49 [.c (.pt 0 0 0)] [(0, iB c g 1 2 3), (1, aB g.paths), (2, aD g.conds), (3, aO c.num)] (aV (.tup [.c (.rs 2 0 g.conds.length), eB true]) [(0, iB c g 1 2 3), (1, aB g.paths), (2, aD g.conds), (3, aO c.num)]) := by
 refine MC.shift 500 Z (MC.keep [500,501,502,503] (bs := [iB c g 501 502 503, aB g.paths, aD g.conds, aO c.num]) Z Z (jH 29 [500,501,502,503] h1 h2 Tryz.func49 Z Z Z Z fun O hF => ?_))
 refine bQ ?_
 have hall : ∀ i, i < g.conds.length → nu (g.conds.getD i default) = true := fun i hi => by rw [aK hi]; exact List.all_eq_true.1 (Bool.and_eq_true_iff.1 hc).1 _ (List.getElem_mem hi)
 refine ag (j2 O Z Z (jn (ah (ag (j4 O Z Z Z Z (dI O Z Z (js O Z (jf [11,3,2,0] Z (jn (af O Z Z (fun hc11 => ?_) (fun hc11 => ?_)))))))))))
 exact absurd (bp hc11) (by have := (Bool.and_eq_true_iff.1 hc).2; have := bp this; omega)
 refine an (ah (ag (j4 O Z Z Z Z (dI O Z Z (js O Z (jf [17,16,15,3,2,0] Z (jn (aw (aE (X := Nat) (fun i => ⟨[(0, .c (.pt 500 0 0)), (15, .c (.rs 502 0 g.conds.length)), (16, eI g.conds.length), (17, eI i)], [(500, iB c g 501 502 503), (501, aB g.paths), (502, aD g.conds), (503, aO c.num)]⟩) (fun i => i ≤ g.conds.length ∧ ∀ j (h : j < g.conds.length), j < i → nu g.conds[j] = true) (fun i => g.conds.length - i) 0 (Ent.to ⟨Z, Z, Z, Z, trivial⟩ Z) ?_ (fun i hi => ?_))))))))))
 exact ⟨dm _, fun j h hj => absurd hj (Nat.not_lt_zero j)⟩
 refine ag (js O Z (jn (ah (af O Z Z (fun hc18 => ?_) (fun hc18 => ?_)))))
 refine an (ah (aw (ag ?_)))
 have hil : i < g.conds.length := by have := bp hc18; omega
 have hRi : (g.conds.map Sq.cells)[0 + (i : Int).toNat]? = some (Sq.cells (g.conds.getD i default)) := by rw [Int.toNat_natCast, Nat.zero_add, List.getElem?_map, aK hil, List.getElem?_eq_getElem hil]; rfl
 refine dI O Z Z (aa (fI O (ex := Sq.cells (g.conds.getD i default)) Z Z Z Z hRi Z) Z Z Z (jf [20,18,0,15,16,17] Z (jl O Z (av ?_))))
 refine jo O Z (av ?_)
 refine bf (js O Z (aA O Z Z Z Z (wG (s := (g.conds.getD i default)) h1 h2) (.cons (.agg (.cons (.rp Z hRi Z) (.cons .d (.cons (.rp Z hRi Z) .nil)))) .nil) Z Z Z Z Z (B0 := 23000) Z (js O Z (jf [23,5,20,18,0,15,16,17] Z (jn (af O Z Z (fun hc23 => ?_) (fun hc23 => ?_)))))))
 exact absurd hc23 (by rw [hall i (by have := bp hc18; omega)]; decide)
 refine an (am (ji O Z (js O Z (jn ?_))))
 refine ⟨i + 1, (au [500,501,502,503] (e' := [(0, _), (15, _), (16, _), (17, _)]) Z Z ⟨Z, Z, Z, Z, trivial⟩ Z).trans (Ent.to ⟨Z, Z, Z, Z, trivial⟩ Z), ⟨by have := bp hc18; omega, fun j h hj => ?_⟩, by have := bp hc18; omega⟩
 by_cases e : j = i
 subst e; rw [aK h] at hc23; simpa using hc23
 exact hi.2 j h (by omega)
 refine bt (ag (j4 O Z Z Z Z (j2 O Z Z (jf [3,2,18,0,15,16,17] Z (jr ?_)))))
 refine ⟨.inl Z, _, au [500,501,502,503] (e' := [(2, _), (3, _)]) Z Z ⟨Z, Z, trivial⟩ Z, _, Z, Z, Z⟩
theorem vB (hl : g.conds.length ≤ L) (hc : dR g.conds = false) : MQ h1 h2 49 [.c (.pt 0 0 0)] [(0, iB c g 1 2 3), (1, aB g.paths), (2, aD g.conds), (3, aO c.num)] (aV (.tup [.c (.d .nils), eB false]) [(0, iB c g 1 2 3), (1, aB g.paths), (2, aD g.conds), (3, aO c.num)]) := by
 refine MC.shift 500 Z (MC.keep [500,501,502,503] (bs := [iB c g 501 502 503, aB g.paths, aD g.conds, aO c.num]) Z Z (jH 29 [500,501,502,503] h1 h2 Tryz.func49 Z Z Z Z fun O hF => ?_))
 refine bQ ?_
 refine ag (j2 O Z Z (jn (ah (ag (j4 O Z Z Z Z (dI O Z Z (js O Z (jf [11,3,2,0] Z (jn (af O Z Z (fun hc11 => ?_) (fun hc11 => ?_)))))))))))
 refine ag (j2 O Z Z (jr ?_))
 refine ⟨.inl Z, _, au [500,501,502,503] (e' := [(2, _), (3, _)]) Z Z ⟨Z, Z, trivial⟩ Z, _, Z, Z, Z⟩
 refine an (ah (ag (j4 O Z Z Z Z (dI O Z Z (js O Z (jf [17,16,15,3,2,0] Z (jn (aw (aE (X := Nat) (fun i => ⟨[(0, .c (.pt 500 0 0)), (15, .c (.rs 502 0 g.conds.length)), (16, eI g.conds.length), (17, eI i)], [(500, iB c g 501 502 503), (501, aB g.paths), (502, aD g.conds), (503, aO c.num)]⟩) (fun i => i ≤ g.conds.length ∧ ∀ j (h : j < g.conds.length), j < i → nu g.conds[j] = true) (fun i => g.conds.length - i) 0 (Ent.to ⟨Z, Z, Z, Z, trivial⟩ Z) ?_ (fun i hi => ?_))))))))))
 exact ⟨dm _, fun j h hj => absurd hj (Nat.not_lt_zero j)⟩
 refine ag (js O Z (jn (ah (af O Z Z (fun hc18 => ?_) (fun hc18 => ?_)))))
 refine an (ah (aw (ag ?_)))
 have hil : i < g.conds.length := by have := bp hc18; omega
 have hRi : (g.conds.map Sq.cells)[0 + (i : Int).toNat]? = some (Sq.cells (g.conds.getD i default)) := by rw [Int.toNat_natCast, Nat.zero_add, List.getElem?_map, aK hil, List.getElem?_eq_getElem hil]; rfl
 refine dI O Z Z (aa (fI O (ex := Sq.cells (g.conds.getD i default)) Z Z Z Z hRi Z) Z Z Z (jf [20,18,0,15,16,17] Z (jl O Z (av ?_))))
 refine jo O Z (av ?_)
 refine bf (js O Z (aA O Z Z Z Z (wG (s := (g.conds.getD i default)) h1 h2) (.cons (.agg (.cons (.rp Z hRi Z) (.cons .d (.cons (.rp Z hRi Z) .nil)))) .nil) Z Z Z Z Z (B0 := 23000) Z (js O Z (jf [23,5,20,18,0,15,16,17] Z (jn (af O Z Z (fun hc23 => ?_) (fun hc23 => ?_)))))))
 refine ag (j2 O Z Z (jr ?_))
 refine ⟨.inl Z, _, au [500,501,502,503] (e' := [(2, _), (3, _)]) Z Z ⟨Z, Z, trivial⟩ Z, _, Z, Z, Z⟩
 refine an (am (ji O Z (js O Z (jn ?_))))
 refine ⟨i + 1, (au [500,501,502,503] (e' := [(0, _), (15, _), (16, _), (17, _)]) Z Z ⟨Z, Z, Z, Z, trivial⟩ Z).trans (Ent.to ⟨Z, Z, Z, Z, trivial⟩ Z), ⟨by have := bp hc18; omega, fun j h hj => ?_⟩, by have := bp hc18; omega⟩
 by_cases e : j = i
 subst e; rw [aK h] at hc23; simpa using hc23
 exact hi.2 j h (by omega)
 refine bt (ag (j4 O Z Z Z Z (j2 O Z Z (jf [3,2,18,0,15,16,17] Z (jr ?_)))))
 exfalso
 have hall := gc (p := nu) (fun j hj => hi.2 j hj (by have := ch hc18; omega))
 unfold dR at hc
 rw [hall, Bool.true_and] at hc
 exact absurd (ch hc) (by have := ch hc11; omega)
theorem r6 {all : Bool} (hp : eD p = true) (htd : qn p.body = t.d) (ht : PtOk p t) (hg : MQ h1 h2 76 [.c (.pt 0 0 0), eB all, eI k, .c (.fb 77 [.pt 0 0 0])] (sZ p t g0) (aV (eB true) (om p t g))) : MQ h1 h2 41 [fo p, eB all, eI k] [] (aV (.tup [.c (.pt 0 0 0), eB true]) (om p t g)) := by
 refine MC.shift 500 Z (MC.keep [500,503,510,511] (bs := [iB (mC p t) g 510 511 503, aO (cN t).nm, aB g.paths, aD g.conds]) Z Z (jB 29 h1 h2 Tryz.func41 Z Z Z fun O hF => ?_))
 refine ag (jx O Z (av ?_))
 refine aj (Ent.freeze 3 (e' := [(3, _), (0, _), (1, _), (2, _)]) Z (.cons Z (.c (.box (cs := Pm.data p) Z (aI Z))) (fe [0,1,2] Z)) (.skip .nil)) ?_
 refine av ?_
 refine j2 O Z Z (bf (js O Z (jf [11,7,6,0,1,2] Z (aq O [] (bin := []) Z Z Z Z (mM (p := p) (t := t) h1 h2 hp htd ht) Z Z Z Z Z Z (B0 := 13000) Z Z (av ?_)))))
 refine j4 O Z Z Z Z (js O Z (jf [9,8,7,6,0,1,2] Z (jn (ah (ag (j3 O Z Z Z (jf [17,8,7,6,0,1,2] Z (dS Z (js O Z (dS Z (js O Z (jf [19,17,8,7,6,0,1,2] Z (dS Z (js O Z (jf [20,17,8,7,6,0,1,2] Z (dS Z (js O Z (jf [21,20,17,8,7,6,0,2] Z (dS Z (js O Z (jf [22,21,20,17,8,7,6,0] Z (dS Z (js O Z (dS Z (aa (lF O Z Z Z Z Z) Z Z Z (jf [24,22,21,20,17,8,7,6,0] Z (dS Z (aq O [13000,13001,13002,13003] (bin := [iB (mC p t) g0 1 2 3, aB [], aD [], aO (cN t).nm]) Z Z Z Z (hg) Z Z Z Z Z Z (B0 := 26000) Z Z (av ?_)))))))))))))))))))))))))))))
 refine jf [25,17,8,7,6,0] Z (dS Z (js O Z (aa (aQ O Z Z Z Z Z) Z Z Z (jf [27,8,7,6,0] Z (jn (af O Z Z (fun hc27 => ?_) (fun hc27 => ?_)))))))
 exact absurd hc27 (by decide)
 refine an (ag (j3 O Z Z Z (jf [7,6,8,0] Z (jr ?_))))
 refine ⟨.inl Z, _, (((ae 13000 500 Z Z).trans (ae 13003 503 Z Z)).trans (ae 26010 510 Z Z)).trans (ae 26011 511 Z Z), _, Z, Z, Z⟩
theorem vC {all : Bool} (hp : eD p = true) (htd : qn p.body = t.d) (ht : PtOk p t) (hg : MQ h1 h2 76 [.c (.pt 0 0 0), eB all, eI k, .c (.fb 77 [.pt 0 0 0])] (sZ p t g0) (aV (eB false) (om p t g))) : MQ h1 h2 41 [fo p, eB all, eI k] [] (Plain (.tup [.c (.d .nilp), eB false])) := by
 refine MC.data (jB 29 h1 h2 Tryz.func41 Z Z Z fun O hF => ?_)
 refine ag (jx O Z (av ?_))
 refine aj (Ent.freeze 3 (e' := [(3, _), (0, _), (1, _), (2, _)]) Z (.cons Z (.c (.box (cs := Pm.data p) Z (aI Z))) (fe [0,1,2] Z)) (.skip .nil)) ?_
 refine av ?_
 refine j2 O Z Z (bf (js O Z (jf [11,7,6,0,1,2] Z (aq O [] (bin := []) Z Z Z Z (mM (p := p) (t := t) h1 h2 hp htd ht) Z Z Z Z Z Z (B0 := 13000) Z Z (av ?_)))))
 refine j4 O Z Z Z Z (js O Z (jf [9,8,7,6,0,1,2] Z (jn (ah (ag (j3 O Z Z Z (jf [17,8,7,6,0,1,2] Z (dS Z (js O Z (dS Z (js O Z (jf [19,17,8,7,6,0,1,2] Z (dS Z (js O Z (jf [20,17,8,7,6,0,1,2] Z (dS Z (js O Z (jf [21,20,17,8,7,6,0,2] Z (dS Z (js O Z (jf [22,21,20,17,8,7,6,0] Z (dS Z (js O Z (dS Z (aa (lF O Z Z Z Z Z) Z Z Z (jf [24,22,21,20,17,8,7,6,0] Z (dS Z (aq O [13000,13001,13002,13003] (bin := [iB (mC p t) g0 1 2 3, aB [], aD [], aO (cN t).nm]) Z Z Z Z (hg) Z Z Z Z Z Z (B0 := 26000) Z Z (av ?_)))))))))))))))))))))))))))))
 refine jf [25,17,8,7,6,0] Z (dS Z (js O Z (aa (aQ O Z Z Z Z Z) Z Z Z (jf [27,8,7,6,0] Z (jn (af O Z Z (fun hc27 => ?_) (fun hc27 => ?_)))))))
 refine ag (j2 O Z Z (jr ?_))
 refine ⟨.inl Z, _, ar, _, Z, ?_⟩
 exact .tup (.cons (.c .d) (.cons (.c .d) .nil))
 exact absurd hc27 (by decide)
theorem vR (hP : MQ h1 h2 41 [fo p, eB false, eI k] [] (aV (.tup [.c (.pt 0 0 0), eB true]) (om p t g))) : MQ h1 h2 20 [fo p, eI k] [] (Rows (.tup [.c (.rs 0 0 g.paths.length), eB true]) [aB g.paths]) := by
 refine cw (jB 21 h1 h2 Tryz.func20 Z Z Z fun O hF => ?_)
 refine ag (jx O Z (av ?_))
 refine aj (Ent.freeze 2 (e' := [(2, _), (0, _), (1, _)]) Z (.cons Z (.c (.box (cs := Pm.data p) Z (aI Z))) (fe [0,1] Z)) (.skip .nil)) ?_
 refine av ?_
 refine j2 O Z Z (bf (j2 O Z Z (jf [10,9,5,4,0] Z (aq O [] (bin := []) Z Z Z Z (hP) Z Z Z Z Z Z (B0 := 12000) Z Z (av ?_)))))
 refine j4 O Z Z Z Z (js O Z (jf [7,6,5,4,0] Z (jn (ah (ag (j2 O Z Z (jf [15,6,5,4,0] Z (jn (af O Z Z (fun hc15 => ?_) (fun hc15 => ?_))))))))))
 exact absurd hc15 (by decide)
 refine an (ag (j4 O Z Z Z Z (j3 O Z Z Z (jf [5,4,0] Z (jr ?_)))))
 refine ⟨.inl Z, _, ar, _, Z, [12010], by decide, Z, Z, Z⟩
theorem r7 (hP : MQ h1 h2 41 [fo p, eB true, eI 0] [] (aV (.tup [.c (.pt 0 0 0), eB true]) (om p t g))) : MQ h1 h2 9 [fo p] [] (Rows (.tup [.c (.rs 0 0 g.paths.length), eB true]) [aB g.paths]) := by
 refine cw (jB 18 h1 h2 Tryz.func9 Z Z Z fun O hF => ?_)
 refine ag (jx O Z (av ?_))
 refine aj (Ent.freeze 1 (e' := [(1, _), (0, _)]) Z (.cons Z (.c (.box (cs := Pm.data p) Z (aI Z))) (fe [0] Z)) (.skip .nil)) ?_
 refine av ?_
 refine j2 O Z Z (bf (js O Z (jf [7,3,2,0] Z (aq O [] (bin := []) Z Z Z Z (hP) Z Z Z Z Z Z (B0 := 9000) Z Z (av ?_)))))
 refine j4 O Z Z Z Z (js O Z (jf [5,4,3,2,0] Z (jn (ah (ag (j2 O Z Z (jf [12,4,3,2,0] Z (jn (af O Z Z (fun hc12 => ?_) (fun hc12 => ?_))))))))))
 exact absurd hc12 (by decide)
 refine an (ag (j4 O Z Z Z Z (j3 O Z Z Z (jf [3,2,0] Z (jr ?_)))))
 refine ⟨.inl Z, _, ar, _, Z, [9010], by decide, Z, Z, Z⟩
theorem vQ (hP : MQ h1 h2 41 [fo p, eB true, eI 0] [] (Plain (.tup [.c (.d .nilp), eB false]))) : MQ h1 h2 9 [fo p] [] (Rows (.tup [.c (.d .nils), eB false]) []) := by
 refine cw (jB 18 h1 h2 Tryz.func9 Z Z Z fun O hF => ?_)
 refine ag (jx O Z (av ?_))
 refine aj (Ent.freeze 1 (e' := [(1, _), (0, _)]) Z (.cons Z (.c (.box (cs := Pm.data p) Z (aI Z))) (fe [0] Z)) (.skip .nil)) ?_
 refine av ?_
 refine j2 O Z Z (bf (js O Z (jf [7,3,2,0] Z (ak O Z Z Z Z (hP) (ac Z) Z Z Z Z (B0 := 9000) Z Z (j4 O Z Z Z Z (js O Z (jf [5,4,3,2,0] Z (jn (ah (ag (j2 O Z Z (jf [12,4,3,2,0] Z (jn (af O Z Z (fun hc12 => ?_) (fun hc12 => ?_)))))))))))))))
 refine ag (j2 O Z Z (jr ?_))
 refine ⟨.inl Z, _, ar, _, Z, [], by decide, Z, Z, Z⟩
 exact absurd hc12 (by decide)
theorem vP (hP : MQ h1 h2 41 [fo p, eB false, eI k] [] (aV (.tup [.c (.pt 0 0 0), eB true]) (om p t g))) (hl : g.conds.length ≤ L) (hc : dR g.conds = true) : MQ h1 h2 21 [fo p, eI k] [] (Rows (.tup [.c (.rs 0 0 g.conds.length), eB true]) [aD g.conds]) := by
 refine cw (jB 22 h1 h2 Tryz.func21 Z Z Z fun O hF => ?_)
 refine ag (jx O Z (av ?_))
 refine aj (Ent.freeze 2 (e' := [(2, _), (0, _), (1, _)]) Z (.cons Z (.c (.box (cs := Pm.data p) Z (aI Z))) (fe [0,1] Z)) (.skip .nil)) ?_
 refine av ?_
 refine j2 O Z Z (bf (j2 O Z Z (jf [10,9,5,4,0] Z (aq O [] (bin := []) Z Z Z Z (hP) Z Z Z Z Z Z (B0 := 12000) Z Z (av ?_)))))
 refine j4 O Z Z Z Z (js O Z (jf [7,6,5,4,0] Z (jn (ah (ag (j2 O Z Z (jf [15,6,5,4,0] Z (jn (af O Z Z (fun hc15 => ?_) (fun hc15 => ?_))))))))))
 exact absurd hc15 (by decide)
 refine an (ag (j3 O Z Z Z (jf [18,5,4,0] Z (aq O [12000,12010,12011,12003] (bin := [iB (mC p t) g 1 2 3, aB g.paths, aD g.conds, aO (cN t).nm]) Z Z Z Z (r5 (c := mC p t) (g := g) h1 h2 hl hc) Z Z Z Z Z Z (B0 := 20000) Z Z (av ?_)))))
 refine j4 O Z Z Z Z (jf [5,4,0] Z (jr ?_))
 refine ⟨.inl Z, _, ar, _, Z, [12011], by decide, Z, Z, Z⟩
theorem vH (hP : MQ h1 h2 41 [fo p, eB true, eI 0] [] (aV (.tup [.c (.pt 0 0 0), eB true]) (om p t g))) (hl : g.conds.length ≤ L) (hc : dR g.conds = true) : MQ h1 h2 17 [fo p] [] (Rows (.tup [.c (.rs 0 0 g.conds.length), eB true]) [aD g.conds]) := by
 refine cw (jB 19 h1 h2 Tryz.func17 Z Z Z fun O hF => ?_)
 refine ag (jx O Z (av ?_))
 refine aj (Ent.freeze 1 (e' := [(1, _), (0, _)]) Z (.cons Z (.c (.box (cs := Pm.data p) Z (aI Z))) (fe [0] Z)) (.skip .nil)) ?_
 refine av ?_
 refine j2 O Z Z (bf (js O Z (jf [7,3,2,0] Z (aq O [] (bin := []) Z Z Z Z (hP) Z Z Z Z Z Z (B0 := 9000) Z Z (av ?_)))))
 refine j4 O Z Z Z Z (js O Z (jf [5,4,3,2,0] Z (jn (ah (ag (j2 O Z Z (jf [12,4,3,2,0] Z (jn (af O Z Z (fun hc12 => ?_) (fun hc12 => ?_))))))))))
 exact absurd hc12 (by decide)
 refine an (ag (j3 O Z Z Z (jf [15,3,2,0] Z (aq O [9000,9010,9011,9003] (bin := [iB (mC p t) g 1 2 3, aB g.paths, aD g.conds, aO (cN t).nm]) Z Z Z Z (r5 (c := mC p t) (g := g) h1 h2 hl hc) Z Z Z Z Z Z (B0 := 17000) Z Z (av ?_)))))
 refine j4 O Z Z Z Z (jf [3,2,0] Z (jr ?_))
 refine ⟨.inl Z, _, ar, _, Z, [9011], by decide, Z, Z, Z⟩
theorem vJ (hP : MQ h1 h2 41 [fo p, eB true, eI 0] [] (aV (.tup [.c (.pt 0 0 0), eB true]) (om p t g))) (hl : g.conds.length ≤ L) (hc : dR g.conds = false) : MQ h1 h2 17 [fo p] [] (Rows (.tup [.c (.d .nils), eB false]) []) := by
 refine cw (jB 19 h1 h2 Tryz.func17 Z Z Z fun O hF => ?_)
 refine ag (jx O Z (av ?_))
 refine aj (Ent.freeze 1 (e' := [(1, _), (0, _)]) Z (.cons Z (.c (.box (cs := Pm.data p) Z (aI Z))) (fe [0] Z)) (.skip .nil)) ?_
 refine av ?_
 refine j2 O Z Z (bf (js O Z (jf [7,3,2,0] Z (aq O [] (bin := []) Z Z Z Z (hP) Z Z Z Z Z Z (B0 := 9000) Z Z (av ?_)))))
 refine j4 O Z Z Z Z (js O Z (jf [5,4,3,2,0] Z (jn (ah (ag (j2 O Z Z (jf [12,4,3,2,0] Z (jn (af O Z Z (fun hc12 => ?_) (fun hc12 => ?_))))))))))
 exact absurd hc12 (by decide)
 refine an (ag (j3 O Z Z Z (jf [15,3,2,0] Z (aq O [9000,9010,9011,9003] (bin := [iB (mC p t) g 1 2 3, aB g.paths, aD g.conds, aO (cN t).nm]) Z Z Z Z (vB (c := mC p t) (g := g) h1 h2 hl hc) Z Z Z Z Z Z (B0 := 17000) Z Z (av ?_)))))
 refine j4 O Z Z Z Z (jf [3,2,0] Z (jr ?_))
 refine ⟨.inl Z, _, ar, _, Z, [], by decide, Z, Z, Z⟩
theorem vK (hP : MQ h1 h2 41 [fo p, eB true, eI 0] [] (Plain (.tup [.c (.d .nilp), eB false]))) : MQ h1 h2 17 [fo p] [] (Rows (.tup [.c (.d .nils), eB false]) []) := by
 refine cw (jB 19 h1 h2 Tryz.func17 Z Z Z fun O hF => ?_)
 refine ag (jx O Z (av ?_))
 refine aj (Ent.freeze 1 (e' := [(1, _), (0, _)]) Z (.cons Z (.c (.box (cs := Pm.data p) Z (aI Z))) (fe [0] Z)) (.skip .nil)) ?_
 refine av ?_
 refine j2 O Z Z (bf (js O Z (jf [7,3,2,0] Z (ak O Z Z Z Z (hP) (ac Z) Z Z Z Z (B0 := 9000) Z Z (j4 O Z Z Z Z (js O Z (jf [5,4,3,2,0] Z (jn (ah (ag (j2 O Z Z (jf [12,4,3,2,0] Z (jn (af O Z Z (fun hc12 => ?_) (fun hc12 => ?_)))))))))))))))
 refine ag (j2 O Z Z (jr ?_))
 refine ⟨.inl Z, _, ar, _, Z, [], by decide, Z, Z, Z⟩
 exact absurd hc12 (by decide)
end Go.Al
