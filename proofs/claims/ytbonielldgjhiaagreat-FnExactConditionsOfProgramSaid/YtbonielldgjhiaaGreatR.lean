/- The program: its loops, the paths of a start, of all starts. -/
import Derived.Test.YtbonielldgjhiaaGreatQ
set_option linter.unusedVariables false
set_option linter.unusedSimpArgs false
set_option maxRecDepth 10000
set_option maxHeartbeats 4000000
open Go.Proofs
namespace Go.Al
variable {L : Nat} (h1 : 4096 ≤ L) (h2 : L ≤ 1073741824)
structure Fd where
  lp : List Lp
  nm : List (Int × D)
def e7 : Tr → List Fr → Fd → Fd
  | .node s a [x, y], r, c => if s.kind = 1 then e7 y r (e7 x (.st y :: r) c) else e7 y r (e7 x r c)
  | .node s a [x], r, c => e7 x [.lp c.lp.length] ⟨c.lp ++ [⟨s, a.toNat, x, r⟩], eG c.nm a (.int .i64 (c.lp.length : Nat))⟩
  | _, _, c => c
abbrev f9 (q : Lp) : D := Tr.d (.node q.s (q.a : Nat) [q.x])
abbrev zB (post bd : D) (c : Fd) (i j k m : Nat) : B := .box [.d post, .rs i 0 (c.lp.length + 1), .d .nils, .d .nils, .d (.bool false), .d bd, .rs j 0 c.lp.length, .rs k 0 c.lp.length, .mp m]
abbrev qc (pre : List Tm) (c : Fd) : B := .row false 1 ((pre :: c.lp.map (·.s.facts)).map fun f => [bX f])
abbrev qd (c : Fd) : B := .row false 1 (c.lp.map fun q => [f9 q])
abbrev qf (c : Fd) : B := .row false 1 ((c.lp.map (·.r)).map fun r => [fD r])
abbrev zH (post bd : D) (pre : List Tm) (c : Fd) : List (Nat × B) := [(0, zB post bd c 1 2 3 4), (1, qc pre c), (2, qd c), (3, qf c), (4, aL c.nm)]
abbrev zO (post bd : D) (pre : List Tm) (c : Fd) : List (Nat × B) := [(0, zB post bd c 10 11 12 4), (4, aL c.nm), (10, qc pre c), (11, qd c), (12, qf c)]
abbrev kl (L : Nat) (post bd : D) (pre : List Tm) (t r : D) (c c' : Fd) : Prop := MC Tryz.prog L 82 [.c (.pt 0 0 0), .c (.d t), .c (.d r)] (zH post bd pre c) (aZ (.tup []) (zO post bd pre c'))
theorem sv {L : Nat} {post bd : D} {pre : List Tm} {t d1 d2 d3 : D} {c c' : Fd} (h : kl L post bd pre t (.ptr [d1, d2, d3] 0) c c') : MC Tryz.prog L 82 [.c (.pt 0 0 0), .c (.d t), .c (.pt 5 0 0)] (zH post bd pre c ++ [(5, rG d1 d2 d3)]) (aZ (.tup []) (zO post bd pre c')) :=
  MC.freeze 5 Z (.cons (.keep Z) (.cons (.keep Z) (.cons (.c (.box Z (aw Z))) .nil))) (.cons Z (.box (.cons (.keep Z) (.cons (.keep Z) (.cons (.keep Z) (.cons (.keep Z) (.cons (.keep Z) (.cons (.keep Z) (.cons (.keep Z) (.cons (.keep Z) (.cons (.keep Z) .nil)))))))))) (.cons Z .row (.cons Z .row (.cons Z .row (.cons Z .map (.skip .nil)))))) Z h
theorem ol {L : Nat} (h1 : 4096 ≤ L) (h2 : L ≤ 1073741824) {post bd : D} {pre : List Tm} {s : Sm} {r : List Fr} {c c1 c2 : Fd} {a : Int} (hk : s.kind ≠ 1 ∧ s.kind ≠ 7 ∧ s.kind ≠ 8) : kl L post bd pre (Tr.d (.node s a [])) (fD r) c c := by
 refine aF 500 Z (MC.keep [500,504,510,511,512] (bs := [zB post bd c 510 511 512 504, aL c.nm, qc pre c, qd c, qf c]) Z Z (jH 124 [500,501,502,503,504] h1 h2 Tryz.func82 Z Z Z Z fun O hF => ?_))
 refine bZ ?_
 refine ag (j4 O Z Z Z Z (js O Z (jf [11,0,1,2] Z (jn (AWP.block (ag (j2 O Z Z (jn (AWP.cond O Z Z (fun hc12 => ?_) (fun hc12 => ?_))))))))))
 exact absurd (of_decide_eq_true hc12) (by omega)
 refine ag (j2 O Z Z (jf [40,13,11,0,1,2] Z (jn (AWP.cond O Z Z (fun hc40 => ?_) (fun hc40 => ?_)))))
 exact absurd (of_decide_eq_true hc40) (by omega)
 refine ag (j2 O Z Z (jf [60,13,11,0,1,2] Z (jn (AWP.cond O Z Z (fun hc60 => ?_) (fun hc60 => ?_)))))
 exact absurd (of_decide_eq_true hc60) (by omega)
 refine AWP.skip ?_
 show _ ∧ _
 refine ⟨.inr Z, _, ((af 501 510 Z Z).trans (af 502 511 Z Z)).trans (af 503 512 Z Z), _, Z, Z, Z⟩
theorem pQ {L : Nat} (h1 : 4096 ≤ L) (h2 : L ≤ 1073741824) {post bd : D} {pre : List Tm} {s : Sm} {r : List Fr} {c c1 c2 : Fd} {a : Int} {x y : Tr} (hk : s.kind = 1) (ih1 : kl L post bd pre x.d (fD (.st y :: r)) c c1) (ih2 : kl L post bd pre y.d (fD r) c1 c2) : kl L post bd pre (Tr.d (.node s a [x, y])) (fD r) c c2 := by
 refine aF 500 Z (MC.keep [500,504,510,511,512] (bs := [zB post bd c2 510 511 512 504, aL c2.nm, qc pre c2, qd c2, qf c2]) Z Z (jH 124 [500,501,502,503,504] h1 h2 Tryz.func82 Z Z Z Z fun O hF => ?_))
 refine bZ ?_
 refine ag (j4 O Z Z Z Z (js O Z (jf [11,0,1,2] Z (jn (AWP.block (ag (j2 O Z Z (jn (AWP.cond O Z Z (fun hc12 => ?_) (fun hc12 => ?_))))))))))
 refine AWP.seq (jw [13,11,0,1,2] Z (jE O [_,_,_,_,_,_,_,_,_,_,_,_,_,_,_,_,_] [pn [] 0 1, pn [] 0 1, pn [1] 0 1, pn [1,2] 0 1, pn [1,2,3] 0 1, pn [1,2,3,4] 0 1, pn [1,2,3,4,5] 0 1, pn [] 0 0, pn [7] 0 0, pn [7,8] 0 0, pn [7,8,9] 0 0, pn [7,8,9,10] 0 0, pn [7,8,9,10,11] 0 0, pn [] 0 0, pn [7,8,9,10,11,12,13] 0 0, pe [7,8,9,10,11,12,13,14] 0, pe [0,1,2,3,4,5,6,7,8,9,10,11,12,13,14,15] 1] [15,16] [_,_,_] [[], [501,502,503,29]] (ai (ka O Z Z (kw O Z Z)) (ai (ka O Z Z (kw O Z Z)) (ai (ka O Z Z (kw O Z Z)) (ai (ka O Z Z (kw O Z Z)) (ai (ka O Z Z (kw O Z Z)) (ai (ai (ai (aV O Z Z Z Z Z Z Z Z (by simp [Trs.d]) Z) Z) (ai (aV O Z Z Z Z Z Z Z Z (by simp [Trs.d]) Z) Z)) (ai (ka O Z Z (kw O Z Z)) (ka O Z Z (ka O Z Z (ka O Z Z (ka O Z Z (ai (ai (aV O Z Z Z Z Z Z Z Z (by simp [Trs.d]) Z) Z) (ka O Z Z (ka O Z Z (ka O Z Z (ai (ai (aO (Eff.box O Z Z Z Z Z Z Z Z)) Z) (ai (ai (bM O [500,501,502,503,504,29] [501,502,503,29] (bin := [zB post bd c 1 2 3 4, qc pre c, qd c, qf c, aL c.nm, rG y.d (.int .i64 0) (fD r)]) Z Z Z Z (sv ih1) Z Z Z Z Z (B0 := 31000) Z Z Z Z Z Z Z) Z) trivial))))))))))))))))) ?_))
 refine jw [13,11,0,1,2] Z (bZ ?_)
 refine AWP.region (j4 O Z Z Z Z (js O Z (aa (aV O Z Z Z Z Z Z Z Z (by simp [Trs.d]) Z) Z Z Z (j2 O Z Z (jf [38,37,31,13,11,0,1,2] Z (ap O [500,31010,31011,31012,504] (bin := [zB post bd c1 1 2 3 4, qc pre c1, qd c1, qf c1, aL c1.nm]) Z Z Z Z (ih2) Z Z Z Z Z Z (B0 := 40000) Z Z (aq ?_)))))))
 refine jf [13,11,0,1,2] Z (jn ?_)
 show _ ∧ _
 refine ⟨.inr Z, _, ((af 40010 510 Z Z).trans (af 40011 511 Z Z)).trans (af 40012 512 Z Z), _, Z, Z, Z⟩
 exact absurd (of_decide_eq_false hc12) (by omega)
theorem rj {L : Nat} (h1 : 4096 ≤ L) (h2 : L ≤ 1073741824) {post bd : D} {pre : List Tm} {s : Sm} {r : List Fr} {c c1 c2 : Fd} {a : Int} {x y : Tr} (hk : s.kind = 7) (ih1 : kl L post bd pre x.d (fD r) c c1) (ih2 : kl L post bd pre y.d (fD r) c1 c2) : kl L post bd pre (Tr.d (.node s a [x, y])) (fD r) c c2 := by
 refine aF 500 Z (MC.keep [500,504,510,511,512] (bs := [zB post bd c2 510 511 512 504, aL c2.nm, qc pre c2, qd c2, qf c2]) Z Z (jH 124 [500,501,502,503,504] h1 h2 Tryz.func82 Z Z Z Z fun O hF => ?_))
 refine bZ ?_
 refine ag (j4 O Z Z Z Z (js O Z (jf [11,0,1,2] Z (jn (AWP.block (ag (j2 O Z Z (jn (AWP.cond O Z Z (fun hc12 => ?_) (fun hc12 => ?_))))))))))
 exact absurd (of_decide_eq_true hc12) (by omega)
 refine ag (j2 O Z Z (jf [40,13,11,0,1,2] Z (jn (AWP.cond O Z Z (fun hc40 => ?_) (fun hc40 => ?_)))))
 refine ag (j4 O Z Z Z Z (js O Z (aa (aV O Z Z Z Z Z Z Z Z (by simp [Trs.d]) Z) Z Z Z (j2 O Z Z (jf [49,48,42,13,11,0,1,2] Z (ap O [500,501,502,503,504] (bin := [zB post bd c 1 2 3 4, qc pre c, qd c, qf c, aL c.nm]) Z Z Z Z (ih1) Z Z Z Z Z Z (B0 := 51000) Z Z (aq ?_)))))))
 refine jf [13,11,0,1,2] Z (jn (AWP.region (j4 O Z Z Z Z (js O Z (aa (aV O Z Z Z Z Z Z Z Z (by simp [Trs.d]) Z) Z Z Z (j2 O Z Z (jf [58,57,51,13,11,0,1,2] Z (ap O [500,51010,51011,51012,504] (bin := [zB post bd c1 1 2 3 4, qc pre c1, qd c1, qf c1, aL c1.nm]) Z Z Z Z (ih2) Z Z Z Z Z Z (B0 := 60000) Z Z (aq ?_)))))))))
 refine jf [13,11,0,1,2] Z (jn ?_)
 show _ ∧ _
 refine ⟨.inr Z, _, ((af 60010 510 Z Z).trans (af 60011 511 Z Z)).trans (af 60012 512 Z Z), _, Z, Z, Z⟩
 exact absurd (of_decide_eq_false hc40) (by omega)
theorem oi {L : Nat} (h1 : 4096 ≤ L) (h2 : L ≤ 1073741824) {post bd : D} {pre : List Tm} {s : Sm} {r : List Fr} {c c1 c2 : Fd} {k : Nat} {x : Tr} (hk : s.kind = 8) (hl : c.lp.length ≤ 1000) (ih : kl L post bd pre x.d (fD [.lp c.lp.length]) (⟨c.lp ++ [⟨s, k, x, r⟩], eG c.nm (k : Nat) (.int .i64 (c.lp.length : Nat))⟩ : Fd) c2) : kl L post bd pre (Tr.d (.node s (k : Nat) [x])) (fD r) c c2 := by
 refine aF 500 Z (MC.keep [500,504,510,511,512] (bs := [zB post bd c2 510 511 512 504, aL c2.nm, qc pre c2, qd c2, qf c2]) Z Z (jH 124 [500,501,502,503,504] h1 h2 Tryz.func82 Z Z Z Z fun O hF => ?_))
 refine bZ ?_
 refine ag (j4 O Z Z Z Z (js O Z (jf [11,0,1,2] Z (jn (AWP.block (ag (j2 O Z Z (jn (AWP.cond O Z Z (fun hc12 => ?_) (fun hc12 => ?_))))))))))
 exact absurd (of_decide_eq_true hc12) (by omega)
 refine ag (j2 O Z Z (jf [40,13,11,0,1,2] Z (jn (AWP.cond O Z Z (fun hc40 => ?_) (fun hc40 => ?_)))))
 exact absurd (of_decide_eq_true hc40) (by omega)
 refine ag (j2 O Z Z (jf [60,13,11,0,1,2] Z (jn (AWP.cond O Z Z (fun hc60 => ?_) (fun hc60 => ?_)))))
 refine ag (j4 O Z Z Z Z ?_)
 first | refine cy O Z Z Z Z Z Z Z Z Z Z Z ?_ | refine js O Z ?_ | refine aY O Z Z Z Z Z ?_
 refine jf [66,13,11,0,1,2] Z (ae O Z Z Z Z (uX (n := c.lp.length) h1 h2) (ab Z) Z Z Z Z Z (B0 := 68000) Z (js O Z (jf [6,13,11,0,1,2] Z (jn (AWP.seq (f6 O [_,_,_,_,_,_,_,_,_,_] [pn [] 0 0, pn [0] 0 0, pn [0,1] 0 0, pn [0,1,2] 0 0, pn [] 0 0, pn [4] 0 0, pn [4,5] 0 0, pn [4,5,6] 0 0, pn [] 0 0, pe [0,1,2,3,4,5,6,7,8] 0] [9] [_,_] (kc O Z (kc O Z (kc O Z (kc O Z (kc O Z (kc O Z (kc O Z (kc O Z (kc O Z (ai (Eff.mapUpdate (kt := 2) (et := 2) (q := .i64) (es := c.nm) (k := (k : Nat)) (v := .int .i64 (c.lp.length : Nat)) O Z Z Z Z uu uK Z Z Z Z Z Z) trivial)))))))))) ?_))))))
 refine jw [6,13,11,0,1,2] Z (bZ ?_)
 refine ag (j4 O Z Z Z Z (j2 O Z Z (jf [82,81,77,6,13,11,0,1,2] Z (AOps.heap (dO O Z Z Z Z Z Z Z Z Z Z Z) Z (aq ?_)))))
 refine jf [83,81,77,6,13,11,0,1,2] Z (AOps.heap (bD (own := false) (xs := c.lp.map fun q => [f9 q]) (ys := [[f9 (⟨s, k, x, r⟩ : Lp)]]) (zs := (c.lp ++ [(⟨s, k, x, r⟩ : Lp)]).map fun q => [f9 q]) (n := (c.lp ++ [(⟨s, k, x, r⟩ : Lp)]).length) O Z Z Z Z Z Z Z Z Z Z Z Z Z Z Z Z (.row Z (List.length_map _).symm) (.whole Z Z (.inr ⟨Z, Z⟩)) (by simp) Z (by simp; omega) (by simp; omega) (by simp) (by simp)) Z (aq ?_))
 refine aq ?_
 refine j2 O Z Z (jf [86,84,6,13,11,0,1,2] Z (jo O Z Z Z Z Z Z Z Z Z Z Z Z (aq ?_)))
 refine jf [6,13,11,0,1,2] Z (aP (j4 O Z Z Z Z (j2 O Z Z (jf [92,91,87,6,13,11,0,1,2] Z (AOps.heap (dO O Z Z Z Z Z Z Z Z Z Z Z) Z (aq ?_))))))
 refine jf [93,91,87,6,13,11,0,1,2] Z (AOps.heap (bD (own := false) (xs := (c.lp.map (·.r)).map fun r => [fD r]) (ys := [[fD r]]) (zs := ((c.lp ++ [(⟨s, k, x, r⟩ : Lp)]).map (·.r)).map fun r => [fD r]) (n := (c.lp ++ [(⟨s, k, x, r⟩ : Lp)]).length) O Z Z Z Z Z Z Z Z Z Z Z Z Z Z Z Z (.row Z (by simp)) (.whole Z Z (.inr ⟨Z, Z⟩)) (by simp) Z (by simp; omega) (by simp; omega) (by simp) (by simp)) Z (aq ?_))
 refine aq ?_
 refine j2 O Z Z (jf [96,94,6,13,11,0,1,2] Z (jo O Z Z Z Z Z Z Z Z Z Z Z Z (aq ?_)))
 refine jf [6,13,11,0,1,2] Z (jn (AWP.seq (jE O [_,_,_,_,_,_,_,_,_,_,_,_,_,_,_,_,_] [pn [] 0 2, pn [] 0 1, pn [1] 0 1, pn [1,2] 0 1, pn [1,2,3] 0 1, pn [1,2,3,4] 0 1, pn [] 0 0, pn [6] 0 0, pn [6,7] 0 0, pn [6,7,8] 0 0, pn [6,7,8,9] 0 0, pe [6,7,8,9,10] 0, pe [1,2,3,4,5,6,7,8,9,10,11] 1, pn [0,1,2,3,4,5,6,7,8,9,10,11,12] 2 2, pn [0,1,2,3,4,5,6,7,8,9,10,11,12,13] 2 2, pn [0,1,2,3,4,5,6,7,8,9,10,11,12,13,14] 2 2, pe [0,1,2,3,4,5,6,7,8,9,10,11,12,13,14,15] 2] [11,12,16] [_,_,_,_] [[], [501], []] (ai (ka O Z Z (ka O Z Z (kw O Z Z))) (ai (ka O Z Z (kw O Z Z)) (ai (ka O Z Z (kw O Z Z)) (ai (ka O Z Z (kw O Z Z)) (ai (ka O Z Z (kw O Z Z)) (ai (ka O Z Z (kw O Z Z)) (ka O Z Z (ka O Z Z (ka O Z Z (ka O Z Z (ka O Z Z (ai (ai (aO (dn O Z Z Z Z Z Z Z Z Z Z Z Z Z Z)) Z) (ai (ai (cF (own := false) (xs := (pre :: c.lp.map (·.s.facts)).map fun f => [bX f]) (ys := [[bX s.facts]]) (zs := (pre :: (c.lp ++ [(⟨s, k, x, r⟩ : Lp)]).map (·.s.facts)).map fun f => [bX f]) (n := (c.lp ++ [(⟨s, k, x, r⟩ : Lp)]).length + 1) O Z Z Z Z Z Z Z Z Z Z Z Z Z Z Z Z (.row Z (by simp)) (.whole Z Z (.inr ⟨Z, Z⟩)) (by simp) Z (by simp; omega) (by simp; omega) (by simp) (by simp) Z) Z) (ka O Z Z (ka O Z Z (ka O Z Z (ai (ai (aO (aC O Z Z Z Z Z Z Z Z Z Z Z Z Z)) Z) trivial))))))))))))))))) ?_)))
 refine jw [6,13,11,0,1,2] Z (bZ ?_)
 refine AWP.region (j4 O Z Z Z Z (js O Z (aa (aV O Z Z Z Z Z Z Z Z (by simp [Trs.d]) Z) Z Z Z (j3 O Z Z Z (jf [121,119,113,6,13,11,0,1,2] Z (jx O Z Z Z Z Z Z Z Z (aq ?_)))))))
 refine jf [122,119,113,6,13,11,0,1,2] Z (ap O [500,109,84,94,504,122] (bin := [zB post bd (⟨c.lp ++ [⟨s, k, x, r⟩], eG c.nm (k : Nat) (.int .i64 (c.lp.length : Nat))⟩ : Fd) 1 2 3 4, qc pre (⟨c.lp ++ [⟨s, k, x, r⟩], eG c.nm (k : Nat) (.int .i64 (c.lp.length : Nat))⟩ : Fd), qd (⟨c.lp ++ [⟨s, k, x, r⟩], eG c.nm (k : Nat) (.int .i64 (c.lp.length : Nat))⟩ : Fd), qf (⟨c.lp ++ [⟨s, k, x, r⟩], eG c.nm (k : Nat) (.int .i64 (c.lp.length : Nat))⟩ : Fd), aL (⟨c.lp ++ [⟨s, k, x, r⟩], eG c.nm (k : Nat) (.int .i64 (c.lp.length : Nat))⟩ : Fd).nm, rG .nilp (.int .i64 (c.lp.length : Nat)) .nilp]) Z Z Z Z (sv ih) Z Z Z Z Z Z (B0 := 124000) Z Z (aq ?_))
 refine jf [6,13,11,0,1,2] Z (jn ?_)
 show _ ∧ _
 refine ⟨.inr Z, _, ((af 124010 510 Z Z).trans (af 124011 511 Z Z)).trans (af 124012 512 Z Z), _, Z, Z, Z⟩
 exact absurd (of_decide_eq_false hc60) (by omega)
theorem lq {L : Nat} (h1 : 4096 ≤ L) (h2 : L ≤ 1073741824) {b : List Sm} {post bd : D} {pre : List Tm} : ∀ {t : Tr} {k k' : Nat}, bJ b k = some (t, k') → ∀ {r : List Fr} {c : Fd}, c.lp.length + t.nodes ≤ 1000 → kl L post bd pre t.d (fD r) c (e7 t r c) ∧ (e7 t r c).lp.length ≤ c.lp.length + t.nodes
 | .node s a [x, y], k, k', h, r, c, hc => by
  obtain ⟨e1, rfl, e3, e4, e5⟩ := bQ h
  obtain rfl := cj h
  obtain ⟨k1, i1, i2⟩ := bK e4
  obtain ⟨k2, i3, i4⟩ := bK i2
  have hn : Tr.nodes (.node (b.getD k default) (k : Nat) [x, y]) = 1 + (x.nodes + y.nodes) := by simp [Tr.nodes, Trs.nodes]
  rw [hn] at hc ⊢
  by_cases hk : (b.getD k default).kind = 1
  rw [e7, if_pos hk]
  obtain ⟨a1, a2⟩ := lq h1 h2 i1 (r := .st y :: r) (c := c) (by omega) (post := post) (bd := bd) (pre := pre)
  obtain ⟨b1, b2⟩ := lq h1 h2 i3 (r := r) (c := e7 x (.st y :: r) c) (by omega) (post := post) (bd := bd) (pre := pre)
  exact ⟨pQ h1 h2 hk a1 b1, by omega⟩
  rw [e7, if_neg hk]
  obtain ⟨a1, a2⟩ := lq h1 h2 i1 (r := r) (c := c) (by omega) (post := post) (bd := bd) (pre := pre)
  obtain ⟨b1, b2⟩ := lq h1 h2 i3 (r := r) (c := e7 x r c) (by omega) (post := post) (bd := bd) (pre := pre)
  have hk7 : (b.getD k default).kind = 7 := by
   have h3 : bh (b.getD k default).kind = 2 := e5.symm
   unfold bh at h3
   split at h3
   omega
   split at h3
   assumption
   split at h3 <;> omega
  exact ⟨rj h1 h2 hk7 a1 b1, by omega⟩
 | .node s a [x], k, k', h, r, c, hc => by
  obtain ⟨e1, rfl, e3, e4, e5⟩ := bQ h
  obtain rfl := cj h
  obtain ⟨k1, i1, i2⟩ := bK e4
  have hk8 : (b.getD k default).kind = 8 := gq e5.symm
  have hn : Tr.nodes (.node (b.getD k default) (k : Nat) [x]) = 1 + x.nodes := by simp [Tr.nodes, Trs.nodes]
  rw [hn] at hc ⊢
  rw [e7, Int.toNat_natCast]
  obtain ⟨a1, a2⟩ := lq h1 h2 i1 (r := [.lp c.lp.length]) (c := ⟨c.lp ++ [⟨b.getD k default, k, x, r⟩], eG c.nm (k : Nat) (.int .i64 (c.lp.length : Nat))⟩) (by simp only [List.length_append, List.length_singleton]; omega) (post := post) (bd := bd) (pre := pre)
  refine ⟨oi (c1 := c) h1 h2 hk8 (by omega) a1, ?_⟩
  simp only [List.length_append, List.length_singleton] at a2; omega
 | .node s a [], k, k', h, r, c, hc => by
  obtain ⟨e1, rfl, e3, e4, e5⟩ := bQ h
  obtain rfl := cj h
  have hne := fg (e5.symm : bh (b.getD k default).kind = 0)
  have e : e7 (.node (b.getD k default) (k : Nat) []) r c = c := by rw [e7] <;> simp
  rw [e]
  exact ⟨ol (c1 := c) (c2 := c) h1 h2 ⟨hne.1, hne.2.1, hne.2.2⟩, Nat.le_add_right _ _⟩
 | .node s a (x :: y :: z :: ks), k, k', h, r, c, hc => by
  obtain ⟨e1, rfl, e3, e4, e5⟩ := bQ h
  have h2 := (cm (b.getD k default).kind).2
  simp only [List.length_cons] at e5
  omega
theorem m9 {es : List (Int × D)} {k j : Int} {v : D} : gW (eG es k v) j = if j = k then some v else gW es j := by
 induction es with
 | nil => simp only [eG, gW]
 | cons e es ih =>
  obtain ⟨i, y⟩ := e
  by_cases hk : k = i
  subst hk
  simp only [eG, if_true, gW]
  by_cases h : j = k <;> simp [h]
  simp only [eG, if_neg hk, gW, ih]
  by_cases h : j = i
  subst h; rw [if_pos rfl, if_pos rfl, if_neg (Ne.symm hk)]
  rw [if_neg h, if_neg h]
structure FdOk (b : List Sm) (k : Nat) (c : Fd) : Prop where
  len : c.lp.length = aS b k
  at_ : ∀ q ∈ c.lp, q.a < k
  nm : ∀ q ∈ c.lp, gW c.nm (q.a : Nat) = some (.int .i64 (aS b q.a : Nat))
theorem FdOk.next {b : List Sm} {k : Nat} {c : Fd} (h : FdOk b k c) (h8 : ¬ (b.getD k default).kind = 8) : FdOk b (k + 1) c :=
  ⟨by rw [h.len, aS, if_neg h8]; rfl, fun q hq => Nat.lt_succ_of_lt (h.at_ q hq), h.nm⟩
theorem jg {b : List Sm} : ∀ {t : Tr} {k k' : Nat}, bJ b k = some (t, k') → ∀ {r : List Fr} {c : Fd}, FdOk b k c → FdOk b k' (e7 t r c) ∧ (e7 t r c).lp = c.lp ++ aQ b t r
  | .node s a [x, y], k, k', h, r, c, hc => by
    obtain ⟨e1, rfl, e3, e4, e5⟩ := bQ h
    obtain rfl := cj h
    obtain ⟨k1, i1, i2⟩ := bK e4
    obtain ⟨k2, i3, i4⟩ := bK i2
    obtain rfl := c7 i4
    have h8 : ¬ (b.getD k default).kind = 8 := by
      intro h8; rw [h8] at e5; revert e5; simp only [List.length_cons, List.length_nil]; decide
    by_cases hk : (b.getD k default).kind = 1
    · rw [e7, if_pos hk, du, if_pos hk]
      obtain ⟨a1, a2⟩ := jg i1 (r := .st y :: r) (hc.next h8)
      obtain ⟨b1, b2⟩ := jg i3 (r := r) a1
      exact ⟨b1, by rw [b2, a2, List.append_assoc]⟩
    · rw [e7, if_neg hk, du, if_neg hk]
      obtain ⟨a1, a2⟩ := jg i1 (r := r) (hc.next h8)
      obtain ⟨b1, b2⟩ := jg i3 (r := r) a1
      exact ⟨b1, by rw [b2, a2, List.append_assoc]⟩
  | .node s a [x], k, k', h, r, c, hc => by
    obtain ⟨e1, rfl, e3, e4, e5⟩ := bQ h
    obtain rfl := cj h
    obtain ⟨k1, i1, i2⟩ := bK e4
    obtain rfl := c7 i2
    have hk8 : (b.getD k default).kind = 8 := gq e5.symm
    rw [e7, gR, Int.toNat_natCast]
    have hlen := hc.len
    have hn : FdOk b (k + 1) ⟨c.lp ++ [⟨b.getD k default, k, x, r⟩], eG c.nm (k : Nat) (.int .i64 (c.lp.length : Nat))⟩ := by
      refine ⟨?_, fun q hq => ?_, fun q hq => ?_⟩
      · rw [List.length_append, List.length_singleton, hlen, aS, if_pos hk8]
      · rcases List.mem_append.1 hq with hq | hq
        · exact Nat.lt_succ_of_lt (hc.at_ q hq)
        · rw [List.mem_singleton.1 hq]; exact Nat.lt_succ_self k
      · rcases List.mem_append.1 hq with hq | hq
        · have := hc.at_ q hq
          rw [m9, if_neg (by omega)]; exact hc.nm q hq
        · rw [List.mem_singleton.1 hq, m9, if_pos Z, hlen]
    obtain ⟨a1, a2⟩ := jg i1 (r := [.lp c.lp.length]) hn
    refine ⟨a1, ?_⟩
    rw [a2, List.append_assoc, hlen]; rfl
  | .node s a [], k, k', h, r, c, hc => by
    obtain ⟨e1, rfl, e3, e4, e5⟩ := bQ h
    obtain rfl := cj h
    obtain rfl := c7 e4
    have hne := fg (e5.symm : bh (b.getD k default).kind = 0)
    have e : e7 (.node (b.getD k default) (k : Nat) []) r c = c := by rw [e7] <;> simp
    rw [e, fB, List.append_nil]
    exact ⟨hc.next hne.2.2, Z⟩
  | .node s a (x :: y :: z :: ks), k, k', h, r, c, hc => by
    obtain ⟨e1, rfl, e3, e4, e5⟩ := bQ h
    have h2 := (cm (b.getD k default).kind).2
    simp only [List.length_cons] at e5
    omega
theorem rb {b : List Sm} {i j : Nat} (hi : (b.getD i default).kind = 8) (hj : (b.getD j default).kind = 8) (h : aS b i = aS b j) : i = j := by
 have key : ∀ {i j : Nat}, (b.getD i default).kind = 8 → aS b i = aS b j → ¬ i < j := fun {i j} hi h hlt => by
  have h1 := eC (b := b) (show i + 1 ≤ j by omega)
  have h2 : aS b (i + 1) = aS b i + 1 := by rw [aS, if_pos hi]
  omega
 have h1 := key hi h
 have h2 := key hj h.symm
 omega
def dF (t : Tr) : Fd := e7 t [] ⟨[], []⟩
theorem jF {b : List Sm} {t : Tr} (hT : bJ b 0 = some (t, b.length)) : FdOk b b.length (dF t) ∧ (dF t).lp = aQ b t [] := by
 have h := jg hT (r := []) (c := ⟨[], []⟩) ⟨rfl, fun q hq => (by cases hq), fun q hq => (by cases hq)⟩
 exact ⟨h.1, h.2.trans (List.nil_append _)⟩
theorem sn {b : List Sm} {t : Tr} (hT : bJ b 0 = some (t, b.length)) {k : Nat} (hk : k < b.length) (h8 : (b.getD k default).kind = 8) : aS b k < (aQ b t []).length ∧ ((aQ b t []).getD (aS b k) default).a = k ∧ ((aQ b t []).getD (aS b k) default).s = b.getD k default ∧ (aQ b t []).getD (aS b k) default ∈ aQ b t [] := by
 have h1 : aS b (k + 1) = aS b k + 1 := by rw [aS, if_pos h8]
 have h2 := eC (b := b) (show k + 1 ≤ b.length by omega)
 obtain ⟨hm, ha⟩ := gJ hT (n := aS b k) (by omega)
 have hat := (po hT (r := [])).at_ _ hm
 have he := rb hat.2.2.1 h8 ha
 have hl := (jF hT).1.len
 rw [(jF hT).2] at hl
 exact ⟨by omega, he, by rw [hat.2.2.2, he], hm⟩
theorem vk {b : List Sm} {t : Tr} {pre post : List Tm} (hT : bJ b 0 = some (t, b.length)) : PcOk (lV b post) b (pre :: (dF t).lp.map (·.s.facts)) (dF t).nm := by
 refine ⟨fun k hk h8 => ?_, fun k hk h8 => ?_⟩
 obtain ⟨h1, h2, h3, h4⟩ := sn hT hk h8
 rw [(jF hT).2]
 refine ⟨by simp; exact h1, ?_⟩
 rw [List.getD_cons_succ, ← h3]
 simp [List.getD_eq_getElem?_getD, h1]
 obtain ⟨h1, h2, h3, h4⟩ := sn hT hk h8
 have := (jF hT).1.nm _ (by rw [(jF hT).2]; exact h4)
 rw [h2] at this; exact this
theorem vp {z : List Tm} (hz : z = []) : MQ h1 h2 104 [cr z] [] (Rows (.c (.rs 0 0 0)) [aE []]) := by
 refine bF (jB 8 h1 h2 Tryz.func104 Z Z Z fun O hF => ?_)
 subst hz
 refine ag (js O Z (jn (AWP.seq (ag (js O Z (oB O Z Z Z Z Z Z Z Z Z Z (fun b => ?_)))))))
 refine jn (AWP.cond O Z Z (fun hc4 => ?_) (fun hc4 => ?_))
 refine ag (js O Z (jn (AWP.ret ?_)))
 refine ⟨.inl Z, _, (fi 2 900 2 false Z Z).trans (Ent.to (e' := [(2, _)]) ⟨Z, trivial⟩ Z), _, Z, [900], by decide, Z, Z, Z⟩
 refine AWP.skip (ag (AOps.heap (bE O Z Z Z) Z (js O Z (aA (cp 5 Z) (AOps.heap (bD (own := false) (zs := []) (n := 0) O Z Z Z Z Z Z Z Z Z Z Z Z Z Z Z Z (.row Z Z) (.slc (.inl Z)) (by simp) Z (by simp) (by simp) Z Z) Z (js O Z (jn (AWP.ret ?_))))))))
 refine ⟨.inl Z, _, Ent.refl, _, Z, [7], by decide, Z, Z, Z⟩
theorem vt {L : Nat} (h1 : 4096 ≤ L) (h2 : L ≤ 1073741824) {ts : List Tm} (hl : ts.length ≤ 1000) : MC Tryz.prog L 104 [cr ts] [] (Rows (.c (.rs 0 0 ts.length)) [aE ts]) := by
 cases ts with
 | nil => exact vp h1 h2 Z
 | cons c r => exact wR h1 h2 hl
theorem vF {E : Pe} {SS : List (List Tm)} {bd lo be : D} {nm : List (Int × D)} {g : Gs} {n : Nat} {f : List Tm} (hn : n < SS.length) (hsl : SS.length ≤ 1000) (hf : SS.getD n default = f) (hl : f.length ≤ 1000) : MQ h1 h2 84 [.c (.pt 0 0 0), eI ((n : Int) - 1)] [(0, iB (br E SS bd lo be nm) g 1 2 3), (1, ax g.paths), (2, ay g.conds), (3, aL nm)] (aZ (wA ((n : Int) - 1) (w0 f) 4 5 6) [(0, iB (br E SS bd lo be nm) g 1 2 3), (1, ax g.paths), (2, ay g.conds), (3, aL nm), (4, aE (lU 4)), (5, aE f), (6, ba [])]) := by
 refine aF 500 Z (MC.keep [500,501,502,503,504,505,506] (bs := [iB (br E SS bd lo be nm) g 501 502 503, ax g.paths, ay g.conds, aL nm, aE (lU 4), aE f, ba []]) Z Z (jH 30 [500,501,502,503] h1 h2 Tryz.func84 Z Z Z Z fun O hF => ?_))
 refine bZ ?_
 refine ag (jl O Z Z Z Z Z Z (aq ?_))
 refine aP (j4 O Z Z Z Z (j2 O Z Z (aa ((bc O Z Z (by first | omega | (simp at *; omega)) (by first | omega | (simp at *; omega))).cast (v' := eI (n : Nat)) (congrArg eI (by omega))) Z Z Z (aa ((aB O Z Z Z Z Z Z Z Z (cq hn)).cast (v' := ptr [bX f]) (by rw [hf])) Z Z Z (js O Z (jf [15,7,4] Z (iA O (B0 := 17000) Z Z Z Z (vt (ts := f) h1 h2 hl) (ab Z) Z Z Z Z Z (aq ?_))))))))
 refine js O Z (jf [17,4] Z (jl O Z Z Z Z Z Z (aq ?_)))
 refine jo O Z Z Z Z Z Z Z Z Z Z Z Z (aq ?_)
 refine jn (AWP.seq (ag (js O Z (jn (AWP.block (az (X := Nat) (fun i => ⟨[(4, .c (.pt 4 0 0)), (5, .c (.pt 5 0 0)), (18, eI i)], [(4, .box [.d (.int .i64 0), .d .nils, .d .nils, .d .nils, .d .nils, .d (.int .i64 0)]), (5, .box [.d (.int .i64 ((n : Int) - 1)), .rs 904 0 i, .d .nils, .rs 905 0 f.length, .rs 906 0 0, .d (.int .i64 4)]), (500, iB (br E SS bd lo be nm) g 501 502 503), (501, ax g.paths), (502, ay g.conds), (503, aL nm), (904, aE (lU i)), (905, aE f), (906, ba [])]⟩) (fun i => i ≤ 4) (fun i => 4 - i) 0 (((cE 5 904 2 false 1 Z Z Z).trans (cE 5 906 1 true 4 Z Z Z)).trans (((aT [4,5,500,501,502,503,904,17000,906] (e' := [(4, _), (5, _), (18, _)]) Z Z ⟨Z, Z, Z, trivial⟩ Z).trans (af 17000 905 Z Z)).trans (Ent.to ⟨Z, Z, Z, trivial⟩ Z))) ?_ (fun i hi => ?_)))))))
 exact Nat.zero_le _
 have hvl := fQ (i := i)
 refine ag (js O Z (jn (AWP.seq (AWP.cond O Z Z (fun hc19 => ?_) (fun hc19 => ?_)))))
 refine AWP.skip (AWP.seq (AWP.block (ag (j2 O Z Z (jn (jE O [_,_,_,_,_,_,_,_] [pn [] 0 2, pn [0] 0 2, pn [] 0 0, pe [2] 0, pe [2,3] 1, pe [0,1,2,3,4] 2, pn [0,1,2,3,4,5] 3 3, pe [0,1,2,3,4,5,6] 3] [3,4,5,7] [_,_,_,_,_] [[], [], [904], []] (ai (ka O Z Z (ka O Z Z (kw O Z Z))) (ai (ka O Z Z (ka O Z Z (kw O Z Z))) (ka O Z Z (ai (ai (aO (bj O (B0 := 25000) Z Z Z Z (sE (k := i) h1 h2 (by have := of_decide_eq_true hc19; omega)) (ab Z) Z Z Z Z Z)) Z) (ai (ai (aO (dn O Z Z Z Z Z Z Z Z Z Z Z Z Z Z)) Z) (ai (ai (cF (own := false) (xs := (lU i).map Tm.cells) (ys := [Tm.cells (jb i)]) (zs := (lU (i + 1)).map Tm.cells) (n := i + 1) O Z Z Z Z Z Z Z Z Z Z Z Z Z Z Z Z (.row Z (by simp; omega)) (.whole Z Z (.inr ⟨Z, Z⟩)) (by simp) Z (by simp; omega) (by simp; omega) (by rw [mO]; simp) (by simp [fQ]) Z) Z) (ka O Z Z (ai (ai (aO (aC O Z Z Z Z Z Z Z Z Z Z Z Z Z)) Z) trivial)))))))) ?_))))))
 refine jw [20,19,4,5,18] Z (bZ ?_)
 refine AWP.region ?_
 first | refine ji O Z ?_ | refine aY O Z Z Z Z Z ?_
 refine js O Z (jn ?_)
 refine ⟨i + 1, ((aT [4,5,500,501,502,503,26,905,906] (e' := [(4, _), (5, _), (18, _)]) Z Z ⟨Z, Z, Z, trivial⟩ Z).trans (af 26 904 Z Z)).trans (Ent.to ⟨Z, Z, Z, trivial⟩ Z), by have := of_decide_eq_true hc19; omega, by have := of_decide_eq_true hc19; omega⟩
 refine AWP.exit (ag (js O Z (jo O Z Z Z Z Z Z Z Z Z Z Z Z (aq ?_))))
 refine jn (AWP.ret ?_)
 obtain rfl : i = 4 := by have := of_decide_eq_false hc19; omega
 refine ⟨.inl Z, _, ((af 904 504 Z Z).trans (af 905 505 Z Z)).trans (af 906 506 Z Z), _, Z, Z, Z⟩
theorem sF {E : Pe} {SS : List (List Tm)} {bd lo be : D} {nm : List (Int × D)} {g : Gs} {k : Int} (hn : 1 ≤ SS.length) (hl : SS.length ≤ 1000) : MQ h1 h2 83 [.c (.pt 0 0 0), eI k] [(0, iB (br E SS bd lo be nm) g 1 2 3), (1, ax g.paths), (2, ay g.conds), (3, aL nm)] (aZ (eB (ga (-1) ((SS.length : Int) - 2) k)) [(0, iB (br E SS bd lo be nm) g 1 2 3), (1, ax g.paths), (2, ay g.conds), (3, aL nm)]) := by
 refine aF 500 Z (MC.keep [500,501,502,503] (bs := [iB (br E SS bd lo be nm) g 501 502 503, ax g.paths, ay g.conds, aL nm]) Z Z (jH 14 [500,501,502,503] h1 h2 Tryz.func83 Z Z Z Z fun O hF => ?_))
 refine bZ ?_
 refine ag (js O Z (aP (j4 O Z Z Z Z (js O Z ?_))))
 first | refine cy O Z Z Z Z Z Z Z Z Z Z Z ?_ | refine js O Z ?_ | refine aY O Z Z Z Z Z ?_
 refine jf [10,5,4] Z (ae O Z Z Z Z (uX (n := SS.length) h1 h2) (ab Z) Z Z Z Z Z (B0 := 12000) Z ?_)
 first | refine ji O Z ?_ | refine aY O Z Z Z Z Z ?_
 refine jf [12,5,4] Z (ae O Z Z Z Z (qp (x := k) (lo := -1) (hi := (SS.length : Int) - 2) h1 h2) (ab Z) Z Z Z Z Z (B0 := 14000) Z (js O Z (jf [4] Z (jn (AWP.ret ?_)))))
 refine ⟨.inl Z, _, Ent.refl, _, Z, Z, Z⟩
theorem vE {c : Pc} {g g' : Gs} {frm : Int} {w : Pw} {s : Sm} {a : Int} {x : Tr} {k : Nat} (ih : j8 L c frm w g (fD [.st x, .lp k]) g') : MQ h1 h2 88 [wA frm w 4 5 6, .c (.pt 7 0 0), .c (.pt 8 0 0), .c (.pt 9 0 0)] (iT c g w (Tr.d (.node s a [x])) (.int .i64 (k : Nat))) (aZ (.tup []) (oT c g' (Tr.d (.node s a [x])) (.int .i64 (k : Nat)))) := by
 refine aF 500 Z (MC.keep [500,503,507,508,509,510,511] (bs := [iB c g' 510 511 503, aL c.num, pB 500, xB (Tr.d (.node s a [x])), xB (.int .i64 (k : Nat)), ax g'.paths, ay g'.conds]) Z Z (jH 19 [500,501,502,503,504,505,506,507,508,509] h1 h2 Tryz.func88 Z Z Z Z fun O hF => ?_))
 refine bZ ?_
 refine ag (jx O Z Z Z Z Z Z Z Z (aq ?_))
 refine jn (jE O [_,_,_,_,_,_,_,_,_,_,_,_,_,_] [pn [] 0 2, pn [] 0 2, pn [] 0 1, pn [2] 0 1, pn [2,3] 0 1, pn [2,3,4] 0 1, pn [2,3,4,5] 0 1, pn [2,3,4,5,6] 0 1, pn [] 0 0, pn [8] 0 0, pe [8,9] 0, pn [2,3,4,5,6,7,8,9,10] 1 1, pe [2,3,4,5,6,7,8,9,10,11] 1, pe [0,1,2,3,4,5,6,7,8,9,10,11,12] 2] [10,12,13] [_,_,_,_] [[], [], [501,502,504,505,506,17,15]] (ai (ka O Z Z (ka O Z Z (kw O Z Z))) (ai (ka O Z Z (ka O Z Z (kw O Z Z))) (ai (ka O Z Z (kw O Z Z)) (ai (ka O Z Z (kw O Z Z)) (ai (ka O Z Z (kw O Z Z)) (ai (ka O Z Z (kw O Z Z)) (ai (ai (ai (aV O Z Z Z Z Z Z Z Z (by simp [Trs.d]) Z) Z) (ai (aV O Z Z Z Z Z Z Z Z (by simp [Trs.d]) Z) Z)) (ai (ka O Z Z (kw O Z Z)) (ka O Z Z (ka O Z Z (ai (ai (aO (Eff.box O Z Z Z Z Z Z Z Z)) Z) (ka O Z Z (ai (ai (aO (Eff.box O Z Z Z Z Z Z Z Z)) Z) (ai (ai (bM O [500,501,502,503,504,505,506,17,15] [501,502,504,505,506,17,15] (bin := [iB c g 1 2 3, ax g.paths, ay g.conds, aL c.num, aE w.vars, aE w.facts, ba w.ev, .box [.d x.d, .d (.int .i64 0), .pt 8 0 0], rG .nilp (.int .i64 (k : Nat)) .nilp]) Z Z Z Z (tn ih) Z Z Z Z Z (B0 := 19000) Z Z Z Z Z Z Z) Z) trivial)))))))))))))) ?_)
 show _ ∧ _
 apply gm
 repeat' (first | apply HN.cons Z | exact HN.nil Z | exact BN.row Z | exact BN.map Z | apply BN.box Z | apply MN.cons Z | exact MN.nil Z | exact XN.d Z | exact XN.rs Z | exact c5)
 refine ⟨.inr Z, _, (af 19010 510 Z Z).trans (af 19011 511 Z Z), _, Z, Z, Z⟩
theorem vD {E : Pe} {SS : List (List Tm)} {bd lo : D} {RS : List (List Fr)} {nm : List (Int × D)} {g g' : Gs} {frm : Int} {w : Pw} {d8 : D} {k : Nat} {r : List Fr} (hk : k < RS.length) (hr : RS.getD k default = r) (ih : j8 L (br E SS bd lo (.slc 1 (RS.map fun r => [fD r])) nm) frm w g (fD r) g') : MQ h1 h2 89 [wA frm w 4 5 6, .c (.pt 7 0 0), .c (.pt 9 0 0)] (iT (br E SS bd lo (.slc 1 (RS.map fun r => [fD r])) nm) g w d8 (.int .i64 (k : Nat))) (aZ (.tup []) (oT (br E SS bd lo (.slc 1 (RS.map fun r => [fD r])) nm) g' d8 (.int .i64 (k : Nat)))) := by
 refine aF 500 Z (MC.keep [500,503,507,508,509,510,511] (bs := [iB (br E SS bd lo (.slc 1 (RS.map fun r => [fD r])) nm) g' 510 511 503, aL nm, pB 500, xB d8, xB (.int .i64 (k : Nat)), ax g'.paths, ay g'.conds]) Z Z (jH 14 [500,501,502,503,504,505,506,507,508,509] h1 h2 Tryz.func89 Z Z Z Z fun O hF => ?_))
 refine bZ ?_
 refine ag (jx O Z Z Z Z Z Z Z Z (aq ?_))
 refine jn (jE O [_,_,_,_,_,_,_,_,_,_] [pn [] 0 0, pn [] 0 0, pn [] 0 0, pn [2] 0 0, pn [2,3] 0 0, pn [2,3,4] 0 0, pn [] 0 0, pn [2,3,4,5,6] 0 0, pn [2,3,4,5,6,7] 0 0, pe [0,1,2,3,4,5,6,7,8] 0] [9] [_,_] [[501,502,504,505,506]] (ka O Z Z (ka O Z Z (ka O Z Z (ka O Z Z (ka O Z Z (ka O Z Z (ka O Z Z (ai (ai ((aB O Z Z Z Z Z Z Z Z (cq hk)).cast (v' := ptr [fD r]) (by rw [hr])) Z) (ka O Z Z (ai (ai (bM O [500,501,502,503,504,505,506] [501,502,504,505,506] (bin := [iB (br E SS bd lo (.slc 1 (RS.map fun r => [fD r])) nm) g 1 2 3, ax g.paths, ay g.conds, aL nm, aE w.vars, aE w.facts, ba w.ev]) Z Z Z Z (ih) Z Z Z Z Z (B0 := 14000) Z Z Z Z Z Z Z) Z) trivial)))))))))) ?_)
 show _ ∧ _
 apply gm
 repeat' (first | apply HN.cons Z | exact HN.nil Z | exact BN.row Z | exact BN.map Z | apply BN.box Z | apply MN.cons Z | exact MN.nil Z | exact XN.d Z | exact XN.rs Z | exact c5)
 refine ⟨.inr Z, _, (af 14010 510 Z Z).trans (af 14011 511 Z Z), _, Z, Z, Z⟩
set_option maxHeartbeats 8000000
theorem l5 {L : Nat} (h1 : 4096 ≤ L) (h2 : L ≤ 1073741824) {E : Pe} {SS : List (List Tm)} {bd lo be : D} {nm : List (Int × D)} {g : Gs} {n : Nat} {f : List Tm} {w : Pw} {frm : Int} (hw : w0 f = w) (hn : n < SS.length) (hsl : SS.length ≤ 1000) (hf : SS.getD n default = f) (hl : f.length ≤ 1000) (hfr : frm = (n : Int) - 1) : MC Tryz.prog L 84 [.c (.pt 0 0 0), eI frm] [(0, iB (br E SS bd lo be nm) g 1 2 3), (1, ax g.paths), (2, ay g.conds), (3, aL nm)] (aZ (wA frm w 4 5 6) [(0, iB (br E SS bd lo be nm) g 1 2 3), (1, ax g.paths), (2, ay g.conds), (3, aL nm), (4, aE w.vars), (5, aE w.facts), (6, ba w.ev)]) := by
 subst hw; subst hfr; exact vF h1 h2 hn hsl hf hl
theorem tI {E : Pe} {SS : List (List Tm)} {LP : List Lp} {bd : D} {nm : List (Int × D)} {g : Gs} {f : List Tm} {w : Pw} {t : Tr} {G : Gs} (hw : w0 f = w) (hn : 0 < SS.length) (hsl : SS.length ≤ 1000) (hf : SS.getD 0 default = f) (hfl : f.length ≤ 1000) (hbd : bd = t.d) (ih : j8 L (br E SS bd (.slc 1 (LP.map fun q => [f9 q])) (.slc 1 ((LP.map (·.r)).map fun r => [fD r])) nm) (-1) w g (fD [.st t]) G) : MQ h1 h2 59 [.c (.pt 0 0 0), eI (-1)] [(0, iB (br E SS bd (.slc 1 (LP.map fun q => [f9 q])) (.slc 1 ((LP.map (·.r)).map fun r => [fD r])) nm) g 1 2 3), (1, ax g.paths), (2, ay g.conds), (3, aL nm)] (aZ (.tup []) (oF (br E SS bd (.slc 1 (LP.map fun q => [f9 q])) (.slc 1 ((LP.map (·.r)).map fun r => [fD r])) nm) G)) := by
 refine aF 500 Z (MC.keep [500,503,510,511] (R := .tup []) (bs := [iB (br E SS bd (.slc 1 (LP.map fun q => [f9 q])) (.slc 1 ((LP.map (·.r)).map fun r => [fD r])) nm) G 510 511 503, aL nm, ax G.paths, ay G.conds]) Z Z (jH 45 [500,501,502,503] h1 h2 Tryz.func59 Z Z Z Z fun O hF => ?_))
 subst hbd
 refine bZ ?_
 refine ag (jx O Z Z Z Z Z Z Z Z (aq ?_))
 refine jf [2,1] Z (jx O Z Z Z Z Z Z Z Z (aq ?_))
 refine jn (AWP.seq (oG O [_,_,_,_,_,_,_] [pn [] 0 0, pn [0] 0 0, pn [0,1] 0 0, pn [] 0 0, pe [0,1,2,3] 0, pn [] 0 1, pe [0,1,2,3,4,5] 1] [4,6] 5 4 (.box [.d (.int .i64 0), .d .nils, .d .nils, .d .nils, .d .nils, .d (.int .i64 0)]) [_,_] [_] [[], []] (kf O Z Z Z (kf O Z Z Z (kf O Z Z Z (kf O Z Z Z (ai (ai (aJ (aO (b0 O [500,501,502,503] (bin := [iB (br E SS t.d (.slc 1 (LP.map fun q => [f9 q])) (.slc 1 ((LP.map (·.r)).map fun r => [fD r])) nm) g 1 2 3, ax g.paths, ay g.conds, aL nm]) Z Z Z Z (l5 (E := E) (SS := SS) (bd := t.d) (lo := (.slc 1 (LP.map fun q => [f9 q]))) (be := (.slc 1 ((LP.map (·.r)).map fun r => [fD r]))) (nm := nm) (g := g) (n := 0) (f := f) (w := w) h1 h2 hw hn hsl hf hfl Z) Z Z Z Z Z (B0 := 11000) Z Z Z Z Z Z)) (aO (b0 O [500,501,502,503] (bin := [iB (br E SS t.d (.slc 1 (LP.map fun q => [f9 q])) (.slc 1 ((LP.map (·.r)).map fun r => [fD r])) nm) g 1 2 3, ax g.paths, ay g.conds, aL nm]) Z Z Z Z (l5 (E := E) (SS := SS) (bd := t.d) (lo := (.slc 1 (LP.map fun q => [f9 q]))) (be := (.slc 1 ((LP.map (·.r)).map fun r => [fD r]))) (nm := nm) (g := g) (n := 0) (f := f) (w := w) h1 h2 hw hn hsl hf hfl Z) Z Z Z Z Z (B0 := 11000) Z Z Z Z Z Z))) Z) (ai (ai (ai (aO (Eff.alloc O Z Z Z Z Z Z)) Z) (ai (aO (Eff.alloc O Z Z Z Z Z Z)) Z)) (ai (ai (aJ trivial (aO (aC O Z Z Z Z Z Z Z Z Z Z Z Z Z))) Z) trivial))))))) ?_))
 refine jw [4,3,2,1] Z (bZ ?_)
 refine AWP.seq (ag (j2 O Z Z (jn (AWP.cond O Z Z (fun hc12 => ?_) (fun hc12 => ?_)))))
 refine AWP.seq (jw [11,4,3,2,1] Z (jE O [_,_,_,_,_,_,_,_,_] [pn [] 0 1, pn [] 0 1, pn [] 0 0, pn [2] 0 0, pn [2,3] 0 0, pn [2,3,4] 0 0, pn [2,3,4,5] 0 0, pe [2,3,4,5,6] 0, pe [0,1,2,3,4,5,6,7] 1] [7,8] [_,_,_] [[], [501,502,11004,11005,11006,20]] (ai (ka O Z Z (kw O Z Z)) (ai (ka O Z Z (kw O Z Z)) (ka O Z Z (ka O Z Z (ka O Z Z (ka O Z Z (ka O Z Z (ai (ai (aO (Eff.box O Z Z Z Z Z Z Z Z)) Z) (ai (ai (bM O [500,501,502,503,11004,11005,11006,20] [501,502,11004,11005,11006,20] (bin := [iB (br E SS t.d (.slc 1 (LP.map fun q => [f9 q])) (.slc 1 ((LP.map (·.r)).map fun r => [fD r])) nm) g 1 2 3, ax g.paths, ay g.conds, aL nm, aE w.vars, aE w.facts, ba w.ev, rG t.d (.int .i64 0) .nilp]) Z Z Z Z (oN ih) Z Z Z Z Z (B0 := 22000) Z Z Z Z Z Z Z) Z) trivial))))))))) ?_))
 refine jw [11,4,3,2,1] Z (bZ ?_)
 refine AWP.ret ?_
 refine ⟨.inl Z, _, (af 22010 510 Z Z).trans (af 22011 511 Z Z), _, Z, Z, Z⟩
 exact absurd hc12 (by decide)
theorem tH {E : Pe} {SS : List (List Tm)} {LP : List Lp} {bd : D} {nm : List (Int × D)} {g : Gs} {f : List Tm} {w : Pw} {k : Nat} {q : Lp} {Y N : Pw → Gs → Gs} (hw : w0 f = w) (hk : k < LP.length) (hq : LP.getD k default = q) (hn : k + 1 < SS.length) (hsl : SS.length ≤ 1000) (hf : SS.getD (k + 1) default = f) (hfl : f.length ≤ 1000) (hs : q.s.sum.ok = true ∧ q.s.sum.xs.length ≤ 4) (hkl : k ≤ 1000) (hY : j7 Y) (hN : j7 N)
  (hy : (bS w (aG q.s.sum w.vars).1 (aR w q.s.sum g)).bad = false → j8 L (br E SS bd (.slc 1 (LP.map fun q => [f9 q])) (.slc 1 ((LP.map (·.r)).map fun r => [fD r])) nm) (k : Nat) (w.fact (aG q.s.sum w.vars).1) (bS w (aG q.s.sum w.vars).1 (aR w q.s.sum g)) (fD [.st q.x, .lp k]) (Y (w.fact (aG q.s.sum w.vars).1) (bS w (aG q.s.sum w.vars).1 (aR w q.s.sum g)))) (hn2 : (Y (w.fact (aG q.s.sum w.vars).1) (bS w (aG q.s.sum w.vars).1 (aR w q.s.sum g))).bad = false → j8 L (br E SS bd (.slc 1 (LP.map fun q => [f9 q])) (.slc 1 ((LP.map (·.r)).map fun r => [fD r])) nm) (k : Nat) (w.fact (bo (aG q.s.sum w.vars).1).1) (Y (w.fact (aG q.s.sum w.vars).1) (bS w (aG q.s.sum w.vars).1 (aR w q.s.sum g))) (fD q.r) (N (w.fact (bo (aG q.s.sum w.vars).1).1) (Y (w.fact (aG q.s.sum w.vars).1) (bS w (aG q.s.sum w.vars).1 (aR w q.s.sum g))))) :
  MQ h1 h2 59 [.c (.pt 0 0 0), eI (k : Nat)] [(0, iB (br E SS bd (.slc 1 (LP.map fun q => [f9 q])) (.slc 1 ((LP.map (·.r)).map fun r => [fD r])) nm) g 1 2 3), (1, ax g.paths), (2, ay g.conds), (3, aL nm)] (aZ (.tup []) (oF (br E SS bd (.slc 1 (LP.map fun q => [f9 q])) (.slc 1 ((LP.map (·.r)).map fun r => [fD r])) nm) (cT Y N w (aG q.s.sum w.vars).1 (aR w q.s.sum g)))) := by
 refine aF 500 Z (MC.keep [500,503,510,511] (R := .tup []) (bs := [iB (br E SS bd (.slc 1 (LP.map fun q => [f9 q])) (.slc 1 ((LP.map (·.r)).map fun r => [fD r])) nm) (cT Y N w (aG q.s.sum w.vars).1 (aR w q.s.sum g)) 510 511 503, aL nm, ax (cT Y N w (aG q.s.sum w.vars).1 (aR w q.s.sum g)).paths, ay (cT Y N w (aG q.s.sum w.vars).1 (aR w q.s.sum g)).conds]) Z Z (jH 45 [500,501,502,503] h1 h2 Tryz.func59 Z Z Z Z fun O hF => ?_))
 have hv4 : w.vars.length = 4 := by rw [← hw]; exact fQ
 have hfw : w.facts.length ≤ 1000 := by rw [← hw]; exact hfl
 have hew : w.ev.length ≤ 1000 := by rw [← hw]; exact Nat.zero_le _
 have hva := md (w := w) ⟨by rw [← hw]; show ∀ t ∈ lU 4, t.ok = true; decide, by omega⟩ hv4
 refine bZ ?_
 refine ag (jx O Z Z Z Z Z Z Z Z (aq ?_))
 refine jf [2,1] Z (jx O Z Z Z Z Z Z Z Z (aq ?_))
 refine jn (AWP.seq (oG O [_,_,_,_,_,_,_] [pn [] 0 0, pn [0] 0 0, pn [0,1] 0 0, pn [] 0 0, pe [0,1,2,3] 0, pn [] 0 1, pe [0,1,2,3,4,5] 1] [4,6] 5 4 (.box [.d (.int .i64 0), .d .nils, .d .nils, .d .nils, .d .nils, .d (.int .i64 0)]) [_,_] [_] [[], []] (kf O Z Z Z (kf O Z Z Z (kf O Z Z Z (kf O Z Z Z (ai (ai (aJ (aO (b0 O [500,501,502,503] (bin := [iB (br E SS bd (.slc 1 (LP.map fun q => [f9 q])) (.slc 1 ((LP.map (·.r)).map fun r => [fD r])) nm) g 1 2 3, ax g.paths, ay g.conds, aL nm]) Z Z Z Z (l5 (E := E) (SS := SS) (bd := bd) (lo := (.slc 1 (LP.map fun q => [f9 q]))) (be := (.slc 1 ((LP.map (·.r)).map fun r => [fD r]))) (nm := nm) (g := g) (n := k + 1) (f := f) (w := w) h1 h2 hw hn hsl hf hfl (by omega)) Z Z Z Z Z (B0 := 11000) Z Z Z Z Z Z)) (aO (b0 O [500,501,502,503] (bin := [iB (br E SS bd (.slc 1 (LP.map fun q => [f9 q])) (.slc 1 ((LP.map (·.r)).map fun r => [fD r])) nm) g 1 2 3, ax g.paths, ay g.conds, aL nm]) Z Z Z Z (l5 (E := E) (SS := SS) (bd := bd) (lo := (.slc 1 (LP.map fun q => [f9 q]))) (be := (.slc 1 ((LP.map (·.r)).map fun r => [fD r]))) (nm := nm) (g := g) (n := k + 1) (f := f) (w := w) h1 h2 hw hn hsl hf hfl (by omega)) Z Z Z Z Z (B0 := 11000) Z Z Z Z Z Z))) Z) (ai (ai (ai (aO (Eff.alloc O Z Z Z Z Z Z)) Z) (ai (aO (Eff.alloc O Z Z Z Z Z Z)) Z)) (ai (ai (aJ trivial (aO (aC O Z Z Z Z Z Z Z Z Z Z Z Z Z))) Z) trivial))))))) ?_))
 refine jw [4,3,2,1] Z (bZ ?_)
 refine AWP.seq (ag (j2 O Z Z (jn (AWP.cond O Z Z (fun hc12 => ?_) (fun hc12 => ?_)))))
 exact absurd (of_decide_eq_true hc12) (by omega)
 refine AWP.skip (AWP.seq (jw [11,4,3,2,1] Z (oG O [_,_,_,_,_,_,_,_,_] [pn [] 0 0, pn [0] 0 0, pn [0,1] 0 0, pn [0,1,2] 0 0, pn [] 0 0, pn [0,1,2,3,4] 0 0, pn [0,1,2,3,4,5] 0 0, pn [] 0 0, pe [0,1,2,3,4,5,6,7] 0] [8] 7 5 (.box [.d .nilp]) [_] [_] [] (kf O Z Z Z (kf O Z Z Z (kf O Z Z Z (kf O Z Z Z (kf O Z Z Z (ai (ai (aJ ((aB O Z Z Z Z Z Z Z Z (cq hk)).cast (v' := ptr [f9 q]) (by rw [hq])) ((aB O Z Z Z Z Z Z Z Z (cq hk)).cast (v' := ptr [f9 q]) (by rw [hq]))) Z) (kf O Z Z Z (ai (ai (aO (Eff.alloc O Z Z Z Z Z Z)) Z) (ai (ai (aJ trivial (aO (aC O Z Z Z Z Z Z Z Z Z Z Z Z Z))) Z) trivial))))))))) ?_)))
 refine jw [5,11,4,3,2,1] Z (bZ ?_)
 have hrr : (LP.map (·.r)).getD k default = q.r := by rw [← hq]; simp [List.getD_eq_getElem?_getD, hk]
 have hT := tE (c := (br E SS bd (.slc 1 (LP.map fun q => [f9 q])) (.slc 1 ((LP.map (·.r)).map fun r => [fD r])) nm)) (g := (aR w q.s.sum g)) (frm := (k : Nat)) (w := w) (t := (aG q.s.sum w.vars).1) (d8 := f9 q) (d9 := .int .i64 (k : Nat)) (Y := Y) (N := N) h1 h2 hY hN dq (by omega) hfw hew (fun h => vE h1 h2 (hy h)) (fun h => vD (d8 := f9 q) h1 h2 (k := k) (by rw [List.length_map]; exact hk) hrr (hn2 h))
 refine jE O [_,_,_,_,_,_,_,_,_,_,_,_,_,_,_,_] [pn [] 0 1, pn [0] 0 1, pn [0,1] 0 1, pn [] 0 1, pn [] 0 0, pn [4] 0 0, pn [4,5] 0 0, pn [] 0 0, pn [7] 0 0, pn [7,8] 0 0, pn [7,8,9] 0 0, pn [7,8,9,10] 0 0, pe [4,5,6,7,8,9,10,11] 0, pn [] 0 1, pn [] 0 1, pe [0,1,2,3,4,5,6,7,8,9,10,11,12,13,14] 1] [12,15] [_, [(2, pB 500), (3, xB (.int .i64 (k : Nat))), (5, xB (f9 q)), (500, iB (br E SS bd (.slc 1 (LP.map fun q => [f9 q])) (.slc 1 ((LP.map (·.r)).map fun r => [fD r])) nm) (aR w q.s.sum g) 501 502 503), (501, ax (aR w q.s.sum g).paths), (502, ay (aR w q.s.sum g).conds), (503, aL nm), (4, iW (k : Nat) w 11004 11005 11006), (11004, aE w.vars), (11005, aE w.facts), (11006, ba w.ev)], _] [[], [501,502,11004,11005,11006]] (ai (ka O Z Z (kw O Z Z)) (ai (ka O Z Z (kw O Z Z)) (ai (ka O Z Z (kw O Z Z)) (ai (ka O Z Z (kw O Z Z)) (ka O Z Z (ka O Z Z (ka O Z Z (ka O Z Z (ka O Z Z (ka O Z Z (ka O Z Z (ka O Z Z (ai (ai (aO (b0 O [500,501,502,503,4,11004,11005,11006] (bin := [iB (br E SS bd (.slc 1 (LP.map fun q => [f9 q])) (.slc 1 ((LP.map (·.r)).map fun r => [fD r])) nm) g 1 2 3, ax g.paths, ay g.conds, aL nm, iW (k : Nat) w 5 6 7, aE w.vars, aE w.facts, ba w.ev]) Z Z Z Z (jI (c := (br E SS bd (.slc 1 (LP.map fun q => [f9 q])) (.slc 1 ((LP.map (·.r)).map fun r => [fD r])) nm)) (g := g) (frm := (k : Nat)) (w := w) (t := q.s.sum) h1 h2 hs.1 hva (by have := hs.2; omega)) Z Z Z Z Z (B0 := 42000) Z Z Z Z Z Z)) Z) (ai (ka O Z Z (kw O Z Z)) (ai (ka O Z Z (kw O Z Z)) (ai (ai (bM O [500,501,502,503,11004,11005,11006,2,5,3] [501,502,11004,11005,11006] (bin := [iB (br E SS bd (.slc 1 (LP.map fun q => [f9 q])) (.slc 1 ((LP.map (·.r)).map fun r => [fD r])) nm) (aR w q.s.sum g) 1 2 3, ax (aR w q.s.sum g).paths, ay (aR w q.s.sum g).conds, aL nm, aE w.vars, aE w.facts, ba w.ev, pB 0, xB (f9 q), xB (.int .i64 (k : Nat))]) Z Z Z Z (hT) Z Z Z Z Z (B0 := 45000) Z Z Z Z Z Z Z) Z) trivial)))))))))))))))) ?_
 show _ ∧ _
 apply gm
 repeat' (first | apply HN.cons Z | exact HN.nil Z | exact BN.row Z | exact BN.map Z | apply BN.box Z | apply MN.cons Z | exact MN.nil Z | exact XN.d Z | exact XN.rs Z | exact c5)
 refine ⟨.inr Z, _, (af 45010 510 Z Z).trans (af 45011 511 Z Z), _, Z, Z, Z⟩
abbrev kX (p : Pm) (t : Tr) : Pc := br (lV p.body p.post) (p.pre :: (dF t).lp.map (·.s.facts)) t.d (.slc 1 ((dF t).lp.map fun q => [f9 q])) (.slc 1 (((dF t).lp.map (·.r)).map fun r => [fD r])) (dF t).nm
abbrev qi (p : Pm) (t : Tr) (g : Gs) : List (Nat × B) := [(0, iB (kX p t) g 1 2 3), (1, ax g.paths), (2, ay g.conds), (3, aL (dF t).nm)]
abbrev mE (p : Pm) (t : Tr) (g : Gs) : List (Nat × B) := [(0, iB (kX p t) g 10 11 3), (3, aL (dF t).nm), (10, ax g.paths), (11, ay g.conds)]
theorem qN {p : Pm} {t : Tr} (hp : dJ p = true) (htd : rC p.body = t.d) (ht : PtOk p t) : MQ h1 h2 57 [aPm p] [] (aZ (.tup [.c (.pt 0 0 0), eB true]) (qi p t g0)) := by
 refine aF 500 Z (MC.keep [500,501,502,503] (bs := [iB (kX p t) g0 501 502 503, ax [], ay [], aL (dF t).nm]) Z Z (jB 30 h1 h2 Tryz.func57 Z Z Z fun O hF => ?_))
 have hfd := lq (L := L) h1 h2 ht.tree (r := []) (c := ⟨[], []⟩) (by have := ht.nodes; show 0 + _ ≤ _; omega) (post := bX p.post) (bd := t.d) (pre := p.pre)
 refine ag (jx O Z Z Z Z Z Z Z Z (aq ?_))
 refine aA (Ent.freeze 1 (e' := [(1, _), (0, _)]) Z (.cons Z (.c (.box (cs := Pm.data p) Z (aw Z))) (.cons Z (.keep Z) .nil)) (.skip .nil)) ?_
 refine aq ?_
 refine j2 O Z Z (jn (AWP.seq (ag (js O Z (ae O Z Z Z Z ((uZ (p := p) h1 h2).plain (u := eB true) (by rw [hp])) (ab Z) Z Z Z Z Z (B0 := 9000) Z (js O Z (jf [9,3,2,1,0] Z (jn (AWP.cond O Z Z (fun hc9 => ?_) (fun hc9 => ?_))))))))))
 cases hc9
 refine AWP.skip (ag (j2 O Z Z (jf [12,3,2,1,0] Z (ao O Z Z Z Z (uY h1 h2) (ab Z) Z Z Z Z (B0 := 14000) Z Z ?_))))
 rw [htd]
 refine j4 O Z Z Z Z (js O Z (jf [4,3,2,1,0] Z (aP (j4 O Z Z Z Z (jf [19,17,4,3,2,1,0] Z (AOps.heap (dO O Z Z Z Z Z Z Z Z Z Z Z) Z (aq ?_)))))))
 refine j2 O Z Z (jf [22,21,4,3,2,1,0] Z (AOps.heap (HS.makeMap O Z Z Z Z) Z (aq ?_)))
 refine aq ?_
 refine js O Z (jf [24,4,3,2,1,0] Z (jx O Z Z Z Z Z Z Z Z (aq ?_)))
 refine js O Z (jf [6,4,3,2,1,0] Z (aP (j2 O Z Z (aA (cE 25 902 1 false 6 Z Z Z) (aq ?_)))))
 refine aA (cE 25 903 1 false 7 Z Z Z) (aq ?_)
 refine ap O [25,20,902,903,23] (bin := [zB (bX p.post) t.d ⟨[], []⟩ 1 2 3 4, qc p.pre ⟨[], []⟩, qd ⟨[], []⟩, qf ⟨[], []⟩, aL []]) Z Z Z Z (hfd.1) Z Z Z Z Z Z (B0 := 29000) Z Z (aq ?_)
 refine jf [6,4,3,2,1,0] Z (aP (aA (Ent.freeze 29010 (e' := [(6, _)]) Z (.cons Z (.keep Z) .nil) (.cons Z (.box (.cons (.keep Z) (.cons (.row Z (by simp)) (.cons (.keep Z) (.cons (.keep Z) (.cons (.keep Z) (.cons (.keep Z) (.cons (.keep Z) (.cons (.keep Z) (.cons (.keep Z) .nil)))))))))) (.cons Z .map (.skip (.cons Z .row (.cons Z .row .nil)))))) ?_))
 refine aA (Ent.freeze 29011 (e' := [(6, _)]) Z (.cons Z (.keep Z) .nil) (.cons Z (.box (.cons (.keep Z) (.cons (.keep Z) (.cons (.keep Z) (.cons (.keep Z) (.cons (.keep Z) (.cons (.keep Z) (.cons (.row Z (by simp)) (.cons (.keep Z) (.cons (.keep Z) .nil)))))))))) (.cons Z .map (.skip (.cons Z .row .nil))))) ?_
 refine aA (Ent.freeze 29012 (e' := [(6, _)]) Z (.cons Z (.keep Z) .nil) (.cons Z (.box (.cons (.keep Z) (.cons (.keep Z) (.cons (.keep Z) (.cons (.keep Z) (.cons (.keep Z) (.cons (.keep Z) (.cons (.keep Z) (.cons (.row Z (by simp)) (.cons (.keep Z) .nil)))))))))) (.cons Z .map (.skip .nil)))) ?_
 refine aA (cE 25 901 5 true 2 Z Z Z) (aq ?_)
 refine aA (cE 25 904 3 true 3 Z Z Z) (aq ?_)
 refine j3 O Z Z Z (jn (AWP.ret ?_))
 refine ⟨.inl Z, _, (((af 25 500 Z Z).trans (af 901 501 Z Z)).trans (af 904 502 Z Z)).trans (af 23 503 Z Z), _, Z, Z, Z⟩
theorem tL {p : Pm} (hp : dJ p = false) : MQ h1 h2 57 [aPm p] [] (Plain (.tup [.c (.d .nilp), eB false])) := by
 refine MC.data (jB 30 h1 h2 Tryz.func57 Z Z Z fun O hF => ?_)
 refine ag (jx O Z Z Z Z Z Z Z Z (aq ?_))
 refine aA (Ent.freeze 1 (e' := [(1, _), (0, _)]) Z (.cons Z (.c (.box (cs := Pm.data p) Z (aw Z))) (.cons Z (.keep Z) .nil)) (.skip .nil)) ?_
 refine aq ?_
 refine j2 O Z Z (jn (AWP.seq (ag (js O Z (ae O Z Z Z Z ((uZ (p := p) h1 h2).plain (u := eB false) (by rw [hp])) (ab Z) Z Z Z Z Z (B0 := 9000) Z (js O Z (jf [9,3,2,1,0] Z (jn (AWP.cond O Z Z (fun hc9 => ?_) (fun hc9 => ?_))))))))))
 refine ag (j2 O Z Z (jn (AWP.ret ?_)))
 refine ⟨.inl Z, _, Ent.refl, _, Z, ?_⟩
 exact .tup (.cons (.c .d) (.cons (.c .d) .nil))
 cases hc9
theorem qM {p : Pm} {t : Tr} {k : Int} {g : Gs} (hl : (p.pre :: (dF t).lp.map (·.s.facts)).length ≤ 1000) (hs : (ga (-1) (((p.pre :: (dF t).lp.map (·.s.facts)).length : Int) - 2) k) = false) : MQ h1 h2 58 [.c (.pt 0 0 0), eB false, eI k, .c (.fb 59 [.pt 0 0 0])] (qi p t g) (aZ (eB false) (mE p t g)) := by
 refine aF 500 Z (MC.keep [500,503,510,511] (bs := [iB (kX p t) g 510 511 503, aL (dF t).nm, ax g.paths, ay g.conds]) Z Z (jH 41 [500,501,502,503] h1 h2 Tryz.func58 Z Z Z Z fun O hF => ?_))
 refine bZ ?_
 refine ag (js O Z (jn (AWP.seq (ag (j2 O Z Z (jf [11,8,0,2,3] Z (jn (AWP.cond O Z Z (fun hc11 => ?_) (fun hc11 => ?_)))))))))
 refine AWP.seq (ag (j2 O Z Z (jf [13,12,8,0,2,3] Z (ap O [500,501,502,503] (bin := [iB (kX p t) g 1 2 3, ax g.paths, ay g.conds, aL (dF t).nm]) Z Z Z Z (sF (E := lV p.body p.post) (SS := (p.pre :: (dF t).lp.map (·.s.facts))) (bd := t.d) (lo := .slc 1 ((dF t).lp.map fun q => [f9 q])) (be := .slc 1 (((dF t).lp.map (·.r)).map fun r => [fD r])) (nm := (dF t).nm) (g := g) (k := k) h1 h2 (by simp) hl) Z Z Z Z Z Z (B0 := 15000) Z Z (aq ?_)))))
 refine js O Z (jf [15,8,0,2,3] Z (jn (AWP.cond O Z Z (fun hc15 => ?_) (fun hc15 => ?_))))
 refine ag (js O Z (jn (AWP.ret ?_)))
 refine ⟨.inl Z, _, (af 501 510 Z Z).trans (af 502 511 Z Z), _, Z, Z, Z⟩
 exact absurd hc15 (by rw [hs]; decide)
 cases hc11
theorem tJ {p : Pm} {t : Tr} {k : Int} {g : Gs} (hl : (p.pre :: (dF t).lp.map (·.s.facts)).length ≤ 1000) {g' : Gs} (hs : (ga (-1) (((p.pre :: (dF t).lp.map (·.s.facts)).length : Int) - 2) k) = true) (ih : MQ h1 h2 59 [.c (.pt 0 0 0), eI k] (qi p t g) (aZ (.tup []) (mE p t g'))) : MQ h1 h2 58 [.c (.pt 0 0 0), eB false, eI k, .c (.fb 59 [.pt 0 0 0])] (qi p t g) (aZ (eB (!g'.bad)) (mE p t g')) := by
 refine aF 500 Z (MC.keep [500,503,510,511] (bs := [iB (kX p t) g' 510 511 503, aL (dF t).nm, ax g'.paths, ay g'.conds]) Z Z (jH 41 [500,501,502,503] h1 h2 Tryz.func58 Z Z Z Z fun O hF => ?_))
 refine bZ ?_
 refine ag (js O Z (jn (AWP.seq (ag (j2 O Z Z (jf [11,8,0,2,3] Z (jn (AWP.cond O Z Z (fun hc11 => ?_) (fun hc11 => ?_)))))))))
 refine AWP.seq (ag (j2 O Z Z (jf [13,12,8,0,2,3] Z (ap O [500,501,502,503] (bin := [iB (kX p t) g 1 2 3, ax g.paths, ay g.conds, aL (dF t).nm]) Z Z Z Z (sF (E := lV p.body p.post) (SS := (p.pre :: (dF t).lp.map (·.s.facts))) (bd := t.d) (lo := .slc 1 ((dF t).lp.map fun q => [f9 q])) (be := .slc 1 (((dF t).lp.map (·.r)).map fun r => [fD r])) (nm := (dF t).nm) (g := g) (k := k) h1 h2 (by simp) hl) Z Z Z Z Z Z (B0 := 15000) Z Z (aq ?_)))))
 refine js O Z (jf [15,8,0,2,3] Z (jn (AWP.cond O Z Z (fun hc15 => ?_) (fun hc15 => ?_))))
 exact absurd hc15 (by rw [hs]; decide)
 refine AWP.skip (ag (j2 O Z Z (jf [17,16,8,0,2,3] Z (lT O [500,501,502,503] (bin := [iB (kX p t) g 1 2 3, ax g.paths, ay g.conds, aL (dF t).nm]) Z Z Z Z (ih) Z Z Z Z Z Z (B0 := 19000) Z Z (aq ?_)))))
 refine jf [8,0,2,3] Z (aP (j4 O Z Z Z Z (j2 O Z Z (jf [8,0,2,3] Z (jn (AWP.ret ?_))))))
 refine ⟨.inl Z, _, (af 19010 510 Z Z).trans (af 19011 511 Z Z), _, Z, Z, Z⟩
 cases hc11
theorem mt {al : Nat → Gs} (h : ∀ i, (al i).bad = true → al (i + 1) = al i) {i : Nat} (hb : (al i).bad = true) : ∀ {n : Nat}, i ≤ n → al n = al i := fun {n} hn => by
 induction n with
 | zero =>
  obtain rfl : i = 0 := by omega
  rfl
 | succ n ih =>
  rcases Nat.lt_or_ge n i with h1 | h1
  obtain rfl : i = n + 1 := by omega
  rfl
  have := ih h1
  rw [h n (by rw [this]; exact hb), this]
theorem tK {p : Pm} {t : Tr} {k : Int} {al : Nat → Gs} (hl : (p.pre :: (dF t).lp.map (·.s.facts)).length ≤ 1000) (hst : ∀ i, (al i).bad = true → al (i + 1) = al i) (h0 : (al 0).bad = false) (hal : ∀ i : Nat, i < (p.pre :: (dF t).lp.map (·.s.facts)).length → (al i).bad = false → MQ h1 h2 59 [.c (.pt 0 0 0), eI ((i : Int) - 1)] (qi p t (al i)) (aZ (.tup []) (mE p t (al (i + 1))))) : MQ h1 h2 58 [.c (.pt 0 0 0), eB true, eI k, .c (.fb 59 [.pt 0 0 0])] (qi p t (al 0)) (aZ (eB (!(al (p.pre :: (dF t).lp.map (·.s.facts)).length).bad)) (mE p t (al (p.pre :: (dF t).lp.map (·.s.facts)).length))) := by
 refine aF 500 Z (MC.keep [500,503,510,511] (R := eB (!(al (p.pre :: (dF t).lp.map (·.s.facts)).length).bad)) (bs := [iB (kX p t) (al (p.pre :: (dF t).lp.map (·.s.facts)).length) 510 511 503, aL (dF t).nm, ax (al (p.pre :: (dF t).lp.map (·.s.facts)).length).paths, ay (al (p.pre :: (dF t).lp.map (·.s.facts)).length).conds]) Z Z (jH 41 [500,501,502,503] h1 h2 Tryz.func58 Z Z Z Z fun O hF => ?_))
 refine bZ ?_
 refine ag (js O Z (jn (AWP.seq (ag (j2 O Z Z (jf [11,8,0,2,3] Z (jn (AWP.cond O Z Z (fun hc11 => ?_) (fun hc11 => ?_)))))))))
 cases hc11
 refine AWP.skip (AWP.seq (ag (j4 O Z Z Z Z (cy O Z Z Z Z Z Z Z Z Z Z Z (js O Z (jf [29,28,8,0,2,3] Z (jn (AWP.block (az (X := Nat) (fun i => ⟨[(0, .c (.pt 500 0 0)), (3, .c (.fb 59 [.pt 500 0 0])), (28, eI ((p.pre :: (dF t).lp.map (·.s.facts)).length : Nat)), (29, eI i)], [(500, iB (kX p t) (al i) 901 902 503), (503, aL (dF t).nm), (901, ax (al i).paths), (902, ay (al i).conds)]⟩) (fun i => i ≤ (p.pre :: (dF t).lp.map (·.s.facts)).length ∧ (al i).bad = false) (fun i => (p.pre :: (dF t).lp.map (·.s.facts)).length - i) 0 ((((aT [500,503,501,502] (e' := [(0, _), (3, _), (28, _), (29, _)]) Z Z ⟨Z, Z, Z, Z, trivial⟩ Z).trans (af 501 901 Z Z)).trans (af 502 902 Z Z)).trans (Ent.to ⟨Z, Z, Z, Z, trivial⟩ Z)) ?_ (fun i hi => ?_))))))))))
 exact ⟨Nat.zero_le _, h0⟩
 refine ag (js O Z (jn (AWP.seq (AWP.cond O Z Z (fun hc30 => ?_) (fun hc30 => ?_)))))
 refine AWP.skip (AWP.seq (AWP.block (ag (j2 O Z Z (aP (j2 O Z Z ?_))))))
 first | refine ji O Z ?_ | refine aY O Z Z Z Z Z ?_
 refine jf [34,32,31,30,0,3,28,29] Z (lT O [500,901,902,503] (bin := [iB (kX p t) (al i) 1 2 3, ax (al i).paths, ay (al i).conds, aL (dF t).nm]) Z Z Z Z (hal i (by have := of_decide_eq_true hc30; omega) hi.2) Z Z Z Z Z Z (B0 := 36000) Z Z (aq ?_))
 refine jf [31,30,0,3,28,29] Z (aP (j4 O Z Z Z Z (jf [39,31,30,0,3,28,29] Z (jn (AWP.cond O Z Z (fun hc39 => ?_) (fun hc39 => ?_))))))
 refine ag (js O Z (jn (AWP.ret ?_)))
 have e := mt hst (show (al (i + 1)).bad = true from hc39) (n := (p.pre :: (dF t).lp.map (·.s.facts)).length) (by have := of_decide_eq_true hc30; omega)
 rw [e]
 refine ⟨.inl Z, _, (af 36010 510 Z Z).trans (af 36011 511 Z Z), _, Z, by rw [show (al (i + 1)).bad = true from hc39]; rfl, Z⟩
 refine AWP.skip (AWP.region ?_)
 first | refine ji O Z ?_ | refine aY O Z Z Z Z Z ?_
 refine js O Z (jn ?_)
 refine ⟨i + 1, (((aT [500,503,36010,36011] (e' := [(0, _), (3, _), (28, _), (29, _)]) Z Z ⟨Z, Z, Z, Z, trivial⟩ Z).trans (af 36010 901 Z Z)).trans (af 36011 902 Z Z)).trans (Ent.to ⟨Z, Z, Z, Z, trivial⟩ Z), ⟨by have := of_decide_eq_true hc30; omega, hc39⟩, by have := of_decide_eq_true hc30; omega⟩
 refine AWP.exit (ag (js O Z (jn (AWP.ret ?_))))
 obtain rfl : i = (p.pre :: (dF t).lp.map (·.s.facts)).length := by have := of_decide_eq_false hc30; omega
 refine ⟨.inl Z, _, (af 901 510 Z Z).trans (af 902 511 Z Z), _, Z, by rw [hi.2]; rfl, Z⟩
theorem qO {c : Pc} {g : Gs} (hl : g.conds.length ≤ L) (hc : de g.conds = true) : MQ h1 h2 43 [.c (.pt 0 0 0)] [(0, iB c g 1 2 3), (1, ax g.paths), (2, ay g.conds), (3, aL c.num)] (aZ (.tup [.c (.rs 2 0 g.conds.length), eB true]) [(0, iB c g 1 2 3), (1, ax g.paths), (2, ay g.conds), (3, aL c.num)]) := by
 refine aF 500 Z (MC.keep [500,501,502,503] (bs := [iB c g 501 502 503, ax g.paths, ay g.conds, aL c.num]) Z Z (jH 29 [500,501,502,503] h1 h2 Tryz.func43 Z Z Z Z fun O hF => ?_))
 refine bZ ?_
 have hall : ∀ i, i < g.conds.length → k9 (g.conds.getD i default) = true := fun i hi => by rw [aI hi]; exact List.all_eq_true.1 (Bool.and_eq_true_iff.1 hc).1 _ (List.getElem_mem hi)
 refine ag (j2 O Z Z (jn (AWP.seq (ag (j4 O Z Z Z Z ?_)))))
 first | refine cy O Z Z Z Z Z Z Z Z Z Z Z ?_ | refine js O Z ?_ | refine aY O Z Z Z Z Z ?_
 refine js O Z (jf [11,3,2,0] Z (jn (AWP.cond O Z Z (fun hc11 => ?_) (fun hc11 => ?_))))
 exact absurd (of_decide_eq_true hc11) (by have := (Bool.and_eq_true_iff.1 hc).2; have := of_decide_eq_true this; omega)
 refine AWP.skip (AWP.seq (ag (j4 O Z Z Z Z ?_)))
 first | refine cy O Z Z Z Z Z Z Z Z Z Z Z ?_ | refine js O Z ?_ | refine aY O Z Z Z Z Z ?_
 refine js O Z (jf [17,16,15,3,2,0] Z (jn (AWP.block (az (X := Nat) (fun i => ⟨[(0, .c (.pt 500 0 0)), (15, .c (.rs 502 0 g.conds.length)), (16, eI g.conds.length), (17, eI i)], [(500, iB c g 501 502 503), (501, ax g.paths), (502, ay g.conds), (503, aL c.num)]⟩) (fun i => i ≤ g.conds.length ∧ ∀ j (h : j < g.conds.length), j < i → k9 g.conds[j] = true) (fun i => g.conds.length - i) 0 (Ent.to ⟨Z, Z, Z, Z, trivial⟩ Z) ?_ (fun i hi => ?_)))))
 exact ⟨Nat.zero_le _, fun j h hj => absurd hj (Nat.not_lt_zero j)⟩
 refine ag (js O Z (jn (AWP.seq (AWP.cond O Z Z (fun hc18 => ?_) (fun hc18 => ?_)))))
 refine AWP.skip (AWP.seq (AWP.block (ag ?_)))
 have hil : i < g.conds.length := by have := of_decide_eq_true hc18; omega
 have hRi : (g.conds.map Sq.cells)[0 + (i : Int).toNat]? = some (Sq.cells (g.conds.getD i default)) := by rw [Int.toNat_natCast, Nat.zero_add, List.getElem?_map, aI hil, List.getElem?_eq_getElem hil]; rfl
 refine aY O Z Z Z Z Z (aa (bO O (ex := Sq.cells (g.conds.getD i default)) Z Z Z Z hRi Z) Z Z Z (jf [20,18,0,15,16,17] Z (jl O Z Z Z Z Z Z (aq ?_))))
 refine jo O Z Z Z Z Z Z Z Z Z Z Z Z (aq ?_)
 refine aP (js O Z (ae O Z Z Z Z (uS (s := (g.conds.getD i default)) h1 h2) (.cons (.agg (.cons (.rp Z hRi Z) (.cons .d (.cons (.rp Z hRi Z) .nil)))) .nil) Z Z Z Z Z (B0 := 23000) Z (js O Z (jf [23,5,20,18,0,15,16,17] Z (jn (AWP.cond O Z Z (fun hc23 => ?_) (fun hc23 => ?_)))))))
 exact absurd hc23 (by rw [hall i (by have := of_decide_eq_true hc18; omega)]; decide)
 refine AWP.skip (AWP.region ?_)
 first | refine ji O Z ?_ | refine aY O Z Z Z Z Z ?_
 refine js O Z (jn ?_)
 refine ⟨i + 1, (aT [500,501,502,503] (e' := [(0, _), (15, _), (16, _), (17, _)]) Z Z ⟨Z, Z, Z, Z, trivial⟩ Z).trans (Ent.to ⟨Z, Z, Z, Z, trivial⟩ Z), ⟨by have := of_decide_eq_true hc18; omega, fun j h hj => ?_⟩, by have := of_decide_eq_true hc18; omega⟩
 by_cases e : j = i
 subst e; rw [aI h] at hc23; simpa using hc23
 exact hi.2 j h (by omega)
 refine AWP.exit (ag (j4 O Z Z Z Z (j2 O Z Z (jf [3,2,18,0,15,16,17] Z (jn (AWP.ret ?_))))))
 refine ⟨.inl Z, _, aT [500,501,502,503] (e' := [(2, _), (3, _)]) Z Z ⟨Z, Z, trivial⟩ Z, _, Z, Z, Z⟩
theorem qP {c : Pc} {g : Gs} (hl : g.conds.length ≤ L) (hc : de g.conds = false) : MQ h1 h2 43 [.c (.pt 0 0 0)] [(0, iB c g 1 2 3), (1, ax g.paths), (2, ay g.conds), (3, aL c.num)] (aZ (.tup [.c (.d .nils), eB false]) [(0, iB c g 1 2 3), (1, ax g.paths), (2, ay g.conds), (3, aL c.num)]) := by
 refine aF 500 Z (MC.keep [500,501,502,503] (bs := [iB c g 501 502 503, ax g.paths, ay g.conds, aL c.num]) Z Z (jH 29 [500,501,502,503] h1 h2 Tryz.func43 Z Z Z Z fun O hF => ?_))
 refine bZ ?_
 refine ag (j2 O Z Z (jn (AWP.seq (ag (j4 O Z Z Z Z ?_)))))
 first | refine cy O Z Z Z Z Z Z Z Z Z Z Z ?_ | refine js O Z ?_ | refine aY O Z Z Z Z Z ?_
 refine js O Z (jf [11,3,2,0] Z (jn (AWP.cond O Z Z (fun hc11 => ?_) (fun hc11 => ?_))))
 refine ag (j2 O Z Z (jn (AWP.ret ?_)))
 refine ⟨.inl Z, _, aT [500,501,502,503] (e' := [(2, _), (3, _)]) Z Z ⟨Z, Z, trivial⟩ Z, _, Z, Z, Z⟩
 refine AWP.skip (AWP.seq (ag (j4 O Z Z Z Z ?_)))
 first | refine cy O Z Z Z Z Z Z Z Z Z Z Z ?_ | refine js O Z ?_ | refine aY O Z Z Z Z Z ?_
 refine js O Z (jf [17,16,15,3,2,0] Z (jn (AWP.block (az (X := Nat) (fun i => ⟨[(0, .c (.pt 500 0 0)), (15, .c (.rs 502 0 g.conds.length)), (16, eI g.conds.length), (17, eI i)], [(500, iB c g 501 502 503), (501, ax g.paths), (502, ay g.conds), (503, aL c.num)]⟩) (fun i => i ≤ g.conds.length ∧ ∀ j (h : j < g.conds.length), j < i → k9 g.conds[j] = true) (fun i => g.conds.length - i) 0 (Ent.to ⟨Z, Z, Z, Z, trivial⟩ Z) ?_ (fun i hi => ?_)))))
 exact ⟨Nat.zero_le _, fun j h hj => absurd hj (Nat.not_lt_zero j)⟩
 refine ag (js O Z (jn (AWP.seq (AWP.cond O Z Z (fun hc18 => ?_) (fun hc18 => ?_)))))
 refine AWP.skip (AWP.seq (AWP.block (ag ?_)))
 have hil : i < g.conds.length := by have := of_decide_eq_true hc18; omega
 have hRi : (g.conds.map Sq.cells)[0 + (i : Int).toNat]? = some (Sq.cells (g.conds.getD i default)) := by rw [Int.toNat_natCast, Nat.zero_add, List.getElem?_map, aI hil, List.getElem?_eq_getElem hil]; rfl
 refine aY O Z Z Z Z Z (aa (bO O (ex := Sq.cells (g.conds.getD i default)) Z Z Z Z hRi Z) Z Z Z (jf [20,18,0,15,16,17] Z (jl O Z Z Z Z Z Z (aq ?_))))
 refine jo O Z Z Z Z Z Z Z Z Z Z Z Z (aq ?_)
 refine aP (js O Z (ae O Z Z Z Z (uS (s := (g.conds.getD i default)) h1 h2) (.cons (.agg (.cons (.rp Z hRi Z) (.cons .d (.cons (.rp Z hRi Z) .nil)))) .nil) Z Z Z Z Z (B0 := 23000) Z (js O Z (jf [23,5,20,18,0,15,16,17] Z (jn (AWP.cond O Z Z (fun hc23 => ?_) (fun hc23 => ?_)))))))
 refine ag (j2 O Z Z (jn (AWP.ret ?_)))
 refine ⟨.inl Z, _, aT [500,501,502,503] (e' := [(2, _), (3, _)]) Z Z ⟨Z, Z, trivial⟩ Z, _, Z, Z, Z⟩
 refine AWP.skip (AWP.region ?_)
 first | refine ji O Z ?_ | refine aY O Z Z Z Z Z ?_
 refine js O Z (jn ?_)
 refine ⟨i + 1, (aT [500,501,502,503] (e' := [(0, _), (15, _), (16, _), (17, _)]) Z Z ⟨Z, Z, Z, Z, trivial⟩ Z).trans (Ent.to ⟨Z, Z, Z, Z, trivial⟩ Z), ⟨by have := of_decide_eq_true hc18; omega, fun j h hj => ?_⟩, by have := of_decide_eq_true hc18; omega⟩
 by_cases e : j = i
 subst e; rw [aI h] at hc23; simpa using hc23
 exact hi.2 j h (by omega)
 refine AWP.exit (ag (j4 O Z Z Z Z (j2 O Z Z (jf [3,2,18,0,15,16,17] Z (jn (AWP.ret ?_))))))
 exfalso
 have hall := fP (p := k9) (fun j hj => hi.2 j hj (by have := of_decide_eq_false hc18; omega))
 unfold de at hc
 rw [hall, Bool.true_and] at hc
 exact absurd (of_decide_eq_false hc) (by have := of_decide_eq_false hc11; omega)
theorem jj {p : Pm} {t : Tr} {all : Bool} {k : Int} {g : Gs} (hp : dJ p = true) (htd : rC p.body = t.d) (ht : PtOk p t) (hg : MQ h1 h2 58 [.c (.pt 0 0 0), eB all, eI k, .c (.fb 59 [.pt 0 0 0])] (qi p t g0) (aZ (eB true) (mE p t g))) : MQ h1 h2 32 [aPm p, eB all, eI k] [] (aZ (.tup [.c (.pt 0 0 0), eB true]) (mE p t g)) := by
 refine aF 500 Z (MC.keep [500,503,510,511] (bs := [iB (kX p t) g 510 511 503, aL (dF t).nm, ax g.paths, ay g.conds]) Z Z (jB 29 h1 h2 Tryz.func32 Z Z Z fun O hF => ?_))
 refine ag (jx O Z Z Z Z Z Z Z Z (aq ?_))
 refine aA (Ent.freeze 3 (e' := [(3, _), (0, _), (1, _), (2, _)]) Z (.cons Z (.c (.box (cs := Pm.data p) Z (aw Z))) (.cons Z (.keep Z) (.cons Z (.keep Z) (.cons Z (.keep Z) .nil)))) (.skip .nil)) ?_
 refine aq ?_
 refine j2 O Z Z (aP (js O Z (jf [11,7,6,0,1,2] Z (ap O [] (bin := []) Z Z Z Z (qN (p := p) (t := t) h1 h2 hp htd ht) Z Z Z Z Z Z (B0 := 13000) Z Z (aq ?_)))))
 refine j4 O Z Z Z Z (js O Z (jf [9,8,7,6,0,1,2] Z (jn (AWP.seq (ag (j3 O Z Z Z (jf [17,8,7,6,0,1,2] Z (ah Z Z Z Z Z (js O Z (ah Z Z Z Z Z (js O Z (jf [19,17,8,7,6,0,1,2] Z (ah Z Z Z Z Z ?_)))))))))))))
 refine js O Z (jf [20,17,8,7,6,0,1,2] Z (ah Z Z Z Z Z (js O Z (jf [21,20,17,8,7,6,0,2] Z (ah Z Z Z Z Z (js O Z (jf [22,21,20,17,8,7,6,0] Z (ah Z Z Z Z Z (js O Z (ah Z Z Z Z Z (aa (kR O Z Z Z Z Z) Z Z Z (jf [24,22,21,20,17,8,7,6,0] Z (ah Z Z Z Z Z ?_)))))))))))))
 refine ap O [13000,13001,13002,13003] (bin := [iB (kX p t) g0 1 2 3, ax [], ay [], aL (dF t).nm]) Z Z Z Z (hg) Z Z Z Z Z Z (B0 := 26000) Z Z (aq ?_)
 refine jf [25,17,8,7,6,0] Z (ah Z Z Z Z Z (js O Z ?_))
 first | refine aa (aj O Z Z Z Z Z) Z Z Z ?_ | refine aa (Val.pickB O Z Z Z Z Z) Z Z Z ?_ | refine aa (ak O Z Z Z Z Z) Z Z Z ?_
 refine jf [27,8,7,6,0] Z (jn (AWP.cond O Z Z (fun hc27 => ?_) (fun hc27 => ?_)))
 exact absurd hc27 (by decide)
 refine AWP.skip (ag (j3 O Z Z Z (jf [7,6,8,0] Z (jn (AWP.ret ?_)))))
 refine ⟨.inl Z, _, (((af 13000 500 Z Z).trans (af 13003 503 Z Z)).trans (af 26010 510 Z Z)).trans (af 26011 511 Z Z), _, Z, Z, Z⟩
theorem jk {p : Pm} {t : Tr} {all : Bool} {k : Int} {g : Gs} (hp : dJ p = true) (htd : rC p.body = t.d) (ht : PtOk p t) (hg : MQ h1 h2 58 [.c (.pt 0 0 0), eB all, eI k, .c (.fb 59 [.pt 0 0 0])] (qi p t g0) (aZ (eB false) (mE p t g))) : MQ h1 h2 32 [aPm p, eB all, eI k] [] (Plain (.tup [.c (.d .nilp), eB false])) := by
 refine MC.data (jB 29 h1 h2 Tryz.func32 Z Z Z fun O hF => ?_)
 refine ag (jx O Z Z Z Z Z Z Z Z (aq ?_))
 refine aA (Ent.freeze 3 (e' := [(3, _), (0, _), (1, _), (2, _)]) Z (.cons Z (.c (.box (cs := Pm.data p) Z (aw Z))) (.cons Z (.keep Z) (.cons Z (.keep Z) (.cons Z (.keep Z) .nil)))) (.skip .nil)) ?_
 refine aq ?_
 refine j2 O Z Z (aP (js O Z (jf [11,7,6,0,1,2] Z (ap O [] (bin := []) Z Z Z Z (qN (p := p) (t := t) h1 h2 hp htd ht) Z Z Z Z Z Z (B0 := 13000) Z Z (aq ?_)))))
 refine j4 O Z Z Z Z (js O Z (jf [9,8,7,6,0,1,2] Z (jn (AWP.seq (ag (j3 O Z Z Z (jf [17,8,7,6,0,1,2] Z (ah Z Z Z Z Z (js O Z (ah Z Z Z Z Z (js O Z (jf [19,17,8,7,6,0,1,2] Z (ah Z Z Z Z Z ?_)))))))))))))
 refine js O Z (jf [20,17,8,7,6,0,1,2] Z (ah Z Z Z Z Z (js O Z (jf [21,20,17,8,7,6,0,2] Z (ah Z Z Z Z Z (js O Z (jf [22,21,20,17,8,7,6,0] Z (ah Z Z Z Z Z (js O Z (ah Z Z Z Z Z (aa (kR O Z Z Z Z Z) Z Z Z (jf [24,22,21,20,17,8,7,6,0] Z (ah Z Z Z Z Z ?_)))))))))))))
 refine ap O [13000,13001,13002,13003] (bin := [iB (kX p t) g0 1 2 3, ax [], ay [], aL (dF t).nm]) Z Z Z Z (hg) Z Z Z Z Z Z (B0 := 26000) Z Z (aq ?_)
 refine jf [25,17,8,7,6,0] Z (ah Z Z Z Z Z (js O Z ?_))
 first | refine aa (aj O Z Z Z Z Z) Z Z Z ?_ | refine aa (Val.pickB O Z Z Z Z Z) Z Z Z ?_ | refine aa (ak O Z Z Z Z Z) Z Z Z ?_
 refine jf [27,8,7,6,0] Z (jn (AWP.cond O Z Z (fun hc27 => ?_) (fun hc27 => ?_)))
 refine ag (j2 O Z Z (jn (AWP.ret ?_)))
 refine ⟨.inl Z, _, Ent.refl, _, Z, ?_⟩
 exact .tup (.cons (.c .d) (.cons (.c .d) .nil))
 exact absurd hc27 (by decide)
theorem l6 {p : Pm} {all : Bool} {k : Int} (hp : dJ p = false) : MQ h1 h2 32 [aPm p, eB all, eI k] [] (Plain (.tup [.c (.d .nilp), eB false])) := by
 refine MC.data (jB 29 h1 h2 Tryz.func32 Z Z Z fun O hF => ?_)
 refine ag (jx O Z Z Z Z Z Z Z Z (aq ?_))
 refine aA (Ent.freeze 3 (e' := [(3, _), (0, _), (1, _), (2, _)]) Z (.cons Z (.c (.box (cs := Pm.data p) Z (aw Z))) (.cons Z (.keep Z) (.cons Z (.keep Z) (.cons Z (.keep Z) .nil)))) (.skip .nil)) ?_
 refine aq ?_
 refine j2 O Z Z (aP (js O Z (jf [11,7,6,0,1,2] Z (ao O Z Z Z Z (tL (p := p) h1 h2 hp) (ab Z) Z Z Z Z (B0 := 13000) Z Z (j4 O Z Z Z Z (js O Z (jf [9,8,7,6,0,1,2] Z (jn (AWP.seq (ag (j3 O Z Z Z (jf [17,8,7,6,0,1,2] Z (AOps.skip Z Z Z Z Z Z ?_)))))))))))))
 refine AOps.skip Z Z Z Z Z Z (jf [19,17,8,7,6,0,1,2] Z (AOps.skip Z Z Z Z Z Z (jf [20,17,8,7,6,0,1,2] Z (AOps.skip Z Z Z Z Z Z (jf [21,20,17,8,7,6,0,2] Z (AOps.skip Z Z Z Z Z Z (jf [22,21,20,17,8,7,6,0] Z (AOps.skip Z Z Z Z Z Z (AOps.skip Z Z Z Z Z Z (jf [24,22,21,20,17,8,7,6,0] Z (AOps.skip Z Z Z Z Z Z (jf [25,17,8,7,6,0] Z (AOps.skip Z Z Z Z Z Z ?_)))))))))))))
 refine aa (jC O Z Z Z Z Z) Z Z Z (jf [27,8,7,6,0] Z (jn (AWP.cond O Z Z (fun hc27 => ?_) (fun hc27 => ?_))))
 refine ag (j2 O Z Z (jn (AWP.ret ?_)))
 refine ⟨.inl Z, _, Ent.refl, _, Z, ?_⟩
 exact .tup (.cons (.c .d) (.cons (.c .d) .nil))
 exact absurd hc27 (by decide)
theorem t2 {p : Pm} {t : Tr} {k : Int} {g : Gs} (hP : MQ h1 h2 32 [aPm p, eB false, eI k] [] (aZ (.tup [.c (.pt 0 0 0), eB true]) (mE p t g))) : MQ h1 h2 10 [aPm p, eI k] [] (Rows (.tup [.c (.rs 0 0 g.paths.length), eB true]) [ax g.paths]) := by
 refine bF (jB 21 h1 h2 Tryz.func10 Z Z Z fun O hF => ?_)
 refine ag (jx O Z Z Z Z Z Z Z Z (aq ?_))
 refine aA (Ent.freeze 2 (e' := [(2, _), (0, _), (1, _)]) Z (.cons Z (.c (.box (cs := Pm.data p) Z (aw Z))) (.cons Z (.keep Z) (.cons Z (.keep Z) .nil))) (.skip .nil)) ?_
 refine aq ?_
 refine j2 O Z Z (aP (j2 O Z Z (jf [10,9,5,4,0] Z (ap O [] (bin := []) Z Z Z Z (hP) Z Z Z Z Z Z (B0 := 12000) Z Z (aq ?_)))))
 refine j4 O Z Z Z Z (js O Z (jf [7,6,5,4,0] Z (jn (AWP.seq (ag (j2 O Z Z (jf [15,6,5,4,0] Z (jn (AWP.cond O Z Z (fun hc15 => ?_) (fun hc15 => ?_))))))))))
 exact absurd hc15 (by decide)
 refine AWP.skip (ag (j4 O Z Z Z Z (j3 O Z Z Z (jf [5,4,0] Z (jn (AWP.ret ?_))))))
 refine ⟨.inl Z, _, Ent.refl, _, Z, [12010], by decide, Z, Z, Z⟩
theorem nM {p : Pm} {k : Int} (hP : MQ h1 h2 32 [aPm p, eB false, eI k] [] (Plain (.tup [.c (.d .nilp), eB false]))) : MQ h1 h2 10 [aPm p, eI k] [] (Rows (.tup [.c (.d .nils), eB false]) []) := by
 refine bF (jB 21 h1 h2 Tryz.func10 Z Z Z fun O hF => ?_)
 refine ag (jx O Z Z Z Z Z Z Z Z (aq ?_))
 refine aA (Ent.freeze 2 (e' := [(2, _), (0, _), (1, _)]) Z (.cons Z (.c (.box (cs := Pm.data p) Z (aw Z))) (.cons Z (.keep Z) (.cons Z (.keep Z) .nil))) (.skip .nil)) ?_
 refine aq ?_
 refine j2 O Z Z (aP (j2 O Z Z (jf [10,9,5,4,0] Z (ao O Z Z Z Z (hP) (ab Z) Z Z Z Z (B0 := 12000) Z Z (j4 O Z Z Z Z (js O Z (jf [7,6,5,4,0] Z (jn (AWP.seq (ag (j2 O Z Z (jf [15,6,5,4,0] Z (jn ?_)))))))))))))
 refine AWP.cond O Z Z (fun hc15 => ?_) (fun hc15 => ?_)
 refine ag (j2 O Z Z (jn (AWP.ret ?_)))
 refine ⟨.inl Z, _, Ent.refl, _, Z, [], by decide, Z, Z, Z⟩
 exact absurd hc15 (by decide)
theorem t0 {p : Pm} {t : Tr} {g : Gs} (hP : MQ h1 h2 32 [aPm p, eB true, eI 0] [] (aZ (.tup [.c (.pt 0 0 0), eB true]) (mE p t g))) : MQ h1 h2 17 [aPm p] [] (Rows (.tup [.c (.rs 0 0 g.paths.length), eB true]) [ax g.paths]) := by
 refine bF (jB 18 h1 h2 Tryz.func17 Z Z Z fun O hF => ?_)
 refine ag (jx O Z Z Z Z Z Z Z Z (aq ?_))
 refine aA (Ent.freeze 1 (e' := [(1, _), (0, _)]) Z (.cons Z (.c (.box (cs := Pm.data p) Z (aw Z))) (.cons Z (.keep Z) .nil)) (.skip .nil)) ?_
 refine aq ?_
 refine j2 O Z Z (aP (js O Z (jf [7,3,2,0] Z (ap O [] (bin := []) Z Z Z Z (hP) Z Z Z Z Z Z (B0 := 9000) Z Z (aq ?_)))))
 refine j4 O Z Z Z Z (js O Z (jf [5,4,3,2,0] Z (jn (AWP.seq (ag (j2 O Z Z (jf [12,4,3,2,0] Z (jn (AWP.cond O Z Z (fun hc12 => ?_) (fun hc12 => ?_))))))))))
 exact absurd hc12 (by decide)
 refine AWP.skip (ag (j4 O Z Z Z Z (j3 O Z Z Z (jf [3,2,0] Z (jn (AWP.ret ?_))))))
 refine ⟨.inl Z, _, Ent.refl, _, Z, [9010], by decide, Z, Z, Z⟩
theorem qR {p : Pm} (hP : MQ h1 h2 32 [aPm p, eB true, eI 0] [] (Plain (.tup [.c (.d .nilp), eB false]))) : MQ h1 h2 17 [aPm p] [] (Rows (.tup [.c (.d .nils), eB false]) []) := by
 refine bF (jB 18 h1 h2 Tryz.func17 Z Z Z fun O hF => ?_)
 refine ag (jx O Z Z Z Z Z Z Z Z (aq ?_))
 refine aA (Ent.freeze 1 (e' := [(1, _), (0, _)]) Z (.cons Z (.c (.box (cs := Pm.data p) Z (aw Z))) (.cons Z (.keep Z) .nil)) (.skip .nil)) ?_
 refine aq ?_
 refine j2 O Z Z (aP (js O Z (jf [7,3,2,0] Z (ao O Z Z Z Z (hP) (ab Z) Z Z Z Z (B0 := 9000) Z Z (j4 O Z Z Z Z (js O Z (jf [5,4,3,2,0] Z (jn (AWP.seq (ag (j2 O Z Z (jf [12,4,3,2,0] Z (jn ?_)))))))))))))
 refine AWP.cond O Z Z (fun hc12 => ?_) (fun hc12 => ?_)
 refine ag (j2 O Z Z (jn (AWP.ret ?_)))
 refine ⟨.inl Z, _, Ent.refl, _, Z, [], by decide, Z, Z, Z⟩
 exact absurd hc12 (by decide)
theorem tY {p : Pm} {t : Tr} {k : Int} {g : Gs} (hP : MQ h1 h2 32 [aPm p, eB false, eI k] [] (aZ (.tup [.c (.pt 0 0 0), eB true]) (mE p t g))) (hl : g.conds.length ≤ L) (hc : de g.conds = true) : MQ h1 h2 19 [aPm p, eI k] [] (Rows (.tup [.c (.rs 0 0 g.conds.length), eB true]) [ay g.conds]) := by
 refine bF (jB 22 h1 h2 Tryz.func19 Z Z Z fun O hF => ?_)
 refine ag (jx O Z Z Z Z Z Z Z Z (aq ?_))
 refine aA (Ent.freeze 2 (e' := [(2, _), (0, _), (1, _)]) Z (.cons Z (.c (.box (cs := Pm.data p) Z (aw Z))) (.cons Z (.keep Z) (.cons Z (.keep Z) .nil))) (.skip .nil)) ?_
 refine aq ?_
 refine j2 O Z Z (aP (j2 O Z Z (jf [10,9,5,4,0] Z (ap O [] (bin := []) Z Z Z Z (hP) Z Z Z Z Z Z (B0 := 12000) Z Z (aq ?_)))))
 refine j4 O Z Z Z Z (js O Z (jf [7,6,5,4,0] Z (jn (AWP.seq (ag (j2 O Z Z (jf [15,6,5,4,0] Z (jn (AWP.cond O Z Z (fun hc15 => ?_) (fun hc15 => ?_))))))))))
 exact absurd hc15 (by decide)
 refine AWP.skip (ag (j3 O Z Z Z (jf [18,5,4,0] Z (ap O [12000,12010,12011,12003] (bin := [iB (kX p t) g 1 2 3, ax g.paths, ay g.conds, aL (dF t).nm]) Z Z Z Z (qO (c := kX p t) (g := g) h1 h2 hl hc) Z Z Z Z Z Z (B0 := 20000) Z Z (aq ?_)))))
 refine j4 O Z Z Z Z (jf [5,4,0] Z (jn (AWP.ret ?_)))
 refine ⟨.inl Z, _, Ent.refl, _, Z, [12011], by decide, Z, Z, Z⟩
theorem tZ {p : Pm} {t : Tr} {k : Int} {g : Gs} (hP : MQ h1 h2 32 [aPm p, eB false, eI k] [] (aZ (.tup [.c (.pt 0 0 0), eB true]) (mE p t g))) (hl : g.conds.length ≤ L) (hc : de g.conds = false) : MQ h1 h2 19 [aPm p, eI k] [] (Rows (.tup [.c (.d .nils), eB false]) []) := by
 refine bF (jB 22 h1 h2 Tryz.func19 Z Z Z fun O hF => ?_)
 refine ag (jx O Z Z Z Z Z Z Z Z (aq ?_))
 refine aA (Ent.freeze 2 (e' := [(2, _), (0, _), (1, _)]) Z (.cons Z (.c (.box (cs := Pm.data p) Z (aw Z))) (.cons Z (.keep Z) (.cons Z (.keep Z) .nil))) (.skip .nil)) ?_
 refine aq ?_
 refine j2 O Z Z (aP (j2 O Z Z (jf [10,9,5,4,0] Z (ap O [] (bin := []) Z Z Z Z (hP) Z Z Z Z Z Z (B0 := 12000) Z Z (aq ?_)))))
 refine j4 O Z Z Z Z (js O Z (jf [7,6,5,4,0] Z (jn (AWP.seq (ag (j2 O Z Z (jf [15,6,5,4,0] Z (jn (AWP.cond O Z Z (fun hc15 => ?_) (fun hc15 => ?_))))))))))
 exact absurd hc15 (by decide)
 refine AWP.skip (ag (j3 O Z Z Z (jf [18,5,4,0] Z (ap O [12000,12010,12011,12003] (bin := [iB (kX p t) g 1 2 3, ax g.paths, ay g.conds, aL (dF t).nm]) Z Z Z Z (qP (c := kX p t) (g := g) h1 h2 hl hc) Z Z Z Z Z Z (B0 := 20000) Z Z (aq ?_)))))
 refine j4 O Z Z Z Z (jf [5,4,0] Z (jn (AWP.ret ?_)))
 refine ⟨.inl Z, _, Ent.refl, _, Z, [], by decide, Z, Z, Z⟩
theorem nL {p : Pm} {k : Int} (hP : MQ h1 h2 32 [aPm p, eB false, eI k] [] (Plain (.tup [.c (.d .nilp), eB false]))) : MQ h1 h2 19 [aPm p, eI k] [] (Rows (.tup [.c (.d .nils), eB false]) []) := by
 refine bF (jB 22 h1 h2 Tryz.func19 Z Z Z fun O hF => ?_)
 refine ag (jx O Z Z Z Z Z Z Z Z (aq ?_))
 refine aA (Ent.freeze 2 (e' := [(2, _), (0, _), (1, _)]) Z (.cons Z (.c (.box (cs := Pm.data p) Z (aw Z))) (.cons Z (.keep Z) (.cons Z (.keep Z) .nil))) (.skip .nil)) ?_
 refine aq ?_
 refine j2 O Z Z (aP (j2 O Z Z (jf [10,9,5,4,0] Z (ao O Z Z Z Z (hP) (ab Z) Z Z Z Z (B0 := 12000) Z Z (j4 O Z Z Z Z (js O Z (jf [7,6,5,4,0] Z (jn (AWP.seq (ag (j2 O Z Z (jf [15,6,5,4,0] Z (jn ?_)))))))))))))
 refine AWP.cond O Z Z (fun hc15 => ?_) (fun hc15 => ?_)
 refine ag (j2 O Z Z (jn (AWP.ret ?_)))
 refine ⟨.inl Z, _, Ent.refl, _, Z, [], by decide, Z, Z, Z⟩
 exact absurd hc15 (by decide)
theorem tT {p : Pm} {t : Tr} {g : Gs} (hP : MQ h1 h2 32 [aPm p, eB true, eI 0] [] (aZ (.tup [.c (.pt 0 0 0), eB true]) (mE p t g))) (hl : g.conds.length ≤ L) (hc : de g.conds = true) : MQ h1 h2 24 [aPm p] [] (Rows (.tup [.c (.rs 0 0 g.conds.length), eB true]) [ay g.conds]) := by
 refine bF (jB 19 h1 h2 Tryz.func24 Z Z Z fun O hF => ?_)
 refine ag (jx O Z Z Z Z Z Z Z Z (aq ?_))
 refine aA (Ent.freeze 1 (e' := [(1, _), (0, _)]) Z (.cons Z (.c (.box (cs := Pm.data p) Z (aw Z))) (.cons Z (.keep Z) .nil)) (.skip .nil)) ?_
 refine aq ?_
 refine j2 O Z Z (aP (js O Z (jf [7,3,2,0] Z (ap O [] (bin := []) Z Z Z Z (hP) Z Z Z Z Z Z (B0 := 9000) Z Z (aq ?_)))))
 refine j4 O Z Z Z Z (js O Z (jf [5,4,3,2,0] Z (jn (AWP.seq (ag (j2 O Z Z (jf [12,4,3,2,0] Z (jn (AWP.cond O Z Z (fun hc12 => ?_) (fun hc12 => ?_))))))))))
 exact absurd hc12 (by decide)
 refine AWP.skip (ag (j3 O Z Z Z (jf [15,3,2,0] Z (ap O [9000,9010,9011,9003] (bin := [iB (kX p t) g 1 2 3, ax g.paths, ay g.conds, aL (dF t).nm]) Z Z Z Z (qO (c := kX p t) (g := g) h1 h2 hl hc) Z Z Z Z Z Z (B0 := 17000) Z Z (aq ?_)))))
 refine j4 O Z Z Z Z (jf [3,2,0] Z (jn (AWP.ret ?_)))
 refine ⟨.inl Z, _, Ent.refl, _, Z, [9011], by decide, Z, Z, Z⟩
theorem tU {p : Pm} {t : Tr} {g : Gs} (hP : MQ h1 h2 32 [aPm p, eB true, eI 0] [] (aZ (.tup [.c (.pt 0 0 0), eB true]) (mE p t g))) (hl : g.conds.length ≤ L) (hc : de g.conds = false) : MQ h1 h2 24 [aPm p] [] (Rows (.tup [.c (.d .nils), eB false]) []) := by
 refine bF (jB 19 h1 h2 Tryz.func24 Z Z Z fun O hF => ?_)
 refine ag (jx O Z Z Z Z Z Z Z Z (aq ?_))
 refine aA (Ent.freeze 1 (e' := [(1, _), (0, _)]) Z (.cons Z (.c (.box (cs := Pm.data p) Z (aw Z))) (.cons Z (.keep Z) .nil)) (.skip .nil)) ?_
 refine aq ?_
 refine j2 O Z Z (aP (js O Z (jf [7,3,2,0] Z (ap O [] (bin := []) Z Z Z Z (hP) Z Z Z Z Z Z (B0 := 9000) Z Z (aq ?_)))))
 refine j4 O Z Z Z Z (js O Z (jf [5,4,3,2,0] Z (jn (AWP.seq (ag (j2 O Z Z (jf [12,4,3,2,0] Z (jn (AWP.cond O Z Z (fun hc12 => ?_) (fun hc12 => ?_))))))))))
 exact absurd hc12 (by decide)
 refine AWP.skip (ag (j3 O Z Z Z (jf [15,3,2,0] Z (ap O [9000,9010,9011,9003] (bin := [iB (kX p t) g 1 2 3, ax g.paths, ay g.conds, aL (dF t).nm]) Z Z Z Z (qP (c := kX p t) (g := g) h1 h2 hl hc) Z Z Z Z Z Z (B0 := 17000) Z Z (aq ?_)))))
 refine j4 O Z Z Z Z (jf [3,2,0] Z (jn (AWP.ret ?_)))
 refine ⟨.inl Z, _, Ent.refl, _, Z, [], by decide, Z, Z, Z⟩
theorem qQ {p : Pm} (hP : MQ h1 h2 32 [aPm p, eB true, eI 0] [] (Plain (.tup [.c (.d .nilp), eB false]))) : MQ h1 h2 24 [aPm p] [] (Rows (.tup [.c (.d .nils), eB false]) []) := by
 refine bF (jB 19 h1 h2 Tryz.func24 Z Z Z fun O hF => ?_)
 refine ag (jx O Z Z Z Z Z Z Z Z (aq ?_))
 refine aA (Ent.freeze 1 (e' := [(1, _), (0, _)]) Z (.cons Z (.c (.box (cs := Pm.data p) Z (aw Z))) (.cons Z (.keep Z) .nil)) (.skip .nil)) ?_
 refine aq ?_
 refine j2 O Z Z (aP (js O Z (jf [7,3,2,0] Z (ao O Z Z Z Z (hP) (ab Z) Z Z Z Z (B0 := 9000) Z Z (j4 O Z Z Z Z (js O Z (jf [5,4,3,2,0] Z (jn (AWP.seq (ag (j2 O Z Z (jf [12,4,3,2,0] Z (jn ?_)))))))))))))
 refine AWP.cond O Z Z (fun hc12 => ?_) (fun hc12 => ?_)
 refine ag (j2 O Z Z (jn (AWP.ret ?_)))
 refine ⟨.inl Z, _, Ent.refl, _, Z, [], by decide, Z, Z, Z⟩
 exact absurd hc12 (by decide)
end Go.Al
