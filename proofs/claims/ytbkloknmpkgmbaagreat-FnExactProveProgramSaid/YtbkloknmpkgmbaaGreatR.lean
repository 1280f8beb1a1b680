/- The program: its loops, the paths of a start, of all starts. -/
import Derived.Test.YtbkloknmpkgmbaaGreatC
import Derived.Test.YtbkloknmpkgmbaaGreatQ
set_option linter.unusedVariables false
set_option linter.unusedSimpArgs false
set_option maxRecDepth 10000
set_option maxHeartbeats 4000000
open Go.Proofs
namespace Go.Al
variable {L : Nat} (h1 : 4096 ≤ L) (h2 : L ≤ 1073741824)
structure Fd where
  lp : List Lp
  nm : List (Int × D)
def gl : Tr → List Fr → Fd → Fd
  | .node s a [x, y], r, c => if s.kind = 1 then gl y r (gl x (.st y :: r) c) else gl y r (gl x r c)
  | .node s a [x], r, c => gl x [.lp c.lp.length] ⟨c.lp ++ [⟨s, a.toNat, x, r⟩], fT c.nm a (.int .i64 (c.lp.length : Nat))⟩
  | _, _, c => c
abbrev jy (q : Lp) : D := Tr.d (.node q.s (q.a : Nat) [q.x])
abbrev zB (post bd : D) (c : Fd) (i j k m : Nat) : B := .box [.d post, .rs i 0 (c.lp.length + 1), .d .nils, .d .nils, .d (.bool false), .d bd, .rs j 0 c.lp.length, .rs k 0 c.lp.length, .mp m]
abbrev uP (pre : List Tm) (c : Fd) : B := .row false 1 ((pre :: c.lp.map (·.s.facts)).map fun f => [dK f])
abbrev uR (c : Fd) : B := .row false 1 (c.lp.map fun q => [jy q])
abbrev uS (c : Fd) : B := .row false 1 ((c.lp.map (·.r)).map fun r => [fD r])
abbrev zH (post bd : D) (pre : List Tm) (c : Fd) : List (Nat × B) := [(0, zB post bd c 1 2 3 4), (1, uP pre c), (2, uR c), (3, uS c), (4, aZ c.nm)]
abbrev zO (post bd : D) (pre : List Tm) (c : Fd) : List (Nat × B) := [(0, zB post bd c 10 11 12 4), (4, aZ c.nm), (10, uP pre c), (11, uR c), (12, uS c)]
abbrev ni (L : Nat) (post bd : D) (pre : List Tm) (t r : D) (c c' : Fd) : Prop := MC Tryz.prog L 90 [.c (.pt 0 0 0), .c (.d t), .c (.d r)] (zH post bd pre c) (bc (.tup []) (zO post bd pre c'))
theorem yv {L : Nat} {post bd : D} {pre : List Tm} {t d1 d2 d3 : D} {c c' : Fd} (h : ni L post bd pre t (.ptr [d1, d2, d3] 0) c c') : MC Tryz.prog L 90 [.c (.pt 0 0 0), .c (.d t), .c (.pt 5 0 0)] (zH post bd pre c ++ [(5, xa d1 d2 d3)]) (bc (.tup []) (zO post bd pre c')) :=
  MC.freeze 5 Z (.cons (.keep Z) (.cons (.keep Z) (.cons (.c (.box Z (aE Z))) .nil))) (.cons Z (.box (.cons (.keep Z) (.cons (.keep Z) (.cons (.keep Z) (.cons (.keep Z) (.cons (.keep Z) (.cons (.keep Z) (.cons (.keep Z) (.cons (.keep Z) (.cons (.keep Z) .nil)))))))))) (.cons Z .row (.cons Z .row (.cons Z .row (.cons Z .map (.skip .nil)))))) Z h
theorem sP {L : Nat} (h1 : 4096 ≤ L) (h2 : L ≤ 1073741824) {post bd : D} {pre : List Tm} {s : Sm} {r : List Fr} {c c1 c2 : Fd} {a : Int} (hk : s.kind ≠ 1 ∧ s.kind ≠ 7 ∧ s.kind ≠ 8) : ni L post bd pre (Tr.d (.node s a [])) (fD r) c c := by
 refine aJ 500 Z (MC.keep [500,504,510,511,512] (bs := [zB post bd c 510 511 512 504, aZ c.nm, uP pre c, uR c, uS c]) Z Z (jH 124 [500,501,502,503,504] h1 h2 Tryz.func90 Z Z Z Z fun O hF => ?_))
 refine b9 ?_
 refine ah (j4 O Z Z Z Z (js O Z (jf [11,0,1,2] Z (jn (ao (ah (j2 O Z Z (jn (ae O Z Z (fun hc12 => ?_) (fun hc12 => ?_))))))))))
 exact absurd (bC hc12) (by omega)
 refine ah (j2 O Z Z (jf [40,13,11,0,1,2] Z (jn (ae O Z Z (fun hc40 => ?_) (fun hc40 => ?_)))))
 exact absurd (bC hc40) (by omega)
 refine ah (j2 O Z Z (jf [60,13,11,0,1,2] Z (jn (ae O Z Z (fun hc60 => ?_) (fun hc60 => ?_)))))
 exact absurd (bC hc60) (by omega)
 refine aj ?_
 show _ ∧ _
 refine ⟨.inr Z, _, ((af 501 510 Z Z).trans (af 502 511 Z Z)).trans (af 503 512 Z Z), _, Z, Z, Z⟩
theorem uw {L : Nat} (h1 : 4096 ≤ L) (h2 : L ≤ 1073741824) {post bd : D} {pre : List Tm} {s : Sm} {r : List Fr} {c c1 c2 : Fd} {a : Int} {x y : Tr} (hk : s.kind = 1) (ih1 : ni L post bd pre x.d (fD (.st y :: r)) c c1) (ih2 : ni L post bd pre y.d (fD r) c1 c2) : ni L post bd pre (Tr.d (.node s a [x, y])) (fD r) c c2 := by
 refine aJ 500 Z (MC.keep [500,504,510,511,512] (bs := [zB post bd c2 510 511 512 504, aZ c2.nm, uP pre c2, uR c2, uS c2]) Z Z (jH 124 [500,501,502,503,504] h1 h2 Tryz.func90 Z Z Z Z fun O hF => ?_))
 refine b9 ?_
 refine ah (j4 O Z Z Z Z (js O Z (jf [11,0,1,2] Z (jn (ao (ah (j2 O Z Z (jn (ae O Z Z (fun hc12 => ?_) (fun hc12 => ?_))))))))))
 refine ag (jw [13,11,0,1,2] Z (jA O [_,_,_,_,_,_,_,_,_,_,_,_,_,_,_,_,_] [pn [] 0 1, pn [] 0 1, pn [1] 0 1, pn [1,2] 0 1, pn [1,2,3] 0 1, pn (rg 1 4) 0 1, pn (rg 1 5) 0 1, pn [] 0 0, pn [7] 0 0, pn [7,8] 0 0, pn [7,8,9] 0 0, pn (rg 7 4) 0 0, pn (rg 7 5) 0 0, pn [] 0 0, pn (rg 7 7) 0 0, pe (rg 7 8) 0, pe (rg 0 16) 1] [15,16] [_,_,_] [[], [501,502,503,29]] (ai (ka O Z Z (kw O Z Z)) (ai (ka O Z Z (kw O Z Z)) (ai (ka O Z Z (kw O Z Z)) (ai (ka O Z Z (kw O Z Z)) (ai (ka O Z Z (kw O Z Z)) (ai (ai (ai (bQ O Z Z Z Z Z Z Z Z (by simp [Trs.d]) Z) Z) (ai (bQ O Z Z Z Z Z Z Z Z (by simp [Trs.d]) Z) Z)) (ai (ka O Z Z (kw O Z Z)) (ka O Z Z (ka O Z Z (ka O Z Z (ka O Z Z (ai (ai (bQ O Z Z Z Z Z Z Z Z (by simp [Trs.d]) Z) Z) (ka O Z Z (ka O Z Z (ka O Z Z (ai (ai (aG (Eff.box O Z Z Z Z Z Z Z Z)) Z) (ai (ai (bX O [500,501,502,503,504,29] [501,502,503,29] (bin := [zB post bd c 1 2 3 4, uP pre c, uR c, uS c, aZ c.nm, xa y.d (.int .i64 0) (fD r)]) Z Z Z Z (yv ih1) Z Z Z Z Z (B0 := 31000) Z Z Z Z Z Z Z) Z) trivial))))))))))))))))) ?_))
 refine jw [13,11,0,1,2] Z (b9 ?_)
 refine ak (j4 O Z Z Z Z (js O Z (ac (bQ O Z Z Z Z Z Z Z Z (by simp [Trs.d]) Z) Z Z Z (j2 O Z Z (jf [38,37,31,13,11,0,1,2] Z (aB O [500,31010,31011,31012,504] (bin := [zB post bd c1 1 2 3 4, uP pre c1, uR c1, uS c1, aZ c1.nm]) Z Z Z Z (ih2) Z Z Z Z Z Z (B0 := 40000) Z Z (au ?_)))))))
 refine jf [13,11,0,1,2] Z (jn ?_)
 show _ ∧ _
 refine ⟨.inr Z, _, ((af 40010 510 Z Z).trans (af 40011 511 Z Z)).trans (af 40012 512 Z Z), _, Z, Z, Z⟩
 exact absurd (cH hc12) (by omega)
theorem wX {L : Nat} (h1 : 4096 ≤ L) (h2 : L ≤ 1073741824) {post bd : D} {pre : List Tm} {s : Sm} {r : List Fr} {c c1 c2 : Fd} {a : Int} {x y : Tr} (hk : s.kind = 7) (ih1 : ni L post bd pre x.d (fD r) c c1) (ih2 : ni L post bd pre y.d (fD r) c1 c2) : ni L post bd pre (Tr.d (.node s a [x, y])) (fD r) c c2 := by
 refine aJ 500 Z (MC.keep [500,504,510,511,512] (bs := [zB post bd c2 510 511 512 504, aZ c2.nm, uP pre c2, uR c2, uS c2]) Z Z (jH 124 [500,501,502,503,504] h1 h2 Tryz.func90 Z Z Z Z fun O hF => ?_))
 refine b9 ?_
 refine ah (j4 O Z Z Z Z (js O Z (jf [11,0,1,2] Z (jn (ao (ah (j2 O Z Z (jn (ae O Z Z (fun hc12 => ?_) (fun hc12 => ?_))))))))))
 exact absurd (bC hc12) (by omega)
 refine ah (j2 O Z Z (jf [40,13,11,0,1,2] Z (jn (ae O Z Z (fun hc40 => ?_) (fun hc40 => ?_)))))
 refine ah (j4 O Z Z Z Z (js O Z (ac (bQ O Z Z Z Z Z Z Z Z (by simp [Trs.d]) Z) Z Z Z (j2 O Z Z (jf [49,48,42,13,11,0,1,2] Z (aB O [500,501,502,503,504] (bin := [zB post bd c 1 2 3 4, uP pre c, uR c, uS c, aZ c.nm]) Z Z Z Z (ih1) Z Z Z Z Z Z (B0 := 51000) Z Z (au ?_)))))))
 refine jf [13,11,0,1,2] Z (jn (ak (j4 O Z Z Z Z (js O Z (ac (bQ O Z Z Z Z Z Z Z Z (by simp [Trs.d]) Z) Z Z Z (j2 O Z Z (jf [58,57,51,13,11,0,1,2] Z (aB O [500,51010,51011,51012,504] (bin := [zB post bd c1 1 2 3 4, uP pre c1, uR c1, uS c1, aZ c1.nm]) Z Z Z Z (ih2) Z Z Z Z Z Z (B0 := 60000) Z Z (au ?_)))))))))
 refine jf [13,11,0,1,2] Z (jn ?_)
 show _ ∧ _
 refine ⟨.inr Z, _, ((af 60010 510 Z Z).trans (af 60011 511 Z Z)).trans (af 60012 512 Z Z), _, Z, Z, Z⟩
 exact absurd (cH hc40) (by omega)
theorem sO {L : Nat} (h1 : 4096 ≤ L) (h2 : L ≤ 1073741824) {post bd : D} {pre : List Tm} {s : Sm} {r : List Fr} {c c1 c2 : Fd} {k : Nat} {x : Tr} (hk : s.kind = 8) (hl : c.lp.length ≤ 1000) (ih : ni L post bd pre x.d (fD [.lp c.lp.length]) (⟨c.lp ++ [⟨s, k, x, r⟩], fT c.nm (k : Nat) (.int .i64 (c.lp.length : Nat))⟩ : Fd) c2) : ni L post bd pre (Tr.d (.node s (k : Nat) [x])) (fD r) c c2 := by
 refine aJ 500 Z (MC.keep [500,504,510,511,512] (bs := [zB post bd c2 510 511 512 504, aZ c2.nm, uP pre c2, uR c2, uS c2]) Z Z (jH 124 [500,501,502,503,504] h1 h2 Tryz.func90 Z Z Z Z fun O hF => ?_))
 refine b9 ?_
 refine ah (j4 O Z Z Z Z (js O Z (jf [11,0,1,2] Z (jn (ao (ah (j2 O Z Z (jn (ae O Z Z (fun hc12 => ?_) (fun hc12 => ?_))))))))))
 exact absurd (bC hc12) (by omega)
 refine ah (j2 O Z Z (jf [40,13,11,0,1,2] Z (jn (ae O Z Z (fun hc40 => ?_) (fun hc40 => ?_)))))
 exact absurd (bC hc40) (by omega)
 refine ah (j2 O Z Z (jf [60,13,11,0,1,2] Z (jn (ae O Z Z (fun hc60 => ?_) (fun hc60 => ?_)))))
 refine ah (j4 O Z Z Z Z (dk O Z Z (jf [66,13,11,0,1,2] Z (ap O Z Z Z Z (vf (n := c.lp.length) h1 h2) (aa Z) Z Z Z Z Z (B0 := 68000) Z (js O Z (jf [6,13,11,0,1,2] Z (jn (ag (gL O [_,_,_,_,_,_,_,_,_,_] [pn [] 0 0, pn [0] 0 0, pn [0,1] 0 0, pn [0,1,2] 0 0, pn [] 0 0, pn [4] 0 0, pn [4,5] 0 0, pn [4,5,6] 0 0, pn [] 0 0, pe (rg 0 9) 0] [9] [_,_] (kc O Z (kc O Z (kc O Z (kc O Z (kc O Z (kc O Z (kc O Z (kc O Z (kc O Z (ai (Eff.mapUpdate (kt := 2) (et := 2) (q := .i64) (es := c.nm) (k := (k : Nat)) (v := .int .i64 (c.lp.length : Nat)) O Z Z Z Z A2 uK Z Z Z Z Z Z) trivial)))))))))) ?_)))))))))
 refine jw [6,13,11,0,1,2] Z (b9 ?_)
 refine ah (j4 O Z Z Z Z (j2 O Z Z (jf [82,81,77,6,13,11,0,1,2] Z (AOps.heap (bE O Z Z Z Z Z Z Z Z Z Z Z) Z (au ?_)))))
 refine jf [83,81,77,6,13,11,0,1,2] Z (AOps.heap (aU (own := false) (xs := c.lp.map fun q => [jy q]) (ys := [[jy (⟨s, k, x, r⟩ : Lp)]]) (zs := (c.lp ++ [(⟨s, k, x, r⟩ : Lp)]).map fun q => [jy q]) (n := (c.lp ++ [(⟨s, k, x, r⟩ : Lp)]).length) O Z Z Z Z Z Z Z Z Z Z Z Z Z Z Z Z (.row Z (bz _).symm) (.whole Z Z (.inr ⟨Z, Z⟩)) (by simp) Z (by simp; omega) (by simp; omega) (by simp) (by simp)) Z (au ?_))
 refine au ?_
 refine j2 O Z Z (jf [86,84,6,13,11,0,1,2] Z (jo O Z (au ?_)))
 refine jf [6,13,11,0,1,2] Z (aV (j4 O Z Z Z Z (j2 O Z Z (jf [92,91,87,6,13,11,0,1,2] Z (AOps.heap (bE O Z Z Z Z Z Z Z Z Z Z Z) Z (au ?_))))))
 refine jf [93,91,87,6,13,11,0,1,2] Z (AOps.heap (aU (own := false) (xs := (c.lp.map (·.r)).map fun r => [fD r]) (ys := [[fD r]]) (zs := ((c.lp ++ [(⟨s, k, x, r⟩ : Lp)]).map (·.r)).map fun r => [fD r]) (n := (c.lp ++ [(⟨s, k, x, r⟩ : Lp)]).length) O Z Z Z Z Z Z Z Z Z Z Z Z Z Z Z Z (.row Z (by simp)) (.whole Z Z (.inr ⟨Z, Z⟩)) (by simp) Z (by simp; omega) (by simp; omega) (by simp) (by simp)) Z (au ?_))
 refine au ?_
 refine j2 O Z Z (jf [96,94,6,13,11,0,1,2] Z (jo O Z (au ?_)))
 refine jf [6,13,11,0,1,2] Z (jn (ag (jA O [_,_,_,_,_,_,_,_,_,_,_,_,_,_,_,_,_] [pn [] 0 2, pn [] 0 1, pn [1] 0 1, pn [1,2] 0 1, pn [1,2,3] 0 1, pn (rg 1 4) 0 1, pn [] 0 0, pn [6] 0 0, pn [6,7] 0 0, pn [6,7,8] 0 0, pn (rg 6 4) 0 0, pe (rg 6 5) 0, pe (rg 1 11) 1, pn (rg 0 13) 2 2, pn (rg 0 14) 2 2, pn (rg 0 15) 2 2, pe (rg 0 16) 2] [11,12,16] [_,_,_,_] [[], [501], []] (ai (ka O Z Z (ka O Z Z (kw O Z Z))) (ai (ka O Z Z (kw O Z Z)) (ai (ka O Z Z (kw O Z Z)) (ai (ka O Z Z (kw O Z Z)) (ai (ka O Z Z (kw O Z Z)) (ai (ka O Z Z (kw O Z Z)) (ka O Z Z (ka O Z Z (ka O Z Z (ka O Z Z (ka O Z Z (ai (ai (aG (ck O Z Z Z Z Z Z Z Z Z Z Z Z Z Z)) Z) (ai (ai (bU (own := false) (xs := (pre :: c.lp.map (·.s.facts)).map fun f => [dK f]) (ys := [[dK s.facts]]) (zs := (pre :: (c.lp ++ [(⟨s, k, x, r⟩ : Lp)]).map (·.s.facts)).map fun f => [dK f]) (n := (c.lp ++ [(⟨s, k, x, r⟩ : Lp)]).length + 1) O Z Z Z Z Z Z Z Z Z Z Z Z Z Z Z Z (.row Z (by simp)) (.whole Z Z (.inr ⟨Z, Z⟩)) (by simp) Z (by simp; omega) (by simp; omega) (by simp) (by simp) Z) Z) (ka O Z Z (ka O Z Z (ka O Z Z (ai (ai (aG (eS O Z Z Z)) Z) trivial))))))))))))))))) ?_)))
 refine jw [6,13,11,0,1,2] Z (b9 ?_)
 refine ak (j4 O Z Z Z Z (js O Z (ac (bQ O Z Z Z Z Z Z Z Z (by simp [Trs.d]) Z) Z Z Z (j3 O Z Z Z (jf [121,119,113,6,13,11,0,1,2] Z (jx O Z (au ?_)))))))
 refine jf [122,119,113,6,13,11,0,1,2] Z (aB O [500,109,84,94,504,122] (bin := [zB post bd (⟨c.lp ++ [⟨s, k, x, r⟩], fT c.nm (k : Nat) (.int .i64 (c.lp.length : Nat))⟩ : Fd) 1 2 3 4, uP pre (⟨c.lp ++ [⟨s, k, x, r⟩], fT c.nm (k : Nat) (.int .i64 (c.lp.length : Nat))⟩ : Fd), uR (⟨c.lp ++ [⟨s, k, x, r⟩], fT c.nm (k : Nat) (.int .i64 (c.lp.length : Nat))⟩ : Fd), uS (⟨c.lp ++ [⟨s, k, x, r⟩], fT c.nm (k : Nat) (.int .i64 (c.lp.length : Nat))⟩ : Fd), aZ (⟨c.lp ++ [⟨s, k, x, r⟩], fT c.nm (k : Nat) (.int .i64 (c.lp.length : Nat))⟩ : Fd).nm, xa .nilp (.int .i64 (c.lp.length : Nat)) .nilp]) Z Z Z Z (yv ih) Z Z Z Z Z Z (B0 := 124000) Z Z (au ?_))
 refine jf [6,13,11,0,1,2] Z (jn ?_)
 show _ ∧ _
 refine ⟨.inr Z, _, ((af 124010 510 Z Z).trans (af 124011 511 Z Z)).trans (af 124012 512 Z Z), _, Z, Z, Z⟩
 exact absurd (cH hc60) (by omega)
theorem oH {L : Nat} (h1 : 4096 ≤ L) (h2 : L ≤ 1073741824) {b : List Sm} {post bd : D} {pre : List Tm} : ∀ {t : Tr} {k k' : Nat}, bZ b k = some (t, k') → ∀ {r : List Fr} {c : Fd}, c.lp.length + t.nodes ≤ 1000 → ni L post bd pre t.d (fD r) c (gl t r c) ∧ (gl t r c).lp.length ≤ c.lp.length + t.nodes
 | .node s a [x, y], k, k', h, r, c, hc => by
  obtain ⟨e1, rfl, e3, e4, e5⟩ := ch h
  obtain rfl := cU h
  obtain ⟨k1, i1, i2⟩ := b0 e4
  obtain ⟨k2, i3, i4⟩ := b0 i2
  have hn : Tr.nodes (.node (b.getD k default) (k : Nat) [x, y]) = 1 + (x.nodes + y.nodes) := by simp [Tr.nodes, Trs.nodes]
  rw [hn] at hc ⊢
  by_cases hk : (b.getD k default).kind = 1
  rw [gl, if_pos hk]
  obtain ⟨a1, a2⟩ := oH h1 h2 i1 (r := .st y :: r) (c := c) (by omega) (post := post) (bd := bd) (pre := pre)
  obtain ⟨b1, b2⟩ := oH h1 h2 i3 (r := r) (c := gl x (.st y :: r) c) (by omega) (post := post) (bd := bd) (pre := pre)
  exact ⟨uw h1 h2 hk a1 b1, by omega⟩
  rw [gl, if_neg hk]
  obtain ⟨a1, a2⟩ := oH h1 h2 i1 (r := r) (c := c) (by omega) (post := post) (bd := bd) (pre := pre)
  obtain ⟨b1, b2⟩ := oH h1 h2 i3 (r := r) (c := gl x r c) (by omega) (post := post) (bd := bd) (pre := pre)
  have hk7 : (b.getD k default).kind = 7 := by
   have h3 : bm (b.getD k default).kind = 2 := e5.symm
   unfold bm at h3
   split at h3
   omega
   split at h3
   assumption
   split at h3 <;> omega
  exact ⟨wX h1 h2 hk7 a1 b1, by omega⟩
 | .node s a [x], k, k', h, r, c, hc => by
  obtain ⟨e1, rfl, e3, e4, e5⟩ := ch h
  obtain rfl := cU h
  obtain ⟨k1, i1, i2⟩ := b0 e4
  have hk8 : (b.getD k default).kind = 8 := je e5.symm
  have hn : Tr.nodes (.node (b.getD k default) (k : Nat) [x]) = 1 + x.nodes := by simp [Tr.nodes, Trs.nodes]
  rw [hn] at hc ⊢
  rw [gl, Int.toNat_natCast]
  obtain ⟨a1, a2⟩ := oH h1 h2 i1 (r := [.lp c.lp.length]) (c := ⟨c.lp ++ [⟨b.getD k default, k, x, r⟩], fT c.nm (k : Nat) (.int .i64 (c.lp.length : Nat))⟩) (by simp only [ce, dj]; omega) (post := post) (bd := bd) (pre := pre)
  refine ⟨sO (c1 := c) h1 h2 hk8 (by omega) a1, ?_⟩
  simp only [ce, dj] at a2; omega
 | .node s a [], k, k', h, r, c, hc => by
  obtain ⟨e1, rfl, e3, e4, e5⟩ := ch h
  obtain rfl := cU h
  have hne := gC (e5.symm : bm (b.getD k default).kind = 0)
  have e : gl (.node (b.getD k default) (k : Nat) []) r c = c := by rw [gl] <;> simp
  rw [e]
  exact ⟨sP (c1 := c) (c2 := c) h1 h2 ⟨hne.1, hne.2.1, hne.2.2⟩, Nat.le_add_right _ _⟩
 | .node s a (x :: y :: z :: ks), k, k', h, r, c, hc => by
  obtain ⟨e1, rfl, e3, e4, e5⟩ := ch h
  have h2 := (cW (b.getD k default).kind).2
  simp only [dL] at e5
  omega
theorem rt {es : List (Int × D)} {k j : Int} {v : D} : kJ (fT es k v) j = if j = k then some v else kJ es j := by
 induction es with
 | nil => simp only [fT, kJ]
 | cons e es ih =>
  obtain ⟨i, y⟩ := e
  by_cases hk : k = i
  subst hk
  simp only [fT, if_true, kJ]
  by_cases h : j = k <;> simp [h]
  simp only [fT, if_neg hk, kJ, ih]
  by_cases h : j = i
  subst h; rw [if_pos rfl, if_pos rfl, if_neg (Ne.symm hk)]
  rw [if_neg h, if_neg h]
structure FdOk (b : List Sm) (k : Nat) (c : Fd) : Prop where
  len : c.lp.length = bf b k
  at_ : ∀ q ∈ c.lp, q.a < k
  nm : ∀ q ∈ c.lp, kJ c.nm (q.a : Nat) = some (.int .i64 (bf b q.a : Nat))
theorem FdOk.next {b : List Sm} {k : Nat} {c : Fd} (h : FdOk b k c) (h8 : ¬ (b.getD k default).kind = 8) : FdOk b (k + 1) c :=
  ⟨by rw [h.len, bf, if_neg h8]; rfl, fun q hq => Nat.lt_succ_of_lt (h.at_ q hq), h.nm⟩
theorem lN {b : List Sm} : ∀ {t : Tr} {k k' : Nat}, bZ b k = some (t, k') → ∀ {r : List Fr} {c : Fd}, FdOk b k c → FdOk b k' (gl t r c) ∧ (gl t r c).lp = c.lp ++ ba b t r
  | .node s a [x, y], k, k', h, r, c, hc => by
    obtain ⟨e1, rfl, e3, e4, e5⟩ := ch h
    obtain rfl := cU h
    obtain ⟨k1, i1, i2⟩ := b0 e4
    obtain ⟨k2, i3, i4⟩ := b0 i2
    obtain rfl := dP i4
    have h8 : ¬ (b.getD k default).kind = 8 := by
      intro h8; rw [h8] at e5; revert e5; simp only [dL, List.length_nil]; decide
    by_cases hk : (b.getD k default).kind = 1
    · rw [gl, if_pos hk, el, if_pos hk]
      obtain ⟨a1, a2⟩ := lN i1 (r := .st y :: r) (hc.next h8)
      obtain ⟨b1, b2⟩ := lN i3 (r := r) a1
      exact ⟨b1, by rw [b2, a2, eP]⟩
    · rw [gl, if_neg hk, el, if_neg hk]
      obtain ⟨a1, a2⟩ := lN i1 (r := r) (hc.next h8)
      obtain ⟨b1, b2⟩ := lN i3 (r := r) a1
      exact ⟨b1, by rw [b2, a2, eP]⟩
  | .node s a [x], k, k', h, r, c, hc => by
    obtain ⟨e1, rfl, e3, e4, e5⟩ := ch h
    obtain rfl := cU h
    obtain ⟨k1, i1, i2⟩ := b0 e4
    obtain rfl := dP i2
    have hk8 : (b.getD k default).kind = 8 := je e5.symm
    rw [gl, jS, Int.toNat_natCast]
    have hlen := hc.len
    have hn : FdOk b (k + 1) ⟨c.lp ++ [⟨b.getD k default, k, x, r⟩], fT c.nm (k : Nat) (.int .i64 (c.lp.length : Nat))⟩ := by
      refine ⟨?_, fun q hq => ?_, fun q hq => ?_⟩
      · rw [ce, dj, hlen, bf, if_pos hk8]
      · rcases List.mem_append.1 hq with hq | hq
        · exact Nat.lt_succ_of_lt (hc.at_ q hq)
        · rw [List.mem_singleton.1 hq]; exact Nat.lt_succ_self k
      · rcases List.mem_append.1 hq with hq | hq
        · have := hc.at_ q hq
          rw [rt, if_neg (by omega)]; exact hc.nm q hq
        · rw [List.mem_singleton.1 hq, rt, if_pos Z, hlen]
    obtain ⟨a1, a2⟩ := lN i1 (r := [.lp c.lp.length]) hn
    refine ⟨a1, ?_⟩
    rw [a2, eP, hlen]; rfl
  | .node s a [], k, k', h, r, c, hc => by
    obtain ⟨e1, rfl, e3, e4, e5⟩ := ch h
    obtain rfl := cU h
    obtain rfl := dP e4
    have hne := gC (e5.symm : bm (b.getD k default).kind = 0)
    have e : gl (.node (b.getD k default) (k : Nat) []) r c = c := by rw [gl] <;> simp
    rw [e, g9, List.append_nil]
    exact ⟨hc.next hne.2.2, Z⟩
  | .node s a (x :: y :: z :: ks), k, k', h, r, c, hc => by
    obtain ⟨e1, rfl, e3, e4, e5⟩ := ch h
    have h2 := (cW (b.getD k default).kind).2
    simp only [dL] at e5
    omega
theorem wC {b : List Sm} {i j : Nat} (hi : (b.getD i default).kind = 8) (hj : (b.getD j default).kind = 8) (h : bf b i = bf b j) : i = j := by
 have key : ∀ {i j : Nat}, (b.getD i default).kind = 8 → bf b i = bf b j → ¬ i < j := fun {i j} hi h hlt => by
  have h1 := fO (b := b) (show i + 1 ≤ j by omega)
  have h2 : bf b (i + 1) = bf b i + 1 := by rw [bf, if_pos hi]
  omega
 have h1 := key hi h
 have h2 := key hj h.symm
 omega
def iC (t : Tr) : Fd := gl t [] ⟨[], []⟩
theorem mn {b : List Sm} {t : Tr} (hT : bZ b 0 = some (t, b.length)) : FdOk b b.length (iC t) ∧ (iC t).lp = ba b t [] := by
 have h := lN hT (r := []) (c := ⟨[], []⟩) ⟨rfl, fun q hq => (by cases hq), fun q hq => (by cases hq)⟩
 exact ⟨h.1, h.2.trans (List.nil_append _)⟩
theorem ym {b : List Sm} {t : Tr} (hT : bZ b 0 = some (t, b.length)) {k : Nat} (hk : k < b.length) (h8 : (b.getD k default).kind = 8) : bf b k < (ba b t []).length ∧ ((ba b t []).getD (bf b k) default).a = k ∧ ((ba b t []).getD (bf b k) default).s = b.getD k default ∧ (ba b t []).getD (bf b k) default ∈ ba b t [] := by
 have h1 : bf b (k + 1) = bf b k + 1 := by rw [bf, if_pos h8]
 have h2 := fO (b := b) (show k + 1 ≤ b.length by omega)
 obtain ⟨hm, ha⟩ := kQ hT (n := bf b k) (by omega)
 have hat := (uQ hT (r := [])).at_ _ hm
 have he := wC hat.2.2.1 h8 ha
 have hl := (mn hT).1.len
 rw [(mn hT).2] at hl
 exact ⟨by omega, he, by rw [hat.2.2.2, he], hm⟩
theorem B3 {b : List Sm} {t : Tr} {pre post : List Tm} (hT : bZ b 0 = some (t, b.length)) : PcOk (rX b post) b (pre :: (iC t).lp.map (·.s.facts)) (iC t).nm := by
 refine ⟨fun k hk h8 => ?_, fun k hk h8 => ?_⟩
 obtain ⟨h1, h2, h3, h4⟩ := ym hT hk h8
 rw [(mn hT).2]
 refine ⟨by simp; exact h1, ?_⟩
 rw [List.getD_cons_succ, ← h3]
 simp [List.getD_eq_getElem?_getD, h1]
 obtain ⟨h1, h2, h3, h4⟩ := ym hT hk h8
 have := (mn hT).1.nm _ (by rw [(mn hT).2]; exact h4)
 rw [h2] at this; exact this
theorem Ce {z : List Tm} (hz : z = []) : MQ h1 h2 152 [bN z] [] (Rows (.c (.rs 0 0 0)) [aH []]) := by
 refine bI (jB 8 h1 h2 Tryz.func152 Z Z Z fun O hF => ?_)
 subst hz
 refine ah (js O Z (jn (ag (ah (js O Z (s5 O Z Z Z Z Z Z Z Z Z Z (fun b => ?_)))))))
 refine jn (ae O Z Z (fun hc4 => ?_) (fun hc4 => ?_))
 refine ah (js O Z (jr ?_))
 refine ⟨.inl Z, _, (cb 2 900 2 false Z Z).trans (Ent.to (e' := [(2, _)]) ⟨Z, trivial⟩ Z), _, Z, [900], by decide, Z, Z, Z⟩
 refine aj (ah (AOps.heap (bA O Z Z Z) Z (js O Z (ay (cZ 5 Z) (AOps.heap (aU (own := false) (zs := []) (n := 0) O Z Z Z Z Z Z Z Z Z Z Z Z Z Z Z Z (.row Z Z) (.slc (.inl Z)) (by simp) Z (by simp) (by simp) Z Z) Z (js O Z (jr ?_)))))))
 refine ⟨.inl Z, _, am, _, Z, [7], by decide, Z, Z, Z⟩
theorem Ci {L : Nat} (h1 : 4096 ≤ L) (h2 : L ≤ 1073741824) {ts : List Tm} (hl : ts.length ≤ 1000) : MC Tryz.prog L 152 [bN ts] [] (Rows (.c (.rs 0 0 ts.length)) [aH ts]) := by
 cases ts with
 | nil => exact Ce h1 h2 Z
 | cons c r => exact y3 h1 h2 hl
variable {E : Pe} {SS : List (List Tm)} {bd : D} {nm : List (Int × D)} {g : Gs} {f : List Tm}
theorem Cz {lo be : D} {n : Nat} (hn : n < SS.length) (hsl : SS.length ≤ 1000) (hf : SS.getD n default = f) (hl : f.length ≤ 1000) : MQ h1 h2 111 [.c (.pt 0 0 0), eI ((n : Int) - 1)] [(0, iB (bJ E SS bd lo be nm) g 1 2 3), (1, aN g.paths), (2, aM g.conds), (3, aZ nm)] (bc (wA ((n : Int) - 1) (w0 f) 4 5 6) [(0, iB (bJ E SS bd lo be nm) g 1 2 3), (1, aN g.paths), (2, aM g.conds), (3, aZ nm), (4, aH (pD 4)), (5, aH f), (6, aX [])]) := by
 refine aJ 500 Z (MC.keep [500,501,502,503,504,505,506] (bs := [iB (bJ E SS bd lo be nm) g 501 502 503, aN g.paths, aM g.conds, aZ nm, aH (pD 4), aH f, aX []]) Z Z (jH 30 [500,501,502,503] h1 h2 Tryz.func111 Z Z Z Z fun O hF => ?_))
 refine b9 ?_
 refine ah (jl O Z (au ?_))
 refine aV (j4 O Z Z Z Z (j2 O Z Z (ac ((vF O Z).cast (v' := eI (n : Nat)) (congrArg eI (by omega))) Z Z Z (ac ((aP O Z Z Z Z Z Z Z Z (dc hn)).cast (v' := ptr [dK f]) (by rw [hf])) Z Z Z (js O Z (jf [15,7,4] Z (gc O (B0 := 17000) Z Z Z Z (Ci (ts := f) h1 h2 hl) (aa Z) Z Z Z Z Z (au ?_))))))))
 refine js O Z (jf [17,4] Z (jl O Z (au ?_)))
 refine jo O Z (au ?_)
 refine jn (ag (ah (js O Z (jn (ao (aq (X := Nat) (fun i => ⟨[(4, .c (.pt 4 0 0)), (5, .c (.pt 5 0 0)), (18, eI i)], [(4, .box [.d (.int .i64 0), .d .nils, .d .nils, .d .nils, .d .nils, .d (.int .i64 0)]), (5, .box [.d (.int .i64 ((n : Int) - 1)), .rs 904 0 i, .d .nils, .rs 905 0 f.length, .rs 906 0 0, .d (.int .i64 4)]), (500, iB (bJ E SS bd lo be nm) g 501 502 503), (501, aN g.paths), (502, aM g.conds), (503, aZ nm), (904, aH (pD i)), (905, aH f), (906, aX [])]⟩) (fun i => i ≤ 4) (fun i => 4 - i) 0 (((cd 5 904 2 false 1 Z Z Z).trans (cd 5 906 1 true 4 Z Z Z)).trans (((aw [4,5,500,501,502,503,904,17000,906] (e' := [(4, _), (5, _), (18, _)]) Z Z ⟨Z, Z, Z, trivial⟩ Z).trans (af 17000 905 Z Z)).trans (Ent.to ⟨Z, Z, Z, trivial⟩ Z))) ?_ (fun i hi => ?_)))))))
 exact ct _
 have hvl := ij (i := i)
 refine ah (js O Z (jn (ag (ae O Z Z (fun hc19 => ?_) (fun hc19 => ?_)))))
 refine aj (ag (ao (ah (j2 O Z Z (jn (jA O [_,_,_,_,_,_,_,_] [pn [] 0 2, pn [0] 0 2, pn [] 0 0, pe [2] 0, pe [2,3] 1, pe (rg 0 5) 2, pn (rg 0 6) 3 3, pe (rg 0 7) 3] [3,4,5,7] [_,_,_,_,_] [[], [], [904], []] (ai (ka O Z Z (ka O Z Z (kw O Z Z))) (ai (ka O Z Z (ka O Z Z (kw O Z Z))) (ka O Z Z (ai (ai (aG (bo O (B0 := 25000) Z Z Z Z (yD (k := i) h1 h2 (by have := bC hc19; omega)) (aa Z) Z Z Z Z Z)) Z) (ai (ai (aG (ck O Z Z Z Z Z Z Z Z Z Z Z Z Z Z)) Z) (ai (ai (bU (own := false) (xs := (pD i).map Tm.cells) (ys := [Tm.cells (lA i)]) (zs := (pD (i + 1)).map Tm.cells) (n := i + 1) O Z Z Z Z Z Z Z Z Z Z Z Z Z Z Z Z (.row Z (by simp; omega)) (.whole Z Z (.inr ⟨Z, Z⟩)) (by simp) Z (by simp; omega) (by simp; omega) (by rw [qW]; simp) (by simp [ij]) Z) Z) (ka O Z Z (ai (ai (aG (eS O Z Z Z)) Z) trivial)))))))) ?_))))))
 refine jw [20,19,4,5,18] Z (b9 ?_)
 refine ak (ji O Z (js O Z (jn ?_)))
 refine ⟨i + 1, ((aw [4,5,500,501,502,503,26,905,906] (e' := [(4, _), (5, _), (18, _)]) Z Z ⟨Z, Z, Z, trivial⟩ Z).trans (af 26 904 Z Z)).trans (Ent.to ⟨Z, Z, Z, trivial⟩ Z), by have := bC hc19; omega, by have := bC hc19; omega⟩
 refine aO (ah (js O Z (jo O Z (au ?_))))
 refine jr ?_
 obtain rfl : i = 4 := by have := cH hc19; omega
 refine ⟨.inl Z, _, ((af 904 504 Z Z).trans (af 905 505 Z Z)).trans (af 906 506 Z Z), _, Z, Z, Z⟩
variable {c : Pc} {w : Pw}
theorem Cy {g' : Gs} {frm : Int} {s : Sm} {a : Int} {x : Tr} {k : Nat} (ih : mW L c frm w g (fD [.st x, .lp k]) g') : MQ h1 h2 115 [wA frm w 4 5 6, .c (.pt 7 0 0), .c (.pt 8 0 0), .c (.pt 9 0 0)] (iT c g w (Tr.d (.node s a [x])) (.int .i64 (k : Nat))) (bc (.tup []) (oT c g' (Tr.d (.node s a [x])) (.int .i64 (k : Nat)))) := by
 refine aJ 500 Z (MC.keep [500,503,507,508,509,510,511] (bs := [iB c g' 510 511 503, aZ c.num, pB 500, xB (Tr.d (.node s a [x])), xB (.int .i64 (k : Nat)), aN g'.paths, aM g'.conds]) Z Z (jH 19 [500,501,502,503,504,505,506,507,508,509] h1 h2 Tryz.func115 Z Z Z Z fun O hF => ?_))
 refine b9 ?_
 refine ah (jx O Z (au ?_))
 refine jn (jA O [_,_,_,_,_,_,_,_,_,_,_,_,_,_] [pn [] 0 2, pn [] 0 2, pn [] 0 1, pn [2] 0 1, pn [2,3] 0 1, pn [2,3,4] 0 1, pn (rg 2 4) 0 1, pn (rg 2 5) 0 1, pn [] 0 0, pn [8] 0 0, pe [8,9] 0, pn (rg 2 9) 1 1, pe (rg 2 10) 1, pe (rg 0 13) 2] [10,12,13] [_,_,_,_] [[], [], [501,502,504,505,506,17,15]] (ai (ka O Z Z (ka O Z Z (kw O Z Z))) (ai (ka O Z Z (ka O Z Z (kw O Z Z))) (ai (ka O Z Z (kw O Z Z)) (ai (ka O Z Z (kw O Z Z)) (ai (ka O Z Z (kw O Z Z)) (ai (ka O Z Z (kw O Z Z)) (ai (ai (ai (bQ O Z Z Z Z Z Z Z Z (by simp [Trs.d]) Z) Z) (ai (bQ O Z Z Z Z Z Z Z Z (by simp [Trs.d]) Z) Z)) (ai (ka O Z Z (kw O Z Z)) (ka O Z Z (ka O Z Z (ai (ai (aG (Eff.box O Z Z Z Z Z Z Z Z)) Z) (ka O Z Z (ai (ai (aG (Eff.box O Z Z Z Z Z Z Z Z)) Z) (ai (ai (bX O [500,501,502,503,504,505,506,17,15] [501,502,504,505,506,17,15] (bin := [iB c g 1 2 3, aN g.paths, aM g.conds, aZ c.num, aH w.vars, aH w.facts, aX w.ev, .box [.d x.d, .d (.int .i64 0), .pt 8 0 0], xa .nilp (.int .i64 (k : Nat)) .nilp]) Z Z Z Z (zz ih) Z Z Z Z Z (B0 := 19000) Z Z Z Z Z Z Z) Z) trivial)))))))))))))) ?_)
 show _ ∧ _
 refine AV ?_
 refine ⟨.inr Z, _, (af 19010 510 Z Z).trans (af 19011 511 Z Z), _, Z, Z, Z⟩
theorem Cx {lo : D} {RS : List (List Fr)} {g' : Gs} {frm : Int} {d8 : D} {k : Nat} {r : List Fr} (hk : k < RS.length) (hr : RS.getD k default = r) (ih : mW L (bJ E SS bd lo (.slc 1 (RS.map fun r => [fD r])) nm) frm w g (fD r) g') : MQ h1 h2 116 [wA frm w 4 5 6, .c (.pt 7 0 0), .c (.pt 9 0 0)] (iT (bJ E SS bd lo (.slc 1 (RS.map fun r => [fD r])) nm) g w d8 (.int .i64 (k : Nat))) (bc (.tup []) (oT (bJ E SS bd lo (.slc 1 (RS.map fun r => [fD r])) nm) g' d8 (.int .i64 (k : Nat)))) := by
 refine aJ 500 Z (MC.keep [500,503,507,508,509,510,511] (bs := [iB (bJ E SS bd lo (.slc 1 (RS.map fun r => [fD r])) nm) g' 510 511 503, aZ nm, pB 500, xB d8, xB (.int .i64 (k : Nat)), aN g'.paths, aM g'.conds]) Z Z (jH 14 [500,501,502,503,504,505,506,507,508,509] h1 h2 Tryz.func116 Z Z Z Z fun O hF => ?_))
 refine b9 ?_
 refine ah (jx O Z (au ?_))
 refine jn (jA O [_,_,_,_,_,_,_,_,_,_] [pn [] 0 0, pn [] 0 0, pn [] 0 0, pn [2] 0 0, pn [2,3] 0 0, pn [2,3,4] 0 0, pn [] 0 0, pn (rg 2 5) 0 0, pn (rg 2 6) 0 0, pe (rg 0 9) 0] [9] [_,_] [[501,502,504,505,506]] (ka O Z Z (ka O Z Z (ka O Z Z (ka O Z Z (ka O Z Z (ka O Z Z (ka O Z Z (ai (ai ((aP O Z Z Z Z Z Z Z Z (dc hk)).cast (v' := ptr [fD r]) (by rw [hr])) Z) (ka O Z Z (ai (ai (bX O [500,501,502,503,504,505,506] [501,502,504,505,506] (bin := [iB (bJ E SS bd lo (.slc 1 (RS.map fun r => [fD r])) nm) g 1 2 3, aN g.paths, aM g.conds, aZ nm, aH w.vars, aH w.facts, aX w.ev]) Z Z Z Z (ih) Z Z Z Z Z (B0 := 14000) Z Z Z Z Z Z Z) Z) trivial)))))))))) ?_)
 show _ ∧ _
 refine AV ?_
 refine ⟨.inr Z, _, (af 14010 510 Z Z).trans (af 14011 511 Z Z), _, Z, Z, Z⟩
set_option maxHeartbeats 8000000
theorem pV {L : Nat} (h1 : 4096 ≤ L) (h2 : L ≤ 1073741824) {E : Pe} {SS : List (List Tm)} {bd lo be : D} {nm : List (Int × D)} {g : Gs} {n : Nat} {f : List Tm} {w : Pw} {frm : Int} (hw : w0 f = w) (hn : n < SS.length) (hsl : SS.length ≤ 1000) (hf : SS.getD n default = f) (hl : f.length ≤ 1000) (hfr : frm = (n : Int) - 1) : MC Tryz.prog L 111 [.c (.pt 0 0 0), eI frm] [(0, iB (bJ E SS bd lo be nm) g 1 2 3), (1, aN g.paths), (2, aM g.conds), (3, aZ nm)] (bc (wA frm w 4 5 6) [(0, iB (bJ E SS bd lo be nm) g 1 2 3), (1, aN g.paths), (2, aM g.conds), (3, aZ nm), (4, aH w.vars), (5, aH w.facts), (6, aX w.ev)]) := by
 subst hw; subst hfr; exact Cz h1 h2 hn hsl hf hl
variable {LP : List Lp} {t : Tr}
theorem z3 {G : Gs} (hw : w0 f = w) (hn : 0 < SS.length) (hsl : SS.length ≤ 1000) (hf : SS.getD 0 default = f) (hfl : f.length ≤ 1000) (hbd : bd = t.d) (ih : mW L (bJ E SS bd (.slc 1 (LP.map fun q => [jy q])) (.slc 1 ((LP.map (·.r)).map fun r => [fD r])) nm) (-1) w g (fD [.st t]) G) : MQ h1 h2 77 [.c (.pt 0 0 0), eI (-1)] [(0, iB (bJ E SS bd (.slc 1 (LP.map fun q => [jy q])) (.slc 1 ((LP.map (·.r)).map fun r => [fD r])) nm) g 1 2 3), (1, aN g.paths), (2, aM g.conds), (3, aZ nm)] (bc (.tup []) (oF (bJ E SS bd (.slc 1 (LP.map fun q => [jy q])) (.slc 1 ((LP.map (·.r)).map fun r => [fD r])) nm) G)) := by
 refine aJ 500 Z (MC.keep [500,503,510,511] (R := .tup []) (bs := [iB (bJ E SS bd (.slc 1 (LP.map fun q => [jy q])) (.slc 1 ((LP.map (·.r)).map fun r => [fD r])) nm) G 510 511 503, aZ nm, aN G.paths, aM G.conds]) Z Z (jH 45 [500,501,502,503] h1 h2 Tryz.func77 Z Z Z Z fun O hF => ?_))
 subst hbd
 refine b9 ?_
 refine ah (jx O Z (au ?_))
 refine jf [2,1] Z (jx O Z (au ?_))
 refine jn (ag (oq O [_,_,_,_,_,_,_] [pn [] 0 0, pn [0] 0 0, pn [0,1] 0 0, pn [] 0 0, pe [0,1,2,3] 0, pn [] 0 1, pe [0,1,2,3,4,5] 1] [4,6] 5 4 (.box [.d (.int .i64 0), .d .nils, .d .nils, .d .nils, .d .nils, .d (.int .i64 0)]) [_,_] [_] [[], []] (kf O Z Z Z (kf O Z Z Z (kf O Z Z Z (kf O Z Z Z (ai (ai (aD (aG (cE O [500,501,502,503] (bin := [iB (bJ E SS t.d (.slc 1 (LP.map fun q => [jy q])) (.slc 1 ((LP.map (·.r)).map fun r => [fD r])) nm) g 1 2 3, aN g.paths, aM g.conds, aZ nm]) Z Z Z Z (pV (E := E) (SS := SS) (bd := t.d) (lo := (.slc 1 (LP.map fun q => [jy q]))) (be := (.slc 1 ((LP.map (·.r)).map fun r => [fD r]))) (nm := nm) (g := g) (n := 0) (f := f) (w := w) h1 h2 hw hn hsl hf hfl Z) Z Z Z Z Z (B0 := 11000) Z Z Z Z Z Z)) (aG (cE O [500,501,502,503] (bin := [iB (bJ E SS t.d (.slc 1 (LP.map fun q => [jy q])) (.slc 1 ((LP.map (·.r)).map fun r => [fD r])) nm) g 1 2 3, aN g.paths, aM g.conds, aZ nm]) Z Z Z Z (pV (E := E) (SS := SS) (bd := t.d) (lo := (.slc 1 (LP.map fun q => [jy q]))) (be := (.slc 1 ((LP.map (·.r)).map fun r => [fD r]))) (nm := nm) (g := g) (n := 0) (f := f) (w := w) h1 h2 hw hn hsl hf hfl Z) Z Z Z Z Z (B0 := 11000) Z Z Z Z Z Z))) Z) (ai (ai (ai (aG (Eff.alloc O Z Z Z Z Z Z)) Z) (ai (aG (Eff.alloc O Z Z Z Z Z Z)) Z)) (ai (ai (aD trivial (aG (eS O Z Z Z))) Z) trivial))))))) ?_))
 refine jw [4,3,2,1] Z (b9 ?_)
 refine ag (ah (j2 O Z Z (jn (ae O Z Z (fun hc12 => ?_) (fun hc12 => ?_)))))
 refine ag (jw [11,4,3,2,1] Z (jA O [_,_,_,_,_,_,_,_,_] [pn [] 0 1, pn [] 0 1, pn [] 0 0, pn [2] 0 0, pn [2,3] 0 0, pn [2,3,4] 0 0, pn (rg 2 4) 0 0, pe (rg 2 5) 0, pe (rg 0 8) 1] [7,8] [_,_,_] [[], [501,502,11004,11005,11006,20]] (ai (ka O Z Z (kw O Z Z)) (ai (ka O Z Z (kw O Z Z)) (ka O Z Z (ka O Z Z (ka O Z Z (ka O Z Z (ka O Z Z (ai (ai (aG (Eff.box O Z Z Z Z Z Z Z Z)) Z) (ai (ai (bX O [500,501,502,503,11004,11005,11006,20] [501,502,11004,11005,11006,20] (bin := [iB (bJ E SS t.d (.slc 1 (LP.map fun q => [jy q])) (.slc 1 ((LP.map (·.r)).map fun r => [fD r])) nm) g 1 2 3, aN g.paths, aM g.conds, aZ nm, aH w.vars, aH w.facts, aX w.ev, xa t.d (.int .i64 0) .nilp]) Z Z Z Z (tg ih) Z Z Z Z Z (B0 := 22000) Z Z Z Z Z Z Z) Z) trivial))))))))) ?_))
 refine jw [11,4,3,2,1] Z (b9 ?_)
 refine dz ?_
 refine ⟨.inl Z, _, (af 22010 510 Z Z).trans (af 22011 511 Z Z), _, Z, Z, Z⟩
 exact absurd hc12 (by decide)
theorem z2 {k : Nat} {q : Lp} {Y N : Pw → Gs → Gs} (hw : w0 f = w) (hk : k < LP.length) (hq : LP.getD k default = q) (hn : k + 1 < SS.length) (hsl : SS.length ≤ 1000) (hf : SS.getD (k + 1) default = f) (hfl : f.length ≤ 1000) (hs : q.s.sum.ok = true ∧ q.s.sum.xs.length ≤ 4) (hkl : k ≤ 1000) (hY : mV Y) (hN : mV N)
  (hy : (cp w (aQ q.s.sum w.vars).1 (aY w q.s.sum g)).bad = false → mW L (bJ E SS bd (.slc 1 (LP.map fun q => [jy q])) (.slc 1 ((LP.map (·.r)).map fun r => [fD r])) nm) (k : Nat) (w.fact (aQ q.s.sum w.vars).1) (cp w (aQ q.s.sum w.vars).1 (aY w q.s.sum g)) (fD [.st q.x, .lp k]) (Y (w.fact (aQ q.s.sum w.vars).1) (cp w (aQ q.s.sum w.vars).1 (aY w q.s.sum g)))) (hn2 : (Y (w.fact (aQ q.s.sum w.vars).1) (cp w (aQ q.s.sum w.vars).1 (aY w q.s.sum g))).bad = false → mW L (bJ E SS bd (.slc 1 (LP.map fun q => [jy q])) (.slc 1 ((LP.map (·.r)).map fun r => [fD r])) nm) (k : Nat) (w.fact (aR (aQ q.s.sum w.vars).1).1) (Y (w.fact (aQ q.s.sum w.vars).1) (cp w (aQ q.s.sum w.vars).1 (aY w q.s.sum g))) (fD q.r) (N (w.fact (aR (aQ q.s.sum w.vars).1).1) (Y (w.fact (aQ q.s.sum w.vars).1) (cp w (aQ q.s.sum w.vars).1 (aY w q.s.sum g))))) :
  MQ h1 h2 77 [.c (.pt 0 0 0), eI (k : Nat)] [(0, iB (bJ E SS bd (.slc 1 (LP.map fun q => [jy q])) (.slc 1 ((LP.map (·.r)).map fun r => [fD r])) nm) g 1 2 3), (1, aN g.paths), (2, aM g.conds), (3, aZ nm)] (bc (.tup []) (oF (bJ E SS bd (.slc 1 (LP.map fun q => [jy q])) (.slc 1 ((LP.map (·.r)).map fun r => [fD r])) nm) (dC Y N w (aQ q.s.sum w.vars).1 (aY w q.s.sum g)))) := by
 refine aJ 500 Z (MC.keep [500,503,510,511] (R := .tup []) (bs := [iB (bJ E SS bd (.slc 1 (LP.map fun q => [jy q])) (.slc 1 ((LP.map (·.r)).map fun r => [fD r])) nm) (dC Y N w (aQ q.s.sum w.vars).1 (aY w q.s.sum g)) 510 511 503, aZ nm, aN (dC Y N w (aQ q.s.sum w.vars).1 (aY w q.s.sum g)).paths, aM (dC Y N w (aQ q.s.sum w.vars).1 (aY w q.s.sum g)).conds]) Z Z (jH 45 [500,501,502,503] h1 h2 Tryz.func77 Z Z Z Z fun O hF => ?_))
 have hv4 : w.vars.length = 4 := by rw [← hw]; exact ij
 have hfw : w.facts.length ≤ 1000 := by rw [← hw]; exact hfl
 have hew : w.ev.length ≤ 1000 := by rw [← hw]; exact ct _
 have hva := p8 (w := w) ⟨by rw [← hw]; show ∀ t ∈ pD 4, t.ok = true; decide, by omega⟩ hv4
 refine b9 ?_
 refine ah (jx O Z (au ?_))
 refine jf [2,1] Z (jx O Z (au ?_))
 refine jn (ag (oq O [_,_,_,_,_,_,_] [pn [] 0 0, pn [0] 0 0, pn [0,1] 0 0, pn [] 0 0, pe [0,1,2,3] 0, pn [] 0 1, pe [0,1,2,3,4,5] 1] [4,6] 5 4 (.box [.d (.int .i64 0), .d .nils, .d .nils, .d .nils, .d .nils, .d (.int .i64 0)]) [_,_] [_] [[], []] (kf O Z Z Z (kf O Z Z Z (kf O Z Z Z (kf O Z Z Z (ai (ai (aD (aG (cE O [500,501,502,503] (bin := [iB (bJ E SS bd (.slc 1 (LP.map fun q => [jy q])) (.slc 1 ((LP.map (·.r)).map fun r => [fD r])) nm) g 1 2 3, aN g.paths, aM g.conds, aZ nm]) Z Z Z Z (pV (E := E) (SS := SS) (bd := bd) (lo := (.slc 1 (LP.map fun q => [jy q]))) (be := (.slc 1 ((LP.map (·.r)).map fun r => [fD r]))) (nm := nm) (g := g) (n := k + 1) (f := f) (w := w) h1 h2 hw hn hsl hf hfl (by omega)) Z Z Z Z Z (B0 := 11000) Z Z Z Z Z Z)) (aG (cE O [500,501,502,503] (bin := [iB (bJ E SS bd (.slc 1 (LP.map fun q => [jy q])) (.slc 1 ((LP.map (·.r)).map fun r => [fD r])) nm) g 1 2 3, aN g.paths, aM g.conds, aZ nm]) Z Z Z Z (pV (E := E) (SS := SS) (bd := bd) (lo := (.slc 1 (LP.map fun q => [jy q]))) (be := (.slc 1 ((LP.map (·.r)).map fun r => [fD r]))) (nm := nm) (g := g) (n := k + 1) (f := f) (w := w) h1 h2 hw hn hsl hf hfl (by omega)) Z Z Z Z Z (B0 := 11000) Z Z Z Z Z Z))) Z) (ai (ai (ai (aG (Eff.alloc O Z Z Z Z Z Z)) Z) (ai (aG (Eff.alloc O Z Z Z Z Z Z)) Z)) (ai (ai (aD trivial (aG (eS O Z Z Z))) Z) trivial))))))) ?_))
 refine jw [4,3,2,1] Z (b9 ?_)
 refine ag (ah (j2 O Z Z (jn (ae O Z Z (fun hc12 => ?_) (fun hc12 => ?_)))))
 exact absurd (bC hc12) (by omega)
 refine aj (ag (jw [11,4,3,2,1] Z (oq O [_,_,_,_,_,_,_,_,_] [pn [] 0 0, pn [0] 0 0, pn [0,1] 0 0, pn [0,1,2] 0 0, pn [] 0 0, pn [0,1,2,3,4] 0 0, pn [0,1,2,3,4,5] 0 0, pn [] 0 0, pe [0,1,2,3,4,5,6,7] 0] [8] 7 5 (.box [.d .nilp]) [_] [_] [] (kf O Z Z Z (kf O Z Z Z (kf O Z Z Z (kf O Z Z Z (kf O Z Z Z (ai (ai (aD ((aP O Z Z Z Z Z Z Z Z (dc hk)).cast (v' := ptr [jy q]) (by rw [hq])) ((aP O Z Z Z Z Z Z Z Z (dc hk)).cast (v' := ptr [jy q]) (by rw [hq]))) Z) (kf O Z Z Z (ai (ai (aG (Eff.alloc O Z Z Z Z Z Z)) Z) (ai (ai (aD trivial (aG (eS O Z Z Z))) Z) trivial))))))))) ?_)))
 refine jw [5,11,4,3,2,1] Z (b9 ?_)
 have hrr : (LP.map (·.r)).getD k default = q.r := by rw [← hq]; simp [List.getD_eq_getElem?_getD, hk]
 have hT := zY (c := (bJ E SS bd (.slc 1 (LP.map fun q => [jy q])) (.slc 1 ((LP.map (·.r)).map fun r => [fD r])) nm)) (g := (aY w q.s.sum g)) (frm := (k : Nat)) (w := w) (t := (aQ q.s.sum w.vars).1) (d8 := jy q) (d9 := .int .i64 (k : Nat)) (Y := Y) (N := N) h1 h2 hY hN fz (by omega) hfw hew (fun h => Cy h1 h2 (hy h)) (fun h => Cx (d8 := jy q) h1 h2 (k := k) (by rw [bz]; exact hk) hrr (hn2 h))
 refine jA O [_,_,_,_,_,_,_,_,_,_,_,_,_,_,_,_] [pn [] 0 1, pn [0] 0 1, pn [0,1] 0 1, pn [] 0 1, pn [] 0 0, pn [4] 0 0, pn [4,5] 0 0, pn [] 0 0, pn [7] 0 0, pn [7,8] 0 0, pn [7,8,9] 0 0, pn (rg 7 4) 0 0, pe (rg 4 8) 0, pn [] 0 1, pn [] 0 1, pe (rg 0 15) 1] [12,15] [_, [(2, pB 500), (3, xB (.int .i64 (k : Nat))), (5, xB (jy q)), (500, iB (bJ E SS bd (.slc 1 (LP.map fun q => [jy q])) (.slc 1 ((LP.map (·.r)).map fun r => [fD r])) nm) (aY w q.s.sum g) 501 502 503), (501, aN (aY w q.s.sum g).paths), (502, aM (aY w q.s.sum g).conds), (503, aZ nm), (4, iW (k : Nat) w 11004 11005 11006), (11004, aH w.vars), (11005, aH w.facts), (11006, aX w.ev)], _] [[], [501,502,11004,11005,11006]] (ai (ka O Z Z (kw O Z Z)) (ai (ka O Z Z (kw O Z Z)) (ai (ka O Z Z (kw O Z Z)) (ai (ka O Z Z (kw O Z Z)) (ka O Z Z (ka O Z Z (ka O Z Z (ka O Z Z (ka O Z Z (ka O Z Z (ka O Z Z (ka O Z Z (ai (ai (aG (cE O [500,501,502,503,4,11004,11005,11006] (bin := [iB (bJ E SS bd (.slc 1 (LP.map fun q => [jy q])) (.slc 1 ((LP.map (·.r)).map fun r => [fD r])) nm) g 1 2 3, aN g.paths, aM g.conds, aZ nm, iW (k : Nat) w 5 6 7, aH w.vars, aH w.facts, aX w.ev]) Z Z Z Z (mr (c := (bJ E SS bd (.slc 1 (LP.map fun q => [jy q])) (.slc 1 ((LP.map (·.r)).map fun r => [fD r])) nm)) (g := g) (frm := (k : Nat)) (w := w) (t := q.s.sum) h1 h2 hs.1 hva (by have := hs.2; omega)) Z Z Z Z Z (B0 := 42000) Z Z Z Z Z Z)) Z) (ai (ka O Z Z (kw O Z Z)) (ai (ka O Z Z (kw O Z Z)) (ai (ai (bX O [500,501,502,503,11004,11005,11006,2,5,3] [501,502,11004,11005,11006] (bin := [iB (bJ E SS bd (.slc 1 (LP.map fun q => [jy q])) (.slc 1 ((LP.map (·.r)).map fun r => [fD r])) nm) (aY w q.s.sum g) 1 2 3, aN (aY w q.s.sum g).paths, aM (aY w q.s.sum g).conds, aZ nm, aH w.vars, aH w.facts, aX w.ev, pB 0, xB (jy q), xB (.int .i64 (k : Nat))]) Z Z Z Z (hT) Z Z Z Z Z (B0 := 45000) Z Z Z Z Z Z Z) Z) trivial)))))))))))))))) ?_
 show _ ∧ _
 refine AV ?_
 refine ⟨.inr Z, _, (af 45010 510 Z Z).trans (af 45011 511 Z Z), _, Z, Z, Z⟩
abbrev tX (p : Pm) (t : Tr) : Pc := bJ (rX p.body p.post) (p.pre :: (iC t).lp.map (·.s.facts)) t.d (.slc 1 ((iC t).lp.map fun q => [jy q])) (.slc 1 (((iC t).lp.map (·.r)).map fun r => [fD r])) (iC t).nm
abbrev yT (p : Pm) (t : Tr) (g : Gs) : List (Nat × B) := [(0, iB (tX p t) g 1 2 3), (1, aN g.paths), (2, aM g.conds), (3, aZ (iC t).nm)]
abbrev w7 (p : Pm) (t : Tr) (g : Gs) : List (Nat × B) := [(0, iB (tX p t) g 10 11 3), (3, aZ (iC t).nm), (10, aN g.paths), (11, aM g.conds)]
variable {p : Pm}
theorem wb (hp : gI p = true) (htd : w6 p.body = t.d) (ht : PtOk p t) : MQ h1 h2 48 [aPm p] [] (bc (.tup [.c (.pt 0 0 0), eB true]) (yT p t g0)) := by
 refine aJ 500 Z (MC.keep [500,501,502,503] (bs := [iB (tX p t) g0 501 502 503, aN [], aM [], aZ (iC t).nm]) Z Z (jB 30 h1 h2 Tryz.func48 Z Z Z fun O hF => ?_))
 have hfd := oH (L := L) h1 h2 ht.tree (r := []) (c := ⟨[], []⟩) (by have := ht.nodes; show 0 + _ ≤ _; omega) (post := dK p.post) (bd := t.d) (pre := p.pre)
 refine ah (jx O Z (au ?_))
 refine ay (Ent.freeze 1 (e' := [(1, _), (0, _)]) Z (.cons Z (.c (.box (cs := Pm.data p) Z (aE Z))) (fe [0] Z)) (.skip .nil)) ?_
 refine au ?_
 refine j2 O Z Z (jn (ag (ah (js O Z (ap O Z Z Z Z ((Bo (p := p) h1 h2).plain (u := eB true) (by rw [hp])) (aa Z) Z Z Z Z Z (B0 := 9000) Z (js O Z (jf [9,3,2,1,0] Z (jn (ae O Z Z (fun hc9 => ?_) (fun hc9 => ?_))))))))))
 cases hc9
 refine aj (ah (j2 O Z Z (jf [12,3,2,1,0] Z (ar O Z Z Z Z (Bn h1 h2) (aa Z) Z Z Z Z (B0 := 14000) Z Z ?_))))
 rw [htd]
 refine j4 O Z Z Z Z (js O Z (jf [4,3,2,1,0] Z (aV (j4 O Z Z Z Z (jf [19,17,4,3,2,1,0] Z (AOps.heap (bE O Z Z Z Z Z Z Z Z Z Z Z) Z (au ?_)))))))
 refine j2 O Z Z (jf [22,21,4,3,2,1,0] Z (AOps.heap (HS.makeMap O Z Z Z Z) Z (au ?_)))
 refine au ?_
 refine js O Z (jf [24,4,3,2,1,0] Z (jx O Z (au ?_)))
 refine js O Z (jf [6,4,3,2,1,0] Z (aV (j2 O Z Z (ay (cd 25 902 1 false 6 Z Z Z) (au ?_)))))
 refine ay (cd 25 903 1 false 7 Z Z Z) (au ?_)
 refine aB O [25,20,902,903,23] (bin := [zB (dK p.post) t.d ⟨[], []⟩ 1 2 3 4, uP p.pre ⟨[], []⟩, uR ⟨[], []⟩, uS ⟨[], []⟩, aZ []]) Z Z Z Z (hfd.1) Z Z Z Z Z Z (B0 := 29000) Z Z (au ?_)
 refine jf [6,4,3,2,1,0] Z (aV (ay (Ent.freeze 29010 (e' := [(6, _)]) Z (fe [6] Z) (.cons Z (.box (.cons (.keep Z) (.cons (.row Z (by simp)) (fk Z)))) (.cons Z .map (.skip (.cons Z .row (.cons Z .row .nil)))))) ?_))
 refine ay (Ent.freeze 29011 (e' := [(6, _)]) Z (fe [6] Z) (.cons Z (.box (.cons (.keep Z) (.cons (.keep Z) (.cons (.keep Z) (.cons (.keep Z) (.cons (.keep Z) (.cons (.keep Z) (.cons (.row Z (by simp)) (fk Z))))))))) (.cons Z .map (.skip (.cons Z .row .nil))))) ?_
 refine ay (Ent.freeze 29012 (e' := [(6, _)]) Z (fe [6] Z) (.cons Z (.box (.cons (.keep Z) (.cons (.keep Z) (.cons (.keep Z) (.cons (.keep Z) (.cons (.keep Z) (.cons (.keep Z) (.cons (.keep Z) (.cons (.row Z (by simp)) (fk Z)))))))))) (.cons Z .map (.skip .nil)))) ?_
 refine ay (cd 25 901 5 true 2 Z Z Z) (au ?_)
 refine ay (cd 25 904 3 true 3 Z Z Z) (au ?_)
 refine j3 O Z Z Z (jr ?_)
 refine ⟨.inl Z, _, (((af 25 500 Z Z).trans (af 901 501 Z Z)).trans (af 904 502 Z Z)).trans (af 23 503 Z Z), _, Z, Z, Z⟩
theorem z5 (hp : gI p = false) : MQ h1 h2 48 [aPm p] [] (Plain (.tup [.c (.d .nilp), eB false])) := by
 refine MC.data (jB 30 h1 h2 Tryz.func48 Z Z Z fun O hF => ?_)
 refine ah (jx O Z (au ?_))
 refine ay (Ent.freeze 1 (e' := [(1, _), (0, _)]) Z (.cons Z (.c (.box (cs := Pm.data p) Z (aE Z))) (fe [0] Z)) (.skip .nil)) ?_
 refine au ?_
 refine j2 O Z Z (jn (ag (ah (js O Z (ap O Z Z Z Z ((Bo (p := p) h1 h2).plain (u := eB false) (by rw [hp])) (aa Z) Z Z Z Z Z (B0 := 9000) Z (js O Z (jf [9,3,2,1,0] Z (jn (ae O Z Z (fun hc9 => ?_) (fun hc9 => ?_))))))))))
 refine ah (j2 O Z Z (jr ?_))
 refine ⟨.inl Z, _, am, _, Z, ?_⟩
 exact .tup (.cons (.c .d) (.cons (.c .d) .nil))
 cases hc9
theorem qt {al : Nat → Gs} (h : ∀ i, (al i).bad = true → al (i + 1) = al i) {i : Nat} (hb : (al i).bad = true) : ∀ {n : Nat}, i ≤ n → al n = al i := fun {n} hn => by
 induction n with
 | zero =>
  obtain rfl : i = 0 := by omega
  rfl
 | succ n ih =>
  rcases Nat.lt_or_ge n i with h1 | h1
  obtain rfl : i = n + 1 := by omega
  rfl
  have := ih h1
  rw [h n (by rw [this]; exact hb), this]
variable {k : Int}
theorem z4 {al : Nat → Gs} (hl : (p.pre :: (iC t).lp.map (·.s.facts)).length ≤ 1000) (hst : ∀ i, (al i).bad = true → al (i + 1) = al i) (h0 : (al 0).bad = false) (hal : ∀ i : Nat, i < (p.pre :: (iC t).lp.map (·.s.facts)).length → (al i).bad = false → MQ h1 h2 77 [.c (.pt 0 0 0), eI ((i : Int) - 1)] (yT p t (al i)) (bc (.tup []) (w7 p t (al (i + 1))))) : MQ h1 h2 76 [.c (.pt 0 0 0), eB true, eI k, .c (.fb 77 [.pt 0 0 0])] (yT p t (al 0)) (bc (eB (!(al (p.pre :: (iC t).lp.map (·.s.facts)).length).bad)) (w7 p t (al (p.pre :: (iC t).lp.map (·.s.facts)).length))) := by
 refine aJ 500 Z (MC.keep [500,503,510,511] (R := eB (!(al (p.pre :: (iC t).lp.map (·.s.facts)).length).bad)) (bs := [iB (tX p t) (al (p.pre :: (iC t).lp.map (·.s.facts)).length) 510 511 503, aZ (iC t).nm, aN (al (p.pre :: (iC t).lp.map (·.s.facts)).length).paths, aM (al (p.pre :: (iC t).lp.map (·.s.facts)).length).conds]) Z Z (jH 41 [500,501,502,503] h1 h2 Tryz.func76 Z Z Z Z fun O hF => ?_))
 refine b9 ?_
 refine ah (js O Z (jn (ag (ah (j2 O Z Z (jf [11,8,0,2,3] Z (jn (ae O Z Z (fun hc11 => ?_) (fun hc11 => ?_)))))))))
 cases hc11
 refine aj (ag (ah (j4 O Z Z Z Z (cu O Z (js O Z (jf [29,28,8,0,2,3] Z (jn (ao (aq (X := Nat) (fun i => ⟨[(0, .c (.pt 500 0 0)), (3, .c (.fb 77 [.pt 500 0 0])), (28, eI ((p.pre :: (iC t).lp.map (·.s.facts)).length : Nat)), (29, eI i)], [(500, iB (tX p t) (al i) 901 902 503), (503, aZ (iC t).nm), (901, aN (al i).paths), (902, aM (al i).conds)]⟩) (fun i => i ≤ (p.pre :: (iC t).lp.map (·.s.facts)).length ∧ (al i).bad = false) (fun i => (p.pre :: (iC t).lp.map (·.s.facts)).length - i) 0 ((((aw [500,503,501,502] (e' := [(0, _), (3, _), (28, _), (29, _)]) Z Z ⟨Z, Z, Z, Z, trivial⟩ Z).trans (af 501 901 Z Z)).trans (af 502 902 Z Z)).trans (Ent.to ⟨Z, Z, Z, Z, trivial⟩ Z)) ?_ (fun i hi => ?_))))))))))
 exact ⟨ct _, h0⟩
 refine ah (js O Z (jn (ag (ae O Z Z (fun hc30 => ?_) (fun hc30 => ?_)))))
 refine aj (ag (ao (ah (j2 O Z Z (aV (j2 O Z Z (ji O Z (jf [34,32,31,30,0,3,28,29] Z (uN O [500,901,902,503] (bin := [iB (tX p t) (al i) 1 2 3, aN (al i).paths, aM (al i).conds, aZ (iC t).nm]) Z Z Z Z (hal i (by have := bC hc30; omega) hi.2) Z Z Z Z Z Z (B0 := 36000) Z Z (au ?_))))))))))
 refine jf [31,30,0,3,28,29] Z (aV (j4 O Z Z Z Z (jf [39,31,30,0,3,28,29] Z (jn (ae O Z Z (fun hc39 => ?_) (fun hc39 => ?_))))))
 refine ah (js O Z (jr ?_))
 have e := qt hst (show (al (i + 1)).bad = true from hc39) (n := (p.pre :: (iC t).lp.map (·.s.facts)).length) (by have := bC hc30; omega)
 rw [e]
 refine ⟨.inl Z, _, (af 36010 510 Z Z).trans (af 36011 511 Z Z), _, Z, by rw [show (al (i + 1)).bad = true from hc39]; rfl, Z⟩
 refine aj (ak (ji O Z (js O Z (jn ?_))))
 refine ⟨i + 1, (((aw [500,503,36010,36011] (e' := [(0, _), (3, _), (28, _), (29, _)]) Z Z ⟨Z, Z, Z, Z, trivial⟩ Z).trans (af 36010 901 Z Z)).trans (af 36011 902 Z Z)).trans (Ent.to ⟨Z, Z, Z, Z, trivial⟩ Z), ⟨by have := bC hc30; omega, hc39⟩, by have := bC hc30; omega⟩
 refine aO (ah (js O Z (jr ?_)))
 obtain rfl : i = (p.pre :: (iC t).lp.map (·.s.facts)).length := by have := cH hc30; omega
 refine ⟨.inl Z, _, (af 901 510 Z Z).trans (af 902 511 Z Z), _, Z, by rw [hi.2]; rfl, Z⟩
theorem z9 (hl : g.conds.length ≤ L) (hc : iJ g.conds = true) : MQ h1 h2 49 [.c (.pt 0 0 0)] [(0, iB c g 1 2 3), (1, aN g.paths), (2, aM g.conds), (3, aZ c.num)] (bc (.tup [.c (.rs 2 0 g.conds.length), eB true]) [(0, iB c g 1 2 3), (1, aN g.paths), (2, aM g.conds), (3, aZ c.num)]) := by
 refine aJ 500 Z (MC.keep [500,501,502,503] (bs := [iB c g 501 502 503, aN g.paths, aM g.conds, aZ c.num]) Z Z (jH 29 [500,501,502,503] h1 h2 Tryz.func49 Z Z Z Z fun O hF => ?_))
 refine b9 ?_
 have hall : ∀ i, i < g.conds.length → dA (g.conds.getD i default) = true := fun i hi => by rw [ax hi]; exact List.all_eq_true.1 (Bool.and_eq_true_iff.1 hc).1 _ (List.getElem_mem hi)
 refine ah (j2 O Z Z (jn (ag (ah (j4 O Z Z Z Z (dk O Z Z (js O Z (jf [11,3,2,0] Z (jn (ae O Z Z (fun hc11 => ?_) (fun hc11 => ?_)))))))))))
 exact absurd (bC hc11) (by have := (Bool.and_eq_true_iff.1 hc).2; have := bC this; omega)
 refine aj (ag (ah (j4 O Z Z Z Z (dk O Z Z (js O Z (jf [17,16,15,3,2,0] Z (jn (ao (aq (X := Nat) (fun i => ⟨[(0, .c (.pt 500 0 0)), (15, .c (.rs 502 0 g.conds.length)), (16, eI g.conds.length), (17, eI i)], [(500, iB c g 501 502 503), (501, aN g.paths), (502, aM g.conds), (503, aZ c.num)]⟩) (fun i => i ≤ g.conds.length ∧ ∀ j (h : j < g.conds.length), j < i → dA g.conds[j] = true) (fun i => g.conds.length - i) 0 (Ent.to ⟨Z, Z, Z, Z, trivial⟩ Z) ?_ (fun i hi => ?_))))))))))
 exact ⟨ct _, fun j h hj => absurd hj (Nat.not_lt_zero j)⟩
 refine ah (js O Z (jn (ag (ae O Z Z (fun hc18 => ?_) (fun hc18 => ?_)))))
 refine aj (ag (ao (ah ?_)))
 have hil : i < g.conds.length := by have := bC hc18; omega
 have hRi : (g.conds.map Sq.cells)[0 + (i : Int).toNat]? = some (Sq.cells (g.conds.getD i default)) := by rw [Int.toNat_natCast, Nat.zero_add, List.getElem?_map, ax hil, List.getElem?_eq_getElem hil]; rfl
 refine dk O Z Z (ac (aS O (ex := Sq.cells (g.conds.getD i default)) Z Z Z Z hRi Z) Z Z Z (jf [20,18,0,15,16,17] Z (jl O Z (au ?_))))
 refine jo O Z (au ?_)
 refine aV (js O Z (ap O Z Z Z Z (xi (s := (g.conds.getD i default)) h1 h2) (.cons (.agg (.cons (.rp Z hRi Z) (.cons .d (.cons (.rp Z hRi Z) .nil)))) .nil) Z Z Z Z Z (B0 := 23000) Z (js O Z (jf [23,5,20,18,0,15,16,17] Z (jn (ae O Z Z (fun hc23 => ?_) (fun hc23 => ?_)))))))
 exact absurd hc23 (by rw [hall i (by have := bC hc18; omega)]; decide)
 refine aj (ak (ji O Z (js O Z (jn ?_))))
 refine ⟨i + 1, (aw [500,501,502,503] (e' := [(0, _), (15, _), (16, _), (17, _)]) Z Z ⟨Z, Z, Z, Z, trivial⟩ Z).trans (Ent.to ⟨Z, Z, Z, Z, trivial⟩ Z), ⟨by have := bC hc18; omega, fun j h hj => ?_⟩, by have := bC hc18; omega⟩
 by_cases e : j = i
 subst e; rw [ax h] at hc23; simpa using hc23
 exact hi.2 j h (by omega)
 refine aO (ah (j4 O Z Z Z Z (j2 O Z Z (jf [3,2,18,0,15,16,17] Z (jr ?_)))))
 refine ⟨.inl Z, _, aw [500,501,502,503] (e' := [(2, _), (3, _)]) Z Z ⟨Z, Z, trivial⟩ Z, _, Z, Z, Z⟩
theorem Aa (hl : g.conds.length ≤ L) (hc : iJ g.conds = false) : MQ h1 h2 49 [.c (.pt 0 0 0)] [(0, iB c g 1 2 3), (1, aN g.paths), (2, aM g.conds), (3, aZ c.num)] (bc (.tup [.c (.d .nils), eB false]) [(0, iB c g 1 2 3), (1, aN g.paths), (2, aM g.conds), (3, aZ c.num)]) := by
 refine aJ 500 Z (MC.keep [500,501,502,503] (bs := [iB c g 501 502 503, aN g.paths, aM g.conds, aZ c.num]) Z Z (jH 29 [500,501,502,503] h1 h2 Tryz.func49 Z Z Z Z fun O hF => ?_))
 refine b9 ?_
 refine ah (j2 O Z Z (jn (ag (ah (j4 O Z Z Z Z (dk O Z Z (js O Z (jf [11,3,2,0] Z (jn (ae O Z Z (fun hc11 => ?_) (fun hc11 => ?_)))))))))))
 refine ah (j2 O Z Z (jr ?_))
 refine ⟨.inl Z, _, aw [500,501,502,503] (e' := [(2, _), (3, _)]) Z Z ⟨Z, Z, trivial⟩ Z, _, Z, Z, Z⟩
 refine aj (ag (ah (j4 O Z Z Z Z (dk O Z Z (js O Z (jf [17,16,15,3,2,0] Z (jn (ao (aq (X := Nat) (fun i => ⟨[(0, .c (.pt 500 0 0)), (15, .c (.rs 502 0 g.conds.length)), (16, eI g.conds.length), (17, eI i)], [(500, iB c g 501 502 503), (501, aN g.paths), (502, aM g.conds), (503, aZ c.num)]⟩) (fun i => i ≤ g.conds.length ∧ ∀ j (h : j < g.conds.length), j < i → dA g.conds[j] = true) (fun i => g.conds.length - i) 0 (Ent.to ⟨Z, Z, Z, Z, trivial⟩ Z) ?_ (fun i hi => ?_))))))))))
 exact ⟨ct _, fun j h hj => absurd hj (Nat.not_lt_zero j)⟩
 refine ah (js O Z (jn (ag (ae O Z Z (fun hc18 => ?_) (fun hc18 => ?_)))))
 refine aj (ag (ao (ah ?_)))
 have hil : i < g.conds.length := by have := bC hc18; omega
 have hRi : (g.conds.map Sq.cells)[0 + (i : Int).toNat]? = some (Sq.cells (g.conds.getD i default)) := by rw [Int.toNat_natCast, Nat.zero_add, List.getElem?_map, ax hil, List.getElem?_eq_getElem hil]; rfl
 refine dk O Z Z (ac (aS O (ex := Sq.cells (g.conds.getD i default)) Z Z Z Z hRi Z) Z Z Z (jf [20,18,0,15,16,17] Z (jl O Z (au ?_))))
 refine jo O Z (au ?_)
 refine aV (js O Z (ap O Z Z Z Z (xi (s := (g.conds.getD i default)) h1 h2) (.cons (.agg (.cons (.rp Z hRi Z) (.cons .d (.cons (.rp Z hRi Z) .nil)))) .nil) Z Z Z Z Z (B0 := 23000) Z (js O Z (jf [23,5,20,18,0,15,16,17] Z (jn (ae O Z Z (fun hc23 => ?_) (fun hc23 => ?_)))))))
 refine ah (j2 O Z Z (jr ?_))
 refine ⟨.inl Z, _, aw [500,501,502,503] (e' := [(2, _), (3, _)]) Z Z ⟨Z, Z, trivial⟩ Z, _, Z, Z, Z⟩
 refine aj (ak (ji O Z (js O Z (jn ?_))))
 refine ⟨i + 1, (aw [500,501,502,503] (e' := [(0, _), (15, _), (16, _), (17, _)]) Z Z ⟨Z, Z, Z, Z, trivial⟩ Z).trans (Ent.to ⟨Z, Z, Z, Z, trivial⟩ Z), ⟨by have := bC hc18; omega, fun j h hj => ?_⟩, by have := bC hc18; omega⟩
 by_cases e : j = i
 subst e; rw [ax h] at hc23; simpa using hc23
 exact hi.2 j h (by omega)
 refine aO (ah (j4 O Z Z Z Z (j2 O Z Z (jf [3,2,18,0,15,16,17] Z (jr ?_)))))
 exfalso
 have hall := ii (p := dA) (fun j hj => hi.2 j hj (by have := cH hc18; omega))
 unfold iJ at hc
 rw [hall, Bool.true_and] at hc
 exact absurd (cH hc) (by have := cH hc11; omega)
variable {all : Bool}
theorem Ab (hp : gI p = true) (htd : w6 p.body = t.d) (ht : PtOk p t) (hg : MQ h1 h2 76 [.c (.pt 0 0 0), eB all, eI k, .c (.fb 77 [.pt 0 0 0])] (yT p t g0) (bc (eB true) (w7 p t g))) : MQ h1 h2 41 [aPm p, eB all, eI k] [] (bc (.tup [.c (.pt 0 0 0), eB true]) (w7 p t g)) := by
 refine aJ 500 Z (MC.keep [500,503,510,511] (bs := [iB (tX p t) g 510 511 503, aZ (iC t).nm, aN g.paths, aM g.conds]) Z Z (jB 29 h1 h2 Tryz.func41 Z Z Z fun O hF => ?_))
 refine ah (jx O Z (au ?_))
 refine ay (Ent.freeze 3 (e' := [(3, _), (0, _), (1, _), (2, _)]) Z (.cons Z (.c (.box (cs := Pm.data p) Z (aE Z))) (fe [0,1,2] Z)) (.skip .nil)) ?_
 refine au ?_
 refine j2 O Z Z (aV (js O Z (jf [11,7,6,0,1,2] Z (aB O [] (bin := []) Z Z Z Z (wb (p := p) (t := t) h1 h2 hp htd ht) Z Z Z Z Z Z (B0 := 13000) Z Z (au ?_)))))
 refine j4 O Z Z Z Z (js O Z (jf [9,8,7,6,0,1,2] Z (jn (ag (ah (j3 O Z Z Z (jf [17,8,7,6,0,1,2] Z (dB Z (js O Z (dB Z (js O Z (jf [19,17,8,7,6,0,1,2] Z (dB Z (js O Z (jf [20,17,8,7,6,0,1,2] Z (dB Z (js O Z (jf [21,20,17,8,7,6,0,2] Z (dB Z (js O Z (jf [22,21,20,17,8,7,6,0] Z (dB Z (js O Z (dB Z (ac (od O Z Z Z Z Z) Z Z Z (jf [24,22,21,20,17,8,7,6,0] Z (dB Z (aB O [13000,13001,13002,13003] (bin := [iB (tX p t) g0 1 2 3, aN [], aM [], aZ (iC t).nm]) Z Z Z Z (hg) Z Z Z Z Z Z (B0 := 26000) Z Z (au ?_)))))))))))))))))))))))))))))
 refine jf [25,17,8,7,6,0] Z (dB Z (js O Z (ac (aL O Z Z Z Z Z) Z Z Z (jf [27,8,7,6,0] Z (jn (ae O Z Z (fun hc27 => ?_) (fun hc27 => ?_)))))))
 exact absurd hc27 (by decide)
 refine aj (ah (j3 O Z Z Z (jf [7,6,8,0] Z (jr ?_))))
 refine ⟨.inl Z, _, (((af 13000 500 Z Z).trans (af 13003 503 Z Z)).trans (af 26010 510 Z Z)).trans (af 26011 511 Z Z), _, Z, Z, Z⟩
theorem Ac (hp : gI p = true) (htd : w6 p.body = t.d) (ht : PtOk p t) (hg : MQ h1 h2 76 [.c (.pt 0 0 0), eB all, eI k, .c (.fb 77 [.pt 0 0 0])] (yT p t g0) (bc (eB false) (w7 p t g))) : MQ h1 h2 41 [aPm p, eB all, eI k] [] (Plain (.tup [.c (.d .nilp), eB false])) := by
 refine MC.data (jB 29 h1 h2 Tryz.func41 Z Z Z fun O hF => ?_)
 refine ah (jx O Z (au ?_))
 refine ay (Ent.freeze 3 (e' := [(3, _), (0, _), (1, _), (2, _)]) Z (.cons Z (.c (.box (cs := Pm.data p) Z (aE Z))) (fe [0,1,2] Z)) (.skip .nil)) ?_
 refine au ?_
 refine j2 O Z Z (aV (js O Z (jf [11,7,6,0,1,2] Z (aB O [] (bin := []) Z Z Z Z (wb (p := p) (t := t) h1 h2 hp htd ht) Z Z Z Z Z Z (B0 := 13000) Z Z (au ?_)))))
 refine j4 O Z Z Z Z (js O Z (jf [9,8,7,6,0,1,2] Z (jn (ag (ah (j3 O Z Z Z (jf [17,8,7,6,0,1,2] Z (dB Z (js O Z (dB Z (js O Z (jf [19,17,8,7,6,0,1,2] Z (dB Z (js O Z (jf [20,17,8,7,6,0,1,2] Z (dB Z (js O Z (jf [21,20,17,8,7,6,0,2] Z (dB Z (js O Z (jf [22,21,20,17,8,7,6,0] Z (dB Z (js O Z (dB Z (ac (od O Z Z Z Z Z) Z Z Z (jf [24,22,21,20,17,8,7,6,0] Z (dB Z (aB O [13000,13001,13002,13003] (bin := [iB (tX p t) g0 1 2 3, aN [], aM [], aZ (iC t).nm]) Z Z Z Z (hg) Z Z Z Z Z Z (B0 := 26000) Z Z (au ?_)))))))))))))))))))))))))))))
 refine jf [25,17,8,7,6,0] Z (dB Z (js O Z (ac (aL O Z Z Z Z Z) Z Z Z (jf [27,8,7,6,0] Z (jn (ae O Z Z (fun hc27 => ?_) (fun hc27 => ?_)))))))
 refine ah (j2 O Z Z (jr ?_))
 refine ⟨.inl Z, _, am, _, Z, ?_⟩
 exact .tup (.cons (.c .d) (.cons (.c .d) .nil))
 exact absurd hc27 (by decide)
theorem Ad (hp : gI p = false) : MQ h1 h2 41 [aPm p, eB all, eI k] [] (Plain (.tup [.c (.d .nilp), eB false])) := by
 refine MC.data (jB 29 h1 h2 Tryz.func41 Z Z Z fun O hF => ?_)
 refine ah (jx O Z (au ?_))
 refine ay (Ent.freeze 3 (e' := [(3, _), (0, _), (1, _), (2, _)]) Z (.cons Z (.c (.box (cs := Pm.data p) Z (aE Z))) (fe [0,1,2] Z)) (.skip .nil)) ?_
 refine au ?_
 refine j2 O Z Z (aV (js O Z (jf [11,7,6,0,1,2] Z (ar O Z Z Z Z (z5 (p := p) h1 h2 hp) (aa Z) Z Z Z Z (B0 := 13000) Z Z (j4 O Z Z Z Z (js O Z (jf [9,8,7,6,0,1,2] Z (jn (ag (ah (j3 O Z Z Z (jf [17,8,7,6,0,1,2] Z (AOps.skip Z Z Z Z Z Z (AOps.skip Z Z Z Z Z Z (jf [19,17,8,7,6,0,1,2] Z (AOps.skip Z Z Z Z Z Z (jf [20,17,8,7,6,0,1,2] Z (AOps.skip Z Z Z Z Z Z (jf [21,20,17,8,7,6,0,2] Z (AOps.skip Z Z Z Z Z Z (jf [22,21,20,17,8,7,6,0] Z (AOps.skip Z Z Z Z Z Z (AOps.skip Z Z Z Z Z Z (jf [24,22,21,20,17,8,7,6,0] Z (AOps.skip Z Z Z Z Z Z (jf [25,17,8,7,6,0] Z (AOps.skip Z Z Z Z Z Z (ac (cy O Z Z Z Z Z) Z Z Z (jf [27,8,7,6,0] Z ?_)))))))))))))))))))))))))))))
 refine jn (ae O Z Z (fun hc27 => ?_) (fun hc27 => ?_))
 refine ah (j2 O Z Z (jr ?_))
 refine ⟨.inl Z, _, am, _, Z, ?_⟩
 exact .tup (.cons (.c .d) (.cons (.c .d) .nil))
 exact absurd hc27 (by decide)
theorem Ag (hP : MQ h1 h2 41 [aPm p, eB true, eI 0] [] (bc (.tup [.c (.pt 0 0 0), eB true]) (w7 p t g))) (hl : g.conds.length ≤ L) (hc : iJ g.conds = true) : MQ h1 h2 17 [aPm p] [] (Rows (.tup [.c (.rs 0 0 g.conds.length), eB true]) [aM g.conds]) := by
 refine bI (jB 19 h1 h2 Tryz.func17 Z Z Z fun O hF => ?_)
 refine ah (jx O Z (au ?_))
 refine ay (Ent.freeze 1 (e' := [(1, _), (0, _)]) Z (.cons Z (.c (.box (cs := Pm.data p) Z (aE Z))) (fe [0] Z)) (.skip .nil)) ?_
 refine au ?_
 refine j2 O Z Z (aV (js O Z (jf [7,3,2,0] Z (aB O [] (bin := []) Z Z Z Z (hP) Z Z Z Z Z Z (B0 := 9000) Z Z (au ?_)))))
 refine j4 O Z Z Z Z (js O Z (jf [5,4,3,2,0] Z (jn (ag (ah (j2 O Z Z (jf [12,4,3,2,0] Z (jn (ae O Z Z (fun hc12 => ?_) (fun hc12 => ?_))))))))))
 exact absurd hc12 (by decide)
 refine aj (ah (j3 O Z Z Z (jf [15,3,2,0] Z (aB O [9000,9010,9011,9003] (bin := [iB (tX p t) g 1 2 3, aN g.paths, aM g.conds, aZ (iC t).nm]) Z Z Z Z (z9 (c := tX p t) (g := g) h1 h2 hl hc) Z Z Z Z Z Z (B0 := 17000) Z Z (au ?_)))))
 refine j4 O Z Z Z Z (jf [3,2,0] Z (jr ?_))
 refine ⟨.inl Z, _, am, _, Z, [9011], by decide, Z, Z, Z⟩
theorem Ah (hP : MQ h1 h2 41 [aPm p, eB true, eI 0] [] (bc (.tup [.c (.pt 0 0 0), eB true]) (w7 p t g))) (hl : g.conds.length ≤ L) (hc : iJ g.conds = false) : MQ h1 h2 17 [aPm p] [] (Rows (.tup [.c (.d .nils), eB false]) []) := by
 refine bI (jB 19 h1 h2 Tryz.func17 Z Z Z fun O hF => ?_)
 refine ah (jx O Z (au ?_))
 refine ay (Ent.freeze 1 (e' := [(1, _), (0, _)]) Z (.cons Z (.c (.box (cs := Pm.data p) Z (aE Z))) (fe [0] Z)) (.skip .nil)) ?_
 refine au ?_
 refine j2 O Z Z (aV (js O Z (jf [7,3,2,0] Z (aB O [] (bin := []) Z Z Z Z (hP) Z Z Z Z Z Z (B0 := 9000) Z Z (au ?_)))))
 refine j4 O Z Z Z Z (js O Z (jf [5,4,3,2,0] Z (jn (ag (ah (j2 O Z Z (jf [12,4,3,2,0] Z (jn (ae O Z Z (fun hc12 => ?_) (fun hc12 => ?_))))))))))
 exact absurd hc12 (by decide)
 refine aj (ah (j3 O Z Z Z (jf [15,3,2,0] Z (aB O [9000,9010,9011,9003] (bin := [iB (tX p t) g 1 2 3, aN g.paths, aM g.conds, aZ (iC t).nm]) Z Z Z Z (Aa (c := tX p t) (g := g) h1 h2 hl hc) Z Z Z Z Z Z (B0 := 17000) Z Z (au ?_)))))
 refine j4 O Z Z Z Z (jf [3,2,0] Z (jr ?_))
 refine ⟨.inl Z, _, am, _, Z, [], by decide, Z, Z, Z⟩
theorem wc (hP : MQ h1 h2 41 [aPm p, eB true, eI 0] [] (Plain (.tup [.c (.d .nilp), eB false]))) : MQ h1 h2 17 [aPm p] [] (Rows (.tup [.c (.d .nils), eB false]) []) := by
 refine bI (jB 19 h1 h2 Tryz.func17 Z Z Z fun O hF => ?_)
 refine ah (jx O Z (au ?_))
 refine ay (Ent.freeze 1 (e' := [(1, _), (0, _)]) Z (.cons Z (.c (.box (cs := Pm.data p) Z (aE Z))) (fe [0] Z)) (.skip .nil)) ?_
 refine au ?_
 refine j2 O Z Z (aV (js O Z (jf [7,3,2,0] Z (ar O Z Z Z Z (hP) (aa Z) Z Z Z Z (B0 := 9000) Z Z (j4 O Z Z Z Z (js O Z (jf [5,4,3,2,0] Z (jn (ag (ah (j2 O Z Z (jf [12,4,3,2,0] Z (jn (ae O Z Z (fun hc12 => ?_) (fun hc12 => ?_)))))))))))))))
 refine ah (j2 O Z Z (jr ?_))
 refine ⟨.inl Z, _, am, _, Z, [], by decide, Z, Z, Z⟩
 exact absurd hc12 (by decide)
end Go.Al
