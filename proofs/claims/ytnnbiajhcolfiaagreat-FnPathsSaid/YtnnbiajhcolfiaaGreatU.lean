/- Bodies are drawn, walked. -/
import Derived.Test.YtnnbiajhcolfiaaGreatG
import Derived.Test.YtnnbiajhcolfiaaGreatW
import Derived.Test.YtnnbiajhcolfiaaGreatC
set_option linter.unusedVariables false
set_option linter.unusedSimpArgs false
set_option maxRecDepth 10000
set_option maxHeartbeats 4000000
open Go.Proofs
namespace Go.Al
variable {L : Nat} (h1 : 4096 ≤ L) (h2 : L ≤ 1073741824)
theorem yZ {s : Src} (hs : s.Ok) (ha : s.at_ ≤ 999999000) : MQ h1 h2 43 [.c (.pt 0 0 0)] [(0, bb s)] (aS (.c (.rs 1 0 4)) [(0, bb (iZ s).2), (1, gv (iZ s).1)]) := by
 refine MC.shift 500 Z (MC.keep [500,501] (bs := [bb (iZ s).2, gv (iZ s).1]) Z Z (jH 57 [500] h1 h2 Tryz.func43 Z Z Z Z fun O hF => ?_))
 refine bK ?_
 obtain ⟨R, hR⟩ : ∃ R, R = iZ s := ⟨_, rfl⟩
 rw [← hR]
 have hp0 := ch hs (n := 4) (by omega)
 have hat0 := bj (s := s) (n := 4)
 have hat1 := bj (s := (s.pick 4).2) (n := 2)
 refine ag (js O Z (bn (js O Z (aj O [500] (bin := [bb s]) Z Z Z Z (eT (s := s) (n := 4) h1 h2 hs (by omega) (by omega) (by omega)) Z Z Z Z Z Z (B0 := 11000) Z Z (ap ?_)))))
 obtain ⟨v, hv⟩ : ∃ v : Nat, (s.pick 4).1 = (v : Int) := ⟨(s.pick 4).1.toNat, by omega⟩
 rw [hv]
 have hv4 : v < 4 := by omega
 have hR1 : R = ([dv (dy v 0) [dy v 1], jq, (pp v (s.pick 4).2).1, mi v (dy v (-1))], (pp v (s.pick 4).2).2) := by rw [hR]; unfold iZ; rw [hv]
 refine js O Z (jf [3,2,0] Z (bn (js O Z (AOps.heap (ep O Z Z Z Z Z Z Z Z Z (by first | omega | (simp at *; omega)) (by first | omega | (simp at *; omega)) (by first | omega | (simp at *; omega)) (by first | omega | (dsimp only; omega) | (simp only [cf] at *; omega)) (by first | omega | (simp at *; omega)) Z Z Z) Z (ap ?_)))))
 refine js O Z (jf [4,3,2,0] Z (bn (js O Z (jf [13,3,2,0] Z (AOps.heap (bA O Z Z Z Z Z Z Z Z Z Z Z) Z (ap ?_))))))
 refine ap ?_
 refine AOps.heap (bk (own := true) (xs := List.replicate v [D.int .i64 0]) (ys := [[.int .i64 1]]) (zs := ((List.replicate v 0 ++ [1] : List Int)).map (fun n : Int => [D.int .i64 n])) (n := v + 1) O Z Z Z Z Z Z Z Z Z Z Z Z Z Z Z Z (.row Z (by simp)) (.whole Z Z (.inl (by simp [Scal, D.scalar]))) (by simp) Z (by simp; omega) (by simp; omega) (by simp) (by simp)) Z (ap ?_)
 refine au (am [500,15] (e' := [(15, _), (0, _), (3, _)]) Z Z ⟨Z, Z, Z, trivial⟩ Z) (au (Ent.freeze 15 (e' := [(15, _), (0, _), (3, _)]) Z (.cons Z (.c (.row Z (by simp))) (fe [0,3] Z)) (.cons Z (.box (fk Z)) (.skip .nil))) ?_)
 refine ap ?_
 refine ap ?_
 refine js O Z (jf [16,0,3] Z (jl O Z (ap ?_)))
 refine jo O Z (ap ?_)
 refine bn (js O Z (AOps.heap (ep O Z Z Z Z Z Z Z Z Z (by first | omega | (simp at *; omega)) (by first | omega | (simp at *; omega)) (by first | omega | (simp at *; omega)) (by first | omega | (dsimp only; omega) | (simp only [cf] at *; omega)) (by first | omega | (simp at *; omega)) Z Z Z) Z (ap ?_)))
 refine jf [18,5,16,0,3] Z (AOps.heap (bA O Z Z Z Z Z Z Z Z Z Z Z) Z (ap ?_))
 refine ap ?_
 refine AOps.heap (bk (own := true) (xs := List.replicate v [D.int .i64 0]) (ys := [[.int .i64 1]]) (zs := ((List.replicate v 0 ++ [1] : List Int)).map (fun n : Int => [D.int .i64 n])) (n := v + 1) O Z Z Z Z Z Z Z Z Z Z Z Z Z Z Z Z (.row Z (by simp)) (.whole Z Z (.inl (by simp [Scal, D.scalar]))) (by simp) Z (by simp; omega) (by simp; omega) (by simp) (by simp)) Z (ap ?_)
 refine au (am [5,500,20] (e' := [(20, _), (0, _), (3, _), (5, _)]) Z Z ⟨Z, Z, Z, Z, trivial⟩ Z) (au (Ent.freeze 20 (e' := [(20, _), (0, _), (3, _), (5, _)]) Z (.cons Z (.c (.row Z (by simp))) (fe [0,3,5] Z)) (.cons Z (.box (fk Z)) (.cons Z (.box (fk Z)) (.skip .nil)))) ?_)
 refine ap ?_
 refine ap ?_
 refine js O Z (jf [21,0,3,5] Z (jl O Z (ap ?_)))
 refine jo O Z (ap ?_)
 refine bn (js O Z (AOps.heap (ep O Z Z Z Z Z Z Z Z Z (by first | omega | (simp at *; omega)) (by first | omega | (simp at *; omega)) (by first | omega | (simp at *; omega)) (by first | omega | (dsimp only; omega) | (simp only [cf] at *; omega)) (by first | omega | (simp at *; omega)) Z Z Z) Z (ap ?_)))
 refine jf [23,6,21,0,3,5] Z (AOps.heap (bA O Z Z Z Z Z Z Z Z Z Z Z) Z (ap ?_))
 refine ap ?_
 refine AOps.heap (bk (own := true) (xs := List.replicate v [D.int .i64 0]) (ys := [[.int .i64 1]]) (zs := ((List.replicate v 0 ++ [1] : List Int)).map (fun n : Int => [D.int .i64 n])) (n := v + 1) O Z Z Z Z Z Z Z Z Z Z Z Z Z Z Z Z (.row Z (by simp)) (.whole Z Z (.inl (by simp [Scal, D.scalar]))) (by simp) Z (by simp; omega) (by simp; omega) (by simp) (by simp)) Z (ap ?_)
 refine au (am [5,6,500,25] (e' := [(25, _), (0, _), (3, _), (5, _), (6, _)]) Z Z ⟨Z, Z, Z, Z, Z, trivial⟩ Z) (au (Ent.freeze 25 (e' := [(25, _), (0, _), (3, _), (5, _), (6, _)]) Z (.cons Z (.c (.row Z (by simp))) (fe [0,3,5,6] Z)) (.cons Z (.box (fk Z)) (.cons Z (.box (fk Z)) (.cons Z (.box (fk Z)) (.skip .nil))))) ?_)
 refine ap ?_
 refine ap ?_
 refine js O Z (jf [26,0,3,5,6] Z (jl O Z (ap ?_)))
 refine jo O Z (ap ?_)
 refine bn (j2 O Z Z (AOps.heap (bA O Z Z Z Z Z Z Z Z Z Z Z) Z (ap ?_)))
 refine au (am [5,6,500,29] (e' := [(29, _), (27, _), (0, _), (3, _), (5, _), (6, _)]) Z Z ⟨Z, Z, Z, Z, Z, Z, trivial⟩ Z) (au (Ent.freeze 29 (e' := [(29, _), (27, _), (0, _), (3, _), (5, _), (6, _)]) Z (.cons Z (.c (.row Z Z)) (fe [27,0,3,5,6] Z)) (.cons Z (.box (fk Z)) (.cons Z (.box (fk Z)) (.cons Z (.box (fk Z)) (.skip .nil))))) ?_)
 refine ap ?_
 refine ap ?_
 refine js O Z (jf [30,0,3,5,6] Z (AOps.heap (bA O Z Z Z Z Z Z Z Z Z Z Z) Z (ap ?_)))
 refine au (Ent.rowLe 31 Z (.cons (.cons .refl (.cons .refl (.cons .refl (.cons .refl (.cons .refl (.cons .refl (.cons (.nil (sz := 1)) (.cons .refl .nil)))))))) .nil)) (ap ?_)
 refine js O Z (jf [8,0,3,5,6] Z (bn (j2 O Z Z (AOps.heap (bA O Z Z Z Z Z Z Z Z Z Z Z) Z (ap ?_)))))
 refine au (Ent.rowLe 34 Z (.cons (.cons .refl (.cons .refl (.cons .refl (.cons .refl (.cons (.nil (sz := 1)) (.cons .refl (.cons (.nil (sz := 1)) (.cons (.nil (sz := 2)) .nil)))))))) .nil)) (ap ?_)
 refine jf [34,32,8,0,3,5,6] Z (AOps.heap (bk (own := false) (xs := ([dv (dy v 0) [dy v 1]] : List Sm).map Sm.cells) (ys := ([jq] : List Sm).map Sm.cells) (zs := ([dv (dy v 0) [dy v 1], jq] : List Sm).map Sm.cells) (n := 2) O Z Z Z Z Z Z Z Z Z Z Z Z Z Z Z Z (.row Z Z) (.whole Z Z (.inr ⟨Z, Z⟩)) (by simp) Z (by simp; omega) (by simp) Z Z) Z (ap ?_))
 refine ap ?_
 refine js O Z (jf [8,0,3,5,6] Z (jn (ah (ag (js O Z (aj O [500] (bin := [bb (s.pick 4).2]) Z Z Z Z (ju (s := (s.pick 4).2) (n := 2) h1 h2 hs.pick (by omega) (by omega) (by omega)) Z Z Z Z Z Z (B0 := 38000) Z Z (ap ?_)))))))
 refine jn ?_
 obtain ⟨m, hm⟩ : ∃ m, m = pp v (s.pick 4).2 := ⟨_, rfl⟩
 refine gm ⟨[(3, eI (v : Nat)), (6, .c (.pt 6 0 0)), (8, .c (.rs 900 0 3))], [(6, .box [.d (.int .i64 (-1)), .d (cG (List.replicate v 0 ++ [1]))]), (500, bb m.2), (900, gv [dv (dy v 0) [dy v 1], jq, m.1])]⟩ ?_ ?_
 refine ae O Z Z (fun hc37 => ?_) (fun hc37 => ?_)
 refine an (j2 O Z Z (jf [39,38,36,8,0,3,5,6] Z (aj O [500] (bin := [bb ((s.pick 4).2.pick 2).2]) Z Z Z Z (eT (s := ((s.pick 4).2.pick 2).2) (n := 4) h1 h2 hs.pick.pick (by omega) (by omega) (by omega)) Z Z Z Z Z Z (B0 := 41000) Z Z (ap ?_))))
 refine js O Z (jf [41,38,36,8,0,3,5,6] Z (AOps.heap (bA O Z Z Z Z Z Z Z Z Z Z Z) Z (ap ?_)))
 refine au (Ent.rowLe 42 Z (.cons (.cons .refl (.cons .refl (.cons .refl (.cons .refl (.cons (.nil (sz := 1)) (.cons .refl (.cons (.nil (sz := 1)) (.cons (.nil (sz := 2)) .nil)))))))) .nil)) (ap ?_)
 refine jf [42,38,36,8,0,3,5,6] Z (AOps.heap (bk (own := false) (xs := ([dv (dy v 0) [dy v 1], jq] : List Sm).map Sm.cells) (ys := ([mo (((s.pick 4).2.pick 2).2.pick 4).1] : List Sm).map Sm.cells) (zs := ([dv (dy v 0) [dy v 1], jq, mo (((s.pick 4).2.pick 2).2.pick 4).1] : List Sm).map Sm.cells) (n := 3) O Z Z Z Z Z Z Z Z Z Z Z Z Z Z Z Z (.row Z Z) (.whole Z Z (.inr ⟨Z, Z⟩)) (by simp) Z (by simp; omega) (by simp) Z Z) Z (ap ?_))
 refine ap ?_
 refine js O Z (jf [8,36,0,3,5,6] Z (jn ?_))
 rw [hm, show pp v (s.pick 4).2 = _ from if_pos (bz hc37)]
 exact ⟨Z, ((am [6,500,43] (e' := [(3, _), (6, _), (8, _)]) Z Z ⟨Z, Z, Z, trivial⟩ Z).trans (ac 43 900 Z Z)).trans (Ent.to ⟨Z, Z, Z, trivial⟩ Z)⟩
 refine jw [36,8,0,3,5,6] Z (jj O [_,_,_,_,_,_,_,_] [pn [] 0 2, pn [] 0 0, pe [1] 0, pn [] 0 1, pn [1,2,3] 1 1, pe (rg 1 4) 1, pe (rg 0 6) 2, pn (rg 0 7) 3 3] [2,5,6] [_,_,_,_] [[], [], [35]] (ai (ka O Z Z (ka O Z Z (kw O Z Z))) (ka O Z Z (ai (ai (aI (bO O [500] (bin := [bb ((s.pick 4).2.pick 2).2]) Z Z Z Z (sE (s := ((s.pick 4).2.pick 2).2) h1 h2 hs.pick.pick (by omega)) Z Z Z Z Z (B0 := 47000) Z Z Z Z Z Z)) Z) (ai (ka O Z Z (kw O Z Z)) (ka O Z Z (ai (ai (aI (jS O Z Z Z Z Z Z Z Z Z Z Z Z Z)) Z) (ai (ai (cm (own := false) (xs := ([dv (dy v 0) [dy v 1], jq] : List Sm).map Sm.cells) (ys := [[.int .i64 4, .int .i64 0, .int .i64 0, .int .i64 0, cG (List.replicate v 0 ++ [1]), .int .i64 (gu ((s.pick 4).2.pick 2).2).1.c, cG (gu ((s.pick 4).2.pick 2).2).1.xs, .nils]]) (zs := ([dv (dy v 0) [dy v 1], jq] : List Sm).map Sm.cells ++ [[.int .i64 4, .int .i64 0, .int .i64 0, .int .i64 0, cG (List.replicate v 0 ++ [1]), .int .i64 (gu ((s.pick 4).2.pick 2).2).1.c, cG (gu ((s.pick 4).2.pick 2).2).1.xs, .nils]]) (n := 3) O Z Z Z Z Z Z Z Z Z Z Z Z Z Z Z Z (.row Z Z) (.whole Z Z (.inr ⟨Z, Z⟩)) (by simp) Z (by simp; omega) (by simp) Z Z Z) Z) (ka O Z Z trivial)))))))) ?_)
 rw [hm, show pp v (s.pick 4).2 = _ from if_neg (cp hc37)]
 refine vL ?_
 exact ⟨Z, (((am [6,500,50] (e' := [(3, _), (6, _), (8, _)]) Z Z ⟨Z, Z, Z, trivial⟩ Z).trans (Ent.rowLe 50 Z (.cons (.cons .refl (.cons .refl (.cons .refl (.cons .refl (.cons .refl (.cons .refl (.cons .refl (.cons .refl .nil)))))))) (.cons (.cons .refl (.cons .refl (.cons .refl (.cons .refl (.cons .refl (.cons .refl (.cons .refl (.cons .refl .nil)))))))) (.cons (.cons .refl (.cons .refl (.cons .refl (.cons .refl (.cons .refl (.cons .refl (.cons .refl (.cons (.nil (sz := 2)) .nil)))))))) .nil))))).trans (ac 50 900 Z Z)).trans (Ent.to ⟨Z, Z, Z, trivial⟩ Z)⟩
 refine ag (j4 O Z Z Z Z (jf [54,51,3,6,8] Z (AOps.heap (bA O Z Z Z Z Z Z Z Z Z Z Z) Z (ap ?_))))
 refine au (Ent.rowLe 55 Z (.cons (.cons .refl (.cons .refl (.cons .refl (.cons .refl (.cons .refl (.cons .refl (.cons (.nil (sz := 1)) (.cons (.nil (sz := 2)) .nil)))))))) .nil)) (ap ?_)
 refine jf [55,51,3,6,8] Z (AOps.heap (bk (own := false) (xs := ([dv (dy v 0) [dy v 1], jq, m.1] : List Sm).map Sm.cells) (ys := ([mi v (dy v (-1))] : List Sm).map Sm.cells) (zs := ([dv (dy v 0) [dy v 1], jq, m.1, mi v (dy v (-1))] : List Sm).map Sm.cells) (n := 4) O Z Z Z Z Z Z Z Z Z Z Z Z Z Z Z Z (.row Z Z) (.whole Z Z (.inr ⟨Z, Z⟩)) (by simp) Z (by simp; omega) (by simp) Z Z) Z (ap ?_))
 refine ap ?_
 refine js O Z (jf [2,3,6,8] Z (jr ?_))
 rw [show R = ([dv (dy v 0) [dy v 1], jq, m.1, mi v (dy v (-1))], m.2) from hR1.trans (by rw [hm])]
 refine ⟨.inl Z, _, (ac 56 501 Z Z), _, Z, Z, Z⟩
def xJ (f : Src → List Sm × Src) : Nat → Src → List Sm → List Sm × Src
  | 0, s, xs => (xs, s)
  | n + 1, s, xs => xJ f n (f s).2 (xs ++ (f s).1)
def zG (k : Int) (y : List Sm × Src) : List Sm × Src := if k = 8 then (if (y.2.pick 2).1 = 0 then iZ (y.2.pick 2).2 else (y.1, (y.2.pick 2).2)) else y
theorem xq {f : Src → List Sm × Src} {k : Int} {x : Sm × Src} : nY f k x = zG k (xJ f (aN k).toNat x.2 [x.1]) := by
 unfold nY zG
 by_cases h1 : k = 1
 subst h1; rw [if_pos (.inl rfl), if_neg (by decide)]; rfl
 by_cases h7 : k = 7
 subst h7; rw [if_pos (.inr rfl), if_neg (by decide)]; rfl
 rw [if_neg (fun e => e.elim h1 h7)]
 by_cases h8 : k = 8
 subst h8; rw [if_pos rfl, if_pos rfl]; rfl
 rw [if_neg h8, if_neg h8, jR h1 h7 h8]; rfl
theorem rN {s : Src} : aN (iY false s).1 = 0 := by
 have h := (nj (d := false) (s := s)).2.2 Z
 exact jR h.1 h.2.1 h.2.2
theorem vt {f : Src → List Sm × Src} {d : Int} {b : Bool} {M : Nat} {s : Src} (hs : s.Ok) (hM : M ≤ 999900000) (ha : s.at_ ≤ M) (hb : b = decide (0 < d)) (hd : 0 ≤ d ∧ d ≤ 3)
  (hf : ∀ s : Src, s.Ok → (f s).2.Ok ∧ (f s).2.at_ ≤ s.at_ + 2000 ∧ (f s).1.length ≤ 100)
  (hC : b = true → ∀ s : Src, s.Ok → s.at_ ≤ M + 2200 → MQ h1 h2 20 [.c (.pt 0 0 0), eI (d - 1)] [(0, bb s)] (aS (.c (.rs 1 0 (f s).1.length)) [(0, bb (f s).2), (1, gv (f s).1)])) :
  MQ h1 h2 20 [.c (.pt 0 0 0), eI d] [(0, bb s)] (aS (.c (.rs 1 0 (r9 f b s).1.length)) [(0, bb (r9 f b s).2), (1, gv (r9 f b s).1)]) := by
 refine MC.shift 500 Z (MC.keep [500,501] (bs := [bb (r9 f b s).2, gv (r9 f b s).1]) Z Z (jH 90 [500] h1 h2 Tryz.func20 Z Z Z Z fun O hF => ?_))
 refine bK ?_
 obtain ⟨R, hR⟩ : ∃ R, R = r9 f b s := ⟨_, rfl⟩
 rw [← hR]
 have hat0 := bj (s := s) (n := 7)
 refine ag (js O Z (bn (js O Z (AOps.heap (bA O Z Z Z Z Z Z Z Z Z Z Z) Z (ap ?_)))))
 refine au (am [500,10] (e' := [(10, _), (9, _), (0, _), (1, _)]) Z Z ⟨Z, Z, Z, Z, trivial⟩ Z) (au (Ent.freeze 10 (e' := [(10, _), (9, _), (0, _), (1, _)]) Z (.cons Z (.c (.row Z Z)) (fe [9,0,1] Z)) (.cons Z (.box (fk Z)) (.skip .nil))) ?_)
 refine ap ?_
 refine ap ?_
 refine aj O [500] (bin := [bb s]) Z Z Z Z (n6 (s := s) (xs := [0,2,2,3,4,5,6]) h1 h2 hs (by omega) (by decide) (by decide)) Z Z Z Z Z Z (B0 := 12000) Z Z (ap ?_)
 refine js O Z (jf [5,0,1] Z (jn (ah (ag (j2 O Z Z (jn ?_))))))
 obtain ⟨q, hq⟩ : ∃ q, q = iY b s := ⟨_, rfl⟩
 have hk1 := bj (s := (s.pick 7).2) (n := 8)
 refine gm ⟨[(0, .c (.pt 500 0 0)), (1, eI d), (5, eI q.1)], [(500, bb q.2)]⟩ ?_ ?_
 refine ae O Z Z (fun hc13 => ?_) (fun hc13 => ?_)
 refine an (js O Z (jf [14,12,5,0,1] Z (AOps.heap (bA O Z Z Z Z Z Z Z Z Z Z Z) Z (ap ?_))))
 refine au (am [500,15] (e' := [(15, _), (14, _), (0, _), (1, _), (5, _)]) Z Z ⟨Z, Z, Z, Z, Z, trivial⟩ Z) (au (Ent.freeze 15 (e' := [(15, _), (14, _), (0, _), (1, _), (5, _)]) Z (.cons Z (.c (.row Z Z)) (fe [14,0,1,5] Z)) (.cons Z (.box (fk Z)) (.skip .nil))) ?_)
 refine ap ?_
 refine ap ?_
 refine aj O [500] (bin := [bb (s.pick 7).2]) Z Z Z Z (n6 (s := (s.pick 7).2) (xs := [1,1,1,7,8,2,5,4]) h1 h2 hs.pick (by omega) (by decide) (by decide)) Z Z Z Z Z Z (B0 := 17000) Z Z (ap ?_)
 refine js O Z (jf [5,0,1] Z (jn ?_))
 rw [hq, show iY b s = (([1,1,1,7,8,2,5,4] : List Int).getD ((s.pick 7).2.pick 8).1.toNat default, ((s.pick 7).2.pick 8).2) from if_pos (hb.trans hc13)]
 exact ⟨Z, (am [500] (e' := [(0, _), (1, _), (5, _)]) Z Z ⟨Z, Z, Z, trivial⟩ Z).trans (Ent.to ⟨Z, Z, Z, trivial⟩ Z)⟩
 refine ak ?_
 rw [hq, show iY b s = (([0,2,2,3,4,5,6] : List Int).getD (s.pick 7).1.toNat default, (s.pick 7).2) from if_neg (by rw [hb, hc13]; decide)]
 exact ⟨Z, (am [500] (e' := [(0, _), (1, _), (5, _)]) Z Z ⟨Z, Z, Z, trivial⟩ Z).trans (Ent.to ⟨Z, Z, Z, trivial⟩ Z)⟩
 refine ag (j2 O Z Z (jf [18,0,1,5] Z (jl O Z (ap ?_))))
 refine jo O Z (ap ?_)
 refine jn (ah (ag ?_))
 obtain ⟨k, s1⟩ := q
 have hkb : b = false → aN k = 0 := fun e => by have := rN (s := s); rw [e] at hq; rw [← hq] at this; exact this
 have hs1 : s1.Ok := by have := i9 (d := b) hs; rw [← hq] at this; exact this
 have hat1 : s1.at_ ≤ s.at_ + 4 := by have := s6 (d := b) (s := s); rw [← hq] at this; exact this
 have hk0 : 0 ≤ k ∧ k ≤ 8 := by have := nj (d := b) (s := s); rw [← hq] at this; exact ⟨this.1, this.2.1⟩
 have hbk : 0 < (aN k).toNat → b = true := fun h => by cases b with | true => rfl | false => rw [hkb rfl] at h; exact absurd h (by decide)
 have ha1 := bj (s := s1) (n := 4)
 have ha2 := gM (hs1.pick (n := 4))
 have ha3 := lz (hs1.pick (n := 4))
 have ha4 := lz hs1
 have ha5 := gM hs1
 refine js O Z (jn ?_)
 obtain ⟨m, hm⟩ : ∃ m, m = lq k s1 := ⟨_, rfl⟩
 refine gm ⟨[(0, .c (.pt 500 0 0)), (1, eI d), (5, eI k), (6, .c (.pt 6 0 0))], [(6, .box [.d (.int .i64 m.1.kind), .d (.int .i64 m.1.var), .d (.int .i64 m.1.event), .d (.int .i64 m.1.sum.c), .d (cG m.1.sum.xs), .d (.int .i64 m.1.index.c), .d (cG m.1.index.xs), .d (e6 m.1.facts)]), (500, bb m.2)]⟩ ?_ ?_
 refine aq (ag (j2 O Z Z (jn (ae O Z Z (fun hc20 => ?_) (fun hc20 => ?_)))))
 refine ag (js O Z (jf [22,21,19,6,18,0,1,5] Z (aj O [500] (bin := [bb s1]) Z Z Z Z (eT (s := s1) (n := 4) h1 h2 hs1 (by omega) (by omega) (by omega)) Z Z Z Z Z Z (B0 := 24000) Z Z (ap ?_))))
 refine js O Z (jf [24,23,21,19,6,18,0,1,5] Z (jo O Z (ap ?_)))
 refine jf [21,19,6,18,0,1,5] Z (jn (an (js O Z (aj O [500] (bin := [bb (s1.pick 4).2]) Z Z Z Z (kA (s := (s1.pick 4).2) h1 h2 hs1.pick (by omega)) Z Z Z Z Z Z (B0 := 27000) Z Z (ap ?_)))))
 refine js O Z (jf [27,26,21,19,6,18,0,1,5] Z (jo O Z (ap ?_)))
 refine jf [21,19,6,18,0,1,5] Z (jn ?_)
 have e : k = 2 := bz hc20
 subst e
 rw [hm, show lq 2 s1 = (mi (s1.pick 4).1 (fd (s1.pick 4).2).1, (fd (s1.pick 4).2).2) from Z]
 exact ⟨Z, ((am [6,500] (e' := [(0, _), (1, _), (5, _), (6, _)]) Z Z ⟨Z, Z, Z, Z, trivial⟩ Z).trans (dJ 6 Z (.cons .refl (.cons .refl (.cons .refl (.cons .refl (.cons .refl (.cons .refl (.cons (.nil (sz := 1)) (.cons (.nil (sz := 2)) .nil)))))))))).trans (Ent.to ⟨Z, Z, Z, Z, trivial⟩ Z)⟩
 refine ag (j2 O Z Z (jf [28,21,19,6,18,0,1,5] Z (jn (ae O Z Z (fun hc28 => ?_) (fun hc28 => ?_)))))
 refine ag (js O Z (jf [30,21,19,6,18,0,1,5] Z (aj O [500] (bin := [bb s1]) Z Z Z Z (eT (s := s1) (n := 4) h1 h2 hs1 (by omega) (by omega) (by omega)) Z Z Z Z Z Z (B0 := 32000) Z Z (ap ?_))))
 refine js O Z (jf [32,31,21,19,6,18,0,1,5] Z (jo O Z (ap ?_)))
 refine jf [21,19,6,18,0,1,5] Z (jn (an (js O Z (aj O [500] (bin := [bb (s1.pick 4).2]) Z Z Z Z (sE (s := (s1.pick 4).2) h1 h2 hs1.pick (by omega)) Z Z Z Z Z Z (B0 := 35000) Z Z (ap ?_)))))
 refine js O Z (jf [35,34,21,19,6,18,0,1,5] Z (jo O Z (ap ?_)))
 refine jf [21,19,6,18,0,1,5] Z (jn ?_)
 have e : k = 3 := bz hc28
 subst e
 rw [hm, show lq 3 s1 = (vO (s1.pick 4).1 (gu (s1.pick 4).2).1, (gu (s1.pick 4).2).2) from Z]
 exact ⟨Z, ((am [6,500] (e' := [(0, _), (1, _), (5, _), (6, _)]) Z Z ⟨Z, Z, Z, Z, trivial⟩ Z).trans (dJ 6 Z (.cons .refl (.cons .refl (.cons .refl (.cons .refl (.cons (.nil (sz := 1)) (.cons .refl (.cons .refl (.cons (.nil (sz := 2)) .nil)))))))))).trans (Ent.to ⟨Z, Z, Z, Z, trivial⟩ Z)⟩
 refine ag (j2 O Z Z (jf [36,21,19,6,18,0,1,5] Z (jn (ae O Z Z (fun hc36 => ?_) (fun hc36 => ?_)))))
 refine ag (js O Z (jf [38,21,19,6,18,0,1,5] Z (aj O [500] (bin := [bb s1]) Z Z Z Z (sE (s := s1) h1 h2 hs1 (by omega)) Z Z Z Z Z Z (B0 := 40000) Z Z (ap ?_))))
 refine js O Z (jf [40,39,21,19,6,18,0,1,5] Z (jo O Z (ap ?_)))
 refine jf [21,19,6,18,0,1,5] Z (jn (an (js O Z (aj O [500] (bin := [bb (gu s1).2]) Z Z Z Z (kA (s := (gu s1).2) h1 h2 (j8 hs1) (by omega)) Z Z Z Z Z Z (B0 := 43000) Z Z (ap ?_)))))
 refine js O Z (jf [43,42,21,19,6,18,0,1,5] Z (jo O Z (ap ?_)))
 refine jf [21,19,6,18,0,1,5] Z (jn ?_)
 have e : k = 4 := bz hc36
 subst e
 rw [hm, show lq 4 s1 = (ud (gu s1).1 (fd (gu s1).2).1, (fd (gu s1).2).2) from Z]
 exact ⟨Z, ((am [6,500] (e' := [(0, _), (1, _), (5, _), (6, _)]) Z Z ⟨Z, Z, Z, Z, trivial⟩ Z).trans (dJ 6 Z (.cons .refl (.cons .refl (.cons .refl (.cons .refl (.cons .refl (.cons .refl (.cons .refl (.cons (.nil (sz := 2)) .nil)))))))))).trans (Ent.to ⟨Z, Z, Z, Z, trivial⟩ Z)⟩
 refine ag (j2 O Z Z (jf [44,21,19,6,18,0,1,5] Z (jn (ae O Z Z (fun hc44 => ?_) (fun hc44 => ?_)))))
 refine an (js O Z (jf [46,21,19,6,18,0,1,5] Z (aj O [500] (bin := [bb s1]) Z Z Z Z (eT (s := s1) (n := 4) h1 h2 hs1 (by omega) (by omega) (by omega)) Z Z Z Z Z Z (B0 := 48000) Z Z (ap ?_))))
 refine js O Z (jf [48,47,21,19,6,18,0,1,5] Z (jo O Z (ap ?_)))
 refine jf [21,19,6,18,0,1,5] Z (jn ?_)
 have e : k = 5 := bz hc44
 subst e
 rw [hm, show lq 5 s1 = (mo (s1.pick 4).1, (s1.pick 4).2) from Z]
 exact ⟨Z, ((am [6,500] (e' := [(0, _), (1, _), (5, _), (6, _)]) Z Z ⟨Z, Z, Z, Z, trivial⟩ Z).trans (dJ 6 Z (.cons .refl (.cons .refl (.cons .refl (.cons .refl (.cons (.nil (sz := 1)) (.cons .refl (.cons (.nil (sz := 1)) (.cons (.nil (sz := 2)) .nil)))))))))).trans (Ent.to ⟨Z, Z, Z, Z, trivial⟩ Z)⟩
 refine ag (j2 O Z Z (jf [49,21,19,6,18,0,1,5] Z (jn (ae O Z Z (fun hc49 => ?_) (fun hc49 => ?_)))))
 refine an (js O Z (jf [51,21,19,6,18,0,1,5] Z (aj O [500] (bin := [bb s1]) Z Z Z Z (kA (s := s1) h1 h2 hs1 (by omega)) Z Z Z Z Z Z (B0 := 53000) Z Z (ap ?_))))
 refine js O Z (jf [53,52,21,19,6,18,0,1,5] Z (jo O Z (ap ?_)))
 refine jf [21,19,6,18,0,1,5] Z (jn ?_)
 have e : k = 6 := bz hc49
 subst e
 rw [hm, show lq 6 s1 = (nA (fd s1).1, (fd s1).2) from Z]
 exact ⟨Z, ((am [6,500] (e' := [(0, _), (1, _), (5, _), (6, _)]) Z Z ⟨Z, Z, Z, Z, trivial⟩ Z).trans (dJ 6 Z (.cons .refl (.cons .refl (.cons .refl (.cons .refl (.cons .refl (.cons .refl (.cons (.nil (sz := 1)) (.cons (.nil (sz := 2)) .nil)))))))))).trans (Ent.to ⟨Z, Z, Z, Z, trivial⟩ Z)⟩
 refine ag (j2 O Z Z (jf [54,21,19,6,18,0,1,5] Z (jn (ae O Z Z (fun hc54 => ?_) (fun hc54 => ?_)))))
 refine an (js O Z (jf [56,21,19,6,18,0,1,5] Z (aj O [500] (bin := [bb s1]) Z Z Z Z (kA (s := s1) h1 h2 hs1 (by omega)) Z Z Z Z Z Z (B0 := 58000) Z Z (ap ?_))))
 refine js O Z (jf [58,57,21,19,6,18,0,1,5] Z (jo O Z (ap ?_)))
 refine jf [21,19,6,18,0,1,5] Z (jn ?_)
 have e : k = 7 := bz hc54
 subst e
 rw [hm, show lq 7 s1 = (xF (fd s1).1, (fd s1).2) from Z]
 exact ⟨Z, ((am [6,500] (e' := [(0, _), (1, _), (5, _), (6, _)]) Z Z ⟨Z, Z, Z, Z, trivial⟩ Z).trans (dJ 6 Z (.cons .refl (.cons .refl (.cons .refl (.cons .refl (.cons .refl (.cons .refl (.cons (.nil (sz := 1)) (.cons (.nil (sz := 2)) .nil)))))))))).trans (Ent.to ⟨Z, Z, Z, Z, trivial⟩ Z)⟩
 refine ag (j2 O Z Z (jf [59,21,19,6,18,0,1,5] Z (jn (ae O Z Z (fun hc59 => ?_) (fun hc59 => ?_)))))
 refine ag (js O Z (jf [61,21,19,6,18,0,1,5] Z (aj O [500] (bin := [bb s1]) Z Z Z Z (kA (s := s1) h1 h2 hs1 (by omega)) Z Z Z Z Z Z (B0 := 63000) Z Z (ap ?_))))
 refine js O Z (jf [63,62,21,19,6,18,0,1,5] Z (jo O Z (ap ?_)))
 refine jf [21,19,6,18,0,1,5] Z (jn (an (js O Z (aj O [500] (bin := [bb (fd s1).2]) Z Z Z Z (y2 (s := (fd s1).2) h1 h2 (dU hs1) (by omega)) Z Z Z Z Z Z (B0 := 66000) Z Z (ap ?_)))))
 refine js O Z (jf [66,65,21,19,6,18,0,1,5] Z (jo O Z (ap ?_)))
 refine jf [21,19,6,18,0,1,5] Z (jn ?_)
 have e : k = 8 := bz hc59
 subst e
 rw [hm, show lq 8 s1 = (dv (fd s1).1 (j1 (fd s1).2).1, (j1 (fd s1).2).2) from Z]
 exact ⟨Z, ((am [6,500] (e' := [(0, _), (1, _), (5, _), (6, _)]) Z Z ⟨Z, Z, Z, Z, trivial⟩ Z).trans (dJ 6 Z (.cons .refl (.cons .refl (.cons .refl (.cons .refl (.cons .refl (.cons .refl (.cons (.nil (sz := 1)) (.cons .refl .nil)))))))))).trans (Ent.to ⟨Z, Z, Z, Z, trivial⟩ Z)⟩
 refine ak ?_
 rw [hm, show lq k s1 = (⟨k, 0, 0, z0, z0, []⟩, s1) from by unfold lq; rw [if_neg (cp hc20), if_neg (cp hc28), if_neg (cp hc36), if_neg (cp hc44), if_neg (cp hc49), if_neg (cp hc54), if_neg (cp hc59)]]
 exact ⟨Z, ((am [6,500] (e' := [(0, _), (1, _), (5, _), (6, _)]) Z Z ⟨Z, Z, Z, Z, trivial⟩ Z).trans (dJ 6 Z (.cons .refl (.cons .refl (.cons .refl (.cons .refl (.cons (.nil (sz := 1)) (.cons .refl (.cons (.nil (sz := 1)) (.cons (.nil (sz := 2)) .nil)))))))))).trans (Ent.to ⟨Z, Z, Z, Z, trivial⟩ Z)⟩
 refine ag ?_
 have hm1 : m.2.Ok := hm ▸ nk hs1
 have hm2 : m.2.at_ ≤ s1.at_ + 70 := hm ▸ s7 hs1
 refine js O Z (AOps.heap (bA O Z Z Z Z Z Z Z Z Z Z Z) Z (ap ?_))
 refine ap ?_
 refine js O Z (jf [7,0,1,5,6] Z (jn (ah (ag (js O Z (ay O Z Z Z Z (yg (k := k) h1 h2) (af Z) Z Z Z Z (B0 := 71000) Z Z (js O Z (jf [8,7,0,1,5,6] Z (jn (aq ?_))))))))))
 have hbl := b0 k
 refine aH (X := Nat × Src × List Sm) (fun x => ⟨[(0, .c (.pt 500 0 0)), (1, eI d), (5, eI k), (7, .c (.rs 900 0 x.2.2.length)), (8, eI (x.1 : Nat))], [(500, bb x.2.1), (900, gv x.2.2)]⟩) (fun x => x.2.1.Ok ∧ xJ f (aN k).toNat m.2 [m.1] = xJ f x.1 x.2.1 x.2.2 ∧ x.1 ≤ (aN k).toNat ∧ x.2.2.length + 100 * x.1 ≤ 201 ∧ x.2.1.at_ + 2000 * x.1 ≤ m.2.at_ + 4000) (fun x => x.1) ((aN k).toNat, m.2, [m.1]) (((am [500,68] (e' := [(0, _), (1, _), (5, _), (7, _), (8, _)]) Z Z ⟨Z, Z, Z, Z, Z, trivial⟩ Z).trans (ac 68 900 Z Z)).trans (Ent.to ⟨Z, Z, Z, Z, by rw [Int.toNat_of_nonneg hbl.1]; rfl, trivial⟩ Z)) ?_ (fun x hi => ?_)
 exact ⟨hm1, Z, cN _, by simp only [gt]; omega, by simp only; omega⟩
 refine ah (ag (j2 O Z Z (jn (ae O Z Z (fun hc72 => ?_) (fun hc72 => ?_)))))
 refine ak (ah (aq (an (j3 O Z Z Z (aa (bc O Z Z (by omega) (by omega)) Z Z Z (jf [78,76,75,72,71,0,1,5,7,8] Z ?_))))))
 have hn0 := bz hc72
 have hfx := hf x.2.1 hi.1
 have hbt : b = true := hbk (by omega)
 refine aj O [500] (bin := [bb x.2.1]) Z Z Z Z (hC hbt x.2.1 hi.1 (by omega)) Z Z Z Z Z Z (B0 := 80000) Z Z (ap ?_)
 refine jf [79,75,72,71,0,1,5,7,8] Z (AOps.heap (bk (own := false) (xs := x.2.2.map Sm.cells) (ys := (f x.2.1).1.map Sm.cells) (zs := (x.2.2 ++ (f x.2.1).1).map Sm.cells) (n := (x.2.2 ++ (f x.2.1).1).length) O Z Z Z Z Z Z Z Z Z Z Z Z Z Z Z Z (.row Z (cw _).symm) (.whole Z (cw _).symm (.inr ⟨Z, Z⟩)) (by simp) Z (by simp; omega) (by simp; omega) (by simp) (by simp)) Z (ap ?_))
 refine ap ?_
 refine js O Z (jf [7,72,71,0,1,5,8] Z (jn (an (js O Z (aa (bc O Z Z (by omega) (by omega)) Z Z Z (js O Z (jf [8,7,72,71,0,1,5] Z (jn ?_))))))))
 obtain ⟨n, hn⟩ : ∃ n, x.1 = n + 1 := ⟨x.1 - 1, by omega⟩
 refine ⟨(n, (f x.2.1).2, x.2.2 ++ (f x.2.1).1), ((am [500,80] (e' := [(0, _), (1, _), (5, _), (7, _), (8, _)]) Z Z ⟨Z, Z, Z, Z, Z, trivial⟩ Z).trans (ac 80 900 Z Z)).trans (Ent.to ⟨Z, Z, Z, Z, ?_, trivial⟩ Z), ⟨hfx.1, by rw [hi.2.1, hn, xJ], by simp only; omega, by simp only [de]; omega, by simp only; omega⟩, by simp only; omega⟩
 exact congrArg (fun z => some (eI z)) (by simp only; omega)
 refine bH (ah (ag ?_))
 have hx0 := cp hc72
 obtain ⟨n, s2, xs⟩ := x
 simp only at hi hx0
 obtain rfl : n = 0 := by omega
 obtain ⟨hi1, hi2, hi3, hi4, hi5⟩ := hi
 have hat2 := bj (s := s2) (n := 2)
 have hR1 : R = zG k (xs, s2) := by rw [hR]; show nY f (iY b s).1 (lq (iY b s).1 (iY b s).2) = _; rw [← hq]; show nY f k (lq k s1) = _; rw [← hm, xq, hi2]; rfl
 refine j3 O Z Z Z ?_
 cases hb84 : decide (k = 8) with
 | true =>
  have hR2 : R = (if (s2.pick 2).1 = 0 then iZ (s2.pick 2).2 else (xs, (s2.pick 2).2)) := hR1.trans (if_pos (bz hb84))
  refine jf [83,72,71,0,1,5,7,8] Z (aZ Z (js O Z (aZ Z (aj O [500] (bin := [bb s2]) Z Z Z Z (ju (s := s2) (n := 2) h1 h2 hi1 (by omega) (by omega) (by omega)) Z Z Z Z Z Z (B0 := 86000) Z Z (ap ?_)))))
  refine aa (br O Z Z Z Z Z) Z Z Z (jf [86,72,71,0,1,5,7,8] Z (jn (ae O Z Z (fun hc86 => ?_) (fun hc86 => ?_))))
  refine ag (js O Z (aj O [500] (bin := [bb (s2.pick 2).2]) Z Z Z Z (yZ (s := (s2.pick 2).2) h1 h2 hi1.pick (by omega)) Z Z Z Z Z Z (B0 := 89000) Z Z (ap ?_)))
  refine js O Z (jf [4,86,72,71,0,1,5,7,8] Z (jr ?_))
  have ho := bz hc86
  rw [show R = _ from hR2.trans (if_pos ho)]
  refine ⟨.inl Z, _, (ac 89001 501 Z Z), _, Z, Z, Z⟩
  refine ak (ag (j2 O Z Z (jr ?_)))
  have ho := cp hc86
  rw [show R = _ from hR2.trans (if_neg ho)]
  refine ⟨.inl Z, _, (ac 900 501 Z Z), _, Z, Z, Z⟩
 | false =>
  have hR2 : R = (xs, s2) := hR1.trans (if_neg (cp hb84))
  refine jf [83,72,71,0,1,5,7,8] Z (AOps.skip Z Z Z Z Z Z (AOps.skip Z Z Z Z Z Z (aa (aG O Z Z Z Z Z) Z Z Z (jf [86,72,71,0,1,5,7,8] Z (jn (ae O Z Z (fun hc86 => ?_) (fun hc86 => ?_)))))))
  exact absurd hc86 (by decide)
  refine ak (ag (j2 O Z Z (jr ?_)))
  rw [show R = _ from hR2]
  refine ⟨.inl Z, _, (ac 900 501 Z Z), _, Z, Z, Z⟩
theorem nH : ∀ {d : Nat} {s : Src}, (pm d s).1.length ≤ 6 * 3 ^ d
 | 0, s => by
  show (nY _ _ _).1.length ≤ _
  unfold nY
  split
  simp
  split
  split
  simp [iZ]
  simp
  simp
 | d + 1, s => by
  show (nY _ _ _).1.length ≤ _
  have h1 := fun s => nH (d := d) (s := s)
  have h3 : 1 ≤ 3 ^ d := Nat.one_le_pow _ _ (by decide)
  unfold nY
  rw [Nat.pow_succ]
  split
  simp only [de, gt]
  have := h1 (lq (iY true s).1 (iY true s).2).2
  have := h1 (pm d (lq (iY true s).1 (iY true s).2).2).2
  omega
  split
  split
  simp only [iZ, iX, List.length_nil]; omega
  simp only [de, gt]
  have := h1 (lq (iY true s).1 (iY true s).2).2
  omega
  simp only [gt]; omega
theorem sX {L : Nat} (h1 : 4096 ≤ L) (h2 : L ≤ 1073741824) : ∀ {d : Nat} {s : Src}, d ≤ 2 ∨ d = 3 → s.Ok → s.at_ ≤ 999900000 - 2200 * d → MC Tryz.prog L 20 [.c (.pt 0 0 0), eI (d : Nat)] [(0, bb s)] (aS (.c (.rs 1 0 (pm d s).1.length)) [(0, bb (pm d s).2), (1, gv (pm d s).1)])
 | 0, s, hd, hs, ha => vt (f := fun s => ([], s)) (b := false) (M := 999900000) h1 h2 hs (cN _) (by omega) (by decide) (by decide) (fun s h => ⟨h, by simp only; omega, dF _⟩) (fun h => by cases h)
 | d + 1, s, hd, hs, ha => vt (f := pm d) (b := true) (M := 999900000 - 2200 * (d + 1)) h1 h2 hs (by omega) (by omega) (by rw [decide_eq_true]; omega) (by omega)
  (fun s h => ⟨j9 h, by have := pL (d := d) h; have := xo (d := d) (by omega); omega, by
   have := nH (d := d) (s := s)
   have h9 : 3 ^ d ≤ 3 ^ 2 := Nat.pow_le_pow_right (by decide) (by omega)
   omega⟩)
  (fun _ s h ha2 => by
   rw [show ((d + 1 : Nat) : Int) - 1 = (d : Nat) by omega]
   exact sX h1 h2 (by omega) h (by omega))
def mn (b : List Sm) (i : Nat) : List Sm := (b.take i).map ew ++ b.drop i
theorem ut {b : List Sm} {i : Nat} (h : i = b.length) : mn b i = b.map ew := by subst h; simp [mn]
theorem nu {b : List Sm} {i : Nat} : (mn b i).length = b.length := by simp only [mn, de, cw, List.length_take, List.length_drop]; omega
theorem sM {b : List Sm} {i : Nat} (hi : i < b.length) : (mn b i)[i]? = some (b.getD i default) := by
 rw [mn, List.getElem?_append_right (by simp; omega), cw, List.length_take, List.getElem?_drop, aM hi, show i + (i - min i b.length) = i by omega, List.getElem?_eq_getElem hi]
theorem ns {b : List Sm} {i : Nat} (hi : i < b.length) : (mn b i).set i (ew (b.getD i default)) = mn b (i + 1) := by
 unfold mn
 rw [List.set_append_right _ _ (by simp; omega), cw, List.length_take, show i - min i b.length = 0 by omega, List.drop_eq_getElem_cons hi, List.set_cons_zero, List.take_succ_eq_append_getElem hi, List.map_append, aM hi, eQ]
 rfl
theorem qM {b : List Sm} {i j : Nat} (hi : i < b.length) (hj : j = i) : ((mn b i).map Sm.cells)[j]? = some (Sm.cells (b.getD i default)) := by
 subst hj; rw [List.getElem?_map, sM hi]; rfl
theorem ur {b : List Sm} {i j : Nat} (hi : i < b.length) (hj : j = i) (h3 : (b.getD i default).kind = 3) : ((mn b i).map Sm.cells).set j (Sm.cells kx) = (mn b (i + 1)).map Sm.cells := by
 subst hj; rw [← ns hi, List.map_set]; unfold ew; rw [if_pos h3]
theorem s9 {b : List Sm} {i : Nat} (hi : i < b.length) (h3 : ¬ (b.getD i default).kind = 3) : mn b (i + 1) = mn b i := by
 rw [← ns hi]
 have h1 := sM hi
 have e : ew (b.getD i default) = b.getD i default := by unfold ew; rw [if_neg h3]
 rw [e]
 refine List.ext_getElem? fun j => ?_
 rw [List.getElem?_set]
 split
 rename_i e; subst e
 rw [h1, if_pos (by rw [nu]; exact hi)]
 rfl
theorem ta {b : List Sm} {i j : Nat} (hi : i < b.length) (hj : j = i) : ((mn b (i + 1)).map Sm.cells)[j]? = some (Sm.cells (ew (b.getD i default))) := by
 subst hj; rw [← ns hi, List.map_set, List.getElem?_set, if_pos rfl, if_pos (by rw [cw, nu]; exact hi)]
theorem NLes.same : ∀ {xs : List D}, NLes xs xs
 | [] => .nil
 | x :: xs => .cons .refl NLes.same
theorem NLess.same : ∀ {xs : List (List D)}, NLess xs xs
 | [] => .nil
 | x :: xs => .cons NLes.same NLess.same
theorem NLess.set {x y : List D} (h : NLes x y) : ∀ {xs : List (List D)} {i : Nat}, NLess (xs.set i x) (xs.set i y)
 | [], i => .nil
 | z :: xs, 0 => .cons h NLess.same
 | z :: xs, i + 1 => .cons NLes.same (NLess.set h)
abbrev skN : List D := [.int .i64 0, .int .i64 0, .int .i64 0, .int .i64 0, .nils, .int .i64 0, .nils, .nils]
theorem yJ {xs : List (List D)} {i j : Nat} (hj : j = i) {x y : List D} (h : x = y) : xs.set j x = xs.set i y := by subst hj; subst h; rfl
theorem rt {b : List Sm} {i : Nat} (hi : i < b.length) (h3 : (b.getD i default).kind = 3) : gv (mn b (i + 1)) = .row false 8 (((mn b i).map Sm.cells).set i (Sm.cells kx)) := congrArg (B.row false 8) (ur hi rfl h3).symm
theorem zz {x : Sm} : (ew x).kind = 8 ↔ x.kind = 8 := by
 unfold ew
 by_cases e : x.kind = 3
 rw [if_pos e, e]; exact ⟨fun h => absurd h (by decide), fun h => absurd h (by decide)⟩
 rw [if_neg e]
theorem y8 {xs : List Int} (hx : ∀ n ∈ xs, 0 ≤ n ∧ n ≤ 255) : MQ h1 h2 6 [.c (.d (bys xs))] [] (Plain (lc (m9 xs))) := by
 refine MC.data (jB 53 h1 h2 Tryz.func6 Z Z Z fun O hF => ?_)
 obtain ⟨R, hR⟩ : ∃ R, R = m9 xs := ⟨_, rfl⟩
 rw [← hR]
 have hs : (⟨xs, 0, 0⟩ : Src).Ok := ⟨hx⟩
 have ha : (⟨xs, 0, 0⟩ : Src).at_ = 0 := rfl
 refine ag (jl O Z (ap ?_))
 refine bn (js O Z (jf [6,2] Z (aj O [] (bin := []) Z Z Z Z (vu (xs := xs) h1 h2) Z Z Z Z Z Z (B0 := 8000) Z Z (ap ?_))))
 refine js O Z (jf [3,2] Z (bn (js O Z (aj O [8000] (bin := [bb ⟨xs, 0, 0⟩]) Z Z Z Z (sX (d := 3) (s := ⟨xs, 0, 0⟩) h1 h2 (.inr Z) hs (by omega)) Z Z Z Z Z Z (B0 := 10000) Z Z (ap ?_)))))
 have hD1 := j9 (d := 3) hs
 have hD2 := pL (d := 3) hs
 have hD3 := nH (d := 3) (s := ⟨xs, 0, 0⟩)
 have hD4 : vc 3 = 1650 := by decide
 obtain ⟨D, hD⟩ : ∃ D, D = pm 3 ⟨xs, 0, 0⟩ := ⟨_, rfl⟩
 rw [← hD] at hD1 hD2 hD3 ⊢
 refine js O Z (jf [10,3,2] Z (jl O Z (ap ?_)))
 refine jo O Z (ap ?_)
 refine jn (ah (ag (j2 O Z Z ?_)))
 first | refine eK O Z ?_ | refine js O Z ?_ | refine fI O Z Z ?_
 refine js O Z (jf [14,4,10,3,2] Z (jn ?_))
 obtain ⟨b, hb⟩ : ∃ b, b = n5 D := ⟨_, rfl⟩
 refine gm ⟨[(2, .c (.pt 2 0 0)), (3, .c (.pt 8000 0 0)), (4, .c (.pt 4 0 0))], [(2, .box [.d .nils, .d .nils, .d .nils]), (4, .box [.d .nils, .rs 900 0 b.length, .d .nils]), (8000, bb D.2), (900, gv b)]⟩ ?_ ?_
 refine ae O Z Z (fun hc14 => ?_) (fun hc14 => ?_)
 refine an (js O Z (jf [15,4,10,3,2] Z (AOps.heap (bA O Z Z Z Z Z Z Z Z Z Z Z) Z (ap ?_))))
 refine au (Ent.rowLe 16 Z (.cons (.cons .refl (.cons .refl (.cons .refl (.cons .refl (.cons (.nil (sz := 1)) (.cons .refl (.cons (.nil (sz := 1)) (.cons (.nil (sz := 2)) .nil)))))))) .nil)) (ap ?_)
 refine js O Z (jf [17,16,4,10,3,2] Z (jo O Z (ap ?_)))
 refine jf [4,10,3,2] Z (jn ?_)
 rw [hb, show n5 D = [kx] from if_pos (bz hc14)]
 exact ⟨Z, ((am [2,4,8000,16] (e' := [(2, _), (3, _), (4, _)]) Z Z ⟨Z, Z, Z, trivial⟩ Z).trans (ac 16 900 Z Z)).trans (Ent.to ⟨Z, Z, Z, trivial⟩ Z)⟩
 refine ak ?_
 rw [hb, show n5 D = D.1 from if_neg (cp hc14)]
 exact ⟨Z, ((am [2,4,8000,10001] (e' := [(2, _), (3, _), (4, _)]) Z Z ⟨Z, Z, Z, trivial⟩ Z).trans (ac 10001 900 Z Z)).trans (Ent.to ⟨Z, Z, Z, trivial⟩ Z)⟩
 refine ah (ag (js O Z (jn (aq ?_))))
 have hbl : b.length ≤ 200 := by rw [hb]; unfold n5; split; decide; omega
 refine aH (X := Nat) (fun i => ⟨[(2, .c (.pt 2 0 0)), (3, .c (.pt 8000 0 0)), (4, .c (.pt 4 0 0)), (5, eI i)], [(2, .box [.d .nils, .d .nils, .d .nils]), (4, .box [.d .nils, .rs 900 0 b.length, .d .nils]), (8000, bb D.2), (900, gv (mn b i))]⟩) (fun i => i ≤ b.length ∧ ∀ j, j < i → (b.getD j default).kind ≠ 8) (fun i => b.length - i) 0 ((am [2,4,8000,900] (e' := [(2, _), (3, _), (4, _), (5, _)]) Z Z ⟨Z, Z, Z, Z, trivial⟩ Z).trans (Ent.to ⟨Z, Z, Z, Z, trivial⟩ Z)) ?_ (fun i hi => ?_)
 exact ⟨dF _, fun j h => absurd h (Nat.not_lt_zero j)⟩
 refine ah (ag (j3 O Z Z Z ?_))
 first | refine eK O Z ?_ | refine js O Z ?_ | refine fI O Z Z ?_
 refine js O Z (jf [22,2,3,4,5] Z (jn (ae O Z Z (fun hc22 => ?_) (fun hc22 => ?_))))
 refine ak (ah (aq (ah (ag (j3 O Z Z Z ?_)))))
 have hib : i < b.length := by have := bz hc22; omega
 refine fI O Z Z (js O Z (aa (eJ O (ex := Sm.cells (b.getD i default)) Z Z Z Z (qM hib (by omega)) Z) Z Z Z (js O Z (jf [31,22,2,3,4,5] Z (jn (gm ⟨[(2, .c (.pt 2 0 0)), (3, .c (.pt 8000 0 0)), (4, .c (.pt 4 0 0)), (5, eI i)], [(2, .box [.d .nils, .d .nils, .d .nils]), (4, .box [.d .nils, .rs 900 0 b.length, .d .nils]), (8000, bb D.2), (900, gv (mn b (i + 1)))]⟩ ?_ ?_))))))
 refine ae O Z Z (fun hc31 => ?_) (fun hc31 => ?_)
 refine an (j4 O Z Z Z Z (fI O Z Z (jf [36,35,31,22,2,3,4,5] Z (AOps.heap (cv (ex := Sm.cells (b.getD i default)) (xs' := ((mn b i).map Sm.cells).set i skN) O Z Z Z Z Z Z Z Z Z Z Z Z Z Z (qM hib (by omega)) (yJ (by omega) Z)) Z (ap ?_)))))
 refine ap ?_
 refine jf [31,22,2,3,4,5] Z (jn ?_)
 rw [rt hib (bz hc31)]
 exact ⟨Z, ((am [2,4,8000,900] (e' := [(2, _), (3, _), (4, _), (5, _)]) Z Z ⟨Z, Z, Z, Z, trivial⟩ Z).trans (Ent.rowLe 900 Z (NLess.set (.cons .refl (.cons .refl (.cons .refl (.cons .refl (.cons (.nil (sz := 1)) (.cons .refl (.cons (.nil (sz := 1)) (.cons (.nil (sz := 2)) .nil))))))))))).trans (Ent.to ⟨Z, Z, Z, Z, trivial⟩ Z)⟩
 refine ak ?_
 rw [s9 hib (cp hc31)]
 exact ⟨Z, (am [2,4,8000,900] (e' := [(2, _), (3, _), (4, _), (5, _)]) Z Z ⟨Z, Z, Z, Z, trivial⟩ Z).trans (Ent.to ⟨Z, Z, Z, Z, trivial⟩ Z)⟩
 refine ag (j3 O Z Z Z (fI O Z Z (js O Z (aa (eJ O (ex := Sm.cells (ew (b.getD i default))) Z Z Z Z (ta hib (by omega)) Z) Z Z Z (js O Z (jf [43,2,3,4,5] Z (jn (ae O Z Z (fun hc43 => ?_) (fun hc43 => ?_)))))))))
 refine ag (js O Z (aj O [8000] (bin := [bb D.2]) Z Z Z Z (kA (s := D.2) h1 h2 hD1 (by omega)) Z Z Z Z Z Z (B0 := 46000) Z Z (ap ?_)))
 refine js O Z (jf [46,43,2,3,4,5] Z (ay O Z Z Z Z (y5 (c := 2) (k := 0) (n := 1) h1 h2 (by decide)) (af Z) Z Z Z Z (B0 := 48000) Z Z (j2 O Z Z (jf [49,48,46,43,2,3,4,5] Z (AOps.heap (bA O Z Z Z Z Z Z Z Z Z Z Z) Z (ap ?_))))))
 refine au (Ent.rowLe 50 Z (.cons (.cons .refl (.cons .refl (.cons .refl (.cons .refl (.cons .refl (.cons .refl (.cons (.nil (sz := 1)) (.cons (.nil (sz := 2)) .nil)))))))) (.cons (.cons .refl (.cons .refl (.cons .refl (.cons .refl (.cons .refl (.cons .refl (.cons (.nil (sz := 1)) (.cons (.nil (sz := 2)) .nil)))))))) (.cons (.cons .refl (.cons .refl (.cons .refl (.cons .refl (.cons (.nil (sz := 1)) (.cons .refl (.cons (.nil (sz := 1)) (.cons (.nil (sz := 2)) .nil)))))))) .nil)))) (au (am [2,50] (e' := [(50, _), (2, _)]) Z Z ⟨Z, Z, trivial⟩ Z) (au (Ent.freeze 50 (e' := [(50, _), (2, _)]) Z (.cons Z (.c (.row Z Z)) (fe [2] Z)) (.cons Z (.box (fk Z)) (.skip .nil))) ?_))
 refine ap ?_
 refine ap ?_
 refine js O Z (jf [51,2] Z (jo O Z (ap ?_)))
 refine jr ?_
 have h8 := zz.1 (bz hc43)
 have ha8 : b.any (fun x => decide (x.kind = 8)) = true := List.any_eq_true.2 ⟨(b.getD i default), by rw [aM hib]; exact List.getElem_mem hib, decide_eq_true h8⟩
 rw [show R = ⟨[], [xF (fd D.2).1, mi 1 (uk 2 0 1), kx], []⟩ from by rw [hR]; unfold m9; rw [← hD, ← hb]; exact if_pos ha8]
 refine ⟨.inl Z, _, av, _, Z, ?_⟩
 exact .v (.agg (.cons .nils (.cons .d (.cons .nils .nil))))
 refine ak (an (js O Z (aa (bc O Z Z (by omega) (by omega)) Z Z Z (js O Z (jf [5,43,2,3,4] Z (jn ?_))))))
 refine ⟨i + 1, Ent.env ⟨Z, Z, Z, Z, trivial⟩, ⟨by omega, fun j hj => ?_⟩, by omega⟩
 by_cases e : j = i
 subst e; exact fun h => cp hc43 (zz.2 h)
 exact hi.2 j (by omega)
 refine bH (ag (js O Z (jo O Z (ap ?_))))
 refine jr ?_
 have hn := cp hc22
 have hib : i = b.length := by omega
 have ha8 : ¬ b.any (fun x => decide (x.kind = 8)) = true := fun h => by
  obtain ⟨x, hx1, hx2⟩ := List.any_eq_true.1 h
  obtain ⟨j, hj, rfl⟩ := List.mem_iff_getElem.1 hx1
  exact hi.2 j (by omega) (by rw [aM hj]; exact bz hx2)
 rw [show R = ⟨[], b.map ew, []⟩ from by rw [hR]; unfold m9; rw [← hD, ← hb]; exact if_neg ha8]
 rw [← ut hib]
 refine ⟨.inl Z, _, av, _, Z, ?_⟩
 exact .v (.agg (.cons .nils (.cons (.whole Z (by rw [cw, nu])) (.cons .nils .nil))))
end Go.Al
