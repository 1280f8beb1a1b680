/- A program and a state are drawn. -/
import Derived.Test.YtbkloknmpkgmbaaGreatF
import Derived.Test.YtbkloknmpkgmbaaGreatC
set_option linter.unusedVariables false
set_option linter.unusedSimpArgs false
set_option maxRecDepth 10000
set_option maxHeartbeats 4000000
open Go.Proofs
namespace Go.Al
variable {L : Nat} (h1 : 4096 ≤ L) (h2 : L ≤ 1073741824)
theorem sg {k : Nat} : (List.replicate (k + 1) [D.int .i64 0])[0 + k]? = some [D.int .i64 0] := by simp
theorem sf {k : Nat} {n : Int} : (List.replicate (k + 1) [D.int .i64 0]).set (0 + k) [D.int .i64 n] = ((List.replicate k 0 ++ [n] : List Int)).map fun n => [D.int .i64 n] := by
 rw [List.replicate_succ', Nat.zero_add, List.set_append_right _ _ (by simp)]; simp
theorem fv {c n : Int} {k : Nat} (hk : k < 10) : MQ h1 h2 37 [eI c, eI k, eI n] [] (Plain (cP (ir c k n))) := by
 refine MC.data (jB 24 h1 h2 Tryz.func37 Z Z Z fun O hF => ?_)
 refine ag (jl O Z (av ?_))
 refine bf (js O Z ?_)
 first | refine ji O Z ?_ | refine dI O Z Z ?_
 refine jf [11,6,0,1,2] Z (AOps.heap (gg O Z Z Z Z Z Z Z Z Z (by first | omega | (simp at *; omega)) (by first | omega | (simp at *; omega)) (by first | omega | (simp at *; omega)) (by first | omega | (dsimp only; omega) | (simp only [bL] at *; omega)) (by first | omega | (simp at *; omega)) Z Z Z) Z (av ?_))
 refine js O Z (jf [7,6,0,1,2] Z (bf (j3 O Z Z Z ?_)))
 first | refine pD O Z Z ?_ | refine nq O Z Z ?_ | refine dI O Z Z ?_
 refine jf [16,15,7,6,0,1] Z (AOps.heap (cD (ex := [.int .i64 0]) (xs' := ((List.replicate k 0 ++ [n] : List Int)).map (fun n : Int => [D.int .i64 n])) O Z Z Z Z Z Z Z Z Z Z Z Z Z Z sg sf) Z (av ?_))
 refine jf [7,6,0,1] Z (bf (aj (au [6,12] (e' := [(0, _), (6, _), (7, _)]) Z Z ⟨Z, Z, Z, trivial⟩ Z) (aj (Ent.freeze 12 (e' := [(0, _), (6, _), (7, _)]) Z (.cons Z (.keep Z) (.cons Z (.keep Z) (.cons Z (.c (.row Z (by simp))) .nil))) (.cons Z (.box (fk Z)) (.skip .nil))) ?_)))
 refine j2 O Z Z (jf [19,18,6,7] Z (ak O Z Z Z Z (ru (c := c) (xs := List.replicate k 0 ++ [n]) h1 h2) (ac Z) Z Z Z Z (B0 := 21000) Z Z (j3 O Z Z Z (jf [22,21,6,7] Z (jl O Z (av ?_))))))
 refine jo O Z (av ?_)
 refine js O Z (jf [8,6,7] Z (bf (js O Z (jo O Z (av ?_)))))
 refine jr ?_
 refine ⟨.inl Z, _, ar, _, Z, ?_⟩
 exact .v (.agg (aI Z))
abbrev pG (ss : List Sm) : B := .row false 8 (ss.map Sm.cells)
abbrev fq : Tm := ⟨0, [1]⟩
theorem rW {low tm : Tm} {s : Src} : (lR low tm s).2.at_ ≤ s.at_ + 4 := by
 have h1 := br (s := s) (n := 4)
 have h2 := br (s := (s.pick 4).2) (n := 3)
 have h3 := br (s := (s.pick 4).2) (n := 4)
 unfold lR; split
 show (((s.pick 4).2.pick 3).2).at_ ≤ _; omega
 split
 show (((s.pick 4).2.pick 4).2).at_ ≤ _; omega
 split
 show ((s.pick 4).2).at_ ≤ _; omega
 show ((s.pick 4).2).at_ ≤ _; omega
theorem xC {s : Src} (hs : s.Ok) (ha : s.at_ ≤ 999999500) : MQ h1 h2 45 [.c (.pt 0 0 0)] [(0, bm s)] (aV (fo (qq s).1) [(0, bm (qq s).2)]) := by
 refine MC.shift 500 Z (MC.keep [500] (bs := [bm (qq s).2]) Z Z (jH 88 [500] h1 h2 Tryz.func45 Z Z Z Z fun O hF => ?_))
 refine bQ ?_
 obtain ⟨R, hR⟩ : ∃ R, R = qq s := ⟨_, rfl⟩
 rw [← hR]
 have hp0 := bP hs (n := 6) (by omega)
 have hat0 := br (s := s) (n := 6)
 refine ag (jl O Z (av ?_))
 refine bf (AOps.heap (bn O Z Z Z Z Z Z Z Z Z Z Z) Z (av ?_))
 refine aj (au [2,500,9] (e' := [(9, _), (0, _), (2, _)]) Z Z ⟨Z, Z, Z, trivial⟩ Z) (aj (Ent.freeze 9 (e' := [(9, _), (0, _), (2, _)]) Z (.cons Z (.c (.row Z Z)) (fe [0,2] Z)) (.cons Z (.box (fk Z)) (.cons Z (.box (fk Z)) (.skip .nil)))) ?_)
 refine av ?_
 refine av ?_
 refine js O Z (jf [10,0,2] Z (jl O Z (av ?_)))
 refine jo O Z (av ?_)
 refine bf (js O Z (aq O [500] (bin := [bm s]) Z Z Z Z (dJ (s := s) (n := 6) h1 h2 hs (by omega) (by omega) (by omega)) Z Z Z Z Z Z (B0 := 13000) Z Z (av ?_)))
 refine aa (aN O Z Z (by omega) (by omega)) Z Z Z (jf [13,3,10,0,2] Z ?_)
 obtain ⟨r, hr⟩ : ∃ r, r = 3 + (s.pick 6).1 := ⟨_, rfl⟩
 rw [← hr]
 refine AOps.heap (bn O Z Z Z Z Z Z Z Z Z Z Z) Z (av ?_)
 refine aj (au [2,3,500,14] (e' := [(14, _), (13, _), (0, _), (2, _), (3, _)]) Z Z ⟨Z, Z, Z, Z, Z, trivial⟩ Z) (aj (Ent.freeze 14 (e' := [(14, _), (13, _), (0, _), (2, _), (3, _)]) Z (.cons Z (.c (.row Z Z)) (fe [13,0,2,3] Z)) (.cons Z (.box (fk Z)) (.cons Z (.box (fk Z)) (.cons Z (.box (fk Z)) (.skip .nil))))) ?_)
 refine av ?_
 refine av ?_
 refine js O Z (jf [15,0,2,3] Z (jl O Z (av ?_)))
 refine jo O Z (av ?_)
 refine bf (j2 O Z Z (aa (aN O Z Z (by omega) (by omega)) Z Z Z (jf [18,4,15,0,2,3] Z (AOps.heap (bn O Z Z Z Z Z Z Z Z Z Z Z) Z (av ?_)))))
 refine aj (au [2,3,4,500,19] (e' := [(19, _), (18, _), (0, _), (2, _), (3, _), (4, _)]) Z Z ⟨Z, Z, Z, Z, Z, Z, trivial⟩ Z) (aj (Ent.freeze 19 (e' := [(19, _), (18, _), (0, _), (2, _), (3, _), (4, _)]) Z (.cons Z (.c (.row Z Z)) (fe [18,0,2,3,4] Z)) (.cons Z (.box (fk Z)) (.cons Z (.box (fk Z)) (.cons Z (.box (fk Z)) (.cons Z (.box (fk Z)) (.skip .nil)))))) ?_)
 refine av ?_
 refine av ?_
 refine js O Z (jf [20,0,2,3,4] Z (jl O Z (av ?_)))
 refine jo O Z (av ?_)
 refine bf (AOps.heap (bn O Z Z Z Z Z Z Z Z Z Z Z) Z (av ?_))
 refine aj (au [2,3,4,5,500,21] (e' := [(21, _), (0, _), (2, _), (3, _), (4, _), (5, _)]) Z Z ⟨Z, Z, Z, Z, Z, Z, trivial⟩ Z) (aj (Ent.freeze 21 (e' := [(21, _), (0, _), (2, _), (3, _), (4, _), (5, _)]) Z (.cons Z (.c (.row Z Z)) (fe [0,2,3,4,5] Z)) (.cons Z (.box (fk Z)) (.cons Z (.box (fk Z)) (.cons Z (.box (fk Z)) (.cons Z (.box (fk Z)) (.cons Z (.box (fk Z)) (.skip .nil))))))) ?_)
 refine av ?_
 refine av ?_
 refine js O Z (jf [22,0,2,3,4,5] Z (jl O Z (av ?_)))
 refine jo O Z (av ?_)
 refine bf (js O Z (aq O [500] (bin := [bm (s.pick 6).2]) Z Z Z Z (ub (s := (s.pick 6).2) h1 h2 hs.pick (by omega)) Z Z Z Z Z Z (B0 := 25000) Z Z (av ?_)))
 have hf1 := kH (hs.pick (n := 6))
 have hf2 := m4 (hs.pick (n := 6))
 obtain ⟨f, hf⟩ : ∃ f, f = fN (s.pick 6).2 := ⟨_, rfl⟩
 rw [← hf] at hf1 hf2 ⊢
 refine js O Z (jf [25,6,22,0,2,3,4,5] Z (jl O Z (av ?_)))
 refine jo O Z (av ?_)
 refine jn (ah (gv O [_,_,_,_,_,_,_,_,_] [pn [] 0 1, pn [] 0 1, pn [] 0 0, pe [2] 0, pn [1,2,3] 1 1, pn [] 0 1, pn [5] 0 1, pe (rg 0 7) 1, pn (rg 0 8) 2 2] [3,7] [_,_,_] (ai (kc O Z (V O Z)) (ai (kc O Z (V O Z)) (kc O Z (ai (bE O [500] (bin := [bm f.2]) Z Z Z Z (uc (s := f.2) h1 h2 hf1 (by omega)) Z Z Z Z Z (B0 := 30000) Z Z Z Z Z Z) (kc O Z (ai (kc O Z (V O Z)) (ai (kc O Z (V O Z)) (ai (gN O Z Z Z Z Z Z Z Z Z Z Z Z Z) (kc O Z trivial))))))))) ?_))
 refine jw [8,7,25,6,22,0,2,3,4,5] Z (bQ ?_)
 refine ah (ag ?_)
 have hq1 := iL hf1
 have hq2 := mJ hf1
 obtain ⟨q, hq⟩ : ∃ q, q = iX f.2 := ⟨_, rfl⟩
 rw [← hq] at hq1 hq2 ⊢
 refine aj ((au [2,4,5,6,7,33,500] (e' := [(0, _), (2, _), (4, _), (5, _), (6, _), (7, _), (8, _)]) Z Z ⟨Z, Z, Z, Z, Z, Z, Z, trivial⟩ Z)) (aj (Ent.rowLe 33 Z (.cons (.cons .refl (.cons .refl (.cons .refl (.cons .refl (.cons (.nil (sz := 1)) (.cons .refl (.cons (.nil (sz := 1)) (.cons (.nil (sz := 2)) .nil)))))))) (.cons (.cons .refl (.cons .refl (.cons .refl (.cons .refl (.cons .refl (.cons .refl (.cons .refl (.cons (.nil (sz := 2)) .nil)))))))) (.cons (.cons .refl (.cons .refl (.cons .refl (.cons .refl (.cons .refl (.cons .refl (.cons (.nil (sz := 1)) (.cons (.nil (sz := 2)) .nil)))))))) .nil)))) (aj (Ent.to (e' := [(0, .c (.pt 500 0 0)), (2, .c (.pt 2 0 0)), (4, .c (.pt 4 0 0)), (5, .c (.pt 5 0 0)), (6, .c (.pt 6 0 0)), (7, .c (.pt 7 0 0)), (8, .c (.rs 33 0 3))]) (H' := [(2, .box [.d .nils, .d .nils, .d .nils]), (4, .box [.d (.int .i64 r), .d (c7 [-1])]), (5, .box [.d (.int .i64 (r - 1)), .d (c7 [-1])]), (6, .box [.d (.int .i64 0), .d (c7 [1])]), (7, .box [.d (dP f.1), .d .nils, .d .nils]), (33, pG [fM, s7 fq q.1, fL 0 ⟨1, [1]⟩]), (500, bm q.2)]) ⟨Z, Z, Z, Z, Z, Z, Z, trivial⟩ Z) (js O Z ?_)))
 have hq3 := br (s := q.2) (n := 4)
 refine aq O [500] (bin := [bm q.2]) Z Z Z Z (dJ (s := q.2) (n := 4) h1 h2 hq1 (by omega) (by omega) (by omega)) Z Z Z Z Z Z (B0 := 36000) Z Z (av ?_)
 refine jn (jg ⟨[(0, .c (.pt 500 0 0)), (2, .c (.pt 2 0 0)), (4, .c (.pt 4 0 0)), (5, .c (.pt 5 0 0)), (6, .c (.pt 6 0 0)), (7, .c (.pt 7 0 0)), (8, .c (.rs 33 0 3))], [(2, .box [.d .nils, .d .nils, .d .nils]), (4, .box [.d (.int .i64 r), .d (c7 [-1])]), (5, .box [.d (.int .i64 (r - 1)), .d (c7 [-1])]), (6, .box [.d (.int .i64 0), .d (c7 [1])]), (7, .box [.d (dP f.1), .d .nils, .d .nils]), (33, pG [fM, (lR fq q.1 q.2).1, fL 0 ⟨1, [1]⟩]), (500, bm (lR fq q.1 q.2).2)]⟩ ?_ ?_)
 refine aw (ag (j2 O Z Z (jn (af O Z Z (fun hc36 => ?_) (fun hc36 => ?_)))))
 refine jw [37,35,34,0,2,4,5,6,7,8] Z ?_
 have hp3 := bP (hq1.pick (n := 4)) (n := 3) (by omega)
 refine gv O [_,_,_,_,_,_,_,_] [pn [] 0 1, pn [] 0 0, pe [1] 0, pn [1,2] 1 1, pn [] 0 1, pn (rg 1 4) 1 1, pn (rg 0 6) 1 1, pe (rg 0 7) 1] [2,7] [_,_,_] (ai (kc O Z (V O Z)) (kc O Z (ai (bE O [500] (bin := [bm (q.2.pick 4).2]) Z Z Z Z (dJ (s := (q.2.pick 4).2) (n := 3) h1 h2 hq1.pick (by omega) (by omega) (by omega)) Z Z Z Z Z (B0 := 41000) Z Z Z Z Z Z) (ai (aN O Z Z (by omega) (by omega)) (ai (kc O Z (V O Z)) (kc O Z (ai (dw (c := (0:Int) ≤ 1 ∧ (1:Int) < ((3:Nat):Int)) (v := .c (.pt 33 1 0)) O Z Z (by decide)) (ai (cg O Z Z Z Z Z Z Z Z Z Z Z Z Z Z Z Z Z Z) trivial)))))))) ?_
 rw [show lR fq q.1 q.2 = _ from if_pos (bp hc36)]
 exact ⟨Z, (au [2,4,5,6,7,33,500] (e' := [(0, _), (2, _), (4, _), (5, _), (6, _), (7, _), (8, _)]) Z Z ⟨Z, Z, Z, Z, Z, Z, Z, trivial⟩ Z).trans ((Ent.rowLe 33 Z (.cons (.cons .refl (.cons .refl (.cons .refl (.cons .refl (.cons .refl (.cons .refl (.cons .refl (.cons .refl .nil)))))))) (.cons (.cons .refl (.cons .refl (.cons .refl (.cons .refl (.cons (.nil (sz := 1)) (.cons .refl (.cons .refl (.cons (.nil (sz := 2)) .nil)))))))) (.cons (.cons .refl (.cons .refl (.cons .refl (.cons .refl (.cons .refl (.cons .refl (.cons .refl (.cons .refl .nil)))))))) .nil)))).trans (Ent.to ⟨Z, Z, Z, Z, Z, Z, Z, trivial⟩ Z))⟩
 refine ag (j2 O Z Z (jf [45,37,35,34,0,2,4,5,6,7,8] Z (jn (af O Z Z (fun hc45 => ?_) (fun hc45 => ?_)))))
 refine am (j2 O Z Z (jf [48,47,37,35,34,0,2,4,5,6,7,8] Z (aq O [500] (bin := [bm (q.2.pick 4).2]) Z Z Z Z (dJ (s := (q.2.pick 4).2) (n := 4) h1 h2 hq1.pick (by omega) (by omega) (by omega)) Z Z Z Z Z Z (B0 := 50000) Z Z (av ?_))))
 refine js O Z (aa (dw (c := (0:Int) ≤ 1 ∧ (1:Int) < ((3:Nat):Int)) (v := .c (.pt 33 1 0)) O Z Z (by decide)) Z Z Z (jf [51,50,37,35,34,0,2,4,5,6,7,8] Z (AOps.heap (cD O Z Z Z Z Z Z Z Z Z Z Z Z Z Z Z Z) Z (av ?_))))
 refine jf [37,35,34,0,2,4,5,6,7,8] Z (jn ?_)
 rw [show lR fq q.1 q.2 = _ from (if_neg (ch hc36)).trans (if_pos (bp hc45))]
 exact ⟨Z, (au [2,4,5,6,7,33,500] (e' := [(0, _), (2, _), (4, _), (5, _), (6, _), (7, _), (8, _)]) Z Z ⟨Z, Z, Z, Z, Z, Z, Z, trivial⟩ Z).trans ((Ent.rowLe 33 Z (.cons (.cons .refl (.cons .refl (.cons .refl (.cons .refl (.cons .refl (.cons .refl (.cons .refl (.cons .refl .nil)))))))) (.cons (.cons .refl (.cons .refl (.cons .refl (.cons .refl (.cons (.nil (sz := 1)) (.cons .refl (.cons (.nil (sz := 1)) (.cons (.nil (sz := 2)) .nil)))))))) (.cons (.cons .refl (.cons .refl (.cons .refl (.cons .refl (.cons .refl (.cons .refl (.cons .refl (.cons .refl .nil)))))))) .nil)))).trans (Ent.to ⟨Z, Z, Z, Z, Z, Z, Z, trivial⟩ Z))⟩
 refine ag (j2 O Z Z (jf [52,37,35,34,0,2,4,5,6,7,8] Z (jn (af O Z Z (fun hc52 => ?_) (fun hc52 => ?_)))))
 refine am (j3 O Z Z Z (aa (dw (c := (0:Int) ≤ 1 ∧ (1:Int) < ((3:Nat):Int)) (v := .c (.pt 33 1 0)) O Z Z (by decide)) Z Z Z (jf [57,56,37,35,34,0,2,4,5,6,7,8] Z (AOps.heap (cD O Z Z Z Z Z Z Z Z Z Z Z Z Z Z Z Z) Z (av ?_)))))
 refine jf [37,35,34,0,2,4,5,6,7,8] Z (jn ?_)
 rw [show lR fq q.1 q.2 = _ from (if_neg (ch hc36)).trans ((if_neg (ch hc45)).trans (if_pos (bp hc52)))]
 exact ⟨Z, (au [2,4,5,6,7,33,500] (e' := [(0, _), (2, _), (4, _), (5, _), (6, _), (7, _), (8, _)]) Z Z ⟨Z, Z, Z, Z, Z, Z, Z, trivial⟩ Z).trans ((Ent.rowLe 33 Z (.cons (.cons .refl (.cons .refl (.cons .refl (.cons .refl (.cons .refl (.cons .refl (.cons .refl (.cons .refl .nil)))))))) (.cons (.cons .refl (.cons .refl (.cons .refl (.cons .refl (.cons .refl (.cons .refl (.cons (.nil (sz := 1)) (.cons (.nil (sz := 2)) .nil)))))))) (.cons (.cons .refl (.cons .refl (.cons .refl (.cons .refl (.cons .refl (.cons .refl (.cons .refl (.cons .refl .nil)))))))) .nil)))).trans (Ent.to ⟨Z, Z, Z, Z, Z, Z, Z, trivial⟩ Z))⟩
 refine an ?_
 rw [show lR fq q.1 q.2 = _ from (if_neg (ch hc36)).trans ((if_neg (ch hc45)).trans (if_neg (ch hc52)))]
 exact ⟨Z, (au [2,4,5,6,7,33,500] (e' := [(0, _), (2, _), (4, _), (5, _), (6, _), (7, _), (8, _)]) Z Z ⟨Z, Z, Z, Z, Z, Z, Z, trivial⟩ Z).trans (Ent.to ⟨Z, Z, Z, Z, Z, Z, Z, trivial⟩ Z)⟩
 refine ah ?_
 have hm1 := (rE (low := fq) hq1 (by decide) (show q.1.term = true from hq ▸ jy hf1)).2.2
 have hm2 := rW (low := fq) (tm := q.1) (s := q.2)
 refine mv O _ [_,_,_,_,_,_,_,_,_,_,_,_,_] [pn [] 0 1, pn [] 0 0, pe [1] 0, pn [1,2] 1 1, pn [1,2,3] 1 1, pn [] 0 1, pn [] 0 1, pn [] 0 1, pn [6,7] 0 1, pn (rg 5 4) 0 1, pe (rg 0 10) 1, pn (rg 0 11) 2 2, pe (rg 0 12) 2] [2,10,12] 0 [_,_,_,_] [] Z Z (by decide) (by decide) (by decide) Z (by kernel_rfl) (ai (ai (ai (aH (iq (V O Z) Z Z)) Z) (ai (aH (iq (V O Z) Z Z)) Z)) (ai (ai (ay (.inl (V O Z)) (.inl (V O Z))) Z) (ai (ai (ay (aH (bE O [500] (bin := [bm (lR fq q.1 q.2).2]) Z Z Z Z (dJ (s := (lR fq q.1 q.2).2) (n := 2) h1 h2 hm1 (by omega) (by omega) (by omega)) Z Z Z Z Z (B0 := 61000) Z Z Z Z Z Z)) (aH (bE O [500] (bin := [bm (lR fq q.1 q.2).2]) Z Z Z Z (dJ (s := (lR fq q.1 q.2).2) (n := 2) h1 h2 hm1 (by omega) (by omega) (by omega)) Z Z Z Z Z (B0 := 61000) Z Z Z Z Z Z))) Z) (ai (ai (ay (.inl (V O Z)) (.inl (V O Z))) Z) (ai (ai (ay (.inl (V O Z)) (.inl (V O Z))) Z) (ai (ai (ai (ay (.inl (V O Z)) (.inl (V O Z))) Z) (ai (ay (.inl (V O Z)) (.inl (V O Z))) Z)) (ai (ai (ai (ay (.inl (V O Z)) (.inl (V O Z))) Z) (ai (ay (.inl (V O Z)) (.inl (V O Z))) Z)) (ai (ai (ai (ay (.inl (V O Z)) (.inl (V O Z))) Z) (ai (ay (.inl (V O Z)) (.inl (V O Z))) Z)) (ai (ai (ai (ay (.inr (eU O Z Z Z Z Z Z Z Z Z Z Z Z Z (by repeat' (first | exact .nil | refine .skip ?_ | refine .cons Z .row ?_ | refine .cons Z (.box (FMs.keep Z)) ?_)))) (.inr (eU O Z Z Z Z Z Z Z Z Z Z Z Z Z (by repeat' (first | exact .nil | refine .skip ?_ | refine .cons Z .row ?_ | refine .cons Z (.box (FMs.keep Z)) ?_))))) Z) (ai (ay (.inr (eU O Z Z Z Z Z Z Z Z Z Z Z Z Z (by repeat' (first | exact .nil | refine .skip ?_ | refine .cons Z .row ?_ | refine .cons Z (.box (FMs.keep Z)) ?_)))) (.inr (eU O Z Z Z Z Z Z Z Z Z Z Z Z Z (by repeat' (first | exact .nil | refine .skip ?_ | refine .cons Z .row ?_ | refine .cons Z (.box (FMs.keep Z)) ?_))))) Z)) (ai (ai (ai (ay (.inl (V O Z)) (.inl (V O Z))) Z) (ai (ay (.inl (V O Z)) (.inl (V O Z))) Z)) (ai (ai (ay trivial (aH (gN O Z Z Z Z Z Z Z Z Z Z Z Z Z))) Z) (ai (ai (ay trivial (.inl (V O Z))) Z) (ai (ai (ay trivial (aH (eS O Z Z Z))) Z) trivial))))))))))))) ?_
 refine jw [0,2,4,5,6,7,8] Z (bQ ?_)
 refine ag ?_
 obtain ⟨m, hm⟩ : ∃ m, m = lR fq q.1 q.2 := ⟨_, rfl⟩
 rw [← hm] at hm1 hm2 ⊢
 refine aj (au [2,4,7,33,500,68] (e' := [(0, _), (2, _), (4, _), (7, _), (8, _)]) Z Z ⟨Z, Z, Z, Z, Z, trivial⟩ Z) (aj (Ent.rowLe 68 Z (.cons (.cons .refl (.cons .refl (.cons .refl (.cons .refl (.cons (.nil (sz := 1)) (.cons .refl (.cons (.nil (sz := 1)) (.cons (.nil (sz := 2)) .nil)))))))) (.cons (.cons .refl (.cons .refl (.cons .refl (.cons .refl (.cons (.nil (sz := 1)) (.cons .refl (.cons (.nil (sz := 1)) (.cons (.nil (sz := 2)) .nil)))))))) (.cons (.cons .refl (.cons .refl (.cons .refl (.cons .refl (.cons .refl (.cons .refl (.cons (.nil (sz := 1)) (.cons .refl .nil)))))))) .nil)))) (aj (Ent.to (e' := [(0, .c (.pt 500 0 0)), (2, .c (.pt 2 0 0)), (4, .c (.pt 4 0 0)), (7, .c (.pt 7 0 0)), (8, .c (.rs 33 0 3))]) (H' := [(2, .box [.d .nils, .d .nils, .d .nils]), (4, .box [.d (.int .i64 r), .d (c7 [-1])]), (7, .box [.d (dP f.1), .rs 68 0 3, .d .nils]), (33, pG [fM, m.1, fL 0 ⟨1, [1]⟩]), (500, bm (m.2.pick 2).2), (68, pG [fM, fL 0 ⟨(m.2.pick 2).1, []⟩, gA ⟨r - 1, [-1]⟩ [fq, ⟨r, [-1]⟩]])]) ⟨Z, Z, Z, Z, Z, trivial⟩ Z) (j3 O Z Z Z (jf [72,71,0,2,4,7,8] Z (AOps.heap (bh (own := false) (xs := ([fM, fL 0 ⟨(m.2.pick 2).1, []⟩, gA ⟨r - 1, [-1]⟩ [fq, ⟨r, [-1]⟩]] : List Sm).map Sm.cells) (ys := ([fM, m.1, fL 0 ⟨1, [1]⟩] : List Sm).map Sm.cells) (zs := ([fM, fL 0 ⟨(m.2.pick 2).1, []⟩, gA ⟨r - 1, [-1]⟩ [fq, ⟨r, [-1]⟩], fM, m.1, fL 0 ⟨1, [1]⟩] : List Sm).map Sm.cells) (n := 6) O Z Z Z Z Z Z Z Z Z Z Z Z Z Z Z Z (.row Z Z) (.whole Z Z (.inr ⟨Z, Z⟩)) (by simp) Z (by simp; omega) (by simp) Z Z) Z (av ?_))))))
 refine av ?_
 refine js O Z (jf [74,73,0,2,4,7,8] Z (jo O Z (av ?_)))
 refine jf [0,2,4,7,8] Z (bf (j2 O Z Z (aa (aN O Z Z (by omega) (by omega)) Z Z Z (jf [77,0,2,4,7,8] Z ?_))))
 rw [show (0 : Int) - r = -r from Int.zero_sub r]
 refine AOps.heap (bn O Z Z Z Z Z Z Z Z Z Z Z) Z (av ?_)
 refine aj (au [2,7,73,500,78] (e' := [(78, _), (77, _), (0, _), (2, _), (7, _)]) Z Z ⟨Z, Z, Z, Z, Z, trivial⟩ Z) (aj (Ent.freeze 78 (e' := [(78, _), (77, _), (0, _), (2, _), (7, _)]) Z (.cons Z (.c (.row Z Z)) (fe [77,0,2,7] Z)) (.cons Z (.box (fk Z)) (.cons Z (.box (fk Z)) (.cons Z .row (.cons Z (.box (fk Z)) (.skip .nil)))))) ?_)
 refine av ?_
 refine av ?_
 refine js O Z (jf [79,0,2,7] Z (AOps.heap (bn O Z Z Z Z Z Z Z Z Z Z Z) Z (av ?_)))
 refine av ?_
 refine js O Z (jf [81,80,0,2,7] Z (jo O Z (av ?_)))
 refine jf [0,2,7] Z (jn (ah (ag (aj (au [2,7,73,80,500] (e' := [(0, _), (2, _), (7, _)]) Z Z ⟨Z, Z, Z, trivial⟩ Z) (aj (Ent.freeze 73 (e' := [(0, _), (2, _), (7, _)]) Z (fe [0,2,7] Z) (.cons Z (.box (fk Z)) (.cons Z (.box (.cons (.keep Z) (.cons (.row Z Z) (fk Z)))) (.skip (.cons Z .row (.cons Z (.box (fk Z)) .nil)))))) ?_)))))
 refine aj (Ent.freeze 80 (e' := [(0, _), (2, _), (7, _)]) Z (fe [0,2,7] Z) (.cons Z (.box (fk Z)) (.cons Z (.box (.cons (.keep Z) (.cons (.keep Z) (.cons (.row Z Z) .nil)))) (.skip (.cons Z (.box (fk Z)) .nil))))) ?_
 refine aj (Ent.to (e' := [(0, .c (.pt 500 0 0)), (2, .c (.pt 2 0 0)), (7, .c (.pt 7 0 0))]) (H' := [(2, .box [.d .nils, .d .nils, .d .nils]), (7, .box [.d (dP f.1), .d (go [fM, fL 0 ⟨(m.2.pick 2).1, []⟩, gA ⟨r - 1, [-1]⟩ [fq, ⟨r, [-1]⟩], fM, m.1, fL 0 ⟨1, [1]⟩]), .d (dP [⟨-r, [1]⟩])]), (500, bm (m.2.pick 2).2)]) ⟨Z, Z, Z, trivial⟩ Z) ?_
 have hm3 := br (s := m.2) (n := 2)
 have hm4 := br (s := (m.2.pick 2).2) (n := 4)
 refine js O Z (aq O [500] (bin := [bm (m.2.pick 2).2]) Z Z Z Z (pR (s := (m.2.pick 2).2) (n := 4) h1 h2 hm1.pick (by omega) (by omega) (by omega)) Z Z Z Z Z Z (B0 := 84000) Z Z (av ?_))
 refine jn (af O Z Z (fun hc83 => ?_) (fun hc83 => ?_))
 refine am (js O Z (jf [84,82,0,2,7] Z (aq O [500] (bin := [bm ((m.2.pick 2).2.pick 4).2]) Z Z Z Z (ub (s := ((m.2.pick 2).2.pick 4).2) h1 h2 hm1.pick.pick (by omega)) Z Z Z Z Z Z (B0 := 86000) Z Z (av ?_))))
 refine js O Z (jf [86,85,82,0,2,7] Z (jo O Z (av ?_)))
 refine jf [82,0,2,7] Z (bf (js O Z (jo O Z (av ?_))))
 refine jr ?_
 have ho := bp hc83
 have hR2 : R = qt r f.1 m := by rw [hR, hm, hq, hf, hr]; rfl
 rw [show R = ⟨⟨f.1, [fM, fL 0 ⟨(m.2.pick 2).1, []⟩, gA ⟨r - 1, [-1]⟩ [fq, ⟨r, [-1]⟩], fM, m.1, fL 0 ⟨1, [1]⟩], (fN ((m.2.pick 2).2.pick 4).2).1⟩, (fN ((m.2.pick 2).2.pick 4).2).2⟩ from hR2.trans (by unfold qt i8; rw [if_pos ho])]
 refine ⟨.inl Z, _, ar, _, Z, Z, Z⟩
 refine an (ag (js O Z (jf [87,82,0,2,7] Z (jo O Z (av ?_)))))
 refine jr ?_
 have ho := ch hc83
 have hR2 : R = qt r f.1 m := by rw [hR, hm, hq, hf, hr]; rfl
 rw [show R = ⟨⟨f.1, [fM, fL 0 ⟨(m.2.pick 2).1, []⟩, gA ⟨r - 1, [-1]⟩ [fq, ⟨r, [-1]⟩], fM, m.1, fL 0 ⟨1, [1]⟩], [⟨-r, [1]⟩]⟩, ((m.2.pick 2).2.pick 4).2⟩ from hR2.trans (by unfold qt i8; rw [if_neg ho])]
 refine ⟨.inl Z, _, ar, _, Z, Z, Z⟩
theorem u3 {s : Src} (h : s.Ok) : (qq s).2.at_ ≤ s.at_ + 130 := by
 have h0 := br (s := s) (n := 6)
 have hf := m4 (h.pick (n := 6))
 have hfo := kH (h.pick (n := 6))
 have ht := mJ hfo
 have hm := rW (low := fq) (tm := (iX (fN (s.pick 6).2).2).1) (s := (iX (fN (s.pick 6).2).2).2)
 have hmo := (rE (low := fq) (iL hfo) (by decide) (jy hfo)).2.2
 unfold qq ux
 generalize lR ⟨0, [1]⟩ (iX (fN (s.pick 6).2).2).1 (iX (fN (s.pick 6).2).2).2 = m at hm hmo
 have h2 := br (s := m.2) (n := 2)
 have h3 := br (s := (m.2.pick 2).2) (n := 4)
 have h4 := m4 ((hmo.pick (n := 2)).pick (n := 4))
 show (i8 _ (m.2.pick 2).2).2.at_ ≤ _
 unfold i8; split
 omega
 simp only; omega
variable {xs : List Int}
theorem xI (hx : ∀ n ∈ xs, 0 ≤ n ∧ n ≤ 255) : MQ h1 h2 15 [.c (.d (bys xs))] [] (Plain (fo (tg xs))) := by
 refine MC.data (jB 97 h1 h2 Tryz.func15 Z Z Z fun O hF => ?_)
 obtain ⟨R, hR⟩ : ∃ R, R = tg xs := ⟨_, rfl⟩
 rw [← hR]
 have hs : (⟨xs, 0, 0⟩ : Src).Ok := ⟨hx⟩
 have ha : (⟨xs, 0, 0⟩ : Src).at_ = 0 := rfl
 refine ag (jl O Z (av ?_))
 refine bf (js O Z (jf [10,2] Z (aq O [] (bin := []) Z Z Z Z (ud (xs := xs) h1 h2) Z Z Z Z Z Z (B0 := 12000) Z Z (av ?_))))
 refine js O Z (jf [3,2] Z (bf (js O Z (aq O [12000] (bin := [bm ⟨xs, 0, 0⟩]) Z Z Z Z (xC (s := ⟨xs, 0, 0⟩) h1 h2 hs (by omega)) Z Z Z Z Z Z (B0 := 14000) Z Z (av ?_)))))
 have hd1 := (rV hs).2
 have hd2 := u3 hs
 obtain ⟨d, hd⟩ : ∃ d, d = qq ⟨xs, 0, 0⟩ := ⟨_, rfl⟩
 rw [← hd] at hd1 hd2 ⊢
 refine jf [13,3,2] Z (jl O Z (av ?_))
 refine jo O Z (av ?_)
 refine bf (js O Z (jn (ah (ag (js O Z ?_)))))
 have hp1 := br (s := d.2) (n := 4)
 have hp2 := br (s := (d.2.pick 4).2) (n := 5)
 refine aq O [12000] (bin := [bm d.2]) Z Z Z Z (pR (s := d.2) (n := 4) h1 h2 hd1 (by omega) (by omega) (by omega)) Z Z Z Z Z Z (B0 := 16000) Z Z (av ?_)
 refine jn ?_
 obtain ⟨off, hoff⟩ : ∃ off : Int, off = if (d.2.pick 4).1 = 0 then 1 else 0 := ⟨_, rfl⟩
 refine jg ⟨[(2, .c (.pt 2 0 0)), (3, .c (.pt 12000 0 0)), (4, .c (.pt 4 0 0)), (5, eI off)], [(2, .box [.d .nils, .d .nils, .d .nils]), (4, .box [.d (dP d.1.pre), .d (go d.1.body), .d (dP d.1.post)]), (12000, bm (d.2.pick 4).2)]⟩ ?_ ?_
 refine af O Z Z (fun hc15 => ?_) (fun hc15 => ?_)
 refine am (js O Z (jn ?_))
 have ho : off = 1 := hoff.trans (if_pos (bp hc15))
 exact ⟨Z, (au [2,4,12000] (e' := [(2, _), (3, _), (4, _), (5, _)]) Z Z ⟨Z, Z, Z, Z, trivial⟩ Z).trans (Ent.to ⟨Z, Z, Z, by rw [ho]; rfl, trivial⟩ Z)⟩
 refine an ?_
 have ho : off = 0 := hoff.trans (if_neg (ch hc15))
 exact ⟨Z, (au [2,4,12000] (e' := [(2, _), (3, _), (4, _), (5, _)]) Z Z ⟨Z, Z, Z, Z, trivial⟩ Z).trans (Ent.to ⟨Z, Z, Z, by rw [ho]; rfl, trivial⟩ Z)⟩
 refine ah (ag (js O Z (aq O [12000] (bin := [bm (d.2.pick 4).2]) Z Z Z Z (dJ (s := (d.2.pick 4).2) (n := 5) h1 h2 hd1.pick (by omega) (by omega) (by omega)) Z Z Z Z Z Z (B0 := 18000) Z Z (av ?_))))
 refine jn (jg ⟨[(2, .c (.pt 2 0 0)), (4, .c (.pt 4 0 0))], [(2, .box [.d .nils, .d .nils, .d .nils]), (4, .box [.d (dP (kP off d.1 (d.2.pick 4).2).1.pre), .d (go (kP off d.1 (d.2.pick 4).2).1.body), .d (dP (kP off d.1 (d.2.pick 4).2).1.post)])]⟩ ?_ ?_)
 refine aw (ag (j2 O Z Z (jn (af O Z Z (fun hc18 => ?_) (fun hc18 => ?_)))))
 refine ag (AOps.heap (bn O Z Z Z Z Z Z Z Z Z Z Z) Z (av ?_))
 refine aj (au [2,4,12000,20] (e' := [(20, _), (2, _), (3, _), (4, _), (5, _)]) Z Z ⟨Z, Z, Z, Z, Z, trivial⟩ Z) (aj (Ent.freeze 20 (e' := [(20, _), (2, _), (3, _), (4, _), (5, _)]) Z (.cons Z (.c (.row Z Z)) (fe [2,3,4,5] Z)) (.cons Z (.box (fk Z)) (.cons Z (.box (fk Z)) (.cons Z (.box (fk Z)) (.skip .nil))))) ?_)
 refine av ?_
 refine av ?_
 refine js O Z (jo O Z (av ?_))
 refine jf [2,3,4,5] Z (bf (js O Z (ak O Z Z Z Z (fv (c := 0) (k := 1) (n := 2) h1 h2 (by decide)) (ac Z) Z Z Z Z (B0 := 24000) Z Z (js O Z (jf [24,22,2,3,4,5] Z (ak O Z Z Z Z (fv (c := -1) (k := 2) (n := 1) h1 h2 (by decide)) (ac Z) Z Z Z Z (B0 := 26000) Z Z (j2 O Z Z ?_)))))))
 have hof : 0 ≤ off ∧ off ≤ 1 := by rw [hoff]; split <;> decide
 refine aa (aN O Z Z (by omega) (by omega)) Z Z Z (jf [28,26,24,22,2,3,4,5] Z (ak O Z Z Z Z (fv (c := -1 - off) (k := 1) (n := 1) h1 h2 (by decide)) (ac Z) Z Z Z Z (B0 := 30000) Z Z (js O Z (jf [30,26,24,22,2,3,4,5] Z (ak O Z Z Z Z (fv (c := 0) (k := 1) (n := -1) h1 h2 (by decide)) (ac Z) Z Z Z Z (B0 := 32000) Z Z (js O Z (jf [32,30,26,24,22,2,3,4,5] Z (AOps.heap (bn O Z Z Z Z Z Z Z Z Z Z Z) Z (av ?_)))))))))
 refine aj (Ent.rowLe 33 Z (.cons (.cons .refl (.cons .refl (.cons .refl (.cons .refl (.cons (.nil (sz := 1)) (.cons .refl (.cons (.nil (sz := 1)) (.cons (.nil (sz := 2)) .nil)))))))) (.cons (.cons .refl (.cons .refl (.cons .refl (.cons .refl (.cons .refl (.cons .refl (.cons (.nil (sz := 1)) (.cons (.nil (sz := 2)) .nil)))))))) (.cons (.cons .refl (.cons .refl (.cons .refl (.cons .refl (.cons .refl (.cons .refl (.cons (.nil (sz := 1)) (.cons (.nil (sz := 2)) .nil)))))))) (.cons (.cons .refl (.cons .refl (.cons .refl (.cons .refl (.cons .refl (.cons .refl (.cons (.nil (sz := 1)) (.cons (.nil (sz := 2)) .nil)))))))) (.cons (.cons .refl (.cons .refl (.cons .refl (.cons .refl (.cons .refl (.cons .refl (.cons (.nil (sz := 1)) (.cons (.nil (sz := 2)) .nil)))))))) .nil)))))) (aj (au [2,4,12000,33] (e' := [(33, _), (2, _), (3, _), (4, _), (5, _)]) Z Z ⟨Z, Z, Z, Z, Z, trivial⟩ Z) (aj (Ent.freeze 33 (e' := [(33, _), (2, _), (3, _), (4, _), (5, _)]) Z (.cons Z (.c (.row Z Z)) (fe [2,3,4,5] Z)) (.cons Z (.box (fk Z)) (.cons Z (.box (fk Z)) (.cons Z (.box (fk Z)) (.skip .nil))))) ?_))
 refine av ?_
 refine av ?_
 refine js O Z (jo O Z (av ?_))
 refine jf [2,3,4,5] Z (jn (am (AOps.heap (bn O Z Z Z Z Z Z Z Z Z Z Z) Z (av ?_))))
 refine aj (au [2,4,12000,35] (e' := [(35, _), (2, _), (3, _), (4, _), (5, _)]) Z Z ⟨Z, Z, Z, Z, Z, trivial⟩ Z) (aj (Ent.freeze 35 (e' := [(35, _), (2, _), (3, _), (4, _), (5, _)]) Z (.cons Z (.c (.row Z Z)) (fe [2,3,4,5] Z)) (.cons Z (.box (fk Z)) (.cons Z (.box (fk Z)) (.cons Z (.box (fk Z)) (.skip .nil))))) ?_)
 refine av ?_
 refine av ?_
 refine js O Z (jo O Z (av ?_))
 refine jf [2,3,4,5] Z (jn ?_)
 rw [show kP off d.1 (d.2.pick 4).2 = _ from if_pos (bp hc18)]
 exact ⟨Z, (au [2,4] (e' := [(2, _), (4, _)]) Z Z ⟨Z, Z, trivial⟩ Z).trans (Ent.to ⟨Z, Z, trivial⟩ Z)⟩
 refine ag (j2 O Z Z (jf [37,19,17,16,2,3,4,5] Z (jn (af O Z Z (fun hc37 => ?_) (fun hc37 => ?_)))))
 refine ag (js O Z (jf [39,19,17,16,2,3,4,5] Z (aq O [12000] (bin := [bm ((d.2.pick 4).2.pick 5).2]) Z Z Z Z (dJ (s := ((d.2.pick 4).2.pick 5).2) (n := 9) h1 h2 hd1.pick.pick (by omega) (by omega) (by omega)) Z Z Z Z Z Z (B0 := 41000) Z Z (av ?_))))
 have hp3 := bP ((hd1.pick (n := 4)).pick (n := 5)) (n := 9) (by omega)
 refine aa (aN O Z Z (by omega) (by omega)) Z Z Z (js O Z (jf [6,19,17,16,2,3,4,5] Z (bf ?_)))
 obtain ⟨z, hz⟩ : ∃ z, z = ((((d.2.pick 4).2.pick 5).2.pick 9).1 - 4) := ⟨_, rfl⟩
 rw [← hz]
 refine AOps.heap (bn O Z Z Z Z Z Z Z Z Z Z Z) Z (av ?_)
 refine aj (au [2,4,12000,42] (e' := [(42, _), (2, _), (3, _), (4, _), (5, _), (6, _)]) Z Z ⟨Z, Z, Z, Z, Z, Z, trivial⟩ Z) (aj (Ent.freeze 42 (e' := [(42, _), (2, _), (3, _), (4, _), (5, _), (6, _)]) Z (.cons Z (.c (.row Z Z)) (fe [2,3,4,5,6] Z)) (.cons Z (.box (fk Z)) (.cons Z (.box (fk Z)) (.cons Z (.box (fk Z)) (.skip .nil))))) ?_)
 refine av ?_
 refine av ?_
 refine js O Z (jo O Z (av ?_))
 refine jf [2,3,4,5,6] Z (bf (js O Z (aa (aN O Z Z (by omega) (by omega)) Z Z Z ?_)))
 rw [show (0 : Int) - z = -z from Int.zero_sub _]
 refine jf [45,2,3,4,5,6] Z (ak O Z Z Z Z (fv (c := -z) (k := 1) (n := 1) h1 h2 (by decide)) (ac Z) Z Z Z Z (B0 := 47000) Z Z (j2 O Z Z (aa (aN O Z Z (by omega) (by omega)) Z Z Z ?_)))
 rw [show (0 : Int) - z = -z from Int.zero_sub _]
 refine jf [49,47,2,3,4,5,6] Z (ak O Z Z Z Z (fv (c := -z) (k := 1) (n := 1) h1 h2 (by decide)) (ac Z) Z Z Z Z (B0 := 51000) Z Z (j3 O Z Z Z ?_))
 have hof : 0 ≤ off ∧ off ≤ 1 := by rw [hoff]; split <;> decide
 refine aa (aN O Z Z (by omega) (by omega)) Z Z Z (jf [54,51,47,2,3,4,5] Z (ak O Z Z Z Z (fv (c := z - off) (k := 1) (n := -1) h1 h2 (by decide)) (ac Z) Z Z Z Z (B0 := 56000) Z Z (js O Z (jf [56,51,47,2,3,4,5] Z (AOps.heap (bn O Z Z Z Z Z Z Z Z Z Z Z) Z (av ?_))))))
 refine aj (Ent.rowLe 57 Z (.cons (.cons .refl (.cons .refl (.cons .refl (.cons .refl (.cons .refl (.cons .refl (.cons (.nil (sz := 1)) (.cons (.nil (sz := 2)) .nil)))))))) (.cons (.cons .refl (.cons .refl (.cons .refl (.cons .refl (.cons .refl (.cons .refl (.cons (.nil (sz := 1)) (.cons (.nil (sz := 2)) .nil)))))))) (.cons (.cons .refl (.cons .refl (.cons .refl (.cons .refl (.cons .refl (.cons .refl (.cons (.nil (sz := 1)) (.cons (.nil (sz := 2)) .nil)))))))) .nil)))) (aj (au [2,4,12000,57] (e' := [(57, _), (2, _), (3, _), (4, _), (5, _)]) Z Z ⟨Z, Z, Z, Z, Z, trivial⟩ Z) (aj (Ent.freeze 57 (e' := [(57, _), (2, _), (3, _), (4, _), (5, _)]) Z (.cons Z (.c (.row Z Z)) (fe [2,3,4,5] Z)) (.cons Z (.box (fk Z)) (.cons Z (.box (fk Z)) (.cons Z (.box (fk Z)) (.skip .nil))))) ?_))
 refine av ?_
 refine av ?_
 refine js O Z (jo O Z (av ?_))
 refine jf [2,3,4,5] Z (jn (am (ak O Z Z Z Z (fv (c := 0) (k := 0) (n := 1) h1 h2 (by decide)) (ac Z) Z Z Z Z (B0 := 60000) Z Z (AOps.heap (bn O Z Z Z Z Z Z Z Z Z Z Z) Z (av ?_)))))
 refine aj (au [2,4,12000,60] (e' := [(60, _), (2, _), (3, _), (4, _), (5, _)]) Z Z ⟨Z, Z, Z, Z, Z, trivial⟩ Z) (aj (Ent.freeze 60 (e' := [(60, _), (2, _), (3, _), (4, _), (5, _)]) Z (.cons Z (.c (.row Z Z)) (fe [2,3,4,5] Z)) (.cons Z (.box (fk Z)) (.cons Z (.box (fk Z)) (.cons Z (.box (fk Z)) (.skip .nil))))) ?_)
 refine av ?_
 refine av ?_
 refine js O Z (jo O Z (av ?_))
 refine jf [2,3,4,5] Z (jn ?_)
 subst hz
 rw [show kP off d.1 (d.2.pick 4).2 = _ from (if_neg (ch hc18)).trans (if_pos (bp hc37))]
 exact ⟨Z, (au [2,4] (e' := [(2, _), (4, _)]) Z Z ⟨Z, Z, trivial⟩ Z).trans (Ent.to ⟨Z, Z, trivial⟩ Z)⟩
 refine ag (j2 O Z Z (jf [62,19,17,16,2,3,4,5] Z (jn (af O Z Z (fun hc62 => ?_) (fun hc62 => ?_)))))
 refine ag (js O Z (jf [64,19,17,16,2,3,4,5] Z (aq O [12000] (bin := [bm ((d.2.pick 4).2.pick 5).2]) Z Z Z Z (dJ (s := ((d.2.pick 4).2.pick 5).2) (n := 4) h1 h2 hd1.pick.pick (by omega) (by omega) (by omega)) Z Z Z Z Z Z (B0 := 66000) Z Z (av ?_))))
 have hp4 := br (s := ((d.2.pick 4).2.pick 5).2) (n := 4)
 refine js O Z (jf [7,19,17,16,2,3,4,5] Z (bf (ak O Z Z Z Z (fv (c := 0) (k := 1) (n := 1) h1 h2 (by decide)) (ac Z) Z Z Z Z (B0 := 67000) Z Z (js O Z ?_))))
 have hof : 0 ≤ off ∧ off ≤ 1 := by rw [hoff]; split <;> decide
 refine aa (aN O Z Z (by omega) (by omega)) Z Z Z (jf [68,66,7,19,17,16,2,3,4,5] Z (ak O Z Z Z Z (fv (c := 7 + off) (k := 1) (n := -1) h1 h2 (by decide)) (ac Z) Z Z Z Z (B0 := 70000) Z Z (jf [69,66,7,19,17,16,2,3,4,5] Z (AOps.heap (bn O Z Z Z Z Z Z Z Z Z Z Z) Z (av ?_)))))
 refine aj (au [2,4,12000,70] (e' := [(70, _), (2, _), (3, _), (4, _), (5, _), (7, _)]) Z Z ⟨Z, Z, Z, Z, Z, Z, trivial⟩ Z) (aj (Ent.freeze 70 (e' := [(70, _), (2, _), (3, _), (4, _), (5, _), (7, _)]) Z (.cons Z (.c (.row Z Z)) (fe [2,3,4,5,7] Z)) (.cons Z (.box (fk Z)) (.cons Z (.box (fk Z)) (.cons Z (.box (fk Z)) (.skip .nil))))) ?_)
 refine av ?_
 refine av ?_
 refine js O Z (jo O Z (av ?_))
 refine jf [2,3,4,5,7] Z (bf (js O Z (ak O Z Z Z Z (fv (c := 0) (k := 1) (n := 1) h1 h2 (by decide)) (ac Z) Z Z Z Z (B0 := 74000) Z Z (j2 O Z Z (jf [75,74,72,2,3,4,5,7] Z (ak O Z Z Z Z (fv (c := 0) (k := 1) (n := 1) h1 h2 (by decide)) (ac Z) Z Z Z Z (B0 := 77000) Z Z (ak O Z Z Z Z (fv (c := 1) (k := 2) (n := 1) h1 h2 (by decide)) (ac Z) Z Z Z Z (B0 := 78000) Z Z (j4 O Z Z Z Z (js O Z (jf [82,81,79,78,75,74,72,2,3,4,5] Z (aq O [12000] (bin := [bm (((d.2.pick 4).2.pick 5).2.pick 4).2]) Z Z Z Z (dJ (s := (((d.2.pick 4).2.pick 5).2.pick 4).2) (n := 3) h1 h2 hd1.pick.pick.pick (by omega) (by omega) (by omega)) Z Z Z Z Z Z (B0 := 84000) Z Z (av ?_))))))))))))
 refine jf [83,81,79,78,75,74,72,2,3,4,5] Z (ak O Z Z Z Z (fv (c := ((((d.2.pick 4).2.pick 5).2.pick 4).2.pick 3).1) (k := 2) (n := 1) h1 h2 (by decide)) (ac Z) Z Z Z Z (B0 := 85000) Z Z (js O Z (jf [85,81,79,78,75,74,72,2,3,4,5] Z (AOps.heap (bn O Z Z Z Z Z Z Z Z Z Z Z) Z (av ?_)))))
 refine aj (Ent.rowLe 86 Z (.cons (.cons .refl (.cons .refl (.cons .refl (.cons .refl (.cons (.nil (sz := 1)) (.cons .refl (.cons (.nil (sz := 1)) (.cons (.nil (sz := 2)) .nil)))))))) (.cons (.cons .refl (.cons .refl (.cons .refl (.cons .refl (.cons (.nil (sz := 1)) (.cons .refl (.cons .refl (.cons (.nil (sz := 2)) .nil)))))))) (.cons (.cons .refl (.cons .refl (.cons .refl (.cons .refl (.cons (.nil (sz := 1)) (.cons .refl (.cons (.nil (sz := 1)) (.cons (.nil (sz := 2)) .nil)))))))) (.cons (.cons .refl (.cons .refl (.cons .refl (.cons .refl (.cons .refl (.cons .refl (.cons .refl (.cons (.nil (sz := 2)) .nil)))))))) (.cons (.cons .refl (.cons .refl (.cons .refl (.cons .refl (.cons (.nil (sz := 1)) (.cons .refl (.cons (.nil (sz := 1)) (.cons (.nil (sz := 2)) .nil)))))))) (.cons (.cons .refl (.cons .refl (.cons .refl (.cons .refl (.cons (.nil (sz := 1)) (.cons .refl (.cons (.nil (sz := 1)) (.cons (.nil (sz := 2)) .nil)))))))) (.cons (.cons .refl (.cons .refl (.cons .refl (.cons .refl (.cons .refl (.cons .refl (.cons (.nil (sz := 1)) (.cons (.nil (sz := 2)) .nil)))))))) .nil)))))))) (aj (au [2,4,12000,86] (e' := [(86, _), (2, _), (3, _), (4, _)]) Z Z ⟨Z, Z, Z, Z, trivial⟩ Z) (aj (Ent.freeze 86 (e' := [(86, _), (2, _), (3, _), (4, _)]) Z (.cons Z (.c (.row Z Z)) (fe [2,3,4] Z)) (.cons Z (.box (fk Z)) (.cons Z (.box (fk Z)) (.cons Z (.box (fk Z)) (.skip .nil))))) ?_))
 refine av ?_
 refine av ?_
 refine js O Z (jo O Z (av ?_))
 refine jf [2,3,4] Z (bf (AOps.heap (bn O Z Z Z Z Z Z Z Z Z Z Z) Z (av ?_)))
 refine aj (au [2,4,12000,89] (e' := [(89, _), (2, _), (3, _), (4, _)]) Z Z ⟨Z, Z, Z, Z, trivial⟩ Z) (aj (Ent.freeze 89 (e' := [(89, _), (2, _), (3, _), (4, _)]) Z (.cons Z (.c (.row Z Z)) (fe [2,3,4] Z)) (.cons Z (.box (fk Z)) (.cons Z (.box (fk Z)) (.cons Z (.box (fk Z)) (.skip .nil))))) ?_)
 refine av ?_
 refine av ?_
 refine ak O Z Z Z Z (ru (c := 0) (xs := [0, 0, -1, 1]) h1 h2) (ac Z) Z Z Z Z (B0 := 91000) Z Z (j3 O Z Z Z (jf [92,91,2,3,4] Z (jl O Z (av ?_))))
 refine jo O Z (av ?_)
 refine js O Z (jf [8,2,3,4] Z (jn (am (js O Z (AOps.heap (bn O Z Z Z Z Z Z Z Z Z Z Z) Z (av ?_))))))
 refine aj (au [2,4,8,12000,94] (e' := [(94, _), (2, _), (4, _)]) Z Z ⟨Z, Z, Z, trivial⟩ Z) (aj (Ent.freeze 94 (e' := [(94, _), (2, _), (4, _)]) Z (.cons Z (.c (.row Z Z)) (fe [2,4] Z)) (.cons Z (.box (fk Z)) (.cons Z (.box (fk Z)) (.cons Z (.box (fk Z)) (.cons Z (.box (fk Z)) (.skip .nil)))))) ?_)
 refine av ?_
 refine av ?_
 refine js O Z (jo O Z (av ?_))
 refine jf [2,4] Z (jn ?_)
 rw [show kP off d.1 (d.2.pick 4).2 = _ from (if_neg (ch hc18)).trans ((if_neg (ch hc37)).trans (if_pos (bp hc62)))]
 exact ⟨Z, (au [2,4] (e' := [(2, _), (4, _)]) Z Z ⟨Z, Z, trivial⟩ Z).trans (Ent.to ⟨Z, Z, trivial⟩ Z)⟩
 refine an ?_
 rw [show kP off d.1 (d.2.pick 4).2 = _ from (if_neg (ch hc18)).trans ((if_neg (ch hc37)).trans (if_neg (ch hc62)))]
 exact ⟨Z, (au [2,4] (e' := [(2, _), (4, _)]) Z Z ⟨Z, Z, trivial⟩ Z).trans (Ent.to ⟨Z, Z, trivial⟩ Z)⟩
 refine ag (js O Z (jo O Z (av ?_)))
 refine jr ?_
 refine ⟨.inl Z, _, ar, _, Z, ?_⟩
 rw [show R = (kP off d.1 (d.2.pick 4).2).1 by rw [hR, hoff, hd]; rfl]
 exact .v (.agg (aI Z))
theorem kZ {α : Type} [Inhabited α] {xs ys : List α} {i : Nat} (h : xs.take i = ys.take i) (h1 : i < xs.length) (h2 : i < ys.length) (e : xs.getD i default = ys.getD i default) : xs.take (i + 1) = ys.take (i + 1) := by
 rw [List.take_succ_eq_append_getElem h1, List.take_succ_eq_append_getElem h2, h]
 rw [aK h1, aK h2] at e
 rw [e]
theorem kA {α : Type} [Inhabited α] {xs ys : List α} {i : Nat} (e : xs.getD i default ≠ ys.getD i default) : xs ≠ ys := fun h => e (by rw [h])
theorem mS {α : Type} {xs ys : List α} (h1 : xs.length = ys.length) (h : xs.take xs.length = ys.take xs.length) : xs = ys := by
 rw [List.take_length, h1, List.take_length] at h; exact h
variable {ys : List Int}
theorem xK : MQ h1 h2 13 [cm xs, cm ys] [] (Plain (eB (decide (xs = ys)))) := by
 refine aP ?_ Z
 refine jB 26 h1 h2 Tryz.func13 Z Z Z fun O hF => ?_
 have hl : xs.length ≤ L := by have := hF; simp [As.fact, A.fact, M.fact, D.fact, Ds.fact] at this; omega
 refine ag (js O Z (jn (ah (ag (js O Z ?_)))))
 first | refine dn O Z ?_ | refine js O Z ?_ | refine dI O Z Z ?_
 refine js O Z ?_
 first | refine dn O Z ?_ | refine js O Z ?_ | refine dI O Z Z ?_
 refine js O Z (jf [10,4,0,1] Z (jn (af O Z Z (fun hc10 => ?_) (fun hc10 => ?_))))
 try simp only [bL] at hc10
 refine ag (js O Z (jr ?_))
 refine ⟨.inl Z, _, ar, _, Z, ?_⟩
 rw [decide_eq_false (fun e => hc10 (by rw [e]))]
 try simp only [bL] at hc10
 refine an (ah (ag (js O Z (jn (aw (aE (X := Nat) (fun i => ⟨[(0, cm xs), (1, cm ys), (5, eI i)], []⟩) (fun i => xs.length = ys.length ∧ i ≤ xs.length ∧ xs.take i = ys.take i) (fun i => xs.length - i) 0 (Ent.to ⟨Z, Z, Z, trivial⟩ Z) ?_ (fun i hi => ?_)))))))
 exact ⟨by first | omega | simpa using hc10, dm _, Z⟩
 refine ah (ag (j2 O Z Z ?_))
 first | refine dn O Z ?_ | refine js O Z ?_ | refine dI O Z Z ?_
 refine js O Z (jf [14,0,1,5] Z (jn (af O Z Z (fun hc14 => ?_) (fun hc14 => ?_))))
 try simp only [bL] at hc14
 refine an (ah (aw (ah (gv O [_,_,_,_,_,_,_,_,_] [pn [] 0 0, pn [] 0 0, pn [0,1] 0 0, pn [0,1,2] 0 0, pn [] 0 0, pn [] 0 0, pn [4,5] 0 0, pn [4,5,6] 0 0, pn (rg 0 8) 0 0] [] [_] (kc O Z (kc O Z (ai (vN O Z) (kc O Z (kc O Z (kc O Z (ai (vN O Z) (kc O Z (kc O Z trivial))))))))) ?_))))
 refine jw [25,14,0,1,5] Z (bQ ?_)
 refine af O Z Z (fun hc25 => ?_) (fun hc25 => ?_)
 try simp only [bL] at hc25
 refine ag (js O Z (jr ?_))
 refine ⟨.inl Z, _, ar, _, Z, ?_⟩
 rw [decide_eq_false (kA (by simpa using hc25))]
 try simp only [bL] at hc25
 refine an (am (js O Z ?_))
 first | refine ji O Z ?_ | refine dI O Z Z ?_
 refine js O Z (jf [5,25,14,0,1] Z (jn ?_))
 refine ⟨i + 1, Ent.to ⟨Z, Z, Z, trivial⟩ Z, ⟨hi.1, by omega, kZ hi.2.2 (by omega) (by omega) (by simpa using hc25)⟩, by omega⟩
 try simp only [bL] at hc14
 refine bt (ag (js O Z (jr ?_)))
 refine ⟨.inl Z, _, ar, _, Z, ?_⟩
 obtain rfl : i = xs.length := by omega
 rw [decide_eq_true (mS hi.1 hi.2.2)]
theorem xi {s t : Tm} : (bif decide (s.c = t.c) then decide (s.xs = t.xs) else false) = decide (s = t) := by
 cases s; cases t; simp [bJ]
theorem zn {s t : Sq} : (s = t) ↔ (s.goal = t.goal ∧ s.facts = t.facts) := by
 cases s; cases t; simp [and_comm]
theorem rH {s t : Tm} : MQ h1 h2 53 [cP s, cP t] [] (Plain (eB (decide (s = t)))) := by
 refine aP ?_ Z
 refine jB 17 h1 h2 Tryz.func53 Z Z Z fun O hF => ?_
 refine ag (jx O Z (jf [2,1] Z (jx O Z (js O Z (bf (j4 O Z Z Z Z (j2 O Z Z (jf [10,4,3,2,1] Z (ax 5 Z Z Z (fun hx => ab hx Z Z Z (V O Z) Z Z ( ab hx Z Z Z (V O Z) Z Z ( ab hx Z Z Z (V O Z) Z Z ( ab hx Z Z Z (V O Z) Z Z ( bv O hx Z Z Z Z (xK (xs := s.xs) (ys := t.xs) h1 h2) (ac Z) Z Z Z Z Z Z Z (B0 := 16000) Z ( AN.nil)))))) Z Z ?_)))))))))
 first | refine aa (ao O Z Z Z Z Z) Z Z Z ?_ | refine aa (aQ O Z Z Z Z Z) Z Z Z ?_ | refine aa (Val.pickB O Z Z Z Z Z) Z Z Z ?_
 refine js O Z (jf [4,1] Z (jr ?_))
 refine ⟨.inl Z, _, ar, _, Z, ?_⟩
 exact congrArg eB xi
theorem pT {xs ys : List Tm} : MQ h1 h2 22 [b0 xs, b0 ys] [] (Plain (eB (decide (xs = ys)))) := by
 refine aP ?_ Z
 refine jB 27 h1 h2 Tryz.func22 Z Z Z fun O hF => ?_
 have hl : xs.length ≤ L := by have := hF; simp [As.fact, A.fact, M.fact, D.fact, Ds.fact] at this; omega
 refine ag (js O Z (jn (ah (ag (js O Z ?_)))))
 first | refine dn O Z ?_ | refine js O Z ?_ | refine dI O Z Z ?_
 refine js O Z ?_
 first | refine dn O Z ?_ | refine js O Z ?_ | refine dI O Z Z ?_
 refine js O Z (jf [10,4,0,1] Z (jn (af O Z Z (fun hc10 => ?_) (fun hc10 => ?_))))
 try simp only [bL] at hc10
 refine ag (js O Z (jr ?_))
 refine ⟨.inl Z, _, ar, _, Z, ?_⟩
 rw [decide_eq_false (fun e => hc10 (by rw [e]))]
 try simp only [bL] at hc10
 refine an (ah (ag (js O Z (jn (aw (aE (X := Nat) (fun i => ⟨[(0, b0 xs), (1, b0 ys), (5, eI i)], []⟩) (fun i => xs.length = ys.length ∧ i ≤ xs.length ∧ xs.take i = ys.take i) (fun i => xs.length - i) 0 (Ent.to ⟨Z, Z, Z, trivial⟩ Z) ?_ (fun i hi => ?_)))))))
 exact ⟨by first | omega | simpa using hc10, dm _, Z⟩
 refine ah (ag (j2 O Z Z ?_))
 first | refine dn O Z ?_ | refine js O Z ?_ | refine dI O Z Z ?_
 refine js O Z (jf [14,0,1,5] Z (jn (af O Z Z (fun hc14 => ?_) (fun hc14 => ?_))))
 try simp only [bL] at hc14
 refine an (ah (aw (ah (gv O [_,_,_,_,_,_,_,_,_,_] [pn [] 0 0, pn [] 0 0, pn [0,1] 0 0, pn [0,1,2] 0 0, pn [] 0 0, pn [] 0 0, pn [4,5] 0 0, pn [4,5,6] 0 0, pe (rg 0 8) 0, pn (rg 0 9) 1 1] [8] [_,_] (kc O Z (kc O Z (ai (vN O Z) (kc O Z (kc O Z (kc O Z (ai (vN O Z) (kc O Z (ai (c9 O (B0 := 26000) Z Z Z Z (rH h1 h2) (ac Z) Z Z Z Z Z) (kc O Z trivial)))))))))) ?_))))
 refine jw [26,14,0,1,5] Z (bQ ?_)
 refine af O Z Z (fun hc26 => ?_) (fun hc26 => ?_)
 try simp only [bL] at hc26
 refine ag (js O Z (jr ?_))
 refine ⟨.inl Z, _, ar, _, Z, ?_⟩
 rw [decide_eq_false (kA (by simpa using hc26))]
 try simp only [bL] at hc26
 refine an (am (js O Z ?_))
 first | refine ji O Z ?_ | refine dI O Z Z ?_
 refine js O Z (jf [5,26,14,0,1] Z (jn ?_))
 refine ⟨i + 1, Ent.to ⟨Z, Z, Z, trivial⟩ Z, ⟨hi.1, by omega, kZ hi.2.2 (by omega) (by omega) (by simpa using hc26)⟩, by omega⟩
 try simp only [bL] at hc14
 refine bt (ag (js O Z (jr ?_)))
 refine ⟨.inl Z, _, ar, _, Z, ?_⟩
 obtain rfl : i = xs.length := by omega
 rw [decide_eq_true (mS hi.1 hi.2.2)]
theorem pU : MQ h1 h2 6 [.c (.d (bys xs)), .c (.d (bys ys))] [] (Plain (eB (bif decide ((1048576 : Int) < xs.length) then true else decide ((1048576 : Int) < ys.length)))) := by
 refine aP ?_ Z
 refine jB 13 h1 h2 Tryz.func6 Z Z Z fun O hF => ?_
 refine ag (js O Z (bf (js O Z ?_)))
 first | refine dn O Z ?_ | refine js O Z ?_ | refine dI O Z Z ?_
 refine j2 O Z Z (jf [8,4,1] Z (ax 3 Z Z Z (fun hx => ab hx Z Z Z (V O Z) Z Z ( ab hx Z Z Z (bG O Z Z Z Z Z Z Z Z) Z Z ( ab hx Z Z Z (V O Z) Z Z ( AN.nil)))) Z Z ?_))
 first | refine aa (aQ O Z Z Z Z Z) Z Z Z ?_ | refine aa (Val.pickB O Z Z Z Z Z) Z Z Z ?_ | refine aa (ao O Z Z Z Z Z) Z Z Z ?_
 refine js O Z (jf [4] Z (jr ?_))
 refine ⟨.inl Z, _, ar, _, Z, ?_⟩
 rfl
def gm (ts : List Tm) (vars : List Int) : Bool := ts.all fun t => decide (0 ≤ dQ t vars)
theorem mY {ts : List Tm} {vars : List Int} {i : Nat} (h : i < ts.length) (hn : dQ (ts.getD i default) vars < 0) : gm ts vars = false := by
 unfold gm
 rw [List.all_eq_false]
 refine ⟨ts[i], List.getElem_mem h, ?_⟩
 rw [aK h] at hn
 rw [decide_eq_false (by omega)]; exact Bool.false_ne_true
theorem ld {ts : List Tm} {vars : List Int} (h : ∀ j, j < ts.length → 0 ≤ dQ (ts.getD j default) vars) : gm ts vars = true := by
 unfold gm
 rw [List.all_eq_true]
 intro t ht
 obtain ⟨j, hj, rfl⟩ := List.mem_iff_getElem.1 ht
 have := h j hj
 rw [aK hj] at this
 exact decide_eq_true this
theorem kY {ts : List Tm} (h : ∀ t ∈ ts, t.term = true) {i : Nat} (hi : i < ts.length) : (ts.getD i default).term = true := by
 rw [aK hi]; exact h _ (List.getElem_mem hi)
variable {ts : List Tm} {vars : List Int}
theorem xz (ht : ∀ t ∈ ts, t.term = true) (hv : b9 vars 4 = true) : MQ h1 h2 96 [b0 ts, cm vars] [] (Plain (eB (gm ts vars))) := by
 refine aP ?_ Z
 refine jB 18 h1 h2 Tryz.func96 Z Z Z fun O hF => ?_
 have hl : ts.length ≤ L := by have := hF; simp [As.fact, A.fact, M.fact, D.fact, Ds.fact] at this; omega
 refine ag (js O Z (jn (ah (ag (js O Z ?_)))))
 first | refine dn O Z ?_ | refine js O Z ?_ | refine dI O Z Z ?_
 refine js O Z (jn (aw (aE (X := Nat) (fun i => ⟨[(1, cm vars), (7, b0 ts), (8, eI ts.length), (9, eI i)], []⟩) (fun i => i ≤ ts.length ∧ ∀ j, j < i → 0 ≤ dQ (ts.getD j default) vars) (fun i => ts.length - i) 0 (au [] Z Z ⟨Z, Z, Z, Z, trivial⟩ Z) ?_ (fun i hi => ?_))))
 exact ⟨dm _, fun j hj => absurd hj (Nat.not_lt_zero j)⟩
 refine ag (js O Z (jn (ah (af O Z Z (fun hc10 => ?_) (fun hc10 => ?_)))))
 try simp only [bL] at hc10
 refine an (ah (aw (ag ?_)))
 first | refine pD O Z Z ?_ | refine nq O Z Z ?_ | refine dI O Z Z ?_
 refine js O Z (jf [12,10,1,7,8,9] Z (jl O Z (jo O Z (bf (j2 O Z Z (aA O Z Z Z Z (y4 (t := ts.getD i default) (vars := vars) h1 h2 (kY ht (by omega)) hv) (ac Z) Z Z Z Z Z (B0 := 16000) Z (js O Z (jf [16,6,12,10,1,7,8,9] Z (jn (af O Z Z (fun hc16 => ?_) (fun hc16 => ?_)))))))))))
 try simp only [bL] at hc16
 refine ag (js O Z (jr ?_))
 refine ⟨.inl Z, _, ar, _, Z, ?_⟩
 rw [mY (i := i) (by omega) (by simpa using hc16)]
 try simp only [bL] at hc16
 refine an (am ?_)
 first | refine ji O Z ?_ | refine dI O Z Z ?_
 refine js O Z (jn ?_)
 refine ⟨i + 1, (au [] (e' := [(1, _), (7, _), (8, _), (9, _)]) Z Z ⟨Z, Z, Z, Z, trivial⟩ Z).trans (Ent.to ⟨Z, Z, Z, Z, trivial⟩ Z), ⟨by omega, fun j hj => ?_⟩, by omega⟩
 rcases Nat.lt_or_ge j i with h | h
 exact hi.2 j h
 obtain rfl : j = i := by omega
 have := hc16; simp at this; exact this
 try simp only [bL] at hc10
 refine bt (ag (js O Z (jr ?_)))
 refine ⟨.inl Z, _, ar, _, Z, ?_⟩
 obtain rfl : i = ts.length := by omega
 rw [ld hi.2]
theorem xD {cells : List Int} (ht : ∀ t ∈ ts, t.term = true) (hv : b9 vars 4 = true) : MQ h1 h2 39 [b0 ts, ptr [c7 vars, c7 cells]] [] (Plain (eB (gm ts vars))) := by
 refine aP ?_ Z
 refine jB 18 h1 h2 Tryz.func39 Z Z Z fun O hF => ?_
 have hl : ts.length ≤ L := by have := hF; simp [As.fact, A.fact, M.fact, D.fact, Ds.fact] at this; omega
 refine ag (js O Z (jn (ah (ag (js O Z (jn (aw (aE (X := Nat) (fun i => ⟨[(0, b0 ts), (1, ptr [c7 vars, c7 cells]), (5, eI i)], []⟩) (fun i => i ≤ ts.length ∧ ∀ j, j < i → 0 ≤ dQ (ts.getD j default) vars) (fun i => ts.length - i) 0 (Ent.to ⟨Z, Z, Z, trivial⟩ Z) ?_ (fun i hi => ?_)))))))))
 exact ⟨dm _, fun j hj => absurd hj (Nat.not_lt_zero j)⟩
 refine ah (ag (j2 O Z Z ?_))
 first | refine dn O Z ?_ | refine js O Z ?_ | refine dI O Z Z ?_
 refine js O Z (jf [9,0,1,5] Z (jn (af O Z Z (fun hc9 => ?_) (fun hc9 => ?_))))
 try simp only [bL] at hc9
 refine an (ah (aw (ag (j2 O Z Z ?_))))
 first | refine pD O Z Z ?_ | refine nq O Z Z ?_ | refine dI O Z Z ?_
 refine js O Z (jf [15,14,9,0,1,5] Z (aA O Z Z Z Z (zb (t := ts.getD i default) (vars := vars) (cells := cells) h1 h2 (kY ht (by omega)) hv) (ac Z) Z Z Z Z Z (B0 := 17000) Z (js O Z (jf [17,9,0,1,5] Z (jn (af O Z Z (fun hc17 => ?_) (fun hc17 => ?_)))))))
 try simp only [bL] at hc17
 refine ag (js O Z (jr ?_))
 refine ⟨.inl Z, _, ar, _, Z, ?_⟩
 rw [mY (i := i) (by omega) (by simpa using hc17)]
 try simp only [bL] at hc17
 refine an (am (js O Z ?_))
 first | refine ji O Z ?_ | refine dI O Z Z ?_
 refine js O Z (jf [5,17,9,0,1] Z (jn ?_))
 refine ⟨i + 1, Ent.to ⟨Z, Z, Z, trivial⟩ Z, ⟨by omega, fun j hj => ?_⟩, by omega⟩
 rcases Nat.lt_or_ge j i with h | h
 exact hi.2 j h
 obtain rfl : j = i := by omega
 have := hc17; simp at this; exact this
 try simp only [bL] at hc9
 refine bt (ag (js O Z (jr ?_)))
 refine ⟨.inl Z, _, ar, _, Z, ?_⟩
 obtain rfl : i = ts.length := by omega
 rw [ld hi.2]
def kz : Nat → Src → List Int → List Int × Src
  | 0, s, xs => (xs, s)
  | k + 1, s, xs => kz k (s.pick 9).2 (xs ++ [(s.pick 9).1 - 2])
theorem oE : ∀ {k : Nat} {s : Src} {xs : List Int}, (kz k s xs).2.at_ ≤ s.at_ + 2 * k
 | 0, s, xs => cz _
 | k + 1, s, xs => by
  have h1 := oE (k := k) (s := (s.pick 9).2) (xs := xs ++ [(s.pick 9).1 - 2])
  have h2 := br (s := s) (n := 9)
  rw [kz]; omega
theorem oC : ∀ {k : Nat} {s : Src} {xs : List Int}, s.Ok → (kz k s xs).2.Ok
 | 0, s, xs, h => h
 | k + 1, s, xs, h => by rw [kz]; exact oC h.pick
theorem m3 : ∀ {k : Nat} {s : Src} {xs : List Int}, (kz k s xs).1.length = xs.length + k
 | 0, s, xs => rfl
 | k + 1, s, xs => by rw [kz, m3, dk, iw]; omega
theorem oD : ∀ {k : Nat} {s : Src} {xs : List Int}, s.Ok → (∀ n ∈ xs, -2 ≤ n ∧ n ≤ 6) → ∀ n ∈ (kz k s xs).1, -2 ≤ n ∧ n ≤ 6
 | 0, s, xs, h, hx => hx
 | k + 1, s, xs, h, hx => by
  have h0 := bP h (n := 9) (by omega)
  rw [kz]
  refine oD h.pick (fun n hn => ?_)
  rcases List.mem_append.1 hn with h1 | h1
  exact hx n h1
  rw [List.mem_singleton.1 h1]; omega
abbrev kr (xs : List Int) : B := .row false 1 (xs.map fun n => [D.int .i64 n])
def ta (vs cs : List Int) (s : Src) : Sx × Src := if (s.pick 8).1 = 0 then (⟨vs.set 0 ([1000000000, -1000000000].getD (((s.pick 8).2.pick 2).1.toNat) default), cs⟩, ((s.pick 8).2.pick 2).2) else (⟨vs, cs⟩, (s.pick 8).2)
def tb (vs : List Int) (c : List Int × Src) : Sx × Src := ta vs c.1 c.2
def qs (v : List Int × Src) : Sx × Src := tb v.1 (kz 8 v.2 [])
def kL (s : Src) : Sx × Src := qs (kz 4 s [])
theorem xE {s : Src} (hs : s.Ok) (ha : s.at_ ≤ 999999800) : MQ h1 h2 38 [.c (.pt 0 0 0)] [(0, bm s)] (aV (.agg [.rs 1 0 (kL s).1.vars.length, .rs 2 0 (kL s).1.cells.length]) [(0, bm (kL s).2), (1, kr (kL s).1.vars), (2, kr (kL s).1.cells)]) := by
 refine MC.shift 500 Z (MC.keep [500,501,502] (bs := [bm (kL s).2, kr (kL s).1.vars, kr (kL s).1.cells]) Z Z (jH 42 [500] h1 h2 Tryz.func38 Z Z Z Z fun O hF => ?_))
 refine bQ ?_
 obtain ⟨R, hR⟩ : ∃ R, R = kL s := ⟨_, rfl⟩
 rw [← hR]
 refine ag (jl O Z (av ?_))
 refine bf (AOps.heap (bn O Z Z Z Z Z Z Z Z Z Z Z) Z (av ?_))
 refine av ?_
 refine AOps.heap (bn O Z Z Z Z Z Z Z Z Z Z Z) Z (av ?_)
 refine av ?_
 refine js O Z (jf [8,2,0] Z (jl O Z (av ?_)))
 refine jo O Z (av ?_)
 refine jn (ah (ag (js O Z (jn (aw (aE (X := Nat × Src × List Int) (fun x => ⟨[(0, .c (.pt 500 0 0)), (2, .c (.pt 2 0 0)), (3, .c (.pt 3 0 0)), (4, eI (x.1 : Nat))], [(2, .box [.d .nils, .d .nils]), (3, .box [.rs 900 0 x.2.2.length, .rs 7 0 0]), (7, kr []), (500, bm x.2.1), (900, kr x.2.2)]⟩) (fun x => x.2.1.Ok ∧ kz 4 s [] = kz (4 - x.1) x.2.1 x.2.2 ∧ x.2.2.length = x.1 ∧ x.1 ≤ 4 ∧ x.2.1.at_ ≤ s.at_ + 2 * x.1) (fun x => 4 - x.1) (0, s, []) ((ae 6 900 Z Z).trans ((au [2,3,7,500,900] (e' := [(0, _), (2, _), (3, _), (4, _)]) Z Z ⟨Z, Z, Z, Z, trivial⟩ Z).trans (Ent.to ⟨Z, Z, Z, Z, trivial⟩ Z))) ?_ (fun x hi => ?_)))))))
 exact ⟨hs, Z, Z, dm _, cz _⟩
 refine ah (ag (j2 O Z Z (jn (af O Z Z (fun hc10 => ?_) (fun hc10 => ?_)))))
 refine an (ah (aw ?_))
 have hk := bp hc10
 have hp := bP hi.1 (n := 9) (by omega)
 have hat := br (s := x.2.1) (n := 9)
 refine jG O [_,_,_,_,_,_,_,_,_] [pn [] 0 2, pn [0] 0 2, pn [] 0 0, pe [2] 0, pn [2,3] 1 1, pe [2,3,4] 1, pe (rg 0 6) 2, pn (rg 0 7) 3 3, pe (rg 0 8) 3] [3,5,6,8] [_,_,_,_,_] [[], [], [900], []] (ai (ka O Z Z (ka O Z Z (kw O Z Z))) (ai (ka O Z Z (ka O Z Z (kw O Z Z))) (ka O Z Z (ai (ai (aH (bE O [500] (bin := [bm x.2.1]) Z Z Z Z (dJ (s := x.2.1) (n := 9) h1 h2 hi.1 (by omega) (by omega) (by omega)) Z Z Z Z Z (B0 := 17000) Z Z Z Z Z Z)) Z) (ai (ai (aN O Z Z (by omega) (by omega)) Z) (ai (ai (aH (gN O Z Z Z Z Z Z Z Z Z Z Z Z Z)) Z) (ai (ai (ci (own := false) (xs := x.2.2.map (fun n : Int => [D.int .i64 n])) (ys := [[.int .i64 ((x.2.1.pick 9).1 - 2)]]) (zs := (x.2.2 ++ [(x.2.1.pick 9).1 - 2]).map (fun n : Int => [D.int .i64 n])) (n := (x.2.2 ++ [(x.2.1.pick 9).1 - 2]).length) O Z Z Z Z Z Z Z Z Z Z Z Z Z Z Z Z (.row Z (cY _).symm) (.whole Z Z (.inr ⟨Z, Z⟩)) (by simp) Z (by simp; omega) (by simp; omega) (by simp) (by simp) Z) Z) (ka O Z Z (ai (ai (aH (eS O Z Z Z)) Z) trivial))))))))) ?_
 refine jw [10,9,0,2,3,4] Z (bQ ?_)
 refine am (js O Z ?_)
 first | refine ji O Z ?_ | refine dI O Z Z ?_
 refine js O Z (jf [4,10,9,0,2,3] Z (jn ?_))
 refine ⟨(x.1 + 1, (x.2.1.pick 9).2, x.2.2 ++ [(x.2.1.pick 9).1 - 2]), ((ae 19 900 Z Z).trans (au [2,3,7,500,900] (e' := [(0, _), (2, _), (3, _), (4, _)]) Z Z ⟨Z, Z, Z, Z, trivial⟩ Z)).trans (Ent.to ⟨Z, Z, Z, ?_, trivial⟩ Z), ⟨hi.1.pick, ?_, by simp only [dk, iw]; omega, by simp only; omega, by simp only; omega⟩, by simp only; omega⟩
 exact congrArg (fun z => some (eI z)) (by simp only; omega)
 rw [hi.2.1, show 4 - x.1 = (4 - (x.1 + 1)) + 1 by omega, kz]
 refine bt (ah (ag (js O Z (jn (aw ?_)))))
 have hk := ch hc10
 obtain ⟨k1, s1, xs1⟩ := x
 simp only at hi hk
 obtain rfl : k1 = 4 := by omega
 obtain ⟨ho1, ho2, ho3, ho4, ho5⟩ := hi
 rw [show kL s = qs (xs1, s1) from congrArg qs ho2] at hR
 refine aE (X := Nat × Src × List Int) (fun y => ⟨[(0, .c (.pt 500 0 0)), (2, .c (.pt 2 0 0)), (3, .c (.pt 3 0 0)), (5, eI (y.1 : Nat))], [(2, .box [.d .nils, .d .nils]), (3, .box [.rs 900 0 xs1.length, .rs 901 0 y.2.2.length]), (500, bm y.2.1), (900, kr xs1), (901, kr y.2.2)]⟩) (fun y => y.2.1.Ok ∧ kz 8 s1 [] = kz (8 - y.1) y.2.1 y.2.2 ∧ y.2.2.length = y.1 ∧ y.1 ≤ 8 ∧ y.2.1.at_ ≤ s1.at_ + 2 * y.1) (fun y => 8 - y.1) (0, s1, []) ((ae 7 901 Z Z).trans ((au [2,3,500,900,901] (e' := [(0, _), (2, _), (3, _), (5, _)]) Z Z ⟨Z, Z, Z, Z, trivial⟩ Z).trans (Ent.to ⟨Z, Z, Z, Z, trivial⟩ Z))) ?_ (fun y hi => ?_)
 exact ⟨ho1, Z, Z, dm _, cz _⟩
 refine ah (ag (j2 O Z Z (jn (af O Z Z (fun hc22 => ?_) (fun hc22 => ?_)))))
 refine an (ah (aw ?_))
 have hk := bp hc22
 have hp := bP hi.1 (n := 9) (by omega)
 have hat := br (s := y.2.1) (n := 9)
 refine jG O [_,_,_,_,_,_,_,_,_] [pn [] 0 2, pn [0] 0 2, pn [] 0 0, pe [2] 0, pn [2,3] 1 1, pe [2,3,4] 1, pe (rg 0 6) 2, pn (rg 0 7) 3 3, pe (rg 0 8) 3] [3,5,6,8] [_,_,_,_,_] [[], [], [901], []] (ai (ka O Z Z (ka O Z Z (kw O Z Z))) (ai (ka O Z Z (ka O Z Z (kw O Z Z))) (ka O Z Z (ai (ai (aH (bE O [500] (bin := [bm y.2.1]) Z Z Z Z (dJ (s := y.2.1) (n := 9) h1 h2 hi.1 (by omega) (by omega) (by omega)) Z Z Z Z Z (B0 := 29000) Z Z Z Z Z Z)) Z) (ai (ai (aN O Z Z (by omega) (by omega)) Z) (ai (ai (aH (gN O Z Z Z Z Z Z Z Z Z Z Z Z Z)) Z) (ai (ai (ci (own := false) (xs := y.2.2.map (fun n : Int => [D.int .i64 n])) (ys := [[.int .i64 ((y.2.1.pick 9).1 - 2)]]) (zs := (y.2.2 ++ [(y.2.1.pick 9).1 - 2]).map (fun n : Int => [D.int .i64 n])) (n := (y.2.2 ++ [(y.2.1.pick 9).1 - 2]).length) O Z Z Z Z Z Z Z Z Z Z Z Z Z Z Z Z (.row Z (cY _).symm) (.whole Z Z (.inr ⟨Z, Z⟩)) (by simp) Z (by simp; omega) (by simp; omega) (by simp) (by simp) Z) Z) (ka O Z Z (ai (ai (aH (eS O Z Z Z)) Z) trivial))))))))) ?_
 refine jw [22,21,0,2,3,5] Z (bQ ?_)
 refine am (js O Z ?_)
 first | refine ji O Z ?_ | refine dI O Z Z ?_
 refine js O Z (jf [5,22,21,0,2,3] Z (jn ?_))
 refine ⟨(y.1 + 1, (y.2.1.pick 9).2, y.2.2 ++ [(y.2.1.pick 9).1 - 2]), ((ae 31 901 Z Z).trans (au [2,3,500,900,901] (e' := [(0, _), (2, _), (3, _), (5, _)]) Z Z ⟨Z, Z, Z, Z, trivial⟩ Z)).trans (Ent.to ⟨Z, Z, Z, ?_, trivial⟩ Z), ⟨hi.1.pick, ?_, by simp only [dk, iw]; omega, by simp only; omega, by simp only; omega⟩, by simp only; omega⟩
 exact congrArg (fun z => some (eI z)) (by simp only; omega)
 rw [hi.2.1, show 8 - y.1 = (8 - (y.1 + 1)) + 1 by omega, kz]
 refine bt (ah (ag ?_))
 have hk := ch hc22
 obtain ⟨k2, s2, ys2⟩ := y
 simp only at hi hk
 obtain rfl : k2 = 8 := by omega
 obtain ⟨hq1, hq2, hq3, hq4, hq5⟩ := hi
 rw [show qs (xs1, s1) = ta xs1 ys2 s2 from congrArg (tb xs1) hq2] at hR
 have hat2 := br (s := s2) (n := 8)
 refine js O Z (aq O [500] (bin := [bm s2]) Z Z Z Z (pR (s := s2) (n := 8) h1 h2 hq1 (by omega) (by omega) (by omega)) Z Z Z Z Z Z (B0 := 35000) Z Z (av ?_))
 refine jn (af O Z Z (fun hc34 => ?_) (fun hc34 => ?_))
 refine mv O _ [_,_,_,_,_,_,_] [pn [] 0 1, pn [0] 0 1, pn [] 0 0, pn [] 0 0, pe [2,3] 0, pn (rg 0 5) 1 1, pe (rg 0 6) 1] [4,6] 0 [_,_,_] [] Z Z (by decide) (by decide) (by decide) Z (by kernel_rfl) (ai (ai (ai (aH (iq (V O Z) Z Z)) Z) (ai (aH (iq (V O Z) Z Z)) Z)) (ai (ai (ai (ay trivial (.inl (V O Z))) Z) (ai (ay trivial (.inl (V O Z))) Z)) (ai (ai (ay (.inl (V O Z)) (.inl (V O Z))) Z) (ai (ai (ay (.inr (eU O Z Z Z Z Z Z Z Z Z Z Z Z Z (by repeat' (first | exact .nil | refine .skip ?_ | refine .cons Z .row ?_ | refine .cons Z (.box (FMs.keep Z)) ?_)))) (.inr (eU O Z Z Z Z Z Z Z Z Z Z Z Z Z (by repeat' (first | exact .nil | refine .skip ?_ | refine .cons Z .row ?_ | refine .cons Z (.box (FMs.keep Z)) ?_))))) Z) (ai (ai (ay (aH (bE O [500] (bin := [bm (s2.pick 8).2]) Z Z Z Z (rG (s := (s2.pick 8).2) (xs := [1000000000, -1000000000]) h1 h2 hq1.pick (by omega) (by decide) (by decide)) Z Z Z Z Z (B0 := 40000) Z Z Z Z Z Z)) (aH (bE O [500] (bin := [bm (s2.pick 8).2]) Z Z Z Z (rG (s := (s2.pick 8).2) (xs := [1000000000, -1000000000]) h1 h2 hq1.pick (by omega) (by decide) (by decide)) Z Z Z Z Z (B0 := 40000) Z Z Z Z Z Z))) Z) (ai (ai (ay trivial (.inl (dw (c := (0:Int) ≤ 0 ∧ (0:Int) < ((xs1.length:Nat):Int)) (v := .c (.pt 900 0 0)) O Z Z (by omega)))) Z) (ai (ai (ay trivial (aH (cg (ex := [.int .i64 (xs1.getD 0 default)]) (xs' := (xs1.set 0 ([1000000000, -1000000000].getD (((s2.pick 8).2.pick 2).1.toNat) default)).map (fun n : Int => [D.int .i64 n])) O Z Z Z Z Z Z Z Z Z Z Z Z Z Z Z (c5 (by omega)) (by rw [List.map_set]; rfl) Z))) Z) trivial))))))) ?_
 refine jw [34,33,22,21,0,2,3,5] Z (bQ ?_)
 refine ag (js O Z (jo O Z (av ?_)))
 refine jr ?_
 have ho := bp hc34
 rw [show R = (⟨xs1.set 0 ([1000000000, -1000000000].getD (((s2.pick 8).2.pick 2).1.toNat) default), ys2⟩, ((s2.pick 8).2.pick 2).2) from hR.trans (if_pos ho)]
 simp only [List.length_set]
 refine ⟨.inl trivial, _, (ae 900 501 Z Z).trans (ae 901 502 Z Z), _, Z, Z, Z⟩
 refine an (ag (js O Z (jo O Z (av ?_))))
 refine jr ?_
 have ho := ch hc34
 rw [show R = (⟨xs1, ys2⟩, (s2.pick 8).2) from hR.trans (if_neg ho)]
 refine ⟨.inl Z, _, (ae 900 501 Z Z).trans (ae 901 502 Z Z), _, Z, Z, Z⟩
def pk : Nat → Src → List Int → List Int × Src
  | 0, s, vs => (vs, s)
  | k + 1, s, vs => pk k (s.pick 13).2 (vs.set (3 - k) ((s.pick 13).1 - 4))
def lN : Nat → List Tm → Src → List Int → List Int
  | 0, _, _, vs => vs
  | n + 1, ts, s, vs => if gm ts vs = true then vs else lN n ts (pk 4 s vs).2 (pk 4 s vs).1
def mF (ys : List Int) (ts : List Tm) : Sx := ⟨lN 30 ts (kL ⟨ys, 0, 0⟩).2 (kL ⟨ys, 0, 0⟩).1.vars, (kL ⟨ys, 0, 0⟩).1.cells⟩
theorem mT {vs : List Int} {n : Nat} (hl : vs.length = n) (h : ∀ v ∈ vs, ol v = true) : b9 vs n = true := by
 unfold b9
 rw [decide_eq_true (by omega), List.all_eq_true.2 h]; rfl
theorem nR {vs : List Int} {n : Nat} (h : b9 vs n = true) : vs.length = n := by
 unfold b9 at h
 cases hl : decide ((vs.length : Int) = n) with
 | true => have := bp hl; omega
 | false => rw [hl] at h; simp at h
theorem sC {vs : List Int} {n : Nat} (h : b9 vs n = true) : ∀ v ∈ vs, ol v = true := by
 unfold b9 at h
 cases ha : vs.all ol with
 | true => exact List.all_eq_true.1 ha
 | false => rw [ha] at h; simp at h
theorem oI {v : Int} (h : -1000000000 ≤ v ∧ v ≤ 1000000000) : ol v = true := by
 unfold ol; simp; omega
theorem k9 {vs : List Int} {n j : Nat} {v : Int} (h : b9 vs n = true) (hv : -1000000000 ≤ v ∧ v ≤ 1000000000) : b9 (vs.set j v) n = true :=
  mT (by rw [List.length_set]; exact nR h) (fun u hu => by
 rcases List.mem_or_eq_of_mem_set hu with h1 | h1
 exact sC h u h1
 rw [h1]; exact oI hv)
theorem rU {s : Src} (h : s.Ok) : b9 (kL s).1.vars 4 = true ∧ b9 (kL s).1.cells 8 = true ∧ (kL s).2.Ok := by
 have a1 := oC (k := 4) (xs := []) h
 have a2 := oD (k := 4) (xs := []) h (fun n hn => by cases hn)
 have a3 := m3 (k := 4) (s := s) (xs := [])
 have b1 := oC (k := 8) (xs := []) a1
 have b2 := oD (k := 8) (xs := []) a1 (fun n hn => by cases hn)
 have b3 := m3 (k := 8) (s := (kz 4 s []).2) (xs := [])
 unfold kL qs tb
 generalize kz 8 (kz 4 s []).2 [] = c at b1 b2 b3
 generalize kz 4 s [] = v at a1 a2 a3
 have hv : b9 v.1 4 = true := mT (by rw [a3]; rfl) (fun u hu => oI (by have := a2 u hu; omega))
 have hc : b9 c.1 8 = true := mT (by rw [b3]; rfl) (fun u hu => oI (by have := b2 u hu; omega))
 have hp := bP (b1.pick (n := 8)) (n := 2) (by omega)
 unfold ta; split
 refine ⟨k9 hv ?_, hc, b1.pick.pick⟩
 generalize ((c.2.pick 8).2.pick 2).1 = z at hp
 rcases (show z = 0 ∨ z = 1 by omega) with rfl | rfl <;> decide
 exact ⟨hv, hc, b1.pick⟩
theorem uZ {s : Src} : (kL s).2.at_ ≤ s.at_ + 30 := by
 have h1 := oE (k := 4) (s := s) (xs := [])
 have h2 := oE (k := 8) (s := (kz 4 s []).2) (xs := [])
 unfold kL qs tb
 generalize kz 8 (kz 4 s []).2 [] = c at h2
 have h3 := br (s := c.2) (n := 8)
 have h4 := br (s := (c.2.pick 8).2) (n := 2)
 unfold ta; split
 show (((c.2.pick 8).2.pick 2).2).at_ ≤ _; omega
 show ((c.2.pick 8).2).at_ ≤ _; omega
theorem rB : ∀ {k : Nat} {s : Src} {vs : List Int}, s.Ok → b9 vs 4 = true → b9 (pk k s vs).1 4 = true ∧ (pk k s vs).2.Ok
 | 0, s, vs, h, hv => ⟨hv, h⟩
 | k + 1, s, vs, h, hv => by
  have hp := bP h (n := 13) (by omega)
  rw [pk]; exact rB h.pick (k9 hv (by omega))
theorem qa : ∀ {n : Nat} {ts : List Tm} {s : Src} {vs : List Int}, s.Ok → b9 vs 4 = true → b9 (lN n ts s vs) 4 = true
 | 0, ts, s, vs, h, hv => hv
 | n + 1, ts, s, vs, h, hv => by
  rw [lN]; split
  exact hv
  exact qa (rB h hv).2 (rB h hv).1
theorem qi {ys : List Int} {ts : List Tm} (h : ∀ n ∈ ys, 0 ≤ n ∧ n ≤ 255) : s3 (mF ys ts) = true := by
 obtain ⟨a, b, c⟩ := rU (s := ⟨ys, 0, 0⟩) ⟨h⟩
 have := qa (n := 30) (ts := ts) c a
 unfold s3 mF
 simp only [this, b]; rfl
theorem sm {n : Nat} {ts : List Tm} {s : Src} {vs : List Int} (h : n = 0 ∨ gm ts vs = true) : lN n ts s vs = vs := by
 rcases h with rfl | h
 rfl
 cases n with
 | zero => rfl
 | succ n => rw [lN, if_pos h]
theorem sQ {a b : Bool} (h : (bif a then !b else false) = true) : a = true ∧ b = false := by cases a <;> cases b <;> simp_all
theorem tR {n : Nat} {b : Bool} {p : Prop} (h : p ∧ n ≤ 30) (hc : (bif decide ((n : Int) < 30) then !b else false) = false) : 30 - n = 0 ∨ b = true := by
 cases b with
 | true => exact .inr Z
 | false =>
  left
  cases hd : decide ((n : Int) < 30) with
  | true => rw [hd] at hc; cases hc
  | false => have := ch hd; omega
theorem xM (hy : ∀ n ∈ ys, 0 ≤ n ∧ n ≤ 255) (ht : ∀ t ∈ ts, t.term = true) : MQ h1 h2 8 [.c (.d (bys ys)), b0 ts] [] (Plain (wi (mF ys ts))) := by
 refine MC.data (jB 34 h1 h2 Tryz.func8 Z Z Z fun O hF => ?_)
 obtain ⟨R, hR⟩ : ∃ R, R = mF ys ts := ⟨_, rfl⟩
 rw [← hR]
 have hs : (⟨ys, 0, 0⟩ : Src).Ok := ⟨hy⟩
 have ha : (⟨ys, 0, 0⟩ : Src).at_ = 0 := rfl
 refine ag (jl O Z (av ?_))
 refine bf (js O Z (jf [9,4,1] Z (aq O [] (bin := []) Z Z Z Z (ud (xs := ys) h1 h2) Z Z Z Z Z Z (B0 := 11000) Z Z (av ?_))))
 refine js O Z (jf [5,4,1] Z (bf (js O Z (aq O [11000] (bin := [bm ⟨ys, 0, 0⟩]) Z Z Z Z (xE (s := ⟨ys, 0, 0⟩) h1 h2 hs (by omega)) Z Z Z Z Z Z (B0 := 13000) Z Z (av ?_)))))
 obtain ⟨hd1, hd2, hd3⟩ := rU hs
 have hd4 := uZ (s := ⟨ys, 0, 0⟩)
 rw [show mF ys ts = ⟨lN 30 ts (kL ⟨ys, 0, 0⟩).2 (kL ⟨ys, 0, 0⟩).1.vars, (kL ⟨ys, 0, 0⟩).1.cells⟩ from Z] at hR
 obtain ⟨d, hd⟩ : ∃ d, d = kL ⟨ys, 0, 0⟩ := ⟨_, rfl⟩
 rw [← hd] at hd1 hd2 hd3 hd4 hR ⊢
 obtain ⟨C, hC⟩ : ∃ C, C = d.1.cells := ⟨_, rfl⟩
 rw [← hC] at hR ⊢
 refine jf [12,5,4,1] Z (jl O Z (av ?_))
 refine jo O Z (av ?_)
 refine jn (ah (ag (js O Z (jn (aw (aE (X := Nat × Src × List Int) (fun x => ⟨[(1, b0 ts), (4, .c (.pt 4 0 0)), (5, .c (.pt 11000 0 0)), (6, .c (.pt 6 0 0)), (7, eI (x.1 : Nat))], [(4, .box [.d .nils, .d .nils]), (6, .box [.rs 900 0 x.2.2.length, .rs 901 0 C.length]), (900, kr x.2.2), (901, kr C), (11000, bm x.2.1)]⟩) (fun x => x.2.1.Ok ∧ b9 x.2.2 4 = true ∧ lN 30 ts d.2 d.1.vars = lN (30 - x.1) ts x.2.1 x.2.2 ∧ x.1 ≤ 30 ∧ x.2.1.at_ ≤ d.2.at_ + 8 * x.1) (fun x => 30 - x.1) (0, d.2, d.1.vars) (((ae 13001 900 Z Z).trans (ae 13002 901 Z Z)).trans ((au [4,6,900,901,11000] (e' := [(1, _), (4, _), (5, _), (6, _), (7, _)]) Z Z ⟨Z, Z, Z, Z, Z, trivial⟩ Z).trans (Ent.to ⟨Z, Z, Z, Z, Z, trivial⟩ (by rw [hC]; rfl)))) ?_ (fun x hi => ?_)))))))
 exact ⟨hd3, hd1, Z, dm _, cz _⟩
 refine ah (ag (j3 O Z Z Z (jf [15,1,4,5,6,7] Z (ax 3 Z Z Z (fun hx => ab hx Z Z Z (V O Z) Z Z ( bv O hx Z Z Z Z (xD (ts := ts) (vars := x.2.2) (cells := C) h1 h2 ht hi.2.1) (.cons (.c .d) (.cons (.c (.pb Z (.cons (.whole Z (cY _).symm) (.cons (.whole Z (cY _).symm) .nil)))) .nil)) Z Z Z Z Z Z Z (B0 := 18000) Z ( ab hx Z Z Z (V O Z) Z Z ( AN.nil)))) Z Z ?_))))
 first | refine aa (ao O Z Z Z Z Z) Z Z Z ?_ | refine aa (aQ O Z Z Z Z Z) Z Z Z ?_ | refine aa (Val.pickB O Z Z Z Z Z) Z Z Z ?_
 refine jf [19,1,4,5,6,7] Z (jn (af O Z Z (fun hc19 => ?_) (fun hc19 => ?_)))
 refine an (ah (aw (ag (js O Z (jn (aw ?_))))))
 have hi0 := hi
 refine aE (X := Nat × Src × List Int) (fun y => ⟨[(1, b0 ts), (4, .c (.pt 4 0 0)), (5, .c (.pt 11000 0 0)), (6, .c (.pt 6 0 0)), (7, eI (x.1 : Nat)), (8, eI (y.1 : Nat))], [(4, .box [.d .nils, .d .nils]), (6, .box [.rs 900 0 y.2.2.length, .rs 901 0 C.length]), (900, kr y.2.2), (901, kr C), (11000, bm y.2.1)]⟩) (fun y => y.2.1.Ok ∧ b9 y.2.2 4 = true ∧ pk 4 x.2.1 x.2.2 = pk (4 - y.1) y.2.1 y.2.2 ∧ y.1 ≤ 4 ∧ y.2.1.at_ ≤ x.2.1.at_ + 2 * y.1) (fun y => 4 - y.1) (0, x.2.1, x.2.2) ((au [4,6,900,901,11000] (e' := [(1, _), (4, _), (5, _), (6, _), (7, _), (8, _)]) Z Z ⟨Z, Z, Z, Z, Z, Z, trivial⟩ Z).trans (Ent.to ⟨Z, Z, Z, Z, Z, Z, trivial⟩ Z)) ?_ (fun y hi => ?_)
 exact ⟨hi.1, hi.2.1, Z, dm _, cz _⟩
 refine ah (ag (j2 O Z Z (jn (af O Z Z (fun hc23 => ?_) (fun hc23 => ?_)))))
 refine an (ah (aw ?_))
 have hk := bp hc23
 have hvl : y.2.2.length = 4 := nR (n := 4) hi.2.1
 have hp := bP hi.1 (n := 13) (by omega)
 have hat := br (s := y.2.1) (n := 13)
 refine gv O [_,_,_,_,_,_,_,_] [pn [] 0 1, pn [0] 0 1, pn [] 0 1, pn [] 0 0, pe [3] 0, pn [3,4] 1 1, pn (rg 0 6) 1 1, pe (rg 0 7) 1] [4,7] [_,_,_] (ai (kc O Z (V O Z)) (ai (kc O Z (V O Z)) (ai (kc O Z (V O Z)) (kc O Z (ai (bE O [11000] (bin := [bm y.2.1]) Z Z Z Z (dJ (s := y.2.1) (n := 13) h1 h2 hi.1 (by omega) (by omega) (by omega)) Z Z Z Z Z (B0 := 31000) Z Z Z Z Z Z) (ai (aN O Z Z (by omega) (by omega)) (ai (dw (c := (0:Int) ≤ (y.1:Nat) ∧ ((y.1:Nat):Int) < ((y.2.2.length:Nat):Int)) (v := .c (.pt 900 (0 + y.1) 0)) O Z Z (by omega)) (ai (cg (ex := [.int .i64 (y.2.2.getD y.1 default)]) (xs' := (y.2.2.set y.1 ((y.2.1.pick 13).1 - 4)).map (fun n : Int => [D.int .i64 n])) O Z Z Z Z Z Z Z Z Z Z Z Z Z Z Z (rn (by omega)) (by rw [Nat.zero_add, List.map_set]; rfl) Z) trivial)))))))) ?_
 refine jw [23,22,1,4,5,6,7,8] Z (bQ ?_)
 refine am (js O Z ?_)
 first | refine ji O Z ?_ | refine dI O Z Z ?_
 refine js O Z (jf [8,23,22,1,4,5,6,7] Z (jn ?_))
 refine ⟨(y.1 + 1, (y.2.1.pick 13).2, y.2.2.set y.1 ((y.2.1.pick 13).1 - 4)), (au [4,6,900,901,11000] (e' := [(1, _), (4, _), (5, _), (6, _), (7, _), (8, _)]) Z Z ⟨Z, Z, Z, Z, Z, Z, trivial⟩ Z).trans (Ent.to ⟨Z, Z, Z, Z, Z, ?_, trivial⟩ ?_), ⟨hi.1.pick, k9 hi.2.1 (by omega), ?_, by simp only; omega, by simp only; omega⟩, by simp only; omega⟩
 exact congrArg (fun z => some (eI z)) (by simp only; omega)
 simp only [List.length_set]; rfl
 rw [hi.2.2.1, show 4 - y.1 = (4 - (y.1 + 1)) + 1 by omega, pk, show 3 - (4 - (y.1 + 1)) = y.1 by omega]
 refine bt (am ?_)
 have hk := ch hc23
 obtain ⟨hk1, hk2⟩ := sQ hc19
 have hk3 := bp hk1
 refine js O Z ?_
 first | refine ji O Z ?_ | refine dI O Z Z ?_
 refine js O Z (jf [7,23,22,1,4,5,6,8] Z (jn ?_))
 obtain ⟨j, s1, v1⟩ := y
 simp only at hi hk
 obtain rfl : j = 4 := by omega
 obtain ⟨hi1, hi2, hi3, hi4, hi5⟩ := hi
 refine ⟨(x.1 + 1, s1, v1), (au [4,6,900,901,11000] (e' := [(1, _), (4, _), (5, _), (6, _), (7, _)]) Z Z ⟨Z, Z, Z, Z, Z, trivial⟩ Z).trans (Ent.to ⟨Z, Z, Z, Z, ?_, trivial⟩ Z), ⟨hi1, hi2, ?_, by simp only; omega, by simp only; omega⟩, by simp only; omega⟩
 exact congrArg (fun z => some (eI z)) (by simp only; omega)
 rw [hi0.2.2.1, show 30 - x.1 = (30 - (x.1 + 1)) + 1 by omega, lN, if_neg (by rw [hk2]; decide), show pk 4 x.2.1 x.2.2 = (v1, s1) from hi3]
 refine bt (ag (js O Z (jo O Z (av ?_))))
 refine jr ?_
 refine ⟨.inl Z, _, ar, _, Z, ?_⟩
 have hx := sm (s := x.2.1) (tR (p := True) ⟨trivial, hi.2.2.2.1⟩ hc19)
 rw [show R = ⟨x.2.2, C⟩ from hR.trans (by rw [hi.2.2.1, hx])]
 exact .v (.agg (.cons (.whole Z (cY _).symm) (.cons (.whole Z (cY _).symm) .nil)))
end Go.Al
