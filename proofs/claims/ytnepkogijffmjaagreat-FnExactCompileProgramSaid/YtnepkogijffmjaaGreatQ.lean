/- The reference's compiler; CompileProgram of both sides. -/
import Derived.Test.YtnepkogijffmjaaGreatP
namespace Go.Al
open Go.Proofs
set_option linter.unusedVariables false
set_option linter.unusedSimpArgs false
set_option maxRecDepth 10000
set_option maxHeartbeats 4000000
theorem c1095_0 {L : Nat} (h1 : 4096 ≤ L) (h2 : L ≤ 1073741824) {b : List Sm} {n : Nat} {s : Sm} {k : Nat} {c : Cs} (hkb : k < b.length) (hbs : b.getD k default = s) (hkn : k < n) (hn2 : n ≤ 1000) (hs : s.sum.term = true ∧ s.index.term = true) (hk : below s.kind = 0) (hi0 : CsIn n (1) c) : MC Tryz.prog L 86 [.c (.pt 0 0 0), eI (k : Nat)] (mkH b n c) (Outs (eI (k + 1 : Nat)) (mkH6 b n (cmp (.node s ((k : Nat) : Int) []) c))) := by
 refine MC.shift 500 rfl ?_
 have hσ := SgOk.withIns (js := [500, 501, 502, 503, 504]) (SGok (nt := 189) h1 (Nat.le_trans h2 (by decide)))
 refine MC.bodyH hσ Tryz.func86 (by kernel_rfl) rfl rfl rfl (Nat.le_of_ble_eq_true rfl) (fun hF => ?_)
 refine jnw ?_
 have hS := tcode_len hs.1
 have hX := tcode_len hs.2
 have hcl := hi0.code
 have hf0 := hi0.fr
 have ht0 := hi0.to
 have hk1 : ∀ k : Int, s.kind = k → below k = 0 := fun k e => e ▸ hk
 refine jsr ?_
 refine jst hσ rfl rfl rfl rfl rfl ?_
 refine jns ?_
 iterate 5 refine jst hσ rfl rfl rfl rfl rfl ?_
 refine AOps.step ((Val.indexN hσ rfl rfl rfl rfl rfl rfl rfl rfl (idxN hkb)).cast (v' := ptr (Sm.cells s)) (by rw [hbs])) rfl rfl rfl ?_
 refine jst hσ rfl rfl rfl rfl rfl ?_
 refine jf [5, 4, 0, 1] rfl ?_
 refine jn ?_
 refine AWP.seq ?_
 refine AWP.drawR hσ _ [_, _, _, _, _, _, _, _, _] [⟨[], 0, 1, none⟩, ⟨[0], 0, 1, none⟩, ⟨[0, 1], 0, 1, none⟩, ⟨[0, 1, 2], 0, 1, none⟩, ⟨[], 0, 1, none⟩, ⟨[], 0, 0, none⟩, ⟨[5], 0, 0, some 0⟩, ⟨[0, 1, 2, 3, 4, 5, 6], 1, 1, none⟩, ⟨[0, 1, 2, 3, 4, 5, 6, 7], 0, 0, some 1⟩] [6, 8] [_, _, _] rfl rfl (by decide) (by decide) (by kernel_rfl) (And.intro (And.intro (Val.of hσ rfl rfl) (Val.of hσ rfl rfl)) (And.intro (And.intro (Val.of hσ rfl rfl) (Val.of hσ rfl rfl)) (And.intro (And.intro (Val.of hσ rfl rfl) (Val.of hσ rfl rfl)) (And.intro (And.intro (Val.of hσ rfl rfl) (Val.of hσ rfl rfl)) (And.intro (And.intro (Val.of hσ rfl rfl) (Val.of hσ rfl rfl)) (And.intro (Val.of hσ rfl rfl) (And.intro (Eff.lone hσ (B0 := 24000) rfl rfl rfl rfl (c1102 (b := b) (c := c) h1 h2) (.cons (.c (.pb rfl (.cons .d (.cons (.whole rfl (List.length_map _).symm) (.cons (.whole rfl (by rw [List.length_map]; exact hf0.symm)) (.cons (.whole rfl (by rw [List.length_map]; exact ht0.symm)) (.cons (.whole rfl (List.length_map _).symm) .nil))))))) .nil) rfl rfl rfl rfl rfl) (And.intro (Val.vif hσ rfl rfl (by first | omega | (simp at *; omega))) (And.intro (Eff.storeRow (ex := [.int .i64 (c.fr.getD k default)]) (xs' := ((c.beg ((k : Nat) : Int)).fr).map (fun n => [D.int .i64 n])) hσ rfl rfl rfl rfl rfl rfl rfl rfl rfl rfl rfl rfl rfl rfl rfl (gj (f := (fun n => [D.int .i64 n])) (by omega) (by omega)) (sj (v := (c.code.length : Int)) (by omega) rfl) rfl) trivial))))))))) ?_
 refine jw [5, 4, 0, 1] rfl ?_
 refine jnw ?_
 refine jsr ?_
 refine jst hσ rfl rfl rfl rfl rfl ?_
 refine AOps.step ((Val.fits64 hσ rfl rfl (by first | omega | (simp at *; omega)) (by first | omega | (simp at *; omega))).cast (v' := eI ((k + 1 : Nat) : Int)) (congrArg eI (by omega))) rfl rfl rfl ?_
 refine jst hσ rfl rfl rfl rfl rfl ?_
 refine jf [6, 5, 4, 0, 1] rfl ?_
 refine jn ?_
 refine AWP.seq ?_
 refine jsr ?_
 iterate 4 refine jst hσ rfl rfl rfl rfl rfl ?_
 refine jf [30, 6, 5, 4, 0, 1] rfl ?_
 refine jn ?_
 obtain ⟨d, ed⟩ : ∃ d, d = leafC s (c.beg ((k : Nat) : Int)) := ⟨_, rfl⟩
 have hd : CsLe 1 c d := by rw [ed]; exact le_leaf0 hs
 have hdf : d.fr.length = n := hd.fr.trans hf0
 have hdt : d.to.length = n := hd.to.trans ht0
 refine AWP.mid ⟨[(0, .c (.pt 500 0 0)), (1, eI (k : Nat)), (6, eI (k + 1 : Nat))], [(500, .box [.d (sms b), .rs 901 0 d.code.length, .rs 503 0 n, .rs 504 0 n, .rs 902 0 d.pts.length]), (503, nrow d.fr), (504, nrow d.to), (901, irow d.code), (902, prow d.pts)]⟩ ?_ ?_
 ·
  skip
  refine AWP.block ?_
  refine jsr ?_
  iterate 2 refine jst hσ rfl rfl rfl rfl rfl ?_
  refine jn ?_
  refine AWP.cond hσ rfl rfl (fun hc31 => ?_) (fun hc31 => ?_)
  ·
   skip
   exact absurd (hk1 1 (of_decide_eq_true hc31)) (by decide)
  ·
   skip
   refine jsr ?_
   iterate 2 refine jst hσ rfl rfl rfl rfl rfl ?_
   refine jf [38, 32, 30, 6, 5, 4, 0, 1] rfl ?_
   refine jn ?_
   refine AWP.cond hσ rfl rfl (fun hc38 => ?_) (fun hc38 => ?_)
   ·
    skip
    refine jsr ?_
    iterate 4 refine jst hσ rfl rfl rfl rfl rfl ?_
    refine jf [43, 40, 32, 30, 6, 5, 4, 0, 1] rfl ?_
    refine AOps.inn hσ [500, 501, 502, 503, 504] (bin := [mkB b n 1 2 (c.beg ((k : Nat) : Int)), irow ((c.beg ((k : Nat) : Int))).code, prow ((c.beg ((k : Nat) : Int))).pts, nrow ((c.beg ((k : Nat) : Int))).fr, nrow ((c.beg ((k : Nat) : Int))).to]) rfl rfl rfl rfl (c1103 (b := b) (n := n) (c := (c.beg ((k : Nat) : Int))) (t := s.sum) (ds := Sm.cells s) (j := 3) h1 h2 rfl (term_xs hs.1) (by simp only [Cs.emit, Cs.term, Cs.beg, Cs.arg, Cs.point, List.length_append, List.length_singleton, List.length_set]; omega)) rfl rfl rfl rfl rfl rfl (B0 := 45000) rfl rfl ?_
    refine jnm ?_
    refine jf [32, 30, 6, 5, 4, 0, 1] rfl ?_
    refine jn ?_
    refine AWP.region ?_
    iterate 5 refine jst hσ rfl rfl rfl rfl rfl ?_
    refine jf [49, 45, 32, 30, 6, 5, 4, 0, 1] rfl ?_
    refine AOps.inn hσ [500, 45005, 502, 503, 504] (bin := [mkB b n 1 2 ((c.beg ((k : Nat) : Int)).term s.sum), irow (((c.beg ((k : Nat) : Int)).term s.sum)).code, prow (((c.beg ((k : Nat) : Int)).term s.sum)).pts, nrow (((c.beg ((k : Nat) : Int)).term s.sum)).fr, nrow (((c.beg ((k : Nat) : Int)).term s.sum)).to]) rfl rfl rfl rfl (c1096 (b := b) (n := n) (c := ((c.beg ((k : Nat) : Int)).term s.sum)) (op := 2) (a := s.var) h1 h2 (by simp only [Cs.emit, Cs.term, Cs.beg, Cs.arg, Cs.point, List.length_append, List.length_singleton, List.length_set]; omega)) rfl rfl rfl rfl rfl rfl (B0 := 51000) rfl rfl ?_
    refine jnm ?_
    refine jf [32, 30, 6, 5, 4, 0, 1] rfl ?_
    refine jn ?_
    rw [ed, leafC, if_pos (of_decide_eq_true hc38)]
    exact ⟨rfl, (((Ent.sel [500, 503, 504, 51005, 502] (e' := [(0, _), (1, _), (6, _)]) rfl rfl ⟨rfl, rfl, rfl, trivial⟩ rfl).trans (Ent.sub2 51005 901 rfl rfl)).trans (Ent.sub2 502 902 rfl rfl)).trans (Ent.to ⟨rfl, rfl, rfl, trivial⟩ rfl)⟩
   ·
    skip
    refine jsr ?_
    iterate 2 refine jst hσ rfl rfl rfl rfl rfl ?_
    refine jf [51, 32, 30, 6, 5, 4, 0, 1] rfl ?_
    refine jn ?_
    refine AWP.cond hσ rfl rfl (fun hc51 => ?_) (fun hc51 => ?_)
    ·
     skip
     refine jsr ?_
     iterate 4 refine jst hσ rfl rfl rfl rfl rfl ?_
     refine jf [56, 53, 32, 30, 6, 5, 4, 0, 1] rfl ?_
     refine AOps.inn hσ [500, 501, 502, 503, 504] (bin := [mkB b n 1 2 (c.beg ((k : Nat) : Int)), irow ((c.beg ((k : Nat) : Int))).code, prow ((c.beg ((k : Nat) : Int))).pts, nrow ((c.beg ((k : Nat) : Int))).fr, nrow ((c.beg ((k : Nat) : Int))).to]) rfl rfl rfl rfl (c1103 (b := b) (n := n) (c := (c.beg ((k : Nat) : Int))) (t := s.index) (ds := Sm.cells s) (j := 5) h1 h2 rfl (term_xs hs.2) (by simp only [Cs.emit, Cs.term, Cs.beg, Cs.arg, Cs.point, List.length_append, List.length_singleton, List.length_set]; omega)) rfl rfl rfl rfl rfl rfl (B0 := 58000) rfl rfl ?_
     refine jnm ?_
     refine jf [32, 30, 6, 5, 4, 0, 1] rfl ?_
     refine jns ?_
     refine jst hσ rfl rfl rfl rfl rfl ?_
     refine AOps.inn hσ [500, 58005, 502, 503, 504] (bin := [mkB b n 1 2 ((c.beg ((k : Nat) : Int)).term s.index), irow (((c.beg ((k : Nat) : Int)).term s.index)).code, prow (((c.beg ((k : Nat) : Int)).term s.index)).pts, nrow (((c.beg ((k : Nat) : Int)).term s.index)).fr, nrow (((c.beg ((k : Nat) : Int)).term s.index)).to]) rfl rfl rfl rfl (c1096 (b := b) (n := n) (c := ((c.beg ((k : Nat) : Int)).term s.index)) (op := 7) (a := 0) h1 h2 (by simp only [Cs.emit, Cs.term, Cs.beg, Cs.arg, Cs.point, List.length_append, List.length_singleton, List.length_set]; omega)) rfl rfl rfl rfl rfl rfl (B0 := 60000) rfl rfl ?_
     refine jnm ?_
     refine jf [32, 30, 6, 5, 4, 0, 1] rfl ?_
     refine jn ?_
     refine AWP.region ?_
     iterate 5 refine jst hσ rfl rfl rfl rfl rfl ?_
     refine jf [64, 60, 32, 30, 6, 5, 4, 0, 1] rfl ?_
     refine AOps.inn hσ [500, 60005, 502, 503, 504] (bin := [mkB b n 1 2 (((c.beg ((k : Nat) : Int)).term s.index).emit 7 0), irow ((((c.beg ((k : Nat) : Int)).term s.index).emit 7 0)).code, prow ((((c.beg ((k : Nat) : Int)).term s.index).emit 7 0)).pts, nrow ((((c.beg ((k : Nat) : Int)).term s.index).emit 7 0)).fr, nrow ((((c.beg ((k : Nat) : Int)).term s.index).emit 7 0)).to]) rfl rfl rfl rfl (c1096 (b := b) (n := n) (c := (((c.beg ((k : Nat) : Int)).term s.index).emit 7 0)) (op := 2) (a := s.var) h1 h2 (by simp only [Cs.emit, Cs.term, Cs.beg, Cs.arg, Cs.point, List.length_append, List.length_singleton, List.length_set]; omega)) rfl rfl rfl rfl rfl rfl (B0 := 66000) rfl rfl ?_
     refine jnm ?_
     refine jf [32, 30, 6, 5, 4, 0, 1] rfl ?_
     refine jn ?_
     rw [ed, leafC, if_neg (of_decide_eq_false hc38), if_pos (of_decide_eq_true hc51)]
     exact ⟨rfl, (((Ent.sel [500, 503, 504, 66005, 502] (e' := [(0, _), (1, _), (6, _)]) rfl rfl ⟨rfl, rfl, rfl, trivial⟩ rfl).trans (Ent.sub2 66005 901 rfl rfl)).trans (Ent.sub2 502 902 rfl rfl)).trans (Ent.to ⟨rfl, rfl, rfl, trivial⟩ rfl)⟩
    ·
     skip
     refine jsr ?_
     iterate 2 refine jst hσ rfl rfl rfl rfl rfl ?_
     refine jf [66, 32, 30, 6, 5, 4, 0, 1] rfl ?_
     refine jn ?_
     refine AWP.cond hσ rfl rfl (fun hc66 => ?_) (fun hc66 => ?_)
     ·
      skip
      refine jsr ?_
      iterate 4 refine jst hσ rfl rfl rfl rfl rfl ?_
      refine jf [71, 68, 32, 30, 6, 5, 4, 0, 1] rfl ?_
      refine AOps.inn hσ [500, 501, 502, 503, 504] (bin := [mkB b n 1 2 (c.beg ((k : Nat) : Int)), irow ((c.beg ((k : Nat) : Int))).code, prow ((c.beg ((k : Nat) : Int))).pts, nrow ((c.beg ((k : Nat) : Int))).fr, nrow ((c.beg ((k : Nat) : Int))).to]) rfl rfl rfl rfl (c1103 (b := b) (n := n) (c := (c.beg ((k : Nat) : Int))) (t := s.index) (ds := Sm.cells s) (j := 5) h1 h2 rfl (term_xs hs.2) (by simp only [Cs.emit, Cs.term, Cs.beg, Cs.arg, Cs.point, List.length_append, List.length_singleton, List.length_set]; omega)) rfl rfl rfl rfl rfl rfl (B0 := 73000) rfl rfl ?_
      refine jnm ?_
      refine jf [32, 30, 6, 5, 4, 0, 1] rfl ?_
      refine jns ?_
      iterate 4 refine jst hσ rfl rfl rfl rfl rfl ?_
      refine jf [76, 73, 32, 30, 6, 5, 4, 0, 1] rfl ?_
      refine AOps.inn hσ [500, 73005, 502, 503, 504] (bin := [mkB b n 1 2 ((c.beg ((k : Nat) : Int)).term s.index), irow (((c.beg ((k : Nat) : Int)).term s.index)).code, prow (((c.beg ((k : Nat) : Int)).term s.index)).pts, nrow (((c.beg ((k : Nat) : Int)).term s.index)).fr, nrow (((c.beg ((k : Nat) : Int)).term s.index)).to]) rfl rfl rfl rfl (c1103 (b := b) (n := n) (c := ((c.beg ((k : Nat) : Int)).term s.index)) (t := s.sum) (ds := Sm.cells s) (j := 3) h1 h2 rfl (term_xs hs.1) (by simp only [Cs.emit, Cs.term, Cs.beg, Cs.arg, Cs.point, List.length_append, List.length_singleton, List.length_set]; omega)) rfl rfl rfl rfl rfl rfl (B0 := 78000) rfl rfl ?_
      refine jnm ?_
      refine jf [32, 30, 6, 5, 4, 0, 1] rfl ?_
      refine jn ?_
      refine AWP.region ?_
      refine jst hσ rfl rfl rfl rfl rfl ?_
      refine AOps.inn hσ [500, 78005, 502, 503, 504] (bin := [mkB b n 1 2 (((c.beg ((k : Nat) : Int)).term s.index).term s.sum), irow ((((c.beg ((k : Nat) : Int)).term s.index).term s.sum)).code, prow ((((c.beg ((k : Nat) : Int)).term s.index).term s.sum)).pts, nrow ((((c.beg ((k : Nat) : Int)).term s.index).term s.sum)).fr, nrow ((((c.beg ((k : Nat) : Int)).term s.index).term s.sum)).to]) rfl rfl rfl rfl (c1096 (b := b) (n := n) (c := (((c.beg ((k : Nat) : Int)).term s.index).term s.sum)) (op := 8) (a := 0) h1 h2 (by simp only [Cs.emit, Cs.term, Cs.beg, Cs.arg, Cs.point, List.length_append, List.length_singleton, List.length_set]; omega)) rfl rfl rfl rfl rfl rfl (B0 := 80000) rfl rfl ?_
      refine jnm ?_
      refine jf [32, 30, 6, 5, 4, 0, 1] rfl ?_
      refine jn ?_
      rw [ed, leafC, if_neg (of_decide_eq_false hc38), if_neg (of_decide_eq_false hc51), if_pos (of_decide_eq_true hc66)]
      exact ⟨rfl, (((Ent.sel [500, 503, 504, 80005, 502] (e' := [(0, _), (1, _), (6, _)]) rfl rfl ⟨rfl, rfl, rfl, trivial⟩ rfl).trans (Ent.sub2 80005 901 rfl rfl)).trans (Ent.sub2 502 902 rfl rfl)).trans (Ent.to ⟨rfl, rfl, rfl, trivial⟩ rfl)⟩
     ·
      skip
      refine jsr ?_
      iterate 2 refine jst hσ rfl rfl rfl rfl rfl ?_
      refine jf [80, 32, 30, 6, 5, 4, 0, 1] rfl ?_
      refine jn ?_
      refine AWP.cond hσ rfl rfl (fun hc80 => ?_) (fun hc80 => ?_)
      ·
       skip
       refine AWP.region ?_
       iterate 5 refine jst hσ rfl rfl rfl rfl rfl ?_
       refine jf [86, 82, 32, 30, 6, 5, 4, 0, 1] rfl ?_
       refine AOps.inn hσ [500, 501, 502, 503, 504] (bin := [mkB b n 1 2 (c.beg ((k : Nat) : Int)), irow ((c.beg ((k : Nat) : Int))).code, prow ((c.beg ((k : Nat) : Int))).pts, nrow ((c.beg ((k : Nat) : Int))).fr, nrow ((c.beg ((k : Nat) : Int))).to]) rfl rfl rfl rfl (c1096 (b := b) (n := n) (c := (c.beg ((k : Nat) : Int))) (op := 9) (a := s.event) h1 h2 (by simp only [Cs.emit, Cs.term, Cs.beg, Cs.arg, Cs.point, List.length_append, List.length_singleton, List.length_set]; omega)) rfl rfl rfl rfl rfl rfl (B0 := 88000) rfl rfl ?_
       refine jnm ?_
       refine jf [32, 30, 6, 5, 4, 0, 1] rfl ?_
       refine jn ?_
       rw [ed, leafC, if_neg (of_decide_eq_false hc38), if_neg (of_decide_eq_false hc51), if_neg (of_decide_eq_false hc66), if_pos (of_decide_eq_true hc80)]
       exact ⟨rfl, (((Ent.sel [500, 503, 504, 88005, 502] (e' := [(0, _), (1, _), (6, _)]) rfl rfl ⟨rfl, rfl, rfl, trivial⟩ rfl).trans (Ent.sub2 88005 901 rfl rfl)).trans (Ent.sub2 502 902 rfl rfl)).trans (Ent.to ⟨rfl, rfl, rfl, trivial⟩ rfl)⟩
      ·
       skip
       refine jsr ?_
       iterate 2 refine jst hσ rfl rfl rfl rfl rfl ?_
       refine jf [88, 32, 30, 6, 5, 4, 0, 1] rfl ?_
       refine jn ?_
       refine AWP.cond hσ rfl rfl (fun hc88 => ?_) (fun hc88 => ?_)
       ·
        skip
        refine jsr ?_
        iterate 4 refine jst hσ rfl rfl rfl rfl rfl ?_
        refine jf [93, 90, 32, 30, 6, 5, 4, 0, 1] rfl ?_
        refine AOps.inn hσ [500, 501, 502, 503, 504] (bin := [mkB b n 1 2 (c.beg ((k : Nat) : Int)), irow ((c.beg ((k : Nat) : Int))).code, prow ((c.beg ((k : Nat) : Int))).pts, nrow ((c.beg ((k : Nat) : Int))).fr, nrow ((c.beg ((k : Nat) : Int))).to]) rfl rfl rfl rfl (c1103 (b := b) (n := n) (c := (c.beg ((k : Nat) : Int))) (t := s.sum) (ds := Sm.cells s) (j := 3) h1 h2 rfl (term_xs hs.1) (by simp only [Cs.emit, Cs.term, Cs.beg, Cs.arg, Cs.point, List.length_append, List.length_singleton, List.length_set]; omega)) rfl rfl rfl rfl rfl rfl (B0 := 95000) rfl rfl ?_
        refine jnm ?_
        refine jf [32, 30, 6, 5, 4, 0, 1] rfl ?_
        refine jn ?_
        refine AWP.region ?_
        refine jst hσ rfl rfl rfl rfl rfl ?_
        refine AOps.inn hσ [500, 95005, 502, 503, 504] (bin := [mkB b n 1 2 ((c.beg ((k : Nat) : Int)).term s.sum), irow (((c.beg ((k : Nat) : Int)).term s.sum)).code, prow (((c.beg ((k : Nat) : Int)).term s.sum)).pts, nrow (((c.beg ((k : Nat) : Int)).term s.sum)).fr, nrow (((c.beg ((k : Nat) : Int)).term s.sum)).to]) rfl rfl rfl rfl (c1096 (b := b) (n := n) (c := ((c.beg ((k : Nat) : Int)).term s.sum)) (op := 10) (a := 0) h1 h2 (by simp only [Cs.emit, Cs.term, Cs.beg, Cs.arg, Cs.point, List.length_append, List.length_singleton, List.length_set]; omega)) rfl rfl rfl rfl rfl rfl (B0 := 97000) rfl rfl ?_
        refine jnm ?_
        refine jf [32, 30, 6, 5, 4, 0, 1] rfl ?_
        refine jn ?_
        rw [ed, leafC, if_neg (of_decide_eq_false hc38), if_neg (of_decide_eq_false hc51), if_neg (of_decide_eq_false hc66), if_neg (of_decide_eq_false hc80), if_pos (of_decide_eq_true hc88)]
        exact ⟨rfl, (((Ent.sel [500, 503, 504, 97005, 502] (e' := [(0, _), (1, _), (6, _)]) rfl rfl ⟨rfl, rfl, rfl, trivial⟩ rfl).trans (Ent.sub2 97005 901 rfl rfl)).trans (Ent.sub2 502 902 rfl rfl)).trans (Ent.to ⟨rfl, rfl, rfl, trivial⟩ rfl)⟩
       ·
        skip
        refine jsr ?_
        iterate 2 refine jst hσ rfl rfl rfl rfl rfl ?_
        refine jf [97, 32, 30, 6, 5, 4, 0, 1] rfl ?_
        refine jn ?_
        refine AWP.cond hσ rfl rfl (fun hc97 => ?_) (fun hc97 => ?_)
        ·
         skip
         exact absurd (hk1 7 (of_decide_eq_true hc97)) (by decide)
        ·
         skip
         refine jsr ?_
         iterate 2 refine jst hσ rfl rfl rfl rfl rfl ?_
         refine jf [136, 32, 30, 6, 5, 4, 0, 1] rfl ?_
         refine jn ?_
         refine AWP.cond hσ rfl rfl (fun hc136 => ?_) (fun hc136 => ?_)
         ·
          skip
          exact absurd (hk1 8 (of_decide_eq_true hc136)) (by decide)
         ·
          skip
          refine AWP.skip ?_
          rw [ed, leafC, if_neg (of_decide_eq_false hc38), if_neg (of_decide_eq_false hc51), if_neg (of_decide_eq_false hc66), if_neg (of_decide_eq_false hc80), if_neg (of_decide_eq_false hc88)]
          exact ⟨rfl, (((Ent.sel [500, 503, 504, 501, 502] (e' := [(0, _), (1, _), (6, _)]) rfl rfl ⟨rfl, rfl, rfl, trivial⟩ rfl).trans (Ent.sub2 501 901 rfl rfl)).trans (Ent.sub2 502 902 rfl rfl)).trans (Ent.to ⟨rfl, rfl, rfl, trivial⟩ rfl)⟩
 refine AWP.seq ?_
 refine AWP.drawR hσ _ [_, _, _, _, _, _, _, _, _] [⟨[], 0, 1, none⟩, ⟨[0], 0, 1, none⟩, ⟨[0, 1], 0, 1, none⟩, ⟨[0, 1, 2], 0, 1, none⟩, ⟨[], 0, 1, none⟩, ⟨[], 0, 0, none⟩, ⟨[5], 0, 0, some 0⟩, ⟨[0, 1, 2, 3, 4, 5, 6], 1, 1, none⟩, ⟨[0, 1, 2, 3, 4, 5, 6, 7], 0, 0, some 1⟩] [6, 8] [_, _, _] rfl rfl (by decide) (by decide) (by kernel_rfl) (And.intro (And.intro (Val.of hσ rfl rfl) (Val.of hσ rfl rfl)) (And.intro (And.intro (Val.of hσ rfl rfl) (Val.of hσ rfl rfl)) (And.intro (And.intro (Val.of hσ rfl rfl) (Val.of hσ rfl rfl)) (And.intro (And.intro (Val.of hσ rfl rfl) (Val.of hσ rfl rfl)) (And.intro (And.intro (Val.of hσ rfl rfl) (Val.of hσ rfl rfl)) (And.intro (Val.of hσ rfl rfl) (And.intro (Eff.lone hσ (B0 := 187000) rfl rfl rfl rfl (c1102 (b := b) (c := d) h1 h2) (.cons (.c (.pb rfl (.cons .d (.cons (.whole rfl (List.length_map _).symm) (.cons (.whole rfl (by rw [List.length_map]; exact hdf.symm)) (.cons (.whole rfl (by rw [List.length_map]; exact hdt.symm)) (.cons (.whole rfl (List.length_map _).symm) .nil))))))) .nil) rfl rfl rfl rfl rfl) (And.intro (Val.vif hσ rfl rfl (by first | omega | (simp at *; omega))) (And.intro (Eff.storeRow (ex := [.int .i64 (d.to.getD k default)]) (xs' := ((d.fin ((k : Nat) : Int)).to).map (fun n => [D.int .i64 n])) hσ rfl rfl rfl rfl rfl rfl rfl rfl rfl rfl rfl rfl rfl rfl rfl (gj (f := (fun n => [D.int .i64 n])) (by omega) (by omega)) (sj (v := (d.code.length : Int)) (by omega) rfl) rfl) trivial))))))))) ?_
 refine jsr ?_
 iterate 2 refine jst hσ rfl rfl rfl rfl rfl ?_
 refine jn ?_
 refine AWP.ret ?_
 rw [cmp_nil, ← ed]
 refine ⟨.inl rfl, _, ((Ent.sel [500, 503, 504, 901, 902] (e' := [(4, _)]) rfl rfl ⟨rfl, trivial⟩ rfl).trans (Ent.sub2 901 505 rfl rfl)).trans (Ent.sub2 902 506 rfl rfl), _, rfl, rfl, rfl⟩
theorem c1095_2 {L : Nat} (h1 : 4096 ≤ L) (h2 : L ≤ 1073741824) {b : List Sm} {n : Nat} {x y : Tr} {k1 k2 : Nat} {s : Sm} {k : Nat} {c : Cs} (hkb : k < b.length) (hbs : b.getD k default = s) (hkn : k < n) (hn2 : n ≤ 1000) (hs : s.sum.term = true ∧ s.index.term = true) (ihx : ∀ c, CsIn n x.nodes c → MC Tryz.prog L 86 [.c (.pt 0 0 0), eI (k + 1 : Nat)] (mkH b n c) (Outs (eI (k1 : Nat)) (mkH6 b n (cmp x c)))) (hlx : ∀ c, CsLe x.nodes c (cmp x c)) (ihy : ∀ c, CsIn n y.nodes c → MC Tryz.prog L 86 [.c (.pt 0 0 0), eI (k1 : Nat)] (mkH b n c) (Outs (eI (k2 : Nat)) (mkH6 b n (cmp y c)))) (hly : ∀ c, CsLe y.nodes c (cmp y c)) (hk : below s.kind = 2) (hi0 : CsIn n (1 + (x.nodes + y.nodes)) c) : MC Tryz.prog L 86 [.c (.pt 0 0 0), eI (k : Nat)] (mkH b n c) (Outs (eI (k2 : Nat)) (mkH6 b n (cmp (.node s ((k : Nat) : Int) [x, y]) c))) := by
 refine MC.shift 500 rfl ?_
 have hσ := SgOk.withIns (js := [500, 501, 502, 503, 504]) (SGok (nt := 189) h1 (Nat.le_trans h2 (by decide)))
 refine MC.bodyH hσ Tryz.func86 (by kernel_rfl) rfl rfl rfl (Nat.le_of_ble_eq_true rfl) (fun hF => ?_)
 refine jnw ?_
 have hS := tcode_len hs.1
 have hX := tcode_len hs.2
 have hcl := hi0.code
 have hf0 := hi0.fr
 have ht0 := hi0.to
 have hk1 : ∀ k : Int, s.kind = k → below k = 2 := fun k e => e ▸ hk
 have hk2 : ¬ s.kind = 1 → s.kind = 7 := fun h => (below_two hk).resolve_left h
 have g4 := hlx (((c.beg ((k : Nat) : Int)).term s.sum).emit 6 0)
 have h4 := (le_c3 (a := ((k : Nat) : Int)) (c := c) hs.1).trans g4
 have h6 := le_c6 (b := 0) (k := ((c.beg ((k : Nat) : Int)).term s.sum).code.length) hs.1 g4
 have g7 := hly (((cmp x (((c.beg ((k : Nat) : Int)).term s.sum).emit 6 0)).emit 5 0).arg ((c.beg ((k : Nat) : Int)).term s.sum).code.length)
 have h7 := h6.trans g7
 have hf2 : ((c.beg ((k : Nat) : Int)).term s.sum).fr.length = n := (le_beg (a := ((k : Nat) : Int)) (c := c)).fr.trans hf0
 have ht2 : ((c.beg ((k : Nat) : Int)).term s.sum).to.length = n := ht0
 have hf4 : (cmp x (((c.beg ((k : Nat) : Int)).term s.sum).emit 6 0)).fr.length = n := h4.fr.trans hf0
 have ht4 : (cmp x (((c.beg ((k : Nat) : Int)).term s.sum).emit 6 0)).to.length = n := h4.to.trans ht0
 have hf7 : (cmp y (((cmp x (((c.beg ((k : Nat) : Int)).term s.sum).emit 6 0)).emit 5 0).arg ((c.beg ((k : Nat) : Int)).term s.sum).code.length)).fr.length = n := h7.fr.trans hf0
 have ht7 : (cmp y (((cmp x (((c.beg ((k : Nat) : Int)).term s.sum).emit 6 0)).emit 5 0).arg ((c.beg ((k : Nat) : Int)).term s.sum).code.length)).to.length = n := h7.to.trans ht0
 have hb4 := h4.code
 have hb7 := h7.code
 have hg4 := g4.ge
 have hg7 := g7.ge
 have hlt1 : ((c.beg ((k : Nat) : Int)).term s.sum).code.length < ((cmp x (((c.beg ((k : Nat) : Int)).term s.sum).emit 6 0)).emit 5 0).code.length := by simp only [Cs.emit, Cs.term, Cs.beg, Cs.arg, Cs.point, List.length_append, List.length_singleton, List.length_set] at hg4 ⊢; omega
 have hlt2 : (cmp x (((c.beg ((k : Nat) : Int)).term s.sum).emit 6 0)).code.length < (cmp y (((cmp x (((c.beg ((k : Nat) : Int)).term s.sum).emit 6 0)).emit 5 0).arg ((c.beg ((k : Nat) : Int)).term s.sum).code.length)).code.length := by rw [← len_arg] at hg7; simp only [show ∀ c : Cs, (c.emit 5 0).code.length = c.code.length + 1 from fun c => by simp [Cs.emit]] at hg7; omega
 refine jsr ?_
 refine jst hσ rfl rfl rfl rfl rfl ?_
 refine jns ?_
 iterate 5 refine jst hσ rfl rfl rfl rfl rfl ?_
 refine AOps.step ((Val.indexN hσ rfl rfl rfl rfl rfl rfl rfl rfl (idxN hkb)).cast (v' := ptr (Sm.cells s)) (by rw [hbs])) rfl rfl rfl ?_
 refine jst hσ rfl rfl rfl rfl rfl ?_
 refine jf [5, 4, 0, 1] rfl ?_
 refine jn ?_
 refine AWP.seq ?_
 refine AWP.drawR hσ _ [_, _, _, _, _, _, _, _, _] [⟨[], 0, 1, none⟩, ⟨[0], 0, 1, none⟩, ⟨[0, 1], 0, 1, none⟩, ⟨[0, 1, 2], 0, 1, none⟩, ⟨[], 0, 1, none⟩, ⟨[], 0, 0, none⟩, ⟨[5], 0, 0, some 0⟩, ⟨[0, 1, 2, 3, 4, 5, 6], 1, 1, none⟩, ⟨[0, 1, 2, 3, 4, 5, 6, 7], 0, 0, some 1⟩] [6, 8] [_, _, _] rfl rfl (by decide) (by decide) (by kernel_rfl) (And.intro (And.intro (Val.of hσ rfl rfl) (Val.of hσ rfl rfl)) (And.intro (And.intro (Val.of hσ rfl rfl) (Val.of hσ rfl rfl)) (And.intro (And.intro (Val.of hσ rfl rfl) (Val.of hσ rfl rfl)) (And.intro (And.intro (Val.of hσ rfl rfl) (Val.of hσ rfl rfl)) (And.intro (And.intro (Val.of hσ rfl rfl) (Val.of hσ rfl rfl)) (And.intro (Val.of hσ rfl rfl) (And.intro (Eff.lone hσ (B0 := 24000) rfl rfl rfl rfl (c1102 (b := b) (c := c) h1 h2) (.cons (.c (.pb rfl (.cons .d (.cons (.whole rfl (List.length_map _).symm) (.cons (.whole rfl (by rw [List.length_map]; exact hf0.symm)) (.cons (.whole rfl (by rw [List.length_map]; exact ht0.symm)) (.cons (.whole rfl (List.length_map _).symm) .nil))))))) .nil) rfl rfl rfl rfl rfl) (And.intro (Val.vif hσ rfl rfl (by first | omega | (simp at *; omega))) (And.intro (Eff.storeRow (ex := [.int .i64 (c.fr.getD k default)]) (xs' := ((c.beg ((k : Nat) : Int)).fr).map (fun n => [D.int .i64 n])) hσ rfl rfl rfl rfl rfl rfl rfl rfl rfl rfl rfl rfl rfl rfl rfl (gj (f := (fun n => [D.int .i64 n])) (by omega) (by omega)) (sj (v := (c.code.length : Int)) (by omega) rfl) rfl) trivial))))))))) ?_
 refine jw [5, 4, 0, 1] rfl ?_
 refine jnw ?_
 refine jsr ?_
 refine jst hσ rfl rfl rfl rfl rfl ?_
 refine AOps.step ((Val.fits64 hσ rfl rfl (by first | omega | (simp at *; omega)) (by first | omega | (simp at *; omega))).cast (v' := eI ((k + 1 : Nat) : Int)) (congrArg eI (by omega))) rfl rfl rfl ?_
 refine jst hσ rfl rfl rfl rfl rfl ?_
 refine jf [6, 5, 4, 0, 1] rfl ?_
 refine jn ?_
 refine AWP.seq ?_
 refine jsr ?_
 iterate 4 refine jst hσ rfl rfl rfl rfl rfl ?_
 refine jf [30, 6, 5, 4, 0, 1] rfl ?_
 refine jn ?_
 obtain ⟨d, ed⟩ : ∃ d, d = if s.kind = 1 then cmp y (cmp x (c.beg ((k : Nat) : Int))) else ifC s (cmp x) (cmp y) (c.beg ((k : Nat) : Int)) := ⟨_, rfl⟩
 have hdf : d.fr.length = n := by rw [ed]; split; exact ((le_beg (a := ((k : Nat) : Int))).trans ((hlx _).trans (hly _))).fr.trans hf0; exact hf7
 have hdt : d.to.length = n := by rw [ed]; split; exact ((le_beg (a := ((k : Nat) : Int))).trans ((hlx _).trans (hly _))).to.trans ht0; exact ht7
 refine AWP.mid ⟨[(0, .c (.pt 500 0 0)), (1, eI (k : Nat)), (6, eI (k2 : Nat))], [(500, .box [.d (sms b), .rs 901 0 d.code.length, .rs 503 0 n, .rs 504 0 n, .rs 902 0 d.pts.length]), (503, nrow d.fr), (504, nrow d.to), (901, irow d.code), (902, prow d.pts)]⟩ ?_ ?_
 ·
  skip
  refine AWP.block ?_
  refine jsr ?_
  iterate 2 refine jst hσ rfl rfl rfl rfl rfl ?_
  refine jn ?_
  refine AWP.cond hσ rfl rfl (fun hc31 => ?_) (fun hc31 => ?_)
  ·
   skip
   refine AWP.region ?_
   iterate 3 refine jst hσ rfl rfl rfl rfl rfl ?_
   refine jf [35, 34, 33, 32, 30, 6, 5, 4, 0, 1] rfl ?_
   refine AOps.inn hσ [500, 501, 502, 503, 504] (bin := [mkB b n 1 2 (c.beg ((k : Nat) : Int)), irow ((c.beg ((k : Nat) : Int))).code, prow ((c.beg ((k : Nat) : Int))).pts, nrow ((c.beg ((k : Nat) : Int))).fr, nrow ((c.beg ((k : Nat) : Int))).to]) rfl rfl rfl rfl (ihx (c.beg ((k : Nat) : Int)) (hi0.of le_beg (by omega))) rfl rfl rfl rfl rfl rfl (B0 := 37000) rfl rfl ?_
   refine jnm ?_
   refine jf [36, 33, 32, 30, 6, 5, 4, 0, 1] rfl ?_
   refine AOps.inn hσ [500, 37005, 37006, 503, 504] (bin := [mkB b n 1 2 (cmp x (c.beg ((k : Nat) : Int))), irow ((cmp x (c.beg ((k : Nat) : Int)))).code, prow ((cmp x (c.beg ((k : Nat) : Int)))).pts, nrow ((cmp x (c.beg ((k : Nat) : Int)))).fr, nrow ((cmp x (c.beg ((k : Nat) : Int)))).to]) rfl rfl rfl rfl (ihy (cmp x (c.beg ((k : Nat) : Int))) (hi0.of (le_beg.trans (hlx _)) (by omega))) rfl rfl rfl rfl rfl rfl (B0 := 38000) rfl rfl ?_
   refine jnm ?_
   refine jst hσ rfl rfl rfl rfl rfl ?_
   refine jf [6, 32, 30, 5, 4, 0, 1] rfl ?_
   refine jn ?_
   rw [ed, if_pos (of_decide_eq_true hc31)]
   exact ⟨rfl, (((Ent.sel [500, 503, 504, 38005, 38006] (e' := [(0, _), (1, _), (6, _)]) rfl rfl ⟨rfl, rfl, rfl, trivial⟩ rfl).trans (Ent.sub2 38005 901 rfl rfl)).trans (Ent.sub2 38006 902 rfl rfl)).trans (Ent.to ⟨rfl, rfl, rfl, trivial⟩ rfl)⟩
  ·
   skip
   refine jsr ?_
   iterate 2 refine jst hσ rfl rfl rfl rfl rfl ?_
   refine jf [38, 32, 30, 6, 5, 4, 0, 1] rfl ?_
   refine jn ?_
   refine AWP.cond hσ rfl rfl (fun hc38 => ?_) (fun hc38 => ?_)
   ·
    skip
    exact absurd (hk1 2 (of_decide_eq_true hc38)) (by decide)
   ·
    skip
    refine jsr ?_
    iterate 2 refine jst hσ rfl rfl rfl rfl rfl ?_
    refine jf [51, 32, 30, 6, 5, 4, 0, 1] rfl ?_
    refine jn ?_
    refine AWP.cond hσ rfl rfl (fun hc51 => ?_) (fun hc51 => ?_)
    ·
     skip
     exact absurd (hk1 3 (of_decide_eq_true hc51)) (by decide)
    ·
     skip
     refine jsr ?_
     iterate 2 refine jst hσ rfl rfl rfl rfl rfl ?_
     refine jf [66, 32, 30, 6, 5, 4, 0, 1] rfl ?_
     refine jn ?_
     refine AWP.cond hσ rfl rfl (fun hc66 => ?_) (fun hc66 => ?_)
     ·
      skip
      exact absurd (hk1 4 (of_decide_eq_true hc66)) (by decide)
     ·
      skip
      refine jsr ?_
      iterate 2 refine jst hσ rfl rfl rfl rfl rfl ?_
      refine jf [80, 32, 30, 6, 5, 4, 0, 1] rfl ?_
      refine jn ?_
      refine AWP.cond hσ rfl rfl (fun hc80 => ?_) (fun hc80 => ?_)
      ·
       skip
       exact absurd (hk1 5 (of_decide_eq_true hc80)) (by decide)
      ·
       skip
       refine jsr ?_
       iterate 2 refine jst hσ rfl rfl rfl rfl rfl ?_
       refine jf [88, 32, 30, 6, 5, 4, 0, 1] rfl ?_
       refine jn ?_
       refine AWP.cond hσ rfl rfl (fun hc88 => ?_) (fun hc88 => ?_)
       ·
        skip
        exact absurd (hk1 6 (of_decide_eq_true hc88)) (by decide)
       ·
        skip
        refine jsr ?_
        iterate 2 refine jst hσ rfl rfl rfl rfl rfl ?_
        refine jf [97, 32, 30, 6, 5, 4, 0, 1] rfl ?_
        refine jn ?_
        refine AWP.cond hσ rfl rfl (fun hc97 => ?_) (fun hc97 => ?_)
        ·
         skip
         refine jsr ?_
         iterate 4 refine jst hσ rfl rfl rfl rfl rfl ?_
         refine jf [102, 99, 32, 30, 6, 5, 4, 0, 1] rfl ?_
         refine AOps.inn hσ [500, 501, 502, 503, 504] (bin := [mkB b n 1 2 (c.beg ((k : Nat) : Int)), irow ((c.beg ((k : Nat) : Int))).code, prow ((c.beg ((k : Nat) : Int))).pts, nrow ((c.beg ((k : Nat) : Int))).fr, nrow ((c.beg ((k : Nat) : Int))).to]) rfl rfl rfl rfl (c1103 (b := b) (n := n) (c := (c.beg ((k : Nat) : Int))) (t := s.sum) (ds := Sm.cells s) (j := 3) h1 h2 rfl (term_xs hs.1) (by simp only [Cs.emit, Cs.term, Cs.beg, Cs.arg, Cs.point, List.length_append, List.length_singleton, List.length_set]; omega)) rfl rfl rfl rfl rfl rfl (B0 := 104000) rfl rfl ?_
         refine jnm ?_
         refine jf [32, 30, 6, 5, 4, 0, 1] rfl ?_
         refine jns ?_
         refine jst hσ rfl rfl rfl rfl rfl ?_
         refine AOps.lone hσ rfl rfl rfl rfl (c1102 (b := b) (c := ((c.beg ((k : Nat) : Int)).term s.sum)) h1 h2) (.cons (.c (.pb rfl (.cons .d (.cons (.whole rfl (List.length_map _).symm) (.cons (.whole rfl (by rw [List.length_map]; exact hf2.symm)) (.cons (.whole rfl (by rw [List.length_map]; exact ht2.symm)) (.cons (.whole rfl (List.length_map _).symm) .nil))))))) .nil) rfl rfl rfl rfl rfl (B0 := 106000) rfl ?_
         refine jst hσ rfl rfl rfl rfl rfl ?_
         refine jf [7, 32, 30, 6, 5, 4, 0, 1] rfl ?_
         refine jns ?_
         refine jst hσ rfl rfl rfl rfl rfl ?_
         refine AOps.inn hσ [500, 104005, 502, 503, 504] (bin := [mkB b n 1 2 ((c.beg ((k : Nat) : Int)).term s.sum), irow (((c.beg ((k : Nat) : Int)).term s.sum)).code, prow (((c.beg ((k : Nat) : Int)).term s.sum)).pts, nrow (((c.beg ((k : Nat) : Int)).term s.sum)).fr, nrow (((c.beg ((k : Nat) : Int)).term s.sum)).to]) rfl rfl rfl rfl (c1096 (b := b) (n := n) (c := ((c.beg ((k : Nat) : Int)).term s.sum)) (op := 6) (a := 0) h1 h2 (by simp only [Cs.emit, Cs.term, Cs.beg, Cs.arg, Cs.point, List.length_append, List.length_singleton, List.length_set]; omega)) rfl rfl rfl rfl rfl rfl (B0 := 108000) rfl rfl ?_
         refine jnm ?_
         refine jf [7, 32, 30, 6, 5, 4, 0, 1] rfl ?_
         refine jns ?_
         iterate 2 refine jst hσ rfl rfl rfl rfl rfl ?_
         refine AOps.inn hσ [500, 108005, 502, 503, 504] (bin := [mkB b n 1 2 (((c.beg ((k : Nat) : Int)).term s.sum).emit 6 0), irow ((((c.beg ((k : Nat) : Int)).term s.sum).emit 6 0)).code, prow ((((c.beg ((k : Nat) : Int)).term s.sum).emit 6 0)).pts, nrow ((((c.beg ((k : Nat) : Int)).term s.sum).emit 6 0)).fr, nrow ((((c.beg ((k : Nat) : Int)).term s.sum).emit 6 0)).to]) rfl rfl rfl rfl (ihx (((c.beg ((k : Nat) : Int)).term s.sum).emit 6 0) (hi0.of (le_c3 hs.1) (by omega))) rfl rfl rfl rfl rfl rfl (B0 := 111000) rfl rfl ?_
         refine jnm ?_
         refine jst hσ rfl rfl rfl rfl rfl ?_
         refine jf [6, 7, 32, 30, 5, 4, 0, 1] rfl ?_
         refine jns ?_
         refine jst hσ rfl rfl rfl rfl rfl ?_
         refine AOps.lone hσ rfl rfl rfl rfl (c1102 (b := b) (c := (cmp x (((c.beg ((k : Nat) : Int)).term s.sum).emit 6 0))) h1 h2) (.cons (.c (.pb rfl (.cons .d (.cons (.whole rfl (List.length_map _).symm) (.cons (.whole rfl (by rw [List.length_map]; exact hf4.symm)) (.cons (.whole rfl (by rw [List.length_map]; exact ht4.symm)) (.cons (.whole rfl (List.length_map _).symm) .nil))))))) .nil) rfl rfl rfl rfl rfl (B0 := 113000) rfl ?_
         refine jst hσ rfl rfl rfl rfl rfl ?_
         refine jf [8, 6, 7, 32, 30, 5, 4, 0, 1] rfl ?_
         refine jns ?_
         refine jst hσ rfl rfl rfl rfl rfl ?_
         refine AOps.inn hσ [500, 111005, 111006, 503, 504] (bin := [mkB b n 1 2 (cmp x (((c.beg ((k : Nat) : Int)).term s.sum).emit 6 0)), irow ((cmp x (((c.beg ((k : Nat) : Int)).term s.sum).emit 6 0))).code, prow ((cmp x (((c.beg ((k : Nat) : Int)).term s.sum).emit 6 0))).pts, nrow ((cmp x (((c.beg ((k : Nat) : Int)).term s.sum).emit 6 0))).fr, nrow ((cmp x (((c.beg ((k : Nat) : Int)).term s.sum).emit 6 0))).to]) rfl rfl rfl rfl (c1096 (b := b) (n := n) (c := (cmp x (((c.beg ((k : Nat) : Int)).term s.sum).emit 6 0))) (op := 5) (a := 0) h1 h2 (by omega)) rfl rfl rfl rfl rfl rfl (B0 := 115000) rfl rfl ?_
         refine jnm ?_
         refine jf [8, 6, 7, 32, 30, 5, 4, 0, 1] rfl ?_
         refine jn ?_
         refine AWP.seq ?_
         refine AWP.drawR hσ _ [_, _, _, _, _, _, _, _, _, _] [⟨[], 0, 1, none⟩, ⟨[0], 0, 1, none⟩, ⟨[0, 1], 0, 1, none⟩, ⟨[0, 1, 2], 0, 1, none⟩, ⟨[], 0, 1, none⟩, ⟨[], 0, 0, none⟩, ⟨[5], 0, 0, some 0⟩, ⟨[0, 1, 2, 3, 4, 5, 6], 1, 1, none⟩, ⟨[0, 1, 2, 3, 4, 5, 6, 7], 1, 1, none⟩, ⟨[0, 1, 2, 3, 4, 5, 6, 7, 8], 0, 0, some 1⟩] [6, 9] [_, _, _] rfl rfl (by decide) (by decide) (by kernel_rfl) (And.intro (And.intro (Val.of hσ rfl rfl) (Val.of hσ rfl rfl)) (And.intro (And.intro (Val.of hσ rfl rfl) (Val.of hσ rfl rfl)) (And.intro (And.intro (Val.of hσ rfl rfl) (Val.of hσ rfl rfl)) (And.intro (And.intro (Val.of hσ rfl rfl) (Val.of hσ rfl rfl)) (And.intro (And.intro (Val.of hσ rfl rfl) (Val.of hσ rfl rfl)) (And.intro (Val.of hσ rfl rfl) (And.intro (Eff.lone hσ (B0 := 122000) rfl rfl rfl rfl (c1102 (b := b) (c := ((cmp x (((c.beg ((k : Nat) : Int)).term s.sum).emit 6 0)).emit 5 0)) h1 h2) (.cons (.c (.pb rfl (.cons .d (.cons (.whole rfl (List.length_map _).symm) (.cons (.whole rfl (by rw [List.length_map]; exact hf4.symm)) (.cons (.whole rfl (by rw [List.length_map]; exact ht4.symm)) (.cons (.whole rfl (List.length_map _).symm) .nil))))))) .nil) rfl rfl rfl rfl rfl) (And.intro (Val.vif hσ rfl rfl (by first | omega | (simp at *; omega))) (And.intro (Val.of hσ rfl rfl) (And.intro (Eff.storeRow (ex := In.cells ((((cmp x (((c.beg ((k : Nat) : Int)).term s.sum).emit 6 0)).emit 5 0)).code.getD ((c.beg ((k : Nat) : Int)).term s.sum).code.length default)) (xs' := ((((cmp x (((c.beg ((k : Nat) : Int)).term s.sum).emit 6 0)).emit 5 0)).arg ((c.beg ((k : Nat) : Int)).term s.sum).code.length).code.map In.cells) hσ rfl rfl rfl rfl rfl rfl rfl rfl rfl rfl rfl rfl rfl rfl rfl (gj hlt1 (by omega)) (sj (v := (⟨((((cmp x (((c.beg ((k : Nat) : Int)).term s.sum).emit 6 0)).emit 5 0)).code.getD ((c.beg ((k : Nat) : Int)).term s.sum).code.length default).op, ((((cmp x (((c.beg ((k : Nat) : Int)).term s.sum).emit 6 0)).emit 5 0)).code.length : Nat)⟩ : In)) (by omega) rfl) rfl) trivial)))))))))) ?_
         refine jw [8, 6, 32, 30, 5, 4, 0, 1] rfl ?_
         refine jnw ?_
         refine jsr ?_
         rw [len_arg (c := ((cmp x (((c.beg ((k : Nat) : Int)).term s.sum).emit 6 0)).emit 5 0)) (k := ((c.beg ((k : Nat) : Int)).term s.sum).code.length)]
         iterate 2 refine jst hσ rfl rfl rfl rfl rfl ?_
         refine AOps.inn hσ [500, 115005, 111006, 503, 504] (bin := [mkB b n 1 2 (((cmp x (((c.beg ((k : Nat) : Int)).term s.sum).emit 6 0)).emit 5 0).arg ((c.beg ((k : Nat) : Int)).term s.sum).code.length), irow ((((cmp x (((c.beg ((k : Nat) : Int)).term s.sum).emit 6 0)).emit 5 0).arg ((c.beg ((k : Nat) : Int)).term s.sum).code.length)).code, prow ((((cmp x (((c.beg ((k : Nat) : Int)).term s.sum).emit 6 0)).emit 5 0).arg ((c.beg ((k : Nat) : Int)).term s.sum).code.length)).pts, nrow ((((cmp x (((c.beg ((k : Nat) : Int)).term s.sum).emit 6 0)).emit 5 0).arg ((c.beg ((k : Nat) : Int)).term s.sum).code.length)).fr, nrow ((((cmp x (((c.beg ((k : Nat) : Int)).term s.sum).emit 6 0)).emit 5 0).arg ((c.beg ((k : Nat) : Int)).term s.sum).code.length)).to]) rfl rfl rfl rfl (ihy (((cmp x (((c.beg ((k : Nat) : Int)).term s.sum).emit 6 0)).emit 5 0).arg ((c.beg ((k : Nat) : Int)).term s.sum).code.length) (hi0.of h6 (by omega))) rfl rfl rfl rfl rfl rfl (B0 := 127000) rfl rfl ?_
         refine jnm ?_
         refine jst hσ rfl rfl rfl rfl rfl ?_
         refine jf [6, 8, 32, 30, 5, 4, 0, 1] rfl ?_
         refine jn ?_
         refine AWP.drawR hσ _ [_, _, _, _, _, _, _, _, _, _] [⟨[], 0, 1, none⟩, ⟨[0], 0, 1, none⟩, ⟨[0, 1], 0, 1, none⟩, ⟨[0, 1, 2], 0, 1, none⟩, ⟨[], 0, 1, none⟩, ⟨[], 0, 0, none⟩, ⟨[5], 0, 0, some 0⟩, ⟨[0, 1, 2, 3, 4, 5, 6], 1, 1, none⟩, ⟨[0, 1, 2, 3, 4, 5, 6, 7], 1, 1, none⟩, ⟨[0, 1, 2, 3, 4, 5, 6, 7, 8], 0, 0, some 1⟩] [6, 9] [_, _, _] rfl rfl (by decide) (by decide) (by kernel_rfl) (And.intro (And.intro (Val.of hσ rfl rfl) (Val.of hσ rfl rfl)) (And.intro (And.intro (Val.of hσ rfl rfl) (Val.of hσ rfl rfl)) (And.intro (And.intro (Val.of hσ rfl rfl) (Val.of hσ rfl rfl)) (And.intro (And.intro (Val.of hσ rfl rfl) (Val.of hσ rfl rfl)) (And.intro (And.intro (Val.of hσ rfl rfl) (Val.of hσ rfl rfl)) (And.intro (Val.of hσ rfl rfl) (And.intro (Eff.lone hσ (B0 := 134000) rfl rfl rfl rfl (c1102 (b := b) (c := (cmp y (((cmp x (((c.beg ((k : Nat) : Int)).term s.sum).emit 6 0)).emit 5 0).arg ((c.beg ((k : Nat) : Int)).term s.sum).code.length))) h1 h2) (.cons (.c (.pb rfl (.cons .d (.cons (.whole rfl (List.length_map _).symm) (.cons (.whole rfl (by rw [List.length_map]; exact hf7.symm)) (.cons (.whole rfl (by rw [List.length_map]; exact ht7.symm)) (.cons (.whole rfl (List.length_map _).symm) .nil))))))) .nil) rfl rfl rfl rfl rfl) (And.intro (Val.vif hσ rfl rfl (by first | omega | (simp at *; omega))) (And.intro (Val.of hσ rfl rfl) (And.intro (Eff.storeRow (ex := In.cells (((cmp y (((cmp x (((c.beg ((k : Nat) : Int)).term s.sum).emit 6 0)).emit 5 0).arg ((c.beg ((k : Nat) : Int)).term s.sum).code.length))).code.getD (cmp x (((c.beg ((k : Nat) : Int)).term s.sum).emit 6 0)).code.length default)) (xs' := (((cmp y (((cmp x (((c.beg ((k : Nat) : Int)).term s.sum).emit 6 0)).emit 5 0).arg ((c.beg ((k : Nat) : Int)).term s.sum).code.length))).arg (cmp x (((c.beg ((k : Nat) : Int)).term s.sum).emit 6 0)).code.length).code.map In.cells) hσ rfl rfl rfl rfl rfl rfl rfl rfl rfl rfl rfl rfl rfl rfl rfl (gj hlt2 (by omega)) (sj (v := (⟨(((cmp y (((cmp x (((c.beg ((k : Nat) : Int)).term s.sum).emit 6 0)).emit 5 0).arg ((c.beg ((k : Nat) : Int)).term s.sum).code.length))).code.getD (cmp x (((c.beg ((k : Nat) : Int)).term s.sum).emit 6 0)).code.length default).op, (((cmp y (((cmp x (((c.beg ((k : Nat) : Int)).term s.sum).emit 6 0)).emit 5 0).arg ((c.beg ((k : Nat) : Int)).term s.sum).code.length))).code.length : Nat)⟩ : In)) (by omega) rfl) rfl) trivial)))))))))) ?_
         rw [ed, if_neg (of_decide_eq_false hc31), len_arg (c := (cmp y (((cmp x (((c.beg ((k : Nat) : Int)).term s.sum).emit 6 0)).emit 5 0).arg ((c.beg ((k : Nat) : Int)).term s.sum).code.length))) (k := (cmp x (((c.beg ((k : Nat) : Int)).term s.sum).emit 6 0)).code.length)]
         exact ⟨rfl, (((Ent.sel [500, 503, 504, 127005, 127006] (e' := [(0, _), (1, _), (6, _)]) rfl rfl ⟨rfl, rfl, rfl, trivial⟩ rfl).trans (Ent.sub2 127005 901 rfl rfl)).trans (Ent.sub2 127006 902 rfl rfl)).trans (Ent.to ⟨rfl, rfl, rfl, trivial⟩ rfl)⟩
        ·
         skip
         exact absurd (hk2 (of_decide_eq_false hc31)) (of_decide_eq_false hc97)
 refine AWP.seq ?_
 refine AWP.drawR hσ _ [_, _, _, _, _, _, _, _, _] [⟨[], 0, 1, none⟩, ⟨[0], 0, 1, none⟩, ⟨[0, 1], 0, 1, none⟩, ⟨[0, 1, 2], 0, 1, none⟩, ⟨[], 0, 1, none⟩, ⟨[], 0, 0, none⟩, ⟨[5], 0, 0, some 0⟩, ⟨[0, 1, 2, 3, 4, 5, 6], 1, 1, none⟩, ⟨[0, 1, 2, 3, 4, 5, 6, 7], 0, 0, some 1⟩] [6, 8] [_, _, _] rfl rfl (by decide) (by decide) (by kernel_rfl) (And.intro (And.intro (Val.of hσ rfl rfl) (Val.of hσ rfl rfl)) (And.intro (And.intro (Val.of hσ rfl rfl) (Val.of hσ rfl rfl)) (And.intro (And.intro (Val.of hσ rfl rfl) (Val.of hσ rfl rfl)) (And.intro (And.intro (Val.of hσ rfl rfl) (Val.of hσ rfl rfl)) (And.intro (And.intro (Val.of hσ rfl rfl) (Val.of hσ rfl rfl)) (And.intro (Val.of hσ rfl rfl) (And.intro (Eff.lone hσ (B0 := 187000) rfl rfl rfl rfl (c1102 (b := b) (c := d) h1 h2) (.cons (.c (.pb rfl (.cons .d (.cons (.whole rfl (List.length_map _).symm) (.cons (.whole rfl (by rw [List.length_map]; exact hdf.symm)) (.cons (.whole rfl (by rw [List.length_map]; exact hdt.symm)) (.cons (.whole rfl (List.length_map _).symm) .nil))))))) .nil) rfl rfl rfl rfl rfl) (And.intro (Val.vif hσ rfl rfl (by first | omega | (simp at *; omega))) (And.intro (Eff.storeRow (ex := [.int .i64 (d.to.getD k default)]) (xs' := ((d.fin ((k : Nat) : Int)).to).map (fun n => [D.int .i64 n])) hσ rfl rfl rfl rfl rfl rfl rfl rfl rfl rfl rfl rfl rfl rfl rfl (gj (f := (fun n => [D.int .i64 n])) (by omega) (by omega)) (sj (v := (d.code.length : Int)) (by omega) rfl) rfl) trivial))))))))) ?_
 refine jsr ?_
 iterate 2 refine jst hσ rfl rfl rfl rfl rfl ?_
 refine jn ?_
 refine AWP.ret ?_
 rw [show cmp (.node s ((k : Nat) : Int) [x, y]) c = (if s.kind = 1 then cmp y (cmp x (c.beg ((k : Nat) : Int))) else ifC s (cmp x) (cmp y) (c.beg ((k : Nat) : Int))).fin ((k : Nat) : Int) by rw [cmp_two]; split <;> rfl, ← ed]
 refine ⟨.inl rfl, _, ((Ent.sel [500, 503, 504, 901, 902] (e' := [(4, _)]) rfl rfl ⟨rfl, trivial⟩ rfl).trans (Ent.sub2 901 505 rfl rfl)).trans (Ent.sub2 902 506 rfl rfl), _, rfl, rfl, rfl⟩
theorem c1095_1 {L : Nat} (h1 : 4096 ≤ L) (h2 : L ≤ 1073741824) {b : List Sm} {n : Nat} {x : Tr} {k1 : Nat} {s : Sm} {k : Nat} {c : Cs} (hkb : k < b.length) (hbs : b.getD k default = s) (hkn : k < n) (hn2 : n ≤ 1000) (hs : s.sum.term = true ∧ s.index.term = true) (ihx : ∀ c, CsIn n x.nodes c → MC Tryz.prog L 86 [.c (.pt 0 0 0), eI (k + 1 : Nat)] (mkH b n c) (Outs (eI (k1 : Nat)) (mkH6 b n (cmp x c)))) (hlx : ∀ c, CsLe x.nodes c (cmp x c)) (hk : below s.kind = 1) (hi0 : CsIn n (1 + x.nodes) c) : MC Tryz.prog L 86 [.c (.pt 0 0 0), eI (k : Nat)] (mkH b n c) (Outs (eI (k1 : Nat)) (mkH6 b n (cmp (.node s ((k : Nat) : Int) [x]) c))) := by
 refine MC.shift 500 rfl ?_
 have hσ := SgOk.withIns (js := [500, 501, 502, 503, 504]) (SGok (nt := 189) h1 (Nat.le_trans h2 (by decide)))
 refine MC.bodyH hσ Tryz.func86 (by kernel_rfl) rfl rfl rfl (Nat.le_of_ble_eq_true rfl) (fun hF => ?_)
 refine jnw ?_
 have hS := tcode_len hs.1
 have hX := tcode_len hs.2
 have hcl := hi0.code
 have hf0 := hi0.fr
 have ht0 := hi0.to
 have hk1 : ∀ k : Int, s.kind = k → below k = 1 := fun k e => e ▸ hk
 have hpl := hi0.pts
 have g4 := hlx ((((c.beg ((k : Nat) : Int)).point (c.beg ((k : Nat) : Int)).code.length s.facts).term s.sum).emit 6 0)
 have h4 := (le_w3 (a := ((k : Nat) : Int)) (c := c) (k := (c.beg ((k : Nat) : Int)).code.length) (fs := s.facts) hs.1).trans g4
 have h6 := le_w6 (b := (c.code.length : Int)) (k := (((c.beg ((k : Nat) : Int)).point (c.beg ((k : Nat) : Int)).code.length s.facts).term s.sum).code.length) hs.1 g4
 have hf1 : (c.beg ((k : Nat) : Int)).fr.length = n := (le_beg (a := ((k : Nat) : Int)) (c := c)).fr.trans hf0
 have hf2 : (((c.beg ((k : Nat) : Int)).point (c.beg ((k : Nat) : Int)).code.length s.facts).term s.sum).fr.length = n := hf1
 have ht2 : (((c.beg ((k : Nat) : Int)).point (c.beg ((k : Nat) : Int)).code.length s.facts).term s.sum).to.length = n := ht0
 have hf4 : (cmp x ((((c.beg ((k : Nat) : Int)).point (c.beg ((k : Nat) : Int)).code.length s.facts).term s.sum).emit 6 0)).fr.length = n := h4.fr.trans hf0
 have ht4 : (cmp x ((((c.beg ((k : Nat) : Int)).point (c.beg ((k : Nat) : Int)).code.length s.facts).term s.sum).emit 6 0)).to.length = n := h4.to.trans ht0
 have hb4 := h4.code
 have hg4 := g4.ge
 have hlt1 : (((c.beg ((k : Nat) : Int)).point (c.beg ((k : Nat) : Int)).code.length s.facts).term s.sum).code.length < ((cmp x ((((c.beg ((k : Nat) : Int)).point (c.beg ((k : Nat) : Int)).code.length s.facts).term s.sum).emit 6 0)).emit 5 (c.code.length : Int)).code.length := by simp only [Cs.emit, Cs.term, Cs.beg, Cs.arg, Cs.point, List.length_append, List.length_singleton, List.length_set] at hg4 ⊢; omega
 refine jsr ?_
 refine jst hσ rfl rfl rfl rfl rfl ?_
 refine jns ?_
 iterate 5 refine jst hσ rfl rfl rfl rfl rfl ?_
 refine AOps.step ((Val.indexN hσ rfl rfl rfl rfl rfl rfl rfl rfl (idxN hkb)).cast (v' := ptr (Sm.cells s)) (by rw [hbs])) rfl rfl rfl ?_
 refine jst hσ rfl rfl rfl rfl rfl ?_
 refine jf [5, 4, 0, 1] rfl ?_
 refine jn ?_
 refine AWP.seq ?_
 refine AWP.drawR hσ _ [_, _, _, _, _, _, _, _, _] [⟨[], 0, 1, none⟩, ⟨[0], 0, 1, none⟩, ⟨[0, 1], 0, 1, none⟩, ⟨[0, 1, 2], 0, 1, none⟩, ⟨[], 0, 1, none⟩, ⟨[], 0, 0, none⟩, ⟨[5], 0, 0, some 0⟩, ⟨[0, 1, 2, 3, 4, 5, 6], 1, 1, none⟩, ⟨[0, 1, 2, 3, 4, 5, 6, 7], 0, 0, some 1⟩] [6, 8] [_, _, _] rfl rfl (by decide) (by decide) (by kernel_rfl) (And.intro (And.intro (Val.of hσ rfl rfl) (Val.of hσ rfl rfl)) (And.intro (And.intro (Val.of hσ rfl rfl) (Val.of hσ rfl rfl)) (And.intro (And.intro (Val.of hσ rfl rfl) (Val.of hσ rfl rfl)) (And.intro (And.intro (Val.of hσ rfl rfl) (Val.of hσ rfl rfl)) (And.intro (And.intro (Val.of hσ rfl rfl) (Val.of hσ rfl rfl)) (And.intro (Val.of hσ rfl rfl) (And.intro (Eff.lone hσ (B0 := 24000) rfl rfl rfl rfl (c1102 (b := b) (c := c) h1 h2) (.cons (.c (.pb rfl (.cons .d (.cons (.whole rfl (List.length_map _).symm) (.cons (.whole rfl (by rw [List.length_map]; exact hf0.symm)) (.cons (.whole rfl (by rw [List.length_map]; exact ht0.symm)) (.cons (.whole rfl (List.length_map _).symm) .nil))))))) .nil) rfl rfl rfl rfl rfl) (And.intro (Val.vif hσ rfl rfl (by first | omega | (simp at *; omega))) (And.intro (Eff.storeRow (ex := [.int .i64 (c.fr.getD k default)]) (xs' := ((c.beg ((k : Nat) : Int)).fr).map (fun n => [D.int .i64 n])) hσ rfl rfl rfl rfl rfl rfl rfl rfl rfl rfl rfl rfl rfl rfl rfl (gj (f := (fun n => [D.int .i64 n])) (by omega) (by omega)) (sj (v := (c.code.length : Int)) (by omega) rfl) rfl) trivial))))))))) ?_
 refine jw [5, 4, 0, 1] rfl ?_
 refine jnw ?_
 refine jsr ?_
 refine jst hσ rfl rfl rfl rfl rfl ?_
 refine AOps.step ((Val.fits64 hσ rfl rfl (by first | omega | (simp at *; omega)) (by first | omega | (simp at *; omega))).cast (v' := eI ((k + 1 : Nat) : Int)) (congrArg eI (by omega))) rfl rfl rfl ?_
 refine jst hσ rfl rfl rfl rfl rfl ?_
 refine jf [6, 5, 4, 0, 1] rfl ?_
 refine jn ?_
 refine AWP.seq ?_
 refine jsr ?_
 iterate 4 refine jst hσ rfl rfl rfl rfl rfl ?_
 refine jf [30, 6, 5, 4, 0, 1] rfl ?_
 refine jn ?_
 obtain ⟨d, ed⟩ : ∃ d, d = whC s (cmp x) (c.beg ((k : Nat) : Int)) := ⟨_, rfl⟩
 have hdf : d.fr.length = n := by rw [ed]; exact h6.fr.trans hf0
 have hdt : d.to.length = n := by rw [ed]; exact h6.to.trans ht0
 refine AWP.mid ⟨[(0, .c (.pt 500 0 0)), (1, eI (k : Nat)), (6, eI (k1 : Nat))], [(500, .box [.d (sms b), .rs 901 0 d.code.length, .rs 503 0 n, .rs 504 0 n, .rs 902 0 d.pts.length]), (503, nrow d.fr), (504, nrow d.to), (901, irow d.code), (902, prow d.pts)]⟩ ?_ ?_
 ·
  skip
  refine AWP.block ?_
  refine jsr ?_
  iterate 2 refine jst hσ rfl rfl rfl rfl rfl ?_
  refine jn ?_
  refine AWP.cond hσ rfl rfl (fun hc31 => ?_) (fun hc31 => ?_)
  ·
   skip
   exact absurd (hk1 1 (of_decide_eq_true hc31)) (by decide)
  ·
   skip
   refine jsr ?_
   iterate 2 refine jst hσ rfl rfl rfl rfl rfl ?_
   refine jf [38, 32, 30, 6, 5, 4, 0, 1] rfl ?_
   refine jn ?_
   refine AWP.cond hσ rfl rfl (fun hc38 => ?_) (fun hc38 => ?_)
   ·
    skip
    exact absurd (hk1 2 (of_decide_eq_true hc38)) (by decide)
   ·
    skip
    refine jsr ?_
    iterate 2 refine jst hσ rfl rfl rfl rfl rfl ?_
    refine jf [51, 32, 30, 6, 5, 4, 0, 1] rfl ?_
    refine jn ?_
    refine AWP.cond hσ rfl rfl (fun hc51 => ?_) (fun hc51 => ?_)
    ·
     skip
     exact absurd (hk1 3 (of_decide_eq_true hc51)) (by decide)
    ·
     skip
     refine jsr ?_
     iterate 2 refine jst hσ rfl rfl rfl rfl rfl ?_
     refine jf [66, 32, 30, 6, 5, 4, 0, 1] rfl ?_
     refine jn ?_
     refine AWP.cond hσ rfl rfl (fun hc66 => ?_) (fun hc66 => ?_)
     ·
      skip
      exact absurd (hk1 4 (of_decide_eq_true hc66)) (by decide)
     ·
      skip
      refine jsr ?_
      iterate 2 refine jst hσ rfl rfl rfl rfl rfl ?_
      refine jf [80, 32, 30, 6, 5, 4, 0, 1] rfl ?_
      refine jn ?_
      refine AWP.cond hσ rfl rfl (fun hc80 => ?_) (fun hc80 => ?_)
      ·
       skip
       exact absurd (hk1 5 (of_decide_eq_true hc80)) (by decide)
      ·
       skip
       refine jsr ?_
       iterate 2 refine jst hσ rfl rfl rfl rfl rfl ?_
       refine jf [88, 32, 30, 6, 5, 4, 0, 1] rfl ?_
       refine jn ?_
       refine AWP.cond hσ rfl rfl (fun hc88 => ?_) (fun hc88 => ?_)
       ·
        skip
        exact absurd (hk1 6 (of_decide_eq_true hc88)) (by decide)
       ·
        skip
        refine jsr ?_
        iterate 2 refine jst hσ rfl rfl rfl rfl rfl ?_
        refine jf [97, 32, 30, 6, 5, 4, 0, 1] rfl ?_
        refine jn ?_
        refine AWP.cond hσ rfl rfl (fun hc97 => ?_) (fun hc97 => ?_)
        ·
         skip
         exact absurd (hk1 7 (of_decide_eq_true hc97)) (by decide)
        ·
         skip
         refine jsr ?_
         iterate 2 refine jst hσ rfl rfl rfl rfl rfl ?_
         refine jf [136, 32, 30, 6, 5, 4, 0, 1] rfl ?_
         refine jn ?_
         refine AWP.cond hσ rfl rfl (fun hc136 => ?_) (fun hc136 => ?_)
         ·
          skip
          refine jsr ?_
          refine jst hσ rfl rfl rfl rfl rfl ?_
          refine jf [138, 32, 30, 6, 5, 4, 0, 1] rfl ?_
          refine AOps.lone hσ rfl rfl rfl rfl (c1102 (b := b) (c := (c.beg ((k : Nat) : Int))) h1 h2) (.cons (.c (.pb rfl (.cons .d (.cons (.whole rfl (List.length_map _).symm) (.cons (.whole rfl (by rw [List.length_map]; exact hf1.symm)) (.cons (.whole rfl (by rw [List.length_map]; exact ht0.symm)) (.cons (.whole rfl (List.length_map _).symm) .nil))))))) .nil) rfl rfl rfl rfl rfl (B0 := 140000) rfl ?_
          refine jst hσ rfl rfl rfl rfl rfl ?_
          refine jf [9, 32, 30, 6, 5, 4, 0, 1] rfl ?_
          refine jn ?_
          refine AWP.seq ?_
          refine AWP.drawP hσ _ [_, _, _, _, _, _, _, _, _, _, _, _, _, _, _, _, _] [⟨[], 0, 3, none⟩, ⟨[], 0, 2, none⟩, ⟨[1], 0, 2, none⟩, ⟨[1, 2], 0, 2, none⟩, ⟨[1, 2, 3], 0, 2, none⟩, ⟨[], 0, 1, none⟩, ⟨[], 0, 0, none⟩, ⟨[6], 0, 0, none⟩, ⟨[6, 7], 0, 0, none⟩, ⟨[6, 7, 8], 0, 0, none⟩, ⟨[6, 7, 8, 9], 0, 0, some 0⟩, ⟨[5, 6, 7, 8, 9, 10], 1, 1, none⟩, ⟨[5, 6, 7, 8, 9, 10, 11], 0, 0, some 1⟩, ⟨[1, 2, 3, 4, 5, 6, 7, 8, 9, 10, 11, 12], 0, 0, some 2⟩, ⟨[0, 1, 2, 3, 4, 5, 6, 7, 8, 9, 10, 11, 12, 13], 3, 3, none⟩, ⟨[0, 1, 2, 3, 4, 5, 6, 7, 8, 9, 10, 11, 12, 13, 14], 3, 3, none⟩, ⟨[0, 1, 2, 3, 4, 5, 6, 7, 8, 9, 10, 11, 12, 13, 14, 15], 0, 0, some 3⟩] [10, 12, 13, 16] [_, _, _, _, _] [[], [151000], [502, 152], []] rfl rfl (by decide) (by decide) (by kernel_rfl) (And.intro (And.intro (And.intro (Val.of hσ rfl rfl) rfl) (And.intro (And.intro (Val.of hσ rfl rfl) rfl) (And.intro (And.intro (Val.of hσ rfl rfl) rfl) (And.intro (Val.of hσ rfl rfl) rfl)))) (And.intro (And.intro (And.intro (Val.of hσ rfl rfl) rfl) (And.intro (And.intro (Val.of hσ rfl rfl) rfl) (And.intro (Val.of hσ rfl rfl) rfl))) (And.intro (And.intro (And.intro (Val.of hσ rfl rfl) rfl) (And.intro (And.intro (Val.of hσ rfl rfl) rfl) (And.intro (Val.of hσ rfl rfl) rfl))) (And.intro (And.intro (And.intro (Val.of hσ rfl rfl) rfl) (And.intro (And.intro (Val.of hσ rfl rfl) rfl) (And.intro (Val.of hσ rfl rfl) rfl))) (And.intro (And.intro (And.intro (Val.of hσ rfl rfl) rfl) (And.intro (And.intro (Val.of hσ rfl rfl) rfl) (And.intro (Val.of hσ rfl rfl) rfl))) (And.intro (And.intro (And.intro (Val.of hσ rfl rfl) rfl) (And.intro (Val.of hσ rfl rfl) rfl)) (And.intro (And.intro (Val.of hσ rfl rfl) rfl) (And.intro (And.intro (Val.of hσ rfl rfl) rfl) (And.intro (And.intro (Val.of hσ rfl rfl) rfl) (And.intro (And.intro (Val.of hσ rfl rfl) rfl) (And.intro (And.intro (Eff.p (Eff.rows hσ (B0 := 151000) rfl rfl rfl rfl (c86o (ts := s.facts) h1 h2) (VAs.self rfl) rfl rfl rfl rfl rfl)) rfl) (And.intro (And.intro (Val.of hσ rfl rfl) rfl) (And.intro (And.intro (Eff.litAbs (l := 151000) (ds := Pt.cells (⟨(c.code.length : Int), s.facts⟩ : Pt)) hσ rfl rfl rfl rfl rfl rfl rfl rfl rfl rfl rfl rfl (fun e => .d rfl (.rs rfl (List.length_map _).symm .nil)) rfl rfl) rfl) (And.intro (And.intro (Eff.appMove (xs := c.pts.map Pt.cells) (ys := [Pt.cells (⟨(c.code.length : Int), s.facts⟩ : Pt)]) (zs := ((c.beg ((k : Nat) : Int)).point (c.beg ((k : Nat) : Int)).code.length s.facts).pts.map Pt.cells) (n := ((c.beg ((k : Nat) : Int)).point (c.beg ((k : Nat) : Int)).code.length s.facts).pts.length) hσ rfl rfl rfl rfl rfl rfl rfl rfl rfl rfl rfl rfl rfl rfl rfl rfl (.row rfl (List.length_map _).symm) rfl rfl (by decide) rfl (by simp; omega) (by simp; omega) (by rw [show ((c.beg ((k : Nat) : Int)).point (c.beg ((k : Nat) : Int)).code.length s.facts).pts = c.pts ++ [(⟨(c.code.length : Int), s.facts⟩ : Pt)] from rfl, List.map_append]; rfl) (by simp) rfl) rfl) (And.intro (And.intro (Val.of hσ rfl rfl) rfl) (And.intro (And.intro (Val.of hσ rfl rfl) rfl) (And.intro (And.intro (Eff.p (Eff.storeBox hσ rfl rfl rfl rfl rfl rfl rfl rfl rfl rfl rfl rfl rfl)) rfl) trivial))))))))))))))))) ?_
          refine jw [9, 32, 30, 6, 5, 4, 0, 1] rfl ?_
          refine jnw ?_
          refine jsr ?_
          iterate 4 refine jst hσ rfl rfl rfl rfl rfl ?_
          refine jf [159, 156, 9, 32, 30, 6, 5, 4, 0, 1] rfl ?_
          refine AOps.inn hσ [500, 501, 153, 503, 504] (bin := [mkB b n 1 2 ((c.beg ((k : Nat) : Int)).point (c.beg ((k : Nat) : Int)).code.length s.facts), irow (((c.beg ((k : Nat) : Int)).point (c.beg ((k : Nat) : Int)).code.length s.facts)).code, prow (((c.beg ((k : Nat) : Int)).point (c.beg ((k : Nat) : Int)).code.length s.facts)).pts, nrow (((c.beg ((k : Nat) : Int)).point (c.beg ((k : Nat) : Int)).code.length s.facts)).fr, nrow (((c.beg ((k : Nat) : Int)).point (c.beg ((k : Nat) : Int)).code.length s.facts)).to]) rfl rfl rfl rfl (c1103 (b := b) (n := n) (c := ((c.beg ((k : Nat) : Int)).point (c.beg ((k : Nat) : Int)).code.length s.facts)) (t := s.sum) (ds := Sm.cells s) (j := 3) h1 h2 rfl (term_xs hs.1) (by simp only [Cs.emit, Cs.term, Cs.beg, Cs.arg, Cs.point, List.length_append, List.length_singleton, List.length_set]; omega)) rfl rfl rfl rfl rfl rfl (B0 := 161000) rfl rfl ?_
          refine jnm ?_
          refine jf [9, 32, 30, 6, 5, 4, 0, 1] rfl ?_
          refine jns ?_
          refine jst hσ rfl rfl rfl rfl rfl ?_
          refine AOps.lone hσ rfl rfl rfl rfl (c1102 (b := b) (c := (((c.beg ((k : Nat) : Int)).point (c.beg ((k : Nat) : Int)).code.length s.facts).term s.sum)) h1 h2) (.cons (.c (.pb rfl (.cons .d (.cons (.whole rfl (List.length_map _).symm) (.cons (.whole rfl (by rw [List.length_map]; exact hf2.symm)) (.cons (.whole rfl (by rw [List.length_map]; exact ht2.symm)) (.cons (.whole rfl (List.length_map _).symm) .nil))))))) .nil) rfl rfl rfl rfl rfl (B0 := 163000) rfl ?_
          refine jst hσ rfl rfl rfl rfl rfl ?_
          refine jf [10, 9, 32, 30, 6, 5, 4, 0, 1] rfl ?_
          refine jns ?_
          refine jst hσ rfl rfl rfl rfl rfl ?_
          refine AOps.inn hσ [500, 161005, 153, 503, 504] (bin := [mkB b n 1 2 (((c.beg ((k : Nat) : Int)).point (c.beg ((k : Nat) : Int)).code.length s.facts).term s.sum), irow ((((c.beg ((k : Nat) : Int)).point (c.beg ((k : Nat) : Int)).code.length s.facts).term s.sum)).code, prow ((((c.beg ((k : Nat) : Int)).point (c.beg ((k : Nat) : Int)).code.length s.facts).term s.sum)).pts, nrow ((((c.beg ((k : Nat) : Int)).point (c.beg ((k : Nat) : Int)).code.length s.facts).term s.sum)).fr, nrow ((((c.beg ((k : Nat) : Int)).point (c.beg ((k : Nat) : Int)).code.length s.facts).term s.sum)).to]) rfl rfl rfl rfl (c1096 (b := b) (n := n) (c := (((c.beg ((k : Nat) : Int)).point (c.beg ((k : Nat) : Int)).code.length s.facts).term s.sum)) (op := 6) (a := 0) h1 h2 (by simp only [Cs.emit, Cs.term, Cs.beg, Cs.arg, Cs.point, List.length_append, List.length_singleton, List.length_set]; omega)) rfl rfl rfl rfl rfl rfl (B0 := 165000) rfl rfl ?_
          refine jnm ?_
          refine jf [10, 9, 32, 30, 6, 5, 4, 0, 1] rfl ?_
          refine jns ?_
          iterate 2 refine jst hσ rfl rfl rfl rfl rfl ?_
          refine AOps.inn hσ [500, 165005, 153, 503, 504] (bin := [mkB b n 1 2 ((((c.beg ((k : Nat) : Int)).point (c.beg ((k : Nat) : Int)).code.length s.facts).term s.sum).emit 6 0), irow (((((c.beg ((k : Nat) : Int)).point (c.beg ((k : Nat) : Int)).code.length s.facts).term s.sum).emit 6 0)).code, prow (((((c.beg ((k : Nat) : Int)).point (c.beg ((k : Nat) : Int)).code.length s.facts).term s.sum).emit 6 0)).pts, nrow (((((c.beg ((k : Nat) : Int)).point (c.beg ((k : Nat) : Int)).code.length s.facts).term s.sum).emit 6 0)).fr, nrow (((((c.beg ((k : Nat) : Int)).point (c.beg ((k : Nat) : Int)).code.length s.facts).term s.sum).emit 6 0)).to]) rfl rfl rfl rfl (ihx ((((c.beg ((k : Nat) : Int)).point (c.beg ((k : Nat) : Int)).code.length s.facts).term s.sum).emit 6 0) (hi0.of (le_w3 hs.1) (by omega))) rfl rfl rfl rfl rfl rfl (B0 := 168000) rfl rfl ?_
          refine jnm ?_
          refine jst hσ rfl rfl rfl rfl rfl ?_
          refine jf [6, 10, 9, 32, 30, 5, 4, 0, 1] rfl ?_
          refine jns ?_
          iterate 2 refine jst hσ rfl rfl rfl rfl rfl ?_
          refine AOps.inn hσ [500, 168005, 168006, 503, 504] (bin := [mkB b n 1 2 (cmp x ((((c.beg ((k : Nat) : Int)).point (c.beg ((k : Nat) : Int)).code.length s.facts).term s.sum).emit 6 0)), irow ((cmp x ((((c.beg ((k : Nat) : Int)).point (c.beg ((k : Nat) : Int)).code.length s.facts).term s.sum).emit 6 0))).code, prow ((cmp x ((((c.beg ((k : Nat) : Int)).point (c.beg ((k : Nat) : Int)).code.length s.facts).term s.sum).emit 6 0))).pts, nrow ((cmp x ((((c.beg ((k : Nat) : Int)).point (c.beg ((k : Nat) : Int)).code.length s.facts).term s.sum).emit 6 0))).fr, nrow ((cmp x ((((c.beg ((k : Nat) : Int)).point (c.beg ((k : Nat) : Int)).code.length s.facts).term s.sum).emit 6 0))).to]) rfl rfl rfl rfl (c1096 (b := b) (n := n) (c := (cmp x ((((c.beg ((k : Nat) : Int)).point (c.beg ((k : Nat) : Int)).code.length s.facts).term s.sum).emit 6 0))) (op := 5) (a := (c.code.length : Int)) h1 h2 (by omega)) rfl rfl rfl rfl rfl rfl (B0 := 171000) rfl rfl ?_
          refine jnm ?_
          refine jf [6, 10, 9, 32, 30, 5, 4, 0, 1] rfl ?_
          refine jn ?_
          refine AWP.drawR hσ _ [_, _, _, _, _, _, _, _, _, _] [⟨[], 0, 1, none⟩, ⟨[0], 0, 1, none⟩, ⟨[0, 1], 0, 1, none⟩, ⟨[0, 1, 2], 0, 1, none⟩, ⟨[], 0, 1, none⟩, ⟨[], 0, 0, none⟩, ⟨[5], 0, 0, some 0⟩, ⟨[0, 1, 2, 3, 4, 5, 6], 1, 1, none⟩, ⟨[0, 1, 2, 3, 4, 5, 6, 7], 1, 1, none⟩, ⟨[0, 1, 2, 3, 4, 5, 6, 7, 8], 0, 0, some 1⟩] [6, 9] [_, _, _] rfl rfl (by decide) (by decide) (by kernel_rfl) (And.intro (And.intro (Val.of hσ rfl rfl) (Val.of hσ rfl rfl)) (And.intro (And.intro (Val.of hσ rfl rfl) (Val.of hσ rfl rfl)) (And.intro (And.intro (Val.of hσ rfl rfl) (Val.of hσ rfl rfl)) (And.intro (And.intro (Val.of hσ rfl rfl) (Val.of hσ rfl rfl)) (And.intro (And.intro (Val.of hσ rfl rfl) (Val.of hσ rfl rfl)) (And.intro (Val.of hσ rfl rfl) (And.intro (Eff.lone hσ (B0 := 178000) rfl rfl rfl rfl (c1102 (b := b) (c := ((cmp x ((((c.beg ((k : Nat) : Int)).point (c.beg ((k : Nat) : Int)).code.length s.facts).term s.sum).emit 6 0)).emit 5 (c.code.length : Int))) h1 h2) (.cons (.c (.pb rfl (.cons .d (.cons (.whole rfl (List.length_map _).symm) (.cons (.whole rfl (by rw [List.length_map]; exact hf4.symm)) (.cons (.whole rfl (by rw [List.length_map]; exact ht4.symm)) (.cons (.whole rfl (List.length_map _).symm) .nil))))))) .nil) rfl rfl rfl rfl rfl) (And.intro (Val.vif hσ rfl rfl (by first | omega | (simp at *; omega))) (And.intro (Val.of hσ rfl rfl) (And.intro (Eff.storeRow (ex := In.cells ((((cmp x ((((c.beg ((k : Nat) : Int)).point (c.beg ((k : Nat) : Int)).code.length s.facts).term s.sum).emit 6 0)).emit 5 (c.code.length : Int))).code.getD (((c.beg ((k : Nat) : Int)).point (c.beg ((k : Nat) : Int)).code.length s.facts).term s.sum).code.length default)) (xs' := ((((cmp x ((((c.beg ((k : Nat) : Int)).point (c.beg ((k : Nat) : Int)).code.length s.facts).term s.sum).emit 6 0)).emit 5 (c.code.length : Int))).arg (((c.beg ((k : Nat) : Int)).point (c.beg ((k : Nat) : Int)).code.length s.facts).term s.sum).code.length).code.map In.cells) hσ rfl rfl rfl rfl rfl rfl rfl rfl rfl rfl rfl rfl rfl rfl rfl (gj hlt1 (by omega)) (sj (v := (⟨((((cmp x ((((c.beg ((k : Nat) : Int)).point (c.beg ((k : Nat) : Int)).code.length s.facts).term s.sum).emit 6 0)).emit 5 (c.code.length : Int))).code.getD (((c.beg ((k : Nat) : Int)).point (c.beg ((k : Nat) : Int)).code.length s.facts).term s.sum).code.length default).op, ((((cmp x ((((c.beg ((k : Nat) : Int)).point (c.beg ((k : Nat) : Int)).code.length s.facts).term s.sum).emit 6 0)).emit 5 (c.code.length : Int))).code.length : Nat)⟩ : In)) (by omega) rfl) rfl) trivial)))))))))) ?_
          rw [ed, len_arg (c := ((cmp x ((((c.beg ((k : Nat) : Int)).point (c.beg ((k : Nat) : Int)).code.length s.facts).term s.sum).emit 6 0)).emit 5 (c.code.length : Int))) (k := (((c.beg ((k : Nat) : Int)).point (c.beg ((k : Nat) : Int)).code.length s.facts).term s.sum).code.length)]
          exact ⟨rfl, (((Ent.sel [500, 503, 504, 171005, 168006] (e' := [(0, _), (1, _), (6, _)]) rfl rfl ⟨rfl, rfl, rfl, trivial⟩ rfl).trans (Ent.sub2 171005 901 rfl rfl)).trans (Ent.sub2 168006 902 rfl rfl)).trans (Ent.to ⟨rfl, rfl, rfl, trivial⟩ rfl)⟩
         ·
          skip
          exact absurd (below_one hk) (of_decide_eq_false hc136)
 refine AWP.seq ?_
 refine AWP.drawR hσ _ [_, _, _, _, _, _, _, _, _] [⟨[], 0, 1, none⟩, ⟨[0], 0, 1, none⟩, ⟨[0, 1], 0, 1, none⟩, ⟨[0, 1, 2], 0, 1, none⟩, ⟨[], 0, 1, none⟩, ⟨[], 0, 0, none⟩, ⟨[5], 0, 0, some 0⟩, ⟨[0, 1, 2, 3, 4, 5, 6], 1, 1, none⟩, ⟨[0, 1, 2, 3, 4, 5, 6, 7], 0, 0, some 1⟩] [6, 8] [_, _, _] rfl rfl (by decide) (by decide) (by kernel_rfl) (And.intro (And.intro (Val.of hσ rfl rfl) (Val.of hσ rfl rfl)) (And.intro (And.intro (Val.of hσ rfl rfl) (Val.of hσ rfl rfl)) (And.intro (And.intro (Val.of hσ rfl rfl) (Val.of hσ rfl rfl)) (And.intro (And.intro (Val.of hσ rfl rfl) (Val.of hσ rfl rfl)) (And.intro (And.intro (Val.of hσ rfl rfl) (Val.of hσ rfl rfl)) (And.intro (Val.of hσ rfl rfl) (And.intro (Eff.lone hσ (B0 := 187000) rfl rfl rfl rfl (c1102 (b := b) (c := d) h1 h2) (.cons (.c (.pb rfl (.cons .d (.cons (.whole rfl (List.length_map _).symm) (.cons (.whole rfl (by rw [List.length_map]; exact hdf.symm)) (.cons (.whole rfl (by rw [List.length_map]; exact hdt.symm)) (.cons (.whole rfl (List.length_map _).symm) .nil))))))) .nil) rfl rfl rfl rfl rfl) (And.intro (Val.vif hσ rfl rfl (by first | omega | (simp at *; omega))) (And.intro (Eff.storeRow (ex := [.int .i64 (d.to.getD k default)]) (xs' := ((d.fin ((k : Nat) : Int)).to).map (fun n => [D.int .i64 n])) hσ rfl rfl rfl rfl rfl rfl rfl rfl rfl rfl rfl rfl rfl rfl rfl (gj (f := (fun n => [D.int .i64 n])) (by omega) (by omega)) (sj (v := (d.code.length : Int)) (by omega) rfl) rfl) trivial))))))))) ?_
 refine jsr ?_
 iterate 2 refine jst hσ rfl rfl rfl rfl rfl ?_
 refine jn ?_
 refine AWP.ret ?_
 rw [cmp_one, ← ed]
 refine ⟨.inl rfl, _, ((Ent.sel [500, 503, 504, 901, 902] (e' := [(4, _)]) rfl rfl ⟨rfl, trivial⟩ rfl).trans (Ent.sub2 901 505 rfl rfl)).trans (Ent.sub2 902 506 rfl rfl), _, rfl, rfl, rfl⟩

end Go.Al
namespace Go.Al
open Go.Proofs
set_option linter.unusedVariables false
set_option linter.unusedSimpArgs false
theorem node_at {body : List Sm} {k k' : Nat} {s : Sm} {a : Int} {ks : List Tr} (h : treeAt body k = some (.node s a ks, k')) : a = (k : Nat) := by
  rw [treeAt_eq] at h
  split at h
  · cases h
  · split at h
    · cases h
    · simp only [Option.map_eq_some_iff] at h
      obtain ⟨⟨ts, k2⟩, h3, h4⟩ := h
      simp only [Prod.mk.injEq, Tr.node.injEq] at h4
      exact h4.1.2.1.symm
theorem iter_nil {f : Nat → Option (Tr × Nat)} {k k' : Nat} (h : iterT f 0 k = some ([], k')) : k' = k := by
  simp only [iterT, Option.some.injEq, Prod.mk.injEq] at h; exact h.2.symm
theorem iter_cons {f : Nat → Option (Tr × Nat)} {q k k' : Nat} {x : Tr} {xs : List Tr} (h : iterT f (q + 1) k = some (x :: xs, k')) : ∃ k1, f k = some (x, k1) ∧ iterT f q k1 = some (xs, k') := by
  unfold iterT at h
  cases hx : f k with
  | none => rw [hx] at h; cases h
  | some p =>
    obtain ⟨t, k1⟩ := p
    rw [hx] at h
    simp only [Option.map_eq_some_iff] at h
    obtain ⟨⟨ts1, k2⟩, h1, h2⟩ := h
    simp only [Prod.mk.injEq, List.cons.injEq] at h2
    obtain ⟨⟨rfl, rfl⟩, rfl⟩ := h2
    exact ⟨k1, rfl, h1⟩
theorem c1095 {L : Nat} (h1 : 4096 ≤ L) (h2 : L ≤ 1073741824) {b : List Sm} (hb : b.length ≤ 1000) : ∀ {t : Tr} {k k' : Nat}, treeAt b k = some (t, k') → t.cok b.length → ∀ {c : Cs}, CsIn b.length t.nodes c → MC Tryz.prog L 86 [.c (.pt 0 0 0), eI (k : Nat)] (mkH b b.length c) (Outs (eI (k' : Nat)) (mkH6 b b.length (cmp t c)))
 | .node s a [x, y], k, k', h, ht, c, hc => by
  obtain ⟨e1, e2, e3, e4, e5⟩ := node_inv h
  obtain rfl := node_at h
  obtain ⟨k1, i1, i2⟩ := iter_cons e4
  obtain ⟨k2, i3, i4⟩ := iter_cons i2
  obtain rfl := iter_nil i4
  exact c1095_2 h1 h2 e1 e2.symm e1 hb ht.2.1 (fun c hc => c1095 h1 h2 hb i1 ht.2.2.2.1 hc) (fun c => le_cmp ht.2.2.2.1) (fun c hc => c1095 h1 h2 hb i3 ht.2.2.2.2.1 hc) (fun c => le_cmp ht.2.2.2.2.1) ht.2.2.1.2.symm (by simpa [Tr.nodes, Trs.nodes] using hc)
 | .node s a [x], k, k', h, ht, c, hc => by
  obtain ⟨e1, e2, e3, e4, e5⟩ := node_inv h
  obtain rfl := node_at h
  obtain ⟨k1, i1, i2⟩ := iter_cons e4
  obtain rfl := iter_nil i2
  exact c1095_1 h1 h2 e1 e2.symm e1 hb ht.2.1 (fun c hc => c1095 h1 h2 hb i1 ht.2.2.2.1 hc) (fun c => le_cmp ht.2.2.2.1) ht.2.2.1.2.symm (by simpa [Tr.nodes, Trs.nodes] using hc)
 | .node s a [], k, k', h, ht, c, hc => by
  obtain ⟨e1, e2, e3, e4, e5⟩ := node_inv h
  obtain rfl := node_at h
  obtain rfl := iter_nil e4
  exact c1095_0 h1 h2 e1 e2.symm e1 hb ht.2.1 ht.2.2.1.2.symm (by simpa [Tr.nodes, Trs.nodes] using hc)
 | .node s a (x :: y :: z :: ks), k, k', h, ht, c, hc => by
  have h1 : ((x :: y :: z :: ks).length : Int) = below s.kind := ht.2.2.1.2
  have h2 := (below_le s.kind).2
  simp only [List.length_cons] at h1
  omega
/-- What a valid program comes to, before the end is laid. -/
def cs0 (n : Nat) : Cs := ⟨[], [], List.replicate n 0, List.replicate n 0⟩
def csP (p : Pm) (t : Tr) : Cs := (cmp t (cs0 p.body.length)).emit 11 0
def anP (p : Pm) (t : Tr) : An := ⟨p.pre, p.post, (csP p t).code, (csP p t).pts⟩
structure PmT (p : Pm) (t : Tr) : Prop where
  at0 : treeAt p.body 0 = some (t, p.body.length)
  len : p.body.length ≤ 30
  cok : t.cok p.body.length
  nodes : t.nodes = p.body.length
theorem PmT.in0 {p : Pm} {t : Tr} (h : PmT p t) : CsIn p.body.length t.nodes (cs0 p.body.length) :=
  ⟨List.length_replicate, List.length_replicate, by have := h.nodes; have := h.len; simp only [cs0, List.length_nil]; omega, by have := h.nodes; have := h.len; simp only [cs0, List.length_nil]; omega⟩
theorem PmT.le {p : Pm} {t : Tr} (h : PmT p t) : (csP p t).code.length ≤ 901 ∧ (csP p t).pts.length ≤ 30 ∧ (csP p t).fr.length = p.body.length ∧ (csP p t).to.length = p.body.length := by
  have g := le_cmp h.cok (c := cs0 p.body.length)
  have e1 := g.code; have e2 := g.pts; have e3 := g.fr; have e4 := g.to; have e5 := h.nodes; have e6 := h.len
  simp only [cs0, List.length_nil, List.length_replicate] at e1 e2 e3 e4
  refine ⟨?_, ?_, ?_, ?_⟩ <;> simp only [csP, Cs.emit, cs0, List.length_append, List.length_singleton] <;> omega
end Go.Al
namespace Go.Al
open Go.Proofs
set_option linter.unusedVariables false
set_option linter.unusedSimpArgs false
set_option maxRecDepth 10000
set_option maxHeartbeats 4000000
theorem c1090 {L : Nat} (h1 : 4096 ≤ L) (h2 : L ≤ 1073741824) {p : Pm} {t : Tr} (hT : PmT p t) : MC Tryz.prog L 51 [ptr (Pm.data p)] [] (Outs (.c (.pt 0 0 0)) (mkH p.body p.body.length (csP p t))) := by
 have hσ := SGok (nt := 27) h1 (Nat.le_trans h2 (by decide))
 refine MC.body hσ Tryz.func51 (by kernel_rfl) rfl rfl (Nat.le_of_ble_eq_true rfl) (fun hF => ?_)
 have hn30 := hT.len
 have hle := hT.le
 have hce : (csP p t).code.length = (cmp t (cs0 p.body.length)).code.length + 1 := by simp [csP, Cs.emit]
 refine jsr ?_
 refine jst hσ rfl rfl rfl rfl rfl ?_
 refine jns ?_
 iterate 4 refine jst hσ rfl rfl rfl rfl rfl ?_
 first | refine jle hσ rfl rfl rfl rfl rfl rfl rfl rfl rfl rfl rfl ?_ | refine jst hσ rfl rfl rfl rfl rfl ?_ | refine jvf hσ rfl rfl rfl rfl rfl ?_
 refine jst hσ rfl rfl rfl rfl rfl ?_
 refine jf [3, 2, 0] rfl ?_
 refine jn ?_
 refine AWP.seq ?_
 refine AWP.drawS hσ _ [_, _, _, _, _, _, _, _, _, _, _, _, _] [⟨[], 0, 1, none⟩, ⟨[0], 0, 1, none⟩, ⟨[0, 1], 0, 1, none⟩, ⟨[0, 1, 2], 0, 1, none⟩, ⟨[], 0, 1, none⟩, ⟨[], 0, 1, none⟩, ⟨[5], 0, 1, none⟩, ⟨[], 0, 0, none⟩, ⟨[7], 0, 0, some 0⟩, ⟨[], 0, 1, none⟩, ⟨[0, 1, 2, 3, 4, 5, 6, 7, 8, 9], 1, 1, none⟩, ⟨[0, 1, 2, 3, 4, 5, 6, 7, 8, 9, 10], 0, 0, some 1⟩, ⟨[0, 1, 2, 3, 4, 5, 6, 7, 8, 9, 10, 11], 2, 2, none⟩] [8, 11] 6 16 (.row true 1 (List.replicate (p.body.length : Int).toNat [.int .i64 0])) [_, _] [_] [[], []] rfl rfl (by decide) (by decide) (by decide) rfl (by kernel_rfl) (And.intro (And.intro (And.intro (and_flip (.inl (Val.of hσ rfl rfl)) (.inl (Val.of hσ rfl rfl))) rfl) (And.intro (and_flip (.inl (Val.of hσ rfl rfl)) (.inl (Val.of hσ rfl rfl))) rfl)) (And.intro (And.intro (And.intro (and_flip (.inl (Val.of hσ rfl rfl)) (.inl (Val.of hσ rfl rfl))) rfl) (And.intro (and_flip (.inl (Val.of hσ rfl rfl)) (.inl (Val.of hσ rfl rfl))) rfl)) (And.intro (And.intro (And.intro (and_flip (.inl (Val.of hσ rfl rfl)) (.inl (Val.of hσ rfl rfl))) rfl) (And.intro (and_flip (.inl (Val.of hσ rfl rfl)) (.inl (Val.of hσ rfl rfl))) rfl)) (And.intro (And.intro (And.intro (and_flip (.inl (Val.of hσ rfl rfl)) (.inl (Val.of hσ rfl rfl))) rfl) (And.intro (and_flip (.inl (Val.of hσ rfl rfl)) (.inl (Val.of hσ rfl rfl))) rfl)) (And.intro (And.intro (And.intro (and_flip (.inr (Eff.litE hσ rfl rfl rfl rfl rfl rfl rfl (by repeat' (first | exact .nil | refine .skip ?_ | refine .cons rfl .row ?_ | refine .cons rfl (.box (FMs.keep rfl)) ?_)))) (.inr (Eff.litE hσ rfl rfl rfl rfl rfl rfl rfl (by repeat' (first | exact .nil | refine .skip ?_ | refine .cons rfl .row ?_ | refine .cons rfl (.box (FMs.keep rfl)) ?_))))) rfl) (And.intro (and_flip (.inr (Eff.litE hσ rfl rfl rfl rfl rfl rfl rfl (by repeat' (first | exact .nil | refine .skip ?_ | refine .cons rfl .row ?_ | refine .cons rfl (.box (FMs.keep rfl)) ?_)))) (.inr (Eff.litE hσ rfl rfl rfl rfl rfl rfl rfl (by repeat' (first | exact .nil | refine .skip ?_ | refine .cons rfl .row ?_ | refine .cons rfl (.box (FMs.keep rfl)) ?_))))) rfl)) (And.intro (And.intro (And.intro (and_flip (.inl (Val.of hσ rfl rfl)) (.inl (Val.of hσ rfl rfl))) rfl) (And.intro (and_flip (.inl (Val.of hσ rfl rfl)) (.inl (Val.of hσ rfl rfl))) rfl)) (And.intro (And.intro (And.intro (Eff.p (Eff.make hσ rfl rfl rfl rfl rfl rfl rfl rfl rfl (by first | omega | (simp at *; omega)) (by first | omega | (simp at *; omega)) (by first | omega | (simp at *; omega)) (by first | omega | (dsimp only; omega) | (simp only [List.length_map, beq_iff_eq, decide_eq_true_eq, decide_eq_false_iff_not, Bool.not_eq_true', Bool.not_eq_false', Bool.not_true, Bool.not_false, Int.not_lt, Int.not_le] at *; omega)) (by first | omega | (simp at *; omega)) rfl rfl rfl rfl)) rfl) (And.intro (Eff.p (Eff.make hσ rfl rfl rfl rfl rfl rfl rfl rfl rfl (by first | omega | (simp at *; omega)) (by first | omega | (simp at *; omega)) (by first | omega | (simp at *; omega)) (by first | omega | (dsimp only; omega) | (simp only [List.length_map, beq_iff_eq, decide_eq_true_eq, decide_eq_false_iff_not, Bool.not_eq_true', Bool.not_eq_false', Bool.not_true, Bool.not_false, Int.not_lt, Int.not_le] at *; omega)) (by first | omega | (simp at *; omega)) rfl rfl rfl rfl)) rfl)) (And.intro (And.intro (and_flip (.inl (Val.of hσ rfl rfl)) (.inl (Val.of hσ rfl rfl))) rfl) (And.intro (And.intro (and_flip (Eff.p (Eff.make hσ rfl rfl rfl rfl rfl rfl rfl rfl rfl (by first | omega | (simp at *; omega)) (by first | omega | (simp at *; omega)) (by first | omega | (simp at *; omega)) (by first | omega | (dsimp only; omega) | (simp only [List.length_map, beq_iff_eq, decide_eq_true_eq, decide_eq_false_iff_not, Bool.not_eq_true', Bool.not_eq_false', Bool.not_true, Bool.not_false, Int.not_lt, Int.not_le] at *; omega)) (by first | omega | (simp at *; omega)) rfl rfl rfl rfl)) (Eff.p (Eff.make hσ rfl rfl rfl rfl rfl rfl rfl rfl rfl (by first | omega | (simp at *; omega)) (by first | omega | (simp at *; omega)) (by first | omega | (simp at *; omega)) (by first | omega | (dsimp only; omega) | (simp only [List.length_map, beq_iff_eq, decide_eq_true_eq, decide_eq_false_iff_not, Bool.not_eq_true', Bool.not_eq_false', Bool.not_true, Bool.not_false, Int.not_lt, Int.not_le] at *; omega)) (by first | omega | (simp at *; omega)) rfl rfl rfl rfl))) rfl) (And.intro (And.intro (And.intro (and_flip (.inr (Eff.litE hσ rfl rfl rfl rfl rfl rfl rfl (by repeat' (first | exact .nil | refine .skip ?_ | refine .cons rfl .row ?_ | refine .cons rfl (.box (FMs.keep rfl)) ?_)))) (.inr (Eff.litE hσ rfl rfl rfl rfl rfl rfl rfl (by repeat' (first | exact .nil | refine .skip ?_ | refine .cons rfl .row ?_ | refine .cons rfl (.box (FMs.keep rfl)) ?_))))) rfl) (And.intro (and_flip (.inr (Eff.litE hσ rfl rfl rfl rfl rfl rfl rfl (by repeat' (first | exact .nil | refine .skip ?_ | refine .cons rfl .row ?_ | refine .cons rfl (.box (FMs.keep rfl)) ?_)))) (.inr (Eff.litE hσ rfl rfl rfl rfl rfl rfl rfl (by repeat' (first | exact .nil | refine .skip ?_ | refine .cons rfl .row ?_ | refine .cons rfl (.box (FMs.keep rfl)) ?_))))) rfl)) (And.intro (And.intro (and_flip trivial (.inl (Val.of hσ rfl rfl))) rfl) (And.intro (And.intro (and_flip trivial (Eff.p (Eff.box hσ rfl rfl rfl rfl rfl rfl rfl rfl))) rfl) (And.intro (And.intro (and_flip trivial (.inl (Val.of hσ rfl rfl))) rfl) trivial))))))))))))) ?_
 refine jw [4, 2, 0] rfl ?_
 refine jnw ?_
 refine jsr ?_
 refine jst hσ rfl rfl rfl rfl rfl ?_
 refine AOps.to (Ent.nameBoxE 21 901 2 true 1 rfl rfl rfl) ?_
 refine AOps.to (Ent.nameBoxE 21 902 2 true 4 rfl rfl rfl) ?_
 refine AOps.to (Ent.to (e' := [(22, _), (4, _)]) (H' := [(16, nrow (List.replicate p.body.length 0)), (18, nrow (List.replicate p.body.length 0)), (21, .box [.d (sms p.body), .rs 901 0 0, .rs 16 0 p.body.length, .rs 18 0 p.body.length, .rs 902 0 0]), (901, irow []), (902, prow [])]) ⟨rfl, rfl, trivial⟩ (by rw [nrow, List.map_replicate]; rfl)) ?_
 refine AOps.inn hσ [21, 901, 902, 16, 18] (bin := [mkB p.body p.body.length 1 2 (cs0 p.body.length), irow (cs0 p.body.length).code, prow (cs0 p.body.length).pts, nrow (cs0 p.body.length).fr, nrow (cs0 p.body.length).to]) rfl rfl rfl rfl (c1095 (b := p.body) h1 h2 (by omega) hT.at0 hT.cok hT.in0) rfl rfl rfl rfl rfl rfl (B0 := 24000) rfl rfl ?_
 refine jnm ?_
 refine jf [4] rfl ?_
 refine jns ?_
 refine jst hσ rfl rfl rfl rfl rfl ?_
 refine AOps.inn hσ [21, 24005, 24006, 16, 18] (bin := [mkB p.body p.body.length 1 2 (cmp t (cs0 p.body.length)), irow (cmp t (cs0 p.body.length)).code, prow (cmp t (cs0 p.body.length)).pts, nrow (cmp t (cs0 p.body.length)).fr, nrow (cmp t (cs0 p.body.length)).to]) rfl rfl rfl rfl (c1096 (b := p.body) (n := p.body.length) (c := (cmp t (cs0 p.body.length))) (op := 11) (a := 0) h1 h2 (by omega)) rfl rfl rfl rfl rfl rfl (B0 := 26000) rfl rfl ?_
 refine jnm ?_
 refine jf [4] rfl ?_
 refine jns ?_
 iterate 2 refine jst hσ rfl rfl rfl rfl rfl ?_
 refine jn ?_
 refine AWP.ret ?_
 refine ⟨.inl rfl, _, (Ent.sel [21, 26005, 24006, 16, 18] (e' := [(2, _)]) rfl rfl ⟨rfl, trivial⟩ rfl).trans (((((Ent.sub2 21 0 rfl rfl).trans (Ent.sub2 26005 1 rfl rfl)).trans (Ent.sub2 24006 2 rfl rfl)).trans (Ent.sub2 16 3 rfl rfl)).trans (Ent.sub2 18 4 rfl rfl)), _, rfl, rfl, rfl⟩
theorem c1085 {L : Nat} (h1 : 4096 ≤ L) (h2 : L ≤ 1073741824) {p : Pm} {t : Tr} (hT : PmT p t) : MC Tryz.prog L 21 [ptr (Pm.data p)] [] (Plain (aAn (anP p t))) := by
 refine MC.data ?_
 have hσ := SGok (nt := 25) h1 (Nat.le_trans h2 (by decide))
 refine MC.body hσ Tryz.func21 (by kernel_rfl) rfl rfl (Nat.le_of_ble_eq_true rfl) (fun hF => ?_)
 refine jsr ?_
 refine AOps.heap (HS.alloc hσ rfl rfl rfl rfl rfl) rfl ?_
 refine jnm ?_
 refine jns ?_
 refine jst hσ rfl rfl rfl rfl rfl ?_
 refine AOps.outs hσ rfl rfl rfl rfl (c1090 (p := p) (t := t) h1 h2 hT) (VAs.self rfl) rfl rfl rfl rfl (B0 := 6000) rfl ?_
 refine jnm ?_
 refine jst hσ rfl rfl rfl rfl rfl ?_
 refine jf [3, 2, 0] rfl ?_
 refine jn ?_
 refine AWP.seq ?_
 refine AWP.drawR hσ _ [_, _, _, _, _, _, _, _, _, _, _, _, _, _, _, _, _, _, _, _] [⟨[], 0, 0, none⟩, ⟨[0], 0, 0, none⟩, ⟨[0, 1], 0, 0, none⟩, ⟨[0, 1, 2], 0, 0, none⟩, ⟨[0, 1, 2, 3], 0, 0, some 0⟩, ⟨[], 0, 1, none⟩, ⟨[5], 0, 1, none⟩, ⟨[5, 6], 0, 1, none⟩, ⟨[5, 6, 7], 0, 1, none⟩, ⟨[0, 1, 2, 3, 4, 5, 6, 7, 8], 0, 0, some 1⟩, ⟨[], 0, 2, none⟩, ⟨[10], 0, 2, none⟩, ⟨[10, 11], 0, 2, none⟩, ⟨[10, 11, 12], 0, 2, none⟩, ⟨[], 0, 2, none⟩, ⟨[14], 0, 2, none⟩, ⟨[14, 15], 0, 2, none⟩, ⟨[14, 15, 16], 0, 2, none⟩, ⟨[0, 1, 2, 3, 4, 5, 6, 7, 8, 9, 10, 11, 12, 13, 14, 15, 16, 17], 2, 2, none⟩, ⟨[0, 1, 2, 3, 4, 5, 6, 7, 8, 9, 10, 11, 12, 13, 14, 15, 16, 17, 18], 0, 0, some 2⟩] [4, 9, 19] [_, _, _, _] rfl rfl (by decide) (by decide) (by kernel_rfl) (And.intro (Val.of hσ rfl rfl) (And.intro (Val.of hσ rfl rfl) (And.intro (Val.of hσ rfl rfl) (And.intro (Val.of hσ rfl rfl) (And.intro (Eff.plainD hσ (B0 := 11000) rfl rfl rfl rfl (c86 (ts := p.pre) h1 h2) (VAs.self rfl) rfl rfl rfl rfl rfl) (And.intro (And.intro (Val.of hσ rfl rfl) (Val.of hσ rfl rfl)) (And.intro (And.intro (Val.of hσ rfl rfl) (Val.of hσ rfl rfl)) (And.intro (And.intro (Val.of hσ rfl rfl) (Val.of hσ rfl rfl)) (And.intro (And.intro (Val.of hσ rfl rfl) (Val.of hσ rfl rfl)) (And.intro (Eff.plainD hσ (B0 := 16000) rfl rfl rfl rfl (c86 (ts := p.post) h1 h2) (VAs.self rfl) rfl rfl rfl rfl rfl) (And.intro (And.intro (Val.of hσ rfl rfl) (And.intro (Val.of hσ rfl rfl) (Val.of hσ rfl rfl))) (And.intro (And.intro (Val.of hσ rfl rfl) (And.intro (Val.of hσ rfl rfl) (Val.of hσ rfl rfl))) (And.intro (And.intro (Val.of hσ rfl rfl) (And.intro (Val.of hσ rfl rfl) (Val.of hσ rfl rfl))) (And.intro (And.intro (Val.of hσ rfl rfl) (And.intro (Val.of hσ rfl rfl) (Val.of hσ rfl rfl))) (And.intro (And.intro (Val.of hσ rfl rfl) (And.intro (Val.of hσ rfl rfl) (Val.of hσ rfl rfl))) (And.intro (And.intro (Val.of hσ rfl rfl) (And.intro (Val.of hσ rfl rfl) (Val.of hσ rfl rfl))) (And.intro (And.intro (Val.of hσ rfl rfl) (And.intro (Val.of hσ rfl rfl) (Val.of hσ rfl rfl))) (And.intro (And.intro (Val.of hσ rfl rfl) (And.intro (Val.of hσ rfl rfl) (Val.of hσ rfl rfl))) (And.intro (Val.of hσ rfl rfl) (And.intro (Eff.storeBox hσ rfl rfl rfl rfl rfl rfl rfl rfl rfl rfl rfl rfl rfl) trivial)))))))))))))))))))) ?_
 refine AWP.ret ?_
 refine ⟨.inl rfl, _, Ent.refl, _, rfl, ?_⟩
 exact .v (.agg (.cons .d (.cons .d (.cons (.whole rfl (List.length_map _).symm) (.cons (.whole rfl (List.length_map _).symm) .nil)))))
theorem c1081v {L : Nat} (h1 : 4096 ≤ L) (h2 : L ≤ 1073741824) {p : Pm} {t : Tr} (hT : PmT p t) (hp : progB p = true) (hv : annB (anP p t) = true) : MC Tryz.prog L 6 [aPm p] [] (Plain (.tup [aAn (anP p t), eB true])) := by
 refine MC.data ?_
 have hσ := SGok (nt := 13) h1 (Nat.le_trans h2 (by decide))
 refine MC.body hσ Tryz.func6 (by kernel_rfl) rfl rfl (Nat.le_of_ble_eq_true rfl) (fun hF => ?_)
 refine jsr ?_
 refine AOps.heap (HS.box hσ rfl rfl rfl rfl rfl rfl rfl) rfl ?_
 refine jnm ?_
 refine AOps.to (Ent.freeze 1 (e' := [(1, _), (0, _)]) rfl (.cons rfl (.c (.box (cs := Pm.data p) rfl (VMs.self rfl))) (.cons rfl (.keep rfl) .nil)) (.skip .nil)) ?_
 refine jnm ?_
 refine jf [1] rfl ?_
 refine AOps.heap (HS.alloc hσ rfl rfl rfl rfl rfl) rfl ?_
 refine jnm ?_
 refine jst hσ rfl rfl rfl rfl rfl ?_
 refine jn ?_
 refine AWP.seq ?_
 refine jsr ?_
 refine AOps.lone hσ rfl rfl rfl rfl ((c55 (p := p) h1 h2).plain (u := eB true) (by rw [hp])) (VAs.self rfl) rfl rfl rfl rfl rfl (B0 := 6000) rfl ?_
 refine jst hσ rfl rfl rfl rfl rfl ?_
 refine jn ?_
 refine AWP.cond hσ rfl rfl (fun hc6 => ?_) (fun hc6 => ?_)
 ·
  skip
  cases hc6
 ·
  skip
  refine AWP.skip ?_
  refine jsr ?_
  refine AOps.plainD hσ rfl rfl rfl rfl (c1085 (p := p) (t := t) h1 h2 hT) (VAs.self rfl) rfl rfl rfl rfl (B0 := 9000) rfl rfl ?_
  refine jf [8, 5, 3, 2, 1] rfl ?_
  refine AOps.heap (HS.alloc hσ rfl rfl rfl rfl rfl) rfl ?_
  refine jnm ?_
  refine AOps.heap (HS.storeBox hσ rfl rfl rfl rfl rfl rfl rfl rfl rfl rfl rfl) rfl ?_
  refine jnm ?_
  refine AOps.to (Ent.freeze 4 (e' := [(4, _), (2, _), (3, _)]) rfl (.cons rfl (.c (.box (cs := (anP p t).data) rfl (VMs.self rfl))) (.cons rfl (.keep rfl) (.cons rfl (.keep rfl) .nil))) (.cons rfl (.box (.cons (.keep rfl) (.cons (.keep rfl) (.cons (.keep rfl) (.cons (.keep rfl) .nil))))) (.skip .nil))) ?_
  refine jnm ?_
  refine jn ?_
  refine AWP.seq ?_
  refine jsr ?_
  refine AOps.lone hσ rfl rfl rfl rfl ((c67 (a := (anP p t)) h1 h2).plain (u := eB true) (by rw [hv])) (VAs.self rfl) rfl rfl rfl rfl rfl (B0 := 10000) rfl ?_
  refine jst hσ rfl rfl rfl rfl rfl ?_
  refine jn ?_
  refine AWP.cond hσ rfl rfl (fun hc10 => ?_) (fun hc10 => ?_)
  ·
   skip
   cases hc10
  ·
   skip
   refine AWP.skip ?_
   refine jsr ?_
   refine jst hσ rfl rfl rfl rfl rfl ?_
   refine jf [12, 9, 4, 2, 3] rfl ?_
   refine AOps.heap (HS.storeBox hσ rfl rfl rfl rfl rfl rfl rfl rfl rfl rfl rfl) rfl ?_
   refine jnm ?_
   refine jst hσ rfl rfl rfl rfl rfl ?_
   refine jn ?_
   refine AWP.ret ?_
   refine ⟨.inl rfl, _, Ent.refl, _, rfl, ?_⟩
   exact .tup (.cons (.agg (VMs.self rfl)) (.cons (.c .d) .nil))
theorem c1081n {L : Nat} (h1 : 4096 ≤ L) (h2 : L ≤ 1073741824) {p : Pm} {t : Tr} (hT : PmT p t) (hp : progB p = true) (hv : annB (anP p t) = false) : MC Tryz.prog L 6 [aPm p] [] (Plain (.tup [aAn (⟨[], [], [], []⟩ : An), eB false])) := by
 refine MC.data ?_
 have hσ := SGok (nt := 13) h1 (Nat.le_trans h2 (by decide))
 refine MC.body hσ Tryz.func6 (by kernel_rfl) rfl rfl (Nat.le_of_ble_eq_true rfl) (fun hF => ?_)
 refine jsr ?_
 refine AOps.heap (HS.box hσ rfl rfl rfl rfl rfl rfl rfl) rfl ?_
 refine jnm ?_
 refine AOps.to (Ent.freeze 1 (e' := [(1, _), (0, _)]) rfl (.cons rfl (.c (.box (cs := Pm.data p) rfl (VMs.self rfl))) (.cons rfl (.keep rfl) .nil)) (.skip .nil)) ?_
 refine jnm ?_
 refine jf [1] rfl ?_
 refine AOps.heap (HS.alloc hσ rfl rfl rfl rfl rfl) rfl ?_
 refine jnm ?_
 refine jst hσ rfl rfl rfl rfl rfl ?_
 refine jn ?_
 refine AWP.seq ?_
 refine jsr ?_
 refine AOps.lone hσ rfl rfl rfl rfl ((c55 (p := p) h1 h2).plain (u := eB true) (by rw [hp])) (VAs.self rfl) rfl rfl rfl rfl rfl (B0 := 6000) rfl ?_
 refine jst hσ rfl rfl rfl rfl rfl ?_
 refine jn ?_
 refine AWP.cond hσ rfl rfl (fun hc6 => ?_) (fun hc6 => ?_)
 ·
  skip
  cases hc6
 ·
  skip
  refine AWP.skip ?_
  refine jsr ?_
  refine AOps.plainD hσ rfl rfl rfl rfl (c1085 (p := p) (t := t) h1 h2 hT) (VAs.self rfl) rfl rfl rfl rfl (B0 := 9000) rfl rfl ?_
  refine jf [8, 5, 3, 2, 1] rfl ?_
  refine AOps.heap (HS.alloc hσ rfl rfl rfl rfl rfl) rfl ?_
  refine jnm ?_
  refine AOps.heap (HS.storeBox hσ rfl rfl rfl rfl rfl rfl rfl rfl rfl rfl rfl) rfl ?_
  refine jnm ?_
  refine AOps.to (Ent.freeze 4 (e' := [(4, _), (2, _), (3, _)]) rfl (.cons rfl (.c (.box (cs := (anP p t).data) rfl (VMs.self rfl))) (.cons rfl (.keep rfl) (.cons rfl (.keep rfl) .nil))) (.cons rfl (.box (.cons (.keep rfl) (.cons (.keep rfl) (.cons (.keep rfl) (.cons (.keep rfl) .nil))))) (.skip .nil))) ?_
  refine jnm ?_
  refine jn ?_
  refine AWP.seq ?_
  refine jsr ?_
  refine AOps.lone hσ rfl rfl rfl rfl ((c67 (a := (anP p t)) h1 h2).plain (u := eB false) (by rw [hv])) (VAs.self rfl) rfl rfl rfl rfl rfl (B0 := 10000) rfl ?_
  refine jst hσ rfl rfl rfl rfl rfl ?_
  refine jn ?_
  refine AWP.cond hσ rfl rfl (fun hc10 => ?_) (fun hc10 => ?_)
  ·
   skip
   refine jsr ?_
   refine jst hσ rfl rfl rfl rfl rfl ?_
   refine jf [11, 9, 4, 2, 3] rfl ?_
   refine AOps.heap (HS.storeBox hσ rfl rfl rfl rfl rfl rfl rfl rfl rfl rfl rfl) rfl ?_
   refine jnm ?_
   refine jst hσ rfl rfl rfl rfl rfl ?_
   refine jn ?_
   refine AWP.ret ?_
   refine ⟨.inl rfl, _, Ent.refl, _, rfl, ?_⟩
   exact .tup (.cons (.agg (.cons .nils (.cons .nils (.cons .nils (.cons .nils .nil))))) (.cons (.c .d) .nil))
  ·
   skip
   cases hc10
theorem c1081e {L : Nat} (h1 : 4096 ≤ L) (h2 : L ≤ 1073741824) {p : Pm} (hp : progB p = false) : MC Tryz.prog L 6 [aPm p] [] (Plain (.tup [aAn (⟨[], [], [], []⟩ : An), eB false])) := by
 refine MC.data ?_
 have hσ := SGok (nt := 13) h1 (Nat.le_trans h2 (by decide))
 refine MC.body hσ Tryz.func6 (by kernel_rfl) rfl rfl (Nat.le_of_ble_eq_true rfl) (fun hF => ?_)
 refine jsr ?_
 refine AOps.heap (HS.box hσ rfl rfl rfl rfl rfl rfl rfl) rfl ?_
 refine jnm ?_
 refine AOps.to (Ent.freeze 1 (e' := [(1, _), (0, _)]) rfl (.cons rfl (.c (.box (cs := Pm.data p) rfl (VMs.self rfl))) (.cons rfl (.keep rfl) .nil)) (.skip .nil)) ?_
 refine jnm ?_
 refine jf [1] rfl ?_
 refine AOps.heap (HS.alloc hσ rfl rfl rfl rfl rfl) rfl ?_
 refine jnm ?_
 refine jst hσ rfl rfl rfl rfl rfl ?_
 refine jn ?_
 refine AWP.seq ?_
 refine jsr ?_
 refine AOps.lone hσ rfl rfl rfl rfl ((c55 (p := p) h1 h2).plain (u := eB false) (by rw [hp])) (VAs.self rfl) rfl rfl rfl rfl rfl (B0 := 6000) rfl ?_
 refine jst hσ rfl rfl rfl rfl rfl ?_
 refine jn ?_
 refine AWP.cond hσ rfl rfl (fun hc6 => ?_) (fun hc6 => ?_)
 ·
  skip
  refine jsr ?_
  refine jst hσ rfl rfl rfl rfl rfl ?_
  refine jf [7, 5, 3, 2, 1] rfl ?_
  refine AOps.heap (HS.storeBox hσ rfl rfl rfl rfl rfl rfl rfl rfl rfl rfl rfl) rfl ?_
  refine jnm ?_
  refine jst hσ rfl rfl rfl rfl rfl ?_
  refine jn ?_
  refine AWP.ret ?_
  refine ⟨.inl rfl, _, Ent.refl, _, rfl, ?_⟩
  exact .tup (.cons (.agg (.cons .nils (.cons .nils (.cons .nils (.cons .nils .nil))))) (.cons (.c .d) .nil))
 ·
  skip
  cases hc6
theorem c1087v {L : Nat} (h1 : 4096 ≤ L) (h2 : L ≤ 1073741824) {a : An} (hv : annB a = true) : MC Tryz.prog L 27 [anRs a] (anRow a) (Outs (.tup [anRs a, eB true]) [(0, trow a.pre), (1, trow a.post), (2, irow a.code), (3, prow a.pts), (4, .box [.rs 0 0 a.pre.length, .rs 1 0 a.post.length, .rs 2 0 a.code.length, .rs 3 0 a.pts.length])]) := by
 refine MC.shift 500 rfl ?_
 have hσ := SgOk.withIns (js := [500, 501, 502, 503]) (SGok (nt := 9) h1 (Nat.le_trans h2 (by decide)))
 refine MC.bodyH hσ Tryz.func27 (by kernel_rfl) rfl rfl rfl (Nat.le_of_ble_eq_true rfl) (fun hF => ?_)
 refine jsr ?_
 refine AOps.heap (HS.box hσ rfl rfl rfl rfl rfl rfl rfl) rfl ?_
 refine jnm ?_
 refine jf [1] rfl ?_
 refine AOps.heap (HS.alloc hσ rfl rfl rfl rfl rfl) rfl ?_
 refine jnm ?_
 refine jst hσ rfl rfl rfl rfl rfl ?_
 refine jn ?_
 refine AWP.seq ?_
 refine jsr ?_
 refine jst hσ rfl rfl rfl rfl rfl ?_
 refine AOps.lone hσ rfl rfl rfl rfl ((c71 (a := a) h1 h2).plain (u := eB true) (by rw [hv])) (.cons (.agg (.cons (.whole rfl (List.length_map _).symm) (.cons (.whole rfl (List.length_map _).symm) (.cons (.whole rfl (List.length_map _).symm) (.cons (.whole rfl (List.length_map _).symm) .nil))))) .nil) rfl rfl rfl rfl rfl (B0 := 6000) rfl ?_
 refine jst hσ rfl rfl rfl rfl rfl ?_
 refine jf [6, 3, 2, 1] rfl ?_
 refine jn ?_
 refine AWP.cond hσ rfl rfl (fun hc6 => ?_) (fun hc6 => ?_)
 ·
  skip
  cases hc6
 ·
  skip
  refine AWP.skip ?_
  refine jsr ?_
  refine jst hσ rfl rfl rfl rfl rfl ?_
  refine jf [8, 3, 2, 1] rfl ?_
  refine AOps.heap (HS.storeBox hσ rfl rfl rfl rfl rfl rfl rfl rfl rfl rfl rfl) rfl ?_
  refine jnm ?_
  refine jst hσ rfl rfl rfl rfl rfl ?_
  refine jn ?_
  refine AWP.ret ?_
  refine ⟨.inl rfl, _, (Ent.sel [500, 501, 502, 503, 2] (e' := [(2, _), (3, _)]) rfl rfl ⟨rfl, rfl, trivial⟩ rfl).trans (Ent.sub2 2 504 rfl rfl), _, rfl, rfl, rfl⟩
theorem c1087n {L : Nat} (h1 : 4096 ≤ L) (h2 : L ≤ 1073741824) {a : An} (hv : annB a = false) : MC Tryz.prog L 27 [anRs a] (anRow a) (Outs (.tup [.agg [.d .nils, .d .nils, .d .nils, .d .nils], eB false]) [(4, .box [.d .nils, .d .nils, .d .nils, .d .nils])]) := by
 refine MC.shift 500 rfl ?_
 have hσ := SgOk.withIns (js := [500, 501, 502, 503]) (SGok (nt := 9) h1 (Nat.le_trans h2 (by decide)))
 refine MC.bodyH hσ Tryz.func27 (by kernel_rfl) rfl rfl rfl (Nat.le_of_ble_eq_true rfl) (fun hF => ?_)
 refine jsr ?_
 refine AOps.heap (HS.box hσ rfl rfl rfl rfl rfl rfl rfl) rfl ?_
 refine jnm ?_
 refine jf [1] rfl ?_
 refine AOps.heap (HS.alloc hσ rfl rfl rfl rfl rfl) rfl ?_
 refine jnm ?_
 refine jst hσ rfl rfl rfl rfl rfl ?_
 refine jn ?_
 refine AWP.seq ?_
 refine jsr ?_
 refine jst hσ rfl rfl rfl rfl rfl ?_
 refine AOps.lone hσ rfl rfl rfl rfl ((c71 (a := a) h1 h2).plain (u := eB false) (by rw [hv])) (.cons (.agg (.cons (.whole rfl (List.length_map _).symm) (.cons (.whole rfl (List.length_map _).symm) (.cons (.whole rfl (List.length_map _).symm) (.cons (.whole rfl (List.length_map _).symm) .nil))))) .nil) rfl rfl rfl rfl rfl (B0 := 6000) rfl ?_
 refine jst hσ rfl rfl rfl rfl rfl ?_
 refine jf [6, 3, 2, 1] rfl ?_
 refine jn ?_
 refine AWP.cond hσ rfl rfl (fun hc6 => ?_) (fun hc6 => ?_)
 ·
  skip
  refine jsr ?_
  refine jst hσ rfl rfl rfl rfl rfl ?_
  refine jf [7, 3, 2, 1] rfl ?_
  refine AOps.heap (HS.storeBox hσ rfl rfl rfl rfl rfl rfl rfl rfl rfl rfl rfl) rfl ?_
  refine jnm ?_
  refine jst hσ rfl rfl rfl rfl rfl ?_
  refine jn ?_
  refine AWP.ret ?_
  refine ⟨.inl rfl, _, (Ent.sel [2] (e' := [(2, _), (3, _)]) rfl rfl ⟨rfl, rfl, trivial⟩ rfl).trans (Ent.sub2 2 504 rfl rfl), _, rfl, rfl, rfl⟩
 ·
  skip
  cases hc6
theorem c1086v {L : Nat} (h1 : 4096 ≤ L) (h2 : L ≤ 1073741824) {p : Pm} {t : Tr} (hT : PmT p t) (hp : validP p = true) (htd : tOP p.body = t.d) : MC Tryz.prog L 25 [aPm p] [] (Outs (.tup [.c (.pt 0 0 0), eB true]) (csH p.body.length (csP p t))) := by
 have hσ := SGok (nt := 32) h1 (Nat.le_trans h2 (by decide))
 refine MC.body hσ Tryz.func25 (by kernel_rfl) rfl rfl (Nat.le_of_ble_eq_true rfl) (fun hF => ?_)
 have hn30 := hT.len
 have hle := hT.le
 have hce : (csP p t).code.length = (cmp t (cs0 p.body.length)).code.length + 1 := by simp [csP, Cs.emit]
 refine jsr ?_
 refine AOps.heap (HS.box hσ rfl rfl rfl rfl rfl rfl rfl) rfl ?_
 refine jnm ?_
 refine AOps.to (Ent.freeze 1 (e' := [(1, _), (0, _)]) rfl (.cons rfl (.c (.box (cs := Pm.data p) rfl (VMs.self rfl))) (.cons rfl (.keep rfl) .nil)) (.skip .nil)) ?_
 refine jnm ?_
 iterate 2 refine jst hσ rfl rfl rfl rfl rfl ?_
 refine jn ?_
 refine AWP.seq ?_
 refine jsr ?_
 refine jst hσ rfl rfl rfl rfl rfl ?_
 refine AOps.lone hσ rfl rfl rfl rfl ((c109 (p := p) h1 h2).plain (u := eB true) (by rw [hp])) (VAs.self rfl) rfl rfl rfl rfl rfl (B0 := 9000) rfl ?_
 refine jst hσ rfl rfl rfl rfl rfl ?_
 refine jf [9, 3, 2, 1, 0] rfl ?_
 refine jn ?_
 refine AWP.cond hσ rfl rfl (fun hc9 => ?_) (fun hc9 => ?_)
 ·
  skip
  cases hc9
 ·
  skip
  refine AWP.skip ?_
  refine jsr ?_
  iterate 2 refine jst hσ rfl rfl rfl rfl rfl ?_
  refine jf [12, 3, 2, 1, 0] rfl ?_
  refine AOps.plainD hσ rfl rfl rfl rfl (c112 h1 h2) (VAs.self rfl) rfl rfl rfl rfl (B0 := 14000) rfl rfl ?_
  rw [htd]
  iterate 5 refine jst hσ rfl rfl rfl rfl rfl ?_
  refine jf [4, 3, 2, 1, 0] rfl ?_
  refine jn ?_
  refine AWP.seq ?_
  refine AWP.drawF2 hσ _ [_, _, _, _, _, _, _, _, _, _, _] [⟨[], 0, 1, none⟩, ⟨[0], 0, 1, none⟩, ⟨[0, 1], 0, 1, none⟩, ⟨[0, 1, 2], 0, 1, none⟩, ⟨[], 0, 0, none⟩, ⟨[4], 0, 0, none⟩, ⟨[4, 5], 0, 0, none⟩, ⟨[4, 5, 6], 0, 0, some 0⟩, ⟨[0, 1, 2, 3, 4, 5, 6, 7], 1, 1, none⟩, ⟨[0, 1, 2, 3, 4, 5, 6, 7, 8], 0, 0, some 1⟩, ⟨[0, 1, 2, 3, 4, 5, 6, 7, 8, 9], 2, 2, none⟩] [7, 9] 3 19 (.row true 1 (List.replicate (p.body.length : Int).toNat [.int .i64 0])) [_, _] [_] [[], []] rfl rfl (by decide) (by decide) (by decide) rfl (by kernel_rfl) (And.intro (And.intro (And.intro (and_flip (Val.of hσ rfl rfl) (Val.of hσ rfl rfl)) rfl) (And.intro (and_flip (Val.of hσ rfl rfl) (Val.of hσ rfl rfl)) rfl)) (And.intro (And.intro (And.intro (and_flip (Val.of hσ rfl rfl) (Val.of hσ rfl rfl)) rfl) (And.intro (and_flip (Val.of hσ rfl rfl) (Val.of hσ rfl rfl)) rfl)) (And.intro (And.intro (And.intro (and_flip (Val.lenD hσ rfl rfl rfl rfl rfl rfl rfl rfl) (Val.lenD hσ rfl rfl rfl rfl rfl rfl rfl rfl)) rfl) (And.intro (and_flip (Val.lenD hσ rfl rfl rfl rfl rfl rfl rfl rfl) (Val.lenD hσ rfl rfl rfl rfl rfl rfl rfl rfl)) rfl)) (And.intro (And.intro (And.intro (Eff.p (Eff.make hσ rfl rfl rfl rfl rfl rfl rfl rfl rfl (by first | omega | (simp at *; omega)) (by first | omega | (simp at *; omega)) (by first | omega | (simp at *; omega)) (by first | omega | (dsimp only; omega) | (simp only [List.length_map, beq_iff_eq, decide_eq_true_eq, decide_eq_false_iff_not, Bool.not_eq_true', Bool.not_eq_false', Bool.not_true, Bool.not_false, Int.not_lt, Int.not_le] at *; omega)) (by first | omega | (simp at *; omega)) rfl rfl rfl rfl)) rfl) (And.intro (Eff.p (Eff.make hσ rfl rfl rfl rfl rfl rfl rfl rfl rfl (by first | omega | (simp at *; omega)) (by first | omega | (simp at *; omega)) (by first | omega | (simp at *; omega)) (by first | omega | (dsimp only; omega) | (simp only [List.length_map, beq_iff_eq, decide_eq_true_eq, decide_eq_false_iff_not, Bool.not_eq_true', Bool.not_eq_false', Bool.not_true, Bool.not_false, Int.not_lt, Int.not_le] at *; omega)) (by first | omega | (simp at *; omega)) rfl rfl rfl rfl)) rfl)) (And.intro (And.intro (and_flip (Val.of hσ rfl rfl) (Val.of hσ rfl rfl)) rfl) (And.intro (And.intro (and_flip (Val.of hσ rfl rfl) (Val.of hσ rfl rfl)) rfl) (And.intro (And.intro (and_flip (Val.lenD hσ rfl rfl rfl rfl rfl rfl rfl rfl) (Val.lenD hσ rfl rfl rfl rfl rfl rfl rfl rfl)) rfl) (And.intro (And.intro (and_flip (Eff.p (Eff.make hσ rfl rfl rfl rfl rfl rfl rfl rfl rfl (by first | omega | (simp at *; omega)) (by first | omega | (simp at *; omega)) (by first | omega | (simp at *; omega)) (by first | omega | (dsimp only; omega) | (simp only [List.length_map, beq_iff_eq, decide_eq_true_eq, decide_eq_false_iff_not, Bool.not_eq_true', Bool.not_eq_false', Bool.not_true, Bool.not_false, Int.not_lt, Int.not_le] at *; omega)) (by first | omega | (simp at *; omega)) rfl rfl rfl rfl)) (Eff.p (Eff.make hσ rfl rfl rfl rfl rfl rfl rfl rfl rfl (by first | omega | (simp at *; omega)) (by first | omega | (simp at *; omega)) (by first | omega | (simp at *; omega)) (by first | omega | (dsimp only; omega) | (simp only [List.length_map, beq_iff_eq, decide_eq_true_eq, decide_eq_false_iff_not, Bool.not_eq_true', Bool.not_eq_false', Bool.not_true, Bool.not_false, Int.not_lt, Int.not_le] at *; omega)) (by first | omega | (simp at *; omega)) rfl rfl rfl rfl))) rfl) (And.intro (And.intro (and_flip trivial (Val.of hσ rfl rfl)) rfl) (And.intro (And.intro (and_flip trivial (Eff.p (Eff.box hσ rfl rfl rfl rfl rfl rfl rfl rfl))) rfl) (And.intro (And.intro (and_flip trivial (Val.of hσ rfl rfl)) rfl) trivial))))))))))) ?_
  refine jw [6, 4, 3, 2, 1, 0] rfl ?_
  refine jnw ?_
  refine jsr ?_
  iterate 2 refine jst hσ rfl rfl rfl rfl rfl ?_
  refine jf [27, 26, 6, 3, 2, 1, 0] rfl ?_
  refine AOps.to (Ent.nameBox 25 901 2 true 0 rfl rfl rfl) ?_
  refine AOps.to (Ent.nameBox 25 902 2 true 1 rfl rfl rfl) ?_
  refine AOps.to (Ent.to (e' := [(27, _), (26, _), (6, _)]) (H' := [(19, nrow (List.replicate p.body.length 0)), (23, nrow (List.replicate p.body.length 0)), (25, .box [.rs 901 0 0, .rs 902 0 0, .rs 19 0 p.body.length, .rs 23 0 p.body.length]), (901, irow []), (902, prow [])]) ⟨rfl, rfl, rfl, trivial⟩ (by rw [nrow, List.map_replicate]; rfl)) ?_
  refine AOps.inn hσ [25, 901, 902, 19, 23] (bin := [csB p.body.length 1 2 (cs0 p.body.length), irow (cs0 p.body.length).code, prow (cs0 p.body.length).pts, nrow (cs0 p.body.length).fr, nrow (cs0 p.body.length).to]) rfl rfl rfl rfl (c1091 (n := p.body.length) h1 h2 hT.cok hT.in0) rfl rfl rfl rfl rfl rfl (B0 := 29000) rfl rfl ?_
  refine jnm ?_
  refine jf [6] rfl ?_
  refine jns ?_
  refine jst hσ rfl rfl rfl rfl rfl ?_
  refine AOps.inn hσ [25, 29005, 29006, 19, 23] (bin := [csB p.body.length 1 2 (cmp t (cs0 p.body.length)), irow (cmp t (cs0 p.body.length)).code, prow (cmp t (cs0 p.body.length)).pts, nrow (cmp t (cs0 p.body.length)).fr, nrow (cmp t (cs0 p.body.length)).to]) rfl rfl rfl rfl (c1092 (n := p.body.length) (c := (cmp t (cs0 p.body.length))) (op := 11) (a := 0) h1 h2 (by omega)) rfl rfl rfl rfl rfl rfl (B0 := 31000) rfl rfl ?_
  refine jnm ?_
  refine jf [6] rfl ?_
  refine jns ?_
  iterate 3 refine jst hσ rfl rfl rfl rfl rfl ?_
  refine jn ?_
  refine AWP.ret ?_
  refine ⟨.inl rfl, _, (Ent.sel [25, 31005, 29006, 19, 23] (e' := [(2, _), (3, _)]) rfl rfl ⟨rfl, rfl, trivial⟩ rfl).trans (((((Ent.sub2 25 0 rfl rfl).trans (Ent.sub2 31005 1 rfl rfl)).trans (Ent.sub2 29006 2 rfl rfl)).trans (Ent.sub2 19 3 rfl rfl)).trans (Ent.sub2 23 4 rfl rfl)), _, rfl, rfl, rfl⟩
theorem c1086e {L : Nat} (h1 : 4096 ≤ L) (h2 : L ≤ 1073741824) {p : Pm} (hp : validP p = false) : MC Tryz.prog L 25 [aPm p] [] (Plain (.tup [.c (.d .nilp), eB false])) := by
 refine MC.data ?_
 have hσ := SGok (nt := 32) h1 (Nat.le_trans h2 (by decide))
 refine MC.body hσ Tryz.func25 (by kernel_rfl) rfl rfl (Nat.le_of_ble_eq_true rfl) (fun hF => ?_)
 refine jsr ?_
 refine AOps.heap (HS.box hσ rfl rfl rfl rfl rfl rfl rfl) rfl ?_
 refine jnm ?_
 refine AOps.to (Ent.freeze 1 (e' := [(1, _), (0, _)]) rfl (.cons rfl (.c (.box (cs := Pm.data p) rfl (VMs.self rfl))) (.cons rfl (.keep rfl) .nil)) (.skip .nil)) ?_
 refine jnm ?_
 iterate 2 refine jst hσ rfl rfl rfl rfl rfl ?_
 refine jn ?_
 refine AWP.seq ?_
 refine jsr ?_
 refine jst hσ rfl rfl rfl rfl rfl ?_
 refine AOps.lone hσ rfl rfl rfl rfl ((c109 (p := p) h1 h2).plain (u := eB false) (by rw [hp])) (VAs.self rfl) rfl rfl rfl rfl rfl (B0 := 9000) rfl ?_
 refine jst hσ rfl rfl rfl rfl rfl ?_
 refine jf [9, 3, 2, 1, 0] rfl ?_
 refine jn ?_
 refine AWP.cond hσ rfl rfl (fun hc9 => ?_) (fun hc9 => ?_)
 ·
  skip
  refine jsr ?_
  iterate 2 refine jst hσ rfl rfl rfl rfl rfl ?_
  refine jn ?_
  refine AWP.ret ?_
  refine ⟨.inl rfl, _, Ent.refl, _, rfl, ?_⟩
  exact .tup (.cons (.c .d) (.cons (.c .d) .nil))
 ·
  skip
  cases hc9
theorem c1082v {L : Nat} (h1 : 4096 ≤ L) (h2 : L ≤ 1073741824) {p : Pm} {t : Tr} (hT : PmT p t) (hp : validP p = true) (htd : tOP p.body = t.d) (hv : annB (anP p t) = true) : MC Tryz.prog L 8 [aPm p] [] (Rows (.tup [anRs (anP p t), eB true]) [trow (anP p t).pre, trow (anP p t).post, irow (anP p t).code, prow (anP p t).pts]) := by
 refine MC.rows ?_
 have hσ := SGok (nt := 32) h1 (Nat.le_trans h2 (by decide))
 refine MC.body hσ Tryz.func8 (by kernel_rfl) rfl rfl (Nat.le_of_ble_eq_true rfl) (fun hF => ?_)
 refine jsr ?_
 refine AOps.heap (HS.box hσ rfl rfl rfl rfl rfl rfl rfl) rfl ?_
 refine jnm ?_
 refine AOps.to (Ent.freeze 1 (e' := [(1, _), (0, _)]) rfl (.cons rfl (.c (.box (cs := Pm.data p) rfl (VMs.self rfl))) (.cons rfl (.keep rfl) .nil)) (.skip .nil)) ?_
 refine jnm ?_
 refine jf [1] rfl ?_
 refine AOps.heap (HS.alloc hσ rfl rfl rfl rfl rfl) rfl ?_
 refine jnm ?_
 refine jst hσ rfl rfl rfl rfl rfl ?_
 refine jns ?_
 refine jst hσ rfl rfl rfl rfl rfl ?_
 refine AOps.outs hσ rfl rfl rfl rfl (c1086v (p := p) (t := t) h1 h2 hT hp htd) (VAs.self rfl) rfl rfl rfl rfl (B0 := 9000) rfl ?_
 refine jnm ?_
 iterate 5 refine jst hσ rfl rfl rfl rfl rfl ?_
 refine jf [5, 4, 3, 2, 1] rfl ?_
 refine jn ?_
 refine AWP.seq ?_
 refine jsr ?_
 iterate 2 refine jst hσ rfl rfl rfl rfl rfl ?_
 refine jf [12, 4, 3, 2, 1] rfl ?_
 refine jn ?_
 refine AWP.cond hσ rfl rfl (fun hc12 => ?_) (fun hc12 => ?_)
 ·
  skip
  cases hc12
 ·
  skip
  refine AWP.skip ?_
  refine AWP.seq ?_
  refine jw [4, 2, 1] rfl ?_
  refine AWP.drawP hσ _ [_, _, _, _, _, _, _, _, _, _, _, _, _, _, _, _, _, _, _, _] [⟨[], 0, 0, none⟩, ⟨[0], 0, 0, none⟩, ⟨[0, 1], 0, 0, some 0⟩, ⟨[], 0, 1, none⟩, ⟨[3], 0, 1, none⟩, ⟨[0, 1, 2, 3, 4], 0, 0, some 1⟩, ⟨[], 0, 2, none⟩, ⟨[6], 0, 2, none⟩, ⟨[6, 7], 0, 2, none⟩, ⟨[6, 7, 8], 0, 2, none⟩, ⟨[], 0, 2, none⟩, ⟨[10], 0, 2, none⟩, ⟨[10, 11], 0, 2, none⟩, ⟨[10, 11, 12], 0, 2, none⟩, ⟨[0, 1, 2, 3, 4, 5, 6, 7, 8, 9, 10, 11, 12, 13], 2, 2, none⟩, ⟨[0, 1, 2, 3, 4, 5, 6, 7, 8, 9, 10, 11, 12, 13, 14], 0, 0, some 2⟩, ⟨[0, 1, 2, 3, 4, 5, 6, 7, 8, 9, 10, 11, 12, 13, 14, 15], 3, 3, none⟩, ⟨[0, 1, 2, 3, 4, 5, 6, 7, 8, 9, 10, 11, 12, 13, 14, 15], 3, 3, none⟩, ⟨[0, 1, 2, 3, 4, 5, 6, 7, 8, 9, 10, 11, 12, 13, 14, 15, 16, 17], 0, 0, some 3⟩, ⟨[0, 1, 2, 3, 4, 5, 6, 7, 8, 9, 10, 11, 12, 13, 14, 15, 16, 17, 18], 4, 4, none⟩] [2, 5, 15, 18] [_, _, _, _, _] [[], [], [], []] rfl rfl (by decide) (by decide) (by kernel_rfl) (And.intro (And.intro (Val.of hσ rfl rfl) rfl) (And.intro (And.intro (Val.of hσ rfl rfl) rfl) (And.intro (And.intro (Eff.p (Eff.rows hσ (B0 := 17000) rfl rfl rfl rfl (c91o (ts := p.pre) h1 h2) (VAs.self rfl) rfl rfl rfl rfl rfl)) rfl) (And.intro (And.intro (And.intro (Val.of hσ rfl rfl) rfl) (And.intro (Val.of hσ rfl rfl) rfl)) (And.intro (And.intro (And.intro (Val.of hσ rfl rfl) rfl) (And.intro (Val.of hσ rfl rfl) rfl)) (And.intro (And.intro (Eff.p (Eff.rows hσ (B0 := 20000) rfl rfl rfl rfl (c91o (ts := p.post) h1 h2) (VAs.self rfl) rfl rfl rfl rfl rfl)) rfl) (And.intro (And.intro (And.intro (Val.of hσ rfl rfl) rfl) (And.intro (And.intro (Val.of hσ rfl rfl) rfl) (And.intro (Val.of hσ rfl rfl) rfl))) (And.intro (And.intro (And.intro (Val.of hσ rfl rfl) rfl) (And.intro (And.intro (Val.of hσ rfl rfl) rfl) (And.intro (Val.of hσ rfl rfl) rfl))) (And.intro (And.intro (And.intro (Val.of hσ rfl rfl) rfl) (And.intro (And.intro (Val.of hσ rfl rfl) rfl) (And.intro (Val.of hσ rfl rfl) rfl))) (And.intro (And.intro (And.intro (Val.of hσ rfl rfl) rfl) (And.intro (And.intro (Val.of hσ rfl rfl) rfl) (And.intro (Val.of hσ rfl rfl) rfl))) (And.intro (And.intro (And.intro (Val.of hσ rfl rfl) rfl) (And.intro (And.intro (Val.of hσ rfl rfl) rfl) (And.intro (Val.of hσ rfl rfl) rfl))) (And.intro (And.intro (And.intro (Val.of hσ rfl rfl) rfl) (And.intro (And.intro (Val.of hσ rfl rfl) rfl) (And.intro (Val.of hσ rfl rfl) rfl))) (And.intro (And.intro (And.intro (Val.of hσ rfl rfl) rfl) (And.intro (And.intro (Val.of hσ rfl rfl) rfl) (And.intro (Val.of hσ rfl rfl) rfl))) (And.intro (And.intro (And.intro (Val.of hσ rfl rfl) rfl) (And.intro (And.intro (Val.of hσ rfl rfl) rfl) (And.intro (Val.of hσ rfl rfl) rfl))) (And.intro (And.intro (Val.of hσ rfl rfl) rfl) (And.intro (And.intro (Eff.p (Eff.inn hσ [17000, 20000, 9001, 9002] (bin := [trow p.pre, trow p.post, irow (csP p t).code, prow (csP p t).pts]) rfl rfl rfl rfl (c1087v (a := (anP p t)) h1 h2 hv) rfl rfl rfl rfl rfl (B0 := 30000) rfl rfl rfl rfl rfl rfl)) rfl) (And.intro (And.intro (Val.of hσ rfl rfl) rfl) (And.intro (And.intro (Val.of hσ rfl rfl) rfl) (And.intro (And.intro (Eff.p (Eff.storeBox hσ rfl rfl rfl rfl rfl rfl rfl rfl rfl rfl rfl rfl rfl)) rfl) (And.intro (And.intro (Val.of hσ rfl rfl) rfl) trivial)))))))))))))))))))) ?_
  refine AWP.ret ?_
  refine ⟨.inl rfl, _, Ent.refl, _, rfl, [17000, 20000, 9001, 9002], by decide, rfl, rfl, rfl⟩
theorem c1082n {L : Nat} (h1 : 4096 ≤ L) (h2 : L ≤ 1073741824) {p : Pm} {t : Tr} (hT : PmT p t) (hp : validP p = true) (htd : tOP p.body = t.d) (hv : annB (anP p t) = false) : MC Tryz.prog L 8 [aPm p] [] (Rows (.tup [.agg [.d .nils, .d .nils, .d .nils, .d .nils], eB false]) []) := by
 refine MC.rows ?_
 have hσ := SGok (nt := 32) h1 (Nat.le_trans h2 (by decide))
 refine MC.body hσ Tryz.func8 (by kernel_rfl) rfl rfl (Nat.le_of_ble_eq_true rfl) (fun hF => ?_)
 refine jsr ?_
 refine AOps.heap (HS.box hσ rfl rfl rfl rfl rfl rfl rfl) rfl ?_
 refine jnm ?_
 refine AOps.to (Ent.freeze 1 (e' := [(1, _), (0, _)]) rfl (.cons rfl (.c (.box (cs := Pm.data p) rfl (VMs.self rfl))) (.cons rfl (.keep rfl) .nil)) (.skip .nil)) ?_
 refine jnm ?_
 refine jf [1] rfl ?_
 refine AOps.heap (HS.alloc hσ rfl rfl rfl rfl rfl) rfl ?_
 refine jnm ?_
 refine jst hσ rfl rfl rfl rfl rfl ?_
 refine jns ?_
 refine jst hσ rfl rfl rfl rfl rfl ?_
 refine AOps.outs hσ rfl rfl rfl rfl (c1086v (p := p) (t := t) h1 h2 hT hp htd) (VAs.self rfl) rfl rfl rfl rfl (B0 := 9000) rfl ?_
 refine jnm ?_
 iterate 5 refine jst hσ rfl rfl rfl rfl rfl ?_
 refine jf [5, 4, 3, 2, 1] rfl ?_
 refine jn ?_
 refine AWP.seq ?_
 refine jsr ?_
 iterate 2 refine jst hσ rfl rfl rfl rfl rfl ?_
 refine jf [12, 4, 3, 2, 1] rfl ?_
 refine jn ?_
 refine AWP.cond hσ rfl rfl (fun hc12 => ?_) (fun hc12 => ?_)
 ·
  skip
  cases hc12
 ·
  skip
  refine AWP.skip ?_
  refine AWP.seq ?_
  refine jw [4, 2, 1] rfl ?_
  refine AWP.drawP hσ _ [_, _, _, _, _, _, _, _, _, _, _, _, _, _, _, _, _, _, _, _] [⟨[], 0, 0, none⟩, ⟨[0], 0, 0, none⟩, ⟨[0, 1], 0, 0, some 0⟩, ⟨[], 0, 1, none⟩, ⟨[3], 0, 1, none⟩, ⟨[0, 1, 2, 3, 4], 0, 0, some 1⟩, ⟨[], 0, 2, none⟩, ⟨[6], 0, 2, none⟩, ⟨[6, 7], 0, 2, none⟩, ⟨[6, 7, 8], 0, 2, none⟩, ⟨[], 0, 2, none⟩, ⟨[10], 0, 2, none⟩, ⟨[10, 11], 0, 2, none⟩, ⟨[10, 11, 12], 0, 2, none⟩, ⟨[0, 1, 2, 3, 4, 5, 6, 7, 8, 9, 10, 11, 12, 13], 2, 2, none⟩, ⟨[0, 1, 2, 3, 4, 5, 6, 7, 8, 9, 10, 11, 12, 13, 14], 0, 0, some 2⟩, ⟨[0, 1, 2, 3, 4, 5, 6, 7, 8, 9, 10, 11, 12, 13, 14, 15], 3, 3, none⟩, ⟨[0, 1, 2, 3, 4, 5, 6, 7, 8, 9, 10, 11, 12, 13, 14, 15], 3, 3, none⟩, ⟨[0, 1, 2, 3, 4, 5, 6, 7, 8, 9, 10, 11, 12, 13, 14, 15, 16, 17], 0, 0, some 3⟩, ⟨[0, 1, 2, 3, 4, 5, 6, 7, 8, 9, 10, 11, 12, 13, 14, 15, 16, 17, 18], 4, 4, none⟩] [2, 5, 15, 18] [_, _, _, _, _] [[], [], [17000, 20000, 9001, 9002], []] rfl rfl (by decide) (by decide) (by kernel_rfl) (And.intro (And.intro (Val.of hσ rfl rfl) rfl) (And.intro (And.intro (Val.of hσ rfl rfl) rfl) (And.intro (And.intro (Eff.p (Eff.rows hσ (B0 := 17000) rfl rfl rfl rfl (c91o (ts := p.pre) h1 h2) (VAs.self rfl) rfl rfl rfl rfl rfl)) rfl) (And.intro (And.intro (And.intro (Val.of hσ rfl rfl) rfl) (And.intro (Val.of hσ rfl rfl) rfl)) (And.intro (And.intro (And.intro (Val.of hσ rfl rfl) rfl) (And.intro (Val.of hσ rfl rfl) rfl)) (And.intro (And.intro (Eff.p (Eff.rows hσ (B0 := 20000) rfl rfl rfl rfl (c91o (ts := p.post) h1 h2) (VAs.self rfl) rfl rfl rfl rfl rfl)) rfl) (And.intro (And.intro (And.intro (Val.of hσ rfl rfl) rfl) (And.intro (And.intro (Val.of hσ rfl rfl) rfl) (And.intro (Val.of hσ rfl rfl) rfl))) (And.intro (And.intro (And.intro (Val.of hσ rfl rfl) rfl) (And.intro (And.intro (Val.of hσ rfl rfl) rfl) (And.intro (Val.of hσ rfl rfl) rfl))) (And.intro (And.intro (And.intro (Val.of hσ rfl rfl) rfl) (And.intro (And.intro (Val.of hσ rfl rfl) rfl) (And.intro (Val.of hσ rfl rfl) rfl))) (And.intro (And.intro (And.intro (Val.of hσ rfl rfl) rfl) (And.intro (And.intro (Val.of hσ rfl rfl) rfl) (And.intro (Val.of hσ rfl rfl) rfl))) (And.intro (And.intro (And.intro (Val.of hσ rfl rfl) rfl) (And.intro (And.intro (Val.of hσ rfl rfl) rfl) (And.intro (Val.of hσ rfl rfl) rfl))) (And.intro (And.intro (And.intro (Val.of hσ rfl rfl) rfl) (And.intro (And.intro (Val.of hσ rfl rfl) rfl) (And.intro (Val.of hσ rfl rfl) rfl))) (And.intro (And.intro (And.intro (Val.of hσ rfl rfl) rfl) (And.intro (And.intro (Val.of hσ rfl rfl) rfl) (And.intro (Val.of hσ rfl rfl) rfl))) (And.intro (And.intro (And.intro (Val.of hσ rfl rfl) rfl) (And.intro (And.intro (Val.of hσ rfl rfl) rfl) (And.intro (Val.of hσ rfl rfl) rfl))) (And.intro (And.intro (Val.of hσ rfl rfl) rfl) (And.intro (And.intro (Eff.innP hσ [17000, 20000, 9001, 9002] [17000, 20000, 9001, 9002] (bin := [trow p.pre, trow p.post, irow (csP p t).code, prow (csP p t).pts]) rfl rfl rfl rfl (c1087n (a := (anP p t)) h1 h2 hv) rfl rfl rfl rfl rfl (B0 := 30000) rfl rfl rfl rfl rfl rfl rfl) rfl) (And.intro (And.intro (Val.of hσ rfl rfl) rfl) (And.intro (And.intro (Val.of hσ rfl rfl) rfl) (And.intro (And.intro (Eff.p (Eff.storeBox hσ rfl rfl rfl rfl rfl rfl rfl rfl rfl rfl rfl rfl rfl)) rfl) (And.intro (And.intro (Val.of hσ rfl rfl) rfl) trivial)))))))))))))))))))) ?_
  refine AWP.ret ?_
  refine ⟨.inl rfl, _, Ent.refl, _, rfl, [], by decide, rfl, rfl, rfl⟩
theorem c1082e {L : Nat} (h1 : 4096 ≤ L) (h2 : L ≤ 1073741824) {p : Pm} (hp : validP p = false) : MC Tryz.prog L 8 [aPm p] [] (Rows (.tup [.agg [.d .nils, .d .nils, .d .nils, .d .nils], eB false]) []) := by
 refine MC.rows ?_
 have hσ := SGok (nt := 32) h1 (Nat.le_trans h2 (by decide))
 refine MC.body hσ Tryz.func8 (by kernel_rfl) rfl rfl (Nat.le_of_ble_eq_true rfl) (fun hF => ?_)
 refine jsr ?_
 refine AOps.heap (HS.box hσ rfl rfl rfl rfl rfl rfl rfl) rfl ?_
 refine jnm ?_
 refine AOps.to (Ent.freeze 1 (e' := [(1, _), (0, _)]) rfl (.cons rfl (.c (.box (cs := Pm.data p) rfl (VMs.self rfl))) (.cons rfl (.keep rfl) .nil)) (.skip .nil)) ?_
 refine jnm ?_
 refine jf [1] rfl ?_
 refine AOps.heap (HS.alloc hσ rfl rfl rfl rfl rfl) rfl ?_
 refine jnm ?_
 refine jst hσ rfl rfl rfl rfl rfl ?_
 refine jns ?_
 refine jst hσ rfl rfl rfl rfl rfl ?_
 refine AOps.plainD hσ rfl rfl rfl rfl (c1086e (p := p) h1 h2 hp) (VAs.self rfl) rfl rfl rfl rfl (B0 := 9000) rfl rfl ?_
 iterate 5 refine jst hσ rfl rfl rfl rfl rfl ?_
 refine jf [5, 4, 3, 2, 1] rfl ?_
 refine jn ?_
 refine AWP.seq ?_
 refine jsr ?_
 iterate 2 refine jst hσ rfl rfl rfl rfl rfl ?_
 refine jf [12, 4, 3, 2, 1] rfl ?_
 refine jn ?_
 refine AWP.cond hσ rfl rfl (fun hc12 => ?_) (fun hc12 => ?_)
 ·
  skip
  refine jsr ?_
  refine jst hσ rfl rfl rfl rfl rfl ?_
  refine jf [13, 4, 3, 2, 1] rfl ?_
  refine AOps.heap (HS.storeBox hσ rfl rfl rfl rfl rfl rfl rfl rfl rfl rfl rfl) rfl ?_
  refine jnm ?_
  refine jst hσ rfl rfl rfl rfl rfl ?_
  refine jn ?_
  refine AWP.ret ?_
  refine ⟨.inl rfl, _, Ent.refl, _, rfl, [], by decide, rfl, rfl, rfl⟩
 ·
  skip
  cases hc12
end Go.Al
