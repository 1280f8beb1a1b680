/- The program's compiler. -/
import Derived.Test.YtnepkogijffmjaaGreatM
namespace Go.Al
open Go.Proofs
set_option linter.unusedVariables false
set_option linter.unusedSimpArgs false
set_option maxRecDepth 10000
set_option maxHeartbeats 4000000
theorem gj {α β : Type} [Inhabited α] {l : List α} {f : α → β} {n j : Nat} (h : n < l.length) (hj : j = n) : (l.map f)[j]? = some (f (l.getD n default)) := by subst hj; simp [h]
theorem sj {α β : Type} {l : List α} {f : α → β} {n j : Nat} {v : α} {ds : β} (hj : j = n) (hd : ds = f v) : (l.map f).set j ds = (l.set n v).map f := by subst hj; subst hd; rw [List.map_set]
structure CsIn (n m : Nat) (c : Cs) : Prop where
  fr : c.fr.length = n
  to : c.to.length = n
  code : c.code.length + 30 * m ≤ 3000
  pts : c.pts.length + m ≤ 200
theorem CsIn.of {n m j k : Nat} {c d : Cs} (h : CsIn n m c) (g : CsLe j c d) (hm : j + k ≤ m) : CsIn n k d :=
  ⟨g.fr.trans h.fr, g.to.trans h.to, by have := g.code; have := h.code; omega, by have := g.pts; have := h.pts; omega⟩
theorem le_beg {a : Int} {c : Cs} : CsLe 0 c (c.beg a) := ⟨by simp [Cs.beg], by simp [Cs.beg], by simp [Cs.beg], rfl, Nat.le_refl _⟩
theorem le_leaf0 {s : Sm} {a : Int} {c : Cs} (h : s.sum.term = true ∧ s.index.term = true) : CsLe 1 c (leafC s (c.beg a)) := by
  have h := le_leaf (a := a) (c := c) h
  exact ⟨h.code, h.pts, h.fr, by have := h.to; simpa only [Cs.fin, List.length_set] using this, h.ge⟩
theorem le_c3 {s : Sm} {a : Int} {c : Cs} (h : s.sum.term = true) : CsLe 1 c (((c.beg a).term s.sum).emit 6 0) := by
  have h1 := tcode_len h
  refine ⟨?_, ?_, ?_, ?_, ?_⟩ <;> simp only [Cs.beg, Cs.emit, Cs.term, List.length_set, List.length_append, List.length_singleton] <;> omega
theorem le_c6 {s : Sm} {a b : Int} {c d : Cs} {m k : Nat} (h : s.sum.term = true) (g : CsLe m (((c.beg a).term s.sum).emit 6 0) d) : CsLe (1 + m) c ((d.emit 5 b).arg k) := by
  have h1 := tcode_len h
  have e1 := g.code; have e2 := g.pts; have e3 := g.fr; have e4 := g.to; have e5 := g.ge
  refine ⟨?_, ?_, ?_, ?_, ?_⟩ <;> simp only [Cs.beg, Cs.arg, Cs.emit, Cs.term, List.length_set, List.length_append, List.length_singleton] at * <;> omega
theorem le_w3 {s : Sm} {a : Int} {c : Cs} {k : Nat} {fs : List Tm} (h : s.sum.term = true) : CsLe 1 c ((((c.beg a).point k fs).term s.sum).emit 6 0) := by
  have h1 := tcode_len h
  refine ⟨?_, ?_, ?_, ?_, ?_⟩ <;> simp only [Cs.beg, Cs.emit, Cs.term, Cs.point, List.length_set, List.length_append, List.length_singleton] <;> omega
theorem le_w6 {s : Sm} {a b : Int} {c d : Cs} {m k j : Nat} {fs : List Tm} (h : s.sum.term = true) (g : CsLe m ((((c.beg a).point j fs).term s.sum).emit 6 0) d) : CsLe (1 + m) c ((d.emit 5 b).arg k) := by
  have h1 := tcode_len h
  have e1 := g.code; have e2 := g.pts; have e3 := g.fr; have e4 := g.to; have e5 := g.ge
  refine ⟨?_, ?_, ?_, ?_, ?_⟩ <;> simp only [Cs.beg, Cs.arg, Cs.emit, Cs.term, Cs.point, List.length_set, List.length_append, List.length_singleton] at * <;> omega
theorem term_xs {t : Tm} (h : t.term = true) : t.xs.length ≤ 4 := by
  unfold Tm.term at h
  simp only [Bool.and_eq_true, decide_eq_true_eq] at h; omega
theorem len_arg {c : Cs} {k : Nat} : c.code.length = (c.arg k).code.length := List.length_set.symm
theorem c1091_0 {L : Nat} (h1 : 4096 ≤ L) (h2 : L ≤ 1073741824) {n : Nat} {s : Sm} {a : Int} {c : Cs} (ha : 0 ≤ a ∧ a < n) (hs : s.sum.term = true ∧ s.index.term = true) (hk : below s.kind = 0) (hi0 : CsIn n 1 c) : MC Tryz.prog L 60 [.c (.pt 0 0 0), .c (.d (Tr.d (.node s a [])))] (csH n c) (Outs (.tup []) (csH6 n (cmp (.node s a []) c))) := by
 refine MC.shift 500 rfl ?_
 have hσ := SgOk.withIns (js := [500, 501, 502, 503, 504]) (SGok (nt := 227) h1 (Nat.le_trans h2 (by decide)))
 refine MC.bodyH hσ Tryz.func60 (by kernel_rfl) rfl rfl rfl (Nat.le_of_ble_eq_true rfl) (fun hF => ?_)
 refine jnw ?_
 have hS := tcode_len hs.1
 have hX := tcode_len hs.2
 have hcl := hi0.code
 have hf0 := hi0.fr
 have ht0 := hi0.to
 have hk1 : ∀ k : Int, s.kind = k → below k = 0 := fun k e => e ▸ hk
 refine jsr ?_
 refine jst hσ rfl rfl rfl rfl rfl ?_
 refine AOps.lone hσ rfl rfl rfl rfl (c1097 (c := c) h1 h2) (.cons (.c (.pb rfl (.cons (.whole rfl (List.length_map _).symm) (.cons (.whole rfl (List.length_map _).symm) (.cons (.whole rfl (by rw [List.length_map]; exact hf0.symm)) (.cons (.whole rfl (by rw [List.length_map]; exact ht0.symm)) .nil)))))) .nil) rfl rfl rfl rfl rfl (B0 := 10000) rfl ?_
 refine jst hσ rfl rfl rfl rfl rfl ?_
 refine jf [4, 0, 1] rfl ?_
 refine jn ?_
 refine AWP.seq ?_
 refine AWP.drawR hσ _ [_, _, _, _, _, _, _, _, _, _, _] [⟨[], 0, 0, none⟩, ⟨[0], 0, 0, none⟩, ⟨[0, 1], 0, 0, none⟩, ⟨[0, 1, 2], 0, 0, none⟩, ⟨[], 0, 0, none⟩, ⟨[4], 0, 0, none⟩, ⟨[4, 5], 0, 0, none⟩, ⟨[4, 5, 6], 0, 0, none⟩, ⟨[], 0, 0, none⟩, ⟨[0, 1, 2, 3, 4, 5, 6, 7, 8], 0, 0, none⟩, ⟨[0, 1, 2, 3, 4, 5, 6, 7, 8, 9], 0, 0, some 0⟩] [10] [_, _] rfl rfl (by decide) (by decide) (by kernel_rfl) (And.intro (Val.of hσ rfl rfl) (And.intro (Val.of hσ rfl rfl) (And.intro (Val.of hσ rfl rfl) (And.intro (Val.of hσ rfl rfl) (And.intro (Val.of hσ rfl rfl) (And.intro (Val.of hσ rfl rfl) (And.intro (Val.of hσ rfl rfl) (And.intro (Val.of hσ rfl rfl) (And.intro (Val.of hσ rfl rfl) (And.intro (Val.vif hσ rfl rfl (by first | omega | (simp at *; omega))) (And.intro (Eff.storeRow (ex := [.int .i64 (c.fr.getD a.toNat default)]) (xs' := ((c.beg a).fr).map (fun n => [D.int .i64 n])) hσ rfl rfl rfl rfl rfl rfl rfl rfl rfl rfl rfl rfl rfl rfl rfl (gj (f := (fun n => [D.int .i64 n])) (by omega) (by omega)) (sj (v := (c.code.length : Int)) (by omega) rfl) rfl) trivial))))))))))) ?_
 refine jw [4, 0, 1] rfl ?_
 refine jnw ?_
 refine AWP.seq ?_
 refine jsr ?_
 iterate 5 refine jst hσ rfl rfl rfl rfl rfl ?_
 refine jf [24, 4, 0, 1] rfl ?_
 refine jn ?_
 obtain ⟨d, ed⟩ : ∃ d, d = leafC s (c.beg a) := ⟨_, rfl⟩
 have hd : CsLe 1 c d := by rw [ed]; exact le_leaf0 hs
 have hdf : d.fr.length = n := hd.fr.trans hf0
 have hdt : d.to.length = n := hd.to.trans ht0
 refine AWP.mid ⟨[(0, .c (.pt 500 0 0)), (1, .c (.d (Tr.d (.node s a []))))], [(500, .box [.rs 901 0 d.code.length, .rs 902 0 d.pts.length, .rs 503 0 n, .rs 504 0 n]), (503, nrow d.fr), (504, nrow d.to), (901, irow d.code), (902, prow d.pts)]⟩ ?_ ?_
 ·
  skip
  refine AWP.block ?_
  refine jsr ?_
  iterate 2 refine jst hσ rfl rfl rfl rfl rfl ?_
  refine jn ?_
  refine AWP.cond hσ rfl rfl (fun hc25 => ?_) (fun hc25 => ?_)
  ·
   skip
   exact absurd (hk1 1 (of_decide_eq_true hc25)) (by decide)
  ·
   skip
   refine jsr ?_
   iterate 2 refine jst hσ rfl rfl rfl rfl rfl ?_
   refine jf [43, 26, 24, 4, 0, 1] rfl ?_
   refine jn ?_
   refine AWP.cond hσ rfl rfl (fun hc43 => ?_) (fun hc43 => ?_)
   ·
    skip
    refine jsr ?_
    iterate 6 refine jst hσ rfl rfl rfl rfl rfl ?_
    refine jf [50, 45, 26, 24, 4, 0, 1] rfl ?_
    refine AOps.inn hσ [500, 501, 502, 503, 504] (bin := [csB n 1 2 (c.beg a), irow ((c.beg a)).code, prow ((c.beg a)).pts, nrow ((c.beg a)).fr, nrow ((c.beg a)).to]) rfl rfl rfl rfl (c1098 (n := n) (c := (c.beg a)) (t := s.sum) h1 h2 (term_xs hs.1) (by simp only [Cs.emit, Cs.term, Cs.beg, Cs.arg, Cs.point, List.length_append, List.length_singleton, List.length_set]; omega)) rfl rfl rfl rfl rfl rfl (B0 := 52000) rfl rfl ?_
    refine jnm ?_
    refine jf [26, 24, 4, 0, 1] rfl ?_
    refine jn ?_
    refine AWP.region ?_
    iterate 6 refine jst hσ rfl rfl rfl rfl rfl ?_
    refine jf [57, 52, 26, 24, 4, 0, 1] rfl ?_
    refine AOps.inn hσ [500, 52005, 502, 503, 504] (bin := [csB n 1 2 ((c.beg a).term s.sum), irow (((c.beg a).term s.sum)).code, prow (((c.beg a).term s.sum)).pts, nrow (((c.beg a).term s.sum)).fr, nrow (((c.beg a).term s.sum)).to]) rfl rfl rfl rfl (c1092 (n := n) (c := ((c.beg a).term s.sum)) (op := 2) (a := s.var) h1 h2 (by simp only [Cs.emit, Cs.term, Cs.beg, Cs.arg, Cs.point, List.length_append, List.length_singleton, List.length_set]; omega)) rfl rfl rfl rfl rfl rfl (B0 := 59000) rfl rfl ?_
    refine jnm ?_
    refine jf [26, 24, 4, 0, 1] rfl ?_
    refine jn ?_
    rw [ed, leafC, if_pos (of_decide_eq_true hc43)]
    exact ⟨rfl, (((Ent.sel [500, 503, 504, 59005, 502] (e' := [(0, _), (1, _)]) rfl rfl ⟨rfl, rfl, trivial⟩ rfl).trans (Ent.sub2 59005 901 rfl rfl)).trans (Ent.sub2 502 902 rfl rfl)).trans (Ent.to ⟨rfl, rfl, trivial⟩ rfl)⟩
   ·
    skip
    refine jsr ?_
    iterate 2 refine jst hσ rfl rfl rfl rfl rfl ?_
    refine jf [59, 26, 24, 4, 0, 1] rfl ?_
    refine jn ?_
    refine AWP.cond hσ rfl rfl (fun hc59 => ?_) (fun hc59 => ?_)
    ·
     skip
     refine jsr ?_
     iterate 6 refine jst hσ rfl rfl rfl rfl rfl ?_
     refine jf [66, 61, 26, 24, 4, 0, 1] rfl ?_
     refine AOps.inn hσ [500, 501, 502, 503, 504] (bin := [csB n 1 2 (c.beg a), irow ((c.beg a)).code, prow ((c.beg a)).pts, nrow ((c.beg a)).fr, nrow ((c.beg a)).to]) rfl rfl rfl rfl (c1098 (n := n) (c := (c.beg a)) (t := s.index) h1 h2 (term_xs hs.2) (by simp only [Cs.emit, Cs.term, Cs.beg, Cs.arg, Cs.point, List.length_append, List.length_singleton, List.length_set]; omega)) rfl rfl rfl rfl rfl rfl (B0 := 68000) rfl rfl ?_
     refine jnm ?_
     refine jf [26, 24, 4, 0, 1] rfl ?_
     refine jns ?_
     refine jst hσ rfl rfl rfl rfl rfl ?_
     refine AOps.inn hσ [500, 68005, 502, 503, 504] (bin := [csB n 1 2 ((c.beg a).term s.index), irow (((c.beg a).term s.index)).code, prow (((c.beg a).term s.index)).pts, nrow (((c.beg a).term s.index)).fr, nrow (((c.beg a).term s.index)).to]) rfl rfl rfl rfl (c1092 (n := n) (c := ((c.beg a).term s.index)) (op := 7) (a := 0) h1 h2 (by simp only [Cs.emit, Cs.term, Cs.beg, Cs.arg, Cs.point, List.length_append, List.length_singleton, List.length_set]; omega)) rfl rfl rfl rfl rfl rfl (B0 := 70000) rfl rfl ?_
     refine jnm ?_
     refine jf [26, 24, 4, 0, 1] rfl ?_
     refine jn ?_
     refine AWP.region ?_
     iterate 6 refine jst hσ rfl rfl rfl rfl rfl ?_
     refine jf [75, 70, 26, 24, 4, 0, 1] rfl ?_
     refine AOps.inn hσ [500, 70005, 502, 503, 504] (bin := [csB n 1 2 (((c.beg a).term s.index).emit 7 0), irow ((((c.beg a).term s.index).emit 7 0)).code, prow ((((c.beg a).term s.index).emit 7 0)).pts, nrow ((((c.beg a).term s.index).emit 7 0)).fr, nrow ((((c.beg a).term s.index).emit 7 0)).to]) rfl rfl rfl rfl (c1092 (n := n) (c := (((c.beg a).term s.index).emit 7 0)) (op := 2) (a := s.var) h1 h2 (by simp only [Cs.emit, Cs.term, Cs.beg, Cs.arg, Cs.point, List.length_append, List.length_singleton, List.length_set]; omega)) rfl rfl rfl rfl rfl rfl (B0 := 77000) rfl rfl ?_
     refine jnm ?_
     refine jf [26, 24, 4, 0, 1] rfl ?_
     refine jn ?_
     rw [ed, leafC, if_neg (of_decide_eq_false hc43), if_pos (of_decide_eq_true hc59)]
     exact ⟨rfl, (((Ent.sel [500, 503, 504, 77005, 502] (e' := [(0, _), (1, _)]) rfl rfl ⟨rfl, rfl, trivial⟩ rfl).trans (Ent.sub2 77005 901 rfl rfl)).trans (Ent.sub2 502 902 rfl rfl)).trans (Ent.to ⟨rfl, rfl, trivial⟩ rfl)⟩
    ·
     skip
     refine jsr ?_
     iterate 2 refine jst hσ rfl rfl rfl rfl rfl ?_
     refine jf [77, 26, 24, 4, 0, 1] rfl ?_
     refine jn ?_
     refine AWP.cond hσ rfl rfl (fun hc77 => ?_) (fun hc77 => ?_)
     ·
      skip
      refine jsr ?_
      iterate 6 refine jst hσ rfl rfl rfl rfl rfl ?_
      refine jf [84, 79, 26, 24, 4, 0, 1] rfl ?_
      refine AOps.inn hσ [500, 501, 502, 503, 504] (bin := [csB n 1 2 (c.beg a), irow ((c.beg a)).code, prow ((c.beg a)).pts, nrow ((c.beg a)).fr, nrow ((c.beg a)).to]) rfl rfl rfl rfl (c1098 (n := n) (c := (c.beg a)) (t := s.index) h1 h2 (term_xs hs.2) (by simp only [Cs.emit, Cs.term, Cs.beg, Cs.arg, Cs.point, List.length_append, List.length_singleton, List.length_set]; omega)) rfl rfl rfl rfl rfl rfl (B0 := 86000) rfl rfl ?_
      refine jnm ?_
      refine jf [26, 24, 4, 0, 1] rfl ?_
      refine jns ?_
      iterate 6 refine jst hσ rfl rfl rfl rfl rfl ?_
      refine jf [91, 86, 26, 24, 4, 0, 1] rfl ?_
      refine AOps.inn hσ [500, 86005, 502, 503, 504] (bin := [csB n 1 2 ((c.beg a).term s.index), irow (((c.beg a).term s.index)).code, prow (((c.beg a).term s.index)).pts, nrow (((c.beg a).term s.index)).fr, nrow (((c.beg a).term s.index)).to]) rfl rfl rfl rfl (c1098 (n := n) (c := ((c.beg a).term s.index)) (t := s.sum) h1 h2 (term_xs hs.1) (by simp only [Cs.emit, Cs.term, Cs.beg, Cs.arg, Cs.point, List.length_append, List.length_singleton, List.length_set]; omega)) rfl rfl rfl rfl rfl rfl (B0 := 93000) rfl rfl ?_
      refine jnm ?_
      refine jf [26, 24, 4, 0, 1] rfl ?_
      refine jn ?_
      refine AWP.region ?_
      refine jst hσ rfl rfl rfl rfl rfl ?_
      refine AOps.inn hσ [500, 93005, 502, 503, 504] (bin := [csB n 1 2 (((c.beg a).term s.index).term s.sum), irow ((((c.beg a).term s.index).term s.sum)).code, prow ((((c.beg a).term s.index).term s.sum)).pts, nrow ((((c.beg a).term s.index).term s.sum)).fr, nrow ((((c.beg a).term s.index).term s.sum)).to]) rfl rfl rfl rfl (c1092 (n := n) (c := (((c.beg a).term s.index).term s.sum)) (op := 8) (a := 0) h1 h2 (by simp only [Cs.emit, Cs.term, Cs.beg, Cs.arg, Cs.point, List.length_append, List.length_singleton, List.length_set]; omega)) rfl rfl rfl rfl rfl rfl (B0 := 95000) rfl rfl ?_
      refine jnm ?_
      refine jf [26, 24, 4, 0, 1] rfl ?_
      refine jn ?_
      rw [ed, leafC, if_neg (of_decide_eq_false hc43), if_neg (of_decide_eq_false hc59), if_pos (of_decide_eq_true hc77)]
      exact ⟨rfl, (((Ent.sel [500, 503, 504, 95005, 502] (e' := [(0, _), (1, _)]) rfl rfl ⟨rfl, rfl, trivial⟩ rfl).trans (Ent.sub2 95005 901 rfl rfl)).trans (Ent.sub2 502 902 rfl rfl)).trans (Ent.to ⟨rfl, rfl, trivial⟩ rfl)⟩
     ·
      skip
      refine jsr ?_
      iterate 2 refine jst hσ rfl rfl rfl rfl rfl ?_
      refine jf [95, 26, 24, 4, 0, 1] rfl ?_
      refine jn ?_
      refine AWP.cond hσ rfl rfl (fun hc95 => ?_) (fun hc95 => ?_)
      ·
       skip
       refine AWP.region ?_
       iterate 6 refine jst hσ rfl rfl rfl rfl rfl ?_
       refine jf [102, 97, 26, 24, 4, 0, 1] rfl ?_
       refine AOps.inn hσ [500, 501, 502, 503, 504] (bin := [csB n 1 2 (c.beg a), irow ((c.beg a)).code, prow ((c.beg a)).pts, nrow ((c.beg a)).fr, nrow ((c.beg a)).to]) rfl rfl rfl rfl (c1092 (n := n) (c := (c.beg a)) (op := 9) (a := s.event) h1 h2 (by simp only [Cs.emit, Cs.term, Cs.beg, Cs.arg, Cs.point, List.length_append, List.length_singleton, List.length_set]; omega)) rfl rfl rfl rfl rfl rfl (B0 := 104000) rfl rfl ?_
       refine jnm ?_
       refine jf [26, 24, 4, 0, 1] rfl ?_
       refine jn ?_
       rw [ed, leafC, if_neg (of_decide_eq_false hc43), if_neg (of_decide_eq_false hc59), if_neg (of_decide_eq_false hc77), if_pos (of_decide_eq_true hc95)]
       exact ⟨rfl, (((Ent.sel [500, 503, 504, 104005, 502] (e' := [(0, _), (1, _)]) rfl rfl ⟨rfl, rfl, trivial⟩ rfl).trans (Ent.sub2 104005 901 rfl rfl)).trans (Ent.sub2 502 902 rfl rfl)).trans (Ent.to ⟨rfl, rfl, trivial⟩ rfl)⟩
      ·
       skip
       refine jsr ?_
       iterate 2 refine jst hσ rfl rfl rfl rfl rfl ?_
       refine jf [104, 26, 24, 4, 0, 1] rfl ?_
       refine jn ?_
       refine AWP.cond hσ rfl rfl (fun hc104 => ?_) (fun hc104 => ?_)
       ·
        skip
        refine jsr ?_
        iterate 6 refine jst hσ rfl rfl rfl rfl rfl ?_
        refine jf [111, 106, 26, 24, 4, 0, 1] rfl ?_
        refine AOps.inn hσ [500, 501, 502, 503, 504] (bin := [csB n 1 2 (c.beg a), irow ((c.beg a)).code, prow ((c.beg a)).pts, nrow ((c.beg a)).fr, nrow ((c.beg a)).to]) rfl rfl rfl rfl (c1098 (n := n) (c := (c.beg a)) (t := s.sum) h1 h2 (term_xs hs.1) (by simp only [Cs.emit, Cs.term, Cs.beg, Cs.arg, Cs.point, List.length_append, List.length_singleton, List.length_set]; omega)) rfl rfl rfl rfl rfl rfl (B0 := 113000) rfl rfl ?_
        refine jnm ?_
        refine jf [26, 24, 4, 0, 1] rfl ?_
        refine jn ?_
        refine AWP.region ?_
        refine jst hσ rfl rfl rfl rfl rfl ?_
        refine AOps.inn hσ [500, 113005, 502, 503, 504] (bin := [csB n 1 2 ((c.beg a).term s.sum), irow (((c.beg a).term s.sum)).code, prow (((c.beg a).term s.sum)).pts, nrow (((c.beg a).term s.sum)).fr, nrow (((c.beg a).term s.sum)).to]) rfl rfl rfl rfl (c1092 (n := n) (c := ((c.beg a).term s.sum)) (op := 10) (a := 0) h1 h2 (by simp only [Cs.emit, Cs.term, Cs.beg, Cs.arg, Cs.point, List.length_append, List.length_singleton, List.length_set]; omega)) rfl rfl rfl rfl rfl rfl (B0 := 115000) rfl rfl ?_
        refine jnm ?_
        refine jf [26, 24, 4, 0, 1] rfl ?_
        refine jn ?_
        rw [ed, leafC, if_neg (of_decide_eq_false hc43), if_neg (of_decide_eq_false hc59), if_neg (of_decide_eq_false hc77), if_neg (of_decide_eq_false hc95), if_pos (of_decide_eq_true hc104)]
        exact ⟨rfl, (((Ent.sel [500, 503, 504, 115005, 502] (e' := [(0, _), (1, _)]) rfl rfl ⟨rfl, rfl, trivial⟩ rfl).trans (Ent.sub2 115005 901 rfl rfl)).trans (Ent.sub2 502 902 rfl rfl)).trans (Ent.to ⟨rfl, rfl, trivial⟩ rfl)⟩
       ·
        skip
        refine jsr ?_
        iterate 2 refine jst hσ rfl rfl rfl rfl rfl ?_
        refine jf [115, 26, 24, 4, 0, 1] rfl ?_
        refine jn ?_
        refine AWP.cond hσ rfl rfl (fun hc115 => ?_) (fun hc115 => ?_)
        ·
         skip
         exact absurd (hk1 7 (of_decide_eq_true hc115)) (by decide)
        ·
         skip
         refine jsr ?_
         iterate 2 refine jst hσ rfl rfl rfl rfl rfl ?_
         refine jf [166, 26, 24, 4, 0, 1] rfl ?_
         refine jn ?_
         refine AWP.cond hσ rfl rfl (fun hc166 => ?_) (fun hc166 => ?_)
         ·
          skip
          exact absurd (hk1 8 (of_decide_eq_true hc166)) (by decide)
         ·
          skip
          refine AWP.skip ?_
          rw [ed, leafC, if_neg (of_decide_eq_false hc43), if_neg (of_decide_eq_false hc59), if_neg (of_decide_eq_false hc77), if_neg (of_decide_eq_false hc95), if_neg (of_decide_eq_false hc104)]
          exact ⟨rfl, (((Ent.sel [500, 503, 504, 501, 502] (e' := [(0, _), (1, _)]) rfl rfl ⟨rfl, rfl, trivial⟩ rfl).trans (Ent.sub2 501 901 rfl rfl)).trans (Ent.sub2 502 902 rfl rfl)).trans (Ent.to ⟨rfl, rfl, trivial⟩ rfl)⟩
 refine AWP.drawR hσ _ [_, _, _, _, _, _, _, _, _, _, _, _] [⟨[], 0, 1, none⟩, ⟨[0], 0, 1, none⟩, ⟨[0, 1], 0, 1, none⟩, ⟨[0, 1, 2], 0, 1, none⟩, ⟨[], 0, 1, none⟩, ⟨[4], 0, 1, none⟩, ⟨[4, 5], 0, 1, none⟩, ⟨[4, 5, 6], 0, 1, none⟩, ⟨[], 0, 0, none⟩, ⟨[8], 0, 0, some 0⟩, ⟨[0, 1, 2, 3, 4, 5, 6, 7, 8, 9], 1, 1, none⟩, ⟨[0, 1, 2, 3, 4, 5, 6, 7, 8, 9, 10], 0, 0, some 1⟩] [9, 11] [_, _, _] rfl rfl (by decide) (by decide) (by kernel_rfl) (And.intro (And.intro (Val.of hσ rfl rfl) (Val.of hσ rfl rfl)) (And.intro (And.intro (Val.of hσ rfl rfl) (Val.of hσ rfl rfl)) (And.intro (And.intro (Val.of hσ rfl rfl) (Val.of hσ rfl rfl)) (And.intro (And.intro (Val.of hσ rfl rfl) (Val.of hσ rfl rfl)) (And.intro (And.intro (Val.of hσ rfl rfl) (Val.of hσ rfl rfl)) (And.intro (And.intro (Val.of hσ rfl rfl) (Val.of hσ rfl rfl)) (And.intro (And.intro (Val.of hσ rfl rfl) (Val.of hσ rfl rfl)) (And.intro (And.intro (Val.of hσ rfl rfl) (Val.of hσ rfl rfl)) (And.intro (Val.of hσ rfl rfl) (And.intro (Eff.lone hσ (B0 := 226000) rfl rfl rfl rfl (c1097 (c := d) h1 h2) (.cons (.c (.pb rfl (.cons (.whole rfl (List.length_map _).symm) (.cons (.whole rfl (List.length_map _).symm) (.cons (.whole rfl (by rw [List.length_map]; exact hdf.symm)) (.cons (.whole rfl (by rw [List.length_map]; exact hdt.symm)) .nil)))))) .nil) rfl rfl rfl rfl rfl) (And.intro (Val.vif hσ rfl rfl (by first | omega | (simp at *; omega))) (And.intro (Eff.storeRow (ex := [.int .i64 (d.to.getD a.toNat default)]) (xs' := ((d.fin a).to).map (fun n => [D.int .i64 n])) hσ rfl rfl rfl rfl rfl rfl rfl rfl rfl rfl rfl rfl rfl rfl rfl (gj (f := (fun n => [D.int .i64 n])) (by omega) (by omega)) (sj (v := (d.code.length : Int)) (by omega) rfl) rfl) trivial)))))))))))) ?_
 show _ ∧ _
 rw [cmp_nil, ← ed]
 refine ⟨.inr rfl, _, ((Ent.sel [500, 503, 504, 901, 902] (e' := []) rfl rfl trivial rfl).trans (Ent.sub2 901 505 rfl rfl)).trans (Ent.sub2 902 506 rfl rfl), _, rfl, rfl, rfl⟩
theorem c1091_2 {L : Nat} (h1 : 4096 ≤ L) (h2 : L ≤ 1073741824) {n : Nat} {x y : Tr} {s : Sm} {a : Int} {c : Cs} (ha : 0 ≤ a ∧ a < n) (hs : s.sum.term = true ∧ s.index.term = true) (ihx : ∀ c, CsIn n x.nodes c → MC Tryz.prog L 60 [.c (.pt 0 0 0), .c (.d (Tr.d x))] (csH n c) (Outs (.tup []) (csH6 n (cmp x c)))) (hlx : ∀ c, CsLe x.nodes c (cmp x c)) (ihy : ∀ c, CsIn n y.nodes c → MC Tryz.prog L 60 [.c (.pt 0 0 0), .c (.d (Tr.d y))] (csH n c) (Outs (.tup []) (csH6 n (cmp y c)))) (hly : ∀ c, CsLe y.nodes c (cmp y c)) (hk : below s.kind = 2) (hi0 : CsIn n (1 + (x.nodes + y.nodes)) c) : MC Tryz.prog L 60 [.c (.pt 0 0 0), .c (.d (Tr.d (.node s a [x, y])))] (csH n c) (Outs (.tup []) (csH6 n (cmp (.node s a [x, y]) c))) := by
 refine MC.shift 500 rfl ?_
 have hσ := SgOk.withIns (js := [500, 501, 502, 503, 504]) (SGok (nt := 227) h1 (Nat.le_trans h2 (by decide)))
 refine MC.bodyH hσ Tryz.func60 (by kernel_rfl) rfl rfl rfl (Nat.le_of_ble_eq_true rfl) (fun hF => ?_)
 refine jnw ?_
 have hS := tcode_len hs.1
 have hX := tcode_len hs.2
 have hcl := hi0.code
 have hf0 := hi0.fr
 have ht0 := hi0.to
 have hk1 : ∀ k : Int, s.kind = k → below k = 2 := fun k e => e ▸ hk
 have hk2 : ¬ s.kind = 1 → s.kind = 7 := fun h => (below_two hk).resolve_left h
 have g4 := hlx (((c.beg a).term s.sum).emit 6 0)
 have h4 := (le_c3 (a := a) (c := c) hs.1).trans g4
 have h6 := le_c6 (b := 0) (k := ((c.beg a).term s.sum).code.length) hs.1 g4
 have g7 := hly (((cmp x (((c.beg a).term s.sum).emit 6 0)).emit 5 0).arg ((c.beg a).term s.sum).code.length)
 have h7 := h6.trans g7
 have hf2 : ((c.beg a).term s.sum).fr.length = n := (le_beg (a := a) (c := c)).fr.trans hf0
 have ht2 : ((c.beg a).term s.sum).to.length = n := ht0
 have hf4 : (cmp x (((c.beg a).term s.sum).emit 6 0)).fr.length = n := h4.fr.trans hf0
 have ht4 : (cmp x (((c.beg a).term s.sum).emit 6 0)).to.length = n := h4.to.trans ht0
 have hf7 : (cmp y (((cmp x (((c.beg a).term s.sum).emit 6 0)).emit 5 0).arg ((c.beg a).term s.sum).code.length)).fr.length = n := h7.fr.trans hf0
 have ht7 : (cmp y (((cmp x (((c.beg a).term s.sum).emit 6 0)).emit 5 0).arg ((c.beg a).term s.sum).code.length)).to.length = n := h7.to.trans ht0
 have hb4 := h4.code
 have hb7 := h7.code
 have hg4 := g4.ge
 have hg7 := g7.ge
 have hlt1 : ((c.beg a).term s.sum).code.length < ((cmp x (((c.beg a).term s.sum).emit 6 0)).emit 5 0).code.length := by simp only [Cs.emit, Cs.term, Cs.beg, Cs.arg, Cs.point, List.length_append, List.length_singleton, List.length_set] at hg4 ⊢; omega
 have hlt2 : (cmp x (((c.beg a).term s.sum).emit 6 0)).code.length < (cmp y (((cmp x (((c.beg a).term s.sum).emit 6 0)).emit 5 0).arg ((c.beg a).term s.sum).code.length)).code.length := by rw [← len_arg] at hg7; simp only [show ∀ c : Cs, (c.emit 5 0).code.length = c.code.length + 1 from fun c => by simp [Cs.emit]] at hg7; omega
 refine jsr ?_
 refine jst hσ rfl rfl rfl rfl rfl ?_
 refine AOps.lone hσ rfl rfl rfl rfl (c1097 (c := c) h1 h2) (.cons (.c (.pb rfl (.cons (.whole rfl (List.length_map _).symm) (.cons (.whole rfl (List.length_map _).symm) (.cons (.whole rfl (by rw [List.length_map]; exact hf0.symm)) (.cons (.whole rfl (by rw [List.length_map]; exact ht0.symm)) .nil)))))) .nil) rfl rfl rfl rfl rfl (B0 := 10000) rfl ?_
 refine jst hσ rfl rfl rfl rfl rfl ?_
 refine jf [4, 0, 1] rfl ?_
 refine jn ?_
 refine AWP.seq ?_
 refine AWP.drawR hσ _ [_, _, _, _, _, _, _, _, _, _, _] [⟨[], 0, 0, none⟩, ⟨[0], 0, 0, none⟩, ⟨[0, 1], 0, 0, none⟩, ⟨[0, 1, 2], 0, 0, none⟩, ⟨[], 0, 0, none⟩, ⟨[4], 0, 0, none⟩, ⟨[4, 5], 0, 0, none⟩, ⟨[4, 5, 6], 0, 0, none⟩, ⟨[], 0, 0, none⟩, ⟨[0, 1, 2, 3, 4, 5, 6, 7, 8], 0, 0, none⟩, ⟨[0, 1, 2, 3, 4, 5, 6, 7, 8, 9], 0, 0, some 0⟩] [10] [_, _] rfl rfl (by decide) (by decide) (by kernel_rfl) (And.intro (Val.of hσ rfl rfl) (And.intro (Val.of hσ rfl rfl) (And.intro (Val.of hσ rfl rfl) (And.intro (Val.of hσ rfl rfl) (And.intro (Val.of hσ rfl rfl) (And.intro (Val.of hσ rfl rfl) (And.intro (Val.of hσ rfl rfl) (And.intro (Val.of hσ rfl rfl) (And.intro (Val.of hσ rfl rfl) (And.intro (Val.vif hσ rfl rfl (by first | omega | (simp at *; omega))) (And.intro (Eff.storeRow (ex := [.int .i64 (c.fr.getD a.toNat default)]) (xs' := ((c.beg a).fr).map (fun n => [D.int .i64 n])) hσ rfl rfl rfl rfl rfl rfl rfl rfl rfl rfl rfl rfl rfl rfl rfl (gj (f := (fun n => [D.int .i64 n])) (by omega) (by omega)) (sj (v := (c.code.length : Int)) (by omega) rfl) rfl) trivial))))))))))) ?_
 refine jw [4, 0, 1] rfl ?_
 refine jnw ?_
 refine AWP.seq ?_
 refine jsr ?_
 iterate 5 refine jst hσ rfl rfl rfl rfl rfl ?_
 refine jf [24, 4, 0, 1] rfl ?_
 refine jn ?_
 obtain ⟨d, ed⟩ : ∃ d, d = if s.kind = 1 then cmp y (cmp x (c.beg a)) else ifC s (cmp x) (cmp y) (c.beg a) := ⟨_, rfl⟩
 have hdf : d.fr.length = n := by rw [ed]; split; exact ((le_beg (a := a)).trans ((hlx _).trans (hly _))).fr.trans hf0; exact hf7
 have hdt : d.to.length = n := by rw [ed]; split; exact ((le_beg (a := a)).trans ((hlx _).trans (hly _))).to.trans ht0; exact ht7
 refine AWP.mid ⟨[(0, .c (.pt 500 0 0)), (1, .c (.d (Tr.d (.node s a [x, y]))))], [(500, .box [.rs 901 0 d.code.length, .rs 902 0 d.pts.length, .rs 503 0 n, .rs 504 0 n]), (503, nrow d.fr), (504, nrow d.to), (901, irow d.code), (902, prow d.pts)]⟩ ?_ ?_
 ·
  skip
  refine AWP.block ?_
  refine jsr ?_
  iterate 2 refine jst hσ rfl rfl rfl rfl rfl ?_
  refine jn ?_
  refine AWP.cond hσ rfl rfl (fun hc25 => ?_) (fun hc25 => ?_)
  ·
   skip
   refine jsr ?_
   iterate 5 refine jst hσ rfl rfl rfl rfl rfl ?_
   refine AOps.step (Val.indexD hσ rfl rfl rfl rfl rfl rfl rfl rfl (by decide) rfl) rfl rfl rfl ?_
   refine jst hσ rfl rfl rfl rfl rfl ?_
   refine jf [33, 27, 26, 24, 4, 0, 1] rfl ?_
   refine AOps.inn hσ [500, 501, 502, 503, 504] (bin := [csB n 1 2 (c.beg a), irow ((c.beg a)).code, prow ((c.beg a)).pts, nrow ((c.beg a)).fr, nrow ((c.beg a)).to]) rfl rfl rfl rfl (ihx (c.beg a) (hi0.of le_beg (by omega))) rfl rfl rfl rfl rfl rfl (B0 := 35000) rfl rfl ?_
   refine jnm ?_
   refine jf [26, 24, 4, 0, 1] rfl ?_
   refine jn ?_
   refine AWP.region ?_
   iterate 5 refine jst hσ rfl rfl rfl rfl rfl ?_
   refine AOps.step (Val.indexD hσ rfl rfl rfl rfl rfl rfl rfl rfl (by decide) rfl) rfl rfl rfl ?_
   refine jst hσ rfl rfl rfl rfl rfl ?_
   refine jf [41, 35, 26, 24, 4, 0, 1] rfl ?_
   refine AOps.inn hσ [500, 35005, 35006, 503, 504] (bin := [csB n 1 2 (cmp x (c.beg a)), irow ((cmp x (c.beg a))).code, prow ((cmp x (c.beg a))).pts, nrow ((cmp x (c.beg a))).fr, nrow ((cmp x (c.beg a))).to]) rfl rfl rfl rfl (ihy (cmp x (c.beg a)) (hi0.of (le_beg.trans (hlx _)) (by omega))) rfl rfl rfl rfl rfl rfl (B0 := 43000) rfl rfl ?_
   refine jnm ?_
   refine jf [26, 24, 4, 0, 1] rfl ?_
   refine jn ?_
   rw [ed, if_pos (of_decide_eq_true hc25)]
   exact ⟨rfl, (((Ent.sel [500, 503, 504, 43005, 43006] (e' := [(0, _), (1, _)]) rfl rfl ⟨rfl, rfl, trivial⟩ rfl).trans (Ent.sub2 43005 901 rfl rfl)).trans (Ent.sub2 43006 902 rfl rfl)).trans (Ent.to ⟨rfl, rfl, trivial⟩ rfl)⟩
  ·
   skip
   refine jsr ?_
   iterate 2 refine jst hσ rfl rfl rfl rfl rfl ?_
   refine jf [43, 26, 24, 4, 0, 1] rfl ?_
   refine jn ?_
   refine AWP.cond hσ rfl rfl (fun hc43 => ?_) (fun hc43 => ?_)
   ·
    skip
    exact absurd (hk1 2 (of_decide_eq_true hc43)) (by decide)
   ·
    skip
    refine jsr ?_
    iterate 2 refine jst hσ rfl rfl rfl rfl rfl ?_
    refine jf [59, 26, 24, 4, 0, 1] rfl ?_
    refine jn ?_
    refine AWP.cond hσ rfl rfl (fun hc59 => ?_) (fun hc59 => ?_)
    ·
     skip
     exact absurd (hk1 3 (of_decide_eq_true hc59)) (by decide)
    ·
     skip
     refine jsr ?_
     iterate 2 refine jst hσ rfl rfl rfl rfl rfl ?_
     refine jf [77, 26, 24, 4, 0, 1] rfl ?_
     refine jn ?_
     refine AWP.cond hσ rfl rfl (fun hc77 => ?_) (fun hc77 => ?_)
     ·
      skip
      exact absurd (hk1 4 (of_decide_eq_true hc77)) (by decide)
     ·
      skip
      refine jsr ?_
      iterate 2 refine jst hσ rfl rfl rfl rfl rfl ?_
      refine jf [95, 26, 24, 4, 0, 1] rfl ?_
      refine jn ?_
      refine AWP.cond hσ rfl rfl (fun hc95 => ?_) (fun hc95 => ?_)
      ·
       skip
       exact absurd (hk1 5 (of_decide_eq_true hc95)) (by decide)
      ·
       skip
       refine jsr ?_
       iterate 2 refine jst hσ rfl rfl rfl rfl rfl ?_
       refine jf [104, 26, 24, 4, 0, 1] rfl ?_
       refine jn ?_
       refine AWP.cond hσ rfl rfl (fun hc104 => ?_) (fun hc104 => ?_)
       ·
        skip
        exact absurd (hk1 6 (of_decide_eq_true hc104)) (by decide)
       ·
        skip
        refine jsr ?_
        iterate 2 refine jst hσ rfl rfl rfl rfl rfl ?_
        refine jf [115, 26, 24, 4, 0, 1] rfl ?_
        refine jn ?_
        refine AWP.cond hσ rfl rfl (fun hc115 => ?_) (fun hc115 => ?_)
        ·
         skip
         refine jsr ?_
         iterate 6 refine jst hσ rfl rfl rfl rfl rfl ?_
         refine jf [122, 117, 26, 24, 4, 0, 1] rfl ?_
         refine AOps.inn hσ [500, 501, 502, 503, 504] (bin := [csB n 1 2 (c.beg a), irow ((c.beg a)).code, prow ((c.beg a)).pts, nrow ((c.beg a)).fr, nrow ((c.beg a)).to]) rfl rfl rfl rfl (c1098 (n := n) (c := (c.beg a)) (t := s.sum) h1 h2 (term_xs hs.1) (by simp only [Cs.emit, Cs.term, Cs.beg, Cs.arg, Cs.point, List.length_append, List.length_singleton, List.length_set]; omega)) rfl rfl rfl rfl rfl rfl (B0 := 124000) rfl rfl ?_
         refine jnm ?_
         refine jf [26, 24, 4, 0, 1] rfl ?_
         refine jns ?_
         refine jst hσ rfl rfl rfl rfl rfl ?_
         refine AOps.lone hσ rfl rfl rfl rfl (c1097 (c := ((c.beg a).term s.sum)) h1 h2) (.cons (.c (.pb rfl (.cons (.whole rfl (List.length_map _).symm) (.cons (.whole rfl (List.length_map _).symm) (.cons (.whole rfl (by rw [List.length_map]; exact hf2.symm)) (.cons (.whole rfl (by rw [List.length_map]; exact ht2.symm)) .nil)))))) .nil) rfl rfl rfl rfl rfl (B0 := 126000) rfl ?_
         refine jst hσ rfl rfl rfl rfl rfl ?_
         refine jf [5, 26, 24, 4, 0, 1] rfl ?_
         refine jns ?_
         refine jst hσ rfl rfl rfl rfl rfl ?_
         refine AOps.inn hσ [500, 124005, 502, 503, 504] (bin := [csB n 1 2 ((c.beg a).term s.sum), irow (((c.beg a).term s.sum)).code, prow (((c.beg a).term s.sum)).pts, nrow (((c.beg a).term s.sum)).fr, nrow (((c.beg a).term s.sum)).to]) rfl rfl rfl rfl (c1092 (n := n) (c := ((c.beg a).term s.sum)) (op := 6) (a := 0) h1 h2 (by simp only [Cs.emit, Cs.term, Cs.beg, Cs.arg, Cs.point, List.length_append, List.length_singleton, List.length_set]; omega)) rfl rfl rfl rfl rfl rfl (B0 := 128000) rfl rfl ?_
         refine jnm ?_
         refine jf [5, 26, 24, 4, 0, 1] rfl ?_
         refine jns ?_
         iterate 5 refine jst hσ rfl rfl rfl rfl rfl ?_
         refine AOps.step (Val.indexD hσ rfl rfl rfl rfl rfl rfl rfl rfl (by decide) rfl) rfl rfl rfl ?_
         refine jst hσ rfl rfl rfl rfl rfl ?_
         refine jf [134, 128, 5, 26, 24, 4, 0, 1] rfl ?_
         refine AOps.inn hσ [500, 128005, 502, 503, 504] (bin := [csB n 1 2 (((c.beg a).term s.sum).emit 6 0), irow ((((c.beg a).term s.sum).emit 6 0)).code, prow ((((c.beg a).term s.sum).emit 6 0)).pts, nrow ((((c.beg a).term s.sum).emit 6 0)).fr, nrow ((((c.beg a).term s.sum).emit 6 0)).to]) rfl rfl rfl rfl (ihx (((c.beg a).term s.sum).emit 6 0) (hi0.of (le_c3 hs.1) (by omega))) rfl rfl rfl rfl rfl rfl (B0 := 136000) rfl rfl ?_
         refine jnm ?_
         refine jf [5, 26, 24, 4, 0, 1] rfl ?_
         refine jns ?_
         refine jst hσ rfl rfl rfl rfl rfl ?_
         refine AOps.lone hσ rfl rfl rfl rfl (c1097 (c := (cmp x (((c.beg a).term s.sum).emit 6 0))) h1 h2) (.cons (.c (.pb rfl (.cons (.whole rfl (List.length_map _).symm) (.cons (.whole rfl (List.length_map _).symm) (.cons (.whole rfl (by rw [List.length_map]; exact hf4.symm)) (.cons (.whole rfl (by rw [List.length_map]; exact ht4.symm)) .nil)))))) .nil) rfl rfl rfl rfl rfl (B0 := 138000) rfl ?_
         refine jst hσ rfl rfl rfl rfl rfl ?_
         refine jf [6, 5, 26, 24, 4, 0, 1] rfl ?_
         refine jns ?_
         refine jst hσ rfl rfl rfl rfl rfl ?_
         refine AOps.inn hσ [500, 136005, 136006, 503, 504] (bin := [csB n 1 2 (cmp x (((c.beg a).term s.sum).emit 6 0)), irow ((cmp x (((c.beg a).term s.sum).emit 6 0))).code, prow ((cmp x (((c.beg a).term s.sum).emit 6 0))).pts, nrow ((cmp x (((c.beg a).term s.sum).emit 6 0))).fr, nrow ((cmp x (((c.beg a).term s.sum).emit 6 0))).to]) rfl rfl rfl rfl (c1092 (n := n) (c := (cmp x (((c.beg a).term s.sum).emit 6 0))) (op := 5) (a := 0) h1 h2 (by omega)) rfl rfl rfl rfl rfl rfl (B0 := 140000) rfl rfl ?_
         refine jnm ?_
         refine jf [6, 5, 26, 24, 4, 0, 1] rfl ?_
         refine jn ?_
         refine AWP.seq ?_
         refine AWP.drawR hσ _ [_, _, _, _, _, _, _, _, _, _] [⟨[], 0, 1, none⟩, ⟨[0], 0, 1, none⟩, ⟨[0, 1], 0, 1, none⟩, ⟨[0, 1, 2], 0, 1, none⟩, ⟨[], 0, 1, none⟩, ⟨[], 0, 0, none⟩, ⟨[5], 0, 0, some 0⟩, ⟨[0, 1, 2, 3, 4, 5, 6], 1, 1, none⟩, ⟨[0, 1, 2, 3, 4, 5, 6, 7], 1, 1, none⟩, ⟨[0, 1, 2, 3, 4, 5, 6, 7, 8], 0, 0, some 1⟩] [6, 9] [_, _, _] rfl rfl (by decide) (by decide) (by kernel_rfl) (And.intro (And.intro (Val.of hσ rfl rfl) (Val.of hσ rfl rfl)) (And.intro (And.intro (Val.of hσ rfl rfl) (Val.of hσ rfl rfl)) (And.intro (And.intro (Val.of hσ rfl rfl) (Val.of hσ rfl rfl)) (And.intro (And.intro (Val.of hσ rfl rfl) (Val.of hσ rfl rfl)) (And.intro (And.intro (Val.of hσ rfl rfl) (Val.of hσ rfl rfl)) (And.intro (Val.of hσ rfl rfl) (And.intro (Eff.lone hσ (B0 := 147000) rfl rfl rfl rfl (c1097 (c := ((cmp x (((c.beg a).term s.sum).emit 6 0)).emit 5 0)) h1 h2) (.cons (.c (.pb rfl (.cons (.whole rfl (List.length_map _).symm) (.cons (.whole rfl (List.length_map _).symm) (.cons (.whole rfl (by rw [List.length_map]; exact hf4.symm)) (.cons (.whole rfl (by rw [List.length_map]; exact ht4.symm)) .nil)))))) .nil) rfl rfl rfl rfl rfl) (And.intro (Val.vif hσ rfl rfl (by first | omega | (simp at *; omega))) (And.intro (Val.of hσ rfl rfl) (And.intro (Eff.storeRow (ex := In.cells ((((cmp x (((c.beg a).term s.sum).emit 6 0)).emit 5 0)).code.getD ((c.beg a).term s.sum).code.length default)) (xs' := ((((cmp x (((c.beg a).term s.sum).emit 6 0)).emit 5 0)).arg ((c.beg a).term s.sum).code.length).code.map In.cells) hσ rfl rfl rfl rfl rfl rfl rfl rfl rfl rfl rfl rfl rfl rfl rfl (gj hlt1 (by omega)) (sj (v := (⟨((((cmp x (((c.beg a).term s.sum).emit 6 0)).emit 5 0)).code.getD ((c.beg a).term s.sum).code.length default).op, ((((cmp x (((c.beg a).term s.sum).emit 6 0)).emit 5 0)).code.length : Nat)⟩ : In)) (by omega) rfl) rfl) trivial)))))))))) ?_
         refine jw [6, 26, 24, 4, 0, 1] rfl ?_
         refine jnw ?_
         refine jsr ?_
         rw [len_arg (c := ((cmp x (((c.beg a).term s.sum).emit 6 0)).emit 5 0)) (k := ((c.beg a).term s.sum).code.length)]
         iterate 5 refine jst hσ rfl rfl rfl rfl rfl ?_
         refine AOps.step (Val.indexD hσ rfl rfl rfl rfl rfl rfl rfl rfl (by decide) rfl) rfl rfl rfl ?_
         refine jst hσ rfl rfl rfl rfl rfl ?_
         refine jf [155, 149, 6, 26, 24, 4, 0, 1] rfl ?_
         refine AOps.inn hσ [500, 140005, 136006, 503, 504] (bin := [csB n 1 2 (((cmp x (((c.beg a).term s.sum).emit 6 0)).emit 5 0).arg ((c.beg a).term s.sum).code.length), irow ((((cmp x (((c.beg a).term s.sum).emit 6 0)).emit 5 0).arg ((c.beg a).term s.sum).code.length)).code, prow ((((cmp x (((c.beg a).term s.sum).emit 6 0)).emit 5 0).arg ((c.beg a).term s.sum).code.length)).pts, nrow ((((cmp x (((c.beg a).term s.sum).emit 6 0)).emit 5 0).arg ((c.beg a).term s.sum).code.length)).fr, nrow ((((cmp x (((c.beg a).term s.sum).emit 6 0)).emit 5 0).arg ((c.beg a).term s.sum).code.length)).to]) rfl rfl rfl rfl (ihy (((cmp x (((c.beg a).term s.sum).emit 6 0)).emit 5 0).arg ((c.beg a).term s.sum).code.length) (hi0.of h6 (by omega))) rfl rfl rfl rfl rfl rfl (B0 := 157000) rfl rfl ?_
         refine jnm ?_
         refine jf [6, 26, 24, 4, 0, 1] rfl ?_
         refine jn ?_
         refine AWP.drawR hσ _ [_, _, _, _, _, _, _, _, _, _] [⟨[], 0, 1, none⟩, ⟨[0], 0, 1, none⟩, ⟨[0, 1], 0, 1, none⟩, ⟨[0, 1, 2], 0, 1, none⟩, ⟨[], 0, 1, none⟩, ⟨[], 0, 0, none⟩, ⟨[5], 0, 0, some 0⟩, ⟨[0, 1, 2, 3, 4, 5, 6], 1, 1, none⟩, ⟨[0, 1, 2, 3, 4, 5, 6, 7], 1, 1, none⟩, ⟨[0, 1, 2, 3, 4, 5, 6, 7, 8], 0, 0, some 1⟩] [6, 9] [_, _, _] rfl rfl (by decide) (by decide) (by kernel_rfl) (And.intro (And.intro (Val.of hσ rfl rfl) (Val.of hσ rfl rfl)) (And.intro (And.intro (Val.of hσ rfl rfl) (Val.of hσ rfl rfl)) (And.intro (And.intro (Val.of hσ rfl rfl) (Val.of hσ rfl rfl)) (And.intro (And.intro (Val.of hσ rfl rfl) (Val.of hσ rfl rfl)) (And.intro (And.intro (Val.of hσ rfl rfl) (Val.of hσ rfl rfl)) (And.intro (Val.of hσ rfl rfl) (And.intro (Eff.lone hσ (B0 := 164000) rfl rfl rfl rfl (c1097 (c := (cmp y (((cmp x (((c.beg a).term s.sum).emit 6 0)).emit 5 0).arg ((c.beg a).term s.sum).code.length))) h1 h2) (.cons (.c (.pb rfl (.cons (.whole rfl (List.length_map _).symm) (.cons (.whole rfl (List.length_map _).symm) (.cons (.whole rfl (by rw [List.length_map]; exact hf7.symm)) (.cons (.whole rfl (by rw [List.length_map]; exact ht7.symm)) .nil)))))) .nil) rfl rfl rfl rfl rfl) (And.intro (Val.vif hσ rfl rfl (by first | omega | (simp at *; omega))) (And.intro (Val.of hσ rfl rfl) (And.intro (Eff.storeRow (ex := In.cells (((cmp y (((cmp x (((c.beg a).term s.sum).emit 6 0)).emit 5 0).arg ((c.beg a).term s.sum).code.length))).code.getD (cmp x (((c.beg a).term s.sum).emit 6 0)).code.length default)) (xs' := (((cmp y (((cmp x (((c.beg a).term s.sum).emit 6 0)).emit 5 0).arg ((c.beg a).term s.sum).code.length))).arg (cmp x (((c.beg a).term s.sum).emit 6 0)).code.length).code.map In.cells) hσ rfl rfl rfl rfl rfl rfl rfl rfl rfl rfl rfl rfl rfl rfl rfl (gj hlt2 (by omega)) (sj (v := (⟨(((cmp y (((cmp x (((c.beg a).term s.sum).emit 6 0)).emit 5 0).arg ((c.beg a).term s.sum).code.length))).code.getD (cmp x (((c.beg a).term s.sum).emit 6 0)).code.length default).op, (((cmp y (((cmp x (((c.beg a).term s.sum).emit 6 0)).emit 5 0).arg ((c.beg a).term s.sum).code.length))).code.length : Nat)⟩ : In)) (by omega) rfl) rfl) trivial)))))))))) ?_
         rw [ed, if_neg (of_decide_eq_false hc25), len_arg (c := (cmp y (((cmp x (((c.beg a).term s.sum).emit 6 0)).emit 5 0).arg ((c.beg a).term s.sum).code.length))) (k := (cmp x (((c.beg a).term s.sum).emit 6 0)).code.length)]
         exact ⟨rfl, (((Ent.sel [500, 503, 504, 157005, 157006] (e' := [(0, _), (1, _)]) rfl rfl ⟨rfl, rfl, trivial⟩ rfl).trans (Ent.sub2 157005 901 rfl rfl)).trans (Ent.sub2 157006 902 rfl rfl)).trans (Ent.to ⟨rfl, rfl, trivial⟩ rfl)⟩
        ·
         skip
         exact absurd (hk2 (of_decide_eq_false hc25)) (of_decide_eq_false hc115)
 refine AWP.drawR hσ _ [_, _, _, _, _, _, _, _, _, _, _, _] [⟨[], 0, 1, none⟩, ⟨[0], 0, 1, none⟩, ⟨[0, 1], 0, 1, none⟩, ⟨[0, 1, 2], 0, 1, none⟩, ⟨[], 0, 1, none⟩, ⟨[4], 0, 1, none⟩, ⟨[4, 5], 0, 1, none⟩, ⟨[4, 5, 6], 0, 1, none⟩, ⟨[], 0, 0, none⟩, ⟨[8], 0, 0, some 0⟩, ⟨[0, 1, 2, 3, 4, 5, 6, 7, 8, 9], 1, 1, none⟩, ⟨[0, 1, 2, 3, 4, 5, 6, 7, 8, 9, 10], 0, 0, some 1⟩] [9, 11] [_, _, _] rfl rfl (by decide) (by decide) (by kernel_rfl) (And.intro (And.intro (Val.of hσ rfl rfl) (Val.of hσ rfl rfl)) (And.intro (And.intro (Val.of hσ rfl rfl) (Val.of hσ rfl rfl)) (And.intro (And.intro (Val.of hσ rfl rfl) (Val.of hσ rfl rfl)) (And.intro (And.intro (Val.of hσ rfl rfl) (Val.of hσ rfl rfl)) (And.intro (And.intro (Val.of hσ rfl rfl) (Val.of hσ rfl rfl)) (And.intro (And.intro (Val.of hσ rfl rfl) (Val.of hσ rfl rfl)) (And.intro (And.intro (Val.of hσ rfl rfl) (Val.of hσ rfl rfl)) (And.intro (And.intro (Val.of hσ rfl rfl) (Val.of hσ rfl rfl)) (And.intro (Val.of hσ rfl rfl) (And.intro (Eff.lone hσ (B0 := 226000) rfl rfl rfl rfl (c1097 (c := d) h1 h2) (.cons (.c (.pb rfl (.cons (.whole rfl (List.length_map _).symm) (.cons (.whole rfl (List.length_map _).symm) (.cons (.whole rfl (by rw [List.length_map]; exact hdf.symm)) (.cons (.whole rfl (by rw [List.length_map]; exact hdt.symm)) .nil)))))) .nil) rfl rfl rfl rfl rfl) (And.intro (Val.vif hσ rfl rfl (by first | omega | (simp at *; omega))) (And.intro (Eff.storeRow (ex := [.int .i64 (d.to.getD a.toNat default)]) (xs' := ((d.fin a).to).map (fun n => [D.int .i64 n])) hσ rfl rfl rfl rfl rfl rfl rfl rfl rfl rfl rfl rfl rfl rfl rfl (gj (f := (fun n => [D.int .i64 n])) (by omega) (by omega)) (sj (v := (d.code.length : Int)) (by omega) rfl) rfl) trivial)))))))))))) ?_
 show _ ∧ _
 rw [show cmp (.node s a [x, y]) c = (if s.kind = 1 then cmp y (cmp x (c.beg a)) else ifC s (cmp x) (cmp y) (c.beg a)).fin a by rw [cmp_two]; split <;> rfl, ← ed]
 refine ⟨.inr rfl, _, ((Ent.sel [500, 503, 504, 901, 902] (e' := []) rfl rfl trivial rfl).trans (Ent.sub2 901 505 rfl rfl)).trans (Ent.sub2 902 506 rfl rfl), _, rfl, rfl, rfl⟩
theorem c1091_1 {L : Nat} (h1 : 4096 ≤ L) (h2 : L ≤ 1073741824) {n : Nat} {x : Tr} {s : Sm} {a : Int} {c : Cs} (ha : 0 ≤ a ∧ a < n) (hs : s.sum.term = true ∧ s.index.term = true) (ihx : ∀ c, CsIn n x.nodes c → MC Tryz.prog L 60 [.c (.pt 0 0 0), .c (.d (Tr.d x))] (csH n c) (Outs (.tup []) (csH6 n (cmp x c)))) (hlx : ∀ c, CsLe x.nodes c (cmp x c)) (hk : below s.kind = 1) (hi0 : CsIn n (1 + x.nodes) c) : MC Tryz.prog L 60 [.c (.pt 0 0 0), .c (.d (Tr.d (.node s a [x])))] (csH n c) (Outs (.tup []) (csH6 n (cmp (.node s a [x]) c))) := by
 refine MC.shift 500 rfl ?_
 have hσ := SgOk.withIns (js := [500, 501, 502, 503, 504]) (SGok (nt := 227) h1 (Nat.le_trans h2 (by decide)))
 refine MC.bodyH hσ Tryz.func60 (by kernel_rfl) rfl rfl rfl (Nat.le_of_ble_eq_true rfl) (fun hF => ?_)
 refine jnw ?_
 have hS := tcode_len hs.1
 have hX := tcode_len hs.2
 have hcl := hi0.code
 have hf0 := hi0.fr
 have ht0 := hi0.to
 have hk1 : ∀ k : Int, s.kind = k → below k = 1 := fun k e => e ▸ hk
 have hpl := hi0.pts
 have g4 := hlx ((((c.beg a).point (c.beg a).code.length s.facts).term s.sum).emit 6 0)
 have h4 := (le_w3 (a := a) (c := c) (k := (c.beg a).code.length) (fs := s.facts) hs.1).trans g4
 have h6 := le_w6 (b := (c.code.length : Int)) (k := (((c.beg a).point (c.beg a).code.length s.facts).term s.sum).code.length) hs.1 g4
 have hf2 : (((c.beg a).point (c.beg a).code.length s.facts).term s.sum).fr.length = n := (le_beg (a := a) (c := c)).fr.trans hf0
 have ht2 : (((c.beg a).point (c.beg a).code.length s.facts).term s.sum).to.length = n := ht0
 have hf4 : (cmp x ((((c.beg a).point (c.beg a).code.length s.facts).term s.sum).emit 6 0)).fr.length = n := h4.fr.trans hf0
 have ht4 : (cmp x ((((c.beg a).point (c.beg a).code.length s.facts).term s.sum).emit 6 0)).to.length = n := h4.to.trans ht0
 have hb4 := h4.code
 have hg4 := g4.ge
 have hlt1 : (((c.beg a).point (c.beg a).code.length s.facts).term s.sum).code.length < ((cmp x ((((c.beg a).point (c.beg a).code.length s.facts).term s.sum).emit 6 0)).emit 5 (c.code.length : Int)).code.length := by simp only [Cs.emit, Cs.term, Cs.beg, Cs.arg, Cs.point, List.length_append, List.length_singleton, List.length_set] at hg4 ⊢; omega
 refine jsr ?_
 refine jst hσ rfl rfl rfl rfl rfl ?_
 refine AOps.lone hσ rfl rfl rfl rfl (c1097 (c := c) h1 h2) (.cons (.c (.pb rfl (.cons (.whole rfl (List.length_map _).symm) (.cons (.whole rfl (List.length_map _).symm) (.cons (.whole rfl (by rw [List.length_map]; exact hf0.symm)) (.cons (.whole rfl (by rw [List.length_map]; exact ht0.symm)) .nil)))))) .nil) rfl rfl rfl rfl rfl (B0 := 10000) rfl ?_
 refine jst hσ rfl rfl rfl rfl rfl ?_
 refine jf [4, 0, 1] rfl ?_
 refine jn ?_
 refine AWP.seq ?_
 refine AWP.drawR hσ _ [_, _, _, _, _, _, _, _, _, _, _] [⟨[], 0, 0, none⟩, ⟨[0], 0, 0, none⟩, ⟨[0, 1], 0, 0, none⟩, ⟨[0, 1, 2], 0, 0, none⟩, ⟨[], 0, 0, none⟩, ⟨[4], 0, 0, none⟩, ⟨[4, 5], 0, 0, none⟩, ⟨[4, 5, 6], 0, 0, none⟩, ⟨[], 0, 0, none⟩, ⟨[0, 1, 2, 3, 4, 5, 6, 7, 8], 0, 0, none⟩, ⟨[0, 1, 2, 3, 4, 5, 6, 7, 8, 9], 0, 0, some 0⟩] [10] [_, _] rfl rfl (by decide) (by decide) (by kernel_rfl) (And.intro (Val.of hσ rfl rfl) (And.intro (Val.of hσ rfl rfl) (And.intro (Val.of hσ rfl rfl) (And.intro (Val.of hσ rfl rfl) (And.intro (Val.of hσ rfl rfl) (And.intro (Val.of hσ rfl rfl) (And.intro (Val.of hσ rfl rfl) (And.intro (Val.of hσ rfl rfl) (And.intro (Val.of hσ rfl rfl) (And.intro (Val.vif hσ rfl rfl (by first | omega | (simp at *; omega))) (And.intro (Eff.storeRow (ex := [.int .i64 (c.fr.getD a.toNat default)]) (xs' := ((c.beg a).fr).map (fun n => [D.int .i64 n])) hσ rfl rfl rfl rfl rfl rfl rfl rfl rfl rfl rfl rfl rfl rfl rfl (gj (f := (fun n => [D.int .i64 n])) (by omega) (by omega)) (sj (v := (c.code.length : Int)) (by omega) rfl) rfl) trivial))))))))))) ?_
 refine jw [4, 0, 1] rfl ?_
 refine jnw ?_
 refine AWP.seq ?_
 refine jsr ?_
 iterate 5 refine jst hσ rfl rfl rfl rfl rfl ?_
 refine jf [24, 4, 0, 1] rfl ?_
 refine jn ?_
 obtain ⟨d, ed⟩ : ∃ d, d = whC s (cmp x) (c.beg a) := ⟨_, rfl⟩
 have hdf : d.fr.length = n := by rw [ed]; exact h6.fr.trans hf0
 have hdt : d.to.length = n := by rw [ed]; exact h6.to.trans ht0
 refine AWP.mid ⟨[(0, .c (.pt 500 0 0)), (1, .c (.d (Tr.d (.node s a [x]))))], [(500, .box [.rs 901 0 d.code.length, .rs 902 0 d.pts.length, .rs 503 0 n, .rs 504 0 n]), (503, nrow d.fr), (504, nrow d.to), (901, irow d.code), (902, prow d.pts)]⟩ ?_ ?_
 ·
  skip
  refine AWP.block ?_
  refine jsr ?_
  iterate 2 refine jst hσ rfl rfl rfl rfl rfl ?_
  refine jn ?_
  refine AWP.cond hσ rfl rfl (fun hc25 => ?_) (fun hc25 => ?_)
  ·
   skip
   exact absurd (hk1 1 (of_decide_eq_true hc25)) (by decide)
  ·
   skip
   refine jsr ?_
   iterate 2 refine jst hσ rfl rfl rfl rfl rfl ?_
   refine jf [43, 26, 24, 4, 0, 1] rfl ?_
   refine jn ?_
   refine AWP.cond hσ rfl rfl (fun hc43 => ?_) (fun hc43 => ?_)
   ·
    skip
    exact absurd (hk1 2 (of_decide_eq_true hc43)) (by decide)
   ·
    skip
    refine jsr ?_
    iterate 2 refine jst hσ rfl rfl rfl rfl rfl ?_
    refine jf [59, 26, 24, 4, 0, 1] rfl ?_
    refine jn ?_
    refine AWP.cond hσ rfl rfl (fun hc59 => ?_) (fun hc59 => ?_)
    ·
     skip
     exact absurd (hk1 3 (of_decide_eq_true hc59)) (by decide)
    ·
     skip
     refine jsr ?_
     iterate 2 refine jst hσ rfl rfl rfl rfl rfl ?_
     refine jf [77, 26, 24, 4, 0, 1] rfl ?_
     refine jn ?_
     refine AWP.cond hσ rfl rfl (fun hc77 => ?_) (fun hc77 => ?_)
     ·
      skip
      exact absurd (hk1 4 (of_decide_eq_true hc77)) (by decide)
     ·
      skip
      refine jsr ?_
      iterate 2 refine jst hσ rfl rfl rfl rfl rfl ?_
      refine jf [95, 26, 24, 4, 0, 1] rfl ?_
      refine jn ?_
      refine AWP.cond hσ rfl rfl (fun hc95 => ?_) (fun hc95 => ?_)
      ·
       skip
       exact absurd (hk1 5 (of_decide_eq_true hc95)) (by decide)
      ·
       skip
       refine jsr ?_
       iterate 2 refine jst hσ rfl rfl rfl rfl rfl ?_
       refine jf [104, 26, 24, 4, 0, 1] rfl ?_
       refine jn ?_
       refine AWP.cond hσ rfl rfl (fun hc104 => ?_) (fun hc104 => ?_)
       ·
        skip
        exact absurd (hk1 6 (of_decide_eq_true hc104)) (by decide)
       ·
        skip
        refine jsr ?_
        iterate 2 refine jst hσ rfl rfl rfl rfl rfl ?_
        refine jf [115, 26, 24, 4, 0, 1] rfl ?_
        refine jn ?_
        refine AWP.cond hσ rfl rfl (fun hc115 => ?_) (fun hc115 => ?_)
        ·
         skip
         exact absurd (hk1 7 (of_decide_eq_true hc115)) (by decide)
        ·
         skip
         refine jsr ?_
         iterate 2 refine jst hσ rfl rfl rfl rfl rfl ?_
         refine jf [166, 26, 24, 4, 0, 1] rfl ?_
         refine jn ?_
         refine AWP.cond hσ rfl rfl (fun hc166 => ?_) (fun hc166 => ?_)
         ·
          skip
          refine AWP.seq ?_
          refine jw [26, 24, 4, 0, 1] rfl ?_
          refine AWP.drawP hσ _ [_, _, _, _, _, _, _, _, _, _, _, _, _, _, _, _, _, _] [⟨[], 0, 3, none⟩, ⟨[], 0, 2, none⟩, ⟨[1], 0, 2, none⟩, ⟨[1, 2], 0, 2, none⟩, ⟨[1, 2, 3], 0, 2, none⟩, ⟨[], 0, 1, none⟩, ⟨[], 0, 0, none⟩, ⟨[6], 0, 0, none⟩, ⟨[6, 7], 0, 0, none⟩, ⟨[6, 7, 8], 0, 0, none⟩, ⟨[6, 7, 8, 9], 0, 0, none⟩, ⟨[6, 7, 8, 9, 10], 0, 0, some 0⟩, ⟨[5, 6, 7, 8, 9, 10, 11], 1, 1, none⟩, ⟨[5, 6, 7, 8, 9, 10, 11, 12], 0, 0, some 1⟩, ⟨[1, 2, 3, 4, 5, 6, 7, 8, 9, 10, 11, 12, 13], 0, 0, some 2⟩, ⟨[0, 1, 2, 3, 4, 5, 6, 7, 8, 9, 10, 11, 12, 13, 14], 3, 3, none⟩, ⟨[0, 1, 2, 3, 4, 5, 6, 7, 8, 9, 10, 11, 12, 13, 14, 15], 3, 3, none⟩, ⟨[0, 1, 2, 3, 4, 5, 6, 7, 8, 9, 10, 11, 12, 13, 14, 15, 16], 0, 0, some 3⟩] [11, 13, 14, 17] [_, _, _, _, _] [[], [180000], [502, 181], []] rfl rfl (by decide) (by decide) (by kernel_rfl) (And.intro (And.intro (And.intro (Val.of hσ rfl rfl) rfl) (And.intro (And.intro (Val.of hσ rfl rfl) rfl) (And.intro (And.intro (Val.of hσ rfl rfl) rfl) (And.intro (Val.of hσ rfl rfl) rfl)))) (And.intro (And.intro (And.intro (Val.of hσ rfl rfl) rfl) (And.intro (And.intro (Val.of hσ rfl rfl) rfl) (And.intro (Val.of hσ rfl rfl) rfl))) (And.intro (And.intro (And.intro (Val.of hσ rfl rfl) rfl) (And.intro (And.intro (Val.of hσ rfl rfl) rfl) (And.intro (Val.of hσ rfl rfl) rfl))) (And.intro (And.intro (And.intro (Val.of hσ rfl rfl) rfl) (And.intro (And.intro (Val.of hσ rfl rfl) rfl) (And.intro (Val.of hσ rfl rfl) rfl))) (And.intro (And.intro (And.intro (Val.of hσ rfl rfl) rfl) (And.intro (And.intro (Val.of hσ rfl rfl) rfl) (And.intro (Val.of hσ rfl rfl) rfl))) (And.intro (And.intro (And.intro (Val.of hσ rfl rfl) rfl) (And.intro (Val.of hσ rfl rfl) rfl)) (And.intro (And.intro (Val.of hσ rfl rfl) rfl) (And.intro (And.intro (Val.of hσ rfl rfl) rfl) (And.intro (And.intro (Val.of hσ rfl rfl) rfl) (And.intro (And.intro (Val.of hσ rfl rfl) rfl) (And.intro (And.intro (Val.of hσ rfl rfl) rfl) (And.intro (And.intro (Eff.p (Eff.rows hσ (B0 := 180000) rfl rfl rfl rfl (c91o (ts := s.facts) h1 h2) (VAs.self rfl) rfl rfl rfl rfl rfl)) rfl) (And.intro (And.intro (Val.of hσ rfl rfl) rfl) (And.intro (And.intro (Eff.litAbs (l := 180000) (ds := Pt.cells (⟨(c.code.length : Int), s.facts⟩ : Pt)) hσ rfl rfl rfl rfl rfl rfl rfl rfl rfl rfl rfl rfl (fun e => .d rfl (.rs rfl (List.length_map _).symm .nil)) rfl rfl) rfl) (And.intro (And.intro (Eff.appMove (xs := c.pts.map Pt.cells) (ys := [Pt.cells (⟨(c.code.length : Int), s.facts⟩ : Pt)]) (zs := ((c.beg a).point (c.beg a).code.length s.facts).pts.map Pt.cells) (n := ((c.beg a).point (c.beg a).code.length s.facts).pts.length) hσ rfl rfl rfl rfl rfl rfl rfl rfl rfl rfl rfl rfl rfl rfl rfl rfl (.row rfl (List.length_map _).symm) rfl rfl (by decide) rfl (by simp; omega) (by simp; omega) (by rw [show ((c.beg a).point (c.beg a).code.length s.facts).pts = c.pts ++ [(⟨(c.code.length : Int), s.facts⟩ : Pt)] from rfl, List.map_append]; rfl) (by simp) rfl) rfl) (And.intro (And.intro (Val.of hσ rfl rfl) rfl) (And.intro (And.intro (Val.of hσ rfl rfl) rfl) (And.intro (And.intro (Eff.p (Eff.storeBox hσ rfl rfl rfl rfl rfl rfl rfl rfl rfl rfl rfl rfl rfl)) rfl) trivial)))))))))))))))))) ?_
          refine jw [26, 24, 4, 0, 1] rfl ?_
          refine jnw ?_
          refine jsr ?_
          iterate 6 refine jst hσ rfl rfl rfl rfl rfl ?_
          refine jf [190, 185, 26, 24, 4, 0, 1] rfl ?_
          refine AOps.inn hσ [500, 501, 182, 503, 504] (bin := [csB n 1 2 ((c.beg a).point (c.beg a).code.length s.facts), irow (((c.beg a).point (c.beg a).code.length s.facts)).code, prow (((c.beg a).point (c.beg a).code.length s.facts)).pts, nrow (((c.beg a).point (c.beg a).code.length s.facts)).fr, nrow (((c.beg a).point (c.beg a).code.length s.facts)).to]) rfl rfl rfl rfl (c1098 (n := n) (c := ((c.beg a).point (c.beg a).code.length s.facts)) (t := s.sum) h1 h2 (term_xs hs.1) (by simp only [Cs.emit, Cs.term, Cs.beg, Cs.arg, Cs.point, List.length_append, List.length_singleton, List.length_set]; omega)) rfl rfl rfl rfl rfl rfl (B0 := 192000) rfl rfl ?_
          refine jnm ?_
          refine jf [26, 24, 4, 0, 1] rfl ?_
          refine jns ?_
          refine jst hσ rfl rfl rfl rfl rfl ?_
          refine AOps.lone hσ rfl rfl rfl rfl (c1097 (c := (((c.beg a).point (c.beg a).code.length s.facts).term s.sum)) h1 h2) (.cons (.c (.pb rfl (.cons (.whole rfl (List.length_map _).symm) (.cons (.whole rfl (List.length_map _).symm) (.cons (.whole rfl (by rw [List.length_map]; exact hf2.symm)) (.cons (.whole rfl (by rw [List.length_map]; exact ht2.symm)) .nil)))))) .nil) rfl rfl rfl rfl rfl (B0 := 194000) rfl ?_
          refine jst hσ rfl rfl rfl rfl rfl ?_
          refine jf [7, 26, 24, 4, 0, 1] rfl ?_
          refine jns ?_
          refine jst hσ rfl rfl rfl rfl rfl ?_
          refine AOps.inn hσ [500, 192005, 182, 503, 504] (bin := [csB n 1 2 (((c.beg a).point (c.beg a).code.length s.facts).term s.sum), irow ((((c.beg a).point (c.beg a).code.length s.facts).term s.sum)).code, prow ((((c.beg a).point (c.beg a).code.length s.facts).term s.sum)).pts, nrow ((((c.beg a).point (c.beg a).code.length s.facts).term s.sum)).fr, nrow ((((c.beg a).point (c.beg a).code.length s.facts).term s.sum)).to]) rfl rfl rfl rfl (c1092 (n := n) (c := (((c.beg a).point (c.beg a).code.length s.facts).term s.sum)) (op := 6) (a := 0) h1 h2 (by simp only [Cs.emit, Cs.term, Cs.beg, Cs.arg, Cs.point, List.length_append, List.length_singleton, List.length_set]; omega)) rfl rfl rfl rfl rfl rfl (B0 := 196000) rfl rfl ?_
          refine jnm ?_
          refine jf [7, 26, 24, 4, 0, 1] rfl ?_
          refine jns ?_
          iterate 5 refine jst hσ rfl rfl rfl rfl rfl ?_
          refine AOps.step (Val.indexD hσ rfl rfl rfl rfl rfl rfl rfl rfl (by decide) rfl) rfl rfl rfl ?_
          refine jst hσ rfl rfl rfl rfl rfl ?_
          refine jf [202, 196, 7, 26, 24, 4, 0, 1] rfl ?_
          refine AOps.inn hσ [500, 196005, 182, 503, 504] (bin := [csB n 1 2 ((((c.beg a).point (c.beg a).code.length s.facts).term s.sum).emit 6 0), irow (((((c.beg a).point (c.beg a).code.length s.facts).term s.sum).emit 6 0)).code, prow (((((c.beg a).point (c.beg a).code.length s.facts).term s.sum).emit 6 0)).pts, nrow (((((c.beg a).point (c.beg a).code.length s.facts).term s.sum).emit 6 0)).fr, nrow (((((c.beg a).point (c.beg a).code.length s.facts).term s.sum).emit 6 0)).to]) rfl rfl rfl rfl (ihx ((((c.beg a).point (c.beg a).code.length s.facts).term s.sum).emit 6 0) (hi0.of (le_w3 hs.1) (by omega))) rfl rfl rfl rfl rfl rfl (B0 := 204000) rfl rfl ?_
          refine jnm ?_
          refine jf [7, 26, 24, 4, 0, 1] rfl ?_
          refine jns ?_
          iterate 2 refine jst hσ rfl rfl rfl rfl rfl ?_
          refine AOps.inn hσ [500, 204005, 204006, 503, 504] (bin := [csB n 1 2 (cmp x ((((c.beg a).point (c.beg a).code.length s.facts).term s.sum).emit 6 0)), irow ((cmp x ((((c.beg a).point (c.beg a).code.length s.facts).term s.sum).emit 6 0))).code, prow ((cmp x ((((c.beg a).point (c.beg a).code.length s.facts).term s.sum).emit 6 0))).pts, nrow ((cmp x ((((c.beg a).point (c.beg a).code.length s.facts).term s.sum).emit 6 0))).fr, nrow ((cmp x ((((c.beg a).point (c.beg a).code.length s.facts).term s.sum).emit 6 0))).to]) rfl rfl rfl rfl (c1092 (n := n) (c := (cmp x ((((c.beg a).point (c.beg a).code.length s.facts).term s.sum).emit 6 0))) (op := 5) (a := (c.code.length : Int)) h1 h2 (by omega)) rfl rfl rfl rfl rfl rfl (B0 := 207000) rfl rfl ?_
          refine jnm ?_
          refine jf [7, 26, 24, 4, 0, 1] rfl ?_
          refine jn ?_
          refine AWP.drawR hσ _ [_, _, _, _, _, _, _, _, _, _] [⟨[], 0, 1, none⟩, ⟨[0], 0, 1, none⟩, ⟨[0, 1], 0, 1, none⟩, ⟨[0, 1, 2], 0, 1, none⟩, ⟨[], 0, 1, none⟩, ⟨[], 0, 0, none⟩, ⟨[5], 0, 0, some 0⟩, ⟨[0, 1, 2, 3, 4, 5, 6], 1, 1, none⟩, ⟨[0, 1, 2, 3, 4, 5, 6, 7], 1, 1, none⟩, ⟨[0, 1, 2, 3, 4, 5, 6, 7, 8], 0, 0, some 1⟩] [6, 9] [_, _, _] rfl rfl (by decide) (by decide) (by kernel_rfl) (And.intro (And.intro (Val.of hσ rfl rfl) (Val.of hσ rfl rfl)) (And.intro (And.intro (Val.of hσ rfl rfl) (Val.of hσ rfl rfl)) (And.intro (And.intro (Val.of hσ rfl rfl) (Val.of hσ rfl rfl)) (And.intro (And.intro (Val.of hσ rfl rfl) (Val.of hσ rfl rfl)) (And.intro (And.intro (Val.of hσ rfl rfl) (Val.of hσ rfl rfl)) (And.intro (Val.of hσ rfl rfl) (And.intro (Eff.lone hσ (B0 := 214000) rfl rfl rfl rfl (c1097 (c := ((cmp x ((((c.beg a).point (c.beg a).code.length s.facts).term s.sum).emit 6 0)).emit 5 (c.code.length : Int))) h1 h2) (.cons (.c (.pb rfl (.cons (.whole rfl (List.length_map _).symm) (.cons (.whole rfl (List.length_map _).symm) (.cons (.whole rfl (by rw [List.length_map]; exact hf4.symm)) (.cons (.whole rfl (by rw [List.length_map]; exact ht4.symm)) .nil)))))) .nil) rfl rfl rfl rfl rfl) (And.intro (Val.vif hσ rfl rfl (by first | omega | (simp at *; omega))) (And.intro (Val.of hσ rfl rfl) (And.intro (Eff.storeRow (ex := In.cells ((((cmp x ((((c.beg a).point (c.beg a).code.length s.facts).term s.sum).emit 6 0)).emit 5 (c.code.length : Int))).code.getD (((c.beg a).point (c.beg a).code.length s.facts).term s.sum).code.length default)) (xs' := ((((cmp x ((((c.beg a).point (c.beg a).code.length s.facts).term s.sum).emit 6 0)).emit 5 (c.code.length : Int))).arg (((c.beg a).point (c.beg a).code.length s.facts).term s.sum).code.length).code.map In.cells) hσ rfl rfl rfl rfl rfl rfl rfl rfl rfl rfl rfl rfl rfl rfl rfl (gj hlt1 (by omega)) (sj (v := (⟨((((cmp x ((((c.beg a).point (c.beg a).code.length s.facts).term s.sum).emit 6 0)).emit 5 (c.code.length : Int))).code.getD (((c.beg a).point (c.beg a).code.length s.facts).term s.sum).code.length default).op, ((((cmp x ((((c.beg a).point (c.beg a).code.length s.facts).term s.sum).emit 6 0)).emit 5 (c.code.length : Int))).code.length : Nat)⟩ : In)) (by omega) rfl) rfl) trivial)))))))))) ?_
          rw [ed, len_arg (c := ((cmp x ((((c.beg a).point (c.beg a).code.length s.facts).term s.sum).emit 6 0)).emit 5 (c.code.length : Int))) (k := (((c.beg a).point (c.beg a).code.length s.facts).term s.sum).code.length)]
          exact ⟨rfl, (((Ent.sel [500, 503, 504, 207005, 204006] (e' := [(0, _), (1, _)]) rfl rfl ⟨rfl, rfl, trivial⟩ rfl).trans (Ent.sub2 207005 901 rfl rfl)).trans (Ent.sub2 204006 902 rfl rfl)).trans (Ent.to ⟨rfl, rfl, trivial⟩ rfl)⟩
         ·
          skip
          exact absurd (below_one hk) (of_decide_eq_false hc166)
 refine AWP.drawR hσ _ [_, _, _, _, _, _, _, _, _, _, _, _] [⟨[], 0, 1, none⟩, ⟨[0], 0, 1, none⟩, ⟨[0, 1], 0, 1, none⟩, ⟨[0, 1, 2], 0, 1, none⟩, ⟨[], 0, 1, none⟩, ⟨[4], 0, 1, none⟩, ⟨[4, 5], 0, 1, none⟩, ⟨[4, 5, 6], 0, 1, none⟩, ⟨[], 0, 0, none⟩, ⟨[8], 0, 0, some 0⟩, ⟨[0, 1, 2, 3, 4, 5, 6, 7, 8, 9], 1, 1, none⟩, ⟨[0, 1, 2, 3, 4, 5, 6, 7, 8, 9, 10], 0, 0, some 1⟩] [9, 11] [_, _, _] rfl rfl (by decide) (by decide) (by kernel_rfl) (And.intro (And.intro (Val.of hσ rfl rfl) (Val.of hσ rfl rfl)) (And.intro (And.intro (Val.of hσ rfl rfl) (Val.of hσ rfl rfl)) (And.intro (And.intro (Val.of hσ rfl rfl) (Val.of hσ rfl rfl)) (And.intro (And.intro (Val.of hσ rfl rfl) (Val.of hσ rfl rfl)) (And.intro (And.intro (Val.of hσ rfl rfl) (Val.of hσ rfl rfl)) (And.intro (And.intro (Val.of hσ rfl rfl) (Val.of hσ rfl rfl)) (And.intro (And.intro (Val.of hσ rfl rfl) (Val.of hσ rfl rfl)) (And.intro (And.intro (Val.of hσ rfl rfl) (Val.of hσ rfl rfl)) (And.intro (Val.of hσ rfl rfl) (And.intro (Eff.lone hσ (B0 := 226000) rfl rfl rfl rfl (c1097 (c := d) h1 h2) (.cons (.c (.pb rfl (.cons (.whole rfl (List.length_map _).symm) (.cons (.whole rfl (List.length_map _).symm) (.cons (.whole rfl (by rw [List.length_map]; exact hdf.symm)) (.cons (.whole rfl (by rw [List.length_map]; exact hdt.symm)) .nil)))))) .nil) rfl rfl rfl rfl rfl) (And.intro (Val.vif hσ rfl rfl (by first | omega | (simp at *; omega))) (And.intro (Eff.storeRow (ex := [.int .i64 (d.to.getD a.toNat default)]) (xs' := ((d.fin a).to).map (fun n => [D.int .i64 n])) hσ rfl rfl rfl rfl rfl rfl rfl rfl rfl rfl rfl rfl rfl rfl rfl (gj (f := (fun n => [D.int .i64 n])) (by omega) (by omega)) (sj (v := (d.code.length : Int)) (by omega) rfl) rfl) trivial)))))))))))) ?_
 show _ ∧ _
 rw [cmp_one, ← ed]
 refine ⟨.inr rfl, _, ((Ent.sel [500, 503, 504, 901, 902] (e' := []) rfl rfl trivial rfl).trans (Ent.sub2 901 505 rfl rfl)).trans (Ent.sub2 902 506 rfl rfl), _, rfl, rfl, rfl⟩
theorem c1091 {L : Nat} (h1 : 4096 ≤ L) (h2 : L ≤ 1073741824) {n : Nat} : ∀ {t : Tr}, t.cok n → ∀ {c : Cs}, CsIn n t.nodes c → MC Tryz.prog L 60 [.c (.pt 0 0 0), .c (.d t.d)] (csH n c) (Outs (.tup []) (csH6 n (cmp t c)))
 | .node s a [x, y], ht, c, hc => c1091_2 h1 h2 ht.1 ht.2.1 (fun c hc => c1091 h1 h2 ht.2.2.2.1 hc) (fun c => le_cmp ht.2.2.2.1) (fun c hc => c1091 h1 h2 ht.2.2.2.2.1 hc) (fun c => le_cmp ht.2.2.2.2.1) ht.2.2.1.2.symm (by simpa [Tr.nodes, Trs.nodes] using hc)
 | .node s a [x], ht, c, hc => c1091_1 h1 h2 ht.1 ht.2.1 (fun c hc => c1091 h1 h2 ht.2.2.2.1 hc) (fun c => le_cmp ht.2.2.2.1) ht.2.2.1.2.symm (by simpa [Tr.nodes, Trs.nodes] using hc)
 | .node s a [], ht, c, hc => c1091_0 h1 h2 ht.1 ht.2.1 ht.2.2.1.2.symm (by simpa [Tr.nodes, Trs.nodes] using hc)
 | .node s a (x :: y :: z :: ks), ht, c, hc => by
  have h1 : ((x :: y :: z :: ks).length : Int) = below s.kind := ht.2.2.1.2
  have h2 := (below_le s.kind).2
  simp only [List.length_cons] at h1
  omega
end Go.Al
