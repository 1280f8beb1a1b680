/- The reference follows a path. -/
import Derived.Test.YtbonielldgjhiaaGreatJ
set_option linter.unusedVariables false
set_option linter.unusedSimpArgs false
set_option maxRecDepth 10000
set_option maxHeartbeats 4000000
open Go.Proofs
namespace Go.Al
variable {L : Nat} (h1 : 4096 ≤ L) (h2 : L ≤ 1073741824)
abbrev f7 (ps : List Pth) : D := .slc 5 (ps.map Pth.cells)
abbrev bz (ps : List Pth) : B := .row false 5 (ps.map Pth.cells)
abbrev bA (ss : List Sq) : B := .row false 3 (ss.map Sq.cells)
abbrev ee (p fl : D) (frm : Int) (g : Gs) (i j : Nat) : B := .box [.d p, .d fl, .d (.int .i64 frm), .rs i 0 g.paths.length, .rs j 0 g.conds.length, .d (.bool g.bad)]
abbrev hB (w : Pw) : B := .box [.d (bX w.vars), .d (.int .i64 (w.sym : Int)), .d (bX w.facts), .d (bp w.ev)]
abbrev hA (w : Pw) : A := .agg [.d (bX w.vars), .d (.int .i64 (w.sym : Int)), .d (bX w.facts), .d (bp w.ev)]
abbrev fH (p fl : D) (frm : Int) (g : Gs) (w : Pw) : List (Nat × B) := [(0, ee p fl frm g 1 2), (1, bz g.paths), (2, bA g.conds), (3, hB w)]
abbrev xf (p fl : D) (frm : Int) (g : Gs) (w : Pw) : List (Nat × B) := [(0, ee p fl frm g 1 6), (1, bz g.paths), (3, hB w), (6, bA g.conds)]
abbrev wM (p fl : D) (frm : Int) (g : Gs) (w : Pw) : List (Nat × B) := [(0, ee p fl frm g 5 6), (3, hB w), (5, bz g.paths), (6, bA g.conds)]
theorem uf {a b : Bool} : (bif a then true else b) = (a || b) := by cases a <;> rfl
theorem lr {p fl : D} {frm : Int} {g : Gs} {w : Pw} {t : Tm} {ds : List D} {j : Nat} (hd : (ds.drop j).take (Tm.cells t).length = Tm.cells t) (hw : CtxOk w.vars) (ht : t.ok = true) (hle : t.xs.length ≤ w.vars.length) : MQ h1 h2 72 [.c (.pt 0 0 0), .c (.pt 3 0 0), .c (.d (.ptr ds j))] (fH p fl frm g w) (aZ (cZ (aG t w.vars).1) (fH p fl frm (aR w t g) w)) := by
 refine aF 500 Z (MC.keep [500,501,502,503] (bs := [ee p fl frm (aR w t g) 501 502, bz g.paths, bA g.conds, hB w]) Z Z (jH 30 [500,501,502,503] h1 h2 Tryz.func72 Z Z Z Z fun O hF => ?_))
 refine bZ ?_
 refine ag (jl O Z Z Z Z Z Z (aq ?_))
 refine aP (j4 O Z Z Z Z (js O Z (jf [14,10,6,0] Z (ao O Z Z Z Z (vC (t := t) (vs := w.vars) h1 h2 hw (Small.of ht).xs (Small.of ht).c hle) (.cons (.c (.sub hd)) (ab Z)) Z Z Z Z (B0 := 16000) Z Z (j3 O Z Z Z (jf [17,16,6,0] Z (jl O Z Z Z Z Z Z (aq ?_))))))))
 refine jo O Z Z Z Z Z Z Z Z Z Z Z Z (aq ?_)
 refine js O Z (jf [8,7,6,0] Z (aP (j4 O Z Z Z Z (j2 O Z Z (jf [23,18,8,7,6] Z (au 2 Z Z Z (fun hx => ac hx Z Z Z (V O Z) Z Z ( ac hx Z Z Z (V O Z) Z Z ( AN.nil))) Z Z (aa ((aj O Z Z Z Z Z).cast (v' := eB (g.bad || !(aG t w.vars).2)) (congrArg eB uf)) Z Z Z (j2 O Z Z (jf [28,26,7,6] Z (jo O Z Z Z Z Z Z Z Z Z Z Z Z (aq ?_)))))))))))
 refine jf [7,6] Z (aP (js O Z (jo O Z Z Z Z Z Z Z Z Z Z Z Z (aq ?_))))
 refine jn (AWP.ret ?_)
 refine ⟨.inl Z, _, Ent.refl, _, Z, Z, Z⟩
theorem oU {p fl : D} {frm : Int} {g : Gs} {w : Pw} {t : Tm} (hg : g.conds.length + 1 ≤ L) : MQ h1 h2 75 [.c (.pt 0 0 0), .c (.pt 3 0 0), cZ t] (fH p fl frm g w) (aZ (.tup []) (xf p fl frm (g.goal w t) w)) := by
 refine aF 500 Z (MC.keep [500,501,503,506] (bs := [ee p fl frm (g.goal w t) 501 506, bz g.paths, hB w, bA (g.goal w t).conds]) Z Z (jH 22 [500,501,502,503] h1 h2 Tryz.func75 Z Z Z Z fun O hF => ?_))
 refine bZ ?_
 refine ag (jx O Z Z Z Z Z Z Z Z (aq ?_))
 refine aA (Ent.freeze 5 (e' := [(5, _), (0, _), (1, _)]) Z (.cons Z (.c (.box (cs := Tm.cells t) Z (aw Z))) (.cons Z (.keep Z) (.cons Z (.keep Z) .nil))) (.skip (.cons Z (.box (.cons (.keep Z) (.cons (.keep Z) (.cons (.keep Z) (.cons (.keep Z) (.cons (.keep Z) (.cons (.keep Z) .nil))))))) (.cons Z .row (.cons Z .row (.cons Z (.box (.cons (.keep Z) (.cons (.keep Z) (.cons (.keep Z) (.cons (.keep Z) .nil))))) .nil)))))) ?_
 refine aq ?_
 refine jn (oG O [_,_,_,_,_,_,_,_,_,_,_,_,_,_,_,_,_] [pn [] 0 3, pn [] 0 2, pn [1] 0 2, pn [1,2] 0 2, pn [1,2,3] 0 2, pn [] 0 0, pn [5] 0 0, pn [5,6] 0 0, pn [5,6,7] 0 0, pe [5,6,7,8] 0, pe [5,6,7,8,9] 1, pn [5,6,7,8,9,10] 2 2, pn [5,6,7,8,9,10,11] 2 2, pe [1,2,3,4,5,6,7,8,9,10,11,12] 2, pn [0,1,2,3,4,5,6,7,8,9,10,11,12,13] 3 3, pn [0,1,2,3,4,5,6,7,8,9,10,11,12,13,14] 3 3, pe [0,1,2,3,4,5,6,7,8,9,10,11,12,13,14,15] 3] [9,10,13,16] 12 18 (.row false 3 [Sq.cells (⟨w.facts, t⟩ : Sq)]) [_,_,_] [_,_] [[], [], [502], []] (ai (kf O Z Z Z (kf O Z Z Z (kf O Z Z Z (kg O Z Z Z)))) (ai (kf O Z Z Z (kf O Z Z Z (kg O Z Z Z))) (ai (kf O Z Z Z (kf O Z Z Z (kg O Z Z Z))) (ai (kf O Z Z Z (kf O Z Z Z (kg O Z Z Z))) (ai (kf O Z Z Z (kf O Z Z Z (kg O Z Z Z))) (kf O Z Z Z (kf O Z Z Z (kf O Z Z Z (kf O Z Z Z (ai (ai (aJ (bj O (B0 := 16000) Z Z Z Z (se (ts := w.facts) h1 h2) (ab Z) Z Z Z Z Z) (bj O (B0 := 16000) Z Z Z Z (se (ts := w.facts) h1 h2) (ab Z) Z Z Z Z Z)) Z) (ai (ai (aJ (bj O (B0 := 17000) Z Z Z Z (s3 (t := t) h1 h2) (ab Z) Z Z Z Z Z) (bj O (B0 := 17000) Z Z Z Z (s3 (t := t) h1 h2) (ab Z) Z Z Z Z Z)) Z) (kf O Z Z Z (ai (ai (dn O Z Z Z Z Z Z Z Z Z Z Z Z Z Z) Z) (ai (ai (aJ trivial (cF (own := false) (xs := g.conds.map Sq.cells) (ys := [Sq.cells (⟨w.facts, t⟩ : Sq)]) (zs := ((g.conds ++ [(⟨w.facts, t⟩ : Sq)])).map Sq.cells) (n := (g.conds ++ [(⟨w.facts, t⟩ : Sq)]).length) O Z Z Z Z Z Z Z Z Z Z Z Z Z Z Z Z (.row Z (List.length_map _).symm) (.whole Z Z (.inr ⟨Z, Z⟩)) (by simp) Z (by simp; omega) (by simp; omega) (by simp) (by simp) Z)) Z) (ai (ai (aJ trivial (V O Z)) Z) (ai (ai (aJ trivial (V O Z)) Z) (ai (ai (aJ trivial (aO (aC O Z Z Z Z Z Z Z Z Z Z Z Z Z))) Z) trivial))))))))))))))))) ?_)
 show _ ∧ _
 refine ⟨.inr Z, _, af 19 506 Z Z, _, Z, Z, Z⟩
theorem mL {p fl : D} {frm : Int} {g : Gs} {w : Pw} {t : Tm} (hl : w.facts.length ≤ 1000) : MQ h1 h2 76 [.c (.pt 0 0 0), .c (.pt 3 0 0), cZ t] (fH p fl frm g w) (aZ (hA (w.fact t)) (fH p fl frm (g.flag (w.fact t).long) w)) := by
 refine aF 500 Z (MC.keep [500,501,502,503] (bs := [ee p fl frm (g.flag (w.fact t).long) 501 502, bz g.paths, bA g.conds, hB w]) Z Z (jH 34 [500,501,502,503] h1 h2 Tryz.func76 Z Z Z Z fun O hF => ?_))
 refine bZ ?_
 refine ag (jx O Z Z Z Z Z Z Z Z (aq ?_))
 refine aA (Ent.freeze 5 (e' := [(5, _), (0, _), (1, _)]) Z (.cons Z (.c (.box (cs := Tm.cells t) Z (aw Z))) (.cons Z (.keep Z) (.cons Z (.keep Z) .nil))) (.skip (.cons Z (.box (.cons (.keep Z) (.cons (.keep Z) (.cons (.keep Z) (.cons (.keep Z) (.cons (.keep Z) (.cons (.keep Z) .nil))))))) (.cons Z .row (.cons Z .row (.cons Z (.box (.cons (.keep Z) (.cons (.keep Z) (.cons (.keep Z) (.cons (.keep Z) .nil))))) .nil)))))) ?_
 refine aq ?_
 refine jl O Z Z Z Z Z Z (aq ?_)
 refine aP (j3 O Z Z Z (jf [10,6,5,0,1] Z (jl O Z Z Z Z Z Z (aq ?_))))
 refine jo O Z Z Z Z Z Z Z Z Z Z Z Z (aq ?_)
 refine jn (AWP.seq (oG O [_,_,_,_,_,_,_,_,_,_] [pn [] 0 0, pn [0] 0 0, pn [0,1] 0 0, pn [0,1,2] 0 0, pe [0,1,2,3] 0, pn [] 0 1, pn [5] 0 1, pe [0,1,2,3,4,5,6] 1, pn [0,1,2,3,4,5,6,7] 2 2, pe [0,1,2,3,4,5,6,7,8] 2] [4,7,9] 6 17 (.row false 2 [Tm.cells t]) [_,_] [_,_] [[], [16000], []] (kf O Z Z Z (kf O Z Z Z (kf O Z Z Z (kf O Z Z Z (ai (ai (aJ (aO (lQ O (B0 := 16000) Z Z Z Z (qn (ts := w.facts) h1 h2) (ab Z) Z Z Z Z)) (aO (lQ O (B0 := 16000) Z Z Z Z (qn (ts := w.facts) h1 h2) (ab Z) Z Z Z Z))) Z) (ai (kf O Z Z Z (kg O Z Z Z)) (ai (ai (ai (aO (dn O Z Z Z Z Z Z Z Z Z Z Z Z Z Z)) Z) (ai (aO (dn O Z Z Z Z Z Z Z Z Z Z Z Z Z Z)) Z)) (ai (ai (aJ trivial (cF (own := false) (xs := w.facts.map Tm.cells) (ys := [Tm.cells t]) (zs := ((w.facts ++ [t])).map Tm.cells) (n := (w.facts ++ [t]).length) O Z Z Z Z Z Z Z Z Z Z Z Z Z Z Z Z (.row Z (List.length_map _).symm) (.whole Z Z (.inr ⟨Z, Z⟩)) (by simp) Z (by simp; omega) (by simp; omega) (by simp) (by simp) Z)) Z) (ai (ai (aJ trivial (V O Z)) Z) (ai (ai (aJ trivial (aO (aC O Z Z Z Z Z Z Z Z Z Z Z Z Z))) Z) trivial)))))))))) ?_))
 refine jw [7,10,6,0,1] Z (bZ ?_)
 refine ag (aA (Ent.freeze 18 (e' := [(0, _), (7, _), (6, _)]) Z (.cons Z (.keep Z) (.cons Z (.keep Z) (.cons Z (.keep Z) .nil))) (.cons Z (.box (.cons (.keep Z) (.cons (.keep Z) (.cons (.keep Z) (.cons (.keep Z) .nil))))) (.cons Z (.box (.cons (.keep Z) (.cons (.keep Z) (.cons (.row Z (by simp)) (.cons (.keep Z) .nil))))) (.cons Z .row (.skip (.cons Z (.box (.cons (.keep Z) (.cons (.keep Z) (.cons (.keep Z) (.cons (.keep Z) (.cons (.keep Z) (.cons (.keep Z) .nil))))))) (.cons Z .row (.cons Z .row (.cons Z (.box (.cons (.keep Z) (.cons (.keep Z) (.cons (.keep Z) (.cons (.keep Z) .nil))))) .nil))))))))) ?_)
 refine j4 O Z Z Z Z (j2 O Z Z (jf [25,20,7,6] Z (au 4 Z Z Z (fun hx => ac hx Z Z Z (V O Z) Z Z ( ac hx Z Z Z (V O Z) Z Z ( ac hx Z Z Z (cU O Z Z Z Z Z Z Z Z) Z Z ( ac hx Z Z Z (V O Z) Z Z ( AN.nil))))) Z Z (aa ((aj O Z Z Z Z Z).cast (v' := eB (g.bad || (w.fact t).long)) (congrArg eB (by rw [uf, Pw.long]; exact congrArg (g.bad || ·) (decide_eq_decide.2 (by simp [Pw.fact]; omega))))) Z Z Z (j2 O Z Z (jf [32,30,7,6] Z (jo O Z Z Z Z Z Z Z Z Z Z Z Z (aq ?_))))))))
 refine jf [7,6] Z (aP (js O Z (jo O Z Z Z Z Z Z Z Z Z Z Z Z (aq ?_))))
 refine jn (AWP.ret ?_)
 refine ⟨.inl Z, _, Ent.refl, _, Z, Z, Z⟩
def aW : ct := fun t => pp ⟨7, []⟩ 1 t (-1)
theorem ta : Small (⟨7, []⟩ : Tm) := ⟨by decide, by decide⟩
theorem qu {p fl : D} {frm : Int} {g : Gs} {w : Pw} {t : Tm} {ds : List D} {j : Nat} (hd : (ds.drop j).take (Tm.cells t).length = Tm.cells t) (hw : CtxOk w.vars) (ht : t.ok = true) (hle : t.xs.length ≤ w.vars.length) (hg : g.conds.length + 2 ≤ L) : MQ h1 h2 73 [.c (.pt 0 0 0), .c (.pt 3 0 0), .c (.d (.ptr ds j))] (fH p fl frm g w) (aZ (.tup []) (xf p fl frm (bU aW w t g) w)) := by
 refine aF 500 Z (MC.keep [500,501,503,506] (bs := [ee p fl frm (bU aW w t g) 501 506, bz (bU aW w t g).paths, hB w, bA (bU aW w t g).conds]) Z Z (jH 38 [500,501,502,503] h1 h2 Tryz.func73 Z Z Z Z fun O hF => ?_))
 refine bZ ?_
 refine ag (j3 O Z Z Z (jf [11,10,9,0,1] Z (ap O [500,501,502,503] (bin := [ee p fl frm g 1 2, bz g.paths, bA g.conds, hB w]) Z Z Z Z (lr (p := p) (fl := fl) (frm := frm) (g := g) (w := w) (t := t) (ds := ds) (j := j) h1 h2 hd hw ht hle) Z Z Z Z Z Z (B0 := 13000) Z Z (aq ?_))))
 refine jf [12,0,1] Z (jl O Z Z Z Z Z Z (aq ?_))
 refine jo O Z Z Z Z Z Z Z Z Z Z Z Z (aq ?_)
 refine aP (j3 O Z Z Z (ap O [500,501,502,503] (bin := [ee p fl frm (aR w t g) 1 2, bz (aR w t g).paths, bA (aR w t g).conds, hB w]) Z Z Z Z (oU (p := p) (fl := fl) (frm := frm) (g := (aR w t g)) (w := w) (t := (aG t w.vars).1) h1 h2 (by simp only [aR, Gs.flag, Gs.goal, List.length_append, List.length_singleton]; omega)) Z Z Z Z Z Z (B0 := 17000) Z Z (aq ?_)))
 refine jf [6,12,0,1] Z (aP (js O Z (jx O Z Z Z Z Z Z Z Z (aq ?_))))
 refine jf [19,6,12,0,1] Z (aA (Ent.freeze 19 (e' := [(19, _), (6, _), (0, _), (1, _)]) Z (.cons Z (.c (.box (cs := Tm.cells ⟨7, []⟩) Z (.cons .d (.cons .nils .nil)))) (.cons Z (.keep Z) (.cons Z (.keep Z) (.cons Z (.keep Z) .nil)))) (.cons Z (.box (.cons (.keep Z) (.cons (.keep Z) .nil))) (.skip (.cons Z (.box (.cons (.keep Z) (.cons (.keep Z) (.cons (.keep Z) (.cons (.keep Z) (.cons (.keep Z) (.cons (.keep Z) .nil))))))) (.cons Z .row (.cons Z (.box (.cons (.keep Z) (.cons (.keep Z) (.cons (.keep Z) (.cons (.keep Z) .nil))))) (.cons Z .row .nil))))))) ?_)
 refine aA (Ent.freeze 6 (e' := [(19, _), (6, _), (0, _), (1, _)]) Z (.cons Z (.keep Z) (.cons Z (.c (.box (cs := Tm.cells (aG t w.vars).1) Z (aw Z))) (.cons Z (.keep Z) (.cons Z (.keep Z) .nil)))) (.skip (.cons Z (.box (.cons (.keep Z) (.cons (.keep Z) (.cons (.keep Z) (.cons (.keep Z) (.cons (.keep Z) (.cons (.keep Z) .nil))))))) (.cons Z .row (.cons Z (.box (.cons (.keep Z) (.cons (.keep Z) (.cons (.keep Z) (.cons (.keep Z) .nil))))) (.cons Z .row .nil)))))) ?_
 refine ao O Z Z Z Z (uQ (a := ⟨7, []⟩) (m := 1) (b := (aG t w.vars).1) (n := -1) h1 h2 ta (Small.of dq) (by decide) (by decide)) (ab Z) Z Z Z Z (B0 := 21000) Z Z (j3 O Z Z Z (jf [22,21,6,0,1] Z (jl O Z Z Z Z Z Z (aq ?_))))
 refine jo O Z Z Z Z Z Z Z Z Z Z Z Z (aq ?_)
 refine js O Z (jf [8,7,6,0,1] Z (aP (j4 O Z Z Z Z (j2 O Z Z (jf [28,23,8,7,6,0,1] Z (au 2 Z Z Z (fun hx => ac hx Z Z Z (V O Z) Z Z ( ac hx Z Z Z (V O Z) Z Z ( AN.nil))) Z Z (aa ((aj O Z Z Z Z Z).cast (v' := eB (((aR w t g).goal w (aG t w.vars).1).bad || !(aW (aG t w.vars).1).2)) (congrArg eB uf)) Z Z Z (j2 O Z Z (jf [33,31,7,6,0,1] Z (jo O Z Z Z Z Z Z Z Z Z Z Z Z (aq ?_)))))))))))
 refine jf [7,6,0,1] Z (jn (AWP.region (j3 O Z Z Z (ap O [500,501,17006,503] (bin := [ee p fl frm (((aR w t g).goal w (aG t w.vars).1).flag (!(aW (aG t w.vars).1).2)) 1 2, bz (((aR w t g).goal w (aG t w.vars).1).flag (!(aW (aG t w.vars).1).2)).paths, bA (((aR w t g).goal w (aG t w.vars).1).flag (!(aW (aG t w.vars).1).2)).conds, hB w]) Z Z Z Z (oU (p := p) (fl := fl) (frm := frm) (g := (((aR w t g).goal w (aG t w.vars).1).flag (!(aW (aG t w.vars).1).2))) (w := w) (t := (aW (aG t w.vars).1).1) h1 h2 (by simp only [aR, Gs.flag, Gs.goal, List.length_append, List.length_singleton]; omega)) Z Z Z Z Z Z (B0 := 38000) Z Z (aq ?_)))))
 refine jf [7,6,0,1] Z (jn ?_)
 show _ ∧ _
 refine ⟨.inr Z, _, af 38006 506 Z Z, _, Z, Z, Z⟩
theorem lK {w : Pw} {g : Gs} {fs : List Tm} {i : Nat} (h : i < fs.length) : (fs.take (i + 1)).foldl (bl w) g = bl w ((fs.take i).foldl (bl w) g) (fs.getD i default) := by
 rw [List.take_succ_eq_append_getElem h, List.foldl_append, aI h]; rfl
theorem iu {w : Pw} : ∀ {fs : List Tm} {g : Gs}, (fs.foldl (bl w) g).conds.length = g.conds.length + fs.length
 | [], g => rfl
 | t :: fs, g => by
  rw [List.foldl_cons, iu]
  simp only [bl, aR, Gs.goal, Gs.flag, List.length_append, List.length_cons, List.length_nil]; omega
def TsOk (fs : List Tm) : Prop := ∀ t ∈ fs, t.ok = true ∧ t.xs.length ≤ 4
theorem TsOk.get {fs : List Tm} (h : TsOk fs) {i : Nat} (hi : i < fs.length) : (fs.getD i default).ok = true ∧ (fs.getD i default).xs.length ≤ 4 := by rw [aI hi]; exact h _ (List.getElem_mem hi)
theorem sG {p fl : D} {frm : Int} {g : Gs} {w : Pw} {to : Int} {fs : List Tm} (hw : CtxOk w.vars) (hv : w.vars.length = 4) (hf : TsOk fs) (hg : g.conds.length + fs.length ≤ L) (hp : g.paths.length + 1 ≤ L) : MQ h1 h2 71 [.c (.pt 0 0 0), .c (.pt 3 0 0), eI to, cr fs] (fH p fl frm g w) (aZ (.tup []) (wM p fl frm (cG frm w to fs g) w)) := by
 refine aF 500 Z (MC.keep [500,503,505,506] (bs := [ee p fl frm (cG frm w to fs g) 505 506, hB w, bz (cG frm w to fs g).paths, bA (cG frm w to fs g).conds]) Z Z (jH 69 [500,501,502,503] h1 h2 Tryz.func71 Z Z Z Z fun O hF => ?_))
 refine bZ ?_
 have hpe : (fs.foldl (bl w) g).paths.length = g.paths.length := congrArg List.length dL
 refine AWP.seq (ag (js O Z (jn (AWP.block (az (X := Nat) (fun i => ⟨[(0, .c (.pt 500 0 0)), (1, .c (.pt 503 0 0)), (2, eI to), (3, cr fs), (8, eI i)], [(500, ee p fl frm ((fs.take i).foldl (bl w) g) 501 902), (501, bz ((fs.take i).foldl (bl w) g).paths), (503, hB w), (902, bA ((fs.take i).foldl (bl w) g).conds)]⟩) (fun i => i ≤ fs.length) (fun i => fs.length - i) 0 (((aT [500,501,503,502] (e' := [(0, _), (1, _), (2, _), (3, _), (8, _)]) Z Z ⟨Z, Z, Z, Z, Z, trivial⟩ Z).trans (af 502 902 Z Z)).trans (Ent.to ⟨Z, Z, Z, Z, Z, trivial⟩ Z)) ?_ (fun i hi => ?_))))))
 exact Nat.zero_le _
 refine AWP.seq (ag (j2 O Z Z ?_))
 first | refine cy O Z Z Z Z Z Z Z Z Z Z Z ?_ | refine js O Z ?_ | refine aY O Z Z Z Z Z ?_
 refine js O Z (jf [12,0,1,2,3,8] Z (jn (AWP.cond O Z Z (fun hc12 => ?_) (fun hc12 => ?_))))
 refine AWP.skip (AWP.seq (AWP.block (AWP.region (j4 O Z Z Z Z (j2 O Z Z ?_)))))
 first | refine oE O Z Z Z Z Z Z Z Z Z Z Z ?_ | refine dR O Z Z Z Z Z Z Z Z Z Z Z ?_ | refine aY O Z Z Z Z Z ?_
 refine jf [21,18,17,16,15,12,0,1,2,3,8] Z ?_
 have hil : i < fs.length := by have := of_decide_eq_true hc12; omega
 have hfi := hf.get hil
 have hci := iu (w := w) (fs := fs.take i) (g := g)
 rw [List.length_take, Nat.min_eq_left (by omega)] at hci
 refine ap O [500,501,902,503] (bin := [ee p fl frm ((fs.take i).foldl (bl w) g) 1 2, bz ((fs.take i).foldl (bl w) g).paths, bA ((fs.take i).foldl (bl w) g).conds, hB w]) Z Z Z Z (lr (p := p) (fl := fl) (frm := frm) (g := ((fs.take i).foldl (bl w) g)) (w := w) (t := (fs.getD i default)) (ds := Tm.cells (fs.getD i default)) (j := 0) h1 h2 Z hw hfi.1 (by omega)) Z Z Z Z Z Z (B0 := 23000) Z Z (aq ?_)
 refine jf [22,16,15,12,0,1,2,3,8] Z (ap O [500,501,902,503] (bin := [ee p fl frm (aR w (fs.getD i default) ((fs.take i).foldl (bl w) g)) 1 2, bz (aR w (fs.getD i default) ((fs.take i).foldl (bl w) g)).paths, bA (aR w (fs.getD i default) ((fs.take i).foldl (bl w) g)).conds, hB w]) Z Z Z Z (oU (p := p) (fl := fl) (frm := frm) (g := aR w (fs.getD i default) ((fs.take i).foldl (bl w) g)) (w := w) (t := (aG (fs.getD i default) w.vars).1) h1 h2 (show ((fs.take i).foldl (bl w) g).conds.length + 1 ≤ L by omega)) Z Z Z Z Z Z (B0 := 24000) Z Z (aq ?_))
 refine jf [12,0,1,2,3,8] Z (jn (AWP.region (js O Z ?_)))
 first | refine ji O Z ?_ | refine aY O Z Z Z Z Z ?_
 refine js O Z (jf [8,12,0,1,2,3] Z (jn ?_))
 refine ⟨i + 1, ((aT [500,501,503,24006] (e' := [(0, _), (1, _), (2, _), (3, _), (8, _)]) Z Z ⟨Z, Z, Z, Z, Z, trivial⟩ Z).trans (af 24006 902 Z Z)).trans (Ent.to ⟨Z, Z, Z, Z, Z, trivial⟩ (by rw [lK (by omega)]; rfl)), by omega, by omega⟩
 refine AWP.exit (AWP.seq ?_)
 obtain rfl : i = fs.length := by have := of_decide_eq_false hc12; omega
 rw [List.take_length]
 refine oG O [_,_,_,_,_,_,_,_,_,_,_,_,_,_,_,_,_,_,_,_,_,_,_,_,_,_,_,_,_,_,_] [pn [] 0 4, pn [] 0 3, pn [1] 0 3, pn [1,2] 0 3, pn [1,2,3] 0 3, pn [] 0 3, pn [5] 0 3, pn [5,6] 0 3, pn [5,6,7] 0 3, pn [] 0 3, pn [] 0 0, pn [10] 0 0, pn [10,11] 0 0, pn [10,11,12] 0 0, pe [10,11,12,13] 0, pn [] 0 1, pn [15] 0 1, pn [15,16] 0 1, pn [15,16,17] 0 1, pe [10,11,12,13,14,15,16,17,18] 1, pn [] 0 2, pn [20] 0 2, pn [20,21] 0 2, pn [20,21,22] 0 2, pe [10,11,12,13,14,15,16,17,18,19,20,21,22,23] 2, pn [5,6,7,8,9,10,11,12,13,14,15,16,17,18,19,20,21,22,23,24] 3 3, pn [5,6,7,8,9,10,11,12,13,14,15,16,17,18,19,20,21,22,23,24,25] 3 3, pe [1,2,3,4,5,6,7,8,9,10,11,12,13,14,15,16,17,18,19,20,21,22,23,24,25,26] 3, pn [0,1,2,3,4,5,6,7,8,9,10,11,12,13,14,15,16,17,18,19,20,21,22,23,24,25,26,27] 4 4, pn [0,1,2,3,4,5,6,7,8,9,10,11,12,13,14,15,16,17,18,19,20,21,22,23,24,25,26,27,28] 4 4, pe [0,1,2,3,4,5,6,7,8,9,10,11,12,13,14,15,16,17,18,19,20,21,22,23,24,25,26,27,28,29] 4] [14,19,24,27,30] 26 50 (.row false 5 [Pth.cells (⟨frm, to, w.facts, w.vars, w.ev⟩ : Pth)]) [_,_,_,_] [_,_] [[], [], [], [501], []] (ai (kf O Z Z Z (kf O Z Z Z (kf O Z Z Z (kf O Z Z Z (kg O Z Z Z))))) (ai (kf O Z Z Z (kf O Z Z Z (kf O Z Z Z (kg O Z Z Z)))) (ai (kf O Z Z Z (kf O Z Z Z (kf O Z Z Z (kg O Z Z Z)))) (ai (kf O Z Z Z (kf O Z Z Z (kf O Z Z Z (kg O Z Z Z)))) (ai (kf O Z Z Z (kf O Z Z Z (kf O Z Z Z (kg O Z Z Z)))) (ai (kf O Z Z Z (kf O Z Z Z (kf O Z Z Z (kg O Z Z Z)))) (ai (kf O Z Z Z (kf O Z Z Z (kf O Z Z Z (kg O Z Z Z)))) (ai (kf O Z Z Z (kf O Z Z Z (kf O Z Z Z (kg O Z Z Z)))) (ai (kf O Z Z Z (kf O Z Z Z (kf O Z Z Z (kg O Z Z Z)))) (ai (kf O Z Z Z (kf O Z Z Z (kf O Z Z Z (kg O Z Z Z)))) (kf O Z Z Z (kf O Z Z Z (kf O Z Z Z (kf O Z Z Z (ai (ai (aJ (bj O (B0 := 39000) Z Z Z Z (se (ts := w.facts) h1 h2) (ab Z) Z Z Z Z Z) (bj O (B0 := 39000) Z Z Z Z (se (ts := w.facts) h1 h2) (ab Z) Z Z Z Z Z)) Z) (ai (kf O Z Z Z (kg O Z Z Z)) (ai (kf O Z Z Z (kg O Z Z Z)) (ai (kf O Z Z Z (kg O Z Z Z)) (ai (kf O Z Z Z (kg O Z Z Z)) (ai (ai (aJ (bj O (B0 := 44000) Z Z Z Z (se (ts := w.vars) h1 h2) (ab Z) Z Z Z Z Z) (bj O (B0 := 44000) Z Z Z Z (se (ts := w.vars) h1 h2) (ab Z) Z Z Z Z Z)) Z) (ai (kf O Z Z Z (kf O Z Z Z (kg O Z Z Z))) (ai (kf O Z Z Z (kf O Z Z Z (kg O Z Z Z))) (ai (kf O Z Z Z (kf O Z Z Z (kg O Z Z Z))) (ai (kf O Z Z Z (kf O Z Z Z (kg O Z Z Z))) (ai (ai (aJ (bj O (B0 := 49000) Z Z Z Z (oO (xs := w.ev) h1 h2) (ab Z) Z Z Z Z Z) (bj O (B0 := 49000) Z Z Z Z (oO (xs := w.ev) h1 h2) (ab Z) Z Z Z Z Z)) Z) (kf O Z Z Z (ai (ai (aO (dn O Z Z Z Z Z Z Z Z Z Z Z Z Z Z)) Z) (ai (ai (aJ trivial (cF (own := false) (xs := (fs.foldl (bl w) g).paths.map Pth.cells) (ys := [Pth.cells (⟨frm, to, w.facts, w.vars, w.ev⟩ : Pth)]) (zs := (((fs.foldl (bl w) g).paths ++ [(⟨frm, to, w.facts, w.vars, w.ev⟩ : Pth)])).map Pth.cells) (n := ((fs.foldl (bl w) g).paths ++ [(⟨frm, to, w.facts, w.vars, w.ev⟩ : Pth)]).length) O Z Z Z Z Z Z Z Z Z Z Z Z Z Z Z Z (.row Z (List.length_map _).symm) (.whole Z Z (.inr ⟨Z, Z⟩)) (by simp) Z (by simp; omega) (by simp; omega) (by simp) (by simp) Z)) Z) (ai (ai (aJ trivial (V O Z)) Z) (ai (ai (aJ trivial (V O Z)) Z) (ai (ai (aJ trivial (aO (aC O Z Z Z Z Z Z Z Z Z Z Z Z Z))) Z) trivial))))))))))))))))))))))))))))))) ?_
 refine jw [12,0,1,2,3,8] Z (bZ ?_)
 refine AWP.region (j4 O Z Z Z Z (j2 O Z Z (jf [59,54,12,0,1,2,3,8] Z (au 6 Z Z Z (fun hx => ac hx Z Z Z (V O Z) Z Z ( ac hx Z Z Z (V O Z) Z Z ( ac hx Z Z Z (V O Z) Z Z ( ac hx Z Z Z (V O Z) Z Z ( ac hx Z Z Z (cL O Z Z (by simp only [List.length_append, List.length_singleton]; omega)) Z Z ( ac hx Z Z Z (V O Z) Z Z ( AN.nil))))))) Z Z (aa ((aj O Z Z Z Z Z).cast (v' := eB ((fs.foldl (bl w) g).bad || decide (200 < (fs.foldl (bl w) g).paths.length + 1))) (congrArg eB (by rw [uf]; exact congrArg ((fs.foldl (bl w) g).bad || ·) (decide_eq_decide.2 (by simp; omega))))) Z Z Z (j2 O Z Z (jf [68,66,12,0,1,2,3,8] Z (jo O Z Z Z Z Z Z Z Z Z Z Z Z (aq ?_)))))))))
 refine jf [12,0,1,2,3,8] Z (jn ?_)
 show _ ∧ _
 refine ⟨.inr Z, _, (af 51 505 Z Z).trans (af 902 506 Z Z), _, Z, Z, Z⟩
structure Fl where
  stmt : Int
  next : Int
  other : Int
  deriving Inhabited
abbrev Fl.cells (f : Fl) : List D := [.int .i64 f.stmt, .int .i64 f.next, .int .i64 f.other]
abbrev cz (fs : List Fl) : D := .slc 3 (fs.map Fl.cells)
def aS (b : List Sm) : Nat → Nat
  | 0 => 0
  | k + 1 => aS b k + if (b.getD k default).kind = 8 then 1 else 0
theorem cS {b : List Sm} : ∀ {k : Nat}, aS b k ≤ k
 | 0 => Nat.le_refl _
 | k + 1 => by
  have := cS (b := b) (k := k)
  rw [aS]; split <;> omega
inductive Pl (b : List Sm) (fl : List Fl) : Int → List Fr → Prop
  | nil : Pl b fl (-1) []
  | lp {i : Nat} {k : Nat} {r : List Fr} (hi : i < fl.length) (hs : (fl.getD i default).stmt = (k : Nat)) (hk : k < b.length) (hb : (b.getD k default).kind = 8) : Pl b fl (i : Nat) (.lp (aS b k) :: r)
  | leaf {i k : Nat} {r : List Fr} (hi : i < fl.length) (hs : (fl.getD i default).stmt = (k : Nat)) (hk : k < b.length) (hb : bh (b.getD k default).kind = 0) (h : Pl b fl (fl.getD i default).next r) : Pl b fl (i : Nat) (.st (.node (b.getD k default) (k : Nat) []) :: r)
  | seq {i : Int} {k : Nat} {x y : Tr} {r : List Fr} (hb : (b.getD k default).kind = 1) (h : Pl b fl i (.st x :: .st y :: r)) : Pl b fl i (.st (.node (b.getD k default) (k : Nat) [x, y]) :: r)
  | cond {i k : Nat} {x y : Tr} {r : List Fr} (hi : i < fl.length) (hs : (fl.getD i default).stmt = (k : Nat)) (hk : k < b.length) (hb : (b.getD k default).kind = 7) (h1 : Pl b fl (fl.getD i default).next (.st x :: r)) (h2 : Pl b fl (fl.getD i default).other (.st y :: r)) : Pl b fl (i : Nat) (.st (.node (b.getD k default) (k : Nat) [x, y]) :: r)
  | loop {i k : Nat} {x : Tr} {r : List Fr} (hi : i < fl.length) (hs : (fl.getD i default).stmt = (k : Nat)) (hk : k < b.length) (hb : (b.getD k default).kind = 8) : Pl b fl (i : Nat) (.st (.node (b.getD k default) (k : Nat) [x]) :: r)

theorem vG {pre post : List Tm} {b : List Sm} {k : Nat} (hk : k ≤ b.length) (hb : b.length ≤ 1000) : MQ h1 h2 77 [ptr [bX pre, eZ b, bX post], eI (k : Nat)] [] (Plain (eI (aS b k : Nat))) := by
 refine av ?_ Z
 refine jB 24 h1 h2 Tryz.func77 Z Z Z fun O hF => ?_
 refine ag (js O Z (aP (js O Z (jn (AWP.seq (ag (js O Z (jn (AWP.block (az (X := Nat) (fun i => ⟨[(0, ptr [bX pre, eZ b, bX post]), (1, eI (k : Nat)), (5, eI (aS b i : Nat)), (6, eI i)], []⟩) (fun i => i ≤ k) (fun i => k - i) 0 (Ent.env ⟨Z, Z, Z, Z, trivial⟩) ?_ (fun i hi => ?_)))))))))))
 exact Nat.zero_le _
 refine AWP.seq (ag (j3 O Z Z Z (jf [9,0,1,5,6] Z (jn (AWP.cond O Z Z (fun hc9 => ?_) (fun hc9 => ?_))))))
 try simp only [bg] at hc9
 refine AWP.skip (AWP.seq (AWP.block (ag (j4 O Z Z Z Z (js O Z ?_)))))
 have hn := cS (b := b) (k := i)
 refine aa (aB O Z Z Z Z Z Z Z Z (cq (by omega))) Z Z Z (j3 O Z Z Z (jf [20,9,0,1,5,6] Z (jn (AWP.cond O Z Z (fun hc20 => ?_) (fun hc20 => ?_)))))
 try simp only [bg] at hc20
 refine AWP.region (js O Z ?_)
 first | refine ji O Z ?_ | refine aY O Z Z Z Z Z ?_
 refine js O Z (jf [5,20,9,0,1,6] Z (jn (AWP.region (js O Z ?_))))
 first | refine ji O Z ?_ | refine aY O Z Z Z Z Z ?_
 refine js O Z (jf [6,5,20,9,0,1] Z (jn ?_))
 have hn := cS (b := b) (k := i)
 refine ⟨i + 1, Ent.env ⟨Z, Z, by rw [aS, if_pos hc20]; rfl, Z, trivial⟩, by omega, by omega⟩
 try simp only [bg] at hc20
 refine AWP.skip (AWP.region (js O Z ?_))
 first | refine ji O Z ?_ | refine aY O Z Z Z Z Z ?_
 refine js O Z (jf [6,20,9,0,1,5] Z (jn ?_))
 refine ⟨i + 1, Ent.env ⟨Z, Z, by rw [aS, if_neg hc20]; rfl, Z, trivial⟩, by omega, by omega⟩
 try simp only [bg] at hc9
 refine AWP.exit (ag (j2 O Z Z (jn (AWP.ret ?_))))
 refine ⟨.inl Z, _, Ent.refl, _, Z, ?_⟩
 obtain rfl : i = k := by omega
 rfl
abbrev pP (pre : List Tm) (b : List Sm) (post : List Tm) : D := .ptr [bX pre, eZ b, bX post] 0
abbrev gH (p fl : D) (frm : Int) (g : Gs) : List (Nat × B) := [(0, ee p fl frm g 1 2), (1, bz g.paths), (2, bA g.conds)]
abbrev fm (p fl : D) (frm : Int) (g : Gs) : List (Nat × B) := [(0, ee p fl frm g 5 6), (5, bz g.paths), (6, bA g.conds)]
theorem WOk.ctx {m : Nat} {w : Pw} (h : WOk m w) : CtxOk w.vars := ⟨h.ok, by have := h.vars; omega⟩
theorem uq {α β : Type} [Inhabited α] {l : List α} {f : α → β} {n j : Nat} (h : n < l.length) (hj : j = n) : (l.map f)[j]? = some (f (l.getD n default)) := by subst hj; simp [h]
theorem ui {α β : Type} {l : List α} {f : α → β} {n j : Nat} {v : α} {ds : β} (hj : j = n) (hd : ds = f v) : (l.map f).set j ds = (l.set n v).map f := by subst hj; subst hd; rw [List.map_set]
theorem pS {pre post : List Tm} {b : List Sm} {fl : List Fl} {frm : Int} {g : Gs} {w : Pw} {at_ : Int} {first : Bool} (hb : g.bad = true) : MQ h1 h2 54 [.c (.pt 0 0 0), eI at_, hA w, eB first] (gH (pP pre b post) (cz fl) frm g) (aZ (.tup []) (fm (pP pre b post) (cz fl) frm g)) := by
 refine aF 500 Z (MC.keep [500,505,506] (bs := [ee (pP pre b post) (cz fl) frm g 505 506, bz g.paths, bA g.conds]) Z Z (jH 206 [500,501,502] h1 h2 Tryz.func54 Z Z Z Z fun O hF => ?_))
 refine bZ ?_
 refine ag (jx O Z Z Z Z Z Z Z Z (aq ?_))
 refine jn (AWP.seq (ag (j4 O Z Z Z Z (jf [19,6,0,1,2,3] Z (jn (AWP.cond O Z Z (fun hc19 => ?_) (fun hc19 => ?_)))))))
 refine AWP.ret ?_
 refine ⟨.inl Z, _, (af 501 505 Z Z).trans (af 502 506 Z Z), _, Z, Z, Z⟩
 exact absurd hc19 (by rw [hb]; decide)
theorem pR {pre post : List Tm} {b : List Sm} {fl : List Fl} {frm : Int} {g : Gs} {w : Pw} {first : Bool} (hb : g.bad = false) (hw : CtxOk w.vars) (hv : w.vars.length = 4) (hf : TsOk post) (hg : g.conds.length + post.length ≤ L) (hp : g.paths.length + 1 ≤ L) : MQ h1 h2 54 [.c (.pt 0 0 0), eI (-1), hA w, eB first] (gH (pP pre b post) (cz fl) frm g) (aZ (.tup []) (fm (pP pre b post) (cz fl) frm (cG frm w (-1) post g))) := by
 refine aF 500 Z (MC.keep [500,505,506] (bs := [ee (pP pre b post) (cz fl) frm (cG frm w (-1) post g) 505 506, bz (cG frm w (-1) post g).paths, bA (cG frm w (-1) post g).conds]) Z Z (jH 206 [500,501,502] h1 h2 Tryz.func54 Z Z Z Z fun O hF => ?_))
 refine bZ ?_
 refine ag (jx O Z Z Z Z Z Z Z Z (aq ?_))
 refine jn (AWP.seq (ag (j4 O Z Z Z Z (jf [19,6,0,1,2,3] Z (jn (AWP.cond O Z Z (fun hc19 => ?_) (fun hc19 => ?_)))))))
 exact absurd hc19 (by rw [hb]; decide)
 refine AWP.skip (AWP.seq (ag (j2 O Z Z (jf [21,6,0,1,2,3] Z (jn (AWP.cond O Z Z (fun hc21 => ?_) (fun hc21 => ?_)))))))
 refine ag (j4 O Z Z Z Z (j4 O Z Z Z Z (jf [29,22,6,0,1,2,3] Z (ap O [500,501,502,6] (bin := [ee (pP pre b post) (cz fl) frm g 1 2, bz g.paths, bA g.conds, hB w]) Z Z Z Z (sG (p := (pP pre b post)) (fl := (cz fl)) (frm := frm) (g := g) (w := w) (to := -1) (fs := post) h1 h2 hw hv hf hg hp) Z Z Z Z Z Z (B0 := 31000) Z Z (aq ?_)))))
 refine jf [6,0,1,2,3] Z (jn (AWP.ret ?_))
 refine ⟨.inl Z, _, (af 31005 505 Z Z).trans (af 31006 506 Z Z), _, Z, Z, Z⟩
 exact absurd hc21 (by decide)
theorem kP {pre post : List Tm} {b : List Sm} {fl : List Fl} {frm : Int} {g : Gs} {w : Pw} {i k : Nat} {nx ot : Int} {s : Sm} (hb : g.bad = false) (hi : i < fl.length) (he : fl.getD i default = ⟨(k : Nat), nx, ot⟩) (hk : k < b.length) (hbs : b.getD k default = s) (hk8 : s.kind = 8) (hb1 : b.length ≤ 1000) (hw : CtxOk w.vars) (hv : w.vars.length = 4) (hf : TsOk s.facts) (hg : g.conds.length + s.facts.length ≤ L) (hp : g.paths.length + 1 ≤ L) : MQ h1 h2 54 [.c (.pt 0 0 0), eI (i : Nat), hA w, eB false] (gH (pP pre b post) (cz fl) frm g) (aZ (.tup []) (fm (pP pre b post) (cz fl) frm (cG frm w (aS b k : Nat) s.facts g))) := by
 refine aF 500 Z (MC.keep [500,505,506] (bs := [ee (pP pre b post) (cz fl) frm (cG frm w (aS b k : Nat) s.facts g) 505 506, bz (cG frm w (aS b k : Nat) s.facts g).paths, bA (cG frm w (aS b k : Nat) s.facts g).conds]) Z Z (jH 206 [500,501,502] h1 h2 Tryz.func54 Z Z Z Z fun O hF => ?_))
 refine bZ ?_
 refine ag (jx O Z Z Z Z Z Z Z Z (aq ?_))
 refine jn (AWP.seq (ag (j4 O Z Z Z Z (jf [19,6,0,1,2,3] Z (jn (AWP.cond O Z Z (fun hc19 => ?_) (fun hc19 => ?_)))))))
 exact absurd hc19 (by rw [hb]; decide)
 refine AWP.skip (AWP.seq (ag (j2 O Z Z (jf [21,6,0,1,2,3] Z (jn (AWP.cond O Z Z (fun hc21 => ?_) (fun hc21 => ?_)))))))
 exact absurd (of_decide_eq_true hc21) (by omega)
 refine AWP.skip (ag (j4 O Z Z Z Z (js O Z (aa ((aB O Z Z Z Z Z Z Z Z (cq hi)).cast (v' := ptr (Fl.cells ⟨(k : Nat), nx, ot⟩)) (by rw [he])) Z Z Z (js O Z (jf [37,6,0,1,2,3] Z (jl O Z Z Z Z Z Z (aq ?_))))))))
 refine jo O Z Z Z Z Z Z Z Z Z Z Z Z (aq ?_)
 refine jn (AWP.seq (f6 O [_,_,_,_,_,_,_,_,_,_,_] [pn [] 0 0, pn [0] 0 0, pn [0,1] 0 0, pn [0,1,2] 0 0, pn [0,1,2,3] 0 0, pn [0,1,2,3,4] 0 0, pn [0,1,2,3,4,5] 0 0, pn [] 0 0, pn [7] 0 0, pn [0,1,2,3,4,5,6,7,8] 0 0, pn [0,1,2,3,4,5,6,7,8,9] 0 0] [] [_] (kc O Z (kc O Z (kc O Z (kc O Z (kc O Z (kc O Z (kc O Z (kc O Z (kc O Z (ai ((aB O Z Z Z Z Z Z Z Z (cq hk)).cast (v' := ptr (Sm.cells s)) (by rw [hbs])) (kc O Z trivial))))))))))) ?_))
 refine jw [9,8,37,6,0,1,2,3] Z (bZ ?_)
 refine AWP.seq (ag (j4 O Z Z Z Z (jf [51,9,8,37,6,0,1,2,3] Z (jn (AWP.block (ag (j2 O Z Z (jn (AWP.cond O Z Z (fun hc52 => ?_) (fun hc52 => ?_))))))))))
 exact absurd (of_decide_eq_true hc52) (by omega)
 refine ag (j2 O Z Z (jf [71,53,51,9,8,37,6,0,1,2,3] Z (jn (AWP.cond O Z Z (fun hc71 => ?_) (fun hc71 => ?_)))))
 exact absurd (of_decide_eq_true hc71) (by omega)
 refine ag (j2 O Z Z (jf [110,53,51,9,8,37,6,0,1,2,3] Z (jn (AWP.cond O Z Z (fun hc110 => ?_) (fun hc110 => ?_)))))
 exact absurd (of_decide_eq_true hc110) (by omega)
 refine ag (j2 O Z Z (jf [117,53,51,9,8,37,6,0,1,2,3] Z (jn (AWP.cond O Z Z (fun hc117 => ?_) (fun hc117 => ?_)))))
 exact absurd (of_decide_eq_true hc117) (by omega)
 refine ag (j2 O Z Z (jf [129,53,51,9,8,37,6,0,1,2,3] Z (jn (AWP.cond O Z Z (fun hc129 => ?_) (fun hc129 => ?_)))))
 exact absurd (of_decide_eq_true hc129) (by omega)
 refine AWP.seq (ag (j2 O Z Z (jf [142,53,51,9,8,37,6,0,1,2,3] Z (jn (AWP.cond O Z Z (fun hc142 => ?_) (fun hc142 => ?_))))))
 exact absurd (of_decide_eq_true hc142) (by omega)
 refine AWP.region (j2 O Z Z (jn (AWP.cond O Z Z (fun hc142 => ?_) (fun hc142 => ?_))))
 refine AWP.seq (ag (j4 O Z Z Z Z (j2 O Z Z (jf [150,144,53,51,9,8,37,6,0,1,2,3] Z (au 2 Z Z Z (fun hx => ac hx Z Z Z (V O Z) Z Z ( ac hx Z Z Z (V O Z) Z Z ( AN.nil))) Z Z ?_)))))
 first | refine aa (ak O Z Z Z Z Z) Z Z Z ?_ | refine aa (aj O Z Z Z Z Z) Z Z Z ?_ | refine aa (Val.pickB O Z Z Z Z Z) Z Z Z ?_
 refine jf [153,144,53,51,9,8,37,6,0,1,2] Z (jn (AWP.cond O Z Z (fun hc153 => ?_) (fun hc153 => ?_)))
 refine AWP.seq (jw [144,53,51,9,8,37,6,0,1,2] Z (jE O [_,_,_,_,_,_,_,_,_,_,_,_,_] [pn [] 0 1, pn [] 0 0, pn [1] 0 0, pn [1,2] 0 0, pn [1,2,3] 0 0, pn [] 0 0, pn [5] 0 0, pe [1,2,3,4,5,6] 0, pn [] 0 1, pn [8] 0 1, pn [8,9] 0 1, pn [8,9,10] 0 1, pe [0,1,2,3,4,5,6,7,8,9,10,11] 1] [7,12] [_,_,_] [[], [501,502]] (ai (ka O Z Z (kw O Z Z)) (ka O Z Z (ka O Z Z (ka O Z Z (ka O Z Z (ka O Z Z (ka O Z Z (ai (ai (aO (cb O (B0 := 162000) Z Z Z Z (vG (pre := pre) (post := post) (b := b) (k := k) h1 h2 (by omega) hb1) (ab Z) Z Z Z Z Z)) Z) (ai (ka O Z Z (kw O Z Z)) (ai (ka O Z Z (kw O Z Z)) (ai (ka O Z Z (kw O Z Z)) (ai (ka O Z Z (kw O Z Z)) (ai (ai (bM O [500,501,502,6] [501,502] (bin := [ee (pP pre b post) (cz fl) frm g 1 2, bz g.paths, bA g.conds, hB w]) Z Z Z Z (sG (p := (pP pre b post)) (fl := (cz fl)) (frm := frm) (g := g) (w := w) (to := (aS b k : Nat)) (fs := s.facts) h1 h2 hw hv hf hg hp) Z Z Z Z Z (B0 := 167000) Z Z Z Z Z Z Z) Z) trivial))))))))))))) ?_))
 refine jw [144,53,51,9,8,37,6,0,1,2] Z (bZ ?_)
 refine AWP.ret ?_
 refine ⟨.inl Z, _, (af 167005 505 Z Z).trans (af 167006 506 Z Z), _, Z, Z, Z⟩
 exact absurd hc153 (by rw [hk8]; decide)
 exact absurd (of_decide_eq_false hc142) (by omega)
theorem mP {la : ct} {E : Pe} {frm : Int} {n : Nat} {r : List Fr} {w u : Pw} {g : Gs} (h : u.long = w.long) : (dz la E frm n r w (g.flag w.long)).flag u.long = dz la E frm n r w (g.flag w.long) := by
 rw [h]
 cases hl : w.long with
 | false => simp [Gs.flag]
 | true => rw [ce (by simp [Gs.flag])]; simp [Gs.flag]
theorem rk {pre post : List Tm} {b : List Sm} {fl : List Fl} {frm : Int} {g : Gs} {w : Pw} {i k : Nat} {nx ot : Int} {s : Sm} (hb : g.bad = false) (hi : i < fl.length) (he : fl.getD i default = ⟨(k : Nat), nx, ot⟩) (hk : k < b.length) (hbs : b.getD k default = s) (hkk : s.kind = 7) (hw : CtxOk w.vars) (hv : w.vars.length = 4) (hs : s.sum.ok = true ∧ s.sum.xs.length ≤ 4) (hl : w.facts.length ≤ 1000) {g3 g4 : Gs} (ih1 : MQ h1 h2 54 [.c (.pt 0 0 0), eI nx, hA (w.fact (aG s.sum w.vars).1), eB false] (gH (pP pre b post) (cz fl) frm (((aR w s.sum g).flag (!(bo (aG s.sum w.vars).1).2)).flag (w.fact (aG s.sum w.vars).1).long)) (aZ (.tup []) (fm (pP pre b post) (cz fl) frm g3))) (ih2 : MQ h1 h2 54 [.c (.pt 0 0 0), eI ot, hA (w.fact (bo (aG s.sum w.vars).1).1), eB false] (gH (pP pre b post) (cz fl) frm (g3.flag (w.fact (bo (aG s.sum w.vars).1).1).long)) (aZ (.tup []) (fm (pP pre b post) (cz fl) frm g4))) : MQ h1 h2 54 [.c (.pt 0 0 0), eI (i : Nat), hA w, eB false] (gH (pP pre b post) (cz fl) frm g) (aZ (.tup []) (fm (pP pre b post) (cz fl) frm g4)) := by
 refine aF 500 Z (MC.keep [500,505,506] (bs := [ee (pP pre b post) (cz fl) frm g4 505 506, bz g4.paths, bA g4.conds]) Z Z (jH 206 [500,501,502] h1 h2 Tryz.func54 Z Z Z Z fun O hF => ?_))
 refine bZ ?_
 refine ag (jx O Z Z Z Z Z Z Z Z (aq ?_))
 refine jn (AWP.seq (ag (j4 O Z Z Z Z (jf [19,6,0,1,2,3] Z (jn (AWP.cond O Z Z (fun hc19 => ?_) (fun hc19 => ?_)))))))
 exact absurd hc19 (by rw [hb]; decide)
 refine AWP.skip (AWP.seq (ag (j2 O Z Z (jf [21,6,0,1,2,3] Z (jn (AWP.cond O Z Z (fun hc21 => ?_) (fun hc21 => ?_)))))))
 exact absurd (of_decide_eq_true hc21) (by omega)
 refine AWP.skip (ag (j4 O Z Z Z Z (js O Z (aa ((aB O Z Z Z Z Z Z Z Z (cq hi)).cast (v' := ptr (Fl.cells ⟨(k : Nat), nx, ot⟩)) (by rw [he])) Z Z Z (js O Z (jf [37,6,0,1,2,3] Z (jl O Z Z Z Z Z Z (aq ?_))))))))
 refine jo O Z Z Z Z Z Z Z Z Z Z Z Z (aq ?_)
 refine jn (AWP.seq (f6 O [_,_,_,_,_,_,_,_,_,_,_] [pn [] 0 0, pn [0] 0 0, pn [0,1] 0 0, pn [0,1,2] 0 0, pn [0,1,2,3] 0 0, pn [0,1,2,3,4] 0 0, pn [0,1,2,3,4,5] 0 0, pn [] 0 0, pn [7] 0 0, pn [0,1,2,3,4,5,6,7,8] 0 0, pn [0,1,2,3,4,5,6,7,8,9] 0 0] [] [_] (kc O Z (kc O Z (kc O Z (kc O Z (kc O Z (kc O Z (kc O Z (kc O Z (kc O Z (ai ((aB O Z Z Z Z Z Z Z Z (cq hk)).cast (v' := ptr (Sm.cells s)) (by rw [hbs])) (kc O Z trivial))))))))))) ?_))
 refine jw [9,8,37,6,0,1,2,3] Z (bZ ?_)
 refine AWP.seq (ag (j4 O Z Z Z Z (jf [51,9,8,37,6,0,1,2,3] Z (jn (AWP.block (ag (j2 O Z Z (jn (AWP.cond O Z Z (fun hc52 => ?_) (fun hc52 => ?_))))))))))
 exact absurd (of_decide_eq_true hc52) (by omega)
 refine ag (j2 O Z Z (jf [71,53,51,9,8,37,6,0,1,2,3] Z (jn (AWP.cond O Z Z (fun hc71 => ?_) (fun hc71 => ?_)))))
 exact absurd (of_decide_eq_true hc71) (by omega)
 refine ag (j2 O Z Z (jf [110,53,51,9,8,37,6,0,1,2,3] Z (jn (AWP.cond O Z Z (fun hc110 => ?_) (fun hc110 => ?_)))))
 exact absurd (of_decide_eq_true hc110) (by omega)
 refine ag (j2 O Z Z (jf [117,53,51,9,8,37,6,0,1,2,3] Z (jn (AWP.cond O Z Z (fun hc117 => ?_) (fun hc117 => ?_)))))
 exact absurd (of_decide_eq_true hc117) (by omega)
 refine ag (j2 O Z Z (jf [129,53,51,9,8,37,6,0,1,2,3] Z (jn (AWP.cond O Z Z (fun hc129 => ?_) (fun hc129 => ?_)))))
 exact absurd (of_decide_eq_true hc129) (by omega)
 refine AWP.seq (ag (j2 O Z Z (jf [142,53,51,9,8,37,6,0,1,2,3] Z (jn (AWP.cond O Z Z (fun hc142 => ?_) (fun hc142 => ?_))))))
 refine AWP.skip (AWP.cond O Z Z (fun hc142 => ?_) (fun hc142 => ?_))
 refine AWP.seq (ag (j4 O Z Z Z Z (j2 O Z Z (jf [150,53,51,9,8,37,6,0,1,2,3] Z (au 2 Z Z Z (fun hx => ac hx Z Z Z (V O Z) Z Z ( ac hx Z Z Z (V O Z) Z Z ( AN.nil))) Z Z ?_)))))
 first | refine aa (ak O Z Z Z Z Z) Z Z Z ?_ | refine aa (aj O Z Z Z Z Z) Z Z Z ?_ | refine aa (Val.pickB O Z Z Z Z Z) Z Z Z ?_
 refine jf [153,53,51,9,8,37,6,0,1,2] Z (jn (AWP.cond O Z Z (fun hc153 => ?_) (fun hc153 => ?_)))
 exact absurd hc153 (by rw [hkk]; decide)
 refine AWP.skip (ag (j4 O Z Z Z Z (jf [170,167,53,51,9,8,37,6,0,1,2] Z (ap O [500,501,502,6] (bin := [ee (pP pre b post) (cz fl) frm g 1 2, bz g.paths, bA g.conds, hB w]) Z Z Z Z (lr (p := (pP pre b post)) (fl := (cz fl)) (frm := frm) (g := g) (w := w) (t := s.sum) (ds := Sm.cells s) (j := 3) h1 h2 Z hw hs.1 (by omega)) Z Z Z Z Z Z (B0 := 172000) Z Z (aq ?_)))))
 refine jf [171,53,51,9,8,37,6,0,1,2] Z (jl O Z Z Z Z Z Z (aq ?_))
 refine jo O Z Z Z Z Z Z Z Z Z Z Z Z (aq ?_)
 refine aP (aA (Ent.freeze 13 (e' := [(13, _), (0, _), (6, _), (8, _)]) Z (.cons Z (.c (.box (cs := Tm.cells (aG s.sum w.vars).1) Z (aw Z))) (.cons Z (.keep Z) (.cons Z (.keep Z) (.cons Z (.keep Z) .nil)))) (.cons Z (.box (.cons (.keep Z) (.cons (.keep Z) (.cons (.keep Z) .nil)))) (.skip (.cons Z (.box (.cons (.keep Z) (.cons (.keep Z) (.cons (.keep Z) (.cons (.keep Z) (.cons (.keep Z) (.cons (.keep Z) .nil))))))) (.cons Z .row (.cons Z .row (.cons Z (.box (.cons (.keep Z) (.cons (.keep Z) (.cons (.keep Z) (.cons (.keep Z) .nil))))) .nil))))))) ?_)
 refine ao O Z Z Z Z (uT (t := (aG s.sum w.vars).1) h1 h2 (Small.of dq)) (ab Z) Z Z Z Z (B0 := 174000) Z Z (j3 O Z Z Z (jf [175,174,13,0,6,8] Z (jl O Z Z Z Z Z Z (aq ?_))))
 refine jo O Z Z Z Z Z Z Z Z Z Z Z Z (aq ?_)
 refine js O Z (jf [15,14,13,0,6,8] Z (aP (j4 O Z Z Z Z (j2 O Z Z (jf [181,176,15,14,13,0,6,8] Z (au 2 Z Z Z (fun hx => ac hx Z Z Z (V O Z) Z Z ( ac hx Z Z Z (V O Z) Z Z ( AN.nil))) Z Z (aa ((aj O Z Z Z Z Z).cast (v' := eB ((aR w s.sum g).bad || !(bo (aG s.sum w.vars).1).2)) (congrArg eB uf)) Z Z Z (j2 O Z Z (jf [186,184,14,13,0,6,8] Z (jo O Z Z Z Z Z Z Z Z Z Z Z Z (aq ?_)))))))))))
 refine jf [14,13,0,6,8] Z (jn (AWP.seq (jE O [_,_,_,_,_,_,_] [pn [] 0 1, pn [] 0 1, pn [1] 0 1, pn [] 0 0, pn [] 0 0, pe [3,4] 0, pe [0,1,2,3,4,5] 1] [5,6] [_,_,_] [[], [501,502]] (ai (ka O Z Z (kw O Z Z)) (ai (ka O Z Z (kw O Z Z)) (ai (ka O Z Z (kw O Z Z)) (ka O Z Z (ka O Z Z (ai (ai (aO (b0 O [500,501,502,6] (bin := [ee (pP pre b post) (cz fl) frm ((aR w s.sum g).flag (!(bo (aG s.sum w.vars).1).2)) 1 2, bz ((aR w s.sum g).flag (!(bo (aG s.sum w.vars).1).2)).paths, bA ((aR w s.sum g).flag (!(bo (aG s.sum w.vars).1).2)).conds, hB w]) Z Z Z Z (mL (p := (pP pre b post)) (fl := (cz fl)) (frm := frm) (g := ((aR w s.sum g).flag (!(bo (aG s.sum w.vars).1).2))) (w := w) (t := (aG s.sum w.vars).1) h1 h2 hl) Z Z Z Z Z (B0 := 193000) Z Z Z Z Z Z)) Z) (ai (ai (bM O [500,501,502] [501,502] (bin := [ee (pP pre b post) (cz fl) frm (((aR w s.sum g).flag (!(bo (aG s.sum w.vars).1).2)).flag (w.fact (aG s.sum w.vars).1).long) 1 2, bz (((aR w s.sum g).flag (!(bo (aG s.sum w.vars).1).2)).flag (w.fact (aG s.sum w.vars).1).long).paths, bA (((aR w s.sum g).flag (!(bo (aG s.sum w.vars).1).2)).flag (w.fact (aG s.sum w.vars).1).long).conds]) Z Z Z Z (ih1) Z Z Z Z Z (B0 := 194000) Z Z Z Z Z Z Z) Z) trivial))))))) ?_)))
 refine jw [14,13,0,6,8] Z (bZ ?_)
 refine AWP.seq (jE O [_,_,_,_,_,_,_] [pn [] 0 1, pn [] 0 1, pn [1] 0 1, pn [] 0 0, pn [] 0 0, pe [3,4] 0, pe [0,1,2,3,4,5] 1] [5,6] [_,_,_] [[], [194005,194006]] (ai (ka O Z Z (kw O Z Z)) (ai (ka O Z Z (kw O Z Z)) (ai (ka O Z Z (kw O Z Z)) (ka O Z Z (ka O Z Z (ai (ai (aO (b0 O [500,194005,194006,6] (bin := [ee (pP pre b post) (cz fl) frm g3 1 2, bz g3.paths, bA g3.conds, hB w]) Z Z Z Z (mL (p := (pP pre b post)) (fl := (cz fl)) (frm := frm) (g := g3) (w := w) (t := (bo (aG s.sum w.vars).1).1) h1 h2 hl) Z Z Z Z Z (B0 := 200000) Z Z Z Z Z Z)) Z) (ai (ai (bM O [500,194005,194006] [194005,194006] (bin := [ee (pP pre b post) (cz fl) frm (g3.flag (w.fact (bo (aG s.sum w.vars).1).1).long) 1 2, bz (g3.flag (w.fact (bo (aG s.sum w.vars).1).1).long).paths, bA (g3.flag (w.fact (bo (aG s.sum w.vars).1).1).long).conds]) Z Z Z Z (ih2) Z Z Z Z Z (B0 := 201000) Z Z Z Z Z Z Z) Z) trivial))))))) ?_)
 refine jw [14,13,0,6,8] Z (bZ ?_)
 refine AWP.ret ?_
 refine ⟨.inl Z, _, (af 201005 505 Z Z).trans (af 201006 506 Z Z), _, Z, Z, Z⟩
 exact absurd (of_decide_eq_false hc142) (by omega)
 exact absurd (of_decide_eq_false hc142) (by omega)
theorem nq {pre post : List Tm} {b : List Sm} {fl : List Fl} {frm : Int} {g : Gs} {w : Pw} {i k : Nat} {nx ot : Int} {s : Sm} (hb : g.bad = false) (hi : i < fl.length) (he : fl.getD i default = ⟨(k : Nat), nx, ot⟩) (hk : k < b.length) (hbs : b.getD k default = s) (hkk : s.kind = 8) (hw : CtxOk w.vars) (hv : w.vars.length = 4) (hs : s.sum.ok = true ∧ s.sum.xs.length ≤ 4) (hl : w.facts.length ≤ 1000) {g3 g4 : Gs} (ih1 : MQ h1 h2 54 [.c (.pt 0 0 0), eI nx, hA (w.fact (aG s.sum w.vars).1), eB false] (gH (pP pre b post) (cz fl) frm (((aR w s.sum g).flag (!(bo (aG s.sum w.vars).1).2)).flag (w.fact (aG s.sum w.vars).1).long)) (aZ (.tup []) (fm (pP pre b post) (cz fl) frm g3))) (ih2 : MQ h1 h2 54 [.c (.pt 0 0 0), eI ot, hA (w.fact (bo (aG s.sum w.vars).1).1), eB false] (gH (pP pre b post) (cz fl) frm (g3.flag (w.fact (bo (aG s.sum w.vars).1).1).long)) (aZ (.tup []) (fm (pP pre b post) (cz fl) frm g4))) : MQ h1 h2 54 [.c (.pt 0 0 0), eI (i : Nat), hA w, eB true] (gH (pP pre b post) (cz fl) frm g) (aZ (.tup []) (fm (pP pre b post) (cz fl) frm g4)) := by
 refine aF 500 Z (MC.keep [500,505,506] (bs := [ee (pP pre b post) (cz fl) frm g4 505 506, bz g4.paths, bA g4.conds]) Z Z (jH 206 [500,501,502] h1 h2 Tryz.func54 Z Z Z Z fun O hF => ?_))
 refine bZ ?_
 refine ag (jx O Z Z Z Z Z Z Z Z (aq ?_))
 refine jn (AWP.seq (ag (j4 O Z Z Z Z (jf [19,6,0,1,2,3] Z (jn (AWP.cond O Z Z (fun hc19 => ?_) (fun hc19 => ?_)))))))
 exact absurd hc19 (by rw [hb]; decide)
 refine AWP.skip (AWP.seq (ag (j2 O Z Z (jf [21,6,0,1,2,3] Z (jn (AWP.cond O Z Z (fun hc21 => ?_) (fun hc21 => ?_)))))))
 exact absurd (of_decide_eq_true hc21) (by omega)
 refine AWP.skip (ag (j4 O Z Z Z Z (js O Z (aa ((aB O Z Z Z Z Z Z Z Z (cq hi)).cast (v' := ptr (Fl.cells ⟨(k : Nat), nx, ot⟩)) (by rw [he])) Z Z Z (js O Z (jf [37,6,0,1,2,3] Z (jl O Z Z Z Z Z Z (aq ?_))))))))
 refine jo O Z Z Z Z Z Z Z Z Z Z Z Z (aq ?_)
 refine jn (AWP.seq (f6 O [_,_,_,_,_,_,_,_,_,_,_] [pn [] 0 0, pn [0] 0 0, pn [0,1] 0 0, pn [0,1,2] 0 0, pn [0,1,2,3] 0 0, pn [0,1,2,3,4] 0 0, pn [0,1,2,3,4,5] 0 0, pn [] 0 0, pn [7] 0 0, pn [0,1,2,3,4,5,6,7,8] 0 0, pn [0,1,2,3,4,5,6,7,8,9] 0 0] [] [_] (kc O Z (kc O Z (kc O Z (kc O Z (kc O Z (kc O Z (kc O Z (kc O Z (kc O Z (ai ((aB O Z Z Z Z Z Z Z Z (cq hk)).cast (v' := ptr (Sm.cells s)) (by rw [hbs])) (kc O Z trivial))))))))))) ?_))
 refine jw [9,8,37,6,0,1,2,3] Z (bZ ?_)
 refine AWP.seq (ag (j4 O Z Z Z Z (jf [51,9,8,37,6,0,1,2,3] Z (jn (AWP.block (ag (j2 O Z Z (jn (AWP.cond O Z Z (fun hc52 => ?_) (fun hc52 => ?_))))))))))
 exact absurd (of_decide_eq_true hc52) (by omega)
 refine ag (j2 O Z Z (jf [71,53,51,9,8,37,6,0,1,2,3] Z (jn (AWP.cond O Z Z (fun hc71 => ?_) (fun hc71 => ?_)))))
 exact absurd (of_decide_eq_true hc71) (by omega)
 refine ag (j2 O Z Z (jf [110,53,51,9,8,37,6,0,1,2,3] Z (jn (AWP.cond O Z Z (fun hc110 => ?_) (fun hc110 => ?_)))))
 exact absurd (of_decide_eq_true hc110) (by omega)
 refine ag (j2 O Z Z (jf [117,53,51,9,8,37,6,0,1,2,3] Z (jn (AWP.cond O Z Z (fun hc117 => ?_) (fun hc117 => ?_)))))
 exact absurd (of_decide_eq_true hc117) (by omega)
 refine ag (j2 O Z Z (jf [129,53,51,9,8,37,6,0,1,2,3] Z (jn (AWP.cond O Z Z (fun hc129 => ?_) (fun hc129 => ?_)))))
 exact absurd (of_decide_eq_true hc129) (by omega)
 refine AWP.seq (ag (j2 O Z Z (jf [142,53,51,9,8,37,6,0,1,2,3] Z (jn (AWP.cond O Z Z (fun hc142 => ?_) (fun hc142 => ?_))))))
 exact absurd (of_decide_eq_true hc142) (by omega)
 refine AWP.region (j2 O Z Z (jn (AWP.cond O Z Z (fun hc142 => ?_) (fun hc142 => ?_))))
 refine AWP.seq (ag (j4 O Z Z Z Z (j2 O Z Z (jf [150,144,53,51,9,8,37,6,0,1,2,3] Z (au 2 Z Z Z (fun hx => ac hx Z Z Z (V O Z) Z Z ( ac hx Z Z Z (V O Z) Z Z ( AN.nil))) Z Z ?_)))))
 first | refine aa (ak O Z Z Z Z Z) Z Z Z ?_ | refine aa (aj O Z Z Z Z Z) Z Z Z ?_ | refine aa (Val.pickB O Z Z Z Z Z) Z Z Z ?_
 refine jf [153,144,53,51,9,8,37,6,0,1,2] Z (jn (AWP.cond O Z Z (fun hc153 => ?_) (fun hc153 => ?_)))
 exact absurd hc153 (by rw [hkk]; decide)
 refine AWP.skip (ag (j4 O Z Z Z Z (jf [170,167,144,53,51,9,8,37,6,0,1,2] Z (ap O [500,501,502,6] (bin := [ee (pP pre b post) (cz fl) frm g 1 2, bz g.paths, bA g.conds, hB w]) Z Z Z Z (lr (p := (pP pre b post)) (fl := (cz fl)) (frm := frm) (g := g) (w := w) (t := s.sum) (ds := Sm.cells s) (j := 3) h1 h2 Z hw hs.1 (by omega)) Z Z Z Z Z Z (B0 := 172000) Z Z (aq ?_)))))
 refine jf [171,144,53,51,9,8,37,6,0,1,2] Z (jl O Z Z Z Z Z Z (aq ?_))
 refine jo O Z Z Z Z Z Z Z Z Z Z Z Z (aq ?_)
 refine aP (aA (Ent.freeze 13 (e' := [(13, _), (0, _), (6, _), (8, _)]) Z (.cons Z (.c (.box (cs := Tm.cells (aG s.sum w.vars).1) Z (aw Z))) (.cons Z (.keep Z) (.cons Z (.keep Z) (.cons Z (.keep Z) .nil)))) (.cons Z (.box (.cons (.keep Z) (.cons (.keep Z) (.cons (.keep Z) .nil)))) (.skip (.cons Z (.box (.cons (.keep Z) (.cons (.keep Z) (.cons (.keep Z) (.cons (.keep Z) (.cons (.keep Z) (.cons (.keep Z) .nil))))))) (.cons Z .row (.cons Z .row (.cons Z (.box (.cons (.keep Z) (.cons (.keep Z) (.cons (.keep Z) (.cons (.keep Z) .nil))))) .nil))))))) ?_)
 refine ao O Z Z Z Z (uT (t := (aG s.sum w.vars).1) h1 h2 (Small.of dq)) (ab Z) Z Z Z Z (B0 := 174000) Z Z (j3 O Z Z Z (jf [175,174,13,0,6,8] Z (jl O Z Z Z Z Z Z (aq ?_))))
 refine jo O Z Z Z Z Z Z Z Z Z Z Z Z (aq ?_)
 refine js O Z (jf [15,14,13,0,6,8] Z (aP (j4 O Z Z Z Z (j2 O Z Z (jf [181,176,15,14,13,0,6,8] Z (au 2 Z Z Z (fun hx => ac hx Z Z Z (V O Z) Z Z ( ac hx Z Z Z (V O Z) Z Z ( AN.nil))) Z Z (aa ((aj O Z Z Z Z Z).cast (v' := eB ((aR w s.sum g).bad || !(bo (aG s.sum w.vars).1).2)) (congrArg eB uf)) Z Z Z (j2 O Z Z (jf [186,184,14,13,0,6,8] Z (jo O Z Z Z Z Z Z Z Z Z Z Z Z (aq ?_)))))))))))
 refine jf [14,13,0,6,8] Z (jn (AWP.seq (jE O [_,_,_,_,_,_,_] [pn [] 0 1, pn [] 0 1, pn [1] 0 1, pn [] 0 0, pn [] 0 0, pe [3,4] 0, pe [0,1,2,3,4,5] 1] [5,6] [_,_,_] [[], [501,502]] (ai (ka O Z Z (kw O Z Z)) (ai (ka O Z Z (kw O Z Z)) (ai (ka O Z Z (kw O Z Z)) (ka O Z Z (ka O Z Z (ai (ai (aO (b0 O [500,501,502,6] (bin := [ee (pP pre b post) (cz fl) frm ((aR w s.sum g).flag (!(bo (aG s.sum w.vars).1).2)) 1 2, bz ((aR w s.sum g).flag (!(bo (aG s.sum w.vars).1).2)).paths, bA ((aR w s.sum g).flag (!(bo (aG s.sum w.vars).1).2)).conds, hB w]) Z Z Z Z (mL (p := (pP pre b post)) (fl := (cz fl)) (frm := frm) (g := ((aR w s.sum g).flag (!(bo (aG s.sum w.vars).1).2))) (w := w) (t := (aG s.sum w.vars).1) h1 h2 hl) Z Z Z Z Z (B0 := 193000) Z Z Z Z Z Z)) Z) (ai (ai (bM O [500,501,502] [501,502] (bin := [ee (pP pre b post) (cz fl) frm (((aR w s.sum g).flag (!(bo (aG s.sum w.vars).1).2)).flag (w.fact (aG s.sum w.vars).1).long) 1 2, bz (((aR w s.sum g).flag (!(bo (aG s.sum w.vars).1).2)).flag (w.fact (aG s.sum w.vars).1).long).paths, bA (((aR w s.sum g).flag (!(bo (aG s.sum w.vars).1).2)).flag (w.fact (aG s.sum w.vars).1).long).conds]) Z Z Z Z (ih1) Z Z Z Z Z (B0 := 194000) Z Z Z Z Z Z Z) Z) trivial))))))) ?_)))
 refine jw [14,13,0,6,8] Z (bZ ?_)
 refine AWP.seq (jE O [_,_,_,_,_,_,_] [pn [] 0 1, pn [] 0 1, pn [1] 0 1, pn [] 0 0, pn [] 0 0, pe [3,4] 0, pe [0,1,2,3,4,5] 1] [5,6] [_,_,_] [[], [194005,194006]] (ai (ka O Z Z (kw O Z Z)) (ai (ka O Z Z (kw O Z Z)) (ai (ka O Z Z (kw O Z Z)) (ka O Z Z (ka O Z Z (ai (ai (aO (b0 O [500,194005,194006,6] (bin := [ee (pP pre b post) (cz fl) frm g3 1 2, bz g3.paths, bA g3.conds, hB w]) Z Z Z Z (mL (p := (pP pre b post)) (fl := (cz fl)) (frm := frm) (g := g3) (w := w) (t := (bo (aG s.sum w.vars).1).1) h1 h2 hl) Z Z Z Z Z (B0 := 200000) Z Z Z Z Z Z)) Z) (ai (ai (bM O [500,194005,194006] [194005,194006] (bin := [ee (pP pre b post) (cz fl) frm (g3.flag (w.fact (bo (aG s.sum w.vars).1).1).long) 1 2, bz (g3.flag (w.fact (bo (aG s.sum w.vars).1).1).long).paths, bA (g3.flag (w.fact (bo (aG s.sum w.vars).1).1).long).conds]) Z Z Z Z (ih2) Z Z Z Z Z (B0 := 201000) Z Z Z Z Z Z Z) Z) trivial))))))) ?_)
 refine jw [14,13,0,6,8] Z (bZ ?_)
 refine AWP.ret ?_
 refine ⟨.inl Z, _, (af 201005 505 Z Z).trans (af 201006 506 Z Z), _, Z, Z, Z⟩
 exact absurd (of_decide_eq_false hc142) (by omega)
theorem om {pre post : List Tm} {b : List Sm} {fl : List Fl} {frm : Int} {g : Gs} {w : Pw} {first : Bool} {i k : Nat} {nx ot : Int} {s : Sm} (hb : g.bad = false) (hi : i < fl.length) (he : fl.getD i default = ⟨(k : Nat), nx, ot⟩) (hk : k < b.length) (hbs : b.getD k default = s) (hv : w.vars.length = 4) (hw : CtxOk w.vars) (hsv : s.kind = 2 ∨ s.kind = 3 → 0 ≤ s.var ∧ s.var ≤ 3) (hs : s.sum.ok = true ∧ s.sum.xs.length ≤ 4) (hx : s.index.ok = true ∧ s.index.xs.length ≤ 4) (hl : w.facts.length ≤ 1000) (hle : w.ev.length ≤ 1000) (hsy : w.sym ≤ 10) (hg : g.conds.length + 2 ≤ L) (hkl : s.kind ≠ 7 ∧ s.kind ≠ 8) (hs3 : s.kind = 3 → w.sym < 10) {g4 : Gs} (ih : MQ h1 h2 54 [.c (.pt 0 0 0), eI nx, hA (bC aW s w g).1, eB false] (gH (pP pre b post) (cz fl) frm (bC aW s w g).2) (aZ (.tup []) (fm (pP pre b post) (cz fl) frm g4))) : MQ h1 h2 54 [.c (.pt 0 0 0), eI (i : Nat), hA w, eB first] (gH (pP pre b post) (cz fl) frm g) (aZ (.tup []) (fm (pP pre b post) (cz fl) frm g4)) := by
 refine aF 500 Z (MC.keep [500,505,506] (bs := [ee (pP pre b post) (cz fl) frm g4 505 506, bz g4.paths, bA g4.conds]) Z Z (jH 206 [500,501,502] h1 h2 Tryz.func54 Z Z Z Z fun O hF => ?_))
 refine bZ ?_
 refine ag (jx O Z Z Z Z Z Z Z Z (aq ?_))
 refine jn (AWP.seq (ag (j4 O Z Z Z Z (jf [19,6,0,1,2,3] Z (jn (AWP.cond O Z Z (fun hc19 => ?_) (fun hc19 => ?_)))))))
 exact absurd hc19 (by rw [hb]; decide)
 refine AWP.skip (AWP.seq (ag (j2 O Z Z (jf [21,6,0,1,2,3] Z (jn (AWP.cond O Z Z (fun hc21 => ?_) (fun hc21 => ?_)))))))
 exact absurd (of_decide_eq_true hc21) (by omega)
 refine AWP.skip (ag (j4 O Z Z Z Z (js O Z (aa ((aB O Z Z Z Z Z Z Z Z (cq hi)).cast (v' := ptr (Fl.cells ⟨(k : Nat), nx, ot⟩)) (by rw [he])) Z Z Z (js O Z (jf [37,6,0,1,2,3] Z (jl O Z Z Z Z Z Z (aq ?_))))))))
 refine jo O Z Z Z Z Z Z Z Z Z Z Z Z (aq ?_)
 refine jn (AWP.seq (f6 O [_,_,_,_,_,_,_,_,_,_,_] [pn [] 0 0, pn [0] 0 0, pn [0,1] 0 0, pn [0,1,2] 0 0, pn [0,1,2,3] 0 0, pn [0,1,2,3,4] 0 0, pn [0,1,2,3,4,5] 0 0, pn [] 0 0, pn [7] 0 0, pn [0,1,2,3,4,5,6,7,8] 0 0, pn [0,1,2,3,4,5,6,7,8,9] 0 0] [] [_] (kc O Z (kc O Z (kc O Z (kc O Z (kc O Z (kc O Z (kc O Z (kc O Z (kc O Z (ai ((aB O Z Z Z Z Z Z Z Z (cq hk)).cast (v' := ptr (Sm.cells s)) (by rw [hbs])) (kc O Z trivial))))))))))) ?_))
 refine jw [9,8,37,6,0,1,2,3] Z (bZ ?_)
 refine AWP.seq (ag (j4 O Z Z Z Z (jf [51,9,8,37,6,0,1,2,3] Z (jn ?_))))
 obtain ⟨d, ed⟩ : ∃ d, d = bC aW s w g := ⟨_, rfl⟩
 rw [← ed] at ih
 refine pk ⟨[(0, .c (.pt 500 0 0)), (6, .c (.pt 6 0 0)), (8, .c (.pt 8 0 0))], [(6, hB d.1), (8, .box [.d (.int .i64 (k : Nat)), .d (.int .i64 nx), .d (.int .i64 ot)]), (500, ee (pP pre b post) (cz fl) frm d.2 901 902), (901, bz d.2.paths), (902, bA d.2.conds)]⟩ ?_ ?_
 refine AWP.block (ag (j2 O Z Z (jn (AWP.cond O Z Z (fun hc52 => ?_) (fun hc52 => ?_)))))
 refine ag (j4 O Z Z Z Z (jf [57,54,53,51,9,8,37,6,0,1,2,3] Z ?_))
 have hsv2 := hsv (.inl (of_decide_eq_true hc52))
 refine ap O [500,501,502,6] (bin := [ee (pP pre b post) (cz fl) frm g 1 2, bz g.paths, bA g.conds, hB w]) Z Z Z Z (lr (p := (pP pre b post)) (fl := (cz fl)) (frm := frm) (g := g) (w := w) (t := s.sum) (ds := Sm.cells s) (j := 3) h1 h2 Z hw hs.1 (by omega)) Z Z Z Z Z Z (B0 := 59000) Z Z (aq ?_)
 refine jf [58,53,51,9,8,37,6,0,1,2,3] Z (jl O Z Z Z Z Z Z (aq ?_))
 refine jo O Z Z Z Z Z Z Z Z Z Z Z Z (aq ?_)
 refine aP (j2 O Z Z (jf [60,10,58,53,51,9,8,37,6,0,1,2,3] Z (iA O (B0 := 62000) Z Z Z Z (qn (ts := w.vars) h1 h2) (ab Z) Z Z Z Z Z (aq ?_))))
 refine js O Z (jf [62,61,10,58,53,51,9,8,37,6,0,1,2,3] Z (jo O Z Z Z Z Z Z Z Z Z Z Z Z (aq ?_)))
 refine jf [10,58,53,51,9,8,37,6,0,1,2,3] Z (jn (f6 O [_,_,_,_,_,_,_,_,_] [pn [] 0 0, pn [0] 0 0, pn [] 0 0, pn [2] 0 0, pn [2,3] 0 0, pn [2,3,4] 0 0, pn [] 0 0, pn [0,1,2,3,4,5,6] 0 0, pe [0,1,2,3,4,5,6,7] 0] [8] [_,_] (kc O Z (kc O Z (kc O Z (kc O Z (kc O Z (kc O Z (kc O Z (ai (cL O Z Z (by first | omega | (simp at *; omega))) (ai (dc (ex := Tm.cells (w.vars.getD s.var.toNat default)) (xs' := (w.vars.set s.var.toNat (aG s.sum w.vars).1).map Tm.cells) O Z Z Z Z Z Z Z Z Z Z Z Z Z Z Z (uq (by omega) (by omega)) (ui (v := (aG s.sum w.vars).1) (by omega) Z) Z) trivial))))))))) ?_))
 rw [ed, bC, if_pos (of_decide_eq_true hc52)]
 exact ⟨Z, ((((aT [6,8,500,501,502,62000] (e' := [(0, _), (6, _), (8, _)]) Z Z ⟨Z, Z, Z, trivial⟩ Z).trans (Ent.freeze 62000 (e' := [(0, _), (6, _), (8, _)]) Z (.cons Z (.keep Z) (.cons Z (.keep Z) (.cons Z (.keep Z) .nil))) (.cons Z (.box (.cons (.row Z (by simp [hv])) (.cons (.keep Z) (.cons (.keep Z) (.cons (.keep Z) .nil))))) (.cons Z (.box (.cons (.keep Z) (.cons (.keep Z) (.cons (.keep Z) .nil)))) (.cons Z (.box (.cons (.keep Z) (.cons (.keep Z) (.cons (.keep Z) (.cons (.keep Z) (.cons (.keep Z) (.cons (.keep Z) .nil))))))) (.cons Z .row (.cons Z .row (.skip .nil)))))))).trans (af 501 901 Z Z)).trans (af 502 902 Z Z)).trans (Ent.to ⟨Z, Z, Z, trivial⟩ Z)⟩
 refine ag (j2 O Z Z (jf [71,53,51,9,8,37,6,0,1,2,3] Z (jn (AWP.cond O Z Z (fun hc71 => ?_) (fun hc71 => ?_)))))
 refine ag (j4 O Z Z Z Z (jf [76,73,53,51,9,8,37,6,0,1,2,3] Z ?_))
 have hsv2 := hsv (.inr (of_decide_eq_true hc71))
 have hsy3 := hs3 (of_decide_eq_true hc71)
 refine ap O [500,501,502,6] (bin := [ee (pP pre b post) (cz fl) frm g 1 2, bz g.paths, bA g.conds, hB w]) Z Z Z Z (qu (p := (pP pre b post)) (fl := (cz fl)) (frm := frm) (g := g) (w := w) (t := s.index) (ds := Sm.cells s) (j := 5) h1 h2 Z hw hx.1 (by omega) hg) Z Z Z Z Z Z (B0 := 78000) Z Z (aq ?_)
 refine jf [53,51,9,8,37,6,0,1,2,3] Z (jn (AWP.seq (ag (j3 O Z Z Z (jf [80,53,51,9,8,37,6,0,1,2,3] Z (jn (AWP.cond O Z Z (fun hc80 => ?_) (fun hc80 => ?_))))))))
 exact absurd (of_decide_eq_true hc80) (by have := hs3 (of_decide_eq_true hc71); omega)
 refine AWP.skip (ag (j2 O Z Z ?_))
 first | refine ji O Z ?_ | refine aY O Z Z Z Z Z ?_
 refine jf [86,53,51,9,8,37,6,0,1,2,3] Z (AOps.heap (er O Z Z Z Z Z Z Z Z Z (by first | omega | (simp at *; omega)) (by first | omega | (simp at *; omega)) (by first | omega | (simp at *; omega)) (by first | omega | (dsimp only; omega) | (simp only [List.length_map, beq_iff_eq, decide_eq_true_eq, decide_eq_false_iff_not, Bool.not_eq_true', Bool.not_eq_false', Bool.not_true, Bool.not_false, Int.not_lt, Int.not_le] at *; omega)) (by first | omega | (simp at *; omega)) Z Z Z) Z (aq ?_))
 refine js O Z (jf [88,53,51,9,8,37,6,0,1,2,3] Z (jl O Z Z Z Z Z Z (aq ?_)))
 refine jo O Z Z Z Z Z Z Z Z Z Z Z Z (aq ?_)
 refine aP (j4 O Z Z Z Z ?_)
 first | refine oE O Z Z Z Z Z Z Z Z Z Z Z ?_ | refine dR O Z Z Z Z Z Z Z Z Z Z Z ?_ | refine aY O Z Z Z Z Z ?_
 refine jf [93,11,88,53,51,9,8,37,6,0,1,2,3] Z (AOps.heap (bq (ex := [.int .i64 0]) (xs' := ((List.replicate w.sym 0 ++ [1] : List Int)).map (fun n => [D.int .i64 n])) O Z Z Z Z Z Z Z Z Z Z Z Z Z Z ke kd) Z (aq ?_))
 refine aP (aA (Ent.freeze 87 (e' := [(0, _), (6, _), (8, _), (9, _), (11, _)]) Z (.cons Z (.keep Z) (.cons Z (.keep Z) (.cons Z (.keep Z) (.cons Z (.keep Z) (.cons Z (.keep Z) .nil))))) (.cons Z (.box (.cons (.keep Z) (.cons (.keep Z) (.cons (.keep Z) .nil)))) (.cons Z (.box (.cons (.keep Z) (.cons (.row Z (by simp)) .nil))) (.skip (.cons Z (.box (.cons (.keep Z) (.cons (.keep Z) (.cons (.keep Z) (.cons (.keep Z) (.cons (.keep Z) (.cons (.keep Z) .nil))))))) (.cons Z .row (.cons Z (.box (.cons (.keep Z) (.cons (.keep Z) (.cons (.keep Z) (.cons (.keep Z) .nil))))) (.cons Z .row .nil)))))))) ?_)
 refine j2 O Z Z (jf [95,0,6,8,9,11] Z (iA O (B0 := 97000) Z Z Z Z (qn (ts := w.vars) h1 h2) (ab Z) Z Z Z Z Z (aq ?_)))
 refine js O Z (jf [97,96,0,6,8,9,11] Z (jo O Z Z Z Z Z Z Z Z Z Z Z Z (aq ?_)))
 refine jf [0,6,8,9,11] Z (jn (AWP.seq (f6 O [_,_,_,_,_,_,_,_,_] [pn [] 0 0, pn [0] 0 0, pn [] 0 0, pn [2] 0 0, pn [2,3] 0 0, pn [2,3,4] 0 0, pn [] 0 0, pn [0,1,2,3,4,5,6] 0 0, pe [0,1,2,3,4,5,6,7] 0] [8] [_,_] (kc O Z (kc O Z (kc O Z (kc O Z (kc O Z (kc O Z (kc O Z (ai (cL O Z Z (by first | omega | (simp at *; omega))) (ai (dc (ex := Tm.cells (w.vars.getD s.var.toNat default)) (xs' := (w.vars.set s.var.toNat (jb w.sym)).map Tm.cells) O Z Z Z Z Z Z Z Z Z Z Z Z Z Z Z (uq (by omega) (by omega)) (ui (v := (jb w.sym)) (by omega) Z) Z) trivial))))))))) ?_)))
 refine jw [0,6,8,9,11] Z (bZ ?_)
 refine AWP.region (j2 O Z Z ?_)
 first | refine ji O Z ?_ | refine aY O Z Z Z Z Z ?_
 refine js O Z (jf [109,108,0,6,8,9,11] Z (jo O Z Z Z Z Z Z Z Z Z Z Z Z (aq ?_)))
 refine jf [0,6,8,9,11] Z (jn ?_)
 rw [ed, bC, if_neg (of_decide_eq_false hc52), if_pos (of_decide_eq_true hc71), if_neg (by omega)]
 exact ⟨Z, ((((aT [6,8,500,501,78006,97000] (e' := [(0, _), (6, _), (8, _)]) Z Z ⟨Z, Z, Z, trivial⟩ Z).trans (Ent.freeze 97000 (e' := [(0, _), (6, _), (8, _)]) Z (.cons Z (.keep Z) (.cons Z (.keep Z) (.cons Z (.keep Z) .nil))) (.cons Z (.box (.cons (.row Z (by simp [hv])) (.cons (.keep Z) (.cons (.keep Z) (.cons (.keep Z) .nil))))) (.cons Z (.box (.cons (.keep Z) (.cons (.keep Z) (.cons (.keep Z) .nil)))) (.cons Z (.box (.cons (.keep Z) (.cons (.keep Z) (.cons (.keep Z) (.cons (.keep Z) (.cons (.keep Z) (.cons (.keep Z) .nil))))))) (.cons Z .row (.cons Z .row (.skip .nil)))))))).trans (af 501 901 Z Z)).trans (af 78006 902 Z Z)).trans (Ent.to ⟨Z, Z, Z, trivial⟩ Z)⟩
 refine ag (j2 O Z Z (jf [110,53,51,9,8,37,6,0,1,2,3] Z (jn (AWP.cond O Z Z (fun hc110 => ?_) (fun hc110 => ?_)))))
 refine AWP.region (j4 O Z Z Z Z (jf [115,112,53,51,9,8,37,6,0,1,2,3] Z (ap O [500,501,502,6] (bin := [ee (pP pre b post) (cz fl) frm g 1 2, bz g.paths, bA g.conds, hB w]) Z Z Z Z (qu (p := (pP pre b post)) (fl := (cz fl)) (frm := frm) (g := g) (w := w) (t := s.index) (ds := Sm.cells s) (j := 5) h1 h2 Z hw hx.1 (by omega) hg) Z Z Z Z Z Z (B0 := 117000) Z Z (aq ?_))))
 refine jf [53,51,9,8,37,6,0,1,2,3] Z (jn ?_)
 rw [ed, bC, if_neg (of_decide_eq_false hc52), if_neg (of_decide_eq_false hc71), if_pos (of_decide_eq_true hc110)]
 exact ⟨Z, (((aT [6,8,500,501,117006] (e' := [(0, _), (6, _), (8, _)]) Z Z ⟨Z, Z, Z, trivial⟩ Z).trans (af 501 901 Z Z)).trans (af 117006 902 Z Z)).trans (Ent.to ⟨Z, Z, Z, trivial⟩ Z)⟩
 refine ag (j2 O Z Z (jf [117,53,51,9,8,37,6,0,1,2,3] Z (jn (AWP.cond O Z Z (fun hc117 => ?_) (fun hc117 => ?_)))))
 refine jw [53,51,9,8,37,6,0,1,2,3] Z (oG O [_,_,_,_,_,_,_,_,_,_,_] [pn [] 0 0, pn [0] 0 0, pe [0,1] 0, pn [] 0 1, pn [3] 0 1, pn [3,4] 0 1, pn [3,4,5] 0 1, pn [3,4,5,6] 0 1, pe [0,1,2,3,4,5,6,7] 1, pn [0,1,2,3,4,5,6,7,8] 2 2, pe [0,1,2,3,4,5,6,7,8,9] 2] [2,8,10] 7 126 (.row false 1 [[.int .i64 s.event]]) [_,_] [_,_] [[], [122000], []] (kf O Z Z Z (kf O Z Z Z (ai (ai (aJ (aO (cV O (B0 := 122000) Z Z Z Z (sY (xs := w.ev) h1 h2) (ab Z) Z Z Z Z Z)) (aO (cV O (B0 := 122000) Z Z Z Z (sY (xs := w.ev) h1 h2) (ab Z) Z Z Z Z Z))) Z) (ai (kf O Z Z Z (kg O Z Z Z)) (ai (kf O Z Z Z (kg O Z Z Z)) (ai (kf O Z Z Z (kg O Z Z Z)) (ai (kf O Z Z Z (kg O Z Z Z)) (ai (ai (ai (aO (dn O Z Z Z Z Z Z Z Z Z Z Z Z Z Z)) Z) (ai (aO (dn O Z Z Z Z Z Z Z Z Z Z Z Z Z Z)) Z)) (ai (ai (aJ trivial (cF (own := true) (xs := w.ev.map (fun n => [D.int .i64 n])) (ys := [[.int .i64 s.event]]) (zs := (w.ev ++ [s.event]).map (fun n => [D.int .i64 n])) (n := (w.ev ++ [s.event]).length) O Z Z Z Z Z Z Z Z Z Z Z Z Z Z Z Z (.row Z (List.length_map _).symm) (.whole Z Z (.inl (by simp [Scal, D.scalar]))) (by simp) Z (by simp; omega) (by simp; omega) (by simp) (by simp) Z)) Z) (ai (ai (aJ trivial (V O Z)) Z) (ai (ai (aJ trivial (aO (aC O Z Z Z Z Z Z Z Z Z Z Z Z Z))) Z) trivial))))))))))) ?_)
 rw [ed, bC, if_neg (of_decide_eq_false hc52), if_neg (of_decide_eq_false hc71), if_neg (of_decide_eq_false hc110), if_pos (of_decide_eq_true hc117)]
 exact ⟨Z, ((((aT [6,8,500,501,502,127] (e' := [(0, _), (6, _), (8, _)]) Z Z ⟨Z, Z, Z, trivial⟩ Z).trans (Ent.freeze 127 (e' := [(0, _), (6, _), (8, _)]) Z (.cons Z (.keep Z) (.cons Z (.keep Z) (.cons Z (.keep Z) .nil))) (.cons Z (.box (.cons (.keep Z) (.cons (.keep Z) (.cons (.keep Z) (.cons (.row Z (by simp)) .nil))))) (.cons Z (.box (.cons (.keep Z) (.cons (.keep Z) (.cons (.keep Z) .nil)))) (.cons Z (.box (.cons (.keep Z) (.cons (.keep Z) (.cons (.keep Z) (.cons (.keep Z) (.cons (.keep Z) (.cons (.keep Z) .nil))))))) (.cons Z .row (.cons Z .row (.skip .nil)))))))).trans (af 501 901 Z Z)).trans (af 502 902 Z Z)).trans (Ent.to ⟨Z, Z, Z, trivial⟩ Z)⟩
 refine ag (j2 O Z Z (jf [129,53,51,9,8,37,6,0,1,2,3] Z (jn (AWP.cond O Z Z (fun hc129 => ?_) (fun hc129 => ?_)))))
 refine ag (j4 O Z Z Z Z (jf [134,131,53,51,9,8,37,6,0,1,2,3] Z (ap O [500,501,502,6] (bin := [ee (pP pre b post) (cz fl) frm g 1 2, bz g.paths, bA g.conds, hB w]) Z Z Z Z (lr (p := (pP pre b post)) (fl := (cz fl)) (frm := frm) (g := g) (w := w) (t := s.sum) (ds := Sm.cells s) (j := 3) h1 h2 Z hw hs.1 (by omega)) Z Z Z Z Z Z (B0 := 136000) Z Z (aq ?_))))
 refine jf [135,53,51,9,8,37,6,0,1,2,3] Z (jl O Z Z Z Z Z Z (aq ?_))
 refine jo O Z Z Z Z Z Z Z Z Z Z Z Z (aq ?_)
 refine aP (j2 O Z Z (ap O [500,501,502,6] (bin := [ee (pP pre b post) (cz fl) frm (aR w s.sum g) 1 2, bz (aR w s.sum g).paths, bA (aR w s.sum g).conds, hB w]) Z Z Z Z (oU (p := (pP pre b post)) (fl := (cz fl)) (frm := frm) (g := (aR w s.sum g)) (w := w) (t := (aG s.sum w.vars).1) h1 h2 (by simp only [aR, Gs.flag, Gs.goal, List.length_append, List.length_singleton]; omega)) Z Z Z Z Z Z (B0 := 139000) Z Z (aq ?_)))
 refine jf [12,135,53,51,9,8,37,6,0,1,2,3] Z (jn (AWP.region (j2 O Z Z (ap O [500,501,139006,6] (bin := [ee (pP pre b post) (cz fl) frm ((aR w s.sum g).goal w (aG s.sum w.vars).1) 1 2, bz ((aR w s.sum g).goal w (aG s.sum w.vars).1).paths, bA ((aR w s.sum g).goal w (aG s.sum w.vars).1).conds, hB w]) Z Z Z Z (mL (p := (pP pre b post)) (fl := (cz fl)) (frm := frm) (g := ((aR w s.sum g).goal w (aG s.sum w.vars).1)) (w := w) (t := (aG s.sum w.vars).1) h1 h2 hl) Z Z Z Z Z Z (B0 := 142000) Z Z (aq ?_)))))
 refine jf [141,12,135,53,51,9,8,37,6,0,1,2,3] Z (jo O Z Z Z Z Z Z Z Z Z Z Z Z (aq ?_))
 refine jn ?_
 rw [ed, bC, if_neg (of_decide_eq_false hc52), if_neg (of_decide_eq_false hc71), if_neg (of_decide_eq_false hc110), if_neg (of_decide_eq_false hc117), if_pos (of_decide_eq_true hc129)]
 exact ⟨Z, (((aT [6,8,500,501,139006] (e' := [(0, _), (6, _), (8, _)]) Z Z ⟨Z, Z, Z, trivial⟩ Z).trans (af 501 901 Z Z)).trans (af 139006 902 Z Z)).trans (Ent.to ⟨Z, Z, Z, trivial⟩ Z)⟩
 refine AWP.seq (ag (j2 O Z Z (jf [142,53,51,9,8,37,6,0,1,2,3] Z (jn (AWP.cond O Z Z (fun hc142 => ?_) (fun hc142 => ?_))))))
 exact absurd (of_decide_eq_true hc142) (by omega)
 refine AWP.region (j2 O Z Z (jn (AWP.cond O Z Z (fun hc142 => ?_) (fun hc142 => ?_))))
 exact absurd (of_decide_eq_true hc142) (by omega)
 refine AWP.skip ?_
 rw [ed, bC, if_neg (of_decide_eq_false hc52), if_neg (of_decide_eq_false hc71), if_neg (of_decide_eq_false hc110), if_neg (of_decide_eq_false hc117), if_neg (of_decide_eq_false hc129)]
 exact ⟨Z, (((aT [6,8,500,501,502] (e' := [(0, _), (6, _), (8, _)]) Z Z ⟨Z, Z, Z, trivial⟩ Z).trans (af 501 901 Z Z)).trans (af 502 902 Z Z)).trans (Ent.to ⟨Z, Z, Z, trivial⟩ Z)⟩
 refine AWP.region (j4 O Z Z Z Z (jf [204,203,201,0,6,8] Z (ap O [500,901,902] (bin := [ee (pP pre b post) (cz fl) frm d.2 1 2, bz d.2.paths, bA d.2.conds]) Z Z Z Z (ih) Z Z Z Z Z Z (B0 := 206000) Z Z (aq ?_))))
 refine jf [0,6,8] Z (jn ?_)
 show _ ∧ _
 refine ⟨.inr Z, _, (af 206005 505 Z Z).trans (af 206006 506 Z Z), _, Z, Z, Z⟩
theorem oo {pre post : List Tm} {b : List Sm} {fl : List Fl} {frm : Int} {g : Gs} {w : Pw} {first : Bool} {i k : Nat} {nx ot : Int} {s : Sm} (hb : g.bad = false) (hi : i < fl.length) (he : fl.getD i default = ⟨(k : Nat), nx, ot⟩) (hk : k < b.length) (hbs : b.getD k default = s) (hk3 : s.kind = 3) (hv : w.vars.length = 4) (hw : CtxOk w.vars) (hx : s.index.ok = true ∧ s.index.xs.length ≤ 4) (hg : g.conds.length + 2 ≤ L) (hsy : w.sym = 10) : MQ h1 h2 54 [.c (.pt 0 0 0), eI (i : Nat), hA w, eB first] (gH (pP pre b post) (cz fl) frm g) (aZ (.tup []) (fm (pP pre b post) (cz fl) frm (⟨(bU aW w s.index g).paths, (bU aW w s.index g).conds, true⟩ : Gs))) := by
 refine aF 500 Z (MC.keep [500,505,506] (bs := [ee (pP pre b post) (cz fl) frm (⟨(bU aW w s.index g).paths, (bU aW w s.index g).conds, true⟩ : Gs) 505 506, bz (⟨(bU aW w s.index g).paths, (bU aW w s.index g).conds, true⟩ : Gs).paths, bA (⟨(bU aW w s.index g).paths, (bU aW w s.index g).conds, true⟩ : Gs).conds]) Z Z (jH 206 [500,501,502] h1 h2 Tryz.func54 Z Z Z Z fun O hF => ?_))
 refine bZ ?_
 refine ag (jx O Z Z Z Z Z Z Z Z (aq ?_))
 refine jn (AWP.seq (ag (j4 O Z Z Z Z (jf [19,6,0,1,2,3] Z (jn (AWP.cond O Z Z (fun hc19 => ?_) (fun hc19 => ?_)))))))
 exact absurd hc19 (by rw [hb]; decide)
 refine AWP.skip (AWP.seq (ag (j2 O Z Z (jf [21,6,0,1,2,3] Z (jn (AWP.cond O Z Z (fun hc21 => ?_) (fun hc21 => ?_)))))))
 exact absurd (of_decide_eq_true hc21) (by omega)
 refine AWP.skip (ag (j4 O Z Z Z Z (js O Z (aa ((aB O Z Z Z Z Z Z Z Z (cq hi)).cast (v' := ptr (Fl.cells ⟨(k : Nat), nx, ot⟩)) (by rw [he])) Z Z Z (js O Z (jf [37,6,0,1,2,3] Z (jl O Z Z Z Z Z Z (aq ?_))))))))
 refine jo O Z Z Z Z Z Z Z Z Z Z Z Z (aq ?_)
 refine jn (AWP.seq (f6 O [_,_,_,_,_,_,_,_,_,_,_] [pn [] 0 0, pn [0] 0 0, pn [0,1] 0 0, pn [0,1,2] 0 0, pn [0,1,2,3] 0 0, pn [0,1,2,3,4] 0 0, pn [0,1,2,3,4,5] 0 0, pn [] 0 0, pn [7] 0 0, pn [0,1,2,3,4,5,6,7,8] 0 0, pn [0,1,2,3,4,5,6,7,8,9] 0 0] [] [_] (kc O Z (kc O Z (kc O Z (kc O Z (kc O Z (kc O Z (kc O Z (kc O Z (kc O Z (ai ((aB O Z Z Z Z Z Z Z Z (cq hk)).cast (v' := ptr (Sm.cells s)) (by rw [hbs])) (kc O Z trivial))))))))))) ?_))
 refine jw [9,8,37,6,0,1,2,3] Z (bZ ?_)
 refine AWP.seq (ag (j4 O Z Z Z Z (jf [51,9,8,37,6,0,1,2,3] Z (jn (AWP.block (ag (j2 O Z Z (jn (AWP.cond O Z Z (fun hc52 => ?_) (fun hc52 => ?_))))))))))
 exact absurd (of_decide_eq_true hc52) (by omega)
 refine ag (j2 O Z Z (jf [71,53,51,9,8,37,6,0,1,2,3] Z (jn (AWP.cond O Z Z (fun hc71 => ?_) (fun hc71 => ?_)))))
 refine ag (j4 O Z Z Z Z (jf [76,73,53,51,9,8,37,6,0,1,2,3] Z (ap O [500,501,502,6] (bin := [ee (pP pre b post) (cz fl) frm g 1 2, bz g.paths, bA g.conds, hB w]) Z Z Z Z (qu (p := (pP pre b post)) (fl := (cz fl)) (frm := frm) (g := g) (w := w) (t := s.index) (ds := Sm.cells s) (j := 5) h1 h2 Z hw hx.1 (by omega) hg) Z Z Z Z Z Z (B0 := 78000) Z Z (aq ?_))))
 refine jf [53,51,9,8,37,6,0,1,2,3] Z (jn (AWP.seq (ag (j3 O Z Z Z (jf [80,53,51,9,8,37,6,0,1,2,3] Z (jn (AWP.cond O Z Z (fun hc80 => ?_) (fun hc80 => ?_))))))))
 refine ag (j3 O Z Z Z (jf [83,53,51,9,8,37,6,0,1,2,3] Z (jo O Z Z Z Z Z Z Z Z Z Z Z Z (aq ?_))))
 refine jn (AWP.ret ?_)
 refine ⟨.inl Z, _, (af 501 505 Z Z).trans (af 78006 506 Z Z), _, Z, Z, Z⟩
 exact absurd (of_decide_eq_false hc80) (by omega)
 exact absurd (of_decide_eq_false hc71) (by omega)
theorem gT {g : Gs} : g.flag true = ⟨g.paths, g.conds, true⟩ := by simp [Gs.flag]
theorem eT {g : Gs} : g.flag false = g := by simp [Gs.flag]
theorem db : ∀ {t : Tr}, 1 ≤ t.nodes
 | .node _ _ _ => by simp [Tr.nodes]
structure EOk (E : Pe) (b : List Sm) : Prop where
  post : TsOk E.post ∧ E.post.length ≤ 6
  st : ∀ k, k < b.length → bB (b.getD k default) = true
  lf : ∀ k, k < b.length → (b.getD k default).kind = 8 → E.lf (aS b k) = (b.getD k default).facts
  num : ∀ k : Nat, k < b.length → (b.getD k default).kind = 8 → E.num (k : Nat) = aS b k
theorem me {t : Tm} (h : t.term = true) : t.ok = true ∧ t.xs.length ≤ 4 := by
 unfold Tm.term at h
 simp only [Bool.and_eq_true, decide_eq_true_eq] at h; exact ⟨h.1, by omega⟩
theorem eO {ts : List Tm} (h : cB ts 6 = true) : TsOk ts ∧ ts.length ≤ 6 := by
 unfold cB at h
 simp only [Bool.and_eq_true, decide_eq_true_eq, List.all_eq_true] at h
 exact ⟨fun t ht => me (h.1 t ht), by omega⟩
theorem eh {s : Sm} (h : bB s = true) : TsOk s.facts ∧ s.facts.length ≤ 6 := by
 refine eO ?_
 unfold bB qh at h
 cases h1 : s.sum.term <;> cases h2 : s.index.term <;> cases h3 : cB s.facts 6 <;> simp [h1, h2, h3] at h ⊢
theorem GOk.end {frm : Int} {w : Pw} {to : Int} {fs : List Tm} {n m : Nat} {g : Gs} (h : GOk n g) (hb : g.bad = false) (hf : fs.length ≤ 6) : GOk (n + kZ m) (cG frm w to fs g) :=
  (tp h hb).le (by have := nP (m := m); omega)
theorem eL {E : Pe} {b : List Sm} {fl : List Fl} (hE : EOk E b) {la : ct} {frm : Int} : ∀ {n : Nat} {r : List Fr} {w : Pw} {g : Gs} {c : Nat} {i : Int}, Pl b fl i r → GOk c g → GOk (c + kZ (aD r)) (dz la E frm n r w g)
 | 0, r, w, g, c, i, hp, hg => hg.le (Nat.le_add_right _ _)
 | n + 1, r, w, g, c, i, hp, hg => by
  cases hb : g.bad with
  | true => rw [ce hb]; exact hg.le (Nat.le_add_right _ _)
  | false =>
   cases hp with
   | nil => rw [eo hb]; exact hg.end hb hE.post.2
   | lp hi hs hk h8 => rw [fK hb, hE.lf _ hk h8]; exact hg.end hb (eh (hE.st _ hk)).2
   | @leaf i k r hi hs hk h0 h =>
    rw [dD hb]
    refine (eL hE (n := n) h (ml hg)).le ?_
    have := kC (m := aD r)
    simp only [aD, Fr.nodes, Tr.nodes, Trs.nodes, Nat.add_zero]
    rw [Nat.add_comm 1]; omega
   | @seq i k x y r h1 h =>
    rw [em hb h1]
    refine (eL hE (n := n) h hg).le ?_
    have := bR (m := aD (.st x :: .st y :: r)) (n := aD (.st (.node (b.getD k default) (k : Nat) [x, y]) :: r)) (by simp only [aD, Fr.nodes, Tr.nodes, Trs.nodes]; omega)
    omega
   | @cond i k x y r hi hs hk h7 h1 h2 =>
    rw [fL hb (by omega)]
    have hx := db (t := x); have hy := db (t := y)
    refine (eL hE (n := n) h2 (eL hE (n := n) h1 hg.flag.flag.flag)).le ?_
    have e := mr (m := aD (.st (.node (b.getD k default) (k : Nat) [x, y]) :: r) - 2)
    rw [show aD (.st (.node (b.getD k default) (k : Nat) [x, y]) :: r) - 2 + 2 = aD (.st (.node (b.getD k default) (k : Nat) [x, y]) :: r) by simp only [aD, Fr.nodes, Tr.nodes, Trs.nodes]; omega] at e
    have e1 := bR (m := aD (.st x :: r)) (n := aD (.st (.node (b.getD k default) (k : Nat) [x, y]) :: r) - 2) (by simp only [aD, Fr.nodes, Tr.nodes, Trs.nodes]; omega)
    have e2 := bR (m := aD (.st y :: r)) (n := aD (.st (.node (b.getD k default) (k : Nat) [x, y]) :: r) - 2) (by simp only [aD, Fr.nodes, Tr.nodes, Trs.nodes]; omega)
    omega
   | loop hi hs hk h8 => rw [fJ hb]; exact hg.end hb (eh (hE.st _ hk)).2
theorem fg {k : Int} (h : bh k = 0) : k ≠ 1 ∧ k ≠ 7 ∧ k ≠ 8 := by
 refine ⟨?_, ?_, ?_⟩ <;> (rintro rfl; revert h; decide)
theorem jh {fl : List Fl} {i k : Nat} (hs : (fl.getD i default).stmt = (k : Nat)) : fl.getD i default = ⟨(k : Nat), (fl.getD i default).next, (fl.getD i default).other⟩ := by rw [← hs]
theorem gE {s : Sm} (h : bB s = true) : (s.sum.ok = true ∧ s.sum.xs.length ≤ 4) ∧ (s.index.ok = true ∧ s.index.xs.length ≤ 4) := ⟨me (im h).1, me (im h).2⟩
theorem nF {s : Sm} (h : bB s = true) (hk : s.kind = 2 ∨ s.kind = 3) : 0 ≤ s.var ∧ s.var ≤ 3 := qZ h (by unfold rJ; rcases hk with h | h <;> rw [h] <;> decide)
theorem mi {w : Pw} {t u : Tm} : (w.fact t).long = (w.fact u).long := by simp [Pw.long, Pw.fact]
theorem km {L : Nat} (h1 : 4096 ≤ L) (h2 : L ≤ 1073741824) {pre : List Tm} {b : List Sm} {fl : List Fl} {frm : Int} {E : Pe} (hE : EOk E b) (hbl : b.length ≤ 1000) : ∀ {n : Nat} {r : List Fr} {w : Pw} {g : Gs} {c : Nat} {i : Int}, Pl b fl i r → aD r < n → WOk n w → GOk c g → c + kZ (aD r) ≤ L →
  MC Tryz.prog L 54 [.c (.pt 0 0 0), eI i, hA w, eB false] (gH (pP pre b E.post) (cz fl) frm g) (aZ (.tup []) (fm (pP pre b E.post) (cz fl) frm (dz aW E frm n r w g)))
 | 0, r, w, g, c, i, hp, hn, hw, hg, hL => absurd hn (Nat.not_lt_zero _)
 | n + 1, r, w, g, c, i, hp, hn, hw, hg, hL => by
  have hge := nP (m := aD r)
  have hgc := hg.conds
  have hgp := hg.paths
  cases hb : g.bad with
  | true => rw [ce hb]; exact pS h1 h2 hb
  | false =>
   cases hp with
   | nil => rw [eo hb]; exact pR h1 h2 hb hw.ctx hw.vars hE.post.1 (by have := hE.post.2; omega) (by omega)
   | @lp i k r hi hs hk h8 =>
    rw [fK hb, hE.lf _ hk h8]
    have hf := eh (hE.st _ hk)
    exact kP h1 h2 hb hi (jh hs) hk Z h8 hbl hw.ctx hw.vars hf.1 (by omega) (by omega)
   | @leaf i k r hi hs hk h0 h =>
    rw [dD hb]
    have hst := hE.st _ hk
    have hne := fg h0
    have htm := gE hst
    have hbd := kC (m := aD r)
    simp only [aD, Fr.nodes, Tr.nodes, Trs.nodes, Nat.add_zero, Nat.add_comm 1] at hL hn
    have hfa := hw.facts; have hev := hw.ev; have hsy := hw.sym
    by_cases hfull : (b.getD k default).kind = 3 ∧ w.sym = 10
    have e : (bC aW (b.getD k default) w g).2 = ⟨(bU aW w (b.getD k default).index g).paths, (bU aW w (b.getD k default).index g).conds, true⟩ := by
     unfold bC
     rw [if_neg (by omega), if_pos hfull.1, if_pos hfull.2, gT]
    rw [ce (by rw [e]), e]
    exact oo h1 h2 hb hi (jh hs) hk Z hfull.1 hw.vars hw.ctx htm.2 (by omega) hfull.2
    exact om h1 h2 hb hi (jh hs) hk Z hw.vars hw.ctx (nF hst) htm.1 htm.2 (by omega) (by omega) hsy (by omega) ⟨hne.2.1, hne.2.2⟩ (fun e => by
     have : ¬ w.sym = 10 := fun e2 => hfull ⟨e, e2⟩
     omega) (km h1 h2 hE hbl h (by omega) hw.leaf (ml hg) (by omega))
   | @seq i k x y r hk h =>
    rw [em hb hk]
    refine km h1 h2 hE hbl h (by simp only [aD, Fr.nodes, Tr.nodes, Trs.nodes] at hn ⊢; omega) (hw.le (Nat.le_succ n)) hg ?_
    have := bR (m := aD (.st x :: .st y :: r)) (n := aD (.st (.node (b.getD k default) (k : Nat) [x, y]) :: r)) (by simp only [aD, Fr.nodes, Tr.nodes, Trs.nodes]; omega)
    omega
   | @cond i k x y r hi hs hk h7 p1 p2 =>
    have htm := gE (hE.st _ hk)
    have hx := db (t := x); have hy := db (t := y)
    have hfa := hw.facts
    have e := mr (m := aD (.st (.node (b.getD k default) (k : Nat) [x, y]) :: r) - 2)
    rw [show aD (.st (.node (b.getD k default) (k : Nat) [x, y]) :: r) - 2 + 2 = aD (.st (.node (b.getD k default) (k : Nat) [x, y]) :: r) by simp only [aD, Fr.nodes, Tr.nodes, Trs.nodes]; omega] at e
    have e1 := bR (m := aD (.st x :: r)) (n := aD (.st (.node (b.getD k default) (k : Nat) [x, y]) :: r) - 2) (by simp only [aD, Fr.nodes, Tr.nodes, Trs.nodes]; omega)
    have e2 := bR (m := aD (.st y :: r)) (n := aD (.st (.node (b.getD k default) (k : Nat) [x, y]) :: r) - 2) (by simp only [aD, Fr.nodes, Tr.nodes, Trs.nodes]; omega)
    rw [fL hb (by omega), cT]
    have hg2 : GOk c (((aR w (b.getD k default).sum g).flag (!(bo (aG (b.getD k default).sum w.vars).1).2)).flag (w.fact (aG (b.getD k default).sum w.vars).1).long) := hg.flag.flag.flag
    have hg3 := eL hE (la := aW) (frm := frm) (n := n) (w := w.fact (aG (b.getD k default).sum w.vars).1) p1 hg2
    have hfe := mP (la := aW) (E := E) (frm := frm) (n := n) (r := .st x :: r) (w := w.fact (aG (b.getD k default).sum w.vars).1) (u := w.fact (bo (aG (b.getD k default).sum w.vars).1).1) (g := (aR w (b.getD k default).sum g).flag (!(bo (aG (b.getD k default).sum w.vars).1).2)) mi
    refine rk h1 h2 hb hi (jh hs) hk Z h7 hw.ctx hw.vars htm.1 (by omega) (g3 := dz aW E frm n (.st x :: r) (w.fact (aG (b.getD k default).sum w.vars).1) (((aR w (b.getD k default).sum g).flag (!(bo (aG (b.getD k default).sum w.vars).1).2)).flag (w.fact (aG (b.getD k default).sum w.vars).1).long)) ?_ ?_
    exact km h1 h2 hE hbl p1 (by simp only [aD, Fr.nodes, Tr.nodes, Trs.nodes] at hn ⊢; omega) hw.fact hg2 (by omega)
    rw [hfe]
    exact km h1 h2 hE hbl p2 (by simp only [aD, Fr.nodes, Tr.nodes, Trs.nodes] at hn ⊢; omega) hw.fact hg3 (by omega)
   | @loop i k x r hi hs hk h8 =>
    rw [fJ hb, hE.num _ hk h8]
    have hf := eh (hE.st _ hk)
    exact kP h1 h2 hb hi (jh hs) hk Z h8 hbl hw.ctx hw.vars hf.1 (by omega) (by omega)
theorem tM {pre : List Tm} {b : List Sm} {fl : List Fl} {frm : Int} {E : Pe} (hE : EOk E b) (hbl : b.length ≤ 1000) {n k i : Nat} {r1 r2 : List Fr} {w : Pw} {g : Gs} {c : Nat} (hb : g.bad = false) (hi : i < fl.length) (hs : (fl.getD i default).stmt = (k : Nat)) (hk : k < b.length) (h8 : (b.getD k default).kind = 8)
  (p1 : Pl b fl (fl.getD i default).next r1) (p2 : Pl b fl (fl.getD i default).other r2) (hn1 : aD r1 < n) (hn2 : aD r2 < n) (hw : WOk (n + 1) w) (hg : GOk c g) (hL : c + kZ (aD r1) + kZ (aD r2) ≤ L) :
  MQ h1 h2 54 [.c (.pt 0 0 0), eI (i : Nat), hA w, eB true] (gH (pP pre b E.post) (cz fl) frm g) (aZ (.tup []) (fm (pP pre b E.post) (cz fl) frm (cT (dz aW E frm n r1) (dz aW E frm n r2) w (aG (b.getD k default).sum w.vars).1 (aR w (b.getD k default).sum g)))) := by
 have htm := gE (hE.st _ hk)
 have hfa := hw.facts
 rw [cT]
 have hg2 : GOk c (((aR w (b.getD k default).sum g).flag (!(bo (aG (b.getD k default).sum w.vars).1).2)).flag (w.fact (aG (b.getD k default).sum w.vars).1).long) := hg.flag.flag.flag
 have hg3 := eL hE (la := aW) (frm := frm) (n := n) (w := w.fact (aG (b.getD k default).sum w.vars).1) p1 hg2
 have hfe := mP (la := aW) (E := E) (frm := frm) (n := n) (r := r1) (w := w.fact (aG (b.getD k default).sum w.vars).1) (u := w.fact (bo (aG (b.getD k default).sum w.vars).1).1) (g := (aR w (b.getD k default).sum g).flag (!(bo (aG (b.getD k default).sum w.vars).1).2)) mi
 refine nq h1 h2 hb hi (jh hs) hk Z h8 hw.ctx hw.vars htm.1 (by omega) (g3 := dz aW E frm n r1 (w.fact (aG (b.getD k default).sum w.vars).1) (((aR w (b.getD k default).sum g).flag (!(bo (aG (b.getD k default).sum w.vars).1).2)).flag (w.fact (aG (b.getD k default).sum w.vars).1).long)) ?_ ?_
 exact km h1 h2 hE hbl p1 hn1 hw.fact hg2 (by omega)
 rw [hfe]
 exact km h1 h2 hE hbl p2 hn2 hw.fact hg3 (by omega)
end Go.Al
