/- The law. -/
import Derived.Test.YtikejfdfkemmmaaGreatJ
import Derived.Test.YtikejfdfkemmmaaGreatH
set_option linter.unusedVariables false
set_option linter.unusedSimpArgs false
set_option maxRecDepth 10000
set_option maxHeartbeats 4000000
open Go.Proofs
namespace Go.Al
variable {L : Nat} (h1 : 4096 ≤ L) (h2 : L ≤ 1073741824)
deriving instance Inhabited, DecidableEq for Pth
abbrev da (p : Pth) : Nat := 2 + bp nT p.facts + bp nT p.ends + p.ev.length
def lM (g : Gs) : Prop := ∀ p ∈ g.paths, da p ≤ 1000
def FsOk (fs : List Tm) : Prop := ∀ t ∈ fs, t.ok = true
theorem sL {t : Tm} : (bC t).1.ok = true := by
 unfold bC jQ py; split
 assumption
 rfl
theorem nE : ∀ {fs : List Tm}, FsOk fs → bp nT fs ≤ 11 * fs.length
 | [], _ => by simp [bp]
 | t :: fs, h => by
  have h1 := nE (fs := fs) fun t ht => h t (by simp [ht])
  have h2 := lN (h t (by simp))
  have h3 : nT t = 1 + t.xs.length := rfl
  simp only [bp, List.map_cons, List.sum_cons, iZ] at h1 ⊢
  omega
theorem FsOk.snoc {fs : List Tm} (h : FsOk fs) {t : Tm} (ht : t.ok = true) : FsOk (fs ++ [t]) := fun u hu => by
 rcases List.mem_append.1 hu with h1 | h1
 exact h u h1
 rw [List.mem_singleton.1 h1]; exact ht
theorem sJ {frm to : Int} {n : Nat} {w : Pw} {st : List Tm} (h : CW n w st) (hf : FsOk w.facts) : da ⟨frm, to, w.facts, w.vars, w.ev⟩ ≤ 1000 := by
 have h1 := nE hf
 have h2 := nE (fs := w.vars) h.vok
 have h3 := h.vars
 have h4 := h.facts
 have h5 := h.ev
 show 2 + bp nT w.facts + bp nT w.vars + w.ev.length ≤ 1000
 omega
theorem ra {frm to : Int} {n : Nat} {w : Pw} {st : List Tm} (hw : CW n w st) (hf : FsOk w.facts) {fs : List Tm} {g : Gs} (h : lM g) : lM (bZ frm w to fs g) := fun p hp => by
 unfold bZ dZ at hp
 rw [db] at hp
 rcases List.mem_append.1 hp with h1 | h1
 exact h p h1
 rw [List.mem_singleton.1 h1]; exact sJ hw hf
theorem nW {x : In} {w : Pw} {st : List Tm} {g : Gs} (hs : ∀ t ∈ st, t.ok = true) (h : FsOk w.facts) : FsOk (bW x w st g).w.facts := by
 have hp0 : (p0 1 st).ok = true := by
  unfold p0
  exact c7 (nz (k := 1) hs).1
 unfold bW
 split
 exact h
 split
 exact h
 split
 exact h
 split
 exact h
 split
 exact h
 split
 split <;> exact h
 split
 exact h
 split
 exact h
 split
 exact h.snoc hp0
 exact h
theorem ke {a : An} {frm : Int} (hc : ∀ x ∈ a.code, aR x = true) : ∀ {n : Nat} {at_ : Int} {b : Bool} {w : Pw} {st : List Tm} {g : Gs}, (g.bad = false → CW n w st ∧ FsOk w.facts) → lM g → lM (dC i1 a frm n at_ b w st g)
 | 0, at_, b, w, st, g, _, hg => hg
 | n + 1, at_, b, w, st, g, hw, hg => by
  refine fi (P := lM) (fun _ => hg) (fun hb => ?_)
  obtain ⟨hw, hf⟩ := hw hb
  refine ⟨fun _ => hg, fun hi => ⟨fun hp => ?_, fun hp => ⟨fun _ => ra hw hf hg, fun ho => ⟨fun _ => hg, fun hs => ?_⟩, fun h11 h6 => ?_⟩⟩⟩
  show lM (if st.length = 0 then _ else _)
  split
  exact ra hw hf hg
  exact hg
  have htop : (bh st).ok = true := c7 hw.sok
  unfold fO
  have k1 : ((g.flag (!(bC (bh st)).2)).flag (w.fact (bh st)).long).bad = false → (w.fact (bh st)).long = false := fun h => by
   simp only [Gs.flag, Bool.or_eq_false_iff] at h; exact h.2
  have e1 := ke hc (n := n) (at_ := at_ + 1) (b := false) (w := w.fact (bh st)) (st := cz st) (g := (g.flag (!(bC (bh st)).2)).flag (w.fact (bh st)).long) (frm := frm) (fun hb2 => ⟨hw.test (k1 hb2), hf.snoc htop⟩) hg
  refine ke hc (fun hb2 => ⟨hw.test ?_, hf.snoc sL⟩) e1
  rw [iw (u := bh st)]
  refine k1 ?_
  cases hq : ((g.flag (!(bC (bh st)).2)).flag (w.fact (bh st)).long).bad with
  | false => rfl
  | true =>
   have hb3 : (dC i1 a frm n (at_ + 1) false (w.fact (bh st)) (cz st) ((g.flag (!(bC (bh st)).2)).flag (w.fact (bh st)).long)).bad = false := hb2
   rw [bU hq, hq] at hb3; cases hb3
  have hin := sU.1 hi
  have hx : aR (a.code.getD at_.toNat default) = true := by
   rw [aw (by omega)]; exact hc _ (List.getElem_mem (by omega))
  refine ke hc (fun hb2 => ⟨hw.leaf hx hb2, nW hw.sok hf⟩) (fun p hp => hg p ?_)
  have e : (i1.leaf (a.code.getD at_.toNat default) w st g).g.paths = g.paths := wE.1
  rwa [e] at hp
theorem ur {a : An} (h : VA' a) {n : Nat} (hn : n ≤ a.pts.length) {g : Gs} (hg : lM g) : lM (fo i1 a n g) := by
 cases n with
 | zero => exact ke h.ok.code (fun _ => ⟨jq h.ok.npre, fun t ht => (eV h.pre t ht).1⟩) hg
 | succ n =>
  have hp := h.pt (n := n) (by omega)
  exact ke h.ok.code (fun _ => ⟨jq (cE (n := 6) hp.1), fun t ht => (eV hp.1 t ht).1⟩) hg
theorem rh {a : An} (h : VA' a) : ∀ {n : Nat}, n ≤ a.pts.length + 1 → lM (j0 a n)
 | 0, _ => fun p hp => by cases hp
 | n + 1, hn => by
  rw [j0]
  exact ur h (by omega) (rh h (by omega))
theorem rf : ∀ {ps : List Pth}, (∀ p ∈ ps, da p ≤ 1000) → bp da ps ≤ 1000 * ps.length
 | [], _ => by simp [bp]
 | p :: ps, h => by
  have h1 := rf (ps := ps) fun p hp => h p (by simp [hp])
  have h2 := h p (by simp)
  simp only [bp, List.map_cons, List.sum_cons, iZ] at h1 h2 ⊢
  omega
abbrev vS (p : Pth) : A := .agg (p.cells.map .d)
abbrev tX (ps : List Pth) : A := .c (.d (ip ps))
abbrev fR (k : Int) (p : Pth) : Pth := ⟨k, k + 1, aY mT nT (k + 1 + 1) p.facts, aY mT nT (k + 1 + 1 + bp nT p.facts) p.ends, aY mI cW (k + 1 + 1 + bp nT p.facts + bp nT p.ends) p.ev⟩
theorem w5 {s t : Pth} : MQ h1 h2 62 [vS s, vS t] [] (Plain (eB (decide (s = t)))) := by
 refine aB ?_ Z
 refine jB 33 h1 h2 Tryz.func62 Z Z Z fun O hF => ?_
 refine ae (jx O Z (jx O Z (js O Z (jn (ag (ae (j4 O Z Z Z Z (js O Z (jn (ab O Z Z (fun hc9 => ?_) (fun hc9 => ?_)))))))))))
 try simp only [aI] at hc9
 refine ae (js O Z (jr ?_))
 refine ⟨.inl Z, _, ak, _, Z, ?_⟩
 rw [decide_eq_false (fun e => hc9 (by rw [e]))]
 try simp only [aI] at hc9
 refine ah (ag (ae (j4 O Z Z Z Z (js O Z (jn (ab O Z Z (fun hc14 => ?_) (fun hc14 => ?_)))))))
 try simp only [aI] at hc14
 refine ae (js O Z (jr ?_))
 refine ⟨.inl Z, _, ak, _, Z, ?_⟩
 rw [decide_eq_false (fun e => hc14 (by rw [e]))]
 try simp only [aI] at hc14
 refine ah (ag (ae (j4 O Z Z Z Z (af O Z Z Z Z (vn h1 h2) (aa Z) Z Z Z Z Z (B0 := 20000) Z (js O Z (jn (ab O Z Z (fun hc20 => ?_) (fun hc20 => ?_))))))))
 try simp only [aI] at hc20
 refine ae (js O Z (jr ?_))
 refine ⟨.inl Z, _, ak, _, Z, ?_⟩
 rw [decide_eq_false (fun e => hc20 (by rw [e]))]
 try simp only [aI] at hc20
 refine ah (ag (ae (j4 O Z Z Z Z (af O Z Z Z Z (vn h1 h2) (aa Z) Z Z Z Z Z (B0 := 26000) Z (js O Z (jn (ab O Z Z (fun hc26 => ?_) (fun hc26 => ?_))))))))
 try simp only [aI] at hc26
 refine ae (js O Z (jr ?_))
 refine ⟨.inl Z, _, ak, _, Z, ?_⟩
 rw [decide_eq_false (fun e => hc26 (by rw [e]))]
 try simp only [aI] at hc26
 refine ah (ag (ae (j4 O Z Z Z Z (af O Z Z Z Z (y3 h1 h2) (aa Z) Z Z Z Z Z (B0 := 32000) Z (js O Z (jn (ab O Z Z (fun hc32 => ?_) (fun hc32 => ?_))))))))
 try simp only [aI] at hc32
 refine ae (js O Z (jr ?_))
 refine ⟨.inl Z, _, ak, _, Z, ?_⟩
 rw [decide_eq_false (fun e => hc32 (by rw [e]))]
 try simp only [aI] at hc32
 refine ah (ae (js O Z (jr ?_)))
 refine ⟨.inl Z, _, ak, _, Z, ?_⟩
 have e : s = t := by cases s; cases t; simp_all
 rw [decide_eq_true e]
theorem k7 {xs ys : List Pth} : MQ h1 h2 20 [.c (.d (ip xs)), .c (.d (ip ys))] [] (Plain (eB (decide (xs = ys)))) := by
 refine aB ?_ Z
 refine jB 27 h1 h2 Tryz.func20 Z Z Z fun O hF => ?_
 have hl : xs.length ≤ L := by simpa [As.fact, A.fact, M.fact, D.fact, Ds.fact] using hF.1.1
 have hl2 : ys.length ≤ L := by simpa [As.fact, A.fact, M.fact, D.fact, Ds.fact] using hF.2.1.1
 refine ae (js O Z (jn (ag (ae (js O Z ?_)))))
 first | refine bA O Z ?_ | refine js O Z ?_ | refine bb O Z Z ?_
 refine js O Z ?_
 first | refine bA O Z ?_ | refine js O Z ?_ | refine bb O Z Z ?_
 refine js O Z (jn (ab O Z Z (fun hc10 => ?_) (fun hc10 => ?_)))
 try simp only [aI] at hc10
 refine ae (js O Z (jr ?_))
 refine ⟨.inl Z, _, ak, _, Z, ?_⟩
 rw [decide_eq_false (fun e => by subst e; simp at hc10)]
 try simp only [aI] at hc10
 refine ah (ag (ae (js O Z (jn (am (ar (X := Nat) (fun i => ⟨[(0, .c (.d (ip xs))), (1, .c (.d (ip ys))), (5, eI i)], []⟩) (fun i => i ≤ xs.length ∧ ∀ j, j < i → xs[j]? = ys[j]?) (fun i => xs.length - i) 0 (Ent.env ⟨Z, Z, Z, trivial⟩) ?_ (fun i hi => ?_)))))))
 exact ⟨cI _, fun j hj => absurd hj (Nat.not_lt_zero j)⟩
 refine ag (ae (j2 O Z Z ?_))
 first | refine bA O Z ?_ | refine js O Z ?_ | refine bb O Z Z ?_
 refine js O Z (jn (ab O Z Z (fun hc14 => ?_) (fun hc14 => ?_)))
 try simp only [aI] at hc14
 refine ah (ag (am (ag (jZ O [_,_,_,_,_,_,_,_,_,_] [pn [] 0 0, pn [] 0 0, pn [0,1] 0 0, pn [0,1,2] 0 0, pn [] 0 0, pn [] 0 0, pn [4,5] 0 0, pn [4,5,6] 0 0, pe (rg 0 8) 0, pn (rg 0 9) 1 1] [8] [_,_] (kc O Z (kc O Z (ai (vD O Z) (kc O Z (kc O Z (kc O Z (ai (vD O Z) (kc O Z (ai (bw O (B0 := 26000) Z Z Z Z (w5 h1 h2) (aa Z) Z Z Z Z Z) (kc O Z trivial)))))))))) ?_))))
 refine ab O Z Z (fun hc26 => ?_) (fun hc26 => ?_)
 try simp only [aI] at hc26
 refine ae (js O Z (jr ?_))
 refine ⟨.inl Z, _, ak, _, Z, ?_⟩
 rw [decide_eq_false (fun e => by subst e; simp at hc26)]
 try simp only [aI] at hc26
 refine ah (aj (js O Z ?_))
 first | refine ji O Z ?_ | refine bb O Z Z ?_
 refine js O Z (jn ?_)
 refine ⟨i + 1, Ent.env ⟨Z, Z, Z, trivial⟩, ⟨by omega, fun j hj => ?_⟩, by omega⟩
 rcases Nat.lt_or_ge j i with h | h
 exact hi.2 j h
 obtain rfl : j = i := by omega
 rw [Int.toNat_natCast, aw (by omega), aw (by omega)] at hc26
 rw [List.getElem?_eq_getElem (by omega), List.getElem?_eq_getElem (by omega), hc26]
 try simp only [aI] at hc14
 refine aW (ae (js O Z (jr ?_)))
 refine ⟨.inl Z, _, ak, _, Z, ?_⟩
 have e : xs = ys := List.ext_getElem? fun j => by
  rcases Nat.lt_or_ge j i with h | h
  ·
   exact hi.2 j h
  ·
   rw [List.getElem?_eq_none (by omega), List.getElem?_eq_none (by omega)]
 rw [decide_eq_true e]
variable {k : Int}
theorem u3 : MQ h1 h2 21 [.c (.d (ip [])), eI k] [] (Plain (eI k)) := by
 refine aB ?_ Z
 refine jB 48 h1 h2 Tryz.func21 Z Z Z fun O hF => ?_
 refine ae (js O Z (jn (ag (ae (js O Z (jn (am (ar (X := Nat) (fun i => ⟨[(0, .c (.d (ip []))), (1, eI k), (5, eI 0)], []⟩) (fun i => True) (fun i => 0) 0 (Ent.env ⟨Z, Z, Z, trivial⟩) ?_ (fun i hi => ?_)))))))))
 trivial
 refine ag (ae (j2 O Z Z ?_))
 first | refine bA O Z ?_ | refine js O Z ?_ | refine bb O Z Z ?_
 refine js O Z (jn (ab O Z Z (fun hc9 => ?_) (fun hc9 => ?_)))
 try simp only [aI] at hc9
 exact absurd hc9 (by simp)
 try simp only [aI] at hc9
 refine aW (ae (j2 O Z Z (jr ?_)))
 refine ⟨.inl Z, _, ak, _, Z, ?_⟩
 first | rfl | skip
variable {ts : List Pth}
theorem w6 (hk0 : 0 ≤ k) (hk1 : k + bp da ts ≤ 1073741824) : MQ h1 h2 21 [.c (.rs 0 0 ts.length), eI k] [(0, aE ts)] (bd (eI (k + bp da ts)) [(0, aE (aY fR da k ts))]) := by
 refine jH 48 [0] h1 h2 Tryz.func21 Z Z Z Z fun O hF => ?_
 refine fj 0 Z (fun hB => ?_)
 have hl : ts.length ≤ L := by simpa [B.fact] using hB.1
 refine ae (js O Z (jn (ag (ae (js O Z (jn (am (ar (X := Nat) (fun i => ⟨[(0, .c (.rs 0 0 ts.length)), (1, eI (k + bp da (ts.take i))), (5, eI i)], [(0, aE (mk fR da k i ts))]⟩) (fun i => i ≤ ts.length) (fun i => ts.length - i) 0 (Ent.to ⟨Z, by simp [bJ, ax, bp], Z, trivial⟩ (by simp [iv])) ?_ (fun i hi => ?_)))))))))
 exact cI _
 refine ag (ae (j2 O Z Z ?_))
 first | refine bA O Z ?_ | refine js O Z ?_ | refine bb O Z Z ?_
 refine js O Z (jf [9,0,1,5] Z (jn (ab O Z Z (fun hc9 => ?_) (fun hc9 => ?_))))
 try simp only [aI] at hc9
 refine ah (ag (am (ae ?_)))
 obtain ⟨K, hK⟩ : ∃ K, K = k + (bp da (ts.take i) : Int) := ⟨_, rfl⟩
 rw [← hK]
 have hcs := eX (sz := da) (show i < ts.length by omega)
 have hcl := je (sz := da) (l := ts) (i := i + 1)
 have hg := jc (f := fR) (sz := da) (k := k) (show i < ts.length by omega)
 have hs := gn (f := fR) (sz := da) (k := k) (show i < ts.length by omega)
 rw [← aw (show i < ts.length by omega)] at hcs hg hs
 obtain ⟨t, ht⟩ : ∃ t, t = ts.getD i default := ⟨_, rfl⟩
 rw [← ht] at hcs hg hs
 rw [← hK] at hs
 simp only [da] at hcs
 have hb : K + (2 + bp nT t.facts + bp nT t.ends + t.ev.length : Nat) ≤ 1073741824 := by omega
 obtain ⟨R, hR⟩ : ∃ R, R = (mk fR da k i ts).map Pth.cells := ⟨_, rfl⟩
 have hRl : i < R.length := by rw [hR, b9, fc]; omega
 have hRi : R[i]? = some (Pth.cells t) := by rw [hR, List.getElem?_map, hg]; rfl
 have hRn : R.set i (Pth.cells (fR K t)) = (mk fR da k (i + 1) ts).map Pth.cells := by rw [hR, ← hs, List.map_set]
 have e0 : aE (mk fR da k i ts) = .row true 5 (R.set i (Pth.cells t)) := by rw [gz hRi, hR]
 rw [e0]
 refine j3 O Z Z Z ?_
 first | refine gQ O Z Z ?_ | refine bb O Z Z ?_
 refine js O Z (jf [16,14,9,0,1,5] Z (AOps.heap (ba (ex := [.int .i64 (t.frm), .int .i64 (t.to), cY (t.facts), cY (t.ends), dp (t.ev)]) (xs' := R.set i [.int .i64 (K), .int .i64 (t.to), cY (t.facts), cY (t.ends), dp (t.ev)]) O Z Z Z Z Z Z Z Z Z Z Z Z Z Z (by simp [hRl]) (by simp)) Z (ap ?_)))
 refine jf [9,0,1,5] Z (aQ (js O Z ?_))
 first | refine ji O Z ?_ | refine bb O Z Z ?_
 refine js O Z (jf [1,9,0,5] Z (aQ (j3 O Z Z Z ?_)))
 first | refine gQ O Z Z ?_ | refine bb O Z Z ?_
 refine js O Z (jf [23,21,1,9,0,5] Z (AOps.heap (ba (ex := [.int .i64 (K), .int .i64 (t.to), cY (t.facts), cY (t.ends), dp (t.ev)]) (xs' := R.set i [.int .i64 (K), .int .i64 (K + 1), cY (t.facts), cY (t.ends), dp (t.ev)]) O Z Z Z Z Z Z Z Z Z Z Z Z Z Z (by simp [hRl]) (by simp)) Z (ap ?_)))
 refine jf [1,9,0,5] Z (aQ (js O Z ?_))
 first | refine ji O Z ?_ | refine bb O Z Z ?_
 refine js O Z (jf [1,9,0,5] Z (aQ (j2 O Z Z ?_)))
 first | refine gQ O Z Z ?_ | refine bb O Z Z ?_
 refine js O Z (AOps.step (aq O (ex := [.int .i64 (K), .int .i64 (K + 1), cY (t.facts), cY (t.ends), dp (t.ev)]) Z Z Z Z (by simp [hRl]) Z) Z Z Z (js O Z (jf [31,30,1,9,0,5] Z (eA O (l := 0) (j := 2) (z := 2) (ex := [.int .i64 (K), .int .i64 (K + 1), cY (t.facts), cY (t.ends), dp (t.ev)]) (ys := (t.facts).map Tm.cells) (ys' := (aY mT nT (K + 1 + 1) t.facts).map Tm.cells) (xs' := R.set i [.int .i64 (K), .int .i64 (K + 1), cY (aY mT nT (K + 1 + 1) t.facts), cY (t.ends), dp (t.ev)]) Z Z Z Z (.rp (.d Z .nil)) (.rp (.d Z .nil)) Z (by simp [hRl]) Z (tm (ts := t.facts) (k := (K + 1 + 1)) h1 h2 (by omega) (by omega)).1 (fun _ => by rw [b9]; exact tm (ts := t.facts) h1 h2 (by omega) (by omega)) (fun hys => ?_) Z (by simp [bl]) Z Z Z Z (by simp) ?_))))
 have hy : t.facts = [] := by simpa using hys
 rw [hy]
 exact (t6 h1 h2 (k := (K + 1 + 1))).plain (by simp [bp, hy])
 refine ap ?_
 refine js O Z (jf [1,9,0,5] Z (aQ (j2 O Z Z ?_)))
 first | refine gQ O Z Z ?_ | refine bb O Z Z ?_
 refine js O Z (AOps.step (aq O (ex := [.int .i64 (K), .int .i64 (K + 1), cY (aY mT nT (K + 1 + 1) t.facts), cY (t.ends), dp (t.ev)]) Z Z Z Z (by simp [hRl]) Z) Z Z Z (js O Z (jf [38,37,1,9,0,5] Z (eA O (l := 0) (j := 3) (z := 2) (ex := [.int .i64 (K), .int .i64 (K + 1), cY (aY mT nT (K + 1 + 1) t.facts), cY (t.ends), dp (t.ev)]) (ys := (t.ends).map Tm.cells) (ys' := (aY mT nT (K + 1 + 1 + bp nT t.facts) t.ends).map Tm.cells) (xs' := R.set i [.int .i64 (K), .int .i64 (K + 1), cY (aY mT nT (K + 1 + 1) t.facts), cY (aY mT nT (K + 1 + 1 + bp nT t.facts) t.ends), dp (t.ev)]) Z Z Z Z (.rp (.d Z .nil)) (.rp (.d Z .nil)) Z (by simp [hRl]) Z (tm (ts := t.ends) (k := (K + 1 + 1 + bp nT t.facts)) h1 h2 (by omega) (by omega)).1 (fun _ => by rw [b9]; exact tm (ts := t.ends) h1 h2 (by omega) (by omega)) (fun hys => ?_) Z (by simp [bl]) Z Z Z Z (by simp) ?_))))
 have hy : t.ends = [] := by simpa using hys
 rw [hy]
 exact (t6 h1 h2 (k := (K + 1 + 1 + bp nT t.facts))).plain (by simp [bp, hy])
 refine ap ?_
 refine js O Z (jf [1,9,0,5] Z (jn (aj (j2 O Z Z ?_))))
 first | refine gQ O Z Z ?_ | refine bb O Z Z ?_
 refine js O Z (AOps.step (aq O (ex := [.int .i64 (K), .int .i64 (K + 1), cY (aY mT nT (K + 1 + 1) t.facts), cY (aY mT nT (K + 1 + 1 + bp nT t.facts) t.ends), dp (t.ev)]) Z Z Z Z (by simp [hRl]) Z) Z Z Z (js O Z (jf [45,44,1,9,0,5] Z (eA O (l := 0) (j := 4) (z := 1) (ex := [.int .i64 (K), .int .i64 (K + 1), cY (aY mT nT (K + 1 + 1) t.facts), cY (aY mT nT (K + 1 + 1 + bp nT t.facts) t.ends), dp (t.ev)]) (ys := (t.ev).map (fun n => [D.int .i64 n])) (ys' := (aY mI cW (K + 1 + 1 + bp nT t.facts + bp nT t.ends) t.ev).map (fun n => [D.int .i64 n])) (xs' := R.set i [.int .i64 (K), .int .i64 (K + 1), cY (aY mT nT (K + 1 + 1) t.facts), cY (aY mT nT (K + 1 + 1 + bp nT t.facts) t.ends), dp (aY mI cW (K + 1 + 1 + bp nT t.facts + bp nT t.ends) t.ev)]) Z Z Z Z (.rp (.d Z .nil)) (.rp (.d Z .nil)) Z (by simp [hRl]) Z (xj (xs := t.ev) (k := (K + 1 + 1 + bp nT t.facts + bp nT t.ends)) h1 h2 (by omega) (by omega)).1 (fun _ => by rw [b9]; exact xj (xs := t.ev) h1 h2 (by omega) (by omega)) (fun hys => ?_) Z (by simp [bl]) Z Z Z Z (by simp) ?_))))
 have hy : t.ev = [] := by simpa using hys
 rw [hy]
 exact (vG h1 h2 (k := (K + 1 + 1 + bp nT t.facts + bp nT t.ends))).plain (by simp [bp, hy])
 refine ap ?_
 refine js O Z (jf [1,9,0,5] Z (jn (aj (js O Z ?_))))
 first | refine ji O Z ?_ | refine bb O Z Z ?_
 refine js O Z (jf [5,1,9,0] Z (jn ?_))
 refine ⟨i + 1, Ent.to ⟨Z, ?_, Z, trivial⟩ (by rw [aE, ← hRn]), by omega, by omega⟩
 rw [hcs]
 exact congrArg (fun z => some (eI z)) (by omega)
 try simp only [aI] at hc9
 refine aW (ae (j2 O Z Z (jr ?_)))
 refine ⟨.inl Z, _, ak, _, Z, ?_⟩
 obtain rfl : i = ts.length := by omega
 rw [kb (ch _), List.take_length]
 exact ⟨Z, Z⟩
theorem oQ (hk0 : 0 ≤ k) (hk1 : k + bp da ts ≤ 1073741824) : MQ h1 h2 22 [.c (.d (ip (aY fR da k ts))), eI k] [] (Plain (eI (k + bp da ts))) := by
 refine aB ?_ Z
 refine jB 58 h1 h2 Tryz.func22 Z Z Z fun O hF => ?_
 have hlm := bl (f := fR) (sz := da) (k := k) (l := ts)
 have hl : (aY fR da k ts).length ≤ L := by simpa [As.fact, A.fact, M.fact, D.fact, Ds.fact] using hF.1.1
 refine ae (js O Z (jn (ag (ae (js O Z (jn (am (ar (X := Nat) (fun i => ⟨[(0, .c (.d (ip (aY fR da k ts)))), (1, eI (k + bp da (ts.take i))), (5, eI i)], []⟩) (fun i => i ≤ ts.length) (fun i => ts.length - i) 0 (Ent.env ⟨Z, by simp [bJ, ax, bp], Z, trivial⟩) ?_ (fun i hi => ?_)))))))))
 exact cI _
 refine ag (ae (j2 O Z Z ?_))
 first | refine bA O Z ?_ | refine js O Z ?_ | refine bb O Z Z ?_
 refine js O Z (jf [9,0,1,5] Z (jn (ab O Z Z (fun hc9 => ?_) (fun hc9 => ?_))))
 refine ah (ag (am (ag (ae ?_))))
 have hil : i < ts.length := by have h9 := aS hc9; omega
 have hg := hZ (f := fR) (sz := da) (k := k) hil
 have hcs := eX (sz := da) hil
 have hcl := je (sz := da) (l := ts) (i := i + 1)
 rw [← aw hil] at hcs
 obtain ⟨t, ht⟩ : ∃ t, t = ts.getD i default := ⟨_, rfl⟩
 rw [← ht] at hg hcs
 simp only [da] at hcs
 obtain ⟨K, hK⟩ : ∃ K, K = k + (bp da (ts.take i) : Int) := ⟨_, rfl⟩
 rw [← hK] at hg ⊢
 refine j2 O Z Z (AOps.step ((aP O Z Z Z Z Z Z Z Z (cQ (by omega))).cast (v' := ptr (Pth.cells (fR K t))) (by rw [hg])) Z Z Z (j4 O Z Z Z Z (jf [18,9,0,1,5] Z (jn (ab O Z Z (fun hc18 => ?_) (fun hc18 => ?_))))))
 exact absurd hc18 (by simp)
 refine ah (ae (js O Z ?_))
 first | refine ji O Z ?_ | refine bb O Z Z ?_
 refine js O Z (jf [1,18,9,0,5] Z (jn (ag (ae (j2 O Z Z (AOps.step ((aP O Z Z Z Z Z Z Z Z (cQ (by omega))).cast (v' := ptr (Pth.cells (fR K t))) (by rw [hg])) Z Z Z (j4 O Z Z Z Z (jf [27,1,18,9,0,5] Z (jn (ab O Z Z (fun hc27 => ?_) (fun hc27 => ?_)))))))))))
 exact absurd hc27 (by simp)
 refine ah (ae (js O Z ?_))
 first | refine ji O Z ?_ | refine bb O Z Z ?_
 refine js O Z (jf [1,27,18,9,0,5] Z (aQ (j2 O Z Z (AOps.step ((aP O Z Z Z Z Z Z Z Z (cQ (by omega))).cast (v' := ptr (Pth.cells (fR K t))) (by rw [hg])) Z Z Z (j3 O Z Z Z (jf [35,34,1,27,18,9,0,5] Z (af O Z Z Z Z (yY (ts := t.facts) (k := (K + 1 + 1)) h1 h2 (by omega) (by omega)) (aa Z) Z Z Z Z Z (B0 := 37000) Z (js O Z (jf [1,27,18,9,0,5] Z (jn (ag (ae (j2 O Z Z (jn (ab O Z Z (fun hc38 => ?_) (fun hc38 => ?_))))))))))))))))
 exact absurd (aS hc38) (by omega)
 refine ah (ae (j2 O Z Z (AOps.step ((aP O Z Z Z Z Z Z Z Z (cQ (by omega))).cast (v' := ptr (Pth.cells (fR K t))) (by rw [hg])) Z Z Z (j3 O Z Z Z (jf [44,43,38,37,1,27,18,9,0,5] Z (af O Z Z Z Z (yY (ts := t.ends) (k := (K + 1 + 1 + bp nT t.facts)) h1 h2 (by omega) (by omega)) (aa Z) Z Z Z Z Z (B0 := 46000) Z (js O Z (jf [1,38,37,27,18,9,0,5] Z (jn (ag (ae (j2 O Z Z (jn (ab O Z Z (fun hc47 => ?_) (fun hc47 => ?_)))))))))))))))
 exact absurd (aS hc47) (by omega)
 refine ah (ae (j2 O Z Z (AOps.step ((aP O Z Z Z Z Z Z Z Z (cQ (by omega))).cast (v' := ptr (Pth.cells (fR K t))) (by rw [hg])) Z Z Z (j3 O Z Z Z (jf [53,52,47,46,1,38,37,27,18,9,0,5] Z (af O Z Z Z Z ((y2 (xs := aY mI cW ((K + 1 + 1 + bp nT t.facts + bp nT t.ends)) t.ev) (k := (K + 1 + 1 + bp nT t.facts + bp nT t.ends)) h1 h2 (by omega) (by omega)).plain (congrArg eI (kH t.ev ((K + 1 + 1 + bp nT t.facts + bp nT t.ends))))) (aa Z) Z Z Z Z Z (B0 := 55000) Z (js O Z (jf [1,47,46,38,37,27,18,9,0,5] Z (aQ (j2 O Z Z (jn (ab O Z Z (fun hc56 => ?_) (fun hc56 => ?_)))))))))))))
 exact absurd (aS hc56) (by omega)
 refine ah (aj (js O Z ?_))
 first | refine ji O Z ?_ | refine bb O Z Z ?_
 refine js O Z (jf [5,56,55,1,47,46,38,37,27,18,9,0] Z (jn ?_))
 refine ⟨i + 1, Ent.env ⟨Z, ?_, Z, trivial⟩, by omega, by omega⟩
 rw [hcs]
 exact congrArg (fun z => some (eI z)) (by omega)
 refine aW (ae (j2 O Z Z (jr ?_)))
 refine ⟨.inl Z, _, ak, _, Z, ?_⟩
 have h9 := bB hc9
 obtain rfl : i = ts.length := by omega
 rw [List.take_length]
theorem uP {a : An} {r : List Pth} {m0 : Nat} (hm0 : m0 = r.length) (hcc : 1 + bp da r ≤ (1073741824 : Int)) (cs : MQ h1 h2 18 [aAn a] [] (Plain (.tup [tX r, eB true]))) (ci : MQ h1 h2 19 [aAn a] [] (Rows (.tup [.c (.rs 0 0 m0), eB true]) [aE r])) (hz1 : 0 ≤ eh 1048576 a.size) (hcp : 1 + bp nT a.pre + bp nT a.post + bp iY a.code + bp nP a.pts ≤ (1073741824 : Int)) : MQ h1 h2 4 [aAn a] [] (Plain (eB true)) := by
 refine aB ?_ Z
 refine jB 96 h1 h2 Tryz.func4 Z Z Z fun O hF => ?_
 subst hm0
 have hbig : L ≤ 9223372036854775807 := Nat.le_trans h2 (by decide)
 refine ae (jx O Z (ap ?_))
 refine js O Z (aQ (js O Z (aQ (j2 O Z Z (af O Z Z Z Z (xA (a := a) (left := 1048576) h1 hbig (by decide) (by decide)) (aa Z) Z Z Z Z Z (B0 := 17000) Z (js O Z (jf [3,2,1,0] Z (jn (ag (ae (j2 O Z Z (jn (ab O Z Z (fun hc18 => ?_) (fun hc18 => ?_))))))))))))))
 exact absurd (aS hc18) (by omega)
 refine ah (ae (js O Z (jf [20,17,3,2,1,0] Z (az O Z Z Z Z (pE (a := a) h1 h2) (aa Z) Z Z Z Z (B0 := 22000) Z Z (jf [21,17,3,2,1,0] Z (az O Z Z Z Z (cs) (aa Z) Z Z Z Z (B0 := 23000) Z Z (j4 O Z Z Z Z (js O Z (jf [5,4,17,3,2,1,0] Z (aQ (js O Z (aN O (B0 := 27000) Z Z Z Z (xz (a := a) h1 h2) (aa Z) Z Z Z Z Z Z (ap ?_)))))))))))))
 refine jf [26,5,4,17,3,2,1,0] Z (jl O Z (ap ?_))
 refine jo O Z (ap ?_)
 refine aQ (js O Z (aN O (B0 := 30000) Z Z Z Z (ci) (.cons (.agg (.cons (.whole Z (b9 _).symm) (.cons (.whole Z (b9 _).symm) (.cons (.whole Z (b9 _).symm) (.cons (.whole Z (b9 _).symm) .nil))))) .nil) Z Z Z Z Z Z (ap ?_)))
 refine j4 O Z Z Z Z (js O Z (jf [8,7,6,26,5,4,17,3,2,1,0] Z (jn (ag (ae (j2 O Z Z (af O Z Z Z Z ((k7 (xs := r) (ys := r) h1 h2).plain (u := eB true) (by simp)) (.cons (.c (.whole Z (b9 _).symm)) (.cons (.c .d) .nil)) Z Z Z Z Z (B0 := 35000) Z (j2 O Z Z (jf [36,8,7,6,26,5,4,17,3,2,1,0] Z (bQ Z (js O Z (bQ Z (js O Z (bQ Z (js O Z (AOps.step (aJ O Z Z Z Z Z) Z Z Z (jf [40,8,7,6,26,5,4,17,3,2,1,0] Z (jn (ab O Z Z (fun hc40 => ?_) (fun hc40 => ?_))))))))))))))))))))
 exact absurd (show false = true from hc40) (by decide)
 refine ah (ag (ag (jw [8,7,6,26,5,4,17,3,2,1,0] Z (jZ O [_,_,_,_,_] [pn [] 0 1, pn [] 0 0, pe [1] 0, pe [0,1,2] 1, pn (rg 0 4) 2 2] [2,3] [_,_,_] (ai (kc O Z (V O Z)) (kc O Z (ai (aZ O (B0 := 44000) Z Z Z Z (pE (a := a) h1 h2) (aa Z) Z Z Z Z Z) (ai (bw O (B0 := 45000) Z Z Z Z ((y1 (s := a) (t := a) h1 h2).plain (u := eB true) (by simp)) (.cons (.agg (.cons (.whole Z (b9 _).symm) (.cons (.whole Z (b9 _).symm) (.cons (.whole Z (b9 _).symm) (.cons (.whole Z (b9 _).symm) .nil))))) (.cons (.agg (aF Z)) .nil)) Z Z Z Z Z) (kc O Z trivial))))) ?_))))
 refine jw [45,8,7,6,26,5,4,17,3,2,1,0] Z (cu ?_)
 refine ab O Z Z (fun hc45 => ?_) (fun hc45 => ?_)
 exact absurd (show false = true from hc45) (by decide)
 refine ah (ae (js O Z (aQ (j2 O Z Z (jf [47,46,9,8,7,6,26,5,4,17,3,2,1,0] Z (av O [27000,27001,27002,27003] (bin := [ft a.pre, ft a.post, i6 a.code, i4 a.pts]) Z Z Z Z (yZ (a := a) (k := 1) h1 h2 (by decide) (by omega)) Z Z Z Z Z Z (B0 := 49000) Z Z (ap ?_)))))))
 refine js O Z (jf [9,8,7,6,26,5,4,17,3,2,1,0] Z (jn (ag (ae (j2 O Z Z ?_)))))
 rw [decide_eq_false (show ¬ (1 + bp nT a.pre + bp nT a.post + bp iY a.code + bp nP a.pts : Int) < 0 by omega)]
 refine js O Z (jf [51,9,8,7,6,26,5,4,17,3,2,1,0] Z (bQ Z (js O Z (bQ Z (js O Z (bQ Z (af O Z Z Z Z ((k7 (xs := r) (ys := r) h1 h2).plain (u := eB true) (by simp)) (.cons (.c (.whole Z (b9 _).symm)) (.cons (.c .d) .nil)) Z Z Z Z Z (B0 := 55000) Z (jf [54,51,9,8,7,6,26,5,4,17,3,2,1,0] Z (bQ Z (js O Z (AOps.step (aJ O Z Z Z Z Z) Z Z Z (js O Z (jf [57,9,8,7,6,26,5,4,17,3,2,1,0] Z (bQ Z (js O Z (bQ Z (js O Z (bQ Z (js O Z (AOps.step (aJ O Z Z Z Z Z) Z Z Z (jf [61,9,8,7,6,26,5,4,17,3,2,1,0] Z (jn (ab O Z Z (fun hc61 => ?_) (fun hc61 => ?_))))))))))))))))))))))))
 exact absurd (show false = true from hc61) (by decide)
 refine ah (ae (js O Z (aQ (j2 O Z Z (jf [63,62,10,9,8,7,6,26,5,4,17,3,2,1,0] Z (av O [30000] (bin := [aE r]) Z Z Z Z (w6 (ts := r) (k := 1) h1 h2 (by decide) (by omega)) Z Z Z Z Z Z (B0 := 65000) Z Z (ap ?_)))))))
 refine js O Z (jf [10,9,8,7,6,26,5,4,17,3,2,1,0] Z (aQ (js O Z (aQ (j2 O Z Z (af O Z Z Z Z (oQ (ts := r) (k := 1) h1 h2 (by decide) (by omega)) (.cons (.c (.whole Z (by rw [b9, bl]))) (.cons (.c .d) .nil)) Z Z Z Z Z (B0 := 68000) Z (js O Z (jf [11,10,9,8,7,6,26,5,4,17,3,2,1,0] Z (jn (ag (ae (j2 O Z Z (jn (ab O Z Z (fun hc69 => ?_) (fun hc69 => ?_)))))))))))))))
 exact absurd (aS hc69) (by omega)
 refine ah (ag (ae (j3 O Z Z Z (jf [72,68,11,10,9,8,7,6,26,5,4,17,3,2,1,0] Z (jn (ab O Z Z (fun hc72 => ?_) (fun hc72 => ?_)))))))
 exact absurd hc72 (by simp)
 refine ah (ae (js O Z (jf [74,68,11,10,9,8,7,6,26,5,4,17,3,2,1,0] Z (az O Z Z Z Z (pE (a := a) h1 h2) (aa Z) Z Z Z Z (B0 := 76000) Z Z (jf [75,68,11,10,9,8,7,6,26,5,4,17,3,2,1,0] Z (aN O (B0 := 77000) Z Z Z Z (ci) (aa Z) Z Z Z Z Z Z (ap ?_)))))))
 refine j4 O Z Z Z Z (js O Z (jf [13,12,68,11,10,9,8,7,6,26,5,4,17,3,2,1,0] Z (jn (ag (ae (j2 O Z Z (jf [80,79,13,68,11,10,9,8,7,6,26,5,4,17,3,2,1,0] Z (af O Z Z Z Z ((k7 (xs := r) (ys := r) h1 h2).plain (u := eB true) (by simp)) (.cons (.c (.whole Z (b9 _).symm)) (.cons (.c .d) .nil)) Z Z Z Z Z (B0 := 82000) Z (j2 O Z Z (jf [83,13,68,11,10,9,8,7,6,26,5,4,17,3,2,1,0] Z (bQ Z (js O Z (jf [84,83,68,11,10,9,8,7,6,26,5,4,17,3,2,1,0] Z (bQ Z (js O Z (bQ Z (js O Z (AOps.step (aJ O Z Z Z Z Z) Z Z Z (jf [87,68,11,10,9,8,7,6,26,5,4,17,3,2,1,0] Z (jn (ab O Z Z (fun hc87 => ?_) (fun hc87 => ?_))))))))))))))))))))))
 exact absurd (show false = true from hc87) (by decide)
 refine ah (ae (js O Z (aQ (j2 O Z Z (jf [89,88,11,68,10,9,8,7,6,26,5,4,17,3,2,1,0] Z (af O Z Z Z Z (oQ (ts := r) (k := 1) h1 h2 (by decide) (by omega)) (.cons (.c (.whole Z (by rw [b9, bl]))) (.cons (.c .d) .nil)) Z Z Z Z Z (B0 := 91000) Z (js O Z (jf [11,68,10,9,8,7,6,26,5,4,17,3,2,1,0] Z (jn (ag (ae (j2 O Z Z (jn (ab O Z Z (fun hc92 => ?_) (fun hc92 => ?_)))))))))))))))
 exact absurd (aS hc92) (by omega)
 refine ah (ag (ae (j3 O Z Z Z (jf [95,91,11,68,10,9,8,7,6,26,5,4,17,3,2,1,0] Z (jn (ab O Z Z (fun hc95 => ?_) (fun hc95 => ?_)))))))
 exact absurd hc95 (by simp)
 refine ah (ae (js O Z (jr ?_)))
 refine ⟨.inl Z, _, ak, _, Z, ?_⟩
 rfl
theorem nG {a : An} (cs : MQ h1 h2 18 [aAn a] [] (Plain (.tup [tX ([] : List Pth), eB false]))) (ci : MQ h1 h2 19 [aAn a] [] (Rows (.tup [.c (.d .nils), eB false]) [])) (hz1 : 0 ≤ eh 1048576 a.size) (hcp : 1 + bp nT a.pre + bp nT a.post + bp iY a.code + bp nP a.pts ≤ (1073741824 : Int)) : MQ h1 h2 4 [aAn a] [] (Plain (eB true)) := by
 refine aB ?_ Z
 refine jB 96 h1 h2 Tryz.func4 Z Z Z fun O hF => ?_
 have hbig : L ≤ 9223372036854775807 := Nat.le_trans h2 (by decide)
 refine ae (jx O Z (ap ?_))
 refine js O Z (aQ (js O Z (aQ (j2 O Z Z (af O Z Z Z Z (xA (a := a) (left := 1048576) h1 hbig (by decide) (by decide)) (aa Z) Z Z Z Z Z (B0 := 17000) Z (js O Z (jf [3,2,1,0] Z (jn (ag (ae (j2 O Z Z (jn (ab O Z Z (fun hc18 => ?_) (fun hc18 => ?_))))))))))))))
 exact absurd (aS hc18) (by omega)
 refine ah (ae (js O Z (jf [20,17,3,2,1,0] Z (az O Z Z Z Z (pE (a := a) h1 h2) (aa Z) Z Z Z Z (B0 := 22000) Z Z (jf [21,17,3,2,1,0] Z (az O Z Z Z Z (cs) (aa Z) Z Z Z Z (B0 := 23000) Z Z (j4 O Z Z Z Z (js O Z (jf [5,4,17,3,2,1,0] Z (aQ (js O Z (aN O (B0 := 27000) Z Z Z Z (xz (a := a) h1 h2) (aa Z) Z Z Z Z Z Z (ap ?_)))))))))))))
 refine jf [26,5,4,17,3,2,1,0] Z (jl O Z (ap ?_))
 refine jo O Z (ap ?_)
 refine aQ (js O Z (aN O (B0 := 30000) Z Z Z Z (ci) (.cons (.agg (.cons (.whole Z (b9 _).symm) (.cons (.whole Z (b9 _).symm) (.cons (.whole Z (b9 _).symm) (.cons (.whole Z (b9 _).symm) .nil))))) .nil) Z Z Z Z Z Z (ap ?_)))
 refine j4 O Z Z Z Z (js O Z (jf [8,7,6,26,5,4,17,3,2,1,0] Z (jn (ag (ae (j2 O Z Z (af O Z Z Z Z ((k7 (xs := ([] : List Pth)) (ys := ([] : List Pth)) h1 h2).plain (u := eB true) (by simp)) (.cons (.c .nils) (.cons (.c .d) .nil)) Z Z Z Z Z (B0 := 35000) Z (j2 O Z Z (jf [36,8,7,6,26,5,4,17,3,2,1,0] Z (bQ Z (js O Z (bQ Z (js O Z (bQ Z (js O Z (AOps.step (aJ O Z Z Z Z Z) Z Z Z (jf [40,8,7,6,26,5,4,17,3,2,1,0] Z (jn (ab O Z Z (fun hc40 => ?_) (fun hc40 => ?_))))))))))))))))))))
 exact absurd (show false = true from hc40) (by decide)
 refine ah (ag (ag (jw [8,7,6,26,5,4,17,3,2,1,0] Z (jZ O [_,_,_,_,_] [pn [] 0 1, pn [] 0 0, pe [1] 0, pe [0,1,2] 1, pn (rg 0 4) 2 2] [2,3] [_,_,_] (ai (kc O Z (V O Z)) (kc O Z (ai (aZ O (B0 := 44000) Z Z Z Z (pE (a := a) h1 h2) (aa Z) Z Z Z Z Z) (ai (bw O (B0 := 45000) Z Z Z Z ((y1 (s := a) (t := a) h1 h2).plain (u := eB true) (by simp)) (.cons (.agg (.cons (.whole Z (b9 _).symm) (.cons (.whole Z (b9 _).symm) (.cons (.whole Z (b9 _).symm) (.cons (.whole Z (b9 _).symm) .nil))))) (.cons (.agg (aF Z)) .nil)) Z Z Z Z Z) (kc O Z trivial))))) ?_))))
 refine jw [45,8,7,6,26,5,4,17,3,2,1,0] Z (cu ?_)
 refine ab O Z Z (fun hc45 => ?_) (fun hc45 => ?_)
 exact absurd (show false = true from hc45) (by decide)
 refine ah (ae (js O Z (aQ (j2 O Z Z (jf [47,46,9,8,7,6,26,5,4,17,3,2,1,0] Z (av O [27000,27001,27002,27003] (bin := [ft a.pre, ft a.post, i6 a.code, i4 a.pts]) Z Z Z Z (yZ (a := a) (k := 1) h1 h2 (by decide) (by omega)) Z Z Z Z Z Z (B0 := 49000) Z Z (ap ?_)))))))
 refine js O Z (jf [9,8,7,6,26,5,4,17,3,2,1,0] Z (jn (ag (ae (j2 O Z Z ?_)))))
 rw [decide_eq_false (show ¬ (1 + bp nT a.pre + bp nT a.post + bp iY a.code + bp nP a.pts : Int) < 0 by omega)]
 refine js O Z (jf [51,9,8,7,6,26,5,4,17,3,2,1,0] Z (bQ Z (js O Z (bQ Z (js O Z (bQ Z (af O Z Z Z Z ((k7 (xs := ([] : List Pth)) (ys := ([] : List Pth)) h1 h2).plain (u := eB true) (by simp)) (.cons (.c .nils) (.cons (.c .d) .nil)) Z Z Z Z Z (B0 := 55000) Z (jf [54,51,9,8,7,6,26,5,4,17,3,2,1,0] Z (bQ Z (js O Z (AOps.step (aJ O Z Z Z Z Z) Z Z Z (js O Z (jf [57,9,8,7,6,26,5,4,17,3,2,1,0] Z (bQ Z (js O Z (bQ Z (js O Z (bQ Z (js O Z (AOps.step (aJ O Z Z Z Z Z) Z Z Z (jf [61,9,8,7,6,26,5,4,17,3,2,1,0] Z (jn (ab O Z Z (fun hc61 => ?_) (fun hc61 => ?_))))))))))))))))))))))))
 exact absurd (show false = true from hc61) (by decide)
 refine ah (ae (js O Z (aQ (j2 O Z Z (jf [63,62,10,9,8,7,6,26,5,4,17,3,2,1,0] Z (af O Z Z Z Z (u3 (k := 1) h1 h2) (.cons (.c .nils) (.cons (.c .d) .nil)) Z Z Z Z Z (B0 := 65000) Z (js O Z (jf [10,9,8,7,6,26,5,4,17,3,2,1,0] Z (aQ (js O Z (aQ (j2 O Z Z (af O Z Z Z Z ((oQ (ts := ([] : List Pth)) (k := 1) h1 h2 (by decide) (by decide)).plain (u := eI 1) Z) (.cons (.c .nils) (.cons (.c .d) .nil)) Z Z Z Z Z (B0 := 68000) Z (js O Z (jf [11,10,9,8,7,6,26,5,4,17,3,2,1,0] Z (jn (ag (ae (j2 O Z Z (jn (ab O Z Z (fun hc69 => ?_) (fun hc69 => ?_))))))))))))))))))))))
 exact absurd (aS hc69) (by decide)
 refine ah (ag (ae (j3 O Z Z Z (jf [72,68,11,10,9,8,7,6,26,5,4,17,3,2,1,0] Z (jn (ab O Z Z (fun hc72 => ?_) (fun hc72 => ?_)))))))
 exact absurd hc72 (by simp)
 refine ah (ae (js O Z (jf [74,68,11,10,9,8,7,6,26,5,4,17,3,2,1,0] Z (az O Z Z Z Z (pE (a := a) h1 h2) (aa Z) Z Z Z Z (B0 := 76000) Z Z (jf [75,68,11,10,9,8,7,6,26,5,4,17,3,2,1,0] Z (aN O (B0 := 77000) Z Z Z Z (ci) (aa Z) Z Z Z Z Z Z (ap ?_)))))))
 refine j4 O Z Z Z Z (js O Z (jf [13,12,68,11,10,9,8,7,6,26,5,4,17,3,2,1,0] Z (jn (ag (ae (j2 O Z Z (jf [80,79,13,68,11,10,9,8,7,6,26,5,4,17,3,2,1,0] Z (af O Z Z Z Z ((k7 (xs := ([] : List Pth)) (ys := ([] : List Pth)) h1 h2).plain (u := eB true) (by simp)) (.cons (.c .nils) (.cons (.c .d) .nil)) Z Z Z Z Z (B0 := 82000) Z (j2 O Z Z (jf [83,13,68,11,10,9,8,7,6,26,5,4,17,3,2,1,0] Z (bQ Z (js O Z (jf [84,83,68,11,10,9,8,7,6,26,5,4,17,3,2,1,0] Z (bQ Z (js O Z (bQ Z (js O Z (AOps.step (aJ O Z Z Z Z Z) Z Z Z (jf [87,68,11,10,9,8,7,6,26,5,4,17,3,2,1,0] Z (jn (ab O Z Z (fun hc87 => ?_) (fun hc87 => ?_))))))))))))))))))))))
 exact absurd (show false = true from hc87) (by decide)
 refine ah (ae (js O Z (aQ (j2 O Z Z (jf [89,88,11,68,10,9,8,7,6,26,5,4,17,3,2,1,0] Z (af O Z Z Z Z ((oQ (ts := ([] : List Pth)) (k := 1) h1 h2 (by decide) (by decide)).plain (u := eI 1) Z) (.cons (.c .nils) (.cons (.c .d) .nil)) Z Z Z Z Z (B0 := 91000) Z (js O Z (jf [11,68,10,9,8,7,6,26,5,4,17,3,2,1,0] Z (jn (ag (ae (j2 O Z Z (jn (ab O Z Z (fun hc92 => ?_) (fun hc92 => ?_)))))))))))))))
 exact absurd (aS hc92) (by decide)
 refine ah (ag (ae (j3 O Z Z Z (jf [95,91,11,68,10,9,8,7,6,26,5,4,17,3,2,1,0] Z (jn (ab O Z Z (fun hc95 => ?_) (fun hc95 => ?_)))))))
 exact absurd hc95 (by simp)
 refine ah (ae (js O Z (jr ?_)))
 refine ⟨.inl Z, _, ak, _, Z, ?_⟩
 rfl
theorem uQ {L : Nat} (h1 : 4096 ≤ L) (h2 : L ≤ 9223372036854775807) {a : An} (hz : eh 1048576 a.size < 0) : MC Tryz.prog L 4 [aAn a] [] (Plain (eB true)) := by
 refine aB ?_ Z
 have O := kV (nt := 96) h1 h2
 refine MC.body O Tryz.func4 (by kernel_rfl) Z Z (Nat.le_of_ble_eq_true Z) (fun hF => ?_)
 refine ae (jx O Z (ap ?_))
 refine js O Z (aQ (js O Z (aQ (j2 O Z Z (af O Z Z Z Z (xA (a := a) (left := 1048576) h1 h2 (by decide) (by decide)) (aa Z) Z Z Z Z Z (B0 := 17000) Z (js O Z (jf [3,2,1,0] Z (jn (ag (ae (j2 O Z Z (jn (ab O Z Z (fun hc18 => ?_) (fun hc18 => ?_))))))))))))))
 refine ae (js O Z (jr ?_))
 refine ⟨.inl Z, _, ak, _, Z, ?_⟩
 rfl
 exact absurd (bB hc18) (fun h => h hz)
theorem s3 (ps : List Pt) : bp nP ps = szs Pt.size ps := by
 induction ps with
 | nil => rfl
 | cons p r ih =>
  have := ma p.fs
  have e : nP p = 1 + bp nT p.fs := rfl
  simp only [bp, szs, List.map_cons, List.sum_cons, iZ, Pt.size] at *
  omega
theorem uv (c : List In) : bp iY c = 2 * c.length := by
 induction c with
 | nil => rfl
 | cons x r ih =>
  rw [show bp iY (x :: r) = 2 + bp iY r by simp [bp], ih, iZ]; omega
theorem rL {L S : Nat} {c : List In} (h : D.fact L (i7 c)) (hl : c.length ≤ S) : D.fact S (i7 c) := by
 simp only [D.fact, b9, dB] at h ⊢
 refine ⟨hl, fun x hx => ?_⟩
 have := h.2 x hx
 exact ⟨this.1, this.2.1, trivial⟩
theorem rK {L S : Nat} {ps : List Pt} (h : D.fact L (fQ ps)) (hl : szs Pt.size ps ≤ S) : D.fact S (fQ ps) := by
 unfold szs at hl
 simp only [D.fact, b9, dB] at h ⊢
 refine ⟨by omega, fun p hp => ?_⟩
 have h1 := h.2 p hp
 have h2 := lT Pt.size hp
 exact ⟨h1.1, ku h1.2.1 (by show p.size ≤ S; omega), trivial⟩
theorem sW {L S : Nat} {a : An} (h : A.fact L (aAn a)) (hl : a.size ≤ S) : A.fact S (aAn a) := by
 unfold An.size at hl
 exact ⟨ku h.1 (by omega), ku h.2.1 (by omega), rL h.2.2.1 (by omega), rK h.2.2.2.1 (by omega), trivial⟩
theorem xf {a : An} (hz1' : 0 ≤ eh 1048576 a.size) : 1 + bp nT a.pre + bp nT a.post + bp iY a.code + bp nP a.pts ≤ (1073741824 : Int) ∧ a.size ≤ 1073741824 := by
 have g1 := nQ hz1' (by decide)
 have k1 := ma a.pre
 have k2 := ma a.post
 have k3 := uv a.code
 have k4 := s3 a.pts
 have e1 : a.size = szs Tm.size a.pre + szs Tm.size a.post + a.code.length + szs Pt.size a.pts := rfl
 omega
theorem law1225 {L : Nat} (h1 : 4096 ≤ L) (h2 : L ≤ 9223372036854775807) {a : An} : MC Tryz.prog L 4 [aAn a] [] (Plain (eB true)) := by
 by_cases hz1 : eh 1048576 a.size < 0
 exact uQ h1 h2 hz1
 have hz1' : 0 ≤ eh 1048576 a.size := by omega
 obtain ⟨hcp, hsz⟩ := xf hz1'
 refine MC.facts ⟨_, _, Tryz.func4, by kernel_rfl, Z⟩ fun hF => ?_
 refine te (L0 := 1073741824) Z ?_ ?_
 exact ⟨sW hF.1 hsz, trivial⟩
 cases hv : du a with
 | false => exact nG (by decide) (ch _) (rW (by decide) (ch _) hv) (nF (by decide) (ch _) (rd (by decide) (ch _) (fun h => by rw [hv] at h; cases h))) hz1' hcp
 | true =>
 have hva := fE hv
 cases hcl : dr a with
 | false => exact nG (by decide) (ch _) (qK (by decide) (ch _) hv (uE (by decide) (ch _) hva hcl)) (nF (by decide) (ch _) (rd (by decide) (ch _) (fun _ => hcl))) hz1' hcp
 | true =>
  obtain ⟨he, hpl⟩ := tH hva (a.pts.length + 1) (ch _)
  have hA := uD (L := 1073741824) (by decide) (ch _) hva hcl (by decide)
  have hps := rh hva (n := a.pts.length + 1) (ch _)
  have hP := sZ (L := 1073741824) (by decide) (ch _) (by decide) hv hcl
  have hQ := rQ (L := 1073741824) (by decide) (ch _) (by decide) hv hcl
  rw [show r9 a = ej a (a.pts.length + 1) from Z] at hA
  generalize j0 a (a.pts.length + 1) = x at he hpl hP hQ hps
  generalize ej a (a.pts.length + 1) = y at he hA
  cases hb : x.bad with
  | true =>
   rw [show y.bad = true from he.bad ▸ hb] at hA
   exact nG (by decide) (ch _) (qK (by decide) (ch _) hv hA) (nF (by decide) (ch _) (hQ hb)) hz1' hcp
  | false =>
   have e := he.eq hb
   subst e
   rw [hb] at hA
   exact uP (r := x.paths) (by decide) (ch _) Z (by have := hpl hb; have := rf hps; omega) (qK (by decide) (ch _) hv hA) (uO (by decide) (ch _) (hP hb)) hz1' hcp
end Go.Al
/- What the laws of annotated code share: the types of their arguments. -/
namespace Go.Proofs.YtikejfdfkemmmaaGreat
open Go.ChangeShapes Go.WideShapes Go.ChangeAt Go.RowKit Go.Al
abbrev qp : List Ty := [.int .i64, .int .i64]
abbrev ve : List Ty := [.int .i64, .slc r3]
abbrev yO : List Ty := [.slc r3, .slc r3, .slc qp, .slc ve]
theorem wv : TyOf Tryz.prog 145 qp := .struct Tryz.underlying145 (show FieldsAre Tryz.prog _ (r5 ++ (r5 ++ [])) 0 from .cons rfl (by kernel_rfl) vi (.cons rfl (by kernel_rfl) vi .nil)) (by kernel_rfl)
theorem ya : TyOf Tryz.prog 23 [.slc qp] := .slc Tryz.underlying23 wv (by kernel_rfl) (by decide)
theorem ww : TyOf Tryz.prog 125 ve := .struct Tryz.underlying125 (show FieldsAre Tryz.prog _ (r5 ++ ([.slc r3] ++ [])) 0 from .cons rfl (by kernel_rfl) vi (.cons rfl (by kernel_rfl) t4 .nil)) (by kernel_rfl)
theorem x9 : TyOf Tryz.prog 24 [.slc ve] := .slc Tryz.underlying24 ww (by kernel_rfl) (by decide)
theorem of50 : TyOf Tryz.prog 26 yO := .struct Tryz.underlying26 (show FieldsAre Tryz.prog _ ([.slc r3] ++ ([.slc r3] ++ ([.slc qp] ++ ([.slc ve] ++ [])))) 0 from
  .cons Z (by kernel_rfl) t4 (.cons Z (by kernel_rfl) t4 (.cons Z (by kernel_rfl) ya (.cons Z (by kernel_rfl) x9 .nil)))) (by kernel_rfl)
theorem n4 {e : List D} (h : FitsL qp e) : ∃ x : In, e = x.cells := by
 cases h with
 | cons a1 h =>
  cases h with
  | cons a2 h =>
   cases h
   obtain ⟨n1, rfl⟩ := fZ a1
   obtain ⟨n2, rfl⟩ := fZ a2
   exact ⟨⟨n1, n2⟩, Z⟩
theorem n3 {e : List D} (h : FitsL ve e) : ∃ p : Pt, e = p.cells := by
 cases h with
 | cons a1 h =>
  cases h with
  | cons a2 h =>
   cases h
   obtain ⟨n1, rfl⟩ := fZ a1
   obtain ⟨x2, rfl⟩ := ig a2
   exact ⟨⟨n1, x2⟩, Z⟩
theorem fits_an {e : List D} (h : FitsL yO e) : ∃ a : An, e = a.data := by
 cases h with
 | cons a1 h =>
  cases h with
  | cons a2 h =>
   cases h with
   | cons a3 h =>
    cases h with
    | cons a4 h =>
     cases h
     obtain ⟨x1, rfl⟩ := ig a1
     obtain ⟨x2, rfl⟩ := ig a2
     cases a3 with
     | slc a3 =>
      cases a4 with
      | slc a4 =>
       obtain ⟨x3, rfl⟩ := f1 (g := In.cells) (fun e he => n4 he) a3
       obtain ⟨x4, rfl⟩ := f1 (g := Pt.cells) (fun e he => n3 he) a4
       exact ⟨⟨x1, x2, x3, x4⟩, Z⟩
end Go.Proofs.YtikejfdfkemmmaaGreat
