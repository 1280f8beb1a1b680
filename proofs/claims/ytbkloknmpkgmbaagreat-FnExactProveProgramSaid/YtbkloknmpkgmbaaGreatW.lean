/- The law, walked. -/
import Derived.Test.YtbkloknmpkgmbaaGreatF
import Derived.Test.YtbkloknmpkgmbaaGreatI
import Derived.Test.YtbkloknmpkgmbaaGreatS
import Derived.Test.YtbkloknmpkgmbaaGreatH
set_option linter.unusedVariables false
set_option linter.unusedSimpArgs false
set_option maxRecDepth 10000
set_option maxHeartbeats 4000000
open Go.Proofs
namespace Go.Al
variable {L : Nat} (h1 : 4096 ≤ L) (h2 : L ≤ 1073741824)
theorem ug {s : Sq} {b : Int} (hv : (fw s b).2 = true) (h : ((ox s).2 && gG b) = false) : False := by rw [rh h] at hv; cases hv
theorem wu {s : Sq} {b : Int} (h1 : (ox s).2 = true) (h2 : gG b = true) : ((gK b (15 - (s.facts ++ [(aR s.goal).1]).length) (s.facts ++ [(aR s.goal).1]) ([], false)).2 = true → fw s b = ([], false)) ∧
    ((gK b (15 - (s.facts ++ [(aR s.goal).1]).length) (s.facts ++ [(aR s.goal).1]) ([], false)).2 = false → fw s b = ((gK b (15 - (s.facts ++ [(aR s.goal).1]).length) (s.facts ++ [(aR s.goal).1]) ([], false)).1, true)) := by
 obtain ⟨h3, h4⟩ := si h1
 rw [lI h3 h2]
 exact qV h3 (by rw [oC]; exact h4) (by have := jL h2; omega)
variable {b : Int}
theorem Av {s : Sq} (hv : (fw s b).2 = true) : MQ h1 h2 105 [AZ s, eI b] [] (Rows (.tup [.c (.rs 0 0 (fw s b).1.length), eB true]) [mo (fw s b).1]) := by
 refine bI (jB 36 h1 h2 Tryz.func105 Z Z Z fun O hF => ?_)
 refine ah (jx O Z (au ?_))
 refine ay (Ent.freeze 2 (e' := [(2, _), (1, _)]) Z (.cons Z (.c (.box (cs := Sq.cells s) Z (aE Z))) (fe [1] Z)) (.skip .nil)) ?_
 refine au ?_
 refine j2 O Z Z (aV (js O Z (jf [10,5,4,1] Z (ar O Z Z Z Z (Bm (s := s) h1 h2) (aa Z) Z Z Z Z (B0 := 12000) Z Z (j4 O Z Z Z Z (js O Z (jf [7,6,5,4,1] Z (jn (ag (ah (j3 O Z Z Z (jf [16,6,5,4,1] Z (az 3 Z Z Z (fun hx => ab hx Z Z Z (V O Z) Z Z ( bv O hx Z Z Z Z (qS h1 h2) (aa Z) Z Z Z Z Z Z Z (B0 := 19000) Z ( ab hx Z Z Z (V O Z) Z Z ( AN.nil)))) Z Z (ac (aL O Z Z Z Z Z) Z Z Z (jf [20,6,5,4,1] Z (jn (ae O Z Z (fun hc20 => ?_) (fun hc20 => ?_))))))))))))))))))
 exact (ug hv (Df hc20)).elim
 refine aj (ah ?_)
 obtain ⟨hq1, hq2⟩ := C5 hc20
 obtain ⟨hq3, hq4⟩ := si hq1
 have hok : (aR s.goal).2 = true := by rw [oC]; exact hq4
 have hfc := kO hq3 hok
 have hlen := hfc.len
 have hbb := jL hq2
 obtain ⟨hw1, hw2⟩ := wu hq1 hq2
 have hwl : ((gK b (15 - (s.facts ++ [(aR s.goal).1]).length) (s.facts ++ [(aR s.goal).1]) ([], false)).1.length : Int) ≤ b := kN (by show (0 : Int) ≤ b; omega)
 rw [qn hq3, yw hok]
 refine j2 O Z Z (jf [22,6,5,4,1] Z (jx O Z (au ?_)))
 refine js O Z (jf [8,6,5,4,1] Z (aV (j2 O Z Z (jf [25,24,8,5,4,1] Z (ay (cd 23 901 5 false 1 Z Z Z) (aB O [23,901] (bin := [fS b ([], false) 1, cQ []]) Z Z Z Z (yO (b := b) h1 h2 hbb (15 - (s.facts ++ [(aR s.goal).1]).length) (s.facts ++ [(aR s.goal).1]) ([], false) ⟨.inl hfc, by omega, by simp, by omega, by show (0 : Int) ≤ b; omega⟩) Z Z Z Z Z Z (B0 := 27000) Z Z (au ?_)))))))
 refine jf [8,5,4,1] Z (jn (ag (ah (j4 O Z Z Z Z (jf [30,8,5,4,1] Z (jn (ae O Z Z (fun hc30 => ?_) (fun hc30 => ?_))))))))
 rw [hw1 hc30] at hv; cases hv
 refine aj (ah (j4 O Z Z Z Z (jf [34,8,5,4,1] Z (bn O (B0 := 36000) Z Z Z Z (yN (ts := (gK b (15 - (s.facts ++ [(aR s.goal).1]).length) (s.facts ++ [(aR s.goal).1]) ([], false)).1) h1 h2) (.cons (.c (.whole Z (bz _).symm)) .nil) Z Z Z Z Z Z (au ?_)))))
 refine j2 O Z Z (jf [5,4,8,1] Z (jr ?_))
 rw [hw2 hc30]
 refine ⟨.inl Z, _, am, _, Z, [36000], by decide, Z, Z, Z⟩
theorem xQ {p : List Nd} (hn : ∀ x ∈ p, rY x = true) (hp : p.length ≤ 60) : cn nN p ≤ 2000 := by
 have key : ∀ l : List Nd, (∀ x ∈ l, rY x = true) → cn nN l ≤ 33 * l.length := by
  intro l hl
  induction l with
  | nil => simp [cn]
  | cons t r ih =>
   have h1 := ih fun t ht => hl t (by simp [ht])
   have h2 := hl t (by simp)
   have h3 := lK (wE h2)
   have h4 := wF h2
   simp only [cn, List.map_cons, List.sum_cons, dL] at h1 ⊢
   have : nN t = 3 + t.term.xs.length + t.mul.length := rfl
   omega
 have := key p hn
 omega
abbrev rZ (k : Int) (p : List Nd) : List Nd := bb mN nN k p
abbrev kF (p : List Nd) : Nat := cn nN p

variable {k : Int}
theorem Ai : MQ h1 h2 32 [.c (.d (r5 [])), eI k] [] (Plain (eI k)) := by
 refine aA ?_ Z
 refine jB 19 h1 h2 Tryz.func32 Z Z Z fun O hF => ?_
 refine ah (js O Z (jn (ag (ah (js O Z (jn (ao (aq (X := Nat) (fun i => ⟨[(0, .c (.d (r5 []))), (1, eI k), (5, eI 0)], []⟩) (fun i => True) (fun i => 0) 0 (Ent.env ⟨Z, Z, Z, trivial⟩) ?_ (fun i hi => ?_)))))))))
 trivial
 refine ag (ah (j2 O Z Z (cu O Z (js O Z (jn (ae O Z Z (fun hc9 => ?_) (fun hc9 => ?_)))))))
 try simp only [aT] at hc9
 exact absurd hc9 (by simp)
 try simp only [aT] at hc9
 refine aO (ah (j2 O Z Z (jr ?_)))
 refine ⟨.inl Z, _, am, _, Z, ?_⟩
 first | rfl | skip
variable {ts : List (List Nd)}
theorem CF (hk0 : 0 ≤ k) (hk1 : k + cn kF ts ≤ 1073741824) : MQ h1 h2 32 [.c (.rs 0 0 ts.length), eI k] [(0, fV ts)] (bc (eI (k + cn kF ts)) [(0, fV (bb rZ kF k ts))]) := by
 refine jH 19 [0] h1 h2 Tryz.func32 Z Z Z Z fun O hF => ?_
 refine hJ 0 Z (fun hB => ?_)
 have hl : ts.length ≤ L := by simpa [B.fact] using hB.1
 refine ah (js O Z (jn (ag (ah (js O Z (jn (ao (aq (X := Nat) (fun i => ⟨[(0, .c (.rs 0 0 ts.length)), (1, eI (k + cn kF (ts.take i))), (5, eI i)], [(0, fV (mk rZ kF k i ts))]⟩) (fun i => i ≤ ts.length) (fun i => ts.length - i) 0 (Ent.to ⟨Z, by simp [cg, aF, cn], Z, trivial⟩ (by simp [kP])) ?_ (fun i hi => ?_)))))))))
 exact ct _
 refine ag (ah (j2 O Z Z (dk O Z Z (js O Z (jf [9,0,1,5] Z (jn (ae O Z Z (fun hc9 => ?_) (fun hc9 => ?_))))))))
 try simp only [aT] at hc9
 refine aj (ag (ao (ak ?_)))
 obtain ⟨K, hK⟩ : ∃ K, K = k + (cn kF (ts.take i) : Int) := ⟨_, rfl⟩
 rw [← hK]
 have hcs := gU (sz := kF) (show i < ts.length by omega)
 have hcl := lP (sz := kF) (l := ts) (i := i + 1)
 have hg := lL (f := rZ) (sz := kF) (k := k) (show i < ts.length by omega)
 have hs := jG (f := rZ) (sz := kF) (k := k) (show i < ts.length by omega)
 rw [← ax (show i < ts.length by omega)] at hcs hg hs
 obtain ⟨t, ht⟩ : ∃ t, t = ts.getD i default := ⟨_, rfl⟩
 rw [← ht] at hcs hg hs
 rw [← hK] at hs
 simp only [kF] at hcs
 have hb : K + (cn nN t : Nat) ≤ 1073741824 := by omega
 obtain ⟨R, hR⟩ : ∃ R, R = (mk rZ kF k i ts).map qE := ⟨_, rfl⟩
 have hRl : i < R.length := by rw [hR, bz, gZ]; omega
 have hRi : R[i]? = some (qE t) := by rw [hR, List.getElem?_map, hg]; rfl
 have hRn : R.set i (qE (rZ K t)) = (mk rZ kF k (i + 1) ts).map qE := by rw [hR, ← hs, List.map_set]
 have e0 : fV (mk rZ kF k i ts) = .row true 1 (R.set i (qE t)) := by rw [jR hRi, hR]
 rw [e0]
 refine j2 O Z Z (dk O Z Z (ac (aS O (ex := qE t) Z Z Z Z (by simp [hRl]) Z) Z Z Z (js O Z (jf [16,15,9,0,1,5] Z (ej O (l := 0) (j := 0) (z := 5) (ex := qE t) (ys := (t).map Nd.cells) (ys' := (bb mN nN K t).map Nd.cells) (xs' := R.set i (qE (rZ K t))) Z Z Z Z (.rp (.d Z .nil)) (.rp (.d Z .nil)) Z (by simp [hRl]) Z (Ey (ts := t) (k := K) h1 h2 (by omega) (by omega)).1 (fun _ => by rw [bz]; exact Ey (ts := t) h1 h2 (by omega) (by omega)) (fun hys => ?_) Z (by simp [bq]) Z Z Z Z (by simp) ?_)))))
 have hy : t = [] := by simpa using hys
 rw [hy]
 exact (D2 h1 h2 (k := K)).plain (by simp [cn, hy])
 refine au ?_
 refine js O Z (jf [1,9,0,5] Z (jn (ak (js O Z (ji O Z (js O Z (jf [5,1,9,0] Z (jn ?_))))))))
 refine ⟨i + 1, Ent.to ⟨Z, ?_, Z, trivial⟩ (by rw [fV, ← hRn]), by omega, by omega⟩
 rw [hcs]
 exact congrArg (fun z => some (eI z)) (by omega)
 try simp only [aT] at hc9
 refine aO (ah (j2 O Z Z (jr ?_)))
 refine ⟨.inl Z, _, am, _, Z, ?_⟩
 obtain rfl : i = ts.length := by omega
 rw [nk (cC _), List.take_length]
 exact ⟨Z, Z⟩
theorem tq (hk0 : 0 ≤ k) (hk1 : k + cn kF ts ≤ 1073741824) : MQ h1 h2 33 [iL (bb rZ kF k ts), eI k] [] (Plain (eI (k + cn kF ts))) := by
 refine aA ?_ Z
 refine jB 21 h1 h2 Tryz.func33 Z Z Z fun O hF => ?_
 have hlm := bq (f := rZ) (sz := kF) (k := k) (l := ts)
 have hl : (bb rZ kF k ts).length ≤ L := by simpa [As.fact, A.fact, M.fact, D.fact, Ds.fact] using hF.1.1
 refine ah (js O Z (jn (ag (ah (js O Z (jn (ao (aq (X := Nat) (fun i => ⟨[(0, iL (bb rZ kF k ts)), (1, eI (k + cn kF (ts.take i))), (5, eI i)], []⟩) (fun i => i ≤ ts.length) (fun i => ts.length - i) 0 (Ent.env ⟨Z, by simp [cg, aF, cn], Z, trivial⟩) ?_ (fun i hi => ?_)))))))))
 exact ct _
 refine ag (ah (j2 O Z Z (cu O Z (js O Z (jf [9,0,1,5] Z (jn (ae O Z Z (fun hc9 => ?_) (fun hc9 => ?_))))))))
 refine aj (ag (ao (ah ?_)))
 have hil : i < ts.length := by have h9 := bC hc9; omega
 have hg := kv (f := rZ) (sz := kF) (k := k) hil
 have hcs := gU (sz := kF) hil
 have hcl := lP (sz := kF) (l := ts) (i := i + 1)
 rw [← ax hil] at hcs
 obtain ⟨t, ht⟩ : ∃ t, t = ts.getD i default := ⟨_, rfl⟩
 rw [← ht] at hg hcs
 simp only [kF] at hcs
 obtain ⟨K, hK⟩ : ∃ K, K = k + (cn kF (ts.take i) : Int) := ⟨_, rfl⟩
 rw [← hK] at hg ⊢
 refine j2 O Z Z (ac ((aP O Z Z Z Z Z Z Z Z (dc (by omega))).cast (v' := ptr (qE (rZ K t))) (by rw [hg])) Z Z Z (j2 O Z Z (jf [16,15,9,0,1,5] Z (ap O Z Z Z Z (C1 (ts := t) (k := K) h1 h2 (by omega) (by omega)) (aa Z) Z Z Z Z Z (B0 := 18000) Z (js O Z (jf [1,9,0,5] Z (aV (j2 O Z Z (jn (ae O Z Z (fun hc19 => ?_) (fun hc19 => ?_)))))))))))
 exact absurd (bC hc19) (by omega)
 refine aj (ak (js O Z (ji O Z (js O Z (jf [5,19,18,1,9,0] Z (jn ?_))))))
 refine ⟨i + 1, Ent.env ⟨Z, ?_, Z, trivial⟩, by omega, by omega⟩
 rw [hcs]
 exact congrArg (fun z => some (eI z)) (by omega)
 refine aO (ah (j2 O Z Z (jr ?_)))
 refine ⟨.inl Z, _, am, _, Z, ?_⟩
 have h9 := cH hc9
 obtain rfl : i = ts.length := by omega
 rw [List.take_length]
theorem xF {ss : List Sq} {b : Int} {i : Nat} (hi : i < ss.length) (h : ∀ s ∈ ss, (fw s b).2 = true) : (fw (ss.getD i default) b).2 = true := by rw [ax hi]; exact h _ (List.getElem_mem hi)
variable {ss : List Sq}
theorem Aj (hq : tY ss = true) (hb : gG b = true) (ha : ∀ s ∈ ss, (fw s b).2 = true) : MQ h1 h2 61 [lE ss, eI b] [] (Rows (.tup [.c (.rs 0 0 ss.length), eB true]) [fV (ss.map (fun s => (fw s b).1))]) := by
 refine bI (jB 39 h1 h2 Tryz.func61 Z Z Z fun O hF => ?_)
 have hl : ss.length ≤ L := by simpa [As.fact, A.fact, M.fact, D.fact, Ds.fact] using hF.1.1
 refine ah (j2 O Z Z (jn (ag (ah (js O Z (ap O Z Z Z Z ((vw (ss := ss) h1 h2).plain (u := eB true) (congrArg eB hq)) (aa Z) Z Z Z Z Z (B0 := 13000) Z (j2 O Z Z (jf [14,5,4,0,1] Z (az 3 Z Z Z (fun hx => ab hx Z Z Z (V O Z) Z Z ( bv O hx Z Z Z Z ((qS (b := b) h1 h2).plain (u := eB true) (congrArg eB hb)) (aa Z) Z Z Z Z Z Z Z (B0 := 17000) Z ( ab hx Z Z Z (V O Z) Z Z ( AN.nil)))) Z Z (ac (aL O Z Z Z Z Z) Z Z Z (jf [18,5,4,0,1] Z (jn (ae O Z Z (fun hc18 => ?_) (fun hc18 => ?_))))))))))))))
 exact absurd hc18 (by decide)
 refine aj (ah (js O Z (jn (ag (ah (js O Z (cu O Z (js O Z (jn (ao (aq (X := Nat) (fun i => ⟨[(1, eI b), (6, .c (.rs 900 0 i)), (19, lE ss), (20, eI ss.length), (21, eI i)], [(900, fV ((ss.take i).map (fun s => (fw s b).1)))]⟩) (fun i => i ≤ ss.length) (fun i => ss.length - i) 0 ((cb 6 900 1 true Z Z).trans (Ent.to ⟨Z, Z, Z, Z, Z, trivial⟩ Z)) ?_ (fun i hi => ?_))))))))))))
 exact ct _
 refine ah (js O Z (jn (ag (ae O Z Z (fun hc22 => ?_) (fun hc22 => ?_)))))
 refine aj (ag (ao (ah ?_)))
 have hil : i < ss.length := by have := bC hc22; omega
 refine ac (aP O Z Z Z Z Z Z Z Z (dc hil)) Z Z Z (js O Z (jf [24,22,1,6,19,20,21] Z (jl O Z (au ?_))))
 refine jo O Z (au ?_)
 refine aV (j2 O Z Z (bn O (B0 := 29000) Z Z Z Z (Av (s := (ss.getD i default)) (b := b) h1 h2 (xF hil ha)) (aa Z) Z Z Z Z Z Z (au ?_)))
 refine j4 O Z Z Z Z (js O Z (jf [10,9,8,24,22,1,6,19,20,21] Z (jn (ag (ah (j2 O Z Z (jf [32,9,8,24,22,1,6,19,20,21] Z (jn (ae O Z Z (fun hc32 => ?_) (fun hc32 => ?_))))))))))
 exact absurd hc32 (by decide)
 refine aj (ak (j2 O Z Z (jf [34,33,32,8,24,22,1,6,19,20,21] Z (ay (aw [900,29000] (e' := [(34, _), (1, _), (19, _), (20, _), (21, _), (33, _)]) Z Z ⟨Z, Z, Z, Z, Z, Z, trivial⟩ Z) (AOps.heap (jZ (ds := qE (fw (ss.getD i default) b).1) O Z Z Z Z Z Z Z Z Z Z (.rs Z (bz _).symm .nil) Z Z Z) Z (au ?_))))))
 refine au ?_
 refine jf [35,1,19,20,21,33] Z (AOps.heap (cm (zs := ((ss.take (i + 1)).map (fun s => (fw s b).1)).map qE) (n := i + 1) O Z Z Z Z Z Z Z Z Z Z Z Z Z Z Z Z (.row Z (by simp; omega)) Z Z (by decide) Z (by simp; omega) (by simp; omega) (by rw [List.take_succ_eq_append_getElem hil, List.map_append, List.map_append, ax hil]; rfl) (by simp; omega)) Z (au ?_))
 refine au ?_
 refine js O Z (jf [6,1,19,20,21] Z (jn (ak (ji O Z (js O Z (jn ?_))))))
 refine ⟨i + 1, ((aw [36] (e' := [(1, _), (6, _), (19, _), (20, _), (21, _)]) Z Z ⟨Z, Z, Z, Z, Z, trivial⟩ Z).trans (af 36 900 Z Z)), by omega, by omega⟩
 refine aO (ah (j3 O Z Z Z (jr ?_)))
 obtain rfl : i = ss.length := by have := cH hc22; omega
 rw [List.take_length]
 refine ⟨.inl Z, _, am, _, Z, [900], by decide, Z, Z, Z⟩
theorem xX (hg : (tY ss && gG b) = false) : MQ h1 h2 61 [lE ss, eI b] [] (Rows (.tup [.c (.d .nils), eB false]) []) := by
 refine bI (jB 39 h1 h2 Tryz.func61 Z Z Z fun O hF => ?_)
 refine ah (j2 O Z Z (jn (ag (ah (js O Z (ap O Z Z Z Z (vw h1 h2) (aa Z) Z Z Z Z Z (B0 := 13000) Z (j2 O Z Z (jf [14,5,4,0,1] Z (az 3 Z Z Z (fun hx => ab hx Z Z Z (V O Z) Z Z ( bv O hx Z Z Z Z (qS h1 h2) (aa Z) Z Z Z Z Z Z Z (B0 := 17000) Z ( ab hx Z Z Z (V O Z) Z Z ( AN.nil)))) Z Z (ac (aL O Z Z Z Z Z) Z Z Z (jf [18,5,4,0,1] Z (jn (ae O Z Z (fun hc18 => ?_) (fun hc18 => ?_))))))))))))))
 refine ah (j2 O Z Z (jr ?_))
 refine ⟨.inl Z, _, am, _, Z, [], by decide, Z, Z, Z⟩
 obtain ⟨q1, q2⟩ := C5 hc18; rw [q1, q2] at hg; cases hg
theorem xW (hq : tY ss = true) (hb : gG b = true) (hn : (gm b ss).length < ss.length) : MQ h1 h2 61 [lE ss, eI b] [] (Rows (.tup [.c (.d .nils), eB false]) []) := by
 refine bI (jB 39 h1 h2 Tryz.func61 Z Z Z fun O hF => ?_)
 have hl : ss.length ≤ L := by simpa [As.fact, A.fact, M.fact, D.fact, Ds.fact] using hF.1.1
 obtain ⟨hq3, hq4⟩ := m6 hq
 refine ah (j2 O Z Z (jn (ag (ah (js O Z (ap O Z Z Z Z ((vw (ss := ss) h1 h2).plain (u := eB true) (congrArg eB hq)) (aa Z) Z Z Z Z Z (B0 := 13000) Z (j2 O Z Z (jf [14,5,4,0,1] Z (az 3 Z Z Z (fun hx => ab hx Z Z Z (V O Z) Z Z ( bv O hx Z Z Z Z ((qS (b := b) h1 h2).plain (u := eB true) (congrArg eB hb)) (aa Z) Z Z Z Z Z Z Z (B0 := 17000) Z ( ab hx Z Z Z (V O Z) Z Z ( AN.nil)))) Z Z (ac (aL O Z Z Z Z Z) Z Z Z (jf [18,5,4,0,1] Z (jn (ae O Z Z (fun hc18 => ?_) (fun hc18 => ?_))))))))))))))
 exact absurd hc18 (by decide)
 refine aj (ah (js O Z (jn (ag (ah (js O Z (cu O Z (js O Z (jn (ao (aq (X := Nat) (fun i => ⟨[(1, eI b), (6, .c (.rs 900 0 i)), (19, lE ss), (20, eI ss.length), (21, eI i)], [(900, yn (ss.take i) b)]⟩) (fun i => i ≤ ss.length ∧ ∀ j (h : j < ss.length), j < i → (cI ss[j] b).2 = true) (fun i => ss.length - i) 0 ((cb 6 900 1 false Z Z).trans (Ent.to ⟨Z, Z, Z, Z, Z, trivial⟩ Z)) ?_ (fun i hi => ?_))))))))))))
 exact ⟨ct _, fun j h hj => absurd hj (Nat.not_lt_zero j)⟩
 refine ah (js O Z (jn (ag (ae O Z Z (fun hc22 => ?_) (fun hc22 => ?_)))))
 refine aj (ag (ao (ah ?_)))
 have hil : i < ss.length := by have := bC hc22; omega
 refine ac (aP O Z Z Z Z Z Z Z Z (dc hil)) Z Z Z (js O Z (jf [24,22,1,6,19,20,21] Z (jl O Z (au ?_))))
 refine jo O Z (au ?_)
 refine aV (j2 O Z Z (ar O Z Z Z Z ((C0 (s := (ss.getD i default)) (b := b) h1 h2).plain (u := oB (cI (ss.getD i default) b)) (by rw [lI (tR hq3 hil) hb])) (aa Z) Z Z Z Z (B0 := 29000) Z Z (j4 O Z Z Z Z (js O Z (jf [10,9,8,24,22,1,6,19,20,21] Z (jn (ag (ah (j2 O Z Z (jf [32,9,8,24,22,1,6,19,20,21] Z (jn (ae O Z Z (fun hc32 => ?_) (fun hc32 => ?_)))))))))))))
 refine ah (j2 O Z Z (jr ?_))
 refine ⟨.inl Z, _, am, _, Z, [], by decide, Z, Z, Z⟩
 refine aj (ak (j2 O Z Z (jf [34,33,32,8,24,22,1,6,19,20,21] Z (AOps.heap (bE O Z Z Z Z Z Z Z Z Z Z Z) Z (au ?_)))))
 refine jf [35,33,32,8,24,22,1,6,19,20,21] Z (AOps.heap (aU (own := false) (xs := (ss.take i).map fun s => x4 s b) (ys := [x4 (ss.getD i default) b]) (zs := (ss.take (i + 1)).map fun s => x4 s b) (n := i + 1) O Z Z Z Z Z Z Z Z Z Z Z Z Z Z Z Z (.row Z (by simp; omega)) (.whole Z Z (.inr ⟨Z, Z⟩)) (by simp) Z (by simp; omega) (by simp; omega) (by rw [List.take_succ_eq_append_getElem hil, List.map_append, ax hil]; rfl) (by simp; omega)) Z (au ?_))
 refine au ?_
 refine js O Z (jf [6,32,8,24,22,1,19,20,21] Z (jn (ak (ji O Z (js O Z (jn ?_))))))
 refine ⟨i + 1, ((aw [36] (e' := [(1, _), (6, _), (19, _), (20, _), (21, _)]) Z Z ⟨Z, Z, Z, Z, Z, trivial⟩ Z).trans (af 36 900 Z Z)), ⟨by omega, fun j h hj => ?_⟩, by omega⟩
 by_cases e : j = i
 subst e; rw [ax h] at hc32; exact AC hc32
 exact hi.2 j h (by omega)
 exact absurd hn (by rw [pr (fun j hj => hi.2 j hj (by have := cH hc22; omega)), bz]; omega)
theorem t3 {L : Nat} (h1 : 4096 ≤ L) (h2 : L ≤ 1073741824) {p : Pm} : MC Tryz.prog L 27 [aPm p] [] (Plain (aPm p)) := (Dm h1 h2).frozen (.v (.agg (.cons (.whole rfl (bz _).symm) (.cons (.whole rfl (bz _).symm) (.cons (.whole rfl (bz _).symm) .nil)))))












theorem wV (b : List Sm) : cn nS b ≤ 5 * szs Sm.size b := by
 unfold cn szs
 induction b with
 | nil => simp
 | cons t r ih =>
  simp only [List.map_cons, List.sum_cons, dL] at ih ⊢
  have h1 : nS t = 5 + t.sum.xs.length + t.index.xs.length + cn nT t.facts := rfl
  have h2 : Sm.size t = t.sum.xs.length + t.index.xs.length + szs Tm.size t.facts := rfl
  have h3 := qo t.facts
  omega
theorem ut {L S : Nat} {b : List Sm} (h : D.fact L (gj b)) (hl : szs Sm.size b ≤ S) : D.fact S (gj b) := by
 unfold szs at hl
 simp only [D.fact, bz, fN] at h ⊢
 refine ⟨by omega, fun s hs => ?_⟩
 have h1 := h.2 s hs
 have h2 := qa Sm.size hs
 have h3 : Sm.size s = s.sum.xs.length + s.index.xs.length + szs Tm.size s.facts := rfl
 exact ⟨h1.1, h1.2.1, h1.2.2.1, h1.2.2.2.1, l8 h1.2.2.2.2.1 (by omega), h1.2.2.2.2.2.1, l8 h1.2.2.2.2.2.2.1 (by omega), nF h1.2.2.2.2.2.2.2.1 (by omega), trivial⟩
theorem xN {L S : Nat} {p : Pm} (h : A.fact L (aPm p)) (hl : szs Tm.size p.pre + szs Sm.size p.body + szs Tm.size p.post ≤ S) : A.fact S (aPm p) :=
  ⟨nF h.1 (by omega), ut h.2.1 (by omega), nF h.2.2.1 (by omega), trivial⟩
theorem qe (p : Pm) : iE p = gI p := by
 unfold iE gI
 rw [xY]
 cases uO p.body <;> cases de p.pre 6 <;> rfl
theorem B1 {p : Pm} (hp : iE p = true) : ∃ t, PtOk p t ∧ w6 p.body = t.d := by
 have htb : uO p.body = true := by
  have h := hp
  rw [qe] at h
  unfold gI at h; simp only [bP] at h; exact h.1
 obtain ⟨t, g1, g2, g3⟩ := ra htb
 have hc := q7 (show cq (p.body.length + 1) p.body 0 = some (t, p.body.length) from g1)
 unfold iE iQ at hp
 simp only [bP, decide_eq_true_eq] at hp
 obtain ⟨q1, ⟨⟨⟨q2, q3⟩, q4, q5⟩, q6⟩⟩ := hp
 refine ⟨t, ⟨by omega, g1, hc.2.1, by have := hc.2.2; omega, fun k hk => ?_, q1, q6⟩, g3⟩
 rw [ax hk]
 exact List.all_eq_true.1 q4 _ (List.getElem_mem hk)
theorem zr {p : Pm} {t : Tr} (ht : PtOk p t) : (p.pre :: (iC t).lp.map (·.s.facts)).length = bf p.body p.body.length + 1 := by
 have : (iC t).lp.length = bf p.body p.body.length := (mn ht.tree).1.len
 rw [dL, bz, this]
theorem C2 {L : Nat} (h1 : 4096 ≤ L) (h2 : L ≤ 1073741824) (hL : 600000000 ≤ L) {p : Pm} {t : Tr} (ht : PtOk p t) : MC Tryz.prog L 76 [.c (.pt 0 0 0), eB true, eI 0, .c (.fb 77 [.pt 0 0 0])] (yT p t g0) (bc (eB (!(mQ p t (bf p.body p.body.length + 1)).bad)) (w7 p t (mQ p t (bf p.body p.body.length + 1)))) := by
 have hl := zr ht
 have hnl := fI (b := p.body) (k := p.body.length)
 have hlen := ht.len
 have hst : ∀ i, (mQ p t i).bad = true → mQ p t (i + 1) = mQ p t i := fun i h => by rw [mQ, ly, oQ h]
 have hok : ∀ i, i ≤ bf p.body p.body.length + 1 → GOk (i * 16252928) (mQ p t i) := fun i hi => by
  induction i with
  | zero => rw [mQ]; exact vo.le (ct _)
  | succ i ih =>
    rw [mQ, ly]
    exact (rd ht.e ht.tree ht.nodes (by omega) (ih (by omega))).le (by omega)
 have := z4 (p := p) (t := t) (k := 0) (al := mQ p t) h1 h2 (by omega) hst Z (fun i hi hb => by
  rw [mQ]
  exact CC h1 h2 ht (by omega) (hok i (by omega)) (by omega))
 rw [hl] at this
 exact this
variable {p : Pm}
theorem zN (hp : iE p = false) : MQ h1 h2 26 [aPm p, eI b] [] (Plain (.tup [iL ([] : List (List Nd)), eB false])) := by
 refine MC.data (jB 38 h1 h2 Tryz.func26 Z Z Z fun O hF => ?_)
 refine ah (jx O Z (au ?_))
 refine ay (Ent.freeze 2 (e' := [(2, _), (0, _), (1, _)]) Z (.cons Z (.c (.box (cs := Pm.data p) Z (aE Z))) (fe [0,1] Z)) (.skip .nil)) ?_
 refine au ?_
 refine j2 O Z Z (jn (ag (ah (ap O Z Z Z Z ((AH (p := p) h1 h2).plain (u := eB false) (by rw [hp])) (aa Z) Z Z Z Z Z (B0 := 11000) Z (j2 O Z Z (jf [12,5,4,2,0,1] Z (AOps.skip Z Z Z Z Z Z (AOps.skip Z Z Z Z Z Z (jf [14,12,5,4,2,0,1] Z (AOps.skip Z Z Z Z Z Z (ac (cy O Z Z Z Z Z) Z Z Z (jf [16,5,4,2,0,1] Z (jn (ae O Z Z (fun hc16 => ?_) (fun hc16 => ?_)))))))))))))))
 refine ah (j2 O Z Z (jr ?_))
 refine ⟨.inl Z, _, am, _, Z, ?_⟩
 exact .tup (.cons (.c .nils) (.cons (.c .d) .nil))
 exact absurd hc16 (by decide)
theorem sk (hp : iE p = true) (hb : gG b = false) : MQ h1 h2 26 [aPm p, eI b] [] (Plain (.tup [iL ([] : List (List Nd)), eB false])) := by
 refine MC.data (jB 38 h1 h2 Tryz.func26 Z Z Z fun O hF => ?_)
 refine ah (jx O Z (au ?_))
 refine ay (Ent.freeze 2 (e' := [(2, _), (0, _), (1, _)]) Z (.cons Z (.c (.box (cs := Pm.data p) Z (aE Z))) (fe [0,1] Z)) (.skip .nil)) ?_
 refine au ?_
 refine j2 O Z Z (jn (ag (ah (ap O Z Z Z Z ((AH (p := p) h1 h2).plain (u := eB true) (by rw [hp])) (aa Z) Z Z Z Z Z (B0 := 11000) Z (j2 O Z Z (jf [12,5,4,2,0,1] Z (dB Z (js O Z (dB Z (ap O Z Z Z Z ((qT (b := b) h1 h2).plain (u := eB false) (by rw [hb])) (aa Z) Z Z Z Z Z (B0 := 15000) Z (jf [14,12,5,4,2,0,1] Z (dB Z (js O Z (ac (aL O Z Z Z Z Z) Z Z Z (jf [16,5,4,2,0,1] Z (jn (ae O Z Z (fun hc16 => ?_) (fun hc16 => ?_))))))))))))))))))
 refine ah (j2 O Z Z (jr ?_))
 refine ⟨.inl Z, _, am, _, Z, ?_⟩
 exact .tup (.cons (.c .nils) (.cons (.c .d) .nil))
 exact absurd hc16 (by decide)
variable {ps : List Pth} {cs : List Sq}
theorem zM (hp : iE p = true) (hb : gG b = true) (hA : MQ h1 h2 43 [ptr p.data] [] (Plain (.tup [.c (.d (u4 ps)), .c (.d (r4 cs)), eB false]))) : MQ h1 h2 26 [aPm p, eI b] [] (Plain (.tup [iL ([] : List (List Nd)), eB false])) := by
 refine MC.data (jB 38 h1 h2 Tryz.func26 Z Z Z fun O hF => ?_)
 refine ah (jx O Z (au ?_))
 refine ay (Ent.freeze 2 (e' := [(2, _), (0, _), (1, _)]) Z (.cons Z (.c (.box (cs := Pm.data p) Z (aE Z))) (fe [0,1] Z)) (.skip .nil)) ?_
 refine au ?_
 refine j2 O Z Z (jn (ag (ah (ap O Z Z Z Z ((AH (p := p) h1 h2).plain (u := eB true) (by rw [hp])) (aa Z) Z Z Z Z Z (B0 := 11000) Z (j2 O Z Z (jf [12,5,4,2,0,1] Z (dB Z (js O Z (dB Z (ap O Z Z Z Z ((qT (b := b) h1 h2).plain (u := eB true) (by rw [hb])) (aa Z) Z Z Z Z Z (B0 := 15000) Z (jf [14,12,5,4,2,0,1] Z (dB Z (js O Z (ac (aL O Z Z Z Z Z) Z Z Z (jf [16,5,4,2,0,1] Z (jn (ae O Z Z (fun hc16 => ?_) (fun hc16 => ?_))))))))))))))))))
 exact absurd hc16 (by decide)
 refine aj (ah (ar O Z Z Z Z (hA) (aa Z) Z Z Z Z (B0 := 19000) Z Z (j4 O Z Z Z Z (j3 O Z Z Z (jf [8,7,5,4,2,0,1] Z (jn (ag (ah (j3 O Z Z Z (jf [24,7,5,4,2,0,1] Z (AOps.skip Z Z Z Z Z Z (AOps.skip Z Z Z Z Z Z (jf [26,24,7,5,4,2,0,1] Z (AOps.skip Z Z Z Z Z Z (ac (cy O Z Z Z Z Z) Z Z Z (jf [28,7,5,4,2,0,1] Z (jn (ae O Z Z (fun hc28 => ?_) (fun hc28 => ?_)))))))))))))))))))
 refine ah (j2 O Z Z (jr ?_))
 refine ⟨.inl Z, _, am, _, Z, ?_⟩
 exact .tup (.cons (.c .nils) (.cons (.c .d) .nil))
 exact absurd hc28 (by decide)
theorem zL (hp : iE p = true) (hb : gG b = true) (hA : MQ h1 h2 43 [ptr p.data] [] (Plain (.tup [.c (.d (u4 ps)), .c (.d (r4 cs)), eB true]))) (hc : iJ cs = false) : MQ h1 h2 26 [aPm p, eI b] [] (Plain (.tup [iL ([] : List (List Nd)), eB false])) := by
 refine MC.data (jB 38 h1 h2 Tryz.func26 Z Z Z fun O hF => ?_)
 refine ah (jx O Z (au ?_))
 refine ay (Ent.freeze 2 (e' := [(2, _), (0, _), (1, _)]) Z (.cons Z (.c (.box (cs := Pm.data p) Z (aE Z))) (fe [0,1] Z)) (.skip .nil)) ?_
 refine au ?_
 refine j2 O Z Z (jn (ag (ah (ap O Z Z Z Z ((AH (p := p) h1 h2).plain (u := eB true) (by rw [hp])) (aa Z) Z Z Z Z Z (B0 := 11000) Z (j2 O Z Z (jf [12,5,4,2,0,1] Z (dB Z (js O Z (dB Z (ap O Z Z Z Z ((qT (b := b) h1 h2).plain (u := eB true) (by rw [hb])) (aa Z) Z Z Z Z Z (B0 := 15000) Z (jf [14,12,5,4,2,0,1] Z (dB Z (js O Z (ac (aL O Z Z Z Z Z) Z Z Z (jf [16,5,4,2,0,1] Z (jn (ae O Z Z (fun hc16 => ?_) (fun hc16 => ?_))))))))))))))))))
 exact absurd hc16 (by decide)
 refine aj (ah (ar O Z Z Z Z (hA) (aa Z) Z Z Z Z (B0 := 19000) Z Z (j4 O Z Z Z Z (j3 O Z Z Z (jf [8,7,5,4,2,0,1] Z (jn (ag (ah (j3 O Z Z Z (jf [24,7,5,4,2,0,1] Z (dB Z (js O Z (dB Z (ap O Z Z Z Z ((vu (ss := cs) h1 h2).plain (u := eB false) (by rw [hc])) (aa Z) Z Z Z Z Z (B0 := 27000) Z (jf [26,24,7,5,4,2,0,1] Z (dB Z (js O Z (ac (aL O Z Z Z Z Z) Z Z Z (jf [28,7,5,4,2,0,1] Z (jn (ae O Z Z (fun hc28 => ?_) (fun hc28 => ?_))))))))))))))))))))))
 refine ah (j2 O Z Z (jr ?_))
 refine ⟨.inl Z, _, am, _, Z, ?_⟩
 exact .tup (.cons (.c .nils) (.cons (.c .d) .nil))
 exact absurd hc28 (by decide)
theorem zJ (hp : iE p = true) (hb : gG b = true) (hA : MQ h1 h2 43 [ptr p.data] [] (Plain (.tup [.c (.d (u4 ps)), .c (.d (r4 cs)), eB true]))) (hc : iJ cs = true) (hn : (gm b cs).length < cs.length) : MQ h1 h2 26 [aPm p, eI b] [] (Plain (.tup [iL ([] : List (List Nd)), eB false])) := by
 refine MC.data (jB 38 h1 h2 Tryz.func26 Z Z Z fun O hF => ?_)
 obtain ⟨hq3, hq4⟩ := m6 hc
 refine ah (jx O Z (au ?_))
 refine ay (Ent.freeze 2 (e' := [(2, _), (0, _), (1, _)]) Z (.cons Z (.c (.box (cs := Pm.data p) Z (aE Z))) (fe [0,1] Z)) (.skip .nil)) ?_
 refine au ?_
 refine j2 O Z Z (jn (ag (ah (ap O Z Z Z Z ((AH (p := p) h1 h2).plain (u := eB true) (by rw [hp])) (aa Z) Z Z Z Z Z (B0 := 11000) Z (j2 O Z Z (jf [12,5,4,2,0,1] Z (dB Z (js O Z (dB Z (ap O Z Z Z Z ((qT (b := b) h1 h2).plain (u := eB true) (by rw [hb])) (aa Z) Z Z Z Z Z (B0 := 15000) Z (jf [14,12,5,4,2,0,1] Z (dB Z (js O Z (ac (aL O Z Z Z Z Z) Z Z Z (jf [16,5,4,2,0,1] Z (jn (ae O Z Z (fun hc16 => ?_) (fun hc16 => ?_))))))))))))))))))
 exact absurd hc16 (by decide)
 refine aj (ah (ar O Z Z Z Z (hA) (aa Z) Z Z Z Z (B0 := 19000) Z Z (j4 O Z Z Z Z (j3 O Z Z Z (jf [8,7,5,4,2,0,1] Z (jn (ag (ah (j3 O Z Z Z (jf [24,7,5,4,2,0,1] Z (dB Z (js O Z (dB Z (ap O Z Z Z Z ((vu (ss := cs) h1 h2).plain (u := eB true) (by rw [hc])) (aa Z) Z Z Z Z Z (B0 := 27000) Z (jf [26,24,7,5,4,2,0,1] Z (dB Z (js O Z (ac (aL O Z Z Z Z Z) Z Z Z (jf [28,7,5,4,2,0,1] Z (jn (ae O Z Z (fun hc28 => ?_) (fun hc28 => ?_))))))))))))))))))))))
 exact absurd hc28 (by decide)
 refine aj (ah (j2 O Z Z (jf [30,29,7,5,4,2,0,1] Z (ar O Z Z Z Z (yP (ss := cs) (b := b) h1 h2 hq3 (jL hb)) (aa Z) Z Z Z Z (B0 := 32000) Z Z (js O Z (jf [9,7,5,4,2,0,1] Z (jn (ag (ah (js O Z (cu O Z (js O Z (cu O Z (js O Z (jf [36,9,7,5,4,2,0,1] Z (jn (ae O Z Z (fun hc36 => ?_) (fun hc36 => ?_))))))))))))))))))
 refine ah (j2 O Z Z (jr ?_))
 refine ⟨.inl Z, _, am, _, Z, ?_⟩
 exact .tup (.cons (.c .nils) (.cons (.c .d) .nil))
 exact absurd (cH hc36) (by omega)
theorem zI (hp : iE p = true) (hb : gG b = true) (hA : MQ h1 h2 43 [ptr p.data] [] (Plain (.tup [.c (.d (u4 ps)), .c (.d (r4 cs)), eB true]))) (hc : iJ cs = true) (hn : ¬ (gm b cs).length < cs.length) : MQ h1 h2 26 [aPm p, eI b] [] (Plain (.tup [iL (gm b cs), eB true])) := by
 refine MC.data (jB 38 h1 h2 Tryz.func26 Z Z Z fun O hF => ?_)
 obtain ⟨hq3, hq4⟩ := m6 hc
 refine ah (jx O Z (au ?_))
 refine ay (Ent.freeze 2 (e' := [(2, _), (0, _), (1, _)]) Z (.cons Z (.c (.box (cs := Pm.data p) Z (aE Z))) (fe [0,1] Z)) (.skip .nil)) ?_
 refine au ?_
 refine j2 O Z Z (jn (ag (ah (ap O Z Z Z Z ((AH (p := p) h1 h2).plain (u := eB true) (by rw [hp])) (aa Z) Z Z Z Z Z (B0 := 11000) Z (j2 O Z Z (jf [12,5,4,2,0,1] Z (dB Z (js O Z (dB Z (ap O Z Z Z Z ((qT (b := b) h1 h2).plain (u := eB true) (by rw [hb])) (aa Z) Z Z Z Z Z (B0 := 15000) Z (jf [14,12,5,4,2,0,1] Z (dB Z (js O Z (ac (aL O Z Z Z Z Z) Z Z Z (jf [16,5,4,2,0,1] Z (jn (ae O Z Z (fun hc16 => ?_) (fun hc16 => ?_))))))))))))))))))
 exact absurd hc16 (by decide)
 refine aj (ah (ar O Z Z Z Z (hA) (aa Z) Z Z Z Z (B0 := 19000) Z Z (j4 O Z Z Z Z (j3 O Z Z Z (jf [8,7,5,4,2,0,1] Z (jn (ag (ah (j3 O Z Z Z (jf [24,7,5,4,2,0,1] Z (dB Z (js O Z (dB Z (ap O Z Z Z Z ((vu (ss := cs) h1 h2).plain (u := eB true) (by rw [hc])) (aa Z) Z Z Z Z Z (B0 := 27000) Z (jf [26,24,7,5,4,2,0,1] Z (dB Z (js O Z (ac (aL O Z Z Z Z Z) Z Z Z (jf [28,7,5,4,2,0,1] Z (jn (ae O Z Z (fun hc28 => ?_) (fun hc28 => ?_))))))))))))))))))))))
 exact absurd hc28 (by decide)
 refine aj (ah (j2 O Z Z (jf [30,29,7,5,4,2,0,1] Z (ar O Z Z Z Z (yP (ss := cs) (b := b) h1 h2 hq3 (jL hb)) (aa Z) Z Z Z Z (B0 := 32000) Z Z (js O Z (jf [9,7,5,4,2,0,1] Z (jn (ag (ah (js O Z (cu O Z (js O Z (cu O Z (js O Z (jf [36,9,7,5,4,2,0,1] Z (jn (ae O Z Z (fun hc36 => ?_) (fun hc36 => ?_))))))))))))))))))
 exact absurd (bC hc36) (by omega)
 refine aj (ah (j3 O Z Z Z (jf [5,4,9,7,2,0,1] Z (jr ?_))))
 refine ⟨.inl Z, _, am, _, Z, ?_⟩
 exact .tup (.cons (.c .d) (.cons (.c .d) .nil))
theorem sj (hC : MQ h1 h2 17 [aPm p] [] (Rows (.tup [.c (.d .nils), eB false]) [])) : MQ h1 h2 28 [aPm p, eI b] [] (Rows (.tup [.c (.d .nils), eB false]) []) := by
 refine bI (jB 20 h1 h2 Tryz.func28 Z Z Z fun O hF => ?_)
 refine ah (jx O Z (au ?_))
 refine ay (Ent.freeze 2 (e' := [(2, _), (0, _), (1, _)]) Z (.cons Z (.c (.box (cs := Pm.data p) Z (aE Z))) (fe [0,1] Z)) (.skip .nil)) ?_
 refine au ?_
 refine j2 O Z Z (aV (js O Z (jf [9,5,4,0,1] Z (bn O (B0 := 11000) Z Z Z Z (hC) (aa Z) Z Z Z Z Z Z (au ?_)))))
 refine j4 O Z Z Z Z (js O Z (jf [7,6,5,4,0,1] Z (jn (ag (ah (j2 O Z Z (jf [14,6,5,4,0,1] Z (jn (ae O Z Z (fun hc14 => ?_) (fun hc14 => ?_))))))))))
 refine ah (j2 O Z Z (jr ?_))
 refine ⟨.inl Z, _, am, _, Z, [], by decide, Z, Z, Z⟩
 exact absurd hc14 (by decide)
theorem vY (hC : MQ h1 h2 17 [aPm p] [] (Rows (.tup [.c (.rs 0 0 cs.length), eB true]) [aM cs])) (hQ : MQ h1 h2 61 [lE cs, eI b] [] (Rows (.tup [.c (.d .nils), eB false]) [])) : MQ h1 h2 28 [aPm p, eI b] [] (Rows (.tup [.c (.d .nils), eB false]) []) := by
 refine bI (jB 20 h1 h2 Tryz.func28 Z Z Z fun O hF => ?_)
 refine ah (jx O Z (au ?_))
 refine ay (Ent.freeze 2 (e' := [(2, _), (0, _), (1, _)]) Z (.cons Z (.c (.box (cs := Pm.data p) Z (aE Z))) (fe [0,1] Z)) (.skip .nil)) ?_
 refine au ?_
 refine j2 O Z Z (aV (js O Z (jf [9,5,4,0,1] Z (bn O (B0 := 11000) Z Z Z Z (hC) (aa Z) Z Z Z Z Z Z (au ?_)))))
 refine j4 O Z Z Z Z (js O Z (jf [7,6,5,4,0,1] Z (jn (ag (ah (j2 O Z Z (jf [14,6,5,4,0,1] Z (jn (ae O Z Z (fun hc14 => ?_) (fun hc14 => ?_))))))))))
 exact absurd hc14 (by decide)
 refine aj (ah (j2 O Z Z (jf [16,15,5,4,0] Z (bn O (B0 := 18000) Z Z Z Z (hQ) (.cons (.c (.whole Z (bz _).symm)) (.cons (.c .d) .nil)) Z Z Z Z Z Z (au ?_)))))
 refine j4 O Z Z Z Z (jf [5,4,0] Z (jr ?_))
 refine ⟨.inl Z, _, am, _, Z, [], by decide, Z, Z, Z⟩
theorem zG (hC : MQ h1 h2 17 [aPm p] [] (Rows (.tup [.c (.rs 0 0 cs.length), eB true]) [aM cs])) {m : Nat} {qs : List (List Nd)} (hQ : MQ h1 h2 61 [lE cs, eI b] [] (Rows (.tup [.c (.rs 0 0 m), eB true]) [fV qs])) : MQ h1 h2 28 [aPm p, eI b] [] (Rows (.tup [.c (.rs 0 0 m), eB true]) [fV qs]) := by
 refine bI (jB 20 h1 h2 Tryz.func28 Z Z Z fun O hF => ?_)
 refine ah (jx O Z (au ?_))
 refine ay (Ent.freeze 2 (e' := [(2, _), (0, _), (1, _)]) Z (.cons Z (.c (.box (cs := Pm.data p) Z (aE Z))) (fe [0,1] Z)) (.skip .nil)) ?_
 refine au ?_
 refine j2 O Z Z (aV (js O Z (jf [9,5,4,0,1] Z (bn O (B0 := 11000) Z Z Z Z (hC) (aa Z) Z Z Z Z Z Z (au ?_)))))
 refine j4 O Z Z Z Z (js O Z (jf [7,6,5,4,0,1] Z (jn (ag (ah (j2 O Z Z (jf [14,6,5,4,0,1] Z (jn (ae O Z Z (fun hc14 => ?_) (fun hc14 => ?_))))))))))
 exact absurd hc14 (by decide)
 refine aj (ah (j2 O Z Z (jf [16,15,5,4,0] Z (bn O (B0 := 18000) Z Z Z Z (hQ) (.cons (.c (.whole Z (bz _).symm)) (.cons (.c .d) .nil)) Z Z Z Z Z Z (au ?_)))))
 refine j4 O Z Z Z Z (jf [5,4,0] Z (jr ?_))
 refine ⟨.inl Z, _, am, _, Z, [18000], by decide, Z, Z, Z⟩
theorem zP {r : List (List Nd)} {m0 : Nat} (hm0 : m0 = r.length) (hcc : 1 + cn kF r ≤ (1073741824 : Int)) (cs : MQ h1 h2 26 [aPm p, eI b] [] (Plain (.tup [iL r, eB true]))) (ci : MQ h1 h2 28 [aPm p, eI b] [] (Rows (.tup [.c (.rs 0 0 m0), eB true]) [fV r])) (hz1 : 0 ≤ gE 1048576 (Al.szs Tm.size p.pre + Al.szs Sm.size p.body + Al.szs Tm.size p.post)) (hcp : 1 + cn nT p.pre + cn nS p.body + cn nT p.post ≤ (1073741824 : Int)) : MQ h1 h2 5 [aPm p, eI b] [] (Plain (eB true)) := by
 refine aA ?_ Z
 refine jB 101 h1 h2 Tryz.func5 Z Z Z fun O hF => ?_
 subst hm0
 have hbig : L ≤ 9223372036854775807 := Nat.le_trans h2 (by decide)
 refine ah (jx O Z (au ?_))
 refine js O Z (aV (js O Z (aV (j2 O Z Z (ap O Z Z Z Z (c8 (p := p) (left := 1048576) h1 hbig (by decide) (by decide)) (aa Z) Z Z Z Z Z (B0 := 19000) Z (js O Z (jf [5,4,2,0,1] Z (jn (ag (ah (j2 O Z Z (jn (ae O Z Z (fun hc20 => ?_) (fun hc20 => ?_))))))))))))))
 exact absurd (bC hc20) (by omega)
 refine aj (ah (js O Z (jf [22,19,5,4,2,0,1] Z (ar O Z Z Z Z (t3 (p := p) h1 h2) (aa Z) Z Z Z Z (B0 := 24000) Z Z (js O Z (jf [24,23,19,5,4,2,0,1] Z (ar O Z Z Z Z (cs) (aa Z) Z Z Z Z (B0 := 26000) Z Z (j4 O Z Z Z Z (js O Z (jf [7,6,19,5,4,2,0,1] Z (aV (js O Z (bn O (B0 := 30000) Z Z Z Z (Dm (p := p) h1 h2) (aa Z) Z Z Z Z Z Z (au ?_))))))))))))))
 refine jf [29,7,6,19,5,4,2,0,1] Z (jl O Z (au ?_))
 refine jo O Z (au ?_)
 refine aV (j2 O Z Z (bn O (B0 := 34000) Z Z Z Z (ci) (.cons (.agg (.cons (.whole Z (bz _).symm) (.cons (.whole Z (bz _).symm) (.cons (.whole Z (bz _).symm) .nil)))) (.cons (.c .d) .nil)) Z Z Z Z Z Z (au ?_)))
 refine j4 O Z Z Z Z (js O Z (jf [10,9,8,29,7,6,19,5,4,2,0,1] Z (jn (ag (ah (j2 O Z Z (ap O Z Z Z Z ((AI (xs := r) (ys := r) h1 h2).plain (u := eB true) (by simp)) (.cons (.c (.whole Z (bz _).symm)) (.cons (.c .d) .nil)) Z Z Z Z Z (B0 := 39000) Z (j2 O Z Z (jf [40,10,9,8,29,7,6,19,5,4,2,0,1] Z (dB Z (js O Z (dB Z (js O Z (dB Z (js O Z (ac (cF O Z Z Z Z Z) Z Z Z (jf [44,10,9,8,29,7,6,19,5,4,2,0,1] Z (jn (ae O Z Z (fun hc44 => ?_) (fun hc44 => ?_))))))))))))))))))))
 exact absurd (show false = true from hc44) (by decide)
 refine aj (ag (ag (jw [10,9,8,29,7,6,19,5,4,2,0,1] Z (gL O [_,_,_,_,_] [pn [] 0 1, pn [] 0 0, pe [1] 0, pe [0,1,2] 1, pn (rg 0 4) 2 2] [2,3] [_,_,_] (ai (kc O Z (V O Z)) (kc O Z (ai (bo O (B0 := 48000) Z Z Z Z (t3 (p := p) h1 h2) (aa Z) Z Z Z Z Z) (ai (bw O (B0 := 49000) Z Z Z Z ((EB (s := p) (t := p) h1 h2).plain (u := eB true) (by simp)) (.cons (.agg (.cons (.whole Z (bz _).symm) (.cons (.whole Z (bz _).symm) (.cons (.whole Z (bz _).symm) .nil)))) (.cons (.agg (aE Z)) .nil)) Z Z Z Z Z) (kc O Z trivial))))) ?_))))
 refine jw [49,10,9,8,29,7,6,19,5,4,2,0,1] Z (b9 ?_)
 refine ae O Z Z (fun hc49 => ?_) (fun hc49 => ?_)
 exact absurd (show false = true from hc49) (by decide)
 refine aj (ah (js O Z (aV (j2 O Z Z (jf [51,50,11,10,9,8,29,7,6,19,5,4,2,0,1] Z (aB O [30000,30001,30002] (bin := [gF p.pre, kI p.body, gF p.post]) Z Z Z Z (EA (p := p) (k := 1) h1 h2 (by decide) (by omega)) Z Z Z Z Z Z (B0 := 53000) Z Z (au ?_)))))))
 refine js O Z (jf [11,10,9,8,29,7,6,19,5,4,2,0,1] Z (jn (ag (ah (j2 O Z Z ?_)))))
 rw [decide_eq_false (show ¬ (1 + cn nT p.pre + cn nS p.body + cn nT p.post : Int) < 0 by omega)]
 refine js O Z (jf [55,11,10,9,8,29,7,6,19,5,4,2,0,1] Z (dB Z (js O Z (dB Z (js O Z (dB Z (ap O Z Z Z Z ((AI (xs := r) (ys := r) h1 h2).plain (u := eB true) (by simp)) (.cons (.c (.whole Z (bz _).symm)) (.cons (.c .d) .nil)) Z Z Z Z Z (B0 := 59000) Z (jf [58,55,11,10,9,8,29,7,6,19,5,4,2,0,1] Z (dB Z (js O Z (ac (cF O Z Z Z Z Z) Z Z Z (js O Z (jf [61,11,10,9,8,29,7,6,19,5,4,2,0,1] Z (dB Z (js O Z (dB Z (js O Z (dB Z (js O Z (ac (cF O Z Z Z Z Z) Z Z Z (jf [65,11,10,9,8,29,7,6,19,5,4,2,0,1] Z (jn (ae O Z Z (fun hc65 => ?_) (fun hc65 => ?_))))))))))))))))))))))))
 exact absurd (show false = true from hc65) (by decide)
 refine aj (ah (js O Z (aV (j2 O Z Z (jf [67,66,12,11,10,9,8,29,7,6,19,5,4,2,0,1] Z (aB O [34000] (bin := [fV r]) Z Z Z Z (CF (ts := r) (k := 1) h1 h2 (by decide) (by omega)) Z Z Z Z Z Z (B0 := 69000) Z Z (au ?_)))))))
 refine js O Z (jf [12,11,10,9,8,29,7,6,19,5,4,2,0,1] Z (aV (js O Z (aV (j2 O Z Z (ap O Z Z Z Z (tq (ts := r) (k := 1) h1 h2 (by decide) (by omega)) (.cons (.c (.whole Z (by rw [bz, bq]))) (.cons (.c .d) .nil)) Z Z Z Z Z (B0 := 72000) Z (js O Z (jf [13,12,11,10,9,8,29,7,6,19,5,4,2,0,1] Z (jn (ag (ah (j2 O Z Z (jn (ae O Z Z (fun hc73 => ?_) (fun hc73 => ?_)))))))))))))))
 exact absurd (bC hc73) (by omega)
 refine aj (ag (ah (j3 O Z Z Z (jf [76,72,13,12,11,10,9,8,29,7,6,19,5,4,2,0,1] Z (jn (ae O Z Z (fun hc76 => ?_) (fun hc76 => ?_)))))))
 exact absurd hc76 (by simp)
 refine aj (ah (js O Z (jf [78,72,13,12,11,10,9,8,29,7,6,19,5,4,2,0,1] Z (ar O Z Z Z Z (t3 (p := p) h1 h2) (aa Z) Z Z Z Z (B0 := 80000) Z Z (js O Z (jf [80,79,72,13,12,11,10,9,8,29,7,6,19,5,4,2,0,1] Z (bn O (B0 := 82000) Z Z Z Z (ci) (aa Z) Z Z Z Z Z Z (au ?_))))))))
 refine j4 O Z Z Z Z (js O Z (jf [15,14,72,13,12,11,10,9,8,29,7,6,19,5,4,2,0,1] Z (jn (ag (ah (j2 O Z Z (jf [85,84,15,72,13,12,11,10,9,8,29,7,6,19,5,4,2,0,1] Z (ap O Z Z Z Z ((AI (xs := r) (ys := r) h1 h2).plain (u := eB true) (by simp)) (.cons (.c (.whole Z (bz _).symm)) (.cons (.c .d) .nil)) Z Z Z Z Z (B0 := 87000) Z (j2 O Z Z (jf [88,15,72,13,12,11,10,9,8,29,7,6,19,5,4,2,0,1] Z (dB Z (js O Z (jf [89,88,72,13,12,11,10,9,8,29,7,6,19,5,4,2,0,1] Z (dB Z (js O Z (dB Z (js O Z (ac (cF O Z Z Z Z Z) Z Z Z (jf [92,72,13,12,11,10,9,8,29,7,6,19,5,4,2,0,1] Z (jn (ae O Z Z (fun hc92 => ?_) (fun hc92 => ?_))))))))))))))))))))))
 exact absurd (show false = true from hc92) (by decide)
 refine aj (ah (js O Z (aV (j2 O Z Z (jf [94,93,13,72,12,11,10,9,8,29,7,6,19,5,4,2,0,1] Z (ap O Z Z Z Z (tq (ts := r) (k := 1) h1 h2 (by decide) (by omega)) (.cons (.c (.whole Z (by rw [bz, bq]))) (.cons (.c .d) .nil)) Z Z Z Z Z (B0 := 96000) Z (js O Z (jf [13,72,12,11,10,9,8,29,7,6,19,5,4,2,0,1] Z (jn (ag (ah (j2 O Z Z (jn (ae O Z Z (fun hc97 => ?_) (fun hc97 => ?_)))))))))))))))
 exact absurd (bC hc97) (by omega)
 refine aj (ag (ah (j3 O Z Z Z (jf [100,96,13,72,12,11,10,9,8,29,7,6,19,5,4,2,0,1] Z (jn (ae O Z Z (fun hc100 => ?_) (fun hc100 => ?_)))))))
 exact absurd hc100 (by simp)
 refine aj (ah (js O Z (jr ?_)))
 refine ⟨.inl Z, _, am, _, Z, ?_⟩
 rfl
theorem vZ (cs : MQ h1 h2 26 [aPm p, eI b] [] (Plain (.tup [iL ([] : List (List Nd)), eB false]))) (ci : MQ h1 h2 28 [aPm p, eI b] [] (Rows (.tup [.c (.d .nils), eB false]) [])) (hz1 : 0 ≤ gE 1048576 (Al.szs Tm.size p.pre + Al.szs Sm.size p.body + Al.szs Tm.size p.post)) (hcp : 1 + cn nT p.pre + cn nS p.body + cn nT p.post ≤ (1073741824 : Int)) : MQ h1 h2 5 [aPm p, eI b] [] (Plain (eB true)) := by
 refine aA ?_ Z
 refine jB 101 h1 h2 Tryz.func5 Z Z Z fun O hF => ?_
 have hbig : L ≤ 9223372036854775807 := Nat.le_trans h2 (by decide)
 refine ah (jx O Z (au ?_))
 refine js O Z (aV (js O Z (aV (j2 O Z Z (ap O Z Z Z Z (c8 (p := p) (left := 1048576) h1 hbig (by decide) (by decide)) (aa Z) Z Z Z Z Z (B0 := 19000) Z (js O Z (jf [5,4,2,0,1] Z (jn (ag (ah (j2 O Z Z (jn (ae O Z Z (fun hc20 => ?_) (fun hc20 => ?_))))))))))))))
 exact absurd (bC hc20) (by omega)
 refine aj (ah (js O Z (jf [22,19,5,4,2,0,1] Z (ar O Z Z Z Z (t3 (p := p) h1 h2) (aa Z) Z Z Z Z (B0 := 24000) Z Z (js O Z (jf [24,23,19,5,4,2,0,1] Z (ar O Z Z Z Z (cs) (aa Z) Z Z Z Z (B0 := 26000) Z Z (j4 O Z Z Z Z (js O Z (jf [7,6,19,5,4,2,0,1] Z (aV (js O Z (bn O (B0 := 30000) Z Z Z Z (Dm (p := p) h1 h2) (aa Z) Z Z Z Z Z Z (au ?_))))))))))))))
 refine jf [29,7,6,19,5,4,2,0,1] Z (jl O Z (au ?_))
 refine jo O Z (au ?_)
 refine aV (j2 O Z Z (bn O (B0 := 34000) Z Z Z Z (ci) (.cons (.agg (.cons (.whole Z (bz _).symm) (.cons (.whole Z (bz _).symm) (.cons (.whole Z (bz _).symm) .nil)))) (.cons (.c .d) .nil)) Z Z Z Z Z Z (au ?_)))
 refine j4 O Z Z Z Z (js O Z (jf [10,9,8,29,7,6,19,5,4,2,0,1] Z (jn (ag (ah (j2 O Z Z (ap O Z Z Z Z ((AI (xs := ([] : List (List Nd))) (ys := ([] : List (List Nd))) h1 h2).plain (u := eB true) (by simp)) (.cons (.c .nils) (.cons (.c .d) .nil)) Z Z Z Z Z (B0 := 39000) Z (j2 O Z Z (jf [40,10,9,8,29,7,6,19,5,4,2,0,1] Z (dB Z (js O Z (dB Z (js O Z (dB Z (js O Z (ac (cF O Z Z Z Z Z) Z Z Z (jf [44,10,9,8,29,7,6,19,5,4,2,0,1] Z (jn (ae O Z Z (fun hc44 => ?_) (fun hc44 => ?_))))))))))))))))))))
 exact absurd (show false = true from hc44) (by decide)
 refine aj (ag (ag (jw [10,9,8,29,7,6,19,5,4,2,0,1] Z (gL O [_,_,_,_,_] [pn [] 0 1, pn [] 0 0, pe [1] 0, pe [0,1,2] 1, pn (rg 0 4) 2 2] [2,3] [_,_,_] (ai (kc O Z (V O Z)) (kc O Z (ai (bo O (B0 := 48000) Z Z Z Z (t3 (p := p) h1 h2) (aa Z) Z Z Z Z Z) (ai (bw O (B0 := 49000) Z Z Z Z ((EB (s := p) (t := p) h1 h2).plain (u := eB true) (by simp)) (.cons (.agg (.cons (.whole Z (bz _).symm) (.cons (.whole Z (bz _).symm) (.cons (.whole Z (bz _).symm) .nil)))) (.cons (.agg (aE Z)) .nil)) Z Z Z Z Z) (kc O Z trivial))))) ?_))))
 refine jw [49,10,9,8,29,7,6,19,5,4,2,0,1] Z (b9 ?_)
 refine ae O Z Z (fun hc49 => ?_) (fun hc49 => ?_)
 exact absurd (show false = true from hc49) (by decide)
 refine aj (ah (js O Z (aV (j2 O Z Z (jf [51,50,11,10,9,8,29,7,6,19,5,4,2,0,1] Z (aB O [30000,30001,30002] (bin := [gF p.pre, kI p.body, gF p.post]) Z Z Z Z (EA (p := p) (k := 1) h1 h2 (by decide) (by omega)) Z Z Z Z Z Z (B0 := 53000) Z Z (au ?_)))))))
 refine js O Z (jf [11,10,9,8,29,7,6,19,5,4,2,0,1] Z (jn (ag (ah (j2 O Z Z ?_)))))
 rw [decide_eq_false (show ¬ (1 + cn nT p.pre + cn nS p.body + cn nT p.post : Int) < 0 by omega)]
 refine js O Z (jf [55,11,10,9,8,29,7,6,19,5,4,2,0,1] Z (dB Z (js O Z (dB Z (js O Z (dB Z (ap O Z Z Z Z ((AI (xs := ([] : List (List Nd))) (ys := ([] : List (List Nd))) h1 h2).plain (u := eB true) (by simp)) (.cons (.c .nils) (.cons (.c .d) .nil)) Z Z Z Z Z (B0 := 59000) Z (jf [58,55,11,10,9,8,29,7,6,19,5,4,2,0,1] Z (dB Z (js O Z (ac (cF O Z Z Z Z Z) Z Z Z (js O Z (jf [61,11,10,9,8,29,7,6,19,5,4,2,0,1] Z (dB Z (js O Z (dB Z (js O Z (dB Z (js O Z (ac (cF O Z Z Z Z Z) Z Z Z (jf [65,11,10,9,8,29,7,6,19,5,4,2,0,1] Z (jn (ae O Z Z (fun hc65 => ?_) (fun hc65 => ?_))))))))))))))))))))))))
 exact absurd (show false = true from hc65) (by decide)
 refine aj (ah (js O Z (aV (j2 O Z Z (jf [67,66,12,11,10,9,8,29,7,6,19,5,4,2,0,1] Z (ap O Z Z Z Z (Ai (k := 1) h1 h2) (.cons (.c .nils) (.cons (.c .d) .nil)) Z Z Z Z Z (B0 := 69000) Z (js O Z (jf [12,11,10,9,8,29,7,6,19,5,4,2,0,1] Z (aV (js O Z (aV (j2 O Z Z (ap O Z Z Z Z ((tq (ts := ([] : List (List Nd))) (k := 1) h1 h2 (by decide) (by decide)).plain (u := eI 1) Z) (.cons (.c .nils) (.cons (.c .d) .nil)) Z Z Z Z Z (B0 := 72000) Z (js O Z (jf [13,12,11,10,9,8,29,7,6,19,5,4,2,0,1] Z (jn (ag (ah (j2 O Z Z (jn (ae O Z Z (fun hc73 => ?_) (fun hc73 => ?_))))))))))))))))))))))
 exact absurd (bC hc73) (by decide)
 refine aj (ag (ah (j3 O Z Z Z (jf [76,72,13,12,11,10,9,8,29,7,6,19,5,4,2,0,1] Z (jn (ae O Z Z (fun hc76 => ?_) (fun hc76 => ?_)))))))
 exact absurd hc76 (by simp)
 refine aj (ah (js O Z (jf [78,72,13,12,11,10,9,8,29,7,6,19,5,4,2,0,1] Z (ar O Z Z Z Z (t3 (p := p) h1 h2) (aa Z) Z Z Z Z (B0 := 80000) Z Z (js O Z (jf [80,79,72,13,12,11,10,9,8,29,7,6,19,5,4,2,0,1] Z (bn O (B0 := 82000) Z Z Z Z (ci) (aa Z) Z Z Z Z Z Z (au ?_))))))))
 refine j4 O Z Z Z Z (js O Z (jf [15,14,72,13,12,11,10,9,8,29,7,6,19,5,4,2,0,1] Z (jn (ag (ah (j2 O Z Z (jf [85,84,15,72,13,12,11,10,9,8,29,7,6,19,5,4,2,0,1] Z (ap O Z Z Z Z ((AI (xs := ([] : List (List Nd))) (ys := ([] : List (List Nd))) h1 h2).plain (u := eB true) (by simp)) (.cons (.c .nils) (.cons (.c .d) .nil)) Z Z Z Z Z (B0 := 87000) Z (j2 O Z Z (jf [88,15,72,13,12,11,10,9,8,29,7,6,19,5,4,2,0,1] Z (dB Z (js O Z (jf [89,88,72,13,12,11,10,9,8,29,7,6,19,5,4,2,0,1] Z (dB Z (js O Z (dB Z (js O Z (ac (cF O Z Z Z Z Z) Z Z Z (jf [92,72,13,12,11,10,9,8,29,7,6,19,5,4,2,0,1] Z (jn (ae O Z Z (fun hc92 => ?_) (fun hc92 => ?_))))))))))))))))))))))
 exact absurd (show false = true from hc92) (by decide)
 refine aj (ah (js O Z (aV (j2 O Z Z (jf [94,93,13,72,12,11,10,9,8,29,7,6,19,5,4,2,0,1] Z (ap O Z Z Z Z ((tq (ts := ([] : List (List Nd))) (k := 1) h1 h2 (by decide) (by decide)).plain (u := eI 1) Z) (.cons (.c .nils) (.cons (.c .d) .nil)) Z Z Z Z Z (B0 := 96000) Z (js O Z (jf [13,72,12,11,10,9,8,29,7,6,19,5,4,2,0,1] Z (jn (ag (ah (j2 O Z Z (jn (ae O Z Z (fun hc97 => ?_) (fun hc97 => ?_)))))))))))))))
 exact absurd (bC hc97) (by decide)
 refine aj (ag (ah (j3 O Z Z Z (jf [100,96,13,72,12,11,10,9,8,29,7,6,19,5,4,2,0,1] Z (jn (ae O Z Z (fun hc100 => ?_) (fun hc100 => ?_)))))))
 exact absurd hc100 (by simp)
 refine aj (ah (js O Z (jr ?_)))
 refine ⟨.inl Z, _, am, _, Z, ?_⟩
 rfl
theorem zQ {L : Nat} (h1 : 4096 ≤ L) (h2 : L ≤ 9223372036854775807) {p : Pm} {b : Int} (hz : gE 1048576 (Al.szs Tm.size p.pre + Al.szs Sm.size p.body + Al.szs Tm.size p.post) < 0) : MC Tryz.prog L 5 [aPm p, eI b] [] (Plain (eB true)) := by
 refine aA ?_ Z
 have O := pN (nt := 101) h1 h2
 refine MC.body O Tryz.func5 (by kernel_rfl) Z Z (Nat.le_of_ble_eq_true Z) (fun hF => ?_)
 refine ah (jx O Z (au ?_))
 refine js O Z (aV (js O Z (aV (j2 O Z Z (ap O Z Z Z Z (c8 (p := p) (left := 1048576) h1 h2 (by decide) (by decide)) (aa Z) Z Z Z Z Z (B0 := 19000) Z (js O Z (jf [5,4,2,0,1] Z (jn (ag (ah (j2 O Z Z (jn (ae O Z Z (fun hc20 => ?_) (fun hc20 => ?_))))))))))))))
 refine ah (js O Z (jr ?_))
 refine ⟨.inl Z, _, am, _, Z, ?_⟩
 rfl
 exact absurd (cH hc20) (fun h => h hz)
theorem rE {b : Int} : ∀ {ss : List Sq}, (∀ s ∈ ss, (fw s b).2 = true) → cn kF (ss.map fun s => (fw s b).1) ≤ 2000 * ss.length
 | [], _ => by simp [cn]
 | s :: ss, h => by
  have ih := rE (b := b) (ss := ss) fun x hx => h x (by simp [hx])
  have hv := h s (by simp)
  obtain ⟨hq1, hq2⟩ := B2 hv
  have hpe := lI (b := b) hq1 hq2
  obtain ⟨q1, q2⟩ := xG (b := b) hq1 (by rw [← hpe]; exact hv)
  rw [← hpe] at q1 q2
  have hb := (jL hq2).2
  have hc := xQ q1 (by omega)
  simp only [cn, List.map_cons, List.sum_cons, dL, kF] at ih hc ⊢
  omega
theorem pq {b : Int} : ∀ {ss : List Sq}, ¬ (gm b ss).length < ss.length → ∀ s ∈ ss, (cI s b).2 = true
 | [], _, s, hs => by cases hs
 | x :: ss, h, s, hs => by
  unfold gm at h
  split at h
  rename_i h1
  rcases List.mem_cons.1 hs with rfl | hs
  exact h1
  exact pq (ss := ss) (by simpa using h) s hs
  exact absurd (by simp) h
theorem law1189 {L : Nat} (h1 : 4096 ≤ L) (h2 : L ≤ 9223372036854775807) {p : Pm} {b : Int} : MC Tryz.prog L 5 [aPm p, eI b] [] (Plain (eB true)) := by
 by_cases hz1 : gE 1048576 (szs Tm.size p.pre + szs Sm.size p.body + szs Tm.size p.post) < 0
 exact zQ h1 h2 hz1
 have hz1' : 0 ≤ gE 1048576 (szs Tm.size p.pre + szs Sm.size p.body + szs Tm.size p.post) := by omega
 have g1 := sv hz1' (by decide)
 have k1 := qo p.pre
 have k2 := wV p.body
 have k3 := qo p.post
 have hcp : 1 + cn nT p.pre + cn nS p.body + cn nT p.post ≤ (1073741824 : Int) := by omega
 refine MC.facts ⟨_, _, Tryz.func5, by kernel_rfl, Z⟩ fun hF => ?_
 refine x0 (L0 := 1073741824) Z ?_ ?_
 exact ⟨xN hF.1 (by omega), hF.2⟩
 cases hp : iE p with
 | false => exact vZ (by decide) (cC _) (zN (by decide) (cC _) hp) (sj (by decide) (cC _) (wc (by decide) (cC _) (Ad (by decide) (cC _) (by rw [← qe]; exact hp)))) hz1' hcp
 | true =>
  obtain ⟨t, ht, htd⟩ := B1 hp
  have hv : gI p = true := by rw [← qe]; exact hp
  have hlen := ht.len
  have hnl := fI (b := p.body) (k := p.body.length)
  obtain ⟨he, hpl⟩ := yQ (p := p) (t := t) (bf p.body p.body.length + 1)
  have hP := C2 (L := 1073741824) (by decide) (cC _) (by decide) ht
  have hA := CD (L := 1073741824) (by decide) (cC _) ht (by decide)
  have hgo := (wd ht (bf p.body p.body.length + 1) (cC _)).1
  generalize mQ p t (bf p.body p.body.length + 1) = x at he hpl hP
  generalize gi p t (bf p.body p.body.length + 1) = y at he hA hgo
  have no : ∀ cs' : MC Tryz.prog 1073741824 26 [aPm p, eI b] [] (Plain (.tup [iL ([] : List (List Nd)), eB false])), MC Tryz.prog 1073741824 28 [aPm p, eI b] [] (Rows (.tup [.c (.d .nils), eB false]) []) → MC Tryz.prog 1073741824 5 [aPm p, eI b] [] (Plain (eB true)) := fun cs' ci' => vZ (by decide) (cC _) cs' ci' hz1' hcp
  cases hx : x.bad with
  | true =>
   rw [hx] at hP
   rw [show y.bad = true from he.bad ▸ hx] at hA
   refine no ?_ (sj (by decide) (cC _) (wc (by decide) (cC _) (Ac (by decide) (cC _) hv htd ht hP)))
   cases hb : gG b with
   | false => exact sk (by decide) (cC _) hp hb
   | true => exact zM (by decide) (cC _) hp hb hA
  | false =>
   have e := he.eq hx
   subst e
   rw [hx] at hP hA
   have hgl : x.conds.length ≤ 600000000 := by
    have : (bf p.body p.body.length + 1) * 16252928 ≤ 31 * 16252928 := Nat.mul_le_mul_right _ (by omega)
    omega
   have hV := Ab (by decide) (cC _) hv htd ht hP
   cases hc : iJ x.conds with
   | false =>
    refine no ?_ (sj (by decide) (cC _) (Ah (by decide) (cC _) hV (by omega) hc))
    cases hb : gG b with
    | false => exact sk (by decide) (cC _) hp hb
    | true => exact zL (by decide) (cC _) hp hb hA hc
   | true =>
    have hY := Ag (by decide) (cC _) hV (by omega) hc
    cases hb : gG b with
    | false => exact no (sk (by decide) (cC _) hp hb) (vY (by decide) (cC _) hY (xX (by decide) (cC _) (by rw [hb, Bool.and_false])))
    | true =>
     obtain ⟨hq3, hq4⟩ := m6 hc
     by_cases hn : (gm b x.conds).length < x.conds.length
     exact no (zJ (by decide) (cC _) hp hb hA hc hn) (vY (by decide) (cC _) hY (xW (by decide) (cC _) hc hb hn))
     have hps := pq hn
     have hvv : ∀ s ∈ x.conds, (fw s b).2 = true := fun s hs => by rw [lI (List.all_eq_true.1 hq3 s hs) hb]; exact hps s hs
     have hee : gm b x.conds = x.conds.map fun s => (fw s b).1 := by
      rw [nJ hps]
      exact List.map_congr_left fun s hs => by rw [lI (List.all_eq_true.1 hq3 s hs) hb]
     have cs := zI (cs := x.conds) (by decide) (cC _) hp hb hA hc hn
     rw [hee] at cs
     have hcn := rE hvv
     exact zP (r := x.conds.map fun s => (fw s b).1) (by decide) (cC _) (bz _).symm (by omega) cs (zG (by decide) (cC _) hY (Aj (by decide) (cC _) hc hb hvv)) hz1' hcp
end Go.Al
/- What the laws of programs share: the types of their arguments. -/
namespace Go.Proofs.YtbkloknmpkgmbaaGreat
open Go.ChangeShapes Go.WideShapes Go.ChangeAt Go.RowKit Go.Al
abbrev yR : List Ty := [.int .i64, .int .i64, .int .i64, .int .i64, .slc uT, .int .i64, .slc uT, .slc s8]
theorem B6 : TyOf Tryz.prog 170 yR := .struct Tryz.underlying170 (show FieldsAre Tryz.prog _ (uT ++ (uT ++ (uT ++ (s8 ++ (s8 ++ ([.slc s8] ++ [])))))) 0 from
  .cons Z (by kernel_rfl) AS (.cons Z (by kernel_rfl) AS (.cons Z (by kernel_rfl) AS (.cons Z (by kernel_rfl) yW (.cons Z (by kernel_rfl) yW (.cons Z (by kernel_rfl) yX .nil)))))) (by kernel_rfl)
theorem DV : TyOf Tryz.prog 59 [.slc yR] := .slc Tryz.underlying59 B6 (by kernel_rfl) (by decide)
theorem of25 : TyOf Tryz.prog 61 [.slc s8, .slc yR, .slc s8] := .struct Tryz.underlying61 (show FieldsAre Tryz.prog _ ([.slc s8] ++ ([.slc yR] ++ ([.slc s8] ++ []))) 0 from
  .cons Z (by kernel_rfl) yX (.cons Z (by kernel_rfl) DV (.cons Z (by kernel_rfl) yX .nil))) (by kernel_rfl)
theorem ur {e : List D} (h : FitsL yR e) : ∃ s : Sm, e = s.cells := by
 cases h with
 | cons a1 h =>
  cases h with
  | cons a2 h =>
   cases h with
   | cons a3 h =>
    cases h with
    | cons a4 h =>
     cases h with
     | cons a5 h =>
      cases h with
      | cons a6 h =>
       cases h with
       | cons a7 h =>
        cases h with
        | cons a8 h =>
         cases h
         obtain ⟨n1, rfl⟩ := f4 a1
         obtain ⟨n2, rfl⟩ := f4 a2
         obtain ⟨n3, rfl⟩ := f4 a3
         obtain ⟨n4, rfl⟩ := f4 a4
         obtain ⟨x5, rfl⟩ := l7 a5
         obtain ⟨n6, rfl⟩ := f4 a6
         obtain ⟨x7, rfl⟩ := l7 a7
         obtain ⟨x8, rfl⟩ := kz a8
         exact ⟨⟨n1, n2, n3, ⟨n4, x5⟩, ⟨n6, x7⟩, x8⟩, Z⟩
theorem sJ {d : D} (h : Fits (.slc yR) d) : ∃ b, d = gj b := by
 cases h with
 | slc h =>
  obtain ⟨xs, rfl⟩ := lh (g := Sm.cells) (fun e he => ur he) h
  exact ⟨xs, Z⟩
theorem fits_prog {e : List D} (h : FitsL [.slc s8, .slc yR, .slc s8] e) : ∃ p : Pm, e = p.data := by
 cases h with
 | cons a1 h =>
  cases h with
  | cons a2 h =>
   cases h with
   | cons a3 h =>
    cases h
    obtain ⟨x1, rfl⟩ := kz a1
    obtain ⟨x2, rfl⟩ := sJ a2
    obtain ⟨x3, rfl⟩ := kz a3
    exact ⟨⟨x1, x2, x3⟩, Z⟩
end Go.Proofs.YtbkloknmpkgmbaaGreat
