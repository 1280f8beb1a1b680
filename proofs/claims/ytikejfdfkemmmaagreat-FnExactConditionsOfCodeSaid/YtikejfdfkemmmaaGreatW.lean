/- The law. -/
import Derived.Test.YtikejfdfkemmmaaGreatJ
import Derived.Test.YtikejfdfkemmmaaGreatH
set_option linter.unusedVariables false
set_option linter.unusedSimpArgs false
set_option maxRecDepth 10000
set_option maxHeartbeats 4000000
open Go.Proofs
namespace Go.Al
variable {L : Nat} (h1 : 4096 ≤ L) (h2 : L ≤ 1073741824)
deriving instance Inhabited, DecidableEq for Pth
abbrev mQ (k : Int) (s : Sq) : Sq := ⟨bf mT nT k s.facts, ⟨k + bq nT s.facts, bf mI c5 (k + bq nT s.facts + 1) s.goal.xs⟩⟩
abbrev nQ (s : Sq) : Nat := bq nT s.facts + 1 + s.goal.xs.length
def zc (fs : List Tm) : Prop := ∀ t ∈ fs, t.ok = true
theorem rC : ∀ {fs : List Tm}, zc fs → bq nT fs ≤ 11 * fs.length
 | [], _ => by simp [bq]
 | t :: fs, h => by
  have h1 := rC (fs := fs) fun t ht => h t (by simp [ht])
  have h2 := kl (h t (by simp))
  have h3 : nT t = 1 + t.xs.length := rfl
  simp only [bq, List.map_cons, List.sum_cons, i3] at h1 ⊢
  omega
theorem lK {ss : List Sq} (h : cY ss = true) : bq nQ ss ≤ 20000 := by
 unfold cY at h
 simp only [bA, decide_eq_true_eq] at h
 have key : ∀ l : List Sq, (∀ s ∈ l, k8 s = true) → bq nQ l ≤ 200 * l.length := by
  intro l hl
  induction l with
  | nil => simp [bq]
  | cons s r ih =>
   have h1 := ih fun s hs => hl s (by simp [hs])
   have h2 := hl s (by simp)
   have e : nQ s = bq nT s.facts + 1 + s.goal.xs.length := rfl
   unfold k8 ee at h2
   simp only [bA, decide_eq_true_eq] at h2
   have h3 := rC (fs := s.facts) fun t ht => List.all_eq_true.1 h2.1.1 t ht
   have h4 := kl h2.2
   have h5 := h2.1.2
   simp only [bq, List.map_cons, List.sum_cons, i3] at h1 ⊢
   omega
 have := key ss (List.all_eq_true.1 h.1)
 omega
abbrev ph (ss : List Sq) : A := .c (.d (dO ss))
theorem qy {xs ys : List Sq} : MQ h1 h2 13 [.c (.d (dO xs)), .c (.d (dO ys))] [] (Plain (eB (decide (xs = ys)))) := by
 refine aB ?_ Z
 refine jB 27 h1 h2 Tryz.func13 Z Z Z fun O hF => ?_
 have hl : xs.length ≤ L := by simpa [As.fact, A.fact, M.fact, D.fact, Ds.fact] using hF.1.1
 have hl2 : ys.length ≤ L := by simpa [As.fact, A.fact, M.fact, D.fact, Ds.fact] using hF.2.1.1
 refine ae (js O Z (jn (ag (ae (js O Z ?_)))))
 first | refine bw O Z ?_ | refine js O Z ?_ | refine bb O Z Z ?_
 refine js O Z ?_
 first | refine bw O Z ?_ | refine js O Z ?_ | refine bb O Z Z ?_
 refine js O Z (jn (ab O Z Z (fun hc10 => ?_) (fun hc10 => ?_)))
 try simp only [aJ] at hc10
 refine ae (js O Z (jr ?_))
 refine ⟨.inl Z, _, aj, _, Z, ?_⟩
 rw [decide_eq_false (fun e => by subst e; simp at hc10)]
 try simp only [aJ] at hc10
 refine ah (ag (ae (js O Z (jn (am (au (X := Nat) (fun i => ⟨[(0, .c (.d (dO xs))), (1, .c (.d (dO ys))), (5, eI i)], []⟩) (fun i => i ≤ xs.length ∧ ∀ j, j < i → xs[j]? = ys[j]?) (fun i => xs.length - i) 0 (Ent.env ⟨Z, Z, Z, trivial⟩) ?_ (fun i hi => ?_)))))))
 exact ⟨cC _, fun j hj => absurd hj (Nat.not_lt_zero j)⟩
 refine ag (ae (j2 O Z Z ?_))
 first | refine bw O Z ?_ | refine js O Z ?_ | refine bb O Z Z ?_
 refine js O Z (jn (ab O Z Z (fun hc14 => ?_) (fun hc14 => ?_)))
 try simp only [aJ] at hc14
 refine ah (ag (am (ag (jS O [_,_,_,_,_,_,_,_,_,_] [pn [] 0 0, pn [] 0 0, pn [0,1] 0 0, pn [0,1,2] 0 0, pn [] 0 0, pn [] 0 0, pn [4,5] 0 0, pn [4,5,6] 0 0, pe (rg 0 8) 0, pn (rg 0 9) 1 1] [8] [_,_] (kc O Z (kc O Z (ai (vD O Z) (kc O Z (kc O Z (kc O Z (ai (vD O Z) (kc O Z (ai (bu O (B0 := 26000) Z Z Z Z (c36 h1 h2) (aa Z) Z Z Z Z Z) (kc O Z trivial)))))))))) ?_))))
 refine ab O Z Z (fun hc26 => ?_) (fun hc26 => ?_)
 try simp only [aJ] at hc26
 refine ae (js O Z (jr ?_))
 refine ⟨.inl Z, _, aj, _, Z, ?_⟩
 rw [decide_eq_false (fun e => by subst e; simp at hc26)]
 try simp only [aJ] at hc26
 refine ah (ak (js O Z ?_))
 first | refine ji O Z ?_ | refine bb O Z Z ?_
 refine js O Z (jn ?_)
 refine ⟨i + 1, Ent.env ⟨Z, Z, Z, trivial⟩, ⟨by omega, fun j hj => ?_⟩, by omega⟩
 rcases Nat.lt_or_ge j i with h | h
 exact hi.2 j h
 obtain rfl : j = i := by omega
 rw [Int.toNat_natCast, aw (by omega), aw (by omega)] at hc26
 rw [List.getElem?_eq_getElem (by omega), List.getElem?_eq_getElem (by omega), hc26]
 try simp only [aJ] at hc14
 refine aU (ae (js O Z (jr ?_)))
 refine ⟨.inl Z, _, aj, _, Z, ?_⟩
 have e : xs = ys := List.ext_getElem? fun j => by
  rcases Nat.lt_or_ge j i with h | h
  ·
   exact hi.2 j h
  ·
   rw [List.getElem?_eq_none (by omega), List.getElem?_eq_none (by omega)]
 rw [decide_eq_true e]
variable {k : Int}
theorem rN : MQ h1 h2 16 [.c (.d (dO [])), eI k] [] (Plain (eI k)) := by
 refine aB ?_ Z
 refine jB 36 h1 h2 Tryz.func16 Z Z Z fun O hF => ?_
 refine ae (js O Z (jn (ag (ae (js O Z (jn (am (au (X := Nat) (fun i => ⟨[(0, .c (.d (dO []))), (1, eI k), (5, eI 0)], []⟩) (fun i => True) (fun i => 0) 0 (Ent.env ⟨Z, Z, Z, trivial⟩) ?_ (fun i hi => ?_)))))))))
 trivial
 refine ag (ae (j2 O Z Z ?_))
 first | refine bw O Z ?_ | refine js O Z ?_ | refine bb O Z Z ?_
 refine js O Z (jn (ab O Z Z (fun hc9 => ?_) (fun hc9 => ?_)))
 try simp only [aJ] at hc9
 exact absurd hc9 (by simp)
 try simp only [aJ] at hc9
 refine aU (ae (j2 O Z Z (jr ?_)))
 refine ⟨.inl Z, _, aj, _, Z, ?_⟩
 first | rfl | skip
variable {ts : List Sq}
theorem ue (hk0 : 0 ≤ k) (hk1 : k + bq nQ ts ≤ 1073741824) : MQ h1 h2 16 [.c (.rs 0 0 ts.length), eI k] [(0, az ts)] (aY (eI (k + bq nQ ts)) [(0, az (bf mQ nQ k ts))]) := by
 refine jH 36 [0] h1 h2 Tryz.func16 Z Z Z Z fun O hF => ?_
 refine fq 0 Z (fun hB => ?_)
 have hl : ts.length ≤ L := by simpa [B.fact] using hB.1
 refine ae (js O Z (jn (ag (ae (js O Z (jn (am (au (X := Nat) (fun i => ⟨[(0, .c (.rs 0 0 ts.length)), (1, eI (k + bq nQ (ts.take i))), (5, eI i)], [(0, az (mk mQ nQ k i ts))]⟩) (fun i => i ≤ ts.length) (fun i => ts.length - i) 0 (Ent.to ⟨Z, by simp [bN, aA, bq], Z, trivial⟩ (by simp [iz])) ?_ (fun i hi => ?_)))))))))
 exact cC _
 refine ag (ae (j2 O Z Z ?_))
 first | refine bw O Z ?_ | refine js O Z ?_ | refine bb O Z Z ?_
 refine js O Z (jf [9,0,1,5] Z (jn (ab O Z Z (fun hc9 => ?_) (fun hc9 => ?_))))
 try simp only [aJ] at hc9
 refine ah (ag (am (ae ?_)))
 obtain ⟨K, hK⟩ : ∃ K, K = k + (bq nQ (ts.take i) : Int) := ⟨_, rfl⟩
 rw [← hK]
 have hcs := ff (sz := nQ) (show i < ts.length by omega)
 have hcl := jg (sz := nQ) (l := ts) (i := i + 1)
 have hg := jd (f := mQ) (sz := nQ) (k := k) (show i < ts.length by omega)
 have hs := go (f := mQ) (sz := nQ) (k := k) (show i < ts.length by omega)
 rw [← aw (show i < ts.length by omega)] at hcs hg hs
 obtain ⟨t, ht⟩ : ∃ t, t = ts.getD i default := ⟨_, rfl⟩
 rw [← ht] at hcs hg hs
 rw [← hK] at hs
 simp only [nQ] at hcs
 have hb : K + (bq nT t.facts + 1 + t.goal.xs.length : Nat) ≤ 1073741824 := by omega
 obtain ⟨R, hR⟩ : ∃ R, R = (mk mQ nQ k i ts).map Sq.cells := ⟨_, rfl⟩
 have hRl : i < R.length := by rw [hR, bJ, fi]; omega
 have hRi : R[i]? = some (Sq.cells t) := by rw [hR, List.getElem?_map, hg]; rfl
 have hRn : R.set i (Sq.cells (mQ K t)) = (mk mQ nQ k (i + 1) ts).map Sq.cells := by rw [hR, ← hs, List.map_set]
 have e0 : az (mk mQ nQ k i ts) = .row true 3 (R.set i (Sq.cells t)) := by rw [gz hRi, hR]
 rw [e0]
 refine j2 O Z Z ?_
 first | refine ir O Z Z ?_ | refine bb O Z Z ?_
 refine js O Z (AOps.step (ar O (ex := [em (t.facts), .int .i64 (t.goal.c), eh (t.goal.xs)]) Z Z Z Z (by simp [hRl]) Z) Z Z Z (js O Z (jf [17,16,9,0,1,5] Z (fJ O (l := 0) (j := 0) (z := 2) (ex := [em (t.facts), .int .i64 (t.goal.c), eh (t.goal.xs)]) (ys := (t.facts).map Tm.cells) (ys' := (bf mT nT K t.facts).map Tm.cells) (xs' := R.set i [em (bf mT nT K t.facts), .int .i64 (t.goal.c), eh (t.goal.xs)]) Z Z Z Z (.rp (.d Z .nil)) (.rp (.d Z .nil)) Z (by simp [hRl]) Z (vJ (ts := t.facts) (k := K) h1 h2 (by omega) (by omega)).1 (fun _ => by rw [bJ]; exact vJ (ts := t.facts) h1 h2 (by omega) (by omega)) (fun hys => ?_) Z (by simp [bg]) Z Z Z Z (by simp) ?_))))
 have hy : t.facts = [] := by simpa using hys
 rw [hy]
 exact (wj h1 h2 (k := K)).plain (by simp [bq, hy])
 refine ap ?_
 refine js O Z (jf [1,9,0,5] Z (aN (j3 O Z Z Z ?_)))
 first | refine ir O Z Z ?_ | refine bb O Z Z ?_
 refine j2 O Z Z (jf [24,21,1,9,0,5] Z (AOps.heap (ba (ex := [em (bf mT nT K t.facts), .int .i64 (t.goal.c), eh (t.goal.xs)]) (xs' := R.set i [em (bf mT nT K t.facts), .int .i64 (K + bq nT t.facts), eh (t.goal.xs)]) O Z Z Z Z Z Z Z Z Z Z Z Z Z Z (by simp [hRl]) (by simp)) Z (ap ?_)))
 refine jf [1,9,0,5] Z (aN (js O Z ?_))
 first | refine ji O Z ?_ | refine bb O Z Z ?_
 refine js O Z (jf [1,9,0,5] Z (jn (ak (j2 O Z Z ?_))))
 first | refine ir O Z Z ?_ | refine bb O Z Z ?_
 refine j2 O Z Z (AOps.step (ar O (ex := [em (bf mT nT K t.facts), .int .i64 (K + bq nT t.facts), eh (t.goal.xs)]) Z Z Z Z (by simp [hRl]) Z) Z Z Z (js O Z (jf [33,32,1,9,0,5] Z (fJ O (l := 0) (j := 2) (z := 1) (ex := [em (bf mT nT K t.facts), .int .i64 (K + bq nT t.facts), eh (t.goal.xs)]) (ys := (t.goal.xs).map (fun n => [D.int .i64 n])) (ys' := (bf mI c5 (K + bq nT t.facts + 1) t.goal.xs).map (fun n => [D.int .i64 n])) (xs' := R.set i [em (bf mT nT K t.facts), .int .i64 (K + bq nT t.facts), eh (bf mI c5 (K + bq nT t.facts + 1) t.goal.xs)]) Z Z Z Z (.rp (.d Z .nil)) (.rp (.d Z .nil)) Z (by simp [hRl]) Z (xL (xs := t.goal.xs) (k := (K + bq nT t.facts + 1)) h1 h2 (by omega) (by omega)).1 (fun _ => by rw [bJ]; exact xL (xs := t.goal.xs) h1 h2 (by omega) (by omega)) (fun hys => ?_) Z (by simp [bg]) Z Z Z Z (by simp) ?_))))
 have hy : t.goal.xs = [] := by simpa using hys
 rw [hy]
 exact (wm h1 h2 (k := (K + bq nT t.facts + 1))).plain (by simp [bq, hy])
 refine ap ?_
 refine js O Z (jf [1,9,0,5] Z (jn (ak (js O Z ?_))))
 first | refine ji O Z ?_ | refine bb O Z Z ?_
 refine js O Z (jf [5,1,9,0] Z (jn ?_))
 refine ⟨i + 1, Ent.to ⟨Z, ?_, Z, trivial⟩ (by rw [az, ← hRn]), by omega, by omega⟩
 rw [hcs]
 exact congrArg (fun z => some (eI z)) (by omega)
 try simp only [aJ] at hc9
 refine aU (ae (j2 O Z Z (jr ?_)))
 refine ⟨.inl Z, _, aj, _, Z, ?_⟩
 obtain rfl : i = ts.length := by omega
 rw [km (bH _), List.take_length]
 exact ⟨Z, Z⟩
theorem jA (hk0 : 0 ≤ k) (hk1 : k + bq nQ ts ≤ 1073741824) : MQ h1 h2 17 [.c (.d (dO (bf mQ nQ k ts))), eI k] [] (Plain (eI (k + bq nQ ts))) := by
 refine aB ?_ Z
 refine jB 42 h1 h2 Tryz.func17 Z Z Z fun O hF => ?_
 have hlm := bg (f := mQ) (sz := nQ) (k := k) (l := ts)
 have hl : (bf mQ nQ k ts).length ≤ L := by simpa [As.fact, A.fact, M.fact, D.fact, Ds.fact] using hF.1.1
 refine ae (js O Z (jn (ag (ae (js O Z (jn (am (au (X := Nat) (fun i => ⟨[(0, .c (.d (dO (bf mQ nQ k ts)))), (1, eI (k + bq nQ (ts.take i))), (5, eI i)], []⟩) (fun i => i ≤ ts.length) (fun i => ts.length - i) 0 (Ent.env ⟨Z, by simp [bN, aA, bq], Z, trivial⟩) ?_ (fun i hi => ?_)))))))))
 exact cC _
 refine ag (ae (j2 O Z Z ?_))
 first | refine bw O Z ?_ | refine js O Z ?_ | refine bb O Z Z ?_
 refine js O Z (jf [9,0,1,5] Z (jn (ab O Z Z (fun hc9 => ?_) (fun hc9 => ?_))))
 refine ah (ag (am (ae ?_)))
 have hil : i < ts.length := by have h9 := aQ hc9; omega
 have hg := ig (f := mQ) (sz := nQ) (k := k) hil
 have hcs := ff (sz := nQ) hil
 have hcl := jg (sz := nQ) (l := ts) (i := i + 1)
 rw [← aw hil] at hcs
 obtain ⟨t, ht⟩ : ∃ t, t = ts.getD i default := ⟨_, rfl⟩
 rw [← ht] at hg hcs
 simp only [nQ] at hcs
 obtain ⟨K, hK⟩ : ∃ K, K = k + (bq nQ (ts.take i) : Int) := ⟨_, rfl⟩
 rw [← hK] at hg ⊢
 refine j2 O Z Z (AOps.step ((aS O Z Z Z Z Z Z Z Z (c9 (by omega))).cast (v' := ptr (Sq.cells (mQ K t))) (by rw [hg])) Z Z Z (j3 O Z Z Z (jf [17,16,9,0,1,5] Z (ac O Z Z Z Z (c41 (ts := t.facts) (k := K) h1 h2 (by omega) (by omega)) (aa Z) Z Z Z Z Z (B0 := 19000) Z (js O Z (jf [1,9,0,5] Z (jn (ag (ae (j2 O Z Z (jn (ab O Z Z (fun hc20 => ?_) (fun hc20 => ?_)))))))))))))
 exact absurd (aQ hc20) (by omega)
 refine ah (ag (ae (j2 O Z Z (AOps.step ((aS O Z Z Z Z Z Z Z Z (c9 (by omega))).cast (v' := ptr (Sq.cells (mQ K t))) (by rw [hg])) Z Z Z (j4 O Z Z Z Z (js O Z (jf [28,20,19,1,9,0,5] Z (jn (ab O Z Z (fun hc28 => ?_) (fun hc28 => ?_))))))))))
 exact absurd hc28 (by simp)
 refine ah (ae (js O Z ?_))
 first | refine ji O Z ?_ | refine bb O Z Z ?_
 refine js O Z (jf [1,28,20,19,9,0,5] Z (aN (j2 O Z Z (AOps.step ((aS O Z Z Z Z Z Z Z Z (c9 (by omega))).cast (v' := ptr (Sq.cells (mQ K t))) (by rw [hg])) Z Z Z (j4 O Z Z Z Z (jf [37,36,1,28,20,19,9,0,5] Z (ac O Z Z Z Z ((zp (xs := bf mI c5 ((K + bq nT t.facts + 1)) t.goal.xs) (k := (K + bq nT t.facts + 1)) h1 h2 (by omega) (by omega)).plain (congrArg eI (kN t.goal.xs ((K + bq nT t.facts + 1))))) (aa Z) Z Z Z Z Z (B0 := 39000) Z (js O Z (jf [1,28,20,19,9,0,5] Z (aN (j2 O Z Z (jn (ab O Z Z (fun hc40 => ?_) (fun hc40 => ?_))))))))))))))
 exact absurd (aQ hc40) (by omega)
 refine ah (ak (js O Z ?_))
 first | refine ji O Z ?_ | refine bb O Z Z ?_
 refine js O Z (jf [5,40,39,1,28,20,19,9,0] Z (jn ?_))
 refine ⟨i + 1, Ent.env ⟨Z, ?_, Z, trivial⟩, by omega, by omega⟩
 rw [hcs]
 exact congrArg (fun z => some (eI z)) (by omega)
 refine aU (ae (j2 O Z Z (jr ?_)))
 refine ⟨.inl Z, _, aj, _, Z, ?_⟩
 have h9 := bB hc9
 obtain rfl : i = ts.length := by omega
 rw [List.take_length]
variable {a : An} {r : List Sq}
theorem vk {n : Int} {m0 : Nat} (hm0 : m0 = r.length) (hcc : 1 + bq nQ r ≤ (1073741824 : Int)) (cs : MQ h1 h2 10 [aAn a, eI n] [] (Plain (.tup [ph r, eB true]))) (ci : MQ h1 h2 12 [aAn a, eI n] [] (Rows (.tup [.c (.rs 0 0 m0), eB true]) [az r])) (hz1 : 0 ≤ dN 1048576 a.size) (hcp : 1 + bq nT a.pre + bq nT a.post + bq gI a.code + bq nP a.pts ≤ (1073741824 : Int)) : MQ h1 h2 3 [aAn a, eI n] [] (Plain (eB true)) := by
 refine aB ?_ Z
 refine jB 101 h1 h2 Tryz.func3 Z Z Z fun O hF => ?_
 subst hm0
 have hbig : L ≤ 9223372036854775807 := Nat.le_trans h2 (by decide)
 refine ae (jx O Z (ap ?_))
 refine js O Z (aN (js O Z (aN (j2 O Z Z (ac O Z Z Z Z (vK (a := a) (left := 1048576) h1 hbig (by decide) (by decide)) (aa Z) Z Z Z Z Z (B0 := 19000) Z (js O Z (jf [5,4,2,0,1] Z (jn (ag (ae (j2 O Z Z (jn (ab O Z Z (fun hc20 => ?_) (fun hc20 => ?_))))))))))))))
 exact absurd (aQ hc20) (by omega)
 refine ah (ae (js O Z (jf [22,19,5,4,2,0,1] Z (ax O Z Z Z Z (jU (a := a) h1 h2) (aa Z) Z Z Z Z (B0 := 24000) Z Z (js O Z (jf [24,23,19,5,4,2,0,1] Z (ax O Z Z Z Z (cs) (aa Z) Z Z Z Z (B0 := 26000) Z Z (j4 O Z Z Z Z (js O Z (jf [7,6,19,5,4,2,0,1] Z (aN (js O Z (aL O (B0 := 30000) Z Z Z Z (vU (a := a) h1 h2) (aa Z) Z Z Z Z Z Z (ap ?_))))))))))))))
 refine jf [29,7,6,19,5,4,2,0,1] Z (jl O Z (ap ?_))
 refine jo O Z (ap ?_)
 refine aN (j2 O Z Z (aL O (B0 := 34000) Z Z Z Z (ci) (.cons (.agg (.cons (.whole Z (bJ _).symm) (.cons (.whole Z (bJ _).symm) (.cons (.whole Z (bJ _).symm) (.cons (.whole Z (bJ _).symm) .nil))))) (.cons (.c .d) .nil)) Z Z Z Z Z Z (ap ?_)))
 refine j4 O Z Z Z Z (js O Z (jf [10,9,8,29,7,6,19,5,4,2,0,1] Z (jn (ag (ae (j2 O Z Z (ac O Z Z Z Z ((qy (xs := r) (ys := r) h1 h2).plain (u := eB true) (by simp)) (.cons (.c (.whole Z (bJ _).symm)) (.cons (.c .d) .nil)) Z Z Z Z Z (B0 := 39000) Z (j2 O Z Z (jf [40,10,9,8,29,7,6,19,5,4,2,0,1] Z (bp Z (js O Z (bp Z (js O Z (bp Z (js O Z (AOps.step (aH O Z Z Z Z Z) Z Z Z (jf [44,10,9,8,29,7,6,19,5,4,2,0,1] Z (jn (ab O Z Z (fun hc44 => ?_) (fun hc44 => ?_))))))))))))))))))))
 exact absurd (show false = true from hc44) (by decide)
 refine ah (ag (ag (jw [10,9,8,29,7,6,19,5,4,2,0,1] Z (jS O [_,_,_,_,_] [pn [] 0 1, pn [] 0 0, pe [1] 0, pe [0,1,2] 1, pn (rg 0 4) 2 2] [2,3] [_,_,_] (ai (kc O Z (V O Z)) (kc O Z (ai (aW O (B0 := 48000) Z Z Z Z (jU (a := a) h1 h2) (aa Z) Z Z Z Z Z) (ai (bu O (B0 := 49000) Z Z Z Z ((xK (s := a) (t := a) h1 h2).plain (u := eB true) (by simp)) (.cons (.agg (.cons (.whole Z (bJ _).symm) (.cons (.whole Z (bJ _).symm) (.cons (.whole Z (bJ _).symm) (.cons (.whole Z (bJ _).symm) .nil))))) (.cons (.agg (aC Z)) .nil)) Z Z Z Z Z) (kc O Z trivial))))) ?_))))
 refine jw [49,10,9,8,29,7,6,19,5,4,2,0,1] Z (ct ?_)
 refine ab O Z Z (fun hc49 => ?_) (fun hc49 => ?_)
 exact absurd (show false = true from hc49) (by decide)
 refine ah (ae (js O Z (aN (j2 O Z Z (jf [51,50,11,10,9,8,29,7,6,19,5,4,2,0,1] Z (aq O [30000,30001,30002,30003] (bin := [eu a.pre, eu a.post, gV a.code, gU a.pts]) Z Z Z Z (xJ (a := a) (k := 1) h1 h2 (by decide) (by omega)) Z Z Z Z Z Z (B0 := 53000) Z Z (ap ?_)))))))
 refine js O Z (jf [11,10,9,8,29,7,6,19,5,4,2,0,1] Z (jn (ag (ae (j2 O Z Z ?_)))))
 rw [decide_eq_false (show ¬ (1 + bq nT a.pre + bq nT a.post + bq gI a.code + bq nP a.pts : Int) < 0 by omega)]
 refine js O Z (jf [55,11,10,9,8,29,7,6,19,5,4,2,0,1] Z (bp Z (js O Z (bp Z (js O Z (bp Z (ac O Z Z Z Z ((qy (xs := r) (ys := r) h1 h2).plain (u := eB true) (by simp)) (.cons (.c (.whole Z (bJ _).symm)) (.cons (.c .d) .nil)) Z Z Z Z Z (B0 := 59000) Z (jf [58,55,11,10,9,8,29,7,6,19,5,4,2,0,1] Z (bp Z (js O Z (AOps.step (aH O Z Z Z Z Z) Z Z Z (js O Z (jf [61,11,10,9,8,29,7,6,19,5,4,2,0,1] Z (bp Z (js O Z (bp Z (js O Z (bp Z (js O Z (AOps.step (aH O Z Z Z Z Z) Z Z Z (jf [65,11,10,9,8,29,7,6,19,5,4,2,0,1] Z (jn (ab O Z Z (fun hc65 => ?_) (fun hc65 => ?_))))))))))))))))))))))))
 exact absurd (show false = true from hc65) (by decide)
 refine ah (ae (js O Z (aN (j2 O Z Z (jf [67,66,12,11,10,9,8,29,7,6,19,5,4,2,0,1] Z (aq O [34000] (bin := [az r]) Z Z Z Z (ue (ts := r) (k := 1) h1 h2 (by decide) (by omega)) Z Z Z Z Z Z (B0 := 69000) Z Z (ap ?_)))))))
 refine js O Z (jf [12,11,10,9,8,29,7,6,19,5,4,2,0,1] Z (aN (js O Z (aN (j2 O Z Z (ac O Z Z Z Z (jA (ts := r) (k := 1) h1 h2 (by decide) (by omega)) (.cons (.c (.whole Z (by rw [bJ, bg]))) (.cons (.c .d) .nil)) Z Z Z Z Z (B0 := 72000) Z (js O Z (jf [13,12,11,10,9,8,29,7,6,19,5,4,2,0,1] Z (jn (ag (ae (j2 O Z Z (jn (ab O Z Z (fun hc73 => ?_) (fun hc73 => ?_)))))))))))))))
 exact absurd (aQ hc73) (by omega)
 refine ah (ag (ae (j3 O Z Z Z (jf [76,72,13,12,11,10,9,8,29,7,6,19,5,4,2,0,1] Z (jn (ab O Z Z (fun hc76 => ?_) (fun hc76 => ?_)))))))
 exact absurd hc76 (by simp)
 refine ah (ae (js O Z (jf [78,72,13,12,11,10,9,8,29,7,6,19,5,4,2,0,1] Z (ax O Z Z Z Z (jU (a := a) h1 h2) (aa Z) Z Z Z Z (B0 := 80000) Z Z (js O Z (jf [80,79,72,13,12,11,10,9,8,29,7,6,19,5,4,2,0,1] Z (aL O (B0 := 82000) Z Z Z Z (ci) (aa Z) Z Z Z Z Z Z (ap ?_))))))))
 refine j4 O Z Z Z Z (js O Z (jf [15,14,72,13,12,11,10,9,8,29,7,6,19,5,4,2,0,1] Z (jn (ag (ae (j2 O Z Z (jf [85,84,15,72,13,12,11,10,9,8,29,7,6,19,5,4,2,0,1] Z (ac O Z Z Z Z ((qy (xs := r) (ys := r) h1 h2).plain (u := eB true) (by simp)) (.cons (.c (.whole Z (bJ _).symm)) (.cons (.c .d) .nil)) Z Z Z Z Z (B0 := 87000) Z (j2 O Z Z (jf [88,15,72,13,12,11,10,9,8,29,7,6,19,5,4,2,0,1] Z (bp Z (js O Z (jf [89,88,72,13,12,11,10,9,8,29,7,6,19,5,4,2,0,1] Z (bp Z (js O Z (bp Z (js O Z (AOps.step (aH O Z Z Z Z Z) Z Z Z (jf [92,72,13,12,11,10,9,8,29,7,6,19,5,4,2,0,1] Z (jn (ab O Z Z (fun hc92 => ?_) (fun hc92 => ?_))))))))))))))))))))))
 exact absurd (show false = true from hc92) (by decide)
 refine ah (ae (js O Z (aN (j2 O Z Z (jf [94,93,13,72,12,11,10,9,8,29,7,6,19,5,4,2,0,1] Z (ac O Z Z Z Z (jA (ts := r) (k := 1) h1 h2 (by decide) (by omega)) (.cons (.c (.whole Z (by rw [bJ, bg]))) (.cons (.c .d) .nil)) Z Z Z Z Z (B0 := 96000) Z (js O Z (jf [13,72,12,11,10,9,8,29,7,6,19,5,4,2,0,1] Z (jn (ag (ae (j2 O Z Z (jn (ab O Z Z (fun hc97 => ?_) (fun hc97 => ?_)))))))))))))))
 exact absurd (aQ hc97) (by omega)
 refine ah (ag (ae (j3 O Z Z Z (jf [100,96,13,72,12,11,10,9,8,29,7,6,19,5,4,2,0,1] Z (jn (ab O Z Z (fun hc100 => ?_) (fun hc100 => ?_)))))))
 exact absurd hc100 (by simp)
 refine ah (ae (js O Z (jr ?_)))
 refine ⟨.inl Z, _, aj, _, Z, ?_⟩
 rfl
theorem jk {n : Int} (cs : MQ h1 h2 10 [aAn a, eI n] [] (Plain (.tup [ph ([] : List Sq), eB false]))) (ci : MQ h1 h2 12 [aAn a, eI n] [] (Rows (.tup [.c (.d .nils), eB false]) [])) (hz1 : 0 ≤ dN 1048576 a.size) (hcp : 1 + bq nT a.pre + bq nT a.post + bq gI a.code + bq nP a.pts ≤ (1073741824 : Int)) : MQ h1 h2 3 [aAn a, eI n] [] (Plain (eB true)) := by
 refine aB ?_ Z
 refine jB 101 h1 h2 Tryz.func3 Z Z Z fun O hF => ?_
 have hbig : L ≤ 9223372036854775807 := Nat.le_trans h2 (by decide)
 refine ae (jx O Z (ap ?_))
 refine js O Z (aN (js O Z (aN (j2 O Z Z (ac O Z Z Z Z (vK (a := a) (left := 1048576) h1 hbig (by decide) (by decide)) (aa Z) Z Z Z Z Z (B0 := 19000) Z (js O Z (jf [5,4,2,0,1] Z (jn (ag (ae (j2 O Z Z (jn (ab O Z Z (fun hc20 => ?_) (fun hc20 => ?_))))))))))))))
 exact absurd (aQ hc20) (by omega)
 refine ah (ae (js O Z (jf [22,19,5,4,2,0,1] Z (ax O Z Z Z Z (jU (a := a) h1 h2) (aa Z) Z Z Z Z (B0 := 24000) Z Z (js O Z (jf [24,23,19,5,4,2,0,1] Z (ax O Z Z Z Z (cs) (aa Z) Z Z Z Z (B0 := 26000) Z Z (j4 O Z Z Z Z (js O Z (jf [7,6,19,5,4,2,0,1] Z (aN (js O Z (aL O (B0 := 30000) Z Z Z Z (vU (a := a) h1 h2) (aa Z) Z Z Z Z Z Z (ap ?_))))))))))))))
 refine jf [29,7,6,19,5,4,2,0,1] Z (jl O Z (ap ?_))
 refine jo O Z (ap ?_)
 refine aN (j2 O Z Z (aL O (B0 := 34000) Z Z Z Z (ci) (.cons (.agg (.cons (.whole Z (bJ _).symm) (.cons (.whole Z (bJ _).symm) (.cons (.whole Z (bJ _).symm) (.cons (.whole Z (bJ _).symm) .nil))))) (.cons (.c .d) .nil)) Z Z Z Z Z Z (ap ?_)))
 refine j4 O Z Z Z Z (js O Z (jf [10,9,8,29,7,6,19,5,4,2,0,1] Z (jn (ag (ae (j2 O Z Z (ac O Z Z Z Z ((qy (xs := ([] : List Sq)) (ys := ([] : List Sq)) h1 h2).plain (u := eB true) (by simp)) (.cons (.c .nils) (.cons (.c .d) .nil)) Z Z Z Z Z (B0 := 39000) Z (j2 O Z Z (jf [40,10,9,8,29,7,6,19,5,4,2,0,1] Z (bp Z (js O Z (bp Z (js O Z (bp Z (js O Z (AOps.step (aH O Z Z Z Z Z) Z Z Z (jf [44,10,9,8,29,7,6,19,5,4,2,0,1] Z (jn (ab O Z Z (fun hc44 => ?_) (fun hc44 => ?_))))))))))))))))))))
 exact absurd (show false = true from hc44) (by decide)
 refine ah (ag (ag (jw [10,9,8,29,7,6,19,5,4,2,0,1] Z (jS O [_,_,_,_,_] [pn [] 0 1, pn [] 0 0, pe [1] 0, pe [0,1,2] 1, pn (rg 0 4) 2 2] [2,3] [_,_,_] (ai (kc O Z (V O Z)) (kc O Z (ai (aW O (B0 := 48000) Z Z Z Z (jU (a := a) h1 h2) (aa Z) Z Z Z Z Z) (ai (bu O (B0 := 49000) Z Z Z Z ((xK (s := a) (t := a) h1 h2).plain (u := eB true) (by simp)) (.cons (.agg (.cons (.whole Z (bJ _).symm) (.cons (.whole Z (bJ _).symm) (.cons (.whole Z (bJ _).symm) (.cons (.whole Z (bJ _).symm) .nil))))) (.cons (.agg (aC Z)) .nil)) Z Z Z Z Z) (kc O Z trivial))))) ?_))))
 refine jw [49,10,9,8,29,7,6,19,5,4,2,0,1] Z (ct ?_)
 refine ab O Z Z (fun hc49 => ?_) (fun hc49 => ?_)
 exact absurd (show false = true from hc49) (by decide)
 refine ah (ae (js O Z (aN (j2 O Z Z (jf [51,50,11,10,9,8,29,7,6,19,5,4,2,0,1] Z (aq O [30000,30001,30002,30003] (bin := [eu a.pre, eu a.post, gV a.code, gU a.pts]) Z Z Z Z (xJ (a := a) (k := 1) h1 h2 (by decide) (by omega)) Z Z Z Z Z Z (B0 := 53000) Z Z (ap ?_)))))))
 refine js O Z (jf [11,10,9,8,29,7,6,19,5,4,2,0,1] Z (jn (ag (ae (j2 O Z Z ?_)))))
 rw [decide_eq_false (show ¬ (1 + bq nT a.pre + bq nT a.post + bq gI a.code + bq nP a.pts : Int) < 0 by omega)]
 refine js O Z (jf [55,11,10,9,8,29,7,6,19,5,4,2,0,1] Z (bp Z (js O Z (bp Z (js O Z (bp Z (ac O Z Z Z Z ((qy (xs := ([] : List Sq)) (ys := ([] : List Sq)) h1 h2).plain (u := eB true) (by simp)) (.cons (.c .nils) (.cons (.c .d) .nil)) Z Z Z Z Z (B0 := 59000) Z (jf [58,55,11,10,9,8,29,7,6,19,5,4,2,0,1] Z (bp Z (js O Z (AOps.step (aH O Z Z Z Z Z) Z Z Z (js O Z (jf [61,11,10,9,8,29,7,6,19,5,4,2,0,1] Z (bp Z (js O Z (bp Z (js O Z (bp Z (js O Z (AOps.step (aH O Z Z Z Z Z) Z Z Z (jf [65,11,10,9,8,29,7,6,19,5,4,2,0,1] Z (jn (ab O Z Z (fun hc65 => ?_) (fun hc65 => ?_))))))))))))))))))))))))
 exact absurd (show false = true from hc65) (by decide)
 refine ah (ae (js O Z (aN (j2 O Z Z (jf [67,66,12,11,10,9,8,29,7,6,19,5,4,2,0,1] Z (ac O Z Z Z Z (rN (k := 1) h1 h2) (.cons (.c .nils) (.cons (.c .d) .nil)) Z Z Z Z Z (B0 := 69000) Z (js O Z (jf [12,11,10,9,8,29,7,6,19,5,4,2,0,1] Z (aN (js O Z (aN (j2 O Z Z (ac O Z Z Z Z ((jA (ts := ([] : List Sq)) (k := 1) h1 h2 (by decide) (by decide)).plain (u := eI 1) Z) (.cons (.c .nils) (.cons (.c .d) .nil)) Z Z Z Z Z (B0 := 72000) Z (js O Z (jf [13,12,11,10,9,8,29,7,6,19,5,4,2,0,1] Z (jn (ag (ae (j2 O Z Z (jn (ab O Z Z (fun hc73 => ?_) (fun hc73 => ?_))))))))))))))))))))))
 exact absurd (aQ hc73) (by decide)
 refine ah (ag (ae (j3 O Z Z Z (jf [76,72,13,12,11,10,9,8,29,7,6,19,5,4,2,0,1] Z (jn (ab O Z Z (fun hc76 => ?_) (fun hc76 => ?_)))))))
 exact absurd hc76 (by simp)
 refine ah (ae (js O Z (jf [78,72,13,12,11,10,9,8,29,7,6,19,5,4,2,0,1] Z (ax O Z Z Z Z (jU (a := a) h1 h2) (aa Z) Z Z Z Z (B0 := 80000) Z Z (js O Z (jf [80,79,72,13,12,11,10,9,8,29,7,6,19,5,4,2,0,1] Z (aL O (B0 := 82000) Z Z Z Z (ci) (aa Z) Z Z Z Z Z Z (ap ?_))))))))
 refine j4 O Z Z Z Z (js O Z (jf [15,14,72,13,12,11,10,9,8,29,7,6,19,5,4,2,0,1] Z (jn (ag (ae (j2 O Z Z (jf [85,84,15,72,13,12,11,10,9,8,29,7,6,19,5,4,2,0,1] Z (ac O Z Z Z Z ((qy (xs := ([] : List Sq)) (ys := ([] : List Sq)) h1 h2).plain (u := eB true) (by simp)) (.cons (.c .nils) (.cons (.c .d) .nil)) Z Z Z Z Z (B0 := 87000) Z (j2 O Z Z (jf [88,15,72,13,12,11,10,9,8,29,7,6,19,5,4,2,0,1] Z (bp Z (js O Z (jf [89,88,72,13,12,11,10,9,8,29,7,6,19,5,4,2,0,1] Z (bp Z (js O Z (bp Z (js O Z (AOps.step (aH O Z Z Z Z Z) Z Z Z (jf [92,72,13,12,11,10,9,8,29,7,6,19,5,4,2,0,1] Z (jn (ab O Z Z (fun hc92 => ?_) (fun hc92 => ?_))))))))))))))))))))))
 exact absurd (show false = true from hc92) (by decide)
 refine ah (ae (js O Z (aN (j2 O Z Z (jf [94,93,13,72,12,11,10,9,8,29,7,6,19,5,4,2,0,1] Z (ac O Z Z Z Z ((jA (ts := ([] : List Sq)) (k := 1) h1 h2 (by decide) (by decide)).plain (u := eI 1) Z) (.cons (.c .nils) (.cons (.c .d) .nil)) Z Z Z Z Z (B0 := 96000) Z (js O Z (jf [13,72,12,11,10,9,8,29,7,6,19,5,4,2,0,1] Z (jn (ag (ae (j2 O Z Z (jn (ab O Z Z (fun hc97 => ?_) (fun hc97 => ?_)))))))))))))))
 exact absurd (aQ hc97) (by decide)
 refine ah (ag (ae (j3 O Z Z Z (jf [100,96,13,72,12,11,10,9,8,29,7,6,19,5,4,2,0,1] Z (jn (ab O Z Z (fun hc100 => ?_) (fun hc100 => ?_)))))))
 exact absurd hc100 (by simp)
 refine ah (ae (js O Z (jr ?_)))
 refine ⟨.inl Z, _, aj, _, Z, ?_⟩
 rfl
theorem vm {L : Nat} (h1 : 4096 ≤ L) (h2 : L ≤ 9223372036854775807) {a : An} {n : Int} (hz : dN 1048576 a.size < 0) : MC Tryz.prog L 3 [aAn a, eI n] [] (Plain (eB true)) := by
 refine aB ?_ Z
 have O := kb (nt := 101) h1 h2
 refine MC.body O Tryz.func3 (by kernel_rfl) Z Z (Nat.le_of_ble_eq_true Z) (fun hF => ?_)
 refine ae (jx O Z (ap ?_))
 refine js O Z (aN (js O Z (aN (j2 O Z Z (ac O Z Z Z Z (vK (a := a) (left := 1048576) h1 h2 (by decide) (by decide)) (aa Z) Z Z Z Z Z (B0 := 19000) Z (js O Z (jf [5,4,2,0,1] Z (jn (ag (ae (j2 O Z Z (jn (ab O Z Z (fun hc20 => ?_) (fun hc20 => ?_))))))))))))))
 refine ae (js O Z (jr ?_))
 refine ⟨.inl Z, _, aj, _, Z, ?_⟩
 rfl
 exact absurd (bB hc20) (fun h => h hz)
theorem vi {m0 : Nat} (hm0 : m0 = r.length) (hcc : 1 + bq nQ r ≤ (1073741824 : Int)) (cs : MQ h1 h2 23 [aAn a] [] (Plain (.tup [ph r, eB true]))) (ci : MQ h1 h2 24 [aAn a] [] (Rows (.tup [.c (.rs 0 0 m0), eB true]) [az r])) (hz1 : 0 ≤ dN 1048576 a.size) (hcp : 1 + bq nT a.pre + bq nT a.post + bq gI a.code + bq nP a.pts ≤ (1073741824 : Int)) : MQ h1 h2 5 [aAn a] [] (Plain (eB true)) := by
 refine aB ?_ Z
 refine jB 96 h1 h2 Tryz.func5 Z Z Z fun O hF => ?_
 subst hm0
 have hbig : L ≤ 9223372036854775807 := Nat.le_trans h2 (by decide)
 refine ae (jx O Z (ap ?_))
 refine js O Z (aN (js O Z (aN (j2 O Z Z (ac O Z Z Z Z (vK (a := a) (left := 1048576) h1 hbig (by decide) (by decide)) (aa Z) Z Z Z Z Z (B0 := 17000) Z (js O Z (jf [3,2,1,0] Z (jn (ag (ae (j2 O Z Z (jn (ab O Z Z (fun hc18 => ?_) (fun hc18 => ?_))))))))))))))
 exact absurd (aQ hc18) (by omega)
 refine ah (ae (js O Z (jf [20,17,3,2,1,0] Z (ax O Z Z Z Z (jU (a := a) h1 h2) (aa Z) Z Z Z Z (B0 := 22000) Z Z (jf [21,17,3,2,1,0] Z (ax O Z Z Z Z (cs) (aa Z) Z Z Z Z (B0 := 23000) Z Z (j4 O Z Z Z Z (js O Z (jf [5,4,17,3,2,1,0] Z (aN (js O Z (aL O (B0 := 27000) Z Z Z Z (vU (a := a) h1 h2) (aa Z) Z Z Z Z Z Z (ap ?_)))))))))))))
 refine jf [26,5,4,17,3,2,1,0] Z (jl O Z (ap ?_))
 refine jo O Z (ap ?_)
 refine aN (js O Z (aL O (B0 := 30000) Z Z Z Z (ci) (.cons (.agg (.cons (.whole Z (bJ _).symm) (.cons (.whole Z (bJ _).symm) (.cons (.whole Z (bJ _).symm) (.cons (.whole Z (bJ _).symm) .nil))))) .nil) Z Z Z Z Z Z (ap ?_)))
 refine j4 O Z Z Z Z (js O Z (jf [8,7,6,26,5,4,17,3,2,1,0] Z (jn (ag (ae (j2 O Z Z (ac O Z Z Z Z ((qy (xs := r) (ys := r) h1 h2).plain (u := eB true) (by simp)) (.cons (.c (.whole Z (bJ _).symm)) (.cons (.c .d) .nil)) Z Z Z Z Z (B0 := 35000) Z (j2 O Z Z (jf [36,8,7,6,26,5,4,17,3,2,1,0] Z (bp Z (js O Z (bp Z (js O Z (bp Z (js O Z (AOps.step (aH O Z Z Z Z Z) Z Z Z (jf [40,8,7,6,26,5,4,17,3,2,1,0] Z (jn (ab O Z Z (fun hc40 => ?_) (fun hc40 => ?_))))))))))))))))))))
 exact absurd (show false = true from hc40) (by decide)
 refine ah (ag (ag (jw [8,7,6,26,5,4,17,3,2,1,0] Z (jS O [_,_,_,_,_] [pn [] 0 1, pn [] 0 0, pe [1] 0, pe [0,1,2] 1, pn (rg 0 4) 2 2] [2,3] [_,_,_] (ai (kc O Z (V O Z)) (kc O Z (ai (aW O (B0 := 44000) Z Z Z Z (jU (a := a) h1 h2) (aa Z) Z Z Z Z Z) (ai (bu O (B0 := 45000) Z Z Z Z ((xK (s := a) (t := a) h1 h2).plain (u := eB true) (by simp)) (.cons (.agg (.cons (.whole Z (bJ _).symm) (.cons (.whole Z (bJ _).symm) (.cons (.whole Z (bJ _).symm) (.cons (.whole Z (bJ _).symm) .nil))))) (.cons (.agg (aC Z)) .nil)) Z Z Z Z Z) (kc O Z trivial))))) ?_))))
 refine jw [45,8,7,6,26,5,4,17,3,2,1,0] Z (ct ?_)
 refine ab O Z Z (fun hc45 => ?_) (fun hc45 => ?_)
 exact absurd (show false = true from hc45) (by decide)
 refine ah (ae (js O Z (aN (j2 O Z Z (jf [47,46,9,8,7,6,26,5,4,17,3,2,1,0] Z (aq O [27000,27001,27002,27003] (bin := [eu a.pre, eu a.post, gV a.code, gU a.pts]) Z Z Z Z (xJ (a := a) (k := 1) h1 h2 (by decide) (by omega)) Z Z Z Z Z Z (B0 := 49000) Z Z (ap ?_)))))))
 refine js O Z (jf [9,8,7,6,26,5,4,17,3,2,1,0] Z (jn (ag (ae (j2 O Z Z ?_)))))
 rw [decide_eq_false (show ¬ (1 + bq nT a.pre + bq nT a.post + bq gI a.code + bq nP a.pts : Int) < 0 by omega)]
 refine js O Z (jf [51,9,8,7,6,26,5,4,17,3,2,1,0] Z (bp Z (js O Z (bp Z (js O Z (bp Z (ac O Z Z Z Z ((qy (xs := r) (ys := r) h1 h2).plain (u := eB true) (by simp)) (.cons (.c (.whole Z (bJ _).symm)) (.cons (.c .d) .nil)) Z Z Z Z Z (B0 := 55000) Z (jf [54,51,9,8,7,6,26,5,4,17,3,2,1,0] Z (bp Z (js O Z (AOps.step (aH O Z Z Z Z Z) Z Z Z (js O Z (jf [57,9,8,7,6,26,5,4,17,3,2,1,0] Z (bp Z (js O Z (bp Z (js O Z (bp Z (js O Z (AOps.step (aH O Z Z Z Z Z) Z Z Z (jf [61,9,8,7,6,26,5,4,17,3,2,1,0] Z (jn (ab O Z Z (fun hc61 => ?_) (fun hc61 => ?_))))))))))))))))))))))))
 exact absurd (show false = true from hc61) (by decide)
 refine ah (ae (js O Z (aN (j2 O Z Z (jf [63,62,10,9,8,7,6,26,5,4,17,3,2,1,0] Z (aq O [30000] (bin := [az r]) Z Z Z Z (ue (ts := r) (k := 1) h1 h2 (by decide) (by omega)) Z Z Z Z Z Z (B0 := 65000) Z Z (ap ?_)))))))
 refine js O Z (jf [10,9,8,7,6,26,5,4,17,3,2,1,0] Z (aN (js O Z (aN (j2 O Z Z (ac O Z Z Z Z (jA (ts := r) (k := 1) h1 h2 (by decide) (by omega)) (.cons (.c (.whole Z (by rw [bJ, bg]))) (.cons (.c .d) .nil)) Z Z Z Z Z (B0 := 68000) Z (js O Z (jf [11,10,9,8,7,6,26,5,4,17,3,2,1,0] Z (jn (ag (ae (j2 O Z Z (jn (ab O Z Z (fun hc69 => ?_) (fun hc69 => ?_)))))))))))))))
 exact absurd (aQ hc69) (by omega)
 refine ah (ag (ae (j3 O Z Z Z (jf [72,68,11,10,9,8,7,6,26,5,4,17,3,2,1,0] Z (jn (ab O Z Z (fun hc72 => ?_) (fun hc72 => ?_)))))))
 exact absurd hc72 (by simp)
 refine ah (ae (js O Z (jf [74,68,11,10,9,8,7,6,26,5,4,17,3,2,1,0] Z (ax O Z Z Z Z (jU (a := a) h1 h2) (aa Z) Z Z Z Z (B0 := 76000) Z Z (jf [75,68,11,10,9,8,7,6,26,5,4,17,3,2,1,0] Z (aL O (B0 := 77000) Z Z Z Z (ci) (aa Z) Z Z Z Z Z Z (ap ?_)))))))
 refine j4 O Z Z Z Z (js O Z (jf [13,12,68,11,10,9,8,7,6,26,5,4,17,3,2,1,0] Z (jn (ag (ae (j2 O Z Z (jf [80,79,13,68,11,10,9,8,7,6,26,5,4,17,3,2,1,0] Z (ac O Z Z Z Z ((qy (xs := r) (ys := r) h1 h2).plain (u := eB true) (by simp)) (.cons (.c (.whole Z (bJ _).symm)) (.cons (.c .d) .nil)) Z Z Z Z Z (B0 := 82000) Z (j2 O Z Z (jf [83,13,68,11,10,9,8,7,6,26,5,4,17,3,2,1,0] Z (bp Z (js O Z (jf [84,83,68,11,10,9,8,7,6,26,5,4,17,3,2,1,0] Z (bp Z (js O Z (bp Z (js O Z (AOps.step (aH O Z Z Z Z Z) Z Z Z (jf [87,68,11,10,9,8,7,6,26,5,4,17,3,2,1,0] Z (jn (ab O Z Z (fun hc87 => ?_) (fun hc87 => ?_))))))))))))))))))))))
 exact absurd (show false = true from hc87) (by decide)
 refine ah (ae (js O Z (aN (j2 O Z Z (jf [89,88,11,68,10,9,8,7,6,26,5,4,17,3,2,1,0] Z (ac O Z Z Z Z (jA (ts := r) (k := 1) h1 h2 (by decide) (by omega)) (.cons (.c (.whole Z (by rw [bJ, bg]))) (.cons (.c .d) .nil)) Z Z Z Z Z (B0 := 91000) Z (js O Z (jf [11,68,10,9,8,7,6,26,5,4,17,3,2,1,0] Z (jn (ag (ae (j2 O Z Z (jn (ab O Z Z (fun hc92 => ?_) (fun hc92 => ?_)))))))))))))))
 exact absurd (aQ hc92) (by omega)
 refine ah (ag (ae (j3 O Z Z Z (jf [95,91,11,68,10,9,8,7,6,26,5,4,17,3,2,1,0] Z (jn (ab O Z Z (fun hc95 => ?_) (fun hc95 => ?_)))))))
 exact absurd hc95 (by simp)
 refine ah (ae (js O Z (jr ?_)))
 refine ⟨.inl Z, _, aj, _, Z, ?_⟩
 rfl
theorem lY (cs : MQ h1 h2 23 [aAn a] [] (Plain (.tup [ph ([] : List Sq), eB false]))) (ci : MQ h1 h2 24 [aAn a] [] (Rows (.tup [.c (.d .nils), eB false]) [])) (hz1 : 0 ≤ dN 1048576 a.size) (hcp : 1 + bq nT a.pre + bq nT a.post + bq gI a.code + bq nP a.pts ≤ (1073741824 : Int)) : MQ h1 h2 5 [aAn a] [] (Plain (eB true)) := by
 refine aB ?_ Z
 refine jB 96 h1 h2 Tryz.func5 Z Z Z fun O hF => ?_
 have hbig : L ≤ 9223372036854775807 := Nat.le_trans h2 (by decide)
 refine ae (jx O Z (ap ?_))
 refine js O Z (aN (js O Z (aN (j2 O Z Z (ac O Z Z Z Z (vK (a := a) (left := 1048576) h1 hbig (by decide) (by decide)) (aa Z) Z Z Z Z Z (B0 := 17000) Z (js O Z (jf [3,2,1,0] Z (jn (ag (ae (j2 O Z Z (jn (ab O Z Z (fun hc18 => ?_) (fun hc18 => ?_))))))))))))))
 exact absurd (aQ hc18) (by omega)
 refine ah (ae (js O Z (jf [20,17,3,2,1,0] Z (ax O Z Z Z Z (jU (a := a) h1 h2) (aa Z) Z Z Z Z (B0 := 22000) Z Z (jf [21,17,3,2,1,0] Z (ax O Z Z Z Z (cs) (aa Z) Z Z Z Z (B0 := 23000) Z Z (j4 O Z Z Z Z (js O Z (jf [5,4,17,3,2,1,0] Z (aN (js O Z (aL O (B0 := 27000) Z Z Z Z (vU (a := a) h1 h2) (aa Z) Z Z Z Z Z Z (ap ?_)))))))))))))
 refine jf [26,5,4,17,3,2,1,0] Z (jl O Z (ap ?_))
 refine jo O Z (ap ?_)
 refine aN (js O Z (aL O (B0 := 30000) Z Z Z Z (ci) (.cons (.agg (.cons (.whole Z (bJ _).symm) (.cons (.whole Z (bJ _).symm) (.cons (.whole Z (bJ _).symm) (.cons (.whole Z (bJ _).symm) .nil))))) .nil) Z Z Z Z Z Z (ap ?_)))
 refine j4 O Z Z Z Z (js O Z (jf [8,7,6,26,5,4,17,3,2,1,0] Z (jn (ag (ae (j2 O Z Z (ac O Z Z Z Z ((qy (xs := ([] : List Sq)) (ys := ([] : List Sq)) h1 h2).plain (u := eB true) (by simp)) (.cons (.c .nils) (.cons (.c .d) .nil)) Z Z Z Z Z (B0 := 35000) Z (j2 O Z Z (jf [36,8,7,6,26,5,4,17,3,2,1,0] Z (bp Z (js O Z (bp Z (js O Z (bp Z (js O Z (AOps.step (aH O Z Z Z Z Z) Z Z Z (jf [40,8,7,6,26,5,4,17,3,2,1,0] Z (jn (ab O Z Z (fun hc40 => ?_) (fun hc40 => ?_))))))))))))))))))))
 exact absurd (show false = true from hc40) (by decide)
 refine ah (ag (ag (jw [8,7,6,26,5,4,17,3,2,1,0] Z (jS O [_,_,_,_,_] [pn [] 0 1, pn [] 0 0, pe [1] 0, pe [0,1,2] 1, pn (rg 0 4) 2 2] [2,3] [_,_,_] (ai (kc O Z (V O Z)) (kc O Z (ai (aW O (B0 := 44000) Z Z Z Z (jU (a := a) h1 h2) (aa Z) Z Z Z Z Z) (ai (bu O (B0 := 45000) Z Z Z Z ((xK (s := a) (t := a) h1 h2).plain (u := eB true) (by simp)) (.cons (.agg (.cons (.whole Z (bJ _).symm) (.cons (.whole Z (bJ _).symm) (.cons (.whole Z (bJ _).symm) (.cons (.whole Z (bJ _).symm) .nil))))) (.cons (.agg (aC Z)) .nil)) Z Z Z Z Z) (kc O Z trivial))))) ?_))))
 refine jw [45,8,7,6,26,5,4,17,3,2,1,0] Z (ct ?_)
 refine ab O Z Z (fun hc45 => ?_) (fun hc45 => ?_)
 exact absurd (show false = true from hc45) (by decide)
 refine ah (ae (js O Z (aN (j2 O Z Z (jf [47,46,9,8,7,6,26,5,4,17,3,2,1,0] Z (aq O [27000,27001,27002,27003] (bin := [eu a.pre, eu a.post, gV a.code, gU a.pts]) Z Z Z Z (xJ (a := a) (k := 1) h1 h2 (by decide) (by omega)) Z Z Z Z Z Z (B0 := 49000) Z Z (ap ?_)))))))
 refine js O Z (jf [9,8,7,6,26,5,4,17,3,2,1,0] Z (jn (ag (ae (j2 O Z Z ?_)))))
 rw [decide_eq_false (show ¬ (1 + bq nT a.pre + bq nT a.post + bq gI a.code + bq nP a.pts : Int) < 0 by omega)]
 refine js O Z (jf [51,9,8,7,6,26,5,4,17,3,2,1,0] Z (bp Z (js O Z (bp Z (js O Z (bp Z (ac O Z Z Z Z ((qy (xs := ([] : List Sq)) (ys := ([] : List Sq)) h1 h2).plain (u := eB true) (by simp)) (.cons (.c .nils) (.cons (.c .d) .nil)) Z Z Z Z Z (B0 := 55000) Z (jf [54,51,9,8,7,6,26,5,4,17,3,2,1,0] Z (bp Z (js O Z (AOps.step (aH O Z Z Z Z Z) Z Z Z (js O Z (jf [57,9,8,7,6,26,5,4,17,3,2,1,0] Z (bp Z (js O Z (bp Z (js O Z (bp Z (js O Z (AOps.step (aH O Z Z Z Z Z) Z Z Z (jf [61,9,8,7,6,26,5,4,17,3,2,1,0] Z (jn (ab O Z Z (fun hc61 => ?_) (fun hc61 => ?_))))))))))))))))))))))))
 exact absurd (show false = true from hc61) (by decide)
 refine ah (ae (js O Z (aN (j2 O Z Z (jf [63,62,10,9,8,7,6,26,5,4,17,3,2,1,0] Z (ac O Z Z Z Z (rN (k := 1) h1 h2) (.cons (.c .nils) (.cons (.c .d) .nil)) Z Z Z Z Z (B0 := 65000) Z (js O Z (jf [10,9,8,7,6,26,5,4,17,3,2,1,0] Z (aN (js O Z (aN (j2 O Z Z (ac O Z Z Z Z ((jA (ts := ([] : List Sq)) (k := 1) h1 h2 (by decide) (by decide)).plain (u := eI 1) Z) (.cons (.c .nils) (.cons (.c .d) .nil)) Z Z Z Z Z (B0 := 68000) Z (js O Z (jf [11,10,9,8,7,6,26,5,4,17,3,2,1,0] Z (jn (ag (ae (j2 O Z Z (jn (ab O Z Z (fun hc69 => ?_) (fun hc69 => ?_))))))))))))))))))))))
 exact absurd (aQ hc69) (by decide)
 refine ah (ag (ae (j3 O Z Z Z (jf [72,68,11,10,9,8,7,6,26,5,4,17,3,2,1,0] Z (jn (ab O Z Z (fun hc72 => ?_) (fun hc72 => ?_)))))))
 exact absurd hc72 (by simp)
 refine ah (ae (js O Z (jf [74,68,11,10,9,8,7,6,26,5,4,17,3,2,1,0] Z (ax O Z Z Z Z (jU (a := a) h1 h2) (aa Z) Z Z Z Z (B0 := 76000) Z Z (jf [75,68,11,10,9,8,7,6,26,5,4,17,3,2,1,0] Z (aL O (B0 := 77000) Z Z Z Z (ci) (aa Z) Z Z Z Z Z Z (ap ?_)))))))
 refine j4 O Z Z Z Z (js O Z (jf [13,12,68,11,10,9,8,7,6,26,5,4,17,3,2,1,0] Z (jn (ag (ae (j2 O Z Z (jf [80,79,13,68,11,10,9,8,7,6,26,5,4,17,3,2,1,0] Z (ac O Z Z Z Z ((qy (xs := ([] : List Sq)) (ys := ([] : List Sq)) h1 h2).plain (u := eB true) (by simp)) (.cons (.c .nils) (.cons (.c .d) .nil)) Z Z Z Z Z (B0 := 82000) Z (j2 O Z Z (jf [83,13,68,11,10,9,8,7,6,26,5,4,17,3,2,1,0] Z (bp Z (js O Z (jf [84,83,68,11,10,9,8,7,6,26,5,4,17,3,2,1,0] Z (bp Z (js O Z (bp Z (js O Z (AOps.step (aH O Z Z Z Z Z) Z Z Z (jf [87,68,11,10,9,8,7,6,26,5,4,17,3,2,1,0] Z (jn (ab O Z Z (fun hc87 => ?_) (fun hc87 => ?_))))))))))))))))))))))
 exact absurd (show false = true from hc87) (by decide)
 refine ah (ae (js O Z (aN (j2 O Z Z (jf [89,88,11,68,10,9,8,7,6,26,5,4,17,3,2,1,0] Z (ac O Z Z Z Z ((jA (ts := ([] : List Sq)) (k := 1) h1 h2 (by decide) (by decide)).plain (u := eI 1) Z) (.cons (.c .nils) (.cons (.c .d) .nil)) Z Z Z Z Z (B0 := 91000) Z (js O Z (jf [11,68,10,9,8,7,6,26,5,4,17,3,2,1,0] Z (jn (ag (ae (j2 O Z Z (jn (ab O Z Z (fun hc92 => ?_) (fun hc92 => ?_)))))))))))))))
 exact absurd (aQ hc92) (by decide)
 refine ah (ag (ae (j3 O Z Z Z (jf [95,91,11,68,10,9,8,7,6,26,5,4,17,3,2,1,0] Z (jn (ab O Z Z (fun hc95 => ?_) (fun hc95 => ?_)))))))
 exact absurd hc95 (by simp)
 refine ah (ae (js O Z (jr ?_)))
 refine ⟨.inl Z, _, aj, _, Z, ?_⟩
 rfl
theorem vj {L : Nat} (h1 : 4096 ≤ L) (h2 : L ≤ 9223372036854775807) {a : An} (hz : dN 1048576 a.size < 0) : MC Tryz.prog L 5 [aAn a] [] (Plain (eB true)) := by
 refine aB ?_ Z
 have O := kb (nt := 96) h1 h2
 refine MC.body O Tryz.func5 (by kernel_rfl) Z Z (Nat.le_of_ble_eq_true Z) (fun hF => ?_)
 refine ae (jx O Z (ap ?_))
 refine js O Z (aN (js O Z (aN (j2 O Z Z (ac O Z Z Z Z (vK (a := a) (left := 1048576) h1 h2 (by decide) (by decide)) (aa Z) Z Z Z Z Z (B0 := 17000) Z (js O Z (jf [3,2,1,0] Z (jn (ag (ae (j2 O Z Z (jn (ab O Z Z (fun hc18 => ?_) (fun hc18 => ?_))))))))))))))
 refine ae (js O Z (jr ?_))
 refine ⟨.inl Z, _, aj, _, Z, ?_⟩
 rfl
 exact absurd (bB hc18) (fun h => h hz)
theorem tv (ps : List Pt) : bq nP ps = szs Pt.size ps := by
 induction ps with
 | nil => rfl
 | cons p r ih =>
  have := mi p.fs
  have e : nP p = 1 + bq nT p.fs := rfl
  simp only [bq, szs, List.map_cons, List.sum_cons, i3, Pt.size] at *
  omega
theorem uM (c : List In) : bq gI c = 2 * c.length := by
 induction c with
 | nil => rfl
 | cons x r ih =>
  rw [show bq gI (x :: r) = 2 + bq gI r by simp [bq], ih, i3]; omega
theorem r5 {L S : Nat} {c : List In} (h : D.fact L (i8 c)) (hl : c.length ≤ S) : D.fact S (i8 c) := by
 simp only [D.fact, bJ, dB] at h ⊢
 refine ⟨hl, fun x hx => ?_⟩
 have := h.2 x hx
 exact ⟨this.1, this.2.1, trivial⟩
theorem r4 {L S : Nat} {ps : List Pt} (h : D.fact L (fR ps)) (hl : szs Pt.size ps ≤ S) : D.fact S (fR ps) := by
 unfold szs at hl
 simp only [D.fact, bJ, dB] at h ⊢
 refine ⟨by omega, fun p hp => ?_⟩
 have h1 := h.2 p hp
 have h2 := l9 Pt.size hp
 exact ⟨h1.1, kB h1.2.1 (by show p.size ≤ S; omega), trivial⟩
theorem pD {L S : Nat} {a : An} (h : A.fact L (aAn a)) (hl : a.size ≤ S) : A.fact S (aAn a) := by
 unfold An.size at hl
 exact ⟨kB h.1 (by omega), kB h.2.1 (by omega), r5 h.2.2.1 (by omega), r4 h.2.2.2.1 (by omega), trivial⟩
theorem ug {a : An} (hz1' : 0 ≤ dN 1048576 a.size) : 1 + bq nT a.pre + bq nT a.post + bq gI a.code + bq nP a.pts ≤ (1073741824 : Int) ∧ a.size ≤ 1073741824 := by
 have g1 := n4 hz1' (by decide)
 have k1 := mi a.pre
 have k2 := mi a.post
 have k3 := uM a.code
 have k4 := tv a.pts
 have e1 : a.size = szs Tm.size a.pre + szs Tm.size a.post + a.code.length + szs Pt.size a.pts := rfl
 omega
theorem law1226 {L : Nat} (h1 : 4096 ≤ L) (h2 : L ≤ 9223372036854775807) {a : An} : MC Tryz.prog L 5 [aAn a] [] (Plain (eB true)) := by
 by_cases hz1 : dN 1048576 a.size < 0
 exact vj h1 h2 hz1
 have hz1' : 0 ≤ dN 1048576 a.size := by omega
 obtain ⟨hcp, hsz⟩ := ug hz1'
 refine MC.facts ⟨_, _, Tryz.func5, by kernel_rfl, Z⟩ fun hF => ?_
 refine pK (L0 := 1073741824) Z ?_ ?_
 exact ⟨pD hF.1 hsz, trivial⟩
 cases hv : cy a with
 | false => exact lY (by decide) (bH _) (sj (by decide) (bH _) hv) (nR (by decide) (bH _) (lW (by decide) (bH _) (fun h => by rw [hv] at h; cases h))) hz1' hcp
 | true =>
 have hva := cv hv
 cases hcl : cL a with
 | false => exact lY (by decide) (bH _) (pc (by decide) (bH _) hv (rE (by decide) (bH _) (uX (by decide) (bH _) hva hcl))) (nR (by decide) (bH _) (lW (by decide) (bH _) (fun _ => hcl))) hz1' hcp
 | true =>
  obtain ⟨he, hpl⟩ := tX hva (a.pts.length + 1) (bH _)
  have hA := uW (L := 1073741824) (by decide) (bH _) hva hcl (by decide)
  have hgl := (nN hva (a.pts.length + 1)).lt
  have hP := tu (L := 1073741824) (by decide) (bH _) (by decide) hv hcl
  have hQ := sb (L := 1073741824) (by decide) (bH _) (by decide) hv hcl
  rw [show sE a = eo a (a.pts.length + 1) from Z] at hA
  generalize kZ a (a.pts.length + 1) = x at he hP hQ hgl
  generalize eo a (a.pts.length + 1) = y at he hA
  cases hb : x.bad with
  | true =>
   rw [show y.bad = true from he.bad ▸ hb] at hA
   exact lY (by decide) (bH _) (pc (by decide) (bH _) hv (rE (by decide) (bH _) hA)) (nR (by decide) (bH _) (hQ hb)) hz1' hcp
  | false =>
   have e := he.eq hb
   subst e
   rw [hb] at hA
   cases hc : cY x.conds with
   | true => exact vi (r := x.conds) (by decide) (bH _) Z (by have := lK hc; omega) (pc (by decide) (bH _) hv (uU (by decide) (bH _) hA hc)) (u9 (by decide) (bH _) (hP hb) (by omega) hc) hz1' hcp
   | false => exact lY (by decide) (bH _) (pc (by decide) (bH _) hv (uV (by decide) (bH _) hA hc)) (va (by decide) (bH _) (hP hb) (by omega) hc) hz1' hcp
theorem law1224 {L : Nat} (h1 : 4096 ≤ L) (h2 : L ≤ 9223372036854775807) {a : An} {k : Int} : MC Tryz.prog L 3 [aAn a, eI k] [] (Plain (eB true)) := by
 by_cases hz1 : dN 1048576 a.size < 0
 exact vm h1 h2 hz1
 have hz1' : 0 ≤ dN 1048576 a.size := by omega
 obtain ⟨hcp, hsz⟩ := ug hz1'
 refine MC.facts ⟨_, _, Tryz.func3, by kernel_rfl, Z⟩ fun hF => ?_
 refine pK (L0 := 1073741824) Z ?_ ?_
 exact ⟨pD hF.1 hsz, hF.2⟩
 cases hv : cy a with
 | false => exact jk (by decide) (bH _) (vg (by decide) (bH _) hv) (lX (by decide) (bH _) (lW (by decide) (bH _) (fun h => by rw [hv] at h; cases h))) hz1' hcp
 | true =>
 have hva := cv hv
 cases hcl : cL a with
 | false =>
  have hI := lX (L := 1073741824) (by decide) (bH _) (lW (all := false) (z := k) (by decide) (bH _) (fun _ => hcl))
  cases hi : qw a k with
  | false => exact jk (by decide) (bH _) (rG (by decide) (bH _) hv hi) hI hz1' hcp
  | true => exact jk (by decide) (bH _) (vf (by decide) (bH _) hv hi hcl) hI hz1' hcp
 | true =>
  cases hi : qw a k with
  | false => exact jk (by decide) (bH _) (rG (by decide) (bH _) hv hi) (lX (by decide) (bH _) (tp (by decide) (bH _) hv hcl hi)) hz1' hcp
  | true =>
   have hin : -1 ≤ k ∧ k ≤ (a.pts.length : Int) - 1 := by simpa [qw] using hi
   obtain ⟨m, rfl⟩ : ∃ m : Nat, k = (m : Int) - 1 := ⟨(k + 1).toNat, by omega⟩
   have hm : m ≤ a.pts.length := by omega
   have he := rB hva hm (g := g0)
   have hR := ve (L := 1073741824) (by decide) (bH _) hv hi hcl (by decide) (rfl : eg eK a ((m : Int) - 1 + 1).toNat g0 = eg eK a ((m : Int) - 1 + 1).toNat g0)
   rw [show ((m : Int) - 1 + 1).toNat = m by omega] at hR
   have hgl := (nM qU hva (n := m) oP).lt
   have hP := tq (L := 1073741824) (by decide) (bH _) (by decide) hv hcl hm
   have hQ := sa (L := 1073741824) (by decide) (bH _) (by decide) hv hcl hm
   generalize eg iq a m g0 = x at he hP hQ hgl
   generalize eg eK a m g0 = y at he hR
   cases hb : x.bad with
   | true =>
    rw [show y.bad = true from he.bad ▸ hb] at hR
    exact jk (by decide) (bH _) hR (lX (by decide) (bH _) (hQ hb)) hz1' hcp
   | false =>
    have e := he.eq hb
    subst e
    rw [hb] at hR
    cases hc : cY x.conds with
    | true =>
     rw [hc] at hR
     exact vk (r := x.conds) (by decide) (bH _) Z (by have := lK hc; omega) hR (vc (by decide) (bH _) (hP hb) (by omega) hc) hz1' hcp
    | false =>
     rw [hc] at hR
     exact jk (by decide) (bH _) hR (vd (by decide) (bH _) (hP hb) (by omega) hc) hz1' hcp
end Go.Al
/- What the laws of annotated code share: the types of their arguments. -/
namespace Go.Proofs.YtikejfdfkemmmaaGreat
open Go.ChangeShapes Go.WideShapes Go.ChangeAt Go.RowKit Go.Al
abbrev qC : List Ty := [.int .i64, .int .i64]
abbrev vO : List Ty := [.int .i64, .slc sr]
abbrev zf : List Ty := [.slc sr, .slc sr, .slc qC, .slc vO]
theorem wY : TyOf Tryz.prog 145 qC := .struct Tryz.underlying145 (show FieldsAre Tryz.prog _ (sA ++ (sA ++ [])) 0 from .cons rfl (by kernel_rfl) vQ (.cons rfl (by kernel_rfl) vQ .nil)) (by kernel_rfl)
theorem yB : TyOf Tryz.prog 23 [.slc qC] := .slc Tryz.underlying23 wY (by kernel_rfl) (by decide)
theorem wZ : TyOf Tryz.prog 125 vO := .struct Tryz.underlying125 (show FieldsAre Tryz.prog _ (sA ++ ([.slc sr] ++ [])) 0 from .cons rfl (by kernel_rfl) vQ (.cons rfl (by kernel_rfl) um .nil)) (by kernel_rfl)
theorem yA : TyOf Tryz.prog 24 [.slc vO] := .slc Tryz.underlying24 wZ (by kernel_rfl) (by decide)
theorem of50 : TyOf Tryz.prog 26 zf := .struct Tryz.underlying26 (show FieldsAre Tryz.prog _ ([.slc sr] ++ ([.slc sr] ++ ([.slc qC] ++ ([.slc vO] ++ [])))) 0 from
  .cons Z (by kernel_rfl) um (.cons Z (by kernel_rfl) um (.cons Z (by kernel_rfl) yB (.cons Z (by kernel_rfl) yA .nil)))) (by kernel_rfl)
theorem og {e : List D} (h : FitsL qC e) : ∃ x : In, e = x.cells := by
 cases h with
 | cons a1 h =>
  cases h with
  | cons a2 h =>
   cases h
   obtain ⟨n1, rfl⟩ := fZ a1
   obtain ⟨n2, rfl⟩ := fZ a2
   exact ⟨⟨n1, n2⟩, Z⟩
theorem oe {e : List D} (h : FitsL vO e) : ∃ p : Pt, e = p.cells := by
 cases h with
 | cons a1 h =>
  cases h with
  | cons a2 h =>
   cases h
   obtain ⟨n1, rfl⟩ := fZ a1
   obtain ⟨x2, rfl⟩ := ik a2
   exact ⟨⟨n1, x2⟩, Z⟩
theorem fits_an {e : List D} (h : FitsL zf e) : ∃ a : An, e = a.data := by
 cases h with
 | cons a1 h =>
  cases h with
  | cons a2 h =>
   cases h with
   | cons a3 h =>
    cases h with
    | cons a4 h =>
     cases h
     obtain ⟨x1, rfl⟩ := ik a1
     obtain ⟨x2, rfl⟩ := ik a2
     cases a3 with
     | slc a3 =>
      cases a4 with
      | slc a4 =>
       obtain ⟨x3, rfl⟩ := f1 (g := In.cells) (fun e he => og he) a3
       obtain ⟨x4, rfl⟩ := f1 (g := Pt.cells) (fun e he => oe he) a4
       exact ⟨⟨x1, x2, x3, x4⟩, Z⟩
end Go.Proofs.YtikejfdfkemmmaaGreat
