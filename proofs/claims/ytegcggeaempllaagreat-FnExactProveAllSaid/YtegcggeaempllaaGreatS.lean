/- The laws, walked. -/
import Derived.Test.YtegcggeaempllaaGreatR
namespace Go.Al
open Go.Proofs
set_option linter.unusedVariables false
set_option linter.unusedSimpArgs false
set_option maxRecDepth 10000
set_option maxHeartbeats 4000000
theorem prv_guard {s : Sq} {b : Int} (hv : (prvS s b).2 = true) (h : ((ctxI s).2 && budB b) = false) : False := by rw [prv_bad9 h] at hv; cases hv
theorem prv_work {s : Sq} {b : Int} (h1 : (ctxI s).2 = true) (h2 : budB b = true) : ((wrk b (15 - (s.facts ++ [(oppT s.goal).1]).length) (s.facts ++ [(oppT s.goal).1]) ([], false)).2 = true → prvS s b = ([], false)) ∧
    ((wrk b (15 - (s.facts ++ [(oppT s.goal).1]).length) (s.facts ++ [(oppT s.goal).1]) ([], false)).2 = false → prvS s b = ((wrk b (15 - (s.facts ++ [(oppT s.goal).1]).length) (s.facts ++ [(oppT s.goal).1]) ([], false)).1, true)) := by
  obtain ⟨h3, h4⟩ := ctxI_2 h1
  rw [prv_in h3 h2]
  exact wrk_prov h3 (by rw [opp_2]; exact h4) (by have := budB_in h2; omega)
theorem c1019v {L : Nat} (h1 : 4096 ≤ L) (h2 : L ≤ 1073741824) {s : Sq} {b : Int} (hv : (prvS s b).2 = true) : MC Tryz.prog L 20 [aSq s, eI b] [] (Rows (.tup [.c (.rs 0 0 (prvS s b).1.length), eB true]) [ndrow (prvS s b).1]) := by
 refine MC.rows ?_
 have hσ := SGok (nt := 36) h1 (Nat.le_trans h2 (by decide))
 refine MC.body hσ Tryz.func20 (by kernel_rfl) rfl rfl (Nat.le_of_ble_eq_true rfl) (fun hF => ?_)
 refine jsr ?_
 refine AOps.heap (HS.box hσ rfl rfl rfl rfl rfl rfl rfl) rfl ?_
 refine jnm ?_
 refine AOps.to (Ent.freeze 2 (e' := [(2, _), (1, _)]) rfl (.cons rfl (.c (.box (cs := Sq.cells s) rfl (VMs.self rfl))) (.cons rfl (.keep rfl) .nil)) (.skip .nil)) ?_
 refine jnm ?_
 iterate 2 refine jst hσ rfl rfl rfl rfl rfl ?_
 refine jns ?_
 refine jst hσ rfl rfl rfl rfl rfl ?_
 refine jf4 10 5 4 1 rfl rfl rfl rfl ?_
 refine AOps.plainD hσ rfl rfl rfl rfl (c144 (s := s) h1 h2) (VAs.self rfl) rfl rfl rfl rfl (B0 := 12000) rfl rfl ?_
 iterate 5 refine jst hσ rfl rfl rfl rfl rfl ?_
 refine jf5 7 6 5 4 1 rfl rfl rfl rfl rfl ?_
 refine jn ?_
 refine AWP.seq ?_
 refine jsr ?_
 iterate 3 refine jst hσ rfl rfl rfl rfl rfl ?_
 refine jf5 16 6 5 4 1 rfl rfl rfl rfl rfl ?_
 refine AOps.gr 3 rfl rfl rfl (fun hx => AN.step hx rfl rfl rfl (Val.of hσ rfl rfl) rfl rfl ( AN.lone hσ hx rfl rfl rfl rfl (c1037 h1 h2) (VAs.self rfl) rfl rfl rfl rfl rfl rfl rfl (B0 := 19000) rfl ( AN.step hx rfl rfl rfl (Val.of hσ rfl rfl) rfl rfl ( AN.nil)))) rfl rfl ?_
 first | refine AOps.step (Val.pickF hσ rfl rfl rfl rfl rfl) rfl rfl rfl ?_ | refine AOps.step (Val.pickB hσ rfl rfl rfl rfl rfl) rfl rfl rfl ?_ | refine AOps.step (Val.pickT hσ rfl rfl rfl rfl rfl) rfl rfl rfl ?_
 refine jf5 20 6 5 4 1 rfl rfl rfl rfl rfl ?_
 refine jn ?_
 refine AWP.cond hσ rfl rfl (fun hc20 => ?_) (fun hc20 => ?_)
 ·
  skip
  exact (prv_guard hv (pvT hc20)).elim
 ·
  skip
  refine AWP.skip ?_
  refine jsr ?_
  obtain ⟨hq1, hq2⟩ := pvF hc20
  obtain ⟨hq3, hq4⟩ := ctxI_2 hq1
  have hok : (oppT s.goal).2 = true := by rw [opp_2]; exact hq4
  have hfc := seq_ctx hq3 hok
  have hlen := hfc.len
  have hbb := budB_in hq2
  obtain ⟨hw1, hw2⟩ := prv_work hq1 hq2
  have hwl : ((wrk b (15 - (s.facts ++ [(oppT s.goal).1]).length) (s.facts ++ [(oppT s.goal).1]) ([], false)).1.length : Int) ≤ b := wrk_len (by show (0 : Int) ≤ b; omega)
  rw [ctxI_eq hq3, ctx_1 hok]
  iterate 2 refine jst hσ rfl rfl rfl rfl rfl ?_
  refine jf5 22 6 5 4 1 rfl rfl rfl rfl rfl ?_
  refine AOps.heap (HS.box hσ rfl rfl rfl rfl rfl rfl rfl) rfl ?_
  refine jnm ?_
  refine jst hσ rfl rfl rfl rfl rfl ?_
  refine jf5 8 6 5 4 1 rfl rfl rfl rfl rfl ?_
  refine jns ?_
  iterate 2 refine jst hσ rfl rfl rfl rfl rfl ?_
  refine jf6 25 24 8 5 4 1 rfl rfl rfl rfl rfl rfl ?_
  refine AOps.to (Ent.nameBox 23 901 5 false 1 rfl rfl rfl) ?_
  refine AOps.inn hσ [23, 901] (bin := [pbox b ([], false) 1, nrows []]) rfl rfl rfl rfl (c1040 (b := b) h1 h2 hbb (15 - (s.facts ++ [(oppT s.goal).1]).length) (s.facts ++ [(oppT s.goal).1]) ([], false) ⟨.inl hfc, by omega, by simp, by omega, by show (0 : Int) ≤ b; omega⟩) rfl rfl rfl rfl rfl rfl (B0 := 27000) rfl rfl ?_
  refine jnm ?_
  refine jf4 8 5 4 1 rfl rfl rfl rfl ?_
  refine jn ?_
  refine AWP.seq ?_
  refine jsr ?_
  iterate 4 refine jst hσ rfl rfl rfl rfl rfl ?_
  refine jf5 30 8 5 4 1 rfl rfl rfl rfl rfl ?_
  refine jn ?_
  refine AWP.cond hσ rfl rfl (fun hc30 => ?_) (fun hc30 => ?_)
  ·
   skip
   rw [hw1 hc30] at hv; cases hv
  ·
   skip
   refine AWP.skip ?_
   refine jsr ?_
   iterate 4 refine jst hσ rfl rfl rfl rfl rfl ?_
   refine jf5 34 8 5 4 1 rfl rfl rfl rfl rfl ?_
   refine AOps.rows hσ (B0 := 36000) rfl rfl rfl rfl (c1041 (ts := (wrk b (15 - (s.facts ++ [(oppT s.goal).1]).length) (s.facts ++ [(oppT s.goal).1]) ([], false)).1) h1 h2) (.cons (.c (.whole rfl (List.length_map _).symm)) .nil) rfl rfl rfl rfl rfl rfl ?_
   refine jnm ?_
   iterate 2 refine jst hσ rfl rfl rfl rfl rfl ?_
   refine jf4 5 4 8 1 rfl rfl rfl rfl ?_
   refine jn ?_
   refine AWP.ret ?_
   rw [hw2 hc30]
   refine ⟨.inl rfl, _, Ent.refl, _, rfl, [36000], by decide, rfl, rfl, rfl⟩
end Go.Al
namespace Go.Al
open Go.Proofs
set_option linter.unusedVariables false
set_option linter.unusedSimpArgs false
theorem cnt_ndb {p : List Nd} (hn : ∀ x ∈ p, ndB x = true) (hp : p.length ≤ 60) : cnt nN p ≤ 2000 := by
  have key : ∀ l : List Nd, (∀ x ∈ l, ndB x = true) → cnt nN l ≤ 33 * l.length := by
    intro l hl
    induction l with
    | nil => simp [cnt]
    | cons t r ih =>
      have h1 := ih fun t ht => hl t (by simp [ht])
      have h2 := hl t (by simp)
      have h3 := ok_len (ndB_term h2)
      have h4 := ndB_mlen h2
      simp only [cnt, List.map_cons, List.sum_cons, List.length_cons] at h1 ⊢
      have : nN t = 3 + t.term.xs.length + t.mul.length := rfl
      omega
  have := key p hn
  omega
theorem fact_sqs' {L S : Nat} {ss : List Sq} (h : D.fact L (sqs ss)) (hl : szs Sq.size ss ≤ S) : D.fact S (sqs ss) := by
  unfold szs at hl
  simp only [D.fact, List.length_map, Dss.fact_map] at h ⊢
  refine ⟨by omega, fun s hs => ?_⟩
  have h1 := h.2 s hs
  have h2 := sum_mem Sq.size hs
  exact fact_sq h1 (by omega)
end Go.Al
namespace Go.Al
open Go.Proofs
set_option linter.unusedVariables false
set_option linter.unusedSimpArgs false
set_option maxRecDepth 10000
set_option maxHeartbeats 4000000
abbrev mP (k : Int) (p : List Nd) : List Nd := markL mN nN k p
abbrev nP (p : List Nd) : Nat := cnt nN p
abbrev mQ (k : Int) (s : Sq) : Sq := ⟨markL mT nT k s.facts, ⟨k + cnt nT s.facts, markL mI oneI (k + cnt nT s.facts + 1) s.goal.xs⟩⟩
abbrev nQ (s : Sq) : Nat := cnt nT s.facts + 1 + s.goal.xs.length
theorem c1077n {L : Nat} (h1 : 4096 ≤ L) (h2 : L ≤ 1073741824) {k : Int} : MC Tryz.prog L 11 [.c (.d (ndss [])), eI k] [] (Plain (eI k)) := by
 refine MC.alone ?_ rfl
 have hσ := SGok (nt := 19) h1 (Nat.le_trans h2 (by decide))
 refine MC.body hσ Tryz.func11 (by kernel_rfl) rfl rfl (Nat.le_of_ble_eq_true rfl) (fun hF => ?_)
 refine jsr ?_
 refine jst hσ rfl rfl rfl rfl rfl ?_
 refine jn ?_
 refine AWP.seq ?_
 refine jsr ?_
 refine jst hσ rfl rfl rfl rfl rfl ?_
 refine jn ?_
 refine AWP.block ?_
 refine AWP.loopP (X := Nat) (fun i => ⟨[(0, .c (.d (ndss []))), (1, eI k), (5, eI 0)], []⟩) (fun i => True) (fun i => 0) 0 (Ent.env ⟨rfl, rfl, rfl, trivial⟩) ?_ (fun i hi => ?_)
 ·
  trivial
 refine AWP.seq ?_
 refine jsr ?_
 iterate 2 refine jst hσ rfl rfl rfl rfl rfl ?_
 first | refine jle hσ rfl rfl rfl rfl rfl rfl rfl rfl rfl rfl rfl ?_ | refine jst hσ rfl rfl rfl rfl rfl ?_ | refine jvf hσ rfl rfl rfl rfl rfl ?_
 refine jst hσ rfl rfl rfl rfl rfl ?_
 refine jn ?_
 refine AWP.cond hσ rfl rfl (fun hc9 => ?_) (fun hc9 => ?_)
 ·
  try simp only [jcs] at hc9
  exact absurd hc9 (by simp)
 ·
  try simp only [jcs] at hc9
  refine AWP.exit ?_
  refine jsr ?_
  iterate 2 refine jst hσ rfl rfl rfl rfl rfl ?_
  refine jn ?_
  refine AWP.ret ?_
  refine ⟨.inl rfl, _, Ent.refl, _, rfl, ?_⟩
  first | rfl | skip
theorem c1077 {L : Nat} (h1 : 4096 ≤ L) (h2 : L ≤ 1073741824) {ts : List (List Nd)} {k : Int} (hk0 : 0 ≤ k) (hk1 : k + cnt nP ts ≤ 1073741824) : MC Tryz.prog L 11 [.c (.rs 0 0 ts.length), eI k] [(0, ndsrow ts)] (Outs (eI (k + cnt nP ts)) [(0, ndsrow (markL mP nP k ts))]) := by
 have hσ := SgOk.withIns (js := [0]) (SGok (nt := 19) h1 (Nat.le_trans h2 (by decide)))
 refine MC.bodyH hσ Tryz.func11 (by kernel_rfl) rfl rfl rfl (Nat.le_of_ble_eq_true rfl) (fun hF => ?_)
 refine AWP.factH 0 rfl (fun hB => ?_)
 have hl : ts.length ≤ L := by simpa [B.fact] using hB.1
 refine jsr ?_
 refine jst hσ rfl rfl rfl rfl rfl ?_
 refine jn ?_
 refine AWP.seq ?_
 refine jsr ?_
 refine jst hσ rfl rfl rfl rfl rfl ?_
 refine jn ?_
 refine AWP.block ?_
 refine AWP.loopP (X := Nat) (fun i => ⟨[(0, .c (.rs 0 0 ts.length)), (1, eI (k + cnt nP (ts.take i))), (5, eI i)], [(0, ndsrow (mk mP nP k i ts))]⟩) (fun i => i ≤ ts.length) (fun i => ts.length - i) 0 (Ent.to ⟨rfl, by simp [numbered, lk_cons, cnt], rfl, trivial⟩ (by simp [mk_zero])) ?_ (fun i hi => ?_)
 ·
  exact Nat.zero_le _
 refine AWP.seq ?_
 refine jsr ?_
 iterate 2 refine jst hσ rfl rfl rfl rfl rfl ?_
 first | refine jle hσ rfl rfl rfl rfl rfl rfl rfl rfl rfl rfl rfl ?_ | refine jst hσ rfl rfl rfl rfl rfl ?_ | refine jvf hσ rfl rfl rfl rfl rfl ?_
 refine jst hσ rfl rfl rfl rfl rfl ?_
 refine jf4 9 0 1 5 rfl rfl rfl rfl ?_
 refine jn ?_
 refine AWP.cond hσ rfl rfl (fun hc9 => ?_) (fun hc9 => ?_)
 ·
  try simp only [jcs] at hc9
  refine AWP.skip ?_
  refine AWP.seq ?_
  refine AWP.block ?_
  refine AWP.region ?_
  obtain ⟨K, hK⟩ : ∃ K, K = k + (cnt nP (ts.take i) : Int) := ⟨_, rfl⟩
  rw [← hK]
  have hcs := cnt_succ (sz := nP) (show i < ts.length by omega)
  have hcl := cnt_le (sz := nP) (l := ts) (i := i + 1)
  have hg := mk_get (f := mP) (sz := nP) (k := k) (show i < ts.length by omega)
  have hs := mk_succ (f := mP) (sz := nP) (k := k) (show i < ts.length by omega)
  rw [← getD_lt (show i < ts.length by omega)] at hcs hg hs
  obtain ⟨t, ht⟩ : ∃ t, t = ts.getD i default := ⟨_, rfl⟩
  rw [← ht] at hcs hg hs
  rw [← hK] at hs
  simp only [nP] at hcs
  have hb : K + (cnt nN t : Nat) ≤ 1073741824 := by omega
  obtain ⟨R, hR⟩ : ∃ R, R = (mk mP nP k i ts).map ndC := ⟨_, rfl⟩
  have hRl : i < R.length := by rw [hR, List.length_map, mk_length]; omega
  have hRi : R[i]? = some (ndC t) := by rw [hR, List.getElem?_map, hg]; rfl
  have hRn : R.set i (ndC (mP K t)) = (mk mP nP k (i + 1) ts).map ndC := by rw [hR, ← hs, List.map_set]
  have e0 : ndsrow (mk mP nP k i ts) = .row true 1 (R.set i (ndC t)) := by rw [set_self' hRi, hR]
  rw [e0]
  iterate 2 refine jst hσ rfl rfl rfl rfl rfl ?_
  first | refine jix hσ rfl rfl rfl rfl rfl rfl rfl rfl rfl rfl rfl ?_ | refine jvf hσ rfl rfl rfl rfl rfl ?_
  refine AOps.step (Val.loadRow hσ (ex := ndC t) rfl rfl rfl rfl (by simp [hRl]) rfl) rfl rfl rfl ?_
  refine jst hσ rfl rfl rfl rfl rfl ?_
  refine jf6 16 15 9 0 1 5 rfl rfl rfl rfl rfl rfl ?_
  refine AOps.innRp hσ (l := 0) (j := 0) (z := 5) (ex := ndC t) (ys := (t).map Nd.cells) (ys' := (markL mN nN K t).map Nd.cells) (xs' := R.set i (ndC (mP K t))) rfl rfl rfl rfl (.rp (.d rfl .nil)) (.rp (.d rfl .nil)) rfl (by simp [hRl]) rfl (c39 (ts := t) (k := K) h1 h2 (by omega) (by omega)).1 (fun _ => by rw [List.length_map]; exact c39 (ts := t) h1 h2 (by omega) (by omega)) (fun hys => ?_) rfl (by simp [markL_length]) rfl rfl rfl rfl (by simp) ?_
  ·
   have hy : t = [] := by simpa using hys
   rw [hy]
   exact (c39n h1 h2 (k := K)).plain (by simp [cnt, hy])
  refine jnm ?_
  refine jst hσ rfl rfl rfl rfl rfl ?_
  refine jf4 1 9 0 5 rfl rfl rfl rfl ?_
  refine jn ?_
  refine AWP.region ?_
  refine jst hσ rfl rfl rfl rfl rfl ?_
  first | refine jfi hσ rfl rfl rfl rfl rfl ?_ | refine jvf hσ rfl rfl rfl rfl rfl ?_
  refine jst hσ rfl rfl rfl rfl rfl ?_
  refine jf4 5 1 9 0 rfl rfl rfl rfl ?_
  refine jn ?_
  refine ⟨i + 1, Ent.to ⟨rfl, ?_, rfl, trivial⟩ (by rw [ndsrow, ← hRn]), by omega, by omega⟩
  rw [hcs]
  exact congrArg (fun z => some (eI z)) (by omega)
 ·
  try simp only [jcs] at hc9
  refine AWP.exit ?_
  refine jsr ?_
  iterate 2 refine jst hσ rfl rfl rfl rfl rfl ?_
  refine jn ?_
  refine AWP.ret ?_
  refine ⟨.inl rfl, _, Ent.refl, _, rfl, ?_⟩
  obtain rfl : i = ts.length := by omega
  rw [mk_all (Nat.le_refl _), List.take_length]
  exact ⟨rfl, rfl⟩
theorem c1076 {L : Nat} (h1 : 4096 ≤ L) (h2 : L ≤ 1073741824) {ts : List Sq} {k : Int} (hk0 : 0 ≤ k) (hk1 : k + cnt nQ ts ≤ 1073741824) : MC Tryz.prog L 10 [.c (.rs 0 0 ts.length), eI k] [(0, sqrow ts)] (Outs (eI (k + cnt nQ ts)) [(0, sqrow (markL mQ nQ k ts))]) := by
 have hσ := SgOk.withIns (js := [0]) (SGok (nt := 36) h1 (Nat.le_trans h2 (by decide)))
 refine MC.bodyH hσ Tryz.func10 (by kernel_rfl) rfl rfl rfl (Nat.le_of_ble_eq_true rfl) (fun hF => ?_)
 refine AWP.factH 0 rfl (fun hB => ?_)
 have hl : ts.length ≤ L := by simpa [B.fact] using hB.1
 refine jsr ?_
 refine jst hσ rfl rfl rfl rfl rfl ?_
 refine jn ?_
 refine AWP.seq ?_
 refine jsr ?_
 refine jst hσ rfl rfl rfl rfl rfl ?_
 refine jn ?_
 refine AWP.block ?_
 refine AWP.loopP (X := Nat) (fun i => ⟨[(0, .c (.rs 0 0 ts.length)), (1, eI (k + cnt nQ (ts.take i))), (5, eI i)], [(0, sqrow (mk mQ nQ k i ts))]⟩) (fun i => i ≤ ts.length) (fun i => ts.length - i) 0 (Ent.to ⟨rfl, by simp [numbered, lk_cons, cnt], rfl, trivial⟩ (by simp [mk_zero])) ?_ (fun i hi => ?_)
 ·
  exact Nat.zero_le _
 refine AWP.seq ?_
 refine jsr ?_
 iterate 2 refine jst hσ rfl rfl rfl rfl rfl ?_
 first | refine jle hσ rfl rfl rfl rfl rfl rfl rfl rfl rfl rfl rfl ?_ | refine jst hσ rfl rfl rfl rfl rfl ?_ | refine jvf hσ rfl rfl rfl rfl rfl ?_
 refine jst hσ rfl rfl rfl rfl rfl ?_
 refine jf4 9 0 1 5 rfl rfl rfl rfl ?_
 refine jn ?_
 refine AWP.cond hσ rfl rfl (fun hc9 => ?_) (fun hc9 => ?_)
 ·
  try simp only [jcs] at hc9
  refine AWP.skip ?_
  refine AWP.seq ?_
  refine AWP.block ?_
  refine jsr ?_
  obtain ⟨K, hK⟩ : ∃ K, K = k + (cnt nQ (ts.take i) : Int) := ⟨_, rfl⟩
  rw [← hK]
  have hcs := cnt_succ (sz := nQ) (show i < ts.length by omega)
  have hcl := cnt_le (sz := nQ) (l := ts) (i := i + 1)
  have hg := mk_get (f := mQ) (sz := nQ) (k := k) (show i < ts.length by omega)
  have hs := mk_succ (f := mQ) (sz := nQ) (k := k) (show i < ts.length by omega)
  rw [← getD_lt (show i < ts.length by omega)] at hcs hg hs
  obtain ⟨t, ht⟩ : ∃ t, t = ts.getD i default := ⟨_, rfl⟩
  rw [← ht] at hcs hg hs
  rw [← hK] at hs
  simp only [nQ] at hcs
  have hb : K + (cnt nT t.facts + 1 + t.goal.xs.length : Nat) ≤ 1073741824 := by omega
  obtain ⟨R, hR⟩ : ∃ R, R = (mk mQ nQ k i ts).map Sq.cells := ⟨_, rfl⟩
  have hRl : i < R.length := by rw [hR, List.length_map, mk_length]; omega
  have hRi : R[i]? = some (Sq.cells t) := by rw [hR, List.getElem?_map, hg]; rfl
  have hRn : R.set i (Sq.cells (mQ K t)) = (mk mQ nQ k (i + 1) ts).map Sq.cells := by rw [hR, ← hs, List.map_set]
  have e0 : sqrow (mk mQ nQ k i ts) = .row true 3 (R.set i (Sq.cells t)) := by rw [set_self' hRi, hR]
  rw [e0]
  iterate 2 refine jst hσ rfl rfl rfl rfl rfl ?_
  first | refine jix hσ rfl rfl rfl rfl rfl rfl rfl rfl rfl rfl rfl ?_ | refine jvf hσ rfl rfl rfl rfl rfl ?_
  refine jst hσ rfl rfl rfl rfl rfl ?_
  refine AOps.step (Val.loadRow hσ (ex := [tms (t.facts), .int .i64 (t.goal.c), ints (t.goal.xs)]) rfl rfl rfl rfl (by simp [hRl]) rfl) rfl rfl rfl ?_
  refine jst hσ rfl rfl rfl rfl rfl ?_
  refine jf6 17 16 9 0 1 5 rfl rfl rfl rfl rfl rfl ?_
  refine AOps.innRp hσ (l := 0) (j := 0) (z := 2) (ex := [tms (t.facts), .int .i64 (t.goal.c), ints (t.goal.xs)]) (ys := (t.facts).map Tm.cells) (ys' := (markL mT nT K t.facts).map Tm.cells) (xs' := R.set i [tms (markL mT nT K t.facts), .int .i64 (t.goal.c), ints (t.goal.xs)]) rfl rfl rfl rfl (.rp (.d rfl .nil)) (.rp (.d rfl .nil)) rfl (by simp [hRl]) rfl (c40 (ts := t.facts) (k := K) h1 h2 (by omega) (by omega)).1 (fun _ => by rw [List.length_map]; exact c40 (ts := t.facts) h1 h2 (by omega) (by omega)) (fun hys => ?_) rfl (by simp [markL_length]) rfl rfl rfl rfl (by simp) ?_
  ·
   have hy : t.facts = [] := by simpa using hys
   rw [hy]
   exact (c40n h1 h2 (k := K)).plain (by simp [cnt, hy])
  refine jnm ?_
  refine jst hσ rfl rfl rfl rfl rfl ?_
  refine jf4 1 9 0 5 rfl rfl rfl rfl ?_
  refine jns ?_
  iterate 3 refine jst hσ rfl rfl rfl rfl rfl ?_
  first | refine jix hσ rfl rfl rfl rfl rfl rfl rfl rfl rfl rfl rfl ?_ | refine jvf hσ rfl rfl rfl rfl rfl ?_
  iterate 2 refine jst hσ rfl rfl rfl rfl rfl ?_
  refine jf6 24 21 1 9 0 5 rfl rfl rfl rfl rfl rfl ?_
  refine AOps.heap (HS.storeRow (ex := [tms (markL mT nT K t.facts), .int .i64 (t.goal.c), ints (t.goal.xs)]) (xs' := R.set i [tms (markL mT nT K t.facts), .int .i64 (K + cnt nT t.facts), ints (t.goal.xs)]) hσ rfl rfl rfl rfl rfl rfl rfl rfl rfl rfl rfl rfl rfl rfl (by simp [hRl]) (by simp)) rfl ?_
  refine jnm ?_
  refine jf4 1 9 0 5 rfl rfl rfl rfl ?_
  refine jns ?_
  refine jst hσ rfl rfl rfl rfl rfl ?_
  first | refine jfi hσ rfl rfl rfl rfl rfl ?_ | refine jvf hσ rfl rfl rfl rfl rfl ?_
  refine jst hσ rfl rfl rfl rfl rfl ?_
  refine jf4 1 9 0 5 rfl rfl rfl rfl ?_
  refine jn ?_
  refine AWP.region ?_
  iterate 2 refine jst hσ rfl rfl rfl rfl rfl ?_
  first | refine jix hσ rfl rfl rfl rfl rfl rfl rfl rfl rfl rfl rfl ?_ | refine jvf hσ rfl rfl rfl rfl rfl ?_
  iterate 2 refine jst hσ rfl rfl rfl rfl rfl ?_
  refine AOps.step (Val.loadRow hσ (ex := [tms (markL mT nT K t.facts), .int .i64 (K + cnt nT t.facts), ints (t.goal.xs)]) rfl rfl rfl rfl (by simp [hRl]) rfl) rfl rfl rfl ?_
  refine jst hσ rfl rfl rfl rfl rfl ?_
  refine jf6 33 32 1 9 0 5 rfl rfl rfl rfl rfl rfl ?_
  refine AOps.innRp hσ (l := 0) (j := 2) (z := 1) (ex := [tms (markL mT nT K t.facts), .int .i64 (K + cnt nT t.facts), ints (t.goal.xs)]) (ys := (t.goal.xs).map (fun n => [D.int .i64 n])) (ys' := (markL mI oneI (K + cnt nT t.facts + 1) t.goal.xs).map (fun n => [D.int .i64 n])) (xs' := R.set i [tms (markL mT nT K t.facts), .int .i64 (K + cnt nT t.facts), ints (markL mI oneI (K + cnt nT t.facts + 1) t.goal.xs)]) rfl rfl rfl rfl (.rp (.d rfl .nil)) (.rp (.d rfl .nil)) rfl (by simp [hRl]) rfl (c19 (xs := t.goal.xs) (k := (K + cnt nT t.facts + 1)) h1 h2 (by omega) (by omega)).1 (fun _ => by rw [List.length_map]; exact c19 (xs := t.goal.xs) h1 h2 (by omega) (by omega)) (fun hys => ?_) rfl (by simp [markL_length]) rfl rfl rfl rfl (by simp) ?_
  ·
   have hy : t.goal.xs = [] := by simpa using hys
   rw [hy]
   exact (c19n h1 h2 (k := (K + cnt nT t.facts + 1))).plain (by simp [cnt, hy])
  refine jnm ?_
  refine jst hσ rfl rfl rfl rfl rfl ?_
  refine jf4 1 9 0 5 rfl rfl rfl rfl ?_
  refine jn ?_
  refine AWP.region ?_
  refine jst hσ rfl rfl rfl rfl rfl ?_
  first | refine jfi hσ rfl rfl rfl rfl rfl ?_ | refine jvf hσ rfl rfl rfl rfl rfl ?_
  refine jst hσ rfl rfl rfl rfl rfl ?_
  refine jf4 5 1 9 0 rfl rfl rfl rfl ?_
  refine jn ?_
  refine ⟨i + 1, Ent.to ⟨rfl, ?_, rfl, trivial⟩ (by rw [sqrow, ← hRn]), by omega, by omega⟩
  rw [hcs]
  exact congrArg (fun z => some (eI z)) (by omega)
 ·
  try simp only [jcs] at hc9
  refine AWP.exit ?_
  refine jsr ?_
  iterate 2 refine jst hσ rfl rfl rfl rfl rfl ?_
  refine jn ?_
  refine AWP.ret ?_
  refine ⟨.inl rfl, _, Ent.refl, _, rfl, ?_⟩
  obtain rfl : i = ts.length := by omega
  rw [mk_all (Nat.le_refl _), List.take_length]
  exact ⟨rfl, rfl⟩
theorem c1078 {L : Nat} (h1 : 4096 ≤ L) (h2 : L ≤ 1073741824) {ts : List (List Nd)} {k : Int} (hk0 : 0 ≤ k) (hk1 : k + cnt nP ts ≤ 1073741824) : MC Tryz.prog L 12 [andss (markL mP nP k ts), eI k] [] (Plain (eI (k + cnt nP ts))) := by
 refine MC.alone ?_ rfl
 have hσ := SGok (nt := 21) h1 (Nat.le_trans h2 (by decide))
 refine MC.body hσ Tryz.func12 (by kernel_rfl) rfl rfl (Nat.le_of_ble_eq_true rfl) (fun hF => ?_)
 have hlm := markL_length (f := mP) (sz := nP) (k := k) (l := ts)
 have hl : (markL mP nP k ts).length ≤ L := by simpa [As.fact, A.fact, M.fact, D.fact, Ds.fact] using hF.1.1
 refine jsr ?_
 refine jst hσ rfl rfl rfl rfl rfl ?_
 refine jn ?_
 refine AWP.seq ?_
 refine jsr ?_
 refine jst hσ rfl rfl rfl rfl rfl ?_
 refine jn ?_
 refine AWP.block ?_
 refine AWP.loopP (X := Nat) (fun i => ⟨[(0, andss (markL mP nP k ts)), (1, eI (k + cnt nP (ts.take i))), (5, eI i)], []⟩) (fun i => i ≤ ts.length) (fun i => ts.length - i) 0 (Ent.env ⟨rfl, by simp [numbered, lk_cons, cnt], rfl, trivial⟩) ?_ (fun i hi => ?_)
 ·
  exact Nat.zero_le _
 refine AWP.seq ?_
 refine jsr ?_
 iterate 2 refine jst hσ rfl rfl rfl rfl rfl ?_
 first | refine jle hσ rfl rfl rfl rfl rfl rfl rfl rfl rfl rfl rfl ?_ | refine jst hσ rfl rfl rfl rfl rfl ?_ | refine jvf hσ rfl rfl rfl rfl rfl ?_
 refine jst hσ rfl rfl rfl rfl rfl ?_
 refine jf4 9 0 1 5 rfl rfl rfl rfl ?_
 refine jn ?_
 refine AWP.cond hσ rfl rfl (fun hc9 => ?_) (fun hc9 => ?_)
 ·
  skip
  refine AWP.skip ?_
  refine AWP.seq ?_
  refine AWP.block ?_
  refine jsr ?_
  have hil : i < ts.length := by have h9 := of_decide_eq_true hc9; omega
  have hg := markL_getD (f := mP) (sz := nP) (k := k) hil
  have hcs := cnt_succ (sz := nP) hil
  have hcl := cnt_le (sz := nP) (l := ts) (i := i + 1)
  rw [← getD_lt hil] at hcs
  obtain ⟨t, ht⟩ : ∃ t, t = ts.getD i default := ⟨_, rfl⟩
  rw [← ht] at hg hcs
  simp only [nP] at hcs
  obtain ⟨K, hK⟩ : ∃ K, K = k + (cnt nP (ts.take i) : Int) := ⟨_, rfl⟩
  rw [← hK] at hg ⊢
  iterate 2 refine jst hσ rfl rfl rfl rfl rfl ?_
  refine AOps.step ((Val.indexN hσ rfl rfl rfl rfl rfl rfl rfl rfl (idxN (by omega))).cast (v' := ptr (ndC (mP K t))) (by rw [hg])) rfl rfl rfl ?_
  iterate 2 refine jst hσ rfl rfl rfl rfl rfl ?_
  refine jf6 16 15 9 0 1 5 rfl rfl rfl rfl rfl rfl ?_
  refine AOps.lone hσ rfl rfl rfl rfl (c1009 (ts := t) (k := K) h1 h2 (by omega) (by omega)) (VAs.self rfl) rfl rfl rfl rfl rfl (B0 := 18000) rfl ?_
  refine jst hσ rfl rfl rfl rfl rfl ?_
  refine jf4 1 9 0 5 rfl rfl rfl rfl ?_
  refine jns ?_
  iterate 2 refine jst hσ rfl rfl rfl rfl rfl ?_
  refine jn ?_
  refine AWP.cond hσ rfl rfl (fun hc19 => ?_) (fun hc19 => ?_)
  ·
   skip
   exact absurd (of_decide_eq_true hc19) (by omega)
  ·
   skip
   refine AWP.skip ?_
   refine AWP.region ?_
   refine jst hσ rfl rfl rfl rfl rfl ?_
   first | refine jfi hσ rfl rfl rfl rfl rfl ?_ | refine jvf hσ rfl rfl rfl rfl rfl ?_
   refine jst hσ rfl rfl rfl rfl rfl ?_
   refine jf6 5 19 18 1 9 0 rfl rfl rfl rfl rfl rfl ?_
   refine jn ?_
   refine ⟨i + 1, Ent.env ⟨rfl, ?_, rfl, trivial⟩, by omega, by omega⟩
   rw [hcs]
   exact congrArg (fun z => some (eI z)) (by omega)
 ·
  skip
  refine AWP.exit ?_
  refine jsr ?_
  iterate 2 refine jst hσ rfl rfl rfl rfl rfl ?_
  refine jn ?_
  refine AWP.ret ?_
  refine ⟨.inl rfl, _, Ent.refl, _, rfl, ?_⟩
  have h9 := of_decide_eq_false hc9
  obtain rfl : i = ts.length := by omega
  rw [List.take_length]
abbrev resAl (z : List (List Nd) × Bool) : A := .tup [andss z.1, eB z.2]
theorem all_out {ss : List Sq} {b : Int} (h : (sqsB ss && budB b) = false) : allS ss b = ([], false) := by unfold allS; rw [h]; rfl
theorem all_in {ss : List Sq} {b : Int} (h1 : sqsB ss = true) (h2 : budB b = true) : allS ss b = if (allP b ss).length < ss.length then ([], false) else (allP b ss, true) := by unfold allS; rw [h1, h2]; rfl
theorem resAl_no {H : List (Nat × B)} : VR H (.tup [.c (.d .nils), eB false]) (resAl ([], false)) := .tup (.cons (.c .nils) (.cons (.c .d) .nil))
theorem c1074 {L : Nat} (h1 : 4096 ≤ L) (h2 : L ≤ 1073741824) {ss : List Sq} {b : Int} : MC Tryz.prog L 5 [asqs ss, eI b] [] (Plain (resAl (allS ss b))) := by
 refine MC.data ?_
 have hσ := SGok (nt := 24) h1 (Nat.le_trans h2 (by decide))
 refine MC.body hσ Tryz.func5 (by kernel_rfl) rfl rfl (Nat.le_of_ble_eq_true rfl) (fun hF => ?_)
 refine jsr ?_
 iterate 2 refine jst hσ rfl rfl rfl rfl rfl ?_
 refine jn ?_
 refine AWP.seq ?_
 refine jsr ?_
 refine jst hσ rfl rfl rfl rfl rfl ?_
 refine AOps.lone hσ rfl rfl rfl rfl (c1033 h1 h2) (VAs.self rfl) rfl rfl rfl rfl rfl (B0 := 9000) rfl ?_
 iterate 2 refine jst hσ rfl rfl rfl rfl rfl ?_
 refine AOps.reset [(10, _), (5, _), (4, _), (0, _), (1, _)] [] ⟨rfl, rfl, rfl, rfl, rfl, trivial⟩ rfl ?_
 refine AOps.gr 3 rfl rfl rfl (fun hx => AN.step hx rfl rfl rfl (Val.of hσ rfl rfl) rfl rfl ( AN.lone hσ hx rfl rfl rfl rfl (c1034 h1 h2) (VAs.self rfl) rfl rfl rfl rfl rfl rfl rfl (B0 := 13000) rfl ( AN.step hx rfl rfl rfl (Val.of hσ rfl rfl) rfl rfl ( AN.nil)))) rfl rfl ?_
 first | refine AOps.step (Val.pickF hσ rfl rfl rfl rfl rfl) rfl rfl rfl ?_ | refine AOps.step (Val.pickB hσ rfl rfl rfl rfl rfl) rfl rfl rfl ?_ | refine AOps.step (Val.pickT hσ rfl rfl rfl rfl rfl) rfl rfl rfl ?_
 refine jf5 14 5 4 0 1 rfl rfl rfl rfl rfl ?_
 refine jn ?_
 refine AWP.cond hσ rfl rfl (fun hc14 => ?_) (fun hc14 => ?_)
 ·
  skip
  refine jsr ?_
  iterate 2 refine jst hσ rfl rfl rfl rfl rfl ?_
  refine jn ?_
  refine AWP.ret ?_
  refine ⟨.inl rfl, _, Ent.refl, _, rfl, ?_⟩
  rw [all_out (pvT hc14)]
  exact resAl_no
 ·
  skip
  refine AWP.skip ?_
  refine jsr ?_
  obtain ⟨hq1, hq2⟩ := pvF hc14
  obtain ⟨hq3, hq4⟩ := sqs_all hq1
  iterate 2 refine jst hσ rfl rfl rfl rfl rfl ?_
  refine AOps.reset [(16, _), (15, _), (5, _), (4, _), (0, _), (1, _)] [] ⟨rfl, rfl, rfl, rfl, rfl, rfl, trivial⟩ rfl ?_
  refine AOps.plainD hσ rfl rfl rfl rfl (c1035 (ss := ss) (b := b) h1 h2 hq3 (budB_in hq2)) (VAs.self rfl) rfl rfl rfl rfl (B0 := 18000) rfl rfl ?_
  refine jst hσ rfl rfl rfl rfl rfl ?_
  refine jf5 6 5 4 0 1 rfl rfl rfl rfl rfl ?_
  refine jn ?_
  refine AWP.seq ?_
  refine jsr ?_
  refine jst hσ rfl rfl rfl rfl rfl ?_
  first | refine jle hσ rfl rfl rfl rfl rfl rfl rfl rfl rfl rfl rfl ?_ | refine jst hσ rfl rfl rfl rfl rfl ?_ | refine jvf hσ rfl rfl rfl rfl rfl ?_
  refine jst hσ rfl rfl rfl rfl rfl ?_
  first | refine jle hσ rfl rfl rfl rfl rfl rfl rfl rfl rfl rfl rfl ?_ | refine jst hσ rfl rfl rfl rfl rfl ?_ | refine jvf hσ rfl rfl rfl rfl rfl ?_
  refine jst hσ rfl rfl rfl rfl rfl ?_
  refine jf6 22 6 5 4 0 1 rfl rfl rfl rfl rfl rfl ?_
  refine jn ?_
  refine AWP.cond hσ rfl rfl (fun hc22 => ?_) (fun hc22 => ?_)
  ·
   skip
   refine jsr ?_
   iterate 2 refine jst hσ rfl rfl rfl rfl rfl ?_
   refine jn ?_
   refine AWP.ret ?_
   refine ⟨.inl rfl, _, Ent.refl, _, rfl, ?_⟩
   have h9 := of_decide_eq_true hc22
   try simp only [List.length_map] at h9
   rw [all_in hq1 hq2, if_pos (by omega)]
   exact resAl_no
  ·
   skip
   refine AWP.skip ?_
   refine jsr ?_
   iterate 3 refine jst hσ rfl rfl rfl rfl rfl ?_
   refine jf5 5 4 6 0 1 rfl rfl rfl rfl rfl ?_
   refine jn ?_
   refine AWP.ret ?_
   refine ⟨.inl rfl, _, Ent.refl, _, rfl, ?_⟩
   have h9 := of_decide_eq_false hc22
   try simp only [List.length_map] at h9
   rw [all_in hq1 hq2, if_neg (by omega)]
   exact .tup (.cons (.c .d) (.cons (.c .d) .nil))
theorem prv_get {ss : List Sq} {b : Int} {i : Nat} (hi : i < ss.length) (h : ∀ s ∈ ss, (prvS s b).2 = true) : (prvS (ss.getD i default) b).2 = true := by rw [getD_lt hi]; exact h _ (List.getElem_mem hi)
theorem c1075v {L : Nat} (h1 : 4096 ≤ L) (h2 : L ≤ 1073741824) {ss : List Sq} {b : Int} (hq : sqsB ss = true) (hb : budB b = true) (ha : ∀ s ∈ ss, (prvS s b).2 = true) : MC Tryz.prog L 7 [asqs ss, eI b] [] (Rows (.tup [.c (.rs 0 0 ss.length), eB true]) [ndsrow (ss.map (fun s => (prvS s b).1))]) := by
 refine MC.rows ?_
 have hσ := SGok (nt := 39) h1 (Nat.le_trans h2 (by decide))
 refine MC.body hσ Tryz.func7 (by kernel_rfl) rfl rfl (Nat.le_of_ble_eq_true rfl) (fun hF => ?_)
 have hl : ss.length ≤ L := by simpa [As.fact, A.fact, M.fact, D.fact, Ds.fact] using hF.1.1
 refine jsr ?_
 iterate 2 refine jst hσ rfl rfl rfl rfl rfl ?_
 refine jn ?_
 refine AWP.seq ?_
 refine jsr ?_
 refine jst hσ rfl rfl rfl rfl rfl ?_
 refine AOps.lone hσ rfl rfl rfl rfl ((c1036 (ss := ss) h1 h2).plain (u := eB true) (congrArg eB hq)) (VAs.self rfl) rfl rfl rfl rfl rfl (B0 := 13000) rfl ?_
 iterate 2 refine jst hσ rfl rfl rfl rfl rfl ?_
 refine jf5 14 5 4 0 1 rfl rfl rfl rfl rfl ?_
 refine AOps.gr 3 rfl rfl rfl (fun hx => AN.step hx rfl rfl rfl (Val.of hσ rfl rfl) rfl rfl ( AN.lone hσ hx rfl rfl rfl rfl ((c1037 (b := b) h1 h2).plain (u := eB true) (congrArg eB hb)) (VAs.self rfl) rfl rfl rfl rfl rfl rfl rfl (B0 := 17000) rfl ( AN.step hx rfl rfl rfl (Val.of hσ rfl rfl) rfl rfl ( AN.nil)))) rfl rfl ?_
 first | refine AOps.step (Val.pickF hσ rfl rfl rfl rfl rfl) rfl rfl rfl ?_ | refine AOps.step (Val.pickB hσ rfl rfl rfl rfl rfl) rfl rfl rfl ?_ | refine AOps.step (Val.pickT hσ rfl rfl rfl rfl rfl) rfl rfl rfl ?_
 refine jf5 18 5 4 0 1 rfl rfl rfl rfl rfl ?_
 refine jn ?_
 refine AWP.cond hσ rfl rfl (fun hc18 => ?_) (fun hc18 => ?_)
 ·
  skip
  exact absurd hc18 (by decide)
 ·
  skip
  refine AWP.skip ?_
  refine jsr ?_
  refine jst hσ rfl rfl rfl rfl rfl ?_
  refine jn ?_
  refine AWP.seq ?_
  refine jsr ?_
  refine jst hσ rfl rfl rfl rfl rfl ?_
  first | refine jle hσ rfl rfl rfl rfl rfl rfl rfl rfl rfl rfl rfl ?_ | refine jst hσ rfl rfl rfl rfl rfl ?_ | refine jvf hσ rfl rfl rfl rfl rfl ?_
  refine jst hσ rfl rfl rfl rfl rfl ?_
  refine jn ?_
  refine AWP.block ?_
  refine AWP.loopP (X := Nat) (fun i => ⟨[(1, eI b), (6, .c (.rs 900 0 i)), (19, asqs ss), (20, eI ss.length), (21, eI i)], [(900, ndsrow ((ss.take i).map (fun s => (prvS s b).1)))]⟩) (fun i => i ≤ ss.length) (fun i => ss.length - i) 0 ((Ent.nameNil 6 900 1 true rfl rfl).trans (Ent.to ⟨rfl, rfl, rfl, rfl, rfl, trivial⟩ rfl)) ?_ (fun i hi => ?_)
  ·
   exact Nat.zero_le _
  refine jsr ?_
  refine jst hσ rfl rfl rfl rfl rfl ?_
  refine jn ?_
  refine AWP.seq ?_
  refine AWP.cond hσ rfl rfl (fun hc22 => ?_) (fun hc22 => ?_)
  ·
   skip
   refine AWP.skip ?_
   refine AWP.seq ?_
   refine AWP.block ?_
   refine jsr ?_
   have hil : i < ss.length := by have := of_decide_eq_true hc22; omega
   refine AOps.step (Val.indexN hσ rfl rfl rfl rfl rfl rfl rfl rfl (idxN hil)) rfl rfl rfl ?_
   refine jst hσ rfl rfl rfl rfl rfl ?_
   refine jf7 24 22 1 6 19 20 21 rfl rfl rfl rfl rfl rfl rfl ?_
   refine AOps.heap (HS.alloc hσ rfl rfl rfl rfl rfl) rfl ?_
   refine jnm ?_
   refine AOps.heap (HS.storeBox hσ rfl rfl rfl rfl rfl rfl rfl rfl rfl rfl rfl) rfl ?_
   refine jnm ?_
   refine jns ?_
   iterate 2 refine jst hσ rfl rfl rfl rfl rfl ?_
   refine AOps.rows hσ (B0 := 29000) rfl rfl rfl rfl (c1019v (s := (ss.getD i default)) (b := b) h1 h2 (prv_get hil ha)) (VAs.self rfl) rfl rfl rfl rfl rfl rfl ?_
   refine jnm ?_
   iterate 5 refine jst hσ rfl rfl rfl rfl rfl ?_
   refine jf10 10 9 8 24 22 1 6 19 20 21 rfl rfl rfl rfl rfl rfl rfl rfl rfl rfl ?_
   refine jn ?_
   refine AWP.seq ?_
   refine jsr ?_
   iterate 2 refine jst hσ rfl rfl rfl rfl rfl ?_
   refine jf10 32 9 8 24 22 1 6 19 20 21 rfl rfl rfl rfl rfl rfl rfl rfl rfl rfl ?_
   refine jn ?_
   refine AWP.cond hσ rfl rfl (fun hc32 => ?_) (fun hc32 => ?_)
   ·
    skip
    exact absurd hc32 (by decide)
   ·
    skip
    refine AWP.skip ?_
    refine AWP.region ?_
    iterate 2 refine jst hσ rfl rfl rfl rfl rfl ?_
    refine jf11 34 33 32 8 24 22 1 6 19 20 21 rfl rfl rfl rfl rfl rfl rfl rfl rfl rfl rfl ?_
    refine AOps.to (Ent.sel [900, 29000] (e' := [(34, _), (1, _), (19, _), (20, _), (21, _), (33, _)]) rfl rfl ⟨rfl, rfl, rfl, rfl, rfl, rfl, trivial⟩ rfl) ?_
    refine AOps.heap (HS.litAbs (ds := ndC (prvS (ss.getD i default) b).1) hσ rfl rfl rfl rfl rfl rfl rfl rfl rfl rfl (.rs rfl (List.length_map _).symm .nil) rfl rfl rfl) rfl ?_
    refine jnm ?_
    refine jnm ?_
    refine jf6 35 1 19 20 21 33 rfl rfl rfl rfl rfl rfl ?_
    refine AOps.heap (HS.appMove (zs := ((ss.take (i + 1)).map (fun s => (prvS s b).1)).map ndC) (n := i + 1) hσ rfl rfl rfl rfl rfl rfl rfl rfl rfl rfl rfl rfl rfl rfl rfl rfl (.row rfl (by simp; omega)) rfl rfl (by decide) rfl (by simp; omega) (by simp; omega) (by rw [List.take_succ_eq_append_getElem hil, List.map_append, List.map_append, getD_lt hil]; rfl) (by simp; omega)) rfl ?_
    refine jnm ?_
    refine jnm ?_
    refine jst hσ rfl rfl rfl rfl rfl ?_
    refine jf5 6 1 19 20 21 rfl rfl rfl rfl rfl ?_
    refine jn ?_
    refine AWP.region ?_
    first | refine jfi hσ rfl rfl rfl rfl rfl ?_ | refine jvf hσ rfl rfl rfl rfl rfl ?_
    refine jst hσ rfl rfl rfl rfl rfl ?_
    refine jn ?_
    refine ⟨i + 1, ((Ent.sel [36] (e' := [(1, _), (6, _), (19, _), (20, _), (21, _)]) rfl rfl ⟨rfl, rfl, rfl, rfl, rfl, trivial⟩ rfl).trans (Ent.sub2 36 900 rfl rfl)), by omega, by omega⟩
  ·
   skip
   refine AWP.exit ?_
   refine jsr ?_
   iterate 3 refine jst hσ rfl rfl rfl rfl rfl ?_
   refine jn ?_
   refine AWP.ret ?_
   obtain rfl : i = ss.length := by have := of_decide_eq_false hc22; omega
   rw [List.take_length]
   refine ⟨.inl rfl, _, Ent.refl, _, rfl, [900], by decide, rfl, rfl, rfl⟩
theorem c1075n1 {L : Nat} (h1 : 4096 ≤ L) (h2 : L ≤ 1073741824) {ss : List Sq} {b : Int} (hg : (sqsB ss && budB b) = false) : MC Tryz.prog L 7 [asqs ss, eI b] [] (Rows (.tup [.c (.d .nils), eB false]) []) := by
 refine MC.rows ?_
 have hσ := SGok (nt := 39) h1 (Nat.le_trans h2 (by decide))
 refine MC.body hσ Tryz.func7 (by kernel_rfl) rfl rfl (Nat.le_of_ble_eq_true rfl) (fun hF => ?_)
 refine jsr ?_
 iterate 2 refine jst hσ rfl rfl rfl rfl rfl ?_
 refine jn ?_
 refine AWP.seq ?_
 refine jsr ?_
 refine jst hσ rfl rfl rfl rfl rfl ?_
 refine AOps.lone hσ rfl rfl rfl rfl (c1036 h1 h2) (VAs.self rfl) rfl rfl rfl rfl rfl (B0 := 13000) rfl ?_
 iterate 2 refine jst hσ rfl rfl rfl rfl rfl ?_
 refine jf5 14 5 4 0 1 rfl rfl rfl rfl rfl ?_
 refine AOps.gr 3 rfl rfl rfl (fun hx => AN.step hx rfl rfl rfl (Val.of hσ rfl rfl) rfl rfl ( AN.lone hσ hx rfl rfl rfl rfl (c1037 h1 h2) (VAs.self rfl) rfl rfl rfl rfl rfl rfl rfl (B0 := 17000) rfl ( AN.step hx rfl rfl rfl (Val.of hσ rfl rfl) rfl rfl ( AN.nil)))) rfl rfl ?_
 first | refine AOps.step (Val.pickF hσ rfl rfl rfl rfl rfl) rfl rfl rfl ?_ | refine AOps.step (Val.pickB hσ rfl rfl rfl rfl rfl) rfl rfl rfl ?_ | refine AOps.step (Val.pickT hσ rfl rfl rfl rfl rfl) rfl rfl rfl ?_
 refine jf5 18 5 4 0 1 rfl rfl rfl rfl rfl ?_
 refine jn ?_
 refine AWP.cond hσ rfl rfl (fun hc18 => ?_) (fun hc18 => ?_)
 ·
  skip
  refine jsr ?_
  iterate 2 refine jst hσ rfl rfl rfl rfl rfl ?_
  refine jn ?_
  refine AWP.ret ?_
  refine ⟨.inl rfl, _, Ent.refl, _, rfl, [], by decide, rfl, rfl, rfl⟩
 ·
  skip
  obtain ⟨q1, q2⟩ := pvF hc18; rw [q1, q2] at hg; cases hg
theorem c1075n2 {L : Nat} (h1 : 4096 ≤ L) (h2 : L ≤ 1073741824) {ss : List Sq} {b : Int} (hq : sqsB ss = true) (hb : budB b = true) (hn : (allP b ss).length < ss.length) : MC Tryz.prog L 7 [asqs ss, eI b] [] (Rows (.tup [.c (.d .nils), eB false]) []) := by
 refine MC.rows ?_
 have hσ := SGok (nt := 39) h1 (Nat.le_trans h2 (by decide))
 refine MC.body hσ Tryz.func7 (by kernel_rfl) rfl rfl (Nat.le_of_ble_eq_true rfl) (fun hF => ?_)
 have hl : ss.length ≤ L := by simpa [As.fact, A.fact, M.fact, D.fact, Ds.fact] using hF.1.1
 obtain ⟨hq3, hq4⟩ := sqs_all hq
 refine jsr ?_
 iterate 2 refine jst hσ rfl rfl rfl rfl rfl ?_
 refine jn ?_
 refine AWP.seq ?_
 refine jsr ?_
 refine jst hσ rfl rfl rfl rfl rfl ?_
 refine AOps.lone hσ rfl rfl rfl rfl ((c1036 (ss := ss) h1 h2).plain (u := eB true) (congrArg eB hq)) (VAs.self rfl) rfl rfl rfl rfl rfl (B0 := 13000) rfl ?_
 iterate 2 refine jst hσ rfl rfl rfl rfl rfl ?_
 refine jf5 14 5 4 0 1 rfl rfl rfl rfl rfl ?_
 refine AOps.gr 3 rfl rfl rfl (fun hx => AN.step hx rfl rfl rfl (Val.of hσ rfl rfl) rfl rfl ( AN.lone hσ hx rfl rfl rfl rfl ((c1037 (b := b) h1 h2).plain (u := eB true) (congrArg eB hb)) (VAs.self rfl) rfl rfl rfl rfl rfl rfl rfl (B0 := 17000) rfl ( AN.step hx rfl rfl rfl (Val.of hσ rfl rfl) rfl rfl ( AN.nil)))) rfl rfl ?_
 first | refine AOps.step (Val.pickF hσ rfl rfl rfl rfl rfl) rfl rfl rfl ?_ | refine AOps.step (Val.pickB hσ rfl rfl rfl rfl rfl) rfl rfl rfl ?_ | refine AOps.step (Val.pickT hσ rfl rfl rfl rfl rfl) rfl rfl rfl ?_
 refine jf5 18 5 4 0 1 rfl rfl rfl rfl rfl ?_
 refine jn ?_
 refine AWP.cond hσ rfl rfl (fun hc18 => ?_) (fun hc18 => ?_)
 ·
  skip
  exact absurd hc18 (by decide)
 ·
  skip
  refine AWP.skip ?_
  refine jsr ?_
  refine jst hσ rfl rfl rfl rfl rfl ?_
  refine jn ?_
  refine AWP.seq ?_
  refine jsr ?_
  refine jst hσ rfl rfl rfl rfl rfl ?_
  first | refine jle hσ rfl rfl rfl rfl rfl rfl rfl rfl rfl rfl rfl ?_ | refine jst hσ rfl rfl rfl rfl rfl ?_ | refine jvf hσ rfl rfl rfl rfl rfl ?_
  refine jst hσ rfl rfl rfl rfl rfl ?_
  refine jn ?_
  refine AWP.block ?_
  refine AWP.loopP (X := Nat) (fun i => ⟨[(1, eI b), (6, .c (.rs 900 0 i)), (19, asqs ss), (20, eI ss.length), (21, eI i)], [(900, pfrow (ss.take i) b)]⟩) (fun i => i ≤ ss.length ∧ ∀ j (h : j < ss.length), j < i → (provS ss[j] b).2 = true) (fun i => ss.length - i) 0 ((Ent.nameNil 6 900 1 false rfl rfl).trans (Ent.to ⟨rfl, rfl, rfl, rfl, rfl, trivial⟩ rfl)) ?_ (fun i hi => ?_)
  ·
   exact ⟨Nat.zero_le _, fun j h hj => absurd hj (Nat.not_lt_zero j)⟩
  refine jsr ?_
  refine jst hσ rfl rfl rfl rfl rfl ?_
  refine jn ?_
  refine AWP.seq ?_
  refine AWP.cond hσ rfl rfl (fun hc22 => ?_) (fun hc22 => ?_)
  ·
   skip
   refine AWP.skip ?_
   refine AWP.seq ?_
   refine AWP.block ?_
   refine jsr ?_
   have hil : i < ss.length := by have := of_decide_eq_true hc22; omega
   refine AOps.step (Val.indexN hσ rfl rfl rfl rfl rfl rfl rfl rfl (idxN hil)) rfl rfl rfl ?_
   refine jst hσ rfl rfl rfl rfl rfl ?_
   refine jf7 24 22 1 6 19 20 21 rfl rfl rfl rfl rfl rfl rfl ?_
   refine AOps.heap (HS.alloc hσ rfl rfl rfl rfl rfl) rfl ?_
   refine jnm ?_
   refine AOps.heap (HS.storeBox hσ rfl rfl rfl rfl rfl rfl rfl rfl rfl rfl rfl) rfl ?_
   refine jnm ?_
   refine jns ?_
   iterate 2 refine jst hσ rfl rfl rfl rfl rfl ?_
   refine AOps.plainD hσ rfl rfl rfl rfl ((c1019 (s := (ss.getD i default)) (b := b) h1 h2).plain (u := resPv (provS (ss.getD i default) b)) (by rw [prv_in (all_seq hq3 hil) hb])) (VAs.self rfl) rfl rfl rfl rfl (B0 := 29000) rfl rfl ?_
   iterate 5 refine jst hσ rfl rfl rfl rfl rfl ?_
   refine jf10 10 9 8 24 22 1 6 19 20 21 rfl rfl rfl rfl rfl rfl rfl rfl rfl rfl ?_
   refine jn ?_
   refine AWP.seq ?_
   refine jsr ?_
   iterate 2 refine jst hσ rfl rfl rfl rfl rfl ?_
   refine jf10 32 9 8 24 22 1 6 19 20 21 rfl rfl rfl rfl rfl rfl rfl rfl rfl rfl ?_
   refine jn ?_
   refine AWP.cond hσ rfl rfl (fun hc32 => ?_) (fun hc32 => ?_)
   ·
    skip
    refine jsr ?_
    iterate 2 refine jst hσ rfl rfl rfl rfl rfl ?_
    refine jn ?_
    refine AWP.ret ?_
    refine ⟨.inl rfl, _, Ent.refl, _, rfl, [], by decide, rfl, rfl, rfl⟩
   ·
    skip
    refine AWP.skip ?_
    refine AWP.region ?_
    iterate 2 refine jst hσ rfl rfl rfl rfl rfl ?_
    refine jf11 34 33 32 8 24 22 1 6 19 20 21 rfl rfl rfl rfl rfl rfl rfl rfl rfl rfl rfl ?_
    refine AOps.heap (HS.litD hσ rfl rfl rfl rfl rfl rfl rfl rfl rfl rfl rfl) rfl ?_
    refine jnm ?_
    refine jf11 35 33 32 8 24 22 1 6 19 20 21 rfl rfl rfl rfl rfl rfl rfl rfl rfl rfl rfl ?_
    refine AOps.heap (HS.appCopy (own := false) (xs := (ss.take i).map fun s => pfD s b) (ys := [pfD (ss.getD i default) b]) (zs := (ss.take (i + 1)).map fun s => pfD s b) (n := i + 1) hσ rfl rfl rfl rfl rfl rfl rfl rfl rfl rfl rfl rfl rfl rfl rfl rfl (.row rfl (by simp; omega)) (.whole rfl rfl (.inr ⟨rfl, rfl⟩)) (by simp) rfl (by simp; omega) (by simp; omega) (by rw [List.take_succ_eq_append_getElem hil, List.map_append, getD_lt hil]; rfl) (by simp; omega)) rfl ?_
    refine jnm ?_
    refine jnm ?_
    refine jst hσ rfl rfl rfl rfl rfl ?_
    refine jf9 6 32 8 24 22 1 19 20 21 rfl rfl rfl rfl rfl rfl rfl rfl rfl ?_
    refine jn ?_
    refine AWP.region ?_
    first | refine jfi hσ rfl rfl rfl rfl rfl ?_ | refine jvf hσ rfl rfl rfl rfl rfl ?_
    refine jst hσ rfl rfl rfl rfl rfl ?_
    refine jn ?_
    refine ⟨i + 1, ((Ent.sel [36] (e' := [(1, _), (6, _), (19, _), (20, _), (21, _)]) rfl rfl ⟨rfl, rfl, rfl, rfl, rfl, trivial⟩ rfl).trans (Ent.sub2 36 900 rfl rfl)), ⟨by omega, fun j h hj => ?_⟩, by omega⟩
    by_cases e : j = i
    ·
     subst e; rw [getD_lt h] at hc32; exact nt2 hc32
    ·
     exact hi.2 j h (by omega)
  ·
   skip
   exact absurd hn (by rw [allP_done (fun j hj => hi.2 j hj (by have := of_decide_eq_false hc22; omega)), List.length_map]; omega)
end Go.Al
namespace Go.Al
open Go.Proofs
set_option linter.unusedVariables false
set_option linter.unusedSimpArgs false
set_option maxRecDepth 10000
set_option maxHeartbeats 4000000
theorem c1073v {L : Nat} (h1 : 4096 ≤ L) (h2 : L ≤ 1073741824) {ss : List Sq} {b : Int} {r : List (List Nd)} {m0 : Nat} (hm0 : m0 = r.length) (hcc : 1 + cnt nP r ≤ (1073741824 : Int)) (cs : MC Tryz.prog L 5 [asqs ss, eI b] [] (Plain (.tup [andss r, eB true]))) (ci : MC Tryz.prog L 7 [asqs ss, eI b] [] (Rows (.tup [.c (.rs 0 0 m0), eB true]) [ndsrow r])) (hz1 : 0 ≤ szr 1048576 (Al.szs Sq.size ss)) (hcp : 1 + cnt nQ ss ≤ (1073741824 : Int)) : MC Tryz.prog L 3 [asqs ss, eI b] [] (Plain (eB true)) := by
 refine MC.alone ?_ rfl
 have hσ := SGok (nt := 101) h1 (Nat.le_trans h2 (by decide))
 refine MC.body hσ Tryz.func3 (by kernel_rfl) rfl rfl (Nat.le_of_ble_eq_true rfl) (fun hF => ?_)
 subst hm0
 have hbig : L ≤ 9223372036854775807 := Nat.le_trans h2 (by decide)
 refine jsr ?_
 refine jst hσ rfl rfl rfl rfl rfl ?_
 refine jns ?_
 refine jst hσ rfl rfl rfl rfl rfl ?_
 refine jns ?_
 iterate 2 refine jst hσ rfl rfl rfl rfl rfl ?_
 refine AOps.lone hσ rfl rfl rfl rfl (c42 (ts := ss) (left := 1048576) h1 hbig (by decide) (by decide)) (VAs.self rfl) rfl rfl rfl rfl rfl (B0 := 19000) rfl ?_
 refine jst hσ rfl rfl rfl rfl rfl ?_
 refine jf4 5 4 0 1 rfl rfl rfl rfl ?_
 refine jn ?_
 refine AWP.seq ?_
 refine jsr ?_
 iterate 2 refine jst hσ rfl rfl rfl rfl rfl ?_
 refine jn ?_
 refine AWP.cond hσ rfl rfl (fun hc20 => ?_) (fun hc20 => ?_)
 ·
  skip
  exact absurd (of_decide_eq_true hc20) (by omega)
 ·
  skip
  refine AWP.skip ?_
  refine jsr ?_
  refine jst hσ rfl rfl rfl rfl rfl ?_
  refine jf6 22 19 5 4 0 1 rfl rfl rfl rfl rfl rfl ?_
  refine AOps.plainD hσ rfl rfl rfl rfl (c45d (ss := ss) h1 h2) (VAs.self rfl) rfl rfl rfl rfl (B0 := 24000) rfl rfl ?_
  refine jst hσ rfl rfl rfl rfl rfl ?_
  refine jf7 24 23 19 5 4 0 1 rfl rfl rfl rfl rfl rfl rfl ?_
  refine AOps.plainD hσ rfl rfl rfl rfl (cs) (VAs.self rfl) rfl rfl rfl rfl (B0 := 26000) rfl rfl ?_
  iterate 5 refine jst hσ rfl rfl rfl rfl rfl ?_
  refine jf7 7 6 19 5 4 0 1 rfl rfl rfl rfl rfl rfl rfl ?_
  refine jns ?_
  refine jst hσ rfl rfl rfl rfl rfl ?_
  refine AOps.rows hσ (B0 := 30000) rfl rfl rfl rfl (c45 (ts := ss) h1 h2) (VAs.self rfl) rfl rfl rfl rfl rfl rfl ?_
  refine jnm ?_
  refine jst hσ rfl rfl rfl rfl rfl ?_
  refine jf8 8 7 6 19 5 4 0 1 rfl rfl rfl rfl rfl rfl rfl rfl ?_
  refine jns ?_
  iterate 2 refine jst hσ rfl rfl rfl rfl rfl ?_
  refine AOps.rows hσ (B0 := 34000) rfl rfl rfl rfl (ci) (.cons (.c (.whole rfl (List.length_map _).symm)) (.cons (.c .d) .nil)) rfl rfl rfl rfl rfl rfl ?_
  refine jnm ?_
  iterate 5 refine jst hσ rfl rfl rfl rfl rfl ?_
  refine jf10 10 9 8 7 6 19 5 4 0 1 rfl rfl rfl rfl rfl rfl rfl rfl rfl rfl ?_
  refine jn ?_
  refine AWP.seq ?_
  refine jsr ?_
  iterate 2 refine jst hσ rfl rfl rfl rfl rfl ?_
  refine AOps.lone hσ rfl rfl rfl rfl ((c49 (xs := r) (ys := r) h1 h2).plain (u := eB true) (by simp)) (.cons (.c (.whole rfl (List.length_map _).symm)) (.cons (.c .d) .nil)) rfl rfl rfl rfl rfl (B0 := 39000) rfl ?_
  iterate 2 refine jst hσ rfl rfl rfl rfl rfl ?_
  refine jf11 40 10 9 8 7 6 19 5 4 0 1 rfl rfl rfl rfl rfl rfl rfl rfl rfl rfl rfl ?_
  refine AOps.live rfl rfl rfl rfl rfl ?_
  refine jst hσ rfl rfl rfl rfl rfl ?_
  refine AOps.live rfl rfl rfl rfl rfl ?_
  refine jst hσ rfl rfl rfl rfl rfl ?_
  refine AOps.live rfl rfl rfl rfl rfl ?_
  refine jst hσ rfl rfl rfl rfl rfl ?_
  refine AOps.step (Val.pickN hσ rfl rfl rfl rfl rfl) rfl rfl rfl ?_
  refine jf11 44 10 9 8 7 6 19 5 4 0 1 rfl rfl rfl rfl rfl rfl rfl rfl rfl rfl rfl ?_
  refine jn ?_
  refine AWP.cond hσ rfl rfl (fun hc44 => ?_) (fun hc44 => ?_)
  ·
   skip
   exact absurd (show false = true from hc44) (by decide)
  ·
   skip
   refine AWP.skip ?_
   refine AWP.seq ?_
   refine jsr ?_
   iterate 2 refine jst hσ rfl rfl rfl rfl rfl ?_
   refine jf12 46 45 10 9 8 7 6 19 5 4 0 1 rfl rfl rfl rfl rfl rfl rfl rfl rfl rfl rfl rfl ?_
   refine AOps.plainD hσ rfl rfl rfl rfl (c45d (ss := ss) h1 h2) (VAs.self rfl) rfl rfl rfl rfl (B0 := 48000) rfl rfl ?_
   refine jf12 47 45 10 9 8 7 6 19 5 4 0 1 rfl rfl rfl rfl rfl rfl rfl rfl rfl rfl rfl rfl ?_
   refine AOps.lone hσ rfl rfl rfl rfl ((c48 (xs := ss) (ys := ss) h1 h2).plain (u := eB true) (by simp)) (.cons (.c (.whole rfl (List.length_map _).symm)) (.cons (.c .d) .nil)) rfl rfl rfl rfl rfl (B0 := 49000) rfl ?_
   refine jst hσ rfl rfl rfl rfl rfl ?_
   refine jf11 49 10 9 8 7 6 19 5 4 0 1 rfl rfl rfl rfl rfl rfl rfl rfl rfl rfl rfl ?_
   refine jn ?_
   refine AWP.cond hσ rfl rfl (fun hc49 => ?_) (fun hc49 => ?_)
   ·
    skip
    exact absurd (show false = true from hc49) (by decide)
   ·
    skip
    refine AWP.skip ?_
    refine jsr ?_
    refine jst hσ rfl rfl rfl rfl rfl ?_
    refine jns ?_
    iterate 2 refine jst hσ rfl rfl rfl rfl rfl ?_
    refine AOps.forget [(51, _), (50, _), (11, _), (10, _), (9, _), (8, _), (7, _), (6, _), (19, _), (5, _), (4, _), (0, _), (1, _)] ⟨rfl, rfl, rfl, rfl, rfl, rfl, rfl, rfl, rfl, rfl, rfl, rfl, rfl, trivial⟩ ?_
    refine AOps.inn hσ [30000] (bin := [sqrow ss]) rfl rfl rfl rfl (c1076 (ts := ss) (k := 1) h1 h2 (by decide) (by omega)) rfl rfl rfl rfl rfl rfl (B0 := 53000) rfl rfl ?_
    refine jnm ?_
    refine jst hσ rfl rfl rfl rfl rfl ?_
    refine jf11 11 10 9 8 7 6 19 5 4 0 1 rfl rfl rfl rfl rfl rfl rfl rfl rfl rfl rfl ?_
    refine jn ?_
    refine AWP.seq ?_
    refine jsr ?_
    iterate 2 refine jst hσ rfl rfl rfl rfl rfl ?_
    rw [decide_eq_false (show ¬ (1 + cnt nQ ss : Int) < 0 by omega)]
    refine jst hσ rfl rfl rfl rfl rfl ?_
    refine jf12 55 11 10 9 8 7 6 19 5 4 0 1 rfl rfl rfl rfl rfl rfl rfl rfl rfl rfl rfl rfl ?_
    refine AOps.live rfl rfl rfl rfl rfl ?_
    refine jst hσ rfl rfl rfl rfl rfl ?_
    refine AOps.live rfl rfl rfl rfl rfl ?_
    refine jst hσ rfl rfl rfl rfl rfl ?_
    refine AOps.live rfl rfl rfl rfl rfl ?_
    refine AOps.lone hσ rfl rfl rfl rfl ((c49 (xs := r) (ys := r) h1 h2).plain (u := eB true) (by simp)) (.cons (.c (.whole rfl (List.length_map _).symm)) (.cons (.c .d) .nil)) rfl rfl rfl rfl rfl (B0 := 59000) rfl ?_
    refine AOps.forget [(58, _), (55, _), (11, _), (10, _), (9, _), (8, _), (7, _), (6, _), (19, _), (5, _), (4, _), (0, _), (1, _)] ⟨rfl, rfl, rfl, rfl, rfl, rfl, rfl, rfl, rfl, rfl, rfl, rfl, rfl, trivial⟩ ?_
    refine AOps.live rfl rfl rfl rfl rfl ?_
    refine jst hσ rfl rfl rfl rfl rfl ?_
    refine AOps.step (Val.pickN hσ rfl rfl rfl rfl rfl) rfl rfl rfl ?_
    refine jst hσ rfl rfl rfl rfl rfl ?_
    refine jf12 61 11 10 9 8 7 6 19 5 4 0 1 rfl rfl rfl rfl rfl rfl rfl rfl rfl rfl rfl rfl ?_
    refine AOps.live rfl rfl rfl rfl rfl ?_
    refine jst hσ rfl rfl rfl rfl rfl ?_
    refine AOps.live rfl rfl rfl rfl rfl ?_
    refine jst hσ rfl rfl rfl rfl rfl ?_
    refine AOps.live rfl rfl rfl rfl rfl ?_
    refine jst hσ rfl rfl rfl rfl rfl ?_
    refine AOps.step (Val.pickN hσ rfl rfl rfl rfl rfl) rfl rfl rfl ?_
    refine jf12 65 11 10 9 8 7 6 19 5 4 0 1 rfl rfl rfl rfl rfl rfl rfl rfl rfl rfl rfl rfl ?_
    refine jn ?_
    refine AWP.cond hσ rfl rfl (fun hc65 => ?_) (fun hc65 => ?_)
    ·
     skip
     exact absurd (show false = true from hc65) (by decide)
    ·
     skip
     refine AWP.skip ?_
     refine jsr ?_
     refine jst hσ rfl rfl rfl rfl rfl ?_
     refine jns ?_
     iterate 2 refine jst hσ rfl rfl rfl rfl rfl ?_
     refine jf14 67 66 12 11 10 9 8 7 6 19 5 4 0 1 rfl rfl rfl rfl rfl rfl rfl rfl rfl rfl rfl rfl rfl rfl ?_
     refine AOps.inn hσ [34000] (bin := [ndsrow r]) rfl rfl rfl rfl (c1077 (ts := r) (k := 1) h1 h2 (by decide) (by omega)) rfl rfl rfl rfl rfl rfl (B0 := 69000) rfl rfl ?_
     refine jnm ?_
     refine jst hσ rfl rfl rfl rfl rfl ?_
     refine jf12 12 11 10 9 8 7 6 19 5 4 0 1 rfl rfl rfl rfl rfl rfl rfl rfl rfl rfl rfl rfl ?_
     refine jns ?_
     refine jst hσ rfl rfl rfl rfl rfl ?_
     refine jns ?_
     iterate 2 refine jst hσ rfl rfl rfl rfl rfl ?_
     refine AOps.lone hσ rfl rfl rfl rfl (c1078 (ts := r) (k := 1) h1 h2 (by decide) (by omega)) (.cons (.c (.whole rfl (by rw [List.length_map, markL_length]))) (.cons (.c .d) .nil)) rfl rfl rfl rfl rfl (B0 := 72000) rfl ?_
     refine jst hσ rfl rfl rfl rfl rfl ?_
     refine AOps.forget [(13, _), (12, _), (11, _), (10, _), (9, _), (8, _), (7, _), (6, _), (19, _), (5, _), (4, _), (0, _), (1, _)] ⟨rfl, rfl, rfl, rfl, rfl, rfl, rfl, rfl, rfl, rfl, rfl, rfl, rfl, trivial⟩ ?_
     refine jn ?_
     refine AWP.seq ?_
     refine jsr ?_
     iterate 2 refine jst hσ rfl rfl rfl rfl rfl ?_
     refine jn ?_
     refine AWP.cond hσ rfl rfl (fun hc73 => ?_) (fun hc73 => ?_)
     ·
      skip
      exact absurd (of_decide_eq_true hc73) (by omega)
     ·
      skip
      refine AWP.skip ?_
      refine AWP.seq ?_
      refine jsr ?_
      iterate 3 refine jst hσ rfl rfl rfl rfl rfl ?_
      refine jf15 76 72 13 12 11 10 9 8 7 6 19 5 4 0 1 rfl rfl rfl rfl rfl rfl rfl rfl rfl rfl rfl rfl rfl rfl rfl ?_
      refine jn ?_
      refine AWP.cond hσ rfl rfl (fun hc76 => ?_) (fun hc76 => ?_)
      ·
       skip
       exact absurd hc76 (by simp)
      ·
       skip
       refine AWP.skip ?_
       refine jsr ?_
       refine jst hσ rfl rfl rfl rfl rfl ?_
       refine jf15 78 72 13 12 11 10 9 8 7 6 19 5 4 0 1 rfl rfl rfl rfl rfl rfl rfl rfl rfl rfl rfl rfl rfl rfl rfl ?_
       refine AOps.plainD hσ rfl rfl rfl rfl (c45d (ss := ss) h1 h2) (VAs.self rfl) rfl rfl rfl rfl (B0 := 80000) rfl rfl ?_
       refine jst hσ rfl rfl rfl rfl rfl ?_
       refine jf16 80 79 72 13 12 11 10 9 8 7 6 19 5 4 0 1 rfl rfl rfl rfl rfl rfl rfl rfl rfl rfl rfl rfl rfl rfl rfl rfl ?_
       refine AOps.rows hσ (B0 := 82000) rfl rfl rfl rfl (ci) (VAs.self rfl) rfl rfl rfl rfl rfl rfl ?_
       refine jnm ?_
       iterate 5 refine jst hσ rfl rfl rfl rfl rfl ?_
       refine jf16 15 14 72 13 12 11 10 9 8 7 6 19 5 4 0 1 rfl rfl rfl rfl rfl rfl rfl rfl rfl rfl rfl rfl rfl rfl rfl rfl ?_
       refine jn ?_
       refine AWP.seq ?_
       refine jsr ?_
       iterate 2 refine jst hσ rfl rfl rfl rfl rfl ?_
       refine AOps.forget [(85, _), (84, _), (15, _), (72, _), (13, _), (12, _), (11, _), (10, _), (9, _), (8, _), (7, _), (6, _), (19, _), (5, _), (4, _), (0, _), (1, _)] ⟨rfl, rfl, rfl, rfl, rfl, rfl, rfl, rfl, rfl, rfl, rfl, rfl, rfl, rfl, rfl, rfl, rfl, trivial⟩ ?_
       refine AOps.lone hσ rfl rfl rfl rfl ((c49 (xs := r) (ys := r) h1 h2).plain (u := eB true) (by simp)) (.cons (.c (.whole rfl (List.length_map _).symm)) (.cons (.c .d) .nil)) rfl rfl rfl rfl rfl (B0 := 87000) rfl ?_
       iterate 2 refine jst hσ rfl rfl rfl rfl rfl ?_
       refine jf16 88 15 72 13 12 11 10 9 8 7 6 19 5 4 0 1 rfl rfl rfl rfl rfl rfl rfl rfl rfl rfl rfl rfl rfl rfl rfl rfl ?_
       refine AOps.live rfl rfl rfl rfl rfl ?_
       refine jst hσ rfl rfl rfl rfl rfl ?_
       refine jf16 89 88 72 13 12 11 10 9 8 7 6 19 5 4 0 1 rfl rfl rfl rfl rfl rfl rfl rfl rfl rfl rfl rfl rfl rfl rfl rfl ?_
       refine AOps.live rfl rfl rfl rfl rfl ?_
       refine jst hσ rfl rfl rfl rfl rfl ?_
       refine AOps.live rfl rfl rfl rfl rfl ?_
       refine jst hσ rfl rfl rfl rfl rfl ?_
       refine AOps.step (Val.pickN hσ rfl rfl rfl rfl rfl) rfl rfl rfl ?_
       refine jf15 92 72 13 12 11 10 9 8 7 6 19 5 4 0 1 rfl rfl rfl rfl rfl rfl rfl rfl rfl rfl rfl rfl rfl rfl rfl ?_
       refine jn ?_
       refine AWP.cond hσ rfl rfl (fun hc92 => ?_) (fun hc92 => ?_)
       ·
        skip
        exact absurd (show false = true from hc92) (by decide)
       ·
        skip
        refine AWP.skip ?_
        refine jsr ?_
        refine jst hσ rfl rfl rfl rfl rfl ?_
        refine jns ?_
        iterate 2 refine jst hσ rfl rfl rfl rfl rfl ?_
        refine jf16 94 93 13 72 12 11 10 9 8 7 6 19 5 4 0 1 rfl rfl rfl rfl rfl rfl rfl rfl rfl rfl rfl rfl rfl rfl rfl rfl ?_
        refine AOps.lone hσ rfl rfl rfl rfl (c1078 (ts := r) (k := 1) h1 h2 (by decide) (by omega)) (.cons (.c (.whole rfl (by rw [List.length_map, markL_length]))) (.cons (.c .d) .nil)) rfl rfl rfl rfl rfl (B0 := 96000) rfl ?_
        refine jst hσ rfl rfl rfl rfl rfl ?_
        refine jf14 13 72 12 11 10 9 8 7 6 19 5 4 0 1 rfl rfl rfl rfl rfl rfl rfl rfl rfl rfl rfl rfl rfl rfl ?_
        refine jn ?_
        refine AWP.seq ?_
        refine jsr ?_
        iterate 2 refine jst hσ rfl rfl rfl rfl rfl ?_
        refine jn ?_
        refine AWP.cond hσ rfl rfl (fun hc97 => ?_) (fun hc97 => ?_)
        ·
         skip
         exact absurd (of_decide_eq_true hc97) (by omega)
        ·
         skip
         refine AWP.skip ?_
         refine AWP.seq ?_
         refine jsr ?_
         iterate 3 refine jst hσ rfl rfl rfl rfl rfl ?_
         refine jf16 100 96 13 72 12 11 10 9 8 7 6 19 5 4 0 1 rfl rfl rfl rfl rfl rfl rfl rfl rfl rfl rfl rfl rfl rfl rfl rfl ?_
         refine jn ?_
         refine AWP.cond hσ rfl rfl (fun hc100 => ?_) (fun hc100 => ?_)
         ·
          skip
          exact absurd hc100 (by simp)
         ·
          skip
          refine AWP.skip ?_
          refine jsr ?_
          refine jst hσ rfl rfl rfl rfl rfl ?_
          refine jn ?_
          refine AWP.ret ?_
          refine ⟨.inl rfl, _, Ent.refl, _, rfl, ?_⟩
          rfl
theorem c1073n {L : Nat} (h1 : 4096 ≤ L) (h2 : L ≤ 1073741824) {ss : List Sq} {b : Int} (cs : MC Tryz.prog L 5 [asqs ss, eI b] [] (Plain (.tup [andss ([] : List (List Nd)), eB false]))) (ci : MC Tryz.prog L 7 [asqs ss, eI b] [] (Rows (.tup [.c (.d .nils), eB false]) [])) (hz1 : 0 ≤ szr 1048576 (Al.szs Sq.size ss)) (hcp : 1 + cnt nQ ss ≤ (1073741824 : Int)) : MC Tryz.prog L 3 [asqs ss, eI b] [] (Plain (eB true)) := by
 refine MC.alone ?_ rfl
 have hσ := SGok (nt := 101) h1 (Nat.le_trans h2 (by decide))
 refine MC.body hσ Tryz.func3 (by kernel_rfl) rfl rfl (Nat.le_of_ble_eq_true rfl) (fun hF => ?_)
 have hbig : L ≤ 9223372036854775807 := Nat.le_trans h2 (by decide)
 refine jsr ?_
 refine jst hσ rfl rfl rfl rfl rfl ?_
 refine jns ?_
 refine jst hσ rfl rfl rfl rfl rfl ?_
 refine jns ?_
 iterate 2 refine jst hσ rfl rfl rfl rfl rfl ?_
 refine AOps.lone hσ rfl rfl rfl rfl (c42 (ts := ss) (left := 1048576) h1 hbig (by decide) (by decide)) (VAs.self rfl) rfl rfl rfl rfl rfl (B0 := 19000) rfl ?_
 refine jst hσ rfl rfl rfl rfl rfl ?_
 refine jf4 5 4 0 1 rfl rfl rfl rfl ?_
 refine jn ?_
 refine AWP.seq ?_
 refine jsr ?_
 iterate 2 refine jst hσ rfl rfl rfl rfl rfl ?_
 refine jn ?_
 refine AWP.cond hσ rfl rfl (fun hc20 => ?_) (fun hc20 => ?_)
 ·
  skip
  exact absurd (of_decide_eq_true hc20) (by omega)
 ·
  skip
  refine AWP.skip ?_
  refine jsr ?_
  refine jst hσ rfl rfl rfl rfl rfl ?_
  refine jf6 22 19 5 4 0 1 rfl rfl rfl rfl rfl rfl ?_
  refine AOps.plainD hσ rfl rfl rfl rfl (c45d (ss := ss) h1 h2) (VAs.self rfl) rfl rfl rfl rfl (B0 := 24000) rfl rfl ?_
  refine jst hσ rfl rfl rfl rfl rfl ?_
  refine jf7 24 23 19 5 4 0 1 rfl rfl rfl rfl rfl rfl rfl ?_
  refine AOps.plainD hσ rfl rfl rfl rfl (cs) (VAs.self rfl) rfl rfl rfl rfl (B0 := 26000) rfl rfl ?_
  iterate 5 refine jst hσ rfl rfl rfl rfl rfl ?_
  refine jf7 7 6 19 5 4 0 1 rfl rfl rfl rfl rfl rfl rfl ?_
  refine jns ?_
  refine jst hσ rfl rfl rfl rfl rfl ?_
  refine AOps.rows hσ (B0 := 30000) rfl rfl rfl rfl (c45 (ts := ss) h1 h2) (VAs.self rfl) rfl rfl rfl rfl rfl rfl ?_
  refine jnm ?_
  refine jst hσ rfl rfl rfl rfl rfl ?_
  refine jf8 8 7 6 19 5 4 0 1 rfl rfl rfl rfl rfl rfl rfl rfl ?_
  refine jns ?_
  iterate 2 refine jst hσ rfl rfl rfl rfl rfl ?_
  refine AOps.rows hσ (B0 := 34000) rfl rfl rfl rfl (ci) (.cons (.c (.whole rfl (List.length_map _).symm)) (.cons (.c .d) .nil)) rfl rfl rfl rfl rfl rfl ?_
  refine jnm ?_
  iterate 5 refine jst hσ rfl rfl rfl rfl rfl ?_
  refine jf10 10 9 8 7 6 19 5 4 0 1 rfl rfl rfl rfl rfl rfl rfl rfl rfl rfl ?_
  refine jn ?_
  refine AWP.seq ?_
  refine jsr ?_
  iterate 2 refine jst hσ rfl rfl rfl rfl rfl ?_
  refine AOps.lone hσ rfl rfl rfl rfl ((c49 (xs := ([] : List (List Nd))) (ys := ([] : List (List Nd))) h1 h2).plain (u := eB true) (by simp)) (.cons (.c .nils) (.cons (.c .d) .nil)) rfl rfl rfl rfl rfl (B0 := 39000) rfl ?_
  iterate 2 refine jst hσ rfl rfl rfl rfl rfl ?_
  refine jf11 40 10 9 8 7 6 19 5 4 0 1 rfl rfl rfl rfl rfl rfl rfl rfl rfl rfl rfl ?_
  refine AOps.live rfl rfl rfl rfl rfl ?_
  refine jst hσ rfl rfl rfl rfl rfl ?_
  refine AOps.live rfl rfl rfl rfl rfl ?_
  refine jst hσ rfl rfl rfl rfl rfl ?_
  refine AOps.live rfl rfl rfl rfl rfl ?_
  refine jst hσ rfl rfl rfl rfl rfl ?_
  refine AOps.step (Val.pickN hσ rfl rfl rfl rfl rfl) rfl rfl rfl ?_
  refine jf11 44 10 9 8 7 6 19 5 4 0 1 rfl rfl rfl rfl rfl rfl rfl rfl rfl rfl rfl ?_
  refine jn ?_
  refine AWP.cond hσ rfl rfl (fun hc44 => ?_) (fun hc44 => ?_)
  ·
   skip
   exact absurd (show false = true from hc44) (by decide)
  ·
   skip
   refine AWP.skip ?_
   refine AWP.seq ?_
   refine jsr ?_
   iterate 2 refine jst hσ rfl rfl rfl rfl rfl ?_
   refine jf12 46 45 10 9 8 7 6 19 5 4 0 1 rfl rfl rfl rfl rfl rfl rfl rfl rfl rfl rfl rfl ?_
   refine AOps.plainD hσ rfl rfl rfl rfl (c45d (ss := ss) h1 h2) (VAs.self rfl) rfl rfl rfl rfl (B0 := 48000) rfl rfl ?_
   refine jf12 47 45 10 9 8 7 6 19 5 4 0 1 rfl rfl rfl rfl rfl rfl rfl rfl rfl rfl rfl rfl ?_
   refine AOps.lone hσ rfl rfl rfl rfl ((c48 (xs := ss) (ys := ss) h1 h2).plain (u := eB true) (by simp)) (.cons (.c (.whole rfl (List.length_map _).symm)) (.cons (.c .d) .nil)) rfl rfl rfl rfl rfl (B0 := 49000) rfl ?_
   refine jst hσ rfl rfl rfl rfl rfl ?_
   refine jf11 49 10 9 8 7 6 19 5 4 0 1 rfl rfl rfl rfl rfl rfl rfl rfl rfl rfl rfl ?_
   refine jn ?_
   refine AWP.cond hσ rfl rfl (fun hc49 => ?_) (fun hc49 => ?_)
   ·
    skip
    exact absurd (show false = true from hc49) (by decide)
   ·
    skip
    refine AWP.skip ?_
    refine jsr ?_
    refine jst hσ rfl rfl rfl rfl rfl ?_
    refine jns ?_
    iterate 2 refine jst hσ rfl rfl rfl rfl rfl ?_
    refine AOps.forget [(51, _), (50, _), (11, _), (10, _), (9, _), (8, _), (7, _), (6, _), (19, _), (5, _), (4, _), (0, _), (1, _)] ⟨rfl, rfl, rfl, rfl, rfl, rfl, rfl, rfl, rfl, rfl, rfl, rfl, rfl, trivial⟩ ?_
    refine AOps.inn hσ [30000] (bin := [sqrow ss]) rfl rfl rfl rfl (c1076 (ts := ss) (k := 1) h1 h2 (by decide) (by omega)) rfl rfl rfl rfl rfl rfl (B0 := 53000) rfl rfl ?_
    refine jnm ?_
    refine jst hσ rfl rfl rfl rfl rfl ?_
    refine jf11 11 10 9 8 7 6 19 5 4 0 1 rfl rfl rfl rfl rfl rfl rfl rfl rfl rfl rfl ?_
    refine jn ?_
    refine AWP.seq ?_
    refine jsr ?_
    iterate 2 refine jst hσ rfl rfl rfl rfl rfl ?_
    rw [decide_eq_false (show ¬ (1 + cnt nQ ss : Int) < 0 by omega)]
    refine jst hσ rfl rfl rfl rfl rfl ?_
    refine jf12 55 11 10 9 8 7 6 19 5 4 0 1 rfl rfl rfl rfl rfl rfl rfl rfl rfl rfl rfl rfl ?_
    refine AOps.live rfl rfl rfl rfl rfl ?_
    refine jst hσ rfl rfl rfl rfl rfl ?_
    refine AOps.live rfl rfl rfl rfl rfl ?_
    refine jst hσ rfl rfl rfl rfl rfl ?_
    refine AOps.live rfl rfl rfl rfl rfl ?_
    refine AOps.lone hσ rfl rfl rfl rfl ((c49 (xs := ([] : List (List Nd))) (ys := ([] : List (List Nd))) h1 h2).plain (u := eB true) (by simp)) (.cons (.c .nils) (.cons (.c .d) .nil)) rfl rfl rfl rfl rfl (B0 := 59000) rfl ?_
    refine AOps.forget [(58, _), (55, _), (11, _), (10, _), (9, _), (8, _), (7, _), (6, _), (19, _), (5, _), (4, _), (0, _), (1, _)] ⟨rfl, rfl, rfl, rfl, rfl, rfl, rfl, rfl, rfl, rfl, rfl, rfl, rfl, trivial⟩ ?_
    refine AOps.live rfl rfl rfl rfl rfl ?_
    refine jst hσ rfl rfl rfl rfl rfl ?_
    refine AOps.step (Val.pickN hσ rfl rfl rfl rfl rfl) rfl rfl rfl ?_
    refine jst hσ rfl rfl rfl rfl rfl ?_
    refine jf12 61 11 10 9 8 7 6 19 5 4 0 1 rfl rfl rfl rfl rfl rfl rfl rfl rfl rfl rfl rfl ?_
    refine AOps.live rfl rfl rfl rfl rfl ?_
    refine jst hσ rfl rfl rfl rfl rfl ?_
    refine AOps.live rfl rfl rfl rfl rfl ?_
    refine jst hσ rfl rfl rfl rfl rfl ?_
    refine AOps.live rfl rfl rfl rfl rfl ?_
    refine jst hσ rfl rfl rfl rfl rfl ?_
    refine AOps.step (Val.pickN hσ rfl rfl rfl rfl rfl) rfl rfl rfl ?_
    refine jf12 65 11 10 9 8 7 6 19 5 4 0 1 rfl rfl rfl rfl rfl rfl rfl rfl rfl rfl rfl rfl ?_
    refine jn ?_
    refine AWP.cond hσ rfl rfl (fun hc65 => ?_) (fun hc65 => ?_)
    ·
     skip
     exact absurd (show false = true from hc65) (by decide)
    ·
     skip
     refine AWP.skip ?_
     refine jsr ?_
     refine jst hσ rfl rfl rfl rfl rfl ?_
     refine jns ?_
     iterate 2 refine jst hσ rfl rfl rfl rfl rfl ?_
     refine jf14 67 66 12 11 10 9 8 7 6 19 5 4 0 1 rfl rfl rfl rfl rfl rfl rfl rfl rfl rfl rfl rfl rfl rfl ?_
     refine AOps.lone hσ rfl rfl rfl rfl (c1077n (k := 1) h1 h2) (.cons (.c .nils) (.cons (.c .d) .nil)) rfl rfl rfl rfl rfl (B0 := 69000) rfl ?_
     refine jst hσ rfl rfl rfl rfl rfl ?_
     refine jf12 12 11 10 9 8 7 6 19 5 4 0 1 rfl rfl rfl rfl rfl rfl rfl rfl rfl rfl rfl rfl ?_
     refine jns ?_
     refine jst hσ rfl rfl rfl rfl rfl ?_
     refine jns ?_
     iterate 2 refine jst hσ rfl rfl rfl rfl rfl ?_
     refine AOps.lone hσ rfl rfl rfl rfl ((c1078 (ts := ([] : List (List Nd))) (k := 1) h1 h2 (by decide) (by decide)).plain (u := eI 1) rfl) (.cons (.c .nils) (.cons (.c .d) .nil)) rfl rfl rfl rfl rfl (B0 := 72000) rfl ?_
     refine jst hσ rfl rfl rfl rfl rfl ?_
     refine AOps.forget [(13, _), (12, _), (11, _), (10, _), (9, _), (8, _), (7, _), (6, _), (19, _), (5, _), (4, _), (0, _), (1, _)] ⟨rfl, rfl, rfl, rfl, rfl, rfl, rfl, rfl, rfl, rfl, rfl, rfl, rfl, trivial⟩ ?_
     refine jn ?_
     refine AWP.seq ?_
     refine jsr ?_
     iterate 2 refine jst hσ rfl rfl rfl rfl rfl ?_
     refine jn ?_
     refine AWP.cond hσ rfl rfl (fun hc73 => ?_) (fun hc73 => ?_)
     ·
      skip
      exact absurd (of_decide_eq_true hc73) (by decide)
     ·
      skip
      refine AWP.skip ?_
      refine AWP.seq ?_
      refine jsr ?_
      iterate 3 refine jst hσ rfl rfl rfl rfl rfl ?_
      refine jf15 76 72 13 12 11 10 9 8 7 6 19 5 4 0 1 rfl rfl rfl rfl rfl rfl rfl rfl rfl rfl rfl rfl rfl rfl rfl ?_
      refine jn ?_
      refine AWP.cond hσ rfl rfl (fun hc76 => ?_) (fun hc76 => ?_)
      ·
       skip
       exact absurd hc76 (by simp)
      ·
       skip
       refine AWP.skip ?_
       refine jsr ?_
       refine jst hσ rfl rfl rfl rfl rfl ?_
       refine jf15 78 72 13 12 11 10 9 8 7 6 19 5 4 0 1 rfl rfl rfl rfl rfl rfl rfl rfl rfl rfl rfl rfl rfl rfl rfl ?_
       refine AOps.plainD hσ rfl rfl rfl rfl (c45d (ss := ss) h1 h2) (VAs.self rfl) rfl rfl rfl rfl (B0 := 80000) rfl rfl ?_
       refine jst hσ rfl rfl rfl rfl rfl ?_
       refine jf16 80 79 72 13 12 11 10 9 8 7 6 19 5 4 0 1 rfl rfl rfl rfl rfl rfl rfl rfl rfl rfl rfl rfl rfl rfl rfl rfl ?_
       refine AOps.rows hσ (B0 := 82000) rfl rfl rfl rfl (ci) (VAs.self rfl) rfl rfl rfl rfl rfl rfl ?_
       refine jnm ?_
       iterate 5 refine jst hσ rfl rfl rfl rfl rfl ?_
       refine jf16 15 14 72 13 12 11 10 9 8 7 6 19 5 4 0 1 rfl rfl rfl rfl rfl rfl rfl rfl rfl rfl rfl rfl rfl rfl rfl rfl ?_
       refine jn ?_
       refine AWP.seq ?_
       refine jsr ?_
       iterate 2 refine jst hσ rfl rfl rfl rfl rfl ?_
       refine AOps.forget [(85, _), (84, _), (15, _), (72, _), (13, _), (12, _), (11, _), (10, _), (9, _), (8, _), (7, _), (6, _), (19, _), (5, _), (4, _), (0, _), (1, _)] ⟨rfl, rfl, rfl, rfl, rfl, rfl, rfl, rfl, rfl, rfl, rfl, rfl, rfl, rfl, rfl, rfl, rfl, trivial⟩ ?_
       refine AOps.lone hσ rfl rfl rfl rfl ((c49 (xs := ([] : List (List Nd))) (ys := ([] : List (List Nd))) h1 h2).plain (u := eB true) (by simp)) (.cons (.c .nils) (.cons (.c .d) .nil)) rfl rfl rfl rfl rfl (B0 := 87000) rfl ?_
       iterate 2 refine jst hσ rfl rfl rfl rfl rfl ?_
       refine jf16 88 15 72 13 12 11 10 9 8 7 6 19 5 4 0 1 rfl rfl rfl rfl rfl rfl rfl rfl rfl rfl rfl rfl rfl rfl rfl rfl ?_
       refine AOps.live rfl rfl rfl rfl rfl ?_
       refine jst hσ rfl rfl rfl rfl rfl ?_
       refine jf16 89 88 72 13 12 11 10 9 8 7 6 19 5 4 0 1 rfl rfl rfl rfl rfl rfl rfl rfl rfl rfl rfl rfl rfl rfl rfl rfl ?_
       refine AOps.live rfl rfl rfl rfl rfl ?_
       refine jst hσ rfl rfl rfl rfl rfl ?_
       refine AOps.live rfl rfl rfl rfl rfl ?_
       refine jst hσ rfl rfl rfl rfl rfl ?_
       refine AOps.step (Val.pickN hσ rfl rfl rfl rfl rfl) rfl rfl rfl ?_
       refine jf15 92 72 13 12 11 10 9 8 7 6 19 5 4 0 1 rfl rfl rfl rfl rfl rfl rfl rfl rfl rfl rfl rfl rfl rfl rfl ?_
       refine jn ?_
       refine AWP.cond hσ rfl rfl (fun hc92 => ?_) (fun hc92 => ?_)
       ·
        skip
        exact absurd (show false = true from hc92) (by decide)
       ·
        skip
        refine AWP.skip ?_
        refine jsr ?_
        refine jst hσ rfl rfl rfl rfl rfl ?_
        refine jns ?_
        iterate 2 refine jst hσ rfl rfl rfl rfl rfl ?_
        refine jf16 94 93 13 72 12 11 10 9 8 7 6 19 5 4 0 1 rfl rfl rfl rfl rfl rfl rfl rfl rfl rfl rfl rfl rfl rfl rfl rfl ?_
        refine AOps.lone hσ rfl rfl rfl rfl ((c1078 (ts := ([] : List (List Nd))) (k := 1) h1 h2 (by decide) (by decide)).plain (u := eI 1) rfl) (.cons (.c .nils) (.cons (.c .d) .nil)) rfl rfl rfl rfl rfl (B0 := 96000) rfl ?_
        refine jst hσ rfl rfl rfl rfl rfl ?_
        refine jf14 13 72 12 11 10 9 8 7 6 19 5 4 0 1 rfl rfl rfl rfl rfl rfl rfl rfl rfl rfl rfl rfl rfl rfl ?_
        refine jn ?_
        refine AWP.seq ?_
        refine jsr ?_
        iterate 2 refine jst hσ rfl rfl rfl rfl rfl ?_
        refine jn ?_
        refine AWP.cond hσ rfl rfl (fun hc97 => ?_) (fun hc97 => ?_)
        ·
         skip
         exact absurd (of_decide_eq_true hc97) (by decide)
        ·
         skip
         refine AWP.skip ?_
         refine AWP.seq ?_
         refine jsr ?_
         iterate 3 refine jst hσ rfl rfl rfl rfl rfl ?_
         refine jf16 100 96 13 72 12 11 10 9 8 7 6 19 5 4 0 1 rfl rfl rfl rfl rfl rfl rfl rfl rfl rfl rfl rfl rfl rfl rfl rfl ?_
         refine jn ?_
         refine AWP.cond hσ rfl rfl (fun hc100 => ?_) (fun hc100 => ?_)
         ·
          skip
          exact absurd hc100 (by simp)
         ·
          skip
          refine AWP.skip ?_
          refine jsr ?_
          refine jst hσ rfl rfl rfl rfl rfl ?_
          refine jn ?_
          refine AWP.ret ?_
          refine ⟨.inl rfl, _, Ent.refl, _, rfl, ?_⟩
          rfl
theorem c1073a {L : Nat} (h1 : 4096 ≤ L) (h2 : L ≤ 9223372036854775807) {ss : List Sq} {b : Int} (hz : szr 1048576 (Al.szs Sq.size ss) < 0) : MC Tryz.prog L 3 [asqs ss, eI b] [] (Plain (eB true)) := by
 refine MC.alone ?_ rfl
 have hσ := SGok (nt := 101) h1 h2
 refine MC.body hσ Tryz.func3 (by kernel_rfl) rfl rfl (Nat.le_of_ble_eq_true rfl) (fun hF => ?_)
 refine jsr ?_
 refine jst hσ rfl rfl rfl rfl rfl ?_
 refine jns ?_
 refine jst hσ rfl rfl rfl rfl rfl ?_
 refine jns ?_
 iterate 2 refine jst hσ rfl rfl rfl rfl rfl ?_
 refine AOps.lone hσ rfl rfl rfl rfl (c42 (ts := ss) (left := 1048576) h1 h2 (by decide) (by decide)) (VAs.self rfl) rfl rfl rfl rfl rfl (B0 := 19000) rfl ?_
 refine jst hσ rfl rfl rfl rfl rfl ?_
 refine jf4 5 4 0 1 rfl rfl rfl rfl ?_
 refine jn ?_
 refine AWP.seq ?_
 refine jsr ?_
 iterate 2 refine jst hσ rfl rfl rfl rfl rfl ?_
 refine jn ?_
 refine AWP.cond hσ rfl rfl (fun hc20 => ?_) (fun hc20 => ?_)
 ·
  skip
  refine jsr ?_
  refine jst hσ rfl rfl rfl rfl rfl ?_
  refine jn ?_
  refine AWP.ret ?_
  refine ⟨.inl rfl, _, Ent.refl, _, rfl, ?_⟩
  rfl
 ·
  skip
  exact absurd (of_decide_eq_false hc20) (fun h => h hz)
theorem cnt_ndss {b : Int} : ∀ {ss : List Sq}, (∀ s ∈ ss, (prvS s b).2 = true) → cnt nP (ss.map fun s => (prvS s b).1) ≤ 2000 * ss.length
  | [], _ => by simp [cnt]
  | s :: ss, h => by
    have ih := cnt_ndss (b := b) (ss := ss) fun x hx => h x (by simp [hx])
    have hv := h s (by simp)
    obtain ⟨hq1, hq2⟩ := prv_T hv
    have hpe := prv_in (b := b) hq1 hq2
    obtain ⟨q1, q2⟩ := prov_nd (b := b) hq1 (by rw [← hpe]; exact hv)
    rw [← hpe] at q1 q2
    have hb := (budB_in hq2).2
    have hc := cnt_ndb q1 (by omega)
    simp only [cnt, List.map_cons, List.sum_cons, List.length_cons, nP] at ih hc ⊢
    omega
theorem allP_full {b : Int} : ∀ {ss : List Sq}, ¬ (allP b ss).length < ss.length → ∀ s ∈ ss, (provS s b).2 = true
  | [], _, s, hs => by cases hs
  | x :: ss, h, s, hs => by
    unfold allP at h
    split at h
    · rename_i h1
      rcases List.mem_cons.1 hs with rfl | hs
      · exact h1
      · exact allP_full (ss := ss) (by simpa using h) s hs
    · exact absurd (by simp) h
theorem cnt_sqs {ss : List Sq} : cnt nQ ss ≤ 2 * szs Sq.size ss := by
  induction ss with
  | nil => simp [cnt]
  | cons s ss ih =>
    have k1 := cnt_szs s.facts
    have e1 : s.size = szs Tm.size s.facts + s.goal.xs.length := rfl
    unfold szs at ih ⊢
    simp only [cnt, List.map_cons, List.sum_cons, List.length_cons, nQ] at ih ⊢
    have e2 : Sq.size s = s.size := rfl
    have k2 : cnt nT s.facts = (List.map nT s.facts).sum := rfl
    omega
/-- The law of ProveAll holds for all arguments. -/
theorem law1073 {L : Nat} (h1 : 4096 ≤ L) (h2 : L ≤ 9223372036854775807) {ss : List Sq} {b : Int} : MC Tryz.prog L 3 [asqs ss, eI b] [] (Plain (eB true)) := by
  by_cases hz1 : szr 1048576 (szs Sq.size ss) < 0
  · exact c1073a h1 h2 hz1
  have hz1' : 0 ≤ szr 1048576 (szs Sq.size ss) := by omega
  have g1 := szr_nonneg hz1' (by decide)
  have k1 := cnt_sqs (ss := ss)
  have hcp : 1 + cnt nQ ss ≤ (1073741824 : Int) := by omega
  refine MC.facts ⟨_, _, Tryz.func3, by kernel_rfl, rfl⟩ fun hF => ?_
  refine MC.lift (L0 := 1073741824) rfl ?_ ?_
  · exact ⟨fact_sqs' hF.1 (by omega), hF.2.1, trivial⟩
  · have cs := c1074 (L := 1073741824) (ss := ss) (b := b) (by decide) (Nat.le_refl _)
    cases hg : (sqsB ss && budB b) with
    | false =>
      rw [all_out hg] at cs
      exact c1073n (by decide) (Nat.le_refl _) cs (c1075n1 (by decide) (Nat.le_refl _) hg) hz1' hcp
    | true =>
      rw [Bool.and_eq_true] at hg
      rw [all_in hg.1 hg.2] at cs
      obtain ⟨hq3, hq4⟩ := sqs_all hg.1
      by_cases hn : (allP b ss).length < ss.length
      · rw [if_pos hn] at cs
        exact c1073n (by decide) (Nat.le_refl _) cs (c1075n2 (by decide) (Nat.le_refl _) hg.1 hg.2 hn) hz1' hcp
      · rw [if_neg hn] at cs
        have hp := allP_full hn
        have hv : ∀ s ∈ ss, (prvS s b).2 = true := fun s hs => by rw [prv_in (List.all_eq_true.1 hq3 s hs) hg.2]; exact hp s hs
        have he : allP b ss = ss.map fun s => (prvS s b).1 := by
          rw [allP_all hp]
          exact List.map_congr_left fun s hs => by rw [prv_in (List.all_eq_true.1 hq3 s hs) hg.2]
        rw [he] at cs
        have hc := cnt_ndss hv
        exact c1073v (r := ss.map fun s => (prvS s b).1) (by decide) (Nat.le_refl _) (List.length_map _).symm (by omega) cs (c1075v (by decide) (Nat.le_refl _) hg.1 hg.2 hv) hz1' hcp
end Go.Al
