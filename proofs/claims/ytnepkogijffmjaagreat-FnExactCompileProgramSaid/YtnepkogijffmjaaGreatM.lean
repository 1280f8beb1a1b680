/- The code of a statement; small functions. -/
import Derived.Test.YtnepkogijffmjaaGreatL
namespace Go.Al
open Go.Proofs
set_option linter.unusedVariables false
set_option linter.unusedSimpArgs false
set_option maxRecDepth 10000
/-! The code of a statement. -/
def tcE (xs : List Int) (i : Nat) : List In := if xs.getD i default = 0 then [] else ⟨1, i⟩ :: ((if xs.getD i default = 1 then [] else [⟨4, xs.getD i default⟩]) ++ [⟨3, 0⟩])
def tcI (c : Int) (xs : List Int) : Nat → List In
  | 0 => [⟨0, c⟩]
  | i + 1 => tcI c xs i ++ tcE xs i
def tcode (t : Tm) : List In := tcI t.c t.xs t.xs.length
theorem tcE_len {xs : List Int} {i : Nat} : (tcE xs i).length ≤ 3 := by
  unfold tcE; split
  · simp
  · split <;> simp
theorem tcI_len {c : Int} {xs : List Int} : ∀ {i : Nat}, (tcI c xs i).length ≤ 1 + 3 * i
  | 0 => by simp [tcI]
  | i + 1 => by
    have h1 := tcI_len (c := c) (xs := xs) (i := i)
    have h2 := tcE_len (xs := xs) (i := i)
    rw [tcI, List.length_append]; omega
theorem tcI_0 {c : Int} {xs : List Int} {i : Nat} (h : xs.getD i default = 0) : tcI c xs (i + 1) = tcI c xs i := by rw [tcI, tcE, if_pos h, List.append_nil]
theorem tcI_1 {c : Int} {xs : List Int} {i : Nat} (h : ¬ xs.getD i default = 0) (h1 : xs.getD i default = 1) : tcI c xs (i + 1) = tcI c xs i ++ [⟨1, i⟩] ++ [⟨3, 0⟩] := by rw [tcI, tcE, if_neg h, if_pos h1]; simp
theorem tcI_n {c : Int} {xs : List Int} {i : Nat} (h : ¬ xs.getD i default = 0) (h1 : ¬ xs.getD i default = 1) : tcI c xs (i + 1) = tcI c xs i ++ [⟨1, i⟩] ++ [⟨4, xs.getD i default⟩] ++ [⟨3, 0⟩] := by rw [tcI, tcE, if_neg h, if_neg h1]; simp
theorem tcode_len {t : Tm} (h : t.term = true) : (tcode t).length ≤ 13 := by
  have h1 := tcI_len (c := t.c) (xs := t.xs) (i := t.xs.length)
  have h2 : t.xs.length ≤ 4 := by
    unfold Tm.term at h
    simp only [Bool.and_eq_true, decide_eq_true_eq] at h; omega
  unfold tcode; omega
structure Cs where
  code : List In
  pts : List Pt
  fr : List Int
  to : List Int
def Cs.emit (op a : Int) (c : Cs) : Cs := ⟨c.code ++ [⟨op, a⟩], c.pts, c.fr, c.to⟩
def Cs.term (t : Tm) (c : Cs) : Cs := ⟨c.code ++ tcode t, c.pts, c.fr, c.to⟩
def Cs.arg (k : Nat) (c : Cs) : Cs := ⟨c.code.set k ⟨(c.code.getD k default).op, c.code.length⟩, c.pts, c.fr, c.to⟩
def Cs.point (k : Nat) (fs : List Tm) (c : Cs) : Cs := ⟨c.code, c.pts ++ [⟨k, fs⟩], c.fr, c.to⟩
def Cs.beg (a : Int) (c : Cs) : Cs := ⟨c.code, c.pts, c.fr.set a.toNat c.code.length, c.to⟩
def Cs.fin (a : Int) (c : Cs) : Cs := ⟨c.code, c.pts, c.fr, c.to.set a.toNat c.code.length⟩
def leafC (s : Sm) (c : Cs) : Cs :=
  if s.kind = 2 then (c.term s.sum).emit 2 s.var
  else if s.kind = 3 then ((c.term s.index).emit 7 0).emit 2 s.var
  else if s.kind = 4 then ((c.term s.index).term s.sum).emit 8 0
  else if s.kind = 5 then c.emit 9 s.event
  else if s.kind = 6 then (c.term s.sum).emit 10 0
  else c
def ifC (s : Sm) (f g : Cs → Cs) (c : Cs) : Cs := (g ((((f ((c.term s.sum).emit 6 0)).emit 5 0)).arg (c.term s.sum).code.length)).arg (f ((c.term s.sum).emit 6 0)).code.length
def whC (s : Sm) (f : Cs → Cs) (c : Cs) : Cs := ((f (((c.point c.code.length s.facts).term s.sum).emit 6 0)).emit 5 c.code.length).arg (c.term s.sum).code.length
def cmp : Tr → Cs → Cs
  | .node s a [x, y], c => if s.kind = 1 then (cmp y (cmp x (c.beg a))).fin a else (ifC s (cmp x) (cmp y) (c.beg a)).fin a
  | .node s a [x], c => (whC s (cmp x) (c.beg a)).fin a
  | .node s a _, c => (leafC s (c.beg a)).fin a
theorem cmp_nil {s : Sm} {a : Int} {c : Cs} : cmp (.node s a []) c = (leafC s (c.beg a)).fin a := by rw [cmp] <;> simp
theorem cmp_one {s : Sm} {a : Int} {x : Tr} {c : Cs} : cmp (.node s a [x]) c = (whC s (cmp x) (c.beg a)).fin a := by rw [cmp]
theorem cmp_two {s : Sm} {a : Int} {x y : Tr} {c : Cs} : cmp (.node s a [x, y]) c = if s.kind = 1 then (cmp y (cmp x (c.beg a))).fin a else (ifC s (cmp x) (cmp y) (c.beg a)).fin a := by rw [cmp]
mutual
/-- Each element has a place of its own, and behind it the statements that it needs. -/
def Tr.cok (n : Nat) : Tr → Prop
  | .node s a ks => (0 ≤ a ∧ a < n) ∧ (s.sum.term = true ∧ s.index.term = true) ∧ (stmtB s = true ∧ (ks.length : Int) = below s.kind) ∧ Trs.cok n ks
def Trs.cok (n : Nat) : List Tr → Prop
  | [] => True
  | t :: r => t.cok n ∧ Trs.cok n r
end
mutual
def Tr.nodes : Tr → Nat
  | .node _ _ ks => 1 + Trs.nodes ks
def Trs.nodes : List Tr → Nat
  | [] => 0
  | t :: r => t.nodes + Trs.nodes r
end
/-- What grows, and by how much. -/
structure CsLe (m : Nat) (c d : Cs) : Prop where
  code : d.code.length ≤ c.code.length + 30 * m
  pts : d.pts.length ≤ c.pts.length + m
  fr : d.fr.length = c.fr.length
  to : d.to.length = c.to.length
  ge : c.code.length ≤ d.code.length
theorem CsLe.trans {m k : Nat} {c d e : Cs} (h : CsLe m c d) (g : CsLe k d e) : CsLe (m + k) c e :=
  ⟨by have := h.code; have := g.code; omega, by have := h.pts; have := g.pts; omega, g.fr.trans h.fr, g.to.trans h.to, Nat.le_trans h.ge g.ge⟩
theorem le_leaf {s : Sm} {a : Int} {c : Cs} (h : s.sum.term = true ∧ s.index.term = true) : CsLe 1 c ((leafC s (c.beg a)).fin a) := by
  have h1 := tcode_len h.1
  have h2 := tcode_len h.2
  unfold leafC
  split
  · refine ⟨?_, ?_, ?_, ?_, ?_⟩ <;> simp only [Cs.fin, Cs.emit, Cs.term, Cs.beg, List.length_append, List.length_singleton, List.length_set] <;> omega
  · split
    · refine ⟨?_, ?_, ?_, ?_, ?_⟩ <;> simp only [Cs.fin, Cs.emit, Cs.term, Cs.beg, List.length_append, List.length_singleton, List.length_set] <;> omega
    · split
      · refine ⟨?_, ?_, ?_, ?_, ?_⟩ <;> simp only [Cs.fin, Cs.emit, Cs.term, Cs.beg, List.length_append, List.length_singleton, List.length_set] <;> omega
      · split
        · refine ⟨?_, ?_, ?_, ?_, ?_⟩ <;> simp only [Cs.fin, Cs.emit, Cs.term, Cs.beg, List.length_append, List.length_singleton, List.length_set] <;> omega
        · split
          · refine ⟨?_, ?_, ?_, ?_, ?_⟩ <;> simp only [Cs.fin, Cs.emit, Cs.term, Cs.beg, List.length_append, List.length_singleton, List.length_set] <;> omega
          · refine ⟨?_, ?_, ?_, ?_, ?_⟩ <;> simp only [Cs.fin, Cs.emit, Cs.term, Cs.beg, List.length_append, List.length_singleton, List.length_set] <;> omega
theorem le_cmp {n : Nat} : ∀ {t : Tr}, t.cok n → ∀ {c : Cs}, CsLe t.nodes c (cmp t c)
  | .node s a [x, y], ht, c => by
    have hx : ∀ c, CsLe x.nodes c (cmp x c) := fun c => le_cmp ht.2.2.2.1
    have hy : ∀ c, CsLe y.nodes c (cmp y c) := fun c => le_cmp ht.2.2.2.2.1
    have h1 := tcode_len ht.2.1.1
    rw [show (Tr.node s a [x, y]).nodes = 1 + (x.nodes + y.nodes) by simp [Tr.nodes, Trs.nodes], cmp_two]
    split
    · have g := (hx (c.beg a)).trans (hy _)
      have e1 := g.code; have e2 := g.pts; have e3 := g.fr; have e4 := g.to; have e5 := g.ge
      refine ⟨?_, ?_, ?_, ?_, ?_⟩ <;> simp only [Cs.fin, Cs.beg, List.length_set] at * <;> omega
    · have g := hx (((c.beg a).term s.sum).emit 6 0)
      have e1 := g.code; have e2 := g.pts; have e3 := g.fr; have e4 := g.to; have e5 := g.ge
      have g2 := hy ((((cmp x (((c.beg a).term s.sum).emit 6 0)).emit 5 0)).arg ((c.beg a).term s.sum).code.length)
      have f1 := g2.code; have f2 := g2.pts; have f3 := g2.fr; have f4 := g2.to; have f5 := g2.ge
      refine ⟨?_, ?_, ?_, ?_, ?_⟩ <;> simp only [ifC, Cs.fin, Cs.beg, Cs.arg, Cs.emit, Cs.term, List.length_set, List.length_append, List.length_singleton] at * <;> omega
  | .node s a [x], ht, c => by
    have hx : ∀ c, CsLe x.nodes c (cmp x c) := fun c => le_cmp ht.2.2.2.1
    have h1 := tcode_len ht.2.1.1
    rw [show (Tr.node s a [x]).nodes = 1 + x.nodes by simp [Tr.nodes, Trs.nodes], cmp_one]
    have g := hx ((((c.beg a).point (c.beg a).code.length s.facts).term s.sum).emit 6 0)
    have e1 := g.code; have e2 := g.pts; have e3 := g.fr; have e4 := g.to; have e5 := g.ge
    refine ⟨?_, ?_, ?_, ?_, ?_⟩ <;> simp only [whC, Cs.fin, Cs.beg, Cs.arg, Cs.emit, Cs.term, Cs.point, List.length_set, List.length_append, List.length_singleton] at * <;> omega
  | .node s a [], ht, c => by
    rw [cmp_nil]
    exact le_leaf ht.2.1
  | .node s a (x :: y :: z :: ks), ht, c => by
    have h1 : ((x :: y :: z :: ks).length : Int) = below s.kind := ht.2.2.1.2
    have h2 := (below_le s.kind).2
    simp only [List.length_cons] at h1
    omega
/-! What the tree of a body is like. -/
theorem iter_cok {n : Nat} {f : Nat → Option (Tr × Nat)} (hf : ∀ k t k', f k = some (t, k') → k < k' ∧ t.cok n ∧ t.nodes = k' - k) : ∀ {q k ts k'}, iterT f q k = some (ts, k') → Trs.cok n ts ∧ k ≤ k' ∧ Trs.nodes ts = k' - k
  | 0, k, ts, k', h => by
    simp only [iterT, Option.some.injEq, Prod.mk.injEq] at h
    obtain ⟨rfl, rfl⟩ := h
    exact ⟨trivial, Nat.le_refl _, by simp [Trs.nodes]⟩
  | q + 1, k, ts, k', h => by
    unfold iterT at h
    cases hx : f k with
    | none => rw [hx] at h; cases h
    | some x =>
      obtain ⟨t, k1⟩ := x
      rw [hx] at h
      simp only [Option.map_eq_some_iff] at h
      obtain ⟨⟨ts1, k2⟩, h1, h2⟩ := h
      simp only [Prod.mk.injEq] at h2
      obtain ⟨rfl, rfl⟩ := h2
      have h3 := hf k t k1 hx
      have h4 := iter_cok hf h1
      exact ⟨⟨h3.2.1, h4.1⟩, by omega, by simp only [Trs.nodes]; omega⟩
theorem tree_cok {body : List Sm} : ∀ {m k : Nat} {t : Tr} {k' : Nat}, treeF m body k = some (t, k') → k < k' ∧ t.cok body.length ∧ t.nodes = k' - k
  | 0, _, _, _, h => by cases h
  | m + 1, k, t, k', h => by
    have hlt := treeF_le h
    unfold treeF at h
    split at h
    · cases h
    · split at h
      · cases h
      · rename_i h1 h2
        simp only [Option.map_eq_some_iff] at h
        obtain ⟨⟨ts, k2⟩, h3, h4⟩ := h
        simp only [Prod.mk.injEq] at h4
        obtain ⟨rfl, rfl⟩ := h4
        have h5 := iter_cok (fun k t k' h => tree_cok h) h3
        have h8 := (iterT_ok (fun k t k' h => treeF_ok h) h3).1
        have hs : stmtB (body.getD k default) = true := by
          cases hb : stmtB (body.getD k default) with
          | true => rfl
          | false => unfold kidsF at h2; rw [hb] at h2; exact absurd (by rw [if_neg (by decide)]; decide) h2
        refine ⟨by omega, ⟨by omega, stmt_facts hs, ⟨hs, ?_⟩, h5.1⟩, by simp only [Tr.nodes]; omega⟩
        rw [h8]
        unfold kidsF
        rw [if_pos hs]
        have := (below_le (body.getD k default).kind).1
        omega
end Go.Al
namespace Go.Al
open Go.Proofs
set_option linter.unusedVariables false
set_option linter.unusedSimpArgs false
set_option maxRecDepth 10000
set_option maxHeartbeats 4000000
theorem c1104 {L : Nat} (h1 : 4096 ≤ L) (h2 : L ≤ 1073741824) {t : Tm} (ht : t.xs.length ≤ 4) : MC Tryz.prog L 116 [aTm' t] [] (Rows (.c (.rs 0 0 (tcode t).length)) [irow (tcode t)]) := by
 refine MC.rows ?_
 have hσ := SGok (nt := 38) h1 (Nat.le_trans h2 (by decide))
 refine MC.body hσ Tryz.func116 (by kernel_rfl) rfl rfl (Nat.le_of_ble_eq_true rfl) (fun hF => ?_)
 refine jsr ?_
 refine AOps.heap (HS.box hσ rfl rfl rfl rfl rfl rfl rfl) rfl ?_
 refine jnm ?_
 refine AOps.to (Ent.freeze 1 (e' := [(1, _), (0, _)]) rfl (.cons rfl (.c (.box (cs := Tm.cells t) rfl (VMs.self rfl))) (.cons rfl (.keep rfl) .nil)) (.skip .nil)) ?_
 refine jnm ?_
 refine jst hσ rfl rfl rfl rfl rfl ?_
 refine jns ?_
 iterate 3 refine jst hσ rfl rfl rfl rfl rfl ?_
 refine jf [8, 2, 1, 0] rfl ?_
 refine AOps.heap (HS.lit hσ rfl rfl rfl) rfl ?_
 refine jnm ?_
 refine jst hσ rfl rfl rfl rfl rfl ?_
 refine jf [3, 2, 1, 0] rfl ?_
 refine jn ?_
 refine AWP.seq ?_
 refine jsr ?_
 iterate 2 refine jst hσ rfl rfl rfl rfl rfl ?_
 first | refine jle hσ rfl rfl rfl rfl rfl rfl rfl rfl rfl rfl rfl ?_ | refine jst hσ rfl rfl rfl rfl rfl ?_ | refine jvf hσ rfl rfl rfl rfl rfl ?_
 refine jst hσ rfl rfl rfl rfl rfl ?_
 refine jn ?_
 refine AWP.block ?_
 refine AWP.loopP (X := Nat) (fun i => ⟨[(3, .c (.rs 900 0 (tcI t.c t.xs i).length)), (11, aints t.xs), (12, eI t.xs.length), (13, eI i)], [(900, irow (tcI t.c t.xs i))]⟩) (fun i => i ≤ t.xs.length) (fun i => t.xs.length - i) 0 ((Ent.sub2 9 900 rfl rfl).trans (Ent.to ⟨rfl, rfl, rfl, rfl, trivial⟩ rfl)) ?_ (fun i hi => ?_)
 ·
  exact Nat.zero_le _
 refine jsr ?_
 refine jst hσ rfl rfl rfl rfl rfl ?_
 refine jn ?_
 refine AWP.seq ?_
 refine AWP.cond hσ rfl rfl (fun hc14 => ?_) (fun hc14 => ?_)
 ·
  skip
  refine AWP.skip ?_
  refine AWP.seq ?_
  refine AWP.block ?_
  refine jsr ?_
  refine jst hσ rfl rfl rfl rfl rfl ?_
  have hil2 : i < t.xs.length := by have := of_decide_eq_true hc14; omega
  refine jin hσ rfl rfl rfl rfl rfl rfl rfl rfl rfl rfl rfl ?_
  iterate 3 refine jst hσ rfl rfl rfl rfl rfl ?_
  refine jf [5, 4, 14, 3, 11, 12, 13] rfl ?_
  refine jn ?_
  refine AWP.seq ?_
  refine jsr ?_
  iterate 2 refine jst hσ rfl rfl rfl rfl rfl ?_
  refine jn ?_
  refine AWP.cond hσ rfl rfl (fun hc19 => ?_) (fun hc19 => ?_)
  ·
   skip
   refine AWP.exit ?_
   refine AWP.region ?_
   first | refine jfi hσ rfl rfl rfl rfl rfl ?_ | refine jvf hσ rfl rfl rfl rfl rfl ?_
   refine jst hσ rfl rfl rfl rfl rfl ?_
   refine jn ?_
   have h9 : tcI t.c t.xs (i + 1) = tcI t.c t.xs i := tcI_0 (of_decide_eq_true hc19)
   rw [← h9]
   refine ⟨i + 1, (Ent.sel [900] (e' := [(3, _), (11, _), (12, _), (13, _)]) rfl rfl ⟨rfl, rfl, rfl, rfl, trivial⟩ rfl).trans (Ent.to ⟨rfl, rfl, rfl, rfl, trivial⟩ rfl), by omega, by omega⟩
  ·
   skip
   refine AWP.skip ?_
   refine jsr ?_
   iterate 3 refine jst hσ rfl rfl rfl rfl rfl ?_
   refine jf [22, 20, 19, 18, 5, 14, 3, 11, 12, 13] rfl ?_
   refine AOps.heap (HS.lit hσ rfl rfl rfl) rfl ?_
   refine jnm ?_
   refine jf [23, 20, 19, 18, 5, 14, 3, 11, 12, 13] rfl ?_
   have hx0 : ¬ (t.xs.getD i default) = 0 := of_decide_eq_false hc19
   have hil := tcI_len (c := t.c) (xs := t.xs) (i := i)
   refine AOps.heap (HS.appMove (zs := ((tcI t.c t.xs i) ++ [(⟨1, (i : Nat)⟩ : In)]).map In.cells) (n := ((tcI t.c t.xs i) ++ [(⟨1, (i : Nat)⟩ : In)]).length) hσ rfl rfl rfl rfl rfl rfl rfl rfl rfl rfl rfl rfl rfl rfl rfl rfl (.row rfl (List.length_map _).symm) rfl rfl (by decide) rfl (by simp; omega) (by simp; omega) (by simp) (by simp)) rfl ?_
   refine jnm ?_
   refine jnm ?_
   refine jst hσ rfl rfl rfl rfl rfl ?_
   refine jf [3, 19, 18, 5, 14, 11, 12, 13] rfl ?_
   refine jn ?_
   refine AWP.seq ?_
   refine jsr ?_
   iterate 2 refine jst hσ rfl rfl rfl rfl rfl ?_
   refine jn ?_
   refine AWP.cond hσ rfl rfl (fun hc26 => ?_) (fun hc26 => ?_)
   ·
    skip
    refine AWP.region ?_
    iterate 3 refine jst hσ rfl rfl rfl rfl rfl ?_
    refine jf [29, 27, 26, 25, 3, 19, 18, 5, 14, 11, 12, 13] rfl ?_
    refine AOps.heap (HS.lit hσ rfl rfl rfl) rfl ?_
    refine jnm ?_
    refine jf [30, 27, 26, 25, 3, 19, 18, 5, 14, 11, 12, 13] rfl ?_
    refine AOps.heap (HS.appMove (zs := ((tcI t.c t.xs i) ++ [(⟨1, (i : Nat)⟩ : In)] ++ [(⟨4, (t.xs.getD i default)⟩ : In)]).map In.cells) (n := ((tcI t.c t.xs i) ++ [(⟨1, (i : Nat)⟩ : In)] ++ [(⟨4, (t.xs.getD i default)⟩ : In)]).length) hσ rfl rfl rfl rfl rfl rfl rfl rfl rfl rfl rfl rfl rfl rfl rfl rfl (.row rfl (List.length_map _).symm) rfl rfl (by decide) rfl (by simp; omega) (by simp; omega) (by simp) (by simp)) rfl ?_
    refine jnm ?_
    refine jnm ?_
    refine jst hσ rfl rfl rfl rfl rfl ?_
    refine jf [3, 26, 25, 19, 18, 5, 14, 11, 12, 13] rfl ?_
    refine jn ?_
    refine AWP.region ?_
    iterate 2 refine jst hσ rfl rfl rfl rfl rfl ?_
    refine AOps.heap (HS.lit hσ rfl rfl rfl) rfl ?_
    refine jnm ?_
    refine jf [34, 32, 3, 26, 25, 19, 18, 5, 14, 11, 12, 13] rfl ?_
    first | have hz := tcI_n (c := t.c) hx0 (by simpa using hc26) | have hz := tcI_1 (c := t.c) hx0 (by simpa using hc26)
    refine AOps.heap (HS.appMove (zs := (tcI t.c t.xs (i + 1)).map In.cells) (n := (tcI t.c t.xs (i + 1)).length) hσ rfl rfl rfl rfl rfl rfl rfl rfl rfl rfl rfl rfl rfl rfl rfl rfl (.row rfl (List.length_map _).symm) rfl rfl (by decide) rfl (by simp; omega) (by simp; omega) (by rw [hz]; simp) (by simp)) rfl ?_
    refine jnm ?_
    refine jnm ?_
    refine jst hσ rfl rfl rfl rfl rfl ?_
    refine jf [3, 26, 25, 19, 18, 5, 14, 11, 12, 13] rfl ?_
    refine jn ?_
    refine AWP.region ?_
    first | refine jfi hσ rfl rfl rfl rfl rfl ?_ | refine jvf hσ rfl rfl rfl rfl rfl ?_
    refine jst hσ rfl rfl rfl rfl rfl ?_
    refine jn ?_
    refine ⟨i + 1, ((Ent.sel [35] (e' := [(3, _), (11, _), (12, _), (13, _)]) rfl rfl ⟨rfl, rfl, rfl, rfl, trivial⟩ rfl).trans (Ent.sub2 35 900 rfl rfl)).trans (Ent.to ⟨rfl, rfl, rfl, rfl, trivial⟩ rfl), by omega, by omega⟩
   ·
    skip
    refine AWP.skip ?_
    refine AWP.region ?_
    iterate 2 refine jst hσ rfl rfl rfl rfl rfl ?_
    refine AOps.heap (HS.lit hσ rfl rfl rfl) rfl ?_
    refine jnm ?_
    refine jf [34, 32, 26, 25, 3, 19, 18, 5, 14, 11, 12, 13] rfl ?_
    first | have hz := tcI_n (c := t.c) hx0 (by simpa using hc26) | have hz := tcI_1 (c := t.c) hx0 (by simpa using hc26)
    refine AOps.heap (HS.appMove (zs := (tcI t.c t.xs (i + 1)).map In.cells) (n := (tcI t.c t.xs (i + 1)).length) hσ rfl rfl rfl rfl rfl rfl rfl rfl rfl rfl rfl rfl rfl rfl rfl rfl (.row rfl (List.length_map _).symm) rfl rfl (by decide) rfl (by simp; omega) (by simp; omega) (by rw [hz]; simp) (by simp)) rfl ?_
    refine jnm ?_
    refine jnm ?_
    refine jst hσ rfl rfl rfl rfl rfl ?_
    refine jf [3, 26, 25, 19, 18, 5, 14, 11, 12, 13] rfl ?_
    refine jn ?_
    refine AWP.region ?_
    first | refine jfi hσ rfl rfl rfl rfl rfl ?_ | refine jvf hσ rfl rfl rfl rfl rfl ?_
    refine jst hσ rfl rfl rfl rfl rfl ?_
    refine jn ?_
    refine ⟨i + 1, ((Ent.sel [35] (e' := [(3, _), (11, _), (12, _), (13, _)]) rfl rfl ⟨rfl, rfl, rfl, rfl, trivial⟩ rfl).trans (Ent.sub2 35 900 rfl rfl)).trans (Ent.to ⟨rfl, rfl, rfl, rfl, trivial⟩ rfl), by omega, by omega⟩
 ·
  skip
  refine AWP.exit ?_
  refine jsr ?_
  iterate 2 refine jst hσ rfl rfl rfl rfl rfl ?_
  refine jn ?_
  refine AWP.ret ?_
  obtain rfl : i = t.xs.length := by have := of_decide_eq_false hc14; omega
  refine ⟨.inl rfl, _, Ent.refl, _, rfl, [900], by decide, rfl, rfl, rfl⟩
theorem c1107 {L : Nat} (h1 : 4096 ≤ L) (h2 : L ≤ 1073741824) {t : Tm} (ht : t.xs.length ≤ 4) : MC Tryz.prog L 127 [ptr (Tm.cells t)] [] (Rows (.c (.rs 0 0 (tcode t).length)) [irow (tcode t)]) := by
 refine MC.rows ?_
 have hσ := SGok (nt := 47) h1 (Nat.le_trans h2 (by decide))
 refine MC.body hσ Tryz.func127 (by kernel_rfl) rfl rfl (Nat.le_of_ble_eq_true rfl) (fun hF => ?_)
 refine jsr ?_
 refine jst hσ rfl rfl rfl rfl rfl ?_
 refine jns ?_
 iterate 5 refine jst hσ rfl rfl rfl rfl rfl ?_
 refine jf [10, 2, 0] rfl ?_
 refine AOps.heap (HS.lit hσ rfl rfl rfl) rfl ?_
 refine jnm ?_
 refine jst hσ rfl rfl rfl rfl rfl ?_
 refine jf [3, 2, 0] rfl ?_
 refine jn ?_
 refine AWP.seq ?_
 refine jsr ?_
 refine jst hσ rfl rfl rfl rfl rfl ?_
 refine jn ?_
 refine AWP.block ?_
 refine AWP.loopP (X := Nat) (fun i => ⟨[(3, .c (.rs 900 0 (tcI t.c t.xs i).length)), (0, ptr (Tm.cells t)), (4, eI i)], [(900, irow (tcI t.c t.xs i))]⟩) (fun i => i ≤ t.xs.length) (fun i => t.xs.length - i) 0 ((Ent.sub2 11 900 rfl rfl).trans (Ent.to ⟨rfl, rfl, rfl, trivial⟩ rfl)) ?_ (fun i hi => ?_)
 ·
  exact Nat.zero_le _
 refine AWP.seq ?_
 refine jsr ?_
 iterate 5 refine jst hσ rfl rfl rfl rfl rfl ?_
 first | refine jle hσ rfl rfl rfl rfl rfl rfl rfl rfl rfl rfl rfl ?_ | refine jst hσ rfl rfl rfl rfl rfl ?_ | refine jvf hσ rfl rfl rfl rfl rfl ?_
 refine jst hσ rfl rfl rfl rfl rfl ?_
 refine jf [18, 3, 0, 4] rfl ?_
 refine jn ?_
 refine AWP.cond hσ rfl rfl (fun hc18 => ?_) (fun hc18 => ?_)
 ·
  skip
  refine AWP.skip ?_
  refine AWP.seq ?_
  refine AWP.block ?_
  refine jsr ?_
  iterate 5 refine jst hσ rfl rfl rfl rfl rfl ?_
  have hil2 : i < t.xs.length := by have := of_decide_eq_true hc18; omega
  refine jin hσ rfl rfl rfl rfl rfl rfl rfl rfl rfl rfl rfl ?_
  iterate 2 refine jst hσ rfl rfl rfl rfl rfl ?_
  refine jf [5, 18, 3, 0, 4] rfl ?_
  refine jn ?_
  refine AWP.seq ?_
  refine jsr ?_
  iterate 2 refine jst hσ rfl rfl rfl rfl rfl ?_
  refine jn ?_
  refine AWP.cond hσ rfl rfl (fun hc29 => ?_) (fun hc29 => ?_)
  ·
   skip
   refine AWP.exit ?_
   refine AWP.region ?_
   refine jst hσ rfl rfl rfl rfl rfl ?_
   first | refine jfi hσ rfl rfl rfl rfl rfl ?_ | refine jvf hσ rfl rfl rfl rfl rfl ?_
   refine jst hσ rfl rfl rfl rfl rfl ?_
   refine jf [4, 29, 28, 5, 18, 3, 0] rfl ?_
   refine jn ?_
   have h9 : tcI t.c t.xs (i + 1) = tcI t.c t.xs i := tcI_0 (of_decide_eq_true hc29)
   rw [← h9]
   refine ⟨i + 1, (Ent.sel [900] (e' := [(3, _), (0, _), (4, _)]) rfl rfl ⟨rfl, rfl, rfl, trivial⟩ rfl).trans (Ent.to ⟨rfl, rfl, rfl, trivial⟩ rfl), by omega, by omega⟩
  ·
   skip
   refine AWP.skip ?_
   refine jsr ?_
   iterate 3 refine jst hσ rfl rfl rfl rfl rfl ?_
   refine jf [32, 30, 29, 28, 5, 18, 3, 0, 4] rfl ?_
   refine AOps.heap (HS.lit hσ rfl rfl rfl) rfl ?_
   refine jnm ?_
   refine jf [33, 30, 29, 28, 5, 18, 3, 0, 4] rfl ?_
   have hx0 : ¬ (t.xs.getD i default) = 0 := of_decide_eq_false hc29
   have hil := tcI_len (c := t.c) (xs := t.xs) (i := i)
   refine AOps.heap (HS.appMove (zs := ((tcI t.c t.xs i) ++ [(⟨1, (i : Nat)⟩ : In)]).map In.cells) (n := ((tcI t.c t.xs i) ++ [(⟨1, (i : Nat)⟩ : In)]).length) hσ rfl rfl rfl rfl rfl rfl rfl rfl rfl rfl rfl rfl rfl rfl rfl rfl (.row rfl (List.length_map _).symm) rfl rfl (by decide) rfl (by simp; omega) (by simp; omega) (by simp) (by simp)) rfl ?_
   refine jnm ?_
   refine jnm ?_
   refine jst hσ rfl rfl rfl rfl rfl ?_
   refine jf [3, 29, 28, 5, 18, 0, 4] rfl ?_
   refine jn ?_
   refine AWP.seq ?_
   refine jsr ?_
   iterate 2 refine jst hσ rfl rfl rfl rfl rfl ?_
   refine jn ?_
   refine AWP.cond hσ rfl rfl (fun hc36 => ?_) (fun hc36 => ?_)
   ·
    skip
    refine AWP.region ?_
    iterate 3 refine jst hσ rfl rfl rfl rfl rfl ?_
    refine jf [39, 37, 36, 35, 3, 29, 28, 5, 18, 0, 4] rfl ?_
    refine AOps.heap (HS.lit hσ rfl rfl rfl) rfl ?_
    refine jnm ?_
    refine jf [40, 37, 36, 35, 3, 29, 28, 5, 18, 0, 4] rfl ?_
    refine AOps.heap (HS.appMove (zs := ((tcI t.c t.xs i) ++ [(⟨1, (i : Nat)⟩ : In)] ++ [(⟨4, (t.xs.getD i default)⟩ : In)]).map In.cells) (n := ((tcI t.c t.xs i) ++ [(⟨1, (i : Nat)⟩ : In)] ++ [(⟨4, (t.xs.getD i default)⟩ : In)]).length) hσ rfl rfl rfl rfl rfl rfl rfl rfl rfl rfl rfl rfl rfl rfl rfl rfl (.row rfl (List.length_map _).symm) rfl rfl (by decide) rfl (by simp; omega) (by simp; omega) (by simp) (by simp)) rfl ?_
    refine jnm ?_
    refine jnm ?_
    refine jst hσ rfl rfl rfl rfl rfl ?_
    refine jf [3, 36, 35, 29, 28, 5, 18, 0, 4] rfl ?_
    refine jn ?_
    refine AWP.region ?_
    iterate 2 refine jst hσ rfl rfl rfl rfl rfl ?_
    refine AOps.heap (HS.lit hσ rfl rfl rfl) rfl ?_
    refine jnm ?_
    refine jf [44, 42, 3, 36, 35, 29, 28, 5, 18, 0, 4] rfl ?_
    first | have hz := tcI_n (c := t.c) hx0 (by simpa using hc36) | have hz := tcI_1 (c := t.c) hx0 (by simpa using hc36)
    refine AOps.heap (HS.appMove (zs := (tcI t.c t.xs (i + 1)).map In.cells) (n := (tcI t.c t.xs (i + 1)).length) hσ rfl rfl rfl rfl rfl rfl rfl rfl rfl rfl rfl rfl rfl rfl rfl rfl (.row rfl (List.length_map _).symm) rfl rfl (by decide) rfl (by simp; omega) (by simp; omega) (by rw [hz]; simp) (by simp)) rfl ?_
    refine jnm ?_
    refine jnm ?_
    refine jst hσ rfl rfl rfl rfl rfl ?_
    refine jf [3, 36, 35, 29, 28, 5, 18, 0, 4] rfl ?_
    refine jn ?_
    refine AWP.region ?_
    refine jst hσ rfl rfl rfl rfl rfl ?_
    first | refine jfi hσ rfl rfl rfl rfl rfl ?_ | refine jvf hσ rfl rfl rfl rfl rfl ?_
    refine jst hσ rfl rfl rfl rfl rfl ?_
    refine jf [4, 3, 36, 35, 29, 28, 5, 18, 0] rfl ?_
    refine jn ?_
    refine ⟨i + 1, ((Ent.sel [45] (e' := [(3, _), (0, _), (4, _)]) rfl rfl ⟨rfl, rfl, rfl, trivial⟩ rfl).trans (Ent.sub2 45 900 rfl rfl)).trans (Ent.to ⟨rfl, rfl, rfl, trivial⟩ rfl), by omega, by omega⟩
   ·
    skip
    refine AWP.skip ?_
    refine AWP.region ?_
    iterate 2 refine jst hσ rfl rfl rfl rfl rfl ?_
    refine AOps.heap (HS.lit hσ rfl rfl rfl) rfl ?_
    refine jnm ?_
    refine jf [44, 42, 36, 35, 3, 29, 28, 5, 18, 0, 4] rfl ?_
    first | have hz := tcI_n (c := t.c) hx0 (by simpa using hc36) | have hz := tcI_1 (c := t.c) hx0 (by simpa using hc36)
    refine AOps.heap (HS.appMove (zs := (tcI t.c t.xs (i + 1)).map In.cells) (n := (tcI t.c t.xs (i + 1)).length) hσ rfl rfl rfl rfl rfl rfl rfl rfl rfl rfl rfl rfl rfl rfl rfl rfl (.row rfl (List.length_map _).symm) rfl rfl (by decide) rfl (by simp; omega) (by simp; omega) (by rw [hz]; simp) (by simp)) rfl ?_
    refine jnm ?_
    refine jnm ?_
    refine jst hσ rfl rfl rfl rfl rfl ?_
    refine jf [3, 36, 35, 29, 28, 5, 18, 0, 4] rfl ?_
    refine jn ?_
    refine AWP.region ?_
    refine jst hσ rfl rfl rfl rfl rfl ?_
    first | refine jfi hσ rfl rfl rfl rfl rfl ?_ | refine jvf hσ rfl rfl rfl rfl rfl ?_
    refine jst hσ rfl rfl rfl rfl rfl ?_
    refine jf [4, 3, 36, 35, 29, 28, 5, 18, 0] rfl ?_
    refine jn ?_
    refine ⟨i + 1, ((Ent.sel [45] (e' := [(3, _), (0, _), (4, _)]) rfl rfl ⟨rfl, rfl, rfl, trivial⟩ rfl).trans (Ent.sub2 45 900 rfl rfl)).trans (Ent.to ⟨rfl, rfl, rfl, trivial⟩ rfl), by omega, by omega⟩
 ·
  skip
  refine AWP.exit ?_
  refine jsr ?_
  iterate 2 refine jst hσ rfl rfl rfl rfl rfl ?_
  refine jn ?_
  refine AWP.ret ?_
  obtain rfl : i = t.xs.length := by have := of_decide_eq_false hc18; omega
  refine ⟨.inl rfl, _, Ent.refl, _, rfl, [900], by decide, rfl, rfl, rfl⟩
abbrev csB (n i j : Nat) (c : Cs) : B := .box [.rs i 0 c.code.length, .rs j 0 c.pts.length, .rs 3 0 n, .rs 4 0 n]
abbrev csH (n : Nat) (c : Cs) : List (Nat × B) := [(0, csB n 1 2 c), (1, irow c.code), (2, prow c.pts), (3, nrow c.fr), (4, nrow c.to)]
abbrev csH5 (n : Nat) (c : Cs) : List (Nat × B) := [(0, csB n 5 2 c), (2, prow c.pts), (3, nrow c.fr), (4, nrow c.to), (5, irow c.code)]
abbrev csH6 (n : Nat) (c : Cs) : List (Nat × B) := [(0, csB n 5 6 c), (3, nrow c.fr), (4, nrow c.to), (5, irow c.code), (6, prow c.pts)]
abbrev csD (c : Cs) : A := ptr [insD c.code, ptsD c.pts, ints c.fr, ints c.to]
abbrev mkB (b : List Sm) (n i j : Nat) (c : Cs) : B := .box [.d (sms b), .rs i 0 c.code.length, .rs 3 0 n, .rs 4 0 n, .rs j 0 c.pts.length]
abbrev mkH (b : List Sm) (n : Nat) (c : Cs) : List (Nat × B) := [(0, mkB b n 1 2 c), (1, irow c.code), (2, prow c.pts), (3, nrow c.fr), (4, nrow c.to)]
abbrev mkH5 (b : List Sm) (n : Nat) (c : Cs) : List (Nat × B) := [(0, mkB b n 5 2 c), (2, prow c.pts), (3, nrow c.fr), (4, nrow c.to), (5, irow c.code)]
abbrev mkH6 (b : List Sm) (n : Nat) (c : Cs) : List (Nat × B) := [(0, mkB b n 5 6 c), (3, nrow c.fr), (4, nrow c.to), (5, irow c.code), (6, prow c.pts)]
abbrev mkD (b : List Sm) (c : Cs) : A := ptr [sms b, insD c.code, ints c.fr, ints c.to, ptsD c.pts]
theorem c1092 {L : Nat} (h1 : 4096 ≤ L) (h2 : L ≤ 1073741824) {n : Nat} {c : Cs} {op a : Int} (hl : c.code.length ≤ 4000) : MC Tryz.prog L 61 [.c (.pt 0 0 0), eI op, eI a] (csH n c) (Outs (.tup []) (csH5 n (c.emit op a))) := by
 refine MC.shift 500 rfl ?_
 have hσ := SgOk.withIns (js := [500, 501, 502, 503, 504]) (SGok (nt := 18) h1 (Nat.le_trans h2 (by decide)))
 refine MC.bodyH hσ Tryz.func61 (by kernel_rfl) rfl rfl rfl (Nat.le_of_ble_eq_true rfl) (fun hF => ?_)
 refine AWP.region ?_
 iterate 8 refine jst hσ rfl rfl rfl rfl rfl ?_
 refine jf [13, 10, 6] rfl ?_
 refine AOps.heap (HS.lit hσ rfl rfl rfl) rfl ?_
 refine jnm ?_
 refine jf [14, 10, 6] rfl ?_
 refine AOps.heap (HS.appMove (zs := (c.code ++ [(⟨op, a⟩ : In)]).map In.cells) (n := (c.code ++ [(⟨op, a⟩ : In)]).length) hσ rfl rfl rfl rfl rfl rfl rfl rfl rfl rfl rfl rfl rfl rfl rfl rfl (.row rfl (List.length_map _).symm) rfl rfl (by decide) rfl (by simp; omega) (by simp; omega) (by simp) (by simp)) rfl ?_
 refine jnm ?_
 refine jnm ?_
 iterate 2 refine jst hσ rfl rfl rfl rfl rfl ?_
 refine jf [17, 15] rfl ?_
 refine AOps.heap (HS.storeBox hσ rfl rfl rfl rfl rfl rfl rfl rfl rfl rfl rfl) rfl ?_
 refine jnm ?_
 refine jn ?_
 show _ ∧ _
 refine ⟨.inr rfl, _, ((Ent.sel [500, 502, 503, 504, 15] (e' := []) rfl rfl trivial rfl).trans (Ent.sub2 15 505 rfl rfl)), _, rfl, rfl, rfl⟩
theorem c1096 {L : Nat} (h1 : 4096 ≤ L) (h2 : L ≤ 1073741824) {b : List Sm} {n : Nat} {c : Cs} {op a : Int} (hl : c.code.length ≤ 4000) : MC Tryz.prog L 87 [.c (.pt 0 0 0), eI op, eI a] (mkH b n c) (Outs (.tup []) (mkH5 b n (c.emit op a))) := by
 refine MC.shift 500 rfl ?_
 have hσ := SgOk.withIns (js := [500, 501, 502, 503, 504]) (SGok (nt := 18) h1 (Nat.le_trans h2 (by decide)))
 refine MC.bodyH hσ Tryz.func87 (by kernel_rfl) rfl rfl rfl (Nat.le_of_ble_eq_true rfl) (fun hF => ?_)
 refine AWP.region ?_
 iterate 8 refine jst hσ rfl rfl rfl rfl rfl ?_
 refine jf [13, 10, 6] rfl ?_
 refine AOps.heap (HS.lit hσ rfl rfl rfl) rfl ?_
 refine jnm ?_
 refine jf [14, 10, 6] rfl ?_
 refine AOps.heap (HS.appMove (zs := (c.code ++ [(⟨op, a⟩ : In)]).map In.cells) (n := (c.code ++ [(⟨op, a⟩ : In)]).length) hσ rfl rfl rfl rfl rfl rfl rfl rfl rfl rfl rfl rfl rfl rfl rfl rfl (.row rfl (List.length_map _).symm) rfl rfl (by decide) rfl (by simp; omega) (by simp; omega) (by simp) (by simp)) rfl ?_
 refine jnm ?_
 refine jnm ?_
 iterate 2 refine jst hσ rfl rfl rfl rfl rfl ?_
 refine jf [17, 15] rfl ?_
 refine AOps.heap (HS.storeBox hσ rfl rfl rfl rfl rfl rfl rfl rfl rfl rfl rfl) rfl ?_
 refine jnm ?_
 refine jn ?_
 show _ ∧ _
 refine ⟨.inr rfl, _, ((Ent.sel [500, 502, 503, 504, 15] (e' := []) rfl rfl trivial rfl).trans (Ent.sub2 15 505 rfl rfl)), _, rfl, rfl, rfl⟩
theorem c1098 {L : Nat} (h1 : 4096 ≤ L) (h2 : L ≤ 1073741824) {n : Nat} {c : Cs} {t : Tm} (ht : t.xs.length ≤ 4) (hl : c.code.length ≤ 4000) : MC Tryz.prog L 95 [.c (.pt 0 0 0), aTm' t] (csH n c) (Outs (.tup []) (csH5 n (c.term t))) := by
 refine MC.shift 500 rfl ?_
 have hσ := SgOk.withIns (js := [500, 501, 502, 503, 504]) (SGok (nt := 14) h1 (Nat.le_trans h2 (by decide)))
 refine MC.bodyH hσ Tryz.func95 (by kernel_rfl) rfl rfl rfl (Nat.le_of_ble_eq_true rfl) (fun hF => ?_)
 have htl := tcI_len (c := t.c) (xs := t.xs) (i := t.xs.length)
 have htl2 : (tcode t).length ≤ 13 := by unfold tcode; omega
 refine jsr ?_
 refine AOps.heap (HS.box hσ rfl rfl rfl rfl rfl rfl rfl) rfl ?_
 refine jnm ?_
 refine jn ?_
 refine AWP.drawP hσ _ [_, _, _, _, _, _, _, _, _, _, _] [⟨[], 0, 2, none⟩, ⟨[], 0, 1, none⟩, ⟨[1], 0, 1, none⟩, ⟨[1, 2], 0, 1, none⟩, ⟨[1, 2, 3], 0, 1, none⟩, ⟨[], 0, 0, none⟩, ⟨[5], 0, 0, some 0⟩, ⟨[1, 2, 3, 4, 5, 6], 0, 0, some 1⟩, ⟨[0, 1, 2, 3, 4, 5, 6, 7], 2, 2, none⟩, ⟨[0, 1, 2, 3, 4, 5, 6, 7, 8], 2, 2, none⟩, ⟨[0, 1, 2, 3, 4, 5, 6, 7, 8, 9], 0, 0, some 2⟩] [6, 7, 10] [_, _, _, _] [[], [501, 11000], []] rfl rfl (by decide) (by decide) (by kernel_rfl) (And.intro (And.intro (And.intro (Val.of hσ rfl rfl) rfl) (And.intro (And.intro (Val.of hσ rfl rfl) rfl) (And.intro (Val.of hσ rfl rfl) rfl))) (And.intro (And.intro (And.intro (Val.of hσ rfl rfl) rfl) (And.intro (Val.of hσ rfl rfl) rfl)) (And.intro (And.intro (And.intro (Val.of hσ rfl rfl) rfl) (And.intro (Val.of hσ rfl rfl) rfl)) (And.intro (And.intro (And.intro (Val.of hσ rfl rfl) rfl) (And.intro (Val.of hσ rfl rfl) rfl)) (And.intro (And.intro (And.intro (Val.of hσ rfl rfl) rfl) (And.intro (Val.of hσ rfl rfl) rfl)) (And.intro (And.intro (Val.of hσ rfl rfl) rfl) (And.intro (And.intro (Eff.p (Eff.rows hσ (B0 := 11000) rfl rfl rfl rfl (c1104 (t := t) h1 h2 ht) (VAs.self rfl) rfl rfl rfl rfl rfl)) rfl) (And.intro (And.intro (Eff.appMove (xs := c.code.map In.cells) (ys := (tcode t).map In.cells) (zs := (c.code ++ tcode t).map In.cells) (n := (c.code ++ tcode t).length) hσ rfl rfl rfl rfl rfl rfl rfl rfl rfl rfl rfl rfl rfl rfl rfl rfl (.row rfl (List.length_map _).symm) rfl (List.length_map _).symm (by decide) rfl (by simp; omega) (by simp; omega) (by simp) (by simp) rfl) rfl) (And.intro (And.intro (Val.of hσ rfl rfl) rfl) (And.intro (And.intro (Val.of hσ rfl rfl) rfl) (And.intro (And.intro (Eff.p (Eff.storeBox hσ rfl rfl rfl rfl rfl rfl rfl rfl rfl rfl rfl rfl rfl)) rfl) trivial))))))))))) ?_
 show _ ∧ _
 refine ⟨.inr rfl, _, ((Ent.sel [500, 502, 503, 504, 11] (e' := []) rfl rfl trivial rfl).trans (Ent.sub2 11 505 rfl rfl)), _, rfl, rfl, rfl⟩
theorem c1103 {L : Nat} (h1 : 4096 ≤ L) (h2 : L ≤ 1073741824) {b : List Sm} {n : Nat} {c : Cs} {t : Tm} {ds : List D} {j : Nat} (hd : (ds.drop j).take (Tm.cells t).length = Tm.cells t) (ht : t.xs.length ≤ 4) (hl : c.code.length ≤ 4000) : MC Tryz.prog L 112 [.c (.pt 0 0 0), .c (.d (.ptr ds j))] (mkH b n c) (Outs (.tup []) (mkH5 b n (c.term t))) := by
 refine MC.shift 500 rfl ?_
 have hσ := SgOk.withIns (js := [500, 501, 502, 503, 504]) (SGok (nt := 14) h1 (Nat.le_trans h2 (by decide)))
 refine MC.bodyH hσ Tryz.func112 (by kernel_rfl) rfl rfl rfl (Nat.le_of_ble_eq_true rfl) (fun hF => ?_)
 have htl := tcI_len (c := t.c) (xs := t.xs) (i := t.xs.length)
 have htl2 : (tcode t).length ≤ 13 := by unfold tcode; omega
 refine AWP.drawP hσ _ [_, _, _, _, _, _, _, _, _, _, _] [⟨[], 0, 2, none⟩, ⟨[], 0, 1, none⟩, ⟨[1], 0, 1, none⟩, ⟨[1, 2], 0, 1, none⟩, ⟨[1, 2, 3], 0, 1, none⟩, ⟨[], 0, 0, none⟩, ⟨[5], 0, 0, some 0⟩, ⟨[1, 2, 3, 4, 5, 6], 0, 0, some 1⟩, ⟨[0, 1, 2, 3, 4, 5, 6, 7], 2, 2, none⟩, ⟨[0, 1, 2, 3, 4, 5, 6, 7, 8], 2, 2, none⟩, ⟨[0, 1, 2, 3, 4, 5, 6, 7, 8, 9], 0, 0, some 2⟩] [6, 7, 10] [_, _, _, _] [[], [501, 11000], []] rfl rfl (by decide) (by decide) (by kernel_rfl) (And.intro (And.intro (And.intro (Val.of hσ rfl rfl) rfl) (And.intro (And.intro (Val.of hσ rfl rfl) rfl) (And.intro (Val.of hσ rfl rfl) rfl))) (And.intro (And.intro (And.intro (Val.of hσ rfl rfl) rfl) (And.intro (Val.of hσ rfl rfl) rfl)) (And.intro (And.intro (And.intro (Val.of hσ rfl rfl) rfl) (And.intro (Val.of hσ rfl rfl) rfl)) (And.intro (And.intro (And.intro (Val.of hσ rfl rfl) rfl) (And.intro (Val.of hσ rfl rfl) rfl)) (And.intro (And.intro (And.intro (Val.of hσ rfl rfl) rfl) (And.intro (Val.of hσ rfl rfl) rfl)) (And.intro (And.intro (Val.of hσ rfl rfl) rfl) (And.intro (And.intro (Eff.p (Eff.rows hσ (B0 := 11000) rfl rfl rfl rfl (c1107 (t := t) h1 h2 ht) (.cons (.c (.sub hd)) .nil) rfl rfl rfl rfl rfl)) rfl) (And.intro (And.intro (Eff.appMove (xs := c.code.map In.cells) (ys := (tcode t).map In.cells) (zs := (c.code ++ tcode t).map In.cells) (n := (c.code ++ tcode t).length) hσ rfl rfl rfl rfl rfl rfl rfl rfl rfl rfl rfl rfl rfl rfl rfl rfl (.row rfl (List.length_map _).symm) rfl (List.length_map _).symm (by decide) rfl (by simp; omega) (by simp; omega) (by simp) (by simp) rfl) rfl) (And.intro (And.intro (Val.of hσ rfl rfl) rfl) (And.intro (And.intro (Val.of hσ rfl rfl) rfl) (And.intro (And.intro (Eff.p (Eff.storeBox hσ rfl rfl rfl rfl rfl rfl rfl rfl rfl rfl rfl rfl rfl)) rfl) trivial))))))))))) ?_
 show _ ∧ _
 refine ⟨.inr rfl, _, ((Ent.sel [500, 502, 503, 504, 11] (e' := []) rfl rfl trivial rfl).trans (Ent.sub2 11 505 rfl rfl)), _, rfl, rfl, rfl⟩
theorem c1097 {L : Nat} (h1 : 4096 ≤ L) (h2 : L ≤ 1073741824) {c : Cs} : MC Tryz.prog L 94 [csD c] [] (Plain (eI c.code.length)) := by
 refine MC.alone ?_ rfl
 have hσ := SGok (nt := 9) h1 (Nat.le_trans h2 (by decide))
 refine MC.body hσ Tryz.func94 (by kernel_rfl) rfl rfl (Nat.le_of_ble_eq_true rfl) (fun hF => ?_)
 refine jsr ?_
 refine jst hσ rfl rfl rfl rfl rfl ?_
 refine jns ?_
 iterate 4 refine jst hσ rfl rfl rfl rfl rfl ?_
 first | refine jle hσ rfl rfl rfl rfl rfl rfl rfl rfl rfl rfl rfl ?_ | refine jst hσ rfl rfl rfl rfl rfl ?_ | refine jvf hσ rfl rfl rfl rfl rfl ?_
 refine jf [7, 2] rfl ?_
 refine AOps.lone hσ rfl rfl rfl rfl (c147 (n := c.code.length) h1 h2) (VAs.self rfl) rfl rfl rfl rfl rfl (B0 := 9000) rfl ?_
 refine jst hσ rfl rfl rfl rfl rfl ?_
 refine jf [2] rfl ?_
 refine jn ?_
 refine AWP.ret ?_
 refine ⟨.inl rfl, _, Ent.refl, _, rfl, ?_⟩
 first | rfl | skip
theorem c1102 {L : Nat} (h1 : 4096 ≤ L) (h2 : L ≤ 1073741824) {b : List Sm} {c : Cs} : MC Tryz.prog L 111 [mkD b c] [] (Plain (eI c.code.length)) := by
 refine MC.alone ?_ rfl
 have hσ := SGok (nt := 8) h1 (Nat.le_trans h2 (by decide))
 refine MC.body hσ Tryz.func111 (by kernel_rfl) rfl rfl (Nat.le_of_ble_eq_true rfl) (fun hF => ?_)
 refine jsr ?_
 refine jst hσ rfl rfl rfl rfl rfl ?_
 refine jns ?_
 iterate 4 refine jst hσ rfl rfl rfl rfl rfl ?_
 first | refine jle hσ rfl rfl rfl rfl rfl rfl rfl rfl rfl rfl rfl ?_ | refine jst hσ rfl rfl rfl rfl rfl ?_ | refine jvf hσ rfl rfl rfl rfl rfl ?_
 refine jst hσ rfl rfl rfl rfl rfl ?_
 refine jf [2] rfl ?_
 refine jn ?_
 refine AWP.ret ?_
 refine ⟨.inl rfl, _, Ent.refl, _, rfl, ?_⟩
 first | rfl | skip
end Go.Al
