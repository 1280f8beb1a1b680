/- The reference: the flow of a program, all paths of a start. -/
import Derived.Test.YtbonielldgjhiaaGreatL
set_option linter.unusedVariables false
set_option linter.unusedSimpArgs false
set_option maxRecDepth 10000
set_option maxHeartbeats 4000000
open Go.Proofs
namespace Go.Al
variable {L : Nat} (h1 : 4096 ≤ L) (h2 : L ≤ 1073741824)
def am : Tr → Int → List Fl → List Fl × Int
  | .node s a [x, y], nx, f => if s.kind = 1 then am x (am y nx f).2 (am y nx f).1
      else ((am y nx (am x nx f).1).1 ++ [⟨a, (am x nx f).2, (am y nx (am x nx f).1).2⟩], (am y nx (am x nx f).1).1.length)
  | .node s a [x], nx, f => ((am x f.length (f ++ [⟨a, 0, nx⟩])).1.set f.length ⟨((am x f.length (f ++ [⟨a, 0, nx⟩])).1.getD f.length default).stmt, (am x f.length (f ++ [⟨a, 0, nx⟩])).2, ((am x f.length (f ++ [⟨a, 0, nx⟩])).1.getD f.length default).other⟩, f.length)
  | .node s a _, nx, f => (f ++ [⟨a, nx, -1⟩], f.length)
theorem jA {s : Sm} {a nx : Int} {f : List Fl} : am (.node s a []) nx f = (f ++ [⟨a, nx, -1⟩], (f.length : Int)) := by rw [am] <;> simp
theorem jz {s : Sm} {a nx : Int} {x : Tr} {f : List Fl} : am (.node s a [x]) nx f = ((am x f.length (f ++ [⟨a, 0, nx⟩])).1.set f.length ⟨((am x f.length (f ++ [⟨a, 0, nx⟩])).1.getD f.length default).stmt, (am x f.length (f ++ [⟨a, 0, nx⟩])).2, ((am x f.length (f ++ [⟨a, 0, nx⟩])).1.getD f.length default).other⟩, (f.length : Int)) := by rw [am]
theorem gV {s : Sm} {a nx : Int} {x y : Tr} {f : List Fl} : am (.node s a [x, y]) nx f = if s.kind = 1 then am x (am y nx f).2 (am y nx f).1
      else ((am y nx (am x nx f).1).1 ++ [⟨a, (am x nx f).2, (am y nx (am x nx f).1).2⟩], ((am y nx (am x nx f).1).1.length : Int)) := by rw [am]
theorem dm {n : Nat} : ∀ {t : Tr}, t.cok n → ∀ {nx : Int} {f : List Fl}, f.length ≤ (am t nx f).1.length ∧ (am t nx f).1.length ≤ f.length + t.nodes
 | .node s a [x, y], ht, nx, f => by
  have hx : ∀ nx f, f.length ≤ (am x nx f).1.length ∧ (am x nx f).1.length ≤ f.length + x.nodes := fun nx f => dm ht.2.2.2.1
  have hy : ∀ nx f, f.length ≤ (am y nx f).1.length ∧ (am y nx f).1.length ≤ f.length + y.nodes := fun nx f => dm ht.2.2.2.2.1
  rw [show (Tr.node s a [x, y]).nodes = 1 + (x.nodes + y.nodes) by simp [Tr.nodes, Trs.nodes], gV]
  split
  have := hy nx f; have := hx (am y nx f).2 (am y nx f).1; omega
  have := hx nx f; have := hy nx (am x nx f).1
  simp only [List.length_append, List.length_singleton]; omega
 | .node s a [x], ht, nx, f => by
  have hx : ∀ nx f, f.length ≤ (am x nx f).1.length ∧ (am x nx f).1.length ≤ f.length + x.nodes := fun nx f => dm ht.2.2.2.1
  rw [show (Tr.node s a [x]).nodes = 1 + x.nodes by simp [Tr.nodes, Trs.nodes], jz]
  have := hx f.length (f ++ [⟨a, 0, nx⟩])
  simp only [List.length_append, List.length_singleton] at this
  simp only [List.length_set]; omega
 | .node s a [], ht, nx, f => by
  rw [show (Tr.node s a []).nodes = 1 by simp [Tr.nodes, Trs.nodes], jA]
  simp
 | .node s a (x :: y :: z :: ks), ht, nx, f => by
  have h1 : ((x :: y :: z :: ks).length : Int) = bh s.kind := ht.2.2.1.2
  have h2 := (cm s.kind).2
  simp only [List.length_cons] at h1
  omega
theorem pD {b : List Sm} {k k' : Nat} {n : Int} (hn : 0 < n) (h : dI (b.drop k) n = some (k' - k)) (hk : k ≤ k') : k < b.length ∧ k + 1 ≤ k' ∧ dI (b.drop (k + 1)) (n - 1 + bh (b.getD k default).kind) = some (k' - (k + 1)) := by
 have hlt : k < b.length := by
  rcases Nat.lt_or_ge k b.length with h1 | h1
  exact h1
  rw [List.drop_eq_nil_of_le h1, dI, if_neg (by omega)] at h; cases h
 rw [jy hlt hn, Option.map_eq_some_iff] at h
 obtain ⟨q, h1, h2⟩ := h
 exact ⟨hlt, by omega, by rw [h1]; congr 1; omega⟩
theorem nZ {b : List Sm} {k k' : Nat} {t : Tr} (h : bJ b k = some (t, k')) : dI (b.drop k) 1 = some (k' - k) ∧ k < k' ∧ k' ≤ b.length := by
 obtain ⟨h1, h2⟩ := jv h
 have h3 := h2 0 (Int.le_refl _)
 refine ⟨?_, fz h⟩
 rw [show (1 : Int) = 0 + 1 from Z, h3, go (Int.le_refl _)]
 simp
theorem q8 {b : List Sm} {k k' : Nat} {n : Int} (hn : n ≤ 0) (h : dI (b.drop k) n = some (k' - k)) (hk : k ≤ k') : k = k' := by
 rw [go hn] at h
 simp only [Option.some.injEq] at h
 omega
abbrev dH (f : List Fl) : B := .row true 3 (f.map Fl.cells)
theorem vH {b : List Sm} {t : Tr} {k k' : Nat} (hb : b.length ≤ 1000) (ht : bJ b k = some (t, k')) : MQ h1 h2 69 [.c (.d (eZ b)), eI (k : Nat)] [] (Plain (.tup [eI (k : Nat), eI (k' : Nat)])) := by
 refine jB 29 h1 h2 Tryz.func69 Z Z Z fun O hF => ?_
 have hs0 := nZ ht
 refine ag (j2 O Z Z (aP (js O Z (aP (j2 O Z Z (jn (AWP.seq (AWP.block (az (X := Nat × Int) (fun z => ⟨[(0, .c (.d (eZ b))), (1, eI (k : Nat)), (6, eI z.2), (7, eI (z.1 : Nat))], []⟩) (fun z => z.1 ≤ k' ∧ 0 ≤ z.2 ∧ z.2 ≤ (z.1 : Int) + 1 ∧ dI (b.drop z.1) z.2 = some (k' - z.1)) (fun z => k' - z.1) (k, 1) (Ent.env ⟨Z, Z, Z, Z, trivial⟩) ?_ (fun z hi => ?_))))))))))
 exact ⟨by show k ≤ k'; omega, by show (0 : Int) ≤ 1; decide, by show (1 : Int) ≤ (k : Int) + 1; omega, hs0.1⟩
 refine AWP.seq (ag (j2 O Z Z (jn (AWP.cond O Z Z (fun hc10 => ?_) (fun hc10 => ?_)))))
 refine AWP.skip (AWP.block (AWP.seq (ag (j2 O Z Z ?_))))
 have hpos := of_decide_eq_true hc10
 have hsk := pD hpos hi.2.2.2 hi.1
 refine aa (aB O Z Z Z Z Z Z Z Z (cq hsk.1)) Z Z Z (j2 O Z Z (jf [15,10,9,0,1,6,7] Z (jn (AWP.block (AWP.seq (ag (j2 O Z Z (jn (AWP.cond O Z Z (fun hc18 => ?_) (fun hc18 => ?_))))))))))
 refine AWP.skip (AWP.cond O Z Z (fun hc18 => ?_) (fun hc18 => ?_))
 refine AWP.region (js O Z ?_)
 first | refine ji O Z ?_ | refine aY O Z Z Z Z Z ?_
 refine js O Z (jf [6,18,19,15,10,9,0,1,7] Z (jn (AWP.region (js O Z ?_))))
 first | refine ji O Z ?_ | refine aY O Z Z Z Z Z ?_
 refine js O Z (jf [7,6,18,19,15,10,9,0,1] Z (jn ?_))
 have hbe : bh (b.getD z.1 default).kind = 2 := by unfold bh; rw [if_pos (of_decide_eq_true hc18)]
 refine ⟨(z.1 + 1, z.2 + 1), Ent.env ⟨Z, Z, Z, Z, trivial⟩, ⟨hsk.2.1, by show (0 : Int) ≤ z.2 + 1; omega, by show z.2 + 1 ≤ ((z.1 + 1 : Nat) : Int) + 1; omega, ?_⟩, by show k' - (z.1 + 1) < k' - z.1; omega⟩
 rw [show (z.2 + 1 : Int) = z.2 - 1 + bh (b.getD z.1 default).kind by omega]
 exact hsk.2.2
 exact absurd ‹decide ((b.getD z.1 default).kind = 1) = true› (by rw [hc18]; decide)
 refine AWP.region (j2 O Z Z (jn (AWP.cond O Z Z (fun hc18 => ?_) (fun hc18 => ?_))))
 refine AWP.region (js O Z ?_)
 first | refine ji O Z ?_ | refine aY O Z Z Z Z Z ?_
 refine js O Z (jf [6,18,20,19,15,10,9,0,1,7] Z (jn (AWP.region (js O Z ?_))))
 first | refine ji O Z ?_ | refine aY O Z Z Z Z Z ?_
 refine js O Z (jf [7,6,18,20,19,15,10,9,0,1] Z (jn ?_))
 have hbe : bh (b.getD z.1 default).kind = 2 := by unfold bh; rw [of_decide_eq_true hc18]; decide
 refine ⟨(z.1 + 1, z.2 + 1), Ent.env ⟨Z, Z, Z, Z, trivial⟩, ⟨hsk.2.1, by show (0 : Int) ≤ z.2 + 1; omega, by show z.2 + 1 ≤ ((z.1 + 1 : Nat) : Int) + 1; omega, ?_⟩, by show k' - (z.1 + 1) < k' - z.1; omega⟩
 rw [show (z.2 + 1 : Int) = z.2 - 1 + bh (b.getD z.1 default).kind by omega]
 exact hsk.2.2
 refine ag (j2 O Z Z (jn (AWP.cond O Z Z (fun hc23 => ?_) (fun hc23 => ?_))))
 refine AWP.skip (AWP.region (js O Z ?_))
 first | refine ji O Z ?_ | refine aY O Z Z Z Z Z ?_
 refine js O Z (jf [7,23,24,18,20,19,15,10,9,0,1,6] Z (jn ?_))
 have hbe : bh (b.getD z.1 default).kind = 1 := by unfold bh; rw [of_decide_eq_true hc23]; decide
 refine ⟨(z.1 + 1, z.2), Ent.env ⟨Z, Z, Z, Z, trivial⟩, ⟨hsk.2.1, by show (0 : Int) ≤ z.2; omega, by show z.2 ≤ ((z.1 + 1 : Nat) : Int) + 1; omega, ?_⟩, by show k' - (z.1 + 1) < k' - z.1; omega⟩
 rw [show (z.2 : Int) = z.2 - 1 + bh (b.getD z.1 default).kind by omega]
 exact hsk.2.2
 refine AWP.region (js O Z ?_)
 first | refine ji O Z ?_ | refine aY O Z Z Z Z Z ?_
 refine js O Z (jf [6,23,24,18,20,19,15,10,9,0,1,7] Z (jn (AWP.region (js O Z ?_))))
 first | refine ji O Z ?_ | refine aY O Z Z Z Z Z ?_
 refine js O Z (jf [7,6,23,24,18,20,19,15,10,9,0,1] Z (jn ?_))
 have hne : ¬ (b.getD z.1 default).kind = 1 := of_decide_eq_false ‹decide ((b.getD z.1 default).kind = 1) = false›
 have hbe : bh (b.getD z.1 default).kind = 0 := by unfold bh; rw [if_neg hne, if_neg (of_decide_eq_false hc18), if_neg (of_decide_eq_false hc23)]
 refine ⟨(z.1 + 1, z.2 - 1), Ent.env ⟨Z, Z, Z, Z, trivial⟩, ⟨hsk.2.1, by show (0 : Int) ≤ z.2 - 1; omega, by show z.2 - 1 ≤ ((z.1 + 1 : Nat) : Int) + 1; omega, ?_⟩, by show k' - (z.1 + 1) < k' - z.1; omega⟩
 rw [show (z.2 - 1 : Int) = z.2 - 1 + bh (b.getD z.1 default).kind by omega]
 exact hsk.2.2
 refine AWP.exit (ag (j4 O Z Z Z Z (jf [5,4,10,9,0,1,6,7] Z (jn (AWP.ret ?_)))))
 refine ⟨.inl Z, _, Ent.refl, _, Z, ?_⟩
 have he := q8 (by have := of_decide_eq_false hc10; omega) hi.2.2.2 hi.1
 rw [← he]
 exact ⟨Z, Z⟩
theorem cj {body : List Sm} {k k' : Nat} {s : Sm} {a : Int} {ks : List Tr} (h : bJ body k = some (.node s a ks, k')) : a = (k : Nat) := by
 rw [jm] at h
 split at h
 cases h
 split at h
 cases h
 simp only [Option.map_eq_some_iff] at h
 obtain ⟨⟨ts, k2⟩, h3, h4⟩ := h
 simp only [Prod.mk.injEq, Tr.node.injEq] at h4
 exact h4.1.2.1.symm
theorem c7 {f : Nat → Option (Tr × Nat)} {k k' : Nat} (h : bV f 0 k = some ([], k')) : k' = k := by
 simp only [bV, Option.some.injEq, Prod.mk.injEq] at h; exact h.2.symm
theorem bK {f : Nat → Option (Tr × Nat)} {q k k' : Nat} {x : Tr} {xs : List Tr} (h : bV f (q + 1) k = some (x :: xs, k')) : ∃ k1, f k = some (x, k1) ∧ bV f q k1 = some (xs, k') := by
 unfold bV at h
 cases hx : f k with
 | none => rw [hx] at h; cases h
 | some p =>
  obtain ⟨t, k1⟩ := p
  rw [hx] at h
  simp only [Option.map_eq_some_iff] at h
  obtain ⟨⟨ts1, k2⟩, h1, h2⟩ := h
  simp only [Prod.mk.injEq, List.cons.injEq] at h2
  obtain ⟨⟨rfl, rfl⟩, rfl⟩ := h2
  exact ⟨k1, Z, h1⟩
theorem gq {k : Int} (h : bh k = 1) : k = 8 := by
 unfold bh at h
 split at h
 omega
 split at h
 omega
 split at h
 assumption
 omega
theorem sa {b : List Sm} {nx : Int} {f : List Fl} {s : Sm} {k : Nat} (hkk : bh s.kind = 0) (hk : k < b.length) (hbs : b.getD k default = s) (hb : b.length ≤ 1000) (hf : f.length + Tr.nodes (.node s (k : Nat) []) ≤ 2000) : MQ h1 h2 51 [.c (.d (eZ b)), eI (k : Nat), eI nx, .c (.rs 0 0 f.length)] [(0, dH f)] (aZ (.tup [.c (.rs 1 0 (am (.node s (k : Nat) []) nx f).1.length), eI (am (.node s (k : Nat) []) nx f).2, eI (k + 1 : Nat)]) [(1, dH (am (.node s (k : Nat) []) nx f).1)]) := by
 refine aF 500 Z (jH 132 [500] h1 h2 Tryz.func51 Z Z Z Z fun O hF => ?_)
 refine bZ ?_
 have hne := fg hkk
 have hnd : Tr.nodes (.node s (k : Nat) []) = 1 := by simp [Tr.nodes, Trs.nodes]
 rw [jA]
 refine ag (j3 O Z Z Z (jn (AWP.seq (ag (j2 O Z Z (aa ((aB O Z Z Z Z Z Z Z Z (cq hk)).cast (v' := ptr (Sm.cells s)) (by rw [hbs])) Z Z Z (j2 O Z Z (jf [31,10,9,8,0,1,2,3] Z (jn (AWP.block (ag (j2 O Z Z (jn ?_)))))))))))))
 refine AWP.cond O Z Z (fun hc32 => ?_) (fun hc32 => ?_)
 exact absurd (of_decide_eq_true hc32) (by omega)
 refine ag (j2 O Z Z (jf [63,33,31,10,9,8,0,1,2,3] Z (jn (AWP.cond O Z Z (fun hc63 => ?_) (fun hc63 => ?_)))))
 exact absurd (of_decide_eq_true hc63) (by omega)
 refine ag (j2 O Z Z (jf [94,33,31,10,9,8,0,1,2,3] Z (jn (AWP.cond O Z Z (fun hc94 => ?_) (fun hc94 => ?_)))))
 exact absurd (of_decide_eq_true hc94) (by omega)
 refine AWP.skip (ag (j4 O Z Z Z Z (jf [125,122,33,31,10,9,8,0,1,2,3] Z (AOps.heap (bE O Z Z Z) Z (aq ?_)))))
 refine jf [126,122,33,31,10,9,8,0,1,2,3] Z (i9 (q := 3) O (cX (zs := (f ++ [(⟨(k : Nat), nx, -1⟩ : Fl)]).map Fl.cells) (n := (f ++ [(⟨(k : Nat), nx, -1⟩ : Fl)]).length) O Z Z Z Z Z Z Z Z Z Z Z Z Z Z Z Z (.row Z (List.length_map _).symm) Z Z (by decide) Z (by simp; omega) (by simp; omega) (by simp) (by simp)) Z Z Z Z Z Z Z Z Z Z Z Z Z Z Z (by omega) Z Z (aq ?_))
 refine js O Z (aa ((bc O Z Z (by first | omega | (simp at *; omega)) (by first | omega | (simp at *; omega))).cast (v' := eI ((k + 1 : Nat) : Int)) (congrArg eI (by omega))) Z Z Z (j3 O Z Z Z (jf [10,9,8,33,31,0,1,2,3] Z (jn (AWP.ret ?_)))))
 refine ⟨.inl Z, _, af 127 501 Z Z, _, Z, Z, Z⟩
theorem r9 {b : List Sm} {nx : Int} {f : List Fl} {s : Sm} {k : Nat} {x y : Tr} {k1 k2 : Nat} (hkk : s.kind = 1) (hx : bJ b (k + 1) = some (x, k1)) (ihx : ∀ (nx : Int) (f : List Fl), f.length + x.nodes ≤ 2000 → MQ h1 h2 51 [.c (.d (eZ b)), eI (k + 1 : Nat), eI nx, .c (.rs 0 0 f.length)] [(0, dH f)] (aZ (.tup [.c (.rs 1 0 (am x nx f).1.length), eI (am x nx f).2, eI (k1 : Nat)]) [(1, dH (am x nx f).1)])) (hlx : ∀ (nx : Int) (f : List Fl), f.length ≤ (am x nx f).1.length ∧ (am x nx f).1.length ≤ f.length + x.nodes) (ihy : ∀ (nx : Int) (f : List Fl), f.length + y.nodes ≤ 2000 → MQ h1 h2 51 [.c (.d (eZ b)), eI (k1 : Nat), eI nx, .c (.rs 0 0 f.length)] [(0, dH f)] (aZ (.tup [.c (.rs 1 0 (am y nx f).1.length), eI (am y nx f).2, eI (k2 : Nat)]) [(1, dH (am y nx f).1)])) (hly : ∀ (nx : Int) (f : List Fl), f.length ≤ (am y nx f).1.length ∧ (am y nx f).1.length ≤ f.length + y.nodes) (hk : k < b.length) (hbs : b.getD k default = s) (hb : b.length ≤ 1000) (hf : f.length + Tr.nodes (.node s (k : Nat) [x, y]) ≤ 2000) : MQ h1 h2 51 [.c (.d (eZ b)), eI (k : Nat), eI nx, .c (.rs 0 0 f.length)] [(0, dH f)] (aZ (.tup [.c (.rs 1 0 (am (.node s (k : Nat) [x, y]) nx f).1.length), eI (am (.node s (k : Nat) [x, y]) nx f).2, eI (k2 : Nat)]) [(1, dH (am (.node s (k : Nat) [x, y]) nx f).1)]) := by
 refine aF 500 Z (jH 132 [500] h1 h2 Tryz.func51 Z Z Z Z fun O hF => ?_)
 refine bZ ?_
 have hnd : Tr.nodes (.node s (k : Nat) [x, y]) = 1 + (x.nodes + y.nodes) := by simp [Tr.nodes, Trs.nodes]
 have h9 := hly nx f
 rw [gV, if_pos hkk]
 refine ag (j3 O Z Z Z (jn (AWP.seq (ag (j2 O Z Z (aa ((aB O Z Z Z Z Z Z Z Z (cq hk)).cast (v' := ptr (Sm.cells s)) (by rw [hbs])) Z Z Z (j2 O Z Z (jf [31,10,9,8,0,1,2,3] Z (jn (AWP.block (ag (j2 O Z Z (jn ?_)))))))))))))
 refine AWP.cond O Z Z (fun hc32 => ?_) (fun hc32 => ?_)
 refine ag (j2 O Z Z (aa ((bc O Z Z (by first | omega | (simp at *; omega)) (by first | omega | (simp at *; omega))).cast (v' := eI ((k + 1 : Nat) : Int)) (congrArg eI (by omega))) Z Z Z (jf [37,35,33,31,10,9,8,0,1,2,3] Z (ao O Z Z Z Z (vH (b := b) h1 h2 hb hx) (ab Z) Z Z Z Z (B0 := 39000) Z Z (j4 O Z Z Z Z (js O Z (jf [12,33,31,10,9,8,0,1,2,3] Z (aP (j4 O Z Z Z Z (jf [45,44,43,42,33,31,10,9,8,0,1,2,3] Z (ap O [500] (bin := [dH f]) Z Z Z Z (ihy nx f (by omega)) Z Z Z Z Z Z (B0 := 47000) Z Z (aq ?_))))))))))))
 refine j4 O Z Z Z Z (j3 O Z Z Z (jf [15,14,13,33,31,10,9,8,0,1,2,3] Z (aP (j2 O Z Z (aa ((bc O Z Z (by first | omega | (simp at *; omega)) (by first | omega | (simp at *; omega))).cast (v' := eI ((k + 1 : Nat) : Int)) (congrArg eI (by omega))) Z Z Z (j2 O Z Z (jf [55,54,53,51,15,13,33,31,10,9,8,0,1,2,3] Z (ap O [47001] (bin := [dH (am y nx f).1]) Z Z Z Z (ihx (am y nx f).2 (am y nx f).1 (by omega)) Z Z Z Z Z Z (B0 := 57000) Z Z (aq ?_)))))))))
 refine j4 O Z Z Z Z (j3 O Z Z Z (jf [16,13,15,33,31,10,9,8,0,1,2,3] Z (aP (j4 O Z Z Z Z (j2 O Z Z (jf [10,9,8,13,33,31,0,1,2,3] Z (jn (AWP.ret ?_))))))))
 refine ⟨.inl Z, _, af 57001 501 Z Z, _, Z, Z, Z⟩
 exact absurd (of_decide_eq_false hc32) (by omega)
theorem r8 {b : List Sm} {nx : Int} {f : List Fl} {s : Sm} {k : Nat} {x y : Tr} {k1 k2 : Nat} (hkk : s.kind = 7) (ihx : ∀ (nx : Int) (f : List Fl), f.length + x.nodes ≤ 2000 → MQ h1 h2 51 [.c (.d (eZ b)), eI (k + 1 : Nat), eI nx, .c (.rs 0 0 f.length)] [(0, dH f)] (aZ (.tup [.c (.rs 1 0 (am x nx f).1.length), eI (am x nx f).2, eI (k1 : Nat)]) [(1, dH (am x nx f).1)])) (hlx : ∀ (nx : Int) (f : List Fl), f.length ≤ (am x nx f).1.length ∧ (am x nx f).1.length ≤ f.length + x.nodes) (ihy : ∀ (nx : Int) (f : List Fl), f.length + y.nodes ≤ 2000 → MQ h1 h2 51 [.c (.d (eZ b)), eI (k1 : Nat), eI nx, .c (.rs 0 0 f.length)] [(0, dH f)] (aZ (.tup [.c (.rs 1 0 (am y nx f).1.length), eI (am y nx f).2, eI (k2 : Nat)]) [(1, dH (am y nx f).1)])) (hly : ∀ (nx : Int) (f : List Fl), f.length ≤ (am y nx f).1.length ∧ (am y nx f).1.length ≤ f.length + y.nodes) (hk : k < b.length) (hbs : b.getD k default = s) (hb : b.length ≤ 1000) (hf : f.length + Tr.nodes (.node s (k : Nat) [x, y]) ≤ 2000) : MQ h1 h2 51 [.c (.d (eZ b)), eI (k : Nat), eI nx, .c (.rs 0 0 f.length)] [(0, dH f)] (aZ (.tup [.c (.rs 1 0 (am (.node s (k : Nat) [x, y]) nx f).1.length), eI (am (.node s (k : Nat) [x, y]) nx f).2, eI (k2 : Nat)]) [(1, dH (am (.node s (k : Nat) [x, y]) nx f).1)]) := by
 refine aF 500 Z (jH 132 [500] h1 h2 Tryz.func51 Z Z Z Z fun O hF => ?_)
 refine bZ ?_
 have hnd : Tr.nodes (.node s (k : Nat) [x, y]) = 1 + (x.nodes + y.nodes) := by simp [Tr.nodes, Trs.nodes]
 have h9 := hlx nx f
 have h8 := hly nx (am x nx f).1
 rw [gV, if_neg (by omega)]
 refine ag (j3 O Z Z Z (jn (AWP.seq (ag (j2 O Z Z (aa ((aB O Z Z Z Z Z Z Z Z (cq hk)).cast (v' := ptr (Sm.cells s)) (by rw [hbs])) Z Z Z (j2 O Z Z (jf [31,10,9,8,0,1,2,3] Z (jn (AWP.block (ag (j2 O Z Z (jn ?_)))))))))))))
 refine AWP.cond O Z Z (fun hc32 => ?_) (fun hc32 => ?_)
 exact absurd (of_decide_eq_true hc32) (by omega)
 refine ag (j2 O Z Z (jf [63,33,31,10,9,8,0,1,2,3] Z (jn (AWP.cond O Z Z (fun hc63 => ?_) (fun hc63 => ?_)))))
 refine ag (j2 O Z Z (aa ((bc O Z Z (by first | omega | (simp at *; omega)) (by first | omega | (simp at *; omega))).cast (v' := eI ((k + 1 : Nat) : Int)) (congrArg eI (by omega))) Z Z Z (j2 O Z Z (jf [70,69,68,66,33,31,10,9,8,0,1,2,3] Z (ap O [500] (bin := [dH f]) Z Z Z Z (ihx nx f (by omega)) Z Z Z Z Z Z (B0 := 72000) Z Z (aq ?_))))))
 refine j4 O Z Z Z Z (j3 O Z Z Z (jf [20,19,18,33,31,10,9,8,0,1,2,3] Z (aP (j4 O Z Z Z Z (jf [79,78,77,76,19,18,33,31,10,9,8,0,1,2,3] Z (ap O [72001] (bin := [dH (am x nx f).1]) Z Z Z Z (ihy nx (am x nx f).1 (by omega)) Z Z Z Z Z Z (B0 := 81000) Z Z (aq ?_)))))))
 refine j4 O Z Z Z Z (j3 O Z Z Z (jf [22,21,18,19,33,31,10,9,8,0,1,2,3] Z (aP (j4 O Z Z Z Z (js O Z (jf [88,84,22,18,33,31,10,9,8,0,1,2,3] Z (AOps.heap (bE O Z Z Z) Z (aq ?_))))))))
 refine jf [89,84,22,18,33,31,10,9,8,0,1,2,3] Z (i9 (q := 18) O (cX (zs := ((am y nx (am x nx f).1).1 ++ [(⟨(k : Nat), (am x nx f).2, (am y nx (am x nx f).1).2⟩ : Fl)]).map Fl.cells) (n := ((am y nx (am x nx f).1).1 ++ [(⟨(k : Nat), (am x nx f).2, (am y nx (am x nx f).1).2⟩ : Fl)]).length) O Z Z Z Z Z Z Z Z Z Z Z Z Z Z Z Z (.row Z (List.length_map _).symm) Z Z (by decide) Z (by simp; omega) (by simp; omega) (by simp) (by simp)) Z Z Z Z Z Z Z Z Z Z Z Z Z Z Z (by omega) Z Z (aq ?_))
 refine j4 O Z Z Z Z (jf [10,9,8,18,33,31,0,1,2,3] Z (jn (AWP.ret ?_)))
 refine ⟨.inl Z, _, af 90 501 Z Z, _, Z, Z, Z⟩
 exact absurd (of_decide_eq_false hc63) (by omega)
theorem r7 {b : List Sm} {nx : Int} {f : List Fl} {s : Sm} {k : Nat} {x : Tr} {k1 : Nat} (hkk : s.kind = 8) (ihx : ∀ (nx : Int) (f : List Fl), f.length + x.nodes ≤ 2000 → MQ h1 h2 51 [.c (.d (eZ b)), eI (k + 1 : Nat), eI nx, .c (.rs 0 0 f.length)] [(0, dH f)] (aZ (.tup [.c (.rs 1 0 (am x nx f).1.length), eI (am x nx f).2, eI (k1 : Nat)]) [(1, dH (am x nx f).1)])) (hlx : ∀ (nx : Int) (f : List Fl), f.length ≤ (am x nx f).1.length ∧ (am x nx f).1.length ≤ f.length + x.nodes) (hk : k < b.length) (hbs : b.getD k default = s) (hb : b.length ≤ 1000) (hf : f.length + Tr.nodes (.node s (k : Nat) [x]) ≤ 2000) : MQ h1 h2 51 [.c (.d (eZ b)), eI (k : Nat), eI nx, .c (.rs 0 0 f.length)] [(0, dH f)] (aZ (.tup [.c (.rs 1 0 (am (.node s (k : Nat) [x]) nx f).1.length), eI (am (.node s (k : Nat) [x]) nx f).2, eI (k1 : Nat)]) [(1, dH (am (.node s (k : Nat) [x]) nx f).1)]) := by
 refine aF 500 Z (jH 132 [500] h1 h2 Tryz.func51 Z Z Z Z fun O hF => ?_)
 refine bZ ?_
 have hnd : Tr.nodes (.node s (k : Nat) [x]) = 1 + x.nodes := by simp [Tr.nodes, Trs.nodes]
 have h9 := hlx (f.length : Nat) (f ++ [(⟨(k : Nat), 0, nx⟩ : Fl)])
 have h8 : (f ++ [(⟨(k : Nat), 0, nx⟩ : Fl)]).length = f.length + 1 := by simp
 rw [jz]
 refine ag (j3 O Z Z Z (jn (AWP.seq (ag (j2 O Z Z (aa ((aB O Z Z Z Z Z Z Z Z (cq hk)).cast (v' := ptr (Sm.cells s)) (by rw [hbs])) Z Z Z (j2 O Z Z (jf [31,10,9,8,0,1,2,3] Z (jn (AWP.block (ag (j2 O Z Z (jn ?_)))))))))))))
 refine AWP.cond O Z Z (fun hc32 => ?_) (fun hc32 => ?_)
 exact absurd (of_decide_eq_true hc32) (by omega)
 refine ag (j2 O Z Z (jf [63,33,31,10,9,8,0,1,2,3] Z (jn (AWP.cond O Z Z (fun hc63 => ?_) (fun hc63 => ?_)))))
 exact absurd (of_decide_eq_true hc63) (by omega)
 refine ag (j2 O Z Z (jf [94,33,31,10,9,8,0,1,2,3] Z (jn (AWP.cond O Z Z (fun hc94 => ?_) (fun hc94 => ?_)))))
 refine ag (js O Z ?_)
 first | refine cy O Z Z Z Z Z Z Z Z Z Z Z ?_ | refine js O Z ?_ | refine aY O Z Z Z Z Z ?_
 refine js O Z (jf [23,33,31,10,9,8,0,1,2,3] Z (aP (j4 O Z Z Z Z (jf [101,98,23,33,31,10,9,8,0,1,2,3] Z (AOps.heap (bE O Z Z Z) Z (aq ?_))))))
 refine jf [102,98,23,33,31,10,9,8,0,1,2,3] Z (AOps.heap (cX (zs := (f ++ [(⟨(k : Nat), 0, nx⟩ : Fl)]).map Fl.cells) (n := (f ++ [(⟨(k : Nat), 0, nx⟩ : Fl)]).length) O Z Z Z Z Z Z Z Z Z Z Z Z Z Z Z Z (.row Z (List.length_map _).symm) Z Z (by decide) Z (by simp; omega) (by simp; omega) (by simp) (by simp)) Z (aq ?_))
 refine aq ?_
 refine js O Z (jf [3,23,33,31,10,9,8,0,1,2] Z (aP (j2 O Z Z (aa ((bc O Z Z (by first | omega | (simp at *; omega)) (by first | omega | (simp at *; omega))).cast (v' := eI ((k + 1 : Nat) : Int)) (congrArg eI (by omega))) Z Z Z (j2 O Z Z (jf [109,108,107,105,3,23,33,31,10,9,8,0,1,2] Z (ap O [103] (bin := [dH (f ++ [(⟨(k : Nat), 0, nx⟩ : Fl)])]) Z Z Z Z (ihx (f.length : Nat) (f ++ [(⟨(k : Nat), 0, nx⟩ : Fl)]) (by omega)) Z Z Z Z Z Z (B0 := 111000) Z Z (aq ?_))))))))
 refine j4 O Z Z Z Z (j3 O Z Z Z (jf [26,25,24,3,23,33,31,10,9,8,0,1,2] Z (aP (j3 O Z Z Z (aY O Z Z Z Z Z (js O Z (jf [118,116,26,24,3,23,33,31,10,9,8,0,1,2] Z (AOps.heap (bq (ex := Fl.cells ((am x (f.length : Nat) (f ++ [(⟨(k : Nat), 0, nx⟩ : Fl)])).1.getD f.length default)) (xs' := ((am x (f.length : Nat) (f ++ [(⟨(k : Nat), 0, nx⟩ : Fl)])).1.set f.length ⟨((am x (f.length : Nat) (f ++ [(⟨(k : Nat), 0, nx⟩ : Fl)])).1.getD f.length default).stmt, (am x (f.length : Nat) (f ++ [(⟨(k : Nat), 0, nx⟩ : Fl)])).2, ((am x (f.length : Nat) (f ++ [(⟨(k : Nat), 0, nx⟩ : Fl)])).1.getD f.length default).other⟩).map Fl.cells) O Z Z Z Z Z Z Z Z Z Z Z Z Z Z (uq (by omega) (by omega)) (ui (v := (⟨((am x (f.length : Nat) (f ++ [(⟨(k : Nat), 0, nx⟩ : Fl)])).1.getD f.length default).stmt, (am x (f.length : Nat) (f ++ [(⟨(k : Nat), 0, nx⟩ : Fl)])).2, ((am x (f.length : Nat) (f ++ [(⟨(k : Nat), 0, nx⟩ : Fl)])).1.getD f.length default).other⟩ : Fl)) (by omega) Z)) Z (aq ?_)))))))))
 refine jf [26,24,3,23,33,31,10,9,8,0,1,2] Z (aP (j4 O Z Z Z Z (j2 O Z Z (jf [10,9,8,24,3,23,33,31,0,1,2] Z (jn (AWP.ret ?_))))))
 rw [List.length_set]
 refine ⟨.inl Z, _, af 111001 501 Z Z, _, Z, Z, Z⟩
 exact absurd (of_decide_eq_false hc94) (by omega)
theorem mM {L : Nat} (h1 : 4096 ≤ L) (h2 : L ≤ 1073741824) {b : List Sm} (hb : b.length ≤ 1000) : ∀ {t : Tr} {k k' : Nat}, bJ b k = some (t, k') → t.cok b.length → ∀ (nx : Int) (f : List Fl), f.length + t.nodes ≤ 2000 → MC Tryz.prog L 51 [.c (.d (eZ b)), eI (k : Nat), eI nx, .c (.rs 0 0 f.length)] [(0, dH f)] (aZ (.tup [.c (.rs 1 0 (am t nx f).1.length), eI (am t nx f).2, eI (k' : Nat)]) [(1, dH (am t nx f).1)])
 | .node s a [x, y], k, k', h, ht, nx, f, hf => by
  obtain ⟨e1, e2, e3, e4, e5⟩ := bQ h
  obtain rfl := cj h
  obtain ⟨k1, i1, i2⟩ := bK e4
  obtain ⟨k2, i3, i4⟩ := bK i2
  obtain rfl := c7 i4
  have hxy := fun nx f h => mM h1 h2 hb i1 ht.2.2.2.1 nx f h
  have hyy := fun nx f h => mM h1 h2 hb i3 ht.2.2.2.2.1 nx f h
  by_cases hk : s.kind = 1
  exact r9 h1 h2 hk i1 hxy (fun nx f => dm ht.2.2.2.1) hyy (fun nx f => dm ht.2.2.2.2.1) e1 e2.symm hb hf
  have hk7 : s.kind = 7 := by
   have h3 : bh s.kind = 2 := e5.symm
   unfold bh at h3
   split at h3
   omega
   split at h3
   assumption
   split at h3 <;> omega
  exact r8 h1 h2 hk7 hxy (fun nx f => dm ht.2.2.2.1) hyy (fun nx f => dm ht.2.2.2.2.1) e1 e2.symm hb hf
 | .node s a [x], k, k', h, ht, nx, f, hf => by
  obtain ⟨e1, e2, e3, e4, e5⟩ := bQ h
  obtain rfl := cj h
  obtain ⟨k1, i1, i2⟩ := bK e4
  obtain rfl := c7 i2
  exact r7 h1 h2 (gq e5.symm) (fun nx f h => mM h1 h2 hb i1 ht.2.2.2.1 nx f h) (fun nx f => dm ht.2.2.2.1) e1 e2.symm hb hf
 | .node s a [], k, k', h, ht, nx, f, hf => by
  obtain ⟨e1, e2, e3, e4, e5⟩ := bQ h
  obtain rfl := cj h
  obtain rfl := c7 e4
  exact sa h1 h2 e5.symm e1 e2.symm hb hf
 | .node s a (x :: y :: z :: ks), k, k', h, ht, nx, f, hf => by
  have h1 : ((x :: y :: z :: ks).length : Int) = bh s.kind := ht.2.2.1.2
  have h2 := (cm s.kind).2
  simp only [List.length_cons] at h1
  omega
structure Ext (b : List Sm) (f g : List Fl) : Prop where
  len : f.length ≤ g.length
  stmt : ∀ i, i < f.length → (g.getD i default).stmt = (f.getD i default).stmt
  same : ∀ i, i < f.length → ∀ k : Nat, (f.getD i default).stmt = (k : Nat) → (b.getD k default).kind ≠ 8 → g.getD i default = f.getD i default
theorem Ext.trans {b : List Sm} {f g h : List Fl} (a : Ext b f g) (c : Ext b g h) : Ext b f h :=
  ⟨Nat.le_trans a.len c.len, fun i hi => (c.stmt i (Nat.lt_of_lt_of_le hi a.len)).trans (a.stmt i hi), fun i hi k hk h8 => (c.same i (Nat.lt_of_lt_of_le hi a.len) k ((a.stmt i hi).trans hk) h8).trans (a.same i hi k hk h8)⟩
theorem dk {f : List Fl} {x : Fl} {i : Nat} (h : i < f.length) : (f ++ [x]).getD i default = f.getD i default := by
 simp [List.getD_eq_getElem?_getD, List.getElem?_append_left h]
theorem c9 {f : List Fl} {x : Fl} : (f ++ [x]).getD f.length default = x := by simp [List.getD_eq_getElem?_getD]
theorem Ext.app {b : List Sm} {f : List Fl} {x : Fl} : Ext b f (f ++ [x]) := ⟨by simp, fun i hi => by rw [dk hi], fun i hi _ _ _ => dk hi⟩
theorem Ext.set {b : List Sm} {f : List Fl} {n k : Nat} {v : Int} (hn : n < f.length) (hs : (f.getD n default).stmt = (k : Nat)) (h8 : (b.getD k default).kind = 8) : Ext b f (f.set n ⟨(f.getD n default).stmt, v, (f.getD n default).other⟩) := by
 refine ⟨by simp, fun i hi => ?_, fun i hi j hj hne => ?_⟩
 by_cases e : i = n
 subst e; simp [List.getD_eq_getElem?_getD, List.getElem?_set, hi]
 simp [List.getD_eq_getElem?_getD, List.getElem?_set, Ne.symm e]
 have e : i ≠ n := by
  rintro rfl
  rw [hs] at hj
  have : j = k := by omega
  subst this
  exact hne h8
 simp [List.getD_eq_getElem?_getD, List.getElem?_set, Ne.symm e]
theorem Pl.ext {b : List Sm} {f g : List Fl} (h : Ext b f g) {i : Int} {r : List Fr} (p : Pl b f i r) : Pl b g i r := by
 induction p with
 | nil => exact .nil
 | lp hi hs hk hb => exact .lp (Nat.lt_of_lt_of_le hi h.len) ((h.stmt _ hi).trans hs) hk hb
 | @leaf i k r hi hs hk hb p ih =>
  have hne := fg hb
  refine .leaf (Nat.lt_of_lt_of_le hi h.len) ((h.stmt _ hi).trans hs) hk hb ?_
  rw [h.same _ hi _ hs hne.2.2]; exact ih
 | seq hb p ih => exact .seq hb ih
 | @cond i k x y r hi hs hk hb p1 p2 ih1 ih2 =>
  have hne : (b.getD k default).kind ≠ 8 := by omega
  refine .cond (Nat.lt_of_lt_of_le hi h.len) ((h.stmt _ hi).trans hs) hk hb ?_ ?_
  rw [h.same _ hi _ hs hne]; exact ih1
  rw [h.same _ hi _ hs hne]; exact ih2
 | loop hi hs hk hb => exact .loop (Nat.lt_of_lt_of_le hi h.len) ((h.stmt _ hi).trans hs) hk hb
structure Lp where
  s : Sm
  a : Nat
  x : Tr
  r : List Fr
def aQ (b : List Sm) : Tr → List Fr → List Lp
  | .node s a [x, y], r => if s.kind = 1 then aQ b x (.st y :: r) ++ aQ b y r else aQ b x r ++ aQ b y r
  | .node s a [x], r => ⟨s, a.toNat, x, r⟩ :: aQ b x [.lp (aS b a.toNat)]
  | _, _ => []
def LpAt (b : List Sm) (f : List Fl) (i : Nat) (q : Lp) : Prop :=
  i < f.length ∧ (f.getD i default).stmt = (q.a : Nat) ∧ Pl b f (f.getD i default).next [.st q.x, .lp (aS b q.a)] ∧ Pl b f (f.getD i default).other q.r
structure Bld (b : List Sm) (t : Tr) (r : List Fr) (f : List Fl) (g : List Fl × Int) : Prop where
  ext : Ext b f g.1
  pl : Pl b g.1 g.2 (.st t :: r)
  old : ∀ i, i < f.length → g.1.getD i default = f.getD i default
  new : ∀ i, f.length ≤ i → i < g.1.length → ∀ k : Nat, (g.1.getD i default).stmt = (k : Nat) → (b.getD k default).kind = 8 → ∃ q ∈ aQ b t r, LpAt b g.1 i q
  all : ∀ q ∈ aQ b t r, ∃ i, f.length ≤ i ∧ LpAt b g.1 i q
theorem LpAt.ext {b : List Sm} {f g : List Fl} {i : Nat} {q : Lp} (h : LpAt b f i q) (he : Ext b f g) (ho : g.getD i default = f.getD i default) : LpAt b g i q := by
 obtain ⟨h1, h2, h3, h4⟩ := h
 refine ⟨Nat.lt_of_lt_of_le h1 he.len, by rw [ho]; exact h2, by rw [ho]; exact h3.ext he, by rw [ho]; exact h4.ext he⟩
theorem du {b : List Sm} {s : Sm} {a : Int} {x y : Tr} {r : List Fr} : aQ b (.node s a [x, y]) r = if s.kind = 1 then aQ b x (.st y :: r) ++ aQ b y r else aQ b x r ++ aQ b y r := by rw [aQ]
theorem gR {b : List Sm} {s : Sm} {a : Int} {x : Tr} {r : List Fr} : aQ b (.node s a [x]) r = ⟨s, a.toNat, x, r⟩ :: aQ b x [.lp (aS b a.toNat)] := by rw [aQ]
theorem fB {b : List Sm} {s : Sm} {a : Int} {r : List Fr} : aQ b (.node s a []) r = [] := by rw [aQ] <;> simp
theorem dU {b : List Sm} : ∀ {t : Tr} {k k' : Nat}, bJ b k = some (t, k') → ∀ {nx : Int} {f : List Fl} {r : List Fr}, Pl b f nx r → Bld b t r f (am t nx f)
 | .node s a [x, y], k, k', h, nx, f, r, hp => by
  obtain ⟨e1, rfl, e3, e4, e5⟩ := bQ h
  obtain rfl := cj h
  obtain ⟨k1, i1, i2⟩ := bK e4
  obtain ⟨k2, i3, i4⟩ := bK i2
  rw [gV]
  by_cases hk : (b.getD k default).kind = 1
  rw [if_pos hk]
  have hy := dU i3 hp
  have hx := dU i1 hy.pl
  have hl := hy.ext.len
  refine ⟨hy.ext.trans hx.ext, .seq hk hx.pl, fun i hi => (hx.old i (by omega)).trans (hy.old i hi), fun i h1 h2 j h3 h4 => ?_, fun q hq => ?_⟩
  rw [du, if_pos hk]
  rcases Nat.lt_or_ge i (am y nx f).1.length with h5 | h5
  rw [hx.old i h5] at h3
  obtain ⟨q, hq, hl⟩ := hy.new i h1 h5 j h3 h4
  exact ⟨q, List.mem_append_right _ hq, hl.ext hx.ext (hx.old i h5)⟩
  obtain ⟨q, hq, hl⟩ := hx.new i h5 h2 j h3 h4
  exact ⟨q, List.mem_append_left _ hq, hl⟩
  rw [du, if_pos hk] at hq
  rcases List.mem_append.1 hq with hq | hq
  obtain ⟨i, h1, h2⟩ := hx.all q hq; exact ⟨i, by omega, h2⟩
  obtain ⟨i, h1, h2⟩ := hy.all q hq; exact ⟨i, h1, h2.ext hx.ext (hx.old i h2.1)⟩
  rw [if_neg hk]
  have hk7 : (b.getD k default).kind = 7 := by
   have h3 : bh (b.getD k default).kind = 2 := e5.symm
   unfold bh at h3
   split at h3
   omega
   split at h3
   assumption
   split at h3 <;> omega
  have hx := dU i1 hp
  have hy := dU i3 (hp.ext hx.ext)
  have hl := hx.ext.len
  have hl2 := hy.ext.len
  have hE : Ext b (am y nx (am x nx f).1).1 ((am y nx (am x nx f).1).1 ++ [⟨((k : Nat) : Int), (am x nx f).2, (am y nx (am x nx f).1).2⟩]) := Ext.app
  refine ⟨(hx.ext.trans hy.ext).trans hE, ?_, fun i hi => (dk (by omega)).trans ((hy.old i (by omega)).trans (hx.old i hi)), fun i h1 h2 j h3 h4 => ?_, fun q hq => ?_⟩
  refine .cond (by simp) (by rw [c9]) e1 hk7 ?_ ?_
  rw [c9]; exact (hx.pl.ext hy.ext).ext hE
  rw [c9]; exact hy.pl.ext hE
  rw [du, if_neg hk]
  simp only [List.length_append, List.length_singleton] at h2
  rcases Nat.lt_or_ge i (am y nx (am x nx f).1).1.length with h6 | h6
  rw [dk h6] at h3
  rcases Nat.lt_or_ge i (am x nx f).1.length with h5 | h5
  rw [hy.old i h5] at h3
  obtain ⟨q, hq, hl⟩ := hx.new i h1 h5 j h3 h4
  exact ⟨q, List.mem_append_left _ hq, (hl.ext hy.ext (hy.old i h5)).ext hE (dk h6)⟩
  obtain ⟨q, hq, hl⟩ := hy.new i h5 h6 j h3 h4
  exact ⟨q, List.mem_append_right _ hq, hl.ext hE (dk h6)⟩
  obtain rfl : i = (am y nx (am x nx f).1).1.length := by omega
  rw [c9] at h3
  have : j = k := by have h3 : ((k : Nat) : Int) = (j : Nat) := h3; omega
  subst this
  omega
  rw [du, if_neg hk] at hq
  rcases List.mem_append.1 hq with hq | hq
  obtain ⟨i, h1, h2⟩ := hx.all q hq; exact ⟨i, h1, (h2.ext hy.ext (hy.old i h2.1)).ext hE (dk (Nat.lt_of_lt_of_le h2.1 hl2))⟩
  obtain ⟨i, h1, h2⟩ := hy.all q hq; exact ⟨i, by omega, h2.ext hE (dk h2.1)⟩
 | .node s a [x], k, k', h, nx, f, r, hp => by
  obtain ⟨e1, rfl, e3, e4, e5⟩ := bQ h
  obtain rfl := cj h
  obtain ⟨k1, i1, i2⟩ := bK e4
  have hk8 : (b.getD k default).kind = 8 := gq e5.symm
  rw [jz]
  have hE0 : Ext b f (f ++ [⟨((k : Nat) : Int), 0, nx⟩]) := Ext.app
  have hl0 : (f ++ [(⟨((k : Nat) : Int), 0, nx⟩ : Fl)]).length = f.length + 1 := by simp
  have p0 : Pl b (f ++ [⟨((k : Nat) : Int), 0, nx⟩]) (f.length : Nat) [.lp (aS b k)] := .lp (by simp) (by rw [c9]) e1 hk8
  have hx := dU i1 p0
  have hlx := hx.ext.len
  obtain ⟨R, hR⟩ : ∃ R, R = am x (f.length : Nat) (f ++ [⟨((k : Nat) : Int), 0, nx⟩]) := ⟨_, rfl⟩
  rw [← hR] at hx hlx ⊢
  have hold := hx.old f.length (by omega)
  rw [c9] at hold
  have hES : Ext b R.1 (R.1.set f.length ⟨(R.1.getD f.length default).stmt, R.2, (R.1.getD f.length default).other⟩) := Ext.set (k := k) (by omega) (by rw [hold]) hk8
  have hnew : (R.1.set f.length ⟨(R.1.getD f.length default).stmt, R.2, (R.1.getD f.length default).other⟩).getD f.length default = ⟨((k : Nat) : Int), R.2, nx⟩ := by
   rw [hold]; simp [List.getD_eq_getElem?_getD, List.getElem?_set, show f.length < R.1.length by omega]
  have hoth : ∀ i, i ≠ f.length → (R.1.set f.length ⟨(R.1.getD f.length default).stmt, R.2, (R.1.getD f.length default).other⟩).getD i default = R.1.getD i default := fun i hi => by
   simp [List.getD_eq_getElem?_getD, List.getElem?_set, Ne.symm hi]
  have hE := (hE0.trans hx.ext).trans hES
  have hself : LpAt b (R.1.set f.length ⟨(R.1.getD f.length default).stmt, R.2, (R.1.getD f.length default).other⟩) f.length ⟨b.getD k default, k, x, r⟩ := by
   refine ⟨by simp; omega, by rw [hnew], ?_, ?_⟩
   rw [hnew]; exact hx.pl.ext hES
   rw [hnew]; exact hp.ext hE
  refine ⟨hE, .loop (by simp; omega) (by rw [hnew]) e1 hk8, fun i hi => (hoth i (by omega)).trans ((hx.old i (by omega)).trans (dk hi)), fun i h1 h2 j h3 h4 => ?_, fun q hq => ?_⟩
  rw [gR]
  by_cases e : i = f.length
  subst e; exact ⟨_, List.mem_cons_self, hself⟩
  rw [hoth i e] at h3
  simp only [List.length_set] at h2
  obtain ⟨q, hq, hl⟩ := hx.new i (by omega) h2 j h3 h4
  exact ⟨q, List.mem_cons_of_mem _ hq, hl.ext hES (hoth i e)⟩
  rw [gR] at hq
  rcases List.mem_cons.1 hq with rfl | hq
  exact ⟨f.length, Nat.le_refl _, hself⟩
  obtain ⟨i, h1, h2⟩ := hx.all q hq; exact ⟨i, by omega, h2.ext hES (hoth i (by omega))⟩
 | .node s a [], k, k', h, nx, f, r, hp => by
  obtain ⟨e1, rfl, e3, e4, e5⟩ := bQ h
  obtain rfl := cj h
  have h0 : bh (b.getD k default).kind = 0 := e5.symm
  have hne := fg h0
  rw [jA]
  refine ⟨Ext.app, .leaf (by simp) (by rw [c9]) e1 h0 (by rw [c9]; exact hp.ext Ext.app), fun i hi => dk hi, fun i h1 h2 j h3 h4 => ?_, fun q hq => by rw [fB] at hq; cases hq⟩
  simp only [List.length_append, List.length_singleton] at h2
  obtain rfl : i = f.length := by omega
  rw [c9] at h3
  have : j = k := by have h3 : ((k : Nat) : Int) = (j : Nat) := h3; omega
  subst this
  exact absurd h4 hne.2.2
 | .node s a (x :: y :: z :: ks), k, k', h, nx, f, r, hp => by
  obtain ⟨e1, rfl, e3, e4, e5⟩ := bQ h
  have h2 := (cm (b.getD k default).kind).2
  simp only [List.length_cons] at e5
  omega
def kY (b : List Sm) : Nat → List Int
  | 0 => []
  | i + 1 => kY b i ++ if (b.getD i default).kind = 8 then [(i : Int)] else []
theorem eg {b : List Sm} : ∀ {i : Nat}, (kY b i).length = aS b i
 | 0 => rfl
 | i + 1 => by rw [kY, aS, List.length_append, eg]; split <;> simp
theorem eC {b : List Sm} {i j : Nat} (h : i ≤ j) : aS b i ≤ aS b j := by
 induction h with
 | refl => exact Nat.le_refl _
 | step _ ih => rw [aS]; omega
theorem nE {b : List Sm} : ∀ {j i : Nat}, i < j → (b.getD i default).kind = 8 → (kY b j).getD (aS b i) default = (i : Int)
 | j + 1, i, hi, h8 => by
  rw [kY]
  rcases Nat.lt_or_ge i j with h | h
  have h1 := eC (b := b) (show i + 1 ≤ j by omega)
  rw [aS, if_pos h8] at h1
  rw [List.getD_eq_getElem?_getD, List.getElem?_append_left (by rw [eg]; omega), ← List.getD_eq_getElem?_getD]
  exact nE h h8
  obtain rfl : i = j := by omega
  rw [if_pos h8, List.getD_eq_getElem?_getD, List.getElem?_append_right (by rw [eg]; exact Nat.le_refl _), eg]
  simp
theorem oV {pre post : List Tm} {b : List Sm} (hb : b.length ≤ 1000) : MQ h1 h2 50 [ptr [bX pre, eZ b, bX post]] [] (Plain (cD (kY b b.length))) := by
 refine MC.data (jB 29 h1 h2 Tryz.func50 Z Z Z fun O hF => ?_)
 refine ag (js O Z (aP (AOps.heap (bE O Z Z Z) Z (js O Z (jn (AWP.seq (ag (js O Z (jn (AWP.block (az (X := Nat) (fun i => ⟨[(0, ptr [bX pre, eZ b, bX post]), (3, .c (.rs 900 0 (kY b i).length)), (4, eI i)], [(900, ba (kY b i))]⟩) (fun i => i ≤ b.length) (fun i => b.length - i) 0 ((af 5 900 Z Z).trans (Ent.to ⟨Z, Z, Z, trivial⟩ Z)) ?_ (fun i hi => ?_))))))))))))
 exact Nat.zero_le _
 refine AWP.seq (ag (j4 O Z Z Z Z (js O Z ?_)))
 first | refine cy O Z Z Z Z Z Z Z Z Z Z Z ?_ | refine js O Z ?_ | refine aY O Z Z Z Z Z ?_
 refine js O Z (jf [12,0,3,4] Z (jn (AWP.cond O Z Z (fun hc12 => ?_) (fun hc12 => ?_))))
 refine AWP.skip (AWP.seq (AWP.block (ag (j4 O Z Z Z Z (js O Z ?_)))))
 have hil : i < b.length := by have := of_decide_eq_true hc12; omega
 have hwl := eg (b := b) (i := i)
 have hwn := cS (b := b) (k := i)
 refine aa (aB O Z Z Z Z Z Z Z Z (cq hil)) Z Z Z (j3 O Z Z Z (jf [23,12,0,3,4] Z (jn (AWP.cond O Z Z (fun hc23 => ?_) (fun hc23 => ?_)))))
 refine AWP.region (j2 O Z Z (AOps.heap (bE O Z Z Z) Z (jf [26,24,23,12,0,3,4] Z (AOps.heap (cX (zs := (kY b i ++ [(i : Int)]).map fun n => [.int .i64 n]) (n := (kY b i ++ [(i : Int)]).length) O Z Z Z Z Z Z Z Z Z Z Z Z Z Z Z Z (.row Z (by simp)) Z Z (by decide) Z (by simp; omega) (by simp; omega) (by simp) (by simp)) Z (js O Z (jf [3,23,12,0,4] Z (jn (AWP.region (js O Z ?_)))))))))
 first | refine ji O Z ?_ | refine aY O Z Z Z Z Z ?_
 refine js O Z (jf [4,3,23,12,0] Z (jn ?_))
 have hw : kY b (i + 1) = kY b i ++ [(i : Int)] := by rw [kY, if_pos (of_decide_eq_true hc23)]
 refine ⟨i + 1, ((aT [27] (e' := [(0, _), (3, _), (4, _)]) Z Z ⟨Z, Z, Z, trivial⟩ Z).trans (af 27 900 Z Z)).trans (Ent.to ⟨Z, by rw [hw]; rfl, Z, trivial⟩ (by rw [hw]; rfl)), by omega, by omega⟩
 refine AWP.skip (AWP.region (js O Z ?_))
 first | refine ji O Z ?_ | refine aY O Z Z Z Z Z ?_
 refine js O Z (jf [4,23,12,0,3] Z (jn ?_))
 have hw : kY b (i + 1) = kY b i := by rw [kY, if_neg (of_decide_eq_false hc23), List.append_nil]
 refine ⟨i + 1, (aT [900] (e' := [(0, _), (3, _), (4, _)]) Z Z ⟨Z, Z, Z, trivial⟩ Z).trans (Ent.to ⟨Z, by rw [hw]; rfl, Z, trivial⟩ (by rw [hw]; rfl)), by omega, by omega⟩
 refine AWP.exit (ag (j2 O Z Z (jn (AWP.ret ?_))))
 refine ⟨.inl Z, _, Ent.refl, _, Z, ?_⟩
 obtain rfl : i = b.length := by have := of_decide_eq_false hc12; omega
 exact .v (.c (.whole Z (List.length_map _).symm))
theorem oW {pre post : List Tm} {b : List Sm} {n : Int} (hb : b.length ≤ 1000) : MQ h1 h2 28 [ptr [bX pre, eZ b, bX post], eI n] [] (Plain (eB (decide (-1 ≤ n) && decide (n ≤ (aS b b.length : Int) - 1)))) := by
 refine jB 11 h1 h2 Tryz.func28 Z Z Z fun O hF => ?_
 have hwl := eg (b := b) (i := b.length)
 have hwn := cS (b := b) (k := b.length)
 refine ag (js O Z (aP (j2 O Z Z (jf [6,5,4] Z (ao O Z Z Z Z (oV (pre := pre) (post := post) (b := b) h1 h2 hb) (ab Z) Z Z Z Z (B0 := 8000) Z Z ?_)))))
 first | refine cy O Z Z Z Z Z Z Z Z Z Z Z ?_ | refine js O Z ?_ | refine aY O Z Z Z Z Z ?_
 first | refine ji O Z ?_ | refine aY O Z Z Z Z Z ?_
 refine jf [9,5,4] Z (ae O Z Z Z Z (ud (x := n) (lo := -1) (hi := ((kY b b.length).length : Int) - 1) h1 h2) (ab Z) Z Z Z Z Z (B0 := 11000) Z (js O Z (jf [4] Z (jn (AWP.ret ?_)))))
 refine ⟨.inl Z, _, Ent.refl, _, Z, ?_⟩
 rw [hwl]
 exact ⟨Z, Z⟩
theorem tQ {pre post : List Tm} {b : List Sm} : MQ h1 h2 53 [ptr [bX pre, eZ b, bX post], eI (-1)] [] (Plain (cr pre)) := by
 refine MC.data (jB 25 h1 h2 Tryz.func53 Z Z Z fun O hF => ?_)
 refine ag (js O Z (jn (AWP.seq (ag (j2 O Z Z (jn (AWP.cond O Z Z (fun hc6 => ?_) (fun hc6 => ?_))))))))
 refine ag (j4 O Z Z Z Z (jf [10,5,4,0,1] Z (ao O Z Z Z Z (se (ts := pre) h1 h2) (ab Z) Z Z Z Z (B0 := 12000) Z Z (js O Z (jf [4,5,0,1] Z (jn (AWP.ret ?_)))))))
 refine ⟨.inl Z, _, Ent.refl, _, Z, ?_⟩
 exact .v (.c .d)
 exact absurd hc6 (by decide)
theorem tO {pre post : List Tm} {b : List Sm} {n i : Nat} (hb : b.length ≤ 1000) (hi : i < b.length) (hn : n < aS b b.length) (hw : (kY b b.length).getD n default = (i : Int)) : MQ h1 h2 53 [ptr [bX pre, eZ b, bX post], eI (n : Nat)] [] (Plain (cr (b.getD i default).facts)) := by
 refine MC.data (jB 25 h1 h2 Tryz.func53 Z Z Z fun O hF => ?_)
 have hwl := eg (b := b) (i := b.length)
 refine ag (js O Z (jn (AWP.seq (ag (j2 O Z Z (jn (AWP.cond O Z Z (fun hc6 => ?_) (fun hc6 => ?_))))))))
 exact absurd (of_decide_eq_true hc6) (by omega)
 refine AWP.skip (AWP.seq (jw [5,0,1] Z (f6 O [_,_,_,_,_,_,_,_,_,_,_,_,_,_] [pn [] 0 1, pn [0] 0 1, pn [0,1] 0 1, pn [0,1,2] 0 1, pn [] 0 0, pe [4] 0, pn [] 0 1, pn [4,5,6] 1 1, pn [4,5,6,7] 1 1, pn [0,1,2,3,4,5,6,7,8] 1 1, pn [0,1,2,3,4,5,6,7,8,9] 1 1, pn [0,1,2,3,4,5,6,7,8,9,10] 1 1, pe [0,1,2,3,4,5,6,7,8,9,10,11] 1, pn [0,1,2,3,4,5,6,7,8,9,10,11,12] 2 2] [5,12] [_,_,_] (ai (kc O Z (V O Z)) (ai (kc O Z (V O Z)) (ai (kc O Z (V O Z)) (ai (kc O Z (V O Z)) (kc O Z (ai (bj O (B0 := 18000) Z Z Z Z (oV (pre := pre) (post := post) (b := b) h1 h2 hb) (ab Z) Z Z Z Z Z) (ai (kc O Z (V O Z)) (ai ((aB O Z Z Z Z Z Z Z Z (cq (by omega))).cast (v' := ptr [.int .i64 (i : Nat)]) (by rw [hw])) (kc O Z (ai (aB O Z Z Z Z Z Z Z Z (cq hi)) (kc O Z (kc O Z (ai (bj O (B0 := 25000) Z Z Z Z (se (ts := (b.getD i default).facts) h1 h2) (ab Z) Z Z Z Z Z) (kc O Z trivial)))))))))))))) ?_)))
 refine jw [4,5,0,1] Z (bZ ?_)
 refine AWP.ret ?_
 refine ⟨.inl Z, _, Ent.refl, _, Z, ?_⟩
 exact .v (.c .d)
def lU (i : Nat) : List Tm := (List.range i).map jb
theorem fQ {i : Nat} : (lU i).length = i := by simp [lU]
theorem mO {i : Nat} : lU (i + 1) = lU i ++ [jb i] := by simp [lU, List.range_succ]
theorem sI : MQ h1 h2 52 [] [] (Plain (cr (lU 4))) := by
 refine MC.data (jB 22 h1 h2 Tryz.func52 Z Z Z fun O hF => ?_)
 refine ag (js O Z (aP (AOps.heap (bE O Z Z Z) Z (aq ?_))))
 refine js O Z (jn (AWP.seq (ag (js O Z (jn (AWP.block (az (X := Nat) (fun i => ⟨[(1, .c (.rs 900 0 i)), (2, eI i)], [(900, aE (lU i))]⟩) (fun i => i ≤ 4) (fun i => 4 - i) 0 ((cp 4 Z).trans ((af 4 900 Z Z).trans (Ent.to ⟨Z, Z, trivial⟩ Z))) ?_ (fun i hi => ?_))))))))
 exact Nat.zero_le _
 refine AWP.seq (ag (j2 O Z Z (jn (AWP.cond O Z Z (fun hc6 => ?_) (fun hc6 => ?_)))))
 refine AWP.skip (AWP.seq (AWP.block (ag (js O Z ?_))))
 first | refine ji O Z ?_ | refine aY O Z Z Z Z Z ?_
 refine jf [10,6,5,1,2] Z (AOps.heap (er O Z Z Z Z Z Z Z Z Z (by first | omega | (simp at *; omega)) (by first | omega | (simp at *; omega)) (by first | omega | (simp at *; omega)) (by first | omega | (dsimp only; omega) | (simp only [List.length_map, beq_iff_eq, decide_eq_true_eq, decide_eq_false_iff_not, Bool.not_eq_true', Bool.not_eq_false', Bool.not_true, Bool.not_false, Int.not_lt, Int.not_le] at *; omega)) (by first | omega | (simp at *; omega)) Z Z Z) Z (aq ?_))
 refine js O Z (jf [12,6,5,1,2] Z (jl O Z Z Z Z Z Z (aq ?_)))
 refine jo O Z Z Z Z Z Z Z Z Z Z Z Z (aq ?_)
 refine aP (j3 O Z Z Z ?_)
 first | refine oE O Z Z Z Z Z Z Z Z Z Z Z ?_ | refine dR O Z Z Z Z Z Z Z Z Z Z Z ?_ | refine aY O Z Z Z Z Z ?_
 refine jf [16,3,12,6,5,1,2] Z (AOps.heap (bq (ex := [.int .i64 0]) (xs' := ((List.replicate i 0 ++ [1] : List Int)).map (fun n => [D.int .i64 n])) O Z Z Z Z Z Z Z Z Z Z Z Z Z Z ke kd) Z (aq ?_))
 refine jn (AWP.region (aA (Ent.freeze 11 (e' := [(1, _), (2, _), (3, _)]) Z (.cons Z (.keep Z) (.cons Z (.keep Z) (.cons Z (.keep Z) .nil))) (.cons Z (.box (.cons (.keep Z) (.cons (.row Z (by simp)) .nil))) (.skip (.cons Z .row .nil)))) ?_))
 refine j2 O Z Z (AOps.heap (dO O Z Z Z Z Z Z Z Z Z Z Z) Z (aq ?_))
 refine jf [19,17,1,2,3] Z ?_
 have hvl := fQ (i := i)
 refine AOps.heap (bD (own := false) (xs := (lU i).map Tm.cells) (ys := [Tm.cells (jb i)]) (zs := (lU (i + 1)).map Tm.cells) (n := i + 1) O Z Z Z Z Z Z Z Z Z Z Z Z Z Z Z Z (.row Z (by simp; omega)) (.whole Z Z (.inr ⟨Z, Z⟩)) (by simp) Z (by simp; omega) (by simp; omega) (by rw [mO, List.map_append]; rfl) (by simp [fQ])) Z (aq ?_)
 refine aq ?_
 refine js O Z (jf [1,2,3] Z (jn (AWP.region (js O Z ?_))))
 first | refine ji O Z ?_ | refine aY O Z Z Z Z Z ?_
 refine js O Z (jf [2,1,3] Z (jn ?_))
 refine ⟨i + 1, ((aT [20] (e' := [(1, _), (2, _)]) Z Z ⟨Z, Z, trivial⟩ Z).trans (af 20 900 Z Z)).trans (Ent.to ⟨Z, Z, trivial⟩ Z), by have := of_decide_eq_true hc6; omega, by have := of_decide_eq_true hc6; omega⟩
 refine AWP.exit (ag (j2 O Z Z (jn (AWP.ret ?_))))
 refine ⟨.inl Z, _, Ent.refl, _, Z, ?_⟩
 obtain rfl : i = 4 := by have := of_decide_eq_false hc6; omega
 exact .v (.c (.whole Z (by simp [fQ])))
def w0 (fs : List Tm) : Pw := ⟨lU 4, fs, [], 4⟩
def g0 : Gs := ⟨[], [], false⟩
theorem lh {n : Nat} {fs : List Tm} (h : fs.length + n ≤ 64) : WOk n (w0 fs) := ⟨fQ, by show ∀ t ∈ lU 4, t.ok = true; decide, h, by show (0 : Nat) + n ≤ 64; omega, by show (4 : Nat) ≤ 10; decide⟩
theorem lm : GOk 0 g0 := ⟨by show (0 : Nat) ≤ 201; decide, fun _ => by show (0 : Nat) ≤ 200; decide, Nat.le_refl _⟩
def ug (f : List Fl) (idx e : Int) : Nat → Int
  | 0 => e
  | j + 1 => if (f.getD j default).stmt = idx then (j : Int) else ug f idx e j
theorem ph {f : List Fl} {idx e : Int} : ∀ {j i : Nat}, i < j → (f.getD i default).stmt = idx → ∃ p : Nat, p < j ∧ ug f idx e j = (p : Int) ∧ (f.getD p default).stmt = idx
 | j + 1, i, hi, hs => by
  rw [ug]
  split
  rename_i h; exact ⟨j, by omega, rfl, h⟩
  rename_i h
  obtain ⟨p, h1, h2, h3⟩ := ph (e := e) (show i < j by
   rcases Nat.lt_or_ge i j with h4 | h4
   · exact h4
   · obtain rfl : i = j := by omega
     exact absurd hs h) hs
  exact ⟨p, by omega, h2, h3⟩
theorem tS {pre : List Tm} {b : List Sm} {t : Tr} {E : Pe} (hbl : b.length ≤ 30) (hT : bJ b 0 = some (t, b.length)) (hck : t.cok b.length) (hnd : t.nodes ≤ 30) (hE : EOk E b) (hpl : pre.length ≤ 6) (hL : 10000000 ≤ L) : MQ h1 h2 29 [ptr [bX pre, eZ b, bX E.post], eI (-1)] [] (aZ (.c (.pt 0 0 0)) (fm (pP pre b E.post) (cz (am t (-1) []).1) (-1) (dz aW E (-1) 31 [.st t] (w0 pre) g0))) := by
 refine aF 500 Z (MC.keep [500,505,506] (bs := [ee (pP pre b E.post) (cz (am t (-1) []).1) (-1) (dz aW E (-1) 31 [.st t] (w0 pre) g0) 505 506, bz (dz aW E (-1) 31 [.st t] (w0 pre) g0).paths, bA (dz aW E (-1) 31 [.st t] (w0 pre) g0).conds]) Z Z (jB 65 h1 h2 Tryz.func29 Z Z Z fun O hF => ?_))
 have hfl := (dm hck (nx := -1) (f := [])).2
 have hB := dU hT (nx := -1) (f := []) (r := []) .nil
 refine ag (js O Z (aP (j4 O Z Z Z Z (jf [17,4,0,1] Z (AOps.heap (bE O Z Z Z) Z (aq ?_))))))
 refine ap O [18] (bin := [dH []]) Z Z Z Z (mM (b := b) h1 h2 (by omega) hT hck (-1) [] (by show (0 : Nat) + t.nodes ≤ 2000; omega)) Z Z Z Z Z Z (B0 := 20000) Z Z (aq ?_)
 refine j4 O Z Z Z Z (j3 O Z Z Z (jf [6,5,4,0,1] Z (aP (aA (Ent.freeze 20001 (e' := [(0, _), (1, _), (5, _), (6, _)]) Z (.cons Z (.keep Z) (.cons Z (.keep Z) (.cons Z (.c (.row Z (List.length_map _).symm)) (.cons Z (.keep Z) .nil)))) (.skip .nil)) ?_))))
 refine j3 O Z Z Z (AOps.heap (bE O Z Z Z) Z (aq ?_))
 refine aA (cp 26 Z) (aq ?_)
 refine aq ?_
 refine AOps.heap (bE O Z Z Z) Z (aq ?_)
 refine aA (cp 27 Z) (aq ?_)
 refine aq ?_
 refine js O Z (jf [28,0,1,5,6] Z (jx O Z Z Z Z Z Z Z Z (aq ?_)))
 refine js O Z (jf [8,0,1,5,6] Z (aP (j2 O Z Z (jf [9,8,0,1,5] Z (jn (AWP.seq (ag (j2 O Z Z (jn (AWP.cond O Z Z (fun hc32 => ?_) (fun hc32 => ?_)))))))))))
 exact absurd (of_decide_eq_true hc32) (by decide)
 refine AWP.skip (ag (ao O Z Z Z Z (sI h1 h2) (ab Z) Z Z Z Z (B0 := 53000) Z Z (j2 O Z Z (jf [54,53,52,31,9,8,0,1,5] Z (ao O Z Z Z Z (tQ (pre := pre) (post := E.post) (b := b) h1 h2) (ab Z) Z Z Z Z (B0 := 56000) Z Z (jf [55,52,31,9,8,0,1,5] Z (AOps.heap (bE O Z Z Z) Z (aq ?_))))))))
 refine aA (Ent.freeze 56 (e' := [(0, _), (1, _), (8, _), (9, _), (52, _), (55, _), (56, _)]) Z (.cons Z (.keep Z) (.cons Z (.keep Z) (.cons Z (.keep Z) (.cons Z (.keep Z) (.cons Z (.keep Z) (.cons Z (.keep Z) (.cons Z (.c (.row Z Z)) .nil))))))) (.cons Z .row (.cons Z .row (.cons Z (.box (.cons (.keep Z) (.cons (.keep Z) (.cons (.keep Z) (.cons (.keep Z) (.cons (.keep Z) (.cons (.keep Z) .nil))))))) (.skip .nil))))) ?_
 refine aq ?_
 refine js O Z (jf [57,0,1,8,9] Z (jl O Z Z Z Z Z Z (aq ?_)))
 refine jo O Z Z Z Z Z Z Z Z Z Z Z Z (aq ?_)
 refine aP (j4 O Z Z Z Z (aa ((V O Z).cast (v' := eB false) (congrArg eB (by decide))) Z Z Z (jf [62,60,59,58,12,57,0,1,8] Z (ap O [29,26,27] (bin := [ee (pP pre b E.post) (cz (am t (-1) []).1) (-1) g0 1 2, bz g0.paths, bA g0.conds]) Z Z Z Z (km (pre := pre) (b := b) (fl := (am t (-1) []).1) (frm := -1) (E := E) h1 h2 hE (by omega) (n := 31) (r := [.st t]) (w := w0 pre) (g := g0) (c := 0) hB.pl (by show t.nodes + 0 < 31; omega) (lh (by omega)) lm (by have := bR (show aD [.st t] ≤ 30 by show t.nodes + 0 ≤ 30; omega); rw [l8] at this; omega)) Z Z Z Z Z Z (B0 := 64000) Z Z (aq ?_)))))
 refine jf [12,57,0,1,8] Z (aP (j2 O Z Z (jn (AWP.ret ?_))))
 refine ⟨.inl Z, _, ((af 29 500 Z Z).trans (af 64005 505 Z Z)).trans (af 64006 506 Z Z), _, Z, Z, Z⟩
theorem tR {pre : List Tm} {b : List Sm} {t : Tr} {E : Pe} (hbl : b.length ≤ 30) (hT : bJ b 0 = some (t, b.length)) (hck : t.cok b.length) (hnd : t.nodes ≤ 30) (hE : EOk E b) {n : Nat} {q : Lp} (hq : q ∈ aQ b t []) (hun : ∀ p ∈ aQ b t [], p.a = q.a → p = q) (hw : (kY b b.length).getD n default = (q.a : Int)) (hn : n < aS b b.length) (hqk : q.a < b.length) (hq8 : (b.getD q.a default).kind = 8) (hn1 : aD [.st q.x, .lp (aS b q.a)] ≤ 30) (hn2 : aD q.r ≤ 30) (hL : 20000000 ≤ L) : MQ h1 h2 29 [ptr [bX pre, eZ b, bX E.post], eI (n : Nat)] [] (aZ (.c (.pt 0 0 0)) (fm (pP pre b E.post) (cz (am t (-1) []).1) (n : Nat) (cT (dz aW E (n : Nat) 31 [.st q.x, .lp (aS b q.a)]) (dz aW E (n : Nat) 31 q.r) (w0 (b.getD q.a default).facts) (aG (b.getD q.a default).sum (w0 (b.getD q.a default).facts).vars).1 (aR (w0 (b.getD q.a default).facts) (b.getD q.a default).sum g0)))) := by
 refine aF 500 Z (MC.keep [500,505,506] (bs := [ee (pP pre b E.post) (cz (am t (-1) []).1) (n : Nat) (cT (dz aW E (n : Nat) 31 [.st q.x, .lp (aS b q.a)]) (dz aW E (n : Nat) 31 q.r) (w0 (b.getD q.a default).facts) (aG (b.getD q.a default).sum (w0 (b.getD q.a default).facts).vars).1 (aR (w0 (b.getD q.a default).facts) (b.getD q.a default).sum g0)) 505 506, bz (cT (dz aW E (n : Nat) 31 [.st q.x, .lp (aS b q.a)]) (dz aW E (n : Nat) 31 q.r) (w0 (b.getD q.a default).facts) (aG (b.getD q.a default).sum (w0 (b.getD q.a default).facts).vars).1 (aR (w0 (b.getD q.a default).facts) (b.getD q.a default).sum g0)).paths, bA (cT (dz aW E (n : Nat) 31 [.st q.x, .lp (aS b q.a)]) (dz aW E (n : Nat) 31 q.r) (w0 (b.getD q.a default).facts) (aG (b.getD q.a default).sum (w0 (b.getD q.a default).facts).vars).1 (aR (w0 (b.getD q.a default).facts) (b.getD q.a default).sum g0)).conds]) Z Z (jB 65 h1 h2 Tryz.func29 Z Z Z fun O hF => ?_))
 have hfl := (dm hck (nx := -1) (f := [])).2
 have hB := dU hT (nx := -1) (f := []) (r := []) .nil
 have hwl := eg (b := b) (i := b.length)
 have hff := (eh (hE.st _ hqk)).2
 have hFl : (am t (-1) []).1.length ≤ 30 := by have : ([] : List Fl).length = 0 := rfl; omega
 refine ag (js O Z (aP (j4 O Z Z Z Z (jf [17,4,0,1] Z (AOps.heap (bE O Z Z Z) Z (aq ?_))))))
 refine ap O [18] (bin := [dH []]) Z Z Z Z (mM (b := b) h1 h2 (by omega) hT hck (-1) [] (by show (0 : Nat) + t.nodes ≤ 2000; omega)) Z Z Z Z Z Z (B0 := 20000) Z Z (aq ?_)
 refine j4 O Z Z Z Z (j3 O Z Z Z (jf [6,5,4,0,1] Z (aP (aA (Ent.freeze 20001 (e' := [(0, _), (1, _), (5, _), (6, _)]) Z (.cons Z (.keep Z) (.cons Z (.keep Z) (.cons Z (.c (.row Z (List.length_map _).symm)) (.cons Z (.keep Z) .nil)))) (.skip .nil)) ?_))))
 refine j3 O Z Z Z (AOps.heap (bE O Z Z Z) Z (aq ?_))
 refine aA (cp 26 Z) (aq ?_)
 refine aq ?_
 refine AOps.heap (bE O Z Z Z) Z (aq ?_)
 refine aA (cp 27 Z) (aq ?_)
 refine aq ?_
 refine js O Z (jf [28,0,1,5,6] Z (jx O Z Z Z Z Z Z Z Z (aq ?_)))
 refine js O Z (jf [8,0,1,5,6] Z (aP (j2 O Z Z (jf [9,8,0,1,5] Z (jn (AWP.seq (ag (j2 O Z Z (jn (AWP.cond O Z Z (fun hc32 => ?_) (fun hc32 => ?_)))))))))))
 refine ag (js O Z (jf [33,31,9,8,0,1,5] Z (ao O Z Z Z Z (oV (pre := pre) (post := E.post) (b := b) h1 h2 (by omega)) (ab Z) Z Z Z Z (B0 := 35000) Z Z (js O Z (aa ((aB O Z Z Z Z Z Z Z Z (cq (by omega))).cast (v' := ptr [.int .i64 (q.a : Nat)]) (by rw [hw])) Z Z Z (j2 O Z Z (jf [10,31,9,8,0,1,5] Z (aP (js O Z (jn (AWP.block (az (X := Nat) (fun j => ⟨[(0, ptr [bX pre, eZ b, bX E.post]), (1, eI (n : Nat)), (5, .c (.d (cz (am t (-1) []).1))), (8, .c (.pt 29 0 0)), (9, eI (ug (am t (-1) []).1 (q.a : Nat) (am t (-1) []).2 j)), (10, eI (q.a : Nat)), (11, eI j)], [(26, bz []), (27, bA []), (29, ee (pP pre b E.post) (cz (am t (-1) []).1) (n : Nat) g0 26 27)]⟩) (fun j => j ≤ (am t (-1) []).1.length) (fun j => (am t (-1) []).1.length - j) 0 ((aT [26,27,29] (e' := [(0, _), (1, _), (5, _), (8, _), (9, _), (10, _), (11, _)]) Z Z ⟨Z, Z, Z, Z, Z, Z, Z, trivial⟩ Z).trans (Ent.to ⟨Z, Z, Z, Z, Z, Z, Z, trivial⟩ Z)) ?_ (fun j hi => ?_)))))))))))))
 exact Nat.zero_le _
 refine AWP.seq (ag (j2 O Z Z ?_))
 first | refine cy O Z Z Z Z Z Z Z Z Z Z Z ?_ | refine js O Z ?_ | refine aY O Z Z Z Z Z ?_
 refine js O Z (jf [41,0,1,5,8,9,10,11] Z (jn (AWP.cond O Z Z (fun hc41 => ?_) (fun hc41 => ?_))))
 refine AWP.skip (AWP.seq (AWP.block (ag (j2 O Z Z ?_))))
 have hjl : j < (am t (-1) []).1.length := by have := of_decide_eq_true hc41; omega
 refine aa (aB O Z Z Z Z Z Z Z Z (cq hjl)) Z Z Z (j4 O Z Z Z Z (jf [50,41,0,1,5,8,9,10,11] Z (jn (AWP.cond O Z Z (fun hc50 => ?_) (fun hc50 => ?_)))))
 refine AWP.region (j2 O Z Z (jn (AWP.region (js O Z ?_))))
 first | refine ji O Z ?_ | refine aY O Z Z Z Z Z ?_
 refine js O Z (jf [11,9,51,50,41,0,1,5,8,10] Z (jn ?_))
 refine ⟨j + 1, (aT [26,27,29] (e' := [(0, _), (1, _), (5, _), (8, _), (9, _), (10, _), (11, _)]) Z Z ⟨Z, Z, Z, Z, Z, Z, Z, trivial⟩ Z).trans (Ent.to ⟨Z, Z, Z, Z, by rw [ug, if_pos (of_decide_eq_true hc50)]; rfl, Z, Z, trivial⟩ Z), by omega, by omega⟩
 refine AWP.skip (AWP.region (js O Z ?_))
 first | refine ji O Z ?_ | refine aY O Z Z Z Z Z ?_
 refine js O Z (jf [11,50,41,0,1,5,8,9,10] Z (jn ?_))
 refine ⟨j + 1, (aT [26,27,29] (e' := [(0, _), (1, _), (5, _), (8, _), (9, _), (10, _), (11, _)]) Z Z ⟨Z, Z, Z, Z, Z, Z, Z, trivial⟩ Z).trans (Ent.to ⟨Z, Z, Z, Z, by rw [ug, if_neg (of_decide_eq_false hc50)]; rfl, Z, Z, trivial⟩ Z), by omega, by omega⟩
 refine AWP.exit (ag (ao O Z Z Z Z (sI h1 h2) (ab Z) Z Z Z Z (B0 := 53000) Z Z (j2 O Z Z (ao O Z Z Z Z (tO (pre := pre) (post := E.post) (b := b) (n := n) (i := q.a) h1 h2 (by omega) hqk hn hw) (ab Z) Z Z Z Z (B0 := 56000) Z Z (jf [55,52,41,0,1,5,8,9,10,11] Z (AOps.heap (bE O Z Z Z) Z (aq ?_)))))))
 refine aA (Ent.freeze 56 (e' := [(0, _), (1, _), (8, _), (9, _), (52, _), (55, _), (56, _)]) Z (.cons Z (.keep Z) (.cons Z (.keep Z) (.cons Z (.keep Z) (.cons Z (.keep Z) (.cons Z (.keep Z) (.cons Z (.keep Z) (.cons Z (.c (.row Z Z)) .nil))))))) (.cons Z .row (.cons Z .row (.cons Z (.box (.cons (.keep Z) (.cons (.keep Z) (.cons (.keep Z) (.cons (.keep Z) (.cons (.keep Z) (.cons (.keep Z) .nil))))))) (.skip .nil))))) ?_
 refine aq ?_
 refine js O Z (jf [57,0,1,8,9] Z (jl O Z Z Z Z Z Z (aq ?_)))
 refine jo O Z Z Z Z Z Z Z Z Z Z Z Z (aq ?_)
 refine aP (js O Z ?_)
 obtain rfl : j = (am t (-1) []).1.length := by have := of_decide_eq_false hc41; omega
 obtain ⟨i0, hi0, hl0⟩ := hB.all q hq
 obtain ⟨p, hp1, hp2, hp3⟩ := ph (e := (am t (-1) []).2) hl0.1 hl0.2.1
 obtain ⟨q1, hq1, hl1⟩ := hB.new p (Nat.zero_le _) hp1 q.a hp3 hq8
 obtain rfl : q1 = q := hun q1 hq1 (by have := hl1.2.1; rw [hp3] at this; omega)
 rw [hp2]
 refine j3 O Z Z Z (aa ((V O Z).cast (v' := eB true) (congrArg eB (decide_eq_true (by omega)))) Z Z Z (jf [62,60,59,58,12,57,0,1,8,9] Z (ap O [29,26,27] (bin := [ee (pP pre b E.post) (cz (am t (-1) []).1) (n : Nat) g0 1 2, bz g0.paths, bA g0.conds]) Z Z Z Z (tM (pre := pre) (b := b) (fl := (am t (-1) []).1) (frm := (n : Nat)) (E := E) h1 h2 hE (by omega) (n := 31) (w := (w0 (b.getD q1.a default).facts)) (g := g0) (c := 0) Z hp1 hp3 hqk hq8 hl1.2.2.1 hl1.2.2.2 (by omega) (by omega) (lh (by omega)) lm (by have a1 := bR hn1; have a2 := bR hn2; rw [l8] at a1 a2; omega)) Z Z Z Z Z Z (B0 := 64000) Z Z (aq ?_))))
 refine jf [12,57,0,1,8,9] Z (aP (j2 O Z Z (jn (AWP.ret ?_))))
 refine ⟨.inl Z, _, ((af 29 500 Z Z).trans (af 64005 505 Z Z)).trans (af 64006 506 Z Z), _, Z, Z, Z⟩
 exact absurd (of_decide_eq_false hc32) (by omega)
instance : Inhabited Lp := ⟨⟨default, 0, .node default 0 [], []⟩⟩
structure Lps (b : List Sm) (t : Tr) (k k' : Nat) (r : List Fr) : Prop where
  num : (aQ b t r).map (fun q => aS b q.a) = List.range' (aS b k) (aS b k' - aS b k)
  at_ : ∀ q ∈ aQ b t r, k ≤ q.a ∧ q.a < k' ∧ (b.getD q.a default).kind = 8 ∧ q.s = b.getD q.a default
  size : ∀ q ∈ aQ b t r, aD q.r ≤ t.nodes + aD r ∧ q.x.nodes ≤ t.nodes
theorem pF {a b c : Nat} (h : a ≤ b) (g : b ≤ c) : List.range' a (b - a) ++ List.range' b (c - b) = List.range' a (c - a) := by
 have := List.range'_append (s := a) (m := b - a) (n := c - b) (step := 1)
 rw [Nat.one_mul, show a + (b - a) = b by omega, show b - a + (c - b) = c - a by omega] at this
 exact this
theorem po {b : List Sm} : ∀ {t : Tr} {k k' : Nat}, bJ b k = some (t, k') → ∀ {r : List Fr}, Lps b t k k' r
 | .node s a [x, y], k, k', h, r => by
  obtain ⟨e1, rfl, e3, e4, e5⟩ := bQ h
  obtain rfl := cj h
  obtain ⟨k1, i1, i2⟩ := bK e4
  obtain ⟨k2, i3, i4⟩ := bK i2
  obtain rfl := c7 i4
  have hl1 := fz i1; have hl2 := fz i3
  have hy := po i3 (r := r)
  have h8 : ¬ (b.getD k default).kind = 8 := by
   intro h8; rw [h8] at e5; revert e5; simp only [List.length_cons, List.length_nil]; decide
  have hk1 : aS b (k + 1) = aS b k := by rw [aS, if_neg h8]; rfl
  have m1 := eC (b := b) (show k + 1 ≤ k1 by omega)
  have m2 := eC (b := b) (show k1 ≤ k' by omega)
  have hn : Tr.nodes (.node (b.getD k default) (k : Nat) [x, y]) = 1 + (x.nodes + y.nodes) := by simp [Tr.nodes, Trs.nodes]
  have key : ∀ rx, aD rx ≤ y.nodes + aD r → Lps b x (k + 1) k1 rx → ∀ l, l = aQ b x rx ++ aQ b y r → aQ b (.node (b.getD k default) (k : Nat) [x, y]) r = l → Lps b (.node (b.getD k default) (k : Nat) [x, y]) k k' r := fun rx hrx hx l hl he => by
   refine ⟨?_, fun q hq => ?_, fun q hq => ?_⟩
   · rw [he, hl, List.map_append, hx.num, hy.num, hk1]
     exact pF (by omega) m2
   · rw [he, hl] at hq
     rcases List.mem_append.1 hq with hq | hq
     · have := hx.at_ q hq; exact ⟨by omega, by omega, this.2.2⟩
     · have := hy.at_ q hq; exact ⟨by omega, by omega, this.2.2⟩
   · rw [he, hl] at hq
     rw [hn]
     rcases List.mem_append.1 hq with hq | hq
     · have := hx.size q hq; omega
     · have := hy.size q hq; omega
  by_cases hk : (b.getD k default).kind = 1
  exact key (.st y :: r) (Nat.le_refl _) (po i1) _ Z (by rw [du, if_pos hk])
  exact key r (by omega) (po i1) _ Z (by rw [du, if_neg hk])
 | .node s a [x], k, k', h, r => by
  obtain ⟨e1, rfl, e3, e4, e5⟩ := bQ h
  obtain rfl := cj h
  obtain ⟨k1, i1, i2⟩ := bK e4
  obtain rfl := c7 i2
  have hk8 : (b.getD k default).kind = 8 := gq e5.symm
  have hl1 := fz i1
  have hx := po i1 (r := [.lp (aS b k)])
  have hk1 : aS b (k + 1) = aS b k + 1 := by rw [aS, if_pos hk8]
  have m1 := eC (b := b) (show k + 1 ≤ k' by omega)
  have hn : Tr.nodes (.node (b.getD k default) (k : Nat) [x]) = 1 + x.nodes := by simp [Tr.nodes, Trs.nodes]
  have he : aQ b (.node (b.getD k default) (k : Nat) [x]) r = ⟨b.getD k default, k, x, r⟩ :: aQ b x [.lp (aS b k)] := gR
  refine ⟨?_, fun q hq => ?_, fun q hq => ?_⟩
  rw [he, List.map_cons, hx.num, hk1, show aS b k' - aS b k = (aS b k' - (aS b k + 1)) + 1 by omega, List.range'_succ]
  rw [he] at hq
  rcases List.mem_cons.1 hq with rfl | hq
  exact ⟨Nat.le_refl _, by show k < k'; omega, hk8, Z⟩
  have := hx.at_ q hq; exact ⟨by omega, this.2.1, this.2.2⟩
  rw [he] at hq
  rw [hn]
  rcases List.mem_cons.1 hq with rfl | hq
  exact ⟨by show aD r ≤ _; omega, by show x.nodes ≤ _; omega⟩
  have := hx.size q hq
  have e0 : aD [.lp (aS b k)] = 0 := rfl
  omega
 | .node s a [], k, k', h, r => by
  obtain ⟨e1, rfl, e3, e4, e5⟩ := bQ h
  obtain rfl := cj h
  obtain rfl := c7 e4
  have hne := fg (e5.symm : bh (b.getD k default).kind = 0)
  have hk1 : aS b (k + 1) = aS b k := by rw [aS, if_neg hne.2.2]; rfl
  refine ⟨?_, fun q hq => (by rw [fB] at hq; cases hq), fun q hq => (by rw [fB] at hq; cases hq)⟩
  rw [fB, hk1, Nat.sub_self]; rfl
 | .node s a (x :: y :: z :: ks), k, k', h, r => by
  obtain ⟨e1, rfl, e3, e4, e5⟩ := bQ h
  have h2 := (cm (b.getD k default).kind).2
  simp only [List.length_cons] at e5
  omega
def lV (b : List Sm) (post : List Tm) : Pe := ⟨post, fun n => (b.getD ((kY b b.length).getD n default).toNat default).facts, fun a => aS b a.toNat⟩
theorem td {b : List Sm} {post : List Tm} (hp : cB post 6 = true) (hs : ∀ k, k < b.length → bB (b.getD k default) = true) : EOk (lV b post) b :=
  ⟨eO hp, hs, fun k hk h8 => by simp only [lV]; rw [nE hk h8]; rfl, fun k hk h8 => by simp only [lV]; rfl⟩
def bP (la : ct) (E : Pe) (b : List Sm) (t : Tr) (pre : List Tm) : Nat → Gs → Gs
  | 0, g => dz la E (-1) 31 [.st t] (w0 pre) g
  | n + 1, g => cT (dz la E (n : Nat) 31 [.st ((aQ b t []).getD n default).x, .lp n]) (dz la E (n : Nat) 31 ((aQ b t []).getD n default).r) (w0 ((aQ b t []).getD n default).s.facts) (aG ((aQ b t []).getD n default).s.sum (lU 4)).1 (aR (w0 ((aQ b t []).getD n default).s.facts) ((aQ b t []).getD n default).s.sum g)
theorem gJ {b : List Sm} {t : Tr} (hT : bJ b 0 = some (t, b.length)) {n : Nat} (hn : n < aS b b.length) : (aQ b t []).getD n default ∈ aQ b t [] ∧ aS b ((aQ b t []).getD n default).a = n := by
 have h := (po hT (r := [])).num
 have hl := congrArg List.length h
 have h0 : aS b 0 = 0 := rfl
 rw [List.length_map, List.length_range', h0] at hl
 have hlt : n < (aQ b t []).length := by omega
 have e : (aQ b t []).getD n default = (aQ b t [])[n] := by simp [List.getD_eq_getElem?_getD, hlt]
 refine ⟨by rw [e]; exact List.getElem_mem hlt, ?_⟩
 have hg : ((aQ b t []).map (fun q => aS b q.a))[n]'(by rw [List.length_map]; exact hlt) = n := by
  simp only [h, List.getElem_range']; omega
 rw [List.getElem_map] at hg
 rw [e]; exact hg
theorem rZ {b : List Sm} {t : Tr} (hT : bJ b 0 = some (t, b.length)) {p q : Lp} (hp : p ∈ aQ b t []) (hq : q ∈ aQ b t []) (he : p.a = q.a) : p = q := by
 have h := (po hT (r := [])).num
 obtain ⟨i, hi, rfl⟩ := List.mem_iff_getElem.1 hp
 obtain ⟨j, hj, rfl⟩ := List.mem_iff_getElem.1 hq
 have h1 : ∀ i (hi : i < (aQ b t []).length), aS b (aQ b t [])[i].a = i := fun i hi => by
  have hg : ((aQ b t []).map (fun q => aS b q.a))[i]'(by rw [List.length_map]; exact hi) = i := by
    have h0 : aS b 0 = 0 := rfl
    simp only [h, List.getElem_range']; omega
  rw [List.getElem_map] at hg
  exact hg
 have e1 := h1 i hi
 have e2 := h1 j hj
 rw [he, e2] at e1
 subst e1; rfl
theorem qw {L : Nat} (h1 : 4096 ≤ L) (h2 : L ≤ 1073741824) {pre : List Tm} {b : List Sm} {t : Tr} {E : Pe} (hbl : b.length ≤ 30) (hT : bJ b 0 = some (t, b.length)) (hck : t.cok b.length) (hnd : t.nodes ≤ 30) (hE : EOk E b) (hpl : pre.length ≤ 6) (hL : 20000000 ≤ L) {n : Nat} (hn : n ≤ aS b b.length) :
  MC Tryz.prog L 29 [ptr [bX pre, eZ b, bX E.post], eI ((n : Int) - 1)] [] (aZ (.c (.pt 0 0 0)) (fm (pP pre b E.post) (cz (am t (-1) []).1) ((n : Int) - 1) (bP aW E b t pre n g0))) := by
 cases n with
 | zero => exact tS h1 h2 hbl hT hck hnd hE hpl (by omega)
 | succ n =>
  obtain ⟨hq, hqa⟩ := gJ hT (n := n) (by omega)
  have hat := (po hT (r := [])).at_ _ hq
  have hsz := (po hT (r := [])).size _ hq
  have e0 : aD [] = 0 := rfl
  have e : ((n + 1 : Nat) : Int) - 1 = (n : Nat) := by omega
  rw [e]
  have hw : (kY b b.length).getD n default = (((aQ b t []).getD n default).a : Int) := by
   have := nE hat.2.1 hat.2.2.1
   rw [hqa] at this; exact this
  have := tR h1 h2 hbl hT hck hnd hE hq (fun p hp he => rZ hT hp hq he) hw (by omega) hat.2.1 hat.2.2.1 (by show ((aQ b t []).getD n default).x.nodes + 0 ≤ 30; omega) (by omega) hL (pre := pre)
  rw [bP, ← hat.2.2.2, hqa] at *
  exact this
abbrev e6 (ss : List Sq) : D := .slc 3 (ss.map Sq.cells)
def de (ss : List Sq) : Bool := ss.all k9 && decide ((ss.length : Int) ≤ 60)
theorem qv {ss : List Sq} : MQ h1 h2 42 [.c (.d (e6 ss))] [] (Plain (eB (de ss))) := by
 refine jB 18 h1 h2 Tryz.func42 Z Z Z fun O hF => ?_
 have hl : ss.length ≤ L := by simpa [As.fact, A.fact, M.fact, D.fact, Ds.fact] using hF.1.1
 refine ag (js O Z (jn (AWP.seq (ag (js O Z (jn (AWP.block (az (X := Nat) (fun i => ⟨[(0, .c (.d (e6 ss))), (3, eI i)], []⟩) (fun i => i ≤ ss.length ∧ ∀ j (h : j < ss.length), j < i → k9 ss[j] = true) (fun i => ss.length - i) 0 (Ent.env ⟨Z, Z, trivial⟩) ?_ (fun i hi => ?_)))))))))
 exact ⟨Nat.zero_le _, fun j h hj => absurd hj (Nat.not_lt_zero j)⟩
 refine AWP.seq (ag (j2 O Z Z ?_))
 first | refine cy O Z Z Z Z Z Z Z Z Z Z Z ?_ | refine js O Z ?_ | refine aY O Z Z Z Z Z ?_
 refine js O Z (jf [7,0,3] Z (jn (AWP.cond O Z Z (fun hc7 => ?_) (fun hc7 => ?_))))
 try simp only [bg] at hc7
 refine AWP.skip (AWP.seq (AWP.block (ag (j2 O Z Z ?_))))
 first | refine oE O Z Z Z Z Z Z Z Z Z Z Z ?_ | refine dR O Z Z Z Z Z Z Z Z Z Z Z ?_ | refine aY O Z Z Z Z Z ?_
 refine jf [12,7,0,3] Z (ae O Z Z Z Z (c82 (s := ss.getD i default) h1 h2) (ab Z) Z Z Z Z Z (B0 := 14000) Z (js O Z (jf [14,7,0,3] Z (jn (AWP.cond O Z Z (fun hc14 => ?_) (fun hc14 => ?_))))))
 try simp only [bg] at hc14
 refine ag (js O Z (jn (AWP.ret ?_)))
 refine ⟨.inl Z, _, Ent.refl, _, Z, ?_⟩
 rw [aI (by omega)] at hc14
 rw [de, fh i (by omega) hc14, Bool.false_and]
 exact ⟨Z, Z⟩
 try simp only [bg] at hc14
 refine AWP.skip (AWP.region (js O Z ?_))
 first | refine ji O Z ?_ | refine aY O Z Z Z Z Z ?_
 refine js O Z (jf [3,14,7,0] Z (jn ?_))
 refine ⟨i + 1, Ent.env ⟨Z, Z, trivial⟩, ⟨by omega, fun j h hj => ?_⟩, by omega⟩
 by_cases e : j = i
 subst e; rw [aI h] at hc14; exact hc14
 exact hi.2 j h (by omega)
 try simp only [bg] at hc7
 refine AWP.exit (ag (js O Z ?_))
 first | refine cy O Z Z Z Z Z Z Z Z Z Z Z ?_ | refine js O Z ?_ | refine aY O Z Z Z Z Z ?_
 refine j2 O Z Z (jf [2,7,0,3] Z (jn (AWP.ret ?_)))
 refine ⟨.inl Z, _, Ent.refl, _, Z, ?_⟩
 rw [de, fP (fun j hj => hi.2 j hj (by omega)), Bool.true_and]
 exact ⟨Z, Z⟩
structure PtOk (p : Pm) (t : Tr) : Prop where
  len : p.body.length ≤ 30
  tree : bJ p.body 0 = some (t, p.body.length)
  cok : t.cok p.body.length
  nodes : t.nodes ≤ 30
  st : ∀ k, k < p.body.length → bB (p.body.getD k default) = true
  pre : cB p.pre 6 = true
  post : cB p.post 6 = true
theorem PtOk.e {p : Pm} {t : Tr} (h : PtOk p t) : EOk (lV p.body p.post) p.body := td h.post h.st
def mF (p : Pm) (n : Int) : Bool := decide (-1 ≤ n) && decide (n ≤ (aS p.body p.body.length : Int) - 1)
def fI (la : ct) (p : Pm) (t : Tr) (n : Nat) (g : Gs) : Gs := bP la (lV p.body p.post) p.body t p.pre n g
theorem vK {p : Pm} {t : Tr} {n : Nat} {g : Gs} (ht : PtOk p t) (hp : cC p = true) (hn : n ≤ aS p.body p.body.length) (hL : 20000000 ≤ L) (hg : fI aW p t n g0 = g) : MQ h1 h2 8 [aPm p, eI ((n : Int) - 1)] [] (Plain (.tup [.c (.d (f7 (if !g.bad then g.paths else []))), eB (!g.bad)])) := by
 refine MC.data (jB 24 h1 h2 Tryz.func8 Z Z Z fun O hF => ?_)
 have hlen := ht.len
 have hr : mF p ((n : Int) - 1) = true := by unfold mF; rw [decide_eq_true (by omega), decide_eq_true (by omega)]; rfl
 refine ag (jx O Z Z Z Z Z Z Z Z (aq ?_))
 refine aA (Ent.freeze 2 (e' := [(2, _), (0, _), (1, _)]) Z (.cons Z (.c (.box (cs := p.data) Z (aw Z))) (.cons Z (.keep Z) (.cons Z (.keep Z) .nil))) (.skip .nil)) ?_
 refine aq ?_
 refine j2 O Z Z (jn (AWP.seq (ag (ae O Z Z Z Z (rz (p := p) h1 h2) (ab Z) Z Z Z Z Z (B0 := 8000) Z (j2 O Z Z (jf [9,5,4,2,0,1] Z (au 3 Z Z Z (fun hx => ac hx Z Z Z (V O Z) Z Z ( bv O hx Z Z Z Z (oW (pre := p.pre) (post := p.post) (b := p.body) (n := (n : Int) - 1) h1 h2 (by omega)) (ab Z) Z Z Z Z Z Z Z (B0 := 12000) Z ( ac hx Z Z Z (V O Z) Z Z ( AN.nil)))) Z Z ?_)))))))
 first | refine aa (aj O Z Z Z Z Z) Z Z Z ?_ | refine aa (Val.pickB O Z Z Z Z Z) Z Z Z ?_ | refine aa (ak O Z Z Z Z Z) Z Z Z ?_
 refine jf [13,5,4,2,0,1] Z (jn (AWP.cond O Z Z (fun hc13 => ?_) (fun hc13 => ?_)))
 exact absurd hc13 (by show ¬ (bif !(cC p) then true else !(mF p ((n : Int) - 1))) = true; rw [hp, hr]; decide)
 refine AWP.skip (ag (js O Z (jf [14,5,4,2,0,1] Z (ap O [] (bin := []) Z Z Z Z ((hg ▸ qw (pre := p.pre) (b := p.body) (t := t) (E := lV p.body p.post) h1 h2 ht.len ht.tree ht.cok ht.nodes ht.e (eO ht.pre).2 hL hn : MC Tryz.prog L 29 [ptr p.data, eI ((n : Int) - 1)] [] (aZ (.c (.pt 0 0 0)) (fm (pP p.pre p.body p.post) (cz (am t (-1) []).1) ((n : Int) - 1) g)))) Z Z Z Z Z Z (B0 := 16000) Z Z (aq ?_)))))
 refine js O Z (jf [6,5,4,2,0,1] Z (jn (AWP.seq (ag (j4 O Z Z Z Z (jf [19,6,5,4,2,0,1] Z (jn (AWP.cond O Z Z (fun hc19 => ?_) (fun hc19 => ?_)))))))))
 refine ag (j2 O Z Z (jn (AWP.ret ?_)))
 refine ⟨.inl Z, _, Ent.refl, _, Z, ?_⟩
 rw [show g.bad = true from hc19]
 exact .tup (.cons (.c .nils) (.cons (.c .d) .nil))
 refine AWP.skip (ag (j4 O Z Z Z Z (j2 O Z Z (jf [5,4,6,2,0,1] Z (jn (AWP.ret ?_))))))
 refine ⟨.inl Z, _, Ent.refl, _, Z, ?_⟩
 rw [show g.bad = false from hc19]
 exact .tup (.cons (.c (.whole Z (List.length_map _).symm)) (.cons (.c .d) .nil))
theorem vJ {p : Pm} {t : Tr} {n : Nat} {g : Gs} (ht : PtOk p t) (hp : cC p = true) (hn : n ≤ aS p.body p.body.length) (hL : 20000000 ≤ L) (hg : fI aW p t n g0 = g) : MQ h1 h2 18 [aPm p, eI ((n : Int) - 1)] [] (Plain (.tup [.c (.d (e6 (if (!g.bad && de g.conds) then g.conds else []))), eB ((!g.bad && de g.conds))])) := by
 refine MC.data (jB 32 h1 h2 Tryz.func18 Z Z Z fun O hF => ?_)
 have hlen := ht.len
 have hr : mF p ((n : Int) - 1) = true := by unfold mF; rw [decide_eq_true (by omega), decide_eq_true (by omega)]; rfl
 refine ag (jx O Z Z Z Z Z Z Z Z (aq ?_))
 refine aA (Ent.freeze 2 (e' := [(2, _), (0, _), (1, _)]) Z (.cons Z (.c (.box (cs := p.data) Z (aw Z))) (.cons Z (.keep Z) (.cons Z (.keep Z) .nil))) (.skip .nil)) ?_
 refine aq ?_
 refine j2 O Z Z (jn (AWP.seq (ag (ae O Z Z Z Z (rz (p := p) h1 h2) (ab Z) Z Z Z Z Z (B0 := 8000) Z (j2 O Z Z (jf [9,5,4,2,0,1] Z (au 3 Z Z Z (fun hx => ac hx Z Z Z (V O Z) Z Z ( bv O hx Z Z Z Z (oW (pre := p.pre) (post := p.post) (b := p.body) (n := (n : Int) - 1) h1 h2 (by omega)) (ab Z) Z Z Z Z Z Z Z (B0 := 12000) Z ( ac hx Z Z Z (V O Z) Z Z ( AN.nil)))) Z Z ?_)))))))
 first | refine aa (aj O Z Z Z Z Z) Z Z Z ?_ | refine aa (Val.pickB O Z Z Z Z Z) Z Z Z ?_ | refine aa (ak O Z Z Z Z Z) Z Z Z ?_
 refine jf [13,5,4,2,0,1] Z (jn (AWP.cond O Z Z (fun hc13 => ?_) (fun hc13 => ?_)))
 exact absurd hc13 (by show ¬ (bif !(cC p) then true else !(mF p ((n : Int) - 1))) = true; rw [hp, hr]; decide)
 refine AWP.skip (ag (js O Z (jf [14,5,4,2,0,1] Z (ap O [] (bin := []) Z Z Z Z ((hg ▸ qw (pre := p.pre) (b := p.body) (t := t) (E := lV p.body p.post) h1 h2 ht.len ht.tree ht.cok ht.nodes ht.e (eO ht.pre).2 hL hn : MC Tryz.prog L 29 [ptr p.data, eI ((n : Int) - 1)] [] (aZ (.c (.pt 0 0 0)) (fm (pP p.pre p.body p.post) (cz (am t (-1) []).1) ((n : Int) - 1) g)))) Z Z Z Z Z Z (B0 := 16000) Z Z (aq ?_)))))
 refine js O Z (jf [6,5,4,2,0,1] Z (jn (AWP.seq (ag (aA (Ent.freeze 16006 (e' := [(6, _)]) Z (.cons Z (.keep Z) .nil) (.cons Z (.box (.cons (.keep Z) (.cons (.keep Z) (.cons (.keep Z) (.cons (.keep Z) (.cons (.row Z (List.length_map _).symm) (.cons (.keep Z) .nil))))))) (.cons Z .row (.skip .nil)))) ?_)))))
 refine j4 O Z Z Z Z (js O Z (jf [20,6] Z (au 6 Z Z Z (fun hx => ac hx Z Z Z (V O Z) Z Z ( ac hx Z Z Z (V O Z) Z Z ( ac hx Z Z Z (V O Z) Z Z ( ac hx Z Z Z (V O Z) Z Z ( bv O hx Z Z Z Z (qv (ss := g.conds) h1 h2) (ab Z) Z Z Z Z Z Z Z (B0 := 26000) Z ( ac hx Z Z Z (V O Z) Z Z ( AN.nil))))))) Z Z ?_)))
 first | refine aa (aj O Z Z Z Z Z) Z Z Z ?_ | refine aa (Val.pickB O Z Z Z Z Z) Z Z Z ?_ | refine aa (ak O Z Z Z Z Z) Z Z Z ?_
 refine jf [27,6] Z (jn (AWP.cond O Z Z (fun hc27 => ?_) (fun hc27 => ?_)))
 refine ag (j2 O Z Z (jn (AWP.ret ?_)))
 refine ⟨.inl Z, _, Ent.refl, _, Z, ?_⟩
 rw [show (!g.bad && de g.conds) = false by cases h1 : g.bad <;> cases h2 : de g.conds <;> simp_all]
 exact .tup (.cons (.c .nils) (.cons (.c .d) .nil))
 refine AWP.skip (ag (j4 O Z Z Z Z (j2 O Z Z (jf [5,4,6] Z (jn (AWP.ret ?_))))))
 refine ⟨.inl Z, _, Ent.refl, _, Z, ?_⟩
 rw [show (!g.bad && de g.conds) = true by cases h1 : g.bad <;> cases h2 : de g.conds <;> simp_all]
 exact .tup (.cons (.c .d) (.cons (.c .d) .nil))
theorem nj {p : Pm} {n : Int} (hb : cC p = true → p.body.length ≤ 1000) (hno : cC p = true → mF p n = false) : MQ h1 h2 8 [aPm p, eI n] [] (Plain (.tup [.c (.d (f7 [])), eB false])) := by
 refine MC.data (jB 24 h1 h2 Tryz.func8 Z Z Z fun O hF => ?_)
 have hz : (bif !(cC p) then true else !(mF p n)) = true := by cases h : cC p <;> simp_all
 refine ag (jx O Z Z Z Z Z Z Z Z (aq ?_))
 refine aA (Ent.freeze 2 (e' := [(2, _), (0, _), (1, _)]) Z (.cons Z (.c (.box (cs := p.data) Z (aw Z))) (.cons Z (.keep Z) (.cons Z (.keep Z) .nil))) (.skip .nil)) ?_
 refine aq ?_
 refine j2 O Z Z (jn (AWP.seq (ag (ae O Z Z Z Z (rz (p := p) h1 h2) (ab Z) Z Z Z Z Z (B0 := 8000) Z (j2 O Z Z (jf [9,5,4,2,0,1] Z (au 3 Z Z Z (fun hx => ac hx Z Z Z (V O Z) Z Z ( bv O hx Z Z Z Z (oW (pre := p.pre) (post := p.post) (b := p.body) (n := n) h1 h2 (hb (by simpa using hx))) (ab Z) Z Z Z Z Z Z Z (B0 := 12000) Z ( ac hx Z Z Z (V O Z) Z Z ( AN.nil)))) Z Z ?_)))))))
 first | refine aa (aj O Z Z Z Z Z) Z Z Z ?_ | refine aa (Val.pickB O Z Z Z Z Z) Z Z Z ?_ | refine aa (ak O Z Z Z Z Z) Z Z Z ?_
 refine jf [13,5,4,2,0,1] Z (jn (AWP.cond O Z Z (fun hc13 => ?_) (fun hc13 => ?_)))
 refine ag (j2 O Z Z (jn (AWP.ret ?_)))
 refine ⟨.inl Z, _, Ent.refl, _, Z, ?_⟩
 exact .tup (.cons (.c .nils) (.cons (.c .d) .nil))
 exact absurd (hz.symm.trans hc13) (by decide)
theorem ni {p : Pm} {n : Int} (hb : cC p = true → p.body.length ≤ 1000) (hno : cC p = true → mF p n = false) : MQ h1 h2 18 [aPm p, eI n] [] (Plain (.tup [.c (.d (e6 [])), eB false])) := by
 refine MC.data (jB 32 h1 h2 Tryz.func18 Z Z Z fun O hF => ?_)
 have hz : (bif !(cC p) then true else !(mF p n)) = true := by cases h : cC p <;> simp_all
 refine ag (jx O Z Z Z Z Z Z Z Z (aq ?_))
 refine aA (Ent.freeze 2 (e' := [(2, _), (0, _), (1, _)]) Z (.cons Z (.c (.box (cs := p.data) Z (aw Z))) (.cons Z (.keep Z) (.cons Z (.keep Z) .nil))) (.skip .nil)) ?_
 refine aq ?_
 refine j2 O Z Z (jn (AWP.seq (ag (ae O Z Z Z Z (rz (p := p) h1 h2) (ab Z) Z Z Z Z Z (B0 := 8000) Z (j2 O Z Z (jf [9,5,4,2,0,1] Z (au 3 Z Z Z (fun hx => ac hx Z Z Z (V O Z) Z Z ( bv O hx Z Z Z Z (oW (pre := p.pre) (post := p.post) (b := p.body) (n := n) h1 h2 (hb (by simpa using hx))) (ab Z) Z Z Z Z Z Z Z (B0 := 12000) Z ( ac hx Z Z Z (V O Z) Z Z ( AN.nil)))) Z Z ?_)))))))
 first | refine aa (aj O Z Z Z Z Z) Z Z Z ?_ | refine aa (Val.pickB O Z Z Z Z Z) Z Z Z ?_ | refine aa (ak O Z Z Z Z Z) Z Z Z ?_
 refine jf [13,5,4,2,0,1] Z (jn (AWP.cond O Z Z (fun hc13 => ?_) (fun hc13 => ?_)))
 refine ag (j2 O Z Z (jn (AWP.ret ?_)))
 refine ⟨.inl Z, _, Ent.refl, _, Z, ?_⟩
 exact .tup (.cons (.c .nils) (.cons (.c .d) .nil))
 exact absurd (hz.symm.trans hc13) (by decide)
end Go.Al
