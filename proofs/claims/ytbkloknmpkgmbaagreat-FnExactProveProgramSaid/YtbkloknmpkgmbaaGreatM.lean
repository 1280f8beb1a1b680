/- The reference: the flow of a program, all paths of a start. -/
import Derived.Test.YtbkloknmpkgmbaaGreatL
import Derived.Test.YtbkloknmpkgmbaaGreatC
set_option linter.unusedVariables false
set_option linter.unusedSimpArgs false
set_option maxRecDepth 10000
set_option maxHeartbeats 4000000
open Go.Proofs
namespace Go.Al
variable {L : Nat} (h1 : 4096 ≤ L) (h2 : L ≤ 1073741824)
def av : Tr → Int → List Fl → List Fl × Int
  | .node s a [x, y], nx, f => if s.kind = 1 then av x (av y nx f).2 (av y nx f).1
      else ((av y nx (av x nx f).1).1 ++ [⟨a, (av x nx f).2, (av y nx (av x nx f).1).2⟩], (av y nx (av x nx f).1).1.length)
  | .node s a [x], nx, f => ((av x f.length (f ++ [⟨a, 0, nx⟩])).1.set f.length ⟨((av x f.length (f ++ [⟨a, 0, nx⟩])).1.getD f.length default).stmt, (av x f.length (f ++ [⟨a, 0, nx⟩])).2, ((av x f.length (f ++ [⟨a, 0, nx⟩])).1.getD f.length default).other⟩, f.length)
  | .node s a _, nx, f => (f ++ [⟨a, nx, -1⟩], f.length)
theorem mf {s : Sm} {a nx : Int} {f : List Fl} : av (.node s a []) nx f = (f ++ [⟨a, nx, -1⟩], (f.length : Int)) := by rw [av] <;> simp
theorem me {s : Sm} {a nx : Int} {x : Tr} {f : List Fl} : av (.node s a [x]) nx f = ((av x f.length (f ++ [⟨a, 0, nx⟩])).1.set f.length ⟨((av x f.length (f ++ [⟨a, 0, nx⟩])).1.getD f.length default).stmt, (av x f.length (f ++ [⟨a, 0, nx⟩])).2, ((av x f.length (f ++ [⟨a, 0, nx⟩])).1.getD f.length default).other⟩, (f.length : Int)) := by rw [av]
theorem jY {s : Sm} {a nx : Int} {x y : Tr} {f : List Fl} : av (.node s a [x, y]) nx f = if s.kind = 1 then av x (av y nx f).2 (av y nx f).1
      else ((av y nx (av x nx f).1).1 ++ [⟨a, (av x nx f).2, (av y nx (av x nx f).1).2⟩], ((av y nx (av x nx f).1).1.length : Int)) := by rw [av]
theorem dY {n : Nat} : ∀ {t : Tr}, t.cok n → ∀ {nx : Int} {f : List Fl}, f.length ≤ (av t nx f).1.length ∧ (av t nx f).1.length ≤ f.length + t.nodes
 | .node s a [x, y], ht, nx, f => by
  have hx : ∀ nx f, f.length ≤ (av x nx f).1.length ∧ (av x nx f).1.length ≤ f.length + x.nodes := fun nx f => dY ht.2.2.2.1
  have hy : ∀ nx f, f.length ≤ (av y nx f).1.length ∧ (av y nx f).1.length ≤ f.length + y.nodes := fun nx f => dY ht.2.2.2.2.1
  rw [show (Tr.node s a [x, y]).nodes = 1 + (x.nodes + y.nodes) by simp [Tr.nodes, Trs.nodes], jY]
  split
  have := hy nx f; have := hx (av y nx f).2 (av y nx f).1; omega
  have := hx nx f; have := hy nx (av x nx f).1
  simp only [ce, dj]; omega
 | .node s a [x], ht, nx, f => by
  have hx : ∀ nx f, f.length ≤ (av x nx f).1.length ∧ (av x nx f).1.length ≤ f.length + x.nodes := fun nx f => dY ht.2.2.2.1
  rw [show (Tr.node s a [x]).nodes = 1 + x.nodes by simp [Tr.nodes, Trs.nodes], me]
  have := hx f.length (f ++ [⟨a, 0, nx⟩])
  simp only [ce, dj] at this
  simp only [List.length_set]; omega
 | .node s a [], ht, nx, f => by
  rw [show (Tr.node s a []).nodes = 1 by simp [Tr.nodes, Trs.nodes], mf]
  simp
 | .node s a (x :: y :: z :: ks), ht, nx, f => by
  have h1 : ((x :: y :: z :: ks).length : Int) = bm s.kind := ht.2.2.1.2
  have h2 := (cW s.kind).2
  simp only [dL] at h1
  omega
theorem ud {b : List Sm} {k k' : Nat} {n : Int} (hn : 0 < n) (h : eW (b.drop k) n = some (k' - k)) (hk : k ≤ k') : k < b.length ∧ k + 1 ≤ k' ∧ eW (b.drop (k + 1)) (n - 1 + bm (b.getD k default).kind) = some (k' - (k + 1)) := by
 have hlt : k < b.length := by
  rcases Nat.lt_or_ge k b.length with h1 | h1
  exact h1
  rw [List.drop_eq_nil_of_le h1, eW, if_neg (by omega)] at h; cases h
 rw [ma hlt hn, Option.map_eq_some_iff] at h
 obtain ⟨q, h1, h2⟩ := h
 exact ⟨hlt, by omega, by rw [h1]; congr 1; omega⟩
theorem sA {b : List Sm} {k k' : Nat} {t : Tr} (h : bZ b k = some (t, k')) : eW (b.drop k) 1 = some (k' - k) ∧ k < k' ∧ k' ≤ b.length := by
 obtain ⟨h1, h2⟩ := l9 h
 have h3 := h2 0 (Int.le_refl _)
 refine ⟨?_, gW h⟩
 rw [show (1 : Int) = 0 + 1 from Z, h3, jc (Int.le_refl _)]
 simp
theorem wt {b : List Sm} {k k' : Nat} {n : Int} (hn : n ≤ 0) (h : eW (b.drop k) n = some (k' - k)) (hk : k ≤ k') : k = k' := by
 rw [jc hn] at h
 simp only [eD] at h
 omega
abbrev eV (f : List Fl) : B := .row true 3 (f.map Fl.cells)
variable {b : List Sm} {t : Tr} {k : Nat}
theorem CB {k' : Nat} (hb : b.length ≤ 1000) (ht : bZ b k = some (t, k')) : MQ h1 h2 166 [.c (.d (gj b)), eI (k : Nat)] [] (Plain (.tup [eI (k : Nat), eI (k' : Nat)])) := by
 refine jB 29 h1 h2 Tryz.func166 Z Z Z fun O hF => ?_
 have hs0 := sA ht
 refine ah (j2 O Z Z (aV (js O Z (aV (j2 O Z Z (jn (ag (ao (aq (X := Nat × Int) (fun z => ⟨[(0, .c (.d (gj b))), (1, eI (k : Nat)), (6, eI z.2), (7, eI (z.1 : Nat))], []⟩) (fun z => z.1 ≤ k' ∧ 0 ≤ z.2 ∧ z.2 ≤ (z.1 : Int) + 1 ∧ eW (b.drop z.1) z.2 = some (k' - z.1)) (fun z => k' - z.1) (k, 1) (Ent.env ⟨Z, Z, Z, Z, trivial⟩) ?_ (fun z hi => ?_))))))))))
 exact ⟨by show k ≤ k'; omega, by show (0 : Int) ≤ 1; decide, by show (1 : Int) ≤ (k : Int) + 1; omega, hs0.1⟩
 refine ag (ah (j2 O Z Z (jn (ae O Z Z (fun hc10 => ?_) (fun hc10 => ?_)))))
 refine aj (ao (ag (ah (j2 O Z Z ?_))))
 have hpos := bC hc10
 have hsk := ud hpos hi.2.2.2 hi.1
 refine ac (aP O Z Z Z Z Z Z Z Z (dc hsk.1)) Z Z Z (j2 O Z Z (jf [15,10,9,0,1,6,7] Z (jn (ao (ag (ah (j2 O Z Z (jn (ae O Z Z (fun hc18 => ?_) (fun hc18 => ?_))))))))))
 refine aj (ae O Z Z (fun hc18 => ?_) (fun hc18 => ?_))
 refine ak (js O Z (ji O Z (js O Z (jf [6,18,19,15,10,9,0,1,7] Z (jn (ak (js O Z (ji O Z (js O Z (jf [7,6,18,19,15,10,9,0,1] Z (jn ?_)))))))))))
 have hbe : bm (b.getD z.1 default).kind = 2 := by unfold bm; rw [if_pos (bC hc18)]
 refine ⟨(z.1 + 1, z.2 + 1), Ent.env ⟨Z, Z, Z, Z, trivial⟩, ⟨hsk.2.1, by show (0 : Int) ≤ z.2 + 1; omega, by show z.2 + 1 ≤ ((z.1 + 1 : Nat) : Int) + 1; omega, ?_⟩, by show k' - (z.1 + 1) < k' - z.1; omega⟩
 rw [show (z.2 + 1 : Int) = z.2 - 1 + bm (b.getD z.1 default).kind by omega]
 exact hsk.2.2
 exact absurd ‹decide ((b.getD z.1 default).kind = 1) = true› (by rw [hc18]; decide)
 refine ak (j2 O Z Z (jn (ae O Z Z (fun hc18 => ?_) (fun hc18 => ?_))))
 refine ak (js O Z (ji O Z (js O Z (jf [6,18,20,19,15,10,9,0,1,7] Z (jn (ak (js O Z (ji O Z (js O Z (jf [7,6,18,20,19,15,10,9,0,1] Z (jn ?_)))))))))))
 have hbe : bm (b.getD z.1 default).kind = 2 := by unfold bm; rw [bC hc18]; decide
 refine ⟨(z.1 + 1, z.2 + 1), Ent.env ⟨Z, Z, Z, Z, trivial⟩, ⟨hsk.2.1, by show (0 : Int) ≤ z.2 + 1; omega, by show z.2 + 1 ≤ ((z.1 + 1 : Nat) : Int) + 1; omega, ?_⟩, by show k' - (z.1 + 1) < k' - z.1; omega⟩
 rw [show (z.2 + 1 : Int) = z.2 - 1 + bm (b.getD z.1 default).kind by omega]
 exact hsk.2.2
 refine ah (j2 O Z Z (jn (ae O Z Z (fun hc23 => ?_) (fun hc23 => ?_))))
 refine aj (ak (js O Z (ji O Z (js O Z (jf [7,23,24,18,20,19,15,10,9,0,1,6] Z (jn ?_))))))
 have hbe : bm (b.getD z.1 default).kind = 1 := by unfold bm; rw [bC hc23]; decide
 refine ⟨(z.1 + 1, z.2), Ent.env ⟨Z, Z, Z, Z, trivial⟩, ⟨hsk.2.1, by show (0 : Int) ≤ z.2; omega, by show z.2 ≤ ((z.1 + 1 : Nat) : Int) + 1; omega, ?_⟩, by show k' - (z.1 + 1) < k' - z.1; omega⟩
 rw [show (z.2 : Int) = z.2 - 1 + bm (b.getD z.1 default).kind by omega]
 exact hsk.2.2
 refine ak (js O Z (ji O Z (js O Z (jf [6,23,24,18,20,19,15,10,9,0,1,7] Z (jn (ak (js O Z (ji O Z (js O Z (jf [7,6,23,24,18,20,19,15,10,9,0,1] Z (jn ?_)))))))))))
 have hne : ¬ (b.getD z.1 default).kind = 1 := cH ‹decide ((b.getD z.1 default).kind = 1) = false›
 have hbe : bm (b.getD z.1 default).kind = 0 := by unfold bm; rw [if_neg hne, if_neg (cH hc18), if_neg (cH hc23)]
 refine ⟨(z.1 + 1, z.2 - 1), Ent.env ⟨Z, Z, Z, Z, trivial⟩, ⟨hsk.2.1, by show (0 : Int) ≤ z.2 - 1; omega, by show z.2 - 1 ≤ ((z.1 + 1 : Nat) : Int) + 1; omega, ?_⟩, by show k' - (z.1 + 1) < k' - z.1; omega⟩
 rw [show (z.2 - 1 : Int) = z.2 - 1 + bm (b.getD z.1 default).kind by omega]
 exact hsk.2.2
 refine aO (ah (j4 O Z Z Z Z (jf [5,4,10,9,0,1,6,7] Z (jr ?_))))
 refine ⟨.inl Z, _, am, _, Z, ?_⟩
 have he := wt (by have := cH hc10; omega) hi.2.2.2 hi.1
 rw [← he]
 exact ⟨Z, Z⟩
theorem cU {body : List Sm} {k k' : Nat} {s : Sm} {a : Int} {ks : List Tr} (h : bZ body k = some (.node s a ks, k')) : a = (k : Nat) := by
 rw [lS] at h
 split at h
 cases h
 split at h
 cases h
 simp only [Option.map_eq_some_iff] at h
 obtain ⟨⟨ts, k2⟩, h3, h4⟩ := h
 simp only [Prod.mk.injEq, Tr.node.injEq] at h4
 exact h4.1.2.1.symm
theorem dP {f : Nat → Option (Tr × Nat)} {k k' : Nat} (h : cw f 0 k = some ([], k')) : k' = k := by
 simp only [cw, eD, Prod.mk.injEq] at h; exact h.2.symm
theorem b0 {f : Nat → Option (Tr × Nat)} {q k k' : Nat} {x : Tr} {xs : List Tr} (h : cw f (q + 1) k = some (x :: xs, k')) : ∃ k1, f k = some (x, k1) ∧ cw f q k1 = some (xs, k') := by
 unfold cw at h
 cases hx : f k with
 | none => rw [hx] at h; cases h
 | some p =>
  obtain ⟨t, k1⟩ := p
  rw [hx] at h
  simp only [Option.map_eq_some_iff] at h
  obtain ⟨⟨ts1, k2⟩, h1, h2⟩ := h
  simp only [Prod.mk.injEq, List.cons.injEq] at h2
  obtain ⟨⟨rfl, rfl⟩, rfl⟩ := h2
  exact ⟨k1, Z, h1⟩
theorem je {k : Int} (h : bm k = 1) : k = 8 := by
 unfold bm at h
 split at h
 omega
 split at h
 omega
 split at h
 assumption
 omega
variable {nx : Int} {f : List Fl} {s : Sm}
theorem xV (hkk : bm s.kind = 0) (hk : k < b.length) (hbs : b.getD k default = s) (hb : b.length ≤ 1000) (hf : f.length + Tr.nodes (.node s (k : Nat) []) ≤ 2000) : MQ h1 h2 120 [.c (.d (gj b)), eI (k : Nat), eI nx, .c (.rs 0 0 f.length)] [(0, eV f)] (bc (.tup [.c (.rs 1 0 (av (.node s (k : Nat) []) nx f).1.length), eI (av (.node s (k : Nat) []) nx f).2, eI (k + 1 : Nat)]) [(1, eV (av (.node s (k : Nat) []) nx f).1)]) := by
 refine aJ 500 Z (jH 132 [500] h1 h2 Tryz.func120 Z Z Z Z fun O hF => ?_)
 refine b9 ?_
 have hne := gC hkk
 have hnd : Tr.nodes (.node s (k : Nat) []) = 1 := by simp [Tr.nodes, Trs.nodes]
 rw [mf]
 refine ah (j3 O Z Z Z (jn (ag (ah (j2 O Z Z (ac ((aP O Z Z Z Z Z Z Z Z (dc hk)).cast (v' := ptr (Sm.cells s)) (by rw [hbs])) Z Z Z (j2 O Z Z (jf [31,10,9,8,0,1,2,3] Z (jn (ao (ah (j2 O Z Z (jn (ae O Z Z (fun hc32 => ?_) (fun hc32 => ?_)))))))))))))))
 exact absurd (bC hc32) (by omega)
 refine ah (j2 O Z Z (jf [63,33,31,10,9,8,0,1,2,3] Z (jn (ae O Z Z (fun hc63 => ?_) (fun hc63 => ?_)))))
 exact absurd (bC hc63) (by omega)
 refine ah (j2 O Z Z (jf [94,33,31,10,9,8,0,1,2,3] Z (jn (ae O Z Z (fun hc94 => ?_) (fun hc94 => ?_)))))
 exact absurd (bC hc94) (by omega)
 refine aj (ah (j4 O Z Z Z Z (jf [125,122,33,31,10,9,8,0,1,2,3] Z (AOps.heap (bA O Z Z Z) Z (au ?_)))))
 refine jf [126,122,33,31,10,9,8,0,1,2,3] Z (lx (q := 3) O (cm (zs := (f ++ [(⟨(k : Nat), nx, -1⟩ : Fl)]).map Fl.cells) (n := (f ++ [(⟨(k : Nat), nx, -1⟩ : Fl)]).length) O Z Z Z Z Z Z Z Z Z Z Z Z Z Z Z Z (.row Z (bz _).symm) Z Z (by decide) Z (by simp; omega) (by simp; omega) (by simp) (by simp)) Z Z Z Z Z Z Z Z Z Z Z Z Z Z Z (by omega) Z Z (au ?_))
 refine js O Z (ac ((vF O Z).cast (v' := eI ((k + 1 : Nat) : Int)) (congrArg eI (by omega))) Z Z Z (j3 O Z Z Z (jf [10,9,8,33,31,0,1,2,3] Z (jr ?_))))
 refine ⟨.inl Z, _, af 127 501 Z Z, _, Z, Z, Z⟩
variable {x : Tr} {k1 : Nat}
theorem xU {y : Tr} {k2 : Nat} (hkk : s.kind = 1) (hx : bZ b (k + 1) = some (x, k1)) (ihx : ∀ (nx : Int) (f : List Fl), f.length + x.nodes ≤ 2000 → MQ h1 h2 120 [.c (.d (gj b)), eI (k + 1 : Nat), eI nx, .c (.rs 0 0 f.length)] [(0, eV f)] (bc (.tup [.c (.rs 1 0 (av x nx f).1.length), eI (av x nx f).2, eI (k1 : Nat)]) [(1, eV (av x nx f).1)])) (hlx : ∀ (nx : Int) (f : List Fl), f.length ≤ (av x nx f).1.length ∧ (av x nx f).1.length ≤ f.length + x.nodes) (ihy : ∀ (nx : Int) (f : List Fl), f.length + y.nodes ≤ 2000 → MQ h1 h2 120 [.c (.d (gj b)), eI (k1 : Nat), eI nx, .c (.rs 0 0 f.length)] [(0, eV f)] (bc (.tup [.c (.rs 1 0 (av y nx f).1.length), eI (av y nx f).2, eI (k2 : Nat)]) [(1, eV (av y nx f).1)])) (hly : ∀ (nx : Int) (f : List Fl), f.length ≤ (av y nx f).1.length ∧ (av y nx f).1.length ≤ f.length + y.nodes) (hk : k < b.length) (hbs : b.getD k default = s) (hb : b.length ≤ 1000) (hf : f.length + Tr.nodes (.node s (k : Nat) [x, y]) ≤ 2000) : MQ h1 h2 120 [.c (.d (gj b)), eI (k : Nat), eI nx, .c (.rs 0 0 f.length)] [(0, eV f)] (bc (.tup [.c (.rs 1 0 (av (.node s (k : Nat) [x, y]) nx f).1.length), eI (av (.node s (k : Nat) [x, y]) nx f).2, eI (k2 : Nat)]) [(1, eV (av (.node s (k : Nat) [x, y]) nx f).1)]) := by
 refine aJ 500 Z (jH 132 [500] h1 h2 Tryz.func120 Z Z Z Z fun O hF => ?_)
 refine b9 ?_
 have hnd : Tr.nodes (.node s (k : Nat) [x, y]) = 1 + (x.nodes + y.nodes) := by simp [Tr.nodes, Trs.nodes]
 have h9 := hly nx f
 rw [jY, if_pos hkk]
 refine ah (j3 O Z Z Z (jn (ag (ah (j2 O Z Z (ac ((aP O Z Z Z Z Z Z Z Z (dc hk)).cast (v' := ptr (Sm.cells s)) (by rw [hbs])) Z Z Z (j2 O Z Z (jf [31,10,9,8,0,1,2,3] Z (jn (ao (ah (j2 O Z Z (jn (ae O Z Z (fun hc32 => ?_) (fun hc32 => ?_)))))))))))))))
 refine ah (j2 O Z Z (ac ((vF O Z).cast (v' := eI ((k + 1 : Nat) : Int)) (congrArg eI (by omega))) Z Z Z (jf [37,35,33,31,10,9,8,0,1,2,3] Z (ar O Z Z Z Z (CB (b := b) h1 h2 hb hx) (aa Z) Z Z Z Z (B0 := 39000) Z Z (j4 O Z Z Z Z (js O Z (jf [12,33,31,10,9,8,0,1,2,3] Z (aV (j4 O Z Z Z Z (jf [45,44,43,42,33,31,10,9,8,0,1,2,3] Z (aB O [500] (bin := [eV f]) Z Z Z Z (ihy nx f (by omega)) Z Z Z Z Z Z (B0 := 47000) Z Z (au ?_))))))))))))
 refine j4 O Z Z Z Z (j3 O Z Z Z (jf [15,14,13,33,31,10,9,8,0,1,2,3] Z (aV (j2 O Z Z (ac ((vF O Z).cast (v' := eI ((k + 1 : Nat) : Int)) (congrArg eI (by omega))) Z Z Z (j2 O Z Z (jf [55,54,53,51,15,13,33,31,10,9,8,0,1,2,3] Z (aB O [47001] (bin := [eV (av y nx f).1]) Z Z Z Z (ihx (av y nx f).2 (av y nx f).1 (by omega)) Z Z Z Z Z Z (B0 := 57000) Z Z (au ?_)))))))))
 refine j4 O Z Z Z Z (j3 O Z Z Z (jf [16,13,15,33,31,10,9,8,0,1,2,3] Z (aV (j4 O Z Z Z Z (j2 O Z Z (jf [10,9,8,13,33,31,0,1,2,3] Z (jr ?_)))))))
 refine ⟨.inl Z, _, af 57001 501 Z Z, _, Z, Z, Z⟩
 exact absurd (cH hc32) (by omega)
theorem xT {y : Tr} {k2 : Nat} (hkk : s.kind = 7) (ihx : ∀ (nx : Int) (f : List Fl), f.length + x.nodes ≤ 2000 → MQ h1 h2 120 [.c (.d (gj b)), eI (k + 1 : Nat), eI nx, .c (.rs 0 0 f.length)] [(0, eV f)] (bc (.tup [.c (.rs 1 0 (av x nx f).1.length), eI (av x nx f).2, eI (k1 : Nat)]) [(1, eV (av x nx f).1)])) (hlx : ∀ (nx : Int) (f : List Fl), f.length ≤ (av x nx f).1.length ∧ (av x nx f).1.length ≤ f.length + x.nodes) (ihy : ∀ (nx : Int) (f : List Fl), f.length + y.nodes ≤ 2000 → MQ h1 h2 120 [.c (.d (gj b)), eI (k1 : Nat), eI nx, .c (.rs 0 0 f.length)] [(0, eV f)] (bc (.tup [.c (.rs 1 0 (av y nx f).1.length), eI (av y nx f).2, eI (k2 : Nat)]) [(1, eV (av y nx f).1)])) (hly : ∀ (nx : Int) (f : List Fl), f.length ≤ (av y nx f).1.length ∧ (av y nx f).1.length ≤ f.length + y.nodes) (hk : k < b.length) (hbs : b.getD k default = s) (hb : b.length ≤ 1000) (hf : f.length + Tr.nodes (.node s (k : Nat) [x, y]) ≤ 2000) : MQ h1 h2 120 [.c (.d (gj b)), eI (k : Nat), eI nx, .c (.rs 0 0 f.length)] [(0, eV f)] (bc (.tup [.c (.rs 1 0 (av (.node s (k : Nat) [x, y]) nx f).1.length), eI (av (.node s (k : Nat) [x, y]) nx f).2, eI (k2 : Nat)]) [(1, eV (av (.node s (k : Nat) [x, y]) nx f).1)]) := by
 refine aJ 500 Z (jH 132 [500] h1 h2 Tryz.func120 Z Z Z Z fun O hF => ?_)
 refine b9 ?_
 have hnd : Tr.nodes (.node s (k : Nat) [x, y]) = 1 + (x.nodes + y.nodes) := by simp [Tr.nodes, Trs.nodes]
 have h9 := hlx nx f
 have h8 := hly nx (av x nx f).1
 rw [jY, if_neg (by omega)]
 refine ah (j3 O Z Z Z (jn (ag (ah (j2 O Z Z (ac ((aP O Z Z Z Z Z Z Z Z (dc hk)).cast (v' := ptr (Sm.cells s)) (by rw [hbs])) Z Z Z (j2 O Z Z (jf [31,10,9,8,0,1,2,3] Z (jn (ao (ah (j2 O Z Z (jn (ae O Z Z (fun hc32 => ?_) (fun hc32 => ?_)))))))))))))))
 exact absurd (bC hc32) (by omega)
 refine ah (j2 O Z Z (jf [63,33,31,10,9,8,0,1,2,3] Z (jn (ae O Z Z (fun hc63 => ?_) (fun hc63 => ?_)))))
 refine ah (j2 O Z Z (ac ((vF O Z).cast (v' := eI ((k + 1 : Nat) : Int)) (congrArg eI (by omega))) Z Z Z (j2 O Z Z (jf [70,69,68,66,33,31,10,9,8,0,1,2,3] Z (aB O [500] (bin := [eV f]) Z Z Z Z (ihx nx f (by omega)) Z Z Z Z Z Z (B0 := 72000) Z Z (au ?_))))))
 refine j4 O Z Z Z Z (j3 O Z Z Z (jf [20,19,18,33,31,10,9,8,0,1,2,3] Z (aV (j4 O Z Z Z Z (jf [79,78,77,76,19,18,33,31,10,9,8,0,1,2,3] Z (aB O [72001] (bin := [eV (av x nx f).1]) Z Z Z Z (ihy nx (av x nx f).1 (by omega)) Z Z Z Z Z Z (B0 := 81000) Z Z (au ?_)))))))
 refine j4 O Z Z Z Z (j3 O Z Z Z (jf [22,21,18,19,33,31,10,9,8,0,1,2,3] Z (aV (j4 O Z Z Z Z (js O Z (jf [88,84,22,18,33,31,10,9,8,0,1,2,3] Z (AOps.heap (bA O Z Z Z) Z (au ?_))))))))
 refine jf [89,84,22,18,33,31,10,9,8,0,1,2,3] Z (lx (q := 18) O (cm (zs := ((av y nx (av x nx f).1).1 ++ [(⟨(k : Nat), (av x nx f).2, (av y nx (av x nx f).1).2⟩ : Fl)]).map Fl.cells) (n := ((av y nx (av x nx f).1).1 ++ [(⟨(k : Nat), (av x nx f).2, (av y nx (av x nx f).1).2⟩ : Fl)]).length) O Z Z Z Z Z Z Z Z Z Z Z Z Z Z Z Z (.row Z (bz _).symm) Z Z (by decide) Z (by simp; omega) (by simp; omega) (by simp) (by simp)) Z Z Z Z Z Z Z Z Z Z Z Z Z Z Z (by omega) Z Z (au ?_))
 refine j4 O Z Z Z Z (jf [10,9,8,18,33,31,0,1,2,3] Z (jr ?_))
 refine ⟨.inl Z, _, af 90 501 Z Z, _, Z, Z, Z⟩
 exact absurd (cH hc63) (by omega)
theorem xS (hkk : s.kind = 8) (ihx : ∀ (nx : Int) (f : List Fl), f.length + x.nodes ≤ 2000 → MQ h1 h2 120 [.c (.d (gj b)), eI (k + 1 : Nat), eI nx, .c (.rs 0 0 f.length)] [(0, eV f)] (bc (.tup [.c (.rs 1 0 (av x nx f).1.length), eI (av x nx f).2, eI (k1 : Nat)]) [(1, eV (av x nx f).1)])) (hlx : ∀ (nx : Int) (f : List Fl), f.length ≤ (av x nx f).1.length ∧ (av x nx f).1.length ≤ f.length + x.nodes) (hk : k < b.length) (hbs : b.getD k default = s) (hb : b.length ≤ 1000) (hf : f.length + Tr.nodes (.node s (k : Nat) [x]) ≤ 2000) : MQ h1 h2 120 [.c (.d (gj b)), eI (k : Nat), eI nx, .c (.rs 0 0 f.length)] [(0, eV f)] (bc (.tup [.c (.rs 1 0 (av (.node s (k : Nat) [x]) nx f).1.length), eI (av (.node s (k : Nat) [x]) nx f).2, eI (k1 : Nat)]) [(1, eV (av (.node s (k : Nat) [x]) nx f).1)]) := by
 refine aJ 500 Z (jH 132 [500] h1 h2 Tryz.func120 Z Z Z Z fun O hF => ?_)
 refine b9 ?_
 have hnd : Tr.nodes (.node s (k : Nat) [x]) = 1 + x.nodes := by simp [Tr.nodes, Trs.nodes]
 have h9 := hlx (f.length : Nat) (f ++ [(⟨(k : Nat), 0, nx⟩ : Fl)])
 have h8 : (f ++ [(⟨(k : Nat), 0, nx⟩ : Fl)]).length = f.length + 1 := by simp
 rw [me]
 refine ah (j3 O Z Z Z (jn (ag (ah (j2 O Z Z (ac ((aP O Z Z Z Z Z Z Z Z (dc hk)).cast (v' := ptr (Sm.cells s)) (by rw [hbs])) Z Z Z (j2 O Z Z (jf [31,10,9,8,0,1,2,3] Z (jn (ao (ah (j2 O Z Z (jn (ae O Z Z (fun hc32 => ?_) (fun hc32 => ?_)))))))))))))))
 exact absurd (bC hc32) (by omega)
 refine ah (j2 O Z Z (jf [63,33,31,10,9,8,0,1,2,3] Z (jn (ae O Z Z (fun hc63 => ?_) (fun hc63 => ?_)))))
 exact absurd (bC hc63) (by omega)
 refine ah (j2 O Z Z (jf [94,33,31,10,9,8,0,1,2,3] Z (jn (ae O Z Z (fun hc94 => ?_) (fun hc94 => ?_)))))
 refine ah (js O Z (dk O Z Z (js O Z (jf [23,33,31,10,9,8,0,1,2,3] Z (aV (j4 O Z Z Z Z (jf [101,98,23,33,31,10,9,8,0,1,2,3] Z (AOps.heap (bA O Z Z Z) Z (au ?_)))))))))
 refine jf [102,98,23,33,31,10,9,8,0,1,2,3] Z (AOps.heap (cm (zs := (f ++ [(⟨(k : Nat), 0, nx⟩ : Fl)]).map Fl.cells) (n := (f ++ [(⟨(k : Nat), 0, nx⟩ : Fl)]).length) O Z Z Z Z Z Z Z Z Z Z Z Z Z Z Z Z (.row Z (bz _).symm) Z Z (by decide) Z (by simp; omega) (by simp; omega) (by simp) (by simp)) Z (au ?_))
 refine au ?_
 refine js O Z (jf [3,23,33,31,10,9,8,0,1,2] Z (aV (j2 O Z Z (ac ((vF O Z).cast (v' := eI ((k + 1 : Nat) : Int)) (congrArg eI (by omega))) Z Z Z (j2 O Z Z (jf [109,108,107,105,3,23,33,31,10,9,8,0,1,2] Z (aB O [103] (bin := [eV (f ++ [(⟨(k : Nat), 0, nx⟩ : Fl)])]) Z Z Z Z (ihx (f.length : Nat) (f ++ [(⟨(k : Nat), 0, nx⟩ : Fl)]) (by omega)) Z Z Z Z Z Z (B0 := 111000) Z Z (au ?_))))))))
 refine j4 O Z Z Z Z (j3 O Z Z Z (jf [26,25,24,3,23,33,31,10,9,8,0,1,2] Z (aV (j3 O Z Z Z (dk O Z Z (js O Z (jf [118,116,26,24,3,23,33,31,10,9,8,0,1,2] Z (AOps.heap (bg (ex := Fl.cells ((av x (f.length : Nat) (f ++ [(⟨(k : Nat), 0, nx⟩ : Fl)])).1.getD f.length default)) (xs' := ((av x (f.length : Nat) (f ++ [(⟨(k : Nat), 0, nx⟩ : Fl)])).1.set f.length ⟨((av x (f.length : Nat) (f ++ [(⟨(k : Nat), 0, nx⟩ : Fl)])).1.getD f.length default).stmt, (av x (f.length : Nat) (f ++ [(⟨(k : Nat), 0, nx⟩ : Fl)])).2, ((av x (f.length : Nat) (f ++ [(⟨(k : Nat), 0, nx⟩ : Fl)])).1.getD f.length default).other⟩).map Fl.cells) O Z Z Z Z Z Z Z Z Z Z Z Z Z Z (AX (by omega) (by omega)) (AO (v := (⟨((av x (f.length : Nat) (f ++ [(⟨(k : Nat), 0, nx⟩ : Fl)])).1.getD f.length default).stmt, (av x (f.length : Nat) (f ++ [(⟨(k : Nat), 0, nx⟩ : Fl)])).2, ((av x (f.length : Nat) (f ++ [(⟨(k : Nat), 0, nx⟩ : Fl)])).1.getD f.length default).other⟩ : Fl)) (by omega) Z)) Z (au ?_)))))))))
 refine jf [26,24,3,23,33,31,10,9,8,0,1,2] Z (aV (j4 O Z Z Z Z (j2 O Z Z (jf [10,9,8,24,3,23,33,31,0,1,2] Z (jr ?_)))))
 rw [List.length_set]
 refine ⟨.inl Z, _, af 111001 501 Z Z, _, Z, Z, Z⟩
 exact absurd (cH hc94) (by omega)
theorem qQ {L : Nat} (h1 : 4096 ≤ L) (h2 : L ≤ 1073741824) {b : List Sm} (hb : b.length ≤ 1000) : ∀ {t : Tr} {k k' : Nat}, bZ b k = some (t, k') → t.cok b.length → ∀ (nx : Int) (f : List Fl), f.length + t.nodes ≤ 2000 → MC Tryz.prog L 120 [.c (.d (gj b)), eI (k : Nat), eI nx, .c (.rs 0 0 f.length)] [(0, eV f)] (bc (.tup [.c (.rs 1 0 (av t nx f).1.length), eI (av t nx f).2, eI (k' : Nat)]) [(1, eV (av t nx f).1)])
 | .node s a [x, y], k, k', h, ht, nx, f, hf => by
  obtain ⟨e1, e2, e3, e4, e5⟩ := ch h
  obtain rfl := cU h
  obtain ⟨k1, i1, i2⟩ := b0 e4
  obtain ⟨k2, i3, i4⟩ := b0 i2
  obtain rfl := dP i4
  have hxy := fun nx f h => qQ h1 h2 hb i1 ht.2.2.2.1 nx f h
  have hyy := fun nx f h => qQ h1 h2 hb i3 ht.2.2.2.2.1 nx f h
  by_cases hk : s.kind = 1
  exact xU h1 h2 hk i1 hxy (fun nx f => dY ht.2.2.2.1) hyy (fun nx f => dY ht.2.2.2.2.1) e1 e2.symm hb hf
  have hk7 : s.kind = 7 := by
   have h3 : bm s.kind = 2 := e5.symm
   unfold bm at h3
   split at h3
   omega
   split at h3
   assumption
   split at h3 <;> omega
  exact xT h1 h2 hk7 hxy (fun nx f => dY ht.2.2.2.1) hyy (fun nx f => dY ht.2.2.2.2.1) e1 e2.symm hb hf
 | .node s a [x], k, k', h, ht, nx, f, hf => by
  obtain ⟨e1, e2, e3, e4, e5⟩ := ch h
  obtain rfl := cU h
  obtain ⟨k1, i1, i2⟩ := b0 e4
  obtain rfl := dP i2
  exact xS h1 h2 (je e5.symm) (fun nx f h => qQ h1 h2 hb i1 ht.2.2.2.1 nx f h) (fun nx f => dY ht.2.2.2.1) e1 e2.symm hb hf
 | .node s a [], k, k', h, ht, nx, f, hf => by
  obtain ⟨e1, e2, e3, e4, e5⟩ := ch h
  obtain rfl := cU h
  obtain rfl := dP e4
  exact xV h1 h2 e5.symm e1 e2.symm hb hf
 | .node s a (x :: y :: z :: ks), k, k', h, ht, nx, f, hf => by
  have h1 : ((x :: y :: z :: ks).length : Int) = bm s.kind := ht.2.2.1.2
  have h2 := (cW s.kind).2
  simp only [dL] at h1
  omega
structure Ext (b : List Sm) (f g : List Fl) : Prop where
  len : f.length ≤ g.length
  stmt : ∀ i, i < f.length → (g.getD i default).stmt = (f.getD i default).stmt
  same : ∀ i, i < f.length → ∀ k : Nat, (f.getD i default).stmt = (k : Nat) → (b.getD k default).kind ≠ 8 → g.getD i default = f.getD i default
theorem Ext.trans {b : List Sm} {f g h : List Fl} (a : Ext b f g) (c : Ext b g h) : Ext b f h :=
  ⟨Nat.le_trans a.len c.len, fun i hi => (c.stmt i (Nat.lt_of_lt_of_le hi a.len)).trans (a.stmt i hi), fun i hi k hk h8 => (c.same i (Nat.lt_of_lt_of_le hi a.len) k ((a.stmt i hi).trans hk) h8).trans (a.same i hi k hk h8)⟩
theorem dX {f : List Fl} {x : Fl} {i : Nat} (h : i < f.length) : (f ++ [x]).getD i default = f.getD i default := by
 simp [List.getD_eq_getElem?_getD, List.getElem?_append_left h]
theorem dQ {f : List Fl} {x : Fl} : (f ++ [x]).getD f.length default = x := by simp [List.getD_eq_getElem?_getD]
theorem Ext.app {b : List Sm} {f : List Fl} {x : Fl} : Ext b f (f ++ [x]) := ⟨by simp, fun i hi => by rw [dX hi], fun i hi _ _ _ => dX hi⟩
theorem Ext.set {b : List Sm} {f : List Fl} {n k : Nat} {v : Int} (hn : n < f.length) (hs : (f.getD n default).stmt = (k : Nat)) (h8 : (b.getD k default).kind = 8) : Ext b f (f.set n ⟨(f.getD n default).stmt, v, (f.getD n default).other⟩) := by
 refine ⟨by simp, fun i hi => ?_, fun i hi j hj hne => ?_⟩
 by_cases e : i = n
 subst e; simp [List.getD_eq_getElem?_getD, List.getElem?_set, hi]
 simp [List.getD_eq_getElem?_getD, List.getElem?_set, Ne.symm e]
 have e : i ≠ n := by
  rintro rfl
  rw [hs] at hj
  have : j = k := by omega
  subst this
  exact hne h8
 simp [List.getD_eq_getElem?_getD, List.getElem?_set, Ne.symm e]
theorem Pl.ext {b : List Sm} {f g : List Fl} (h : Ext b f g) {i : Int} {r : List Fr} (p : Pl b f i r) : Pl b g i r := by
 induction p with
 | nil => exact .nil
 | lp hi hs hk hb => exact .lp (Nat.lt_of_lt_of_le hi h.len) ((h.stmt _ hi).trans hs) hk hb
 | @leaf i k r hi hs hk hb p ih =>
  have hne := gC hb
  refine .leaf (Nat.lt_of_lt_of_le hi h.len) ((h.stmt _ hi).trans hs) hk hb ?_
  rw [h.same _ hi _ hs hne.2.2]; exact ih
 | seq hb p ih => exact .seq hb ih
 | @cond i k x y r hi hs hk hb p1 p2 ih1 ih2 =>
  have hne : (b.getD k default).kind ≠ 8 := by omega
  refine .cond (Nat.lt_of_lt_of_le hi h.len) ((h.stmt _ hi).trans hs) hk hb ?_ ?_
  rw [h.same _ hi _ hs hne]; exact ih1
  rw [h.same _ hi _ hs hne]; exact ih2
 | loop hi hs hk hb => exact .loop (Nat.lt_of_lt_of_le hi h.len) ((h.stmt _ hi).trans hs) hk hb
structure Lp where
  s : Sm
  a : Nat
  x : Tr
  r : List Fr
def ba (b : List Sm) : Tr → List Fr → List Lp
  | .node s a [x, y], r => if s.kind = 1 then ba b x (.st y :: r) ++ ba b y r else ba b x r ++ ba b y r
  | .node s a [x], r => ⟨s, a.toNat, x, r⟩ :: ba b x [.lp (bf b a.toNat)]
  | _, _ => []
def LpAt (b : List Sm) (f : List Fl) (i : Nat) (q : Lp) : Prop :=
  i < f.length ∧ (f.getD i default).stmt = (q.a : Nat) ∧ Pl b f (f.getD i default).next [.st q.x, .lp (bf b q.a)] ∧ Pl b f (f.getD i default).other q.r
structure Bld (b : List Sm) (t : Tr) (r : List Fr) (f : List Fl) (g : List Fl × Int) : Prop where
  ext : Ext b f g.1
  pl : Pl b g.1 g.2 (.st t :: r)
  old : ∀ i, i < f.length → g.1.getD i default = f.getD i default
  new : ∀ i, f.length ≤ i → i < g.1.length → ∀ k : Nat, (g.1.getD i default).stmt = (k : Nat) → (b.getD k default).kind = 8 → ∃ q ∈ ba b t r, LpAt b g.1 i q
  all : ∀ q ∈ ba b t r, ∃ i, f.length ≤ i ∧ LpAt b g.1 i q
theorem LpAt.ext {b : List Sm} {f g : List Fl} {i : Nat} {q : Lp} (h : LpAt b f i q) (he : Ext b f g) (ho : g.getD i default = f.getD i default) : LpAt b g i q := by
 obtain ⟨h1, h2, h3, h4⟩ := h
 refine ⟨Nat.lt_of_lt_of_le h1 he.len, by rw [ho]; exact h2, by rw [ho]; exact h3.ext he, by rw [ho]; exact h4.ext he⟩
theorem el {b : List Sm} {s : Sm} {a : Int} {x y : Tr} {r : List Fr} : ba b (.node s a [x, y]) r = if s.kind = 1 then ba b x (.st y :: r) ++ ba b y r else ba b x r ++ ba b y r := by rw [ba]
theorem jS {b : List Sm} {s : Sm} {a : Int} {x : Tr} {r : List Fr} : ba b (.node s a [x]) r = ⟨s, a.toNat, x, r⟩ :: ba b x [.lp (bf b a.toNat)] := by rw [ba]
theorem g9 {b : List Sm} {s : Sm} {a : Int} {r : List Fr} : ba b (.node s a []) r = [] := by rw [ba] <;> simp
theorem ft {b : List Sm} : ∀ {t : Tr} {k k' : Nat}, bZ b k = some (t, k') → ∀ {nx : Int} {f : List Fl} {r : List Fr}, Pl b f nx r → Bld b t r f (av t nx f)
 | .node s a [x, y], k, k', h, nx, f, r, hp => by
  obtain ⟨e1, rfl, e3, e4, e5⟩ := ch h
  obtain rfl := cU h
  obtain ⟨k1, i1, i2⟩ := b0 e4
  obtain ⟨k2, i3, i4⟩ := b0 i2
  rw [jY]
  by_cases hk : (b.getD k default).kind = 1
  rw [if_pos hk]
  have hy := ft i3 hp
  have hx := ft i1 hy.pl
  have hl := hy.ext.len
  refine ⟨hy.ext.trans hx.ext, .seq hk hx.pl, fun i hi => (hx.old i (by omega)).trans (hy.old i hi), fun i h1 h2 j h3 h4 => ?_, fun q hq => ?_⟩
  rw [el, if_pos hk]
  rcases Nat.lt_or_ge i (av y nx f).1.length with h5 | h5
  rw [hx.old i h5] at h3
  obtain ⟨q, hq, hl⟩ := hy.new i h1 h5 j h3 h4
  exact ⟨q, List.mem_append_right _ hq, hl.ext hx.ext (hx.old i h5)⟩
  obtain ⟨q, hq, hl⟩ := hx.new i h5 h2 j h3 h4
  exact ⟨q, List.mem_append_left _ hq, hl⟩
  rw [el, if_pos hk] at hq
  rcases List.mem_append.1 hq with hq | hq
  obtain ⟨i, h1, h2⟩ := hx.all q hq; exact ⟨i, by omega, h2⟩
  obtain ⟨i, h1, h2⟩ := hy.all q hq; exact ⟨i, h1, h2.ext hx.ext (hx.old i h2.1)⟩
  rw [if_neg hk]
  have hk7 : (b.getD k default).kind = 7 := by
   have h3 : bm (b.getD k default).kind = 2 := e5.symm
   unfold bm at h3
   split at h3
   omega
   split at h3
   assumption
   split at h3 <;> omega
  have hx := ft i1 hp
  have hy := ft i3 (hp.ext hx.ext)
  have hl := hx.ext.len
  have hl2 := hy.ext.len
  have hE : Ext b (av y nx (av x nx f).1).1 ((av y nx (av x nx f).1).1 ++ [⟨((k : Nat) : Int), (av x nx f).2, (av y nx (av x nx f).1).2⟩]) := Ext.app
  refine ⟨(hx.ext.trans hy.ext).trans hE, ?_, fun i hi => (dX (by omega)).trans ((hy.old i (by omega)).trans (hx.old i hi)), fun i h1 h2 j h3 h4 => ?_, fun q hq => ?_⟩
  refine .cond (by simp) (by rw [dQ]) e1 hk7 ?_ ?_
  rw [dQ]; exact (hx.pl.ext hy.ext).ext hE
  rw [dQ]; exact hy.pl.ext hE
  rw [el, if_neg hk]
  simp only [ce, dj] at h2
  rcases Nat.lt_or_ge i (av y nx (av x nx f).1).1.length with h6 | h6
  rw [dX h6] at h3
  rcases Nat.lt_or_ge i (av x nx f).1.length with h5 | h5
  rw [hy.old i h5] at h3
  obtain ⟨q, hq, hl⟩ := hx.new i h1 h5 j h3 h4
  exact ⟨q, List.mem_append_left _ hq, (hl.ext hy.ext (hy.old i h5)).ext hE (dX h6)⟩
  obtain ⟨q, hq, hl⟩ := hy.new i h5 h6 j h3 h4
  exact ⟨q, List.mem_append_right _ hq, hl.ext hE (dX h6)⟩
  obtain rfl : i = (av y nx (av x nx f).1).1.length := by omega
  rw [dQ] at h3
  have : j = k := by have h3 : ((k : Nat) : Int) = (j : Nat) := h3; omega
  subst this
  omega
  rw [el, if_neg hk] at hq
  rcases List.mem_append.1 hq with hq | hq
  obtain ⟨i, h1, h2⟩ := hx.all q hq; exact ⟨i, h1, (h2.ext hy.ext (hy.old i h2.1)).ext hE (dX (Nat.lt_of_lt_of_le h2.1 hl2))⟩
  obtain ⟨i, h1, h2⟩ := hy.all q hq; exact ⟨i, by omega, h2.ext hE (dX h2.1)⟩
 | .node s a [x], k, k', h, nx, f, r, hp => by
  obtain ⟨e1, rfl, e3, e4, e5⟩ := ch h
  obtain rfl := cU h
  obtain ⟨k1, i1, i2⟩ := b0 e4
  have hk8 : (b.getD k default).kind = 8 := je e5.symm
  rw [me]
  have hE0 : Ext b f (f ++ [⟨((k : Nat) : Int), 0, nx⟩]) := Ext.app
  have hl0 : (f ++ [(⟨((k : Nat) : Int), 0, nx⟩ : Fl)]).length = f.length + 1 := by simp
  have p0 : Pl b (f ++ [⟨((k : Nat) : Int), 0, nx⟩]) (f.length : Nat) [.lp (bf b k)] := .lp (by simp) (by rw [dQ]) e1 hk8
  have hx := ft i1 p0
  have hlx := hx.ext.len
  obtain ⟨R, hR⟩ : ∃ R, R = av x (f.length : Nat) (f ++ [⟨((k : Nat) : Int), 0, nx⟩]) := ⟨_, rfl⟩
  rw [← hR] at hx hlx ⊢
  have hold := hx.old f.length (by omega)
  rw [dQ] at hold
  have hES : Ext b R.1 (R.1.set f.length ⟨(R.1.getD f.length default).stmt, R.2, (R.1.getD f.length default).other⟩) := Ext.set (k := k) (by omega) (by rw [hold]) hk8
  have hnew : (R.1.set f.length ⟨(R.1.getD f.length default).stmt, R.2, (R.1.getD f.length default).other⟩).getD f.length default = ⟨((k : Nat) : Int), R.2, nx⟩ := by
   rw [hold]; simp [List.getD_eq_getElem?_getD, List.getElem?_set, show f.length < R.1.length by omega]
  have hoth : ∀ i, i ≠ f.length → (R.1.set f.length ⟨(R.1.getD f.length default).stmt, R.2, (R.1.getD f.length default).other⟩).getD i default = R.1.getD i default := fun i hi => by
   simp [List.getD_eq_getElem?_getD, List.getElem?_set, Ne.symm hi]
  have hE := (hE0.trans hx.ext).trans hES
  have hself : LpAt b (R.1.set f.length ⟨(R.1.getD f.length default).stmt, R.2, (R.1.getD f.length default).other⟩) f.length ⟨b.getD k default, k, x, r⟩ := by
   refine ⟨by simp; omega, by rw [hnew], ?_, ?_⟩
   rw [hnew]; exact hx.pl.ext hES
   rw [hnew]; exact hp.ext hE
  refine ⟨hE, .loop (by simp; omega) (by rw [hnew]) e1 hk8, fun i hi => (hoth i (by omega)).trans ((hx.old i (by omega)).trans (dX hi)), fun i h1 h2 j h3 h4 => ?_, fun q hq => ?_⟩
  rw [jS]
  by_cases e : i = f.length
  subst e; exact ⟨_, List.mem_cons_self, hself⟩
  rw [hoth i e] at h3
  simp only [List.length_set] at h2
  obtain ⟨q, hq, hl⟩ := hx.new i (by omega) h2 j h3 h4
  exact ⟨q, List.mem_cons_of_mem _ hq, hl.ext hES (hoth i e)⟩
  rw [jS] at hq
  rcases List.mem_cons.1 hq with rfl | hq
  exact ⟨f.length, cC _, hself⟩
  obtain ⟨i, h1, h2⟩ := hx.all q hq; exact ⟨i, by omega, h2.ext hES (hoth i (by omega))⟩
 | .node s a [], k, k', h, nx, f, r, hp => by
  obtain ⟨e1, rfl, e3, e4, e5⟩ := ch h
  obtain rfl := cU h
  have h0 : bm (b.getD k default).kind = 0 := e5.symm
  have hne := gC h0
  rw [mf]
  refine ⟨Ext.app, .leaf (by simp) (by rw [dQ]) e1 h0 (by rw [dQ]; exact hp.ext Ext.app), fun i hi => dX hi, fun i h1 h2 j h3 h4 => ?_, fun q hq => by rw [g9] at hq; cases hq⟩
  simp only [ce, dj] at h2
  obtain rfl : i = f.length := by omega
  rw [dQ] at h3
  have : j = k := by have h3 : ((k : Nat) : Int) = (j : Nat) := h3; omega
  subst this
  exact absurd h4 hne.2.2
 | .node s a (x :: y :: z :: ks), k, k', h, nx, f, r, hp => by
  obtain ⟨e1, rfl, e3, e4, e5⟩ := ch h
  have h2 := (cW (b.getD k default).kind).2
  simp only [dL] at e5
  omega
def oz (b : List Sm) : Nat → List Int
  | 0 => []
  | i + 1 => oz b i ++ if (b.getD i default).kind = 8 then [(i : Int)] else []
theorem gp {b : List Sm} : ∀ {i : Nat}, (oz b i).length = bf b i
 | 0 => rfl
 | i + 1 => by rw [oz, bf, ce, gp]; split <;> simp
theorem fO {b : List Sm} {i j : Nat} (h : i ≤ j) : bf b i ≤ bf b j := by
 induction h with
 | refl => exact cC _
 | step _ ih => rw [bf]; omega
theorem r9 {b : List Sm} : ∀ {j i : Nat}, i < j → (b.getD i default).kind = 8 → (oz b j).getD (bf b i) default = (i : Int)
 | j + 1, i, hi, h8 => by
  rw [oz]
  rcases Nat.lt_or_ge i j with h | h
  have h1 := fO (b := b) (show i + 1 ≤ j by omega)
  rw [bf, if_pos h8] at h1
  rw [List.getD_eq_getElem?_getD, List.getElem?_append_left (by rw [gp]; omega), ← List.getD_eq_getElem?_getD]
  exact r9 h h8
  obtain rfl : i = j := by omega
  rw [if_pos h8, List.getD_eq_getElem?_getD, List.getElem?_append_right (by rw [gp]; exact cC _), gp]
  simp
variable {pre post : List Tm}
theorem vt (hb : b.length ≤ 1000) : MQ h1 h2 80 [ptr [dK pre, gj b, dK post]] [] (Plain (bH (oz b b.length))) := by
 refine MC.data (jB 29 h1 h2 Tryz.func80 Z Z Z fun O hF => ?_)
 refine ah (js O Z (aV (AOps.heap (bA O Z Z Z) Z (js O Z (jn (ag (ah (js O Z (jn (ao (aq (X := Nat) (fun i => ⟨[(0, ptr [dK pre, gj b, dK post]), (3, .c (.rs 900 0 (oz b i).length)), (4, eI i)], [(900, aX (oz b i))]⟩) (fun i => i ≤ b.length) (fun i => b.length - i) 0 ((af 5 900 Z Z).trans (Ent.to ⟨Z, Z, Z, trivial⟩ Z)) ?_ (fun i hi => ?_))))))))))))
 exact ct _
 refine ag (ah (j4 O Z Z Z Z (js O Z (cu O Z (js O Z (jf [12,0,3,4] Z (jn (ae O Z Z (fun hc12 => ?_) (fun hc12 => ?_)))))))))
 refine aj (ag (ao (ah (j4 O Z Z Z Z (js O Z ?_)))))
 have hil : i < b.length := by have := bC hc12; omega
 have hwl := gp (b := b) (i := i)
 have hwn := fI (b := b) (k := i)
 refine ac (aP O Z Z Z Z Z Z Z Z (dc hil)) Z Z Z (j3 O Z Z Z (jf [23,12,0,3,4] Z (jn (ae O Z Z (fun hc23 => ?_) (fun hc23 => ?_)))))
 refine ak (j2 O Z Z (AOps.heap (bA O Z Z Z) Z (jf [26,24,23,12,0,3,4] Z (AOps.heap (cm (zs := (oz b i ++ [(i : Int)]).map fun n => [.int .i64 n]) (n := (oz b i ++ [(i : Int)]).length) O Z Z Z Z Z Z Z Z Z Z Z Z Z Z Z Z (.row Z (by simp)) Z Z (by decide) Z (by simp; omega) (by simp; omega) (by simp) (by simp)) Z (js O Z (jf [3,23,12,0,4] Z (jn (ak (js O Z (ji O Z (js O Z (jf [4,3,23,12,0] Z (jn ?_)))))))))))))
 have hw : oz b (i + 1) = oz b i ++ [(i : Int)] := by rw [oz, if_pos (bC hc23)]
 refine ⟨i + 1, ((aw [27] (e' := [(0, _), (3, _), (4, _)]) Z Z ⟨Z, Z, Z, trivial⟩ Z).trans (af 27 900 Z Z)).trans (Ent.to ⟨Z, by rw [hw]; rfl, Z, trivial⟩ (by rw [hw]; rfl)), by omega, by omega⟩
 refine aj (ak (js O Z (ji O Z (js O Z (jf [4,23,12,0,3] Z (jn ?_))))))
 have hw : oz b (i + 1) = oz b i := by rw [oz, if_neg (cH hc23), List.append_nil]
 refine ⟨i + 1, (aw [900] (e' := [(0, _), (3, _), (4, _)]) Z Z ⟨Z, Z, Z, trivial⟩ Z).trans (Ent.to ⟨Z, by rw [hw]; rfl, Z, trivial⟩ (by rw [hw]; rfl)), by omega, by omega⟩
 refine aO (ah (j2 O Z Z (jr ?_)))
 refine ⟨.inl Z, _, am, _, Z, ?_⟩
 obtain rfl : i = b.length := by have := cH hc12; omega
 exact .v (.c (.whole Z (bz _).symm))
theorem z8 : MQ h1 h2 122 [ptr [dK pre, gj b, dK post], eI (-1)] [] (Plain (bN pre)) := by
 refine MC.data (jB 25 h1 h2 Tryz.func122 Z Z Z fun O hF => ?_)
 refine ah (js O Z (jn (ag (ah (j2 O Z Z (jn (ae O Z Z (fun hc6 => ?_) (fun hc6 => ?_))))))))
 refine ah (j4 O Z Z Z Z (jf [10,5,4,0,1] Z (ar O Z Z Z Z (ya (ts := pre) h1 h2) (aa Z) Z Z Z Z (B0 := 12000) Z Z (js O Z (jf [4,5,0,1] Z (jr ?_))))))
 refine ⟨.inl Z, _, am, _, Z, ?_⟩
 exact .v (.c .d)
 exact absurd hc6 (by decide)
theorem z7 {n i : Nat} (hb : b.length ≤ 1000) (hi : i < b.length) (hn : n < bf b b.length) (hw : (oz b b.length).getD n default = (i : Int)) : MQ h1 h2 122 [ptr [dK pre, gj b, dK post], eI (n : Nat)] [] (Plain (bN (b.getD i default).facts)) := by
 refine MC.data (jB 25 h1 h2 Tryz.func122 Z Z Z fun O hF => ?_)
 have hwl := gp (b := b) (i := b.length)
 refine ah (js O Z (jn (ag (ah (j2 O Z Z (jn (ae O Z Z (fun hc6 => ?_) (fun hc6 => ?_))))))))
 exact absurd (bC hc6) (by omega)
 refine aj (ag (jw [5,0,1] Z (gL O [_,_,_,_,_,_,_,_,_,_,_,_,_,_] [pn [] 0 1, pn [0] 0 1, pn [0,1] 0 1, pn [0,1,2] 0 1, pn [] 0 0, pe [4] 0, pn [] 0 1, pn [4,5,6] 1 1, pn (rg 4 4) 1 1, pn (rg 0 9) 1 1, pn (rg 0 10) 1 1, pn (rg 0 11) 1 1, pe (rg 0 12) 1, pn (rg 0 13) 2 2] [5,12] [_,_,_] (ai (kc O Z (V O Z)) (ai (kc O Z (V O Z)) (ai (kc O Z (V O Z)) (ai (kc O Z (V O Z)) (kc O Z (ai (bo O (B0 := 18000) Z Z Z Z (vt (pre := pre) (post := post) (b := b) h1 h2 hb) (aa Z) Z Z Z Z Z) (ai (kc O Z (V O Z)) (ai ((aP O Z Z Z Z Z Z Z Z (dc (by omega))).cast (v' := ptr [.int .i64 (i : Nat)]) (by rw [hw])) (kc O Z (ai (aP O Z Z Z Z Z Z Z Z (dc hi)) (kc O Z (kc O Z (ai (bo O (B0 := 25000) Z Z Z Z (ya (ts := (b.getD i default).facts) h1 h2) (aa Z) Z Z Z Z Z) (kc O Z trivial)))))))))))))) ?_)))
 refine jw [4,5,0,1] Z (b9 ?_)
 refine dz ?_
 refine ⟨.inl Z, _, am, _, Z, ?_⟩
 exact .v (.c .d)
def pD (i : Nat) : List Tm := (List.range i).map lA
theorem ij {i : Nat} : (pD i).length = i := by simp [pD]
theorem qW {i : Nat} : pD (i + 1) = pD i ++ [lA i] := by simp [pD, List.range_succ]
theorem yF : MQ h1 h2 121 [] [] (Plain (bN (pD 4))) := by
 refine MC.data (jB 22 h1 h2 Tryz.func121 Z Z Z fun O hF => ?_)
 refine ah (js O Z (aV (AOps.heap (bA O Z Z Z) Z (au ?_))))
 refine js O Z (jn (ag (ah (js O Z (jn (ao (aq (X := Nat) (fun i => ⟨[(1, .c (.rs 900 0 i)), (2, eI i)], [(900, aH (pD i))]⟩) (fun i => i ≤ 4) (fun i => 4 - i) 0 ((cZ 4 Z).trans ((af 4 900 Z Z).trans (Ent.to ⟨Z, Z, trivial⟩ Z))) ?_ (fun i hi => ?_))))))))
 exact ct _
 refine ag (ah (j2 O Z Z (jn (ae O Z Z (fun hc6 => ?_) (fun hc6 => ?_)))))
 refine aj (ag (ao (ah (js O Z (ji O Z (jf [10,6,5,1,2] Z (AOps.heap (ea O Z Z Z Z Z Z Z Z Z (by first | omega | (simp at *; omega)) (by first | omega | (simp at *; omega)) (by first | omega | (simp at *; omega)) (by first | omega | (dsimp only; omega) | (simp only [aT] at *; omega)) (by first | omega | (simp at *; omega)) Z Z Z) Z (au ?_))))))))
 refine js O Z (jf [12,6,5,1,2] Z (jl O Z (au ?_)))
 refine jo O Z (au ?_)
 refine aV (j3 O Z Z Z (dk O Z Z (jf [16,3,12,6,5,1,2] Z (AOps.heap (bg (ex := [.int .i64 0]) (xs' := ((List.replicate i 0 ++ [1] : List Int)).map (fun n => [D.int .i64 n])) O Z Z Z Z Z Z Z Z Z Z Z Z Z Z m5 mZ) Z (au ?_)))))
 refine jn (ak (ay (Ent.freeze 11 (e' := [(1, _), (2, _), (3, _)]) Z (fe [1,2,3] Z) (.cons Z (.box (.cons (.keep Z) (.cons (.row Z (by simp)) .nil))) (.skip (.cons Z .row .nil)))) ?_))
 refine j2 O Z Z (AOps.heap (bE O Z Z Z Z Z Z Z Z Z Z Z) Z (au ?_))
 refine jf [19,17,1,2,3] Z ?_
 have hvl := ij (i := i)
 refine AOps.heap (aU (own := false) (xs := (pD i).map Tm.cells) (ys := [Tm.cells (lA i)]) (zs := (pD (i + 1)).map Tm.cells) (n := i + 1) O Z Z Z Z Z Z Z Z Z Z Z Z Z Z Z Z (.row Z (by simp; omega)) (.whole Z Z (.inr ⟨Z, Z⟩)) (by simp) Z (by simp; omega) (by simp; omega) (by rw [qW, List.map_append]; rfl) (by simp [ij])) Z (au ?_)
 refine au ?_
 refine js O Z (jf [1,2,3] Z (jn (ak (js O Z (ji O Z (js O Z (jf [2,1,3] Z (jn ?_))))))))
 refine ⟨i + 1, ((aw [20] (e' := [(1, _), (2, _)]) Z Z ⟨Z, Z, trivial⟩ Z).trans (af 20 900 Z Z)).trans (Ent.to ⟨Z, Z, trivial⟩ Z), by have := bC hc6; omega, by have := bC hc6; omega⟩
 refine aO (ah (j2 O Z Z (jr ?_)))
 refine ⟨.inl Z, _, am, _, Z, ?_⟩
 obtain rfl : i = 4 := by have := cH hc6; omega
 exact .v (.c (.whole Z (by simp [ij])))
def w0 (fs : List Tm) : Pw := ⟨pD 4, fs, [], 4⟩
def g0 : Gs := ⟨[], [], false⟩
theorem s9 {n : Nat} {fs : List Tm} (h : fs.length + n ≤ 64) : WOk n (w0 fs) := ⟨ij, by show ∀ t ∈ pD 4, t.ok = true; decide, h, by show (0 : Nat) + n ≤ 64; omega, by show (4 : Nat) ≤ 10; decide⟩
theorem vo : GOk 0 g0 := ⟨by show (0 : Nat) ≤ 201; decide, fun _ => by show (0 : Nat) ≤ 200; decide, cC _⟩
def AK (f : List Fl) (idx e : Int) : Nat → Int
  | 0 => e
  | j + 1 => if (f.getD j default).stmt = idx then (j : Int) else AK f idx e j
theorem tQ {f : List Fl} {idx e : Int} : ∀ {j i : Nat}, i < j → (f.getD i default).stmt = idx → ∃ p : Nat, p < j ∧ AK f idx e j = (p : Int) ∧ (f.getD p default).stmt = idx
 | j + 1, i, hi, hs => by
  rw [AK]
  split
  rename_i h; exact ⟨j, by omega, rfl, h⟩
  rename_i h
  obtain ⟨p, h1, h2, h3⟩ := tQ (e := e) (show i < j by
   rcases Nat.lt_or_ge i j with h4 | h4
   · exact h4
   · obtain rfl : i = j := by omega
     exact absurd hs h) hs
  exact ⟨p, by omega, h2, h3⟩
theorem Af {E : Pe} (hbl : b.length ≤ 30) (hT : bZ b 0 = some (t, b.length)) (hck : t.cok b.length) (hnd : t.nodes ≤ 30) (hE : EOk E b) (hpl : pre.length ≤ 6) (hL : 10000000 ≤ L) : MQ h1 h2 81 [ptr [dK pre, gj b, dK E.post], eI (-1)] [] (bc (.c (.pt 0 0 0)) (iO (pP pre b E.post) (di (av t (-1) []).1) (-1) (eA bh E (-1) 31 [.st t] (w0 pre) g0))) := by
 refine aJ 500 Z (MC.keep [500,505,506] (bs := [fF (pP pre b E.post) (di (av t (-1) []).1) (-1) (eA bh E (-1) 31 [.st t] (w0 pre) g0) 505 506, bL (eA bh E (-1) 31 [.st t] (w0 pre) g0).paths, bM (eA bh E (-1) 31 [.st t] (w0 pre) g0).conds]) Z Z (jB 65 h1 h2 Tryz.func81 Z Z Z fun O hF => ?_))
 have hfl := (dY hck (nx := -1) (f := [])).2
 have hB := ft hT (nx := -1) (f := []) (r := []) .nil
 refine ah (js O Z (aV (j4 O Z Z Z Z (jf [17,4,0,1] Z (AOps.heap (bA O Z Z Z) Z (au ?_))))))
 refine aB O [18] (bin := [eV []]) Z Z Z Z (qQ (b := b) h1 h2 (by omega) hT hck (-1) [] (by show (0 : Nat) + t.nodes ≤ 2000; omega)) Z Z Z Z Z Z (B0 := 20000) Z Z (au ?_)
 refine j4 O Z Z Z Z (j3 O Z Z Z (jf [6,5,4,0,1] Z (aV (ay (Ent.freeze 20001 (e' := [(0, _), (1, _), (5, _), (6, _)]) Z (.cons Z (.keep Z) (.cons Z (.keep Z) (.cons Z (.c (.row Z (bz _).symm)) (fe [6] Z)))) (.skip .nil)) ?_))))
 refine j3 O Z Z Z (AOps.heap (bA O Z Z Z) Z (au ?_))
 refine ay (cZ 26 Z) (au ?_)
 refine au ?_
 refine AOps.heap (bA O Z Z Z) Z (au ?_)
 refine ay (cZ 27 Z) (au ?_)
 refine au ?_
 refine js O Z (jf [28,0,1,5,6] Z (jx O Z (au ?_)))
 refine js O Z (jf [8,0,1,5,6] Z (aV (j2 O Z Z (jf [9,8,0,1,5] Z (jn (ag (ah (j2 O Z Z (jn (ae O Z Z (fun hc32 => ?_) (fun hc32 => ?_)))))))))))
 exact absurd (bC hc32) (by decide)
 refine aj (ah (ar O Z Z Z Z (yF h1 h2) (aa Z) Z Z Z Z (B0 := 53000) Z Z (j2 O Z Z (jf [54,53,52,31,9,8,0,1,5] Z (ar O Z Z Z Z (z8 (pre := pre) (post := E.post) (b := b) h1 h2) (aa Z) Z Z Z Z (B0 := 56000) Z Z (jf [55,52,31,9,8,0,1,5] Z (AOps.heap (bA O Z Z Z) Z (au ?_))))))))
 refine ay (Ent.freeze 56 (e' := [(0, _), (1, _), (8, _), (9, _), (52, _), (55, _), (56, _)]) Z (.cons Z (.keep Z) (.cons Z (.keep Z) (.cons Z (.keep Z) (.cons Z (.keep Z) (.cons Z (.keep Z) (.cons Z (.keep Z) (.cons Z (.c (.row Z Z)) .nil))))))) (.cons Z .row (.cons Z .row (.cons Z (.box (fk Z)) (.skip .nil))))) ?_
 refine au ?_
 refine js O Z (jf [57,0,1,8,9] Z (jl O Z (au ?_)))
 refine jo O Z (au ?_)
 refine aV (j4 O Z Z Z Z (ac ((V O Z).cast (v' := eB false) (congrArg eB (by decide))) Z Z Z (jf [62,60,59,58,12,57,0,1,8] Z (aB O [29,26,27] (bin := [fF (pP pre b E.post) (di (av t (-1) []).1) (-1) g0 1 2, bL g0.paths, bM g0.conds]) Z Z Z Z (nj (pre := pre) (b := b) (fl := (av t (-1) []).1) (frm := -1) (E := E) h1 h2 hE (by omega) (n := 31) (r := [.st t]) (w := w0 pre) (g := g0) (c := 0) hB.pl (by show t.nodes + 0 < 31; omega) (s9 (by omega)) vo (by have := cj (show aK [.st t] ≤ 30 by show t.nodes + 0 ≤ 30; omega); rw [pW] at this; omega)) Z Z Z Z Z Z (B0 := 64000) Z Z (au ?_)))))
 refine jf [12,57,0,1,8] Z (aV (j2 O Z Z (jr ?_)))
 refine ⟨.inl Z, _, ((af 29 500 Z Z).trans (af 64005 505 Z Z)).trans (af 64006 506 Z Z), _, Z, Z, Z⟩
theorem Ae {E : Pe} (hbl : b.length ≤ 30) (hT : bZ b 0 = some (t, b.length)) (hck : t.cok b.length) (hnd : t.nodes ≤ 30) (hE : EOk E b) {n : Nat} {q : Lp} (hq : q ∈ ba b t []) (hun : ∀ p ∈ ba b t [], p.a = q.a → p = q) (hw : (oz b b.length).getD n default = (q.a : Int)) (hn : n < bf b b.length) (hqk : q.a < b.length) (hq8 : (b.getD q.a default).kind = 8) (hn1 : aK [.st q.x, .lp (bf b q.a)] ≤ 30) (hn2 : aK q.r ≤ 30) (hL : 20000000 ≤ L) : MQ h1 h2 81 [ptr [dK pre, gj b, dK E.post], eI (n : Nat)] [] (bc (.c (.pt 0 0 0)) (iO (pP pre b E.post) (di (av t (-1) []).1) (n : Nat) (dC (eA bh E (n : Nat) 31 [.st q.x, .lp (bf b q.a)]) (eA bh E (n : Nat) 31 q.r) (w0 (b.getD q.a default).facts) (aQ (b.getD q.a default).sum (w0 (b.getD q.a default).facts).vars).1 (aY (w0 (b.getD q.a default).facts) (b.getD q.a default).sum g0)))) := by
 refine aJ 500 Z (MC.keep [500,505,506] (bs := [fF (pP pre b E.post) (di (av t (-1) []).1) (n : Nat) (dC (eA bh E (n : Nat) 31 [.st q.x, .lp (bf b q.a)]) (eA bh E (n : Nat) 31 q.r) (w0 (b.getD q.a default).facts) (aQ (b.getD q.a default).sum (w0 (b.getD q.a default).facts).vars).1 (aY (w0 (b.getD q.a default).facts) (b.getD q.a default).sum g0)) 505 506, bL (dC (eA bh E (n : Nat) 31 [.st q.x, .lp (bf b q.a)]) (eA bh E (n : Nat) 31 q.r) (w0 (b.getD q.a default).facts) (aQ (b.getD q.a default).sum (w0 (b.getD q.a default).facts).vars).1 (aY (w0 (b.getD q.a default).facts) (b.getD q.a default).sum g0)).paths, bM (dC (eA bh E (n : Nat) 31 [.st q.x, .lp (bf b q.a)]) (eA bh E (n : Nat) 31 q.r) (w0 (b.getD q.a default).facts) (aQ (b.getD q.a default).sum (w0 (b.getD q.a default).facts).vars).1 (aY (w0 (b.getD q.a default).facts) (b.getD q.a default).sum g0)).conds]) Z Z (jB 65 h1 h2 Tryz.func81 Z Z Z fun O hF => ?_))
 have hfl := (dY hck (nx := -1) (f := [])).2
 have hB := ft hT (nx := -1) (f := []) (r := []) .nil
 have hwl := gp (b := b) (i := b.length)
 have hff := (gu (hE.st _ hqk)).2
 have hFl : (av t (-1) []).1.length ≤ 30 := by have : ([] : List Fl).length = 0 := rfl; omega
 refine ah (js O Z (aV (j4 O Z Z Z Z (jf [17,4,0,1] Z (AOps.heap (bA O Z Z Z) Z (au ?_))))))
 refine aB O [18] (bin := [eV []]) Z Z Z Z (qQ (b := b) h1 h2 (by omega) hT hck (-1) [] (by show (0 : Nat) + t.nodes ≤ 2000; omega)) Z Z Z Z Z Z (B0 := 20000) Z Z (au ?_)
 refine j4 O Z Z Z Z (j3 O Z Z Z (jf [6,5,4,0,1] Z (aV (ay (Ent.freeze 20001 (e' := [(0, _), (1, _), (5, _), (6, _)]) Z (.cons Z (.keep Z) (.cons Z (.keep Z) (.cons Z (.c (.row Z (bz _).symm)) (fe [6] Z)))) (.skip .nil)) ?_))))
 refine j3 O Z Z Z (AOps.heap (bA O Z Z Z) Z (au ?_))
 refine ay (cZ 26 Z) (au ?_)
 refine au ?_
 refine AOps.heap (bA O Z Z Z) Z (au ?_)
 refine ay (cZ 27 Z) (au ?_)
 refine au ?_
 refine js O Z (jf [28,0,1,5,6] Z (jx O Z (au ?_)))
 refine js O Z (jf [8,0,1,5,6] Z (aV (j2 O Z Z (jf [9,8,0,1,5] Z (jn (ag (ah (j2 O Z Z (jn (ae O Z Z (fun hc32 => ?_) (fun hc32 => ?_)))))))))))
 refine ah (js O Z (jf [33,31,9,8,0,1,5] Z (ar O Z Z Z Z (vt (pre := pre) (post := E.post) (b := b) h1 h2 (by omega)) (aa Z) Z Z Z Z (B0 := 35000) Z Z (js O Z (ac ((aP O Z Z Z Z Z Z Z Z (dc (by omega))).cast (v' := ptr [.int .i64 (q.a : Nat)]) (by rw [hw])) Z Z Z (j2 O Z Z (jf [10,31,9,8,0,1,5] Z (aV (js O Z (jn (ao (aq (X := Nat) (fun j => ⟨[(0, ptr [dK pre, gj b, dK E.post]), (1, eI (n : Nat)), (5, .c (.d (di (av t (-1) []).1))), (8, .c (.pt 29 0 0)), (9, eI (AK (av t (-1) []).1 (q.a : Nat) (av t (-1) []).2 j)), (10, eI (q.a : Nat)), (11, eI j)], [(26, bL []), (27, bM []), (29, fF (pP pre b E.post) (di (av t (-1) []).1) (n : Nat) g0 26 27)]⟩) (fun j => j ≤ (av t (-1) []).1.length) (fun j => (av t (-1) []).1.length - j) 0 ((aw [26,27,29] (e' := [(0, _), (1, _), (5, _), (8, _), (9, _), (10, _), (11, _)]) Z Z ⟨Z, Z, Z, Z, Z, Z, Z, trivial⟩ Z).trans (Ent.to ⟨Z, Z, Z, Z, Z, Z, Z, trivial⟩ Z)) ?_ (fun j hi => ?_)))))))))))))
 exact ct _
 refine ag (ah (j2 O Z Z (cu O Z (js O Z (jf [41,0,1,5,8,9,10,11] Z (jn (ae O Z Z (fun hc41 => ?_) (fun hc41 => ?_))))))))
 refine aj (ag (ao (ah (j2 O Z Z ?_))))
 have hjl : j < (av t (-1) []).1.length := by have := bC hc41; omega
 refine ac (aP O Z Z Z Z Z Z Z Z (dc hjl)) Z Z Z (j4 O Z Z Z Z (jf [50,41,0,1,5,8,9,10,11] Z (jn (ae O Z Z (fun hc50 => ?_) (fun hc50 => ?_)))))
 refine ak (j2 O Z Z (jn (ak (js O Z (ji O Z (js O Z (jf [11,9,51,50,41,0,1,5,8,10] Z (jn ?_))))))))
 refine ⟨j + 1, (aw [26,27,29] (e' := [(0, _), (1, _), (5, _), (8, _), (9, _), (10, _), (11, _)]) Z Z ⟨Z, Z, Z, Z, Z, Z, Z, trivial⟩ Z).trans (Ent.to ⟨Z, Z, Z, Z, by rw [AK, if_pos (bC hc50)]; rfl, Z, Z, trivial⟩ Z), by omega, by omega⟩
 refine aj (ak (js O Z (ji O Z (js O Z (jf [11,50,41,0,1,5,8,9,10] Z (jn ?_))))))
 refine ⟨j + 1, (aw [26,27,29] (e' := [(0, _), (1, _), (5, _), (8, _), (9, _), (10, _), (11, _)]) Z Z ⟨Z, Z, Z, Z, Z, Z, Z, trivial⟩ Z).trans (Ent.to ⟨Z, Z, Z, Z, by rw [AK, if_neg (cH hc50)]; rfl, Z, Z, trivial⟩ Z), by omega, by omega⟩
 refine aO (ah (ar O Z Z Z Z (yF h1 h2) (aa Z) Z Z Z Z (B0 := 53000) Z Z (j2 O Z Z (ar O Z Z Z Z (z7 (pre := pre) (post := E.post) (b := b) (n := n) (i := q.a) h1 h2 (by omega) hqk hn hw) (aa Z) Z Z Z Z (B0 := 56000) Z Z (jf [55,52,41,0,1,5,8,9,10,11] Z (AOps.heap (bA O Z Z Z) Z (au ?_)))))))
 refine ay (Ent.freeze 56 (e' := [(0, _), (1, _), (8, _), (9, _), (52, _), (55, _), (56, _)]) Z (.cons Z (.keep Z) (.cons Z (.keep Z) (.cons Z (.keep Z) (.cons Z (.keep Z) (.cons Z (.keep Z) (.cons Z (.keep Z) (.cons Z (.c (.row Z Z)) .nil))))))) (.cons Z .row (.cons Z .row (.cons Z (.box (fk Z)) (.skip .nil))))) ?_
 refine au ?_
 refine js O Z (jf [57,0,1,8,9] Z (jl O Z (au ?_)))
 refine jo O Z (au ?_)
 refine aV (js O Z ?_)
 obtain rfl : j = (av t (-1) []).1.length := by have := cH hc41; omega
 obtain ⟨i0, hi0, hl0⟩ := hB.all q hq
 obtain ⟨p, hp1, hp2, hp3⟩ := tQ (e := (av t (-1) []).2) hl0.1 hl0.2.1
 obtain ⟨q1, hq1, hl1⟩ := hB.new p (ct _) hp1 q.a hp3 hq8
 obtain rfl : q1 = q := hun q1 hq1 (by have := hl1.2.1; rw [hp3] at this; omega)
 rw [hp2]
 refine j3 O Z Z Z (ac ((V O Z).cast (v' := eB true) (congrArg eB (decide_eq_true (by omega)))) Z Z Z (jf [62,60,59,58,12,57,0,1,8,9] Z (aB O [29,26,27] (bin := [fF (pP pre b E.post) (di (av t (-1) []).1) (n : Nat) g0 1 2, bL g0.paths, bM g0.conds]) Z Z Z Z (z6 (pre := pre) (b := b) (fl := (av t (-1) []).1) (frm := (n : Nat)) (E := E) h1 h2 hE (by omega) (n := 31) (w := (w0 (b.getD q1.a default).facts)) (g := g0) (c := 0) Z hp1 hp3 hqk hq8 hl1.2.2.1 hl1.2.2.2 (by omega) (by omega) (s9 (by omega)) vo (by have a1 := cj hn1; have a2 := cj hn2; rw [pW] at a1 a2; omega)) Z Z Z Z Z Z (B0 := 64000) Z Z (au ?_))))
 refine jf [12,57,0,1,8,9] Z (aV (j2 O Z Z (jr ?_)))
 refine ⟨.inl Z, _, ((af 29 500 Z Z).trans (af 64005 505 Z Z)).trans (af 64006 506 Z Z), _, Z, Z, Z⟩
 exact absurd (cH hc32) (by omega)
instance : Inhabited Lp := ⟨⟨default, 0, .node default 0 [], []⟩⟩
structure Lps (b : List Sm) (t : Tr) (k k' : Nat) (r : List Fr) : Prop where
  num : (ba b t r).map (fun q => bf b q.a) = List.range' (bf b k) (bf b k' - bf b k)
  at_ : ∀ q ∈ ba b t r, k ≤ q.a ∧ q.a < k' ∧ (b.getD q.a default).kind = 8 ∧ q.s = b.getD q.a default
  size : ∀ q ∈ ba b t r, aK q.r ≤ t.nodes + aK r ∧ q.x.nodes ≤ t.nodes
theorem uf {a b c : Nat} (h : a ≤ b) (g : b ≤ c) : List.range' a (b - a) ++ List.range' b (c - b) = List.range' a (c - a) := by
 have := List.range'_append (s := a) (m := b - a) (n := c - b) (step := 1)
 rw [Nat.one_mul, show a + (b - a) = b by omega, show b - a + (c - b) = c - a by omega] at this
 exact this
theorem uQ {b : List Sm} : ∀ {t : Tr} {k k' : Nat}, bZ b k = some (t, k') → ∀ {r : List Fr}, Lps b t k k' r
 | .node s a [x, y], k, k', h, r => by
  obtain ⟨e1, rfl, e3, e4, e5⟩ := ch h
  obtain rfl := cU h
  obtain ⟨k1, i1, i2⟩ := b0 e4
  obtain ⟨k2, i3, i4⟩ := b0 i2
  obtain rfl := dP i4
  have hl1 := gW i1; have hl2 := gW i3
  have hy := uQ i3 (r := r)
  have h8 : ¬ (b.getD k default).kind = 8 := by
   intro h8; rw [h8] at e5; revert e5; simp only [dL, List.length_nil]; decide
  have hk1 : bf b (k + 1) = bf b k := by rw [bf, if_neg h8]; rfl
  have m1 := fO (b := b) (show k + 1 ≤ k1 by omega)
  have m2 := fO (b := b) (show k1 ≤ k' by omega)
  have hn : Tr.nodes (.node (b.getD k default) (k : Nat) [x, y]) = 1 + (x.nodes + y.nodes) := by simp [Tr.nodes, Trs.nodes]
  have key : ∀ rx, aK rx ≤ y.nodes + aK r → Lps b x (k + 1) k1 rx → ∀ l, l = ba b x rx ++ ba b y r → ba b (.node (b.getD k default) (k : Nat) [x, y]) r = l → Lps b (.node (b.getD k default) (k : Nat) [x, y]) k k' r := fun rx hrx hx l hl he => by
   refine ⟨?_, fun q hq => ?_, fun q hq => ?_⟩
   · rw [he, hl, List.map_append, hx.num, hy.num, hk1]
     exact uf (by omega) m2
   · rw [he, hl] at hq
     rcases List.mem_append.1 hq with hq | hq
     · have := hx.at_ q hq; exact ⟨by omega, by omega, this.2.2⟩
     · have := hy.at_ q hq; exact ⟨by omega, by omega, this.2.2⟩
   · rw [he, hl] at hq
     rw [hn]
     rcases List.mem_append.1 hq with hq | hq
     · have := hx.size q hq; omega
     · have := hy.size q hq; omega
  by_cases hk : (b.getD k default).kind = 1
  exact key (.st y :: r) (cC _) (uQ i1) _ Z (by rw [el, if_pos hk])
  exact key r (by omega) (uQ i1) _ Z (by rw [el, if_neg hk])
 | .node s a [x], k, k', h, r => by
  obtain ⟨e1, rfl, e3, e4, e5⟩ := ch h
  obtain rfl := cU h
  obtain ⟨k1, i1, i2⟩ := b0 e4
  obtain rfl := dP i2
  have hk8 : (b.getD k default).kind = 8 := je e5.symm
  have hl1 := gW i1
  have hx := uQ i1 (r := [.lp (bf b k)])
  have hk1 : bf b (k + 1) = bf b k + 1 := by rw [bf, if_pos hk8]
  have m1 := fO (b := b) (show k + 1 ≤ k' by omega)
  have hn : Tr.nodes (.node (b.getD k default) (k : Nat) [x]) = 1 + x.nodes := by simp [Tr.nodes, Trs.nodes]
  have he : ba b (.node (b.getD k default) (k : Nat) [x]) r = ⟨b.getD k default, k, x, r⟩ :: ba b x [.lp (bf b k)] := jS
  refine ⟨?_, fun q hq => ?_, fun q hq => ?_⟩
  rw [he, List.map_cons, hx.num, hk1, show bf b k' - bf b k = (bf b k' - (bf b k + 1)) + 1 by omega, List.range'_succ]
  rw [he] at hq
  rcases List.mem_cons.1 hq with rfl | hq
  exact ⟨cC _, by show k < k'; omega, hk8, Z⟩
  have := hx.at_ q hq; exact ⟨by omega, this.2.1, this.2.2⟩
  rw [he] at hq
  rw [hn]
  rcases List.mem_cons.1 hq with rfl | hq
  exact ⟨by show aK r ≤ _; omega, by show x.nodes ≤ _; omega⟩
  have := hx.size q hq
  have e0 : aK [.lp (bf b k)] = 0 := rfl
  omega
 | .node s a [], k, k', h, r => by
  obtain ⟨e1, rfl, e3, e4, e5⟩ := ch h
  obtain rfl := cU h
  obtain rfl := dP e4
  have hne := gC (e5.symm : bm (b.getD k default).kind = 0)
  have hk1 : bf b (k + 1) = bf b k := by rw [bf, if_neg hne.2.2]; rfl
  refine ⟨?_, fun q hq => (by rw [g9] at hq; cases hq), fun q hq => (by rw [g9] at hq; cases hq)⟩
  rw [g9, hk1, Nat.sub_self]; rfl
 | .node s a (x :: y :: z :: ks), k, k', h, r => by
  obtain ⟨e1, rfl, e3, e4, e5⟩ := ch h
  have h2 := (cW (b.getD k default).kind).2
  simp only [dL] at e5
  omega
def rX (b : List Sm) (post : List Tm) : Pe := ⟨post, fun n => (b.getD ((oz b b.length).getD n default).toNat default).facts, fun a => bf b a.toNat⟩
theorem zm {b : List Sm} {post : List Tm} (hp : de post 6 = true) (hs : ∀ k, k < b.length → bO (b.getD k default) = true) : EOk (rX b post) b :=
  ⟨kU hp, hs, fun k hk h8 => by simp only [rX]; rw [r9 hk h8]; rfl, fun k hk h8 => by simp only [rX]; rfl⟩
def cB (la : dp) (E : Pe) (b : List Sm) (t : Tr) (pre : List Tm) : Nat → Gs → Gs
  | 0, g => eA la E (-1) 31 [.st t] (w0 pre) g
  | n + 1, g => dC (eA la E (n : Nat) 31 [.st ((ba b t []).getD n default).x, .lp n]) (eA la E (n : Nat) 31 ((ba b t []).getD n default).r) (w0 ((ba b t []).getD n default).s.facts) (aQ ((ba b t []).getD n default).s.sum (pD 4)).1 (aY (w0 ((ba b t []).getD n default).s.facts) ((ba b t []).getD n default).s.sum g)
theorem kQ {b : List Sm} {t : Tr} (hT : bZ b 0 = some (t, b.length)) {n : Nat} (hn : n < bf b b.length) : (ba b t []).getD n default ∈ ba b t [] ∧ bf b ((ba b t []).getD n default).a = n := by
 have h := (uQ hT (r := [])).num
 have hl := congrArg List.length h
 have h0 : bf b 0 = 0 := rfl
 rw [bz, List.length_range', h0] at hl
 have hlt : n < (ba b t []).length := by omega
 have e : (ba b t []).getD n default = (ba b t [])[n] := by simp [List.getD_eq_getElem?_getD, hlt]
 refine ⟨by rw [e]; exact List.getElem_mem hlt, ?_⟩
 have hg : ((ba b t []).map (fun q => bf b q.a))[n]'(by rw [bz]; exact hlt) = n := by
  simp only [h, List.getElem_range']; omega
 rw [List.getElem_map] at hg
 rw [e]; exact hg
theorem xK {b : List Sm} {t : Tr} (hT : bZ b 0 = some (t, b.length)) {p q : Lp} (hp : p ∈ ba b t []) (hq : q ∈ ba b t []) (he : p.a = q.a) : p = q := by
 have h := (uQ hT (r := [])).num
 obtain ⟨i, hi, rfl⟩ := List.mem_iff_getElem.1 hp
 obtain ⟨j, hj, rfl⟩ := List.mem_iff_getElem.1 hq
 have h1 : ∀ i (hi : i < (ba b t []).length), bf b (ba b t [])[i].a = i := fun i hi => by
  have hg : ((ba b t []).map (fun q => bf b q.a))[i]'(by rw [bz]; exact hi) = i := by
    have h0 : bf b 0 = 0 := rfl
    simp only [h, List.getElem_range']; omega
  rw [List.getElem_map] at hg
  exact hg
 have e1 := h1 i hi
 have e2 := h1 j hj
 rw [he, e2] at e1
 subst e1; rfl
theorem CE {L : Nat} (h1 : 4096 ≤ L) (h2 : L ≤ 1073741824) {pre : List Tm} {b : List Sm} {t : Tr} {E : Pe} (hbl : b.length ≤ 30) (hT : bZ b 0 = some (t, b.length)) (hck : t.cok b.length) (hnd : t.nodes ≤ 30) (hE : EOk E b) (hpl : pre.length ≤ 6) (hL : 20000000 ≤ L) {n : Nat} (hn : n ≤ bf b b.length) :
  MC Tryz.prog L 81 [ptr [dK pre, gj b, dK E.post], eI ((n : Int) - 1)] [] (bc (.c (.pt 0 0 0)) (iO (pP pre b E.post) (di (av t (-1) []).1) ((n : Int) - 1) (cB bh E b t pre n g0))) := by
 cases n with
 | zero => exact Af h1 h2 hbl hT hck hnd hE hpl (by omega)
 | succ n =>
  obtain ⟨hq, hqa⟩ := kQ hT (n := n) (by omega)
  have hat := (uQ hT (r := [])).at_ _ hq
  have hsz := (uQ hT (r := [])).size _ hq
  have e0 : aK [] = 0 := rfl
  have e : ((n + 1 : Nat) : Int) - 1 = (n : Nat) := by omega
  rw [e]
  have hw : (oz b b.length).getD n default = (((ba b t []).getD n default).a : Int) := by
   have := r9 hat.2.1 hat.2.2.1
   rw [hqa] at this; exact this
  have := Ae h1 h2 hbl hT hck hnd hE hq (fun p hp he => xK hT hp hq he) hw (by omega) hat.2.1 hat.2.2.1 (by show ((ba b t []).getD n default).x.nodes + 0 ≤ 30; omega) (by omega) hL (pre := pre)
  rw [cB, ← hat.2.2.2, hqa] at *
  exact this
abbrev r4 (ss : List Sq) : D := .slc 3 (ss.map Sq.cells)
def iJ (ss : List Sq) : Bool := ss.all dA && decide ((ss.length : Int) ≤ 60)
theorem vu {ss : List Sq} : MQ h1 h2 50 [.c (.d (r4 ss))] [] (Plain (eB (iJ ss))) := by
 refine jB 18 h1 h2 Tryz.func50 Z Z Z fun O hF => ?_
 have hl : ss.length ≤ L := by simpa [As.fact, A.fact, M.fact, D.fact, Ds.fact] using hF.1.1
 refine ah (js O Z (jn (ag (ah (js O Z (jn (ao (aq (X := Nat) (fun i => ⟨[(0, .c (.d (r4 ss))), (3, eI i)], []⟩) (fun i => i ≤ ss.length ∧ ∀ j (h : j < ss.length), j < i → dA ss[j] = true) (fun i => ss.length - i) 0 (Ent.env ⟨Z, Z, trivial⟩) ?_ (fun i hi => ?_)))))))))
 exact ⟨ct _, fun j h hj => absurd hj (Nat.not_lt_zero j)⟩
 refine ag (ah (j2 O Z Z (cu O Z (js O Z (jf [7,0,3] Z (jn (ae O Z Z (fun hc7 => ?_) (fun hc7 => ?_))))))))
 try simp only [aT] at hc7
 refine aj (ag (ao (ah (j2 O Z Z (iM O Z Z (jf [12,7,0,3] Z (ap O Z Z Z Z (c82 (s := ss.getD i default) h1 h2) (aa Z) Z Z Z Z Z (B0 := 14000) Z (js O Z (jf [14,7,0,3] Z (jn (ae O Z Z (fun hc14 => ?_) (fun hc14 => ?_))))))))))))
 try simp only [aT] at hc14
 refine ah (js O Z (jr ?_))
 refine ⟨.inl Z, _, am, _, Z, ?_⟩
 rw [ax (by omega)] at hc14
 rw [iJ, gD i (by omega) hc14, Bool.false_and]
 exact ⟨Z, Z⟩
 try simp only [aT] at hc14
 refine aj (ak (js O Z (ji O Z (js O Z (jf [3,14,7,0] Z (jn ?_))))))
 refine ⟨i + 1, Ent.env ⟨Z, Z, trivial⟩, ⟨by omega, fun j h hj => ?_⟩, by omega⟩
 by_cases e : j = i
 subst e; rw [ax h] at hc14; exact hc14
 exact hi.2 j h (by omega)
 try simp only [aT] at hc7
 refine aO (ah (js O Z (cu O Z (j2 O Z Z (jf [2,7,0,3] Z (jr ?_))))))
 refine ⟨.inl Z, _, am, _, Z, ?_⟩
 rw [iJ, ii (fun j hj => hi.2 j hj (by omega)), Bool.true_and]
 exact ⟨Z, Z⟩
structure PtOk (p : Pm) (t : Tr) : Prop where
  len : p.body.length ≤ 30
  tree : bZ p.body 0 = some (t, p.body.length)
  cok : t.cok p.body.length
  nodes : t.nodes ≤ 30
  st : ∀ k, k < p.body.length → bO (p.body.getD k default) = true
  pre : de p.pre 6 = true
  post : de p.post 6 = true
theorem PtOk.e {p : Pm} {t : Tr} (h : PtOk p t) : EOk (rX p.body p.post) p.body := zm h.post h.st
def ly (la : dp) (p : Pm) (t : Tr) (n : Nat) (g : Gs) : Gs := cB la (rX p.body p.post) p.body t p.pre n g
end Go.Al
