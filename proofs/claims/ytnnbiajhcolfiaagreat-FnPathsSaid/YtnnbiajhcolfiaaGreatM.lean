/- The reference: the flow of a program, all paths of a start. -/
import Derived.Test.YtnnbiajhcolfiaaGreatL
import Derived.Test.YtnnbiajhcolfiaaGreatC
set_option linter.unusedVariables false
set_option linter.unusedSimpArgs false
set_option maxRecDepth 10000
set_option maxHeartbeats 4000000
open Go.Proofs
namespace Go.Al
variable {L : Nat} (h1 : 4096 ≤ L) (h2 : L ≤ 1073741824)
def ao : Tr → Int → List Fl → List Fl × Int
  | .node s a [x, y], nx, f => if s.kind = 1 then ao x (ao y nx f).2 (ao y nx f).1
      else ((ao y nx (ao x nx f).1).1 ++ [⟨a, (ao x nx f).2, (ao y nx (ao x nx f).1).2⟩], (ao y nx (ao x nx f).1).1.length)
  | .node s a [x], nx, f => ((ao x f.length (f ++ [⟨a, 0, nx⟩])).1.set f.length ⟨((ao x f.length (f ++ [⟨a, 0, nx⟩])).1.getD f.length default).stmt, (ao x f.length (f ++ [⟨a, 0, nx⟩])).2, ((ao x f.length (f ++ [⟨a, 0, nx⟩])).1.getD f.length default).other⟩, f.length)
  | .node s a _, nx, f => (f ++ [⟨a, nx, -1⟩], f.length)
theorem kq {s : Sm} {a nx : Int} {f : List Fl} : ao (.node s a []) nx f = (f ++ [⟨a, nx, -1⟩], (f.length : Int)) := by rw [ao] <;> simp
theorem kp {s : Sm} {a nx : Int} {x : Tr} {f : List Fl} : ao (.node s a [x]) nx f = ((ao x f.length (f ++ [⟨a, 0, nx⟩])).1.set f.length ⟨((ao x f.length (f ++ [⟨a, 0, nx⟩])).1.getD f.length default).stmt, (ao x f.length (f ++ [⟨a, 0, nx⟩])).2, ((ao x f.length (f ++ [⟨a, 0, nx⟩])).1.getD f.length default).other⟩, (f.length : Int)) := by rw [ao]
theorem iJ {s : Sm} {a nx : Int} {x y : Tr} {f : List Fl} : ao (.node s a [x, y]) nx f = if s.kind = 1 then ao x (ao y nx f).2 (ao y nx f).1
      else ((ao y nx (ao x nx f).1).1 ++ [⟨a, (ao x nx f).2, (ao y nx (ao x nx f).1).2⟩], ((ao y nx (ao x nx f).1).1.length : Int)) := by rw [ao]
theorem dC {n : Nat} : ∀ {t : Tr}, t.cok n → ∀ {nx : Int} {f : List Fl}, f.length ≤ (ao t nx f).1.length ∧ (ao t nx f).1.length ≤ f.length + t.nodes
 | .node s a [x, y], ht, nx, f => by
  have hx : ∀ nx f, f.length ≤ (ao x nx f).1.length ∧ (ao x nx f).1.length ≤ f.length + x.nodes := fun nx f => dC ht.2.2.2.1
  have hy : ∀ nx f, f.length ≤ (ao y nx f).1.length ∧ (ao y nx f).1.length ≤ f.length + y.nodes := fun nx f => dC ht.2.2.2.2.1
  rw [show (Tr.node s a [x, y]).nodes = 1 + (x.nodes + y.nodes) by simp [Tr.nodes, Trs.nodes], iJ]
  split
  have := hy nx f; have := hx (ao y nx f).2 (ao y nx f).1; omega
  have := hx nx f; have := hy nx (ao x nx f).1
  simp only [de, gt]; omega
 | .node s a [x], ht, nx, f => by
  have hx : ∀ nx f, f.length ≤ (ao x nx f).1.length ∧ (ao x nx f).1.length ≤ f.length + x.nodes := fun nx f => dC ht.2.2.2.1
  rw [show (Tr.node s a [x]).nodes = 1 + x.nodes by simp [Tr.nodes, Trs.nodes], kp]
  have := hx f.length (f ++ [⟨a, 0, nx⟩])
  simp only [de, gt] at this
  simp only [List.length_set]; omega
 | .node s a [], ht, nx, f => by
  rw [show (Tr.node s a []).nodes = 1 by simp [Tr.nodes, Trs.nodes], kq]
  simp
 | .node s a (x :: y :: z :: ks), ht, nx, f => by
  have h1 : ((x :: y :: z :: ks).length : Int) = aN s.kind := ht.2.2.1.2
  have h2 := (b0 s.kind).2
  simp only [iX] at h1
  omega
theorem ru {b : List Sm} {k k' : Nat} {n : Int} (hn : 0 < n) (h : dc (b.drop k) n = some (k' - k)) (hk : k ≤ k') : k < b.length ∧ k + 1 ≤ k' ∧ dc (b.drop (k + 1)) (n - 1 + aN (b.getD k default).kind) = some (k' - (k + 1)) := by
 have hlt : k < b.length := by
  rcases Nat.lt_or_ge k b.length with h1 | h1
  exact h1
  rw [List.drop_eq_nil_of_le h1, dc, if_neg (by omega)] at h; cases h
 rw [kn hlt hn, Option.map_eq_some_iff] at h
 obtain ⟨q, h1, h2⟩ := h
 exact ⟨hlt, by omega, by rw [h1]; congr 1; omega⟩
theorem pV {b : List Sm} {k k' : Nat} {t : Tr} (h : bR b k = some (t, k')) : dc (b.drop k) 1 = some (k' - k) ∧ k < k' ∧ k' ≤ b.length := by
 obtain ⟨h1, h2⟩ := km h
 have h3 := h2 0 (Int.le_refl _)
 refine ⟨?_, ga h⟩
 rw [show (1 : Int) = 0 + 1 from Z, h3, f8 (Int.le_refl _)]
 simp
theorem tn {b : List Sm} {k k' : Nat} {n : Int} (hn : n ≤ 0) (h : dc (b.drop k) n = some (k' - k)) (hk : k ≤ k') : k = k' := by
 rw [f8 hn] at h
 simp only [eg] at h
 omega
abbrev dT (f : List Fl) : B := .row true 3 (f.map Fl.cells)
variable {b : List Sm} {t : Tr} {k : Nat}
theorem zk {k' : Nat} (hb : b.length ≤ 1000) (ht : bR b k = some (t, k')) : MQ h1 h2 124 [.c (.d (ie b)), eI (k : Nat)] [] (Plain (.tup [eI (k : Nat), eI (k' : Nat)])) := by
 refine jB 29 h1 h2 Tryz.func124 Z Z Z fun O hF => ?_
 have hs0 := pV ht
 refine ag (j2 O Z Z (bn (js O Z (bn (j2 O Z Z (jn (ah (aq (aH (X := Nat × Int) (fun z => ⟨[(0, .c (.d (ie b))), (1, eI (k : Nat)), (6, eI z.2), (7, eI (z.1 : Nat))], []⟩) (fun z => z.1 ≤ k' ∧ 0 ≤ z.2 ∧ z.2 ≤ (z.1 : Int) + 1 ∧ dc (b.drop z.1) z.2 = some (k' - z.1)) (fun z => k' - z.1) (k, 1) (Ent.env ⟨Z, Z, Z, Z, trivial⟩) ?_ (fun z hi => ?_))))))))))
 exact ⟨by show k ≤ k'; omega, by show (0 : Int) ≤ 1; decide, by show (1 : Int) ≤ (k : Int) + 1; omega, hs0.1⟩
 refine ah (ag (j2 O Z Z (jn (ae O Z Z (fun hc10 => ?_) (fun hc10 => ?_)))))
 refine ak (aq (ah (ag (j2 O Z Z ?_))))
 have hpos := bz hc10
 have hsk := ru hpos hi.2.2.2 hi.1
 refine aa (aO O Z Z Z Z Z Z Z Z (cU hsk.1)) Z Z Z (j2 O Z Z (jf [15,10,9,0,1,6,7] Z (jn (aq (ah (ag (j2 O Z Z (jn (ae O Z Z (fun hc18 => ?_) (fun hc18 => ?_))))))))))
 refine ak (ae O Z Z (fun hc18 => ?_) (fun hc18 => ?_))
 refine an (js O Z (ji O Z (js O Z (jf [6,18,19,15,10,9,0,1,7] Z (jn (an (js O Z (ji O Z (js O Z (jf [7,6,18,19,15,10,9,0,1] Z (jn ?_)))))))))))
 have hbe : aN (b.getD z.1 default).kind = 2 := by unfold aN; rw [if_pos (bz hc18)]
 refine ⟨(z.1 + 1, z.2 + 1), Ent.env ⟨Z, Z, Z, Z, trivial⟩, ⟨hsk.2.1, by show (0 : Int) ≤ z.2 + 1; omega, by show z.2 + 1 ≤ ((z.1 + 1 : Nat) : Int) + 1; omega, ?_⟩, by show k' - (z.1 + 1) < k' - z.1; omega⟩
 rw [show (z.2 + 1 : Int) = z.2 - 1 + aN (b.getD z.1 default).kind by omega]
 exact hsk.2.2
 exact absurd ‹decide ((b.getD z.1 default).kind = 1) = true› (by rw [hc18]; decide)
 refine an (j2 O Z Z (jn (ae O Z Z (fun hc18 => ?_) (fun hc18 => ?_))))
 refine an (js O Z (ji O Z (js O Z (jf [6,18,20,19,15,10,9,0,1,7] Z (jn (an (js O Z (ji O Z (js O Z (jf [7,6,18,20,19,15,10,9,0,1] Z (jn ?_)))))))))))
 have hbe : aN (b.getD z.1 default).kind = 2 := by unfold aN; rw [bz hc18]; decide
 refine ⟨(z.1 + 1, z.2 + 1), Ent.env ⟨Z, Z, Z, Z, trivial⟩, ⟨hsk.2.1, by show (0 : Int) ≤ z.2 + 1; omega, by show z.2 + 1 ≤ ((z.1 + 1 : Nat) : Int) + 1; omega, ?_⟩, by show k' - (z.1 + 1) < k' - z.1; omega⟩
 rw [show (z.2 + 1 : Int) = z.2 - 1 + aN (b.getD z.1 default).kind by omega]
 exact hsk.2.2
 refine ag (j2 O Z Z (jn (ae O Z Z (fun hc23 => ?_) (fun hc23 => ?_))))
 refine ak (an (js O Z (ji O Z (js O Z (jf [7,23,24,18,20,19,15,10,9,0,1,6] Z (jn ?_))))))
 have hbe : aN (b.getD z.1 default).kind = 1 := by unfold aN; rw [bz hc23]; decide
 refine ⟨(z.1 + 1, z.2), Ent.env ⟨Z, Z, Z, Z, trivial⟩, ⟨hsk.2.1, by show (0 : Int) ≤ z.2; omega, by show z.2 ≤ ((z.1 + 1 : Nat) : Int) + 1; omega, ?_⟩, by show k' - (z.1 + 1) < k' - z.1; omega⟩
 rw [show (z.2 : Int) = z.2 - 1 + aN (b.getD z.1 default).kind by omega]
 exact hsk.2.2
 refine an (js O Z (ji O Z (js O Z (jf [6,23,24,18,20,19,15,10,9,0,1,7] Z (jn (an (js O Z (ji O Z (js O Z (jf [7,6,23,24,18,20,19,15,10,9,0,1] Z (jn ?_)))))))))))
 have hne : ¬ (b.getD z.1 default).kind = 1 := cp ‹decide ((b.getD z.1 default).kind = 1) = false›
 have hbe : aN (b.getD z.1 default).kind = 0 := by unfold aN; rw [if_neg hne, if_neg (cp hc18), if_neg (cp hc23)]
 refine ⟨(z.1 + 1, z.2 - 1), Ent.env ⟨Z, Z, Z, Z, trivial⟩, ⟨hsk.2.1, by show (0 : Int) ≤ z.2 - 1; omega, by show z.2 - 1 ≤ ((z.1 + 1 : Nat) : Int) + 1; omega, ?_⟩, by show k' - (z.1 + 1) < k' - z.1; omega⟩
 rw [show (z.2 - 1 : Int) = z.2 - 1 + aN (b.getD z.1 default).kind by omega]
 exact hsk.2.2
 refine bH (ag (j4 O Z Z Z Z (jf [5,4,10,9,0,1,6,7] Z (jr ?_))))
 refine ⟨.inl Z, _, av, _, Z, ?_⟩
 have he := tn (by have := cp hc10; omega) hi.2.2.2 hi.1
 rw [← he]
 exact ⟨Z, Z⟩
theorem cC {body : List Sm} {k k' : Nat} {s : Sm} {a : Int} {ks : List Tr} (h : bR body k = some (.node s a ks, k')) : a = (k : Nat) := by
 rw [ke] at h
 split at h
 cases h
 split at h
 cases h
 simp only [Option.map_eq_some_iff] at h
 obtain ⟨⟨ts, k2⟩, h3, h4⟩ := h
 simp only [Prod.mk.injEq, Tr.node.injEq] at h4
 exact h4.1.2.1.symm
theorem dm {f : Nat → Option (Tr × Nat)} {k k' : Nat} (h : ci f 0 k = some ([], k')) : k' = k := by
 simp only [ci, eg, Prod.mk.injEq] at h; exact h.2.symm
theorem bJ {f : Nat → Option (Tr × Nat)} {q k k' : Nat} {x : Tr} {xs : List Tr} (h : ci f (q + 1) k = some (x :: xs, k')) : ∃ k1, f k = some (x, k1) ∧ ci f q k1 = some (xs, k') := by
 unfold ci at h
 cases hx : f k with
 | none => rw [hx] at h; cases h
 | some p =>
  obtain ⟨t, k1⟩ := p
  rw [hx] at h
  simp only [Option.map_eq_some_iff] at h
  obtain ⟨⟨ts1, k2⟩, h1, h2⟩ := h
  simp only [Prod.mk.injEq, List.cons.injEq] at h2
  obtain ⟨⟨rfl, rfl⟩, rfl⟩ := h2
  exact ⟨k1, Z, h1⟩
theorem f9 {k : Int} (h : aN k = 1) : k = 8 := by
 unfold aN at h
 split at h
 omega
 split at h
 omega
 split at h
 assumption
 omega
variable {nx : Int} {f : List Fl} {s : Sm}
theorem uX (hkk : aN s.kind = 0) (hk : k < b.length) (hbs : b.getD k default = s) (hb : b.length ≤ 1000) (hf : f.length + Tr.nodes (.node s (k : Nat) []) ≤ 2000) : MQ h1 h2 80 [.c (.d (ie b)), eI (k : Nat), eI nx, .c (.rs 0 0 f.length)] [(0, dT f)] (aS (.tup [.c (.rs 1 0 (ao (.node s (k : Nat) []) nx f).1.length), eI (ao (.node s (k : Nat) []) nx f).2, eI (k + 1 : Nat)]) [(1, dT (ao (.node s (k : Nat) []) nx f).1)]) := by
 refine MC.shift 500 Z (jH 132 [500] h1 h2 Tryz.func80 Z Z Z Z fun O hF => ?_)
 refine bK ?_
 have hne := fT hkk
 have hnd : Tr.nodes (.node s (k : Nat) []) = 1 := by simp [Tr.nodes, Trs.nodes]
 rw [kq]
 refine ag (j3 O Z Z Z (jn (ah (ag (j2 O Z Z (aa ((aO O Z Z Z Z Z Z Z Z (cU hk)).cast (v' := ptr (Sm.cells s)) (by rw [hbs])) Z Z Z (j2 O Z Z (jf [31,10,9,8,0,1,2,3] Z (jn (aq (ag (j2 O Z Z (jn (ae O Z Z (fun hc32 => ?_) (fun hc32 => ?_)))))))))))))))
 exact absurd (bz hc32) (by omega)
 refine ag (j2 O Z Z (jf [63,33,31,10,9,8,0,1,2,3] Z (jn (ae O Z Z (fun hc63 => ?_) (fun hc63 => ?_)))))
 exact absurd (bz hc63) (by omega)
 refine ag (j2 O Z Z (jf [94,33,31,10,9,8,0,1,2,3] Z (jn (ae O Z Z (fun hc94 => ?_) (fun hc94 => ?_)))))
 exact absurd (bz hc94) (by omega)
 refine ak (ag (j4 O Z Z Z Z (jf [125,122,33,31,10,9,8,0,1,2,3] Z (AOps.heap (bB O Z Z Z) Z (ap ?_)))))
 refine jf [126,122,33,31,10,9,8,0,1,2,3] Z (jY (q := 3) O (cZ (zs := (f ++ [(⟨(k : Nat), nx, -1⟩ : Fl)]).map Fl.cells) (n := (f ++ [(⟨(k : Nat), nx, -1⟩ : Fl)]).length) O Z Z Z Z Z Z Z Z Z Z Z Z Z Z Z Z (.row Z (cw _).symm) Z Z (by decide) Z (by simp; omega) (by simp; omega) (by simp) (by simp)) Z Z Z Z Z Z Z Z Z Z Z Z Z Z Z (by omega) Z Z (ap ?_))
 refine js O Z (aa ((vF O Z).cast (v' := eI ((k + 1 : Nat) : Int)) (congrArg eI (by omega))) Z Z Z (j3 O Z Z Z (jf [10,9,8,33,31,0,1,2,3] Z (jr ?_))))
 refine ⟨.inl Z, _, ac 127 501 Z Z, _, Z, Z, Z⟩
variable {x : Tr} {k1 : Nat}
theorem uW {y : Tr} {k2 : Nat} (hkk : s.kind = 1) (hx : bR b (k + 1) = some (x, k1)) (ihx : ∀ (nx : Int) (f : List Fl), f.length + x.nodes ≤ 2000 → MQ h1 h2 80 [.c (.d (ie b)), eI (k + 1 : Nat), eI nx, .c (.rs 0 0 f.length)] [(0, dT f)] (aS (.tup [.c (.rs 1 0 (ao x nx f).1.length), eI (ao x nx f).2, eI (k1 : Nat)]) [(1, dT (ao x nx f).1)])) (hlx : ∀ (nx : Int) (f : List Fl), f.length ≤ (ao x nx f).1.length ∧ (ao x nx f).1.length ≤ f.length + x.nodes) (ihy : ∀ (nx : Int) (f : List Fl), f.length + y.nodes ≤ 2000 → MQ h1 h2 80 [.c (.d (ie b)), eI (k1 : Nat), eI nx, .c (.rs 0 0 f.length)] [(0, dT f)] (aS (.tup [.c (.rs 1 0 (ao y nx f).1.length), eI (ao y nx f).2, eI (k2 : Nat)]) [(1, dT (ao y nx f).1)])) (hly : ∀ (nx : Int) (f : List Fl), f.length ≤ (ao y nx f).1.length ∧ (ao y nx f).1.length ≤ f.length + y.nodes) (hk : k < b.length) (hbs : b.getD k default = s) (hb : b.length ≤ 1000) (hf : f.length + Tr.nodes (.node s (k : Nat) [x, y]) ≤ 2000) : MQ h1 h2 80 [.c (.d (ie b)), eI (k : Nat), eI nx, .c (.rs 0 0 f.length)] [(0, dT f)] (aS (.tup [.c (.rs 1 0 (ao (.node s (k : Nat) [x, y]) nx f).1.length), eI (ao (.node s (k : Nat) [x, y]) nx f).2, eI (k2 : Nat)]) [(1, dT (ao (.node s (k : Nat) [x, y]) nx f).1)]) := by
 refine MC.shift 500 Z (jH 132 [500] h1 h2 Tryz.func80 Z Z Z Z fun O hF => ?_)
 refine bK ?_
 have hnd : Tr.nodes (.node s (k : Nat) [x, y]) = 1 + (x.nodes + y.nodes) := by simp [Tr.nodes, Trs.nodes]
 have h9 := hly nx f
 rw [iJ, if_pos hkk]
 refine ag (j3 O Z Z Z (jn (ah (ag (j2 O Z Z (aa ((aO O Z Z Z Z Z Z Z Z (cU hk)).cast (v' := ptr (Sm.cells s)) (by rw [hbs])) Z Z Z (j2 O Z Z (jf [31,10,9,8,0,1,2,3] Z (jn (aq (ag (j2 O Z Z (jn (ae O Z Z (fun hc32 => ?_) (fun hc32 => ?_)))))))))))))))
 refine ag (j2 O Z Z (aa ((vF O Z).cast (v' := eI ((k + 1 : Nat) : Int)) (congrArg eI (by omega))) Z Z Z (jf [37,35,33,31,10,9,8,0,1,2,3] Z (ay O Z Z Z Z (zk (b := b) h1 h2 hb hx) (af Z) Z Z Z Z (B0 := 39000) Z Z (j4 O Z Z Z Z (js O Z (jf [12,33,31,10,9,8,0,1,2,3] Z (bn (j4 O Z Z Z Z (jf [45,44,43,42,33,31,10,9,8,0,1,2,3] Z (aj O [500] (bin := [dT f]) Z Z Z Z (ihy nx f (by omega)) Z Z Z Z Z Z (B0 := 47000) Z Z (ap ?_))))))))))))
 refine j4 O Z Z Z Z (j3 O Z Z Z (jf [15,14,13,33,31,10,9,8,0,1,2,3] Z (bn (j2 O Z Z (aa ((vF O Z).cast (v' := eI ((k + 1 : Nat) : Int)) (congrArg eI (by omega))) Z Z Z (j2 O Z Z (jf [55,54,53,51,15,13,33,31,10,9,8,0,1,2,3] Z (aj O [47001] (bin := [dT (ao y nx f).1]) Z Z Z Z (ihx (ao y nx f).2 (ao y nx f).1 (by omega)) Z Z Z Z Z Z (B0 := 57000) Z Z (ap ?_)))))))))
 refine j4 O Z Z Z Z (j3 O Z Z Z (jf [16,13,15,33,31,10,9,8,0,1,2,3] Z (bn (j4 O Z Z Z Z (j2 O Z Z (jf [10,9,8,13,33,31,0,1,2,3] Z (jr ?_)))))))
 refine ⟨.inl Z, _, ac 57001 501 Z Z, _, Z, Z, Z⟩
 exact absurd (cp hc32) (by omega)
theorem uV {y : Tr} {k2 : Nat} (hkk : s.kind = 7) (ihx : ∀ (nx : Int) (f : List Fl), f.length + x.nodes ≤ 2000 → MQ h1 h2 80 [.c (.d (ie b)), eI (k + 1 : Nat), eI nx, .c (.rs 0 0 f.length)] [(0, dT f)] (aS (.tup [.c (.rs 1 0 (ao x nx f).1.length), eI (ao x nx f).2, eI (k1 : Nat)]) [(1, dT (ao x nx f).1)])) (hlx : ∀ (nx : Int) (f : List Fl), f.length ≤ (ao x nx f).1.length ∧ (ao x nx f).1.length ≤ f.length + x.nodes) (ihy : ∀ (nx : Int) (f : List Fl), f.length + y.nodes ≤ 2000 → MQ h1 h2 80 [.c (.d (ie b)), eI (k1 : Nat), eI nx, .c (.rs 0 0 f.length)] [(0, dT f)] (aS (.tup [.c (.rs 1 0 (ao y nx f).1.length), eI (ao y nx f).2, eI (k2 : Nat)]) [(1, dT (ao y nx f).1)])) (hly : ∀ (nx : Int) (f : List Fl), f.length ≤ (ao y nx f).1.length ∧ (ao y nx f).1.length ≤ f.length + y.nodes) (hk : k < b.length) (hbs : b.getD k default = s) (hb : b.length ≤ 1000) (hf : f.length + Tr.nodes (.node s (k : Nat) [x, y]) ≤ 2000) : MQ h1 h2 80 [.c (.d (ie b)), eI (k : Nat), eI nx, .c (.rs 0 0 f.length)] [(0, dT f)] (aS (.tup [.c (.rs 1 0 (ao (.node s (k : Nat) [x, y]) nx f).1.length), eI (ao (.node s (k : Nat) [x, y]) nx f).2, eI (k2 : Nat)]) [(1, dT (ao (.node s (k : Nat) [x, y]) nx f).1)]) := by
 refine MC.shift 500 Z (jH 132 [500] h1 h2 Tryz.func80 Z Z Z Z fun O hF => ?_)
 refine bK ?_
 have hnd : Tr.nodes (.node s (k : Nat) [x, y]) = 1 + (x.nodes + y.nodes) := by simp [Tr.nodes, Trs.nodes]
 have h9 := hlx nx f
 have h8 := hly nx (ao x nx f).1
 rw [iJ, if_neg (by omega)]
 refine ag (j3 O Z Z Z (jn (ah (ag (j2 O Z Z (aa ((aO O Z Z Z Z Z Z Z Z (cU hk)).cast (v' := ptr (Sm.cells s)) (by rw [hbs])) Z Z Z (j2 O Z Z (jf [31,10,9,8,0,1,2,3] Z (jn (aq (ag (j2 O Z Z (jn (ae O Z Z (fun hc32 => ?_) (fun hc32 => ?_)))))))))))))))
 exact absurd (bz hc32) (by omega)
 refine ag (j2 O Z Z (jf [63,33,31,10,9,8,0,1,2,3] Z (jn (ae O Z Z (fun hc63 => ?_) (fun hc63 => ?_)))))
 refine ag (j2 O Z Z (aa ((vF O Z).cast (v' := eI ((k + 1 : Nat) : Int)) (congrArg eI (by omega))) Z Z Z (j2 O Z Z (jf [70,69,68,66,33,31,10,9,8,0,1,2,3] Z (aj O [500] (bin := [dT f]) Z Z Z Z (ihx nx f (by omega)) Z Z Z Z Z Z (B0 := 72000) Z Z (ap ?_))))))
 refine j4 O Z Z Z Z (j3 O Z Z Z (jf [20,19,18,33,31,10,9,8,0,1,2,3] Z (bn (j4 O Z Z Z Z (jf [79,78,77,76,19,18,33,31,10,9,8,0,1,2,3] Z (aj O [72001] (bin := [dT (ao x nx f).1]) Z Z Z Z (ihy nx (ao x nx f).1 (by omega)) Z Z Z Z Z Z (B0 := 81000) Z Z (ap ?_)))))))
 refine j4 O Z Z Z Z (j3 O Z Z Z (jf [22,21,18,19,33,31,10,9,8,0,1,2,3] Z (bn (j4 O Z Z Z Z (js O Z (jf [88,84,22,18,33,31,10,9,8,0,1,2,3] Z (AOps.heap (bB O Z Z Z) Z (ap ?_))))))))
 refine jf [89,84,22,18,33,31,10,9,8,0,1,2,3] Z (jY (q := 18) O (cZ (zs := ((ao y nx (ao x nx f).1).1 ++ [(⟨(k : Nat), (ao x nx f).2, (ao y nx (ao x nx f).1).2⟩ : Fl)]).map Fl.cells) (n := ((ao y nx (ao x nx f).1).1 ++ [(⟨(k : Nat), (ao x nx f).2, (ao y nx (ao x nx f).1).2⟩ : Fl)]).length) O Z Z Z Z Z Z Z Z Z Z Z Z Z Z Z Z (.row Z (cw _).symm) Z Z (by decide) Z (by simp; omega) (by simp; omega) (by simp) (by simp)) Z Z Z Z Z Z Z Z Z Z Z Z Z Z Z (by omega) Z Z (ap ?_))
 refine j4 O Z Z Z Z (jf [10,9,8,18,33,31,0,1,2,3] Z (jr ?_))
 refine ⟨.inl Z, _, ac 90 501 Z Z, _, Z, Z, Z⟩
 exact absurd (cp hc63) (by omega)
theorem uU (hkk : s.kind = 8) (ihx : ∀ (nx : Int) (f : List Fl), f.length + x.nodes ≤ 2000 → MQ h1 h2 80 [.c (.d (ie b)), eI (k + 1 : Nat), eI nx, .c (.rs 0 0 f.length)] [(0, dT f)] (aS (.tup [.c (.rs 1 0 (ao x nx f).1.length), eI (ao x nx f).2, eI (k1 : Nat)]) [(1, dT (ao x nx f).1)])) (hlx : ∀ (nx : Int) (f : List Fl), f.length ≤ (ao x nx f).1.length ∧ (ao x nx f).1.length ≤ f.length + x.nodes) (hk : k < b.length) (hbs : b.getD k default = s) (hb : b.length ≤ 1000) (hf : f.length + Tr.nodes (.node s (k : Nat) [x]) ≤ 2000) : MQ h1 h2 80 [.c (.d (ie b)), eI (k : Nat), eI nx, .c (.rs 0 0 f.length)] [(0, dT f)] (aS (.tup [.c (.rs 1 0 (ao (.node s (k : Nat) [x]) nx f).1.length), eI (ao (.node s (k : Nat) [x]) nx f).2, eI (k1 : Nat)]) [(1, dT (ao (.node s (k : Nat) [x]) nx f).1)]) := by
 refine MC.shift 500 Z (jH 132 [500] h1 h2 Tryz.func80 Z Z Z Z fun O hF => ?_)
 refine bK ?_
 have hnd : Tr.nodes (.node s (k : Nat) [x]) = 1 + x.nodes := by simp [Tr.nodes, Trs.nodes]
 have h9 := hlx (f.length : Nat) (f ++ [(⟨(k : Nat), 0, nx⟩ : Fl)])
 have h8 : (f ++ [(⟨(k : Nat), 0, nx⟩ : Fl)]).length = f.length + 1 := by simp
 rw [kp]
 refine ag (j3 O Z Z Z (jn (ah (ag (j2 O Z Z (aa ((aO O Z Z Z Z Z Z Z Z (cU hk)).cast (v' := ptr (Sm.cells s)) (by rw [hbs])) Z Z Z (j2 O Z Z (jf [31,10,9,8,0,1,2,3] Z (jn (aq (ag (j2 O Z Z (jn (ae O Z Z (fun hc32 => ?_) (fun hc32 => ?_)))))))))))))))
 exact absurd (bz hc32) (by omega)
 refine ag (j2 O Z Z (jf [63,33,31,10,9,8,0,1,2,3] Z (jn (ae O Z Z (fun hc63 => ?_) (fun hc63 => ?_)))))
 exact absurd (bz hc63) (by omega)
 refine ag (j2 O Z Z (jf [94,33,31,10,9,8,0,1,2,3] Z (jn (ae O Z Z (fun hc94 => ?_) (fun hc94 => ?_)))))
 refine ag (js O Z (fI O Z Z (js O Z (jf [23,33,31,10,9,8,0,1,2,3] Z (bn (j4 O Z Z Z Z (jf [101,98,23,33,31,10,9,8,0,1,2,3] Z (AOps.heap (bB O Z Z Z) Z (ap ?_)))))))))
 refine jf [102,98,23,33,31,10,9,8,0,1,2,3] Z (AOps.heap (cZ (zs := (f ++ [(⟨(k : Nat), 0, nx⟩ : Fl)]).map Fl.cells) (n := (f ++ [(⟨(k : Nat), 0, nx⟩ : Fl)]).length) O Z Z Z Z Z Z Z Z Z Z Z Z Z Z Z Z (.row Z (cw _).symm) Z Z (by decide) Z (by simp; omega) (by simp; omega) (by simp) (by simp)) Z (ap ?_))
 refine ap ?_
 refine js O Z (jf [3,23,33,31,10,9,8,0,1,2] Z (bn (j2 O Z Z (aa ((vF O Z).cast (v' := eI ((k + 1 : Nat) : Int)) (congrArg eI (by omega))) Z Z Z (j2 O Z Z (jf [109,108,107,105,3,23,33,31,10,9,8,0,1,2] Z (aj O [103] (bin := [dT (f ++ [(⟨(k : Nat), 0, nx⟩ : Fl)])]) Z Z Z Z (ihx (f.length : Nat) (f ++ [(⟨(k : Nat), 0, nx⟩ : Fl)]) (by omega)) Z Z Z Z Z Z (B0 := 111000) Z Z (ap ?_))))))))
 refine j4 O Z Z Z Z (j3 O Z Z Z (jf [26,25,24,3,23,33,31,10,9,8,0,1,2] Z (bn (j3 O Z Z Z (fI O Z Z (js O Z (jf [118,116,26,24,3,23,33,31,10,9,8,0,1,2] Z (AOps.heap (cv (ex := Fl.cells ((ao x (f.length : Nat) (f ++ [(⟨(k : Nat), 0, nx⟩ : Fl)])).1.getD f.length default)) (xs' := ((ao x (f.length : Nat) (f ++ [(⟨(k : Nat), 0, nx⟩ : Fl)])).1.set f.length ⟨((ao x (f.length : Nat) (f ++ [(⟨(k : Nat), 0, nx⟩ : Fl)])).1.getD f.length default).stmt, (ao x (f.length : Nat) (f ++ [(⟨(k : Nat), 0, nx⟩ : Fl)])).2, ((ao x (f.length : Nat) (f ++ [(⟨(k : Nat), 0, nx⟩ : Fl)])).1.getD f.length default).other⟩).map Fl.cells) O Z Z Z Z Z Z Z Z Z Z Z Z Z Z (xL (by omega) (by omega)) (xE (v := (⟨((ao x (f.length : Nat) (f ++ [(⟨(k : Nat), 0, nx⟩ : Fl)])).1.getD f.length default).stmt, (ao x (f.length : Nat) (f ++ [(⟨(k : Nat), 0, nx⟩ : Fl)])).2, ((ao x (f.length : Nat) (f ++ [(⟨(k : Nat), 0, nx⟩ : Fl)])).1.getD f.length default).other⟩ : Fl)) (by omega) Z)) Z (ap ?_)))))))))
 refine jf [26,24,3,23,33,31,10,9,8,0,1,2] Z (bn (j4 O Z Z Z Z (j2 O Z Z (jf [10,9,8,24,3,23,33,31,0,1,2] Z (jr ?_)))))
 rw [List.length_set]
 refine ⟨.inl Z, _, ac 111001 501 Z Z, _, Z, Z, Z⟩
 exact absurd (cp hc94) (by omega)
theorem n9 {L : Nat} (h1 : 4096 ≤ L) (h2 : L ≤ 1073741824) {b : List Sm} (hb : b.length ≤ 1000) : ∀ {t : Tr} {k k' : Nat}, bR b k = some (t, k') → t.cok b.length → ∀ (nx : Int) (f : List Fl), f.length + t.nodes ≤ 2000 → MC Tryz.prog L 80 [.c (.d (ie b)), eI (k : Nat), eI nx, .c (.rs 0 0 f.length)] [(0, dT f)] (aS (.tup [.c (.rs 1 0 (ao t nx f).1.length), eI (ao t nx f).2, eI (k' : Nat)]) [(1, dT (ao t nx f).1)])
 | .node s a [x, y], k, k', h, ht, nx, f, hf => by
  obtain ⟨e1, e2, e3, e4, e5⟩ := bI h
  obtain rfl := cC h
  obtain ⟨k1, i1, i2⟩ := bJ e4
  obtain ⟨k2, i3, i4⟩ := bJ i2
  obtain rfl := dm i4
  have hxy := fun nx f h => n9 h1 h2 hb i1 ht.2.2.2.1 nx f h
  have hyy := fun nx f h => n9 h1 h2 hb i3 ht.2.2.2.2.1 nx f h
  by_cases hk : s.kind = 1
  exact uW h1 h2 hk i1 hxy (fun nx f => dC ht.2.2.2.1) hyy (fun nx f => dC ht.2.2.2.2.1) e1 e2.symm hb hf
  have hk7 : s.kind = 7 := by
   have h3 : aN s.kind = 2 := e5.symm
   unfold aN at h3
   split at h3
   omega
   split at h3
   assumption
   split at h3 <;> omega
  exact uV h1 h2 hk7 hxy (fun nx f => dC ht.2.2.2.1) hyy (fun nx f => dC ht.2.2.2.2.1) e1 e2.symm hb hf
 | .node s a [x], k, k', h, ht, nx, f, hf => by
  obtain ⟨e1, e2, e3, e4, e5⟩ := bI h
  obtain rfl := cC h
  obtain ⟨k1, i1, i2⟩ := bJ e4
  obtain rfl := dm i2
  exact uU h1 h2 (f9 e5.symm) (fun nx f h => n9 h1 h2 hb i1 ht.2.2.2.1 nx f h) (fun nx f => dC ht.2.2.2.1) e1 e2.symm hb hf
 | .node s a [], k, k', h, ht, nx, f, hf => by
  obtain ⟨e1, e2, e3, e4, e5⟩ := bI h
  obtain rfl := cC h
  obtain rfl := dm e4
  exact uX h1 h2 e5.symm e1 e2.symm hb hf
 | .node s a (x :: y :: z :: ks), k, k', h, ht, nx, f, hf => by
  have h1 : ((x :: y :: z :: ks).length : Int) = aN s.kind := ht.2.2.1.2
  have h2 := (b0 s.kind).2
  simp only [iX] at h1
  omega
structure Ext (b : List Sm) (f g : List Fl) : Prop where
  len : f.length ≤ g.length
  stmt : ∀ i, i < f.length → (g.getD i default).stmt = (f.getD i default).stmt
  same : ∀ i, i < f.length → ∀ k : Nat, (f.getD i default).stmt = (k : Nat) → (b.getD k default).kind ≠ 8 → g.getD i default = f.getD i default
theorem Ext.trans {b : List Sm} {f g h : List Fl} (a : Ext b f g) (c : Ext b g h) : Ext b f h :=
  ⟨Nat.le_trans a.len c.len, fun i hi => (c.stmt i (Nat.lt_of_lt_of_le hi a.len)).trans (a.stmt i hi), fun i hi k hk h8 => (c.same i (Nat.lt_of_lt_of_le hi a.len) k ((a.stmt i hi).trans hk) h8).trans (a.same i hi k hk h8)⟩
theorem dA {f : List Fl} {x : Fl} {i : Nat} (h : i < f.length) : (f ++ [x]).getD i default = f.getD i default := by
 simp [List.getD_eq_getElem?_getD, List.getElem?_append_left h]
theorem dn {f : List Fl} {x : Fl} : (f ++ [x]).getD f.length default = x := by simp [List.getD_eq_getElem?_getD]
theorem Ext.app {b : List Sm} {f : List Fl} {x : Fl} : Ext b f (f ++ [x]) := ⟨by simp, fun i hi => by rw [dA hi], fun i hi _ _ _ => dA hi⟩
theorem Ext.set {b : List Sm} {f : List Fl} {n k : Nat} {v : Int} (hn : n < f.length) (hs : (f.getD n default).stmt = (k : Nat)) (h8 : (b.getD k default).kind = 8) : Ext b f (f.set n ⟨(f.getD n default).stmt, v, (f.getD n default).other⟩) := by
 refine ⟨by simp, fun i hi => ?_, fun i hi j hj hne => ?_⟩
 by_cases e : i = n
 subst e; simp [List.getD_eq_getElem?_getD, List.getElem?_set, hi]
 simp [List.getD_eq_getElem?_getD, List.getElem?_set, Ne.symm e]
 have e : i ≠ n := by
  rintro rfl
  rw [hs] at hj
  have : j = k := by omega
  subst this
  exact hne h8
 simp [List.getD_eq_getElem?_getD, List.getElem?_set, Ne.symm e]
theorem Pl.ext {b : List Sm} {f g : List Fl} (h : Ext b f g) {i : Int} {r : List Fr} (p : Pl b f i r) : Pl b g i r := by
 induction p with
 | nil => exact .nil
 | lp hi hs hk hb => exact .lp (Nat.lt_of_lt_of_le hi h.len) ((h.stmt _ hi).trans hs) hk hb
 | @leaf i k r hi hs hk hb p ih =>
  have hne := fT hb
  refine .leaf (Nat.lt_of_lt_of_le hi h.len) ((h.stmt _ hi).trans hs) hk hb ?_
  rw [h.same _ hi _ hs hne.2.2]; exact ih
 | seq hb p ih => exact .seq hb ih
 | @cond i k x y r hi hs hk hb p1 p2 ih1 ih2 =>
  have hne : (b.getD k default).kind ≠ 8 := by omega
  refine .cond (Nat.lt_of_lt_of_le hi h.len) ((h.stmt _ hi).trans hs) hk hb ?_ ?_
  rw [h.same _ hi _ hs hne]; exact ih1
  rw [h.same _ hi _ hs hne]; exact ih2
 | loop hi hs hk hb => exact .loop (Nat.lt_of_lt_of_le hi h.len) ((h.stmt _ hi).trans hs) hk hb
structure Lp where
  s : Sm
  a : Nat
  x : Tr
  r : List Fr
def aV (b : List Sm) : Tr → List Fr → List Lp
  | .node s a [x, y], r => if s.kind = 1 then aV b x (.st y :: r) ++ aV b y r else aV b x r ++ aV b y r
  | .node s a [x], r => ⟨s, a.toNat, x, r⟩ :: aV b x [.lp (ba b a.toNat)]
  | _, _ => []
def LpAt (b : List Sm) (f : List Fl) (i : Nat) (q : Lp) : Prop :=
  i < f.length ∧ (f.getD i default).stmt = (q.a : Nat) ∧ Pl b f (f.getD i default).next [.st q.x, .lp (ba b q.a)] ∧ Pl b f (f.getD i default).other q.r
structure Bld (b : List Sm) (t : Tr) (r : List Fr) (f : List Fl) (g : List Fl × Int) : Prop where
  ext : Ext b f g.1
  pl : Pl b g.1 g.2 (.st t :: r)
  old : ∀ i, i < f.length → g.1.getD i default = f.getD i default
  new : ∀ i, f.length ≤ i → i < g.1.length → ∀ k : Nat, (g.1.getD i default).stmt = (k : Nat) → (b.getD k default).kind = 8 → ∃ q ∈ aV b t r, LpAt b g.1 i q
  all : ∀ q ∈ aV b t r, ∃ i, f.length ≤ i ∧ LpAt b g.1 i q
theorem LpAt.ext {b : List Sm} {f g : List Fl} {i : Nat} {q : Lp} (h : LpAt b f i q) (he : Ext b f g) (ho : g.getD i default = f.getD i default) : LpAt b g i q := by
 obtain ⟨h1, h2, h3, h4⟩ := h
 refine ⟨Nat.lt_of_lt_of_le h1 he.len, by rw [ho]; exact h2, by rw [ho]; exact h3.ext he, by rw [ho]; exact h4.ext he⟩
theorem dH {b : List Sm} {s : Sm} {a : Int} {x y : Tr} {r : List Fr} : aV b (.node s a [x, y]) r = if s.kind = 1 then aV b x (.st y :: r) ++ aV b y r else aV b x r ++ aV b y r := by rw [aV]
theorem iC {b : List Sm} {s : Sm} {a : Int} {x : Tr} {r : List Fr} : aV b (.node s a [x]) r = ⟨s, a.toNat, x, r⟩ :: aV b x [.lp (ba b a.toNat)] := by rw [aV]
theorem gb {b : List Sm} {s : Sm} {a : Int} {r : List Fr} : aV b (.node s a []) r = [] := by rw [aV] <;> simp
theorem eF {b : List Sm} : ∀ {t : Tr} {k k' : Nat}, bR b k = some (t, k') → ∀ {nx : Int} {f : List Fl} {r : List Fr}, Pl b f nx r → Bld b t r f (ao t nx f)
 | .node s a [x, y], k, k', h, nx, f, r, hp => by
  obtain ⟨e1, rfl, e3, e4, e5⟩ := bI h
  obtain rfl := cC h
  obtain ⟨k1, i1, i2⟩ := bJ e4
  obtain ⟨k2, i3, i4⟩ := bJ i2
  rw [iJ]
  by_cases hk : (b.getD k default).kind = 1
  rw [if_pos hk]
  have hy := eF i3 hp
  have hx := eF i1 hy.pl
  have hl := hy.ext.len
  refine ⟨hy.ext.trans hx.ext, .seq hk hx.pl, fun i hi => (hx.old i (by omega)).trans (hy.old i hi), fun i h1 h2 j h3 h4 => ?_, fun q hq => ?_⟩
  rw [dH, if_pos hk]
  rcases Nat.lt_or_ge i (ao y nx f).1.length with h5 | h5
  rw [hx.old i h5] at h3
  obtain ⟨q, hq, hl⟩ := hy.new i h1 h5 j h3 h4
  exact ⟨q, List.mem_append_right _ hq, hl.ext hx.ext (hx.old i h5)⟩
  obtain ⟨q, hq, hl⟩ := hx.new i h5 h2 j h3 h4
  exact ⟨q, List.mem_append_left _ hq, hl⟩
  rw [dH, if_pos hk] at hq
  rcases List.mem_append.1 hq with hq | hq
  obtain ⟨i, h1, h2⟩ := hx.all q hq; exact ⟨i, by omega, h2⟩
  obtain ⟨i, h1, h2⟩ := hy.all q hq; exact ⟨i, h1, h2.ext hx.ext (hx.old i h2.1)⟩
  rw [if_neg hk]
  have hk7 : (b.getD k default).kind = 7 := by
   have h3 : aN (b.getD k default).kind = 2 := e5.symm
   unfold aN at h3
   split at h3
   omega
   split at h3
   assumption
   split at h3 <;> omega
  have hx := eF i1 hp
  have hy := eF i3 (hp.ext hx.ext)
  have hl := hx.ext.len
  have hl2 := hy.ext.len
  have hE : Ext b (ao y nx (ao x nx f).1).1 ((ao y nx (ao x nx f).1).1 ++ [⟨((k : Nat) : Int), (ao x nx f).2, (ao y nx (ao x nx f).1).2⟩]) := Ext.app
  refine ⟨(hx.ext.trans hy.ext).trans hE, ?_, fun i hi => (dA (by omega)).trans ((hy.old i (by omega)).trans (hx.old i hi)), fun i h1 h2 j h3 h4 => ?_, fun q hq => ?_⟩
  refine .cond (by simp) (by rw [dn]) e1 hk7 ?_ ?_
  rw [dn]; exact (hx.pl.ext hy.ext).ext hE
  rw [dn]; exact hy.pl.ext hE
  rw [dH, if_neg hk]
  simp only [de, gt] at h2
  rcases Nat.lt_or_ge i (ao y nx (ao x nx f).1).1.length with h6 | h6
  rw [dA h6] at h3
  rcases Nat.lt_or_ge i (ao x nx f).1.length with h5 | h5
  rw [hy.old i h5] at h3
  obtain ⟨q, hq, hl⟩ := hx.new i h1 h5 j h3 h4
  exact ⟨q, List.mem_append_left _ hq, (hl.ext hy.ext (hy.old i h5)).ext hE (dA h6)⟩
  obtain ⟨q, hq, hl⟩ := hy.new i h5 h6 j h3 h4
  exact ⟨q, List.mem_append_right _ hq, hl.ext hE (dA h6)⟩
  obtain rfl : i = (ao y nx (ao x nx f).1).1.length := by omega
  rw [dn] at h3
  have : j = k := by have h3 : ((k : Nat) : Int) = (j : Nat) := h3; omega
  subst this
  omega
  rw [dH, if_neg hk] at hq
  rcases List.mem_append.1 hq with hq | hq
  obtain ⟨i, h1, h2⟩ := hx.all q hq; exact ⟨i, h1, (h2.ext hy.ext (hy.old i h2.1)).ext hE (dA (Nat.lt_of_lt_of_le h2.1 hl2))⟩
  obtain ⟨i, h1, h2⟩ := hy.all q hq; exact ⟨i, by omega, h2.ext hE (dA h2.1)⟩
 | .node s a [x], k, k', h, nx, f, r, hp => by
  obtain ⟨e1, rfl, e3, e4, e5⟩ := bI h
  obtain rfl := cC h
  obtain ⟨k1, i1, i2⟩ := bJ e4
  have hk8 : (b.getD k default).kind = 8 := f9 e5.symm
  rw [kp]
  have hE0 : Ext b f (f ++ [⟨((k : Nat) : Int), 0, nx⟩]) := Ext.app
  have hl0 : (f ++ [(⟨((k : Nat) : Int), 0, nx⟩ : Fl)]).length = f.length + 1 := by simp
  have p0 : Pl b (f ++ [⟨((k : Nat) : Int), 0, nx⟩]) (f.length : Nat) [.lp (ba b k)] := .lp (by simp) (by rw [dn]) e1 hk8
  have hx := eF i1 p0
  have hlx := hx.ext.len
  obtain ⟨R, hR⟩ : ∃ R, R = ao x (f.length : Nat) (f ++ [⟨((k : Nat) : Int), 0, nx⟩]) := ⟨_, rfl⟩
  rw [← hR] at hx hlx ⊢
  have hold := hx.old f.length (by omega)
  rw [dn] at hold
  have hES : Ext b R.1 (R.1.set f.length ⟨(R.1.getD f.length default).stmt, R.2, (R.1.getD f.length default).other⟩) := Ext.set (k := k) (by omega) (by rw [hold]) hk8
  have hnew : (R.1.set f.length ⟨(R.1.getD f.length default).stmt, R.2, (R.1.getD f.length default).other⟩).getD f.length default = ⟨((k : Nat) : Int), R.2, nx⟩ := by
   rw [hold]; simp [List.getD_eq_getElem?_getD, List.getElem?_set, show f.length < R.1.length by omega]
  have hoth : ∀ i, i ≠ f.length → (R.1.set f.length ⟨(R.1.getD f.length default).stmt, R.2, (R.1.getD f.length default).other⟩).getD i default = R.1.getD i default := fun i hi => by
   simp [List.getD_eq_getElem?_getD, List.getElem?_set, Ne.symm hi]
  have hE := (hE0.trans hx.ext).trans hES
  have hself : LpAt b (R.1.set f.length ⟨(R.1.getD f.length default).stmt, R.2, (R.1.getD f.length default).other⟩) f.length ⟨b.getD k default, k, x, r⟩ := by
   refine ⟨by simp; omega, by rw [hnew], ?_, ?_⟩
   rw [hnew]; exact hx.pl.ext hES
   rw [hnew]; exact hp.ext hE
  refine ⟨hE, .loop (by simp; omega) (by rw [hnew]) e1 hk8, fun i hi => (hoth i (by omega)).trans ((hx.old i (by omega)).trans (dA hi)), fun i h1 h2 j h3 h4 => ?_, fun q hq => ?_⟩
  rw [iC]
  by_cases e : i = f.length
  subst e; exact ⟨_, List.mem_cons_self, hself⟩
  rw [hoth i e] at h3
  simp only [List.length_set] at h2
  obtain ⟨q, hq, hl⟩ := hx.new i (by omega) h2 j h3 h4
  exact ⟨q, List.mem_cons_of_mem _ hq, hl.ext hES (hoth i e)⟩
  rw [iC] at hq
  rcases List.mem_cons.1 hq with rfl | hq
  exact ⟨f.length, cN _, hself⟩
  obtain ⟨i, h1, h2⟩ := hx.all q hq; exact ⟨i, by omega, h2.ext hES (hoth i (by omega))⟩
 | .node s a [], k, k', h, nx, f, r, hp => by
  obtain ⟨e1, rfl, e3, e4, e5⟩ := bI h
  obtain rfl := cC h
  have h0 : aN (b.getD k default).kind = 0 := e5.symm
  have hne := fT h0
  rw [kq]
  refine ⟨Ext.app, .leaf (by simp) (by rw [dn]) e1 h0 (by rw [dn]; exact hp.ext Ext.app), fun i hi => dA hi, fun i h1 h2 j h3 h4 => ?_, fun q hq => by rw [gb] at hq; cases hq⟩
  simp only [de, gt] at h2
  obtain rfl : i = f.length := by omega
  rw [dn] at h3
  have : j = k := by have h3 : ((k : Nat) : Int) = (j : Nat) := h3; omega
  subst this
  exact absurd h4 hne.2.2
 | .node s a (x :: y :: z :: ks), k, k', h, nx, f, r, hp => by
  obtain ⟨e1, rfl, e3, e4, e5⟩ := bI h
  have h2 := (b0 (b.getD k default).kind).2
  simp only [iX] at e5
  omega
def ml (b : List Sm) : Nat → List Int
  | 0 => []
  | i + 1 => ml b i ++ if (b.getD i default).kind = 8 then [(i : Int)] else []
theorem fN {b : List Sm} : ∀ {i : Nat}, (ml b i).length = ba b i
 | 0 => rfl
 | i + 1 => by rw [ml, ba, de, fN]; split <;> simp
theorem e9 {b : List Sm} {i j : Nat} (h : i ≤ j) : ba b i ≤ ba b j := by
 induction h with
 | refl => exact cN _
 | step _ ih => rw [ba]; omega
theorem pA {b : List Sm} : ∀ {j i : Nat}, i < j → (b.getD i default).kind = 8 → (ml b j).getD (ba b i) default = (i : Int)
 | j + 1, i, hi, h8 => by
  rw [ml]
  rcases Nat.lt_or_ge i j with h | h
  have h1 := e9 (b := b) (show i + 1 ≤ j by omega)
  rw [ba, if_pos h8] at h1
  rw [List.getD_eq_getElem?_getD, List.getElem?_append_left (by rw [fN]; omega), ← List.getD_eq_getElem?_getD]
  exact pA h h8
  obtain rfl : i = j := by omega
  rw [if_pos h8, List.getD_eq_getElem?_getD, List.getElem?_append_right (by rw [fN]; exact cN _), fN]
  simp
variable {pre post : List Tm}
theorem sJ (hb : b.length ≤ 1000) : MQ h1 h2 51 [ptr [e6 pre, ie b, e6 post]] [] (Plain (cz (ml b b.length))) := by
 refine MC.data (jB 29 h1 h2 Tryz.func51 Z Z Z fun O hF => ?_)
 refine ag (js O Z (bn (AOps.heap (bB O Z Z Z) Z (js O Z (jn (ah (ag (js O Z (jn (aq (aH (X := Nat) (fun i => ⟨[(0, ptr [e6 pre, ie b, e6 post]), (3, .c (.rs 900 0 (ml b i).length)), (4, eI i)], [(900, aA (ml b i))]⟩) (fun i => i ≤ b.length) (fun i => b.length - i) 0 ((ac 5 900 Z Z).trans (Ent.to ⟨Z, Z, Z, trivial⟩ Z)) ?_ (fun i hi => ?_))))))))))))
 exact dF _
 refine ah (ag (j4 O Z Z Z Z (js O Z (eK O Z (js O Z (jf [12,0,3,4] Z (jn (ae O Z Z (fun hc12 => ?_) (fun hc12 => ?_)))))))))
 refine ak (ah (aq (ag (j4 O Z Z Z Z (js O Z ?_)))))
 have hil : i < b.length := by have := bz hc12; omega
 have hwl := fN (b := b) (i := i)
 have hwn := fP (b := b) (k := i)
 refine aa (aO O Z Z Z Z Z Z Z Z (cU hil)) Z Z Z (j3 O Z Z Z (jf [23,12,0,3,4] Z (jn (ae O Z Z (fun hc23 => ?_) (fun hc23 => ?_)))))
 refine an (j2 O Z Z (AOps.heap (bB O Z Z Z) Z (jf [26,24,23,12,0,3,4] Z (AOps.heap (cZ (zs := (ml b i ++ [(i : Int)]).map fun n => [.int .i64 n]) (n := (ml b i ++ [(i : Int)]).length) O Z Z Z Z Z Z Z Z Z Z Z Z Z Z Z Z (.row Z (by simp)) Z Z (by decide) Z (by simp; omega) (by simp; omega) (by simp) (by simp)) Z (js O Z (jf [3,23,12,0,4] Z (jn (an (js O Z (ji O Z (js O Z (jf [4,3,23,12,0] Z (jn ?_)))))))))))))
 have hw : ml b (i + 1) = ml b i ++ [(i : Int)] := by rw [ml, if_pos (bz hc23)]
 refine ⟨i + 1, ((am [27] (e' := [(0, _), (3, _), (4, _)]) Z Z ⟨Z, Z, Z, trivial⟩ Z).trans (ac 27 900 Z Z)).trans (Ent.to ⟨Z, by rw [hw]; rfl, Z, trivial⟩ (by rw [hw]; rfl)), by omega, by omega⟩
 refine ak (an (js O Z (ji O Z (js O Z (jf [4,23,12,0,3] Z (jn ?_))))))
 have hw : ml b (i + 1) = ml b i := by rw [ml, if_neg (cp hc23), List.append_nil]
 refine ⟨i + 1, (am [900] (e' := [(0, _), (3, _), (4, _)]) Z Z ⟨Z, Z, Z, trivial⟩ Z).trans (Ent.to ⟨Z, by rw [hw]; rfl, Z, trivial⟩ (by rw [hw]; rfl)), by omega, by omega⟩
 refine bH (ag (j2 O Z Z (jr ?_)))
 refine ⟨.inl Z, _, av, _, Z, ?_⟩
 obtain rfl : i = b.length := by have := cp hc12; omega
 exact .v (.c (.whole Z (cw _).symm))
theorem w7 : MQ h1 h2 82 [ptr [e6 pre, ie b, e6 post], eI (-1)] [] (Plain (cW pre)) := by
 refine MC.data (jB 25 h1 h2 Tryz.func82 Z Z Z fun O hF => ?_)
 refine ag (js O Z (jn (ah (ag (j2 O Z Z (jn (ae O Z Z (fun hc6 => ?_) (fun hc6 => ?_))))))))
 refine ag (j4 O Z Z Z Z (jf [10,5,4,0,1] Z (ay O Z Z Z Z (va (ts := pre) h1 h2) (af Z) Z Z Z Z (B0 := 12000) Z Z (js O Z (jf [4,5,0,1] Z (jr ?_))))))
 refine ⟨.inl Z, _, av, _, Z, ?_⟩
 exact .v (.c .d)
 exact absurd hc6 (by decide)
theorem w6 {n i : Nat} (hb : b.length ≤ 1000) (hi : i < b.length) (hn : n < ba b b.length) (hw : (ml b b.length).getD n default = (i : Int)) : MQ h1 h2 82 [ptr [e6 pre, ie b, e6 post], eI (n : Nat)] [] (Plain (cW (b.getD i default).facts)) := by
 refine MC.data (jB 25 h1 h2 Tryz.func82 Z Z Z fun O hF => ?_)
 have hwl := fN (b := b) (i := b.length)
 refine ag (js O Z (jn (ah (ag (j2 O Z Z (jn (ae O Z Z (fun hc6 => ?_) (fun hc6 => ?_))))))))
 exact absurd (bz hc6) (by omega)
 refine ak (ah (jw [5,0,1] Z (fc O [_,_,_,_,_,_,_,_,_,_,_,_,_,_] [pn [] 0 1, pn [0] 0 1, pn [0,1] 0 1, pn [0,1,2] 0 1, pn [] 0 0, pe [4] 0, pn [] 0 1, pn [4,5,6] 1 1, pn (rg 4 4) 1 1, pn (rg 0 9) 1 1, pn (rg 0 10) 1 1, pn (rg 0 11) 1 1, pe (rg 0 12) 1, pn (rg 0 13) 2 2] [5,12] [_,_,_] (ai (kc O Z (V O Z)) (ai (kc O Z (V O Z)) (ai (kc O Z (V O Z)) (ai (kc O Z (V O Z)) (kc O Z (ai (bN O (B0 := 18000) Z Z Z Z (sJ (pre := pre) (post := post) (b := b) h1 h2 hb) (af Z) Z Z Z Z Z) (ai (kc O Z (V O Z)) (ai ((aO O Z Z Z Z Z Z Z Z (cU (by omega))).cast (v' := ptr [.int .i64 (i : Nat)]) (by rw [hw])) (kc O Z (ai (aO O Z Z Z Z Z Z Z Z (cU hi)) (kc O Z (kc O Z (ai (bN O (B0 := 25000) Z Z Z Z (va (ts := (b.getD i default).facts) h1 h2) (af Z) Z Z Z Z Z) (kc O Z trivial)))))))))))))) ?_)))
 refine jw [4,5,0,1] Z (bK ?_)
 refine ff ?_
 refine ⟨.inl Z, _, av, _, Z, ?_⟩
 exact .v (.c .d)
def m5 (i : Nat) : List Tm := (List.range i).map gz
theorem gj {i : Nat} : (m5 i).length = i := by simp [m5]
theorem oe {i : Nat} : m5 (i + 1) = m5 i ++ [gz i] := by simp [m5, List.range_succ]
theorem vA : MQ h1 h2 81 [] [] (Plain (cW (m5 4))) := by
 refine MC.data (jB 22 h1 h2 Tryz.func81 Z Z Z fun O hF => ?_)
 refine ag (js O Z (bn (AOps.heap (bB O Z Z Z) Z (ap ?_))))
 refine js O Z (jn (ah (ag (js O Z (jn (aq (aH (X := Nat) (fun i => ⟨[(1, .c (.rs 900 0 i)), (2, eI i)], [(900, aE (m5 i))]⟩) (fun i => i ≤ 4) (fun i => 4 - i) 0 ((cy 4 Z).trans ((ac 4 900 Z Z).trans (Ent.to ⟨Z, Z, trivial⟩ Z))) ?_ (fun i hi => ?_))))))))
 exact dF _
 refine ah (ag (j2 O Z Z (jn (ae O Z Z (fun hc6 => ?_) (fun hc6 => ?_)))))
 refine ak (ah (aq (ag (js O Z (ji O Z (jf [10,6,5,1,2] Z (AOps.heap (ep O Z Z Z Z Z Z Z Z Z (by first | omega | (simp at *; omega)) (by first | omega | (simp at *; omega)) (by first | omega | (simp at *; omega)) (by first | omega | (dsimp only; omega) | (simp only [cf] at *; omega)) (by first | omega | (simp at *; omega)) Z Z Z) Z (ap ?_))))))))
 refine js O Z (jf [12,6,5,1,2] Z (jl O Z (ap ?_)))
 refine jo O Z (ap ?_)
 refine bn (j3 O Z Z Z (fI O Z Z (jf [16,3,12,6,5,1,2] Z (AOps.heap (cv (ex := [.int .i64 0]) (xs' := ((List.replicate i 0 ++ [1] : List Int)).map (fun n => [D.int .i64 n])) O Z Z Z Z Z Z Z Z Z Z Z Z Z Z lg ld) Z (ap ?_)))))
 refine jn (an (au (Ent.freeze 11 (e' := [(1, _), (2, _), (3, _)]) Z (fe [1,2,3] Z) (.cons Z (.box (.cons (.keep Z) (.cons (.row Z (by simp)) .nil))) (.skip (.cons Z .row .nil)))) ?_))
 refine j2 O Z Z (AOps.heap (bA O Z Z Z Z Z Z Z Z Z Z Z) Z (ap ?_))
 refine jf [19,17,1,2,3] Z ?_
 have hvl := gj (i := i)
 refine AOps.heap (bk (own := false) (xs := (m5 i).map Tm.cells) (ys := [Tm.cells (gz i)]) (zs := (m5 (i + 1)).map Tm.cells) (n := i + 1) O Z Z Z Z Z Z Z Z Z Z Z Z Z Z Z Z (.row Z (by simp; omega)) (.whole Z Z (.inr ⟨Z, Z⟩)) (by simp) Z (by simp; omega) (by simp; omega) (by rw [oe, List.map_append]; rfl) (by simp [gj])) Z (ap ?_)
 refine ap ?_
 refine js O Z (jf [1,2,3] Z (jn (an (js O Z (ji O Z (js O Z (jf [2,1,3] Z (jn ?_))))))))
 refine ⟨i + 1, ((am [20] (e' := [(1, _), (2, _)]) Z Z ⟨Z, Z, trivial⟩ Z).trans (ac 20 900 Z Z)).trans (Ent.to ⟨Z, Z, trivial⟩ Z), by have := bz hc6; omega, by have := bz hc6; omega⟩
 refine bH (ag (j2 O Z Z (jr ?_)))
 refine ⟨.inl Z, _, av, _, Z, ?_⟩
 obtain rfl : i = 4 := by have := cp hc6; omega
 exact .v (.c (.whole Z (by simp [gj])))
def w0 (fs : List Tm) : Pw := ⟨m5 4, fs, [], 4⟩
def g0 : Gs := ⟨[], [], false⟩
theorem qx {n : Nat} {fs : List Tm} (h : fs.length + n ≤ 64) : WOk n (w0 fs) := ⟨gj, by show ∀ t ∈ m5 4, t.ok = true; decide, h, by show (0 : Nat) + n ≤ 64; omega, by show (4 : Nat) ≤ 10; decide⟩
theorem sC : GOk 0 g0 := ⟨by show (0 : Nat) ≤ 201; decide, fun _ => by show (0 : Nat) ≤ 200; decide, cN _⟩
def xA (f : List Fl) (idx e : Int) : Nat → Int
  | 0 => e
  | j + 1 => if (f.getD j default).stmt = idx then (j : Int) else xA f idx e j
theorem q8 {f : List Fl} {idx e : Int} : ∀ {j i : Nat}, i < j → (f.getD i default).stmt = idx → ∃ p : Nat, p < j ∧ xA f idx e j = (p : Int) ∧ (f.getD p default).stmt = idx
 | j + 1, i, hi, hs => by
  rw [xA]
  split
  rename_i h; exact ⟨j, by omega, rfl, h⟩
  rename_i h
  obtain ⟨p, h1, h2, h3⟩ := q8 (e := e) (show i < j by
   rcases Nat.lt_or_ge i j with h4 | h4
   · exact h4
   · obtain rfl : i = j := by omega
     exact absurd hs h) hs
  exact ⟨p, by omega, h2, h3⟩
theorem xk {E : Pe} (hbl : b.length ≤ 30) (hT : bR b 0 = some (t, b.length)) (hck : t.cok b.length) (hnd : t.nodes ≤ 30) (hE : EOk E b) (hpl : pre.length ≤ 6) (hL : 10000000 ≤ L) : MQ h1 h2 52 [ptr [e6 pre, ie b, e6 E.post], eI (-1)] [] (aS (.c (.pt 0 0 0)) (gB (pP pre b E.post) (cS (ao t (-1) []).1) (-1) (dx bg E (-1) 31 [.st t] (w0 pre) g0))) := by
 refine MC.shift 500 Z (MC.keep [500,505,506] (bs := [eU (pP pre b E.post) (cS (ao t (-1) []).1) (-1) (dx bg E (-1) 31 [.st t] (w0 pre) g0) 505 506, bE (dx bg E (-1) 31 [.st t] (w0 pre) g0).paths, bF (dx bg E (-1) 31 [.st t] (w0 pre) g0).conds]) Z Z (jB 65 h1 h2 Tryz.func52 Z Z Z fun O hF => ?_))
 have hfl := (dC hck (nx := -1) (f := [])).2
 have hB := eF hT (nx := -1) (f := []) (r := []) .nil
 refine ag (js O Z (bn (j4 O Z Z Z Z (jf [17,4,0,1] Z (AOps.heap (bB O Z Z Z) Z (ap ?_))))))
 refine aj O [18] (bin := [dT []]) Z Z Z Z (n9 (b := b) h1 h2 (by omega) hT hck (-1) [] (by show (0 : Nat) + t.nodes ≤ 2000; omega)) Z Z Z Z Z Z (B0 := 20000) Z Z (ap ?_)
 refine j4 O Z Z Z Z (j3 O Z Z Z (jf [6,5,4,0,1] Z (bn (au (Ent.freeze 20001 (e' := [(0, _), (1, _), (5, _), (6, _)]) Z (.cons Z (.keep Z) (.cons Z (.keep Z) (.cons Z (.c (.row Z (cw _).symm)) (fe [6] Z)))) (.skip .nil)) ?_))))
 refine j3 O Z Z Z (AOps.heap (bB O Z Z Z) Z (ap ?_))
 refine au (cy 26 Z) (ap ?_)
 refine ap ?_
 refine AOps.heap (bB O Z Z Z) Z (ap ?_)
 refine au (cy 27 Z) (ap ?_)
 refine ap ?_
 refine js O Z (jf [28,0,1,5,6] Z (jx O Z (ap ?_)))
 refine js O Z (jf [8,0,1,5,6] Z (bn (j2 O Z Z (jf [9,8,0,1,5] Z (jn (ah (ag (j2 O Z Z (jn (ae O Z Z (fun hc32 => ?_) (fun hc32 => ?_)))))))))))
 exact absurd (bz hc32) (by decide)
 refine ak (ag (ay O Z Z Z Z (vA h1 h2) (af Z) Z Z Z Z (B0 := 53000) Z Z (j2 O Z Z (jf [54,53,52,31,9,8,0,1,5] Z (ay O Z Z Z Z (w7 (pre := pre) (post := E.post) (b := b) h1 h2) (af Z) Z Z Z Z (B0 := 56000) Z Z (jf [55,52,31,9,8,0,1,5] Z (AOps.heap (bB O Z Z Z) Z (ap ?_))))))))
 refine au (Ent.freeze 56 (e' := [(0, _), (1, _), (8, _), (9, _), (52, _), (55, _), (56, _)]) Z (.cons Z (.keep Z) (.cons Z (.keep Z) (.cons Z (.keep Z) (.cons Z (.keep Z) (.cons Z (.keep Z) (.cons Z (.keep Z) (.cons Z (.c (.row Z Z)) .nil))))))) (.cons Z .row (.cons Z .row (.cons Z (.box (fk Z)) (.skip .nil))))) ?_
 refine ap ?_
 refine js O Z (jf [57,0,1,8,9] Z (jl O Z (ap ?_)))
 refine jo O Z (ap ?_)
 refine bn (j4 O Z Z Z Z (aa ((V O Z).cast (v' := eB false) (congrArg eB (by decide))) Z Z Z (jf [62,60,59,58,12,57,0,1,8] Z (aj O [29,26,27] (bin := [eU (pP pre b E.post) (cS (ao t (-1) []).1) (-1) g0 1 2, bE g0.paths, bF g0.conds]) Z Z Z Z (lx (pre := pre) (b := b) (fl := (ao t (-1) []).1) (frm := -1) (E := E) h1 h2 hE (by omega) (n := 31) (r := [.st t]) (w := w0 pre) (g := g0) (c := 0) hB.pl (by show t.nodes + 0 < 31; omega) (qx (by omega)) sC (by have := bZ (show az [.st t] ≤ 30 by show t.nodes + 0 ≤ 30; omega); rw [ni] at this; omega)) Z Z Z Z Z Z (B0 := 64000) Z Z (ap ?_)))))
 refine jf [12,57,0,1,8] Z (bn (j2 O Z Z (jr ?_)))
 refine ⟨.inl Z, _, ((ac 29 500 Z Z).trans (ac 64005 505 Z Z)).trans (ac 64006 506 Z Z), _, Z, Z, Z⟩
theorem xj {E : Pe} (hbl : b.length ≤ 30) (hT : bR b 0 = some (t, b.length)) (hck : t.cok b.length) (hnd : t.nodes ≤ 30) (hE : EOk E b) {n : Nat} {q : Lp} (hq : q ∈ aV b t []) (hun : ∀ p ∈ aV b t [], p.a = q.a → p = q) (hw : (ml b b.length).getD n default = (q.a : Int)) (hn : n < ba b b.length) (hqk : q.a < b.length) (hq8 : (b.getD q.a default).kind = 8) (hn1 : az [.st q.x, .lp (ba b q.a)] ≤ 30) (hn2 : az q.r ≤ 30) (hL : 20000000 ≤ L) : MQ h1 h2 52 [ptr [e6 pre, ie b, e6 E.post], eI (n : Nat)] [] (aS (.c (.pt 0 0 0)) (gB (pP pre b E.post) (cS (ao t (-1) []).1) (n : Nat) (c8 (dx bg E (n : Nat) 31 [.st q.x, .lp (ba b q.a)]) (dx bg E (n : Nat) 31 q.r) (w0 (b.getD q.a default).facts) (aD (b.getD q.a default).sum (w0 (b.getD q.a default).facts).vars).1 (aR (w0 (b.getD q.a default).facts) (b.getD q.a default).sum g0)))) := by
 refine MC.shift 500 Z (MC.keep [500,505,506] (bs := [eU (pP pre b E.post) (cS (ao t (-1) []).1) (n : Nat) (c8 (dx bg E (n : Nat) 31 [.st q.x, .lp (ba b q.a)]) (dx bg E (n : Nat) 31 q.r) (w0 (b.getD q.a default).facts) (aD (b.getD q.a default).sum (w0 (b.getD q.a default).facts).vars).1 (aR (w0 (b.getD q.a default).facts) (b.getD q.a default).sum g0)) 505 506, bE (c8 (dx bg E (n : Nat) 31 [.st q.x, .lp (ba b q.a)]) (dx bg E (n : Nat) 31 q.r) (w0 (b.getD q.a default).facts) (aD (b.getD q.a default).sum (w0 (b.getD q.a default).facts).vars).1 (aR (w0 (b.getD q.a default).facts) (b.getD q.a default).sum g0)).paths, bF (c8 (dx bg E (n : Nat) 31 [.st q.x, .lp (ba b q.a)]) (dx bg E (n : Nat) 31 q.r) (w0 (b.getD q.a default).facts) (aD (b.getD q.a default).sum (w0 (b.getD q.a default).facts).vars).1 (aR (w0 (b.getD q.a default).facts) (b.getD q.a default).sum g0)).conds]) Z Z (jB 65 h1 h2 Tryz.func52 Z Z Z fun O hF => ?_))
 have hfl := (dC hck (nx := -1) (f := [])).2
 have hB := eF hT (nx := -1) (f := []) (r := []) .nil
 have hwl := fN (b := b) (i := b.length)
 have hff := (fO (hE.st _ hqk)).2
 have hFl : (ao t (-1) []).1.length ≤ 30 := by have : ([] : List Fl).length = 0 := rfl; omega
 refine ag (js O Z (bn (j4 O Z Z Z Z (jf [17,4,0,1] Z (AOps.heap (bB O Z Z Z) Z (ap ?_))))))
 refine aj O [18] (bin := [dT []]) Z Z Z Z (n9 (b := b) h1 h2 (by omega) hT hck (-1) [] (by show (0 : Nat) + t.nodes ≤ 2000; omega)) Z Z Z Z Z Z (B0 := 20000) Z Z (ap ?_)
 refine j4 O Z Z Z Z (j3 O Z Z Z (jf [6,5,4,0,1] Z (bn (au (Ent.freeze 20001 (e' := [(0, _), (1, _), (5, _), (6, _)]) Z (.cons Z (.keep Z) (.cons Z (.keep Z) (.cons Z (.c (.row Z (cw _).symm)) (fe [6] Z)))) (.skip .nil)) ?_))))
 refine j3 O Z Z Z (AOps.heap (bB O Z Z Z) Z (ap ?_))
 refine au (cy 26 Z) (ap ?_)
 refine ap ?_
 refine AOps.heap (bB O Z Z Z) Z (ap ?_)
 refine au (cy 27 Z) (ap ?_)
 refine ap ?_
 refine js O Z (jf [28,0,1,5,6] Z (jx O Z (ap ?_)))
 refine js O Z (jf [8,0,1,5,6] Z (bn (j2 O Z Z (jf [9,8,0,1,5] Z (jn (ah (ag (j2 O Z Z (jn (ae O Z Z (fun hc32 => ?_) (fun hc32 => ?_)))))))))))
 refine ag (js O Z (jf [33,31,9,8,0,1,5] Z (ay O Z Z Z Z (sJ (pre := pre) (post := E.post) (b := b) h1 h2 (by omega)) (af Z) Z Z Z Z (B0 := 35000) Z Z (js O Z (aa ((aO O Z Z Z Z Z Z Z Z (cU (by omega))).cast (v' := ptr [.int .i64 (q.a : Nat)]) (by rw [hw])) Z Z Z (j2 O Z Z (jf [10,31,9,8,0,1,5] Z (bn (js O Z (jn (aq (aH (X := Nat) (fun j => ⟨[(0, ptr [e6 pre, ie b, e6 E.post]), (1, eI (n : Nat)), (5, .c (.d (cS (ao t (-1) []).1))), (8, .c (.pt 29 0 0)), (9, eI (xA (ao t (-1) []).1 (q.a : Nat) (ao t (-1) []).2 j)), (10, eI (q.a : Nat)), (11, eI j)], [(26, bE []), (27, bF []), (29, eU (pP pre b E.post) (cS (ao t (-1) []).1) (n : Nat) g0 26 27)]⟩) (fun j => j ≤ (ao t (-1) []).1.length) (fun j => (ao t (-1) []).1.length - j) 0 ((am [26,27,29] (e' := [(0, _), (1, _), (5, _), (8, _), (9, _), (10, _), (11, _)]) Z Z ⟨Z, Z, Z, Z, Z, Z, Z, trivial⟩ Z).trans (Ent.to ⟨Z, Z, Z, Z, Z, Z, Z, trivial⟩ Z)) ?_ (fun j hi => ?_)))))))))))))
 exact dF _
 refine ah (ag (j2 O Z Z (eK O Z (js O Z (jf [41,0,1,5,8,9,10,11] Z (jn (ae O Z Z (fun hc41 => ?_) (fun hc41 => ?_))))))))
 refine ak (ah (aq (ag (j2 O Z Z ?_))))
 have hjl : j < (ao t (-1) []).1.length := by have := bz hc41; omega
 refine aa (aO O Z Z Z Z Z Z Z Z (cU hjl)) Z Z Z (j4 O Z Z Z Z (jf [50,41,0,1,5,8,9,10,11] Z (jn (ae O Z Z (fun hc50 => ?_) (fun hc50 => ?_)))))
 refine an (j2 O Z Z (jn (an (js O Z (ji O Z (js O Z (jf [11,9,51,50,41,0,1,5,8,10] Z (jn ?_))))))))
 refine ⟨j + 1, (am [26,27,29] (e' := [(0, _), (1, _), (5, _), (8, _), (9, _), (10, _), (11, _)]) Z Z ⟨Z, Z, Z, Z, Z, Z, Z, trivial⟩ Z).trans (Ent.to ⟨Z, Z, Z, Z, by rw [xA, if_pos (bz hc50)]; rfl, Z, Z, trivial⟩ Z), by omega, by omega⟩
 refine ak (an (js O Z (ji O Z (js O Z (jf [11,50,41,0,1,5,8,9,10] Z (jn ?_))))))
 refine ⟨j + 1, (am [26,27,29] (e' := [(0, _), (1, _), (5, _), (8, _), (9, _), (10, _), (11, _)]) Z Z ⟨Z, Z, Z, Z, Z, Z, Z, trivial⟩ Z).trans (Ent.to ⟨Z, Z, Z, Z, by rw [xA, if_neg (cp hc50)]; rfl, Z, Z, trivial⟩ Z), by omega, by omega⟩
 refine bH (ag (ay O Z Z Z Z (vA h1 h2) (af Z) Z Z Z Z (B0 := 53000) Z Z (j2 O Z Z (ay O Z Z Z Z (w6 (pre := pre) (post := E.post) (b := b) (n := n) (i := q.a) h1 h2 (by omega) hqk hn hw) (af Z) Z Z Z Z (B0 := 56000) Z Z (jf [55,52,41,0,1,5,8,9,10,11] Z (AOps.heap (bB O Z Z Z) Z (ap ?_)))))))
 refine au (Ent.freeze 56 (e' := [(0, _), (1, _), (8, _), (9, _), (52, _), (55, _), (56, _)]) Z (.cons Z (.keep Z) (.cons Z (.keep Z) (.cons Z (.keep Z) (.cons Z (.keep Z) (.cons Z (.keep Z) (.cons Z (.keep Z) (.cons Z (.c (.row Z Z)) .nil))))))) (.cons Z .row (.cons Z .row (.cons Z (.box (fk Z)) (.skip .nil))))) ?_
 refine ap ?_
 refine js O Z (jf [57,0,1,8,9] Z (jl O Z (ap ?_)))
 refine jo O Z (ap ?_)
 refine bn (js O Z ?_)
 obtain rfl : j = (ao t (-1) []).1.length := by have := cp hc41; omega
 obtain ⟨i0, hi0, hl0⟩ := hB.all q hq
 obtain ⟨p, hp1, hp2, hp3⟩ := q8 (e := (ao t (-1) []).2) hl0.1 hl0.2.1
 obtain ⟨q1, hq1, hl1⟩ := hB.new p (dF _) hp1 q.a hp3 hq8
 obtain rfl : q1 = q := hun q1 hq1 (by have := hl1.2.1; rw [hp3] at this; omega)
 rw [hp2]
 refine j3 O Z Z Z (aa ((V O Z).cast (v' := eB true) (congrArg eB (decide_eq_true (by omega)))) Z Z Z (jf [62,60,59,58,12,57,0,1,8,9] Z (aj O [29,26,27] (bin := [eU (pP pre b E.post) (cS (ao t (-1) []).1) (n : Nat) g0 1 2, bE g0.paths, bF g0.conds]) Z Z Z Z (w5 (pre := pre) (b := b) (fl := (ao t (-1) []).1) (frm := (n : Nat)) (E := E) h1 h2 hE (by omega) (n := 31) (w := (w0 (b.getD q1.a default).facts)) (g := g0) (c := 0) Z hp1 hp3 hqk hq8 hl1.2.2.1 hl1.2.2.2 (by omega) (by omega) (qx (by omega)) sC (by have a1 := bZ hn1; have a2 := bZ hn2; rw [ni] at a1 a2; omega)) Z Z Z Z Z Z (B0 := 64000) Z Z (ap ?_))))
 refine jf [12,57,0,1,8,9] Z (bn (j2 O Z Z (jr ?_)))
 refine ⟨.inl Z, _, ((ac 29 500 Z Z).trans (ac 64005 505 Z Z)).trans (ac 64006 506 Z Z), _, Z, Z, Z⟩
 exact absurd (cp hc32) (by omega)
instance : Inhabited Lp := ⟨⟨default, 0, .node default 0 [], []⟩⟩
structure Lps (b : List Sm) (t : Tr) (k k' : Nat) (r : List Fr) : Prop where
  num : (aV b t r).map (fun q => ba b q.a) = List.range' (ba b k) (ba b k' - ba b k)
  at_ : ∀ q ∈ aV b t r, k ≤ q.a ∧ q.a < k' ∧ (b.getD q.a default).kind = 8 ∧ q.s = b.getD q.a default
  size : ∀ q ∈ aV b t r, az q.r ≤ t.nodes + az r ∧ q.x.nodes ≤ t.nodes
theorem rz {a b c : Nat} (h : a ≤ b) (g : b ≤ c) : List.range' a (b - a) ++ List.range' b (c - b) = List.range' a (c - a) := by
 have := List.range'_append (s := a) (m := b - a) (n := c - b) (step := 1)
 rw [Nat.one_mul, show a + (b - a) = b by omega, show b - a + (c - b) = c - a by omega] at this
 exact this
theorem r4 {b : List Sm} : ∀ {t : Tr} {k k' : Nat}, bR b k = some (t, k') → ∀ {r : List Fr}, Lps b t k k' r
 | .node s a [x, y], k, k', h, r => by
  obtain ⟨e1, rfl, e3, e4, e5⟩ := bI h
  obtain rfl := cC h
  obtain ⟨k1, i1, i2⟩ := bJ e4
  obtain ⟨k2, i3, i4⟩ := bJ i2
  obtain rfl := dm i4
  have hl1 := ga i1; have hl2 := ga i3
  have hy := r4 i3 (r := r)
  have h8 : ¬ (b.getD k default).kind = 8 := by
   intro h8; rw [h8] at e5; revert e5; simp only [iX, List.length_nil]; decide
  have hk1 : ba b (k + 1) = ba b k := by rw [ba, if_neg h8]; rfl
  have m1 := e9 (b := b) (show k + 1 ≤ k1 by omega)
  have m2 := e9 (b := b) (show k1 ≤ k' by omega)
  have hn : Tr.nodes (.node (b.getD k default) (k : Nat) [x, y]) = 1 + (x.nodes + y.nodes) := by simp [Tr.nodes, Trs.nodes]
  have key : ∀ rx, az rx ≤ y.nodes + az r → Lps b x (k + 1) k1 rx → ∀ l, l = aV b x rx ++ aV b y r → aV b (.node (b.getD k default) (k : Nat) [x, y]) r = l → Lps b (.node (b.getD k default) (k : Nat) [x, y]) k k' r := fun rx hrx hx l hl he => by
   refine ⟨?_, fun q hq => ?_, fun q hq => ?_⟩
   · rw [he, hl, List.map_append, hx.num, hy.num, hk1]
     exact rz (by omega) m2
   · rw [he, hl] at hq
     rcases List.mem_append.1 hq with hq | hq
     · have := hx.at_ q hq; exact ⟨by omega, by omega, this.2.2⟩
     · have := hy.at_ q hq; exact ⟨by omega, by omega, this.2.2⟩
   · rw [he, hl] at hq
     rw [hn]
     rcases List.mem_append.1 hq with hq | hq
     · have := hx.size q hq; omega
     · have := hy.size q hq; omega
  by_cases hk : (b.getD k default).kind = 1
  exact key (.st y :: r) (cN _) (r4 i1) _ Z (by rw [dH, if_pos hk])
  exact key r (by omega) (r4 i1) _ Z (by rw [dH, if_neg hk])
 | .node s a [x], k, k', h, r => by
  obtain ⟨e1, rfl, e3, e4, e5⟩ := bI h
  obtain rfl := cC h
  obtain ⟨k1, i1, i2⟩ := bJ e4
  obtain rfl := dm i2
  have hk8 : (b.getD k default).kind = 8 := f9 e5.symm
  have hl1 := ga i1
  have hx := r4 i1 (r := [.lp (ba b k)])
  have hk1 : ba b (k + 1) = ba b k + 1 := by rw [ba, if_pos hk8]
  have m1 := e9 (b := b) (show k + 1 ≤ k' by omega)
  have hn : Tr.nodes (.node (b.getD k default) (k : Nat) [x]) = 1 + x.nodes := by simp [Tr.nodes, Trs.nodes]
  have he : aV b (.node (b.getD k default) (k : Nat) [x]) r = ⟨b.getD k default, k, x, r⟩ :: aV b x [.lp (ba b k)] := iC
  refine ⟨?_, fun q hq => ?_, fun q hq => ?_⟩
  rw [he, List.map_cons, hx.num, hk1, show ba b k' - ba b k = (ba b k' - (ba b k + 1)) + 1 by omega, List.range'_succ]
  rw [he] at hq
  rcases List.mem_cons.1 hq with rfl | hq
  exact ⟨cN _, by show k < k'; omega, hk8, Z⟩
  have := hx.at_ q hq; exact ⟨by omega, this.2.1, this.2.2⟩
  rw [he] at hq
  rw [hn]
  rcases List.mem_cons.1 hq with rfl | hq
  exact ⟨by show az r ≤ _; omega, by show x.nodes ≤ _; omega⟩
  have := hx.size q hq
  have e0 : az [.lp (ba b k)] = 0 := rfl
  omega
 | .node s a [], k, k', h, r => by
  obtain ⟨e1, rfl, e3, e4, e5⟩ := bI h
  obtain rfl := cC h
  obtain rfl := dm e4
  have hne := fT (e5.symm : aN (b.getD k default).kind = 0)
  have hk1 : ba b (k + 1) = ba b k := by rw [ba, if_neg hne.2.2]; rfl
  refine ⟨?_, fun q hq => (by rw [gb] at hq; cases hq), fun q hq => (by rw [gb] at hq; cases hq)⟩
  rw [gb, hk1, Nat.sub_self]; rfl
 | .node s a (x :: y :: z :: ks), k, k', h, r => by
  obtain ⟨e1, rfl, e3, e4, e5⟩ := bI h
  have h2 := (b0 (b.getD k default).kind).2
  simp only [iX] at e5
  omega
def pj (b : List Sm) (post : List Tm) : Pe := ⟨post, fun n => (b.getD ((ml b b.length).getD n default).toNat default).facts, fun a => ba b a.toNat⟩
theorem wj {b : List Sm} {post : List Tm} (hp : bW post 6 = true) (hs : ∀ k, k < b.length → aW (b.getD k default) = true) : EOk (pj b post) b :=
  ⟨jI hp, hs, fun k hk h8 => by simp only [pj]; rw [pA hk h8]; rfl, fun k hk h8 => by simp only [pj]; rfl⟩
def cg (la : cF) (E : Pe) (b : List Sm) (t : Tr) (pre : List Tm) : Nat → Gs → Gs
  | 0, g => dx la E (-1) 31 [.st t] (w0 pre) g
  | n + 1, g => c8 (dx la E (n : Nat) 31 [.st ((aV b t []).getD n default).x, .lp n]) (dx la E (n : Nat) 31 ((aV b t []).getD n default).r) (w0 ((aV b t []).getD n default).s.facts) (aD ((aV b t []).getD n default).s.sum (m5 4)).1 (aR (w0 ((aV b t []).getD n default).s.facts) ((aV b t []).getD n default).s.sum g)
theorem jC {b : List Sm} {t : Tr} (hT : bR b 0 = some (t, b.length)) {n : Nat} (hn : n < ba b b.length) : (aV b t []).getD n default ∈ aV b t [] ∧ ba b ((aV b t []).getD n default).a = n := by
 have h := (r4 hT (r := [])).num
 have hl := congrArg List.length h
 have h0 : ba b 0 = 0 := rfl
 rw [cw, List.length_range', h0] at hl
 have hlt : n < (aV b t []).length := by omega
 have e : (aV b t []).getD n default = (aV b t [])[n] := by simp [List.getD_eq_getElem?_getD, hlt]
 refine ⟨by rw [e]; exact List.getElem_mem hlt, ?_⟩
 have hg : ((aV b t []).map (fun q => ba b q.a))[n]'(by rw [cw]; exact hlt) = n := by
  simp only [h, List.getElem_range']; omega
 rw [List.getElem_map] at hg
 rw [e]; exact hg
theorem uF {b : List Sm} {t : Tr} (hT : bR b 0 = some (t, b.length)) {p q : Lp} (hp : p ∈ aV b t []) (hq : q ∈ aV b t []) (he : p.a = q.a) : p = q := by
 have h := (r4 hT (r := [])).num
 obtain ⟨i, hi, rfl⟩ := List.mem_iff_getElem.1 hp
 obtain ⟨j, hj, rfl⟩ := List.mem_iff_getElem.1 hq
 have h1 : ∀ i (hi : i < (aV b t []).length), ba b (aV b t [])[i].a = i := fun i hi => by
  have hg : ((aV b t []).map (fun q => ba b q.a))[i]'(by rw [cw]; exact hi) = i := by
    have h0 : ba b 0 = 0 := rfl
    simp only [h, List.getElem_range']; omega
  rw [List.getElem_map] at hg
  exact hg
 have e1 := h1 i hi
 have e2 := h1 j hj
 rw [he, e2] at e1
 subst e1; rfl
theorem zn {L : Nat} (h1 : 4096 ≤ L) (h2 : L ≤ 1073741824) {pre : List Tm} {b : List Sm} {t : Tr} {E : Pe} (hbl : b.length ≤ 30) (hT : bR b 0 = some (t, b.length)) (hck : t.cok b.length) (hnd : t.nodes ≤ 30) (hE : EOk E b) (hpl : pre.length ≤ 6) (hL : 20000000 ≤ L) {n : Nat} (hn : n ≤ ba b b.length) :
  MC Tryz.prog L 52 [ptr [e6 pre, ie b, e6 E.post], eI ((n : Int) - 1)] [] (aS (.c (.pt 0 0 0)) (gB (pP pre b E.post) (cS (ao t (-1) []).1) ((n : Int) - 1) (cg bg E b t pre n g0))) := by
 cases n with
 | zero => exact xk h1 h2 hbl hT hck hnd hE hpl (by omega)
 | succ n =>
  obtain ⟨hq, hqa⟩ := jC hT (n := n) (by omega)
  have hat := (r4 hT (r := [])).at_ _ hq
  have hsz := (r4 hT (r := [])).size _ hq
  have e0 : az [] = 0 := rfl
  have e : ((n + 1 : Nat) : Int) - 1 = (n : Nat) := by omega
  rw [e]
  have hw : (ml b b.length).getD n default = (((aV b t []).getD n default).a : Int) := by
   have := pA hat.2.1 hat.2.2.1
   rw [hqa] at this; exact this
  have := xj h1 h2 hbl hT hck hnd hE hq (fun p hp he => uF hT hp hq he) hw (by omega) hat.2.1 hat.2.2.1 (by show ((aV b t []).getD n default).x.nodes + 0 ≤ 30; omega) (by omega) hL (pre := pre)
  rw [cg, ← hat.2.2.2, hqa] at *
  exact this
abbrev xZ (ss : List Sq) : D := .slc 3 (ss.map Sq.cells)
structure PtOk (p : Pm) (t : Tr) : Prop where
  len : p.body.length ≤ 30
  tree : bR p.body 0 = some (t, p.body.length)
  cok : t.cok p.body.length
  nodes : t.nodes ≤ 30
  st : ∀ k, k < p.body.length → aW (p.body.getD k default) = true
  pre : bW p.pre 6 = true
  post : bW p.post 6 = true
theorem PtOk.e {p : Pm} {t : Tr} (h : PtOk p t) : EOk (pj p.body p.post) p.body := wj h.post h.st
def jm (la : cF) (p : Pm) (t : Tr) (n : Nat) (g : Gs) : Gs := cg la (pj p.body p.post) p.body t p.pre n g
end Go.Al
