/- The program's search; DropUnreachable of both sides. -/
import Derived.Test.YtnepkogijffmjaaGreatQ
namespace Go.Al
open Go.Proofs
set_option linter.unusedVariables false
set_option linter.unusedSimpArgs false
set_option maxRecDepth 10000
set_option maxHeartbeats 4000000
theorem c1118 {L : Nat} (h1 : 4096 ≤ L) (h2 : L ≤ 1073741824) : MC Tryz.prog L 140 [.c (.d (.int .u64 2))] [] (Plain (eI 2)) := by
 refine MC.alone ?_ rfl
 have hσ := SGok (nt := 25) h1 (Nat.le_trans h2 (by decide))
 refine MC.body hσ Tryz.func140 (by kernel_rfl) rfl rfl (Nat.le_of_ble_eq_true rfl) (fun hF => ?_)
 refine jsr ?_
 refine jst hσ rfl rfl rfl rfl rfl ?_
 refine jn ?_
 refine AWP.seq ?_
 refine jsr ?_
 iterate 2 refine jst hσ rfl rfl rfl rfl rfl ?_
 refine jn ?_
 refine AWP.cond hσ rfl rfl (fun hc4 => ?_) (fun hc4 => ?_)
 ·
  skip
  exact absurd hc4 (by decide)
 ·
  skip
  refine AWP.skip ?_
  refine AWP.seq ?_
  refine jsr ?_
  iterate 2 refine jst hσ rfl rfl rfl rfl rfl ?_
  refine jn ?_
  refine AWP.cond hσ rfl rfl (fun hc8 => ?_) (fun hc8 => ?_)
  ·
   skip
   exact absurd hc8 (by decide)
  ·
   skip
   refine AWP.skip ?_
   refine AWP.seq ?_
   refine jsr ?_
   iterate 2 refine jst hσ rfl rfl rfl rfl rfl ?_
   refine jn ?_
   refine AWP.cond hσ rfl rfl (fun hc14 => ?_) (fun hc14 => ?_)
   ·
    skip
    exact absurd hc14 (by decide)
   ·
    skip
    refine AWP.skip ?_
    refine jsr ?_
    iterate 2 refine jst hσ rfl rfl rfl rfl rfl ?_
    refine AOps.step ((Val.conv hσ (k' := .u8) (dt := .int .u64) (b := true) rfl rfl rfl (by kernel_rfl) (by kernel_rfl)).cast (v' := .c (.d (.int .u8 2))) rfl) rfl rfl rfl ?_
    refine AOps.step (Val.of hσ (v := .c (.d (.int .u8 2))) (by kernel_rfl) (by kernel_rfl)) rfl rfl rfl ?_
    refine AOps.step ((Val.conv hσ (k' := .i64) (dt := .int .u8) (b := true) rfl rfl rfl (by kernel_rfl) (by kernel_rfl)).cast (v' := eI 2) rfl) rfl rfl rfl ?_
    refine AOps.step ((Val.fits64 hσ rfl rfl (by decide) (by decide)).cast (v' := eI 2) rfl) rfl rfl rfl ?_
    refine jst hσ rfl rfl rfl rfl rfl ?_
    refine jn ?_
    refine AWP.ret ?_
    refine ⟨.inl rfl, _, Ent.refl, _, rfl, ?_⟩
    rfl
theorem c1106 {L : Nat} (h1 : 4096 ≤ L) (h2 : L ≤ 1073741824) : MC Tryz.prog L 126 [.c (.d (.int .u64 2))] [] (Plain (eI 2)) := by
 refine MC.alone ?_ rfl
 have hσ := SGok (nt := 8) h1 (Nat.le_trans h2 (by decide))
 refine MC.body hσ Tryz.func126 (by kernel_rfl) rfl rfl (Nat.le_of_ble_eq_true rfl) (fun hF => ?_)
 refine jsr ?_
 refine jst hσ rfl rfl rfl rfl rfl ?_
 refine jn ?_
 refine AWP.seq ?_
 refine AWP.cond hσ rfl rfl (fun hc => ?_) (fun hc => ?_)
 ·
  skip
  cases hc
 ·
  skip
  refine AWP.skip ?_
  refine jsr ?_
  refine jst hσ rfl rfl rfl rfl rfl ?_
  refine AOps.lone hσ rfl rfl rfl rfl (c1118 h1 h2) (VAs.self rfl) rfl rfl rfl rfl rfl (B0 := 8000) rfl ?_
  refine jst hσ rfl rfl rfl rfl rfl ?_
  refine jn ?_
  refine AWP.ret ?_
  refine ⟨.inl rfl, _, Ent.refl, _, rfl, ?_⟩
  rfl
theorem c1124 {L : Nat} (h1 : 4096 ≤ L) (h2 : L ≤ 1073741824) {x : Int} : MC Tryz.prog L 146 [eI x] [] (Plain (eB false)) := by
 refine MC.alone ?_ rfl
 have hσ := SGok (nt := 6) h1 (Nat.le_trans h2 (by decide))
 refine MC.body hσ Tryz.func146 (by kernel_rfl) rfl rfl (Nat.le_of_ble_eq_true rfl) (fun hF => ?_)
 refine jsr ?_
 refine jst hσ rfl rfl rfl rfl rfl ?_
 refine jns ?_
 iterate 4 refine jst hσ rfl rfl rfl rfl rfl ?_
 refine jn ?_
 refine AWP.ret ?_
 refine ⟨.inl rfl, _, Ent.refl, _, rfl, ?_⟩
 simp
theorem c1114 {L : Nat} (h1 : 4096 ≤ L) (h2 : L ≤ 1073741824) {x y : Int} : MC Tryz.prog L 136 [eI x, eI y] [] (Plain (eB (decide (x < y)))) := by
 refine MC.alone ?_ rfl
 have hσ := SGok (nt := 17) h1 (Nat.le_trans h2 (by decide))
 refine MC.body hσ Tryz.func136 (by kernel_rfl) rfl rfl (Nat.le_of_ble_eq_true rfl) (fun hF => ?_)
 refine jsr ?_
 refine jst hσ rfl rfl rfl rfl rfl ?_
 refine jns ?_
 refine jst hσ rfl rfl rfl rfl rfl ?_
 refine AOps.lone hσ rfl rfl rfl rfl (c1124 (x := x) h1 h2) (VAs.self rfl) rfl rfl rfl rfl rfl (B0 := 7000) rfl ?_
 refine jst hσ rfl rfl rfl rfl rfl ?_
 refine AOps.skip rfl rfl rfl rfl rfl rfl ?_
 refine AOps.skip rfl rfl rfl rfl rfl rfl ?_
 refine AOps.skip rfl rfl rfl rfl rfl rfl ?_
 refine AOps.step (Val.pickN hσ rfl rfl rfl rfl rfl) rfl rfl rfl ?_
 refine jst hσ rfl rfl rfl rfl rfl ?_
 refine AOps.live rfl rfl rfl rfl rfl ?_
 refine jst hσ rfl rfl rfl rfl rfl ?_
 refine AOps.live rfl rfl rfl rfl rfl ?_
 refine jst hσ rfl rfl rfl rfl rfl ?_
 refine AOps.live rfl rfl rfl rfl rfl ?_
 refine jst hσ rfl rfl rfl rfl rfl ?_
 refine AOps.step (Val.pickN hσ rfl rfl rfl rfl rfl) rfl rfl rfl ?_
 refine jst hσ rfl rfl rfl rfl rfl ?_
 refine jn ?_
 refine AWP.ret ?_
 refine ⟨.inl rfl, _, Ent.refl, _, rfl, ?_⟩
 rfl
def srt (x y : Int) : List Int := if y < x then [y, x] else [x, y]
theorem srt_T {x y : Int} (h : y < x) : srt x y = [y, x] := if_pos h
theorem srt_F {x y : Int} (h : ¬ y < x) : srt x y = [x, y] := if_neg h
theorem bif_T {a b : Bool} (h : (bif a then b else false) = true) : a = true ∧ b = true := by cases a <;> cases b <;> simp_all
theorem c1108 {L : Nat} (h1 : 4096 ≤ L) (h2 : L ≤ 1073741824) {a b : Int} : MC Tryz.prog L 130 [.c (.rs 0 0 2), eI 0, eI 2] [(0, nrow [a, b])] (Outs (.tup []) [(0, nrow (srt a b))]) := by
 refine MC.shift 500 rfl ?_
 have hσ := SgOk.withIns (js := [500]) (SGok (nt := 49) h1 (Nat.le_trans h2 (by decide)))
 refine MC.bodyH hσ Tryz.func130 (by kernel_rfl) rfl rfl rfl (Nat.le_of_ble_eq_true rfl) (fun hF => ?_)
 refine jsr ?_
 refine jst hσ rfl rfl rfl rfl rfl ?_
 refine AOps.step ((Val.fits64 hσ rfl rfl (by decide) (by decide)).cast (v' := eI 1) rfl) rfl rfl rfl ?_
 refine jst hσ rfl rfl rfl rfl rfl ?_
 refine jf [6, 0, 1, 2] rfl ?_
 refine jn ?_
 refine AWP.block ?_
 refine AWP.loopP (X := Int × List Int) (fun x => ⟨[(0, .c (.rs 500 0 2)), (1, eI 0), (2, eI 2), (6, eI x.1)], [(500, nrow x.2)]⟩) (fun x => (x.1 = 1 ∧ x.2 = [a, b]) ∨ (x.1 = 2 ∧ x.2 = srt a b)) (fun x => (2 - x.1).toNat) (1, [a, b]) (Ent.to ⟨rfl, rfl, rfl, rfl, trivial⟩ rfl) ?_ (fun x hi => ?_)
 ·
  exact .inl ⟨rfl, rfl⟩
 refine AWP.seq ?_
 refine jsr ?_
 iterate 3 refine jst hσ rfl rfl rfl rfl rfl ?_
 refine jf [12, 0, 1, 2, 6] rfl ?_
 refine jn ?_
 refine AWP.cond hσ rfl rfl (fun hc12 => ?_) (fun hc12 => ?_)
 ·
  skip
  refine AWP.skip ?_
  refine AWP.seq ?_
  refine AWP.block ?_
  refine jsr ?_
  obtain ⟨ex1, ex2⟩ : x.1 = 1 ∧ x.2 = [a, b] := hi.resolve_right (fun g => by rw [g.1] at hc12; exact absurd hc12 (by decide))
  rw [ex1, ex2]
  iterate 2 refine jst hσ rfl rfl rfl rfl rfl ?_
  refine jn ?_
  refine AWP.block ?_
  refine AWP.loopP (X := Int × List Int) (fun z => ⟨[(0, .c (.rs 500 0 2)), (1, eI 0), (2, eI 2), (6, eI 1), (7, eI z.1)], [(500, nrow z.2)]⟩) (fun z => (z.1 = 1 ∧ z.2 = [a, b]) ∨ (z.1 = 0 ∧ z.2 = [b, a] ∧ b < a)) (fun z => z.1.toNat) (1, [a, b]) (Ent.to ⟨rfl, rfl, rfl, rfl, rfl, trivial⟩ rfl) ?_ (fun z hi => ?_)
  ·
   exact .inl ⟨rfl, rfl⟩
  refine AWP.seq ?_
  refine AWP.seq ?_
  refine AWP.mid ⟨[(30, eB (bif decide ((0 : Int) < z.1) then decide (b < a) else false)), (0, .c (.rs 500 0 2)), (1, eI 0), (2, eI 2), (6, eI 1), (7, eI z.1)], [(500, nrow z.2)]⟩ ?_ ?_
  ·
   skip
   cases hb4 : decide ((0 : Int) < z.1) with
   | true =>
    obtain ⟨g1, g2⟩ : z.1 = 1 ∧ z.2 = [a, b] := hi.resolve_right (fun g => by have := of_decide_eq_true hb4; omega)
    rw [g1, g2]
    refine AWP.drawG hσ _ [_, _, _, _, _, _, _, _, _, _, _, _, _, _, _] [⟨[], 0, 0, none⟩, ⟨[], 0, 0, none⟩, ⟨[0, 1], 0, 0, none⟩, ⟨[0, 1, 2], 0, 0, none⟩, ⟨[0, 1, 2, 3], 0, 0, none⟩, ⟨[0, 1, 2, 3], 0, 0, none⟩, ⟨[0, 1, 2, 3, 4, 5], 0, 0, none⟩, ⟨[0, 1, 2, 3, 4, 5, 6], 0, 0, none⟩, ⟨[0, 1, 2, 3], 0, 0, none⟩, ⟨[0, 1, 2, 3], 0, 0, none⟩, ⟨[0, 1, 2, 3, 9], 0, 0, none⟩, ⟨[0, 1, 2, 3, 8, 9, 10], 0, 0, none⟩, ⟨[0, 1, 2, 3, 8, 9, 10, 11], 0, 0, none⟩, ⟨[0, 1, 2, 3, 4, 5, 6, 7, 8, 9, 10, 11, 12], 0, 0, some 0⟩, ⟨[0, 1, 2, 3, 4, 5, 6, 7, 8, 9, 10, 11, 12, 13], 1, 1, none⟩] [13] [_, _] rfl rfl (by decide) (by decide) (by kernel_rfl) (And.intro (Val.of hσ rfl rfl) (And.intro (Val.of hσ rfl rfl) (And.intro ((Val.of hσ rfl rfl).cast (v' := eB true) rfl) (And.intro (Val.of hσ rfl rfl) (And.intro (Val.of hσ rfl rfl) (And.intro (Val.of hσ rfl rfl) (And.intro ((Val.of hσ rfl rfl).cast (v' := .c (.pt 500 1 0)) rfl) (And.intro (Val.loadRow hσ (ex := [.int .i64 b]) rfl rfl rfl rfl rfl rfl) (And.intro (Val.of hσ rfl rfl) (And.intro (Val.of hσ rfl rfl) (And.intro ((Val.fits64 hσ rfl rfl (by decide) (by decide)).cast (v' := eI 0) rfl) (And.intro ((Val.of hσ rfl rfl).cast (v' := .c (.pt 500 0 0)) rfl) (And.intro (Val.loadRow hσ (ex := [.int .i64 a]) rfl rfl rfl rfl rfl rfl) (And.intro (Eff.lone hσ (B0 := 30000) rfl rfl rfl rfl (c1114 (x := b) (y := a) h1 h2) (VAs.self rfl) rfl rfl rfl rfl rfl) (And.intro (Val.pickY hσ rfl rfl rfl rfl rfl) trivial))))))))))))))) ?_
    exact ⟨rfl, Ent.to ⟨rfl, rfl, rfl, rfl, rfl, rfl, trivial⟩ rfl⟩
   | false =>
    refine AWP.drawG hσ _ [_, _, _, _, _, _, _, _, _, _, _, _, _, _, _] [⟨[], 0, 0, none⟩, ⟨[], 0, 0, none⟩, ⟨[0, 1], 0, 0, none⟩, ⟨[0, 1, 2], 0, 0, none⟩, ⟨[0, 1, 2, 3], 0, 0, none⟩, ⟨[0, 1, 2, 3], 0, 0, none⟩, ⟨[0, 1, 2, 3, 4, 5], 0, 0, none⟩, ⟨[0, 1, 2, 3, 4, 5, 6], 0, 0, none⟩, ⟨[0, 1, 2, 3], 0, 0, none⟩, ⟨[0, 1, 2, 3], 0, 0, none⟩, ⟨[0, 1, 2, 3, 9], 0, 0, none⟩, ⟨[0, 1, 2, 3, 8, 9, 10], 0, 0, none⟩, ⟨[0, 1, 2, 3, 8, 9, 10, 11], 0, 0, none⟩, ⟨[0, 1, 2, 3, 4, 5, 6, 7, 8, 9, 10, 11, 12], 0, 0, none⟩, ⟨[0, 1, 2, 3, 4, 5, 6, 7, 8, 9, 10, 11, 12, 13], 0, 0, none⟩] [] [_] rfl rfl (by decide) (by decide) (by kernel_rfl) (And.intro (Val.of hσ rfl rfl) (And.intro (Val.of hσ rfl rfl) (And.intro ((Val.of hσ rfl rfl).cast (v' := eB false) (congrArg eB hb4)) (And.intro (Val.of hσ rfl rfl) (And.intro ⟨rfl, rfl⟩ (And.intro ⟨rfl, rfl⟩ (And.intro ⟨rfl, rfl⟩ (And.intro ⟨rfl, rfl⟩ (And.intro ⟨rfl, rfl⟩ (And.intro ⟨rfl, rfl⟩ (And.intro ⟨rfl, rfl⟩ (And.intro ⟨rfl, rfl⟩ (And.intro ⟨rfl, rfl⟩ (And.intro ⟨rfl, rfl⟩ (And.intro (Val.pickN hσ rfl rfl rfl rfl rfl) trivial))))))))))))))) ?_
    exact ⟨rfl, Ent.to ⟨rfl, rfl, rfl, rfl, rfl, rfl, trivial⟩ rfl⟩
  refine AWP.cond hσ rfl rfl (fun hc30 => ?_) (fun hc30 => ?_)
  ·
   skip
   refine AWP.skip ?_
   refine AWP.seq ?_
   refine AWP.block ?_
   obtain ⟨hc8, hc9⟩ := bif_T hc30
   have hlt : b < a := of_decide_eq_true hc9
   obtain ⟨ez1, ez2⟩ : z.1 = 1 ∧ z.2 = [a, b] := hi.resolve_right (fun g => by have := of_decide_eq_true hc8; omega)
   rw [ez1, ez2]
   refine AWP.drawR hσ _ [_, _, _, _, _, _, _, _, _, _, _, _, _, _, _, _, _, _] [⟨[], 0, 0, none⟩, ⟨[], 0, 0, none⟩, ⟨[], 0, 1, none⟩, ⟨[], 0, 1, none⟩, ⟨[3], 0, 1, none⟩, ⟨[], 0, 0, none⟩, ⟨[], 0, 0, none⟩, ⟨[6], 0, 0, none⟩, ⟨[5, 6, 7], 0, 0, none⟩, ⟨[5, 6, 7, 8], 0, 0, none⟩, ⟨[], 0, 0, none⟩, ⟨[], 0, 0, none⟩, ⟨[10, 11], 0, 0, none⟩, ⟨[10, 11, 12], 0, 0, none⟩, ⟨[0, 1, 5, 6, 7, 8, 9, 10, 11, 12, 13], 0, 0, none⟩, ⟨[0, 1, 5, 6, 7, 8, 9, 10, 11, 12, 13, 14], 0, 0, some 0⟩, ⟨[0, 1, 2, 3, 4, 5, 6, 7, 8, 9, 10, 11, 12, 13, 14, 15], 1, 1, none⟩, ⟨[0, 1, 2, 3, 4, 5, 6, 7, 8, 9, 10, 11, 12, 13, 14, 15, 16], 0, 0, some 1⟩] [15, 17] [_, _, _] rfl rfl (by decide) (by decide) (by kernel_rfl) (And.intro (Val.of hσ rfl rfl) (And.intro (Val.of hσ rfl rfl) (And.intro (And.intro (Val.of hσ rfl rfl) (Val.of hσ rfl rfl)) (And.intro (And.intro (Val.of hσ rfl rfl) (Val.of hσ rfl rfl)) (And.intro (And.intro ((Val.fits64 hσ rfl rfl (by decide) (by decide)).cast (v' := eI 0) rfl) ((Val.fits64 hσ rfl rfl (by decide) (by decide)).cast (v' := eI 0) rfl)) (And.intro (Val.of hσ rfl rfl) (And.intro (Val.of hσ rfl rfl) (And.intro ((Val.fits64 hσ rfl rfl (by decide) (by decide)).cast (v' := eI 0) rfl) (And.intro ((Val.of hσ rfl rfl).cast (v' := .c (.pt 500 0 0)) rfl) (And.intro (Val.loadRow hσ (ex := [.int .i64 a]) rfl rfl rfl rfl rfl rfl) (And.intro (Val.of hσ rfl rfl) (And.intro (Val.of hσ rfl rfl) (And.intro ((Val.of hσ rfl rfl).cast (v' := .c (.pt 500 1 0)) rfl) (And.intro (Val.loadRow hσ (ex := [.int .i64 b]) rfl rfl rfl rfl rfl rfl) (And.intro ((Val.of hσ rfl rfl).cast (v' := .c (.pt 500 1 0)) rfl) (And.intro (Eff.storeRow (ex := [.int .i64 b]) (xs' := [a, a].map (fun n => [D.int .i64 n])) hσ rfl rfl rfl rfl rfl rfl rfl rfl rfl rfl rfl rfl rfl rfl rfl rfl rfl rfl) (And.intro ((Val.of hσ rfl rfl).cast (v' := .c (.pt 500 0 0)) rfl) (And.intro (Eff.storeRow (ex := [.int .i64 a]) (xs' := [b, a].map (fun n => [D.int .i64 n])) hσ rfl rfl rfl rfl rfl rfl rfl rfl rfl rfl rfl rfl rfl rfl rfl rfl rfl rfl) trivial)))))))))))))))))) ?_
   refine jw [30, 0, 1, 2, 6, 7] rfl ?_
   refine jnw ?_
   refine AWP.region ?_
   refine jst hσ rfl rfl rfl rfl rfl ?_
   refine AOps.step ((Val.fits64 hσ rfl rfl (by decide) (by decide)).cast (v' := eI 0) rfl) rfl rfl rfl ?_
   refine jst hσ rfl rfl rfl rfl rfl ?_
   refine jf [7, 30, 0, 1, 2, 6] rfl ?_
   refine jn ?_
   refine ⟨(0, [b, a]), Ent.to ⟨rfl, rfl, rfl, rfl, rfl, trivial⟩ rfl, .inr ⟨rfl, rfl, hlt⟩, by show (0 : Int).toNat < (1 : Int).toNat; decide⟩
  ·
   skip
   refine AWP.exit ?_
   refine AWP.region ?_
   have hz9 : srt a b = z.2 := by
    rcases hi with ⟨g1, g2⟩ | ⟨g1, g2, g3⟩
    ·
     rw [g2]; exact srt_F (fun g => by rw [g1, decide_eq_true g] at hc30; cases hc30)
    ·
     rw [g2]; exact srt_T g3
   refine jst hσ rfl rfl rfl rfl rfl ?_
   refine AOps.step ((Val.fits64 hσ rfl rfl (by decide) (by decide)).cast (v' := eI 2) rfl) rfl rfl rfl ?_
   refine jst hσ rfl rfl rfl rfl rfl ?_
   refine jf [6, 30, 0, 1, 2, 7] rfl ?_
   refine jn ?_
   refine ⟨(2, srt a b), Ent.to ⟨rfl, rfl, rfl, rfl, trivial⟩ (by rw [hz9]), .inr ⟨rfl, rfl⟩, by show ((2 : Int) - 2).toNat < ((2 : Int) - 1).toNat; decide⟩
 ·
  skip
  refine AWP.exit ?_
  show _ ∧ _
  obtain ⟨ex1, ex2⟩ : x.1 = 2 ∧ x.2 = srt a b := hi.resolve_left (fun g => by rw [g.1] at hc12; exact absurd hc12 (by decide))
  rw [ex2]
  refine ⟨.inr rfl, _, Ent.refl, _, rfl, rfl, rfl⟩
theorem c1105 {L : Nat} (h1 : 4096 ≤ L) (h2 : L ≤ 1073741824) {a b : Int} : MC Tryz.prog L 125 [.c (.rs 0 0 2), eI 0, eI 2, eI 2] [(0, nrow [a, b])] (Outs (.tup []) [(0, nrow (srt a b))]) := by
 refine MC.shift 500 rfl ?_
 have hσ := SgOk.withIns (js := [500]) (SGok (nt := 134) h1 (Nat.le_trans h2 (by decide)))
 refine MC.bodyH hσ Tryz.func125 (by kernel_rfl) rfl rfl rfl (Nat.le_of_ble_eq_true rfl) (fun hF => ?_)
 refine jsr ?_
 refine jst hσ rfl rfl rfl rfl rfl ?_
 refine jns ?_
 refine jst hσ rfl rfl rfl rfl rfl ?_
 refine jn ?_
 refine AWP.block ?_
 refine AWP.loopP (X := Unit) (fun _u => ⟨[(0, .c (.rs 500 0 2)), (1, eI 0), (2, eI 2)], [(500, nrow [a, b])]⟩) (fun _u => True) (fun _u => 0) () (Ent.to ⟨rfl, rfl, rfl, trivial⟩ rfl) ?_ (fun _ hi => ?_)
 ·
  trivial
 refine AWP.block ?_
 refine jsr ?_
 iterate 2 refine jst hσ rfl rfl rfl rfl rfl ?_
 refine AOps.step ((Val.fits64 hσ rfl rfl (by decide) (by decide)).cast (v' := eI 2) rfl) rfl rfl rfl ?_
 refine jst hσ rfl rfl rfl rfl rfl ?_
 refine jf [10, 0, 1, 2] rfl ?_
 refine jn ?_
 refine AWP.seq ?_
 refine jsr ?_
 iterate 2 refine jst hσ rfl rfl rfl rfl rfl ?_
 refine jn ?_
 refine AWP.cond hσ rfl rfl (fun hc23 => ?_) (fun hc23 => ?_)
 ·
  skip
  refine jsr ?_
  iterate 3 refine jst hσ rfl rfl rfl rfl rfl ?_
  refine AOps.inn hσ [500] (bin := [nrow [a, b]]) rfl rfl rfl rfl (c1108 (a := a) (b := b) h1 h2) rfl rfl rfl rfl rfl rfl (B0 := 28000) rfl rfl ?_
  refine jnm ?_
  refine jf [23, 22, 10, 0, 1, 2] rfl ?_
  refine jn ?_
  refine AWP.ret ?_
  refine ⟨.inl rfl, _, Ent.refl, _, rfl, rfl, rfl⟩
 ·
  skip
  exact absurd hc23 (by decide)
theorem c1100 {L : Nat} (h1 : 4096 ≤ L) (h2 : L ≤ 1073741824) {a b : Int} : MC Tryz.prog L 107 [.c (.rs 0 0 2)] [(0, nrow [a, b])] (Outs (.tup []) [(0, nrow (srt a b))]) := by
 refine MC.shift 500 rfl ?_
 have hσ := SgOk.withIns (js := [500]) (SGok (nt := 11) h1 (Nat.le_trans h2 (by decide)))
 refine MC.bodyH hσ Tryz.func107 (by kernel_rfl) rfl rfl rfl (Nat.le_of_ble_eq_true rfl) (fun hF => ?_)
 refine jsr ?_
 refine jst hσ rfl rfl rfl rfl rfl ?_
 first | refine jle hσ rfl rfl rfl rfl rfl rfl rfl rfl rfl rfl rfl ?_ | refine jst hσ rfl rfl rfl rfl rfl ?_ | refine jvf hσ rfl rfl rfl rfl rfl ?_
 refine jst hσ rfl rfl rfl rfl rfl ?_
 refine jf [2, 0] rfl ?_
 refine jn ?_
 refine AWP.region ?_
 iterate 3 refine jst hσ rfl rfl rfl rfl rfl ?_
 refine AOps.step ((Val.conv hσ (k' := .u64) (dt := .int .i64) (b := true) rfl rfl rfl (by kernel_rfl) (by kernel_rfl)).cast (v' := .c (.d (.int .u64 2))) rfl) rfl rfl rfl ?_
 refine jf [8, 6, 5, 0] rfl ?_
 refine AOps.lone hσ rfl rfl rfl rfl (c1106 h1 h2) (VAs.self rfl) rfl rfl rfl rfl rfl (B0 := 10000) rfl ?_
 refine jf [9, 6, 5, 0] rfl ?_
 refine AOps.inn hσ [500] (bin := [nrow [a, b]]) rfl rfl rfl rfl (c1105 (a := a) (b := b) h1 h2) rfl rfl rfl rfl rfl rfl (B0 := 11000) rfl rfl ?_
 refine jnm ?_
 refine jf [0] rfl ?_
 refine jn ?_
 show _ ∧ _
 refine ⟨.inr rfl, _, Ent.refl, _, rfl, rfl, rfl⟩
theorem c1101e {L : Nat} (h1 : 4096 ≤ L) (h2 : L ≤ 1073741824) {a : Int} : MC Tryz.prog L 108 [.c (.rs 0 0 2)] [(0, nrow [a, a])] (Outs (.c (.rs 0 0 1)) [(0, nrow [a, 0])]) := by
 refine MC.shift 500 rfl ?_
 have hσ := SgOk.withIns (js := [500]) (SGok (nt := 61) h1 (Nat.le_trans h2 (by decide)))
 refine MC.bodyH hσ Tryz.func108 (by kernel_rfl) rfl rfl rfl (Nat.le_of_ble_eq_true rfl) (fun hF => ?_)
 refine jsr ?_
 refine jst hσ rfl rfl rfl rfl rfl ?_
 refine jn ?_
 refine AWP.seq ?_
 refine jsr ?_
 refine jst hσ rfl rfl rfl rfl rfl ?_
 first | refine jle hσ rfl rfl rfl rfl rfl rfl rfl rfl rfl rfl rfl ?_ | refine jst hσ rfl rfl rfl rfl rfl ?_ | refine jvf hσ rfl rfl rfl rfl rfl ?_
 refine jst hσ rfl rfl rfl rfl rfl ?_
 refine jf [8, 2, 0] rfl ?_
 refine jn ?_
 refine AWP.cond hσ rfl rfl (fun hc8 => ?_) (fun hc8 => ?_)
 ·
  skip
  exact absurd hc8 (by decide)
 ·
  skip
  refine AWP.skip ?_
  refine AWP.seq ?_
  refine jsr ?_
  refine jst hσ rfl rfl rfl rfl rfl ?_
  refine jn ?_
  refine AWP.block ?_
  refine AWP.loopP (X := Int) (fun k => ⟨[(0, .c (.rs 500 0 2)), (3, eI k)], [(500, nrow [a, a])]⟩) (fun k => k = 1 ∨ (k = 2 ∧ False)) (fun k => (2 - k).toNat) 1 (Ent.to ⟨rfl, rfl, trivial⟩ rfl) ?_ (fun k hi => ?_)
  ·
   exact .inl rfl
  refine AWP.seq ?_
  refine jsr ?_
  iterate 2 refine jst hσ rfl rfl rfl rfl rfl ?_
  first | refine jle hσ rfl rfl rfl rfl rfl rfl rfl rfl rfl rfl rfl ?_ | refine jst hσ rfl rfl rfl rfl rfl ?_ | refine jvf hσ rfl rfl rfl rfl rfl ?_
  refine jst hσ rfl rfl rfl rfl rfl ?_
  refine jf [13, 0, 3] rfl ?_
  refine jn ?_
  refine AWP.cond hσ rfl rfl (fun hc13 => ?_) (fun hc13 => ?_)
  ·
   skip
   refine AWP.skip ?_
   refine AWP.seq ?_
   refine AWP.block ?_
   refine AWP.seq ?_
   obtain ek : k = 1 := hi.resolve_right (fun g => g.2)
   rw [ek]
   refine AWP.drawR hσ _ [_, _, _, _, _, _, _, _, _, _] [⟨[], 0, 0, none⟩, ⟨[], 0, 0, none⟩, ⟨[0, 1], 0, 0, none⟩, ⟨[0, 1, 2], 0, 0, none⟩, ⟨[], 0, 0, none⟩, ⟨[], 0, 0, none⟩, ⟨[5], 0, 0, none⟩, ⟨[4, 5, 6], 0, 0, none⟩, ⟨[4, 5, 6, 7], 0, 0, none⟩, ⟨[0, 1, 2, 3, 4, 5, 6, 7, 8], 0, 0, none⟩] [] [_] rfl rfl (by decide) (by decide) (by kernel_rfl) (And.intro (Val.of hσ rfl rfl) (And.intro (Val.of hσ rfl rfl) (And.intro ((Val.of hσ rfl rfl).cast (v' := .c (.pt 500 1 0)) rfl) (And.intro (Val.loadRow hσ (ex := [.int .i64 a]) rfl rfl rfl rfl rfl rfl) (And.intro (Val.of hσ rfl rfl) (And.intro (Val.of hσ rfl rfl) (And.intro ((Val.fits64 hσ rfl rfl (by decide) (by decide)).cast (v' := eI 0) rfl) (And.intro ((Val.of hσ rfl rfl).cast (v' := .c (.pt 500 0 0)) rfl) (And.intro (Val.loadRow hσ (ex := [.int .i64 a]) rfl rfl rfl rfl rfl rfl) (And.intro (Val.of hσ rfl rfl) trivial)))))))))) ?_
   refine jw [25, 13, 0, 3] rfl ?_
   refine jnw ?_
   refine AWP.cond hσ rfl rfl (fun hc25 => ?_) (fun hc25 => ?_)
   ·
    skip
    refine jsr ?_
    iterate 2 refine jst hσ rfl rfl rfl rfl rfl ?_
    refine AOps.step (Val.sliceTail hσ rfl rfl rfl rfl rfl rfl rfl rfl rfl) rfl rfl rfl ?_
    refine jst hσ rfl rfl rfl rfl rfl ?_
    refine jf [4, 25, 13, 0, 3] rfl ?_
    refine jn ?_
    refine AWP.seq ?_
    refine jsr ?_
    refine jst hσ rfl rfl rfl rfl rfl ?_
    refine jn ?_
    refine AWP.block ?_
    refine AWP.loopP (X := Unit) (fun _u => ⟨[(0, .c (.rs 500 0 2)), (3, eI 1), (4, .c (.rs 500 1 1)), (5, eI 1)], [(500, nrow [a, a])]⟩) (fun _u => True) (fun _u => 0) () (Ent.to ⟨rfl, rfl, rfl, rfl, trivial⟩ rfl) ?_ (fun _ hi => ?_)
    ·
     trivial
    refine AWP.seq ?_
    refine jsr ?_
    iterate 2 refine jst hσ rfl rfl rfl rfl rfl ?_
    first | refine jle hσ rfl rfl rfl rfl rfl rfl rfl rfl rfl rfl rfl ?_ | refine jst hσ rfl rfl rfl rfl rfl ?_ | refine jvf hσ rfl rfl rfl rfl rfl ?_
    refine jst hσ rfl rfl rfl rfl rfl ?_
    refine jf [32, 0, 3, 4, 5] rfl ?_
    refine jn ?_
    refine AWP.cond hσ rfl rfl (fun hc32 => ?_) (fun hc32 => ?_)
    ·
     skip
     exact absurd hc32 (by decide)
    ·
     skip
     refine AWP.exit ?_
     refine jsr ?_
     iterate 2 refine jst hσ rfl rfl rfl rfl rfl ?_
     refine AOps.step (Val.sliceTail hσ rfl rfl rfl rfl rfl rfl rfl rfl rfl) rfl rfl rfl ?_
     refine jf [56, 32, 0, 3, 4, 5] rfl ?_
     refine AOps.heap (HS.clear1 (z := .int .i64 0) (ex := [.int .i64 a]) (xs' := [a, 0].map (fun n => [D.int .i64 n])) hσ rfl rfl rfl rfl rfl rfl rfl rfl rfl rfl rfl rfl rfl rfl rfl rfl rfl rfl rfl) rfl ?_
     refine jnm ?_
     refine jnm ?_
     refine jns ?_
     iterate 2 refine jst hσ rfl rfl rfl rfl rfl ?_
     refine AOps.step (Val.sliceTop hσ rfl rfl rfl rfl rfl rfl rfl rfl rfl (m := 1) rfl (by decide)) rfl rfl rfl ?_
     refine jst hσ rfl rfl rfl rfl rfl ?_
     refine jf [2, 56, 32, 0, 3, 4, 5] rfl ?_
     refine jn ?_
     refine AWP.ret ?_
     refine ⟨.inl rfl, _, Ent.refl, _, rfl, rfl, rfl⟩
   ·
    skip
    exact absurd hc25 (by rw [decide_eq_true rfl]; decide)
  ·
   skip
   refine AWP.exit ?_
   refine jsr ?_
   iterate 2 refine jst hσ rfl rfl rfl rfl rfl ?_
   refine jn ?_
   refine AWP.ret ?_
   have ek : k = 1 := hi.resolve_right (fun g => g.2)
   rw [ek] at hc13
   exact absurd hc13 (by decide)
theorem c1101n {L : Nat} (h1 : 4096 ≤ L) (h2 : L ≤ 1073741824) {a b : Int} (hab : ¬ b = a) : MC Tryz.prog L 108 [.c (.rs 0 0 2)] [(0, nrow [a, b])] (Outs (.c (.rs 0 0 2)) [(0, nrow [a, b])]) := by
 refine MC.shift 500 rfl ?_
 have hσ := SgOk.withIns (js := [500]) (SGok (nt := 61) h1 (Nat.le_trans h2 (by decide)))
 refine MC.bodyH hσ Tryz.func108 (by kernel_rfl) rfl rfl rfl (Nat.le_of_ble_eq_true rfl) (fun hF => ?_)
 refine jsr ?_
 refine jst hσ rfl rfl rfl rfl rfl ?_
 refine jn ?_
 refine AWP.seq ?_
 refine jsr ?_
 refine jst hσ rfl rfl rfl rfl rfl ?_
 first | refine jle hσ rfl rfl rfl rfl rfl rfl rfl rfl rfl rfl rfl ?_ | refine jst hσ rfl rfl rfl rfl rfl ?_ | refine jvf hσ rfl rfl rfl rfl rfl ?_
 refine jst hσ rfl rfl rfl rfl rfl ?_
 refine jf [8, 2, 0] rfl ?_
 refine jn ?_
 refine AWP.cond hσ rfl rfl (fun hc8 => ?_) (fun hc8 => ?_)
 ·
  skip
  exact absurd hc8 (by decide)
 ·
  skip
  refine AWP.skip ?_
  refine AWP.seq ?_
  refine jsr ?_
  refine jst hσ rfl rfl rfl rfl rfl ?_
  refine jn ?_
  refine AWP.block ?_
  refine AWP.loopP (X := Int) (fun k => ⟨[(0, .c (.rs 500 0 2)), (3, eI k)], [(500, nrow [a, b])]⟩) (fun k => k = 1 ∨ k = 2) (fun k => (2 - k).toNat) 1 (Ent.to ⟨rfl, rfl, trivial⟩ rfl) ?_ (fun k hi => ?_)
  ·
   exact .inl rfl
  refine AWP.seq ?_
  refine jsr ?_
  iterate 2 refine jst hσ rfl rfl rfl rfl rfl ?_
  first | refine jle hσ rfl rfl rfl rfl rfl rfl rfl rfl rfl rfl rfl ?_ | refine jst hσ rfl rfl rfl rfl rfl ?_ | refine jvf hσ rfl rfl rfl rfl rfl ?_
  refine jst hσ rfl rfl rfl rfl rfl ?_
  refine jf [13, 0, 3] rfl ?_
  refine jn ?_
  refine AWP.cond hσ rfl rfl (fun hc13 => ?_) (fun hc13 => ?_)
  ·
   skip
   refine AWP.skip ?_
   refine AWP.seq ?_
   refine AWP.block ?_
   refine AWP.seq ?_
   obtain ek : k = 1 := hi.resolve_right (fun g => by rw [g] at hc13; exact absurd hc13 (by decide))
   rw [ek]
   refine AWP.drawR hσ _ [_, _, _, _, _, _, _, _, _, _] [⟨[], 0, 0, none⟩, ⟨[], 0, 0, none⟩, ⟨[0, 1], 0, 0, none⟩, ⟨[0, 1, 2], 0, 0, none⟩, ⟨[], 0, 0, none⟩, ⟨[], 0, 0, none⟩, ⟨[5], 0, 0, none⟩, ⟨[4, 5, 6], 0, 0, none⟩, ⟨[4, 5, 6, 7], 0, 0, none⟩, ⟨[0, 1, 2, 3, 4, 5, 6, 7, 8], 0, 0, none⟩] [] [_] rfl rfl (by decide) (by decide) (by kernel_rfl) (And.intro (Val.of hσ rfl rfl) (And.intro (Val.of hσ rfl rfl) (And.intro ((Val.of hσ rfl rfl).cast (v' := .c (.pt 500 1 0)) rfl) (And.intro (Val.loadRow hσ (ex := [.int .i64 b]) rfl rfl rfl rfl rfl rfl) (And.intro (Val.of hσ rfl rfl) (And.intro (Val.of hσ rfl rfl) (And.intro ((Val.fits64 hσ rfl rfl (by decide) (by decide)).cast (v' := eI 0) rfl) (And.intro ((Val.of hσ rfl rfl).cast (v' := .c (.pt 500 0 0)) rfl) (And.intro (Val.loadRow hσ (ex := [.int .i64 a]) rfl rfl rfl rfl rfl rfl) (And.intro (Val.of hσ rfl rfl) trivial)))))))))) ?_
   refine jw [25, 13, 0, 3] rfl ?_
   refine jnw ?_
   refine AWP.cond hσ rfl rfl (fun hc25 => ?_) (fun hc25 => ?_)
   ·
    skip
    exact absurd (of_decide_eq_true hc25) hab
   ·
    skip
    refine AWP.skip ?_
    refine AWP.region ?_
    refine jst hσ rfl rfl rfl rfl rfl ?_
    refine AOps.step ((Val.fits64 hσ rfl rfl (by decide) (by decide)).cast (v' := eI 2) rfl) rfl rfl rfl ?_
    refine jst hσ rfl rfl rfl rfl rfl ?_
    refine jf [3, 25, 13, 0] rfl ?_
    refine jn ?_
    refine ⟨2, Ent.to ⟨rfl, rfl, trivial⟩ rfl, .inr rfl, by show ((2 : Int) - 2).toNat < ((2 : Int) - 1).toNat; decide⟩
  ·
   skip
   refine AWP.exit ?_
   refine jsr ?_
   iterate 2 refine jst hσ rfl rfl rfl rfl rfl ?_
   refine jn ?_
   refine AWP.ret ?_
   refine ⟨.inl rfl, _, Ent.refl, _, rfl, rfl, rfl⟩
end Go.Al
namespace Go.Al
open Go.Proofs
set_option linter.unusedVariables false
set_option linter.unusedSimpArgs false
set_option maxRecDepth 10000
set_option maxHeartbeats 4000000
theorem tg_srt {x k : Int} : (if x < k then [x, k] else if x = k then [k] else [k, x]) = if x = k then [k] else srt k x := by
  unfold srt
  by_cases h1 : x < k
  · rw [if_pos h1, if_neg (by omega), if_pos h1]
  · rw [if_neg h1, if_neg h1]
theorem srt_two {a b : Int} : ∃ p q, srt a b = [p, q] ∧ (a ≠ b → ¬ q = p) ∧ (a = b → p = b ∧ q = b) := by
  unfold srt
  by_cases h : b < a
  · exact ⟨b, a, if_pos h, fun h => h, fun h => ⟨rfl, h⟩⟩
  · exact ⟨a, b, if_neg h, fun h g => h g.symm, fun h => ⟨h, rfl⟩⟩
theorem dec_F {p : Prop} [Decidable p] (h : decide p = false) : ¬ p := of_decide_eq_false h
theorem c1094 {L : Nat} (h1 : 4096 ≤ L) (h2 : L ≤ 1073741824) {c : List In} {k : Nat} (hk : k < c.length) (hc : c.length ≤ 1000) : MC Tryz.prog L 78 [ains c, eI k] [] (Rows (.c (.rs 0 0 (tg (c.getD k default) k).length)) [nrow (tg (c.getD k default) k)]) := by
 refine MC.rows ?_
 have hσ := SGok (nt := 35) h1 (Nat.le_trans h2 (by decide))
 refine MC.body hσ Tryz.func78 (by kernel_rfl) rfl rfl (Nat.le_of_ble_eq_true rfl) (fun hF => ?_)
 refine jsr ?_
 refine jst hσ rfl rfl rfl rfl rfl ?_
 refine jns ?_
 iterate 2 refine jst hσ rfl rfl rfl rfl rfl ?_
 refine AOps.step (Val.indexN hσ rfl rfl rfl rfl rfl rfl rfl rfl (idxN hk)) rfl rfl rfl ?_
 iterate 2 refine jst hσ rfl rfl rfl rfl rfl ?_
 first | refine jfi hσ rfl rfl rfl rfl rfl ?_ | refine jvf hσ rfl rfl rfl rfl rfl ?_
 refine jf [13, 11, 4] rfl ?_
 refine AOps.heap (HS.alloc hσ rfl rfl rfl rfl rfl) rfl ?_
 refine jnm ?_
 refine AOps.heap (HS.storeBox hσ rfl rfl rfl rfl rfl rfl rfl rfl rfl rfl rfl) rfl ?_
 refine jnm ?_
 refine jst hσ rfl rfl rfl rfl rfl ?_
 refine jf [6, 5, 4] rfl ?_
 refine jn ?_
 refine AWP.seq ?_
 refine jsr ?_
 iterate 2 refine jst hσ rfl rfl rfl rfl rfl ?_
 refine jn ?_
 refine AWP.block ?_
 refine jsr ?_
 iterate 2 refine jst hσ rfl rfl rfl rfl rfl ?_
 refine jn ?_
 refine AWP.cond hσ rfl rfl (fun hc16 => ?_) (fun hc16 => ?_)
 ·
  skip
  refine jsr ?_
  refine jst hσ rfl rfl rfl rfl rfl ?_
  refine jn ?_
  refine AWP.ret ?_
  rw [tg, if_pos (of_decide_eq_true hc16)]
  refine ⟨.inl rfl, _, (Ent.nameNil 4 900 1 true rfl rfl).trans (Ent.to (e' := [(4, _)]) ⟨rfl, trivial⟩ rfl), _, rfl, [900], by decide, rfl, rfl, rfl⟩
 ·
  skip
  refine jsr ?_
  iterate 2 refine jst hσ rfl rfl rfl rfl rfl ?_
  refine jf [18, 17, 15, 14, 6, 5, 4] rfl ?_
  refine jn ?_
  refine AWP.cond hσ rfl rfl (fun hc18 => ?_) (fun hc18 => ?_)
  ·
   skip
   refine jsr ?_
   iterate 2 refine jst hσ rfl rfl rfl rfl rfl ?_
   refine jf [21, 17, 15, 14, 6, 5, 4] rfl ?_
   refine AOps.heap (HS.lit hσ rfl rfl rfl) rfl ?_
   refine jnm ?_
   refine jst hσ rfl rfl rfl rfl rfl ?_
   refine jf [4, 17, 15, 14, 6, 5] rfl ?_
   refine jn ?_
   refine AWP.ret ?_
   rw [tg, if_neg (dec_F hc16), if_pos (of_decide_eq_true hc18)]
   refine ⟨.inl rfl, _, Ent.refl, _, rfl, [22], by decide, rfl, rfl, rfl⟩
  ·
   skip
   refine jsr ?_
   iterate 2 refine jst hσ rfl rfl rfl rfl rfl ?_
   refine jf [23, 17, 15, 14, 6, 5, 4] rfl ?_
   refine jn ?_
   refine AWP.cond hσ rfl rfl (fun hc23 => ?_) (fun hc23 => ?_)
   ·
    skip
    refine jsr ?_
    iterate 3 refine jst hσ rfl rfl rfl rfl rfl ?_
    refine jf [27, 25, 17, 15, 14, 6, 5, 4] rfl ?_
    refine AOps.heap (HS.lit hσ rfl rfl rfl) rfl ?_
    refine jnm ?_
    refine jst hσ rfl rfl rfl rfl rfl ?_
    refine jf [7, 17, 15, 14, 6, 5, 4] rfl ?_
    refine jns ?_
    refine jst hσ rfl rfl rfl rfl rfl ?_
    refine AOps.inn hσ [28] (bin := [nrow [((k : Int) + 1), (c.getD k default).a]]) rfl rfl rfl rfl (c1100 (a := ((k : Int) + 1)) (b := (c.getD k default).a) h1 h2) rfl rfl rfl rfl rfl rfl (B0 := 31000) rfl rfl ?_
    obtain ⟨p, q, epq, hpq, hpe⟩ := srt_two (a := ((k : Int) + 1)) (b := (c.getD k default).a)
    refine jnm ?_
    rw [epq]
    refine jf [7, 17, 15, 14, 6, 5, 4] rfl ?_
    refine jns ?_
    refine jst hσ rfl rfl rfl rfl rfl ?_
    cases hb32 : decide (((k : Int) + 1) = (c.getD k default).a) with
    | true =>
     obtain ⟨ep, eq⟩ := hpe (of_decide_eq_true hb32)
     rw [ep, eq]
     first | refine AOps.inn hσ [28] (bin := [nrow [(c.getD k default).a, (c.getD k default).a]]) rfl rfl rfl rfl (c1101e (a := (c.getD k default).a) h1 h2) rfl rfl rfl rfl rfl rfl (B0 := 33000) rfl rfl ?_ | refine AOps.inn hσ [28] (bin := [nrow [p, q]]) rfl rfl rfl rfl (c1101n (a := p) (b := q) h1 h2 hne) rfl rfl rfl rfl rfl rfl (B0 := 33000) rfl rfl ?_
     refine jnm ?_
     refine jst hσ rfl rfl rfl rfl rfl ?_
     refine jf [4, 7, 17, 15, 14, 6, 5] rfl ?_
     refine jn ?_
     refine AWP.ret ?_
     have hE := of_decide_eq_true hb32
     rw [tg, if_neg (dec_F hc16), if_neg (dec_F hc18), if_pos (of_decide_eq_true hc23), tg_srt, if_pos hE.symm]
     rw [hE]
     refine ⟨.inl rfl, _, Ent.cut 28 1 rfl, _, rfl, [28], by decide, rfl, rfl, rfl⟩
    | false =>
     have hne := hpq (of_decide_eq_false hb32)
     first | refine AOps.inn hσ [28] (bin := [nrow [(c.getD k default).a, (c.getD k default).a]]) rfl rfl rfl rfl (c1101e (a := (c.getD k default).a) h1 h2) rfl rfl rfl rfl rfl rfl (B0 := 33000) rfl rfl ?_ | refine AOps.inn hσ [28] (bin := [nrow [p, q]]) rfl rfl rfl rfl (c1101n (a := p) (b := q) h1 h2 hne) rfl rfl rfl rfl rfl rfl (B0 := 33000) rfl rfl ?_
     refine jnm ?_
     refine jst hσ rfl rfl rfl rfl rfl ?_
     refine jf [4, 7, 17, 15, 14, 6, 5] rfl ?_
     refine jn ?_
     refine AWP.ret ?_
     have hE := of_decide_eq_false hb32
     rw [tg, if_neg (dec_F hc16), if_neg (dec_F hc18), if_pos (of_decide_eq_true hc23), tg_srt, if_neg (fun g => hE g.symm), epq]
     refine ⟨.inl rfl, _, Ent.refl, _, rfl, [28], by decide, rfl, rfl, rfl⟩
   ·
    skip
    refine AWP.skip ?_
    refine jsr ?_
    refine jst hσ rfl rfl rfl rfl rfl ?_
    refine jf [33, 17, 15, 14, 6, 5, 4] rfl ?_
    refine AOps.heap (HS.lit hσ rfl rfl rfl) rfl ?_
    refine jnm ?_
    refine jst hσ rfl rfl rfl rfl rfl ?_
    refine jf [4, 17, 15, 14, 6, 5] rfl ?_
    refine jn ?_
    refine AWP.ret ?_
    rw [tg, if_neg (dec_F hc16), if_neg (dec_F hc18), if_neg (dec_F hc23)]
    refine ⟨.inl rfl, _, Ent.refl, _, rfl, [34], by decide, rfl, rfl, rfl⟩
theorem row_pop {ws : List Int} {z : Int} : ((ws ++ [z]).map (fun n => [D.int .i64 n])).take ws.length = ws.map (fun n => [D.int .i64 n]) := by simp
theorem inB_iff {z : Int} {n : Nat} : inB 0 ((n : Int) - 1) z = true ↔ 0 ≤ z ∧ z < n := by unfold inB; simp only [Bool.and_eq_true, decide_eq_true_eq]; omega
theorem c1089 {L : Nat} (h1 : 4096 ≤ L) (h2 : L ≤ 1073741824) {c : List In} {st : List Int} (htg : TgOk c) (hst : ∀ z ∈ st, 0 ≤ z ∧ z ≤ 100) (hsl : st.length ≤ 100) : MC Tryz.prog L 45 [ains c, .c (.rs 0 0 st.length)] [(0, nrow st)] (Outs (.c (.rs 1 0 c.length)) [(1, brow (reachB c st))]) := by
 refine MC.shift 500 rfl ?_
 have hσ := SgOk.withIns (js := [500]) (SGok (nt := 44) h1 (Nat.le_trans h2 (by decide)))
 refine MC.bodyH hσ Tryz.func45 (by kernel_rfl) rfl rfl rfl (Nat.le_of_ble_eq_true rfl) (fun hF => ?_)
 have h80 := htg.1
 refine jsr ?_
 refine jst hσ rfl rfl rfl rfl rfl ?_
 refine jns ?_
 refine jst hσ rfl rfl rfl rfl rfl ?_
 first | refine jle hσ rfl rfl rfl rfl rfl rfl rfl rfl rfl rfl rfl ?_ | refine jst hσ rfl rfl rfl rfl rfl ?_ | refine jvf hσ rfl rfl rfl rfl rfl ?_
 refine jf [8, 4, 0, 1] rfl ?_
 refine AOps.heap (HS.make hσ rfl rfl rfl rfl rfl rfl rfl rfl rfl (by first | omega | (simp at *; omega)) (by first | omega | (simp at *; omega)) (by first | omega | (simp at *; omega)) (by first | omega | (dsimp only; omega) | (simp only [List.length_map, beq_iff_eq, decide_eq_true_eq, decide_eq_false_iff_not, Bool.not_eq_true', Bool.not_eq_false', Bool.not_true, Bool.not_false, Int.not_lt, Int.not_le] at *; omega)) (by first | omega | (simp at *; omega)) rfl rfl rfl) rfl ?_
 refine jnm ?_
 refine jst hσ rfl rfl rfl rfl rfl ?_
 refine jf [5, 4, 0, 1] rfl ?_
 refine jn ?_
 refine AWP.seq ?_
 refine AWP.block ?_
 refine AWP.loopP (X := List Bool × List Int) (fun x => ⟨[(0, ains c), (1, .c (.rs 901 0 x.2.length)), (5, .c (.rs 9 0 c.length))], [(9, brow x.1), (901, nrow x.2)]⟩) (fun x => Rs c st x.1 x.2 ∧ x.2.length + 3 * cntF x.1 ≤ 3 * c.length + st.length) (fun x => 3 * cntF x.1 + x.2.length) (List.replicate c.length false, st) ((Ent.sub2 500 901 rfl rfl).trans (Ent.to ⟨rfl, rfl, rfl, trivial⟩ (by rw [brow, List.map_replicate]; rfl))) ?_ (fun x hi => ?_)
 ·
  exact ⟨Rs.zero hst, by show st.length + 3 * cntF (List.replicate c.length false) ≤ _; rw [cntF_zero]; omega⟩
 refine AWP.seq ?_
 refine jsr ?_
 obtain ⟨u, eu⟩ : ∃ u, u = x.1 := ⟨_, rfl⟩
 obtain ⟨ws, ew⟩ : ∃ ws, ws = x.2 := ⟨_, rfl⟩
 rw [← eu, ← ew] at hi ⊢
 obtain ⟨hi1, hi2⟩ := hi
 have hul := hi1.len
 have hwl : ws.length ≤ 400 := by omega
 refine jst hσ rfl rfl rfl rfl rfl ?_
 first | refine jle hσ rfl rfl rfl rfl rfl rfl rfl rfl rfl rfl rfl ?_ | refine jst hσ rfl rfl rfl rfl rfl ?_ | refine jvf hσ rfl rfl rfl rfl rfl ?_
 refine jst hσ rfl rfl rfl rfl rfl ?_
 refine jf [12, 0, 1, 5] rfl ?_
 refine jn ?_
 refine AWP.cond hσ rfl rfl (fun hc12 => ?_) (fun hc12 => ?_)
 ·
  skip
  refine AWP.skip ?_
  refine AWP.block ?_
  refine jsr ?_
  obtain ⟨w2, z, ez⟩ : ∃ w2 z, ws = w2 ++ [z] := by rcases List.eq_nil_or_concat ws with h9 | ⟨w2, z, h9⟩; rw [h9] at hc12; cases hc12; exact ⟨w2, z, by rw [h9, List.concat_eq_append]⟩
  rw [ez] at hi1 hi2 hwl
  rw [List.length_append, List.length_singleton] at hi2 hwl
  have hzz := hi1.nn z (by simp)
  rw [ez, show (w2 ++ [z]).length = w2.length + 1 by simp]
  have hcu : cntF u ≤ c.length := by rw [← hul]; exact List.count_le_length
  iterate 2 refine jst hσ rfl rfl rfl rfl rfl ?_
  first | refine jle hσ rfl rfl rfl rfl rfl rfl rfl rfl rfl rfl rfl ?_ | refine jst hσ rfl rfl rfl rfl rfl ?_ | refine jvf hσ rfl rfl rfl rfl rfl ?_
  refine AOps.step ((Val.fits64 hσ rfl rfl (by omega) (by omega)).cast (v' := eI (w2.length : Nat)) (congrArg eI (by omega))) rfl rfl rfl ?_
  refine jvf hσ rfl rfl rfl rfl rfl ?_
  refine AOps.step (Val.loadRow hσ (ex := [.int .i64 z]) rfl rfl rfl rfl (by simp) rfl) rfl rfl rfl ?_
  refine jst hσ rfl rfl rfl rfl rfl ?_
  refine jf [6, 12, 0, 1, 5] rfl ?_
  refine jns ?_
  iterate 2 refine jst hσ rfl rfl rfl rfl rfl ?_
  first | refine jle hσ rfl rfl rfl rfl rfl rfl rfl rfl rfl rfl rfl ?_ | refine jst hσ rfl rfl rfl rfl rfl ?_ | refine jvf hσ rfl rfl rfl rfl rfl ?_
  refine AOps.step ((Val.fits64 hσ rfl rfl (by omega) (by omega)).cast (v' := eI (w2.length : Nat)) (congrArg eI (by omega))) rfl rfl rfl ?_
  refine AOps.step (Val.sliceTop hσ rfl rfl rfl rfl rfl rfl rfl rfl rfl rfl (Nat.le_succ _)) rfl rfl rfl ?_
  refine AOps.to (Ent.cut 901 w2.length rfl) ?_
  refine jnm ?_
  rw [row_pop]
  refine jst hσ rfl rfl rfl rfl rfl ?_
  refine jf [1, 6, 12, 0, 5] rfl ?_
  refine jn ?_
  refine AWP.seq ?_
  refine AWP.mid ⟨[(34, eB (bif inB 0 ((c.length : Int) - 1) z then !u.getD z.toNat default else false)), (0, ains c), (1, .c (.rs 901 0 w2.length)), (5, .c (.rs 9 0 c.length)), (6, eI z)], [(9, brow u), (901, nrow w2)]⟩ ?_ ?_
  ·
   skip
   refine AWP.region ?_
   iterate 2 refine jst hσ rfl rfl rfl rfl rfl ?_
   first | refine jle hσ rfl rfl rfl rfl rfl rfl rfl rfl rfl rfl rfl ?_ | refine jst hσ rfl rfl rfl rfl rfl ?_ | refine jvf hσ rfl rfl rfl rfl rfl ?_
   refine jf [26, 24, 1, 6, 12, 0, 5] rfl ?_
   refine AOps.lone hσ rfl rfl rfl rfl (c90 (k := z) (n := c.length) h1 h2 (by omega)) (VAs.self rfl) rfl rfl rfl rfl rfl (B0 := 28000) rfl ?_
   cases hb28 : inB 0 ((c.length : Int) - 1) z with
   | true =>
    refine jst hσ rfl rfl rfl rfl rfl ?_
    refine jf [28, 1, 6, 12, 0, 5] rfl ?_
    refine AOps.live rfl rfl rfl rfl rfl ?_
    refine jst hσ rfl rfl rfl rfl rfl ?_
    refine AOps.live rfl rfl rfl rfl rfl ?_
    refine jst hσ rfl rfl rfl rfl rfl ?_
    refine AOps.live rfl rfl rfl rfl rfl ?_
    have hzn := (inB_iff (z := z)).1 hb28
    refine jvf hσ rfl rfl rfl rfl rfl ?_
    refine jf [31, 28, 1, 6, 12, 0, 5] rfl ?_
    refine AOps.live rfl rfl rfl rfl rfl ?_
    refine AOps.step (Val.loadRow hσ (ex := bL (u.getD z.toNat default)) rfl rfl rfl rfl (gj' (by omega) (by omega)) rfl) rfl rfl rfl ?_
    refine jf [32, 28, 1, 6, 12, 0, 5] rfl ?_
    refine AOps.live rfl rfl rfl rfl rfl ?_
    refine jst hσ rfl rfl rfl rfl rfl ?_
    refine AOps.step (Val.pickY hσ rfl rfl rfl rfl rfl) rfl rfl rfl ?_
    refine jf [34, 1, 6, 12, 0, 5] rfl ?_
    refine jn ?_
    exact ⟨rfl, Ent.to ⟨rfl, rfl, rfl, rfl, rfl, trivial⟩ rfl⟩
   | false =>
    refine jst hσ rfl rfl rfl rfl rfl ?_
    refine jf [28, 1, 6, 12, 0, 5] rfl ?_
    refine AOps.skip rfl rfl rfl rfl rfl rfl ?_
    refine AOps.skip rfl rfl rfl rfl rfl rfl ?_
    refine AOps.skip rfl rfl rfl rfl rfl rfl ?_
    refine jf [31, 28, 1, 6, 12, 0, 5] rfl ?_
    refine AOps.skip rfl rfl rfl rfl rfl rfl ?_
    refine jf [32, 28, 1, 6, 12, 0, 5] rfl ?_
    refine AOps.skip rfl rfl rfl rfl rfl rfl ?_
    refine AOps.step (Val.pickN hσ rfl rfl rfl rfl rfl) rfl rfl rfl ?_
    refine jf [34, 1, 6, 12, 0, 5] rfl ?_
    refine jn ?_
    exact ⟨rfl, Ent.to ⟨rfl, rfl, rfl, rfl, rfl, trivial⟩ rfl⟩
  refine AWP.cond hσ rfl rfl (fun hc34 => ?_) (fun hc34 => ?_)
  ·
   skip
   refine jsr ?_
   obtain ⟨hc7, hc8⟩ := bif_T hc34
   have hzn := (inB_iff (z := z)).1 hc7
   obtain ⟨k, rfl⟩ : ∃ k : Nat, z = (k : Int) := ⟨z.toNat, by omega⟩
   have hc9 := notF hc8
   have hkn : k < c.length := by omega
   have hcs := cntF_set (u := u) (j := k) (by omega) hc9
   have htl := tg_len (x := c.getD k default) (k := k)
   iterate 2 refine jst hσ rfl rfl rfl rfl rfl ?_
   refine jvf hσ rfl rfl rfl rfl rfl ?_
   refine jf [37, 34, 0, 1, 5, 6] rfl ?_
   refine AOps.heap (HS.storeRow (ex := bL (u.getD k default)) (xs' := (u.set k true).map bL) hσ rfl rfl rfl rfl rfl rfl rfl rfl rfl rfl rfl rfl rfl rfl (gj' (by omega) (by omega)) (sj' (v := true) (by omega) rfl)) rfl ?_
   refine jnm ?_
   refine jnm ?_
   refine jn ?_
   refine AWP.region ?_
   iterate 3 refine jst hσ rfl rfl rfl rfl rfl ?_
   refine AOps.rows hσ (B0 := 42000) rfl rfl rfl rfl (c1094 (c := c) (k := k) h1 h2 hkn (by omega)) (VAs.self rfl) rfl rfl rfl rfl rfl rfl ?_
   refine jnm ?_
   refine jf [41, 38, 37, 34, 0, 1, 5, 6] rfl ?_
   refine AOps.heap (HS.appMove (zs := (w2 ++ tg (c.getD k default) k).map (fun n => [D.int .i64 n])) (n := (w2 ++ tg (c.getD k default) k).length) hσ rfl rfl rfl rfl rfl rfl rfl rfl rfl rfl rfl rfl rfl rfl rfl rfl (.row rfl (List.length_map _).symm) rfl (List.length_map _).symm (by decide) rfl (by simp only [List.length_map]; omega) (by show _ * 8 ≤ _; simp only [List.length_map]; omega) (by rw [List.map_append]) (List.length_map _)) rfl ?_
   refine jnm ?_
   refine jnm ?_
   refine jst hσ rfl rfl rfl rfl rfl ?_
   refine jf [1, 37, 34, 0, 5, 6] rfl ?_
   refine jn ?_
   have hin := Rs.into htg hi1 (ws' := w2) (fun y => by rw [List.mem_append, List.mem_singleton]; exact Or.comm) (by omega) (by omega)
   refine ⟨(u.set k true, w2 ++ tg (c.getD k default) k), ((Ent.sel [9, 42] (e' := [(0, _), (1, _), (5, _)]) rfl rfl ⟨rfl, rfl, rfl, trivial⟩ rfl).trans (Ent.sub2 42 901 rfl rfl)).trans (Ent.to ⟨rfl, rfl, rfl, trivial⟩ rfl), ⟨hin, ?_⟩, ?_⟩
   ·
    show (w2 ++ tg (c.getD k default) k).length + 3 * cntF (u.set k true) ≤ _
    rw [List.length_append]; omega
   ·
    show 3 * cntF (u.set k true) + (w2 ++ tg (c.getD k default) k).length < 3 * cntF u + (w2.length + 1)
    rw [List.length_append]; omega
  ·
   skip
   refine AWP.skip ?_
   refine ⟨(u, w2), Ent.to ⟨rfl, rfl, rfl, trivial⟩ rfl, ⟨hi1.out (ws' := w2) (fun y => by rw [List.mem_append, List.mem_singleton]; exact Or.comm) (fun hl => ?_), by show w2.length + 3 * cntF u ≤ _; omega⟩, by show 3 * cntF u + w2.length < 3 * cntF u + (w2.length + 1); omega⟩
   rw [(inB_iff (z := z)).2 ⟨hzz.1, hl⟩] at hc34
   exact notT hc34
 ·
  skip
  refine AWP.exit ?_
  refine jsr ?_
  iterate 2 refine jst hσ rfl rfl rfl rfl rfl ?_
  refine jn ?_
  refine AWP.ret ?_
  have hw0 : ws = [] := by cases ws with | nil => rfl | cons z w2 => have h9 : ¬ (0 : Int) < ((z :: w2).length : Nat) := of_decide_eq_false hc12; rw [List.length_cons] at h9; omega
  rw [hw0] at hi1
  rw [← hi1.done]
  refine ⟨.inl rfl, _, (Ent.sel [9] (e' := [(4, _)]) rfl rfl ⟨rfl, trivial⟩ rfl).trans (Ent.sub2 9 501 rfl rfl), _, rfl, rfl, rfl⟩
end Go.Al
namespace Go.Al
open Go.Proofs
set_option linter.unusedVariables false
set_option linter.unusedSimpArgs false
set_option maxRecDepth 10000
set_option maxHeartbeats 4000000
noncomputable def drpB (a : An) : List Bool := (reachB a.code ((0 : Int) :: a.pts.map Pt.k)).map fun b => !b
theorem drpB_len {a : An} : (drpB a).length = a.code.length := by rw [drpB, List.length_map, reachB_len]
theorem drpB_get {a : An} {j : Nat} (hj : j < a.code.length) : (drpB a).getD j default = !(reachB a.code ((0 : Int) :: a.pts.map Pt.k)).getD j default := by
  rw [getD_lt (by rw [drpB_len]; exact hj), getD_lt (by rw [reachB_len]; exact hj)]
  simp [drpB]
noncomputable def drpA (a : An) : An := withoutR (drpB a) a
theorem wok_drp {a : An} (hA : AOk a) : WOk a (drpB a) := ⟨drpB_len, hA.dp.c80, hA.dp.jmp, hA.dp.pts⟩
theorem pt_st' {a : An} (hA : AOk a) : ∀ z ∈ ((0 : Int) :: a.pts.map Pt.k), 0 ≤ z ∧ z ≤ 100 := pt_st hA
theorem c1088 {L : Nat} (h1 : 4096 ≤ L) (h2 : L ≤ 1073741824) {a : An} (hA : AOk a) : MC Tryz.prog L 41 [ptr a.data] [] (Rows (anRs (drpA a)) (anBs (drpA a))) := by
 refine MC.rows ?_
 have hσ := SGok (nt := 26) h1 (Nat.le_trans h2 (by decide))
 refine MC.body hσ Tryz.func41 (by kernel_rfl) rfl rfl (Nat.le_of_ble_eq_true rfl) (fun hF => ?_)
 have h80 := hA.len
 have hdl := drpB_len (a := a)
 refine jsr ?_
 refine AOps.heap (HS.alloc hσ rfl rfl rfl rfl rfl) rfl ?_
 refine jnm ?_
 refine jns ?_
 refine jst hσ rfl rfl rfl rfl rfl ?_
 refine AOps.rows hσ (B0 := 8000) rfl rfl rfl rfl (c1093 (a := a) h1 h2 hA) (VAs.self rfl) rfl rfl rfl rfl rfl rfl ?_
 refine jnm ?_
 refine jst hσ rfl rfl rfl rfl rfl ?_
 refine jf [3, 2, 0] rfl ?_
 refine jns ?_
 refine jst hσ rfl rfl rfl rfl rfl ?_
 refine AOps.rows hσ (B0 := 10000) rfl rfl rfl rfl (c119 (a := a) h1 h2) (VAs.self rfl) rfl rfl rfl rfl rfl rfl ?_
 refine jnm ?_
 refine jf [9, 3, 2, 0] rfl ?_
 refine AOps.heap (HS.alloc hσ rfl rfl rfl rfl rfl) rfl ?_
 refine jnm ?_
 refine AOps.heap (HS.storeBox hσ rfl rfl rfl rfl rfl rfl rfl rfl rfl rfl rfl) rfl ?_
 refine jnm ?_
 refine jn ?_
 refine AWP.seq ?_
 refine jsr ?_
 refine jst hσ rfl rfl rfl rfl rfl ?_
 first | refine jle hσ rfl rfl rfl rfl rfl rfl rfl rfl rfl rfl rfl ?_ | refine jst hσ rfl rfl rfl rfl rfl ?_ | refine jvf hσ rfl rfl rfl rfl rfl ?_
 first | refine jfi hσ rfl rfl rfl rfl rfl ?_ | refine jvf hσ rfl rfl rfl rfl rfl ?_
 refine jst hσ rfl rfl rfl rfl rfl ?_
 refine jf [5, 4, 9, 3, 2, 0] rfl ?_
 refine jn ?_
 refine AWP.block ?_
 refine AWP.loopP (X := Nat) (fun j => ⟨[(2, .c (.pt 2 0 0)), (3, .c (.rs 8000 0 a.code.length)), (4, .c (.pt 4 0 0)), (5, eI ((j : Int) - 1))], [(2, .box [.d .nils, .d .nils, .d .nils, .d .nils]), (4, .box [.rs 901 0 (withoutR (dK (drpB a) j) a).pre.length, .rs 902 0 (withoutR (dK (drpB a) j) a).post.length, .rs 903 0 (withoutR (dK (drpB a) j) a).code.length, .rs 904 0 (withoutR (dK (drpB a) j) a).pts.length]), (901, trow (withoutR (dK (drpB a) j) a).pre), (902, trow (withoutR (dK (drpB a) j) a).post), (903, irow (withoutR (dK (drpB a) j) a).code), (904, prow (withoutR (dK (drpB a) j) a).pts), (8000, brow (reachB a.code ((0 : Int) :: a.pts.map Pt.k)))]⟩) (fun j => j ≤ (drpB a).length) (fun j => j) (drpB a).length ((((((Ent.sel [2, 4, 10000, 10001, 10002, 10003, 8000] (e' := [(2, _), (3, _), (4, _), (5, _)]) rfl rfl ⟨rfl, rfl, rfl, rfl, trivial⟩ rfl).trans (Ent.sub2 10000 901 rfl rfl)).trans (Ent.sub2 10001 902 rfl rfl)).trans (Ent.sub2 10002 903 rfl rfl)).trans (Ent.sub2 10003 904 rfl rfl)).trans (Ent.to ⟨rfl, rfl, rfl, (by rw [hdl]; rfl), trivial⟩ (by rw [drop_all hdl]; rfl))) ?_ (fun j hi => ?_)
 ·
  exact Nat.le_refl _
 refine AWP.seq ?_
 refine jsr ?_
 iterate 2 refine jst hσ rfl rfl rfl rfl rfl ?_
 refine jn ?_
 refine AWP.cond hσ rfl rfl (fun hc14 => ?_) (fun hc14 => ?_)
 ·
  skip
  refine AWP.skip ?_
  refine AWP.seq ?_
  refine AWP.block ?_
  refine jsr ?_
  obtain ⟨m, rfl⟩ : ∃ m, j = m + 1 := ⟨j - 1, by have := of_decide_eq_true hc14; omega⟩
  have hrl := reachB_len (c := a.code) (st := ((0 : Int) :: a.pts.map Pt.k))
  have hmd : m < (drpB a).length := by omega
  obtain ⟨hin1, hin2, hin3, hin4⟩ := drop_in (a := a) (d := drpB a) (j := m) hA.dp hdl hmd
  have hdg := drpB_get (a := a) (j := m) (by omega)
  rw [show (((m + 1 : Nat) : Int) - 1) = (m : Nat) by omega]
  iterate 2 refine jst hσ rfl rfl rfl rfl rfl ?_
  refine jvf hσ rfl rfl rfl rfl rfl ?_
  refine AOps.step (Val.loadRow hσ (ex := bL ((reachB a.code ((0 : Int) :: a.pts.map Pt.k)).getD m default)) rfl rfl rfl rfl (gj' (by omega) (by omega)) rfl) rfl rfl rfl ?_
  refine jst hσ rfl rfl rfl rfl rfl ?_
  refine jf [21, 14, 13, 2, 3, 4, 5] rfl ?_
  refine jn ?_
  refine AWP.cond hσ rfl rfl (fun hc21 => ?_) (fun hc21 => ?_)
  ·
   skip
   refine AWP.region ?_
   refine jst hσ rfl rfl rfl rfl rfl ?_
   refine AOps.heap (HS.lit hσ rfl rfl rfl) rfl ?_
   refine jnm ?_
   refine AOps.rows hσ (B0 := 25000) rfl rfl rfl rfl (c121 (a := (withoutR (dK (drpB a) (m + 1)) a)) (k := m) (n := 1) (b := []) h1 h2 hin1 hin2 (by simp) hin3 hin4) (.cons (.c (.pb rfl (.cons (.whole rfl (List.length_map _).symm) (.cons (.whole rfl (List.length_map _).symm) (.cons (.whole rfl (List.length_map _).symm) (.cons (.whole rfl (List.length_map _).symm) .nil)))))) (.cons (.c .d) (.cons (.c .d) (.cons (.c (.whole rfl rfl)) .nil)))) rfl rfl rfl rfl rfl rfl ?_
   refine jnm ?_
   rw [drop_step hA.dp hdl hmd (hdg.trans hc21)]
   refine jf [24, 21, 14, 13, 2, 3, 4, 5] rfl ?_
   refine AOps.heap (HS.storeBox hσ rfl rfl rfl rfl rfl rfl rfl rfl rfl rfl rfl) rfl ?_
   refine jnm ?_
   refine jn ?_
   refine AWP.region ?_
   refine jst hσ rfl rfl rfl rfl rfl ?_
   first | rw [show ((m : Nat) : Int) = ((m : Nat) : Int) from rfl] | skip
   refine jfi hσ rfl rfl rfl rfl rfl ?_
   refine jst hσ rfl rfl rfl rfl rfl ?_
   refine jf [5, 24, 21, 14, 13, 2, 3, 4] rfl ?_
   refine jn ?_
   refine ⟨m, (((((Ent.sel [2, 4, 25000, 25001, 25002, 25003, 8000] (e' := [(2, _), (3, _), (4, _), (5, _)]) rfl rfl ⟨rfl, rfl, rfl, rfl, trivial⟩ rfl).trans (Ent.sub2 25000 901 rfl rfl)).trans (Ent.sub2 25001 902 rfl rfl)).trans (Ent.sub2 25002 903 rfl rfl)).trans (Ent.sub2 25003 904 rfl rfl)).trans (Ent.to ⟨rfl, rfl, rfl, rfl, trivial⟩ rfl), by omega, by omega⟩
  ·
   skip
   refine AWP.skip ?_
   refine AWP.region ?_
   refine jst hσ rfl rfl rfl rfl rfl ?_
   first | rw [show ((m : Nat) : Int) = ((m : Nat) : Int) from rfl] | skip
   refine jfi hσ rfl rfl rfl rfl rfl ?_
   refine jst hσ rfl rfl rfl rfl rfl ?_
   refine jf [5, 21, 14, 13, 2, 3, 4] rfl ?_
   refine jn ?_
   have hdk := dK_F hmd (hdg.trans hc21)
   rw [← hdk]
   refine ⟨m, Ent.to ⟨rfl, rfl, rfl, rfl, trivial⟩ rfl, by omega, by omega⟩
 ·
  skip
  refine AWP.exit ?_
  refine jsr ?_
  refine jst hσ rfl rfl rfl rfl rfl ?_
  refine AOps.heap (HS.storeBox hσ rfl rfl rfl rfl rfl rfl rfl rfl rfl rfl rfl) rfl ?_
  refine jnm ?_
  refine jn ?_
  refine AWP.ret ?_
  obtain rfl : j = 0 := by have := of_decide_eq_false hc14; omega
  refine ⟨.inl rfl, _, Ent.refl, _, rfl, [901, 902, 903, 904], by decide, rfl, rfl, rfl⟩
theorem c1088d {L : Nat} (h1 : 4096 ≤ L) (h2 : L ≤ 1073741824) {a : An} (hA : AOk a) : MC Tryz.prog L 41 [ptr a.data] [] (Plain (aAn (drpA a))) := (c1088 h1 h2 hA).frozen (.v (.agg (.cons (.whole rfl (List.length_map _).symm) (.cons (.whole rfl (List.length_map _).symm) (.cons (.whole rfl (List.length_map _).symm) (.cons (.whole rfl (List.length_map _).symm) .nil))))))
theorem c1083v {L : Nat} (h1 : 4096 ≤ L) (h2 : L ≤ 1073741824) {a : An} (hv : annB a = true) : MC Tryz.prog L 15 [aAn a] [] (Plain (.tup [aAn (drpA a), eB true])) := by
 refine MC.data ?_
 have hσ := SGok (nt := 8) h1 (Nat.le_trans h2 (by decide))
 refine MC.body hσ Tryz.func15 (by kernel_rfl) rfl rfl (Nat.le_of_ble_eq_true rfl) (fun hF => ?_)
 refine jsr ?_
 refine AOps.heap (HS.box hσ rfl rfl rfl rfl rfl rfl rfl) rfl ?_
 refine jnm ?_
 refine AOps.to (Ent.freeze 1 (e' := [(1, _), (0, _)]) rfl (.cons rfl (.c (.box (cs := a.data) rfl (VMs.self rfl))) (.cons rfl (.keep rfl) .nil)) (.skip .nil)) ?_
 refine jnm ?_
 refine jf [1] rfl ?_
 refine AOps.heap (HS.alloc hσ rfl rfl rfl rfl rfl) rfl ?_
 refine jnm ?_
 refine jst hσ rfl rfl rfl rfl rfl ?_
 refine jn ?_
 refine AWP.seq ?_
 refine jsr ?_
 refine AOps.lone hσ rfl rfl rfl rfl ((c67 (a := a) h1 h2).plain (u := eB true) (by rw [hv])) (VAs.self rfl) rfl rfl rfl rfl rfl (B0 := 5000) rfl ?_
 refine jst hσ rfl rfl rfl rfl rfl ?_
 refine jn ?_
 refine AWP.cond hσ rfl rfl (fun hc5 => ?_) (fun hc5 => ?_)
 ·
  skip
  cases hc5
 ·
  skip
  refine AWP.skip ?_
  refine jsr ?_
  refine AOps.plainD hσ rfl rfl rfl rfl (c1088d (a := a) h1 h2 (annB_ok hv)) (VAs.self rfl) rfl rfl rfl rfl (B0 := 8000) rfl rfl ?_
  refine jf [7, 4, 3, 2, 1] rfl ?_
  refine AOps.heap (HS.storeBox hσ rfl rfl rfl rfl rfl rfl rfl rfl rfl rfl rfl) rfl ?_
  refine jnm ?_
  refine jst hσ rfl rfl rfl rfl rfl ?_
  refine jn ?_
  refine AWP.ret ?_
  refine ⟨.inl rfl, _, Ent.refl, _, rfl, ?_⟩
  exact .tup (.cons (.agg (VMs.self rfl)) (.cons (.c .d) .nil))
theorem c1083n {L : Nat} (h1 : 4096 ≤ L) (h2 : L ≤ 1073741824) {a : An} (hv : annB a = false) : MC Tryz.prog L 15 [aAn a] [] (Plain (.tup [aAn ⟨[], [], [], []⟩, eB false])) := by
 refine MC.data ?_
 have hσ := SGok (nt := 8) h1 (Nat.le_trans h2 (by decide))
 refine MC.body hσ Tryz.func15 (by kernel_rfl) rfl rfl (Nat.le_of_ble_eq_true rfl) (fun hF => ?_)
 refine jsr ?_
 refine AOps.heap (HS.box hσ rfl rfl rfl rfl rfl rfl rfl) rfl ?_
 refine jnm ?_
 refine AOps.to (Ent.freeze 1 (e' := [(1, _), (0, _)]) rfl (.cons rfl (.c (.box (cs := a.data) rfl (VMs.self rfl))) (.cons rfl (.keep rfl) .nil)) (.skip .nil)) ?_
 refine jnm ?_
 refine jf [1] rfl ?_
 refine AOps.heap (HS.alloc hσ rfl rfl rfl rfl rfl) rfl ?_
 refine jnm ?_
 refine jst hσ rfl rfl rfl rfl rfl ?_
 refine jn ?_
 refine AWP.seq ?_
 refine jsr ?_
 refine AOps.lone hσ rfl rfl rfl rfl ((c67 (a := a) h1 h2).plain (u := eB false) (by rw [hv])) (VAs.self rfl) rfl rfl rfl rfl rfl (B0 := 5000) rfl ?_
 refine jst hσ rfl rfl rfl rfl rfl ?_
 refine jn ?_
 refine AWP.cond hσ rfl rfl (fun hc5 => ?_) (fun hc5 => ?_)
 ·
  skip
  refine jsr ?_
  refine jst hσ rfl rfl rfl rfl rfl ?_
  refine jf [6, 4, 3, 2, 1] rfl ?_
  refine AOps.heap (HS.storeBox hσ rfl rfl rfl rfl rfl rfl rfl rfl rfl rfl rfl) rfl ?_
  refine jnm ?_
  refine jst hσ rfl rfl rfl rfl rfl ?_
  refine jn ?_
  refine AWP.ret ?_
  refine ⟨.inl rfl, _, Ent.refl, _, rfl, ?_⟩
  exact .tup (.cons (.agg (.cons .nils (.cons .nils (.cons .nils (.cons .nils .nil))))) (.cons (.c .d) .nil))
 ·
  skip
  cases hc5
theorem c1084v {L : Nat} (h1 : 4096 ≤ L) (h2 : L ≤ 1073741824) {a : An} (hv : annB a = true) : MC Tryz.prog L 17 [aAn a] [] (Rows (.tup [anRs (drpA a), eB true]) (anBs (drpA a))) := by
 refine MC.rows ?_
 have hσ := SGok (nt := 48) h1 (Nat.le_trans h2 (by decide))
 refine MC.body hσ Tryz.func17 (by kernel_rfl) rfl rfl (Nat.le_of_ble_eq_true rfl) (fun hF => ?_)
 have hlp : a.pts.length ≤ L := by simpa [As.fact, A.fact, M.fact, Ms.fact, D.fact, Ds.fact] using hF.1.2.2.2.1.1
 have hA := annB_ok hv
 have h80 := hA.len
 have h8 := hA.np
 have hrl := reachB_len (c := a.code) (st := ((0 : Int) :: a.pts.map Pt.k))
 refine jsr ?_
 refine AOps.heap (HS.box hσ rfl rfl rfl rfl rfl rfl rfl) rfl ?_
 refine jnm ?_
 refine AOps.to (Ent.freeze 1 (e' := [(1, _), (0, _)]) rfl (.cons rfl (.c (.box (cs := a.data) rfl (VMs.self rfl))) (.cons rfl (.keep rfl) .nil)) (.skip .nil)) ?_
 refine jnm ?_
 refine jf [1] rfl ?_
 refine AOps.heap (HS.alloc hσ rfl rfl rfl rfl rfl) rfl ?_
 refine jnm ?_
 refine jst hσ rfl rfl rfl rfl rfl ?_
 refine jn ?_
 refine AWP.seq ?_
 refine jsr ?_
 refine jst hσ rfl rfl rfl rfl rfl ?_
 refine AOps.lone hσ rfl rfl rfl rfl ((c71 (a := a) h1 h2).plain (u := eB true) (by rw [hv])) (VAs.self rfl) rfl rfl rfl rfl rfl (B0 := 11000) rfl ?_
 refine jst hσ rfl rfl rfl rfl rfl ?_
 refine jf [11, 3, 2, 1] rfl ?_
 refine jn ?_
 refine AWP.cond hσ rfl rfl (fun hc11 => ?_) (fun hc11 => ?_)
 ·
  skip
  cases hc11
 ·
  skip
  refine AWP.skip ?_
  refine jsr ?_
  refine AOps.heap (HS.lit hσ rfl rfl rfl) rfl ?_
  refine jnm ?_
  refine jst hσ rfl rfl rfl rfl rfl ?_
  refine jf [4, 3, 2, 1] rfl ?_
  refine jn ?_
  refine AWP.seq ?_
  refine jsr ?_
  iterate 2 refine jst hσ rfl rfl rfl rfl rfl ?_
  first | refine jle hσ rfl rfl rfl rfl rfl rfl rfl rfl rfl rfl rfl ?_ | refine jst hσ rfl rfl rfl rfl rfl ?_ | refine jvf hσ rfl rfl rfl rfl rfl ?_
  refine jst hσ rfl rfl rfl rfl rfl ?_
  refine jn ?_
  refine AWP.block ?_
  refine AWP.loopP (X := Nat) (fun i => ⟨[(1, ptr a.data), (2, .c (.pt 2 0 0)), (4, .c (.rs 900 0 ((0 : Int) :: (a.pts.take i).map Pt.k).length)), (15, apts a.pts), (16, eI a.pts.length), (17, eI i)], [(2, .box [.d .nils, .d .nils, .d .nils, .d .nils]), (900, nrow ((0 : Int) :: (a.pts.take i).map Pt.k))]⟩) (fun i => i ≤ a.pts.length) (fun i => a.pts.length - i) 0 ((Ent.sub2 13 900 rfl rfl).trans (Ent.to ⟨rfl, rfl, rfl, rfl, rfl, rfl, trivial⟩ rfl)) ?_ (fun i hi => ?_)
  ·
   exact Nat.zero_le _
  refine jsr ?_
  refine jst hσ rfl rfl rfl rfl rfl ?_
  refine jn ?_
  refine AWP.seq ?_
  refine AWP.cond hσ rfl rfl (fun hc18 => ?_) (fun hc18 => ?_)
  ·
   skip
   refine AWP.skip ?_
   refine AWP.seq ?_
   refine AWP.block ?_
   refine jsr ?_
   have hil : i < a.pts.length := by have := of_decide_eq_true hc18; omega
   refine jin hσ rfl rfl rfl rfl rfl rfl rfl rfl rfl rfl rfl ?_
   refine jst hσ rfl rfl rfl rfl rfl ?_
   refine jf [20, 18, 1, 2, 4, 15, 16, 17] rfl ?_
   refine AOps.heap (HS.alloc hσ rfl rfl rfl rfl rfl) rfl ?_
   refine jnm ?_
   refine AOps.heap (HS.storeBox hσ rfl rfl rfl rfl rfl rfl rfl rfl rfl rfl rfl) rfl ?_
   refine jnm ?_
   refine jn ?_
   refine AWP.region ?_
   iterate 3 refine jst hσ rfl rfl rfl rfl rfl ?_
   refine jf [23, 21, 6, 20, 18, 1, 2, 4, 15, 16, 17] rfl ?_
   refine AOps.heap (HS.lit hσ rfl rfl rfl) rfl ?_
   refine jnm ?_
   refine jf [24, 21, 6, 20, 18, 1, 2, 4, 15, 16, 17] rfl ?_
   have hs1 : ((0 : Int) :: (a.pts.take (i + 1)).map Pt.k) = ((0 : Int) :: (a.pts.take i).map Pt.k) ++ [(a.pts.getD i default).k] := by rw [List.take_succ_eq_append_getElem hil, getD_lt hil, List.map_append]; rfl
   refine AOps.heap (HS.appMove (zs := (((0 : Int) :: (a.pts.take (i + 1)).map Pt.k)).map fun n => [.int .i64 n]) (n := ((0 : Int) :: (a.pts.take (i + 1)).map Pt.k).length) hσ rfl rfl rfl rfl rfl rfl rfl rfl rfl rfl rfl rfl rfl rfl rfl rfl (.row rfl (List.length_map _).symm) rfl rfl (by decide) rfl (by simp; omega) (by simp; omega) (by rw [hs1, List.map_append]; rfl) (List.length_map _)) rfl ?_
   refine jnm ?_
   refine jnm ?_
   refine jst hσ rfl rfl rfl rfl rfl ?_
   refine jf [4, 6, 20, 18, 1, 2, 15, 16, 17] rfl ?_
   refine jn ?_
   refine AWP.region ?_
   first | refine jfi hσ rfl rfl rfl rfl rfl ?_ | refine jvf hσ rfl rfl rfl rfl rfl ?_
   refine jst hσ rfl rfl rfl rfl rfl ?_
   refine jn ?_
   refine ⟨i + 1, ((Ent.sel [2, 25] (e' := [(1, _), (2, _), (4, _), (15, _), (16, _), (17, _)]) rfl rfl ⟨rfl, rfl, rfl, rfl, rfl, rfl, trivial⟩ rfl).trans (Ent.sub2 25 900 rfl rfl)).trans (Ent.to ⟨rfl, rfl, rfl, rfl, rfl, rfl, trivial⟩ rfl), by omega, by omega⟩
  ·
   skip
   refine AWP.exit ?_
   refine jsr ?_
   iterate 3 refine jst hσ rfl rfl rfl rfl rfl ?_
   refine jf [29, 28, 18, 1, 2, 4, 15, 16, 17] rfl ?_
   rw [show a.pts.take i = a.pts from List.take_of_length_le (by have := of_decide_eq_false hc18; omega)]
   refine AOps.inn hσ [900] (bin := [nrow ((0 : Int) :: a.pts.map Pt.k)]) rfl rfl rfl rfl (c1089 (c := a.code) (st := ((0 : Int) :: a.pts.map Pt.k)) h1 h2 hA.tg (pt_st' hA) (by simp only [List.length_cons, List.length_map]; omega)) rfl rfl rfl rfl rfl rfl (B0 := 31000) rfl rfl ?_
   refine jnm ?_
   refine jst hσ rfl rfl rfl rfl rfl ?_
   refine jf [7, 18, 1, 2, 4, 15, 16, 17] rfl ?_
   refine jn ?_
   refine AWP.seq ?_
   refine jsr ?_
   refine jst hσ rfl rfl rfl rfl rfl ?_
   first | refine jle hσ rfl rfl rfl rfl rfl rfl rfl rfl rfl rfl rfl ?_ | refine jst hσ rfl rfl rfl rfl rfl ?_ | refine jvf hσ rfl rfl rfl rfl rfl ?_
   refine jst hσ rfl rfl rfl rfl rfl ?_
   refine jn ?_
   refine AWP.block ?_
   refine AWP.loopP (X := Nat) (fun i => ⟨[(1, ptr a.data), (2, .c (.pt 2 0 0)), (7, .c (.rs 31001 0 a.code.length)), (32, eI a.code.length), (33, eI i)], [(2, .box [.d .nils, .d .nils, .d .nils, .d .nils]), (31001, brow (upS (fun b => !b) (reachB a.code ((0 : Int) :: a.pts.map Pt.k)) i))]⟩) (fun i => i ≤ (reachB a.code ((0 : Int) :: a.pts.map Pt.k)).length) (fun i => (reachB a.code ((0 : Int) :: a.pts.map Pt.k)).length - i) 0 (Ent.to ⟨rfl, rfl, rfl, rfl, rfl, trivial⟩ (by rw [upS_zero]; rfl)) ?_ (fun i hi => ?_)
   ·
    exact Nat.zero_le _
   refine jsr ?_
   refine jst hσ rfl rfl rfl rfl rfl ?_
   refine jn ?_
   refine AWP.seq ?_
   refine AWP.cond hσ rfl rfl (fun hc34 => ?_) (fun hc34 => ?_)
   ·
    skip
    refine AWP.skip ?_
    refine AWP.seq ?_
    refine AWP.block ?_
    refine jsr ?_
    iterate 2 refine jst hσ rfl rfl rfl rfl rfl ?_
    refine jn ?_
    refine AWP.region ?_
    iterate 4 refine jst hσ rfl rfl rfl rfl rfl ?_
    have hil2 : i < (reachB a.code ((0 : Int) :: a.pts.map Pt.k)).length := by have := of_decide_eq_true hc34; omega
    have hup := upS_len (f := fun b => !b) (l := (reachB a.code ((0 : Int) :: a.pts.map Pt.k))) (i := i)
    refine jvf hσ rfl rfl rfl rfl rfl ?_
    refine AOps.step (Val.loadRow hσ (ex := bL ((reachB a.code ((0 : Int) :: a.pts.map Pt.k)).getD i default)) rfl rfl rfl rfl (upS_getj hil2 (by omega)) rfl) rfl rfl rfl ?_
    refine jst hσ rfl rfl rfl rfl rfl ?_
    refine jvf hσ rfl rfl rfl rfl rfl ?_
    refine jf [43, 42, 35, 34, 1, 2, 7, 32, 33] rfl ?_
    refine AOps.heap (HS.storeRow (ex := bL ((reachB a.code ((0 : Int) :: a.pts.map Pt.k)).getD i default)) (xs' := (upS (fun b => !b) (reachB a.code ((0 : Int) :: a.pts.map Pt.k)) (i + 1)).map bL) hσ rfl rfl rfl rfl rfl rfl rfl rfl rfl rfl rfl rfl rfl rfl (upS_getj hil2 (by omega)) (upS_rowj hil2 (by omega) rfl)) rfl ?_
    refine jnm ?_
    refine jnm ?_
    refine jf [35, 34, 1, 2, 7, 32, 33] rfl ?_
    refine jn ?_
    refine AWP.region ?_
    first | refine jfi hσ rfl rfl rfl rfl rfl ?_ | refine jvf hσ rfl rfl rfl rfl rfl ?_
    refine jst hσ rfl rfl rfl rfl rfl ?_
    refine jn ?_
    refine ⟨i + 1, Ent.to ⟨rfl, rfl, rfl, rfl, rfl, trivial⟩ rfl, by omega, by omega⟩
   ·
    skip
    refine AWP.exit ?_
    refine jsr ?_
    obtain rfl : i = (reachB a.code ((0 : Int) :: a.pts.map Pt.k)).length := by have := of_decide_eq_false hc34; omega
    rw [upS_all]
    iterate 2 refine jst hσ rfl rfl rfl rfl rfl ?_
    refine AOps.rows hσ (B0 := 48000) rfl rfl rfl rfl (c132 (a := a) (d := drpB a) h1 h2 (wok_drp hA)) (.cons (.agg (VMs.self rfl)) (.cons (.c (.whole rfl (by rw [List.length_map, drpB_len]))) .nil)) rfl rfl rfl rfl rfl rfl ?_
    refine jnm ?_
    refine jf [47, 34, 1, 2, 7, 32, 33] rfl ?_
    refine AOps.heap (HS.storeBox hσ rfl rfl rfl rfl rfl rfl rfl rfl rfl rfl rfl) rfl ?_
    refine jnm ?_
    refine jst hσ rfl rfl rfl rfl rfl ?_
    refine jn ?_
    refine AWP.ret ?_
    refine ⟨.inl rfl, _, Ent.refl, _, rfl, [48000, 48001, 48002, 48003], by decide, rfl, rfl, rfl⟩
theorem c1084n {L : Nat} (h1 : 4096 ≤ L) (h2 : L ≤ 1073741824) {a : An} (hv : annB a = false) : MC Tryz.prog L 17 [aAn a] [] (Rows (.tup [.agg [.d .nils, .d .nils, .d .nils, .d .nils], eB false]) []) := by
 refine MC.rows ?_
 have hσ := SGok (nt := 48) h1 (Nat.le_trans h2 (by decide))
 refine MC.body hσ Tryz.func17 (by kernel_rfl) rfl rfl (Nat.le_of_ble_eq_true rfl) (fun hF => ?_)
 refine jsr ?_
 refine AOps.heap (HS.box hσ rfl rfl rfl rfl rfl rfl rfl) rfl ?_
 refine jnm ?_
 refine AOps.to (Ent.freeze 1 (e' := [(1, _), (0, _)]) rfl (.cons rfl (.c (.box (cs := a.data) rfl (VMs.self rfl))) (.cons rfl (.keep rfl) .nil)) (.skip .nil)) ?_
 refine jnm ?_
 refine jf [1] rfl ?_
 refine AOps.heap (HS.alloc hσ rfl rfl rfl rfl rfl) rfl ?_
 refine jnm ?_
 refine jst hσ rfl rfl rfl rfl rfl ?_
 refine jn ?_
 refine AWP.seq ?_
 refine jsr ?_
 refine jst hσ rfl rfl rfl rfl rfl ?_
 refine AOps.lone hσ rfl rfl rfl rfl ((c71 (a := a) h1 h2).plain (u := eB false) (by rw [hv])) (VAs.self rfl) rfl rfl rfl rfl rfl (B0 := 11000) rfl ?_
 refine jst hσ rfl rfl rfl rfl rfl ?_
 refine jf [11, 3, 2, 1] rfl ?_
 refine jn ?_
 refine AWP.cond hσ rfl rfl (fun hc11 => ?_) (fun hc11 => ?_)
 ·
  skip
  refine jsr ?_
  refine jst hσ rfl rfl rfl rfl rfl ?_
  refine jf [12, 3, 2, 1] rfl ?_
  refine AOps.heap (HS.storeBox hσ rfl rfl rfl rfl rfl rfl rfl rfl rfl rfl rfl) rfl ?_
  refine jnm ?_
  refine jst hσ rfl rfl rfl rfl rfl ?_
  refine jn ?_
  refine AWP.ret ?_
  refine ⟨.inl rfl, _, Ent.refl, _, rfl, [], by decide, rfl, rfl, rfl⟩
 ·
  skip
  cases hc11
end Go.Al
