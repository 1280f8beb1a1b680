/- The program's folding: dropping, one rule, all rules. -/
import Derived.Test.YtnepkogijffmjaaP
namespace Go.Al
open Go.Proofs
set_option linter.unusedVariables false
set_option linter.unusedSimpArgs false
set_option maxRecDepth 10000
set_option maxHeartbeats 4000000
theorem lessI_j {d : List Bool} {x : In} (h : jmpB x = true) : lessI d x = ⟨x.op, x.a - cntT d x.a.toNat⟩ := if_pos h
theorem lessI_n {d : List Bool} {x : In} (h : jmpB x = false) : lessI d x = x := if_neg (by rw [h]; decide)
/-- What lets instructions be dropped. -/
structure WOk (a : An) (d : List Bool) : Prop where
  len : d.length = a.code.length
  c80 : a.code.length ≤ 80
  jmp : ∀ x ∈ a.code, -1000000 ≤ x.a ∧ x.a ≤ 1000000 ∧ (jmpB x = true → 0 ≤ x.a)
  pts : ∀ p ∈ a.pts, 0 ≤ p.k ∧ p.k ≤ 79
theorem c132 {L : Nat} (h1 : 4096 ≤ L) (h2 : L ≤ 1073741824) {a : An} {d : List Bool} (hw : WOk a d) : MC Try.prog L 52 [aAn a, .c (.d (boolsD d))] [] (Rows (anRs (withoutR d a)) (anBs (withoutR d a))) := by
 refine MC.rows ?_
 have hσ := SGok (nt := 73) h1 (Nat.le_trans h2 (by decide))
 refine MC.body hσ Try.func52 (by kernel_rfl) rfl rfl (Nat.le_of_ble_eq_true rfl) (fun hF => ?_)
 have hl : a.code.length ≤ L := by simpa [As.fact, A.fact, M.fact, Ms.fact, D.fact, Ds.fact] using hF.1.2.2.1.1
 have hlp : a.pts.length ≤ L := by simpa [As.fact, A.fact, M.fact, Ms.fact, D.fact, Ds.fact] using hF.1.2.2.2.1.1
 have hd80 : d.length ≤ 80 := hw.len ▸ hw.c80
 refine AWP.seq ?_
 refine AWP.region ?_
 refine AOps.heap (HS.box hσ rfl rfl rfl rfl rfl rfl rfl) rfl ?_
 apply AOps.norm
 ·
  repeat' (first | exact HN.nil rfl | apply HN.cons rfl | exact BN.row rfl | exact BN.map rfl | apply BN.box rfl | exact MN.nil rfl | apply MN.cons rfl | exact XN.d rfl | exact XN.rs rfl | exact XN.self)
 refine AOps.to (Ent.freeze 2 (e' := [(2, _), (1, _)]) rfl (.cons rfl (.c (.box (cs := a.data) rfl (VMs.self rfl))) (.cons rfl (.keep rfl) .nil)) (.skip .nil)) ?_
 apply AOps.norm
 ·
  repeat' (first | exact HN.nil rfl | apply HN.cons rfl | exact BN.row rfl | exact BN.map rfl | apply BN.box rfl | exact MN.nil rfl | apply MN.cons rfl | exact XN.d rfl | exact XN.rs rfl | exact XN.self)
 refine AOps.heap (HS.box hσ rfl rfl rfl rfl rfl rfl rfl) rfl ?_
 apply AOps.norm
 ·
  repeat' (first | exact HN.nil rfl | apply HN.cons rfl | exact BN.row rfl | exact BN.map rfl | apply BN.box rfl | exact MN.nil rfl | apply MN.cons rfl | exact XN.d rfl | exact XN.rs rfl | exact XN.self)
 refine AOps.to (Ent.freeze 3 (e' := [(3, _), (2, _)]) rfl (.cons rfl (.c (.box (cs := [boolsD d]) rfl (VMs.self rfl))) (.cons rfl (.keep rfl) .nil)) (.skip .nil)) ?_
 apply AOps.norm
 ·
  repeat' (first | exact HN.nil rfl | apply HN.cons rfl | exact BN.row rfl | exact BN.map rfl | apply BN.box rfl | exact MN.nil rfl | apply MN.cons rfl | exact XN.d rfl | exact XN.rs rfl | exact XN.self)
 refine AOps.heap (HS.alloc hσ rfl rfl rfl rfl rfl) rfl ?_
 apply AOps.norm
 ·
  repeat' (first | exact HN.nil rfl | apply HN.cons rfl | exact BN.row rfl | exact BN.map rfl | apply BN.box rfl | exact MN.nil rfl | apply MN.cons rfl | exact XN.d rfl | exact XN.rs rfl | exact XN.self)
 refine AOps.nil ?_
 refine AWP.seq ?_
 refine AWP.drawF2 hσ _ [_, _, _, _, _, _, _, _, _] [⟨[], 0, 0, none⟩, ⟨[0], 0, 0, none⟩, ⟨[0, 1], 0, 0, some 0⟩, ⟨[], 0, 1, none⟩, ⟨[3], 0, 1, none⟩, ⟨[0, 1, 2, 3, 4], 0, 0, some 1⟩, ⟨[0, 1, 2, 3, 4, 5], 2, 2, none⟩, ⟨[], 0, 2, none⟩, ⟨[0, 1, 2, 3, 4, 5, 6, 7], 0, 0, some 2⟩] [2, 5, 8] 7 5 (.box [.d .nils, .d .nils, .d .nils, .d .nils]) [_, _, _] [_] [[], [], []] rfl rfl (by decide) (by decide) (by decide) rfl (by kernel_rfl) (And.intro (And.intro (and_flip (Val.of hσ rfl rfl) (Val.of hσ rfl rfl)) rfl) (And.intro (And.intro (and_flip (Val.of hσ rfl rfl) (Val.of hσ rfl rfl)) rfl) (And.intro (And.intro (and_flip (Eff.p (Eff.rows hσ (B0 := 14000) rfl rfl rfl rfl (c91o (ts := a.pre) h1 h2) (VAs.self rfl) rfl rfl rfl rfl rfl)) (Eff.p (Eff.rows hσ (B0 := 14000) rfl rfl rfl rfl (c91o (ts := a.pre) h1 h2) (VAs.self rfl) rfl rfl rfl rfl rfl))) rfl) (And.intro (And.intro (And.intro (and_flip (Val.of hσ rfl rfl) (Val.of hσ rfl rfl)) rfl) (And.intro (and_flip (Val.of hσ rfl rfl) (Val.of hσ rfl rfl)) rfl)) (And.intro (And.intro (And.intro (and_flip (Val.of hσ rfl rfl) (Val.of hσ rfl rfl)) rfl) (And.intro (and_flip (Val.of hσ rfl rfl) (Val.of hσ rfl rfl)) rfl)) (And.intro (And.intro (and_flip (Eff.p (Eff.rows hσ (B0 := 17000) rfl rfl rfl rfl (c91o (ts := a.post) h1 h2) (VAs.self rfl) rfl rfl rfl rfl rfl)) (Eff.p (Eff.rows hσ (B0 := 17000) rfl rfl rfl rfl (c91o (ts := a.post) h1 h2) (VAs.self rfl) rfl rfl rfl rfl rfl))) rfl) (And.intro (And.intro (and_flip (Val.of hσ rfl rfl) (Val.of hσ rfl rfl)) rfl) (And.intro (And.intro (And.intro (Eff.p (Eff.alloc hσ rfl rfl rfl rfl rfl rfl)) rfl) (And.intro (And.intro (Eff.p (Eff.alloc hσ rfl rfl rfl rfl rfl rfl)) rfl) (And.intro (Eff.p (Eff.alloc hσ rfl rfl rfl rfl rfl rfl)) rfl))) (And.intro (And.intro (and_flip trivial (Eff.p (Eff.storeBox hσ rfl rfl rfl rfl rfl rfl rfl rfl rfl rfl rfl rfl rfl))) rfl) trivial))))))))) ?_
 refine AWP.forget [(5, _), (4, _), (3, _), (2, _)] ⟨rfl, rfl, rfl, rfl, trivial⟩ ?_
 apply AWP.norm
 ·
  repeat' (first | exact HN.nil rfl | apply HN.cons rfl | exact BN.row rfl | exact BN.map rfl | apply BN.box rfl | exact MN.nil rfl | apply MN.cons rfl | exact XN.d rfl | exact XN.rs rfl | exact XN.self)
 refine AWP.seq ?_
 refine AWP.region ?_
 refine AOps.step (Val.of hσ rfl rfl) rfl rfl rfl ?_
 refine AOps.step (Val.of hσ rfl rfl) rfl rfl rfl ?_
 refine AOps.nil ?_
 refine AWP.seq ?_
 refine AWP.seq ?_
 refine AWP.region ?_
 refine AOps.step (Val.of hσ rfl rfl) rfl rfl rfl ?_
 refine AOps.step (Val.of hσ rfl rfl) rfl rfl rfl ?_
 first | refine AOps.step (Val.lenD hσ rfl rfl rfl rfl rfl rfl rfl rfl) rfl rfl rfl ?_ | refine AOps.step (Val.of hσ rfl rfl) rfl rfl rfl ?_ | refine AOps.step (Val.vif hσ rfl rfl (by first | omega | (simp at *; omega))) rfl rfl rfl ?_
 refine AOps.step (Val.of hσ rfl rfl) rfl rfl rfl ?_
 refine AOps.nil ?_
 refine AWP.block ?_
 refine AWP.loopP (X := Nat) (fun i => ⟨[(2, ptr a.data), (3, ptr [boolsD d]), (4, .c (.pt 4 0 0)), (5, .c (.pt 5 0 0)), (6, .c (.fn 80 [.d (.ptr [boolsD d] 0)])), (20, ains a.code), (21, eI a.code.length), (22, eI i)], [(4, .box [.d .nils, .d .nils, .d .nils, .d .nils]), (5, .box [.rs 14000 0 a.pre.length, .rs 17000 0 a.post.length, .rs 900 0 ((keepL (d.take i) (a.code.take i)).map (lessI d)).length, .d .nils]), (900, irow ((keepL (d.take i) (a.code.take i)).map (lessI d))), (14000, trow a.pre), (17000, trow a.post)]⟩) (fun i => i ≤ a.code.length) (fun i => a.code.length - i) 0 ((Ent.nameBox 5 900 2 true 2 rfl rfl rfl).trans (Ent.to ⟨rfl, rfl, rfl, rfl, rfl, rfl, rfl, rfl, trivial⟩ rfl)) ?_ (fun i hi => ?_)
 ·
  exact Nat.zero_le _
 refine AWP.seq ?_
 refine AWP.region ?_
 refine AOps.step (Val.of hσ rfl rfl) rfl rfl rfl ?_
 refine AOps.nil ?_
 refine AWP.seq ?_
 refine AWP.cond hσ rfl rfl (fun hc23 => ?_) (fun hc23 => ?_)
 ·
  skip
  refine AWP.skip ?_
  refine AWP.seq ?_
  refine AWP.block ?_
  refine AWP.seq ?_
  refine AWP.region ?_
  refine AOps.step (Val.of hσ rfl rfl) rfl rfl rfl ?_
  have hil : i < a.code.length := by have := of_decide_eq_true hc23; omega
  have hid : i < d.length := by rw [hw.len]; exact hil
  have hxi := hw.jmp _ (mem_getD hil)
  refine AOps.step (Val.indexN hσ rfl rfl rfl rfl rfl rfl rfl rfl (idxN (by first | omega | (simp at *; omega)))) rfl rfl rfl ?_
  refine AOps.step (Val.of hσ rfl rfl) rfl rfl rfl ?_
  refine AOps.forget [(26, _), (24, _), (23, _), (2, _), (3, _), (4, _), (5, _), (6, _), (20, _), (21, _), (22, _)] ⟨rfl, rfl, rfl, rfl, rfl, rfl, rfl, rfl, rfl, rfl, rfl, trivial⟩ ?_
  refine AOps.heap (HS.alloc hσ rfl rfl rfl rfl rfl) rfl ?_
  apply AOps.norm
  ·
   repeat' (first | exact HN.nil rfl | apply HN.cons rfl | exact BN.row rfl | exact BN.map rfl | apply BN.box rfl | exact MN.nil rfl | apply MN.cons rfl | exact XN.d rfl | exact XN.rs rfl | exact XN.self)
  refine AOps.step (Val.of hσ rfl rfl) rfl rfl rfl ?_
  refine AOps.forget [(7, _), (8, _), (26, _), (23, _), (2, _), (3, _), (4, _), (5, _), (6, _), (20, _), (21, _), (22, _)] ⟨rfl, rfl, rfl, rfl, rfl, rfl, rfl, rfl, rfl, rfl, rfl, rfl, trivial⟩ ?_
  refine AOps.heap (HS.storeBox hσ rfl rfl rfl rfl rfl rfl rfl rfl rfl rfl rfl) rfl ?_
  apply AOps.norm
  ·
   repeat' (first | exact HN.nil rfl | apply HN.cons rfl | exact BN.row rfl | exact BN.map rfl | apply BN.box rfl | exact MN.nil rfl | apply MN.cons rfl | exact XN.d rfl | exact XN.rs rfl | exact XN.self)
  refine AOps.nil ?_
  refine AWP.seq ?_
  refine AWP.seq ?_
  refine AWP.region ?_
  refine AOps.step (Val.of hσ rfl rfl) rfl rfl rfl ?_
  refine AOps.step (Val.of hσ rfl rfl) rfl rfl rfl ?_
  refine AOps.step (Val.indexN hσ rfl rfl rfl rfl rfl rfl rfl rfl (idxN (by first | omega | (simp at *; omega)))) rfl rfl rfl ?_
  refine AOps.step (Val.of hσ rfl rfl) rfl rfl rfl ?_
  refine AOps.forget [(30, _), (8, _), (26, _), (23, _), (2, _), (3, _), (4, _), (5, _), (6, _), (20, _), (21, _), (22, _)] ⟨rfl, rfl, rfl, rfl, rfl, rfl, rfl, rfl, rfl, rfl, rfl, rfl, trivial⟩ ?_
  refine AOps.nil ?_
  refine AWP.cond hσ rfl rfl (fun hc30 => ?_) (fun hc30 => ?_)
  ·
   skip
   refine AWP.exit ?_
   refine AWP.region ?_
   first | refine AOps.step (Val.fits64 hσ rfl rfl (by first | omega | (simp at *; omega)) (by first | omega | (simp at *; omega))) rfl rfl rfl ?_ | refine AOps.step (Val.vif hσ rfl rfl (by first | omega | (simp at *; omega))) rfl rfl rfl ?_
   refine AOps.step (Val.of hσ rfl rfl) rfl rfl rfl ?_
   refine AOps.nil ?_
   have hK0 : ((keepL (d.take (i + 1)) (a.code.take (i + 1))).map (lessI d)) = ((keepL (d.take i) (a.code.take i)).map (lessI d)) := by rw [keepL_succ hid hil, if_pos hc30, List.append_nil]
   rw [← hK0]
   refine ⟨i + 1, (Ent.sel [4, 5, 900, 14000, 17000] (e' := [(2, _), (3, _), (4, _), (5, _), (6, _), (20, _), (21, _), (22, _)]) rfl rfl ⟨rfl, rfl, rfl, rfl, rfl, rfl, rfl, rfl, trivial⟩ rfl).trans (Ent.to ⟨rfl, rfl, rfl, rfl, rfl, rfl, rfl, rfl, trivial⟩ rfl), by omega, by omega⟩
  ·
   skip
   refine AWP.skip ?_
   refine AWP.seq ?_
   refine AWP.seq ?_
   refine AWP.region ?_
   refine AOps.step (Val.of hσ rfl rfl) rfl rfl rfl ?_
   refine AOps.lone hσ rfl rfl rfl rfl (c130 (x := (a.code.getD i default)) h1 h2) (VAs.self rfl) rfl rfl rfl rfl rfl (B0 := 33000) rfl ?_
   refine AOps.nil ?_
   refine AWP.cond hσ rfl rfl (fun hc32 => ?_) (fun hc32 => ?_)
   ·
    skip
    have hx0 := hxi.2.2 hc32
    have hct := cntT_len (d := d) (i := (a.code.getD i default).a.toNat)
    refine AWP.drawR hσ _ [_, _, _, _, _, _, _, _, _] [⟨[], 0, 1, none⟩, ⟨[0], 0, 1, none⟩, ⟨[], 0, 0, none⟩, ⟨[], 0, 0, none⟩, ⟨[3], 0, 0, none⟩, ⟨[2, 3, 4], 0, 0, some 0⟩, ⟨[0, 1, 2, 3, 4, 5], 1, 1, none⟩, ⟨[0, 1, 2, 3, 4, 5, 6], 1, 1, none⟩, ⟨[0, 1, 2, 3, 4, 5, 6, 7], 0, 0, some 1⟩] [5, 8] [_, _, _] rfl rfl (by decide) (by decide) (by kernel_rfl) (And.intro (And.intro (Val.of hσ rfl rfl) (Val.of hσ rfl rfl)) (And.intro (And.intro (Val.of hσ rfl rfl) (Val.of hσ rfl rfl)) (And.intro (Val.of hσ rfl rfl) (And.intro (Val.of hσ rfl rfl) (And.intro (Val.of hσ rfl rfl) (And.intro (Eff.lone hσ (B0 := 39000) rfl rfl rfl rfl (c178 (d := d) (z := (a.code.getD i default).a) h1 h2 hx0 (by omega)) (VAs.self rfl) rfl rfl rfl rfl rfl) (And.intro (Val.fits64 hσ rfl rfl (by first | omega | (simp at *; omega)) (by first | omega | (simp at *; omega))) (And.intro (Val.of hσ rfl rfl) (And.intro (Eff.storeBox hσ rfl rfl rfl rfl rfl rfl rfl rfl rfl rfl rfl rfl rfl) trivial))))))))) ?_
    refine AWP.forget [(32, _), (31, _), (30, _), (8, _), (26, _), (23, _), (2, _), (3, _), (4, _), (5, _), (6, _), (20, _), (21, _), (22, _)] ⟨rfl, rfl, rfl, rfl, rfl, rfl, rfl, rfl, rfl, rfl, rfl, rfl, rfl, rfl, trivial⟩ ?_
    apply AWP.norm
    ·
     repeat' (first | exact HN.nil rfl | apply HN.cons rfl | exact BN.row rfl | exact BN.map rfl | apply BN.box rfl | exact MN.nil rfl | apply MN.cons rfl | exact XN.d rfl | exact XN.rs rfl | exact XN.self)
    refine AWP.region ?_
    have hK1 : ((keepL (d.take (i + 1)) (a.code.take (i + 1))).map (lessI d)) = ((keepL (d.take i) (a.code.take i)).map (lessI d)) ++ [lessI d (a.code.getD i default)] := by rw [keepL_succ hid hil, if_neg (by rw [hc30]; decide), List.map_append]; rfl
    have hKl : ((keepL (d.take (i + 1)) (a.code.take (i + 1))).map (lessI d)).length = ((keepL (d.take i) (a.code.take i)).map (lessI d)).length + 1 := by rw [hK1, List.length_append]; rfl
    have hKi : ((keepL (d.take i) (a.code.take i)).map (lessI d)).length ≤ i := by rw [List.length_map]; exact Nat.le_trans keepL_len (by rw [List.length_take]; omega)
    first | have hlx := lessI_j (d := d) hc32 | have hlx := lessI_n (d := d) hc32
    refine AOps.step (Val.of hσ rfl rfl) rfl rfl rfl ?_
    refine AOps.step (Val.of hσ rfl rfl) rfl rfl rfl ?_
    refine AOps.step (Val.of hσ rfl rfl) rfl rfl rfl ?_
    refine AOps.forget [(43, _), (42, _), (32, _), (31, _), (30, _), (8, _), (26, _), (23, _), (2, _), (3, _), (4, _), (5, _), (6, _), (20, _), (21, _), (22, _)] ⟨rfl, rfl, rfl, rfl, rfl, rfl, rfl, rfl, rfl, rfl, rfl, rfl, rfl, rfl, rfl, rfl, trivial⟩ ?_
    refine AOps.heap (HS.lit hσ rfl rfl rfl) rfl ?_
    apply AOps.norm
    ·
     repeat' (first | exact HN.nil rfl | apply HN.cons rfl | exact BN.row rfl | exact BN.map rfl | apply BN.box rfl | exact MN.nil rfl | apply MN.cons rfl | exact XN.d rfl | exact XN.rs rfl | exact XN.self)
    refine AOps.forget [(44, _), (42, _), (32, _), (31, _), (30, _), (8, _), (26, _), (23, _), (2, _), (3, _), (4, _), (5, _), (6, _), (20, _), (21, _), (22, _)] ⟨rfl, rfl, rfl, rfl, rfl, rfl, rfl, rfl, rfl, rfl, rfl, rfl, rfl, rfl, rfl, rfl, trivial⟩ ?_
    refine AOps.heap (HS.appMove (zs := ((keepL (d.take (i + 1)) (a.code.take (i + 1))).map (lessI d)).map In.cells) (n := ((keepL (d.take (i + 1)) (a.code.take (i + 1))).map (lessI d)).length) hσ rfl rfl rfl rfl rfl rfl rfl rfl rfl rfl rfl rfl rfl rfl rfl rfl (.row rfl (List.length_map _).symm) rfl rfl (by decide) rfl (by simp only [List.length_map, List.length_cons, List.length_nil] at *; omega) (by simp only [List.length_map, List.length_cons, List.length_nil] at *; omega) (by rw [hK1, List.map_append, hlx]; rfl) (List.length_map _)) rfl ?_
    apply AOps.norm
    ·
     repeat' (first | exact HN.nil rfl | apply HN.cons rfl | exact BN.row rfl | exact BN.map rfl | apply BN.box rfl | exact MN.nil rfl | apply MN.cons rfl | exact XN.d rfl | exact XN.rs rfl | exact XN.self)
    apply AOps.norm
    ·
     repeat' (first | exact HN.nil rfl | apply HN.cons rfl | exact BN.row rfl | exact BN.map rfl | apply BN.box rfl | exact MN.nil rfl | apply MN.cons rfl | exact XN.d rfl | exact XN.rs rfl | exact XN.self)
    refine AOps.step (Val.of hσ rfl rfl) rfl rfl rfl ?_
    refine AOps.forget [(46, _), (45, _), (32, _), (31, _), (30, _), (8, _), (26, _), (23, _), (2, _), (3, _), (4, _), (5, _), (6, _), (20, _), (21, _), (22, _)] ⟨rfl, rfl, rfl, rfl, rfl, rfl, rfl, rfl, rfl, rfl, rfl, rfl, rfl, rfl, rfl, rfl, trivial⟩ ?_
    refine AOps.heap (HS.storeBox hσ rfl rfl rfl rfl rfl rfl rfl rfl rfl rfl rfl) rfl ?_
    apply AOps.norm
    ·
     repeat' (first | exact HN.nil rfl | apply HN.cons rfl | exact BN.row rfl | exact BN.map rfl | apply BN.box rfl | exact MN.nil rfl | apply MN.cons rfl | exact XN.d rfl | exact XN.rs rfl | exact XN.self)
    refine AOps.forget [(32, _), (31, _), (30, _), (8, _), (26, _), (23, _), (2, _), (3, _), (4, _), (5, _), (6, _), (20, _), (21, _), (22, _)] ⟨rfl, rfl, rfl, rfl, rfl, rfl, rfl, rfl, rfl, rfl, rfl, rfl, rfl, rfl, trivial⟩ ?_
    refine AOps.nil ?_
    refine AWP.region ?_
    first | refine AOps.step (Val.fits64 hσ rfl rfl (by first | omega | (simp at *; omega)) (by first | omega | (simp at *; omega))) rfl rfl rfl ?_ | refine AOps.step (Val.vif hσ rfl rfl (by first | omega | (simp at *; omega))) rfl rfl rfl ?_
    refine AOps.step (Val.of hσ rfl rfl) rfl rfl rfl ?_
    refine AOps.nil ?_
    refine ⟨i + 1, ((Ent.sel [4, 5, 45, 14000, 17000] (e' := [(2, _), (3, _), (4, _), (5, _), (6, _), (20, _), (21, _), (22, _)]) rfl rfl ⟨rfl, rfl, rfl, rfl, rfl, rfl, rfl, rfl, trivial⟩ rfl).trans (Ent.sub2 45 900 rfl rfl)), by omega, by omega⟩
   ·
    skip
    refine AWP.skip ?_
    refine AWP.region ?_
    have hK1 : ((keepL (d.take (i + 1)) (a.code.take (i + 1))).map (lessI d)) = ((keepL (d.take i) (a.code.take i)).map (lessI d)) ++ [lessI d (a.code.getD i default)] := by rw [keepL_succ hid hil, if_neg (by rw [hc30]; decide), List.map_append]; rfl
    have hKl : ((keepL (d.take (i + 1)) (a.code.take (i + 1))).map (lessI d)).length = ((keepL (d.take i) (a.code.take i)).map (lessI d)).length + 1 := by rw [hK1, List.length_append]; rfl
    have hKi : ((keepL (d.take i) (a.code.take i)).map (lessI d)).length ≤ i := by rw [List.length_map]; exact Nat.le_trans keepL_len (by rw [List.length_take]; omega)
    first | have hlx := lessI_j (d := d) hc32 | have hlx := lessI_n (d := d) hc32
    refine AOps.step (Val.of hσ rfl rfl) rfl rfl rfl ?_
    refine AOps.step (Val.of hσ rfl rfl) rfl rfl rfl ?_
    refine AOps.step (Val.of hσ rfl rfl) rfl rfl rfl ?_
    refine AOps.forget [(43, _), (42, _), (32, _), (31, _), (30, _), (8, _), (26, _), (23, _), (2, _), (3, _), (4, _), (5, _), (6, _), (20, _), (21, _), (22, _)] ⟨rfl, rfl, rfl, rfl, rfl, rfl, rfl, rfl, rfl, rfl, rfl, rfl, rfl, rfl, rfl, rfl, trivial⟩ ?_
    refine AOps.heap (HS.lit hσ rfl rfl rfl) rfl ?_
    apply AOps.norm
    ·
     repeat' (first | exact HN.nil rfl | apply HN.cons rfl | exact BN.row rfl | exact BN.map rfl | apply BN.box rfl | exact MN.nil rfl | apply MN.cons rfl | exact XN.d rfl | exact XN.rs rfl | exact XN.self)
    refine AOps.forget [(44, _), (42, _), (32, _), (31, _), (30, _), (8, _), (26, _), (23, _), (2, _), (3, _), (4, _), (5, _), (6, _), (20, _), (21, _), (22, _)] ⟨rfl, rfl, rfl, rfl, rfl, rfl, rfl, rfl, rfl, rfl, rfl, rfl, rfl, rfl, rfl, rfl, trivial⟩ ?_
    refine AOps.heap (HS.appMove (zs := ((keepL (d.take (i + 1)) (a.code.take (i + 1))).map (lessI d)).map In.cells) (n := ((keepL (d.take (i + 1)) (a.code.take (i + 1))).map (lessI d)).length) hσ rfl rfl rfl rfl rfl rfl rfl rfl rfl rfl rfl rfl rfl rfl rfl rfl (.row rfl (List.length_map _).symm) rfl rfl (by decide) rfl (by simp only [List.length_map, List.length_cons, List.length_nil] at *; omega) (by simp only [List.length_map, List.length_cons, List.length_nil] at *; omega) (by rw [hK1, List.map_append, hlx]; rfl) (List.length_map _)) rfl ?_
    apply AOps.norm
    ·
     repeat' (first | exact HN.nil rfl | apply HN.cons rfl | exact BN.row rfl | exact BN.map rfl | apply BN.box rfl | exact MN.nil rfl | apply MN.cons rfl | exact XN.d rfl | exact XN.rs rfl | exact XN.self)
    apply AOps.norm
    ·
     repeat' (first | exact HN.nil rfl | apply HN.cons rfl | exact BN.row rfl | exact BN.map rfl | apply BN.box rfl | exact MN.nil rfl | apply MN.cons rfl | exact XN.d rfl | exact XN.rs rfl | exact XN.self)
    refine AOps.step (Val.of hσ rfl rfl) rfl rfl rfl ?_
    refine AOps.forget [(46, _), (45, _), (32, _), (31, _), (30, _), (8, _), (26, _), (23, _), (2, _), (3, _), (4, _), (5, _), (6, _), (20, _), (21, _), (22, _)] ⟨rfl, rfl, rfl, rfl, rfl, rfl, rfl, rfl, rfl, rfl, rfl, rfl, rfl, rfl, rfl, rfl, trivial⟩ ?_
    refine AOps.heap (HS.storeBox hσ rfl rfl rfl rfl rfl rfl rfl rfl rfl rfl rfl) rfl ?_
    apply AOps.norm
    ·
     repeat' (first | exact HN.nil rfl | apply HN.cons rfl | exact BN.row rfl | exact BN.map rfl | apply BN.box rfl | exact MN.nil rfl | apply MN.cons rfl | exact XN.d rfl | exact XN.rs rfl | exact XN.self)
    refine AOps.forget [(32, _), (31, _), (30, _), (8, _), (26, _), (23, _), (2, _), (3, _), (4, _), (5, _), (6, _), (20, _), (21, _), (22, _)] ⟨rfl, rfl, rfl, rfl, rfl, rfl, rfl, rfl, rfl, rfl, rfl, rfl, rfl, rfl, trivial⟩ ?_
    refine AOps.nil ?_
    refine AWP.region ?_
    first | refine AOps.step (Val.fits64 hσ rfl rfl (by first | omega | (simp at *; omega)) (by first | omega | (simp at *; omega))) rfl rfl rfl ?_ | refine AOps.step (Val.vif hσ rfl rfl (by first | omega | (simp at *; omega))) rfl rfl rfl ?_
    refine AOps.step (Val.of hσ rfl rfl) rfl rfl rfl ?_
    refine AOps.nil ?_
    refine ⟨i + 1, ((Ent.sel [4, 5, 45, 14000, 17000] (e' := [(2, _), (3, _), (4, _), (5, _), (6, _), (20, _), (21, _), (22, _)]) rfl rfl ⟨rfl, rfl, rfl, rfl, rfl, rfl, rfl, rfl, trivial⟩ rfl).trans (Ent.sub2 45 900 rfl rfl)), by omega, by omega⟩
 ·
  skip
  refine AWP.exit ?_
  refine AWP.seq ?_
  refine AWP.seq ?_
  refine AWP.region ?_
  obtain rfl : i = a.code.length := by have := of_decide_eq_false hc23; omega
  have hKn : ((keepL (d.take a.code.length) (a.code.take a.code.length)).map (lessI d)) = (withoutR d a).code := by rw [List.take_length, ← hw.len, List.take_length]; rfl
  rw [hKn]
  refine AOps.step (Val.of hσ rfl rfl) rfl rfl rfl ?_
  refine AOps.step (Val.of hσ rfl rfl) rfl rfl rfl ?_
  first | refine AOps.step (Val.lenD hσ rfl rfl rfl rfl rfl rfl rfl rfl) rfl rfl rfl ?_ | refine AOps.step (Val.of hσ rfl rfl) rfl rfl rfl ?_ | refine AOps.step (Val.vif hσ rfl rfl (by first | omega | (simp at *; omega))) rfl rfl rfl ?_
  refine AOps.step (Val.of hσ rfl rfl) rfl rfl rfl ?_
  refine AOps.nil ?_
  refine AWP.block ?_
  refine AWP.loopP (X := Nat) (fun i => ⟨[(4, .c (.pt 4 0 0)), (5, .c (.pt 5 0 0)), (6, .c (.fn 80 [.d (.ptr [boolsD d] 0)])), (49, apts a.pts), (50, eI a.pts.length), (51, eI i)], [(4, .box [.d .nils, .d .nils, .d .nils, .d .nils]), (5, .box [.rs 14000 0 a.pre.length, .rs 17000 0 a.post.length, .rs 900 0 (withoutR d a).code.length, .rs 901 0 i]), (900, irow (withoutR d a).code), (901, prow ((a.pts.take i).map (lessP d))), (14000, trow a.pre), (17000, trow a.post)]⟩) (fun i => i ≤ a.pts.length) (fun i => a.pts.length - i) 0 ((Ent.nameBox 5 901 2 true 3 rfl rfl rfl).trans (Ent.to ⟨rfl, rfl, rfl, rfl, rfl, rfl, trivial⟩ rfl)) ?_ (fun i hi => ?_)
  ·
   exact Nat.zero_le _
  refine AWP.seq ?_
  refine AWP.region ?_
  refine AOps.step (Val.of hσ rfl rfl) rfl rfl rfl ?_
  refine AOps.nil ?_
  refine AWP.seq ?_
  refine AWP.cond hσ rfl rfl (fun hc52 => ?_) (fun hc52 => ?_)
  ·
   skip
   refine AWP.skip ?_
   refine AWP.seq ?_
   refine AWP.block ?_
   refine AWP.seq ?_
   refine AWP.region ?_
   have hil : i < a.pts.length := by have := of_decide_eq_true hc52; omega
   have hpi := hw.pts _ (mem_gd hil)
   refine AOps.step (Val.indexN hσ rfl rfl rfl rfl rfl rfl rfl rfl (idxN (by first | omega | (simp at *; omega)))) rfl rfl rfl ?_
   refine AOps.step (Val.of hσ rfl rfl) rfl rfl rfl ?_
   refine AOps.forget [(54, _), (52, _), (4, _), (5, _), (6, _), (49, _), (50, _), (51, _)] ⟨rfl, rfl, rfl, rfl, rfl, rfl, rfl, rfl, trivial⟩ ?_
   refine AOps.heap (HS.alloc hσ rfl rfl rfl rfl rfl) rfl ?_
   apply AOps.norm
   ·
    repeat' (first | exact HN.nil rfl | apply HN.cons rfl | exact BN.row rfl | exact BN.map rfl | apply BN.box rfl | exact MN.nil rfl | apply MN.cons rfl | exact XN.d rfl | exact XN.rs rfl | exact XN.self)
   refine AOps.heap (HS.storeBox hσ rfl rfl rfl rfl rfl rfl rfl rfl rfl rfl rfl) rfl ?_
   apply AOps.norm
   ·
    repeat' (first | exact HN.nil rfl | apply HN.cons rfl | exact BN.row rfl | exact BN.map rfl | apply BN.box rfl | exact MN.nil rfl | apply MN.cons rfl | exact XN.d rfl | exact XN.rs rfl | exact XN.self)
   refine AOps.nil ?_
   have hct := cntT_len (d := d) (i := (a.pts.getD i default).k.toNat)
   refine AWP.drawP hσ _ [_, _, _, _, _, _, _, _, _, _, _, _, _, _, _, _, _] [⟨[], 0, 3, none⟩, ⟨[0], 0, 3, none⟩, ⟨[], 0, 2, none⟩, ⟨[2], 0, 2, none⟩, ⟨[], 0, 0, none⟩, ⟨[], 0, 0, none⟩, ⟨[5], 0, 0, none⟩, ⟨[4, 5, 6], 0, 0, some 0⟩, ⟨[2, 3, 4, 5, 6, 7], 1, 2, none⟩, ⟨[], 0, 1, none⟩, ⟨[9], 0, 1, none⟩, ⟨[4, 5, 6, 7, 9, 10], 0, 0, some 1⟩, ⟨[2, 3, 4, 5, 6, 7, 8, 9, 10, 11], 2, 2, none⟩, ⟨[2, 3, 4, 5, 6, 7, 8, 9, 10, 11, 12], 0, 0, some 2⟩, ⟨[0, 1, 2, 3, 4, 5, 6, 7, 8, 9, 10, 11, 12, 13], 0, 0, some 3⟩, ⟨[0, 1, 2, 3, 4, 5, 6, 7, 8, 9, 10, 11, 12, 13, 14], 4, 4, none⟩, ⟨[0, 1, 2, 3, 4, 5, 6, 7, 8, 9, 10, 11, 12, 13, 14, 15], 0, 0, some 4⟩] [7, 11, 13, 14, 16] [_, _, _, _, _, _] [[], [], [67000], [901, 68], []] rfl rfl (by decide) (by decide) (by kernel_rfl) (And.intro (And.intro (And.intro (Val.of hσ rfl rfl) rfl) (And.intro (And.intro (Val.of hσ rfl rfl) rfl) (And.intro (And.intro (Val.of hσ rfl rfl) rfl) (And.intro (Val.of hσ rfl rfl) rfl)))) (And.intro (And.intro (And.intro (Val.of hσ rfl rfl) rfl) (And.intro (And.intro (Val.of hσ rfl rfl) rfl) (And.intro (And.intro (Val.of hσ rfl rfl) rfl) (And.intro (Val.of hσ rfl rfl) rfl)))) (And.intro (And.intro (And.intro (Val.of hσ rfl rfl) rfl) (And.intro (And.intro (Val.of hσ rfl rfl) rfl) (And.intro (Val.of hσ rfl rfl) rfl))) (And.intro (And.intro (And.intro (Val.of hσ rfl rfl) rfl) (And.intro (And.intro (Val.of hσ rfl rfl) rfl) (And.intro (Val.of hσ rfl rfl) rfl))) (And.intro (And.intro (Val.of hσ rfl rfl) rfl) (And.intro (And.intro (Val.of hσ rfl rfl) rfl) (And.intro (And.intro (Val.of hσ rfl rfl) rfl) (And.intro (And.intro (Eff.p (Eff.lone hσ (B0 := 63000) rfl rfl rfl rfl (c178 (d := d) (z := (a.pts.getD i default).k) h1 h2 hpi.1 (by omega)) (VAs.self rfl) rfl rfl rfl rfl rfl)) rfl) (And.intro (And.intro (And.intro (Val.fits64 hσ rfl rfl (by first | omega | (simp at *; omega)) (by first | omega | (simp at *; omega))) rfl) (And.intro (Val.fits64 hσ rfl rfl (by first | omega | (simp at *; omega)) (by first | omega | (simp at *; omega))) rfl)) (And.intro (And.intro (And.intro (Val.of hσ rfl rfl) rfl) (And.intro (Val.of hσ rfl rfl) rfl)) (And.intro (And.intro (And.intro (Val.of hσ rfl rfl) rfl) (And.intro (Val.of hσ rfl rfl) rfl)) (And.intro (And.intro (Eff.p (Eff.rows hσ (B0 := 67000) rfl rfl rfl rfl (c91o (ts := (a.pts.getD i default).fs) h1 h2) (VAs.self rfl) rfl rfl rfl rfl rfl)) rfl) (And.intro (And.intro (Val.of hσ rfl rfl) rfl) (And.intro (And.intro (Eff.litAbs (l := 67000) (ds := (lessP d (a.pts.getD i default)).cells) hσ rfl rfl rfl rfl rfl rfl rfl rfl rfl rfl rfl rfl (fun e => .d rfl (.rs rfl (List.length_map _).symm .nil)) rfl rfl) rfl) (And.intro (And.intro (Eff.appMove (xs := ((a.pts.take i).map (lessP d)).map Pt.cells) (ys := [(lessP d (a.pts.getD i default)).cells]) (zs := ((a.pts.take (i + 1)).map (lessP d)).map Pt.cells) (n := i + 1) hσ rfl rfl rfl rfl rfl rfl rfl rfl rfl rfl rfl rfl rfl rfl rfl rfl (.row rfl (by simp; omega)) rfl rfl (by decide) rfl (by simp; omega) (by simp; omega) (by rw [List.take_succ_eq_append_getElem (show i < a.pts.length by omega), getD_lt (show i < a.pts.length by omega), List.map_append, List.map_append]; rfl) (by simp; omega) rfl) rfl) (And.intro (And.intro (Val.of hσ rfl rfl) rfl) (And.intro (And.intro (Eff.p (Eff.storeBox hσ rfl rfl rfl rfl rfl rfl rfl rfl rfl rfl rfl rfl rfl)) rfl) trivial))))))))))))))))) ?_
   refine AWP.forget [(10, _), (54, _), (52, _), (4, _), (5, _), (6, _), (49, _), (50, _), (51, _)] ⟨rfl, rfl, rfl, rfl, rfl, rfl, rfl, rfl, rfl, trivial⟩ ?_
   apply AWP.norm
   ·
    repeat' (first | exact HN.nil rfl | apply HN.cons rfl | exact BN.row rfl | exact BN.map rfl | apply BN.box rfl | exact MN.nil rfl | apply MN.cons rfl | exact XN.d rfl | exact XN.rs rfl | exact XN.self)
   refine AWP.region ?_
   first | refine AOps.step (Val.fits64 hσ rfl rfl (by first | omega | (simp at *; omega)) (by first | omega | (simp at *; omega))) rfl rfl rfl ?_ | refine AOps.step (Val.vif hσ rfl rfl (by first | omega | (simp at *; omega))) rfl rfl rfl ?_
   refine AOps.step (Val.of hσ rfl rfl) rfl rfl rfl ?_
   refine AOps.nil ?_
   refine ⟨i + 1, ((Ent.sel [4, 5, 900, 69, 14000, 17000] (e' := [(4, _), (5, _), (6, _), (49, _), (50, _), (51, _)]) rfl rfl ⟨rfl, rfl, rfl, rfl, rfl, rfl, trivial⟩ rfl).trans (Ent.sub2 69 901 rfl rfl)).trans (Ent.to ⟨rfl, rfl, rfl, rfl, rfl, rfl, trivial⟩ rfl), by omega, by omega⟩
  ·
   skip
   refine AWP.exit ?_
   refine AWP.seq ?_
   refine AWP.region ?_
   refine AOps.step (Val.of hσ rfl rfl) rfl rfl rfl ?_
   refine AOps.heap (HS.storeBox hσ rfl rfl rfl rfl rfl rfl rfl rfl rfl rfl rfl) rfl ?_
   apply AOps.norm
   ·
    repeat' (first | exact HN.nil rfl | apply HN.cons rfl | exact BN.row rfl | exact BN.map rfl | apply BN.box rfl | exact MN.nil rfl | apply MN.cons rfl | exact XN.d rfl | exact XN.rs rfl | exact XN.self)
   refine AOps.nil ?_
   refine AWP.ret ?_
   obtain rfl : i = a.pts.length := by have := of_decide_eq_false hc52; omega
   rw [List.take_length]
   have hpl : a.pts.length = (withoutR d a).pts.length := by simp [withoutR]
   rw [hpl]
   refine ⟨.inl rfl, _, Ent.refl, _, rfl, [14000, 17000, 900, 901], by decide, rfl, rfl, rfl⟩
end Go.Al
namespace Go.Al
open Go.Proofs
set_option linter.unusedVariables false
set_option linter.unusedSimpArgs false
set_option maxRecDepth 10000
set_option maxHeartbeats 4000000
section
variable {L : Nat} {w : World} {ok : Nat → Prop} {m : Nat → Loc}
theorem RMs.junked : ∀ {xs : List M} {vs}, RMs L w ok m xs vs → RMs L w ok m (xs.map fun _ => M.junk) vs
  | _, _, .nil => .nil
  | _, _, .cons h t => .cons (.junk h.oneCell) (RMs.junked t)
theorem RA.junked {ms : List M} {y : A} {x} (h : RA L w ok m (.tup [.agg ms, y]) x) : RA L w ok m (.tup [.agg (ms.map fun _ => M.junk), y]) x := by
  cases h with
  | tup h => cases h with
    | cons h1 h2 => cases h1 with
      | agg h3 => exact .tup (.cons (.agg (RMs.junked h3)) h2)
end
theorem MC.weak {P : Program} {L f : Nat} {args : List A} {Hin : List (Nat × B)} {v r : A} (hj : ∀ {w ok m x}, RA L w ok m v x → RA L w ok m r x) (h : MC P L f args Hin (Plain v)) : MC P L f args Hin (Plain r) := by
  refine ⟨h.1, fun w m F ok vs h1 h2 h3 h4 h5 => Calls.mono (h.2 w m F ok vs h1 h2 h3 h4 h5) fun e w' he => ?_⟩
  cases e with
  | returned u =>
    obtain ⟨r', H', m', F', ⟨rfl, rfl⟩, a1, a2, a3, a4, a5, a6, a7⟩ := he
    exact ⟨r, [], m', F', ⟨rfl, rfl⟩, a1, a2, a3, hj a4, a5, a6, a7⟩
  | _ => exact he
theorem getj {α β : Type} [Inhabited α] {l : List α} {f : α → β} {n j : Nat} (h : n < l.length) (hj : j = n) : (l.map f)[j]? = some (f (l.getD n default)) := by subst hj; simp [h]
theorem setj {α β : Type} {l : List α} {f : α → β} {n j : Nat} {v : α} {ds : β} (hj : j = n) (hd : ds = f v) : (l.map f).set j ds = (l.set n v).map f := by subst hj; subst hd; rw [List.map_set]
theorem end_pl {a : An} {e : Nat} (h : (bif (bif decide ((e : Int) < a.code.length) then !ptAt a.pts e else false) then !jmpTo a.code e else false) = false) : a.code.length ≤ e ∨ plB a.code a.pts (e : Int) = true := by
  rcases Nat.lt_or_ge e a.code.length with h0 | h0
  · right
    rw [decide_eq_true (show (e : Int) < a.code.length by omega)] at h
    show (jmpTo a.code e || ptAt a.pts e) = true
    cases h1 : jmpTo a.code e <;> cases h2 : ptAt a.pts e <;> simp_all
  · exact .inl h0
theorem step_pos {a b : An} (h : stepR a = some b) : 0 < b.code.length := by
  obtain ⟨j, _, _, h3, h4, _⟩ := stepF_some h
  subst h4
  have h2 : 1 ≤ (ruleA a j).2.length := (ruleR_ok h3).one
  simp only [splR, List.length_map, List.length_append]; omega
theorem wok_fold {a : An} {k : Nat} (hA : AOk a) (hr : 0 < (ruleA a k).1) : WOk ⟨a.pre, a.post, (cI a.code (ruleA a k).2 k (ruleA a k).1), a.pts⟩ (dI a.code.length k (ruleA a k).2.length (ruleA a k).1) := by
  have hk := rule_in hr
  have hok := ruleR_ok hr
  have hl1 : (ruleA a k).2.length < (ruleA a k).1 := hok.lt
  have hs : ∀ x ∈ sgt a.code a.pts k, instrB x = true := fun x hx => by
    obtain ⟨i, hi, rfl⟩ := List.getElem_of_mem hx
    have h1 := sgt_le (c := a.code) (ps := a.pts) (k := k)
    have := sgt_getD hi
    rw [getD_lt hi, getD_lt (by omega)] at this
    rw [this]; exact hA.code _ (List.getElem_mem _)
  have hcl : (cI a.code (ruleA a k).2 k (ruleA a k).1).length = a.code.length := cI_len (by omega)
  have hin : ∀ x, instrB x = true → -1000000 ≤ x.a ∧ x.a ≤ 1000000 ∧ (jmpB x = true → 0 ≤ x.a) := fun x hx => by
    have h1 := instr_a hx
    refine ⟨h1.1, h1.2, fun hj => ?_⟩
    simp only [jmpB, Bool.or_eq_true, decide_eq_true_eq] at hj
    unfold instrB at hx
    rw [if_neg (by omega), if_neg (by omega), if_pos hj] at hx
    simp only [inB, Bool.and_eq_true, decide_eq_true_eq] at hx; omega
  refine ⟨(dI_len hk (by omega)).trans hcl.symm, hcl ▸ hA.len, fun x hx => hin x ?_, hA.pts⟩
  simp only [cI, List.mem_append] at hx
  rcases hx with hx | hx | hx
  · exact hA.code x (List.mem_of_mem_take hx)
  · exact hok.ok hs x (List.mem_of_mem_take hx)
  · exact hA.code x (List.mem_of_mem_drop hx)
theorem c73v {L : Nat} (h1 : 4096 ≤ L) (h2 : L ≤ 1073741824) {a b : An} (hA : AOk a) (hs : stepR a = some b) : MC Try.prog L 21 [aAn a] [] (Rows (.tup [anRs b, eB true]) (anBs b)) := by
 refine MC.rows ?_
 have hσ := SGok (nt := 85) h1 (Nat.le_trans h2 (by decide))
 refine MC.body hσ Try.func21 (by kernel_rfl) rfl rfl (Nat.le_of_ble_eq_true rfl) (fun hF => ?_)
 have hl : a.code.length ≤ L := by simpa [As.fact, A.fact, M.fact, Ms.fact, D.fact, Ds.fact] using hF.1.2.2.1.1
 have h80 := hA.len
 refine AWP.seq ?_
 refine AWP.region ?_
 refine AOps.heap (HS.box hσ rfl rfl rfl rfl rfl rfl rfl) rfl ?_
 apply AOps.norm
 ·
  repeat' (first | exact HN.nil rfl | apply HN.cons rfl | exact BN.row rfl | exact BN.map rfl | apply BN.box rfl | exact MN.nil rfl | apply MN.cons rfl | exact XN.d rfl | exact XN.rs rfl | exact XN.self)
 refine AOps.to (Ent.freeze 1 (e' := [(1, _), (0, _)]) rfl (.cons rfl (.c (.box (cs := a.data) rfl (VMs.self rfl))) (.cons rfl (.keep rfl) .nil)) (.skip .nil)) ?_
 apply AOps.norm
 ·
  repeat' (first | exact HN.nil rfl | apply HN.cons rfl | exact BN.row rfl | exact BN.map rfl | apply BN.box rfl | exact MN.nil rfl | apply MN.cons rfl | exact XN.d rfl | exact XN.rs rfl | exact XN.self)
 refine AOps.forget [(1, _)] ⟨rfl, trivial⟩ ?_
 refine AOps.heap (HS.alloc hσ rfl rfl rfl rfl rfl) rfl ?_
 apply AOps.norm
 ·
  repeat' (first | exact HN.nil rfl | apply HN.cons rfl | exact BN.row rfl | exact BN.map rfl | apply BN.box rfl | exact MN.nil rfl | apply MN.cons rfl | exact XN.d rfl | exact XN.rs rfl | exact XN.self)
 refine AOps.step (Val.of hσ rfl rfl) rfl rfl rfl ?_
 refine AOps.nil ?_
 refine AWP.seq ?_
 refine AWP.seq ?_
 refine AWP.region ?_
 refine AOps.step (Val.of hσ rfl rfl) rfl rfl rfl ?_
 refine AOps.step (Val.of hσ rfl rfl) rfl rfl rfl ?_
 first | refine AOps.step (Val.lenD hσ rfl rfl rfl rfl rfl rfl rfl rfl) rfl rfl rfl ?_ | refine AOps.step (Val.of hσ rfl rfl) rfl rfl rfl ?_ | refine AOps.step (Val.vif hσ rfl rfl (by first | omega | (simp at *; omega))) rfl rfl rfl ?_
 refine AOps.step (Val.of hσ rfl rfl) rfl rfl rfl ?_
 refine AOps.forget [(14, _), (13, _), (3, _), (2, _), (1, _)] ⟨rfl, rfl, rfl, rfl, rfl, trivial⟩ ?_
 refine AOps.nil ?_
 refine AWP.block ?_
 refine AWP.loopP (X := Nat) (fun k => ⟨[(1, ptr a.data), (2, .c (.pt 2 0 0)), (13, eI a.code.length), (14, eI k)], [(2, .box [.d .nils, .d .nils, .d .nils, .d .nils])]⟩) (fun k => k ≤ a.code.length ∧ ∀ j, j < k → (ruleA a j).1 = 0) (fun k => a.code.length - k) 0 (Ent.to ⟨rfl, rfl, rfl, rfl, trivial⟩ rfl) ?_ (fun k hi => ?_)
 ·
  exact ⟨Nat.zero_le _, fun j hj => absurd hj (Nat.not_lt_zero j)⟩
 refine AWP.seq ?_
 refine AWP.region ?_
 refine AOps.step (Val.of hσ rfl rfl) rfl rfl rfl ?_
 refine AOps.nil ?_
 refine AWP.seq ?_
 refine AWP.cond hσ rfl rfl (fun hc15 => ?_) (fun hc15 => ?_)
 ·
  skip
  refine AWP.skip ?_
  refine AWP.seq ?_
  refine AWP.block ?_
  refine AWP.seq ?_
  refine AWP.region ?_
  have hk : k < a.code.length := by have := of_decide_eq_true hc15; omega
  have hk0 := hi
  refine AOps.step (Val.of hσ rfl rfl) rfl rfl rfl ?_
  refine AOps.step (Val.of hσ rfl rfl) rfl rfl rfl ?_
  refine AOps.nil ?_
  refine AWP.seq ?_
  refine AWP.region ?_
  refine AOps.step (Val.of hσ rfl rfl) rfl rfl rfl ?_
  refine AOps.step ((Val.fits64 hσ rfl rfl (by first | omega | (simp at *; omega)) (by first | omega | (simp at *; omega))).cast (v' := eI ((k + 1 : Nat) : Int)) (congrArg eI (by omega))) rfl rfl rfl ?_
  refine AOps.forget [(18, _), (4, _), (16, _), (15, _), (1, _), (2, _), (13, _), (14, _)] ⟨rfl, rfl, rfl, rfl, rfl, rfl, rfl, rfl, trivial⟩ ?_
  refine AOps.heap (HS.alloc hσ rfl rfl rfl rfl rfl) rfl ?_
  apply AOps.norm
  ·
   repeat' (first | exact HN.nil rfl | apply HN.cons rfl | exact BN.row rfl | exact BN.map rfl | apply BN.box rfl | exact MN.nil rfl | apply MN.cons rfl | exact XN.d rfl | exact XN.rs rfl | exact XN.self)
  refine AOps.heap (HS.storeBox hσ rfl rfl rfl rfl rfl rfl rfl rfl rfl rfl rfl) rfl ?_
  apply AOps.norm
  ·
   repeat' (first | exact HN.nil rfl | apply HN.cons rfl | exact BN.row rfl | exact BN.map rfl | apply BN.box rfl | exact MN.nil rfl | apply MN.cons rfl | exact XN.d rfl | exact XN.rs rfl | exact XN.self)
  refine AOps.nil ?_
  refine AWP.seq ?_
  refine AWP.block ?_
  refine AWP.loopP (X := Nat) (fun e => ⟨[(1, ptr a.data), (2, .c (.pt 2 0 0)), (13, eI a.code.length), (14, eI k), (4, eI k), (5, .c (.pt 5 0 0))], [(2, .box [.d .nils, .d .nils, .d .nils, .d .nils]), (5, .box [.d (.int .i64 (e : Nat))])]⟩) (fun e => k < e ∧ e ≤ a.code.length ∧ ∀ j, k < j → j < e → plB a.code a.pts (j : Int) = false) (fun e => a.code.length - e) (k + 1) (Ent.to ⟨rfl, rfl, rfl, rfl, rfl, rfl, trivial⟩ rfl) ?_ (fun e hi => ?_)
  ·
   exact ⟨Nat.lt_succ_self k, hk, fun j g1 g2 => absurd g2 (by omega)⟩
  refine AWP.seq ?_
  refine AWP.seq ?_
  refine AWP.mid ⟨[(36, eB (bif (bif decide ((e : Int) < a.code.length) then !ptAt a.pts e else false) then !jmpTo a.code e else false)), (1, ptr a.data), (2, .c (.pt 2 0 0)), (13, eI a.code.length), (14, eI k), (4, eI k), (5, .c (.pt 5 0 0))], [(2, .box [.d .nils, .d .nils, .d .nils, .d .nils]), (5, .box [.d (.int .i64 (e : Nat))])]⟩ ?_ ?_
  ·
   skip
   refine AWP.region ?_
   refine AOps.step (Val.of hσ rfl rfl) rfl rfl rfl ?_
   refine AOps.step (Val.of hσ rfl rfl) rfl rfl rfl ?_
   refine AOps.step (Val.of hσ rfl rfl) rfl rfl rfl ?_
   first | refine AOps.step (Val.lenD hσ rfl rfl rfl rfl rfl rfl rfl rfl) rfl rfl rfl ?_ | refine AOps.step (Val.of hσ rfl rfl) rfl rfl rfl ?_ | refine AOps.step (Val.vif hσ rfl rfl (by first | omega | (simp at *; omega))) rfl rfl rfl ?_
   refine AOps.step (Val.of hσ rfl rfl) rfl rfl rfl ?_
   cases hb24 : decide ((e : Int) < a.code.length) with
   | true =>
    refine AOps.step (Val.of hσ rfl rfl) rfl rfl rfl ?_
    refine AOps.forget [(24, _), (1, _), (2, _), (13, _), (14, _), (4, _), (5, _)] ⟨rfl, rfl, rfl, rfl, rfl, rfl, rfl, trivial⟩ ?_
    refine AOps.live rfl rfl rfl rfl rfl ?_
    refine AOps.step (Val.of hσ rfl rfl) rfl rfl rfl ?_
    refine AOps.live rfl rfl rfl rfl rfl ?_
    refine AOps.step (Val.of hσ rfl rfl) rfl rfl rfl ?_
    refine AOps.live rfl rfl rfl rfl rfl ?_
    refine AOps.lone hσ rfl rfl rfl rfl (c127 (a := a) (k := (e : Int)) h1 h2) (VAs.self rfl) rfl rfl rfl rfl rfl (B0 := 28000) rfl ?_
    refine AOps.forget [(27, _), (24, _), (1, _), (2, _), (13, _), (14, _), (4, _), (5, _)] ⟨rfl, rfl, rfl, rfl, rfl, rfl, rfl, rfl, trivial⟩ ?_
    refine AOps.live rfl rfl rfl rfl rfl ?_
    refine AOps.step ((Val.of hσ rfl rfl).cast (v' := eB (!ptAt a.pts e)) (congrArg eB ixF_neg)) rfl rfl rfl ?_
    refine AOps.step (Val.pickY hσ rfl rfl rfl rfl rfl) rfl rfl rfl ?_
    cases hb30 : (!ptAt a.pts e) with
    | true =>
     refine AOps.step (Val.of hσ rfl rfl) rfl rfl rfl ?_
     refine AOps.forget [(30, _), (1, _), (2, _), (13, _), (14, _), (4, _), (5, _)] ⟨rfl, rfl, rfl, rfl, rfl, rfl, rfl, trivial⟩ ?_
     refine AOps.live rfl rfl rfl rfl rfl ?_
     refine AOps.step (Val.of hσ rfl rfl) rfl rfl rfl ?_
     refine AOps.live rfl rfl rfl rfl rfl ?_
     refine AOps.step (Val.of hσ rfl rfl) rfl rfl rfl ?_
     refine AOps.forget [(32, _), (30, _), (1, _), (2, _), (13, _), (14, _), (4, _), (5, _)] ⟨rfl, rfl, rfl, rfl, rfl, rfl, rfl, rfl, trivial⟩ ?_
     refine AOps.live rfl rfl rfl rfl rfl ?_
     refine AOps.step (Val.of hσ rfl rfl) rfl rfl rfl ?_
     refine AOps.live rfl rfl rfl rfl rfl ?_
     refine AOps.lone hσ rfl rfl rfl rfl (c128j (c := a.code) (e := (e : Int)) h1 h2) (.cons (.c .d) (.cons (.c (.fn (.cons (.pb rfl (.cons .d .nil)) .nil))) .nil)) rfl rfl rfl rfl rfl (B0 := 35000) rfl ?_
     refine AOps.forget [(34, _), (30, _), (1, _), (2, _), (13, _), (14, _), (4, _), (5, _)] ⟨rfl, rfl, rfl, rfl, rfl, rfl, rfl, rfl, trivial⟩ ?_
     refine AOps.live rfl rfl rfl rfl rfl ?_
     refine AOps.step (Val.of hσ rfl rfl) rfl rfl rfl ?_
     refine AOps.step (Val.pickY hσ rfl rfl rfl rfl rfl) rfl rfl rfl ?_
     refine AOps.forget [(36, _), (1, _), (2, _), (13, _), (14, _), (4, _), (5, _)] ⟨rfl, rfl, rfl, rfl, rfl, rfl, rfl, trivial⟩ ?_
     refine AOps.nil ?_
     exact ⟨rfl, Ent.to ⟨rfl, rfl, rfl, rfl, rfl, rfl, rfl, trivial⟩ rfl⟩
    | false =>
     refine AOps.step (Val.of hσ rfl rfl) rfl rfl rfl ?_
     refine AOps.forget [(30, _), (1, _), (2, _), (13, _), (14, _), (4, _), (5, _)] ⟨rfl, rfl, rfl, rfl, rfl, rfl, rfl, trivial⟩ ?_
     refine AOps.skip rfl rfl rfl rfl rfl rfl ?_
     refine AOps.skip rfl rfl rfl rfl rfl rfl ?_
     refine AOps.forget [(32, _), (30, _), (1, _), (2, _), (13, _), (14, _), (4, _), (5, _)] ⟨rfl, rfl, rfl, rfl, rfl, rfl, rfl, rfl, trivial⟩ ?_
     refine AOps.skip rfl rfl rfl rfl rfl rfl ?_
     refine AOps.skip rfl rfl rfl rfl rfl rfl ?_
     refine AOps.forget [(34, _), (30, _), (1, _), (2, _), (13, _), (14, _), (4, _), (5, _)] ⟨rfl, rfl, rfl, rfl, rfl, rfl, rfl, rfl, trivial⟩ ?_
     refine AOps.skip rfl rfl rfl rfl rfl rfl ?_
     refine AOps.step (Val.pickN hσ rfl rfl rfl rfl rfl) rfl rfl rfl ?_
     refine AOps.forget [(36, _), (1, _), (2, _), (13, _), (14, _), (4, _), (5, _)] ⟨rfl, rfl, rfl, rfl, rfl, rfl, rfl, trivial⟩ ?_
     refine AOps.nil ?_
     exact ⟨rfl, Ent.to ⟨rfl, rfl, rfl, rfl, rfl, rfl, rfl, trivial⟩ rfl⟩
   | false =>
    refine AOps.step (Val.of hσ rfl rfl) rfl rfl rfl ?_
    refine AOps.forget [(24, _), (1, _), (2, _), (13, _), (14, _), (4, _), (5, _)] ⟨rfl, rfl, rfl, rfl, rfl, rfl, rfl, trivial⟩ ?_
    refine AOps.skip rfl rfl rfl rfl rfl rfl ?_
    refine AOps.skip rfl rfl rfl rfl rfl rfl ?_
    refine AOps.skip rfl rfl rfl rfl rfl rfl ?_
    refine AOps.forget [(27, _), (24, _), (1, _), (2, _), (13, _), (14, _), (4, _), (5, _)] ⟨rfl, rfl, rfl, rfl, rfl, rfl, rfl, rfl, trivial⟩ ?_
    refine AOps.skip rfl rfl rfl rfl rfl rfl ?_
    refine AOps.step (Val.pickN hσ rfl rfl rfl rfl rfl) rfl rfl rfl ?_
    refine AOps.step (Val.of hσ rfl rfl) rfl rfl rfl ?_
    refine AOps.forget [(30, _), (1, _), (2, _), (13, _), (14, _), (4, _), (5, _)] ⟨rfl, rfl, rfl, rfl, rfl, rfl, rfl, trivial⟩ ?_
    refine AOps.skip rfl rfl rfl rfl rfl rfl ?_
    refine AOps.skip rfl rfl rfl rfl rfl rfl ?_
    refine AOps.forget [(32, _), (30, _), (1, _), (2, _), (13, _), (14, _), (4, _), (5, _)] ⟨rfl, rfl, rfl, rfl, rfl, rfl, rfl, rfl, trivial⟩ ?_
    refine AOps.skip rfl rfl rfl rfl rfl rfl ?_
    refine AOps.skip rfl rfl rfl rfl rfl rfl ?_
    refine AOps.forget [(34, _), (30, _), (1, _), (2, _), (13, _), (14, _), (4, _), (5, _)] ⟨rfl, rfl, rfl, rfl, rfl, rfl, rfl, rfl, trivial⟩ ?_
    refine AOps.skip rfl rfl rfl rfl rfl rfl ?_
    refine AOps.step (Val.pickN hσ rfl rfl rfl rfl rfl) rfl rfl rfl ?_
    refine AOps.forget [(36, _), (1, _), (2, _), (13, _), (14, _), (4, _), (5, _)] ⟨rfl, rfl, rfl, rfl, rfl, rfl, rfl, trivial⟩ ?_
    refine AOps.nil ?_
    exact ⟨rfl, Ent.to ⟨rfl, rfl, rfl, rfl, rfl, rfl, rfl, trivial⟩ rfl⟩
  refine AWP.cond hσ rfl rfl (fun hc36 => ?_) (fun hc36 => ?_)
  ·
   skip
   refine AWP.skip ?_
   refine AWP.block ?_
   refine AWP.region ?_
   obtain ⟨h8, h7⟩ := andT hc36
   obtain ⟨h6, h9⟩ := andT h8
   have hen : e < a.code.length := by have := of_decide_eq_true h6; omega
   refine AOps.step (Val.of hσ rfl rfl) rfl rfl rfl ?_
   refine AOps.step ((Val.fits64 hσ rfl rfl (by first | omega | (simp at *; omega)) (by first | omega | (simp at *; omega))).cast (v' := eI ((e + 1 : Nat) : Int)) (congrArg eI (by omega))) rfl rfl rfl ?_
   refine AOps.forget [(38, _), (36, _), (1, _), (2, _), (13, _), (14, _), (4, _), (5, _)] ⟨rfl, rfl, rfl, rfl, rfl, rfl, rfl, rfl, trivial⟩ ?_
   refine AOps.heap (HS.storeBox hσ rfl rfl rfl rfl rfl rfl rfl rfl rfl rfl rfl) rfl ?_
   apply AOps.norm
   ·
    repeat' (first | exact HN.nil rfl | apply HN.cons rfl | exact BN.row rfl | exact BN.map rfl | apply BN.box rfl | exact MN.nil rfl | apply MN.cons rfl | exact XN.d rfl | exact XN.rs rfl | exact XN.self)
   refine AOps.nil ?_
   refine ⟨e + 1, Ent.to ⟨rfl, rfl, rfl, rfl, rfl, rfl, trivial⟩ rfl, ⟨by omega, hen, fun j g1 g2 => ?_⟩, by omega⟩
   by_cases e9 : j = e
   ·
    subst e9; show (jmpTo a.code j || ptAt a.pts j) = false; rw [notF h7, notF h9]; rfl
   ·
    exact hi.2.2 j g1 (by omega)
  ·
   skip
   refine AWP.exit ?_
   refine AWP.seq ?_
   refine AWP.region ?_
   have hsg : sgt a.code a.pts k = (a.code.drop k).take (e - k) := sgt_take hi.1 hi.2.1 hi.2.2 (end_pl hc36)
   have hsi : ∀ x ∈ sgt a.code a.pts k, instrB x = true := fun x hx => hA.code x (by rw [hsg] at hx; exact List.mem_of_mem_drop (List.mem_of_mem_take hx))
   refine AOps.step (Val.of hσ rfl rfl) rfl rfl rfl ?_
   refine AOps.step (Val.of hσ rfl rfl) rfl rfl rfl ?_
   refine AOps.step (Val.of hσ rfl rfl) rfl rfl rfl ?_
   refine AOps.step (Val.of hσ rfl rfl) rfl rfl rfl ?_
   refine AOps.step (Val.sliceD (sz := 2) (xs := a.code.map In.cells) (a := k) (b := e) (ys := (sgt a.code a.pts k).map In.cells) hσ rfl rfl rfl rfl rfl rfl rfl rfl rfl nat_i nat_i ⟨by omega, by rw [List.length_map]; exact hi.2.1⟩ (by rw [hsg, List.map_take, List.map_drop])) rfl rfl rfl ?_
   refine AOps.forget [(44, _), (36, _), (1, _), (2, _), (13, _), (14, _), (4, _), (5, _)] ⟨rfl, rfl, rfl, rfl, rfl, rfl, rfl, rfl, trivial⟩ ?_
   refine AOps.plainD hσ rfl rfl rfl rfl (c131 (s := sgt a.code a.pts k) h1 h2 (sgt_pos hk) hsi) (VAs.self rfl) rfl rfl rfl rfl (B0 := 46000) rfl rfl ?_
   refine AOps.step (Val.of hσ rfl rfl) rfl rfl rfl ?_
   refine AOps.step (Val.of hσ rfl rfl) rfl rfl rfl ?_
   refine AOps.step (Val.of hσ rfl rfl) rfl rfl rfl ?_
   refine AOps.step (Val.of hσ rfl rfl) rfl rfl rfl ?_
   refine AOps.step (Val.of hσ rfl rfl) rfl rfl rfl ?_
   refine AOps.forget [(7, _), (6, _), (36, _), (1, _), (2, _), (13, _), (14, _), (4, _), (5, _)] ⟨rfl, rfl, rfl, rfl, rfl, rfl, rfl, rfl, rfl, trivial⟩ ?_
   refine AOps.nil ?_
   refine AWP.seq ?_
   refine AWP.seq ?_
   refine AWP.region ?_
   refine AOps.step (Val.of hσ rfl rfl) rfl rfl rfl ?_
   refine AOps.step (Val.of hσ rfl rfl) rfl rfl rfl ?_
   refine AOps.nil ?_
   refine AWP.cond hσ rfl rfl (fun hc49 => ?_) (fun hc49 => ?_)
   ·
    skip
    refine AWP.exit ?_
    refine AWP.region ?_
    refine AOps.step ((Val.fits64 hσ rfl rfl (by first | omega | (simp at *; omega)) (by first | omega | (simp at *; omega))).cast (v' := eI ((k + 1 : Nat) : Int)) (congrArg eI (by omega))) rfl rfl rfl ?_
    refine AOps.step (Val.of hσ rfl rfl) rfl rfl rfl ?_
    refine AOps.nil ?_
    refine ⟨k + 1, (Ent.sel [2] (e' := [(1, _), (2, _), (13, _), (14, _)]) rfl rfl ⟨rfl, rfl, rfl, rfl, trivial⟩ rfl).trans (Ent.to ⟨rfl, rfl, rfl, rfl, trivial⟩ rfl), ⟨hk, fun j hj => ?_⟩, by omega⟩
    by_cases e9 : j = k
    ·
     subst e9; have : ((ruleA a j).1 : Int) = 0 := of_decide_eq_true hc49; omega
    ·
     exact hk0.2 j (by omega)
   ·
    skip
    refine AWP.skip ?_
    refine AWP.seq ?_
    refine AWP.region ?_
    have hr : 0 < (ruleA a k).1 := by have : ¬ ((ruleA a k).1 : Int) = 0 := of_decide_eq_false hc49; omega
    have hkn := rule_in hr
    have hmn : (ruleA a k).2.length < (ruleA a k).1 := (ruleR_ok hr).lt
    refine AOps.step (Val.of hσ rfl rfl) rfl rfl rfl ?_
    refine AOps.rows hσ (B0 := 52000) rfl rfl rfl rfl (c72 (a := a) h1 h2 (by omega) (by omega)) (VAs.self rfl) rfl rfl rfl rfl rfl rfl ?_
    apply AOps.norm
    ·
     repeat' (first | exact HN.nil rfl | apply HN.cons rfl | exact BN.row rfl | exact BN.map rfl | apply BN.box rfl | exact MN.nil rfl | apply MN.cons rfl | exact XN.d rfl | exact XN.rs rfl | exact XN.self)
    refine AOps.forget [(51, _), (49, _), (48, _), (7, _), (6, _), (36, _), (1, _), (2, _), (13, _), (14, _), (4, _), (5, _)] ⟨rfl, rfl, rfl, rfl, rfl, rfl, rfl, rfl, rfl, rfl, rfl, rfl, trivial⟩ ?_
    refine AOps.heap (HS.alloc hσ rfl rfl rfl rfl rfl) rfl ?_
    apply AOps.norm
    ·
     repeat' (first | exact HN.nil rfl | apply HN.cons rfl | exact BN.row rfl | exact BN.map rfl | apply BN.box rfl | exact MN.nil rfl | apply MN.cons rfl | exact XN.d rfl | exact XN.rs rfl | exact XN.self)
    refine AOps.heap (HS.storeBox hσ rfl rfl rfl rfl rfl rfl rfl rfl rfl rfl rfl) rfl ?_
    apply AOps.norm
    ·
     repeat' (first | exact HN.nil rfl | apply HN.cons rfl | exact BN.row rfl | exact BN.map rfl | apply BN.box rfl | exact MN.nil rfl | apply MN.cons rfl | exact XN.d rfl | exact XN.rs rfl | exact XN.self)
    refine AOps.nil ?_
    refine AWP.seq ?_
    refine AWP.region ?_
    refine AOps.step (Val.of hσ rfl rfl) rfl rfl rfl ?_
    refine AOps.step (Val.of hσ rfl rfl) rfl rfl rfl ?_
    first | refine AOps.step (Val.lenD hσ rfl rfl rfl rfl rfl rfl rfl rfl) rfl rfl rfl ?_ | refine AOps.step (Val.of hσ rfl rfl) rfl rfl rfl ?_ | refine AOps.step (Val.vif hσ rfl rfl (by first | omega | (simp at *; omega))) rfl rfl rfl ?_
    refine AOps.forget [(54, _), (8, _), (51, _), (49, _), (48, _), (7, _), (6, _), (36, _), (1, _), (2, _), (13, _), (14, _), (4, _), (5, _)] ⟨rfl, rfl, rfl, rfl, rfl, rfl, rfl, rfl, rfl, rfl, rfl, rfl, rfl, rfl, trivial⟩ ?_
    refine AOps.heap (HS.make hσ rfl rfl rfl rfl rfl rfl rfl rfl rfl (by first | omega | (simp at *; omega)) (by first | omega | (simp at *; omega)) (by first | omega | (simp at *; omega)) (by first | omega | (dsimp only; omega) | (simp at *; omega)) (by first | omega | (simp at *; omega)) rfl rfl rfl) rfl ?_
    apply AOps.norm
    ·
     repeat' (first | exact HN.nil rfl | apply HN.cons rfl | exact BN.row rfl | exact BN.map rfl | apply BN.box rfl | exact MN.nil rfl | apply MN.cons rfl | exact XN.d rfl | exact XN.rs rfl | exact XN.self)
    refine AOps.step (Val.of hσ rfl rfl) rfl rfl rfl ?_
    refine AOps.forget [(9, _), (8, _), (51, _), (49, _), (48, _), (7, _), (6, _), (36, _), (1, _), (2, _), (13, _), (14, _), (4, _), (5, _)] ⟨rfl, rfl, rfl, rfl, rfl, rfl, rfl, rfl, rfl, rfl, rfl, rfl, rfl, rfl, trivial⟩ ?_
    refine AOps.nil ?_
    refine AWP.seq ?_
    refine AWP.seq ?_
    refine AWP.region ?_
    refine AOps.step (Val.of hσ rfl rfl) rfl rfl rfl ?_
    refine AOps.step (Val.of hσ rfl rfl) rfl rfl rfl ?_
    refine AOps.nil ?_
    refine AWP.block ?_
    refine AWP.loopP (X := Nat) (fun i => ⟨[(2, .c (.pt 2 0 0)), (4, eI k), (6, eI (ruleA a k).1), (7, ains (ruleA a k).2), (8, .c (.pt 8 0 0)), (9, .c (.rs 55 0 a.code.length)), (56, eI (ruleA a k).1), (57, eI i)], [(2, .box [.d .nils, .d .nils, .d .nils, .d .nils]), (8, .box [.rs 52000 0 a.pre.length, .rs 52001 0 a.post.length, .rs 52002 0 a.code.length, .rs 52003 0 a.pts.length]), (55, brow (dI a.code.length k (ruleA a k).2.length i)), (52000, trow a.pre), (52001, trow a.post), (52002, irow (cI a.code (ruleA a k).2 k i)), (52003, prow a.pts)]⟩) (fun i => i ≤ (ruleA a k).1) (fun i => (ruleA a k).1 - i) 0 ((Ent.sel [2, 8, 55, 52000, 52001, 52002, 52003] (e' := [(2, _), (4, _), (6, _), (7, _), (8, _), (9, _), (56, _), (57, _)]) rfl rfl ⟨rfl, rfl, rfl, rfl, rfl, rfl, rfl, rfl, trivial⟩ rfl).trans (Ent.to ⟨rfl, rfl, rfl, rfl, rfl, rfl, rfl, rfl, trivial⟩ (by rw [cI_zero, dI_zero (by omega), brow, List.map_replicate]; rfl))) ?_ (fun i hi => ?_)
    ·
     exact Nat.zero_le _
    refine AWP.seq ?_
    refine AWP.region ?_
    refine AOps.step (Val.of hσ rfl rfl) rfl rfl rfl ?_
    refine AOps.nil ?_
    refine AWP.seq ?_
    refine AWP.cond hσ rfl rfl (fun hc58 => ?_) (fun hc58 => ?_)
    ·
     skip
     refine AWP.skip ?_
     refine AWP.seq ?_
     refine AWP.block ?_
     refine AWP.seq ?_
     refine AWP.region ?_
     have hin : i < (ruleA a k).1 := by have := of_decide_eq_true hc58; omega
     refine AOps.step (Val.of hσ rfl rfl) rfl rfl rfl ?_
     refine AOps.step (Val.of hσ rfl rfl) rfl rfl rfl ?_
     refine AOps.nil ?_
     refine AWP.seq ?_
     refine AWP.region ?_
     refine AOps.step (Val.of hσ rfl rfl) rfl rfl rfl ?_
     refine AOps.step (Val.of hσ rfl rfl) rfl rfl rfl ?_
     first | refine AOps.step (Val.lenD hσ rfl rfl rfl rfl rfl rfl rfl rfl) rfl rfl rfl ?_ | refine AOps.step (Val.of hσ rfl rfl) rfl rfl rfl ?_ | refine AOps.step (Val.vif hσ rfl rfl (by first | omega | (simp at *; omega))) rfl rfl rfl ?_
     refine AOps.step (Val.of hσ rfl rfl) rfl rfl rfl ?_
     refine AOps.forget [(63, _), (10, _), (59, _), (58, _), (2, _), (4, _), (6, _), (7, _), (8, _), (9, _), (56, _), (57, _)] ⟨rfl, rfl, rfl, rfl, rfl, rfl, rfl, rfl, rfl, rfl, rfl, rfl, trivial⟩ ?_
     refine AOps.nil ?_
     refine AWP.cond hσ rfl rfl (fun hc63 => ?_) (fun hc63 => ?_)
     ·
      skip
      refine AWP.drawR hσ _ [_, _, _, _, _, _, _, _, _, _, _] [⟨[], 0, 0, none⟩, ⟨[0], 0, 0, none⟩, ⟨[], 0, 0, none⟩, ⟨[], 0, 0, none⟩, ⟨[2, 3], 0, 0, none⟩, ⟨[], 0, 0, none⟩, ⟨[], 0, 0, none⟩, ⟨[5, 6], 0, 0, none⟩, ⟨[5, 6, 7], 0, 0, none⟩, ⟨[0, 1, 2, 3, 4, 5, 6, 7, 8], 0, 0, none⟩, ⟨[0, 1, 2, 3, 4, 5, 6, 7, 8, 9], 0, 0, some 0⟩] [10] [_, _] rfl rfl (by decide) (by decide) (by kernel_rfl) (And.intro (Val.of hσ rfl rfl) (And.intro (Val.of hσ rfl rfl) (And.intro (Val.of hσ rfl rfl) (And.intro (Val.of hσ rfl rfl) (And.intro ((Val.fits64 hσ rfl rfl (by first | omega | (simp at *; omega)) (by first | omega | (simp at *; omega))).cast (v' := eI ((k + i : Nat) : Int)) (congrArg eI (by omega))) (And.intro (Val.of hσ rfl rfl) (And.intro (Val.of hσ rfl rfl) (And.intro (Val.indexN hσ rfl rfl rfl rfl rfl rfl rfl rfl (idxN (by have := of_decide_eq_true hc63; omega))) (And.intro (Val.of hσ rfl rfl) (And.intro (Val.vif hσ rfl rfl (by first | omega | (simp at *; omega))) (And.intro (Eff.storeRow (ex := In.cells ((cI a.code (ruleA a k).2 k i).getD (k + i) default)) (xs' := (cI a.code (ruleA a k).2 k (i + 1)).map In.cells) hσ rfl rfl rfl rfl rfl rfl rfl rfl rfl rfl rfl rfl rfl rfl rfl (getj (by rw [cI_len (by omega)]; omega) (by omega)) ((setj (v := (ruleA a k).2.getD i default) (by omega) rfl).trans (congrArg (List.map In.cells) (cI_set (by have := of_decide_eq_true hc63; omega) (by omega)))) rfl) trivial))))))))))) ?_
      refine AWP.forget [(63, _), (10, _), (59, _), (58, _), (2, _), (4, _), (6, _), (7, _), (8, _), (9, _), (56, _), (57, _)] ⟨rfl, rfl, rfl, rfl, rfl, rfl, rfl, rfl, rfl, rfl, rfl, rfl, trivial⟩ ?_
      apply AWP.norm
      ·
       repeat' (first | exact HN.nil rfl | apply HN.cons rfl | exact BN.row rfl | exact BN.map rfl | apply BN.box rfl | exact MN.nil rfl | apply MN.cons rfl | exact XN.d rfl | exact XN.rs rfl | exact XN.self)
      refine AWP.region ?_
      first | refine AOps.step (Val.fits64 hσ rfl rfl (by first | omega | (simp at *; omega)) (by first | omega | (simp at *; omega))) rfl rfl rfl ?_ | refine AOps.step (Val.vif hσ rfl rfl (by first | omega | (simp at *; omega))) rfl rfl rfl ?_
      refine AOps.step (Val.of hσ rfl rfl) rfl rfl rfl ?_
      refine AOps.nil ?_
      have h9 : (dI a.code.length k (ruleA a k).2.length (i + 1)) = (dI a.code.length k (ruleA a k).2.length i) := dI_same (by have := of_decide_eq_true hc63; omega)
      refine ⟨i + 1, Ent.to ⟨rfl, rfl, rfl, rfl, rfl, rfl, rfl, rfl, trivial⟩ (by rw [h9]; try rfl), by omega, by omega⟩
     ·
      skip
      refine AWP.region ?_
      refine AOps.step (Val.of hσ rfl rfl) rfl rfl rfl ?_
      refine AOps.step (Val.of hσ rfl rfl) rfl rfl rfl ?_
      refine AOps.step (Val.of hσ rfl rfl) rfl rfl rfl ?_
      refine AOps.step ((Val.fits64 hσ rfl rfl (by first | omega | (simp at *; omega)) (by first | omega | (simp at *; omega))).cast (v' := eI ((k + i : Nat) : Int)) (congrArg eI (by omega))) rfl rfl rfl ?_
      first | refine AOps.step (Val.indexN hσ rfl rfl rfl rfl rfl rfl rfl rfl (idxN (by first | omega | (simp at *; omega)))) rfl rfl rfl ?_ | refine AOps.step (Val.indexD hσ rfl rfl rfl rfl rfl rfl rfl rfl (by first | omega | (simp at *; omega)) (idx_get (by first | omega | (simp at *; omega)) (by first | omega | (simp at *; omega)))) rfl rfl rfl ?_ | refine AOps.step (Val.vif hσ rfl rfl (by first | omega | (simp at *; omega))) rfl rfl rfl ?_
      refine AOps.forget [(78, _), (63, _), (10, _), (59, _), (58, _), (2, _), (4, _), (6, _), (7, _), (8, _), (9, _), (56, _), (57, _)] ⟨rfl, rfl, rfl, rfl, rfl, rfl, rfl, rfl, rfl, rfl, rfl, rfl, rfl, trivial⟩ ?_
      refine AOps.heap (HS.storeRow (ex := bL ((dI a.code.length k (ruleA a k).2.length i).getD (k + i) default)) (xs' := (dI a.code.length k (ruleA a k).2.length (i + 1)).map bL) hσ rfl rfl rfl rfl rfl rfl rfl rfl rfl rfl rfl rfl rfl rfl (getj (by rw [dI_len (by omega) (by omega)]; omega) (by omega)) ((setj (v := true) (by omega) rfl).trans (congrArg (List.map bL) (dI_set (by have := of_decide_eq_false hc63; omega) (by omega))))) rfl ?_
      apply AOps.norm
      ·
       repeat' (first | exact HN.nil rfl | apply HN.cons rfl | exact BN.row rfl | exact BN.map rfl | apply BN.box rfl | exact MN.nil rfl | apply MN.cons rfl | exact XN.d rfl | exact XN.rs rfl | exact XN.self)
      apply AOps.norm
      ·
       repeat' (first | exact HN.nil rfl | apply HN.cons rfl | exact BN.row rfl | exact BN.map rfl | apply BN.box rfl | exact MN.nil rfl | apply MN.cons rfl | exact XN.d rfl | exact XN.rs rfl | exact XN.self)
      refine AOps.nil ?_
      refine AWP.region ?_
      first | refine AOps.step (Val.fits64 hσ rfl rfl (by first | omega | (simp at *; omega)) (by first | omega | (simp at *; omega))) rfl rfl rfl ?_ | refine AOps.step (Val.vif hσ rfl rfl (by first | omega | (simp at *; omega))) rfl rfl rfl ?_
      refine AOps.step (Val.of hσ rfl rfl) rfl rfl rfl ?_
      refine AOps.nil ?_
      have h9 : (cI a.code (ruleA a k).2 k (i + 1)) = (cI a.code (ruleA a k).2 k i) := cI_same (by have := of_decide_eq_false hc63; omega)
      refine ⟨i + 1, Ent.to ⟨rfl, rfl, rfl, rfl, rfl, rfl, rfl, rfl, trivial⟩ (by rw [h9]; try rfl), by omega, by omega⟩
    ·
     skip
     refine AWP.exit ?_
     refine AWP.seq ?_
     refine AWP.region ?_
     obtain rfl : i = (ruleA a k).1 := by have := of_decide_eq_false hc58; omega
     refine AOps.step (Val.of hσ rfl rfl) rfl rfl rfl ?_
     refine AOps.step (Val.of hσ rfl rfl) rfl rfl rfl ?_
     refine AOps.rows hσ (B0 := 83000) rfl rfl rfl rfl (c132 (a := ⟨a.pre, a.post, (cI a.code (ruleA a k).2 k (ruleA a k).1), a.pts⟩) (d := (dI a.code.length k (ruleA a k).2.length (ruleA a k).1)) h1 h2 (wok_fold hA hr)) (.cons (.agg (.cons (.whole rfl (List.length_map _).symm) (.cons (.whole rfl (List.length_map _).symm) (.cons (.whole rfl (by rw [List.length_map, cI_len (by omega)])) (.cons (.whole rfl (List.length_map _).symm) .nil))))) (.cons (.c (.whole rfl (by rw [List.length_map, dI_len (by omega) (by omega)]))) .nil)) rfl rfl rfl rfl rfl rfl ?_
     apply AOps.norm
     ·
      repeat' (first | exact HN.nil rfl | apply HN.cons rfl | exact BN.row rfl | exact BN.map rfl | apply BN.box rfl | exact MN.nil rfl | apply MN.cons rfl | exact XN.d rfl | exact XN.rs rfl | exact XN.self)
     refine AOps.forget [(82, _), (58, _), (2, _), (4, _), (6, _), (7, _), (8, _), (9, _), (56, _), (57, _)] ⟨rfl, rfl, rfl, rfl, rfl, rfl, rfl, rfl, rfl, rfl, trivial⟩ ?_
     refine AOps.heap (HS.storeBox hσ rfl rfl rfl rfl rfl rfl rfl rfl rfl rfl rfl) rfl ?_
     apply AOps.norm
     ·
      repeat' (first | exact HN.nil rfl | apply HN.cons rfl | exact BN.row rfl | exact BN.map rfl | apply BN.box rfl | exact MN.nil rfl | apply MN.cons rfl | exact XN.d rfl | exact XN.rs rfl | exact XN.self)
     refine AOps.step (Val.of hσ rfl rfl) rfl rfl rfl ?_
     refine AOps.nil ?_
     refine AWP.ret ?_
     have hb9 : b = splR a k (ruleA a k).1 (ruleA a k).2 := Option.some.inj (hs.symm.trans (stepR_at hk hr hk0.2))
     rw [hb9, ← without_spl hA hr]
     refine ⟨.inl rfl, _, Ent.refl, _, rfl, [83000, 83001, 83002, 83003], by decide, rfl, rfl, rfl⟩
 ·
  skip
  exact absurd (hs.symm.trans (stepR_no fun j hj => hi.2 j (by have := of_decide_eq_false hc15; omega))) (by simp)
theorem c73o {L : Nat} (h1 : 4096 ≤ L) (h2 : L ≤ 1073741824) {a : An} (hA : AOk a) (hs : stepR a = none) : MC Try.prog L 21 [aAn a] [] (Plain (.tup [aAn a, eB false])) := by
 refine MC.data ?_
 have hσ := SGok (nt := 85) h1 (Nat.le_trans h2 (by decide))
 refine MC.body hσ Try.func21 (by kernel_rfl) rfl rfl (Nat.le_of_ble_eq_true rfl) (fun hF => ?_)
 have hl : a.code.length ≤ L := by simpa [As.fact, A.fact, M.fact, Ms.fact, D.fact, Ds.fact] using hF.1.2.2.1.1
 have h80 := hA.len
 refine AWP.seq ?_
 refine AWP.region ?_
 refine AOps.heap (HS.box hσ rfl rfl rfl rfl rfl rfl rfl) rfl ?_
 apply AOps.norm
 ·
  repeat' (first | exact HN.nil rfl | apply HN.cons rfl | exact BN.row rfl | exact BN.map rfl | apply BN.box rfl | exact MN.nil rfl | apply MN.cons rfl | exact XN.d rfl | exact XN.rs rfl | exact XN.self)
 refine AOps.to (Ent.freeze 1 (e' := [(1, _), (0, _)]) rfl (.cons rfl (.c (.box (cs := a.data) rfl (VMs.self rfl))) (.cons rfl (.keep rfl) .nil)) (.skip .nil)) ?_
 apply AOps.norm
 ·
  repeat' (first | exact HN.nil rfl | apply HN.cons rfl | exact BN.row rfl | exact BN.map rfl | apply BN.box rfl | exact MN.nil rfl | apply MN.cons rfl | exact XN.d rfl | exact XN.rs rfl | exact XN.self)
 refine AOps.forget [(1, _)] ⟨rfl, trivial⟩ ?_
 refine AOps.heap (HS.alloc hσ rfl rfl rfl rfl rfl) rfl ?_
 apply AOps.norm
 ·
  repeat' (first | exact HN.nil rfl | apply HN.cons rfl | exact BN.row rfl | exact BN.map rfl | apply BN.box rfl | exact MN.nil rfl | apply MN.cons rfl | exact XN.d rfl | exact XN.rs rfl | exact XN.self)
 refine AOps.step (Val.of hσ rfl rfl) rfl rfl rfl ?_
 refine AOps.nil ?_
 refine AWP.seq ?_
 refine AWP.seq ?_
 refine AWP.region ?_
 refine AOps.step (Val.of hσ rfl rfl) rfl rfl rfl ?_
 refine AOps.step (Val.of hσ rfl rfl) rfl rfl rfl ?_
 first | refine AOps.step (Val.lenD hσ rfl rfl rfl rfl rfl rfl rfl rfl) rfl rfl rfl ?_ | refine AOps.step (Val.of hσ rfl rfl) rfl rfl rfl ?_ | refine AOps.step (Val.vif hσ rfl rfl (by first | omega | (simp at *; omega))) rfl rfl rfl ?_
 refine AOps.step (Val.of hσ rfl rfl) rfl rfl rfl ?_
 refine AOps.forget [(14, _), (13, _), (3, _), (2, _), (1, _)] ⟨rfl, rfl, rfl, rfl, rfl, trivial⟩ ?_
 refine AOps.nil ?_
 refine AWP.block ?_
 refine AWP.loopP (X := Nat) (fun k => ⟨[(1, ptr a.data), (2, .c (.pt 2 0 0)), (13, eI a.code.length), (14, eI k)], [(2, .box [.d .nils, .d .nils, .d .nils, .d .nils])]⟩) (fun k => k ≤ a.code.length ∧ ∀ j, j < k → (ruleA a j).1 = 0) (fun k => a.code.length - k) 0 (Ent.to ⟨rfl, rfl, rfl, rfl, trivial⟩ rfl) ?_ (fun k hi => ?_)
 ·
  exact ⟨Nat.zero_le _, fun j hj => absurd hj (Nat.not_lt_zero j)⟩
 refine AWP.seq ?_
 refine AWP.region ?_
 refine AOps.step (Val.of hσ rfl rfl) rfl rfl rfl ?_
 refine AOps.nil ?_
 refine AWP.seq ?_
 refine AWP.cond hσ rfl rfl (fun hc15 => ?_) (fun hc15 => ?_)
 ·
  skip
  refine AWP.skip ?_
  refine AWP.seq ?_
  refine AWP.block ?_
  refine AWP.seq ?_
  refine AWP.region ?_
  have hk : k < a.code.length := by have := of_decide_eq_true hc15; omega
  have hk0 := hi
  refine AOps.step (Val.of hσ rfl rfl) rfl rfl rfl ?_
  refine AOps.step (Val.of hσ rfl rfl) rfl rfl rfl ?_
  refine AOps.nil ?_
  refine AWP.seq ?_
  refine AWP.region ?_
  refine AOps.step (Val.of hσ rfl rfl) rfl rfl rfl ?_
  refine AOps.step ((Val.fits64 hσ rfl rfl (by first | omega | (simp at *; omega)) (by first | omega | (simp at *; omega))).cast (v' := eI ((k + 1 : Nat) : Int)) (congrArg eI (by omega))) rfl rfl rfl ?_
  refine AOps.forget [(18, _), (4, _), (16, _), (15, _), (1, _), (2, _), (13, _), (14, _)] ⟨rfl, rfl, rfl, rfl, rfl, rfl, rfl, rfl, trivial⟩ ?_
  refine AOps.heap (HS.alloc hσ rfl rfl rfl rfl rfl) rfl ?_
  apply AOps.norm
  ·
   repeat' (first | exact HN.nil rfl | apply HN.cons rfl | exact BN.row rfl | exact BN.map rfl | apply BN.box rfl | exact MN.nil rfl | apply MN.cons rfl | exact XN.d rfl | exact XN.rs rfl | exact XN.self)
  refine AOps.heap (HS.storeBox hσ rfl rfl rfl rfl rfl rfl rfl rfl rfl rfl rfl) rfl ?_
  apply AOps.norm
  ·
   repeat' (first | exact HN.nil rfl | apply HN.cons rfl | exact BN.row rfl | exact BN.map rfl | apply BN.box rfl | exact MN.nil rfl | apply MN.cons rfl | exact XN.d rfl | exact XN.rs rfl | exact XN.self)
  refine AOps.nil ?_
  refine AWP.seq ?_
  refine AWP.block ?_
  refine AWP.loopP (X := Nat) (fun e => ⟨[(1, ptr a.data), (2, .c (.pt 2 0 0)), (13, eI a.code.length), (14, eI k), (4, eI k), (5, .c (.pt 5 0 0))], [(2, .box [.d .nils, .d .nils, .d .nils, .d .nils]), (5, .box [.d (.int .i64 (e : Nat))])]⟩) (fun e => k < e ∧ e ≤ a.code.length ∧ ∀ j, k < j → j < e → plB a.code a.pts (j : Int) = false) (fun e => a.code.length - e) (k + 1) (Ent.to ⟨rfl, rfl, rfl, rfl, rfl, rfl, trivial⟩ rfl) ?_ (fun e hi => ?_)
  ·
   exact ⟨Nat.lt_succ_self k, hk, fun j g1 g2 => absurd g2 (by omega)⟩
  refine AWP.seq ?_
  refine AWP.seq ?_
  refine AWP.mid ⟨[(36, eB (bif (bif decide ((e : Int) < a.code.length) then !ptAt a.pts e else false) then !jmpTo a.code e else false)), (1, ptr a.data), (2, .c (.pt 2 0 0)), (13, eI a.code.length), (14, eI k), (4, eI k), (5, .c (.pt 5 0 0))], [(2, .box [.d .nils, .d .nils, .d .nils, .d .nils]), (5, .box [.d (.int .i64 (e : Nat))])]⟩ ?_ ?_
  ·
   skip
   refine AWP.region ?_
   refine AOps.step (Val.of hσ rfl rfl) rfl rfl rfl ?_
   refine AOps.step (Val.of hσ rfl rfl) rfl rfl rfl ?_
   refine AOps.step (Val.of hσ rfl rfl) rfl rfl rfl ?_
   first | refine AOps.step (Val.lenD hσ rfl rfl rfl rfl rfl rfl rfl rfl) rfl rfl rfl ?_ | refine AOps.step (Val.of hσ rfl rfl) rfl rfl rfl ?_ | refine AOps.step (Val.vif hσ rfl rfl (by first | omega | (simp at *; omega))) rfl rfl rfl ?_
   refine AOps.step (Val.of hσ rfl rfl) rfl rfl rfl ?_
   cases hb24 : decide ((e : Int) < a.code.length) with
   | true =>
    refine AOps.step (Val.of hσ rfl rfl) rfl rfl rfl ?_
    refine AOps.forget [(24, _), (1, _), (2, _), (13, _), (14, _), (4, _), (5, _)] ⟨rfl, rfl, rfl, rfl, rfl, rfl, rfl, trivial⟩ ?_
    refine AOps.live rfl rfl rfl rfl rfl ?_
    refine AOps.step (Val.of hσ rfl rfl) rfl rfl rfl ?_
    refine AOps.live rfl rfl rfl rfl rfl ?_
    refine AOps.step (Val.of hσ rfl rfl) rfl rfl rfl ?_
    refine AOps.live rfl rfl rfl rfl rfl ?_
    refine AOps.lone hσ rfl rfl rfl rfl (c127 (a := a) (k := (e : Int)) h1 h2) (VAs.self rfl) rfl rfl rfl rfl rfl (B0 := 28000) rfl ?_
    refine AOps.forget [(27, _), (24, _), (1, _), (2, _), (13, _), (14, _), (4, _), (5, _)] ⟨rfl, rfl, rfl, rfl, rfl, rfl, rfl, rfl, trivial⟩ ?_
    refine AOps.live rfl rfl rfl rfl rfl ?_
    refine AOps.step ((Val.of hσ rfl rfl).cast (v' := eB (!ptAt a.pts e)) (congrArg eB ixF_neg)) rfl rfl rfl ?_
    refine AOps.step (Val.pickY hσ rfl rfl rfl rfl rfl) rfl rfl rfl ?_
    cases hb30 : (!ptAt a.pts e) with
    | true =>
     refine AOps.step (Val.of hσ rfl rfl) rfl rfl rfl ?_
     refine AOps.forget [(30, _), (1, _), (2, _), (13, _), (14, _), (4, _), (5, _)] ⟨rfl, rfl, rfl, rfl, rfl, rfl, rfl, trivial⟩ ?_
     refine AOps.live rfl rfl rfl rfl rfl ?_
     refine AOps.step (Val.of hσ rfl rfl) rfl rfl rfl ?_
     refine AOps.live rfl rfl rfl rfl rfl ?_
     refine AOps.step (Val.of hσ rfl rfl) rfl rfl rfl ?_
     refine AOps.forget [(32, _), (30, _), (1, _), (2, _), (13, _), (14, _), (4, _), (5, _)] ⟨rfl, rfl, rfl, rfl, rfl, rfl, rfl, rfl, trivial⟩ ?_
     refine AOps.live rfl rfl rfl rfl rfl ?_
     refine AOps.step (Val.of hσ rfl rfl) rfl rfl rfl ?_
     refine AOps.live rfl rfl rfl rfl rfl ?_
     refine AOps.lone hσ rfl rfl rfl rfl (c128j (c := a.code) (e := (e : Int)) h1 h2) (.cons (.c .d) (.cons (.c (.fn (.cons (.pb rfl (.cons .d .nil)) .nil))) .nil)) rfl rfl rfl rfl rfl (B0 := 35000) rfl ?_
     refine AOps.forget [(34, _), (30, _), (1, _), (2, _), (13, _), (14, _), (4, _), (5, _)] ⟨rfl, rfl, rfl, rfl, rfl, rfl, rfl, rfl, trivial⟩ ?_
     refine AOps.live rfl rfl rfl rfl rfl ?_
     refine AOps.step (Val.of hσ rfl rfl) rfl rfl rfl ?_
     refine AOps.step (Val.pickY hσ rfl rfl rfl rfl rfl) rfl rfl rfl ?_
     refine AOps.forget [(36, _), (1, _), (2, _), (13, _), (14, _), (4, _), (5, _)] ⟨rfl, rfl, rfl, rfl, rfl, rfl, rfl, trivial⟩ ?_
     refine AOps.nil ?_
     exact ⟨rfl, Ent.to ⟨rfl, rfl, rfl, rfl, rfl, rfl, rfl, trivial⟩ rfl⟩
    | false =>
     refine AOps.step (Val.of hσ rfl rfl) rfl rfl rfl ?_
     refine AOps.forget [(30, _), (1, _), (2, _), (13, _), (14, _), (4, _), (5, _)] ⟨rfl, rfl, rfl, rfl, rfl, rfl, rfl, trivial⟩ ?_
     refine AOps.skip rfl rfl rfl rfl rfl rfl ?_
     refine AOps.skip rfl rfl rfl rfl rfl rfl ?_
     refine AOps.forget [(32, _), (30, _), (1, _), (2, _), (13, _), (14, _), (4, _), (5, _)] ⟨rfl, rfl, rfl, rfl, rfl, rfl, rfl, rfl, trivial⟩ ?_
     refine AOps.skip rfl rfl rfl rfl rfl rfl ?_
     refine AOps.skip rfl rfl rfl rfl rfl rfl ?_
     refine AOps.forget [(34, _), (30, _), (1, _), (2, _), (13, _), (14, _), (4, _), (5, _)] ⟨rfl, rfl, rfl, rfl, rfl, rfl, rfl, rfl, trivial⟩ ?_
     refine AOps.skip rfl rfl rfl rfl rfl rfl ?_
     refine AOps.step (Val.pickN hσ rfl rfl rfl rfl rfl) rfl rfl rfl ?_
     refine AOps.forget [(36, _), (1, _), (2, _), (13, _), (14, _), (4, _), (5, _)] ⟨rfl, rfl, rfl, rfl, rfl, rfl, rfl, trivial⟩ ?_
     refine AOps.nil ?_
     exact ⟨rfl, Ent.to ⟨rfl, rfl, rfl, rfl, rfl, rfl, rfl, trivial⟩ rfl⟩
   | false =>
    refine AOps.step (Val.of hσ rfl rfl) rfl rfl rfl ?_
    refine AOps.forget [(24, _), (1, _), (2, _), (13, _), (14, _), (4, _), (5, _)] ⟨rfl, rfl, rfl, rfl, rfl, rfl, rfl, trivial⟩ ?_
    refine AOps.skip rfl rfl rfl rfl rfl rfl ?_
    refine AOps.skip rfl rfl rfl rfl rfl rfl ?_
    refine AOps.skip rfl rfl rfl rfl rfl rfl ?_
    refine AOps.forget [(27, _), (24, _), (1, _), (2, _), (13, _), (14, _), (4, _), (5, _)] ⟨rfl, rfl, rfl, rfl, rfl, rfl, rfl, rfl, trivial⟩ ?_
    refine AOps.skip rfl rfl rfl rfl rfl rfl ?_
    refine AOps.step (Val.pickN hσ rfl rfl rfl rfl rfl) rfl rfl rfl ?_
    refine AOps.step (Val.of hσ rfl rfl) rfl rfl rfl ?_
    refine AOps.forget [(30, _), (1, _), (2, _), (13, _), (14, _), (4, _), (5, _)] ⟨rfl, rfl, rfl, rfl, rfl, rfl, rfl, trivial⟩ ?_
    refine AOps.skip rfl rfl rfl rfl rfl rfl ?_
    refine AOps.skip rfl rfl rfl rfl rfl rfl ?_
    refine AOps.forget [(32, _), (30, _), (1, _), (2, _), (13, _), (14, _), (4, _), (5, _)] ⟨rfl, rfl, rfl, rfl, rfl, rfl, rfl, rfl, trivial⟩ ?_
    refine AOps.skip rfl rfl rfl rfl rfl rfl ?_
    refine AOps.skip rfl rfl rfl rfl rfl rfl ?_
    refine AOps.forget [(34, _), (30, _), (1, _), (2, _), (13, _), (14, _), (4, _), (5, _)] ⟨rfl, rfl, rfl, rfl, rfl, rfl, rfl, rfl, trivial⟩ ?_
    refine AOps.skip rfl rfl rfl rfl rfl rfl ?_
    refine AOps.step (Val.pickN hσ rfl rfl rfl rfl rfl) rfl rfl rfl ?_
    refine AOps.forget [(36, _), (1, _), (2, _), (13, _), (14, _), (4, _), (5, _)] ⟨rfl, rfl, rfl, rfl, rfl, rfl, rfl, trivial⟩ ?_
    refine AOps.nil ?_
    exact ⟨rfl, Ent.to ⟨rfl, rfl, rfl, rfl, rfl, rfl, rfl, trivial⟩ rfl⟩
  refine AWP.cond hσ rfl rfl (fun hc36 => ?_) (fun hc36 => ?_)
  ·
   skip
   refine AWP.skip ?_
   refine AWP.block ?_
   refine AWP.region ?_
   obtain ⟨h8, h7⟩ := andT hc36
   obtain ⟨h6, h9⟩ := andT h8
   have hen : e < a.code.length := by have := of_decide_eq_true h6; omega
   refine AOps.step (Val.of hσ rfl rfl) rfl rfl rfl ?_
   refine AOps.step ((Val.fits64 hσ rfl rfl (by first | omega | (simp at *; omega)) (by first | omega | (simp at *; omega))).cast (v' := eI ((e + 1 : Nat) : Int)) (congrArg eI (by omega))) rfl rfl rfl ?_
   refine AOps.forget [(38, _), (36, _), (1, _), (2, _), (13, _), (14, _), (4, _), (5, _)] ⟨rfl, rfl, rfl, rfl, rfl, rfl, rfl, rfl, trivial⟩ ?_
   refine AOps.heap (HS.storeBox hσ rfl rfl rfl rfl rfl rfl rfl rfl rfl rfl rfl) rfl ?_
   apply AOps.norm
   ·
    repeat' (first | exact HN.nil rfl | apply HN.cons rfl | exact BN.row rfl | exact BN.map rfl | apply BN.box rfl | exact MN.nil rfl | apply MN.cons rfl | exact XN.d rfl | exact XN.rs rfl | exact XN.self)
   refine AOps.nil ?_
   refine ⟨e + 1, Ent.to ⟨rfl, rfl, rfl, rfl, rfl, rfl, trivial⟩ rfl, ⟨by omega, hen, fun j g1 g2 => ?_⟩, by omega⟩
   by_cases e9 : j = e
   ·
    subst e9; show (jmpTo a.code j || ptAt a.pts j) = false; rw [notF h7, notF h9]; rfl
   ·
    exact hi.2.2 j g1 (by omega)
  ·
   skip
   refine AWP.exit ?_
   refine AWP.seq ?_
   refine AWP.region ?_
   have hsg : sgt a.code a.pts k = (a.code.drop k).take (e - k) := sgt_take hi.1 hi.2.1 hi.2.2 (end_pl hc36)
   have hsi : ∀ x ∈ sgt a.code a.pts k, instrB x = true := fun x hx => hA.code x (by rw [hsg] at hx; exact List.mem_of_mem_drop (List.mem_of_mem_take hx))
   refine AOps.step (Val.of hσ rfl rfl) rfl rfl rfl ?_
   refine AOps.step (Val.of hσ rfl rfl) rfl rfl rfl ?_
   refine AOps.step (Val.of hσ rfl rfl) rfl rfl rfl ?_
   refine AOps.step (Val.of hσ rfl rfl) rfl rfl rfl ?_
   refine AOps.step (Val.sliceD (sz := 2) (xs := a.code.map In.cells) (a := k) (b := e) (ys := (sgt a.code a.pts k).map In.cells) hσ rfl rfl rfl rfl rfl rfl rfl rfl rfl nat_i nat_i ⟨by omega, by rw [List.length_map]; exact hi.2.1⟩ (by rw [hsg, List.map_take, List.map_drop])) rfl rfl rfl ?_
   refine AOps.forget [(44, _), (36, _), (1, _), (2, _), (13, _), (14, _), (4, _), (5, _)] ⟨rfl, rfl, rfl, rfl, rfl, rfl, rfl, rfl, trivial⟩ ?_
   refine AOps.plainD hσ rfl rfl rfl rfl (c131 (s := sgt a.code a.pts k) h1 h2 (sgt_pos hk) hsi) (VAs.self rfl) rfl rfl rfl rfl (B0 := 46000) rfl rfl ?_
   refine AOps.step (Val.of hσ rfl rfl) rfl rfl rfl ?_
   refine AOps.step (Val.of hσ rfl rfl) rfl rfl rfl ?_
   refine AOps.step (Val.of hσ rfl rfl) rfl rfl rfl ?_
   refine AOps.step (Val.of hσ rfl rfl) rfl rfl rfl ?_
   refine AOps.step (Val.of hσ rfl rfl) rfl rfl rfl ?_
   refine AOps.forget [(7, _), (6, _), (36, _), (1, _), (2, _), (13, _), (14, _), (4, _), (5, _)] ⟨rfl, rfl, rfl, rfl, rfl, rfl, rfl, rfl, rfl, trivial⟩ ?_
   refine AOps.nil ?_
   refine AWP.seq ?_
   refine AWP.seq ?_
   refine AWP.region ?_
   refine AOps.step (Val.of hσ rfl rfl) rfl rfl rfl ?_
   refine AOps.step (Val.of hσ rfl rfl) rfl rfl rfl ?_
   refine AOps.nil ?_
   refine AWP.cond hσ rfl rfl (fun hc49 => ?_) (fun hc49 => ?_)
   ·
    skip
    refine AWP.exit ?_
    refine AWP.region ?_
    refine AOps.step ((Val.fits64 hσ rfl rfl (by first | omega | (simp at *; omega)) (by first | omega | (simp at *; omega))).cast (v' := eI ((k + 1 : Nat) : Int)) (congrArg eI (by omega))) rfl rfl rfl ?_
    refine AOps.step (Val.of hσ rfl rfl) rfl rfl rfl ?_
    refine AOps.nil ?_
    refine ⟨k + 1, (Ent.sel [2] (e' := [(1, _), (2, _), (13, _), (14, _)]) rfl rfl ⟨rfl, rfl, rfl, rfl, trivial⟩ rfl).trans (Ent.to ⟨rfl, rfl, rfl, rfl, trivial⟩ rfl), ⟨hk, fun j hj => ?_⟩, by omega⟩
    by_cases e9 : j = k
    ·
     subst e9; have : ((ruleA a j).1 : Int) = 0 := of_decide_eq_true hc49; omega
    ·
     exact hk0.2 j (by omega)
   ·
    skip
    exact absurd (hs.symm.trans (stepR_at hk (by have : ¬ ((ruleA a k).1 : Int) = 0 := of_decide_eq_false hc49; omega) hk0.2)) (by simp)
 ·
  skip
  refine AWP.exit ?_
  refine AWP.seq ?_
  refine AWP.region ?_
  refine AOps.step (Val.of hσ rfl rfl) rfl rfl rfl ?_
  refine AOps.heap (HS.storeBox hσ rfl rfl rfl rfl rfl rfl rfl rfl rfl rfl rfl) rfl ?_
  apply AOps.norm
  ·
   repeat' (first | exact HN.nil rfl | apply HN.cons rfl | exact BN.row rfl | exact BN.map rfl | apply BN.box rfl | exact MN.nil rfl | apply MN.cons rfl | exact XN.d rfl | exact XN.rs rfl | exact XN.self)
  refine AOps.step (Val.of hσ rfl rfl) rfl rfl rfl ?_
  refine AOps.nil ?_
  refine AWP.ret ?_
  refine ⟨.inl rfl, _, Ent.refl, _, rfl, ?_⟩
  exact .tup (.cons (.agg (VMs.self rfl)) (.cons (.c .d) .nil))
theorem c73n {L : Nat} (h1 : 4096 ≤ L) (h2 : L ≤ 1073741824) {a : An} (hA : AOk a) (hs : stepR a = none) : MC Try.prog L 21 [aAn a] [] (Rows (.tup [.agg [.junk, .junk, .junk, .junk], eB false]) []) := (c73o h1 h2 hA hs).weak fun h => RA.junked (ms := a.data.map .d) h
theorem c25v {L : Nat} (h1 : 4096 ≤ L) (h2 : L ≤ 1073741824) {a : An} (hv : annB a = true) : MC Try.prog L 7 [aAn a] [] (Rows (.tup [anRs (foldR a), eB true]) (anBs (foldR a))) := by
 refine MC.rows ?_
 have hσ := SGok (nt := 22) h1 (Nat.le_trans h2 (by decide))
 refine MC.body hσ Try.func7 (by kernel_rfl) rfl rfl (Nat.le_of_ble_eq_true rfl) (fun hF => ?_)
 have hA := annB_ok hv
 have hlc := codeB_len (show codeB a.code = true by unfold annB at hv; simp only [Bool.and_eq_true] at hv; exact hv.1)
 refine AWP.seq ?_
 refine AWP.region ?_
 refine AOps.heap (HS.box hσ rfl rfl rfl rfl rfl rfl rfl) rfl ?_
 apply AOps.norm
 ·
  repeat' (first | exact HN.nil rfl | apply HN.cons rfl | exact BN.row rfl | exact BN.map rfl | apply BN.box rfl | exact MN.nil rfl | apply MN.cons rfl | exact XN.d rfl | exact XN.rs rfl | exact XN.self)
 refine AOps.to (Ent.freeze 1 (e' := [(1, _), (0, _)]) rfl (.cons rfl (.c (.box (cs := a.data) rfl (VMs.self rfl))) (.cons rfl (.keep rfl) .nil)) (.skip .nil)) ?_
 apply AOps.norm
 ·
  repeat' (first | exact HN.nil rfl | apply HN.cons rfl | exact BN.row rfl | exact BN.map rfl | apply BN.box rfl | exact MN.nil rfl | apply MN.cons rfl | exact XN.d rfl | exact XN.rs rfl | exact XN.self)
 refine AOps.forget [(1, _)] ⟨rfl, trivial⟩ ?_
 refine AOps.heap (HS.alloc hσ rfl rfl rfl rfl rfl) rfl ?_
 apply AOps.norm
 ·
  repeat' (first | exact HN.nil rfl | apply HN.cons rfl | exact BN.row rfl | exact BN.map rfl | apply BN.box rfl | exact MN.nil rfl | apply MN.cons rfl | exact XN.d rfl | exact XN.rs rfl | exact XN.self)
 refine AOps.step (Val.of hσ rfl rfl) rfl rfl rfl ?_
 refine AOps.nil ?_
 refine AWP.seq ?_
 refine AWP.seq ?_
 refine AWP.region ?_
 refine AOps.step (Val.of hσ rfl rfl) rfl rfl rfl ?_
 refine AOps.lone hσ rfl rfl rfl rfl ((c71 (a := a) h1 h2).plain (u := eB true) (by rw [hv])) (VAs.self rfl) rfl rfl rfl rfl rfl (B0 := 9000) rfl ?_
 refine AOps.step (Val.of hσ rfl rfl) rfl rfl rfl ?_
 refine AOps.forget [(9, _), (3, _), (2, _), (1, _)] ⟨rfl, rfl, rfl, rfl, trivial⟩ ?_
 refine AOps.nil ?_
 refine AWP.cond hσ rfl rfl (fun hc9 => ?_) (fun hc9 => ?_)
 ·
  skip
  cases hc9
 ·
  skip
  refine AWP.skip ?_
  refine AWP.seq ?_
  refine AWP.region ?_
  refine AOps.step (Val.of hσ rfl rfl) rfl rfl rfl ?_
  refine AOps.forget [(11, _), (3, _), (2, _), (1, _)] ⟨rfl, rfl, rfl, rfl, trivial⟩ ?_
  refine AOps.rows hσ (B0 := 13000) rfl rfl rfl rfl (c72 (a := a) h1 h2 (by omega) (by omega)) (VAs.self rfl) rfl rfl rfl rfl rfl rfl ?_
  apply AOps.norm
  ·
   repeat' (first | exact HN.nil rfl | apply HN.cons rfl | exact BN.row rfl | exact BN.map rfl | apply BN.box rfl | exact MN.nil rfl | apply MN.cons rfl | exact XN.d rfl | exact XN.rs rfl | exact XN.self)
  refine AOps.forget [(12, _), (3, _), (2, _), (1, _)] ⟨rfl, rfl, rfl, rfl, trivial⟩ ?_
  refine AOps.heap (HS.alloc hσ rfl rfl rfl rfl rfl) rfl ?_
  apply AOps.norm
  ·
   repeat' (first | exact HN.nil rfl | apply HN.cons rfl | exact BN.row rfl | exact BN.map rfl | apply BN.box rfl | exact MN.nil rfl | apply MN.cons rfl | exact XN.d rfl | exact XN.rs rfl | exact XN.self)
  refine AOps.heap (HS.storeBox hσ rfl rfl rfl rfl rfl rfl rfl rfl rfl rfl rfl) rfl ?_
  apply AOps.norm
  ·
   repeat' (first | exact HN.nil rfl | apply HN.cons rfl | exact BN.row rfl | exact BN.map rfl | apply BN.box rfl | exact MN.nil rfl | apply MN.cons rfl | exact XN.d rfl | exact XN.rs rfl | exact XN.self)
  refine AOps.nil ?_
  refine AWP.block ?_
  refine AWP.loopP (X := An) (fun x => ⟨[(2, .c (.pt 2 0 0)), (4, .c (.pt 4 0 0))], [(2, .box [.d .nils, .d .nils, .d .nils, .d .nils]), (4, .box [.rs 901 0 x.pre.length, .rs 902 0 x.post.length, .rs 903 0 x.code.length, .rs 904 0 x.pts.length]), (901, trow x.pre), (902, trow x.post), (903, irow x.code), (904, prow x.pts)]⟩) (fun x => Gn a x ∧ 0 < x.code.length) (fun x => x.code.length) a ((((((Ent.sel [2, 4, 13000, 13001, 13002, 13003] (e' := [(2, _), (4, _)]) rfl rfl ⟨rfl, rfl, trivial⟩ rfl).trans (Ent.sub2 13000 901 rfl rfl)).trans (Ent.sub2 13001 902 rfl rfl)).trans (Ent.sub2 13002 903 rfl rfl)).trans (Ent.sub2 13003 904 rfl rfl)).trans (Ent.to ⟨rfl, rfl, trivial⟩ rfl)) ?_ (fun x hi => ?_)
  ·
   exact ⟨Gn.zero hA, by omega⟩
  refine AWP.block ?_
  refine AWP.seq ?_
  refine AWP.region ?_
  refine AOps.step (Val.of hσ rfl rfl) rfl rfl rfl ?_
  cases hb15 : (stepR x).isSome with
  | true =>
   obtain ⟨b, hs⟩ := Option.isSome_iff_exists.1 hb15
   first | refine AOps.rows hσ (B0 := 16000) rfl rfl rfl rfl (c73v (a := x) (b := b) h1 h2 hi.1.ok hs) (.cons (.agg (.cons (.whole rfl (List.length_map _).symm) (.cons (.whole rfl (List.length_map _).symm) (.cons (.whole rfl (List.length_map _).symm) (.cons (.whole rfl (List.length_map _).symm) .nil))))) .nil) rfl rfl rfl rfl rfl rfl ?_ | refine AOps.rows hσ (B0 := 16000) rfl rfl rfl rfl (c73n (a := x) h1 h2 hi.1.ok hs) (.cons (.agg (.cons (.whole rfl (List.length_map _).symm) (.cons (.whole rfl (List.length_map _).symm) (.cons (.whole rfl (List.length_map _).symm) (.cons (.whole rfl (List.length_map _).symm) .nil))))) .nil) rfl rfl rfl rfl rfl rfl ?_
   apply AOps.norm
   ·
    repeat' (first | exact HN.nil rfl | apply HN.cons rfl | exact BN.row rfl | exact BN.map rfl | apply BN.box rfl | exact MN.nil rfl | apply MN.cons rfl | exact XN.d rfl | exact XN.rs rfl | exact XN.self)
   refine AOps.step (Val.of hσ rfl rfl) rfl rfl rfl ?_
   refine AOps.step (Val.of hσ rfl rfl) rfl rfl rfl ?_
   refine AOps.step (Val.of hσ rfl rfl) rfl rfl rfl ?_
   refine AOps.forget [(17, _), (16, _), (2, _), (4, _)] ⟨rfl, rfl, rfl, rfl, trivial⟩ ?_
   refine AOps.heap (HS.alloc hσ rfl rfl rfl rfl rfl) rfl ?_
   apply AOps.norm
   ·
    repeat' (first | exact HN.nil rfl | apply HN.cons rfl | exact BN.row rfl | exact BN.map rfl | apply BN.box rfl | exact MN.nil rfl | apply MN.cons rfl | exact XN.d rfl | exact XN.rs rfl | exact XN.self)
   refine AOps.heap (HS.storeBox hσ rfl rfl rfl rfl rfl rfl rfl rfl rfl rfl rfl) rfl ?_
   apply AOps.norm
   ·
    repeat' (first | exact HN.nil rfl | apply HN.cons rfl | exact BN.row rfl | exact BN.map rfl | apply BN.box rfl | exact MN.nil rfl | apply MN.cons rfl | exact XN.d rfl | exact XN.rs rfl | exact XN.self)
   refine AOps.step (Val.of hσ rfl rfl) rfl rfl rfl ?_
   refine AOps.forget [(6, _), (5, _), (2, _), (4, _)] ⟨rfl, rfl, rfl, rfl, trivial⟩ ?_
   refine AOps.nil ?_
   refine AWP.seq ?_
   refine AWP.seq ?_
   refine AWP.region ?_
   refine AOps.step (Val.of hσ rfl rfl) rfl rfl rfl ?_
   refine AOps.step (Val.of hσ rfl rfl) rfl rfl rfl ?_
   refine AOps.forget [(19, _), (5, _), (2, _), (4, _)] ⟨rfl, rfl, rfl, rfl, trivial⟩ ?_
   refine AOps.nil ?_
   refine AWP.cond hσ rfl rfl (fun hc19 => ?_) (fun hc19 => ?_)
   ·
    skip
    cases hc19
   ·
    skip
    refine AWP.skip ?_
    refine AWP.region ?_
    refine AOps.step (Val.of hσ rfl rfl) rfl rfl rfl ?_
    refine AOps.heap (HS.storeBox hσ rfl rfl rfl rfl rfl rfl rfl rfl rfl rfl rfl) rfl ?_
    apply AOps.norm
    ·
     repeat' (first | exact HN.nil rfl | apply HN.cons rfl | exact BN.row rfl | exact BN.map rfl | apply BN.box rfl | exact MN.nil rfl | apply MN.cons rfl | exact XN.d rfl | exact XN.rs rfl | exact XN.self)
    refine AOps.nil ?_
    have hst := hi.1.step hs
    refine ⟨b, (((((Ent.sel [2, 4, 16000, 16001, 16002, 16003] (e' := [(2, _), (4, _)]) rfl rfl ⟨rfl, rfl, trivial⟩ rfl).trans (Ent.sub2 16000 901 rfl rfl)).trans (Ent.sub2 16001 902 rfl rfl)).trans (Ent.sub2 16002 903 rfl rfl)).trans (Ent.sub2 16003 904 rfl rfl)).trans (Ent.to ⟨rfl, rfl, trivial⟩ rfl), ⟨hst.1, step_pos hs⟩, hst.2⟩
  | false =>
   have hs : stepR x = none := by simpa using hb15
   first | refine AOps.rows hσ (B0 := 16000) rfl rfl rfl rfl (c73v (a := x) (b := b) h1 h2 hi.1.ok hs) (.cons (.agg (.cons (.whole rfl (List.length_map _).symm) (.cons (.whole rfl (List.length_map _).symm) (.cons (.whole rfl (List.length_map _).symm) (.cons (.whole rfl (List.length_map _).symm) .nil))))) .nil) rfl rfl rfl rfl rfl rfl ?_ | refine AOps.rows hσ (B0 := 16000) rfl rfl rfl rfl (c73n (a := x) h1 h2 hi.1.ok hs) (.cons (.agg (.cons (.whole rfl (List.length_map _).symm) (.cons (.whole rfl (List.length_map _).symm) (.cons (.whole rfl (List.length_map _).symm) (.cons (.whole rfl (List.length_map _).symm) .nil))))) .nil) rfl rfl rfl rfl rfl rfl ?_
   apply AOps.norm
   ·
    repeat' (first | exact HN.nil rfl | apply HN.cons rfl | exact BN.row rfl | exact BN.map rfl | apply BN.box rfl | exact MN.nil rfl | apply MN.cons rfl | exact XN.d rfl | exact XN.rs rfl | exact XN.self)
   refine AOps.step (Val.of hσ rfl rfl) rfl rfl rfl ?_
   refine AOps.step (Val.of hσ rfl rfl) rfl rfl rfl ?_
   refine AOps.step (Val.of hσ rfl rfl) rfl rfl rfl ?_
   refine AOps.forget [(17, _), (16, _), (2, _), (4, _)] ⟨rfl, rfl, rfl, rfl, trivial⟩ ?_
   refine AOps.heap (HS.alloc hσ rfl rfl rfl rfl rfl) rfl ?_
   apply AOps.norm
   ·
    repeat' (first | exact HN.nil rfl | apply HN.cons rfl | exact BN.row rfl | exact BN.map rfl | apply BN.box rfl | exact MN.nil rfl | apply MN.cons rfl | exact XN.d rfl | exact XN.rs rfl | exact XN.self)
   refine AOps.heap (HS.storeBox hσ rfl rfl rfl rfl rfl rfl rfl rfl rfl rfl rfl) rfl ?_
   apply AOps.norm
   ·
    repeat' (first | exact HN.nil rfl | apply HN.cons rfl | exact BN.row rfl | exact BN.map rfl | apply BN.box rfl | exact MN.nil rfl | apply MN.cons rfl | exact XN.d rfl | exact XN.rs rfl | exact XN.self)
   refine AOps.step (Val.of hσ rfl rfl) rfl rfl rfl ?_
   refine AOps.forget [(6, _), (5, _), (2, _), (4, _)] ⟨rfl, rfl, rfl, rfl, trivial⟩ ?_
   refine AOps.nil ?_
   refine AWP.seq ?_
   refine AWP.seq ?_
   refine AWP.region ?_
   refine AOps.step (Val.of hσ rfl rfl) rfl rfl rfl ?_
   refine AOps.step (Val.of hσ rfl rfl) rfl rfl rfl ?_
   refine AOps.forget [(19, _), (5, _), (2, _), (4, _)] ⟨rfl, rfl, rfl, rfl, trivial⟩ ?_
   refine AOps.nil ?_
   refine AWP.cond hσ rfl rfl (fun hc19 => ?_) (fun hc19 => ?_)
   ·
    skip
    refine AWP.seq ?_
    refine AWP.region ?_
    refine AOps.step (Val.of hσ rfl rfl) rfl rfl rfl ?_
    refine AOps.heap (HS.storeBox hσ rfl rfl rfl rfl rfl rfl rfl rfl rfl rfl rfl) rfl ?_
    apply AOps.norm
    ·
     repeat' (first | exact HN.nil rfl | apply HN.cons rfl | exact BN.row rfl | exact BN.map rfl | apply BN.box rfl | exact MN.nil rfl | apply MN.cons rfl | exact XN.d rfl | exact XN.rs rfl | exact XN.self)
    refine AOps.step (Val.of hσ rfl rfl) rfl rfl rfl ?_
    refine AOps.nil ?_
    refine AWP.ret ?_
    rw [show foldR a = x from hi.1.done hs]
    refine ⟨.inl rfl, _, Ent.refl, _, rfl, [901, 902, 903, 904], by decide, rfl, rfl, rfl⟩
   ·
    skip
    cases hc19
theorem c25n {L : Nat} (h1 : 4096 ≤ L) (h2 : L ≤ 1073741824) {a : An} (hv : annB a = false) : MC Try.prog L 7 [aAn a] [] (Rows (.tup [.agg [.d .nils, .d .nils, .d .nils, .d .nils], eB false]) []) := by
 refine MC.rows ?_
 have hσ := SGok (nt := 22) h1 (Nat.le_trans h2 (by decide))
 refine MC.body hσ Try.func7 (by kernel_rfl) rfl rfl (Nat.le_of_ble_eq_true rfl) (fun hF => ?_)
 refine AWP.seq ?_
 refine AWP.region ?_
 refine AOps.heap (HS.box hσ rfl rfl rfl rfl rfl rfl rfl) rfl ?_
 apply AOps.norm
 ·
  repeat' (first | exact HN.nil rfl | apply HN.cons rfl | exact BN.row rfl | exact BN.map rfl | apply BN.box rfl | exact MN.nil rfl | apply MN.cons rfl | exact XN.d rfl | exact XN.rs rfl | exact XN.self)
 refine AOps.to (Ent.freeze 1 (e' := [(1, _), (0, _)]) rfl (.cons rfl (.c (.box (cs := a.data) rfl (VMs.self rfl))) (.cons rfl (.keep rfl) .nil)) (.skip .nil)) ?_
 apply AOps.norm
 ·
  repeat' (first | exact HN.nil rfl | apply HN.cons rfl | exact BN.row rfl | exact BN.map rfl | apply BN.box rfl | exact MN.nil rfl | apply MN.cons rfl | exact XN.d rfl | exact XN.rs rfl | exact XN.self)
 refine AOps.forget [(1, _)] ⟨rfl, trivial⟩ ?_
 refine AOps.heap (HS.alloc hσ rfl rfl rfl rfl rfl) rfl ?_
 apply AOps.norm
 ·
  repeat' (first | exact HN.nil rfl | apply HN.cons rfl | exact BN.row rfl | exact BN.map rfl | apply BN.box rfl | exact MN.nil rfl | apply MN.cons rfl | exact XN.d rfl | exact XN.rs rfl | exact XN.self)
 refine AOps.step (Val.of hσ rfl rfl) rfl rfl rfl ?_
 refine AOps.nil ?_
 refine AWP.seq ?_
 refine AWP.seq ?_
 refine AWP.region ?_
 refine AOps.step (Val.of hσ rfl rfl) rfl rfl rfl ?_
 refine AOps.lone hσ rfl rfl rfl rfl ((c71 (a := a) h1 h2).plain (u := eB false) (by rw [hv])) (VAs.self rfl) rfl rfl rfl rfl rfl (B0 := 9000) rfl ?_
 refine AOps.step (Val.of hσ rfl rfl) rfl rfl rfl ?_
 refine AOps.forget [(9, _), (3, _), (2, _), (1, _)] ⟨rfl, rfl, rfl, rfl, trivial⟩ ?_
 refine AOps.nil ?_
 refine AWP.cond hσ rfl rfl (fun hc9 => ?_) (fun hc9 => ?_)
 ·
  skip
  refine AWP.seq ?_
  refine AWP.region ?_
  refine AOps.step (Val.of hσ rfl rfl) rfl rfl rfl ?_
  refine AOps.forget [(10, _), (3, _), (2, _), (1, _)] ⟨rfl, rfl, rfl, rfl, trivial⟩ ?_
  refine AOps.heap (HS.storeBox hσ rfl rfl rfl rfl rfl rfl rfl rfl rfl rfl rfl) rfl ?_
  apply AOps.norm
  ·
   repeat' (first | exact HN.nil rfl | apply HN.cons rfl | exact BN.row rfl | exact BN.map rfl | apply BN.box rfl | exact MN.nil rfl | apply MN.cons rfl | exact XN.d rfl | exact XN.rs rfl | exact XN.self)
  refine AOps.step (Val.of hσ rfl rfl) rfl rfl rfl ?_
  refine AOps.nil ?_
  refine AWP.ret ?_
  refine ⟨.inl rfl, _, Ent.refl, _, rfl, [], by decide, rfl, rfl, rfl⟩
 ·
  skip
  cases hc9
end Go.Al
