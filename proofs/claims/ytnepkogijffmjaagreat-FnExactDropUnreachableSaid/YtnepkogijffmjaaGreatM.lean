/- Instructions that are left out; code in which instructions have been replaced. -/
import Derived.Test.YtnepkogijffmjaaGreatL
namespace Go.Al
open Go.Proofs
set_option linter.unusedVariables false
set_option linter.unusedSimpArgs false
set_option maxRecDepth 10000
/-! What the program's folding comes to, and that it is the reference's. -/
abbrev cntT (d : List Bool) (n : Nat) : Nat := (d.take n).count true
def lessI (d : List Bool) (x : In) : In := if jmpB x = true then ⟨x.op, x.a - cntT d x.a.toNat⟩ else x
def lessP (d : List Bool) (p : Pt) : Pt := ⟨p.k - cntT d p.k.toNat, p.fs⟩
def keepL : List Bool → List In → List In
  | b :: d, x :: c => if b = true then keepL d c else x :: keepL d c
  | _, _ => []
def withoutR (d : List Bool) (a : An) : An := ⟨a.pre, a.post, (keepL d a.code).map (lessI d), a.pts.map (lessP d)⟩
theorem keepL_append : ∀ {d1 d2 : List Bool} {c1 c2 : List In}, d1.length = c1.length → keepL (d1 ++ d2) (c1 ++ c2) = keepL d1 c1 ++ keepL d2 c2
  | [], d2, [], c2, _ => rfl
  | [], _, _ :: _, _, h => by simp at h
  | _ :: _, _, [], _, h => by simp at h
  | b :: d1, d2, x :: c1, c2, h => by
    have := keepL_append (d1 := d1) (d2 := d2) (c1 := c1) (c2 := c2) (by simpa using h)
    simp only [List.cons_append, keepL]
    split
    · exact this
    · rw [this]; rfl
theorem keepL_false : ∀ {n : Nat} {c : List In}, n = c.length → keepL (List.replicate n false) c = c
  | 0, [], _ => rfl
  | 0, _ :: _, h => by simp at h
  | n + 1, [], h => by simp at h
  | n + 1, x :: c, h => by rw [List.replicate_succ, keepL, if_neg (by decide), keepL_false (by simpa using h)]
theorem keepL_succ {d : List Bool} {c : List In} {i : Nat} (h1 : i < d.length) (h2 : i < c.length) :
    keepL (d.take (i + 1)) (c.take (i + 1)) = keepL (d.take i) (c.take i) ++ (if d.getD i default = true then [] else [c.getD i default]) := by
  rw [List.take_succ_eq_append_getElem h1, List.take_succ_eq_append_getElem h2, keepL_append (by simp; omega), getD_lt h1, getD_lt h2]
  simp only [keepL]
theorem keepL_len : ∀ {d : List Bool} {c : List In}, (keepL d c).length ≤ c.length
  | [], _ => by simp [keepL]
  | _ :: _, [] => by simp [keepL]
  | b :: d, x :: c => by
    have := keepL_len (d := d) (c := c)
    rw [keepL]; split <;> simp <;> omega
theorem cntT_succ {d : List Bool} {i : Nat} (h : i < d.length) : cntT d (i + 1) = cntT d i + (if d.getD i default = true then 1 else 0) := by
  rw [cntT, List.take_succ_eq_append_getElem h, List.count_append, getD_lt h]
  cases d[i] <;> rfl
theorem cntT_le {d : List Bool} {i : Nat} : cntT d i ≤ i := by
  have h1 := List.count_le_length (a := true) (l := d.take i)
  rw [List.length_take] at h1; show List.count true (d.take i) ≤ i; omega
theorem cntT_len {d : List Bool} {i : Nat} : cntT d i ≤ d.length := by
  have h1 := List.count_le_length (a := true) (l := d.take i)
  rw [List.length_take] at h1; show List.count true (d.take i) ≤ d.length; omega
/-- The states of the loop that lays the new instructions. -/
def cI (c by' : List In) (k i : Nat) : List In := c.take k ++ (by'.take i ++ c.drop (k + min i by'.length))
def dI (N k m i : Nat) : List Bool := List.replicate (k + m) false ++ (List.replicate (i - m) true ++ List.replicate (N - k - max i m) false)
/-- The reference's loop: a state that is folded on. -/
structure Fo (a out : An) (k : Nat) : Prop where
  le : k ≤ out.code.length
  eq : foldR out = foldR a
  ok : AOk out
  no : ∀ j, j < k → (ruleA out j).1 = 0
/-- The program's loop. -/
structure Gn (a out : An) : Prop where
  eq : foldR out = foldR a
  ok : AOk out
end Go.Al
namespace Go.Al
open Go.Proofs
set_option linter.unusedVariables false
set_option linter.unusedSimpArgs false
set_option maxRecDepth 10000
set_option maxHeartbeats 4000000
theorem jmp_cond {x : In} {k l : Int} (h : (bif jmpB x then decide (k < x.a) else false) = true) : sMap k l x = ⟨x.op, x.a - l⟩ := by
  obtain ⟨h1, h2⟩ := andT h
  unfold sMap; rw [if_pos ⟨h1, of_decide_eq_true h2⟩]
theorem jmp_cond' {x : In} {k l : Int} (h : (bif jmpB x then decide (k < x.a) else false) = false) : sMap k l x = x := by
  unfold sMap; rw [if_neg (fun c => by rw [c.1, decide_eq_true c.2] at h; cases h)]
theorem c121 {L : Nat} (h1 : 4096 ≤ L) (h2 : L ≤ 1073741824) {a : An} {k n : Nat} {b : List In} (hkn : k + n ≤ a.code.length) (h80 : a.code.length ≤ 80) (hbn : b.length ≤ n) (hx : ∀ x ∈ newC a k n b, -1000000 ≤ x.a ∧ x.a ≤ 1000000) (hp : ∀ p ∈ a.pts, 0 ≤ p.k ∧ p.k ≤ 79) : MC Tryz.prog L 72 [ptr a.data, eI k, eI n, ains b] [] (Rows (anRs (splR a k n b)) [trow a.pre, trow a.post, irow (splR a k n b).code, prow (splR a k n b).pts]) := by
 refine MC.rows ?_
 have hσ := SGok (nt := 101) h1 (Nat.le_trans h2 (by decide))
 refine MC.body hσ Tryz.func72 (by kernel_rfl) rfl rfl (Nat.le_of_ble_eq_true rfl) (fun hF => ?_)
 have hl : a.code.length ≤ L := by simpa [As.fact, A.fact, M.fact, D.fact, Ds.fact] using hF.1.2.2.1.1
 have hlp : a.pts.length ≤ L := by simpa [As.fact, A.fact, M.fact, D.fact, Ds.fact] using hF.1.2.2.2.1.1
 have hcl : (splR a k n b).code.length = (newC a k n b).length := by simp [splR]
 have hnl : (newC a k n b).length + n = a.code.length + b.length := by simp only [newC, List.length_append, List.length_take, List.length_drop]; omega
 refine jsr ?_
 refine AOps.heap (HS.alloc hσ rfl rfl rfl rfl rfl) rfl ?_
 refine jnm ?_
 refine jns ?_
 refine jst hσ rfl rfl rfl rfl rfl ?_
 refine AOps.rows hσ (B0 := 15000) rfl rfl rfl rfl (c119 (a := a) h1 h2) (VAs.self rfl) rfl rfl rfl rfl rfl rfl ?_
 refine jnm ?_
 refine jf [14, 8, 0, 1, 2, 3] rfl ?_
 refine AOps.heap (HS.alloc hσ rfl rfl rfl rfl rfl) rfl ?_
 refine jnm ?_
 refine AOps.heap (HS.storeBox hσ rfl rfl rfl rfl rfl rfl rfl rfl rfl rfl rfl) rfl ?_
 refine jnm ?_
 refine jns ?_
 iterate 2 refine jst hσ rfl rfl rfl rfl rfl ?_
 refine AOps.step ((Val.lenD hσ rfl rfl rfl rfl rfl rfl rfl rfl).cast (v' := eI b.length) (by simp)) rfl rfl rfl ?_
 first | refine jfi hσ rfl rfl rfl rfl rfl ?_ | refine jvf hσ rfl rfl rfl rfl rfl ?_
 refine jst hσ rfl rfl rfl rfl rfl ?_
 refine jf [10, 9, 14, 8, 0, 1, 2, 3] rfl ?_
 refine jns ?_
 refine AOps.heap (HS.lit hσ rfl rfl rfl) rfl ?_
 refine jnm ?_
 iterate 5 refine jst hσ rfl rfl rfl rfl rfl ?_
 refine AOps.step (Val.sliceD (sz := 2) (xs := a.code.map In.cells) (a := 0) (b := k) (ys := (a.code.take k).map In.cells) hσ rfl rfl rfl rfl rfl rfl rfl rfl rfl rfl nat_i ⟨Nat.zero_le _, by simp; omega⟩ (by simp [List.map_take])) rfl rfl rfl ?_
 refine jf [25, 19, 10, 9, 14, 8, 0, 1, 2, 3] rfl ?_
 refine AOps.heap (HS.appCopy (own := true) (xs := []) (ys := (a.code.take k).map In.cells) (zs := (a.code.take k).map In.cells) (n := (a.code.take k).length) hσ rfl rfl rfl rfl rfl rfl rfl rfl rfl rfl rfl rfl rfl rfl rfl rfl (.row rfl rfl) (.slc (.inr in_scal)) in_size rfl (by simp; omega) (by simp; omega) rfl (by simp)) rfl ?_
 refine jnm ?_
 refine jnm ?_
 refine jst hσ rfl rfl rfl rfl rfl ?_
 refine jf [27, 26, 10, 9, 14, 8, 0, 1, 2, 3] rfl ?_
 refine AOps.heap (HS.appCopy (own := true) (xs := (a.code.take k).map In.cells) (ys := b.map In.cells) (zs := ((a.code.take k) ++ b).map In.cells) (n := ((a.code.take k) ++ b).length) hσ rfl rfl rfl rfl rfl rfl rfl rfl rfl rfl rfl rfl rfl rfl rfl rfl (.row rfl (by simp)) (.slc (.inr in_scal)) in_size rfl (by simp; omega) (by simp; omega) (by simp) (by simp)) rfl ?_
 refine jnm ?_
 refine jnm ?_
 refine jst hσ rfl rfl rfl rfl rfl ?_
 refine jf [29, 28, 10, 9, 14, 8, 0, 1, 2, 3] rfl ?_
 refine AOps.heap (HS.storeBox hσ rfl rfl rfl rfl rfl rfl rfl rfl rfl rfl rfl) rfl ?_
 refine jnm ?_
 refine jf [10, 9, 14, 8, 0, 1, 2, 3] rfl ?_
 refine jn ?_
 refine AWP.seq ?_
 refine AWP.drawP hσ _ [_, _, _, _, _, _, _, _, _, _, _, _, _] [⟨[], 0, 0, none⟩, ⟨[0], 0, 0, none⟩, ⟨[], 0, 0, none⟩, ⟨[2], 0, 0, none⟩, ⟨[2, 3], 0, 0, none⟩, ⟨[2, 3, 4], 0, 0, none⟩, ⟨[], 0, 0, none⟩, ⟨[], 0, 0, none⟩, ⟨[6, 7], 0, 0, none⟩, ⟨[2, 3, 4, 5, 6, 7, 8], 0, 0, none⟩, ⟨[0, 1, 2, 3, 4, 5, 6, 7, 8, 9], 0, 0, some 0⟩, ⟨[0, 1, 2, 3, 4, 5, 6, 7, 8, 9, 10], 1, 1, none⟩, ⟨[0, 1, 2, 3, 4, 5, 6, 7, 8, 9, 10, 11], 0, 0, some 1⟩] [10, 12] [_, _, _] [[28], []] rfl rfl (by decide) (by decide) (by kernel_rfl) (And.intro (And.intro (Val.of hσ rfl rfl) rfl) (And.intro (And.intro (Val.of hσ rfl rfl) rfl) (And.intro (And.intro (Val.of hσ rfl rfl) rfl) (And.intro (And.intro (Val.of hσ rfl rfl) rfl) (And.intro (And.intro (Val.of hσ rfl rfl) rfl) (And.intro (And.intro (Val.of hσ rfl rfl) rfl) (And.intro (And.intro (Val.of hσ rfl rfl) rfl) (And.intro (And.intro (Val.of hσ rfl rfl) rfl) (And.intro (And.intro (Val.fits64 hσ rfl rfl (by first | omega | (simp at *; omega)) (by first | omega | (simp at *; omega))) rfl) (And.intro (And.intro (Val.sliceD (sz := 2) (xs := a.code.map In.cells) (a := k + n) (b := (a.code.map In.cells).length) (ys := (a.code.drop (k + n)).map In.cells) hσ rfl rfl rfl rfl rfl rfl rfl rfl rfl (nat_e (by omega)) rfl ⟨by simp; omega, Nat.le_refl _⟩ (by rw [List.take_of_length_le (by simp), List.map_drop])) rfl) (And.intro (And.intro (Eff.appCopy (own := true) (xs := ((a.code.take k) ++ b).map In.cells) (ys := (a.code.drop (k + n)).map In.cells) (zs := (newC a k n b).map In.cells) (n := (splR a k n b).code.length) hσ rfl rfl rfl rfl rfl rfl rfl rfl rfl rfl rfl rfl rfl rfl rfl rfl (.row rfl (by simp)) (.slc (.inr in_scal)) in_size rfl (by simp; omega) (by simp; omega) (by simp) (by rw [List.length_map, hcl]) rfl) rfl) (And.intro (And.intro (Val.of hσ rfl rfl) rfl) (And.intro (And.intro (Eff.p (Eff.storeBox hσ rfl rfl rfl rfl rfl rfl rfl rfl rfl rfl rfl rfl rfl)) rfl) trivial))))))))))))) ?_
 refine jw [10, 9, 14, 8, 0, 1, 2, 3] rfl ?_
 refine jnw ?_
 refine AWP.seq ?_
 refine jsr ?_
 refine jst hσ rfl rfl rfl rfl rfl ?_
 refine jn ?_
 refine AWP.block ?_
 refine AWP.loopP (X := Nat) (fun i => ⟨[(1, eI k), (8, .c (.pt 8 0 0)), (9, .c (.pt 9 0 0)), (10, eI ((n : Int) - b.length)), (11, eI i)], [(8, .box [.d .nils, .d .nils, .d .nils, .d .nils]), (9, .box [.rs 15000 0 a.pre.length, .rs 15001 0 a.post.length, .rs 900 0 (splR a k n b).code.length, .rs 15003 0 a.pts.length]), (900, .row true 2 ((upS (sMap k ((n : Int) - b.length)) (newC a k n b) i).map In.cells)), (15000, trow a.pre), (15001, trow a.post), (15003, prow a.pts)]⟩) (fun i => i ≤ (newC a k n b).length) (fun i => (newC a k n b).length - i) 0 (((Ent.sel [8, 9, 40, 15000, 15001, 15003] (e' := [(1, _), (8, _), (9, _), (10, _), (11, _)]) rfl rfl ⟨rfl, rfl, rfl, rfl, rfl, trivial⟩ rfl).trans (Ent.sub2 40 900 rfl rfl)).trans (Ent.to ⟨rfl, rfl, rfl, rfl, rfl, trivial⟩ rfl)) ?_ (fun i hi => ?_)
 ·
  exact Nat.zero_le _
 refine AWP.seq ?_
 refine jsr ?_
 iterate 3 refine jst hσ rfl rfl rfl rfl rfl ?_
 first | refine jle hσ rfl rfl rfl rfl rfl rfl rfl rfl rfl rfl rfl ?_ | refine jst hσ rfl rfl rfl rfl rfl ?_ | refine jvf hσ rfl rfl rfl rfl rfl ?_
 refine jst hσ rfl rfl rfl rfl rfl ?_
 refine jf [46, 1, 8, 9, 10, 11] rfl ?_
 refine jn ?_
 refine AWP.cond hσ rfl rfl (fun hc46 => ?_) (fun hc46 => ?_)
 ·
  skip
  refine AWP.skip ?_
  refine AWP.seq ?_
  refine AWP.block ?_
  refine AWP.seq ?_
  have hil : i < (newC a k n b).length := by have := of_decide_eq_true hc46; omega
  refine AWP.mid ⟨[(64, eB (bif jmpB ((newC a k n b).getD i default) then decide ((k : Int) < ((newC a k n b).getD i default).a) else false)), (1, eI k), (8, .c (.pt 8 0 0)), (9, .c (.pt 9 0 0)), (10, eI ((n : Int) - b.length)), (11, eI i)], [(8, .box [.d .nils, .d .nils, .d .nils, .d .nils]), (9, .box [.rs 15000 0 a.pre.length, .rs 15001 0 a.post.length, .rs 900 0 (splR a k n b).code.length, .rs 15003 0 a.pts.length]), (900, .row true 2 ((upS (sMap k ((n : Int) - b.length)) (newC a k n b) i).map In.cells)), (15000, trow a.pre), (15001, trow a.post), (15003, prow a.pts)]⟩ ?_ ?_
  ·
   skip
   refine AWP.region ?_
   have hil : i < (newC a k n b).length := by have := of_decide_eq_true hc46; omega
   iterate 3 refine jst hσ rfl rfl rfl rfl rfl ?_
   first | refine jin hσ rfl rfl rfl rfl rfl rfl rfl rfl rfl rfl rfl ?_ | refine jix hσ rfl rfl rfl rfl rfl rfl rfl rfl rfl rfl rfl ?_ | refine jvf hσ rfl rfl rfl rfl rfl ?_
   refine AOps.step (Val.loadRow hσ (ex := ((newC a k n b).getD i default).cells) rfl rfl rfl rfl (upS_getj hil (by simp)) rfl) rfl rfl rfl ?_
   refine jf [53, 46, 1, 8, 9, 10, 11] rfl ?_
   refine AOps.lone hσ rfl rfl rfl rfl (c166 h1 h2) (VAs.self rfl) rfl rfl rfl rfl rfl (B0 := 55000) rfl ?_
   cases hb55 : jmpB ((newC a k n b).getD i default) with
   | true =>
    refine jst hσ rfl rfl rfl rfl rfl ?_
    refine jf [55, 46, 1, 8, 9, 10, 11] rfl ?_
    refine AOps.live rfl rfl rfl rfl rfl ?_
    refine jst hσ rfl rfl rfl rfl rfl ?_
    refine AOps.live rfl rfl rfl rfl rfl ?_
    refine jst hσ rfl rfl rfl rfl rfl ?_
    refine jf [57, 55, 46, 1, 8, 9, 10, 11] rfl ?_
    refine AOps.live rfl rfl rfl rfl rfl ?_
    refine jst hσ rfl rfl rfl rfl rfl ?_
    refine AOps.live rfl rfl rfl rfl rfl ?_
    first | refine jin hσ rfl rfl rfl rfl rfl rfl rfl rfl rfl rfl rfl ?_ | refine jix hσ rfl rfl rfl rfl rfl rfl rfl rfl rfl rfl rfl ?_ | refine jvf hσ rfl rfl rfl rfl rfl ?_
    refine jf [59, 55, 46, 1, 8, 9, 10, 11] rfl ?_
    refine AOps.live rfl rfl rfl rfl rfl ?_
    refine jst hσ rfl rfl rfl rfl rfl ?_
    refine jf [60, 55, 46, 1, 8, 9, 10, 11] rfl ?_
    refine AOps.live rfl rfl rfl rfl rfl ?_
    refine AOps.step (Val.loadRow hσ (ex := ((newC a k n b).getD i default).cells) rfl rfl rfl rfl (upS_getj hil (by simp)) rfl) rfl rfl rfl ?_
    refine jf [61, 55, 46, 1, 8, 9, 10, 11] rfl ?_
    refine AOps.live rfl rfl rfl rfl rfl ?_
    refine jst hσ rfl rfl rfl rfl rfl ?_
    refine AOps.live rfl rfl rfl rfl rfl ?_
    refine jst hσ rfl rfl rfl rfl rfl ?_
    refine AOps.step (Val.pickY hσ rfl rfl rfl rfl rfl) rfl rfl rfl ?_
    refine jf [64, 46, 1, 8, 9, 10, 11] rfl ?_
    refine jn ?_
    exact ⟨rfl, Ent.to ⟨rfl, rfl, rfl, rfl, rfl, rfl, trivial⟩ rfl⟩
   | false =>
    refine jst hσ rfl rfl rfl rfl rfl ?_
    refine jf [55, 46, 1, 8, 9, 10, 11] rfl ?_
    refine AOps.skip rfl rfl rfl rfl rfl rfl ?_
    refine AOps.skip rfl rfl rfl rfl rfl rfl ?_
    refine jf [57, 55, 46, 1, 8, 9, 10, 11] rfl ?_
    refine AOps.skip rfl rfl rfl rfl rfl rfl ?_
    refine AOps.skip rfl rfl rfl rfl rfl rfl ?_
    refine jf [59, 55, 46, 1, 8, 9, 10, 11] rfl ?_
    refine AOps.skip rfl rfl rfl rfl rfl rfl ?_
    refine jf [60, 55, 46, 1, 8, 9, 10, 11] rfl ?_
    refine AOps.skip rfl rfl rfl rfl rfl rfl ?_
    refine jf [61, 55, 46, 1, 8, 9, 10, 11] rfl ?_
    refine AOps.skip rfl rfl rfl rfl rfl rfl ?_
    refine AOps.skip rfl rfl rfl rfl rfl rfl ?_
    refine AOps.step (Val.pickN hσ rfl rfl rfl rfl rfl) rfl rfl rfl ?_
    refine jf [64, 46, 1, 8, 9, 10, 11] rfl ?_
    refine jn ?_
    exact ⟨rfl, Ent.to ⟨rfl, rfl, rfl, rfl, rfl, rfl, trivial⟩ rfl⟩
  refine AWP.cond hσ rfl rfl (fun hc64 => ?_) (fun hc64 => ?_)
  ·
   skip
   refine AWP.region ?_
   iterate 3 refine jst hσ rfl rfl rfl rfl rfl ?_
   first | refine jin hσ rfl rfl rfl rfl rfl rfl rfl rfl rfl rfl rfl ?_ | refine jix hσ rfl rfl rfl rfl rfl rfl rfl rfl rfl rfl rfl ?_ | refine jvf hσ rfl rfl rfl rfl rfl ?_
   refine jst hσ rfl rfl rfl rfl rfl ?_
   have hxi := hx _ (mem_getD hil)
   refine AOps.step (Val.loadRow hσ (ex := ((newC a k n b).getD i default).cells) rfl rfl rfl rfl (upS_getj hil (by simp)) rfl) rfl rfl rfl ?_
   refine jst hσ rfl rfl rfl rfl rfl ?_
   first | refine jfi hσ rfl rfl rfl rfl rfl ?_ | refine jvf hσ rfl rfl rfl rfl rfl ?_
   first | refine jin hσ rfl rfl rfl rfl rfl rfl rfl rfl rfl rfl rfl ?_ | refine jix hσ rfl rfl rfl rfl rfl rfl rfl rfl rfl rfl rfl ?_ | refine jvf hσ rfl rfl rfl rfl rfl ?_
   refine jst hσ rfl rfl rfl rfl rfl ?_
   refine jf [74, 72, 64, 1, 8, 9, 10, 11] rfl ?_
   refine AOps.heap (HS.storeRow (ex := ((newC a k n b).getD i default).cells) (xs' := (upS (sMap k ((n : Int) - b.length)) (newC a k n b) (i + 1)).map In.cells) hσ rfl rfl rfl rfl rfl rfl rfl rfl rfl rfl rfl rfl rfl rfl (upS_getj hil (by simp)) (upS_rowj hil (by simp) (by rw [jmp_cond hc64]; rfl))) rfl ?_
   refine jnm ?_
   refine jnm ?_
   refine jf [64, 1, 8, 9, 10, 11] rfl ?_
   refine jn ?_
   refine AWP.region ?_
   refine jst hσ rfl rfl rfl rfl rfl ?_
   first | refine jfi hσ rfl rfl rfl rfl rfl ?_ | refine jvf hσ rfl rfl rfl rfl rfl ?_
   refine jst hσ rfl rfl rfl rfl rfl ?_
   refine jf [11, 64, 1, 8, 9, 10] rfl ?_
   refine jn ?_
   refine ⟨i + 1, Ent.to ⟨rfl, rfl, rfl, rfl, rfl, trivial⟩ rfl, by omega, by omega⟩
  ·
   skip
   refine AWP.skip ?_
   refine AWP.region ?_
   refine jst hσ rfl rfl rfl rfl rfl ?_
   first | refine jfi hσ rfl rfl rfl rfl rfl ?_ | refine jvf hσ rfl rfl rfl rfl rfl ?_
   refine jst hσ rfl rfl rfl rfl rfl ?_
   refine jf [11, 64, 1, 8, 9, 10] rfl ?_
   refine jn ?_
   have e9 : upS (sMap k ((n : Int) - b.length)) (newC a k n b) (i + 1) = upS (sMap k ((n : Int) - b.length)) (newC a k n b) i := upS_skip hil (jmp_cond' hc64)
   rw [← e9]
   refine ⟨i + 1, Ent.to ⟨rfl, rfl, rfl, rfl, rfl, trivial⟩ rfl, by omega, by omega⟩
 ·
  skip
  refine AWP.exit ?_
  refine AWP.seq ?_
  refine jsr ?_
  obtain rfl : i = (newC a k n b).length := by have := of_decide_eq_false hc46; omega
  rw [upS_all]
  refine jst hσ rfl rfl rfl rfl rfl ?_
  refine jn ?_
  refine AWP.block ?_
  refine AWP.loopP (X := Nat) (fun i => ⟨[(1, eI k), (8, .c (.pt 8 0 0)), (9, .c (.pt 9 0 0)), (10, eI ((n : Int) - b.length)), (12, eI i)], [(8, .box [.d .nils, .d .nils, .d .nils, .d .nils]), (9, .box [.rs 15000 0 a.pre.length, .rs 15001 0 a.post.length, .rs 900 0 (splR a k n b).code.length, .rs 15003 0 a.pts.length]), (900, irow (splR a k n b).code), (15000, trow a.pre), (15001, trow a.post), (15003, .row true 2 ((upS (sPt k ((n : Int) - b.length)) a.pts i).map Pt.cells))]⟩) (fun i => i ≤ a.pts.length) (fun i => a.pts.length - i) 0 (Ent.to ⟨rfl, rfl, rfl, rfl, rfl, trivial⟩ rfl) ?_ (fun i hi => ?_)
  ·
   exact Nat.zero_le _
  refine AWP.seq ?_
  refine jsr ?_
  iterate 3 refine jst hσ rfl rfl rfl rfl rfl ?_
  first | refine jle hσ rfl rfl rfl rfl rfl rfl rfl rfl rfl rfl rfl ?_ | refine jst hσ rfl rfl rfl rfl rfl ?_ | refine jvf hσ rfl rfl rfl rfl rfl ?_
  refine jst hσ rfl rfl rfl rfl rfl ?_
  refine jf [79, 1, 8, 9, 10, 12] rfl ?_
  refine jn ?_
  refine AWP.cond hσ rfl rfl (fun hc79 => ?_) (fun hc79 => ?_)
  ·
   skip
   refine AWP.skip ?_
   refine AWP.seq ?_
   refine AWP.block ?_
   refine jsr ?_
   have hil : i < a.pts.length := by have := of_decide_eq_true hc79; omega
   iterate 3 refine jst hσ rfl rfl rfl rfl rfl ?_
   first | refine jin hσ rfl rfl rfl rfl rfl rfl rfl rfl rfl rfl rfl ?_ | refine jix hσ rfl rfl rfl rfl rfl rfl rfl rfl rfl rfl rfl ?_ | refine jvf hσ rfl rfl rfl rfl rfl ?_
   refine jst hσ rfl rfl rfl rfl rfl ?_
   refine AOps.step (Val.loadRow hσ (ex := (a.pts.getD i default).cells) rfl rfl rfl rfl (upS_getj hil (by simp)) rfl) rfl rfl rfl ?_
   iterate 2 refine jst hσ rfl rfl rfl rfl rfl ?_
   refine jf [89, 79, 1, 8, 9, 10, 12] rfl ?_
   refine jn ?_
   refine AWP.cond hσ rfl rfl (fun hc89 => ?_) (fun hc89 => ?_)
   ·
    skip
    refine AWP.region ?_
    iterate 3 refine jst hσ rfl rfl rfl rfl rfl ?_
    first | refine jin hσ rfl rfl rfl rfl rfl rfl rfl rfl rfl rfl rfl ?_ | refine jix hσ rfl rfl rfl rfl rfl rfl rfl rfl rfl rfl rfl ?_ | refine jvf hσ rfl rfl rfl rfl rfl ?_
    refine jst hσ rfl rfl rfl rfl rfl ?_
    have hpi := hp _ (mem_gd hil)
    refine AOps.step (Val.loadRow hσ (ex := (a.pts.getD i default).cells) rfl rfl rfl rfl (upS_getj hil (by simp)) rfl) rfl rfl rfl ?_
    refine jst hσ rfl rfl rfl rfl rfl ?_
    first | refine jfi hσ rfl rfl rfl rfl rfl ?_ | refine jvf hσ rfl rfl rfl rfl rfl ?_
    first | refine jin hσ rfl rfl rfl rfl rfl rfl rfl rfl rfl rfl rfl ?_ | refine jix hσ rfl rfl rfl rfl rfl rfl rfl rfl rfl rfl rfl ?_ | refine jvf hσ rfl rfl rfl rfl rfl ?_
    refine jst hσ rfl rfl rfl rfl rfl ?_
    refine jf [99, 97, 89, 79, 1, 8, 9, 10, 12] rfl ?_
    refine AOps.heap (HS.storeRow (ex := (a.pts.getD i default).cells) (xs' := (upS (sPt k ((n : Int) - b.length)) a.pts (i + 1)).map Pt.cells) hσ rfl rfl rfl rfl rfl rfl rfl rfl rfl rfl rfl rfl rfl rfl (upS_getj hil (by simp)) (upS_rowj hil (by simp) (by unfold sPt; rw [if_pos (of_decide_eq_true hc89)]; rfl))) rfl ?_
    refine jnm ?_
    refine jnm ?_
    refine jf [89, 79, 1, 8, 9, 10, 12] rfl ?_
    refine jn ?_
    refine AWP.region ?_
    refine jst hσ rfl rfl rfl rfl rfl ?_
    first | refine jfi hσ rfl rfl rfl rfl rfl ?_ | refine jvf hσ rfl rfl rfl rfl rfl ?_
    refine jst hσ rfl rfl rfl rfl rfl ?_
    refine jf [12, 89, 79, 1, 8, 9, 10] rfl ?_
    refine jn ?_
    refine ⟨i + 1, Ent.to ⟨rfl, rfl, rfl, rfl, rfl, trivial⟩ rfl, by omega, by omega⟩
   ·
    skip
    refine AWP.skip ?_
    refine AWP.region ?_
    refine jst hσ rfl rfl rfl rfl rfl ?_
    first | refine jfi hσ rfl rfl rfl rfl rfl ?_ | refine jvf hσ rfl rfl rfl rfl rfl ?_
    refine jst hσ rfl rfl rfl rfl rfl ?_
    refine jf [12, 89, 79, 1, 8, 9, 10] rfl ?_
    refine jn ?_
    have e9 : upS (sPt k ((n : Int) - b.length)) a.pts (i + 1) = upS (sPt k ((n : Int) - b.length)) a.pts i := upS_skip hil (by unfold sPt; rw [if_neg (of_decide_eq_false hc89)])
    rw [← e9]
    refine ⟨i + 1, Ent.to ⟨rfl, rfl, rfl, rfl, rfl, trivial⟩ rfl, by omega, by omega⟩
  ·
   skip
   refine AWP.exit ?_
   refine jsr ?_
   refine jst hσ rfl rfl rfl rfl rfl ?_
   refine AOps.heap (HS.storeBox hσ rfl rfl rfl rfl rfl rfl rfl rfl rfl rfl rfl) rfl ?_
   refine jnm ?_
   refine jn ?_
   refine AWP.ret ?_
   obtain rfl : i = a.pts.length := by have := of_decide_eq_false hc79; omega
   rw [upS_all]
   have hpl : a.pts.length = (splR a k n b).pts.length := by simp [splR]
   rw [hpl]
   refine ⟨.inl rfl, _, Ent.refl, _, rfl, [15000, 15001, 900, 15003], by decide, rfl, rfl, rfl⟩
end Go.Al
namespace Go.Al
open Go.Proofs
set_option linter.unusedVariables false
set_option linter.unusedSimpArgs false
set_option maxRecDepth 10000
set_option maxHeartbeats 4000000
abbrev anBs (a : An) : List B := [trow a.pre, trow a.post, irow a.code, prow a.pts]
end Go.Al
