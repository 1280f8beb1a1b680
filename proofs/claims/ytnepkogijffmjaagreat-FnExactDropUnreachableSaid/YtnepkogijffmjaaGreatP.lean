/- The program: validity, copies, what is left out. -/
import Derived.Test.YtnepkogijffmjaaGreatM
namespace Go.Al
open Go.Proofs
set_option linter.unusedVariables false
set_option linter.unusedSimpArgs false
set_option maxRecDepth 10000
set_option maxHeartbeats 4000000
theorem c194 {L : Nat} (h1 : 4096 ≤ L) (h2 : L ≤ 1073741824) {x : Int} : MC Tryz.prog L 121 [eI x] [] (Plain (eB (inB 0 79 x))) := by
 refine MC.alone ?_ rfl
 have hσ := SGok (nt := 5) h1 (Nat.le_trans h2 (by decide))
 refine MC.body hσ Tryz.func121 (by kernel_rfl) rfl rfl (Nat.le_of_ble_eq_true rfl) (fun hF => ?_)
 refine jsr ?_
 refine jst hσ rfl rfl rfl rfl rfl ?_
 refine jns ?_
 refine jst hσ rfl rfl rfl rfl rfl ?_
 refine AOps.lone hσ rfl rfl rfl rfl (c111 h1 h2) (VAs.self rfl) rfl rfl rfl rfl rfl (B0 := 5000) rfl ?_
 refine jst hσ rfl rfl rfl rfl rfl ?_
 refine jn ?_
 refine AWP.ret ?_
 refine ⟨.inl rfl, _, Ent.refl, _, rfl, ?_⟩
 first | rfl | skip
theorem c168 {L : Nat} (h1 : 4096 ≤ L) (h2 : L ≤ 1073741824) {x : In} : MC Tryz.prog L 103 [.agg (x.cells.map .d)] [] (Plain (eB (instrB x))) := by
 refine MC.alone ?_ rfl
 have hσ := SGok (nt := 37) h1 (Nat.le_trans h2 (by decide))
 refine MC.body hσ Tryz.func103 (by kernel_rfl) rfl rfl (Nat.le_of_ble_eq_true rfl) (fun hF => ?_)
 refine jsr ?_
 refine AOps.heap (HS.box hσ rfl rfl rfl rfl rfl rfl rfl) rfl ?_
 refine jst hσ rfl rfl rfl rfl rfl ?_
 refine jn ?_
 refine AWP.seq ?_
 refine jsr ?_
 iterate 2 refine jst hσ rfl rfl rfl rfl rfl ?_
 refine jn ?_
 refine AWP.block ?_
 refine AWP.seq ?_
 refine jsr ?_
 iterate 2 refine jst hσ rfl rfl rfl rfl rfl ?_
 refine jn ?_
 refine AWP.cond hσ rfl rfl (fun hc5 => ?_) (fun hc5 => ?_)
 ·
  try simp only [jcs] at hc5
  refine AWP.skip ?_
  refine AWP.cond hσ rfl rfl (fun hc5 => ?_) (fun hc5 => ?_)
  ·
   try simp only [jcs] at hc5
   refine jsr ?_
   iterate 2 refine jst hσ rfl rfl rfl rfl rfl ?_
   refine jf [9, 6, 4, 3, 2, 1, 0] rfl ?_
   refine AOps.lone hσ rfl rfl rfl rfl (c176 h1 h2) (VAs.self rfl) rfl rfl rfl rfl rfl (B0 := 11000) rfl ?_
   refine jst hσ rfl rfl rfl rfl rfl ?_
   refine jf [2, 6, 4, 3, 1, 0] rfl ?_
   refine jn ?_
   refine AWP.ret ?_
   refine ⟨.inl rfl, _, Ent.refl, _, rfl, ?_⟩
   unfold instrB inB; simp_all
  ·
   try simp only [jcs] at hc5
   contradiction
 ·
  try simp only [jcs] at hc5
  refine AWP.region ?_
  iterate 2 refine jst hσ rfl rfl rfl rfl rfl ?_
  refine jn ?_
  refine AWP.cond hσ rfl rfl (fun hc5 => ?_) (fun hc5 => ?_)
  ·
   try simp only [jcs] at hc5
   refine jsr ?_
   iterate 2 refine jst hσ rfl rfl rfl rfl rfl ?_
   refine jf [9, 7, 6, 4, 3, 2, 1, 0] rfl ?_
   refine AOps.lone hσ rfl rfl rfl rfl (c176 h1 h2) (VAs.self rfl) rfl rfl rfl rfl rfl (B0 := 11000) rfl ?_
   refine jst hσ rfl rfl rfl rfl rfl ?_
   refine jf [2, 7, 6, 4, 3, 1, 0] rfl ?_
   refine jn ?_
   refine AWP.ret ?_
   refine ⟨.inl rfl, _, Ent.refl, _, rfl, ?_⟩
   unfold instrB inB; simp_all
  ·
   try simp only [jcs] at hc5
   refine AWP.seq ?_
   refine jsr ?_
   iterate 2 refine jst hσ rfl rfl rfl rfl rfl ?_
   refine jf [11, 7, 6, 4, 3, 2, 1, 0] rfl ?_
   refine jn ?_
   refine AWP.cond hσ rfl rfl (fun hc11 => ?_) (fun hc11 => ?_)
   ·
    try simp only [jcs] at hc11
    refine AWP.skip ?_
    refine AWP.cond hσ rfl rfl (fun hc11 => ?_) (fun hc11 => ?_)
    ·
     try simp only [jcs] at hc11
     refine jsr ?_
     iterate 2 refine jst hσ rfl rfl rfl rfl rfl ?_
     refine jf [15, 7, 6, 4, 3, 2, 1, 0] rfl ?_
     refine AOps.lone hσ rfl rfl rfl rfl (c193 h1 h2) (VAs.self rfl) rfl rfl rfl rfl rfl (B0 := 17000) rfl ?_
     refine jst hσ rfl rfl rfl rfl rfl ?_
     refine jf [2, 7, 6, 4, 3, 1, 0] rfl ?_
     refine jn ?_
     refine AWP.ret ?_
     refine ⟨.inl rfl, _, Ent.refl, _, rfl, ?_⟩
     unfold instrB inB; simp_all
    ·
     try simp only [jcs] at hc11
     contradiction
   ·
    try simp only [jcs] at hc11
    refine AWP.region ?_
    iterate 2 refine jst hσ rfl rfl rfl rfl rfl ?_
    refine jn ?_
    refine AWP.cond hσ rfl rfl (fun hc11 => ?_) (fun hc11 => ?_)
    ·
     try simp only [jcs] at hc11
     refine jsr ?_
     iterate 2 refine jst hσ rfl rfl rfl rfl rfl ?_
     refine jf [15, 13, 7, 6, 4, 3, 2, 1, 0] rfl ?_
     refine AOps.lone hσ rfl rfl rfl rfl (c193 h1 h2) (VAs.self rfl) rfl rfl rfl rfl rfl (B0 := 17000) rfl ?_
     refine jst hσ rfl rfl rfl rfl rfl ?_
     refine jf [2, 13, 7, 6, 4, 3, 1, 0] rfl ?_
     refine jn ?_
     refine AWP.ret ?_
     refine ⟨.inl rfl, _, Ent.refl, _, rfl, ?_⟩
     unfold instrB inB; simp_all
    ·
     try simp only [jcs] at hc11
     refine AWP.seq ?_
     refine jsr ?_
     iterate 2 refine jst hσ rfl rfl rfl rfl rfl ?_
     refine jf [17, 13, 7, 6, 4, 3, 2, 1, 0] rfl ?_
     refine jn ?_
     refine AWP.cond hσ rfl rfl (fun hc17 => ?_) (fun hc17 => ?_)
     ·
      try simp only [jcs] at hc17
      refine AWP.skip ?_
      refine AWP.cond hσ rfl rfl (fun hc17 => ?_) (fun hc17 => ?_)
      ·
       try simp only [jcs] at hc17
       refine jsr ?_
       iterate 2 refine jst hσ rfl rfl rfl rfl rfl ?_
       refine jf [21, 13, 7, 6, 4, 3, 2, 1, 0] rfl ?_
       refine AOps.lone hσ rfl rfl rfl rfl (c194 h1 h2) (VAs.self rfl) rfl rfl rfl rfl rfl (B0 := 23000) rfl ?_
       refine jst hσ rfl rfl rfl rfl rfl ?_
       refine jf [2, 13, 7, 6, 4, 3, 1, 0] rfl ?_
       refine jn ?_
       refine AWP.ret ?_
       refine ⟨.inl rfl, _, Ent.refl, _, rfl, ?_⟩
       unfold instrB inB; simp_all
      ·
       try simp only [jcs] at hc17
       contradiction
     ·
      try simp only [jcs] at hc17
      refine AWP.region ?_
      iterate 2 refine jst hσ rfl rfl rfl rfl rfl ?_
      refine jn ?_
      refine AWP.cond hσ rfl rfl (fun hc17 => ?_) (fun hc17 => ?_)
      ·
       try simp only [jcs] at hc17
       refine jsr ?_
       iterate 2 refine jst hσ rfl rfl rfl rfl rfl ?_
       refine jf [21, 19, 13, 7, 6, 4, 3, 2, 1, 0] rfl ?_
       refine AOps.lone hσ rfl rfl rfl rfl (c194 h1 h2) (VAs.self rfl) rfl rfl rfl rfl rfl (B0 := 23000) rfl ?_
       refine jst hσ rfl rfl rfl rfl rfl ?_
       refine jf [2, 19, 13, 7, 6, 4, 3, 1, 0] rfl ?_
       refine jn ?_
       refine AWP.ret ?_
       refine ⟨.inl rfl, _, Ent.refl, _, rfl, ?_⟩
       unfold instrB inB; simp_all
      ·
       try simp only [jcs] at hc17
       refine jsr ?_
       iterate 2 refine jst hσ rfl rfl rfl rfl rfl ?_
       refine jf [23, 19, 13, 7, 6, 4, 3, 2, 1, 0] rfl ?_
       refine jn ?_
       refine AWP.cond hσ rfl rfl (fun hc23 => ?_) (fun hc23 => ?_)
       ·
        try simp only [jcs] at hc23
        refine jsr ?_
        iterate 2 refine jst hσ rfl rfl rfl rfl rfl ?_
        refine jf [26, 19, 13, 7, 6, 4, 3, 2, 1, 0] rfl ?_
        refine AOps.lone hσ rfl rfl rfl rfl (c195 h1 h2) (VAs.self rfl) rfl rfl rfl rfl rfl (B0 := 28000) rfl ?_
        refine jst hσ rfl rfl rfl rfl rfl ?_
        refine jf [2, 19, 13, 7, 6, 4, 3, 1, 0] rfl ?_
        refine jn ?_
        refine AWP.ret ?_
        refine ⟨.inl rfl, _, Ent.refl, _, rfl, ?_⟩
        unfold instrB inB; simp_all
       ·
        try simp only [jcs] at hc23
        refine AWP.seq ?_
        refine jsr ?_
        iterate 2 refine jst hσ rfl rfl rfl rfl rfl ?_
        refine jf [28, 19, 13, 7, 6, 4, 3, 2, 1, 0] rfl ?_
        refine jn ?_
        refine AWP.cond hσ rfl rfl (fun hc28 => ?_) (fun hc28 => ?_)
        ·
         try simp only [jcs] at hc28
         refine AWP.skip ?_
         refine AWP.cond hσ rfl rfl (fun hc28 => ?_) (fun hc28 => ?_)
         ·
          try simp only [jcs] at hc28
          refine jsr ?_
          iterate 4 refine jst hσ rfl rfl rfl rfl rfl ?_
          refine jf [2, 28, 19, 13, 7, 6, 4, 3, 1, 0] rfl ?_
          refine jn ?_
          refine AWP.ret ?_
          refine ⟨.inl rfl, _, Ent.refl, _, rfl, ?_⟩
          unfold instrB inB; simp_all
         ·
          try simp only [jcs] at hc28
          contradiction
        ·
         try simp only [jcs] at hc28
         refine jsr ?_
         iterate 2 refine jst hσ rfl rfl rfl rfl rfl ?_
         refine jn ?_
         refine AWP.cond hσ rfl rfl (fun hc28 => ?_) (fun hc28 => ?_)
         ·
          try simp only [jcs] at hc28
          refine AWP.skip ?_
          refine AWP.cond hσ rfl rfl (fun hc28 => ?_) (fun hc28 => ?_)
          ·
           try simp only [jcs] at hc28
           refine jsr ?_
           iterate 4 refine jst hσ rfl rfl rfl rfl rfl ?_
           refine jf [2, 28, 30, 19, 13, 7, 6, 4, 3, 1, 0] rfl ?_
           refine jn ?_
           refine AWP.ret ?_
           refine ⟨.inl rfl, _, Ent.refl, _, rfl, ?_⟩
           unfold instrB inB; simp_all
          ·
           try simp only [jcs] at hc28
           contradiction
         ·
          try simp only [jcs] at hc28
          refine jsr ?_
          iterate 2 refine jst hσ rfl rfl rfl rfl rfl ?_
          refine jn ?_
          refine AWP.cond hσ rfl rfl (fun hc28 => ?_) (fun hc28 => ?_)
          ·
           try simp only [jcs] at hc28
           refine AWP.skip ?_
           refine AWP.cond hσ rfl rfl (fun hc28 => ?_) (fun hc28 => ?_)
           ·
            try simp only [jcs] at hc28
            refine jsr ?_
            iterate 4 refine jst hσ rfl rfl rfl rfl rfl ?_
            refine jf [2, 28, 31, 30, 19, 13, 7, 6, 4, 3, 1, 0] rfl ?_
            refine jn ?_
            refine AWP.ret ?_
            refine ⟨.inl rfl, _, Ent.refl, _, rfl, ?_⟩
            unfold instrB inB; simp_all
           ·
            try simp only [jcs] at hc28
            contradiction
          ·
           try simp only [jcs] at hc28
           refine jsr ?_
           iterate 2 refine jst hσ rfl rfl rfl rfl rfl ?_
           refine jn ?_
           refine AWP.cond hσ rfl rfl (fun hc28 => ?_) (fun hc28 => ?_)
           ·
            try simp only [jcs] at hc28
            refine AWP.skip ?_
            refine AWP.cond hσ rfl rfl (fun hc28 => ?_) (fun hc28 => ?_)
            ·
             try simp only [jcs] at hc28
             refine jsr ?_
             iterate 4 refine jst hσ rfl rfl rfl rfl rfl ?_
             refine jf [2, 32, 31, 30, 19, 13, 7, 6, 4, 3, 1, 0] rfl ?_
             refine jn ?_
             refine AWP.ret ?_
             refine ⟨.inl rfl, _, Ent.refl, _, rfl, ?_⟩
             unfold instrB inB; simp_all
            ·
             try simp only [jcs] at hc28
             contradiction
           ·
            try simp only [jcs] at hc28
            refine AWP.region ?_
            iterate 2 refine jst hσ rfl rfl rfl rfl rfl ?_
            refine jn ?_
            refine AWP.cond hσ rfl rfl (fun hc28 => ?_) (fun hc28 => ?_)
            ·
             try simp only [jcs] at hc28
             refine jsr ?_
             iterate 4 refine jst hσ rfl rfl rfl rfl rfl ?_
             refine jf [2, 33, 32, 31, 30, 19, 13, 7, 6, 4, 3, 1, 0] rfl ?_
             refine jn ?_
             refine AWP.ret ?_
             refine ⟨.inl rfl, _, Ent.refl, _, rfl, ?_⟩
             unfold instrB inB; simp_all
            ·
             try simp only [jcs] at hc28
             refine AWP.skip ?_
             refine jsr ?_
             refine jst hσ rfl rfl rfl rfl rfl ?_
             refine jn ?_
             refine AWP.ret ?_
             refine ⟨.inl rfl, _, Ent.refl, _, rfl, ?_⟩
             unfold instrB inB; simp_all
theorem c167 {L : Nat} (h1 : 4096 ≤ L) (h2 : L ≤ 1073741824) {x : In} : MC Tryz.prog L 102 [.agg (x.cells.map .d)] [] (Plain (eB (!instrB x))) := by
 refine MC.alone ?_ rfl
 have hσ := SGok (nt := 6) h1 (Nat.le_trans h2 (by decide))
 refine MC.body hσ Tryz.func102 (by kernel_rfl) rfl rfl (Nat.le_of_ble_eq_true rfl) (fun hF => ?_)
 refine jsr ?_
 refine AOps.heap (HS.box hσ rfl rfl rfl rfl rfl rfl rfl) rfl ?_
 refine jst hσ rfl rfl rfl rfl rfl ?_
 refine jns ?_
 refine jst hσ rfl rfl rfl rfl rfl ?_
 refine jf [3, 2, 0] rfl ?_
 refine AOps.lone hσ rfl rfl rfl rfl (c168 h1 h2) (VAs.self rfl) rfl rfl rfl rfl rfl (B0 := 5000) rfl ?_
 iterate 2 refine jst hσ rfl rfl rfl rfl rfl ?_
 refine jf [2, 0] rfl ?_
 refine jn ?_
 refine AWP.ret ?_
 refine ⟨.inl rfl, _, Ent.refl, _, rfl, ?_⟩
 first | rfl | skip
theorem c130 {L : Nat} (h1 : 4096 ≤ L) (h2 : L ≤ 1073741824) {x : In} : MC Tryz.prog L 81 [.agg (x.cells.map .d)] [] (Plain (eB (jmpB x))) := by
 refine MC.alone ?_ rfl
 have hσ := SGok (nt := 11) h1 (Nat.le_trans h2 (by decide))
 refine MC.body hσ Tryz.func81 (by kernel_rfl) rfl rfl (Nat.le_of_ble_eq_true rfl) (fun hF => ?_)
 refine jsr ?_
 refine AOps.heap (HS.box hσ rfl rfl rfl rfl rfl rfl rfl) rfl ?_
 refine jst hσ rfl rfl rfl rfl rfl ?_
 refine jns ?_
 iterate 4 refine jst hσ rfl rfl rfl rfl rfl ?_
 refine jf [6, 2, 1, 0] rfl ?_
 refine AOps.gr 3 rfl rfl rfl (fun hx => AN.step hx rfl rfl rfl (Val.of hσ rfl rfl) rfl rfl ( AN.step hx rfl rfl rfl (Val.of hσ rfl rfl) rfl rfl ( AN.step hx rfl rfl rfl (Val.of hσ rfl rfl) rfl rfl ( AN.nil)))) rfl rfl ?_
 first | refine AOps.step (Val.pickF hσ rfl rfl rfl rfl rfl) rfl rfl rfl ?_ | refine AOps.step (Val.pickB hσ rfl rfl rfl rfl rfl) rfl rfl rfl ?_ | refine AOps.step (Val.pickT hσ rfl rfl rfl rfl rfl) rfl rfl rfl ?_
 refine jst hσ rfl rfl rfl rfl rfl ?_
 refine jf [2, 0] rfl ?_
 refine jn ?_
 refine AWP.ret ?_
 refine ⟨.inl rfl, _, Ent.refl, _, rfl, ?_⟩
 unfold jmpB; cases decide (x.op = 5) <;> rfl
def ixF {α : Type} (p : α → Bool) (l : List α) : Int := if l.any p = true then (l.findIdx p : Nat) else -1
theorem ixF_no {α : Type} {p : α → Bool} {l : List α} (h : ∀ j (hj : j < l.length), p l[j] = false) : ixF p l = -1 := by rw [ixF, if_neg (by rw [any_no h]; decide)]
theorem ixF_at {α : Type} {p : α → Bool} {l : List α} {i : Nat} (hi : i < l.length) (h : ∀ j (hj : j < l.length), j < i → p l[j] = false) (hn : p l[i] = true) : ixF p l = i := by
  rw [ixF, if_pos (any_yes i hi hn)]
  exact congrArg Nat.cast ((List.findIdx_eq hi).2 ⟨hn, fun j hj => by simp [h j (by omega) hj]⟩)
theorem ixF_nn {α : Type} {p : α → Bool} {l : List α} : decide (ixF p l ≥ 0) = l.any p := by
  unfold ixF
  cases h : l.any p <;> simp
theorem c174v {L : Nat} (h1 : 4096 ≤ L) (h2 : L ≤ 1073741824) {c : List In} : MC Tryz.prog L 118 [ains c, .c (.fn 102 [])] [] (Plain (eI (ixF (fun x : In => !instrB x) c))) := by
 refine MC.alone ?_ rfl
 have hσ := SGok (nt := 19) h1 (Nat.le_trans h2 (by decide))
 refine MC.body hσ Tryz.func118 (by kernel_rfl) rfl rfl (Nat.le_of_ble_eq_true rfl) (fun hF => ?_)
 have hl : c.length ≤ L := by simpa [As.fact, A.fact, M.fact, D.fact, Ds.fact] using hF.1.1
 refine jsr ?_
 refine jst hσ rfl rfl rfl rfl rfl ?_
 refine jn ?_
 refine AWP.seq ?_
 refine jsr ?_
 refine jst hσ rfl rfl rfl rfl rfl ?_
 first | refine jle hσ rfl rfl rfl rfl rfl rfl rfl rfl rfl rfl rfl ?_ | refine jst hσ rfl rfl rfl rfl rfl ?_ | refine jvf hσ rfl rfl rfl rfl rfl ?_
 refine jst hσ rfl rfl rfl rfl rfl ?_
 refine jn ?_
 refine AWP.block ?_
 refine AWP.loopP (X := Nat) (fun i => ⟨[(0, ains c), (1, .c (.fn 102 [])), (7, eI c.length), (8, eI i)], []⟩) (fun i => i ≤ c.length ∧ ∀ j (h : j < c.length), j < i → (fun x : In => !instrB x) c[j] = false) (fun i => c.length - i) 0 (Ent.env ⟨rfl, rfl, rfl, rfl, trivial⟩) ?_ (fun i hi => ?_)
 ·
  exact ⟨Nat.zero_le _, fun j h hj => absurd hj (Nat.not_lt_zero j)⟩
 refine jsr ?_
 refine jst hσ rfl rfl rfl rfl rfl ?_
 refine jn ?_
 refine AWP.seq ?_
 refine AWP.cond hσ rfl rfl (fun hc9 => ?_) (fun hc9 => ?_)
 ·
  skip
  refine AWP.skip ?_
  refine AWP.seq ?_
  refine AWP.block ?_
  refine jsr ?_
  have hil : i < c.length := by have := of_decide_eq_true hc9; omega
  iterate 2 refine jst hσ rfl rfl rfl rfl rfl ?_
  refine jns ?_
  iterate 3 refine jst hσ rfl rfl rfl rfl rfl ?_
  first | refine jin hσ rfl rfl rfl rfl rfl rfl rfl rfl rfl rfl rfl ?_ | refine jix hσ rfl rfl rfl rfl rfl rfl rfl rfl rfl rfl rfl ?_ | refine jvf hσ rfl rfl rfl rfl rfl ?_
  refine jst hσ rfl rfl rfl rfl rfl ?_
  refine AOps.reset [(15, _), (11, _), (5, _), (10, _), (9, _), (0, _), (1, _), (7, _), (8, _)] [] ⟨rfl, rfl, rfl, rfl, rfl, rfl, rfl, rfl, rfl, trivial⟩ rfl ?_
  refine AOps.lone hσ rfl rfl rfl rfl (c167 (x := c.getD i default) h1 h2) (VAs.self rfl) rfl rfl rfl rfl rfl (B0 := 17000) rfl ?_
  refine jf [16, 5, 10, 9, 0, 1, 7, 8] rfl ?_
  refine jn ?_
  refine AWP.cond hσ rfl rfl (fun hc16 => ?_) (fun hc16 => ?_)
  ·
   skip
   refine jsr ?_
   iterate 2 refine jst hσ rfl rfl rfl rfl rfl ?_
   refine jn ?_
   refine AWP.ret ?_
   refine ⟨.inl rfl, _, Ent.refl, _, rfl, ?_⟩
   rw [getD_lt hil] at hc16
   rw [ixF_at hil hi.2 hc16]
  ·
   skip
   refine AWP.skip ?_
   refine AWP.region ?_
   first | refine jfi hσ rfl rfl rfl rfl rfl ?_ | refine jvf hσ rfl rfl rfl rfl rfl ?_
   refine jst hσ rfl rfl rfl rfl rfl ?_
   refine jn ?_
   refine ⟨i + 1, Ent.env ⟨rfl, rfl, rfl, rfl, trivial⟩, ⟨by omega, fun j h hj => ?_⟩, by omega⟩
   by_cases e : j = i
   ·
    subst e; rw [getD_lt h] at hc16; exact hc16
   ·
    exact hi.2 j h (by omega)
 ·
  skip
  refine AWP.exit ?_
  refine jsr ?_
  refine jst hσ rfl rfl rfl rfl rfl ?_
  refine jn ?_
  refine AWP.ret ?_
  refine ⟨.inl rfl, _, Ent.refl, _, rfl, ?_⟩
  have h9 := of_decide_eq_false hc9
  rw [ixF_no (fun j hj => hi.2 j hj (by omega))]
theorem c128v {L : Nat} (h1 : 4096 ≤ L) (h2 : L ≤ 1073741824) {c : List In} : MC Tryz.prog L 101 [ains c, .c (.fn 102 [])] [] (Plain (eB (c.any (fun x : In => !instrB x)))) := by
 refine MC.alone ?_ rfl
 have hσ := SGok (nt := 9) h1 (Nat.le_trans h2 (by decide))
 refine MC.body hσ Tryz.func101 (by kernel_rfl) rfl rfl (Nat.le_of_ble_eq_true rfl) (fun hF => ?_)
 refine jsr ?_
 refine jst hσ rfl rfl rfl rfl rfl ?_
 refine jns ?_
 iterate 2 refine jst hσ rfl rfl rfl rfl rfl ?_
 refine AOps.lone hσ rfl rfl rfl rfl (c174v (c := c) h1 h2) (.cons (.c .d) (.cons (.c (.fn .nil)) .nil)) rfl rfl rfl rfl rfl (B0 := 8000) rfl ?_
 iterate 2 refine jst hσ rfl rfl rfl rfl rfl ?_
 refine jn ?_
 refine AWP.ret ?_
 refine ⟨.inl rfl, _, Ent.refl, _, rfl, ?_⟩
 exact congrArg eB ixF_nn
theorem c124 {L : Nat} (h1 : 4096 ≤ L) (h2 : L ≤ 1073741824) {c : List In} : MC Tryz.prog L 75 [ains c] [] (Plain (eB (codeB c))) := by
 refine MC.alone ?_ rfl
 have hσ := SGok (nt := 12) h1 (Nat.le_trans h2 (by decide))
 refine MC.body hσ Tryz.func75 (by kernel_rfl) rfl rfl (Nat.le_of_ble_eq_true rfl) (fun hF => ?_)
 have hl : c.length ≤ L := by simpa [As.fact, A.fact, M.fact, D.fact, Ds.fact] using hF.1.1
 refine jsr ?_
 refine jst hσ rfl rfl rfl rfl rfl ?_
 refine jns ?_
 refine jst hσ rfl rfl rfl rfl rfl ?_
 first | refine jle hσ rfl rfl rfl rfl rfl rfl rfl rfl rfl rfl rfl ?_ | refine jst hσ rfl rfl rfl rfl rfl ?_ | refine jvf hσ rfl rfl rfl rfl rfl ?_
 refine AOps.lone hσ rfl rfl rfl rfl (c147 h1 h2) (VAs.self rfl) rfl rfl rfl rfl rfl (B0 := 6000) rfl ?_
 refine AOps.lone hσ rfl rfl rfl rfl (c111 h1 h2) (VAs.self rfl) rfl rfl rfl rfl rfl (B0 := 7000) rfl ?_
 refine jst hσ rfl rfl rfl rfl rfl ?_
 refine AOps.gr 3 rfl rfl rfl (fun hx => AN.step hx rfl rfl rfl (Val.of hσ rfl rfl) rfl rfl ( AN.lone hσ hx rfl rfl rfl rfl (c128v (c := c) h1 h2) (.cons (.c .d) (.cons (.c (.fn .nil)) .nil)) rfl rfl rfl rfl rfl rfl rfl (B0 := 10000) rfl ( AN.step hx rfl rfl rfl (Val.of hσ rfl rfl) rfl rfl ( AN.nil)))) rfl rfl ?_
 first | refine AOps.step (Val.pickT hσ rfl rfl rfl rfl rfl) rfl rfl rfl ?_ | refine AOps.step (Val.pickF hσ rfl rfl rfl rfl rfl) rfl rfl rfl ?_ | refine AOps.step (Val.pickB hσ rfl rfl rfl rfl rfl) rfl rfl rfl ?_
 refine jst hσ rfl rfl rfl rfl rfl ?_
 refine jn ?_
 refine AWP.ret ?_
 refine ⟨.inl rfl, _, Ent.refl, _, rfl, ?_⟩
 rw [Bool.cond_false_right, show codeB c = _ from Bool.and_comm _ _, List.all_eq_not_any_not]
theorem pt_notI {a : An} {i : Nat} : (bif (bif !terms (a.pts.getD i default).fs 6 then true else !(inB 0 ((a.code.length : Int) - 1) (a.pts.getD i default).k)) then true else (bif decide ((0 : Int) < i) then decide ((a.pts.getD i default).k ≤ (a.pts.getD (i - 1) default).k) else false)) = !ptB a.code.length a.pts i := by
  unfold ptB inB
  rw [show decide ((0 : Int) < i) = decide (0 < i) from decide_eq_decide.2 (by omega)]
  cases decide (0 ≤ (a.pts.getD i default).k) <;> cases decide ((a.pts.getD i default).k ≤ (a.code.length : Int) - 1) <;> cases terms (a.pts.getD i default).fs 6 <;> cases decide (0 < i) <;> cases decide ((a.pts.getD i default).k ≤ (a.pts.getD (i - 1) default).k) <;> rfl
theorem c71 {L : Nat} (h1 : 4096 ≤ L) (h2 : L ≤ 1073741824) {a : An} : MC Tryz.prog L 44 [aAn a] [] (Plain (eB (annB a))) := by
 refine MC.alone ?_ rfl
 have hσ := SGok (nt := 65) h1 (Nat.le_trans h2 (by decide))
 refine MC.body hσ Tryz.func44 (by kernel_rfl) rfl rfl (Nat.le_of_ble_eq_true rfl) (fun hF => ?_)
 have hl : a.code.length ≤ L := by simpa [As.fact, A.fact, M.fact, Ms.fact, D.fact, Ds.fact] using hF.1.2.2.1.1
 have hlp : a.pts.length ≤ L := by simpa [As.fact, A.fact, M.fact, Ms.fact, D.fact, Ds.fact] using hF.1.2.2.2.1.1
 refine jsr ?_
 refine AOps.heap (HS.box hσ rfl rfl rfl rfl rfl rfl rfl) rfl ?_
 refine jnm ?_
 refine AOps.to (Ent.freeze 1 (e' := [(1, _), (0, _)]) rfl (.cons rfl (.c (.box (cs := a.data) rfl (VMs.self rfl))) (.cons rfl (.keep rfl) .nil)) (.skip .nil)) ?_
 refine jnm ?_
 refine jst hσ rfl rfl rfl rfl rfl ?_
 refine jn ?_
 refine AWP.seq ?_
 refine jsr ?_
 iterate 2 refine jst hσ rfl rfl rfl rfl rfl ?_
 refine jf [6, 2, 1, 0] rfl ?_
 refine AOps.lone hσ rfl rfl rfl rfl (c124 h1 h2) (VAs.self rfl) rfl rfl rfl rfl rfl (B0 := 8000) rfl ?_
 iterate 2 refine jst hσ rfl rfl rfl rfl rfl ?_
 refine jf [9, 2, 1, 0] rfl ?_
 refine AOps.gr 4 rfl rfl rfl (fun hx => AN.step hx rfl rfl rfl (Val.of hσ rfl rfl) rfl rfl ( AN.step hx rfl rfl rfl (Val.of hσ rfl rfl) rfl rfl ( AN.lone hσ hx rfl rfl rfl rfl (c125 h1 h2) (VAs.self rfl) rfl rfl rfl rfl rfl rfl rfl (B0 := 13000) rfl ( AN.step hx rfl rfl rfl (Val.of hσ rfl rfl) rfl rfl ( AN.nil))))) rfl rfl ?_
 first | refine AOps.step (Val.pickF hσ rfl rfl rfl rfl rfl) rfl rfl rfl ?_ | refine AOps.step (Val.pickB hσ rfl rfl rfl rfl rfl) rfl rfl rfl ?_ | refine AOps.step (Val.pickT hσ rfl rfl rfl rfl rfl) rfl rfl rfl ?_
 refine jst hσ rfl rfl rfl rfl rfl ?_
 refine jf [15, 2, 1, 0] rfl ?_
 refine AOps.gr 4 rfl rfl rfl (fun hx => AN.step hx rfl rfl rfl (Val.of hσ rfl rfl) rfl rfl ( AN.step hx rfl rfl rfl (Val.of hσ rfl rfl) rfl rfl ( AN.lone hσ hx rfl rfl rfl rfl (c125 h1 h2) (VAs.self rfl) rfl rfl rfl rfl rfl rfl rfl (B0 := 19000) rfl ( AN.step hx rfl rfl rfl (Val.of hσ rfl rfl) rfl rfl ( AN.nil))))) rfl rfl ?_
 first | refine AOps.step (Val.pickF hσ rfl rfl rfl rfl rfl) rfl rfl rfl ?_ | refine AOps.step (Val.pickB hσ rfl rfl rfl rfl rfl) rfl rfl rfl ?_ | refine AOps.step (Val.pickT hσ rfl rfl rfl rfl rfl) rfl rfl rfl ?_
 refine jst hσ rfl rfl rfl rfl rfl ?_
 refine jf [21, 2, 1, 0] rfl ?_
 refine AOps.gr 4 rfl rfl rfl (fun hx => AN.step hx rfl rfl rfl (Val.of hσ rfl rfl) rfl rfl ( AN.step hx rfl rfl rfl (Val.of hσ rfl rfl) rfl rfl ( AN.step hx rfl rfl rfl (Val.lenD hσ rfl rfl rfl rfl rfl rfl rfl rfl) rfl rfl ( AN.step hx rfl rfl rfl (Val.of hσ rfl rfl) rfl rfl ( AN.nil))))) rfl rfl ?_
 first | refine AOps.step (Val.pickF hσ rfl rfl rfl rfl rfl) rfl rfl rfl ?_ | refine AOps.step (Val.pickB hσ rfl rfl rfl rfl rfl) rfl rfl rfl ?_ | refine AOps.step (Val.pickT hσ rfl rfl rfl rfl rfl) rfl rfl rfl ?_
 refine jf [26, 2, 1, 0] rfl ?_
 refine jn ?_
 refine AWP.cond hσ rfl rfl (fun hc26 => ?_) (fun hc26 => ?_)
 ·
  skip
  refine jsr ?_
  refine jst hσ rfl rfl rfl rfl rfl ?_
  refine jn ?_
  refine AWP.ret ?_
  refine ⟨.inl rfl, _, Ent.refl, _, rfl, ?_⟩
  rw [ann_no hc26]
 ·
  skip
  refine AWP.skip ?_
  refine AWP.seq ?_
  refine jsr ?_
  iterate 2 refine jst hσ rfl rfl rfl rfl rfl ?_
  first | refine jle hσ rfl rfl rfl rfl rfl rfl rfl rfl rfl rfl rfl ?_ | refine jst hσ rfl rfl rfl rfl rfl ?_ | refine jvf hσ rfl rfl rfl rfl rfl ?_
  refine jst hσ rfl rfl rfl rfl rfl ?_
  refine jf [30, 29, 28, 2, 1, 0] rfl ?_
  refine jn ?_
  refine AWP.block ?_
  refine AWP.loopP (X := Nat) (fun i => ⟨[(1, ptr a.data), (28, apts a.pts), (29, eI a.pts.length), (30, eI i)], []⟩) (fun i => i ≤ a.pts.length ∧ ∀ j, j < i → ptB a.code.length a.pts j = true) (fun i => a.pts.length - i) 0 (Ent.env ⟨rfl, rfl, rfl, rfl, trivial⟩) ?_ (fun i hi => ?_)
  ·
   exact ⟨Nat.zero_le _, fun j hj => absurd hj (Nat.not_lt_zero j)⟩
  refine jsr ?_
  refine jst hσ rfl rfl rfl rfl rfl ?_
  refine jn ?_
  refine AWP.seq ?_
  refine AWP.cond hσ rfl rfl (fun hc31 => ?_) (fun hc31 => ?_)
  ·
   skip
   refine AWP.skip ?_
   refine AWP.seq ?_
   refine AWP.block ?_
   refine jsr ?_
   have hil : i < a.pts.length := by have := of_decide_eq_true hc31; omega
   have hcl := (codeB_len (ann_yes hc26).2.2).2
   refine jst hσ rfl rfl rfl rfl rfl ?_
   first | refine jin hσ rfl rfl rfl rfl rfl rfl rfl rfl rfl rfl rfl ?_ | refine jix hσ rfl rfl rfl rfl rfl rfl rfl rfl rfl rfl rfl ?_ | refine jvf hσ rfl rfl rfl rfl rfl ?_
   refine jst hσ rfl rfl rfl rfl rfl ?_
   refine jf [34, 32, 31, 1, 28, 29, 30] rfl ?_
   refine AOps.heap (HS.alloc hσ rfl rfl rfl rfl rfl) rfl ?_
   refine jnm ?_
   refine jst hσ rfl rfl rfl rfl rfl ?_
   refine jf [3, 4, 34, 31, 1, 28, 29, 30] rfl ?_
   refine AOps.heap (HS.storeBox hσ rfl rfl rfl rfl rfl rfl rfl rfl rfl rfl rfl) rfl ?_
   refine jnm ?_
   refine AOps.to (Ent.freeze 4 (e' := [(4, _), (1, _), (28, _), (29, _), (30, _), (3, _)]) rfl (.cons rfl (.c (.box (cs := (a.pts.getD i default).cells) rfl (VMs.self rfl))) (.cons rfl (.keep rfl) (.cons rfl (.keep rfl) (.cons rfl (.keep rfl) (.cons rfl (.keep rfl) (.cons rfl (.keep rfl) .nil)))))) (.skip .nil)) ?_
   refine jnm ?_
   refine jn ?_
   refine AWP.seq ?_
   refine AWP.mid (F := ⟨[(63, eB (bif (bif !terms (a.pts.getD i default).fs 6 then true else !(inB 0 ((a.code.length : Int) - 1) (a.pts.getD i default).k)) then true else (bif decide ((0 : Int) < i) then decide ((a.pts.getD i default).k ≤ (a.pts.getD (i - 1) default).k) else false))), (1, ptr a.data), (28, apts a.pts), (29, eI a.pts.length), (30, eI i)], []⟩) ?_ ?_
   ·
    skip
    cases hb6 : !terms (a.pts.getD i default).fs 6 with
    | true =>
     refine AWP.drawG hσ _ [_, _, _, _, _, _, _, _, _, _, _, _, _, _, _, _, _, _, _, _, _, _, _, _, _, _, _, _, _] [⟨[], 0, 0, none⟩, ⟨[0], 0, 0, none⟩, ⟨[0, 1], 0, 0, some 0⟩, ⟨[0, 1, 2], 1, 1, none⟩, ⟨[0, 1, 2, 3], 1, 1, none⟩, ⟨[0, 1, 2, 3, 4], 0, 1, none⟩, ⟨[0, 1, 2, 3, 4, 5], 0, 1, none⟩, ⟨[0, 1, 2, 3, 4], 0, 1, none⟩, ⟨[0, 1, 2, 3, 4, 7], 0, 1, none⟩, ⟨[0, 1, 2, 3, 4, 7, 8], 0, 1, none⟩, ⟨[0, 1, 2, 3, 4, 5, 6, 7, 8, 9], 0, 1, none⟩, ⟨[0, 1, 2, 3, 4, 5, 6, 7, 8, 9, 10], 0, 1, none⟩, ⟨[0, 1, 2, 3, 4, 5, 6, 7, 8, 9, 10, 11], 1, 1, none⟩, ⟨[0, 1, 2, 3, 4, 5, 6, 7, 8, 9, 10, 11, 12], 1, 1, none⟩, ⟨[0, 1, 2, 3, 4, 5, 6, 7, 8, 9, 10, 11, 12, 13], 0, 1, none⟩, ⟨[0, 1, 2, 3, 4, 5, 6, 7, 8, 9, 10, 11, 12, 13, 14], 0, 1, none⟩, ⟨[0, 1, 2, 3, 4, 5, 6, 7, 8, 9, 10, 11, 12, 13, 14, 15], 0, 1, none⟩, ⟨[0, 1, 2, 3, 4, 5, 6, 7, 8, 9, 10, 11, 12, 13, 14, 15, 16], 0, 1, none⟩, ⟨[0, 1, 2, 3, 4, 5, 6, 7, 8, 9, 10, 11, 12, 13, 14, 15, 16, 17], 0, 1, none⟩, ⟨[0, 1, 2, 3, 4, 5, 6, 7, 8, 9, 10, 11, 12, 13, 14, 15, 16], 0, 1, none⟩, ⟨[0, 1, 2, 3, 4, 5, 6, 7, 8, 9, 10, 11, 12, 13, 14, 15, 16, 19], 0, 1, none⟩, ⟨[0, 1, 2, 3, 4, 5, 6, 7, 8, 9, 10, 11, 12, 13, 14, 15, 16, 17, 18, 19, 20], 0, 1, none⟩, ⟨[0, 1, 2, 3, 4, 5, 6, 7, 8, 9, 10, 11, 12, 13, 14, 15, 16, 17, 18, 19, 20, 21], 0, 1, none⟩, ⟨[0, 1, 2, 3, 4, 5, 6, 7, 8, 9, 10, 11, 12, 13, 14, 15, 16, 17, 18, 19, 20, 21, 22], 0, 1, none⟩, ⟨[0, 1, 2, 3, 4, 5, 6, 7, 8, 9, 10, 11, 12, 13, 14, 15, 16], 0, 1, none⟩, ⟨[0, 1, 2, 3, 4, 5, 6, 7, 8, 9, 10, 11, 12, 13, 14, 15, 16, 24], 0, 1, none⟩, ⟨[0, 1, 2, 3, 4, 5, 6, 7, 8, 9, 10, 11, 12, 13, 14, 15, 16, 17, 18, 19, 20, 21, 22, 23, 24, 25], 0, 1, none⟩, ⟨[0, 1, 2, 3, 4, 5, 6, 7, 8, 9, 10, 11, 12, 13, 14, 15, 16, 17, 18, 19, 20, 21, 22, 23, 24, 25, 26], 0, 1, none⟩, ⟨[0, 1, 2, 3, 4, 5, 6, 7, 8, 9, 10, 11, 12, 13, 14, 15, 16, 17, 18, 19, 20, 21, 22, 23, 24, 25, 26, 27], 1, 1, none⟩] [2] [_, _] rfl rfl (by decide) (by decide) (by kernel_rfl) (And.intro (Val.of hσ rfl rfl) (And.intro (Val.of hσ rfl rfl) (And.intro (Eff.lone hσ (B0 := 38000) rfl rfl rfl rfl (c125 h1 h2) (VAs.self rfl) rfl rfl rfl rfl rfl) (And.intro ((Val.of hσ rfl rfl).cast (v' := eB true) (congrArg eB hb6)) (And.intro (Val.of hσ rfl rfl) (And.intro ⟨rfl, rfl⟩ (And.intro ⟨rfl, rfl⟩ (And.intro ⟨rfl, rfl⟩ (And.intro ⟨rfl, rfl⟩ (And.intro ⟨rfl, rfl⟩ (And.intro ⟨rfl, rfl⟩ (And.intro ⟨rfl, rfl⟩ (And.intro (Val.pickY hσ rfl rfl rfl rfl rfl) (And.intro (Val.of hσ rfl rfl) (And.intro ⟨rfl, rfl⟩ (And.intro ⟨rfl, rfl⟩ (And.intro ⟨rfl, rfl⟩ (And.intro ⟨rfl, rfl⟩ (And.intro ⟨rfl, rfl⟩ (And.intro ⟨rfl, rfl⟩ (And.intro ⟨rfl, rfl⟩ (And.intro ⟨rfl, rfl⟩ (And.intro ⟨rfl, rfl⟩ (And.intro ⟨rfl, rfl⟩ (And.intro ⟨rfl, rfl⟩ (And.intro ⟨rfl, rfl⟩ (And.intro ⟨rfl, rfl⟩ (And.intro ⟨rfl, rfl⟩ (And.intro (Val.pickY hσ rfl rfl rfl rfl rfl) trivial))))))))))))))))))))))))))))) ?_
     exact ⟨rfl, Ent.env ⟨rfl, rfl, rfl, rfl, rfl, trivial⟩⟩
    | false =>
     cases hb6b : !(inB 0 ((a.code.length : Int) - 1) (a.pts.getD i default).k) with
     | true =>
      refine AWP.drawG hσ _ [_, _, _, _, _, _, _, _, _, _, _, _, _, _, _, _, _, _, _, _, _, _, _, _, _, _, _, _, _] [⟨[], 0, 0, none⟩, ⟨[0], 0, 0, none⟩, ⟨[0, 1], 0, 0, some 0⟩, ⟨[0, 1, 2], 1, 1, none⟩, ⟨[0, 1, 2, 3], 1, 1, none⟩, ⟨[0, 1, 2, 3, 4], 1, 1, none⟩, ⟨[0, 1, 2, 3, 4, 5], 1, 1, none⟩, ⟨[0, 1, 2, 3, 4], 1, 1, none⟩, ⟨[0, 1, 2, 3, 4, 7], 1, 1, none⟩, ⟨[0, 1, 2, 3, 4, 7, 8], 1, 1, none⟩, ⟨[0, 1, 2, 3, 4, 5, 6, 7, 8, 9], 0, 0, some 1⟩, ⟨[0, 1, 2, 3, 4, 5, 6, 7, 8, 9, 10], 2, 2, none⟩, ⟨[0, 1, 2, 3, 4, 5, 6, 7, 8, 9, 10, 11], 2, 2, none⟩, ⟨[0, 1, 2, 3, 4, 5, 6, 7, 8, 9, 10, 11, 12], 2, 2, none⟩, ⟨[0, 1, 2, 3, 4, 5, 6, 7, 8, 9, 10, 11, 12, 13], 0, 2, none⟩, ⟨[0, 1, 2, 3, 4, 5, 6, 7, 8, 9, 10, 11, 12, 13, 14], 0, 2, none⟩, ⟨[0, 1, 2, 3, 4, 5, 6, 7, 8, 9, 10, 11, 12, 13, 14, 15], 0, 2, none⟩, ⟨[0, 1, 2, 3, 4, 5, 6, 7, 8, 9, 10, 11, 12, 13, 14, 15, 16], 0, 2, none⟩, ⟨[0, 1, 2, 3, 4, 5, 6, 7, 8, 9, 10, 11, 12, 13, 14, 15, 16, 17], 0, 2, none⟩, ⟨[0, 1, 2, 3, 4, 5, 6, 7, 8, 9, 10, 11, 12, 13, 14, 15, 16], 0, 2, none⟩, ⟨[0, 1, 2, 3, 4, 5, 6, 7, 8, 9, 10, 11, 12, 13, 14, 15, 16, 19], 0, 2, none⟩, ⟨[0, 1, 2, 3, 4, 5, 6, 7, 8, 9, 10, 11, 12, 13, 14, 15, 16, 17, 18, 19, 20], 0, 2, none⟩, ⟨[0, 1, 2, 3, 4, 5, 6, 7, 8, 9, 10, 11, 12, 13, 14, 15, 16, 17, 18, 19, 20, 21], 0, 2, none⟩, ⟨[0, 1, 2, 3, 4, 5, 6, 7, 8, 9, 10, 11, 12, 13, 14, 15, 16, 17, 18, 19, 20, 21, 22], 0, 2, none⟩, ⟨[0, 1, 2, 3, 4, 5, 6, 7, 8, 9, 10, 11, 12, 13, 14, 15, 16], 0, 2, none⟩, ⟨[0, 1, 2, 3, 4, 5, 6, 7, 8, 9, 10, 11, 12, 13, 14, 15, 16, 24], 0, 2, none⟩, ⟨[0, 1, 2, 3, 4, 5, 6, 7, 8, 9, 10, 11, 12, 13, 14, 15, 16, 17, 18, 19, 20, 21, 22, 23, 24, 25], 0, 2, none⟩, ⟨[0, 1, 2, 3, 4, 5, 6, 7, 8, 9, 10, 11, 12, 13, 14, 15, 16, 17, 18, 19, 20, 21, 22, 23, 24, 25, 26], 0, 2, none⟩, ⟨[0, 1, 2, 3, 4, 5, 6, 7, 8, 9, 10, 11, 12, 13, 14, 15, 16, 17, 18, 19, 20, 21, 22, 23, 24, 25, 26, 27], 2, 2, none⟩] [2, 10] [_, _, _] rfl rfl (by decide) (by decide) (by kernel_rfl) (And.intro (Val.of hσ rfl rfl) (And.intro (Val.of hσ rfl rfl) (And.intro (Eff.lone hσ (B0 := 38000) rfl rfl rfl rfl (c125 h1 h2) (VAs.self rfl) rfl rfl rfl rfl rfl) (And.intro ((Val.of hσ rfl rfl).cast (v' := eB false) (congrArg eB hb6)) (And.intro (Val.of hσ rfl rfl) (And.intro (Val.of hσ rfl rfl) (And.intro (Val.of hσ rfl rfl) (And.intro (Val.of hσ rfl rfl) (And.intro (Val.of hσ rfl rfl) (And.intro (Val.lenD hσ rfl rfl rfl rfl rfl rfl rfl rfl) (And.intro (Eff.lone hσ (B0 := 46000) rfl rfl rfl rfl (c90 (k := (a.pts.getD i default).k) (n := a.code.length) h1 h2 (by omega)) (VAs.self rfl) rfl rfl rfl rfl rfl) (And.intro ((Val.of hσ rfl rfl).cast (v' := eB true) (congrArg eB hb6b)) (And.intro (Val.pickN hσ rfl rfl rfl rfl rfl) (And.intro (Val.of hσ rfl rfl) (And.intro ⟨rfl, rfl⟩ (And.intro ⟨rfl, rfl⟩ (And.intro ⟨rfl, rfl⟩ (And.intro ⟨rfl, rfl⟩ (And.intro ⟨rfl, rfl⟩ (And.intro ⟨rfl, rfl⟩ (And.intro ⟨rfl, rfl⟩ (And.intro ⟨rfl, rfl⟩ (And.intro ⟨rfl, rfl⟩ (And.intro ⟨rfl, rfl⟩ (And.intro ⟨rfl, rfl⟩ (And.intro ⟨rfl, rfl⟩ (And.intro ⟨rfl, rfl⟩ (And.intro ⟨rfl, rfl⟩ (And.intro (Val.pickY hσ rfl rfl rfl rfl rfl) trivial))))))))))))))))))))))))))))) ?_
      exact ⟨rfl, Ent.env ⟨rfl, rfl, rfl, rfl, rfl, trivial⟩⟩
     | false =>
      cases hb6c : decide ((0 : Int) < i) with
      | true =>
       have hi0 : 0 < i := by have := of_decide_eq_true hb6c; omega
       refine AWP.drawG hσ _ [_, _, _, _, _, _, _, _, _, _, _, _, _, _, _, _, _, _, _, _, _, _, _, _, _, _, _, _, _] [⟨[], 0, 0, none⟩, ⟨[0], 0, 0, none⟩, ⟨[0, 1], 0, 0, some 0⟩, ⟨[0, 1, 2], 1, 1, none⟩, ⟨[0, 1, 2, 3], 1, 1, none⟩, ⟨[0, 1, 2, 3, 4], 1, 1, none⟩, ⟨[0, 1, 2, 3, 4, 5], 1, 1, none⟩, ⟨[0, 1, 2, 3, 4], 1, 1, none⟩, ⟨[0, 1, 2, 3, 4, 7], 1, 1, none⟩, ⟨[0, 1, 2, 3, 4, 7, 8], 1, 1, none⟩, ⟨[0, 1, 2, 3, 4, 5, 6, 7, 8, 9], 0, 0, some 1⟩, ⟨[0, 1, 2, 3, 4, 5, 6, 7, 8, 9, 10], 2, 2, none⟩, ⟨[0, 1, 2, 3, 4, 5, 6, 7, 8, 9, 10, 11], 2, 2, none⟩, ⟨[0, 1, 2, 3, 4, 5, 6, 7, 8, 9, 10, 11, 12], 2, 2, none⟩, ⟨[0, 1, 2, 3, 4, 5, 6, 7, 8, 9, 10, 11, 12, 13], 2, 2, none⟩, ⟨[0, 1, 2, 3, 4, 5, 6, 7, 8, 9, 10, 11, 12, 13, 14], 2, 2, none⟩, ⟨[0, 1, 2, 3, 4, 5, 6, 7, 8, 9, 10, 11, 12, 13, 14, 15], 2, 2, none⟩, ⟨[0, 1, 2, 3, 4, 5, 6, 7, 8, 9, 10, 11, 12, 13, 14, 15, 16], 2, 2, none⟩, ⟨[0, 1, 2, 3, 4, 5, 6, 7, 8, 9, 10, 11, 12, 13, 14, 15, 16, 17], 2, 2, none⟩, ⟨[0, 1, 2, 3, 4, 5, 6, 7, 8, 9, 10, 11, 12, 13, 14, 15, 16], 2, 2, none⟩, ⟨[0, 1, 2, 3, 4, 5, 6, 7, 8, 9, 10, 11, 12, 13, 14, 15, 16, 19], 2, 2, none⟩, ⟨[0, 1, 2, 3, 4, 5, 6, 7, 8, 9, 10, 11, 12, 13, 14, 15, 16, 17, 18, 19, 20], 2, 2, none⟩, ⟨[0, 1, 2, 3, 4, 5, 6, 7, 8, 9, 10, 11, 12, 13, 14, 15, 16, 17, 18, 19, 20, 21], 2, 2, none⟩, ⟨[0, 1, 2, 3, 4, 5, 6, 7, 8, 9, 10, 11, 12, 13, 14, 15, 16, 17, 18, 19, 20, 21, 22], 2, 2, none⟩, ⟨[0, 1, 2, 3, 4, 5, 6, 7, 8, 9, 10, 11, 12, 13, 14, 15, 16], 2, 2, none⟩, ⟨[0, 1, 2, 3, 4, 5, 6, 7, 8, 9, 10, 11, 12, 13, 14, 15, 16, 24], 2, 2, none⟩, ⟨[0, 1, 2, 3, 4, 5, 6, 7, 8, 9, 10, 11, 12, 13, 14, 15, 16, 17, 18, 19, 20, 21, 22, 23, 24, 25], 2, 2, none⟩, ⟨[0, 1, 2, 3, 4, 5, 6, 7, 8, 9, 10, 11, 12, 13, 14, 15, 16, 17, 18, 19, 20, 21, 22, 23, 24, 25, 26], 2, 2, none⟩, ⟨[0, 1, 2, 3, 4, 5, 6, 7, 8, 9, 10, 11, 12, 13, 14, 15, 16, 17, 18, 19, 20, 21, 22, 23, 24, 25, 26, 27], 2, 2, none⟩] [2, 10] [_, _, _] rfl rfl (by decide) (by decide) (by kernel_rfl) (And.intro (Val.of hσ rfl rfl) (And.intro (Val.of hσ rfl rfl) (And.intro (Eff.lone hσ (B0 := 38000) rfl rfl rfl rfl (c125 h1 h2) (VAs.self rfl) rfl rfl rfl rfl rfl) (And.intro ((Val.of hσ rfl rfl).cast (v' := eB false) (congrArg eB hb6)) (And.intro (Val.of hσ rfl rfl) (And.intro (Val.of hσ rfl rfl) (And.intro (Val.of hσ rfl rfl) (And.intro (Val.of hσ rfl rfl) (And.intro (Val.of hσ rfl rfl) (And.intro (Val.lenD hσ rfl rfl rfl rfl rfl rfl rfl rfl) (And.intro (Eff.lone hσ (B0 := 46000) rfl rfl rfl rfl (c90 (k := (a.pts.getD i default).k) (n := a.code.length) h1 h2 (by omega)) (VAs.self rfl) rfl rfl rfl rfl rfl) (And.intro ((Val.of hσ rfl rfl).cast (v' := eB false) (congrArg eB hb6b)) (And.intro (Val.pickN hσ rfl rfl rfl rfl rfl) (And.intro (Val.of hσ rfl rfl) (And.intro (Val.of hσ rfl rfl) (And.intro ((Val.of hσ rfl rfl).cast (v' := eB true) (congrArg eB hb6c)) (And.intro (Val.of hσ rfl rfl) (And.intro (Val.of hσ rfl rfl) (And.intro (Val.of hσ rfl rfl) (And.intro (Val.of hσ rfl rfl) (And.intro ((Val.fits64 hσ rfl rfl (by first | omega | (simp at *; omega)) (by first | omega | (simp at *; omega))).cast (v' := eI ((i - 1 : Nat) : Int)) (congrArg eI (by omega))) (And.intro (Val.indexN hσ rfl rfl rfl rfl rfl rfl rfl rfl (idxN (by first | omega | (simp at *; omega)))) (And.intro (Val.of hσ rfl rfl) (And.intro (Val.of hσ rfl rfl) (And.intro (Val.of hσ rfl rfl) (And.intro (Val.of hσ rfl rfl) (And.intro (Val.of hσ rfl rfl) (And.intro (Val.pickY hσ rfl rfl rfl rfl rfl) (And.intro (Val.pickN hσ rfl rfl rfl rfl rfl) trivial))))))))))))))))))))))))))))) ?_
       exact ⟨rfl, Ent.env ⟨rfl, rfl, rfl, rfl, rfl, trivial⟩⟩
      | false =>
       refine AWP.drawG hσ _ [_, _, _, _, _, _, _, _, _, _, _, _, _, _, _, _, _, _, _, _, _, _, _, _, _, _, _, _, _] [⟨[], 0, 0, none⟩, ⟨[0], 0, 0, none⟩, ⟨[0, 1], 0, 0, some 0⟩, ⟨[0, 1, 2], 1, 1, none⟩, ⟨[0, 1, 2, 3], 1, 1, none⟩, ⟨[0, 1, 2, 3, 4], 1, 1, none⟩, ⟨[0, 1, 2, 3, 4, 5], 1, 1, none⟩, ⟨[0, 1, 2, 3, 4], 1, 1, none⟩, ⟨[0, 1, 2, 3, 4, 7], 1, 1, none⟩, ⟨[0, 1, 2, 3, 4, 7, 8], 1, 1, none⟩, ⟨[0, 1, 2, 3, 4, 5, 6, 7, 8, 9], 0, 0, some 1⟩, ⟨[0, 1, 2, 3, 4, 5, 6, 7, 8, 9, 10], 2, 2, none⟩, ⟨[0, 1, 2, 3, 4, 5, 6, 7, 8, 9, 10, 11], 2, 2, none⟩, ⟨[0, 1, 2, 3, 4, 5, 6, 7, 8, 9, 10, 11, 12], 2, 2, none⟩, ⟨[0, 1, 2, 3, 4, 5, 6, 7, 8, 9, 10, 11, 12, 13], 2, 2, none⟩, ⟨[0, 1, 2, 3, 4, 5, 6, 7, 8, 9, 10, 11, 12, 13, 14], 2, 2, none⟩, ⟨[0, 1, 2, 3, 4, 5, 6, 7, 8, 9, 10, 11, 12, 13, 14, 15], 2, 2, none⟩, ⟨[0, 1, 2, 3, 4, 5, 6, 7, 8, 9, 10, 11, 12, 13, 14, 15, 16], 0, 2, none⟩, ⟨[0, 1, 2, 3, 4, 5, 6, 7, 8, 9, 10, 11, 12, 13, 14, 15, 16, 17], 0, 2, none⟩, ⟨[0, 1, 2, 3, 4, 5, 6, 7, 8, 9, 10, 11, 12, 13, 14, 15, 16], 0, 2, none⟩, ⟨[0, 1, 2, 3, 4, 5, 6, 7, 8, 9, 10, 11, 12, 13, 14, 15, 16, 19], 0, 2, none⟩, ⟨[0, 1, 2, 3, 4, 5, 6, 7, 8, 9, 10, 11, 12, 13, 14, 15, 16, 17, 18, 19, 20], 0, 2, none⟩, ⟨[0, 1, 2, 3, 4, 5, 6, 7, 8, 9, 10, 11, 12, 13, 14, 15, 16, 17, 18, 19, 20, 21], 0, 2, none⟩, ⟨[0, 1, 2, 3, 4, 5, 6, 7, 8, 9, 10, 11, 12, 13, 14, 15, 16, 17, 18, 19, 20, 21, 22], 0, 2, none⟩, ⟨[0, 1, 2, 3, 4, 5, 6, 7, 8, 9, 10, 11, 12, 13, 14, 15, 16], 0, 2, none⟩, ⟨[0, 1, 2, 3, 4, 5, 6, 7, 8, 9, 10, 11, 12, 13, 14, 15, 16, 24], 0, 2, none⟩, ⟨[0, 1, 2, 3, 4, 5, 6, 7, 8, 9, 10, 11, 12, 13, 14, 15, 16, 17, 18, 19, 20, 21, 22, 23, 24, 25], 0, 2, none⟩, ⟨[0, 1, 2, 3, 4, 5, 6, 7, 8, 9, 10, 11, 12, 13, 14, 15, 16, 17, 18, 19, 20, 21, 22, 23, 24, 25, 26], 2, 2, none⟩, ⟨[0, 1, 2, 3, 4, 5, 6, 7, 8, 9, 10, 11, 12, 13, 14, 15, 16, 17, 18, 19, 20, 21, 22, 23, 24, 25, 26, 27], 2, 2, none⟩] [2, 10] [_, _, _] rfl rfl (by decide) (by decide) (by kernel_rfl) (And.intro (Val.of hσ rfl rfl) (And.intro (Val.of hσ rfl rfl) (And.intro (Eff.lone hσ (B0 := 38000) rfl rfl rfl rfl (c125 h1 h2) (VAs.self rfl) rfl rfl rfl rfl rfl) (And.intro ((Val.of hσ rfl rfl).cast (v' := eB false) (congrArg eB hb6)) (And.intro (Val.of hσ rfl rfl) (And.intro (Val.of hσ rfl rfl) (And.intro (Val.of hσ rfl rfl) (And.intro (Val.of hσ rfl rfl) (And.intro (Val.of hσ rfl rfl) (And.intro (Val.lenD hσ rfl rfl rfl rfl rfl rfl rfl rfl) (And.intro (Eff.lone hσ (B0 := 46000) rfl rfl rfl rfl (c90 (k := (a.pts.getD i default).k) (n := a.code.length) h1 h2 (by omega)) (VAs.self rfl) rfl rfl rfl rfl rfl) (And.intro ((Val.of hσ rfl rfl).cast (v' := eB false) (congrArg eB hb6b)) (And.intro (Val.pickN hσ rfl rfl rfl rfl rfl) (And.intro (Val.of hσ rfl rfl) (And.intro (Val.of hσ rfl rfl) (And.intro ((Val.of hσ rfl rfl).cast (v' := eB false) (congrArg eB hb6c)) (And.intro (Val.of hσ rfl rfl) (And.intro ⟨rfl, rfl⟩ (And.intro ⟨rfl, rfl⟩ (And.intro ⟨rfl, rfl⟩ (And.intro ⟨rfl, rfl⟩ (And.intro ⟨rfl, rfl⟩ (And.intro ⟨rfl, rfl⟩ (And.intro ⟨rfl, rfl⟩ (And.intro ⟨rfl, rfl⟩ (And.intro ⟨rfl, rfl⟩ (And.intro ⟨rfl, rfl⟩ (And.intro (Val.pickN hσ rfl rfl rfl rfl rfl) (And.intro (Val.pickN hσ rfl rfl rfl rfl rfl) trivial))))))))))))))))))))))))))))) ?_
       exact ⟨rfl, Ent.env ⟨rfl, rfl, rfl, rfl, rfl, trivial⟩⟩
   refine AWP.cond hσ rfl rfl (fun hc63 => ?_) (fun hc63 => ?_)
   ·
    skip
    refine jsr ?_
    refine jst hσ rfl rfl rfl rfl rfl ?_
    refine jn ?_
    refine AWP.ret ?_
    refine ⟨.inl rfl, _, Ent.refl, _, rfl, ?_⟩
    rw [(ann_yes hc26).1, ptsB_not i hil (notF (pt_notI.symm.trans hc63))]
   ·
    skip
    refine AWP.skip ?_
    refine AWP.region ?_
    first | refine jfi hσ rfl rfl rfl rfl rfl ?_ | refine jvf hσ rfl rfl rfl rfl rfl ?_
    refine jst hσ rfl rfl rfl rfl rfl ?_
    refine jn ?_
    have h9 : ptB a.code.length a.pts i = true := notT (pt_notI.symm.trans hc63)
    refine ⟨i + 1, Ent.env ⟨rfl, rfl, rfl, rfl, trivial⟩, ⟨by omega, fun j hj => ?_⟩, by omega⟩
    by_cases e : j = i
    ·
     subst e; exact h9
    ·
     exact hi.2 j (by omega)
  ·
   skip
   refine AWP.exit ?_
   refine jsr ?_
   refine jst hσ rfl rfl rfl rfl rfl ?_
   refine jn ?_
   refine AWP.ret ?_
   refine ⟨.inl rfl, _, Ent.refl, _, rfl, ?_⟩
   rw [(ann_yes hc26).1, ptsB_of fun j hj => hi.2 j (by have := of_decide_eq_false hc31; omega)]
end Go.Al
namespace Go.Al
open Go.Proofs
set_option linter.unusedVariables false
set_option linter.unusedSimpArgs false
set_option maxRecDepth 10000
set_option maxHeartbeats 4000000
end Go.Al
namespace Go.Al
open Go.Proofs
set_option linter.unusedVariables false
set_option linter.unusedSimpArgs false
set_option maxRecDepth 10000
set_option maxHeartbeats 4000000
theorem take_min {α : Type} {l : List α} {n : Nat} : l.take (min n l.length) = l.take n := by
  rcases Nat.le_total n l.length with h | h
  · rw [Nat.min_eq_left h]
  · rw [Nat.min_eq_right h, List.take_length, List.take_of_length_le h]
theorem c178 {L : Nat} (h1 : 4096 ≤ L) (h2 : L ≤ 1073741824) {d : List Bool} {z : Int} (h0 : 0 ≤ z) (hd : d.length ≤ 1000) : MC Tryz.prog L 79 [eI z, ptr [boolsD d]] [] (Plain (eI (cntT d z.toNat))) := by
 refine MC.alone ?_ rfl
 have hσ := SGok (nt := 24) h1 (Nat.le_trans h2 (by decide))
 refine MC.body hσ Tryz.func79 (by kernel_rfl) rfl rfl (Nat.le_of_ble_eq_true rfl) (fun hF => ?_)
 have hm : min z.toNat d.length ≤ d.length := Nat.min_le_right _ _
 refine jsr ?_
 refine jst hσ rfl rfl rfl rfl rfl ?_
 refine jns ?_
 refine jst hσ rfl rfl rfl rfl rfl ?_
 refine jn ?_
 refine AWP.seq ?_
 refine AWP.seq ?_
 refine AWP.drawR hσ _ [_, _, _, _, _, _, _, _, _] [⟨[], 0, 1, none⟩, ⟨[], 0, 1, none⟩, ⟨[], 0, 0, none⟩, ⟨[2], 0, 0, none⟩, ⟨[2, 3], 0, 0, some 0⟩, ⟨[1, 2, 3, 4], 1, 1, none⟩, ⟨[0, 1, 2, 3, 4, 5], 1, 1, none⟩, ⟨[0, 1, 2, 3, 4, 5, 6], 1, 1, none⟩, ⟨[], 0, 1, none⟩] [4] [_, _] rfl rfl (by decide) (by decide) (by kernel_rfl) (And.intro (And.intro (Val.of hσ rfl rfl) (Val.of hσ rfl rfl)) (And.intro (And.intro (Val.of hσ rfl rfl) (Val.of hσ rfl rfl)) (And.intro (Val.of hσ rfl rfl) (And.intro (Val.lenD hσ rfl rfl rfl rfl rfl rfl rfl rfl) (And.intro (Eff.lone hσ (B0 := 12000) rfl rfl rfl rfl (c147 (n := d.length) h1 h2) (VAs.self rfl) rfl rfl rfl rfl rfl) (And.intro ((Val.of hσ rfl rfl).cast (v' := eI ((min z.toNat d.length : Nat) : Int)) (congrArg eI (by show (if (d.length : Int) < z then (d.length : Int) else z) = _; split <;> omega))) (And.intro (Val.sliceD (sz := 1) (xs := d.map bL) (a := 0) (b := min z.toNat d.length) (ys := (d.take z.toNat).map bL) hσ rfl rfl rfl rfl rfl rfl rfl rfl rfl rfl nat_i ⟨Nat.zero_le _, by rw [List.length_map]; exact hm⟩ (by rw [List.drop_zero, Nat.sub_zero, ← List.map_take, take_min])) (And.intro (Val.lenD hσ rfl rfl rfl rfl rfl rfl rfl rfl) (And.intro (And.intro (Val.of hσ rfl rfl) (Val.of hσ rfl rfl)) trivial))))))))) ?_
 refine jw [15, 14, 13, 4, 3] rfl ?_
 refine jnw ?_
 refine AWP.block ?_
 obtain ⟨e, he⟩ : ∃ e, e = d.take z.toNat := ⟨_, rfl⟩
 rw [← he]
 have hel : e.length ≤ 1000 := by rw [he, List.length_take]; omega
 refine AWP.loopP (X := Nat) (fun i => ⟨[(4, eI (cntT e i)), (13, .c (.d (boolsD e))), (14, eI e.length), (15, eI i)], []⟩) (fun i => i ≤ e.length) (fun i => e.length - i) 0 (Ent.env ⟨rfl, rfl, rfl, rfl, trivial⟩) ?_ (fun i hi => ?_)
 ·
  exact Nat.zero_le _
 refine jsr ?_
 refine jst hσ rfl rfl rfl rfl rfl ?_
 refine jn ?_
 refine AWP.seq ?_
 refine AWP.cond hσ rfl rfl (fun hc16 => ?_) (fun hc16 => ?_)
 ·
  skip
  refine AWP.skip ?_
  refine AWP.seq ?_
  refine AWP.block ?_
  refine jsr ?_
  have hil : i < e.length := by have := of_decide_eq_true hc16; omega
  have hci := cntT_le (d := e) (i := i)
  refine jin hσ rfl rfl rfl rfl rfl rfl rfl rfl rfl rfl rfl ?_
  iterate 2 refine jst hσ rfl rfl rfl rfl rfl ?_
  refine jf [6, 16, 4, 13, 14, 15] rfl ?_
  refine jns ?_
  refine jst hσ rfl rfl rfl rfl rfl ?_
  refine jn ?_
  refine AWP.cond hσ rfl rfl (fun hc19 => ?_) (fun hc19 => ?_)
  ·
   skip
   refine AWP.region ?_
   refine jst hσ rfl rfl rfl rfl rfl ?_
   refine AOps.step ((Val.fits64 hσ rfl rfl (by first | omega | (simp at *; omega)) (by first | omega | (simp at *; omega))).cast (v' := eI ((cntT e (i + 1) : Nat) : Int)) (congrArg eI (by rw [cntT_succ hil, if_pos hc19]; omega))) rfl rfl rfl ?_
   refine jst hσ rfl rfl rfl rfl rfl ?_
   refine jf [4, 19, 6, 16, 13, 14, 15] rfl ?_
   refine jn ?_
   refine AWP.region ?_
   first | refine jfi hσ rfl rfl rfl rfl rfl ?_ | refine jvf hσ rfl rfl rfl rfl rfl ?_
   refine jst hσ rfl rfl rfl rfl rfl ?_
   refine jn ?_
   exact ⟨i + 1, Ent.env ⟨rfl, rfl, rfl, rfl, trivial⟩, by omega, by omega⟩
  ·
   skip
   refine AWP.skip ?_
   refine AWP.region ?_
   first | refine jfi hσ rfl rfl rfl rfl rfl ?_ | refine jvf hσ rfl rfl rfl rfl rfl ?_
   refine jst hσ rfl rfl rfl rfl rfl ?_
   refine jn ?_
   have hs9 : cntT e (i + 1) = cntT e i := by rw [cntT_succ hil, if_neg (by rw [hc19]; decide)]; rfl
   rw [← hs9]
   exact ⟨i + 1, Ent.env ⟨rfl, rfl, rfl, rfl, trivial⟩, by omega, by omega⟩
 ·
  skip
  refine AWP.exit ?_
  refine jsr ?_
  iterate 2 refine jst hσ rfl rfl rfl rfl rfl ?_
  refine jn ?_
  refine AWP.ret ?_
  refine ⟨.inl rfl, _, Ent.refl, _, rfl, ?_⟩
  obtain rfl : i = e.length := by have := of_decide_eq_false hc16; omega
  rw [show cntT e e.length = cntT d z.toNat by rw [cntT, List.take_length, he]]
end Go.Al
namespace Go.Al
open Go.Proofs
set_option linter.unusedVariables false
set_option linter.unusedSimpArgs false
set_option maxRecDepth 10000
set_option maxHeartbeats 4000000
theorem lessI_j {d : List Bool} {x : In} (h : jmpB x = true) : lessI d x = ⟨x.op, x.a - cntT d x.a.toNat⟩ := if_pos h
theorem lessI_n {d : List Bool} {x : In} (h : jmpB x = false) : lessI d x = x := if_neg (by rw [h]; decide)
/-- What lets instructions be dropped. -/
structure WOk (a : An) (d : List Bool) : Prop where
  len : d.length = a.code.length
  c80 : a.code.length ≤ 80
  jmp : ∀ x ∈ a.code, -1000000 ≤ x.a ∧ x.a ≤ 1000000 ∧ (jmpB x = true → 0 ≤ x.a)
  pts : ∀ p ∈ a.pts, 0 ≤ p.k ∧ p.k ≤ 79
theorem c132 {L : Nat} (h1 : 4096 ≤ L) (h2 : L ≤ 1073741824) {a : An} {d : List Bool} (hw : WOk a d) : MC Tryz.prog L 46 [aAn a, .c (.d (boolsD d))] [] (Rows (anRs (withoutR d a)) (anBs (withoutR d a))) := by
 refine MC.rows ?_
 have hσ := SGok (nt := 73) h1 (Nat.le_trans h2 (by decide))
 refine MC.body hσ Tryz.func46 (by kernel_rfl) rfl rfl (Nat.le_of_ble_eq_true rfl) (fun hF => ?_)
 have hl : a.code.length ≤ L := by simpa [As.fact, A.fact, M.fact, Ms.fact, D.fact, Ds.fact] using hF.1.2.2.1.1
 have hlp : a.pts.length ≤ L := by simpa [As.fact, A.fact, M.fact, Ms.fact, D.fact, Ds.fact] using hF.1.2.2.2.1.1
 have hd80 : d.length ≤ 80 := hw.len ▸ hw.c80
 refine jsr ?_
 refine AOps.heap (HS.box hσ rfl rfl rfl rfl rfl rfl rfl) rfl ?_
 refine jnm ?_
 refine AOps.to (Ent.freeze 2 (e' := [(2, _), (1, _)]) rfl (.cons rfl (.c (.box (cs := a.data) rfl (VMs.self rfl))) (.cons rfl (.keep rfl) .nil)) (.skip .nil)) ?_
 refine jnm ?_
 refine AOps.heap (HS.box hσ rfl rfl rfl rfl rfl rfl rfl) rfl ?_
 refine jnm ?_
 refine AOps.to (Ent.freeze 3 (e' := [(3, _), (2, _)]) rfl (.cons rfl (.c (.box (cs := [boolsD d]) rfl (VMs.self rfl))) (.cons rfl (.keep rfl) .nil)) (.skip .nil)) ?_
 refine jnm ?_
 refine AOps.heap (HS.alloc hσ rfl rfl rfl rfl rfl) rfl ?_
 refine jnm ?_
 refine jn ?_
 refine AWP.seq ?_
 refine AWP.drawF2 hσ _ [_, _, _, _, _, _, _, _, _] [⟨[], 0, 0, none⟩, ⟨[0], 0, 0, none⟩, ⟨[0, 1], 0, 0, some 0⟩, ⟨[], 0, 1, none⟩, ⟨[3], 0, 1, none⟩, ⟨[0, 1, 2, 3, 4], 0, 0, some 1⟩, ⟨[0, 1, 2, 3, 4, 5], 2, 2, none⟩, ⟨[], 0, 2, none⟩, ⟨[0, 1, 2, 3, 4, 5, 6, 7], 0, 0, some 2⟩] [2, 5, 8] 7 5 (.box [.d .nils, .d .nils, .d .nils, .d .nils]) [_, _, _] [_] [[], [], []] rfl rfl (by decide) (by decide) (by decide) rfl (by kernel_rfl) (And.intro (And.intro (and_flip (Val.of hσ rfl rfl) (Val.of hσ rfl rfl)) rfl) (And.intro (And.intro (and_flip (Val.of hσ rfl rfl) (Val.of hσ rfl rfl)) rfl) (And.intro (And.intro (and_flip (Eff.p (Eff.rows hσ (B0 := 14000) rfl rfl rfl rfl (c91o (ts := a.pre) h1 h2) (VAs.self rfl) rfl rfl rfl rfl rfl)) (Eff.p (Eff.rows hσ (B0 := 14000) rfl rfl rfl rfl (c91o (ts := a.pre) h1 h2) (VAs.self rfl) rfl rfl rfl rfl rfl))) rfl) (And.intro (And.intro (And.intro (and_flip (Val.of hσ rfl rfl) (Val.of hσ rfl rfl)) rfl) (And.intro (and_flip (Val.of hσ rfl rfl) (Val.of hσ rfl rfl)) rfl)) (And.intro (And.intro (And.intro (and_flip (Val.of hσ rfl rfl) (Val.of hσ rfl rfl)) rfl) (And.intro (and_flip (Val.of hσ rfl rfl) (Val.of hσ rfl rfl)) rfl)) (And.intro (And.intro (and_flip (Eff.p (Eff.rows hσ (B0 := 17000) rfl rfl rfl rfl (c91o (ts := a.post) h1 h2) (VAs.self rfl) rfl rfl rfl rfl rfl)) (Eff.p (Eff.rows hσ (B0 := 17000) rfl rfl rfl rfl (c91o (ts := a.post) h1 h2) (VAs.self rfl) rfl rfl rfl rfl rfl))) rfl) (And.intro (And.intro (and_flip (Val.of hσ rfl rfl) (Val.of hσ rfl rfl)) rfl) (And.intro (And.intro (And.intro (Eff.p (Eff.alloc hσ rfl rfl rfl rfl rfl rfl)) rfl) (And.intro (And.intro (Eff.p (Eff.alloc hσ rfl rfl rfl rfl rfl rfl)) rfl) (And.intro (Eff.p (Eff.alloc hσ rfl rfl rfl rfl rfl rfl)) rfl))) (And.intro (And.intro (and_flip trivial (Eff.p (Eff.storeBox hσ rfl rfl rfl rfl rfl rfl rfl rfl rfl rfl rfl rfl rfl))) rfl) trivial))))))))) ?_
 refine jw [5, 4, 3, 2] rfl ?_
 refine jnw ?_
 refine jsr ?_
 iterate 2 refine jst hσ rfl rfl rfl rfl rfl ?_
 refine jn ?_
 refine AWP.seq ?_
 refine jsr ?_
 iterate 2 refine jst hσ rfl rfl rfl rfl rfl ?_
 first | refine jle hσ rfl rfl rfl rfl rfl rfl rfl rfl rfl rfl rfl ?_ | refine jst hσ rfl rfl rfl rfl rfl ?_ | refine jvf hσ rfl rfl rfl rfl rfl ?_
 refine jst hσ rfl rfl rfl rfl rfl ?_
 refine jn ?_
 refine AWP.block ?_
 refine AWP.loopP (X := Nat) (fun i => ⟨[(2, ptr a.data), (3, ptr [boolsD d]), (4, .c (.pt 4 0 0)), (5, .c (.pt 5 0 0)), (6, .c (.fn 79 [.d (.ptr [boolsD d] 0)])), (20, ains a.code), (21, eI a.code.length), (22, eI i)], [(4, .box [.d .nils, .d .nils, .d .nils, .d .nils]), (5, .box [.rs 14000 0 a.pre.length, .rs 17000 0 a.post.length, .rs 900 0 ((keepL (d.take i) (a.code.take i)).map (lessI d)).length, .d .nils]), (900, irow ((keepL (d.take i) (a.code.take i)).map (lessI d))), (14000, trow a.pre), (17000, trow a.post)]⟩) (fun i => i ≤ a.code.length) (fun i => a.code.length - i) 0 ((Ent.nameBox 5 900 2 true 2 rfl rfl rfl).trans (Ent.to ⟨rfl, rfl, rfl, rfl, rfl, rfl, rfl, rfl, trivial⟩ rfl)) ?_ (fun i hi => ?_)
 ·
  exact Nat.zero_le _
 refine jsr ?_
 refine jst hσ rfl rfl rfl rfl rfl ?_
 refine jn ?_
 refine AWP.seq ?_
 refine AWP.cond hσ rfl rfl (fun hc23 => ?_) (fun hc23 => ?_)
 ·
  skip
  refine AWP.skip ?_
  refine AWP.seq ?_
  refine AWP.block ?_
  refine jsr ?_
  refine jst hσ rfl rfl rfl rfl rfl ?_
  have hil : i < a.code.length := by have := of_decide_eq_true hc23; omega
  have hid : i < d.length := by rw [hw.len]; exact hil
  have hxi := hw.jmp _ (mem_getD hil)
  refine jin hσ rfl rfl rfl rfl rfl rfl rfl rfl rfl rfl rfl ?_
  refine jst hσ rfl rfl rfl rfl rfl ?_
  refine jf [26, 24, 23, 2, 3, 4, 5, 6, 20, 21, 22] rfl ?_
  refine AOps.heap (HS.alloc hσ rfl rfl rfl rfl rfl) rfl ?_
  refine jnm ?_
  refine jst hσ rfl rfl rfl rfl rfl ?_
  refine jf [7, 8, 26, 23, 2, 3, 4, 5, 6, 20, 21, 22] rfl ?_
  refine AOps.heap (HS.storeBox hσ rfl rfl rfl rfl rfl rfl rfl rfl rfl rfl rfl) rfl ?_
  refine jnm ?_
  refine jn ?_
  refine AWP.seq ?_
  refine jsr ?_
  iterate 2 refine jst hσ rfl rfl rfl rfl rfl ?_
  refine jin hσ rfl rfl rfl rfl rfl rfl rfl rfl rfl rfl rfl ?_
  refine jst hσ rfl rfl rfl rfl rfl ?_
  refine jf [30, 8, 26, 23, 2, 3, 4, 5, 6, 20, 21, 22] rfl ?_
  refine jn ?_
  refine AWP.cond hσ rfl rfl (fun hc30 => ?_) (fun hc30 => ?_)
  ·
   skip
   refine AWP.exit ?_
   refine AWP.region ?_
   first | refine jfi hσ rfl rfl rfl rfl rfl ?_ | refine jvf hσ rfl rfl rfl rfl rfl ?_
   refine jst hσ rfl rfl rfl rfl rfl ?_
   refine jn ?_
   have hK0 : ((keepL (d.take (i + 1)) (a.code.take (i + 1))).map (lessI d)) = ((keepL (d.take i) (a.code.take i)).map (lessI d)) := by rw [keepL_succ hid hil, if_pos hc30, List.append_nil]
   rw [← hK0]
   refine ⟨i + 1, (Ent.sel [4, 5, 900, 14000, 17000] (e' := [(2, _), (3, _), (4, _), (5, _), (6, _), (20, _), (21, _), (22, _)]) rfl rfl ⟨rfl, rfl, rfl, rfl, rfl, rfl, rfl, rfl, trivial⟩ rfl).trans (Ent.to ⟨rfl, rfl, rfl, rfl, rfl, rfl, rfl, rfl, trivial⟩ rfl), by omega, by omega⟩
  ·
   skip
   refine AWP.skip ?_
   refine AWP.seq ?_
   refine jsr ?_
   refine jst hσ rfl rfl rfl rfl rfl ?_
   refine AOps.lone hσ rfl rfl rfl rfl (c130 (x := (a.code.getD i default)) h1 h2) (VAs.self rfl) rfl rfl rfl rfl rfl (B0 := 33000) rfl ?_
   refine jn ?_
   refine AWP.cond hσ rfl rfl (fun hc32 => ?_) (fun hc32 => ?_)
   ·
    skip
    have hx0 := hxi.2.2 hc32
    have hct := cntT_len (d := d) (i := (a.code.getD i default).a.toNat)
    refine AWP.drawR hσ _ [_, _, _, _, _, _, _, _, _] [⟨[], 0, 1, none⟩, ⟨[0], 0, 1, none⟩, ⟨[], 0, 0, none⟩, ⟨[], 0, 0, none⟩, ⟨[3], 0, 0, none⟩, ⟨[2, 3, 4], 0, 0, some 0⟩, ⟨[0, 1, 2, 3, 4, 5], 1, 1, none⟩, ⟨[0, 1, 2, 3, 4, 5, 6], 1, 1, none⟩, ⟨[0, 1, 2, 3, 4, 5, 6, 7], 0, 0, some 1⟩] [5, 8] [_, _, _] rfl rfl (by decide) (by decide) (by kernel_rfl) (And.intro (And.intro (Val.of hσ rfl rfl) (Val.of hσ rfl rfl)) (And.intro (And.intro (Val.of hσ rfl rfl) (Val.of hσ rfl rfl)) (And.intro (Val.of hσ rfl rfl) (And.intro (Val.of hσ rfl rfl) (And.intro (Val.of hσ rfl rfl) (And.intro (Eff.lone hσ (B0 := 39000) rfl rfl rfl rfl (c178 (d := d) (z := (a.code.getD i default).a) h1 h2 hx0 (by omega)) (VAs.self rfl) rfl rfl rfl rfl rfl) (And.intro (Val.fits64 hσ rfl rfl (by first | omega | (simp at *; omega)) (by first | omega | (simp at *; omega))) (And.intro (Val.of hσ rfl rfl) (And.intro (Eff.storeBox hσ rfl rfl rfl rfl rfl rfl rfl rfl rfl rfl rfl rfl rfl) trivial))))))))) ?_
    refine jw [32, 31, 30, 8, 26, 23, 2, 3, 4, 5, 6, 20, 21, 22] rfl ?_
    refine jnw ?_
    refine AWP.region ?_
    have hK1 : ((keepL (d.take (i + 1)) (a.code.take (i + 1))).map (lessI d)) = ((keepL (d.take i) (a.code.take i)).map (lessI d)) ++ [lessI d (a.code.getD i default)] := by rw [keepL_succ hid hil, if_neg (by rw [hc30]; decide), List.map_append]; rfl
    have hKl : ((keepL (d.take (i + 1)) (a.code.take (i + 1))).map (lessI d)).length = ((keepL (d.take i) (a.code.take i)).map (lessI d)).length + 1 := by rw [hK1, List.length_append]; rfl
    have hKi : ((keepL (d.take i) (a.code.take i)).map (lessI d)).length ≤ i := by rw [List.length_map]; exact Nat.le_trans keepL_len (by rw [List.length_take]; omega)
    first | have hlx := lessI_j (d := d) hc32 | have hlx := lessI_n (d := d) hc32
    iterate 3 refine jst hσ rfl rfl rfl rfl rfl ?_
    refine jf [43, 42, 32, 31, 30, 8, 26, 23, 2, 3, 4, 5, 6, 20, 21, 22] rfl ?_
    refine AOps.heap (HS.lit hσ rfl rfl rfl) rfl ?_
    refine jnm ?_
    refine jf [44, 42, 32, 31, 30, 8, 26, 23, 2, 3, 4, 5, 6, 20, 21, 22] rfl ?_
    refine AOps.heap (HS.appMove (zs := ((keepL (d.take (i + 1)) (a.code.take (i + 1))).map (lessI d)).map In.cells) (n := ((keepL (d.take (i + 1)) (a.code.take (i + 1))).map (lessI d)).length) hσ rfl rfl rfl rfl rfl rfl rfl rfl rfl rfl rfl rfl rfl rfl rfl rfl (.row rfl (List.length_map _).symm) rfl rfl (by decide) rfl (by simp only [List.length_map, List.length_cons, List.length_nil] at *; omega) (by simp only [List.length_map, List.length_cons, List.length_nil] at *; omega) (by rw [hK1, List.map_append, hlx]; rfl) (List.length_map _)) rfl ?_
    refine jnm ?_
    refine jnm ?_
    refine jst hσ rfl rfl rfl rfl rfl ?_
    refine jf [46, 45, 32, 31, 30, 8, 26, 23, 2, 3, 4, 5, 6, 20, 21, 22] rfl ?_
    refine AOps.heap (HS.storeBox hσ rfl rfl rfl rfl rfl rfl rfl rfl rfl rfl rfl) rfl ?_
    refine jnm ?_
    refine jf [32, 31, 30, 8, 26, 23, 2, 3, 4, 5, 6, 20, 21, 22] rfl ?_
    refine jn ?_
    refine AWP.region ?_
    first | refine jfi hσ rfl rfl rfl rfl rfl ?_ | refine jvf hσ rfl rfl rfl rfl rfl ?_
    refine jst hσ rfl rfl rfl rfl rfl ?_
    refine jn ?_
    refine ⟨i + 1, ((Ent.sel [4, 5, 45, 14000, 17000] (e' := [(2, _), (3, _), (4, _), (5, _), (6, _), (20, _), (21, _), (22, _)]) rfl rfl ⟨rfl, rfl, rfl, rfl, rfl, rfl, rfl, rfl, trivial⟩ rfl).trans (Ent.sub2 45 900 rfl rfl)), by omega, by omega⟩
   ·
    skip
    refine AWP.skip ?_
    refine AWP.region ?_
    have hK1 : ((keepL (d.take (i + 1)) (a.code.take (i + 1))).map (lessI d)) = ((keepL (d.take i) (a.code.take i)).map (lessI d)) ++ [lessI d (a.code.getD i default)] := by rw [keepL_succ hid hil, if_neg (by rw [hc30]; decide), List.map_append]; rfl
    have hKl : ((keepL (d.take (i + 1)) (a.code.take (i + 1))).map (lessI d)).length = ((keepL (d.take i) (a.code.take i)).map (lessI d)).length + 1 := by rw [hK1, List.length_append]; rfl
    have hKi : ((keepL (d.take i) (a.code.take i)).map (lessI d)).length ≤ i := by rw [List.length_map]; exact Nat.le_trans keepL_len (by rw [List.length_take]; omega)
    first | have hlx := lessI_j (d := d) hc32 | have hlx := lessI_n (d := d) hc32
    iterate 3 refine jst hσ rfl rfl rfl rfl rfl ?_
    refine jf [43, 42, 32, 31, 30, 8, 26, 23, 2, 3, 4, 5, 6, 20, 21, 22] rfl ?_
    refine AOps.heap (HS.lit hσ rfl rfl rfl) rfl ?_
    refine jnm ?_
    refine jf [44, 42, 32, 31, 30, 8, 26, 23, 2, 3, 4, 5, 6, 20, 21, 22] rfl ?_
    refine AOps.heap (HS.appMove (zs := ((keepL (d.take (i + 1)) (a.code.take (i + 1))).map (lessI d)).map In.cells) (n := ((keepL (d.take (i + 1)) (a.code.take (i + 1))).map (lessI d)).length) hσ rfl rfl rfl rfl rfl rfl rfl rfl rfl rfl rfl rfl rfl rfl rfl rfl (.row rfl (List.length_map _).symm) rfl rfl (by decide) rfl (by simp only [List.length_map, List.length_cons, List.length_nil] at *; omega) (by simp only [List.length_map, List.length_cons, List.length_nil] at *; omega) (by rw [hK1, List.map_append, hlx]; rfl) (List.length_map _)) rfl ?_
    refine jnm ?_
    refine jnm ?_
    refine jst hσ rfl rfl rfl rfl rfl ?_
    refine jf [46, 45, 32, 31, 30, 8, 26, 23, 2, 3, 4, 5, 6, 20, 21, 22] rfl ?_
    refine AOps.heap (HS.storeBox hσ rfl rfl rfl rfl rfl rfl rfl rfl rfl rfl rfl) rfl ?_
    refine jnm ?_
    refine jf [32, 31, 30, 8, 26, 23, 2, 3, 4, 5, 6, 20, 21, 22] rfl ?_
    refine jn ?_
    refine AWP.region ?_
    first | refine jfi hσ rfl rfl rfl rfl rfl ?_ | refine jvf hσ rfl rfl rfl rfl rfl ?_
    refine jst hσ rfl rfl rfl rfl rfl ?_
    refine jn ?_
    refine ⟨i + 1, ((Ent.sel [4, 5, 45, 14000, 17000] (e' := [(2, _), (3, _), (4, _), (5, _), (6, _), (20, _), (21, _), (22, _)]) rfl rfl ⟨rfl, rfl, rfl, rfl, rfl, rfl, rfl, rfl, trivial⟩ rfl).trans (Ent.sub2 45 900 rfl rfl)), by omega, by omega⟩
 ·
  skip
  refine AWP.exit ?_
  refine AWP.seq ?_
  refine jsr ?_
  obtain rfl : i = a.code.length := by have := of_decide_eq_false hc23; omega
  have hKn : ((keepL (d.take a.code.length) (a.code.take a.code.length)).map (lessI d)) = (withoutR d a).code := by rw [List.take_length, ← hw.len, List.take_length]; rfl
  rw [hKn]
  iterate 2 refine jst hσ rfl rfl rfl rfl rfl ?_
  first | refine jle hσ rfl rfl rfl rfl rfl rfl rfl rfl rfl rfl rfl ?_ | refine jst hσ rfl rfl rfl rfl rfl ?_ | refine jvf hσ rfl rfl rfl rfl rfl ?_
  refine jst hσ rfl rfl rfl rfl rfl ?_
  refine jn ?_
  refine AWP.block ?_
  refine AWP.loopP (X := Nat) (fun i => ⟨[(4, .c (.pt 4 0 0)), (5, .c (.pt 5 0 0)), (6, .c (.fn 79 [.d (.ptr [boolsD d] 0)])), (49, apts a.pts), (50, eI a.pts.length), (51, eI i)], [(4, .box [.d .nils, .d .nils, .d .nils, .d .nils]), (5, .box [.rs 14000 0 a.pre.length, .rs 17000 0 a.post.length, .rs 900 0 (withoutR d a).code.length, .rs 901 0 i]), (900, irow (withoutR d a).code), (901, prow ((a.pts.take i).map (lessP d))), (14000, trow a.pre), (17000, trow a.post)]⟩) (fun i => i ≤ a.pts.length) (fun i => a.pts.length - i) 0 ((Ent.nameBox 5 901 2 true 3 rfl rfl rfl).trans (Ent.to ⟨rfl, rfl, rfl, rfl, rfl, rfl, trivial⟩ rfl)) ?_ (fun i hi => ?_)
  ·
   exact Nat.zero_le _
  refine jsr ?_
  refine jst hσ rfl rfl rfl rfl rfl ?_
  refine jn ?_
  refine AWP.seq ?_
  refine AWP.cond hσ rfl rfl (fun hc52 => ?_) (fun hc52 => ?_)
  ·
   skip
   refine AWP.skip ?_
   refine AWP.seq ?_
   refine AWP.block ?_
   refine jsr ?_
   have hil : i < a.pts.length := by have := of_decide_eq_true hc52; omega
   have hpi := hw.pts _ (mem_gd hil)
   refine jin hσ rfl rfl rfl rfl rfl rfl rfl rfl rfl rfl rfl ?_
   refine jst hσ rfl rfl rfl rfl rfl ?_
   refine jf [54, 52, 4, 5, 6, 49, 50, 51] rfl ?_
   refine AOps.heap (HS.alloc hσ rfl rfl rfl rfl rfl) rfl ?_
   refine jnm ?_
   refine AOps.heap (HS.storeBox hσ rfl rfl rfl rfl rfl rfl rfl rfl rfl rfl rfl) rfl ?_
   refine jnm ?_
   refine jn ?_
   have hct := cntT_len (d := d) (i := (a.pts.getD i default).k.toNat)
   refine AWP.drawP hσ _ [_, _, _, _, _, _, _, _, _, _, _, _, _, _, _, _, _] [⟨[], 0, 3, none⟩, ⟨[0], 0, 3, none⟩, ⟨[], 0, 2, none⟩, ⟨[2], 0, 2, none⟩, ⟨[], 0, 0, none⟩, ⟨[], 0, 0, none⟩, ⟨[5], 0, 0, none⟩, ⟨[4, 5, 6], 0, 0, some 0⟩, ⟨[2, 3, 4, 5, 6, 7], 1, 2, none⟩, ⟨[], 0, 1, none⟩, ⟨[9], 0, 1, none⟩, ⟨[4, 5, 6, 7, 9, 10], 0, 0, some 1⟩, ⟨[2, 3, 4, 5, 6, 7, 8, 9, 10, 11], 2, 2, none⟩, ⟨[2, 3, 4, 5, 6, 7, 8, 9, 10, 11, 12], 0, 0, some 2⟩, ⟨[0, 1, 2, 3, 4, 5, 6, 7, 8, 9, 10, 11, 12, 13], 0, 0, some 3⟩, ⟨[0, 1, 2, 3, 4, 5, 6, 7, 8, 9, 10, 11, 12, 13, 14], 4, 4, none⟩, ⟨[0, 1, 2, 3, 4, 5, 6, 7, 8, 9, 10, 11, 12, 13, 14, 15], 0, 0, some 4⟩] [7, 11, 13, 14, 16] [_, _, _, _, _, _] [[], [], [67000], [901, 68], []] rfl rfl (by decide) (by decide) (by kernel_rfl) (And.intro (And.intro (And.intro (Val.of hσ rfl rfl) rfl) (And.intro (And.intro (Val.of hσ rfl rfl) rfl) (And.intro (And.intro (Val.of hσ rfl rfl) rfl) (And.intro (Val.of hσ rfl rfl) rfl)))) (And.intro (And.intro (And.intro (Val.of hσ rfl rfl) rfl) (And.intro (And.intro (Val.of hσ rfl rfl) rfl) (And.intro (And.intro (Val.of hσ rfl rfl) rfl) (And.intro (Val.of hσ rfl rfl) rfl)))) (And.intro (And.intro (And.intro (Val.of hσ rfl rfl) rfl) (And.intro (And.intro (Val.of hσ rfl rfl) rfl) (And.intro (Val.of hσ rfl rfl) rfl))) (And.intro (And.intro (And.intro (Val.of hσ rfl rfl) rfl) (And.intro (And.intro (Val.of hσ rfl rfl) rfl) (And.intro (Val.of hσ rfl rfl) rfl))) (And.intro (And.intro (Val.of hσ rfl rfl) rfl) (And.intro (And.intro (Val.of hσ rfl rfl) rfl) (And.intro (And.intro (Val.of hσ rfl rfl) rfl) (And.intro (And.intro (Eff.p (Eff.lone hσ (B0 := 63000) rfl rfl rfl rfl (c178 (d := d) (z := (a.pts.getD i default).k) h1 h2 hpi.1 (by omega)) (VAs.self rfl) rfl rfl rfl rfl rfl)) rfl) (And.intro (And.intro (And.intro (Val.fits64 hσ rfl rfl (by first | omega | (simp at *; omega)) (by first | omega | (simp at *; omega))) rfl) (And.intro (Val.fits64 hσ rfl rfl (by first | omega | (simp at *; omega)) (by first | omega | (simp at *; omega))) rfl)) (And.intro (And.intro (And.intro (Val.of hσ rfl rfl) rfl) (And.intro (Val.of hσ rfl rfl) rfl)) (And.intro (And.intro (And.intro (Val.of hσ rfl rfl) rfl) (And.intro (Val.of hσ rfl rfl) rfl)) (And.intro (And.intro (Eff.p (Eff.rows hσ (B0 := 67000) rfl rfl rfl rfl (c91o (ts := (a.pts.getD i default).fs) h1 h2) (VAs.self rfl) rfl rfl rfl rfl rfl)) rfl) (And.intro (And.intro (Val.of hσ rfl rfl) rfl) (And.intro (And.intro (Eff.litAbs (l := 67000) (ds := (lessP d (a.pts.getD i default)).cells) hσ rfl rfl rfl rfl rfl rfl rfl rfl rfl rfl rfl rfl (fun e => .d rfl (.rs rfl (List.length_map _).symm .nil)) rfl rfl) rfl) (And.intro (And.intro (Eff.appMove (xs := ((a.pts.take i).map (lessP d)).map Pt.cells) (ys := [(lessP d (a.pts.getD i default)).cells]) (zs := ((a.pts.take (i + 1)).map (lessP d)).map Pt.cells) (n := i + 1) hσ rfl rfl rfl rfl rfl rfl rfl rfl rfl rfl rfl rfl rfl rfl rfl rfl (.row rfl (by simp; omega)) rfl rfl (by decide) rfl (by simp; omega) (by simp; omega) (by rw [List.take_succ_eq_append_getElem (show i < a.pts.length by omega), getD_lt (show i < a.pts.length by omega), List.map_append, List.map_append]; rfl) (by simp; omega) rfl) rfl) (And.intro (And.intro (Val.of hσ rfl rfl) rfl) (And.intro (And.intro (Eff.p (Eff.storeBox hσ rfl rfl rfl rfl rfl rfl rfl rfl rfl rfl rfl rfl rfl)) rfl) trivial))))))))))))))))) ?_
   refine jw [10, 54, 52, 4, 5, 6, 49, 50, 51] rfl ?_
   refine jnw ?_
   refine AWP.region ?_
   first | refine jfi hσ rfl rfl rfl rfl rfl ?_ | refine jvf hσ rfl rfl rfl rfl rfl ?_
   refine jst hσ rfl rfl rfl rfl rfl ?_
   refine jn ?_
   refine ⟨i + 1, ((Ent.sel [4, 5, 900, 69, 14000, 17000] (e' := [(4, _), (5, _), (6, _), (49, _), (50, _), (51, _)]) rfl rfl ⟨rfl, rfl, rfl, rfl, rfl, rfl, trivial⟩ rfl).trans (Ent.sub2 69 901 rfl rfl)).trans (Ent.to ⟨rfl, rfl, rfl, rfl, rfl, rfl, trivial⟩ rfl), by omega, by omega⟩
  ·
   skip
   refine AWP.exit ?_
   refine jsr ?_
   refine jst hσ rfl rfl rfl rfl rfl ?_
   refine AOps.heap (HS.storeBox hσ rfl rfl rfl rfl rfl rfl rfl rfl rfl rfl rfl) rfl ?_
   refine jnm ?_
   refine jn ?_
   refine AWP.ret ?_
   obtain rfl : i = a.pts.length := by have := of_decide_eq_false hc52; omega
   rw [List.take_length]
   have hpl : a.pts.length = (withoutR d a).pts.length := by simp [withoutR]
   rw [hpl]
   refine ⟨.inl rfl, _, Ent.refl, _, rfl, [14000, 17000, 900, 901], by decide, rfl, rfl, rfl⟩
end Go.Al
