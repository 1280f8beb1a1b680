/- The program's folding: validity, rules, copies. -/
import Derived.Test.YtnepkogijffmjaaM
namespace Go.Al
open Go.Proofs
set_option linter.unusedVariables false
set_option linter.unusedSimpArgs false
set_option maxRecDepth 10000
set_option maxHeartbeats 4000000
theorem c194 {L : Nat} (h1 : 4096 ≤ L) (h2 : L ≤ 1073741824) {x : Int} : MC Try.prog L 85 [eI x] [] (Plain (eB (inB 0 79 x))) := by
 refine MC.alone ?_ rfl
 have hσ := SGok (nt := 5) h1 (Nat.le_trans h2 (by decide))
 refine MC.body hσ Try.func85 (by kernel_rfl) rfl rfl (Nat.le_of_ble_eq_true rfl) (fun hF => ?_)
 refine AWP.seq ?_
 refine AWP.region ?_
 refine AOps.step (Val.of hσ rfl rfl) rfl rfl rfl ?_
 refine AOps.nil ?_
 refine AWP.seq ?_
 refine AWP.region ?_
 refine AOps.step (Val.of hσ rfl rfl) rfl rfl rfl ?_
 refine AOps.lone hσ rfl rfl rfl rfl (c111 h1 h2) (VAs.self rfl) rfl rfl rfl rfl rfl (B0 := 5000) rfl ?_
 refine AOps.step (Val.of hσ rfl rfl) rfl rfl rfl ?_
 refine AOps.nil ?_
 refine AWP.ret ?_
 refine ⟨.inl rfl, _, Ent.refl, _, rfl, ?_⟩
 first | rfl | skip
theorem c168 {L : Nat} (h1 : 4096 ≤ L) (h2 : L ≤ 1073741824) {x : In} : MC Try.prog L 69 [.agg (x.cells.map .d)] [] (Plain (eB (instrB x))) := by
 refine MC.alone ?_ rfl
 have hσ := SGok (nt := 37) h1 (Nat.le_trans h2 (by decide))
 refine MC.body hσ Try.func69 (by kernel_rfl) rfl rfl (Nat.le_of_ble_eq_true rfl) (fun hF => ?_)
 refine AWP.seq ?_
 refine AWP.region ?_
 refine AOps.heap (HS.box hσ rfl rfl rfl rfl rfl rfl rfl) rfl ?_
 refine AOps.step (Val.of hσ rfl rfl) rfl rfl rfl ?_
 refine AOps.nil ?_
 refine AWP.seq ?_
 refine AWP.seq ?_
 refine AWP.region ?_
 refine AOps.step (Val.of hσ rfl rfl) rfl rfl rfl ?_
 refine AOps.step (Val.of hσ rfl rfl) rfl rfl rfl ?_
 refine AOps.nil ?_
 refine AWP.block ?_
 refine AWP.seq ?_
 refine AWP.seq ?_
 refine AWP.region ?_
 refine AOps.step (Val.of hσ rfl rfl) rfl rfl rfl ?_
 refine AOps.step (Val.of hσ rfl rfl) rfl rfl rfl ?_
 refine AOps.nil ?_
 refine AWP.cond hσ rfl rfl (fun hc5 => ?_) (fun hc5 => ?_)
 ·
  try simp only [List.length_map, beq_iff_eq, decide_eq_true_eq, decide_eq_false_iff_not, Bool.not_eq_true', Bool.not_eq_false', Bool.not_true, Bool.not_false, Int.not_lt, Int.not_le] at hc5
  refine AWP.skip ?_
  refine AWP.cond hσ rfl rfl (fun hc5 => ?_) (fun hc5 => ?_)
  ·
   try simp only [List.length_map, beq_iff_eq, decide_eq_true_eq, decide_eq_false_iff_not, Bool.not_eq_true', Bool.not_eq_false', Bool.not_true, Bool.not_false, Int.not_lt, Int.not_le] at hc5
   refine AWP.seq ?_
   refine AWP.region ?_
   refine AOps.step (Val.of hσ rfl rfl) rfl rfl rfl ?_
   refine AOps.step (Val.of hσ rfl rfl) rfl rfl rfl ?_
   refine AOps.forget [(9, _), (6, _), (4, _), (3, _), (2, _), (1, _), (0, _)] ⟨rfl, rfl, rfl, rfl, rfl, rfl, rfl, trivial⟩ ?_
   refine AOps.lone hσ rfl rfl rfl rfl (c176 h1 h2) (VAs.self rfl) rfl rfl rfl rfl rfl (B0 := 11000) rfl ?_
   refine AOps.step (Val.of hσ rfl rfl) rfl rfl rfl ?_
   refine AOps.forget [(2, _), (6, _), (4, _), (3, _), (1, _), (0, _)] ⟨rfl, rfl, rfl, rfl, rfl, rfl, trivial⟩ ?_
   refine AOps.nil ?_
   refine AWP.ret ?_
   refine ⟨.inl rfl, _, Ent.refl, _, rfl, ?_⟩
   unfold instrB inB; simp_all
  ·
   try simp only [List.length_map, beq_iff_eq, decide_eq_true_eq, decide_eq_false_iff_not, Bool.not_eq_true', Bool.not_eq_false', Bool.not_true, Bool.not_false, Int.not_lt, Int.not_le] at hc5
   contradiction
 ·
  try simp only [List.length_map, beq_iff_eq, decide_eq_true_eq, decide_eq_false_iff_not, Bool.not_eq_true', Bool.not_eq_false', Bool.not_true, Bool.not_false, Int.not_lt, Int.not_le] at hc5
  refine AWP.region ?_
  refine AOps.step (Val.of hσ rfl rfl) rfl rfl rfl ?_
  refine AOps.step (Val.of hσ rfl rfl) rfl rfl rfl ?_
  refine AOps.nil ?_
  refine AWP.cond hσ rfl rfl (fun hc5 => ?_) (fun hc5 => ?_)
  ·
   try simp only [List.length_map, beq_iff_eq, decide_eq_true_eq, decide_eq_false_iff_not, Bool.not_eq_true', Bool.not_eq_false', Bool.not_true, Bool.not_false, Int.not_lt, Int.not_le] at hc5
   refine AWP.seq ?_
   refine AWP.region ?_
   refine AOps.step (Val.of hσ rfl rfl) rfl rfl rfl ?_
   refine AOps.step (Val.of hσ rfl rfl) rfl rfl rfl ?_
   refine AOps.forget [(9, _), (7, _), (6, _), (4, _), (3, _), (2, _), (1, _), (0, _)] ⟨rfl, rfl, rfl, rfl, rfl, rfl, rfl, rfl, trivial⟩ ?_
   refine AOps.lone hσ rfl rfl rfl rfl (c176 h1 h2) (VAs.self rfl) rfl rfl rfl rfl rfl (B0 := 11000) rfl ?_
   refine AOps.step (Val.of hσ rfl rfl) rfl rfl rfl ?_
   refine AOps.forget [(2, _), (7, _), (6, _), (4, _), (3, _), (1, _), (0, _)] ⟨rfl, rfl, rfl, rfl, rfl, rfl, rfl, trivial⟩ ?_
   refine AOps.nil ?_
   refine AWP.ret ?_
   refine ⟨.inl rfl, _, Ent.refl, _, rfl, ?_⟩
   unfold instrB inB; simp_all
  ·
   try simp only [List.length_map, beq_iff_eq, decide_eq_true_eq, decide_eq_false_iff_not, Bool.not_eq_true', Bool.not_eq_false', Bool.not_true, Bool.not_false, Int.not_lt, Int.not_le] at hc5
   refine AWP.seq ?_
   refine AWP.seq ?_
   refine AWP.region ?_
   refine AOps.step (Val.of hσ rfl rfl) rfl rfl rfl ?_
   refine AOps.step (Val.of hσ rfl rfl) rfl rfl rfl ?_
   refine AOps.forget [(11, _), (7, _), (6, _), (4, _), (3, _), (2, _), (1, _), (0, _)] ⟨rfl, rfl, rfl, rfl, rfl, rfl, rfl, rfl, trivial⟩ ?_
   refine AOps.nil ?_
   refine AWP.cond hσ rfl rfl (fun hc11 => ?_) (fun hc11 => ?_)
   ·
    try simp only [List.length_map, beq_iff_eq, decide_eq_true_eq, decide_eq_false_iff_not, Bool.not_eq_true', Bool.not_eq_false', Bool.not_true, Bool.not_false, Int.not_lt, Int.not_le] at hc11
    refine AWP.skip ?_
    refine AWP.cond hσ rfl rfl (fun hc11 => ?_) (fun hc11 => ?_)
    ·
     try simp only [List.length_map, beq_iff_eq, decide_eq_true_eq, decide_eq_false_iff_not, Bool.not_eq_true', Bool.not_eq_false', Bool.not_true, Bool.not_false, Int.not_lt, Int.not_le] at hc11
     refine AWP.seq ?_
     refine AWP.region ?_
     refine AOps.step (Val.of hσ rfl rfl) rfl rfl rfl ?_
     refine AOps.step (Val.of hσ rfl rfl) rfl rfl rfl ?_
     refine AOps.forget [(15, _), (7, _), (6, _), (4, _), (3, _), (2, _), (1, _), (0, _)] ⟨rfl, rfl, rfl, rfl, rfl, rfl, rfl, rfl, trivial⟩ ?_
     refine AOps.lone hσ rfl rfl rfl rfl (c193 h1 h2) (VAs.self rfl) rfl rfl rfl rfl rfl (B0 := 17000) rfl ?_
     refine AOps.step (Val.of hσ rfl rfl) rfl rfl rfl ?_
     refine AOps.forget [(2, _), (7, _), (6, _), (4, _), (3, _), (1, _), (0, _)] ⟨rfl, rfl, rfl, rfl, rfl, rfl, rfl, trivial⟩ ?_
     refine AOps.nil ?_
     refine AWP.ret ?_
     refine ⟨.inl rfl, _, Ent.refl, _, rfl, ?_⟩
     unfold instrB inB; simp_all
    ·
     try simp only [List.length_map, beq_iff_eq, decide_eq_true_eq, decide_eq_false_iff_not, Bool.not_eq_true', Bool.not_eq_false', Bool.not_true, Bool.not_false, Int.not_lt, Int.not_le] at hc11
     contradiction
   ·
    try simp only [List.length_map, beq_iff_eq, decide_eq_true_eq, decide_eq_false_iff_not, Bool.not_eq_true', Bool.not_eq_false', Bool.not_true, Bool.not_false, Int.not_lt, Int.not_le] at hc11
    refine AWP.region ?_
    refine AOps.step (Val.of hσ rfl rfl) rfl rfl rfl ?_
    refine AOps.step (Val.of hσ rfl rfl) rfl rfl rfl ?_
    refine AOps.nil ?_
    refine AWP.cond hσ rfl rfl (fun hc11 => ?_) (fun hc11 => ?_)
    ·
     try simp only [List.length_map, beq_iff_eq, decide_eq_true_eq, decide_eq_false_iff_not, Bool.not_eq_true', Bool.not_eq_false', Bool.not_true, Bool.not_false, Int.not_lt, Int.not_le] at hc11
     refine AWP.seq ?_
     refine AWP.region ?_
     refine AOps.step (Val.of hσ rfl rfl) rfl rfl rfl ?_
     refine AOps.step (Val.of hσ rfl rfl) rfl rfl rfl ?_
     refine AOps.forget [(15, _), (13, _), (7, _), (6, _), (4, _), (3, _), (2, _), (1, _), (0, _)] ⟨rfl, rfl, rfl, rfl, rfl, rfl, rfl, rfl, rfl, trivial⟩ ?_
     refine AOps.lone hσ rfl rfl rfl rfl (c193 h1 h2) (VAs.self rfl) rfl rfl rfl rfl rfl (B0 := 17000) rfl ?_
     refine AOps.step (Val.of hσ rfl rfl) rfl rfl rfl ?_
     refine AOps.forget [(2, _), (13, _), (7, _), (6, _), (4, _), (3, _), (1, _), (0, _)] ⟨rfl, rfl, rfl, rfl, rfl, rfl, rfl, rfl, trivial⟩ ?_
     refine AOps.nil ?_
     refine AWP.ret ?_
     refine ⟨.inl rfl, _, Ent.refl, _, rfl, ?_⟩
     unfold instrB inB; simp_all
    ·
     try simp only [List.length_map, beq_iff_eq, decide_eq_true_eq, decide_eq_false_iff_not, Bool.not_eq_true', Bool.not_eq_false', Bool.not_true, Bool.not_false, Int.not_lt, Int.not_le] at hc11
     refine AWP.seq ?_
     refine AWP.seq ?_
     refine AWP.region ?_
     refine AOps.step (Val.of hσ rfl rfl) rfl rfl rfl ?_
     refine AOps.step (Val.of hσ rfl rfl) rfl rfl rfl ?_
     refine AOps.forget [(17, _), (13, _), (7, _), (6, _), (4, _), (3, _), (2, _), (1, _), (0, _)] ⟨rfl, rfl, rfl, rfl, rfl, rfl, rfl, rfl, rfl, trivial⟩ ?_
     refine AOps.nil ?_
     refine AWP.cond hσ rfl rfl (fun hc17 => ?_) (fun hc17 => ?_)
     ·
      try simp only [List.length_map, beq_iff_eq, decide_eq_true_eq, decide_eq_false_iff_not, Bool.not_eq_true', Bool.not_eq_false', Bool.not_true, Bool.not_false, Int.not_lt, Int.not_le] at hc17
      refine AWP.skip ?_
      refine AWP.cond hσ rfl rfl (fun hc17 => ?_) (fun hc17 => ?_)
      ·
       try simp only [List.length_map, beq_iff_eq, decide_eq_true_eq, decide_eq_false_iff_not, Bool.not_eq_true', Bool.not_eq_false', Bool.not_true, Bool.not_false, Int.not_lt, Int.not_le] at hc17
       refine AWP.seq ?_
       refine AWP.region ?_
       refine AOps.step (Val.of hσ rfl rfl) rfl rfl rfl ?_
       refine AOps.step (Val.of hσ rfl rfl) rfl rfl rfl ?_
       refine AOps.forget [(21, _), (13, _), (7, _), (6, _), (4, _), (3, _), (2, _), (1, _), (0, _)] ⟨rfl, rfl, rfl, rfl, rfl, rfl, rfl, rfl, rfl, trivial⟩ ?_
       refine AOps.lone hσ rfl rfl rfl rfl (c194 h1 h2) (VAs.self rfl) rfl rfl rfl rfl rfl (B0 := 23000) rfl ?_
       refine AOps.step (Val.of hσ rfl rfl) rfl rfl rfl ?_
       refine AOps.forget [(2, _), (13, _), (7, _), (6, _), (4, _), (3, _), (1, _), (0, _)] ⟨rfl, rfl, rfl, rfl, rfl, rfl, rfl, rfl, trivial⟩ ?_
       refine AOps.nil ?_
       refine AWP.ret ?_
       refine ⟨.inl rfl, _, Ent.refl, _, rfl, ?_⟩
       unfold instrB inB; simp_all
      ·
       try simp only [List.length_map, beq_iff_eq, decide_eq_true_eq, decide_eq_false_iff_not, Bool.not_eq_true', Bool.not_eq_false', Bool.not_true, Bool.not_false, Int.not_lt, Int.not_le] at hc17
       contradiction
     ·
      try simp only [List.length_map, beq_iff_eq, decide_eq_true_eq, decide_eq_false_iff_not, Bool.not_eq_true', Bool.not_eq_false', Bool.not_true, Bool.not_false, Int.not_lt, Int.not_le] at hc17
      refine AWP.region ?_
      refine AOps.step (Val.of hσ rfl rfl) rfl rfl rfl ?_
      refine AOps.step (Val.of hσ rfl rfl) rfl rfl rfl ?_
      refine AOps.nil ?_
      refine AWP.cond hσ rfl rfl (fun hc17 => ?_) (fun hc17 => ?_)
      ·
       try simp only [List.length_map, beq_iff_eq, decide_eq_true_eq, decide_eq_false_iff_not, Bool.not_eq_true', Bool.not_eq_false', Bool.not_true, Bool.not_false, Int.not_lt, Int.not_le] at hc17
       refine AWP.seq ?_
       refine AWP.region ?_
       refine AOps.step (Val.of hσ rfl rfl) rfl rfl rfl ?_
       refine AOps.step (Val.of hσ rfl rfl) rfl rfl rfl ?_
       refine AOps.forget [(21, _), (19, _), (13, _), (7, _), (6, _), (4, _), (3, _), (2, _), (1, _), (0, _)] ⟨rfl, rfl, rfl, rfl, rfl, rfl, rfl, rfl, rfl, rfl, trivial⟩ ?_
       refine AOps.lone hσ rfl rfl rfl rfl (c194 h1 h2) (VAs.self rfl) rfl rfl rfl rfl rfl (B0 := 23000) rfl ?_
       refine AOps.step (Val.of hσ rfl rfl) rfl rfl rfl ?_
       refine AOps.forget [(2, _), (19, _), (13, _), (7, _), (6, _), (4, _), (3, _), (1, _), (0, _)] ⟨rfl, rfl, rfl, rfl, rfl, rfl, rfl, rfl, rfl, trivial⟩ ?_
       refine AOps.nil ?_
       refine AWP.ret ?_
       refine ⟨.inl rfl, _, Ent.refl, _, rfl, ?_⟩
       unfold instrB inB; simp_all
      ·
       try simp only [List.length_map, beq_iff_eq, decide_eq_true_eq, decide_eq_false_iff_not, Bool.not_eq_true', Bool.not_eq_false', Bool.not_true, Bool.not_false, Int.not_lt, Int.not_le] at hc17
       refine AWP.seq ?_
       refine AWP.region ?_
       refine AOps.step (Val.of hσ rfl rfl) rfl rfl rfl ?_
       refine AOps.step (Val.of hσ rfl rfl) rfl rfl rfl ?_
       refine AOps.forget [(23, _), (19, _), (13, _), (7, _), (6, _), (4, _), (3, _), (2, _), (1, _), (0, _)] ⟨rfl, rfl, rfl, rfl, rfl, rfl, rfl, rfl, rfl, rfl, trivial⟩ ?_
       refine AOps.nil ?_
       refine AWP.cond hσ rfl rfl (fun hc23 => ?_) (fun hc23 => ?_)
       ·
        try simp only [List.length_map, beq_iff_eq, decide_eq_true_eq, decide_eq_false_iff_not, Bool.not_eq_true', Bool.not_eq_false', Bool.not_true, Bool.not_false, Int.not_lt, Int.not_le] at hc23
        refine AWP.seq ?_
        refine AWP.region ?_
        refine AOps.step (Val.of hσ rfl rfl) rfl rfl rfl ?_
        refine AOps.step (Val.of hσ rfl rfl) rfl rfl rfl ?_
        refine AOps.forget [(26, _), (19, _), (13, _), (7, _), (6, _), (4, _), (3, _), (2, _), (1, _), (0, _)] ⟨rfl, rfl, rfl, rfl, rfl, rfl, rfl, rfl, rfl, rfl, trivial⟩ ?_
        refine AOps.lone hσ rfl rfl rfl rfl (c195 h1 h2) (VAs.self rfl) rfl rfl rfl rfl rfl (B0 := 28000) rfl ?_
        refine AOps.step (Val.of hσ rfl rfl) rfl rfl rfl ?_
        refine AOps.forget [(2, _), (19, _), (13, _), (7, _), (6, _), (4, _), (3, _), (1, _), (0, _)] ⟨rfl, rfl, rfl, rfl, rfl, rfl, rfl, rfl, rfl, trivial⟩ ?_
        refine AOps.nil ?_
        refine AWP.ret ?_
        refine ⟨.inl rfl, _, Ent.refl, _, rfl, ?_⟩
        unfold instrB inB; simp_all
       ·
        try simp only [List.length_map, beq_iff_eq, decide_eq_true_eq, decide_eq_false_iff_not, Bool.not_eq_true', Bool.not_eq_false', Bool.not_true, Bool.not_false, Int.not_lt, Int.not_le] at hc23
        refine AWP.seq ?_
        refine AWP.seq ?_
        refine AWP.region ?_
        refine AOps.step (Val.of hσ rfl rfl) rfl rfl rfl ?_
        refine AOps.step (Val.of hσ rfl rfl) rfl rfl rfl ?_
        refine AOps.forget [(28, _), (19, _), (13, _), (7, _), (6, _), (4, _), (3, _), (2, _), (1, _), (0, _)] ⟨rfl, rfl, rfl, rfl, rfl, rfl, rfl, rfl, rfl, rfl, trivial⟩ ?_
        refine AOps.nil ?_
        refine AWP.cond hσ rfl rfl (fun hc28 => ?_) (fun hc28 => ?_)
        ·
         try simp only [List.length_map, beq_iff_eq, decide_eq_true_eq, decide_eq_false_iff_not, Bool.not_eq_true', Bool.not_eq_false', Bool.not_true, Bool.not_false, Int.not_lt, Int.not_le] at hc28
         refine AWP.skip ?_
         refine AWP.cond hσ rfl rfl (fun hc28 => ?_) (fun hc28 => ?_)
         ·
          try simp only [List.length_map, beq_iff_eq, decide_eq_true_eq, decide_eq_false_iff_not, Bool.not_eq_true', Bool.not_eq_false', Bool.not_true, Bool.not_false, Int.not_lt, Int.not_le] at hc28
          refine AWP.seq ?_
          refine AWP.region ?_
          refine AOps.step (Val.of hσ rfl rfl) rfl rfl rfl ?_
          refine AOps.step (Val.of hσ rfl rfl) rfl rfl rfl ?_
          refine AOps.step (Val.of hσ rfl rfl) rfl rfl rfl ?_
          refine AOps.step (Val.of hσ rfl rfl) rfl rfl rfl ?_
          refine AOps.forget [(2, _), (28, _), (19, _), (13, _), (7, _), (6, _), (4, _), (3, _), (1, _), (0, _)] ⟨rfl, rfl, rfl, rfl, rfl, rfl, rfl, rfl, rfl, rfl, trivial⟩ ?_
          refine AOps.nil ?_
          refine AWP.ret ?_
          refine ⟨.inl rfl, _, Ent.refl, _, rfl, ?_⟩
          unfold instrB inB; simp_all
         ·
          try simp only [List.length_map, beq_iff_eq, decide_eq_true_eq, decide_eq_false_iff_not, Bool.not_eq_true', Bool.not_eq_false', Bool.not_true, Bool.not_false, Int.not_lt, Int.not_le] at hc28
          contradiction
        ·
         try simp only [List.length_map, beq_iff_eq, decide_eq_true_eq, decide_eq_false_iff_not, Bool.not_eq_true', Bool.not_eq_false', Bool.not_true, Bool.not_false, Int.not_lt, Int.not_le] at hc28
         refine AWP.seq ?_
         refine AWP.region ?_
         refine AOps.step (Val.of hσ rfl rfl) rfl rfl rfl ?_
         refine AOps.step (Val.of hσ rfl rfl) rfl rfl rfl ?_
         refine AOps.nil ?_
         refine AWP.cond hσ rfl rfl (fun hc28 => ?_) (fun hc28 => ?_)
         ·
          try simp only [List.length_map, beq_iff_eq, decide_eq_true_eq, decide_eq_false_iff_not, Bool.not_eq_true', Bool.not_eq_false', Bool.not_true, Bool.not_false, Int.not_lt, Int.not_le] at hc28
          refine AWP.skip ?_
          refine AWP.cond hσ rfl rfl (fun hc28 => ?_) (fun hc28 => ?_)
          ·
           try simp only [List.length_map, beq_iff_eq, decide_eq_true_eq, decide_eq_false_iff_not, Bool.not_eq_true', Bool.not_eq_false', Bool.not_true, Bool.not_false, Int.not_lt, Int.not_le] at hc28
           refine AWP.seq ?_
           refine AWP.region ?_
           refine AOps.step (Val.of hσ rfl rfl) rfl rfl rfl ?_
           refine AOps.step (Val.of hσ rfl rfl) rfl rfl rfl ?_
           refine AOps.step (Val.of hσ rfl rfl) rfl rfl rfl ?_
           refine AOps.step (Val.of hσ rfl rfl) rfl rfl rfl ?_
           refine AOps.forget [(2, _), (28, _), (30, _), (19, _), (13, _), (7, _), (6, _), (4, _), (3, _), (1, _), (0, _)] ⟨rfl, rfl, rfl, rfl, rfl, rfl, rfl, rfl, rfl, rfl, rfl, trivial⟩ ?_
           refine AOps.nil ?_
           refine AWP.ret ?_
           refine ⟨.inl rfl, _, Ent.refl, _, rfl, ?_⟩
           unfold instrB inB; simp_all
          ·
           try simp only [List.length_map, beq_iff_eq, decide_eq_true_eq, decide_eq_false_iff_not, Bool.not_eq_true', Bool.not_eq_false', Bool.not_true, Bool.not_false, Int.not_lt, Int.not_le] at hc28
           contradiction
         ·
          try simp only [List.length_map, beq_iff_eq, decide_eq_true_eq, decide_eq_false_iff_not, Bool.not_eq_true', Bool.not_eq_false', Bool.not_true, Bool.not_false, Int.not_lt, Int.not_le] at hc28
          refine AWP.seq ?_
          refine AWP.region ?_
          refine AOps.step (Val.of hσ rfl rfl) rfl rfl rfl ?_
          refine AOps.step (Val.of hσ rfl rfl) rfl rfl rfl ?_
          refine AOps.nil ?_
          refine AWP.cond hσ rfl rfl (fun hc28 => ?_) (fun hc28 => ?_)
          ·
           try simp only [List.length_map, beq_iff_eq, decide_eq_true_eq, decide_eq_false_iff_not, Bool.not_eq_true', Bool.not_eq_false', Bool.not_true, Bool.not_false, Int.not_lt, Int.not_le] at hc28
           refine AWP.skip ?_
           refine AWP.cond hσ rfl rfl (fun hc28 => ?_) (fun hc28 => ?_)
           ·
            try simp only [List.length_map, beq_iff_eq, decide_eq_true_eq, decide_eq_false_iff_not, Bool.not_eq_true', Bool.not_eq_false', Bool.not_true, Bool.not_false, Int.not_lt, Int.not_le] at hc28
            refine AWP.seq ?_
            refine AWP.region ?_
            refine AOps.step (Val.of hσ rfl rfl) rfl rfl rfl ?_
            refine AOps.step (Val.of hσ rfl rfl) rfl rfl rfl ?_
            refine AOps.step (Val.of hσ rfl rfl) rfl rfl rfl ?_
            refine AOps.step (Val.of hσ rfl rfl) rfl rfl rfl ?_
            refine AOps.forget [(2, _), (28, _), (31, _), (30, _), (19, _), (13, _), (7, _), (6, _), (4, _), (3, _), (1, _), (0, _)] ⟨rfl, rfl, rfl, rfl, rfl, rfl, rfl, rfl, rfl, rfl, rfl, rfl, trivial⟩ ?_
            refine AOps.nil ?_
            refine AWP.ret ?_
            refine ⟨.inl rfl, _, Ent.refl, _, rfl, ?_⟩
            unfold instrB inB; simp_all
           ·
            try simp only [List.length_map, beq_iff_eq, decide_eq_true_eq, decide_eq_false_iff_not, Bool.not_eq_true', Bool.not_eq_false', Bool.not_true, Bool.not_false, Int.not_lt, Int.not_le] at hc28
            contradiction
          ·
           try simp only [List.length_map, beq_iff_eq, decide_eq_true_eq, decide_eq_false_iff_not, Bool.not_eq_true', Bool.not_eq_false', Bool.not_true, Bool.not_false, Int.not_lt, Int.not_le] at hc28
           refine AWP.seq ?_
           refine AWP.region ?_
           refine AOps.step (Val.of hσ rfl rfl) rfl rfl rfl ?_
           refine AOps.step (Val.of hσ rfl rfl) rfl rfl rfl ?_
           refine AOps.nil ?_
           refine AWP.cond hσ rfl rfl (fun hc28 => ?_) (fun hc28 => ?_)
           ·
            try simp only [List.length_map, beq_iff_eq, decide_eq_true_eq, decide_eq_false_iff_not, Bool.not_eq_true', Bool.not_eq_false', Bool.not_true, Bool.not_false, Int.not_lt, Int.not_le] at hc28
            refine AWP.skip ?_
            refine AWP.cond hσ rfl rfl (fun hc28 => ?_) (fun hc28 => ?_)
            ·
             try simp only [List.length_map, beq_iff_eq, decide_eq_true_eq, decide_eq_false_iff_not, Bool.not_eq_true', Bool.not_eq_false', Bool.not_true, Bool.not_false, Int.not_lt, Int.not_le] at hc28
             refine AWP.seq ?_
             refine AWP.region ?_
             refine AOps.step (Val.of hσ rfl rfl) rfl rfl rfl ?_
             refine AOps.step (Val.of hσ rfl rfl) rfl rfl rfl ?_
             refine AOps.step (Val.of hσ rfl rfl) rfl rfl rfl ?_
             refine AOps.step (Val.of hσ rfl rfl) rfl rfl rfl ?_
             refine AOps.forget [(2, _), (32, _), (31, _), (30, _), (19, _), (13, _), (7, _), (6, _), (4, _), (3, _), (1, _), (0, _)] ⟨rfl, rfl, rfl, rfl, rfl, rfl, rfl, rfl, rfl, rfl, rfl, rfl, trivial⟩ ?_
             refine AOps.nil ?_
             refine AWP.ret ?_
             refine ⟨.inl rfl, _, Ent.refl, _, rfl, ?_⟩
             unfold instrB inB; simp_all
            ·
             try simp only [List.length_map, beq_iff_eq, decide_eq_true_eq, decide_eq_false_iff_not, Bool.not_eq_true', Bool.not_eq_false', Bool.not_true, Bool.not_false, Int.not_lt, Int.not_le] at hc28
             contradiction
           ·
            try simp only [List.length_map, beq_iff_eq, decide_eq_true_eq, decide_eq_false_iff_not, Bool.not_eq_true', Bool.not_eq_false', Bool.not_true, Bool.not_false, Int.not_lt, Int.not_le] at hc28
            refine AWP.region ?_
            refine AOps.step (Val.of hσ rfl rfl) rfl rfl rfl ?_
            refine AOps.step (Val.of hσ rfl rfl) rfl rfl rfl ?_
            refine AOps.nil ?_
            refine AWP.cond hσ rfl rfl (fun hc28 => ?_) (fun hc28 => ?_)
            ·
             try simp only [List.length_map, beq_iff_eq, decide_eq_true_eq, decide_eq_false_iff_not, Bool.not_eq_true', Bool.not_eq_false', Bool.not_true, Bool.not_false, Int.not_lt, Int.not_le] at hc28
             refine AWP.seq ?_
             refine AWP.region ?_
             refine AOps.step (Val.of hσ rfl rfl) rfl rfl rfl ?_
             refine AOps.step (Val.of hσ rfl rfl) rfl rfl rfl ?_
             refine AOps.step (Val.of hσ rfl rfl) rfl rfl rfl ?_
             refine AOps.step (Val.of hσ rfl rfl) rfl rfl rfl ?_
             refine AOps.forget [(2, _), (33, _), (32, _), (31, _), (30, _), (19, _), (13, _), (7, _), (6, _), (4, _), (3, _), (1, _), (0, _)] ⟨rfl, rfl, rfl, rfl, rfl, rfl, rfl, rfl, rfl, rfl, rfl, rfl, rfl, trivial⟩ ?_
             refine AOps.nil ?_
             refine AWP.ret ?_
             refine ⟨.inl rfl, _, Ent.refl, _, rfl, ?_⟩
             unfold instrB inB; simp_all
            ·
             try simp only [List.length_map, beq_iff_eq, decide_eq_true_eq, decide_eq_false_iff_not, Bool.not_eq_true', Bool.not_eq_false', Bool.not_true, Bool.not_false, Int.not_lt, Int.not_le] at hc28
             refine AWP.skip ?_
             refine AWP.seq ?_
             refine AWP.region ?_
             refine AOps.step (Val.of hσ rfl rfl) rfl rfl rfl ?_
             refine AOps.nil ?_
             refine AWP.ret ?_
             refine ⟨.inl rfl, _, Ent.refl, _, rfl, ?_⟩
             unfold instrB inB; simp_all
theorem c167 {L : Nat} (h1 : 4096 ≤ L) (h2 : L ≤ 1073741824) {x : In} : MC Try.prog L 68 [.agg (x.cells.map .d)] [] (Plain (eB (!instrB x))) := by
 refine MC.alone ?_ rfl
 have hσ := SGok (nt := 6) h1 (Nat.le_trans h2 (by decide))
 refine MC.body hσ Try.func68 (by kernel_rfl) rfl rfl (Nat.le_of_ble_eq_true rfl) (fun hF => ?_)
 refine AWP.seq ?_
 refine AWP.region ?_
 refine AOps.heap (HS.box hσ rfl rfl rfl rfl rfl rfl rfl) rfl ?_
 refine AOps.step (Val.of hσ rfl rfl) rfl rfl rfl ?_
 refine AOps.nil ?_
 refine AWP.seq ?_
 refine AWP.region ?_
 refine AOps.step (Val.of hσ rfl rfl) rfl rfl rfl ?_
 refine AOps.forget [(3, _), (2, _), (0, _)] ⟨rfl, rfl, rfl, trivial⟩ ?_
 refine AOps.lone hσ rfl rfl rfl rfl (c168 h1 h2) (VAs.self rfl) rfl rfl rfl rfl rfl (B0 := 5000) rfl ?_
 refine AOps.step (Val.of hσ rfl rfl) rfl rfl rfl ?_
 refine AOps.step (Val.of hσ rfl rfl) rfl rfl rfl ?_
 refine AOps.forget [(2, _), (0, _)] ⟨rfl, rfl, trivial⟩ ?_
 refine AOps.nil ?_
 refine AWP.ret ?_
 refine ⟨.inl rfl, _, Ent.refl, _, rfl, ?_⟩
 first | rfl | skip
theorem c130 {L : Nat} (h1 : 4096 ≤ L) (h2 : L ≤ 1073741824) {x : In} : MC Try.prog L 50 [.agg (x.cells.map .d)] [] (Plain (eB (jmpB x))) := by
 refine MC.alone ?_ rfl
 have hσ := SGok (nt := 11) h1 (Nat.le_trans h2 (by decide))
 refine MC.body hσ Try.func50 (by kernel_rfl) rfl rfl (Nat.le_of_ble_eq_true rfl) (fun hF => ?_)
 refine AWP.seq ?_
 refine AWP.region ?_
 refine AOps.heap (HS.box hσ rfl rfl rfl rfl rfl rfl rfl) rfl ?_
 refine AOps.step (Val.of hσ rfl rfl) rfl rfl rfl ?_
 refine AOps.nil ?_
 refine AWP.seq ?_
 refine AWP.region ?_
 refine AOps.step (Val.of hσ rfl rfl) rfl rfl rfl ?_
 refine AOps.step (Val.of hσ rfl rfl) rfl rfl rfl ?_
 refine AOps.step (Val.of hσ rfl rfl) rfl rfl rfl ?_
 refine AOps.step (Val.of hσ rfl rfl) rfl rfl rfl ?_
 refine AOps.forget [(6, _), (2, _), (1, _), (0, _)] ⟨rfl, rfl, rfl, rfl, trivial⟩ ?_
 refine AOps.gr 3 rfl rfl rfl (fun hx => AN.step hx rfl rfl rfl (Val.of hσ rfl rfl) rfl rfl ( AN.step hx rfl rfl rfl (Val.of hσ rfl rfl) rfl rfl ( AN.step hx rfl rfl rfl (Val.of hσ rfl rfl) rfl rfl ( AN.nil)))) rfl rfl ?_
 first | refine AOps.step (Val.pickF hσ rfl rfl rfl rfl rfl) rfl rfl rfl ?_ | refine AOps.step (Val.pickB hσ rfl rfl rfl rfl rfl) rfl rfl rfl ?_ | refine AOps.step (Val.pickT hσ rfl rfl rfl rfl rfl) rfl rfl rfl ?_
 refine AOps.step (Val.of hσ rfl rfl) rfl rfl rfl ?_
 refine AOps.forget [(2, _), (0, _)] ⟨rfl, rfl, trivial⟩ ?_
 refine AOps.nil ?_
 refine AWP.ret ?_
 refine ⟨.inl rfl, _, Ent.refl, _, rfl, ?_⟩
 unfold jmpB; cases decide (x.op = 5) <;> rfl
theorem c129 {L : Nat} (h1 : 4096 ≤ L) (h2 : L ≤ 1073741824) {x : In} {e : Int} : MC Try.prog L 49 [.agg (x.cells.map .d), ptr [.int .i64 e]] [] (Plain (eB (jmpB x && decide (x.a = e)))) := by
 refine MC.alone ?_ rfl
 have hσ := SGok (nt := 12) h1 (Nat.le_trans h2 (by decide))
 refine MC.body hσ Try.func49 (by kernel_rfl) rfl rfl (Nat.le_of_ble_eq_true rfl) (fun hF => ?_)
 refine AWP.seq ?_
 refine AWP.region ?_
 refine AOps.heap (HS.box hσ rfl rfl rfl rfl rfl rfl rfl) rfl ?_
 refine AOps.step (Val.of hσ rfl rfl) rfl rfl rfl ?_
 refine AOps.nil ?_
 refine AWP.seq ?_
 refine AWP.region ?_
 refine AOps.step (Val.of hσ rfl rfl) rfl rfl rfl ?_
 refine AOps.lone hσ rfl rfl rfl rfl (c130 h1 h2) (VAs.self rfl) rfl rfl rfl rfl rfl (B0 := 6000) rfl ?_
 refine AOps.step (Val.of hσ rfl rfl) rfl rfl rfl ?_
 refine AOps.forget [(6, _), (3, _), (2, _), (0, _), (1, _)] ⟨rfl, rfl, rfl, rfl, rfl, trivial⟩ ?_
 refine AOps.gr 4 rfl rfl rfl (fun hx => AN.step hx rfl rfl rfl (Val.of hσ rfl rfl) rfl rfl ( AN.step hx rfl rfl rfl (Val.of hσ rfl rfl) rfl rfl ( AN.step hx rfl rfl rfl (Val.of hσ rfl rfl) rfl rfl ( AN.step hx rfl rfl rfl (Val.of hσ rfl rfl) rfl rfl ( AN.nil))))) rfl rfl ?_
 first | refine AOps.step (Val.pickT hσ rfl rfl rfl rfl rfl) rfl rfl rfl ?_ | refine AOps.step (Val.pickF hσ rfl rfl rfl rfl rfl) rfl rfl rfl ?_ | refine AOps.step (Val.pickB hσ rfl rfl rfl rfl rfl) rfl rfl rfl ?_
 refine AOps.step (Val.of hσ rfl rfl) rfl rfl rfl ?_
 refine AOps.forget [(3, _), (0, _)] ⟨rfl, rfl, trivial⟩ ?_
 refine AOps.nil ?_
 refine AWP.ret ?_
 refine ⟨.inl rfl, _, Ent.refl, _, rfl, ?_⟩
 rw [Bool.cond_false_right]
theorem c173 {L : Nat} (h1 : 4096 ≤ L) (h2 : L ≤ 1073741824) {p : Pt} {k : Int} : MC Try.prog L 75 [.agg (p.cells.map .d), ptr [.int .i64 k]] [] (Plain (eB (decide (p.k = k)))) := by
 refine MC.alone ?_ rfl
 have hσ := SGok (nt := 8) h1 (Nat.le_trans h2 (by decide))
 refine MC.body hσ Try.func75 (by kernel_rfl) rfl rfl (Nat.le_of_ble_eq_true rfl) (fun hF => ?_)
 refine AWP.seq ?_
 refine AWP.region ?_
 refine AOps.heap (HS.box hσ rfl rfl rfl rfl rfl rfl rfl) rfl ?_
 refine AOps.step (Val.of hσ rfl rfl) rfl rfl rfl ?_
 refine AOps.nil ?_
 refine AWP.seq ?_
 refine AWP.region ?_
 refine AOps.step (Val.of hσ rfl rfl) rfl rfl rfl ?_
 refine AOps.step (Val.of hσ rfl rfl) rfl rfl rfl ?_
 refine AOps.step (Val.of hσ rfl rfl) rfl rfl rfl ?_
 refine AOps.step (Val.of hσ rfl rfl) rfl rfl rfl ?_
 refine AOps.step (Val.of hσ rfl rfl) rfl rfl rfl ?_
 refine AOps.forget [(3, _), (0, _)] ⟨rfl, rfl, trivial⟩ ?_
 refine AOps.nil ?_
 refine AWP.ret ?_
 refine ⟨.inl rfl, _, Ent.refl, _, rfl, ?_⟩
 first | rfl | skip
theorem c177 {L : Nat} (h1 : 4096 ≤ L) (h2 : L ≤ 1073741824) {x : In} {n : Int} : MC Try.prog L 79 [.agg (x.cells.map .d), eI n] [] (Plain (eB (decide (x.op = 0) && decide (x.a = n)))) := by
 refine MC.alone ?_ rfl
 have hσ := SGok (nt := 14) h1 (Nat.le_trans h2 (by decide))
 refine MC.body hσ Try.func79 (by kernel_rfl) rfl rfl (Nat.le_of_ble_eq_true rfl) (fun hF => ?_)
 refine AWP.seq ?_
 refine AWP.region ?_
 refine AOps.heap (HS.box hσ rfl rfl rfl rfl rfl rfl rfl) rfl ?_
 refine AOps.step (Val.of hσ rfl rfl) rfl rfl rfl ?_
 refine AOps.nil ?_
 refine AWP.seq ?_
 refine AWP.region ?_
 refine AOps.step (Val.of hσ rfl rfl) rfl rfl rfl ?_
 refine AOps.step (Val.of hσ rfl rfl) rfl rfl rfl ?_
 refine AOps.step (Val.of hσ rfl rfl) rfl rfl rfl ?_
 refine AOps.step (Val.of hσ rfl rfl) rfl rfl rfl ?_
 refine AOps.forget [(8, _), (4, _), (2, _), (0, _), (1, _)] ⟨rfl, rfl, rfl, rfl, rfl, trivial⟩ ?_
 refine AOps.gr 4 rfl rfl rfl (fun hx => AN.step hx rfl rfl rfl (Val.of hσ rfl rfl) rfl rfl ( AN.step hx rfl rfl rfl (Val.of hσ rfl rfl) rfl rfl ( AN.step hx rfl rfl rfl (Val.of hσ rfl rfl) rfl rfl ( AN.step hx rfl rfl rfl (Val.of hσ rfl rfl) rfl rfl ( AN.nil))))) rfl rfl ?_
 first | refine AOps.step (Val.pickT hσ rfl rfl rfl rfl rfl) rfl rfl rfl ?_ | refine AOps.step (Val.pickF hσ rfl rfl rfl rfl rfl) rfl rfl rfl ?_ | refine AOps.step (Val.pickB hσ rfl rfl rfl rfl rfl) rfl rfl rfl ?_
 refine AOps.step (Val.of hσ rfl rfl) rfl rfl rfl ?_
 refine AOps.forget [(4, _), (0, _)] ⟨rfl, rfl, trivial⟩ ?_
 refine AOps.nil ?_
 refine AWP.ret ?_
 refine ⟨.inl rfl, _, Ent.refl, _, rfl, ?_⟩
 rw [Bool.cond_false_right]
def ixF {α : Type} (p : α → Bool) (l : List α) : Int := if l.any p = true then (l.findIdx p : Nat) else -1
theorem ixF_no {α : Type} {p : α → Bool} {l : List α} (h : ∀ j (hj : j < l.length), p l[j] = false) : ixF p l = -1 := by rw [ixF, if_neg (by rw [any_no h]; decide)]
theorem ixF_at {α : Type} {p : α → Bool} {l : List α} {i : Nat} (hi : i < l.length) (h : ∀ j (hj : j < l.length), j < i → p l[j] = false) (hn : p l[i] = true) : ixF p l = i := by
  rw [ixF, if_pos (any_yes i hi hn)]
  exact congrArg Nat.cast ((List.findIdx_eq hi).2 ⟨hn, fun j hj => by simp [h j (by omega) hj]⟩)
theorem ixF_nn {α : Type} {p : α → Bool} {l : List α} : decide (ixF p l ≥ 0) = l.any p := by
  unfold ixF
  cases h : l.any p <;> simp
theorem ixF_neg {α : Type} {p : α → Bool} {l : List α} : decide (ixF p l < 0) = !l.any p := by
  unfold ixF
  cases h : l.any p <;> simp
theorem c174v {L : Nat} (h1 : 4096 ≤ L) (h2 : L ≤ 1073741824) {c : List In} : MC Try.prog L 76 [ains c, .c (.fn 68 [])] [] (Plain (eI (ixF (fun x : In => !instrB x) c))) := by
 refine MC.alone ?_ rfl
 have hσ := SGok (nt := 19) h1 (Nat.le_trans h2 (by decide))
 refine MC.body hσ Try.func76 (by kernel_rfl) rfl rfl (Nat.le_of_ble_eq_true rfl) (fun hF => ?_)
 have hl : c.length ≤ L := by simpa [As.fact, A.fact, M.fact, D.fact, Ds.fact] using hF.1.1
 refine AWP.seq ?_
 refine AWP.region ?_
 refine AOps.step (Val.of hσ rfl rfl) rfl rfl rfl ?_
 refine AOps.nil ?_
 refine AWP.seq ?_
 refine AWP.seq ?_
 refine AWP.region ?_
 refine AOps.step (Val.of hσ rfl rfl) rfl rfl rfl ?_
 first | refine AOps.step (Val.lenD hσ rfl rfl rfl rfl rfl rfl rfl rfl) rfl rfl rfl ?_ | refine AOps.step (Val.of hσ rfl rfl) rfl rfl rfl ?_ | refine AOps.step (Val.vif hσ rfl rfl (by first | omega | (simp at *; omega))) rfl rfl rfl ?_
 refine AOps.step (Val.of hσ rfl rfl) rfl rfl rfl ?_
 refine AOps.nil ?_
 refine AWP.block ?_
 refine AWP.loopP (X := Nat) (fun i => ⟨[(0, ains c), (1, .c (.fn 68 [])), (7, eI c.length), (8, eI i)], []⟩) (fun i => i ≤ c.length ∧ ∀ j (h : j < c.length), j < i → (fun x : In => !instrB x) c[j] = false) (fun i => c.length - i) 0 (Ent.env ⟨rfl, rfl, rfl, rfl, trivial⟩) ?_ (fun i hi => ?_)
 ·
  exact ⟨Nat.zero_le _, fun j h hj => absurd hj (Nat.not_lt_zero j)⟩
 refine AWP.seq ?_
 refine AWP.region ?_
 refine AOps.step (Val.of hσ rfl rfl) rfl rfl rfl ?_
 refine AOps.nil ?_
 refine AWP.seq ?_
 refine AWP.cond hσ rfl rfl (fun hc9 => ?_) (fun hc9 => ?_)
 ·
  skip
  refine AWP.skip ?_
  refine AWP.seq ?_
  refine AWP.block ?_
  refine AWP.seq ?_
  refine AWP.region ?_
  have hil : i < c.length := by have := of_decide_eq_true hc9; omega
  refine AOps.step (Val.of hσ rfl rfl) rfl rfl rfl ?_
  refine AOps.step (Val.of hσ rfl rfl) rfl rfl rfl ?_
  refine AOps.nil ?_
  refine AWP.seq ?_
  refine AWP.region ?_
  refine AOps.step (Val.of hσ rfl rfl) rfl rfl rfl ?_
  refine AOps.step (Val.of hσ rfl rfl) rfl rfl rfl ?_
  refine AOps.step (Val.of hσ rfl rfl) rfl rfl rfl ?_
  first | refine AOps.step (Val.indexN hσ rfl rfl rfl rfl rfl rfl rfl rfl (idxN (by first | omega | (simp at *; omega)))) rfl rfl rfl ?_ | refine AOps.step (Val.indexD hσ rfl rfl rfl rfl rfl rfl rfl rfl (by first | omega | (simp at *; omega)) (idx_get (by first | omega | (simp at *; omega)) (by first | omega | (simp at *; omega)))) rfl rfl rfl ?_ | refine AOps.step (Val.vif hσ rfl rfl (by first | omega | (simp at *; omega))) rfl rfl rfl ?_
  refine AOps.step (Val.of hσ rfl rfl) rfl rfl rfl ?_
  refine AOps.reset [(15, _), (11, _), (5, _), (10, _), (9, _), (0, _), (1, _), (7, _), (8, _)] [] ⟨rfl, rfl, rfl, rfl, rfl, rfl, rfl, rfl, rfl, trivial⟩ rfl ?_
  refine AOps.lone hσ rfl rfl rfl rfl (c167 (x := c.getD i default) h1 h2) (VAs.self rfl) rfl rfl rfl rfl rfl (B0 := 17000) rfl ?_
  refine AOps.forget [(16, _), (5, _), (10, _), (9, _), (0, _), (1, _), (7, _), (8, _)] ⟨rfl, rfl, rfl, rfl, rfl, rfl, rfl, rfl, trivial⟩ ?_
  refine AOps.nil ?_
  refine AWP.cond hσ rfl rfl (fun hc16 => ?_) (fun hc16 => ?_)
  ·
   skip
   refine AWP.seq ?_
   refine AWP.region ?_
   refine AOps.step (Val.of hσ rfl rfl) rfl rfl rfl ?_
   refine AOps.step (Val.of hσ rfl rfl) rfl rfl rfl ?_
   refine AOps.nil ?_
   refine AWP.ret ?_
   refine ⟨.inl rfl, _, Ent.refl, _, rfl, ?_⟩
   rw [getD_lt hil] at hc16
   rw [ixF_at hil hi.2 hc16]
  ·
   skip
   refine AWP.skip ?_
   refine AWP.region ?_
   first | refine AOps.step (Val.fits64 hσ rfl rfl (by first | omega | (simp at *; omega)) (by first | omega | (simp at *; omega))) rfl rfl rfl ?_ | refine AOps.step (Val.vif hσ rfl rfl (by first | omega | (simp at *; omega))) rfl rfl rfl ?_
   refine AOps.step (Val.of hσ rfl rfl) rfl rfl rfl ?_
   refine AOps.nil ?_
   refine ⟨i + 1, Ent.env ⟨rfl, rfl, rfl, rfl, trivial⟩, ⟨by omega, fun j h hj => ?_⟩, by omega⟩
   by_cases e : j = i
   ·
    subst e; rw [getD_lt h] at hc16; exact hc16
   ·
    exact hi.2 j h (by omega)
 ·
  skip
  refine AWP.exit ?_
  refine AWP.seq ?_
  refine AWP.region ?_
  refine AOps.step (Val.of hσ rfl rfl) rfl rfl rfl ?_
  refine AOps.nil ?_
  refine AWP.ret ?_
  refine ⟨.inl rfl, _, Ent.refl, _, rfl, ?_⟩
  have h9 := of_decide_eq_false hc9
  rw [ixF_no (fun j hj => hi.2 j hj (by omega))]
theorem c174j {L : Nat} (h1 : 4096 ≤ L) (h2 : L ≤ 1073741824) {c : List In} {e : Int} : MC Try.prog L 76 [ains c, .c (.fn 49 [.d (.ptr [.int .i64 e] 0)])] [] (Plain (eI (ixF (fun x : In => jmpB x && decide (x.a = e)) c))) := by
 refine MC.alone ?_ rfl
 have hσ := SGok (nt := 19) h1 (Nat.le_trans h2 (by decide))
 refine MC.body hσ Try.func76 (by kernel_rfl) rfl rfl (Nat.le_of_ble_eq_true rfl) (fun hF => ?_)
 have hl : c.length ≤ L := by simpa [As.fact, A.fact, M.fact, D.fact, Ds.fact] using hF.1.1
 refine AWP.seq ?_
 refine AWP.region ?_
 refine AOps.step (Val.of hσ rfl rfl) rfl rfl rfl ?_
 refine AOps.nil ?_
 refine AWP.seq ?_
 refine AWP.seq ?_
 refine AWP.region ?_
 refine AOps.step (Val.of hσ rfl rfl) rfl rfl rfl ?_
 first | refine AOps.step (Val.lenD hσ rfl rfl rfl rfl rfl rfl rfl rfl) rfl rfl rfl ?_ | refine AOps.step (Val.of hσ rfl rfl) rfl rfl rfl ?_ | refine AOps.step (Val.vif hσ rfl rfl (by first | omega | (simp at *; omega))) rfl rfl rfl ?_
 refine AOps.step (Val.of hσ rfl rfl) rfl rfl rfl ?_
 refine AOps.nil ?_
 refine AWP.block ?_
 refine AWP.loopP (X := Nat) (fun i => ⟨[(0, ains c), (1, .c (.fn 49 [.d (.ptr [.int .i64 e] 0)])), (7, eI c.length), (8, eI i)], []⟩) (fun i => i ≤ c.length ∧ ∀ j (h : j < c.length), j < i → (fun x : In => jmpB x && decide (x.a = e)) c[j] = false) (fun i => c.length - i) 0 (Ent.env ⟨rfl, rfl, rfl, rfl, trivial⟩) ?_ (fun i hi => ?_)
 ·
  exact ⟨Nat.zero_le _, fun j h hj => absurd hj (Nat.not_lt_zero j)⟩
 refine AWP.seq ?_
 refine AWP.region ?_
 refine AOps.step (Val.of hσ rfl rfl) rfl rfl rfl ?_
 refine AOps.nil ?_
 refine AWP.seq ?_
 refine AWP.cond hσ rfl rfl (fun hc9 => ?_) (fun hc9 => ?_)
 ·
  skip
  refine AWP.skip ?_
  refine AWP.seq ?_
  refine AWP.block ?_
  refine AWP.seq ?_
  refine AWP.region ?_
  have hil : i < c.length := by have := of_decide_eq_true hc9; omega
  refine AOps.step (Val.of hσ rfl rfl) rfl rfl rfl ?_
  refine AOps.step (Val.of hσ rfl rfl) rfl rfl rfl ?_
  refine AOps.nil ?_
  refine AWP.seq ?_
  refine AWP.region ?_
  refine AOps.step (Val.of hσ rfl rfl) rfl rfl rfl ?_
  refine AOps.step (Val.of hσ rfl rfl) rfl rfl rfl ?_
  refine AOps.step (Val.of hσ rfl rfl) rfl rfl rfl ?_
  first | refine AOps.step (Val.indexN hσ rfl rfl rfl rfl rfl rfl rfl rfl (idxN (by first | omega | (simp at *; omega)))) rfl rfl rfl ?_ | refine AOps.step (Val.indexD hσ rfl rfl rfl rfl rfl rfl rfl rfl (by first | omega | (simp at *; omega)) (idx_get (by first | omega | (simp at *; omega)) (by first | omega | (simp at *; omega)))) rfl rfl rfl ?_ | refine AOps.step (Val.vif hσ rfl rfl (by first | omega | (simp at *; omega))) rfl rfl rfl ?_
  refine AOps.step (Val.of hσ rfl rfl) rfl rfl rfl ?_
  refine AOps.reset [(15, _), (11, _), (5, _), (10, _), (9, _), (0, _), (1, _), (7, _), (8, _)] [] ⟨rfl, rfl, rfl, rfl, rfl, rfl, rfl, rfl, rfl, trivial⟩ rfl ?_
  refine AOps.lone hσ rfl rfl rfl rfl (c129 (e := e) (x := c.getD i default) h1 h2) (VAs.self rfl) rfl rfl rfl rfl rfl (B0 := 17000) rfl ?_
  refine AOps.forget [(16, _), (5, _), (10, _), (9, _), (0, _), (1, _), (7, _), (8, _)] ⟨rfl, rfl, rfl, rfl, rfl, rfl, rfl, rfl, trivial⟩ ?_
  refine AOps.nil ?_
  refine AWP.cond hσ rfl rfl (fun hc16 => ?_) (fun hc16 => ?_)
  ·
   skip
   refine AWP.seq ?_
   refine AWP.region ?_
   refine AOps.step (Val.of hσ rfl rfl) rfl rfl rfl ?_
   refine AOps.step (Val.of hσ rfl rfl) rfl rfl rfl ?_
   refine AOps.nil ?_
   refine AWP.ret ?_
   refine ⟨.inl rfl, _, Ent.refl, _, rfl, ?_⟩
   rw [getD_lt hil] at hc16
   rw [ixF_at hil hi.2 hc16]
  ·
   skip
   refine AWP.skip ?_
   refine AWP.region ?_
   first | refine AOps.step (Val.fits64 hσ rfl rfl (by first | omega | (simp at *; omega)) (by first | omega | (simp at *; omega))) rfl rfl rfl ?_ | refine AOps.step (Val.vif hσ rfl rfl (by first | omega | (simp at *; omega))) rfl rfl rfl ?_
   refine AOps.step (Val.of hσ rfl rfl) rfl rfl rfl ?_
   refine AOps.nil ?_
   refine ⟨i + 1, Ent.env ⟨rfl, rfl, rfl, rfl, trivial⟩, ⟨by omega, fun j h hj => ?_⟩, by omega⟩
   by_cases e : j = i
   ·
    subst e; rw [getD_lt h] at hc16; exact hc16
   ·
    exact hi.2 j h (by omega)
 ·
  skip
  refine AWP.exit ?_
  refine AWP.seq ?_
  refine AWP.region ?_
  refine AOps.step (Val.of hσ rfl rfl) rfl rfl rfl ?_
  refine AOps.nil ?_
  refine AWP.ret ?_
  refine ⟨.inl rfl, _, Ent.refl, _, rfl, ?_⟩
  have h9 := of_decide_eq_false hc9
  rw [ixF_no (fun j hj => hi.2 j hj (by omega))]
theorem c172 {L : Nat} (h1 : 4096 ≤ L) (h2 : L ≤ 1073741824) {ps : List Pt} {k : Int} : MC Try.prog L 74 [apts ps, .c (.fn 75 [.d (.ptr [.int .i64 k] 0)])] [] (Plain (eI (ixF (fun p : Pt => decide (p.k = k)) ps))) := by
 refine MC.alone ?_ rfl
 have hσ := SGok (nt := 19) h1 (Nat.le_trans h2 (by decide))
 refine MC.body hσ Try.func74 (by kernel_rfl) rfl rfl (Nat.le_of_ble_eq_true rfl) (fun hF => ?_)
 have hl : ps.length ≤ L := by simpa [As.fact, A.fact, M.fact, D.fact, Ds.fact] using hF.1.1
 refine AWP.seq ?_
 refine AWP.region ?_
 refine AOps.step (Val.of hσ rfl rfl) rfl rfl rfl ?_
 refine AOps.nil ?_
 refine AWP.seq ?_
 refine AWP.seq ?_
 refine AWP.region ?_
 refine AOps.step (Val.of hσ rfl rfl) rfl rfl rfl ?_
 first | refine AOps.step (Val.lenD hσ rfl rfl rfl rfl rfl rfl rfl rfl) rfl rfl rfl ?_ | refine AOps.step (Val.of hσ rfl rfl) rfl rfl rfl ?_ | refine AOps.step (Val.vif hσ rfl rfl (by first | omega | (simp at *; omega))) rfl rfl rfl ?_
 refine AOps.step (Val.of hσ rfl rfl) rfl rfl rfl ?_
 refine AOps.nil ?_
 refine AWP.block ?_
 refine AWP.loopP (X := Nat) (fun i => ⟨[(0, apts ps), (1, .c (.fn 75 [.d (.ptr [.int .i64 k] 0)])), (7, eI ps.length), (8, eI i)], []⟩) (fun i => i ≤ ps.length ∧ ∀ j (h : j < ps.length), j < i → (fun p : Pt => decide (p.k = k)) ps[j] = false) (fun i => ps.length - i) 0 (Ent.env ⟨rfl, rfl, rfl, rfl, trivial⟩) ?_ (fun i hi => ?_)
 ·
  exact ⟨Nat.zero_le _, fun j h hj => absurd hj (Nat.not_lt_zero j)⟩
 refine AWP.seq ?_
 refine AWP.region ?_
 refine AOps.step (Val.of hσ rfl rfl) rfl rfl rfl ?_
 refine AOps.nil ?_
 refine AWP.seq ?_
 refine AWP.cond hσ rfl rfl (fun hc9 => ?_) (fun hc9 => ?_)
 ·
  skip
  refine AWP.skip ?_
  refine AWP.seq ?_
  refine AWP.block ?_
  refine AWP.seq ?_
  refine AWP.region ?_
  have hil : i < ps.length := by have := of_decide_eq_true hc9; omega
  refine AOps.step (Val.of hσ rfl rfl) rfl rfl rfl ?_
  refine AOps.step (Val.of hσ rfl rfl) rfl rfl rfl ?_
  refine AOps.nil ?_
  refine AWP.seq ?_
  refine AWP.region ?_
  refine AOps.step (Val.of hσ rfl rfl) rfl rfl rfl ?_
  refine AOps.step (Val.of hσ rfl rfl) rfl rfl rfl ?_
  refine AOps.step (Val.of hσ rfl rfl) rfl rfl rfl ?_
  first | refine AOps.step (Val.indexN hσ rfl rfl rfl rfl rfl rfl rfl rfl (idxN (by first | omega | (simp at *; omega)))) rfl rfl rfl ?_ | refine AOps.step (Val.indexD hσ rfl rfl rfl rfl rfl rfl rfl rfl (by first | omega | (simp at *; omega)) (idx_get (by first | omega | (simp at *; omega)) (by first | omega | (simp at *; omega)))) rfl rfl rfl ?_ | refine AOps.step (Val.vif hσ rfl rfl (by first | omega | (simp at *; omega))) rfl rfl rfl ?_
  refine AOps.step (Val.of hσ rfl rfl) rfl rfl rfl ?_
  refine AOps.reset [(15, _), (11, _), (5, _), (10, _), (9, _), (0, _), (1, _), (7, _), (8, _)] [] ⟨rfl, rfl, rfl, rfl, rfl, rfl, rfl, rfl, rfl, trivial⟩ rfl ?_
  refine AOps.lone hσ rfl rfl rfl rfl (c173 (k := k) (p := ps.getD i default) h1 h2) (VAs.self rfl) rfl rfl rfl rfl rfl (B0 := 17000) rfl ?_
  refine AOps.forget [(16, _), (5, _), (10, _), (9, _), (0, _), (1, _), (7, _), (8, _)] ⟨rfl, rfl, rfl, rfl, rfl, rfl, rfl, rfl, trivial⟩ ?_
  refine AOps.nil ?_
  refine AWP.cond hσ rfl rfl (fun hc16 => ?_) (fun hc16 => ?_)
  ·
   skip
   refine AWP.seq ?_
   refine AWP.region ?_
   refine AOps.step (Val.of hσ rfl rfl) rfl rfl rfl ?_
   refine AOps.step (Val.of hσ rfl rfl) rfl rfl rfl ?_
   refine AOps.nil ?_
   refine AWP.ret ?_
   refine ⟨.inl rfl, _, Ent.refl, _, rfl, ?_⟩
   rw [getD_lt hil] at hc16
   rw [ixF_at hil hi.2 hc16]
  ·
   skip
   refine AWP.skip ?_
   refine AWP.region ?_
   first | refine AOps.step (Val.fits64 hσ rfl rfl (by first | omega | (simp at *; omega)) (by first | omega | (simp at *; omega))) rfl rfl rfl ?_ | refine AOps.step (Val.vif hσ rfl rfl (by first | omega | (simp at *; omega))) rfl rfl rfl ?_
   refine AOps.step (Val.of hσ rfl rfl) rfl rfl rfl ?_
   refine AOps.nil ?_
   refine ⟨i + 1, Ent.env ⟨rfl, rfl, rfl, rfl, trivial⟩, ⟨by omega, fun j h hj => ?_⟩, by omega⟩
   by_cases e : j = i
   ·
    subst e; rw [getD_lt h] at hc16; exact hc16
   ·
    exact hi.2 j h (by omega)
 ·
  skip
  refine AWP.exit ?_
  refine AWP.seq ?_
  refine AWP.region ?_
  refine AOps.step (Val.of hσ rfl rfl) rfl rfl rfl ?_
  refine AOps.nil ?_
  refine AWP.ret ?_
  refine ⟨.inl rfl, _, Ent.refl, _, rfl, ?_⟩
  have h9 := of_decide_eq_false hc9
  rw [ixF_no (fun j hj => hi.2 j hj (by omega))]
theorem c128v {L : Nat} (h1 : 4096 ≤ L) (h2 : L ≤ 1073741824) {c : List In} : MC Try.prog L 48 [ains c, .c (.fn 68 [])] [] (Plain (eB (c.any (fun x : In => !instrB x)))) := by
 refine MC.alone ?_ rfl
 have hσ := SGok (nt := 9) h1 (Nat.le_trans h2 (by decide))
 refine MC.body hσ Try.func48 (by kernel_rfl) rfl rfl (Nat.le_of_ble_eq_true rfl) (fun hF => ?_)
 refine AWP.seq ?_
 refine AWP.region ?_
 refine AOps.step (Val.of hσ rfl rfl) rfl rfl rfl ?_
 refine AOps.nil ?_
 refine AWP.seq ?_
 refine AWP.region ?_
 refine AOps.step (Val.of hσ rfl rfl) rfl rfl rfl ?_
 refine AOps.step (Val.of hσ rfl rfl) rfl rfl rfl ?_
 refine AOps.lone hσ rfl rfl rfl rfl (c174v (c := c) h1 h2) (.cons (.c .d) (.cons (.c (.fn .nil)) .nil)) rfl rfl rfl rfl rfl (B0 := 8000) rfl ?_
 refine AOps.step (Val.of hσ rfl rfl) rfl rfl rfl ?_
 refine AOps.step (Val.of hσ rfl rfl) rfl rfl rfl ?_
 refine AOps.nil ?_
 refine AWP.ret ?_
 refine ⟨.inl rfl, _, Ent.refl, _, rfl, ?_⟩
 exact congrArg eB ixF_nn
theorem c128j {L : Nat} (h1 : 4096 ≤ L) (h2 : L ≤ 1073741824) {c : List In} {e : Int} : MC Try.prog L 48 [ains c, .c (.fn 49 [.d (.ptr [.int .i64 e] 0)])] [] (Plain (eB (jmpTo c e))) := by
 refine MC.alone ?_ rfl
 have hσ := SGok (nt := 9) h1 (Nat.le_trans h2 (by decide))
 refine MC.body hσ Try.func48 (by kernel_rfl) rfl rfl (Nat.le_of_ble_eq_true rfl) (fun hF => ?_)
 refine AWP.seq ?_
 refine AWP.region ?_
 refine AOps.step (Val.of hσ rfl rfl) rfl rfl rfl ?_
 refine AOps.nil ?_
 refine AWP.seq ?_
 refine AWP.region ?_
 refine AOps.step (Val.of hσ rfl rfl) rfl rfl rfl ?_
 refine AOps.step (Val.of hσ rfl rfl) rfl rfl rfl ?_
 refine AOps.lone hσ rfl rfl rfl rfl (c174j (c := c) (e := e) h1 h2) (.cons (.c .d) (.cons (.c (.fn (.cons .d .nil))) .nil)) rfl rfl rfl rfl rfl (B0 := 8000) rfl ?_
 refine AOps.step (Val.of hσ rfl rfl) rfl rfl rfl ?_
 refine AOps.step (Val.of hσ rfl rfl) rfl rfl rfl ?_
 refine AOps.nil ?_
 refine AWP.ret ?_
 refine ⟨.inl rfl, _, Ent.refl, _, rfl, ?_⟩
 exact congrArg eB ixF_nn
theorem c124 {L : Nat} (h1 : 4096 ≤ L) (h2 : L ≤ 1073741824) {c : List In} : MC Try.prog L 42 [ains c] [] (Plain (eB (codeB c))) := by
 refine MC.alone ?_ rfl
 have hσ := SGok (nt := 12) h1 (Nat.le_trans h2 (by decide))
 refine MC.body hσ Try.func42 (by kernel_rfl) rfl rfl (Nat.le_of_ble_eq_true rfl) (fun hF => ?_)
 have hl : c.length ≤ L := by simpa [As.fact, A.fact, M.fact, D.fact, Ds.fact] using hF.1.1
 refine AWP.seq ?_
 refine AWP.region ?_
 refine AOps.step (Val.of hσ rfl rfl) rfl rfl rfl ?_
 refine AOps.nil ?_
 refine AWP.seq ?_
 refine AWP.region ?_
 refine AOps.step (Val.of hσ rfl rfl) rfl rfl rfl ?_
 first | refine AOps.step (Val.lenD hσ rfl rfl rfl rfl rfl rfl rfl rfl) rfl rfl rfl ?_ | refine AOps.step (Val.of hσ rfl rfl) rfl rfl rfl ?_ | refine AOps.step (Val.vif hσ rfl rfl (by first | omega | (simp at *; omega))) rfl rfl rfl ?_
 refine AOps.lone hσ rfl rfl rfl rfl (c147 h1 h2) (VAs.self rfl) rfl rfl rfl rfl rfl (B0 := 6000) rfl ?_
 refine AOps.lone hσ rfl rfl rfl rfl (c111 h1 h2) (VAs.self rfl) rfl rfl rfl rfl rfl (B0 := 7000) rfl ?_
 refine AOps.step (Val.of hσ rfl rfl) rfl rfl rfl ?_
 refine AOps.gr 3 rfl rfl rfl (fun hx => AN.step hx rfl rfl rfl (Val.of hσ rfl rfl) rfl rfl ( AN.lone hσ hx rfl rfl rfl rfl (c128v (c := c) h1 h2) (.cons (.c .d) (.cons (.c (.fn .nil)) .nil)) rfl rfl rfl rfl rfl rfl rfl (B0 := 10000) rfl ( AN.step hx rfl rfl rfl (Val.of hσ rfl rfl) rfl rfl ( AN.nil)))) rfl rfl ?_
 first | refine AOps.step (Val.pickT hσ rfl rfl rfl rfl rfl) rfl rfl rfl ?_ | refine AOps.step (Val.pickF hσ rfl rfl rfl rfl rfl) rfl rfl rfl ?_ | refine AOps.step (Val.pickB hσ rfl rfl rfl rfl rfl) rfl rfl rfl ?_
 refine AOps.step (Val.of hσ rfl rfl) rfl rfl rfl ?_
 refine AOps.nil ?_
 refine AWP.ret ?_
 refine ⟨.inl rfl, _, Ent.refl, _, rfl, ?_⟩
 rw [Bool.cond_false_right, show codeB c = _ from Bool.and_comm _ _, List.all_eq_not_any_not]
theorem c127 {L : Nat} (h1 : 4096 ≤ L) (h2 : L ≤ 1073741824) {a : An} {k : Int} : MC Try.prog L 47 [aAn a, eI k] [] (Plain (eI (ixF (fun p : Pt => decide (p.k = k)) a.pts))) := by
 refine MC.alone ?_ rfl
 have hσ := SGok (nt := 9) h1 (Nat.le_trans h2 (by decide))
 refine MC.body hσ Try.func47 (by kernel_rfl) rfl rfl (Nat.le_of_ble_eq_true rfl) (fun hF => ?_)
 refine AWP.seq ?_
 refine AWP.region ?_
 refine AOps.heap (HS.box hσ rfl rfl rfl rfl rfl rfl rfl) rfl ?_
 apply AOps.norm
 ·
  repeat' (first | exact HN.nil rfl | apply HN.cons rfl | exact BN.row rfl | exact BN.map rfl | apply BN.box rfl | exact MN.nil rfl | apply MN.cons rfl | exact XN.d rfl | exact XN.rs rfl | exact XN.self)
 refine AOps.to (Ent.freeze 2 (e' := [(2, _), (1, _)]) rfl (.cons rfl (.c (.box (cs := a.data) rfl (VMs.self rfl))) (.cons rfl (.keep rfl) .nil)) (.skip .nil)) ?_
 apply AOps.norm
 ·
  repeat' (first | exact HN.nil rfl | apply HN.cons rfl | exact BN.row rfl | exact BN.map rfl | apply BN.box rfl | exact MN.nil rfl | apply MN.cons rfl | exact XN.d rfl | exact XN.rs rfl | exact XN.self)
 refine AOps.heap (HS.box hσ rfl rfl rfl rfl rfl rfl rfl) rfl ?_
 apply AOps.norm
 ·
  repeat' (first | exact HN.nil rfl | apply HN.cons rfl | exact BN.row rfl | exact BN.map rfl | apply BN.box rfl | exact MN.nil rfl | apply MN.cons rfl | exact XN.d rfl | exact XN.rs rfl | exact XN.self)
 refine AOps.to (Ent.freeze 3 (e' := [(3, _), (2, _)]) rfl (.cons rfl (.c (.box (cs := [.int .i64 k]) rfl (VMs.self rfl))) (.cons rfl (.keep rfl) .nil)) (.skip .nil)) ?_
 apply AOps.norm
 ·
  repeat' (first | exact HN.nil rfl | apply HN.cons rfl | exact BN.row rfl | exact BN.map rfl | apply BN.box rfl | exact MN.nil rfl | apply MN.cons rfl | exact XN.d rfl | exact XN.rs rfl | exact XN.self)
 refine AOps.step (Val.of hσ rfl rfl) rfl rfl rfl ?_
 refine AOps.nil ?_
 refine AWP.seq ?_
 refine AWP.region ?_
 refine AOps.step (Val.of hσ rfl rfl) rfl rfl rfl ?_
 refine AOps.step (Val.of hσ rfl rfl) rfl rfl rfl ?_
 refine AOps.step (Val.of hσ rfl rfl) rfl rfl rfl ?_
 refine AOps.forget [(7, _), (6, _), (4, _)] ⟨rfl, rfl, rfl, trivial⟩ ?_
 refine AOps.lone hσ rfl rfl rfl rfl (c172 (ps := a.pts) (k := k) h1 h2) (.cons (.c .d) (.cons (.c (.fn (.cons .d .nil))) .nil)) rfl rfl rfl rfl rfl (B0 := 9000) rfl ?_
 refine AOps.step (Val.of hσ rfl rfl) rfl rfl rfl ?_
 refine AOps.forget [(4, _)] ⟨rfl, trivial⟩ ?_
 refine AOps.nil ?_
 refine AWP.ret ?_
 refine ⟨.inl rfl, _, Ent.refl, _, rfl, ?_⟩
 first | rfl | skip
theorem pt_notI {a : An} {i : Nat} : (bif (bif !terms (a.pts.getD i default).fs 6 then true else !(inB 0 ((a.code.length : Int) - 1) (a.pts.getD i default).k)) then true else (bif decide ((0 : Int) < i) then decide ((a.pts.getD i default).k ≤ (a.pts.getD (i - 1) default).k) else false)) = !ptB a.code.length a.pts i := by
  unfold ptB inB
  rw [show decide ((0 : Int) < i) = decide (0 < i) from decide_eq_decide.2 (by omega)]
  cases decide (0 ≤ (a.pts.getD i default).k) <;> cases decide ((a.pts.getD i default).k ≤ (a.code.length : Int) - 1) <;> cases terms (a.pts.getD i default).fs 6 <;> cases decide (0 < i) <;> cases decide ((a.pts.getD i default).k ≤ (a.pts.getD (i - 1) default).k) <;> rfl
theorem c71 {L : Nat} (h1 : 4096 ≤ L) (h2 : L ≤ 1073741824) {a : An} : MC Try.prog L 19 [aAn a] [] (Plain (eB (annB a))) := by
 refine MC.alone ?_ rfl
 have hσ := SGok (nt := 65) h1 (Nat.le_trans h2 (by decide))
 refine MC.body hσ Try.func19 (by kernel_rfl) rfl rfl (Nat.le_of_ble_eq_true rfl) (fun hF => ?_)
 have hl : a.code.length ≤ L := by simpa [As.fact, A.fact, M.fact, Ms.fact, D.fact, Ds.fact] using hF.1.2.2.1.1
 have hlp : a.pts.length ≤ L := by simpa [As.fact, A.fact, M.fact, Ms.fact, D.fact, Ds.fact] using hF.1.2.2.2.1.1
 refine AWP.seq ?_
 refine AWP.region ?_
 refine AOps.heap (HS.box hσ rfl rfl rfl rfl rfl rfl rfl) rfl ?_
 apply AOps.norm
 ·
  repeat' (first | exact HN.nil rfl | apply HN.cons rfl | exact BN.row rfl | exact BN.map rfl | apply BN.box rfl | exact MN.nil rfl | apply MN.cons rfl | exact XN.d rfl | exact XN.rs rfl | exact XN.self)
 refine AOps.to (Ent.freeze 1 (e' := [(1, _), (0, _)]) rfl (.cons rfl (.c (.box (cs := a.data) rfl (VMs.self rfl))) (.cons rfl (.keep rfl) .nil)) (.skip .nil)) ?_
 apply AOps.norm
 ·
  repeat' (first | exact HN.nil rfl | apply HN.cons rfl | exact BN.row rfl | exact BN.map rfl | apply BN.box rfl | exact MN.nil rfl | apply MN.cons rfl | exact XN.d rfl | exact XN.rs rfl | exact XN.self)
 refine AOps.step (Val.of hσ rfl rfl) rfl rfl rfl ?_
 refine AOps.nil ?_
 refine AWP.seq ?_
 refine AWP.seq ?_
 refine AWP.region ?_
 refine AOps.step (Val.of hσ rfl rfl) rfl rfl rfl ?_
 refine AOps.step (Val.of hσ rfl rfl) rfl rfl rfl ?_
 refine AOps.forget [(6, _), (2, _), (1, _), (0, _)] ⟨rfl, rfl, rfl, rfl, trivial⟩ ?_
 refine AOps.lone hσ rfl rfl rfl rfl (c124 h1 h2) (VAs.self rfl) rfl rfl rfl rfl rfl (B0 := 8000) rfl ?_
 refine AOps.step (Val.of hσ rfl rfl) rfl rfl rfl ?_
 refine AOps.step (Val.of hσ rfl rfl) rfl rfl rfl ?_
 refine AOps.forget [(9, _), (2, _), (1, _), (0, _)] ⟨rfl, rfl, rfl, rfl, trivial⟩ ?_
 refine AOps.gr 4 rfl rfl rfl (fun hx => AN.step hx rfl rfl rfl (Val.of hσ rfl rfl) rfl rfl ( AN.step hx rfl rfl rfl (Val.of hσ rfl rfl) rfl rfl ( AN.lone hσ hx rfl rfl rfl rfl (c125 h1 h2) (VAs.self rfl) rfl rfl rfl rfl rfl rfl rfl (B0 := 13000) rfl ( AN.step hx rfl rfl rfl (Val.of hσ rfl rfl) rfl rfl ( AN.nil))))) rfl rfl ?_
 first | refine AOps.step (Val.pickF hσ rfl rfl rfl rfl rfl) rfl rfl rfl ?_ | refine AOps.step (Val.pickB hσ rfl rfl rfl rfl rfl) rfl rfl rfl ?_ | refine AOps.step (Val.pickT hσ rfl rfl rfl rfl rfl) rfl rfl rfl ?_
 refine AOps.step (Val.of hσ rfl rfl) rfl rfl rfl ?_
 refine AOps.forget [(15, _), (2, _), (1, _), (0, _)] ⟨rfl, rfl, rfl, rfl, trivial⟩ ?_
 refine AOps.gr 4 rfl rfl rfl (fun hx => AN.step hx rfl rfl rfl (Val.of hσ rfl rfl) rfl rfl ( AN.step hx rfl rfl rfl (Val.of hσ rfl rfl) rfl rfl ( AN.lone hσ hx rfl rfl rfl rfl (c125 h1 h2) (VAs.self rfl) rfl rfl rfl rfl rfl rfl rfl (B0 := 19000) rfl ( AN.step hx rfl rfl rfl (Val.of hσ rfl rfl) rfl rfl ( AN.nil))))) rfl rfl ?_
 first | refine AOps.step (Val.pickF hσ rfl rfl rfl rfl rfl) rfl rfl rfl ?_ | refine AOps.step (Val.pickB hσ rfl rfl rfl rfl rfl) rfl rfl rfl ?_ | refine AOps.step (Val.pickT hσ rfl rfl rfl rfl rfl) rfl rfl rfl ?_
 refine AOps.step (Val.of hσ rfl rfl) rfl rfl rfl ?_
 refine AOps.forget [(21, _), (2, _), (1, _), (0, _)] ⟨rfl, rfl, rfl, rfl, trivial⟩ ?_
 refine AOps.gr 4 rfl rfl rfl (fun hx => AN.step hx rfl rfl rfl (Val.of hσ rfl rfl) rfl rfl ( AN.step hx rfl rfl rfl (Val.of hσ rfl rfl) rfl rfl ( AN.step hx rfl rfl rfl (Val.lenD hσ rfl rfl rfl rfl rfl rfl rfl rfl) rfl rfl ( AN.step hx rfl rfl rfl (Val.of hσ rfl rfl) rfl rfl ( AN.nil))))) rfl rfl ?_
 first | refine AOps.step (Val.pickF hσ rfl rfl rfl rfl rfl) rfl rfl rfl ?_ | refine AOps.step (Val.pickB hσ rfl rfl rfl rfl rfl) rfl rfl rfl ?_ | refine AOps.step (Val.pickT hσ rfl rfl rfl rfl rfl) rfl rfl rfl ?_
 refine AOps.forget [(26, _), (2, _), (1, _), (0, _)] ⟨rfl, rfl, rfl, rfl, trivial⟩ ?_
 refine AOps.nil ?_
 refine AWP.cond hσ rfl rfl (fun hc26 => ?_) (fun hc26 => ?_)
 ·
  skip
  refine AWP.seq ?_
  refine AWP.region ?_
  refine AOps.step (Val.of hσ rfl rfl) rfl rfl rfl ?_
  refine AOps.nil ?_
  refine AWP.ret ?_
  refine ⟨.inl rfl, _, Ent.refl, _, rfl, ?_⟩
  rw [ann_no hc26]
 ·
  skip
  refine AWP.skip ?_
  refine AWP.seq ?_
  refine AWP.seq ?_
  refine AWP.region ?_
  refine AOps.step (Val.of hσ rfl rfl) rfl rfl rfl ?_
  refine AOps.step (Val.of hσ rfl rfl) rfl rfl rfl ?_
  first | refine AOps.step (Val.lenD hσ rfl rfl rfl rfl rfl rfl rfl rfl) rfl rfl rfl ?_ | refine AOps.step (Val.of hσ rfl rfl) rfl rfl rfl ?_ | refine AOps.step (Val.vif hσ rfl rfl (by first | omega | (simp at *; omega))) rfl rfl rfl ?_
  refine AOps.step (Val.of hσ rfl rfl) rfl rfl rfl ?_
  refine AOps.forget [(30, _), (29, _), (28, _), (2, _), (1, _), (0, _)] ⟨rfl, rfl, rfl, rfl, rfl, rfl, trivial⟩ ?_
  refine AOps.nil ?_
  refine AWP.block ?_
  refine AWP.loopP (X := Nat) (fun i => ⟨[(1, ptr a.data), (28, apts a.pts), (29, eI a.pts.length), (30, eI i)], []⟩) (fun i => i ≤ a.pts.length ∧ ∀ j, j < i → ptB a.code.length a.pts j = true) (fun i => a.pts.length - i) 0 (Ent.env ⟨rfl, rfl, rfl, rfl, trivial⟩) ?_ (fun i hi => ?_)
  ·
   exact ⟨Nat.zero_le _, fun j hj => absurd hj (Nat.not_lt_zero j)⟩
  refine AWP.seq ?_
  refine AWP.region ?_
  refine AOps.step (Val.of hσ rfl rfl) rfl rfl rfl ?_
  refine AOps.nil ?_
  refine AWP.seq ?_
  refine AWP.cond hσ rfl rfl (fun hc31 => ?_) (fun hc31 => ?_)
  ·
   skip
   refine AWP.skip ?_
   refine AWP.seq ?_
   refine AWP.block ?_
   refine AWP.seq ?_
   refine AWP.region ?_
   have hil : i < a.pts.length := by have := of_decide_eq_true hc31; omega
   have hcl := (codeB_len (ann_yes hc26).2.2).2
   refine AOps.step (Val.of hσ rfl rfl) rfl rfl rfl ?_
   first | refine AOps.step (Val.indexN hσ rfl rfl rfl rfl rfl rfl rfl rfl (idxN (by first | omega | (simp at *; omega)))) rfl rfl rfl ?_ | refine AOps.step (Val.indexD hσ rfl rfl rfl rfl rfl rfl rfl rfl (by first | omega | (simp at *; omega)) (idx_get (by first | omega | (simp at *; omega)) (by first | omega | (simp at *; omega)))) rfl rfl rfl ?_ | refine AOps.step (Val.vif hσ rfl rfl (by first | omega | (simp at *; omega))) rfl rfl rfl ?_
   refine AOps.step (Val.of hσ rfl rfl) rfl rfl rfl ?_
   refine AOps.forget [(34, _), (32, _), (31, _), (1, _), (28, _), (29, _), (30, _)] ⟨rfl, rfl, rfl, rfl, rfl, rfl, rfl, trivial⟩ ?_
   refine AOps.heap (HS.alloc hσ rfl rfl rfl rfl rfl) rfl ?_
   apply AOps.norm
   ·
    repeat' (first | exact HN.nil rfl | apply HN.cons rfl | exact BN.row rfl | exact BN.map rfl | apply BN.box rfl | exact MN.nil rfl | apply MN.cons rfl | exact XN.d rfl | exact XN.rs rfl | exact XN.self)
   refine AOps.step (Val.of hσ rfl rfl) rfl rfl rfl ?_
   refine AOps.forget [(3, _), (4, _), (34, _), (31, _), (1, _), (28, _), (29, _), (30, _)] ⟨rfl, rfl, rfl, rfl, rfl, rfl, rfl, rfl, trivial⟩ ?_
   refine AOps.heap (HS.storeBox hσ rfl rfl rfl rfl rfl rfl rfl rfl rfl rfl rfl) rfl ?_
   apply AOps.norm
   ·
    repeat' (first | exact HN.nil rfl | apply HN.cons rfl | exact BN.row rfl | exact BN.map rfl | apply BN.box rfl | exact MN.nil rfl | apply MN.cons rfl | exact XN.d rfl | exact XN.rs rfl | exact XN.self)
   refine AOps.to (Ent.freeze 4 (e' := [(4, _), (1, _), (28, _), (29, _), (30, _), (3, _)]) rfl (.cons rfl (.c (.box (cs := (a.pts.getD i default).cells) rfl (VMs.self rfl))) (.cons rfl (.keep rfl) (.cons rfl (.keep rfl) (.cons rfl (.keep rfl) (.cons rfl (.keep rfl) (.cons rfl (.keep rfl) .nil)))))) (.skip .nil)) ?_
   apply AOps.norm
   ·
    repeat' (first | exact HN.nil rfl | apply HN.cons rfl | exact BN.row rfl | exact BN.map rfl | apply BN.box rfl | exact MN.nil rfl | apply MN.cons rfl | exact XN.d rfl | exact XN.rs rfl | exact XN.self)
   refine AOps.nil ?_
   refine AWP.seq ?_
   refine AWP.mid (F := ⟨[(63, eB (bif (bif !terms (a.pts.getD i default).fs 6 then true else !(inB 0 ((a.code.length : Int) - 1) (a.pts.getD i default).k)) then true else (bif decide ((0 : Int) < i) then decide ((a.pts.getD i default).k ≤ (a.pts.getD (i - 1) default).k) else false))), (1, ptr a.data), (28, apts a.pts), (29, eI a.pts.length), (30, eI i)], []⟩) ?_ ?_
   ·
    skip
    cases hb6 : !terms (a.pts.getD i default).fs 6 with
    | true =>
     refine AWP.drawG hσ _ [_, _, _, _, _, _, _, _, _, _, _, _, _, _, _, _, _, _, _, _, _, _, _, _, _, _, _, _, _] [⟨[], 0, 0, none⟩, ⟨[0], 0, 0, none⟩, ⟨[0, 1], 0, 0, some 0⟩, ⟨[0, 1, 2], 1, 1, none⟩, ⟨[0, 1, 2, 3], 1, 1, none⟩, ⟨[0, 1, 2, 3, 4], 0, 1, none⟩, ⟨[0, 1, 2, 3, 4, 5], 0, 1, none⟩, ⟨[0, 1, 2, 3, 4], 0, 1, none⟩, ⟨[0, 1, 2, 3, 4, 7], 0, 1, none⟩, ⟨[0, 1, 2, 3, 4, 7, 8], 0, 1, none⟩, ⟨[0, 1, 2, 3, 4, 5, 6, 7, 8, 9], 0, 1, none⟩, ⟨[0, 1, 2, 3, 4, 5, 6, 7, 8, 9, 10], 0, 1, none⟩, ⟨[0, 1, 2, 3, 4, 5, 6, 7, 8, 9, 10, 11], 1, 1, none⟩, ⟨[0, 1, 2, 3, 4, 5, 6, 7, 8, 9, 10, 11, 12], 1, 1, none⟩, ⟨[0, 1, 2, 3, 4, 5, 6, 7, 8, 9, 10, 11, 12, 13], 0, 1, none⟩, ⟨[0, 1, 2, 3, 4, 5, 6, 7, 8, 9, 10, 11, 12, 13, 14], 0, 1, none⟩, ⟨[0, 1, 2, 3, 4, 5, 6, 7, 8, 9, 10, 11, 12, 13, 14, 15], 0, 1, none⟩, ⟨[0, 1, 2, 3, 4, 5, 6, 7, 8, 9, 10, 11, 12, 13, 14, 15, 16], 0, 1, none⟩, ⟨[0, 1, 2, 3, 4, 5, 6, 7, 8, 9, 10, 11, 12, 13, 14, 15, 16, 17], 0, 1, none⟩, ⟨[0, 1, 2, 3, 4, 5, 6, 7, 8, 9, 10, 11, 12, 13, 14, 15, 16], 0, 1, none⟩, ⟨[0, 1, 2, 3, 4, 5, 6, 7, 8, 9, 10, 11, 12, 13, 14, 15, 16, 19], 0, 1, none⟩, ⟨[0, 1, 2, 3, 4, 5, 6, 7, 8, 9, 10, 11, 12, 13, 14, 15, 16, 17, 18, 19, 20], 0, 1, none⟩, ⟨[0, 1, 2, 3, 4, 5, 6, 7, 8, 9, 10, 11, 12, 13, 14, 15, 16, 17, 18, 19, 20, 21], 0, 1, none⟩, ⟨[0, 1, 2, 3, 4, 5, 6, 7, 8, 9, 10, 11, 12, 13, 14, 15, 16, 17, 18, 19, 20, 21, 22], 0, 1, none⟩, ⟨[0, 1, 2, 3, 4, 5, 6, 7, 8, 9, 10, 11, 12, 13, 14, 15, 16], 0, 1, none⟩, ⟨[0, 1, 2, 3, 4, 5, 6, 7, 8, 9, 10, 11, 12, 13, 14, 15, 16, 24], 0, 1, none⟩, ⟨[0, 1, 2, 3, 4, 5, 6, 7, 8, 9, 10, 11, 12, 13, 14, 15, 16, 17, 18, 19, 20, 21, 22, 23, 24, 25], 0, 1, none⟩, ⟨[0, 1, 2, 3, 4, 5, 6, 7, 8, 9, 10, 11, 12, 13, 14, 15, 16, 17, 18, 19, 20, 21, 22, 23, 24, 25, 26], 0, 1, none⟩, ⟨[0, 1, 2, 3, 4, 5, 6, 7, 8, 9, 10, 11, 12, 13, 14, 15, 16, 17, 18, 19, 20, 21, 22, 23, 24, 25, 26, 27], 1, 1, none⟩] [2] [_, _] rfl rfl (by decide) (by decide) (by kernel_rfl) (And.intro (Val.of hσ rfl rfl) (And.intro (Val.of hσ rfl rfl) (And.intro (Eff.lone hσ (B0 := 38000) rfl rfl rfl rfl (c125 h1 h2) (VAs.self rfl) rfl rfl rfl rfl rfl) (And.intro ((Val.of hσ rfl rfl).cast (v' := eB true) (congrArg eB hb6)) (And.intro (Val.of hσ rfl rfl) (And.intro ⟨rfl, rfl⟩ (And.intro ⟨rfl, rfl⟩ (And.intro ⟨rfl, rfl⟩ (And.intro ⟨rfl, rfl⟩ (And.intro ⟨rfl, rfl⟩ (And.intro ⟨rfl, rfl⟩ (And.intro ⟨rfl, rfl⟩ (And.intro (Val.pickY hσ rfl rfl rfl rfl rfl) (And.intro (Val.of hσ rfl rfl) (And.intro ⟨rfl, rfl⟩ (And.intro ⟨rfl, rfl⟩ (And.intro ⟨rfl, rfl⟩ (And.intro ⟨rfl, rfl⟩ (And.intro ⟨rfl, rfl⟩ (And.intro ⟨rfl, rfl⟩ (And.intro ⟨rfl, rfl⟩ (And.intro ⟨rfl, rfl⟩ (And.intro ⟨rfl, rfl⟩ (And.intro ⟨rfl, rfl⟩ (And.intro ⟨rfl, rfl⟩ (And.intro ⟨rfl, rfl⟩ (And.intro ⟨rfl, rfl⟩ (And.intro ⟨rfl, rfl⟩ (And.intro (Val.pickY hσ rfl rfl rfl rfl rfl) trivial))))))))))))))))))))))))))))) ?_
     exact ⟨rfl, Ent.env ⟨rfl, rfl, rfl, rfl, rfl, trivial⟩⟩
    | false =>
     cases hb6b : !(inB 0 ((a.code.length : Int) - 1) (a.pts.getD i default).k) with
     | true =>
      refine AWP.drawG hσ _ [_, _, _, _, _, _, _, _, _, _, _, _, _, _, _, _, _, _, _, _, _, _, _, _, _, _, _, _, _] [⟨[], 0, 0, none⟩, ⟨[0], 0, 0, none⟩, ⟨[0, 1], 0, 0, some 0⟩, ⟨[0, 1, 2], 1, 1, none⟩, ⟨[0, 1, 2, 3], 1, 1, none⟩, ⟨[0, 1, 2, 3, 4], 1, 1, none⟩, ⟨[0, 1, 2, 3, 4, 5], 1, 1, none⟩, ⟨[0, 1, 2, 3, 4], 1, 1, none⟩, ⟨[0, 1, 2, 3, 4, 7], 1, 1, none⟩, ⟨[0, 1, 2, 3, 4, 7, 8], 1, 1, none⟩, ⟨[0, 1, 2, 3, 4, 5, 6, 7, 8, 9], 0, 0, some 1⟩, ⟨[0, 1, 2, 3, 4, 5, 6, 7, 8, 9, 10], 2, 2, none⟩, ⟨[0, 1, 2, 3, 4, 5, 6, 7, 8, 9, 10, 11], 2, 2, none⟩, ⟨[0, 1, 2, 3, 4, 5, 6, 7, 8, 9, 10, 11, 12], 2, 2, none⟩, ⟨[0, 1, 2, 3, 4, 5, 6, 7, 8, 9, 10, 11, 12, 13], 0, 2, none⟩, ⟨[0, 1, 2, 3, 4, 5, 6, 7, 8, 9, 10, 11, 12, 13, 14], 0, 2, none⟩, ⟨[0, 1, 2, 3, 4, 5, 6, 7, 8, 9, 10, 11, 12, 13, 14, 15], 0, 2, none⟩, ⟨[0, 1, 2, 3, 4, 5, 6, 7, 8, 9, 10, 11, 12, 13, 14, 15, 16], 0, 2, none⟩, ⟨[0, 1, 2, 3, 4, 5, 6, 7, 8, 9, 10, 11, 12, 13, 14, 15, 16, 17], 0, 2, none⟩, ⟨[0, 1, 2, 3, 4, 5, 6, 7, 8, 9, 10, 11, 12, 13, 14, 15, 16], 0, 2, none⟩, ⟨[0, 1, 2, 3, 4, 5, 6, 7, 8, 9, 10, 11, 12, 13, 14, 15, 16, 19], 0, 2, none⟩, ⟨[0, 1, 2, 3, 4, 5, 6, 7, 8, 9, 10, 11, 12, 13, 14, 15, 16, 17, 18, 19, 20], 0, 2, none⟩, ⟨[0, 1, 2, 3, 4, 5, 6, 7, 8, 9, 10, 11, 12, 13, 14, 15, 16, 17, 18, 19, 20, 21], 0, 2, none⟩, ⟨[0, 1, 2, 3, 4, 5, 6, 7, 8, 9, 10, 11, 12, 13, 14, 15, 16, 17, 18, 19, 20, 21, 22], 0, 2, none⟩, ⟨[0, 1, 2, 3, 4, 5, 6, 7, 8, 9, 10, 11, 12, 13, 14, 15, 16], 0, 2, none⟩, ⟨[0, 1, 2, 3, 4, 5, 6, 7, 8, 9, 10, 11, 12, 13, 14, 15, 16, 24], 0, 2, none⟩, ⟨[0, 1, 2, 3, 4, 5, 6, 7, 8, 9, 10, 11, 12, 13, 14, 15, 16, 17, 18, 19, 20, 21, 22, 23, 24, 25], 0, 2, none⟩, ⟨[0, 1, 2, 3, 4, 5, 6, 7, 8, 9, 10, 11, 12, 13, 14, 15, 16, 17, 18, 19, 20, 21, 22, 23, 24, 25, 26], 0, 2, none⟩, ⟨[0, 1, 2, 3, 4, 5, 6, 7, 8, 9, 10, 11, 12, 13, 14, 15, 16, 17, 18, 19, 20, 21, 22, 23, 24, 25, 26, 27], 2, 2, none⟩] [2, 10] [_, _, _] rfl rfl (by decide) (by decide) (by kernel_rfl) (And.intro (Val.of hσ rfl rfl) (And.intro (Val.of hσ rfl rfl) (And.intro (Eff.lone hσ (B0 := 38000) rfl rfl rfl rfl (c125 h1 h2) (VAs.self rfl) rfl rfl rfl rfl rfl) (And.intro ((Val.of hσ rfl rfl).cast (v' := eB false) (congrArg eB hb6)) (And.intro (Val.of hσ rfl rfl) (And.intro (Val.of hσ rfl rfl) (And.intro (Val.of hσ rfl rfl) (And.intro (Val.of hσ rfl rfl) (And.intro (Val.of hσ rfl rfl) (And.intro (Val.lenD hσ rfl rfl rfl rfl rfl rfl rfl rfl) (And.intro (Eff.lone hσ (B0 := 46000) rfl rfl rfl rfl (c90 (k := (a.pts.getD i default).k) (n := a.code.length) h1 h2 (by omega)) (VAs.self rfl) rfl rfl rfl rfl rfl) (And.intro ((Val.of hσ rfl rfl).cast (v' := eB true) (congrArg eB hb6b)) (And.intro (Val.pickN hσ rfl rfl rfl rfl rfl) (And.intro (Val.of hσ rfl rfl) (And.intro ⟨rfl, rfl⟩ (And.intro ⟨rfl, rfl⟩ (And.intro ⟨rfl, rfl⟩ (And.intro ⟨rfl, rfl⟩ (And.intro ⟨rfl, rfl⟩ (And.intro ⟨rfl, rfl⟩ (And.intro ⟨rfl, rfl⟩ (And.intro ⟨rfl, rfl⟩ (And.intro ⟨rfl, rfl⟩ (And.intro ⟨rfl, rfl⟩ (And.intro ⟨rfl, rfl⟩ (And.intro ⟨rfl, rfl⟩ (And.intro ⟨rfl, rfl⟩ (And.intro ⟨rfl, rfl⟩ (And.intro (Val.pickY hσ rfl rfl rfl rfl rfl) trivial))))))))))))))))))))))))))))) ?_
      exact ⟨rfl, Ent.env ⟨rfl, rfl, rfl, rfl, rfl, trivial⟩⟩
     | false =>
      cases hb6c : decide ((0 : Int) < i) with
      | true =>
       have hi0 : 0 < i := by have := of_decide_eq_true hb6c; omega
       refine AWP.drawG hσ _ [_, _, _, _, _, _, _, _, _, _, _, _, _, _, _, _, _, _, _, _, _, _, _, _, _, _, _, _, _] [⟨[], 0, 0, none⟩, ⟨[0], 0, 0, none⟩, ⟨[0, 1], 0, 0, some 0⟩, ⟨[0, 1, 2], 1, 1, none⟩, ⟨[0, 1, 2, 3], 1, 1, none⟩, ⟨[0, 1, 2, 3, 4], 1, 1, none⟩, ⟨[0, 1, 2, 3, 4, 5], 1, 1, none⟩, ⟨[0, 1, 2, 3, 4], 1, 1, none⟩, ⟨[0, 1, 2, 3, 4, 7], 1, 1, none⟩, ⟨[0, 1, 2, 3, 4, 7, 8], 1, 1, none⟩, ⟨[0, 1, 2, 3, 4, 5, 6, 7, 8, 9], 0, 0, some 1⟩, ⟨[0, 1, 2, 3, 4, 5, 6, 7, 8, 9, 10], 2, 2, none⟩, ⟨[0, 1, 2, 3, 4, 5, 6, 7, 8, 9, 10, 11], 2, 2, none⟩, ⟨[0, 1, 2, 3, 4, 5, 6, 7, 8, 9, 10, 11, 12], 2, 2, none⟩, ⟨[0, 1, 2, 3, 4, 5, 6, 7, 8, 9, 10, 11, 12, 13], 2, 2, none⟩, ⟨[0, 1, 2, 3, 4, 5, 6, 7, 8, 9, 10, 11, 12, 13, 14], 2, 2, none⟩, ⟨[0, 1, 2, 3, 4, 5, 6, 7, 8, 9, 10, 11, 12, 13, 14, 15], 2, 2, none⟩, ⟨[0, 1, 2, 3, 4, 5, 6, 7, 8, 9, 10, 11, 12, 13, 14, 15, 16], 2, 2, none⟩, ⟨[0, 1, 2, 3, 4, 5, 6, 7, 8, 9, 10, 11, 12, 13, 14, 15, 16, 17], 2, 2, none⟩, ⟨[0, 1, 2, 3, 4, 5, 6, 7, 8, 9, 10, 11, 12, 13, 14, 15, 16], 2, 2, none⟩, ⟨[0, 1, 2, 3, 4, 5, 6, 7, 8, 9, 10, 11, 12, 13, 14, 15, 16, 19], 2, 2, none⟩, ⟨[0, 1, 2, 3, 4, 5, 6, 7, 8, 9, 10, 11, 12, 13, 14, 15, 16, 17, 18, 19, 20], 2, 2, none⟩, ⟨[0, 1, 2, 3, 4, 5, 6, 7, 8, 9, 10, 11, 12, 13, 14, 15, 16, 17, 18, 19, 20, 21], 2, 2, none⟩, ⟨[0, 1, 2, 3, 4, 5, 6, 7, 8, 9, 10, 11, 12, 13, 14, 15, 16, 17, 18, 19, 20, 21, 22], 2, 2, none⟩, ⟨[0, 1, 2, 3, 4, 5, 6, 7, 8, 9, 10, 11, 12, 13, 14, 15, 16], 2, 2, none⟩, ⟨[0, 1, 2, 3, 4, 5, 6, 7, 8, 9, 10, 11, 12, 13, 14, 15, 16, 24], 2, 2, none⟩, ⟨[0, 1, 2, 3, 4, 5, 6, 7, 8, 9, 10, 11, 12, 13, 14, 15, 16, 17, 18, 19, 20, 21, 22, 23, 24, 25], 2, 2, none⟩, ⟨[0, 1, 2, 3, 4, 5, 6, 7, 8, 9, 10, 11, 12, 13, 14, 15, 16, 17, 18, 19, 20, 21, 22, 23, 24, 25, 26], 2, 2, none⟩, ⟨[0, 1, 2, 3, 4, 5, 6, 7, 8, 9, 10, 11, 12, 13, 14, 15, 16, 17, 18, 19, 20, 21, 22, 23, 24, 25, 26, 27], 2, 2, none⟩] [2, 10] [_, _, _] rfl rfl (by decide) (by decide) (by kernel_rfl) (And.intro (Val.of hσ rfl rfl) (And.intro (Val.of hσ rfl rfl) (And.intro (Eff.lone hσ (B0 := 38000) rfl rfl rfl rfl (c125 h1 h2) (VAs.self rfl) rfl rfl rfl rfl rfl) (And.intro ((Val.of hσ rfl rfl).cast (v' := eB false) (congrArg eB hb6)) (And.intro (Val.of hσ rfl rfl) (And.intro (Val.of hσ rfl rfl) (And.intro (Val.of hσ rfl rfl) (And.intro (Val.of hσ rfl rfl) (And.intro (Val.of hσ rfl rfl) (And.intro (Val.lenD hσ rfl rfl rfl rfl rfl rfl rfl rfl) (And.intro (Eff.lone hσ (B0 := 46000) rfl rfl rfl rfl (c90 (k := (a.pts.getD i default).k) (n := a.code.length) h1 h2 (by omega)) (VAs.self rfl) rfl rfl rfl rfl rfl) (And.intro ((Val.of hσ rfl rfl).cast (v' := eB false) (congrArg eB hb6b)) (And.intro (Val.pickN hσ rfl rfl rfl rfl rfl) (And.intro (Val.of hσ rfl rfl) (And.intro (Val.of hσ rfl rfl) (And.intro ((Val.of hσ rfl rfl).cast (v' := eB true) (congrArg eB hb6c)) (And.intro (Val.of hσ rfl rfl) (And.intro (Val.of hσ rfl rfl) (And.intro (Val.of hσ rfl rfl) (And.intro (Val.of hσ rfl rfl) (And.intro ((Val.fits64 hσ rfl rfl (by first | omega | (simp at *; omega)) (by first | omega | (simp at *; omega))).cast (v' := eI ((i - 1 : Nat) : Int)) (congrArg eI (by omega))) (And.intro (Val.indexN hσ rfl rfl rfl rfl rfl rfl rfl rfl (idxN (by first | omega | (simp at *; omega)))) (And.intro (Val.of hσ rfl rfl) (And.intro (Val.of hσ rfl rfl) (And.intro (Val.of hσ rfl rfl) (And.intro (Val.of hσ rfl rfl) (And.intro (Val.of hσ rfl rfl) (And.intro (Val.pickY hσ rfl rfl rfl rfl rfl) (And.intro (Val.pickN hσ rfl rfl rfl rfl rfl) trivial))))))))))))))))))))))))))))) ?_
       exact ⟨rfl, Ent.env ⟨rfl, rfl, rfl, rfl, rfl, trivial⟩⟩
      | false =>
       refine AWP.drawG hσ _ [_, _, _, _, _, _, _, _, _, _, _, _, _, _, _, _, _, _, _, _, _, _, _, _, _, _, _, _, _] [⟨[], 0, 0, none⟩, ⟨[0], 0, 0, none⟩, ⟨[0, 1], 0, 0, some 0⟩, ⟨[0, 1, 2], 1, 1, none⟩, ⟨[0, 1, 2, 3], 1, 1, none⟩, ⟨[0, 1, 2, 3, 4], 1, 1, none⟩, ⟨[0, 1, 2, 3, 4, 5], 1, 1, none⟩, ⟨[0, 1, 2, 3, 4], 1, 1, none⟩, ⟨[0, 1, 2, 3, 4, 7], 1, 1, none⟩, ⟨[0, 1, 2, 3, 4, 7, 8], 1, 1, none⟩, ⟨[0, 1, 2, 3, 4, 5, 6, 7, 8, 9], 0, 0, some 1⟩, ⟨[0, 1, 2, 3, 4, 5, 6, 7, 8, 9, 10], 2, 2, none⟩, ⟨[0, 1, 2, 3, 4, 5, 6, 7, 8, 9, 10, 11], 2, 2, none⟩, ⟨[0, 1, 2, 3, 4, 5, 6, 7, 8, 9, 10, 11, 12], 2, 2, none⟩, ⟨[0, 1, 2, 3, 4, 5, 6, 7, 8, 9, 10, 11, 12, 13], 2, 2, none⟩, ⟨[0, 1, 2, 3, 4, 5, 6, 7, 8, 9, 10, 11, 12, 13, 14], 2, 2, none⟩, ⟨[0, 1, 2, 3, 4, 5, 6, 7, 8, 9, 10, 11, 12, 13, 14, 15], 2, 2, none⟩, ⟨[0, 1, 2, 3, 4, 5, 6, 7, 8, 9, 10, 11, 12, 13, 14, 15, 16], 0, 2, none⟩, ⟨[0, 1, 2, 3, 4, 5, 6, 7, 8, 9, 10, 11, 12, 13, 14, 15, 16, 17], 0, 2, none⟩, ⟨[0, 1, 2, 3, 4, 5, 6, 7, 8, 9, 10, 11, 12, 13, 14, 15, 16], 0, 2, none⟩, ⟨[0, 1, 2, 3, 4, 5, 6, 7, 8, 9, 10, 11, 12, 13, 14, 15, 16, 19], 0, 2, none⟩, ⟨[0, 1, 2, 3, 4, 5, 6, 7, 8, 9, 10, 11, 12, 13, 14, 15, 16, 17, 18, 19, 20], 0, 2, none⟩, ⟨[0, 1, 2, 3, 4, 5, 6, 7, 8, 9, 10, 11, 12, 13, 14, 15, 16, 17, 18, 19, 20, 21], 0, 2, none⟩, ⟨[0, 1, 2, 3, 4, 5, 6, 7, 8, 9, 10, 11, 12, 13, 14, 15, 16, 17, 18, 19, 20, 21, 22], 0, 2, none⟩, ⟨[0, 1, 2, 3, 4, 5, 6, 7, 8, 9, 10, 11, 12, 13, 14, 15, 16], 0, 2, none⟩, ⟨[0, 1, 2, 3, 4, 5, 6, 7, 8, 9, 10, 11, 12, 13, 14, 15, 16, 24], 0, 2, none⟩, ⟨[0, 1, 2, 3, 4, 5, 6, 7, 8, 9, 10, 11, 12, 13, 14, 15, 16, 17, 18, 19, 20, 21, 22, 23, 24, 25], 0, 2, none⟩, ⟨[0, 1, 2, 3, 4, 5, 6, 7, 8, 9, 10, 11, 12, 13, 14, 15, 16, 17, 18, 19, 20, 21, 22, 23, 24, 25, 26], 2, 2, none⟩, ⟨[0, 1, 2, 3, 4, 5, 6, 7, 8, 9, 10, 11, 12, 13, 14, 15, 16, 17, 18, 19, 20, 21, 22, 23, 24, 25, 26, 27], 2, 2, none⟩] [2, 10] [_, _, _] rfl rfl (by decide) (by decide) (by kernel_rfl) (And.intro (Val.of hσ rfl rfl) (And.intro (Val.of hσ rfl rfl) (And.intro (Eff.lone hσ (B0 := 38000) rfl rfl rfl rfl (c125 h1 h2) (VAs.self rfl) rfl rfl rfl rfl rfl) (And.intro ((Val.of hσ rfl rfl).cast (v' := eB false) (congrArg eB hb6)) (And.intro (Val.of hσ rfl rfl) (And.intro (Val.of hσ rfl rfl) (And.intro (Val.of hσ rfl rfl) (And.intro (Val.of hσ rfl rfl) (And.intro (Val.of hσ rfl rfl) (And.intro (Val.lenD hσ rfl rfl rfl rfl rfl rfl rfl rfl) (And.intro (Eff.lone hσ (B0 := 46000) rfl rfl rfl rfl (c90 (k := (a.pts.getD i default).k) (n := a.code.length) h1 h2 (by omega)) (VAs.self rfl) rfl rfl rfl rfl rfl) (And.intro ((Val.of hσ rfl rfl).cast (v' := eB false) (congrArg eB hb6b)) (And.intro (Val.pickN hσ rfl rfl rfl rfl rfl) (And.intro (Val.of hσ rfl rfl) (And.intro (Val.of hσ rfl rfl) (And.intro ((Val.of hσ rfl rfl).cast (v' := eB false) (congrArg eB hb6c)) (And.intro (Val.of hσ rfl rfl) (And.intro ⟨rfl, rfl⟩ (And.intro ⟨rfl, rfl⟩ (And.intro ⟨rfl, rfl⟩ (And.intro ⟨rfl, rfl⟩ (And.intro ⟨rfl, rfl⟩ (And.intro ⟨rfl, rfl⟩ (And.intro ⟨rfl, rfl⟩ (And.intro ⟨rfl, rfl⟩ (And.intro ⟨rfl, rfl⟩ (And.intro ⟨rfl, rfl⟩ (And.intro (Val.pickN hσ rfl rfl rfl rfl rfl) (And.intro (Val.pickN hσ rfl rfl rfl rfl rfl) trivial))))))))))))))))))))))))))))) ?_
       exact ⟨rfl, Ent.env ⟨rfl, rfl, rfl, rfl, rfl, trivial⟩⟩
   refine AWP.cond hσ rfl rfl (fun hc63 => ?_) (fun hc63 => ?_)
   ·
    skip
    refine AWP.seq ?_
    refine AWP.region ?_
    refine AOps.step (Val.of hσ rfl rfl) rfl rfl rfl ?_
    refine AOps.nil ?_
    refine AWP.ret ?_
    refine ⟨.inl rfl, _, Ent.refl, _, rfl, ?_⟩
    rw [(ann_yes hc26).1, ptsB_not i hil (notF (pt_notI.symm.trans hc63))]
   ·
    skip
    refine AWP.skip ?_
    refine AWP.region ?_
    first | refine AOps.step (Val.fits64 hσ rfl rfl (by first | omega | (simp at *; omega)) (by first | omega | (simp at *; omega))) rfl rfl rfl ?_ | refine AOps.step (Val.vif hσ rfl rfl (by first | omega | (simp at *; omega))) rfl rfl rfl ?_
    refine AOps.step (Val.of hσ rfl rfl) rfl rfl rfl ?_
    refine AOps.nil ?_
    have h9 : ptB a.code.length a.pts i = true := notT (pt_notI.symm.trans hc63)
    refine ⟨i + 1, Ent.env ⟨rfl, rfl, rfl, rfl, trivial⟩, ⟨by omega, fun j hj => ?_⟩, by omega⟩
    by_cases e : j = i
    ·
     subst e; exact h9
    ·
     exact hi.2 j (by omega)
  ·
   skip
   refine AWP.exit ?_
   refine AWP.seq ?_
   refine AWP.region ?_
   refine AOps.step (Val.of hσ rfl rfl) rfl rfl rfl ?_
   refine AOps.nil ?_
   refine AWP.ret ?_
   refine ⟨.inl rfl, _, Ent.refl, _, rfl, ?_⟩
   rw [(ann_yes hc26).1, ptsB_of fun j hj => hi.2 j (by have := of_decide_eq_false hc31; omega)]
theorem hasR_step {c : List In} {os : List Int} {i : Nat} (hc : i < c.length) (ho : i < os.length) : hasR (os.drop i) (c.drop i) = (decide ((c.getD i default).op = os.getD i default) && hasR (os.drop (i + 1)) (c.drop (i + 1))) := by
  rw [List.drop_eq_getElem_cons hc, List.drop_eq_getElem_cons ho, hasR, getD_lt hc, getD_lt ho]
theorem c175 {L : Nat} (h1 : 4096 ≤ L) (h2 : L ≤ 1073741824) {c : List In} {os : List Int} : MC Try.prog L 77 [aints os, ptr [insD c]] [] (Plain (eB (hasR os c))) := by
 refine MC.alone ?_ rfl
 have hσ := SGok (nt := 26) h1 (Nat.le_trans h2 (by decide))
 refine MC.body hσ Try.func77 (by kernel_rfl) rfl rfl (Nat.le_of_ble_eq_true rfl) (fun hF => ?_)
 have hlo : os.length ≤ L := by simpa [As.fact, A.fact, M.fact, D.fact, Ds.fact] using hF.1.1
 have hl : c.length ≤ L := by simpa [As.fact, A.fact, M.fact, D.fact, Ds.fact] using hF.2.1.1.1
 refine AWP.seq ?_
 refine AWP.region ?_
 refine AOps.step (Val.of hσ rfl rfl) rfl rfl rfl ?_
 refine AOps.nil ?_
 refine AWP.seq ?_
 refine AWP.seq ?_
 refine AWP.region ?_
 refine AOps.step (Val.of hσ rfl rfl) rfl rfl rfl ?_
 first | refine AOps.step (Val.lenD hσ rfl rfl rfl rfl rfl rfl rfl rfl) rfl rfl rfl ?_ | refine AOps.step (Val.of hσ rfl rfl) rfl rfl rfl ?_ | refine AOps.step (Val.vif hσ rfl rfl (by first | omega | (simp at *; omega))) rfl rfl rfl ?_
 refine AOps.step (Val.of hσ rfl rfl) rfl rfl rfl ?_
 first | refine AOps.step (Val.lenD hσ rfl rfl rfl rfl rfl rfl rfl rfl) rfl rfl rfl ?_ | refine AOps.step (Val.of hσ rfl rfl) rfl rfl rfl ?_ | refine AOps.step (Val.vif hσ rfl rfl (by first | omega | (simp at *; omega))) rfl rfl rfl ?_
 refine AOps.step (Val.of hσ rfl rfl) rfl rfl rfl ?_
 refine AOps.forget [(10, _), (3, _), (0, _), (1, _)] ⟨rfl, rfl, rfl, rfl, trivial⟩ ?_
 refine AOps.nil ?_
 refine AWP.cond hσ rfl rfl (fun hc10 => ?_) (fun hc10 => ?_)
 ·
  skip
  refine AWP.seq ?_
  refine AWP.region ?_
  refine AOps.step (Val.of hσ rfl rfl) rfl rfl rfl ?_
  refine AOps.nil ?_
  refine AWP.ret ?_
  refine ⟨.inl rfl, _, Ent.refl, _, rfl, ?_⟩
  rw [hasR_short (by have := of_decide_eq_true hc10; omega)]
 ·
  skip
  refine AWP.skip ?_
  refine AWP.seq ?_
  refine AWP.seq ?_
  refine AWP.region ?_
  refine AOps.step (Val.of hσ rfl rfl) rfl rfl rfl ?_
  first | refine AOps.step (Val.lenD hσ rfl rfl rfl rfl rfl rfl rfl rfl) rfl rfl rfl ?_ | refine AOps.step (Val.of hσ rfl rfl) rfl rfl rfl ?_ | refine AOps.step (Val.vif hσ rfl rfl (by first | omega | (simp at *; omega))) rfl rfl rfl ?_
  refine AOps.step (Val.of hσ rfl rfl) rfl rfl rfl ?_
  refine AOps.nil ?_
  refine AWP.block ?_
  refine AWP.loopP (X := Nat) (fun i => ⟨[(1, ptr [insD c]), (11, aints os), (12, eI os.length), (13, eI i)], []⟩) (fun i => i ≤ os.length ∧ hasR (os.drop i) (c.drop i) = hasR os c) (fun i => os.length - i) 0 (Ent.env ⟨rfl, rfl, rfl, rfl, trivial⟩) ?_ (fun i hi => ?_)
  ·
   exact ⟨Nat.zero_le _, rfl⟩
  refine AWP.seq ?_
  refine AWP.region ?_
  refine AOps.step (Val.of hσ rfl rfl) rfl rfl rfl ?_
  refine AOps.nil ?_
  refine AWP.seq ?_
  refine AWP.cond hσ rfl rfl (fun hc14 => ?_) (fun hc14 => ?_)
  ·
   skip
   refine AWP.skip ?_
   refine AWP.seq ?_
   refine AWP.block ?_
   refine AWP.seq ?_
   refine AWP.region ?_
   have hil : i < os.length := by have := of_decide_eq_true hc14; omega
   have hic : i < c.length := by have := of_decide_eq_false hc10; omega
   have h8 := hasR_step hic hil
   refine AOps.step (Val.of hσ rfl rfl) rfl rfl rfl ?_
   first | refine AOps.step (Val.indexN hσ rfl rfl rfl rfl rfl rfl rfl rfl (idxN (by first | omega | (simp at *; omega)))) rfl rfl rfl ?_ | refine AOps.step (Val.indexD hσ rfl rfl rfl rfl rfl rfl rfl rfl (by first | omega | (simp at *; omega)) (idx_get (by first | omega | (simp at *; omega)) (by first | omega | (simp at *; omega)))) rfl rfl rfl ?_ | refine AOps.step (Val.vif hσ rfl rfl (by first | omega | (simp at *; omega))) rfl rfl rfl ?_
   refine AOps.step (Val.of hσ rfl rfl) rfl rfl rfl ?_
   refine AOps.step (Val.of hσ rfl rfl) rfl rfl rfl ?_
   refine AOps.step (Val.of hσ rfl rfl) rfl rfl rfl ?_
   refine AOps.forget [(5, _), (4, _), (14, _), (1, _), (11, _), (12, _), (13, _)] ⟨rfl, rfl, rfl, rfl, rfl, rfl, rfl, trivial⟩ ?_
   refine AOps.nil ?_
   refine AWP.seq ?_
   refine AWP.region ?_
   refine AOps.step (Val.of hσ rfl rfl) rfl rfl rfl ?_
   refine AOps.step (Val.of hσ rfl rfl) rfl rfl rfl ?_
   first | refine AOps.step (Val.indexN hσ rfl rfl rfl rfl rfl rfl rfl rfl (idxN (by first | omega | (simp at *; omega)))) rfl rfl rfl ?_ | refine AOps.step (Val.indexD hσ rfl rfl rfl rfl rfl rfl rfl rfl (by first | omega | (simp at *; omega)) (idx_get (by first | omega | (simp at *; omega)) (by first | omega | (simp at *; omega)))) rfl rfl rfl ?_ | refine AOps.step (Val.vif hσ rfl rfl (by first | omega | (simp at *; omega))) rfl rfl rfl ?_
   refine AOps.step (Val.of hσ rfl rfl) rfl rfl rfl ?_
   refine AOps.step (Val.of hσ rfl rfl) rfl rfl rfl ?_
   refine AOps.step (Val.of hσ rfl rfl) rfl rfl rfl ?_
   refine AOps.step (Val.of hσ rfl rfl) rfl rfl rfl ?_
   refine AOps.forget [(24, _), (14, _), (1, _), (11, _), (12, _), (13, _)] ⟨rfl, rfl, rfl, rfl, rfl, rfl, trivial⟩ ?_
   refine AOps.nil ?_
   refine AWP.cond hσ rfl rfl (fun hc24 => ?_) (fun hc24 => ?_)
   ·
    skip
    refine AWP.seq ?_
    refine AWP.region ?_
    refine AOps.step (Val.of hσ rfl rfl) rfl rfl rfl ?_
    refine AOps.nil ?_
    refine AWP.ret ?_
    refine ⟨.inl rfl, _, Ent.refl, _, rfl, ?_⟩
    rw [← hi.2, h8, notF hc24, Bool.false_and]
   ·
    skip
    refine AWP.skip ?_
    refine AWP.region ?_
    first | refine AOps.step (Val.fits64 hσ rfl rfl (by first | omega | (simp at *; omega)) (by first | omega | (simp at *; omega))) rfl rfl rfl ?_ | refine AOps.step (Val.vif hσ rfl rfl (by first | omega | (simp at *; omega))) rfl rfl rfl ?_
    refine AOps.step (Val.of hσ rfl rfl) rfl rfl rfl ?_
    refine AOps.nil ?_
    rw [notT hc24, Bool.true_and] at h8
    exact ⟨i + 1, Ent.env ⟨rfl, rfl, rfl, rfl, trivial⟩, ⟨by omega, h8.symm.trans hi.2⟩, by omega⟩
  ·
   skip
   refine AWP.exit ?_
   refine AWP.seq ?_
   refine AWP.region ?_
   refine AOps.step (Val.of hσ rfl rfl) rfl rfl rfl ?_
   refine AOps.nil ?_
   refine AWP.ret ?_
   refine ⟨.inl rfl, _, Ent.refl, _, rfl, ?_⟩
   obtain rfl : i = os.length := by have := of_decide_eq_false hc14; omega
   rw [← hi.2, List.drop_length]
   rfl
end Go.Al
namespace Go.Al
open Go.Proofs
set_option linter.unusedVariables false
set_option linter.unusedSimpArgs false
set_option maxRecDepth 10000
set_option maxHeartbeats 4000000
theorem has_num {s : List In} (hs : ∀ x ∈ s, instrB x = true) {os : List Int} (h : hasR os s = true) {i : Nat} (hi : i < os.length) (ho : os.getD i default = 0 ∨ os.getD i default = 4) : num (s.getD i default).a = true :=
  instr_numB (hs _ (mem_getD (Nat.lt_of_lt_of_le hi (hasR_len h)))) (by rw [hasR_get h i hi]; exact ho)
theorem has1 {s : List In} (h0 : 0 < s.length) {o : Int} : hasR [o] s = decide ((s.getD 0 default).op = o) := by
  match s with
  | x :: r => simp [hasR]
theorem has2 {s : List In} (h0 : 0 < s.length) {p : Int} : hasR [(s.getD 0 default).op, p] s = (decide ((1 : Int) < s.length) && decide ((s.getD 1 default).op = p)) := by
  match s with
  | [x] => simp [hasR]
  | x :: y :: r => simp [hasR]; omega
theorem has3 {s : List In} (h0 : 0 < s.length) {p q : Int} : hasR [(s.getD 0 default).op, p, q] s = (decide ((2 : Int) < s.length) && (decide ((s.getD 1 default).op = p) && decide ((s.getD 2 default).op = q))) := by
  match s with
  | [x] => simp [hasR]
  | [x, y] => simp [hasR]
  | x :: y :: z :: r =>
    have : (2 : Int) < (x :: y :: z :: r).length := by simp only [List.length_cons]; omega
    rw [decide_eq_true this]
    simp [hasR]
theorem plain_has {s : List In} (h0 : 0 < s.length) : (bif bif hasR [1] s then true else hasR [3] s then true else hasR [7] s) = plainB (s.getD 0 default) := by
  rw [has1 h0, has1 h0, has1 h0]
  unfold plainB
  cases decide ((s.getD 0 default).op = 1) <;> cases decide ((s.getD 0 default).op = 3) <;> rfl
theorem andNd {a : Bool} {p : Prop} [Decidable p] (h : (bif a then decide p else false) = false) : ¬ (a = true ∧ p) := by
  rintro ⟨h1, h2⟩
  rw [h1, decide_eq_true h2] at h; cases h
theorem andTd {a : Bool} {p : Prop} [Decidable p] (h : (bif a then decide p else false) = true) : a = true ∧ p := ⟨(andT h).1, of_decide_eq_true (andT h).2⟩
theorem fold5 {s : List In} (h0 : 0 < s.length) (h : (bif (bif (bif (bif plainB (s.getD 0 default) then true else hasR [4] s) then decide ((2 : Int) < s.length) else false) then (decide ((s.getD 1 default).op = 0) && decide ((s.getD 1 default).a = 0)) else false) then decide ((s.getD 2 default).op = 3) else false) = true) : 2 < s.length ∧ (plainB (s.getD 0 default) = true ∨ (s.getD 0 default).op = 4) ∧ hasR [(s.getD 0 default).op, 0, 3] s = true ∧ (s.getD 1 default).a = 0 := by
  obtain ⟨h, h5⟩ := andTd h
  obtain ⟨h, h4⟩ := andT h
  obtain ⟨h, h3⟩ := andTd h
  rw [Bool.and_eq_true] at h4
  refine ⟨by omega, ?_, by rw [has3 h0, decide_eq_true h3, h4.1, decide_eq_true h5]; rfl, of_decide_eq_true h4.2⟩
  rw [has1 h0] at h
  cases hp : plainB (s.getD 0 default) with
  | true => exact .inl rfl
  | false => rw [hp] at h; exact .inr (of_decide_eq_true h)
theorem fold5n {s : List In} (h0 : 0 < s.length) (h : (bif (bif (bif (bif plainB (s.getD 0 default) then true else hasR [4] s) then decide ((2 : Int) < s.length) else false) then (decide ((s.getD 1 default).op = 0) && decide ((s.getD 1 default).a = 0)) else false) then decide ((s.getD 2 default).op = 3) else false) = false) : ¬ ((plainB (s.getD 0 default) = true ∨ (s.getD 0 default).op = 4) ∧ hasR [(s.getD 0 default).op, 0, 3] s = true ∧ (s.getD 1 default).a = 0) := by
  rintro ⟨h1, h2, h3⟩
  rw [has3 h0] at h2
  simp only [Bool.and_eq_true] at h2
  have h6 : (bif plainB (s.getD 0 default) then true else hasR [4] s) = true := by
    rcases h1 with h1 | h1
    · rw [h1]; rfl
    · rw [has1 h0, decide_eq_true h1]; cases plainB (s.getD 0 default) <;> rfl
  rw [h6, h2.1, h2.2.1, h2.2.2, decide_eq_true h3] at h
  cases h
theorem fold6 {s : List In} (h0 : 0 < s.length) (h : (bif (bif (bif plainB (s.getD 0 default) then decide ((1 : Int) < s.length) else false) then decide ((s.getD 1 default).op = 4) else false) then decide ((s.getD 1 default).a = 1) else false) = true) : plainB (s.getD 0 default) = true ∧ hasR [(s.getD 0 default).op, 4] s = true ∧ (s.getD 1 default).a = 1 := by
  obtain ⟨h, h5⟩ := andTd h
  obtain ⟨h, h4⟩ := andT h
  obtain ⟨h, h3⟩ := andT h
  exact ⟨h, by rw [has2 h0, h3, h4]; rfl, h5⟩
theorem fold6n {s : List In} (h0 : 0 < s.length) (h : (bif (bif (bif plainB (s.getD 0 default) then decide ((1 : Int) < s.length) else false) then decide ((s.getD 1 default).op = 4) else false) then decide ((s.getD 1 default).a = 1) else false) = false) : ¬ (plainB (s.getD 0 default) = true ∧ hasR [(s.getD 0 default).op, 4] s = true ∧ (s.getD 1 default).a = 1) := by
  rintro ⟨h1, h2, h3⟩
  rw [has2 h0] at h2
  simp only [Bool.and_eq_true] at h2
  rw [h1, h2.1, h2.2, decide_eq_true h3] at h
  cases h
theorem c131 {L : Nat} (h1 : 4096 ≤ L) (h2 : L ≤ 1073741824) {s : List In} (h0 : 0 < s.length) (hs : ∀ x ∈ s, instrB x = true) : MC Try.prog L 51 [ains s] [] (Plain (resRu (ruleR s))) := by
 refine MC.data ?_
 have hσ := SGok (nt := 181) h1 (Nat.le_trans h2 (by decide))
 refine MC.body hσ Try.func51 (by kernel_rfl) rfl rfl (Nat.le_of_ble_eq_true rfl) (fun hF => ?_)
 have hl : s.length ≤ L := by simpa [As.fact, A.fact, M.fact, D.fact, Ds.fact] using hF.1.1
 refine AWP.seq ?_
 refine AWP.region ?_
 refine AOps.heap (HS.box hσ rfl rfl rfl rfl rfl rfl rfl) rfl ?_
 apply AOps.norm
 ·
  repeat' (first | exact HN.nil rfl | apply HN.cons rfl | exact BN.row rfl | exact BN.map rfl | apply BN.box rfl | exact MN.nil rfl | apply MN.cons rfl | exact XN.d rfl | exact XN.rs rfl | exact XN.self)
 refine AOps.to (Ent.freeze 1 (e' := [(1, _), (0, _)]) rfl (.cons rfl (.c (.box (cs := [insD s]) rfl (VMs.self rfl))) (.cons rfl (.keep rfl) .nil)) (.skip .nil)) ?_
 refine AOps.step (Val.of hσ rfl rfl) rfl rfl rfl ?_
 refine AOps.step (Val.of hσ rfl rfl) rfl rfl rfl ?_
 refine AOps.nil ?_
 refine AWP.seq ?_
 refine AWP.region ?_
 refine AOps.step (Val.of hσ rfl rfl) rfl rfl rfl ?_
 refine AOps.step (Val.of hσ rfl rfl) rfl rfl rfl ?_
 refine AOps.nil ?_
 refine AWP.seq ?_
 refine AWP.seq ?_
 refine AWP.mid (F := ⟨[(21, eB (bif hasR [0, 4] s then num ((s.getD 0 default).a * (s.getD 1 default).a) else false)), (1, ptr [insD s]), (4, .c (.fn 77 [.d (.ptr [insD s] 0)]))], []⟩) ?_ ?_
 ·
  skip
  cases hb2 : hasR [0, 4] s with
  | true =>
   have hq : 2 ≤ s.length := by have := hasR_len hb2; simpa using this
   have n0 := has_num (i := 0) hs hb2 (by decide) (.inl rfl)
   have n1 := has_num (i := 1) hs hb2 (by decide) (.inr rfl)
   have hmm := numM n0 n1
   refine AWP.drawG hσ _ [_, _, _, _, _, _, _, _, _, _, _, _, _, _, _] [⟨[], 0, 1, none⟩, ⟨[], 0, 0, some 0⟩, ⟨[0, 1], 0, 0, some 1⟩, ⟨[0, 1, 2], 2, 2, none⟩, ⟨[0, 1, 2, 3], 2, 2, none⟩, ⟨[0, 1, 2, 3, 4], 2, 2, none⟩, ⟨[0, 1, 2, 3, 4, 5], 2, 2, none⟩, ⟨[0, 1, 2, 3, 4, 5, 6], 2, 2, none⟩, ⟨[0, 1, 2, 3], 2, 2, none⟩, ⟨[0, 1, 2, 3, 8], 2, 2, none⟩, ⟨[0, 1, 2, 3, 8, 9], 2, 2, none⟩, ⟨[0, 1, 2, 3, 8, 9, 10], 2, 2, none⟩, ⟨[0, 1, 2, 3, 4, 5, 6, 7, 8, 9, 10, 11], 2, 2, none⟩, ⟨[0, 1, 2, 3, 4, 5, 6, 7, 8, 9, 10, 11, 12], 0, 0, some 2⟩, ⟨[0, 1, 2, 3, 4, 5, 6, 7, 8, 9, 10, 11, 12, 13], 3, 3, none⟩] [1, 2, 13] [_, _, _, _] rfl rfl (by decide) (by decide) (by kernel_rfl) (And.intro (And.intro (Val.of hσ rfl rfl) (Val.of hσ rfl rfl)) (And.intro (Eff.litN hσ rfl rfl rfl rfl rfl rfl rfl rfl rfl rfl rfl rfl rfl) (And.intro (Eff.lone hσ (B0 := 10000) rfl rfl rfl rfl ((c175 (c := s) (os := [0, 4]) h1 h2).plain (congrArg eB hb2)) (VAs.cons (.c (.whole rfl rfl)) (.cons (.c .d) .nil)) rfl rfl rfl rfl rfl) (And.intro (Val.of hσ rfl rfl) (And.intro (Val.of hσ rfl rfl) (And.intro (Val.indexN hσ rfl rfl rfl rfl rfl rfl rfl rfl (idxN (n := 0) (by omega))) (And.intro (Val.of hσ rfl rfl) (And.intro (Val.of hσ rfl rfl) (And.intro (Val.of hσ rfl rfl) (And.intro (Val.indexN hσ rfl rfl rfl rfl rfl rfl rfl rfl (idxN (n := 1) (by omega))) (And.intro (Val.of hσ rfl rfl) (And.intro (Val.of hσ rfl rfl) (And.intro (Val.fits64 hσ rfl rfl (by first | omega | (have := hmm; omega)) (by first | omega | (have := hmm; omega))) (And.intro (Eff.lone hσ (B0 := 21000) rfl rfl rfl rfl (c176 (x := (s.getD 0 default).a * (s.getD 1 default).a) h1 h2) (VAs.self rfl) rfl rfl rfl rfl rfl) (And.intro (Val.pickY hσ rfl rfl rfl rfl rfl) trivial))))))))))))))) ?_
   exact ⟨rfl, Ent.sel (bs := []) [] rfl rfl ⟨rfl, rfl, rfl, trivial⟩ rfl⟩
  | false =>
   refine AWP.drawG hσ _ [_, _, _, _, _, _, _, _, _, _, _, _, _, _, _] [⟨[], 0, 1, none⟩, ⟨[], 0, 0, some 0⟩, ⟨[0, 1], 0, 0, some 1⟩, ⟨[0, 1, 2], 2, 2, none⟩, ⟨[0, 1, 2, 3], 0, 2, none⟩, ⟨[0, 1, 2, 3, 4], 0, 2, none⟩, ⟨[0, 1, 2, 3, 4, 5], 0, 2, none⟩, ⟨[0, 1, 2, 3, 4, 5, 6], 0, 2, none⟩, ⟨[0, 1, 2, 3], 0, 2, none⟩, ⟨[0, 1, 2, 3, 8], 0, 2, none⟩, ⟨[0, 1, 2, 3, 8, 9], 0, 2, none⟩, ⟨[0, 1, 2, 3, 8, 9, 10], 0, 2, none⟩, ⟨[0, 1, 2, 3, 4, 5, 6, 7, 8, 9, 10, 11], 0, 2, none⟩, ⟨[0, 1, 2, 3, 4, 5, 6, 7, 8, 9, 10, 11, 12], 0, 2, none⟩, ⟨[0, 1, 2, 3, 4, 5, 6, 7, 8, 9, 10, 11, 12, 13], 2, 2, none⟩] [1, 2] [_, _, _] rfl rfl (by decide) (by decide) (by kernel_rfl) (And.intro (And.intro (Val.of hσ rfl rfl) (Val.of hσ rfl rfl)) (And.intro (Eff.litN hσ rfl rfl rfl rfl rfl rfl rfl rfl rfl rfl rfl rfl rfl) (And.intro (Eff.lone hσ (B0 := 10000) rfl rfl rfl rfl ((c175 (c := s) (os := [0, 4]) h1 h2).plain (congrArg eB hb2)) (VAs.cons (.c (.whole rfl rfl)) (.cons (.c .d) .nil)) rfl rfl rfl rfl rfl) (And.intro (Val.of hσ rfl rfl) (And.intro ⟨rfl, rfl⟩ (And.intro ⟨rfl, rfl⟩ (And.intro ⟨rfl, rfl⟩ (And.intro ⟨rfl, rfl⟩ (And.intro ⟨rfl, rfl⟩ (And.intro ⟨rfl, rfl⟩ (And.intro ⟨rfl, rfl⟩ (And.intro ⟨rfl, rfl⟩ (And.intro ⟨rfl, rfl⟩ (And.intro ⟨rfl, rfl⟩ (And.intro (Val.pickN hσ rfl rfl rfl rfl rfl) trivial))))))))))))))) ?_
   exact ⟨rfl, Ent.sel (bs := []) [] rfl rfl ⟨rfl, rfl, rfl, trivial⟩ rfl⟩
 refine AWP.cond hσ rfl rfl (fun hc21 => ?_) (fun hc21 => ?_)
 ·
  skip
  refine AWP.seq ?_
  obtain ⟨hb2, hnum2⟩ := bifT hc21
  have hq : 2 ≤ s.length := by have := hasR_len hb2; simpa using this
  have n0 := has_num (i := 0) hs hb2 (by decide) (.inl rfl)
  have n1 := has_num (i := 1) hs hb2 (by decide) (.inr rfl)
  have hmm := numM n0 n1
  refine AWP.drawR hσ _ [_, _, _, _, _, _, _, _, _, _, _, _, _] [⟨[], 0, 0, none⟩, ⟨[0], 0, 0, none⟩, ⟨[0, 1], 0, 0, none⟩, ⟨[0, 1, 2], 0, 0, none⟩, ⟨[], 0, 0, none⟩, ⟨[4], 0, 0, none⟩, ⟨[4, 5], 0, 0, none⟩, ⟨[4, 5, 6], 0, 0, none⟩, ⟨[0, 1, 2, 3, 4, 5, 6, 7], 0, 0, none⟩, ⟨[0, 1, 2, 3, 4, 5, 6, 7, 8], 0, 0, none⟩, ⟨[0, 1, 2, 3, 4, 5, 6, 7, 8, 9], 0, 0, some 0⟩, ⟨[], 0, 1, none⟩, ⟨[0, 1, 2, 3, 4, 5, 6, 7, 8, 9, 10, 11], 1, 1, none⟩] [10] [_, _] rfl rfl (by decide) (by decide) (by kernel_rfl) (And.intro (Val.of hσ rfl rfl) (And.intro (Val.indexN hσ rfl rfl rfl rfl rfl rfl rfl rfl (idxN (n := 0) (by omega))) (And.intro (Val.of hσ rfl rfl) (And.intro (Val.of hσ rfl rfl) (And.intro (Val.of hσ rfl rfl) (And.intro (Val.indexN hσ rfl rfl rfl rfl rfl rfl rfl rfl (idxN (n := 1) (by omega))) (And.intro (Val.of hσ rfl rfl) (And.intro (Val.of hσ rfl rfl) (And.intro (Val.fits64 hσ rfl rfl (by first | omega | (have := hmm; omega)) (by first | omega | (have := hmm; omega))) (And.intro (Val.of hσ rfl rfl) (And.intro (Eff.litN hσ rfl rfl rfl rfl rfl rfl rfl rfl rfl rfl rfl rfl rfl) (And.intro (And.intro (Val.of hσ rfl rfl) (Val.of hσ rfl rfl)) (And.intro (Val.of hσ rfl rfl) trivial))))))))))))) ?_
  refine AWP.ret ?_
  refine ⟨.inl rfl, _, Ent.refl, _, rfl, ?_⟩
  rw [show ruleR s = ruleC (s.getD 0 default) (s.getD 1 default) (s.getD 2 default) (fun os => hasR os s) from rfl]
  unfold ruleC
  rw [if_pos ⟨hb2, hnum2⟩]
  exact .tup (.cons (.c .d) (.cons (.c (.whole rfl rfl)) .nil))
 ·
  skip
  refine AWP.skip ?_
  refine AWP.seq ?_
  refine AWP.seq ?_
  refine AWP.mid (F := ⟨[(47, eB (bif hasR [0, 0, 3] s then num ((s.getD 0 default).a + (s.getD 1 default).a) else false)), (1, ptr [insD s]), (4, .c (.fn 77 [.d (.ptr [insD s] 0)]))], []⟩) ?_ ?_
  ·
   skip
   cases hb4 : hasR [0, 0, 3] s with
   | true =>
    have hq : 3 ≤ s.length := by have := hasR_len hb4; simpa using this
    have n0 := instr_a (hs _ (mem_getD (i := 0) (by omega)))
    have n1 := instr_a (hs _ (mem_getD (i := 1) (by omega)))
    refine AWP.drawG hσ _ [_, _, _, _, _, _, _, _, _, _, _, _, _, _, _] [⟨[], 0, 1, none⟩, ⟨[], 0, 0, some 0⟩, ⟨[0, 1], 0, 0, some 1⟩, ⟨[0, 1, 2], 2, 2, none⟩, ⟨[0, 1, 2, 3], 2, 2, none⟩, ⟨[0, 1, 2, 3, 4], 2, 2, none⟩, ⟨[0, 1, 2, 3, 4, 5], 2, 2, none⟩, ⟨[0, 1, 2, 3, 4, 5, 6], 2, 2, none⟩, ⟨[0, 1, 2, 3], 2, 2, none⟩, ⟨[0, 1, 2, 3, 8], 2, 2, none⟩, ⟨[0, 1, 2, 3, 8, 9], 2, 2, none⟩, ⟨[0, 1, 2, 3, 8, 9, 10], 2, 2, none⟩, ⟨[0, 1, 2, 3, 4, 5, 6, 7, 8, 9, 10, 11], 2, 2, none⟩, ⟨[0, 1, 2, 3, 4, 5, 6, 7, 8, 9, 10, 11, 12], 0, 0, some 2⟩, ⟨[0, 1, 2, 3, 4, 5, 6, 7, 8, 9, 10, 11, 12, 13], 3, 3, none⟩] [1, 2, 13] [_, _, _, _] rfl rfl (by decide) (by decide) (by kernel_rfl) (And.intro (And.intro (Val.of hσ rfl rfl) (Val.of hσ rfl rfl)) (And.intro (Eff.litN hσ rfl rfl rfl rfl rfl rfl rfl rfl rfl rfl rfl rfl rfl) (And.intro (Eff.lone hσ (B0 := 36000) rfl rfl rfl rfl ((c175 (c := s) (os := [0, 0, 3]) h1 h2).plain (congrArg eB hb4)) (VAs.cons (.c (.whole rfl rfl)) (.cons (.c .d) .nil)) rfl rfl rfl rfl rfl) (And.intro (Val.of hσ rfl rfl) (And.intro (Val.of hσ rfl rfl) (And.intro (Val.indexN hσ rfl rfl rfl rfl rfl rfl rfl rfl (idxN (n := 0) (by omega))) (And.intro (Val.of hσ rfl rfl) (And.intro (Val.of hσ rfl rfl) (And.intro (Val.of hσ rfl rfl) (And.intro (Val.indexN hσ rfl rfl rfl rfl rfl rfl rfl rfl (idxN (n := 1) (by omega))) (And.intro (Val.of hσ rfl rfl) (And.intro (Val.of hσ rfl rfl) (And.intro (Val.fits64 hσ rfl rfl (by first | omega | (have := hmm; omega)) (by first | omega | (have := hmm; omega))) (And.intro (Eff.lone hσ (B0 := 47000) rfl rfl rfl rfl (c176 (x := (s.getD 0 default).a + (s.getD 1 default).a) h1 h2) (VAs.self rfl) rfl rfl rfl rfl rfl) (And.intro (Val.pickY hσ rfl rfl rfl rfl rfl) trivial))))))))))))))) ?_
    exact ⟨rfl, Ent.sel (bs := []) [] rfl rfl ⟨rfl, rfl, rfl, trivial⟩ rfl⟩
   | false =>
    refine AWP.drawG hσ _ [_, _, _, _, _, _, _, _, _, _, _, _, _, _, _] [⟨[], 0, 1, none⟩, ⟨[], 0, 0, some 0⟩, ⟨[0, 1], 0, 0, some 1⟩, ⟨[0, 1, 2], 2, 2, none⟩, ⟨[0, 1, 2, 3], 0, 2, none⟩, ⟨[0, 1, 2, 3, 4], 0, 2, none⟩, ⟨[0, 1, 2, 3, 4, 5], 0, 2, none⟩, ⟨[0, 1, 2, 3, 4, 5, 6], 0, 2, none⟩, ⟨[0, 1, 2, 3], 0, 2, none⟩, ⟨[0, 1, 2, 3, 8], 0, 2, none⟩, ⟨[0, 1, 2, 3, 8, 9], 0, 2, none⟩, ⟨[0, 1, 2, 3, 8, 9, 10], 0, 2, none⟩, ⟨[0, 1, 2, 3, 4, 5, 6, 7, 8, 9, 10, 11], 0, 2, none⟩, ⟨[0, 1, 2, 3, 4, 5, 6, 7, 8, 9, 10, 11, 12], 0, 2, none⟩, ⟨[0, 1, 2, 3, 4, 5, 6, 7, 8, 9, 10, 11, 12, 13], 2, 2, none⟩] [1, 2] [_, _, _] rfl rfl (by decide) (by decide) (by kernel_rfl) (And.intro (And.intro (Val.of hσ rfl rfl) (Val.of hσ rfl rfl)) (And.intro (Eff.litN hσ rfl rfl rfl rfl rfl rfl rfl rfl rfl rfl rfl rfl rfl) (And.intro (Eff.lone hσ (B0 := 36000) rfl rfl rfl rfl ((c175 (c := s) (os := [0, 0, 3]) h1 h2).plain (congrArg eB hb4)) (VAs.cons (.c (.whole rfl rfl)) (.cons (.c .d) .nil)) rfl rfl rfl rfl rfl) (And.intro (Val.of hσ rfl rfl) (And.intro ⟨rfl, rfl⟩ (And.intro ⟨rfl, rfl⟩ (And.intro ⟨rfl, rfl⟩ (And.intro ⟨rfl, rfl⟩ (And.intro ⟨rfl, rfl⟩ (And.intro ⟨rfl, rfl⟩ (And.intro ⟨rfl, rfl⟩ (And.intro ⟨rfl, rfl⟩ (And.intro ⟨rfl, rfl⟩ (And.intro ⟨rfl, rfl⟩ (And.intro (Val.pickN hσ rfl rfl rfl rfl rfl) trivial))))))))))))))) ?_
    exact ⟨rfl, Ent.sel (bs := []) [] rfl rfl ⟨rfl, rfl, rfl, trivial⟩ rfl⟩
  refine AWP.cond hσ rfl rfl (fun hc47 => ?_) (fun hc47 => ?_)
  ·
   skip
   refine AWP.seq ?_
   obtain ⟨hb4, hnum4⟩ := bifT hc47
   have hq : 3 ≤ s.length := by have := hasR_len hb4; simpa using this
   have n0 := instr_a (hs _ (mem_getD (i := 0) (by omega)))
   have n1 := instr_a (hs _ (mem_getD (i := 1) (by omega)))
   refine AWP.drawR hσ _ [_, _, _, _, _, _, _, _, _, _, _, _, _] [⟨[], 0, 0, none⟩, ⟨[0], 0, 0, none⟩, ⟨[0, 1], 0, 0, none⟩, ⟨[0, 1, 2], 0, 0, none⟩, ⟨[], 0, 0, none⟩, ⟨[4], 0, 0, none⟩, ⟨[4, 5], 0, 0, none⟩, ⟨[4, 5, 6], 0, 0, none⟩, ⟨[0, 1, 2, 3, 4, 5, 6, 7], 0, 0, none⟩, ⟨[0, 1, 2, 3, 4, 5, 6, 7, 8], 0, 0, none⟩, ⟨[0, 1, 2, 3, 4, 5, 6, 7, 8, 9], 0, 0, some 0⟩, ⟨[], 0, 1, none⟩, ⟨[0, 1, 2, 3, 4, 5, 6, 7, 8, 9, 10, 11], 1, 1, none⟩] [10] [_, _] rfl rfl (by decide) (by decide) (by kernel_rfl) (And.intro (Val.of hσ rfl rfl) (And.intro (Val.indexN hσ rfl rfl rfl rfl rfl rfl rfl rfl (idxN (n := 0) (by omega))) (And.intro (Val.of hσ rfl rfl) (And.intro (Val.of hσ rfl rfl) (And.intro (Val.of hσ rfl rfl) (And.intro (Val.indexN hσ rfl rfl rfl rfl rfl rfl rfl rfl (idxN (n := 1) (by omega))) (And.intro (Val.of hσ rfl rfl) (And.intro (Val.of hσ rfl rfl) (And.intro (Val.fits64 hσ rfl rfl (by first | omega | (have := hmm; omega)) (by first | omega | (have := hmm; omega))) (And.intro (Val.of hσ rfl rfl) (And.intro (Eff.litN hσ rfl rfl rfl rfl rfl rfl rfl rfl rfl rfl rfl rfl rfl) (And.intro (And.intro (Val.of hσ rfl rfl) (Val.of hσ rfl rfl)) (And.intro (Val.of hσ rfl rfl) trivial))))))))))))) ?_
   refine AWP.ret ?_
   refine ⟨.inl rfl, _, Ent.refl, _, rfl, ?_⟩
   rw [show ruleR s = ruleC (s.getD 0 default) (s.getD 1 default) (s.getD 2 default) (fun os => hasR os s) from rfl]
   unfold ruleC
   rw [if_neg (andN hc21), if_pos ⟨hb4, hnum4⟩]
   exact .tup (.cons (.c .d) (.cons (.c (.whole rfl rfl)) .nil))
  ·
   skip
   refine AWP.skip ?_
   refine AWP.seq ?_
   refine AWP.seq ?_
   refine AWP.mid (F := ⟨[(68, eB (bif hasR [0, 1, 3] s then decide ((s.getD 0 default).a = 0) else false)), (1, ptr [insD s]), (4, .c (.fn 77 [.d (.ptr [insD s] 0)]))], []⟩) ?_ ?_
   ·
    skip
    refine AWP.region ?_
    refine AOps.step (Val.of hσ rfl rfl) rfl rfl rfl ?_
    refine AOps.heap (HS.litD hσ rfl rfl rfl rfl rfl rfl rfl rfl rfl rfl rfl) rfl ?_
    apply AOps.norm
    ·
     repeat' (first | exact HN.nil rfl | apply HN.cons rfl | exact BN.row rfl | exact BN.map rfl | apply BN.box rfl | exact MN.nil rfl | apply MN.cons rfl | exact XN.d rfl | exact XN.rs rfl | exact XN.self)
    refine AOps.lone hσ rfl rfl rfl rfl (c175 (c := s) (os := [0, 1, 3]) h1 h2) (VAs.cons (.c (.whole rfl rfl)) (.cons (.c .d) .nil)) rfl rfl rfl rfl rfl (B0 := 62000) rfl ?_
    cases hb62 : hasR [0, 1, 3] s with
    | true =>
     refine AOps.step (Val.of hσ rfl rfl) rfl rfl rfl ?_
     refine AOps.live rfl rfl rfl rfl rfl ?_
     refine AOps.step (Val.of hσ rfl rfl) rfl rfl rfl ?_
     refine AOps.live rfl rfl rfl rfl rfl ?_
     refine AOps.step (Val.indexN hσ rfl rfl rfl rfl rfl rfl rfl rfl (idxN (n := 0) (by omega))) rfl rfl rfl ?_
     refine AOps.live rfl rfl rfl rfl rfl ?_
     refine AOps.step (Val.of hσ rfl rfl) rfl rfl rfl ?_
     refine AOps.live rfl rfl rfl rfl rfl ?_
     refine AOps.step (Val.of hσ rfl rfl) rfl rfl rfl ?_
     refine AOps.live rfl rfl rfl rfl rfl ?_
     refine AOps.step (Val.of hσ rfl rfl) rfl rfl rfl ?_
     refine AOps.step (Val.pickY hσ rfl rfl rfl rfl rfl) rfl rfl rfl ?_
     refine AOps.nil ?_
     exact ⟨rfl, Ent.sel (bs := []) [] rfl rfl ⟨rfl, rfl, rfl, trivial⟩ rfl⟩
    | false =>
     refine AOps.step (Val.of hσ rfl rfl) rfl rfl rfl ?_
     refine AOps.skip rfl rfl rfl rfl rfl rfl ?_
     refine AOps.skip rfl rfl rfl rfl rfl rfl ?_
     refine AOps.skip rfl rfl rfl rfl rfl rfl ?_
     refine AOps.skip rfl rfl rfl rfl rfl rfl ?_
     refine AOps.skip rfl rfl rfl rfl rfl rfl ?_
     refine AOps.step (Val.pickN hσ rfl rfl rfl rfl rfl) rfl rfl rfl ?_
     refine AOps.nil ?_
     exact ⟨rfl, Ent.sel (bs := []) [] rfl rfl ⟨rfl, rfl, rfl, trivial⟩ rfl⟩
   refine AWP.cond hσ rfl rfl (fun hc68 => ?_) (fun hc68 => ?_)
   ·
    skip
    refine AWP.seq ?_
    obtain ⟨hb6, hz6⟩ := andTd hc68
    have hq : 3 ≤ s.length := by have := hasR_len hb6; simpa using this
    refine AWP.drawR hσ _ [_, _, _, _, _, _] [⟨[], 0, 0, none⟩, ⟨[0], 0, 0, none⟩, ⟨[0, 1], 0, 0, none⟩, ⟨[0, 1, 2], 0, 0, some 0⟩, ⟨[], 0, 1, none⟩, ⟨[0, 1, 2, 3, 4], 1, 1, none⟩] [3] [_, _] rfl rfl (by decide) (by decide) (by kernel_rfl) (And.intro (Val.of hσ rfl rfl) (And.intro (Val.indexN hσ rfl rfl rfl rfl rfl rfl rfl rfl (idxN (n := 1) (by omega))) (And.intro (Val.of hσ rfl rfl) (And.intro (Eff.litN hσ rfl rfl rfl rfl rfl rfl rfl rfl rfl rfl rfl rfl rfl) (And.intro (And.intro (Val.of hσ rfl rfl) (Val.of hσ rfl rfl)) (And.intro (Val.of hσ rfl rfl) trivial)))))) ?_
    refine AWP.ret ?_
    refine ⟨.inl rfl, _, Ent.refl, _, rfl, ?_⟩
    rw [show ruleR s = ruleC (s.getD 0 default) (s.getD 1 default) (s.getD 2 default) (fun os => hasR os s) from rfl]
    unfold ruleC
    rw [if_neg (andN hc21), if_neg (andN hc47), if_pos ⟨hb6, hz6⟩]
    exact .tup (.cons (.c .d) (.cons (.c (.whole rfl rfl)) .nil))
   ·
    skip
    refine AWP.skip ?_
    refine AWP.seq ?_
    refine AWP.seq ?_
    refine AWP.mid (F := ⟨[(82, eB (bif hasR [0, 1, 4, 3] s then decide ((s.getD 0 default).a = 0) else false)), (1, ptr [insD s]), (4, .c (.fn 77 [.d (.ptr [insD s] 0)]))], []⟩) ?_ ?_
    ·
     skip
     refine AWP.region ?_
     refine AOps.step (Val.of hσ rfl rfl) rfl rfl rfl ?_
     refine AOps.heap (HS.litD hσ rfl rfl rfl rfl rfl rfl rfl rfl rfl rfl rfl) rfl ?_
     apply AOps.norm
     ·
      repeat' (first | exact HN.nil rfl | apply HN.cons rfl | exact BN.row rfl | exact BN.map rfl | apply BN.box rfl | exact MN.nil rfl | apply MN.cons rfl | exact XN.d rfl | exact XN.rs rfl | exact XN.self)
     refine AOps.lone hσ rfl rfl rfl rfl (c175 (c := s) (os := [0, 1, 4, 3]) h1 h2) (VAs.cons (.c (.whole rfl rfl)) (.cons (.c .d) .nil)) rfl rfl rfl rfl rfl (B0 := 76000) rfl ?_
     cases hb76 : hasR [0, 1, 4, 3] s with
     | true =>
      refine AOps.step (Val.of hσ rfl rfl) rfl rfl rfl ?_
      refine AOps.live rfl rfl rfl rfl rfl ?_
      refine AOps.step (Val.of hσ rfl rfl) rfl rfl rfl ?_
      refine AOps.live rfl rfl rfl rfl rfl ?_
      refine AOps.step (Val.indexN hσ rfl rfl rfl rfl rfl rfl rfl rfl (idxN (n := 0) (by omega))) rfl rfl rfl ?_
      refine AOps.live rfl rfl rfl rfl rfl ?_
      refine AOps.step (Val.of hσ rfl rfl) rfl rfl rfl ?_
      refine AOps.live rfl rfl rfl rfl rfl ?_
      refine AOps.step (Val.of hσ rfl rfl) rfl rfl rfl ?_
      refine AOps.live rfl rfl rfl rfl rfl ?_
      refine AOps.step (Val.of hσ rfl rfl) rfl rfl rfl ?_
      refine AOps.step (Val.pickY hσ rfl rfl rfl rfl rfl) rfl rfl rfl ?_
      refine AOps.nil ?_
      exact ⟨rfl, Ent.sel (bs := []) [] rfl rfl ⟨rfl, rfl, rfl, trivial⟩ rfl⟩
     | false =>
      refine AOps.step (Val.of hσ rfl rfl) rfl rfl rfl ?_
      refine AOps.skip rfl rfl rfl rfl rfl rfl ?_
      refine AOps.skip rfl rfl rfl rfl rfl rfl ?_
      refine AOps.skip rfl rfl rfl rfl rfl rfl ?_
      refine AOps.skip rfl rfl rfl rfl rfl rfl ?_
      refine AOps.skip rfl rfl rfl rfl rfl rfl ?_
      refine AOps.step (Val.pickN hσ rfl rfl rfl rfl rfl) rfl rfl rfl ?_
      refine AOps.nil ?_
      exact ⟨rfl, Ent.sel (bs := []) [] rfl rfl ⟨rfl, rfl, rfl, trivial⟩ rfl⟩
    refine AWP.cond hσ rfl rfl (fun hc82 => ?_) (fun hc82 => ?_)
    ·
     skip
     refine AWP.seq ?_
     obtain ⟨hb8, hz8⟩ := andTd hc82
     have hq : 4 ≤ s.length := by have := hasR_len hb8; simpa using this
     refine AWP.drawR hσ _ [_, _, _, _, _, _, _, _, _] [⟨[], 0, 0, none⟩, ⟨[0], 0, 0, none⟩, ⟨[0, 1], 0, 0, none⟩, ⟨[], 0, 0, none⟩, ⟨[3], 0, 0, none⟩, ⟨[3, 4], 0, 0, none⟩, ⟨[0, 1, 2, 3, 4, 5], 0, 0, some 0⟩, ⟨[], 0, 1, none⟩, ⟨[0, 1, 2, 3, 4, 5, 6, 7], 1, 1, none⟩] [6] [_, _] rfl rfl (by decide) (by decide) (by kernel_rfl) (And.intro (Val.of hσ rfl rfl) (And.intro (Val.indexN hσ rfl rfl rfl rfl rfl rfl rfl rfl (idxN (n := 1) (by omega))) (And.intro (Val.of hσ rfl rfl) (And.intro (Val.of hσ rfl rfl) (And.intro (Val.indexN hσ rfl rfl rfl rfl rfl rfl rfl rfl (idxN (n := 2) (by omega))) (And.intro (Val.of hσ rfl rfl) (And.intro (Eff.litN hσ rfl rfl rfl rfl rfl rfl rfl rfl rfl rfl rfl rfl rfl) (And.intro (And.intro (Val.of hσ rfl rfl) (Val.of hσ rfl rfl)) (And.intro (Val.of hσ rfl rfl) trivial))))))))) ?_
     refine AWP.ret ?_
     refine ⟨.inl rfl, _, Ent.refl, _, rfl, ?_⟩
     rw [show ruleR s = ruleC (s.getD 0 default) (s.getD 1 default) (s.getD 2 default) (fun os => hasR os s) from rfl]
     unfold ruleC
     rw [if_neg (andN hc21), if_neg (andN hc47), if_neg (andNd hc68), if_pos ⟨hb8, hz8⟩]
     exact .tup (.cons (.c .d) (.cons (.c (.whole rfl rfl)) .nil))
    ·
     skip
     refine AWP.skip ?_
     refine AWP.seq ?_
     refine AWP.mid (F := ⟨[(5, eB (bif bif hasR [1] s then true else hasR [3] s then true else hasR [7] s)), (1, ptr [insD s]), (4, .c (.fn 77 [.d (.ptr [insD s] 0)]))], []⟩) ?_ ?_
     ·
      skip
      refine AWP.region ?_
      refine AOps.step (Val.of hσ rfl rfl) rfl rfl rfl ?_
      refine AOps.heap (HS.litD hσ rfl rfl rfl rfl rfl rfl rfl rfl rfl rfl rfl) rfl ?_
      apply AOps.norm
      ·
       repeat' (first | exact HN.nil rfl | apply HN.cons rfl | exact BN.row rfl | exact BN.map rfl | apply BN.box rfl | exact MN.nil rfl | apply MN.cons rfl | exact XN.d rfl | exact XN.rs rfl | exact XN.self)
      refine AOps.lone hσ rfl rfl rfl rfl (c175 (c := s) (os := [1]) h1 h2) (VAs.cons (.c (.whole rfl rfl)) (.cons (.c .d) .nil)) rfl rfl rfl rfl rfl (B0 := 93000) rfl ?_
      cases hb93 : hasR [1] s with
      | true =>
       refine AOps.step (Val.of hσ rfl rfl) rfl rfl rfl ?_
       refine AOps.skip rfl rfl rfl rfl rfl rfl ?_
       refine AOps.skip rfl rfl rfl rfl rfl rfl ?_
       refine AOps.skip rfl rfl rfl rfl rfl rfl ?_
       refine AOps.step (Val.pickY hσ rfl rfl rfl rfl rfl) rfl rfl rfl ?_
       refine AOps.step (Val.of hσ rfl rfl) rfl rfl rfl ?_
       refine AOps.skip rfl rfl rfl rfl rfl rfl ?_
       refine AOps.skip rfl rfl rfl rfl rfl rfl ?_
       refine AOps.skip rfl rfl rfl rfl rfl rfl ?_
       refine AOps.step (Val.pickY hσ rfl rfl rfl rfl rfl) rfl rfl rfl ?_
       refine AOps.step (Val.of hσ rfl rfl) rfl rfl rfl ?_
       refine AOps.nil ?_
       exact ⟨rfl, Ent.sel (bs := []) [] rfl rfl ⟨rfl, rfl, rfl, trivial⟩ rfl⟩
      | false =>
       refine AOps.step (Val.of hσ rfl rfl) rfl rfl rfl ?_
       refine AOps.live rfl rfl rfl rfl rfl ?_
       refine AOps.step (Val.of hσ rfl rfl) rfl rfl rfl ?_
       refine AOps.live rfl rfl rfl rfl rfl ?_
       refine AOps.heap (HS.litD hσ rfl rfl rfl rfl rfl rfl rfl rfl rfl rfl rfl) rfl ?_
       apply AOps.norm
       ·
        repeat' (first | exact HN.nil rfl | apply HN.cons rfl | exact BN.row rfl | exact BN.map rfl | apply BN.box rfl | exact MN.nil rfl | apply MN.cons rfl | exact XN.d rfl | exact XN.rs rfl | exact XN.self)
       refine AOps.live rfl rfl rfl rfl rfl ?_
       refine AOps.lone hσ rfl rfl rfl rfl (c175 (c := s) (os := [3]) h1 h2) (VAs.cons (.c (.whole rfl rfl)) (.cons (.c .d) .nil)) rfl rfl rfl rfl rfl (B0 := 97000) rfl ?_
       refine AOps.step (Val.pickN hσ rfl rfl rfl rfl rfl) rfl rfl rfl ?_
       cases hb98 : hasR [3] s with
       | true =>
        refine AOps.step (Val.of hσ rfl rfl) rfl rfl rfl ?_
        refine AOps.skip rfl rfl rfl rfl rfl rfl ?_
        refine AOps.skip rfl rfl rfl rfl rfl rfl ?_
        refine AOps.skip rfl rfl rfl rfl rfl rfl ?_
        refine AOps.step (Val.pickY hσ rfl rfl rfl rfl rfl) rfl rfl rfl ?_
        refine AOps.step (Val.of hσ rfl rfl) rfl rfl rfl ?_
        refine AOps.nil ?_
        exact ⟨rfl, Ent.sel (bs := []) [] rfl rfl ⟨rfl, rfl, rfl, trivial⟩ rfl⟩
       | false =>
        refine AOps.step (Val.of hσ rfl rfl) rfl rfl rfl ?_
        refine AOps.live rfl rfl rfl rfl rfl ?_
        refine AOps.step (Val.of hσ rfl rfl) rfl rfl rfl ?_
        refine AOps.live rfl rfl rfl rfl rfl ?_
        refine AOps.heap (HS.litD hσ rfl rfl rfl rfl rfl rfl rfl rfl rfl rfl rfl) rfl ?_
        apply AOps.norm
        ·
         repeat' (first | exact HN.nil rfl | apply HN.cons rfl | exact BN.row rfl | exact BN.map rfl | apply BN.box rfl | exact MN.nil rfl | apply MN.cons rfl | exact XN.d rfl | exact XN.rs rfl | exact XN.self)
        refine AOps.live rfl rfl rfl rfl rfl ?_
        refine AOps.lone hσ rfl rfl rfl rfl (c175 (c := s) (os := [7]) h1 h2) (VAs.cons (.c (.whole rfl rfl)) (.cons (.c .d) .nil)) rfl rfl rfl rfl rfl (B0 := 102000) rfl ?_
        refine AOps.step (Val.pickN hσ rfl rfl rfl rfl rfl) rfl rfl rfl ?_
        refine AOps.step (Val.of hσ rfl rfl) rfl rfl rfl ?_
        refine AOps.nil ?_
        exact ⟨rfl, Ent.sel (bs := []) [] rfl rfl ⟨rfl, rfl, rfl, trivial⟩ rfl⟩
     refine AWP.seq ?_
     refine AWP.seq ?_
     rw [plain_has h0]
     refine AWP.mid (F := ⟨[(126, eB (bif (bif (bif (bif plainB (s.getD 0 default) then true else hasR [4] s) then decide ((2 : Int) < s.length) else false) then (decide ((s.getD 1 default).op = 0) && decide ((s.getD 1 default).a = 0)) else false) then decide ((s.getD 2 default).op = 3) else false)), (5, eB (plainB (s.getD 0 default))), (1, ptr [insD s]), (4, .c (.fn 77 [.d (.ptr [insD s] 0)]))], []⟩) ?_ ?_
     ·
      skip
      refine AWP.region ?_
      refine AOps.step (Val.of hσ rfl rfl) rfl rfl rfl ?_
      cases hb104 : plainB (s.getD 0 default) with
      | true =>
       refine AOps.step (Val.of hσ rfl rfl) rfl rfl rfl ?_
       refine AOps.skip rfl rfl rfl rfl rfl rfl ?_
       refine AOps.skip rfl rfl rfl rfl rfl rfl ?_
       refine AOps.skip rfl rfl rfl rfl rfl rfl ?_
       refine AOps.step (Val.pickY hσ rfl rfl rfl rfl rfl) rfl rfl rfl ?_
       refine AOps.step (Val.of hσ rfl rfl) rfl rfl rfl ?_
       refine AOps.live rfl rfl rfl rfl rfl ?_
       refine AOps.step (Val.of hσ rfl rfl) rfl rfl rfl ?_
       refine AOps.live rfl rfl rfl rfl rfl ?_
       refine AOps.step ((Val.lenD hσ rfl rfl rfl rfl rfl rfl rfl rfl).cast (v' := eI s.length) (by simp)) rfl rfl rfl ?_
       refine AOps.live rfl rfl rfl rfl rfl ?_
       refine AOps.step (Val.of hσ rfl rfl) rfl rfl rfl ?_
       refine AOps.step (Val.pickY hσ rfl rfl rfl rfl rfl) rfl rfl rfl ?_
       cases hb114 : decide ((2 : Int) < s.length) with
       | true =>
        have hq2 : 2 < s.length := by have := of_decide_eq_true hb114; omega
        refine AOps.step (Val.of hσ rfl rfl) rfl rfl rfl ?_
        refine AOps.live rfl rfl rfl rfl rfl ?_
        refine AOps.step (Val.of hσ rfl rfl) rfl rfl rfl ?_
        refine AOps.live rfl rfl rfl rfl rfl ?_
        refine AOps.step (Val.indexN hσ rfl rfl rfl rfl rfl rfl rfl rfl (idxN (n := 1) (by omega))) rfl rfl rfl ?_
        refine AOps.live rfl rfl rfl rfl rfl ?_
        refine AOps.step (Val.of hσ rfl rfl) rfl rfl rfl ?_
        refine AOps.live rfl rfl rfl rfl rfl ?_
        refine AOps.lone hσ rfl rfl rfl rfl (c177 (x := (s.getD 1 default)) (n := 0) h1 h2) (VAs.self rfl) rfl rfl rfl rfl rfl (B0 := 119000) rfl ?_
        refine AOps.step (Val.pickY hσ rfl rfl rfl rfl rfl) rfl rfl rfl ?_
        cases hb120 : (decide ((s.getD 1 default).op = 0) && decide ((s.getD 1 default).a = 0)) with
        | true =>
         refine AOps.step (Val.of hσ rfl rfl) rfl rfl rfl ?_
         refine AOps.live rfl rfl rfl rfl rfl ?_
         refine AOps.step (Val.of hσ rfl rfl) rfl rfl rfl ?_
         refine AOps.live rfl rfl rfl rfl rfl ?_
         refine AOps.step (Val.indexN hσ rfl rfl rfl rfl rfl rfl rfl rfl (idxN (n := 2) (by omega))) rfl rfl rfl ?_
         refine AOps.live rfl rfl rfl rfl rfl ?_
         refine AOps.step (Val.of hσ rfl rfl) rfl rfl rfl ?_
         refine AOps.live rfl rfl rfl rfl rfl ?_
         refine AOps.step (Val.of hσ rfl rfl) rfl rfl rfl ?_
         refine AOps.live rfl rfl rfl rfl rfl ?_
         refine AOps.step (Val.of hσ rfl rfl) rfl rfl rfl ?_
         refine AOps.step (Val.pickY hσ rfl rfl rfl rfl rfl) rfl rfl rfl ?_
         refine AOps.nil ?_
         exact ⟨rfl, Ent.sel (bs := []) [] rfl rfl ⟨rfl, rfl, rfl, rfl, trivial⟩ rfl⟩
        | false =>
         refine AOps.step (Val.of hσ rfl rfl) rfl rfl rfl ?_
         refine AOps.skip rfl rfl rfl rfl rfl rfl ?_
         refine AOps.skip rfl rfl rfl rfl rfl rfl ?_
         refine AOps.skip rfl rfl rfl rfl rfl rfl ?_
         refine AOps.skip rfl rfl rfl rfl rfl rfl ?_
         refine AOps.skip rfl rfl rfl rfl rfl rfl ?_
         refine AOps.step (Val.pickN hσ rfl rfl rfl rfl rfl) rfl rfl rfl ?_
         refine AOps.nil ?_
         exact ⟨rfl, Ent.sel (bs := []) [] rfl rfl ⟨rfl, rfl, rfl, rfl, trivial⟩ rfl⟩
       | false =>
        refine AOps.step (Val.of hσ rfl rfl) rfl rfl rfl ?_
        refine AOps.skip rfl rfl rfl rfl rfl rfl ?_
        refine AOps.skip rfl rfl rfl rfl rfl rfl ?_
        refine AOps.skip rfl rfl rfl rfl rfl rfl ?_
        refine AOps.skip rfl rfl rfl rfl rfl rfl ?_
        refine AOps.step (Val.pickN hσ rfl rfl rfl rfl rfl) rfl rfl rfl ?_
        refine AOps.step (Val.of hσ rfl rfl) rfl rfl rfl ?_
        refine AOps.skip rfl rfl rfl rfl rfl rfl ?_
        refine AOps.skip rfl rfl rfl rfl rfl rfl ?_
        refine AOps.skip rfl rfl rfl rfl rfl rfl ?_
        refine AOps.skip rfl rfl rfl rfl rfl rfl ?_
        refine AOps.skip rfl rfl rfl rfl rfl rfl ?_
        refine AOps.step (Val.pickN hσ rfl rfl rfl rfl rfl) rfl rfl rfl ?_
        refine AOps.nil ?_
        exact ⟨rfl, Ent.sel (bs := []) [] rfl rfl ⟨rfl, rfl, rfl, rfl, trivial⟩ rfl⟩
      | false =>
       refine AOps.step (Val.of hσ rfl rfl) rfl rfl rfl ?_
       refine AOps.live rfl rfl rfl rfl rfl ?_
       refine AOps.step (Val.of hσ rfl rfl) rfl rfl rfl ?_
       refine AOps.live rfl rfl rfl rfl rfl ?_
       refine AOps.heap (HS.litD hσ rfl rfl rfl rfl rfl rfl rfl rfl rfl rfl rfl) rfl ?_
       apply AOps.norm
       ·
        repeat' (first | exact HN.nil rfl | apply HN.cons rfl | exact BN.row rfl | exact BN.map rfl | apply BN.box rfl | exact MN.nil rfl | apply MN.cons rfl | exact XN.d rfl | exact XN.rs rfl | exact XN.self)
       refine AOps.live rfl rfl rfl rfl rfl ?_
       refine AOps.lone hσ rfl rfl rfl rfl (c175 (c := s) (os := [4]) h1 h2) (VAs.cons (.c (.whole rfl rfl)) (.cons (.c .d) .nil)) rfl rfl rfl rfl rfl (B0 := 108000) rfl ?_
       refine AOps.step (Val.pickN hσ rfl rfl rfl rfl rfl) rfl rfl rfl ?_
       cases hb109 : hasR [4] s with
       | true =>
        refine AOps.step (Val.of hσ rfl rfl) rfl rfl rfl ?_
        refine AOps.live rfl rfl rfl rfl rfl ?_
        refine AOps.step (Val.of hσ rfl rfl) rfl rfl rfl ?_
        refine AOps.live rfl rfl rfl rfl rfl ?_
        refine AOps.step ((Val.lenD hσ rfl rfl rfl rfl rfl rfl rfl rfl).cast (v' := eI s.length) (by simp)) rfl rfl rfl ?_
        refine AOps.live rfl rfl rfl rfl rfl ?_
        refine AOps.step (Val.of hσ rfl rfl) rfl rfl rfl ?_
        refine AOps.step (Val.pickY hσ rfl rfl rfl rfl rfl) rfl rfl rfl ?_
        cases hb114 : decide ((2 : Int) < s.length) with
        | true =>
         have hq2 : 2 < s.length := by have := of_decide_eq_true hb114; omega
         refine AOps.step (Val.of hσ rfl rfl) rfl rfl rfl ?_
         refine AOps.live rfl rfl rfl rfl rfl ?_
         refine AOps.step (Val.of hσ rfl rfl) rfl rfl rfl ?_
         refine AOps.live rfl rfl rfl rfl rfl ?_
         refine AOps.step (Val.indexN hσ rfl rfl rfl rfl rfl rfl rfl rfl (idxN (n := 1) (by omega))) rfl rfl rfl ?_
         refine AOps.live rfl rfl rfl rfl rfl ?_
         refine AOps.step (Val.of hσ rfl rfl) rfl rfl rfl ?_
         refine AOps.live rfl rfl rfl rfl rfl ?_
         refine AOps.lone hσ rfl rfl rfl rfl (c177 (x := (s.getD 1 default)) (n := 0) h1 h2) (VAs.self rfl) rfl rfl rfl rfl rfl (B0 := 119000) rfl ?_
         refine AOps.step (Val.pickY hσ rfl rfl rfl rfl rfl) rfl rfl rfl ?_
         cases hb120 : (decide ((s.getD 1 default).op = 0) && decide ((s.getD 1 default).a = 0)) with
         | true =>
          refine AOps.step (Val.of hσ rfl rfl) rfl rfl rfl ?_
          refine AOps.live rfl rfl rfl rfl rfl ?_
          refine AOps.step (Val.of hσ rfl rfl) rfl rfl rfl ?_
          refine AOps.live rfl rfl rfl rfl rfl ?_
          refine AOps.step (Val.indexN hσ rfl rfl rfl rfl rfl rfl rfl rfl (idxN (n := 2) (by omega))) rfl rfl rfl ?_
          refine AOps.live rfl rfl rfl rfl rfl ?_
          refine AOps.step (Val.of hσ rfl rfl) rfl rfl rfl ?_
          refine AOps.live rfl rfl rfl rfl rfl ?_
          refine AOps.step (Val.of hσ rfl rfl) rfl rfl rfl ?_
          refine AOps.live rfl rfl rfl rfl rfl ?_
          refine AOps.step (Val.of hσ rfl rfl) rfl rfl rfl ?_
          refine AOps.step (Val.pickY hσ rfl rfl rfl rfl rfl) rfl rfl rfl ?_
          refine AOps.nil ?_
          exact ⟨rfl, Ent.sel (bs := []) [] rfl rfl ⟨rfl, rfl, rfl, rfl, trivial⟩ rfl⟩
         | false =>
          refine AOps.step (Val.of hσ rfl rfl) rfl rfl rfl ?_
          refine AOps.skip rfl rfl rfl rfl rfl rfl ?_
          refine AOps.skip rfl rfl rfl rfl rfl rfl ?_
          refine AOps.skip rfl rfl rfl rfl rfl rfl ?_
          refine AOps.skip rfl rfl rfl rfl rfl rfl ?_
          refine AOps.skip rfl rfl rfl rfl rfl rfl ?_
          refine AOps.step (Val.pickN hσ rfl rfl rfl rfl rfl) rfl rfl rfl ?_
          refine AOps.nil ?_
          exact ⟨rfl, Ent.sel (bs := []) [] rfl rfl ⟨rfl, rfl, rfl, rfl, trivial⟩ rfl⟩
        | false =>
         refine AOps.step (Val.of hσ rfl rfl) rfl rfl rfl ?_
         refine AOps.skip rfl rfl rfl rfl rfl rfl ?_
         refine AOps.skip rfl rfl rfl rfl rfl rfl ?_
         refine AOps.skip rfl rfl rfl rfl rfl rfl ?_
         refine AOps.skip rfl rfl rfl rfl rfl rfl ?_
         refine AOps.step (Val.pickN hσ rfl rfl rfl rfl rfl) rfl rfl rfl ?_
         refine AOps.step (Val.of hσ rfl rfl) rfl rfl rfl ?_
         refine AOps.skip rfl rfl rfl rfl rfl rfl ?_
         refine AOps.skip rfl rfl rfl rfl rfl rfl ?_
         refine AOps.skip rfl rfl rfl rfl rfl rfl ?_
         refine AOps.skip rfl rfl rfl rfl rfl rfl ?_
         refine AOps.skip rfl rfl rfl rfl rfl rfl ?_
         refine AOps.step (Val.pickN hσ rfl rfl rfl rfl rfl) rfl rfl rfl ?_
         refine AOps.nil ?_
         exact ⟨rfl, Ent.sel (bs := []) [] rfl rfl ⟨rfl, rfl, rfl, rfl, trivial⟩ rfl⟩
       | false =>
        refine AOps.step (Val.of hσ rfl rfl) rfl rfl rfl ?_
        refine AOps.skip rfl rfl rfl rfl rfl rfl ?_
        refine AOps.skip rfl rfl rfl rfl rfl rfl ?_
        refine AOps.skip rfl rfl rfl rfl rfl rfl ?_
        refine AOps.step (Val.pickN hσ rfl rfl rfl rfl rfl) rfl rfl rfl ?_
        refine AOps.step (Val.of hσ rfl rfl) rfl rfl rfl ?_
        refine AOps.skip rfl rfl rfl rfl rfl rfl ?_
        refine AOps.skip rfl rfl rfl rfl rfl rfl ?_
        refine AOps.skip rfl rfl rfl rfl rfl rfl ?_
        refine AOps.skip rfl rfl rfl rfl rfl rfl ?_
        refine AOps.step (Val.pickN hσ rfl rfl rfl rfl rfl) rfl rfl rfl ?_
        refine AOps.step (Val.of hσ rfl rfl) rfl rfl rfl ?_
        refine AOps.skip rfl rfl rfl rfl rfl rfl ?_
        refine AOps.skip rfl rfl rfl rfl rfl rfl ?_
        refine AOps.skip rfl rfl rfl rfl rfl rfl ?_
        refine AOps.skip rfl rfl rfl rfl rfl rfl ?_
        refine AOps.skip rfl rfl rfl rfl rfl rfl ?_
        refine AOps.step (Val.pickN hσ rfl rfl rfl rfl rfl) rfl rfl rfl ?_
        refine AOps.nil ?_
        exact ⟨rfl, Ent.sel (bs := []) [] rfl rfl ⟨rfl, rfl, rfl, rfl, trivial⟩ rfl⟩
     refine AWP.cond hσ rfl rfl (fun hc126 => ?_) (fun hc126 => ?_)
     ·
      skip
      refine AWP.seq ?_
      obtain ⟨hq, hb11⟩ := fold5 h0 hc126
      refine AWP.drawR hσ _ [_, _, _, _, _, _] [⟨[], 0, 0, none⟩, ⟨[0], 0, 0, none⟩, ⟨[0, 1], 0, 0, none⟩, ⟨[0, 1, 2], 0, 0, some 0⟩, ⟨[], 0, 1, none⟩, ⟨[0, 1, 2, 3, 4], 1, 1, none⟩] [3] [_, _] rfl rfl (by decide) (by decide) (by kernel_rfl) (And.intro (Val.of hσ rfl rfl) (And.intro (Val.indexN hσ rfl rfl rfl rfl rfl rfl rfl rfl (idxN (n := 0) (by omega))) (And.intro (Val.of hσ rfl rfl) (And.intro (Eff.litN hσ rfl rfl rfl rfl rfl rfl rfl rfl rfl rfl rfl rfl rfl) (And.intro (And.intro (Val.of hσ rfl rfl) (Val.of hσ rfl rfl)) (And.intro (Val.of hσ rfl rfl) trivial)))))) ?_
      refine AWP.ret ?_
      refine ⟨.inl rfl, _, Ent.refl, _, rfl, ?_⟩
      rw [show ruleR s = ruleC (s.getD 0 default) (s.getD 1 default) (s.getD 2 default) (fun os => hasR os s) from rfl]
      unfold ruleC
      rw [if_neg (andN hc21), if_neg (andN hc47), if_neg (andNd hc68), if_neg (andNd hc82), if_pos hb11]
      exact .tup (.cons (.c .d) (.cons (.c (.whole rfl rfl)) .nil))
     ·
      skip
      refine AWP.skip ?_
      refine AWP.seq ?_
      refine AWP.seq ?_
      refine AWP.mid (F := ⟨[(150, eB (bif (bif (bif plainB (s.getD 0 default) then decide ((1 : Int) < s.length) else false) then decide ((s.getD 1 default).op = 4) else false) then decide ((s.getD 1 default).a = 1) else false)), (5, eB (plainB (s.getD 0 default))), (1, ptr [insD s]), (4, .c (.fn 77 [.d (.ptr [insD s] 0)]))], []⟩) ?_ ?_
      ·
       skip
       refine AWP.region ?_
       refine AOps.step (Val.of hσ rfl rfl) rfl rfl rfl ?_
       cases hb132 : plainB (s.getD 0 default) with
       | true =>
        refine AOps.step (Val.of hσ rfl rfl) rfl rfl rfl ?_
        refine AOps.live rfl rfl rfl rfl rfl ?_
        refine AOps.step (Val.of hσ rfl rfl) rfl rfl rfl ?_
        refine AOps.live rfl rfl rfl rfl rfl ?_
        refine AOps.step ((Val.lenD hσ rfl rfl rfl rfl rfl rfl rfl rfl).cast (v' := eI s.length) (by simp)) rfl rfl rfl ?_
        refine AOps.live rfl rfl rfl rfl rfl ?_
        refine AOps.step (Val.of hσ rfl rfl) rfl rfl rfl ?_
        refine AOps.step (Val.pickY hσ rfl rfl rfl rfl rfl) rfl rfl rfl ?_
        cases hb137 : decide ((1 : Int) < s.length) with
        | true =>
         have hq1 : 1 < s.length := by have := of_decide_eq_true hb137; omega
         refine AOps.step (Val.of hσ rfl rfl) rfl rfl rfl ?_
         refine AOps.live rfl rfl rfl rfl rfl ?_
         refine AOps.step (Val.of hσ rfl rfl) rfl rfl rfl ?_
         refine AOps.live rfl rfl rfl rfl rfl ?_
         refine AOps.step (Val.indexN hσ rfl rfl rfl rfl rfl rfl rfl rfl (idxN (n := 1) (by omega))) rfl rfl rfl ?_
         refine AOps.live rfl rfl rfl rfl rfl ?_
         refine AOps.step (Val.of hσ rfl rfl) rfl rfl rfl ?_
         refine AOps.live rfl rfl rfl rfl rfl ?_
         refine AOps.step (Val.of hσ rfl rfl) rfl rfl rfl ?_
         refine AOps.live rfl rfl rfl rfl rfl ?_
         refine AOps.step (Val.of hσ rfl rfl) rfl rfl rfl ?_
         refine AOps.step (Val.pickY hσ rfl rfl rfl rfl rfl) rfl rfl rfl ?_
         cases hb144 : decide ((s.getD 1 default).op = 4) with
         | true =>
          refine AOps.step (Val.of hσ rfl rfl) rfl rfl rfl ?_
          refine AOps.live rfl rfl rfl rfl rfl ?_
          refine AOps.step (Val.of hσ rfl rfl) rfl rfl rfl ?_
          refine AOps.live rfl rfl rfl rfl rfl ?_
          refine AOps.step (Val.indexN hσ rfl rfl rfl rfl rfl rfl rfl rfl (idxN (n := 1) (by omega))) rfl rfl rfl ?_
          refine AOps.live rfl rfl rfl rfl rfl ?_
          refine AOps.step (Val.of hσ rfl rfl) rfl rfl rfl ?_
          refine AOps.live rfl rfl rfl rfl rfl ?_
          refine AOps.step (Val.of hσ rfl rfl) rfl rfl rfl ?_
          refine AOps.live rfl rfl rfl rfl rfl ?_
          refine AOps.step (Val.of hσ rfl rfl) rfl rfl rfl ?_
          refine AOps.step (Val.pickY hσ rfl rfl rfl rfl rfl) rfl rfl rfl ?_
          refine AOps.nil ?_
          exact ⟨rfl, Ent.sel (bs := []) [] rfl rfl ⟨rfl, rfl, rfl, rfl, trivial⟩ rfl⟩
         | false =>
          refine AOps.step (Val.of hσ rfl rfl) rfl rfl rfl ?_
          refine AOps.skip rfl rfl rfl rfl rfl rfl ?_
          refine AOps.skip rfl rfl rfl rfl rfl rfl ?_
          refine AOps.skip rfl rfl rfl rfl rfl rfl ?_
          refine AOps.skip rfl rfl rfl rfl rfl rfl ?_
          refine AOps.skip rfl rfl rfl rfl rfl rfl ?_
          refine AOps.step (Val.pickN hσ rfl rfl rfl rfl rfl) rfl rfl rfl ?_
          refine AOps.nil ?_
          exact ⟨rfl, Ent.sel (bs := []) [] rfl rfl ⟨rfl, rfl, rfl, rfl, trivial⟩ rfl⟩
        | false =>
         refine AOps.step (Val.of hσ rfl rfl) rfl rfl rfl ?_
         refine AOps.skip rfl rfl rfl rfl rfl rfl ?_
         refine AOps.skip rfl rfl rfl rfl rfl rfl ?_
         refine AOps.skip rfl rfl rfl rfl rfl rfl ?_
         refine AOps.skip rfl rfl rfl rfl rfl rfl ?_
         refine AOps.skip rfl rfl rfl rfl rfl rfl ?_
         refine AOps.step (Val.pickN hσ rfl rfl rfl rfl rfl) rfl rfl rfl ?_
         refine AOps.step (Val.of hσ rfl rfl) rfl rfl rfl ?_
         refine AOps.skip rfl rfl rfl rfl rfl rfl ?_
         refine AOps.skip rfl rfl rfl rfl rfl rfl ?_
         refine AOps.skip rfl rfl rfl rfl rfl rfl ?_
         refine AOps.skip rfl rfl rfl rfl rfl rfl ?_
         refine AOps.skip rfl rfl rfl rfl rfl rfl ?_
         refine AOps.step (Val.pickN hσ rfl rfl rfl rfl rfl) rfl rfl rfl ?_
         refine AOps.nil ?_
         exact ⟨rfl, Ent.sel (bs := []) [] rfl rfl ⟨rfl, rfl, rfl, rfl, trivial⟩ rfl⟩
       | false =>
        refine AOps.step (Val.of hσ rfl rfl) rfl rfl rfl ?_
        refine AOps.skip rfl rfl rfl rfl rfl rfl ?_
        refine AOps.skip rfl rfl rfl rfl rfl rfl ?_
        refine AOps.skip rfl rfl rfl rfl rfl rfl ?_
        refine AOps.step (Val.pickN hσ rfl rfl rfl rfl rfl) rfl rfl rfl ?_
        refine AOps.step (Val.of hσ rfl rfl) rfl rfl rfl ?_
        refine AOps.skip rfl rfl rfl rfl rfl rfl ?_
        refine AOps.skip rfl rfl rfl rfl rfl rfl ?_
        refine AOps.skip rfl rfl rfl rfl rfl rfl ?_
        refine AOps.skip rfl rfl rfl rfl rfl rfl ?_
        refine AOps.skip rfl rfl rfl rfl rfl rfl ?_
        refine AOps.step (Val.pickN hσ rfl rfl rfl rfl rfl) rfl rfl rfl ?_
        refine AOps.step (Val.of hσ rfl rfl) rfl rfl rfl ?_
        refine AOps.skip rfl rfl rfl rfl rfl rfl ?_
        refine AOps.skip rfl rfl rfl rfl rfl rfl ?_
        refine AOps.skip rfl rfl rfl rfl rfl rfl ?_
        refine AOps.skip rfl rfl rfl rfl rfl rfl ?_
        refine AOps.skip rfl rfl rfl rfl rfl rfl ?_
        refine AOps.step (Val.pickN hσ rfl rfl rfl rfl rfl) rfl rfl rfl ?_
        refine AOps.nil ?_
        exact ⟨rfl, Ent.sel (bs := []) [] rfl rfl ⟨rfl, rfl, rfl, rfl, trivial⟩ rfl⟩
      refine AWP.cond hσ rfl rfl (fun hc150 => ?_) (fun hc150 => ?_)
      ·
       skip
       refine AWP.seq ?_
       have hb13 := fold6 h0 hc150
       refine AWP.drawR hσ _ [_, _, _, _, _, _] [⟨[], 0, 0, none⟩, ⟨[0], 0, 0, none⟩, ⟨[0, 1], 0, 0, none⟩, ⟨[0, 1, 2], 0, 0, some 0⟩, ⟨[], 0, 1, none⟩, ⟨[0, 1, 2, 3, 4], 1, 1, none⟩] [3] [_, _] rfl rfl (by decide) (by decide) (by kernel_rfl) (And.intro (Val.of hσ rfl rfl) (And.intro (Val.indexN hσ rfl rfl rfl rfl rfl rfl rfl rfl (idxN (n := 0) (by omega))) (And.intro (Val.of hσ rfl rfl) (And.intro (Eff.litN hσ rfl rfl rfl rfl rfl rfl rfl rfl rfl rfl rfl rfl rfl) (And.intro (And.intro (Val.of hσ rfl rfl) (Val.of hσ rfl rfl)) (And.intro (Val.of hσ rfl rfl) trivial)))))) ?_
       refine AWP.ret ?_
       refine ⟨.inl rfl, _, Ent.refl, _, rfl, ?_⟩
       rw [show ruleR s = ruleC (s.getD 0 default) (s.getD 1 default) (s.getD 2 default) (fun os => hasR os s) from rfl]
       unfold ruleC
       rw [if_neg (andN hc21), if_neg (andN hc47), if_neg (andNd hc68), if_neg (andNd hc82), if_neg (fold5n h0 hc126), if_pos hb13]
       exact .tup (.cons (.c .d) (.cons (.c (.whole rfl rfl)) .nil))
      ·
       skip
       refine AWP.skip ?_
       refine AWP.seq ?_
       refine AWP.seq ?_
       refine AWP.mid (F := ⟨[(169, eB (bif hasR [4, 4] s then num ((s.getD 0 default).a * (s.getD 1 default).a) else false)), (1, ptr [insD s]), (4, .c (.fn 77 [.d (.ptr [insD s] 0)]))], []⟩) ?_ ?_
       ·
        skip
        cases hb15 : hasR [4, 4] s with
        | true =>
         have hq : 2 ≤ s.length := by have := hasR_len hb15; simpa using this
         have n0 := has_num (i := 0) hs hb15 (by decide) (.inr rfl)
         have n1 := has_num (i := 1) hs hb15 (by decide) (.inr rfl)
         have hmm := numM n0 n1
         refine AWP.drawG hσ _ [_, _, _, _, _, _, _, _, _, _, _, _, _, _, _] [⟨[], 0, 1, none⟩, ⟨[], 0, 0, some 0⟩, ⟨[0, 1], 0, 0, some 1⟩, ⟨[0, 1, 2], 2, 2, none⟩, ⟨[0, 1, 2, 3], 2, 2, none⟩, ⟨[0, 1, 2, 3, 4], 2, 2, none⟩, ⟨[0, 1, 2, 3, 4, 5], 2, 2, none⟩, ⟨[0, 1, 2, 3, 4, 5, 6], 2, 2, none⟩, ⟨[0, 1, 2, 3], 2, 2, none⟩, ⟨[0, 1, 2, 3, 8], 2, 2, none⟩, ⟨[0, 1, 2, 3, 8, 9], 2, 2, none⟩, ⟨[0, 1, 2, 3, 8, 9, 10], 2, 2, none⟩, ⟨[0, 1, 2, 3, 4, 5, 6, 7, 8, 9, 10, 11], 2, 2, none⟩, ⟨[0, 1, 2, 3, 4, 5, 6, 7, 8, 9, 10, 11, 12], 0, 0, some 2⟩, ⟨[0, 1, 2, 3, 4, 5, 6, 7, 8, 9, 10, 11, 12, 13], 3, 3, none⟩] [1, 2, 13] [_, _, _, _] rfl rfl (by decide) (by decide) (by kernel_rfl) (And.intro (And.intro (Val.of hσ rfl rfl) (Val.of hσ rfl rfl)) (And.intro (Eff.litN hσ rfl rfl rfl rfl rfl rfl rfl rfl rfl rfl rfl rfl rfl) (And.intro (Eff.lone hσ (B0 := 158000) rfl rfl rfl rfl ((c175 (c := s) (os := [4, 4]) h1 h2).plain (congrArg eB hb15)) (VAs.cons (.c (.whole rfl rfl)) (.cons (.c .d) .nil)) rfl rfl rfl rfl rfl) (And.intro (Val.of hσ rfl rfl) (And.intro (Val.of hσ rfl rfl) (And.intro (Val.indexN hσ rfl rfl rfl rfl rfl rfl rfl rfl (idxN (n := 0) (by omega))) (And.intro (Val.of hσ rfl rfl) (And.intro (Val.of hσ rfl rfl) (And.intro (Val.of hσ rfl rfl) (And.intro (Val.indexN hσ rfl rfl rfl rfl rfl rfl rfl rfl (idxN (n := 1) (by omega))) (And.intro (Val.of hσ rfl rfl) (And.intro (Val.of hσ rfl rfl) (And.intro (Val.fits64 hσ rfl rfl (by first | omega | (have := hmm; omega)) (by first | omega | (have := hmm; omega))) (And.intro (Eff.lone hσ (B0 := 169000) rfl rfl rfl rfl (c176 (x := (s.getD 0 default).a * (s.getD 1 default).a) h1 h2) (VAs.self rfl) rfl rfl rfl rfl rfl) (And.intro (Val.pickY hσ rfl rfl rfl rfl rfl) trivial))))))))))))))) ?_
         exact ⟨rfl, Ent.sel (bs := []) [] rfl rfl ⟨rfl, rfl, rfl, trivial⟩ rfl⟩
        | false =>
         refine AWP.drawG hσ _ [_, _, _, _, _, _, _, _, _, _, _, _, _, _, _] [⟨[], 0, 1, none⟩, ⟨[], 0, 0, some 0⟩, ⟨[0, 1], 0, 0, some 1⟩, ⟨[0, 1, 2], 2, 2, none⟩, ⟨[0, 1, 2, 3], 0, 2, none⟩, ⟨[0, 1, 2, 3, 4], 0, 2, none⟩, ⟨[0, 1, 2, 3, 4, 5], 0, 2, none⟩, ⟨[0, 1, 2, 3, 4, 5, 6], 0, 2, none⟩, ⟨[0, 1, 2, 3], 0, 2, none⟩, ⟨[0, 1, 2, 3, 8], 0, 2, none⟩, ⟨[0, 1, 2, 3, 8, 9], 0, 2, none⟩, ⟨[0, 1, 2, 3, 8, 9, 10], 0, 2, none⟩, ⟨[0, 1, 2, 3, 4, 5, 6, 7, 8, 9, 10, 11], 0, 2, none⟩, ⟨[0, 1, 2, 3, 4, 5, 6, 7, 8, 9, 10, 11, 12], 0, 2, none⟩, ⟨[0, 1, 2, 3, 4, 5, 6, 7, 8, 9, 10, 11, 12, 13], 2, 2, none⟩] [1, 2] [_, _, _] rfl rfl (by decide) (by decide) (by kernel_rfl) (And.intro (And.intro (Val.of hσ rfl rfl) (Val.of hσ rfl rfl)) (And.intro (Eff.litN hσ rfl rfl rfl rfl rfl rfl rfl rfl rfl rfl rfl rfl rfl) (And.intro (Eff.lone hσ (B0 := 158000) rfl rfl rfl rfl ((c175 (c := s) (os := [4, 4]) h1 h2).plain (congrArg eB hb15)) (VAs.cons (.c (.whole rfl rfl)) (.cons (.c .d) .nil)) rfl rfl rfl rfl rfl) (And.intro (Val.of hσ rfl rfl) (And.intro ⟨rfl, rfl⟩ (And.intro ⟨rfl, rfl⟩ (And.intro ⟨rfl, rfl⟩ (And.intro ⟨rfl, rfl⟩ (And.intro ⟨rfl, rfl⟩ (And.intro ⟨rfl, rfl⟩ (And.intro ⟨rfl, rfl⟩ (And.intro ⟨rfl, rfl⟩ (And.intro ⟨rfl, rfl⟩ (And.intro ⟨rfl, rfl⟩ (And.intro (Val.pickN hσ rfl rfl rfl rfl rfl) trivial))))))))))))))) ?_
         exact ⟨rfl, Ent.sel (bs := []) [] rfl rfl ⟨rfl, rfl, rfl, trivial⟩ rfl⟩
       refine AWP.cond hσ rfl rfl (fun hc169 => ?_) (fun hc169 => ?_)
       ·
        skip
        refine AWP.seq ?_
        obtain ⟨hb15, hnum15⟩ := bifT hc169
        have hq : 2 ≤ s.length := by have := hasR_len hb15; simpa using this
        have n0 := has_num (i := 0) hs hb15 (by decide) (.inr rfl)
        have n1 := has_num (i := 1) hs hb15 (by decide) (.inr rfl)
        have hmm := numM n0 n1
        refine AWP.drawR hσ _ [_, _, _, _, _, _, _, _, _, _, _, _, _] [⟨[], 0, 0, none⟩, ⟨[0], 0, 0, none⟩, ⟨[0, 1], 0, 0, none⟩, ⟨[0, 1, 2], 0, 0, none⟩, ⟨[], 0, 0, none⟩, ⟨[4], 0, 0, none⟩, ⟨[4, 5], 0, 0, none⟩, ⟨[4, 5, 6], 0, 0, none⟩, ⟨[0, 1, 2, 3, 4, 5, 6, 7], 0, 0, none⟩, ⟨[0, 1, 2, 3, 4, 5, 6, 7, 8], 0, 0, none⟩, ⟨[0, 1, 2, 3, 4, 5, 6, 7, 8, 9], 0, 0, some 0⟩, ⟨[], 0, 1, none⟩, ⟨[0, 1, 2, 3, 4, 5, 6, 7, 8, 9, 10, 11], 1, 1, none⟩] [10] [_, _] rfl rfl (by decide) (by decide) (by kernel_rfl) (And.intro (Val.of hσ rfl rfl) (And.intro (Val.indexN hσ rfl rfl rfl rfl rfl rfl rfl rfl (idxN (n := 0) (by omega))) (And.intro (Val.of hσ rfl rfl) (And.intro (Val.of hσ rfl rfl) (And.intro (Val.of hσ rfl rfl) (And.intro (Val.indexN hσ rfl rfl rfl rfl rfl rfl rfl rfl (idxN (n := 1) (by omega))) (And.intro (Val.of hσ rfl rfl) (And.intro (Val.of hσ rfl rfl) (And.intro (Val.fits64 hσ rfl rfl (by first | omega | (have := hmm; omega)) (by first | omega | (have := hmm; omega))) (And.intro (Val.of hσ rfl rfl) (And.intro (Eff.litN hσ rfl rfl rfl rfl rfl rfl rfl rfl rfl rfl rfl rfl rfl) (And.intro (And.intro (Val.of hσ rfl rfl) (Val.of hσ rfl rfl)) (And.intro (Val.of hσ rfl rfl) trivial))))))))))))) ?_
        refine AWP.ret ?_
        refine ⟨.inl rfl, _, Ent.refl, _, rfl, ?_⟩
        rw [show ruleR s = ruleC (s.getD 0 default) (s.getD 1 default) (s.getD 2 default) (fun os => hasR os s) from rfl]
        unfold ruleC
        rw [if_neg (andN hc21), if_neg (andN hc47), if_neg (andNd hc68), if_neg (andNd hc82), if_neg (fold5n h0 hc126), if_neg (fold6n h0 hc150), if_pos ⟨hb15, hnum15⟩]
        exact .tup (.cons (.c .d) (.cons (.c (.whole rfl rfl)) .nil))
       ·
        skip
        refine AWP.skip ?_
        refine AWP.seq ?_
        refine AWP.region ?_
        refine AOps.step (Val.of hσ rfl rfl) rfl rfl rfl ?_
        refine AOps.step (Val.of hσ rfl rfl) rfl rfl rfl ?_
        refine AOps.nil ?_
        refine AWP.ret ?_
        refine ⟨.inl rfl, _, Ent.refl, _, rfl, ?_⟩
        rw [show ruleR s = ruleC (s.getD 0 default) (s.getD 1 default) (s.getD 2 default) (fun os => hasR os s) from rfl]
        unfold ruleC
        rw [if_neg (andN hc21), if_neg (andN hc47), if_neg (andNd hc68), if_neg (andNd hc82), if_neg (fold5n h0 hc126), if_neg (fold6n h0 hc150), if_neg (andN hc169)]
        exact .tup (.cons (.c .d) (.cons (.c .nils) .nil))
end Go.Al
namespace Go.Al
open Go.Proofs
set_option linter.unusedVariables false
set_option linter.unusedSimpArgs false
set_option maxRecDepth 10000
set_option maxHeartbeats 4000000
theorem c126c {L : Nat} (h1 : 4096 ≤ L) (h2 : L ≤ 1073741824) {x : In} {r : List In} (hl : (x :: r).length ≤ 1000) : MC Try.prog L 46 [ains (x :: r)] [] (Rows (.c (.rs 0 0 (x :: r).length)) [irow (x :: r)]) := by
 refine MC.rows ?_
 have hσ := SGok (nt := 8) h1 (Nat.le_trans h2 (by decide))
 refine MC.body hσ Try.func46 (by kernel_rfl) rfl rfl (Nat.le_of_ble_eq_true rfl) (fun hF => ?_)
 refine AWP.seq ?_
 refine AWP.region ?_
 refine AOps.step (Val.of hσ rfl rfl) rfl rfl rfl ?_
 refine AOps.nil ?_
 refine AWP.seq ?_
 refine AWP.seq ?_
 refine AWP.region ?_
 refine AOps.step (Val.of hσ rfl rfl) rfl rfl rfl ?_
 refine AOps.step (Val.of hσ rfl rfl) rfl rfl rfl ?_
 refine AOps.nil ?_
 refine AWP.cond hσ rfl rfl (fun hc4 => ?_) (fun hc4 => ?_)
 ·
  skip
  exact absurd (show false = true from hc4) (by decide)
 ·
  skip
  refine AWP.skip ?_
  refine AWP.seq ?_
  refine AWP.region ?_
  refine AOps.heap (HS.lit hσ rfl rfl rfl) rfl ?_
  refine AOps.step (Val.of hσ rfl rfl) rfl rfl rfl ?_
  refine AOps.forget [(6, _), (5, _), (3, _), (2, _), (0, _)] ⟨rfl, rfl, rfl, rfl, rfl, trivial⟩ ?_
  refine AOps.heap (HS.appCopy (own := true) (zs := (x :: r).map In.cells) (n := (x :: r).length) hσ rfl rfl rfl rfl rfl rfl rfl rfl rfl rfl rfl rfl rfl rfl rfl rfl (.row rfl rfl) (.slc (.inr in_scal)) (by simp) rfl (by simp at hl ⊢; omega) (by simp at hl ⊢; omega) rfl (by simp)) rfl ?_
  refine AOps.step (Val.of hσ rfl rfl) rfl rfl rfl ?_
  refine AOps.forget [(2, _), (3, _), (0, _)] ⟨rfl, rfl, rfl, trivial⟩ ?_
  refine AOps.nil ?_
  refine AWP.ret ?_
  refine ⟨.inl rfl, _, Ent.refl, _, rfl, [7], by decide, rfl, rfl, rfl⟩
theorem c126 {L : Nat} (h1 : 4096 ≤ L) (h2 : L ≤ 1073741824) {c : List In} (h0 : 0 < c.length) (hl : c.length ≤ 1000) : MC Try.prog L 46 [ains c] [] (Rows (.c (.rs 0 0 c.length)) [irow c]) := by
 cases c with
 | nil => cases h0
 | cons x r => exact c126c h1 h2 hl
theorem c72 {L : Nat} (h1 : 4096 ≤ L) (h2 : L ≤ 1073741824) {a : An} (h0 : 0 < a.code.length) (h80 : a.code.length ≤ 1000) : MC Try.prog L 20 [aAn a] [] (Rows (anRs a) (anBs a)) := by
 refine MC.rows ?_
 have hσ := SGok (nt := 36) h1 (Nat.le_trans h2 (by decide))
 refine MC.body hσ Try.func20 (by kernel_rfl) rfl rfl (Nat.le_of_ble_eq_true rfl) (fun hF => ?_)
 have hl : a.code.length ≤ L := by simpa [As.fact, A.fact, M.fact, Ms.fact, D.fact, Ds.fact] using hF.1.2.2.1.1
 have hlp : a.pts.length ≤ L := by simpa [As.fact, A.fact, M.fact, Ms.fact, D.fact, Ds.fact] using hF.1.2.2.2.1.1
 refine AWP.seq ?_
 refine AWP.region ?_
 refine AOps.heap (HS.box hσ rfl rfl rfl rfl rfl rfl rfl) rfl ?_
 apply AOps.norm
 ·
  repeat' (first | exact HN.nil rfl | apply HN.cons rfl | exact BN.row rfl | exact BN.map rfl | apply BN.box rfl | exact MN.nil rfl | apply MN.cons rfl | exact XN.d rfl | exact XN.rs rfl | exact XN.self)
 refine AOps.to (Ent.freeze 1 (e' := [(1, _), (0, _)]) rfl (.cons rfl (.c (.box (cs := a.data) rfl (VMs.self rfl))) (.cons rfl (.keep rfl) .nil)) (.skip .nil)) ?_
 apply AOps.norm
 ·
  repeat' (first | exact HN.nil rfl | apply HN.cons rfl | exact BN.row rfl | exact BN.map rfl | apply BN.box rfl | exact MN.nil rfl | apply MN.cons rfl | exact XN.d rfl | exact XN.rs rfl | exact XN.self)
 refine AOps.forget [(1, _)] ⟨rfl, trivial⟩ ?_
 refine AOps.heap (HS.alloc hσ rfl rfl rfl rfl rfl) rfl ?_
 apply AOps.norm
 ·
  repeat' (first | exact HN.nil rfl | apply HN.cons rfl | exact BN.row rfl | exact BN.map rfl | apply BN.box rfl | exact MN.nil rfl | apply MN.cons rfl | exact XN.d rfl | exact XN.rs rfl | exact XN.self)
 refine AOps.nil ?_
 refine AWP.seq ?_
 refine AWP.drawF2 hσ _ [_, _, _, _, _, _, _, _, _, _, _, _] [⟨[], 0, 0, none⟩, ⟨[0], 0, 0, none⟩, ⟨[0, 1], 0, 0, some 0⟩, ⟨[], 0, 1, none⟩, ⟨[3], 0, 1, none⟩, ⟨[0, 1, 2, 3, 4], 0, 0, some 1⟩, ⟨[], 0, 2, none⟩, ⟨[6], 0, 2, none⟩, ⟨[0, 1, 2, 3, 4, 5, 6, 7], 0, 0, some 2⟩, ⟨[0, 1, 2, 3, 4, 5, 6, 7, 8], 3, 3, none⟩, ⟨[], 0, 3, none⟩, ⟨[0, 1, 2, 3, 4, 5, 6, 7, 8, 9, 10], 0, 0, some 3⟩] [2, 5, 8, 11] 10 3 (.box [.d .nils, .d .nils, .d .nils, .d .nils]) [_, _, _, _] [_] [[], [], [], []] rfl rfl (by decide) (by decide) (by decide) rfl (by kernel_rfl) (And.intro (And.intro (and_flip (Val.of hσ rfl rfl) (Val.of hσ rfl rfl)) rfl) (And.intro (And.intro (and_flip (Val.of hσ rfl rfl) (Val.of hσ rfl rfl)) rfl) (And.intro (And.intro (and_flip (Eff.p (Eff.rows hσ (B0 := 9000) rfl rfl rfl rfl (c91o (ts := a.pre) h1 h2) (VAs.self rfl) rfl rfl rfl rfl rfl)) (Eff.p (Eff.rows hσ (B0 := 9000) rfl rfl rfl rfl (c91o (ts := a.pre) h1 h2) (VAs.self rfl) rfl rfl rfl rfl rfl))) rfl) (And.intro (And.intro (And.intro (and_flip (Val.of hσ rfl rfl) (Val.of hσ rfl rfl)) rfl) (And.intro (and_flip (Val.of hσ rfl rfl) (Val.of hσ rfl rfl)) rfl)) (And.intro (And.intro (And.intro (and_flip (Val.of hσ rfl rfl) (Val.of hσ rfl rfl)) rfl) (And.intro (and_flip (Val.of hσ rfl rfl) (Val.of hσ rfl rfl)) rfl)) (And.intro (And.intro (and_flip (Eff.p (Eff.rows hσ (B0 := 12000) rfl rfl rfl rfl (c91o (ts := a.post) h1 h2) (VAs.self rfl) rfl rfl rfl rfl rfl)) (Eff.p (Eff.rows hσ (B0 := 12000) rfl rfl rfl rfl (c91o (ts := a.post) h1 h2) (VAs.self rfl) rfl rfl rfl rfl rfl))) rfl) (And.intro (And.intro (And.intro (and_flip (Val.of hσ rfl rfl) (Val.of hσ rfl rfl)) rfl) (And.intro (And.intro (and_flip (Val.of hσ rfl rfl) (Val.of hσ rfl rfl)) rfl) (And.intro (and_flip (Val.of hσ rfl rfl) (Val.of hσ rfl rfl)) rfl))) (And.intro (And.intro (And.intro (and_flip (Val.of hσ rfl rfl) (Val.of hσ rfl rfl)) rfl) (And.intro (And.intro (and_flip (Val.of hσ rfl rfl) (Val.of hσ rfl rfl)) rfl) (And.intro (and_flip (Val.of hσ rfl rfl) (Val.of hσ rfl rfl)) rfl))) (And.intro (And.intro (and_flip (Eff.p (Eff.rows hσ (B0 := 15000) rfl rfl rfl rfl (c126 (c := a.code) h1 h2 h0 h80) (VAs.self rfl) rfl rfl rfl rfl rfl)) (Eff.p (Eff.rows hσ (B0 := 15000) rfl rfl rfl rfl (c126 (c := a.code) h1 h2 h0 h80) (VAs.self rfl) rfl rfl rfl rfl rfl))) rfl) (And.intro (And.intro (and_flip (Val.of hσ rfl rfl) (Val.of hσ rfl rfl)) rfl) (And.intro (And.intro (And.intro (Eff.p (Eff.alloc hσ rfl rfl rfl rfl rfl rfl)) rfl) (And.intro (And.intro (Eff.p (Eff.alloc hσ rfl rfl rfl rfl rfl rfl)) rfl) (And.intro (And.intro (Eff.p (Eff.alloc hσ rfl rfl rfl rfl rfl rfl)) rfl) (And.intro (Eff.p (Eff.alloc hσ rfl rfl rfl rfl rfl rfl)) rfl)))) (And.intro (And.intro (and_flip trivial (Eff.p (Eff.storeBox hσ rfl rfl rfl rfl rfl rfl rfl rfl rfl rfl rfl rfl rfl))) rfl) trivial)))))))))))) ?_
 refine AWP.forget [(3, _), (2, _), (1, _)] ⟨rfl, rfl, rfl, trivial⟩ ?_
 apply AWP.norm
 ·
  repeat' (first | exact HN.nil rfl | apply HN.cons rfl | exact BN.row rfl | exact BN.map rfl | apply BN.box rfl | exact MN.nil rfl | apply MN.cons rfl | exact XN.d rfl | exact XN.rs rfl | exact XN.self)
 refine AWP.seq ?_
 refine AWP.seq ?_
 refine AWP.region ?_
 refine AOps.step (Val.of hσ rfl rfl) rfl rfl rfl ?_
 refine AOps.step (Val.of hσ rfl rfl) rfl rfl rfl ?_
 first | refine AOps.step (Val.lenD hσ rfl rfl rfl rfl rfl rfl rfl rfl) rfl rfl rfl ?_ | refine AOps.step (Val.of hσ rfl rfl) rfl rfl rfl ?_ | refine AOps.step (Val.vif hσ rfl rfl (by first | omega | (simp at *; omega))) rfl rfl rfl ?_
 refine AOps.step (Val.of hσ rfl rfl) rfl rfl rfl ?_
 refine AOps.nil ?_
 refine AWP.block ?_
 refine AWP.loopP (X := Nat) (fun i => ⟨[(2, .c (.pt 2 0 0)), (3, .c (.pt 3 0 0)), (17, apts a.pts), (18, eI a.pts.length), (19, eI i)], [(2, .box [.d .nils, .d .nils, .d .nils, .d .nils]), (3, .box [.rs 9000 0 a.pre.length, .rs 12000 0 a.post.length, .rs 15000 0 a.code.length, .rs 901 0 i]), (901, prow (a.pts.take i)), (9000, trow a.pre), (12000, trow a.post), (15000, irow a.code)]⟩) (fun i => i ≤ a.pts.length) (fun i => a.pts.length - i) 0 ((Ent.nameBox 3 901 2 true 3 rfl rfl rfl).trans (Ent.to ⟨rfl, rfl, rfl, rfl, rfl, trivial⟩ rfl)) ?_ (fun i hi => ?_)
 ·
  exact Nat.zero_le _
 refine AWP.seq ?_
 refine AWP.region ?_
 refine AOps.step (Val.of hσ rfl rfl) rfl rfl rfl ?_
 refine AOps.nil ?_
 refine AWP.seq ?_
 refine AWP.cond hσ rfl rfl (fun hc20 => ?_) (fun hc20 => ?_)
 ·
  try simp only [List.length_map, beq_iff_eq, decide_eq_true_eq, decide_eq_false_iff_not, Bool.not_eq_true', Bool.not_eq_false', Bool.not_true, Bool.not_false, Int.not_lt, Int.not_le] at hc20
  refine AWP.skip ?_
  refine AWP.seq ?_
  refine AWP.block ?_
  refine AWP.seq ?_
  refine AWP.region ?_
  first | refine AOps.step (Val.indexN hσ rfl rfl rfl rfl rfl rfl rfl rfl (idxN (by first | omega | (simp at *; omega)))) rfl rfl rfl ?_ | refine AOps.step (Val.indexD hσ rfl rfl rfl rfl rfl rfl rfl rfl (by first | omega | (simp at *; omega)) (idx_get (by first | omega | (simp at *; omega)) (by first | omega | (simp at *; omega)))) rfl rfl rfl ?_ | refine AOps.step (Val.vif hσ rfl rfl (by first | omega | (simp at *; omega))) rfl rfl rfl ?_
  refine AOps.step (Val.of hσ rfl rfl) rfl rfl rfl ?_
  refine AOps.forget [(22, _), (20, _), (2, _), (3, _), (17, _), (18, _), (19, _)] ⟨rfl, rfl, rfl, rfl, rfl, rfl, rfl, trivial⟩ ?_
  refine AOps.heap (HS.alloc hσ rfl rfl rfl rfl rfl) rfl ?_
  apply AOps.norm
  ·
   repeat' (first | exact HN.nil rfl | apply HN.cons rfl | exact BN.row rfl | exact BN.map rfl | apply BN.box rfl | exact MN.nil rfl | apply MN.cons rfl | exact XN.d rfl | exact XN.rs rfl | exact XN.self)
  refine AOps.heap (HS.storeBox hσ rfl rfl rfl rfl rfl rfl rfl rfl rfl rfl rfl) rfl ?_
  apply AOps.norm
  ·
   repeat' (first | exact HN.nil rfl | apply HN.cons rfl | exact BN.row rfl | exact BN.map rfl | apply BN.box rfl | exact MN.nil rfl | apply MN.cons rfl | exact XN.d rfl | exact XN.rs rfl | exact XN.self)
  refine AOps.nil ?_
  refine AWP.drawP hσ _ [_, _, _, _, _, _, _, _, _, _, _, _] [⟨[], 0, 2, none⟩, ⟨[0], 0, 2, none⟩, ⟨[], 0, 1, none⟩, ⟨[2], 0, 1, none⟩, ⟨[], 0, 0, none⟩, ⟨[4], 0, 0, none⟩, ⟨[4, 5], 0, 0, some 0⟩, ⟨[2, 3, 4, 5, 6], 1, 1, none⟩, ⟨[2, 3, 4, 5, 6, 7], 0, 0, some 1⟩, ⟨[0, 1, 2, 3, 4, 5, 6, 7, 8], 0, 0, some 2⟩, ⟨[0, 1, 2, 3, 4, 5, 6, 7, 8, 9], 3, 3, none⟩, ⟨[0, 1, 2, 3, 4, 5, 6, 7, 8, 9, 10], 0, 0, some 3⟩] [6, 8, 9, 11] [_, _, _, _, _] [[], [30000], [901, 31], []] rfl rfl (by decide) (by decide) (by kernel_rfl) (And.intro (And.intro (And.intro (Val.of hσ rfl rfl) rfl) (And.intro (And.intro (Val.of hσ rfl rfl) rfl) (And.intro (Val.of hσ rfl rfl) rfl))) (And.intro (And.intro (And.intro (Val.of hσ rfl rfl) rfl) (And.intro (And.intro (Val.of hσ rfl rfl) rfl) (And.intro (Val.of hσ rfl rfl) rfl))) (And.intro (And.intro (And.intro (Val.of hσ rfl rfl) rfl) (And.intro (Val.of hσ rfl rfl) rfl)) (And.intro (And.intro (And.intro (Val.of hσ rfl rfl) rfl) (And.intro (Val.of hσ rfl rfl) rfl)) (And.intro (And.intro (Val.of hσ rfl rfl) rfl) (And.intro (And.intro (Val.of hσ rfl rfl) rfl) (And.intro (And.intro (Eff.p (Eff.rows hσ (B0 := 30000) rfl rfl rfl rfl (c91o (ts := (a.pts.getD i default).fs) h1 h2) (VAs.self rfl) rfl rfl rfl rfl rfl)) rfl) (And.intro (And.intro (Val.of hσ rfl rfl) rfl) (And.intro (And.intro (Eff.litAbs (l := 30000) (ds := (a.pts.getD i default).cells) hσ rfl rfl rfl rfl rfl rfl rfl rfl rfl rfl rfl rfl (fun e => .d rfl (.rs rfl (List.length_map _).symm .nil)) rfl rfl) rfl) (And.intro (And.intro (Eff.appMove (xs := (a.pts.take i).map Pt.cells) (ys := [(a.pts.getD i default).cells]) (zs := (a.pts.take (i + 1)).map Pt.cells) (n := i + 1) hσ rfl rfl rfl rfl rfl rfl rfl rfl rfl rfl rfl rfl rfl rfl rfl rfl (.row rfl (by simp; omega)) rfl rfl (by decide) rfl (by simp; omega) (by simp; omega) (by rw [List.take_succ_eq_append_getElem (show i < a.pts.length by omega), getD_lt (show i < a.pts.length by omega), List.map_append]; rfl) (by simp; omega) rfl) rfl) (And.intro (And.intro (Val.of hσ rfl rfl) rfl) (And.intro (And.intro (Eff.p (Eff.storeBox hσ rfl rfl rfl rfl rfl rfl rfl rfl rfl rfl rfl rfl rfl)) rfl) trivial)))))))))))) ?_
  refine AWP.forget [(5, _), (22, _), (20, _), (2, _), (3, _), (17, _), (18, _), (19, _)] ⟨rfl, rfl, rfl, rfl, rfl, rfl, rfl, rfl, trivial⟩ ?_
  apply AWP.norm
  ·
   repeat' (first | exact HN.nil rfl | apply HN.cons rfl | exact BN.row rfl | exact BN.map rfl | apply BN.box rfl | exact MN.nil rfl | apply MN.cons rfl | exact XN.d rfl | exact XN.rs rfl | exact XN.self)
  refine AWP.region ?_
  first | refine AOps.step (Val.fits64 hσ rfl rfl (by first | omega | (simp at *; omega)) (by first | omega | (simp at *; omega))) rfl rfl rfl ?_ | refine AOps.step (Val.vif hσ rfl rfl (by first | omega | (simp at *; omega))) rfl rfl rfl ?_
  refine AOps.step (Val.of hσ rfl rfl) rfl rfl rfl ?_
  refine AOps.nil ?_
  refine ⟨i + 1, ((Ent.sel [2, 3, 32, 9000, 12000, 15000] (e' := [(2, _), (3, _), (17, _), (18, _), (19, _)]) rfl rfl ⟨rfl, rfl, rfl, rfl, rfl, trivial⟩ rfl).trans (Ent.sub2 32 901 rfl rfl)), by omega, by omega⟩
 ·
  try simp only [List.length_map, beq_iff_eq, decide_eq_true_eq, decide_eq_false_iff_not, Bool.not_eq_true', Bool.not_eq_false', Bool.not_true, Bool.not_false, Int.not_lt, Int.not_le] at hc20
  refine AWP.exit ?_
  refine AWP.seq ?_
  refine AWP.region ?_
  refine AOps.step (Val.of hσ rfl rfl) rfl rfl rfl ?_
  refine AOps.heap (HS.storeBox hσ rfl rfl rfl rfl rfl rfl rfl rfl rfl rfl rfl) rfl ?_
  apply AOps.norm
  ·
   repeat' (first | exact HN.nil rfl | apply HN.cons rfl | exact BN.row rfl | exact BN.map rfl | apply BN.box rfl | exact MN.nil rfl | apply MN.cons rfl | exact XN.d rfl | exact XN.rs rfl | exact XN.self)
  refine AOps.nil ?_
  refine AWP.ret ?_
  obtain rfl : i = a.pts.length := by omega
  rw [List.take_length]
  refine ⟨.inl rfl, _, Ent.refl, _, rfl, [9000, 12000, 15000, 901], by decide, rfl, rfl, rfl⟩
theorem take_min {α : Type} {l : List α} {n : Nat} : l.take (min n l.length) = l.take n := by
  rcases Nat.le_total n l.length with h | h
  · rw [Nat.min_eq_left h]
  · rw [Nat.min_eq_right h, List.take_length, List.take_of_length_le h]
theorem c178 {L : Nat} (h1 : 4096 ≤ L) (h2 : L ≤ 1073741824) {d : List Bool} {z : Int} (h0 : 0 ≤ z) (hd : d.length ≤ 1000) : MC Try.prog L 80 [eI z, ptr [boolsD d]] [] (Plain (eI (cntT d z.toNat))) := by
 refine MC.alone ?_ rfl
 have hσ := SGok (nt := 24) h1 (Nat.le_trans h2 (by decide))
 refine MC.body hσ Try.func80 (by kernel_rfl) rfl rfl (Nat.le_of_ble_eq_true rfl) (fun hF => ?_)
 have hm : min z.toNat d.length ≤ d.length := Nat.min_le_right _ _
 refine AWP.seq ?_
 refine AWP.region ?_
 refine AOps.step (Val.of hσ rfl rfl) rfl rfl rfl ?_
 refine AOps.nil ?_
 refine AWP.seq ?_
 refine AWP.region ?_
 refine AOps.step (Val.of hσ rfl rfl) rfl rfl rfl ?_
 refine AOps.nil ?_
 refine AWP.seq ?_
 refine AWP.seq ?_
 refine AWP.drawR hσ _ [_, _, _, _, _, _, _, _, _] [⟨[], 0, 1, none⟩, ⟨[], 0, 1, none⟩, ⟨[], 0, 0, none⟩, ⟨[2], 0, 0, none⟩, ⟨[2, 3], 0, 0, some 0⟩, ⟨[1, 2, 3, 4], 1, 1, none⟩, ⟨[0, 1, 2, 3, 4, 5], 1, 1, none⟩, ⟨[0, 1, 2, 3, 4, 5, 6], 1, 1, none⟩, ⟨[], 0, 1, none⟩] [4] [_, _] rfl rfl (by decide) (by decide) (by kernel_rfl) (And.intro (And.intro (Val.of hσ rfl rfl) (Val.of hσ rfl rfl)) (And.intro (And.intro (Val.of hσ rfl rfl) (Val.of hσ rfl rfl)) (And.intro (Val.of hσ rfl rfl) (And.intro (Val.lenD hσ rfl rfl rfl rfl rfl rfl rfl rfl) (And.intro (Eff.lone hσ (B0 := 12000) rfl rfl rfl rfl (c147 (n := d.length) h1 h2) (VAs.self rfl) rfl rfl rfl rfl rfl) (And.intro ((Val.of hσ rfl rfl).cast (v' := eI ((min z.toNat d.length : Nat) : Int)) (congrArg eI (by show (if (d.length : Int) < z then (d.length : Int) else z) = _; split <;> omega))) (And.intro (Val.sliceD (sz := 1) (xs := d.map bL) (a := 0) (b := min z.toNat d.length) (ys := (d.take z.toNat).map bL) hσ rfl rfl rfl rfl rfl rfl rfl rfl rfl rfl nat_i ⟨Nat.zero_le _, by rw [List.length_map]; exact hm⟩ (by rw [List.drop_zero, Nat.sub_zero, ← List.map_take, take_min])) (And.intro (Val.lenD hσ rfl rfl rfl rfl rfl rfl rfl rfl) (And.intro (And.intro (Val.of hσ rfl rfl) (Val.of hσ rfl rfl)) trivial))))))))) ?_
 refine AWP.forget [(15, _), (14, _), (13, _), (4, _), (3, _)] ⟨rfl, rfl, rfl, rfl, rfl, trivial⟩ ?_
 apply AWP.norm
 ·
  repeat' (first | exact HN.nil rfl | apply HN.cons rfl | exact BN.row rfl | exact BN.map rfl | apply BN.box rfl | exact MN.nil rfl | apply MN.cons rfl | exact XN.d rfl | exact XN.rs rfl | exact XN.self)
 refine AWP.block ?_
 obtain ⟨e, he⟩ : ∃ e, e = d.take z.toNat := ⟨_, rfl⟩
 rw [← he]
 have hel : e.length ≤ 1000 := by rw [he, List.length_take]; omega
 refine AWP.loopP (X := Nat) (fun i => ⟨[(4, eI (cntT e i)), (13, .c (.d (boolsD e))), (14, eI e.length), (15, eI i)], []⟩) (fun i => i ≤ e.length) (fun i => e.length - i) 0 (Ent.env ⟨rfl, rfl, rfl, rfl, trivial⟩) ?_ (fun i hi => ?_)
 ·
  exact Nat.zero_le _
 refine AWP.seq ?_
 refine AWP.region ?_
 refine AOps.step (Val.of hσ rfl rfl) rfl rfl rfl ?_
 refine AOps.nil ?_
 refine AWP.seq ?_
 refine AWP.cond hσ rfl rfl (fun hc16 => ?_) (fun hc16 => ?_)
 ·
  skip
  refine AWP.skip ?_
  refine AWP.seq ?_
  refine AWP.block ?_
  refine AWP.seq ?_
  refine AWP.region ?_
  have hil : i < e.length := by have := of_decide_eq_true hc16; omega
  have hci := cntT_le (d := e) (i := i)
  refine AOps.step (Val.indexN hσ rfl rfl rfl rfl rfl rfl rfl rfl (idxN (by first | omega | (simp at *; omega)))) rfl rfl rfl ?_
  refine AOps.step (Val.of hσ rfl rfl) rfl rfl rfl ?_
  refine AOps.step (Val.of hσ rfl rfl) rfl rfl rfl ?_
  refine AOps.forget [(6, _), (16, _), (4, _), (13, _), (14, _), (15, _)] ⟨rfl, rfl, rfl, rfl, rfl, rfl, trivial⟩ ?_
  refine AOps.nil ?_
  refine AWP.seq ?_
  refine AWP.region ?_
  refine AOps.step (Val.of hσ rfl rfl) rfl rfl rfl ?_
  refine AOps.nil ?_
  refine AWP.cond hσ rfl rfl (fun hc19 => ?_) (fun hc19 => ?_)
  ·
   skip
   refine AWP.region ?_
   refine AOps.step (Val.of hσ rfl rfl) rfl rfl rfl ?_
   refine AOps.step ((Val.fits64 hσ rfl rfl (by first | omega | (simp at *; omega)) (by first | omega | (simp at *; omega))).cast (v' := eI ((cntT e (i + 1) : Nat) : Int)) (congrArg eI (by rw [cntT_succ hil, if_pos hc19]; omega))) rfl rfl rfl ?_
   refine AOps.step (Val.of hσ rfl rfl) rfl rfl rfl ?_
   refine AOps.forget [(4, _), (19, _), (6, _), (16, _), (13, _), (14, _), (15, _)] ⟨rfl, rfl, rfl, rfl, rfl, rfl, rfl, trivial⟩ ?_
   refine AOps.nil ?_
   refine AWP.region ?_
   first | refine AOps.step (Val.fits64 hσ rfl rfl (by first | omega | (simp at *; omega)) (by first | omega | (simp at *; omega))) rfl rfl rfl ?_ | refine AOps.step (Val.vif hσ rfl rfl (by first | omega | (simp at *; omega))) rfl rfl rfl ?_
   refine AOps.step (Val.of hσ rfl rfl) rfl rfl rfl ?_
   refine AOps.nil ?_
   exact ⟨i + 1, Ent.env ⟨rfl, rfl, rfl, rfl, trivial⟩, by omega, by omega⟩
  ·
   skip
   refine AWP.skip ?_
   refine AWP.region ?_
   first | refine AOps.step (Val.fits64 hσ rfl rfl (by first | omega | (simp at *; omega)) (by first | omega | (simp at *; omega))) rfl rfl rfl ?_ | refine AOps.step (Val.vif hσ rfl rfl (by first | omega | (simp at *; omega))) rfl rfl rfl ?_
   refine AOps.step (Val.of hσ rfl rfl) rfl rfl rfl ?_
   refine AOps.nil ?_
   have hs9 : cntT e (i + 1) = cntT e i := by rw [cntT_succ hil, if_neg (by rw [hc19]; decide)]; rfl
   rw [← hs9]
   exact ⟨i + 1, Ent.env ⟨rfl, rfl, rfl, rfl, trivial⟩, by omega, by omega⟩
 ·
  skip
  refine AWP.exit ?_
  refine AWP.seq ?_
  refine AWP.region ?_
  refine AOps.step (Val.of hσ rfl rfl) rfl rfl rfl ?_
  refine AOps.step (Val.of hσ rfl rfl) rfl rfl rfl ?_
  refine AOps.nil ?_
  refine AWP.ret ?_
  refine ⟨.inl rfl, _, Ent.refl, _, rfl, ?_⟩
  obtain rfl : i = e.length := by have := of_decide_eq_false hc16; omega
  rw [show cntT e e.length = cntT d z.toNat by rw [cntT, List.take_length, he]]
end Go.Al
