/- Contracts of the functions that copy, compare, mark and measure. -/
import Derived.Test.YtbkloknmpkgmbaaGreatProg
import Derived.Test.YtbkloknmpkgmbaaGreatC
set_option linter.unusedVariables false
set_option linter.unusedSimpArgs false
set_option maxRecDepth 10000
open Go.Proofs
/- The table of the types that the functions of this seat use, and its proof. -/
namespace Go.Al
variable {L : Nat} (h1 : 4096 ≤ L) (h2 : L ≤ 1073741824)
def tt : List (Nat × TI) := [
  (2, ⟨4, false, 0, 1, 8, [.int .i64 0], []⟩),
  (3, ⟨4, false, 0, 1, 8, [.int .i64 0], []⟩),
  (4, ⟨5, false, 0, 1, 1, [.bool false], []⟩),
  (5, ⟨4, false, 0, 1, 1, [.int .u8 0], []⟩),
  (22, ⟨1, false, 5, 1, 24, [.nils], []⟩),
  (24, ⟨1, false, 44, 1, 24, [.nils], []⟩),
  (25, ⟨1, false, 76, 1, 24, [.nils], []⟩),
  (27, ⟨3, true, 0, 3, 72, [.nils, .nils, .nils], [(0, 1), (1, 1), (2, 1)]⟩),
  (29, ⟨1, false, 2, 1, 24, [.nils], []⟩),
  (31, ⟨3, true, 0, 2, 48, [.nils, .nils], [(0, 1), (1, 1)]⟩),
  (33, ⟨1, false, 39, 1, 24, [.nils], []⟩),
  (39, ⟨3, true, 0, 5, 88, [.int .i64 0, .int .i64 0, .nils, .nils, .nils], [(0, 1), (1, 1), (2, 1), (3, 1), (4, 1)]⟩),
  (44, ⟨3, true, 0, 2, 32, [.int .i64 0, .nils], [(0, 1), (1, 1)]⟩),
  (47, ⟨1, false, 117, 1, 24, [.nils], []⟩),
  (58, ⟨1, false, 167, 1, 24, [.nils], []⟩),
  (59, ⟨1, false, 170, 1, 24, [.nils], []⟩),
  (61, ⟨3, true, 0, 3, 72, [.nils, .nils, .nils], [(0, 1), (1, 1), (2, 1)]⟩),
  (63, ⟨1, false, 125, 1, 24, [.nils], []⟩),
  (76, ⟨3, true, 0, 8, 112, [.int .i64 0, .int .i64 0, .int .i64 0, .int .i64 0, .nils, .int .i64 0, .nils, .nils], [(0, 1), (1, 1), (2, 1), (3, 2), (5, 2), (7, 1)]⟩),
  (83, ⟨6, false, 0, 1, 8, [.nilp], []⟩),
  (86, ⟨1, false, 24, 1, 24, [.nils], []⟩),
  (88, ⟨3, true, 0, 5, 104, [.nils, .nils, .nils, .nils, .bool false], [(0, 1), (1, 1), (2, 1), (3, 1), (4, 1)]⟩),
  (89, ⟨6, false, 0, 1, 8, [.nilp], []⟩),
  (90, ⟨1, false, 89, 1, 24, [.nils], []⟩),
  (91, ⟨1, false, 186, 1, 24, [.nils], []⟩),
  (92, ⟨8, false, 0, 1, 8, [.nilm], []⟩),
  (94, ⟨3, true, 0, 9, 168, [.nils, .nils, .nils, .nils, .bool false, .nilp, .nils, .nils, .nilm], [(0, 5), (5, 1), (6, 1), (7, 1), (8, 1)]⟩),
  (96, ⟨6, false, 0, 1, 8, [.nilp], []⟩),
  (103, ⟨3, true, 0, 6, 96, [.nils, .nils, .nils, .int .i64 0, .int .i64 0, .int .i64 0], [(0, 2), (2, 1), (3, 1), (4, 1), (5, 1)]⟩),
  (110, ⟨3, true, 0, 10, 144, [.int .i64 0, .int .i64 0, .int .i64 0, .int .i64 0, .nils, .int .i64 0, .nils, .nils, .int .i64 0, .nils], [(0, 8), (8, 1), (9, 1)]⟩),
  (117, ⟨3, true, 0, 3, 56, [.nils, .int .i64 0, .nils], [(0, 1), (1, 2)]⟩),
  (125, ⟨1, false, 178, 1, 24, [.nils], []⟩),
  (130, ⟨4, false, 0, 1, 8, [.int .u64 0], []⟩),
  (132, ⟨3, true, 0, 3, 40, [.nils, .int .i64 0, .int .u64 0], [(0, 1), (1, 1), (2, 1)]⟩),
  (147, ⟨1, false, 198, 1, 24, [.nils], []⟩),
  (149, ⟨3, true, 0, 6, 96, [.nilp, .nils, .int .i64 0, .nils, .nils, .bool false], [(0, 1), (1, 1), (2, 1), (3, 1), (4, 1), (5, 1)]⟩),
  (167, ⟨3, true, 0, 2, 32, [.int .i64 0, .nils], [(0, 1), (1, 1)]⟩),
  (170, ⟨3, true, 0, 8, 112, [.int .i64 0, .int .i64 0, .int .i64 0, .int .i64 0, .nils, .int .i64 0, .nils, .nils], [(0, 1), (1, 1), (2, 1), (3, 2), (5, 2), (7, 1)]⟩),
  (178, ⟨3, true, 0, 5, 72, [.int .i64 0, .int .i64 0, .int .i64 0, .nils, .nils], [(0, 1), (1, 1), (2, 2), (4, 1)]⟩),
  (183, ⟨3, true, 0, 6, 112, [.int .i64 0, .nils, .nils, .nils, .nils, .int .i64 0], [(0, 1), (1, 1), (2, 1), (3, 1), (4, 1), (5, 1)]⟩),
  (186, ⟨6, false, 0, 1, 8, [.nilp], []⟩),
  (188, ⟨3, true, 0, 3, 24, [.nilp, .int .i64 0, .nilp], [(0, 1), (1, 1), (2, 1)]⟩),
  (198, ⟨3, true, 0, 3, 24, [.int .i64 0, .int .i64 0, .int .i64 0], [(0, 1), (1, 1), (2, 1)]⟩),
  (202, ⟨3, true, 0, 4, 80, [.nils, .int .i64 0, .nils, .nils], [(0, 1), (1, 1), (2, 1), (3, 1)]⟩),
  (221, ⟨3, true, 0, 3, 40, [.int .i64 0, .nils, .bool false], [(0, 1), (1, 1), (2, 1)]⟩),
  (244, ⟨1, false, 248, 1, 24, [.nils], []⟩),
  (248, ⟨3, true, 0, 3, 56, [.int .i64 0, .nils, .nils], [(0, 1), (1, 1), (2, 1)]⟩),
  (257, ⟨3, true, 0, 3, 56, [.int .i64 0, .nils, .nils], [(0, 2), (2, 1)]⟩),
  (273, ⟨1, false, 257, 1, 24, [.nils], []⟩),
  (276, ⟨1, false, 3, 1, 24, [.nils], []⟩)
]
theorem tt2 : TIok Tryz.prog 2 ⟨4, false, 0, 1, 8, [.int .i64 0], []⟩ := ⟨by kernel_rfl, by kernel_rfl, by kernel_rfl, by kernel_rfl, by kernel_rfl, by kernel_rfl, by kernel_rfl⟩
theorem tt3 : TIok Tryz.prog 3 ⟨4, false, 0, 1, 8, [.int .i64 0], []⟩ := ⟨by kernel_rfl, by kernel_rfl, by kernel_rfl, by kernel_rfl, by kernel_rfl, by kernel_rfl, by kernel_rfl⟩
theorem tt4 : TIok Tryz.prog 4 ⟨5, false, 0, 1, 1, [.bool false], []⟩ := ⟨by kernel_rfl, by kernel_rfl, by kernel_rfl, by kernel_rfl, by kernel_rfl, by kernel_rfl, by kernel_rfl⟩
theorem tt5 : TIok Tryz.prog 5 ⟨4, false, 0, 1, 1, [.int .u8 0], []⟩ := ⟨by kernel_rfl, by kernel_rfl, by kernel_rfl, by kernel_rfl, by kernel_rfl, by kernel_rfl, by kernel_rfl⟩
theorem DN : TIok Tryz.prog 22 ⟨1, false, 5, 1, 24, [.nils], []⟩ := ⟨by kernel_rfl, by kernel_rfl, by kernel_rfl, by kernel_rfl, by kernel_rfl, by kernel_rfl, by kernel_rfl⟩
theorem DM : TIok Tryz.prog 24 ⟨1, false, 44, 1, 24, [.nils], []⟩ := ⟨by kernel_rfl, by kernel_rfl, by kernel_rfl, by kernel_rfl, by kernel_rfl, by kernel_rfl, by kernel_rfl⟩
theorem DL : TIok Tryz.prog 25 ⟨1, false, 76, 1, 24, [.nils], []⟩ := ⟨by kernel_rfl, by kernel_rfl, by kernel_rfl, by kernel_rfl, by kernel_rfl, by kernel_rfl, by kernel_rfl⟩
theorem DK : TIok Tryz.prog 27 ⟨3, true, 0, 3, 72, [.nils, .nils, .nils], [(0, 1), (1, 1), (2, 1)]⟩ := ⟨by kernel_rfl, by kernel_rfl, by kernel_rfl, by kernel_rfl, by kernel_rfl, by kernel_rfl, by kernel_rfl⟩
theorem DJ : TIok Tryz.prog 29 ⟨1, false, 2, 1, 24, [.nils], []⟩ := ⟨by kernel_rfl, by kernel_rfl, by kernel_rfl, by kernel_rfl, by kernel_rfl, by kernel_rfl, by kernel_rfl⟩
theorem DI : TIok Tryz.prog 31 ⟨3, true, 0, 2, 48, [.nils, .nils], [(0, 1), (1, 1)]⟩ := ⟨by kernel_rfl, by kernel_rfl, by kernel_rfl, by kernel_rfl, by kernel_rfl, by kernel_rfl, by kernel_rfl⟩
theorem DH : TIok Tryz.prog 33 ⟨1, false, 39, 1, 24, [.nils], []⟩ := ⟨by kernel_rfl, by kernel_rfl, by kernel_rfl, by kernel_rfl, by kernel_rfl, by kernel_rfl, by kernel_rfl⟩
theorem DG : TIok Tryz.prog 39 ⟨3, true, 0, 5, 88, [.int .i64 0, .int .i64 0, .nils, .nils, .nils], [(0, 1), (1, 1), (2, 1), (3, 1), (4, 1)]⟩ := ⟨by kernel_rfl, by kernel_rfl, by kernel_rfl, by kernel_rfl, by kernel_rfl, by kernel_rfl, by kernel_rfl⟩
theorem DF : TIok Tryz.prog 44 ⟨3, true, 0, 2, 32, [.int .i64 0, .nils], [(0, 1), (1, 1)]⟩ := ⟨by kernel_rfl, by kernel_rfl, by kernel_rfl, by kernel_rfl, by kernel_rfl, by kernel_rfl, by kernel_rfl⟩
theorem DE : TIok Tryz.prog 47 ⟨1, false, 117, 1, 24, [.nils], []⟩ := ⟨by kernel_rfl, by kernel_rfl, by kernel_rfl, by kernel_rfl, by kernel_rfl, by kernel_rfl, by kernel_rfl⟩
theorem DD : TIok Tryz.prog 58 ⟨1, false, 167, 1, 24, [.nils], []⟩ := ⟨by kernel_rfl, by kernel_rfl, by kernel_rfl, by kernel_rfl, by kernel_rfl, by kernel_rfl, by kernel_rfl⟩
theorem DC : TIok Tryz.prog 59 ⟨1, false, 170, 1, 24, [.nils], []⟩ := ⟨by kernel_rfl, by kernel_rfl, by kernel_rfl, by kernel_rfl, by kernel_rfl, by kernel_rfl, by kernel_rfl⟩
theorem DB : TIok Tryz.prog 61 ⟨3, true, 0, 3, 72, [.nils, .nils, .nils], [(0, 1), (1, 1), (2, 1)]⟩ := ⟨by kernel_rfl, by kernel_rfl, by kernel_rfl, by kernel_rfl, by kernel_rfl, by kernel_rfl, by kernel_rfl⟩
theorem DA : TIok Tryz.prog 63 ⟨1, false, 125, 1, 24, [.nils], []⟩ := ⟨by kernel_rfl, by kernel_rfl, by kernel_rfl, by kernel_rfl, by kernel_rfl, by kernel_rfl, by kernel_rfl⟩
theorem Dz : TIok Tryz.prog 76 ⟨3, true, 0, 8, 112, [.int .i64 0, .int .i64 0, .int .i64 0, .int .i64 0, .nils, .int .i64 0, .nils, .nils], [(0, 1), (1, 1), (2, 1), (3, 2), (5, 2), (7, 1)]⟩ := ⟨by kernel_rfl, by kernel_rfl, by kernel_rfl, by kernel_rfl, by kernel_rfl, by kernel_rfl, by kernel_rfl⟩
theorem Dy : TIok Tryz.prog 83 ⟨6, false, 0, 1, 8, [.nilp], []⟩ := ⟨by kernel_rfl, by kernel_rfl, by kernel_rfl, by kernel_rfl, by kernel_rfl, by kernel_rfl, by kernel_rfl⟩
theorem Dx : TIok Tryz.prog 86 ⟨1, false, 24, 1, 24, [.nils], []⟩ := ⟨by kernel_rfl, by kernel_rfl, by kernel_rfl, by kernel_rfl, by kernel_rfl, by kernel_rfl, by kernel_rfl⟩
theorem Dw : TIok Tryz.prog 88 ⟨3, true, 0, 5, 104, [.nils, .nils, .nils, .nils, .bool false], [(0, 1), (1, 1), (2, 1), (3, 1), (4, 1)]⟩ := ⟨by kernel_rfl, by kernel_rfl, by kernel_rfl, by kernel_rfl, by kernel_rfl, by kernel_rfl, by kernel_rfl⟩
theorem Dv : TIok Tryz.prog 89 ⟨6, false, 0, 1, 8, [.nilp], []⟩ := ⟨by kernel_rfl, by kernel_rfl, by kernel_rfl, by kernel_rfl, by kernel_rfl, by kernel_rfl, by kernel_rfl⟩
theorem Du : TIok Tryz.prog 90 ⟨1, false, 89, 1, 24, [.nils], []⟩ := ⟨by kernel_rfl, by kernel_rfl, by kernel_rfl, by kernel_rfl, by kernel_rfl, by kernel_rfl, by kernel_rfl⟩
theorem Dt : TIok Tryz.prog 91 ⟨1, false, 186, 1, 24, [.nils], []⟩ := ⟨by kernel_rfl, by kernel_rfl, by kernel_rfl, by kernel_rfl, by kernel_rfl, by kernel_rfl, by kernel_rfl⟩
theorem Dr : TIok Tryz.prog 92 ⟨8, false, 0, 1, 8, [.nilm], []⟩ := ⟨by kernel_rfl, by kernel_rfl, by kernel_rfl, by kernel_rfl, by kernel_rfl, by kernel_rfl, by kernel_rfl⟩
theorem Dq : TIok Tryz.prog 94 ⟨3, true, 0, 9, 168, [.nils, .nils, .nils, .nils, .bool false, .nilp, .nils, .nils, .nilm], [(0, 5), (5, 1), (6, 1), (7, 1), (8, 1)]⟩ := ⟨by kernel_rfl, by kernel_rfl, by kernel_rfl, by kernel_rfl, by kernel_rfl, by kernel_rfl, by kernel_rfl⟩
theorem Dp : TIok Tryz.prog 96 ⟨6, false, 0, 1, 8, [.nilp], []⟩ := ⟨by kernel_rfl, by kernel_rfl, by kernel_rfl, by kernel_rfl, by kernel_rfl, by kernel_rfl, by kernel_rfl⟩
theorem BS : TIok Tryz.prog 103 ⟨3, true, 0, 6, 96, [.nils, .nils, .nils, .int .i64 0, .int .i64 0, .int .i64 0], [(0, 2), (2, 1), (3, 1), (4, 1), (5, 1)]⟩ := ⟨by kernel_rfl, by kernel_rfl, by kernel_rfl, by kernel_rfl, by kernel_rfl, by kernel_rfl, by kernel_rfl⟩
theorem BR : TIok Tryz.prog 110 ⟨3, true, 0, 10, 144, [.int .i64 0, .int .i64 0, .int .i64 0, .int .i64 0, .nils, .int .i64 0, .nils, .nils, .int .i64 0, .nils], [(0, 8), (8, 1), (9, 1)]⟩ := ⟨by kernel_rfl, by kernel_rfl, by kernel_rfl, by kernel_rfl, by kernel_rfl, by kernel_rfl, by kernel_rfl⟩
theorem BQ : TIok Tryz.prog 117 ⟨3, true, 0, 3, 56, [.nils, .int .i64 0, .nils], [(0, 1), (1, 2)]⟩ := ⟨by kernel_rfl, by kernel_rfl, by kernel_rfl, by kernel_rfl, by kernel_rfl, by kernel_rfl, by kernel_rfl⟩
theorem BP : TIok Tryz.prog 125 ⟨1, false, 178, 1, 24, [.nils], []⟩ := ⟨by kernel_rfl, by kernel_rfl, by kernel_rfl, by kernel_rfl, by kernel_rfl, by kernel_rfl, by kernel_rfl⟩
theorem BO : TIok Tryz.prog 130 ⟨4, false, 0, 1, 8, [.int .u64 0], []⟩ := ⟨by kernel_rfl, by kernel_rfl, by kernel_rfl, by kernel_rfl, by kernel_rfl, by kernel_rfl, by kernel_rfl⟩
theorem BM : TIok Tryz.prog 132 ⟨3, true, 0, 3, 40, [.nils, .int .i64 0, .int .u64 0], [(0, 1), (1, 1), (2, 1)]⟩ := ⟨by kernel_rfl, by kernel_rfl, by kernel_rfl, by kernel_rfl, by kernel_rfl, by kernel_rfl, by kernel_rfl⟩
theorem BL : TIok Tryz.prog 147 ⟨1, false, 198, 1, 24, [.nils], []⟩ := ⟨by kernel_rfl, by kernel_rfl, by kernel_rfl, by kernel_rfl, by kernel_rfl, by kernel_rfl, by kernel_rfl⟩
theorem BK : TIok Tryz.prog 149 ⟨3, true, 0, 6, 96, [.nilp, .nils, .int .i64 0, .nils, .nils, .bool false], [(0, 1), (1, 1), (2, 1), (3, 1), (4, 1), (5, 1)]⟩ := ⟨by kernel_rfl, by kernel_rfl, by kernel_rfl, by kernel_rfl, by kernel_rfl, by kernel_rfl, by kernel_rfl⟩
theorem BJ : TIok Tryz.prog 167 ⟨3, true, 0, 2, 32, [.int .i64 0, .nils], [(0, 1), (1, 1)]⟩ := ⟨by kernel_rfl, by kernel_rfl, by kernel_rfl, by kernel_rfl, by kernel_rfl, by kernel_rfl, by kernel_rfl⟩
theorem BI : TIok Tryz.prog 170 ⟨3, true, 0, 8, 112, [.int .i64 0, .int .i64 0, .int .i64 0, .int .i64 0, .nils, .int .i64 0, .nils, .nils], [(0, 1), (1, 1), (2, 1), (3, 2), (5, 2), (7, 1)]⟩ := ⟨by kernel_rfl, by kernel_rfl, by kernel_rfl, by kernel_rfl, by kernel_rfl, by kernel_rfl, by kernel_rfl⟩
theorem BH : TIok Tryz.prog 178 ⟨3, true, 0, 5, 72, [.int .i64 0, .int .i64 0, .int .i64 0, .nils, .nils], [(0, 1), (1, 1), (2, 2), (4, 1)]⟩ := ⟨by kernel_rfl, by kernel_rfl, by kernel_rfl, by kernel_rfl, by kernel_rfl, by kernel_rfl, by kernel_rfl⟩
theorem BG : TIok Tryz.prog 183 ⟨3, true, 0, 6, 112, [.int .i64 0, .nils, .nils, .nils, .nils, .int .i64 0], [(0, 1), (1, 1), (2, 1), (3, 1), (4, 1), (5, 1)]⟩ := ⟨by kernel_rfl, by kernel_rfl, by kernel_rfl, by kernel_rfl, by kernel_rfl, by kernel_rfl, by kernel_rfl⟩
theorem BF : TIok Tryz.prog 186 ⟨6, false, 0, 1, 8, [.nilp], []⟩ := ⟨by kernel_rfl, by kernel_rfl, by kernel_rfl, by kernel_rfl, by kernel_rfl, by kernel_rfl, by kernel_rfl⟩
theorem BE : TIok Tryz.prog 188 ⟨3, true, 0, 3, 24, [.nilp, .int .i64 0, .nilp], [(0, 1), (1, 1), (2, 1)]⟩ := ⟨by kernel_rfl, by kernel_rfl, by kernel_rfl, by kernel_rfl, by kernel_rfl, by kernel_rfl, by kernel_rfl⟩
theorem BD : TIok Tryz.prog 198 ⟨3, true, 0, 3, 24, [.int .i64 0, .int .i64 0, .int .i64 0], [(0, 1), (1, 1), (2, 1)]⟩ := ⟨by kernel_rfl, by kernel_rfl, by kernel_rfl, by kernel_rfl, by kernel_rfl, by kernel_rfl, by kernel_rfl⟩
theorem BC : TIok Tryz.prog 202 ⟨3, true, 0, 4, 80, [.nils, .int .i64 0, .nils, .nils], [(0, 1), (1, 1), (2, 1), (3, 1)]⟩ := ⟨by kernel_rfl, by kernel_rfl, by kernel_rfl, by kernel_rfl, by kernel_rfl, by kernel_rfl, by kernel_rfl⟩
theorem BB : TIok Tryz.prog 221 ⟨3, true, 0, 3, 40, [.int .i64 0, .nils, .bool false], [(0, 1), (1, 1), (2, 1)]⟩ := ⟨by kernel_rfl, by kernel_rfl, by kernel_rfl, by kernel_rfl, by kernel_rfl, by kernel_rfl, by kernel_rfl⟩
theorem BA : TIok Tryz.prog 244 ⟨1, false, 248, 1, 24, [.nils], []⟩ := ⟨by kernel_rfl, by kernel_rfl, by kernel_rfl, by kernel_rfl, by kernel_rfl, by kernel_rfl, by kernel_rfl⟩
theorem Bz : TIok Tryz.prog 248 ⟨3, true, 0, 3, 56, [.int .i64 0, .nils, .nils], [(0, 1), (1, 1), (2, 1)]⟩ := ⟨by kernel_rfl, by kernel_rfl, by kernel_rfl, by kernel_rfl, by kernel_rfl, by kernel_rfl, by kernel_rfl⟩
theorem By : TIok Tryz.prog 257 ⟨3, true, 0, 3, 56, [.int .i64 0, .nils, .nils], [(0, 2), (2, 1)]⟩ := ⟨by kernel_rfl, by kernel_rfl, by kernel_rfl, by kernel_rfl, by kernel_rfl, by kernel_rfl, by kernel_rfl⟩
theorem Bx : TIok Tryz.prog 273 ⟨1, false, 257, 1, 24, [.nils], []⟩ := ⟨by kernel_rfl, by kernel_rfl, by kernel_rfl, by kernel_rfl, by kernel_rfl, by kernel_rfl, by kernel_rfl⟩
theorem Bw : TIok Tryz.prog 276 ⟨1, false, 3, 1, 24, [.nils], []⟩ := ⟨by kernel_rfl, by kernel_rfl, by kernel_rfl, by kernel_rfl, by kernel_rfl, by kernel_rfl, by kernel_rfl⟩
theorem Bv : TTok Tryz.prog tt := ⟨tt2, tt3, tt4, tt5, DN, DM, DL, DK, DJ, DI, DH, DG, DF, DE, DD, DC, DB, DA, Dz, Dy, Dx, Dw, Dv, Du, Dt, Dr, Dq, Dp, BS, BR, BQ, BP, BO, BM, BL, BK, BJ, BI, BH, BG, BF, BE, BD, BC, BB, BA, Bz, By, Bx, Bw, trivial⟩
theorem wg : TTplain tt = true := by kernel_rfl
theorem zc : Tryz.prog.follows .mixedOrders = true := by kernel_rfl
theorem ah {σ : Sg} {Q : Exit → St → Prop} {s : St} {id : Nat} {l : List Oper} {y : Code} (h : AOps σ l.toArray (ml (AWP σ y Q) Q) l s) : AWP σ (.seq (.region id l.toArray false) y) Q s := AWP.seq (AWP.region h)
theorem jn {σ : Sg} {Q : Exit → St → Prop} {s : St} {all : Array Oper} (h : Q .normal s) : AOps σ all Q [] s := AOps.nil h
theorem aV {σ : Sg} {Q : Exit → St → Prop} {s : St} {all : Array Oper} {id : Nat} {l : List Oper} {y : Code} (h : AOps σ l.toArray (ml (AWP σ y Q) Q) l s) : AOps σ all (ml (AWP σ (.seq (.region id l.toArray false) y) Q) Q) [] s := AOps.nil (AWP.seq (AWP.region h))
theorem aT : (∀ {α β : Type} {f : α → β} {l : List α}, (l.map f).length = l.length) ∧ (∀ {α : Type} [BEq α] [LawfulBEq α] {a b : α}, (a == b) = true ↔ a = b) ∧ (∀ {p : Prop} [Decidable p], (decide p = true) = p) ∧ (∀ {p : Prop} [Decidable p], (decide p = false) ↔ ¬ p) ∧ (∀ {b : Bool}, ((!b) = true) = (b = false)) ∧ (∀ {b : Bool}, ((!b) = false) = (b = true)) ∧ ((!true) = false) ∧ ((!false) = true) ∧ (∀ {a b : Int}, ¬ a < b ↔ b ≤ a) ∧ (∀ {a b : Int}, ¬ a ≤ b ↔ b < a) := by
 refine ⟨?_, ?_, ?_, ?_, ?_, ?_, ?_, ?_, ?_, ?_⟩ <;> intros <;> simp
theorem au {σ : Sg} {Q : cP} {all : Array Oper} {l : List Oper} {e : List (Nat × A)} {H H' : List (Nat × B)} (K : AOps σ all Q l ⟨e, H'⟩) (h : HN H H' := by repeat' (first | apply HN.cons rfl | exact HN.nil rfl | exact BN.row rfl | exact BN.map rfl | apply BN.box rfl | apply MN.cons rfl | exact MN.nil rfl | exact XN.d rfl | exact XN.rs rfl | exact nd)) : AOps σ all Q l ⟨e, H⟩ := uL h K
theorem b9 {σ : Sg} {Q : Exit → St → Prop} {c : Code} {e : List (Nat × A)} {H H' : List (Nat × B)} (K : AWP σ c Q ⟨e, H'⟩) (h : HN H H' := by repeat' (first | apply HN.cons rfl | exact HN.nil rfl | exact BN.row rfl | exact BN.map rfl | apply BN.box rfl | apply MN.cons rfl | exact MN.nil rfl | exact XN.d rfl | exact XN.rs rfl | exact nd)) : AWP σ c Q ⟨e, H⟩ := w3 h K
def AU (e : List (Nat × A)) : List Nat → Option (List (Nat × A))
  | [] => some []
  | k :: ks => match lk e k, AU e ks with
    | some v, some r => some ((k, v) :: r)
    | _, _ => none
theorem qk {e : List (Nat × A)} : ∀ {ks : List Nat} {e' : List (Nat × A)}, AU e ks = some e' → envSub e e'
 | [], e', h => by cases h; trivial
 | k :: ks, e', h => by
  unfold AU at h
  split at h
  rename_i v r h1 h2
  cases h
  exact ⟨h1, qk h2⟩
  cases h
theorem jf {σ : Sg} {Q : Exit → St → Prop} {all : Array Oper} {l : List Oper} {e e' : List (Nat × A)} {H : List (Nat × B)} (ks : List Nat) (h : AU e ks = some e') (K : AOps σ all Q l ⟨e', H⟩) : AOps σ all Q l ⟨e, H⟩ := rU e' (qk h) K
theorem jw {σ : Sg} {Q : Exit → St → Prop} {c : Code} {e e' : List (Nat × A)} {H : List (Nat × B)} (ks : List Nat) (h : AU e ks = some e') (K : AWP σ c Q ⟨e', H⟩) : AWP σ c Q ⟨e, H⟩ := sY e' (qk h) K


noncomputable abbrev SG (L nt : Nat) : Sg := ⟨Tryz.prog, tt, L, nt, []⟩
theorem pN {L nt} (h1 : 4096 ≤ L) (h2 : L ≤ 9223372036854775807) : SgOk (SG L nt) := ⟨Bv, wg, h1, h2, zc⟩
theorem jB {L f : Nat} {fn : Func} {c : Code} {args : List A} {Q : A → List (Nat × B) → Prop} (nt : Nat) (h1 : 4096 ≤ L) (h2 : L ≤ 1073741824) (hf : Tryz.prog.funcs[f]? = some fn) (hb : fn.body = some c) (hnt : fn.ntmps = nt) (ha : Nat.ble args.length nt = true) (h : SgOk (SG L nt) → As.fact L args → AWP (SG L nt) c (fun e s => (e = .ret ∨ e = .normal) ∧ ∃ s2, Ent (SG L nt) s s2 ∧ ∃ res, f7 tt s2 fn.results.toList = some res ∧ Q res s2.H) ⟨cg 0 args, []⟩) (hn : (fn.name == "runtime.NumGoroutine") = false := by kernel_rfl) : MC Tryz.prog L f args [] Q := have hσ := pN (nt := nt) h1 (Nat.le_trans h2 (by decide)); MC.body hσ hf hn hb hnt (Nat.le_of_ble_eq_true ha) (h hσ)
theorem jH {L f : Nat} {fn : Func} {c : Code} {args : List A} {Hin : List (Nat × B)} {Q : A → List (Nat × B) → Prop} (nt : Nat) (ks : List Nat) (h1 : 4096 ≤ L) (h2 : L ≤ 1073741824) (hf : Tryz.prog.funcs[f]? = some fn) (hb : fn.body = some c) (hnt : fn.ntmps = nt) (hi : ks = Hin.map (·.1)) (ha : Nat.ble args.length nt = true) (h : SgOk ⟨Tryz.prog, tt, L, nt, ks⟩ → As.fact L args → AWP ⟨Tryz.prog, tt, L, nt, ks⟩ c (fun e s => (e = .ret ∨ e = .normal) ∧ ∃ s2, Ent ⟨Tryz.prog, tt, L, nt, ks⟩ s s2 ∧ ∃ res, f7 tt s2 fn.results.toList = some res ∧ Q res s2.H) ⟨cg 0 args, Hin⟩) (hn : (fn.name == "runtime.NumGoroutine") = false := by kernel_rfl) : MC Tryz.prog L f args Hin Q := have hσ := qC (js := ks) (pN (nt := nt) h1 (Nat.le_trans h2 (by decide))); w2 hσ hf hn hb hnt hi (Nat.le_of_ble_eq_true ha) (h hσ)
abbrev MQ {L : Nat} (h1 : 4096 ≤ L) (h2 : L ≤ 1073741824) (f : Nat) (ds : List A) (Hin : List (Nat × B)) (Q : A → List (Nat × B) → Prop) : Prop := MC Tryz.prog L f ds Hin Q
abbrev eI (n : Int) : A := .c (.d (.int .i64 n))
abbrev eB (b : Bool) : A := .c (.d (.bool b))
abbrev bj (xs : List Int) : D := .slc 1 (xs.map fun n => [.int .i64 n])
structure Tm where
  c : Int
  xs : List Int
  deriving Inhabited
abbrev Tm.cells (t : Tm) : List D := [.int .i64 t.c, bj t.xs]
abbrev ptr (cs : List D) : A := .c (.d (.ptr cs 0))
def num (x : Int) : Bool := decide (-1000000 ≤ x) && decide (x ≤ 1000000)
def Tm.ok (t : Tm) : Bool := !(bif (bif !num t.c then true else decide ((10 : Int) < t.xs.length)) then true else bif decide ((0 : Int) < t.xs.length) then decide (t.xs.getD ((t.xs.length : Int) - 1).toNat default = 0) else false) && t.xs.all num
theorem ii {α : Type} {p : α → Bool} {xs : List α} (h : ∀ j (hj : j < xs.length), p xs[j] = true) : xs.all p = true := by
 rw [List.all_eq_true]; intro x hx
 obtain ⟨j, hj, rfl⟩ := List.mem_iff_getElem.1 hx
 exact h j hj
theorem gD {α : Type} {p : α → Bool} {xs : List α} (j : Nat) (hj : j < xs.length) (h : p xs[j] = false) : xs.all p = false := by
 rw [List.all_eq_false]; exact ⟨xs[j], List.getElem_mem _, by simp [h]⟩
theorem ax {α : Type} [Inhabited α] {xs : List α} {j : Nat} (hj : j < xs.length) : xs.getD j default = xs[j] := by simp [hj]

theorem AF {x lo hi : Int} : MQ h1 h2 99 [eI x, eI lo, eI hi] [] (Plain (eB (decide (lo ≤ x) && decide (x ≤ hi)))) := by
 refine aA ?_ Z
 refine jB 15 h1 h2 Tryz.func99 Z Z Z fun O hF => ?_
 refine ah (js O Z (aV (j4 O Z Z Z Z (az 3 Z Z Z (fun hx => ab hx Z Z Z (V O Z) Z Z ( ab hx Z Z Z (V O Z) Z Z ( ab hx Z Z Z (V O Z) Z Z ( AN.nil)))) Z Z (ac (aC O Z Z Z Z Z) Z Z Z (js O Z (jr ?_)))))))
 refine ⟨.inl Z, _, am, _, Z, ?_⟩
 rw [Bool.cond_false_right]
theorem vd {x : Int} : MQ h1 h2 132 [eI x] [] (Plain (eB (num x))) := by
 refine aA ?_ Z
 refine jB 5 h1 h2 Tryz.func132 Z Z Z fun O hF => ?_
 refine ah (js O Z (aV (js O Z (ap O Z Z Z Z (AF h1 h2) (aa Z) Z Z Z Z Z (B0 := 5000) Z (js O Z (jr ?_))))))
 refine ⟨.inl Z, _, am, _, Z, ?_⟩
 first | rfl | skip
variable {t : Tm}
theorem xm : MQ h1 h2 89 [ptr t.cells] [] (Plain (eB t.ok)) := by
 refine aA ?_ Z
 refine jB 49 h1 h2 Tryz.func89 Z Z Z fun O hF => ?_
 have hl : t.xs.length ≤ L := by simpa [As.fact, A.fact, M.fact, D.fact, Ds.fact] using hF.1.2.1.1
 refine ah (js O Z (aV (j4 O Z Z Z Z (cu O Z (js O Z (jn (ag (ah (j4 O Z Z Z Z (ap O Z Z Z Z (vd h1 h2) (aa Z) Z Z Z Z Z (B0 := 15000) Z (j2 O Z Z (az 2 Z Z Z (fun hx => ab hx Z Z Z (V O Z) Z Z ( ab hx Z Z Z (V O Z) Z Z ( AN.nil))) Z Z (ac (aL O Z Z Z Z Z) Z Z Z (js O Z (az 13 Z Z Z (fun hx => ab hx Z Z Z (V O Z) Z Z ( ab hx Z Z Z (V O Z) Z Z ( ab hx Z Z Z (V O Z) Z Z ( nq 9 Z Z Z Z (fun hx' => ab hx' Z Z Z (V O Z) Z Z ( ab hx' Z Z Z (V O Z) Z Z ( ab hx' Z Z Z (V O Z) Z Z ( ab hx' Z Z Z (V O Z) Z Z ( ab hx' Z Z Z (V O Z) Z Z ( ab hx' Z Z Z (vF O Z) Z Z ( ab hx' Z Z Z (vD O Z) Z Z ( ab hx' Z Z Z (V O Z) Z Z ( ab hx' Z Z Z (V O Z) Z Z ( AN.nil)))))))))) Z Z ( ab hx Z Z Z (aC O Z Z Z Z Z) Z Z ( AN.nil)))))) Z Z (ac (aL O Z Z Z Z Z) Z Z Z (jn (ae O Z Z (fun hc34 => ?_) (fun hc34 => ?_)))))))))))))))))))
 try simp only [aT] at hc34
 refine ah (js O Z (jr ?_))
 refine ⟨.inl Z, _, am, _, Z, ?_⟩
 simp only [Tm.ok, hc34, Bool.not_true, Bool.false_and]
 try simp only [aT] at hc34
 refine aj (ag (ah (js O Z (jn (ao (aq (X := Nat) (fun i => ⟨[(0, ptr t.cells), (3, eI t.xs.length), (4, eI i)], []⟩) (fun i => i ≤ t.xs.length ∧ ∀ j (h : j < t.xs.length), j < i → num t.xs[j] = true) (fun i => t.xs.length - i) 0 (Ent.env ⟨Z, Z, Z, trivial⟩) ?_ (fun i hi => ?_)))))))
 exact ⟨ct _, fun j h hj => absurd hj (Nat.not_lt_zero j)⟩
 refine ag (ah (j3 O Z Z Z (jn (ae O Z Z (fun hc37 => ?_) (fun hc37 => ?_)))))
 try simp only [aT] at hc37
 refine aj (ag (ao (ah (j4 O Z Z Z Z (js O Z (lz O Z Z (js O Z (ap O Z Z Z Z (vd h1 h2) (aa Z) Z Z Z Z Z (B0 := 48000) Z (js O Z (jn (ae O Z Z (fun hc48 => ?_) (fun hc48 => ?_))))))))))))
 try simp only [aT] at hc48
 refine ah (js O Z (jr ?_))
 refine ⟨.inl Z, _, am, _, Z, ?_⟩
 rw [Int.toNat_natCast, ax (by omega)] at hc48
 simp only [Tm.ok, gD i (by omega) hc48, Bool.and_false]
 try simp only [aT] at hc48
 refine aj (ak (js O Z (ji O Z (js O Z (jn ?_)))))
 refine ⟨i + 1, Ent.env ⟨Z, Z, Z, trivial⟩, ⟨by omega, fun j h hj => ?_⟩, by omega⟩
 by_cases e : j = i
 subst e; rw [Int.toNat_natCast, ax h] at hc48; exact hc48
 exact hi.2 j h (by omega)
 try simp only [aT] at hc37
 refine aO (ah (js O Z (jr ?_)))
 refine ⟨.inl Z, _, am, _, Z, ?_⟩
 simp only [Tm.ok, hc34, Bool.not_false, Bool.true_and]
 rw [ii (fun j hj => hi.2 j hj (by omega))]
abbrev aX (xs : List Int) : B := .row true 1 (xs.map fun n => [.int .i64 n])
abbrev bH (xs : List Int) : A := .c (.d (bj xs))
variable {xs : List Int}
theorem xk : MQ h1 h2 88 [bH xs] [] (Rows (.c (.rs 0 0 xs.length)) [aX xs]) := by
 refine bI (jB 6 h1 h2 Tryz.func88 Z Z Z fun O hF => ?_)
 have hl : xs.length ≤ L := by simpa [As.fact, A.fact, M.fact, D.fact, Ds.fact] using hF.1.1
 refine ?_
 refine ah (js O Z (aV (AOps.heap (bA O Z Z Z) Z (js O Z (AOps.heap (aU (own := true) O Z Z Z Z Z Z Z Z Z Z Z Z Z Z Z Z (.row Z Z) (.slc (.inr (Scal.map (fun _ => rfl)))) (by simp) Z (by first | omega | (dsimp only [bz, dL, List.length_nil]; omega) | (simp only [aT] at *; omega) | (simp; omega)) (by first | omega | (dsimp only [bz, dL, List.length_nil]; omega) | (simp only [aT] at *; omega) | (simp; omega)) Z Z) Z (js O Z (jr ?_)))))))
 refine ⟨.inl Z, _, am, _, Z, [5], by decide, Z, ?_, ?_⟩
 simp [A.lab, M.lab]
 rfl
theorem ve : MQ h1 h2 127 [bH xs] [] (Rows (.c (.rs 0 0 xs.length)) [aX xs]) := by
 refine bI (jB 6 h1 h2 Tryz.func127 Z Z Z fun O hF => ?_)
 have hl : xs.length ≤ L := by simpa [As.fact, A.fact, M.fact, D.fact, Ds.fact] using hF.1.1
 refine ?_
 refine ah (js O Z (aV (AOps.heap (bA O Z Z Z) Z (js O Z (AOps.heap (aU (own := true) O Z Z Z Z Z Z Z Z Z Z Z Z Z Z Z Z (.row Z Z) (.slc (.inr (Scal.map (fun _ => rfl)))) (by simp) Z (by first | omega | (dsimp only [bz, dL, List.length_nil]; omega) | (simp only [aT] at *; omega) | (simp; omega)) (by first | omega | (dsimp only [bz, dL, List.length_nil]; omega) | (simp only [aT] at *; omega) | (simp; omega)) Z Z) Z (js O Z (jr ?_)))))))
 refine ⟨.inl Z, _, am, _, Z, [5], by decide, Z, ?_, ?_⟩
 simp [A.lab, M.lab]
 rfl
theorem c61 : MQ h1 h2 145 [bH xs] [] (Rows (.c (.rs 0 0 xs.length)) [aX xs]) := by
 refine bI (jB 22 h1 h2 Tryz.func145 Z Z Z fun O hF => ?_)
 have hl : xs.length ≤ L := by simpa [As.fact, A.fact, M.fact, D.fact, Ds.fact] using hF.1.1
 refine ah (js O Z (aV (js O Z (cu O Z (AOps.heap (ea O Z Z Z Z Z Z Z Z Z (by first | omega | (simp at *; omega)) (by first | omega | (simp at *; omega)) (by first | omega | (simp at *; omega)) (by first | omega | (dsimp only; omega) | (simp only [aT] at *; omega)) (by first | omega | (simp at *; omega)) Z Z Z) Z (js O Z (jn (ag (ah (js O Z (jn (ao (aq (X := Nat × List Int) (fun x => ⟨[(0, bH xs), (3, .c (.rs 7 0 xs.length)), (4, eI x.1)], [(7, aX x.2)]⟩) (fun x => x.1 ≤ xs.length ∧ x.2.length = xs.length ∧ ∀ j, j < x.1 → x.2[j]? = xs[j]?) (fun x => xs.length - x.1) (0, List.replicate xs.length 0) (Ent.to ⟨Z, Z, Z, trivial⟩ (by simp [ins, aX])) ?_ (fun x hi => ?_))))))))))))))
 exact ⟨ct _, List.length_replicate, fun j hj => absurd hj (Nat.not_lt_zero j)⟩
 refine ag (ah (j2 O Z Z (cu O Z (js O Z (jn (ae O Z Z (fun hc11 => ?_) (fun hc11 => ?_)))))))
 try simp only [aT] at hc11
 refine aj (ag (ao (ak (j4 O Z Z Z Z (lz O Z Z (js O Z (dk O Z Z (AOps.heap (bg (ex := [.int .i64 (x.2.getD x.1 default)]) (xs' := (x.2.set x.1 (xs.getD x.1 default)).map fun n => [.int .i64 n]) O Z Z Z Z Z Z Z Z Z Z Z Z Z Z (by simp [hi.2.1, show x.1 < xs.length by omega]) (by simp [List.map_set])) Z (jn (ak (js O Z (ji O Z (js O Z (jn ?_))))))))))))))
 refine ⟨(x.1 + 1, x.2.set x.1 (xs.getD x.1 default)), Ent.to ⟨Z, Z, Z, trivial⟩ Z, ⟨by omega, by simp [hi.2.1], fun j hj => ?_⟩, by omega⟩
 rw [List.getElem?_set]
 split
 rename_i e; subst e; simp [hi.2.1, show x.1 < xs.length by omega]
 exact hi.2.2 j (by omega)
 try simp only [aT] at hc11
 refine aO (ah (j2 O Z Z (jr ?_)))
 have e : x.2 = xs := List.ext_getElem? fun j => by
  rcases Nat.lt_or_ge j x.1 with h | h
  ·
   exact hi.2.2 j h
  ·
   rw [List.getElem?_eq_none (by omega), List.getElem?_eq_none (by omega)]
 refine ⟨.inl Z, _, am, _, Z, [7], by decide, Z, Z, ?_⟩
 rw [← e]; rfl

theorem EC {ys : List Int} : MQ h1 h2 151 [bH xs, bH ys] [] (Plain (eB (decide (xs = ys)))) := by
 refine aA ?_ Z
 refine jB 26 h1 h2 Tryz.func151 Z Z Z fun O hF => ?_
 have hl : xs.length ≤ L := by simpa [As.fact, A.fact, M.fact, D.fact, Ds.fact] using hF.1.1
 have hl2 : ys.length ≤ L := by simpa [As.fact, A.fact, M.fact, D.fact, Ds.fact] using hF.2.1.1
 refine ah (js O Z (jn (ag (ah (js O Z (cu O Z (js O Z (cu O Z (js O Z (jn (ae O Z Z (fun hc10 => ?_) (fun hc10 => ?_))))))))))))
 try simp only [aT] at hc10
 refine ah (js O Z (jr ?_))
 refine ⟨.inl Z, _, am, _, Z, ?_⟩
 rw [decide_eq_false (fun e => by subst e; simp at hc10)]
 try simp only [aT] at hc10
 refine aj (ag (ah (js O Z (jn (ao (aq (X := Nat) (fun i => ⟨[(0, bH xs), (1, bH ys), (5, eI i)], []⟩) (fun i => i ≤ xs.length ∧ ∀ j, j < i → xs[j]? = ys[j]?) (fun i => xs.length - i) 0 (Ent.env ⟨Z, Z, Z, trivial⟩) ?_ (fun i hi => ?_)))))))
 exact ⟨ct _, fun j hj => absurd hj (Nat.not_lt_zero j)⟩
 refine ag (ah (j2 O Z Z (cu O Z (js O Z (jn (ae O Z Z (fun hc14 => ?_) (fun hc14 => ?_)))))))
 try simp only [aT] at hc14
 refine aj (ag (ao (ag (gL O [_,_,_,_,_,_,_,_,_] [pn [] 0 0, pn [] 0 0, pn [0,1] 0 0, pn [0,1,2] 0 0, pn [] 0 0, pn [] 0 0, pn [4,5] 0 0, pn [4,5,6] 0 0, pn (rg 0 8) 0 0] [] [_] (kc O Z (kc O Z (ai (vD O Z) (kc O Z (kc O Z (kc O Z (ai (vD O Z) (kc O Z (kc O Z trivial))))))))) ?_))))
 refine ae O Z Z (fun hc25 => ?_) (fun hc25 => ?_)
 try simp only [aT] at hc25
 refine ah (js O Z (jr ?_))
 refine ⟨.inl Z, _, am, _, Z, ?_⟩
 rw [decide_eq_false (fun e => by subst e; simp at hc25)]
 try simp only [aT] at hc25
 refine aj (ak (js O Z (ji O Z (js O Z (jn ?_)))))
 refine ⟨i + 1, Ent.env ⟨Z, Z, Z, trivial⟩, ⟨by omega, fun j hj => ?_⟩, by omega⟩
 rcases Nat.lt_or_ge j i with h | h
 exact hi.2 j h
 obtain rfl : j = i := by omega
 rw [Int.toNat_natCast, ax (by omega), ax (by omega)] at hc25
 rw [List.getElem?_eq_getElem (by omega), List.getElem?_eq_getElem (by omega), hc25]
 try simp only [aT] at hc14
 refine aO (ah (js O Z (jr ?_)))
 refine ⟨.inl Z, _, am, _, Z, ?_⟩
 have e : xs = ys := List.ext_getElem? fun j => by
  rcases Nat.lt_or_ge j i with h | h
  ·
   exact hi.2 j h
  ·
   rw [List.getElem?_eq_none (by omega), List.getElem?_eq_none (by omega)]
 rw [decide_eq_true e]
deriving instance DecidableEq for Tm
abbrev Da (t : Tm) : A := .agg [.d (.int .i64 t.c), .d (bj t.xs)]
abbrev dK (ts : List Tm) : D := .slc 2 (ts.map Tm.cells)
abbrev bN (ts : List Tm) : A := .c (.d (dK ts))
abbrev gF (ts : List Tm) : B := .row true 2 (ts.map Tm.cells)

theorem Dh : MQ h1 h2 101 [Da t] [] (Rows (.agg [.d (.int .i64 t.c), .rs 0 0 t.xs.length]) [aX t.xs]) := by
 refine bI (jB 12 h1 h2 Tryz.func101 Z Z Z fun O hF => ?_)
 refine ah (jx O Z (jl O Z (aV (jl O Z (aV (j3 O Z Z Z (jo O Z (aV (j2 O Z Z (bn O (B0 := 10000) Z Z Z Z (c61 h1 h2) (aa Z) Z Z Z Z Z Z (js O Z (jo O Z (aV (js O Z (jo O Z (jr ?_))))))))))))))))
 refine ⟨.inl Z, _, am, _, Z, [10000], by decide, Z, Z, Z⟩
theorem C8 {s : Tm} : MQ h1 h2 107 [Da s, Da t] [] (Plain (eB (decide (s = t)))) := by
 refine aA ?_ Z
 refine jB 16 h1 h2 Tryz.func107 Z Z Z fun O hF => ?_
 refine ah (jx O Z (jx O Z (js O Z (jn (ag (ah (j4 O Z Z Z Z (js O Z (jn (ae O Z Z (fun hc9 => ?_) (fun hc9 => ?_)))))))))))
 try simp only [aT] at hc9
 refine ah (js O Z (jr ?_))
 refine ⟨.inl Z, _, am, _, Z, ?_⟩
 rw [decide_eq_false (fun e => hc9 (by rw [e]))]
 try simp only [aT] at hc9
 refine aj (ag (ah (j4 O Z Z Z Z (ap O Z Z Z Z (EC h1 h2) (aa Z) Z Z Z Z Z (B0 := 15000) Z (js O Z (jn (ae O Z Z (fun hc15 => ?_) (fun hc15 => ?_))))))))
 try simp only [aT] at hc15
 refine ah (js O Z (jr ?_))
 refine ⟨.inl Z, _, am, _, Z, ?_⟩
 rw [decide_eq_false (fun e => hc15 (by rw [e]))]
 try simp only [aT] at hc15
 refine aj (ah (js O Z (jr ?_)))
 refine ⟨.inl Z, _, am, _, Z, ?_⟩
 have e : s = t := by cases s; cases t; simp_all
 rw [decide_eq_true e]
def gE (left : Int) (n : Nat) : Int := if left < n then -1 else left - n
def Tm.size (t : Tm) : Nat := t.xs.length

theorem c54 {L : Nat} (h1 : 4096 ≤ L) (h2 : L ≤ 9223372036854775807) {xs : List Int} {left : Int} (hl0 : 0 ≤ left) (hl1 : left ≤ 1048576) : MC Tryz.prog L 139 [bH xs, eI left] [] (Plain (eI (gE left xs.length))) := by
 refine aA ?_ Z
 have O := pN (nt := 12) h1 h2
 refine MC.body O Tryz.func139 (by kernel_rfl) Z Z (Nat.le_of_ble_eq_true Z) (fun hF => ?_)
 have hl : xs.length ≤ L := by simpa [As.fact, A.fact, M.fact, D.fact, Ds.fact] using hF.1.1
 refine ah (js O Z (aV (j2 O Z Z (cu O Z (ji O Z (js O Z (jn (ag (ah (j2 O Z Z (jn (ae O Z Z (fun hc10 => ?_) (fun hc10 => ?_)))))))))))))
 try simp only [aT] at hc10
 refine ah (js O Z (jr ?_))
 refine ⟨.inl Z, _, am, _, Z, ?_⟩
 rw [show gE left xs.length = -1 from if_pos (by omega)]
 try simp only [aT] at hc10
 refine aj (ah (j2 O Z Z (jr ?_)))
 refine ⟨.inl Z, _, am, _, Z, ?_⟩
 rw [show gE left xs.length = left - xs.length from if_neg (by omega)]
theorem Di {L : Nat} (h1 : 4096 ≤ L) (h2 : L ≤ 9223372036854775807) {t : Tm} {left : Int} (hl0 : 0 ≤ left) (hl1 : left ≤ 1048576) : MC Tryz.prog L 97 [Da t, eI left] [] (Plain (eI (gE left t.size))) := by
 refine aA ?_ Z
 have O := pN (nt := 12) h1 h2
 refine MC.body O Tryz.func97 (by kernel_rfl) Z Z (Nat.le_of_ble_eq_true Z) (fun hF => ?_)
 refine ah (jx O Z (js O Z (aV (j3 O Z Z Z (ap O Z Z Z Z (c54 h1 h2 hl0 hl1) (aa Z) Z Z Z Z Z (B0 := 9000) Z (js O Z (jn (ag (ah (j2 O Z Z (jn (ae O Z Z (fun hc10 => ?_) (fun hc10 => ?_)))))))))))))
 try simp only [aT] at hc10
 refine ah (js O Z (jr ?_))
 refine ⟨.inl Z, _, am, _, Z, ?_⟩
 have : gE left t.size = -1 := by unfold gE Tm.size at *; split at hc10 <;> simp_all <;> omega
 rw [this]
 try simp only [aT] at hc10
 refine aj (ah (j2 O Z Z (jr ?_)))
 refine ⟨.inl Z, _, am, _, Z, ?_⟩
 rfl
def szs {α : Type} (f : α → Nat) (xs : List α) : Nat := xs.length + (xs.map f).sum
theorem kV {α : Type} [Inhabited α] (f : α → Nat) (xs : List α) (i : Nat) (h : i < xs.length) : ((xs.take (i + 1)).map f).sum = ((xs.take i).map f).sum + f (xs.getD i default) := by
 rw [List.take_add_one, List.map_append, List.sum_append, List.getElem?_eq_getElem h]
 simp [h]
theorem vB {α : Type} (f : α → Nat) (xs : List α) (i : Nat) : ((xs.take i).map f).sum ≤ (xs.map f).sum := by
 conv => rhs; rw [← List.take_append_drop i xs, List.map_append, List.sum_append]
 omega
theorem Dk {L : Nat} (h1 : 4096 ≤ L) (h2 : L ≤ 9223372036854775807) {ts : List Tm} {left : Int} (hl0 : 0 ≤ left) (hl1 : left ≤ 1048576) : MC Tryz.prog L 55 [bN ts, eI left] [] (Plain (eI (gE left (Al.szs Tm.size ts)))) := by
 refine aA ?_ Z
 have O := pN (nt := 27) h1 h2
 refine MC.body O Tryz.func55 (by kernel_rfl) Z Z (Nat.le_of_ble_eq_true Z) (fun hF => ?_)
 have hl : ts.length ≤ L := by simpa [As.fact, A.fact, M.fact, D.fact, Ds.fact] using hF.1.1
 refine ah (js O Z (aV (j2 O Z Z (cu O Z (ji O Z (js O Z (jn (ag (ah (j2 O Z Z (jn (ae O Z Z (fun hc11 => ?_) (fun hc11 => ?_)))))))))))))
 try simp only [aT] at hc11
 refine ah (js O Z (jr ?_))
 refine ⟨.inl Z, _, am, _, Z, ?_⟩
 rw [show gE left (Al.szs Tm.size ts) = -1 from if_pos (by unfold Al.szs; omega)]
 try simp only [aT] at hc11
 refine aj (ag (ah (js O Z (jn (ao (aq (X := Nat) (fun i => ⟨[(0, bN ts), (1, eI (left - ts.length - ((ts.take i).map Tm.size).sum)), (5, eI i)], []⟩) (fun i => i ≤ ts.length ∧ (0 : Int) ≤ left - ts.length - ((ts.take i).map Tm.size).sum) (fun i => ts.length - i) 0 (Ent.env ⟨Z, by simp [aF], Z, trivial⟩) ?_ (fun i hi => ?_)))))))
 exact ⟨ct _, by simp; omega⟩
 refine ag (ah (j2 O Z Z (cu O Z (js O Z (jn (ae O Z Z (fun hc15 => ?_) (fun hc15 => ?_)))))))
 try simp only [aT] at hc15
 refine aj (ag (ao (ah (j2 O Z Z (lz O Z Z (j2 O Z Z (ap O Z Z Z Z (Di h1 h2 hi.2 (by omega)) (aa Z) Z Z Z Z Z (B0 := 24000) Z (js O Z (aV (j2 O Z Z (jn (ae O Z Z (fun hc25 => ?_) (fun hc25 => ?_)))))))))))))
 try simp only [aT] at hc25
 refine ah (js O Z (jr ?_))
 refine ⟨.inl Z, _, am, _, Z, ?_⟩
 have e := kV Tm.size ts i (by omega)
 have e3 := vB Tm.size ts (i + 1)
 rw [Int.toNat_natCast] at hc25
 rw [show gE left (Al.szs Tm.size ts) = -1 from if_pos (by unfold gE at hc25; unfold Al.szs; split at hc25 <;> omega)]
 try simp only [aT] at hc25
 refine aj (ak (js O Z (ji O Z (js O Z (jn ?_)))))
 have e := kV Tm.size ts i (by omega)
 have e2 : gE (left - ts.length - ((ts.take i).map Tm.size).sum) (ts.getD i default).size = left - ts.length - ((ts.take (i + 1)).map Tm.size).sum := by
  unfold gE at hc25 ⊢
  rw [Int.toNat_natCast] at hc25
  split at hc25 <;> omega
 refine ⟨i + 1, Ent.env ⟨Z, ?_, Z, trivial⟩, ⟨by omega, ?_⟩, by omega⟩
 rw [← e2]; rfl
 rw [← e2]; rw [Int.toNat_natCast] at hc25; omega
 try simp only [aT] at hc15
 refine aO (ah (j2 O Z Z (jr ?_)))
 refine ⟨.inl Z, _, am, _, Z, ?_⟩
 obtain rfl : i = ts.length := by omega
 have e4 := hi.2
 rw [List.take_length] at e4 ⊢
 rw [show gE left (Al.szs Tm.size ts) = left - ts.length - (ts.map Tm.size).sum from by unfold gE Al.szs; rw [if_neg (by omega)]; omega]

theorem Dl {xs ys : List Tm} : MQ h1 h2 63 [bN xs, bN ys] [] (Plain (eB (decide (xs = ys)))) := by
 refine aA ?_ Z
 refine jB 27 h1 h2 Tryz.func63 Z Z Z fun O hF => ?_
 have hl : xs.length ≤ L := by simpa [As.fact, A.fact, M.fact, D.fact, Ds.fact] using hF.1.1
 have hl2 : ys.length ≤ L := by simpa [As.fact, A.fact, M.fact, D.fact, Ds.fact] using hF.2.1.1
 refine ah (js O Z (jn (ag (ah (js O Z (cu O Z (js O Z (cu O Z (js O Z (jn (ae O Z Z (fun hc10 => ?_) (fun hc10 => ?_))))))))))))
 try simp only [aT] at hc10
 refine ah (js O Z (jr ?_))
 refine ⟨.inl Z, _, am, _, Z, ?_⟩
 rw [decide_eq_false (fun e => by subst e; simp at hc10)]
 try simp only [aT] at hc10
 refine aj (ag (ah (js O Z (jn (ao (aq (X := Nat) (fun i => ⟨[(0, bN xs), (1, bN ys), (5, eI i)], []⟩) (fun i => i ≤ xs.length ∧ ∀ j, j < i → xs[j]? = ys[j]?) (fun i => xs.length - i) 0 (Ent.env ⟨Z, Z, Z, trivial⟩) ?_ (fun i hi => ?_)))))))
 exact ⟨ct _, fun j hj => absurd hj (Nat.not_lt_zero j)⟩
 refine ag (ah (j2 O Z Z (cu O Z (js O Z (jn (ae O Z Z (fun hc14 => ?_) (fun hc14 => ?_)))))))
 try simp only [aT] at hc14
 refine aj (ag (ao (ag (gL O [_,_,_,_,_,_,_,_,_,_] [pn [] 0 0, pn [] 0 0, pn [0,1] 0 0, pn [0,1,2] 0 0, pn [] 0 0, pn [] 0 0, pn [4,5] 0 0, pn [4,5,6] 0 0, pe (rg 0 8) 0, pn (rg 0 9) 1 1] [8] [_,_] (kc O Z (kc O Z (ai (vD O Z) (kc O Z (kc O Z (kc O Z (ai (vD O Z) (kc O Z (ai (bw O (B0 := 26000) Z Z Z Z (C8 h1 h2) (aa Z) Z Z Z Z Z) (kc O Z trivial)))))))))) ?_))))
 refine ae O Z Z (fun hc26 => ?_) (fun hc26 => ?_)
 try simp only [aT] at hc26
 refine ah (js O Z (jr ?_))
 refine ⟨.inl Z, _, am, _, Z, ?_⟩
 rw [decide_eq_false (fun e => by subst e; simp at hc26)]
 try simp only [aT] at hc26
 refine aj (ak (js O Z (ji O Z (js O Z (jn ?_)))))
 refine ⟨i + 1, Ent.env ⟨Z, Z, Z, trivial⟩, ⟨by omega, fun j hj => ?_⟩, by omega⟩
 rcases Nat.lt_or_ge j i with h | h
 exact hi.2 j h
 obtain rfl : j = i := by omega
 rw [Int.toNat_natCast, ax (by omega), ax (by omega)] at hc26
 rw [List.getElem?_eq_getElem (by omega), List.getElem?_eq_getElem (by omega), hc26]
 try simp only [aT] at hc14
 refine aO (ah (js O Z (jr ?_)))
 refine ⟨.inl Z, _, am, _, Z, ?_⟩
 have e : xs = ys := List.ext_getElem? fun j => by
  rcases Nat.lt_or_ge j i with h | h
  ·
   exact hi.2 j h
  ·
   rw [List.getElem?_eq_none (by omega), List.getElem?_eq_none (by omega)]
 rw [decide_eq_true e]
variable {ts : List Tm}
theorem Dj : MQ h1 h2 59 [bN ts] [] (Rows (.c (.rs 0 0 ts.length)) [gF ts]) := by
 refine bI (jB 23 h1 h2 Tryz.func59 Z Z Z fun O hF => ?_)
 have hl : ts.length ≤ L := by simpa [As.fact, A.fact, M.fact, D.fact, Ds.fact] using hF.1.1
 refine ah (js O Z (aV (js O Z (cu O Z (AOps.heap (ea O Z Z Z Z Z Z Z Z Z (by first | omega | (simp at *; omega)) (by first | omega | (simp at *; omega)) (by first | omega | (simp at *; omega)) (by first | omega | (dsimp only; omega) | (simp only [aT] at *; omega)) (by first | omega | (simp at *; omega)) Z Z Z) Z (js O Z (jn (ag (ah (js O Z (jn (ao (aq (X := Nat × List Tm) (fun x => ⟨[(0, bN ts), (3, .c (.rs 7 0 ts.length)), (4, eI x.1)], [(7, gF x.2)]⟩) (fun x => x.1 ≤ ts.length ∧ x.2.length = ts.length ∧ ∀ j, j < x.1 → x.2[j]? = ts[j]?) (fun x => ts.length - x.1) (0, List.replicate ts.length ⟨0, []⟩) ((Ent.rowLe 7 Z (NLess.replicate (.cons .refl (.cons (.nil (sz := 1)) .nil)))).trans (Ent.to ⟨Z, Z, Z, trivial⟩ (by simp [ins, fU, gF]))) ?_ (fun x hi => ?_))))))))))))))
 exact ⟨ct _, List.length_replicate, fun j hj => absurd hj (Nat.not_lt_zero j)⟩
 refine ag (ah (j2 O Z Z (cu O Z (js O Z (jn (ae O Z Z (fun hc11 => ?_) (fun hc11 => ?_)))))))
 try simp only [aT] at hc11
 refine aj (ag (ao (ak (j4 O Z Z Z Z (lz O Z Z (js O Z (bn O (B0 := 21000) Z Z Z Z (Dh h1 h2) (aa Z) Z Z Z Z Z Z (dk O Z Z (AOps.heap (mO (ex := (x.2.getD x.1 default).cells) (xs' := (x.2.set x.1 (ts.getD x.1 default)).map Tm.cells) O Z Z Z Z Z Z Z (.d Z (.rs Z (by simp) .nil)) Z Z Z Z Z Z (by simp [hi.2.1, show x.1 < ts.length by omega]) (by simp [List.map_set])) Z (jn (ak (js O Z (ji O Z (js O Z (jn ?_)))))))))))))))
 refine ⟨(x.1 + 1, x.2.set x.1 (ts.getD x.1 default)), Ent.to ⟨Z, Z, Z, trivial⟩ Z, ⟨by omega, by simp [hi.2.1], fun j hj => ?_⟩, by omega⟩
 rw [List.getElem?_set]
 split
 rename_i e; subst e; simp [hi.2.1, show x.1 < ts.length by omega]
 exact hi.2.2 j (by omega)
 try simp only [aT] at hc11
 refine aO (ah (j2 O Z Z (jr ?_)))
 have e : x.2 = ts := List.ext_getElem? fun j => by
  rcases Nat.lt_or_ge j x.1 with h | h
  ·
   exact hi.2.2 j h
  ·
   rw [List.getElem?_eq_none (by omega), List.getElem?_eq_none (by omega)]
 refine ⟨.inl Z, _, am, _, Z, [7], by decide, Z, Z, ?_⟩
 rw [← e]; rfl
structure Sm where
  kind : Int
  var : Int
  event : Int
  sum : Tm
  index : Tm
  facts : List Tm
  deriving Inhabited, DecidableEq
abbrev Sm.cells (s : Sm) : List D := [.int .i64 s.kind, .int .i64 s.var, .int .i64 s.event, .int .i64 s.sum.c, bj s.sum.xs, .int .i64 s.index.c, bj s.index.xs, dK s.facts]
abbrev A0 (s : Sm) : A := .agg (s.cells.map .d)
def Sm.size (s : Sm) : Nat := s.sum.size + s.index.size + szs Tm.size s.facts
theorem pQ {left : Int} (h : 0 ≤ left) (n : Nat) : gE left n ≤ left := by unfold gE; split <;> omega
theorem gt {left : Int} {a : Nat} (b : Nat) (h : 0 ≤ gE left a) : gE (gE left a) b = gE left (a + b) := by unfold gE at *; split at h <;> repeat' (first | omega | split)
theorem mY {left : Int} {a : Nat} (b : Nat) (h : gE left a < 0) : gE left (a + b) = -1 := by unfold gE at *; split at h <;> repeat' (first | omega | split)

theorem Eo {L : Nat} (h1 : 4096 ≤ L) (h2 : L ≤ 9223372036854775807) {s : Sm} {left : Int} (hl0 : 0 ≤ left) (hl1 : left ≤ 1048576) : MC Tryz.prog L 98 [A0 s, eI left] [] (Plain (eI (gE left s.size))) := by
 refine aA ?_ Z
 have O := pN (nt := 24) h1 h2
 refine MC.body O Tryz.func98 (by kernel_rfl) Z Z (Nat.le_of_ble_eq_true Z) (fun hF => ?_)
 refine ah (jx O Z (js O Z (aV (j3 O Z Z Z (ap O Z Z Z Z (Di (t := s.sum) h1 h2 hl0 hl1) (aa Z) Z Z Z Z Z (B0 := 9000) Z (js O Z (jn (ag (ah (j2 O Z Z (jn (ae O Z Z (fun hc10 => ?_) (fun hc10 => ?_)))))))))))))
 try simp only [aT] at hc10
 refine ah (js O Z (jr ?_))
 refine ⟨.inl Z, _, am, _, Z, ?_⟩
 unfold Sm.size
 rw [Nat.add_assoc, mY _ hc10]
 try simp only [aT] at hc10
 refine aj (ah (j3 O Z Z Z ?_))
 have le1 := pQ hl0 s.sum.size
 refine ap O Z Z Z Z (Di (t := s.index) h1 h2 hc10 (by omega)) (aa Z) Z Z Z Z Z (B0 := 15000) Z (js O Z (jn (ag (ah (j2 O Z Z (jn (ae O Z Z (fun hc16 => ?_) (fun hc16 => ?_))))))))
 try simp only [aT] at hc16
 refine ah (js O Z (jr ?_))
 refine ⟨.inl Z, _, am, _, Z, ?_⟩
 unfold Sm.size
 rw [gt _ hc10] at hc16
 rw [mY _ hc16]
 try simp only [aT] at hc16
 refine aj (ah (j3 O Z Z Z ?_))
 rw [gt _ hc10] at hc16 ⊢
 have le2 := pQ hl0 (s.sum.size + s.index.size)
 refine ap O Z Z Z Z (Dk (ts := s.facts) h1 h2 hc16 (by omega)) (aa Z) Z Z Z Z Z (B0 := 21000) Z (js O Z (jn (ag (ah (j2 O Z Z (jn (ae O Z Z (fun hc22 => ?_) (fun hc22 => ?_))))))))
 try simp only [aT] at hc22
 refine ah (js O Z (jr ?_))
 refine ⟨.inl Z, _, am, _, Z, ?_⟩
 rw [gt _ hc16] at hc22
 unfold gE at hc22 ⊢
 unfold Sm.size
 split at hc22
 rw [if_pos (by omega)]
 omega
 try simp only [aT] at hc22
 refine aj (ah (j2 O Z Z (jr ?_)))
 refine ⟨.inl Z, _, am, _, Z, ?_⟩
 rw [gt _ hc16]
 rfl
abbrev gj (ts : List Sm) : D := .slc 8 (ts.map Sm.cells)
abbrev kI (ts : List Sm) : B := .row true 8 (ts.map Sm.cells)
theorem c53 {L : Nat} (h1 : 4096 ≤ L) (h2 : L ≤ 9223372036854775807) {ts : List Sm} {left : Int} (hl0 : 0 ≤ left) (hl1 : left ≤ 1048576) : MC Tryz.prog L 56 [.c (.d (gj ts)), eI left] [] (Plain (eI (gE left (Al.szs Sm.size ts)))) := by
 refine aA ?_ Z
 have O := pN (nt := 27) h1 h2
 refine MC.body O Tryz.func56 (by kernel_rfl) Z Z (Nat.le_of_ble_eq_true Z) (fun hF => ?_)
 have hl : ts.length ≤ L := by simpa [As.fact, A.fact, M.fact, D.fact, Ds.fact] using hF.1.1
 refine ah (js O Z (aV (j2 O Z Z (cu O Z (ji O Z (js O Z (jn (ag (ah (j2 O Z Z (jn (ae O Z Z (fun hc11 => ?_) (fun hc11 => ?_)))))))))))))
 try simp only [aT] at hc11
 refine ah (js O Z (jr ?_))
 refine ⟨.inl Z, _, am, _, Z, ?_⟩
 rw [show gE left (Al.szs Sm.size ts) = -1 from if_pos (by unfold Al.szs; omega)]
 try simp only [aT] at hc11
 refine aj (ag (ah (js O Z (jn (ao (aq (X := Nat) (fun i => ⟨[(0, .c (.d (gj ts))), (1, eI (left - ts.length - ((ts.take i).map Sm.size).sum)), (5, eI i)], []⟩) (fun i => i ≤ ts.length ∧ (0 : Int) ≤ left - ts.length - ((ts.take i).map Sm.size).sum) (fun i => ts.length - i) 0 (Ent.env ⟨Z, by simp [aF], Z, trivial⟩) ?_ (fun i hi => ?_)))))))
 exact ⟨ct _, by simp; omega⟩
 refine ag (ah (j2 O Z Z (cu O Z (js O Z (jn (ae O Z Z (fun hc15 => ?_) (fun hc15 => ?_)))))))
 try simp only [aT] at hc15
 refine aj (ag (ao (ah (j2 O Z Z (lz O Z Z (j2 O Z Z (ap O Z Z Z Z (Eo h1 h2 hi.2 (by omega)) (aa Z) Z Z Z Z Z (B0 := 24000) Z (js O Z (aV (j2 O Z Z (jn (ae O Z Z (fun hc25 => ?_) (fun hc25 => ?_)))))))))))))
 try simp only [aT] at hc25
 refine ah (js O Z (jr ?_))
 refine ⟨.inl Z, _, am, _, Z, ?_⟩
 have e := kV Sm.size ts i (by omega)
 have e3 := vB Sm.size ts (i + 1)
 rw [Int.toNat_natCast] at hc25
 rw [show gE left (Al.szs Sm.size ts) = -1 from if_pos (by unfold gE at hc25; unfold Al.szs; split at hc25 <;> omega)]
 try simp only [aT] at hc25
 refine aj (ak (js O Z (ji O Z (js O Z (jn ?_)))))
 have e := kV Sm.size ts i (by omega)
 have e2 : gE (left - ts.length - ((ts.take i).map Sm.size).sum) (Sm.size (ts.getD i default)) = left - ts.length - ((ts.take (i + 1)).map Sm.size).sum := by
  unfold gE at hc25 ⊢
  rw [Int.toNat_natCast] at hc25
  split at hc25 <;> omega
 refine ⟨i + 1, Ent.env ⟨Z, ?_, Z, trivial⟩, ⟨by omega, ?_⟩, by omega⟩
 rw [← e2]; rfl
 rw [← e2]; rw [Int.toNat_natCast] at hc25; omega
 try simp only [aT] at hc15
 refine aO (ah (j2 O Z Z (jr ?_)))
 refine ⟨.inl Z, _, am, _, Z, ?_⟩
 obtain rfl : i = ts.length := by omega
 have e4 := hi.2
 rw [List.take_length] at e4 ⊢
 rw [show gE left (Al.szs Sm.size ts) = left - ts.length - (ts.map Sm.size).sum from by unfold gE Al.szs; rw [if_neg (by omega)]; omega]
structure Pm where
  pre : List Tm
  body : List Sm
  post : List Tm
  deriving Inhabited, DecidableEq
structure Sx where
  vars : List Int
  cells : List Int
  deriving Inhabited, DecidableEq
abbrev Pm.data (p : Pm) : List D := [dK p.pre, gj p.body, dK p.post]
abbrev aPm (p : Pm) : A := .agg (p.data.map .d)
theorem c8 {L : Nat} (h1 : 4096 ≤ L) (h2 : L ≤ 9223372036854775807) {p : Pm} {left : Int} (hl0 : 0 ≤ left) (hl1 : left ≤ 1048576) : MC Tryz.prog L 25 [aPm p, eI left] [] (Plain (eI (gE left (szs Tm.size p.pre + szs Sm.size p.body + szs Tm.size p.post)))) := by
 refine aA ?_ Z
 have O := pN (nt := 24) h1 h2
 refine MC.body O Tryz.func25 (by kernel_rfl) Z Z (Nat.le_of_ble_eq_true Z) (fun hF => ?_)
 refine ah (jx O Z (js O Z (aV (j3 O Z Z Z (ap O Z Z Z Z (Dk (ts := p.pre) h1 h2 hl0 hl1) (aa Z) Z Z Z Z Z (B0 := 9000) Z (js O Z (jn (ag (ah (j2 O Z Z (jn (ae O Z Z (fun hc10 => ?_) (fun hc10 => ?_)))))))))))))
 try simp only [aT] at hc10
 refine ah (js O Z (jr ?_))
 refine ⟨.inl Z, _, am, _, Z, ?_⟩
 rw [Nat.add_assoc, mY _ hc10]
 try simp only [aT] at hc10
 refine aj (ah (j3 O Z Z Z ?_))
 have le1 := pQ hl0 (szs Tm.size p.pre)
 refine ap O Z Z Z Z (c53 (ts := p.body) h1 h2 hc10 (by omega)) (aa Z) Z Z Z Z Z (B0 := 15000) Z (js O Z (jn (ag (ah (j2 O Z Z (jn (ae O Z Z (fun hc16 => ?_) (fun hc16 => ?_))))))))
 try simp only [aT] at hc16
 refine ah (js O Z (jr ?_))
 refine ⟨.inl Z, _, am, _, Z, ?_⟩
 rw [gt _ hc10] at hc16
 rw [mY _ hc16]
 try simp only [aT] at hc16
 refine aj (ah (j3 O Z Z Z ?_))
 rw [gt _ hc10] at hc16 ⊢
 have le2 := pQ hl0 (szs Tm.size p.pre + szs Sm.size p.body)
 refine ap O Z Z Z Z (Dk (ts := p.post) h1 h2 hc16 (by omega)) (aa Z) Z Z Z Z Z (B0 := 21000) Z (js O Z (jn (ag (ah (j2 O Z Z (jn (ae O Z Z (fun hc22 => ?_) (fun hc22 => ?_))))))))
 try simp only [aT] at hc22
 refine ah (js O Z (jr ?_))
 refine ⟨.inl Z, _, am, _, Z, ?_⟩
 rw [gt _ hc16] at hc22
 unfold gE at hc22 ⊢
 split at hc22
 rw [if_pos (by omega)]
 omega
 try simp only [aT] at hc22
 refine aj (ah (j2 O Z Z (jr ?_)))
 refine ⟨.inl Z, _, am, _, Z, ?_⟩
 rw [gt _ hc16]
theorem El {s : Sm} : MQ h1 h2 102 [A0 s] [] (Rows (.agg [.d (.int .i64 s.kind), .d (.int .i64 s.var), .d (.int .i64 s.event), .d (.int .i64 s.sum.c), .rs 0 0 s.sum.xs.length, .d (.int .i64 s.index.c), .rs 1 0 s.index.xs.length, .rs 2 0 s.facts.length]) [aX s.sum.xs, aX s.index.xs, gF s.facts]) := by
 refine bI (jB 26 h1 h2 Tryz.func102 Z Z Z fun O hF => ?_)
 refine ah (jx O Z (au ?_))
 refine jl O Z (au ?_)
 refine aV (jl O Z (au ?_))
 refine aV (j3 O Z Z Z (jo O Z (au ?_)))
 refine aV (j3 O Z Z Z (jo O Z (au ?_)))
 refine aV (j3 O Z Z Z (jo O Z (au ?_)))
 refine aV (j2 O Z Z (bn O (B0 := 16000) Z Z Z Z (Dh h1 h2) (aa Z) Z Z Z Z Z Z (au ?_)))
 refine js O Z (jo O Z (au ?_))
 refine aV (j2 O Z Z (bn O (B0 := 20000) Z Z Z Z (Dh h1 h2) (aa Z) Z Z Z Z Z Z (au ?_)))
 refine js O Z (jo O Z (au ?_))
 refine aV (j2 O Z Z (bn O (B0 := 24000) Z Z Z Z (Dj h1 h2) (aa Z) Z Z Z Z Z Z (au ?_)))
 refine js O Z (jo O Z (au ?_))
 refine aV (js O Z (jo O Z (au ?_)))
 refine jr ?_
 refine ⟨.inl Z, _, am, _, Z, [16000,20000,24000], by decide, Z, Z, Z⟩
theorem c60 {ts : List Sm} : MQ h1 h2 60 [.c (.d (gj ts))] [] (Rows (.c (.rs 0 0 ts.length)) [kI ts]) := by
 refine bI (jB 23 h1 h2 Tryz.func60 Z Z Z fun O hF => ?_)
 have hl : ts.length ≤ L := by simpa [As.fact, A.fact, M.fact, D.fact, Ds.fact] using hF.1.1
 refine ah (js O Z (aV (js O Z (cu O Z (AOps.heap (ea O Z Z Z Z Z Z Z Z Z (by first | omega | (simp at *; omega)) (by first | omega | (simp at *; omega)) (by first | omega | (simp at *; omega)) (by first | omega | (dsimp only; omega) | (simp only [aT] at *; omega)) (by first | omega | (simp at *; omega)) Z Z Z) Z (js O Z (jn (ag (ah (js O Z (jn (ao (aq (X := Nat × List Sm) (fun x => ⟨[(0, .c (.d (gj ts))), (3, .c (.rs 7 0 ts.length)), (4, eI x.1)], [(7, kI x.2)]⟩) (fun x => x.1 ≤ ts.length ∧ x.2.length = ts.length ∧ ∀ j, j < x.1 → x.2[j]? = ts[j]?) (fun x => ts.length - x.1) (0, List.replicate ts.length ⟨0, 0, 0, ⟨0, []⟩, ⟨0, []⟩, []⟩) ((Ent.rowLe 7 Z (NLess.replicate (.cons .refl (.cons .refl (.cons .refl (.cons .refl (.cons (.nil (sz := 1)) (.cons .refl (.cons (.nil (sz := 1)) (.cons (.nil (sz := 2)) .nil)))))))))).trans (Ent.to ⟨Z, Z, Z, trivial⟩ (by simp [ins, fU, kI]))) ?_ (fun x hi => ?_))))))))))))))
 exact ⟨ct _, List.length_replicate, fun j hj => absurd hj (Nat.not_lt_zero j)⟩
 refine ag (ah (j2 O Z Z (cu O Z (js O Z (jn (ae O Z Z (fun hc11 => ?_) (fun hc11 => ?_)))))))
 try simp only [aT] at hc11
 refine aj (ag (ao (ak (j4 O Z Z Z Z (lz O Z Z (js O Z (bn O (B0 := 21000) Z Z Z Z (El h1 h2) (aa Z) Z Z Z Z Z Z (dk O Z Z (AOps.heap (mO (ex := Sm.cells (x.2.getD x.1 default)) (xs' := (x.2.set x.1 (ts.getD x.1 default)).map Sm.cells) O Z Z Z Z Z Z Z (.d Z (.d Z (.d Z (.d Z (.rs Z (by simp) (.d Z (.rs Z (by simp) (.rs Z (by simp) .nil)))))))) Z Z Z Z Z Z (by simp [hi.2.1, show x.1 < ts.length by omega]) (by simp [List.map_set])) Z (jn (ak (js O Z (ji O Z (js O Z (jn ?_)))))))))))))))
 refine ⟨(x.1 + 1, x.2.set x.1 (ts.getD x.1 default)), Ent.to ⟨Z, Z, Z, trivial⟩ Z, ⟨by omega, by simp [hi.2.1], fun j hj => ?_⟩, by omega⟩
 rw [List.getElem?_set]
 split
 rename_i e; subst e; simp [hi.2.1, show x.1 < ts.length by omega]
 exact hi.2.2 j (by omega)
 try simp only [aT] at hc11
 refine aO (ah (j2 O Z Z (jr ?_)))
 have e : x.2 = ts := List.ext_getElem? fun j => by
  rcases Nat.lt_or_ge j x.1 with h | h
  ·
   exact hi.2.2 j h
  ·
   rw [List.getElem?_eq_none (by omega), List.getElem?_eq_none (by omega)]
 refine ⟨.inl Z, _, am, _, Z, [7], by decide, Z, Z, ?_⟩
 rw [← e]; rfl
theorem Dm {p : Pm} : MQ h1 h2 27 [aPm p] [] (Rows (.agg [.rs 0 0 p.pre.length, .rs 1 0 p.body.length, .rs 2 0 p.post.length]) [gF p.pre, kI p.body, gF p.post]) := by
 refine bI (jB 17 h1 h2 Tryz.func27 Z Z Z fun O hF => ?_)
 refine ah (jx O Z (au ?_))
 refine jl O Z (au ?_)
 refine aV (jl O Z (au ?_))
 refine aV (j2 O Z Z (bn O (B0 := 7000) Z Z Z Z (Dj h1 h2) (aa Z) Z Z Z Z Z Z (au ?_)))
 refine js O Z (jo O Z (au ?_))
 refine aV (j2 O Z Z (bn O (B0 := 11000) Z Z Z Z (c60 h1 h2) (aa Z) Z Z Z Z Z Z (au ?_)))
 refine js O Z (jo O Z (au ?_))
 refine aV (j2 O Z Z (bn O (B0 := 15000) Z Z Z Z (Dj h1 h2) (aa Z) Z Z Z Z Z Z (au ?_)))
 refine js O Z (jo O Z (au ?_))
 refine aV (js O Z (jo O Z (au ?_)))
 refine jr ?_
 refine ⟨.inl Z, _, am, _, Z, [7000,11000,15000], by decide, Z, Z, Z⟩
theorem Ek {s t : Sm} : MQ h1 h2 108 [A0 s, A0 t] [] (Plain (eB (decide (s = t)))) := by
 refine aA ?_ Z
 refine jB 38 h1 h2 Tryz.func108 Z Z Z fun O hF => ?_
 refine ah (jx O Z (jx O Z (js O Z (jn (ag (ah (j4 O Z Z Z Z (js O Z (jn (ae O Z Z (fun hc9 => ?_) (fun hc9 => ?_)))))))))))
 try simp only [aT] at hc9
 refine ah (js O Z (jr ?_))
 refine ⟨.inl Z, _, am, _, Z, ?_⟩
 rw [decide_eq_false (fun e => hc9 (by rw [e]))]
 try simp only [aT] at hc9
 refine aj (ag (ah (j4 O Z Z Z Z (js O Z (jn (ae O Z Z (fun hc14 => ?_) (fun hc14 => ?_)))))))
 try simp only [aT] at hc14
 refine ah (js O Z (jr ?_))
 refine ⟨.inl Z, _, am, _, Z, ?_⟩
 rw [decide_eq_false (fun e => hc14 (by rw [e]))]
 try simp only [aT] at hc14
 refine aj (ag (ah (j4 O Z Z Z Z (js O Z (jn (ae O Z Z (fun hc19 => ?_) (fun hc19 => ?_)))))))
 try simp only [aT] at hc19
 refine ah (js O Z (jr ?_))
 refine ⟨.inl Z, _, am, _, Z, ?_⟩
 rw [decide_eq_false (fun e => hc19 (by rw [e]))]
 try simp only [aT] at hc19
 refine aj (ag (ah (j4 O Z Z Z Z (ap O Z Z Z Z (C8 h1 h2) (aa Z) Z Z Z Z Z (B0 := 25000) Z (js O Z (jn (ae O Z Z (fun hc25 => ?_) (fun hc25 => ?_))))))))
 try simp only [aT] at hc25
 refine ah (js O Z (jr ?_))
 refine ⟨.inl Z, _, am, _, Z, ?_⟩
 rw [decide_eq_false (fun e => hc25 (by rw [e]))]
 try simp only [aT] at hc25
 refine aj (ag (ah (j4 O Z Z Z Z (ap O Z Z Z Z (C8 h1 h2) (aa Z) Z Z Z Z Z (B0 := 31000) Z (js O Z (jn (ae O Z Z (fun hc31 => ?_) (fun hc31 => ?_))))))))
 try simp only [aT] at hc31
 refine ah (js O Z (jr ?_))
 refine ⟨.inl Z, _, am, _, Z, ?_⟩
 rw [decide_eq_false (fun e => hc31 (by rw [e]))]
 try simp only [aT] at hc31
 refine aj (ag (ah (j4 O Z Z Z Z (ap O Z Z Z Z (Dl h1 h2) (aa Z) Z Z Z Z Z (B0 := 37000) Z (js O Z (jn (ae O Z Z (fun hc37 => ?_) (fun hc37 => ?_))))))))
 try simp only [aT] at hc37
 refine ah (js O Z (jr ?_))
 refine ⟨.inl Z, _, am, _, Z, ?_⟩
 rw [decide_eq_false (fun e => hc37 (by rw [e]))]
 try simp only [aT] at hc37
 refine aj (ah (js O Z (jr ?_)))
 refine ⟨.inl Z, _, am, _, Z, ?_⟩
 have e : s = t := by cases s; cases t; simp_all
 rw [decide_eq_true e]
theorem c63 {xs ys : List Sm} : MQ h1 h2 64 [.c (.d (gj xs)), .c (.d (gj ys))] [] (Plain (eB (decide (xs = ys)))) := by
 refine aA ?_ Z
 refine jB 27 h1 h2 Tryz.func64 Z Z Z fun O hF => ?_
 have hl : xs.length ≤ L := by simpa [As.fact, A.fact, M.fact, D.fact, Ds.fact] using hF.1.1
 have hl2 : ys.length ≤ L := by simpa [As.fact, A.fact, M.fact, D.fact, Ds.fact] using hF.2.1.1
 refine ah (js O Z (jn (ag (ah (js O Z (cu O Z (js O Z (cu O Z (js O Z (jn (ae O Z Z (fun hc10 => ?_) (fun hc10 => ?_))))))))))))
 try simp only [aT] at hc10
 refine ah (js O Z (jr ?_))
 refine ⟨.inl Z, _, am, _, Z, ?_⟩
 rw [decide_eq_false (fun e => by subst e; simp at hc10)]
 try simp only [aT] at hc10
 refine aj (ag (ah (js O Z (jn (ao (aq (X := Nat) (fun i => ⟨[(0, .c (.d (gj xs))), (1, .c (.d (gj ys))), (5, eI i)], []⟩) (fun i => i ≤ xs.length ∧ ∀ j, j < i → xs[j]? = ys[j]?) (fun i => xs.length - i) 0 (Ent.env ⟨Z, Z, Z, trivial⟩) ?_ (fun i hi => ?_)))))))
 exact ⟨ct _, fun j hj => absurd hj (Nat.not_lt_zero j)⟩
 refine ag (ah (j2 O Z Z (cu O Z (js O Z (jn (ae O Z Z (fun hc14 => ?_) (fun hc14 => ?_)))))))
 try simp only [aT] at hc14
 refine aj (ag (ao (ag (gL O [_,_,_,_,_,_,_,_,_,_] [pn [] 0 0, pn [] 0 0, pn [0,1] 0 0, pn [0,1,2] 0 0, pn [] 0 0, pn [] 0 0, pn [4,5] 0 0, pn [4,5,6] 0 0, pe (rg 0 8) 0, pn (rg 0 9) 1 1] [8] [_,_] (kc O Z (kc O Z (ai (vD O Z) (kc O Z (kc O Z (kc O Z (ai (vD O Z) (kc O Z (ai (bw O (B0 := 26000) Z Z Z Z (Ek h1 h2) (aa Z) Z Z Z Z Z) (kc O Z trivial)))))))))) ?_))))
 refine ae O Z Z (fun hc26 => ?_) (fun hc26 => ?_)
 try simp only [aT] at hc26
 refine ah (js O Z (jr ?_))
 refine ⟨.inl Z, _, am, _, Z, ?_⟩
 rw [decide_eq_false (fun e => by subst e; simp at hc26)]
 try simp only [aT] at hc26
 refine aj (ak (js O Z (ji O Z (js O Z (jn ?_)))))
 refine ⟨i + 1, Ent.env ⟨Z, Z, Z, trivial⟩, ⟨by omega, fun j hj => ?_⟩, by omega⟩
 rcases Nat.lt_or_ge j i with h | h
 exact hi.2 j h
 obtain rfl : j = i := by omega
 rw [Int.toNat_natCast, ax (by omega), ax (by omega)] at hc26
 rw [List.getElem?_eq_getElem (by omega), List.getElem?_eq_getElem (by omega), hc26]
 try simp only [aT] at hc14
 refine aO (ah (js O Z (jr ?_)))
 refine ⟨.inl Z, _, am, _, Z, ?_⟩
 have e : xs = ys := List.ext_getElem? fun j => by
  rcases Nat.lt_or_ge j i with h | h
  ·
   exact hi.2 j h
  ·
   rw [List.getElem?_eq_none (by omega), List.getElem?_eq_none (by omega)]
 rw [decide_eq_true e]
theorem EB {s t : Pm} : MQ h1 h2 30 [aPm s, aPm t] [] (Plain (eB (decide (s = t)))) := by
 refine aA ?_ Z
 refine jB 23 h1 h2 Tryz.func30 Z Z Z fun O hF => ?_
 refine ah (jx O Z (jx O Z (js O Z (jn (ag (ah (j4 O Z Z Z Z (ap O Z Z Z Z (Dl h1 h2) (aa Z) Z Z Z Z Z (B0 := 10000) Z (js O Z (jn (ae O Z Z (fun hc10 => ?_) (fun hc10 => ?_))))))))))))
 try simp only [aT] at hc10
 refine ah (js O Z (jr ?_))
 refine ⟨.inl Z, _, am, _, Z, ?_⟩
 rw [decide_eq_false (fun e => hc10 (by rw [e]))]
 try simp only [aT] at hc10
 refine aj (ag (ah (j4 O Z Z Z Z (ap O Z Z Z Z (c63 h1 h2) (aa Z) Z Z Z Z Z (B0 := 16000) Z (js O Z (jn (ae O Z Z (fun hc16 => ?_) (fun hc16 => ?_))))))))
 try simp only [aT] at hc16
 refine ah (js O Z (jr ?_))
 refine ⟨.inl Z, _, am, _, Z, ?_⟩
 rw [decide_eq_false (fun e => hc16 (by rw [e]))]
 try simp only [aT] at hc16
 refine aj (ag (ah (j4 O Z Z Z Z (ap O Z Z Z Z (Dl h1 h2) (aa Z) Z Z Z Z Z (B0 := 22000) Z (js O Z (jn (ae O Z Z (fun hc22 => ?_) (fun hc22 => ?_))))))))
 try simp only [aT] at hc22
 refine ah (js O Z (jr ?_))
 refine ⟨.inl Z, _, am, _, Z, ?_⟩
 rw [decide_eq_false (fun e => hc22 (by rw [e]))]
 try simp only [aT] at hc22
 refine aj (ah (js O Z (jr ?_)))
 refine ⟨.inl Z, _, am, _, Z, ?_⟩
 have e : s = t := by cases s; cases t; simp_all
 rw [decide_eq_true e]
def bb {α : Type} (f : Int → α → α) (sz : α → Nat) : Int → List α → List α
  | _, [] => []
  | k, a :: r => f k a :: bb f sz (k + sz a) r
def cn {α : Type} (sz : α → Nat) (l : List α) : Nat := (l.map sz).sum
def mk {α : Type} (f : Int → α → α) (sz : α → Nat) (k : Int) (i : Nat) (l : List α) : List α := bb f sz k (l.take i) ++ l.drop i
section
variable {α : Type} {f : Int → α → α} {sz : α → Nat}
theorem bq : ∀ {k : Int} {l : List α}, (bb f sz k l).length = l.length
 | _, [] => rfl
 | _, a :: r => by simp [bb, bq]
theorem gZ {k : Int} {i : Nat} {l : List α} : (mk f sz k i l).length = l.length := by
 simp [mk, bq]; omega
theorem kP {k : Int} {l : List α} : mk f sz k 0 l = l := by simp [mk, bb]
theorem nk {k : Int} {i : Nat} {l : List α} (h : l.length ≤ i) : mk f sz k i l = bb f sz k l := by
 simp [mk, List.take_of_length_le h, List.drop_of_length_le h]
theorem lL {k : Int} {i : Nat} {l : List α} (h : i < l.length) : (mk f sz k i l)[i]? = some l[i] := by
 rw [mk, List.getElem?_append_right (by simp [bq]; omega)]
 simp [bq, Nat.min_eq_left (Nat.le_of_lt h)]
theorem nU : ∀ {k : Int} {l : List α} {a : α}, bb f sz k (l ++ [a]) = bb f sz k l ++ [f (k + cn sz l) a]
 | k, [], a => by simp [bb, cn]
 | k, b :: r, a => by
  have : k + (sz b : Int) + (cn sz r : Int) = k + (cn sz (b :: r) : Int) := by simp [cn]; omega
  simp [bb, nU, this]
theorem gU {l : List α} {i : Nat} (h : i < l.length) : cn sz (l.take (i + 1)) = cn sz (l.take i) + sz l[i] := by
 rw [List.take_succ_eq_append_getElem h]
 simp only [cn, List.map_append, List.sum_append, List.map_cons, List.map_nil, List.sum_cons, List.sum_nil]; omega
theorem lP {l : List α} {i : Nat} : cn sz (l.take i) ≤ cn sz l := by
 have : cn sz l = cn sz (l.take i) + cn sz (l.drop i) := by rw [cn, cn, cn, ← List.sum_append, ← List.map_append, List.take_append_drop]
 omega
theorem jG {k : Int} {i : Nat} {l : List α} (h : i < l.length) : (mk f sz k i l).set i (f (k + cn sz (l.take i)) l[i]) = mk f sz k (i + 1) l := by
 have h1 : (bb f sz k (l.take i)).length = i := by rw [bq, List.length_take]; omega
 rw [mk, List.set_append_right _ _ (by omega), h1, Nat.sub_self, mk, List.take_succ_eq_append_getElem h, nU, List.drop_eq_getElem_cons h, List.set_cons_zero]
 simp only [eP, List.singleton_append]
end
abbrev mI : Int → Int → Int := fun k _ => k
abbrev cv : Int → Nat := fun _ => 1
theorem rD {l : List Int} : cn cv l = l.length := by
 induction l with
 | nil => rfl
 | cons a r ih =>
  have : cv a = 1 := rfl
  simp only [cn, List.map_cons, List.sum_cons, dL] at ih ⊢; omega
theorem oW {k : Int} {xs : List Int} {j : Nat} (h : j < xs.length) : (bb mI cv k xs)[j]? = some (k + j) := by
 have h1 := lL (f := mI) (sz := cv) (k := k) (l := xs) h
 have h2 := jG (f := mI) (sz := cv) (k := k) (l := xs) h
 have h3 : (mk mI cv k (j + 1) xs)[j]? = some (k + j) := by
  rw [← h2, List.getElem?_set]
  have e : cn cv (xs.take j) = j := by rw [rD, List.length_take]; omega
  simp [gZ, h, e]
 have h4 : (mk mI cv k (j + 1) xs)[j]? = (bb mI cv k (xs.take (j + 1)))[j]? := by
  rw [mk, List.getElem?_append_left (by rw [bq, List.length_take]; omega)]
 have key : ∀ {k : Int} {l : List Int} {n j : Nat}, j < n → (bb mI cv k (l.take n))[j]? = (bb mI cv k l)[j]? := by
  intro k l
  induction l generalizing k with
  | nil => intro n j _; simp
  | cons a r ih =>
   intro n j hj
   cases n with
   | zero => omega
   | succ n =>
    cases j with
    | zero => simp [bb]
    | succ j => simp only [List.take_succ_cons, bb, List.getElem?_cons_succ]; exact ih (by omega)
 rw [← key (Nat.lt_succ_self j), ← h4, h3]
abbrev mT : Int → Tm → Tm := fun k t => ⟨k, bb mI cv (k + 1) t.xs⟩
abbrev nT : Tm → Nat := fun t => 1 + t.xs.length
abbrev mS : Int → Sm → Sm := fun k s =>
  ⟨k, k + 1, k + 1 + 1, ⟨k + 1 + 1 + 1, bb mI cv (k + 1 + 1 + 1 + 1) s.sum.xs⟩, ⟨k + 1 + 1 + 1 + 1 + s.sum.xs.length, bb mI cv (k + 1 + 1 + 1 + 1 + s.sum.xs.length + 1) s.index.xs⟩, bb mT nT (k + 1 + 1 + 1 + 1 + s.sum.xs.length + 1 + s.index.xs.length) s.facts⟩
abbrev nS : Sm → Nat := fun s => 5 + s.sum.xs.length + s.index.xs.length + cn nT s.facts

variable {k : Int}
theorem w5 (hk0 : 0 ≤ k) (hk1 : k ≤ 1073741824) : MQ h1 h2 109 [.c (.rs 0 0 xs.length), eI k] [(0, aX xs)] (bc (eI (k + xs.length)) [(0, aX (bb mI cv k xs))]) := by
 refine jH 19 [0] h1 h2 Tryz.func109 Z Z Z Z fun O hF => ?_
 refine hJ 0 Z (fun hB => ?_)
 have hl : xs.length ≤ L := by simpa [B.fact] using hB.1
 refine ah (js O Z (jn (ag (ah (js O Z (jn (ao (aq (X := Nat) (fun i => ⟨[(0, .c (.rs 0 0 xs.length)), (1, eI (k + i)), (5, eI i)], [(0, aX (mk mI cv k i xs))]⟩) (fun i => i ≤ xs.length) (fun i => xs.length - i) 0 (Ent.to ⟨Z, by simp [cg, aF], Z, trivial⟩ (by simp [kP])) ?_ (fun i hi => ?_)))))))))
 exact ct _
 refine ag (ah (j2 O Z Z (dk O Z Z (js O Z (jn (ae O Z Z (fun hc9 => ?_) (fun hc9 => ?_)))))))
 try simp only [aT] at hc9
 refine aj (ag (ao (ah (j3 O Z Z Z (dk O Z Z (AOps.heap (bg (ex := [.int .i64 (xs.getD i default)]) (xs' := (mk mI cv k (i + 1) xs).map fun n => [.int .i64 n]) O Z Z Z Z Z Z Z Z Z Z Z Z Z Z (by simp [lL (f := mI) (sz := cv) (k := k) (show i < xs.length by omega), show i < xs.length by omega]) (by rw [← jG (show i < xs.length by omega), rD, List.length_take, Nat.min_eq_left hi]; simp [List.map_set])) Z (jn (ak (js O Z (ji O Z (js O Z (jn (ak (js O Z (ji O Z (js O Z (jn ?_)))))))))))))))))
 refine ⟨i + 1, Ent.to ⟨Z, ?_, Z, trivial⟩ Z, by omega, by omega⟩
 show some (eI (k + i + 1)) = some (eI (k + (i + 1 : Nat)))
 rw [Int.natCast_add, ← Int.add_assoc]; rfl
 try simp only [aT] at hc9
 refine aO (ah (j2 O Z Z (jr ?_)))
 refine ⟨.inl Z, _, am, _, Z, ?_⟩
 obtain rfl : i = xs.length := by omega
 rw [nk (cC _)]
 exact ⟨Z, Z⟩
theorem Ez (hk0 : 0 ≤ k) (hk1 : k ≤ 1073741824) : MQ h1 h2 110 [bH xs, eI k] [] (Plain (eI (if xs = bb mI cv k xs then k + xs.length else -1))) := by
 refine aA ?_ Z
 refine jB 21 h1 h2 Tryz.func110 Z Z Z fun O hF => ?_
 have hl : xs.length ≤ L := by simpa [As.fact, A.fact, M.fact, D.fact, Ds.fact] using hF.1.1
 refine ah (js O Z (jn (ag (ah (js O Z (jn (ao (aq (X := Nat) (fun i => ⟨[(0, bH xs), (1, eI (k + i)), (5, eI i)], []⟩) (fun i => i ≤ xs.length ∧ ∀ j, j < i → xs[j]? = some (k + j)) (fun i => xs.length - i) 0 (Ent.env ⟨Z, by simp [cg, aF], Z, trivial⟩) ?_ (fun i hi => ?_)))))))))
 exact ⟨ct _, fun j hj => absurd hj (Nat.not_lt_zero j)⟩
 refine ag (ah (j2 O Z Z (cu O Z (js O Z (jn (ae O Z Z (fun hc9 => ?_) (fun hc9 => ?_)))))))
 try simp only [aT] at hc9
 refine aj (ag (ao (ag (ah (j2 O Z Z (lz O Z Z (j3 O Z Z Z (jn (ae O Z Z (fun hc17 => ?_) (fun hc17 => ?_))))))))))
 try simp only [aT] at hc17
 refine ah (js O Z (jr ?_))
 refine ⟨.inl Z, _, am, _, Z, ?_⟩
 rw [if_neg (fun e => hc17 ?_)]
 have h1 := oW (k := k) (show i < xs.length by omega)
 rw [← e, List.getElem?_eq_getElem (by omega)] at h1
 rw [Int.toNat_natCast, ax (by omega)]; simpa using h1
 try simp only [aT] at hc17
 refine aj (ak (js O Z (ji O Z (js O Z (jn (ak (js O Z (ji O Z (js O Z (jn ?_))))))))))
 refine ⟨i + 1, Ent.env ⟨Z, ?_, Z, trivial⟩, ⟨by omega, fun j hj => ?_⟩, by omega⟩
 show some (eI (k + i + 1)) = some (eI (k + (i + 1 : Nat)))
 rw [Int.natCast_add, ← Int.add_assoc]; rfl
 rcases Nat.lt_or_ge j i with h | h
 exact hi.2 j h
 obtain rfl : j = i := by omega
 rw [Int.toNat_natCast, ax (by omega)] at hc17
 rw [List.getElem?_eq_getElem (by omega)]; simpa using hc17
 try simp only [aT] at hc9
 refine aO (ah (j2 O Z Z (jr ?_)))
 refine ⟨.inl Z, _, am, _, Z, ?_⟩
 obtain rfl : i = xs.length := by omega
 rw [if_pos (List.ext_getElem? fun j => ?_)]
 rcases Nat.lt_or_ge j xs.length with h | h
 rw [oW h]; exact hi.2 j h
 rw [List.getElem?_eq_none (by omega), List.getElem?_eq_none (by rw [bq]; omega)]

theorem u9 : MQ h1 h2 109 [.c (.d (bj [])), eI k] [] (Plain (eI k)) := by
 refine aA ?_ Z
 refine jB 19 h1 h2 Tryz.func109 Z Z Z fun O hF => ?_
 refine ah (js O Z (jn (ag (ah (js O Z (jn (ao (aq (X := Nat) (fun i => ⟨[(0, .c (.d (bj []))), (1, eI k), (5, eI 0)], []⟩) (fun i => True) (fun i => 0) 0 (Ent.env ⟨Z, Z, Z, trivial⟩) ?_ (fun i hi => ?_)))))))))
 trivial
 refine ag (ah (j2 O Z Z (cu O Z (js O Z (jn (ae O Z Z (fun hc9 => ?_) (fun hc9 => ?_)))))))
 try simp only [aT] at hc9
 exact absurd hc9 (by simp)
 try simp only [aT] at hc9
 refine aO (ah (j2 O Z Z (jr ?_)))
 refine ⟨.inl Z, _, am, _, Z, ?_⟩
 first | rfl | skip
theorem D1 : MQ h1 h2 65 [.c (.d (dK [])), eI k] [] (Plain (eI k)) := by
 refine aA ?_ Z
 refine jB 27 h1 h2 Tryz.func65 Z Z Z fun O hF => ?_
 refine ah (js O Z (jn (ag (ah (js O Z (jn (ao (aq (X := Nat) (fun i => ⟨[(0, .c (.d (dK []))), (1, eI k), (5, eI 0)], []⟩) (fun i => True) (fun i => 0) 0 (Ent.env ⟨Z, Z, Z, trivial⟩) ?_ (fun i hi => ?_)))))))))
 trivial
 refine ag (ah (j2 O Z Z (cu O Z (js O Z (jn (ae O Z Z (fun hc9 => ?_) (fun hc9 => ?_)))))))
 try simp only [aT] at hc9
 exact absurd hc9 (by simp)
 try simp only [aT] at hc9
 refine aO (ah (j2 O Z Z (jr ?_)))
 refine ⟨.inl Z, _, am, _, Z, ?_⟩
 first | rfl | skip
theorem C9 (hk0 : 0 ≤ k) (hk1 : k + cn nT ts ≤ 1073741824) : MQ h1 h2 65 [.c (.rs 0 0 ts.length), eI k] [(0, gF ts)] (bc (eI (k + cn nT ts)) [(0, gF (bb mT nT k ts))]) := by
 refine jH 27 [0] h1 h2 Tryz.func65 Z Z Z Z fun O hF => ?_
 refine hJ 0 Z (fun hB => ?_)
 have hl : ts.length ≤ L := by simpa [B.fact] using hB.1
 refine ah (js O Z (jn (ag (ah (js O Z (jn (ao (aq (X := Nat) (fun i => ⟨[(0, .c (.rs 0 0 ts.length)), (1, eI (k + cn nT (ts.take i))), (5, eI i)], [(0, gF (mk mT nT k i ts))]⟩) (fun i => i ≤ ts.length) (fun i => ts.length - i) 0 (Ent.to ⟨Z, by simp [cg, aF, cn], Z, trivial⟩ (by simp [kP])) ?_ (fun i hi => ?_)))))))))
 exact ct _
 refine ag (ah (j2 O Z Z (dk O Z Z (js O Z (jn (ae O Z Z (fun hc9 => ?_) (fun hc9 => ?_)))))))
 try simp only [aT] at hc9
 refine aj (ag (ao (ah (j3 O Z Z Z (dk O Z Z (js O Z ?_))))))
 have hcs := gU (sz := nT) (show i < ts.length by omega)
 have hcl := lP (sz := nT) (l := ts) (i := i + 1)
 have hg := lL (f := mT) (sz := nT) (k := k) (show i < ts.length by omega)
 have hs := jG (f := mT) (sz := nT) (k := k) (show i < ts.length by omega)
 rw [← ax (show i < ts.length by omega)] at hcs hg hs
 obtain ⟨t, ht⟩ : ∃ t, t = ts.getD i default := ⟨_, rfl⟩
 rw [← ht] at hcs hg hs
 simp only [nT] at hcs
 have hgl : i < (mk mT nT k i ts).length := by rw [gZ]; omega
 refine AOps.heap (bg (ex := Tm.cells t) (xs' := ((mk mT nT k i ts).set i ⟨k + cn nT (ts.take i), t.xs⟩).map Tm.cells) O Z Z Z Z Z Z Z Z Z Z Z Z Z Z (by simp [hg]) (by rw [List.map_set]; simp)) Z (aV (js O Z (ji O Z (js O Z (jn (ak (j2 O Z Z (dk O Z Z (js O Z (ac (aS O (ex := Tm.cells ⟨k + cn nT (ts.take i), t.xs⟩) Z Z Z Z (by simp [hgl]) Z) Z Z Z (js O Z (ej O (l := 0) (j := 1) (z := 1) (ex := Tm.cells ⟨k + cn nT (ts.take i), t.xs⟩) (ys := (t.xs).map (fun n => [D.int .i64 n])) (ys' := (bb mI cv (k + cn nT (ts.take i) + 1) t.xs).map (fun n => [D.int .i64 n])) (xs' := (mk mT nT k (i + 1) ts).map Tm.cells) Z Z Z Z (.rp (.d Z .nil)) (.rp (.d Z .nil)) Z (by simp [hgl]) Z (w5 (xs := t.xs) (k := (k + cn nT (ts.take i) + 1)) h1 h2 (by omega) (by omega)).1 (fun _ => by rw [bz]; exact w5 (xs := t.xs) h1 h2 (by omega) (by omega)) (fun hys => ?_) Z (by simp [bq]) Z Z Z Z (by rw [← hs]; simp [List.map_set]) ?_))))))))))))
 have hy : t.xs = [] := by simpa using hys
 rw [hy]
 exact (u9 h1 h2 (k := (k + cn nT (ts.take i) + 1))).plain (by simp [cn, hy])
 refine js O Z (jn (ak (js O Z (ji O Z (js O Z (jn ?_))))))
 refine ⟨i + 1, Ent.to ⟨Z, ?_, Z, trivial⟩ Z, by omega, by omega⟩
 rw [hcs]
 exact congrArg (fun z => some (eI z)) (by omega)
 try simp only [aT] at hc9
 refine aO (ah (j2 O Z Z (jr ?_)))
 refine ⟨.inl Z, _, am, _, Z, ?_⟩
 obtain rfl : i = ts.length := by omega
 rw [nk (cC _), List.take_length]
 exact ⟨Z, Z⟩
theorem c64 {ts : List Sm} (hk0 : 0 ≤ k) (hk1 : k + cn nS ts ≤ 1073741824) : MQ h1 h2 66 [.c (.rs 0 0 ts.length), eI k] [(0, kI ts)] (bc (eI (k + cn nS ts)) [(0, kI (bb mS nS k ts))]) := by
 refine jH 73 [0] h1 h2 Tryz.func66 Z Z Z Z fun O hF => ?_
 refine hJ 0 Z (fun hB => ?_)
 have hl : ts.length ≤ L := by simpa [B.fact] using hB.1
 refine ah (js O Z (jn (ag (ah (js O Z (jn (ao (aq (X := Nat) (fun i => ⟨[(0, .c (.rs 0 0 ts.length)), (1, eI (k + cn nS (ts.take i))), (5, eI i)], [(0, kI (mk mS nS k i ts))]⟩) (fun i => i ≤ ts.length) (fun i => ts.length - i) 0 (Ent.to ⟨Z, by simp [cg, aF, cn], Z, trivial⟩ (by simp [kP])) ?_ (fun i hi => ?_)))))))))
 exact ct _
 refine ag (ah (j2 O Z Z (dk O Z Z (js O Z (jf [9,0,1,5] Z (jn (ae O Z Z (fun hc9 => ?_) (fun hc9 => ?_))))))))
 try simp only [aT] at hc9
 refine aj (ag (ao (ah (j3 O Z Z Z (dk O Z Z (js O Z (jf [16,14,9,0,1,5] Z ?_)))))))
 obtain ⟨K, hK⟩ : ∃ K, K = k + (cn nS (ts.take i) : Int) := ⟨_, rfl⟩
 rw [← hK]
 have hcs := gU (sz := nS) (show i < ts.length by omega)
 have hcl := lP (sz := nS) (l := ts) (i := i + 1)
 have hg := lL (f := mS) (sz := nS) (k := k) (show i < ts.length by omega)
 have hs := jG (f := mS) (sz := nS) (k := k) (show i < ts.length by omega)
 rw [← ax (show i < ts.length by omega)] at hcs hg hs
 obtain ⟨t, ht⟩ : ∃ t, t = ts.getD i default := ⟨_, rfl⟩
 rw [← ht] at hcs hg hs
 rw [← hK] at hs
 simp only [nS] at hcs
 have hb : K + (5 + t.sum.xs.length + t.index.xs.length + cn nT t.facts : Nat) ≤ 1073741824 := by omega
 obtain ⟨R, hR⟩ : ∃ R, R = (mk mS nS k i ts).map Sm.cells := ⟨_, rfl⟩
 have hRl : i < R.length := by rw [hR, bz, gZ]; omega
 have hRi : R[i]? = some t.cells := by rw [hR, List.getElem?_map, hg]; rfl
 have hRn : R.set i (mS K t).cells = (mk mS nS k (i + 1) ts).map Sm.cells := by rw [hR, ← hs, List.map_set]
 have e0 : kI (mk mS nS k i ts) = .row true 8 (R.set i t.cells) := by rw [jR hRi, hR]
 rw [e0]
 refine AOps.heap (bg (ex := [.int .i64 (t.kind), .int .i64 (t.var), .int .i64 (t.event), .int .i64 (t.sum.c), bj (t.sum.xs), .int .i64 (t.index.c), bj (t.index.xs), dK (t.facts)]) (xs' := R.set i [.int .i64 (K), .int .i64 (t.var), .int .i64 (t.event), .int .i64 (t.sum.c), bj (t.sum.xs), .int .i64 (t.index.c), bj (t.index.xs), dK (t.facts)]) O Z Z Z Z Z Z Z Z Z Z Z Z Z Z (by simp [hRl]) (by simp)) Z (au ?_)
 refine jf [9,0,1,5] Z (aV (js O Z (ji O Z (js O Z (jf [1,9,0,5] Z (aV (j3 O Z Z Z (dk O Z Z (js O Z (jf [23,21,1,9,0,5] Z (AOps.heap (bg (ex := [.int .i64 (K), .int .i64 (t.var), .int .i64 (t.event), .int .i64 (t.sum.c), bj (t.sum.xs), .int .i64 (t.index.c), bj (t.index.xs), dK (t.facts)]) (xs' := R.set i [.int .i64 (K), .int .i64 (K + 1), .int .i64 (t.event), .int .i64 (t.sum.c), bj (t.sum.xs), .int .i64 (t.index.c), bj (t.index.xs), dK (t.facts)]) O Z Z Z Z Z Z Z Z Z Z Z Z Z Z (by simp [hRl]) (by simp)) Z (au ?_))))))))))))
 refine jf [1,9,0,5] Z (aV (js O Z (ji O Z (js O Z (jf [1,9,0,5] Z (aV (j3 O Z Z Z (dk O Z Z (js O Z (jf [30,28,1,9,0,5] Z (AOps.heap (bg (ex := [.int .i64 (K), .int .i64 (K + 1), .int .i64 (t.event), .int .i64 (t.sum.c), bj (t.sum.xs), .int .i64 (t.index.c), bj (t.index.xs), dK (t.facts)]) (xs' := R.set i [.int .i64 (K), .int .i64 (K + 1), .int .i64 (K + 1 + 1), .int .i64 (t.sum.c), bj (t.sum.xs), .int .i64 (t.index.c), bj (t.index.xs), dK (t.facts)]) O Z Z Z Z Z Z Z Z Z Z Z Z Z Z (by simp [hRl]) (by simp)) Z (au ?_))))))))))))
 refine jf [1,9,0,5] Z (aV (js O Z (ji O Z (js O Z (jf [1,9,0,5] Z (aV (j3 O Z Z Z (dk O Z Z (j2 O Z Z (jf [38,35,1,9,0,5] Z (AOps.heap (bg (ex := [.int .i64 (K), .int .i64 (K + 1), .int .i64 (K + 1 + 1), .int .i64 (t.sum.c), bj (t.sum.xs), .int .i64 (t.index.c), bj (t.index.xs), dK (t.facts)]) (xs' := R.set i [.int .i64 (K), .int .i64 (K + 1), .int .i64 (K + 1 + 1), .int .i64 (K + 1 + 1 + 1), bj (t.sum.xs), .int .i64 (t.index.c), bj (t.index.xs), dK (t.facts)]) O Z Z Z Z Z Z Z Z Z Z Z Z Z Z (by simp [hRl]) (by simp)) Z (au ?_))))))))))))
 refine jf [1,9,0,5] Z (aV (js O Z (ji O Z (js O Z (jf [1,9,0,5] Z (aV (j2 O Z Z (dk O Z Z (j2 O Z Z (ac (aS O (ex := [.int .i64 (K), .int .i64 (K + 1), .int .i64 (K + 1 + 1), .int .i64 (K + 1 + 1 + 1), bj (t.sum.xs), .int .i64 (t.index.c), bj (t.index.xs), dK (t.facts)]) Z Z Z Z (by simp [hRl]) Z) Z Z Z (js O Z (jf [47,46,1,9,0,5] Z (ej O (l := 0) (j := 4) (z := 1) (ex := [.int .i64 (K), .int .i64 (K + 1), .int .i64 (K + 1 + 1), .int .i64 (K + 1 + 1 + 1), bj (t.sum.xs), .int .i64 (t.index.c), bj (t.index.xs), dK (t.facts)]) (ys := (t.sum.xs).map (fun n => [D.int .i64 n])) (ys' := (bb mI cv (K + 1 + 1 + 1 + 1) t.sum.xs).map (fun n => [D.int .i64 n])) (xs' := R.set i [.int .i64 (K), .int .i64 (K + 1), .int .i64 (K + 1 + 1), .int .i64 (K + 1 + 1 + 1), bj (bb mI cv (K + 1 + 1 + 1 + 1) t.sum.xs), .int .i64 (t.index.c), bj (t.index.xs), dK (t.facts)]) Z Z Z Z (.rp (.d Z .nil)) (.rp (.d Z .nil)) Z (by simp [hRl]) Z (w5 (xs := t.sum.xs) (k := (K + 1 + 1 + 1 + 1)) h1 h2 (by omega) (by omega)).1 (fun _ => by rw [bz]; exact w5 (xs := t.sum.xs) h1 h2 (by omega) (by omega)) (fun hys => ?_) Z (by simp [bq]) Z Z Z Z (by simp) ?_)))))))))))))
 have hy : t.sum.xs = [] := by simpa using hys
 rw [hy]
 exact (u9 h1 h2 (k := (K + 1 + 1 + 1 + 1))).plain (by simp [cn, hy])
 refine au ?_
 refine js O Z (jf [1,9,0,5] Z (aV (j3 O Z Z Z (dk O Z Z (j2 O Z Z (jf [54,51,1,9,0,5] Z (AOps.heap (bg (ex := [.int .i64 (K), .int .i64 (K + 1), .int .i64 (K + 1 + 1), .int .i64 (K + 1 + 1 + 1), bj (bb mI cv (K + 1 + 1 + 1 + 1) t.sum.xs), .int .i64 (t.index.c), bj (t.index.xs), dK (t.facts)]) (xs' := R.set i [.int .i64 (K), .int .i64 (K + 1), .int .i64 (K + 1 + 1), .int .i64 (K + 1 + 1 + 1), bj (bb mI cv (K + 1 + 1 + 1 + 1) t.sum.xs), .int .i64 (K + 1 + 1 + 1 + 1 + t.sum.xs.length), bj (t.index.xs), dK (t.facts)]) O Z Z Z Z Z Z Z Z Z Z Z Z Z Z (by simp [hRl]) (by simp)) Z (au ?_))))))))
 refine jf [1,9,0,5] Z (aV (js O Z (ji O Z (js O Z (jf [1,9,0,5] Z (aV (j2 O Z Z (dk O Z Z (j2 O Z Z (ac (aS O (ex := [.int .i64 (K), .int .i64 (K + 1), .int .i64 (K + 1 + 1), .int .i64 (K + 1 + 1 + 1), bj (bb mI cv (K + 1 + 1 + 1 + 1) t.sum.xs), .int .i64 (K + 1 + 1 + 1 + 1 + t.sum.xs.length), bj (t.index.xs), dK (t.facts)]) Z Z Z Z (by simp [hRl]) Z) Z Z Z (js O Z (jf [63,62,1,9,0,5] Z (ej O (l := 0) (j := 6) (z := 1) (ex := [.int .i64 (K), .int .i64 (K + 1), .int .i64 (K + 1 + 1), .int .i64 (K + 1 + 1 + 1), bj (bb mI cv (K + 1 + 1 + 1 + 1) t.sum.xs), .int .i64 (K + 1 + 1 + 1 + 1 + t.sum.xs.length), bj (t.index.xs), dK (t.facts)]) (ys := (t.index.xs).map (fun n => [D.int .i64 n])) (ys' := (bb mI cv (K + 1 + 1 + 1 + 1 + t.sum.xs.length + 1) t.index.xs).map (fun n => [D.int .i64 n])) (xs' := R.set i [.int .i64 (K), .int .i64 (K + 1), .int .i64 (K + 1 + 1), .int .i64 (K + 1 + 1 + 1), bj (bb mI cv (K + 1 + 1 + 1 + 1) t.sum.xs), .int .i64 (K + 1 + 1 + 1 + 1 + t.sum.xs.length), bj (bb mI cv (K + 1 + 1 + 1 + 1 + t.sum.xs.length + 1) t.index.xs), dK (t.facts)]) Z Z Z Z (.rp (.d Z .nil)) (.rp (.d Z .nil)) Z (by simp [hRl]) Z (w5 (xs := t.index.xs) (k := (K + 1 + 1 + 1 + 1 + t.sum.xs.length + 1)) h1 h2 (by omega) (by omega)).1 (fun _ => by rw [bz]; exact w5 (xs := t.index.xs) h1 h2 (by omega) (by omega)) (fun hys => ?_) Z (by simp [bq]) Z Z Z Z (by simp) ?_)))))))))))))
 have hy : t.index.xs = [] := by simpa using hys
 rw [hy]
 exact (u9 h1 h2 (k := (K + 1 + 1 + 1 + 1 + t.sum.xs.length + 1))).plain (by simp [cn, hy])
 refine au ?_
 refine js O Z (jf [1,9,0,5] Z (jn (ak (j2 O Z Z (dk O Z Z (js O Z (ac (aS O (ex := [.int .i64 (K), .int .i64 (K + 1), .int .i64 (K + 1 + 1), .int .i64 (K + 1 + 1 + 1), bj (bb mI cv (K + 1 + 1 + 1 + 1) t.sum.xs), .int .i64 (K + 1 + 1 + 1 + 1 + t.sum.xs.length), bj (bb mI cv (K + 1 + 1 + 1 + 1 + t.sum.xs.length + 1) t.index.xs), dK (t.facts)]) Z Z Z Z (by simp [hRl]) Z) Z Z Z (js O Z (jf [70,69,1,9,0,5] Z (ej O (l := 0) (j := 7) (z := 2) (ex := [.int .i64 (K), .int .i64 (K + 1), .int .i64 (K + 1 + 1), .int .i64 (K + 1 + 1 + 1), bj (bb mI cv (K + 1 + 1 + 1 + 1) t.sum.xs), .int .i64 (K + 1 + 1 + 1 + 1 + t.sum.xs.length), bj (bb mI cv (K + 1 + 1 + 1 + 1 + t.sum.xs.length + 1) t.index.xs), dK (t.facts)]) (ys := (t.facts).map Tm.cells) (ys' := (bb mT nT (K + 1 + 1 + 1 + 1 + t.sum.xs.length + 1 + t.index.xs.length) t.facts).map Tm.cells) (xs' := R.set i [.int .i64 (K), .int .i64 (K + 1), .int .i64 (K + 1 + 1), .int .i64 (K + 1 + 1 + 1), bj (bb mI cv (K + 1 + 1 + 1 + 1) t.sum.xs), .int .i64 (K + 1 + 1 + 1 + 1 + t.sum.xs.length), bj (bb mI cv (K + 1 + 1 + 1 + 1 + t.sum.xs.length + 1) t.index.xs), dK (bb mT nT (K + 1 + 1 + 1 + 1 + t.sum.xs.length + 1 + t.index.xs.length) t.facts)]) Z Z Z Z (.rp (.d Z .nil)) (.rp (.d Z .nil)) Z (by simp [hRl]) Z (C9 (ts := t.facts) (k := (K + 1 + 1 + 1 + 1 + t.sum.xs.length + 1 + t.index.xs.length)) h1 h2 (by omega) (by omega)).1 (fun _ => by rw [bz]; exact C9 (ts := t.facts) h1 h2 (by omega) (by omega)) (fun hys => ?_) Z (by simp [bq]) Z Z Z Z (by simp) ?_))))))))))
 have hy : t.facts = [] := by simpa using hys
 rw [hy]
 exact (D1 h1 h2 (k := (K + 1 + 1 + 1 + 1 + t.sum.xs.length + 1 + t.index.xs.length))).plain (by simp [cn, hy])
 refine au ?_
 refine js O Z (jf [1,9,0,5] Z (jn (ak (js O Z (ji O Z (js O Z (jf [5,1,9,0] Z (jn ?_))))))))
 refine ⟨i + 1, Ent.to ⟨Z, ?_, Z, trivial⟩ (by rw [kI, ← hRn]), by omega, by omega⟩
 rw [hcs]
 exact congrArg (fun z => some (eI z)) (by omega)
 try simp only [aT] at hc9
 refine aO (ah (j2 O Z Z (jr ?_)))
 refine ⟨.inl Z, _, am, _, Z, ?_⟩
 obtain rfl : i = ts.length := by omega
 rw [nk (cC _), List.take_length]
 exact ⟨Z, Z⟩
theorem EA {p : Pm} (hk0 : 0 ≤ k) (hk1 : k + cn nT p.pre + cn nS p.body + cn nT p.post ≤ 1073741824) : MQ h1 h2 31 [.agg [.rs 0 0 p.pre.length, .rs 1 0 p.body.length, .rs 2 0 p.post.length], eI k] [(0, gF p.pre), (1, kI p.body), (2, gF p.post)] (bc (eI (k + cn nT p.pre + cn nS p.body + cn nT p.post)) [(0, gF (bb mT nT k p.pre)), (1, kI (bb mS nS (k + cn nT p.pre) p.body)), (2, gF (bb mT nT (k + cn nT p.pre + cn nS p.body) p.post))]) := by
 refine aJ 500 Z (jH 18 [500,501,502] h1 h2 Tryz.func31 Z Z Z Z fun O hF => ?_)
 refine ah (jx O Z (js O Z (aV (j3 O Z Z Z (jf [7,6,4,2,0,1] Z (aB O [500] (bin := [gF p.pre]) Z Z Z Z (C9 (ts := p.pre) (k := k) h1 h2 hk0 (by omega)) Z Z Z Z Z Z (B0 := 9000) Z Z (au ?_)))))))
 refine js O Z (jf [1,4,2,0] Z (aV (j3 O Z Z Z (jf [11,10,1,4,2,0] Z (aB O [501] (bin := [kI p.body]) Z Z Z Z (c64 (ts := p.body) (k := k + cn nT p.pre) h1 h2 (by omega) (by omega)) Z Z Z Z Z Z (B0 := 13000) Z Z (au ?_))))))
 refine js O Z (jf [1,4,2,0] Z (aV (j3 O Z Z Z (jf [15,14,1,4,2,0] Z (aB O [502] (bin := [gF p.post]) Z Z Z Z (C9 (ts := p.post) (k := k + cn nT p.pre + cn nS p.body) h1 h2 (by omega) (by omega)) Z Z Z Z Z Z (B0 := 17000) Z Z (au ?_))))))
 refine js O Z (jf [1,4,2,0] Z (aV (j2 O Z Z (jr ?_))))
 refine ⟨.inl Z, _, aw [500,501,502] Z Z (e' := [(4, eI (k + cn nT p.pre + cn nS p.body + cn nT p.post))]) ⟨Z, trivial⟩ Z, _, Z, Z, Z⟩
end Go.Al
