/- Contracts of the functions that copy, compare, mark and measure. -/
import Derived.Test.YtbkloknmpkgmbaaGreatProg
import Derived.Test.YtbkloknmpkgmbaaGreatC
set_option linter.unusedVariables false
set_option linter.unusedSimpArgs false
set_option maxRecDepth 10000
open Go.Proofs
/- The table of the types that the functions of this seat use, and its proof. -/
namespace Go.Al
variable {L : Nat} (h1 : 4096 ≤ L) (h2 : L ≤ 1073741824)
def tt : List (Nat × TI) := [
  (2, ⟨4, false, 0, 1, 8, [.int .i64 0], []⟩),
  (3, ⟨4, false, 0, 1, 8, [.int .i64 0], []⟩),
  (4, ⟨5, false, 0, 1, 1, [.bool false], []⟩),
  (5, ⟨4, false, 0, 1, 1, [.int .u8 0], []⟩),
  (22, ⟨1, false, 5, 1, 24, [.nils], []⟩),
  (24, ⟨1, false, 44, 1, 24, [.nils], []⟩),
  (25, ⟨1, false, 76, 1, 24, [.nils], []⟩),
  (27, ⟨3, true, 0, 3, 72, [.nils, .nils, .nils], [(0, 1), (1, 1), (2, 1)]⟩),
  (29, ⟨1, false, 2, 1, 24, [.nils], []⟩),
  (31, ⟨3, true, 0, 2, 48, [.nils, .nils], [(0, 1), (1, 1)]⟩),
  (33, ⟨1, false, 39, 1, 24, [.nils], []⟩),
  (39, ⟨3, true, 0, 5, 88, [.int .i64 0, .int .i64 0, .nils, .nils, .nils], [(0, 1), (1, 1), (2, 1), (3, 1), (4, 1)]⟩),
  (44, ⟨3, true, 0, 2, 32, [.int .i64 0, .nils], [(0, 1), (1, 1)]⟩),
  (47, ⟨1, false, 117, 1, 24, [.nils], []⟩),
  (58, ⟨1, false, 167, 1, 24, [.nils], []⟩),
  (59, ⟨1, false, 170, 1, 24, [.nils], []⟩),
  (61, ⟨3, true, 0, 3, 72, [.nils, .nils, .nils], [(0, 1), (1, 1), (2, 1)]⟩),
  (63, ⟨1, false, 125, 1, 24, [.nils], []⟩),
  (76, ⟨3, true, 0, 8, 112, [.int .i64 0, .int .i64 0, .int .i64 0, .int .i64 0, .nils, .int .i64 0, .nils, .nils], [(0, 1), (1, 1), (2, 1), (3, 2), (5, 2), (7, 1)]⟩),
  (83, ⟨6, false, 0, 1, 8, [.nilp], []⟩),
  (86, ⟨1, false, 24, 1, 24, [.nils], []⟩),
  (88, ⟨3, true, 0, 5, 104, [.nils, .nils, .nils, .nils, .bool false], [(0, 1), (1, 1), (2, 1), (3, 1), (4, 1)]⟩),
  (89, ⟨6, false, 0, 1, 8, [.nilp], []⟩),
  (90, ⟨1, false, 89, 1, 24, [.nils], []⟩),
  (91, ⟨1, false, 186, 1, 24, [.nils], []⟩),
  (92, ⟨8, false, 0, 1, 8, [.nilm], []⟩),
  (94, ⟨3, true, 0, 9, 168, [.nils, .nils, .nils, .nils, .bool false, .nilp, .nils, .nils, .nilm], [(0, 5), (5, 1), (6, 1), (7, 1), (8, 1)]⟩),
  (96, ⟨6, false, 0, 1, 8, [.nilp], []⟩),
  (103, ⟨3, true, 0, 6, 96, [.nils, .nils, .nils, .int .i64 0, .int .i64 0, .int .i64 0], [(0, 2), (2, 1), (3, 1), (4, 1), (5, 1)]⟩),
  (110, ⟨3, true, 0, 10, 144, [.int .i64 0, .int .i64 0, .int .i64 0, .int .i64 0, .nils, .int .i64 0, .nils, .nils, .int .i64 0, .nils], [(0, 8), (8, 1), (9, 1)]⟩),
  (117, ⟨3, true, 0, 3, 56, [.nils, .int .i64 0, .nils], [(0, 1), (1, 2)]⟩),
  (125, ⟨1, false, 178, 1, 24, [.nils], []⟩),
  (130, ⟨4, false, 0, 1, 8, [.int .u64 0], []⟩),
  (132, ⟨3, true, 0, 3, 40, [.nils, .int .i64 0, .int .u64 0], [(0, 1), (1, 1), (2, 1)]⟩),
  (147, ⟨1, false, 198, 1, 24, [.nils], []⟩),
  (149, ⟨3, true, 0, 6, 96, [.nilp, .nils, .int .i64 0, .nils, .nils, .bool false], [(0, 1), (1, 1), (2, 1), (3, 1), (4, 1), (5, 1)]⟩),
  (167, ⟨3, true, 0, 2, 32, [.int .i64 0, .nils], [(0, 1), (1, 1)]⟩),
  (170, ⟨3, true, 0, 8, 112, [.int .i64 0, .int .i64 0, .int .i64 0, .int .i64 0, .nils, .int .i64 0, .nils, .nils], [(0, 1), (1, 1), (2, 1), (3, 2), (5, 2), (7, 1)]⟩),
  (178, ⟨3, true, 0, 5, 72, [.int .i64 0, .int .i64 0, .int .i64 0, .nils, .nils], [(0, 1), (1, 1), (2, 2), (4, 1)]⟩),
  (183, ⟨3, true, 0, 6, 112, [.int .i64 0, .nils, .nils, .nils, .nils, .int .i64 0], [(0, 1), (1, 1), (2, 1), (3, 1), (4, 1), (5, 1)]⟩),
  (186, ⟨6, false, 0, 1, 8, [.nilp], []⟩),
  (188, ⟨3, true, 0, 3, 24, [.nilp, .int .i64 0, .nilp], [(0, 1), (1, 1), (2, 1)]⟩),
  (198, ⟨3, true, 0, 3, 24, [.int .i64 0, .int .i64 0, .int .i64 0], [(0, 1), (1, 1), (2, 1)]⟩),
  (202, ⟨3, true, 0, 4, 80, [.nils, .int .i64 0, .nils, .nils], [(0, 1), (1, 1), (2, 1), (3, 1)]⟩),
  (221, ⟨3, true, 0, 3, 40, [.int .i64 0, .nils, .bool false], [(0, 1), (1, 1), (2, 1)]⟩),
  (244, ⟨1, false, 248, 1, 24, [.nils], []⟩),
  (248, ⟨3, true, 0, 3, 56, [.int .i64 0, .nils, .nils], [(0, 1), (1, 1), (2, 1)]⟩),
  (257, ⟨3, true, 0, 3, 56, [.int .i64 0, .nils, .nils], [(0, 2), (2, 1)]⟩),
  (273, ⟨1, false, 257, 1, 24, [.nils], []⟩),
  (276, ⟨1, false, 3, 1, 24, [.nils], []⟩)
]
theorem tt2 : TIok Tryz.prog 2 ⟨4, false, 0, 1, 8, [.int .i64 0], []⟩ := ⟨by kernel_rfl, by kernel_rfl, by kernel_rfl, by kernel_rfl, by kernel_rfl, by kernel_rfl, by kernel_rfl⟩
theorem tt3 : TIok Tryz.prog 3 ⟨4, false, 0, 1, 8, [.int .i64 0], []⟩ := ⟨by kernel_rfl, by kernel_rfl, by kernel_rfl, by kernel_rfl, by kernel_rfl, by kernel_rfl, by kernel_rfl⟩
theorem tt4 : TIok Tryz.prog 4 ⟨5, false, 0, 1, 1, [.bool false], []⟩ := ⟨by kernel_rfl, by kernel_rfl, by kernel_rfl, by kernel_rfl, by kernel_rfl, by kernel_rfl, by kernel_rfl⟩
theorem tt5 : TIok Tryz.prog 5 ⟨4, false, 0, 1, 1, [.int .u8 0], []⟩ := ⟨by kernel_rfl, by kernel_rfl, by kernel_rfl, by kernel_rfl, by kernel_rfl, by kernel_rfl, by kernel_rfl⟩
theorem yK : TIok Tryz.prog 22 ⟨1, false, 5, 1, 24, [.nils], []⟩ := ⟨by kernel_rfl, by kernel_rfl, by kernel_rfl, by kernel_rfl, by kernel_rfl, by kernel_rfl, by kernel_rfl⟩
theorem yJ : TIok Tryz.prog 24 ⟨1, false, 44, 1, 24, [.nils], []⟩ := ⟨by kernel_rfl, by kernel_rfl, by kernel_rfl, by kernel_rfl, by kernel_rfl, by kernel_rfl, by kernel_rfl⟩
theorem yI : TIok Tryz.prog 25 ⟨1, false, 76, 1, 24, [.nils], []⟩ := ⟨by kernel_rfl, by kernel_rfl, by kernel_rfl, by kernel_rfl, by kernel_rfl, by kernel_rfl, by kernel_rfl⟩
theorem yH : TIok Tryz.prog 27 ⟨3, true, 0, 3, 72, [.nils, .nils, .nils], [(0, 1), (1, 1), (2, 1)]⟩ := ⟨by kernel_rfl, by kernel_rfl, by kernel_rfl, by kernel_rfl, by kernel_rfl, by kernel_rfl, by kernel_rfl⟩
theorem yG : TIok Tryz.prog 29 ⟨1, false, 2, 1, 24, [.nils], []⟩ := ⟨by kernel_rfl, by kernel_rfl, by kernel_rfl, by kernel_rfl, by kernel_rfl, by kernel_rfl, by kernel_rfl⟩
theorem yF : TIok Tryz.prog 31 ⟨3, true, 0, 2, 48, [.nils, .nils], [(0, 1), (1, 1)]⟩ := ⟨by kernel_rfl, by kernel_rfl, by kernel_rfl, by kernel_rfl, by kernel_rfl, by kernel_rfl, by kernel_rfl⟩
theorem yE : TIok Tryz.prog 33 ⟨1, false, 39, 1, 24, [.nils], []⟩ := ⟨by kernel_rfl, by kernel_rfl, by kernel_rfl, by kernel_rfl, by kernel_rfl, by kernel_rfl, by kernel_rfl⟩
theorem yD : TIok Tryz.prog 39 ⟨3, true, 0, 5, 88, [.int .i64 0, .int .i64 0, .nils, .nils, .nils], [(0, 1), (1, 1), (2, 1), (3, 1), (4, 1)]⟩ := ⟨by kernel_rfl, by kernel_rfl, by kernel_rfl, by kernel_rfl, by kernel_rfl, by kernel_rfl, by kernel_rfl⟩
theorem yC : TIok Tryz.prog 44 ⟨3, true, 0, 2, 32, [.int .i64 0, .nils], [(0, 1), (1, 1)]⟩ := ⟨by kernel_rfl, by kernel_rfl, by kernel_rfl, by kernel_rfl, by kernel_rfl, by kernel_rfl, by kernel_rfl⟩
theorem yB : TIok Tryz.prog 47 ⟨1, false, 117, 1, 24, [.nils], []⟩ := ⟨by kernel_rfl, by kernel_rfl, by kernel_rfl, by kernel_rfl, by kernel_rfl, by kernel_rfl, by kernel_rfl⟩
theorem yA : TIok Tryz.prog 58 ⟨1, false, 167, 1, 24, [.nils], []⟩ := ⟨by kernel_rfl, by kernel_rfl, by kernel_rfl, by kernel_rfl, by kernel_rfl, by kernel_rfl, by kernel_rfl⟩
theorem yz : TIok Tryz.prog 59 ⟨1, false, 170, 1, 24, [.nils], []⟩ := ⟨by kernel_rfl, by kernel_rfl, by kernel_rfl, by kernel_rfl, by kernel_rfl, by kernel_rfl, by kernel_rfl⟩
theorem yy : TIok Tryz.prog 61 ⟨3, true, 0, 3, 72, [.nils, .nils, .nils], [(0, 1), (1, 1), (2, 1)]⟩ := ⟨by kernel_rfl, by kernel_rfl, by kernel_rfl, by kernel_rfl, by kernel_rfl, by kernel_rfl, by kernel_rfl⟩
theorem yx : TIok Tryz.prog 63 ⟨1, false, 125, 1, 24, [.nils], []⟩ := ⟨by kernel_rfl, by kernel_rfl, by kernel_rfl, by kernel_rfl, by kernel_rfl, by kernel_rfl, by kernel_rfl⟩
theorem yw : TIok Tryz.prog 76 ⟨3, true, 0, 8, 112, [.int .i64 0, .int .i64 0, .int .i64 0, .int .i64 0, .nils, .int .i64 0, .nils, .nils], [(0, 1), (1, 1), (2, 1), (3, 2), (5, 2), (7, 1)]⟩ := ⟨by kernel_rfl, by kernel_rfl, by kernel_rfl, by kernel_rfl, by kernel_rfl, by kernel_rfl, by kernel_rfl⟩
theorem yv : TIok Tryz.prog 83 ⟨6, false, 0, 1, 8, [.nilp], []⟩ := ⟨by kernel_rfl, by kernel_rfl, by kernel_rfl, by kernel_rfl, by kernel_rfl, by kernel_rfl, by kernel_rfl⟩
theorem yu : TIok Tryz.prog 86 ⟨1, false, 24, 1, 24, [.nils], []⟩ := ⟨by kernel_rfl, by kernel_rfl, by kernel_rfl, by kernel_rfl, by kernel_rfl, by kernel_rfl, by kernel_rfl⟩
theorem yr : TIok Tryz.prog 88 ⟨3, true, 0, 5, 104, [.nils, .nils, .nils, .nils, .bool false], [(0, 1), (1, 1), (2, 1), (3, 1), (4, 1)]⟩ := ⟨by kernel_rfl, by kernel_rfl, by kernel_rfl, by kernel_rfl, by kernel_rfl, by kernel_rfl, by kernel_rfl⟩
theorem yq : TIok Tryz.prog 89 ⟨6, false, 0, 1, 8, [.nilp], []⟩ := ⟨by kernel_rfl, by kernel_rfl, by kernel_rfl, by kernel_rfl, by kernel_rfl, by kernel_rfl, by kernel_rfl⟩
theorem yp : TIok Tryz.prog 90 ⟨1, false, 89, 1, 24, [.nils], []⟩ := ⟨by kernel_rfl, by kernel_rfl, by kernel_rfl, by kernel_rfl, by kernel_rfl, by kernel_rfl, by kernel_rfl⟩
theorem yo : TIok Tryz.prog 91 ⟨1, false, 186, 1, 24, [.nils], []⟩ := ⟨by kernel_rfl, by kernel_rfl, by kernel_rfl, by kernel_rfl, by kernel_rfl, by kernel_rfl, by kernel_rfl⟩
theorem yn : TIok Tryz.prog 92 ⟨8, false, 0, 1, 8, [.nilm], []⟩ := ⟨by kernel_rfl, by kernel_rfl, by kernel_rfl, by kernel_rfl, by kernel_rfl, by kernel_rfl, by kernel_rfl⟩
theorem ym : TIok Tryz.prog 94 ⟨3, true, 0, 9, 168, [.nils, .nils, .nils, .nils, .bool false, .nilp, .nils, .nils, .nilm], [(0, 5), (5, 1), (6, 1), (7, 1), (8, 1)]⟩ := ⟨by kernel_rfl, by kernel_rfl, by kernel_rfl, by kernel_rfl, by kernel_rfl, by kernel_rfl, by kernel_rfl⟩
theorem yl : TIok Tryz.prog 96 ⟨6, false, 0, 1, 8, [.nilp], []⟩ := ⟨by kernel_rfl, by kernel_rfl, by kernel_rfl, by kernel_rfl, by kernel_rfl, by kernel_rfl, by kernel_rfl⟩
theorem xh : TIok Tryz.prog 103 ⟨3, true, 0, 6, 96, [.nils, .nils, .nils, .int .i64 0, .int .i64 0, .int .i64 0], [(0, 2), (2, 1), (3, 1), (4, 1), (5, 1)]⟩ := ⟨by kernel_rfl, by kernel_rfl, by kernel_rfl, by kernel_rfl, by kernel_rfl, by kernel_rfl, by kernel_rfl⟩
theorem xg : TIok Tryz.prog 110 ⟨3, true, 0, 10, 144, [.int .i64 0, .int .i64 0, .int .i64 0, .int .i64 0, .nils, .int .i64 0, .nils, .nils, .int .i64 0, .nils], [(0, 8), (8, 1), (9, 1)]⟩ := ⟨by kernel_rfl, by kernel_rfl, by kernel_rfl, by kernel_rfl, by kernel_rfl, by kernel_rfl, by kernel_rfl⟩
theorem xf : TIok Tryz.prog 117 ⟨3, true, 0, 3, 56, [.nils, .int .i64 0, .nils], [(0, 1), (1, 2)]⟩ := ⟨by kernel_rfl, by kernel_rfl, by kernel_rfl, by kernel_rfl, by kernel_rfl, by kernel_rfl, by kernel_rfl⟩
theorem xe : TIok Tryz.prog 125 ⟨1, false, 178, 1, 24, [.nils], []⟩ := ⟨by kernel_rfl, by kernel_rfl, by kernel_rfl, by kernel_rfl, by kernel_rfl, by kernel_rfl, by kernel_rfl⟩
theorem xd : TIok Tryz.prog 130 ⟨4, false, 0, 1, 8, [.int .u64 0], []⟩ := ⟨by kernel_rfl, by kernel_rfl, by kernel_rfl, by kernel_rfl, by kernel_rfl, by kernel_rfl, by kernel_rfl⟩
theorem xc : TIok Tryz.prog 132 ⟨3, true, 0, 3, 40, [.nils, .int .i64 0, .int .u64 0], [(0, 1), (1, 1), (2, 1)]⟩ := ⟨by kernel_rfl, by kernel_rfl, by kernel_rfl, by kernel_rfl, by kernel_rfl, by kernel_rfl, by kernel_rfl⟩
theorem xb : TIok Tryz.prog 147 ⟨1, false, 198, 1, 24, [.nils], []⟩ := ⟨by kernel_rfl, by kernel_rfl, by kernel_rfl, by kernel_rfl, by kernel_rfl, by kernel_rfl, by kernel_rfl⟩
theorem xa : TIok Tryz.prog 149 ⟨3, true, 0, 6, 96, [.nilp, .nils, .int .i64 0, .nils, .nils, .bool false], [(0, 1), (1, 1), (2, 1), (3, 1), (4, 1), (5, 1)]⟩ := ⟨by kernel_rfl, by kernel_rfl, by kernel_rfl, by kernel_rfl, by kernel_rfl, by kernel_rfl, by kernel_rfl⟩
theorem w9 : TIok Tryz.prog 167 ⟨3, true, 0, 2, 32, [.int .i64 0, .nils], [(0, 1), (1, 1)]⟩ := ⟨by kernel_rfl, by kernel_rfl, by kernel_rfl, by kernel_rfl, by kernel_rfl, by kernel_rfl, by kernel_rfl⟩
theorem w8 : TIok Tryz.prog 170 ⟨3, true, 0, 8, 112, [.int .i64 0, .int .i64 0, .int .i64 0, .int .i64 0, .nils, .int .i64 0, .nils, .nils], [(0, 1), (1, 1), (2, 1), (3, 2), (5, 2), (7, 1)]⟩ := ⟨by kernel_rfl, by kernel_rfl, by kernel_rfl, by kernel_rfl, by kernel_rfl, by kernel_rfl, by kernel_rfl⟩
theorem w7 : TIok Tryz.prog 178 ⟨3, true, 0, 5, 72, [.int .i64 0, .int .i64 0, .int .i64 0, .nils, .nils], [(0, 1), (1, 1), (2, 2), (4, 1)]⟩ := ⟨by kernel_rfl, by kernel_rfl, by kernel_rfl, by kernel_rfl, by kernel_rfl, by kernel_rfl, by kernel_rfl⟩
theorem w6 : TIok Tryz.prog 183 ⟨3, true, 0, 6, 112, [.int .i64 0, .nils, .nils, .nils, .nils, .int .i64 0], [(0, 1), (1, 1), (2, 1), (3, 1), (4, 1), (5, 1)]⟩ := ⟨by kernel_rfl, by kernel_rfl, by kernel_rfl, by kernel_rfl, by kernel_rfl, by kernel_rfl, by kernel_rfl⟩
theorem w5 : TIok Tryz.prog 186 ⟨6, false, 0, 1, 8, [.nilp], []⟩ := ⟨by kernel_rfl, by kernel_rfl, by kernel_rfl, by kernel_rfl, by kernel_rfl, by kernel_rfl, by kernel_rfl⟩
theorem w4 : TIok Tryz.prog 188 ⟨3, true, 0, 3, 24, [.nilp, .int .i64 0, .nilp], [(0, 1), (1, 1), (2, 1)]⟩ := ⟨by kernel_rfl, by kernel_rfl, by kernel_rfl, by kernel_rfl, by kernel_rfl, by kernel_rfl, by kernel_rfl⟩
theorem w3 : TIok Tryz.prog 198 ⟨3, true, 0, 3, 24, [.int .i64 0, .int .i64 0, .int .i64 0], [(0, 1), (1, 1), (2, 1)]⟩ := ⟨by kernel_rfl, by kernel_rfl, by kernel_rfl, by kernel_rfl, by kernel_rfl, by kernel_rfl, by kernel_rfl⟩
theorem w2 : TIok Tryz.prog 202 ⟨3, true, 0, 4, 80, [.nils, .int .i64 0, .nils, .nils], [(0, 1), (1, 1), (2, 1), (3, 1)]⟩ := ⟨by kernel_rfl, by kernel_rfl, by kernel_rfl, by kernel_rfl, by kernel_rfl, by kernel_rfl, by kernel_rfl⟩
theorem wZ : TIok Tryz.prog 221 ⟨3, true, 0, 3, 40, [.int .i64 0, .nils, .bool false], [(0, 1), (1, 1), (2, 1)]⟩ := ⟨by kernel_rfl, by kernel_rfl, by kernel_rfl, by kernel_rfl, by kernel_rfl, by kernel_rfl, by kernel_rfl⟩
theorem wY : TIok Tryz.prog 244 ⟨1, false, 248, 1, 24, [.nils], []⟩ := ⟨by kernel_rfl, by kernel_rfl, by kernel_rfl, by kernel_rfl, by kernel_rfl, by kernel_rfl, by kernel_rfl⟩
theorem wX : TIok Tryz.prog 248 ⟨3, true, 0, 3, 56, [.int .i64 0, .nils, .nils], [(0, 1), (1, 1), (2, 1)]⟩ := ⟨by kernel_rfl, by kernel_rfl, by kernel_rfl, by kernel_rfl, by kernel_rfl, by kernel_rfl, by kernel_rfl⟩
theorem wW : TIok Tryz.prog 257 ⟨3, true, 0, 3, 56, [.int .i64 0, .nils, .nils], [(0, 2), (2, 1)]⟩ := ⟨by kernel_rfl, by kernel_rfl, by kernel_rfl, by kernel_rfl, by kernel_rfl, by kernel_rfl, by kernel_rfl⟩
theorem wV : TIok Tryz.prog 273 ⟨1, false, 257, 1, 24, [.nils], []⟩ := ⟨by kernel_rfl, by kernel_rfl, by kernel_rfl, by kernel_rfl, by kernel_rfl, by kernel_rfl, by kernel_rfl⟩
theorem wU : TIok Tryz.prog 276 ⟨1, false, 3, 1, 24, [.nils], []⟩ := ⟨by kernel_rfl, by kernel_rfl, by kernel_rfl, by kernel_rfl, by kernel_rfl, by kernel_rfl, by kernel_rfl⟩
theorem wT : TTok Tryz.prog tt := ⟨tt2, tt3, tt4, tt5, yK, yJ, yI, yH, yG, yF, yE, yD, yC, yB, yA, yz, yy, yx, yw, yv, yu, yr, yq, yp, yo, yn, ym, yl, xh, xg, xf, xe, xd, xc, xb, xa, w9, w8, w7, w6, w5, w4, w3, w2, wZ, wY, wX, wW, wV, wU, trivial⟩
theorem sb : TTplain tt = true := by kernel_rfl
theorem uG : Tryz.prog.follows .mixedOrders = true := by kernel_rfl
theorem ag {σ : Sg} {Q : Exit → St → Prop} {s : St} {id : Nat} {l : List Oper} {y : Code} (h : AOps σ l.toArray (j1 (AWP σ y Q) Q) l s) : AWP σ (.seq (.region id l.toArray false) y) Q s := AWP.seq (AWP.region h)
theorem jn {σ : Sg} {Q : Exit → St → Prop} {s : St} {all : Array Oper} (h : Q .normal s) : AOps σ all Q [] s := AOps.nil h
theorem bf {σ : Sg} {Q : Exit → St → Prop} {s : St} {all : Array Oper} {id : Nat} {l : List Oper} {y : Code} (h : AOps σ l.toArray (j1 (AWP σ y Q) Q) l s) : AOps σ all (j1 (AWP σ (.seq (.region id l.toArray false) y) Q) Q) [] s := AOps.nil (AWP.seq (AWP.region h))
theorem bL : (∀ {α β : Type} {f : α → β} {l : List α}, (l.map f).length = l.length) ∧ (∀ {α : Type} [BEq α] [LawfulBEq α] {a b : α}, (a == b) = true ↔ a = b) ∧ (∀ {p : Prop} [Decidable p], (decide p = true) = p) ∧ (∀ {p : Prop} [Decidable p], (decide p = false) ↔ ¬ p) ∧ (∀ {b : Bool}, ((!b) = true) = (b = false)) ∧ (∀ {b : Bool}, ((!b) = false) = (b = true)) ∧ ((!true) = false) ∧ ((!false) = true) ∧ (∀ {a b : Int}, ¬ a < b ↔ b ≤ a) ∧ (∀ {a b : Int}, ¬ a ≤ b ↔ b < a) := by
 refine ⟨?_, ?_, ?_, ?_, ?_, ?_, ?_, ?_, ?_, ?_⟩ <;> intros <;> simp
theorem av {σ : Sg} {Q : cj} {all : Array Oper} {l : List Oper} {e : List (Nat × A)} {H H' : List (Nat × B)} (K : AOps σ all Q l ⟨e, H'⟩) (h : HN H H' := by repeat' (first | apply HN.cons rfl | exact HN.nil rfl | exact BN.row rfl | exact BN.map rfl | apply BN.box rfl | apply MN.cons rfl | exact MN.nil rfl | exact XN.d rfl | exact XN.rs rfl | exact kJ)) : AOps σ all Q l ⟨e, H⟩ := qU h K
theorem bQ {σ : Sg} {Q : Exit → St → Prop} {c : Code} {e : List (Nat × A)} {H H' : List (Nat × B)} (K : AWP σ c Q ⟨e, H'⟩) (h : HN H H' := by repeat' (first | apply HN.cons rfl | exact HN.nil rfl | exact BN.row rfl | exact BN.map rfl | apply BN.box rfl | apply MN.cons rfl | exact MN.nil rfl | exact XN.d rfl | exact XN.rs rfl | exact kJ)) : AWP σ c Q ⟨e, H⟩ := sX h K
def wb (e : List (Nat × A)) : List Nat → Option (List (Nat × A))
  | [] => some []
  | k :: ks => match lk e k, wb e ks with
    | some v, some r => some ((k, v) :: r)
    | _, _ => none
theorem mX {e : List (Nat × A)} : ∀ {ks : List Nat} {e' : List (Nat × A)}, wb e ks = some e' → envSub e e'
 | [], e', h => by cases h; trivial
 | k :: ks, e', h => by
  unfold wb at h
  split at h
  rename_i v r h1 h2
  cases h
  exact ⟨h1, mX h2⟩
  cases h
theorem jf {σ : Sg} {Q : Exit → St → Prop} {all : Array Oper} {l : List Oper} {e e' : List (Nat × A)} {H : List (Nat × B)} (ks : List Nat) (h : wb e ks = some e') (K : AOps σ all Q l ⟨e', H⟩) : AOps σ all Q l ⟨e, H⟩ := oh e' (mX h) K
theorem jw {σ : Sg} {Q : Exit → St → Prop} {c : Code} {e e' : List (Nat × A)} {H : List (Nat × B)} (ks : List Nat) (h : wb e ks = some e') (K : AWP σ c Q ⟨e', H⟩) : AWP σ c Q ⟨e, H⟩ := pq e' (mX h) K


noncomputable abbrev SG (L nt : Nat) : Sg := ⟨Tryz.prog, tt, L, nt, []⟩
theorem tn {L nt} (h1 : 4096 ≤ L) (h2 : L ≤ 9223372036854775807) : SgOk (SG L nt) := ⟨wT, sb, h1, h2, uG⟩
theorem jB {L f : Nat} {fn : Func} {c : Code} {args : List A} {Q : A → List (Nat × B) → Prop} (nt : Nat) (h1 : 4096 ≤ L) (h2 : L ≤ 1073741824) (hf : Tryz.prog.funcs[f]? = some fn) (hb : fn.body = some c) (hnt : fn.ntmps = nt) (ha : Nat.ble args.length nt = true) (h : SgOk (SG L nt) → As.fact L args → AWP (SG L nt) c (fun e s => (e = .ret ∨ e = .normal) ∧ ∃ s2, Ent (SG L nt) s s2 ∧ ∃ res, fd tt s2 fn.results.toList = some res ∧ Q res s2.H) ⟨cI 0 args, []⟩) (hn : (fn.name == "runtime.NumGoroutine") = false := by kernel_rfl) : MC Tryz.prog L f args [] Q := have hσ := tn (nt := nt) h1 (Nat.le_trans h2 (by decide)); MC.body hσ hf hn hb hnt (Nat.le_of_ble_eq_true ha) (h hσ)
theorem jH {L f : Nat} {fn : Func} {c : Code} {args : List A} {Hin : List (Nat × B)} {Q : A → List (Nat × B) → Prop} (nt : Nat) (ks : List Nat) (h1 : 4096 ≤ L) (h2 : L ≤ 1073741824) (hf : Tryz.prog.funcs[f]? = some fn) (hb : fn.body = some c) (hnt : fn.ntmps = nt) (hi : ks = Hin.map (·.1)) (ha : Nat.ble args.length nt = true) (h : SgOk ⟨Tryz.prog, tt, L, nt, ks⟩ → As.fact L args → AWP ⟨Tryz.prog, tt, L, nt, ks⟩ c (fun e s => (e = .ret ∨ e = .normal) ∧ ∃ s2, Ent ⟨Tryz.prog, tt, L, nt, ks⟩ s s2 ∧ ∃ res, fd tt s2 fn.results.toList = some res ∧ Q res s2.H) ⟨cI 0 args, Hin⟩) (hn : (fn.name == "runtime.NumGoroutine") = false := by kernel_rfl) : MC Tryz.prog L f args Hin Q := have hσ := ni (js := ks) (tn (nt := nt) h1 (Nat.le_trans h2 (by decide))); sW hσ hf hn hb hnt hi (Nat.le_of_ble_eq_true ha) (h hσ)
abbrev MQ {L : Nat} (h1 : 4096 ≤ L) (h2 : L ≤ 1073741824) (f : Nat) (ds : List A) (Hin : List (Nat × B)) (Q : A → List (Nat × B) → Prop) : Prop := MC Tryz.prog L f ds Hin Q
abbrev eI (n : Int) : A := .c (.d (.int .i64 n))
abbrev eB (b : Bool) : A := .c (.d (.bool b))
abbrev c7 (xs : List Int) : D := .slc 1 (xs.map fun n => [.int .i64 n])
structure Tm where
  c : Int
  xs : List Int
  deriving Inhabited
abbrev Tm.cells (t : Tm) : List D := [.int .i64 t.c, c7 t.xs]
abbrev ptr (cs : List D) : A := .c (.d (.ptr cs 0))
def num (x : Int) : Bool := decide (-1000000 ≤ x) && decide (x ≤ 1000000)
def Tm.ok (t : Tm) : Bool := !(bif (bif !num t.c then true else decide ((10 : Int) < t.xs.length)) then true else bif decide ((0 : Int) < t.xs.length) then decide (t.xs.getD ((t.xs.length : Int) - 1).toNat default = 0) else false) && t.xs.all num
theorem gc {α : Type} {p : α → Bool} {xs : List α} (h : ∀ j (hj : j < xs.length), p xs[j] = true) : xs.all p = true := by
 rw [List.all_eq_true]; intro x hx
 obtain ⟨j, hj, rfl⟩ := List.mem_iff_getElem.1 hx
 exact h j hj
theorem fG {α : Type} {p : α → Bool} {xs : List α} (j : Nat) (hj : j < xs.length) (h : p xs[j] = false) : xs.all p = false := by
 rw [List.all_eq_false]; exact ⟨xs[j], List.getElem_mem _, by simp [h]⟩
theorem aK {α : Type} [Inhabited α] {xs : List α} {j : Nat} (hj : j < xs.length) : xs.getD j default = xs[j] := by simp [hj]

theorem wh {x lo hi : Int} : MQ h1 h2 99 [eI x, eI lo, eI hi] [] (Plain (eB (decide (lo ≤ x) && decide (x ≤ hi)))) := by
 refine aP ?_ Z
 refine jB 15 h1 h2 Tryz.func99 Z Z Z fun O hF => ?_
 refine ag (js O Z (bf (j4 O Z Z Z Z (ax 3 Z Z Z (fun hx => ab hx Z Z Z (V O Z) Z Z ( ab hx Z Z Z (V O Z) Z Z ( ab hx Z Z Z (V O Z) Z Z ( AN.nil)))) Z Z (aa (ao O Z Z Z Z Z) Z Z Z (js O Z (jr ?_)))))))
 refine ⟨.inl Z, _, ar, _, Z, ?_⟩
 rw [Bool.cond_false_right]
theorem wJ {x : Int} : MQ h1 h2 132 [eI x] [] (Plain (eB (num x))) := by
 refine aP ?_ Z
 refine jB 5 h1 h2 Tryz.func132 Z Z Z fun O hF => ?_
 refine ag (js O Z (bf (js O Z (aA O Z Z Z Z (wh h1 h2) (ac Z) Z Z Z Z Z (B0 := 5000) Z (js O Z (jr ?_))))))
 refine ⟨.inl Z, _, ar, _, Z, ?_⟩
 first | rfl | skip
theorem td {t : Tm} : MQ h1 h2 89 [ptr t.cells] [] (Plain (eB t.ok)) := by
 refine aP ?_ Z
 refine jB 49 h1 h2 Tryz.func89 Z Z Z fun O hF => ?_
 have hl : t.xs.length ≤ L := by simpa [As.fact, A.fact, M.fact, D.fact, Ds.fact] using hF.1.2.1.1
 refine ag (js O Z (bf (j4 O Z Z Z Z (dn O Z (js O Z (jn (ah (ag (j4 O Z Z Z Z (aA O Z Z Z Z (wJ h1 h2) (ac Z) Z Z Z Z Z (B0 := 15000) Z (j2 O Z Z (ax 2 Z Z Z (fun hx => ab hx Z Z Z (V O Z) Z Z ( ab hx Z Z Z (V O Z) Z Z ( AN.nil))) Z Z (aa (aQ O Z Z Z Z Z) Z Z Z (js O Z (ax 13 Z Z Z (fun hx => ab hx Z Z Z (V O Z) Z Z ( ab hx Z Z Z (V O Z) Z Z ( ab hx Z Z Z (V O Z) Z Z ( gC 9 Z Z Z Z (fun hx' => ab hx' Z Z Z (V O Z) Z Z ( ab hx' Z Z Z (V O Z) Z Z ( ab hx' Z Z Z (V O Z) Z Z ( ab hx' Z Z Z (V O Z) Z Z ( ab hx' Z Z Z (V O Z) Z Z ( ab hx' Z Z Z (vF O Z) Z Z ( ab hx' Z Z Z (vD O Z) Z Z ( ab hx' Z Z Z (V O Z) Z Z ( ab hx' Z Z Z (V O Z) Z Z ( AN.nil)))))))))) Z Z ( ab hx Z Z Z (ao O Z Z Z Z Z) Z Z ( AN.nil)))))) Z Z (aa (aQ O Z Z Z Z Z) Z Z Z (jn (af O Z Z (fun hc34 => ?_) (fun hc34 => ?_)))))))))))))))))))
 try simp only [bL] at hc34
 refine ag (js O Z (jr ?_))
 refine ⟨.inl Z, _, ar, _, Z, ?_⟩
 simp only [Tm.ok, hc34, Bool.not_true, Bool.false_and]
 try simp only [bL] at hc34
 refine an (ah (ag (js O Z (jn (aw (aE (X := Nat) (fun i => ⟨[(0, ptr t.cells), (3, eI t.xs.length), (4, eI i)], []⟩) (fun i => i ≤ t.xs.length ∧ ∀ j (h : j < t.xs.length), j < i → num t.xs[j] = true) (fun i => t.xs.length - i) 0 (Ent.env ⟨Z, Z, Z, trivial⟩) ?_ (fun i hi => ?_)))))))
 exact ⟨dm _, fun j h hj => absurd hj (Nat.not_lt_zero j)⟩
 refine ah (ag (j3 O Z Z Z (jn (af O Z Z (fun hc37 => ?_) (fun hc37 => ?_)))))
 try simp only [bL] at hc37
 refine an (ah (aw (ag (j4 O Z Z Z Z (js O Z (nq O Z Z (js O Z (aA O Z Z Z Z (wJ h1 h2) (ac Z) Z Z Z Z Z (B0 := 48000) Z (js O Z (jn (af O Z Z (fun hc48 => ?_) (fun hc48 => ?_))))))))))))
 try simp only [bL] at hc48
 refine ag (js O Z (jr ?_))
 refine ⟨.inl Z, _, ar, _, Z, ?_⟩
 rw [Int.toNat_natCast, aK (by omega)] at hc48
 simp only [Tm.ok, fG i (by omega) hc48, Bool.and_false]
 try simp only [bL] at hc48
 refine an (am (js O Z (ji O Z (js O Z (jn ?_)))))
 refine ⟨i + 1, Ent.env ⟨Z, Z, Z, trivial⟩, ⟨by omega, fun j h hj => ?_⟩, by omega⟩
 by_cases e : j = i
 subst e; rw [Int.toNat_natCast, aK h] at hc48; exact hc48
 exact hi.2 j h (by omega)
 try simp only [bL] at hc37
 refine bt (ag (js O Z (jr ?_)))
 refine ⟨.inl Z, _, ar, _, Z, ?_⟩
 simp only [Tm.ok, hc34, Bool.not_false, Bool.true_and]
 rw [gc (fun j hj => hi.2 j hj (by omega))]
abbrev aZ (xs : List Int) : B := .row true 1 (xs.map fun n => [.int .i64 n])
abbrev cm (xs : List Int) : A := .c (.d (c7 xs))
variable {xs : List Int}
theorem uB : MQ h1 h2 88 [cm xs] [] (Rows (.c (.rs 0 0 xs.length)) [aZ xs]) := by
 refine cw (jB 6 h1 h2 Tryz.func88 Z Z Z fun O hF => ?_)
 have hl : xs.length ≤ L := by simpa [As.fact, A.fact, M.fact, D.fact, Ds.fact] using hF.1.1
 refine ?_
 refine ag (js O Z (bf (AOps.heap (bC O Z Z Z) Z (js O Z (AOps.heap (bh (own := true) O Z Z Z Z Z Z Z Z Z Z Z Z Z Z Z Z (.row Z Z) (.slc (.inr (Scal.map (fun _ => rfl)))) (by simp) Z (by first | omega | (dsimp only [cY, iV, List.length_nil]; omega) | (simp only [bL] at *; omega) | (simp; omega)) (by first | omega | (dsimp only [cY, iV, List.length_nil]; omega) | (simp only [bL] at *; omega) | (simp; omega)) Z Z) Z (js O Z (jr ?_)))))))
 refine ⟨.inl Z, _, ar, _, Z, [5], by decide, Z, ?_, ?_⟩
 simp [A.lab, M.lab]
 rfl
theorem uz : MQ h1 h2 127 [cm xs] [] (Rows (.c (.rs 0 0 xs.length)) [aZ xs]) := by
 refine cw (jB 6 h1 h2 Tryz.func127 Z Z Z fun O hF => ?_)
 have hl : xs.length ≤ L := by simpa [As.fact, A.fact, M.fact, D.fact, Ds.fact] using hF.1.1
 refine ?_
 refine ag (js O Z (bf (AOps.heap (bC O Z Z Z) Z (js O Z (AOps.heap (bh (own := true) O Z Z Z Z Z Z Z Z Z Z Z Z Z Z Z Z (.row Z Z) (.slc (.inr (Scal.map (fun _ => rfl)))) (by simp) Z (by first | omega | (dsimp only [cY, iV, List.length_nil]; omega) | (simp only [bL] at *; omega) | (simp; omega)) (by first | omega | (dsimp only [cY, iV, List.length_nil]; omega) | (simp only [bL] at *; omega) | (simp; omega)) Z Z) Z (js O Z (jr ?_)))))))
 refine ⟨.inl Z, _, ar, _, Z, [5], by decide, Z, ?_, ?_⟩
 simp [A.lab, M.lab]
 rfl

deriving instance DecidableEq for Tm
abbrev dP (ts : List Tm) : D := .slc 2 (ts.map Tm.cells)
abbrev b0 (ts : List Tm) : A := .c (.d (dP ts))
abbrev wk (ts : List Tm) : B := .row true 2 (ts.map Tm.cells)


structure Sm where
  kind : Int
  var : Int
  event : Int
  sum : Tm
  index : Tm
  facts : List Tm
  deriving Inhabited, DecidableEq
abbrev Sm.cells (s : Sm) : List D := [.int .i64 s.kind, .int .i64 s.var, .int .i64 s.event, .int .i64 s.sum.c, c7 s.sum.xs, .int .i64 s.index.c, c7 s.index.xs, dP s.facts]
abbrev aSm (s : Sm) : A := .agg (s.cells.map .d)
abbrev go (ts : List Sm) : D := .slc 8 (ts.map Sm.cells)
structure Pm where
  pre : List Tm
  body : List Sm
  post : List Tm
  deriving Inhabited, DecidableEq
structure Sx where
  vars : List Int
  cells : List Int
  deriving Inhabited, DecidableEq
abbrev Pm.data (p : Pm) : List D := [dP p.pre, go p.body, dP p.post]
abbrev Sx.data (s : Sx) : List D := [c7 s.vars, c7 s.cells]
abbrev fo (p : Pm) : A := .agg (p.data.map .d)
abbrev wi (s : Sx) : A := .agg (s.data.map .d)

def t6 {α : Type} (f : Int → α → α) (sz : α → Nat) : Int → List α → List α
  | _, [] => []
  | k, a :: r => f k a :: t6 f sz (k + sz a) r
def x9 {α : Type} (sz : α → Nat) (l : List α) : Nat := (l.map sz).sum
def mk {α : Type} (f : Int → α → α) (sz : α → Nat) (k : Int) (i : Nat) (l : List α) : List α := t6 f sz k (l.take i) ++ l.drop i
section
variable {α : Type} {f : Int → α → α} {sz : α → Nat}
end

end Go.Al
