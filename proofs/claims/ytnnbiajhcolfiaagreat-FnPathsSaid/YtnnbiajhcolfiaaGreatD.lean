/- Contracts of the functions that copy, compare, mark and measure. -/
import Derived.Test.YtnnbiajhcolfiaaGreatProg
import Derived.Test.YtnnbiajhcolfiaaGreatC
set_option linter.unusedVariables false
set_option linter.unusedSimpArgs false
set_option maxRecDepth 10000
open Go.Proofs
/- The table of the types that the functions of this seat use, and its proof. -/
namespace Go.Al
variable {L : Nat} (h1 : 4096 ≤ L) (h2 : L ≤ 1073741824)
def tt : List (Nat × TI) := [
  (2, ⟨4, false, 0, 1, 8, [.int .i64 0], []⟩),
  (3, ⟨4, false, 0, 1, 8, [.int .i64 0], []⟩),
  (4, ⟨5, false, 0, 1, 1, [.bool false], []⟩),
  (5, ⟨4, false, 0, 1, 1, [.int .u8 0], []⟩),
  (22, ⟨1, false, 5, 1, 24, [.nils], []⟩),
  (24, ⟨1, false, 44, 1, 24, [.nils], []⟩),
  (25, ⟨1, false, 56, 1, 24, [.nils], []⟩),
  (27, ⟨3, true, 0, 3, 72, [.nils, .nils, .nils], [(0, 1), (1, 1), (2, 1)]⟩),
  (29, ⟨1, false, 2, 1, 24, [.nils], []⟩),
  (31, ⟨3, true, 0, 2, 48, [.nils, .nils], [(0, 1), (1, 1)]⟩),
  (33, ⟨1, false, 39, 1, 24, [.nils], []⟩),
  (39, ⟨3, true, 0, 5, 88, [.int .i64 0, .int .i64 0, .nils, .nils, .nils], [(0, 1), (1, 1), (2, 1), (3, 1), (4, 1)]⟩),
  (44, ⟨3, true, 0, 2, 32, [.int .i64 0, .nils], [(0, 1), (1, 1)]⟩),
  (45, ⟨1, false, 93, 1, 24, [.nils], []⟩),
  (48, ⟨1, false, 95, 1, 24, [.nils], []⟩),
  (56, ⟨3, true, 0, 8, 112, [.int .i64 0, .int .i64 0, .int .i64 0, .int .i64 0, .nils, .int .i64 0, .nils, .nils], [(0, 1), (1, 1), (2, 1), (3, 2), (5, 2), (7, 1)]⟩),
  (63, ⟨6, false, 0, 1, 8, [.nilp], []⟩),
  (66, ⟨1, false, 24, 1, 24, [.nils], []⟩),
  (68, ⟨3, true, 0, 5, 104, [.nils, .nils, .nils, .nils, .bool false], [(0, 1), (1, 1), (2, 1), (3, 1), (4, 1)]⟩),
  (69, ⟨6, false, 0, 1, 8, [.nilp], []⟩),
  (70, ⟨1, false, 69, 1, 24, [.nils], []⟩),
  (71, ⟨1, false, 145, 1, 24, [.nils], []⟩),
  (72, ⟨8, false, 0, 1, 8, [.nilm], []⟩),
  (74, ⟨3, true, 0, 9, 168, [.nils, .nils, .nils, .nils, .bool false, .nilp, .nils, .nils, .nilm], [(0, 5), (5, 1), (6, 1), (7, 1), (8, 1)]⟩),
  (76, ⟨6, false, 0, 1, 8, [.nilp], []⟩),
  (83, ⟨3, true, 0, 6, 96, [.nils, .nils, .nils, .int .i64 0, .int .i64 0, .int .i64 0], [(0, 2), (2, 1), (3, 1), (4, 1), (5, 1)]⟩),
  (93, ⟨3, true, 0, 3, 56, [.nils, .int .i64 0, .nils], [(0, 1), (1, 2)]⟩),
  (95, ⟨1, false, 183, 1, 24, [.nils], []⟩),
  (96, ⟨4, false, 0, 1, 8, [.int .u64 0], []⟩),
  (98, ⟨3, true, 0, 3, 40, [.nils, .int .i64 0, .int .u64 0], [(0, 1), (1, 1), (2, 1)]⟩),
  (114, ⟨1, false, 160, 1, 24, [.nils], []⟩),
  (116, ⟨3, true, 0, 6, 96, [.nilp, .nils, .int .i64 0, .nils, .nils, .bool false], [(0, 1), (1, 1), (2, 1), (3, 1), (4, 1), (5, 1)]⟩),
  (136, ⟨8, false, 0, 1, 8, [.nilm], []⟩),
  (138, ⟨3, true, 0, 3, 40, [.nils, .nilm, .int .i64 0], [(0, 1), (1, 1), (2, 1)]⟩),
  (142, ⟨3, true, 0, 6, 112, [.int .i64 0, .nils, .nils, .nils, .nils, .int .i64 0], [(0, 1), (1, 1), (2, 1), (3, 1), (4, 1), (5, 1)]⟩),
  (145, ⟨6, false, 0, 1, 8, [.nilp], []⟩),
  (147, ⟨3, true, 0, 3, 24, [.nilp, .int .i64 0, .nilp], [(0, 1), (1, 1), (2, 1)]⟩),
  (152, ⟨3, true, 0, 10, 144, [.int .i64 0, .int .i64 0, .int .i64 0, .int .i64 0, .nils, .int .i64 0, .nils, .nils, .int .i64 0, .nils], [(0, 8), (8, 1), (9, 1)]⟩),
  (160, ⟨3, true, 0, 3, 24, [.int .i64 0, .int .i64 0, .int .i64 0], [(0, 1), (1, 1), (2, 1)]⟩),
  (164, ⟨3, true, 0, 4, 80, [.nils, .int .i64 0, .nils, .nils], [(0, 1), (1, 1), (2, 1), (3, 1)]⟩),
  (176, ⟨3, true, 0, 3, 40, [.int .i64 0, .nils, .bool false], [(0, 1), (1, 1), (2, 1)]⟩),
  (183, ⟨3, true, 0, 5, 72, [.int .i64 0, .int .i64 0, .int .i64 0, .nils, .nils], [(0, 1), (1, 1), (2, 2), (4, 1)]⟩),
  (217, ⟨3, true, 0, 3, 56, [.int .i64 0, .nils, .nils], [(0, 2), (2, 1)]⟩),
  (222, ⟨1, false, 226, 1, 24, [.nils], []⟩),
  (226, ⟨3, true, 0, 3, 56, [.int .i64 0, .nils, .nils], [(0, 1), (1, 1), (2, 1)]⟩),
  (241, ⟨1, false, 217, 1, 24, [.nils], []⟩),
  (244, ⟨1, false, 3, 1, 24, [.nils], []⟩)
]
theorem tt2 : TIok Tryz.prog 2 ⟨4, false, 0, 1, 8, [.int .i64 0], []⟩ := ⟨by kernel_rfl, by kernel_rfl, by kernel_rfl, by kernel_rfl, by kernel_rfl, by kernel_rfl, by kernel_rfl⟩
theorem tt3 : TIok Tryz.prog 3 ⟨4, false, 0, 1, 8, [.int .i64 0], []⟩ := ⟨by kernel_rfl, by kernel_rfl, by kernel_rfl, by kernel_rfl, by kernel_rfl, by kernel_rfl, by kernel_rfl⟩
theorem tt4 : TIok Tryz.prog 4 ⟨5, false, 0, 1, 1, [.bool false], []⟩ := ⟨by kernel_rfl, by kernel_rfl, by kernel_rfl, by kernel_rfl, by kernel_rfl, by kernel_rfl, by kernel_rfl⟩
theorem tt5 : TIok Tryz.prog 5 ⟨4, false, 0, 1, 1, [.int .u8 0], []⟩ := ⟨by kernel_rfl, by kernel_rfl, by kernel_rfl, by kernel_rfl, by kernel_rfl, by kernel_rfl, by kernel_rfl⟩
theorem Ab : TIok Tryz.prog 22 ⟨1, false, 5, 1, 24, [.nils], []⟩ := ⟨by kernel_rfl, by kernel_rfl, by kernel_rfl, by kernel_rfl, by kernel_rfl, by kernel_rfl, by kernel_rfl⟩
theorem Aa : TIok Tryz.prog 24 ⟨1, false, 44, 1, 24, [.nils], []⟩ := ⟨by kernel_rfl, by kernel_rfl, by kernel_rfl, by kernel_rfl, by kernel_rfl, by kernel_rfl, by kernel_rfl⟩
theorem z9 : TIok Tryz.prog 25 ⟨1, false, 56, 1, 24, [.nils], []⟩ := ⟨by kernel_rfl, by kernel_rfl, by kernel_rfl, by kernel_rfl, by kernel_rfl, by kernel_rfl, by kernel_rfl⟩
theorem z8 : TIok Tryz.prog 27 ⟨3, true, 0, 3, 72, [.nils, .nils, .nils], [(0, 1), (1, 1), (2, 1)]⟩ := ⟨by kernel_rfl, by kernel_rfl, by kernel_rfl, by kernel_rfl, by kernel_rfl, by kernel_rfl, by kernel_rfl⟩
theorem z7 : TIok Tryz.prog 29 ⟨1, false, 2, 1, 24, [.nils], []⟩ := ⟨by kernel_rfl, by kernel_rfl, by kernel_rfl, by kernel_rfl, by kernel_rfl, by kernel_rfl, by kernel_rfl⟩
theorem z6 : TIok Tryz.prog 31 ⟨3, true, 0, 2, 48, [.nils, .nils], [(0, 1), (1, 1)]⟩ := ⟨by kernel_rfl, by kernel_rfl, by kernel_rfl, by kernel_rfl, by kernel_rfl, by kernel_rfl, by kernel_rfl⟩
theorem z5 : TIok Tryz.prog 33 ⟨1, false, 39, 1, 24, [.nils], []⟩ := ⟨by kernel_rfl, by kernel_rfl, by kernel_rfl, by kernel_rfl, by kernel_rfl, by kernel_rfl, by kernel_rfl⟩
theorem z4 : TIok Tryz.prog 39 ⟨3, true, 0, 5, 88, [.int .i64 0, .int .i64 0, .nils, .nils, .nils], [(0, 1), (1, 1), (2, 1), (3, 1), (4, 1)]⟩ := ⟨by kernel_rfl, by kernel_rfl, by kernel_rfl, by kernel_rfl, by kernel_rfl, by kernel_rfl, by kernel_rfl⟩
theorem z3 : TIok Tryz.prog 44 ⟨3, true, 0, 2, 32, [.int .i64 0, .nils], [(0, 1), (1, 1)]⟩ := ⟨by kernel_rfl, by kernel_rfl, by kernel_rfl, by kernel_rfl, by kernel_rfl, by kernel_rfl, by kernel_rfl⟩
theorem z2 : TIok Tryz.prog 45 ⟨1, false, 93, 1, 24, [.nils], []⟩ := ⟨by kernel_rfl, by kernel_rfl, by kernel_rfl, by kernel_rfl, by kernel_rfl, by kernel_rfl, by kernel_rfl⟩
theorem z1 : TIok Tryz.prog 48 ⟨1, false, 95, 1, 24, [.nils], []⟩ := ⟨by kernel_rfl, by kernel_rfl, by kernel_rfl, by kernel_rfl, by kernel_rfl, by kernel_rfl, by kernel_rfl⟩
theorem zZ : TIok Tryz.prog 56 ⟨3, true, 0, 8, 112, [.int .i64 0, .int .i64 0, .int .i64 0, .int .i64 0, .nils, .int .i64 0, .nils, .nils], [(0, 1), (1, 1), (2, 1), (3, 2), (5, 2), (7, 1)]⟩ := ⟨by kernel_rfl, by kernel_rfl, by kernel_rfl, by kernel_rfl, by kernel_rfl, by kernel_rfl, by kernel_rfl⟩
theorem zY : TIok Tryz.prog 63 ⟨6, false, 0, 1, 8, [.nilp], []⟩ := ⟨by kernel_rfl, by kernel_rfl, by kernel_rfl, by kernel_rfl, by kernel_rfl, by kernel_rfl, by kernel_rfl⟩
theorem zX : TIok Tryz.prog 66 ⟨1, false, 24, 1, 24, [.nils], []⟩ := ⟨by kernel_rfl, by kernel_rfl, by kernel_rfl, by kernel_rfl, by kernel_rfl, by kernel_rfl, by kernel_rfl⟩
theorem zW : TIok Tryz.prog 68 ⟨3, true, 0, 5, 104, [.nils, .nils, .nils, .nils, .bool false], [(0, 1), (1, 1), (2, 1), (3, 1), (4, 1)]⟩ := ⟨by kernel_rfl, by kernel_rfl, by kernel_rfl, by kernel_rfl, by kernel_rfl, by kernel_rfl, by kernel_rfl⟩
theorem zV : TIok Tryz.prog 69 ⟨6, false, 0, 1, 8, [.nilp], []⟩ := ⟨by kernel_rfl, by kernel_rfl, by kernel_rfl, by kernel_rfl, by kernel_rfl, by kernel_rfl, by kernel_rfl⟩
theorem zU : TIok Tryz.prog 70 ⟨1, false, 69, 1, 24, [.nils], []⟩ := ⟨by kernel_rfl, by kernel_rfl, by kernel_rfl, by kernel_rfl, by kernel_rfl, by kernel_rfl, by kernel_rfl⟩
theorem zT : TIok Tryz.prog 71 ⟨1, false, 145, 1, 24, [.nils], []⟩ := ⟨by kernel_rfl, by kernel_rfl, by kernel_rfl, by kernel_rfl, by kernel_rfl, by kernel_rfl, by kernel_rfl⟩
theorem zS : TIok Tryz.prog 72 ⟨8, false, 0, 1, 8, [.nilm], []⟩ := ⟨by kernel_rfl, by kernel_rfl, by kernel_rfl, by kernel_rfl, by kernel_rfl, by kernel_rfl, by kernel_rfl⟩
theorem zR : TIok Tryz.prog 74 ⟨3, true, 0, 9, 168, [.nils, .nils, .nils, .nils, .bool false, .nilp, .nils, .nils, .nilm], [(0, 5), (5, 1), (6, 1), (7, 1), (8, 1)]⟩ := ⟨by kernel_rfl, by kernel_rfl, by kernel_rfl, by kernel_rfl, by kernel_rfl, by kernel_rfl, by kernel_rfl⟩
theorem zQ : TIok Tryz.prog 76 ⟨6, false, 0, 1, 8, [.nilp], []⟩ := ⟨by kernel_rfl, by kernel_rfl, by kernel_rfl, by kernel_rfl, by kernel_rfl, by kernel_rfl, by kernel_rfl⟩
theorem zP : TIok Tryz.prog 83 ⟨3, true, 0, 6, 96, [.nils, .nils, .nils, .int .i64 0, .int .i64 0, .int .i64 0], [(0, 2), (2, 1), (3, 1), (4, 1), (5, 1)]⟩ := ⟨by kernel_rfl, by kernel_rfl, by kernel_rfl, by kernel_rfl, by kernel_rfl, by kernel_rfl, by kernel_rfl⟩
theorem zN : TIok Tryz.prog 93 ⟨3, true, 0, 3, 56, [.nils, .int .i64 0, .nils], [(0, 1), (1, 2)]⟩ := ⟨by kernel_rfl, by kernel_rfl, by kernel_rfl, by kernel_rfl, by kernel_rfl, by kernel_rfl, by kernel_rfl⟩
theorem zM : TIok Tryz.prog 95 ⟨1, false, 183, 1, 24, [.nils], []⟩ := ⟨by kernel_rfl, by kernel_rfl, by kernel_rfl, by kernel_rfl, by kernel_rfl, by kernel_rfl, by kernel_rfl⟩
theorem zL : TIok Tryz.prog 96 ⟨4, false, 0, 1, 8, [.int .u64 0], []⟩ := ⟨by kernel_rfl, by kernel_rfl, by kernel_rfl, by kernel_rfl, by kernel_rfl, by kernel_rfl, by kernel_rfl⟩
theorem zJ : TIok Tryz.prog 98 ⟨3, true, 0, 3, 40, [.nils, .int .i64 0, .int .u64 0], [(0, 1), (1, 1), (2, 1)]⟩ := ⟨by kernel_rfl, by kernel_rfl, by kernel_rfl, by kernel_rfl, by kernel_rfl, by kernel_rfl, by kernel_rfl⟩
theorem yI : TIok Tryz.prog 114 ⟨1, false, 160, 1, 24, [.nils], []⟩ := ⟨by kernel_rfl, by kernel_rfl, by kernel_rfl, by kernel_rfl, by kernel_rfl, by kernel_rfl, by kernel_rfl⟩
theorem yH : TIok Tryz.prog 116 ⟨3, true, 0, 6, 96, [.nilp, .nils, .int .i64 0, .nils, .nils, .bool false], [(0, 1), (1, 1), (2, 1), (3, 1), (4, 1), (5, 1)]⟩ := ⟨by kernel_rfl, by kernel_rfl, by kernel_rfl, by kernel_rfl, by kernel_rfl, by kernel_rfl, by kernel_rfl⟩
theorem yG : TIok Tryz.prog 136 ⟨8, false, 0, 1, 8, [.nilm], []⟩ := ⟨by kernel_rfl, by kernel_rfl, by kernel_rfl, by kernel_rfl, by kernel_rfl, by kernel_rfl, by kernel_rfl⟩
theorem yF : TIok Tryz.prog 138 ⟨3, true, 0, 3, 40, [.nils, .nilm, .int .i64 0], [(0, 1), (1, 1), (2, 1)]⟩ := ⟨by kernel_rfl, by kernel_rfl, by kernel_rfl, by kernel_rfl, by kernel_rfl, by kernel_rfl, by kernel_rfl⟩
theorem yE : TIok Tryz.prog 142 ⟨3, true, 0, 6, 112, [.int .i64 0, .nils, .nils, .nils, .nils, .int .i64 0], [(0, 1), (1, 1), (2, 1), (3, 1), (4, 1), (5, 1)]⟩ := ⟨by kernel_rfl, by kernel_rfl, by kernel_rfl, by kernel_rfl, by kernel_rfl, by kernel_rfl, by kernel_rfl⟩
theorem yD : TIok Tryz.prog 145 ⟨6, false, 0, 1, 8, [.nilp], []⟩ := ⟨by kernel_rfl, by kernel_rfl, by kernel_rfl, by kernel_rfl, by kernel_rfl, by kernel_rfl, by kernel_rfl⟩
theorem yC : TIok Tryz.prog 147 ⟨3, true, 0, 3, 24, [.nilp, .int .i64 0, .nilp], [(0, 1), (1, 1), (2, 1)]⟩ := ⟨by kernel_rfl, by kernel_rfl, by kernel_rfl, by kernel_rfl, by kernel_rfl, by kernel_rfl, by kernel_rfl⟩
theorem yB : TIok Tryz.prog 152 ⟨3, true, 0, 10, 144, [.int .i64 0, .int .i64 0, .int .i64 0, .int .i64 0, .nils, .int .i64 0, .nils, .nils, .int .i64 0, .nils], [(0, 8), (8, 1), (9, 1)]⟩ := ⟨by kernel_rfl, by kernel_rfl, by kernel_rfl, by kernel_rfl, by kernel_rfl, by kernel_rfl, by kernel_rfl⟩
theorem yA : TIok Tryz.prog 160 ⟨3, true, 0, 3, 24, [.int .i64 0, .int .i64 0, .int .i64 0], [(0, 1), (1, 1), (2, 1)]⟩ := ⟨by kernel_rfl, by kernel_rfl, by kernel_rfl, by kernel_rfl, by kernel_rfl, by kernel_rfl, by kernel_rfl⟩
theorem yz : TIok Tryz.prog 164 ⟨3, true, 0, 4, 80, [.nils, .int .i64 0, .nils, .nils], [(0, 1), (1, 1), (2, 1), (3, 1)]⟩ := ⟨by kernel_rfl, by kernel_rfl, by kernel_rfl, by kernel_rfl, by kernel_rfl, by kernel_rfl, by kernel_rfl⟩
theorem yy : TIok Tryz.prog 176 ⟨3, true, 0, 3, 40, [.int .i64 0, .nils, .bool false], [(0, 1), (1, 1), (2, 1)]⟩ := ⟨by kernel_rfl, by kernel_rfl, by kernel_rfl, by kernel_rfl, by kernel_rfl, by kernel_rfl, by kernel_rfl⟩
theorem yx : TIok Tryz.prog 183 ⟨3, true, 0, 5, 72, [.int .i64 0, .int .i64 0, .int .i64 0, .nils, .nils], [(0, 1), (1, 1), (2, 2), (4, 1)]⟩ := ⟨by kernel_rfl, by kernel_rfl, by kernel_rfl, by kernel_rfl, by kernel_rfl, by kernel_rfl, by kernel_rfl⟩
theorem yw : TIok Tryz.prog 217 ⟨3, true, 0, 3, 56, [.int .i64 0, .nils, .nils], [(0, 2), (2, 1)]⟩ := ⟨by kernel_rfl, by kernel_rfl, by kernel_rfl, by kernel_rfl, by kernel_rfl, by kernel_rfl, by kernel_rfl⟩
theorem yv : TIok Tryz.prog 222 ⟨1, false, 226, 1, 24, [.nils], []⟩ := ⟨by kernel_rfl, by kernel_rfl, by kernel_rfl, by kernel_rfl, by kernel_rfl, by kernel_rfl, by kernel_rfl⟩
theorem yu : TIok Tryz.prog 226 ⟨3, true, 0, 3, 56, [.int .i64 0, .nils, .nils], [(0, 1), (1, 1), (2, 1)]⟩ := ⟨by kernel_rfl, by kernel_rfl, by kernel_rfl, by kernel_rfl, by kernel_rfl, by kernel_rfl, by kernel_rfl⟩
theorem yr : TIok Tryz.prog 241 ⟨1, false, 217, 1, 24, [.nils], []⟩ := ⟨by kernel_rfl, by kernel_rfl, by kernel_rfl, by kernel_rfl, by kernel_rfl, by kernel_rfl, by kernel_rfl⟩
theorem yq : TIok Tryz.prog 244 ⟨1, false, 3, 1, 24, [.nils], []⟩ := ⟨by kernel_rfl, by kernel_rfl, by kernel_rfl, by kernel_rfl, by kernel_rfl, by kernel_rfl, by kernel_rfl⟩
theorem yp : TTok Tryz.prog tt := ⟨tt2, tt3, tt4, tt5, Ab, Aa, z9, z8, z7, z6, z5, z4, z3, z2, z1, zZ, zY, zX, zW, zV, zU, zT, zS, zR, zQ, zP, zN, zM, zL, zJ, yI, yH, yG, yF, yE, yD, yC, yB, yA, yz, yy, yx, yw, yv, yu, yr, yq, trivial⟩
theorem tb : TTplain tt = true := by kernel_rfl
theorem wc : Tryz.prog.follows .mixedOrders = true := by kernel_rfl
theorem ag {σ : Sg} {Q : Exit → St → Prop} {s : St} {id : Nat} {l : List Oper} {y : Code} (h : AOps σ l.toArray (kv (AWP σ y Q) Q) l s) : AWP σ (.seq (.region id l.toArray false) y) Q s := AWP.seq (AWP.region h)
theorem jn {σ : Sg} {Q : Exit → St → Prop} {s : St} {all : Array Oper} (h : Q .normal s) : AOps σ all Q [] s := AOps.nil h
theorem bn {σ : Sg} {Q : Exit → St → Prop} {s : St} {all : Array Oper} {id : Nat} {l : List Oper} {y : Code} (h : AOps σ l.toArray (kv (AWP σ y Q) Q) l s) : AOps σ all (kv (AWP σ (.seq (.region id l.toArray false) y) Q) Q) [] s := AOps.nil (AWP.seq (AWP.region h))
theorem cf : (∀ {α β : Type} {f : α → β} {l : List α}, (l.map f).length = l.length) ∧ (∀ {α : Type} [BEq α] [LawfulBEq α] {a b : α}, (a == b) = true ↔ a = b) ∧ (∀ {p : Prop} [Decidable p], (decide p = true) = p) ∧ (∀ {p : Prop} [Decidable p], (decide p = false) ↔ ¬ p) ∧ (∀ {b : Bool}, ((!b) = true) = (b = false)) ∧ (∀ {b : Bool}, ((!b) = false) = (b = true)) ∧ ((!true) = false) ∧ ((!false) = true) ∧ (∀ {a b : Int}, ¬ a < b ↔ b ≤ a) ∧ (∀ {a b : Int}, ¬ a ≤ b ↔ b < a) := by
 refine ⟨?_, ?_, ?_, ?_, ?_, ?_, ?_, ?_, ?_, ?_⟩ <;> intros <;> simp
theorem ap {σ : Sg} {Q : cx} {all : Array Oper} {l : List Oper} {e : List (Nat × A)} {H H' : List (Nat × B)} (K : AOps σ all Q l ⟨e, H'⟩) (h : HN H H' := by repeat' (first | apply HN.cons rfl | exact HN.nil rfl | exact BN.row rfl | exact BN.map rfl | apply BN.box rfl | apply MN.cons rfl | exact MN.nil rfl | exact XN.d rfl | exact XN.rs rfl | exact ll)) : AOps σ all Q l ⟨e, H⟩ := rW h K
theorem bK {σ : Sg} {Q : Exit → St → Prop} {c : Code} {e : List (Nat × A)} {H H' : List (Nat × B)} (K : AWP σ c Q ⟨e, H'⟩) (h : HN H H' := by repeat' (first | apply HN.cons rfl | exact HN.nil rfl | exact BN.row rfl | exact BN.map rfl | apply BN.box rfl | apply MN.cons rfl | exact MN.nil rfl | exact XN.d rfl | exact XN.rs rfl | exact ll)) : AWP σ c Q ⟨e, H⟩ := t7 h K
def xH (e : List (Nat × A)) : List Nat → Option (List (Nat × A))
  | [] => some []
  | k :: ks => match lk e k, xH e ks with
    | some v, some r => some ((k, v) :: r)
    | _, _ => none
theorem nF {e : List (Nat × A)} : ∀ {ks : List Nat} {e' : List (Nat × A)}, xH e ks = some e' → envSub e e'
 | [], e', h => by cases h; trivial
 | k :: ks, e', h => by
  unfold xH at h
  split at h
  rename_i v r h1 h2
  cases h
  exact ⟨h1, nF h2⟩
  cases h
theorem jf {σ : Sg} {Q : Exit → St → Prop} {all : Array Oper} {l : List Oper} {e e' : List (Nat × A)} {H : List (Nat × B)} (ks : List Nat) (h : xH e ks = some e') (K : AOps σ all Q l ⟨e', H⟩) : AOps σ all Q l ⟨e, H⟩ := ph e' (nF h) K
theorem jw {σ : Sg} {Q : Exit → St → Prop} {c : Code} {e e' : List (Nat × A)} {H : List (Nat × B)} (ks : List Nat) (h : xH e ks = some e') (K : AWP σ c Q ⟨e', H⟩) : AWP σ c Q ⟨e, H⟩ := qp e' (nF h) K


noncomputable abbrev SG (L nt : Nat) : Sg := ⟨Tryz.prog, tt, L, nt, []⟩
theorem uo {L nt} (h1 : 4096 ≤ L) (h2 : L ≤ 9223372036854775807) : SgOk (SG L nt) := ⟨yp, tb, h1, h2, wc⟩
theorem jB {L f : Nat} {fn : Func} {c : Code} {args : List A} {Q : A → List (Nat × B) → Prop} (nt : Nat) (h1 : 4096 ≤ L) (h2 : L ≤ 1073741824) (hf : Tryz.prog.funcs[f]? = some fn) (hb : fn.body = some c) (hnt : fn.ntmps = nt) (ha : Nat.ble args.length nt = true) (h : SgOk (SG L nt) → As.fact L args → AWP (SG L nt) c (fun e s => (e = .ret ∨ e = .normal) ∧ ∃ s2, Ent (SG L nt) s s2 ∧ ∃ res, fA tt s2 fn.results.toList = some res ∧ Q res s2.H) ⟨cQ 0 args, []⟩) (hn : (fn.name == "runtime.NumGoroutine") = false := by kernel_rfl) : MC Tryz.prog L f args [] Q := have hσ := uo (nt := nt) h1 (Nat.le_trans h2 (by decide)); MC.body hσ hf hn hb hnt (Nat.le_of_ble_eq_true ha) (h hσ)
theorem jH {L f : Nat} {fn : Func} {c : Code} {args : List A} {Hin : List (Nat × B)} {Q : A → List (Nat × B) → Prop} (nt : Nat) (ks : List Nat) (h1 : 4096 ≤ L) (h2 : L ≤ 1073741824) (hf : Tryz.prog.funcs[f]? = some fn) (hb : fn.body = some c) (hnt : fn.ntmps = nt) (hi : ks = Hin.map (·.1)) (ha : Nat.ble args.length nt = true) (h : SgOk ⟨Tryz.prog, tt, L, nt, ks⟩ → As.fact L args → AWP ⟨Tryz.prog, tt, L, nt, ks⟩ c (fun e s => (e = .ret ∨ e = .normal) ∧ ∃ s2, Ent ⟨Tryz.prog, tt, L, nt, ks⟩ s s2 ∧ ∃ res, fA tt s2 fn.results.toList = some res ∧ Q res s2.H) ⟨cQ 0 args, Hin⟩) (hn : (fn.name == "runtime.NumGoroutine") = false := by kernel_rfl) : MC Tryz.prog L f args Hin Q := have hσ := nV (js := ks) (uo (nt := nt) h1 (Nat.le_trans h2 (by decide))); t5 hσ hf hn hb hnt hi (Nat.le_of_ble_eq_true ha) (h hσ)
abbrev MQ {L : Nat} (h1 : 4096 ≤ L) (h2 : L ≤ 1073741824) (f : Nat) (ds : List A) (Hin : List (Nat × B)) (Q : A → List (Nat × B) → Prop) : Prop := MC Tryz.prog L f ds Hin Q
abbrev eI (n : Int) : A := .c (.d (.int .i64 n))
abbrev eB (b : Bool) : A := .c (.d (.bool b))
abbrev cG (xs : List Int) : D := .slc 1 (xs.map fun n => [.int .i64 n])
structure Tm where
  c : Int
  xs : List Int
  deriving Inhabited
abbrev Tm.cells (t : Tm) : List D := [.int .i64 t.c, cG t.xs]
abbrev ptr (cs : List D) : A := .c (.d (.ptr cs 0))
def num (x : Int) : Bool := decide (-1000000 ≤ x) && decide (x ≤ 1000000)
def Tm.ok (t : Tm) : Bool := !(bif (bif !num t.c then true else decide ((10 : Int) < t.xs.length)) then true else bif decide ((0 : Int) < t.xs.length) then decide (t.xs.getD ((t.xs.length : Int) - 1).toNat default = 0) else false) && t.xs.all num
theorem kb {α : Type} {p : α → Bool} {xs : List α} (h : ∀ j (hj : j < xs.length), p xs[j] = true) : xs.all p = true := by
 rw [List.all_eq_true]; intro x hx
 obtain ⟨j, hj, rfl⟩ := List.mem_iff_getElem.1 hx
 exact h j hj
theorem iu {α : Type} {p : α → Bool} {xs : List α} (j : Nat) (hj : j < xs.length) (h : p xs[j] = false) : xs.all p = false := by
 rw [List.all_eq_false]; exact ⟨xs[j], List.getElem_mem _, by simp [h]⟩
theorem aM {α : Type} [Inhabited α] {xs : List α} {j : Nat} (hj : j < xs.length) : xs.getD j default = xs[j] := by simp [hj]

theorem xN {x lo hi : Int} : MQ h1 h2 65 [eI x, eI lo, eI hi] [] (Plain (eB (decide (lo ≤ x) && decide (x ≤ hi)))) := by
 refine aY ?_ Z
 refine jB 15 h1 h2 Tryz.func65 Z Z Z fun O hF => ?_
 refine ag (js O Z (bn (j4 O Z Z Z Z (aw 3 Z Z Z (fun hx => ab hx Z Z Z (V O Z) Z Z ( ab hx Z Z Z (V O Z) Z Z ( ab hx Z Z Z (V O Z) Z Z ( AN.nil)))) Z Z (aa (ar O Z Z Z Z Z) Z Z Z (js O Z (jr ?_)))))))
 refine ⟨.inl Z, _, av, _, Z, ?_⟩
 rw [Bool.cond_false_right]
theorem yd {x : Int} : MQ h1 h2 93 [eI x] [] (Plain (eB (num x))) := by
 refine aY ?_ Z
 refine jB 5 h1 h2 Tryz.func93 Z Z Z fun O hF => ?_
 refine ag (js O Z (bn (js O Z (aB O Z Z Z Z (xN h1 h2) (af Z) Z Z Z Z Z (B0 := 5000) Z (js O Z (jr ?_))))))
 refine ⟨.inl Z, _, av, _, Z, ?_⟩
 first | rfl | skip
theorem yh {t : Tm} : MQ h1 h2 60 [ptr t.cells] [] (Plain (eB t.ok)) := by
 refine aY ?_ Z
 refine jB 49 h1 h2 Tryz.func60 Z Z Z fun O hF => ?_
 have hl : t.xs.length ≤ L := by simpa [As.fact, A.fact, M.fact, D.fact, Ds.fact] using hF.1.2.1.1
 refine ag (js O Z (bn (j4 O Z Z Z Z (eK O Z (js O Z (jn (ah (ag (j4 O Z Z Z Z (aB O Z Z Z Z (yd h1 h2) (af Z) Z Z Z Z Z (B0 := 15000) Z (j2 O Z Z (aw 2 Z Z Z (fun hx => ab hx Z Z Z (V O Z) Z Z ( ab hx Z Z Z (V O Z) Z Z ( AN.nil))) Z Z (aa (bi O Z Z Z Z Z) Z Z Z (js O Z (aw 13 Z Z Z (fun hx => ab hx Z Z Z (V O Z) Z Z ( ab hx Z Z Z (V O Z) Z Z ( ab hx Z Z Z (V O Z) Z Z ( lA 9 Z Z Z Z (fun hx' => ab hx' Z Z Z (V O Z) Z Z ( ab hx' Z Z Z (V O Z) Z Z ( ab hx' Z Z Z (V O Z) Z Z ( ab hx' Z Z Z (V O Z) Z Z ( ab hx' Z Z Z (V O Z) Z Z ( ab hx' Z Z Z (vF O Z) Z Z ( ab hx' Z Z Z (vD O Z) Z Z ( ab hx' Z Z Z (V O Z) Z Z ( ab hx' Z Z Z (V O Z) Z Z ( AN.nil)))))))))) Z Z ( ab hx Z Z Z (ar O Z Z Z Z Z) Z Z ( AN.nil)))))) Z Z (aa (bi O Z Z Z Z Z) Z Z Z (jn (ae O Z Z (fun hc34 => ?_) (fun hc34 => ?_)))))))))))))))))))
 try simp only [cf] at hc34
 refine ag (js O Z (jr ?_))
 refine ⟨.inl Z, _, av, _, Z, ?_⟩
 simp only [Tm.ok, hc34, Bool.not_true, Bool.false_and]
 try simp only [cf] at hc34
 refine ak (ah (ag (js O Z (jn (aq (aH (X := Nat) (fun i => ⟨[(0, ptr t.cells), (3, eI t.xs.length), (4, eI i)], []⟩) (fun i => i ≤ t.xs.length ∧ ∀ j (h : j < t.xs.length), j < i → num t.xs[j] = true) (fun i => t.xs.length - i) 0 (Ent.env ⟨Z, Z, Z, trivial⟩) ?_ (fun i hi => ?_)))))))
 exact ⟨dF _, fun j h hj => absurd hj (Nat.not_lt_zero j)⟩
 refine ah (ag (j3 O Z Z Z (jn (ae O Z Z (fun hc37 => ?_) (fun hc37 => ?_)))))
 try simp only [cf] at hc37
 refine ak (ah (aq (ag (j4 O Z Z Z Z (js O Z (pq O Z Z (js O Z (aB O Z Z Z Z (yd h1 h2) (af Z) Z Z Z Z Z (B0 := 48000) Z (js O Z (jn (ae O Z Z (fun hc48 => ?_) (fun hc48 => ?_))))))))))))
 try simp only [cf] at hc48
 refine ag (js O Z (jr ?_))
 refine ⟨.inl Z, _, av, _, Z, ?_⟩
 rw [Int.toNat_natCast, aM (by omega)] at hc48
 simp only [Tm.ok, iu i (by omega) hc48, Bool.and_false]
 try simp only [cf] at hc48
 refine ak (an (js O Z (ji O Z (js O Z (jn ?_)))))
 refine ⟨i + 1, Ent.env ⟨Z, Z, Z, trivial⟩, ⟨by omega, fun j h hj => ?_⟩, by omega⟩
 by_cases e : j = i
 subst e; rw [Int.toNat_natCast, aM h] at hc48; exact hc48
 exact hi.2 j h (by omega)
 try simp only [cf] at hc37
 refine bH (ag (js O Z (jr ?_)))
 refine ⟨.inl Z, _, av, _, Z, ?_⟩
 simp only [Tm.ok, hc34, Bool.not_false, Bool.true_and]
 rw [kb (fun j hj => hi.2 j hj (by omega))]
abbrev aA (xs : List Int) : B := .row true 1 (xs.map fun n => [.int .i64 n])
abbrev cz (xs : List Int) : A := .c (.d (cG xs))
variable {xs : List Int}
theorem vW : MQ h1 h2 59 [cz xs] [] (Rows (.c (.rs 0 0 xs.length)) [aA xs]) := by
 refine db (jB 6 h1 h2 Tryz.func59 Z Z Z fun O hF => ?_)
 have hl : xs.length ≤ L := by simpa [As.fact, A.fact, M.fact, D.fact, Ds.fact] using hF.1.1
 refine ?_
 refine ag (js O Z (bn (AOps.heap (bB O Z Z Z) Z (js O Z (AOps.heap (bk (own := true) O Z Z Z Z Z Z Z Z Z Z Z Z Z Z Z Z (.row Z Z) (.slc (.inr (Scal.map (fun _ => rfl)))) (by simp) Z (by first | omega | (dsimp only [cw, iX, List.length_nil]; omega) | (simp only [cf] at *; omega) | (simp; omega)) (by first | omega | (dsimp only [cw, iX, List.length_nil]; omega) | (simp only [cf] at *; omega) | (simp; omega)) Z Z) Z (js O Z (jr ?_)))))))
 refine ⟨.inl Z, _, av, _, Z, [5], by decide, Z, ?_, ?_⟩
 simp [A.lab, M.lab]
 rfl
theorem sq : MQ h1 h2 88 [cz xs] [] (Rows (.c (.rs 0 0 xs.length)) [aA xs]) := by
 refine db (jB 6 h1 h2 Tryz.func88 Z Z Z fun O hF => ?_)
 have hl : xs.length ≤ L := by simpa [As.fact, A.fact, M.fact, D.fact, Ds.fact] using hF.1.1
 refine ?_
 refine ag (js O Z (bn (AOps.heap (bB O Z Z Z) Z (js O Z (AOps.heap (bk (own := true) O Z Z Z Z Z Z Z Z Z Z Z Z Z Z Z Z (.row Z Z) (.slc (.inr (Scal.map (fun _ => rfl)))) (by simp) Z (by first | omega | (dsimp only [cw, iX, List.length_nil]; omega) | (simp only [cf] at *; omega) | (simp; omega)) (by first | omega | (dsimp only [cw, iX, List.length_nil]; omega) | (simp only [cf] at *; omega) | (simp; omega)) Z Z) Z (js O Z (jr ?_)))))))
 refine ⟨.inl Z, _, av, _, Z, [5], by decide, Z, ?_, ?_⟩
 simp [A.lab, M.lab]
 rfl

deriving instance DecidableEq for Tm
abbrev e6 (ts : List Tm) : D := .slc 2 (ts.map Tm.cells)
abbrev cW (ts : List Tm) : A := .c (.d (e6 ts))
abbrev xP (ts : List Tm) : B := .row true 2 (ts.map Tm.cells)


structure Sm where
  kind : Int
  var : Int
  event : Int
  sum : Tm
  index : Tm
  facts : List Tm
  deriving Inhabited, DecidableEq
abbrev Sm.cells (s : Sm) : List D := [.int .i64 s.kind, .int .i64 s.var, .int .i64 s.event, .int .i64 s.sum.c, cG s.sum.xs, .int .i64 s.index.c, cG s.index.xs, e6 s.facts]
abbrev aSm (s : Sm) : A := .agg (s.cells.map .d)
abbrev ie (ts : List Sm) : D := .slc 8 (ts.map Sm.cells)
structure Pm where
  pre : List Tm
  body : List Sm
  post : List Tm
  deriving Inhabited, DecidableEq
structure Sx where
  vars : List Int
  cells : List Int
  deriving Inhabited, DecidableEq
abbrev Pm.data (p : Pm) : List D := [e6 p.pre, ie p.body, e6 p.post]
abbrev Sx.data (s : Sx) : List D := [cG s.vars, cG s.cells]
abbrev lc (p : Pm) : A := .agg (p.data.map .d)
abbrev vM (s : Sx) : A := .agg (s.data.map .d)

def vk {α : Type} (f : Int → α → α) (sz : α → Nat) : Int → List α → List α
  | _, [] => []
  | k, a :: r => f k a :: vk f sz (k + sz a) r
def zx {α : Type} (sz : α → Nat) (l : List α) : Nat := (l.map sz).sum
def mk {α : Type} (f : Int → α → α) (sz : α → Nat) (k : Int) (i : Nat) (l : List α) : List α := vk f sz k (l.take i) ++ l.drop i
section
variable {α : Type} {f : Int → α → α} {sz : α → Nat}
end

end Go.Al
