/- What three functions of Go's library answer (printed by the kit's tool). -/
import Derived.Shelf.Strconv.Itoa0
import Derived.Shelf.Strconv.Itoa1
import Derived.Shelf.LaysM
import Derived.Shelf.Strconv.Itoa2
import Derived.Shelf.Strconv.Itoa3
import Derived.Shelf.Strconv.Itoa4
import Derived.Shelf.Strings.Search1
import Derived.Shelf.Strings.Search2
import Derived.Shelf.Strings.Search3
import Derived.Shelf.Strings.Cut
import Derived.Shelf.Strings.Count
import Derived.Shelf.Strings.Split
import Derived.Test.YtlofbdghppgnbaaDoorProg
/-
  DERIVED: THE SHELF's CONTRACTS AT THIS DUMP, IN PLAIN WORDS (tools/lay-plain.mjs out of 'TrydShelf.lean', which tools/lay-shelf.mjs wrote): THE SAME DECLARATIONS UNDER THE SAME NAMES: 'import', 'namespace', 'open', 'def', 'theorem' AND NOTHING ELSE: no command of the shelf's: FOR A HAND-IN. Each laying: the table of numbers ('.._ren') and one theorem, a field a fact of the dump's own or the kernel's comparison; each contract: ONE APPLICATION.
-/
namespace Go.Proofs
open Go.Shelf
def Tryd.laysM173_ren : Go.Shelf.Ren := ⟨fun | 173 => 90 | 246 => 104 | 283 => 118 | 284 => 119 | 285 => 120 | 286 => 121 | 129 => 132 | 317 => 131 | 318 => 133 | 319 => 134 | 320 => 135 | 337 => 141 | 338 => 142 | n => n, fun | 2 => 2 | 3 => 3 | 9 => 9 | 4 => 4 | 171 => 147 | 0 => 0 | 53 => 87 | 37 => 22 | 5 => 5 | 173 => 150 | 212 => 162 | 51 => 152 | 20 => 20 | 213 => 163 | 46 => 122 | 232 => 179 | 233 => 180 | n => n, fun | 17 => 1 | 18 => 6 | 19 => 7 | n => n⟩
theorem Tryd.laysM173 : Go.Proofs.LaysM.n173 Tryd.prog Tryd.laysM173_ren := {
 mixed := by kernel_rfl
 f129 := Tryd.func132.trans (congrArg some (by kernel_rfl))
 f173 := Tryd.func90.trans (congrArg some (by kernel_rfl))
 f246 := Tryd.func104.trans (congrArg some (by kernel_rfl))
 f283 := Tryd.func118.trans (congrArg some (by kernel_rfl))
 f284 := Tryd.func119.trans (congrArg some (by kernel_rfl))
 f285 := Tryd.func120.trans (congrArg some (by kernel_rfl))
 f286 := Tryd.func121.trans (congrArg some (by kernel_rfl))
 f317 := Tryd.func131.trans (congrArg some (by kernel_rfl))
 f318 := Tryd.func133.trans (congrArg some (by kernel_rfl))
 f319 := Tryd.func134.trans (congrArg some (by kernel_rfl))
 f320 := Tryd.func135.trans (congrArg some (by kernel_rfl))
 f337 := Tryd.func141.trans (congrArg some (by kernel_rfl))
 f338 := Tryd.func142.trans (congrArg some (by kernel_rfl))
 t0 := Tryd.underlying0
 a0 := Tryd.isAgg0
 z0 := Tryd.sizeOf0
 v0 := Tryd.zeroValue0
 t2 := Tryd.underlying2
 a2 := Tryd.isAgg2
 z2 := Tryd.sizeOf2
 v2 := Tryd.zeroValue2
 t3 := Tryd.underlying3
 a3 := Tryd.isAgg3
 z3 := Tryd.sizeOf3
 v3 := Tryd.zeroValue3
 t4 := Tryd.underlying4
 a4 := Tryd.isAgg4
 z4 := Tryd.sizeOf4
 v4 := Tryd.zeroValue4
 t5 := Tryd.underlying5
 a5 := Tryd.isAgg5
 z5 := Tryd.sizeOf5
 v5 := Tryd.zeroValue5
 t9 := Tryd.underlying9
 a9 := Tryd.isAgg9
 z9 := Tryd.sizeOf9
 v9 := Tryd.zeroValue9
 t20 := Tryd.underlying20
 a20 := Tryd.isAgg20
 z20 := Tryd.sizeOf20
 v20 := Tryd.zeroValue20
 t37 := Tryd.underlying22
 a37 := Tryd.isAgg22
 z37 := Tryd.sizeOf22
 v37 := Tryd.zeroValue22
 t46 := Tryd.underlying122
 a46 := Tryd.isAgg122
 z46 := Tryd.sizeOf122
 v46 := Tryd.zeroValue122
 t51 := Tryd.underlying152
 a51 := Tryd.isAgg152
 z51 := Tryd.sizeOf152
 v51 := Tryd.zeroValue152
 t53 := Tryd.underlying87
 a53 := Tryd.isAgg87
 z53 := Tryd.sizeOf87
 v53 := Tryd.zeroValue87
 t171 := Tryd.underlying147
 a171 := Tryd.isAgg147
 z171 := Tryd.sizeOf147
 v171 := Tryd.zeroValue147
 t173 := Tryd.underlying150
 a173 := Tryd.isAgg150
 z173 := Tryd.sizeOf150
 v173 := Tryd.zeroValue150
 t212 := Tryd.underlying162
 a212 := Tryd.isAgg162
 z212 := Tryd.sizeOf162
 v212 := Tryd.zeroValue162
 t213 := Tryd.underlying163
 a213 := Tryd.isAgg163
 z213 := Tryd.sizeOf163
 t232 := Tryd.underlying179
 a232 := Tryd.isAgg179
 z232 := Tryd.sizeOf179
 v232 := Tryd.zeroValue179
 t233 := Tryd.underlying180
 a233 := Tryd.isAgg180
 z233 := Tryd.sizeOf180
 v233 := Tryd.zeroValue180
 g17 := by kernel_rfl
 g18 := by kernel_rfl
 g19 := by kernel_rfl
 i0 := by kernel_rfl
 i2 := by kernel_rfl
 i3 := by kernel_rfl
 i4 := by kernel_rfl
 i5 := by kernel_rfl
 i9 := by kernel_rfl
 i20 := by kernel_rfl
 i37 := by kernel_rfl
 i46 := by kernel_rfl
 i51 := by kernel_rfl
 i53 := by kernel_rfl
 i171 := by kernel_rfl
 i173 := by kernel_rfl
 i212 := by kernel_rfl
 i232 := by kernel_rfl
 i233 := by kernel_rfl
 m17 := by kernel_rfl
 m18 := by kernel_rfl
 m19 := by kernel_rfl }
open Go.RowKit Go.Sort Go.Lib in
/-- strconv.FormatInt: "FormatInt returns the string representation of i in the given base": AT BASE 10: i's decimal numeral, for every int64. (LAID: no walk: one application.) -/
theorem Tryd.strconv_FormatInt_10 (n : Int) (h0 : -9223372036854775808 ≤ n) (h1 : n ≤ 9223372036854775807) (w : World) (htab : Lib.TabIs Tryd.prog w "internal/strconv.uint64pow10" .u64 Lib.pow10Tab) :
  Calls Tryd.prog 90 #[.int .i64 n, .int .i64 10] w fun e w' => e = .returned (.string ⟨(Lib.itoa n).toArray⟩) ∧ ∃ k os, w' = grow (w.drewN k) os := Any.strconv_FormatInt_10 Tryd.laysM173 n h0 h1 w htab
def Tryd.lays145_ren : Go.Shelf.Ren := ⟨fun | 145 => 38 | 220 => 73 | 219 => 91 | 217 => 105 | 225 => 106 | 224 => 107 | 267 => 108 | 266 => 122 | 314 => 123 | n => n, fun | 9 => 9 | 4 => 4 | 59 => 64 | 3 => 3 | 5 => 5 | 46 => 122 | 146 => 153 | 51 => 152 | n => n, fun | 1 => 0 | n => n⟩
theorem Tryd.lays145 : Go.Proofs.Lays.n145 Tryd.prog Tryd.lays145_ren := {
 mixed := by kernel_rfl
 f145 := Tryd.func38.trans (congrArg some (by kernel_rfl))
 f217 := Tryd.func105.trans (congrArg some (by kernel_rfl))
 f219 := Tryd.func91.trans (congrArg some (by kernel_rfl))
 f220 := Tryd.func73.trans (congrArg some (by kernel_rfl))
 f224 := Tryd.func107.trans (congrArg some (by kernel_rfl))
 f225 := Tryd.func106.trans (congrArg some (by kernel_rfl))
 f266 := Tryd.func122.trans (congrArg some (by kernel_rfl))
 f267 := Tryd.func108.trans (congrArg some (by kernel_rfl))
 f314 := Tryd.func123.trans (congrArg some (by kernel_rfl))
 t3 := Tryd.underlying3
 a3 := Tryd.isAgg3
 z3 := Tryd.sizeOf3
 v3 := Tryd.zeroValue3
 t4 := Tryd.underlying4
 a4 := Tryd.isAgg4
 z4 := Tryd.sizeOf4
 v4 := Tryd.zeroValue4
 t5 := Tryd.underlying5
 a5 := Tryd.isAgg5
 z5 := Tryd.sizeOf5
 v5 := Tryd.zeroValue5
 t9 := Tryd.underlying9
 a9 := Tryd.isAgg9
 z9 := Tryd.sizeOf9
 v9 := Tryd.zeroValue9
 t46 := Tryd.underlying122
 a46 := Tryd.isAgg122
 z46 := Tryd.sizeOf122
 v46 := Tryd.zeroValue122
 t51 := Tryd.underlying152
 a51 := Tryd.isAgg152
 z51 := Tryd.sizeOf152
 v51 := Tryd.zeroValue152
 t59 := Tryd.underlying64
 a59 := Tryd.isAgg64
 z59 := Tryd.sizeOf64
 v59 := Tryd.zeroValue64
 t146 := Tryd.underlying153
 a146 := Tryd.isAgg153
 z146 := Tryd.sizeOf153
 v146 := Tryd.zeroValue153
 g1 := by kernel_rfl }
open Go.RowKit Go.Lib in
/-- strings.Cut: "Cut slices s around the first instance of sep, returning the text before and after sep. The found result reports whether sep appears in s. If sep does not appear in s, cut returns s, "", false.": IT RETURNS 'Lib.cut s sep'; the world is as it was but for the count of draws. (LAID: no walk: one application.) -/
theorem Tryd.strings_Cut (s sep : ByteArray) (m : Int) (w : World) (hs : s.size < 4294967281) (hm : w.cell? ⟨0, 0, none⟩ = some (.int .i64 m)) :
  Calls Tryd.prog 38 #[.string s, .string sep] w fun e w' => e = .returned (.tuple #[.string ⟨(Lib.cut s.data.toList sep.data.toList).1.toArray⟩, .string ⟨(Lib.cut s.data.toList sep.data.toList).2.1.toArray⟩, .bool (Lib.cut s.data.toList sep.data.toList).2.2]) ∧ ∃ n, w' = w.drewN n := Any.strings_Cut Tryd.lays145 s sep m w hs hm
def Tryd.lays146_ren : Go.Shelf.Ren := ⟨fun | 146 => 39 | 221 => 74 | 268 => 92 | 138 => 93 | 143 => 94 | 195 => 109 | 197 => 110 | 218 => 111 | 219 => 91 | 260 => 124 | 217 => 105 | 225 => 106 | 224 => 107 | 267 => 108 | 266 => 122 | 314 => 123 | n => n, fun | 9 => 9 | 31 => 66 | 3 => 3 | 4 => 4 | 0 => 0 | 105 => 142 | 21 => 21 | 5 => 5 | 46 => 122 | 119 => 165 | 139 => 168 | 138 => 167 | 146 => 153 | 51 => 152 | n => n, fun | 1 => 0 | 3 => 2 | 4 => 3 | n => n⟩
theorem Tryd.lays146 : Go.Proofs.Lays.n146 Tryd.prog Tryd.lays146_ren := {
 mixed := by kernel_rfl
 f138 := Tryd.func93.trans (congrArg some (by kernel_rfl))
 f143 := Tryd.func94.trans (congrArg some (by kernel_rfl))
 f146 := Tryd.func39.trans (congrArg some (by kernel_rfl))
 f195 := Tryd.func109.trans (congrArg some (by kernel_rfl))
 f197 := Tryd.func110.trans (congrArg some (by kernel_rfl))
 f217 := Tryd.func105.trans (congrArg some (by kernel_rfl))
 f218 := Tryd.func111.trans (congrArg some (by kernel_rfl))
 f219 := Tryd.func91.trans (congrArg some (by kernel_rfl))
 f221 := Tryd.func74.trans (congrArg some (by kernel_rfl))
 f224 := Tryd.func107.trans (congrArg some (by kernel_rfl))
 f225 := Tryd.func106.trans (congrArg some (by kernel_rfl))
 f260 := Tryd.func124.trans (congrArg some (by kernel_rfl))
 f266 := Tryd.func122.trans (congrArg some (by kernel_rfl))
 f267 := Tryd.func108.trans (congrArg some (by kernel_rfl))
 f268 := Tryd.func92.trans (congrArg some (by kernel_rfl))
 f314 := Tryd.func123.trans (congrArg some (by kernel_rfl))
 t0 := Tryd.underlying0
 a0 := Tryd.isAgg0
 z0 := Tryd.sizeOf0
 v0 := Tryd.zeroValue0
 t3 := Tryd.underlying3
 a3 := Tryd.isAgg3
 z3 := Tryd.sizeOf3
 v3 := Tryd.zeroValue3
 t4 := Tryd.underlying4
 a4 := Tryd.isAgg4
 z4 := Tryd.sizeOf4
 v4 := Tryd.zeroValue4
 t5 := Tryd.underlying5
 a5 := Tryd.isAgg5
 z5 := Tryd.sizeOf5
 v5 := Tryd.zeroValue5
 t9 := Tryd.underlying9
 a9 := Tryd.isAgg9
 z9 := Tryd.sizeOf9
 v9 := Tryd.zeroValue9
 t21 := Tryd.underlying21
 a21 := Tryd.isAgg21
 z21 := Tryd.sizeOf21
 v21 := Tryd.zeroValue21
 t31 := Tryd.underlying66
 a31 := Tryd.isAgg66
 z31 := Tryd.sizeOf66
 v31 := Tryd.zeroValue66
 t46 := Tryd.underlying122
 a46 := Tryd.isAgg122
 z46 := Tryd.sizeOf122
 v46 := Tryd.zeroValue122
 t51 := Tryd.underlying152
 a51 := Tryd.isAgg152
 z51 := Tryd.sizeOf152
 v51 := Tryd.zeroValue152
 t105 := Tryd.underlying142
 a105 := Tryd.isAgg142
 z105 := Tryd.sizeOf142
 v105 := Tryd.zeroValue142
 t119 := Tryd.underlying165
 a119 := Tryd.isAgg165
 z119 := Tryd.sizeOf165
 t138 := Tryd.underlying167
 a138 := Tryd.isAgg167
 z138 := Tryd.sizeOf167
 v138 := Tryd.zeroValue167
 t139 := Tryd.underlying168
 a139 := Tryd.isAgg168
 z139 := Tryd.sizeOf168
 v139 := Tryd.zeroValue168
 t146 := Tryd.underlying153
 a146 := Tryd.isAgg153
 z146 := Tryd.sizeOf153
 v146 := Tryd.zeroValue153
 g1 := by kernel_rfl
 g3 := by kernel_rfl
 g4 := by kernel_rfl }
open Go.RowKit Go.Lib in
/-- strings.Split. (LAID: no walk: one application.) -/
theorem Tryd.strings_Split (s sep : ByteArray) (m : Int) (w : World) (hs : s.size < 4294967281) (hm : w.cell? ⟨0, 0, none⟩ = some (.int .i64 m)) (h1 : 1 ≤ sep.size) :
  Calls Tryd.prog 39 #[.string s, .string sep] w fun e w' =>
   e = .returned (.slice (some ⟨w.heap.size, 0, none⟩) (Lib.countB s sep + 1) (Lib.countB s sep + 1)) ∧ w' = w.alloc (.cells ((Lib.splitB sep 0 (Lib.countB s sep) s).map Value.string).toArray 9) := Any.strings_Split Tryd.lays146 (by kernel_rfl) s sep m w hs hm h1
end Go.Proofs
