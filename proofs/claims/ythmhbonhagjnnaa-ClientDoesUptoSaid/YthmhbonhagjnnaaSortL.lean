/-
  DERIVED: THE SHELF's CONTRACTS AT THIS DUMP, IN PLAIN WORDS (tools/lay-plain.mjs out of 'YthmhbonhagjnnaaLay.lean', which tools/lay-shelf.mjs wrote): THE SAME DECLARATIONS UNDER THE SAME NAMES: 'import', 'namespace', 'open', 'def', 'theorem' AND NOTHING ELSE: no command of the shelf's: FOR A HAND-IN. Each laying: the table of numbers ('.._ren') and one theorem, a field a fact of the dump's own or the kernel's comparison; each contract: ONE APPLICATION.
-/
import Derived.Test.YthmhbonhagjnnaaProg
import Derived.Shelf.SlSortCmp.NoneTotal
import Derived.Shelf.SlGeneric
import Derived.Ground.SlsfProg
namespace Go.Proofs
open Go.Shelf
def Try.sortL_ren : Go.Shelf.Ren := ⟨fun | 6 => 133 | 15 => 151 | 14 => 150 | 28 => 167 | 29 => 168 | 20 => 159 | 21 => 160 | 22 => 161 | 23 => 162 | 24 => 163 | 25 => 164 | 26 => 165 | 27 => 166 | 46 => 169 | 47 => 170 | 48 => 171 | 49 => 172 | 50 => 173 | 57 => 174 | n => n, fun | 22 => 24 | 24 => 40 | 25 => 202 | 3 => 3 | 39 => 158 | 0 => 0 | 53 => 234 | 55 => 154 | 4 => 4 | 46 => 228 | 45 => 227 | 50 => 220 | 5 => 5 | 9 => 9 | 66 => 239 | 70 => 243 | 76 => 245 | 77 => 246 | n => n, fun | n => n⟩
theorem Try.sortL : Go.Proofs.SlLaysF0.n6 Try.prog Try.sortL_ren := {
  mixed := by kernel_rfl
  f6 := ⟨Try.f133.name, by decide, Try.func133.trans (congrArg some (by kernel_rfl))⟩
  f14 := ⟨Try.f150.name, by decide, Try.func150.trans (congrArg some (by kernel_rfl))⟩
  f15 := Try.func151.trans (congrArg some (by kernel_rfl))
  f20 := ⟨Try.f159.name, by decide, Try.func159.trans (congrArg some (by kernel_rfl))⟩
  f21 := ⟨Try.f160.name, by decide, Try.func160.trans (congrArg some (by kernel_rfl))⟩
  f22 := ⟨Try.f161.name, by decide, Try.func161.trans (congrArg some (by kernel_rfl))⟩
  f23 := ⟨Try.f162.name, by decide, Try.func162.trans (congrArg some (by kernel_rfl))⟩
  f24 := ⟨Try.f163.name, by decide, Try.func163.trans (congrArg some (by kernel_rfl))⟩
  f25 := ⟨Try.f164.name, by decide, Try.func164.trans (congrArg some (by kernel_rfl))⟩
  f26 := ⟨Try.f165.name, by decide, Try.func165.trans (congrArg some (by kernel_rfl))⟩
  f27 := ⟨Try.f166.name, by decide, Try.func166.trans (congrArg some (by kernel_rfl))⟩
  f28 := Try.func167.trans (congrArg some (by kernel_rfl))
  f29 := Try.func168.trans (congrArg some (by kernel_rfl))
  f46 := ⟨Try.f169.name, by decide, Try.func169.trans (congrArg some (by kernel_rfl))⟩
  f47 := Try.func170.trans (congrArg some (by kernel_rfl))
  f48 := Try.func171.trans (congrArg some (by kernel_rfl))
  f49 := ⟨Try.f172.name, by decide, Try.func172.trans (congrArg some (by kernel_rfl))⟩
  f50 := ⟨Try.f173.name, by decide, Try.func173.trans (congrArg some (by kernel_rfl))⟩
  f57 := ⟨Try.f174.name, by decide, Try.func174.trans (congrArg some (by kernel_rfl))⟩
  t0 := Try.underlying0
  a0 := Try.isAgg0
  z0 := Try.sizeOf0
  v0 := Try.zeroValue0
  t3 := Try.underlying3
  a3 := Try.isAgg3
  z3 := Try.sizeOf3
  v3 := Try.zeroValue3
  t4 := Try.underlying4
  a4 := Try.isAgg4
  z4 := Try.sizeOf4
  v4 := Try.zeroValue4
  t5 := Try.underlying5
  a5 := Try.isAgg5
  z5 := Try.sizeOf5
  v5 := Try.zeroValue5
  t9 := Try.underlying9
  a9 := Try.isAgg9
  z9 := Try.sizeOf9
  v9 := Try.zeroValue9
  t22 := Try.underlying24
  a22 := Try.isAgg24
  z22 := Try.sizeOf24
  v22 := Try.zeroValue24
  t25 := Try.underlying202
  a25 := Try.isAgg202
  z25 := Try.sizeOf202
  v25 := Try.zeroValue202
  t39 := Try.underlying158
  a39 := Try.isAgg158
  z39 := Try.sizeOf158
  v39 := Try.zeroValue158
  t45 := Try.underlying227
  a45 := Try.isAgg227
  z45 := Try.sizeOf227
  v45 := Try.zeroValue227
  t46 := Try.underlying228
  a46 := Try.isAgg228
  z46 := Try.sizeOf228
  v46 := Try.zeroValue228
  t50 := Try.underlying220
  a50 := Try.isAgg220
  z50 := Try.sizeOf220
  v50 := Try.zeroValue220
  t53 := Try.underlying234
  a53 := Try.isAgg234
  z53 := Try.sizeOf234
  v53 := Try.zeroValue234
  t55 := Try.underlying154
  a55 := Try.isAgg154
  z55 := Try.sizeOf154
  v55 := Try.zeroValue154
  t66 := Try.underlying239
  a66 := Try.isAgg239
  z66 := Try.sizeOf239
  v66 := Try.zeroValue239
  t70 := Try.underlying243
  a70 := Try.isAgg243
  z70 := Try.sizeOf243
  v70 := Try.zeroValue243
  t76 := Try.underlying245
  a76 := Try.isAgg245
  z76 := Try.sizeOf245
  v76 := Try.zeroValue245
  t77 := Try.underlying246
  a77 := Try.isAgg246
  z77 := Try.sizeOf246
  v77 := Try.zeroValue246 }
end Go.Proofs
