/- A part of a verified executor, its walks and its runs (SH2). -/
import Derived.Shelf.SlGeneric
import Derived.Shelf.SlIterI.Nil
import Derived.Shelf.SlIterI.Sorted
import Derived.Shelf.SortM.Plain
import Derived.Shelf.SortM.SortNone
import Derived.Ground.GgzProg
import Derived.Ground.SlgmProg
import Derived.Test.YtbopbldponnnpaaGreatDoorProg
set_option linter.all false
section
/-
  DERIVED: THE SHELF's CONTRACTS AT THIS DUMP, IN PLAIN WORDS (tools/lay-plain.mjs out of 'TryzShelf2.lean', which tools/lay-shelf.mjs wrote): THE SAME DECLARATIONS UNDER THE SAME NAMES: 'import', 'namespace', 'open', 'def', 'theorem' AND NOTHING ELSE: no command of the shelf's: FOR A HAND-IN. Each laying: the table of numbers ('.._ren') and one theorem, a field a fact of the dump's own or the kernel's comparison; each contract: ONE APPLICATION.
-/
namespace Go.Proofs
open Go.Shelf
def Tryz.keysA_ren : Go.Shelf.Ren := ⟨fun | 7 => 156 | 10 => 209 | n => n, fun | 23 => 160 | 26 => 3 | 3 => 137 | 28 => 275 | 0 => 0 | 27 => 274 | 33 => 116 | 4 => 4 | n => n, fun | n => n⟩
theorem Tryz.keysA : Go.Proofs.SlLaysZI.n7 Tryz.prog Tryz.keysA_ren := {
  mixed := by kernel_rfl
  f7 := ⟨Tryz.f156.name, by decide, Tryz.func156.trans (congrArg some (by kernel_rfl))⟩
  f10 := ⟨Tryz.f209.name, by decide, Tryz.func209.trans (congrArg some (by kernel_rfl))⟩
  t0 := Tryz.underlying0
  a0 := Tryz.isAgg0
  z0 := Tryz.sizeOf0
  v0 := Tryz.zeroValue0
  t4 := Tryz.underlying4
  a4 := Tryz.isAgg4
  z4 := Tryz.sizeOf4
  v4 := Tryz.zeroValue4
  t23 := Tryz.underlying160
  a23 := Tryz.isAgg160
  z23 := Tryz.sizeOf160
  v23 := Tryz.zeroValue160
  t26 := Tryz.underlying3
  a26 := Tryz.isAgg3
  z26 := Tryz.sizeOf3
  v26 := Tryz.zeroValue3
  t27 := Tryz.underlying274
  a27 := Tryz.isAgg274
  z27 := Tryz.sizeOf274
  v27 := Tryz.zeroValue274
  t28 := Tryz.underlying275
  a28 := Tryz.isAgg275
  z28 := Tryz.sizeOf275
  v28 := Tryz.zeroValue275
  t33 := Tryz.underlying116
  a33 := Tryz.isAgg116
  z33 := Tryz.sizeOf116
  v33 := Tryz.zeroValue116 }
def Tryz.sortedA_ren : Go.Shelf.Ren := ⟨fun | 6 => 155 | 8 => 207 | 9 => 208 | 11 => 249 | 13 => 251 | 12 => 250 | 23 => 298 | 24 => 253 | 14 => 289 | 15 => 290 | 16 => 291 | 17 => 292 | 18 => 293 | 19 => 294 | 20 => 295 | 21 => 296 | 22 => 297 | 25 => 328 | 26 => 329 | 27 => 330 | 28 => 331 | 29 => 332 | 30 => 333 | 31 => 342 | n => n, fun | 26 => 3 | 28 => 275 | 24 => 166 | 0 => 0 | 3 => 3 | 37 => 86 | 48 => 121 | 50 => 61 | 4 => 4 | 40 => 400 | 39 => 399 | 45 => 218 | 5 => 5 | 9 => 9 | 51 => 437 | 55 => 441 | 57 => 455 | 58 => 448 | 33 => 116 | n => n, fun | n => n⟩
theorem Tryz.sortedA : Go.Proofs.SlLaysZI.n6 Tryz.prog Tryz.sortedA_ren := {
  mixed := by kernel_rfl
  f6 := ⟨Tryz.f155.name, by decide, Tryz.func155.trans (congrArg some (by kernel_rfl))⟩
  f8 := ⟨Tryz.f207.name, by decide, Tryz.func207.trans (congrArg some (by kernel_rfl))⟩
  f11 := ⟨Tryz.f249.name, by decide, Tryz.func249.trans (congrArg some (by kernel_rfl))⟩
  t0 := Tryz.underlying0
  a0 := Tryz.isAgg0
  z0 := Tryz.sizeOf0
  v0 := Tryz.zeroValue0
  t24 := Tryz.underlying166
  a24 := Tryz.isAgg166
  z24 := Tryz.sizeOf166
  v24 := Tryz.zeroValue166
  t26 := Tryz.underlying3
  a26 := Tryz.isAgg3
  z26 := Tryz.sizeOf3
  v26 := Tryz.zeroValue3
  t28 := Tryz.underlying275
  a28 := Tryz.isAgg275
  z28 := Tryz.sizeOf275
  v28 := Tryz.zeroValue275
  i26 := by kernel_rfl }
def Tryz.sortA_ren : Go.Shelf.Ren := ⟨fun | 5 => 208 | 8 => 251 | 7 => 250 | 19 => 298 | 20 => 253 | 10 => 289 | 11 => 290 | 12 => 291 | 13 => 292 | 14 => 293 | 15 => 294 | 16 => 295 | 17 => 296 | 18 => 297 | 30 => 328 | 31 => 329 | 32 => 330 | 33 => 331 | 34 => 332 | 35 => 333 | 40 => 342 | n => n, fun | 23 => 166 | 25 => 3 | 3 => 3 | 32 => 86 | 22 => 166 | 0 => 0 | 44 => 121 | 46 => 61 | 4 => 4 | 36 => 400 | 35 => 399 | 41 => 218 | 5 => 5 | 9 => 9 | 53 => 437 | 57 => 441 | 63 => 455 | 64 => 448 | n => n, fun | n => n⟩
theorem Tryz.sortA : Go.Proofs.SlLaysM.n5 Tryz.prog Tryz.sortA_ren := {
  mixed := by kernel_rfl
  f5 := ⟨Tryz.f208.name, by decide, Tryz.func208.trans (congrArg some (by kernel_rfl))⟩
  f7 := ⟨Tryz.f250.name, by decide, Tryz.func250.trans (congrArg some (by kernel_rfl))⟩
  f8 := Tryz.func251.trans (congrArg some (by kernel_rfl))
  f10 := ⟨Tryz.f289.name, by decide, Tryz.func289.trans (congrArg some (by kernel_rfl))⟩
  f11 := ⟨Tryz.f290.name, by decide, Tryz.func290.trans (congrArg some (by kernel_rfl))⟩
  f12 := ⟨Tryz.f291.name, by decide, Tryz.func291.trans (congrArg some (by kernel_rfl))⟩
  f13 := ⟨Tryz.f292.name, by decide, Tryz.func292.trans (congrArg some (by kernel_rfl))⟩
  f14 := ⟨Tryz.f293.name, by decide, Tryz.func293.trans (congrArg some (by kernel_rfl))⟩
  f15 := ⟨Tryz.f294.name, by decide, Tryz.func294.trans (congrArg some (by kernel_rfl))⟩
  f16 := ⟨Tryz.f295.name, by decide, Tryz.func295.trans (congrArg some (by kernel_rfl))⟩
  f17 := ⟨Tryz.f296.name, by decide, Tryz.func296.trans (congrArg some (by kernel_rfl))⟩
  f18 := ⟨Tryz.f297.name, by decide, Tryz.func297.trans (congrArg some (by kernel_rfl))⟩
  f19 := Tryz.func298.trans (congrArg some (by kernel_rfl))
  f20 := Tryz.func253.trans (congrArg some (by kernel_rfl))
  f30 := ⟨Tryz.f328.name, by decide, Tryz.func328.trans (congrArg some (by kernel_rfl))⟩
  f31 := Tryz.func329.trans (congrArg some (by kernel_rfl))
  f32 := Tryz.func330.trans (congrArg some (by kernel_rfl))
  f33 := ⟨Tryz.f331.name, by decide, Tryz.func331.trans (congrArg some (by kernel_rfl))⟩
  f34 := ⟨Tryz.f332.name, by decide, Tryz.func332.trans (congrArg some (by kernel_rfl))⟩
  f35 := ⟨Tryz.f333.name, by decide, Tryz.func333.trans (congrArg some (by kernel_rfl))⟩
  f40 := ⟨Tryz.f342.name, by decide, Tryz.func342.trans (congrArg some (by kernel_rfl))⟩
  t0 := Tryz.underlying0
  a0 := Tryz.isAgg0
  z0 := Tryz.sizeOf0
  v0 := Tryz.zeroValue0
  t3 := Tryz.underlying3
  a3 := Tryz.isAgg3
  z3 := Tryz.sizeOf3
  v3 := Tryz.zeroValue3
  t4 := Tryz.underlying4
  a4 := Tryz.isAgg4
  z4 := Tryz.sizeOf4
  v4 := Tryz.zeroValue4
  t5 := Tryz.underlying5
  a5 := Tryz.isAgg5
  z5 := Tryz.sizeOf5
  v5 := Tryz.zeroValue5
  t9 := Tryz.underlying9
  a9 := Tryz.isAgg9
  z9 := Tryz.sizeOf9
  v9 := Tryz.zeroValue9
  t22 := Tryz.underlying166
  a22 := Tryz.isAgg166
  z22 := Tryz.sizeOf166
  v22 := Tryz.zeroValue166
  t23 := Tryz.underlying166
  a23 := Tryz.isAgg166
  z23 := Tryz.sizeOf166
  v23 := Tryz.zeroValue166
  t25 := Tryz.underlying3
  a25 := Tryz.isAgg3
  z25 := Tryz.sizeOf3
  v25 := Tryz.zeroValue3
  t32 := Tryz.underlying86
  a32 := Tryz.isAgg86
  z32 := Tryz.sizeOf86
  v32 := Tryz.zeroValue86
  t35 := Tryz.underlying399
  a35 := Tryz.isAgg399
  z35 := Tryz.sizeOf399
  v35 := Tryz.zeroValue399
  t36 := Tryz.underlying400
  a36 := Tryz.isAgg400
  z36 := Tryz.sizeOf400
  v36 := Tryz.zeroValue400
  t41 := Tryz.underlying218
  a41 := Tryz.isAgg218
  z41 := Tryz.sizeOf218
  v41 := Tryz.zeroValue218
  t44 := Tryz.underlying121
  a44 := Tryz.isAgg121
  z44 := Tryz.sizeOf121
  v44 := Tryz.zeroValue121
  t46 := Tryz.underlying61
  a46 := Tryz.isAgg61
  z46 := Tryz.sizeOf61
  v46 := Tryz.zeroValue61
  t53 := Tryz.underlying437
  a53 := Tryz.isAgg437
  z53 := Tryz.sizeOf437
  v53 := Tryz.zeroValue437
  t57 := Tryz.underlying441
  a57 := Tryz.isAgg441
  z57 := Tryz.sizeOf441
  v57 := Tryz.zeroValue441
  t63 := Tryz.underlying455
  a63 := Tryz.isAgg455
  z63 := Tryz.sizeOf455
  v63 := Tryz.zeroValue455
  t64 := Tryz.underlying448
  a64 := Tryz.isAgg448
  z64 := Tryz.sizeOf448
  v64 := Tryz.zeroValue448 }
end Go.Proofs
end
