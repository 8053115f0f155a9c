/- What this text proves serves the claim of its last text: a part of a verified executor, its walks and its runs (SH2). -/
import Derived.Shelf.SlGeneric
import Derived.Shelf.SlIterI.Nil
import Derived.Shelf.SlIterI.Sorted
import Derived.Shelf.SortM.Plain
import Derived.Shelf.SortM.SortNone
import Derived.Ground.GgzProg
import Derived.Ground.SlgmProg
import Derived.Test.YthmlbbbjpbcknaaGreatDoorProg
set_option linter.all false
section
/-
  DERIVED: THE SHELF's CONTRACTS AT THIS DUMP, IN PLAIN WORDS (tools/lay-plain.mjs out of 'TryzShelf2.lean', which tools/lay-shelf.mjs wrote): THE SAME DECLARATIONS UNDER THE SAME NAMES: 'import', 'namespace', 'open', 'def', 'theorem' AND NOTHING ELSE: no command of the shelf's: FOR A HAND-IN. Each laying: the table of numbers ('.._ren') and one theorem, a field a fact of the dump's own or the kernel's comparison; each contract: ONE APPLICATION.
-/
namespace Go.Proofs
open Go.Shelf
def Tryz.keysA_ren : Go.Shelf.Ren := ⟨fun | 7 => 184 | 10 => 234 | n => n, fun | 23 => 174 | 26 => 3 | 3 => 133 | 28 => 305 | 0 => 0 | 27 => 304 | 33 => 125 | 4 => 4 | n => n, fun | n => n⟩
theorem Tryz.keysA : Go.Proofs.SlLaysZI.n7 Tryz.prog Tryz.keysA_ren := {
  mixed := by kernel_rfl
  f7 := ⟨Tryz.f184.name, by decide, Tryz.func184.trans (congrArg some (by kernel_rfl))⟩
  f10 := ⟨Tryz.f234.name, by decide, Tryz.func234.trans (congrArg some (by kernel_rfl))⟩
  t0 := Tryz.underlying0
  a0 := Tryz.isAgg0
  z0 := Tryz.sizeOf0
  v0 := Tryz.zeroValue0
  t4 := Tryz.underlying4
  a4 := Tryz.isAgg4
  z4 := Tryz.sizeOf4
  v4 := Tryz.zeroValue4
  t23 := Tryz.underlying174
  a23 := Tryz.isAgg174
  z23 := Tryz.sizeOf174
  v23 := Tryz.zeroValue174
  t26 := Tryz.underlying3
  a26 := Tryz.isAgg3
  z26 := Tryz.sizeOf3
  v26 := Tryz.zeroValue3
  t27 := Tryz.underlying304
  a27 := Tryz.isAgg304
  z27 := Tryz.sizeOf304
  v27 := Tryz.zeroValue304
  t28 := Tryz.underlying305
  a28 := Tryz.isAgg305
  z28 := Tryz.sizeOf305
  v28 := Tryz.zeroValue305
  t33 := Tryz.underlying125
  a33 := Tryz.isAgg125
  z33 := Tryz.sizeOf125
  v33 := Tryz.zeroValue125 }
def Tryz.sortedA_ren : Go.Shelf.Ren := ⟨fun | 6 => 183 | 8 => 232 | 9 => 233 | 11 => 267 | 13 => 269 | 12 => 268 | 23 => 306 | 24 => 271 | 14 => 297 | 15 => 298 | 16 => 299 | 17 => 300 | 18 => 301 | 19 => 302 | 20 => 303 | 21 => 304 | 22 => 305 | 25 => 328 | 26 => 329 | 27 => 330 | 28 => 331 | 29 => 332 | 30 => 333 | 31 => 342 | n => n, fun | 26 => 3 | 28 => 305 | 24 => 141 | 0 => 0 | 3 => 3 | 37 => 143 | 48 => 90 | 50 => 63 | 4 => 4 | 40 => 401 | 39 => 400 | 45 => 86 | 5 => 5 | 9 => 9 | 51 => 437 | 55 => 441 | 57 => 455 | 58 => 448 | 33 => 125 | n => n, fun | n => n⟩
theorem Tryz.sortedA : Go.Proofs.SlLaysZI.n6 Tryz.prog Tryz.sortedA_ren := {
  mixed := by kernel_rfl
  f6 := ⟨Tryz.f183.name, by decide, Tryz.func183.trans (congrArg some (by kernel_rfl))⟩
  f8 := ⟨Tryz.f232.name, by decide, Tryz.func232.trans (congrArg some (by kernel_rfl))⟩
  f11 := ⟨Tryz.f267.name, by decide, Tryz.func267.trans (congrArg some (by kernel_rfl))⟩
  t0 := Tryz.underlying0
  a0 := Tryz.isAgg0
  z0 := Tryz.sizeOf0
  v0 := Tryz.zeroValue0
  t24 := Tryz.underlying141
  a24 := Tryz.isAgg141
  z24 := Tryz.sizeOf141
  v24 := Tryz.zeroValue141
  t26 := Tryz.underlying3
  a26 := Tryz.isAgg3
  z26 := Tryz.sizeOf3
  v26 := Tryz.zeroValue3
  t28 := Tryz.underlying305
  a28 := Tryz.isAgg305
  z28 := Tryz.sizeOf305
  v28 := Tryz.zeroValue305
  i26 := by kernel_rfl }
def Tryz.sortA_ren : Go.Shelf.Ren := ⟨fun | 5 => 233 | 8 => 269 | 7 => 268 | 19 => 306 | 20 => 271 | 10 => 297 | 11 => 298 | 12 => 299 | 13 => 300 | 14 => 301 | 15 => 302 | 16 => 303 | 17 => 304 | 18 => 305 | 30 => 328 | 31 => 329 | 32 => 330 | 33 => 331 | 34 => 332 | 35 => 333 | 40 => 342 | n => n, fun | 23 => 141 | 25 => 3 | 3 => 3 | 32 => 143 | 22 => 141 | 0 => 0 | 44 => 90 | 46 => 63 | 4 => 4 | 36 => 401 | 35 => 400 | 41 => 86 | 5 => 5 | 9 => 9 | 53 => 437 | 57 => 441 | 63 => 455 | 64 => 448 | n => n, fun | n => n⟩
theorem Tryz.sortA : Go.Proofs.SlLaysM.n5 Tryz.prog Tryz.sortA_ren := {
  mixed := by kernel_rfl
  f5 := ⟨Tryz.f233.name, by decide, Tryz.func233.trans (congrArg some (by kernel_rfl))⟩
  f7 := ⟨Tryz.f268.name, by decide, Tryz.func268.trans (congrArg some (by kernel_rfl))⟩
  f8 := Tryz.func269.trans (congrArg some (by kernel_rfl))
  f10 := ⟨Tryz.f297.name, by decide, Tryz.func297.trans (congrArg some (by kernel_rfl))⟩
  f11 := ⟨Tryz.f298.name, by decide, Tryz.func298.trans (congrArg some (by kernel_rfl))⟩
  f12 := ⟨Tryz.f299.name, by decide, Tryz.func299.trans (congrArg some (by kernel_rfl))⟩
  f13 := ⟨Tryz.f300.name, by decide, Tryz.func300.trans (congrArg some (by kernel_rfl))⟩
  f14 := ⟨Tryz.f301.name, by decide, Tryz.func301.trans (congrArg some (by kernel_rfl))⟩
  f15 := ⟨Tryz.f302.name, by decide, Tryz.func302.trans (congrArg some (by kernel_rfl))⟩
  f16 := ⟨Tryz.f303.name, by decide, Tryz.func303.trans (congrArg some (by kernel_rfl))⟩
  f17 := ⟨Tryz.f304.name, by decide, Tryz.func304.trans (congrArg some (by kernel_rfl))⟩
  f18 := ⟨Tryz.f305.name, by decide, Tryz.func305.trans (congrArg some (by kernel_rfl))⟩
  f19 := Tryz.func306.trans (congrArg some (by kernel_rfl))
  f20 := Tryz.func271.trans (congrArg some (by kernel_rfl))
  f30 := ⟨Tryz.f328.name, by decide, Tryz.func328.trans (congrArg some (by kernel_rfl))⟩
  f31 := Tryz.func329.trans (congrArg some (by kernel_rfl))
  f32 := Tryz.func330.trans (congrArg some (by kernel_rfl))
  f33 := ⟨Tryz.f331.name, by decide, Tryz.func331.trans (congrArg some (by kernel_rfl))⟩
  f34 := ⟨Tryz.f332.name, by decide, Tryz.func332.trans (congrArg some (by kernel_rfl))⟩
  f35 := ⟨Tryz.f333.name, by decide, Tryz.func333.trans (congrArg some (by kernel_rfl))⟩
  f40 := ⟨Tryz.f342.name, by decide, Tryz.func342.trans (congrArg some (by kernel_rfl))⟩
  t0 := Tryz.underlying0
  a0 := Tryz.isAgg0
  z0 := Tryz.sizeOf0
  v0 := Tryz.zeroValue0
  t3 := Tryz.underlying3
  a3 := Tryz.isAgg3
  z3 := Tryz.sizeOf3
  v3 := Tryz.zeroValue3
  t4 := Tryz.underlying4
  a4 := Tryz.isAgg4
  z4 := Tryz.sizeOf4
  v4 := Tryz.zeroValue4
  t5 := Tryz.underlying5
  a5 := Tryz.isAgg5
  z5 := Tryz.sizeOf5
  v5 := Tryz.zeroValue5
  t9 := Tryz.underlying9
  a9 := Tryz.isAgg9
  z9 := Tryz.sizeOf9
  v9 := Tryz.zeroValue9
  t22 := Tryz.underlying141
  a22 := Tryz.isAgg141
  z22 := Tryz.sizeOf141
  v22 := Tryz.zeroValue141
  t23 := Tryz.underlying141
  a23 := Tryz.isAgg141
  z23 := Tryz.sizeOf141
  v23 := Tryz.zeroValue141
  t25 := Tryz.underlying3
  a25 := Tryz.isAgg3
  z25 := Tryz.sizeOf3
  v25 := Tryz.zeroValue3
  t32 := Tryz.underlying143
  a32 := Tryz.isAgg143
  z32 := Tryz.sizeOf143
  v32 := Tryz.zeroValue143
  t35 := Tryz.underlying400
  a35 := Tryz.isAgg400
  z35 := Tryz.sizeOf400
  v35 := Tryz.zeroValue400
  t36 := Tryz.underlying401
  a36 := Tryz.isAgg401
  z36 := Tryz.sizeOf401
  v36 := Tryz.zeroValue401
  t41 := Tryz.underlying86
  a41 := Tryz.isAgg86
  z41 := Tryz.sizeOf86
  v41 := Tryz.zeroValue86
  t44 := Tryz.underlying90
  a44 := Tryz.isAgg90
  z44 := Tryz.sizeOf90
  v44 := Tryz.zeroValue90
  t46 := Tryz.underlying63
  a46 := Tryz.isAgg63
  z46 := Tryz.sizeOf63
  v46 := Tryz.zeroValue63
  t53 := Tryz.underlying437
  a53 := Tryz.isAgg437
  z53 := Tryz.sizeOf437
  v53 := Tryz.zeroValue437
  t57 := Tryz.underlying441
  a57 := Tryz.isAgg441
  z57 := Tryz.sizeOf441
  v57 := Tryz.zeroValue441
  t63 := Tryz.underlying455
  a63 := Tryz.isAgg455
  z63 := Tryz.sizeOf455
  v63 := Tryz.zeroValue455
  t64 := Tryz.underlying448
  a64 := Tryz.isAgg448
  z64 := Tryz.sizeOf448
  v64 := Tryz.zeroValue448 }
end Go.Proofs
end
