/-
  The library's contracts laid at this program, in plain words (printed by the kit's lay-plain).
-/
import Derived.Shelf.SortG.Plain
import Derived.Shelf.SortG.SortNone
import Derived.Shelf.SlicesG.CompactI
import Derived.Shelf.SlGeneric
import Derived.Ground.SlgnProg
import Derived.Test.YtffokcfdkkikmaaProg
namespace Go.Proofs
open Go.Shelf
def Try.laySort_ren : Go.Shelf.Ren := ⟨fun | 53 => 215 | 64 => 286 | 63 => 285 | 78 => 334 | 79 => 335 | 70 => 325 | 71 => 326 | 72 => 327 | 73 => 328 | 74 => 329 | 75 => 330 | 59 => 331 | 76 => 332 | 77 => 333 | 88 => 369 | 89 => 370 | 90 => 371 | 91 => 372 | 92 => 373 | 68 => 374 | 96 => 393 | n => n, fun | 22 => 22 | 23 => 2 | 3 => 3 | 51 => 271 | 0 => 0 | 67 => 352 | 69 => 270 | 4 => 4 | 61 => 407 | 60 => 406 | 44 => 412 | 5 => 5 | 9 => 9 | 75 => 447 | 79 => 451 | 83 => 468 | 84 => 206 | n => n, fun | n => n⟩
theorem Try.laySort : Go.Proofs.SlLaysN.n53 Try.prog Try.laySort_ren := {
  mixed := by kernel_rfl
  f53 := ⟨Try.f215.name, by decide, Try.func215.trans (congrArg some (by kernel_rfl))⟩
  f59 := ⟨Try.f331.name, by decide, Try.func331.trans (congrArg some (by kernel_rfl))⟩
  f63 := ⟨Try.f285.name, by decide, Try.func285.trans (congrArg some (by kernel_rfl))⟩
  f64 := Try.func286.trans (congrArg some (by kernel_rfl))
  f68 := ⟨Try.f374.name, by decide, Try.func374.trans (congrArg some (by kernel_rfl))⟩
  f70 := ⟨Try.f325.name, by decide, Try.func325.trans (congrArg some (by kernel_rfl))⟩
  f71 := ⟨Try.f326.name, by decide, Try.func326.trans (congrArg some (by kernel_rfl))⟩
  f72 := ⟨Try.f327.name, by decide, Try.func327.trans (congrArg some (by kernel_rfl))⟩
  f73 := ⟨Try.f328.name, by decide, Try.func328.trans (congrArg some (by kernel_rfl))⟩
  f74 := ⟨Try.f329.name, by decide, Try.func329.trans (congrArg some (by kernel_rfl))⟩
  f75 := ⟨Try.f330.name, by decide, Try.func330.trans (congrArg some (by kernel_rfl))⟩
  f76 := ⟨Try.f332.name, by decide, Try.func332.trans (congrArg some (by kernel_rfl))⟩
  f77 := ⟨Try.f333.name, by decide, Try.func333.trans (congrArg some (by kernel_rfl))⟩
  f78 := Try.func334.trans (congrArg some (by kernel_rfl))
  f79 := Try.func335.trans (congrArg some (by kernel_rfl))
  f88 := ⟨Try.f369.name, by decide, Try.func369.trans (congrArg some (by kernel_rfl))⟩
  f89 := Try.func370.trans (congrArg some (by kernel_rfl))
  f90 := Try.func371.trans (congrArg some (by kernel_rfl))
  f91 := ⟨Try.f372.name, by decide, Try.func372.trans (congrArg some (by kernel_rfl))⟩
  f92 := ⟨Try.f373.name, by decide, Try.func373.trans (congrArg some (by kernel_rfl))⟩
  f96 := ⟨Try.f393.name, by decide, Try.func393.trans (congrArg some (by kernel_rfl))⟩
  t0 := Try.underlying0
  a0 := Try.isAgg0
  z0 := Try.sizeOf0
  v0 := Try.zeroValue0
  t3 := Try.underlying3
  a3 := Try.isAgg3
  z3 := Try.sizeOf3
  v3 := Try.zeroValue3
  t4 := Try.underlying4
  a4 := Try.isAgg4
  z4 := Try.sizeOf4
  v4 := Try.zeroValue4
  t5 := Try.underlying5
  a5 := Try.isAgg5
  z5 := Try.sizeOf5
  v5 := Try.zeroValue5
  t9 := Try.underlying9
  a9 := Try.isAgg9
  z9 := Try.sizeOf9
  v9 := Try.zeroValue9
  t22 := Try.underlying22
  a22 := Try.isAgg22
  z22 := Try.sizeOf22
  v22 := Try.zeroValue22
  t23 := Try.underlying2
  a23 := Try.isAgg2
  z23 := Try.sizeOf2
  v23 := Try.zeroValue2
  t44 := Try.underlying412
  a44 := Try.isAgg412
  z44 := Try.sizeOf412
  v44 := Try.zeroValue412
  t51 := Try.underlying271
  a51 := Try.isAgg271
  z51 := Try.sizeOf271
  v51 := Try.zeroValue271
  t60 := Try.underlying406
  a60 := Try.isAgg406
  z60 := Try.sizeOf406
  v60 := Try.zeroValue406
  t61 := Try.underlying407
  a61 := Try.isAgg407
  z61 := Try.sizeOf407
  v61 := Try.zeroValue407
  t67 := Try.underlying352
  a67 := Try.isAgg352
  z67 := Try.sizeOf352
  v67 := Try.zeroValue352
  t69 := Try.underlying270
  a69 := Try.isAgg270
  z69 := Try.sizeOf270
  v69 := Try.zeroValue270
  t75 := Try.underlying447
  a75 := Try.isAgg447
  z75 := Try.sizeOf447
  v75 := Try.zeroValue447
  t79 := Try.underlying451
  a79 := Try.isAgg451
  z79 := Try.sizeOf451
  v79 := Try.zeroValue451
  t83 := Try.underlying468
  a83 := Try.isAgg468
  z83 := Try.sizeOf468
  v83 := Try.zeroValue468
  t84 := Try.underlying206
  a84 := Try.isAgg206
  z84 := Try.sizeOf206
  v84 := Try.zeroValue206 }
def Try.layCompact_ren : Go.Shelf.Ren := ⟨fun | 43 => 216 | n => n, fun | 22 => 22 | 23 => 2 | 3 => 3 | 4 => 4 | 0 => 0 | n => n, fun | n => n⟩
theorem Try.layCompact : Go.Proofs.SlLaysN.n43 Try.prog Try.layCompact_ren := {
  mixed := by kernel_rfl
  f43 := ⟨Try.f216.name, by decide, Try.func216.trans (congrArg some (by kernel_rfl))⟩
  t0 := Try.underlying0
  a0 := Try.isAgg0
  z0 := Try.sizeOf0
  v0 := Try.zeroValue0
  t3 := Try.underlying3
  a3 := Try.isAgg3
  z3 := Try.sizeOf3
  v3 := Try.zeroValue3
  t4 := Try.underlying4
  a4 := Try.isAgg4
  z4 := Try.sizeOf4
  v4 := Try.zeroValue4
  t22 := Try.underlying22
  a22 := Try.isAgg22
  z22 := Try.sizeOf22
  v22 := Try.zeroValue22
  t23 := Try.underlying2
  a23 := Try.isAgg2
  z23 := Try.sizeOf2
  v23 := Try.zeroValue2
  i23 := by kernel_rfl }
end Go.Proofs
