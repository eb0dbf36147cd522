/-
  The library's contracts laid at this program, in plain words (printed by the kit's lay-plain).
-/
import Derived.Shelf.SortG.Plain
import Derived.Shelf.SortG.SortNone
import Derived.Shelf.SlGeneric
import Derived.Ground.SlgnProg
import Derived.Shelf.Spec.SlicesGrow
import Derived.Ground.Names7Prog
import Derived.Test.YtckcfdggbbabfaaProg
namespace Go.Proofs
open Go.Shelf
def Try.laySort_ren : Go.Shelf.Ren := ⟨fun | 53 => 37 | 64 => 59 | 63 => 58 | 78 => 75 | 79 => 76 | 70 => 66 | 71 => 67 | 72 => 68 | 73 => 69 | 74 => 70 | 75 => 71 | 59 => 72 | 76 => 73 | 77 => 74 | 88 => 78 | 89 => 79 | 90 => 80 | 91 => 81 | 92 => 82 | 68 => 83 | 96 => 84 | n => n, fun | 22 => 22 | 23 => 2 | 3 => 3 | 51 => 87 | 0 => 0 | 67 => 101 | 69 => 103 | 4 => 4 | 61 => 93 | 60 => 92 | 44 => 98 | 5 => 5 | 9 => 9 | 75 => 105 | 79 => 109 | 83 => 111 | 84 => 112 | n => n, fun | n => n⟩
theorem Try.laySort : Go.Proofs.SlLaysN.n53 Try.prog Try.laySort_ren := {
  mixed := by kernel_rfl
  f53 := ⟨Try.f37.name, by decide, Try.func37.trans (congrArg some (by kernel_rfl))⟩
  f59 := ⟨Try.f72.name, by decide, Try.func72.trans (congrArg some (by kernel_rfl))⟩
  f63 := ⟨Try.f58.name, by decide, Try.func58.trans (congrArg some (by kernel_rfl))⟩
  f64 := Try.func59.trans (congrArg some (by kernel_rfl))
  f68 := ⟨Try.f83.name, by decide, Try.func83.trans (congrArg some (by kernel_rfl))⟩
  f70 := ⟨Try.f66.name, by decide, Try.func66.trans (congrArg some (by kernel_rfl))⟩
  f71 := ⟨Try.f67.name, by decide, Try.func67.trans (congrArg some (by kernel_rfl))⟩
  f72 := ⟨Try.f68.name, by decide, Try.func68.trans (congrArg some (by kernel_rfl))⟩
  f73 := ⟨Try.f69.name, by decide, Try.func69.trans (congrArg some (by kernel_rfl))⟩
  f74 := ⟨Try.f70.name, by decide, Try.func70.trans (congrArg some (by kernel_rfl))⟩
  f75 := ⟨Try.f71.name, by decide, Try.func71.trans (congrArg some (by kernel_rfl))⟩
  f76 := ⟨Try.f73.name, by decide, Try.func73.trans (congrArg some (by kernel_rfl))⟩
  f77 := ⟨Try.f74.name, by decide, Try.func74.trans (congrArg some (by kernel_rfl))⟩
  f78 := Try.func75.trans (congrArg some (by kernel_rfl))
  f79 := Try.func76.trans (congrArg some (by kernel_rfl))
  f88 := ⟨Try.f78.name, by decide, Try.func78.trans (congrArg some (by kernel_rfl))⟩
  f89 := Try.func79.trans (congrArg some (by kernel_rfl))
  f90 := Try.func80.trans (congrArg some (by kernel_rfl))
  f91 := ⟨Try.f81.name, by decide, Try.func81.trans (congrArg some (by kernel_rfl))⟩
  f92 := ⟨Try.f82.name, by decide, Try.func82.trans (congrArg some (by kernel_rfl))⟩
  f96 := ⟨Try.f84.name, by decide, Try.func84.trans (congrArg some (by kernel_rfl))⟩
  t0 := Try.underlying0
  a0 := Try.isAgg0
  z0 := Try.sizeOf0
  v0 := Try.zeroValue0
  t3 := Try.underlying3
  a3 := Try.isAgg3
  z3 := Try.sizeOf3
  v3 := Try.zeroValue3
  t4 := Try.underlying4
  a4 := Try.isAgg4
  z4 := Try.sizeOf4
  v4 := Try.zeroValue4
  t5 := Try.underlying5
  a5 := Try.isAgg5
  z5 := Try.sizeOf5
  v5 := Try.zeroValue5
  t9 := Try.underlying9
  a9 := Try.isAgg9
  z9 := Try.sizeOf9
  v9 := Try.zeroValue9
  t22 := Try.underlying22
  a22 := Try.isAgg22
  z22 := Try.sizeOf22
  v22 := Try.zeroValue22
  t23 := Try.underlying2
  a23 := Try.isAgg2
  z23 := Try.sizeOf2
  v23 := Try.zeroValue2
  t44 := Try.underlying98
  a44 := Try.isAgg98
  z44 := Try.sizeOf98
  v44 := Try.zeroValue98
  t51 := Try.underlying87
  a51 := Try.isAgg87
  z51 := Try.sizeOf87
  v51 := Try.zeroValue87
  t60 := Try.underlying92
  a60 := Try.isAgg92
  z60 := Try.sizeOf92
  v60 := Try.zeroValue92
  t61 := Try.underlying93
  a61 := Try.isAgg93
  z61 := Try.sizeOf93
  v61 := Try.zeroValue93
  t67 := Try.underlying101
  a67 := Try.isAgg101
  z67 := Try.sizeOf101
  v67 := Try.zeroValue101
  t69 := Try.underlying103
  a69 := Try.isAgg103
  z69 := Try.sizeOf103
  v69 := Try.zeroValue103
  t75 := Try.underlying105
  a75 := Try.isAgg105
  z75 := Try.sizeOf105
  v75 := Try.zeroValue105
  t79 := Try.underlying109
  a79 := Try.isAgg109
  z79 := Try.sizeOf109
  v79 := Try.zeroValue109
  t83 := Try.underlying111
  a83 := Try.isAgg111
  z83 := Try.sizeOf111
  v83 := Try.zeroValue111
  t84 := Try.underlying112
  a84 := Try.isAgg112
  z84 := Try.sizeOf112
  v84 := Try.zeroValue112 }
def Try.layGrow_ren : Go.Shelf.Ren := ⟨fun | 4 => 56 | n => n, fun | 22 => 22 | 25 => 2 | 3 => 3 | 4 => 4 | 9 => 9 | 20 => 20 | 0 => 0 | n => n, fun | n => n⟩
theorem Try.layGrow : Go.Proofs.Lays8.n4 Try.prog Try.layGrow_ren := {
  mixed := by kernel_rfl
  f4 := ⟨Try.f56.name, by decide, Try.func56.trans (congrArg some (by kernel_rfl))⟩
  t0 := Try.underlying0
  a0 := Try.isAgg0
  z0 := Try.sizeOf0
  v0 := Try.zeroValue0
  t3 := Try.underlying3
  a3 := Try.isAgg3
  z3 := Try.sizeOf3
  v3 := Try.zeroValue3
  t4 := Try.underlying4
  a4 := Try.isAgg4
  z4 := Try.sizeOf4
  v4 := Try.zeroValue4
  t9 := Try.underlying9
  a9 := Try.isAgg9
  z9 := Try.sizeOf9
  v9 := Try.zeroValue9
  t20 := Try.underlying20
  a20 := Try.isAgg20
  z20 := Try.sizeOf20
  v20 := Try.zeroValue20
  t22 := Try.underlying22
  a22 := Try.isAgg22
  z22 := Try.sizeOf22
  v22 := Try.zeroValue22 }
end Go.Proofs
