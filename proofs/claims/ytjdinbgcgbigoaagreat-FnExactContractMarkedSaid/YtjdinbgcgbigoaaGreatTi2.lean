/-
  What the walk asks of each type. Printed by wip/ab/gen_ti.py.
-/
import Derived.Test.YtjdinbgcgbigoaaGreatRows
import Derived.Test.YtjdinbgcgbigoaaGreatAbC
namespace Go.Proofs.YtjdinbgcgbigoaaGreat.Ab
open Go.RowKit
@[go_sem] theorem ti2 : ti Tryz.prog 2 = .int .i64 := by kernel_rfl
@[go_sem] theorem sz2 : tsz Tryz.prog 2 = 1 := by kernel_rfl
@[go_sem] theorem by2 : Tryz.prog.bytesOf 2 = 8 := by kernel_rfl
@[go_sem] theorem zl2 : (tz Tryz.prog 2).length = 1 := by kernel_rfl
@[go_sem] theorem za2 : (tz Tryz.prog 2).map zAV = [.int .i64 0] := by kernel_rfl
@[go_sem] theorem zd2 : zDs (tz Tryz.prog 2) = some [.int .i64 0] := by kernel_rfl
@[go_sem] theorem ti3 : ti Tryz.prog 3 = .int .i64 := by kernel_rfl
@[go_sem] theorem sz3 : tsz Tryz.prog 3 = 1 := by kernel_rfl
@[go_sem] theorem by3 : Tryz.prog.bytesOf 3 = 8 := by kernel_rfl
@[go_sem] theorem zl3 : (tz Tryz.prog 3).length = 1 := by kernel_rfl
@[go_sem] theorem za3 : (tz Tryz.prog 3).map zAV = [.int .i64 0] := by kernel_rfl
@[go_sem] theorem zd3 : zDs (tz Tryz.prog 3) = some [.int .i64 0] := by kernel_rfl
@[go_sem] theorem ti4 : ti Tryz.prog 4 = .bool := by kernel_rfl
@[go_sem] theorem sz4 : tsz Tryz.prog 4 = 1 := by kernel_rfl
@[go_sem] theorem by4 : Tryz.prog.bytesOf 4 = 1 := by kernel_rfl
@[go_sem] theorem zl4 : (tz Tryz.prog 4).length = 1 := by kernel_rfl
@[go_sem] theorem za4 : (tz Tryz.prog 4).map zAV = [.bool false] := by kernel_rfl
@[go_sem] theorem zd4 : zDs (tz Tryz.prog 4) = some [.bool false] := by kernel_rfl
@[go_sem] theorem ti21 : ti Tryz.prog 21 = .int .i32 := by kernel_rfl
@[go_sem] theorem sz21 : tsz Tryz.prog 21 = 1 := by kernel_rfl
@[go_sem] theorem by21 : Tryz.prog.bytesOf 21 = 4 := by kernel_rfl
@[go_sem] theorem zl21 : (tz Tryz.prog 21).length = 1 := by kernel_rfl
@[go_sem] theorem za21 : (tz Tryz.prog 21).map zAV = [.int .i32 0] := by kernel_rfl
@[go_sem] theorem zd21 : zDs (tz Tryz.prog 21) = some [.int .i32 0] := by kernel_rfl
@[go_sem] theorem ti22 : ti Tryz.prog 22 = .sl 27 := by kernel_rfl
@[go_sem] theorem sz22 : tsz Tryz.prog 22 = 1 := by kernel_rfl
@[go_sem] theorem by22 : Tryz.prog.bytesOf 22 = 24 := by kernel_rfl
@[go_sem] theorem zl22 : (tz Tryz.prog 22).length = 1 := by kernel_rfl
@[go_sem] theorem za22 : (tz Tryz.prog 22).map zAV = [.nils] := by kernel_rfl
@[go_sem] theorem zd22 : zDs (tz Tryz.prog 22) = some [.sl []] := by kernel_rfl
@[go_sem] theorem ti24 : ti Tryz.prog 24 = .st [(0,22)] := by kernel_rfl
@[go_sem] theorem sz24 : tsz Tryz.prog 24 = 1 := by kernel_rfl
@[go_sem] theorem by24 : Tryz.prog.bytesOf 24 = 24 := by kernel_rfl
@[go_sem] theorem zl24 : (tz Tryz.prog 24).length = 1 := by kernel_rfl
@[go_sem] theorem za24 : (tz Tryz.prog 24).map zAV = [.nils] := by kernel_rfl
@[go_sem] theorem zd24 : zDs (tz Tryz.prog 24) = some [.sl []] := by kernel_rfl
@[go_sem] theorem ti25 : ti Tryz.prog 25 = .sl 2 := by kernel_rfl
@[go_sem] theorem sz25 : tsz Tryz.prog 25 = 1 := by kernel_rfl
@[go_sem] theorem by25 : Tryz.prog.bytesOf 25 = 24 := by kernel_rfl
@[go_sem] theorem zl25 : (tz Tryz.prog 25).length = 1 := by kernel_rfl
@[go_sem] theorem za25 : (tz Tryz.prog 25).map zAV = [.nils] := by kernel_rfl
@[go_sem] theorem zd25 : zDs (tz Tryz.prog 25) = some [.sl []] := by kernel_rfl
@[go_sem] theorem ti27 : ti Tryz.prog 27 = .st [(0,2),(1,2),(2,25),(3,22)] := by kernel_rfl
@[go_sem] theorem sz27 : tsz Tryz.prog 27 = 4 := by kernel_rfl
@[go_sem] theorem by27 : Tryz.prog.bytesOf 27 = 64 := by kernel_rfl
@[go_sem] theorem zl27 : (tz Tryz.prog 27).length = 4 := by kernel_rfl
@[go_sem] theorem za27 : (tz Tryz.prog 27).map zAV = [.int .i64 0,.int .i64 0,.nils,.nils] := by kernel_rfl
@[go_sem] theorem zd27 : zDs (tz Tryz.prog 27) = some [.int .i64 0,.int .i64 0,.sl [],.sl []] := by kernel_rfl
@[go_sem] theorem ti30 : ti Tryz.prog 30 = .sl 32 := by kernel_rfl
@[go_sem] theorem sz30 : tsz Tryz.prog 30 = 1 := by kernel_rfl
@[go_sem] theorem by30 : Tryz.prog.bytesOf 30 = 24 := by kernel_rfl
@[go_sem] theorem zl30 : (tz Tryz.prog 30).length = 1 := by kernel_rfl
@[go_sem] theorem za30 : (tz Tryz.prog 30).map zAV = [.nils] := by kernel_rfl
@[go_sem] theorem zd30 : zDs (tz Tryz.prog 30) = some [.sl []] := by kernel_rfl
@[go_sem] theorem ti32 : ti Tryz.prog 32 = .st [(0,2),(1,2),(2,25),(3,30)] := by kernel_rfl
@[go_sem] theorem sz32 : tsz Tryz.prog 32 = 4 := by kernel_rfl
@[go_sem] theorem by32 : Tryz.prog.bytesOf 32 = 64 := by kernel_rfl
@[go_sem] theorem zl32 : (tz Tryz.prog 32).length = 4 := by kernel_rfl
@[go_sem] theorem za32 : (tz Tryz.prog 32).map zAV = [.int .i64 0,.int .i64 0,.nils,.nils] := by kernel_rfl
@[go_sem] theorem zd32 : zDs (tz Tryz.prog 32) = some [.int .i64 0,.int .i64 0,.sl [],.sl []] := by kernel_rfl
@[go_sem] theorem ti36 : ti Tryz.prog 36 = .st [(0,30)] := by kernel_rfl
@[go_sem] theorem sz36 : tsz Tryz.prog 36 = 1 := by kernel_rfl
@[go_sem] theorem by36 : Tryz.prog.bytesOf 36 = 24 := by kernel_rfl
@[go_sem] theorem zl36 : (tz Tryz.prog 36).length = 1 := by kernel_rfl
@[go_sem] theorem za36 : (tz Tryz.prog 36).map zAV = [.nils] := by kernel_rfl
@[go_sem] theorem zd36 : zDs (tz Tryz.prog 36) = some [.sl []] := by kernel_rfl
@[go_sem] theorem ti154 : ti Tryz.prog 154 = .st [(0,36),(1,25),(2,2)] := by kernel_rfl
@[go_sem] theorem sz154 : tsz Tryz.prog 154 = 3 := by kernel_rfl
@[go_sem] theorem by154 : Tryz.prog.bytesOf 154 = 56 := by kernel_rfl
@[go_sem] theorem zl154 : (tz Tryz.prog 154).length = 3 := by kernel_rfl
@[go_sem] theorem za154 : (tz Tryz.prog 154).map zAV = [.nils,.nils,.int .i64 0] := by kernel_rfl
@[go_sem] theorem zd154 : zDs (tz Tryz.prog 154) = some [.sl [],.sl [],.int .i64 0] := by kernel_rfl
@[go_sem] theorem ti240 : ti Tryz.prog 240 = .fn := by kernel_rfl
@[go_sem] theorem sz240 : tsz Tryz.prog 240 = 1 := by kernel_rfl
@[go_sem] theorem by240 : Tryz.prog.bytesOf 240 = 8 := by kernel_rfl
@[go_sem] theorem zl240 : (tz Tryz.prog 240).length = 1 := by kernel_rfl
@[go_sem] theorem ti458 : ti Tryz.prog 458 = .int .u32 := by kernel_rfl
@[go_sem] theorem sz458 : tsz Tryz.prog 458 = 1 := by kernel_rfl
@[go_sem] theorem by458 : Tryz.prog.bytesOf 458 = 4 := by kernel_rfl
@[go_sem] theorem zl458 : (tz Tryz.prog 458).length = 1 := by kernel_rfl
@[go_sem] theorem za458 : (tz Tryz.prog 458).map zAV = [.int .u32 0] := by kernel_rfl
@[go_sem] theorem zd458 : zDs (tz Tryz.prog 458) = some [.int .u32 0] := by kernel_rfl
@[go_sem] theorem ti459 : ti Tryz.prog 459 = .int .u64 := by kernel_rfl
@[go_sem] theorem sz459 : tsz Tryz.prog 459 = 1 := by kernel_rfl
@[go_sem] theorem by459 : Tryz.prog.bytesOf 459 = 8 := by kernel_rfl
@[go_sem] theorem zl459 : (tz Tryz.prog 459).length = 1 := by kernel_rfl
@[go_sem] theorem za459 : (tz Tryz.prog 459).map zAV = [.int .u64 0] := by kernel_rfl
@[go_sem] theorem zd459 : zDs (tz Tryz.prog 459) = some [.int .u64 0] := by kernel_rfl
theorem mixed : Tryz.prog.follows .mixedOrders = true := Tryz.checked.mixed
attribute [go_sem] Nat.reduceAdd Nat.reduceMul reduceIte Nat.reduceEqDiff Nat.reduceLeDiff Nat.reduceLT
end Go.Proofs.YtjdinbgcgbigoaaGreat.Ab
