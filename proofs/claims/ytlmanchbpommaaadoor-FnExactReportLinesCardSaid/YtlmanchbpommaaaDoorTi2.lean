/-
  What the walk asks of each type. Printed by wip/ab/gen_ti.py.
-/
import Derived.Test.YtlmanchbpommaaaDoorRows
import Derived.Test.YtlmanchbpommaaaDoorAbC
namespace Go.Proofs.YtlmanchbpommaaaDoor.Ab
open Go.RowKit

@[go_sem] theorem ti2 : ti Tryd.prog 2 = .int .i64 := by kernel_rfl
@[go_sem] theorem sz2 : tsz Tryd.prog 2 = 1 := by kernel_rfl
@[go_sem] theorem by2 : Tryd.prog.bytesOf 2 = 8 := by kernel_rfl
@[go_sem] theorem zl2 : (tz Tryd.prog 2).length = 1 := by kernel_rfl
@[go_sem] theorem za2 : (tz Tryd.prog 2).map zAV = [.int .i64 0] := by kernel_rfl
@[go_sem] theorem zd2 : zDs (tz Tryd.prog 2) = some [.int .i64 0] := by kernel_rfl
@[go_sem] theorem ti3 : ti Tryd.prog 3 = .int .i64 := by kernel_rfl
@[go_sem] theorem sz3 : tsz Tryd.prog 3 = 1 := by kernel_rfl
@[go_sem] theorem by3 : Tryd.prog.bytesOf 3 = 8 := by kernel_rfl
@[go_sem] theorem zl3 : (tz Tryd.prog 3).length = 1 := by kernel_rfl
@[go_sem] theorem za3 : (tz Tryd.prog 3).map zAV = [.int .i64 0] := by kernel_rfl
@[go_sem] theorem zd3 : zDs (tz Tryd.prog 3) = some [.int .i64 0] := by kernel_rfl
@[go_sem] theorem ti4 : ti Tryd.prog 4 = .bool := by kernel_rfl
@[go_sem] theorem sz4 : tsz Tryd.prog 4 = 1 := by kernel_rfl
@[go_sem] theorem by4 : Tryd.prog.bytesOf 4 = 1 := by kernel_rfl
@[go_sem] theorem zl4 : (tz Tryd.prog 4).length = 1 := by kernel_rfl
@[go_sem] theorem za4 : (tz Tryd.prog 4).map zAV = [.bool false] := by kernel_rfl
@[go_sem] theorem zd4 : zDs (tz Tryd.prog 4) = some [.bool false] := by kernel_rfl
@[go_sem] theorem ti5 : ti Tryd.prog 5 = .int .u8 := by kernel_rfl
@[go_sem] theorem sz5 : tsz Tryd.prog 5 = 1 := by kernel_rfl
@[go_sem] theorem by5 : Tryd.prog.bytesOf 5 = 1 := by kernel_rfl
@[go_sem] theorem zl5 : (tz Tryd.prog 5).length = 1 := by kernel_rfl
@[go_sem] theorem za5 : (tz Tryd.prog 5).map zAV = [.int .u8 0] := by kernel_rfl
@[go_sem] theorem zd5 : zDs (tz Tryd.prog 5) = some [.int .u8 0] := by kernel_rfl
@[go_sem] theorem ti9 : ti Tryd.prog 9 = .str := by kernel_rfl
@[go_sem] theorem sz9 : tsz Tryd.prog 9 = 1 := by kernel_rfl
@[go_sem] theorem by9 : Tryd.prog.bytesOf 9 = 16 := by kernel_rfl
@[go_sem] theorem zl9 : (tz Tryd.prog 9).length = 1 := by kernel_rfl
@[go_sem] theorem za9 : (tz Tryd.prog 9).map zAV = [.str ByteArray.empty] := by kernel_rfl
@[go_sem] theorem zd9 : zDs (tz Tryd.prog 9) = some [.str ByteArray.empty] := by kernel_rfl
@[go_sem] theorem ti22 : ti Tryd.prog 22 = .sl 2 := by kernel_rfl
@[go_sem] theorem sz22 : tsz Tryd.prog 22 = 1 := by kernel_rfl
@[go_sem] theorem by22 : Tryd.prog.bytesOf 22 = 24 := by kernel_rfl
@[go_sem] theorem zl22 : (tz Tryd.prog 22).length = 1 := by kernel_rfl
@[go_sem] theorem za22 : (tz Tryd.prog 22).map zAV = [.nils] := by kernel_rfl
@[go_sem] theorem zd22 : zDs (tz Tryd.prog 22) = some [.sl []] := by kernel_rfl
@[go_sem] theorem ti24 : ti Tryd.prog 24 = .st [(0, 9), (1, 9), (2, 2), (3, 2), (4, 22)] := by kernel_rfl
@[go_sem] theorem sz24 : tsz Tryd.prog 24 = 5 := by kernel_rfl
@[go_sem] theorem by24 : Tryd.prog.bytesOf 24 = 72 := by kernel_rfl
@[go_sem] theorem zl24 : (tz Tryd.prog 24).length = 5 := by kernel_rfl
@[go_sem] theorem za24 : (tz Tryd.prog 24).map zAV = [.str ByteArray.empty, .str ByteArray.empty, .int .i64 0, .int .i64 0, .nils] := by kernel_rfl
@[go_sem] theorem zd24 : zDs (tz Tryd.prog 24) = some [.str ByteArray.empty, .str ByteArray.empty, .int .i64 0, .int .i64 0, .sl []] := by kernel_rfl
@[go_sem] theorem ti27 : ti Tryd.prog 27 = .st [(0, 9), (1, 9), (2, 2), (3, 2), (4, 22)] := by kernel_rfl
@[go_sem] theorem sz27 : tsz Tryd.prog 27 = 5 := by kernel_rfl
@[go_sem] theorem by27 : Tryd.prog.bytesOf 27 = 72 := by kernel_rfl
@[go_sem] theorem zl27 : (tz Tryd.prog 27).length = 5 := by kernel_rfl
@[go_sem] theorem za27 : (tz Tryd.prog 27).map zAV = [.str ByteArray.empty, .str ByteArray.empty, .int .i64 0, .int .i64 0, .nils] := by kernel_rfl
@[go_sem] theorem zd27 : zDs (tz Tryd.prog 27) = some [.str ByteArray.empty, .str ByteArray.empty, .int .i64 0, .int .i64 0, .sl []] := by kernel_rfl
@[go_sem] theorem ti31 : ti Tryd.prog 31 = .sl 33 := by kernel_rfl
@[go_sem] theorem sz31 : tsz Tryd.prog 31 = 1 := by kernel_rfl
@[go_sem] theorem by31 : Tryd.prog.bytesOf 31 = 24 := by kernel_rfl
@[go_sem] theorem zl31 : (tz Tryd.prog 31).length = 1 := by kernel_rfl
@[go_sem] theorem za31 : (tz Tryd.prog 31).map zAV = [.nils] := by kernel_rfl
@[go_sem] theorem zd31 : zDs (tz Tryd.prog 31) = some [.sl []] := by kernel_rfl
@[go_sem] theorem ti33 : ti Tryd.prog 33 = .st [(0, 2), (1, 2), (2, 22), (3, 31)] := by kernel_rfl
@[go_sem] theorem sz33 : tsz Tryd.prog 33 = 4 := by kernel_rfl
@[go_sem] theorem by33 : Tryd.prog.bytesOf 33 = 64 := by kernel_rfl
@[go_sem] theorem zl33 : (tz Tryd.prog 33).length = 4 := by kernel_rfl
@[go_sem] theorem za33 : (tz Tryd.prog 33).map zAV = [.int .i64 0, .int .i64 0, .nils, .nils] := by kernel_rfl
@[go_sem] theorem zd33 : zDs (tz Tryd.prog 33) = some [.int .i64 0, .int .i64 0, .sl [], .sl []] := by kernel_rfl
@[go_sem] theorem ti35 : ti Tryd.prog 35 = .st [(0, 33), (4, 22), (5, 22), (6, 2), (7, 2), (8, 2)] := by kernel_rfl
@[go_sem] theorem sz35 : tsz Tryd.prog 35 = 9 := by kernel_rfl
@[go_sem] theorem by35 : Tryd.prog.bytesOf 35 = 136 := by kernel_rfl
@[go_sem] theorem zl35 : (tz Tryd.prog 35).length = 9 := by kernel_rfl
@[go_sem] theorem za35 : (tz Tryd.prog 35).map zAV = [.int .i64 0, .int .i64 0, .nils, .nils, .nils, .nils, .int .i64 0, .int .i64 0, .int .i64 0] := by kernel_rfl
@[go_sem] theorem zd35 : zDs (tz Tryd.prog 35) = some [.int .i64 0, .int .i64 0, .sl [], .sl [], .sl [], .sl [], .int .i64 0, .int .i64 0, .int .i64 0] := by kernel_rfl
@[go_sem] theorem ti37 : ti Tryd.prog 37 = .sl 9 := by kernel_rfl
@[go_sem] theorem sz37 : tsz Tryd.prog 37 = 1 := by kernel_rfl
@[go_sem] theorem by37 : Tryd.prog.bytesOf 37 = 24 := by kernel_rfl
@[go_sem] theorem zl37 : (tz Tryd.prog 37).length = 1 := by kernel_rfl
@[go_sem] theorem za37 : (tz Tryd.prog 37).map zAV = [.nils] := by kernel_rfl
@[go_sem] theorem zd37 : zDs (tz Tryd.prog 37) = some [.sl []] := by kernel_rfl
@[go_sem] theorem ti39 : ti Tryd.prog 39 = .sl 41 := by kernel_rfl
@[go_sem] theorem sz39 : tsz Tryd.prog 39 = 1 := by kernel_rfl
@[go_sem] theorem by39 : Tryd.prog.bytesOf 39 = 24 := by kernel_rfl
@[go_sem] theorem zl39 : (tz Tryd.prog 39).length = 1 := by kernel_rfl
@[go_sem] theorem za39 : (tz Tryd.prog 39).map zAV = [.nils] := by kernel_rfl
@[go_sem] theorem zd39 : zDs (tz Tryd.prog 39) = some [.sl []] := by kernel_rfl
@[go_sem] theorem ti41 : ti Tryd.prog 41 = .st [(0, 2), (1, 2), (2, 22), (3, 39)] := by kernel_rfl
@[go_sem] theorem sz41 : tsz Tryd.prog 41 = 4 := by kernel_rfl
@[go_sem] theorem by41 : Tryd.prog.bytesOf 41 = 64 := by kernel_rfl
@[go_sem] theorem zl41 : (tz Tryd.prog 41).length = 4 := by kernel_rfl
@[go_sem] theorem za41 : (tz Tryd.prog 41).map zAV = [.int .i64 0, .int .i64 0, .nils, .nils] := by kernel_rfl
@[go_sem] theorem zd41 : zDs (tz Tryd.prog 41) = some [.int .i64 0, .int .i64 0, .sl [], .sl []] := by kernel_rfl
@[go_sem] theorem ti43 : ti Tryd.prog 43 = .st [(0, 41), (4, 22), (5, 22), (6, 2), (7, 2), (8, 2)] := by kernel_rfl
@[go_sem] theorem sz43 : tsz Tryd.prog 43 = 9 := by kernel_rfl
@[go_sem] theorem by43 : Tryd.prog.bytesOf 43 = 136 := by kernel_rfl
@[go_sem] theorem zl43 : (tz Tryd.prog 43).length = 9 := by kernel_rfl
@[go_sem] theorem za43 : (tz Tryd.prog 43).map zAV = [.int .i64 0, .int .i64 0, .nils, .nils, .nils, .nils, .int .i64 0, .int .i64 0, .int .i64 0] := by kernel_rfl
@[go_sem] theorem zd43 : zDs (tz Tryd.prog 43) = some [.int .i64 0, .int .i64 0, .sl [], .sl [], .sl [], .sl [], .int .i64 0, .int .i64 0, .int .i64 0] := by kernel_rfl
@[go_sem] theorem ti61 : ti Tryd.prog 61 = .sl 5 := by kernel_rfl
@[go_sem] theorem sz61 : tsz Tryd.prog 61 = 1 := by kernel_rfl
@[go_sem] theorem by61 : Tryd.prog.bytesOf 61 = 24 := by kernel_rfl
@[go_sem] theorem zl61 : (tz Tryd.prog 61).length = 1 := by kernel_rfl
@[go_sem] theorem za61 : (tz Tryd.prog 61).map zAV = [.nils] := by kernel_rfl
@[go_sem] theorem zd61 : zDs (tz Tryd.prog 61) = some [.sl []] := by kernel_rfl
@[go_sem] theorem ti75 : ti Tryd.prog 75 = .ptr 77 := by kernel_rfl
@[go_sem] theorem sz75 : tsz Tryd.prog 75 = 1 := by kernel_rfl
@[go_sem] theorem by75 : Tryd.prog.bytesOf 75 = 8 := by kernel_rfl
@[go_sem] theorem zl75 : (tz Tryd.prog 75).length = 1 := by kernel_rfl
@[go_sem] theorem za75 : (tz Tryd.prog 75).map zAV = [.nilp] := by kernel_rfl
@[go_sem] theorem ti77 : ti Tryd.prog 77 = .st [(0, 75), (1, 61)] := by kernel_rfl
@[go_sem] theorem sz77 : tsz Tryd.prog 77 = 2 := by kernel_rfl
@[go_sem] theorem by77 : Tryd.prog.bytesOf 77 = 32 := by kernel_rfl
@[go_sem] theorem zl77 : (tz Tryd.prog 77).length = 2 := by kernel_rfl
@[go_sem] theorem za77 : (tz Tryd.prog 77).map zAV = [.nilp, .nils] := by kernel_rfl
@[go_sem] theorem ti84 : ti Tryd.prog 84 = .arr 24 5 := by kernel_rfl
@[go_sem] theorem sz84 : tsz Tryd.prog 84 = 24 := by kernel_rfl
@[go_sem] theorem by84 : Tryd.prog.bytesOf 84 = 24 := by kernel_rfl
@[go_sem] theorem zl84 : (tz Tryd.prog 84).length = 24 := by kernel_rfl
@[go_sem] theorem za84 : (tz Tryd.prog 84).map zAV = [.int .u8 0, .int .u8 0, .int .u8 0, .int .u8 0, .int .u8 0, .int .u8 0, .int .u8 0, .int .u8 0, .int .u8 0, .int .u8 0, .int .u8 0, .int .u8 0, .int .u8 0, .int .u8 0, .int .u8 0, .int .u8 0, .int .u8 0, .int .u8 0, .int .u8 0, .int .u8 0, .int .u8 0, .int .u8 0, .int .u8 0, .int .u8 0] := by kernel_rfl
@[go_sem] theorem zd84 : zDs (tz Tryd.prog 84) = some [.int .u8 0, .int .u8 0, .int .u8 0, .int .u8 0, .int .u8 0, .int .u8 0, .int .u8 0, .int .u8 0, .int .u8 0, .int .u8 0, .int .u8 0, .int .u8 0, .int .u8 0, .int .u8 0, .int .u8 0, .int .u8 0, .int .u8 0, .int .u8 0, .int .u8 0, .int .u8 0, .int .u8 0, .int .u8 0, .int .u8 0, .int .u8 0] := by kernel_rfl
@[go_sem] theorem ti85 : ti Tryd.prog 85 = .int .u64 := by kernel_rfl
@[go_sem] theorem sz85 : tsz Tryd.prog 85 = 1 := by kernel_rfl
@[go_sem] theorem by85 : Tryd.prog.bytesOf 85 = 8 := by kernel_rfl
@[go_sem] theorem zl85 : (tz Tryd.prog 85).length = 1 := by kernel_rfl
@[go_sem] theorem za85 : (tz Tryd.prog 85).map zAV = [.int .u64 0] := by kernel_rfl
@[go_sem] theorem zd85 : zDs (tz Tryd.prog 85) = some [.int .u64 0] := by kernel_rfl
@[go_sem] theorem ti97 : ti Tryd.prog 97 = .ptr 5 := by kernel_rfl
@[go_sem] theorem sz97 : tsz Tryd.prog 97 = 1 := by kernel_rfl
@[go_sem] theorem by97 : Tryd.prog.bytesOf 97 = 8 := by kernel_rfl
@[go_sem] theorem zl97 : (tz Tryd.prog 97).length = 1 := by kernel_rfl
@[go_sem] theorem za97 : (tz Tryd.prog 97).map zAV = [.nilp] := by kernel_rfl
@[go_sem] theorem ti100 : ti Tryd.prog 100 = .arr 20 85 := by kernel_rfl
@[go_sem] theorem sz100 : tsz Tryd.prog 100 = 20 := by kernel_rfl
@[go_sem] theorem by100 : Tryd.prog.bytesOf 100 = 160 := by kernel_rfl
@[go_sem] theorem zl100 : (tz Tryd.prog 100).length = 20 := by kernel_rfl
@[go_sem] theorem za100 : (tz Tryd.prog 100).map zAV = [.int .u64 0, .int .u64 0, .int .u64 0, .int .u64 0, .int .u64 0, .int .u64 0, .int .u64 0, .int .u64 0, .int .u64 0, .int .u64 0, .int .u64 0, .int .u64 0, .int .u64 0, .int .u64 0, .int .u64 0, .int .u64 0, .int .u64 0, .int .u64 0, .int .u64 0, .int .u64 0] := by kernel_rfl
@[go_sem] theorem zd100 : zDs (tz Tryd.prog 100) = some [.int .u64 0, .int .u64 0, .int .u64 0, .int .u64 0, .int .u64 0, .int .u64 0, .int .u64 0, .int .u64 0, .int .u64 0, .int .u64 0, .int .u64 0, .int .u64 0, .int .u64 0, .int .u64 0, .int .u64 0, .int .u64 0, .int .u64 0, .int .u64 0, .int .u64 0, .int .u64 0] := by kernel_rfl
@[go_sem] theorem ti101 : ti Tryd.prog 101 = .int .u32 := by kernel_rfl
@[go_sem] theorem sz101 : tsz Tryd.prog 101 = 1 := by kernel_rfl
@[go_sem] theorem by101 : Tryd.prog.bytesOf 101 = 4 := by kernel_rfl
@[go_sem] theorem zl101 : (tz Tryd.prog 101).length = 1 := by kernel_rfl
@[go_sem] theorem za101 : (tz Tryd.prog 101).map zAV = [.int .u32 0] := by kernel_rfl
@[go_sem] theorem zd101 : zDs (tz Tryd.prog 101) = some [.int .u32 0] := by kernel_rfl
@[go_sem] theorem ti102 : ti Tryd.prog 102 = .arr 65 5 := by kernel_rfl
@[go_sem] theorem sz102 : tsz Tryd.prog 102 = 65 := by kernel_rfl
@[go_sem] theorem by102 : Tryd.prog.bytesOf 102 = 65 := by kernel_rfl
@[go_sem] theorem ti104 : ti Tryd.prog 104 = .int .u64 := by kernel_rfl
@[go_sem] theorem sz104 : tsz Tryd.prog 104 = 1 := by kernel_rfl
@[go_sem] theorem by104 : Tryd.prog.bytesOf 104 = 8 := by kernel_rfl
@[go_sem] theorem zl104 : (tz Tryd.prog 104).length = 1 := by kernel_rfl
@[go_sem] theorem za104 : (tz Tryd.prog 104).map zAV = [.int .u64 0] := by kernel_rfl
@[go_sem] theorem zd104 : zDs (tz Tryd.prog 104) = some [.int .u64 0] := by kernel_rfl
theorem mixed : Tryd.prog.follows .mixedOrders = true := Tryd.checked.mixed
attribute [go_sem] Nat.reduceAdd Nat.reduceMul reduceIte Nat.reduceEqDiff Nat.reduceLeDiff Nat.reduceLT
end Go.Proofs.YtlmanchbpommaaaDoor.Ab
