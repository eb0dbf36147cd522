/-
  What the walk asks of each type. Printed by wip/ab/gen_ti.py.
-/
import Derived.Test.YtlmanchbpommaaaRows
import Derived.Test.YtlmanchbpommaaaAbC
namespace Go.Proofs.Ytlmanchbpommaaa.Ab
open Go.RowKit

@[go_sem] theorem ti2 : ti Try.prog 2 = .int .i64 := by kernel_rfl
@[go_sem] theorem sz2 : tsz Try.prog 2 = 1 := by kernel_rfl
@[go_sem] theorem by2 : Try.prog.bytesOf 2 = 8 := by kernel_rfl
@[go_sem] theorem zl2 : (tz Try.prog 2).length = 1 := by kernel_rfl
@[go_sem] theorem za2 : (tz Try.prog 2).map zAV = [.int .i64 0] := by kernel_rfl
@[go_sem] theorem zd2 : zDs (tz Try.prog 2) = some [.int .i64 0] := by kernel_rfl
@[go_sem] theorem ti3 : ti Try.prog 3 = .int .i64 := by kernel_rfl
@[go_sem] theorem sz3 : tsz Try.prog 3 = 1 := by kernel_rfl
@[go_sem] theorem by3 : Try.prog.bytesOf 3 = 8 := by kernel_rfl
@[go_sem] theorem zl3 : (tz Try.prog 3).length = 1 := by kernel_rfl
@[go_sem] theorem za3 : (tz Try.prog 3).map zAV = [.int .i64 0] := by kernel_rfl
@[go_sem] theorem zd3 : zDs (tz Try.prog 3) = some [.int .i64 0] := by kernel_rfl
@[go_sem] theorem ti4 : ti Try.prog 4 = .bool := by kernel_rfl
@[go_sem] theorem sz4 : tsz Try.prog 4 = 1 := by kernel_rfl
@[go_sem] theorem by4 : Try.prog.bytesOf 4 = 1 := by kernel_rfl
@[go_sem] theorem zl4 : (tz Try.prog 4).length = 1 := by kernel_rfl
@[go_sem] theorem za4 : (tz Try.prog 4).map zAV = [.bool false] := by kernel_rfl
@[go_sem] theorem zd4 : zDs (tz Try.prog 4) = some [.bool false] := by kernel_rfl
@[go_sem] theorem ti5 : ti Try.prog 5 = .int .u8 := by kernel_rfl
@[go_sem] theorem sz5 : tsz Try.prog 5 = 1 := by kernel_rfl
@[go_sem] theorem by5 : Try.prog.bytesOf 5 = 1 := by kernel_rfl
@[go_sem] theorem zl5 : (tz Try.prog 5).length = 1 := by kernel_rfl
@[go_sem] theorem za5 : (tz Try.prog 5).map zAV = [.int .u8 0] := by kernel_rfl
@[go_sem] theorem zd5 : zDs (tz Try.prog 5) = some [.int .u8 0] := by kernel_rfl
@[go_sem] theorem ti22 : ti Try.prog 22 = .sl 2 := by kernel_rfl
@[go_sem] theorem sz22 : tsz Try.prog 22 = 1 := by kernel_rfl
@[go_sem] theorem by22 : Try.prog.bytesOf 22 = 24 := by kernel_rfl
@[go_sem] theorem zl22 : (tz Try.prog 22).length = 1 := by kernel_rfl
@[go_sem] theorem za22 : (tz Try.prog 22).map zAV = [.nils] := by kernel_rfl
@[go_sem] theorem zd22 : zDs (tz Try.prog 22) = some [.sl []] := by kernel_rfl
@[go_sem] theorem ti23 : ti Try.prog 23 = .sl 91 := by kernel_rfl
@[go_sem] theorem sz23 : tsz Try.prog 23 = 1 := by kernel_rfl
@[go_sem] theorem by23 : Try.prog.bytesOf 23 = 24 := by kernel_rfl
@[go_sem] theorem zl23 : (tz Try.prog 23).length = 1 := by kernel_rfl
@[go_sem] theorem za23 : (tz Try.prog 23).map zAV = [.nils] := by kernel_rfl
@[go_sem] theorem zd23 : zDs (tz Try.prog 23) = some [.sl []] := by kernel_rfl
@[go_sem] theorem ti24 : ti Try.prog 24 = .sl 102 := by kernel_rfl
@[go_sem] theorem sz24 : tsz Try.prog 24 = 1 := by kernel_rfl
@[go_sem] theorem by24 : Try.prog.bytesOf 24 = 24 := by kernel_rfl
@[go_sem] theorem zl24 : (tz Try.prog 24).length = 1 := by kernel_rfl
@[go_sem] theorem za24 : (tz Try.prog 24).map zAV = [.nils] := by kernel_rfl
@[go_sem] theorem zd24 : zDs (tz Try.prog 24) = some [.sl []] := by kernel_rfl
@[go_sem] theorem ti26 : ti Try.prog 26 = .st [(0, 2), (1, 2), (2, 22), (3, 23), (4, 24), (5, 22)] := by kernel_rfl
@[go_sem] theorem sz26 : tsz Try.prog 26 = 6 := by kernel_rfl
@[go_sem] theorem by26 : Try.prog.bytesOf 26 = 112 := by kernel_rfl
@[go_sem] theorem zl26 : (tz Try.prog 26).length = 6 := by kernel_rfl
@[go_sem] theorem za26 : (tz Try.prog 26).map zAV = [.int .i64 0, .int .i64 0, .nils, .nils, .nils, .nils] := by kernel_rfl
@[go_sem] theorem zd26 : zDs (tz Try.prog 26) = some [.int .i64 0, .int .i64 0, .sl [], .sl [], .sl [], .sl []] := by kernel_rfl
@[go_sem] theorem ti30 : ti Try.prog 30 = .sl 96 := by kernel_rfl
@[go_sem] theorem sz30 : tsz Try.prog 30 = 1 := by kernel_rfl
@[go_sem] theorem by30 : Try.prog.bytesOf 30 = 24 := by kernel_rfl
@[go_sem] theorem zl30 : (tz Try.prog 30).length = 1 := by kernel_rfl
@[go_sem] theorem za30 : (tz Try.prog 30).map zAV = [.nils] := by kernel_rfl
@[go_sem] theorem zd30 : zDs (tz Try.prog 30) = some [.sl []] := by kernel_rfl
@[go_sem] theorem ti31 : ti Try.prog 31 = .sl 98 := by kernel_rfl
@[go_sem] theorem sz31 : tsz Try.prog 31 = 1 := by kernel_rfl
@[go_sem] theorem by31 : Try.prog.bytesOf 31 = 24 := by kernel_rfl
@[go_sem] theorem zl31 : (tz Try.prog 31).length = 1 := by kernel_rfl
@[go_sem] theorem za31 : (tz Try.prog 31).map zAV = [.nils] := by kernel_rfl
@[go_sem] theorem zd31 : zDs (tz Try.prog 31) = some [.sl []] := by kernel_rfl
@[go_sem] theorem ti33 : ti Try.prog 33 = .st [(0, 2), (1, 2), (2, 22), (3, 30), (4, 31), (5, 22)] := by kernel_rfl
@[go_sem] theorem sz33 : tsz Try.prog 33 = 6 := by kernel_rfl
@[go_sem] theorem by33 : Try.prog.bytesOf 33 = 112 := by kernel_rfl
@[go_sem] theorem zl33 : (tz Try.prog 33).length = 6 := by kernel_rfl
@[go_sem] theorem za33 : (tz Try.prog 33).map zAV = [.int .i64 0, .int .i64 0, .nils, .nils, .nils, .nils] := by kernel_rfl
@[go_sem] theorem zd33 : zDs (tz Try.prog 33) = some [.int .i64 0, .int .i64 0, .sl [], .sl [], .sl [], .sl []] := by kernel_rfl
@[go_sem] theorem ti43 : ti Try.prog 43 = .sl 5 := by kernel_rfl
@[go_sem] theorem sz43 : tsz Try.prog 43 = 1 := by kernel_rfl
@[go_sem] theorem by43 : Try.prog.bytesOf 43 = 24 := by kernel_rfl
@[go_sem] theorem zl43 : (tz Try.prog 43).length = 1 := by kernel_rfl
@[go_sem] theorem za43 : (tz Try.prog 43).map zAV = [.nils] := by kernel_rfl
@[go_sem] theorem zd43 : zDs (tz Try.prog 43) = some [.sl []] := by kernel_rfl
@[go_sem] theorem ti44 : ti Try.prog 44 = .sl 77 := by kernel_rfl
@[go_sem] theorem sz44 : tsz Try.prog 44 = 1 := by kernel_rfl
@[go_sem] theorem by44 : Try.prog.bytesOf 44 = 24 := by kernel_rfl
@[go_sem] theorem zl44 : (tz Try.prog 44).length = 1 := by kernel_rfl
@[go_sem] theorem za44 : (tz Try.prog 44).map zAV = [.nils] := by kernel_rfl
@[go_sem] theorem zd44 : zDs (tz Try.prog 44) = some [.sl []] := by kernel_rfl
@[go_sem] theorem ti46 : ti Try.prog 46 = .st [(0, 44)] := by kernel_rfl
@[go_sem] theorem sz46 : tsz Try.prog 46 = 1 := by kernel_rfl
@[go_sem] theorem by46 : Try.prog.bytesOf 46 = 24 := by kernel_rfl
@[go_sem] theorem zl46 : (tz Try.prog 46).length = 1 := by kernel_rfl
@[go_sem] theorem za46 : (tz Try.prog 46).map zAV = [.nils] := by kernel_rfl
@[go_sem] theorem zd46 : zDs (tz Try.prog 46) = some [.sl []] := by kernel_rfl
@[go_sem] theorem ti75 : ti Try.prog 75 = .st [(0, 43), (1, 3), (2, 4)] := by kernel_rfl
@[go_sem] theorem sz75 : tsz Try.prog 75 = 3 := by kernel_rfl
@[go_sem] theorem by75 : Try.prog.bytesOf 75 = 40 := by kernel_rfl
@[go_sem] theorem zl75 : (tz Try.prog 75).length = 3 := by kernel_rfl
@[go_sem] theorem za75 : (tz Try.prog 75).map zAV = [.nils, .int .i64 0, .bool false] := by kernel_rfl
@[go_sem] theorem zd75 : zDs (tz Try.prog 75) = some [.sl [], .int .i64 0, .bool false] := by kernel_rfl
@[go_sem] theorem ti77 : ti Try.prog 77 = .st [(0, 2), (1, 2), (2, 22), (3, 44)] := by kernel_rfl
@[go_sem] theorem sz77 : tsz Try.prog 77 = 4 := by kernel_rfl
@[go_sem] theorem by77 : Try.prog.bytesOf 77 = 64 := by kernel_rfl
@[go_sem] theorem zl77 : (tz Try.prog 77).length = 4 := by kernel_rfl
@[go_sem] theorem za77 : (tz Try.prog 77).map zAV = [.int .i64 0, .int .i64 0, .nils, .nils] := by kernel_rfl
@[go_sem] theorem zd77 : zDs (tz Try.prog 77) = some [.int .i64 0, .int .i64 0, .sl [], .sl []] := by kernel_rfl
@[go_sem] theorem ti91 : ti Try.prog 91 = .st [(0, 22), (1, 2), (2, 2), (3, 2), (4, 2)] := by kernel_rfl
@[go_sem] theorem sz91 : tsz Try.prog 91 = 5 := by kernel_rfl
@[go_sem] theorem by91 : Try.prog.bytesOf 91 = 56 := by kernel_rfl
@[go_sem] theorem zl91 : (tz Try.prog 91).length = 5 := by kernel_rfl
@[go_sem] theorem za91 : (tz Try.prog 91).map zAV = [.nils, .int .i64 0, .int .i64 0, .int .i64 0, .int .i64 0] := by kernel_rfl
@[go_sem] theorem zd91 : zDs (tz Try.prog 91) = some [.sl [], .int .i64 0, .int .i64 0, .int .i64 0, .int .i64 0] := by kernel_rfl
@[go_sem] theorem ti96 : ti Try.prog 96 = .st [(0, 22), (1, 2), (2, 2), (3, 2), (4, 2)] := by kernel_rfl
@[go_sem] theorem sz96 : tsz Try.prog 96 = 5 := by kernel_rfl
@[go_sem] theorem by96 : Try.prog.bytesOf 96 = 56 := by kernel_rfl
@[go_sem] theorem zl96 : (tz Try.prog 96).length = 5 := by kernel_rfl
@[go_sem] theorem za96 : (tz Try.prog 96).map zAV = [.nils, .int .i64 0, .int .i64 0, .int .i64 0, .int .i64 0] := by kernel_rfl
@[go_sem] theorem zd96 : zDs (tz Try.prog 96) = some [.sl [], .int .i64 0, .int .i64 0, .int .i64 0, .int .i64 0] := by kernel_rfl
@[go_sem] theorem ti98 : ti Try.prog 98 = .st [(0, 2), (1, 2)] := by kernel_rfl
@[go_sem] theorem ks98 : structKs Try.prog 98 = some [.int .i64, .int .i64] := by kernel_rfl
@[go_sem] theorem sz98 : tsz Try.prog 98 = 2 := by kernel_rfl
@[go_sem] theorem by98 : Try.prog.bytesOf 98 = 16 := by kernel_rfl
@[go_sem] theorem zl98 : (tz Try.prog 98).length = 2 := by kernel_rfl
@[go_sem] theorem za98 : (tz Try.prog 98).map zAV = [.int .i64 0, .int .i64 0] := by kernel_rfl
@[go_sem] theorem zd98 : zDs (tz Try.prog 98) = some [.int .i64 0, .int .i64 0] := by kernel_rfl
@[go_sem] theorem ti102 : ti Try.prog 102 = .st [(0, 2), (1, 2)] := by kernel_rfl
@[go_sem] theorem ks102 : structKs Try.prog 102 = some [.int .i64, .int .i64] := by kernel_rfl
@[go_sem] theorem sz102 : tsz Try.prog 102 = 2 := by kernel_rfl
@[go_sem] theorem by102 : Try.prog.bytesOf 102 = 16 := by kernel_rfl
@[go_sem] theorem zl102 : (tz Try.prog 102).length = 2 := by kernel_rfl
@[go_sem] theorem za102 : (tz Try.prog 102).map zAV = [.int .i64 0, .int .i64 0] := by kernel_rfl
@[go_sem] theorem zd102 : zDs (tz Try.prog 102) = some [.int .i64 0, .int .i64 0] := by kernel_rfl
@[go_sem] theorem ti119 : ti Try.prog 119 = .int .u64 := by kernel_rfl
@[go_sem] theorem sz119 : tsz Try.prog 119 = 1 := by kernel_rfl
@[go_sem] theorem by119 : Try.prog.bytesOf 119 = 8 := by kernel_rfl
@[go_sem] theorem zl119 : (tz Try.prog 119).length = 1 := by kernel_rfl
@[go_sem] theorem za119 : (tz Try.prog 119).map zAV = [.int .u64 0] := by kernel_rfl
@[go_sem] theorem zd119 : zDs (tz Try.prog 119) = some [.int .u64 0] := by kernel_rfl
@[go_sem] theorem ti120 : ti Try.prog 120 = .int .u64 := by kernel_rfl
@[go_sem] theorem sz120 : tsz Try.prog 120 = 1 := by kernel_rfl
@[go_sem] theorem by120 : Try.prog.bytesOf 120 = 8 := by kernel_rfl
@[go_sem] theorem zl120 : (tz Try.prog 120).length = 1 := by kernel_rfl
@[go_sem] theorem za120 : (tz Try.prog 120).map zAV = [.int .u64 0] := by kernel_rfl
@[go_sem] theorem zd120 : zDs (tz Try.prog 120) = some [.int .u64 0] := by kernel_rfl
@[go_sem] theorem ti125 : ti Try.prog 125 = .st [(0, 43), (1, 2), (2, 4)] := by kernel_rfl
@[go_sem] theorem sz125 : tsz Try.prog 125 = 3 := by kernel_rfl
@[go_sem] theorem by125 : Try.prog.bytesOf 125 = 40 := by kernel_rfl
@[go_sem] theorem zl125 : (tz Try.prog 125).length = 3 := by kernel_rfl
@[go_sem] theorem za125 : (tz Try.prog 125).map zAV = [.nils, .int .i64 0, .bool false] := by kernel_rfl
@[go_sem] theorem zd125 : zDs (tz Try.prog 125) = some [.sl [], .int .i64 0, .bool false] := by kernel_rfl
@[go_sem] theorem ti137 : ti Try.prog 137 = .sl 22 := by kernel_rfl
@[go_sem] theorem sz137 : tsz Try.prog 137 = 1 := by kernel_rfl
@[go_sem] theorem by137 : Try.prog.bytesOf 137 = 24 := by kernel_rfl
@[go_sem] theorem zl137 : (tz Try.prog 137).length = 1 := by kernel_rfl
@[go_sem] theorem za137 : (tz Try.prog 137).map zAV = [.nils] := by kernel_rfl
@[go_sem] theorem zd137 : zDs (tz Try.prog 137) = some [.sl []] := by kernel_rfl
@[go_sem] theorem ti141 : ti Try.prog 141 = .int .u32 := by kernel_rfl
@[go_sem] theorem sz141 : tsz Try.prog 141 = 1 := by kernel_rfl
@[go_sem] theorem by141 : Try.prog.bytesOf 141 = 4 := by kernel_rfl
@[go_sem] theorem zl141 : (tz Try.prog 141).length = 1 := by kernel_rfl
@[go_sem] theorem za141 : (tz Try.prog 141).map zAV = [.int .u32 0] := by kernel_rfl
@[go_sem] theorem zd141 : zDs (tz Try.prog 141) = some [.int .u32 0] := by kernel_rfl
@[go_sem] theorem ti146 : ti Try.prog 146 = .fn := by kernel_rfl
@[go_sem] theorem sz146 : tsz Try.prog 146 = 1 := by kernel_rfl
@[go_sem] theorem by146 : Try.prog.bytesOf 146 = 8 := by kernel_rfl
@[go_sem] theorem zl146 : (tz Try.prog 146).length = 1 := by kernel_rfl
@[go_sem] theorem ti152 : ti Try.prog 152 = .int .i64 := by kernel_rfl
@[go_sem] theorem sz152 : tsz Try.prog 152 = 1 := by kernel_rfl
@[go_sem] theorem by152 : Try.prog.bytesOf 152 = 8 := by kernel_rfl
@[go_sem] theorem zl152 : (tz Try.prog 152).length = 1 := by kernel_rfl
@[go_sem] theorem za152 : (tz Try.prog 152).map zAV = [.int .i64 0] := by kernel_rfl
@[go_sem] theorem zd152 : zDs (tz Try.prog 152) = some [.int .i64 0] := by kernel_rfl
@[go_sem] theorem ti168 : ti Try.prog 168 = .int .u64 := by kernel_rfl
@[go_sem] theorem sz168 : tsz Try.prog 168 = 1 := by kernel_rfl
@[go_sem] theorem by168 : Try.prog.bytesOf 168 = 8 := by kernel_rfl
@[go_sem] theorem zl168 : (tz Try.prog 168).length = 1 := by kernel_rfl
@[go_sem] theorem za168 : (tz Try.prog 168).map zAV = [.int .u64 0] := by kernel_rfl
@[go_sem] theorem zd168 : zDs (tz Try.prog 168) = some [.int .u64 0] := by kernel_rfl
theorem mixed : Try.prog.follows .mixedOrders = true := Try.checked.mixed
attribute [go_sem] Nat.reduceAdd Nat.reduceMul reduceIte Nat.reduceEqDiff Nat.reduceLeDiff Nat.reduceLT
end Go.Proofs.Ytlmanchbpommaaa.Ab
