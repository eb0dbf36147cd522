/-
  What the walk asks of each type. Printed by wip/ab/gen_ti.py.
-/
import Derived.Test.YtocpkbclcnjejaaRows
import Derived.Test.YtocpkbclcnjejaaAbC
namespace Go.Proofs.Ytocpkbclcnjejaa.Ab
open Go.RowKit

@[go_sem] theorem ti2 : ti Try.prog 2 = .int .i64 := by kernel_rfl
@[go_sem] theorem sz2 : tsz Try.prog 2 = 1 := by kernel_rfl
@[go_sem] theorem by2 : Try.prog.bytesOf 2 = 8 := by kernel_rfl
@[go_sem] theorem zl2 : (tz Try.prog 2).length = 1 := by kernel_rfl
@[go_sem] theorem za2 : (tz Try.prog 2).map zAV = [.int .i64 0] := by kernel_rfl
@[go_sem] theorem zd2 : zDs (tz Try.prog 2) = some [.int .i64 0] := by kernel_rfl
@[go_sem] theorem ti3 : ti Try.prog 3 = .int .i64 := by kernel_rfl
@[go_sem] theorem sz3 : tsz Try.prog 3 = 1 := by kernel_rfl
@[go_sem] theorem by3 : Try.prog.bytesOf 3 = 8 := by kernel_rfl
@[go_sem] theorem zl3 : (tz Try.prog 3).length = 1 := by kernel_rfl
@[go_sem] theorem za3 : (tz Try.prog 3).map zAV = [.int .i64 0] := by kernel_rfl
@[go_sem] theorem zd3 : zDs (tz Try.prog 3) = some [.int .i64 0] := by kernel_rfl
@[go_sem] theorem ti4 : ti Try.prog 4 = .bool := by kernel_rfl
@[go_sem] theorem sz4 : tsz Try.prog 4 = 1 := by kernel_rfl
@[go_sem] theorem by4 : Try.prog.bytesOf 4 = 1 := by kernel_rfl
@[go_sem] theorem zl4 : (tz Try.prog 4).length = 1 := by kernel_rfl
@[go_sem] theorem za4 : (tz Try.prog 4).map zAV = [.bool false] := by kernel_rfl
@[go_sem] theorem zd4 : zDs (tz Try.prog 4) = some [.bool false] := by kernel_rfl
@[go_sem] theorem ti5 : ti Try.prog 5 = .int .u8 := by kernel_rfl
@[go_sem] theorem sz5 : tsz Try.prog 5 = 1 := by kernel_rfl
@[go_sem] theorem by5 : Try.prog.bytesOf 5 = 1 := by kernel_rfl
@[go_sem] theorem zl5 : (tz Try.prog 5).length = 1 := by kernel_rfl
@[go_sem] theorem za5 : (tz Try.prog 5).map zAV = [.int .u8 0] := by kernel_rfl
@[go_sem] theorem zd5 : zDs (tz Try.prog 5) = some [.int .u8 0] := by kernel_rfl
@[go_sem] theorem ti9 : ti Try.prog 9 = .str := by kernel_rfl
@[go_sem] theorem sz9 : tsz Try.prog 9 = 1 := by kernel_rfl
@[go_sem] theorem by9 : Try.prog.bytesOf 9 = 16 := by kernel_rfl
@[go_sem] theorem zl9 : (tz Try.prog 9).length = 1 := by kernel_rfl
@[go_sem] theorem za9 : (tz Try.prog 9).map zAV = [.str ByteArray.empty] := by kernel_rfl
@[go_sem] theorem zd9 : zDs (tz Try.prog 9) = some [.str ByteArray.empty] := by kernel_rfl
@[go_sem] theorem ti22 : ti Try.prog 22 = .sl 140 := by kernel_rfl
@[go_sem] theorem sz22 : tsz Try.prog 22 = 1 := by kernel_rfl
@[go_sem] theorem by22 : Try.prog.bytesOf 22 = 24 := by kernel_rfl
@[go_sem] theorem zl22 : (tz Try.prog 22).length = 1 := by kernel_rfl
@[go_sem] theorem za22 : (tz Try.prog 22).map zAV = [.nils] := by kernel_rfl
@[go_sem] theorem zd22 : zDs (tz Try.prog 22) = some [.sl []] := by kernel_rfl
@[go_sem] theorem ti24 : ti Try.prog 24 = .st [(0, 22)] := by kernel_rfl
@[go_sem] theorem sz24 : tsz Try.prog 24 = 1 := by kernel_rfl
@[go_sem] theorem by24 : Try.prog.bytesOf 24 = 24 := by kernel_rfl
@[go_sem] theorem zl24 : (tz Try.prog 24).length = 1 := by kernel_rfl
@[go_sem] theorem za24 : (tz Try.prog 24).map zAV = [.nils] := by kernel_rfl
@[go_sem] theorem zd24 : zDs (tz Try.prog 24) = some [.sl []] := by kernel_rfl
@[go_sem] theorem ti26 : ti Try.prog 26 = .sl 5 := by kernel_rfl
@[go_sem] theorem sz26 : tsz Try.prog 26 = 1 := by kernel_rfl
@[go_sem] theorem by26 : Try.prog.bytesOf 26 = 24 := by kernel_rfl
@[go_sem] theorem zl26 : (tz Try.prog 26).length = 1 := by kernel_rfl
@[go_sem] theorem za26 : (tz Try.prog 26).map zAV = [.nils] := by kernel_rfl
@[go_sem] theorem zd26 : zDs (tz Try.prog 26) = some [.sl []] := by kernel_rfl
@[go_sem] theorem ti29 : ti Try.prog 29 = .sl 145 := by kernel_rfl
@[go_sem] theorem sz29 : tsz Try.prog 29 = 1 := by kernel_rfl
@[go_sem] theorem by29 : Try.prog.bytesOf 29 = 24 := by kernel_rfl
@[go_sem] theorem zl29 : (tz Try.prog 29).length = 1 := by kernel_rfl
@[go_sem] theorem za29 : (tz Try.prog 29).map zAV = [.nils] := by kernel_rfl
@[go_sem] theorem zd29 : zDs (tz Try.prog 29) = some [.sl []] := by kernel_rfl
@[go_sem] theorem ti31 : ti Try.prog 31 = .st [(0, 29)] := by kernel_rfl
@[go_sem] theorem sz31 : tsz Try.prog 31 = 1 := by kernel_rfl
@[go_sem] theorem by31 : Try.prog.bytesOf 31 = 24 := by kernel_rfl
@[go_sem] theorem zl31 : (tz Try.prog 31).length = 1 := by kernel_rfl
@[go_sem] theorem za31 : (tz Try.prog 31).map zAV = [.nils] := by kernel_rfl
@[go_sem] theorem zd31 : zDs (tz Try.prog 31) = some [.sl []] := by kernel_rfl
@[go_sem] theorem ti38 : ti Try.prog 38 = .sl 24 := by kernel_rfl
@[go_sem] theorem sz38 : tsz Try.prog 38 = 1 := by kernel_rfl
@[go_sem] theorem by38 : Try.prog.bytesOf 38 = 24 := by kernel_rfl
@[go_sem] theorem zl38 : (tz Try.prog 38).length = 1 := by kernel_rfl
@[go_sem] theorem za38 : (tz Try.prog 38).map zAV = [.nils] := by kernel_rfl
@[go_sem] theorem zd38 : zDs (tz Try.prog 38) = some [.sl []] := by kernel_rfl
@[go_sem] theorem ti41 : ti Try.prog 41 = .sl 31 := by kernel_rfl
@[go_sem] theorem sz41 : tsz Try.prog 41 = 1 := by kernel_rfl
@[go_sem] theorem by41 : Try.prog.bytesOf 41 = 24 := by kernel_rfl
@[go_sem] theorem zl41 : (tz Try.prog 41).length = 1 := by kernel_rfl
@[go_sem] theorem za41 : (tz Try.prog 41).map zAV = [.nils] := by kernel_rfl
@[go_sem] theorem zd41 : zDs (tz Try.prog 41) = some [.sl []] := by kernel_rfl
@[go_sem] theorem ti46 : ti Try.prog 46 = .sl 2 := by kernel_rfl
@[go_sem] theorem sz46 : tsz Try.prog 46 = 1 := by kernel_rfl
@[go_sem] theorem by46 : Try.prog.bytesOf 46 = 24 := by kernel_rfl
@[go_sem] theorem zl46 : (tz Try.prog 46).length = 1 := by kernel_rfl
@[go_sem] theorem za46 : (tz Try.prog 46).map zAV = [.nils] := by kernel_rfl
@[go_sem] theorem zd46 : zDs (tz Try.prog 46) = some [.sl []] := by kernel_rfl
@[go_sem] theorem ti47 : ti Try.prog 47 = .sl 49 := by kernel_rfl
@[go_sem] theorem sz47 : tsz Try.prog 47 = 1 := by kernel_rfl
@[go_sem] theorem by47 : Try.prog.bytesOf 47 = 24 := by kernel_rfl
@[go_sem] theorem zl47 : (tz Try.prog 47).length = 1 := by kernel_rfl
@[go_sem] theorem za47 : (tz Try.prog 47).map zAV = [.nils] := by kernel_rfl
@[go_sem] theorem zd47 : zDs (tz Try.prog 47) = some [.sl []] := by kernel_rfl
@[go_sem] theorem ti49 : ti Try.prog 49 = .st [(0, 2), (1, 2), (2, 46), (3, 47)] := by kernel_rfl
@[go_sem] theorem sz49 : tsz Try.prog 49 = 4 := by kernel_rfl
@[go_sem] theorem by49 : Try.prog.bytesOf 49 = 64 := by kernel_rfl
@[go_sem] theorem zl49 : (tz Try.prog 49).length = 4 := by kernel_rfl
@[go_sem] theorem za49 : (tz Try.prog 49).map zAV = [.int .i64 0, .int .i64 0, .nils, .nils] := by kernel_rfl
@[go_sem] theorem zd49 : zDs (tz Try.prog 49) = some [.int .i64 0, .int .i64 0, .sl [], .sl []] := by kernel_rfl
@[go_sem] theorem ti50 : ti Try.prog 50 = .sl 9 := by kernel_rfl
@[go_sem] theorem sz50 : tsz Try.prog 50 = 1 := by kernel_rfl
@[go_sem] theorem by50 : Try.prog.bytesOf 50 = 24 := by kernel_rfl
@[go_sem] theorem zl50 : (tz Try.prog 50).length = 1 := by kernel_rfl
@[go_sem] theorem za50 : (tz Try.prog 50).map zAV = [.nils] := by kernel_rfl
@[go_sem] theorem zd50 : zDs (tz Try.prog 50) = some [.sl []] := by kernel_rfl
@[go_sem] theorem ti52 : ti Try.prog 52 = .st [(0, 49), (4, 50)] := by kernel_rfl
@[go_sem] theorem sz52 : tsz Try.prog 52 = 5 := by kernel_rfl
@[go_sem] theorem by52 : Try.prog.bytesOf 52 = 88 := by kernel_rfl
@[go_sem] theorem zl52 : (tz Try.prog 52).length = 5 := by kernel_rfl
@[go_sem] theorem za52 : (tz Try.prog 52).map zAV = [.int .i64 0, .int .i64 0, .nils, .nils, .nils] := by kernel_rfl
@[go_sem] theorem zd52 : zDs (tz Try.prog 52) = some [.int .i64 0, .int .i64 0, .sl [], .sl [], .sl []] := by kernel_rfl
@[go_sem] theorem ti56 : ti Try.prog 56 = .sl 58 := by kernel_rfl
@[go_sem] theorem sz56 : tsz Try.prog 56 = 1 := by kernel_rfl
@[go_sem] theorem by56 : Try.prog.bytesOf 56 = 24 := by kernel_rfl
@[go_sem] theorem zl56 : (tz Try.prog 56).length = 1 := by kernel_rfl
@[go_sem] theorem za56 : (tz Try.prog 56).map zAV = [.nils] := by kernel_rfl
@[go_sem] theorem zd56 : zDs (tz Try.prog 56) = some [.sl []] := by kernel_rfl
@[go_sem] theorem ti58 : ti Try.prog 58 = .st [(0, 2), (1, 2), (2, 46), (3, 56)] := by kernel_rfl
@[go_sem] theorem sz58 : tsz Try.prog 58 = 4 := by kernel_rfl
@[go_sem] theorem by58 : Try.prog.bytesOf 58 = 64 := by kernel_rfl
@[go_sem] theorem zl58 : (tz Try.prog 58).length = 4 := by kernel_rfl
@[go_sem] theorem za58 : (tz Try.prog 58).map zAV = [.int .i64 0, .int .i64 0, .nils, .nils] := by kernel_rfl
@[go_sem] theorem zd58 : zDs (tz Try.prog 58) = some [.int .i64 0, .int .i64 0, .sl [], .sl []] := by kernel_rfl
@[go_sem] theorem ti60 : ti Try.prog 60 = .st [(0, 58), (4, 50)] := by kernel_rfl
@[go_sem] theorem sz60 : tsz Try.prog 60 = 5 := by kernel_rfl
@[go_sem] theorem by60 : Try.prog.bytesOf 60 = 88 := by kernel_rfl
@[go_sem] theorem zl60 : (tz Try.prog 60).length = 5 := by kernel_rfl
@[go_sem] theorem za60 : (tz Try.prog 60).map zAV = [.int .i64 0, .int .i64 0, .nils, .nils, .nils] := by kernel_rfl
@[go_sem] theorem zd60 : zDs (tz Try.prog 60) = some [.int .i64 0, .int .i64 0, .sl [], .sl [], .sl []] := by kernel_rfl
@[go_sem] theorem ti70 : ti Try.prog 70 = .sl 190 := by kernel_rfl
@[go_sem] theorem sz70 : tsz Try.prog 70 = 1 := by kernel_rfl
@[go_sem] theorem by70 : Try.prog.bytesOf 70 = 24 := by kernel_rfl
@[go_sem] theorem zl70 : (tz Try.prog 70).length = 1 := by kernel_rfl
@[go_sem] theorem za70 : (tz Try.prog 70).map zAV = [.nils] := by kernel_rfl
@[go_sem] theorem zd70 : zDs (tz Try.prog 70) = some [.sl []] := by kernel_rfl
@[go_sem] theorem ti71 : ti Try.prog 71 = .sl 199 := by kernel_rfl
@[go_sem] theorem sz71 : tsz Try.prog 71 = 1 := by kernel_rfl
@[go_sem] theorem by71 : Try.prog.bytesOf 71 = 24 := by kernel_rfl
@[go_sem] theorem zl71 : (tz Try.prog 71).length = 1 := by kernel_rfl
@[go_sem] theorem za71 : (tz Try.prog 71).map zAV = [.nils] := by kernel_rfl
@[go_sem] theorem zd71 : zDs (tz Try.prog 71) = some [.sl []] := by kernel_rfl
@[go_sem] theorem ti73 : ti Try.prog 73 = .st [(0, 2), (1, 2), (2, 46), (3, 70), (4, 71), (5, 46)] := by kernel_rfl
@[go_sem] theorem sz73 : tsz Try.prog 73 = 6 := by kernel_rfl
@[go_sem] theorem by73 : Try.prog.bytesOf 73 = 112 := by kernel_rfl
@[go_sem] theorem zl73 : (tz Try.prog 73).length = 6 := by kernel_rfl
@[go_sem] theorem za73 : (tz Try.prog 73).map zAV = [.int .i64 0, .int .i64 0, .nils, .nils, .nils, .nils] := by kernel_rfl
@[go_sem] theorem zd73 : zDs (tz Try.prog 73) = some [.int .i64 0, .int .i64 0, .sl [], .sl [], .sl [], .sl []] := by kernel_rfl
@[go_sem] theorem ti77 : ti Try.prog 77 = .sl 193 := by kernel_rfl
@[go_sem] theorem sz77 : tsz Try.prog 77 = 1 := by kernel_rfl
@[go_sem] theorem by77 : Try.prog.bytesOf 77 = 24 := by kernel_rfl
@[go_sem] theorem zl77 : (tz Try.prog 77).length = 1 := by kernel_rfl
@[go_sem] theorem za77 : (tz Try.prog 77).map zAV = [.nils] := by kernel_rfl
@[go_sem] theorem zd77 : zDs (tz Try.prog 77) = some [.sl []] := by kernel_rfl
@[go_sem] theorem ti78 : ti Try.prog 78 = .sl 195 := by kernel_rfl
@[go_sem] theorem sz78 : tsz Try.prog 78 = 1 := by kernel_rfl
@[go_sem] theorem by78 : Try.prog.bytesOf 78 = 24 := by kernel_rfl
@[go_sem] theorem zl78 : (tz Try.prog 78).length = 1 := by kernel_rfl
@[go_sem] theorem za78 : (tz Try.prog 78).map zAV = [.nils] := by kernel_rfl
@[go_sem] theorem zd78 : zDs (tz Try.prog 78) = some [.sl []] := by kernel_rfl
@[go_sem] theorem ti80 : ti Try.prog 80 = .st [(0, 2), (1, 2), (2, 46), (3, 77), (4, 78), (5, 46)] := by kernel_rfl
@[go_sem] theorem sz80 : tsz Try.prog 80 = 6 := by kernel_rfl
@[go_sem] theorem by80 : Try.prog.bytesOf 80 = 112 := by kernel_rfl
@[go_sem] theorem zl80 : (tz Try.prog 80).length = 6 := by kernel_rfl
@[go_sem] theorem za80 : (tz Try.prog 80).map zAV = [.int .i64 0, .int .i64 0, .nils, .nils, .nils, .nils] := by kernel_rfl
@[go_sem] theorem zd80 : zDs (tz Try.prog 80) = some [.int .i64 0, .int .i64 0, .sl [], .sl [], .sl [], .sl []] := by kernel_rfl
@[go_sem] theorem ti113 : ti Try.prog 113 = .sl 114 := by kernel_rfl
@[go_sem] theorem sz113 : tsz Try.prog 113 = 1 := by kernel_rfl
@[go_sem] theorem by113 : Try.prog.bytesOf 113 = 24 := by kernel_rfl
@[go_sem] theorem zl113 : (tz Try.prog 113).length = 1 := by kernel_rfl
@[go_sem] theorem za113 : (tz Try.prog 113).map zAV = [.nils] := by kernel_rfl
@[go_sem] theorem zd113 : zDs (tz Try.prog 113) = some [.sl []] := by kernel_rfl
@[go_sem] theorem ti114 : ti Try.prog 114 = .ptr 183 := by kernel_rfl
@[go_sem] theorem sz114 : tsz Try.prog 114 = 1 := by kernel_rfl
@[go_sem] theorem by114 : Try.prog.bytesOf 114 = 8 := by kernel_rfl
@[go_sem] theorem zl114 : (tz Try.prog 114).length = 1 := by kernel_rfl
@[go_sem] theorem za114 : (tz Try.prog 114).map zAV = [.nilp] := by kernel_rfl
@[go_sem] theorem ti138 : ti Try.prog 138 = .sl 231 := by kernel_rfl
@[go_sem] theorem sz138 : tsz Try.prog 138 = 1 := by kernel_rfl
@[go_sem] theorem by138 : Try.prog.bytesOf 138 = 24 := by kernel_rfl
@[go_sem] theorem zl138 : (tz Try.prog 138).length = 1 := by kernel_rfl
@[go_sem] theorem za138 : (tz Try.prog 138).map zAV = [.nils] := by kernel_rfl
@[go_sem] theorem zd138 : zDs (tz Try.prog 138) = some [.sl []] := by kernel_rfl
@[go_sem] theorem ti140 : ti Try.prog 140 = .st [(0, 2), (1, 2), (2, 2), (3, 46), (4, 138)] := by kernel_rfl
@[go_sem] theorem sz140 : tsz Try.prog 140 = 5 := by kernel_rfl
@[go_sem] theorem by140 : Try.prog.bytesOf 140 = 72 := by kernel_rfl
@[go_sem] theorem zl140 : (tz Try.prog 140).length = 5 := by kernel_rfl
@[go_sem] theorem za140 : (tz Try.prog 140).map zAV = [.int .i64 0, .int .i64 0, .int .i64 0, .nils, .nils] := by kernel_rfl
@[go_sem] theorem zd140 : zDs (tz Try.prog 140) = some [.int .i64 0, .int .i64 0, .int .i64 0, .sl [], .sl []] := by kernel_rfl
@[go_sem] theorem ti143 : ti Try.prog 143 = .sl 147 := by kernel_rfl
@[go_sem] theorem sz143 : tsz Try.prog 143 = 1 := by kernel_rfl
@[go_sem] theorem by143 : Try.prog.bytesOf 143 = 24 := by kernel_rfl
@[go_sem] theorem zl143 : (tz Try.prog 143).length = 1 := by kernel_rfl
@[go_sem] theorem za143 : (tz Try.prog 143).map zAV = [.nils] := by kernel_rfl
@[go_sem] theorem zd143 : zDs (tz Try.prog 143) = some [.sl []] := by kernel_rfl
@[go_sem] theorem ti145 : ti Try.prog 145 = .st [(0, 2), (1, 2), (2, 2), (3, 46), (4, 143)] := by kernel_rfl
@[go_sem] theorem sz145 : tsz Try.prog 145 = 5 := by kernel_rfl
@[go_sem] theorem by145 : Try.prog.bytesOf 145 = 72 := by kernel_rfl
@[go_sem] theorem zl145 : (tz Try.prog 145).length = 5 := by kernel_rfl
@[go_sem] theorem za145 : (tz Try.prog 145).map zAV = [.int .i64 0, .int .i64 0, .int .i64 0, .nils, .nils] := by kernel_rfl
@[go_sem] theorem zd145 : zDs (tz Try.prog 145) = some [.int .i64 0, .int .i64 0, .int .i64 0, .sl [], .sl []] := by kernel_rfl
@[go_sem] theorem ti147 : ti Try.prog 147 = .st [(0, 2), (1, 2)] := by kernel_rfl
@[go_sem] theorem ks147 : structKs Try.prog 147 = some [.int .i64, .int .i64] := by kernel_rfl
@[go_sem] theorem sz147 : tsz Try.prog 147 = 2 := by kernel_rfl
@[go_sem] theorem by147 : Try.prog.bytesOf 147 = 16 := by kernel_rfl
@[go_sem] theorem zl147 : (tz Try.prog 147).length = 2 := by kernel_rfl
@[go_sem] theorem za147 : (tz Try.prog 147).map zAV = [.int .i64 0, .int .i64 0] := by kernel_rfl
@[go_sem] theorem zd147 : zDs (tz Try.prog 147) = some [.int .i64 0, .int .i64 0] := by kernel_rfl
@[go_sem] theorem ti151 : ti Try.prog 151 = .sl 154 := by kernel_rfl
@[go_sem] theorem sz151 : tsz Try.prog 151 = 1 := by kernel_rfl
@[go_sem] theorem by151 : Try.prog.bytesOf 151 = 24 := by kernel_rfl
@[go_sem] theorem zl151 : (tz Try.prog 151).length = 1 := by kernel_rfl
@[go_sem] theorem za151 : (tz Try.prog 151).map zAV = [.nils] := by kernel_rfl
@[go_sem] theorem zd151 : zDs (tz Try.prog 151) = some [.sl []] := by kernel_rfl
@[go_sem] theorem ti154 : ti Try.prog 154 = .st [(0, 147), (2, 147)] := by kernel_rfl
@[go_sem] theorem ks154 : structKs Try.prog 154 = some [.int .i64, .int .i64, .int .i64, .int .i64] := by kernel_rfl
@[go_sem] theorem sz154 : tsz Try.prog 154 = 4 := by kernel_rfl
@[go_sem] theorem by154 : Try.prog.bytesOf 154 = 32 := by kernel_rfl
@[go_sem] theorem zl154 : (tz Try.prog 154).length = 4 := by kernel_rfl
@[go_sem] theorem za154 : (tz Try.prog 154).map zAV = [.int .i64 0, .int .i64 0, .int .i64 0, .int .i64 0] := by kernel_rfl
@[go_sem] theorem zd154 : zDs (tz Try.prog 154) = some [.int .i64 0, .int .i64 0, .int .i64 0, .int .i64 0] := by kernel_rfl
@[go_sem] theorem ti164 : ti Try.prog 164 = .int .u64 := by kernel_rfl
@[go_sem] theorem sz164 : tsz Try.prog 164 = 1 := by kernel_rfl
@[go_sem] theorem by164 : Try.prog.bytesOf 164 = 8 := by kernel_rfl
@[go_sem] theorem zl164 : (tz Try.prog 164).length = 1 := by kernel_rfl
@[go_sem] theorem za164 : (tz Try.prog 164).map zAV = [.int .u64 0] := by kernel_rfl
@[go_sem] theorem zd164 : zDs (tz Try.prog 164) = some [.int .u64 0] := by kernel_rfl
@[go_sem] theorem ti173 : ti Try.prog 173 = .sl 175 := by kernel_rfl
@[go_sem] theorem sz173 : tsz Try.prog 173 = 1 := by kernel_rfl
@[go_sem] theorem by173 : Try.prog.bytesOf 173 = 24 := by kernel_rfl
@[go_sem] theorem zl173 : (tz Try.prog 173).length = 1 := by kernel_rfl
@[go_sem] theorem za173 : (tz Try.prog 173).map zAV = [.nils] := by kernel_rfl
@[go_sem] theorem zd173 : zDs (tz Try.prog 173) = some [.sl []] := by kernel_rfl
@[go_sem] theorem ti175 : ti Try.prog 175 = .st [(0, 2), (1, 2), (2, 46), (3, 9), (4, 173)] := by kernel_rfl
@[go_sem] theorem sz175 : tsz Try.prog 175 = 5 := by kernel_rfl
@[go_sem] theorem by175 : Try.prog.bytesOf 175 = 80 := by kernel_rfl
@[go_sem] theorem zl175 : (tz Try.prog 175).length = 5 := by kernel_rfl
@[go_sem] theorem za175 : (tz Try.prog 175).map zAV = [.int .i64 0, .int .i64 0, .nils, .str ByteArray.empty, .nils] := by kernel_rfl
@[go_sem] theorem zd175 : zDs (tz Try.prog 175) = some [.int .i64 0, .int .i64 0, .sl [], .str ByteArray.empty, .sl []] := by kernel_rfl
@[go_sem] theorem ti179 : ti Try.prog 179 = .fn := by kernel_rfl
@[go_sem] theorem sz179 : tsz Try.prog 179 = 1 := by kernel_rfl
@[go_sem] theorem by179 : Try.prog.bytesOf 179 = 8 := by kernel_rfl
@[go_sem] theorem zl179 : (tz Try.prog 179).length = 1 := by kernel_rfl
@[go_sem] theorem ti183 : ti Try.prog 183 = .st [(0, 58), (4, 9), (5, 2), (6, 113)] := by kernel_rfl
@[go_sem] theorem sz183 : tsz Try.prog 183 = 7 := by kernel_rfl
@[go_sem] theorem by183 : Try.prog.bytesOf 183 = 112 := by kernel_rfl
@[go_sem] theorem zl183 : (tz Try.prog 183).length = 7 := by kernel_rfl
@[go_sem] theorem za183 : (tz Try.prog 183).map zAV = [.int .i64 0, .int .i64 0, .nils, .nils, .str ByteArray.empty, .int .i64 0, .nils] := by kernel_rfl
@[go_sem] theorem zd183 : zDs (tz Try.prog 183) = some [.int .i64 0, .int .i64 0, .sl [], .sl [], .str ByteArray.empty, .int .i64 0, .sl []] := by kernel_rfl
@[go_sem] theorem ti190 : ti Try.prog 190 = .st [(0, 46), (1, 2), (2, 2), (3, 2), (4, 2)] := by kernel_rfl
@[go_sem] theorem sz190 : tsz Try.prog 190 = 5 := by kernel_rfl
@[go_sem] theorem by190 : Try.prog.bytesOf 190 = 56 := by kernel_rfl
@[go_sem] theorem zl190 : (tz Try.prog 190).length = 5 := by kernel_rfl
@[go_sem] theorem za190 : (tz Try.prog 190).map zAV = [.nils, .int .i64 0, .int .i64 0, .int .i64 0, .int .i64 0] := by kernel_rfl
@[go_sem] theorem zd190 : zDs (tz Try.prog 190) = some [.sl [], .int .i64 0, .int .i64 0, .int .i64 0, .int .i64 0] := by kernel_rfl
@[go_sem] theorem ti193 : ti Try.prog 193 = .st [(0, 46), (1, 2), (2, 2), (3, 2), (4, 2)] := by kernel_rfl
@[go_sem] theorem sz193 : tsz Try.prog 193 = 5 := by kernel_rfl
@[go_sem] theorem by193 : Try.prog.bytesOf 193 = 56 := by kernel_rfl
@[go_sem] theorem zl193 : (tz Try.prog 193).length = 5 := by kernel_rfl
@[go_sem] theorem za193 : (tz Try.prog 193).map zAV = [.nils, .int .i64 0, .int .i64 0, .int .i64 0, .int .i64 0] := by kernel_rfl
@[go_sem] theorem zd193 : zDs (tz Try.prog 193) = some [.sl [], .int .i64 0, .int .i64 0, .int .i64 0, .int .i64 0] := by kernel_rfl
@[go_sem] theorem ti195 : ti Try.prog 195 = .st [(0, 2), (1, 2)] := by kernel_rfl
@[go_sem] theorem ks195 : structKs Try.prog 195 = some [.int .i64, .int .i64] := by kernel_rfl
@[go_sem] theorem sz195 : tsz Try.prog 195 = 2 := by kernel_rfl
@[go_sem] theorem by195 : Try.prog.bytesOf 195 = 16 := by kernel_rfl
@[go_sem] theorem zl195 : (tz Try.prog 195).length = 2 := by kernel_rfl
@[go_sem] theorem za195 : (tz Try.prog 195).map zAV = [.int .i64 0, .int .i64 0] := by kernel_rfl
@[go_sem] theorem zd195 : zDs (tz Try.prog 195) = some [.int .i64 0, .int .i64 0] := by kernel_rfl
@[go_sem] theorem ti199 : ti Try.prog 199 = .st [(0, 2), (1, 2)] := by kernel_rfl
@[go_sem] theorem ks199 : structKs Try.prog 199 = some [.int .i64, .int .i64] := by kernel_rfl
@[go_sem] theorem sz199 : tsz Try.prog 199 = 2 := by kernel_rfl
@[go_sem] theorem by199 : Try.prog.bytesOf 199 = 16 := by kernel_rfl
@[go_sem] theorem zl199 : (tz Try.prog 199).length = 2 := by kernel_rfl
@[go_sem] theorem za199 : (tz Try.prog 199).map zAV = [.int .i64 0, .int .i64 0] := by kernel_rfl
@[go_sem] theorem zd199 : zDs (tz Try.prog 199) = some [.int .i64 0, .int .i64 0] := by kernel_rfl
@[go_sem] theorem ti210 : ti Try.prog 210 = .int .u32 := by kernel_rfl
@[go_sem] theorem sz210 : tsz Try.prog 210 = 1 := by kernel_rfl
@[go_sem] theorem by210 : Try.prog.bytesOf 210 = 4 := by kernel_rfl
@[go_sem] theorem zl210 : (tz Try.prog 210).length = 1 := by kernel_rfl
@[go_sem] theorem za210 : (tz Try.prog 210).map zAV = [.int .u32 0] := by kernel_rfl
@[go_sem] theorem zd210 : zDs (tz Try.prog 210) = some [.int .u32 0] := by kernel_rfl
@[go_sem] theorem ti231 : ti Try.prog 231 = .st [(0, 2), (1, 2)] := by kernel_rfl
@[go_sem] theorem ks231 : structKs Try.prog 231 = some [.int .i64, .int .i64] := by kernel_rfl
@[go_sem] theorem sz231 : tsz Try.prog 231 = 2 := by kernel_rfl
@[go_sem] theorem by231 : Try.prog.bytesOf 231 = 16 := by kernel_rfl
@[go_sem] theorem zl231 : (tz Try.prog 231).length = 2 := by kernel_rfl
@[go_sem] theorem za231 : (tz Try.prog 231).map zAV = [.int .i64 0, .int .i64 0] := by kernel_rfl
@[go_sem] theorem zd231 : zDs (tz Try.prog 231) = some [.int .i64 0, .int .i64 0] := by kernel_rfl
@[go_sem] theorem ti240 : ti Try.prog 240 = .arr 13 2 := by kernel_rfl
@[go_sem] theorem sz240 : tsz Try.prog 240 = 13 := by kernel_rfl
@[go_sem] theorem by240 : Try.prog.bytesOf 240 = 104 := by kernel_rfl
@[go_sem] theorem zl240 : (tz Try.prog 240).length = 13 := by kernel_rfl
@[go_sem] theorem za240 : (tz Try.prog 240).map zAV = [.int .i64 0, .int .i64 0, .int .i64 0, .int .i64 0, .int .i64 0, .int .i64 0, .int .i64 0, .int .i64 0, .int .i64 0, .int .i64 0, .int .i64 0, .int .i64 0, .int .i64 0] := by kernel_rfl
@[go_sem] theorem zd240 : zDs (tz Try.prog 240) = some [.int .i64 0, .int .i64 0, .int .i64 0, .int .i64 0, .int .i64 0, .int .i64 0, .int .i64 0, .int .i64 0, .int .i64 0, .int .i64 0, .int .i64 0, .int .i64 0, .int .i64 0] := by kernel_rfl
theorem mixed : Try.prog.follows .mixedOrders = true := Try.checked.mixed
attribute [go_sem] Nat.reduceAdd Nat.reduceMul reduceIte Nat.reduceEqDiff Nat.reduceLeDiff Nat.reduceLT
end Go.Proofs.Ytocpkbclcnjejaa.Ab
