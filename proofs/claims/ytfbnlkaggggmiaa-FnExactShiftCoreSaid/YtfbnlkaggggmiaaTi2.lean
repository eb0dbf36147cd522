/-
  What the walk asks of each type. Printed by wip/ab/gen_ti.py.
-/
import Derived.Test.YtfbnlkaggggmiaaRows
import Derived.Test.YtfbnlkaggggmiaaAbC
namespace Go.Proofs.Ytfbnlkaggggmiaa.Ab
open Go.RowKit

@[go_sem] theorem ti2 : ti Try.prog 2 = .int .i64 := by kernel_rfl
@[go_sem] theorem sz2 : tsz Try.prog 2 = 1 := by kernel_rfl
@[go_sem] theorem by2 : Try.prog.bytesOf 2 = 8 := by kernel_rfl
@[go_sem] theorem zl2 : (tz Try.prog 2).length = 1 := by kernel_rfl
@[go_sem] theorem za2 : (tz Try.prog 2).map zAV = [.int .i64 0] := by kernel_rfl
@[go_sem] theorem zd2 : zDs (tz Try.prog 2) = some [.int .i64 0] := by kernel_rfl
@[go_sem] theorem ti3 : ti Try.prog 3 = .int .i64 := by kernel_rfl
@[go_sem] theorem sz3 : tsz Try.prog 3 = 1 := by kernel_rfl
@[go_sem] theorem by3 : Try.prog.bytesOf 3 = 8 := by kernel_rfl
@[go_sem] theorem zl3 : (tz Try.prog 3).length = 1 := by kernel_rfl
@[go_sem] theorem za3 : (tz Try.prog 3).map zAV = [.int .i64 0] := by kernel_rfl
@[go_sem] theorem zd3 : zDs (tz Try.prog 3) = some [.int .i64 0] := by kernel_rfl
@[go_sem] theorem ti4 : ti Try.prog 4 = .bool := by kernel_rfl
@[go_sem] theorem sz4 : tsz Try.prog 4 = 1 := by kernel_rfl
@[go_sem] theorem by4 : Try.prog.bytesOf 4 = 1 := by kernel_rfl
@[go_sem] theorem zl4 : (tz Try.prog 4).length = 1 := by kernel_rfl
@[go_sem] theorem za4 : (tz Try.prog 4).map zAV = [.bool false] := by kernel_rfl
@[go_sem] theorem zd4 : zDs (tz Try.prog 4) = some [.bool false] := by kernel_rfl
@[go_sem] theorem ti5 : ti Try.prog 5 = .int .u8 := by kernel_rfl
@[go_sem] theorem sz5 : tsz Try.prog 5 = 1 := by kernel_rfl
@[go_sem] theorem by5 : Try.prog.bytesOf 5 = 1 := by kernel_rfl
@[go_sem] theorem zl5 : (tz Try.prog 5).length = 1 := by kernel_rfl
@[go_sem] theorem za5 : (tz Try.prog 5).map zAV = [.int .u8 0] := by kernel_rfl
@[go_sem] theorem zd5 : zDs (tz Try.prog 5) = some [.int .u8 0] := by kernel_rfl
@[go_sem] theorem ti9 : ti Try.prog 9 = .str := by kernel_rfl
@[go_sem] theorem sz9 : tsz Try.prog 9 = 1 := by kernel_rfl
@[go_sem] theorem by9 : Try.prog.bytesOf 9 = 16 := by kernel_rfl
@[go_sem] theorem zl9 : (tz Try.prog 9).length = 1 := by kernel_rfl
@[go_sem] theorem za9 : (tz Try.prog 9).map zAV = [.str ByteArray.empty] := by kernel_rfl
@[go_sem] theorem zd9 : zDs (tz Try.prog 9) = some [.str ByteArray.empty] := by kernel_rfl
@[go_sem] theorem ti22 : ti Try.prog 22 = .sl 156 := by kernel_rfl
@[go_sem] theorem sz22 : tsz Try.prog 22 = 1 := by kernel_rfl
@[go_sem] theorem by22 : Try.prog.bytesOf 22 = 24 := by kernel_rfl
@[go_sem] theorem zl22 : (tz Try.prog 22).length = 1 := by kernel_rfl
@[go_sem] theorem za22 : (tz Try.prog 22).map zAV = [.nils] := by kernel_rfl
@[go_sem] theorem zd22 : zDs (tz Try.prog 22) = some [.sl []] := by kernel_rfl
@[go_sem] theorem ti24 : ti Try.prog 24 = .st [(0, 2), (1, 2), (2, 2), (3, 22)] := by kernel_rfl
@[go_sem] theorem sz24 : tsz Try.prog 24 = 4 := by kernel_rfl
@[go_sem] theorem by24 : Try.prog.bytesOf 24 = 48 := by kernel_rfl
@[go_sem] theorem zl24 : (tz Try.prog 24).length = 4 := by kernel_rfl
@[go_sem] theorem za24 : (tz Try.prog 24).map zAV = [.int .i64 0, .int .i64 0, .int .i64 0, .nils] := by kernel_rfl
@[go_sem] theorem zd24 : zDs (tz Try.prog 24) = some [.int .i64 0, .int .i64 0, .int .i64 0, .sl []] := by kernel_rfl
@[go_sem] theorem ti30 : ti Try.prog 30 = .sl 44 := by kernel_rfl
@[go_sem] theorem sz30 : tsz Try.prog 30 = 1 := by kernel_rfl
@[go_sem] theorem by30 : Try.prog.bytesOf 30 = 24 := by kernel_rfl
@[go_sem] theorem zl30 : (tz Try.prog 30).length = 1 := by kernel_rfl
@[go_sem] theorem za30 : (tz Try.prog 30).map zAV = [.nils] := by kernel_rfl
@[go_sem] theorem zd30 : zDs (tz Try.prog 30) = some [.sl []] := by kernel_rfl
@[go_sem] theorem ti32 : ti Try.prog 32 = .st [(0, 30)] := by kernel_rfl
@[go_sem] theorem sz32 : tsz Try.prog 32 = 1 := by kernel_rfl
@[go_sem] theorem by32 : Try.prog.bytesOf 32 = 24 := by kernel_rfl
@[go_sem] theorem zl32 : (tz Try.prog 32).length = 1 := by kernel_rfl
@[go_sem] theorem za32 : (tz Try.prog 32).map zAV = [.nils] := by kernel_rfl
@[go_sem] theorem zd32 : zDs (tz Try.prog 32) = some [.sl []] := by kernel_rfl
@[go_sem] theorem ti36 : ti Try.prog 36 = .sl 51 := by kernel_rfl
@[go_sem] theorem sz36 : tsz Try.prog 36 = 1 := by kernel_rfl
@[go_sem] theorem by36 : Try.prog.bytesOf 36 = 24 := by kernel_rfl
@[go_sem] theorem zl36 : (tz Try.prog 36).length = 1 := by kernel_rfl
@[go_sem] theorem za36 : (tz Try.prog 36).map zAV = [.nils] := by kernel_rfl
@[go_sem] theorem zd36 : zDs (tz Try.prog 36) = some [.sl []] := by kernel_rfl
@[go_sem] theorem ti38 : ti Try.prog 38 = .st [(0, 36)] := by kernel_rfl
@[go_sem] theorem sz38 : tsz Try.prog 38 = 1 := by kernel_rfl
@[go_sem] theorem by38 : Try.prog.bytesOf 38 = 24 := by kernel_rfl
@[go_sem] theorem zl38 : (tz Try.prog 38).length = 1 := by kernel_rfl
@[go_sem] theorem za38 : (tz Try.prog 38).map zAV = [.nils] := by kernel_rfl
@[go_sem] theorem zd38 : zDs (tz Try.prog 38) = some [.sl []] := by kernel_rfl
@[go_sem] theorem ti42 : ti Try.prog 42 = .sl 2 := by kernel_rfl
@[go_sem] theorem sz42 : tsz Try.prog 42 = 1 := by kernel_rfl
@[go_sem] theorem by42 : Try.prog.bytesOf 42 = 24 := by kernel_rfl
@[go_sem] theorem zl42 : (tz Try.prog 42).length = 1 := by kernel_rfl
@[go_sem] theorem za42 : (tz Try.prog 42).map zAV = [.nils] := by kernel_rfl
@[go_sem] theorem zd42 : zDs (tz Try.prog 42) = some [.sl []] := by kernel_rfl
@[go_sem] theorem ti44 : ti Try.prog 44 = .st [(0, 2), (1, 2), (2, 42), (3, 30)] := by kernel_rfl
@[go_sem] theorem sz44 : tsz Try.prog 44 = 4 := by kernel_rfl
@[go_sem] theorem by44 : Try.prog.bytesOf 44 = 64 := by kernel_rfl
@[go_sem] theorem zl44 : (tz Try.prog 44).length = 4 := by kernel_rfl
@[go_sem] theorem za44 : (tz Try.prog 44).map zAV = [.int .i64 0, .int .i64 0, .nils, .nils] := by kernel_rfl
@[go_sem] theorem zd44 : zDs (tz Try.prog 44) = some [.int .i64 0, .int .i64 0, .sl [], .sl []] := by kernel_rfl
@[go_sem] theorem ti45 : ti Try.prog 45 = .sl 9 := by kernel_rfl
@[go_sem] theorem sz45 : tsz Try.prog 45 = 1 := by kernel_rfl
@[go_sem] theorem by45 : Try.prog.bytesOf 45 = 24 := by kernel_rfl
@[go_sem] theorem zl45 : (tz Try.prog 45).length = 1 := by kernel_rfl
@[go_sem] theorem za45 : (tz Try.prog 45).map zAV = [.nils] := by kernel_rfl
@[go_sem] theorem zd45 : zDs (tz Try.prog 45) = some [.sl []] := by kernel_rfl
@[go_sem] theorem ti47 : ti Try.prog 47 = .st [(0, 44), (4, 45)] := by kernel_rfl
@[go_sem] theorem sz47 : tsz Try.prog 47 = 5 := by kernel_rfl
@[go_sem] theorem by47 : Try.prog.bytesOf 47 = 88 := by kernel_rfl
@[go_sem] theorem zl47 : (tz Try.prog 47).length = 5 := by kernel_rfl
@[go_sem] theorem za47 : (tz Try.prog 47).map zAV = [.int .i64 0, .int .i64 0, .nils, .nils, .nils] := by kernel_rfl
@[go_sem] theorem zd47 : zDs (tz Try.prog 47) = some [.int .i64 0, .int .i64 0, .sl [], .sl [], .sl []] := by kernel_rfl
@[go_sem] theorem ti51 : ti Try.prog 51 = .st [(0, 2), (1, 2), (2, 42), (3, 36)] := by kernel_rfl
@[go_sem] theorem sz51 : tsz Try.prog 51 = 4 := by kernel_rfl
@[go_sem] theorem by51 : Try.prog.bytesOf 51 = 64 := by kernel_rfl
@[go_sem] theorem zl51 : (tz Try.prog 51).length = 4 := by kernel_rfl
@[go_sem] theorem za51 : (tz Try.prog 51).map zAV = [.int .i64 0, .int .i64 0, .nils, .nils] := by kernel_rfl
@[go_sem] theorem zd51 : zDs (tz Try.prog 51) = some [.int .i64 0, .int .i64 0, .sl [], .sl []] := by kernel_rfl
@[go_sem] theorem ti53 : ti Try.prog 53 = .st [(0, 51), (4, 45)] := by kernel_rfl
@[go_sem] theorem sz53 : tsz Try.prog 53 = 5 := by kernel_rfl
@[go_sem] theorem by53 : Try.prog.bytesOf 53 = 88 := by kernel_rfl
@[go_sem] theorem zl53 : (tz Try.prog 53).length = 5 := by kernel_rfl
@[go_sem] theorem za53 : (tz Try.prog 53).map zAV = [.int .i64 0, .int .i64 0, .nils, .nils, .nils] := by kernel_rfl
@[go_sem] theorem zd53 : zDs (tz Try.prog 53) = some [.int .i64 0, .int .i64 0, .sl [], .sl [], .sl []] := by kernel_rfl
@[go_sem] theorem ti57 : ti Try.prog 57 = .sl 197 := by kernel_rfl
@[go_sem] theorem sz57 : tsz Try.prog 57 = 1 := by kernel_rfl
@[go_sem] theorem by57 : Try.prog.bytesOf 57 = 24 := by kernel_rfl
@[go_sem] theorem zl57 : (tz Try.prog 57).length = 1 := by kernel_rfl
@[go_sem] theorem za57 : (tz Try.prog 57).map zAV = [.nils] := by kernel_rfl
@[go_sem] theorem zd57 : zDs (tz Try.prog 57) = some [.sl []] := by kernel_rfl
@[go_sem] theorem ti58 : ti Try.prog 58 = .sl 206 := by kernel_rfl
@[go_sem] theorem sz58 : tsz Try.prog 58 = 1 := by kernel_rfl
@[go_sem] theorem by58 : Try.prog.bytesOf 58 = 24 := by kernel_rfl
@[go_sem] theorem zl58 : (tz Try.prog 58).length = 1 := by kernel_rfl
@[go_sem] theorem za58 : (tz Try.prog 58).map zAV = [.nils] := by kernel_rfl
@[go_sem] theorem zd58 : zDs (tz Try.prog 58) = some [.sl []] := by kernel_rfl
@[go_sem] theorem ti60 : ti Try.prog 60 = .st [(0, 2), (1, 2), (2, 42), (3, 57), (4, 58), (5, 42)] := by kernel_rfl
@[go_sem] theorem sz60 : tsz Try.prog 60 = 6 := by kernel_rfl
@[go_sem] theorem by60 : Try.prog.bytesOf 60 = 112 := by kernel_rfl
@[go_sem] theorem zl60 : (tz Try.prog 60).length = 6 := by kernel_rfl
@[go_sem] theorem za60 : (tz Try.prog 60).map zAV = [.int .i64 0, .int .i64 0, .nils, .nils, .nils, .nils] := by kernel_rfl
@[go_sem] theorem zd60 : zDs (tz Try.prog 60) = some [.int .i64 0, .int .i64 0, .sl [], .sl [], .sl [], .sl []] := by kernel_rfl
@[go_sem] theorem ti64 : ti Try.prog 64 = .sl 200 := by kernel_rfl
@[go_sem] theorem sz64 : tsz Try.prog 64 = 1 := by kernel_rfl
@[go_sem] theorem by64 : Try.prog.bytesOf 64 = 24 := by kernel_rfl
@[go_sem] theorem zl64 : (tz Try.prog 64).length = 1 := by kernel_rfl
@[go_sem] theorem za64 : (tz Try.prog 64).map zAV = [.nils] := by kernel_rfl
@[go_sem] theorem zd64 : zDs (tz Try.prog 64) = some [.sl []] := by kernel_rfl
@[go_sem] theorem ti65 : ti Try.prog 65 = .sl 202 := by kernel_rfl
@[go_sem] theorem sz65 : tsz Try.prog 65 = 1 := by kernel_rfl
@[go_sem] theorem by65 : Try.prog.bytesOf 65 = 24 := by kernel_rfl
@[go_sem] theorem zl65 : (tz Try.prog 65).length = 1 := by kernel_rfl
@[go_sem] theorem za65 : (tz Try.prog 65).map zAV = [.nils] := by kernel_rfl
@[go_sem] theorem zd65 : zDs (tz Try.prog 65) = some [.sl []] := by kernel_rfl
@[go_sem] theorem ti67 : ti Try.prog 67 = .st [(0, 2), (1, 2), (2, 42), (3, 64), (4, 65), (5, 42)] := by kernel_rfl
@[go_sem] theorem sz67 : tsz Try.prog 67 = 6 := by kernel_rfl
@[go_sem] theorem by67 : Try.prog.bytesOf 67 = 112 := by kernel_rfl
@[go_sem] theorem zl67 : (tz Try.prog 67).length = 6 := by kernel_rfl
@[go_sem] theorem za67 : (tz Try.prog 67).map zAV = [.int .i64 0, .int .i64 0, .nils, .nils, .nils, .nils] := by kernel_rfl
@[go_sem] theorem zd67 : zDs (tz Try.prog 67) = some [.int .i64 0, .int .i64 0, .sl [], .sl [], .sl [], .sl []] := by kernel_rfl
@[go_sem] theorem ti81 : ti Try.prog 81 = .sl 228 := by kernel_rfl
@[go_sem] theorem sz81 : tsz Try.prog 81 = 1 := by kernel_rfl
@[go_sem] theorem by81 : Try.prog.bytesOf 81 = 24 := by kernel_rfl
@[go_sem] theorem zl81 : (tz Try.prog 81).length = 1 := by kernel_rfl
@[go_sem] theorem za81 : (tz Try.prog 81).map zAV = [.nils] := by kernel_rfl
@[go_sem] theorem zd81 : zDs (tz Try.prog 81) = some [.sl []] := by kernel_rfl
@[go_sem] theorem ti83 : ti Try.prog 83 = .st [(0, 2), (1, 2), (2, 2), (3, 81)] := by kernel_rfl
@[go_sem] theorem sz83 : tsz Try.prog 83 = 4 := by kernel_rfl
@[go_sem] theorem by83 : Try.prog.bytesOf 83 = 48 := by kernel_rfl
@[go_sem] theorem zl83 : (tz Try.prog 83).length = 4 := by kernel_rfl
@[go_sem] theorem za83 : (tz Try.prog 83).map zAV = [.int .i64 0, .int .i64 0, .int .i64 0, .nils] := by kernel_rfl
@[go_sem] theorem zd83 : zDs (tz Try.prog 83) = some [.int .i64 0, .int .i64 0, .int .i64 0, .sl []] := by kernel_rfl
@[go_sem] theorem ti89 : ti Try.prog 89 = .sl 277 := by kernel_rfl
@[go_sem] theorem sz89 : tsz Try.prog 89 = 1 := by kernel_rfl
@[go_sem] theorem by89 : Try.prog.bytesOf 89 = 24 := by kernel_rfl
@[go_sem] theorem zl89 : (tz Try.prog 89).length = 1 := by kernel_rfl
@[go_sem] theorem za89 : (tz Try.prog 89).map zAV = [.nils] := by kernel_rfl
@[go_sem] theorem zd89 : zDs (tz Try.prog 89) = some [.sl []] := by kernel_rfl
@[go_sem] theorem ti90 : ti Try.prog 90 = .sl 286 := by kernel_rfl
@[go_sem] theorem sz90 : tsz Try.prog 90 = 1 := by kernel_rfl
@[go_sem] theorem by90 : Try.prog.bytesOf 90 = 24 := by kernel_rfl
@[go_sem] theorem zl90 : (tz Try.prog 90).length = 1 := by kernel_rfl
@[go_sem] theorem za90 : (tz Try.prog 90).map zAV = [.nils] := by kernel_rfl
@[go_sem] theorem zd90 : zDs (tz Try.prog 90) = some [.sl []] := by kernel_rfl
@[go_sem] theorem ti92 : ti Try.prog 92 = .st [(0, 89), (1, 90)] := by kernel_rfl
@[go_sem] theorem sz92 : tsz Try.prog 92 = 2 := by kernel_rfl
@[go_sem] theorem by92 : Try.prog.bytesOf 92 = 48 := by kernel_rfl
@[go_sem] theorem zl92 : (tz Try.prog 92).length = 2 := by kernel_rfl
@[go_sem] theorem za92 : (tz Try.prog 92).map zAV = [.nils, .nils] := by kernel_rfl
@[go_sem] theorem zd92 : zDs (tz Try.prog 92) = some [.sl [], .sl []] := by kernel_rfl
@[go_sem] theorem ti94 : ti Try.prog 94 = .st [(0, 4), (1, 92), (3, 42), (4, 2)] := by kernel_rfl
@[go_sem] theorem sz94 : tsz Try.prog 94 = 5 := by kernel_rfl
@[go_sem] theorem by94 : Try.prog.bytesOf 94 = 88 := by kernel_rfl
@[go_sem] theorem zl94 : (tz Try.prog 94).length = 5 := by kernel_rfl
@[go_sem] theorem za94 : (tz Try.prog 94).map zAV = [.bool false, .nils, .nils, .nils, .int .i64 0] := by kernel_rfl
@[go_sem] theorem zd94 : zDs (tz Try.prog 94) = some [.bool false, .sl [], .sl [], .sl [], .int .i64 0] := by kernel_rfl
@[go_sem] theorem ti99 : ti Try.prog 99 = .sl 5 := by kernel_rfl
@[go_sem] theorem sz99 : tsz Try.prog 99 = 1 := by kernel_rfl
@[go_sem] theorem by99 : Try.prog.bytesOf 99 = 24 := by kernel_rfl
@[go_sem] theorem zl99 : (tz Try.prog 99).length = 1 := by kernel_rfl
@[go_sem] theorem za99 : (tz Try.prog 99).map zAV = [.nils] := by kernel_rfl
@[go_sem] theorem zd99 : zDs (tz Try.prog 99) = some [.sl []] := by kernel_rfl
@[go_sem] theorem ti125 : ti Try.prog 125 = .fn := by kernel_rfl
@[go_sem] theorem sz125 : tsz Try.prog 125 = 1 := by kernel_rfl
@[go_sem] theorem by125 : Try.prog.bytesOf 125 = 8 := by kernel_rfl
@[go_sem] theorem zl125 : (tz Try.prog 125).length = 1 := by kernel_rfl
@[go_sem] theorem ti151 : ti Try.prog 151 = .sl 154 := by kernel_rfl
@[go_sem] theorem sz151 : tsz Try.prog 151 = 1 := by kernel_rfl
@[go_sem] theorem by151 : Try.prog.bytesOf 151 = 24 := by kernel_rfl
@[go_sem] theorem zl151 : (tz Try.prog 151).length = 1 := by kernel_rfl
@[go_sem] theorem za151 : (tz Try.prog 151).map zAV = [.nils] := by kernel_rfl
@[go_sem] theorem zd151 : zDs (tz Try.prog 151) = some [.sl []] := by kernel_rfl
@[go_sem] theorem ti152 : ti Try.prog 152 = .sl 257 := by kernel_rfl
@[go_sem] theorem sz152 : tsz Try.prog 152 = 1 := by kernel_rfl
@[go_sem] theorem by152 : Try.prog.bytesOf 152 = 24 := by kernel_rfl
@[go_sem] theorem zl152 : (tz Try.prog 152).length = 1 := by kernel_rfl
@[go_sem] theorem za152 : (tz Try.prog 152).map zAV = [.nils] := by kernel_rfl
@[go_sem] theorem zd152 : zDs (tz Try.prog 152) = some [.sl []] := by kernel_rfl
@[go_sem] theorem ti154 : ti Try.prog 154 = .st [(0, 152)] := by kernel_rfl
@[go_sem] theorem sz154 : tsz Try.prog 154 = 1 := by kernel_rfl
@[go_sem] theorem by154 : Try.prog.bytesOf 154 = 24 := by kernel_rfl
@[go_sem] theorem zl154 : (tz Try.prog 154).length = 1 := by kernel_rfl
@[go_sem] theorem za154 : (tz Try.prog 154).map zAV = [.nils] := by kernel_rfl
@[go_sem] theorem zd154 : zDs (tz Try.prog 154) = some [.sl []] := by kernel_rfl
@[go_sem] theorem ti156 : ti Try.prog 156 = .st [(0, 2), (1, 2), (2, 2), (3, 2), (4, 2), (5, 2), (6, 42), (7, 42), (8, 151), (9, 154)] := by kernel_rfl
@[go_sem] theorem sz156 : tsz Try.prog 156 = 10 := by kernel_rfl
@[go_sem] theorem by156 : Try.prog.bytesOf 156 = 144 := by kernel_rfl
@[go_sem] theorem zl156 : (tz Try.prog 156).length = 10 := by kernel_rfl
@[go_sem] theorem za156 : (tz Try.prog 156).map zAV = [.int .i64 0, .int .i64 0, .int .i64 0, .int .i64 0, .int .i64 0, .int .i64 0, .nils, .nils, .nils, .nils] := by kernel_rfl
@[go_sem] theorem zd156 : zDs (tz Try.prog 156) = some [.int .i64 0, .int .i64 0, .int .i64 0, .int .i64 0, .int .i64 0, .int .i64 0, .sl [], .sl [], .sl [], .sl []] := by kernel_rfl
@[go_sem] theorem ti177 : ti Try.prog 177 = .ptr 252 := by kernel_rfl
@[go_sem] theorem sz177 : tsz Try.prog 177 = 1 := by kernel_rfl
@[go_sem] theorem by177 : Try.prog.bytesOf 177 = 8 := by kernel_rfl
@[go_sem] theorem zl177 : (tz Try.prog 177).length = 1 := by kernel_rfl
@[go_sem] theorem za177 : (tz Try.prog 177).map zAV = [.nilp] := by kernel_rfl
@[go_sem] theorem ti179 : ti Try.prog 179 = .sl 177 := by kernel_rfl
@[go_sem] theorem sz179 : tsz Try.prog 179 = 1 := by kernel_rfl
@[go_sem] theorem by179 : Try.prog.bytesOf 179 = 24 := by kernel_rfl
@[go_sem] theorem zl179 : (tz Try.prog 179).length = 1 := by kernel_rfl
@[go_sem] theorem za179 : (tz Try.prog 179).map zAV = [.nils] := by kernel_rfl
@[go_sem] theorem zd179 : zDs (tz Try.prog 179) = some [.sl []] := by kernel_rfl
@[go_sem] theorem ti197 : ti Try.prog 197 = .st [(0, 42), (1, 2), (2, 2), (3, 2), (4, 2)] := by kernel_rfl
@[go_sem] theorem sz197 : tsz Try.prog 197 = 5 := by kernel_rfl
@[go_sem] theorem by197 : Try.prog.bytesOf 197 = 56 := by kernel_rfl
@[go_sem] theorem zl197 : (tz Try.prog 197).length = 5 := by kernel_rfl
@[go_sem] theorem za197 : (tz Try.prog 197).map zAV = [.nils, .int .i64 0, .int .i64 0, .int .i64 0, .int .i64 0] := by kernel_rfl
@[go_sem] theorem zd197 : zDs (tz Try.prog 197) = some [.sl [], .int .i64 0, .int .i64 0, .int .i64 0, .int .i64 0] := by kernel_rfl
@[go_sem] theorem ti200 : ti Try.prog 200 = .st [(0, 42), (1, 2), (2, 2), (3, 2), (4, 2)] := by kernel_rfl
@[go_sem] theorem sz200 : tsz Try.prog 200 = 5 := by kernel_rfl
@[go_sem] theorem by200 : Try.prog.bytesOf 200 = 56 := by kernel_rfl
@[go_sem] theorem zl200 : (tz Try.prog 200).length = 5 := by kernel_rfl
@[go_sem] theorem za200 : (tz Try.prog 200).map zAV = [.nils, .int .i64 0, .int .i64 0, .int .i64 0, .int .i64 0] := by kernel_rfl
@[go_sem] theorem zd200 : zDs (tz Try.prog 200) = some [.sl [], .int .i64 0, .int .i64 0, .int .i64 0, .int .i64 0] := by kernel_rfl
@[go_sem] theorem ti202 : ti Try.prog 202 = .st [(0, 2), (1, 2)] := by kernel_rfl
@[go_sem] theorem ks202 : structKs Try.prog 202 = some [.i64, .i64] := by kernel_rfl
@[go_sem] theorem sz202 : tsz Try.prog 202 = 2 := by kernel_rfl
@[go_sem] theorem by202 : Try.prog.bytesOf 202 = 16 := by kernel_rfl
@[go_sem] theorem zl202 : (tz Try.prog 202).length = 2 := by kernel_rfl
@[go_sem] theorem za202 : (tz Try.prog 202).map zAV = [.int .i64 0, .int .i64 0] := by kernel_rfl
@[go_sem] theorem zd202 : zDs (tz Try.prog 202) = some [.int .i64 0, .int .i64 0] := by kernel_rfl
@[go_sem] theorem ti206 : ti Try.prog 206 = .st [(0, 2), (1, 2)] := by kernel_rfl
@[go_sem] theorem ks206 : structKs Try.prog 206 = some [.i64, .i64] := by kernel_rfl
@[go_sem] theorem sz206 : tsz Try.prog 206 = 2 := by kernel_rfl
@[go_sem] theorem by206 : Try.prog.bytesOf 206 = 16 := by kernel_rfl
@[go_sem] theorem zl206 : (tz Try.prog 206).length = 2 := by kernel_rfl
@[go_sem] theorem za206 : (tz Try.prog 206).map zAV = [.int .i64 0, .int .i64 0] := by kernel_rfl
@[go_sem] theorem zd206 : zDs (tz Try.prog 206) = some [.int .i64 0, .int .i64 0] := by kernel_rfl
@[go_sem] theorem ti223 : ti Try.prog 223 = .sl 226 := by kernel_rfl
@[go_sem] theorem sz223 : tsz Try.prog 223 = 1 := by kernel_rfl
@[go_sem] theorem by223 : Try.prog.bytesOf 223 = 24 := by kernel_rfl
@[go_sem] theorem zl223 : (tz Try.prog 223).length = 1 := by kernel_rfl
@[go_sem] theorem za223 : (tz Try.prog 223).map zAV = [.nils] := by kernel_rfl
@[go_sem] theorem zd223 : zDs (tz Try.prog 223) = some [.sl []] := by kernel_rfl
@[go_sem] theorem ti224 : ti Try.prog 224 = .sl 308 := by kernel_rfl
@[go_sem] theorem sz224 : tsz Try.prog 224 = 1 := by kernel_rfl
@[go_sem] theorem by224 : Try.prog.bytesOf 224 = 24 := by kernel_rfl
@[go_sem] theorem zl224 : (tz Try.prog 224).length = 1 := by kernel_rfl
@[go_sem] theorem za224 : (tz Try.prog 224).map zAV = [.nils] := by kernel_rfl
@[go_sem] theorem zd224 : zDs (tz Try.prog 224) = some [.sl []] := by kernel_rfl
@[go_sem] theorem ti226 : ti Try.prog 226 = .st [(0, 224)] := by kernel_rfl
@[go_sem] theorem sz226 : tsz Try.prog 226 = 1 := by kernel_rfl
@[go_sem] theorem by226 : Try.prog.bytesOf 226 = 24 := by kernel_rfl
@[go_sem] theorem zl226 : (tz Try.prog 226).length = 1 := by kernel_rfl
@[go_sem] theorem za226 : (tz Try.prog 226).map zAV = [.nils] := by kernel_rfl
@[go_sem] theorem zd226 : zDs (tz Try.prog 226) = some [.sl []] := by kernel_rfl
@[go_sem] theorem ti228 : ti Try.prog 228 = .st [(0, 2), (1, 2), (2, 2), (3, 2), (4, 2), (5, 2), (6, 42), (7, 42), (8, 223), (9, 226)] := by kernel_rfl
@[go_sem] theorem sz228 : tsz Try.prog 228 = 10 := by kernel_rfl
@[go_sem] theorem by228 : Try.prog.bytesOf 228 = 144 := by kernel_rfl
@[go_sem] theorem zl228 : (tz Try.prog 228).length = 10 := by kernel_rfl
@[go_sem] theorem za228 : (tz Try.prog 228).map zAV = [.int .i64 0, .int .i64 0, .int .i64 0, .int .i64 0, .int .i64 0, .int .i64 0, .nils, .nils, .nils, .nils] := by kernel_rfl
@[go_sem] theorem zd228 : zDs (tz Try.prog 228) = some [.int .i64 0, .int .i64 0, .int .i64 0, .int .i64 0, .int .i64 0, .int .i64 0, .sl [], .sl [], .sl [], .sl []] := by kernel_rfl
@[go_sem] theorem ti240 : ti Try.prog 240 = .int .u64 := by kernel_rfl
@[go_sem] theorem sz240 : tsz Try.prog 240 = 1 := by kernel_rfl
@[go_sem] theorem by240 : Try.prog.bytesOf 240 = 8 := by kernel_rfl
@[go_sem] theorem zl240 : (tz Try.prog 240).length = 1 := by kernel_rfl
@[go_sem] theorem za240 : (tz Try.prog 240).map zAV = [.int .u64 0] := by kernel_rfl
@[go_sem] theorem zd240 : zDs (tz Try.prog 240) = some [.int .u64 0] := by kernel_rfl
@[go_sem] theorem ti245 : ti Try.prog 245 = .sl 247 := by kernel_rfl
@[go_sem] theorem sz245 : tsz Try.prog 245 = 1 := by kernel_rfl
@[go_sem] theorem by245 : Try.prog.bytesOf 245 = 24 := by kernel_rfl
@[go_sem] theorem zl245 : (tz Try.prog 245).length = 1 := by kernel_rfl
@[go_sem] theorem za245 : (tz Try.prog 245).map zAV = [.nils] := by kernel_rfl
@[go_sem] theorem zd245 : zDs (tz Try.prog 245) = some [.sl []] := by kernel_rfl
@[go_sem] theorem ti247 : ti Try.prog 247 = .st [(0, 2), (1, 2), (2, 42), (3, 9), (4, 245)] := by kernel_rfl
@[go_sem] theorem sz247 : tsz Try.prog 247 = 5 := by kernel_rfl
@[go_sem] theorem by247 : Try.prog.bytesOf 247 = 80 := by kernel_rfl
@[go_sem] theorem zl247 : (tz Try.prog 247).length = 5 := by kernel_rfl
@[go_sem] theorem za247 : (tz Try.prog 247).map zAV = [.int .i64 0, .int .i64 0, .nils, .str ByteArray.empty, .nils] := by kernel_rfl
@[go_sem] theorem zd247 : zDs (tz Try.prog 247) = some [.int .i64 0, .int .i64 0, .sl [], .str ByteArray.empty, .sl []] := by kernel_rfl
@[go_sem] theorem ti252 : ti Try.prog 252 = .st [(0, 51), (4, 9), (5, 2), (6, 179)] := by kernel_rfl
@[go_sem] theorem sz252 : tsz Try.prog 252 = 7 := by kernel_rfl
@[go_sem] theorem by252 : Try.prog.bytesOf 252 = 112 := by kernel_rfl
@[go_sem] theorem zl252 : (tz Try.prog 252).length = 7 := by kernel_rfl
@[go_sem] theorem za252 : (tz Try.prog 252).map zAV = [.int .i64 0, .int .i64 0, .nils, .nils, .str ByteArray.empty, .int .i64 0, .nils] := by kernel_rfl
@[go_sem] theorem zd252 : zDs (tz Try.prog 252) = some [.int .i64 0, .int .i64 0, .sl [], .sl [], .str ByteArray.empty, .int .i64 0, .sl []] := by kernel_rfl
@[go_sem] theorem ti255 : ti Try.prog 255 = .sl 295 := by kernel_rfl
@[go_sem] theorem sz255 : tsz Try.prog 255 = 1 := by kernel_rfl
@[go_sem] theorem by255 : Try.prog.bytesOf 255 = 24 := by kernel_rfl
@[go_sem] theorem zl255 : (tz Try.prog 255).length = 1 := by kernel_rfl
@[go_sem] theorem za255 : (tz Try.prog 255).map zAV = [.nils] := by kernel_rfl
@[go_sem] theorem zd255 : zDs (tz Try.prog 255) = some [.sl []] := by kernel_rfl
@[go_sem] theorem ti257 : ti Try.prog 257 = .st [(0, 2), (1, 2), (2, 2), (3, 42), (4, 255)] := by kernel_rfl
@[go_sem] theorem sz257 : tsz Try.prog 257 = 5 := by kernel_rfl
@[go_sem] theorem by257 : Try.prog.bytesOf 257 = 72 := by kernel_rfl
@[go_sem] theorem zl257 : (tz Try.prog 257).length = 5 := by kernel_rfl
@[go_sem] theorem za257 : (tz Try.prog 257).map zAV = [.int .i64 0, .int .i64 0, .int .i64 0, .nils, .nils] := by kernel_rfl
@[go_sem] theorem zd257 : zDs (tz Try.prog 257) = some [.int .i64 0, .int .i64 0, .int .i64 0, .sl [], .sl []] := by kernel_rfl
@[go_sem] theorem ti275 : ti Try.prog 275 = .sl 304 := by kernel_rfl
@[go_sem] theorem sz275 : tsz Try.prog 275 = 1 := by kernel_rfl
@[go_sem] theorem by275 : Try.prog.bytesOf 275 = 24 := by kernel_rfl
@[go_sem] theorem zl275 : (tz Try.prog 275).length = 1 := by kernel_rfl
@[go_sem] theorem za275 : (tz Try.prog 275).map zAV = [.nils] := by kernel_rfl
@[go_sem] theorem zd275 : zDs (tz Try.prog 275) = some [.sl []] := by kernel_rfl
@[go_sem] theorem ti277 : ti Try.prog 277 = .st [(0, 9), (1, 275)] := by kernel_rfl
@[go_sem] theorem sz277 : tsz Try.prog 277 = 2 := by kernel_rfl
@[go_sem] theorem by277 : Try.prog.bytesOf 277 = 40 := by kernel_rfl
@[go_sem] theorem zl277 : (tz Try.prog 277).length = 2 := by kernel_rfl
@[go_sem] theorem za277 : (tz Try.prog 277).map zAV = [.str ByteArray.empty, .nils] := by kernel_rfl
@[go_sem] theorem zd277 : zDs (tz Try.prog 277) = some [.str ByteArray.empty, .sl []] := by kernel_rfl
@[go_sem] theorem ti279 : ti Try.prog 279 = .sl 281 := by kernel_rfl
@[go_sem] theorem sz279 : tsz Try.prog 279 = 1 := by kernel_rfl
@[go_sem] theorem by279 : Try.prog.bytesOf 279 = 24 := by kernel_rfl
@[go_sem] theorem zl279 : (tz Try.prog 279).length = 1 := by kernel_rfl
@[go_sem] theorem za279 : (tz Try.prog 279).map zAV = [.nils] := by kernel_rfl
@[go_sem] theorem zd279 : zDs (tz Try.prog 279) = some [.sl []] := by kernel_rfl
@[go_sem] theorem ti281 : ti Try.prog 281 = .st [(0, 2), (1, 9), (2, 279)] := by kernel_rfl
@[go_sem] theorem sz281 : tsz Try.prog 281 = 3 := by kernel_rfl
@[go_sem] theorem by281 : Try.prog.bytesOf 281 = 48 := by kernel_rfl
@[go_sem] theorem zl281 : (tz Try.prog 281).length = 3 := by kernel_rfl
@[go_sem] theorem za281 : (tz Try.prog 281).map zAV = [.int .i64 0, .str ByteArray.empty, .nils] := by kernel_rfl
@[go_sem] theorem zd281 : zDs (tz Try.prog 281) = some [.int .i64 0, .str ByteArray.empty, .sl []] := by kernel_rfl
@[go_sem] theorem ti282 : ti Try.prog 282 = .sl 284 := by kernel_rfl
@[go_sem] theorem sz282 : tsz Try.prog 282 = 1 := by kernel_rfl
@[go_sem] theorem by282 : Try.prog.bytesOf 282 = 24 := by kernel_rfl
@[go_sem] theorem zl282 : (tz Try.prog 282).length = 1 := by kernel_rfl
@[go_sem] theorem za282 : (tz Try.prog 282).map zAV = [.nils] := by kernel_rfl
@[go_sem] theorem zd282 : zDs (tz Try.prog 282) = some [.sl []] := by kernel_rfl
@[go_sem] theorem ti284 : ti Try.prog 284 = .st [(0, 2), (1, 2), (2, 9), (3, 281), (6, 45), (7, 282)] := by kernel_rfl
@[go_sem] theorem sz284 : tsz Try.prog 284 = 8 := by kernel_rfl
@[go_sem] theorem by284 : Try.prog.bytesOf 284 = 128 := by kernel_rfl
@[go_sem] theorem zl284 : (tz Try.prog 284).length = 8 := by kernel_rfl
@[go_sem] theorem za284 : (tz Try.prog 284).map zAV = [.int .i64 0, .int .i64 0, .str ByteArray.empty, .int .i64 0, .str ByteArray.empty, .nils, .nils, .nils] := by kernel_rfl
@[go_sem] theorem zd284 : zDs (tz Try.prog 284) = some [.int .i64 0, .int .i64 0, .str ByteArray.empty, .int .i64 0, .str ByteArray.empty, .sl [], .sl [], .sl []] := by kernel_rfl
@[go_sem] theorem ti286 : ti Try.prog 286 = .st [(0, 9), (1, 281), (4, 284)] := by kernel_rfl
@[go_sem] theorem sz286 : tsz Try.prog 286 = 12 := by kernel_rfl
@[go_sem] theorem by286 : Try.prog.bytesOf 286 = 192 := by kernel_rfl
@[go_sem] theorem zl286 : (tz Try.prog 286).length = 12 := by kernel_rfl
@[go_sem] theorem za286 : (tz Try.prog 286).map zAV = [.str ByteArray.empty, .int .i64 0, .str ByteArray.empty, .nils, .int .i64 0, .int .i64 0, .str ByteArray.empty, .int .i64 0, .str ByteArray.empty, .nils, .nils, .nils] := by kernel_rfl
@[go_sem] theorem zd286 : zDs (tz Try.prog 286) = some [.str ByteArray.empty, .int .i64 0, .str ByteArray.empty, .sl [], .int .i64 0, .int .i64 0, .str ByteArray.empty, .int .i64 0, .str ByteArray.empty, .sl [], .sl [], .sl []] := by kernel_rfl
@[go_sem] theorem ti291 : ti Try.prog 291 = .int .u32 := by kernel_rfl
@[go_sem] theorem sz291 : tsz Try.prog 291 = 1 := by kernel_rfl
@[go_sem] theorem by291 : Try.prog.bytesOf 291 = 4 := by kernel_rfl
@[go_sem] theorem zl291 : (tz Try.prog 291).length = 1 := by kernel_rfl
@[go_sem] theorem za291 : (tz Try.prog 291).map zAV = [.int .u32 0] := by kernel_rfl
@[go_sem] theorem zd291 : zDs (tz Try.prog 291) = some [.int .u32 0] := by kernel_rfl
@[go_sem] theorem ti295 : ti Try.prog 295 = .st [(0, 2), (1, 2)] := by kernel_rfl
@[go_sem] theorem ks295 : structKs Try.prog 295 = some [.i64, .i64] := by kernel_rfl
@[go_sem] theorem sz295 : tsz Try.prog 295 = 2 := by kernel_rfl
@[go_sem] theorem by295 : Try.prog.bytesOf 295 = 16 := by kernel_rfl
@[go_sem] theorem zl295 : (tz Try.prog 295).length = 2 := by kernel_rfl
@[go_sem] theorem za295 : (tz Try.prog 295).map zAV = [.int .i64 0, .int .i64 0] := by kernel_rfl
@[go_sem] theorem zd295 : zDs (tz Try.prog 295) = some [.int .i64 0, .int .i64 0] := by kernel_rfl
@[go_sem] theorem ti304 : ti Try.prog 304 = .st [(0, 9), (1, 279)] := by kernel_rfl
@[go_sem] theorem sz304 : tsz Try.prog 304 = 2 := by kernel_rfl
@[go_sem] theorem by304 : Try.prog.bytesOf 304 = 40 := by kernel_rfl
@[go_sem] theorem zl304 : (tz Try.prog 304).length = 2 := by kernel_rfl
@[go_sem] theorem za304 : (tz Try.prog 304).map zAV = [.str ByteArray.empty, .nils] := by kernel_rfl
@[go_sem] theorem zd304 : zDs (tz Try.prog 304) = some [.str ByteArray.empty, .sl []] := by kernel_rfl
@[go_sem] theorem ti306 : ti Try.prog 306 = .sl 317 := by kernel_rfl
@[go_sem] theorem sz306 : tsz Try.prog 306 = 1 := by kernel_rfl
@[go_sem] theorem by306 : Try.prog.bytesOf 306 = 24 := by kernel_rfl
@[go_sem] theorem zl306 : (tz Try.prog 306).length = 1 := by kernel_rfl
@[go_sem] theorem za306 : (tz Try.prog 306).map zAV = [.nils] := by kernel_rfl
@[go_sem] theorem zd306 : zDs (tz Try.prog 306) = some [.sl []] := by kernel_rfl
@[go_sem] theorem ti308 : ti Try.prog 308 = .st [(0, 2), (1, 2), (2, 2), (3, 42), (4, 306)] := by kernel_rfl
@[go_sem] theorem sz308 : tsz Try.prog 308 = 5 := by kernel_rfl
@[go_sem] theorem by308 : Try.prog.bytesOf 308 = 72 := by kernel_rfl
@[go_sem] theorem zl308 : (tz Try.prog 308).length = 5 := by kernel_rfl
@[go_sem] theorem za308 : (tz Try.prog 308).map zAV = [.int .i64 0, .int .i64 0, .int .i64 0, .nils, .nils] := by kernel_rfl
@[go_sem] theorem zd308 : zDs (tz Try.prog 308) = some [.int .i64 0, .int .i64 0, .int .i64 0, .sl [], .sl []] := by kernel_rfl
@[go_sem] theorem ti317 : ti Try.prog 317 = .st [(0, 2), (1, 2)] := by kernel_rfl
@[go_sem] theorem ks317 : structKs Try.prog 317 = some [.i64, .i64] := by kernel_rfl
@[go_sem] theorem sz317 : tsz Try.prog 317 = 2 := by kernel_rfl
@[go_sem] theorem by317 : Try.prog.bytesOf 317 = 16 := by kernel_rfl
@[go_sem] theorem zl317 : (tz Try.prog 317).length = 2 := by kernel_rfl
@[go_sem] theorem za317 : (tz Try.prog 317).map zAV = [.int .i64 0, .int .i64 0] := by kernel_rfl
@[go_sem] theorem zd317 : zDs (tz Try.prog 317) = some [.int .i64 0, .int .i64 0] := by kernel_rfl
theorem mixed : Try.prog.follows .mixedOrders = true := Try.checked.mixed
end Go.Proofs.Ytfbnlkaggggmiaa.Ab
