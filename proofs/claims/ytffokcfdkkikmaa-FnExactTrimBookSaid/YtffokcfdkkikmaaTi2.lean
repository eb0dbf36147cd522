/-
  What the walk asks of each type. Printed by wip/ab/gen_ti.py.
-/
import Derived.Test.YtffokcfdkkikmaaRows
import Derived.Test.YtffokcfdkkikmaaAbC
namespace Go.Proofs.Ytffokcfdkkikmaa.Ab
open Go.RowKit

@[go_sem] theorem ti2 : ti Try.prog 2 = .int .i64 := by kernel_rfl
@[go_sem] theorem sz2 : tsz Try.prog 2 = 1 := by kernel_rfl
@[go_sem] theorem by2 : Try.prog.bytesOf 2 = 8 := by kernel_rfl
@[go_sem] theorem zl2 : (tz Try.prog 2).length = 1 := by kernel_rfl
@[go_sem] theorem za2 : (tz Try.prog 2).map zAV = [.int .i64 0] := by kernel_rfl
@[go_sem] theorem zd2 : zDs (tz Try.prog 2) = some [.int .i64 0] := by kernel_rfl
@[go_sem] theorem ti3 : ti Try.prog 3 = .int .i64 := by kernel_rfl
@[go_sem] theorem sz3 : tsz Try.prog 3 = 1 := by kernel_rfl
@[go_sem] theorem by3 : Try.prog.bytesOf 3 = 8 := by kernel_rfl
@[go_sem] theorem zl3 : (tz Try.prog 3).length = 1 := by kernel_rfl
@[go_sem] theorem za3 : (tz Try.prog 3).map zAV = [.int .i64 0] := by kernel_rfl
@[go_sem] theorem zd3 : zDs (tz Try.prog 3) = some [.int .i64 0] := by kernel_rfl
@[go_sem] theorem ti4 : ti Try.prog 4 = .bool := by kernel_rfl
@[go_sem] theorem sz4 : tsz Try.prog 4 = 1 := by kernel_rfl
@[go_sem] theorem by4 : Try.prog.bytesOf 4 = 1 := by kernel_rfl
@[go_sem] theorem zl4 : (tz Try.prog 4).length = 1 := by kernel_rfl
@[go_sem] theorem za4 : (tz Try.prog 4).map zAV = [.bool false] := by kernel_rfl
@[go_sem] theorem zd4 : zDs (tz Try.prog 4) = some [.bool false] := by kernel_rfl
@[go_sem] theorem ti5 : ti Try.prog 5 = .int .u8 := by kernel_rfl
@[go_sem] theorem sz5 : tsz Try.prog 5 = 1 := by kernel_rfl
@[go_sem] theorem by5 : Try.prog.bytesOf 5 = 1 := by kernel_rfl
@[go_sem] theorem zl5 : (tz Try.prog 5).length = 1 := by kernel_rfl
@[go_sem] theorem za5 : (tz Try.prog 5).map zAV = [.int .u8 0] := by kernel_rfl
@[go_sem] theorem zd5 : zDs (tz Try.prog 5) = some [.int .u8 0] := by kernel_rfl
@[go_sem] theorem ti9 : ti Try.prog 9 = .str := by kernel_rfl
@[go_sem] theorem sz9 : tsz Try.prog 9 = 1 := by kernel_rfl
@[go_sem] theorem by9 : Try.prog.bytesOf 9 = 16 := by kernel_rfl
@[go_sem] theorem zl9 : (tz Try.prog 9).length = 1 := by kernel_rfl
@[go_sem] theorem za9 : (tz Try.prog 9).map zAV = [.str ByteArray.empty] := by kernel_rfl
@[go_sem] theorem zd9 : zDs (tz Try.prog 9) = some [.str ByteArray.empty] := by kernel_rfl
@[go_sem] theorem ti22 : ti Try.prog 22 = .sl 2 := by kernel_rfl
@[go_sem] theorem sz22 : tsz Try.prog 22 = 1 := by kernel_rfl
@[go_sem] theorem by22 : Try.prog.bytesOf 22 = 24 := by kernel_rfl
@[go_sem] theorem zl22 : (tz Try.prog 22).length = 1 := by kernel_rfl
@[go_sem] theorem za22 : (tz Try.prog 22).map zAV = [.nils] := by kernel_rfl
@[go_sem] theorem zd22 : zDs (tz Try.prog 22) = some [.sl []] := by kernel_rfl
@[go_sem] theorem ti23 : ti Try.prog 23 = .sl 25 := by kernel_rfl
@[go_sem] theorem sz23 : tsz Try.prog 23 = 1 := by kernel_rfl
@[go_sem] theorem by23 : Try.prog.bytesOf 23 = 24 := by kernel_rfl
@[go_sem] theorem zl23 : (tz Try.prog 23).length = 1 := by kernel_rfl
@[go_sem] theorem za23 : (tz Try.prog 23).map zAV = [.nils] := by kernel_rfl
@[go_sem] theorem zd23 : zDs (tz Try.prog 23) = some [.sl []] := by kernel_rfl
@[go_sem] theorem ti25 : ti Try.prog 25 = .st [(0, 2), (1, 2), (2, 22), (3, 23)] := by kernel_rfl
@[go_sem] theorem sz25 : tsz Try.prog 25 = 4 := by kernel_rfl
@[go_sem] theorem by25 : Try.prog.bytesOf 25 = 64 := by kernel_rfl
@[go_sem] theorem zl25 : (tz Try.prog 25).length = 4 := by kernel_rfl
@[go_sem] theorem za25 : (tz Try.prog 25).map zAV = [.int .i64 0, .int .i64 0, .nils, .nils] := by kernel_rfl
@[go_sem] theorem zd25 : zDs (tz Try.prog 25) = some [.int .i64 0, .int .i64 0, .sl [], .sl []] := by kernel_rfl
@[go_sem] theorem ti27 : ti Try.prog 27 = .sl 29 := by kernel_rfl
@[go_sem] theorem sz27 : tsz Try.prog 27 = 1 := by kernel_rfl
@[go_sem] theorem by27 : Try.prog.bytesOf 27 = 24 := by kernel_rfl
@[go_sem] theorem zl27 : (tz Try.prog 27).length = 1 := by kernel_rfl
@[go_sem] theorem za27 : (tz Try.prog 27).map zAV = [.nils] := by kernel_rfl
@[go_sem] theorem zd27 : zDs (tz Try.prog 27) = some [.sl []] := by kernel_rfl
@[go_sem] theorem ti29 : ti Try.prog 29 = .st [(0, 2), (1, 2), (2, 22), (3, 27)] := by kernel_rfl
@[go_sem] theorem sz29 : tsz Try.prog 29 = 4 := by kernel_rfl
@[go_sem] theorem by29 : Try.prog.bytesOf 29 = 64 := by kernel_rfl
@[go_sem] theorem zl29 : (tz Try.prog 29).length = 4 := by kernel_rfl
@[go_sem] theorem za29 : (tz Try.prog 29).map zAV = [.int .i64 0, .int .i64 0, .nils, .nils] := by kernel_rfl
@[go_sem] theorem zd29 : zDs (tz Try.prog 29) = some [.int .i64 0, .int .i64 0, .sl [], .sl []] := by kernel_rfl
@[go_sem] theorem ti39 : ti Try.prog 39 = .st [(0, 23)] := by kernel_rfl
@[go_sem] theorem sz39 : tsz Try.prog 39 = 1 := by kernel_rfl
@[go_sem] theorem by39 : Try.prog.bytesOf 39 = 24 := by kernel_rfl
@[go_sem] theorem zl39 : (tz Try.prog 39).length = 1 := by kernel_rfl
@[go_sem] theorem za39 : (tz Try.prog 39).map zAV = [.nils] := by kernel_rfl
@[go_sem] theorem zd39 : zDs (tz Try.prog 39) = some [.sl []] := by kernel_rfl
@[go_sem] theorem ti42 : ti Try.prog 42 = .st [(0, 27)] := by kernel_rfl
@[go_sem] theorem sz42 : tsz Try.prog 42 = 1 := by kernel_rfl
@[go_sem] theorem by42 : Try.prog.bytesOf 42 = 24 := by kernel_rfl
@[go_sem] theorem zl42 : (tz Try.prog 42).length = 1 := by kernel_rfl
@[go_sem] theorem za42 : (tz Try.prog 42).map zAV = [.nils] := by kernel_rfl
@[go_sem] theorem zd42 : zDs (tz Try.prog 42) = some [.sl []] := by kernel_rfl
@[go_sem] theorem ti49 : ti Try.prog 49 = .sl 293 := by kernel_rfl
@[go_sem] theorem sz49 : tsz Try.prog 49 = 1 := by kernel_rfl
@[go_sem] theorem by49 : Try.prog.bytesOf 49 = 24 := by kernel_rfl
@[go_sem] theorem zl49 : (tz Try.prog 49).length = 1 := by kernel_rfl
@[go_sem] theorem za49 : (tz Try.prog 49).map zAV = [.nils] := by kernel_rfl
@[go_sem] theorem zd49 : zDs (tz Try.prog 49) = some [.sl []] := by kernel_rfl
@[go_sem] theorem ti50 : ti Try.prog 50 = .sl 302 := by kernel_rfl
@[go_sem] theorem sz50 : tsz Try.prog 50 = 1 := by kernel_rfl
@[go_sem] theorem by50 : Try.prog.bytesOf 50 = 24 := by kernel_rfl
@[go_sem] theorem zl50 : (tz Try.prog 50).length = 1 := by kernel_rfl
@[go_sem] theorem za50 : (tz Try.prog 50).map zAV = [.nils] := by kernel_rfl
@[go_sem] theorem zd50 : zDs (tz Try.prog 50) = some [.sl []] := by kernel_rfl
@[go_sem] theorem ti52 : ti Try.prog 52 = .st [(0, 49), (1, 50)] := by kernel_rfl
@[go_sem] theorem sz52 : tsz Try.prog 52 = 2 := by kernel_rfl
@[go_sem] theorem by52 : Try.prog.bytesOf 52 = 48 := by kernel_rfl
@[go_sem] theorem zl52 : (tz Try.prog 52).length = 2 := by kernel_rfl
@[go_sem] theorem za52 : (tz Try.prog 52).map zAV = [.nils, .nils] := by kernel_rfl
@[go_sem] theorem zd52 : zDs (tz Try.prog 52) = some [.sl [], .sl []] := by kernel_rfl
@[go_sem] theorem ti54 : ti Try.prog 54 = .st [(0, 4), (1, 52), (3, 22), (4, 2)] := by kernel_rfl
@[go_sem] theorem sz54 : tsz Try.prog 54 = 5 := by kernel_rfl
@[go_sem] theorem by54 : Try.prog.bytesOf 54 = 88 := by kernel_rfl
@[go_sem] theorem zl54 : (tz Try.prog 54).length = 5 := by kernel_rfl
@[go_sem] theorem za54 : (tz Try.prog 54).map zAV = [.bool false, .nils, .nils, .nils, .int .i64 0] := by kernel_rfl
@[go_sem] theorem zd54 : zDs (tz Try.prog 54) = some [.bool false, .sl [], .sl [], .sl [], .int .i64 0] := by kernel_rfl
@[go_sem] theorem ti57 : ti Try.prog 57 = .sl 219 := by kernel_rfl
@[go_sem] theorem sz57 : tsz Try.prog 57 = 1 := by kernel_rfl
@[go_sem] theorem by57 : Try.prog.bytesOf 57 = 24 := by kernel_rfl
@[go_sem] theorem zl57 : (tz Try.prog 57).length = 1 := by kernel_rfl
@[go_sem] theorem za57 : (tz Try.prog 57).map zAV = [.nils] := by kernel_rfl
@[go_sem] theorem zd57 : zDs (tz Try.prog 57) = some [.sl []] := by kernel_rfl
@[go_sem] theorem ti58 : ti Try.prog 58 = .sl 228 := by kernel_rfl
@[go_sem] theorem sz58 : tsz Try.prog 58 = 1 := by kernel_rfl
@[go_sem] theorem by58 : Try.prog.bytesOf 58 = 24 := by kernel_rfl
@[go_sem] theorem zl58 : (tz Try.prog 58).length = 1 := by kernel_rfl
@[go_sem] theorem za58 : (tz Try.prog 58).map zAV = [.nils] := by kernel_rfl
@[go_sem] theorem zd58 : zDs (tz Try.prog 58) = some [.sl []] := by kernel_rfl
@[go_sem] theorem ti60 : ti Try.prog 60 = .st [(0, 57), (1, 58)] := by kernel_rfl
@[go_sem] theorem sz60 : tsz Try.prog 60 = 2 := by kernel_rfl
@[go_sem] theorem by60 : Try.prog.bytesOf 60 = 48 := by kernel_rfl
@[go_sem] theorem zl60 : (tz Try.prog 60).length = 2 := by kernel_rfl
@[go_sem] theorem za60 : (tz Try.prog 60).map zAV = [.nils, .nils] := by kernel_rfl
@[go_sem] theorem zd60 : zDs (tz Try.prog 60) = some [.sl [], .sl []] := by kernel_rfl
@[go_sem] theorem ti62 : ti Try.prog 62 = .st [(0, 4), (1, 60), (3, 22), (4, 2)] := by kernel_rfl
@[go_sem] theorem sz62 : tsz Try.prog 62 = 5 := by kernel_rfl
@[go_sem] theorem by62 : Try.prog.bytesOf 62 = 88 := by kernel_rfl
@[go_sem] theorem zl62 : (tz Try.prog 62).length = 5 := by kernel_rfl
@[go_sem] theorem za62 : (tz Try.prog 62).map zAV = [.bool false, .nils, .nils, .nils, .int .i64 0] := by kernel_rfl
@[go_sem] theorem zd62 : zDs (tz Try.prog 62) = some [.bool false, .sl [], .sl [], .sl [], .int .i64 0] := by kernel_rfl
@[go_sem] theorem ti65 : ti Try.prog 65 = .sl 370 := by kernel_rfl
@[go_sem] theorem sz65 : tsz Try.prog 65 = 1 := by kernel_rfl
@[go_sem] theorem by65 : Try.prog.bytesOf 65 = 24 := by kernel_rfl
@[go_sem] theorem zl65 : (tz Try.prog 65).length = 1 := by kernel_rfl
@[go_sem] theorem za65 : (tz Try.prog 65).map zAV = [.nils] := by kernel_rfl
@[go_sem] theorem zd65 : zDs (tz Try.prog 65) = some [.sl []] := by kernel_rfl
@[go_sem] theorem ti67 : ti Try.prog 67 = .st [(0, 2), (1, 2), (2, 2)] := by kernel_rfl
@[go_sem] theorem ks67 : structKs Try.prog 67 = some [.int .i64, .int .i64, .int .i64] := by kernel_rfl
@[go_sem] theorem sz67 : tsz Try.prog 67 = 3 := by kernel_rfl
@[go_sem] theorem by67 : Try.prog.bytesOf 67 = 24 := by kernel_rfl
@[go_sem] theorem zl67 : (tz Try.prog 67).length = 3 := by kernel_rfl
@[go_sem] theorem za67 : (tz Try.prog 67).map zAV = [.int .i64 0, .int .i64 0, .int .i64 0] := by kernel_rfl
@[go_sem] theorem zd67 : zDs (tz Try.prog 67) = some [.int .i64 0, .int .i64 0, .int .i64 0] := by kernel_rfl
@[go_sem] theorem ti69 : ti Try.prog 69 = .st [(0, 65), (1, 67)] := by kernel_rfl
@[go_sem] theorem sz69 : tsz Try.prog 69 = 4 := by kernel_rfl
@[go_sem] theorem by69 : Try.prog.bytesOf 69 = 48 := by kernel_rfl
@[go_sem] theorem zl69 : (tz Try.prog 69).length = 4 := by kernel_rfl
@[go_sem] theorem za69 : (tz Try.prog 69).map zAV = [.nils, .int .i64 0, .int .i64 0, .int .i64 0] := by kernel_rfl
@[go_sem] theorem zd69 : zDs (tz Try.prog 69) = some [.sl [], .int .i64 0, .int .i64 0, .int .i64 0] := by kernel_rfl
@[go_sem] theorem ti70 : ti Try.prog 70 = .sl 316 := by kernel_rfl
@[go_sem] theorem sz70 : tsz Try.prog 70 = 1 := by kernel_rfl
@[go_sem] theorem by70 : Try.prog.bytesOf 70 = 24 := by kernel_rfl
@[go_sem] theorem zl70 : (tz Try.prog 70).length = 1 := by kernel_rfl
@[go_sem] theorem za70 : (tz Try.prog 70).map zAV = [.nils] := by kernel_rfl
@[go_sem] theorem zd70 : zDs (tz Try.prog 70) = some [.sl []] := by kernel_rfl
@[go_sem] theorem ti71 : ti Try.prog 71 = .sl 22 := by kernel_rfl
@[go_sem] theorem sz71 : tsz Try.prog 71 = 1 := by kernel_rfl
@[go_sem] theorem by71 : Try.prog.bytesOf 71 = 24 := by kernel_rfl
@[go_sem] theorem zl71 : (tz Try.prog 71).length = 1 := by kernel_rfl
@[go_sem] theorem za71 : (tz Try.prog 71).map zAV = [.nils] := by kernel_rfl
@[go_sem] theorem zd71 : zDs (tz Try.prog 71) = some [.sl []] := by kernel_rfl
@[go_sem] theorem ti73 : ti Try.prog 73 = .st [(0, 69), (4, 70), (5, 71), (6, 22), (7, 22)] := by kernel_rfl
@[go_sem] theorem sz73 : tsz Try.prog 73 = 8 := by kernel_rfl
@[go_sem] theorem by73 : Try.prog.bytesOf 73 = 144 := by kernel_rfl
@[go_sem] theorem zl73 : (tz Try.prog 73).length = 8 := by kernel_rfl
@[go_sem] theorem za73 : (tz Try.prog 73).map zAV = [.nils, .int .i64 0, .int .i64 0, .int .i64 0, .nils, .nils, .nils, .nils] := by kernel_rfl
@[go_sem] theorem zd73 : zDs (tz Try.prog 73) = some [.sl [], .int .i64 0, .int .i64 0, .int .i64 0, .sl [], .sl [], .sl [], .sl []] := by kernel_rfl
@[go_sem] theorem ti74 : ti Try.prog 74 = .sl 4 := by kernel_rfl
@[go_sem] theorem sz74 : tsz Try.prog 74 = 1 := by kernel_rfl
@[go_sem] theorem by74 : Try.prog.bytesOf 74 = 24 := by kernel_rfl
@[go_sem] theorem zl74 : (tz Try.prog 74).length = 1 := by kernel_rfl
@[go_sem] theorem za74 : (tz Try.prog 74).map zAV = [.nils] := by kernel_rfl
@[go_sem] theorem zd74 : zDs (tz Try.prog 74) = some [.sl []] := by kernel_rfl
@[go_sem] theorem ti76 : ti Try.prog 76 = .st [(0, 74), (1, 65), (2, 71), (3, 74), (4, 70)] := by kernel_rfl
@[go_sem] theorem sz76 : tsz Try.prog 76 = 5 := by kernel_rfl
@[go_sem] theorem by76 : Try.prog.bytesOf 76 = 120 := by kernel_rfl
@[go_sem] theorem zl76 : (tz Try.prog 76).length = 5 := by kernel_rfl
@[go_sem] theorem za76 : (tz Try.prog 76).map zAV = [.nils, .nils, .nils, .nils, .nils] := by kernel_rfl
@[go_sem] theorem zd76 : zDs (tz Try.prog 76) = some [.sl [], .sl [], .sl [], .sl [], .sl []] := by kernel_rfl
@[go_sem] theorem ti78 : ti Try.prog 78 = .st [(0, 73), (8, 76)] := by kernel_rfl
@[go_sem] theorem sz78 : tsz Try.prog 78 = 13 := by kernel_rfl
@[go_sem] theorem by78 : Try.prog.bytesOf 78 = 264 := by kernel_rfl
@[go_sem] theorem zl78 : (tz Try.prog 78).length = 13 := by kernel_rfl
@[go_sem] theorem za78 : (tz Try.prog 78).map zAV = [.nils, .int .i64 0, .int .i64 0, .int .i64 0, .nils, .nils, .nils, .nils, .nils, .nils, .nils, .nils, .nils] := by kernel_rfl
@[go_sem] theorem zd78 : zDs (tz Try.prog 78) = some [.sl [], .int .i64 0, .int .i64 0, .int .i64 0, .sl [], .sl [], .sl [], .sl [], .sl [], .sl [], .sl [], .sl [], .sl []] := by kernel_rfl
@[go_sem] theorem ti80 : ti Try.prog 80 = .st [(0, 78), (13, 73), (21, 2), (22, 2)] := by kernel_rfl
@[go_sem] theorem sz80 : tsz Try.prog 80 = 23 := by kernel_rfl
@[go_sem] theorem by80 : Try.prog.bytesOf 80 = 424 := by kernel_rfl
@[go_sem] theorem zl80 : (tz Try.prog 80).length = 23 := by kernel_rfl
@[go_sem] theorem za80 : (tz Try.prog 80).map zAV = [.nils, .int .i64 0, .int .i64 0, .int .i64 0, .nils, .nils, .nils, .nils, .nils, .nils, .nils, .nils, .nils, .nils, .int .i64 0, .int .i64 0, .int .i64 0, .nils, .nils, .nils, .nils, .int .i64 0, .int .i64 0] := by kernel_rfl
@[go_sem] theorem zd80 : zDs (tz Try.prog 80) = some [.sl [], .int .i64 0, .int .i64 0, .int .i64 0, .sl [], .sl [], .sl [], .sl [], .sl [], .sl [], .sl [], .sl [], .sl [], .sl [], .int .i64 0, .int .i64 0, .int .i64 0, .sl [], .sl [], .sl [], .sl [], .int .i64 0, .int .i64 0] := by kernel_rfl
@[go_sem] theorem ti83 : ti Try.prog 83 = .sl 322 := by kernel_rfl
@[go_sem] theorem sz83 : tsz Try.prog 83 = 1 := by kernel_rfl
@[go_sem] theorem by83 : Try.prog.bytesOf 83 = 24 := by kernel_rfl
@[go_sem] theorem zl83 : (tz Try.prog 83).length = 1 := by kernel_rfl
@[go_sem] theorem za83 : (tz Try.prog 83).map zAV = [.nils] := by kernel_rfl
@[go_sem] theorem zd83 : zDs (tz Try.prog 83) = some [.sl []] := by kernel_rfl
@[go_sem] theorem ti84 : ti Try.prog 84 = .st [(0, 2), (1, 2), (2, 2)] := by kernel_rfl
@[go_sem] theorem ks84 : structKs Try.prog 84 = some [.int .i64, .int .i64, .int .i64] := by kernel_rfl
@[go_sem] theorem sz84 : tsz Try.prog 84 = 3 := by kernel_rfl
@[go_sem] theorem by84 : Try.prog.bytesOf 84 = 24 := by kernel_rfl
@[go_sem] theorem zl84 : (tz Try.prog 84).length = 3 := by kernel_rfl
@[go_sem] theorem za84 : (tz Try.prog 84).map zAV = [.int .i64 0, .int .i64 0, .int .i64 0] := by kernel_rfl
@[go_sem] theorem zd84 : zDs (tz Try.prog 84) = some [.int .i64 0, .int .i64 0, .int .i64 0] := by kernel_rfl
@[go_sem] theorem ti86 : ti Try.prog 86 = .st [(0, 83), (1, 84)] := by kernel_rfl
@[go_sem] theorem sz86 : tsz Try.prog 86 = 4 := by kernel_rfl
@[go_sem] theorem by86 : Try.prog.bytesOf 86 = 48 := by kernel_rfl
@[go_sem] theorem zl86 : (tz Try.prog 86).length = 4 := by kernel_rfl
@[go_sem] theorem za86 : (tz Try.prog 86).map zAV = [.nils, .int .i64 0, .int .i64 0, .int .i64 0] := by kernel_rfl
@[go_sem] theorem zd86 : zDs (tz Try.prog 86) = some [.sl [], .int .i64 0, .int .i64 0, .int .i64 0] := by kernel_rfl
@[go_sem] theorem ti87 : ti Try.prog 87 = .sl 251 := by kernel_rfl
@[go_sem] theorem sz87 : tsz Try.prog 87 = 1 := by kernel_rfl
@[go_sem] theorem by87 : Try.prog.bytesOf 87 = 24 := by kernel_rfl
@[go_sem] theorem zl87 : (tz Try.prog 87).length = 1 := by kernel_rfl
@[go_sem] theorem za87 : (tz Try.prog 87).map zAV = [.nils] := by kernel_rfl
@[go_sem] theorem zd87 : zDs (tz Try.prog 87) = some [.sl []] := by kernel_rfl
@[go_sem] theorem ti89 : ti Try.prog 89 = .st [(0, 86), (4, 87), (5, 71), (6, 22), (7, 22)] := by kernel_rfl
@[go_sem] theorem sz89 : tsz Try.prog 89 = 8 := by kernel_rfl
@[go_sem] theorem by89 : Try.prog.bytesOf 89 = 144 := by kernel_rfl
@[go_sem] theorem zl89 : (tz Try.prog 89).length = 8 := by kernel_rfl
@[go_sem] theorem za89 : (tz Try.prog 89).map zAV = [.nils, .int .i64 0, .int .i64 0, .int .i64 0, .nils, .nils, .nils, .nils] := by kernel_rfl
@[go_sem] theorem zd89 : zDs (tz Try.prog 89) = some [.sl [], .int .i64 0, .int .i64 0, .int .i64 0, .sl [], .sl [], .sl [], .sl []] := by kernel_rfl
@[go_sem] theorem ti91 : ti Try.prog 91 = .st [(0, 74), (1, 83), (2, 71), (3, 74), (4, 87)] := by kernel_rfl
@[go_sem] theorem sz91 : tsz Try.prog 91 = 5 := by kernel_rfl
@[go_sem] theorem by91 : Try.prog.bytesOf 91 = 120 := by kernel_rfl
@[go_sem] theorem zl91 : (tz Try.prog 91).length = 5 := by kernel_rfl
@[go_sem] theorem za91 : (tz Try.prog 91).map zAV = [.nils, .nils, .nils, .nils, .nils] := by kernel_rfl
@[go_sem] theorem zd91 : zDs (tz Try.prog 91) = some [.sl [], .sl [], .sl [], .sl [], .sl []] := by kernel_rfl
@[go_sem] theorem ti93 : ti Try.prog 93 = .st [(0, 89), (8, 91)] := by kernel_rfl
@[go_sem] theorem sz93 : tsz Try.prog 93 = 13 := by kernel_rfl
@[go_sem] theorem by93 : Try.prog.bytesOf 93 = 264 := by kernel_rfl
@[go_sem] theorem zl93 : (tz Try.prog 93).length = 13 := by kernel_rfl
@[go_sem] theorem za93 : (tz Try.prog 93).map zAV = [.nils, .int .i64 0, .int .i64 0, .int .i64 0, .nils, .nils, .nils, .nils, .nils, .nils, .nils, .nils, .nils] := by kernel_rfl
@[go_sem] theorem zd93 : zDs (tz Try.prog 93) = some [.sl [], .int .i64 0, .int .i64 0, .int .i64 0, .sl [], .sl [], .sl [], .sl [], .sl [], .sl [], .sl [], .sl [], .sl []] := by kernel_rfl
@[go_sem] theorem ti95 : ti Try.prog 95 = .st [(0, 93), (13, 89), (21, 2), (22, 2)] := by kernel_rfl
@[go_sem] theorem sz95 : tsz Try.prog 95 = 23 := by kernel_rfl
@[go_sem] theorem by95 : Try.prog.bytesOf 95 = 424 := by kernel_rfl
@[go_sem] theorem zl95 : (tz Try.prog 95).length = 23 := by kernel_rfl
@[go_sem] theorem za95 : (tz Try.prog 95).map zAV = [.nils, .int .i64 0, .int .i64 0, .int .i64 0, .nils, .nils, .nils, .nils, .nils, .nils, .nils, .nils, .nils, .nils, .int .i64 0, .int .i64 0, .int .i64 0, .nils, .nils, .nils, .nils, .int .i64 0, .int .i64 0] := by kernel_rfl
@[go_sem] theorem zd95 : zDs (tz Try.prog 95) = some [.sl [], .int .i64 0, .int .i64 0, .int .i64 0, .sl [], .sl [], .sl [], .sl [], .sl [], .sl [], .sl [], .sl [], .sl [], .sl [], .int .i64 0, .int .i64 0, .int .i64 0, .sl [], .sl [], .sl [], .sl [], .int .i64 0, .int .i64 0] := by kernel_rfl
@[go_sem] theorem ti98 : ti Try.prog 98 = .sl 260 := by kernel_rfl
@[go_sem] theorem sz98 : tsz Try.prog 98 = 1 := by kernel_rfl
@[go_sem] theorem by98 : Try.prog.bytesOf 98 = 24 := by kernel_rfl
@[go_sem] theorem zl98 : (tz Try.prog 98).length = 1 := by kernel_rfl
@[go_sem] theorem za98 : (tz Try.prog 98).map zAV = [.nils] := by kernel_rfl
@[go_sem] theorem zd98 : zDs (tz Try.prog 98) = some [.sl []] := by kernel_rfl
@[go_sem] theorem ti100 : ti Try.prog 100 = .st [(0, 2), (1, 2), (2, 2), (3, 98)] := by kernel_rfl
@[go_sem] theorem sz100 : tsz Try.prog 100 = 4 := by kernel_rfl
@[go_sem] theorem by100 : Try.prog.bytesOf 100 = 48 := by kernel_rfl
@[go_sem] theorem zl100 : (tz Try.prog 100).length = 4 := by kernel_rfl
@[go_sem] theorem za100 : (tz Try.prog 100).map zAV = [.int .i64 0, .int .i64 0, .int .i64 0, .nils] := by kernel_rfl
@[go_sem] theorem zd100 : zDs (tz Try.prog 100) = some [.int .i64 0, .int .i64 0, .int .i64 0, .sl []] := by kernel_rfl
@[go_sem] theorem ti103 : ti Try.prog 103 = .sl 165 := by kernel_rfl
@[go_sem] theorem sz103 : tsz Try.prog 103 = 1 := by kernel_rfl
@[go_sem] theorem by103 : Try.prog.bytesOf 103 = 24 := by kernel_rfl
@[go_sem] theorem zl103 : (tz Try.prog 103).length = 1 := by kernel_rfl
@[go_sem] theorem za103 : (tz Try.prog 103).map zAV = [.nils] := by kernel_rfl
@[go_sem] theorem zd103 : zDs (tz Try.prog 103) = some [.sl []] := by kernel_rfl
@[go_sem] theorem ti105 : ti Try.prog 105 = .st [(0, 2), (1, 2), (2, 2), (3, 103)] := by kernel_rfl
@[go_sem] theorem sz105 : tsz Try.prog 105 = 4 := by kernel_rfl
@[go_sem] theorem by105 : Try.prog.bytesOf 105 = 48 := by kernel_rfl
@[go_sem] theorem zl105 : (tz Try.prog 105).length = 4 := by kernel_rfl
@[go_sem] theorem za105 : (tz Try.prog 105).map zAV = [.int .i64 0, .int .i64 0, .int .i64 0, .nils] := by kernel_rfl
@[go_sem] theorem zd105 : zDs (tz Try.prog 105) = some [.int .i64 0, .int .i64 0, .int .i64 0, .sl []] := by kernel_rfl
@[go_sem] theorem ti109 : ti Try.prog 109 = .sl 5 := by kernel_rfl
@[go_sem] theorem sz109 : tsz Try.prog 109 = 1 := by kernel_rfl
@[go_sem] theorem by109 : Try.prog.bytesOf 109 = 24 := by kernel_rfl
@[go_sem] theorem zl109 : (tz Try.prog 109).length = 1 := by kernel_rfl
@[go_sem] theorem za109 : (tz Try.prog 109).map zAV = [.nils] := by kernel_rfl
@[go_sem] theorem zd109 : zDs (tz Try.prog 109) = some [.sl []] := by kernel_rfl
@[go_sem] theorem ti135 : ti Try.prog 135 = .fn := by kernel_rfl
@[go_sem] theorem sz135 : tsz Try.prog 135 = 1 := by kernel_rfl
@[go_sem] theorem by135 : Try.prog.bytesOf 135 = 8 := by kernel_rfl
@[go_sem] theorem zl135 : (tz Try.prog 135).length = 1 := by kernel_rfl
@[go_sem] theorem ti160 : ti Try.prog 160 = .sl 163 := by kernel_rfl
@[go_sem] theorem sz160 : tsz Try.prog 160 = 1 := by kernel_rfl
@[go_sem] theorem by160 : Try.prog.bytesOf 160 = 24 := by kernel_rfl
@[go_sem] theorem zl160 : (tz Try.prog 160).length = 1 := by kernel_rfl
@[go_sem] theorem za160 : (tz Try.prog 160).map zAV = [.nils] := by kernel_rfl
@[go_sem] theorem zd160 : zDs (tz Try.prog 160) = some [.sl []] := by kernel_rfl
@[go_sem] theorem ti161 : ti Try.prog 161 = .sl 394 := by kernel_rfl
@[go_sem] theorem sz161 : tsz Try.prog 161 = 1 := by kernel_rfl
@[go_sem] theorem by161 : Try.prog.bytesOf 161 = 24 := by kernel_rfl
@[go_sem] theorem zl161 : (tz Try.prog 161).length = 1 := by kernel_rfl
@[go_sem] theorem za161 : (tz Try.prog 161).map zAV = [.nils] := by kernel_rfl
@[go_sem] theorem zd161 : zDs (tz Try.prog 161) = some [.sl []] := by kernel_rfl
@[go_sem] theorem ti163 : ti Try.prog 163 = .st [(0, 161)] := by kernel_rfl
@[go_sem] theorem sz163 : tsz Try.prog 163 = 1 := by kernel_rfl
@[go_sem] theorem by163 : Try.prog.bytesOf 163 = 24 := by kernel_rfl
@[go_sem] theorem zl163 : (tz Try.prog 163).length = 1 := by kernel_rfl
@[go_sem] theorem za163 : (tz Try.prog 163).map zAV = [.nils] := by kernel_rfl
@[go_sem] theorem zd163 : zDs (tz Try.prog 163) = some [.sl []] := by kernel_rfl
@[go_sem] theorem ti165 : ti Try.prog 165 = .st [(0, 2), (1, 2), (2, 2), (3, 2), (4, 2), (5, 2), (6, 22), (7, 22), (8, 160), (9, 163)] := by kernel_rfl
@[go_sem] theorem sz165 : tsz Try.prog 165 = 10 := by kernel_rfl
@[go_sem] theorem by165 : Try.prog.bytesOf 165 = 144 := by kernel_rfl
@[go_sem] theorem zl165 : (tz Try.prog 165).length = 10 := by kernel_rfl
@[go_sem] theorem za165 : (tz Try.prog 165).map zAV = [.int .i64 0, .int .i64 0, .int .i64 0, .int .i64 0, .int .i64 0, .int .i64 0, .nils, .nils, .nils, .nils] := by kernel_rfl
@[go_sem] theorem zd165 : zDs (tz Try.prog 165) = some [.int .i64 0, .int .i64 0, .int .i64 0, .int .i64 0, .int .i64 0, .int .i64 0, .sl [], .sl [], .sl [], .sl []] := by kernel_rfl
@[go_sem] theorem ti178 : ti Try.prog 178 = .st [(0, 109), (1, 3), (2, 4)] := by kernel_rfl
@[go_sem] theorem sz178 : tsz Try.prog 178 = 3 := by kernel_rfl
@[go_sem] theorem by178 : Try.prog.bytesOf 178 = 40 := by kernel_rfl
@[go_sem] theorem zl178 : (tz Try.prog 178).length = 3 := by kernel_rfl
@[go_sem] theorem za178 : (tz Try.prog 178).map zAV = [.nils, .int .i64 0, .bool false] := by kernel_rfl
@[go_sem] theorem zd178 : zDs (tz Try.prog 178) = some [.sl [], .int .i64 0, .bool false] := by kernel_rfl
@[go_sem] theorem ti217 : ti Try.prog 217 = .sl 304 := by kernel_rfl
@[go_sem] theorem sz217 : tsz Try.prog 217 = 1 := by kernel_rfl
@[go_sem] theorem by217 : Try.prog.bytesOf 217 = 24 := by kernel_rfl
@[go_sem] theorem zl217 : (tz Try.prog 217).length = 1 := by kernel_rfl
@[go_sem] theorem za217 : (tz Try.prog 217).map zAV = [.nils] := by kernel_rfl
@[go_sem] theorem zd217 : zDs (tz Try.prog 217) = some [.sl []] := by kernel_rfl
@[go_sem] theorem ti219 : ti Try.prog 219 = .st [(0, 9), (1, 217)] := by kernel_rfl
@[go_sem] theorem sz219 : tsz Try.prog 219 = 2 := by kernel_rfl
@[go_sem] theorem by219 : Try.prog.bytesOf 219 = 40 := by kernel_rfl
@[go_sem] theorem zl219 : (tz Try.prog 219).length = 2 := by kernel_rfl
@[go_sem] theorem za219 : (tz Try.prog 219).map zAV = [.str ByteArray.empty, .nils] := by kernel_rfl
@[go_sem] theorem zd219 : zDs (tz Try.prog 219) = some [.str ByteArray.empty, .sl []] := by kernel_rfl
@[go_sem] theorem ti220 : ti Try.prog 220 = .sl 222 := by kernel_rfl
@[go_sem] theorem sz220 : tsz Try.prog 220 = 1 := by kernel_rfl
@[go_sem] theorem by220 : Try.prog.bytesOf 220 = 24 := by kernel_rfl
@[go_sem] theorem zl220 : (tz Try.prog 220).length = 1 := by kernel_rfl
@[go_sem] theorem za220 : (tz Try.prog 220).map zAV = [.nils] := by kernel_rfl
@[go_sem] theorem zd220 : zDs (tz Try.prog 220) = some [.sl []] := by kernel_rfl
@[go_sem] theorem ti222 : ti Try.prog 222 = .st [(0, 2), (1, 9), (2, 220)] := by kernel_rfl
@[go_sem] theorem sz222 : tsz Try.prog 222 = 3 := by kernel_rfl
@[go_sem] theorem by222 : Try.prog.bytesOf 222 = 48 := by kernel_rfl
@[go_sem] theorem zl222 : (tz Try.prog 222).length = 3 := by kernel_rfl
@[go_sem] theorem za222 : (tz Try.prog 222).map zAV = [.int .i64 0, .str ByteArray.empty, .nils] := by kernel_rfl
@[go_sem] theorem zd222 : zDs (tz Try.prog 222) = some [.int .i64 0, .str ByteArray.empty, .sl []] := by kernel_rfl
@[go_sem] theorem ti223 : ti Try.prog 223 = .sl 9 := by kernel_rfl
@[go_sem] theorem sz223 : tsz Try.prog 223 = 1 := by kernel_rfl
@[go_sem] theorem by223 : Try.prog.bytesOf 223 = 24 := by kernel_rfl
@[go_sem] theorem zl223 : (tz Try.prog 223).length = 1 := by kernel_rfl
@[go_sem] theorem za223 : (tz Try.prog 223).map zAV = [.nils] := by kernel_rfl
@[go_sem] theorem zd223 : zDs (tz Try.prog 223) = some [.sl []] := by kernel_rfl
@[go_sem] theorem ti224 : ti Try.prog 224 = .sl 226 := by kernel_rfl
@[go_sem] theorem sz224 : tsz Try.prog 224 = 1 := by kernel_rfl
@[go_sem] theorem by224 : Try.prog.bytesOf 224 = 24 := by kernel_rfl
@[go_sem] theorem zl224 : (tz Try.prog 224).length = 1 := by kernel_rfl
@[go_sem] theorem za224 : (tz Try.prog 224).map zAV = [.nils] := by kernel_rfl
@[go_sem] theorem zd224 : zDs (tz Try.prog 224) = some [.sl []] := by kernel_rfl
@[go_sem] theorem ti226 : ti Try.prog 226 = .st [(0, 2), (1, 2), (2, 9), (3, 222), (6, 223), (7, 224)] := by kernel_rfl
@[go_sem] theorem sz226 : tsz Try.prog 226 = 8 := by kernel_rfl
@[go_sem] theorem by226 : Try.prog.bytesOf 226 = 128 := by kernel_rfl
@[go_sem] theorem zl226 : (tz Try.prog 226).length = 8 := by kernel_rfl
@[go_sem] theorem za226 : (tz Try.prog 226).map zAV = [.int .i64 0, .int .i64 0, .str ByteArray.empty, .int .i64 0, .str ByteArray.empty, .nils, .nils, .nils] := by kernel_rfl
@[go_sem] theorem zd226 : zDs (tz Try.prog 226) = some [.int .i64 0, .int .i64 0, .str ByteArray.empty, .int .i64 0, .str ByteArray.empty, .sl [], .sl [], .sl []] := by kernel_rfl
@[go_sem] theorem ti228 : ti Try.prog 228 = .st [(0, 9), (1, 222), (4, 226)] := by kernel_rfl
@[go_sem] theorem sz228 : tsz Try.prog 228 = 12 := by kernel_rfl
@[go_sem] theorem by228 : Try.prog.bytesOf 228 = 192 := by kernel_rfl
@[go_sem] theorem zl228 : (tz Try.prog 228).length = 12 := by kernel_rfl
@[go_sem] theorem za228 : (tz Try.prog 228).map zAV = [.str ByteArray.empty, .int .i64 0, .str ByteArray.empty, .nils, .int .i64 0, .int .i64 0, .str ByteArray.empty, .int .i64 0, .str ByteArray.empty, .nils, .nils, .nils] := by kernel_rfl
@[go_sem] theorem zd228 : zDs (tz Try.prog 228) = some [.str ByteArray.empty, .int .i64 0, .str ByteArray.empty, .sl [], .int .i64 0, .int .i64 0, .str ByteArray.empty, .int .i64 0, .str ByteArray.empty, .sl [], .sl [], .sl []] := by kernel_rfl
@[go_sem] theorem ti251 : ti Try.prog 251 = .sl 330 := by kernel_rfl
@[go_sem] theorem sz251 : tsz Try.prog 251 = 1 := by kernel_rfl
@[go_sem] theorem by251 : Try.prog.bytesOf 251 = 24 := by kernel_rfl
@[go_sem] theorem zl251 : (tz Try.prog 251).length = 1 := by kernel_rfl
@[go_sem] theorem za251 : (tz Try.prog 251).map zAV = [.nils] := by kernel_rfl
@[go_sem] theorem zd251 : zDs (tz Try.prog 251) = some [.sl []] := by kernel_rfl
@[go_sem] theorem ti255 : ti Try.prog 255 = .sl 258 := by kernel_rfl
@[go_sem] theorem sz255 : tsz Try.prog 255 = 1 := by kernel_rfl
@[go_sem] theorem by255 : Try.prog.bytesOf 255 = 24 := by kernel_rfl
@[go_sem] theorem zl255 : (tz Try.prog 255).length = 1 := by kernel_rfl
@[go_sem] theorem za255 : (tz Try.prog 255).map zAV = [.nils] := by kernel_rfl
@[go_sem] theorem zd255 : zDs (tz Try.prog 255) = some [.sl []] := by kernel_rfl
@[go_sem] theorem ti256 : ti Try.prog 256 = .sl 440 := by kernel_rfl
@[go_sem] theorem sz256 : tsz Try.prog 256 = 1 := by kernel_rfl
@[go_sem] theorem by256 : Try.prog.bytesOf 256 = 24 := by kernel_rfl
@[go_sem] theorem zl256 : (tz Try.prog 256).length = 1 := by kernel_rfl
@[go_sem] theorem za256 : (tz Try.prog 256).map zAV = [.nils] := by kernel_rfl
@[go_sem] theorem zd256 : zDs (tz Try.prog 256) = some [.sl []] := by kernel_rfl
@[go_sem] theorem ti258 : ti Try.prog 258 = .st [(0, 256)] := by kernel_rfl
@[go_sem] theorem sz258 : tsz Try.prog 258 = 1 := by kernel_rfl
@[go_sem] theorem by258 : Try.prog.bytesOf 258 = 24 := by kernel_rfl
@[go_sem] theorem zl258 : (tz Try.prog 258).length = 1 := by kernel_rfl
@[go_sem] theorem za258 : (tz Try.prog 258).map zAV = [.nils] := by kernel_rfl
@[go_sem] theorem zd258 : zDs (tz Try.prog 258) = some [.sl []] := by kernel_rfl
@[go_sem] theorem ti260 : ti Try.prog 260 = .st [(0, 2), (1, 2), (2, 2), (3, 2), (4, 2), (5, 2), (6, 22), (7, 22), (8, 255), (9, 258)] := by kernel_rfl
@[go_sem] theorem sz260 : tsz Try.prog 260 = 10 := by kernel_rfl
@[go_sem] theorem by260 : Try.prog.bytesOf 260 = 144 := by kernel_rfl
@[go_sem] theorem zl260 : (tz Try.prog 260).length = 10 := by kernel_rfl
@[go_sem] theorem za260 : (tz Try.prog 260).map zAV = [.int .i64 0, .int .i64 0, .int .i64 0, .int .i64 0, .int .i64 0, .int .i64 0, .nils, .nils, .nils, .nils] := by kernel_rfl
@[go_sem] theorem zd260 : zDs (tz Try.prog 260) = some [.int .i64 0, .int .i64 0, .int .i64 0, .int .i64 0, .int .i64 0, .int .i64 0, .sl [], .sl [], .sl [], .sl []] := by kernel_rfl
@[go_sem] theorem ti270 : ti Try.prog 270 = .int .u64 := by kernel_rfl
@[go_sem] theorem sz270 : tsz Try.prog 270 = 1 := by kernel_rfl
@[go_sem] theorem by270 : Try.prog.bytesOf 270 = 8 := by kernel_rfl
@[go_sem] theorem zl270 : (tz Try.prog 270).length = 1 := by kernel_rfl
@[go_sem] theorem za270 : (tz Try.prog 270).map zAV = [.int .u64 0] := by kernel_rfl
@[go_sem] theorem zd270 : zDs (tz Try.prog 270) = some [.int .u64 0] := by kernel_rfl
@[go_sem] theorem ti271 : ti Try.prog 271 = .int .u64 := by kernel_rfl
@[go_sem] theorem sz271 : tsz Try.prog 271 = 1 := by kernel_rfl
@[go_sem] theorem by271 : Try.prog.bytesOf 271 = 8 := by kernel_rfl
@[go_sem] theorem zl271 : (tz Try.prog 271).length = 1 := by kernel_rfl
@[go_sem] theorem za271 : (tz Try.prog 271).map zAV = [.int .u64 0] := by kernel_rfl
@[go_sem] theorem zd271 : zDs (tz Try.prog 271) = some [.int .u64 0] := by kernel_rfl
@[go_sem] theorem ti278 : ti Try.prog 278 = .st [(0, 109), (1, 2), (2, 4)] := by kernel_rfl
@[go_sem] theorem sz278 : tsz Try.prog 278 = 3 := by kernel_rfl
@[go_sem] theorem by278 : Try.prog.bytesOf 278 = 40 := by kernel_rfl
@[go_sem] theorem zl278 : (tz Try.prog 278).length = 3 := by kernel_rfl
@[go_sem] theorem za278 : (tz Try.prog 278).map zAV = [.nils, .int .i64 0, .bool false] := by kernel_rfl
@[go_sem] theorem zd278 : zDs (tz Try.prog 278) = some [.sl [], .int .i64 0, .bool false] := by kernel_rfl
@[go_sem] theorem ti291 : ti Try.prog 291 = .sl 418 := by kernel_rfl
@[go_sem] theorem sz291 : tsz Try.prog 291 = 1 := by kernel_rfl
@[go_sem] theorem by291 : Try.prog.bytesOf 291 = 24 := by kernel_rfl
@[go_sem] theorem zl291 : (tz Try.prog 291).length = 1 := by kernel_rfl
@[go_sem] theorem za291 : (tz Try.prog 291).map zAV = [.nils] := by kernel_rfl
@[go_sem] theorem zd291 : zDs (tz Try.prog 291) = some [.sl []] := by kernel_rfl
@[go_sem] theorem ti293 : ti Try.prog 293 = .st [(0, 9), (1, 291)] := by kernel_rfl
@[go_sem] theorem sz293 : tsz Try.prog 293 = 2 := by kernel_rfl
@[go_sem] theorem by293 : Try.prog.bytesOf 293 = 40 := by kernel_rfl
@[go_sem] theorem zl293 : (tz Try.prog 293).length = 2 := by kernel_rfl
@[go_sem] theorem za293 : (tz Try.prog 293).map zAV = [.str ByteArray.empty, .nils] := by kernel_rfl
@[go_sem] theorem zd293 : zDs (tz Try.prog 293) = some [.str ByteArray.empty, .sl []] := by kernel_rfl
@[go_sem] theorem ti295 : ti Try.prog 295 = .sl 297 := by kernel_rfl
@[go_sem] theorem sz295 : tsz Try.prog 295 = 1 := by kernel_rfl
@[go_sem] theorem by295 : Try.prog.bytesOf 295 = 24 := by kernel_rfl
@[go_sem] theorem zl295 : (tz Try.prog 295).length = 1 := by kernel_rfl
@[go_sem] theorem za295 : (tz Try.prog 295).map zAV = [.nils] := by kernel_rfl
@[go_sem] theorem zd295 : zDs (tz Try.prog 295) = some [.sl []] := by kernel_rfl
@[go_sem] theorem ti297 : ti Try.prog 297 = .st [(0, 2), (1, 9), (2, 295)] := by kernel_rfl
@[go_sem] theorem sz297 : tsz Try.prog 297 = 3 := by kernel_rfl
@[go_sem] theorem by297 : Try.prog.bytesOf 297 = 48 := by kernel_rfl
@[go_sem] theorem zl297 : (tz Try.prog 297).length = 3 := by kernel_rfl
@[go_sem] theorem za297 : (tz Try.prog 297).map zAV = [.int .i64 0, .str ByteArray.empty, .nils] := by kernel_rfl
@[go_sem] theorem zd297 : zDs (tz Try.prog 297) = some [.int .i64 0, .str ByteArray.empty, .sl []] := by kernel_rfl
@[go_sem] theorem ti298 : ti Try.prog 298 = .sl 300 := by kernel_rfl
@[go_sem] theorem sz298 : tsz Try.prog 298 = 1 := by kernel_rfl
@[go_sem] theorem by298 : Try.prog.bytesOf 298 = 24 := by kernel_rfl
@[go_sem] theorem zl298 : (tz Try.prog 298).length = 1 := by kernel_rfl
@[go_sem] theorem za298 : (tz Try.prog 298).map zAV = [.nils] := by kernel_rfl
@[go_sem] theorem zd298 : zDs (tz Try.prog 298) = some [.sl []] := by kernel_rfl
@[go_sem] theorem ti300 : ti Try.prog 300 = .st [(0, 2), (1, 2), (2, 9), (3, 297), (6, 223), (7, 298)] := by kernel_rfl
@[go_sem] theorem sz300 : tsz Try.prog 300 = 8 := by kernel_rfl
@[go_sem] theorem by300 : Try.prog.bytesOf 300 = 128 := by kernel_rfl
@[go_sem] theorem zl300 : (tz Try.prog 300).length = 8 := by kernel_rfl
@[go_sem] theorem za300 : (tz Try.prog 300).map zAV = [.int .i64 0, .int .i64 0, .str ByteArray.empty, .int .i64 0, .str ByteArray.empty, .nils, .nils, .nils] := by kernel_rfl
@[go_sem] theorem zd300 : zDs (tz Try.prog 300) = some [.int .i64 0, .int .i64 0, .str ByteArray.empty, .int .i64 0, .str ByteArray.empty, .sl [], .sl [], .sl []] := by kernel_rfl
@[go_sem] theorem ti302 : ti Try.prog 302 = .st [(0, 9), (1, 297), (4, 300)] := by kernel_rfl
@[go_sem] theorem sz302 : tsz Try.prog 302 = 12 := by kernel_rfl
@[go_sem] theorem by302 : Try.prog.bytesOf 302 = 192 := by kernel_rfl
@[go_sem] theorem zl302 : (tz Try.prog 302).length = 12 := by kernel_rfl
@[go_sem] theorem za302 : (tz Try.prog 302).map zAV = [.str ByteArray.empty, .int .i64 0, .str ByteArray.empty, .nils, .int .i64 0, .int .i64 0, .str ByteArray.empty, .int .i64 0, .str ByteArray.empty, .nils, .nils, .nils] := by kernel_rfl
@[go_sem] theorem zd302 : zDs (tz Try.prog 302) = some [.str ByteArray.empty, .int .i64 0, .str ByteArray.empty, .sl [], .int .i64 0, .int .i64 0, .str ByteArray.empty, .int .i64 0, .str ByteArray.empty, .sl [], .sl [], .sl []] := by kernel_rfl
@[go_sem] theorem ti304 : ti Try.prog 304 = .st [(0, 9), (1, 220)] := by kernel_rfl
@[go_sem] theorem sz304 : tsz Try.prog 304 = 2 := by kernel_rfl
@[go_sem] theorem by304 : Try.prog.bytesOf 304 = 40 := by kernel_rfl
@[go_sem] theorem zl304 : (tz Try.prog 304).length = 2 := by kernel_rfl
@[go_sem] theorem za304 : (tz Try.prog 304).map zAV = [.str ByteArray.empty, .nils] := by kernel_rfl
@[go_sem] theorem zd304 : zDs (tz Try.prog 304) = some [.str ByteArray.empty, .sl []] := by kernel_rfl
@[go_sem] theorem ti316 : ti Try.prog 316 = .sl 376 := by kernel_rfl
@[go_sem] theorem sz316 : tsz Try.prog 316 = 1 := by kernel_rfl
@[go_sem] theorem by316 : Try.prog.bytesOf 316 = 24 := by kernel_rfl
@[go_sem] theorem zl316 : (tz Try.prog 316).length = 1 := by kernel_rfl
@[go_sem] theorem za316 : (tz Try.prog 316).map zAV = [.nils] := by kernel_rfl
@[go_sem] theorem zd316 : zDs (tz Try.prog 316) = some [.sl []] := by kernel_rfl
@[go_sem] theorem ti318 : ti Try.prog 318 = .sl 328 := by kernel_rfl
@[go_sem] theorem sz318 : tsz Try.prog 318 = 1 := by kernel_rfl
@[go_sem] theorem by318 : Try.prog.bytesOf 318 = 24 := by kernel_rfl
@[go_sem] theorem zl318 : (tz Try.prog 318).length = 1 := by kernel_rfl
@[go_sem] theorem za318 : (tz Try.prog 318).map zAV = [.nils] := by kernel_rfl
@[go_sem] theorem zd318 : zDs (tz Try.prog 318) = some [.sl []] := by kernel_rfl
@[go_sem] theorem ti319 : ti Try.prog 319 = .sl 380 := by kernel_rfl
@[go_sem] theorem sz319 : tsz Try.prog 319 = 1 := by kernel_rfl
@[go_sem] theorem by319 : Try.prog.bytesOf 319 = 24 := by kernel_rfl
@[go_sem] theorem zl319 : (tz Try.prog 319).length = 1 := by kernel_rfl
@[go_sem] theorem za319 : (tz Try.prog 319).map zAV = [.nils] := by kernel_rfl
@[go_sem] theorem zd319 : zDs (tz Try.prog 319) = some [.sl []] := by kernel_rfl
@[go_sem] theorem ti320 : ti Try.prog 320 = .sl 382 := by kernel_rfl
@[go_sem] theorem sz320 : tsz Try.prog 320 = 1 := by kernel_rfl
@[go_sem] theorem by320 : Try.prog.bytesOf 320 = 24 := by kernel_rfl
@[go_sem] theorem zl320 : (tz Try.prog 320).length = 1 := by kernel_rfl
@[go_sem] theorem za320 : (tz Try.prog 320).map zAV = [.nils] := by kernel_rfl
@[go_sem] theorem zd320 : zDs (tz Try.prog 320) = some [.sl []] := by kernel_rfl
@[go_sem] theorem ti322 : ti Try.prog 322 = .st [(0, 318), (1, 319), (2, 320)] := by kernel_rfl
@[go_sem] theorem sz322 : tsz Try.prog 322 = 3 := by kernel_rfl
@[go_sem] theorem by322 : Try.prog.bytesOf 322 = 72 := by kernel_rfl
@[go_sem] theorem zl322 : (tz Try.prog 322).length = 3 := by kernel_rfl
@[go_sem] theorem za322 : (tz Try.prog 322).map zAV = [.nils, .nils, .nils] := by kernel_rfl
@[go_sem] theorem zd322 : zDs (tz Try.prog 322) = some [.sl [], .sl [], .sl []] := by kernel_rfl
@[go_sem] theorem ti326 : ti Try.prog 326 = .sl 84 := by kernel_rfl
@[go_sem] theorem sz326 : tsz Try.prog 326 = 1 := by kernel_rfl
@[go_sem] theorem by326 : Try.prog.bytesOf 326 = 24 := by kernel_rfl
@[go_sem] theorem zl326 : (tz Try.prog 326).length = 1 := by kernel_rfl
@[go_sem] theorem za326 : (tz Try.prog 326).map zAV = [.nils] := by kernel_rfl
@[go_sem] theorem zd326 : zDs (tz Try.prog 326) = some [.sl []] := by kernel_rfl
@[go_sem] theorem ti328 : ti Try.prog 328 = .st [(0, 2), (1, 2), (2, 2), (3, 22), (4, 326)] := by kernel_rfl
@[go_sem] theorem sz328 : tsz Try.prog 328 = 5 := by kernel_rfl
@[go_sem] theorem by328 : Try.prog.bytesOf 328 = 72 := by kernel_rfl
@[go_sem] theorem zl328 : (tz Try.prog 328).length = 5 := by kernel_rfl
@[go_sem] theorem za328 : (tz Try.prog 328).map zAV = [.int .i64 0, .int .i64 0, .int .i64 0, .nils, .nils] := by kernel_rfl
@[go_sem] theorem zd328 : zDs (tz Try.prog 328) = some [.int .i64 0, .int .i64 0, .int .i64 0, .sl [], .sl []] := by kernel_rfl
@[go_sem] theorem ti330 : ti Try.prog 330 = .st [(0, 2), (1, 328), (6, 84), (9, 84)] := by kernel_rfl
@[go_sem] theorem sz330 : tsz Try.prog 330 = 12 := by kernel_rfl
@[go_sem] theorem by330 : Try.prog.bytesOf 330 = 128 := by kernel_rfl
@[go_sem] theorem zl330 : (tz Try.prog 330).length = 12 := by kernel_rfl
@[go_sem] theorem za330 : (tz Try.prog 330).map zAV = [.int .i64 0, .int .i64 0, .int .i64 0, .int .i64 0, .nils, .nils, .int .i64 0, .int .i64 0, .int .i64 0, .int .i64 0, .int .i64 0, .int .i64 0] := by kernel_rfl
@[go_sem] theorem zd330 : zDs (tz Try.prog 330) = some [.int .i64 0, .int .i64 0, .int .i64 0, .int .i64 0, .sl [], .sl [], .int .i64 0, .int .i64 0, .int .i64 0, .int .i64 0, .int .i64 0, .int .i64 0] := by kernel_rfl
@[go_sem] theorem ti352 : ti Try.prog 352 = .int .u32 := by kernel_rfl
@[go_sem] theorem sz352 : tsz Try.prog 352 = 1 := by kernel_rfl
@[go_sem] theorem by352 : Try.prog.bytesOf 352 = 4 := by kernel_rfl
@[go_sem] theorem zl352 : (tz Try.prog 352).length = 1 := by kernel_rfl
@[go_sem] theorem za352 : (tz Try.prog 352).map zAV = [.int .u32 0] := by kernel_rfl
@[go_sem] theorem zd352 : zDs (tz Try.prog 352) = some [.int .u32 0] := by kernel_rfl
@[go_sem] theorem ti366 : ti Try.prog 366 = .sl 374 := by kernel_rfl
@[go_sem] theorem sz366 : tsz Try.prog 366 = 1 := by kernel_rfl
@[go_sem] theorem by366 : Try.prog.bytesOf 366 = 24 := by kernel_rfl
@[go_sem] theorem zl366 : (tz Try.prog 366).length = 1 := by kernel_rfl
@[go_sem] theorem za366 : (tz Try.prog 366).map zAV = [.nils] := by kernel_rfl
@[go_sem] theorem zd366 : zDs (tz Try.prog 366) = some [.sl []] := by kernel_rfl
@[go_sem] theorem ti367 : ti Try.prog 367 = .sl 456 := by kernel_rfl
@[go_sem] theorem sz367 : tsz Try.prog 367 = 1 := by kernel_rfl
@[go_sem] theorem by367 : Try.prog.bytesOf 367 = 24 := by kernel_rfl
@[go_sem] theorem zl367 : (tz Try.prog 367).length = 1 := by kernel_rfl
@[go_sem] theorem za367 : (tz Try.prog 367).map zAV = [.nils] := by kernel_rfl
@[go_sem] theorem zd367 : zDs (tz Try.prog 367) = some [.sl []] := by kernel_rfl
@[go_sem] theorem ti368 : ti Try.prog 368 = .sl 459 := by kernel_rfl
@[go_sem] theorem sz368 : tsz Try.prog 368 = 1 := by kernel_rfl
@[go_sem] theorem by368 : Try.prog.bytesOf 368 = 24 := by kernel_rfl
@[go_sem] theorem zl368 : (tz Try.prog 368).length = 1 := by kernel_rfl
@[go_sem] theorem za368 : (tz Try.prog 368).map zAV = [.nils] := by kernel_rfl
@[go_sem] theorem zd368 : zDs (tz Try.prog 368) = some [.sl []] := by kernel_rfl
@[go_sem] theorem ti370 : ti Try.prog 370 = .st [(0, 366), (1, 367), (2, 368)] := by kernel_rfl
@[go_sem] theorem sz370 : tsz Try.prog 370 = 3 := by kernel_rfl
@[go_sem] theorem by370 : Try.prog.bytesOf 370 = 72 := by kernel_rfl
@[go_sem] theorem zl370 : (tz Try.prog 370).length = 3 := by kernel_rfl
@[go_sem] theorem za370 : (tz Try.prog 370).map zAV = [.nils, .nils, .nils] := by kernel_rfl
@[go_sem] theorem zd370 : zDs (tz Try.prog 370) = some [.sl [], .sl [], .sl []] := by kernel_rfl
@[go_sem] theorem ti372 : ti Try.prog 372 = .sl 67 := by kernel_rfl
@[go_sem] theorem sz372 : tsz Try.prog 372 = 1 := by kernel_rfl
@[go_sem] theorem by372 : Try.prog.bytesOf 372 = 24 := by kernel_rfl
@[go_sem] theorem zl372 : (tz Try.prog 372).length = 1 := by kernel_rfl
@[go_sem] theorem za372 : (tz Try.prog 372).map zAV = [.nils] := by kernel_rfl
@[go_sem] theorem zd372 : zDs (tz Try.prog 372) = some [.sl []] := by kernel_rfl
@[go_sem] theorem ti374 : ti Try.prog 374 = .st [(0, 2), (1, 2), (2, 2), (3, 22), (4, 372)] := by kernel_rfl
@[go_sem] theorem sz374 : tsz Try.prog 374 = 5 := by kernel_rfl
@[go_sem] theorem by374 : Try.prog.bytesOf 374 = 72 := by kernel_rfl
@[go_sem] theorem zl374 : (tz Try.prog 374).length = 5 := by kernel_rfl
@[go_sem] theorem za374 : (tz Try.prog 374).map zAV = [.int .i64 0, .int .i64 0, .int .i64 0, .nils, .nils] := by kernel_rfl
@[go_sem] theorem zd374 : zDs (tz Try.prog 374) = some [.int .i64 0, .int .i64 0, .int .i64 0, .sl [], .sl []] := by kernel_rfl
@[go_sem] theorem ti376 : ti Try.prog 376 = .st [(0, 2), (1, 374), (6, 67), (9, 67)] := by kernel_rfl
@[go_sem] theorem sz376 : tsz Try.prog 376 = 12 := by kernel_rfl
@[go_sem] theorem by376 : Try.prog.bytesOf 376 = 128 := by kernel_rfl
@[go_sem] theorem zl376 : (tz Try.prog 376).length = 12 := by kernel_rfl
@[go_sem] theorem za376 : (tz Try.prog 376).map zAV = [.int .i64 0, .int .i64 0, .int .i64 0, .int .i64 0, .nils, .nils, .int .i64 0, .int .i64 0, .int .i64 0, .int .i64 0, .int .i64 0, .int .i64 0] := by kernel_rfl
@[go_sem] theorem zd376 : zDs (tz Try.prog 376) = some [.int .i64 0, .int .i64 0, .int .i64 0, .int .i64 0, .sl [], .sl [], .int .i64 0, .int .i64 0, .int .i64 0, .int .i64 0, .int .i64 0, .int .i64 0] := by kernel_rfl
@[go_sem] theorem ti380 : ti Try.prog 380 = .st [(0, 4), (1, 4), (2, 84)] := by kernel_rfl
@[go_sem] theorem ks380 : structKs Try.prog 380 = some [.bool, .bool, .int .i64, .int .i64, .int .i64] := by kernel_rfl
@[go_sem] theorem sz380 : tsz Try.prog 380 = 5 := by kernel_rfl
@[go_sem] theorem by380 : Try.prog.bytesOf 380 = 32 := by kernel_rfl
@[go_sem] theorem zl380 : (tz Try.prog 380).length = 5 := by kernel_rfl
@[go_sem] theorem za380 : (tz Try.prog 380).map zAV = [.bool false, .bool false, .int .i64 0, .int .i64 0, .int .i64 0] := by kernel_rfl
@[go_sem] theorem zd380 : zDs (tz Try.prog 380) = some [.bool false, .bool false, .int .i64 0, .int .i64 0, .int .i64 0] := by kernel_rfl
@[go_sem] theorem ti382 : ti Try.prog 382 = .st [(0, 84), (3, 84)] := by kernel_rfl
@[go_sem] theorem ks382 : structKs Try.prog 382 = some [.int .i64, .int .i64, .int .i64, .int .i64, .int .i64, .int .i64] := by kernel_rfl
@[go_sem] theorem sz382 : tsz Try.prog 382 = 6 := by kernel_rfl
@[go_sem] theorem by382 : Try.prog.bytesOf 382 = 48 := by kernel_rfl
@[go_sem] theorem zl382 : (tz Try.prog 382).length = 6 := by kernel_rfl
@[go_sem] theorem za382 : (tz Try.prog 382).map zAV = [.int .i64 0, .int .i64 0, .int .i64 0, .int .i64 0, .int .i64 0, .int .i64 0] := by kernel_rfl
@[go_sem] theorem zd382 : zDs (tz Try.prog 382) = some [.int .i64 0, .int .i64 0, .int .i64 0, .int .i64 0, .int .i64 0, .int .i64 0] := by kernel_rfl
@[go_sem] theorem ti392 : ti Try.prog 392 = .sl 396 := by kernel_rfl
@[go_sem] theorem sz392 : tsz Try.prog 392 = 1 := by kernel_rfl
@[go_sem] theorem by392 : Try.prog.bytesOf 392 = 24 := by kernel_rfl
@[go_sem] theorem zl392 : (tz Try.prog 392).length = 1 := by kernel_rfl
@[go_sem] theorem za392 : (tz Try.prog 392).map zAV = [.nils] := by kernel_rfl
@[go_sem] theorem zd392 : zDs (tz Try.prog 392) = some [.sl []] := by kernel_rfl
@[go_sem] theorem ti394 : ti Try.prog 394 = .st [(0, 2), (1, 2), (2, 2), (3, 22), (4, 392)] := by kernel_rfl
@[go_sem] theorem sz394 : tsz Try.prog 394 = 5 := by kernel_rfl
@[go_sem] theorem by394 : Try.prog.bytesOf 394 = 72 := by kernel_rfl
@[go_sem] theorem zl394 : (tz Try.prog 394).length = 5 := by kernel_rfl
@[go_sem] theorem za394 : (tz Try.prog 394).map zAV = [.int .i64 0, .int .i64 0, .int .i64 0, .nils, .nils] := by kernel_rfl
@[go_sem] theorem zd394 : zDs (tz Try.prog 394) = some [.int .i64 0, .int .i64 0, .int .i64 0, .sl [], .sl []] := by kernel_rfl
@[go_sem] theorem ti396 : ti Try.prog 396 = .st [(0, 2), (1, 2)] := by kernel_rfl
@[go_sem] theorem ks396 : structKs Try.prog 396 = some [.int .i64, .int .i64] := by kernel_rfl
@[go_sem] theorem sz396 : tsz Try.prog 396 = 2 := by kernel_rfl
@[go_sem] theorem by396 : Try.prog.bytesOf 396 = 16 := by kernel_rfl
@[go_sem] theorem zl396 : (tz Try.prog 396).length = 2 := by kernel_rfl
@[go_sem] theorem za396 : (tz Try.prog 396).map zAV = [.int .i64 0, .int .i64 0] := by kernel_rfl
@[go_sem] theorem zd396 : zDs (tz Try.prog 396) = some [.int .i64 0, .int .i64 0] := by kernel_rfl
@[go_sem] theorem ti406 : ti Try.prog 406 = .int .i64 := by kernel_rfl
@[go_sem] theorem sz406 : tsz Try.prog 406 = 1 := by kernel_rfl
@[go_sem] theorem by406 : Try.prog.bytesOf 406 = 8 := by kernel_rfl
@[go_sem] theorem zl406 : (tz Try.prog 406).length = 1 := by kernel_rfl
@[go_sem] theorem za406 : (tz Try.prog 406).map zAV = [.int .i64 0] := by kernel_rfl
@[go_sem] theorem zd406 : zDs (tz Try.prog 406) = some [.int .i64 0] := by kernel_rfl
@[go_sem] theorem ti418 : ti Try.prog 418 = .st [(0, 9), (1, 295)] := by kernel_rfl
@[go_sem] theorem sz418 : tsz Try.prog 418 = 2 := by kernel_rfl
@[go_sem] theorem by418 : Try.prog.bytesOf 418 = 40 := by kernel_rfl
@[go_sem] theorem zl418 : (tz Try.prog 418).length = 2 := by kernel_rfl
@[go_sem] theorem za418 : (tz Try.prog 418).map zAV = [.str ByteArray.empty, .nils] := by kernel_rfl
@[go_sem] theorem zd418 : zDs (tz Try.prog 418) = some [.str ByteArray.empty, .sl []] := by kernel_rfl
@[go_sem] theorem ti438 : ti Try.prog 438 = .sl 471 := by kernel_rfl
@[go_sem] theorem sz438 : tsz Try.prog 438 = 1 := by kernel_rfl
@[go_sem] theorem by438 : Try.prog.bytesOf 438 = 24 := by kernel_rfl
@[go_sem] theorem zl438 : (tz Try.prog 438).length = 1 := by kernel_rfl
@[go_sem] theorem za438 : (tz Try.prog 438).map zAV = [.nils] := by kernel_rfl
@[go_sem] theorem zd438 : zDs (tz Try.prog 438) = some [.sl []] := by kernel_rfl
@[go_sem] theorem ti440 : ti Try.prog 440 = .st [(0, 2), (1, 2), (2, 2), (3, 22), (4, 438)] := by kernel_rfl
@[go_sem] theorem sz440 : tsz Try.prog 440 = 5 := by kernel_rfl
@[go_sem] theorem by440 : Try.prog.bytesOf 440 = 72 := by kernel_rfl
@[go_sem] theorem zl440 : (tz Try.prog 440).length = 5 := by kernel_rfl
@[go_sem] theorem za440 : (tz Try.prog 440).map zAV = [.int .i64 0, .int .i64 0, .int .i64 0, .nils, .nils] := by kernel_rfl
@[go_sem] theorem zd440 : zDs (tz Try.prog 440) = some [.int .i64 0, .int .i64 0, .int .i64 0, .sl [], .sl []] := by kernel_rfl
@[go_sem] theorem ti447 : ti Try.prog 447 = .int .u64 := by kernel_rfl
@[go_sem] theorem sz447 : tsz Try.prog 447 = 1 := by kernel_rfl
@[go_sem] theorem by447 : Try.prog.bytesOf 447 = 8 := by kernel_rfl
@[go_sem] theorem zl447 : (tz Try.prog 447).length = 1 := by kernel_rfl
@[go_sem] theorem za447 : (tz Try.prog 447).map zAV = [.int .u64 0] := by kernel_rfl
@[go_sem] theorem zd447 : zDs (tz Try.prog 447) = some [.int .u64 0] := by kernel_rfl
@[go_sem] theorem ti456 : ti Try.prog 456 = .st [(0, 4), (1, 4), (2, 67)] := by kernel_rfl
@[go_sem] theorem ks456 : structKs Try.prog 456 = some [.bool, .bool, .int .i64, .int .i64, .int .i64] := by kernel_rfl
@[go_sem] theorem sz456 : tsz Try.prog 456 = 5 := by kernel_rfl
@[go_sem] theorem by456 : Try.prog.bytesOf 456 = 32 := by kernel_rfl
@[go_sem] theorem zl456 : (tz Try.prog 456).length = 5 := by kernel_rfl
@[go_sem] theorem za456 : (tz Try.prog 456).map zAV = [.bool false, .bool false, .int .i64 0, .int .i64 0, .int .i64 0] := by kernel_rfl
@[go_sem] theorem zd456 : zDs (tz Try.prog 456) = some [.bool false, .bool false, .int .i64 0, .int .i64 0, .int .i64 0] := by kernel_rfl
@[go_sem] theorem ti459 : ti Try.prog 459 = .st [(0, 67), (3, 67)] := by kernel_rfl
@[go_sem] theorem ks459 : structKs Try.prog 459 = some [.int .i64, .int .i64, .int .i64, .int .i64, .int .i64, .int .i64] := by kernel_rfl
@[go_sem] theorem sz459 : tsz Try.prog 459 = 6 := by kernel_rfl
@[go_sem] theorem by459 : Try.prog.bytesOf 459 = 48 := by kernel_rfl
@[go_sem] theorem zl459 : (tz Try.prog 459).length = 6 := by kernel_rfl
@[go_sem] theorem za459 : (tz Try.prog 459).map zAV = [.int .i64 0, .int .i64 0, .int .i64 0, .int .i64 0, .int .i64 0, .int .i64 0] := by kernel_rfl
@[go_sem] theorem zd459 : zDs (tz Try.prog 459) = some [.int .i64 0, .int .i64 0, .int .i64 0, .int .i64 0, .int .i64 0, .int .i64 0] := by kernel_rfl
@[go_sem] theorem ti471 : ti Try.prog 471 = .st [(0, 2), (1, 2)] := by kernel_rfl
@[go_sem] theorem ks471 : structKs Try.prog 471 = some [.int .i64, .int .i64] := by kernel_rfl
@[go_sem] theorem sz471 : tsz Try.prog 471 = 2 := by kernel_rfl
@[go_sem] theorem by471 : Try.prog.bytesOf 471 = 16 := by kernel_rfl
@[go_sem] theorem zl471 : (tz Try.prog 471).length = 2 := by kernel_rfl
@[go_sem] theorem za471 : (tz Try.prog 471).map zAV = [.int .i64 0, .int .i64 0] := by kernel_rfl
@[go_sem] theorem zd471 : zDs (tz Try.prog 471) = some [.int .i64 0, .int .i64 0] := by kernel_rfl
@[go_sem] theorem ti472 : ti Try.prog 472 = .arr 13 2 := by kernel_rfl
@[go_sem] theorem sz472 : tsz Try.prog 472 = 13 := by kernel_rfl
@[go_sem] theorem by472 : Try.prog.bytesOf 472 = 104 := by kernel_rfl
@[go_sem] theorem zl472 : (tz Try.prog 472).length = 13 := by kernel_rfl
@[go_sem] theorem za472 : (tz Try.prog 472).map zAV = [.int .i64 0, .int .i64 0, .int .i64 0, .int .i64 0, .int .i64 0, .int .i64 0, .int .i64 0, .int .i64 0, .int .i64 0, .int .i64 0, .int .i64 0, .int .i64 0, .int .i64 0] := by kernel_rfl
@[go_sem] theorem zd472 : zDs (tz Try.prog 472) = some [.int .i64 0, .int .i64 0, .int .i64 0, .int .i64 0, .int .i64 0, .int .i64 0, .int .i64 0, .int .i64 0, .int .i64 0, .int .i64 0, .int .i64 0, .int .i64 0, .int .i64 0] := by kernel_rfl
theorem mixed : Try.prog.follows .mixedOrders = true := Try.checked.mixed
attribute [go_sem] Nat.reduceAdd Nat.reduceMul reduceIte Nat.reduceEqDiff Nat.reduceLeDiff Nat.reduceLT
end Go.Proofs.Ytffokcfdkkikmaa.Ab
