/-
  What the walk asks of each type. Printed by wip/ab/gen_ti.py.
-/
import Derived.Test.YtckcfdggbbabfaaGreatRows
import Derived.Test.YtckcfdggbbabfaaGreatAbC
namespace Go.Proofs.YtckcfdggbbabfaaGreat.Ab
open Go.RowKit
@[go_sem] theorem ti2 : ti Tryz.prog 2 = .int .i64 := by kernel_rfl
@[go_sem] theorem sz2 : tsz Tryz.prog 2 = 1 := by kernel_rfl
@[go_sem] theorem by2 : Tryz.prog.bytesOf 2 = 8 := by kernel_rfl
@[go_sem] theorem zl2 : (tz Tryz.prog 2).length = 1 := by kernel_rfl
@[go_sem] theorem za2 : (tz Tryz.prog 2).map zAV = [.int .i64 0] := by kernel_rfl
@[go_sem] theorem zd2 : zDs (tz Tryz.prog 2) = some [.int .i64 0] := by kernel_rfl
@[go_sem] theorem ti3 : ti Tryz.prog 3 = .int .i64 := by kernel_rfl
@[go_sem] theorem sz3 : tsz Tryz.prog 3 = 1 := by kernel_rfl
@[go_sem] theorem by3 : Tryz.prog.bytesOf 3 = 8 := by kernel_rfl
@[go_sem] theorem zl3 : (tz Tryz.prog 3).length = 1 := by kernel_rfl
@[go_sem] theorem za3 : (tz Tryz.prog 3).map zAV = [.int .i64 0] := by kernel_rfl
@[go_sem] theorem zd3 : zDs (tz Tryz.prog 3) = some [.int .i64 0] := by kernel_rfl
@[go_sem] theorem ti4 : ti Tryz.prog 4 = .bool := by kernel_rfl
@[go_sem] theorem sz4 : tsz Tryz.prog 4 = 1 := by kernel_rfl
@[go_sem] theorem by4 : Tryz.prog.bytesOf 4 = 1 := by kernel_rfl
@[go_sem] theorem zl4 : (tz Tryz.prog 4).length = 1 := by kernel_rfl
@[go_sem] theorem za4 : (tz Tryz.prog 4).map zAV = [.bool false] := by kernel_rfl
@[go_sem] theorem zd4 : zDs (tz Tryz.prog 4) = some [.bool false] := by kernel_rfl
@[go_sem] theorem ti21 : ti Tryz.prog 21 = .int .i32 := by kernel_rfl
@[go_sem] theorem sz21 : tsz Tryz.prog 21 = 1 := by kernel_rfl
@[go_sem] theorem by21 : Tryz.prog.bytesOf 21 = 4 := by kernel_rfl
@[go_sem] theorem zl21 : (tz Tryz.prog 21).length = 1 := by kernel_rfl
@[go_sem] theorem za21 : (tz Tryz.prog 21).map zAV = [.int .i32 0] := by kernel_rfl
@[go_sem] theorem zd21 : zDs (tz Tryz.prog 21) = some [.int .i32 0] := by kernel_rfl
@[go_sem] theorem ti22 : ti Tryz.prog 22 = .sl 147 := by kernel_rfl
@[go_sem] theorem sz22 : tsz Tryz.prog 22 = 1 := by kernel_rfl
@[go_sem] theorem by22 : Tryz.prog.bytesOf 22 = 24 := by kernel_rfl
@[go_sem] theorem zl22 : (tz Tryz.prog 22).length = 1 := by kernel_rfl
@[go_sem] theorem za22 : (tz Tryz.prog 22).map zAV = [.nils] := by kernel_rfl
@[go_sem] theorem zd22 : zDs (tz Tryz.prog 22) = some [.sl []] := by kernel_rfl
@[go_sem] theorem ti24 : ti Tryz.prog 24 = .st [(0, 2), (1, 2), (2, 2), (3, 22)] := by kernel_rfl
@[go_sem] theorem sz24 : tsz Tryz.prog 24 = 4 := by kernel_rfl
@[go_sem] theorem by24 : Tryz.prog.bytesOf 24 = 48 := by kernel_rfl
@[go_sem] theorem zl24 : (tz Tryz.prog 24).length = 4 := by kernel_rfl
@[go_sem] theorem za24 : (tz Tryz.prog 24).map zAV = [.int .i64 0, .int .i64 0, .int .i64 0, .nils] := by kernel_rfl
@[go_sem] theorem zd24 : zDs (tz Tryz.prog 24) = some [.int .i64 0, .int .i64 0, .int .i64 0, .sl []] := by kernel_rfl
@[go_sem] theorem ti25 : ti Tryz.prog 25 = .sl 28 := by kernel_rfl
@[go_sem] theorem sz25 : tsz Tryz.prog 25 = 1 := by kernel_rfl
@[go_sem] theorem by25 : Tryz.prog.bytesOf 25 = 24 := by kernel_rfl
@[go_sem] theorem zl25 : (tz Tryz.prog 25).length = 1 := by kernel_rfl
@[go_sem] theorem za25 : (tz Tryz.prog 25).map zAV = [.nils] := by kernel_rfl
@[go_sem] theorem zd25 : zDs (tz Tryz.prog 25) = some [.sl []] := by kernel_rfl
@[go_sem] theorem ti26 : ti Tryz.prog 26 = .sl 151 := by kernel_rfl
@[go_sem] theorem sz26 : tsz Tryz.prog 26 = 1 := by kernel_rfl
@[go_sem] theorem by26 : Tryz.prog.bytesOf 26 = 24 := by kernel_rfl
@[go_sem] theorem zl26 : (tz Tryz.prog 26).length = 1 := by kernel_rfl
@[go_sem] theorem za26 : (tz Tryz.prog 26).map zAV = [.nils] := by kernel_rfl
@[go_sem] theorem zd26 : zDs (tz Tryz.prog 26) = some [.sl []] := by kernel_rfl
@[go_sem] theorem ti28 : ti Tryz.prog 28 = .st [(0, 26)] := by kernel_rfl
@[go_sem] theorem sz28 : tsz Tryz.prog 28 = 1 := by kernel_rfl
@[go_sem] theorem by28 : Tryz.prog.bytesOf 28 = 24 := by kernel_rfl
@[go_sem] theorem zl28 : (tz Tryz.prog 28).length = 1 := by kernel_rfl
@[go_sem] theorem za28 : (tz Tryz.prog 28).map zAV = [.nils] := by kernel_rfl
@[go_sem] theorem zd28 : zDs (tz Tryz.prog 28) = some [.sl []] := by kernel_rfl
@[go_sem] theorem ti29 : ti Tryz.prog 29 = .sl 2 := by kernel_rfl
@[go_sem] theorem sz29 : tsz Tryz.prog 29 = 1 := by kernel_rfl
@[go_sem] theorem by29 : Tryz.prog.bytesOf 29 = 24 := by kernel_rfl
@[go_sem] theorem zl29 : (tz Tryz.prog 29).length = 1 := by kernel_rfl
@[go_sem] theorem za29 : (tz Tryz.prog 29).map zAV = [.nils] := by kernel_rfl
@[go_sem] theorem zd29 : zDs (tz Tryz.prog 29) = some [.sl []] := by kernel_rfl
@[go_sem] theorem ti33 : ti Tryz.prog 33 = .sl 92 := by kernel_rfl
@[go_sem] theorem sz33 : tsz Tryz.prog 33 = 1 := by kernel_rfl
@[go_sem] theorem by33 : Tryz.prog.bytesOf 33 = 24 := by kernel_rfl
@[go_sem] theorem zl33 : (tz Tryz.prog 33).length = 1 := by kernel_rfl
@[go_sem] theorem za33 : (tz Tryz.prog 33).map zAV = [.nils] := by kernel_rfl
@[go_sem] theorem zd33 : zDs (tz Tryz.prog 33) = some [.sl []] := by kernel_rfl
@[go_sem] theorem ti35 : ti Tryz.prog 35 = .st [(0, 2), (1, 2), (2, 2), (3, 33)] := by kernel_rfl
@[go_sem] theorem sz35 : tsz Tryz.prog 35 = 4 := by kernel_rfl
@[go_sem] theorem by35 : Tryz.prog.bytesOf 35 = 48 := by kernel_rfl
@[go_sem] theorem zl35 : (tz Tryz.prog 35).length = 4 := by kernel_rfl
@[go_sem] theorem za35 : (tz Tryz.prog 35).map zAV = [.int .i64 0, .int .i64 0, .int .i64 0, .nils] := by kernel_rfl
@[go_sem] theorem zd35 : zDs (tz Tryz.prog 35) = some [.int .i64 0, .int .i64 0, .int .i64 0, .sl []] := by kernel_rfl
@[go_sem] theorem ti39 : ti Tryz.prog 39 = .sl 43 := by kernel_rfl
@[go_sem] theorem sz39 : tsz Tryz.prog 39 = 1 := by kernel_rfl
@[go_sem] theorem by39 : Tryz.prog.bytesOf 39 = 24 := by kernel_rfl
@[go_sem] theorem zl39 : (tz Tryz.prog 39).length = 1 := by kernel_rfl
@[go_sem] theorem za39 : (tz Tryz.prog 39).map zAV = [.nils] := by kernel_rfl
@[go_sem] theorem zd39 : zDs (tz Tryz.prog 39) = some [.sl []] := by kernel_rfl
@[go_sem] theorem ti41 : ti Tryz.prog 41 = .sl 133 := by kernel_rfl
@[go_sem] theorem sz41 : tsz Tryz.prog 41 = 1 := by kernel_rfl
@[go_sem] theorem by41 : Tryz.prog.bytesOf 41 = 24 := by kernel_rfl
@[go_sem] theorem zl41 : (tz Tryz.prog 41).length = 1 := by kernel_rfl
@[go_sem] theorem za41 : (tz Tryz.prog 41).map zAV = [.nils] := by kernel_rfl
@[go_sem] theorem zd41 : zDs (tz Tryz.prog 41) = some [.sl []] := by kernel_rfl
@[go_sem] theorem ti43 : ti Tryz.prog 43 = .st [(0, 41)] := by kernel_rfl
@[go_sem] theorem sz43 : tsz Tryz.prog 43 = 1 := by kernel_rfl
@[go_sem] theorem by43 : Tryz.prog.bytesOf 43 = 24 := by kernel_rfl
@[go_sem] theorem zl43 : (tz Tryz.prog 43).length = 1 := by kernel_rfl
@[go_sem] theorem za43 : (tz Tryz.prog 43).map zAV = [.nils] := by kernel_rfl
@[go_sem] theorem zd43 : zDs (tz Tryz.prog 43) = some [.sl []] := by kernel_rfl
@[go_sem] theorem ti68 : ti Tryz.prog 68 = .sl 29 := by kernel_rfl
@[go_sem] theorem sz68 : tsz Tryz.prog 68 = 1 := by kernel_rfl
@[go_sem] theorem by68 : Tryz.prog.bytesOf 68 = 24 := by kernel_rfl
@[go_sem] theorem zl68 : (tz Tryz.prog 68).length = 1 := by kernel_rfl
@[go_sem] theorem za68 : (tz Tryz.prog 68).map zAV = [.nils] := by kernel_rfl
@[go_sem] theorem zd68 : zDs (tz Tryz.prog 68) = some [.sl []] := by kernel_rfl
@[go_sem] theorem ti73 : ti Tryz.prog 73 = .sl 4 := by kernel_rfl
@[go_sem] theorem sz73 : tsz Tryz.prog 73 = 1 := by kernel_rfl
@[go_sem] theorem by73 : Tryz.prog.bytesOf 73 = 24 := by kernel_rfl
@[go_sem] theorem zl73 : (tz Tryz.prog 73).length = 1 := by kernel_rfl
@[go_sem] theorem za73 : (tz Tryz.prog 73).map zAV = [.nils] := by kernel_rfl
@[go_sem] theorem zd73 : zDs (tz Tryz.prog 73) = some [.sl []] := by kernel_rfl
@[go_sem] theorem ti92 : ti Tryz.prog 92 = .st [(0, 2), (1, 2), (2, 2), (3, 2), (4, 2), (5, 2), (6, 29), (7, 29), (8, 39), (9, 43)] := by kernel_rfl
@[go_sem] theorem sz92 : tsz Tryz.prog 92 = 10 := by kernel_rfl
@[go_sem] theorem by92 : Tryz.prog.bytesOf 92 = 144 := by kernel_rfl
@[go_sem] theorem zl92 : (tz Tryz.prog 92).length = 10 := by kernel_rfl
@[go_sem] theorem za92 : (tz Tryz.prog 92).map zAV = [.int .i64 0, .int .i64 0, .int .i64 0, .int .i64 0, .int .i64 0, .int .i64 0, .nils, .nils, .nils, .nils] := by kernel_rfl
@[go_sem] theorem zd92 : zDs (tz Tryz.prog 92) = some [.int .i64 0, .int .i64 0, .int .i64 0, .int .i64 0, .int .i64 0, .int .i64 0, .sl [], .sl [], .sl [], .sl []] := by kernel_rfl
@[go_sem] theorem ti109 : ti Tryz.prog 109 = .st [(0, 2), (1, 2)] := by kernel_rfl
@[go_sem] theorem ks109 : structKs Tryz.prog 109 = some [.int .i64, .int .i64] := by kernel_rfl
@[go_sem] theorem sz109 : tsz Tryz.prog 109 = 2 := by kernel_rfl
@[go_sem] theorem by109 : Tryz.prog.bytesOf 109 = 16 := by kernel_rfl
@[go_sem] theorem zl109 : (tz Tryz.prog 109).length = 2 := by kernel_rfl
@[go_sem] theorem za109 : (tz Tryz.prog 109).map zAV = [.int .i64 0, .int .i64 0] := by kernel_rfl
@[go_sem] theorem zd109 : zDs (tz Tryz.prog 109) = some [.int .i64 0, .int .i64 0] := by kernel_rfl
@[go_sem] theorem ti116 : ti Tryz.prog 116 = .ptr 140 := by kernel_rfl
@[go_sem] theorem sz116 : tsz Tryz.prog 116 = 1 := by kernel_rfl
@[go_sem] theorem by116 : Tryz.prog.bytesOf 116 = 8 := by kernel_rfl
@[go_sem] theorem zl116 : (tz Tryz.prog 116).length = 1 := by kernel_rfl
@[go_sem] theorem za116 : (tz Tryz.prog 116).map zAV = [.nilp] := by kernel_rfl
@[go_sem] theorem ti121 : ti Tryz.prog 121 = .sl 109 := by kernel_rfl
@[go_sem] theorem sz121 : tsz Tryz.prog 121 = 1 := by kernel_rfl
@[go_sem] theorem by121 : Tryz.prog.bytesOf 121 = 24 := by kernel_rfl
@[go_sem] theorem zl121 : (tz Tryz.prog 121).length = 1 := by kernel_rfl
@[go_sem] theorem za121 : (tz Tryz.prog 121).map zAV = [.nils] := by kernel_rfl
@[go_sem] theorem zd121 : zDs (tz Tryz.prog 121) = some [.sl []] := by kernel_rfl
@[go_sem] theorem ti131 : ti Tryz.prog 131 = .sl 173 := by kernel_rfl
@[go_sem] theorem sz131 : tsz Tryz.prog 131 = 1 := by kernel_rfl
@[go_sem] theorem by131 : Tryz.prog.bytesOf 131 = 24 := by kernel_rfl
@[go_sem] theorem zl131 : (tz Tryz.prog 131).length = 1 := by kernel_rfl
@[go_sem] theorem za131 : (tz Tryz.prog 131).map zAV = [.nils] := by kernel_rfl
@[go_sem] theorem zd131 : zDs (tz Tryz.prog 131) = some [.sl []] := by kernel_rfl
@[go_sem] theorem ti133 : ti Tryz.prog 133 = .st [(0, 2), (1, 2), (2, 2), (3, 29), (4, 131)] := by kernel_rfl
@[go_sem] theorem sz133 : tsz Tryz.prog 133 = 5 := by kernel_rfl
@[go_sem] theorem by133 : Tryz.prog.bytesOf 133 = 72 := by kernel_rfl
@[go_sem] theorem zl133 : (tz Tryz.prog 133).length = 5 := by kernel_rfl
@[go_sem] theorem za133 : (tz Tryz.prog 133).map zAV = [.int .i64 0, .int .i64 0, .int .i64 0, .nils, .nils] := by kernel_rfl
@[go_sem] theorem zd133 : zDs (tz Tryz.prog 133) = some [.int .i64 0, .int .i64 0, .int .i64 0, .sl [], .sl []] := by kernel_rfl
@[go_sem] theorem ti138 : ti Tryz.prog 138 = .map 2 4 := by kernel_rfl
@[go_sem] theorem mk138 : mapKt Tryz.prog 138 = some (.int .i64) := by kernel_rfl
@[go_sem] theorem kt2 : ktOf Tryz.prog 2 = some (.int .i64) := by kernel_rfl
@[go_sem] theorem zz4 : tz1 Tryz.prog 4 = some (.bool false) := by kernel_rfl
@[go_sem] theorem zav3 : zAV (.bool false) = .bool false := rfl
@[go_sem] theorem sz138 : tsz Tryz.prog 138 = 1 := by kernel_rfl
@[go_sem] theorem by138 : Tryz.prog.bytesOf 138 = 8 := by kernel_rfl
@[go_sem] theorem zl138 : (tz Tryz.prog 138).length = 1 := by kernel_rfl
@[go_sem] theorem za138 : (tz Tryz.prog 138).map zAV = [.any] := by kernel_rfl
@[go_sem] theorem ti140 : ti Tryz.prog 140 = .st [(0, 43), (1, 39), (2, 138)] := by kernel_rfl
@[go_sem] theorem sz140 : tsz Tryz.prog 140 = 3 := by kernel_rfl
@[go_sem] theorem by140 : Tryz.prog.bytesOf 140 = 56 := by kernel_rfl
@[go_sem] theorem zl140 : (tz Tryz.prog 140).length = 3 := by kernel_rfl
@[go_sem] theorem za140 : (tz Tryz.prog 140).map zAV = [.nils, .nils, .any] := by kernel_rfl
@[go_sem] theorem ti147 : ti Tryz.prog 147 = .st [(0, 2), (1, 2), (2, 2), (3, 2), (4, 2), (5, 2), (6, 29), (7, 29), (8, 25), (9, 28)] := by kernel_rfl
@[go_sem] theorem sz147 : tsz Tryz.prog 147 = 10 := by kernel_rfl
@[go_sem] theorem by147 : Tryz.prog.bytesOf 147 = 144 := by kernel_rfl
@[go_sem] theorem zl147 : (tz Tryz.prog 147).length = 10 := by kernel_rfl
@[go_sem] theorem za147 : (tz Tryz.prog 147).map zAV = [.int .i64 0, .int .i64 0, .int .i64 0, .int .i64 0, .int .i64 0, .int .i64 0, .nils, .nils, .nils, .nils] := by kernel_rfl
@[go_sem] theorem zd147 : zDs (tz Tryz.prog 147) = some [.int .i64 0, .int .i64 0, .int .i64 0, .int .i64 0, .int .i64 0, .int .i64 0, .sl [], .sl [], .sl [], .sl []] := by kernel_rfl
@[go_sem] theorem ti149 : ti Tryz.prog 149 = .sl 243 := by kernel_rfl
@[go_sem] theorem sz149 : tsz Tryz.prog 149 = 1 := by kernel_rfl
@[go_sem] theorem by149 : Tryz.prog.bytesOf 149 = 24 := by kernel_rfl
@[go_sem] theorem zl149 : (tz Tryz.prog 149).length = 1 := by kernel_rfl
@[go_sem] theorem za149 : (tz Tryz.prog 149).map zAV = [.nils] := by kernel_rfl
@[go_sem] theorem zd149 : zDs (tz Tryz.prog 149) = some [.sl []] := by kernel_rfl
@[go_sem] theorem ti151 : ti Tryz.prog 151 = .st [(0, 2), (1, 2), (2, 2), (3, 29), (4, 149)] := by kernel_rfl
@[go_sem] theorem sz151 : tsz Tryz.prog 151 = 5 := by kernel_rfl
@[go_sem] theorem by151 : Tryz.prog.bytesOf 151 = 72 := by kernel_rfl
@[go_sem] theorem zl151 : (tz Tryz.prog 151).length = 5 := by kernel_rfl
@[go_sem] theorem za151 : (tz Tryz.prog 151).map zAV = [.int .i64 0, .int .i64 0, .int .i64 0, .nils, .nils] := by kernel_rfl
@[go_sem] theorem zd151 : zDs (tz Tryz.prog 151) = some [.int .i64 0, .int .i64 0, .int .i64 0, .sl [], .sl []] := by kernel_rfl
@[go_sem] theorem ti173 : ti Tryz.prog 173 = .st [(0, 2), (1, 2)] := by kernel_rfl
@[go_sem] theorem ks173 : structKs Tryz.prog 173 = some [.int .i64, .int .i64] := by kernel_rfl
@[go_sem] theorem sz173 : tsz Tryz.prog 173 = 2 := by kernel_rfl
@[go_sem] theorem by173 : Tryz.prog.bytesOf 173 = 16 := by kernel_rfl
@[go_sem] theorem zl173 : (tz Tryz.prog 173).length = 2 := by kernel_rfl
@[go_sem] theorem za173 : (tz Tryz.prog 173).map zAV = [.int .i64 0, .int .i64 0] := by kernel_rfl
@[go_sem] theorem zd173 : zDs (tz Tryz.prog 173) = some [.int .i64 0, .int .i64 0] := by kernel_rfl
@[go_sem] theorem ti196 : ti Tryz.prog 196 = .st [(0, 43), (1, 29), (2, 2)] := by kernel_rfl
@[go_sem] theorem sz196 : tsz Tryz.prog 196 = 3 := by kernel_rfl
@[go_sem] theorem by196 : Tryz.prog.bytesOf 196 = 56 := by kernel_rfl
@[go_sem] theorem zl196 : (tz Tryz.prog 196).length = 3 := by kernel_rfl
@[go_sem] theorem za196 : (tz Tryz.prog 196).map zAV = [.nils, .nils, .int .i64 0] := by kernel_rfl
@[go_sem] theorem zd196 : zDs (tz Tryz.prog 196) = some [.sl [], .sl [], .int .i64 0] := by kernel_rfl
@[go_sem] theorem ti201 : ti Tryz.prog 201 = .sl 233 := by kernel_rfl
@[go_sem] theorem sz201 : tsz Tryz.prog 201 = 1 := by kernel_rfl
@[go_sem] theorem by201 : Tryz.prog.bytesOf 201 = 24 := by kernel_rfl
@[go_sem] theorem zl201 : (tz Tryz.prog 201).length = 1 := by kernel_rfl
@[go_sem] theorem za201 : (tz Tryz.prog 201).map zAV = [.nils] := by kernel_rfl
@[go_sem] theorem zd201 : zDs (tz Tryz.prog 201) = some [.sl []] := by kernel_rfl
@[go_sem] theorem ti220 : ti Tryz.prog 220 = .st [(0, 116), (1, 29), (2, 29), (3, 29), (4, 29)] := by kernel_rfl
@[go_sem] theorem sz220 : tsz Tryz.prog 220 = 5 := by kernel_rfl
@[go_sem] theorem by220 : Tryz.prog.bytesOf 220 = 104 := by kernel_rfl
@[go_sem] theorem zl220 : (tz Tryz.prog 220).length = 5 := by kernel_rfl
@[go_sem] theorem za220 : (tz Tryz.prog 220).map zAV = [.nilp, .nils, .nils, .nils, .nils] := by kernel_rfl
@[go_sem] theorem ti227 : ti Tryz.prog 227 = .map 2 2 := by kernel_rfl
@[go_sem] theorem mk227 : mapKt Tryz.prog 227 = some (.int .i64) := by kernel_rfl
@[go_sem] theorem zz2 : tz1 Tryz.prog 2 = some (.int .i64 0) := by kernel_rfl
@[go_sem] theorem zav5 : zAV (.int .i64 0) = .int .i64 0 := rfl
@[go_sem] theorem sz227 : tsz Tryz.prog 227 = 1 := by kernel_rfl
@[go_sem] theorem by227 : Tryz.prog.bytesOf 227 = 8 := by kernel_rfl
@[go_sem] theorem zl227 : (tz Tryz.prog 227).length = 1 := by kernel_rfl
@[go_sem] theorem za227 : (tz Tryz.prog 227).map zAV = [.any] := by kernel_rfl
@[go_sem] theorem ti233 : ti Tryz.prog 233 = .st [(0, 173), (2, 173)] := by kernel_rfl
@[go_sem] theorem ks233 : structKs Tryz.prog 233 = some [.int .i64, .int .i64, .int .i64, .int .i64] := by kernel_rfl
@[go_sem] theorem sz233 : tsz Tryz.prog 233 = 4 := by kernel_rfl
@[go_sem] theorem by233 : Tryz.prog.bytesOf 233 = 32 := by kernel_rfl
@[go_sem] theorem zl233 : (tz Tryz.prog 233).length = 4 := by kernel_rfl
@[go_sem] theorem za233 : (tz Tryz.prog 233).map zAV = [.int .i64 0, .int .i64 0, .int .i64 0, .int .i64 0] := by kernel_rfl
@[go_sem] theorem zd233 : zDs (tz Tryz.prog 233) = some [.int .i64 0, .int .i64 0, .int .i64 0, .int .i64 0] := by kernel_rfl
@[go_sem] theorem ti243 : ti Tryz.prog 243 = .st [(0, 2), (1, 2)] := by kernel_rfl
@[go_sem] theorem ks243 : structKs Tryz.prog 243 = some [.int .i64, .int .i64] := by kernel_rfl
@[go_sem] theorem sz243 : tsz Tryz.prog 243 = 2 := by kernel_rfl
@[go_sem] theorem by243 : Tryz.prog.bytesOf 243 = 16 := by kernel_rfl
@[go_sem] theorem zl243 : (tz Tryz.prog 243).length = 2 := by kernel_rfl
@[go_sem] theorem za243 : (tz Tryz.prog 243).map zAV = [.int .i64 0, .int .i64 0] := by kernel_rfl
@[go_sem] theorem zd243 : zDs (tz Tryz.prog 243) = some [.int .i64 0, .int .i64 0] := by kernel_rfl
@[go_sem] theorem ti251 : ti Tryz.prog 251 = .int .u32 := by kernel_rfl
@[go_sem] theorem sz251 : tsz Tryz.prog 251 = 1 := by kernel_rfl
@[go_sem] theorem by251 : Tryz.prog.bytesOf 251 = 4 := by kernel_rfl
@[go_sem] theorem zl251 : (tz Tryz.prog 251).length = 1 := by kernel_rfl
@[go_sem] theorem za251 : (tz Tryz.prog 251).map zAV = [.int .u32 0] := by kernel_rfl
@[go_sem] theorem zd251 : zDs (tz Tryz.prog 251) = some [.int .u32 0] := by kernel_rfl
@[go_sem] theorem ti252 : ti Tryz.prog 252 = .int .u64 := by kernel_rfl
@[go_sem] theorem sz252 : tsz Tryz.prog 252 = 1 := by kernel_rfl
@[go_sem] theorem by252 : Tryz.prog.bytesOf 252 = 8 := by kernel_rfl
@[go_sem] theorem zl252 : (tz Tryz.prog 252).length = 1 := by kernel_rfl
@[go_sem] theorem za252 : (tz Tryz.prog 252).map zAV = [.int .u64 0] := by kernel_rfl
@[go_sem] theorem zd252 : zDs (tz Tryz.prog 252) = some [.int .u64 0] := by kernel_rfl
@[go_sem] theorem ti253 : ti Tryz.prog 253 = .arr 13 2 := by kernel_rfl
@[go_sem] theorem sz253 : tsz Tryz.prog 253 = 13 := by kernel_rfl
@[go_sem] theorem by253 : Tryz.prog.bytesOf 253 = 104 := by kernel_rfl
@[go_sem] theorem zl253 : (tz Tryz.prog 253).length = 13 := by kernel_rfl
@[go_sem] theorem za253 : (tz Tryz.prog 253).map zAV = [.int .i64 0, .int .i64 0, .int .i64 0, .int .i64 0, .int .i64 0, .int .i64 0, .int .i64 0, .int .i64 0, .int .i64 0, .int .i64 0, .int .i64 0, .int .i64 0, .int .i64 0] := by kernel_rfl
@[go_sem] theorem zd253 : zDs (tz Tryz.prog 253) = some [.int .i64 0, .int .i64 0, .int .i64 0, .int .i64 0, .int .i64 0, .int .i64 0, .int .i64 0, .int .i64 0, .int .i64 0, .int .i64 0, .int .i64 0, .int .i64 0, .int .i64 0] := by kernel_rfl
theorem mixed : Tryz.prog.follows .mixedOrders = true := Tryz.checked.mixed
attribute [go_sem] Nat.reduceAdd Nat.reduceMul reduceIte Nat.reduceEqDiff Nat.reduceLeDiff Nat.reduceLT
end Go.Proofs.YtckcfdggbbabfaaGreat.Ab
