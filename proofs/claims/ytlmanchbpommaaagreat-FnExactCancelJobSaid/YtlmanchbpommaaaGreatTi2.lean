/-
  What the walk asks of each type. Printed by wip/ab/gen_ti.py.
-/
import Derived.Test.YtlmanchbpommaaaGreatRows
import Derived.Test.YtlmanchbpommaaaGreatAbC
namespace Go.Proofs.YtlmanchbpommaaaGreat.Ab
open Go.RowKit

@[go_sem] theorem ti2 : ti Tryz.prog 2 = .int .i64 := by kernel_rfl
@[go_sem] theorem sz2 : tsz Tryz.prog 2 = 1 := by kernel_rfl
@[go_sem] theorem by2 : Tryz.prog.bytesOf 2 = 8 := by kernel_rfl
@[go_sem] theorem zl2 : (tz Tryz.prog 2).length = 1 := by kernel_rfl
@[go_sem] theorem za2 : (tz Tryz.prog 2).map zAV = [.int .i64 0] := by kernel_rfl
@[go_sem] theorem zd2 : zDs (tz Tryz.prog 2) = some [.int .i64 0] := by kernel_rfl
@[go_sem] theorem ti3 : ti Tryz.prog 3 = .int .i64 := by kernel_rfl
@[go_sem] theorem sz3 : tsz Tryz.prog 3 = 1 := by kernel_rfl
@[go_sem] theorem by3 : Tryz.prog.bytesOf 3 = 8 := by kernel_rfl
@[go_sem] theorem zl3 : (tz Tryz.prog 3).length = 1 := by kernel_rfl
@[go_sem] theorem za3 : (tz Tryz.prog 3).map zAV = [.int .i64 0] := by kernel_rfl
@[go_sem] theorem zd3 : zDs (tz Tryz.prog 3) = some [.int .i64 0] := by kernel_rfl
@[go_sem] theorem ti4 : ti Tryz.prog 4 = .bool := by kernel_rfl
@[go_sem] theorem sz4 : tsz Tryz.prog 4 = 1 := by kernel_rfl
@[go_sem] theorem by4 : Tryz.prog.bytesOf 4 = 1 := by kernel_rfl
@[go_sem] theorem zl4 : (tz Tryz.prog 4).length = 1 := by kernel_rfl
@[go_sem] theorem za4 : (tz Tryz.prog 4).map zAV = [.bool false] := by kernel_rfl
@[go_sem] theorem zd4 : zDs (tz Tryz.prog 4) = some [.bool false] := by kernel_rfl
@[go_sem] theorem ti21 : ti Tryz.prog 21 = .int .i32 := by kernel_rfl
@[go_sem] theorem sz21 : tsz Tryz.prog 21 = 1 := by kernel_rfl
@[go_sem] theorem by21 : Tryz.prog.bytesOf 21 = 4 := by kernel_rfl
@[go_sem] theorem zl21 : (tz Tryz.prog 21).length = 1 := by kernel_rfl
@[go_sem] theorem za21 : (tz Tryz.prog 21).map zAV = [.int .i32 0] := by kernel_rfl
@[go_sem] theorem zd21 : zDs (tz Tryz.prog 21) = some [.int .i32 0] := by kernel_rfl
@[go_sem] theorem ti22 : ti Tryz.prog 22 = .sl 188 := by kernel_rfl
@[go_sem] theorem sz22 : tsz Tryz.prog 22 = 1 := by kernel_rfl
@[go_sem] theorem by22 : Tryz.prog.bytesOf 22 = 24 := by kernel_rfl
@[go_sem] theorem zl22 : (tz Tryz.prog 22).length = 1 := by kernel_rfl
@[go_sem] theorem za22 : (tz Tryz.prog 22).map zAV = [.nils] := by kernel_rfl
@[go_sem] theorem zd22 : zDs (tz Tryz.prog 22) = some [.sl []] := by kernel_rfl
@[go_sem] theorem ti24 : ti Tryz.prog 24 = .st [(0, 2), (1, 2), (2, 2), (3, 22)] := by kernel_rfl
@[go_sem] theorem sz24 : tsz Tryz.prog 24 = 4 := by kernel_rfl
@[go_sem] theorem by24 : Tryz.prog.bytesOf 24 = 48 := by kernel_rfl
@[go_sem] theorem zl24 : (tz Tryz.prog 24).length = 4 := by kernel_rfl
@[go_sem] theorem za24 : (tz Tryz.prog 24).map zAV = [.int .i64 0, .int .i64 0, .int .i64 0, .nils] := by kernel_rfl
@[go_sem] theorem zd24 : zDs (tz Tryz.prog 24) = some [.int .i64 0, .int .i64 0, .int .i64 0, .sl []] := by kernel_rfl
@[go_sem] theorem ti26 : ti Tryz.prog 26 = .sl 2 := by kernel_rfl
@[go_sem] theorem sz26 : tsz Tryz.prog 26 = 1 := by kernel_rfl
@[go_sem] theorem by26 : Tryz.prog.bytesOf 26 = 24 := by kernel_rfl
@[go_sem] theorem zl26 : (tz Tryz.prog 26).length = 1 := by kernel_rfl
@[go_sem] theorem za26 : (tz Tryz.prog 26).map zAV = [.nils] := by kernel_rfl
@[go_sem] theorem zd26 : zDs (tz Tryz.prog 26) = some [.sl []] := by kernel_rfl
@[go_sem] theorem ti27 : ti Tryz.prog 27 = .sl 30 := by kernel_rfl
@[go_sem] theorem sz27 : tsz Tryz.prog 27 = 1 := by kernel_rfl
@[go_sem] theorem by27 : Tryz.prog.bytesOf 27 = 24 := by kernel_rfl
@[go_sem] theorem zl27 : (tz Tryz.prog 27).length = 1 := by kernel_rfl
@[go_sem] theorem za27 : (tz Tryz.prog 27).map zAV = [.nils] := by kernel_rfl
@[go_sem] theorem zd27 : zDs (tz Tryz.prog 27) = some [.sl []] := by kernel_rfl
@[go_sem] theorem ti28 : ti Tryz.prog 28 = .sl 210 := by kernel_rfl
@[go_sem] theorem sz28 : tsz Tryz.prog 28 = 1 := by kernel_rfl
@[go_sem] theorem by28 : Tryz.prog.bytesOf 28 = 24 := by kernel_rfl
@[go_sem] theorem zl28 : (tz Tryz.prog 28).length = 1 := by kernel_rfl
@[go_sem] theorem za28 : (tz Tryz.prog 28).map zAV = [.nils] := by kernel_rfl
@[go_sem] theorem zd28 : zDs (tz Tryz.prog 28) = some [.sl []] := by kernel_rfl
@[go_sem] theorem ti30 : ti Tryz.prog 30 = .st [(0, 28)] := by kernel_rfl
@[go_sem] theorem sz30 : tsz Tryz.prog 30 = 1 := by kernel_rfl
@[go_sem] theorem by30 : Tryz.prog.bytesOf 30 = 24 := by kernel_rfl
@[go_sem] theorem zl30 : (tz Tryz.prog 30).length = 1 := by kernel_rfl
@[go_sem] theorem za30 : (tz Tryz.prog 30).map zAV = [.nils] := by kernel_rfl
@[go_sem] theorem zd30 : zDs (tz Tryz.prog 30) = some [.sl []] := by kernel_rfl
@[go_sem] theorem ti32 : ti Tryz.prog 32 = .st [(0, 2), (1, 2), (2, 2), (3, 2), (4, 2), (5, 2), (6, 26), (7, 26), (8, 27), (9, 30)] := by kernel_rfl
@[go_sem] theorem sz32 : tsz Tryz.prog 32 = 10 := by kernel_rfl
@[go_sem] theorem by32 : Tryz.prog.bytesOf 32 = 144 := by kernel_rfl
@[go_sem] theorem zl32 : (tz Tryz.prog 32).length = 10 := by kernel_rfl
@[go_sem] theorem za32 : (tz Tryz.prog 32).map zAV = [.int .i64 0, .int .i64 0, .int .i64 0, .int .i64 0, .int .i64 0, .int .i64 0, .nils, .nils, .nils, .nils] := by kernel_rfl
@[go_sem] theorem zd32 : zDs (tz Tryz.prog 32) = some [.int .i64 0, .int .i64 0, .int .i64 0, .int .i64 0, .int .i64 0, .int .i64 0, .sl [], .sl [], .sl [], .sl []] := by kernel_rfl
@[go_sem] theorem ti35 : ti Tryz.prog 35 = .sl 32 := by kernel_rfl
@[go_sem] theorem sz35 : tsz Tryz.prog 35 = 1 := by kernel_rfl
@[go_sem] theorem by35 : Tryz.prog.bytesOf 35 = 24 := by kernel_rfl
@[go_sem] theorem zl35 : (tz Tryz.prog 35).length = 1 := by kernel_rfl
@[go_sem] theorem za35 : (tz Tryz.prog 35).map zAV = [.nils] := by kernel_rfl
@[go_sem] theorem zd35 : zDs (tz Tryz.prog 35) = some [.sl []] := by kernel_rfl
@[go_sem] theorem ti37 : ti Tryz.prog 37 = .st [(0, 2), (1, 2), (2, 2), (3, 35)] := by kernel_rfl
@[go_sem] theorem sz37 : tsz Tryz.prog 37 = 4 := by kernel_rfl
@[go_sem] theorem by37 : Tryz.prog.bytesOf 37 = 48 := by kernel_rfl
@[go_sem] theorem zl37 : (tz Tryz.prog 37).length = 4 := by kernel_rfl
@[go_sem] theorem za37 : (tz Tryz.prog 37).map zAV = [.int .i64 0, .int .i64 0, .int .i64 0, .nils] := by kernel_rfl
@[go_sem] theorem zd37 : zDs (tz Tryz.prog 37) = some [.int .i64 0, .int .i64 0, .int .i64 0, .sl []] := by kernel_rfl
@[go_sem] theorem ti46 : ti Tryz.prog 46 = .sl 200 := by kernel_rfl
@[go_sem] theorem sz46 : tsz Tryz.prog 46 = 1 := by kernel_rfl
@[go_sem] theorem by46 : Tryz.prog.bytesOf 46 = 24 := by kernel_rfl
@[go_sem] theorem zl46 : (tz Tryz.prog 46).length = 1 := by kernel_rfl
@[go_sem] theorem za46 : (tz Tryz.prog 46).map zAV = [.nils] := by kernel_rfl
@[go_sem] theorem zd46 : zDs (tz Tryz.prog 46) = some [.sl []] := by kernel_rfl
@[go_sem] theorem ti48 : ti Tryz.prog 48 = .st [(0, 46)] := by kernel_rfl
@[go_sem] theorem sz48 : tsz Tryz.prog 48 = 1 := by kernel_rfl
@[go_sem] theorem by48 : Tryz.prog.bytesOf 48 = 24 := by kernel_rfl
@[go_sem] theorem zl48 : (tz Tryz.prog 48).length = 1 := by kernel_rfl
@[go_sem] theorem za48 : (tz Tryz.prog 48).map zAV = [.nils] := by kernel_rfl
@[go_sem] theorem zd48 : zDs (tz Tryz.prog 48) = some [.sl []] := by kernel_rfl
@[go_sem] theorem ti50 : ti Tryz.prog 50 = .sl 277 := by kernel_rfl
@[go_sem] theorem sz50 : tsz Tryz.prog 50 = 1 := by kernel_rfl
@[go_sem] theorem by50 : Tryz.prog.bytesOf 50 = 24 := by kernel_rfl
@[go_sem] theorem zl50 : (tz Tryz.prog 50).length = 1 := by kernel_rfl
@[go_sem] theorem za50 : (tz Tryz.prog 50).map zAV = [.nils] := by kernel_rfl
@[go_sem] theorem zd50 : zDs (tz Tryz.prog 50) = some [.sl []] := by kernel_rfl
@[go_sem] theorem ti52 : ti Tryz.prog 52 = .st [(0, 2), (1, 2), (2, 2)] := by kernel_rfl
@[go_sem] theorem ks52 : structKs Tryz.prog 52 = some [.int .i64, .int .i64, .int .i64] := by kernel_rfl
@[go_sem] theorem sz52 : tsz Tryz.prog 52 = 3 := by kernel_rfl
@[go_sem] theorem by52 : Tryz.prog.bytesOf 52 = 24 := by kernel_rfl
@[go_sem] theorem zl52 : (tz Tryz.prog 52).length = 3 := by kernel_rfl
@[go_sem] theorem za52 : (tz Tryz.prog 52).map zAV = [.int .i64 0, .int .i64 0, .int .i64 0] := by kernel_rfl
@[go_sem] theorem zd52 : zDs (tz Tryz.prog 52) = some [.int .i64 0, .int .i64 0, .int .i64 0] := by kernel_rfl
@[go_sem] theorem ti54 : ti Tryz.prog 54 = .st [(0, 50), (1, 52)] := by kernel_rfl
@[go_sem] theorem sz54 : tsz Tryz.prog 54 = 4 := by kernel_rfl
@[go_sem] theorem by54 : Tryz.prog.bytesOf 54 = 48 := by kernel_rfl
@[go_sem] theorem zl54 : (tz Tryz.prog 54).length = 4 := by kernel_rfl
@[go_sem] theorem za54 : (tz Tryz.prog 54).map zAV = [.nils, .int .i64 0, .int .i64 0, .int .i64 0] := by kernel_rfl
@[go_sem] theorem zd54 : zDs (tz Tryz.prog 54) = some [.sl [], .int .i64 0, .int .i64 0, .int .i64 0] := by kernel_rfl
@[go_sem] theorem ti55 : ti Tryz.prog 55 = .sl 258 := by kernel_rfl
@[go_sem] theorem sz55 : tsz Tryz.prog 55 = 1 := by kernel_rfl
@[go_sem] theorem by55 : Tryz.prog.bytesOf 55 = 24 := by kernel_rfl
@[go_sem] theorem zl55 : (tz Tryz.prog 55).length = 1 := by kernel_rfl
@[go_sem] theorem za55 : (tz Tryz.prog 55).map zAV = [.nils] := by kernel_rfl
@[go_sem] theorem zd55 : zDs (tz Tryz.prog 55) = some [.sl []] := by kernel_rfl
@[go_sem] theorem ti56 : ti Tryz.prog 56 = .sl 26 := by kernel_rfl
@[go_sem] theorem sz56 : tsz Tryz.prog 56 = 1 := by kernel_rfl
@[go_sem] theorem by56 : Tryz.prog.bytesOf 56 = 24 := by kernel_rfl
@[go_sem] theorem zl56 : (tz Tryz.prog 56).length = 1 := by kernel_rfl
@[go_sem] theorem za56 : (tz Tryz.prog 56).map zAV = [.nils] := by kernel_rfl
@[go_sem] theorem zd56 : zDs (tz Tryz.prog 56) = some [.sl []] := by kernel_rfl
@[go_sem] theorem ti58 : ti Tryz.prog 58 = .st [(0, 54), (4, 55), (5, 56), (6, 26), (7, 26)] := by kernel_rfl
@[go_sem] theorem sz58 : tsz Tryz.prog 58 = 8 := by kernel_rfl
@[go_sem] theorem by58 : Tryz.prog.bytesOf 58 = 144 := by kernel_rfl
@[go_sem] theorem zl58 : (tz Tryz.prog 58).length = 8 := by kernel_rfl
@[go_sem] theorem za58 : (tz Tryz.prog 58).map zAV = [.nils, .int .i64 0, .int .i64 0, .int .i64 0, .nils, .nils, .nils, .nils] := by kernel_rfl
@[go_sem] theorem zd58 : zDs (tz Tryz.prog 58) = some [.sl [], .int .i64 0, .int .i64 0, .int .i64 0, .sl [], .sl [], .sl [], .sl []] := by kernel_rfl
@[go_sem] theorem ti59 : ti Tryz.prog 59 = .sl 4 := by kernel_rfl
@[go_sem] theorem sz59 : tsz Tryz.prog 59 = 1 := by kernel_rfl
@[go_sem] theorem by59 : Tryz.prog.bytesOf 59 = 24 := by kernel_rfl
@[go_sem] theorem zl59 : (tz Tryz.prog 59).length = 1 := by kernel_rfl
@[go_sem] theorem za59 : (tz Tryz.prog 59).map zAV = [.nils] := by kernel_rfl
@[go_sem] theorem zd59 : zDs (tz Tryz.prog 59) = some [.sl []] := by kernel_rfl
@[go_sem] theorem ti61 : ti Tryz.prog 61 = .st [(0, 59), (1, 50), (2, 56), (3, 59), (4, 55)] := by kernel_rfl
@[go_sem] theorem sz61 : tsz Tryz.prog 61 = 5 := by kernel_rfl
@[go_sem] theorem by61 : Tryz.prog.bytesOf 61 = 120 := by kernel_rfl
@[go_sem] theorem zl61 : (tz Tryz.prog 61).length = 5 := by kernel_rfl
@[go_sem] theorem za61 : (tz Tryz.prog 61).map zAV = [.nils, .nils, .nils, .nils, .nils] := by kernel_rfl
@[go_sem] theorem zd61 : zDs (tz Tryz.prog 61) = some [.sl [], .sl [], .sl [], .sl [], .sl []] := by kernel_rfl
@[go_sem] theorem ti63 : ti Tryz.prog 63 = .st [(0, 58), (8, 61)] := by kernel_rfl
@[go_sem] theorem sz63 : tsz Tryz.prog 63 = 13 := by kernel_rfl
@[go_sem] theorem by63 : Tryz.prog.bytesOf 63 = 264 := by kernel_rfl
@[go_sem] theorem zl63 : (tz Tryz.prog 63).length = 13 := by kernel_rfl
@[go_sem] theorem za63 : (tz Tryz.prog 63).map zAV = [.nils, .int .i64 0, .int .i64 0, .int .i64 0, .nils, .nils, .nils, .nils, .nils, .nils, .nils, .nils, .nils] := by kernel_rfl
@[go_sem] theorem zd63 : zDs (tz Tryz.prog 63) = some [.sl [], .int .i64 0, .int .i64 0, .int .i64 0, .sl [], .sl [], .sl [], .sl [], .sl [], .sl [], .sl [], .sl [], .sl []] := by kernel_rfl
@[go_sem] theorem ti65 : ti Tryz.prog 65 = .st [(0, 63), (13, 58), (21, 2), (22, 2)] := by kernel_rfl
@[go_sem] theorem sz65 : tsz Tryz.prog 65 = 23 := by kernel_rfl
@[go_sem] theorem by65 : Tryz.prog.bytesOf 65 = 424 := by kernel_rfl
@[go_sem] theorem zl65 : (tz Tryz.prog 65).length = 23 := by kernel_rfl
@[go_sem] theorem za65 : (tz Tryz.prog 65).map zAV = [.nils, .int .i64 0, .int .i64 0, .int .i64 0, .nils, .nils, .nils, .nils, .nils, .nils, .nils, .nils, .nils, .nils, .int .i64 0, .int .i64 0, .int .i64 0, .nils, .nils, .nils, .nils, .int .i64 0, .int .i64 0] := by kernel_rfl
@[go_sem] theorem zd65 : zDs (tz Tryz.prog 65) = some [.sl [], .int .i64 0, .int .i64 0, .int .i64 0, .sl [], .sl [], .sl [], .sl [], .sl [], .sl [], .sl [], .sl [], .sl [], .sl [], .int .i64 0, .int .i64 0, .int .i64 0, .sl [], .sl [], .sl [], .sl [], .int .i64 0, .int .i64 0] := by kernel_rfl
@[go_sem] theorem ti77 : ti Tryz.prog 77 = .sl 81 := by kernel_rfl
@[go_sem] theorem sz77 : tsz Tryz.prog 77 = 1 := by kernel_rfl
@[go_sem] theorem by77 : Tryz.prog.bytesOf 77 = 24 := by kernel_rfl
@[go_sem] theorem zl77 : (tz Tryz.prog 77).length = 1 := by kernel_rfl
@[go_sem] theorem za77 : (tz Tryz.prog 77).map zAV = [.nils] := by kernel_rfl
@[go_sem] theorem zd77 : zDs (tz Tryz.prog 77) = some [.sl []] := by kernel_rfl
@[go_sem] theorem ti79 : ti Tryz.prog 79 = .st [(0, 77)] := by kernel_rfl
@[go_sem] theorem sz79 : tsz Tryz.prog 79 = 1 := by kernel_rfl
@[go_sem] theorem by79 : Tryz.prog.bytesOf 79 = 24 := by kernel_rfl
@[go_sem] theorem zl79 : (tz Tryz.prog 79).length = 1 := by kernel_rfl
@[go_sem] theorem za79 : (tz Tryz.prog 79).map zAV = [.nils] := by kernel_rfl
@[go_sem] theorem zd79 : zDs (tz Tryz.prog 79) = some [.sl []] := by kernel_rfl
@[go_sem] theorem ti81 : ti Tryz.prog 81 = .st [(0, 2), (1, 2), (2, 26), (3, 77)] := by kernel_rfl
@[go_sem] theorem sz81 : tsz Tryz.prog 81 = 4 := by kernel_rfl
@[go_sem] theorem by81 : Tryz.prog.bytesOf 81 = 64 := by kernel_rfl
@[go_sem] theorem zl81 : (tz Tryz.prog 81).length = 4 := by kernel_rfl
@[go_sem] theorem za81 : (tz Tryz.prog 81).map zAV = [.int .i64 0, .int .i64 0, .nils, .nils] := by kernel_rfl
@[go_sem] theorem zd81 : zDs (tz Tryz.prog 81) = some [.int .i64 0, .int .i64 0, .sl [], .sl []] := by kernel_rfl
@[go_sem] theorem ti84 : ti Tryz.prog 84 = .sl 86 := by kernel_rfl
@[go_sem] theorem sz84 : tsz Tryz.prog 84 = 1 := by kernel_rfl
@[go_sem] theorem by84 : Tryz.prog.bytesOf 84 = 24 := by kernel_rfl
@[go_sem] theorem zl84 : (tz Tryz.prog 84).length = 1 := by kernel_rfl
@[go_sem] theorem za84 : (tz Tryz.prog 84).map zAV = [.nils] := by kernel_rfl
@[go_sem] theorem zd84 : zDs (tz Tryz.prog 84) = some [.sl []] := by kernel_rfl
@[go_sem] theorem ti86 : ti Tryz.prog 86 = .st [(0, 2), (1, 2), (2, 26), (3, 84)] := by kernel_rfl
@[go_sem] theorem sz86 : tsz Tryz.prog 86 = 4 := by kernel_rfl
@[go_sem] theorem by86 : Tryz.prog.bytesOf 86 = 64 := by kernel_rfl
@[go_sem] theorem zl86 : (tz Tryz.prog 86).length = 4 := by kernel_rfl
@[go_sem] theorem za86 : (tz Tryz.prog 86).map zAV = [.int .i64 0, .int .i64 0, .nils, .nils] := by kernel_rfl
@[go_sem] theorem zd86 : zDs (tz Tryz.prog 86) = some [.int .i64 0, .int .i64 0, .sl [], .sl []] := by kernel_rfl
@[go_sem] theorem ti90 : ti Tryz.prog 90 = .st [(0, 84)] := by kernel_rfl
@[go_sem] theorem sz90 : tsz Tryz.prog 90 = 1 := by kernel_rfl
@[go_sem] theorem by90 : Tryz.prog.bytesOf 90 = 24 := by kernel_rfl
@[go_sem] theorem zl90 : (tz Tryz.prog 90).length = 1 := by kernel_rfl
@[go_sem] theorem za90 : (tz Tryz.prog 90).map zAV = [.nils] := by kernel_rfl
@[go_sem] theorem zd90 : zDs (tz Tryz.prog 90) = some [.sl []] := by kernel_rfl
@[go_sem] theorem ti101 : ti Tryz.prog 101 = .sl 399 := by kernel_rfl
@[go_sem] theorem sz101 : tsz Tryz.prog 101 = 1 := by kernel_rfl
@[go_sem] theorem by101 : Tryz.prog.bytesOf 101 = 24 := by kernel_rfl
@[go_sem] theorem zl101 : (tz Tryz.prog 101).length = 1 := by kernel_rfl
@[go_sem] theorem za101 : (tz Tryz.prog 101).map zAV = [.nils] := by kernel_rfl
@[go_sem] theorem zd101 : zDs (tz Tryz.prog 101) = some [.sl []] := by kernel_rfl
@[go_sem] theorem ti102 : ti Tryz.prog 102 = .st [(0, 2), (1, 2), (2, 2)] := by kernel_rfl
@[go_sem] theorem ks102 : structKs Tryz.prog 102 = some [.int .i64, .int .i64, .int .i64] := by kernel_rfl
@[go_sem] theorem sz102 : tsz Tryz.prog 102 = 3 := by kernel_rfl
@[go_sem] theorem by102 : Tryz.prog.bytesOf 102 = 24 := by kernel_rfl
@[go_sem] theorem zl102 : (tz Tryz.prog 102).length = 3 := by kernel_rfl
@[go_sem] theorem za102 : (tz Tryz.prog 102).map zAV = [.int .i64 0, .int .i64 0, .int .i64 0] := by kernel_rfl
@[go_sem] theorem zd102 : zDs (tz Tryz.prog 102) = some [.int .i64 0, .int .i64 0, .int .i64 0] := by kernel_rfl
@[go_sem] theorem ti104 : ti Tryz.prog 104 = .st [(0, 101), (1, 102)] := by kernel_rfl
@[go_sem] theorem sz104 : tsz Tryz.prog 104 = 4 := by kernel_rfl
@[go_sem] theorem by104 : Tryz.prog.bytesOf 104 = 48 := by kernel_rfl
@[go_sem] theorem zl104 : (tz Tryz.prog 104).length = 4 := by kernel_rfl
@[go_sem] theorem za104 : (tz Tryz.prog 104).map zAV = [.nils, .int .i64 0, .int .i64 0, .int .i64 0] := by kernel_rfl
@[go_sem] theorem zd104 : zDs (tz Tryz.prog 104) = some [.sl [], .int .i64 0, .int .i64 0, .int .i64 0] := by kernel_rfl
@[go_sem] theorem ti105 : ti Tryz.prog 105 = .sl 327 := by kernel_rfl
@[go_sem] theorem sz105 : tsz Tryz.prog 105 = 1 := by kernel_rfl
@[go_sem] theorem by105 : Tryz.prog.bytesOf 105 = 24 := by kernel_rfl
@[go_sem] theorem zl105 : (tz Tryz.prog 105).length = 1 := by kernel_rfl
@[go_sem] theorem za105 : (tz Tryz.prog 105).map zAV = [.nils] := by kernel_rfl
@[go_sem] theorem zd105 : zDs (tz Tryz.prog 105) = some [.sl []] := by kernel_rfl
@[go_sem] theorem ti107 : ti Tryz.prog 107 = .st [(0, 104), (4, 105), (5, 56), (6, 26), (7, 26)] := by kernel_rfl
@[go_sem] theorem sz107 : tsz Tryz.prog 107 = 8 := by kernel_rfl
@[go_sem] theorem by107 : Tryz.prog.bytesOf 107 = 144 := by kernel_rfl
@[go_sem] theorem zl107 : (tz Tryz.prog 107).length = 8 := by kernel_rfl
@[go_sem] theorem za107 : (tz Tryz.prog 107).map zAV = [.nils, .int .i64 0, .int .i64 0, .int .i64 0, .nils, .nils, .nils, .nils] := by kernel_rfl
@[go_sem] theorem zd107 : zDs (tz Tryz.prog 107) = some [.sl [], .int .i64 0, .int .i64 0, .int .i64 0, .sl [], .sl [], .sl [], .sl []] := by kernel_rfl
@[go_sem] theorem ti109 : ti Tryz.prog 109 = .st [(0, 59), (1, 101), (2, 56), (3, 59), (4, 105)] := by kernel_rfl
@[go_sem] theorem sz109 : tsz Tryz.prog 109 = 5 := by kernel_rfl
@[go_sem] theorem by109 : Tryz.prog.bytesOf 109 = 120 := by kernel_rfl
@[go_sem] theorem zl109 : (tz Tryz.prog 109).length = 5 := by kernel_rfl
@[go_sem] theorem za109 : (tz Tryz.prog 109).map zAV = [.nils, .nils, .nils, .nils, .nils] := by kernel_rfl
@[go_sem] theorem zd109 : zDs (tz Tryz.prog 109) = some [.sl [], .sl [], .sl [], .sl [], .sl []] := by kernel_rfl
@[go_sem] theorem ti111 : ti Tryz.prog 111 = .st [(0, 107), (8, 109)] := by kernel_rfl
@[go_sem] theorem sz111 : tsz Tryz.prog 111 = 13 := by kernel_rfl
@[go_sem] theorem by111 : Tryz.prog.bytesOf 111 = 264 := by kernel_rfl
@[go_sem] theorem zl111 : (tz Tryz.prog 111).length = 13 := by kernel_rfl
@[go_sem] theorem za111 : (tz Tryz.prog 111).map zAV = [.nils, .int .i64 0, .int .i64 0, .int .i64 0, .nils, .nils, .nils, .nils, .nils, .nils, .nils, .nils, .nils] := by kernel_rfl
@[go_sem] theorem zd111 : zDs (tz Tryz.prog 111) = some [.sl [], .int .i64 0, .int .i64 0, .int .i64 0, .sl [], .sl [], .sl [], .sl [], .sl [], .sl [], .sl [], .sl [], .sl []] := by kernel_rfl
@[go_sem] theorem ti113 : ti Tryz.prog 113 = .st [(0, 111), (13, 107), (21, 2), (22, 2)] := by kernel_rfl
@[go_sem] theorem sz113 : tsz Tryz.prog 113 = 23 := by kernel_rfl
@[go_sem] theorem by113 : Tryz.prog.bytesOf 113 = 424 := by kernel_rfl
@[go_sem] theorem zl113 : (tz Tryz.prog 113).length = 23 := by kernel_rfl
@[go_sem] theorem za113 : (tz Tryz.prog 113).map zAV = [.nils, .int .i64 0, .int .i64 0, .int .i64 0, .nils, .nils, .nils, .nils, .nils, .nils, .nils, .nils, .nils, .nils, .int .i64 0, .int .i64 0, .int .i64 0, .nils, .nils, .nils, .nils, .int .i64 0, .int .i64 0] := by kernel_rfl
@[go_sem] theorem zd113 : zDs (tz Tryz.prog 113) = some [.sl [], .int .i64 0, .int .i64 0, .int .i64 0, .sl [], .sl [], .sl [], .sl [], .sl [], .sl [], .sl [], .sl [], .sl [], .sl [], .int .i64 0, .int .i64 0, .int .i64 0, .sl [], .sl [], .sl [], .sl [], .int .i64 0, .int .i64 0] := by kernel_rfl
@[go_sem] theorem ti173 : ti Tryz.prog 173 = .st [(0, 90), (1, 26), (2, 2)] := by kernel_rfl
@[go_sem] theorem sz173 : tsz Tryz.prog 173 = 3 := by kernel_rfl
@[go_sem] theorem by173 : Tryz.prog.bytesOf 173 = 56 := by kernel_rfl
@[go_sem] theorem zl173 : (tz Tryz.prog 173).length = 3 := by kernel_rfl
@[go_sem] theorem za173 : (tz Tryz.prog 173).map zAV = [.nils, .nils, .int .i64 0] := by kernel_rfl
@[go_sem] theorem zd173 : zDs (tz Tryz.prog 173) = some [.sl [], .sl [], .int .i64 0] := by kernel_rfl
@[go_sem] theorem ti186 : ti Tryz.prog 186 = .sl 48 := by kernel_rfl
@[go_sem] theorem sz186 : tsz Tryz.prog 186 = 1 := by kernel_rfl
@[go_sem] theorem by186 : Tryz.prog.bytesOf 186 = 24 := by kernel_rfl
@[go_sem] theorem zl186 : (tz Tryz.prog 186).length = 1 := by kernel_rfl
@[go_sem] theorem za186 : (tz Tryz.prog 186).map zAV = [.nils] := by kernel_rfl
@[go_sem] theorem zd186 : zDs (tz Tryz.prog 186) = some [.sl []] := by kernel_rfl
@[go_sem] theorem ti188 : ti Tryz.prog 188 = .st [(0, 2), (1, 2), (2, 2), (3, 2), (4, 2), (5, 2), (6, 26), (7, 26), (8, 186), (9, 48)] := by kernel_rfl
@[go_sem] theorem sz188 : tsz Tryz.prog 188 = 10 := by kernel_rfl
@[go_sem] theorem by188 : Tryz.prog.bytesOf 188 = 144 := by kernel_rfl
@[go_sem] theorem zl188 : (tz Tryz.prog 188).length = 10 := by kernel_rfl
@[go_sem] theorem za188 : (tz Tryz.prog 188).map zAV = [.int .i64 0, .int .i64 0, .int .i64 0, .int .i64 0, .int .i64 0, .int .i64 0, .nils, .nils, .nils, .nils] := by kernel_rfl
@[go_sem] theorem zd188 : zDs (tz Tryz.prog 188) = some [.int .i64 0, .int .i64 0, .int .i64 0, .int .i64 0, .int .i64 0, .int .i64 0, .sl [], .sl [], .sl [], .sl []] := by kernel_rfl
@[go_sem] theorem ti192 : ti Tryz.prog 192 = .ptr 30 := by kernel_rfl
@[go_sem] theorem sz192 : tsz Tryz.prog 192 = 1 := by kernel_rfl
@[go_sem] theorem by192 : Tryz.prog.bytesOf 192 = 8 := by kernel_rfl
@[go_sem] theorem zl192 : (tz Tryz.prog 192).length = 1 := by kernel_rfl
@[go_sem] theorem za192 : (tz Tryz.prog 192).map zAV = [.nilp] := by kernel_rfl
@[go_sem] theorem ti198 : ti Tryz.prog 198 = .sl 365 := by kernel_rfl
@[go_sem] theorem sz198 : tsz Tryz.prog 198 = 1 := by kernel_rfl
@[go_sem] theorem by198 : Tryz.prog.bytesOf 198 = 24 := by kernel_rfl
@[go_sem] theorem zl198 : (tz Tryz.prog 198).length = 1 := by kernel_rfl
@[go_sem] theorem za198 : (tz Tryz.prog 198).map zAV = [.nils] := by kernel_rfl
@[go_sem] theorem zd198 : zDs (tz Tryz.prog 198) = some [.sl []] := by kernel_rfl
@[go_sem] theorem ti200 : ti Tryz.prog 200 = .st [(0, 2), (1, 2), (2, 2), (3, 26), (4, 198)] := by kernel_rfl
@[go_sem] theorem sz200 : tsz Tryz.prog 200 = 5 := by kernel_rfl
@[go_sem] theorem by200 : Tryz.prog.bytesOf 200 = 72 := by kernel_rfl
@[go_sem] theorem zl200 : (tz Tryz.prog 200).length = 5 := by kernel_rfl
@[go_sem] theorem za200 : (tz Tryz.prog 200).map zAV = [.int .i64 0, .int .i64 0, .int .i64 0, .nils, .nils] := by kernel_rfl
@[go_sem] theorem zd200 : zDs (tz Tryz.prog 200) = some [.int .i64 0, .int .i64 0, .int .i64 0, .sl [], .sl []] := by kernel_rfl
@[go_sem] theorem ti208 : ti Tryz.prog 208 = .sl 296 := by kernel_rfl
@[go_sem] theorem sz208 : tsz Tryz.prog 208 = 1 := by kernel_rfl
@[go_sem] theorem by208 : Tryz.prog.bytesOf 208 = 24 := by kernel_rfl
@[go_sem] theorem zl208 : (tz Tryz.prog 208).length = 1 := by kernel_rfl
@[go_sem] theorem za208 : (tz Tryz.prog 208).map zAV = [.nils] := by kernel_rfl
@[go_sem] theorem zd208 : zDs (tz Tryz.prog 208) = some [.sl []] := by kernel_rfl
@[go_sem] theorem ti210 : ti Tryz.prog 210 = .st [(0, 2), (1, 2), (2, 2), (3, 26), (4, 208)] := by kernel_rfl
@[go_sem] theorem sz210 : tsz Tryz.prog 210 = 5 := by kernel_rfl
@[go_sem] theorem by210 : Tryz.prog.bytesOf 210 = 72 := by kernel_rfl
@[go_sem] theorem zl210 : (tz Tryz.prog 210).length = 5 := by kernel_rfl
@[go_sem] theorem za210 : (tz Tryz.prog 210).map zAV = [.int .i64 0, .int .i64 0, .int .i64 0, .nils, .nils] := by kernel_rfl
@[go_sem] theorem zd210 : zDs (tz Tryz.prog 210) = some [.int .i64 0, .int .i64 0, .int .i64 0, .sl [], .sl []] := by kernel_rfl
@[go_sem] theorem ti236 : ti Tryz.prog 236 = .fn := by kernel_rfl
@[go_sem] theorem sz236 : tsz Tryz.prog 236 = 1 := by kernel_rfl
@[go_sem] theorem by236 : Tryz.prog.bytesOf 236 = 8 := by kernel_rfl
@[go_sem] theorem zl236 : (tz Tryz.prog 236).length = 1 := by kernel_rfl
@[go_sem] theorem ti255 : ti Tryz.prog 255 = .sl 344 := by kernel_rfl
@[go_sem] theorem sz255 : tsz Tryz.prog 255 = 1 := by kernel_rfl
@[go_sem] theorem by255 : Tryz.prog.bytesOf 255 = 24 := by kernel_rfl
@[go_sem] theorem zl255 : (tz Tryz.prog 255).length = 1 := by kernel_rfl
@[go_sem] theorem za255 : (tz Tryz.prog 255).map zAV = [.nils] := by kernel_rfl
@[go_sem] theorem zd255 : zDs (tz Tryz.prog 255) = some [.sl []] := by kernel_rfl
@[go_sem] theorem ti258 : ti Tryz.prog 258 = .sl 284 := by kernel_rfl
@[go_sem] theorem sz258 : tsz Tryz.prog 258 = 1 := by kernel_rfl
@[go_sem] theorem by258 : Tryz.prog.bytesOf 258 = 24 := by kernel_rfl
@[go_sem] theorem zl258 : (tz Tryz.prog 258).length = 1 := by kernel_rfl
@[go_sem] theorem za258 : (tz Tryz.prog 258).map zAV = [.nils] := by kernel_rfl
@[go_sem] theorem zd258 : zDs (tz Tryz.prog 258) = some [.sl []] := by kernel_rfl
@[go_sem] theorem ti273 : ti Tryz.prog 273 = .sl 282 := by kernel_rfl
@[go_sem] theorem sz273 : tsz Tryz.prog 273 = 1 := by kernel_rfl
@[go_sem] theorem by273 : Tryz.prog.bytesOf 273 = 24 := by kernel_rfl
@[go_sem] theorem zl273 : (tz Tryz.prog 273).length = 1 := by kernel_rfl
@[go_sem] theorem za273 : (tz Tryz.prog 273).map zAV = [.nils] := by kernel_rfl
@[go_sem] theorem zd273 : zDs (tz Tryz.prog 273) = some [.sl []] := by kernel_rfl
@[go_sem] theorem ti274 : ti Tryz.prog 274 = .sl 363 := by kernel_rfl
@[go_sem] theorem sz274 : tsz Tryz.prog 274 = 1 := by kernel_rfl
@[go_sem] theorem by274 : Tryz.prog.bytesOf 274 = 24 := by kernel_rfl
@[go_sem] theorem zl274 : (tz Tryz.prog 274).length = 1 := by kernel_rfl
@[go_sem] theorem za274 : (tz Tryz.prog 274).map zAV = [.nils] := by kernel_rfl
@[go_sem] theorem zd274 : zDs (tz Tryz.prog 274) = some [.sl []] := by kernel_rfl
@[go_sem] theorem ti275 : ti Tryz.prog 275 = .sl 360 := by kernel_rfl
@[go_sem] theorem sz275 : tsz Tryz.prog 275 = 1 := by kernel_rfl
@[go_sem] theorem by275 : Tryz.prog.bytesOf 275 = 24 := by kernel_rfl
@[go_sem] theorem zl275 : (tz Tryz.prog 275).length = 1 := by kernel_rfl
@[go_sem] theorem za275 : (tz Tryz.prog 275).map zAV = [.nils] := by kernel_rfl
@[go_sem] theorem zd275 : zDs (tz Tryz.prog 275) = some [.sl []] := by kernel_rfl
@[go_sem] theorem ti277 : ti Tryz.prog 277 = .st [(0, 273), (1, 274), (2, 275)] := by kernel_rfl
@[go_sem] theorem sz277 : tsz Tryz.prog 277 = 3 := by kernel_rfl
@[go_sem] theorem by277 : Tryz.prog.bytesOf 277 = 72 := by kernel_rfl
@[go_sem] theorem zl277 : (tz Tryz.prog 277).length = 3 := by kernel_rfl
@[go_sem] theorem za277 : (tz Tryz.prog 277).map zAV = [.nils, .nils, .nils] := by kernel_rfl
@[go_sem] theorem zd277 : zDs (tz Tryz.prog 277) = some [.sl [], .sl [], .sl []] := by kernel_rfl
@[go_sem] theorem ti280 : ti Tryz.prog 280 = .sl 52 := by kernel_rfl
@[go_sem] theorem sz280 : tsz Tryz.prog 280 = 1 := by kernel_rfl
@[go_sem] theorem by280 : Tryz.prog.bytesOf 280 = 24 := by kernel_rfl
@[go_sem] theorem zl280 : (tz Tryz.prog 280).length = 1 := by kernel_rfl
@[go_sem] theorem za280 : (tz Tryz.prog 280).map zAV = [.nils] := by kernel_rfl
@[go_sem] theorem zd280 : zDs (tz Tryz.prog 280) = some [.sl []] := by kernel_rfl
@[go_sem] theorem ti282 : ti Tryz.prog 282 = .st [(0, 2), (1, 2), (2, 2), (3, 26), (4, 280)] := by kernel_rfl
@[go_sem] theorem sz282 : tsz Tryz.prog 282 = 5 := by kernel_rfl
@[go_sem] theorem by282 : Tryz.prog.bytesOf 282 = 72 := by kernel_rfl
@[go_sem] theorem zl282 : (tz Tryz.prog 282).length = 5 := by kernel_rfl
@[go_sem] theorem za282 : (tz Tryz.prog 282).map zAV = [.int .i64 0, .int .i64 0, .int .i64 0, .nils, .nils] := by kernel_rfl
@[go_sem] theorem zd282 : zDs (tz Tryz.prog 282) = some [.int .i64 0, .int .i64 0, .int .i64 0, .sl [], .sl []] := by kernel_rfl
@[go_sem] theorem ti284 : ti Tryz.prog 284 = .st [(0, 2), (1, 282), (6, 52), (9, 52)] := by kernel_rfl
@[go_sem] theorem sz284 : tsz Tryz.prog 284 = 12 := by kernel_rfl
@[go_sem] theorem by284 : Tryz.prog.bytesOf 284 = 128 := by kernel_rfl
@[go_sem] theorem zl284 : (tz Tryz.prog 284).length = 12 := by kernel_rfl
@[go_sem] theorem za284 : (tz Tryz.prog 284).map zAV = [.int .i64 0, .int .i64 0, .int .i64 0, .int .i64 0, .nils, .nils, .int .i64 0, .int .i64 0, .int .i64 0, .int .i64 0, .int .i64 0, .int .i64 0] := by kernel_rfl
@[go_sem] theorem zd284 : zDs (tz Tryz.prog 284) = some [.int .i64 0, .int .i64 0, .int .i64 0, .int .i64 0, .sl [], .sl [], .int .i64 0, .int .i64 0, .int .i64 0, .int .i64 0, .int .i64 0, .int .i64 0] := by kernel_rfl
@[go_sem] theorem ti292 : ti Tryz.prog 292 = .st [(0, 192), (1, 26), (2, 54), (6, 280)] := by kernel_rfl
@[go_sem] theorem sz292 : tsz Tryz.prog 292 = 7 := by kernel_rfl
@[go_sem] theorem by292 : Tryz.prog.bytesOf 292 = 104 := by kernel_rfl
@[go_sem] theorem zl292 : (tz Tryz.prog 292).length = 7 := by kernel_rfl
@[go_sem] theorem za292 : (tz Tryz.prog 292).map zAV = [.nilp, .nils, .nils, .int .i64 0, .int .i64 0, .int .i64 0, .nils] := by kernel_rfl
@[go_sem] theorem ti296 : ti Tryz.prog 296 = .st [(0, 2), (1, 2)] := by kernel_rfl
@[go_sem] theorem ks296 : structKs Tryz.prog 296 = some [.int .i64, .int .i64] := by kernel_rfl
@[go_sem] theorem sz296 : tsz Tryz.prog 296 = 2 := by kernel_rfl
@[go_sem] theorem by296 : Tryz.prog.bytesOf 296 = 16 := by kernel_rfl
@[go_sem] theorem zl296 : (tz Tryz.prog 296).length = 2 := by kernel_rfl
@[go_sem] theorem za296 : (tz Tryz.prog 296).map zAV = [.int .i64 0, .int .i64 0] := by kernel_rfl
@[go_sem] theorem zd296 : zDs (tz Tryz.prog 296) = some [.int .i64 0, .int .i64 0] := by kernel_rfl
@[go_sem] theorem ti327 : ti Tryz.prog 327 = .sl 405 := by kernel_rfl
@[go_sem] theorem sz327 : tsz Tryz.prog 327 = 1 := by kernel_rfl
@[go_sem] theorem by327 : Tryz.prog.bytesOf 327 = 24 := by kernel_rfl
@[go_sem] theorem zl327 : (tz Tryz.prog 327).length = 1 := by kernel_rfl
@[go_sem] theorem za327 : (tz Tryz.prog 327).map zAV = [.nils] := by kernel_rfl
@[go_sem] theorem zd327 : zDs (tz Tryz.prog 327) = some [.sl []] := by kernel_rfl
@[go_sem] theorem ti342 : ti Tryz.prog 342 = .st [(0, 52), (3, 2), (4, 4)] := by kernel_rfl
@[go_sem] theorem ks342 : structKs Tryz.prog 342 = some [.int .i64, .int .i64, .int .i64, .int .i64, .bool] := by kernel_rfl
@[go_sem] theorem sz342 : tsz Tryz.prog 342 = 5 := by kernel_rfl
@[go_sem] theorem by342 : Tryz.prog.bytesOf 342 = 40 := by kernel_rfl
@[go_sem] theorem zl342 : (tz Tryz.prog 342).length = 5 := by kernel_rfl
@[go_sem] theorem za342 : (tz Tryz.prog 342).map zAV = [.int .i64 0, .int .i64 0, .int .i64 0, .int .i64 0, .bool false] := by kernel_rfl
@[go_sem] theorem zd342 : zDs (tz Tryz.prog 342) = some [.int .i64 0, .int .i64 0, .int .i64 0, .int .i64 0, .bool false] := by kernel_rfl
@[go_sem] theorem ti344 : ti Tryz.prog 344 = .st [(0, 342), (5, 342)] := by kernel_rfl
@[go_sem] theorem ks344 : structKs Tryz.prog 344 = some [.int .i64, .int .i64, .int .i64, .int .i64, .bool, .int .i64, .int .i64, .int .i64, .int .i64, .bool] := by kernel_rfl
@[go_sem] theorem sz344 : tsz Tryz.prog 344 = 10 := by kernel_rfl
@[go_sem] theorem by344 : Tryz.prog.bytesOf 344 = 80 := by kernel_rfl
@[go_sem] theorem zl344 : (tz Tryz.prog 344).length = 10 := by kernel_rfl
@[go_sem] theorem za344 : (tz Tryz.prog 344).map zAV = [.int .i64 0, .int .i64 0, .int .i64 0, .int .i64 0, .bool false, .int .i64 0, .int .i64 0, .int .i64 0, .int .i64 0, .bool false] := by kernel_rfl
@[go_sem] theorem zd344 : zDs (tz Tryz.prog 344) = some [.int .i64 0, .int .i64 0, .int .i64 0, .int .i64 0, .bool false, .int .i64 0, .int .i64 0, .int .i64 0, .int .i64 0, .bool false] := by kernel_rfl
@[go_sem] theorem ti355 : ti Tryz.prog 355 = .sl 358 := by kernel_rfl
@[go_sem] theorem sz355 : tsz Tryz.prog 355 = 1 := by kernel_rfl
@[go_sem] theorem by355 : Tryz.prog.bytesOf 355 = 24 := by kernel_rfl
@[go_sem] theorem zl355 : (tz Tryz.prog 355).length = 1 := by kernel_rfl
@[go_sem] theorem za355 : (tz Tryz.prog 355).map zAV = [.nils] := by kernel_rfl
@[go_sem] theorem zd355 : zDs (tz Tryz.prog 355) = some [.sl []] := by kernel_rfl
@[go_sem] theorem ti358 : ti Tryz.prog 358 = .st [(0, 296), (2, 296)] := by kernel_rfl
@[go_sem] theorem ks358 : structKs Tryz.prog 358 = some [.int .i64, .int .i64, .int .i64, .int .i64] := by kernel_rfl
@[go_sem] theorem sz358 : tsz Tryz.prog 358 = 4 := by kernel_rfl
@[go_sem] theorem by358 : Tryz.prog.bytesOf 358 = 32 := by kernel_rfl
@[go_sem] theorem zl358 : (tz Tryz.prog 358).length = 4 := by kernel_rfl
@[go_sem] theorem za358 : (tz Tryz.prog 358).map zAV = [.int .i64 0, .int .i64 0, .int .i64 0, .int .i64 0] := by kernel_rfl
@[go_sem] theorem zd358 : zDs (tz Tryz.prog 358) = some [.int .i64 0, .int .i64 0, .int .i64 0, .int .i64 0] := by kernel_rfl
@[go_sem] theorem ti360 : ti Tryz.prog 360 = .st [(0, 52), (3, 52)] := by kernel_rfl
@[go_sem] theorem ks360 : structKs Tryz.prog 360 = some [.int .i64, .int .i64, .int .i64, .int .i64, .int .i64, .int .i64] := by kernel_rfl
@[go_sem] theorem sz360 : tsz Tryz.prog 360 = 6 := by kernel_rfl
@[go_sem] theorem by360 : Tryz.prog.bytesOf 360 = 48 := by kernel_rfl
@[go_sem] theorem zl360 : (tz Tryz.prog 360).length = 6 := by kernel_rfl
@[go_sem] theorem za360 : (tz Tryz.prog 360).map zAV = [.int .i64 0, .int .i64 0, .int .i64 0, .int .i64 0, .int .i64 0, .int .i64 0] := by kernel_rfl
@[go_sem] theorem zd360 : zDs (tz Tryz.prog 360) = some [.int .i64 0, .int .i64 0, .int .i64 0, .int .i64 0, .int .i64 0, .int .i64 0] := by kernel_rfl
@[go_sem] theorem ti363 : ti Tryz.prog 363 = .st [(0, 4), (1, 4), (2, 52)] := by kernel_rfl
@[go_sem] theorem ks363 : structKs Tryz.prog 363 = some [.bool, .bool, .int .i64, .int .i64, .int .i64] := by kernel_rfl
@[go_sem] theorem sz363 : tsz Tryz.prog 363 = 5 := by kernel_rfl
@[go_sem] theorem by363 : Tryz.prog.bytesOf 363 = 32 := by kernel_rfl
@[go_sem] theorem zl363 : (tz Tryz.prog 363).length = 5 := by kernel_rfl
@[go_sem] theorem za363 : (tz Tryz.prog 363).map zAV = [.bool false, .bool false, .int .i64 0, .int .i64 0, .int .i64 0] := by kernel_rfl
@[go_sem] theorem zd363 : zDs (tz Tryz.prog 363) = some [.bool false, .bool false, .int .i64 0, .int .i64 0, .int .i64 0] := by kernel_rfl
@[go_sem] theorem ti365 : ti Tryz.prog 365 = .st [(0, 2), (1, 2)] := by kernel_rfl
@[go_sem] theorem ks365 : structKs Tryz.prog 365 = some [.int .i64, .int .i64] := by kernel_rfl
@[go_sem] theorem sz365 : tsz Tryz.prog 365 = 2 := by kernel_rfl
@[go_sem] theorem by365 : Tryz.prog.bytesOf 365 = 16 := by kernel_rfl
@[go_sem] theorem zl365 : (tz Tryz.prog 365).length = 2 := by kernel_rfl
@[go_sem] theorem za365 : (tz Tryz.prog 365).map zAV = [.int .i64 0, .int .i64 0] := by kernel_rfl
@[go_sem] theorem zd365 : zDs (tz Tryz.prog 365) = some [.int .i64 0, .int .i64 0] := by kernel_rfl
@[go_sem] theorem ti385 : ti Tryz.prog 385 = .int .u32 := by kernel_rfl
@[go_sem] theorem sz385 : tsz Tryz.prog 385 = 1 := by kernel_rfl
@[go_sem] theorem by385 : Tryz.prog.bytesOf 385 = 4 := by kernel_rfl
@[go_sem] theorem zl385 : (tz Tryz.prog 385).length = 1 := by kernel_rfl
@[go_sem] theorem za385 : (tz Tryz.prog 385).map zAV = [.int .u32 0] := by kernel_rfl
@[go_sem] theorem zd385 : zDs (tz Tryz.prog 385) = some [.int .u32 0] := by kernel_rfl
@[go_sem] theorem ti386 : ti Tryz.prog 386 = .int .u64 := by kernel_rfl
@[go_sem] theorem sz386 : tsz Tryz.prog 386 = 1 := by kernel_rfl
@[go_sem] theorem by386 : Tryz.prog.bytesOf 386 = 8 := by kernel_rfl
@[go_sem] theorem zl386 : (tz Tryz.prog 386).length = 1 := by kernel_rfl
@[go_sem] theorem za386 : (tz Tryz.prog 386).map zAV = [.int .u64 0] := by kernel_rfl
@[go_sem] theorem zd386 : zDs (tz Tryz.prog 386) = some [.int .u64 0] := by kernel_rfl
@[go_sem] theorem ti395 : ti Tryz.prog 395 = .sl 403 := by kernel_rfl
@[go_sem] theorem sz395 : tsz Tryz.prog 395 = 1 := by kernel_rfl
@[go_sem] theorem by395 : Tryz.prog.bytesOf 395 = 24 := by kernel_rfl
@[go_sem] theorem zl395 : (tz Tryz.prog 395).length = 1 := by kernel_rfl
@[go_sem] theorem za395 : (tz Tryz.prog 395).map zAV = [.nils] := by kernel_rfl
@[go_sem] theorem zd395 : zDs (tz Tryz.prog 395) = some [.sl []] := by kernel_rfl
@[go_sem] theorem ti396 : ti Tryz.prog 396 = .sl 467 := by kernel_rfl
@[go_sem] theorem sz396 : tsz Tryz.prog 396 = 1 := by kernel_rfl
@[go_sem] theorem by396 : Tryz.prog.bytesOf 396 = 24 := by kernel_rfl
@[go_sem] theorem zl396 : (tz Tryz.prog 396).length = 1 := by kernel_rfl
@[go_sem] theorem za396 : (tz Tryz.prog 396).map zAV = [.nils] := by kernel_rfl
@[go_sem] theorem zd396 : zDs (tz Tryz.prog 396) = some [.sl []] := by kernel_rfl
@[go_sem] theorem ti397 : ti Tryz.prog 397 = .sl 470 := by kernel_rfl
@[go_sem] theorem sz397 : tsz Tryz.prog 397 = 1 := by kernel_rfl
@[go_sem] theorem by397 : Tryz.prog.bytesOf 397 = 24 := by kernel_rfl
@[go_sem] theorem zl397 : (tz Tryz.prog 397).length = 1 := by kernel_rfl
@[go_sem] theorem za397 : (tz Tryz.prog 397).map zAV = [.nils] := by kernel_rfl
@[go_sem] theorem zd397 : zDs (tz Tryz.prog 397) = some [.sl []] := by kernel_rfl
@[go_sem] theorem ti399 : ti Tryz.prog 399 = .st [(0, 395), (1, 396), (2, 397)] := by kernel_rfl
@[go_sem] theorem sz399 : tsz Tryz.prog 399 = 3 := by kernel_rfl
@[go_sem] theorem by399 : Tryz.prog.bytesOf 399 = 72 := by kernel_rfl
@[go_sem] theorem zl399 : (tz Tryz.prog 399).length = 3 := by kernel_rfl
@[go_sem] theorem za399 : (tz Tryz.prog 399).map zAV = [.nils, .nils, .nils] := by kernel_rfl
@[go_sem] theorem zd399 : zDs (tz Tryz.prog 399) = some [.sl [], .sl [], .sl []] := by kernel_rfl
@[go_sem] theorem ti401 : ti Tryz.prog 401 = .sl 102 := by kernel_rfl
@[go_sem] theorem sz401 : tsz Tryz.prog 401 = 1 := by kernel_rfl
@[go_sem] theorem by401 : Tryz.prog.bytesOf 401 = 24 := by kernel_rfl
@[go_sem] theorem zl401 : (tz Tryz.prog 401).length = 1 := by kernel_rfl
@[go_sem] theorem za401 : (tz Tryz.prog 401).map zAV = [.nils] := by kernel_rfl
@[go_sem] theorem zd401 : zDs (tz Tryz.prog 401) = some [.sl []] := by kernel_rfl
@[go_sem] theorem ti403 : ti Tryz.prog 403 = .st [(0, 2), (1, 2), (2, 2), (3, 26), (4, 401)] := by kernel_rfl
@[go_sem] theorem sz403 : tsz Tryz.prog 403 = 5 := by kernel_rfl
@[go_sem] theorem by403 : Tryz.prog.bytesOf 403 = 72 := by kernel_rfl
@[go_sem] theorem zl403 : (tz Tryz.prog 403).length = 5 := by kernel_rfl
@[go_sem] theorem za403 : (tz Tryz.prog 403).map zAV = [.int .i64 0, .int .i64 0, .int .i64 0, .nils, .nils] := by kernel_rfl
@[go_sem] theorem zd403 : zDs (tz Tryz.prog 403) = some [.int .i64 0, .int .i64 0, .int .i64 0, .sl [], .sl []] := by kernel_rfl
@[go_sem] theorem ti405 : ti Tryz.prog 405 = .st [(0, 2), (1, 403), (6, 102), (9, 102)] := by kernel_rfl
@[go_sem] theorem sz405 : tsz Tryz.prog 405 = 12 := by kernel_rfl
@[go_sem] theorem by405 : Tryz.prog.bytesOf 405 = 128 := by kernel_rfl
@[go_sem] theorem zl405 : (tz Tryz.prog 405).length = 12 := by kernel_rfl
@[go_sem] theorem za405 : (tz Tryz.prog 405).map zAV = [.int .i64 0, .int .i64 0, .int .i64 0, .int .i64 0, .nils, .nils, .int .i64 0, .int .i64 0, .int .i64 0, .int .i64 0, .int .i64 0, .int .i64 0] := by kernel_rfl
@[go_sem] theorem zd405 : zDs (tz Tryz.prog 405) = some [.int .i64 0, .int .i64 0, .int .i64 0, .int .i64 0, .sl [], .sl [], .int .i64 0, .int .i64 0, .int .i64 0, .int .i64 0, .int .i64 0, .int .i64 0] := by kernel_rfl
@[go_sem] theorem ti446 : ti Tryz.prog 446 = .st [(0, 28), (1, 208), (2, 56), (3, 56), (4, 56), (5, 56)] := by kernel_rfl
@[go_sem] theorem sz446 : tsz Tryz.prog 446 = 6 := by kernel_rfl
@[go_sem] theorem by446 : Tryz.prog.bytesOf 446 = 144 := by kernel_rfl
@[go_sem] theorem zl446 : (tz Tryz.prog 446).length = 6 := by kernel_rfl
@[go_sem] theorem za446 : (tz Tryz.prog 446).map zAV = [.nils, .nils, .nils, .nils, .nils, .nils] := by kernel_rfl
@[go_sem] theorem zd446 : zDs (tz Tryz.prog 446) = some [.sl [], .sl [], .sl [], .sl [], .sl [], .sl []] := by kernel_rfl
@[go_sem] theorem ti455 : ti Tryz.prog 455 = .sl 342 := by kernel_rfl
@[go_sem] theorem sz455 : tsz Tryz.prog 455 = 1 := by kernel_rfl
@[go_sem] theorem by455 : Tryz.prog.bytesOf 455 = 24 := by kernel_rfl
@[go_sem] theorem zl455 : (tz Tryz.prog 455).length = 1 := by kernel_rfl
@[go_sem] theorem za455 : (tz Tryz.prog 455).map zAV = [.nils] := by kernel_rfl
@[go_sem] theorem zd455 : zDs (tz Tryz.prog 455) = some [.sl []] := by kernel_rfl
@[go_sem] theorem ti467 : ti Tryz.prog 467 = .st [(0, 4), (1, 4), (2, 102)] := by kernel_rfl
@[go_sem] theorem ks467 : structKs Tryz.prog 467 = some [.bool, .bool, .int .i64, .int .i64, .int .i64] := by kernel_rfl
@[go_sem] theorem sz467 : tsz Tryz.prog 467 = 5 := by kernel_rfl
@[go_sem] theorem by467 : Tryz.prog.bytesOf 467 = 32 := by kernel_rfl
@[go_sem] theorem zl467 : (tz Tryz.prog 467).length = 5 := by kernel_rfl
@[go_sem] theorem za467 : (tz Tryz.prog 467).map zAV = [.bool false, .bool false, .int .i64 0, .int .i64 0, .int .i64 0] := by kernel_rfl
@[go_sem] theorem zd467 : zDs (tz Tryz.prog 467) = some [.bool false, .bool false, .int .i64 0, .int .i64 0, .int .i64 0] := by kernel_rfl
@[go_sem] theorem ti470 : ti Tryz.prog 470 = .st [(0, 102), (3, 102)] := by kernel_rfl
@[go_sem] theorem ks470 : structKs Tryz.prog 470 = some [.int .i64, .int .i64, .int .i64, .int .i64, .int .i64, .int .i64] := by kernel_rfl
@[go_sem] theorem sz470 : tsz Tryz.prog 470 = 6 := by kernel_rfl
@[go_sem] theorem by470 : Tryz.prog.bytesOf 470 = 48 := by kernel_rfl
@[go_sem] theorem zl470 : (tz Tryz.prog 470).length = 6 := by kernel_rfl
@[go_sem] theorem za470 : (tz Tryz.prog 470).map zAV = [.int .i64 0, .int .i64 0, .int .i64 0, .int .i64 0, .int .i64 0, .int .i64 0] := by kernel_rfl
@[go_sem] theorem zd470 : zDs (tz Tryz.prog 470) = some [.int .i64 0, .int .i64 0, .int .i64 0, .int .i64 0, .int .i64 0, .int .i64 0] := by kernel_rfl
@[go_sem] theorem ti473 : ti Tryz.prog 473 = .arr 13 2 := by kernel_rfl
@[go_sem] theorem sz473 : tsz Tryz.prog 473 = 13 := by kernel_rfl
@[go_sem] theorem by473 : Tryz.prog.bytesOf 473 = 104 := by kernel_rfl
@[go_sem] theorem zl473 : (tz Tryz.prog 473).length = 13 := by kernel_rfl
@[go_sem] theorem za473 : (tz Tryz.prog 473).map zAV = [.int .i64 0, .int .i64 0, .int .i64 0, .int .i64 0, .int .i64 0, .int .i64 0, .int .i64 0, .int .i64 0, .int .i64 0, .int .i64 0, .int .i64 0, .int .i64 0, .int .i64 0] := by kernel_rfl
@[go_sem] theorem zd473 : zDs (tz Tryz.prog 473) = some [.int .i64 0, .int .i64 0, .int .i64 0, .int .i64 0, .int .i64 0, .int .i64 0, .int .i64 0, .int .i64 0, .int .i64 0, .int .i64 0, .int .i64 0, .int .i64 0, .int .i64 0] := by kernel_rfl
theorem mixed : Tryz.prog.follows .mixedOrders = true := Tryz.checked.mixed
attribute [go_sem] Nat.reduceAdd Nat.reduceMul reduceIte Nat.reduceEqDiff Nat.reduceLeDiff Nat.reduceLT
end Go.Proofs.YtlmanchbpommaaaGreat.Ab
