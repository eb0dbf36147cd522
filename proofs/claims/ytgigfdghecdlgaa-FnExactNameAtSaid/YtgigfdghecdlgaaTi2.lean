/-
  What the walk asks of each type. Printed by wip/ab/gen_ti.py.
-/
import Derived.Test.YtgigfdghecdlgaaRows
import Derived.Test.YtgigfdghecdlgaaAbC
namespace Go.Proofs.Ytgigfdghecdlgaa.Ab
open Go.RowKit

@[go_sem] theorem ti2 : ti Try.prog 2 = .int .i64 := by kernel_rfl
@[go_sem] theorem sz2 : tsz Try.prog 2 = 1 := by kernel_rfl
@[go_sem] theorem by2 : Try.prog.bytesOf 2 = 8 := by kernel_rfl
@[go_sem] theorem zl2 : (tz Try.prog 2).length = 1 := by kernel_rfl
@[go_sem] theorem za2 : (tz Try.prog 2).map zAV = [.int .i64 0] := by kernel_rfl
@[go_sem] theorem zd2 : zDs (tz Try.prog 2) = some [.int .i64 0] := by kernel_rfl
@[go_sem] theorem ti3 : ti Try.prog 3 = .int .i64 := by kernel_rfl
@[go_sem] theorem sz3 : tsz Try.prog 3 = 1 := by kernel_rfl
@[go_sem] theorem by3 : Try.prog.bytesOf 3 = 8 := by kernel_rfl
@[go_sem] theorem zl3 : (tz Try.prog 3).length = 1 := by kernel_rfl
@[go_sem] theorem za3 : (tz Try.prog 3).map zAV = [.int .i64 0] := by kernel_rfl
@[go_sem] theorem zd3 : zDs (tz Try.prog 3) = some [.int .i64 0] := by kernel_rfl
@[go_sem] theorem ti4 : ti Try.prog 4 = .bool := by kernel_rfl
@[go_sem] theorem sz4 : tsz Try.prog 4 = 1 := by kernel_rfl
@[go_sem] theorem by4 : Try.prog.bytesOf 4 = 1 := by kernel_rfl
@[go_sem] theorem zl4 : (tz Try.prog 4).length = 1 := by kernel_rfl
@[go_sem] theorem za4 : (tz Try.prog 4).map zAV = [.bool false] := by kernel_rfl
@[go_sem] theorem zd4 : zDs (tz Try.prog 4) = some [.bool false] := by kernel_rfl
@[go_sem] theorem ti5 : ti Try.prog 5 = .int .u8 := by kernel_rfl
@[go_sem] theorem sz5 : tsz Try.prog 5 = 1 := by kernel_rfl
@[go_sem] theorem by5 : Try.prog.bytesOf 5 = 1 := by kernel_rfl
@[go_sem] theorem zl5 : (tz Try.prog 5).length = 1 := by kernel_rfl
@[go_sem] theorem za5 : (tz Try.prog 5).map zAV = [.int .u8 0] := by kernel_rfl
@[go_sem] theorem zd5 : zDs (tz Try.prog 5) = some [.int .u8 0] := by kernel_rfl
@[go_sem] theorem ti9 : ti Try.prog 9 = .str := by kernel_rfl
@[go_sem] theorem sz9 : tsz Try.prog 9 = 1 := by kernel_rfl
@[go_sem] theorem by9 : Try.prog.bytesOf 9 = 16 := by kernel_rfl
@[go_sem] theorem zl9 : (tz Try.prog 9).length = 1 := by kernel_rfl
@[go_sem] theorem za9 : (tz Try.prog 9).map zAV = [.str ByteArray.empty] := by kernel_rfl
@[go_sem] theorem zd9 : zDs (tz Try.prog 9) = some [.str ByteArray.empty] := by kernel_rfl
@[go_sem] theorem ti22 : ti Try.prog 22 = .sl 2 := by kernel_rfl
@[go_sem] theorem sz22 : tsz Try.prog 22 = 1 := by kernel_rfl
@[go_sem] theorem by22 : Try.prog.bytesOf 22 = 24 := by kernel_rfl
@[go_sem] theorem zl22 : (tz Try.prog 22).length = 1 := by kernel_rfl
@[go_sem] theorem za22 : (tz Try.prog 22).map zAV = [.nils] := by kernel_rfl
@[go_sem] theorem zd22 : zDs (tz Try.prog 22) = some [.sl []] := by kernel_rfl
@[go_sem] theorem ti23 : ti Try.prog 23 = .sl 25 := by kernel_rfl
@[go_sem] theorem sz23 : tsz Try.prog 23 = 1 := by kernel_rfl
@[go_sem] theorem by23 : Try.prog.bytesOf 23 = 24 := by kernel_rfl
@[go_sem] theorem zl23 : (tz Try.prog 23).length = 1 := by kernel_rfl
@[go_sem] theorem za23 : (tz Try.prog 23).map zAV = [.nils] := by kernel_rfl
@[go_sem] theorem zd23 : zDs (tz Try.prog 23) = some [.sl []] := by kernel_rfl
@[go_sem] theorem ti25 : ti Try.prog 25 = .st [(0, 2), (1, 2), (2, 22), (3, 23)] := by kernel_rfl
@[go_sem] theorem sz25 : tsz Try.prog 25 = 4 := by kernel_rfl
@[go_sem] theorem by25 : Try.prog.bytesOf 25 = 64 := by kernel_rfl
@[go_sem] theorem zl25 : (tz Try.prog 25).length = 4 := by kernel_rfl
@[go_sem] theorem za25 : (tz Try.prog 25).map zAV = [.int .i64 0, .int .i64 0, .nils, .nils] := by kernel_rfl
@[go_sem] theorem zd25 : zDs (tz Try.prog 25) = some [.int .i64 0, .int .i64 0, .sl [], .sl []] := by kernel_rfl
@[go_sem] theorem ti26 : ti Try.prog 26 = .sl 9 := by kernel_rfl
@[go_sem] theorem sz26 : tsz Try.prog 26 = 1 := by kernel_rfl
@[go_sem] theorem by26 : Try.prog.bytesOf 26 = 24 := by kernel_rfl
@[go_sem] theorem zl26 : (tz Try.prog 26).length = 1 := by kernel_rfl
@[go_sem] theorem za26 : (tz Try.prog 26).map zAV = [.nils] := by kernel_rfl
@[go_sem] theorem zd26 : zDs (tz Try.prog 26) = some [.sl []] := by kernel_rfl
@[go_sem] theorem ti28 : ti Try.prog 28 = .st [(0, 25), (4, 26)] := by kernel_rfl
@[go_sem] theorem sz28 : tsz Try.prog 28 = 5 := by kernel_rfl
@[go_sem] theorem by28 : Try.prog.bytesOf 28 = 88 := by kernel_rfl
@[go_sem] theorem zl28 : (tz Try.prog 28).length = 5 := by kernel_rfl
@[go_sem] theorem za28 : (tz Try.prog 28).map zAV = [.int .i64 0, .int .i64 0, .nils, .nils, .nils] := by kernel_rfl
@[go_sem] theorem zd28 : zDs (tz Try.prog 28) = some [.int .i64 0, .int .i64 0, .sl [], .sl [], .sl []] := by kernel_rfl
@[go_sem] theorem ti32 : ti Try.prog 32 = .sl 34 := by kernel_rfl
@[go_sem] theorem sz32 : tsz Try.prog 32 = 1 := by kernel_rfl
@[go_sem] theorem by32 : Try.prog.bytesOf 32 = 24 := by kernel_rfl
@[go_sem] theorem zl32 : (tz Try.prog 32).length = 1 := by kernel_rfl
@[go_sem] theorem za32 : (tz Try.prog 32).map zAV = [.nils] := by kernel_rfl
@[go_sem] theorem zd32 : zDs (tz Try.prog 32) = some [.sl []] := by kernel_rfl
@[go_sem] theorem ti34 : ti Try.prog 34 = .st [(0, 2), (1, 2), (2, 22), (3, 32)] := by kernel_rfl
@[go_sem] theorem sz34 : tsz Try.prog 34 = 4 := by kernel_rfl
@[go_sem] theorem by34 : Try.prog.bytesOf 34 = 64 := by kernel_rfl
@[go_sem] theorem zl34 : (tz Try.prog 34).length = 4 := by kernel_rfl
@[go_sem] theorem za34 : (tz Try.prog 34).map zAV = [.int .i64 0, .int .i64 0, .nils, .nils] := by kernel_rfl
@[go_sem] theorem zd34 : zDs (tz Try.prog 34) = some [.int .i64 0, .int .i64 0, .sl [], .sl []] := by kernel_rfl
@[go_sem] theorem ti36 : ti Try.prog 36 = .st [(0, 34), (4, 26)] := by kernel_rfl
@[go_sem] theorem sz36 : tsz Try.prog 36 = 5 := by kernel_rfl
@[go_sem] theorem by36 : Try.prog.bytesOf 36 = 88 := by kernel_rfl
@[go_sem] theorem zl36 : (tz Try.prog 36).length = 5 := by kernel_rfl
@[go_sem] theorem za36 : (tz Try.prog 36).map zAV = [.int .i64 0, .int .i64 0, .nils, .nils, .nils] := by kernel_rfl
@[go_sem] theorem zd36 : zDs (tz Try.prog 36) = some [.int .i64 0, .int .i64 0, .sl [], .sl [], .sl []] := by kernel_rfl
@[go_sem] theorem ti57 : ti Try.prog 57 = .ptr 87 := by kernel_rfl
@[go_sem] theorem sz57 : tsz Try.prog 57 = 1 := by kernel_rfl
@[go_sem] theorem by57 : Try.prog.bytesOf 57 = 8 := by kernel_rfl
@[go_sem] theorem zl57 : (tz Try.prog 57).length = 1 := by kernel_rfl
@[go_sem] theorem za57 : (tz Try.prog 57).map zAV = [.nilp] := by kernel_rfl
@[go_sem] theorem ti59 : ti Try.prog 59 = .sl 57 := by kernel_rfl
@[go_sem] theorem sz59 : tsz Try.prog 59 = 1 := by kernel_rfl
@[go_sem] theorem by59 : Try.prog.bytesOf 59 = 24 := by kernel_rfl
@[go_sem] theorem zl59 : (tz Try.prog 59).length = 1 := by kernel_rfl
@[go_sem] theorem za59 : (tz Try.prog 59).map zAV = [.nils] := by kernel_rfl
@[go_sem] theorem zd59 : zDs (tz Try.prog 59) = some [.sl []] := by kernel_rfl
@[go_sem] theorem ti75 : ti Try.prog 75 = .sl 77 := by kernel_rfl
@[go_sem] theorem sz75 : tsz Try.prog 75 = 1 := by kernel_rfl
@[go_sem] theorem by75 : Try.prog.bytesOf 75 = 24 := by kernel_rfl
@[go_sem] theorem zl75 : (tz Try.prog 75).length = 1 := by kernel_rfl
@[go_sem] theorem za75 : (tz Try.prog 75).map zAV = [.nils] := by kernel_rfl
@[go_sem] theorem zd75 : zDs (tz Try.prog 75) = some [.sl []] := by kernel_rfl
@[go_sem] theorem ti77 : ti Try.prog 77 = .st [(0, 2), (1, 2), (2, 22), (3, 9), (4, 75)] := by kernel_rfl
@[go_sem] theorem sz77 : tsz Try.prog 77 = 5 := by kernel_rfl
@[go_sem] theorem by77 : Try.prog.bytesOf 77 = 80 := by kernel_rfl
@[go_sem] theorem zl77 : (tz Try.prog 77).length = 5 := by kernel_rfl
@[go_sem] theorem za77 : (tz Try.prog 77).map zAV = [.int .i64 0, .int .i64 0, .nils, .str ByteArray.empty, .nils] := by kernel_rfl
@[go_sem] theorem zd77 : zDs (tz Try.prog 77) = some [.int .i64 0, .int .i64 0, .sl [], .str ByteArray.empty, .sl []] := by kernel_rfl
@[go_sem] theorem ti83 : ti Try.prog 83 = .fn := by kernel_rfl
@[go_sem] theorem sz83 : tsz Try.prog 83 = 1 := by kernel_rfl
@[go_sem] theorem by83 : Try.prog.bytesOf 83 = 8 := by kernel_rfl
@[go_sem] theorem zl83 : (tz Try.prog 83).length = 1 := by kernel_rfl
@[go_sem] theorem ti87 : ti Try.prog 87 = .st [(0, 34), (4, 9), (5, 2), (6, 59)] := by kernel_rfl
@[go_sem] theorem sz87 : tsz Try.prog 87 = 7 := by kernel_rfl
@[go_sem] theorem by87 : Try.prog.bytesOf 87 = 112 := by kernel_rfl
@[go_sem] theorem zl87 : (tz Try.prog 87).length = 7 := by kernel_rfl
@[go_sem] theorem za87 : (tz Try.prog 87).map zAV = [.int .i64 0, .int .i64 0, .nils, .nils, .str ByteArray.empty, .int .i64 0, .nils] := by kernel_rfl
@[go_sem] theorem zd87 : zDs (tz Try.prog 87) = some [.int .i64 0, .int .i64 0, .sl [], .sl [], .str ByteArray.empty, .int .i64 0, .sl []] := by kernel_rfl
@[go_sem] theorem ti93 : ti Try.prog 93 = .sl 5 := by kernel_rfl
@[go_sem] theorem sz93 : tsz Try.prog 93 = 1 := by kernel_rfl
@[go_sem] theorem by93 : Try.prog.bytesOf 93 = 24 := by kernel_rfl
@[go_sem] theorem zl93 : (tz Try.prog 93).length = 1 := by kernel_rfl
@[go_sem] theorem za93 : (tz Try.prog 93).map zAV = [.nils] := by kernel_rfl
@[go_sem] theorem zd93 : zDs (tz Try.prog 93) = some [.sl []] := by kernel_rfl
theorem mixed : Try.prog.follows .mixedOrders = true := Try.checked.mixed
attribute [go_sem] Nat.reduceAdd Nat.reduceMul reduceIte Nat.reduceEqDiff Nat.reduceLeDiff Nat.reduceLT
end Go.Proofs.Ytgigfdghecdlgaa.Ab
