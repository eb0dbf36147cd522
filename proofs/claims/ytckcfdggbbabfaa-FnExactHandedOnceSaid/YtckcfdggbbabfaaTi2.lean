/-
  What the walk asks of each type. Printed by wip/ab/gen_ti.py.
-/
import Derived.Test.YtckcfdggbbabfaaRows
import Derived.Test.YtckcfdggbbabfaaAbC
namespace Go.Proofs.Ytckcfdggbbabfaa.Ab
open Go.RowKit

@[go_sem] theorem ti2 : ti Try.prog 2 = .int .i64 := by kernel_rfl
@[go_sem] theorem sz2 : tsz Try.prog 2 = 1 := by kernel_rfl
@[go_sem] theorem by2 : Try.prog.bytesOf 2 = 8 := by kernel_rfl
@[go_sem] theorem zl2 : (tz Try.prog 2).length = 1 := by kernel_rfl
@[go_sem] theorem za2 : (tz Try.prog 2).map zAV = [.int .i64 0] := by kernel_rfl
@[go_sem] theorem zd2 : zDs (tz Try.prog 2) = some [.int .i64 0] := by kernel_rfl
@[go_sem] theorem ti3 : ti Try.prog 3 = .int .i64 := by kernel_rfl
@[go_sem] theorem sz3 : tsz Try.prog 3 = 1 := by kernel_rfl
@[go_sem] theorem by3 : Try.prog.bytesOf 3 = 8 := by kernel_rfl
@[go_sem] theorem zl3 : (tz Try.prog 3).length = 1 := by kernel_rfl
@[go_sem] theorem za3 : (tz Try.prog 3).map zAV = [.int .i64 0] := by kernel_rfl
@[go_sem] theorem zd3 : zDs (tz Try.prog 3) = some [.int .i64 0] := by kernel_rfl
@[go_sem] theorem ti4 : ti Try.prog 4 = .bool := by kernel_rfl
@[go_sem] theorem sz4 : tsz Try.prog 4 = 1 := by kernel_rfl
@[go_sem] theorem by4 : Try.prog.bytesOf 4 = 1 := by kernel_rfl
@[go_sem] theorem zl4 : (tz Try.prog 4).length = 1 := by kernel_rfl
@[go_sem] theorem za4 : (tz Try.prog 4).map zAV = [.bool false] := by kernel_rfl
@[go_sem] theorem zd4 : zDs (tz Try.prog 4) = some [.bool false] := by kernel_rfl
@[go_sem] theorem ti22 : ti Try.prog 22 = .sl 2 := by kernel_rfl
@[go_sem] theorem sz22 : tsz Try.prog 22 = 1 := by kernel_rfl
@[go_sem] theorem by22 : Try.prog.bytesOf 22 = 24 := by kernel_rfl
@[go_sem] theorem zl22 : (tz Try.prog 22).length = 1 := by kernel_rfl
@[go_sem] theorem za22 : (tz Try.prog 22).map zAV = [.nils] := by kernel_rfl
@[go_sem] theorem zd22 : zDs (tz Try.prog 22) = some [.sl []] := by kernel_rfl
@[go_sem] theorem ti23 : ti Try.prog 23 = .sl 53 := by kernel_rfl
@[go_sem] theorem sz23 : tsz Try.prog 23 = 1 := by kernel_rfl
@[go_sem] theorem by23 : Try.prog.bytesOf 23 = 24 := by kernel_rfl
@[go_sem] theorem zl23 : (tz Try.prog 23).length = 1 := by kernel_rfl
@[go_sem] theorem za23 : (tz Try.prog 23).map zAV = [.nils] := by kernel_rfl
@[go_sem] theorem zd23 : zDs (tz Try.prog 23) = some [.sl []] := by kernel_rfl
@[go_sem] theorem ti24 : ti Try.prog 24 = .sl 63 := by kernel_rfl
@[go_sem] theorem sz24 : tsz Try.prog 24 = 1 := by kernel_rfl
@[go_sem] theorem by24 : Try.prog.bytesOf 24 = 24 := by kernel_rfl
@[go_sem] theorem zl24 : (tz Try.prog 24).length = 1 := by kernel_rfl
@[go_sem] theorem za24 : (tz Try.prog 24).map zAV = [.nils] := by kernel_rfl
@[go_sem] theorem zd24 : zDs (tz Try.prog 24) = some [.sl []] := by kernel_rfl
@[go_sem] theorem ti26 : ti Try.prog 26 = .st [(0, 2), (1, 2), (2, 22), (3, 23), (4, 24), (5, 22)] := by kernel_rfl
@[go_sem] theorem sz26 : tsz Try.prog 26 = 6 := by kernel_rfl
@[go_sem] theorem by26 : Try.prog.bytesOf 26 = 112 := by kernel_rfl
@[go_sem] theorem zl26 : (tz Try.prog 26).length = 6 := by kernel_rfl
@[go_sem] theorem za26 : (tz Try.prog 26).map zAV = [.int .i64 0, .int .i64 0, .nils, .nils, .nils, .nils] := by kernel_rfl
@[go_sem] theorem zd26 : zDs (tz Try.prog 26) = some [.int .i64 0, .int .i64 0, .sl [], .sl [], .sl [], .sl []] := by kernel_rfl
@[go_sem] theorem ti29 : ti Try.prog 29 = .sl 58 := by kernel_rfl
@[go_sem] theorem sz29 : tsz Try.prog 29 = 1 := by kernel_rfl
@[go_sem] theorem by29 : Try.prog.bytesOf 29 = 24 := by kernel_rfl
@[go_sem] theorem zl29 : (tz Try.prog 29).length = 1 := by kernel_rfl
@[go_sem] theorem za29 : (tz Try.prog 29).map zAV = [.nils] := by kernel_rfl
@[go_sem] theorem zd29 : zDs (tz Try.prog 29) = some [.sl []] := by kernel_rfl
@[go_sem] theorem ti30 : ti Try.prog 30 = .sl 60 := by kernel_rfl
@[go_sem] theorem sz30 : tsz Try.prog 30 = 1 := by kernel_rfl
@[go_sem] theorem by30 : Try.prog.bytesOf 30 = 24 := by kernel_rfl
@[go_sem] theorem zl30 : (tz Try.prog 30).length = 1 := by kernel_rfl
@[go_sem] theorem za30 : (tz Try.prog 30).map zAV = [.nils] := by kernel_rfl
@[go_sem] theorem zd30 : zDs (tz Try.prog 30) = some [.sl []] := by kernel_rfl
@[go_sem] theorem ti32 : ti Try.prog 32 = .st [(0, 2), (1, 2), (2, 22), (3, 29), (4, 30), (5, 22)] := by kernel_rfl
@[go_sem] theorem sz32 : tsz Try.prog 32 = 6 := by kernel_rfl
@[go_sem] theorem by32 : Try.prog.bytesOf 32 = 112 := by kernel_rfl
@[go_sem] theorem zl32 : (tz Try.prog 32).length = 6 := by kernel_rfl
@[go_sem] theorem za32 : (tz Try.prog 32).map zAV = [.int .i64 0, .int .i64 0, .nils, .nils, .nils, .nils] := by kernel_rfl
@[go_sem] theorem zd32 : zDs (tz Try.prog 32) = some [.int .i64 0, .int .i64 0, .sl [], .sl [], .sl [], .sl []] := by kernel_rfl
@[go_sem] theorem ti53 : ti Try.prog 53 = .st [(0, 22), (1, 2), (2, 2), (3, 2), (4, 2)] := by kernel_rfl
@[go_sem] theorem sz53 : tsz Try.prog 53 = 5 := by kernel_rfl
@[go_sem] theorem by53 : Try.prog.bytesOf 53 = 56 := by kernel_rfl
@[go_sem] theorem zl53 : (tz Try.prog 53).length = 5 := by kernel_rfl
@[go_sem] theorem za53 : (tz Try.prog 53).map zAV = [.nils, .int .i64 0, .int .i64 0, .int .i64 0, .int .i64 0] := by kernel_rfl
@[go_sem] theorem zd53 : zDs (tz Try.prog 53) = some [.sl [], .int .i64 0, .int .i64 0, .int .i64 0, .int .i64 0] := by kernel_rfl
@[go_sem] theorem ti58 : ti Try.prog 58 = .st [(0, 22), (1, 2), (2, 2), (3, 2), (4, 2)] := by kernel_rfl
@[go_sem] theorem sz58 : tsz Try.prog 58 = 5 := by kernel_rfl
@[go_sem] theorem by58 : Try.prog.bytesOf 58 = 56 := by kernel_rfl
@[go_sem] theorem zl58 : (tz Try.prog 58).length = 5 := by kernel_rfl
@[go_sem] theorem za58 : (tz Try.prog 58).map zAV = [.nils, .int .i64 0, .int .i64 0, .int .i64 0, .int .i64 0] := by kernel_rfl
@[go_sem] theorem zd58 : zDs (tz Try.prog 58) = some [.sl [], .int .i64 0, .int .i64 0, .int .i64 0, .int .i64 0] := by kernel_rfl
@[go_sem] theorem ti60 : ti Try.prog 60 = .st [(0, 2), (1, 2)] := by kernel_rfl
@[go_sem] theorem ks60 : structKs Try.prog 60 = some [.int .i64, .int .i64] := by kernel_rfl
@[go_sem] theorem sz60 : tsz Try.prog 60 = 2 := by kernel_rfl
@[go_sem] theorem by60 : Try.prog.bytesOf 60 = 16 := by kernel_rfl
@[go_sem] theorem zl60 : (tz Try.prog 60).length = 2 := by kernel_rfl
@[go_sem] theorem za60 : (tz Try.prog 60).map zAV = [.int .i64 0, .int .i64 0] := by kernel_rfl
@[go_sem] theorem zd60 : zDs (tz Try.prog 60) = some [.int .i64 0, .int .i64 0] := by kernel_rfl
@[go_sem] theorem ti63 : ti Try.prog 63 = .st [(0, 2), (1, 2)] := by kernel_rfl
@[go_sem] theorem ks63 : structKs Try.prog 63 = some [.int .i64, .int .i64] := by kernel_rfl
@[go_sem] theorem sz63 : tsz Try.prog 63 = 2 := by kernel_rfl
@[go_sem] theorem by63 : Try.prog.bytesOf 63 = 16 := by kernel_rfl
@[go_sem] theorem zl63 : (tz Try.prog 63).length = 2 := by kernel_rfl
@[go_sem] theorem za63 : (tz Try.prog 63).map zAV = [.int .i64 0, .int .i64 0] := by kernel_rfl
@[go_sem] theorem zd63 : zDs (tz Try.prog 63) = some [.int .i64 0, .int .i64 0] := by kernel_rfl
@[go_sem] theorem ti81 : ti Try.prog 81 = .sl 22 := by kernel_rfl
@[go_sem] theorem sz81 : tsz Try.prog 81 = 1 := by kernel_rfl
@[go_sem] theorem by81 : Try.prog.bytesOf 81 = 24 := by kernel_rfl
@[go_sem] theorem zl81 : (tz Try.prog 81).length = 1 := by kernel_rfl
@[go_sem] theorem za81 : (tz Try.prog 81).map zAV = [.nils] := by kernel_rfl
@[go_sem] theorem zd81 : zDs (tz Try.prog 81) = some [.sl []] := by kernel_rfl
@[go_sem] theorem ti87 : ti Try.prog 87 = .int .u64 := by kernel_rfl
@[go_sem] theorem sz87 : tsz Try.prog 87 = 1 := by kernel_rfl
@[go_sem] theorem by87 : Try.prog.bytesOf 87 = 8 := by kernel_rfl
@[go_sem] theorem zl87 : (tz Try.prog 87).length = 1 := by kernel_rfl
@[go_sem] theorem za87 : (tz Try.prog 87).map zAV = [.int .u64 0] := by kernel_rfl
@[go_sem] theorem zd87 : zDs (tz Try.prog 87) = some [.int .u64 0] := by kernel_rfl
@[go_sem] theorem ti92 : ti Try.prog 92 = .int .i64 := by kernel_rfl
@[go_sem] theorem sz92 : tsz Try.prog 92 = 1 := by kernel_rfl
@[go_sem] theorem by92 : Try.prog.bytesOf 92 = 8 := by kernel_rfl
@[go_sem] theorem zl92 : (tz Try.prog 92).length = 1 := by kernel_rfl
@[go_sem] theorem za92 : (tz Try.prog 92).map zAV = [.int .i64 0] := by kernel_rfl
@[go_sem] theorem zd92 : zDs (tz Try.prog 92) = some [.int .i64 0] := by kernel_rfl
@[go_sem] theorem ti105 : ti Try.prog 105 = .int .u64 := by kernel_rfl
@[go_sem] theorem sz105 : tsz Try.prog 105 = 1 := by kernel_rfl
@[go_sem] theorem by105 : Try.prog.bytesOf 105 = 8 := by kernel_rfl
@[go_sem] theorem zl105 : (tz Try.prog 105).length = 1 := by kernel_rfl
@[go_sem] theorem za105 : (tz Try.prog 105).map zAV = [.int .u64 0] := by kernel_rfl
@[go_sem] theorem zd105 : zDs (tz Try.prog 105) = some [.int .u64 0] := by kernel_rfl
theorem mixed : Try.prog.follows .mixedOrders = true := Try.checked.mixed
attribute [go_sem] Nat.reduceAdd Nat.reduceMul reduceIte Nat.reduceEqDiff Nat.reduceLeDiff Nat.reduceLT
end Go.Proofs.Ytckcfdggbbabfaa.Ab
