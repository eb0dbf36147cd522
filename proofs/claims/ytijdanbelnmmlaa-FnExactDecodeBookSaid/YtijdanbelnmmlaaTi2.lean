/-
  What the walk asks of each type. Printed by wip/ab/gen_ti.py.
-/
import Derived.Test.YtijdanbelnmmlaaRows
import Derived.Test.YtijdanbelnmmlaaAbC
namespace Go.Proofs.Ytijdanbelnmmlaa.Ab
open Go.RowKit
@[go_sem] theorem ti2:ti Try.prog 2= .int .i64 :=by kernel_rfl
@[go_sem] theorem sz2:tsz Try.prog 2=1:=by kernel_rfl
@[go_sem] theorem by2:Try.prog.bytesOf 2=8:=by kernel_rfl
@[go_sem] theorem zl2:(tz Try.prog 2).length =1:=by kernel_rfl
@[go_sem] theorem za2:(tz Try.prog 2).map zAV=[.int .i64 0] :=by kernel_rfl
@[go_sem] theorem zd2:zDs (tz Try.prog 2)=some [.int .i64 0] :=by kernel_rfl
@[go_sem] theorem ti3:ti Try.prog 3= .int .i64 :=by kernel_rfl
@[go_sem] theorem sz3:tsz Try.prog 3=1:=by kernel_rfl
@[go_sem] theorem by3:Try.prog.bytesOf 3=8:=by kernel_rfl
@[go_sem] theorem zl3:(tz Try.prog 3).length =1:=by kernel_rfl
@[go_sem] theorem za3:(tz Try.prog 3).map zAV=[.int .i64 0] :=by kernel_rfl
@[go_sem] theorem zd3:zDs (tz Try.prog 3)=some [.int .i64 0] :=by kernel_rfl
@[go_sem] theorem ti4:ti Try.prog 4= .bool :=by kernel_rfl
@[go_sem] theorem sz4:tsz Try.prog 4=1:=by kernel_rfl
@[go_sem] theorem by4:Try.prog.bytesOf 4=1:=by kernel_rfl
@[go_sem] theorem zl4:(tz Try.prog 4).length =1:=by kernel_rfl
@[go_sem] theorem za4:(tz Try.prog 4).map zAV=[.bool false] :=by kernel_rfl
@[go_sem] theorem zd4:zDs (tz Try.prog 4)=some [.bool false] :=by kernel_rfl
@[go_sem] theorem ti5:ti Try.prog 5= .int .u8 :=by kernel_rfl
@[go_sem] theorem sz5:tsz Try.prog 5=1:=by kernel_rfl
@[go_sem] theorem by5:Try.prog.bytesOf 5=1:=by kernel_rfl
@[go_sem] theorem zl5:(tz Try.prog 5).length =1:=by kernel_rfl
@[go_sem] theorem za5:(tz Try.prog 5).map zAV=[.int .u8 0] :=by kernel_rfl
@[go_sem] theorem zd5:zDs (tz Try.prog 5)=some [.int .u8 0] :=by kernel_rfl
@[go_sem] theorem cY:ti Try.prog 22= .sl 5:=by kernel_rfl
@[go_sem] theorem cZ:tsz Try.prog 22=1:=by kernel_rfl
@[go_sem] theorem ca:Try.prog.bytesOf 22=24:=by kernel_rfl
@[go_sem] theorem cc:(tz Try.prog 22).length =1:=by kernel_rfl
@[go_sem] theorem cd:(tz Try.prog 22).map zAV=[.nils] :=by kernel_rfl
@[go_sem] theorem ce:zDs (tz Try.prog 22)=some [.sl []] :=by kernel_rfl
@[go_sem] theorem cf:ti Try.prog 23= .sl 42:=by kernel_rfl
@[go_sem] theorem cg:tsz Try.prog 23=1:=by kernel_rfl
@[go_sem] theorem ci:Try.prog.bytesOf 23=24:=by kernel_rfl
@[go_sem] theorem cj:(tz Try.prog 23).length =1:=by kernel_rfl
@[go_sem] theorem ck:(tz Try.prog 23).map zAV=[.nils] :=by kernel_rfl
@[go_sem] theorem cm:zDs (tz Try.prog 23)=some [.sl []] :=by kernel_rfl
@[go_sem] theorem cn:ti Try.prog 25= .st [(0,23)] :=by kernel_rfl
@[go_sem] theorem cp:tsz Try.prog 25=1:=by kernel_rfl
@[go_sem] theorem cq:Try.prog.bytesOf 25=24:=by kernel_rfl
@[go_sem] theorem cr:(tz Try.prog 25).length =1:=by kernel_rfl
@[go_sem] theorem ct:(tz Try.prog 25).map zAV=[.nils] :=by kernel_rfl
@[go_sem] theorem cu:zDs (tz Try.prog 25)=some [.sl []] :=by kernel_rfl
@[go_sem] theorem cw:ti Try.prog 39= .st [(0,22),(1,3),(2,4)] :=by kernel_rfl
@[go_sem] theorem cy:tsz Try.prog 39=3:=by kernel_rfl
@[go_sem] theorem cz:Try.prog.bytesOf 39=40:=by kernel_rfl
@[go_sem] theorem c0:(tz Try.prog 39).length =3:=by kernel_rfl
@[go_sem] theorem c7:(tz Try.prog 39).map zAV=[.nils,.int .i64 0,.bool false] :=by kernel_rfl
@[go_sem] theorem c8:zDs (tz Try.prog 39)=some [.sl [],.int .i64 0,.bool false] :=by kernel_rfl
@[go_sem] theorem c9:ti Try.prog 40= .sl 2:=by kernel_rfl
@[go_sem] theorem dA:tsz Try.prog 40=1:=by kernel_rfl
@[go_sem] theorem dB:Try.prog.bytesOf 40=24:=by kernel_rfl
@[go_sem] theorem dC:(tz Try.prog 40).length =1:=by kernel_rfl
@[go_sem] theorem dD:(tz Try.prog 40).map zAV=[.nils] :=by kernel_rfl
@[go_sem] theorem dE:zDs (tz Try.prog 40)=some [.sl []] :=by kernel_rfl
@[go_sem] theorem dF:ti Try.prog 42= .st [(0,2),(1,2),(2,40),(3,23)] :=by kernel_rfl
@[go_sem] theorem dG:tsz Try.prog 42=4:=by kernel_rfl
@[go_sem] theorem dH:Try.prog.bytesOf 42=64:=by kernel_rfl
@[go_sem] theorem dI:(tz Try.prog 42).length =4:=by kernel_rfl
@[go_sem] theorem dJ:(tz Try.prog 42).map zAV=[.int .i64 0,.int .i64 0,.nils,.nils] :=by kernel_rfl
@[go_sem] theorem dK:zDs (tz Try.prog 42)=some [.int .i64 0,.int .i64 0,.sl [],.sl []] :=by kernel_rfl
@[go_sem] theorem dL:ti Try.prog 56= .int .u64 :=by kernel_rfl
@[go_sem] theorem dM:tsz Try.prog 56=1:=by kernel_rfl
@[go_sem] theorem dN:Try.prog.bytesOf 56=8:=by kernel_rfl
@[go_sem] theorem dO:(tz Try.prog 56).length =1:=by kernel_rfl
@[go_sem] theorem dP:(tz Try.prog 56).map zAV=[.int .u64 0] :=by kernel_rfl
@[go_sem] theorem dQ:zDs (tz Try.prog 56)=some [.int .u64 0] :=by kernel_rfl
@[go_sem] theorem dR:ti Try.prog 63= .st [(0,22),(1,2),(2,4)] :=by kernel_rfl
@[go_sem] theorem dS:tsz Try.prog 63=3:=by kernel_rfl
@[go_sem] theorem dT:Try.prog.bytesOf 63=40:=by kernel_rfl
@[go_sem] theorem dU:(tz Try.prog 63).length =3:=by kernel_rfl
@[go_sem] theorem dV:(tz Try.prog 63).map zAV=[.nils,.int .i64 0,.bool false] :=by kernel_rfl
@[go_sem] theorem dW:zDs (tz Try.prog 63)=some [.sl [],.int .i64 0,.bool false] :=by kernel_rfl
@[go_sem] theorem dX:ti Try.prog 72= .int .u32 :=by kernel_rfl
@[go_sem] theorem dY:tsz Try.prog 72=1:=by kernel_rfl
@[go_sem] theorem dZ:Try.prog.bytesOf 72=4:=by kernel_rfl
@[go_sem] theorem da:(tz Try.prog 72).length =1:=by kernel_rfl
@[go_sem] theorem db:(tz Try.prog 72).map zAV=[.int .u32 0] :=by kernel_rfl
@[go_sem] theorem dc:zDs (tz Try.prog 72)=some [.int .u32 0] :=by kernel_rfl
@[go_sem] theorem dd:ti Try.prog 77= .fn :=by kernel_rfl
@[go_sem] theorem de:tsz Try.prog 77=1:=by kernel_rfl
@[go_sem] theorem dg:Try.prog.bytesOf 77=8:=by kernel_rfl
@[go_sem] theorem dh:(tz Try.prog 77).length =1:=by kernel_rfl
theorem mixed:Try.prog.follows .mixedOrders =true:=Try.checked.mixed
attribute [go_sem] Nat.reduceAdd Nat.reduceMul reduceIte Nat.reduceEqDiff Nat.reduceLeDiff Nat.reduceLT
end Go.Proofs.Ytijdanbelnmmlaa.Ab
