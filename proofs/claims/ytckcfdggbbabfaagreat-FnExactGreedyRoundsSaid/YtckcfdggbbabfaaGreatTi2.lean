/-
  What the walk asks of each type. Printed by wip/ab/gen_ti.py.
-/
import Derived.Test.YtckcfdggbbabfaaGreatRows
import Derived.Test.YtckcfdggbbabfaaGreatAbC
namespace Go.Proofs.YtckcfdggbbabfaaGreat.Ab
open Go.RowKit
@[go_sem] theorem ti2:ti Tryz.prog 2= .int .i64 :=by kernel_rfl
@[go_sem] theorem sz2:tsz Tryz.prog 2=1:=by kernel_rfl
@[go_sem] theorem by2:Tryz.prog.bytesOf 2=8:=by kernel_rfl
@[go_sem] theorem zl2:(tz Tryz.prog 2).length =1:=by kernel_rfl
@[go_sem] theorem za2:(tz Tryz.prog 2).map zAV=[.int .i64 0] :=by kernel_rfl
@[go_sem] theorem zd2:zDs (tz Tryz.prog 2)=some [.int .i64 0] :=by kernel_rfl
@[go_sem] theorem ti3:ti Tryz.prog 3= .int .i64 :=by kernel_rfl
@[go_sem] theorem sz3:tsz Tryz.prog 3=1:=by kernel_rfl
@[go_sem] theorem by3:Tryz.prog.bytesOf 3=8:=by kernel_rfl
@[go_sem] theorem zl3:(tz Tryz.prog 3).length =1:=by kernel_rfl
@[go_sem] theorem za3:(tz Tryz.prog 3).map zAV=[.int .i64 0] :=by kernel_rfl
@[go_sem] theorem zd3:zDs (tz Tryz.prog 3)=some [.int .i64 0] :=by kernel_rfl
@[go_sem] theorem ti4:ti Tryz.prog 4= .bool :=by kernel_rfl
@[go_sem] theorem sz4:tsz Tryz.prog 4=1:=by kernel_rfl
@[go_sem] theorem by4:Tryz.prog.bytesOf 4=1:=by kernel_rfl
@[go_sem] theorem zl4:(tz Tryz.prog 4).length =1:=by kernel_rfl
@[go_sem] theorem za4:(tz Tryz.prog 4).map zAV=[.bool false] :=by kernel_rfl
@[go_sem] theorem zd4:zDs (tz Tryz.prog 4)=some [.bool false] :=by kernel_rfl
@[go_sem] theorem mZ:ti Tryz.prog 21= .int .i32 :=by kernel_rfl
@[go_sem] theorem ma:tsz Tryz.prog 21=1:=by kernel_rfl
@[go_sem] theorem mc:Tryz.prog.bytesOf 21=4:=by kernel_rfl
@[go_sem] theorem me:(tz Tryz.prog 21).length =1:=by kernel_rfl
@[go_sem] theorem mf:(tz Tryz.prog 21).map zAV=[.int .i32 0] :=by kernel_rfl
@[go_sem] theorem mg:zDs (tz Tryz.prog 21)=some [.int .i32 0] :=by kernel_rfl
@[go_sem] theorem mh:ti Tryz.prog 25= .sl 28:=by kernel_rfl
@[go_sem] theorem mi:tsz Tryz.prog 25=1:=by kernel_rfl
@[go_sem] theorem mj:Tryz.prog.bytesOf 25=24:=by kernel_rfl
@[go_sem] theorem ml:(tz Tryz.prog 25).length =1:=by kernel_rfl
@[go_sem] theorem mm:(tz Tryz.prog 25).map zAV=[.nils] :=by kernel_rfl
@[go_sem] theorem mn:zDs (tz Tryz.prog 25)=some [.sl []] :=by kernel_rfl
@[go_sem] theorem mo:ti Tryz.prog 26= .sl 151:=by kernel_rfl
@[go_sem] theorem mq:tsz Tryz.prog 26=1:=by kernel_rfl
@[go_sem] theorem mr:Tryz.prog.bytesOf 26=24:=by kernel_rfl
@[go_sem] theorem ms:(tz Tryz.prog 26).length =1:=by kernel_rfl
@[go_sem] theorem mt:(tz Tryz.prog 26).map zAV=[.nils] :=by kernel_rfl
@[go_sem] theorem mu:zDs (tz Tryz.prog 26)=some [.sl []] :=by kernel_rfl
@[go_sem] theorem mw:ti Tryz.prog 28= .st [(0,26)] :=by kernel_rfl
@[go_sem] theorem mx:tsz Tryz.prog 28=1:=by kernel_rfl
@[go_sem] theorem my:Tryz.prog.bytesOf 28=24:=by kernel_rfl
@[go_sem] theorem mz:(tz Tryz.prog 28).length =1:=by kernel_rfl
@[go_sem] theorem m5:(tz Tryz.prog 28).map zAV=[.nils] :=by kernel_rfl
@[go_sem] theorem m6:zDs (tz Tryz.prog 28)=some [.sl []] :=by kernel_rfl
@[go_sem] theorem m7:ti Tryz.prog 29= .sl 2:=by kernel_rfl
@[go_sem] theorem m8:tsz Tryz.prog 29=1:=by kernel_rfl
@[go_sem] theorem m9:Tryz.prog.bytesOf 29=24:=by kernel_rfl
@[go_sem] theorem nA:(tz Tryz.prog 29).length =1:=by kernel_rfl
@[go_sem] theorem nC:(tz Tryz.prog 29).map zAV=[.nils] :=by kernel_rfl
@[go_sem] theorem nD:zDs (tz Tryz.prog 29)=some [.sl []] :=by kernel_rfl
@[go_sem] theorem nE:ti Tryz.prog 39= .sl 43:=by kernel_rfl
@[go_sem] theorem nF:tsz Tryz.prog 39=1:=by kernel_rfl
@[go_sem] theorem nG:Tryz.prog.bytesOf 39=24:=by kernel_rfl
@[go_sem] theorem nH:(tz Tryz.prog 39).length =1:=by kernel_rfl
@[go_sem] theorem nI:(tz Tryz.prog 39).map zAV=[.nils] :=by kernel_rfl
@[go_sem] theorem nJ:zDs (tz Tryz.prog 39)=some [.sl []] :=by kernel_rfl
@[go_sem] theorem nK:ti Tryz.prog 41= .sl 133:=by kernel_rfl
@[go_sem] theorem nL:tsz Tryz.prog 41=1:=by kernel_rfl
@[go_sem] theorem nM:Tryz.prog.bytesOf 41=24:=by kernel_rfl
@[go_sem] theorem nO:(tz Tryz.prog 41).length =1:=by kernel_rfl
@[go_sem] theorem nP:(tz Tryz.prog 41).map zAV=[.nils] :=by kernel_rfl
@[go_sem] theorem nQ:zDs (tz Tryz.prog 41)=some [.sl []] :=by kernel_rfl
@[go_sem] theorem nR:ti Tryz.prog 43= .st [(0,41)] :=by kernel_rfl
@[go_sem] theorem nT:tsz Tryz.prog 43=1:=by kernel_rfl
@[go_sem] theorem nU:Tryz.prog.bytesOf 43=24:=by kernel_rfl
@[go_sem] theorem nV:(tz Tryz.prog 43).length =1:=by kernel_rfl
@[go_sem] theorem nW:(tz Tryz.prog 43).map zAV=[.nils] :=by kernel_rfl
@[go_sem] theorem nX:zDs (tz Tryz.prog 43)=some [.sl []] :=by kernel_rfl
@[go_sem] theorem nY:ti Tryz.prog 68= .sl 29:=by kernel_rfl
@[go_sem] theorem nZ:tsz Tryz.prog 68=1:=by kernel_rfl
@[go_sem] theorem na:Tryz.prog.bytesOf 68=24:=by kernel_rfl
@[go_sem] theorem nc:(tz Tryz.prog 68).length =1:=by kernel_rfl
@[go_sem] theorem nf:(tz Tryz.prog 68).map zAV=[.nils] :=by kernel_rfl
@[go_sem] theorem ng:zDs (tz Tryz.prog 68)=some [.sl []] :=by kernel_rfl
@[go_sem] theorem kL:ti Tryz.prog 109= .st [(0,2),(1,2)] :=by kernel_rfl
@[go_sem] theorem kM:Gm Tryz.prog 109=some [.int .i64,.int .i64] :=by kernel_rfl
@[go_sem] theorem kN:tsz Tryz.prog 109=2:=by kernel_rfl
@[go_sem] theorem kO:Tryz.prog.bytesOf 109=16:=by kernel_rfl
@[go_sem] theorem kP:(tz Tryz.prog 109).length =2:=by kernel_rfl
@[go_sem] theorem kQ:(tz Tryz.prog 109).map zAV=[.int .i64 0,.int .i64 0] :=by kernel_rfl
@[go_sem] theorem kR:zDs (tz Tryz.prog 109)=some [.int .i64 0,.int .i64 0] :=by kernel_rfl
@[go_sem] theorem kS:ti Tryz.prog 116= .ptr 140:=by kernel_rfl
@[go_sem] theorem kU:tsz Tryz.prog 116=1:=by kernel_rfl
@[go_sem] theorem kV:Tryz.prog.bytesOf 116=8:=by kernel_rfl
@[go_sem] theorem kW:(tz Tryz.prog 116).length =1:=by kernel_rfl
@[go_sem] theorem kX:(tz Tryz.prog 116).map zAV=[.nilp] :=by kernel_rfl
@[go_sem] theorem kY:ti Tryz.prog 121= .sl 109:=by kernel_rfl
@[go_sem] theorem kZ:tsz Tryz.prog 121=1:=by kernel_rfl
@[go_sem] theorem kc:Tryz.prog.bytesOf 121=24:=by kernel_rfl
@[go_sem] theorem ke:(tz Tryz.prog 121).length =1:=by kernel_rfl
@[go_sem] theorem kf:(tz Tryz.prog 121).map zAV=[.nils] :=by kernel_rfl
@[go_sem] theorem kh:zDs (tz Tryz.prog 121)=some [.sl []] :=by kernel_rfl
@[go_sem] theorem kj:ti Tryz.prog 131= .sl 173:=by kernel_rfl
@[go_sem] theorem kl:tsz Tryz.prog 131=1:=by kernel_rfl
@[go_sem] theorem km:Tryz.prog.bytesOf 131=24:=by kernel_rfl
@[go_sem] theorem kn:(tz Tryz.prog 131).length =1:=by kernel_rfl
@[go_sem] theorem ko:(tz Tryz.prog 131).map zAV=[.nils] :=by kernel_rfl
@[go_sem] theorem kq:zDs (tz Tryz.prog 131)=some [.sl []] :=by kernel_rfl
@[go_sem] theorem kr:ti Tryz.prog 133= .st [(0,2),(1,2),(2,2),(3,29),(4,131)] :=by kernel_rfl
@[go_sem] theorem ku:tsz Tryz.prog 133=5:=by kernel_rfl
@[go_sem] theorem kw:Tryz.prog.bytesOf 133=72:=by kernel_rfl
@[go_sem] theorem kx:(tz Tryz.prog 133).length =5:=by kernel_rfl
@[go_sem] theorem ky:(tz Tryz.prog 133).map zAV=[.int .i64 0,.int .i64 0,.int .i64 0,.nils,.nils] :=by kernel_rfl
@[go_sem] theorem kz:zDs (tz Tryz.prog 133)=some [.int .i64 0,.int .i64 0,.int .i64 0,.sl [],.sl []] :=by kernel_rfl
@[go_sem] theorem lA:ti Tryz.prog 138= .map 2 4:=by kernel_rfl
@[go_sem] theorem lC:Va Tryz.prog 138=some (.int .i64):=by kernel_rfl
@[go_sem] theorem kt2:Sk Tryz.prog 2=some (.int .i64):=by kernel_rfl
@[go_sem] theorem zz4:tz1 Tryz.prog 4=some (.bool false):=by kernel_rfl
@[go_sem] theorem nh:zAV (.bool false)= .bool false:=rfl
@[go_sem] theorem lD:tsz Tryz.prog 138=1:=by kernel_rfl
@[go_sem] theorem lE:Tryz.prog.bytesOf 138=8:=by kernel_rfl
@[go_sem] theorem lF:(tz Tryz.prog 138).length =1:=by kernel_rfl
@[go_sem] theorem lG:(tz Tryz.prog 138).map zAV=[.any] :=by kernel_rfl
@[go_sem] theorem lH:ti Tryz.prog 140= .st [(0,43),(1,39),(2,138)] :=by kernel_rfl
@[go_sem] theorem lI:tsz Tryz.prog 140=3:=by kernel_rfl
@[go_sem] theorem lJ:Tryz.prog.bytesOf 140=56:=by kernel_rfl
@[go_sem] theorem lK:(tz Tryz.prog 140).length =3:=by kernel_rfl
@[go_sem] theorem lL:(tz Tryz.prog 140).map zAV=[.nils,.nils,.any] :=by kernel_rfl
@[go_sem] theorem lM:ti Tryz.prog 149= .sl 243:=by kernel_rfl
@[go_sem] theorem lN:tsz Tryz.prog 149=1:=by kernel_rfl
@[go_sem] theorem lO:Tryz.prog.bytesOf 149=24:=by kernel_rfl
@[go_sem] theorem lP:(tz Tryz.prog 149).length =1:=by kernel_rfl
@[go_sem] theorem lQ:(tz Tryz.prog 149).map zAV=[.nils] :=by kernel_rfl
@[go_sem] theorem lR:zDs (tz Tryz.prog 149)=some [.sl []] :=by kernel_rfl
@[go_sem] theorem lS:ti Tryz.prog 151= .st [(0,2),(1,2),(2,2),(3,29),(4,149)] :=by kernel_rfl
@[go_sem] theorem lT:tsz Tryz.prog 151=5:=by kernel_rfl
@[go_sem] theorem lU:Tryz.prog.bytesOf 151=72:=by kernel_rfl
@[go_sem] theorem lV:(tz Tryz.prog 151).length =5:=by kernel_rfl
@[go_sem] theorem lW:(tz Tryz.prog 151).map zAV=[.int .i64 0,.int .i64 0,.int .i64 0,.nils,.nils] :=by kernel_rfl
@[go_sem] theorem lX:zDs (tz Tryz.prog 151)=some [.int .i64 0,.int .i64 0,.int .i64 0,.sl [],.sl []] :=by kernel_rfl
@[go_sem] theorem lY:ti Tryz.prog 173= .st [(0,2),(1,2)] :=by kernel_rfl
@[go_sem] theorem lZ:Gm Tryz.prog 173=some [.int .i64,.int .i64] :=by kernel_rfl
@[go_sem] theorem lc:tsz Tryz.prog 173=2:=by kernel_rfl
@[go_sem] theorem ld:Tryz.prog.bytesOf 173=16:=by kernel_rfl
@[go_sem] theorem lf:(tz Tryz.prog 173).length =2:=by kernel_rfl
@[go_sem] theorem lg:(tz Tryz.prog 173).map zAV=[.int .i64 0,.int .i64 0] :=by kernel_rfl
@[go_sem] theorem lh:zDs (tz Tryz.prog 173)=some [.int .i64 0,.int .i64 0] :=by kernel_rfl
@[go_sem] theorem li:ti Tryz.prog 196= .st [(0,43),(1,29),(2,2)] :=by kernel_rfl
@[go_sem] theorem lj:tsz Tryz.prog 196=3:=by kernel_rfl
@[go_sem] theorem ll:Tryz.prog.bytesOf 196=56:=by kernel_rfl
@[go_sem] theorem lm:(tz Tryz.prog 196).length =3:=by kernel_rfl
@[go_sem] theorem lp:(tz Tryz.prog 196).map zAV=[.nils,.nils,.int .i64 0] :=by kernel_rfl
@[go_sem] theorem lq:zDs (tz Tryz.prog 196)=some [.sl [],.sl [],.int .i64 0] :=by kernel_rfl
@[go_sem] theorem lr:ti Tryz.prog 220= .st [(0,116),(1,29),(2,29),(3,29),(4,29)] :=by kernel_rfl
@[go_sem] theorem lw:tsz Tryz.prog 220=5:=by kernel_rfl
@[go_sem] theorem lx:Tryz.prog.bytesOf 220=104:=by kernel_rfl
@[go_sem] theorem ly:(tz Tryz.prog 220).length =5:=by kernel_rfl
@[go_sem] theorem lz:(tz Tryz.prog 220).map zAV=[.nilp,.nils,.nils,.nils,.nils] :=by kernel_rfl
@[go_sem] theorem l0:ti Tryz.prog 227= .map 2 2:=by kernel_rfl
@[go_sem] theorem l5:Va Tryz.prog 227=some (.int .i64):=by kernel_rfl
@[go_sem] theorem zz2:tz1 Tryz.prog 2=some (.int .i64 0):=by kernel_rfl
@[go_sem] theorem ni:zAV (.int .i64 0)= .int .i64 0:=rfl
@[go_sem] theorem l6:tsz Tryz.prog 227=1:=by kernel_rfl
@[go_sem] theorem l7:Tryz.prog.bytesOf 227=8:=by kernel_rfl
@[go_sem] theorem l8:(tz Tryz.prog 227).length =1:=by kernel_rfl
@[go_sem] theorem l9:(tz Tryz.prog 227).map zAV=[.any] :=by kernel_rfl
@[go_sem] theorem mA:ti Tryz.prog 243= .st [(0,2),(1,2)] :=by kernel_rfl
@[go_sem] theorem mB:Gm Tryz.prog 243=some [.int .i64,.int .i64] :=by kernel_rfl
@[go_sem] theorem mC:tsz Tryz.prog 243=2:=by kernel_rfl
@[go_sem] theorem mD:Tryz.prog.bytesOf 243=16:=by kernel_rfl
@[go_sem] theorem mE:(tz Tryz.prog 243).length =2:=by kernel_rfl
@[go_sem] theorem mF:(tz Tryz.prog 243).map zAV=[.int .i64 0,.int .i64 0] :=by kernel_rfl
@[go_sem] theorem mG:zDs (tz Tryz.prog 243)=some [.int .i64 0,.int .i64 0] :=by kernel_rfl
@[go_sem] theorem mH:ti Tryz.prog 251= .int .u32 :=by kernel_rfl
@[go_sem] theorem mI:tsz Tryz.prog 251=1:=by kernel_rfl
@[go_sem] theorem mJ:Tryz.prog.bytesOf 251=4:=by kernel_rfl
@[go_sem] theorem mK:(tz Tryz.prog 251).length =1:=by kernel_rfl
@[go_sem] theorem mL:(tz Tryz.prog 251).map zAV=[.int .u32 0] :=by kernel_rfl
@[go_sem] theorem mM:zDs (tz Tryz.prog 251)=some [.int .u32 0] :=by kernel_rfl
@[go_sem] theorem mN:ti Tryz.prog 252= .int .u64 :=by kernel_rfl
@[go_sem] theorem mO:tsz Tryz.prog 252=1:=by kernel_rfl
@[go_sem] theorem mP:Tryz.prog.bytesOf 252=8:=by kernel_rfl
@[go_sem] theorem mQ:(tz Tryz.prog 252).length =1:=by kernel_rfl
@[go_sem] theorem mR:(tz Tryz.prog 252).map zAV=[.int .u64 0] :=by kernel_rfl
@[go_sem] theorem mS:zDs (tz Tryz.prog 252)=some [.int .u64 0] :=by kernel_rfl
@[go_sem] theorem mT:ti Tryz.prog 253= .arr 13 2:=by kernel_rfl
@[go_sem] theorem mU:tsz Tryz.prog 253=13:=by kernel_rfl
@[go_sem] theorem mV:Tryz.prog.bytesOf 253=104:=by kernel_rfl
@[go_sem] theorem mW:(tz Tryz.prog 253).length =13:=by kernel_rfl
@[go_sem] theorem mX:(tz Tryz.prog 253).map zAV=[.int .i64 0,.int .i64 0,.int .i64 0,.int .i64 0,.int .i64 0,.int .i64 0,.int .i64 0,.int .i64 0,.int .i64 0,.int .i64 0,.int .i64 0,.int .i64 0,.int .i64 0] :=by kernel_rfl
@[go_sem] theorem mY:zDs (tz Tryz.prog 253)=some [.int .i64 0,.int .i64 0,.int .i64 0,.int .i64 0,.int .i64 0,.int .i64 0,.int .i64 0,.int .i64 0,.int .i64 0,.int .i64 0,.int .i64 0,.int .i64 0,.int .i64 0] :=by kernel_rfl
theorem mixed:Tryz.prog.follows .mixedOrders =true:=Tryz.checked.mixed
attribute [go_sem] Nat.reduceAdd Nat.reduceMul reduceIte Nat.reduceEqDiff Nat.reduceLeDiff Nat.reduceLT
end Go.Proofs.YtckcfdggbbabfaaGreat.Ab
