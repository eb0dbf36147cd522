/-
  What the walk asks of each type. Printed by wip/ab/gen_ti.py.
-/
import Derived.Test.YtgigfdghecdlgaaRows
import Derived.Test.YtgigfdghecdlgaaAbC
namespace Go.Proofs.Ytgigfdghecdlgaa.Ab
open Go.RowKit
@[go_sem] theorem ti2:ti Try.prog 2= .int .i64 :=by kernel_rfl
@[go_sem] theorem sz2:tsz Try.prog 2=1:=by kernel_rfl
@[go_sem] theorem by2:Try.prog.bytesOf 2=8:=by kernel_rfl
@[go_sem] theorem zl2:(tz Try.prog 2).length =1:=by kernel_rfl
@[go_sem] theorem za2:(tz Try.prog 2).map zAV=[.int .i64 0] :=by kernel_rfl
@[go_sem] theorem zd2:zDs (tz Try.prog 2)=some [.int .i64 0] :=by kernel_rfl
@[go_sem] theorem ti3:ti Try.prog 3= .int .i64 :=by kernel_rfl
@[go_sem] theorem sz3:tsz Try.prog 3=1:=by kernel_rfl
@[go_sem] theorem by3:Try.prog.bytesOf 3=8:=by kernel_rfl
@[go_sem] theorem zl3:(tz Try.prog 3).length =1:=by kernel_rfl
@[go_sem] theorem za3:(tz Try.prog 3).map zAV=[.int .i64 0] :=by kernel_rfl
@[go_sem] theorem zd3:zDs (tz Try.prog 3)=some [.int .i64 0] :=by kernel_rfl
@[go_sem] theorem ti4:ti Try.prog 4= .bool :=by kernel_rfl
@[go_sem] theorem sz4:tsz Try.prog 4=1:=by kernel_rfl
@[go_sem] theorem by4:Try.prog.bytesOf 4=1:=by kernel_rfl
@[go_sem] theorem zl4:(tz Try.prog 4).length =1:=by kernel_rfl
@[go_sem] theorem za4:(tz Try.prog 4).map zAV=[.bool false] :=by kernel_rfl
@[go_sem] theorem zd4:zDs (tz Try.prog 4)=some [.bool false] :=by kernel_rfl
@[go_sem] theorem ti5:ti Try.prog 5= .int .u8 :=by kernel_rfl
@[go_sem] theorem sz5:tsz Try.prog 5=1:=by kernel_rfl
@[go_sem] theorem by5:Try.prog.bytesOf 5=1:=by kernel_rfl
@[go_sem] theorem zl5:(tz Try.prog 5).length =1:=by kernel_rfl
@[go_sem] theorem za5:(tz Try.prog 5).map zAV=[.int .u8 0] :=by kernel_rfl
@[go_sem] theorem zd5:zDs (tz Try.prog 5)=some [.int .u8 0] :=by kernel_rfl
@[go_sem] theorem ti9:ti Try.prog 9= .str :=by kernel_rfl
@[go_sem] theorem sz9:tsz Try.prog 9=1:=by kernel_rfl
@[go_sem] theorem by9:Try.prog.bytesOf 9=16:=by kernel_rfl
@[go_sem] theorem zl9:(tz Try.prog 9).length =1:=by kernel_rfl
@[go_sem] theorem za9:(tz Try.prog 9).map zAV=[.str ByteArray.empty] :=by kernel_rfl
@[go_sem] theorem zd9:zDs (tz Try.prog 9)=some [.str ByteArray.empty] :=by kernel_rfl
@[go_sem] theorem bS:ti Try.prog 22= .sl 2:=by kernel_rfl
@[go_sem] theorem bT:tsz Try.prog 22=1:=by kernel_rfl
@[go_sem] theorem bU:Try.prog.bytesOf 22=24:=by kernel_rfl
@[go_sem] theorem bV:(tz Try.prog 22).length =1:=by kernel_rfl
@[go_sem] theorem bW:(tz Try.prog 22).map zAV=[.nils] :=by kernel_rfl
@[go_sem] theorem bX:zDs (tz Try.prog 22)=some [.sl []] :=by kernel_rfl
@[go_sem] theorem bY:ti Try.prog 23= .sl 25:=by kernel_rfl
@[go_sem] theorem bZ:tsz Try.prog 23=1:=by kernel_rfl
@[go_sem] theorem ba:Try.prog.bytesOf 23=24:=by kernel_rfl
@[go_sem] theorem be:(tz Try.prog 23).length =1:=by kernel_rfl
@[go_sem] theorem bf:(tz Try.prog 23).map zAV=[.nils] :=by kernel_rfl
@[go_sem] theorem bg:zDs (tz Try.prog 23)=some [.sl []] :=by kernel_rfl
@[go_sem] theorem bh:ti Try.prog 25= .st [(0,2),(1,2),(2,22),(3,23)] :=by kernel_rfl
@[go_sem] theorem bi:tsz Try.prog 25=4:=by kernel_rfl
@[go_sem] theorem bj:Try.prog.bytesOf 25=64:=by kernel_rfl
@[go_sem] theorem bk:(tz Try.prog 25).length =4:=by kernel_rfl
@[go_sem] theorem bn:(tz Try.prog 25).map zAV=[.int .i64 0,.int .i64 0,.nils,.nils] :=by kernel_rfl
@[go_sem] theorem bp:zDs (tz Try.prog 25)=some [.int .i64 0,.int .i64 0,.sl [],.sl []] :=by kernel_rfl
@[go_sem] theorem bq:ti Try.prog 26= .sl 9:=by kernel_rfl
@[go_sem] theorem bt:tsz Try.prog 26=1:=by kernel_rfl
@[go_sem] theorem bu:Try.prog.bytesOf 26=24:=by kernel_rfl
@[go_sem] theorem bv:(tz Try.prog 26).length =1:=by kernel_rfl
@[go_sem] theorem bw:(tz Try.prog 26).map zAV=[.nils] :=by kernel_rfl
@[go_sem] theorem bx:zDs (tz Try.prog 26)=some [.sl []] :=by kernel_rfl
@[go_sem] theorem bz:ti Try.prog 28= .st [(0,25),(4,26)] :=by kernel_rfl
@[go_sem] theorem b0:tsz Try.prog 28=5:=by kernel_rfl
@[go_sem] theorem cA:Try.prog.bytesOf 28=88:=by kernel_rfl
@[go_sem] theorem cB:(tz Try.prog 28).length =5:=by kernel_rfl
@[go_sem] theorem cC:(tz Try.prog 28).map zAV=[.int .i64 0,.int .i64 0,.nils,.nils,.nils] :=by kernel_rfl
@[go_sem] theorem cD:zDs (tz Try.prog 28)=some [.int .i64 0,.int .i64 0,.sl [],.sl [],.sl []] :=by kernel_rfl
@[go_sem] theorem cE:ti Try.prog 32= .sl 34:=by kernel_rfl
@[go_sem] theorem cF:tsz Try.prog 32=1:=by kernel_rfl
@[go_sem] theorem cG:Try.prog.bytesOf 32=24:=by kernel_rfl
@[go_sem] theorem cH:(tz Try.prog 32).length =1:=by kernel_rfl
@[go_sem] theorem cI:(tz Try.prog 32).map zAV=[.nils] :=by kernel_rfl
@[go_sem] theorem cJ:zDs (tz Try.prog 32)=some [.sl []] :=by kernel_rfl
@[go_sem] theorem cK:ti Try.prog 34= .st [(0,2),(1,2),(2,22),(3,32)] :=by kernel_rfl
@[go_sem] theorem cL:tsz Try.prog 34=4:=by kernel_rfl
@[go_sem] theorem cM:Try.prog.bytesOf 34=64:=by kernel_rfl
@[go_sem] theorem cN:(tz Try.prog 34).length =4:=by kernel_rfl
@[go_sem] theorem cO:(tz Try.prog 34).map zAV=[.int .i64 0,.int .i64 0,.nils,.nils] :=by kernel_rfl
@[go_sem] theorem cP:zDs (tz Try.prog 34)=some [.int .i64 0,.int .i64 0,.sl [],.sl []] :=by kernel_rfl
@[go_sem] theorem cQ:ti Try.prog 36= .st [(0,34),(4,26)] :=by kernel_rfl
@[go_sem] theorem cR:tsz Try.prog 36=5:=by kernel_rfl
@[go_sem] theorem cS:Try.prog.bytesOf 36=88:=by kernel_rfl
@[go_sem] theorem cT:(tz Try.prog 36).length =5:=by kernel_rfl
@[go_sem] theorem cU:(tz Try.prog 36).map zAV=[.int .i64 0,.int .i64 0,.nils,.nils,.nils] :=by kernel_rfl
@[go_sem] theorem cV:zDs (tz Try.prog 36)=some [.int .i64 0,.int .i64 0,.sl [],.sl [],.sl []] :=by kernel_rfl
@[go_sem] theorem cW:ti Try.prog 57= .ptr 87:=by kernel_rfl
@[go_sem] theorem cX:tsz Try.prog 57=1:=by kernel_rfl
@[go_sem] theorem cY:Try.prog.bytesOf 57=8:=by kernel_rfl
@[go_sem] theorem cZ:(tz Try.prog 57).length =1:=by kernel_rfl
@[go_sem] theorem ca:(tz Try.prog 57).map zAV=[.nilp] :=by kernel_rfl
@[go_sem] theorem cc:ti Try.prog 59= .sl 57:=by kernel_rfl
@[go_sem] theorem cd:tsz Try.prog 59=1:=by kernel_rfl
@[go_sem] theorem ce:Try.prog.bytesOf 59=24:=by kernel_rfl
@[go_sem] theorem cf:(tz Try.prog 59).length =1:=by kernel_rfl
@[go_sem] theorem cg:(tz Try.prog 59).map zAV=[.nils] :=by kernel_rfl
@[go_sem] theorem ci:zDs (tz Try.prog 59)=some [.sl []] :=by kernel_rfl
@[go_sem] theorem cj:ti Try.prog 75= .sl 77:=by kernel_rfl
@[go_sem] theorem ck:tsz Try.prog 75=1:=by kernel_rfl
@[go_sem] theorem cm:Try.prog.bytesOf 75=24:=by kernel_rfl
@[go_sem] theorem cn:(tz Try.prog 75).length =1:=by kernel_rfl
@[go_sem] theorem cp:(tz Try.prog 75).map zAV=[.nils] :=by kernel_rfl
@[go_sem] theorem cq:zDs (tz Try.prog 75)=some [.sl []] :=by kernel_rfl
@[go_sem] theorem cr:ti Try.prog 77= .st [(0,2),(1,2),(2,22),(3,9),(4,75)] :=by kernel_rfl
@[go_sem] theorem ct:tsz Try.prog 77=5:=by kernel_rfl
@[go_sem] theorem cu:Try.prog.bytesOf 77=80:=by kernel_rfl
@[go_sem] theorem cw:(tz Try.prog 77).length =5:=by kernel_rfl
@[go_sem] theorem cy:(tz Try.prog 77).map zAV=[.int .i64 0,.int .i64 0,.nils,.str ByteArray.empty,.nils] :=by kernel_rfl
@[go_sem] theorem cz:zDs (tz Try.prog 77)=some [.int .i64 0,.int .i64 0,.sl [],.str ByteArray.empty,.sl []] :=by kernel_rfl
@[go_sem] theorem c0:ti Try.prog 83= .fn :=by kernel_rfl
@[go_sem] theorem c7:tsz Try.prog 83=1:=by kernel_rfl
@[go_sem] theorem c8:Try.prog.bytesOf 83=8:=by kernel_rfl
@[go_sem] theorem c9:(tz Try.prog 83).length =1:=by kernel_rfl
@[go_sem] theorem dA:ti Try.prog 87= .st [(0,34),(4,9),(5,2),(6,59)] :=by kernel_rfl
@[go_sem] theorem dB:tsz Try.prog 87=7:=by kernel_rfl
@[go_sem] theorem dC:Try.prog.bytesOf 87=112:=by kernel_rfl
@[go_sem] theorem dD:(tz Try.prog 87).length =7:=by kernel_rfl
@[go_sem] theorem dE:(tz Try.prog 87).map zAV=[.int .i64 0,.int .i64 0,.nils,.nils,.str ByteArray.empty,.int .i64 0,.nils] :=by kernel_rfl
@[go_sem] theorem dF:zDs (tz Try.prog 87)=some [.int .i64 0,.int .i64 0,.sl [],.sl [],.str ByteArray.empty,.int .i64 0,.sl []] :=by kernel_rfl
@[go_sem] theorem dG:ti Try.prog 93= .sl 5:=by kernel_rfl
@[go_sem] theorem dH:tsz Try.prog 93=1:=by kernel_rfl
@[go_sem] theorem dI:Try.prog.bytesOf 93=24:=by kernel_rfl
@[go_sem] theorem dJ:(tz Try.prog 93).length =1:=by kernel_rfl
@[go_sem] theorem dK:(tz Try.prog 93).map zAV=[.nils] :=by kernel_rfl
@[go_sem] theorem dL:zDs (tz Try.prog 93)=some [.sl []] :=by kernel_rfl
theorem mixed:Try.prog.follows .mixedOrders =true:=Try.checked.mixed
attribute [go_sem] Nat.reduceAdd Nat.reduceMul reduceIte Nat.reduceEqDiff Nat.reduceLeDiff Nat.reduceLT
end Go.Proofs.Ytgigfdghecdlgaa.Ab
