/-
  What the walk asks of each type. Printed by wip/ab/gen_ti.py.
-/
import Derived.Test.YteckcjgpnegkjaaGreatRows
import Derived.Test.YteckcjgpnegkjaaGreatAbC
namespace Go.Proofs.YteckcjgpnegkjaaGreat.Ab
open Go.RowKit
@[go_sem] theorem ti2:ti Tryz.prog 2= .int .i64 :=by kernel_rfl
@[go_sem] theorem sz2:tsz Tryz.prog 2=1:=by kernel_rfl
@[go_sem] theorem by2:Tryz.prog.bytesOf 2=8:=by kernel_rfl
@[go_sem] theorem zl2:(tz Tryz.prog 2).length =1:=by kernel_rfl
@[go_sem] theorem za2:(tz Tryz.prog 2).map zAV=[.int .i64 0] :=by kernel_rfl
@[go_sem] theorem zd2:zDs (tz Tryz.prog 2)=some [.int .i64 0] :=by kernel_rfl
@[go_sem] theorem ti3:ti Tryz.prog 3= .int .i64 :=by kernel_rfl
@[go_sem] theorem sz3:tsz Tryz.prog 3=1:=by kernel_rfl
@[go_sem] theorem by3:Tryz.prog.bytesOf 3=8:=by kernel_rfl
@[go_sem] theorem zl3:(tz Tryz.prog 3).length =1:=by kernel_rfl
@[go_sem] theorem za3:(tz Tryz.prog 3).map zAV=[.int .i64 0] :=by kernel_rfl
@[go_sem] theorem zd3:zDs (tz Tryz.prog 3)=some [.int .i64 0] :=by kernel_rfl
@[go_sem] theorem ti4:ti Tryz.prog 4= .bool :=by kernel_rfl
@[go_sem] theorem sz4:tsz Tryz.prog 4=1:=by kernel_rfl
@[go_sem] theorem by4:Tryz.prog.bytesOf 4=1:=by kernel_rfl
@[go_sem] theorem zl4:(tz Tryz.prog 4).length =1:=by kernel_rfl
@[go_sem] theorem za4:(tz Tryz.prog 4).map zAV=[.bool false] :=by kernel_rfl
@[go_sem] theorem zd4:zDs (tz Tryz.prog 4)=some [.bool false] :=by kernel_rfl
@[go_sem] theorem sf:ti Tryz.prog 21= .int .i32 :=by kernel_rfl
@[go_sem] theorem sg:tsz Tryz.prog 21=1:=by kernel_rfl
@[go_sem] theorem si:Tryz.prog.bytesOf 21=4:=by kernel_rfl
@[go_sem] theorem sj:(tz Tryz.prog 21).length =1:=by kernel_rfl
@[go_sem] theorem sm:(tz Tryz.prog 21).map zAV=[.int .i32 0] :=by kernel_rfl
@[go_sem] theorem sr:zDs (tz Tryz.prog 21)=some [.int .i32 0] :=by kernel_rfl
@[go_sem] theorem ss:ti Tryz.prog 22= .sl 25:=by kernel_rfl
@[go_sem] theorem su:tsz Tryz.prog 22=1:=by kernel_rfl
@[go_sem] theorem s7:Tryz.prog.bytesOf 22=24:=by kernel_rfl
@[go_sem] theorem s8:(tz Tryz.prog 22).length =1:=by kernel_rfl
@[go_sem] theorem s9:(tz Tryz.prog 22).map zAV=[.nils] :=by kernel_rfl
@[go_sem] theorem tA:zDs (tz Tryz.prog 22)=some [.sl []] :=by kernel_rfl
@[go_sem] theorem tB:ti Tryz.prog 23= .sl 79:=by kernel_rfl
@[go_sem] theorem tC:tsz Tryz.prog 23=1:=by kernel_rfl
@[go_sem] theorem tD:Tryz.prog.bytesOf 23=24:=by kernel_rfl
@[go_sem] theorem tE:(tz Tryz.prog 23).length =1:=by kernel_rfl
@[go_sem] theorem tF:(tz Tryz.prog 23).map zAV=[.nils] :=by kernel_rfl
@[go_sem] theorem tG:zDs (tz Tryz.prog 23)=some [.sl []] :=by kernel_rfl
@[go_sem] theorem tH:ti Tryz.prog 25= .st [(0,23)] :=by kernel_rfl
@[go_sem] theorem tI:tsz Tryz.prog 25=1:=by kernel_rfl
@[go_sem] theorem tJ:Tryz.prog.bytesOf 25=24:=by kernel_rfl
@[go_sem] theorem tK:(tz Tryz.prog 25).length =1:=by kernel_rfl
@[go_sem] theorem tL:(tz Tryz.prog 25).map zAV=[.nils] :=by kernel_rfl
@[go_sem] theorem tM:zDs (tz Tryz.prog 25)=some [.sl []] :=by kernel_rfl
@[go_sem] theorem tN:ti Tryz.prog 26= .sl 4:=by kernel_rfl
@[go_sem] theorem tO:tsz Tryz.prog 26=1:=by kernel_rfl
@[go_sem] theorem tP:Tryz.prog.bytesOf 26=24:=by kernel_rfl
@[go_sem] theorem tQ:(tz Tryz.prog 26).length =1:=by kernel_rfl
@[go_sem] theorem tR:(tz Tryz.prog 26).map zAV=[.nils] :=by kernel_rfl
@[go_sem] theorem tS:zDs (tz Tryz.prog 26)=some [.sl []] :=by kernel_rfl
@[go_sem] theorem tT:ti Tryz.prog 31= .sl 35:=by kernel_rfl
@[go_sem] theorem tU:tsz Tryz.prog 31=1:=by kernel_rfl
@[go_sem] theorem tV:Tryz.prog.bytesOf 31=24:=by kernel_rfl
@[go_sem] theorem tW:(tz Tryz.prog 31).length =1:=by kernel_rfl
@[go_sem] theorem tX:(tz Tryz.prog 31).map zAV=[.nils] :=by kernel_rfl
@[go_sem] theorem tY:zDs (tz Tryz.prog 31)=some [.sl []] :=by kernel_rfl
@[go_sem] theorem tZ:ti Tryz.prog 33= .sl 61:=by kernel_rfl
@[go_sem] theorem tb:tsz Tryz.prog 33=1:=by kernel_rfl
@[go_sem] theorem tc:Tryz.prog.bytesOf 33=24:=by kernel_rfl
@[go_sem] theorem tg:(tz Tryz.prog 33).length =1:=by kernel_rfl
@[go_sem] theorem th:(tz Tryz.prog 33).map zAV=[.nils] :=by kernel_rfl
@[go_sem] theorem tj:zDs (tz Tryz.prog 33)=some [.sl []] :=by kernel_rfl
@[go_sem] theorem tt:ti Tryz.prog 35= .st [(0,33)] :=by kernel_rfl
@[go_sem] theorem tu:tsz Tryz.prog 35=1:=by kernel_rfl
@[go_sem] theorem tw:Tryz.prog.bytesOf 35=24:=by kernel_rfl
@[go_sem] theorem tx:(tz Tryz.prog 35).length =1:=by kernel_rfl
@[go_sem] theorem t4:(tz Tryz.prog 35).map zAV=[.nils] :=by kernel_rfl
@[go_sem] theorem t5:zDs (tz Tryz.prog 35)=some [.sl []] :=by kernel_rfl
@[go_sem] theorem t6:ti Tryz.prog 51= .st [(0,2),(1,2)] :=by kernel_rfl
@[go_sem] theorem t7:G4 Tryz.prog 51=some [.int .i64,.int .i64] :=by kernel_rfl
@[go_sem] theorem t8:tsz Tryz.prog 51=2:=by kernel_rfl
@[go_sem] theorem t9:Tryz.prog.bytesOf 51=16:=by kernel_rfl
@[go_sem] theorem uA:(tz Tryz.prog 51).length =2:=by kernel_rfl
@[go_sem] theorem uB:(tz Tryz.prog 51).map zAV=[.int .i64 0,.int .i64 0] :=by kernel_rfl
@[go_sem] theorem uC:zDs (tz Tryz.prog 51)=some [.int .i64 0,.int .i64 0] :=by kernel_rfl
@[go_sem] theorem uD:ti Tryz.prog 58= .sl 2:=by kernel_rfl
@[go_sem] theorem uE:tsz Tryz.prog 58=1:=by kernel_rfl
@[go_sem] theorem uF:Tryz.prog.bytesOf 58=24:=by kernel_rfl
@[go_sem] theorem uG:(tz Tryz.prog 58).length =1:=by kernel_rfl
@[go_sem] theorem uH:(tz Tryz.prog 58).map zAV=[.nils] :=by kernel_rfl
@[go_sem] theorem uI:zDs (tz Tryz.prog 58)=some [.sl []] :=by kernel_rfl
@[go_sem] theorem uJ:ti Tryz.prog 59= .sl 83:=by kernel_rfl
@[go_sem] theorem uK:tsz Tryz.prog 59=1:=by kernel_rfl
@[go_sem] theorem uL:Tryz.prog.bytesOf 59=24:=by kernel_rfl
@[go_sem] theorem uM:(tz Tryz.prog 59).length =1:=by kernel_rfl
@[go_sem] theorem uN:(tz Tryz.prog 59).map zAV=[.nils] :=by kernel_rfl
@[go_sem] theorem uO:zDs (tz Tryz.prog 59)=some [.sl []] :=by kernel_rfl
@[go_sem] theorem uP:ti Tryz.prog 61= .st [(0,2),(1,2),(2,2),(3,58),(4,59)] :=by kernel_rfl
@[go_sem] theorem uQ:tsz Tryz.prog 61=5:=by kernel_rfl
@[go_sem] theorem uR:Tryz.prog.bytesOf 61=72:=by kernel_rfl
@[go_sem] theorem uS:(tz Tryz.prog 61).length =5:=by kernel_rfl
@[go_sem] theorem uT:(tz Tryz.prog 61).map zAV=[.int .i64 0,.int .i64 0,.int .i64 0,.nils,.nils] :=by kernel_rfl
@[go_sem] theorem uU:zDs (tz Tryz.prog 61)=some [.int .i64 0,.int .i64 0,.int .i64 0,.sl [],.sl []] :=by kernel_rfl
@[go_sem] theorem uV:ti Tryz.prog 71= .map 2 4:=by kernel_rfl
@[go_sem] theorem uW:bn Tryz.prog 71=some (.int .i64):=by kernel_rfl
@[go_sem] theorem kt2:Vk Tryz.prog 2=some (.int .i64):=by kernel_rfl
@[go_sem] theorem zz4:tz1 Tryz.prog 4=some (.bool false):=by kernel_rfl
@[go_sem] theorem uX:zAV (.bool false)= .bool false:=rfl
@[go_sem] theorem uY:tsz Tryz.prog 71=1:=by kernel_rfl
@[go_sem] theorem uZ:Tryz.prog.bytesOf 71=8:=by kernel_rfl
@[go_sem] theorem ua:(tz Tryz.prog 71).length =1:=by kernel_rfl
@[go_sem] theorem ub:(tz Tryz.prog 71).map zAV=[.any] :=by kernel_rfl
@[go_sem] theorem uc:ti Tryz.prog 73= .st [(0,35),(1,31),(2,71)] :=by kernel_rfl
@[go_sem] theorem ud:tsz Tryz.prog 73=3:=by kernel_rfl
@[go_sem] theorem ue:Tryz.prog.bytesOf 73=56:=by kernel_rfl
@[go_sem] theorem uf:(tz Tryz.prog 73).length =3:=by kernel_rfl
@[go_sem] theorem ug:(tz Tryz.prog 73).map zAV=[.nils,.nils,.any] :=by kernel_rfl
@[go_sem] theorem ui:ti Tryz.prog 77= .sl 159:=by kernel_rfl
@[go_sem] theorem uj:tsz Tryz.prog 77=1:=by kernel_rfl
@[go_sem] theorem uk:Tryz.prog.bytesOf 77=24:=by kernel_rfl
@[go_sem] theorem um:(tz Tryz.prog 77).length =1:=by kernel_rfl
@[go_sem] theorem uo:(tz Tryz.prog 77).map zAV=[.nils] :=by kernel_rfl
@[go_sem] theorem up:zDs (tz Tryz.prog 77)=some [.sl []] :=by kernel_rfl
@[go_sem] theorem uq:ti Tryz.prog 79= .st [(0,2),(1,2),(2,2),(3,58),(4,77)] :=by kernel_rfl
@[go_sem] theorem ur:tsz Tryz.prog 79=5:=by kernel_rfl
@[go_sem] theorem ut:Tryz.prog.bytesOf 79=72:=by kernel_rfl
@[go_sem] theorem uu:(tz Tryz.prog 79).length =5:=by kernel_rfl
@[go_sem] theorem uv:(tz Tryz.prog 79).map zAV=[.int .i64 0,.int .i64 0,.int .i64 0,.nils,.nils] :=by kernel_rfl
@[go_sem] theorem uw:zDs (tz Tryz.prog 79)=some [.int .i64 0,.int .i64 0,.int .i64 0,.sl [],.sl []] :=by kernel_rfl
@[go_sem] theorem ux:ti Tryz.prog 83= .st [(0,2),(1,2)] :=by kernel_rfl
@[go_sem] theorem uy:G4 Tryz.prog 83=some [.int .i64,.int .i64] :=by kernel_rfl
@[go_sem] theorem uz:tsz Tryz.prog 83=2:=by kernel_rfl
@[go_sem] theorem vA:Tryz.prog.bytesOf 83=16:=by kernel_rfl
@[go_sem] theorem vB:(tz Tryz.prog 83).length =2:=by kernel_rfl
@[go_sem] theorem vC:(tz Tryz.prog 83).map zAV=[.int .i64 0,.int .i64 0] :=by kernel_rfl
@[go_sem] theorem vD:zDs (tz Tryz.prog 83)=some [.int .i64 0,.int .i64 0] :=by kernel_rfl
@[go_sem] theorem vE:ti Tryz.prog 86= .sl 131:=by kernel_rfl
@[go_sem] theorem vF:tsz Tryz.prog 86=1:=by kernel_rfl
@[go_sem] theorem vG:Tryz.prog.bytesOf 86=24:=by kernel_rfl
@[go_sem] theorem vH:(tz Tryz.prog 86).length =1:=by kernel_rfl
@[go_sem] theorem vI:(tz Tryz.prog 86).map zAV=[.nils] :=by kernel_rfl
@[go_sem] theorem vJ:zDs (tz Tryz.prog 86)=some [.sl []] :=by kernel_rfl
@[go_sem] theorem vK:ti Tryz.prog 88= .sl 51:=by kernel_rfl
@[go_sem] theorem vL:tsz Tryz.prog 88=1:=by kernel_rfl
@[go_sem] theorem vM:Tryz.prog.bytesOf 88=24:=by kernel_rfl
@[go_sem] theorem vN:(tz Tryz.prog 88).length =1:=by kernel_rfl
@[go_sem] theorem vO:(tz Tryz.prog 88).map zAV=[.nils] :=by kernel_rfl
@[go_sem] theorem vP:zDs (tz Tryz.prog 88)=some [.sl []] :=by kernel_rfl
@[go_sem] theorem r6:ti Tryz.prog 131= .st [(0,83),(2,83)] :=by kernel_rfl
@[go_sem] theorem r7:G4 Tryz.prog 131=some [.int .i64,.int .i64,.int .i64,.int .i64] :=by kernel_rfl
@[go_sem] theorem r8:tsz Tryz.prog 131=4:=by kernel_rfl
@[go_sem] theorem r9:Tryz.prog.bytesOf 131=32:=by kernel_rfl
@[go_sem] theorem sA:(tz Tryz.prog 131).length =4:=by kernel_rfl
@[go_sem] theorem sB:(tz Tryz.prog 131).map zAV=[.int .i64 0,.int .i64 0,.int .i64 0,.int .i64 0] :=by kernel_rfl
@[go_sem] theorem sC:zDs (tz Tryz.prog 131)=some [.int .i64 0,.int .i64 0,.int .i64 0,.int .i64 0] :=by kernel_rfl
@[go_sem] theorem sD:ti Tryz.prog 159= .st [(0,2),(1,2)] :=by kernel_rfl
@[go_sem] theorem sE:G4 Tryz.prog 159=some [.int .i64,.int .i64] :=by kernel_rfl
@[go_sem] theorem sF:tsz Tryz.prog 159=2:=by kernel_rfl
@[go_sem] theorem sG:Tryz.prog.bytesOf 159=16:=by kernel_rfl
@[go_sem] theorem sH:(tz Tryz.prog 159).length =2:=by kernel_rfl
@[go_sem] theorem sI:(tz Tryz.prog 159).map zAV=[.int .i64 0,.int .i64 0] :=by kernel_rfl
@[go_sem] theorem sJ:zDs (tz Tryz.prog 159)=some [.int .i64 0,.int .i64 0] :=by kernel_rfl
@[go_sem] theorem sK:ti Tryz.prog 164= .int .u32 :=by kernel_rfl
@[go_sem] theorem sL:tsz Tryz.prog 164=1:=by kernel_rfl
@[go_sem] theorem sM:Tryz.prog.bytesOf 164=4:=by kernel_rfl
@[go_sem] theorem sN:(tz Tryz.prog 164).length =1:=by kernel_rfl
@[go_sem] theorem sO:(tz Tryz.prog 164).map zAV=[.int .u32 0] :=by kernel_rfl
@[go_sem] theorem sP:zDs (tz Tryz.prog 164)=some [.int .u32 0] :=by kernel_rfl
@[go_sem] theorem sQ:ti Tryz.prog 165= .int .u64 :=by kernel_rfl
@[go_sem] theorem sR:tsz Tryz.prog 165=1:=by kernel_rfl
@[go_sem] theorem sS:Tryz.prog.bytesOf 165=8:=by kernel_rfl
@[go_sem] theorem sT:(tz Tryz.prog 165).length =1:=by kernel_rfl
@[go_sem] theorem sU:(tz Tryz.prog 165).map zAV=[.int .u64 0] :=by kernel_rfl
@[go_sem] theorem sV:zDs (tz Tryz.prog 165)=some [.int .u64 0] :=by kernel_rfl
@[go_sem] theorem sW:ti Tryz.prog 168= .arr 13 2:=by kernel_rfl
@[go_sem] theorem sX:tsz Tryz.prog 168=13:=by kernel_rfl
@[go_sem] theorem sY:Tryz.prog.bytesOf 168=104:=by kernel_rfl
@[go_sem] theorem sZ:(tz Tryz.prog 168).length =13:=by kernel_rfl
@[go_sem] theorem sd:(tz Tryz.prog 168).map zAV=[.int .i64 0,.int .i64 0,.int .i64 0,.int .i64 0,.int .i64 0,.int .i64 0,.int .i64 0,.int .i64 0,.int .i64 0,.int .i64 0,.int .i64 0,.int .i64 0,.int .i64 0] :=by kernel_rfl
@[go_sem] theorem se:zDs (tz Tryz.prog 168)=some [.int .i64 0,.int .i64 0,.int .i64 0,.int .i64 0,.int .i64 0,.int .i64 0,.int .i64 0,.int .i64 0,.int .i64 0,.int .i64 0,.int .i64 0,.int .i64 0,.int .i64 0] :=by kernel_rfl
theorem mixed:Tryz.prog.follows .mixedOrders =true:=Tryz.checked.mixed
attribute [go_sem] Nat.reduceAdd Nat.reduceMul reduceIte Nat.reduceEqDiff Nat.reduceLeDiff Nat.reduceLT
end Go.Proofs.YteckcjgpnegkjaaGreat.Ab
