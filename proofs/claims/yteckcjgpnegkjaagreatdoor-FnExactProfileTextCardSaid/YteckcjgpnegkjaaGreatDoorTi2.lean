/-
  What the walk asks of each type. Printed by wip/ab/gen_ti.py.
-/
import Derived.Test.YteckcjgpnegkjaaGreatDoorRows
import Derived.Test.YteckcjgpnegkjaaGreatDoorAbC
namespace Go.Proofs.YteckcjgpnegkjaaGreatDoor.Ab
open Go.RowKit
@[go_sem] theorem ti2:ti Tryz.prog 2= .int .i64 :=by kernel_rfl
@[go_sem] theorem sz2:tsz Tryz.prog 2=1:=by kernel_rfl
@[go_sem] theorem by2:Tryz.prog.bytesOf 2=8:=by kernel_rfl
@[go_sem] theorem zl2:(tz Tryz.prog 2).length =1:=by kernel_rfl
@[go_sem] theorem za2:(tz Tryz.prog 2).map zAV=[.int .i64 0] :=by kernel_rfl
@[go_sem] theorem zd2:zDs (tz Tryz.prog 2)=some [.int .i64 0] :=by kernel_rfl
@[go_sem] theorem ti3:ti Tryz.prog 3= .int .i64 :=by kernel_rfl
@[go_sem] theorem sz3:tsz Tryz.prog 3=1:=by kernel_rfl
@[go_sem] theorem by3:Tryz.prog.bytesOf 3=8:=by kernel_rfl
@[go_sem] theorem zl3:(tz Tryz.prog 3).length =1:=by kernel_rfl
@[go_sem] theorem za3:(tz Tryz.prog 3).map zAV=[.int .i64 0] :=by kernel_rfl
@[go_sem] theorem zd3:zDs (tz Tryz.prog 3)=some [.int .i64 0] :=by kernel_rfl
@[go_sem] theorem ti4:ti Tryz.prog 4= .bool :=by kernel_rfl
@[go_sem] theorem sz4:tsz Tryz.prog 4=1:=by kernel_rfl
@[go_sem] theorem by4:Tryz.prog.bytesOf 4=1:=by kernel_rfl
@[go_sem] theorem zl4:(tz Tryz.prog 4).length =1:=by kernel_rfl
@[go_sem] theorem za4:(tz Tryz.prog 4).map zAV=[.bool false] :=by kernel_rfl
@[go_sem] theorem zd4:zDs (tz Tryz.prog 4)=some [.bool false] :=by kernel_rfl
@[go_sem] theorem ti5:ti Tryz.prog 5= .int .u8 :=by kernel_rfl
@[go_sem] theorem sz5:tsz Tryz.prog 5=1:=by kernel_rfl
@[go_sem] theorem by5:Tryz.prog.bytesOf 5=1:=by kernel_rfl
@[go_sem] theorem zl5:(tz Tryz.prog 5).length =1:=by kernel_rfl
@[go_sem] theorem za5:(tz Tryz.prog 5).map zAV=[.int .u8 0] :=by kernel_rfl
@[go_sem] theorem zd5:zDs (tz Tryz.prog 5)=some [.int .u8 0] :=by kernel_rfl
@[go_sem] theorem ti9:ti Tryz.prog 9= .str :=by kernel_rfl
@[go_sem] theorem sz9:tsz Tryz.prog 9=1:=by kernel_rfl
@[go_sem] theorem by9:Tryz.prog.bytesOf 9=16:=by kernel_rfl
@[go_sem] theorem zl9:(tz Tryz.prog 9).length =1:=by kernel_rfl
@[go_sem] theorem za9:(tz Tryz.prog 9).map zAV=[.str ByteArray.empty] :=by kernel_rfl
@[go_sem] theorem zd9:zDs (tz Tryz.prog 9)=some [.str ByteArray.empty] :=by kernel_rfl
@[go_sem] theorem tU:ti Tryz.prog 21= .int .i32 :=by kernel_rfl
@[go_sem] theorem tV:tsz Tryz.prog 21=1:=by kernel_rfl
@[go_sem] theorem tW:Tryz.prog.bytesOf 21=4:=by kernel_rfl
@[go_sem] theorem tX:(tz Tryz.prog 21).length =1:=by kernel_rfl
@[go_sem] theorem tY:(tz Tryz.prog 21).map zAV=[.int .i32 0] :=by kernel_rfl
@[go_sem] theorem tZ:zDs (tz Tryz.prog 21)=some [.int .i32 0] :=by kernel_rfl
@[go_sem] theorem tb:ti Tryz.prog 22= .sl 25:=by kernel_rfl
@[go_sem] theorem tc:tsz Tryz.prog 22=1:=by kernel_rfl
@[go_sem] theorem tg:Tryz.prog.bytesOf 22=24:=by kernel_rfl
@[go_sem] theorem th:(tz Tryz.prog 22).length =1:=by kernel_rfl
@[go_sem] theorem tj:(tz Tryz.prog 22).map zAV=[.nils] :=by kernel_rfl
@[go_sem] theorem tt:zDs (tz Tryz.prog 22)=some [.sl []] :=by kernel_rfl
@[go_sem] theorem tu:ti Tryz.prog 23= .sl 98:=by kernel_rfl
@[go_sem] theorem tw:tsz Tryz.prog 23=1:=by kernel_rfl
@[go_sem] theorem tx:Tryz.prog.bytesOf 23=24:=by kernel_rfl
@[go_sem] theorem t6:(tz Tryz.prog 23).length =1:=by kernel_rfl
@[go_sem] theorem t7:(tz Tryz.prog 23).map zAV=[.nils] :=by kernel_rfl
@[go_sem] theorem t8:zDs (tz Tryz.prog 23)=some [.sl []] :=by kernel_rfl
@[go_sem] theorem uA:ti Tryz.prog 25= .st [(0,23)] :=by kernel_rfl
@[go_sem] theorem uB:tsz Tryz.prog 25=1:=by kernel_rfl
@[go_sem] theorem uC:Tryz.prog.bytesOf 25=24:=by kernel_rfl
@[go_sem] theorem uD:(tz Tryz.prog 25).length =1:=by kernel_rfl
@[go_sem] theorem uE:(tz Tryz.prog 25).map zAV=[.nils] :=by kernel_rfl
@[go_sem] theorem uF:zDs (tz Tryz.prog 25)=some [.sl []] :=by kernel_rfl
@[go_sem] theorem uG:ti Tryz.prog 26= .sl 2:=by kernel_rfl
@[go_sem] theorem uH:tsz Tryz.prog 26=1:=by kernel_rfl
@[go_sem] theorem uI:Tryz.prog.bytesOf 26=24:=by kernel_rfl
@[go_sem] theorem uJ:(tz Tryz.prog 26).length =1:=by kernel_rfl
@[go_sem] theorem uK:(tz Tryz.prog 26).map zAV=[.nils] :=by kernel_rfl
@[go_sem] theorem uL:zDs (tz Tryz.prog 26)=some [.sl []] :=by kernel_rfl
@[go_sem] theorem uM:ti Tryz.prog 31= .sl 35:=by kernel_rfl
@[go_sem] theorem uN:tsz Tryz.prog 31=1:=by kernel_rfl
@[go_sem] theorem uO:Tryz.prog.bytesOf 31=24:=by kernel_rfl
@[go_sem] theorem uP:(tz Tryz.prog 31).length =1:=by kernel_rfl
@[go_sem] theorem uQ:(tz Tryz.prog 31).map zAV=[.nils] :=by kernel_rfl
@[go_sem] theorem uR:zDs (tz Tryz.prog 31)=some [.sl []] :=by kernel_rfl
@[go_sem] theorem uS:ti Tryz.prog 33= .sl 105:=by kernel_rfl
@[go_sem] theorem uT:tsz Tryz.prog 33=1:=by kernel_rfl
@[go_sem] theorem uU:Tryz.prog.bytesOf 33=24:=by kernel_rfl
@[go_sem] theorem uV:(tz Tryz.prog 33).length =1:=by kernel_rfl
@[go_sem] theorem uW:(tz Tryz.prog 33).map zAV=[.nils] :=by kernel_rfl
@[go_sem] theorem uX:zDs (tz Tryz.prog 33)=some [.sl []] :=by kernel_rfl
@[go_sem] theorem uY:ti Tryz.prog 35= .st [(0,33)] :=by kernel_rfl
@[go_sem] theorem uZ:tsz Tryz.prog 35=1:=by kernel_rfl
@[go_sem] theorem ua:Tryz.prog.bytesOf 35=24:=by kernel_rfl
@[go_sem] theorem ub:(tz Tryz.prog 35).length =1:=by kernel_rfl
@[go_sem] theorem uc:(tz Tryz.prog 35).map zAV=[.nils] :=by kernel_rfl
@[go_sem] theorem ud:zDs (tz Tryz.prog 35)=some [.sl []] :=by kernel_rfl
@[go_sem] theorem ue:ti Tryz.prog 52= .sl 55:=by kernel_rfl
@[go_sem] theorem uf:tsz Tryz.prog 52=1:=by kernel_rfl
@[go_sem] theorem ug:Tryz.prog.bytesOf 52=24:=by kernel_rfl
@[go_sem] theorem ui:(tz Tryz.prog 52).length =1:=by kernel_rfl
@[go_sem] theorem uj:(tz Tryz.prog 52).map zAV=[.nils] :=by kernel_rfl
@[go_sem] theorem uk:zDs (tz Tryz.prog 52)=some [.sl []] :=by kernel_rfl
@[go_sem] theorem um:ti Tryz.prog 55= .st [(0,2),(1,2)] :=by kernel_rfl
@[go_sem] theorem uo:G6 Tryz.prog 55=some [.int .i64,.int .i64] :=by kernel_rfl
@[go_sem] theorem up:tsz Tryz.prog 55=2:=by kernel_rfl
@[go_sem] theorem uq:Tryz.prog.bytesOf 55=16:=by kernel_rfl
@[go_sem] theorem ur:(tz Tryz.prog 55).length =2:=by kernel_rfl
@[go_sem] theorem ut:(tz Tryz.prog 55).map zAV=[.int .i64 0,.int .i64 0] :=by kernel_rfl
@[go_sem] theorem uu:zDs (tz Tryz.prog 55)=some [.int .i64 0,.int .i64 0] :=by kernel_rfl
@[go_sem] theorem uv:ti Tryz.prog 72= .ptr 138:=by kernel_rfl
@[go_sem] theorem uw:tsz Tryz.prog 72=1:=by kernel_rfl
@[go_sem] theorem ux:Tryz.prog.bytesOf 72=8:=by kernel_rfl
@[go_sem] theorem uy:(tz Tryz.prog 72).length =1:=by kernel_rfl
@[go_sem] theorem uz:(tz Tryz.prog 72).map zAV=[.nilp] :=by kernel_rfl
@[go_sem] theorem vA:ti Tryz.prog 78= .sl 26:=by kernel_rfl
@[go_sem] theorem vB:tsz Tryz.prog 78=1:=by kernel_rfl
@[go_sem] theorem vC:Tryz.prog.bytesOf 78=24:=by kernel_rfl
@[go_sem] theorem vD:(tz Tryz.prog 78).length =1:=by kernel_rfl
@[go_sem] theorem vE:(tz Tryz.prog 78).map zAV=[.nils] :=by kernel_rfl
@[go_sem] theorem vF:zDs (tz Tryz.prog 78)=some [.sl []] :=by kernel_rfl
@[go_sem] theorem vG:ti Tryz.prog 86= .ptr 89:=by kernel_rfl
@[go_sem] theorem vH:tsz Tryz.prog 86=1:=by kernel_rfl
@[go_sem] theorem vI:Tryz.prog.bytesOf 86=8:=by kernel_rfl
@[go_sem] theorem vJ:(tz Tryz.prog 86).length =1:=by kernel_rfl
@[go_sem] theorem vK:(tz Tryz.prog 86).map zAV=[.nilp] :=by kernel_rfl
@[go_sem] theorem vL:ti Tryz.prog 87= .sl 5:=by kernel_rfl
@[go_sem] theorem vM:tsz Tryz.prog 87=1:=by kernel_rfl
@[go_sem] theorem vN:Tryz.prog.bytesOf 87=24:=by kernel_rfl
@[go_sem] theorem vO:(tz Tryz.prog 87).length =1:=by kernel_rfl
@[go_sem] theorem vP:(tz Tryz.prog 87).map zAV=[.nils] :=by kernel_rfl
@[go_sem] theorem vQ:zDs (tz Tryz.prog 87)=some [.sl []] :=by kernel_rfl
@[go_sem] theorem vR:ti Tryz.prog 89= .st [(0,86),(1,87)] :=by kernel_rfl
@[go_sem] theorem vS:tsz Tryz.prog 89=2:=by kernel_rfl
@[go_sem] theorem vT:Tryz.prog.bytesOf 89=32:=by kernel_rfl
@[go_sem] theorem vU:(tz Tryz.prog 89).length =2:=by kernel_rfl
@[go_sem] theorem vV:(tz Tryz.prog 89).map zAV=[.nilp,.nils] :=by kernel_rfl
@[go_sem] theorem vW:ti Tryz.prog 96= .sl 210:=by kernel_rfl
@[go_sem] theorem vX:tsz Tryz.prog 96=1:=by kernel_rfl
@[go_sem] theorem vY:Tryz.prog.bytesOf 96=24:=by kernel_rfl
@[go_sem] theorem vZ:(tz Tryz.prog 96).length =1:=by kernel_rfl
@[go_sem] theorem va:(tz Tryz.prog 96).map zAV=[.nils] :=by kernel_rfl
@[go_sem] theorem vc:zDs (tz Tryz.prog 96)=some [.sl []] :=by kernel_rfl
@[go_sem] theorem vd:ti Tryz.prog 98= .st [(0,2),(1,2),(2,2),(3,26),(4,96)] :=by kernel_rfl
@[go_sem] theorem ve:tsz Tryz.prog 98=5:=by kernel_rfl
@[go_sem] theorem vf:Tryz.prog.bytesOf 98=72:=by kernel_rfl
@[go_sem] theorem vg:(tz Tryz.prog 98).length =5:=by kernel_rfl
@[go_sem] theorem vh:(tz Tryz.prog 98).map zAV=[.int .i64 0,.int .i64 0,.int .i64 0,.nils,.nils] :=by kernel_rfl
@[go_sem] theorem vi:zDs (tz Tryz.prog 98)=some [.int .i64 0,.int .i64 0,.int .i64 0,.sl [],.sl []] :=by kernel_rfl
@[go_sem] theorem qv:ti Tryz.prog 103= .sl 109:=by kernel_rfl
@[go_sem] theorem qw:tsz Tryz.prog 103=1:=by kernel_rfl
@[go_sem] theorem qx:Tryz.prog.bytesOf 103=24:=by kernel_rfl
@[go_sem] theorem qy:(tz Tryz.prog 103).length =1:=by kernel_rfl
@[go_sem] theorem qz:(tz Tryz.prog 103).map zAV=[.nils] :=by kernel_rfl
@[go_sem] theorem q9:zDs (tz Tryz.prog 103)=some [.sl []] :=by kernel_rfl
@[go_sem] theorem rA:ti Tryz.prog 105= .st [(0,2),(1,2),(2,2),(3,26),(4,103)] :=by kernel_rfl
@[go_sem] theorem rB:tsz Tryz.prog 105=5:=by kernel_rfl
@[go_sem] theorem rC:Tryz.prog.bytesOf 105=72:=by kernel_rfl
@[go_sem] theorem rD:(tz Tryz.prog 105).length =5:=by kernel_rfl
@[go_sem] theorem rE:(tz Tryz.prog 105).map zAV=[.int .i64 0,.int .i64 0,.int .i64 0,.nils,.nils] :=by kernel_rfl
@[go_sem] theorem rF:zDs (tz Tryz.prog 105)=some [.int .i64 0,.int .i64 0,.int .i64 0,.sl [],.sl []] :=by kernel_rfl
@[go_sem] theorem rG:ti Tryz.prog 109= .st [(0,2),(1,2)] :=by kernel_rfl
@[go_sem] theorem rH:G6 Tryz.prog 109=some [.int .i64,.int .i64] :=by kernel_rfl
@[go_sem] theorem rI:tsz Tryz.prog 109=2:=by kernel_rfl
@[go_sem] theorem rJ:Tryz.prog.bytesOf 109=16:=by kernel_rfl
@[go_sem] theorem rK:(tz Tryz.prog 109).length =2:=by kernel_rfl
@[go_sem] theorem rL:(tz Tryz.prog 109).map zAV=[.int .i64 0,.int .i64 0] :=by kernel_rfl
@[go_sem] theorem rM:zDs (tz Tryz.prog 109)=some [.int .i64 0,.int .i64 0] :=by kernel_rfl
@[go_sem] theorem rN:ti Tryz.prog 113= .sl 9:=by kernel_rfl
@[go_sem] theorem rO:tsz Tryz.prog 113=1:=by kernel_rfl
@[go_sem] theorem rP:Tryz.prog.bytesOf 113=24:=by kernel_rfl
@[go_sem] theorem rQ:(tz Tryz.prog 113).length =1:=by kernel_rfl
@[go_sem] theorem rR:(tz Tryz.prog 113).map zAV=[.nils] :=by kernel_rfl
@[go_sem] theorem rS:zDs (tz Tryz.prog 113)=some [.sl []] :=by kernel_rfl
@[go_sem] theorem rT:ti Tryz.prog 136= .map 2 4:=by kernel_rfl
@[go_sem] theorem rU:Xe Tryz.prog 136=some (.int .i64):=by kernel_rfl
@[go_sem] theorem kt2:UK Tryz.prog 2=some (.int .i64):=by kernel_rfl
@[go_sem] theorem zz4:tz1 Tryz.prog 4=some (.bool false):=by kernel_rfl
@[go_sem] theorem vj:zAV (.bool false)= .bool false:=rfl
@[go_sem] theorem rV:tsz Tryz.prog 136=1:=by kernel_rfl
@[go_sem] theorem rW:Tryz.prog.bytesOf 136=8:=by kernel_rfl
@[go_sem] theorem rX:(tz Tryz.prog 136).length =1:=by kernel_rfl
@[go_sem] theorem rY:(tz Tryz.prog 136).map zAV=[.any] :=by kernel_rfl
@[go_sem] theorem rZ:ti Tryz.prog 138= .st [(0,35),(1,31),(2,136)] :=by kernel_rfl
@[go_sem] theorem rc:tsz Tryz.prog 138=3:=by kernel_rfl
@[go_sem] theorem re:Tryz.prog.bytesOf 138=56:=by kernel_rfl
@[go_sem] theorem rf:(tz Tryz.prog 138).length =3:=by kernel_rfl
@[go_sem] theorem rg:(tz Tryz.prog 138).map zAV=[.nils,.nils,.any] :=by kernel_rfl
@[go_sem] theorem rh:ti Tryz.prog 153= .st [(0,35),(1,26),(2,2)] :=by kernel_rfl
@[go_sem] theorem rj:tsz Tryz.prog 153=3:=by kernel_rfl
@[go_sem] theorem rk:Tryz.prog.bytesOf 153=56:=by kernel_rfl
@[go_sem] theorem rl:(tz Tryz.prog 153).length =3:=by kernel_rfl
@[go_sem] theorem rn:(tz Tryz.prog 153).map zAV=[.nils,.nils,.int .i64 0] :=by kernel_rfl
@[go_sem] theorem rx:zDs (tz Tryz.prog 153)=some [.sl [],.sl [],.int .i64 0] :=by kernel_rfl
@[go_sem] theorem ry:ti Tryz.prog 161= .arr 8 9:=by kernel_rfl
@[go_sem] theorem rz:tsz Tryz.prog 161=8:=by kernel_rfl
@[go_sem] theorem r6:Tryz.prog.bytesOf 161=128:=by kernel_rfl
@[go_sem] theorem r7:(tz Tryz.prog 161).length =8:=by kernel_rfl
@[go_sem] theorem r8:(tz Tryz.prog 161).map zAV=[.str ByteArray.empty,.str ByteArray.empty,.str ByteArray.empty,.str ByteArray.empty,.str ByteArray.empty,.str ByteArray.empty,.str ByteArray.empty,.str ByteArray.empty] :=by kernel_rfl
@[go_sem] theorem r9:zDs (tz Tryz.prog 161)=some [.str ByteArray.empty,.str ByteArray.empty,.str ByteArray.empty,.str ByteArray.empty,.str ByteArray.empty,.str ByteArray.empty,.str ByteArray.empty,.str ByteArray.empty] :=by kernel_rfl
@[go_sem] theorem sA:ti Tryz.prog 162= .ptr 5:=by kernel_rfl
@[go_sem] theorem sB:tsz Tryz.prog 162=1:=by kernel_rfl
@[go_sem] theorem sC:Tryz.prog.bytesOf 162=8:=by kernel_rfl
@[go_sem] theorem sD:(tz Tryz.prog 162).length =1:=by kernel_rfl
@[go_sem] theorem sE:(tz Tryz.prog 162).map zAV=[.nilp] :=by kernel_rfl
@[go_sem] theorem sF:ti Tryz.prog 180= .st [(0,72),(1,26),(2,26),(3,26),(4,26)] :=by kernel_rfl
@[go_sem] theorem sG:tsz Tryz.prog 180=5:=by kernel_rfl
@[go_sem] theorem sH:Tryz.prog.bytesOf 180=104:=by kernel_rfl
@[go_sem] theorem sI:(tz Tryz.prog 180).length =5:=by kernel_rfl
@[go_sem] theorem sJ:(tz Tryz.prog 180).map zAV=[.nilp,.nils,.nils,.nils,.nils] :=by kernel_rfl
@[go_sem] theorem sK:ti Tryz.prog 190= .map 2 2:=by kernel_rfl
@[go_sem] theorem sL:Xe Tryz.prog 190=some (.int .i64):=by kernel_rfl
@[go_sem] theorem zz2:tz1 Tryz.prog 2=some (.int .i64 0):=by kernel_rfl
@[go_sem] theorem vk:zAV (.int .i64 0)= .int .i64 0:=rfl
@[go_sem] theorem sM:tsz Tryz.prog 190=1:=by kernel_rfl
@[go_sem] theorem sN:Tryz.prog.bytesOf 190=8:=by kernel_rfl
@[go_sem] theorem sO:(tz Tryz.prog 190).length =1:=by kernel_rfl
@[go_sem] theorem sP:(tz Tryz.prog 190).map zAV=[.any] :=by kernel_rfl
@[go_sem] theorem sQ:ti Tryz.prog 210= .st [(0,2),(1,2)] :=by kernel_rfl
@[go_sem] theorem sR:G6 Tryz.prog 210=some [.int .i64,.int .i64] :=by kernel_rfl
@[go_sem] theorem sS:tsz Tryz.prog 210=2:=by kernel_rfl
@[go_sem] theorem sT:Tryz.prog.bytesOf 210=16:=by kernel_rfl
@[go_sem] theorem sU:(tz Tryz.prog 210).length =2:=by kernel_rfl
@[go_sem] theorem sV:(tz Tryz.prog 210).map zAV=[.int .i64 0,.int .i64 0] :=by kernel_rfl
@[go_sem] theorem sW:zDs (tz Tryz.prog 210)=some [.int .i64 0,.int .i64 0] :=by kernel_rfl
@[go_sem] theorem sX:ti Tryz.prog 229= .arr 24 5:=by kernel_rfl
@[go_sem] theorem sY:tsz Tryz.prog 229=24:=by kernel_rfl
@[go_sem] theorem sZ:Tryz.prog.bytesOf 229=24:=by kernel_rfl
@[go_sem] theorem sd:(tz Tryz.prog 229).length =24:=by kernel_rfl
@[go_sem] theorem se:(tz Tryz.prog 229).map zAV=[.int .u8 0,.int .u8 0,.int .u8 0,.int .u8 0,.int .u8 0,.int .u8 0,.int .u8 0,.int .u8 0,.int .u8 0,.int .u8 0,.int .u8 0,.int .u8 0,.int .u8 0,.int .u8 0,.int .u8 0,.int .u8 0,.int .u8 0,.int .u8 0,.int .u8 0,.int .u8 0,.int .u8 0,.int .u8 0,.int .u8 0,.int .u8 0] :=by kernel_rfl
@[go_sem] theorem sf:zDs (tz Tryz.prog 229)=some [.int .u8 0,.int .u8 0,.int .u8 0,.int .u8 0,.int .u8 0,.int .u8 0,.int .u8 0,.int .u8 0,.int .u8 0,.int .u8 0,.int .u8 0,.int .u8 0,.int .u8 0,.int .u8 0,.int .u8 0,.int .u8 0,.int .u8 0,.int .u8 0,.int .u8 0,.int .u8 0,.int .u8 0,.int .u8 0,.int .u8 0,.int .u8 0] :=by kernel_rfl
@[go_sem] theorem sg:ti Tryz.prog 230= .int .u64 :=by kernel_rfl
@[go_sem] theorem si:tsz Tryz.prog 230=1:=by kernel_rfl
@[go_sem] theorem sj:Tryz.prog.bytesOf 230=8:=by kernel_rfl
@[go_sem] theorem sr:(tz Tryz.prog 230).length =1:=by kernel_rfl
@[go_sem] theorem ss:(tz Tryz.prog 230).map zAV=[.int .u64 0] :=by kernel_rfl
@[go_sem] theorem su:zDs (tz Tryz.prog 230)=some [.int .u64 0] :=by kernel_rfl
@[go_sem] theorem s0:ti Tryz.prog 236= .int .u32 :=by kernel_rfl
@[go_sem] theorem s4:tsz Tryz.prog 236=1:=by kernel_rfl
@[go_sem] theorem s5:Tryz.prog.bytesOf 236=4:=by kernel_rfl
@[go_sem] theorem s6:(tz Tryz.prog 236).length =1:=by kernel_rfl
@[go_sem] theorem s7:(tz Tryz.prog 236).map zAV=[.int .u32 0] :=by kernel_rfl
@[go_sem] theorem s8:zDs (tz Tryz.prog 236)=some [.int .u32 0] :=by kernel_rfl
@[go_sem] theorem s9:ti Tryz.prog 243= .arr 20 230:=by kernel_rfl
@[go_sem] theorem tA:tsz Tryz.prog 243=20:=by kernel_rfl
@[go_sem] theorem tB:Tryz.prog.bytesOf 243=160:=by kernel_rfl
@[go_sem] theorem tC:(tz Tryz.prog 243).length =20:=by kernel_rfl
@[go_sem] theorem tD:(tz Tryz.prog 243).map zAV=[.int .u64 0,.int .u64 0,.int .u64 0,.int .u64 0,.int .u64 0,.int .u64 0,.int .u64 0,.int .u64 0,.int .u64 0,.int .u64 0,.int .u64 0,.int .u64 0,.int .u64 0,.int .u64 0,.int .u64 0,.int .u64 0,.int .u64 0,.int .u64 0,.int .u64 0,.int .u64 0] :=by kernel_rfl
@[go_sem] theorem tE:zDs (tz Tryz.prog 243)=some [.int .u64 0,.int .u64 0,.int .u64 0,.int .u64 0,.int .u64 0,.int .u64 0,.int .u64 0,.int .u64 0,.int .u64 0,.int .u64 0,.int .u64 0,.int .u64 0,.int .u64 0,.int .u64 0,.int .u64 0,.int .u64 0,.int .u64 0,.int .u64 0,.int .u64 0,.int .u64 0] :=by kernel_rfl
@[go_sem] theorem tF:ti Tryz.prog 244= .arr 65 5:=by kernel_rfl
@[go_sem] theorem tG:tsz Tryz.prog 244=65:=by kernel_rfl
@[go_sem] theorem tH:Tryz.prog.bytesOf 244=65:=by kernel_rfl
@[go_sem] theorem tI:ti Tryz.prog 246= .int .u64 :=by kernel_rfl
@[go_sem] theorem tJ:tsz Tryz.prog 246=1:=by kernel_rfl
@[go_sem] theorem tK:Tryz.prog.bytesOf 246=8:=by kernel_rfl
@[go_sem] theorem tL:(tz Tryz.prog 246).length =1:=by kernel_rfl
@[go_sem] theorem tM:(tz Tryz.prog 246).map zAV=[.int .u64 0] :=by kernel_rfl
@[go_sem] theorem tN:zDs (tz Tryz.prog 246)=some [.int .u64 0] :=by kernel_rfl
@[go_sem] theorem tO:ti Tryz.prog 248= .arr 13 2:=by kernel_rfl
@[go_sem] theorem tP:tsz Tryz.prog 248=13:=by kernel_rfl
@[go_sem] theorem tQ:Tryz.prog.bytesOf 248=104:=by kernel_rfl
@[go_sem] theorem tR:(tz Tryz.prog 248).length =13:=by kernel_rfl
@[go_sem] theorem tS:(tz Tryz.prog 248).map zAV=[.int .i64 0,.int .i64 0,.int .i64 0,.int .i64 0,.int .i64 0,.int .i64 0,.int .i64 0,.int .i64 0,.int .i64 0,.int .i64 0,.int .i64 0,.int .i64 0,.int .i64 0] :=by kernel_rfl
@[go_sem] theorem tT:zDs (tz Tryz.prog 248)=some [.int .i64 0,.int .i64 0,.int .i64 0,.int .i64 0,.int .i64 0,.int .i64 0,.int .i64 0,.int .i64 0,.int .i64 0,.int .i64 0,.int .i64 0,.int .i64 0,.int .i64 0] :=by kernel_rfl
theorem mixed:Tryz.prog.follows .mixedOrders =true:=Tryz.checked.mixed
attribute [go_sem] Nat.reduceAdd Nat.reduceMul reduceIte Nat.reduceEqDiff Nat.reduceLeDiff Nat.reduceLT
end Go.Proofs.YteckcjgpnegkjaaGreatDoor.Ab
