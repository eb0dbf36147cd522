/-
  What the walk asks of each type. Printed by wip/ab/gen_ti.py.
-/
import Derived.Test.YtnfgeocnolheoaaGreatRows
import Derived.Test.YtnfgeocnolheoaaGreatAbC
namespace Go.Proofs.YtnfgeocnolheoaaGreat.Ab
open Go.RowKit
@[go_sem] theorem ti2:ti Tryz.prog 2= .int .i64 :=by kernel_rfl
@[go_sem] theorem sz2:tsz Tryz.prog 2=1:=by kernel_rfl
@[go_sem] theorem by2:Tryz.prog.bytesOf 2=8:=by kernel_rfl
@[go_sem] theorem zl2:(tz Tryz.prog 2).length =1:=by kernel_rfl
@[go_sem] theorem za2:(tz Tryz.prog 2).map zAV=[.int .i64 0] :=by kernel_rfl
@[go_sem] theorem zd2:zDs (tz Tryz.prog 2)=some [.int .i64 0] :=by kernel_rfl
@[go_sem] theorem ti3:ti Tryz.prog 3= .int .i64 :=by kernel_rfl
@[go_sem] theorem sz3:tsz Tryz.prog 3=1:=by kernel_rfl
@[go_sem] theorem by3:Tryz.prog.bytesOf 3=8:=by kernel_rfl
@[go_sem] theorem zl3:(tz Tryz.prog 3).length =1:=by kernel_rfl
@[go_sem] theorem za3:(tz Tryz.prog 3).map zAV=[.int .i64 0] :=by kernel_rfl
@[go_sem] theorem zd3:zDs (tz Tryz.prog 3)=some [.int .i64 0] :=by kernel_rfl
@[go_sem] theorem ti4:ti Tryz.prog 4= .bool :=by kernel_rfl
@[go_sem] theorem sz4:tsz Tryz.prog 4=1:=by kernel_rfl
@[go_sem] theorem by4:Tryz.prog.bytesOf 4=1:=by kernel_rfl
@[go_sem] theorem zl4:(tz Tryz.prog 4).length =1:=by kernel_rfl
@[go_sem] theorem za4:(tz Tryz.prog 4).map zAV=[.bool false] :=by kernel_rfl
@[go_sem] theorem zd4:zDs (tz Tryz.prog 4)=some [.bool false] :=by kernel_rfl
@[go_sem] theorem ti5:ti Tryz.prog 5= .int .u8 :=by kernel_rfl
@[go_sem] theorem sz5:tsz Tryz.prog 5=1:=by kernel_rfl
@[go_sem] theorem by5:Tryz.prog.bytesOf 5=1:=by kernel_rfl
@[go_sem] theorem zl5:(tz Tryz.prog 5).length =1:=by kernel_rfl
@[go_sem] theorem za5:(tz Tryz.prog 5).map zAV=[.int .u8 0] :=by kernel_rfl
@[go_sem] theorem zd5:zDs (tz Tryz.prog 5)=some [.int .u8 0] :=by kernel_rfl
@[go_sem] theorem ti9:ti Tryz.prog 9= .str :=by kernel_rfl
@[go_sem] theorem sz9:tsz Tryz.prog 9=1:=by kernel_rfl
@[go_sem] theorem by9:Tryz.prog.bytesOf 9=16:=by kernel_rfl
@[go_sem] theorem zl9:(tz Tryz.prog 9).length =1:=by kernel_rfl
@[go_sem] theorem za9:(tz Tryz.prog 9).map zAV=[.str ByteArray.empty] :=by kernel_rfl
@[go_sem] theorem zd9:zDs (tz Tryz.prog 9)=some [.str ByteArray.empty] :=by kernel_rfl
@[go_sem] theorem ra:ti Tryz.prog 22= .sl 86:=by kernel_rfl
@[go_sem] theorem rc:tsz Tryz.prog 22=1:=by kernel_rfl
@[go_sem] theorem rf:Tryz.prog.bytesOf 22=24:=by kernel_rfl
@[go_sem] theorem rg:(tz Tryz.prog 22).length =1:=by kernel_rfl
@[go_sem] theorem rh:(tz Tryz.prog 22).map zAV=[.nils] :=by kernel_rfl
@[go_sem] theorem rj:zDs (tz Tryz.prog 22)=some [.sl []] :=by kernel_rfl
@[go_sem] theorem rk:ti Tryz.prog 23= .sl 95:=by kernel_rfl
@[go_sem] theorem rl:tsz Tryz.prog 23=1:=by kernel_rfl
@[go_sem] theorem rm:Tryz.prog.bytesOf 23=24:=by kernel_rfl
@[go_sem] theorem rn:(tz Tryz.prog 23).length =1:=by kernel_rfl
@[go_sem] theorem rp:(tz Tryz.prog 23).map zAV=[.nils] :=by kernel_rfl
@[go_sem] theorem rq:zDs (tz Tryz.prog 23)=some [.sl []] :=by kernel_rfl
@[go_sem] theorem ru:ti Tryz.prog 25= .st [(0,22),(1,23)] :=by kernel_rfl
@[go_sem] theorem rx:tsz Tryz.prog 25=2:=by kernel_rfl
@[go_sem] theorem ry:Tryz.prog.bytesOf 25=48:=by kernel_rfl
@[go_sem] theorem rz:(tz Tryz.prog 25).length =2:=by kernel_rfl
@[go_sem] theorem r7:(tz Tryz.prog 25).map zAV=[.nils,.nils] :=by kernel_rfl
@[go_sem] theorem r8:zDs (tz Tryz.prog 25)=some [.sl [],.sl []] :=by kernel_rfl
@[go_sem] theorem r9:ti Tryz.prog 28= .sl 98:=by kernel_rfl
@[go_sem] theorem sA:tsz Tryz.prog 28=1:=by kernel_rfl
@[go_sem] theorem sB:Tryz.prog.bytesOf 28=24:=by kernel_rfl
@[go_sem] theorem sC:(tz Tryz.prog 28).length =1:=by kernel_rfl
@[go_sem] theorem sD:(tz Tryz.prog 28).map zAV=[.nils] :=by kernel_rfl
@[go_sem] theorem sE:zDs (tz Tryz.prog 28)=some [.sl []] :=by kernel_rfl
@[go_sem] theorem sF:ti Tryz.prog 29= .sl 64:=by kernel_rfl
@[go_sem] theorem sG:tsz Tryz.prog 29=1:=by kernel_rfl
@[go_sem] theorem sH:Tryz.prog.bytesOf 29=24:=by kernel_rfl
@[go_sem] theorem sI:(tz Tryz.prog 29).length =1:=by kernel_rfl
@[go_sem] theorem sJ:(tz Tryz.prog 29).map zAV=[.nils] :=by kernel_rfl
@[go_sem] theorem sK:zDs (tz Tryz.prog 29)=some [.sl []] :=by kernel_rfl
@[go_sem] theorem sL:ti Tryz.prog 31= .st [(0,28),(1,29)] :=by kernel_rfl
@[go_sem] theorem sM:tsz Tryz.prog 31=2:=by kernel_rfl
@[go_sem] theorem sN:Tryz.prog.bytesOf 31=48:=by kernel_rfl
@[go_sem] theorem sO:(tz Tryz.prog 31).length =2:=by kernel_rfl
@[go_sem] theorem sP:(tz Tryz.prog 31).map zAV=[.nils,.nils] :=by kernel_rfl
@[go_sem] theorem sQ:zDs (tz Tryz.prog 31)=some [.sl [],.sl []] :=by kernel_rfl
@[go_sem] theorem sR:ti Tryz.prog 35= .sl 37:=by kernel_rfl
@[go_sem] theorem sS:tsz Tryz.prog 35=1:=by kernel_rfl
@[go_sem] theorem sT:Tryz.prog.bytesOf 35=24:=by kernel_rfl
@[go_sem] theorem sU:(tz Tryz.prog 35).length =1:=by kernel_rfl
@[go_sem] theorem sV:(tz Tryz.prog 35).map zAV=[.nils] :=by kernel_rfl
@[go_sem] theorem sW:zDs (tz Tryz.prog 35)=some [.sl []] :=by kernel_rfl
@[go_sem] theorem sX:ti Tryz.prog 37= .st [(0,2),(1,9),(2,35)] :=by kernel_rfl
@[go_sem] theorem sY:tsz Tryz.prog 37=3:=by kernel_rfl
@[go_sem] theorem sZ:Tryz.prog.bytesOf 37=48:=by kernel_rfl
@[go_sem] theorem sa:(tz Tryz.prog 37).length =3:=by kernel_rfl
@[go_sem] theorem sb:(tz Tryz.prog 37).map zAV=[.int .i64 0,.str ByteArray.empty,.nils] :=by kernel_rfl
@[go_sem] theorem sd:zDs (tz Tryz.prog 37)=some [.int .i64 0,.str ByteArray.empty,.sl []] :=by kernel_rfl
@[go_sem] theorem se:ti Tryz.prog 50= .sl 70:=by kernel_rfl
@[go_sem] theorem sf:tsz Tryz.prog 50=1:=by kernel_rfl
@[go_sem] theorem sg:Tryz.prog.bytesOf 50=24:=by kernel_rfl
@[go_sem] theorem si:(tz Tryz.prog 50).length =1:=by kernel_rfl
@[go_sem] theorem sj:(tz Tryz.prog 50).map zAV=[.nils] :=by kernel_rfl
@[go_sem] theorem sm:zDs (tz Tryz.prog 50)=some [.sl []] :=by kernel_rfl
@[go_sem] theorem sn:ti Tryz.prog 59= .sl 9:=by kernel_rfl
@[go_sem] theorem so:tsz Tryz.prog 59=1:=by kernel_rfl
@[go_sem] theorem sp:Tryz.prog.bytesOf 59=24:=by kernel_rfl
@[go_sem] theorem sr:(tz Tryz.prog 59).length =1:=by kernel_rfl
@[go_sem] theorem ss:(tz Tryz.prog 59).map zAV=[.nils] :=by kernel_rfl
@[go_sem] theorem su:zDs (tz Tryz.prog 59)=some [.sl []] :=by kernel_rfl
@[go_sem] theorem sw:ti Tryz.prog 60= .sl 62:=by kernel_rfl
@[go_sem] theorem sx:tsz Tryz.prog 60=1:=by kernel_rfl
@[go_sem] theorem sy:Tryz.prog.bytesOf 60=24:=by kernel_rfl
@[go_sem] theorem s0:(tz Tryz.prog 60).length =1:=by kernel_rfl
@[go_sem] theorem s3:(tz Tryz.prog 60).map zAV=[.nils] :=by kernel_rfl
@[go_sem] theorem s4:zDs (tz Tryz.prog 60)=some [.sl []] :=by kernel_rfl
@[go_sem] theorem s5:ti Tryz.prog 62= .st [(0,2),(1,2),(2,9),(3,37),(6,59),(7,60)] :=by kernel_rfl
@[go_sem] theorem s6:tsz Tryz.prog 62=8:=by kernel_rfl
@[go_sem] theorem s7:Tryz.prog.bytesOf 62=128:=by kernel_rfl
@[go_sem] theorem s8:(tz Tryz.prog 62).length =8:=by kernel_rfl
@[go_sem] theorem s9:(tz Tryz.prog 62).map zAV=[.int .i64 0,.int .i64 0,.str ByteArray.empty,.int .i64 0,.str ByteArray.empty,.nils,.nils,.nils] :=by kernel_rfl
@[go_sem] theorem tA:zDs (tz Tryz.prog 62)=some [.int .i64 0,.int .i64 0,.str ByteArray.empty,.int .i64 0,.str ByteArray.empty,.sl [],.sl [],.sl []] :=by kernel_rfl
@[go_sem] theorem tB:ti Tryz.prog 64= .st [(0,9),(1,37),(4,62)] :=by kernel_rfl
@[go_sem] theorem tC:tsz Tryz.prog 64=12:=by kernel_rfl
@[go_sem] theorem tD:Tryz.prog.bytesOf 64=192:=by kernel_rfl
@[go_sem] theorem tE:(tz Tryz.prog 64).length =12:=by kernel_rfl
@[go_sem] theorem tF:(tz Tryz.prog 64).map zAV=[.str ByteArray.empty,.int .i64 0,.str ByteArray.empty,.nils,.int .i64 0,.int .i64 0,.str ByteArray.empty,.int .i64 0,.str ByteArray.empty,.nils,.nils,.nils] :=by kernel_rfl
@[go_sem] theorem tG:zDs (tz Tryz.prog 64)=some [.str ByteArray.empty,.int .i64 0,.str ByteArray.empty,.sl [],.int .i64 0,.int .i64 0,.str ByteArray.empty,.int .i64 0,.str ByteArray.empty,.sl [],.sl [],.sl []] :=by kernel_rfl
@[go_sem] theorem tH:ti Tryz.prog 65= .sl 2:=by kernel_rfl
@[go_sem] theorem tI:tsz Tryz.prog 65=1:=by kernel_rfl
@[go_sem] theorem tJ:Tryz.prog.bytesOf 65=24:=by kernel_rfl
@[go_sem] theorem tK:(tz Tryz.prog 65).length =1:=by kernel_rfl
@[go_sem] theorem tL:(tz Tryz.prog 65).map zAV=[.nils] :=by kernel_rfl
@[go_sem] theorem tM:zDs (tz Tryz.prog 65)=some [.sl []] :=by kernel_rfl
@[go_sem] theorem tN:ti Tryz.prog 67= .st [(0,59),(1,35),(2,65)] :=by kernel_rfl
@[go_sem] theorem tO:tsz Tryz.prog 67=3:=by kernel_rfl
@[go_sem] theorem tP:Tryz.prog.bytesOf 67=72:=by kernel_rfl
@[go_sem] theorem tQ:(tz Tryz.prog 67).length =3:=by kernel_rfl
@[go_sem] theorem tR:(tz Tryz.prog 67).map zAV=[.nils,.nils,.nils] :=by kernel_rfl
@[go_sem] theorem tS:zDs (tz Tryz.prog 67)=some [.sl [],.sl [],.sl []] :=by kernel_rfl
@[go_sem] theorem tT:ti Tryz.prog 70= .ptr 78:=by kernel_rfl
@[go_sem] theorem tU:tsz Tryz.prog 70=1:=by kernel_rfl
@[go_sem] theorem tV:Tryz.prog.bytesOf 70=8:=by kernel_rfl
@[go_sem] theorem tW:(tz Tryz.prog 70).length =1:=by kernel_rfl
@[go_sem] theorem tX:(tz Tryz.prog 70).map zAV=[.nilp] :=by kernel_rfl
@[go_sem] theorem tY:ti Tryz.prog 73= .st [(0,31)] :=by kernel_rfl
@[go_sem] theorem tZ:tsz Tryz.prog 73=2:=by kernel_rfl
@[go_sem] theorem ta:Tryz.prog.bytesOf 73=48:=by kernel_rfl
@[go_sem] theorem tb:(tz Tryz.prog 73).length =2:=by kernel_rfl
@[go_sem] theorem tc:(tz Tryz.prog 73).map zAV=[.nils,.nils] :=by kernel_rfl
@[go_sem] theorem tg:zDs (tz Tryz.prog 73)=some [.sl [],.sl []] :=by kernel_rfl
@[go_sem] theorem th:ti Tryz.prog 75= .sl 76:=by kernel_rfl
@[go_sem] theorem tj:tsz Tryz.prog 75=1:=by kernel_rfl
@[go_sem] theorem tt:Tryz.prog.bytesOf 75=24:=by kernel_rfl
@[go_sem] theorem tu:(tz Tryz.prog 75).length =1:=by kernel_rfl
@[go_sem] theorem tw:(tz Tryz.prog 75).map zAV=[.nils] :=by kernel_rfl
@[go_sem] theorem tx:zDs (tz Tryz.prog 75)=some [.sl []] :=by kernel_rfl
@[go_sem] theorem t6:ti Tryz.prog 76= .ptr 131:=by kernel_rfl
@[go_sem] theorem t7:tsz Tryz.prog 76=1:=by kernel_rfl
@[go_sem] theorem t8:Tryz.prog.bytesOf 76=8:=by kernel_rfl
@[go_sem] theorem uA:(tz Tryz.prog 76).length =1:=by kernel_rfl
@[go_sem] theorem uB:(tz Tryz.prog 76).map zAV=[.nilp] :=by kernel_rfl
@[go_sem] theorem uC:ti Tryz.prog 78= .st [(0,62),(8,37),(11,2),(12,50),(13,75),(14,76)] :=by kernel_rfl
@[go_sem] theorem uD:tsz Tryz.prog 78=15:=by kernel_rfl
@[go_sem] theorem uE:Tryz.prog.bytesOf 78=240:=by kernel_rfl
@[go_sem] theorem uF:(tz Tryz.prog 78).length =15:=by kernel_rfl
@[go_sem] theorem uG:(tz Tryz.prog 78).map zAV=[.int .i64 0,.int .i64 0,.str ByteArray.empty,.int .i64 0,.str ByteArray.empty,.nils,.nils,.nils,.int .i64 0,.str ByteArray.empty,.nils,.int .i64 0,.nils,.nils,.nilp] :=by kernel_rfl
@[go_sem] theorem uH:ti Tryz.prog 84= .sl 169:=by kernel_rfl
@[go_sem] theorem uI:tsz Tryz.prog 84=1:=by kernel_rfl
@[go_sem] theorem uJ:Tryz.prog.bytesOf 84=24:=by kernel_rfl
@[go_sem] theorem uK:(tz Tryz.prog 84).length =1:=by kernel_rfl
@[go_sem] theorem uL:(tz Tryz.prog 84).map zAV=[.nils] :=by kernel_rfl
@[go_sem] theorem uM:zDs (tz Tryz.prog 84)=some [.sl []] :=by kernel_rfl
@[go_sem] theorem uN:ti Tryz.prog 86= .st [(0,9),(1,84)] :=by kernel_rfl
@[go_sem] theorem uO:tsz Tryz.prog 86=2:=by kernel_rfl
@[go_sem] theorem uP:Tryz.prog.bytesOf 86=40:=by kernel_rfl
@[go_sem] theorem uQ:(tz Tryz.prog 86).length =2:=by kernel_rfl
@[go_sem] theorem uR:(tz Tryz.prog 86).map zAV=[.str ByteArray.empty,.nils] :=by kernel_rfl
@[go_sem] theorem uS:zDs (tz Tryz.prog 86)=some [.str ByteArray.empty,.sl []] :=by kernel_rfl
@[go_sem] theorem uT:ti Tryz.prog 88= .sl 90:=by kernel_rfl
@[go_sem] theorem uU:tsz Tryz.prog 88=1:=by kernel_rfl
@[go_sem] theorem uV:Tryz.prog.bytesOf 88=24:=by kernel_rfl
@[go_sem] theorem uW:(tz Tryz.prog 88).length =1:=by kernel_rfl
@[go_sem] theorem uX:(tz Tryz.prog 88).map zAV=[.nils] :=by kernel_rfl
@[go_sem] theorem uY:zDs (tz Tryz.prog 88)=some [.sl []] :=by kernel_rfl
@[go_sem] theorem uZ:ti Tryz.prog 90= .st [(0,2),(1,9),(2,88)] :=by kernel_rfl
@[go_sem] theorem ua:tsz Tryz.prog 90=3:=by kernel_rfl
@[go_sem] theorem ub:Tryz.prog.bytesOf 90=48:=by kernel_rfl
@[go_sem] theorem uc:(tz Tryz.prog 90).length =3:=by kernel_rfl
@[go_sem] theorem ud:(tz Tryz.prog 90).map zAV=[.int .i64 0,.str ByteArray.empty,.nils] :=by kernel_rfl
@[go_sem] theorem ue:zDs (tz Tryz.prog 90)=some [.int .i64 0,.str ByteArray.empty,.sl []] :=by kernel_rfl
@[go_sem] theorem uf:ti Tryz.prog 91= .sl 93:=by kernel_rfl
@[go_sem] theorem ug:tsz Tryz.prog 91=1:=by kernel_rfl
@[go_sem] theorem ui:Tryz.prog.bytesOf 91=24:=by kernel_rfl
@[go_sem] theorem uj:(tz Tryz.prog 91).length =1:=by kernel_rfl
@[go_sem] theorem uk:(tz Tryz.prog 91).map zAV=[.nils] :=by kernel_rfl
@[go_sem] theorem um:zDs (tz Tryz.prog 91)=some [.sl []] :=by kernel_rfl
@[go_sem] theorem uo:ti Tryz.prog 93= .st [(0,2),(1,2),(2,9),(3,90),(6,59),(7,91)] :=by kernel_rfl
@[go_sem] theorem up:tsz Tryz.prog 93=8:=by kernel_rfl
@[go_sem] theorem uq:Tryz.prog.bytesOf 93=128:=by kernel_rfl
@[go_sem] theorem ur:(tz Tryz.prog 93).length =8:=by kernel_rfl
@[go_sem] theorem ut:(tz Tryz.prog 93).map zAV=[.int .i64 0,.int .i64 0,.str ByteArray.empty,.int .i64 0,.str ByteArray.empty,.nils,.nils,.nils] :=by kernel_rfl
@[go_sem] theorem uu:zDs (tz Tryz.prog 93)=some [.int .i64 0,.int .i64 0,.str ByteArray.empty,.int .i64 0,.str ByteArray.empty,.sl [],.sl [],.sl []] :=by kernel_rfl
@[go_sem] theorem uv:ti Tryz.prog 95= .st [(0,9),(1,90),(4,93)] :=by kernel_rfl
@[go_sem] theorem uw:tsz Tryz.prog 95=12:=by kernel_rfl
@[go_sem] theorem ux:Tryz.prog.bytesOf 95=192:=by kernel_rfl
@[go_sem] theorem uy:(tz Tryz.prog 95).length =12:=by kernel_rfl
@[go_sem] theorem uz:(tz Tryz.prog 95).map zAV=[.str ByteArray.empty,.int .i64 0,.str ByteArray.empty,.nils,.int .i64 0,.int .i64 0,.str ByteArray.empty,.int .i64 0,.str ByteArray.empty,.nils,.nils,.nils] :=by kernel_rfl
@[go_sem] theorem vA:zDs (tz Tryz.prog 95)=some [.str ByteArray.empty,.int .i64 0,.str ByteArray.empty,.sl [],.int .i64 0,.int .i64 0,.str ByteArray.empty,.int .i64 0,.str ByteArray.empty,.sl [],.sl [],.sl []] :=by kernel_rfl
@[go_sem] theorem vB:ti Tryz.prog 96= .sl 122:=by kernel_rfl
@[go_sem] theorem vC:tsz Tryz.prog 96=1:=by kernel_rfl
@[go_sem] theorem vD:Tryz.prog.bytesOf 96=24:=by kernel_rfl
@[go_sem] theorem vE:(tz Tryz.prog 96).length =1:=by kernel_rfl
@[go_sem] theorem vF:(tz Tryz.prog 96).map zAV=[.nils] :=by kernel_rfl
@[go_sem] theorem vG:zDs (tz Tryz.prog 96)=some [.sl []] :=by kernel_rfl
@[go_sem] theorem vH:ti Tryz.prog 98= .st [(0,9),(1,96)] :=by kernel_rfl
@[go_sem] theorem vI:tsz Tryz.prog 98=2:=by kernel_rfl
@[go_sem] theorem vJ:Tryz.prog.bytesOf 98=40:=by kernel_rfl
@[go_sem] theorem vK:(tz Tryz.prog 98).length =2:=by kernel_rfl
@[go_sem] theorem vL:(tz Tryz.prog 98).map zAV=[.str ByteArray.empty,.nils] :=by kernel_rfl
@[go_sem] theorem vM:zDs (tz Tryz.prog 98)=some [.str ByteArray.empty,.sl []] :=by kernel_rfl
@[go_sem] theorem qZ:ti Tryz.prog 122= .st [(0,9),(1,35)] :=by kernel_rfl
@[go_sem] theorem qa:tsz Tryz.prog 122=2:=by kernel_rfl
@[go_sem] theorem qd:Tryz.prog.bytesOf 122=40:=by kernel_rfl
@[go_sem] theorem qe:(tz Tryz.prog 122).length =2:=by kernel_rfl
@[go_sem] theorem qg:(tz Tryz.prog 122).map zAV=[.str ByteArray.empty,.nils] :=by kernel_rfl
@[go_sem] theorem qh:zDs (tz Tryz.prog 122)=some [.str ByteArray.empty,.sl []] :=by kernel_rfl
@[go_sem] theorem qi:ti Tryz.prog 127= .fn :=by kernel_rfl
@[go_sem] theorem qj:tsz Tryz.prog 127=1:=by kernel_rfl
@[go_sem] theorem qk:Tryz.prog.bytesOf 127=8:=by kernel_rfl
@[go_sem] theorem ql:(tz Tryz.prog 127).length =1:=by kernel_rfl
@[go_sem] theorem qm:ti Tryz.prog 128= .sl 76:=by kernel_rfl
@[go_sem] theorem qo:tsz Tryz.prog 128=1:=by kernel_rfl
@[go_sem] theorem qq:Tryz.prog.bytesOf 128=24:=by kernel_rfl
@[go_sem] theorem qr:(tz Tryz.prog 128).length =1:=by kernel_rfl
@[go_sem] theorem qu:(tz Tryz.prog 128).map zAV=[.nils] :=by kernel_rfl
@[go_sem] theorem qv:zDs (tz Tryz.prog 128)=some [.sl []] :=by kernel_rfl
@[go_sem] theorem qw:ti Tryz.prog 131= .st [(0,9),(1,37),(4,2)] :=by kernel_rfl
@[go_sem] theorem qx:tsz Tryz.prog 131=5:=by kernel_rfl
@[go_sem] theorem qy:Tryz.prog.bytesOf 131=72:=by kernel_rfl
@[go_sem] theorem qz:(tz Tryz.prog 131).length =5:=by kernel_rfl
@[go_sem] theorem rA:(tz Tryz.prog 131).map zAV=[.str ByteArray.empty,.int .i64 0,.str ByteArray.empty,.nils,.int .i64 0] :=by kernel_rfl
@[go_sem] theorem rB:zDs (tz Tryz.prog 131)=some [.str ByteArray.empty,.int .i64 0,.str ByteArray.empty,.sl [],.int .i64 0] :=by kernel_rfl
@[go_sem] theorem rC:ti Tryz.prog 166= .sl 5:=by kernel_rfl
@[go_sem] theorem rD:tsz Tryz.prog 166=1:=by kernel_rfl
@[go_sem] theorem rE:Tryz.prog.bytesOf 166=24:=by kernel_rfl
@[go_sem] theorem rF:(tz Tryz.prog 166).length =1:=by kernel_rfl
@[go_sem] theorem rG:(tz Tryz.prog 166).map zAV=[.nils] :=by kernel_rfl
@[go_sem] theorem rH:zDs (tz Tryz.prog 166)=some [.sl []] :=by kernel_rfl
@[go_sem] theorem rI:ti Tryz.prog 169= .st [(0,9),(1,88)] :=by kernel_rfl
@[go_sem] theorem rJ:tsz Tryz.prog 169=2:=by kernel_rfl
@[go_sem] theorem rK:Tryz.prog.bytesOf 169=40:=by kernel_rfl
@[go_sem] theorem rL:(tz Tryz.prog 169).length =2:=by kernel_rfl
@[go_sem] theorem rM:(tz Tryz.prog 169).map zAV=[.str ByteArray.empty,.nils] :=by kernel_rfl
@[go_sem] theorem rN:zDs (tz Tryz.prog 169)=some [.str ByteArray.empty,.sl []] :=by kernel_rfl
@[go_sem] theorem rO:ti Tryz.prog 182= .map 9 4:=by kernel_rfl
@[go_sem] theorem rP:bJ Tryz.prog 182=some (.str):=by kernel_rfl
@[go_sem] theorem kt9:Vi Tryz.prog 9=some (.str):=by kernel_rfl
@[go_sem] theorem zz4:tz1 Tryz.prog 4=some (.bool false):=by kernel_rfl
@[go_sem] theorem vN:zAV (.bool false)= .bool false:=rfl
@[go_sem] theorem rQ:tsz Tryz.prog 182=1:=by kernel_rfl
@[go_sem] theorem rR:Tryz.prog.bytesOf 182=8:=by kernel_rfl
@[go_sem] theorem rS:(tz Tryz.prog 182).length =1:=by kernel_rfl
@[go_sem] theorem rT:(tz Tryz.prog 182).map zAV=[.any] :=by kernel_rfl
@[go_sem] theorem rU:ti Tryz.prog 208= .sl 59:=by kernel_rfl
@[go_sem] theorem rV:tsz Tryz.prog 208=1:=by kernel_rfl
@[go_sem] theorem rW:Tryz.prog.bytesOf 208=24:=by kernel_rfl
@[go_sem] theorem rX:(tz Tryz.prog 208).length =1:=by kernel_rfl
@[go_sem] theorem rY:(tz Tryz.prog 208).map zAV=[.nils] :=by kernel_rfl
@[go_sem] theorem rZ:zDs (tz Tryz.prog 208)=some [.sl []] :=by kernel_rfl
theorem mixed:Tryz.prog.follows .mixedOrders =true:=Tryz.checked.mixed
attribute [go_sem] Nat.reduceAdd Nat.reduceMul reduceIte Nat.reduceEqDiff Nat.reduceLeDiff Nat.reduceLT
end Go.Proofs.YtnfgeocnolheoaaGreat.Ab
