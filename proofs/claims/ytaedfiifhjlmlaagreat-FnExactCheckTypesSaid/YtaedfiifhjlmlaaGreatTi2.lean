/-
  What the walk asks of each type. Printed by wip/ab/gen_ti.py.
-/
import Derived.Test.YtaedfiifhjlmlaaGreatRows
import Derived.Test.YtaedfiifhjlmlaaGreatAbC
namespace Go.Proofs.YtaedfiifhjlmlaaGreat.Ab
open Go.RowKit
@[go_sem] theorem ti2:ti Tryz.prog 2= .int .i64 :=by kernel_rfl
@[go_sem] theorem sz2:tsz Tryz.prog 2=1:=by kernel_rfl
@[go_sem] theorem by2:Tryz.prog.bytesOf 2=8:=by kernel_rfl
@[go_sem] theorem zl2:(tz Tryz.prog 2).length =1:=by kernel_rfl
@[go_sem] theorem za2:(tz Tryz.prog 2).map zAV=[.int .i64 0] :=by kernel_rfl
@[go_sem] theorem zd2:zDs (tz Tryz.prog 2)=some [.int .i64 0] :=by kernel_rfl
@[go_sem] theorem ti3:ti Tryz.prog 3= .int .i64 :=by kernel_rfl
@[go_sem] theorem sz3:tsz Tryz.prog 3=1:=by kernel_rfl
@[go_sem] theorem by3:Tryz.prog.bytesOf 3=8:=by kernel_rfl
@[go_sem] theorem zl3:(tz Tryz.prog 3).length =1:=by kernel_rfl
@[go_sem] theorem za3:(tz Tryz.prog 3).map zAV=[.int .i64 0] :=by kernel_rfl
@[go_sem] theorem zd3:zDs (tz Tryz.prog 3)=some [.int .i64 0] :=by kernel_rfl
@[go_sem] theorem ti4:ti Tryz.prog 4= .bool :=by kernel_rfl
@[go_sem] theorem sz4:tsz Tryz.prog 4=1:=by kernel_rfl
@[go_sem] theorem by4:Tryz.prog.bytesOf 4=1:=by kernel_rfl
@[go_sem] theorem zl4:(tz Tryz.prog 4).length =1:=by kernel_rfl
@[go_sem] theorem za4:(tz Tryz.prog 4).map zAV=[.bool false] :=by kernel_rfl
@[go_sem] theorem zd4:zDs (tz Tryz.prog 4)=some [.bool false] :=by kernel_rfl
@[go_sem] theorem ti5:ti Tryz.prog 5= .int .u8 :=by kernel_rfl
@[go_sem] theorem sz5:tsz Tryz.prog 5=1:=by kernel_rfl
@[go_sem] theorem by5:Tryz.prog.bytesOf 5=1:=by kernel_rfl
@[go_sem] theorem zl5:(tz Tryz.prog 5).length =1:=by kernel_rfl
@[go_sem] theorem za5:(tz Tryz.prog 5).map zAV=[.int .u8 0] :=by kernel_rfl
@[go_sem] theorem zd5:zDs (tz Tryz.prog 5)=some [.int .u8 0] :=by kernel_rfl
@[go_sem] theorem ti9:ti Tryz.prog 9= .str :=by kernel_rfl
@[go_sem] theorem sz9:tsz Tryz.prog 9=1:=by kernel_rfl
@[go_sem] theorem by9:Tryz.prog.bytesOf 9=16:=by kernel_rfl
@[go_sem] theorem zl9:(tz Tryz.prog 9).length =1:=by kernel_rfl
@[go_sem] theorem za9:(tz Tryz.prog 9).map zAV=[.str ByteArray.empty] :=by kernel_rfl
@[go_sem] theorem zd9:zDs (tz Tryz.prog 9)=some [.str ByteArray.empty] :=by kernel_rfl
@[go_sem] theorem lI:ti Tryz.prog 22= .sl 86:=by kernel_rfl
@[go_sem] theorem lJ:tsz Tryz.prog 22=1:=by kernel_rfl
@[go_sem] theorem lK:Tryz.prog.bytesOf 22=24:=by kernel_rfl
@[go_sem] theorem lL:(tz Tryz.prog 22).length =1:=by kernel_rfl
@[go_sem] theorem lM:(tz Tryz.prog 22).map zAV=[.nils] :=by kernel_rfl
@[go_sem] theorem lN:zDs (tz Tryz.prog 22)=some [.sl []] :=by kernel_rfl
@[go_sem] theorem lO:ti Tryz.prog 23= .sl 95:=by kernel_rfl
@[go_sem] theorem lP:tsz Tryz.prog 23=1:=by kernel_rfl
@[go_sem] theorem lQ:Tryz.prog.bytesOf 23=24:=by kernel_rfl
@[go_sem] theorem lR:(tz Tryz.prog 23).length =1:=by kernel_rfl
@[go_sem] theorem lS:(tz Tryz.prog 23).map zAV=[.nils] :=by kernel_rfl
@[go_sem] theorem lT:zDs (tz Tryz.prog 23)=some [.sl []] :=by kernel_rfl
@[go_sem] theorem lU:ti Tryz.prog 25= .st [(0,22),(1,23)] :=by kernel_rfl
@[go_sem] theorem lV:tsz Tryz.prog 25=2:=by kernel_rfl
@[go_sem] theorem lW:Tryz.prog.bytesOf 25=48:=by kernel_rfl
@[go_sem] theorem lX:(tz Tryz.prog 25).length =2:=by kernel_rfl
@[go_sem] theorem lY:(tz Tryz.prog 25).map zAV=[.nils,.nils] :=by kernel_rfl
@[go_sem] theorem lZ:zDs (tz Tryz.prog 25)=some [.sl [],.sl []] :=by kernel_rfl
@[go_sem] theorem lc:ti Tryz.prog 28= .sl 98:=by kernel_rfl
@[go_sem] theorem ld:tsz Tryz.prog 28=1:=by kernel_rfl
@[go_sem] theorem lf:Tryz.prog.bytesOf 28=24:=by kernel_rfl
@[go_sem] theorem lg:(tz Tryz.prog 28).length =1:=by kernel_rfl
@[go_sem] theorem lh:(tz Tryz.prog 28).map zAV=[.nils] :=by kernel_rfl
@[go_sem] theorem li:zDs (tz Tryz.prog 28)=some [.sl []] :=by kernel_rfl
@[go_sem] theorem lj:ti Tryz.prog 29= .sl 64:=by kernel_rfl
@[go_sem] theorem lk:tsz Tryz.prog 29=1:=by kernel_rfl
@[go_sem] theorem ll:Tryz.prog.bytesOf 29=24:=by kernel_rfl
@[go_sem] theorem lm:(tz Tryz.prog 29).length =1:=by kernel_rfl
@[go_sem] theorem ln:(tz Tryz.prog 29).map zAV=[.nils] :=by kernel_rfl
@[go_sem] theorem lo:zDs (tz Tryz.prog 29)=some [.sl []] :=by kernel_rfl
@[go_sem] theorem lp:ti Tryz.prog 31= .st [(0,28),(1,29)] :=by kernel_rfl
@[go_sem] theorem lq:tsz Tryz.prog 31=2:=by kernel_rfl
@[go_sem] theorem lr:Tryz.prog.bytesOf 31=48:=by kernel_rfl
@[go_sem] theorem lw:(tz Tryz.prog 31).length =2:=by kernel_rfl
@[go_sem] theorem lx:(tz Tryz.prog 31).map zAV=[.nils,.nils] :=by kernel_rfl
@[go_sem] theorem ly:zDs (tz Tryz.prog 31)=some [.sl [],.sl []] :=by kernel_rfl
@[go_sem] theorem lz:ti Tryz.prog 35= .sl 37:=by kernel_rfl
@[go_sem] theorem l5:tsz Tryz.prog 35=1:=by kernel_rfl
@[go_sem] theorem l6:Tryz.prog.bytesOf 35=24:=by kernel_rfl
@[go_sem] theorem l7:(tz Tryz.prog 35).length =1:=by kernel_rfl
@[go_sem] theorem l8:(tz Tryz.prog 35).map zAV=[.nils] :=by kernel_rfl
@[go_sem] theorem l9:zDs (tz Tryz.prog 35)=some [.sl []] :=by kernel_rfl
@[go_sem] theorem mA:ti Tryz.prog 37= .st [(0,2),(1,9),(2,35)] :=by kernel_rfl
@[go_sem] theorem mB:tsz Tryz.prog 37=3:=by kernel_rfl
@[go_sem] theorem mC:Tryz.prog.bytesOf 37=48:=by kernel_rfl
@[go_sem] theorem mD:(tz Tryz.prog 37).length =3:=by kernel_rfl
@[go_sem] theorem mE:(tz Tryz.prog 37).map zAV=[.int .i64 0,.str ByteArray.empty,.nils] :=by kernel_rfl
@[go_sem] theorem mF:zDs (tz Tryz.prog 37)=some [.int .i64 0,.str ByteArray.empty,.sl []] :=by kernel_rfl
@[go_sem] theorem mG:ti Tryz.prog 50= .sl 70:=by kernel_rfl
@[go_sem] theorem mH:tsz Tryz.prog 50=1:=by kernel_rfl
@[go_sem] theorem mI:Tryz.prog.bytesOf 50=24:=by kernel_rfl
@[go_sem] theorem mJ:(tz Tryz.prog 50).length =1:=by kernel_rfl
@[go_sem] theorem mK:(tz Tryz.prog 50).map zAV=[.nils] :=by kernel_rfl
@[go_sem] theorem mL:zDs (tz Tryz.prog 50)=some [.sl []] :=by kernel_rfl
@[go_sem] theorem mM:ti Tryz.prog 59= .sl 9:=by kernel_rfl
@[go_sem] theorem mN:tsz Tryz.prog 59=1:=by kernel_rfl
@[go_sem] theorem mO:Tryz.prog.bytesOf 59=24:=by kernel_rfl
@[go_sem] theorem mP:(tz Tryz.prog 59).length =1:=by kernel_rfl
@[go_sem] theorem mQ:(tz Tryz.prog 59).map zAV=[.nils] :=by kernel_rfl
@[go_sem] theorem mR:zDs (tz Tryz.prog 59)=some [.sl []] :=by kernel_rfl
@[go_sem] theorem mS:ti Tryz.prog 60= .sl 62:=by kernel_rfl
@[go_sem] theorem mT:tsz Tryz.prog 60=1:=by kernel_rfl
@[go_sem] theorem mU:Tryz.prog.bytesOf 60=24:=by kernel_rfl
@[go_sem] theorem mV:(tz Tryz.prog 60).length =1:=by kernel_rfl
@[go_sem] theorem mW:(tz Tryz.prog 60).map zAV=[.nils] :=by kernel_rfl
@[go_sem] theorem mX:zDs (tz Tryz.prog 60)=some [.sl []] :=by kernel_rfl
@[go_sem] theorem mY:ti Tryz.prog 62= .st [(0,2),(1,2),(2,9),(3,37),(6,59),(7,60)] :=by kernel_rfl
@[go_sem] theorem mZ:tsz Tryz.prog 62=8:=by kernel_rfl
@[go_sem] theorem ma:Tryz.prog.bytesOf 62=128:=by kernel_rfl
@[go_sem] theorem mc:(tz Tryz.prog 62).length =8:=by kernel_rfl
@[go_sem] theorem me:(tz Tryz.prog 62).map zAV=[.int .i64 0,.int .i64 0,.str ByteArray.empty,.int .i64 0,.str ByteArray.empty,.nils,.nils,.nils] :=by kernel_rfl
@[go_sem] theorem mf:zDs (tz Tryz.prog 62)=some [.int .i64 0,.int .i64 0,.str ByteArray.empty,.int .i64 0,.str ByteArray.empty,.sl [],.sl [],.sl []] :=by kernel_rfl
@[go_sem] theorem mg:ti Tryz.prog 64= .st [(0,9),(1,37),(4,62)] :=by kernel_rfl
@[go_sem] theorem mh:tsz Tryz.prog 64=12:=by kernel_rfl
@[go_sem] theorem mi:Tryz.prog.bytesOf 64=192:=by kernel_rfl
@[go_sem] theorem mj:(tz Tryz.prog 64).length =12:=by kernel_rfl
@[go_sem] theorem ml:(tz Tryz.prog 64).map zAV=[.str ByteArray.empty,.int .i64 0,.str ByteArray.empty,.nils,.int .i64 0,.int .i64 0,.str ByteArray.empty,.int .i64 0,.str ByteArray.empty,.nils,.nils,.nils] :=by kernel_rfl
@[go_sem] theorem mm:zDs (tz Tryz.prog 64)=some [.str ByteArray.empty,.int .i64 0,.str ByteArray.empty,.sl [],.int .i64 0,.int .i64 0,.str ByteArray.empty,.int .i64 0,.str ByteArray.empty,.sl [],.sl [],.sl []] :=by kernel_rfl
@[go_sem] theorem mn:ti Tryz.prog 65= .sl 2:=by kernel_rfl
@[go_sem] theorem mo:tsz Tryz.prog 65=1:=by kernel_rfl
@[go_sem] theorem mq:Tryz.prog.bytesOf 65=24:=by kernel_rfl
@[go_sem] theorem mr:(tz Tryz.prog 65).length =1:=by kernel_rfl
@[go_sem] theorem ms:(tz Tryz.prog 65).map zAV=[.nils] :=by kernel_rfl
@[go_sem] theorem mt:zDs (tz Tryz.prog 65)=some [.sl []] :=by kernel_rfl
@[go_sem] theorem mu:ti Tryz.prog 67= .st [(0,59),(1,35),(2,65)] :=by kernel_rfl
@[go_sem] theorem mw:tsz Tryz.prog 67=3:=by kernel_rfl
@[go_sem] theorem mx:Tryz.prog.bytesOf 67=72:=by kernel_rfl
@[go_sem] theorem my:(tz Tryz.prog 67).length =3:=by kernel_rfl
@[go_sem] theorem mz:(tz Tryz.prog 67).map zAV=[.nils,.nils,.nils] :=by kernel_rfl
@[go_sem] theorem m5:zDs (tz Tryz.prog 67)=some [.sl [],.sl [],.sl []] :=by kernel_rfl
@[go_sem] theorem m6:ti Tryz.prog 70= .ptr 78:=by kernel_rfl
@[go_sem] theorem m7:tsz Tryz.prog 70=1:=by kernel_rfl
@[go_sem] theorem m8:Tryz.prog.bytesOf 70=8:=by kernel_rfl
@[go_sem] theorem m9:(tz Tryz.prog 70).length =1:=by kernel_rfl
@[go_sem] theorem nA:(tz Tryz.prog 70).map zAV=[.nilp] :=by kernel_rfl
@[go_sem] theorem nC:ti Tryz.prog 73= .st [(0,31)] :=by kernel_rfl
@[go_sem] theorem nD:tsz Tryz.prog 73=2:=by kernel_rfl
@[go_sem] theorem nE:Tryz.prog.bytesOf 73=48:=by kernel_rfl
@[go_sem] theorem nF:(tz Tryz.prog 73).length =2:=by kernel_rfl
@[go_sem] theorem nG:(tz Tryz.prog 73).map zAV=[.nils,.nils] :=by kernel_rfl
@[go_sem] theorem nH:zDs (tz Tryz.prog 73)=some [.sl [],.sl []] :=by kernel_rfl
@[go_sem] theorem nI:ti Tryz.prog 75= .sl 76:=by kernel_rfl
@[go_sem] theorem nJ:tsz Tryz.prog 75=1:=by kernel_rfl
@[go_sem] theorem nK:Tryz.prog.bytesOf 75=24:=by kernel_rfl
@[go_sem] theorem nL:(tz Tryz.prog 75).length =1:=by kernel_rfl
@[go_sem] theorem nM:(tz Tryz.prog 75).map zAV=[.nils] :=by kernel_rfl
@[go_sem] theorem nN:zDs (tz Tryz.prog 75)=some [.sl []] :=by kernel_rfl
@[go_sem] theorem nO:ti Tryz.prog 76= .ptr 131:=by kernel_rfl
@[go_sem] theorem nP:tsz Tryz.prog 76=1:=by kernel_rfl
@[go_sem] theorem nQ:Tryz.prog.bytesOf 76=8:=by kernel_rfl
@[go_sem] theorem nR:(tz Tryz.prog 76).length =1:=by kernel_rfl
@[go_sem] theorem nS:(tz Tryz.prog 76).map zAV=[.nilp] :=by kernel_rfl
@[go_sem] theorem nT:ti Tryz.prog 78= .st [(0,62),(8,37),(11,2),(12,50),(13,75),(14,76)] :=by kernel_rfl
@[go_sem] theorem nU:tsz Tryz.prog 78=15:=by kernel_rfl
@[go_sem] theorem nV:Tryz.prog.bytesOf 78=240:=by kernel_rfl
@[go_sem] theorem nW:(tz Tryz.prog 78).length =15:=by kernel_rfl
@[go_sem] theorem nX:(tz Tryz.prog 78).map zAV=[.int .i64 0,.int .i64 0,.str ByteArray.empty,.int .i64 0,.str ByteArray.empty,.nils,.nils,.nils,.int .i64 0,.str ByteArray.empty,.nils,.int .i64 0,.nils,.nils,.nilp] :=by kernel_rfl
@[go_sem] theorem nY:ti Tryz.prog 84= .sl 169:=by kernel_rfl
@[go_sem] theorem nZ:tsz Tryz.prog 84=1:=by kernel_rfl
@[go_sem] theorem na:Tryz.prog.bytesOf 84=24:=by kernel_rfl
@[go_sem] theorem nc:(tz Tryz.prog 84).length =1:=by kernel_rfl
@[go_sem] theorem nf:(tz Tryz.prog 84).map zAV=[.nils] :=by kernel_rfl
@[go_sem] theorem ng:zDs (tz Tryz.prog 84)=some [.sl []] :=by kernel_rfl
@[go_sem] theorem nh:ti Tryz.prog 86= .st [(0,9),(1,84)] :=by kernel_rfl
@[go_sem] theorem ni:tsz Tryz.prog 86=2:=by kernel_rfl
@[go_sem] theorem nj:Tryz.prog.bytesOf 86=40:=by kernel_rfl
@[go_sem] theorem nl:(tz Tryz.prog 86).length =2:=by kernel_rfl
@[go_sem] theorem np:(tz Tryz.prog 86).map zAV=[.str ByteArray.empty,.nils] :=by kernel_rfl
@[go_sem] theorem nq:zDs (tz Tryz.prog 86)=some [.str ByteArray.empty,.sl []] :=by kernel_rfl
@[go_sem] theorem nr:ti Tryz.prog 88= .sl 90:=by kernel_rfl
@[go_sem] theorem nu:tsz Tryz.prog 88=1:=by kernel_rfl
@[go_sem] theorem nv:Tryz.prog.bytesOf 88=24:=by kernel_rfl
@[go_sem] theorem nw:(tz Tryz.prog 88).length =1:=by kernel_rfl
@[go_sem] theorem nx:(tz Tryz.prog 88).map zAV=[.nils] :=by kernel_rfl
@[go_sem] theorem ny:zDs (tz Tryz.prog 88)=some [.sl []] :=by kernel_rfl
@[go_sem] theorem nz:ti Tryz.prog 90= .st [(0,2),(1,9),(2,88)] :=by kernel_rfl
@[go_sem] theorem n7:tsz Tryz.prog 90=3:=by kernel_rfl
@[go_sem] theorem n8:Tryz.prog.bytesOf 90=48:=by kernel_rfl
@[go_sem] theorem n9:(tz Tryz.prog 90).length =3:=by kernel_rfl
@[go_sem] theorem oA:(tz Tryz.prog 90).map zAV=[.int .i64 0,.str ByteArray.empty,.nils] :=by kernel_rfl
@[go_sem] theorem oC:zDs (tz Tryz.prog 90)=some [.int .i64 0,.str ByteArray.empty,.sl []] :=by kernel_rfl
@[go_sem] theorem oD:ti Tryz.prog 91= .sl 93:=by kernel_rfl
@[go_sem] theorem oE:tsz Tryz.prog 91=1:=by kernel_rfl
@[go_sem] theorem oF:Tryz.prog.bytesOf 91=24:=by kernel_rfl
@[go_sem] theorem oG:(tz Tryz.prog 91).length =1:=by kernel_rfl
@[go_sem] theorem oH:(tz Tryz.prog 91).map zAV=[.nils] :=by kernel_rfl
@[go_sem] theorem oI:zDs (tz Tryz.prog 91)=some [.sl []] :=by kernel_rfl
@[go_sem] theorem oJ:ti Tryz.prog 93= .st [(0,2),(1,2),(2,9),(3,90),(6,59),(7,91)] :=by kernel_rfl
@[go_sem] theorem oK:tsz Tryz.prog 93=8:=by kernel_rfl
@[go_sem] theorem oL:Tryz.prog.bytesOf 93=128:=by kernel_rfl
@[go_sem] theorem oM:(tz Tryz.prog 93).length =8:=by kernel_rfl
@[go_sem] theorem oN:(tz Tryz.prog 93).map zAV=[.int .i64 0,.int .i64 0,.str ByteArray.empty,.int .i64 0,.str ByteArray.empty,.nils,.nils,.nils] :=by kernel_rfl
@[go_sem] theorem oO:zDs (tz Tryz.prog 93)=some [.int .i64 0,.int .i64 0,.str ByteArray.empty,.int .i64 0,.str ByteArray.empty,.sl [],.sl [],.sl []] :=by kernel_rfl
@[go_sem] theorem oP:ti Tryz.prog 95= .st [(0,9),(1,90),(4,93)] :=by kernel_rfl
@[go_sem] theorem oQ:tsz Tryz.prog 95=12:=by kernel_rfl
@[go_sem] theorem oR:Tryz.prog.bytesOf 95=192:=by kernel_rfl
@[go_sem] theorem oS:(tz Tryz.prog 95).length =12:=by kernel_rfl
@[go_sem] theorem oU:(tz Tryz.prog 95).map zAV=[.str ByteArray.empty,.int .i64 0,.str ByteArray.empty,.nils,.int .i64 0,.int .i64 0,.str ByteArray.empty,.int .i64 0,.str ByteArray.empty,.nils,.nils,.nils] :=by kernel_rfl
@[go_sem] theorem oV:zDs (tz Tryz.prog 95)=some [.str ByteArray.empty,.int .i64 0,.str ByteArray.empty,.sl [],.int .i64 0,.int .i64 0,.str ByteArray.empty,.int .i64 0,.str ByteArray.empty,.sl [],.sl [],.sl []] :=by kernel_rfl
@[go_sem] theorem oW:ti Tryz.prog 96= .sl 122:=by kernel_rfl
@[go_sem] theorem oX:tsz Tryz.prog 96=1:=by kernel_rfl
@[go_sem] theorem oY:Tryz.prog.bytesOf 96=24:=by kernel_rfl
@[go_sem] theorem oZ:(tz Tryz.prog 96).length =1:=by kernel_rfl
@[go_sem] theorem oa:(tz Tryz.prog 96).map zAV=[.nils] :=by kernel_rfl
@[go_sem] theorem oc:zDs (tz Tryz.prog 96)=some [.sl []] :=by kernel_rfl
@[go_sem] theorem od:ti Tryz.prog 98= .st [(0,9),(1,96)] :=by kernel_rfl
@[go_sem] theorem oe:tsz Tryz.prog 98=2:=by kernel_rfl
@[go_sem] theorem og:Tryz.prog.bytesOf 98=40:=by kernel_rfl
@[go_sem] theorem oh:(tz Tryz.prog 98).length =2:=by kernel_rfl
@[go_sem] theorem ol:(tz Tryz.prog 98).map zAV=[.str ByteArray.empty,.nils] :=by kernel_rfl
@[go_sem] theorem om:zDs (tz Tryz.prog 98)=some [.str ByteArray.empty,.sl []] :=by kernel_rfl
@[go_sem] theorem kA:ti Tryz.prog 122= .st [(0,9),(1,35)] :=by kernel_rfl
@[go_sem] theorem kC:tsz Tryz.prog 122=2:=by kernel_rfl
@[go_sem] theorem kD:Tryz.prog.bytesOf 122=40:=by kernel_rfl
@[go_sem] theorem kE:(tz Tryz.prog 122).length =2:=by kernel_rfl
@[go_sem] theorem kF:(tz Tryz.prog 122).map zAV=[.str ByteArray.empty,.nils] :=by kernel_rfl
@[go_sem] theorem kG:zDs (tz Tryz.prog 122)=some [.str ByteArray.empty,.sl []] :=by kernel_rfl
@[go_sem] theorem kH:ti Tryz.prog 127= .fn :=by kernel_rfl
@[go_sem] theorem kI:tsz Tryz.prog 127=1:=by kernel_rfl
@[go_sem] theorem kJ:Tryz.prog.bytesOf 127=8:=by kernel_rfl
@[go_sem] theorem kK:(tz Tryz.prog 127).length =1:=by kernel_rfl
@[go_sem] theorem kL:ti Tryz.prog 128= .sl 76:=by kernel_rfl
@[go_sem] theorem kM:tsz Tryz.prog 128=1:=by kernel_rfl
@[go_sem] theorem kN:Tryz.prog.bytesOf 128=24:=by kernel_rfl
@[go_sem] theorem kO:(tz Tryz.prog 128).length =1:=by kernel_rfl
@[go_sem] theorem kP:(tz Tryz.prog 128).map zAV=[.nils] :=by kernel_rfl
@[go_sem] theorem kQ:zDs (tz Tryz.prog 128)=some [.sl []] :=by kernel_rfl
@[go_sem] theorem kR:ti Tryz.prog 131= .st [(0,9),(1,37),(4,2)] :=by kernel_rfl
@[go_sem] theorem kS:tsz Tryz.prog 131=5:=by kernel_rfl
@[go_sem] theorem kU:Tryz.prog.bytesOf 131=72:=by kernel_rfl
@[go_sem] theorem kV:(tz Tryz.prog 131).length =5:=by kernel_rfl
@[go_sem] theorem kW:(tz Tryz.prog 131).map zAV=[.str ByteArray.empty,.int .i64 0,.str ByteArray.empty,.nils,.int .i64 0] :=by kernel_rfl
@[go_sem] theorem kX:zDs (tz Tryz.prog 131)=some [.str ByteArray.empty,.int .i64 0,.str ByteArray.empty,.sl [],.int .i64 0] :=by kernel_rfl
@[go_sem] theorem kY:ti Tryz.prog 166= .sl 5:=by kernel_rfl
@[go_sem] theorem kZ:tsz Tryz.prog 166=1:=by kernel_rfl
@[go_sem] theorem kc:Tryz.prog.bytesOf 166=24:=by kernel_rfl
@[go_sem] theorem ke:(tz Tryz.prog 166).length =1:=by kernel_rfl
@[go_sem] theorem kf:(tz Tryz.prog 166).map zAV=[.nils] :=by kernel_rfl
@[go_sem] theorem kh:zDs (tz Tryz.prog 166)=some [.sl []] :=by kernel_rfl
@[go_sem] theorem kj:ti Tryz.prog 169= .st [(0,9),(1,88)] :=by kernel_rfl
@[go_sem] theorem kl:tsz Tryz.prog 169=2:=by kernel_rfl
@[go_sem] theorem km:Tryz.prog.bytesOf 169=40:=by kernel_rfl
@[go_sem] theorem ko:(tz Tryz.prog 169).length =2:=by kernel_rfl
@[go_sem] theorem kq:(tz Tryz.prog 169).map zAV=[.str ByteArray.empty,.nils] :=by kernel_rfl
@[go_sem] theorem kr:zDs (tz Tryz.prog 169)=some [.str ByteArray.empty,.sl []] :=by kernel_rfl
@[go_sem] theorem ku:ti Tryz.prog 182= .map 9 4:=by kernel_rfl
@[go_sem] theorem kw:YC Tryz.prog 182=some (.str):=by kernel_rfl
@[go_sem] theorem kt9:TB Tryz.prog 9=some (.str):=by kernel_rfl
@[go_sem] theorem zz4:tz1 Tryz.prog 4=some (.bool false):=by kernel_rfl
@[go_sem] theorem oq:zAV (.bool false)= .bool false:=rfl
@[go_sem] theorem kx:tsz Tryz.prog 182=1:=by kernel_rfl
@[go_sem] theorem ky:Tryz.prog.bytesOf 182=8:=by kernel_rfl
@[go_sem] theorem kz:(tz Tryz.prog 182).length =1:=by kernel_rfl
@[go_sem] theorem lA:(tz Tryz.prog 182).map zAV=[.any] :=by kernel_rfl
@[go_sem] theorem lC:ti Tryz.prog 208= .sl 59:=by kernel_rfl
@[go_sem] theorem lD:tsz Tryz.prog 208=1:=by kernel_rfl
@[go_sem] theorem lE:Tryz.prog.bytesOf 208=24:=by kernel_rfl
@[go_sem] theorem lF:(tz Tryz.prog 208).length =1:=by kernel_rfl
@[go_sem] theorem lG:(tz Tryz.prog 208).map zAV=[.nils] :=by kernel_rfl
@[go_sem] theorem lH:zDs (tz Tryz.prog 208)=some [.sl []] :=by kernel_rfl
theorem mixed:Tryz.prog.follows .mixedOrders =true:=Tryz.checked.mixed
attribute [go_sem] Nat.reduceAdd Nat.reduceMul reduceIte Nat.reduceEqDiff Nat.reduceLeDiff Nat.reduceLT
end Go.Proofs.YtaedfiifhjlmlaaGreat.Ab
