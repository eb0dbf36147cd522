/-
  What the walk asks of each type. Printed by wip/ab/gen_ti.py.
-/
import Derived.Test.YtoncbhomocgmcaaGreatDoorRows
import Derived.Test.YtoncbhomocgmcaaGreatDoorAbC
namespace Go.Proofs.YtoncbhomocgmcaaGreatDoor.Ab
open Go.RowKit
@[go_sem] theorem ti2:ti Tryz.prog 2= .int .i64 :=by kernel_rfl
@[go_sem] theorem sz2:tsz Tryz.prog 2=1:=by kernel_rfl
@[go_sem] theorem by2:Tryz.prog.bytesOf 2=8:=by kernel_rfl
@[go_sem] theorem zl2:(tz Tryz.prog 2).length =1:=by kernel_rfl
@[go_sem] theorem za2:(tz Tryz.prog 2).map zAV=[.int .i64 0] :=by kernel_rfl
@[go_sem] theorem zd2 {q}:zDs q (tz Tryz.prog 2)=some [.int .i64 0] :=by kernel_rfl
@[go_sem] theorem ti3:ti Tryz.prog 3= .int .i64 :=by kernel_rfl
@[go_sem] theorem sz3:tsz Tryz.prog 3=1:=by kernel_rfl
@[go_sem] theorem by3:Tryz.prog.bytesOf 3=8:=by kernel_rfl
@[go_sem] theorem zl3:(tz Tryz.prog 3).length =1:=by kernel_rfl
@[go_sem] theorem za3:(tz Tryz.prog 3).map zAV=[.int .i64 0] :=by kernel_rfl
@[go_sem] theorem zd3 {q}:zDs q (tz Tryz.prog 3)=some [.int .i64 0] :=by kernel_rfl
@[go_sem] theorem ti4:ti Tryz.prog 4= .bool :=by kernel_rfl
@[go_sem] theorem sz4:tsz Tryz.prog 4=1:=by kernel_rfl
@[go_sem] theorem by4:Tryz.prog.bytesOf 4=1:=by kernel_rfl
@[go_sem] theorem zl4:(tz Tryz.prog 4).length =1:=by kernel_rfl
@[go_sem] theorem za4:(tz Tryz.prog 4).map zAV=[.bool false] :=by kernel_rfl
@[go_sem] theorem zd4 {q}:zDs q (tz Tryz.prog 4)=some [.bool false] :=by kernel_rfl
@[go_sem] theorem ti5:ti Tryz.prog 5= .int .u8 :=by kernel_rfl
@[go_sem] theorem sz5:tsz Tryz.prog 5=1:=by kernel_rfl
@[go_sem] theorem by5:Tryz.prog.bytesOf 5=1:=by kernel_rfl
@[go_sem] theorem zl5:(tz Tryz.prog 5).length =1:=by kernel_rfl
@[go_sem] theorem za5:(tz Tryz.prog 5).map zAV=[.int .u8 0] :=by kernel_rfl
@[go_sem] theorem zd5 {q}:zDs q (tz Tryz.prog 5)=some [.int .u8 0] :=by kernel_rfl
@[go_sem] theorem ti9:ti Tryz.prog 9= .str :=by kernel_rfl
@[go_sem] theorem sz9:tsz Tryz.prog 9=1:=by kernel_rfl
@[go_sem] theorem by9:Tryz.prog.bytesOf 9=16:=by kernel_rfl
@[go_sem] theorem zl9:(tz Tryz.prog 9).length =1:=by kernel_rfl
@[go_sem] theorem za9:(tz Tryz.prog 9).map zAV=[.str ByteArray.empty] :=by kernel_rfl
@[go_sem] theorem zd9 {q}:zDs q (tz Tryz.prog 9)=some [.str ByteArray.empty] :=by kernel_rfl
@[go_sem] theorem pM:ti Tryz.prog 22= .sl 64:=by kernel_rfl
@[go_sem] theorem pN:tsz Tryz.prog 22=1:=by kernel_rfl
@[go_sem] theorem pO:Tryz.prog.bytesOf 22=24:=by kernel_rfl
@[go_sem] theorem pP:(tz Tryz.prog 22).length =1:=by kernel_rfl
@[go_sem] theorem pQ:(tz Tryz.prog 22).map zAV=[.nils] :=by kernel_rfl
@[go_sem] theorem pR {q}:zDs q (tz Tryz.prog 22)=some [Dc q] :=by kernel_rfl
@[go_sem] theorem pS:ti Tryz.prog 24= .st [(0,22)] :=by kernel_rfl
@[go_sem] theorem pT:tsz Tryz.prog 24=1:=by kernel_rfl
@[go_sem] theorem pU:Tryz.prog.bytesOf 24=24:=by kernel_rfl
@[go_sem] theorem pV:(tz Tryz.prog 24).length =1:=by kernel_rfl
@[go_sem] theorem pW:(tz Tryz.prog 24).map zAV=[.nils] :=by kernel_rfl
@[go_sem] theorem pX {q}:zDs q (tz Tryz.prog 24)=some [Dc q] :=by kernel_rfl
@[go_sem] theorem pY:ti Tryz.prog 26= .sl 2:=by kernel_rfl
@[go_sem] theorem pZ:tsz Tryz.prog 26=1:=by kernel_rfl
@[go_sem] theorem pc:Tryz.prog.bytesOf 26=24:=by kernel_rfl
@[go_sem] theorem pd:(tz Tryz.prog 26).length =1:=by kernel_rfl
@[go_sem] theorem pe:(tz Tryz.prog 26).map zAV=[.nils] :=by kernel_rfl
@[go_sem] theorem pg {q}:zDs q (tz Tryz.prog 26)=some [Dc q] :=by kernel_rfl
@[go_sem] theorem ph:ti Tryz.prog 27= .sl 29:=by kernel_rfl
@[go_sem] theorem pi:tsz Tryz.prog 27=1:=by kernel_rfl
@[go_sem] theorem pj:Tryz.prog.bytesOf 27=24:=by kernel_rfl
@[go_sem] theorem pk:(tz Tryz.prog 27).length =1:=by kernel_rfl
@[go_sem] theorem pm:(tz Tryz.prog 27).map zAV=[.nils] :=by kernel_rfl
@[go_sem] theorem pn {q}:zDs q (tz Tryz.prog 27)=some [Dc q] :=by kernel_rfl
@[go_sem] theorem po:ti Tryz.prog 29= .st [(0,2),(1,2),(2,26),(3,27)] :=by kernel_rfl
@[go_sem] theorem pq:tsz Tryz.prog 29=4:=by kernel_rfl
@[go_sem] theorem pv:Tryz.prog.bytesOf 29=64:=by kernel_rfl
@[go_sem] theorem pw:(tz Tryz.prog 29).length =4:=by kernel_rfl
@[go_sem] theorem px:(tz Tryz.prog 29).map zAV=[.int .i64 0,.int .i64 0,.nils,.nils] :=by kernel_rfl
@[go_sem] theorem py {q}:zDs q (tz Tryz.prog 29)=some [.int .i64 0,.int .i64 0,Dc q,Dc q] :=by kernel_rfl
@[go_sem] theorem pz:ti Tryz.prog 30= .sl 9:=by kernel_rfl
@[go_sem] theorem p3:tsz Tryz.prog 30=1:=by kernel_rfl
@[go_sem] theorem p4:Tryz.prog.bytesOf 30=24:=by kernel_rfl
@[go_sem] theorem p5:(tz Tryz.prog 30).length =1:=by kernel_rfl
@[go_sem] theorem p6:(tz Tryz.prog 30).map zAV=[.nils] :=by kernel_rfl
@[go_sem] theorem p7 {q}:zDs q (tz Tryz.prog 30)=some [Dc q] :=by kernel_rfl
@[go_sem] theorem p8:ti Tryz.prog 32= .st [(0,29),(4,30)] :=by kernel_rfl
@[go_sem] theorem p9:tsz Tryz.prog 32=5:=by kernel_rfl
@[go_sem] theorem qA:Tryz.prog.bytesOf 32=88:=by kernel_rfl
@[go_sem] theorem qB:(tz Tryz.prog 32).length =5:=by kernel_rfl
@[go_sem] theorem qC:(tz Tryz.prog 32).map zAV=[.int .i64 0,.int .i64 0,.nils,.nils,.nils] :=by kernel_rfl
@[go_sem] theorem qD {q}:zDs q (tz Tryz.prog 32)=some [.int .i64 0,.int .i64 0,Dc q,Dc q,Dc q] :=by kernel_rfl
@[go_sem] theorem qE:ti Tryz.prog 35= .sl 69:=by kernel_rfl
@[go_sem] theorem qF:tsz Tryz.prog 35=1:=by kernel_rfl
@[go_sem] theorem qG:Tryz.prog.bytesOf 35=24:=by kernel_rfl
@[go_sem] theorem qH:(tz Tryz.prog 35).length =1:=by kernel_rfl
@[go_sem] theorem qI:(tz Tryz.prog 35).map zAV=[.nils] :=by kernel_rfl
@[go_sem] theorem qJ {q}:zDs q (tz Tryz.prog 35)=some [Dc q] :=by kernel_rfl
@[go_sem] theorem qK:ti Tryz.prog 37= .st [(0,35)] :=by kernel_rfl
@[go_sem] theorem qL:tsz Tryz.prog 37=1:=by kernel_rfl
@[go_sem] theorem qM:Tryz.prog.bytesOf 37=24:=by kernel_rfl
@[go_sem] theorem qN:(tz Tryz.prog 37).length =1:=by kernel_rfl
@[go_sem] theorem qO:(tz Tryz.prog 37).map zAV=[.nils] :=by kernel_rfl
@[go_sem] theorem qP {q}:zDs q (tz Tryz.prog 37)=some [Dc q] :=by kernel_rfl
@[go_sem] theorem qQ:ti Tryz.prog 46= .ptr 37:=by kernel_rfl
@[go_sem] theorem qR:tsz Tryz.prog 46=1:=by kernel_rfl
@[go_sem] theorem qS:Tryz.prog.bytesOf 46=8:=by kernel_rfl
@[go_sem] theorem qT:(tz Tryz.prog 46).length =1:=by kernel_rfl
@[go_sem] theorem qU:(tz Tryz.prog 46).map zAV=[.nilp] :=by kernel_rfl
@[go_sem] theorem qV:ti Tryz.prog 54= .st [(0,37),(1,2),(2,3),(3,26),(4,26),(5,30)] :=by kernel_rfl
@[go_sem] theorem qW:tsz Tryz.prog 54=6:=by kernel_rfl
@[go_sem] theorem qX:Tryz.prog.bytesOf 54=112:=by kernel_rfl
@[go_sem] theorem qY:(tz Tryz.prog 54).length =6:=by kernel_rfl
@[go_sem] theorem qZ:(tz Tryz.prog 54).map zAV=[.nils,.int .i64 0,.int .i64 0,.nils,.nils,.nils] :=by kernel_rfl
@[go_sem] theorem qa {q}:zDs q (tz Tryz.prog 54)=some [Dc q,.int .i64 0,.int .i64 0,Dc q,Dc q,Dc q] :=by kernel_rfl
@[go_sem] theorem qc:ti Tryz.prog 62= .sl 134:=by kernel_rfl
@[go_sem] theorem qd:tsz Tryz.prog 62=1:=by kernel_rfl
@[go_sem] theorem qe:Tryz.prog.bytesOf 62=24:=by kernel_rfl
@[go_sem] theorem qf:(tz Tryz.prog 62).length =1:=by kernel_rfl
@[go_sem] theorem qg:(tz Tryz.prog 62).map zAV=[.nils] :=by kernel_rfl
@[go_sem] theorem qh {q}:zDs q (tz Tryz.prog 62)=some [Dc q] :=by kernel_rfl
@[go_sem] theorem qi:ti Tryz.prog 64= .st [(0,2),(1,2),(2,2),(3,26),(4,62)] :=by kernel_rfl
@[go_sem] theorem qj:tsz Tryz.prog 64=5:=by kernel_rfl
@[go_sem] theorem qk:Tryz.prog.bytesOf 64=72:=by kernel_rfl
@[go_sem] theorem ql:(tz Tryz.prog 64).length =5:=by kernel_rfl
@[go_sem] theorem qm:(tz Tryz.prog 64).map zAV=[.int .i64 0,.int .i64 0,.int .i64 0,.nils,.nils] :=by kernel_rfl
@[go_sem] theorem qn {q}:zDs q (tz Tryz.prog 64)=some [.int .i64 0,.int .i64 0,.int .i64 0,Dc q,Dc q] :=by kernel_rfl
@[go_sem] theorem qo:ti Tryz.prog 67= .sl 71:=by kernel_rfl
@[go_sem] theorem qp:tsz Tryz.prog 67=1:=by kernel_rfl
@[go_sem] theorem qq:Tryz.prog.bytesOf 67=24:=by kernel_rfl
@[go_sem] theorem qr:(tz Tryz.prog 67).length =1:=by kernel_rfl
@[go_sem] theorem qu:(tz Tryz.prog 67).map zAV=[.nils] :=by kernel_rfl
@[go_sem] theorem qv {q}:zDs q (tz Tryz.prog 67)=some [Dc q] :=by kernel_rfl
@[go_sem] theorem qw:ti Tryz.prog 69= .st [(0,2),(1,2),(2,2),(3,26),(4,67)] :=by kernel_rfl
@[go_sem] theorem qx:tsz Tryz.prog 69=5:=by kernel_rfl
@[go_sem] theorem qy:Tryz.prog.bytesOf 69=72:=by kernel_rfl
@[go_sem] theorem qz:(tz Tryz.prog 69).length =5:=by kernel_rfl
@[go_sem] theorem q9:(tz Tryz.prog 69).map zAV=[.int .i64 0,.int .i64 0,.int .i64 0,.nils,.nils] :=by kernel_rfl
@[go_sem] theorem rA {q}:zDs q (tz Tryz.prog 69)=some [.int .i64 0,.int .i64 0,.int .i64 0,Dc q,Dc q] :=by kernel_rfl
@[go_sem] theorem rB:ti Tryz.prog 71= .st [(0,2),(1,2)] :=by kernel_rfl
@[go_sem] theorem rC:Fr Tryz.prog 71=some [.int .i64,.int .i64] :=by kernel_rfl
@[go_sem] theorem rD:tsz Tryz.prog 71=2:=by kernel_rfl
@[go_sem] theorem rE:Tryz.prog.bytesOf 71=16:=by kernel_rfl
@[go_sem] theorem rF:(tz Tryz.prog 71).length =2:=by kernel_rfl
@[go_sem] theorem rG:(tz Tryz.prog 71).map zAV=[.int .i64 0,.int .i64 0] :=by kernel_rfl
@[go_sem] theorem rH {q}:zDs q (tz Tryz.prog 71)=some [.int .i64 0,.int .i64 0] :=by kernel_rfl
@[go_sem] theorem rI:ti Tryz.prog 77= .st [(0,46),(1,2),(2,2),(3,26),(4,26),(5,30),(6,2)] :=by kernel_rfl
@[go_sem] theorem rJ:tsz Tryz.prog 77=7:=by kernel_rfl
@[go_sem] theorem rK:Tryz.prog.bytesOf 77=104:=by kernel_rfl
@[go_sem] theorem rL:(tz Tryz.prog 77).length =7:=by kernel_rfl
@[go_sem] theorem rM:(tz Tryz.prog 77).map zAV=[.nilp,.int .i64 0,.int .i64 0,.nils,.nils,.nils,.int .i64 0] :=by kernel_rfl
@[go_sem] theorem rN:ti Tryz.prog 83= .ptr 138:=by kernel_rfl
@[go_sem] theorem rO:tsz Tryz.prog 83=1:=by kernel_rfl
@[go_sem] theorem rP:Tryz.prog.bytesOf 83=8:=by kernel_rfl
@[go_sem] theorem rQ:(tz Tryz.prog 83).length =1:=by kernel_rfl
@[go_sem] theorem rR:(tz Tryz.prog 83).map zAV=[.nilp] :=by kernel_rfl
@[go_sem] theorem rS:ti Tryz.prog 85= .arr 9 83:=by kernel_rfl
@[go_sem] theorem rT:tsz Tryz.prog 85=9:=by kernel_rfl
@[go_sem] theorem rU:Tryz.prog.bytesOf 85=72:=by kernel_rfl
@[go_sem] theorem rV:(tz Tryz.prog 85).length =9:=by kernel_rfl
@[go_sem] theorem rW:(tz Tryz.prog 85).map zAV=[.nilp,.nilp,.nilp,.nilp,.nilp,.nilp,.nilp,.nilp,.nilp] :=by kernel_rfl
@[go_sem] theorem rX:ti Tryz.prog 98= .sl 26:=by kernel_rfl
@[go_sem] theorem rY:tsz Tryz.prog 98=1:=by kernel_rfl
@[go_sem] theorem rZ:Tryz.prog.bytesOf 98=24:=by kernel_rfl
@[go_sem] theorem ra:(tz Tryz.prog 98).length =1:=by kernel_rfl
@[go_sem] theorem rc:(tz Tryz.prog 98).map zAV=[.nils] :=by kernel_rfl
@[go_sem] theorem rf {q}:zDs q (tz Tryz.prog 98)=some [Dc q] :=by kernel_rfl
@[go_sem] theorem na:ti Tryz.prog 105= .ptr 117:=by kernel_rfl
@[go_sem] theorem nc:tsz Tryz.prog 105=1:=by kernel_rfl
@[go_sem] theorem nf:Tryz.prog.bytesOf 105=8:=by kernel_rfl
@[go_sem] theorem ng:(tz Tryz.prog 105).length =1:=by kernel_rfl
@[go_sem] theorem nh:(tz Tryz.prog 105).map zAV=[.nilp] :=by kernel_rfl
@[go_sem] theorem ni:ti Tryz.prog 117= .st [(0,2),(1,85),(10,105)] :=by kernel_rfl
@[go_sem] theorem nj:tsz Tryz.prog 117=11:=by kernel_rfl
@[go_sem] theorem nk:Tryz.prog.bytesOf 117=88:=by kernel_rfl
@[go_sem] theorem nm:(tz Tryz.prog 117).length =11:=by kernel_rfl
@[go_sem] theorem np:(tz Tryz.prog 117).map zAV=[.int .i64 0,.nilp,.nilp,.nilp,.nilp,.nilp,.nilp,.nilp,.nilp,.nilp,.nilp] :=by kernel_rfl
@[go_sem] theorem nr:ti Tryz.prog 120= .sl 5:=by kernel_rfl
@[go_sem] theorem nu:tsz Tryz.prog 120=1:=by kernel_rfl
@[go_sem] theorem nv:Tryz.prog.bytesOf 120=24:=by kernel_rfl
@[go_sem] theorem nw:(tz Tryz.prog 120).length =1:=by kernel_rfl
@[go_sem] theorem nx:(tz Tryz.prog 120).map zAV=[.nils] :=by kernel_rfl
@[go_sem] theorem ny {q}:zDs q (tz Tryz.prog 120)=some [Dc q] :=by kernel_rfl
@[go_sem] theorem nz:ti Tryz.prog 124= .sl 131:=by kernel_rfl
@[go_sem] theorem n4:tsz Tryz.prog 124=1:=by kernel_rfl
@[go_sem] theorem n5:Tryz.prog.bytesOf 124=24:=by kernel_rfl
@[go_sem] theorem n6:(tz Tryz.prog 124).length =1:=by kernel_rfl
@[go_sem] theorem n7:(tz Tryz.prog 124).map zAV=[.nils] :=by kernel_rfl
@[go_sem] theorem n8 {q}:zDs q (tz Tryz.prog 124)=some [Dc q] :=by kernel_rfl
@[go_sem] theorem n9:ti Tryz.prog 131= .st [(0,2),(1,98)] :=by kernel_rfl
@[go_sem] theorem oA:tsz Tryz.prog 131=2:=by kernel_rfl
@[go_sem] theorem oC:Tryz.prog.bytesOf 131=32:=by kernel_rfl
@[go_sem] theorem oD:(tz Tryz.prog 131).length =2:=by kernel_rfl
@[go_sem] theorem oE:(tz Tryz.prog 131).map zAV=[.int .i64 0,.nils] :=by kernel_rfl
@[go_sem] theorem oF {q}:zDs q (tz Tryz.prog 131)=some [.int .i64 0,Dc q] :=by kernel_rfl
@[go_sem] theorem oG:ti Tryz.prog 134= .st [(0,2),(1,2)] :=by kernel_rfl
@[go_sem] theorem oH:Fr Tryz.prog 134=some [.int .i64,.int .i64] :=by kernel_rfl
@[go_sem] theorem oI:tsz Tryz.prog 134=2:=by kernel_rfl
@[go_sem] theorem oJ:Tryz.prog.bytesOf 134=16:=by kernel_rfl
@[go_sem] theorem oK:(tz Tryz.prog 134).length =2:=by kernel_rfl
@[go_sem] theorem oL:(tz Tryz.prog 134).map zAV=[.int .i64 0,.int .i64 0] :=by kernel_rfl
@[go_sem] theorem oM {q}:zDs q (tz Tryz.prog 134)=some [.int .i64 0,.int .i64 0] :=by kernel_rfl
@[go_sem] theorem oN:ti Tryz.prog 138= .st [(0,2),(1,83)] :=by kernel_rfl
@[go_sem] theorem oO:tsz Tryz.prog 138=2:=by kernel_rfl
@[go_sem] theorem oP:Tryz.prog.bytesOf 138=16:=by kernel_rfl
@[go_sem] theorem oQ:(tz Tryz.prog 138).length =2:=by kernel_rfl
@[go_sem] theorem oR:(tz Tryz.prog 138).map zAV=[.int .i64 0,.nilp] :=by kernel_rfl
@[go_sem] theorem oS:ti Tryz.prog 147= .arr 13 2:=by kernel_rfl
@[go_sem] theorem oU:tsz Tryz.prog 147=13:=by kernel_rfl
@[go_sem] theorem oV:Tryz.prog.bytesOf 147=104:=by kernel_rfl
@[go_sem] theorem oW:(tz Tryz.prog 147).length =13:=by kernel_rfl
@[go_sem] theorem oX:(tz Tryz.prog 147).map zAV=[.int .i64 0,.int .i64 0,.int .i64 0,.int .i64 0,.int .i64 0,.int .i64 0,.int .i64 0,.int .i64 0,.int .i64 0,.int .i64 0,.int .i64 0,.int .i64 0,.int .i64 0] :=by kernel_rfl
@[go_sem] theorem oY {q}:zDs q (tz Tryz.prog 147)=some [.int .i64 0,.int .i64 0,.int .i64 0,.int .i64 0,.int .i64 0,.int .i64 0,.int .i64 0,.int .i64 0,.int .i64 0,.int .i64 0,.int .i64 0,.int .i64 0,.int .i64 0] :=by kernel_rfl
@[go_sem] theorem oZ:ti Tryz.prog 150= .arr 24 5:=by kernel_rfl
@[go_sem] theorem oa:tsz Tryz.prog 150=24:=by kernel_rfl
@[go_sem] theorem ob:Tryz.prog.bytesOf 150=24:=by kernel_rfl
@[go_sem] theorem oc:(tz Tryz.prog 150).length =24:=by kernel_rfl
@[go_sem] theorem od:(tz Tryz.prog 150).map zAV=[.int .u8 0,.int .u8 0,.int .u8 0,.int .u8 0,.int .u8 0,.int .u8 0,.int .u8 0,.int .u8 0,.int .u8 0,.int .u8 0,.int .u8 0,.int .u8 0,.int .u8 0,.int .u8 0,.int .u8 0,.int .u8 0,.int .u8 0,.int .u8 0,.int .u8 0,.int .u8 0,.int .u8 0,.int .u8 0,.int .u8 0,.int .u8 0] :=by kernel_rfl
@[go_sem] theorem oe {q}:zDs q (tz Tryz.prog 150)=some [.int .u8 0,.int .u8 0,.int .u8 0,.int .u8 0,.int .u8 0,.int .u8 0,.int .u8 0,.int .u8 0,.int .u8 0,.int .u8 0,.int .u8 0,.int .u8 0,.int .u8 0,.int .u8 0,.int .u8 0,.int .u8 0,.int .u8 0,.int .u8 0,.int .u8 0,.int .u8 0,.int .u8 0,.int .u8 0,.int .u8 0,.int .u8 0] :=by kernel_rfl
@[go_sem] theorem oh:ti Tryz.prog 151= .int .u64 :=by kernel_rfl
@[go_sem] theorem ol:tsz Tryz.prog 151=1:=by kernel_rfl
@[go_sem] theorem om:Tryz.prog.bytesOf 151=8:=by kernel_rfl
@[go_sem] theorem oq:(tz Tryz.prog 151).length =1:=by kernel_rfl
@[go_sem] theorem ot:(tz Tryz.prog 151).map zAV=[.int .u64 0] :=by kernel_rfl
@[go_sem] theorem ou {q}:zDs q (tz Tryz.prog 151)=some [.int .u64 0] :=by kernel_rfl
@[go_sem] theorem ov:ti Tryz.prog 158= .arr 20 151:=by kernel_rfl
@[go_sem] theorem oz:tsz Tryz.prog 158=20:=by kernel_rfl
@[go_sem] theorem o0:Tryz.prog.bytesOf 158=160:=by kernel_rfl
@[go_sem] theorem o3:(tz Tryz.prog 158).length =20:=by kernel_rfl
@[go_sem] theorem o4:(tz Tryz.prog 158).map zAV=[.int .u64 0,.int .u64 0,.int .u64 0,.int .u64 0,.int .u64 0,.int .u64 0,.int .u64 0,.int .u64 0,.int .u64 0,.int .u64 0,.int .u64 0,.int .u64 0,.int .u64 0,.int .u64 0,.int .u64 0,.int .u64 0,.int .u64 0,.int .u64 0,.int .u64 0,.int .u64 0] :=by kernel_rfl
@[go_sem] theorem o5 {q}:zDs q (tz Tryz.prog 158)=some [.int .u64 0,.int .u64 0,.int .u64 0,.int .u64 0,.int .u64 0,.int .u64 0,.int .u64 0,.int .u64 0,.int .u64 0,.int .u64 0,.int .u64 0,.int .u64 0,.int .u64 0,.int .u64 0,.int .u64 0,.int .u64 0,.int .u64 0,.int .u64 0,.int .u64 0,.int .u64 0] :=by kernel_rfl
@[go_sem] theorem o6:ti Tryz.prog 159= .int .u32 :=by kernel_rfl
@[go_sem] theorem o7:tsz Tryz.prog 159=1:=by kernel_rfl
@[go_sem] theorem o8:Tryz.prog.bytesOf 159=4:=by kernel_rfl
@[go_sem] theorem o9:(tz Tryz.prog 159).length =1:=by kernel_rfl
@[go_sem] theorem pA:(tz Tryz.prog 159).map zAV=[.int .u32 0] :=by kernel_rfl
@[go_sem] theorem pB {q}:zDs q (tz Tryz.prog 159)=some [.int .u32 0] :=by kernel_rfl
@[go_sem] theorem pC:ti Tryz.prog 160= .arr 65 5:=by kernel_rfl
@[go_sem] theorem pE:tsz Tryz.prog 160=65:=by kernel_rfl
@[go_sem] theorem pF:Tryz.prog.bytesOf 160=65:=by kernel_rfl
@[go_sem] theorem pG:ti Tryz.prog 162= .int .u64 :=by kernel_rfl
@[go_sem] theorem pH:tsz Tryz.prog 162=1:=by kernel_rfl
@[go_sem] theorem pI:Tryz.prog.bytesOf 162=8:=by kernel_rfl
@[go_sem] theorem pJ:(tz Tryz.prog 162).length =1:=by kernel_rfl
@[go_sem] theorem pK:(tz Tryz.prog 162).map zAV=[.int .u64 0] :=by kernel_rfl
@[go_sem] theorem pL {q}:zDs q (tz Tryz.prog 162)=some [.int .u64 0] :=by kernel_rfl
theorem mixed:Tryz.prog.follows .mixedOrders =true:=Tryz.checked.mixed
attribute [go_sem] Nat.reduceAdd Nat.reduceMul reduceIte Nat.reduceEqDiff Nat.reduceLeDiff Nat.reduceLT
end Go.Proofs.YtoncbhomocgmcaaGreatDoor.Ab
