/-
  What the walk asks of each type. Printed by wip/ab/gen_ti.py.
-/
import Derived.Test.YtclmbjbbojdojaaGreatRows
import Derived.Test.YtclmbjbbojdojaaGreatAbC
namespace Go.Proofs.YtclmbjbbojdojaaGreat.Ab
open Go.RowKit
@[go_sem] theorem ti2:ti Tryz.prog 2= .int .i64 :=by kernel_rfl
@[go_sem] theorem sz2:tsz Tryz.prog 2=1:=by kernel_rfl
@[go_sem] theorem by2:Tryz.prog.bytesOf 2=8:=by kernel_rfl
@[go_sem] theorem zl2:(tz Tryz.prog 2).length =1:=by kernel_rfl
@[go_sem] theorem za2:(tz Tryz.prog 2).map zAV=[.int .i64 0] :=by kernel_rfl
@[go_sem] theorem zd2 {q}:zDs q (tz Tryz.prog 2)=some [.int .i64 0] :=by kernel_rfl
@[go_sem] theorem ti3:ti Tryz.prog 3= .int .i64 :=by kernel_rfl
@[go_sem] theorem sz3:tsz Tryz.prog 3=1:=by kernel_rfl
@[go_sem] theorem by3:Tryz.prog.bytesOf 3=8:=by kernel_rfl
@[go_sem] theorem zl3:(tz Tryz.prog 3).length =1:=by kernel_rfl
@[go_sem] theorem za3:(tz Tryz.prog 3).map zAV=[.int .i64 0] :=by kernel_rfl
@[go_sem] theorem zd3 {q}:zDs q (tz Tryz.prog 3)=some [.int .i64 0] :=by kernel_rfl
@[go_sem] theorem ti4:ti Tryz.prog 4= .bool :=by kernel_rfl
@[go_sem] theorem sz4:tsz Tryz.prog 4=1:=by kernel_rfl
@[go_sem] theorem by4:Tryz.prog.bytesOf 4=1:=by kernel_rfl
@[go_sem] theorem zl4:(tz Tryz.prog 4).length =1:=by kernel_rfl
@[go_sem] theorem za4:(tz Tryz.prog 4).map zAV=[.bool false] :=by kernel_rfl
@[go_sem] theorem zd4 {q}:zDs q (tz Tryz.prog 4)=some [.bool false] :=by kernel_rfl
@[go_sem] theorem qK:ti Tryz.prog 22= .sl 123:=by kernel_rfl
@[go_sem] theorem qL:tsz Tryz.prog 22=1:=by kernel_rfl
@[go_sem] theorem qM:Tryz.prog.bytesOf 22=24:=by kernel_rfl
@[go_sem] theorem qN:(tz Tryz.prog 22).length =1:=by kernel_rfl
@[go_sem] theorem qO:(tz Tryz.prog 22).map zAV=[.nils] :=by kernel_rfl
@[go_sem] theorem qP {q}:zDs q (tz Tryz.prog 22)=some [AZ q] :=by kernel_rfl
@[go_sem] theorem qQ:ti Tryz.prog 24= .st [(0,22)] :=by kernel_rfl
@[go_sem] theorem qR:tsz Tryz.prog 24=1:=by kernel_rfl
@[go_sem] theorem qS:Tryz.prog.bytesOf 24=24:=by kernel_rfl
@[go_sem] theorem qT:(tz Tryz.prog 24).length =1:=by kernel_rfl
@[go_sem] theorem qU:(tz Tryz.prog 24).map zAV=[.nils] :=by kernel_rfl
@[go_sem] theorem qV {q}:zDs q (tz Tryz.prog 24)=some [AZ q] :=by kernel_rfl
@[go_sem] theorem qW:ti Tryz.prog 25= .sl 2:=by kernel_rfl
@[go_sem] theorem qX:tsz Tryz.prog 25=1:=by kernel_rfl
@[go_sem] theorem qY:Tryz.prog.bytesOf 25=24:=by kernel_rfl
@[go_sem] theorem qZ:(tz Tryz.prog 25).length =1:=by kernel_rfl
@[go_sem] theorem qa:(tz Tryz.prog 25).map zAV=[.nils] :=by kernel_rfl
@[go_sem] theorem qc {q}:zDs q (tz Tryz.prog 25)=some [AZ q] :=by kernel_rfl
@[go_sem] theorem qd:ti Tryz.prog 27= .sl 172:=by kernel_rfl
@[go_sem] theorem qe:tsz Tryz.prog 27=1:=by kernel_rfl
@[go_sem] theorem qf:Tryz.prog.bytesOf 27=24:=by kernel_rfl
@[go_sem] theorem qg:(tz Tryz.prog 27).length =1:=by kernel_rfl
@[go_sem] theorem qh:(tz Tryz.prog 27).map zAV=[.nils] :=by kernel_rfl
@[go_sem] theorem qi {q}:zDs q (tz Tryz.prog 27)=some [AZ q] :=by kernel_rfl
@[go_sem] theorem qj:ti Tryz.prog 29= .st [(0,2),(1,2),(2,2)] :=by kernel_rfl
@[go_sem] theorem qk:C0 Tryz.prog 29=some [.int .i64,.int .i64,.int .i64] :=by kernel_rfl
@[go_sem] theorem ql:tsz Tryz.prog 29=3:=by kernel_rfl
@[go_sem] theorem qm:Tryz.prog.bytesOf 29=24:=by kernel_rfl
@[go_sem] theorem qn:(tz Tryz.prog 29).length =3:=by kernel_rfl
@[go_sem] theorem qo:(tz Tryz.prog 29).map zAV=[.int .i64 0,.int .i64 0,.int .i64 0] :=by kernel_rfl
@[go_sem] theorem qp {q}:zDs q (tz Tryz.prog 29)=some [.int .i64 0,.int .i64 0,.int .i64 0] :=by kernel_rfl
@[go_sem] theorem qq:ti Tryz.prog 31= .st [(0,27),(1,29)] :=by kernel_rfl
@[go_sem] theorem qr:tsz Tryz.prog 31=4:=by kernel_rfl
@[go_sem] theorem qu:Tryz.prog.bytesOf 31=48:=by kernel_rfl
@[go_sem] theorem qv:(tz Tryz.prog 31).length =4:=by kernel_rfl
@[go_sem] theorem qw:(tz Tryz.prog 31).map zAV=[.nils,.int .i64 0,.int .i64 0,.int .i64 0] :=by kernel_rfl
@[go_sem] theorem qx {q}:zDs q (tz Tryz.prog 31)=some [AZ q,.int .i64 0,.int .i64 0,.int .i64 0] :=by kernel_rfl
@[go_sem] theorem qy:ti Tryz.prog 32= .sl 163:=by kernel_rfl
@[go_sem] theorem qz:tsz Tryz.prog 32=1:=by kernel_rfl
@[go_sem] theorem q9:Tryz.prog.bytesOf 32=24:=by kernel_rfl
@[go_sem] theorem rA:(tz Tryz.prog 32).length =1:=by kernel_rfl
@[go_sem] theorem rB:(tz Tryz.prog 32).map zAV=[.nils] :=by kernel_rfl
@[go_sem] theorem rC {q}:zDs q (tz Tryz.prog 32)=some [AZ q] :=by kernel_rfl
@[go_sem] theorem rD:ti Tryz.prog 33= .sl 25:=by kernel_rfl
@[go_sem] theorem rE:tsz Tryz.prog 33=1:=by kernel_rfl
@[go_sem] theorem rF:Tryz.prog.bytesOf 33=24:=by kernel_rfl
@[go_sem] theorem rG:(tz Tryz.prog 33).length =1:=by kernel_rfl
@[go_sem] theorem rH:(tz Tryz.prog 33).map zAV=[.nils] :=by kernel_rfl
@[go_sem] theorem rI {q}:zDs q (tz Tryz.prog 33)=some [AZ q] :=by kernel_rfl
@[go_sem] theorem rJ:ti Tryz.prog 35= .st [(0,31),(4,32),(5,33),(6,25),(7,25)] :=by kernel_rfl
@[go_sem] theorem rK:tsz Tryz.prog 35=8:=by kernel_rfl
@[go_sem] theorem rL:Tryz.prog.bytesOf 35=144:=by kernel_rfl
@[go_sem] theorem rM:(tz Tryz.prog 35).length =8:=by kernel_rfl
@[go_sem] theorem rN:(tz Tryz.prog 35).map zAV=[.nils,.int .i64 0,.int .i64 0,.int .i64 0,.nils,.nils,.nils,.nils] :=by kernel_rfl
@[go_sem] theorem rO {q}:zDs q (tz Tryz.prog 35)=some [AZ q,.int .i64 0,.int .i64 0,.int .i64 0,AZ q,AZ q,AZ q,AZ q] :=by kernel_rfl
@[go_sem] theorem rP:ti Tryz.prog 36= .sl 4:=by kernel_rfl
@[go_sem] theorem rQ:tsz Tryz.prog 36=1:=by kernel_rfl
@[go_sem] theorem rR:Tryz.prog.bytesOf 36=24:=by kernel_rfl
@[go_sem] theorem rS:(tz Tryz.prog 36).length =1:=by kernel_rfl
@[go_sem] theorem rT:(tz Tryz.prog 36).map zAV=[.nils] :=by kernel_rfl
@[go_sem] theorem rU {q}:zDs q (tz Tryz.prog 36)=some [AZ q] :=by kernel_rfl
@[go_sem] theorem rV:ti Tryz.prog 38= .st [(0,36),(1,27),(2,33),(3,36),(4,32)] :=by kernel_rfl
@[go_sem] theorem rW:tsz Tryz.prog 38=5:=by kernel_rfl
@[go_sem] theorem rX:Tryz.prog.bytesOf 38=120:=by kernel_rfl
@[go_sem] theorem rY:(tz Tryz.prog 38).length =5:=by kernel_rfl
@[go_sem] theorem rZ:(tz Tryz.prog 38).map zAV=[.nils,.nils,.nils,.nils,.nils] :=by kernel_rfl
@[go_sem] theorem ra {q}:zDs q (tz Tryz.prog 38)=some [AZ q,AZ q,AZ q,AZ q,AZ q] :=by kernel_rfl
@[go_sem] theorem rc:ti Tryz.prog 40= .st [(0,35),(8,38)] :=by kernel_rfl
@[go_sem] theorem re:tsz Tryz.prog 40=13:=by kernel_rfl
@[go_sem] theorem rf:Tryz.prog.bytesOf 40=264:=by kernel_rfl
@[go_sem] theorem rg:(tz Tryz.prog 40).length =13:=by kernel_rfl
@[go_sem] theorem rh:(tz Tryz.prog 40).map zAV=[.nils,.int .i64 0,.int .i64 0,.int .i64 0,.nils,.nils,.nils,.nils,.nils,.nils,.nils,.nils,.nils] :=by kernel_rfl
@[go_sem] theorem rj {q}:zDs q (tz Tryz.prog 40)=some [AZ q,.int .i64 0,.int .i64 0,.int .i64 0,AZ q,AZ q,AZ q,AZ q,AZ q,AZ q,AZ q,AZ q,AZ q] :=by kernel_rfl
@[go_sem] theorem rk:ti Tryz.prog 42= .st [(0,40),(13,35),(21,2),(22,2)] :=by kernel_rfl
@[go_sem] theorem rm:tsz Tryz.prog 42=23:=by kernel_rfl
@[go_sem] theorem rn:Tryz.prog.bytesOf 42=424:=by kernel_rfl
@[go_sem] theorem rp:(tz Tryz.prog 42).length =23:=by kernel_rfl
@[go_sem] theorem rq:(tz Tryz.prog 42).map zAV=[.nils,.int .i64 0,.int .i64 0,.int .i64 0,.nils,.nils,.nils,.nils,.nils,.nils,.nils,.nils,.nils,.nils,.int .i64 0,.int .i64 0,.int .i64 0,.nils,.nils,.nils,.nils,.int .i64 0,.int .i64 0] :=by kernel_rfl
@[go_sem] theorem ru {q}:zDs q (tz Tryz.prog 42)=some [AZ q,.int .i64 0,.int .i64 0,.int .i64 0,AZ q,AZ q,AZ q,AZ q,AZ q,AZ q,AZ q,AZ q,AZ q,AZ q,.int .i64 0,.int .i64 0,.int .i64 0,AZ q,AZ q,AZ q,AZ q,.int .i64 0,.int .i64 0] :=by kernel_rfl
@[go_sem] theorem rx:ti Tryz.prog 45= .sl 133:=by kernel_rfl
@[go_sem] theorem ry:tsz Tryz.prog 45=1:=by kernel_rfl
@[go_sem] theorem rz:Tryz.prog.bytesOf 45=24:=by kernel_rfl
@[go_sem] theorem r6:(tz Tryz.prog 45).length =1:=by kernel_rfl
@[go_sem] theorem r7:(tz Tryz.prog 45).map zAV=[.nils] :=by kernel_rfl
@[go_sem] theorem r8 {q}:zDs q (tz Tryz.prog 45)=some [AZ q] :=by kernel_rfl
@[go_sem] theorem r9:ti Tryz.prog 47= .st [(0,45)] :=by kernel_rfl
@[go_sem] theorem sA:tsz Tryz.prog 47=1:=by kernel_rfl
@[go_sem] theorem sB:Tryz.prog.bytesOf 47=24:=by kernel_rfl
@[go_sem] theorem sC:(tz Tryz.prog 47).length =1:=by kernel_rfl
@[go_sem] theorem sD:(tz Tryz.prog 47).map zAV=[.nils] :=by kernel_rfl
@[go_sem] theorem sE {q}:zDs q (tz Tryz.prog 47)=some [AZ q] :=by kernel_rfl
@[go_sem] theorem sF:ti Tryz.prog 57= .sl 277:=by kernel_rfl
@[go_sem] theorem sG:tsz Tryz.prog 57=1:=by kernel_rfl
@[go_sem] theorem sH:Tryz.prog.bytesOf 57=24:=by kernel_rfl
@[go_sem] theorem sI:(tz Tryz.prog 57).length =1:=by kernel_rfl
@[go_sem] theorem sJ:(tz Tryz.prog 57).map zAV=[.nils] :=by kernel_rfl
@[go_sem] theorem sK {q}:zDs q (tz Tryz.prog 57)=some [AZ q] :=by kernel_rfl
@[go_sem] theorem sL:ti Tryz.prog 58= .st [(0,2),(1,2),(2,2)] :=by kernel_rfl
@[go_sem] theorem sM:C0 Tryz.prog 58=some [.int .i64,.int .i64,.int .i64] :=by kernel_rfl
@[go_sem] theorem sN:tsz Tryz.prog 58=3:=by kernel_rfl
@[go_sem] theorem sO:Tryz.prog.bytesOf 58=24:=by kernel_rfl
@[go_sem] theorem sP:(tz Tryz.prog 58).length =3:=by kernel_rfl
@[go_sem] theorem sQ:(tz Tryz.prog 58).map zAV=[.int .i64 0,.int .i64 0,.int .i64 0] :=by kernel_rfl
@[go_sem] theorem sR {q}:zDs q (tz Tryz.prog 58)=some [.int .i64 0,.int .i64 0,.int .i64 0] :=by kernel_rfl
@[go_sem] theorem sS:ti Tryz.prog 60= .st [(0,57),(1,58)] :=by kernel_rfl
@[go_sem] theorem sT:tsz Tryz.prog 60=4:=by kernel_rfl
@[go_sem] theorem sU:Tryz.prog.bytesOf 60=48:=by kernel_rfl
@[go_sem] theorem sV:(tz Tryz.prog 60).length =4:=by kernel_rfl
@[go_sem] theorem sW:(tz Tryz.prog 60).map zAV=[.nils,.int .i64 0,.int .i64 0,.int .i64 0] :=by kernel_rfl
@[go_sem] theorem sX {q}:zDs q (tz Tryz.prog 60)=some [AZ q,.int .i64 0,.int .i64 0,.int .i64 0] :=by kernel_rfl
@[go_sem] theorem sY:ti Tryz.prog 61= .sl 212:=by kernel_rfl
@[go_sem] theorem sZ:tsz Tryz.prog 61=1:=by kernel_rfl
@[go_sem] theorem sa:Tryz.prog.bytesOf 61=24:=by kernel_rfl
@[go_sem] theorem sb:(tz Tryz.prog 61).length =1:=by kernel_rfl
@[go_sem] theorem sd:(tz Tryz.prog 61).map zAV=[.nils] :=by kernel_rfl
@[go_sem] theorem se {q}:zDs q (tz Tryz.prog 61)=some [AZ q] :=by kernel_rfl
@[go_sem] theorem sf:ti Tryz.prog 63= .st [(0,60),(4,61),(5,33),(6,25),(7,25)] :=by kernel_rfl
@[go_sem] theorem sg:tsz Tryz.prog 63=8:=by kernel_rfl
@[go_sem] theorem si:Tryz.prog.bytesOf 63=144:=by kernel_rfl
@[go_sem] theorem sj:(tz Tryz.prog 63).length =8:=by kernel_rfl
@[go_sem] theorem sm:(tz Tryz.prog 63).map zAV=[.nils,.int .i64 0,.int .i64 0,.int .i64 0,.nils,.nils,.nils,.nils] :=by kernel_rfl
@[go_sem] theorem sn {q}:zDs q (tz Tryz.prog 63)=some [AZ q,.int .i64 0,.int .i64 0,.int .i64 0,AZ q,AZ q,AZ q,AZ q] :=by kernel_rfl
@[go_sem] theorem so:ti Tryz.prog 65= .st [(0,36),(1,57),(2,33),(3,36),(4,61)] :=by kernel_rfl
@[go_sem] theorem sp:tsz Tryz.prog 65=5:=by kernel_rfl
@[go_sem] theorem sr:Tryz.prog.bytesOf 65=120:=by kernel_rfl
@[go_sem] theorem ss:(tz Tryz.prog 65).length =5:=by kernel_rfl
@[go_sem] theorem su:(tz Tryz.prog 65).map zAV=[.nils,.nils,.nils,.nils,.nils] :=by kernel_rfl
@[go_sem] theorem sv {q}:zDs q (tz Tryz.prog 65)=some [AZ q,AZ q,AZ q,AZ q,AZ q] :=by kernel_rfl
@[go_sem] theorem sw:ti Tryz.prog 67= .st [(0,63),(8,65)] :=by kernel_rfl
@[go_sem] theorem sx:tsz Tryz.prog 67=13:=by kernel_rfl
@[go_sem] theorem sy:Tryz.prog.bytesOf 67=264:=by kernel_rfl
@[go_sem] theorem s0:(tz Tryz.prog 67).length =13:=by kernel_rfl
@[go_sem] theorem s3:(tz Tryz.prog 67).map zAV=[.nils,.int .i64 0,.int .i64 0,.int .i64 0,.nils,.nils,.nils,.nils,.nils,.nils,.nils,.nils,.nils] :=by kernel_rfl
@[go_sem] theorem s4 {q}:zDs q (tz Tryz.prog 67)=some [AZ q,.int .i64 0,.int .i64 0,.int .i64 0,AZ q,AZ q,AZ q,AZ q,AZ q,AZ q,AZ q,AZ q,AZ q] :=by kernel_rfl
@[go_sem] theorem s5:ti Tryz.prog 69= .st [(0,67),(13,63),(21,2),(22,2)] :=by kernel_rfl
@[go_sem] theorem s6:tsz Tryz.prog 69=23:=by kernel_rfl
@[go_sem] theorem s7:Tryz.prog.bytesOf 69=424:=by kernel_rfl
@[go_sem] theorem s8:(tz Tryz.prog 69).length =23:=by kernel_rfl
@[go_sem] theorem s9:(tz Tryz.prog 69).map zAV=[.nils,.int .i64 0,.int .i64 0,.int .i64 0,.nils,.nils,.nils,.nils,.nils,.nils,.nils,.nils,.nils,.nils,.int .i64 0,.int .i64 0,.int .i64 0,.nils,.nils,.nils,.nils,.int .i64 0,.int .i64 0] :=by kernel_rfl
@[go_sem] theorem tA {q}:zDs q (tz Tryz.prog 69)=some [AZ q,.int .i64 0,.int .i64 0,.int .i64 0,AZ q,AZ q,AZ q,AZ q,AZ q,AZ q,AZ q,AZ q,AZ q,AZ q,.int .i64 0,.int .i64 0,.int .i64 0,AZ q,AZ q,AZ q,AZ q,.int .i64 0,.int .i64 0] :=by kernel_rfl
@[go_sem] theorem tB:ti Tryz.prog 75= .st [(0,63),(8,2),(9,2),(10,4),(11,36),(12,2),(13,4)] :=by kernel_rfl
@[go_sem] theorem tC:tsz Tryz.prog 75=14:=by kernel_rfl
@[go_sem] theorem tD:Tryz.prog.bytesOf 75=208:=by kernel_rfl
@[go_sem] theorem tE:(tz Tryz.prog 75).length =14:=by kernel_rfl
@[go_sem] theorem tF:(tz Tryz.prog 75).map zAV=[.nils,.int .i64 0,.int .i64 0,.int .i64 0,.nils,.nils,.nils,.nils,.int .i64 0,.int .i64 0,.bool false,.nils,.int .i64 0,.bool false] :=by kernel_rfl
@[go_sem] theorem tG {q}:zDs q (tz Tryz.prog 75)=some [AZ q,.int .i64 0,.int .i64 0,.int .i64 0,AZ q,AZ q,AZ q,AZ q,.int .i64 0,.int .i64 0,.bool false,AZ q,.int .i64 0,.bool false] :=by kernel_rfl
@[go_sem] theorem tH:ti Tryz.prog 78= .st [(0,35),(8,2),(9,2),(10,4),(11,36),(12,2),(13,4)] :=by kernel_rfl
@[go_sem] theorem tI:tsz Tryz.prog 78=14:=by kernel_rfl
@[go_sem] theorem tJ:Tryz.prog.bytesOf 78=208:=by kernel_rfl
@[go_sem] theorem tK:(tz Tryz.prog 78).length =14:=by kernel_rfl
@[go_sem] theorem tL:(tz Tryz.prog 78).map zAV=[.nils,.int .i64 0,.int .i64 0,.int .i64 0,.nils,.nils,.nils,.nils,.int .i64 0,.int .i64 0,.bool false,.nils,.int .i64 0,.bool false] :=by kernel_rfl
@[go_sem] theorem tM {q}:zDs q (tz Tryz.prog 78)=some [AZ q,.int .i64 0,.int .i64 0,.int .i64 0,AZ q,AZ q,AZ q,AZ q,.int .i64 0,.int .i64 0,.bool false,AZ q,.int .i64 0,.bool false] :=by kernel_rfl
@[go_sem] theorem li:ti Tryz.prog 121= .sl 254:=by kernel_rfl
@[go_sem] theorem lj:tsz Tryz.prog 121=1:=by kernel_rfl
@[go_sem] theorem lk:Tryz.prog.bytesOf 121=24:=by kernel_rfl
@[go_sem] theorem ll:(tz Tryz.prog 121).length =1:=by kernel_rfl
@[go_sem] theorem lm:(tz Tryz.prog 121).map zAV=[.nils] :=by kernel_rfl
@[go_sem] theorem ln {q}:zDs q (tz Tryz.prog 121)=some [AZ q] :=by kernel_rfl
@[go_sem] theorem lo:ti Tryz.prog 123= .st [(0,2),(1,2),(2,2),(3,25),(4,121)] :=by kernel_rfl
@[go_sem] theorem lp:tsz Tryz.prog 123=5:=by kernel_rfl
@[go_sem] theorem lq:Tryz.prog.bytesOf 123=72:=by kernel_rfl
@[go_sem] theorem lr:(tz Tryz.prog 123).length =5:=by kernel_rfl
@[go_sem] theorem lw:(tz Tryz.prog 123).map zAV=[.int .i64 0,.int .i64 0,.int .i64 0,.nils,.nils] :=by kernel_rfl
@[go_sem] theorem lx {q}:zDs q (tz Tryz.prog 123)=some [.int .i64 0,.int .i64 0,.int .i64 0,AZ q,AZ q] :=by kernel_rfl
@[go_sem] theorem ly:ti Tryz.prog 131= .sl 196:=by kernel_rfl
@[go_sem] theorem lz:tsz Tryz.prog 131=1:=by kernel_rfl
@[go_sem] theorem l0:Tryz.prog.bytesOf 131=24:=by kernel_rfl
@[go_sem] theorem l5:(tz Tryz.prog 131).length =1:=by kernel_rfl
@[go_sem] theorem l6:(tz Tryz.prog 131).map zAV=[.nils] :=by kernel_rfl
@[go_sem] theorem l7 {q}:zDs q (tz Tryz.prog 131)=some [AZ q] :=by kernel_rfl
@[go_sem] theorem l8:ti Tryz.prog 133= .st [(0,2),(1,2),(2,2),(3,25),(4,131)] :=by kernel_rfl
@[go_sem] theorem l9:tsz Tryz.prog 133=5:=by kernel_rfl
@[go_sem] theorem mA:Tryz.prog.bytesOf 133=72:=by kernel_rfl
@[go_sem] theorem mB:(tz Tryz.prog 133).length =5:=by kernel_rfl
@[go_sem] theorem mC:(tz Tryz.prog 133).map zAV=[.int .i64 0,.int .i64 0,.int .i64 0,.nils,.nils] :=by kernel_rfl
@[go_sem] theorem mD {q}:zDs q (tz Tryz.prog 133)=some [.int .i64 0,.int .i64 0,.int .i64 0,AZ q,AZ q] :=by kernel_rfl
@[go_sem] theorem mE:ti Tryz.prog 160= .sl 228:=by kernel_rfl
@[go_sem] theorem mF:tsz Tryz.prog 160=1:=by kernel_rfl
@[go_sem] theorem mG:Tryz.prog.bytesOf 160=24:=by kernel_rfl
@[go_sem] theorem mH:(tz Tryz.prog 160).length =1:=by kernel_rfl
@[go_sem] theorem mI:(tz Tryz.prog 160).map zAV=[.nils] :=by kernel_rfl
@[go_sem] theorem mJ {q}:zDs q (tz Tryz.prog 160)=some [AZ q] :=by kernel_rfl
@[go_sem] theorem mK:ti Tryz.prog 163= .sl 184:=by kernel_rfl
@[go_sem] theorem mL:tsz Tryz.prog 163=1:=by kernel_rfl
@[go_sem] theorem mM:Tryz.prog.bytesOf 163=24:=by kernel_rfl
@[go_sem] theorem mO:(tz Tryz.prog 163).length =1:=by kernel_rfl
@[go_sem] theorem mP:(tz Tryz.prog 163).map zAV=[.nils] :=by kernel_rfl
@[go_sem] theorem mQ {q}:zDs q (tz Tryz.prog 163)=some [AZ q] :=by kernel_rfl
@[go_sem] theorem mR:ti Tryz.prog 168= .sl 182:=by kernel_rfl
@[go_sem] theorem mS:tsz Tryz.prog 168=1:=by kernel_rfl
@[go_sem] theorem mT:Tryz.prog.bytesOf 168=24:=by kernel_rfl
@[go_sem] theorem mU:(tz Tryz.prog 168).length =1:=by kernel_rfl
@[go_sem] theorem mV:(tz Tryz.prog 168).map zAV=[.nils] :=by kernel_rfl
@[go_sem] theorem mW {q}:zDs q (tz Tryz.prog 168)=some [AZ q] :=by kernel_rfl
@[go_sem] theorem mX:ti Tryz.prog 169= .sl 252:=by kernel_rfl
@[go_sem] theorem mY:tsz Tryz.prog 169=1:=by kernel_rfl
@[go_sem] theorem mZ:Tryz.prog.bytesOf 169=24:=by kernel_rfl
@[go_sem] theorem ma:(tz Tryz.prog 169).length =1:=by kernel_rfl
@[go_sem] theorem mc:(tz Tryz.prog 169).map zAV=[.nils] :=by kernel_rfl
@[go_sem] theorem me {q}:zDs q (tz Tryz.prog 169)=some [AZ q] :=by kernel_rfl
@[go_sem] theorem mf:ti Tryz.prog 170= .sl 249:=by kernel_rfl
@[go_sem] theorem mg:tsz Tryz.prog 170=1:=by kernel_rfl
@[go_sem] theorem mh:Tryz.prog.bytesOf 170=24:=by kernel_rfl
@[go_sem] theorem mi:(tz Tryz.prog 170).length =1:=by kernel_rfl
@[go_sem] theorem mj:(tz Tryz.prog 170).map zAV=[.nils] :=by kernel_rfl
@[go_sem] theorem ml {q}:zDs q (tz Tryz.prog 170)=some [AZ q] :=by kernel_rfl
@[go_sem] theorem mm:ti Tryz.prog 172= .st [(0,168),(1,169),(2,170)] :=by kernel_rfl
@[go_sem] theorem mn:tsz Tryz.prog 172=3:=by kernel_rfl
@[go_sem] theorem mo:Tryz.prog.bytesOf 172=72:=by kernel_rfl
@[go_sem] theorem mq:(tz Tryz.prog 172).length =3:=by kernel_rfl
@[go_sem] theorem mr:(tz Tryz.prog 172).map zAV=[.nils,.nils,.nils] :=by kernel_rfl
@[go_sem] theorem ms {q}:zDs q (tz Tryz.prog 172)=some [AZ q,AZ q,AZ q] :=by kernel_rfl
@[go_sem] theorem mt:ti Tryz.prog 176= .ptr 47:=by kernel_rfl
@[go_sem] theorem mu:tsz Tryz.prog 176=1:=by kernel_rfl
@[go_sem] theorem mw:Tryz.prog.bytesOf 176=8:=by kernel_rfl
@[go_sem] theorem mx:(tz Tryz.prog 176).length =1:=by kernel_rfl
@[go_sem] theorem my:(tz Tryz.prog 176).map zAV=[.nilp] :=by kernel_rfl
@[go_sem] theorem mz:ti Tryz.prog 180= .sl 29:=by kernel_rfl
@[go_sem] theorem m5:tsz Tryz.prog 180=1:=by kernel_rfl
@[go_sem] theorem m6:Tryz.prog.bytesOf 180=24:=by kernel_rfl
@[go_sem] theorem m7:(tz Tryz.prog 180).length =1:=by kernel_rfl
@[go_sem] theorem m8:(tz Tryz.prog 180).map zAV=[.nils] :=by kernel_rfl
@[go_sem] theorem m9 {q}:zDs q (tz Tryz.prog 180)=some [AZ q] :=by kernel_rfl
@[go_sem] theorem nA:ti Tryz.prog 182= .st [(0,2),(1,2),(2,2),(3,25),(4,180)] :=by kernel_rfl
@[go_sem] theorem nC:tsz Tryz.prog 182=5:=by kernel_rfl
@[go_sem] theorem nD:Tryz.prog.bytesOf 182=72:=by kernel_rfl
@[go_sem] theorem nE:(tz Tryz.prog 182).length =5:=by kernel_rfl
@[go_sem] theorem nF:(tz Tryz.prog 182).map zAV=[.int .i64 0,.int .i64 0,.int .i64 0,.nils,.nils] :=by kernel_rfl
@[go_sem] theorem nG {q}:zDs q (tz Tryz.prog 182)=some [.int .i64 0,.int .i64 0,.int .i64 0,AZ q,AZ q] :=by kernel_rfl
@[go_sem] theorem nH:ti Tryz.prog 184= .st [(0,2),(1,182),(6,29),(9,29)] :=by kernel_rfl
@[go_sem] theorem nI:tsz Tryz.prog 184=12:=by kernel_rfl
@[go_sem] theorem nJ:Tryz.prog.bytesOf 184=128:=by kernel_rfl
@[go_sem] theorem nK:(tz Tryz.prog 184).length =12:=by kernel_rfl
@[go_sem] theorem nL:(tz Tryz.prog 184).map zAV=[.int .i64 0,.int .i64 0,.int .i64 0,.int .i64 0,.nils,.nils,.int .i64 0,.int .i64 0,.int .i64 0,.int .i64 0,.int .i64 0,.int .i64 0] :=by kernel_rfl
@[go_sem] theorem nM {q}:zDs q (tz Tryz.prog 184)=some [.int .i64 0,.int .i64 0,.int .i64 0,.int .i64 0,AZ q,AZ q,.int .i64 0,.int .i64 0,.int .i64 0,.int .i64 0,.int .i64 0,.int .i64 0] :=by kernel_rfl
@[go_sem] theorem nN:ti Tryz.prog 192= .st [(0,176),(1,25),(2,31),(6,180)] :=by kernel_rfl
@[go_sem] theorem nO:tsz Tryz.prog 192=7:=by kernel_rfl
@[go_sem] theorem nP:Tryz.prog.bytesOf 192=104:=by kernel_rfl
@[go_sem] theorem nQ:(tz Tryz.prog 192).length =7:=by kernel_rfl
@[go_sem] theorem nR:(tz Tryz.prog 192).map zAV=[.nilp,.nils,.nils,.int .i64 0,.int .i64 0,.int .i64 0,.nils] :=by kernel_rfl
@[go_sem] theorem nS:ti Tryz.prog 196= .st [(0,2),(1,2)] :=by kernel_rfl
@[go_sem] theorem nT:C0 Tryz.prog 196=some [.int .i64,.int .i64] :=by kernel_rfl
@[go_sem] theorem nU:tsz Tryz.prog 196=2:=by kernel_rfl
@[go_sem] theorem nV:Tryz.prog.bytesOf 196=16:=by kernel_rfl
@[go_sem] theorem nW:(tz Tryz.prog 196).length =2:=by kernel_rfl
@[go_sem] theorem nX:(tz Tryz.prog 196).map zAV=[.int .i64 0,.int .i64 0] :=by kernel_rfl
@[go_sem] theorem nY {q}:zDs q (tz Tryz.prog 196)=some [.int .i64 0,.int .i64 0] :=by kernel_rfl
@[go_sem] theorem nZ:ti Tryz.prog 212= .sl 283:=by kernel_rfl
@[go_sem] theorem na:tsz Tryz.prog 212=1:=by kernel_rfl
@[go_sem] theorem nc:Tryz.prog.bytesOf 212=24:=by kernel_rfl
@[go_sem] theorem nf:(tz Tryz.prog 212).length =1:=by kernel_rfl
@[go_sem] theorem ng:(tz Tryz.prog 212).map zAV=[.nils] :=by kernel_rfl
@[go_sem] theorem nh {q}:zDs q (tz Tryz.prog 212)=some [AZ q] :=by kernel_rfl
@[go_sem] theorem ni:ti Tryz.prog 226= .st [(0,29),(3,2),(4,4)] :=by kernel_rfl
@[go_sem] theorem nj:C0 Tryz.prog 226=some [.int .i64,.int .i64,.int .i64,.int .i64,.bool] :=by kernel_rfl
@[go_sem] theorem nk:tsz Tryz.prog 226=5:=by kernel_rfl
@[go_sem] theorem nm:Tryz.prog.bytesOf 226=40:=by kernel_rfl
@[go_sem] theorem np:(tz Tryz.prog 226).length =5:=by kernel_rfl
@[go_sem] theorem nq:(tz Tryz.prog 226).map zAV=[.int .i64 0,.int .i64 0,.int .i64 0,.int .i64 0,.bool false] :=by kernel_rfl
@[go_sem] theorem nr {q}:zDs q (tz Tryz.prog 226)=some [.int .i64 0,.int .i64 0,.int .i64 0,.int .i64 0,.bool false] :=by kernel_rfl
@[go_sem] theorem nu:ti Tryz.prog 228= .st [(0,226),(5,226)] :=by kernel_rfl
@[go_sem] theorem nv:C0 Tryz.prog 228=some [.int .i64,.int .i64,.int .i64,.int .i64,.bool,.int .i64,.int .i64,.int .i64,.int .i64,.bool] :=by kernel_rfl
@[go_sem] theorem nw:tsz Tryz.prog 228=10:=by kernel_rfl
@[go_sem] theorem nx:Tryz.prog.bytesOf 228=80:=by kernel_rfl
@[go_sem] theorem ny:(tz Tryz.prog 228).length =10:=by kernel_rfl
@[go_sem] theorem nz:(tz Tryz.prog 228).map zAV=[.int .i64 0,.int .i64 0,.int .i64 0,.int .i64 0,.bool false,.int .i64 0,.int .i64 0,.int .i64 0,.int .i64 0,.bool false] :=by kernel_rfl
@[go_sem] theorem n4 {q}:zDs q (tz Tryz.prog 228)=some [.int .i64 0,.int .i64 0,.int .i64 0,.int .i64 0,.bool false,.int .i64 0,.int .i64 0,.int .i64 0,.int .i64 0,.bool false] :=by kernel_rfl
@[go_sem] theorem n5:ti Tryz.prog 244= .sl 247:=by kernel_rfl
@[go_sem] theorem n6:tsz Tryz.prog 244=1:=by kernel_rfl
@[go_sem] theorem n7:Tryz.prog.bytesOf 244=24:=by kernel_rfl
@[go_sem] theorem n8:(tz Tryz.prog 244).length =1:=by kernel_rfl
@[go_sem] theorem n9:(tz Tryz.prog 244).map zAV=[.nils] :=by kernel_rfl
@[go_sem] theorem oA {q}:zDs q (tz Tryz.prog 244)=some [AZ q] :=by kernel_rfl
@[go_sem] theorem oC:ti Tryz.prog 247= .st [(0,196),(2,196)] :=by kernel_rfl
@[go_sem] theorem oD:C0 Tryz.prog 247=some [.int .i64,.int .i64,.int .i64,.int .i64] :=by kernel_rfl
@[go_sem] theorem oE:tsz Tryz.prog 247=4:=by kernel_rfl
@[go_sem] theorem oF:Tryz.prog.bytesOf 247=32:=by kernel_rfl
@[go_sem] theorem oG:(tz Tryz.prog 247).length =4:=by kernel_rfl
@[go_sem] theorem oH:(tz Tryz.prog 247).map zAV=[.int .i64 0,.int .i64 0,.int .i64 0,.int .i64 0] :=by kernel_rfl
@[go_sem] theorem oI {q}:zDs q (tz Tryz.prog 247)=some [.int .i64 0,.int .i64 0,.int .i64 0,.int .i64 0] :=by kernel_rfl
@[go_sem] theorem oJ:ti Tryz.prog 249= .st [(0,29),(3,29)] :=by kernel_rfl
@[go_sem] theorem oK:C0 Tryz.prog 249=some [.int .i64,.int .i64,.int .i64,.int .i64,.int .i64,.int .i64] :=by kernel_rfl
@[go_sem] theorem oL:tsz Tryz.prog 249=6:=by kernel_rfl
@[go_sem] theorem oM:Tryz.prog.bytesOf 249=48:=by kernel_rfl
@[go_sem] theorem oN:(tz Tryz.prog 249).length =6:=by kernel_rfl
@[go_sem] theorem oO:(tz Tryz.prog 249).map zAV=[.int .i64 0,.int .i64 0,.int .i64 0,.int .i64 0,.int .i64 0,.int .i64 0] :=by kernel_rfl
@[go_sem] theorem oP {q}:zDs q (tz Tryz.prog 249)=some [.int .i64 0,.int .i64 0,.int .i64 0,.int .i64 0,.int .i64 0,.int .i64 0] :=by kernel_rfl
@[go_sem] theorem oQ:ti Tryz.prog 252= .st [(0,4),(1,4),(2,29)] :=by kernel_rfl
@[go_sem] theorem oR:C0 Tryz.prog 252=some [.bool,.bool,.int .i64,.int .i64,.int .i64] :=by kernel_rfl
@[go_sem] theorem oS:tsz Tryz.prog 252=5:=by kernel_rfl
@[go_sem] theorem oU:Tryz.prog.bytesOf 252=32:=by kernel_rfl
@[go_sem] theorem oV:(tz Tryz.prog 252).length =5:=by kernel_rfl
@[go_sem] theorem oW:(tz Tryz.prog 252).map zAV=[.bool false,.bool false,.int .i64 0,.int .i64 0,.int .i64 0] :=by kernel_rfl
@[go_sem] theorem oX {q}:zDs q (tz Tryz.prog 252)=some [.bool false,.bool false,.int .i64 0,.int .i64 0,.int .i64 0] :=by kernel_rfl
@[go_sem] theorem oY:ti Tryz.prog 254= .st [(0,2),(1,2)] :=by kernel_rfl
@[go_sem] theorem oZ:C0 Tryz.prog 254=some [.int .i64,.int .i64] :=by kernel_rfl
@[go_sem] theorem oa:tsz Tryz.prog 254=2:=by kernel_rfl
@[go_sem] theorem ob:Tryz.prog.bytesOf 254=16:=by kernel_rfl
@[go_sem] theorem oc:(tz Tryz.prog 254).length =2:=by kernel_rfl
@[go_sem] theorem od:(tz Tryz.prog 254).map zAV=[.int .i64 0,.int .i64 0] :=by kernel_rfl
@[go_sem] theorem oe {q}:zDs q (tz Tryz.prog 254)=some [.int .i64 0,.int .i64 0] :=by kernel_rfl
@[go_sem] theorem og:ti Tryz.prog 273= .sl 281:=by kernel_rfl
@[go_sem] theorem oh:tsz Tryz.prog 273=1:=by kernel_rfl
@[go_sem] theorem om:Tryz.prog.bytesOf 273=24:=by kernel_rfl
@[go_sem] theorem oq:(tz Tryz.prog 273).length =1:=by kernel_rfl
@[go_sem] theorem ot:(tz Tryz.prog 273).map zAV=[.nils] :=by kernel_rfl
@[go_sem] theorem ou {q}:zDs q (tz Tryz.prog 273)=some [AZ q] :=by kernel_rfl
@[go_sem] theorem ov:ti Tryz.prog 274= .sl 338:=by kernel_rfl
@[go_sem] theorem oz:tsz Tryz.prog 274=1:=by kernel_rfl
@[go_sem] theorem o0:Tryz.prog.bytesOf 274=24:=by kernel_rfl
@[go_sem] theorem o3:(tz Tryz.prog 274).length =1:=by kernel_rfl
@[go_sem] theorem o4:(tz Tryz.prog 274).map zAV=[.nils] :=by kernel_rfl
@[go_sem] theorem o5 {q}:zDs q (tz Tryz.prog 274)=some [AZ q] :=by kernel_rfl
@[go_sem] theorem o6:ti Tryz.prog 275= .sl 341:=by kernel_rfl
@[go_sem] theorem o7:tsz Tryz.prog 275=1:=by kernel_rfl
@[go_sem] theorem o8:Tryz.prog.bytesOf 275=24:=by kernel_rfl
@[go_sem] theorem o9:(tz Tryz.prog 275).length =1:=by kernel_rfl
@[go_sem] theorem pA:(tz Tryz.prog 275).map zAV=[.nils] :=by kernel_rfl
@[go_sem] theorem pB {q}:zDs q (tz Tryz.prog 275)=some [AZ q] :=by kernel_rfl
@[go_sem] theorem pC:ti Tryz.prog 277= .st [(0,273),(1,274),(2,275)] :=by kernel_rfl
@[go_sem] theorem pE:tsz Tryz.prog 277=3:=by kernel_rfl
@[go_sem] theorem pF:Tryz.prog.bytesOf 277=72:=by kernel_rfl
@[go_sem] theorem pG:(tz Tryz.prog 277).length =3:=by kernel_rfl
@[go_sem] theorem pH:(tz Tryz.prog 277).map zAV=[.nils,.nils,.nils] :=by kernel_rfl
@[go_sem] theorem pI {q}:zDs q (tz Tryz.prog 277)=some [AZ q,AZ q,AZ q] :=by kernel_rfl
@[go_sem] theorem pJ:ti Tryz.prog 279= .sl 58:=by kernel_rfl
@[go_sem] theorem pK:tsz Tryz.prog 279=1:=by kernel_rfl
@[go_sem] theorem pL:Tryz.prog.bytesOf 279=24:=by kernel_rfl
@[go_sem] theorem pM:(tz Tryz.prog 279).length =1:=by kernel_rfl
@[go_sem] theorem pN:(tz Tryz.prog 279).map zAV=[.nils] :=by kernel_rfl
@[go_sem] theorem pO {q}:zDs q (tz Tryz.prog 279)=some [AZ q] :=by kernel_rfl
@[go_sem] theorem pP:ti Tryz.prog 281= .st [(0,2),(1,2),(2,2),(3,25),(4,279)] :=by kernel_rfl
@[go_sem] theorem pQ:tsz Tryz.prog 281=5:=by kernel_rfl
@[go_sem] theorem pR:Tryz.prog.bytesOf 281=72:=by kernel_rfl
@[go_sem] theorem pS:(tz Tryz.prog 281).length =5:=by kernel_rfl
@[go_sem] theorem pT:(tz Tryz.prog 281).map zAV=[.int .i64 0,.int .i64 0,.int .i64 0,.nils,.nils] :=by kernel_rfl
@[go_sem] theorem pU {q}:zDs q (tz Tryz.prog 281)=some [.int .i64 0,.int .i64 0,.int .i64 0,AZ q,AZ q] :=by kernel_rfl
@[go_sem] theorem pV:ti Tryz.prog 283= .st [(0,2),(1,281),(6,58),(9,58)] :=by kernel_rfl
@[go_sem] theorem pW:tsz Tryz.prog 283=12:=by kernel_rfl
@[go_sem] theorem pX:Tryz.prog.bytesOf 283=128:=by kernel_rfl
@[go_sem] theorem pY:(tz Tryz.prog 283).length =12:=by kernel_rfl
@[go_sem] theorem pZ:(tz Tryz.prog 283).map zAV=[.int .i64 0,.int .i64 0,.int .i64 0,.int .i64 0,.nils,.nils,.int .i64 0,.int .i64 0,.int .i64 0,.int .i64 0,.int .i64 0,.int .i64 0] :=by kernel_rfl
@[go_sem] theorem pa {q}:zDs q (tz Tryz.prog 283)=some [.int .i64 0,.int .i64 0,.int .i64 0,.int .i64 0,AZ q,AZ q,.int .i64 0,.int .i64 0,.int .i64 0,.int .i64 0,.int .i64 0,.int .i64 0] :=by kernel_rfl
@[go_sem] theorem pc:ti Tryz.prog 294= .map 29 3:=by kernel_rfl
@[go_sem] theorem pd:tsz Tryz.prog 294=1:=by kernel_rfl
@[go_sem] theorem pe:Tryz.prog.bytesOf 294=8:=by kernel_rfl
@[go_sem] theorem pf:(tz Tryz.prog 294).length =1:=by kernel_rfl
@[go_sem] theorem pg:(tz Tryz.prog 294).map zAV=[.any] :=by kernel_rfl
@[go_sem] theorem ph:ti Tryz.prog 304= .st [(0,45),(1,131),(2,33),(3,33),(4,33),(5,33)] :=by kernel_rfl
@[go_sem] theorem pi:tsz Tryz.prog 304=6:=by kernel_rfl
@[go_sem] theorem pj:Tryz.prog.bytesOf 304=144:=by kernel_rfl
@[go_sem] theorem pk:(tz Tryz.prog 304).length =6:=by kernel_rfl
@[go_sem] theorem pm:(tz Tryz.prog 304).map zAV=[.nils,.nils,.nils,.nils,.nils,.nils] :=by kernel_rfl
@[go_sem] theorem pn {q}:zDs q (tz Tryz.prog 304)=some [AZ q,AZ q,AZ q,AZ q,AZ q,AZ q] :=by kernel_rfl
@[go_sem] theorem po:ti Tryz.prog 326= .sl 226:=by kernel_rfl
@[go_sem] theorem pp:tsz Tryz.prog 326=1:=by kernel_rfl
@[go_sem] theorem pq:Tryz.prog.bytesOf 326=24:=by kernel_rfl
@[go_sem] theorem pr:(tz Tryz.prog 326).length =1:=by kernel_rfl
@[go_sem] theorem pv:(tz Tryz.prog 326).map zAV=[.nils] :=by kernel_rfl
@[go_sem] theorem pw {q}:zDs q (tz Tryz.prog 326)=some [AZ q] :=by kernel_rfl
@[go_sem] theorem px:ti Tryz.prog 338= .st [(0,4),(1,4),(2,58)] :=by kernel_rfl
@[go_sem] theorem py:C0 Tryz.prog 338=some [.bool,.bool,.int .i64,.int .i64,.int .i64] :=by kernel_rfl
@[go_sem] theorem pz:tsz Tryz.prog 338=5:=by kernel_rfl
@[go_sem] theorem p3:Tryz.prog.bytesOf 338=32:=by kernel_rfl
@[go_sem] theorem p4:(tz Tryz.prog 338).length =5:=by kernel_rfl
@[go_sem] theorem p5:(tz Tryz.prog 338).map zAV=[.bool false,.bool false,.int .i64 0,.int .i64 0,.int .i64 0] :=by kernel_rfl
@[go_sem] theorem p6 {q}:zDs q (tz Tryz.prog 338)=some [.bool false,.bool false,.int .i64 0,.int .i64 0,.int .i64 0] :=by kernel_rfl
@[go_sem] theorem p7:ti Tryz.prog 341= .st [(0,58),(3,58)] :=by kernel_rfl
@[go_sem] theorem p8:C0 Tryz.prog 341=some [.int .i64,.int .i64,.int .i64,.int .i64,.int .i64,.int .i64] :=by kernel_rfl
@[go_sem] theorem p9:tsz Tryz.prog 341=6:=by kernel_rfl
@[go_sem] theorem qA:Tryz.prog.bytesOf 341=48:=by kernel_rfl
@[go_sem] theorem qB:(tz Tryz.prog 341).length =6:=by kernel_rfl
@[go_sem] theorem qC:(tz Tryz.prog 341).map zAV=[.int .i64 0,.int .i64 0,.int .i64 0,.int .i64 0,.int .i64 0,.int .i64 0] :=by kernel_rfl
@[go_sem] theorem qD {q}:zDs q (tz Tryz.prog 341)=some [.int .i64 0,.int .i64 0,.int .i64 0,.int .i64 0,.int .i64 0,.int .i64 0] :=by kernel_rfl
@[go_sem] theorem qE:ti Tryz.prog 343= .arr 13 2:=by kernel_rfl
@[go_sem] theorem qF:tsz Tryz.prog 343=13:=by kernel_rfl
@[go_sem] theorem qG:Tryz.prog.bytesOf 343=104:=by kernel_rfl
@[go_sem] theorem qH:(tz Tryz.prog 343).length =13:=by kernel_rfl
@[go_sem] theorem qI:(tz Tryz.prog 343).map zAV=[.int .i64 0,.int .i64 0,.int .i64 0,.int .i64 0,.int .i64 0,.int .i64 0,.int .i64 0,.int .i64 0,.int .i64 0,.int .i64 0,.int .i64 0,.int .i64 0,.int .i64 0] :=by kernel_rfl
@[go_sem] theorem qJ {q}:zDs q (tz Tryz.prog 343)=some [.int .i64 0,.int .i64 0,.int .i64 0,.int .i64 0,.int .i64 0,.int .i64 0,.int .i64 0,.int .i64 0,.int .i64 0,.int .i64 0,.int .i64 0,.int .i64 0,.int .i64 0] :=by kernel_rfl
theorem mixed:Tryz.prog.follows .mixedOrders =true:=Tryz.checked.mixed
attribute [go_sem] Nat.reduceAdd Nat.reduceMul reduceIte Nat.reduceEqDiff Nat.reduceLeDiff Nat.reduceLT
end Go.Proofs.YtclmbjbbojdojaaGreat.Ab
