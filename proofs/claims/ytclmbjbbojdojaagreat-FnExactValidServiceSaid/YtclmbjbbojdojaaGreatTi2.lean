/-
  What the walk asks of each type. Printed by wip/ab/gen_ti.py.
-/
import Derived.Test.YtclmbjbbojdojaaGreatRows
import Derived.Test.YtclmbjbbojdojaaGreatAbC
namespace Go.Proofs.YtclmbjbbojdojaaGreat.Ab
open Go.RowKit
@[go_sem] theorem ti2:ti Tryz.prog 2= .int .i64 :=by kernel_rfl
@[go_sem] theorem sz2:tsz Tryz.prog 2=1:=by kernel_rfl
@[go_sem] theorem by2:Tryz.prog.bytesOf 2=8:=by kernel_rfl
@[go_sem] theorem zl2:(tz Tryz.prog 2).length =1:=by kernel_rfl
@[go_sem] theorem za2:(tz Tryz.prog 2).map zAV=[.int .i64 0] :=by kernel_rfl
@[go_sem] theorem zd2 {q}:zDs q (tz Tryz.prog 2)=some [.int .i64 0] :=by kernel_rfl
@[go_sem] theorem ti3:ti Tryz.prog 3= .int .i64 :=by kernel_rfl
@[go_sem] theorem sz3:tsz Tryz.prog 3=1:=by kernel_rfl
@[go_sem] theorem by3:Tryz.prog.bytesOf 3=8:=by kernel_rfl
@[go_sem] theorem zl3:(tz Tryz.prog 3).length =1:=by kernel_rfl
@[go_sem] theorem za3:(tz Tryz.prog 3).map zAV=[.int .i64 0] :=by kernel_rfl
@[go_sem] theorem zd3 {q}:zDs q (tz Tryz.prog 3)=some [.int .i64 0] :=by kernel_rfl
@[go_sem] theorem ti4:ti Tryz.prog 4= .bool :=by kernel_rfl
@[go_sem] theorem sz4:tsz Tryz.prog 4=1:=by kernel_rfl
@[go_sem] theorem by4:Tryz.prog.bytesOf 4=1:=by kernel_rfl
@[go_sem] theorem zl4:(tz Tryz.prog 4).length =1:=by kernel_rfl
@[go_sem] theorem za4:(tz Tryz.prog 4).map zAV=[.bool false] :=by kernel_rfl
@[go_sem] theorem zd4 {q}:zDs q (tz Tryz.prog 4)=some [.bool false] :=by kernel_rfl
@[go_sem] theorem uj:ti Tryz.prog 22= .sl 123:=by kernel_rfl
@[go_sem] theorem uk:tsz Tryz.prog 22=1:=by kernel_rfl
@[go_sem] theorem um:Tryz.prog.bytesOf 22=24:=by kernel_rfl
@[go_sem] theorem uo:(tz Tryz.prog 22).length =1:=by kernel_rfl
@[go_sem] theorem up:(tz Tryz.prog 22).map zAV=[.nils] :=by kernel_rfl
@[go_sem] theorem uq {q}:zDs q (tz Tryz.prog 22)=some [AZ q] :=by kernel_rfl
@[go_sem] theorem ur:ti Tryz.prog 24= .st [(0,22)] :=by kernel_rfl
@[go_sem] theorem ut:tsz Tryz.prog 24=1:=by kernel_rfl
@[go_sem] theorem uu:Tryz.prog.bytesOf 24=24:=by kernel_rfl
@[go_sem] theorem uv:(tz Tryz.prog 24).length =1:=by kernel_rfl
@[go_sem] theorem uw:(tz Tryz.prog 24).map zAV=[.nils] :=by kernel_rfl
@[go_sem] theorem ux {q}:zDs q (tz Tryz.prog 24)=some [AZ q] :=by kernel_rfl
@[go_sem] theorem uy:ti Tryz.prog 25= .sl 2:=by kernel_rfl
@[go_sem] theorem uz:tsz Tryz.prog 25=1:=by kernel_rfl
@[go_sem] theorem vA:Tryz.prog.bytesOf 25=24:=by kernel_rfl
@[go_sem] theorem vB:(tz Tryz.prog 25).length =1:=by kernel_rfl
@[go_sem] theorem vC:(tz Tryz.prog 25).map zAV=[.nils] :=by kernel_rfl
@[go_sem] theorem vD {q}:zDs q (tz Tryz.prog 25)=some [AZ q] :=by kernel_rfl
@[go_sem] theorem vE:ti Tryz.prog 27= .sl 172:=by kernel_rfl
@[go_sem] theorem vF:tsz Tryz.prog 27=1:=by kernel_rfl
@[go_sem] theorem vG:Tryz.prog.bytesOf 27=24:=by kernel_rfl
@[go_sem] theorem vH:(tz Tryz.prog 27).length =1:=by kernel_rfl
@[go_sem] theorem vI:(tz Tryz.prog 27).map zAV=[.nils] :=by kernel_rfl
@[go_sem] theorem vJ {q}:zDs q (tz Tryz.prog 27)=some [AZ q] :=by kernel_rfl
@[go_sem] theorem pV:ti Tryz.prog 29= .st [(0,2),(1,2),(2,2)] :=by kernel_rfl
@[go_sem] theorem vK:DV Tryz.prog 29=some [.int .i64,.int .i64,.int .i64] :=by kernel_rfl
@[go_sem] theorem mH:tsz Tryz.prog 29=3:=by kernel_rfl
@[go_sem] theorem vL:Tryz.prog.bytesOf 29=24:=by kernel_rfl
@[go_sem] theorem vM:(tz Tryz.prog 29).length =3:=by kernel_rfl
@[go_sem] theorem vN:(tz Tryz.prog 29).map zAV=[.int .i64 0,.int .i64 0,.int .i64 0] :=by kernel_rfl
@[go_sem] theorem vO {q}:zDs q (tz Tryz.prog 29)=some [.int .i64 0,.int .i64 0,.int .i64 0] :=by kernel_rfl
@[go_sem] theorem vP:ti Tryz.prog 31= .st [(0,27),(1,29)] :=by kernel_rfl
@[go_sem] theorem vQ:tsz Tryz.prog 31=4:=by kernel_rfl
@[go_sem] theorem vR:Tryz.prog.bytesOf 31=48:=by kernel_rfl
@[go_sem] theorem vS:(tz Tryz.prog 31).length =4:=by kernel_rfl
@[go_sem] theorem vT:(tz Tryz.prog 31).map zAV=[.nils,.int .i64 0,.int .i64 0,.int .i64 0] :=by kernel_rfl
@[go_sem] theorem vU {q}:zDs q (tz Tryz.prog 31)=some [AZ q,.int .i64 0,.int .i64 0,.int .i64 0] :=by kernel_rfl
@[go_sem] theorem vV:ti Tryz.prog 32= .sl 163:=by kernel_rfl
@[go_sem] theorem vW:tsz Tryz.prog 32=1:=by kernel_rfl
@[go_sem] theorem vX:Tryz.prog.bytesOf 32=24:=by kernel_rfl
@[go_sem] theorem vY:(tz Tryz.prog 32).length =1:=by kernel_rfl
@[go_sem] theorem vZ:(tz Tryz.prog 32).map zAV=[.nils] :=by kernel_rfl
@[go_sem] theorem va {q}:zDs q (tz Tryz.prog 32)=some [AZ q] :=by kernel_rfl
@[go_sem] theorem vc:ti Tryz.prog 33= .sl 25:=by kernel_rfl
@[go_sem] theorem vd:tsz Tryz.prog 33=1:=by kernel_rfl
@[go_sem] theorem ve:Tryz.prog.bytesOf 33=24:=by kernel_rfl
@[go_sem] theorem vf:(tz Tryz.prog 33).length =1:=by kernel_rfl
@[go_sem] theorem vg:(tz Tryz.prog 33).map zAV=[.nils] :=by kernel_rfl
@[go_sem] theorem vh {q}:zDs q (tz Tryz.prog 33)=some [AZ q] :=by kernel_rfl
@[go_sem] theorem vi:ti Tryz.prog 35= .st [(0,31),(4,32),(5,33),(6,25),(7,25)] :=by kernel_rfl
@[go_sem] theorem vj:tsz Tryz.prog 35=8:=by kernel_rfl
@[go_sem] theorem vk:Tryz.prog.bytesOf 35=144:=by kernel_rfl
@[go_sem] theorem vm:(tz Tryz.prog 35).length =8:=by kernel_rfl
@[go_sem] theorem vo:(tz Tryz.prog 35).map zAV=[.nils,.int .i64 0,.int .i64 0,.int .i64 0,.nils,.nils,.nils,.nils] :=by kernel_rfl
@[go_sem] theorem vq {q}:zDs q (tz Tryz.prog 35)=some [AZ q,.int .i64 0,.int .i64 0,.int .i64 0,AZ q,AZ q,AZ q,AZ q] :=by kernel_rfl
@[go_sem] theorem vt:ti Tryz.prog 36= .sl 4:=by kernel_rfl
@[go_sem] theorem vu:tsz Tryz.prog 36=1:=by kernel_rfl
@[go_sem] theorem vv:Tryz.prog.bytesOf 36=24:=by kernel_rfl
@[go_sem] theorem vx:(tz Tryz.prog 36).length =1:=by kernel_rfl
@[go_sem] theorem vy:(tz Tryz.prog 36).map zAV=[.nils] :=by kernel_rfl
@[go_sem] theorem vz {q}:zDs q (tz Tryz.prog 36)=some [AZ q] :=by kernel_rfl
@[go_sem] theorem v4:ti Tryz.prog 38= .st [(0,36),(1,27),(2,33),(3,36),(4,32)] :=by kernel_rfl
@[go_sem] theorem v5:tsz Tryz.prog 38=5:=by kernel_rfl
@[go_sem] theorem v6:Tryz.prog.bytesOf 38=120:=by kernel_rfl
@[go_sem] theorem v8:(tz Tryz.prog 38).length =5:=by kernel_rfl
@[go_sem] theorem v9:(tz Tryz.prog 38).map zAV=[.nils,.nils,.nils,.nils,.nils] :=by kernel_rfl
@[go_sem] theorem wA {q}:zDs q (tz Tryz.prog 38)=some [AZ q,AZ q,AZ q,AZ q,AZ q] :=by kernel_rfl
@[go_sem] theorem wB:ti Tryz.prog 40= .st [(0,35),(8,38)] :=by kernel_rfl
@[go_sem] theorem wC:tsz Tryz.prog 40=13:=by kernel_rfl
@[go_sem] theorem wD:Tryz.prog.bytesOf 40=264:=by kernel_rfl
@[go_sem] theorem wE:(tz Tryz.prog 40).length =13:=by kernel_rfl
@[go_sem] theorem wF:(tz Tryz.prog 40).map zAV=[.nils,.int .i64 0,.int .i64 0,.int .i64 0,.nils,.nils,.nils,.nils,.nils,.nils,.nils,.nils,.nils] :=by kernel_rfl
@[go_sem] theorem wG {q}:zDs q (tz Tryz.prog 40)=some [AZ q,.int .i64 0,.int .i64 0,.int .i64 0,AZ q,AZ q,AZ q,AZ q,AZ q,AZ q,AZ q,AZ q,AZ q] :=by kernel_rfl
@[go_sem] theorem wH:ti Tryz.prog 42= .st [(0,40),(13,35),(21,2),(22,2)] :=by kernel_rfl
@[go_sem] theorem wI:tsz Tryz.prog 42=23:=by kernel_rfl
@[go_sem] theorem wJ:Tryz.prog.bytesOf 42=424:=by kernel_rfl
@[go_sem] theorem wK:(tz Tryz.prog 42).length =23:=by kernel_rfl
@[go_sem] theorem wM:(tz Tryz.prog 42).map zAV=[.nils,.int .i64 0,.int .i64 0,.int .i64 0,.nils,.nils,.nils,.nils,.nils,.nils,.nils,.nils,.nils,.nils,.int .i64 0,.int .i64 0,.int .i64 0,.nils,.nils,.nils,.nils,.int .i64 0,.int .i64 0] :=by kernel_rfl
@[go_sem] theorem wN {q}:zDs q (tz Tryz.prog 42)=some [AZ q,.int .i64 0,.int .i64 0,.int .i64 0,AZ q,AZ q,AZ q,AZ q,AZ q,AZ q,AZ q,AZ q,AZ q,AZ q,.int .i64 0,.int .i64 0,.int .i64 0,AZ q,AZ q,AZ q,AZ q,.int .i64 0,.int .i64 0] :=by kernel_rfl
@[go_sem] theorem wO:ti Tryz.prog 45= .sl 133:=by kernel_rfl
@[go_sem] theorem wP:tsz Tryz.prog 45=1:=by kernel_rfl
@[go_sem] theorem wQ:Tryz.prog.bytesOf 45=24:=by kernel_rfl
@[go_sem] theorem wR:(tz Tryz.prog 45).length =1:=by kernel_rfl
@[go_sem] theorem wS:(tz Tryz.prog 45).map zAV=[.nils] :=by kernel_rfl
@[go_sem] theorem wT {q}:zDs q (tz Tryz.prog 45)=some [AZ q] :=by kernel_rfl
@[go_sem] theorem wU:ti Tryz.prog 47= .st [(0,45)] :=by kernel_rfl
@[go_sem] theorem wV:tsz Tryz.prog 47=1:=by kernel_rfl
@[go_sem] theorem wW:Tryz.prog.bytesOf 47=24:=by kernel_rfl
@[go_sem] theorem wX:(tz Tryz.prog 47).length =1:=by kernel_rfl
@[go_sem] theorem wY:(tz Tryz.prog 47).map zAV=[.nils] :=by kernel_rfl
@[go_sem] theorem wZ {q}:zDs q (tz Tryz.prog 47)=some [AZ q] :=by kernel_rfl
@[go_sem] theorem wa:ti Tryz.prog 57= .sl 277:=by kernel_rfl
@[go_sem] theorem wb:tsz Tryz.prog 57=1:=by kernel_rfl
@[go_sem] theorem wc:Tryz.prog.bytesOf 57=24:=by kernel_rfl
@[go_sem] theorem wd:(tz Tryz.prog 57).length =1:=by kernel_rfl
@[go_sem] theorem wg:(tz Tryz.prog 57).map zAV=[.nils] :=by kernel_rfl
@[go_sem] theorem wh {q}:zDs q (tz Tryz.prog 57)=some [AZ q] :=by kernel_rfl
@[go_sem] theorem wi:ti Tryz.prog 58= .st [(0,2),(1,2),(2,2)] :=by kernel_rfl
@[go_sem] theorem wj:DV Tryz.prog 58=some [.int .i64,.int .i64,.int .i64] :=by kernel_rfl
@[go_sem] theorem wk:tsz Tryz.prog 58=3:=by kernel_rfl
@[go_sem] theorem wl:Tryz.prog.bytesOf 58=24:=by kernel_rfl
@[go_sem] theorem wm:(tz Tryz.prog 58).length =3:=by kernel_rfl
@[go_sem] theorem wn:(tz Tryz.prog 58).map zAV=[.int .i64 0,.int .i64 0,.int .i64 0] :=by kernel_rfl
@[go_sem] theorem wo {q}:zDs q (tz Tryz.prog 58)=some [.int .i64 0,.int .i64 0,.int .i64 0] :=by kernel_rfl
@[go_sem] theorem wq:ti Tryz.prog 60= .st [(0,57),(1,58)] :=by kernel_rfl
@[go_sem] theorem wr:tsz Tryz.prog 60=4:=by kernel_rfl
@[go_sem] theorem wt:Tryz.prog.bytesOf 60=48:=by kernel_rfl
@[go_sem] theorem wu:(tz Tryz.prog 60).length =4:=by kernel_rfl
@[go_sem] theorem wv:(tz Tryz.prog 60).map zAV=[.nils,.int .i64 0,.int .i64 0,.int .i64 0] :=by kernel_rfl
@[go_sem] theorem ww {q}:zDs q (tz Tryz.prog 60)=some [AZ q,.int .i64 0,.int .i64 0,.int .i64 0] :=by kernel_rfl
@[go_sem] theorem wx:ti Tryz.prog 61= .sl 212:=by kernel_rfl
@[go_sem] theorem wy:tsz Tryz.prog 61=1:=by kernel_rfl
@[go_sem] theorem wz:Tryz.prog.bytesOf 61=24:=by kernel_rfl
@[go_sem] theorem w7:(tz Tryz.prog 61).length =1:=by kernel_rfl
@[go_sem] theorem w8:(tz Tryz.prog 61).map zAV=[.nils] :=by kernel_rfl
@[go_sem] theorem w9 {q}:zDs q (tz Tryz.prog 61)=some [AZ q] :=by kernel_rfl
@[go_sem] theorem xA:ti Tryz.prog 63= .st [(0,60),(4,61),(5,33),(6,25),(7,25)] :=by kernel_rfl
@[go_sem] theorem xB:tsz Tryz.prog 63=8:=by kernel_rfl
@[go_sem] theorem xC:Tryz.prog.bytesOf 63=144:=by kernel_rfl
@[go_sem] theorem xD:(tz Tryz.prog 63).length =8:=by kernel_rfl
@[go_sem] theorem xE:(tz Tryz.prog 63).map zAV=[.nils,.int .i64 0,.int .i64 0,.int .i64 0,.nils,.nils,.nils,.nils] :=by kernel_rfl
@[go_sem] theorem xF {q}:zDs q (tz Tryz.prog 63)=some [AZ q,.int .i64 0,.int .i64 0,.int .i64 0,AZ q,AZ q,AZ q,AZ q] :=by kernel_rfl
@[go_sem] theorem xG:ti Tryz.prog 65= .st [(0,36),(1,57),(2,33),(3,36),(4,61)] :=by kernel_rfl
@[go_sem] theorem xH:tsz Tryz.prog 65=5:=by kernel_rfl
@[go_sem] theorem xI:Tryz.prog.bytesOf 65=120:=by kernel_rfl
@[go_sem] theorem xJ:(tz Tryz.prog 65).length =5:=by kernel_rfl
@[go_sem] theorem xK:(tz Tryz.prog 65).map zAV=[.nils,.nils,.nils,.nils,.nils] :=by kernel_rfl
@[go_sem] theorem xL {q}:zDs q (tz Tryz.prog 65)=some [AZ q,AZ q,AZ q,AZ q,AZ q] :=by kernel_rfl
@[go_sem] theorem xM:ti Tryz.prog 67= .st [(0,63),(8,65)] :=by kernel_rfl
@[go_sem] theorem xN:tsz Tryz.prog 67=13:=by kernel_rfl
@[go_sem] theorem xO:Tryz.prog.bytesOf 67=264:=by kernel_rfl
@[go_sem] theorem xP:(tz Tryz.prog 67).length =13:=by kernel_rfl
@[go_sem] theorem xQ:(tz Tryz.prog 67).map zAV=[.nils,.int .i64 0,.int .i64 0,.int .i64 0,.nils,.nils,.nils,.nils,.nils,.nils,.nils,.nils,.nils] :=by kernel_rfl
@[go_sem] theorem xR {q}:zDs q (tz Tryz.prog 67)=some [AZ q,.int .i64 0,.int .i64 0,.int .i64 0,AZ q,AZ q,AZ q,AZ q,AZ q,AZ q,AZ q,AZ q,AZ q] :=by kernel_rfl
@[go_sem] theorem xS:ti Tryz.prog 69= .st [(0,67),(13,63),(21,2),(22,2)] :=by kernel_rfl
@[go_sem] theorem xT:tsz Tryz.prog 69=23:=by kernel_rfl
@[go_sem] theorem xU:Tryz.prog.bytesOf 69=424:=by kernel_rfl
@[go_sem] theorem xV:(tz Tryz.prog 69).length =23:=by kernel_rfl
@[go_sem] theorem xW:(tz Tryz.prog 69).map zAV=[.nils,.int .i64 0,.int .i64 0,.int .i64 0,.nils,.nils,.nils,.nils,.nils,.nils,.nils,.nils,.nils,.nils,.int .i64 0,.int .i64 0,.int .i64 0,.nils,.nils,.nils,.nils,.int .i64 0,.int .i64 0] :=by kernel_rfl
@[go_sem] theorem xX {q}:zDs q (tz Tryz.prog 69)=some [AZ q,.int .i64 0,.int .i64 0,.int .i64 0,AZ q,AZ q,AZ q,AZ q,AZ q,AZ q,AZ q,AZ q,AZ q,AZ q,.int .i64 0,.int .i64 0,.int .i64 0,AZ q,AZ q,AZ q,AZ q,.int .i64 0,.int .i64 0] :=by kernel_rfl
@[go_sem] theorem xY:ti Tryz.prog 75= .st [(0,63),(8,2),(9,2),(10,4),(11,36),(12,2),(13,4)] :=by kernel_rfl
@[go_sem] theorem xZ:tsz Tryz.prog 75=14:=by kernel_rfl
@[go_sem] theorem xa:Tryz.prog.bytesOf 75=208:=by kernel_rfl
@[go_sem] theorem xb:(tz Tryz.prog 75).length =14:=by kernel_rfl
@[go_sem] theorem xc:(tz Tryz.prog 75).map zAV=[.nils,.int .i64 0,.int .i64 0,.int .i64 0,.nils,.nils,.nils,.nils,.int .i64 0,.int .i64 0,.bool false,.nils,.int .i64 0,.bool false] :=by kernel_rfl
@[go_sem] theorem xd {q}:zDs q (tz Tryz.prog 75)=some [AZ q,.int .i64 0,.int .i64 0,.int .i64 0,AZ q,AZ q,AZ q,AZ q,.int .i64 0,.int .i64 0,.bool false,AZ q,.int .i64 0,.bool false] :=by kernel_rfl
@[go_sem] theorem xe:ti Tryz.prog 78= .st [(0,35),(8,2),(9,2),(10,4),(11,36),(12,2),(13,4)] :=by kernel_rfl
@[go_sem] theorem xf:tsz Tryz.prog 78=14:=by kernel_rfl
@[go_sem] theorem xg:Tryz.prog.bytesOf 78=208:=by kernel_rfl
@[go_sem] theorem xh:(tz Tryz.prog 78).length =14:=by kernel_rfl
@[go_sem] theorem xi:(tz Tryz.prog 78).map zAV=[.nils,.int .i64 0,.int .i64 0,.int .i64 0,.nils,.nils,.nils,.nils,.int .i64 0,.int .i64 0,.bool false,.nils,.int .i64 0,.bool false] :=by kernel_rfl
@[go_sem] theorem xj {q}:zDs q (tz Tryz.prog 78)=some [AZ q,.int .i64 0,.int .i64 0,.int .i64 0,AZ q,AZ q,AZ q,AZ q,.int .i64 0,.int .i64 0,.bool false,AZ q,.int .i64 0,.bool false] :=by kernel_rfl
@[go_sem] theorem pq:ti Tryz.prog 121= .sl 254:=by kernel_rfl
@[go_sem] theorem pr:tsz Tryz.prog 121=1:=by kernel_rfl
@[go_sem] theorem pv:Tryz.prog.bytesOf 121=24:=by kernel_rfl
@[go_sem] theorem pw:(tz Tryz.prog 121).length =1:=by kernel_rfl
@[go_sem] theorem px:(tz Tryz.prog 121).map zAV=[.nils] :=by kernel_rfl
@[go_sem] theorem py {q}:zDs q (tz Tryz.prog 121)=some [AZ q] :=by kernel_rfl
@[go_sem] theorem pz:ti Tryz.prog 123= .st [(0,2),(1,2),(2,2),(3,25),(4,121)] :=by kernel_rfl
@[go_sem] theorem p3:tsz Tryz.prog 123=5:=by kernel_rfl
@[go_sem] theorem p4:Tryz.prog.bytesOf 123=72:=by kernel_rfl
@[go_sem] theorem p5:(tz Tryz.prog 123).length =5:=by kernel_rfl
@[go_sem] theorem p6:(tz Tryz.prog 123).map zAV=[.int .i64 0,.int .i64 0,.int .i64 0,.nils,.nils] :=by kernel_rfl
@[go_sem] theorem p7 {q}:zDs q (tz Tryz.prog 123)=some [.int .i64 0,.int .i64 0,.int .i64 0,AZ q,AZ q] :=by kernel_rfl
@[go_sem] theorem p8:ti Tryz.prog 131= .sl 196:=by kernel_rfl
@[go_sem] theorem p9:tsz Tryz.prog 131=1:=by kernel_rfl
@[go_sem] theorem qA:Tryz.prog.bytesOf 131=24:=by kernel_rfl
@[go_sem] theorem qB:(tz Tryz.prog 131).length =1:=by kernel_rfl
@[go_sem] theorem qC:(tz Tryz.prog 131).map zAV=[.nils] :=by kernel_rfl
@[go_sem] theorem qD {q}:zDs q (tz Tryz.prog 131)=some [AZ q] :=by kernel_rfl
@[go_sem] theorem qE:ti Tryz.prog 133= .st [(0,2),(1,2),(2,2),(3,25),(4,131)] :=by kernel_rfl
@[go_sem] theorem qF:tsz Tryz.prog 133=5:=by kernel_rfl
@[go_sem] theorem qG:Tryz.prog.bytesOf 133=72:=by kernel_rfl
@[go_sem] theorem qH:(tz Tryz.prog 133).length =5:=by kernel_rfl
@[go_sem] theorem qI:(tz Tryz.prog 133).map zAV=[.int .i64 0,.int .i64 0,.int .i64 0,.nils,.nils] :=by kernel_rfl
@[go_sem] theorem qJ {q}:zDs q (tz Tryz.prog 133)=some [.int .i64 0,.int .i64 0,.int .i64 0,AZ q,AZ q] :=by kernel_rfl
@[go_sem] theorem qK:ti Tryz.prog 160= .sl 228:=by kernel_rfl
@[go_sem] theorem qL:tsz Tryz.prog 160=1:=by kernel_rfl
@[go_sem] theorem qM:Tryz.prog.bytesOf 160=24:=by kernel_rfl
@[go_sem] theorem qN:(tz Tryz.prog 160).length =1:=by kernel_rfl
@[go_sem] theorem qO:(tz Tryz.prog 160).map zAV=[.nils] :=by kernel_rfl
@[go_sem] theorem qP {q}:zDs q (tz Tryz.prog 160)=some [AZ q] :=by kernel_rfl
@[go_sem] theorem qQ:ti Tryz.prog 163= .sl 184:=by kernel_rfl
@[go_sem] theorem qR:tsz Tryz.prog 163=1:=by kernel_rfl
@[go_sem] theorem qS:Tryz.prog.bytesOf 163=24:=by kernel_rfl
@[go_sem] theorem qT:(tz Tryz.prog 163).length =1:=by kernel_rfl
@[go_sem] theorem qU:(tz Tryz.prog 163).map zAV=[.nils] :=by kernel_rfl
@[go_sem] theorem qV {q}:zDs q (tz Tryz.prog 163)=some [AZ q] :=by kernel_rfl
@[go_sem] theorem qW:ti Tryz.prog 168= .sl 182:=by kernel_rfl
@[go_sem] theorem qX:tsz Tryz.prog 168=1:=by kernel_rfl
@[go_sem] theorem qY:Tryz.prog.bytesOf 168=24:=by kernel_rfl
@[go_sem] theorem qZ:(tz Tryz.prog 168).length =1:=by kernel_rfl
@[go_sem] theorem qa:(tz Tryz.prog 168).map zAV=[.nils] :=by kernel_rfl
@[go_sem] theorem qc {q}:zDs q (tz Tryz.prog 168)=some [AZ q] :=by kernel_rfl
@[go_sem] theorem qd:ti Tryz.prog 169= .sl 252:=by kernel_rfl
@[go_sem] theorem qe:tsz Tryz.prog 169=1:=by kernel_rfl
@[go_sem] theorem qf:Tryz.prog.bytesOf 169=24:=by kernel_rfl
@[go_sem] theorem qg:(tz Tryz.prog 169).length =1:=by kernel_rfl
@[go_sem] theorem qh:(tz Tryz.prog 169).map zAV=[.nils] :=by kernel_rfl
@[go_sem] theorem qi {q}:zDs q (tz Tryz.prog 169)=some [AZ q] :=by kernel_rfl
@[go_sem] theorem qj:ti Tryz.prog 170= .sl 249:=by kernel_rfl
@[go_sem] theorem qk:tsz Tryz.prog 170=1:=by kernel_rfl
@[go_sem] theorem ql:Tryz.prog.bytesOf 170=24:=by kernel_rfl
@[go_sem] theorem qm:(tz Tryz.prog 170).length =1:=by kernel_rfl
@[go_sem] theorem qn:(tz Tryz.prog 170).map zAV=[.nils] :=by kernel_rfl
@[go_sem] theorem qo {q}:zDs q (tz Tryz.prog 170)=some [AZ q] :=by kernel_rfl
@[go_sem] theorem qp:ti Tryz.prog 172= .st [(0,168),(1,169),(2,170)] :=by kernel_rfl
@[go_sem] theorem qq:tsz Tryz.prog 172=3:=by kernel_rfl
@[go_sem] theorem qr:Tryz.prog.bytesOf 172=72:=by kernel_rfl
@[go_sem] theorem qs:(tz Tryz.prog 172).length =3:=by kernel_rfl
@[go_sem] theorem qu:(tz Tryz.prog 172).map zAV=[.nils,.nils,.nils] :=by kernel_rfl
@[go_sem] theorem qv {q}:zDs q (tz Tryz.prog 172)=some [AZ q,AZ q,AZ q] :=by kernel_rfl
@[go_sem] theorem qw:ti Tryz.prog 176= .ptr 47:=by kernel_rfl
@[go_sem] theorem qx:tsz Tryz.prog 176=1:=by kernel_rfl
@[go_sem] theorem qy:Tryz.prog.bytesOf 176=8:=by kernel_rfl
@[go_sem] theorem qz:(tz Tryz.prog 176).length =1:=by kernel_rfl
@[go_sem] theorem q9:(tz Tryz.prog 176).map zAV=[.nilp] :=by kernel_rfl
@[go_sem] theorem rA:ti Tryz.prog 180= .sl 29:=by kernel_rfl
@[go_sem] theorem rB:tsz Tryz.prog 180=1:=by kernel_rfl
@[go_sem] theorem rC:Tryz.prog.bytesOf 180=24:=by kernel_rfl
@[go_sem] theorem rD:(tz Tryz.prog 180).length =1:=by kernel_rfl
@[go_sem] theorem rE:(tz Tryz.prog 180).map zAV=[.nils] :=by kernel_rfl
@[go_sem] theorem rF {q}:zDs q (tz Tryz.prog 180)=some [AZ q] :=by kernel_rfl
@[go_sem] theorem rG:ti Tryz.prog 182= .st [(0,2),(1,2),(2,2),(3,25),(4,180)] :=by kernel_rfl
@[go_sem] theorem rH:tsz Tryz.prog 182=5:=by kernel_rfl
@[go_sem] theorem rI:Tryz.prog.bytesOf 182=72:=by kernel_rfl
@[go_sem] theorem rJ:(tz Tryz.prog 182).length =5:=by kernel_rfl
@[go_sem] theorem rK:(tz Tryz.prog 182).map zAV=[.int .i64 0,.int .i64 0,.int .i64 0,.nils,.nils] :=by kernel_rfl
@[go_sem] theorem rL {q}:zDs q (tz Tryz.prog 182)=some [.int .i64 0,.int .i64 0,.int .i64 0,AZ q,AZ q] :=by kernel_rfl
@[go_sem] theorem rM:ti Tryz.prog 184= .st [(0,2),(1,182),(6,29),(9,29)] :=by kernel_rfl
@[go_sem] theorem rN:tsz Tryz.prog 184=12:=by kernel_rfl
@[go_sem] theorem rO:Tryz.prog.bytesOf 184=128:=by kernel_rfl
@[go_sem] theorem rP:(tz Tryz.prog 184).length =12:=by kernel_rfl
@[go_sem] theorem rQ:(tz Tryz.prog 184).map zAV=[.int .i64 0,.int .i64 0,.int .i64 0,.int .i64 0,.nils,.nils,.int .i64 0,.int .i64 0,.int .i64 0,.int .i64 0,.int .i64 0,.int .i64 0] :=by kernel_rfl
@[go_sem] theorem rR {q}:zDs q (tz Tryz.prog 184)=some [.int .i64 0,.int .i64 0,.int .i64 0,.int .i64 0,AZ q,AZ q,.int .i64 0,.int .i64 0,.int .i64 0,.int .i64 0,.int .i64 0,.int .i64 0] :=by kernel_rfl
@[go_sem] theorem rS:ti Tryz.prog 192= .st [(0,176),(1,25),(2,31),(6,180)] :=by kernel_rfl
@[go_sem] theorem rT:tsz Tryz.prog 192=7:=by kernel_rfl
@[go_sem] theorem rU:Tryz.prog.bytesOf 192=104:=by kernel_rfl
@[go_sem] theorem rV:(tz Tryz.prog 192).length =7:=by kernel_rfl
@[go_sem] theorem rW:(tz Tryz.prog 192).map zAV=[.nilp,.nils,.nils,.int .i64 0,.int .i64 0,.int .i64 0,.nils] :=by kernel_rfl
@[go_sem] theorem rX:ti Tryz.prog 196= .st [(0,2),(1,2)] :=by kernel_rfl
@[go_sem] theorem rY:DV Tryz.prog 196=some [.int .i64,.int .i64] :=by kernel_rfl
@[go_sem] theorem rZ:tsz Tryz.prog 196=2:=by kernel_rfl
@[go_sem] theorem re:Tryz.prog.bytesOf 196=16:=by kernel_rfl
@[go_sem] theorem rf:(tz Tryz.prog 196).length =2:=by kernel_rfl
@[go_sem] theorem rg:(tz Tryz.prog 196).map zAV=[.int .i64 0,.int .i64 0] :=by kernel_rfl
@[go_sem] theorem rh {q}:zDs q (tz Tryz.prog 196)=some [.int .i64 0,.int .i64 0] :=by kernel_rfl
@[go_sem] theorem rj:ti Tryz.prog 212= .sl 283:=by kernel_rfl
@[go_sem] theorem rk:tsz Tryz.prog 212=1:=by kernel_rfl
@[go_sem] theorem rm:Tryz.prog.bytesOf 212=24:=by kernel_rfl
@[go_sem] theorem rn:(tz Tryz.prog 212).length =1:=by kernel_rfl
@[go_sem] theorem rp:(tz Tryz.prog 212).map zAV=[.nils] :=by kernel_rfl
@[go_sem] theorem rq {q}:zDs q (tz Tryz.prog 212)=some [AZ q] :=by kernel_rfl
@[go_sem] theorem ru:ti Tryz.prog 226= .st [(0,29),(3,2),(4,4)] :=by kernel_rfl
@[go_sem] theorem rx:DV Tryz.prog 226=some [.int .i64,.int .i64,.int .i64,.int .i64,.bool] :=by kernel_rfl
@[go_sem] theorem ry:tsz Tryz.prog 226=5:=by kernel_rfl
@[go_sem] theorem rz:Tryz.prog.bytesOf 226=40:=by kernel_rfl
@[go_sem] theorem sA:(tz Tryz.prog 226).length =5:=by kernel_rfl
@[go_sem] theorem sB:(tz Tryz.prog 226).map zAV=[.int .i64 0,.int .i64 0,.int .i64 0,.int .i64 0,.bool false] :=by kernel_rfl
@[go_sem] theorem sC {q}:zDs q (tz Tryz.prog 226)=some [.int .i64 0,.int .i64 0,.int .i64 0,.int .i64 0,.bool false] :=by kernel_rfl
@[go_sem] theorem sD:ti Tryz.prog 228= .st [(0,226),(5,226)] :=by kernel_rfl
@[go_sem] theorem sE:DV Tryz.prog 228=some [.int .i64,.int .i64,.int .i64,.int .i64,.bool,.int .i64,.int .i64,.int .i64,.int .i64,.bool] :=by kernel_rfl
@[go_sem] theorem sF:tsz Tryz.prog 228=10:=by kernel_rfl
@[go_sem] theorem sG:Tryz.prog.bytesOf 228=80:=by kernel_rfl
@[go_sem] theorem sH:(tz Tryz.prog 228).length =10:=by kernel_rfl
@[go_sem] theorem sI:(tz Tryz.prog 228).map zAV=[.int .i64 0,.int .i64 0,.int .i64 0,.int .i64 0,.bool false,.int .i64 0,.int .i64 0,.int .i64 0,.int .i64 0,.bool false] :=by kernel_rfl
@[go_sem] theorem sJ {q}:zDs q (tz Tryz.prog 228)=some [.int .i64 0,.int .i64 0,.int .i64 0,.int .i64 0,.bool false,.int .i64 0,.int .i64 0,.int .i64 0,.int .i64 0,.bool false] :=by kernel_rfl
@[go_sem] theorem sK:ti Tryz.prog 244= .sl 247:=by kernel_rfl
@[go_sem] theorem sL:tsz Tryz.prog 244=1:=by kernel_rfl
@[go_sem] theorem sM:Tryz.prog.bytesOf 244=24:=by kernel_rfl
@[go_sem] theorem sN:(tz Tryz.prog 244).length =1:=by kernel_rfl
@[go_sem] theorem sO:(tz Tryz.prog 244).map zAV=[.nils] :=by kernel_rfl
@[go_sem] theorem sP {q}:zDs q (tz Tryz.prog 244)=some [AZ q] :=by kernel_rfl
@[go_sem] theorem sQ:ti Tryz.prog 247= .st [(0,196),(2,196)] :=by kernel_rfl
@[go_sem] theorem sR:DV Tryz.prog 247=some [.int .i64,.int .i64,.int .i64,.int .i64] :=by kernel_rfl
@[go_sem] theorem sS:tsz Tryz.prog 247=4:=by kernel_rfl
@[go_sem] theorem sT:Tryz.prog.bytesOf 247=32:=by kernel_rfl
@[go_sem] theorem sU:(tz Tryz.prog 247).length =4:=by kernel_rfl
@[go_sem] theorem sV:(tz Tryz.prog 247).map zAV=[.int .i64 0,.int .i64 0,.int .i64 0,.int .i64 0] :=by kernel_rfl
@[go_sem] theorem sW {q}:zDs q (tz Tryz.prog 247)=some [.int .i64 0,.int .i64 0,.int .i64 0,.int .i64 0] :=by kernel_rfl
@[go_sem] theorem sX:ti Tryz.prog 249= .st [(0,29),(3,29)] :=by kernel_rfl
@[go_sem] theorem sY:DV Tryz.prog 249=some [.int .i64,.int .i64,.int .i64,.int .i64,.int .i64,.int .i64] :=by kernel_rfl
@[go_sem] theorem sZ:tsz Tryz.prog 249=6:=by kernel_rfl
@[go_sem] theorem sa:Tryz.prog.bytesOf 249=48:=by kernel_rfl
@[go_sem] theorem sb:(tz Tryz.prog 249).length =6:=by kernel_rfl
@[go_sem] theorem sd:(tz Tryz.prog 249).map zAV=[.int .i64 0,.int .i64 0,.int .i64 0,.int .i64 0,.int .i64 0,.int .i64 0] :=by kernel_rfl
@[go_sem] theorem sf {q}:zDs q (tz Tryz.prog 249)=some [.int .i64 0,.int .i64 0,.int .i64 0,.int .i64 0,.int .i64 0,.int .i64 0] :=by kernel_rfl
@[go_sem] theorem sg:ti Tryz.prog 252= .st [(0,4),(1,4),(2,29)] :=by kernel_rfl
@[go_sem] theorem si:DV Tryz.prog 252=some [.bool,.bool,.int .i64,.int .i64,.int .i64] :=by kernel_rfl
@[go_sem] theorem sj:tsz Tryz.prog 252=5:=by kernel_rfl
@[go_sem] theorem sm:Tryz.prog.bytesOf 252=32:=by kernel_rfl
@[go_sem] theorem sn:(tz Tryz.prog 252).length =5:=by kernel_rfl
@[go_sem] theorem so:(tz Tryz.prog 252).map zAV=[.bool false,.bool false,.int .i64 0,.int .i64 0,.int .i64 0] :=by kernel_rfl
@[go_sem] theorem sp {q}:zDs q (tz Tryz.prog 252)=some [.bool false,.bool false,.int .i64 0,.int .i64 0,.int .i64 0] :=by kernel_rfl
@[go_sem] theorem sr:ti Tryz.prog 254= .st [(0,2),(1,2)] :=by kernel_rfl
@[go_sem] theorem ss:DV Tryz.prog 254=some [.int .i64,.int .i64] :=by kernel_rfl
@[go_sem] theorem su:tsz Tryz.prog 254=2:=by kernel_rfl
@[go_sem] theorem sw:Tryz.prog.bytesOf 254=16:=by kernel_rfl
@[go_sem] theorem sx:(tz Tryz.prog 254).length =2:=by kernel_rfl
@[go_sem] theorem sy:(tz Tryz.prog 254).map zAV=[.int .i64 0,.int .i64 0] :=by kernel_rfl
@[go_sem] theorem s4 {q}:zDs q (tz Tryz.prog 254)=some [.int .i64 0,.int .i64 0] :=by kernel_rfl
@[go_sem] theorem s5:ti Tryz.prog 273= .sl 281:=by kernel_rfl
@[go_sem] theorem s6:tsz Tryz.prog 273=1:=by kernel_rfl
@[go_sem] theorem s7:Tryz.prog.bytesOf 273=24:=by kernel_rfl
@[go_sem] theorem s8:(tz Tryz.prog 273).length =1:=by kernel_rfl
@[go_sem] theorem s9:(tz Tryz.prog 273).map zAV=[.nils] :=by kernel_rfl
@[go_sem] theorem tA {q}:zDs q (tz Tryz.prog 273)=some [AZ q] :=by kernel_rfl
@[go_sem] theorem tB:ti Tryz.prog 274= .sl 338:=by kernel_rfl
@[go_sem] theorem tC:tsz Tryz.prog 274=1:=by kernel_rfl
@[go_sem] theorem tD:Tryz.prog.bytesOf 274=24:=by kernel_rfl
@[go_sem] theorem tE:(tz Tryz.prog 274).length =1:=by kernel_rfl
@[go_sem] theorem tF:(tz Tryz.prog 274).map zAV=[.nils] :=by kernel_rfl
@[go_sem] theorem tG {q}:zDs q (tz Tryz.prog 274)=some [AZ q] :=by kernel_rfl
@[go_sem] theorem tH:ti Tryz.prog 275= .sl 341:=by kernel_rfl
@[go_sem] theorem tI:tsz Tryz.prog 275=1:=by kernel_rfl
@[go_sem] theorem tJ:Tryz.prog.bytesOf 275=24:=by kernel_rfl
@[go_sem] theorem tK:(tz Tryz.prog 275).length =1:=by kernel_rfl
@[go_sem] theorem tL:(tz Tryz.prog 275).map zAV=[.nils] :=by kernel_rfl
@[go_sem] theorem tM {q}:zDs q (tz Tryz.prog 275)=some [AZ q] :=by kernel_rfl
@[go_sem] theorem tN:ti Tryz.prog 277= .st [(0,273),(1,274),(2,275)] :=by kernel_rfl
@[go_sem] theorem tO:tsz Tryz.prog 277=3:=by kernel_rfl
@[go_sem] theorem tP:Tryz.prog.bytesOf 277=72:=by kernel_rfl
@[go_sem] theorem tQ:(tz Tryz.prog 277).length =3:=by kernel_rfl
@[go_sem] theorem tR:(tz Tryz.prog 277).map zAV=[.nils,.nils,.nils] :=by kernel_rfl
@[go_sem] theorem tS {q}:zDs q (tz Tryz.prog 277)=some [AZ q,AZ q,AZ q] :=by kernel_rfl
@[go_sem] theorem tT:ti Tryz.prog 279= .sl 58:=by kernel_rfl
@[go_sem] theorem tU:tsz Tryz.prog 279=1:=by kernel_rfl
@[go_sem] theorem tV:Tryz.prog.bytesOf 279=24:=by kernel_rfl
@[go_sem] theorem tW:(tz Tryz.prog 279).length =1:=by kernel_rfl
@[go_sem] theorem tX:(tz Tryz.prog 279).map zAV=[.nils] :=by kernel_rfl
@[go_sem] theorem tY {q}:zDs q (tz Tryz.prog 279)=some [AZ q] :=by kernel_rfl
@[go_sem] theorem tZ:ti Tryz.prog 281= .st [(0,2),(1,2),(2,2),(3,25),(4,279)] :=by kernel_rfl
@[go_sem] theorem ta:tsz Tryz.prog 281=5:=by kernel_rfl
@[go_sem] theorem tb:Tryz.prog.bytesOf 281=72:=by kernel_rfl
@[go_sem] theorem tc:(tz Tryz.prog 281).length =5:=by kernel_rfl
@[go_sem] theorem tg:(tz Tryz.prog 281).map zAV=[.int .i64 0,.int .i64 0,.int .i64 0,.nils,.nils] :=by kernel_rfl
@[go_sem] theorem tj {q}:zDs q (tz Tryz.prog 281)=some [.int .i64 0,.int .i64 0,.int .i64 0,AZ q,AZ q] :=by kernel_rfl
@[go_sem] theorem tu:ti Tryz.prog 283= .st [(0,2),(1,281),(6,58),(9,58)] :=by kernel_rfl
@[go_sem] theorem tw:tsz Tryz.prog 283=12:=by kernel_rfl
@[go_sem] theorem tx:Tryz.prog.bytesOf 283=128:=by kernel_rfl
@[go_sem] theorem t0:(tz Tryz.prog 283).length =12:=by kernel_rfl
@[go_sem] theorem t4:(tz Tryz.prog 283).map zAV=[.int .i64 0,.int .i64 0,.int .i64 0,.int .i64 0,.nils,.nils,.int .i64 0,.int .i64 0,.int .i64 0,.int .i64 0,.int .i64 0,.int .i64 0] :=by kernel_rfl
@[go_sem] theorem t5 {q}:zDs q (tz Tryz.prog 283)=some [.int .i64 0,.int .i64 0,.int .i64 0,.int .i64 0,AZ q,AZ q,.int .i64 0,.int .i64 0,.int .i64 0,.int .i64 0,.int .i64 0,.int .i64 0] :=by kernel_rfl
@[go_sem] theorem gH:ti Tryz.prog 294= .map 29 3:=by kernel_rfl
@[go_sem] theorem t7:ax Tryz.prog 294=some (.wide [.i64,.i64,.i64]):=by kernel_rfl
@[go_sem] theorem pW:ktOf Tryz.prog 29=some (.wide [.i64,.i64,.i64]):=by kernel_rfl
@[go_sem] theorem zz3:tz1 Tryz.prog 3=some (.int .i64 0):=by kernel_rfl
@[go_sem] theorem xk:zAV (.int .i64 0)= .int .i64 0:=rfl
@[go_sem] theorem t8:tsz Tryz.prog 294=1:=by kernel_rfl
@[go_sem] theorem t9:Tryz.prog.bytesOf 294=8:=by kernel_rfl
@[go_sem] theorem uA:(tz Tryz.prog 294).length =1:=by kernel_rfl
@[go_sem] theorem uB:(tz Tryz.prog 294).map zAV=[.any] :=by kernel_rfl
@[go_sem] theorem uC:ti Tryz.prog 304= .st [(0,45),(1,131),(2,33),(3,33),(4,33),(5,33)] :=by kernel_rfl
@[go_sem] theorem uD:tsz Tryz.prog 304=6:=by kernel_rfl
@[go_sem] theorem uE:Tryz.prog.bytesOf 304=144:=by kernel_rfl
@[go_sem] theorem uF:(tz Tryz.prog 304).length =6:=by kernel_rfl
@[go_sem] theorem uG:(tz Tryz.prog 304).map zAV=[.nils,.nils,.nils,.nils,.nils,.nils] :=by kernel_rfl
@[go_sem] theorem uH {q}:zDs q (tz Tryz.prog 304)=some [AZ q,AZ q,AZ q,AZ q,AZ q,AZ q] :=by kernel_rfl
@[go_sem] theorem uI:ti Tryz.prog 326= .sl 226:=by kernel_rfl
@[go_sem] theorem uJ:tsz Tryz.prog 326=1:=by kernel_rfl
@[go_sem] theorem uK:Tryz.prog.bytesOf 326=24:=by kernel_rfl
@[go_sem] theorem uL:(tz Tryz.prog 326).length =1:=by kernel_rfl
@[go_sem] theorem uM:(tz Tryz.prog 326).map zAV=[.nils] :=by kernel_rfl
@[go_sem] theorem uN {q}:zDs q (tz Tryz.prog 326)=some [AZ q] :=by kernel_rfl
@[go_sem] theorem uO:ti Tryz.prog 338= .st [(0,4),(1,4),(2,58)] :=by kernel_rfl
@[go_sem] theorem uP:DV Tryz.prog 338=some [.bool,.bool,.int .i64,.int .i64,.int .i64] :=by kernel_rfl
@[go_sem] theorem uQ:tsz Tryz.prog 338=5:=by kernel_rfl
@[go_sem] theorem uR:Tryz.prog.bytesOf 338=32:=by kernel_rfl
@[go_sem] theorem uS:(tz Tryz.prog 338).length =5:=by kernel_rfl
@[go_sem] theorem uT:(tz Tryz.prog 338).map zAV=[.bool false,.bool false,.int .i64 0,.int .i64 0,.int .i64 0] :=by kernel_rfl
@[go_sem] theorem uU {q}:zDs q (tz Tryz.prog 338)=some [.bool false,.bool false,.int .i64 0,.int .i64 0,.int .i64 0] :=by kernel_rfl
@[go_sem] theorem uV:ti Tryz.prog 341= .st [(0,58),(3,58)] :=by kernel_rfl
@[go_sem] theorem uW:DV Tryz.prog 341=some [.int .i64,.int .i64,.int .i64,.int .i64,.int .i64,.int .i64] :=by kernel_rfl
@[go_sem] theorem uX:tsz Tryz.prog 341=6:=by kernel_rfl
@[go_sem] theorem uY:Tryz.prog.bytesOf 341=48:=by kernel_rfl
@[go_sem] theorem uZ:(tz Tryz.prog 341).length =6:=by kernel_rfl
@[go_sem] theorem ua:(tz Tryz.prog 341).map zAV=[.int .i64 0,.int .i64 0,.int .i64 0,.int .i64 0,.int .i64 0,.int .i64 0] :=by kernel_rfl
@[go_sem] theorem ub {q}:zDs q (tz Tryz.prog 341)=some [.int .i64 0,.int .i64 0,.int .i64 0,.int .i64 0,.int .i64 0,.int .i64 0] :=by kernel_rfl
@[go_sem] theorem uc:ti Tryz.prog 343= .arr 13 2:=by kernel_rfl
@[go_sem] theorem ud:tsz Tryz.prog 343=13:=by kernel_rfl
@[go_sem] theorem ue:Tryz.prog.bytesOf 343=104:=by kernel_rfl
@[go_sem] theorem uf:(tz Tryz.prog 343).length =13:=by kernel_rfl
@[go_sem] theorem ug:(tz Tryz.prog 343).map zAV=[.int .i64 0,.int .i64 0,.int .i64 0,.int .i64 0,.int .i64 0,.int .i64 0,.int .i64 0,.int .i64 0,.int .i64 0,.int .i64 0,.int .i64 0,.int .i64 0,.int .i64 0] :=by kernel_rfl
@[go_sem] theorem ui {q}:zDs q (tz Tryz.prog 343)=some [.int .i64 0,.int .i64 0,.int .i64 0,.int .i64 0,.int .i64 0,.int .i64 0,.int .i64 0,.int .i64 0,.int .i64 0,.int .i64 0,.int .i64 0,.int .i64 0,.int .i64 0] :=by kernel_rfl
theorem mixed:Tryz.prog.follows .mixedOrders =true:=Tryz.checked.mixed
attribute [go_sem] Nat.reduceAdd Nat.reduceMul reduceIte Nat.reduceEqDiff Nat.reduceLeDiff Nat.reduceLT
end Go.Proofs.YtclmbjbbojdojaaGreat.Ab
