/-
  What the walk asks of each type. Printed by wip/ab/gen_ti.py.
-/
import Derived.Test.YtclmbjbbojdojaaGreatRows
import Derived.Test.YtclmbjbbojdojaaGreatAbC
namespace Go.Proofs.YtclmbjbbojdojaaGreat.Ab
open Go.RowKit
@[go_sem] theorem ti2:ti Tryz.prog 2= .int .i64 :=by kernel_rfl
@[go_sem] theorem sz2:tsz Tryz.prog 2=1:=by kernel_rfl
@[go_sem] theorem by2:Tryz.prog.bytesOf 2=8:=by kernel_rfl
@[go_sem] theorem zl2:(tz Tryz.prog 2).length =1:=by kernel_rfl
@[go_sem] theorem za2:(tz Tryz.prog 2).map zAV=[.int .i64 0] :=by kernel_rfl
@[go_sem] theorem zd2 {q}:zDs q (tz Tryz.prog 2)=some [.int .i64 0] :=by kernel_rfl
@[go_sem] theorem ti3:ti Tryz.prog 3= .int .i64 :=by kernel_rfl
@[go_sem] theorem sz3:tsz Tryz.prog 3=1:=by kernel_rfl
@[go_sem] theorem by3:Tryz.prog.bytesOf 3=8:=by kernel_rfl
@[go_sem] theorem zl3:(tz Tryz.prog 3).length =1:=by kernel_rfl
@[go_sem] theorem za3:(tz Tryz.prog 3).map zAV=[.int .i64 0] :=by kernel_rfl
@[go_sem] theorem zd3 {q}:zDs q (tz Tryz.prog 3)=some [.int .i64 0] :=by kernel_rfl
@[go_sem] theorem ti4:ti Tryz.prog 4= .bool :=by kernel_rfl
@[go_sem] theorem sz4:tsz Tryz.prog 4=1:=by kernel_rfl
@[go_sem] theorem by4:Tryz.prog.bytesOf 4=1:=by kernel_rfl
@[go_sem] theorem zl4:(tz Tryz.prog 4).length =1:=by kernel_rfl
@[go_sem] theorem za4:(tz Tryz.prog 4).map zAV=[.bool false] :=by kernel_rfl
@[go_sem] theorem zd4 {q}:zDs q (tz Tryz.prog 4)=some [.bool false] :=by kernel_rfl
@[go_sem] theorem xX:ti Tryz.prog 25= .sl 2:=by kernel_rfl
@[go_sem] theorem xY:tsz Tryz.prog 25=1:=by kernel_rfl
@[go_sem] theorem xZ:Tryz.prog.bytesOf 25=24:=by kernel_rfl
@[go_sem] theorem xa:(tz Tryz.prog 25).length =1:=by kernel_rfl
@[go_sem] theorem xb:(tz Tryz.prog 25).map zAV=[.nils] :=by kernel_rfl
@[go_sem] theorem xc {q}:zDs q (tz Tryz.prog 25)=some [Bi q] :=by kernel_rfl
@[go_sem] theorem xd:ti Tryz.prog 27= .sl 172:=by kernel_rfl
@[go_sem] theorem xe:tsz Tryz.prog 27=1:=by kernel_rfl
@[go_sem] theorem xf:Tryz.prog.bytesOf 27=24:=by kernel_rfl
@[go_sem] theorem xg:(tz Tryz.prog 27).length =1:=by kernel_rfl
@[go_sem] theorem xh:(tz Tryz.prog 27).map zAV=[.nils] :=by kernel_rfl
@[go_sem] theorem xi {q}:zDs q (tz Tryz.prog 27)=some [Bi q] :=by kernel_rfl
@[go_sem] theorem tH:ti Tryz.prog 29= .st [(0,2),(1,2),(2,2)] :=by kernel_rfl
@[go_sem] theorem xj:Eo Tryz.prog 29=some [.int .i64,.int .i64,.int .i64] :=by kernel_rfl
@[go_sem] theorem pm:tsz Tryz.prog 29=3:=by kernel_rfl
@[go_sem] theorem xk:Tryz.prog.bytesOf 29=24:=by kernel_rfl
@[go_sem] theorem xl:(tz Tryz.prog 29).length =3:=by kernel_rfl
@[go_sem] theorem xm:(tz Tryz.prog 29).map zAV=[.int .i64 0,.int .i64 0,.int .i64 0] :=by kernel_rfl
@[go_sem] theorem xn {q}:zDs q (tz Tryz.prog 29)=some [.int .i64 0,.int .i64 0,.int .i64 0] :=by kernel_rfl
@[go_sem] theorem xo:ti Tryz.prog 31= .st [(0,27),(1,29)] :=by kernel_rfl
@[go_sem] theorem xp:tsz Tryz.prog 31=4:=by kernel_rfl
@[go_sem] theorem xq:Tryz.prog.bytesOf 31=48:=by kernel_rfl
@[go_sem] theorem xt:(tz Tryz.prog 31).length =4:=by kernel_rfl
@[go_sem] theorem xu:(tz Tryz.prog 31).map zAV=[.nils,.int .i64 0,.int .i64 0,.int .i64 0] :=by kernel_rfl
@[go_sem] theorem xw {q}:zDs q (tz Tryz.prog 31)=some [Bi q,.int .i64 0,.int .i64 0,.int .i64 0] :=by kernel_rfl
@[go_sem] theorem xx:ti Tryz.prog 32= .sl 163:=by kernel_rfl
@[go_sem] theorem xy:tsz Tryz.prog 32=1:=by kernel_rfl
@[go_sem] theorem xz:Tryz.prog.bytesOf 32=24:=by kernel_rfl
@[go_sem] theorem yA:(tz Tryz.prog 32).length =1:=by kernel_rfl
@[go_sem] theorem yB:(tz Tryz.prog 32).map zAV=[.nils] :=by kernel_rfl
@[go_sem] theorem yC {q}:zDs q (tz Tryz.prog 32)=some [Bi q] :=by kernel_rfl
@[go_sem] theorem yD:ti Tryz.prog 33= .sl 25:=by kernel_rfl
@[go_sem] theorem yE:tsz Tryz.prog 33=1:=by kernel_rfl
@[go_sem] theorem yF:Tryz.prog.bytesOf 33=24:=by kernel_rfl
@[go_sem] theorem yG:(tz Tryz.prog 33).length =1:=by kernel_rfl
@[go_sem] theorem yH:(tz Tryz.prog 33).map zAV=[.nils] :=by kernel_rfl
@[go_sem] theorem yI {q}:zDs q (tz Tryz.prog 33)=some [Bi q] :=by kernel_rfl
@[go_sem] theorem yJ:ti Tryz.prog 35= .st [(0,31),(4,32),(5,33),(6,25),(7,25)] :=by kernel_rfl
@[go_sem] theorem yK:tsz Tryz.prog 35=8:=by kernel_rfl
@[go_sem] theorem yL:Tryz.prog.bytesOf 35=144:=by kernel_rfl
@[go_sem] theorem yM:(tz Tryz.prog 35).length =8:=by kernel_rfl
@[go_sem] theorem yN:(tz Tryz.prog 35).map zAV=[.nils,.int .i64 0,.int .i64 0,.int .i64 0,.nils,.nils,.nils,.nils] :=by kernel_rfl
@[go_sem] theorem yO {q}:zDs q (tz Tryz.prog 35)=some [Bi q,.int .i64 0,.int .i64 0,.int .i64 0,Bi q,Bi q,Bi q,Bi q] :=by kernel_rfl
@[go_sem] theorem yP:ti Tryz.prog 36= .sl 4:=by kernel_rfl
@[go_sem] theorem yQ:tsz Tryz.prog 36=1:=by kernel_rfl
@[go_sem] theorem yR:Tryz.prog.bytesOf 36=24:=by kernel_rfl
@[go_sem] theorem yS:(tz Tryz.prog 36).length =1:=by kernel_rfl
@[go_sem] theorem yT:(tz Tryz.prog 36).map zAV=[.nils] :=by kernel_rfl
@[go_sem] theorem yU {q}:zDs q (tz Tryz.prog 36)=some [Bi q] :=by kernel_rfl
@[go_sem] theorem yV:ti Tryz.prog 45= .sl 133:=by kernel_rfl
@[go_sem] theorem yW:tsz Tryz.prog 45=1:=by kernel_rfl
@[go_sem] theorem yX:Tryz.prog.bytesOf 45=24:=by kernel_rfl
@[go_sem] theorem yY:(tz Tryz.prog 45).length =1:=by kernel_rfl
@[go_sem] theorem yZ:(tz Tryz.prog 45).map zAV=[.nils] :=by kernel_rfl
@[go_sem] theorem ya {q}:zDs q (tz Tryz.prog 45)=some [Bi q] :=by kernel_rfl
@[go_sem] theorem yb:ti Tryz.prog 57= .sl 277:=by kernel_rfl
@[go_sem] theorem yc:tsz Tryz.prog 57=1:=by kernel_rfl
@[go_sem] theorem yd:Tryz.prog.bytesOf 57=24:=by kernel_rfl
@[go_sem] theorem ye:(tz Tryz.prog 57).length =1:=by kernel_rfl
@[go_sem] theorem yf:(tz Tryz.prog 57).map zAV=[.nils] :=by kernel_rfl
@[go_sem] theorem yg {q}:zDs q (tz Tryz.prog 57)=some [Bi q] :=by kernel_rfl
@[go_sem] theorem yh:ti Tryz.prog 58= .st [(0,2),(1,2),(2,2)] :=by kernel_rfl
@[go_sem] theorem yi:Eo Tryz.prog 58=some [.int .i64,.int .i64,.int .i64] :=by kernel_rfl
@[go_sem] theorem yj:tsz Tryz.prog 58=3:=by kernel_rfl
@[go_sem] theorem yk:Tryz.prog.bytesOf 58=24:=by kernel_rfl
@[go_sem] theorem ym:(tz Tryz.prog 58).length =3:=by kernel_rfl
@[go_sem] theorem yn:(tz Tryz.prog 58).map zAV=[.int .i64 0,.int .i64 0,.int .i64 0] :=by kernel_rfl
@[go_sem] theorem yo {q}:zDs q (tz Tryz.prog 58)=some [.int .i64 0,.int .i64 0,.int .i64 0] :=by kernel_rfl
@[go_sem] theorem yp:ti Tryz.prog 60= .st [(0,57),(1,58)] :=by kernel_rfl
@[go_sem] theorem yq:tsz Tryz.prog 60=4:=by kernel_rfl
@[go_sem] theorem yr:Tryz.prog.bytesOf 60=48:=by kernel_rfl
@[go_sem] theorem yu:(tz Tryz.prog 60).length =4:=by kernel_rfl
@[go_sem] theorem yw:(tz Tryz.prog 60).map zAV=[.nils,.int .i64 0,.int .i64 0,.int .i64 0] :=by kernel_rfl
@[go_sem] theorem yx {q}:zDs q (tz Tryz.prog 60)=some [Bi q,.int .i64 0,.int .i64 0,.int .i64 0] :=by kernel_rfl
@[go_sem] theorem yy:ti Tryz.prog 61= .sl 212:=by kernel_rfl
@[go_sem] theorem yz:tsz Tryz.prog 61=1:=by kernel_rfl
@[go_sem] theorem y1:Tryz.prog.bytesOf 61=24:=by kernel_rfl
@[go_sem] theorem y2:(tz Tryz.prog 61).length =1:=by kernel_rfl
@[go_sem] theorem y3:(tz Tryz.prog 61).map zAV=[.nils] :=by kernel_rfl
@[go_sem] theorem y4 {q}:zDs q (tz Tryz.prog 61)=some [Bi q] :=by kernel_rfl
@[go_sem] theorem y5:ti Tryz.prog 63= .st [(0,60),(4,61),(5,33),(6,25),(7,25)] :=by kernel_rfl
@[go_sem] theorem y6:tsz Tryz.prog 63=8:=by kernel_rfl
@[go_sem] theorem y7:Tryz.prog.bytesOf 63=144:=by kernel_rfl
@[go_sem] theorem y8:(tz Tryz.prog 63).length =8:=by kernel_rfl
@[go_sem] theorem y9:(tz Tryz.prog 63).map zAV=[.nils,.int .i64 0,.int .i64 0,.int .i64 0,.nils,.nils,.nils,.nils] :=by kernel_rfl
@[go_sem] theorem zA {q}:zDs q (tz Tryz.prog 63)=some [Bi q,.int .i64 0,.int .i64 0,.int .i64 0,Bi q,Bi q,Bi q,Bi q] :=by kernel_rfl
@[go_sem] theorem zB:ti Tryz.prog 75= .st [(0,63),(8,2),(9,2),(10,4),(11,36),(12,2),(13,4)] :=by kernel_rfl
@[go_sem] theorem zC:tsz Tryz.prog 75=14:=by kernel_rfl
@[go_sem] theorem zE:Tryz.prog.bytesOf 75=208:=by kernel_rfl
@[go_sem] theorem zF:(tz Tryz.prog 75).length =14:=by kernel_rfl
@[go_sem] theorem zG:(tz Tryz.prog 75).map zAV=[.nils,.int .i64 0,.int .i64 0,.int .i64 0,.nils,.nils,.nils,.nils,.int .i64 0,.int .i64 0,.bool false,.nils,.int .i64 0,.bool false] :=by kernel_rfl
@[go_sem] theorem zH {q}:zDs q (tz Tryz.prog 75)=some [Bi q,.int .i64 0,.int .i64 0,.int .i64 0,Bi q,Bi q,Bi q,Bi q,.int .i64 0,.int .i64 0,.bool false,Bi q,.int .i64 0,.bool false] :=by kernel_rfl
@[go_sem] theorem zI:ti Tryz.prog 78= .st [(0,35),(8,2),(9,2),(10,4),(11,36),(12,2),(13,4)] :=by kernel_rfl
@[go_sem] theorem zJ:tsz Tryz.prog 78=14:=by kernel_rfl
@[go_sem] theorem zK:Tryz.prog.bytesOf 78=208:=by kernel_rfl
@[go_sem] theorem zL:(tz Tryz.prog 78).length =14:=by kernel_rfl
@[go_sem] theorem zM:(tz Tryz.prog 78).map zAV=[.nils,.int .i64 0,.int .i64 0,.int .i64 0,.nils,.nils,.nils,.nils,.int .i64 0,.int .i64 0,.bool false,.nils,.int .i64 0,.bool false] :=by kernel_rfl
@[go_sem] theorem zN {q}:zDs q (tz Tryz.prog 78)=some [Bi q,.int .i64 0,.int .i64 0,.int .i64 0,Bi q,Bi q,Bi q,Bi q,.int .i64 0,.int .i64 0,.bool false,Bi q,.int .i64 0,.bool false] :=by kernel_rfl
@[go_sem] theorem tX:ti Tryz.prog 131= .sl 196:=by kernel_rfl
@[go_sem] theorem tY:tsz Tryz.prog 131=1:=by kernel_rfl
@[go_sem] theorem tZ:Tryz.prog.bytesOf 131=24:=by kernel_rfl
@[go_sem] theorem ta:(tz Tryz.prog 131).length =1:=by kernel_rfl
@[go_sem] theorem tc:(tz Tryz.prog 131).map zAV=[.nils] :=by kernel_rfl
@[go_sem] theorem tg {q}:zDs q (tz Tryz.prog 131)=some [Bi q] :=by kernel_rfl
@[go_sem] theorem tj:ti Tryz.prog 133= .st [(0,2),(1,2),(2,2),(3,25),(4,131)] :=by kernel_rfl
@[go_sem] theorem tt:tsz Tryz.prog 133=5:=by kernel_rfl
@[go_sem] theorem tu:Tryz.prog.bytesOf 133=72:=by kernel_rfl
@[go_sem] theorem tw:(tz Tryz.prog 133).length =5:=by kernel_rfl
@[go_sem] theorem tx:(tz Tryz.prog 133).map zAV=[.int .i64 0,.int .i64 0,.int .i64 0,.nils,.nils] :=by kernel_rfl
@[go_sem] theorem t0 {q}:zDs q (tz Tryz.prog 133)=some [.int .i64 0,.int .i64 0,.int .i64 0,Bi q,Bi q] :=by kernel_rfl
@[go_sem] theorem t4:ti Tryz.prog 160= .sl 228:=by kernel_rfl
@[go_sem] theorem t5:tsz Tryz.prog 160=1:=by kernel_rfl
@[go_sem] theorem t6:Tryz.prog.bytesOf 160=24:=by kernel_rfl
@[go_sem] theorem t7:(tz Tryz.prog 160).length =1:=by kernel_rfl
@[go_sem] theorem t8:(tz Tryz.prog 160).map zAV=[.nils] :=by kernel_rfl
@[go_sem] theorem t9 {q}:zDs q (tz Tryz.prog 160)=some [Bi q] :=by kernel_rfl
@[go_sem] theorem uA:ti Tryz.prog 163= .sl 184:=by kernel_rfl
@[go_sem] theorem uB:tsz Tryz.prog 163=1:=by kernel_rfl
@[go_sem] theorem uC:Tryz.prog.bytesOf 163=24:=by kernel_rfl
@[go_sem] theorem uD:(tz Tryz.prog 163).length =1:=by kernel_rfl
@[go_sem] theorem uE:(tz Tryz.prog 163).map zAV=[.nils] :=by kernel_rfl
@[go_sem] theorem uF {q}:zDs q (tz Tryz.prog 163)=some [Bi q] :=by kernel_rfl
@[go_sem] theorem uG:ti Tryz.prog 168= .sl 182:=by kernel_rfl
@[go_sem] theorem uH:tsz Tryz.prog 168=1:=by kernel_rfl
@[go_sem] theorem uI:Tryz.prog.bytesOf 168=24:=by kernel_rfl
@[go_sem] theorem uJ:(tz Tryz.prog 168).length =1:=by kernel_rfl
@[go_sem] theorem uK:(tz Tryz.prog 168).map zAV=[.nils] :=by kernel_rfl
@[go_sem] theorem uL {q}:zDs q (tz Tryz.prog 168)=some [Bi q] :=by kernel_rfl
@[go_sem] theorem uM:ti Tryz.prog 169= .sl 252:=by kernel_rfl
@[go_sem] theorem uN:tsz Tryz.prog 169=1:=by kernel_rfl
@[go_sem] theorem uO:Tryz.prog.bytesOf 169=24:=by kernel_rfl
@[go_sem] theorem uP:(tz Tryz.prog 169).length =1:=by kernel_rfl
@[go_sem] theorem uQ:(tz Tryz.prog 169).map zAV=[.nils] :=by kernel_rfl
@[go_sem] theorem uR {q}:zDs q (tz Tryz.prog 169)=some [Bi q] :=by kernel_rfl
@[go_sem] theorem uS:ti Tryz.prog 170= .sl 249:=by kernel_rfl
@[go_sem] theorem uT:tsz Tryz.prog 170=1:=by kernel_rfl
@[go_sem] theorem uU:Tryz.prog.bytesOf 170=24:=by kernel_rfl
@[go_sem] theorem uV:(tz Tryz.prog 170).length =1:=by kernel_rfl
@[go_sem] theorem uW:(tz Tryz.prog 170).map zAV=[.nils] :=by kernel_rfl
@[go_sem] theorem uX {q}:zDs q (tz Tryz.prog 170)=some [Bi q] :=by kernel_rfl
@[go_sem] theorem uY:ti Tryz.prog 172= .st [(0,168),(1,169),(2,170)] :=by kernel_rfl
@[go_sem] theorem uZ:tsz Tryz.prog 172=3:=by kernel_rfl
@[go_sem] theorem ua:Tryz.prog.bytesOf 172=72:=by kernel_rfl
@[go_sem] theorem ub:(tz Tryz.prog 172).length =3:=by kernel_rfl
@[go_sem] theorem uc:(tz Tryz.prog 172).map zAV=[.nils,.nils,.nils] :=by kernel_rfl
@[go_sem] theorem ud {q}:zDs q (tz Tryz.prog 172)=some [Bi q,Bi q,Bi q] :=by kernel_rfl
@[go_sem] theorem ue:ti Tryz.prog 180= .sl 29:=by kernel_rfl
@[go_sem] theorem uf:tsz Tryz.prog 180=1:=by kernel_rfl
@[go_sem] theorem ug:Tryz.prog.bytesOf 180=24:=by kernel_rfl
@[go_sem] theorem ui:(tz Tryz.prog 180).length =1:=by kernel_rfl
@[go_sem] theorem uj:(tz Tryz.prog 180).map zAV=[.nils] :=by kernel_rfl
@[go_sem] theorem uk {q}:zDs q (tz Tryz.prog 180)=some [Bi q] :=by kernel_rfl
@[go_sem] theorem um:ti Tryz.prog 182= .st [(0,2),(1,2),(2,2),(3,25),(4,180)] :=by kernel_rfl
@[go_sem] theorem uo:tsz Tryz.prog 182=5:=by kernel_rfl
@[go_sem] theorem up:Tryz.prog.bytesOf 182=72:=by kernel_rfl
@[go_sem] theorem uq:(tz Tryz.prog 182).length =5:=by kernel_rfl
@[go_sem] theorem ur:(tz Tryz.prog 182).map zAV=[.int .i64 0,.int .i64 0,.int .i64 0,.nils,.nils] :=by kernel_rfl
@[go_sem] theorem ut {q}:zDs q (tz Tryz.prog 182)=some [.int .i64 0,.int .i64 0,.int .i64 0,Bi q,Bi q] :=by kernel_rfl
@[go_sem] theorem uu:ti Tryz.prog 184= .st [(0,2),(1,182),(6,29),(9,29)] :=by kernel_rfl
@[go_sem] theorem uv:tsz Tryz.prog 184=12:=by kernel_rfl
@[go_sem] theorem uw:Tryz.prog.bytesOf 184=128:=by kernel_rfl
@[go_sem] theorem ux:(tz Tryz.prog 184).length =12:=by kernel_rfl
@[go_sem] theorem uy:(tz Tryz.prog 184).map zAV=[.int .i64 0,.int .i64 0,.int .i64 0,.int .i64 0,.nils,.nils,.int .i64 0,.int .i64 0,.int .i64 0,.int .i64 0,.int .i64 0,.int .i64 0] :=by kernel_rfl
@[go_sem] theorem uz {q}:zDs q (tz Tryz.prog 184)=some [.int .i64 0,.int .i64 0,.int .i64 0,.int .i64 0,Bi q,Bi q,.int .i64 0,.int .i64 0,.int .i64 0,.int .i64 0,.int .i64 0,.int .i64 0] :=by kernel_rfl
@[go_sem] theorem vA:ti Tryz.prog 196= .st [(0,2),(1,2)] :=by kernel_rfl
@[go_sem] theorem vB:Eo Tryz.prog 196=some [.int .i64,.int .i64] :=by kernel_rfl
@[go_sem] theorem vC:tsz Tryz.prog 196=2:=by kernel_rfl
@[go_sem] theorem vD:Tryz.prog.bytesOf 196=16:=by kernel_rfl
@[go_sem] theorem vE:(tz Tryz.prog 196).length =2:=by kernel_rfl
@[go_sem] theorem vF:(tz Tryz.prog 196).map zAV=[.int .i64 0,.int .i64 0] :=by kernel_rfl
@[go_sem] theorem vG {q}:zDs q (tz Tryz.prog 196)=some [.int .i64 0,.int .i64 0] :=by kernel_rfl
@[go_sem] theorem vH:ti Tryz.prog 212= .sl 283:=by kernel_rfl
@[go_sem] theorem vI:tsz Tryz.prog 212=1:=by kernel_rfl
@[go_sem] theorem vJ:Tryz.prog.bytesOf 212=24:=by kernel_rfl
@[go_sem] theorem vK:(tz Tryz.prog 212).length =1:=by kernel_rfl
@[go_sem] theorem vL:(tz Tryz.prog 212).map zAV=[.nils] :=by kernel_rfl
@[go_sem] theorem vM {q}:zDs q (tz Tryz.prog 212)=some [Bi q] :=by kernel_rfl
@[go_sem] theorem vN:ti Tryz.prog 226= .st [(0,29),(3,2),(4,4)] :=by kernel_rfl
@[go_sem] theorem vO:Eo Tryz.prog 226=some [.int .i64,.int .i64,.int .i64,.int .i64,.bool] :=by kernel_rfl
@[go_sem] theorem vP:tsz Tryz.prog 226=5:=by kernel_rfl
@[go_sem] theorem vQ:Tryz.prog.bytesOf 226=40:=by kernel_rfl
@[go_sem] theorem vR:(tz Tryz.prog 226).length =5:=by kernel_rfl
@[go_sem] theorem vS:(tz Tryz.prog 226).map zAV=[.int .i64 0,.int .i64 0,.int .i64 0,.int .i64 0,.bool false] :=by kernel_rfl
@[go_sem] theorem vT {q}:zDs q (tz Tryz.prog 226)=some [.int .i64 0,.int .i64 0,.int .i64 0,.int .i64 0,.bool false] :=by kernel_rfl
@[go_sem] theorem vU:ti Tryz.prog 228= .st [(0,226),(5,226)] :=by kernel_rfl
@[go_sem] theorem vV:Eo Tryz.prog 228=some [.int .i64,.int .i64,.int .i64,.int .i64,.bool,.int .i64,.int .i64,.int .i64,.int .i64,.bool] :=by kernel_rfl
@[go_sem] theorem vW:tsz Tryz.prog 228=10:=by kernel_rfl
@[go_sem] theorem vX:Tryz.prog.bytesOf 228=80:=by kernel_rfl
@[go_sem] theorem vY:(tz Tryz.prog 228).length =10:=by kernel_rfl
@[go_sem] theorem vZ:(tz Tryz.prog 228).map zAV=[.int .i64 0,.int .i64 0,.int .i64 0,.int .i64 0,.bool false,.int .i64 0,.int .i64 0,.int .i64 0,.int .i64 0,.bool false] :=by kernel_rfl
@[go_sem] theorem va {q}:zDs q (tz Tryz.prog 228)=some [.int .i64 0,.int .i64 0,.int .i64 0,.int .i64 0,.bool false,.int .i64 0,.int .i64 0,.int .i64 0,.int .i64 0,.bool false] :=by kernel_rfl
@[go_sem] theorem vc:ti Tryz.prog 249= .st [(0,29),(3,29)] :=by kernel_rfl
@[go_sem] theorem vd:Eo Tryz.prog 249=some [.int .i64,.int .i64,.int .i64,.int .i64,.int .i64,.int .i64] :=by kernel_rfl
@[go_sem] theorem ve:tsz Tryz.prog 249=6:=by kernel_rfl
@[go_sem] theorem vf:Tryz.prog.bytesOf 249=48:=by kernel_rfl
@[go_sem] theorem vg:(tz Tryz.prog 249).length =6:=by kernel_rfl
@[go_sem] theorem vh:(tz Tryz.prog 249).map zAV=[.int .i64 0,.int .i64 0,.int .i64 0,.int .i64 0,.int .i64 0,.int .i64 0] :=by kernel_rfl
@[go_sem] theorem vi {q}:zDs q (tz Tryz.prog 249)=some [.int .i64 0,.int .i64 0,.int .i64 0,.int .i64 0,.int .i64 0,.int .i64 0] :=by kernel_rfl
@[go_sem] theorem vj:ti Tryz.prog 252= .st [(0,4),(1,4),(2,29)] :=by kernel_rfl
@[go_sem] theorem vk:Eo Tryz.prog 252=some [.bool,.bool,.int .i64,.int .i64,.int .i64] :=by kernel_rfl
@[go_sem] theorem vm:tsz Tryz.prog 252=5:=by kernel_rfl
@[go_sem] theorem vo:Tryz.prog.bytesOf 252=32:=by kernel_rfl
@[go_sem] theorem vq:(tz Tryz.prog 252).length =5:=by kernel_rfl
@[go_sem] theorem vt:(tz Tryz.prog 252).map zAV=[.bool false,.bool false,.int .i64 0,.int .i64 0,.int .i64 0] :=by kernel_rfl
@[go_sem] theorem vu {q}:zDs q (tz Tryz.prog 252)=some [.bool false,.bool false,.int .i64 0,.int .i64 0,.int .i64 0] :=by kernel_rfl
@[go_sem] theorem vv:ti Tryz.prog 273= .sl 281:=by kernel_rfl
@[go_sem] theorem vx:tsz Tryz.prog 273=1:=by kernel_rfl
@[go_sem] theorem vy:Tryz.prog.bytesOf 273=24:=by kernel_rfl
@[go_sem] theorem vz:(tz Tryz.prog 273).length =1:=by kernel_rfl
@[go_sem] theorem v4:(tz Tryz.prog 273).map zAV=[.nils] :=by kernel_rfl
@[go_sem] theorem v5 {q}:zDs q (tz Tryz.prog 273)=some [Bi q] :=by kernel_rfl
@[go_sem] theorem v6:ti Tryz.prog 274= .sl 338:=by kernel_rfl
@[go_sem] theorem v8:tsz Tryz.prog 274=1:=by kernel_rfl
@[go_sem] theorem v9:Tryz.prog.bytesOf 274=24:=by kernel_rfl
@[go_sem] theorem wA:(tz Tryz.prog 274).length =1:=by kernel_rfl
@[go_sem] theorem wB:(tz Tryz.prog 274).map zAV=[.nils] :=by kernel_rfl
@[go_sem] theorem wC {q}:zDs q (tz Tryz.prog 274)=some [Bi q] :=by kernel_rfl
@[go_sem] theorem wD:ti Tryz.prog 275= .sl 341:=by kernel_rfl
@[go_sem] theorem wE:tsz Tryz.prog 275=1:=by kernel_rfl
@[go_sem] theorem wF:Tryz.prog.bytesOf 275=24:=by kernel_rfl
@[go_sem] theorem wG:(tz Tryz.prog 275).length =1:=by kernel_rfl
@[go_sem] theorem wH:(tz Tryz.prog 275).map zAV=[.nils] :=by kernel_rfl
@[go_sem] theorem wI {q}:zDs q (tz Tryz.prog 275)=some [Bi q] :=by kernel_rfl
@[go_sem] theorem wJ:ti Tryz.prog 277= .st [(0,273),(1,274),(2,275)] :=by kernel_rfl
@[go_sem] theorem wK:tsz Tryz.prog 277=3:=by kernel_rfl
@[go_sem] theorem wM:Tryz.prog.bytesOf 277=72:=by kernel_rfl
@[go_sem] theorem wN:(tz Tryz.prog 277).length =3:=by kernel_rfl
@[go_sem] theorem wO:(tz Tryz.prog 277).map zAV=[.nils,.nils,.nils] :=by kernel_rfl
@[go_sem] theorem wP {q}:zDs q (tz Tryz.prog 277)=some [Bi q,Bi q,Bi q] :=by kernel_rfl
@[go_sem] theorem wQ:ti Tryz.prog 279= .sl 58:=by kernel_rfl
@[go_sem] theorem wR:tsz Tryz.prog 279=1:=by kernel_rfl
@[go_sem] theorem wS:Tryz.prog.bytesOf 279=24:=by kernel_rfl
@[go_sem] theorem wT:(tz Tryz.prog 279).length =1:=by kernel_rfl
@[go_sem] theorem wU:(tz Tryz.prog 279).map zAV=[.nils] :=by kernel_rfl
@[go_sem] theorem wV {q}:zDs q (tz Tryz.prog 279)=some [Bi q] :=by kernel_rfl
@[go_sem] theorem wW:ti Tryz.prog 281= .st [(0,2),(1,2),(2,2),(3,25),(4,279)] :=by kernel_rfl
@[go_sem] theorem wX:tsz Tryz.prog 281=5:=by kernel_rfl
@[go_sem] theorem wY:Tryz.prog.bytesOf 281=72:=by kernel_rfl
@[go_sem] theorem wZ:(tz Tryz.prog 281).length =5:=by kernel_rfl
@[go_sem] theorem wa:(tz Tryz.prog 281).map zAV=[.int .i64 0,.int .i64 0,.int .i64 0,.nils,.nils] :=by kernel_rfl
@[go_sem] theorem wb {q}:zDs q (tz Tryz.prog 281)=some [.int .i64 0,.int .i64 0,.int .i64 0,Bi q,Bi q] :=by kernel_rfl
@[go_sem] theorem wc:ti Tryz.prog 283= .st [(0,2),(1,281),(6,58),(9,58)] :=by kernel_rfl
@[go_sem] theorem wd:tsz Tryz.prog 283=12:=by kernel_rfl
@[go_sem] theorem wg:Tryz.prog.bytesOf 283=128:=by kernel_rfl
@[go_sem] theorem wi:(tz Tryz.prog 283).length =12:=by kernel_rfl
@[go_sem] theorem wj:(tz Tryz.prog 283).map zAV=[.int .i64 0,.int .i64 0,.int .i64 0,.int .i64 0,.nils,.nils,.int .i64 0,.int .i64 0,.int .i64 0,.int .i64 0,.int .i64 0,.int .i64 0] :=by kernel_rfl
@[go_sem] theorem wl {q}:zDs q (tz Tryz.prog 283)=some [.int .i64 0,.int .i64 0,.int .i64 0,.int .i64 0,Bi q,Bi q,.int .i64 0,.int .i64 0,.int .i64 0,.int .i64 0,.int .i64 0,.int .i64 0] :=by kernel_rfl
@[go_sem] theorem kI:ti Tryz.prog 294= .map 29 3:=by kernel_rfl
@[go_sem] theorem wm:eQ Tryz.prog 294=some (.wide [.i64,.i64,.i64]):=by kernel_rfl
@[go_sem] theorem tI:ktOf Tryz.prog 29=some (.wide [.i64,.i64,.i64]):=by kernel_rfl
@[go_sem] theorem zz3:tz1 Tryz.prog 3=some (.int .i64 0):=by kernel_rfl
@[go_sem] theorem zO:zAV (.int .i64 0)= .int .i64 0:=rfl
@[go_sem] theorem wn:tsz Tryz.prog 294=1:=by kernel_rfl
@[go_sem] theorem wo:Tryz.prog.bytesOf 294=8:=by kernel_rfl
@[go_sem] theorem wq:(tz Tryz.prog 294).length =1:=by kernel_rfl
@[go_sem] theorem wt:(tz Tryz.prog 294).map zAV=[.any] :=by kernel_rfl
@[go_sem] theorem wu:ti Tryz.prog 304= .st [(0,45),(1,131),(2,33),(3,33),(4,33),(5,33)] :=by kernel_rfl
@[go_sem] theorem wv:tsz Tryz.prog 304=6:=by kernel_rfl
@[go_sem] theorem ww:Tryz.prog.bytesOf 304=144:=by kernel_rfl
@[go_sem] theorem wx:(tz Tryz.prog 304).length =6:=by kernel_rfl
@[go_sem] theorem wy:(tz Tryz.prog 304).map zAV=[.nils,.nils,.nils,.nils,.nils,.nils] :=by kernel_rfl
@[go_sem] theorem wz {q}:zDs q (tz Tryz.prog 304)=some [Bi q,Bi q,Bi q,Bi q,Bi q,Bi q] :=by kernel_rfl
@[go_sem] theorem w7:ti Tryz.prog 326= .sl 226:=by kernel_rfl
@[go_sem] theorem w8:tsz Tryz.prog 326=1:=by kernel_rfl
@[go_sem] theorem w9:Tryz.prog.bytesOf 326=24:=by kernel_rfl
@[go_sem] theorem xA:(tz Tryz.prog 326).length =1:=by kernel_rfl
@[go_sem] theorem xB:(tz Tryz.prog 326).map zAV=[.nils] :=by kernel_rfl
@[go_sem] theorem xC {q}:zDs q (tz Tryz.prog 326)=some [Bi q] :=by kernel_rfl
@[go_sem] theorem xD:ti Tryz.prog 338= .st [(0,4),(1,4),(2,58)] :=by kernel_rfl
@[go_sem] theorem xE:Eo Tryz.prog 338=some [.bool,.bool,.int .i64,.int .i64,.int .i64] :=by kernel_rfl
@[go_sem] theorem xF:tsz Tryz.prog 338=5:=by kernel_rfl
@[go_sem] theorem xG:Tryz.prog.bytesOf 338=32:=by kernel_rfl
@[go_sem] theorem xH:(tz Tryz.prog 338).length =5:=by kernel_rfl
@[go_sem] theorem xI:(tz Tryz.prog 338).map zAV=[.bool false,.bool false,.int .i64 0,.int .i64 0,.int .i64 0] :=by kernel_rfl
@[go_sem] theorem xJ {q}:zDs q (tz Tryz.prog 338)=some [.bool false,.bool false,.int .i64 0,.int .i64 0,.int .i64 0] :=by kernel_rfl
@[go_sem] theorem xK:ti Tryz.prog 341= .st [(0,58),(3,58)] :=by kernel_rfl
@[go_sem] theorem xL:Eo Tryz.prog 341=some [.int .i64,.int .i64,.int .i64,.int .i64,.int .i64,.int .i64] :=by kernel_rfl
@[go_sem] theorem xM:tsz Tryz.prog 341=6:=by kernel_rfl
@[go_sem] theorem xN:Tryz.prog.bytesOf 341=48:=by kernel_rfl
@[go_sem] theorem xO:(tz Tryz.prog 341).length =6:=by kernel_rfl
@[go_sem] theorem xP:(tz Tryz.prog 341).map zAV=[.int .i64 0,.int .i64 0,.int .i64 0,.int .i64 0,.int .i64 0,.int .i64 0] :=by kernel_rfl
@[go_sem] theorem xQ {q}:zDs q (tz Tryz.prog 341)=some [.int .i64 0,.int .i64 0,.int .i64 0,.int .i64 0,.int .i64 0,.int .i64 0] :=by kernel_rfl
@[go_sem] theorem xR:ti Tryz.prog 343= .arr 13 2:=by kernel_rfl
@[go_sem] theorem xS:tsz Tryz.prog 343=13:=by kernel_rfl
@[go_sem] theorem xT:Tryz.prog.bytesOf 343=104:=by kernel_rfl
@[go_sem] theorem xU:(tz Tryz.prog 343).length =13:=by kernel_rfl
@[go_sem] theorem xV:(tz Tryz.prog 343).map zAV=[.int .i64 0,.int .i64 0,.int .i64 0,.int .i64 0,.int .i64 0,.int .i64 0,.int .i64 0,.int .i64 0,.int .i64 0,.int .i64 0,.int .i64 0,.int .i64 0,.int .i64 0] :=by kernel_rfl
@[go_sem] theorem xW {q}:zDs q (tz Tryz.prog 343)=some [.int .i64 0,.int .i64 0,.int .i64 0,.int .i64 0,.int .i64 0,.int .i64 0,.int .i64 0,.int .i64 0,.int .i64 0,.int .i64 0,.int .i64 0,.int .i64 0,.int .i64 0] :=by kernel_rfl
theorem mixed:Tryz.prog.follows .mixedOrders =true:=Tryz.checked.mixed
attribute [go_sem] Nat.reduceAdd Nat.reduceMul reduceIte Nat.reduceEqDiff Nat.reduceLeDiff Nat.reduceLT
end Go.Proofs.YtclmbjbbojdojaaGreat.Ab
