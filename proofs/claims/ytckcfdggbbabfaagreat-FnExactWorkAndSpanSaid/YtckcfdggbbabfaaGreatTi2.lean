/-
  What the walk asks of each type. Printed by wip/ab/gen_ti.py.
-/
import Derived.Test.YtckcfdggbbabfaaGreatRows
import Derived.Test.YtckcfdggbbabfaaGreatAbD
namespace Go.Proofs.YtckcfdggbbabfaaGreat.Ab
open Go.RowKit
@[go_sem] theorem ti2:ti Tryz.prog 2= .int .i64 :=by kernel_rfl
@[go_sem] theorem sz2:tsz Tryz.prog 2=1:=by kernel_rfl
@[go_sem] theorem by2:Tryz.prog.bytesOf 2=8:=by kernel_rfl
@[go_sem] theorem zl2:(tz Tryz.prog 2).length =1:=by kernel_rfl
@[go_sem] theorem za2:(tz Tryz.prog 2).map zAV=[.int .i64 0] :=by kernel_rfl
@[go_sem] theorem zd2:zDs (tz Tryz.prog 2)=some [.int .i64 0] :=by kernel_rfl
@[go_sem] theorem ti3:ti Tryz.prog 3= .int .i64 :=by kernel_rfl
@[go_sem] theorem sz3:tsz Tryz.prog 3=1:=by kernel_rfl
@[go_sem] theorem by3:Tryz.prog.bytesOf 3=8:=by kernel_rfl
@[go_sem] theorem zl3:(tz Tryz.prog 3).length =1:=by kernel_rfl
@[go_sem] theorem za3:(tz Tryz.prog 3).map zAV=[.int .i64 0] :=by kernel_rfl
@[go_sem] theorem zd3:zDs (tz Tryz.prog 3)=some [.int .i64 0] :=by kernel_rfl
@[go_sem] theorem ti4:ti Tryz.prog 4= .bool :=by kernel_rfl
@[go_sem] theorem sz4:tsz Tryz.prog 4=1:=by kernel_rfl
@[go_sem] theorem by4:Tryz.prog.bytesOf 4=1:=by kernel_rfl
@[go_sem] theorem zl4:(tz Tryz.prog 4).length =1:=by kernel_rfl
@[go_sem] theorem za4:(tz Tryz.prog 4).map zAV=[.bool false] :=by kernel_rfl
@[go_sem] theorem zd4:zDs (tz Tryz.prog 4)=some [.bool false] :=by kernel_rfl
@[go_sem] theorem pR:ti Tryz.prog 21= .int .i32 :=by kernel_rfl
@[go_sem] theorem pS:tsz Tryz.prog 21=1:=by kernel_rfl
@[go_sem] theorem pT:Tryz.prog.bytesOf 21=4:=by kernel_rfl
@[go_sem] theorem pU:(tz Tryz.prog 21).length =1:=by kernel_rfl
@[go_sem] theorem pV:(tz Tryz.prog 21).map zAV=[.int .i32 0] :=by kernel_rfl
@[go_sem] theorem pW:zDs (tz Tryz.prog 21)=some [.int .i32 0] :=by kernel_rfl
@[go_sem] theorem pX:ti Tryz.prog 25= .sl 28:=by kernel_rfl
@[go_sem] theorem pY:tsz Tryz.prog 25=1:=by kernel_rfl
@[go_sem] theorem pZ:Tryz.prog.bytesOf 25=24:=by kernel_rfl
@[go_sem] theorem pc:(tz Tryz.prog 25).length =1:=by kernel_rfl
@[go_sem] theorem pd:(tz Tryz.prog 25).map zAV=[.nils] :=by kernel_rfl
@[go_sem] theorem pe:zDs (tz Tryz.prog 25)=some [.sl []] :=by kernel_rfl
@[go_sem] theorem pf:ti Tryz.prog 26= .sl 151:=by kernel_rfl
@[go_sem] theorem pg:tsz Tryz.prog 26=1:=by kernel_rfl
@[go_sem] theorem ph:Tryz.prog.bytesOf 26=24:=by kernel_rfl
@[go_sem] theorem pi:(tz Tryz.prog 26).length =1:=by kernel_rfl
@[go_sem] theorem pj:(tz Tryz.prog 26).map zAV=[.nils] :=by kernel_rfl
@[go_sem] theorem pm:zDs (tz Tryz.prog 26)=some [.sl []] :=by kernel_rfl
@[go_sem] theorem po:ti Tryz.prog 28= .st [(0,26)] :=by kernel_rfl
@[go_sem] theorem pp:tsz Tryz.prog 28=1:=by kernel_rfl
@[go_sem] theorem pu:Tryz.prog.bytesOf 28=24:=by kernel_rfl
@[go_sem] theorem pv:(tz Tryz.prog 28).length =1:=by kernel_rfl
@[go_sem] theorem pw:(tz Tryz.prog 28).map zAV=[.nils] :=by kernel_rfl
@[go_sem] theorem pz:zDs (tz Tryz.prog 28)=some [.sl []] :=by kernel_rfl
@[go_sem] theorem p4:ti Tryz.prog 29= .sl 2:=by kernel_rfl
@[go_sem] theorem p5:tsz Tryz.prog 29=1:=by kernel_rfl
@[go_sem] theorem p6:Tryz.prog.bytesOf 29=24:=by kernel_rfl
@[go_sem] theorem p8:(tz Tryz.prog 29).length =1:=by kernel_rfl
@[go_sem] theorem p9:(tz Tryz.prog 29).map zAV=[.nils] :=by kernel_rfl
@[go_sem] theorem qA:zDs (tz Tryz.prog 29)=some [.sl []] :=by kernel_rfl
@[go_sem] theorem qB:ti Tryz.prog 39= .sl 43:=by kernel_rfl
@[go_sem] theorem qC:tsz Tryz.prog 39=1:=by kernel_rfl
@[go_sem] theorem qD:Tryz.prog.bytesOf 39=24:=by kernel_rfl
@[go_sem] theorem qE:(tz Tryz.prog 39).length =1:=by kernel_rfl
@[go_sem] theorem qF:(tz Tryz.prog 39).map zAV=[.nils] :=by kernel_rfl
@[go_sem] theorem qG:zDs (tz Tryz.prog 39)=some [.sl []] :=by kernel_rfl
@[go_sem] theorem qH:ti Tryz.prog 41= .sl 133:=by kernel_rfl
@[go_sem] theorem qI:tsz Tryz.prog 41=1:=by kernel_rfl
@[go_sem] theorem qJ:Tryz.prog.bytesOf 41=24:=by kernel_rfl
@[go_sem] theorem qK:(tz Tryz.prog 41).length =1:=by kernel_rfl
@[go_sem] theorem qL:(tz Tryz.prog 41).map zAV=[.nils] :=by kernel_rfl
@[go_sem] theorem qM:zDs (tz Tryz.prog 41)=some [.sl []] :=by kernel_rfl
@[go_sem] theorem qN:ti Tryz.prog 43= .st [(0,41)] :=by kernel_rfl
@[go_sem] theorem qO:tsz Tryz.prog 43=1:=by kernel_rfl
@[go_sem] theorem qP:Tryz.prog.bytesOf 43=24:=by kernel_rfl
@[go_sem] theorem qQ:(tz Tryz.prog 43).length =1:=by kernel_rfl
@[go_sem] theorem qR:(tz Tryz.prog 43).map zAV=[.nils] :=by kernel_rfl
@[go_sem] theorem qS:zDs (tz Tryz.prog 43)=some [.sl []] :=by kernel_rfl
@[go_sem] theorem qT:ti Tryz.prog 68= .sl 29:=by kernel_rfl
@[go_sem] theorem qU:tsz Tryz.prog 68=1:=by kernel_rfl
@[go_sem] theorem qV:Tryz.prog.bytesOf 68=24:=by kernel_rfl
@[go_sem] theorem qW:(tz Tryz.prog 68).length =1:=by kernel_rfl
@[go_sem] theorem qX:(tz Tryz.prog 68).map zAV=[.nils] :=by kernel_rfl
@[go_sem] theorem qY:zDs (tz Tryz.prog 68)=some [.sl []] :=by kernel_rfl
@[go_sem] theorem m6:ti Tryz.prog 109= .st [(0,2),(1,2)] :=by kernel_rfl
@[go_sem] theorem m7:Hq Tryz.prog 109=some [.int .i64,.int .i64] :=by kernel_rfl
@[go_sem] theorem m8:tsz Tryz.prog 109=2:=by kernel_rfl
@[go_sem] theorem m9:Tryz.prog.bytesOf 109=16:=by kernel_rfl
@[go_sem] theorem nA:(tz Tryz.prog 109).length =2:=by kernel_rfl
@[go_sem] theorem nC:(tz Tryz.prog 109).map zAV=[.int .i64 0,.int .i64 0] :=by kernel_rfl
@[go_sem] theorem nD:zDs (tz Tryz.prog 109)=some [.int .i64 0,.int .i64 0] :=by kernel_rfl
@[go_sem] theorem nE:ti Tryz.prog 116= .ptr 140:=by kernel_rfl
@[go_sem] theorem nF:tsz Tryz.prog 116=1:=by kernel_rfl
@[go_sem] theorem nG:Tryz.prog.bytesOf 116=8:=by kernel_rfl
@[go_sem] theorem nH:(tz Tryz.prog 116).length =1:=by kernel_rfl
@[go_sem] theorem nI:(tz Tryz.prog 116).map zAV=[.nilp] :=by kernel_rfl
@[go_sem] theorem nJ:ti Tryz.prog 121= .sl 109:=by kernel_rfl
@[go_sem] theorem nK:tsz Tryz.prog 121=1:=by kernel_rfl
@[go_sem] theorem nL:Tryz.prog.bytesOf 121=24:=by kernel_rfl
@[go_sem] theorem nM:(tz Tryz.prog 121).length =1:=by kernel_rfl
@[go_sem] theorem nO:(tz Tryz.prog 121).map zAV=[.nils] :=by kernel_rfl
@[go_sem] theorem nP:zDs (tz Tryz.prog 121)=some [.sl []] :=by kernel_rfl
@[go_sem] theorem nQ:ti Tryz.prog 131= .sl 173:=by kernel_rfl
@[go_sem] theorem nR:tsz Tryz.prog 131=1:=by kernel_rfl
@[go_sem] theorem nT:Tryz.prog.bytesOf 131=24:=by kernel_rfl
@[go_sem] theorem nU:(tz Tryz.prog 131).length =1:=by kernel_rfl
@[go_sem] theorem nV:(tz Tryz.prog 131).map zAV=[.nils] :=by kernel_rfl
@[go_sem] theorem nW:zDs (tz Tryz.prog 131)=some [.sl []] :=by kernel_rfl
@[go_sem] theorem nX:ti Tryz.prog 133= .st [(0,2),(1,2),(2,2),(3,29),(4,131)] :=by kernel_rfl
@[go_sem] theorem nY:tsz Tryz.prog 133=5:=by kernel_rfl
@[go_sem] theorem nZ:Tryz.prog.bytesOf 133=72:=by kernel_rfl
@[go_sem] theorem na:(tz Tryz.prog 133).length =5:=by kernel_rfl
@[go_sem] theorem nc:(tz Tryz.prog 133).map zAV=[.int .i64 0,.int .i64 0,.int .i64 0,.nils,.nils] :=by kernel_rfl
@[go_sem] theorem nf:zDs (tz Tryz.prog 133)=some [.int .i64 0,.int .i64 0,.int .i64 0,.sl [],.sl []] :=by kernel_rfl
@[go_sem] theorem ng:ti Tryz.prog 138= .map 2 4:=by kernel_rfl
@[go_sem] theorem nh:Xb Tryz.prog 138=some (.int .i64):=by kernel_rfl
@[go_sem] theorem kt2:Ul Tryz.prog 2=some (.int .i64):=by kernel_rfl
@[go_sem] theorem zz4:tz1 Tryz.prog 4=some (.bool false):=by kernel_rfl
@[go_sem] theorem qZ:zAV (.bool false)= .bool false:=rfl
@[go_sem] theorem ni:tsz Tryz.prog 138=1:=by kernel_rfl
@[go_sem] theorem nj:Tryz.prog.bytesOf 138=8:=by kernel_rfl
@[go_sem] theorem nk:(tz Tryz.prog 138).length =1:=by kernel_rfl
@[go_sem] theorem nm:(tz Tryz.prog 138).map zAV=[.any] :=by kernel_rfl
@[go_sem] theorem nr:ti Tryz.prog 140= .st [(0,43),(1,39),(2,138)] :=by kernel_rfl
@[go_sem] theorem nu:tsz Tryz.prog 140=3:=by kernel_rfl
@[go_sem] theorem nw:Tryz.prog.bytesOf 140=56:=by kernel_rfl
@[go_sem] theorem nz:(tz Tryz.prog 140).length =3:=by kernel_rfl
@[go_sem] theorem n7:(tz Tryz.prog 140).map zAV=[.nils,.nils,.any] :=by kernel_rfl
@[go_sem] theorem n9:ti Tryz.prog 149= .sl 243:=by kernel_rfl
@[go_sem] theorem oA:tsz Tryz.prog 149=1:=by kernel_rfl
@[go_sem] theorem oC:Tryz.prog.bytesOf 149=24:=by kernel_rfl
@[go_sem] theorem oD:(tz Tryz.prog 149).length =1:=by kernel_rfl
@[go_sem] theorem oE:(tz Tryz.prog 149).map zAV=[.nils] :=by kernel_rfl
@[go_sem] theorem oF:zDs (tz Tryz.prog 149)=some [.sl []] :=by kernel_rfl
@[go_sem] theorem oG:ti Tryz.prog 151= .st [(0,2),(1,2),(2,2),(3,29),(4,149)] :=by kernel_rfl
@[go_sem] theorem oH:tsz Tryz.prog 151=5:=by kernel_rfl
@[go_sem] theorem oI:Tryz.prog.bytesOf 151=72:=by kernel_rfl
@[go_sem] theorem oJ:(tz Tryz.prog 151).length =5:=by kernel_rfl
@[go_sem] theorem oK:(tz Tryz.prog 151).map zAV=[.int .i64 0,.int .i64 0,.int .i64 0,.nils,.nils] :=by kernel_rfl
@[go_sem] theorem oL:zDs (tz Tryz.prog 151)=some [.int .i64 0,.int .i64 0,.int .i64 0,.sl [],.sl []] :=by kernel_rfl
@[go_sem] theorem oM:ti Tryz.prog 173= .st [(0,2),(1,2)] :=by kernel_rfl
@[go_sem] theorem oN:Hq Tryz.prog 173=some [.int .i64,.int .i64] :=by kernel_rfl
@[go_sem] theorem oO:tsz Tryz.prog 173=2:=by kernel_rfl
@[go_sem] theorem oP:Tryz.prog.bytesOf 173=16:=by kernel_rfl
@[go_sem] theorem oQ:(tz Tryz.prog 173).length =2:=by kernel_rfl
@[go_sem] theorem oR:(tz Tryz.prog 173).map zAV=[.int .i64 0,.int .i64 0] :=by kernel_rfl
@[go_sem] theorem oS:zDs (tz Tryz.prog 173)=some [.int .i64 0,.int .i64 0] :=by kernel_rfl
@[go_sem] theorem oU:ti Tryz.prog 196= .st [(0,43),(1,29),(2,2)] :=by kernel_rfl
@[go_sem] theorem oV:tsz Tryz.prog 196=3:=by kernel_rfl
@[go_sem] theorem oW:Tryz.prog.bytesOf 196=56:=by kernel_rfl
@[go_sem] theorem oX:(tz Tryz.prog 196).length =3:=by kernel_rfl
@[go_sem] theorem oY:(tz Tryz.prog 196).map zAV=[.nils,.nils,.int .i64 0] :=by kernel_rfl
@[go_sem] theorem oZ:zDs (tz Tryz.prog 196)=some [.sl [],.sl [],.int .i64 0] :=by kernel_rfl
@[go_sem] theorem oa:ti Tryz.prog 220= .st [(0,116),(1,29),(2,29),(3,29),(4,29)] :=by kernel_rfl
@[go_sem] theorem ob:tsz Tryz.prog 220=5:=by kernel_rfl
@[go_sem] theorem oc:Tryz.prog.bytesOf 220=104:=by kernel_rfl
@[go_sem] theorem od:(tz Tryz.prog 220).length =5:=by kernel_rfl
@[go_sem] theorem oe:(tz Tryz.prog 220).map zAV=[.nilp,.nils,.nils,.nils,.nils] :=by kernel_rfl
@[go_sem] theorem og:ti Tryz.prog 227= .map 2 2:=by kernel_rfl
@[go_sem] theorem oh:Xb Tryz.prog 227=some (.int .i64):=by kernel_rfl
@[go_sem] theorem zz2:tz1 Tryz.prog 2=some (.int .i64 0):=by kernel_rfl
@[go_sem] theorem qa:zAV (.int .i64 0)= .int .i64 0:=rfl
@[go_sem] theorem ol:tsz Tryz.prog 227=1:=by kernel_rfl
@[go_sem] theorem om:Tryz.prog.bytesOf 227=8:=by kernel_rfl
@[go_sem] theorem oq:(tz Tryz.prog 227).length =1:=by kernel_rfl
@[go_sem] theorem ou:(tz Tryz.prog 227).map zAV=[.any] :=by kernel_rfl
@[go_sem] theorem ov:ti Tryz.prog 243= .st [(0,2),(1,2)] :=by kernel_rfl
@[go_sem] theorem oz:Hq Tryz.prog 243=some [.int .i64,.int .i64] :=by kernel_rfl
@[go_sem] theorem o0:tsz Tryz.prog 243=2:=by kernel_rfl
@[go_sem] theorem o5:Tryz.prog.bytesOf 243=16:=by kernel_rfl
@[go_sem] theorem o6:(tz Tryz.prog 243).length =2:=by kernel_rfl
@[go_sem] theorem o7:(tz Tryz.prog 243).map zAV=[.int .i64 0,.int .i64 0] :=by kernel_rfl
@[go_sem] theorem o8:zDs (tz Tryz.prog 243)=some [.int .i64 0,.int .i64 0] :=by kernel_rfl
@[go_sem] theorem o9:ti Tryz.prog 251= .int .u32 :=by kernel_rfl
@[go_sem] theorem pA:tsz Tryz.prog 251=1:=by kernel_rfl
@[go_sem] theorem pB:Tryz.prog.bytesOf 251=4:=by kernel_rfl
@[go_sem] theorem pC:(tz Tryz.prog 251).length =1:=by kernel_rfl
@[go_sem] theorem pD:(tz Tryz.prog 251).map zAV=[.int .u32 0] :=by kernel_rfl
@[go_sem] theorem pE:zDs (tz Tryz.prog 251)=some [.int .u32 0] :=by kernel_rfl
@[go_sem] theorem pF:ti Tryz.prog 252= .int .u64 :=by kernel_rfl
@[go_sem] theorem pG:tsz Tryz.prog 252=1:=by kernel_rfl
@[go_sem] theorem pH:Tryz.prog.bytesOf 252=8:=by kernel_rfl
@[go_sem] theorem pI:(tz Tryz.prog 252).length =1:=by kernel_rfl
@[go_sem] theorem pJ:(tz Tryz.prog 252).map zAV=[.int .u64 0] :=by kernel_rfl
@[go_sem] theorem pK:zDs (tz Tryz.prog 252)=some [.int .u64 0] :=by kernel_rfl
@[go_sem] theorem pL:ti Tryz.prog 253= .arr 13 2:=by kernel_rfl
@[go_sem] theorem pM:tsz Tryz.prog 253=13:=by kernel_rfl
@[go_sem] theorem pN:Tryz.prog.bytesOf 253=104:=by kernel_rfl
@[go_sem] theorem pO:(tz Tryz.prog 253).length =13:=by kernel_rfl
@[go_sem] theorem pP:(tz Tryz.prog 253).map zAV=[.int .i64 0,.int .i64 0,.int .i64 0,.int .i64 0,.int .i64 0,.int .i64 0,.int .i64 0,.int .i64 0,.int .i64 0,.int .i64 0,.int .i64 0,.int .i64 0,.int .i64 0] :=by kernel_rfl
@[go_sem] theorem pQ:zDs (tz Tryz.prog 253)=some [.int .i64 0,.int .i64 0,.int .i64 0,.int .i64 0,.int .i64 0,.int .i64 0,.int .i64 0,.int .i64 0,.int .i64 0,.int .i64 0,.int .i64 0,.int .i64 0,.int .i64 0] :=by kernel_rfl
theorem mixed:Tryz.prog.follows .mixedOrders =true:=Tryz.checked.mixed
attribute [go_sem] Nat.reduceAdd Nat.reduceMul reduceIte Nat.reduceEqDiff Nat.reduceLeDiff Nat.reduceLT
end Go.Proofs.YtckcfdggbbabfaaGreat.Ab
