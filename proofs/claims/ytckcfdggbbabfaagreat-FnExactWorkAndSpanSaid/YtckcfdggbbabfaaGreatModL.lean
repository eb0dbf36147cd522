/-
  Data of the program as Lean types; how they lie in memory. Printed by wip/ab/gen.py.
-/
import Derived.Test.YtckcfdggbbabfaaGreatAbY
import Derived.Test.YtckcfdggbbabfaaGreatModU
namespace Go.Proofs.YtckcfdggbbabfaaGreat.Ab
set_option linter.unusedVariables false
set_option linter.unusedSimpArgs false
set_option maxRecDepth 20000
set_option maxHeartbeats 4000000
open Go.RowKit
structure Pair where
 a:Int
 b:Int
def Pair.ds (c:Pair):List D:=[.int .i64 c.a,.int .i64 c.b]
theorem Pair.ds_eq (c:Pair):c.ds=[.int .i64 c.a,.int .i64 c.b] :=rfl
@[go_sem] def Pair.avs (c:Pair):List AV:=[.int .i64 c.a,.int .i64 c.b]
@[go_sem] def Pair.rv (c:Pair):List RV:=[.int .i64 c.a,.int .i64 c.b]
@[go_sem] def Pair.rvn (c:Pair):List RV:=[.int .i64 c.a,.int .i64 c.b]
attribute [go_sem] Pair.ds_eq
theorem Pair.ds_len (c:Pair):c.ds.length=2:=by rw [Pair.ds_eq]; rfl
end Go.Proofs.YtckcfdggbbabfaaGreat.Ab
namespace Go.Proofs.YtckcfdggbbabfaaGreat.Ab
set_option linter.unusedVariables false
set_option linter.unusedSimpArgs false
set_option maxRecDepth 20000
set_option maxHeartbeats 4000000
open Go.RowKit
def s_l11Link (a0:Net) (a1:Port) (a2:Port):Option (Net):=
 (Option.bind (at? a0.agents a1.agent) fun v2006=>(Option.bind (at? v2006.ports a1.slot) fun v2012=>(Option.bind (CF v2006.ports a1.slot a2) fun v2013_3=>(Option.bind (CF a0.agents a1.agent (⟨v2006.kind,v2006.level,v2006.value,v2006.data,v2013_3⟩:Agent)) fun v2013_4=>(Option.bind (at? v2013_4 a2.agent) fun v3006=>(Option.bind (at? v3006.ports a2.slot) fun v3012=>(Option.bind (CF v3006.ports a2.slot a1) fun v3013_5=>(Option.bind (CF v2013_4 a2.agent (⟨v3006.kind,v3006.level,v3006.value,v3006.data,v3013_5⟩:Agent)) fun v3013_6=>(some (⟨v3013_6⟩:Net))))))))))
def Gi (a0:Net) (a1:Port):Option (Port):=
 (Option.bind (at? a0.agents a1.agent) fun v2006=>(Option.bind (at? v2006.ports a1.slot) fun v2011=>(some v2011)))
def Fn (a0:Net) (a1:Port) (a2:Port):Option (Net):=
 (Option.bind (Gi a0 a1) fun v2002=>(Option.bind (Gi a0 a2) fun v3002=>(if (!(decide (v2002.agent=a2.agent)&&decide (v2002.slot=a2.slot)))=true then (Option.bind (s_l11Link a0 v2002 v3002) fun v5003=>(some v5003)) else (some a0))))
def Bj (a0:Net) (a1:Port) (a2:Port):Option (Net):=
 (Option.bind (Gi a0 a1) fun v2004=>(Option.bind (s_l11Link a0 a2 v2004) fun v2005=>(some v2005)))
def Ij (a0:Int) (a1:Int) (a2:Int) (a3:Int):Option (Bool):=
 (Option.bind (Eu a0 a1) fun v2002=>(if v2002=true then (Option.bind (Eu a2 a3) fun v2006=>(if v2006=true then (if (!decide (a0=1))=true then (some (!decide (a2=1))) else (some false)) else (some false))) else (some false)))
def E7 (a0:Int) (a1:Int) (a2:Int) (p1_0:Bool):Option (Bool):=
 (if p1_0=true then (some true) else (Option.bind (EL a1) fun v6001=>(if v6001=true then (some (decide (a0<a2))) else (some false))))
def E8 (a0:Int) (a1:Int) (a2:Int) (p0_0:Bool):Option (Bool):=
 (if p0_0=true then (some false) else (if (decide (a1=6))=true then (E7 a0 a1 a2 true) else (E7 a0 a1 a2 (decide (a1=12)))))
def G8 (a0:Int) (a1:Int) (a2:Int):Option (Bool):=
 (Option.bind (Ci a0 0 8) fun v2001=>(if (!v2001)=true then (E8 a0 a1 a2 true) else (Option.bind (Eu a1 a2) fun v2006=>(E8 a0 a1 a2 (!v2006)))))
def Ca (p0_0:Bool):Option (Bool):=
 (if p0_0=true then (some true) else (some false))
def G9 (a0:Int):Option (Bool):=
 (if (decide (a0=3))=true then (Ca (decide (a0=3))) else (if (decide (a0=7))=true then (Ca (decide (a0=7))) else (if (decide (a0=8))=true then (Ca (decide (a0=8))) else (if (decide (a0=10))=true then (Ca (decide (a0=10))) else (Ca (decide (a0=11)))))))
def HA (a1:Int) (a2:Int) (a3:Int) (p0_0:Bool):Option (Int):=
 (if p0_0=true then (some 2) else (Option.bind (G8 a1 a2 a3) fun v8003=>(if v8003=true then (some 3) else (some 0))))
def HB (p1_0:Bool):Option (Int):=
 (if p1_0=true then (some 1) else (some 0))
def HC (a2:Int) (p2_0:Bool):Option (Int):=
 (if p2_0=true then (some 5) else (if (decide (a2=11))=true then (some 6) else (some 0)))
def Gj (a0:Int) (a1:Int) (a2:Int) (a3:Int):Option (Int):=
 (if (decide (a0=5))=true then (some 4) else (if (decide (a0=4))=true then (if (decide (a2=4))=true then (HA a1 a2 a3 (decide (a1=a3))) else (HA a1 a2 a3 false)) else (if (decide (a0=2))=true then (if (decide (a2=3))=true then (HB (decide (a1=a3))) else (HB false)) else (if (decide (a0=6))=true then (if (decide (a2=7))=true then (HC a2 (decide (a2=7))) else (HC a2 (decide (a2=8)))) else (if (decide (a0=9))=true then (if (decide (a2=10))=true then (some 6) else (some 0)) else (if (decide (a0=12))=true then (Option.bind (G9 a2) fun v24001=>(if v24001=true then (some 7) else (some 0))) else (some 0)))))))
def GA (a0:Int) (a1:Int) (a2:Int) (a3:Int):Option (Int):=
 (Option.bind (Ij a0 a1 a2 a3) fun v2004=>(if (!v2004)=true then (some 0) else (Option.bind (Gj a0 a1 a2 a3) fun v4004=>(if (!decide (v4004=0))=true then (some 1) else (Option.bind (Gj a2 a3 a0 a1) fun v6004=>(if (!decide (v6004=0))=true then (some 2) else (some 0)))))))
def FW (a0:Net) (a1:Int) (a2:Int):Option (Int × Int):=
 (Option.bind (at? a0.agents a1) fun v2005=>(Option.bind (at? a0.agents a2) fun v3005=>(Option.bind (GA v2005.kind v2005.level v3005.kind v3005.level) fun v4016=>(if (decide (v4016=2))=true then (some (a2,a1)) else (some (a1,a2))))))
def FX (p0_0:Int):Option (Int):=
 (if (decide (p0_0=0))=true then (some 8) else (some p0_0))
def Hz (a0:Int) (a1:Int) (a2:Int) (a3:Int):Option (Int):=
 (Option.bind (Ij a0 a1 a2 a3) fun v2004=>(if (!v2004)=true then (some 0) else (Option.bind (Gj a0 a1 a2 a3) fun v4004=>(if (decide (v4004=0))=true then (Option.bind (Gj a2 a3 a0 a1) fun v6004=>(FX v6004)) else (FX v4004)))))
def FD (a0:Agent) (a1:Agent) (p1_0:Bool):Option (Int):=
 (if p1_0=true then (some 8) else (Option.bind (Hz a0.kind a0.level a1.kind a1.level) fun v6016=>(some v6016)))
def FE (a0:Agent) (a1:Agent) (p0_0:Bool):Option (Int):=
 (if p0_0=true then (some 8) else (if (decide (a0.kind=10))=true then (if (decide (a1.kind=9))=true then (FD a0 a1 (decide (((List.length a0.data:Nat):Int)≤a1.value))) else (FD a0 a1 false)) else (FD a0 a1 false)))
def GU (a0:Agent) (a1:Agent):Option (Int):=
 (if (decide (a0.kind=9))=true then (if (decide (a1.kind=10))=true then (FE a0 a1 (decide (((List.length a1.data:Nat):Int)≤a0.value))) else (FE a0 a1 false)) else (FE a0 a1 false))
def HD (a0:Int) (a1:Int):Option (Int):=
 (if (decide (a1<a0))=true then (some a0) else (some a1))
def Cb:Nat→Net→Int→Int→Option (Int)
 |0,_,_,_=>none
 |n+1,a0,p0_0,p0_1=>(if (decide (p0_1<((List.length a0.agents:Nat):Int)))=true then (Option.bind (at? a0.agents p0_1) fun v6006=>(Option.bind (HD p0_0 v6006.level) fun v6009=>(Cb n a0 v6009 (IntKind.i64.wrap (p0_1+1))))) else (some p0_0))
def IR (a0:Net):Option (Int):=
 (Cb fuel a0 0 0)
def DW (a1:Int) (p1_0:Int) (p1_1:Int) (p1_2:Int):Option (Int × Int):=
 (Option.bind (Ci a1 p1_0 p1_1) fun v25003=>(if (!v25003)=true then (some (0,2)) else (some (p1_2,0))))
def H0 (a0:Int) (a1:Int) (p0_0:Bool):Option (Int × Int):=
 (if p0_0=true then (DW a1 0 0 (-2)) else (if (decide (a0=3))=true then (DW a1 0 3 a1) else (if (decide (a0=4))=true then (DW a1 0 3 (IntKind.i64.wrap (a1 - 2))) else (if (decide (a0=5))=true then (DW a1 0 0 (-1)) else (if (decide (a0=6))=true then (DW a1 0 3 (IntKind.i64.wrap (a1 - 1))) else (if (decide (a0=7))=true then (DW a1 2 600 (IntKind.i64.wrap (a1 - 2))) else (some (0,2))))))))
def MA (a0:Int) (a1:Int):Option (Int × Int):=
 (if (decide (a0=1))=true then (H0 a0 a1 (decide (a0=1))) else (H0 a0 a1 (decide (a0=2))))
def Cw (v5002:Int) (p1_0:Int):Option (Int × Int):=
 (Option.bind (MA v5002 p1_0) fun v21002=>(some (v21002.1,0)))
def FY (a0:List Net) (v3005:Agent) (v4005:Agent) (v5002:Int) (p0_0:Bool):Option (Int × Int):=
 (if p0_0=true then (Cw v5002 (IntKind.i64.wrap (((List.length v4005.ports:Nat):Int) - 1))) else (if (decide (v5002=6))=true then (Option.bind (Cy v3005) fun v14001=>(Cw v5002 v14001)) else (if (decide (v5002=7))=true then (if (decide (((List.length a0:Nat):Int)≤v3005.value))=true then (some (0,3)) else (Option.bind (at? a0 v3005.value) fun v18005=>(Option.bind (at? a0 v3005.value) fun v19005=>(Option.bind (IR v19005) fun v19006=>(if (decide (8<(IntKind.i64.wrap (v19006+v3005.level))))=true then (some (0,9)) else (Cw v5002 ((List.length v18005.agents:Nat):Int))))))) else (Cw v5002 0))))
def H1 (a0:List Net) (a1:Net) (a2:Int) (a3:Int):Option (Int × Int):=
 (Option.bind (FW a1 a2 a3) fun v2003=>(Option.bind (at? a1.agents v2003.1) fun v3005=>(Option.bind (at? a1.agents v2003.2) fun v4005=>(Option.bind (GU v3005 v4005) fun v5002=>(if (decide (v5002=8))=true then (some (0,11)) else (if (decide (v5002=3))=true then (FY a0 v3005 v4005 v5002 (decide (v5002=3))) else (FY a0 v3005 v4005 v5002 (decide (v5002=4)))))))))
def DM:Nat→Net→Int→Int→Option (Int)
 |0,_,_,_=>none
 |n+1,a0,p0_0,p0_1=>(if (decide (p0_1<((List.length a0.agents:Nat):Int)))=true then (Option.bind (at? a0.agents p0_1) fun v6005=>(if (!decide (v6005.kind=0))=true then (DM n a0 (IntKind.i64.wrap (p0_0+1)) (IntKind.i64.wrap (p0_1+1))) else (DM n a0 p0_0 (IntKind.i64.wrap (p0_1+1))))) else (some p0_0))
def Ik (a0:Net):Option (Int):=
 (DM fuel a0 0 0)
def Ad (a0:Int) (a1:Int):Option (Port):=
 (some (⟨a0,a1⟩:Port))
def El:Nat→Net→Int→Int→Int→(List Int)→(List Port)→Int→Option (Int × Net)
 |0,_,_,_,_,_,_,_=>none
 |n+1,a0,a1,a2,a3,v2004,p1_0,p1_1=>(if (decide (0<p1_1))=true then (Option.bind (app? p1_0 [(⟨0,0⟩:Port)]) fun v6004=>(El n a0 a1 a2 a3 v2004 v6004 (IntKind.i64.wrap (p1_1 - 1)))) else (Option.bind (app? a0.agents [(⟨a1,a2,a3,v2004,p1_0⟩:Agent)]) fun v7007=>(some ((IntKind.i64.wrap (((List.length v7007:Nat):Int) - 1)),(⟨v7007⟩:Net)))))
def Cj (a0:Net) (a1:Int) (a2:Int) (a3:Int) (a4:List Int) (a5:Int):Option (Int × Net):=
 (Option.bind (H2 a4) fun v2004=>(El fuel a0 a1 a2 a3 v2004 [] a5))
def Bs:Nat→Int→Agent→(Int × Net)→(List Agent)→Int→Option (Net)
 |0,_,_,_,_,_=>none
 |n+1,a2,v2006,v5010,p2_0,p2_1=>(if (decide (p2_1<((List.length v2006.ports:Nat):Int)))=true then (Option.bind (Ad a2 p2_1) fun v17003=>(Option.bind (Ad (IntKind.i64.wrap (v5010.1 +p2_1)) 0) fun v17007=>(Option.bind (Bj (⟨p2_0⟩:Net) v17003 v17007) fun v17008=>(Bs n a2 v2006 v5010 v17008.agents (IntKind.i64.wrap (p2_1+1)))))) else (some (⟨p2_0⟩:Net)))
def BZ:Nat→Int→Int→Agent→Agent→(Int × Net)→(Int × Net)→(List Agent)→Int→Option (Net)
 |0,_,_,_,_,_,_,_,_=>none
 |n+1,a1,a2,v1005,v2006,v4010,v5010,p1_0,p1_1=>(if (decide (p1_1<((List.length v2006.ports:Nat):Int)))=true then (Option.bind (Cj (⟨p1_0⟩:Net) 4 v1005.level 0 [] 3) fun v9002=>(Option.bind (Ad v9002.1 1) fun v10002=>(Option.bind (Ad v4010.1 p1_1) fun v10005=>(Option.bind (s_l11Link v9002.2 v10002 v10005) fun v10006=>(Option.bind (Ad v9002.1 2) fun v11002=>(Option.bind (Ad v5010.1 p1_1) fun v11005=>(Option.bind (s_l11Link v10006 v11002 v11005) fun v11006=>(BZ n a1 a2 v1005 v2006 v4010 v5010 v11006.agents (IntKind.i64.wrap (p1_1+1)))))))))) else (Option.bind (Ad a1 1) fun v12002=>(Option.bind (Ad v4010.1 0) fun v12004=>(Option.bind (Bj (⟨p1_0⟩:Net) v12002 v12004) fun v12005=>(Option.bind (Ad a1 2) fun v13002=>(Option.bind (Ad v5010.1 0) fun v13004=>(Option.bind (Bj v12005 v13002 v13004) fun v13005=>(Bs fuel a2 v2006 v5010 v13005.agents 1))))))))
def FZ (a0:Net) (a1:Int) (a2:Int):Option (Net):=
 (Option.bind (at? a0.agents a1) fun v1005=>(Option.bind (at? a0.agents a2) fun v2005=>(Option.bind (s_l11OwnAgent v2005) fun v2006=>(Option.bind (Cj a0 v2006.kind v2006.level v2006.value v2006.data ((List.length v2006.ports:Nat):Int)) fun v4010=>(Option.bind (Cj v4010.2 v2006.kind v2006.level v2006.value v2006.data ((List.length v2006.ports:Nat):Int)) fun v5010=>(BZ fuel a1 a2 v1005 v2006 v4010 v5010 v5010.2.agents 1))))))
def GB (a0:Int):Option (Int):=
 (some (IntKind.i64.wrap (IntKind.i32.wrap (IntKind.u32.wrap (IntKind.u64.wrap a0)))))
def KM (a0:Bool):Option (Int):=
 (if a0=true then (some 1) else (some 0))
def KN (a0:Int) (a1:Int) (a2:Int):Option (Int):=
 (Option.bind (GB a1) fun v2001=>(Option.bind (GB a2) fun v3001=>(if (decide (a0=1))=true then (Option.bind (GB (IntKind.i64.wrap (v2001+v3001))) fun v6003=>(some v6003)) else (if (decide (a0=2))=true then (Option.bind (GB (IntKind.i64.wrap (v2001 - v3001))) fun v8003=>(some v8003)) else (if (decide (a0=3))=true then (Option.bind (GB (IntKind.i64.wrap (v2001*v3001))) fun v10003=>(some v10003)) else (if (decide (a0=4))=true then (if (decide (v3001=0))=true then (some 0) else (Option.bind (nz? v3001) fun v14002=>(Option.bind (GB (IntKind.i64.wrap (Int.tdiv v2001 v3001))) fun v14003=>(some v14003)))) else (if (decide (a0=5))=true then (Option.bind (KM (decide (v2001<v3001))) fun v16003=>(some v16003)) else (if (decide (a0=6))=true then (Option.bind (KM (decide (v2001=v3001))) fun v18003=>(some v18003)) else (some 0)))))))))
def Fo (a0:Net) (a1:Int) (a2:Int):Option (Net):=
 (Option.bind (at? a0.agents a2) fun v1005=>(Option.bind (s_l11OwnAgent v1005) fun v1006=>(Option.bind (at? a0.agents a1) fun v2005=>(if (decide (v1006.kind=8))=true then (Option.bind (at? v1006.data 0) fun v4005=>(Option.bind (KN v1006.value v4005 v2005.value) fun v4008=>(Option.bind (Cj a0 6 0 v4008 [] 1) fun v4009=>(Option.bind (Ad a2 1) fun v5002=>(Option.bind (Ad v4009.1 0) fun v5004=>(Option.bind (Bj v4009.2 v5002 v5004) fun v5005=>(some v5005))))))) else (Option.bind (Cj a0 8 v1006.level v1006.value [v2005.value] 2) fun v6007=>(Option.bind (Ad a2 1) fun v7002=>(Option.bind (Ad v6007.1 0) fun v7004=>(Option.bind (Bj v6007.2 v7002 v7004) fun v7005=>(Option.bind (Ad a2 2) fun v8002=>(Option.bind (Ad v6007.1 1) fun v8004=>(Option.bind (Bj v7005 v8002 v8004) fun v8005=>(some v8005))))))))))))
def Fa (a0:Net) (a2:Int) (v1006:Agent) (p0_0:Int):Option (Net):=
 (Option.bind (Cj a0 12 v1006.level p0_0 [] 1) fun v6004=>(Option.bind (Ad a2 1) fun v7002=>(Option.bind (Ad v6004.1 0) fun v7004=>(Option.bind (Bj v6004.2 v7002 v7004) fun v7005=>(some v7005)))))
def Cz:Nat→Int→Int→Agent→Int→(List Agent)→Int→Int→Int→Option (Net)
 |0,_,_,_,_,_,_,_,_=>none
 |n+1,a1,a2,v1006,v8006,p2_0,p2_1,p2_2,p2_3=>(if (decide (p2_3≤v8006))=true then (Option.bind (Cj (⟨p2_0⟩:Net) 3 v1006.level 0 [] 3) fun v14003=>(Option.bind (Ad v14003.1 0) fun v15003=>(Option.bind (s_l11Link v14003.2 (⟨p2_1,p2_2⟩:Port) v15003) fun v15004=>(Option.bind (Ad a1 p2_3) fun v16003=>(Option.bind (Ad v14003.1 1) fun v16005=>(Option.bind (Bj v15004 v16003 v16005) fun v16006=>(Option.bind (Ad v14003.1 2) fun v17001=>(Cz n a1 a2 v1006 v8006 v16006.agents v17001.agent v17001.slot (IntKind.i64.wrap (p2_3+1)))))))))) else (Option.bind (Ad a2 1) fun v18002=>(Option.bind (Bj (⟨p2_0⟩:Net) v18002 (⟨p2_1,p2_2⟩:Port)) fun v18004=>(some v18004))))
def Em (a0:Net) (a1:Int) (a2:Int):Option (Net):=
 (Option.bind (at? a0.agents a2) fun v1005=>(Option.bind (s_l11OwnAgent v1005) fun v1006=>(if (decide (v1006.kind=11))=true then (Option.bind (at? v1006.data 1) fun v3002=>(Option.bind (at? a0.agents a1) fun v4005=>(if (!decide (v4005.value=0))=true then (Option.bind (at? v1006.data 0) fun v5002=>(Fa a0 a2 v1006 v5002)) else (Fa a0 a2 v1006 v3002)))) else (Option.bind (at? a0.agents a1) fun v8005=>(Option.bind (Cy v8005) fun v8006=>(Option.bind (at? a0.agents a1) fun v9010=>(Option.bind (at? v1006.data v9010.value) fun v9013=>(Option.bind (Cj a0 12 v1006.level v9013 [] 1) fun v9015=>(Option.bind (Ad v9015.1 0) fun v10001=>(Cz fuel a1 a2 v1006 v8006 v9015.2.agents v10001.agent v10001.slot 1))))))))))
mutual
def BM:Nat→Net→Net→Int→Agent→(List Agent)→Int→Option (Net)
 |0,_,_,_,_,_,_=>none
 |n+1,a0,a1,a3,v1005,p6_0,p6_1=>(if (decide (p6_1<((List.length a0.agents:Nat):Int)))=true then (Option.bind (at? a0.agents p6_1) fun v6005=>(Option.bind (s_l11OwnAgent v6005) fun v6006=>(Option.bind (EL v6006.kind) fun v7002=>(if v7002=true then (DC n a0 a1 a3 p6_0 p6_1 v1005 v6006 (IntKind.i64.wrap (v6006.level+v1005.level))) else (DC n a0 a1 a3 p6_0 p6_1 v1005 v6006 v6006.level))))) else (Option.bind (at? a0.agents 0) fun v14004=>(Option.bind (at? v14004.ports 0) fun v14007=>(Option.bind (Ad (IntKind.i64.wrap ((IntKind.i64.wrap (((List.length a1.agents:Nat):Int) - 1))+v14007.agent)) v14007.slot) fun v15007=>(Option.bind (Ad a3 0) fun v15009=>(Option.bind (s_l11Link (⟨p6_0⟩:Net) v15007 v15009) fun v15010=>(some v15010)))))))
def DC:Nat→Net→Net→Int→(List Agent)→Int→Agent→Agent→Int→Option (Net)
 |0,_,_,_,_,_,_,_,_=>none
 |n+1,a0,a1,a3,p6_0,p6_1,v1005,v6006,p7_0=>(Cc n a0 a1 a3 p6_0 p6_1 p7_0 v1005 v6006 v6006.ports 0)
def Cc:Nat→Net→Net→Int→(List Agent)→Int→Int→Agent→Agent→(List Port)→Int→Option (Net)
 |0,_,_,_,_,_,_,_,_,_,_=>none
 |n+1,a0,a1,a3,p6_0,p6_1,p7_0,v1005,v6006,p11_0,p11_1=>(if (decide (p11_1<((List.length p11_0:Nat):Int)))=true then (Option.bind (at? p11_0 p11_1) fun v12003=>(Option.bind (at? p11_0 p11_1) fun v12008=>(Option.bind (CF p11_0 p11_1 (⟨(IntKind.i64.wrap (v12003.agent+(IntKind.i64.wrap (((List.length a1.agents:Nat):Int) - 1)))),v12008.slot⟩:Port)) fun v12010_144=>(Cc n a0 a1 a3 p6_0 p6_1 p7_0 v1005 v6006 v12010_144 (IntKind.i64.wrap (p11_1+1)))))) else (Option.bind (app? p6_0 [(⟨v6006.kind,p7_0,v6006.value,v6006.data,p11_0⟩:Agent)]) fun v13007=>(BM n a0 a1 a3 v1005 v13007 (IntKind.i64.wrap (p6_1+1)))))
end
def H3 (a0:Net) (a1:Net) (a2:Int) (a3:Int):Option (Net):=
 (Option.bind (at? a1.agents a2) fun v1005=>(BM fuel a0 a1 a3 v1005 a1.agents 1))
def D9 (a0:Net) (a1:Int):Option (Net):=
 (Option.bind (at? a0.agents a1) fun v1006=>(Option.bind (CF a0.agents a1 (⟨0,0,0,[],[]⟩:Agent)) fun v1007_1=>(some (⟨v1007_1⟩:Net))))
def Cn (v7003:Int × Int) (v8012:Int) (p2_0:List Agent):Option (Int × Net):=
 (Option.bind (D9 (⟨p2_0⟩:Net) v7003.1) fun v29002=>(if (!decide (v8012=7))=true then (Option.bind (D9 v29002 v7003.2) fun v31002=>(some (0,v31002))) else (some (0,v29002))))
def EM:Nat→(Int × Int)→Int→Agent→(List Agent)→Int→Option (Int × Net)
 |0,_,_,_,_,_=>none
 |n+1,v7003,v8012,v17005,p3_0,p3_1=>(if (decide (p3_1<((List.length v17005.ports:Nat):Int)))=true then (Option.bind (Cj (⟨p3_0⟩:Net) 5 0 0 [] 1) fun v21001=>(Option.bind (Ad v7003.2 p3_1) fun v22003=>(Option.bind (Ad v21001.1 0) fun v22005=>(Option.bind (Bj v21001.2 v22003 v22005) fun v22006=>(EM n v7003 v8012 v17005 v22006.agents (IntKind.i64.wrap (p3_1+1))))))) else (Cn v7003 v8012 p3_0))
def GV (a0:List Net) (a1:Net) (v7003:Int × Int) (v8012:Int) (p0_0:Bool):Option (Int × Net):=
 (if p0_0=true then (Option.bind (Ad v7003.1 1) fun v12002=>(Option.bind (Ad v7003.2 1) fun v12004=>(Option.bind (Fn a1 v12002 v12004) fun v12005=>(Option.bind (Ad v7003.1 2) fun v13002=>(Option.bind (Ad v7003.2 2) fun v13004=>(Option.bind (Fn v12005 v13002 v13004) fun v13005=>(Cn v7003 v8012 v13005.agents))))))) else (if (decide (v8012=3))=true then (Option.bind (FZ a1 v7003.1 v7003.2) fun v15003=>(Cn v7003 v8012 v15003.agents)) else (if (decide (v8012=4))=true then (Option.bind (at? a1.agents v7003.2) fun v17005=>(EM fuel v7003 v8012 v17005 a1.agents 1)) else (if (decide (v8012=5))=true then (Option.bind (Fo a1 v7003.1 v7003.2) fun v24003=>(Cn v7003 v8012 v24003.agents)) else (if (decide (v8012=6))=true then (Option.bind (Em a1 v7003.1 v7003.2) fun v26003=>(Cn v7003 v8012 v26003.agents)) else (if (decide (v8012=7))=true then (Option.bind (at? a1.agents v7003.1) fun v28006=>(Option.bind (at? a0 v28006.value) fun v28009=>(Option.bind (H3 v28009 a1 v7003.1 v7003.2) fun v28013=>(Cn v7003 v8012 v28013.agents)))) else (Cn v7003 v8012 a1.agents)))))))
def IS (a0:List Net) (a1:Net) (a2:Int) (a3:Int):Option (Int × Net):=
 (Option.bind (H1 a0 a1 a2 a3) fun v2004=>(if (!decide (v2004.2 =0))=true then (some (v2004.2,a1)) else (Option.bind (Ik a1) fun v5001=>(if (decide (600<(IntKind.i64.wrap (v5001+v2004.1))))=true then (some (4,a1)) else (Option.bind (FW a1 a2 a3) fun v7003=>(Option.bind (at? a1.agents v7003.1) fun v8005=>(Option.bind (at? a1.agents v7003.2) fun v8011=>(Option.bind (GU v8005 v8011) fun v8012=>(if (decide (v8012=1))=true then (GV a0 a1 v7003 v8012 (decide (v8012=1))) else (GV a0 a1 v7003 v8012 (decide (v8012=2))))))))))))
mutual
def Bw:Nat→Net→(List Pair)→Int→Option ((List Pair))
 |0,_,_,_=>none
 |n+1,a0,p2_0,p2_1=>(if (decide (p2_1<((List.length a0.agents:Nat):Int)))=true then (Option.bind (at? a0.agents p2_1) fun v6005=>(if (decide (v6005.kind=0))=true then (Bw n a0 p2_0 (IntKind.i64.wrap (p2_1+1))) else (Option.bind (at? a0.agents p2_1) fun v7005=>(Option.bind (at? v7005.ports 0) fun v7008=>(if (decide (v7008.slot=0))=true then (EN n a0 p2_0 p2_1 v7008 (decide (p2_1<v7008.agent))) else (EN n a0 p2_0 p2_1 v7008 false)))))) else (some p2_0))
def EN:Nat→Net→(List Pair)→Int→Port→Bool→Option ((List Pair))
 |0,_,_,_,_,_=>none
 |n+1,a0,p2_0,p2_1,v7008,p3_0=>(if p3_0=true then (Option.bind (app? p2_0 [(⟨p2_1,v7008.agent⟩:Pair)]) fun v9006=>(Bw n a0 v9006 (IntKind.i64.wrap (p2_1+1)))) else (Bw n a0 p2_0 (IntKind.i64.wrap (p2_1+1))))
end
def HY (a0:Net):Option ((List Pair)):=
 (Bw fuel a0 [] 1)
mutual
def BS:Nat→Net→(List Int)→(List Agent)→Int→Option (Net)
 |0,_,_,_,_=>none
 |n+1,a0,p1_0,p7_0,p7_1=>(if (decide (p7_1<((List.length a0.agents:Nat):Int)))=true then (Option.bind (at? a0.agents p7_1) fun v13005=>(if (!decide (v13005.kind=0))=true then (Option.bind (at? a0.agents p7_1) fun v14005=>(Option.bind (s_l11OwnAgent v14005) fun v14006=>(DX n a0 p1_0 p7_0 p7_1 v14006 v14006.ports 0))) else (BS n a0 p1_0 p7_0 (IntKind.i64.wrap (p7_1+1))))) else (some (⟨p7_0⟩:Net)))
def DX:Nat→Net→(List Int)→(List Agent)→Int→Agent→(List Port)→Int→Option (Net)
 |0,_,_,_,_,_,_,_=>none
 |n+1,a0,p1_0,p7_0,p7_1,v14006,p11_0,p11_1=>(if (decide (p11_1<((List.length p11_0:Nat):Int)))=true then (Option.bind (at? p11_0 p11_1) fun v18007=>(Option.bind (at? p1_0 v18007.agent) fun v18010=>(Option.bind (at? p11_0 p11_1) fun v18012=>(Option.bind (CF p11_0 p11_1 (⟨v18010,v18012.slot⟩:Port)) fun v18014_144=>(DX n a0 p1_0 p7_0 p7_1 v14006 v18014_144 (IntKind.i64.wrap (p11_1+1))))))) else (Option.bind (app? p7_0 [(⟨v14006.kind,v14006.level,v14006.value,v14006.data,p11_0⟩:Agent)]) fun v19003=>(BS n a0 p1_0 v19003 (IntKind.i64.wrap (p7_1+1)))))
end
def DN:Nat→Net→(List Int)→Int→Int→Option (Net)
 |0,_,_,_,_=>none
 |n+1,a0,p1_0,p1_1,p1_2=>(if (decide (p1_2<((List.length a0.agents:Nat):Int)))=true then (Option.bind (app? p1_0 [p1_1]) fun v6003=>(Option.bind (at? a0.agents p1_2) fun v7005=>(if (!decide (v7005.kind=0))=true then (DN n a0 v6003 (IntKind.i64.wrap (p1_1+1)) (IntKind.i64.wrap (p1_2+1))) else (DN n a0 v6003 p1_1 (IntKind.i64.wrap (p1_2+1)))))) else (BS fuel a0 p1_0 [] 0))
def Gk (a0:Net):Option (Net):=
 (DN fuel a0 [] 0 0)
def Fb:Nat→Net→(List Agent)→Int→Option (Net)
 |0,_,_,_=>none
 |n+1,a0,p1_0,p1_1=>(if (decide (p1_1<((List.length a0.agents:Nat):Int)))=true then (Option.bind (at? a0.agents p1_1) fun v6007=>(Option.bind (s_l11OwnAgent v6007) fun v6008=>(Option.bind (app? p1_0 [v6008]) fun v6010=>(Fb n a0 v6010 (IntKind.i64.wrap (p1_1+1)))))) else (some (⟨p1_0⟩:Net)))
def MB (a0:Net):Option (Net):=
 (Fb fuel a0 [] 0)
end Go.Proofs.YtckcfdggbbabfaaGreat.Ab
