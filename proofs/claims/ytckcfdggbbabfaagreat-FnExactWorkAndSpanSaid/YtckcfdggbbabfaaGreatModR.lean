/-
  Data of the program as Lean types; how they lie in memory. Printed by wip/ab/gen.py.
-/
import Derived.Test.YtckcfdggbbabfaaGreatAbY
import Derived.Test.YtckcfdggbbabfaaGreatModG
namespace Go.Proofs.YtckcfdggbbabfaaGreat.Ab
set_option linter.unusedVariables false
set_option linter.unusedSimpArgs false
set_option maxRecDepth 20000
set_option maxHeartbeats 4000000
open Go.RowKit
structure L15Run where
 n:Net
 trace:List Int
 peak:Int
def L15Run.ds (c:L15Run):List D:=[.sl (List.map Agent.ds c.n.agents),.sl (List.map AO c.trace),.int .i64 c.peak]
theorem L15Run.ds_eq (c:L15Run):c.ds=[.sl (List.map Agent.ds c.n.agents),.sl (List.map AO c.trace),.int .i64 c.peak] :=rfl
@[go_sem] def L15Run.avs (c:L15Run):List AV:=[.ro (List.map Agent.ds c.n.agents),.ro (List.map AO c.trace),.int .i64 c.peak]
@[go_sem] def L15Run.rv (c:L15Run):List RV:=[.ow (some 5) (List.map Agent.ds c.n.agents),.ow (some 1) (List.map AO c.trace),.int .i64 c.peak]
@[go_sem] def L15Run.rvn (c:L15Run):List RV:=[.ow none (List.map Agent.ds c.n.agents),.ow none (List.map AO c.trace),.int .i64 c.peak]
attribute [go_sem] L15Run.ds_eq
theorem L15Run.ds_len (c:L15Run):c.ds.length=3:=by rw [L15Run.ds_eq]; rfl
def L15Run.dz (c:L15Run):List D:=[.fz (List.map Agent.ds c.n.agents),.fz (List.map AO c.trace),.int .i64 c.peak]
@[go_sem] theorem L15Run.dz_eq (c:L15Run):c.dz=[.fz (List.map Agent.ds c.n.agents),.fz (List.map AO c.trace),.int .i64 c.peak] :=rfl
@[go_sem] theorem L15Run.dz_er (l:List L15Run):erR (List.map L15Run.dz l)=List.map L15Run.ds l:=Ms (fun c=>by rw [L15Run.ds_eq]; simp only [L15Run.dz,erC,er]) l
end Go.Proofs.YtckcfdggbbabfaaGreat.Ab
namespace Go.Proofs.YtckcfdggbbabfaaGreat.Ab
set_option linter.unusedVariables false
set_option linter.unusedSimpArgs false
set_option maxRecDepth 20000
set_option maxHeartbeats 4000000
open Go.RowKit
def De:Nat→(List Int)→Int→Option (Bool)
 |0,_,_=>none
 |n+1,a0,p0_0=>(if (decide (p0_0<((List.length a0:Nat):Int)))=true then (Option.bind (at? a0 p0_0) fun v7002=>(Option.bind (Ci v7002 0 600) fun v7004=>(if (!v7004)=true then (some false) else (De n a0 (IntKind.i64.wrap (p0_0+1)))))) else (some true))
def GD (a0:List Int):Option (Bool):=
 (if (decide (200<((List.length a0:Nat):Int)))=true then (some false) else (De fuel a0 0))
def GE (p1_0:Bool):Option (Int):=
 (if p1_0=true then (some 2) else (some 0))
def EP (a2:List Int) (a3:Int) (p0_0:Bool):Option (Int):=
 (if p0_0=true then (some 1) else (Option.bind (GD a2) fun v4001=>(if (!v4001)=true then (GE true) else (Option.bind (Ci a3 0 4000) fun v4005=>(GE (!v4005))))))
def JA (a0:List Net) (a1:Net) (a2:List Int) (a3:Int):Option (Int):=
 (Option.bind (KO a0) fun v2001=>(if (!v2001)=true then (EP a2 a3 true) else (Option.bind (K3 a1) fun v2005=>(EP a2 a3 (!v2005)))))
def K4 (a0:Net):Option (L15Run):=
 (Option.bind (MB a0) fun v2001=>(some (⟨v2001,[],((List.length a0.agents:Nat):Int)⟩:L15Run)))
def Ha (a0:List Net) (a1:L15Run) (a2:Pair):Option (Int × L15Run):=
 (Option.bind (at? a1.n.agents a2.a) fun v2007=>(Option.bind (at? a1.n.agents a2.b) fun v2015=>(Option.bind (GU v2007 v2015) fun v2016=>(Option.bind (IS a0 a1.n a2.a a2.b) fun v3008=>(if (!decide (v3008.1 =0))=true then (some (v3008.1,(⟨v3008.2,a1.trace,a1.peak⟩:L15Run))) else (Option.bind (app? a1.trace [v2016]) fun v6007=>(Option.bind (Ik v3008.2) fun v7008=>(Option.bind (HD a1.peak v7008) fun v7009=>(some (0,(⟨v3008.2,v6007,v7009⟩:L15Run)))))))))))
mutual
def Bz:Nat→(List Net)→Int→Int→(List Agent)→(List Int)→Int→(List (List Int))→Option ((List (List Int)) × Int)
 |0,_,_,_,_,_,_,_=>none
 |n+1,a0,a2,a3,p0_0,p0_1,p0_2,p0_3=>(Option.bind (Gk (⟨p0_0⟩:Net)) fun v7003=>(Option.bind (HY v7003) fun v8003=>(if (decide (((List.length v8003:Nat):Int)=0))=true then (some (p0_3,0)) else (if (decide (a2<((List.length v8003:Nat):Int)))=true then (Option.bind (cutL v8003 0 a2) fun v12002=>(Ec n a0 a2 a3 p0_1 p0_2 p0_3 v7003 v12002)) else (Ec n a0 a2 a3 p0_1 p0_2 p0_3 v7003 v8003)))))
def Ec:Nat→(List Net)→Int→Int→(List Int)→Int→(List (List Int))→Net→(List Pair)→Option ((List (List Int)) × Int)
 |0,_,_,_,_,_,_,_,_=>none
 |n+1,a0,a2,a3,p0_1,p0_2,p0_3,v7003,p1_0=>(if (decide (a3<(IntKind.i64.wrap (((List.length p0_1:Nat):Int)+((List.length p1_0:Nat):Int)))))=true then (some ([],12)) else (Ce n a0 a2 a3 p0_1 p0_3 p1_0 v7003.agents p0_1 p0_2 0))
def Ce:Nat→(List Net)→Int→Int→(List Int)→(List (List Int))→(List Pair)→(List Agent)→(List Int)→Int→Int→Option ((List (List Int)) × Int)
 |0,_,_,_,_,_,_,_,_,_,_=>none
 |n+1,a0,a2,a3,p0_1,p0_3,p1_0,p3_0,p3_1,p3_2,p3_3=>(if (decide (p3_3<((List.length p1_0:Nat):Int)))=true then (Option.bind (at? p1_0 p3_3) fun v19004=>(Option.bind (Ha a0 (⟨(⟨p3_0⟩:Net),p3_1,p3_2⟩:L15Run) v19004) fun v19006=>(if (!decide (v19006.1 =0))=true then (some ([],v19006.1)) else (Ce n a0 a2 a3 p0_1 p0_3 p1_0 v19006.2.n.agents v19006.2.trace v19006.2.peak (IntKind.i64.wrap (p3_3+1)))))) else (Option.bind (cutL p3_1 ((List.length p0_1:Nat):Int) ((List.length p3_1:Nat):Int)) fun v22006=>(Option.bind (H2 v22006) fun v22007=>(Option.bind (app? p0_3 [v22007]) fun v22009=>(Bz n a0 a2 a3 p3_0 p3_1 p3_2 v22009)))))
end
def En (a0:List Net) (a1:Net) (a2:Int) (a3:Int):Option ((List (List Int)) × Int):=
 (Option.bind (JA a0 a1 [] a3) fun v2003=>(if (!decide (v2003=0))=true then (some ([],v2003)) else (Option.bind (K4 a1) fun v5001=>(Bz fuel a0 a2 a3 v5001.n.agents v5001.trace v5001.peak []))))
def HF (a0:Int):Option (Bool):=
 (if (decide (a0<0))=true then (some true) else (some (decide (600<a0))))
def E9 (a0:List Int):Option (Bool):=
 (if (decide (((List.length a0:Nat):Int)≤200))=true then (Option.bind (BK a0 (fun y0=>HF y0)) fun v2005=>(some (!v2005))) else (some false))
def IV (a0:List Net) (a1:Net):Option (Unit):=
 (Option.bind (FC a0 a1) fun v2002=>(Option.bind (rep? 7 (0:Int)) fun v2003=>(some ())))
def Dn (a0:List Net) (a1:Net) (p1_0:Bool):Option (Int):=
 (if p1_0=true then (some 2) else (Option.bind (IV a0 a1) fun v6002=>(some 0)))
def Do (a0:List Net) (a1:Net) (a2:List Int) (a3:Int) (p0_0:Bool):Option (Int):=
 (if p0_0=true then (some 1) else (Option.bind (E9 a2) fun v4001=>(if (!v4001)=true then (Dn a0 a1 true) else (if (decide (a3<0))=true then (Dn a0 a1 true) else (Dn a0 a1 (decide (4000<a3)))))))
def H4 (a0:List Net) (a1:Net) (a2:List Int) (a3:Int):Option (Int):=
 (Option.bind (Ed a0) fun v2001=>(if (!v2001)=true then (Do a0 a1 a2 a3 true) else (Option.bind (Hb a1) fun v2005=>(Do a0 a1 a2 a3 (!v2005)))))
end Go.Proofs.YtckcfdggbbabfaaGreat.Ab
