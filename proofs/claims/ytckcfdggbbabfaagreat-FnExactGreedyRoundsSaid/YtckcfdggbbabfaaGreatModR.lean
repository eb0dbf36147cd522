/-
  Data of the program as Lean types; how they lie in memory. Printed by wip/ab/gen.py.
-/
import Derived.Test.YtckcfdggbbabfaaGreatAbY
import Derived.Test.YtckcfdggbbabfaaGreatModG
namespace Go.Proofs.YtckcfdggbbabfaaGreat.Ab
set_option linter.unusedVariables false
set_option linter.unusedSimpArgs false
set_option maxRecDepth 20000
set_option maxHeartbeats 4000000
open Go.RowKit
structure L15Run where
 n:Net
 trace:List Int
 peak:Int
def L15Run.ds (c:L15Run):List D:=[.sl (List.map Agent.ds c.n.agents),.sl (List.map AY c.trace),.int .i64 c.peak]
theorem L15Run.ds_eq (c:L15Run):c.ds=[.sl (List.map Agent.ds c.n.agents),.sl (List.map AY c.trace),.int .i64 c.peak] :=rfl
@[go_sem] def L15Run.avs (c:L15Run):List AV:=[.ro (List.map Agent.ds c.n.agents),.ro (List.map AY c.trace),.int .i64 c.peak]
@[go_sem] def L15Run.rv (c:L15Run):List RV:=[.ow (some 5) (List.map Agent.ds c.n.agents),.ow (some 1) (List.map AY c.trace),.int .i64 c.peak]
@[go_sem] def L15Run.rvn (c:L15Run):List RV:=[.ow none (List.map Agent.ds c.n.agents),.ow none (List.map AY c.trace),.int .i64 c.peak]
attribute [go_sem] L15Run.ds_eq
theorem L15Run.ds_len (c:L15Run):c.ds.length=3:=by rw [L15Run.ds_eq]; rfl
def L15Run.dz (c:L15Run):List D:=[.fz (List.map Agent.ds c.n.agents),.fz (List.map AY c.trace),.int .i64 c.peak]
@[go_sem] theorem L15Run.dz_eq (c:L15Run):c.dz=[.fz (List.map Agent.ds c.n.agents),.fz (List.map AY c.trace),.int .i64 c.peak] :=rfl
@[go_sem] theorem L15Run.dz_er (l:List L15Run):erR (List.map L15Run.dz l)=List.map L15Run.ds l:=LV (fun c=>by rw [L15Run.ds_eq]; simp only [L15Run.dz,erC,er]) l
end Go.Proofs.YtckcfdggbbabfaaGreat.Ab
namespace Go.Proofs.YtckcfdggbbabfaaGreat.Ab
set_option linter.unusedVariables false
set_option linter.unusedSimpArgs false
set_option maxRecDepth 20000
set_option maxHeartbeats 4000000
open Go.RowKit
def C7:Nat→(List Int)→Int→Option (Bool)
 |0,_,_=>none
 |n+1,a0,p0_0=>(if (decide (p0_0<((List.length a0:Nat):Int)))=true then (Option.bind (at? a0 p0_0) fun v7002=>(Option.bind (CB v7002 0 600) fun v7004=>(if (!v7004)=true then (some false) else (C7 n a0 (IntKind.i64.wrap (p0_0+1)))))) else (some true))
def FL (a0:List Int):Option (Bool):=
 (if (decide (200<((List.length a0:Nat):Int)))=true then (some false) else (C7 fuel a0 0))
def FM (p1_0:Bool):Option (Int):=
 (if p1_0=true then (some 2) else (some 0))
def Dl (a2:List Int) (a3:Int) (p0_0:Bool):Option (Int):=
 (if p0_0=true then (some 1) else (Option.bind (FL a2) fun v4001=>(if (!v4001)=true then (FM true) else (Option.bind (CB a3 0 4000) fun v4005=>(FM (!v4005))))))
def GR (a0:List Net) (a1:Net) (a2:List Int) (a3:Int):Option (Int):=
 (Option.bind (I5 a0) fun v2001=>(if (!v2001)=true then (Dl a2 a3 true) else (Option.bind (Ji a1) fun v2005=>(Dl a2 a3 (!v2005)))))
def Jj (a0:Net):Option (L15Run):=
 (Option.bind (Ko a0) fun v2001=>(some (⟨v2001,[],((List.length a0.agents:Nat):Int)⟩:L15Run)))
def GS (a0:List Net) (a1:L15Run) (a2:Pair):Option (Int × L15Run):=
 (Option.bind (at? a1.n.agents a2.a) fun v2007=>(Option.bind (at? a1.n.agents a2.b) fun v2015=>(Option.bind (FV v2007 v2015) fun v2016=>(Option.bind (HN a0 a1.n a2.a a2.b) fun v3008=>(if (!decide (v3008.1 =0))=true then (some (v3008.1,(⟨v3008.2,a1.trace,a1.peak⟩:L15Run))) else (Option.bind (app? a1.trace [v2016]) fun v6007=>(Option.bind (He v3008.2) fun v7008=>(Option.bind (F8 a1.peak v7008) fun v7009=>(some (0,(⟨v3008.2,v6007,v7009⟩:L15Run)))))))))))
mutual
def Bs:Nat→(List Net)→Int→Int→(List Agent)→(List Int)→Int→(List (List Int))→Option ((List (List Int)) × Int)
 |0,_,_,_,_,_,_,_=>none
 |n+1,a0,a2,a3,p0_0,p0_1,p0_2,p0_3=>(Option.bind (Fj (⟨p0_0⟩:Net)) fun v7003=>(Option.bind (GQ v7003) fun v8003=>(if (decide (((List.length v8003:Nat):Int)=0))=true then (some (p0_3,0)) else (if (decide (a2<((List.length v8003:Nat):Int)))=true then (Option.bind (cutL v8003 0 a2) fun v12002=>(CC n a0 a2 a3 p0_1 p0_2 p0_3 v7003 v12002)) else (CC n a0 a2 a3 p0_1 p0_2 p0_3 v7003 v8003)))))
def CC:Nat→(List Net)→Int→Int→(List Int)→Int→(List (List Int))→Net→(List Pair)→Option ((List (List Int)) × Int)
 |0,_,_,_,_,_,_,_,_=>none
 |n+1,a0,a2,a3,p0_1,p0_2,p0_3,v7003,p1_0=>(if (decide (a3<(IntKind.i64.wrap (((List.length p0_1:Nat):Int)+((List.length p1_0:Nat):Int)))))=true then (some ([],12)) else (CN n a0 a2 a3 p0_1 p0_3 p1_0 v7003.agents p0_1 p0_2 0))
def CN:Nat→(List Net)→Int→Int→(List Int)→(List (List Int))→(List Pair)→(List Agent)→(List Int)→Int→Int→Option ((List (List Int)) × Int)
 |0,_,_,_,_,_,_,_,_,_,_=>none
 |n+1,a0,a2,a3,p0_1,p0_3,p1_0,p3_0,p3_1,p3_2,p3_3=>(if (decide (p3_3<((List.length p1_0:Nat):Int)))=true then (Option.bind (at? p1_0 p3_3) fun v19004=>(Option.bind (GS a0 (⟨(⟨p3_0⟩:Net),p3_1,p3_2⟩:L15Run) v19004) fun v19006=>(if (!decide (v19006.1 =0))=true then (some ([],v19006.1)) else (CN n a0 a2 a3 p0_1 p0_3 p1_0 v19006.2.n.agents v19006.2.trace v19006.2.peak (IntKind.i64.wrap (p3_3+1)))))) else (Option.bind (cutL p3_1 ((List.length p0_1:Nat):Int) ((List.length p3_1:Nat):Int)) fun v22006=>(Option.bind (Gz v22006) fun v22007=>(Option.bind (app? p0_3 [v22007]) fun v22009=>(Bs n a0 a2 a3 p3_0 p3_1 p3_2 v22009)))))
end
def IX (a0:List Net) (a1:Net) (a2:Int) (a3:Int):Option ((List (List Int)) × Int):=
 (Option.bind (GR a0 a1 [] a3) fun v2003=>(if (!decide (v2003=0))=true then (some ([],v2003)) else (Option.bind (Jj a1) fun v5001=>(Bs fuel a0 a2 a3 v5001.n.agents v5001.trace v5001.peak []))))
def F9 (a0:Int):Option (Bool):=
 (if (decide (a0<0))=true then (some true) else (some (decide (600<a0))))
def EO (a0:List Int):Option (Bool):=
 (if (decide (((List.length a0:Nat):Int)≤200))=true then (Option.bind (BU a0 (fun y0=>F9 y0)) fun v2005=>(some (!v2005))) else (some false))
def HO (a0:List Net) (a1:Net):Option (Unit):=
 (Option.bind (ES a0 a1) fun v2002=>(Option.bind (Nk 7 (0:Int)) fun v2003=>(some ())))
def DE (a0:List Net) (a1:Net) (p1_0:Bool):Option (Int):=
 (if p1_0=true then (some 2) else (Option.bind (HO a0 a1) fun v6002=>(some 0)))
def DF (a0:List Net) (a1:Net) (a2:List Int) (a3:Int) (p0_0:Bool):Option (Int):=
 (if p0_0=true then (some 1) else (Option.bind (EO a2) fun v4001=>(if (!v4001)=true then (DE a0 a1 true) else (if (decide (a3<0))=true then (DE a0 a1 true) else (DE a0 a1 (decide (4000<a3)))))))
def G1 (a0:List Net) (a1:Net) (a2:List Int) (a3:Int):Option (Int):=
 (Option.bind (Dw a0) fun v2001=>(if (!v2001)=true then (DF a0 a1 a2 a3 true) else (Option.bind (GT a1) fun v2005=>(DF a0 a1 a2 a3 (!v2005)))))
end Go.Proofs.YtckcfdggbbabfaaGreat.Ab
