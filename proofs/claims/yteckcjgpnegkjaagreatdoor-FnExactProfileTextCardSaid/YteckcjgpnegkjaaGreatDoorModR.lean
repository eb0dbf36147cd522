/-
  Data of the program as Lean types; how they lie in memory. Printed by wip/ab/gen.py.
-/
import Derived.Test.YteckcjgpnegkjaaGreatDoorAbY
import Derived.Test.YteckcjgpnegkjaaGreatDoorModG
namespace Go.Proofs.YteckcjgpnegkjaaGreatDoor.Ab
set_option linter.unusedVariables false
set_option linter.unusedSimpArgs false
set_option maxRecDepth 20000
set_option maxHeartbeats 4000000
open Go.RowKit
structure L15Run where
 n:Net
 trace:List Int
 peak:Int
def L15Run.ds (c:L15Run):List D:=[.sl (c.n.agents.map Agent.ds),.sl (c.trace.map AS),.int .i64 c.peak]
theorem L15Run.ds_eq (c:L15Run):c.ds=[.sl (c.n.agents.map Agent.ds),.sl (c.trace.map AS),.int .i64 c.peak] :=rfl
@[go_sem] def L15Run.avs (c:L15Run):List AV:=[.ro (c.n.agents.map Agent.ds),.ro (c.trace.map AS),.int .i64 c.peak]
@[go_sem] def L15Run.rv (c:L15Run):List RV:=[.ow (some 5) (c.n.agents.map Agent.ds),.ow (some 1) (c.trace.map AS),.int .i64 c.peak]
@[go_sem] def L15Run.rvn (c:L15Run):List RV:=[.ow none (c.n.agents.map Agent.ds),.ow none (c.trace.map AS),.int .i64 c.peak]
attribute [go_sem] L15Run.ds_eq
theorem L15Run.ds_len (c:L15Run):c.ds.length=3:=by rw [L15Run.ds_eq]; rfl
def L15Run.dz (c:L15Run):List D:=[.fz (c.n.agents.map Agent.ds),.fz (c.trace.map AS),.int .i64 c.peak]
@[go_sem] theorem L15Run.dz_eq (c:L15Run):c.dz=[.fz (c.n.agents.map Agent.ds),.fz (c.trace.map AS),.int .i64 c.peak] :=rfl
@[go_sem] theorem L15Run.dz_er (l:List L15Run):erR (l.map L15Run.dz)=List.map L15Run.ds l:=KL (fun c=>by rw [L15Run.ds_eq]; simp only [L15Run.dz,erC,er]) l
def DJ:Nat→(List Int)→Int→Option (Bool)
 |0,_,_=>none
 |n+1,a0,p0_0=>(if (decide (p0_0<(a0.length:Int)))=true then ((at? a0 p0_0).bind fun v7002=>((CJ v7002 0 600).bind fun v7004=>(if (!v7004)=true then (some false) else (DJ n a0 (IntKind.i64.wrap (p0_0+1)))))) else (some true))
def Fh (a0:List Int):Option (Bool):=
 (if (decide (200<(a0.length:Int)))=true then (some false) else (DJ fuel a0 0))
def Fi (p1_0:Bool):Option (Int):=
 (if p1_0=true then (some 2) else (some 0))
def Du (a2:List Int) (a3:Int) (p0_0:Bool):Option (Int):=
 (if p0_0=true then (some 1) else ((Fh a2).bind fun v4001=>(if (!v4001)=true then (Fi true) else ((CJ a3 0 4000).bind fun v4005=>(Fi (!v4005))))))
def IY (a0:List Net) (a1:Net) (a2:List Int) (a3:Int):Option (Int):=
 ((Jk a0).bind fun v2001=>(if (!v2001)=true then (Du a2 a3 true) else ((KO a1).bind fun v2005=>(Du a2 a3 (!v2005)))))
mutual
def Bx:Nat→Net→(List Pair)→Int→Option ((List Pair))
 |0,_,_,_=>none
 |n+1,a0,p2_0,p2_1=>(if (decide (p2_1<(a0.agents.length:Int)))=true then ((at? a0.agents p2_1).bind fun v6005=>(if (decide (v6005.kind=0))=true then (Bx n a0 p2_0 (IntKind.i64.wrap (p2_1+1))) else ((at? a0.agents p2_1).bind fun v7005=>((at? v7005.ports 0).bind fun v7008=>(if (decide (v7008.slot=0))=true then (Es n a0 p2_0 p2_1 v7008 (decide (p2_1<v7008.agent))) else (Es n a0 p2_0 p2_1 v7008 false)))))) else (some p2_0))
def Es:Nat→Net→(List Pair)→Int→Port→Bool→Option ((List Pair))
 |0,_,_,_,_,_=>none
 |n+1,a0,p2_0,p2_1,v7008,p3_0=>(if p3_0=true then ((app? p2_0 [(⟨p2_1,v7008.agent⟩:Pair)]).bind fun v9006=>(Bx n a0 v9006 (IntKind.i64.wrap (p2_1+1)))) else (Bx n a0 p2_0 (IntKind.i64.wrap (p2_1+1))))
end
def Gp (a0:Net):Option ((List Pair)):=
 (Bx fuel a0 [] 1)
def KP (a0:Net):Option (L15Run):=
 ((LQ a0).bind fun v2001=>(some (⟨v2001,[],(a0.agents.length:Int)⟩:L15Run)))
def Gq (a0:List Net) (a1:L15Run) (a2:Pair):Option (Int × L15Run):=
 ((at? a1.n.agents a2.a).bind fun v2007=>((at? a1.n.agents a2.b).bind fun v2015=>((Fs v2007 v2015).bind fun v2016=>((Hk a0 a1.n a2.a a2.b).bind fun v3008=>(if (!decide (v3008.1 =0))=true then (some (v3008.1,(⟨v3008.2,a1.trace,a1.peak⟩:L15Run))) else ((app? a1.trace [v2016]).bind fun v6007=>((H6 v3008.2).bind fun v7008=>((Eh a1.peak v7008).bind fun v7009=>(some (0,(⟨v3008.2,v6007,v7009⟩:L15Run)))))))))))
mutual
def By:Nat→(List Net)→Int→Int→(List Agent)→(List Int)→Int→(List (List Int))→Option ((List (List Int)) × Int)
 |0,_,_,_,_,_,_,_=>none
 |n+1,a0,a2,a3,p0_0,p0_1,p0_2,p0_3=>((F7 (⟨p0_0⟩:Net)).bind fun v7003=>((Gp v7003).bind fun v8003=>(if (decide ((v8003.length:Int)=0))=true then (some (p0_3,0)) else (if (decide (a2<(v8003.length:Int)))=true then ((cutL v8003 0 a2).bind fun v12002=>(D8 n a0 a2 a3 p0_1 p0_2 p0_3 v7003 v12002)) else (D8 n a0 a2 a3 p0_1 p0_2 p0_3 v7003 v8003)))))
def D8:Nat→(List Net)→Int→Int→(List Int)→Int→(List (List Int))→Net→(List Pair)→Option ((List (List Int)) × Int)
 |0,_,_,_,_,_,_,_,_=>none
 |n+1,a0,a2,a3,p0_1,p0_2,p0_3,v7003,p1_0=>(if (decide (a3<(IntKind.i64.wrap ((p0_1.length:Int)+(p1_0.length:Int)))))=true then (some ([],12)) else (CV n a0 a2 a3 p0_1 p0_3 p1_0 v7003.agents p0_1 p0_2 0))
def CV:Nat→(List Net)→Int→Int→(List Int)→(List (List Int))→(List Pair)→(List Agent)→(List Int)→Int→Int→Option ((List (List Int)) × Int)
 |0,_,_,_,_,_,_,_,_,_,_=>none
 |n+1,a0,a2,a3,p0_1,p0_3,p1_0,p3_0,p3_1,p3_2,p3_3=>(if (decide (p3_3<(p1_0.length:Int)))=true then ((at? p1_0 p3_3).bind fun v19004=>((Gq a0 (⟨(⟨p3_0⟩:Net),p3_1,p3_2⟩:L15Run) v19004).bind fun v19006=>(if (!decide (v19006.1 =0))=true then (some ([],v19006.1)) else (CV n a0 a2 a3 p0_1 p0_3 p1_0 v19006.2.n.agents v19006.2.trace v19006.2.peak (IntKind.i64.wrap (p3_3+1)))))) else ((cutL p3_1 (p0_1.length:Int) (p3_1.length:Int)).bind fun v22006=>((HI v22006).bind fun v22007=>((app? p0_3 [v22007]).bind fun v22009=>(By n a0 a2 a3 p3_0 p3_1 p3_2 v22009)))))
end
def HK (a0:List Net) (a1:Net) (a2:Int) (a3:Int):Option ((List (List Int)) × Int):=
 ((IY a0 a1 [] a3).bind fun v2003=>(if (!decide (v2003=0))=true then (some ([],v2003)) else ((KP a1).bind fun v5001=>(By fuel a0 a2 a3 v5001.n.agents v5001.trace v5001.peak []))))
def GS (a0:Int):Option (Bool):=
 (if (decide (a0<0))=true then (some true) else (some (decide (600<a0))))
def Ei (a0:List Int):Option (Bool):=
 (if (decide ((a0.length:Int)≤200))=true then ((Ba a0 (fun y0=>GS y0)).bind fun v2005=>(some (!v2005))) else (some false))
def Hn (a0:List Net) (a1:Net):Option (Unit):=
 ((En a0 a1).bind fun v2002=>((rep? 7 (0:Int)).bind fun v2003=>(some ())))
def DO (a0:List Net) (a1:Net) (p1_0:Bool):Option (Int):=
 (if p1_0=true then (some 2) else ((Hn a0 a1).bind fun v6002=>(some 0)))
def DP (a0:List Net) (a1:Net) (a2:List Int) (a3:Int) (p0_0:Bool):Option (Int):=
 (if p0_0=true then (some 1) else ((Ei a2).bind fun v4001=>(if (!v4001)=true then (DO a0 a1 true) else (if (decide (a3<0))=true then (DO a0 a1 true) else (DO a0 a1 (decide (4000<a3)))))))
def HM (a0:List Net) (a1:Net) (a2:List Int) (a3:Int):Option (Int):=
 ((D9 a0).bind fun v2001=>(if (!v2001)=true then (DP a0 a1 a2 a3 true) else ((Gr a1).bind fun v2005=>(DP a0 a1 a2 a3 (!v2005)))))
end Go.Proofs.YteckcjgpnegkjaaGreatDoor.Ab
