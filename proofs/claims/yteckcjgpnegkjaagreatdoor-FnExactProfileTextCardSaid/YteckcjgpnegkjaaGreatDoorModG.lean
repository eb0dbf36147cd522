/-
  Models of the functions. Printed by wip/ab/gen.py.
-/
import Derived.Test.YteckcjgpnegkjaaGreatDoorModC
import Derived.Test.YteckcjgpnegkjaaGreatDoorAbY
namespace Go.Proofs.YteckcjgpnegkjaaGreatDoor.Ab
set_option linter.unusedVariables false
set_option linter.unusedSimpArgs false
set_option maxRecDepth 20000
set_option maxHeartbeats 4000000
open Go.RowKit
def Ag (a0:Rewriter) (a1:Int) (a2:Int) (a3:Int) (a4:List Int) (a5:Int):Option (Int × Rewriter):=
 ((DI a4).bind fun v2010=>((rep? a5 (⟨0,0⟩:Port)).bind fun v2012=>((app? a0.net.agents [(⟨a1,a2,a3,v2010,v2012⟩:Agent)]).bind fun v2015=>(some ((IntKind.i64.wrap ((v2015.length:Int) - 1)),(⟨(⟨v2015⟩:Net),a0.book,a0.removed⟩:Rewriter))))))
def A7:Nat→Rewriter→Int→(List Int)→(List (Int × Bool))→(List Agent)→Int→Option (Rewriter)
 |0,_,_,_,_,_,_=>none
 |n+1,a0,a2,p1_2,p2_0,p2_1,p2_2=>(if (decide (p2_2<(p1_2.length:Int)))=true then ((at? p1_2 p2_2).bind fun v16001=>((AU (⟨(⟨p2_1⟩:Net),a0.book,p2_0⟩:Rewriter) (⟨a2,(IntKind.i64.wrap (p2_2+1))⟩:Port) (⟨v16001,0⟩:Port)).bind fun v17007=>(A7 n a0 a2 p1_2 v17007.removed v17007.net.agents (IntKind.i64.wrap (p2_2+1))))) else (some (⟨(⟨p2_1⟩:Net),a0.book,p2_0⟩:Rewriter)))
def An:Nat→Rewriter→Int→Int→Agent→(Int × Rewriter)→(Int × Rewriter)→(List (Int × Bool))→(List Agent)→(List Int)→Int→Option (Rewriter)
 |0,_,_,_,_,_,_,_,_,_,_=>none
 |n+1,a0,a1,a2,v1006,v2012,v3012,p1_0,p1_1,p1_2,p1_3=>(if (decide (p1_3<(((List.length v1006.ports):Nat):Int)))=true then ((at? p1_1 a1).bind fun v8007=>((Ag (⟨(⟨p1_1⟩:Net),a0.book,p1_0⟩:Rewriter) 4 v8007.level 0 [] 3).bind fun v8010=>((CI v8010.2.net (⟨v8010.1,1⟩:Port) (⟨v2012.1,p1_3⟩:Port)).bind fun v9008=>((CI v9008 (⟨v8010.1,2⟩:Port) (⟨v3012.1,p1_3⟩:Port)).bind fun v10008=>((app? p1_2 [v8010.1]).bind fun v11003=>(An n a0 a1 a2 v1006 v2012 v3012 v8010.2.removed v10008.agents v11003 (IntKind.i64.wrap (p1_3+1)))))))) else ((AU (⟨(⟨p1_1⟩:Net),a0.book,p1_0⟩:Rewriter) (⟨a1,1⟩:Port) (⟨v2012.1,0⟩:Port)).bind fun v12005=>((AU (⟨v12005.net,a0.book,v12005.removed⟩:Rewriter) (⟨a1,2⟩:Port) (⟨v3012.1,0⟩:Port)).bind fun v13005=>(A7 fuel a0 a2 p1_2 v13005.removed v13005.net.agents 0))))
def Ck (a0:Rewriter) (a1:Int) (a2:Int):Option (Rewriter):=
 ((at? a0.net.agents a2).bind fun v1006=>((Ag a0 v1006.kind v1006.level v1006.value v1006.data (((List.length v1006.ports):Nat):Int)).bind fun v2012=>((Ag (⟨v2012.2.net,a0.book,v2012.2.removed⟩:Rewriter) v1006.kind v1006.level v1006.value v1006.data (((List.length v1006.ports):Nat):Int)).bind fun v3012=>(An fuel a0 a1 a2 v1006 v2012 v3012 v3012.2.removed v3012.2.net.agents [] 1))))
def G0 (a0:Bool):Option (Int):=
 (if a0=true then (some 1) else (some 0))
def Dg (a0:Int):Option (Int):=
 (some (IntKind.i64.wrap (IntKind.i32.wrap a0)))
def FN (a0:Int) (a1:Int) (a2:Int):Option (Int):=
 ((Dg a1).bind fun v2001=>((Dg a2).bind fun v2003=>(if (decide (a0=1))=true then ((Dg (IntKind.i64.wrap (v2001+v2003))).bind fun v5003=>(some v5003)) else (if (decide (a0=2))=true then ((Dg (IntKind.i64.wrap (v2001 - v2003))).bind fun v7003=>(some v7003)) else (if (decide (a0=3))=true then ((Dg (IntKind.i64.wrap (v2001*v2003))).bind fun v9003=>(some v9003)) else (if (decide (a0=4))=true then (if (decide (v2003=0))=true then (some 0) else ((nz? v2003).bind fun v13002=>((Dg (IntKind.i64.wrap (Int.tdiv v2001 v2003))).bind fun v13003=>(some v13003)))) else (if (decide (a0=5))=true then ((G0 (decide (v2001<v2003))).bind fun v15003=>(some v15003)) else (if (decide (a0=6))=true then ((G0 (decide (v2001=v2003))).bind fun v17003=>(some v17003)) else (some 0)))))))))
def Cd (a0:Rewriter) (a1:Int) (a2:Int):Option (Rewriter):=
 ((at? a0.net.agents a1).bind fun v1006=>((at? a0.net.agents a2).bind fun v1015=>(if (decide (v1015.kind=7))=true then ((Ag a0 8 v1015.level v1015.value [v1006.value] 2).bind fun v3007=>((AU (⟨v3007.2.net,a0.book,v3007.2.removed⟩:Rewriter) (⟨a2,1⟩:Port) (⟨v3007.1,0⟩:Port)).bind fun v4005=>((AU (⟨v4005.net,a0.book,v4005.removed⟩:Rewriter) (⟨a2,2⟩:Port) (⟨v3007.1,1⟩:Port)).bind fun v5005=>(some (⟨v5005.net,a0.book,v5005.removed⟩:Rewriter))))) else ((at? v1015.data 0).bind fun v6008=>((FN v1015.value v6008 v1006.value).bind fun v6011=>((Ag a0 6 0 v6011 [] 1).bind fun v6012=>((AU (⟨v6012.2.net,a0.book,v6012.2.removed⟩:Rewriter) (⟨a2,1⟩:Port) (⟨v6012.1,0⟩:Port)).bind fun v6014=>(some (⟨v6014.net,a0.book,v6014.removed⟩:Rewriter)))))))))
def BE:Nat→Rewriter→Int→Int→Int→Int→(List Int)→(List (Int × Bool))→(List Agent)→Int→Option (Rewriter)
 |0,_,_,_,_,_,_,_,_,_=>none
 |n+1,a0,a1,a2,p2_2,p2_3,p2_4,p4_0,p4_1,p4_2=>(if (decide (p4_2<(p2_4.length:Int)))=true then ((at? p2_4 p4_2).bind fun v15001=>((AU (⟨(⟨p4_1⟩:Net),a0.book,p4_0⟩:Rewriter) (⟨a1,(IntKind.i64.wrap (p4_2+1))⟩:Port) (⟨v15001,1⟩:Port)).bind fun v16007=>(BE n a0 a1 a2 p2_2 p2_3 p2_4 v16007.removed v16007.net.agents (IntKind.i64.wrap (p4_2+1))))) else ((AU (⟨(⟨p4_1⟩:Net),a0.book,p4_0⟩:Rewriter) (⟨a2,1⟩:Port) (⟨p2_2,p2_3⟩:Port)).bind fun v18004=>(some (⟨v18004.net,a0.book,v18004.removed⟩:Rewriter))))
def BP:Nat→Rewriter→Int→Int→Agent→Agent→(List (Int × Bool))→(List Agent)→Int→Int→(List Int)→Int→Option (Rewriter)
 |0,_,_,_,_,_,_,_,_,_,_,_=>none
 |n+1,a0,a1,a2,v1006,v1014,p2_0,p2_1,p2_2,p2_3,p2_4,p2_5=>(if (decide (p2_5<(IntKind.i64.wrap ((((List.length v1006.ports):Nat):Int) - 1))))=true then ((Ag (⟨(⟨p2_1⟩:Net),a0.book,p2_0⟩:Rewriter) 3 v1014.level 0 [] 3).bind fun v8003=>((CI v8003.2.net (⟨v8003.1,0⟩:Port) (⟨p2_2,p2_3⟩:Port)).bind fun v9006=>((app? p2_4 [v8003.1]).bind fun v11003=>(BP n a0 a1 a2 v1006 v1014 v8003.2.removed v9006.agents v8003.1 2 v11003 (IntKind.i64.wrap (p2_5+1)))))) else (BE fuel a0 a1 a2 p2_2 p2_3 p2_4 p2_0 p2_1 0))
def Dh (a0:Rewriter) (a1:Int) (a2:Int) (v1006:Agent) (v1014:Agent) (v4009:Int × Rewriter):Option (Rewriter):=
 (BP fuel a0 a1 a2 v1006 v1014 v4009.2.removed v4009.2.net.agents v4009.1 0 [] 0)
def Br (a0:Rewriter) (a1:Int) (a2:Int):Option (Rewriter):=
 ((at? a0.net.agents a1).bind fun v1006=>((at? a0.net.agents a2).bind fun v1014=>(if (decide (v1006.kind=6))=true then ((G0 (decide (v1006.value=0))).bind fun v3011=>((at? v1014.data v3011).bind fun v3012=>((Ag a0 12 v1014.level v3012 [] 1).bind fun v3014=>((AU (⟨v3014.2.net,a0.book,v3014.2.removed⟩:Rewriter) (⟨a2,1⟩:Port) (⟨v3014.1,0⟩:Port)).bind fun v3016=>(some (⟨v3016.net,a0.book,v3016.removed⟩:Rewriter)))))) else ((at? v1014.data v1006.value).bind fun v4007=>((Ag a0 12 v1014.level v4007 [] 1).bind fun v4009=>(Dh a0 a1 a2 v1006 v1014 v4009))))))
inductive HAgent where
 |full (a:Agent)
 |gone (a:Agent)
def HAgent.ds:HAgent→List D
 | .full a=>a.ds
 | .gone a=>[.int .i64 a.kind,.int .i64 a.level,.int .i64 a.value,.gone,.gone]
def HAgent.full?:HAgent→Option Agent
 | .full a=>some a
 | .gone _=>none
theorem HAgent.full_some {h:HAgent} {a:Agent} (e:h.full?=some a):h= .full a:=by
 cases h with
 |full b=>cases e; rfl
 |gone b=>cases e
@[go_sem] theorem HAgent.ds_full (a:Agent):(HAgent.full a).ds =[.int .i64 a.kind,.int .i64 a.level,.int .i64 a.value,.sl (a.data.map AS),.sl (a.ports.map Port.ds)] :=by
 rw [HAgent.ds,Agent.ds_eq]
theorem HAgent.ds_len (h:HAgent):h.ds.length=5:=by
 cases h with
 |full a=>rw [HAgent.ds_full]; rfl
 |gone a=>rfl
@[go_sem] theorem HAgent.map_full (l:List Agent):List.map HAgent.ds (l.map HAgent.full)=List.map Agent.ds l:=by
 rw [List.map_map]
 rfl
theorem HAgent.puts {hs:List HAgent} {i:Int} {a:Agent} (h:at? hs i=some (.full a)):putR [(5,Int.toNat i,4)] (putR [(5,Int.toNat i,3)] (hs.map HAgent.ds) .gone) .gone =List.map HAgent.ds (List.set hs (Int.toNat i) (.gone a)):=by
 have h1:=AX (f:=HAgent.ds) h
 rw [HAgent.ds_full] at h1
 rw [ND h1 (d':=.sl (a.data.map AS)) rfl,ND (ii h1) (d':=.sl (a.ports.map Port.ds)) rfl,List.set_set,List.map_set]
 rfl
mutual
def Ao:Nat→Rewriter→Int→Port→(List Agent)→(List Agent)→(List HAgent)→Int→Option (Rewriter)
 |0,_,_,_,_,_,_,_=>none
 |n+1,a0,a2,v3001,v4002,p5_0,p5_1,p5_2=>(if (decide (p5_2<(v4002.length:Int)))=true then ((at? p5_1 p5_2).bind fun v6000=>((HAgent.full? v6000).bind fun v6001_156=>(BJ n a0 a2 p5_0 p5_1 p5_2 v3001 v4002 v6001_156 v6001_156.ports 0))) else ((CI (⟨p5_0⟩:Net) (⟨a2,0⟩:Port) (⟨(IntKind.i64.wrap (v3001.agent+(IntKind.i64.wrap ((a0.net.agents.length:Int) - 1)))),v3001.slot⟩:Port)).bind fun v14012=>(some (⟨v14012,a0.book,a0.removed⟩:Rewriter))))
def BJ:Nat→Rewriter→Int→(List Agent)→(List HAgent)→Int→Port→(List Agent)→Agent→(List Port)→Int→Option (Rewriter)
 |0,_,_,_,_,_,_,_,_,_,_=>none
 |n+1,a0,a2,p5_0,p5_1,p5_2,v3001,v4002,v6001_156,p9_0,p9_1=>(if (decide (p9_1<(v6001_156.ports.length:Int)))=true then ((at? p9_0 p9_1).bind fun v10003=>((at? p9_0 p9_1).bind fun v10008=>((C0 p9_0 p9_1 (⟨(IntKind.i64.wrap (v10003.agent+(IntKind.i64.wrap ((a0.net.agents.length:Int) - 1)))),v10008.slot⟩:Port)).bind fun v10010_168=>(BJ n a0 a2 p5_0 p5_1 p5_2 v3001 v4002 v6001_156 v10010_168 (IntKind.i64.wrap (p9_1+1)))))) else ((app? p5_0 [(⟨v6001_156.kind,v6001_156.level,v6001_156.value,v6001_156.data,p9_0⟩:Agent)]).bind fun v12008=>(Ao n a0 a2 v3001 v4002 v12008 (List.set p5_1 (Int.toNat p5_2) (HAgent.gone v6001_156)) (IntKind.i64.wrap (p5_2+1)))))
end
def Di (a0:Rewriter) (a1:Int) (a2:Int):Option (Rewriter):=
 ((at? a0.net.agents a1).bind fun v1010=>((at? a0.book v1010.value).bind fun v1013=>((at? a0.net.agents a1).bind fun v1021=>((H4 v1013 v1021.level).bind fun v1024=>((Ct v1024.1 (⟨0,0⟩:Port)).bind fun v3001=>((cutL v1024.1.agents 1 ((List.length v1024.1.agents :Nat):Int)).bind fun v4002=>(Ao fuel a0 a2 v3001 v4002 a0.net.agents (v4002.map HAgent.full) 0)))))))
def Ae (a0:Rewriter) (v2002:Int × Int × Int × Int) (p2_0:List (Int × Bool)) (p2_1:List Agent):Option (Int × Rewriter):=
 ((BO (⟨(⟨p2_1⟩:Net),a0.book,p2_0⟩:Rewriter) [v2002.2.1,v2002.2.2.1]).bind fun v27004=>(some (0,(⟨v27004.net,a0.book,v27004.removed⟩:Rewriter))))
def Ak:Nat→Rewriter→(Int × Int × Int × Int)→(List (Int × Bool))→(List Agent)→Int→Option (Int × Rewriter)
 |0,_,_,_,_,_=>none
 |n+1,a0,v2002,p3_0,p3_1,p3_2=>((at? p3_1 v2002.2.2.1).bind fun v16007=>(if (decide (p3_2<(v16007.ports.length:Int)))=true then ((Ag (⟨(⟨p3_1⟩:Net),a0.book,p3_0⟩:Rewriter) 5 0 0 [] 1).bind fun v18005=>((AU (⟨v18005.2.net,a0.book,v18005.2.removed⟩:Rewriter) (⟨v2002.2.2.1,p3_2⟩:Port) (⟨v18005.1,0⟩:Port)).bind fun v18007=>(Ak n a0 v2002 v18007.removed v18007.net.agents (IntKind.i64.wrap (p3_2+1))))) else (Ae a0 v2002 p3_0 p3_1)))
def BU (a0:Rewriter) (v2002:Int × Int × Int × Int) (p0_0:Bool):Option (Int × Rewriter):=
 (if p0_0=true then ((B7 a0 (⟨v2002.2.1,1⟩:Port) (⟨v2002.2.2.1,1⟩:Port)).bind fun v10005=>((B7 (⟨v10005.net,a0.book,v10005.removed⟩:Rewriter) (⟨v2002.2.1,2⟩:Port) (⟨v2002.2.2.1,2⟩:Port)).bind fun v11005=>(Ae a0 v2002 v11005.removed v11005.net.agents))) else (if (decide (v2002.1 =3))=true then ((Ck a0 v2002.2.1 v2002.2.2.1).bind fun v13003=>(Ae a0 v2002 v13003.removed v13003.net.agents)) else (if (decide (v2002.1 =4))=true then (Ak fuel a0 v2002 a0.removed a0.net.agents 1) else (if (decide (v2002.1 =5))=true then ((Cd a0 v2002.2.1 v2002.2.2.1).bind fun v20003=>(Ae a0 v2002 v20003.removed v20003.net.agents)) else (if (decide (v2002.1 =6))=true then ((Br a0 v2002.2.1 v2002.2.2.1).bind fun v22003=>(Ae a0 v2002 v22003.removed v22003.net.agents)) else (if (decide (v2002.1 =7))=true then ((Di a0 v2002.2.1 v2002.2.2.1).bind fun v24003=>((BO (⟨v24003.net,a0.book,v24003.removed⟩:Rewriter) [v2002.2.1]).bind fun v25003=>(some (0,(⟨v25003.net,a0.book,v25003.removed⟩:Rewriter))))) else (Ae a0 v2002 a0.removed a0.net.agents)))))))
def Aj (a0:Rewriter) (a1:Pair):Option (Int × Rewriter):=
 ((CC a0 a1).bind fun v2002=>(if (!decide (v2002.2.2.2 =0))=true then (some (v2002.2.2.2,a0)) else ((D5 a0).bind fun v5001=>((Df a0 v2002.1 v2002.2.1 v2002.2.2.1).bind fun v5006=>(if (decide (600<(IntKind.i64.wrap (v5001+v5006))))=true then (some (4,a0)) else (if (decide (v2002.1 =1))=true then (BU a0 v2002 (decide (v2002.1 =1))) else (BU a0 v2002 (decide (v2002.1 =2)))))))))
end Go.Proofs.YteckcjgpnegkjaaGreatDoor.Ab
