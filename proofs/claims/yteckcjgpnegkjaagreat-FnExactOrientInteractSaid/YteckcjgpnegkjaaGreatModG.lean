/-
  Elements of a part of a slice of the call's own that have given their slices away.
-/
import Derived.Test.YteckcjgpnegkjaaGreatModC
import Derived.Test.YteckcjgpnegkjaaGreatAbY
import Derived.Test.YteckcjgpnegkjaaGreatModD
namespace Go.Proofs.YteckcjgpnegkjaaGreat.Ab
set_option linter.unusedVariables false
set_option linter.unusedSimpArgs false
open Go.RowKit
inductive HAgent where
 |full (a:Agent)
 |gone (a:Agent)
def HAgent.ds:HAgent→List D
 | .full a=>a.ds
 | .gone a=>[.int .i64 a.kind,.int .i64 a.level,.int .i64 a.value,.gone,.gone]
def HAgent.full?:HAgent→Option Agent
 | .full a=>some a
 | .gone _=>none
theorem HAgent.full_some {h:HAgent} {a:Agent} (e:h.full?=some a):h= .full a:=by
 cases h with
 |full b=>cases e; rfl
 |gone b=>cases e
@[go_sem] theorem HAgent.ds_full (a:Agent):(HAgent.full a).ds =[.int .i64 a.kind,.int .i64 a.level,.int .i64 a.value,.sl (a.data.map Ar),.sl (a.ports.map Port.ds)] :=by
 rw [HAgent.ds,Agent.ds_eq]
theorem HAgent.ds_len (h:HAgent):h.ds.length=5:=by
 cases h with
 |full a=>rw [HAgent.ds_full]; rfl
 |gone a=>rfl
@[go_sem] theorem HAgent.map_full (l:List Agent):List.map HAgent.ds (l.map HAgent.full)=List.map Agent.ds l:=by
 rw [List.map_map]
 rfl
theorem HAgent.puts {hs:List HAgent} {i:Int} {a:Agent} (h:at? hs i=some (.full a)):putR [(5,Int.toNat i,4)] (putR [(5,Int.toNat i,3)] (hs.map HAgent.ds) .gone) .gone =List.map HAgent.ds (List.set hs (Int.toNat i) (.gone a)):=by
 have h1:=AS (f:=HAgent.ds) h
 rw [HAgent.ds_full] at h1
 rw [Hk h1 (d':=.sl (a.data.map Ar)) rfl,Hk (ON h1) (d':=.sl (a.ports.map Port.ds)) rfl,List.set_set,List.map_set]
 rfl
set_option maxRecDepth 20000
set_option maxHeartbeats 4000000
mutual
def Au:Nat→Rewriter→Int→Port→(List Agent)→(List Agent)→(List HAgent)→Int→Option (Rewriter)
 |0,_,_,_,_,_,_,_=>none
 |n+1,a0,a2,v3001,v4002,p5_0,p5_1,p5_2=>(if (decide (p5_2<(v4002.length:Int)))=true then ((at? p5_1 p5_2).bind fun v6000=>((HAgent.full? v6000).bind fun v6001_156=>(BK n a0 a2 p5_0 p5_1 p5_2 v3001 v4002 v6001_156 v6001_156.ports 0))) else ((Ca (⟨p5_0⟩:Net) (⟨a2,0⟩:Port) (⟨(IntKind.i64.wrap (v3001.agent+(IntKind.i64.wrap ((a0.net.agents.length:Int) - 1)))),v3001.slot⟩:Port)).bind fun v14012=>(some (⟨v14012,a0.book,a0.removed⟩:Rewriter))))
def BK:Nat→Rewriter→Int→(List Agent)→(List HAgent)→Int→Port→(List Agent)→Agent→(List Port)→Int→Option (Rewriter)
 |0,_,_,_,_,_,_,_,_,_,_=>none
 |n+1,a0,a2,p5_0,p5_1,p5_2,v3001,v4002,v6001_156,p9_0,p9_1=>(if (decide (p9_1<(v6001_156.ports.length:Int)))=true then ((at? p9_0 p9_1).bind fun v10003=>((at? p9_0 p9_1).bind fun v10008=>((Bm p9_0 p9_1 (⟨(IntKind.i64.wrap (v10003.agent+(IntKind.i64.wrap ((a0.net.agents.length:Int) - 1)))),v10008.slot⟩:Port)).bind fun v10010_168=>(BK n a0 a2 p5_0 p5_1 p5_2 v3001 v4002 v6001_156 v10010_168 (IntKind.i64.wrap (p9_1+1)))))) else ((app? p5_0 [(⟨v6001_156.kind,v6001_156.level,v6001_156.value,v6001_156.data,p9_0⟩:Agent)]).bind fun v12008=>(Au n a0 a2 v3001 v4002 v12008 (List.set p5_1 (Int.toNat p5_2) (HAgent.gone v6001_156)) (IntKind.i64.wrap (p5_2+1)))))
end
def ED (a0:Rewriter) (a1:Int) (a2:Int):Option (Rewriter):=
 ((at? a0.net.agents a1).bind fun v1010=>((at? a0.book v1010.value).bind fun v1013=>((at? a0.net.agents a1).bind fun v1021=>((I5 v1013 v1021.level).bind fun v1024=>((Ct v1024.1 (⟨0,0⟩:Port)).bind fun v3001=>((cutL v1024.1.agents 1 ((List.length v1024.1.agents :Nat):Int)).bind fun v4002=>(Au fuel a0 a2 v3001 v4002 a0.net.agents (v4002.map HAgent.full) 0)))))))
def Ah (a0:Rewriter) (v2002:Int × Int × Int × Int) (p2_0:List (Int × Bool)) (p2_1:List Agent):Option (Int × Rewriter):=
 ((BX (⟨(⟨p2_1⟩:Net),a0.book,p2_0⟩:Rewriter) [v2002.2.1,v2002.2.2.1]).bind fun v27004=>(some (0,(⟨v27004.net,a0.book,v27004.removed⟩:Rewriter))))
def Ao:Nat→Rewriter→(Int × Int × Int × Int)→(List (Int × Bool))→(List Agent)→Int→Option (Int × Rewriter)
 |0,_,_,_,_,_=>none
 |n+1,a0,v2002,p3_0,p3_1,p3_2=>((at? p3_1 v2002.2.2.1).bind fun v16007=>(if (decide (p3_2<(v16007.ports.length:Int)))=true then ((Ak (⟨(⟨p3_1⟩:Net),a0.book,p3_0⟩:Rewriter) 5 0 0 [] 1).bind fun v18005=>((AW (⟨v18005.2.net,a0.book,v18005.2.removed⟩:Rewriter) (⟨v2002.2.2.1,p3_2⟩:Port) (⟨v18005.1,0⟩:Port)).bind fun v18007=>(Ao n a0 v2002 v18007.removed v18007.net.agents (IntKind.i64.wrap (p3_2+1))))) else (Ah a0 v2002 p3_0 p3_1)))
def Bc (a0:Rewriter) (v2002:Int × Int × Int × Int) (p0_0:Bool):Option (Int × Rewriter):=
 (if p0_0=true then ((CK a0 (⟨v2002.2.1,1⟩:Port) (⟨v2002.2.2.1,1⟩:Port)).bind fun v10005=>((CK (⟨v10005.net,a0.book,v10005.removed⟩:Rewriter) (⟨v2002.2.1,2⟩:Port) (⟨v2002.2.2.1,2⟩:Port)).bind fun v11005=>(Ah a0 v2002 v11005.removed v11005.net.agents))) else (if (decide (v2002.1 =3))=true then ((DE a0 v2002.2.1 v2002.2.2.1).bind fun v13003=>(Ah a0 v2002 v13003.removed v13003.net.agents)) else (if (decide (v2002.1 =4))=true then (Ao fuel a0 v2002 a0.removed a0.net.agents 1) else (if (decide (v2002.1 =5))=true then ((Cv a0 v2002.2.1 v2002.2.2.1).bind fun v20003=>(Ah a0 v2002 v20003.removed v20003.net.agents)) else (if (decide (v2002.1 =6))=true then ((B9 a0 v2002.2.1 v2002.2.2.1).bind fun v22003=>(Ah a0 v2002 v22003.removed v22003.net.agents)) else (if (decide (v2002.1 =7))=true then ((ED a0 v2002.2.1 v2002.2.2.1).bind fun v24003=>((BX (⟨v24003.net,a0.book,v24003.removed⟩:Rewriter) [v2002.2.1]).bind fun v25003=>(some (0,(⟨v25003.net,a0.book,v25003.removed⟩:Rewriter))))) else (Ah a0 v2002 a0.removed a0.net.agents)))))))
def Ac (a0:Rewriter) (a1:Pair):Option (Int × Rewriter):=
 ((Ad a0 a1).bind fun v2002=>(if (!decide (v2002.2.2.2 =0))=true then (some (v2002.2.2.2,a0)) else ((Cu a0).bind fun v5001=>((EA a0 v2002.1 v2002.2.1 v2002.2.2.1).bind fun v5006=>(if (decide (600<(IntKind.i64.wrap (v5001+v5006))))=true then (some (4,a0)) else (if (decide (v2002.1 =1))=true then (Bc a0 v2002 (decide (v2002.1 =1))) else (Bc a0 v2002 (decide (v2002.1 =2)))))))))
end Go.Proofs.YteckcjgpnegkjaaGreat.Ab
