/-
  Elements of a part of a slice of the call's own that have given their slices away.
-/
import Derived.Test.YtckcfdggbbabfaaGreatModC
import Derived.Test.YtckcfdggbbabfaaGreatAbY
import Derived.Test.YtckcfdggbbabfaaGreatModD
namespace Go.Proofs.YtckcfdggbbabfaaGreat.Ab
set_option linter.unusedVariables false
set_option linter.unusedSimpArgs false
open Go.RowKit
inductive HAgent where
 |full (a:Agent)
 |gone (a:Agent)
def HAgent.ds:HAgent→List D
 | .full a=>a.ds
 | .gone a=>[.int .i64 a.kind,.int .i64 a.level,.int .i64 a.value,.gone,.gone]
def HAgent.full?:HAgent→Option Agent
 | .full a=>some a
 | .gone _=>none
theorem HAgent.full_some {h:HAgent} {a:Agent} (e:h.full?=some a):h= .full a:=by
 cases h with
 |full b=>cases e; rfl
 |gone b=>cases e
@[go_sem] theorem HAgent.ds_full (a:Agent):(HAgent.full a).ds =[.int .i64 a.kind,.int .i64 a.level,.int .i64 a.value,.sl (List.map Au a.data),.sl (List.map Port.ds a.ports)] :=by
 rw [HAgent.ds,Agent.ds_eq]
theorem HAgent.ds_len (h:HAgent):h.ds.length=5:=by
 cases h with
 |full a=>rw [HAgent.ds_full]; rfl
 |gone a=>rfl
@[go_sem] theorem HAgent.map_full (l:List Agent):List.map HAgent.ds (List.map HAgent.full l)=List.map Agent.ds l:=by
 rw [List.map_map]
 rfl
theorem HAgent.puts {hs:List HAgent} {i:Int} {a:Agent} (h:at? hs i=some (.full a)):putR [(5,Int.toNat i,4)] (putR [(5,Int.toNat i,3)] (List.map HAgent.ds hs) .gone) .gone =List.map HAgent.ds (List.set hs (Int.toNat i) (.gone a)):=by
 have h1:=AU (f:=HAgent.ds) h
 rw [HAgent.ds_full] at h1
 rw [GX h1 (d':=.sl (List.map Au a.data)) rfl,GX (Ke h1) (d':=.sl (List.map Port.ds a.ports)) rfl,List.set_set,List.map_set]
 rfl
end Go.Proofs.YtckcfdggbbabfaaGreat.Ab
namespace Go.Proofs.YtckcfdggbbabfaaGreat.Ab
set_option linter.unusedVariables false
set_option linter.unusedSimpArgs false
set_option maxRecDepth 20000
set_option maxHeartbeats 4000000
open Go.RowKit
mutual
def Ap:Nat→Rewriter→Int→Port→(List Agent)→(List Agent)→(List HAgent)→Int→Option (Rewriter)
 |0,_,_,_,_,_,_,_=>none
 |n+1,a0,a2,v3001,v4002,p5_0,p5_1,p5_2=>(if (decide (p5_2<((List.length v4002:Nat):Int)))=true then (Option.bind (at? p5_1 p5_2) fun v6000=>(Option.bind (HAgent.full? v6000) fun v6001_156=>(BI n a0 a2 p5_0 p5_1 p5_2 v3001 v4002 v6001_156 v6001_156.ports 0))) else (Option.bind (CG (⟨p5_0⟩:Net) (⟨a2,0⟩:Port) (⟨(IntKind.i64.wrap (v3001.agent+(IntKind.i64.wrap (((List.length a0.net.agents:Nat):Int) - 1)))),v3001.slot⟩:Port)) fun v14012=>(some (⟨v14012,a0.book,a0.removed⟩:Rewriter))))
def BI:Nat→Rewriter→Int→(List Agent)→(List HAgent)→Int→Port→(List Agent)→Agent→(List Port)→Int→Option (Rewriter)
 |0,_,_,_,_,_,_,_,_,_,_=>none
 |n+1,a0,a2,p5_0,p5_1,p5_2,v3001,v4002,v6001_156,p9_0,p9_1=>(if (decide (p9_1<((List.length v6001_156.ports:Nat):Int)))=true then (Option.bind (at? p9_0 p9_1) fun v10003=>(Option.bind (at? p9_0 p9_1) fun v10008=>(Option.bind (CU p9_0 p9_1 (⟨(IntKind.i64.wrap (v10003.agent+(IntKind.i64.wrap (((List.length a0.net.agents:Nat):Int) - 1)))),v10008.slot⟩:Port)) fun v10010_168=>(BI n a0 a2 p5_0 p5_1 p5_2 v3001 v4002 v6001_156 v10010_168 (IntKind.i64.wrap (p9_1+1)))))) else (Option.bind (app? p5_0 [(⟨v6001_156.kind,v6001_156.level,v6001_156.value,v6001_156.data,p9_0⟩:Agent)]) fun v12008=>(Ap n a0 a2 v3001 v4002 v12008 (List.set p5_1 (Int.toNat p5_2) (HAgent.gone v6001_156)) (IntKind.i64.wrap (p5_2+1)))))
end
def Df (a0:Rewriter) (a1:Int) (a2:Int):Option (Rewriter):=
 (Option.bind (at? a0.net.agents a1) fun v1010=>(Option.bind (at? a0.book v1010.value) fun v1013=>(Option.bind (at? a0.net.agents a1) fun v1021=>(Option.bind (Hb v1013 v1021.level) fun v1024=>(Option.bind (Ct v1024.1 (⟨0,0⟩:Port)) fun v3001=>(Option.bind (cutL v1024.1.agents 1 ((List.length v1024.1.agents :Nat):Int)) fun v4002=>(Ap fuel a0 a2 v3001 v4002 a0.net.agents (List.map HAgent.full v4002) 0)))))))
end Go.Proofs.YtckcfdggbbabfaaGreat.Ab
namespace Go.Proofs.YtckcfdggbbabfaaGreat.Ab
set_option linter.unusedVariables false
set_option linter.unusedSimpArgs false
set_option maxRecDepth 20000
set_option maxHeartbeats 4000000
open Go.RowKit
def Ah (a0:Rewriter) (v2002:Int × Int × Int × Int) (p2_0:List (Int × Bool)) (p2_1:List Agent):Option (Int × Rewriter):=
 (Option.bind (BM (⟨(⟨p2_1⟩:Net),a0.book,p2_0⟩:Rewriter) [v2002.2.1,v2002.2.2.1]) fun v27004=>(some (0,(⟨v27004.net,a0.book,v27004.removed⟩:Rewriter))))
def Al:Nat→Rewriter→(Int × Int × Int × Int)→(List (Int × Bool))→(List Agent)→Int→Option (Int × Rewriter)
 |0,_,_,_,_,_=>none
 |n+1,a0,v2002,p3_0,p3_1,p3_2=>(Option.bind (at? p3_1 v2002.2.2.1) fun v16007=>(if (decide (p3_2<((List.length v16007.ports:Nat):Int)))=true then (Option.bind (Aj (⟨(⟨p3_1⟩:Net),a0.book,p3_0⟩:Rewriter) 5 0 0 [] 1) fun v18005=>(Option.bind (AX (⟨v18005.2.net,a0.book,v18005.2.removed⟩:Rewriter) (⟨v2002.2.2.1,p3_2⟩:Port) (⟨v18005.1,0⟩:Port)) fun v18007=>(Al n a0 v2002 v18007.removed v18007.net.agents (IntKind.i64.wrap (p3_2+1))))) else (Ah a0 v2002 p3_0 p3_1)))
def BS (a0:Rewriter) (v2002:Int × Int × Int × Int) (p0_0:Bool):Option (Int × Rewriter):=
 (if p0_0=true then (Option.bind (B0 a0 (⟨v2002.2.1,1⟩:Port) (⟨v2002.2.2.1,1⟩:Port)) fun v10005=>(Option.bind (B0 (⟨v10005.net,a0.book,v10005.removed⟩:Rewriter) (⟨v2002.2.1,2⟩:Port) (⟨v2002.2.2.1,2⟩:Port)) fun v11005=>(Ah a0 v2002 v11005.removed v11005.net.agents))) else (if (decide (v2002.1 =3))=true then (Option.bind (Cf a0 v2002.2.1 v2002.2.2.1) fun v13003=>(Ah a0 v2002 v13003.removed v13003.net.agents)) else (if (decide (v2002.1 =4))=true then (Al fuel a0 v2002 a0.removed a0.net.agents 1) else (if (decide (v2002.1 =5))=true then (Option.bind (CZ a0 v2002.2.1 v2002.2.2.1) fun v20003=>(Ah a0 v2002 v20003.removed v20003.net.agents)) else (if (decide (v2002.1 =6))=true then (Option.bind (Bt a0 v2002.2.1 v2002.2.2.1) fun v22003=>(Ah a0 v2002 v22003.removed v22003.net.agents)) else (if (decide (v2002.1 =7))=true then (Option.bind (Df a0 v2002.2.1 v2002.2.2.1) fun v24003=>(Option.bind (BM (⟨v24003.net,a0.book,v24003.removed⟩:Rewriter) [v2002.2.1]) fun v25003=>(some (0,(⟨v25003.net,a0.book,v25003.removed⟩:Rewriter))))) else (Ah a0 v2002 a0.removed a0.net.agents)))))))
def A6 (a0:Rewriter) (a1:Pair):Option (Int × Rewriter):=
 (Option.bind (CC a0 a1) fun v2002=>(if (!decide (v2002.2.2.2 =0))=true then (some (v2002.2.2.2,a0)) else (Option.bind (D1 a0) fun v5001=>(Option.bind (Dd a0 v2002.1 v2002.2.1 v2002.2.2.1) fun v5006=>(if (decide (600<(IntKind.i64.wrap (v5001+v5006))))=true then (some (4,a0)) else (if (decide (v2002.1 =1))=true then (BS a0 v2002 (decide (v2002.1 =1))) else (BS a0 v2002 (decide (v2002.1 =2)))))))))
end Go.Proofs.YtckcfdggbbabfaaGreat.Ab
namespace Go.Proofs.YtckcfdggbbabfaaGreat.Ab
set_option linter.unusedVariables false
set_option linter.unusedSimpArgs false
set_option maxRecDepth 20000
set_option maxHeartbeats 4000000
open Go.RowKit
end Go.Proofs.YtckcfdggbbabfaaGreat.Ab
namespace Go.Proofs.YtckcfdggbbabfaaGreat.Ab
set_option linter.unusedVariables false
set_option linter.unusedSimpArgs false
set_option maxRecDepth 20000
set_option maxHeartbeats 4000000
open Go.RowKit
def BU:Nat→(List Net)→(List Pair)→(List Agent)→Int→Option (Net × Int × Int)
 |0,_,_,_,_=>none
 |n+1,a0,v5000,p2_0,p2_1=>(if (decide (p2_1<((List.length v5000:Nat):Int)))=true then (Option.bind (at? v5000 p2_1) fun v9003=>(Option.bind (at? v5000 p2_1) fun v9008=>(Option.bind (Id a0 (⟨p2_0⟩:Net) v9003.a v9008.b) fun v9011=>(if (!decide (v9011.1 =0))=true then (some ((⟨[]⟩:Net),0,v9011.1)) else (BU n a0 v5000 v9011.2.agents (IntKind.i64.wrap (p2_1+1))))))) else (Option.bind (Hc (⟨p2_0⟩:Net)) fun v12000=>(some (v12000,((List.length v5000:Nat):Int),0))))
def B9 (a0:List Net) (a1:Net) (p0_0:Bool):Option (Net × Int × Int):=
 (if p0_0=true then (some ((⟨[]⟩:Net),0,1)) else (Option.bind (Kk a1) fun v4000=>(Option.bind (H1 a1) fun v5000=>(BU fuel a0 v5000 v4000.agents 0))))
def ET (a0:List Net) (a1:Net):Option (Net × Int × Int):=
 (Option.bind (I8 a0) fun v2001=>(if (!v2001)=true then (B9 a0 a1 true) else (Option.bind (Jj a1) fun v2004=>(B9 a0 a1 (!v2004)))))
def BV:Nat→Rewriter→(List Pair)→(List Agent)→(List (Int × Bool))→Int→Option (Net × Int × Int)
 |0,_,_,_,_,_=>none
 |n+1,v2002,v3000,p1_0,p1_1,p1_2=>(if (decide (p1_2<((List.length v3000:Nat):Int)))=true then (Option.bind (at? v3000 p1_2) fun v6000=>(Option.bind (A6 (⟨(⟨p1_0⟩:Net),v2002.book,p1_1⟩:Rewriter) v6000) fun v7002=>(if (!decide (v7002.1 =0))=true then (some ((⟨[]⟩:Net),0,v7002.1)) else (BV n v2002 v3000 v7002.2.net.agents v7002.2.removed (IntKind.i64.wrap (p1_2+1)))))) else (Option.bind (Cp (⟨(⟨p1_0⟩:Net),v2002.book,p1_1⟩:Rewriter)) fun v11001=>(some (v11001,((List.length v3000:Nat):Int),0))))
def FO (a0:List Net) (a1:Net):Option (Net × Int × Int):=
 (Option.bind (FJ a0 a1) fun v2002=>(Option.bind (Gy a1) fun v3000=>(BV fuel v2002 v3000 v2002.net.agents v2002.removed 0)))
def CA (a0:List Net) (a1:Net) (p0_0:Bool):Option (Net × Int × Int):=
 (if p0_0=true then (some ((⟨[]⟩:Net),0,1)) else (Option.bind (FO a0 a1) fun v4002=>(some (v4002.1,v4002.2.1,v4002.2.2))))
def DZ (a0:List Net) (a1:Net):Option (Net × Int × Int):=
 (Option.bind (D3 a0) fun v2001=>(if (!v2001)=true then (CA a0 a1 true) else (Option.bind (GZ a1) fun v2005=>(CA a0 a1 (!v2005)))))
def BP (v25002:Int × (List Agent)) (p2_0:Bool):Option (Bool):=
 (if p2_0=true then (some false) else (Option.bind (Ga (⟨v25002.2⟩:Net) 1) fun v36002=>(if (decide (v36002<0))=true then (some false) else (if (!decide (v36002=v25002.1))=true then (some false) else (some true)))))
def A8 (a0:List Net) (a1:Net) (v9004:Net × Int × Int) (v12002:Net × Int × Int) (p1_0:Bool):Option (Bool):=
 (if p1_0=true then (some false) else (Option.bind (Fh v12002.1 1) fun v25002=>(Option.bind (Ga (⟨v25002.2⟩:Net) 1) fun v27002=>(if (decide (v27002<0))=true then (some false) else (if (!decide (v27002=v25002.1))=true then (some false) else (Option.bind (F5 a0) fun v32001=>(Option.bind (F6 a1) fun v32003=>(Option.bind (DZ v32001 v32003) fun v32004=>(Option.bind (FP v32004.1 v9004.1) fun v33002=>(if (!v33002)=true then (BP v25002 true) else (if (!decide (v32004.2.1 =v9004.2.1))=true then (BP v25002 true) else (BP v25002 (!decide (v32004.2.2 =v9004.2.2))))))))))))))
def BQ (a0:List Net) (a1:Net) (v9004:Net × Int × Int) (v10001:(List Net)) (v11001:Net) (v12002:Net × Int × Int) (p0_0:Bool):Option (Bool):=
 (if p0_0=true then (some false) else (Option.bind (F5 a0) fun v15002=>(Option.bind (I9 v10001 v15002) fun v15003=>(if (!v15003)=true then (some false) else (Option.bind (F6 a1) fun v17002=>(Option.bind (FP v11001 v17002) fun v17003=>(if (!v17003)=true then (some false) else (Option.bind (Gb v10001 1) fun v20002=>(Option.bind (Fh v11001 v20002.1) fun v21002=>(if (decide (v21002.1 <0))=true then (A8 a0 a1 v9004 v12002 true) else (Option.bind (FP v12002.1 v9004.1) fun v22005=>(if (!v22005)=true then (A8 a0 a1 v9004 v12002 true) else (if (!decide (v12002.2.1 =v9004.2.1))=true then (A8 a0 a1 v9004 v12002 true) else (A8 a0 a1 v9004 v12002 (!decide (v12002.2.2 =v9004.2.2))))))))))))))))
def C3 (a0:List Net) (a1:Net):Option (Bool):=
 (Option.bind (Kl a0 1048576) fun v3002=>(if (decide (v3002<0))=true then (some true) else (Option.bind (Jk a1 v3002) fun v6002=>(if (decide (v6002<0))=true then (some true) else (Option.bind (F5 a0) fun v9001=>(Option.bind (F6 a1) fun v9003=>(Option.bind (ET v9001 v9003) fun v9004=>(Option.bind (F5 a0) fun v10001=>(Option.bind (F6 a1) fun v11001=>(Option.bind (DZ v10001 v11001) fun v12002=>(Option.bind (FP v12002.1 v9004.1) fun v13002=>(if (!v13002)=true then (BQ a0 a1 v9004 v10001 v11001 v12002 true) else (if (!decide (v12002.2.1 =v9004.2.1))=true then (BQ a0 a1 v9004 v10001 v11001 v12002 true) else (BQ a0 a1 v9004 v10001 v11001 v12002 (!decide (v12002.2.2 =v9004.2.2))))))))))))))))
end Go.Proofs.YtckcfdggbbabfaaGreat.Ab
