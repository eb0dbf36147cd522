/-
  Models of the functions. Printed by wip/ab/gen.py.
-/
import Derived.Test.YtclmbjbbojdojaaGreatModC
namespace Go.Proofs.YtclmbjbbojdojaaGreat.Ab
set_option linter.unusedVariables false
set_option linter.unusedSimpArgs false
set_option maxRecDepth 20000
set_option maxHeartbeats 4000000
open Go.RowKit
def F6 (a0:Net) (a1:List Int) (a2:Int):Option (Cluster × Int):=
 (Option.bind (Hr a0 a1 a2) fun v2003=>(if (!decide (v2003.2 =0))=true then (some ((⟨(⟨[],(⟨0,0,0⟩:Address)⟩:Grid),[],[],[],[]⟩:Cluster),v2003.2)) else (Option.bind (KS v2003.1) fun v5001=>(some (v5001,0)))))
def F7 (a0:Net) (a1:List Int) (a2:Int):Option (Service × Int):=
 (Option.bind (F6 a0 a1 a2) fun v2003=>(if (!decide (v2003.2 =0))=true then (some ((⟨(⟨(⟨(⟨[],(⟨0,0,0⟩:Address)⟩:Grid),[],[],[],[]⟩:Cluster),(⟨[],[],[],[],[]⟩:Shot)⟩:Watched),(⟨(⟨[],(⟨0,0,0⟩:Address)⟩:Grid),[],[],[],[]⟩:Cluster),0,0⟩:Service),v2003.2)) else (Option.bind (KU v2003.1) fun v5002=>(some ((⟨(⟨v2003.1,(⟨[],[],[],[],[]⟩:Shot)⟩:Watched),v5002,0,0⟩:Service),0)))))
def E5 (a0:Net) (a1:List Int) (a2:Int):Option (Service × Int):=
 (Option.bind (F4 a0 a1 a2) fun v2003=>(if (!decide (v2003.2 =0))=true then (some ((⟨(⟨(⟨(⟨[],(⟨0,0,0⟩:Address)⟩:Grid),[],[],[],[]⟩:Cluster),(⟨[],[],[],[],[]⟩:Shot)⟩:Watched),(⟨(⟨[],(⟨0,0,0⟩:Address)⟩:Grid),[],[],[],[]⟩:Cluster),0,0⟩:Service),v2003.2)) else (Option.bind (FP v2003.1) fun v5003=>(some ((⟨(⟨v2003.1,(⟨[],[],[],[],[]⟩:Shot)⟩:Watched),v5003,0,0⟩:Service),0)))))
def Ch:Nat→(List Port)→Int→Int→Option (Int × (List Port))
 |0,_,_,_=>none
 |n+1,p0_0,p0_1,p0_2=>(if (decide (p0_2<((List.length p0_0:Nat):Int)))=true then (Option.bind (at? p0_0 p0_2) fun v5003=>(Option.bind (Ah p0_0 p0_2 (⟨p0_1,v5003.slot⟩:Port)) fun v5005_15=>(Option.bind (at? v5005_15 p0_2) fun v7003=>(Option.bind (Ah v5005_15 p0_2 (⟨v7003.agent,(IntKind.i64.wrap (p0_1+1))⟩:Port)) fun v7005_16=>(Ch n v7005_16 (IntKind.i64.wrap ((IntKind.i64.wrap (p0_1+1))+1)) (IntKind.i64.wrap (p0_2+1))))))) else (some (p0_1,p0_0)))
def Gm (a0:List Port) (a1:Int):Option (Int × (List Port)):=
 (Ch fuel a0 a1 0)
def CL:Nat→(List Agent)→Int→Int→Option (Int × (List Agent))
 |0,_,_,_=>none
 |n+1,p0_0,p0_1,p0_2=>(if (decide (p0_2<((List.length p0_0:Nat):Int)))=true then (Option.bind (at? p0_0 p0_2) fun v5003=>(Option.bind (Ah p0_0 p0_2 (⟨p0_1,v5003.level,v5003.value,v5003.data,v5003.ports⟩:Agent)) fun v5005_43=>(Option.bind (at? v5005_43 p0_2) fun v7003=>(Option.bind (Ah v5005_43 p0_2 (⟨v7003.kind,(IntKind.i64.wrap (p0_1+1)),v7003.value,v7003.data,v7003.ports⟩:Agent)) fun v7005_44=>(Option.bind (at? v7005_44 p0_2) fun v9003=>(Option.bind (Ah v7005_44 p0_2 (⟨v9003.kind,v9003.level,(IntKind.i64.wrap ((IntKind.i64.wrap (p0_1+1))+1)),v9003.data,v9003.ports⟩:Agent)) fun v9005_45=>(Option.bind (at? v9005_45 p0_2) fun v11002=>(Option.bind (Bp v11002.data (IntKind.i64.wrap ((IntKind.i64.wrap ((IntKind.i64.wrap (p0_1+1))+1))+1))) fun v11006=>(Option.bind (Ah v9005_45 p0_2 (⟨v11002.kind,v11002.level,v11002.value,v11006.2,v11002.ports⟩:Agent)) fun v11006_47=>(Option.bind (at? v11006_47 p0_2) fun v12002=>(Option.bind (Gm v12002.ports v11006.1) fun v12006=>(Option.bind (Ah v11006_47 p0_2 (⟨v12002.kind,v12002.level,v12002.value,v12002.data,v12006.2⟩:Agent)) fun v12006_48=>(CL n v12006_48 v12006.1 (IntKind.i64.wrap (p0_2+1))))))))))))))) else (some (p0_1,p0_0)))
def F8 (a0:List Agent) (a1:Int):Option (Int × (List Agent)):=
 (CL fuel a0 a1 0)
def HR (a0:Net) (a1:Int):Option (Int × (List Agent)):=
 (Option.bind (F8 a0.agents a1) fun v2003=>(some (v2003.1,v2003.2)))
def CB (v11003:Service × Int) (v24002:Int × (List Shard) × (List (List Parcel)) × (List (List Int)) × (List Int) × (List Int) × (List Bool) × (List Shard) × (List (List Int)) × (List Bool) × (List (List Parcel)) × (List Shard) × (List (List Parcel)) × (List (List Int)) × (List Int) × (List Int)) (p2_0:Bool):Option (Bool):=
 (if p2_0=true then (some false) else (Option.bind (Do (⟨(⟨(⟨(⟨v24002.2.1,v11003.1.watched.cluster.grid.root⟩:Grid),v24002.2.2.1,v24002.2.2.2.1,v24002.2.2.2.2.1,v24002.2.2.2.2.2.1⟩:Cluster),(⟨v24002.2.2.2.2.2.2.1,v24002.2.2.2.2.2.2.2.1,v24002.2.2.2.2.2.2.2.2.1,v24002.2.2.2.2.2.2.2.2.2.1,v24002.2.2.2.2.2.2.2.2.2.2.1⟩:Shot)⟩:Watched),(⟨(⟨v24002.2.2.2.2.2.2.2.2.2.2.2.1,v11003.1.good.grid.root⟩:Grid),v24002.2.2.2.2.2.2.2.2.2.2.2.2.1,v24002.2.2.2.2.2.2.2.2.2.2.2.2.2.1,v24002.2.2.2.2.2.2.2.2.2.2.2.2.2.2.1,v24002.2.2.2.2.2.2.2.2.2.2.2.2.2.2.2⟩:Cluster),v11003.1.shots,v11003.1.crashes⟩:Service) 1) fun v35002=>(if (decide (v35002<0))=true then (some false) else (if (!decide (v35002=v24002.1))=true then (some false) else (some true)))))
def BT (a0:Net) (a1:List Int) (a2:Int) (v8005:Service × Int) (v11003:Service × Int) (p1_0:Bool):Option (Bool):=
 (if p1_0=true then (some false) else (Option.bind (Eg v11003.1 1) fun v24002=>(Option.bind (Do (⟨(⟨(⟨(⟨v24002.2.1,v11003.1.watched.cluster.grid.root⟩:Grid),v24002.2.2.1,v24002.2.2.2.1,v24002.2.2.2.2.1,v24002.2.2.2.2.2.1⟩:Cluster),(⟨v24002.2.2.2.2.2.2.1,v24002.2.2.2.2.2.2.2.1,v24002.2.2.2.2.2.2.2.2.1,v24002.2.2.2.2.2.2.2.2.2.1,v24002.2.2.2.2.2.2.2.2.2.2.1⟩:Shot)⟩:Watched),(⟨(⟨v24002.2.2.2.2.2.2.2.2.2.2.2.1,v11003.1.good.grid.root⟩:Grid),v24002.2.2.2.2.2.2.2.2.2.2.2.2.1,v24002.2.2.2.2.2.2.2.2.2.2.2.2.2.1,v24002.2.2.2.2.2.2.2.2.2.2.2.2.2.2.1,v24002.2.2.2.2.2.2.2.2.2.2.2.2.2.2.2⟩:Cluster),v11003.1.shots,v11003.1.crashes⟩:Service) 1) fun v26002=>(if (decide (v26002<0))=true then (some false) else (if (!decide (v26002=v24002.1))=true then (some false) else (Option.bind (HD a0) fun v31001=>(Option.bind (Dl a1) fun v31003=>(Option.bind (E5 v31001 v31003 a2) fun v31005=>(Option.bind (EH v31005.1 v8005.1) fun v32002=>(if (!v32002)=true then (CB v11003 v24002 true) else (CB v11003 v24002 (!decide (v31005.2 =v8005.2)))))))))))))
def CC (a0:Net) (a1:List Int) (a2:Int) (v8005:Service × Int) (v9001:Net) (v10001:(List Int)) (v11003:Service × Int) (p0_0:Bool):Option (Bool):=
 (if p0_0=true then (some false) else (Option.bind (HD a0) fun v14002=>(Option.bind (K5 v9001 v14002) fun v14003=>(if (!v14003)=true then (some false) else (Option.bind (Dl a1) fun v16002=>(Option.bind (Cs v10001 v16002) fun v16003=>(if (!v16003)=true then (some false) else (Option.bind (HR v9001 1) fun v19002=>(Option.bind (Bp v10001 v19002.1) fun v20002=>(if (decide (v20002.1 <0))=true then (BT a0 a1 a2 v8005 v11003 true) else (Option.bind (EH v11003.1 v8005.1) fun v21005=>(if (!v21005)=true then (BT a0 a1 a2 v8005 v11003 true) else (BT a0 a1 a2 v8005 v11003 (!decide (v11003.2 =v8005.2)))))))))))))))
def Dy (a0:Net) (a1:List Int) (a2:Int):Option (Bool):=
 (if (decide (1048576<((List.length a1:Nat):Int)))=true then (some true) else (Option.bind (M1 a0 1048576) fun v5002=>(if (decide (v5002<0))=true then (some true) else (Option.bind (HD a0) fun v8001=>(Option.bind (Dl a1) fun v8003=>(Option.bind (F7 v8001 v8003 a2) fun v8005=>(Option.bind (HD a0) fun v9001=>(Option.bind (Dl a1) fun v10001=>(Option.bind (E5 v9001 v10001 a2) fun v11003=>(Option.bind (EH v11003.1 v8005.1) fun v12002=>(if (!v12002)=true then (CC a0 a1 a2 v8005 v9001 v10001 v11003 true) else (CC a0 a1 a2 v8005 v9001 v10001 v11003 (!decide (v11003.2 =v8005.2))))))))))))))
end Go.Proofs.YtclmbjbbojdojaaGreat.Ab
