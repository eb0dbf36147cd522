/-
  Models of the functions. Printed by wip/ab/gen.py.
-/
import Derived.Test.YtoncbhomocgmcaaGreatDoorModS
import Derived.Test.YtoncbhomocgmcaaGreatDoorModI
namespace Go.Proofs.YtoncbhomocgmcaaGreatDoor.Ab
set_option linter.unusedVariables false
set_option linter.unusedSimpArgs false
set_option maxRecDepth 20000
set_option maxHeartbeats 4000000
open Go.RowKit
def F9 (a0:Net):Option (Labelled × Int):=
 ((K0 a0).bind fun v2000=>(if (!v2000)=true then (some ((⟨(⟨0,0,[],[]⟩:Core),[]⟩:Labelled),1)) else ((K1 a0).bind fun v4000=>(some (v4000.1,v4000.2)))))
def Aw:Nat→(List ByteArray)→Int→(ByteArray→Option Bool)→Option (Int)
 |0,_,_,_=>none
 |n+1,a0,p0_0,f1=>(if (decide (p0_0<(a0.length:Int)))=true then ((at? a0 p0_0).bind fun v5003=>((f1 v5003).bind fun v5005=>(if v5005=true then (some p0_0) else (Aw n a0 (IntKind.i64.wrap (p0_0+1)) f1)))) else (some (-1)))
def C2 (a0:List ByteArray) (f1:(ByteArray→Option Bool)):Option (Int):=
 (Aw fuel a0 0 f1)
def CG (a0:List ByteArray) (f1:(ByteArray→Option Bool)):Option (Bool):=
 ((C2 a0 f1).bind fun v2002=>(some (decide (0≤v2002))))
def E2 (a0:ByteArray):Option (Bool):=
 (some (decide (3000<(a0.size:Int))))
def E9 (a0:List ByteArray):Option (Bool):=
 ((CG a0 (fun y0=>E2 y0)).bind fun v2001=>(some (!v2001)))
def Ex (a0:Net):Option (Labelled × Int):=
 ((Dv a0).bind fun v2001=>(if (!decide (v2001.2.2 =0))=true then (some ((⟨(⟨0,0,[],[]⟩:Core),[]⟩:Labelled),v2001.2.2)) else ((E9 v2001.1.labels).bind fun v5004=>(if (!v5004)=true then (some ((⟨(⟨0,0,[],[]⟩:Core),[]⟩:Labelled),4)) else (some ((⟨v2001.2.1,v2001.1.labels⟩:Labelled),0))))))
def B1 (v8001:Labelled × Int) (v18002:Int × (List Int) × (List Core) × (List ByteArray)) (p2_0:Bool):Option (Bool):=
 (if p2_0=true then (some false) else ((C7 (⟨(⟨v8001.1.term.kind,v8001.1.term.value,v18002.2.1,v18002.2.2.1⟩:Core),v18002.2.2.2⟩:Labelled) 1).bind fun v29002=>(if (decide (v29002<0))=true then (some false) else (if (!decide (v29002=v18002.1))=true then (some false) else (some true)))))
def BY (a0:Net) (v6002:Labelled × Int) (v8001:Labelled × Int) (p1_0:Bool):Option (Bool):=
 (if p1_0=true then (some false) else ((Do v8001.1 1).bind fun v18002=>((C7 (⟨(⟨v8001.1.term.kind,v8001.1.term.value,v18002.2.1,v18002.2.2.1⟩:Core),v18002.2.2.2⟩:Labelled) 1).bind fun v20002=>(if (decide (v20002<0))=true then (some false) else (if (!decide (v20002=v18002.1))=true then (some false) else ((FZ a0).bind fun v25001=>((Ex v25001).bind fun v25002=>((DH v25002.1 v6002.1).bind fun v26002=>(if (!v26002)=true then (B1 v8001 v18002 true) else (B1 v8001 v18002 (!decide (v25002.2 =v6002.2))))))))))))
def B2 (a0:Net) (v6002:Labelled × Int) (v7001:Net) (v8001:Labelled × Int) (p0_0:Bool):Option (Bool):=
 (if p0_0=true then (some false) else ((FZ a0).bind fun v11002=>((JC v7001 v11002).bind fun v11003=>(if (!v11003)=true then (some false) else ((Fi v7001 1).bind fun v14002=>(if (decide (v14002.1 <0))=true then (BY a0 v6002 v8001 true) else ((DH v8001.1 v6002.1).bind fun v15005=>(if (!v15005)=true then (BY a0 v6002 v8001 true) else (BY a0 v6002 v8001 (!decide (v8001.2 =v6002.2)))))))))))
def Dh (a0:Net):Option (Bool):=
 ((K2 a0 1048576).bind fun v3002=>(if (decide (v3002<0))=true then (some true) else ((FZ a0).bind fun v6001=>((F9 v6001).bind fun v6002=>((FZ a0).bind fun v7001=>((Ex v7001).bind fun v8001=>((DH v8001.1 v6002.1).bind fun v9002=>(if (!v9002)=true then (B2 a0 v6002 v7001 v8001 true) else (B2 a0 v6002 v7001 v8001 (!decide (v8001.2 =v6002.2)))))))))))
end Go.Proofs.YtoncbhomocgmcaaGreatDoor.Ab
