/-
  Models of the functions. Printed by wip/ab/gen.py.
-/
import Derived.Test.YtijdanbelnmmlaaModC
namespace Go.Proofs.Ytijdanbelnmmlaa.Ab
set_option linter.unusedVariables false
set_option linter.unusedSimpArgs false
set_option maxRecDepth 20000
set_option maxHeartbeats 4000000
open Go.RowKit
mutual
def Ce:Nat→(List Int)→Core→Option ((List Int))
 |0,_,_=>none
 |n+1,a0,a1=>(Option.bind (GX a0 [(IntKind.u8.wrap a1.kind)]) fun v2005=>(Option.bind (C0 v2005 a1.value) fun v2008=>(DG n a1 v2008)))
def DG:Nat→Core→(List Int)→Option ((List Int))
 |0,_,_=>none
 |n+1,a1,v2008=>(Option.bind (GX v2008 [(IntKind.u8.wrap ((List.length a1.data:Nat):Int))]) fun v3006=>(Bg n a1 v3006 0))
def Bg:Nat→Core→(List Int)→Int→Option ((List Int))
 |0,_,_,_=>none
 |n+1,a1,p2_0,p2_1=>(if (decide (p2_1<((List.length a1.data:Nat):Int)))=true then (Option.bind (at? a1.data p2_1) fun v6000=>(Option.bind (GX p2_0 [(IntKind.u8.wrap v6000)]) fun v7004=>(Bg n a1 v7004 (IntKind.i64.wrap (p2_1+1))))) else (Option.bind (GX p2_0 [(IntKind.u8.wrap ((List.length a1.kids:Nat):Int))]) fun v9006=>(Bh n a1 v9006 0)))
def Bh:Nat→Core→(List Int)→Int→Option ((List Int))
 |0,_,_,_=>none
 |n+1,a1,p4_0,p4_1=>(if (decide (p4_1<((List.length a1.kids:Nat):Int)))=true then (Option.bind (at? a1.kids p4_1) fun v12000=>(Option.bind (Ce n p4_0 v12000) fun v13002=>(Bh n a1 v13002 (IntKind.i64.wrap (p4_1+1))))) else (some p4_0))
end
def Bi:Nat→Book→(List Int)→Int→Option ((List Int) × Int)
 |0,_,_,_=>none
 |n+1,a0,p1_0,p1_1=>(if (decide (p1_1<((List.length a0.defs:Nat):Int)))=true then (Option.bind (at? a0.defs p1_1) fun v7000=>(Option.bind (Ce fuel p1_0 v7000) fun v8002=>(Bi n a0 v8002 (IntKind.i64.wrap (p1_1+1))))) else (Option.bind (GB 3 p1_0) fun v10001=>(some (v10001.1,v10001.2))))
def Dc (a0:Book):Option ((List Int) × Int):=
 (Option.bind (Ep a0) fun v2001=>(if (!v2001)=true then (some ([],1)) else (Option.bind (C0 [] ((List.length a0.defs:Nat):Int)) fun v4003=>(Bi fuel a0 v4003 0))))
mutual
def CE:Nat→(List Int)→Int→Int→Option (Int)
 |0,_,_,_=>none
 |n+1,a0,p0_0,p0_1=>(if (decide (p0_1<((List.length a0:Nat):Int)))=true then (Option.bind (at? a0 p0_1) fun v6003=>(Cf n a0 p0_1 (bits BinOp.xor IntKind.u32 p0_0 (IntKind.u32.wrap v6003)) 0)) else (some (bits BinOp.xor IntKind.u32 p0_0 4294967295)))
def Cf:Nat→(List Int)→Int→Int→Int→Option (Int)
 |0,_,_,_,_=>none
 |n+1,a0,p0_1,p1_0,p1_1=>(if (decide (p1_1<8))=true then (if (decide ((bits BinOp.and IntKind.u32 p1_0 1)=1))=true then (Cf n a0 p0_1 (bits BinOp.xor IntKind.u32 (p1_0 / 2 ^ min (Int.toNat 1) (IntKind.bits IntKind.u32)) 3988292384) (IntKind.i64.wrap (p1_1+1))) else (Cf n a0 p0_1 (p1_0 / 2 ^ min (Int.toNat 1) (IntKind.bits IntKind.u32)) (IntKind.i64.wrap (p1_1+1)))) else (CE n a0 p1_0 (IntKind.i64.wrap (p0_1+1))))
end
def HM (a0:List Int):Option (Int):=
 (CE fuel a0 4294967295 0)
def Cg (a0:List Int) (p1_0:Bool):Option (Int × (List Int) × Int):=
 (if p1_0=true then (some (0,[],14)) else (Option.bind (at? a0 5) fun v10001=>(Option.bind (Gt a0 6 (IntKind.i64.wrap (((List.length a0:Nat):Int) - 4))) fun v10006=>(some ((IntKind.i64.wrap v10001),v10006,0)))))
def BM (a0:List Int) (p0_0:Bool):Option (Int × (List Int) × Int):=
 (if p0_0=true then (some (0,[],14)) else (Option.bind (Gt a0 0 (IntKind.i64.wrap (((List.length a0:Nat):Int) - 4))) fun v7002=>(Option.bind (HM v7002) fun v7003=>(Option.bind (at? a0 (IntKind.i64.wrap (((List.length a0:Nat):Int) - 4))) fun v8002=>(if (!decide (v8002=(IntKind.u8.wrap v7003)))=true then (Cg a0 true) else (Option.bind (at? a0 (IntKind.i64.wrap ((IntKind.i64.wrap (((List.length a0:Nat):Int) - 4))+1))) fun v8011=>(if (!decide (v8011=(IntKind.u8.wrap (v7003 / 2 ^ min (Int.toNat 8) (IntKind.bits IntKind.u32)))))=true then (Cg a0 true) else (Option.bind (at? a0 (IntKind.i64.wrap ((IntKind.i64.wrap (((List.length a0:Nat):Int) - 4))+2))) fun v8022=>(if (!decide (v8022=(IntKind.u8.wrap (v7003 / 2 ^ min (Int.toNat 16) (IntKind.bits IntKind.u32)))))=true then (Cg a0 true) else (Option.bind (at? a0 (IntKind.i64.wrap ((IntKind.i64.wrap (((List.length a0:Nat):Int) - 4))+3))) fun v8033=>(Cg a0 (!decide (v8033=(IntKind.u8.wrap (v7003 / 2 ^ min (Int.toNat 24) (IntKind.bits IntKind.u32))))))))))))))))
def DN (a0:List Int):Option (Int × (List Int) × Int):=
 (if (decide (60000<((List.length a0:Nat):Int)))=true then (some (0,[],2)) else (if (decide ((IntKind.i64.wrap (((List.length a0:Nat):Int) - 4))<6))=true then (BM a0 true) else (Option.bind (at? a0 0) fun v5004=>(if (!decide (v5004=73))=true then (BM a0 true) else (Option.bind (at? a0 1) fun v5010=>(if (!decide (v5010=78))=true then (BM a0 true) else (Option.bind (at? a0 2) fun v5016=>(if (!decide (v5016=69))=true then (BM a0 true) else (Option.bind (at? a0 3) fun v5022=>(if (!decide (v5022=84))=true then (BM a0 true) else (Option.bind (at? a0 4) fun v5028=>(if (!decide (v5028=1))=true then (BM a0 true) else (Option.bind (at? a0 5) fun v5034=>(if (decide (v5034<1))=true then (BM a0 true) else (Option.bind (at? a0 5) fun v5040=>(BM a0 (decide (3<v5040))))))))))))))))))
def Bo:Nat→(List Int)→(List Int)→Int→Option (Bool)
 |0,_,_,_=>none
 |n+1,a0,a1,p0_0=>(if (decide (p0_0<((List.length a0:Nat):Int)))=true then (Option.bind (at? a0 p0_0) fun v7002=>(Option.bind (at? a1 p0_0) fun v7006=>(if (!decide (v7002=v7006))=true then (some false) else (Bo n a0 a1 (IntKind.i64.wrap (p0_0+1)))))) else (some true))
def Co (a0:List Int) (a1:List Int):Option (Bool):=
 (if (!decide (((List.length a0:Nat):Int)=((List.length a1:Nat):Int)))=true then (some false) else (Bo fuel a0 a1 0))
def DX (a0:List Int) (v6001:Int) (v6007:List Int) (p0_0:Bool):Option (Int × (List Int) × Int):=
 (if p0_0=true then (some (0,[],14)) else (Option.bind (GB v6001 v6007) fun v9002=>(Option.bind (Co v9002.1 a0) fun v10002=>(if (!v10002)=true then (some (0,[],14)) else (some ((IntKind.i64.wrap v6001),v6007,0))))))
def Ch (a0:List Int):Option (Int × (List Int) × Int):=
 (if (decide (60000<((List.length a0:Nat):Int)))=true then (some (0,[],2)) else (if (decide (((List.length a0:Nat):Int)<10))=true then (some (0,[],14)) else (Option.bind (at? a0 5) fun v6001=>(Option.bind (Gt a0 6 (IntKind.i64.wrap (((List.length a0:Nat):Int) - 4))) fun v6007=>(if (decide (v6001<1))=true then (DX a0 v6001 v6007 true) else (DX a0 v6001 v6007 (decide (3<v6001))))))))
end Go.Proofs.Ytijdanbelnmmlaa.Ab
