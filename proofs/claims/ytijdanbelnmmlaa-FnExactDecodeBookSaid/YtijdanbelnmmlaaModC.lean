/-
  Models of the functions. Printed by wip/ab/gen.py.
-/
import Derived.Test.YtijdanbelnmmlaaModM
namespace Go.Proofs.Ytijdanbelnmmlaa.Ab
set_option linter.unusedVariables false
set_option linter.unusedSimpArgs false
set_option maxRecDepth 20000
set_option maxHeartbeats 4000000
open Go.RowKit
def Bb:Nat→(List Int)→Int→Option ((List Int))
 |0,_,_=>none
 |n+1,p2_0,p2_1=>(if (decide (128≤p2_1))=true then (Option.bind (GX p2_0 [(IntKind.u8.wrap ((IntKind.u8.wrap (Int.tmod p2_1 128))+128))]) fun v6006=>(Bb n v6006 (IntKind.i64.wrap (Int.tdiv p2_1 128)))) else (Option.bind (GX p2_0 [(IntKind.u8.wrap p2_1)]) fun v8004=>(some v8004)))
def Ci (a0:List Int) (p0_0:Int):Option ((List Int)):=
 (Bb fuel a0 p0_0)
def C0 (a0:List Int) (a1:Int):Option ((List Int)):=
 (if (decide (a1<0))=true then (Ci a0 (IntKind.i64.wrap ((IntKind.i64.wrap ((-2)*a1)) - 1))) else (Ci a0 (IntKind.i64.wrap (2*a1))))
def Fr:Option ((List Int)):=
 (some [73,78,69,84,1])
mutual
def BB:Nat→(List Int)→Int→Int→Option (Int)
 |0,_,_,_=>none
 |n+1,a0,p0_0,p0_1=>(if (decide (p0_1<((List.length a0:Nat):Int)))=true then (Option.bind (at? a0 p0_1) fun v5000=>(BN n a0 p0_1 (bits BinOp.xor IntKind.u32 p0_0 (IntKind.u32.wrap v5000)) 0)) else (some (IntKind.i64.wrap (bits BinOp.xor IntKind.u32 (if IntKind.signed IntKind.u32=true then -1 else IntKind.max IntKind.u32) p0_0))))
def BN:Nat→(List Int)→Int→Int→Int→Option (Int)
 |0,_,_,_,_=>none
 |n+1,a0,p0_1,p1_0,p1_1=>(if (decide (p1_1<8))=true then (if (decide ((bits BinOp.and IntKind.u32 p1_0 1)=1))=true then (BN n a0 p0_1 (bits BinOp.xor IntKind.u32 (p1_0 / 2 ^ min (Int.toNat 1) (IntKind.bits IntKind.u32)) 3988292384) (IntKind.i64.wrap (p1_1+1))) else (BN n a0 p0_1 (p1_0 / 2 ^ min (Int.toNat 1) (IntKind.bits IntKind.u32)) (IntKind.i64.wrap (p1_1+1)))) else (BB n a0 p1_0 (IntKind.i64.wrap (p0_1+1))))
end
def EL (a0:List Int):Option (Int):=
 (BB fuel a0 4294967295 0)
def Bu:Nat→(List Int)→Int→Int→Option ((List Int) × Int)
 |0,_,_,_=>none
 |n+1,p1_0,p1_1,p1_2=>(if (decide (p1_2<4))=true then (Option.bind (GX p1_0 [(IntKind.u8.wrap (Int.tmod p1_1 256))]) fun v6005=>(Bu n v6005 (IntKind.i64.wrap (Int.tdiv p1_1 256)) (IntKind.i64.wrap (p1_2+1)))) else (if (decide (60000<((List.length p1_0:Nat):Int)))=true then (some ([],4)) else (some (p1_0,0))))
def GB (a0:Int) (a1:List Int):Option ((List Int) × Int):=
 (Option.bind Fr fun v2000=>(Option.bind (GX v2000 [a0]) fun v2003=>(Option.bind (GX v2003 a1) fun v2005=>(Option.bind (EL v2005) fun v3001=>(Bu fuel v2005 v3001 0)))))
def Cj:Nat→(List Int)→(List Int)→Int→Option ((List Int))
 |0,_,_,_=>none
 |n+1,a0,p1_0,p1_1=>(if (decide (p1_1<((List.length a0:Nat):Int)))=true then (Option.bind (at? a0 p1_1) fun v6004=>(Option.bind (at? p1_0 p1_1) fun v6006=>(Option.bind (Fq p1_0 p1_1 v6004) fun v6007_12=>(Cj n a0 v6007_12 (IntKind.i64.wrap (p1_1+1)))))) else (some p1_0))
def Dd (a0:List Int):Option ((List Int)):=
 (Option.bind (TK ((List.length a0:Nat):Int) (0:Int)) fun v2002=>(Cj fuel a0 v2002 0))
def DC:Nat→(List Int)→(List Int)→Int→Option (Bool)
 |0,_,_,_=>none
 |n+1,a0,a1,p0_0=>(if (decide (p0_0<((List.length a0:Nat):Int)))=true then (Option.bind (at? a0 p0_0) fun v7002=>(Option.bind (at? a1 p0_0) fun v7006=>(if (!decide (v7002=v7006))=true then (some false) else (DC n a0 a1 (IntKind.i64.wrap (p0_0+1)))))) else (some true))
def FF (a0:List Int) (a1:List Int):Option (Bool):=
 (if (!decide (((List.length a0:Nat):Int)=((List.length a1:Nat):Int)))=true then (some false) else (DC fuel a0 a1 0))
def Bv:Nat→(List Int)→Int→Int→Option (Int × (List Int))
 |0,_,_,_=>none
 |n+1,p0_0,p0_1,p0_2=>(if (decide (p0_2<((List.length p0_0:Nat):Int)))=true then (Option.bind (at? p0_0 p0_2) fun v5004=>(Option.bind (Fq p0_0 p0_2 (IntKind.u8.wrap p0_1)) fun v5005_8=>(Bv n v5005_8 (IntKind.i64.wrap (p0_1+1)) (IntKind.i64.wrap (p0_2+1))))) else (some (p0_1,p0_0)))
def EB (a0:List Int) (a1:Int):Option (Int × (List Int)):=
 (Bv fuel a0 a1 0)
end Go.Proofs.Ytijdanbelnmmlaa.Ab
