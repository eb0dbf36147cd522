/-
  Models of strconv.FormatInt (base 10) and strings.Join. No program is in sight.
-/
import Derived.Test.YteckcjgpnegkjaaGreatDoorAbY
import Derived.Lib.ItoaLen
import Derived.Lib.Join
import Derived.Test.YteckcjgpnegkjaaGreatDoorMod
namespace Go.Proofs.YteckcjgpnegkjaaGreatDoor.Ab
set_option linter.unusedVariables false
open Go.RowKit
def I8 (n:Int):ByteArray:=⟨(Lib.itoa n).toArray⟩
def I5 (n base:Int):Option ByteArray:=if base=10 then some (I8 n) else none
set_option linter.unusedSimpArgs false
set_option maxRecDepth 20000
set_option maxHeartbeats 4000000
def IX:Nat→(List Int)→Int→Int→Option (Int)
 |0,_,_,_=>none
 |n+1,a0,p0_0,p0_1=>(if (decide (p0_1<(a0.length:Int)))=true then ((at? a0 p0_1).bind fun v5000=>(IX n a0 (IntKind.i64.wrap (p0_0+v5000)) (IntKind.i64.wrap (p0_1+1)))) else (some p0_0))
def LR (a0:List Int):Option (Int):=
 (IX fuel a0 0 0)
def D7 (a0:Int):Option (ByteArray):=
 ((I5 a0 10).bind fun v2001=>(some v2001))
def GR (a0:Int) (p0_0:Bool):Option (ByteArray):=
 (if p0_0=true then (some (ByteArray.mk #[])) else ((atS [(ByteArray.mk #[98,101,116,97]),(ByteArray.mk #[97,110,110,105,104,105,108,97,116,101]),(ByteArray.mk #[100,117,112,108,105,99,97,116,101]),(ByteArray.mk #[101,114,97,115,101]),(ByteArray.mk #[111,112,101,114,97,116,101]),(ByteArray.mk #[99,104,111,111,115,101]),(ByteArray.mk #[101,120,112,97,110,100]),(ByteArray.mk #[99,108,97,115,104])] (IntKind.i64.wrap (a0 - 1))).bind fun v5002=>(some v5002)))
def DD (a0:Int):Option (ByteArray):=
 (if (decide (a0<1))=true then (GR a0 true) else (GR a0 (decide (8<a0))))
def Dt:Nat→(List Int)→(List Int)→Int→Option (ByteArray)
 |0,_,_,_=>none
 |n+1,p5_0,p7_0,p7_1=>(if (decide (0≤p7_1))=true then ((at? p5_0 p7_1).bind fun v18003=>((app? p7_0 [v18003]).bind fun v18006=>(Dt n p5_0 v18006 (IntKind.i64.wrap (p7_1 - 1))))) else ((Sq p7_0).bind fun v19001=>(some v19001)))
def Er (p5_0:List Int):Option (ByteArray):=
 (Dt fuel p5_0 [] (IntKind.i64.wrap ((p5_0.length:Int) - 1)))
def Cg (a0:Int) (p4_0:List Int):Option (ByteArray):=
 (if (decide (a0<0))=true then ((app? p4_0 [45]).bind fun v13002=>(Er v13002)) else (Er p4_0))
mutual
def C5:Nat→Int→(List Int)→Int→Option (ByteArray)
 |0,_,_,_=>none
 |n+1,a0,p2_0,p2_1=>(if (!decide (p2_1=0))=true then (if (decide ((Int.tmod p2_1 10)<0))=true then (ES n a0 p2_0 p2_1 (IntKind.i64.wrap (0 - (Int.tmod p2_1 10)))) else (ES n a0 p2_0 p2_1 (Int.tmod p2_1 10))) else (if (decide (a0=0))=true then ((app? p2_0 [48]).bind fun v11002=>(Cg a0 v11002)) else (Cg a0 p2_0)))
def ES:Nat→Int→(List Int)→Int→Int→Option (ByteArray)
 |0,_,_,_,_=>none
 |n+1,a0,p2_0,p2_1,p3_0=>((app? p2_0 [(IntKind.u8.wrap (IntKind.i64.wrap (48+p3_0)))]).bind fun v8005=>(C5 n a0 v8005 (IntKind.i64.wrap (Int.tdiv p2_1 10))))
end
def F8 (a0:Int):Option (ByteArray):=
 (C5 fuel a0 [] a0)
end Go.Proofs.YteckcjgpnegkjaaGreatDoor.Ab
