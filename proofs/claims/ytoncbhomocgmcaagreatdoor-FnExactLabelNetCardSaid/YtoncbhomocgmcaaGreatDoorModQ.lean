/-
  Models of strconv.FormatInt (base 10) and strings.Join. No program is in sight.
-/
import Derived.Test.YtoncbhomocgmcaaGreatDoorAbY
import Derived.Lib.ItoaLen
import Derived.Lib.Join
import Derived.Test.YtoncbhomocgmcaaGreatDoorMod
namespace Go.Proofs.YtoncbhomocgmcaaGreatDoor.Ab
set_option linter.unusedVariables false
open Go.RowKit
def GA (n:Int):ByteArray:=⟨(Lib.itoa n).toArray⟩
def Ga (n base:Int):Option ByteArray:=if base=10 then some (GA n) else none
set_option linter.unusedSimpArgs false
set_option maxRecDepth 20000
set_option maxHeartbeats 4000000
def EO (a0:Int):Option (ByteArray):=
 ((Ga a0 10).bind fun v2001=>(some v2001))
def Ct:Nat→(List Int)→(List Int)→Int→Option (ByteArray)
 |0,_,_,_=>none
 |n+1,p5_0,p7_0,p7_1=>(if (decide (0≤p7_1))=true then ((at? p5_0 p7_1).bind fun v18003=>((app? p7_0 [v18003]).bind fun v18006=>(Ct n p5_0 v18006 (IntKind.i64.wrap (p7_1 - 1))))) else ((MS p7_0).bind fun v19001=>(some v19001)))
def Da (p5_0:List Int):Option (ByteArray):=
 (Ct fuel p5_0 [] (IntKind.i64.wrap ((p5_0.length:Int) - 1)))
def Bq (a0:Int) (p4_0:List Int):Option (ByteArray):=
 (if (decide (a0<0))=true then ((app? p4_0 [45]).bind fun v13002=>(Da v13002)) else (Da p4_0))
mutual
def CH:Nat→Int→(List Int)→Int→Option (ByteArray)
 |0,_,_,_=>none
 |n+1,a0,p2_0,p2_1=>(if (!decide (p2_1=0))=true then (if (decide ((Int.tmod p2_1 10)<0))=true then (DJ n a0 p2_0 p2_1 (IntKind.i64.wrap (0 - (Int.tmod p2_1 10)))) else (DJ n a0 p2_0 p2_1 (Int.tmod p2_1 10))) else (if (decide (a0=0))=true then ((app? p2_0 [48]).bind fun v11002=>(Bq a0 v11002)) else (Bq a0 p2_0)))
def DJ:Nat→Int→(List Int)→Int→Int→Option (ByteArray)
 |0,_,_,_,_=>none
 |n+1,a0,p2_0,p2_1,p3_0=>((app? p2_0 [(IntKind.u8.wrap (IntKind.i64.wrap (48+p3_0)))]).bind fun v8005=>(CH n a0 v8005 (IntKind.i64.wrap (Int.tdiv p2_1 10))))
end
def Ey (a0:Int):Option (ByteArray):=
 (CH fuel a0 [] a0)
end Go.Proofs.YtoncbhomocgmcaaGreatDoor.Ab
