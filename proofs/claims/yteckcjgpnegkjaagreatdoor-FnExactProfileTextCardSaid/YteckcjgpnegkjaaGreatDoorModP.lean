/-
  The model of what ProfileText does with strings.Builder: what it writes behind the rounds' counts. No program is in sight.
-/
import Derived.Test.YteckcjgpnegkjaaGreatDoorAbY
import Derived.Test.YteckcjgpnegkjaaGreatDoorModS
import Derived.Test.YteckcjgpnegkjaaGreatDoorModQ
namespace Go.Proofs.YteckcjgpnegkjaaGreatDoor.Ab
set_option linter.unusedVariables false
def HU (nm d:ByteArray):ByteArray:=⟨#[32]⟩++nm++⟨#[32]⟩++d
def G1 (dec cls:Int→Option ByteArray):Nat→List Int→ByteArray→Option ByteArray
 |_,[],b=>some b
 |i,c::cs,b=>if 0<c then (cls ((i:Int)+1)).bind fun nm=>(dec c).bind fun d=>if b.size+nm.size+d.size≤1099511627776 then G1 dec cls (i+1) cs (b++HU nm d) else none else G1 dec cls (i+1) cs b
def JM (d1 d2 d3:ByteArray):ByteArray:=⟨#[119,111,114,107,32]⟩++d1++⟨#[32,115,112,97,110,32]⟩++d2++⟨#[32,119,105,100,116,104,32]⟩++d3
def Ou (sm:List Int→Option Int) (dec cls:Int→Option ByteArray) (tot:List Int) (nr:Nat) (width:Int):Option (ByteArray × Int):=
 (sm tot).bind fun s=>(dec s).bind fun d1=>(dec (nr:Int)).bind fun d2=>(dec width).bind fun d3=>
  if d1.size+d2.size+d3.size≤1099511627776∧tot.length≤1099511627776 then (G1 dec cls 0 tot (JM d1 d2 d3)).map fun b=>(b,0) else none
set_option linter.unusedSimpArgs false
set_option maxRecDepth 20000
set_option maxHeartbeats 4000000
open Go.RowKit
def ER:Nat→(List (List Int))→Int→Int→Option (Int)
 |0,_,_,_=>none
 |n+1,a0,p0_0,p0_1=>(if (decide (p0_1<(a0.length:Int)))=true then ((at? a0 p0_1).bind fun v6003=>(ER n a0 (IntKind.i64.wrap (p0_0+(v6003.length:Int))) (IntKind.i64.wrap (p0_1+1)))) else (some p0_0))
def ME (a0:List (List Int)):Option (Int):=
 (ER fuel a0 0 0)
def CU:Nat→(List Int)→(List Int)→Int→Option ((List Int))
 |0,_,_,_=>none
 |n+1,a0,p1_0,p1_1=>(if (decide (p1_1<(a0.length:Int)))=true then ((at? a0 p1_1).bind fun v6003=>((at? p1_0 (IntKind.i64.wrap (v6003 - 1))).bind fun v6006=>((at? p1_0 (IntKind.i64.wrap (v6003 - 1))).bind fun v6009=>((C0 p1_0 (IntKind.i64.wrap (v6003 - 1)) (IntKind.i64.wrap (v6006+1))).bind fun v6010_12=>(CU n a0 v6010_12 (IntKind.i64.wrap (p1_1+1))))))) else (some p1_0))
def Hl (a0:List Int):Option ((List Int)):=
 (CU fuel a0 [0,0,0,0,0,0,0] 0)
def Hm:Option ((List ByteArray)):=
 (some [(ByteArray.mk #[98,101,116,97]),(ByteArray.mk #[97,110,110,105,104,105,108,97,116,101]),(ByteArray.mk #[100,117,112,108,105,99,97,116,101]),(ByteArray.mk #[101,114,97,115,101]),(ByteArray.mk #[111,112,101,114,97,116,101]),(ByteArray.mk #[99,104,111,111,115,101]),(ByteArray.mk #[101,120,112,97,110,100]),(ByteArray.mk #[99,108,97,115,104])])
def I6 (a0:Int):Option (ByteArray):=
 ((CJ a0 1 8).bind fun v2001=>(if (!v2001)=true then (some (ByteArray.mk #[])) else (Option.bind Hm fun v4000=>((at? v4000 (IntKind.i64.wrap (a0 - 1))).bind fun v4003=>(some v4003)))))
def Bk:Nat→(List Int)→ByteArray→Int→Option (ByteArray × Int)
 |0,_,_,_=>none
 |n+1,v13001,p3_0,p3_1=>(if (decide (p3_1<(v13001.length:Int)))=true then ((at? v13001 p3_1).bind fun v17002=>(if (decide (0<v17002))=true then ((I6 (IntKind.i64.wrap (p3_1+1))).bind fun v18003=>((Je (ByteArray.mk #[32]) v18003).bind fun v18004=>((Je v18004 (ByteArray.mk #[32])).bind fun v18005=>((at? v13001 p3_1).bind fun v18008=>((F8 v18008).bind fun v18010=>((Je v18005 v18010).bind fun v18011=>((Je p3_0 v18011).bind fun v18012=>(Bk n v13001 v18012 (IntKind.i64.wrap (p3_1+1)))))))))) else (Bk n v13001 p3_0 (IntKind.i64.wrap (p3_1+1))))) else (some (p3_0,0)))
def BA:Nat→((List (List Int)) × Int)→Int→(List Int)→Int→Option (ByteArray × Int)
 |0,_,_,_,_=>none
 |n+1,v2002,p1_0,p1_1,p1_2=>(if (decide (p1_2<((List.length v2002.1 :Nat):Int)))=true then ((at? v2002.1 p1_2).bind fun v10003=>((Eh p1_0 (v10003.length:Int)).bind fun v10006=>((at? v2002.1 p1_2).bind fun v11003=>((app? p1_1 v11003).bind fun v11005=>(BA n v2002 v10006 v11005 (IntKind.i64.wrap (p1_2+1))))))) else ((ME v2002.1).bind fun v12001=>((F8 v12001).bind fun v12002=>((Je (ByteArray.mk #[119,111,114,107,32]) v12002).bind fun v12003=>((Je v12003 (ByteArray.mk #[32,115,112,97,110,32])).bind fun v12004=>((F8 ((List.length v2002.1 :Nat):Int)).bind fun v12007=>((Je v12004 v12007).bind fun v12008=>((Je v12008 (ByteArray.mk #[32,119,105,100,116,104,32])).bind fun v12009=>((F8 p1_0).bind fun v12011=>((Je v12009 v12011).bind fun v12012=>((Hl p1_1).bind fun v13001=>(Bk fuel v13001 v12012 0))))))))))))
def Ff (a0:List Net) (a1:Net) (a2:Int):Option (ByteArray × Int):=
 ((HK a0 a1 600 a2).bind fun v2002=>(if (!decide (v2002.2 =0))=true then (some ((ByteArray.mk #[]),v2002.2)) else (BA fuel v2002 0 [] 0)))
mutual
def Ah:Nat→((List (List Int)) × Int)→Int→(List Int)→Int→Option (ByteArray × Int)
 |0,_,_,_,_=>none
 |n+1,v2003,p3_0,p3_1,p3_2=>(if (decide (p3_2<((List.length v2003.1 :Nat):Int)))=true then ((at? v2003.1 p3_2).bind fun v9000=>((LR v9000).bind fun v10002=>(Bt n p3_0 p3_2 v2003 v9000 v10002 p3_1 0))) else (Ou LR D7 DD p3_1 (List.length v2003.1) p3_0))
def Bt:Nat→Int→Int→((List (List Int)) × Int)→(List Int)→Int→(List Int)→Int→Option (ByteArray × Int)
 |0,_,_,_,_,_,_,_=>none
 |n+1,p3_0,p3_2,v2003,v9000,v10002,p5_0,p5_1=>(if (decide (p5_1<(v9000.length:Int)))=true then ((at? v9000 p5_1).bind fun v13001=>((at? p5_0 p5_1).bind fun v14002=>((at? p5_0 p5_1).bind fun v14006=>((C0 p5_0 p5_1 (IntKind.i64.wrap (v14002+v13001))).bind fun v14007_72=>(Bt n p3_0 p3_2 v2003 v9000 v10002 v14007_72 (IntKind.i64.wrap (p5_1+1))))))) else (Ah n v2003 (if p3_0<v10002 then v10002 else p3_0) p5_0 (IntKind.i64.wrap (p3_2+1))))
end
def Fg (a0:List Net) (a1:Net) (a2:Int):Option (ByteArray × Int):=
 ((IW a0 a1 a2).bind fun v2003=>(if (!decide (v2003.2 =0))=true then (some ((ByteArray.mk #[]),v2003.2)) else ((rep? 7 (0:Int)).bind fun v6000=>(Ah fuel v2003 0 v6000 0))))
def CD (a0:List Net) (a1:Net) (v10001:(List Net)) (v11001:Net) (p0_0:Bool):Option (Bool):=
 (if p0_0=true then (some false) else ((HL a0).bind fun v15002=>((Jj v10001 v15002).bind fun v15003=>(if (!v15003)=true then (some false) else ((G2 a1).bind fun v17002=>((I7 v11001 v17002).bind fun v17003=>(if (!v17003)=true then (some false) else (some true))))))))
def Dl (a0:List Net) (a1:Net) (a2:Int):Option (Bool):=
 ((LS a0 1048576).bind fun v3002=>(if (decide (v3002<0))=true then (some true) else ((KN a1 v3002).bind fun v6002=>(if (decide (v6002<0))=true then (some true) else ((HL a0).bind fun v9001=>((G2 a1).bind fun v9003=>((Ff v9001 v9003 a2).bind fun v9005=>((HL a0).bind fun v10001=>((G2 a1).bind fun v11001=>((Fg v10001 v11001 a2).bind fun v12003=>(if (!Gx v12003.1 v9005.1)=true then (CD a0 a1 v10001 v11001 true) else (CD a0 a1 v10001 v11001 (!decide (v12003.2 =v9005.2))))))))))))))
end Go.Proofs.YteckcjgpnegkjaaGreatDoor.Ab
