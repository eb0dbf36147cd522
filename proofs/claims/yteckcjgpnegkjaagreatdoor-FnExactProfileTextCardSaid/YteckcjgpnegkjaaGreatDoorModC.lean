/-
  Data of the program as Lean types; how they lie in memory. Printed by wip/ab/gen.py.
-/
import Derived.Test.YteckcjgpnegkjaaGreatDoorAbY
import Derived.Test.YteckcjgpnegkjaaGreatDoorModL
namespace Go.Proofs.YteckcjgpnegkjaaGreatDoor.Ab
set_option linter.unusedVariables false
set_option linter.unusedSimpArgs false
set_option maxRecDepth 20000
set_option maxHeartbeats 4000000
open Go.RowKit
structure Pair where
 a:Int
 b:Int
def Pair.ds (c:Pair):List D:=[.int .i64 c.a,.int .i64 c.b]
theorem Pair.ds_eq (c:Pair):c.ds=[.int .i64 c.a,.int .i64 c.b] :=rfl
@[go_sem] def Pair.avs (c:Pair):List AV:=[.int .i64 c.a,.int .i64 c.b]
@[go_sem] def Pair.rv (c:Pair):List RV:=[.int .i64 c.a,.int .i64 c.b]
@[go_sem] def Pair.rvn (c:Pair):List RV:=[.int .i64 c.a,.int .i64 c.b]
attribute [go_sem] Pair.ds_eq
theorem Pair.ds_len (c:Pair):c.ds.length=2:=by rw [Pair.ds_eq]; rfl
structure Rewriter where
 net:Net
 book:List Net
 removed:List (Int × Bool)
def Ee (a0:Int) (a1:Int) (a2:Int) (p0_0:Bool):Option (Bool):=
 (if p0_0=true then (some false) else (if (decide (a1=6))=true then (some true) else (if (decide (a1=12))=true then (some true) else ((EO a1).bind fun v4008=>(if v4008=true then (some (decide (a0<a2))) else (some false))))))
def GH (a0:Int) (a1:Int) (a2:Int):Option (Bool):=
 ((Gn a0).bind fun v2001=>(if (!v2001)=true then (Ee a0 a1 a2 true) else ((De a1 a2).bind fun v2006=>(Ee a0 a1 a2 (!v2006)))))
def GI (a0:Int):Option (Bool):=
 (if (decide (a0=3))=true then (some true) else (if (decide (a0=7))=true then (some true) else (if (decide (a0=8))=true then (some true) else (if (decide (a0=10))=true then (some true) else (some (decide (a0=11)))))))
def GJ (a1:Int) (a2:Int) (a3:Int) (p0_0:Bool):Option (Int):=
 (if p0_0=true then (some 2) else ((GH a1 a2 a3).bind fun v8003=>(if v8003=true then (some 3) else (some 0))))
def GK (p1_0:Bool):Option (Int):=
 (if p1_0=true then (some 1) else (some 0))
def GL (a2:Int) (p2_0:Bool):Option (Int):=
 (if p2_0=true then (some 5) else (if (decide (a2=11))=true then (some 6) else (some 0)))
def H3 (a0:Int) (a1:Int) (a2:Int) (a3:Int):Option (Int):=
 (if (decide (a0=5))=true then (some 4) else (if (decide (a0=4))=true then (if (decide (a2=4))=true then (GJ a1 a2 a3 (decide (a1=a3))) else (GJ a1 a2 a3 false)) else (if (decide (a0=2))=true then (if (decide (a2=3))=true then (GK (decide (a1=a3))) else (GK false)) else (if (decide (a0=6))=true then (if (decide (a2=7))=true then (GL a2 (decide (a2=7))) else (GL a2 (decide (a2=8)))) else (if (decide (a0=9))=true then (if (decide (a2=10))=true then (some 6) else (some 0)) else (if (decide (a0=12))=true then ((GI a2).bind fun v24001=>(if v24001=true then (some 7) else (some 0))) else (some 0)))))))
def E3 (a0:Int) (a1:Int) (a2:Int) (a3:Int) (p0_0:Bool):Option (Int × Int):=
 (if p0_0=true then (some (0,0)) else ((H3 a0 a1 a2 a3).bind fun v4004=>(if (!decide (v4004=0))=true then (some (v4004,1)) else ((H3 a2 a3 a0 a1).bind fun v7004=>(if (!decide (v7004=0))=true then (some (v7004,2)) else (some (8,0)))))))
def LN (a0:Int) (a1:Int) (a2:Int) (a3:Int):Option (Int × Int):=
 (if (decide (a0=1))=true then (E3 a0 a1 a2 a3 true) else (if (decide (a2=1))=true then (E3 a0 a1 a2 a3 true) else ((De a0 a1).bind fun v2009=>(if (!v2009)=true then (E3 a0 a1 a2 a3 true) else ((De a2 a3).bind fun v2015=>(E3 a0 a1 a2 a3 (!v2015)))))))
def DG (v3008:Int × Int) (p1_0:Bool):Option (Int × Bool):=
 (if p1_0=true then (some (8,false)) else (some (v3008.1,(decide (v3008.2 =2)))))
def DH (v3008:Int × Int) (p0_0:Int) (p0_1:Int) (p0_2:Int) (p0_3:List Int) (p0_4:List Port) (p0_5:Int) (p0_6:Int) (p0_7:Int) (p0_8:List Int) (p0_9:List Port):Option (Int × Bool):=
 (if (decide (v3008.1 =6))=true then (if (decide (p0_5=10))=true then (DG v3008 (decide ((p0_8.length:Int)≤p0_2))) else (DG v3008 false)) else (DG v3008 false))
def Dq (a0:Net) (a1:Pair):Option (Int × Bool):=
 ((at? a0.agents a1.a).bind fun v2006=>((at? a0.agents a1.b).bind fun v2014=>((LN v2006.kind v2006.level v2014.kind v2014.level).bind fun v3008=>(if (decide (v3008.2 =2))=true then (DH v3008 v2014.kind v2014.level v2014.value v2014.data v2014.ports v2006.kind v2006.level v2006.value v2006.data v2006.ports) else (DH v3008 v2006.kind v2006.level v2006.value v2006.data v2006.ports v2014.kind v2014.level v2014.value v2014.data v2014.ports)))))
def Cc (a0:List Port):Option ((List Port)):=
 ((app? [] a0).bind fun v4002=>(some v4002))
def DI (a0:List Int):Option ((List Int)):=
 ((app? [] a0).bind fun v4002=>(some v4002))
def Em (a0:Agent):Option (Agent):=
 ((DI a0.data).bind fun v2002=>((Cc a0.ports).bind fun v2005=>(some (⟨a0.kind,a0.level,a0.value,v2002,v2005⟩:Agent))))
def DN:Nat→Net→(List Agent)→Int→Option (Net)
 |0,_,_,_=>none
 |n+1,a0,p1_0,p1_1=>(if (decide (p1_1<(a0.agents.length:Int)))=true then ((at? a0.agents p1_1).bind fun v5000=>((Em v5000).bind fun v6003=>((app? p1_0 [v6003]).bind fun v6005=>(DN n a0 v6005 (IntKind.i64.wrap (p1_1+1)))))) else (some (⟨p1_0⟩:Net)))
def HC (a0:Net):Option (Net):=
 ((rep? (a0.agents.length:Int) (⟨0,0,0,[],[]⟩:Agent)).bind fun v2003=>(DN fuel a0 [] 0))
def En (a0:List Net) (a1:Net):Option (Rewriter):=
 ((HC a1).bind fun v2001=>(some (⟨v2001,a0,[]⟩:Rewriter)))
def CI (a0:Net) (a1:Port) (a2:Port):Option (Net):=
 ((at? a0.agents a1.agent).bind fun v2006=>((at? v2006.ports a1.slot).bind fun v2012=>((C0 v2006.ports a1.slot a2).bind fun v2013_3=>((C0 a0.agents a1.agent (⟨v2006.kind,v2006.level,v2006.value,v2006.data,v2013_3⟩:Agent)).bind fun v2013_4=>((at? v2013_4 a2.agent).bind fun v3006=>((at? v3006.ports a2.slot).bind fun v3012=>((C0 v3006.ports a2.slot a1).bind fun v3013_5=>((C0 v2013_4 a2.agent (⟨v3006.kind,v3006.level,v3006.value,v3006.data,v3013_5⟩:Agent)).bind fun v3013_6=>(some (⟨v3013_6⟩:Net))))))))))
def B7 (a0:Rewriter) (a1:Port) (a2:Port):Option (Rewriter):=
 ((Ct a0.net a1).bind fun v2004=>((Ct a0.net a2).bind fun v2009=>(if (!(decide (v2004.agent=a2.agent)&&decide (v2004.slot=a2.slot)))=true then ((CI a0.net v2004 v2009).bind fun v4005=>(some (⟨v4005,a0.book,a0.removed⟩:Rewriter))) else (some a0))))
def AU (a0:Rewriter) (a1:Port) (a2:Port):Option (Rewriter):=
 ((Ct a0.net a1).bind fun v2007=>((CI a0.net v2007 a2).bind fun v2009=>(some (⟨v2009,a0.book,a0.removed⟩:Rewriter))))
def Ay:Nat→Rewriter→(List Int)→(List (Int × Bool))→Int→Option (Rewriter)
 |0,_,_,_,_=>none
 |n+1,a0,a1,p0_0,p0_1=>(if (decide (p0_1<(a1.length:Int)))=true then ((at? a1 p0_1).bind fun v3000=>((PW p0_0 v3000 true).bind fun v4005_6=>(Ay n a0 a1 v4005_6 (IntKind.i64.wrap (p0_1+1))))) else (some (⟨a0.net,a0.book,p0_0⟩:Rewriter)))
def BO (a0:Rewriter) (a1:List Int):Option (Rewriter):=
 (Ay fuel a0 a1 a0.removed 0)
def D5 (a0:Rewriter):Option (Int):=
 (some (IntKind.i64.wrap ((a0.net.agents.length:Int) - (a0.removed.length:Int))))
def E4 (a0:List Int):Option ((List Int)):=
 ((app? [] a0).bind fun v4002=>(some v4002))
def E5 (a0:Agent):Option (Agent):=
 ((E4 a0.data).bind fun v2002=>((Cc a0.ports).bind fun v2005=>(some (⟨a0.kind,a0.level,a0.value,v2002,v2005⟩:Agent))))
mutual
def Ar:Nat→Net→(List Int)→(List (Int × Int))→(List Agent)→Int→Option (Net)
 |0,_,_,_,_,_=>none
 |n+1,a0,a1,p1_0,p7_0,p7_1=>(if (decide (p7_1<(a1.length:Int)))=true then ((at? a1 p7_1).bind fun v11000=>((at? a0.agents v11000).bind fun v12005=>((E5 v12005).bind fun v12007=>(Bf n a0 a1 p1_0 p7_0 p7_1 v12007 v12007.ports 0)))) else (some (⟨p7_0⟩:Net)))
def Bf:Nat→Net→(List Int)→(List (Int × Int))→(List Agent)→Int→Agent→(List Port)→Int→Option (Net)
 |0,_,_,_,_,_,_,_,_=>none
 |n+1,a0,a1,p1_0,p7_0,p7_1,v12007,p11_0,p11_1=>(if (decide (p11_1<(v12007.ports.length:Int)))=true then ((at? p11_0 p11_1).bind fun v16007=>((at? p11_0 p11_1).bind fun v16011=>((C0 p11_0 p11_1 (⟨((I4 p1_0 v16007.agent).getD 0),v16011.slot⟩:Port)).bind fun v16013_156=>(Bf n a0 a1 p1_0 p7_0 p7_1 v12007 v16013_156 (IntKind.i64.wrap (p11_1+1)))))) else ((app? p7_0 [(⟨v12007.kind,v12007.level,v12007.value,v12007.data,p11_0⟩:Agent)]).bind fun v18004=>(Ar n a0 a1 p1_0 v18004 (IntKind.i64.wrap (p7_1+1)))))
end
def Bp:Nat→Net→(List Int)→(List (Int × Int))→Int→Option (Net)
 |0,_,_,_,_=>none
 |n+1,a0,a1,p1_0,p1_1=>(if (decide (p1_1<(a1.length:Int)))=true then ((at? a1 p1_1).bind fun v5001=>((PW p1_0 v5001 p1_1).bind fun v6003_12=>(Bp n a0 a1 v6003_12 (IntKind.i64.wrap (p1_1+1))))) else (Ar fuel a0 a1 p1_0 [] 0))
def D6 (a0:Net) (a1:List Int):Option (Net):=
 (Bp fuel a0 a1 [] 0)
def BC:Nat→Rewriter→(List Int)→Int→Option (Net)
 |0,_,_,_=>none
 |n+1,a0,p1_0,p1_1=>(if (decide (p1_1<(a0.net.agents.length:Int)))=true then (if (!((I4 a0.removed p1_1).getD false))=true then ((app? p1_0 [p1_1]).bind fun v7003=>(BC n a0 v7003 (IntKind.i64.wrap (p1_1+1)))) else (BC n a0 p1_0 (IntKind.i64.wrap (p1_1+1)))) else ((D6 a0.net p1_0).bind fun v9004=>(some v9004)))
def Bq (a0:Rewriter):Option (Net):=
 (BC fuel a0 [] 0)
def EP:Nat→Net→(List Agent)→Int→Option (Net)
 |0,_,_,_=>none
 |n+1,a0,p1_0,p1_1=>(if (decide (p1_1<(a0.agents.length:Int)))=true then ((at? a0.agents p1_1).bind fun v5000=>((E5 v5000).bind fun v6003=>((app? p1_0 [v6003]).bind fun v6005=>(EP n a0 v6005 (IntKind.i64.wrap (p1_1+1)))))) else (some (⟨p1_0⟩:Net)))
def Jg (a0:Net):Option (Net):=
 ((rep? (a0.agents.length:Int) (⟨0,0,0,[],[]⟩:Agent)).bind fun v2003=>(EP fuel a0 [] 0))
def C2:Nat→Int→Net→(List Agent)→Int→Option (Net × Bool)
 |0,_,_,_,_=>none
 |n+1,a1,v2001,p1_0,p1_1=>(if (decide (p1_1<(v2001.agents.length:Int)))=true then ((at? p1_0 p1_1).bind fun v6003=>((EO v6003.kind).bind fun v7004=>(if (!v7004)=true then (C2 n a1 v2001 p1_0 (IntKind.i64.wrap (p1_1+1))) else ((C0 p1_0 p1_1 (⟨v6003.kind,(IntKind.i64.wrap (v6003.level+a1)),v6003.value,v6003.data,v6003.ports⟩:Agent)).bind fun v8008_23=>((at? v8008_23 p1_1).bind fun v9003_24=>(if (decide (8<v9003_24.level))=true then (some ((⟨[]⟩:Net),false)) else (C2 n a1 v2001 v8008_23 (IntKind.i64.wrap (p1_1+1))))))))) else (some ((⟨p1_0⟩:Net),true)))
def H4 (a0:Net) (a1:Int):Option (Net × Bool):=
 ((Jg a0).bind fun v2001=>(C2 fuel a1 v2001 v2001.agents 0))
def C1 (a0:Rewriter) (p0_0:Int) (p0_1:Int) (v2004:Int × Bool):Option (Int × Int × Int × Int):=
 (some (v2004.1,p0_0,p0_1,0))
def CQ (a0:Rewriter) (v2004:Int × Bool) (p0_0:Int) (p0_1:Int):Option (Int × Int × Int × Int):=
 (if (decide (v2004.1 =8))=true then (some (0,0,0,11)) else (if (decide (v2004.1 =7))=true then ((at? a0.net.agents p0_0).bind fun v10006=>(if (decide ((a0.book.length:Int)≤v10006.value))=true then (some (0,0,0,3)) else ((at? a0.book v10006.value).bind fun v13006=>((H4 v13006 v10006.level).bind fun v13010=>(if (!v13010.2)=true then (some (0,0,0,9)) else (C1 a0 p0_0 p0_1 v2004)))))) else (C1 a0 p0_0 p0_1 v2004)))
def CC (a0:Rewriter) (a1:Pair):Option (Int × Int × Int × Int):=
 ((Dq a0.net a1).bind fun v2004=>(if v2004.2 =true then (CQ a0 v2004 a1.b a1.a) else (CQ a0 v2004 a1.a a1.b)))
def HD (a1:Int) (p1_2:Int) (p2_0:Bool):Option (Int × Int):=
 (if p2_0=true then (some (0,2)) else (some ((IntKind.i64.wrap (a1+p1_2)),0)))
def C9 (a1:Int) (p1_0:Int) (p1_1:Int) (p1_2:Int):Option (Int × Int):=
 (if (decide (a1<p1_0))=true then (HD a1 p1_2 true) else (HD a1 p1_2 (decide (p1_1<a1))))
def HE (a0:Int) (a1:Int) (p0_0:Bool):Option (Int × Int):=
 (if p0_0=true then (C9 a1 0 0 (-2)) else (if (decide (a0=3))=true then (C9 a1 0 3 0) else (if (decide (a0=4))=true then (C9 a1 0 3 (-2)) else (if (decide (a0=5))=true then (C9 a1 0 0 (-1)) else (if (decide (a0=6))=true then (C9 a1 0 3 (-1)) else (if (decide (a0=7))=true then (C9 a1 2 600 (-2)) else (some (0,2))))))))
def LO (a0:Int) (a1:Int):Option (Int × Int):=
 (if (decide (a0=1))=true then (HE a0 a1 (decide (a0=1))) else (HE a0 a1 (decide (a0=2))))
def BD (a0:Rewriter) (a1:Int) (p1_0:Int):Option (Int):=
 ((LO a1 p1_0).bind fun v12002=>(some v12002.1))
def Cj (a0:Rewriter) (a1:Int) (a2:Int) (a3:Int) (p0_0:Bool):Option (Int):=
 (if p0_0=true then ((at? a0.net.agents a3).bind fun v6006=>(BD a0 a1 (IntKind.i64.wrap ((v6006.ports.length:Int) - 1)))) else (if (decide (a1=6))=true then ((at? a0.net.agents a2).bind fun v8006=>(if (decide (v8006.kind=9))=true then ((at? a0.net.agents a2).bind fun v9006=>(BD a0 a1 (IntKind.i64.wrap ((v9006.ports.length:Int) - 1)))) else (BD a0 a1 0))) else (if (decide (a1=7))=true then ((at? a0.net.agents a2).bind fun v11010=>((at? a0.book v11010.value).bind fun v11013=>(BD a0 a1 (v11013.agents.length:Int)))) else (BD a0 a1 0))))
def Df (a0:Rewriter) (a1:Int) (a2:Int) (a3:Int):Option (Int):=
 (if (decide (a1=3))=true then (Cj a0 a1 a2 a3 (decide (a1=3))) else (Cj a0 a1 a2 a3 (decide (a1=4))))
end Go.Proofs.YteckcjgpnegkjaaGreatDoor.Ab
