/-
  Data of the program as Lean types; how they lie in memory. Printed by wip/ab/gen.py.
-/
import Derived.Test.YteckcjgpnegkjaaGreatAbY
import Derived.Test.YteckcjgpnegkjaaGreatModL
namespace Go.Proofs.YteckcjgpnegkjaaGreat.Ab
set_option linter.unusedVariables false
set_option linter.unusedSimpArgs false
set_option maxRecDepth 20000
set_option maxHeartbeats 4000000
open Go.RowKit
structure Rewriter where
 net:Net
 book:List Net
 removed:List (Int × Bool)
def FI (a0:Int) (a1:Int) (a2:Int) (p0_0:Bool):Option (Bool):=
 (if p0_0=true then (some false) else (if (decide (a1=6))=true then (some true) else (if (decide (a1=12))=true then (some true) else ((Ex a1).bind fun v4008=>(if v4008=true then (some (decide (a0<a2))) else (some false))))))
def HB (a0:Int) (a1:Int) (a2:Int):Option (Bool):=
 ((Hl a0).bind fun v2001=>(if (!v2001)=true then (FI a0 a1 a2 true) else ((D9 a1 a2).bind fun v2006=>(FI a0 a1 a2 (!v2006)))))
def HC (a0:Int):Option (Bool):=
 (if (decide (a0=3))=true then (some true) else (if (decide (a0=7))=true then (some true) else (if (decide (a0=8))=true then (some true) else (if (decide (a0=10))=true then (some true) else (some (decide (a0=11)))))))
def HD (a1:Int) (a2:Int) (a3:Int) (p0_0:Bool):Option (Int):=
 (if p0_0=true then (some 2) else ((HB a1 a2 a3).bind fun v8003=>(if v8003=true then (some 3) else (some 0))))
def HE (p1_0:Bool):Option (Int):=
 (if p1_0=true then (some 1) else (some 0))
def HF (a2:Int) (p2_0:Bool):Option (Int):=
 (if p2_0=true then (some 5) else (if (decide (a2=11))=true then (some 6) else (some 0)))
def I4 (a0:Int) (a1:Int) (a2:Int) (a3:Int):Option (Int):=
 (if (decide (a0=5))=true then (some 4) else (if (decide (a0=4))=true then (if (decide (a2=4))=true then (HD a1 a2 a3 (decide (a1=a3))) else (HD a1 a2 a3 false)) else (if (decide (a0=2))=true then (if (decide (a2=3))=true then (HE (decide (a1=a3))) else (HE false)) else (if (decide (a0=6))=true then (if (decide (a2=7))=true then (HF a2 (decide (a2=7))) else (HF a2 (decide (a2=8)))) else (if (decide (a0=9))=true then (if (decide (a2=10))=true then (some 6) else (some 0)) else (if (decide (a0=12))=true then ((HC a2).bind fun v24001=>(if v24001=true then (some 7) else (some 0))) else (some 0)))))))
def Fe (a0:Int) (a1:Int) (a2:Int) (a3:Int) (p0_0:Bool):Option (Int × Int):=
 (if p0_0=true then (some (0,0)) else ((I4 a0 a1 a2 a3).bind fun v4004=>(if (!decide (v4004=0))=true then (some (v4004,1)) else ((I4 a2 a3 a0 a1).bind fun v7004=>(if (!decide (v7004=0))=true then (some (v7004,2)) else (some (8,0)))))))
def MX (a0:Int) (a1:Int) (a2:Int) (a3:Int):Option (Int × Int):=
 (if (decide (a0=1))=true then (Fe a0 a1 a2 a3 true) else (if (decide (a2=1))=true then (Fe a0 a1 a2 a3 true) else ((D9 a0 a1).bind fun v2009=>(if (!v2009)=true then (Fe a0 a1 a2 a3 true) else ((D9 a2 a3).bind fun v2015=>(Fe a0 a1 a2 a3 (!v2015)))))))
def Dl (v3008:Int × Int) (p1_0:Bool):Option (Int × Bool):=
 (if p1_0=true then (some (8,false)) else (some (v3008.1,(decide (v3008.2 =2)))))
def Dm (v3008:Int × Int) (p0_0:Int) (p0_1:Int) (p0_2:Int) (p0_3:List Int) (p0_4:List Port) (p0_5:Int) (p0_6:Int) (p0_7:Int) (p0_8:List Int) (p0_9:List Port):Option (Int × Bool):=
 (if (decide (v3008.1 =6))=true then (if (decide (p0_5=10))=true then (Dl v3008 (decide ((p0_8.length:Int)≤p0_2))) else (Dl v3008 false)) else (Dl v3008 false))
def GR (a0:Net) (a1:Pair):Option (Int × Bool):=
 ((at? a0.agents a1.a).bind fun v2006=>((at? a0.agents a1.b).bind fun v2014=>((MX v2006.kind v2006.level v2014.kind v2014.level).bind fun v3008=>(if (decide (v3008.2 =2))=true then (Dm v3008 v2014.kind v2014.level v2014.value v2014.data v2014.ports v2006.kind v2006.level v2006.value v2006.data v2006.ports) else (Dm v3008 v2006.kind v2006.level v2006.value v2006.data v2006.ports v2014.kind v2014.level v2014.value v2014.data v2014.ports)))))
mutual
def Bs:Nat→Net→(List Pair)→Int→Option ((List Pair))
 |0,_,_,_=>none
 |n+1,a0,p0_0,p0_1=>(if (decide (p0_1<(a0.agents.length:Int)))=true then ((at? a0.agents p0_1).bind fun v5001=>((at? v5001.ports 0).bind fun v6002=>(if (decide (v6002.slot=0))=true then (if (decide (p0_1<v6002.agent))=true then (DC n a0 p0_0 p0_1 v6002 (!decide (v5001.kind=1))) else (DC n a0 p0_0 p0_1 v6002 false)) else (DC n a0 p0_0 p0_1 v6002 false)))) else (some p0_0))
def DC:Nat→Net→(List Pair)→Int→Port→Bool→Option ((List Pair))
 |0,_,_,_,_,_=>none
 |n+1,a0,p0_0,p0_1,v6002,p1_0=>(if p1_0=true then ((app? p0_0 [(⟨p0_1,v6002.agent⟩:Pair)]).bind fun v8006=>(Bs n a0 v8006 (IntKind.i64.wrap (p0_1+1)))) else (Bs n a0 p0_0 (IntKind.i64.wrap (p0_1+1))))
end
def IC (a0:Net):Option ((List Pair)):=
 (Bs fuel a0 [] 0)
def Ff (a1:Int) (v4000:(List Pair)) (p0_0:Bool):Option (Pair × Int):=
 (if p0_0=true then (some ((⟨0,0⟩:Pair),2)) else ((at? v4000 a1).bind fun v7002=>(some (v7002,0))))
def MY (a0:Net) (a1:Int):Option (Pair × Int):=
 ((Gf a0).bind fun v2001=>(if (!v2001)=true then (some ((⟨0,0⟩:Pair),1)) else ((IC a0).bind fun v4000=>(if (decide (a1<0))=true then (Ff a1 v4000 true) else (Ff a1 v4000 (decide ((v4000.length:Int)≤a1)))))))
def Cs (a0:List Port):Option ((List Port)):=
 ((app? [] a0).bind fun v4002=>(some v4002))
def Do (a0:List Int):Option ((List Int)):=
 ((app? [] a0).bind fun v4002=>(some v4002))
def FO (a0:Agent):Option (Agent):=
 ((Do a0.data).bind fun v2002=>((Cs a0.ports).bind fun v2005=>(some (⟨a0.kind,a0.level,a0.value,v2002,v2005⟩:Agent))))
def Du:Nat→Net→(List Agent)→Int→Option (Net)
 |0,_,_,_=>none
 |n+1,a0,p1_0,p1_1=>(if (decide (p1_1<(a0.agents.length:Int)))=true then ((at? a0.agents p1_1).bind fun v5000=>((FO v5000).bind fun v6003=>((app? p1_0 [v6003]).bind fun v6005=>(Du n a0 v6005 (IntKind.i64.wrap (p1_1+1)))))) else (some (⟨p1_0⟩:Net)))
def ID (a0:Net):Option (Net):=
 ((PB (a0.agents.length:Int) (⟨0,0,0,[],[]⟩:Agent)).bind fun v2003=>(Du fuel a0 [] 0))
def FP (a0:List Net) (a1:Net):Option (Rewriter):=
 ((ID a1).bind fun v2001=>(some (⟨v2001,a0,[]⟩:Rewriter)))
def Ca (a0:Net) (a1:Port) (a2:Port):Option (Net):=
 ((at? a0.agents a1.agent).bind fun v2006=>((at? v2006.ports a1.slot).bind fun v2012=>((Bm v2006.ports a1.slot a2).bind fun v2013_3=>((Bm a0.agents a1.agent (⟨v2006.kind,v2006.level,v2006.value,v2006.data,v2013_3⟩:Agent)).bind fun v2013_4=>((at? v2013_4 a2.agent).bind fun v3006=>((at? v3006.ports a2.slot).bind fun v3012=>((Bm v3006.ports a2.slot a1).bind fun v3013_5=>((Bm v2013_4 a2.agent (⟨v3006.kind,v3006.level,v3006.value,v3006.data,v3013_5⟩:Agent)).bind fun v3013_6=>(some (⟨v3013_6⟩:Net))))))))))
def CK (a0:Rewriter) (a1:Port) (a2:Port):Option (Rewriter):=
 ((Ct a0.net a1).bind fun v2004=>((Ct a0.net a2).bind fun v2009=>(if (!(decide (v2004.agent=a2.agent)&&decide (v2004.slot=a2.slot)))=true then ((Ca a0.net v2004 v2009).bind fun v4005=>(some (⟨v4005,a0.book,a0.removed⟩:Rewriter))) else (some a0))))
def AW (a0:Rewriter) (a1:Port) (a2:Port):Option (Rewriter):=
 ((Ct a0.net a1).bind fun v2007=>((Ca a0.net v2007 a2).bind fun v2009=>(some (⟨v2009,a0.book,a0.removed⟩:Rewriter))))
def A0:Nat→Rewriter→(List Int)→(List (Int × Bool))→Int→Option (Rewriter)
 |0,_,_,_,_=>none
 |n+1,a0,a1,p0_0,p0_1=>(if (decide (p0_1<(a1.length:Int)))=true then ((at? a1 p0_1).bind fun v3000=>((Lm p0_0 v3000 true).bind fun v4005_6=>(A0 n a0 a1 v4005_6 (IntKind.i64.wrap (p0_1+1))))) else (some (⟨a0.net,a0.book,p0_0⟩:Rewriter)))
def BX (a0:Rewriter) (a1:List Int):Option (Rewriter):=
 (A0 fuel a0 a1 a0.removed 0)
def Cu (a0:Rewriter):Option (Int):=
 (some (IntKind.i64.wrap ((a0.net.agents.length:Int) - (a0.removed.length:Int))))
def Fg (a0:List Int):Option ((List Int)):=
 ((app? [] a0).bind fun v4002=>(some v4002))
def Gu (a0:Agent):Option (Agent):=
 ((Fg a0.data).bind fun v2002=>((Cs a0.ports).bind fun v2005=>(some (⟨a0.kind,a0.level,a0.value,v2002,v2005⟩:Agent))))
def Ey:Nat→Net→(List Agent)→Int→Option (Net)
 |0,_,_,_=>none
 |n+1,a0,p1_0,p1_1=>(if (decide (p1_1<(a0.agents.length:Int)))=true then ((at? a0.agents p1_1).bind fun v5000=>((Gu v5000).bind fun v6003=>((app? p1_0 [v6003]).bind fun v6005=>(Ey n a0 v6005 (IntKind.i64.wrap (p1_1+1)))))) else (some (⟨p1_0⟩:Net)))
def Kf (a0:Net):Option (Net):=
 ((PB (a0.agents.length:Int) (⟨0,0,0,[],[]⟩:Agent)).bind fun v2003=>(Ey fuel a0 [] 0))
def DX:Nat→Int→Net→(List Agent)→Int→Option (Net × Bool)
 |0,_,_,_,_=>none
 |n+1,a1,v2001,p1_0,p1_1=>(if (decide (p1_1<(v2001.agents.length:Int)))=true then ((at? p1_0 p1_1).bind fun v6003=>((Ex v6003.kind).bind fun v7004=>(if (!v7004)=true then (DX n a1 v2001 p1_0 (IntKind.i64.wrap (p1_1+1))) else ((Bm p1_0 p1_1 (⟨v6003.kind,(IntKind.i64.wrap (v6003.level+a1)),v6003.value,v6003.data,v6003.ports⟩:Agent)).bind fun v8008_23=>((at? v8008_23 p1_1).bind fun v9003_24=>(if (decide (8<v9003_24.level))=true then (some ((⟨[]⟩:Net),false)) else (DX n a1 v2001 v8008_23 (IntKind.i64.wrap (p1_1+1))))))))) else (some ((⟨p1_0⟩:Net),true)))
def I5 (a0:Net) (a1:Int):Option (Net × Bool):=
 ((Kf a0).bind fun v2001=>(DX fuel a1 v2001 v2001.agents 0))
def DV (a0:Rewriter) (p0_0:Int) (p0_1:Int) (v2004:Int × Bool):Option (Int × Int × Int × Int):=
 (some (v2004.1,p0_0,p0_1,0))
def Cf (a0:Rewriter) (v2004:Int × Bool) (p0_0:Int) (p0_1:Int):Option (Int × Int × Int × Int):=
 (if (decide (v2004.1 =8))=true then (some (0,0,0,11)) else (if (decide (v2004.1 =7))=true then ((at? a0.net.agents p0_0).bind fun v10006=>(if (decide ((a0.book.length:Int)≤v10006.value))=true then (some (0,0,0,3)) else ((at? a0.book v10006.value).bind fun v13006=>((I5 v13006 v10006.level).bind fun v13010=>(if (!v13010.2)=true then (some (0,0,0,9)) else (DV a0 p0_0 p0_1 v2004)))))) else (DV a0 p0_0 p0_1 v2004)))
def Ad (a0:Rewriter) (a1:Pair):Option (Int × Int × Int × Int):=
 ((GR a0.net a1).bind fun v2004=>(if v2004.2 =true then (Cf a0 v2004 a1.b a1.a) else (Cf a0 v2004 a1.a a1.b)))
def IE (a1:Int) (p1_2:Int) (p2_0:Bool):Option (Int × Int):=
 (if p2_0=true then (some (0,2)) else (some ((IntKind.i64.wrap (a1+p1_2)),0)))
def De (a1:Int) (p1_0:Int) (p1_1:Int) (p1_2:Int):Option (Int × Int):=
 (if (decide (a1<p1_0))=true then (IE a1 p1_2 true) else (IE a1 p1_2 (decide (p1_1<a1))))
def IF (a0:Int) (a1:Int) (p0_0:Bool):Option (Int × Int):=
 (if p0_0=true then (De a1 0 0 (-2)) else (if (decide (a0=3))=true then (De a1 0 3 0) else (if (decide (a0=4))=true then (De a1 0 3 (-2)) else (if (decide (a0=5))=true then (De a1 0 0 (-1)) else (if (decide (a0=6))=true then (De a1 0 3 (-1)) else (if (decide (a0=7))=true then (De a1 2 600 (-2)) else (some (0,2))))))))
def MZ (a0:Int) (a1:Int):Option (Int × Int):=
 (if (decide (a0=1))=true then (IF a0 a1 (decide (a0=1))) else (IF a0 a1 (decide (a0=2))))
def BC (a0:Rewriter) (a1:Int) (p1_0:Int):Option (Int):=
 ((MZ a1 p1_0).bind fun v12002=>(some v12002.1))
def DD (a0:Rewriter) (a1:Int) (a2:Int) (a3:Int) (p0_0:Bool):Option (Int):=
 (if p0_0=true then ((at? a0.net.agents a3).bind fun v6006=>(BC a0 a1 (IntKind.i64.wrap ((v6006.ports.length:Int) - 1)))) else (if (decide (a1=6))=true then ((at? a0.net.agents a2).bind fun v8006=>(if (decide (v8006.kind=9))=true then ((at? a0.net.agents a2).bind fun v9006=>(BC a0 a1 (IntKind.i64.wrap ((v9006.ports.length:Int) - 1)))) else (BC a0 a1 0))) else (if (decide (a1=7))=true then ((at? a0.net.agents a2).bind fun v11010=>((at? a0.book v11010.value).bind fun v11013=>(BC a0 a1 (v11013.agents.length:Int)))) else (BC a0 a1 0))))
def EA (a0:Rewriter) (a1:Int) (a2:Int) (a3:Int):Option (Int):=
 (if (decide (a1=3))=true then (DD a0 a1 a2 a3 (decide (a1=3))) else (DD a0 a1 a2 a3 (decide (a1=4))))
end Go.Proofs.YteckcjgpnegkjaaGreat.Ab
