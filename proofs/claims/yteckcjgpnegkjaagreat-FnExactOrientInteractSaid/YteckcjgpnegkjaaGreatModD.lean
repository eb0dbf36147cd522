/-
  Models of the functions. Printed by wip/ab/gen.py.
-/
import Derived.Test.YteckcjgpnegkjaaGreatModC
namespace Go.Proofs.YteckcjgpnegkjaaGreat.Ab
set_option linter.unusedVariables false
set_option linter.unusedSimpArgs false
set_option maxRecDepth 20000
set_option maxHeartbeats 4000000
open Go.RowKit
def Ak (a0:Rewriter) (a1:Int) (a2:Int) (a3:Int) (a4:List Int) (a5:Int):Option (Int × Rewriter):=
 ((Do a4).bind fun v2010=>((PB a5 (⟨0,0⟩:Port)).bind fun v2012=>((app? a0.net.agents [(⟨a1,a2,a3,v2010,v2012⟩:Agent)]).bind fun v2015=>(some ((IntKind.i64.wrap ((v2015.length:Int) - 1)),(⟨(⟨v2015⟩:Net),a0.book,a0.removed⟩:Rewriter))))))
def A7:Nat→Rewriter→Int→(List Int)→(List (Int × Bool))→(List Agent)→Int→Option (Rewriter)
 |0,_,_,_,_,_,_=>none
 |n+1,a0,a2,p1_2,p2_0,p2_1,p2_2=>(if (decide (p2_2<(p1_2.length:Int)))=true then ((at? p1_2 p2_2).bind fun v16001=>((AW (⟨(⟨p2_1⟩:Net),a0.book,p2_0⟩:Rewriter) (⟨a2,(IntKind.i64.wrap (p2_2+1))⟩:Port) (⟨v16001,0⟩:Port)).bind fun v17007=>(A7 n a0 a2 p1_2 v17007.removed v17007.net.agents (IntKind.i64.wrap (p2_2+1))))) else (some (⟨(⟨p2_1⟩:Net),a0.book,p2_0⟩:Rewriter)))
def As:Nat→Rewriter→Int→Int→Agent→(Int × Rewriter)→(Int × Rewriter)→(List (Int × Bool))→(List Agent)→(List Int)→Int→Option (Rewriter)
 |0,_,_,_,_,_,_,_,_,_,_=>none
 |n+1,a0,a1,a2,v1006,v2012,v3012,p1_0,p1_1,p1_2,p1_3=>(if (decide (p1_3<(((List.length v1006.ports):Nat):Int)))=true then ((at? p1_1 a1).bind fun v8007=>((Ak (⟨(⟨p1_1⟩:Net),a0.book,p1_0⟩:Rewriter) 4 v8007.level 0 [] 3).bind fun v8010=>((Ca v8010.2.net (⟨v8010.1,1⟩:Port) (⟨v2012.1,p1_3⟩:Port)).bind fun v9008=>((Ca v9008 (⟨v8010.1,2⟩:Port) (⟨v3012.1,p1_3⟩:Port)).bind fun v10008=>((app? p1_2 [v8010.1]).bind fun v11003=>(As n a0 a1 a2 v1006 v2012 v3012 v8010.2.removed v10008.agents v11003 (IntKind.i64.wrap (p1_3+1)))))))) else ((AW (⟨(⟨p1_1⟩:Net),a0.book,p1_0⟩:Rewriter) (⟨a1,1⟩:Port) (⟨v2012.1,0⟩:Port)).bind fun v12005=>((AW (⟨v12005.net,a0.book,v12005.removed⟩:Rewriter) (⟨a1,2⟩:Port) (⟨v3012.1,0⟩:Port)).bind fun v13005=>(A7 fuel a0 a2 p1_2 v13005.removed v13005.net.agents 0))))
def DE (a0:Rewriter) (a1:Int) (a2:Int):Option (Rewriter):=
 ((at? a0.net.agents a2).bind fun v1006=>((Ak a0 v1006.kind v1006.level v1006.value v1006.data (((List.length v1006.ports):Nat):Int)).bind fun v2012=>((Ak (⟨v2012.2.net,a0.book,v2012.2.removed⟩:Rewriter) v1006.kind v1006.level v1006.value v1006.data (((List.length v1006.ports):Nat):Int)).bind fun v3012=>(As fuel a0 a1 a2 v1006 v2012 v3012 v3012.2.removed v3012.2.net.agents [] 1))))
def H2 (a0:Bool):Option (Int):=
 (if a0=true then (some 1) else (some 0))
def EB (a0:Int):Option (Int):=
 (some (IntKind.i64.wrap (IntKind.i32.wrap a0)))
def F3 (a0:Int) (a1:Int) (a2:Int):Option (Int):=
 ((EB a1).bind fun v2001=>((EB a2).bind fun v2003=>(if (decide (a0=1))=true then ((EB (IntKind.i64.wrap (v2001+v2003))).bind fun v5003=>(some v5003)) else (if (decide (a0=2))=true then ((EB (IntKind.i64.wrap (v2001 - v2003))).bind fun v7003=>(some v7003)) else (if (decide (a0=3))=true then ((EB (IntKind.i64.wrap (v2001*v2003))).bind fun v9003=>(some v9003)) else (if (decide (a0=4))=true then (if (decide (v2003=0))=true then (some 0) else ((nz? v2003).bind fun v13002=>((EB (IntKind.i64.wrap (Int.tdiv v2001 v2003))).bind fun v13003=>(some v13003)))) else (if (decide (a0=5))=true then ((H2 (decide (v2001<v2003))).bind fun v15003=>(some v15003)) else (if (decide (a0=6))=true then ((H2 (decide (v2001=v2003))).bind fun v17003=>(some v17003)) else (some 0)))))))))
def Cv (a0:Rewriter) (a1:Int) (a2:Int):Option (Rewriter):=
 ((at? a0.net.agents a1).bind fun v1006=>((at? a0.net.agents a2).bind fun v1015=>(if (decide (v1015.kind=7))=true then ((Ak a0 8 v1015.level v1015.value [v1006.value] 2).bind fun v3007=>((AW (⟨v3007.2.net,a0.book,v3007.2.removed⟩:Rewriter) (⟨a2,1⟩:Port) (⟨v3007.1,0⟩:Port)).bind fun v4005=>((AW (⟨v4005.net,a0.book,v4005.removed⟩:Rewriter) (⟨a2,2⟩:Port) (⟨v3007.1,1⟩:Port)).bind fun v5005=>(some (⟨v5005.net,a0.book,v5005.removed⟩:Rewriter))))) else ((at? v1015.data 0).bind fun v6008=>((F3 v1015.value v6008 v1006.value).bind fun v6011=>((Ak a0 6 0 v6011 [] 1).bind fun v6012=>((AW (⟨v6012.2.net,a0.book,v6012.2.removed⟩:Rewriter) (⟨a2,1⟩:Port) (⟨v6012.1,0⟩:Port)).bind fun v6014=>(some (⟨v6014.net,a0.book,v6014.removed⟩:Rewriter)))))))))
def BD:Nat→Rewriter→Int→Int→Int→Int→(List Int)→(List (Int × Bool))→(List Agent)→Int→Option (Rewriter)
 |0,_,_,_,_,_,_,_,_,_=>none
 |n+1,a0,a1,a2,p2_2,p2_3,p2_4,p4_0,p4_1,p4_2=>(if (decide (p4_2<(p2_4.length:Int)))=true then ((at? p2_4 p4_2).bind fun v15001=>((AW (⟨(⟨p4_1⟩:Net),a0.book,p4_0⟩:Rewriter) (⟨a1,(IntKind.i64.wrap (p4_2+1))⟩:Port) (⟨v15001,1⟩:Port)).bind fun v16007=>(BD n a0 a1 a2 p2_2 p2_3 p2_4 v16007.removed v16007.net.agents (IntKind.i64.wrap (p4_2+1))))) else ((AW (⟨(⟨p4_1⟩:Net),a0.book,p4_0⟩:Rewriter) (⟨a2,1⟩:Port) (⟨p2_2,p2_3⟩:Port)).bind fun v18004=>(some (⟨v18004.net,a0.book,v18004.removed⟩:Rewriter))))
def BY:Nat→Rewriter→Int→Int→Agent→Agent→(List (Int × Bool))→(List Agent)→Int→Int→(List Int)→Int→Option (Rewriter)
 |0,_,_,_,_,_,_,_,_,_,_,_=>none
 |n+1,a0,a1,a2,v1006,v1014,p2_0,p2_1,p2_2,p2_3,p2_4,p2_5=>(if (decide (p2_5<(IntKind.i64.wrap ((((List.length v1006.ports):Nat):Int) - 1))))=true then ((Ak (⟨(⟨p2_1⟩:Net),a0.book,p2_0⟩:Rewriter) 3 v1014.level 0 [] 3).bind fun v8003=>((Ca v8003.2.net (⟨v8003.1,0⟩:Port) (⟨p2_2,p2_3⟩:Port)).bind fun v9006=>((app? p2_4 [v8003.1]).bind fun v11003=>(BY n a0 a1 a2 v1006 v1014 v8003.2.removed v9006.agents v8003.1 2 v11003 (IntKind.i64.wrap (p2_5+1)))))) else (BD fuel a0 a1 a2 p2_2 p2_3 p2_4 p2_0 p2_1 0))
def EC (a0:Rewriter) (a1:Int) (a2:Int) (v1006:Agent) (v1014:Agent) (v4009:Int × Rewriter):Option (Rewriter):=
 (BY fuel a0 a1 a2 v1006 v1014 v4009.2.removed v4009.2.net.agents v4009.1 0 [] 0)
def B9 (a0:Rewriter) (a1:Int) (a2:Int):Option (Rewriter):=
 ((at? a0.net.agents a1).bind fun v1006=>((at? a0.net.agents a2).bind fun v1014=>(if (decide (v1006.kind=6))=true then ((H2 (decide (v1006.value=0))).bind fun v3011=>((at? v1014.data v3011).bind fun v3012=>((Ak a0 12 v1014.level v3012 [] 1).bind fun v3014=>((AW (⟨v3014.2.net,a0.book,v3014.2.removed⟩:Rewriter) (⟨a2,1⟩:Port) (⟨v3014.1,0⟩:Port)).bind fun v3016=>(some (⟨v3016.net,a0.book,v3016.removed⟩:Rewriter)))))) else ((at? v1014.data v1006.value).bind fun v4007=>((Ak a0 12 v1014.level v4007 [] 1).bind fun v4009=>(EC a0 a1 a2 v1006 v1014 v4009))))))
end Go.Proofs.YteckcjgpnegkjaaGreat.Ab
