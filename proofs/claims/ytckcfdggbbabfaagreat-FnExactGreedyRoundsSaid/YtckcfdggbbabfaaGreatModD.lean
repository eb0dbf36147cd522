/-
  Models of the functions. Printed by wip/ab/gen.py.
-/
import Derived.Test.YtckcfdggbbabfaaGreatModC
namespace Go.Proofs.YtckcfdggbbabfaaGreat.Ab
set_option linter.unusedVariables false
set_option linter.unusedSimpArgs false
set_option maxRecDepth 20000
set_option maxHeartbeats 4000000
open Go.RowKit
def Ae (a0:Rewriter) (a1:Int) (a2:Int) (a3:Int) (a4:List Int) (a5:Int):Option (Int × Rewriter):=
 (Option.bind (C6 a4) fun v2010=>(Option.bind (Nk a5 (⟨0,0⟩:Port)) fun v2012=>(Option.bind (app? a0.net.agents [(⟨a1,a2,a3,v2010,v2012⟩:Agent)]) fun v2015=>(some ((IntKind.i64.wrap (((List.length v2015:Nat):Int) - 1)),(⟨(⟨v2015⟩:Net),a0.book,a0.removed⟩:Rewriter))))))
def Ax:Nat→Rewriter→Int→(List Int)→(List (Int × Bool))→(List Agent)→Int→Option (Rewriter)
 |0,_,_,_,_,_,_=>none
 |n+1,a0,a2,p1_2,p2_0,p2_1,p2_2=>(if (decide (p2_2<((List.length p1_2:Nat):Int)))=true then (Option.bind (at? p1_2 p2_2) fun v16001=>(Option.bind (AS (⟨(⟨p2_1⟩:Net),a0.book,p2_0⟩:Rewriter) (⟨a2,(IntKind.i64.wrap (p2_2+1))⟩:Port) (⟨v16001,0⟩:Port)) fun v17007=>(Ax n a0 a2 p1_2 v17007.removed v17007.net.agents (IntKind.i64.wrap (p2_2+1))))) else (some (⟨(⟨p2_1⟩:Net),a0.book,p2_0⟩:Rewriter)))
def Ak:Nat→Rewriter→Int→Int→Agent→(Int × Rewriter)→(Int × Rewriter)→(List (Int × Bool))→(List Agent)→(List Int)→Int→Option (Rewriter)
 |0,_,_,_,_,_,_,_,_,_,_=>none
 |n+1,a0,a1,a2,v1006,v2012,v3012,p1_0,p1_1,p1_2,p1_3=>(if (decide (p1_3<(((List.length v1006.ports):Nat):Int)))=true then (Option.bind (at? p1_1 a1) fun v8007=>(Option.bind (Ae (⟨(⟨p1_1⟩:Net),a0.book,p1_0⟩:Rewriter) 4 v8007.level 0 [] 3) fun v8010=>(Option.bind (CA v8010.2.net (⟨v8010.1,1⟩:Port) (⟨v2012.1,p1_3⟩:Port)) fun v9008=>(Option.bind (CA v9008 (⟨v8010.1,2⟩:Port) (⟨v3012.1,p1_3⟩:Port)) fun v10008=>(Option.bind (app? p1_2 [v8010.1]) fun v11003=>(Ak n a0 a1 a2 v1006 v2012 v3012 v8010.2.removed v10008.agents v11003 (IntKind.i64.wrap (p1_3+1)))))))) else (Option.bind (AS (⟨(⟨p1_1⟩:Net),a0.book,p1_0⟩:Rewriter) (⟨a1,1⟩:Port) (⟨v2012.1,0⟩:Port)) fun v12005=>(Option.bind (AS (⟨v12005.net,a0.book,v12005.removed⟩:Rewriter) (⟨a1,2⟩:Port) (⟨v3012.1,0⟩:Port)) fun v13005=>(Ax fuel a0 a2 p1_2 v13005.removed v13005.net.agents 0))))
def CY (a0:Rewriter) (a1:Int) (a2:Int):Option (Rewriter):=
 (Option.bind (at? a0.net.agents a2) fun v1006=>(Option.bind (Ae a0 v1006.kind v1006.level v1006.value v1006.data (((List.length v1006.ports):Nat):Int)) fun v2012=>(Option.bind (Ae (⟨v2012.2.net,a0.book,v2012.2.removed⟩:Rewriter) v1006.kind v1006.level v1006.value v1006.data (((List.length v1006.ports):Nat):Int)) fun v3012=>(Ak fuel a0 a1 a2 v1006 v2012 v3012 v3012.2.removed v3012.2.net.agents [] 1))))
def Gf (a0:Bool):Option (Int):=
 (if a0=true then (some 1) else (some 0))
def DV (a0:Int):Option (Int):=
 (some (IntKind.i64.wrap (IntKind.i32.wrap a0)))
def E1 (a0:Int) (a1:Int) (a2:Int):Option (Int):=
 (Option.bind (DV a1) fun v2001=>(Option.bind (DV a2) fun v2003=>(if (decide (a0=1))=true then (Option.bind (DV (IntKind.i64.wrap (v2001+v2003))) fun v5003=>(some v5003)) else (if (decide (a0=2))=true then (Option.bind (DV (IntKind.i64.wrap (v2001 - v2003))) fun v7003=>(some v7003)) else (if (decide (a0=3))=true then (Option.bind (DV (IntKind.i64.wrap (v2001*v2003))) fun v9003=>(some v9003)) else (if (decide (a0=4))=true then (if (decide (v2003=0))=true then (some 0) else (Option.bind (nz? v2003) fun v13002=>(Option.bind (DV (IntKind.i64.wrap (Int.tdiv v2001 v2003))) fun v13003=>(some v13003)))) else (if (decide (a0=5))=true then (Option.bind (Gf (decide (v2001<v2003))) fun v15003=>(some v15003)) else (if (decide (a0=6))=true then (Option.bind (Gf (decide (v2001=v2003))) fun v17003=>(some v17003)) else (some 0)))))))))
def CR (a0:Rewriter) (a1:Int) (a2:Int):Option (Rewriter):=
 (Option.bind (at? a0.net.agents a1) fun v1006=>(Option.bind (at? a0.net.agents a2) fun v1015=>(if (decide (v1015.kind=7))=true then (Option.bind (Ae a0 8 v1015.level v1015.value [v1006.value] 2) fun v3007=>(Option.bind (AS (⟨v3007.2.net,a0.book,v3007.2.removed⟩:Rewriter) (⟨a2,1⟩:Port) (⟨v3007.1,0⟩:Port)) fun v4005=>(Option.bind (AS (⟨v4005.net,a0.book,v4005.removed⟩:Rewriter) (⟨a2,2⟩:Port) (⟨v3007.1,1⟩:Port)) fun v5005=>(some (⟨v5005.net,a0.book,v5005.removed⟩:Rewriter))))) else (Option.bind (at? v1015.data 0) fun v6008=>(Option.bind (E1 v1015.value v6008 v1006.value) fun v6011=>(Option.bind (Ae a0 6 0 v6011 [] 1) fun v6012=>(Option.bind (AS (⟨v6012.2.net,a0.book,v6012.2.removed⟩:Rewriter) (⟨a2,1⟩:Port) (⟨v6012.1,0⟩:Port)) fun v6014=>(some (⟨v6014.net,a0.book,v6014.removed⟩:Rewriter)))))))))
def A8:Nat→Rewriter→Int→Int→Int→Int→(List Int)→(List (Int × Bool))→(List Agent)→Int→Option (Rewriter)
 |0,_,_,_,_,_,_,_,_,_=>none
 |n+1,a0,a1,a2,p2_2,p2_3,p2_4,p4_0,p4_1,p4_2=>(if (decide (p4_2<((List.length p2_4:Nat):Int)))=true then (Option.bind (at? p2_4 p4_2) fun v15001=>(Option.bind (AS (⟨(⟨p4_1⟩:Net),a0.book,p4_0⟩:Rewriter) (⟨a1,(IntKind.i64.wrap (p4_2+1))⟩:Port) (⟨v15001,1⟩:Port)) fun v16007=>(A8 n a0 a1 a2 p2_2 p2_3 p2_4 v16007.removed v16007.net.agents (IntKind.i64.wrap (p4_2+1))))) else (Option.bind (AS (⟨(⟨p4_1⟩:Net),a0.book,p4_0⟩:Rewriter) (⟨a2,1⟩:Port) (⟨p2_2,p2_3⟩:Port)) fun v18004=>(some (⟨v18004.net,a0.book,v18004.removed⟩:Rewriter))))
def BK:Nat→Rewriter→Int→Int→Agent→Agent→(List (Int × Bool))→(List Agent)→Int→Int→(List Int)→Int→Option (Rewriter)
 |0,_,_,_,_,_,_,_,_,_,_,_=>none
 |n+1,a0,a1,a2,v1006,v1014,p2_0,p2_1,p2_2,p2_3,p2_4,p2_5=>(if (decide (p2_5<(IntKind.i64.wrap ((((List.length v1006.ports):Nat):Int) - 1))))=true then (Option.bind (Ae (⟨(⟨p2_1⟩:Net),a0.book,p2_0⟩:Rewriter) 3 v1014.level 0 [] 3) fun v8003=>(Option.bind (CA v8003.2.net (⟨v8003.1,0⟩:Port) (⟨p2_2,p2_3⟩:Port)) fun v9006=>(Option.bind (app? p2_4 [v8003.1]) fun v11003=>(BK n a0 a1 a2 v1006 v1014 v8003.2.removed v9006.agents v8003.1 2 v11003 (IntKind.i64.wrap (p2_5+1)))))) else (A8 fuel a0 a1 a2 p2_2 p2_3 p2_4 p2_0 p2_1 0))
def DW (a0:Rewriter) (a1:Int) (a2:Int) (v1006:Agent) (v1014:Agent) (v4009:Int × Rewriter):Option (Rewriter):=
 (BK fuel a0 a1 a2 v1006 v1014 v4009.2.removed v4009.2.net.agents v4009.1 0 [] 0)
def Bl (a0:Rewriter) (a1:Int) (a2:Int):Option (Rewriter):=
 (Option.bind (at? a0.net.agents a1) fun v1006=>(Option.bind (at? a0.net.agents a2) fun v1014=>(if (decide (v1006.kind=6))=true then (Option.bind (Gf (decide (v1006.value=0))) fun v3011=>(Option.bind (at? v1014.data v3011) fun v3012=>(Option.bind (Ae a0 12 v1014.level v3012 [] 1) fun v3014=>(Option.bind (AS (⟨v3014.2.net,a0.book,v3014.2.removed⟩:Rewriter) (⟨a2,1⟩:Port) (⟨v3014.1,0⟩:Port)) fun v3016=>(some (⟨v3016.net,a0.book,v3016.removed⟩:Rewriter)))))) else (Option.bind (at? v1014.data v1006.value) fun v4007=>(Option.bind (Ae a0 12 v1014.level v4007 [] 1) fun v4009=>(DW a0 a1 a2 v1006 v1014 v4009))))))
end Go.Proofs.YtckcfdggbbabfaaGreat.Ab
