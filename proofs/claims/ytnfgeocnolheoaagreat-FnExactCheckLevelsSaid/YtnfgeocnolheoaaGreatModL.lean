/-
  Models of the functions. Printed by wip/ab/gen.py.
-/
import Derived.Test.YtnfgeocnolheoaaGreatModT
namespace Go.Proofs.YtnfgeocnolheoaaGreat.Ab
set_option linter.unusedVariables false
set_option linter.unusedSimpArgs false
set_option maxRecDepth 20000
set_option maxHeartbeats 4000000
open Go.RowKit
mutual
def s_l05LevelsFit:Nat→TProgram→Term→L05Env→Int→Option (Bool)
 |0,_,_,_,_=>none
 |n+1,a0,a1,a2,a3=>(if (decide (8<a3))=true then (some false) else (if (decide (a1.kind=1))=true then ((IG a2.names a1.name).bind fun v6006=>(if (decide (v6006<0))=true then (some true) else ((at? a2.levels v6006).bind fun v7006=>(some (decide (v7006=a3)))))) else (if (decide (a1.kind=4))=true then ((at? a1.kids 0).bind fun v9005=>((F3 a2 a1.name a1.typ a3).bind fun v9016=>((s_l05LevelsFit n a0 v9005 v9016 a3).bind fun v9018=>(some v9018)))) else (if (decide (a1.kind=6))=true then ((at? a1.kids 0).bind fun v11005=>((s_l05LevelsFit n a0 v11005 a2 (IntKind.i64.wrap (a3+1))).bind fun v11009=>(some v11009))) else (if (decide (a1.kind=7))=true then ((at? a1.kids 0).bind fun v13005=>((BQ fuel a0 v13005 a2 a3).bind fun v13008=>((Ct v13008.1).bind fun v14001=>(if (decide (v13008.1.kind =4))=true then (Cu n a0 a1 a2 a3 v14001 (IntKind.i64.wrap (a3+1))) else (Cu n a0 a1 a2 a3 v14001 a3))))) else (if (decide (a1.kind=10))=true then ((at? a1.kids 0).bind fun v20005=>((HK a0 a1 a2 a3).bind fun v20010=>((s_l05LevelsFit n a0 v20005 v20010 a3).bind fun v20012=>(some v20012)))) else (Ba n a0 a1 a2 a3 0)))))))
def Cu:Nat→TProgram→Term→L05Env→Int→(TType × Bool)→Int→Option (Bool)
 |0,_,_,_,_,_,_=>none
 |n+1,a0,a1,a2,a3,v14001,p0_0=>((at? a1.kids 0).bind fun v18005=>((s_l05LevelsFit n a0 v18005 a2 a3).bind fun v18008=>(if v18008=true then ((at? a1.kids 1).bind fun v18015=>((F3 a2 a1.name v14001.1 p0_0).bind fun v18023=>((s_l05LevelsFit n a0 v18015 v18023 a3).bind fun v18025=>(some v18025)))) else (some false))))
def Ba:Nat→TProgram→Term→L05Env→Int→Int→Option (Bool)
 |0,_,_,_,_,_=>none
 |n+1,a0,a1,a2,a3,p2_0=>(if (decide (p2_0<(a1.kids.length:Int)))=true then ((at? a1.kids p2_0).bind fun v24006=>((s_l05LevelsFit n a0 v24006 a2 a3).bind fun v24009=>(if (!v24009)=true then (some false) else (Ba n a0 a1 a2 a3 (IntKind.i64.wrap (p2_0+1)))))) else (some true))
end
def Cv:Nat→TProgram→Int→Option (Int)
 |0,_,_=>none
 |n+1,a0,p0_0=>(if (decide (p0_0<(a0.defs.length:Int)))=true then ((at? a0.defs p0_0).bind fun v8006=>((s_l05LevelsFit fuel a0 v8006.body (⟨[],[],[]⟩:L05Env) 0).bind fun v8009=>(if (!v8009)=true then (some 9) else (Cv n a0 (IntKind.i64.wrap (p0_0+1)))))) else (some 0))
def J5 (a0:TProgram):Option (Int):=
 ((Ja a0).bind fun v2001=>(if (!decide (v2001=0))=true then (some v2001) else (Cv fuel a0 0)))
def Gf (a0:TProgram):Option (Int):=
 ((J5 a0).bind fun v2000=>(some v2000))
def Ax:Nat→(List Node)→Int→(Node→Option Bool)→Option (Int)
 |0,_,_,_=>none
 |n+1,a0,p0_0,f1=>(if (decide (p0_0<(a0.length:Int)))=true then ((at? a0 p0_0).bind fun v5003=>((f1 v5003).bind fun v5005=>(if v5005=true then (some p0_0) else (Ax n a0 (IntKind.i64.wrap (p0_0+1)) f1)))) else (some (-1)))
def Ce (a0:List Node) (f1:(Node→Option Bool)):Option (Int):=
 (Ax fuel a0 0 f1)
def BX (a0:List Node) (f1:(Node→Option Bool)):Option (Bool):=
 ((Ce a0 f1).bind fun v2002=>(some (decide (0≤v2002))))
mutual
def Db:Nat→Node→Option (Bool)
 |0,_=>none
 |n+1,a0=>((Ad n a0).bind fun v2001=>(some (!v2001)))
def Ad:Nat→Node→Option (Bool)
 |0,_=>none
 |n+1,a0=>(if (decide (8<a0.level))=true then (Bi n a0 a0.binder true) else (TV a0.binder (Bi n a0 none false) (fun v2009_8=>(Bi n a0 (some v2009_8) (!decide (v2009_8.level=a0.level))))))
def Bi:Nat→Node→(Option Binder)→Bool→Option (Bool)
 |0,_,_,_=>none
 |n+1,a0,p0_0,p0_1=>(if p0_1=true then (some false) else ((BX a0.kids (fun y0=>Db n y0)).bind fun v4004=>(some (!v4004))))
end
def ES (a0:Node):Option (Bool):=
 ((Ad fuel a0).bind fun v2001=>(some (!v2001)))
def DB (v2001:(List Node) × Int) (p0_0:Bool):Option ((List Node) × Int):=
 (if p0_0=true then (some ([],9)) else (some (v2001.1,v2001.2)))
def Gu (a0:TProgram):Option ((List Node) × Int):=
 ((Gg a0).bind fun v2001=>(if (decide (v2001.2 =0))=true then ((BX v2001.1 (fun y0=>ES y0)).bind fun v3004=>(DB v2001 v3004)) else (DB v2001 false)))
def Gi (a0:TProgram):Option (Int):=
 ((Gu a0).bind fun v2001=>(some v2001.2))
def ET (a0:TProgram):Option (Bool):=
 ((HJ a0 1048576).bind fun v3002=>(if (decide (v3002<0))=true then (some true) else ((Cd a0).bind fun v6001=>((Gf v6001).bind fun v6002=>((Cd a0).bind fun v7001=>((Gi v7001).bind fun v8001=>(if (!decide (v8001=v6002))=true then (some false) else ((Cd a0).bind fun v11002=>((FA v7001 v11002).bind fun v11003=>(if (!v11003)=true then (some false) else (some true)))))))))))
end Go.Proofs.YtnfgeocnolheoaaGreat.Ab
