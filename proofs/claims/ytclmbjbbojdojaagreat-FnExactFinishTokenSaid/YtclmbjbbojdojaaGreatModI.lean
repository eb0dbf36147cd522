/-
  Data of the program as Lean types; how they lie in memory. Printed by wip/ab/gen.py.
-/
import Derived.Test.YtclmbjbbojdojaaGreatAbY
import Derived.Test.YtclmbjbbojdojaaGreatModY
namespace Go.Proofs.YtclmbjbbojdojaaGreat.Ab
set_option linter.unusedVariables false
set_option linter.unusedSimpArgs false
set_option maxRecDepth 20000
set_option maxHeartbeats 4000000
open Go.RowKit
structure Thing where
 att:Address
 slot:Int
 own:Bool
def Thing.ds (c:Thing):List D:=[.int .i64 c.att.machine,.int .i64 c.att.kind,.int .i64 c.att.index,.int .i64 c.slot,.bool c.own]
theorem Thing.ds_eq (c:Thing):c.ds=[.int .i64 c.att.machine,.int .i64 c.att.kind,.int .i64 c.att.index,.int .i64 c.slot,.bool c.own] :=rfl
@[go_sem] def Thing.avs (c:Thing):List AV:=[.int .i64 c.att.machine,.int .i64 c.att.kind,.int .i64 c.att.index,.int .i64 c.slot,.bool c.own]
@[go_sem] def Thing.rv (c:Thing):List RV:=[.int .i64 c.att.machine,.int .i64 c.att.kind,.int .i64 c.att.index,.int .i64 c.slot,.bool c.own]
@[go_sem] def Thing.rvn (c:Thing):List RV:=[.int .i64 c.att.machine,.int .i64 c.att.kind,.int .i64 c.att.index,.int .i64 c.slot,.bool c.own]
attribute [go_sem] Thing.ds_eq
theorem Thing.ds_len (c:Thing):c.ds.length=5:=by rw [Thing.ds_eq]; rfl
structure Statement where
 a:Thing
 b:Thing
def Statement.ds (c:Statement):List D:=[.int .i64 c.a.att.machine,.int .i64 c.a.att.kind,.int .i64 c.a.att.index,.int .i64 c.a.slot,.bool c.a.own,.int .i64 c.b.att.machine,.int .i64 c.b.att.kind,.int .i64 c.b.att.index,.int .i64 c.b.slot,.bool c.b.own]
theorem Statement.ds_eq (c:Statement):c.ds=[.int .i64 c.a.att.machine,.int .i64 c.a.att.kind,.int .i64 c.a.att.index,.int .i64 c.a.slot,.bool c.a.own,.int .i64 c.b.att.machine,.int .i64 c.b.att.kind,.int .i64 c.b.att.index,.int .i64 c.b.slot,.bool c.b.own] :=rfl
@[go_sem] def Statement.avs (c:Statement):List AV:=[.int .i64 c.a.att.machine,.int .i64 c.a.att.kind,.int .i64 c.a.att.index,.int .i64 c.a.slot,.bool c.a.own,.int .i64 c.b.att.machine,.int .i64 c.b.att.kind,.int .i64 c.b.att.index,.int .i64 c.b.slot,.bool c.b.own]
@[go_sem] def Statement.rv (c:Statement):List RV:=[.int .i64 c.a.att.machine,.int .i64 c.a.att.kind,.int .i64 c.a.att.index,.int .i64 c.a.slot,.bool c.a.own,.int .i64 c.b.att.machine,.int .i64 c.b.att.kind,.int .i64 c.b.att.index,.int .i64 c.b.slot,.bool c.b.own]
@[go_sem] def Statement.rvn (c:Statement):List RV:=[.int .i64 c.a.att.machine,.int .i64 c.a.att.kind,.int .i64 c.a.att.index,.int .i64 c.a.slot,.bool c.a.own,.int .i64 c.b.att.machine,.int .i64 c.b.att.kind,.int .i64 c.b.att.index,.int .i64 c.b.slot,.bool c.b.own]
attribute [go_sem] Statement.ds_eq
theorem Statement.ds_len (c:Statement):c.ds.length=10:=by rw [Statement.ds_eq]; rfl
def B0 (a0:Cluster):Option (Int):=
 (some (a0.grid.shards.length:Int))
def KI (a0:Int) (a1:Int):Option (Bool):=
 (if (decide (a0<0))=true then (some true) else (some (decide (a1<a0))))
def Gg (a0:Int) (a1:List Int):Option (Bool):=
 ((BC a1 (fun y0=>KI y0 a0)).bind fun v2002=>(some (!v2002)))
def A5:Nat→(List Parcel)→Int→(Parcel→Option Bool)→Option (Int)
 |0,_,_,_=>none
 |n+1,a0,p0_0,f1=>(if (decide (p0_0<(a0.length:Int)))=true then ((at? a0 p0_0).bind fun v5003=>((f1 v5003).bind fun v5005=>(if v5005=true then (some p0_0) else (A5 n a0 (IntKind.i64.wrap (p0_0+1)) f1)))) else (some (-1)))
def FE (a0:List Parcel) (f1:(Parcel→Option Bool)):Option (Int):=
 (A5 fuel a0 0 f1)
def BN (a0:List Parcel) (f1:(Parcel→Option Bool)):Option (Bool):=
 ((FE a0 f1).bind fun v2002=>(some (decide (0≤v2002))))
def Fa (a0:Parcel) (a1:Int) (p0_0:Bool):Option (Bool):=
 (if p0_0=true then (some false) else (if (decide (a0.kind=1))=true then (some (decide (a0.a.machine=a1))) else (if (decide (a0.kind=2))=true then (if (decide (a0.a.machine=a1))=true then (some (decide (a0.a.kind=2))) else (some false)) else (if (decide (a0.kind=3))=true then (if (decide (a0.a.machine=0)&&(decide (a0.a.kind=0)&&decide (a0.a.index=0)))=true then (if (decide (a0.b.machine=a1))=true then (if (!decide (a0.cell.kind=0))=true then ((EK a0.cell).bind fun v11020=>(some v11020)) else (some false)) else (some false)) else (some false)) else (if (decide (a0.kind=4))=true then (if (decide (a0.a.machine=0)&&(decide (a0.a.kind=0)&&decide (a0.a.index=0)))=true then (some (decide (a0.b.machine=0)&&(decide (a0.b.kind=0)&&decide (a0.b.index=0)))) else (some false)) else (some false))))))
def HJ (a0:Parcel) (a1:Int):Option (Bool):=
 (if (!(decide (a0.kind=3)))=true then ((Em a0.cell (⟨0,0,0,[],[]⟩:ShardCell)).bind fun v3006=>(Fa a0 a1 (!v3006))) else (Fa a0 a1 false))
def Dq (a0:Parcel) (a1:Int):Option (Bool):=
 ((HJ a0 a1).bind fun v2002=>(some (!v2002)))
mutual
def Az:Nat→(List (List Parcel))→Int→Int→Option (Bool)
 |0,_,_,_=>none
 |n+1,a0,a1,p0_0=>(if (decide (p0_0<(a0.length:Int)))=true then ((at? a0 p0_0).bind fun v6001=>((nz? a1).bind fun v7002=>((nz? a1).bind fun v7005=>(if (decide ((IntKind.i64.wrap (Int.tdiv p0_0 a1))=(Int.tmod p0_0 a1)))=true then (if (decide (0<(v6001.length:Int)))=true then (BK n a0 a1 p0_0 true) else (if (decide (200<(v6001.length:Int)))=true then (BK n a0 a1 p0_0 true) else ((BN v6001 (fun y0=>Dq y0 (Int.tmod p0_0 a1))).bind fun v8016=>(BK n a0 a1 p0_0 v8016)))) else (if (decide (200<(v6001.length:Int)))=true then (BK n a0 a1 p0_0 true) else ((BN v6001 (fun y0=>Dq y0 (Int.tmod p0_0 a1))).bind fun v8016=>(BK n a0 a1 p0_0 v8016))))))) else (some true))
def BK:Nat→(List (List Parcel))→Int→Int→Bool→Option (Bool)
 |0,_,_,_,_=>none
 |n+1,a0,a1,p0_0,p1_0=>(if p1_0=true then (some false) else (Az n a0 a1 (IntKind.i64.wrap (p0_0+1))))
end
def GE (a0:List (List Parcel)) (a1:Int):Option (Bool):=
 (if (!decide ((a0.length:Int)=(IntKind.i64.wrap (a1*a1))))=true then (some false) else (Az fuel a0 a1 0))
def Bf:Nat→(List (List Int))→Int→((List Int)→Option Bool)→Option (Int)
 |0,_,_,_=>none
 |n+1,a0,p0_0,f1=>(if (decide (p0_0<(a0.length:Int)))=true then ((at? a0 p0_0).bind fun v5003=>((f1 v5003).bind fun v5005=>(if v5005=true then (some p0_0) else (Bf n a0 (IntKind.i64.wrap (p0_0+1)) f1)))) else (some (-1)))
def HC (a0:List (List Int)) (f1:((List Int)→Option Bool)):Option (Int):=
 (Bf fuel a0 0 f1)
def EB (a0:List (List Int)) (f1:((List Int)→Option Bool)):Option (Bool):=
 ((HC a0 f1).bind fun v2002=>(some (decide (0≤v2002))))
def GZ (a0:List Int):Option (Bool):=
 (if (decide ((a0.length:Int)=7))=true then ((Gg 1000000000 a0).bind fun v2005=>(some v2005)) else (some false))
def G2 (a0:List Int):Option (Bool):=
 ((GZ a0).bind fun v2001=>(some (!v2001)))
def BB:Nat→(List Shard)→Int→(Shard→Option Bool)→Option (Int)
 |0,_,_,_=>none
 |n+1,a0,p0_0,f1=>(if (decide (p0_0<(a0.length:Int)))=true then ((at? a0 p0_0).bind fun v5003=>((f1 v5003).bind fun v5005=>(if v5005=true then (some p0_0) else (BB n a0 (IntKind.i64.wrap (p0_0+1)) f1)))) else (some (-1)))
def Fb (a0:List Shard) (f1:(Shard→Option Bool)):Option (Int):=
 (BB fuel a0 0 f1)
def B8 (a0:List Shard) (f1:(Shard→Option Bool)):Option (Bool):=
 ((Fb a0 f1).bind fun v2002=>(some (decide (0≤v2002))))
def EV (a0:Shard):Option (Bool):=
 ((IA a0).bind fun v2001=>(some (!v2001)))
def GO (a0:Int) (a1:Int):Option (Address):=
 (some (⟨a0,1,a1⟩:Address))
def G3 (a0:Int) (a1:Int):Option (Address):=
 (some (⟨a0,2,a1⟩:Address))
def Dw (a0:Grid) (a1:Address) (p0_0:Bool):Option (Bool):=
 (if p0_0=true then (some false) else ((at? a0.shards a1.machine).bind fun v4006=>(if (decide (a1.kind=1))=true then (if (decide (a1.index<(v4006.cells.length:Int)))=true then ((at? v4006.cells a1.index).bind fun v7011=>(some (!decide (v7011.kind=0)))) else (some false)) else (if (decide (a1.kind=2))=true then (if (decide (a1.index<(v4006.vars.length:Int)))=true then ((at? v4006.vars a1.index).bind fun v9011=>(some v9011.used)) else (some false)) else (some false)))))
def Fz (a0:Grid) (a1:Address):Option (Bool):=
 (if (decide (a1.machine<0))=true then (Dw a0 a1 true) else (if (decide ((a0.shards.length:Int)≤a1.machine))=true then (Dw a0 a1 true) else (Dw a0 a1 (decide (a1.index<0)))))
mutual
def Ex:Nat→(List Statement)→(List (List Int × Int))→Int→Option ((List (List Int × Int)))
 |0,_,_,_=>none
 |n+1,a0,p3_0,p3_1=>(if (decide (p3_1<(a0.length:Int)))=true then ((at? a0 p3_1).bind fun v5000=>(Dh n a0 p3_1 v5000 p3_0 0)) else (some p3_0))
def Dh:Nat→(List Statement)→Int→Statement→(List (List Int × Int))→Int→Option ((List (List Int × Int)))
 |0,_,_,_,_,_=>none
 |n+1,a0,p3_1,v5000,p5_0,p5_1=>(if (decide (p5_1<2))=true then ((at? [v5000.a,v5000.b] p5_1).bind fun v8000=>(if (!v8000.own)=true then ((PL p5_0 [v8000.att.machine,v8000.att.kind,v8000.att.index] (IntKind.i64.wrap ((EM p5_0 [v8000.att.machine,v8000.att.kind,v8000.att.index]).getD 0+1))).bind fun v9002_72=>(Dh n a0 p3_1 v5000 v9002_72 (IntKind.i64.wrap (p5_1+1)))) else (Dh n a0 p3_1 v5000 p5_0 (IntKind.i64.wrap (p5_1+1))))) else (Ex n a0 p5_0 (IntKind.i64.wrap (p3_1+1))))
end
def Th (a0:List Statement):Option ((List (List Int × Int))):=
 (Ex fuel a0 [] 0)
mutual
def AX:Nat→Grid→(List (List Int × Int))→Int→Option (Bool)
 |0,_,_,_=>none
 |n+1,a0,v8001,p15_0=>(if (decide (p15_0<(a0.shards.length:Int)))=true then ((at? a0.shards p15_0).bind fun v11001=>(Ag n a0 p15_0 v8001 v11001 0)) else (some true))
def Ag:Nat→Grid→Int→(List (List Int × Int))→Shard→Int→Option (Bool)
 |0,_,_,_,_,_=>none
 |n+1,a0,p15_0,v8001,v11001,p24_0=>(if (decide (p24_0<(v11001.cells.length:Int)))=true then ((at? v11001.cells p24_0).bind fun v14001=>(if (!decide (v14001.kind=0))=true then ((GO p15_0 p24_0).bind fun v15007=>(Bg n a0 p15_0 p24_0 v8001 v11001 (!decide (((EM v8001 [v15007.machine,v15007.kind,v15007.index]).getD 0)=1)))) else (Bg n a0 p15_0 p24_0 v8001 v11001 false))) else (Au n a0 p15_0 v8001 v11001 0))
def Bg:Nat→Grid→Int→Int→(List (List Int × Int))→Shard→Bool→Option (Bool)
 |0,_,_,_,_,_,_=>none
 |n+1,a0,p15_0,p24_0,v8001,v11001,p25_0=>(if p25_0=true then (some false) else (Ag n a0 p15_0 v8001 v11001 (IntKind.i64.wrap (p24_0+1))))
def Au:Nat→Grid→Int→(List (List Int × Int))→Shard→Int→Option (Bool)
 |0,_,_,_,_,_=>none
 |n+1,a0,p15_0,v8001,v11001,p26_0=>(if (decide (p26_0<(v11001.vars.length:Int)))=true then ((at? v11001.vars p26_0).bind fun v20001=>(if v20001.used=true then ((G3 p15_0 p26_0).bind fun v21006=>(Bh n a0 p15_0 p26_0 v8001 v11001 (!decide (((EM v8001 [v21006.machine,v21006.kind,v21006.index]).getD 0)=2)))) else (Bh n a0 p15_0 p26_0 v8001 v11001 false))) else (AX n a0 v8001 (IntKind.i64.wrap (p15_0+1))))
def Bh:Nat→Grid→Int→Int→(List (List Int × Int))→Shard→Bool→Option (Bool)
 |0,_,_,_,_,_,_=>none
 |n+1,a0,p15_0,p26_0,v8001,v11001,p27_0=>(if p27_0=true then (some false) else (Au n a0 p15_0 v8001 v11001 (IntKind.i64.wrap (p26_0+1))))
end
mutual
def Av:Nat→Grid→(List Statement)→Int→Option (Bool)
 |0,_,_,_=>none
 |n+1,a0,a1,p0_0=>(if (decide (p0_0<(a1.length:Int)))=true then ((at? a1 p0_0).bind fun v4000=>(if (!v4000.a.own)=true then ((Fz a0 v4000.a.att).bind fun v5009=>(if (!v5009)=true then (A7 n a0 a1 p0_0 true) else (if (!v4000.b.own)=true then ((Fz a0 v4000.b.att).bind fun v5022=>(A7 n a0 a1 p0_0 (!v5022))) else (A7 n a0 a1 p0_0 false)))) else (if (!v4000.b.own)=true then ((Fz a0 v4000.b.att).bind fun v5022=>(A7 n a0 a1 p0_0 (!v5022))) else (A7 n a0 a1 p0_0 false)))) else ((Th a1).bind fun v8001=>(AX fuel a0 v8001 0)))
def A7:Nat→Grid→(List Statement)→Int→Bool→Option (Bool)
 |0,_,_,_,_=>none
 |n+1,a0,a1,p0_0,p1_0=>(if p1_0=true then (some false) else (Av n a0 a1 (IntKind.i64.wrap (p0_0+1))))
end
def Ey (a0:Grid) (a1:List Statement):Option (Bool):=
 (Av fuel a0 a1 0)
def NK (a0:Address) (a1:Int):Option (Thing):=
 (if (decide (0<a1))=true then (some (⟨a0,a1,true⟩:Thing)) else (some (⟨a0,a1,(!decide (a0.kind=1))⟩:Thing)))
def BL:Nat→Address→(List Address)→(List Statement)→Int→Option ((List Statement))
 |0,_,_,_,_=>none
 |n+1,a0,a1,p1_0,p1_1=>(if (decide (p1_1<(a1.length:Int)))=true then ((at? a1 p1_1).bind fun v5001=>((NK a0 (IntKind.i64.wrap (p1_1+1))).bind fun v6004=>((Es p1_0 [(⟨v6004,(⟨v5001,0,false⟩:Thing)⟩:Statement)]).bind fun v6009=>(BL n a0 a1 v6009 (IntKind.i64.wrap (p1_1+1)))))) else (some p1_0))
def En (a0:Address) (a1:List Address):Option ((List Statement)):=
 (BL fuel a0 a1 [] 0)
mutual
def AZ:Nat→Grid→(List Statement)→Int→Option ((List Statement))
 |0,_,_,_=>none
 |n+1,a0,p11_0,p11_1=>(if (decide (p11_1<(a0.shards.length:Int)))=true then ((at? a0.shards p11_1).bind fun v5001=>(Am n a0 p11_1 v5001 p11_0 0)) else (some p11_0))
def Am:Nat→Grid→Int→Shard→(List Statement)→Int→Option ((List Statement))
 |0,_,_,_,_,_=>none
 |n+1,a0,p11_1,v5001,p18_0,p18_1=>(if (decide (p18_1<(v5001.cells.length:Int)))=true then ((at? v5001.cells p18_1).bind fun v8001=>((GO p11_1 p18_1).bind fun v9003=>((En v9003 v8001.aux).bind fun v9006=>((Es p18_0 v9006).bind fun v9007=>(Am n a0 p11_1 v5001 v9007 (IntKind.i64.wrap (p18_1+1))))))) else (An n a0 p11_1 v5001 p18_0 0))
def An:Nat→Grid→Int→Shard→(List Statement)→Int→Option ((List Statement))
 |0,_,_,_,_,_=>none
 |n+1,a0,p11_1,v5001,p20_0,p20_1=>(if (decide (p20_1<(v5001.redexes.length:Int)))=true then ((at? v5001.redexes p20_1).bind fun v13000=>((Es p20_0 [(⟨(⟨v13000.a,0,false⟩:Thing),(⟨v13000.b,0,false⟩:Thing)⟩:Statement)]).bind fun v14009=>(An n a0 p11_1 v5001 v14009 (IntKind.i64.wrap (p20_1+1))))) else (Ao n a0 p11_1 v5001 p20_0 0))
def Ao:Nat→Grid→Int→Shard→(List Statement)→Int→Option ((List Statement))
 |0,_,_,_,_,_=>none
 |n+1,a0,p11_1,v5001,p21_0,p21_1=>(if (decide (p21_1<(v5001.vars.length:Int)))=true then ((at? v5001.vars p21_1).bind fun v18001=>(if v18001.full=true then ((G3 p11_1 p21_1).bind fun v20003=>((Es p21_0 [(⟨(⟨v20003,0,false⟩:Thing),(⟨v18001.held,0,false⟩:Thing)⟩:Statement)]).bind fun v20010=>(Ao n a0 p11_1 v5001 v20010 (IntKind.i64.wrap (p21_1+1))))) else (Ao n a0 p11_1 v5001 p21_0 (IntKind.i64.wrap (p21_1+1))))) else (AZ n a0 p21_0 (IntKind.i64.wrap (p11_1+1))))
end
def Ez (a0:Grid):Option ((List Statement)):=
 ((NK (⟨0,0,0⟩:Address) 0).bind fun v2001=>(AZ fuel a0 [(⟨v2001,(⟨a0.root,0,false⟩:Thing)⟩:Statement)] 0))
def CJ (a0:Grid) (a1:List Statement) (p0_0:Bool):Option (Bool):=
 (if p0_0=true then (some false) else ((Ez a0).bind fun v4002=>((Es v4002 a1).bind fun v4004=>((Ey a0 v4004).bind fun v4005=>(some v4005)))))
def Fc (a0:Grid) (a1:List Statement):Option (Bool):=
 (if (decide ((a0.shards.length:Int)<1))=true then (CJ a0 a1 true) else (if (decide (4<(a0.shards.length:Int)))=true then (CJ a0 a1 true) else ((B8 a0.shards (fun y0=>EV y0)).bind fun v2019=>(CJ a0 a1 v2019))))
def HY (a0:Int) (a1:Int):Option (Address):=
 (some (⟨a0,3,a1⟩:Address))
mutual
def AR:Nat→Cluster→(List Statement)→Int→Option ((List Statement))
 |0,_,_,_=>none
 |n+1,a0,p0_0,p0_1=>(if (decide (p0_1<(a0.channels.length:Int)))=true then ((at? a0.channels p0_1).bind fun v5001=>(AN n a0 p0_1 v5001 p0_0 0)) else (some p0_0))
def AN:Nat→Cluster→Int→(List Parcel)→(List Statement)→Int→Option ((List Statement))
 |0,_,_,_,_,_=>none
 |n+1,a0,p0_1,v5001,p7_0,p7_1=>(if (decide (p7_1<(v5001.length:Int)))=true then ((at? v5001 p7_1).bind fun v8001=>(if (decide (v8001.kind=1))=true then (Ar n a0 p0_1 p7_0 p7_1 v5001 v8001 (decide (v8001.kind=1))) else (Ar n a0 p0_1 p7_0 p7_1 v5001 v8001 (decide (v8001.kind=2))))) else (AR n a0 p7_0 (IntKind.i64.wrap (p0_1+1))))
def Ar:Nat→Cluster→Int→(List Statement)→Int→(List Parcel)→Parcel→Bool→Option ((List Statement))
 |0,_,_,_,_,_,_,_=>none
 |n+1,a0,p0_1,p7_0,p7_1,v5001,v8001,p8_0=>(if p8_0=true then ((Es p7_0 [(⟨(⟨v8001.a,0,false⟩:Thing),(⟨v8001.b,0,false⟩:Thing)⟩:Statement)]).bind fun v12009=>(AN n a0 p0_1 v5001 v12009 (IntKind.i64.wrap (p7_1+1)))) else (if (decide (v8001.kind=3))=true then ((HY p0_1 p7_1).bind fun v14002=>((En v14002 v8001.cell.aux).bind fun v15005=>((Es p7_0 v15005).bind fun v15006=>((NK v14002 0).bind fun v16002=>((Es v15006 [(⟨v16002,(⟨v8001.b,0,false⟩:Thing)⟩:Statement)]).bind fun v16008=>(AN n a0 p0_1 v5001 v16008 (IntKind.i64.wrap (p7_1+1)))))))) else (AN n a0 p0_1 v5001 p7_0 (IntKind.i64.wrap (p7_1+1)))))
end
def B9 (a0:Cluster):Option ((List Statement)):=
 (AR fuel a0 [] 0)
def BV (a0:Cluster) (p1_0:Bool):Option (Bool):=
 (if p1_0=true then (some false) else ((EB a0.counts (fun y0=>G2 y0)).bind fun v7002=>(if v7002=true then (some false) else ((B9 a0).bind fun v9001=>((Fc a0.grid v9001).bind fun v9002=>(some v9002))))))
def Cw (a0:Cluster) (v2000:Int) (p0_0:Bool):Option (Bool):=
 (if p0_0=true then (some false) else (if (!decide ((a0.counts.length:Int)=v2000))=true then (BV a0 true) else (if (!decide ((a0.sent.length:Int)=v2000))=true then (BV a0 true) else (if (!decide ((a0.got.length:Int)=v2000))=true then (BV a0 true) else ((Gg 1000000000 a0.sent).bind fun v5022=>(if (!v5022)=true then (BV a0 true) else ((Gg 1000000000 a0.got).bind fun v5028=>(BV a0 (!v5028)))))))))
def Gi (a0:Cluster):Option (Bool):=
 ((B0 a0).bind fun v2000=>(if (decide (v2000<1))=true then (Cw a0 v2000 true) else (if (decide (4<v2000))=true then (Cw a0 v2000 true) else ((GE a0.channels v2000).bind fun v3010=>(Cw a0 v2000 (!v3010))))))
end Go.Proofs.YtclmbjbbojdojaaGreat.Ab
