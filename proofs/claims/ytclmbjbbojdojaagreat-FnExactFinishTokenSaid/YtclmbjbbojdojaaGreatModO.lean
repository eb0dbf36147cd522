/-
  Parcels of a clone whose slices are still shared, or replaced by copies.
-/
import Derived.Test.YtclmbjbbojdojaaGreatModW
import Derived.Test.YtclmbjbbojdojaaGreatAbY
import Derived.Test.YtclmbjbbojdojaaGreatModY
namespace Go.Proofs.YtclmbjbbojdojaaGreat.Ab
set_option linter.unusedVariables false
set_option linter.unusedSimpArgs false
open Go.RowKit
inductive MParcel where
 |sh (x:Parcel)
 |ow (x:Parcel)
def MParcel.ds:MParcel→List D
 | .sh x=>x.dz
 | .ow x=>x.ds
def MParcel.sh?:MParcel→Option Parcel
 | .sh x=>some x
 | .ow _=>none
theorem MParcel.sh_some {m:MParcel} {x:Parcel} (e:m.sh?=some x):m= .sh x:=by
 cases m with
 |sh y=>cases e; rfl
 |ow y=>cases e
def MParcel.ow?:List MParcel→Option (List Parcel)
 | [] =>some []
 | .ow x::l=>(MParcel.ow? l).map (x:: ·)
 | .sh _::_=>none
theorem MParcel.ow_some:∀ {l:List MParcel} {r:List Parcel},MParcel.ow? l=some r→l=List.map MParcel.ow r
 | [],r,h=>by cases h; rfl
 | .ow x::l,r,h=>by
  simp only [MParcel.ow?,Option.map_eq_some_iff] at h
  obtain⟨r',h1,rfl⟩:=h
  rw [List.map_cons,MParcel.ow_some h1]
 | .sh _::_,r,h=>by cases h
theorem MParcel.ds_sh (x:Parcel):(MParcel.sh x).ds =x.dz:=rfl
theorem MParcel.ds_ow (x:Parcel):(MParcel.ow x).ds =x.ds:=rfl
attribute [go_sem] MParcel.ds_sh MParcel.ds_ow
theorem MParcel.ds_len (m:MParcel):m.ds.length=12:=by
 cases m with
 |sh x=>exact Parcel.dz_len x
 |ow x=>exact Parcel.ds_len x
@[go_sem] theorem MParcel.map_sh (l:List Parcel):List.map MParcel.ds (l.map MParcel.sh)=List.map Parcel.dz l:=by
 rw [List.map_map]; rfl
@[go_sem] theorem MParcel.map_ow (l:List Parcel):List.map MParcel.ds (l.map MParcel.ow)=List.map Parcel.ds l:=by
 rw [List.map_map]; rfl
theorem Address.ds_clr (x:Address):X6 x.ds=true:=by rw [Address.ds_eq]; rfl
theorem Parcel.ds_clr (x:Parcel):X6 x.ds=true:=by
 rw [Parcel.ds_eq]
 simp only [X6,clr,jP,QX Address.ds_clr,Bool.and_self]
set_option maxRecDepth 20000
set_option maxHeartbeats 4000000
def F0 (a0:ShardCell):Option (ShardCell):=
 ((HH a0.data).bind fun v2016=>((Es [] a0.aux).bind fun v2022=>(some (⟨a0.kind,a0.level,a0.value,v2016,v2022⟩:ShardCell))))
def DJ:Nat→Shard→(List ShardVar)→(List ShardRedex)→(List ShardCell)→Int→Option (Shard)
 |0,_,_,_,_,_=>none
 |n+1,a0,v2005,v2011,p1_0,p1_1=>(if (decide (p1_1<(a0.cells.length:Int)))=true then ((at? a0.cells p1_1).bind fun v6007=>((F0 v6007).bind fun v6008=>((Es p1_0 [v6008]).bind fun v6010=>(DJ n a0 v2005 v2011 v6010 (IntKind.i64.wrap (p1_1+1)))))) else (some (⟨p1_0,v2005,v2011⟩:Shard)))
def GP (a0:Shard):Option (Shard):=
 ((Es [] a0.vars).bind fun v2005=>((Es [] a0.redexes).bind fun v2011=>(DJ fuel a0 v2005 v2011 [] 0)))
def Dx:Nat→Grid→(List Shard)→Int→Option (Grid)
 |0,_,_,_=>none
 |n+1,a0,p1_0,p1_1=>(if (decide (p1_1<(a0.shards.length:Int)))=true then ((at? a0.shards p1_1).bind fun v6007=>((GP v6007).bind fun v6008=>((Es p1_0 [v6008]).bind fun v6010=>(Dx n a0 v6010 (IntKind.i64.wrap (p1_1+1)))))) else (some (⟨p1_0,a0.root⟩:Grid)))
def IB (a0:Grid):Option (Grid):=
 (Dx fuel a0 [] 0)
mutual
def A8:Nat→(List (List Parcel))→(List (List Parcel))→Int→Option ((List (List Parcel)))
 |0,_,_,_=>none
 |n+1,a0,p5_0,p5_1=>(if (decide (p5_1<(a0.length:Int)))=true then (BX n a0 p5_0 p5_1 [] 0) else (some p5_0))
def BX:Nat→(List (List Parcel))→(List (List Parcel))→Int→(List Parcel)→Int→Option ((List (List Parcel)))
 |0,_,_,_,_,_=>none
 |n+1,a0,p5_0,p5_1,p9_0,p9_1=>((at? a0 p5_1).bind fun v8003=>(if (decide (p9_1<(v8003.length:Int)))=true then ((at? a0 p5_1).bind fun v10002=>((at? v10002 p9_1).bind fun v10005=>((F0 v10005.cell).bind fun v11001=>((Es p9_0 [(⟨v10005.kind,v11001,v10005.a,v10005.b⟩:Parcel)]).bind fun v12003=>(BX n a0 p5_0 p5_1 v12003 (IntKind.i64.wrap (p9_1+1))))))) else ((Es p5_0 [p9_0]).bind fun v13003=>(A8 n a0 v13003 (IntKind.i64.wrap (p5_1+1))))))
end
def Fe (a0:List (List Parcel)):Option ((List (List Parcel))):=
 (A8 fuel a0 [] 0)
def DK:Nat→(List (List Int))→(List (List Int))→Int→Option ((List (List Int)))
 |0,_,_,_=>none
 |n+1,a0,p1_0,p1_1=>(if (decide (p1_1<(a0.length:Int)))=true then ((at? a0 p1_1).bind fun v6003=>((HH v6003).bind fun v6005=>((Es p1_0 [v6005]).bind fun v6007=>(DK n a0 v6007 (IntKind.i64.wrap (p1_1+1)))))) else (some p1_0))
def HK (a0:List (List Int)):Option ((List (List Int))):=
 (DK fuel a0 [] 0)
def NI (a0:Cluster):Option (Cluster):=
 ((IB a0.grid).bind fun v2003=>((Fe a0.channels).bind fun v2008=>((HK a0.counts).bind fun v2013=>((HH a0.sent).bind fun v2018=>((HH a0.got).bind fun v2023=>(some (⟨v2003,v2008,v2013,v2018,v2023⟩:Cluster)))))))
def EC (a0:List ShardVar):Option ((List ShardVar)):=
 ((Es [] a0).bind fun v4002=>(some v4002))
def DW (a0:List ShardRedex):Option ((List ShardRedex)):=
 ((Es [] a0).bind fun v4002=>(some v4002))
def Br (a0:List Address):Option ((List Address)):=
 ((Es [] a0).bind fun v4002=>(some v4002))
def EW:Nat→Shard→(List ShardVar)→(List ShardRedex)→(List ShardCell)→Int→Option (Shard)
 |0,_,_,_,_,_=>none
 |n+1,a0,v2002,v2005,p1_0,p1_1=>(if (decide (p1_1<(a0.cells.length:Int)))=true then ((at? a0.cells p1_1).bind fun v5000=>((CA v5000.data).bind fun v6002=>((Br v5000.aux).bind fun v6005=>((Es p1_0 [(⟨v5000.kind,v5000.level,v5000.value,v6002,v6005⟩:ShardCell)]).bind fun v7004=>(EW n a0 v2002 v2005 v7004 (IntKind.i64.wrap (p1_1+1))))))) else (some (⟨p1_0,v2002,v2005⟩:Shard)))
def Hs (a0:Shard):Option (Shard):=
 ((EC a0.vars).bind fun v2002=>((DW a0.redexes).bind fun v2005=>(EW fuel a0 v2002 v2005 [] 0)))
def FF:Nat→Grid→(List Shard)→Int→Option (Grid)
 |0,_,_,_=>none
 |n+1,a0,p1_0,p1_1=>(if (decide (p1_1<(a0.shards.length:Int)))=true then ((at? a0.shards p1_1).bind fun v5000=>((Hs v5000).bind fun v6003=>((Es p1_0 [v6003]).bind fun v6005=>(FF n a0 v6005 (IntKind.i64.wrap (p1_1+1)))))) else (some (⟨p1_0,a0.root⟩:Grid)))
def KJ (a0:Grid):Option (Grid):=
 (FF fuel a0 [] 0)
def E0 (a0:List Parcel):Option ((List Parcel)):=
 ((Es [] a0).bind fun v4002=>(some v4002))
def Cm:Nat→(List Parcel)→(List MParcel)→Int→Option ((List Parcel))
 |0,_,_,_=>none
 |n+1,v2001,p1_0,p1_1=>(if (decide (p1_1<(v2001.length:Int)))=true then ((at? p1_0 p1_1).bind fun v6006=>((MParcel.sh? v6006).bind fun v6009_45=>((CA v6009_45.cell.data).bind fun v6010=>((at? p1_0 p1_1).bind fun v6013=>((MParcel.sh? v6013).bind fun v6016_46=>((Br v6016_46.cell.aux).bind fun v6017=>((at? p1_0 p1_1).bind fun v6018=>((MParcel.sh? v6018).bind fun v6021_47=>((A4 p1_0 p1_1 (MParcel.ow (⟨v6021_47.kind,(⟨v6021_47.cell.kind,v6021_47.cell.level,v6021_47.cell.value,v6010,v6017⟩:ShardCell),v6021_47.a,v6021_47.b⟩:Parcel))).bind fun v6025_48=>(Cm n v2001 v6025_48 (IntKind.i64.wrap (p1_1+1)))))))))))) else ((MParcel.ow? p1_0).bind fun mx0=>(some mx0)))
def GQ (a0:List Parcel):Option ((List Parcel)):=
 ((E0 a0).bind fun v2001=>(Cm fuel v2001 (v2001.map MParcel.sh) 0))
def Cy:Nat→(List (List Parcel))→(List (List Parcel))→Int→Option ((List (List Parcel)))
 |0,_,_,_=>none
 |n+1,a0,p1_0,p1_1=>(if (decide (p1_1<(a0.length:Int)))=true then ((at? a0 p1_1).bind fun v6004=>((GQ v6004).bind fun v6006=>((at? p1_0 p1_1).bind fun v6007=>((A4 p1_0 p1_1 v6006).bind fun v6008_12=>(Cy n a0 v6008_12 (IntKind.i64.wrap (p1_1+1))))))) else (some p1_0))
def Gj (a0:List (List Parcel)):Option ((List (List Parcel))):=
 ((rep? (a0.length:Int) []).bind fun v2002=>(Cy fuel a0 v2002 0))
def Dy:Nat→(List (List Int))→(List (List Int))→Int→Option ((List (List Int)))
 |0,_,_,_=>none
 |n+1,a0,p1_0,p1_1=>(if (decide (p1_1<(a0.length:Int)))=true then ((at? a0 p1_1).bind fun v6004=>((CA v6004).bind fun v6006=>((at? p1_0 p1_1).bind fun v6007=>((A4 p1_0 p1_1 v6006).bind fun v6008_12=>(Dy n a0 v6008_12 (IntKind.i64.wrap (p1_1+1))))))) else (some p1_0))
def IC (a0:List (List Int)):Option ((List (List Int))):=
 ((rep? (a0.length:Int) []).bind fun v2002=>(Dy fuel a0 v2002 0))
def HG (a0:Cluster):Option (Cluster):=
 ((KJ a0.grid).bind fun v2002=>((Gj a0.channels).bind fun v2005=>((IC a0.counts).bind fun v2008=>((CA a0.sent).bind fun v2011=>((CA a0.got).bind fun v2014=>(some (⟨v2002,v2005,v2008,v2011,v2014⟩:Cluster)))))))
end Go.Proofs.YtclmbjbbojdojaaGreat.Ab
