/-
  Data of the program as Lean types; how they lie in memory. Printed by wip/ab/gen.py.
-/
import Derived.Test.YtoncbhomocgmcaaGreatDoorAbY
import Derived.Test.YtoncbhomocgmcaaGreatDoorModU
import Derived.Test.YtoncbhomocgmcaaGreatDoorModQ
namespace Go.Proofs.YtoncbhomocgmcaaGreatDoor.Ab
set_option linter.unusedVariables false
set_option linter.unusedSimpArgs false
set_option maxRecDepth 20000
set_option maxHeartbeats 4000000
open Go.RowKit
structure Core where
 kind:Int
 value:Int
 data:List Int
 kids:List Core
mutual
def Core.ds:Core→List D
 |⟨x0,x1,x2,x3⟩=>[.int .i64 x0,.int .i64 x1,.sl (x2.map AB),.sl (Core.rows x3)]
def Core.rows:List Core→List (List D)
 | [] =>[]
 |c::cs=>Core.ds c::Core.rows cs
end
theorem Core.rows_map:∀l:List Core,Core.rows l=List.map Core.ds l
 | [] =>by rw [Core.rows]; rfl
 |c::cs=>by rw [Core.rows,Core.rows_map cs]; rfl
theorem Core.ds_eq (c:Core):c.ds=[.int .i64 c.kind,.int .i64 c.value,.sl (c.data.map AB),.sl (c.kids.map Core.ds)] :=by
 cases c; rw [Core.ds]; simp only [Core.rows_map]
@[go_sem] def Core.avs (c:Core):List AV:=[.int .i64 c.kind,.int .i64 c.value,.ro (c.data.map AB),.ro (c.kids.map Core.ds)]
@[go_sem] def Core.rv (c:Core):List RV:=[.int .i64 c.kind,.int .i64 c.value,.ow (some 1) (c.data.map AB),.ow (some 4) (c.kids.map Core.ds)]
@[go_sem] def Core.rvn (c:Core):List RV:=[.int .i64 c.kind,.int .i64 c.value,.ow none (c.data.map AB),.ow none (c.kids.map Core.ds)]
attribute [go_sem] Core.ds_eq
theorem Core.ds_len (c:Core):c.ds.length=4:=by rw [Core.ds_eq]; rfl
def Core.dz (c:Core):List D:=[.int .i64 c.kind,.int .i64 c.value,.fz (c.data.map AB),.fz (c.kids.map Core.ds)]
@[go_sem] theorem Core.dz_eq (c:Core):c.dz=[.int .i64 c.kind,.int .i64 c.value,.fz (c.data.map AB),.fz (c.kids.map Core.ds)] :=rfl
theorem Core.dz_fz (c:Core):fzC c.ds=c.dz:=by rw [Core.ds_eq]; rfl
theorem Core.dz_ng (c:Core):∀d ∈ c.ds,d≠ .gone :=by rw [Core.ds_eq]; exact Ik rfl
@[go_sem] theorem Core.dz_er (l:List Core):erR (l.map Core.dz)=List.map Core.ds l:=C1 (fun c=>by rw [Core.ds_eq]; simp only [Core.dz,erC,er]) l
structure Labelled where
 term:Core
 labels:List ByteArray
def Labelled.ds (c:Labelled):List D:=[.int .i64 c.term.kind,.int .i64 c.term.value,.sl (c.term.data.map AB),.sl (c.term.kids.map Core.ds),.sl (c.labels.map AT)]
theorem Labelled.ds_eq (c:Labelled):c.ds=[.int .i64 c.term.kind,.int .i64 c.term.value,.sl (c.term.data.map AB),.sl (c.term.kids.map Core.ds),.sl (c.labels.map AT)] :=rfl
@[go_sem] def Labelled.avs (c:Labelled):List AV:=[.int .i64 c.term.kind,.int .i64 c.term.value,.ro (c.term.data.map AB),.ro (c.term.kids.map Core.ds),.ro (c.labels.map AT)]
@[go_sem] def Labelled.rv (c:Labelled):List RV:=[.int .i64 c.term.kind,.int .i64 c.term.value,.ow (some 1) (c.term.data.map AB),.ow (some 4) (c.term.kids.map Core.ds),.ow (some 1) (c.labels.map AT)]
@[go_sem] def Labelled.rvn (c:Labelled):List RV:=[.int .i64 c.term.kind,.int .i64 c.term.value,.ow none (c.term.data.map AB),.ow none (c.term.kids.map Core.ds),.ow none (c.labels.map AT)]
attribute [go_sem] Labelled.ds_eq
theorem Labelled.ds_len (c:Labelled):c.ds.length=5:=by rw [Labelled.ds_eq]; rfl
def Labelled.dz (c:Labelled):List D:=[.int .i64 c.term.kind,.int .i64 c.term.value,.fz (c.term.data.map AB),.fz (c.term.kids.map Core.ds),.fz (c.labels.map AT)]
@[go_sem] theorem Labelled.dz_eq (c:Labelled):c.dz=[.int .i64 c.term.kind,.int .i64 c.term.value,.fz (c.term.data.map AB),.fz (c.term.kids.map Core.ds),.fz (c.labels.map AT)] :=rfl
theorem Labelled.dz_fz (c:Labelled):fzC c.ds=c.dz:=by rw [Labelled.ds_eq]; rfl
theorem Labelled.dz_ng (c:Labelled):∀d ∈ c.ds,d≠ .gone :=by rw [Labelled.ds_eq]; exact Ik rfl
@[go_sem] theorem Labelled.dz_er (l:List Labelled):erR (l.map Labelled.dz)=List.map Labelled.ds l:=C1 (fun c=>by rw [Labelled.ds_eq]; simp only [Labelled.dz,erC,er]) l
mutual
def Fh:Nat→(List Core)→(List Core)→Option (Bool)
 |0,_,_=>none
 |n+1,a0,a1=>(if (!decide ((a0.length:Int)=(a1.length:Int)))=true then (some false) else (Co n a0 a1 0))
def Co:Nat→(List Core)→(List Core)→Int→Option (Bool)
 |0,_,_,_=>none
 |n+1,a0,a1,p0_0=>(if (decide (p0_0<(a0.length:Int)))=true then ((at? a0 p0_0).bind fun v7002=>((at? a1 p0_0).bind fun v7006=>((D7 n v7002 v7006).bind fun v7008=>(if (!v7008)=true then (some false) else (Co n a0 a1 (IntKind.i64.wrap (p0_0+1))))))) else (some true))
def D7:Nat→Core→Core→Option (Bool)
 |0,_,_=>none
 |n+1,a0,a1=>(if (!decide (a0.kind=a1.kind))=true then (some false) else (if (!decide (a0.value=a1.value))=true then (some false) else ((Dm a0.data a1.data).bind fun v6004=>(if (!v6004)=true then (some false) else ((Fh n a0.kids a1.kids).bind fun v8004=>(if (!v8004)=true then (some false) else (some true)))))))
end
def CR:Nat→(List ByteArray)→(List ByteArray)→Int→Option (Bool)
 |0,_,_,_=>none
 |n+1,a0,a1,p0_0=>(if (decide (p0_0<(a0.length:Int)))=true then ((at? a0 p0_0).bind fun v7002=>((at? a1 p0_0).bind fun v7006=>(if (!Df v7002 v7006)=true then (some false) else (CR n a0 a1 (IntKind.i64.wrap (p0_0+1)))))) else (some true))
def E7 (a0:List ByteArray) (a1:List ByteArray):Option (Bool):=
 (if (!decide ((a0.length:Int)=(a1.length:Int)))=true then (some false) else (CR fuel a0 a1 0))
def DH (a0:Labelled) (a1:Labelled):Option (Bool):=
 ((D7 fuel a0.term a1.term).bind fun v2004=>(if (!v2004)=true then (some false) else ((E7 a0.labels a1.labels).bind fun v4004=>(if (!v4004)=true then (some false) else (some true)))))
mutual
def Cp:Nat→(List Core)→Int→Option (Int × (List Core))
 |0,_,_=>none
 |n+1,a0,a1=>(Bx n a0 a1 0)
def Bx:Nat→(List Core)→Int→Int→Option (Int × (List Core))
 |0,_,_,_=>none
 |n+1,p0_0,p0_1,p0_2=>(if (decide (p0_2<(p0_0.length:Int)))=true then ((at? p0_0 p0_2).bind fun v5003=>((CL p0_0 p0_2 (⟨p0_1,v5003.value,v5003.data,v5003.kids⟩:Core)).bind fun v5005_36=>((at? v5005_36 p0_2).bind fun v7003=>((CL v5005_36 p0_2 (⟨v7003.kind,(IntKind.i64.wrap (p0_1+1)),v7003.data,v7003.kids⟩:Core)).bind fun v7005_37=>((at? v7005_37 p0_2).bind fun v9002=>((DG v9002.data (IntKind.i64.wrap ((IntKind.i64.wrap (p0_1+1))+1))).bind fun v9006=>((CL v7005_37 p0_2 (⟨v9002.kind,v9002.value,v9006.2,v9002.kids⟩:Core)).bind fun v9006_39=>((at? v9006_39 p0_2).bind fun v10002=>((Cp n v10002.kids v9006.1).bind fun v10006=>((CL v9006_39 p0_2 (⟨v10002.kind,v10002.value,v10002.data,v10006.2⟩:Core)).bind fun v10006_40=>(Bx n v10006_40 v10006.1 (IntKind.i64.wrap (p0_2+1))))))))))))) else (some (p0_1,p0_0)))
end
def F7 (a0:Core) (a1:Int):Option (Int × (List Int) × (List Core)):=
 ((DG a0.data a1).bind fun v2003=>((Cp fuel a0.kids v2003.1).bind fun v3003=>(some (v3003.1,v2003.2,v3003.2))))
def Bo:Nat→Int→ByteArray→Option (ByteArray)
 |0,_,_=>none
 |n+1,p0_0,p0_1=>(if (decide (0<p0_0))=true then ((MS [(IntKind.u8.wrap (IntKind.i64.wrap (48+(Int.tmod p0_0 10))))]).bind fun v6005=>((D6 v6005 p0_1).bind fun v6007=>(Bo n (IntKind.i64.wrap (Int.tdiv p0_0 10)) v6007))) else ((D6 (ByteArray.mk #[109]) p0_1).bind fun v8001=>(some v8001)))
def Dn (a0:Int):Option (ByteArray):=
 (if (decide (a0≤0))=true then (some (ByteArray.mk #[109,48])) else (Bo fuel a0 (ByteArray.mk #[])))
def BW:Nat→(List ByteArray)→Int→Int→Option (Int × (List ByteArray))
 |0,_,_,_=>none
 |n+1,p0_0,p0_1,p0_2=>(if (decide (p0_2<(p0_0.length:Int)))=true then ((Dn p0_1).bind fun v5003=>((at? p0_0 p0_2).bind fun v5004=>((CL p0_0 p0_2 v5003).bind fun v5005_16=>(BW n v5005_16 (IntKind.i64.wrap (p0_1+1)) (IntKind.i64.wrap (p0_2+1)))))) else (some (p0_1,p0_0)))
def D8 (a0:List ByteArray) (a1:Int):Option (Int × (List ByteArray)):=
 (BW fuel a0 a1 0)
def Do (a0:Labelled) (a1:Int):Option (Int × (List Int) × (List Core) × (List ByteArray)):=
 ((F7 a0.term a1).bind fun v2003=>((D8 a0.labels v2003.1).bind fun v3003=>(some (v3003.1,v2003.2.1,v2003.2.2,v3003.2))))
mutual
def Cq:Nat→(List Core)→Int→Option (Int)
 |0,_,_=>none
 |n+1,a0,a1=>(By n a0 a1 0)
def By:Nat→(List Core)→Int→Int→Option (Int)
 |0,_,_,_=>none
 |n+1,a0,p0_0,p0_1=>(if (decide (p0_1<(a0.length:Int)))=true then ((at? a0 p0_1).bind fun v5002=>(if (!decide (v5002.kind=p0_0))=true then (some (-1)) else ((at? a0 p0_1).bind fun v8002=>(if (!decide (v8002.value=(IntKind.i64.wrap (p0_0+1))))=true then (some (-1)) else ((at? a0 p0_1).bind fun v11002=>((Du v11002.data (IntKind.i64.wrap ((IntKind.i64.wrap (p0_0+1))+1))).bind fun v11006=>(if (decide (v11006<0))=true then (some (-1)) else ((at? a0 p0_1).bind fun v14002=>((Cq n v14002.kids v11006).bind fun v14006=>(if (decide (v14006<0))=true then (some (-1)) else (By n a0 v14006 (IntKind.i64.wrap (p0_1+1))))))))))))) else (some p0_0))
end
def F8 (a0:Core) (a1:Int):Option (Int):=
 ((Du a0.data a1).bind fun v2003=>(if (decide (v2003<0))=true then (some (-1)) else ((Cq fuel a0.kids v2003).bind fun v5003=>(if (decide (v5003<0))=true then (some (-1)) else (some v5003)))))
def BX:Nat→(List ByteArray)→Int→Int→Option (Int)
 |0,_,_,_=>none
 |n+1,a0,p0_0,p0_1=>(if (decide (p0_1<(a0.length:Int)))=true then ((at? a0 p0_1).bind fun v5002=>((Dn p0_0).bind fun v5005=>(if (!Df v5002 v5005)=true then (some (-1)) else (BX n a0 (IntKind.i64.wrap (p0_0+1)) (IntKind.i64.wrap (p0_1+1)))))) else (some p0_0))
def D9 (a0:List ByteArray) (a1:Int):Option (Int):=
 (BX fuel a0 a1 0)
def C7 (a0:Labelled) (a1:Int):Option (Int):=
 ((F8 a0.term a1).bind fun v2003=>(if (decide (v2003<0))=true then (some (-1)) else ((D9 a0.labels v2003).bind fun v5003=>(if (decide (v5003<0))=true then (some (-1)) else (some v5003)))))
end Go.Proofs.YtoncbhomocgmcaaGreatDoor.Ab
