/-
  Data of the program as Lean types; how they lie in memory. Printed by wip/ab/gen.py.
-/
import Derived.Test.YtgigfdghecdlgaaAbY
import Derived.Test.YtgigfdghecdlgaaModR
namespace Go.Proofs.Ytgigfdghecdlgaa.Ab
set_option linter.unusedVariables false
set_option linter.unusedSimpArgs false
set_option maxRecDepth 20000
set_option maxHeartbeats 4000000
open Go.RowKit
structure L38T where
 kind:Int
 value:Int
 data:List Int
 label:ByteArray
 kids:List L38T
mutual
def L38T.ds:L38T→List D
 |⟨x0,x1,x2,x3,x4⟩=>[.int .i64 x0,.int .i64 x1,.sl (List.map AM x2),.str x3,.sl (L38T.rows x4)]
def L38T.rows:List L38T→List (List D)
 | [] =>[]
 |c::cs=>L38T.ds c::L38T.rows cs
end
theorem L38T.rows_map:∀l:List L38T,L38T.rows l=List.map L38T.ds l
 | [] =>by rw [L38T.rows]; rfl
 |c::cs=>by rw [L38T.rows,L38T.rows_map cs]; rfl
theorem L38T.ds_eq (c:L38T):c.ds=[.int .i64 c.kind,.int .i64 c.value,.sl (List.map AM c.data),.str c.label,.sl (List.map L38T.ds c.kids)] :=by
 cases c; rw [L38T.ds]; simp only [L38T.rows_map]
@[go_sem] def L38T.avs (c:L38T):List AV:=[.int .i64 c.kind,.int .i64 c.value,.ro (List.map AM c.data),.str c.label,.ro (List.map L38T.ds c.kids)]
@[go_sem] def L38T.rv (c:L38T):List RV:=[.int .i64 c.kind,.int .i64 c.value,.ow (some 1) (List.map AM c.data),.str c.label,.ow (some 5) (List.map L38T.ds c.kids)]
@[go_sem] def L38T.rvn (c:L38T):List RV:=[.int .i64 c.kind,.int .i64 c.value,.ow none (List.map AM c.data),.str c.label,.ow none (List.map L38T.ds c.kids)]
attribute [go_sem] L38T.ds_eq
theorem L38T.ds_len (c:L38T):c.ds.length=5:=by rw [L38T.ds_eq]; rfl
def L38T.dz (c:L38T):List D:=[.int .i64 c.kind,.int .i64 c.value,.fz (List.map AM c.data),.str c.label,.fz (List.map L38T.ds c.kids)]
@[go_sem] theorem L38T.dz_eq (c:L38T):c.dz=[.int .i64 c.kind,.int .i64 c.value,.fz (List.map AM c.data),.str c.label,.fz (List.map L38T.ds c.kids)] :=rfl
@[go_sem] theorem L38T.dz_er (l:List L38T):erR (List.map L38T.dz l)=List.map L38T.ds l:=HC (fun c=>by rw [L38T.ds_eq]; simp only [L38T.dz,erC,er]) l
end Go.Proofs.Ytgigfdghecdlgaa.Ab
namespace Go.Proofs.Ytgigfdghecdlgaa.Ab
set_option linter.unusedVariables false
set_option linter.unusedSimpArgs false
set_option maxRecDepth 20000
set_option maxHeartbeats 4000000
open Go.RowKit
mutual
def DZ:Nat→Core→(List ByteArray)→Int→Option (L38T × Int)
 |0,_,_,_=>none
 |n+1,a0,a1,a2=>(Option.bind (at? a1 a2) fun v2016=>(CG n a0 a1 v2016 (IntKind.i64.wrap (a2+1)) [] 0))
def CG:Nat→Core→(List ByteArray)→ByteArray→Int→(List L38T)→Int→Option (L38T × Int)
 |0,_,_,_,_,_,_=>none
 |n+1,a0,a1,v2016,p1_0,p1_1,p1_2=>(if (decide (p1_2<((List.length a0.kids:Nat):Int)))=true then (Option.bind (at? a0.kids p1_2) fun v7007=>(Option.bind (DZ n v7007 a1 p1_0) fun v7010=>(Option.bind (K8 p1_1 [v7010.1]) fun v7012=>(CG n a0 a1 v2016 v7010.2 v7012 (IntKind.i64.wrap (p1_2+1)))))) else (some ((⟨a0.kind,a0.value,a0.data,v2016,p1_1⟩:L38T),p1_0)))
end
mutual
def Da:Nat→L38T→Int→Option (L38T × Bool × Int)
 |0,_,_=>none
 |n+1,a0,a1=>(if (decide (a1=0))=true then (some (a0,true,a1)) else (CH n a0 (IntKind.i64.wrap (a1 - 1)) 0))
def CH:Nat→L38T→Int→Int→Option (L38T × Bool × Int)
 |0,_,_,_=>none
 |n+1,a0,p0_0,p0_1=>(if (decide (p0_1<((List.length a0.kids:Nat):Int)))=true then (Option.bind (at? a0.kids p0_1) fun v8005=>(Option.bind (Da n v8005 p0_0) fun v8007=>(if v8007.2.1 =true then (some (v8007.1,true,v8007.2.2)) else (CH n a0 v8007.2.2 (IntKind.i64.wrap (p0_1+1)))))) else (some (a0,false,p0_0)))
end
def F7 (a1:Int) (v5007:L38T × Int):Option (L38T × Bool):=
 (Option.bind (Da fuel v5007.1 a1) fun v6000=>(some (v6000.1,v6000.2.1)))
def IU (a0:Labelled) (a1:Int):Option (L38T × Bool):=
 (Option.bind (C3 a1 0 (IntKind.i64.wrap (((List.length a0.labels:Nat):Int) - 1))) fun v2007=>(if (!v2007)=true then (some ((⟨0,0,[],ByteArray.empty,[]⟩:L38T),false)) else (Option.bind (DZ fuel a0.term a0.labels 0) fun v5007=>(F7 a1 v5007))))
def Do (a0:Core) (p0_0:Bool):Option (Int):=
 (if p0_0=true then (some 3) else (Option.bind (at? a0.kids 0) fun v21004=>(if (decide (v21004.kind=11))=true then (some 4) else (some 0))))
def Fj (a0:Core):Option (Int):=
 (if (decide (a0.kind=5))=true then (Option.bind (at? a0.kids 0) fun v4004=>(if (decide (v4004.kind=4))=true then (some 1) else (if (decide (v4004.kind=11))=true then (some 4) else (some 0)))) else (if (decide (a0.kind=3))=true then (Option.bind (at? a0.kids 0) fun v10004=>(if (decide (v10004.kind=11))=true then (some 4) else (Option.bind (at? a0.kids 0) fun v12004=>(if (decide (v12004.kind=2))=true then (Option.bind (at? a0.kids 1) fun v13004=>(if (decide (v13004.kind=2))=true then (some 2) else (if (decide (v13004.kind=11))=true then (some 4) else (some 0)))) else (some 0))))) else (if (decide (a0.kind=9))=true then (Option.bind (at? a0.kids 0) fun v19004=>(if (decide (v19004.kind=8))=true then (Option.bind (at? a0.kids 0) fun v19013=>(Do a0 (decide (v19013.value<((List.length a0.data:Nat):Int))))) else (Do a0 false))) else (if (decide (a0.kind=10))=true then (Option.bind (at? a0.kids 0) fun v24004=>(if (decide (v24004.kind=2))=true then (some 3) else (if (decide (v24004.kind=11))=true then (some 4) else (some 0)))) else (some 0)))))
def C6 (a0:L38T) (p0_0:Bool):Option (ByteArray):=
 (if p0_0=true then (Option.bind (at? a0.kids 0) fun v3004=>(Option.bind (HU v3004.label (ByteArray.mk #[38])) fun v3007=>(Option.bind (at? a0.kids 1) fun v3012=>(Option.bind (HU v3007 v3012.label) fun v3015=>(some v3015))))) else (Option.bind (at? a0.kids 0) fun v4004=>(some v4004.label)))
def Eg (a0:L38T):Option (ByteArray):=
 (if (decide (a0.kind=3))=true then (Option.bind (at? a0.kids 0) fun v2010=>(C6 a0 (decide (v2010.kind=2)))) else (C6 a0 false))
end Go.Proofs.Ytgigfdghecdlgaa.Ab
