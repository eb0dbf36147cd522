/-
  Data of the program as Lean types; how they lie in memory. Printed by wip/ab/gen.py.
-/
import Derived.Test.YtgigfdghecdlgaaAbY
namespace Go.Proofs.Ytgigfdghecdlgaa.Ab
set_option linter.unusedVariables false
set_option linter.unusedSimpArgs false
set_option maxRecDepth 20000
set_option maxHeartbeats 4000000
open Go.RowKit
structure Core where
 kind:Int
 value:Int
 data:List Int
 kids:List Core
mutual
def Core.ds:Core→List D
 |⟨x0,x1,x2,x3⟩=>[.int .i64 x0,.int .i64 x1,.sl (List.map AM x2),.sl (Core.rows x3)]
def Core.rows:List Core→List (List D)
 | [] =>[]
 |c::cs=>Core.ds c::Core.rows cs
end
theorem Core.rows_map:∀l:List Core,Core.rows l=List.map Core.ds l
 | [] =>by rw [Core.rows]; rfl
 |c::cs=>by rw [Core.rows,Core.rows_map cs]; rfl
theorem Core.ds_eq (c:Core):c.ds=[.int .i64 c.kind,.int .i64 c.value,.sl (List.map AM c.data),.sl (List.map Core.ds c.kids)] :=by
 cases c; rw [Core.ds]; simp only [Core.rows_map]
@[go_sem] def Core.avs (c:Core):List AV:=[.int .i64 c.kind,.int .i64 c.value,.ro (List.map AM c.data),.ro (List.map Core.ds c.kids)]
@[go_sem] def Core.rv (c:Core):List RV:=[.int .i64 c.kind,.int .i64 c.value,.ow (some 1) (List.map AM c.data),.ow (some 4) (List.map Core.ds c.kids)]
@[go_sem] def Core.rvn (c:Core):List RV:=[.int .i64 c.kind,.int .i64 c.value,.ow none (List.map AM c.data),.ow none (List.map Core.ds c.kids)]
attribute [go_sem] Core.ds_eq
theorem Core.ds_len (c:Core):c.ds.length=4:=by rw [Core.ds_eq]; rfl
def Core.dz (c:Core):List D:=[.int .i64 c.kind,.int .i64 c.value,.fz (List.map AM c.data),.fz (List.map Core.ds c.kids)]
@[go_sem] theorem Core.dz_eq (c:Core):c.dz=[.int .i64 c.kind,.int .i64 c.value,.fz (List.map AM c.data),.fz (List.map Core.ds c.kids)] :=rfl
@[go_sem] theorem Core.dz_er (l:List Core):erR (List.map Core.dz l)=List.map Core.ds l:=HC (fun c=>by rw [Core.ds_eq]; simp only [Core.dz,erC,er]) l
structure Labelled where
 term:Core
 labels:List ByteArray
def Labelled.ds (c:Labelled):List D:=[.int .i64 c.term.kind,.int .i64 c.term.value,.sl (List.map AM c.term.data),.sl (List.map Core.ds c.term.kids),.sl (List.map A2 c.labels)]
theorem Labelled.ds_eq (c:Labelled):c.ds=[.int .i64 c.term.kind,.int .i64 c.term.value,.sl (List.map AM c.term.data),.sl (List.map Core.ds c.term.kids),.sl (List.map A2 c.labels)] :=rfl
@[go_sem] def Labelled.avs (c:Labelled):List AV:=[.int .i64 c.term.kind,.int .i64 c.term.value,.ro (List.map AM c.term.data),.ro (List.map Core.ds c.term.kids),.ro (List.map A2 c.labels)]
@[go_sem] def Labelled.rv (c:Labelled):List RV:=[.int .i64 c.term.kind,.int .i64 c.term.value,.ow (some 1) (List.map AM c.term.data),.ow (some 4) (List.map Core.ds c.term.kids),.ow (some 1) (List.map A2 c.labels)]
@[go_sem] def Labelled.rvn (c:Labelled):List RV:=[.int .i64 c.term.kind,.int .i64 c.term.value,.ow none (List.map AM c.term.data),.ow none (List.map Core.ds c.term.kids),.ow none (List.map A2 c.labels)]
attribute [go_sem] Labelled.ds_eq
theorem Labelled.ds_len (c:Labelled):c.ds.length=5:=by rw [Labelled.ds_eq]; rfl
def Labelled.dz (c:Labelled):List D:=[.int .i64 c.term.kind,.int .i64 c.term.value,.fz (List.map AM c.term.data),.fz (List.map Core.ds c.term.kids),.fz (List.map A2 c.labels)]
@[go_sem] theorem Labelled.dz_eq (c:Labelled):c.dz=[.int .i64 c.term.kind,.int .i64 c.term.value,.fz (List.map AM c.term.data),.fz (List.map Core.ds c.term.kids),.fz (List.map A2 c.labels)] :=rfl
@[go_sem] theorem Labelled.dz_er (l:List Labelled):erR (List.map Labelled.dz l)=List.map Labelled.ds l:=HC (fun c=>by rw [Labelled.ds_eq]; simp only [Labelled.dz,erC,er]) l
end Go.Proofs.Ytgigfdghecdlgaa.Ab
namespace Go.Proofs.Ytgigfdghecdlgaa.Ab
set_option linter.unusedVariables false
set_option linter.unusedSimpArgs false
set_option maxRecDepth 20000
set_option maxHeartbeats 4000000
open Go.RowKit
def IR (a0:Int):Option (Bool):=
 (if (decide ((-2147483648)≤a0))=true then (some (decide (a0≤2147483647))) else (some false))
def Dj (a0:Int):Option (Bool):=
 (if (decide (1≤a0))=true then (some (decide (a0≤6))) else (some false))
def C2 (a0:Int):Option (Bool):=
 (if (decide (0≤a0))=true then (some (decide (a0<24))) else (some false))
def Ap:Nat→(List Int)→Int→(Int→Option Bool)→Option (Int)
 |0,_,_,_=>none
 |n+1,a0,p0_0,f1=>(if (decide (p0_0<((List.length a0:Nat):Int)))=true then (Option.bind (at? a0 p0_0) fun v5003=>(Option.bind (f1 v5003) fun v5005=>(if v5005=true then (some p0_0) else (Ap n a0 (IntKind.i64.wrap (p0_0+1)) f1)))) else (some (-1)))
def CZ (a0:List Int) (f1:(Int→Option Bool)):Option (Int):=
 (Ap fuel a0 0 f1)
def Ay (a0:List Int) (f1:(Int→Option Bool)):Option (Bool):=
 (Option.bind (CZ a0 f1) fun v2002=>(some (decide (0≤v2002))))
def B6 (a0:Int):Option (Bool):=
 (Option.bind (C2 a0) fun v2001=>(some (!v2001)))
def AP (a0:Core) (p2_0:Bool) (p2_1:Bool) (p2_2:Int):Option (Bool):=
 (if p2_0=true then (if p2_1=true then (if (decide (((List.length a0.kids:Nat):Int)=p2_2))=true then (Option.bind (Ay a0.data (fun y0=>B6 y0)) fun v27012=>(some (!v27012))) else (some false)) else (some false)) else (some false))
def Bu (a0:Core) (p1_0:Bool):Option (Bool):=
 (if p1_0=true then (AP a0 (decide (a0.value=0)) (decide (((List.length a0.data:Nat):Int)=0)) 2) else (if (decide (a0.kind=8))=true then (if (decide (((List.length a0.data:Nat):Int)=0))=true then (if (decide (0≤a0.value))=true then (if (decide (a0.value<4))=true then (some (decide (((List.length a0.kids:Nat):Int)≤3))) else (some false)) else (some false)) else (some false)) else (if (decide (a0.kind=9))=true then (if (decide (1≤((List.length a0.data:Nat):Int)))=true then (AP a0 (decide (a0.value=0)) (decide (((List.length a0.data:Nat):Int)≤4)) 1) else (AP a0 (decide (a0.value=0)) false 1)) else (if (decide (a0.kind=10))=true then (AP a0 (decide (a0.value=0)) (decide (((List.length a0.data:Nat):Int)=2)) 1) else (if (decide (a0.kind=11))=true then (Option.bind (C2 a0.value) fun v26002=>(AP a0 v26002 (decide (((List.length a0.data:Nat):Int)=0)) 0)) else (some false))))))
def Bv (a0:Core) (p0_0:Bool):Option (Bool):=
 (if p0_0=true then (AP a0 (decide (a0.value=0)) (decide (((List.length a0.data:Nat):Int)=0)) 1) else (if (decide (a0.kind=5))=true then (Bu a0 (decide (a0.kind=5))) else (Bu a0 (decide (a0.kind=7)))))
def Cd (a0:Core):Option (Bool):=
 (if (decide (a0.kind=1))=true then (if (decide (0≤a0.value))=true then (AP a0 (decide (a0.value≤255)) (decide (((List.length a0.data:Nat):Int)=0)) 0) else (AP a0 false (decide (((List.length a0.data:Nat):Int)=0)) 0)) else (if (decide (a0.kind=2))=true then (Option.bind (IR a0.value) fun v10002=>(AP a0 v10002 (decide (((List.length a0.data:Nat):Int)=0)) 0)) else (if (decide (a0.kind=3))=true then (Option.bind (Dj a0.value) fun v12002=>(AP a0 v12002 (decide (((List.length a0.data:Nat):Int)=0)) 2)) else (if (decide (a0.kind=4))=true then (Bv a0 (decide (a0.kind=4))) else (Bv a0 (decide (a0.kind=6)))))))
mutual
def CU:Nat→Core→Option (Int × Int × Bool)
 |0,_=>none
 |n+1,a0=>(Option.bind (Cd a0) fun v2001=>(if (!v2001)=true then (some (0,0,false)) else (BQ n a0 1 1 0)))
def BQ:Nat→Core→Int→Int→Int→Option (Int × Int × Bool)
 |0,_,_,_,_=>none
 |n+1,a0,p0_0,p0_1,p0_2=>(if (decide (p0_2<((List.length a0.kids:Nat):Int)))=true then (Option.bind (at? a0.kids p0_2) fun v7000=>(Option.bind (CU n v7000) fun v8001=>(if (!v8001.2.2)=true then (some (0,0,false)) else (BQ n a0 (if p0_0<(IntKind.i64.wrap (v8001.1 +1)) then (IntKind.i64.wrap (v8001.1 +1)) else p0_0) (IntKind.i64.wrap (p0_1+v8001.2.1)) (IntKind.i64.wrap (p0_2+1)))))) else (some (p0_0,p0_1,true)))
end
mutual
def Bg:Nat→Core→Option (Int × Int)
 |0,_=>none
 |n+1,a0=>(BH n a0 1 1 0)
def BH:Nat→Core→Int→Int→Int→Option (Int × Int)
 |0,_,_,_,_=>none
 |n+1,a0,p0_0,p0_1,p0_2=>(if (decide (p0_2<((List.length a0.kids:Nat):Int)))=true then (Option.bind (at? a0.kids p0_2) fun v5000=>(Option.bind (Bg n v5000) fun v6001=>(BH n a0 (if p0_0<(IntKind.i64.wrap (v6001.1 +1)) then (IntKind.i64.wrap (v6001.1 +1)) else p0_0) (IntKind.i64.wrap (p0_1+v6001.2)) (IntKind.i64.wrap (p0_2+1))))) else (some (p0_0,p0_1)))
end
def Ey (a0:Core):Option (Bool):=
 (Option.bind (Bg fuel a0) fun v2001=>(if (decide (v2001.1 ≤80))=true then (some (decide (v2001.2 ≤400))) else (some false)))
def Cs (a0:Core):Option (Bool):=
 (Option.bind (CU fuel a0) fun v2001=>(if v2001.2.2 =true then (Option.bind (Ey a0) fun v3003=>(some v3003)) else (some false)))
def HD (a0:Bool):Option (Int):=
 (if a0=true then (some 1) else (some 0))
def Dk (a0:Core) (a1:Int):Option (Int):=
 (if (decide (a0.kind=4))=true then (Option.bind (HD true) fun v2012=>(some v2012)) else (if (decide (a0.kind=7))=true then (Option.bind (HD (decide (a1=1))) fun v2012=>(some v2012)) else (Option.bind (HD false) fun v2012=>(some v2012))))
mutual
def Bi:Nat→Core→Int→Option (Bool)
 |0,_,_=>none
 |n+1,a0,a1=>(if (decide (a0.kind=1))=true then (BL n a0 a1 (decide (a1≤a0.value))) else (BL n a0 a1 false))
def BL:Nat→Core→Int→Bool→Option (Bool)
 |0,_,_,_=>none
 |n+1,a0,a1,p0_0=>(if p0_0=true then (some false) else (A7 n a0 a1 0))
def A7:Nat→Core→Int→Int→Option (Bool)
 |0,_,_,_=>none
 |n+1,a0,a1,p2_0=>(if (decide (p2_0<((List.length a0.kids:Nat):Int)))=true then (Option.bind (at? a0.kids p2_0) fun v6001=>(Option.bind (Dk a0 p2_0) fun v7004=>(Option.bind (Bi n v6001 (IntKind.i64.wrap (a1+v7004))) fun v7006=>(if (!v7006)=true then (some false) else (A7 n a0 a1 (IntKind.i64.wrap (p2_0+1))))))) else (some true))
end
def Ez (a0:Core):Option (Bool):=
 (Option.bind (Cs a0) fun v2001=>(if v2001=true then (Option.bind (Bi fuel a0 0) fun v2004=>(some v2004)) else (some false)))
def AZ:Nat→(List Core)→Int→(Core→Option Bool)→Option (Int)
 |0,_,_,_=>none
 |n+1,a0,p0_0,f1=>(if (decide (p0_0<((List.length a0:Nat):Int)))=true then (Option.bind (at? a0 p0_0) fun v5003=>(Option.bind (f1 v5003) fun v5005=>(if v5005=true then (some p0_0) else (AZ n a0 (IntKind.i64.wrap (p0_0+1)) f1)))) else (some (-1)))
def Bh (a0:List Core) (f1:(Core→Option Bool)):Option (Int):=
 (AZ fuel a0 0 f1)
def Aw (a0:List Core) (f1:(Core→Option Bool)):Option (Bool):=
 (Option.bind (Bh a0 f1) fun v2002=>(some (decide (0≤v2002))))
mutual
def EH:Nat→Core→(Core→Option Bool)→Option (Bool)
 |0,_,_=>none
 |n+1,a0,f1=>(Option.bind (DW n a0 f1) fun v2002=>(some v2002))
def DW:Nat→Core→(Core→Option Bool)→Option (Bool)
 |0,_,_=>none
 |n+1,a0,f1=>(Option.bind (f1 a0) fun v2002=>(if v2002=true then (some true) else (Option.bind (Aw a0.kids (fun y0=>EH n y0 f1)) fun v2007=>(some v2007))))
end
def EV (a0:Core):Option (Bool):=
 (if (decide (a0.kind=6))=true then (some true) else (some (decide (a0.kind=7))))
def E0 (a0:Core):Option (Bool):=
 (Option.bind (Cs a0) fun v2001=>(if v2001=true then (Option.bind (DW fuel a0 (fun y0=>EV y0)) fun v2004=>(some (!v2004))) else (some false)))
def E1 (a0:Core):Option (Int):=
 (Option.bind (Cs a0) fun v2001=>(if (!v2001)=true then (some 0) else (Option.bind (Bg fuel a0) fun v4001=>(some v4001.2))))
def Ah:Nat→(List ByteArray)→Int→(ByteArray→Option Bool)→Option (Int)
 |0,_,_,_=>none
 |n+1,a0,p0_0,f1=>(if (decide (p0_0<((List.length a0:Nat):Int)))=true then (Option.bind (at? a0 p0_0) fun v5003=>(Option.bind (f1 v5003) fun v5005=>(if v5005=true then (some p0_0) else (Ah n a0 (IntKind.i64.wrap (p0_0+1)) f1)))) else (some (-1)))
def CK (a0:List ByteArray) (f1:(ByteArray→Option Bool)):Option (Int):=
 (Ah fuel a0 0 f1)
def BF (a0:List ByteArray) (f1:(ByteArray→Option Bool)):Option (Bool):=
 (Option.bind (CK a0 f1) fun v2002=>(some (decide (0≤v2002))))
def EC (a0:ByteArray):Option (Bool):=
 (some (decide (3000<((ByteArray.size a0:Nat):Int))))
def EI (a0:List ByteArray):Option (Bool):=
 (Option.bind (BF a0 (fun y0=>EC y0)) fun v2001=>(some (!v2001)))
def Ce (a0:Labelled):Option (Bool):=
 (Option.bind (Ez a0.term) fun v2002=>(if v2002=true then (Option.bind (E0 a0.term) fun v2006=>(if v2006=true then (Option.bind (E1 a0.term) fun v2014=>(if (decide (((List.length a0.labels:Nat):Int)=v2014))=true then (Option.bind (EI a0.labels) fun v2020=>(some v2020)) else (some false))) else (some false))) else (some false)))
def C3 (a0:Int) (a1:Int) (a2:Int):Option (Bool):=
 (if (decide (a1≤a0))=true then (some (decide (a0≤a2))) else (some false))
def DD (a0:Int) (p2_0:Bool):Option (Int × Int × Int × Int):=
 (if p2_0=true then (some (1,1,0,0)) else (if (decide (a0=8))=true then (some (0,3,0,0)) else (if (decide (a0=9))=true then (some (1,1,1,4)) else (if (decide (a0=10))=true then (some (1,1,2,2)) else (some (0,(-1),0,0))))))
def Cg (a0:Int) (p1_0:Bool):Option (Int × Int × Int × Int):=
 (if p1_0=true then (some (2,2,0,0)) else (if (decide (a0=4))=true then (DD a0 (decide (a0=4))) else (DD a0 (decide (a0=6)))))
def Ch (a0:Int) (p0_0:Bool):Option (Int × Int × Int × Int):=
 (if p0_0=true then (some (0,0,0,0)) else (if (decide (a0=3))=true then (Cg a0 (decide (a0=3))) else (if (decide (a0=5))=true then (Cg a0 (decide (a0=5))) else (Cg a0 (decide (a0=7))))))
def E2 (a0:Int):Option (Int × Int × Int × Int):=
 (if (decide (a0=1))=true then (Ch a0 (decide (a0=1))) else (if (decide (a0=2))=true then (Ch a0 (decide (a0=2))) else (Ch a0 (decide (a0=11)))))
def E3 (a0:Core):Option (Bool):=
 (if (decide (a0.kind=1))=true then (Option.bind (C3 a0.value 0 255) fun v4004=>(some v4004)) else (if (decide (a0.kind=2))=true then (Option.bind (C3 a0.value (-2147483648) 2147483647) fun v6004=>(some v6004)) else (if (decide (a0.kind=3))=true then (Option.bind (C3 a0.value 1 6) fun v8004=>(some v8004)) else (if (decide (a0.kind=8))=true then (Option.bind (C3 a0.value 0 3) fun v10004=>(some v10004)) else (if (decide (a0.kind=11))=true then (Option.bind (C3 a0.value 0 23) fun v12004=>(some v12004)) else (some (decide (a0.value=0))))))))
mutual
def Ct:Nat→Core→Int→Int→Option (Int)
 |0,_,_,_=>none
 |n+1,a0,a1,a2=>(Option.bind (E2 a0.kind) fun v2004=>(if (decide (a1<1))=true then (A3 n a0 a1 a2 true) else (if (decide (a2<1))=true then (A3 n a0 a1 a2 true) else (Option.bind (C3 ((List.length a0.kids:Nat):Int) v2004.1 v2004.2.1) fun v3014=>(if (!v3014)=true then (A3 n a0 a1 a2 true) else (Option.bind (C3 ((List.length a0.data:Nat):Int) v2004.2.2.1 v2004.2.2.2) fun v3025=>(if (!v3025)=true then (A3 n a0 a1 a2 true) else (Option.bind (E3 a0) fun v3030=>(A3 n a0 a1 a2 (!v3030))))))))))
def A3:Nat→Core→Int→Int→Bool→Option (Int)
 |0,_,_,_,_=>none
 |n+1,a0,a1,a2,p0_0=>(if p0_0=true then (some (-1)) else (Bj n a0 a1 a2 0))
def Bj:Nat→Core→Int→Int→Int→Option (Int)
 |0,_,_,_,_=>none
 |n+1,a0,a1,a2,p1_0=>(if (decide (p1_0<((List.length a0.data:Nat):Int)))=true then (Option.bind (at? a0.data p1_0) fun v8005=>(Option.bind (C3 v8005 0 23) fun v8007=>(if (!v8007)=true then (some (-1)) else (Bj n a0 a1 a2 (IntKind.i64.wrap (p1_0+1)))))) else (Bk n a0 a1 a2 1 0))
def Bk:Nat→Core→Int→Int→Int→Int→Option (Int)
 |0,_,_,_,_,_=>none
 |n+1,a0,a1,a2,p2_0,p2_1=>(if (decide (p2_1<((List.length a0.kids:Nat):Int)))=true then (Option.bind (at? a0.kids p2_1) fun v14005=>(Option.bind (Ct n v14005 (IntKind.i64.wrap (a1 - 1)) (IntKind.i64.wrap (a2 - p2_0))) fun v14011=>(if (decide (v14011<0))=true then (some (-1)) else (Bk n a0 a1 a2 (IntKind.i64.wrap (p2_0+v14011)) (IntKind.i64.wrap (p2_1+1)))))) else (some p2_0))
end
def IS (a0:Core):Option (Bool):=
 (Option.bind (Ct fuel a0 80 400) fun v2001=>(some (decide (0<v2001))))
def Ci (p0_0:Bool):Option (Int):=
 (if p0_0=true then (some 1) else (some 0))
def E4 (a0:Core) (a1:Int):Option (Int):=
 (if (decide (a0.kind=4))=true then (Ci true) else (if (decide (a0.kind=7))=true then (Ci (decide (a1=1))) else (Ci false)))
mutual
def Cu:Nat→Core→Int→Option (Bool)
 |0,_,_=>none
 |n+1,a0,a1=>(if (decide (a0.kind=1))=true then (some (decide (a1≤a0.value))) else (Bl n a0 a1 0))
def Bl:Nat→Core→Int→Int→Option (Bool)
 |0,_,_,_=>none
 |n+1,a0,a1,p0_0=>(if (decide (p0_0<((List.length a0.kids:Nat):Int)))=true then (Option.bind (at? a0.kids p0_0) fun v7005=>(Option.bind (E4 a0 p0_0) fun v7009=>(Option.bind (Cu n v7005 (IntKind.i64.wrap (a1+v7009))) fun v7011=>(if v7011=true then (some true) else (Bl n a0 a1 (IntKind.i64.wrap (p0_0+1))))))) else (some false))
end
def EJ (a0:Core):Option (Bool):=
 (Option.bind (IS a0) fun v2001=>(if v2001=true then (Option.bind (Cu fuel a0 0) fun v2004=>(some (!v2004))) else (some false)))
mutual
def CV:Nat→Core→Option (Bool)
 |0,_=>none
 |n+1,a0=>(if (decide (a0.kind=6))=true then (Bw n a0 true) else (Bw n a0 (decide (a0.kind=7))))
def Bw:Nat→Core→Bool→Option (Bool)
 |0,_,_=>none
 |n+1,a0,p0_0=>(if p0_0=true then (some false) else (BR n a0 0))
def BR:Nat→Core→Int→Option (Bool)
 |0,_,_=>none
 |n+1,a0,p1_0=>(if (decide (p1_0<((List.length a0.kids:Nat):Int)))=true then (Option.bind (at? a0.kids p1_0) fun v7005=>(Option.bind (CV n v7005) fun v7006=>(if (!v7006)=true then (some false) else (BR n a0 (IntKind.i64.wrap (p1_0+1)))))) else (some true))
end
mutual
def DX:Nat→Core→Int→Option (Int)
 |0,_,_=>none
 |n+1,a0,a1=>(BN n a0 (IntKind.i64.wrap (a1 - 1)) 0)
def BN:Nat→Core→Int→Int→Option (Int)
 |0,_,_,_=>none
 |n+1,a0,p0_0,p0_1=>(if (decide (p0_1<((List.length a0.kids:Nat):Int)))=true then (B7 n a0 p0_0 p0_1 (decide (0≤p0_0))) else (B7 n a0 p0_0 p0_1 false))
def B7:Nat→Core→Int→Int→Bool→Option (Int)
 |0,_,_,_,_=>none
 |n+1,a0,p0_0,p0_1,p1_0=>(if p1_0=true then (Option.bind (at? a0.kids p0_1) fun v6005=>(Option.bind (DX n v6005 p0_0) fun v6007=>(BN n a0 v6007 (IntKind.i64.wrap (p0_1+1))))) else (some p0_0))
end
def Bm:Nat→(List ByteArray)→Int→Option (Bool)
 |0,_,_=>none
 |n+1,a0,p0_0=>(if (decide (p0_0<((List.length a0:Nat):Int)))=true then (Option.bind (at? a0 p0_0) fun v5002=>(if (decide (3000<((ByteArray.size v5002:Nat):Int)))=true then (some false) else (Bm n a0 (IntKind.i64.wrap (p0_0+1))))) else (some true))
def E5 (a0:List ByteArray):Option (Bool):=
 (Bm fuel a0 0)
def IT (a0:Labelled):Option (Bool):=
 (Option.bind (EJ a0.term) fun v2003=>(if v2003=true then (Option.bind (CV fuel a0.term) fun v2008=>(if v2008=true then (Option.bind (DX fuel a0.term ((List.length a0.labels:Nat):Int)) fun v2019=>(if (decide (v2019=0))=true then (Option.bind (E5 a0.labels) fun v2027=>(some v2027)) else (some false))) else (some false))) else (some false)))
end Go.Proofs.Ytgigfdghecdlgaa.Ab
