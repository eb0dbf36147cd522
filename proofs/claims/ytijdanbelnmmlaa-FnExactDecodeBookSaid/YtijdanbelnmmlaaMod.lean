/-
  Data of the program as Lean types; how they lie in memory. Printed by wip/ab/gen.py.
-/
import Derived.Test.YtijdanbelnmmlaaAbY
namespace Go.Proofs.Ytijdanbelnmmlaa.Ab
set_option linter.unusedVariables false
set_option linter.unusedSimpArgs false
set_option maxRecDepth 20000
set_option maxHeartbeats 4000000
open Go.RowKit
structure Core where
 kind:Int
 value:Int
 data:List Int
 kids:List Core
mutual
def Core.ds:Core→List D
 |⟨x0,x1,x2,x3⟩=>[.int .i64 x0,.int .i64 x1,.sl (List.map BC x2),.sl (Core.rows x3)]
def Core.rows:List Core→List (List D)
 | [] =>[]
 |c::cs=>Core.ds c::Core.rows cs
end
theorem Core.rows_map:∀l:List Core,Core.rows l=List.map Core.ds l
 | [] =>by rw [Core.rows]; rfl
 |c::cs=>by rw [Core.rows,Core.rows_map cs]; rfl
theorem Core.ds_eq (c:Core):c.ds=[.int .i64 c.kind,.int .i64 c.value,.sl (List.map BC c.data),.sl (List.map Core.ds c.kids)] :=by
 cases c; rw [Core.ds]; simp only [Core.rows_map]
@[go_sem] def Core.avs (c:Core):List AV:=[.int .i64 c.kind,.int .i64 c.value,.ro (List.map BC c.data),.ro (List.map Core.ds c.kids)]
@[go_sem] def Core.rv (c:Core):List RV:=[.int .i64 c.kind,.int .i64 c.value,.ow (some 1) (List.map BC c.data),.ow (some 4) (List.map Core.ds c.kids)]
@[go_sem] def Core.rvn (c:Core):List RV:=[.int .i64 c.kind,.int .i64 c.value,.ow none (List.map BC c.data),.ow none (List.map Core.ds c.kids)]
attribute [go_sem] Core.ds_eq
theorem Core.ds_len (c:Core):c.ds.length=4:=by rw [Core.ds_eq]; rfl
def Core.dz (c:Core):List D:=[.int .i64 c.kind,.int .i64 c.value,.fz (List.map BC c.data),.fz (List.map Core.ds c.kids)]
@[go_sem] theorem Core.dz_eq (c:Core):c.dz=[.int .i64 c.kind,.int .i64 c.value,.fz (List.map BC c.data),.fz (List.map Core.ds c.kids)] :=rfl
@[go_sem] theorem Core.dz_er (l:List Core):erR (List.map Core.dz l)=List.map Core.ds l:=Iv (fun c=>by rw [Core.ds_eq]; simp only [Core.dz,erC,er]) l
structure Book where
 defs:List Core
def Book.ds (c:Book):List D:=[.sl (List.map Core.ds c.defs)]
theorem Book.ds_eq (c:Book):c.ds=[.sl (List.map Core.ds c.defs)] :=rfl
@[go_sem] def Book.avs (c:Book):List AV:=[.ro (List.map Core.ds c.defs)]
@[go_sem] def Book.rv (c:Book):List RV:=[.ow (some 4) (List.map Core.ds c.defs)]
@[go_sem] def Book.rvn (c:Book):List RV:=[.ow none (List.map Core.ds c.defs)]
attribute [go_sem] Book.ds_eq
theorem Book.ds_len (c:Book):c.ds.length=1:=by rw [Book.ds_eq]; rfl
def Book.dz (c:Book):List D:=[.fz (List.map Core.ds c.defs)]
@[go_sem] theorem Book.dz_eq (c:Book):c.dz=[.fz (List.map Core.ds c.defs)] :=rfl
@[go_sem] theorem Book.dz_er (l:List Book):erR (List.map Book.dz l)=List.map Book.ds l:=Iv (fun c=>by rw [Book.ds_eq]; simp only [Book.dz,erC,er]) l
end Go.Proofs.Ytijdanbelnmmlaa.Ab
namespace Go.Proofs.Ytijdanbelnmmlaa.Ab
set_option linter.unusedVariables false
set_option linter.unusedSimpArgs false
set_option maxRecDepth 20000
set_option maxHeartbeats 4000000
open Go.RowKit
def Am:Nat→(List Core)→Int→(Core→Option Bool)→Option (Int)
 |0,_,_,_=>none
 |n+1,a0,p0_0,f1=>(if (decide (p0_0<((List.length a0:Nat):Int)))=true then (Option.bind (at? a0 p0_0) fun v5003=>(Option.bind (f1 v5003) fun v5005=>(if v5005=true then (some p0_0) else (Am n a0 (IntKind.i64.wrap (p0_0+1)) f1)))) else (some (-1)))
def B7 (a0:List Core) (f1:(Core→Option Bool)):Option (Int):=
 (Am fuel a0 0 f1)
def An (a0:List Core) (f1:(Core→Option Bool)):Option (Bool):=
 (Option.bind (B7 a0 f1) fun v2002=>(some (decide (0≤v2002))))
def GZ (a0:Int):Option (Bool):=
 (if (decide ((-2147483648)≤a0))=true then (some (decide (a0≤2147483647))) else (some false))
def A5:Nat→(List Int)→Int→(Int→Option Bool)→Option (Int)
 |0,_,_,_=>none
 |n+1,a0,p0_0,f1=>(if (decide (p0_0<((List.length a0:Nat):Int)))=true then (Option.bind (at? a0 p0_0) fun v5003=>(Option.bind (f1 v5003) fun v5005=>(if v5005=true then (some p0_0) else (A5 n a0 (IntKind.i64.wrap (p0_0+1)) f1)))) else (some (-1)))
def C9 (a0:List Int) (f1:(Int→Option Bool)):Option (Int):=
 (A5 fuel a0 0 f1)
def As (a0:List Int) (f1:(Int→Option Bool)):Option (Bool):=
 (Option.bind (C9 a0 f1) fun v2002=>(some (decide (0≤v2002))))
def EJ (a0:Int):Option (Bool):=
 (if (decide (1≤a0))=true then (some (decide (a0≤6))) else (some false))
def Db (a0:Int):Option (Bool):=
 (if (decide (0≤a0))=true then (some (decide (a0<24))) else (some false))
def CZ (a0:Int):Option (Bool):=
 (Option.bind (Db a0) fun v2001=>(some (!v2001)))
def AR (a0:Core) (p2_0:Bool) (p2_1:Bool) (p2_2:Int):Option (Bool):=
 (if p2_0=true then (if p2_1=true then (if (decide (((List.length a0.kids:Nat):Int)=p2_2))=true then (Option.bind (As a0.data (fun y0=>CZ y0)) fun v27012=>(some (!v27012))) else (some false)) else (some false)) else (some false))
def CN (a0:Core) (p1_0:Bool):Option (Bool):=
 (if p1_0=true then (AR a0 (decide (a0.value=0)) (decide (((List.length a0.data:Nat):Int)=0)) 2) else (if (decide (a0.kind=8))=true then (if (decide (((List.length a0.data:Nat):Int)=0))=true then (if (decide (0≤a0.value))=true then (if (decide (a0.value<4))=true then (some (decide (((List.length a0.kids:Nat):Int)≤3))) else (some false)) else (some false)) else (some false)) else (if (decide (a0.kind=9))=true then (if (decide (1≤((List.length a0.data:Nat):Int)))=true then (AR a0 (decide (a0.value=0)) (decide (((List.length a0.data:Nat):Int)≤4)) 1) else (AR a0 (decide (a0.value=0)) false 1)) else (if (decide (a0.kind=10))=true then (AR a0 (decide (a0.value=0)) (decide (((List.length a0.data:Nat):Int)=2)) 1) else (if (decide (a0.kind=11))=true then (Option.bind (Db a0.value) fun v26002=>(AR a0 v26002 (decide (((List.length a0.data:Nat):Int)=0)) 0)) else (some false))))))
def CO (a0:Core) (p0_0:Bool):Option (Bool):=
 (if p0_0=true then (AR a0 (decide (a0.value=0)) (decide (((List.length a0.data:Nat):Int)=0)) 1) else (if (decide (a0.kind=5))=true then (CN a0 (decide (a0.kind=5))) else (CN a0 (decide (a0.kind=7)))))
def DE (a0:Core):Option (Bool):=
 (if (decide (a0.kind=1))=true then (if (decide (0≤a0.value))=true then (AR a0 (decide (a0.value≤255)) (decide (((List.length a0.data:Nat):Int)=0)) 0) else (AR a0 false (decide (((List.length a0.data:Nat):Int)=0)) 0)) else (if (decide (a0.kind=2))=true then (Option.bind (GZ a0.value) fun v10002=>(AR a0 v10002 (decide (((List.length a0.data:Nat):Int)=0)) 0)) else (if (decide (a0.kind=3))=true then (Option.bind (EJ a0.value) fun v12002=>(AR a0 v12002 (decide (((List.length a0.data:Nat):Int)=0)) 2)) else (if (decide (a0.kind=4))=true then (CO a0 (decide (a0.kind=4))) else (CO a0 (decide (a0.kind=6)))))))
mutual
def C6:Nat→Core→Option (Int × Int × Bool)
 |0,_=>none
 |n+1,a0=>(Option.bind (DE a0) fun v2001=>(if (!v2001)=true then (some (0,0,false)) else (Bt n a0 1 1 0)))
def Bt:Nat→Core→Int→Int→Int→Option (Int × Int × Bool)
 |0,_,_,_,_=>none
 |n+1,a0,p0_0,p0_1,p0_2=>(if (decide (p0_2<((List.length a0.kids:Nat):Int)))=true then (Option.bind (at? a0.kids p0_2) fun v7000=>(Option.bind (C6 n v7000) fun v8001=>(if (!v8001.2.2)=true then (some (0,0,false)) else (Bt n a0 (if p0_0<(IntKind.i64.wrap (v8001.1 +1)) then (IntKind.i64.wrap (v8001.1 +1)) else p0_0) (IntKind.i64.wrap (p0_1+v8001.2.1)) (IntKind.i64.wrap (p0_2+1)))))) else (some (p0_0,p0_1,true)))
end
mutual
def Ca:Nat→Core→Option (Int × Int)
 |0,_=>none
 |n+1,a0=>(Bf n a0 1 1 0)
def Bf:Nat→Core→Int→Int→Int→Option (Int × Int)
 |0,_,_,_,_=>none
 |n+1,a0,p0_0,p0_1,p0_2=>(if (decide (p0_2<((List.length a0.kids:Nat):Int)))=true then (Option.bind (at? a0.kids p0_2) fun v5000=>(Option.bind (Ca n v5000) fun v6001=>(Bf n a0 (if p0_0<(IntKind.i64.wrap (v6001.1 +1)) then (IntKind.i64.wrap (v6001.1 +1)) else p0_0) (IntKind.i64.wrap (p0_1+v6001.2)) (IntKind.i64.wrap (p0_2+1))))) else (some (p0_0,p0_1)))
end
def FV (a0:Core):Option (Bool):=
 (Option.bind (Ca fuel a0) fun v2001=>(if (decide (v2001.1 ≤80))=true then (some (decide (v2001.2 ≤400))) else (some false)))
def Em (a0:Core):Option (Bool):=
 (Option.bind (C6 fuel a0) fun v2001=>(if v2001.2.2 =true then (Option.bind (FV a0) fun v3003=>(some v3003)) else (some false)))
def Hm (a0:Bool):Option (Int):=
 (if a0=true then (some 1) else (some 0))
def EK (a0:Core) (a1:Int):Option (Int):=
 (if (decide (a0.kind=4))=true then (Option.bind (Hm true) fun v2012=>(some v2012)) else (if (decide (a0.kind=7))=true then (Option.bind (Hm (decide (a1=1))) fun v2012=>(some v2012)) else (Option.bind (Hm false) fun v2012=>(some v2012))))
mutual
def B9:Nat→Core→Int→Option (Bool)
 |0,_,_=>none
 |n+1,a0,a1=>(if (decide (a0.kind=1))=true then (Bn n a0 a1 (decide (a1≤a0.value))) else (Bn n a0 a1 false))
def Bn:Nat→Core→Int→Bool→Option (Bool)
 |0,_,_,_=>none
 |n+1,a0,a1,p0_0=>(if p0_0=true then (some false) else (BT n a0 a1 0))
def BT:Nat→Core→Int→Int→Option (Bool)
 |0,_,_,_=>none
 |n+1,a0,a1,p2_0=>(if (decide (p2_0<((List.length a0.kids:Nat):Int)))=true then (Option.bind (at? a0.kids p2_0) fun v6001=>(Option.bind (EK a0 p2_0) fun v7004=>(Option.bind (B9 n v6001 (IntKind.i64.wrap (a1+v7004))) fun v7006=>(if (!v7006)=true then (some false) else (BT n a0 a1 (IntKind.i64.wrap (p2_0+1))))))) else (some true))
end
def FW (a0:Core):Option (Bool):=
 (Option.bind (Em a0) fun v2001=>(if v2001=true then (Option.bind (B9 fuel a0 0) fun v2004=>(some v2004)) else (some false)))
mutual
def En:Nat→Core→(Core→Option Bool)→Option (Bool)
 |0,_,_=>none
 |n+1,a0,f1=>(Option.bind (D9 n a0 f1) fun v2002=>(some v2002))
def D9:Nat→Core→(Core→Option Bool)→Option (Bool)
 |0,_,_=>none
 |n+1,a0,f1=>(Option.bind (f1 a0) fun v2002=>(if v2002=true then (some true) else (Option.bind (An a0.kids (fun y0=>En n y0 f1)) fun v2007=>(some v2007))))
end
def DF (a0:Int) (a1:Int):Option (Bool):=
 (some (decide (a1≤a0)))
def Eg (a0:Core) (a1:Int):Option (Bool):=
 (if (decide (a0.kind=11))=true then (if (decide (a1≤a0.value))=true then (some true) else (Option.bind (As a0.data (fun y0=>DF y0 a1)) fun v2013=>(some v2013))) else (Option.bind (As a0.data (fun y0=>DF y0 a1)) fun v2013=>(some v2013)))
def Eo (a0:Core) (a1:Int):Option (Bool):=
 (Option.bind (D9 fuel a0 (fun y0=>Eg y0 a1)) fun v2002=>(some (!v2002)))
def Dr (a0:Core) (a1:Book):Option (Bool):=
 (Option.bind (FW a0) fun v2001=>(if (!v2001)=true then (some true) else (Option.bind (Eo a0 ((List.length a1.defs:Nat):Int)) fun v2008=>(some (!v2008)))))
def Cz (a0:Book) (p0_0:Bool):Option (Bool):=
 (if p0_0=true then (some false) else (Option.bind (An a0.defs (fun y0=>Dr y0 a0)) fun v4003=>(some (!v4003))))
def Ep (a0:Book):Option (Bool):=
 (if (decide (((List.length a0.defs:Nat):Int)<1))=true then (Cz a0 true) else (Cz a0 (decide (24<((List.length a0.defs:Nat):Int)))))
def DR (a0:Int) (a1:Int) (a2:Int):Option (Bool):=
 (if (decide (a1≤a0))=true then (some (decide (a0≤a2))) else (some false))
def Ds (a0:Int) (p2_0:Bool):Option (Int × Int × Int × Int):=
 (if p2_0=true then (some (1,1,0,0)) else (if (decide (a0=8))=true then (some (0,3,0,0)) else (if (decide (a0=9))=true then (some (1,1,1,4)) else (if (decide (a0=10))=true then (some (1,1,2,2)) else (some (0,(-1),0,0))))))
def DJ (a0:Int) (p1_0:Bool):Option (Int × Int × Int × Int):=
 (if p1_0=true then (some (2,2,0,0)) else (if (decide (a0=4))=true then (Ds a0 (decide (a0=4))) else (Ds a0 (decide (a0=6)))))
def DK (a0:Int) (p0_0:Bool):Option (Int × Int × Int × Int):=
 (if p0_0=true then (some (0,0,0,0)) else (if (decide (a0=3))=true then (DJ a0 (decide (a0=3))) else (if (decide (a0=5))=true then (DJ a0 (decide (a0=5))) else (DJ a0 (decide (a0=7))))))
def FX (a0:Int):Option (Int × Int × Int × Int):=
 (if (decide (a0=1))=true then (DK a0 (decide (a0=1))) else (if (decide (a0=2))=true then (DK a0 (decide (a0=2))) else (DK a0 (decide (a0=11)))))
def FY (a0:Core):Option (Bool):=
 (if (decide (a0.kind=1))=true then (Option.bind (DR a0.value 0 255) fun v4004=>(some v4004)) else (if (decide (a0.kind=2))=true then (Option.bind (DR a0.value (-2147483648) 2147483647) fun v6004=>(some v6004)) else (if (decide (a0.kind=3))=true then (Option.bind (DR a0.value 1 6) fun v8004=>(some v8004)) else (if (decide (a0.kind=8))=true then (Option.bind (DR a0.value 0 3) fun v10004=>(some v10004)) else (if (decide (a0.kind=11))=true then (Option.bind (DR a0.value 0 23) fun v12004=>(some v12004)) else (some (decide (a0.value=0))))))))
mutual
def DV:Nat→Core→Int→Int→Option (Int)
 |0,_,_,_=>none
 |n+1,a0,a1,a2=>(Option.bind (FX a0.kind) fun v2004=>(if (decide (a1<1))=true then (BK n a0 a1 a2 true) else (if (decide (a2<1))=true then (BK n a0 a1 a2 true) else (Option.bind (DR ((List.length a0.kids:Nat):Int) v2004.1 v2004.2.1) fun v3014=>(if (!v3014)=true then (BK n a0 a1 a2 true) else (Option.bind (DR ((List.length a0.data:Nat):Int) v2004.2.2.1 v2004.2.2.2) fun v3025=>(if (!v3025)=true then (BK n a0 a1 a2 true) else (Option.bind (FY a0) fun v3030=>(BK n a0 a1 a2 (!v3030))))))))))
def BK:Nat→Core→Int→Int→Bool→Option (Int)
 |0,_,_,_,_=>none
 |n+1,a0,a1,a2,p0_0=>(if p0_0=true then (some (-1)) else (CA n a0 a1 a2 0))
def CA:Nat→Core→Int→Int→Int→Option (Int)
 |0,_,_,_,_=>none
 |n+1,a0,a1,a2,p1_0=>(if (decide (p1_0<((List.length a0.data:Nat):Int)))=true then (Option.bind (at? a0.data p1_0) fun v8005=>(Option.bind (DR v8005 0 23) fun v8007=>(if (!v8007)=true then (some (-1)) else (CA n a0 a1 a2 (IntKind.i64.wrap (p1_0+1)))))) else (CB n a0 a1 a2 1 0))
def CB:Nat→Core→Int→Int→Int→Int→Option (Int)
 |0,_,_,_,_,_=>none
 |n+1,a0,a1,a2,p2_0,p2_1=>(if (decide (p2_1<((List.length a0.kids:Nat):Int)))=true then (Option.bind (at? a0.kids p2_1) fun v14005=>(Option.bind (DV n v14005 (IntKind.i64.wrap (a1 - 1)) (IntKind.i64.wrap (a2 - p2_0))) fun v14011=>(if (decide (v14011<0))=true then (some (-1)) else (CB n a0 a1 a2 (IntKind.i64.wrap (p2_0+v14011)) (IntKind.i64.wrap (p2_1+1)))))) else (some p2_0))
end
def Iy (a0:Core):Option (Bool):=
 (Option.bind (DV fuel a0 80 400) fun v2001=>(some (decide (0<v2001))))
def DL (p0_0:Bool):Option (Int):=
 (if p0_0=true then (some 1) else (some 0))
def FZ (a0:Core) (a1:Int):Option (Int):=
 (if (decide (a0.kind=4))=true then (DL true) else (if (decide (a0.kind=7))=true then (DL (decide (a1=1))) else (DL false)))
mutual
def DW:Nat→Core→Int→Option (Bool)
 |0,_,_=>none
 |n+1,a0,a1=>(if (decide (a0.kind=1))=true then (some (decide (a1≤a0.value))) else (CC n a0 a1 0))
def CC:Nat→Core→Int→Int→Option (Bool)
 |0,_,_,_=>none
 |n+1,a0,a1,p0_0=>(if (decide (p0_0<((List.length a0.kids:Nat):Int)))=true then (Option.bind (at? a0.kids p0_0) fun v7005=>(Option.bind (FZ a0 p0_0) fun v7009=>(Option.bind (DW n v7005 (IntKind.i64.wrap (a1+v7009))) fun v7011=>(if v7011=true then (some true) else (CC n a0 a1 (IntKind.i64.wrap (p0_0+1))))))) else (some false))
end
def Er (a0:Core):Option (Bool):=
 (Option.bind (Iy a0) fun v2001=>(if v2001=true then (Option.bind (DW fuel a0 0) fun v2004=>(some (!v2004))) else (some false)))
mutual
def EA:Nat→Core→Int→Option (Bool)
 |0,_,_=>none
 |n+1,a0,a1=>(if (decide (a0.kind=11))=true then (DA n a0 a1 (decide (a1≤a0.value))) else (DA n a0 a1 false))
def DA:Nat→Core→Int→Bool→Option (Bool)
 |0,_,_,_=>none
 |n+1,a0,a1,p0_0=>(if p0_0=true then (some false) else (Cb n a0 a1 0))
def Cb:Nat→Core→Int→Int→Option (Bool)
 |0,_,_,_=>none
 |n+1,a0,a1,p1_0=>(if (decide (p1_0<((List.length a0.data:Nat):Int)))=true then (Option.bind (at? a0.data p1_0) fun v7005=>(if (decide (a1≤v7005))=true then (some false) else (Cb n a0 a1 (IntKind.i64.wrap (p1_0+1))))) else (Cc n a0 a1 0))
def Cc:Nat→Core→Int→Int→Option (Bool)
 |0,_,_,_=>none
 |n+1,a0,a1,p2_0=>(if (decide (p2_0<((List.length a0.kids:Nat):Int)))=true then (Option.bind (at? a0.kids p2_0) fun v12005=>(Option.bind (EA n v12005 a1) fun v12007=>(if (!v12007)=true then (some false) else (Cc n a0 a1 (IntKind.i64.wrap (p2_0+1)))))) else (some true))
end
mutual
def B8:Nat→Book→Int→Option (Bool)
 |0,_,_=>none
 |n+1,a0,p0_0=>(if (decide (p0_0<((List.length a0.defs:Nat):Int)))=true then (Option.bind (at? a0.defs p0_0) fun v7005=>(Option.bind (Er v7005) fun v7006=>(if (!v7006)=true then (DB n a0 p0_0 true) else (Option.bind (at? a0.defs p0_0) fun v7014=>(Option.bind (EA fuel v7014 ((List.length a0.defs:Nat):Int)) fun v7020=>(DB n a0 p0_0 (!v7020))))))) else (some true))
def DB:Nat→Book→Int→Bool→Option (Bool)
 |0,_,_,_=>none
 |n+1,a0,p0_0,p1_0=>(if p1_0=true then (some false) else (B8 n a0 (IntKind.i64.wrap (p0_0+1))))
end
def GA (a0:Book):Option (Bool):=
 (Option.bind (DR ((List.length a0.defs:Nat):Int) 1 24) fun v2005=>(if (!v2005)=true then (some false) else (B8 fuel a0 0)))
def CD:Nat→(List Int)→(List Int)→Int→Option (Bool)
 |0,_,_,_=>none
 |n+1,a0,a1,p0_0=>(if (decide (p0_0<((List.length a0:Nat):Int)))=true then (Option.bind (at? a0 p0_0) fun v7002=>(Option.bind (at? a1 p0_0) fun v7006=>(if (!decide (v7002=v7006))=true then (some false) else (CD n a0 a1 (IntKind.i64.wrap (p0_0+1)))))) else (some true))
def Fa (a0:List Int) (a1:List Int):Option (Bool):=
 (if (!decide (((List.length a0:Nat):Int)=((List.length a1:Nat):Int)))=true then (some false) else (CD fuel a0 a1 0))
mutual
def Fb:Nat→Core→Core→Option (Bool)
 |0,_,_=>none
 |n+1,a0,a1=>(if (!decide (a0.kind=a1.kind))=true then (some false) else (if (!decide (a0.value=a1.value))=true then (some false) else (Option.bind (Fa a0.data a1.data) fun v6004=>(if (!v6004)=true then (some false) else (Option.bind (DM n a0.kids a1.kids) fun v8004=>(if (!v8004)=true then (some false) else (some true)))))))
def DM:Nat→(List Core)→(List Core)→Option (Bool)
 |0,_,_=>none
 |n+1,a0,a1=>(if (!decide (((List.length a0:Nat):Int)=((List.length a1:Nat):Int)))=true then (some false) else (Cd n a0 a1 0))
def Cd:Nat→(List Core)→(List Core)→Int→Option (Bool)
 |0,_,_,_=>none
 |n+1,a0,a1,p0_0=>(if (decide (p0_0<((List.length a0:Nat):Int)))=true then (Option.bind (at? a0 p0_0) fun v7002=>(Option.bind (at? a1 p0_0) fun v7006=>(Option.bind (Fb n v7002 v7006) fun v7008=>(if (!v7008)=true then (some false) else (Cd n a0 a1 (IntKind.i64.wrap (p0_0+1))))))) else (some true))
end
def Es (a0:Book) (a1:Book):Option (Bool):=
 (Option.bind (DM fuel a0.defs a1.defs) fun v2004=>(if (!v2004)=true then (some false) else (some true)))
end Go.Proofs.Ytijdanbelnmmlaa.Ab
