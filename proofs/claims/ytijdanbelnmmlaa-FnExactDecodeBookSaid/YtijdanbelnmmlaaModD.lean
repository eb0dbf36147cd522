/-
  Data of the program as Lean types; how they lie in memory. Printed by wip/ab/gen.py.
-/
import Derived.Test.YtijdanbelnmmlaaAbY
import Derived.Test.YtijdanbelnmmlaaModB
namespace Go.Proofs.Ytijdanbelnmmlaa.Ab
set_option linter.unusedVariables false
set_option linter.unusedSimpArgs false
set_option maxRecDepth 20000
set_option maxHeartbeats 4000000
open Go.RowKit
structure L33R where
 b:List Int
 att:Int
 bad:Bool
def L33R.ds (c:L33R):List D:=[.sl (List.map u8D c.b),.int .i64 c.att,.bool c.bad]
theorem L33R.ds_eq (c:L33R):c.ds=[.sl (List.map u8D c.b),.int .i64 c.att,.bool c.bad] :=rfl
@[go_sem] def L33R.avs (c:L33R):List AV:=[.ro (List.map u8D c.b),.int .i64 c.att,.bool c.bad]
@[go_sem] def L33R.rv (c:L33R):List RV:=[.ow (some 1) (List.map u8D c.b),.int .i64 c.att,.bool c.bad]
@[go_sem] def L33R.rvn (c:L33R):List RV:=[.ow none (List.map u8D c.b),.int .i64 c.att,.bool c.bad]
attribute [go_sem] L33R.ds_eq
theorem L33R.ds_len (c:L33R):c.ds.length=3:=by rw [L33R.ds_eq]; rfl
def L33R.dz (c:L33R):List D:=[.fz (List.map u8D c.b),.int .i64 c.att,.bool c.bad]
@[go_sem] theorem L33R.dz_eq (c:L33R):c.dz=[.fz (List.map u8D c.b),.int .i64 c.att,.bool c.bad] :=rfl
@[go_sem] theorem L33R.dz_er (l:List L33R):erR (List.map L33R.dz l)=List.map L33R.ds l:=Iv (fun c=>by rw [L33R.ds_eq]; simp only [L33R.dz,erC,er]) l
structure Decoder where
 b:List Int
 att:Int
 bad:Bool
def Decoder.ds (c:Decoder):List D:=[.sl (List.map u8D c.b),.int .i64 c.att,.bool c.bad]
theorem Decoder.ds_eq (c:Decoder):c.ds=[.sl (List.map u8D c.b),.int .i64 c.att,.bool c.bad] :=rfl
@[go_sem] def Decoder.avs (c:Decoder):List AV:=[.ro (List.map u8D c.b),.int .i64 c.att,.bool c.bad]
@[go_sem] def Decoder.rv (c:Decoder):List RV:=[.ow (some 1) (List.map u8D c.b),.int .i64 c.att,.bool c.bad]
@[go_sem] def Decoder.rvn (c:Decoder):List RV:=[.ow none (List.map u8D c.b),.int .i64 c.att,.bool c.bad]
attribute [go_sem] Decoder.ds_eq
theorem Decoder.ds_len (c:Decoder):c.ds.length=3:=by rw [Decoder.ds_eq]; rfl
def Decoder.dz (c:Decoder):List D:=[.fz (List.map u8D c.b),.int .i64 c.att,.bool c.bad]
@[go_sem] theorem Decoder.dz_eq (c:Decoder):c.dz=[.fz (List.map u8D c.b),.int .i64 c.att,.bool c.bad] :=rfl
@[go_sem] theorem Decoder.dz_er (l:List Decoder):erR (List.map Decoder.dz l)=List.map Decoder.ds l:=Iv (fun c=>by rw [Decoder.ds_eq]; simp only [Decoder.dz,erC,er]) l
end Go.Proofs.Ytijdanbelnmmlaa.Ab
namespace Go.Proofs.Ytijdanbelnmmlaa.Ab
set_option linter.unusedVariables false
set_option linter.unusedSimpArgs false
set_option maxRecDepth 20000
set_option maxHeartbeats 4000000
open Go.RowKit
def B4 (v2001:Int × (List Int) × Int) (p1_0:Int):Option (L33R × Int):=
 (if (!decide (p1_0=0))=true then (some ((⟨[],0,false⟩:L33R),p1_0)) else (some ((⟨v2001.2.1,0,false⟩:L33R),0)))
def BO (v2001:Int × (List Int) × Int) (p0_0:Bool):Option (L33R × Int):=
 (if p0_0=true then (B4 v2001 14) else (B4 v2001 v2001.2.2))
def De (a0:List Int) (a1:Int):Option (L33R × Int):=
 (Option.bind (DN a0) fun v2001=>(if (decide (v2001.2.2 =0))=true then (BO v2001 (!decide (v2001.1 =a1))) else (BO v2001 false)))
def C1 (a0:L33R) (p0_0:Bool):Option (Int × L33R):=
 (if p0_0=true then (some (0,(⟨a0.b,a0.att,true⟩:L33R))) else (Option.bind (at? a0.b (IntKind.i64.wrap ((IntKind.i64.wrap (a0.att+1)) - 1))) fun v6009=>(some ((IntKind.i64.wrap v6009),(⟨a0.b,(IntKind.i64.wrap (a0.att+1)),a0.bad⟩:L33R)))))
def A0 (a0:L33R):Option (Int × L33R):=
 (if a0.bad=true then (C1 a0 true) else (C1 a0 (decide (((List.length a0.b:Nat):Int)≤a0.att))))
def Ck (a0:L33R) (p2_0:Bool) (v6001:Int × L33R) (p3_0:Int):Option (Int × L33R):=
 (Option.bind (DR p3_0 (-2147483648) 2147483647) fun v14001=>(if (!v14001)=true then (some (p3_0,(⟨a0.b,v6001.2.att,true⟩:L33R))) else (some (p3_0,(⟨a0.b,v6001.2.att,p2_0⟩:L33R)))))
def CI (a0:L33R) (p0_2:Int) (p0_3:Int) (v6001:Int × L33R) (p2_0:Bool):Option (Int × L33R):=
 (if (decide ((Int.tmod (IntKind.u64.wrap (p0_2+(IntKind.u64.wrap ((Int.tmod (IntKind.u64.wrap v6001.1) 128)*2 ^ min (Int.toNat (IntKind.i64.wrap (7*p0_3))) (IntKind.bits IntKind.u64))))) 2)=1))=true then (Ck a0 p2_0 v6001 (bits BinOp.xor IntKind.i64 (if IntKind.signed IntKind.i64=true then -1 else IntKind.max IntKind.i64) (IntKind.i64.wrap ((IntKind.u64.wrap (p0_2+(IntKind.u64.wrap ((Int.tmod (IntKind.u64.wrap v6001.1) 128)*2 ^ min (Int.toNat (IntKind.i64.wrap (7*p0_3))) (IntKind.bits IntKind.u64))))) / 2 ^ min (Int.toNat 1) (IntKind.bits IntKind.u64))))) else (Ck a0 p2_0 v6001 (IntKind.i64.wrap ((IntKind.u64.wrap (p0_2+(IntKind.u64.wrap ((Int.tmod (IntKind.u64.wrap v6001.1) 128)*2 ^ min (Int.toNat (IntKind.i64.wrap (7*p0_3))) (IntKind.bits IntKind.u64))))) / 2 ^ min (Int.toNat 1) (IntKind.bits IntKind.u64)))))
def Bp (a0:L33R) (p0_2:Int) (p0_3:Int) (v6001:Int × L33R) (p1_0:Bool):Option (Int × L33R):=
 (if p1_0=true then (CI a0 p0_2 p0_3 v6001 true) else (CI a0 p0_2 p0_3 v6001 v6001.2.bad))
def Aa:Nat→L33R→Int→Bool→Int→Int→Option (Int × L33R)
 |0,_,_,_,_,_=>none
 |n+1,a0,p0_0,p0_1,p0_2,p0_3=>(if (decide (p0_3<5))=true then (Option.bind (A0 (⟨a0.b,p0_0,p0_1⟩:L33R)) fun v6001=>(Option.bind (nn? (IntKind.i64.wrap (7*p0_3))) fun v7005=>(if (decide ((IntKind.u64.wrap v6001.1)<128))=true then (if (decide ((IntKind.u64.wrap v6001.1)=0))=true then (Bp a0 p0_2 p0_3 v6001 (decide (0<p0_3))) else (Bp a0 p0_2 p0_3 v6001 false)) else (Aa n a0 v6001.2.att v6001.2.bad (IntKind.u64.wrap (p0_2+(IntKind.u64.wrap ((Int.tmod (IntKind.u64.wrap v6001.1) 128)*2 ^ min (Int.toNat (IntKind.i64.wrap (7*p0_3))) (IntKind.bits IntKind.u64))))) (IntKind.i64.wrap (p0_3+1)))))) else (some (0,(⟨a0.b,p0_0,true⟩:L33R))))
def CF (a0:L33R):Option (Int × L33R):=
 (Aa fuel a0 a0.att a0.bad 0 0)
mutual
def Ay:Nat→L33R→Int→Option (Core × L33R)
 |0,_,_=>none
 |n+1,a0,a1=>(Option.bind (A0 a0) fun v2001=>(Option.bind (CF (⟨a0.b,v2001.2.att,v2001.2.bad⟩:L33R)) fun v3001=>(Option.bind (A0 (⟨a0.b,v3001.2.att,v3001.2.bad⟩:L33R)) fun v4001=>(AZ n a0 a1 v2001 v3001 v4001.2.att v4001.2.bad [] v4001.1))))
def AZ:Nat→L33R→Int→(Int × L33R)→(Int × L33R)→Int→Bool→(List Int)→Int→Option (Core × L33R)
 |0,_,_,_,_,_,_,_,_=>none
 |n+1,a0,a1,v2001,v3001,p2_0,p2_1,p2_2,p2_3=>(if (decide (0<p2_3))=true then (A1 n a0 a1 p2_0 p2_1 p2_2 p2_3 v2001 v3001 (!p2_1)) else (A1 n a0 a1 p2_0 p2_1 p2_2 p2_3 v2001 v3001 false))
def A1:Nat→L33R→Int→Int→Bool→(List Int)→Int→(Int × L33R)→(Int × L33R)→Bool→Option (Core × L33R)
 |0,_,_,_,_,_,_,_,_,_=>none
 |n+1,a0,a1,p2_0,p2_1,p2_2,p2_3,v2001,v3001,p3_0=>(if p3_0=true then (Option.bind (A0 (⟨a0.b,p2_0,p2_1⟩:L33R)) fun v7003=>(Option.bind (GX p2_2 [v7003.1]) fun v7005=>(AZ n a0 a1 v2001 v3001 v7003.2.att v7003.2.bad v7005 (IntKind.i64.wrap (p2_3 - 1))))) else (Option.bind (A0 (⟨a0.b,p2_0,p2_1⟩:L33R)) fun v8001=>(if (decide (80≤a1))=true then (Ai n a0 a1 p2_2 v2001 v3001 v8001 (decide (0<v8001.1))) else (Ai n a0 a1 p2_2 v2001 v3001 v8001 false))))
def Ai:Nat→L33R→Int→(List Int)→(Int × L33R)→(Int × L33R)→(Int × L33R)→Bool→Option (Core × L33R)
 |0,_,_,_,_,_,_,_=>none
 |n+1,a0,a1,p2_2,v2001,v3001,v8001,p4_0=>(if p4_0=true then (Al n a0 a1 p2_2 v2001 v3001 v8001 true) else (Al n a0 a1 p2_2 v2001 v3001 v8001 v8001.2.bad))
def Al:Nat→L33R→Int→(List Int)→(Int × L33R)→(Int × L33R)→(Int × L33R)→Bool→Option (Core × L33R)
 |0,_,_,_,_,_,_,_=>none
 |n+1,a0,a1,p2_2,v2001,v3001,v8001,p5_0=>(AT n a0 a1 p2_2 v2001 v3001 v8001.2.att p5_0 [] v8001.1)
def AT:Nat→L33R→Int→(List Int)→(Int × L33R)→(Int × L33R)→Int→Bool→(List Core)→Int→Option (Core × L33R)
 |0,_,_,_,_,_,_,_,_,_=>none
 |n+1,a0,a1,p2_2,v2001,v3001,p8_0,p8_1,p8_2,p8_3=>(if (decide (0<p8_3))=true then (Au n a0 a1 p2_2 p8_0 p8_1 p8_2 p8_3 v2001 v3001 (!p8_1)) else (Au n a0 a1 p2_2 p8_0 p8_1 p8_2 p8_3 v2001 v3001 false))
def Au:Nat→L33R→Int→(List Int)→Int→Bool→(List Core)→Int→(Int × L33R)→(Int × L33R)→Bool→Option (Core × L33R)
 |0,_,_,_,_,_,_,_,_,_,_=>none
 |n+1,a0,a1,p2_2,p8_0,p8_1,p8_2,p8_3,v2001,v3001,p9_0=>(if p9_0=true then (Option.bind (Ay n (⟨a0.b,p8_0,p8_1⟩:L33R) (IntKind.i64.wrap (a1+1))) fun v14005=>(Option.bind (GX p8_2 [v14005.1]) fun v14007=>(AT n a0 a1 p2_2 v2001 v3001 v14005.2.att v14005.2.bad v14007 (IntKind.i64.wrap (p8_3 - 1))))) else (some ((⟨v2001.1,v3001.1,p2_2,p8_2⟩:Core),(⟨a0.b,p8_0,p8_1⟩:L33R))))
end
def Eh (a0:L33R):Option (Bool):=
 (if (!a0.bad)=true then (some (decide (a0.att=((List.length a0.b:Nat):Int)))) else (some false))
def CV (p2_2:List Core) (p4_0:Bool):Option (Book × Int):=
 (if p4_0=true then (some ((⟨[]⟩:Book),14)) else (some ((⟨p2_2⟩:Book),0)))
mutual
def AS:Nat→(L33R × Int)→(Int × L33R)→Int→Bool→(List Core)→Int→Option (Book × Int)
 |0,_,_,_,_,_,_=>none
 |n+1,v2001,v5001,p2_0,p2_1,p2_2,p2_3=>(if (decide (p2_3<v5001.1))=true then (if (decide (p2_3≤24))=true then (Aw n p2_0 p2_1 p2_2 p2_3 v2001 v5001 (!p2_1)) else (Aw n p2_0 p2_1 p2_2 p2_3 v2001 v5001 false)) else (Aw n p2_0 p2_1 p2_2 p2_3 v2001 v5001 false))
def Aw:Nat→Int→Bool→(List Core)→Int→(L33R × Int)→(Int × L33R)→Bool→Option (Book × Int)
 |0,_,_,_,_,_,_,_=>none
 |n+1,p2_0,p2_1,p2_2,p2_3,v2001,v5001,p3_0=>(if p3_0=true then (Option.bind (Ay fuel (⟨v2001.1.b,p2_0,p2_1⟩:L33R) 1) fun v10003=>(Option.bind (GX p2_2 [(⟨0,0,[],[]⟩:Core)]) fun v10006=>(Option.bind (at? v10006 ((List.length p2_2:Nat):Int)) fun v10007=>(Option.bind (Fq v10006 ((List.length p2_2:Nat):Int) v10003.1) fun v10008_12=>(AS n v2001 v5001 v10003.2.att v10003.2.bad v10008_12 (IntKind.i64.wrap (p2_3+1))))))) else (Option.bind (Eh (⟨v2001.1.b,p2_0,p2_1⟩:L33R)) fun v11001=>(if (!v11001)=true then (CV p2_2 true) else (if (!decide (((List.length p2_2:Nat):Int)=v5001.1))=true then (CV p2_2 true) else (Option.bind (GA (⟨p2_2⟩:Book)) fun v11011=>(CV p2_2 (!v11011)))))))
end
def EM (a0:List Int):Option (Book × Int):=
 (Option.bind (De a0 3) fun v2001=>(if (!decide (v2001.2 =0))=true then (some ((⟨[]⟩:Book),v2001.2)) else (Option.bind (CF v2001.1) fun v5001=>(AS fuel v2001 v5001 v5001.2.att v5001.2.bad [] 0))))
def BR (p1_2:Int) (p3_0:Int) (p4_0:Bool):Option (Int × Int × Int):=
 (if p4_0=true then (some (0,0,14)) else (some (p3_0,(IntKind.i64.wrap (p1_2+1)),0)))
def Bq (a0:List Int) (a1:Int) (p1_2:Int) (p3_0:Int):Option (Int × Int × Int):=
 (Option.bind (at? a0 p1_2) fun v14002=>(if (decide (v14002=0))=true then (if (decide (a1<p1_2))=true then (BR p1_2 p3_0 true) else (Option.bind (GZ p3_0) fun v14012=>(BR p1_2 p3_0 (!v14012)))) else (Option.bind (GZ p3_0) fun v14012=>(BR p1_2 p3_0 (!v14012)))))
mutual
def AW:Nat→(List Int)→Int→Int→Int→Int→Option (Int × Int × Int)
 |0,_,_,_,_,_=>none
 |n+1,a0,a1,p1_0,p1_1,p1_2=>(if (decide (p1_2<((List.length a0:Nat):Int)))=true then (A6 n a0 a1 p1_0 p1_1 p1_2 (decide (p1_2<(IntKind.i64.wrap (a1+5))))) else (A6 n a0 a1 p1_0 p1_1 p1_2 false))
def A6:Nat→(List Int)→Int→Int→Int→Int→Bool→Option (Int × Int × Int)
 |0,_,_,_,_,_,_=>none
 |n+1,a0,a1,p1_0,p1_1,p1_2,p2_0=>(if p2_0=true then (Option.bind (at? a0 p1_2) fun v8003=>(Option.bind (at? a0 p1_2) fun v10002=>(if (decide (128≤v10002))=true then (AW n a0 a1 (IntKind.i64.wrap (p1_0+(IntKind.i64.wrap ((IntKind.i64.wrap (Int.tmod v8003 128))*p1_1)))) (IntKind.i64.wrap (p1_1*128)) (IntKind.i64.wrap (p1_2+1))) else (if (decide ((Int.tmod (IntKind.i64.wrap (p1_0+(IntKind.i64.wrap ((IntKind.i64.wrap (Int.tmod v8003 128))*p1_1)))) 2)=1))=true then (Bq a0 a1 p1_2 (IntKind.i64.wrap ((IntKind.i64.wrap (0 - (IntKind.i64.wrap (Int.tdiv (IntKind.i64.wrap (p1_0+(IntKind.i64.wrap ((IntKind.i64.wrap (Int.tmod v8003 128))*p1_1)))) 2)))) - 1))) else (Bq a0 a1 p1_2 (IntKind.i64.wrap (Int.tdiv (IntKind.i64.wrap (p1_0+(IntKind.i64.wrap ((IntKind.i64.wrap (Int.tmod v8003 128))*p1_1)))) 2))))))) else (some (0,0,14)))
end
def Bz (a0:List Int) (a1:Int) (p0_0:Bool):Option (Int × Int × Int):=
 (if p0_0=true then (some (0,0,2)) else (AW fuel a0 a1 0 1 a1))
def DY (a0:List Int) (a1:Int):Option (Int × Int × Int):=
 (if (decide (a1<0))=true then (Bz a0 a1 true) else (Bz a0 a1 (decide (((List.length a0:Nat):Int)<a1))))
def BE (a0:Decoder):Option (Int × Decoder):=
 (Option.bind (DY a0.b a0.att) fun v2008=>(if (!decide (v2008.2.2 =0))=true then (some (0,(⟨a0.b,a0.att,true⟩:Decoder))) else (some (v2008.1,(⟨a0.b,v2008.2.1,a0.bad⟩:Decoder)))))
def Ap (a0:Decoder):Option (Int × Decoder):=
 (if (decide (((List.length a0.b:Nat):Int)≤a0.att))=true then (some (0,(⟨a0.b,a0.att,true⟩:Decoder))) else (Option.bind (at? a0.b (IntKind.i64.wrap ((IntKind.i64.wrap (a0.att+1)) - 1))) fun v6009=>(some ((IntKind.i64.wrap v6009),(⟨a0.b,(IntKind.i64.wrap (a0.att+1)),a0.bad⟩:Decoder)))))
mutual
def BL:Nat→Decoder→Int→Option (Core × Decoder)
 |0,_,_=>none
 |n+1,a0,a1=>(if (decide (a1=0))=true then (some ((⟨0,0,[],[]⟩:Core),(⟨a0.b,a0.att,true⟩:Decoder))) else (Option.bind (Ap a0) fun v5001=>(Option.bind (BE (⟨a0.b,v5001.2.att,v5001.2.bad⟩:Decoder)) fun v5003=>(Option.bind (Ap (⟨a0.b,v5003.2.att,v5003.2.bad⟩:Decoder)) fun v6001=>(Ac n a0 a1 v5001 v5003 v6001 v6001.2.att v6001.2.bad [] 0)))))
def Ac:Nat→Decoder→Int→(Int × Decoder)→(Int × Decoder)→(Int × Decoder)→Int→Bool→(List Int)→Int→Option (Core × Decoder)
 |0,_,_,_,_,_,_,_,_,_=>none
 |n+1,a0,a1,v5001,v5003,v6001,p1_0,p1_1,p1_2,p1_3=>(if (decide (p1_3<v6001.1))=true then (Option.bind (Ap (⟨a0.b,p1_0,p1_1⟩:Decoder)) fun v8003=>(Option.bind (GX p1_2 [v8003.1]) fun v8005=>(Ac n a0 a1 v5001 v5003 v6001 v8003.2.att v8003.2.bad v8005 (IntKind.i64.wrap (p1_3+1))))) else (Option.bind (Ap (⟨a0.b,p1_0,p1_1⟩:Decoder)) fun v10001=>(Aq n a0 a1 p1_2 v5001 v5003 v10001 v10001.2.att v10001.2.bad [] 0)))
def Aq:Nat→Decoder→Int→(List Int)→(Int × Decoder)→(Int × Decoder)→(Int × Decoder)→Int→Bool→(List Core)→Int→Option (Core × Decoder)
 |0,_,_,_,_,_,_,_,_,_,_=>none
 |n+1,a0,a1,p1_2,v5001,v5003,v10001,p4_0,p4_1,p4_2,p4_3=>(if (decide (p4_3<v10001.1))=true then (A2 n a0 a1 p1_2 p4_0 p4_1 p4_2 p4_3 v5001 v5003 v10001 (!p4_1)) else (A2 n a0 a1 p1_2 p4_0 p4_1 p4_2 p4_3 v5001 v5003 v10001 false))
def A2:Nat→Decoder→Int→(List Int)→Int→Bool→(List Core)→Int→(Int × Decoder)→(Int × Decoder)→(Int × Decoder)→Bool→Option (Core × Decoder)
 |0,_,_,_,_,_,_,_,_,_,_,_=>none
 |n+1,a0,a1,p1_2,p4_0,p4_1,p4_2,p4_3,v5001,v5003,v10001,p5_0=>(if p5_0=true then (Option.bind (BL n (⟨a0.b,p4_0,p4_1⟩:Decoder) (IntKind.i64.wrap (a1 - 1))) fun v14005=>(Option.bind (GX p4_2 [v14005.1]) fun v14007=>(Aq n a0 a1 p1_2 v5001 v5003 v10001 v14005.2.att v14005.2.bad v14007 (IntKind.i64.wrap (p4_3+1))))) else (some ((⟨v5001.1,v5003.1,p1_2,p4_2⟩:Core),(⟨a0.b,p4_0,p4_1⟩:Decoder))))
end
mutual
def Ad:Nat→Decoder→(Int × Decoder)→Int→Bool→(List Core)→Int→Option (Book × Decoder)
 |0,_,_,_,_,_,_=>none
 |n+1,a0,v2001,p4_0,p4_1,p4_2,p4_3=>(if (decide (p4_3<v2001.1))=true then (BA n a0 p4_0 p4_1 p4_2 p4_3 v2001 (!p4_1)) else (BA n a0 p4_0 p4_1 p4_2 p4_3 v2001 false))
def BA:Nat→Decoder→Int→Bool→(List Core)→Int→(Int × Decoder)→Bool→Option (Book × Decoder)
 |0,_,_,_,_,_,_,_=>none
 |n+1,a0,p4_0,p4_1,p4_2,p4_3,v2001,p5_0=>(if p5_0=true then (Option.bind (BL fuel (⟨a0.b,p4_0,p4_1⟩:Decoder) 80) fun v9003=>(Option.bind (GX p4_2 [v9003.1]) fun v9005=>(Ad n a0 v2001 v9003.2.att v9003.2.bad v9005 (IntKind.i64.wrap (p4_3+1))))) else (some ((⟨p4_2⟩:Book),(⟨a0.b,p4_0,p4_1⟩:Decoder))))
end
def BI (a0:Decoder) (v2001:Int × Decoder) (p1_0:Bool):Option (Book × Decoder):=
 (Ad fuel a0 v2001 v2001.2.att p1_0 [] 0)
def Aj (a0:Decoder) (v2001:Int × Decoder) (p0_0:Bool):Option (Book × Decoder):=
 (if p0_0=true then (BI a0 v2001 true) else (BI a0 v2001 v2001.2.bad))
def EN (a0:Decoder):Option (Book × Decoder):=
 (Option.bind (BE a0) fun v2001=>(if (decide (v2001.1 <1))=true then (Aj a0 v2001 true) else (Aj a0 v2001 (decide (24<v2001.1)))))
def BF (v9002:Book × Decoder) (p0_0:Bool):Option (Book × Int):=
 (if p0_0=true then (some ((⟨[]⟩:Book),14)) else (some (v9002.1,0)))
def Cs (a0:List Int) (a1:Int):Option (Book × Int):=
 (Option.bind (Ch a0) fun v3001=>(if (!decide (v3001.2.2 =0))=true then (some ((⟨[]⟩:Book),v3001.2.2)) else (if (!decide (v3001.1 =a1))=true then (some ((⟨[]⟩:Book),14)) else (Option.bind (EN (⟨v3001.2.1,0,false⟩:Decoder)) fun v9002=>(if v9002.2.bad =true then (some ((⟨[]⟩:Book),14)) else (Option.bind (Dc v9002.1) fun v12002=>(if (!decide (v12002.2 =0))=true then (BF v9002 true) else (Option.bind (Co v12002.1 a0) fun v13005=>(BF v9002 (!v13005))))))))))
def Df (a0:List Int):Option (Book × Int):=
 (Option.bind (Cs a0 3) fun v2001=>(some (v2001.1,v2001.2)))
def Bc (v16002:Int × (List Core)) (p2_0:Bool):Option (Bool):=
 (if p2_0=true then (some false) else (Option.bind (Dx (⟨v16002.2⟩:Book) 1) fun v27002=>(if (decide (v27002<0))=true then (some false) else (if (!decide (v27002=v16002.1))=true then (some false) else (some true)))))
def BG (a0:List Int) (v4002:Book × Int) (v6001:Book × Int) (p1_0:Bool):Option (Bool):=
 (if p1_0=true then (some false) else (Option.bind (EZ v6001.1 1) fun v16002=>(Option.bind (Dx (⟨v16002.2⟩:Book) 1) fun v18002=>(if (decide (v18002<0))=true then (some false) else (if (!decide (v18002=v16002.1))=true then (some false) else (Option.bind (Dd a0) fun v23001=>(Option.bind (Df v23001) fun v23002=>(Option.bind (Es v23002.1 v4002.1) fun v24002=>(if (!v24002)=true then (Bc v16002 true) else (Bc v16002 (!decide (v23002.2 =v4002.2))))))))))))
def Bd (a0:List Int) (v4002:Book × Int) (v5001:(List Int)) (v6001:Book × Int) (p0_0:Bool):Option (Bool):=
 (if p0_0=true then (some false) else (Option.bind (Dd a0) fun v9002=>(Option.bind (FF v5001 v9002) fun v9003=>(if (!v9003)=true then (some false) else (Option.bind (EB v5001 1) fun v12002=>(if (decide (v12002.1 <0))=true then (BG a0 v4002 v6001 true) else (Option.bind (Es v6001.1 v4002.1) fun v13005=>(if (!v13005)=true then (BG a0 v4002 v6001 true) else (BG a0 v4002 v6001 (!decide (v6001.2 =v4002.2)))))))))))
def Ct (a0:List Int):Option (Bool):=
 (if (decide (1048576<((List.length a0:Nat):Int)))=true then (some true) else (Option.bind (Dd a0) fun v4001=>(Option.bind (EM v4001) fun v4002=>(Option.bind (Dd a0) fun v5001=>(Option.bind (Df v5001) fun v6001=>(Option.bind (Es v6001.1 v4002.1) fun v7002=>(if (!v7002)=true then (Bd a0 v4002 v5001 v6001 true) else (Bd a0 v4002 v5001 v6001 (!decide (v6001.2 =v4002.2))))))))))
end Go.Proofs.Ytijdanbelnmmlaa.Ab
