/-
  InferBody: both sides answer alike; the law, from what both sides give. No program is in sight.
-/
import Derived.Test.YtnfgeocnolheoaaGreatPlIc
namespace Go.Proofs.YtnfgeocnolheoaaGreat.Ab
set_option linter.unusedVariables false
set_option maxHeartbeats 1000000
set_option linter.unusedSimpArgs false
open Go.RowKit
theorem jf:∀t:TType,t.sz≤Big→∀n,16*t.sz+16≤n→IY n t=some t:=by
 refine TType.ind fun t ih hz n hn=>?_
 obtain⟨n,rfl⟩:∃m,n=m+1:=⟨n - 1,by omega⟩
 have hsz:=t.sz_eq
 have hlen:=AZ TType.sz t.kids
 have hB:Big=4294967296:=rfl
 have main:=K3 (L:=fun n (s:List TType) i=>Dq n t s i) t.kids 1 (16*szl TType.sz t.kids+8 - 6*t.kids.length) (fun pre=>pre) (fun _=>true) none (some t) n (fun m pre x post hh hp hk=>by
   have hx:=BE hh
   have hm:=Ac (s:=TType.sz) hx
   have hp1:1≤t.kids.length:=List.length_pos_of_mem hx
   have hpl:pre.length+1≤t.kids.length:=by rw [hh]; simp
   show Dq (m+1) t _ _=_
   rw [Dq,if_pos (Ah hh),AY hh,AA,ih x hx (by omega) m (by omega),AA,DC (by grind),AA,AP hh (by omega),if_pos rfl]) (fun m hp hk=>by
   show Dq (m+1) t _ _=_
   rw [Dq,if_neg (by simp),TType.eta]) (by omega)
 rw [IY]
 grind
theorem gS:∀t:TType,t.sz≤Big→∀n,16*t.sz+16≤n→F2 n t=some t:=by
 refine TType.ind fun t ih hz n hn=>?_
 obtain⟨n,rfl⟩:∃m,n=m+1:=⟨n - 1,by omega⟩
 have hsz:=t.sz_eq
 have hlen:=AZ TType.sz t.kids
 have hB:Big=4294967296:=rfl
 have main:=K3 (L:=fun n (s:List TType) i=>Cj n t s i) t.kids 1 (16*szl TType.sz t.kids+8 - 6*t.kids.length) (fun pre=>pre) (fun _=>true) none (some t) n (fun m pre x post hh hp hk=>by
   have hx:=BE hh
   have hm:=Ac (s:=TType.sz) hx
   have hp1:1≤t.kids.length:=List.length_pos_of_mem hx
   have hpl:pre.length+1≤t.kids.length:=by rw [hh]; simp
   show Cj (m+1) t _ _=_
   rw [Cj,if_pos (Ah hh),AY hh,AA,ih x hx (by omega) m (by omega),AA,DC (by grind),AA,AP hh (by omega),if_pos rfl]) (fun m hp hk=>by
   show Cj (m+1) t _ _=_
   rw [Cj,if_neg (by simp),TType.eta]) (by omega)
 rw [F2]
 grind
theorem VP:TType.sz ⟨0,ByteArray.empty,[]⟩≤100000000:=by rw [TType.sz_eq]; simp [szl]
theorem Sx (p:TProgram) (hz:p.sz≤1048576) (i:Int):∃r,IZ p i=some r∧HI p i=some r∧r.1.sz ≤100000000:=by
 have hB:Big=4294967296:=rfl
 unfold IZ HI GR
 rw [Sp p (by omega),AA,Sq p (by omega),AA]
 by_cases h0:H9 p=0
 ·have hz':=hz
  unfold TProgram.sz at hz'
  have hfl:=AZ Def.sz p.defs
  have q0:¬ ((!decide (H9 p=0))=true):=by grind
  rw [if_neg q0,if_neg q0,w64 (by omega) (by omega),ai,AA]
  have hin:(if decide (0≤i)=true then some (decide (i<(p.defs.length:Int))) else some false)=some (decide (0≤i)&&decide (i≤(p.defs.length:Int) - 1)):=by
   grind
  rw [hin,AA]
  by_cases hr:0≤i∧i≤(p.defs.length:Int) - 1
  ·have hq:(decide (0≤i)&&decide (i≤(p.defs.length:Int) - 1))=true:=by grind
   have q1:¬ ((!(decide (0≤i)&&decide (i≤(p.defs.length:Int) - 1)))=true):=by rw [hq]; simp
   rw [if_neg q1,if_neg q1]
   have hlt:i.toNat<p.defs.length:=by omega
   have hat:at? p.defs i=some p.defs[i.toNat] :=by rw [at?,if_pos hr.1,List.getElem?_eq_getElem hlt]
   obtain⟨T,b,nd,e1,e2,e3⟩:=Sr hz h0 (List.getElem_mem hlt)
   rw [hat]
   simp only [AA]
   rw [e1,e2]
   simp only [AA]
   cases hb:b with
   |false=>exact⟨(⟨0,ByteArray.empty,[]⟩,8),by simp,by simp,VP⟩
   |true=>
    obtain⟨a1,a2,a3⟩:=e3 hb
    have q2:¬ ((!true)=true):=by simp
    rw [if_neg q2,if_neg q2,a1,jf T (by omega) fuel (EC (by omega)),gS T (by omega) fuel (EC (by omega))]
    simp_all
  ·have q1:(!(decide (0≤i)&&decide (i≤(p.defs.length:Int) - 1)))=true:=by
    grind
   rw [if_pos q1,if_pos q1]
   grind [VP]
 ·have q0:(!decide (H9 p=0))=true:=by grind
  rw [if_pos q0,if_pos q0]
  grind [VP]
theorem Q7 (a0:TProgram) (h0:Hn (TProgram.ds a0)) (a1:Int) (w1:(Lit.int IntKind.i64 a1).wf =true):FJ a0 a1=some true:=by
 have hB:Big=4294967296:=rfl
 unfold FJ
 refine dO (PM a0 (TProgram.ok_of a0 h0) (1048576) (by omega)) fun z0=>?_
 have b0:a0.sz≤Big:=by omega
 obtain⟨r,hs,hi,hr⟩:=Sx a0 (by omega) a1
 have ft0:Cd a0=some a0:=PN a0 b0
 have fe0:FA a0 a0=some true:=Mi a0 b0
 have te:D7 fuel r.1 r.1 =some true:=J9 r.1 (by omega) fuel (A3 (by omega))
 obtain⟨k,da,db,hm⟩:=dV a0 (by omega)
 have hrz:=r.1.sz_eq
 have hmc:=TType.mcs_le' r.1.kids
 have hmk:=mk9 r.1.kids fuel 1 (by omega) (A3 (by omega)) (by omega)
 have m1:JZ r.1 1=some (((1+TType.mcs r.1.kids :Nat):Int),TType.mkS9 1 r.1.kids):=by
  unfold JZ
  rw [show (1:Int)=((1:Nat):Int) from rfl,hmk.1,AA]
 have m2:H5 ⟨r.1.kind,r.1.name,TType.mkS9 1 r.1.kids⟩ 1=some ((1+TType.mcs r.1.kids :Nat):Int):=by
  unfold H5
  rw [show (1:Int)=((1:Nat):Int) from rfl,hmk.2,AA,nF,if_neg (by simp)]
 simp only [AA,hs,hi,ft0,fe0,te,hm,m1,m2,C8,CL,C7,nF,eq_self,decide_true,decide_false,Bool.not_true,Bool.not_false,Bool.false_eq_true,reduceIte]
end Go.Proofs.YtnfgeocnolheoaaGreat.Ab
