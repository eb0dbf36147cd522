/-
  CheckTypes: both sides answer alike. No program is in sight.
-/
import Derived.Test.YtaedfiifhjlmlaaGreatPlK
import Derived.Test.YtaedfiifhjlmlaaGreatPlG
import Derived.Test.YtaedfiifhjlmlaaGreatAbZ
import Derived.Test.YtaedfiifhjlmlaaGreatModT
namespace Go.Proofs.YtaedfiifhjlmlaaGreat.Ab
set_option linter.unusedVariables false
set_option linter.unusedSimpArgs false
open Go.RowKit
theorem Vv {t:Term} (ho:t.okS=true) (h9:t.kind=9) {k0:Term} {L:List Term} (hk:t.kids=k0::L):k0.kind≠10:=by
 have hc:=(Li ho).2.2
 rw [h9,hk,allp,Bool.and_eq_true] at hc
 have:=hc.1
 unfold Ej at this
 simpa using this
theorem Za {p:TProgram} (hc:PCx p) {t:Term} (h9:t.kind=9) (ih:∀x ∈ t.kids,Pr p x) (ihg:∀x ∈ t.kids,∀y ∈ x.kids,Pr p y):Pr p t:=by
 intro htz h10 ho hn hcc e env sc lv lv' n m hR hE he1 he2 hd hcl hfn hfm
 have hB:=bgE
 obtain⟨k0,k1,rest,hk,hk1,hk2,hk3⟩:=Qa ho h9
 have hx:k0 ∈ t.kids:=by rw [hk]; simp
 have hx1:k1 ∈ t.kids:=by rw [hk]; simp
 have hsz:=K5 hx
 have hdep:=Im hx
 have hkl:2≤t.kids.length:=by rw [hk]; simp
 have hpz:=hc.z
 unfold TProgram.sz at hpz
 have hcon:=OH (J1 (B5 hn hx1)) (Or.inr hk1)
 obtain⟨i,j,f1,f2,f3,f4,f5⟩:=K4 hcon
 have hdc:=OE hc.d f4
 have hcas:Mc p.datas t.kids=true:=by
  have:=J1 hcc
  unfold ccL at this
  rw [if_neg (by omega),if_pos h9] at this
  exact this
 rw [hk,Mc,Bool.and_eq_true,decide_eq_true_eq] at hcas
 obtain⟨n,rfl⟩:∃k,n=k+3:=⟨n - 3,by omega⟩
 obtain⟨m,rfl⟩:∃k,m=k+4:=⟨m - 4,by omega⟩
 obtain⟨T,b,nd,q1,q2,q3,q4⟩:=ih k0 hx (by omega) (Vv ho h9 hk) (Ft ho hx) (B5 hn hx) (B5 hcc hx) e env sc lv lv' (n+1) (m+1) hR
  hE he1 (by omega) (by omega)
  (by have:=Il (pre:=[]) hcl hk; simpa [CX,h9] using this) (by omega) (by omega)
 have hkd:=Ma (p:=p) (a1:=⟨t,⟨0,ByteArray.empty,[]⟩,lv',[],[],none⟩) (sc:=sc) (lv:=lv') (x:=k0) (nd:=nd) (b:=b) (m:=m+1) (by rw [hk]; rfl) q2 (by simp [Big])
 simp only [List.nil_append] at hkd
 have hcut:cutL t.kids 1 (t.kids.length:Int)=some (k1::rest):=by
  rw [hk,cutL,if_pos ⟨by decide,by simp; omega,by simp⟩]; simp
 have qn:∀k:Int,t.kind≠k→¬ (decide (t.kind=k)=true):=fun k h=>by simp [h]
 have qp:decide (t.kind=9)=true:=by simp [h9]
 have ek0:at? t.kids 0=some k0:=by rw [hk]; rfl
 have ek1:at? t.kids 1=some k1:=by rw [hk]; rfl
 have main:∃T b nd,Gl (n+2) p t env lv=some (T,b)∧Eg (m+3) ⟨p⟩ ⟨t,⟨0,ByteArray.empty,[]⟩,lv',[],[],none⟩ sc=some (b,nd)∧b4 T∧(b=true→nd.typ=T∧T.okB=true∧T.sz≤e+4*t.sz+4):=by
  rw [Gl,ek0,AA,q1,AA,ek1,AA,JY p.datas (by omega),AA,f1,Eg]
  simp only [TType.eta,Term.eta]
  rw [hkd,AA,D6,ek1,AA,K6 p.datas (by omega),f1]
  simp only [cRes,AA,f2,Gm]
  cases hb:b with
  |false=>
   have pb:(!false)=true:=rfl
   rw [if_pos pb,if_pos pb,Bj,if_pos rfl,CC,if_pos rfl]
   exact⟨_,_,_,rfl,rfl,fun h=>by simp at h,fun h=>by cases h⟩
  | true=>
   obtain⟨r1,r2,r3⟩:=q4 hb
   have nb:¬ ((!true)=true):=by simp
   rw [if_neg nb,if_neg nb,r1,Gn T (by omega) _ fuel (D8 (by omega)),AA]
   have heq:decide (T=⟨2,(cDat p.datas k1.name).name,[]⟩)=(decide (T.kind=2)&&sameStr T.name (cDat p.datas k1.name).name):=by
    rw [Bool.eq_iff_iff,decide_eq_true_eq,Bool.and_eq_true,decide_eq_true_eq,CW,TType.eq_iff]
    constructor
    ·intro h; exact⟨h.1,h.2.1⟩
    ·intro h; exact⟨h.1,h.2,gW r2 h.1⟩
   rw [heq]
   by_cases hgo:(decide (T.kind=2)&&sameStr T.name (cDat p.datas k1.name).name)=true
   ·rw [hgo]
    rw [Bool.and_eq_true,decide_eq_true_eq] at hgo
    have hq2:¬ ((!decide (T.kind=2))=true):=by simp [hgo.1]
    rw [if_neg hq2,hgo.2]
    simp only [Bool.not_true]
    rw [Bj,if_neg (by simp),CC,if_neg (by simp)]
    simp only [TType.eta,Term.eta]
    rw [hcut,AA]
    obtain⟨T2,b2,nd2,g1,g2,g3,g4⟩:=Vg hc htz ihg h9 ho hn hcc (lv:=lv) (lv':=lv') hR hE he1 he2 hd hcl hk hk2 (ij:=((i:Int),(j:Int))) f2 f4 hcas.1 hcas.2 nd (k1::rest) [] [nd] ⟨0,ByteArray.empty,[]⟩ n m rfl rfl (fun h=>absurd rfl h) (fun h=>by cases h) (by simp only [List.length_cons]; omega) (by simp only [List.length_cons]; omega)
    rw [r1] at g2
    have g1':B3 n p t env lv 0 ByteArray.empty [] 1=_:=g1
    have g2':A8 m ⟨p⟩ ⟨t,⟨0,ByteArray.empty,[]⟩,lv',[],[],none⟩ sc (T,true,⟨t,⟨0,ByteArray.empty,[]⟩,lv',[nd],[],none⟩) ((i:Int),(j:Int)) (k1::rest) 0 ByteArray.empty [] [nd] 0=_:=g2
    rw [g1',g2']
    exact⟨_,_,_,rfl,rfl,g3,fun h=>by obtain⟨a1,a2,a3⟩:=g4 h; exact⟨a1,a2,by omega⟩⟩
   ·simp only [Bool.not_eq_true] at hgo
    rw [hgo]
    simp only [Bool.not_false]
    rw [CC,if_pos rfl]
    have hs:(if (!decide (T.kind=2))=true then Bj (n+1) p t env lv true else Bj (n+1) p t env lv (!sameStr T.name (cDat p.datas k1.name).name))=some (⟨0,ByteArray.empty,[]⟩,false):=by
     by_cases hk2:T.kind=2
     ·have:sameStr T.name (cDat p.datas k1.name).name =false:=by simpa [hk2] using hgo
      rw [if_neg (by simp [hk2]),this,Bj]; simp
     ·rw [if_pos (by simp [hk2]),Bj]; simp
    rw [hs]
    exact⟨_,_,_,rfl,rfl,fun h=>by simp at h,fun h=>by cases h⟩
 obtain⟨T2,b2,nd2,g1,g2,g3,g4⟩:=main
 rw [BR,if_neg (qn 1 (by omega)),if_neg (qn 2 (by omega)),if_neg (qn 4 (by omega)),if_neg (qn 6 (by omega)),if_neg (qn 7 (by omega)),if_pos qp,g1,AA,
  BD,if_neg (qn 1 (by omega)),if_neg (qn 2 (by omega)),if_neg (qn 4 (by omega)),if_neg (qn 6 (by omega)),if_neg (qn 7 (by omega)),if_pos qp,g2,AA,AN]
 refine⟨_,_,_,rfl,rfl,g3,fun h=>?_⟩
 obtain⟨a1,a2,a3⟩:=g4 h
 exact⟨by rw [← a1]; exact TType.eta _,a2,a3⟩
theorem dW {p:TProgram} (hc:PCx p):∀t:Term,Pr p t∧∀x ∈ t.kids,Pr p x:=by
 refine Term.ind fun t ih=>⟨?_,fun x hx=>(ih x hx).1⟩
 have ih1:∀x ∈ t.kids,Pr p x:=fun x hx=>(ih x hx).1
 rcases kind_cases t.kind with h|h|h|h|h|h|h|h|h|h|h|⟨h1,h2,h3,h4,h5,h6,h7,h8,h9,h10,h11⟩
 ·exact dO hc h
 ·exact dP h
 ·exact NL hc (Or.inl h) ih1
 ·exact dQ hc h ih1
 ·exact NL hc (Or.inr (Or.inl h)) ih1
 ·exact dR hc h ih1
 ·exact dS hc h ih1
 ·exact NL hc (Or.inr (Or.inr (Or.inl h))) ih1
 ·exact Za hc h ih1 fun x hx=>(ih x hx).2
 ·intro _ h10; exact absurd h h10
 ·exact NL hc (Or.inr (Or.inr (Or.inr h))) ih1
 ·intro _ _ ho; have:=ZS ho; omega
theorem Vw {p:TProgram} (hz:p.sz≤1048576) (h0:Md p=0) {d:Def} (hd:d ∈ p.defs):∃T b nd,BR fuel p d.body ⟨[],[],[]⟩ 0=some (T,b)∧BD fuel ⟨p⟩ d.body [] 0=some (nd,b)∧(b=true→nd.typ=T∧T.okB=true∧T.sz≤100000000):=by
 have hB:=bgE
 unfold Md at h0
 rcases btf (K7 p) with hp|hp
 rotate_left
 ·rw [hp] at h0; simp at h0
 rw [hp,if_pos rfl] at h0
 rcases btf (p.defs.any fun d=>unkB p d) with hu|hu
 ·rw [hu] at h0; simp at h0
 rw [hu,if_neg (by simp)] at h0
 rcases btf (p.defs.any fun d=> !d.body.allT (ccL p.datas)) with hw|hw
 ·rw [hw] at h0; simp at h0
 have hcc:d.body.allT (ccL p.datas)=true:=by have:=List.any_eq_false.1 hw d hd; simpa using this
 have hun:unkB p d=false:=by have:=List.any_eq_false.1 hu d hd; simpa using this
 have hnf:=Vk hun
 have hpd:=G9 hp hd
 have hpc:PCx p:=⟨hz,by unfold K7 at hp; simp only [Bool.and_eq_true] at hp; exact hp.1.1.1,fun d' hd'=>OF (G9 hp hd').1⟩
 have hz':=hz
 unfold TProgram.sz at hz'
 have hds:=Ah (s:=Def.sz) hd
 have hdz:d.sz=d.name.size+(d.typ.sz+(d.body.sz+0)):=rfl
 have hdep:=d.body.dep_le
 obtain⟨T,b,nd,q1,q2,q3,q4⟩:=(dW hpc d.body).1 (by omega) hpd.2.2.2 hpd.2.1 hnf.1 hcc 1048576 ⟨[],[],[]⟩ [] 0 0 fuel fuel ⟨rfl,rfl,rfl⟩ (fun b hb=>by cases hb) (Nat.le_refl _) (by omega) (by simp; omega)
  (gV (fHas p.defs) d.body [] [] hnf.2.2).2 (CY (by omega)) (CY (by omega))
 exact⟨T,b,nd,q1,q2,fun hb=>by obtain⟨a1,a2,a3⟩:=q4 hb; exact⟨a1,a2,by omega⟩⟩
theorem O4 (p:TProgram) (hz:p.sz≤1048576):∃v,GQ p=some v∧GR p=some v:=by
 have hB:=bgE
 unfold GQ Jw GR Gq
 rw [Vl p (by omega),AA,Vm p (by omega),AA]
 by_cases h0:Md p=0
 ·rw [if_neg (by simp [h0]),if_neg (by simp [h0])]
  have hz':=hz
  unfold TProgram.sz at hz'
  have hfl:=AZ Def.sz p.defs
  have key:∀ (post pre:List Def) (bd:List Node) (n m:Nat),p.defs=pre++post→bd.length=pre.length→2*post.length+1≤n→2*post.length+1≤m→∃v bs,CG n p (pre.length:Int)=some v∧BS m p bd (pre.length:Int)=some (bs,v):=by
   intro post
   induction post with
   |nil=>
    intro pre bd n m h1 h2 hn hm
    obtain⟨n,rfl⟩:∃k,n=k+1:=⟨n - 1,by omega⟩
    obtain⟨m,rfl⟩:∃k,m=k+1:=⟨m - 1,by omega⟩
    rw [CG,HC h1,BS,HC h1]
    exact⟨_,_,rfl,rfl⟩
   | cons d post ih=>
    intro pre bd n m h1 h2 hn hm
    rw [List.length_cons] at hn hm
    obtain⟨n,rfl⟩:∃k,n=k+2:=⟨n - 2,by omega⟩
    obtain⟨m,rfl⟩:∃k,m=k+2:=⟨m - 2,by omega⟩
    have hd:=BZ h1
    have hpl:pre.length+1≤p.defs.length:=by rw [h1]; simp
    obtain⟨T,b,nd,q1,q2,q3⟩:=Vw hz h0 hd
    rw [CG,if_pos (Ai h1),BS,if_pos (Ai h1),AW h1]
    simp only [AA]
    rw [q1,q2]
    simp only [AA,Ef,DJ]
    rw [AP h1 (by omega),EW (by simp; omega)]
    simp only [AA]
    cases hb:b with
    |false=>exact⟨8,[],by simp,by simp⟩
    | true=>
     obtain⟨a1,a2,a3⟩:=q3 hb
     rw [if_neg (by simp),if_neg (by simp),JX T (by omega) d.typ fuel (D8 (by omega)),AA,a1,Gn T (by omega) d.typ fuel (D8 (by omega)),AA]
     obtain⟨v,bs,e1,e2⟩:=ih (pre++[d]) (bd++[nd]) n m (by rw [h1]; simp) (by simp [h2]) (by omega) (by omega)
     by_cases hT:T=d.typ
     ·rw [if_neg (by simp [hT]),if_neg (by simp [hT])]
      exact⟨v,bs,e1,e2⟩
     ·rw [if_pos (by simp [hT]),if_pos (by simp [hT])]
      exact⟨_,_,rfl,rfl⟩
  obtain⟨v,bs,e1,e2⟩:=key p.defs [] [] fuel fuel rfl rfl (CY (by omega)) (CY (by omega))
  have e1':CG fuel p 0=_:=e1
  have e2':BS fuel p [] 0=_:=e2
  rw [e1',e2',AA,AA]
  exact⟨v,rfl,rfl⟩
 ·rw [if_pos (by simp [h0]),if_pos (by simp [h0]),AA,AA]
  exact⟨_,rfl,rfl⟩
theorem OC (a0:TProgram) (h0:Gf (TProgram.ds a0)):Dv a0=some true:=by
 unfold Dv
 refine dM (Sr a0 (TProgram.ok_of a0 h0) (1048576) (by omega)) fun z0=>?_
 have b0:a0.sz≤Big:=by unfold Big; omega
 obtain⟨r,hs,hi⟩:=O4 a0 (by omega)
 have ft0:EE a0=some a0:=Ss a0 b0
 have fe0:GA a0 a0=some true:=Qd a0 b0
 simp only [AA,hs,hi,ft0,fe0,BY,beq_self_eq_true,eq_self,decide_true,decide_false,Bool.not_true,Bool.not_false,Bool.false_eq_true,reduceIte]
end Go.Proofs.YtaedfiifhjlmlaaGreat.Ab
