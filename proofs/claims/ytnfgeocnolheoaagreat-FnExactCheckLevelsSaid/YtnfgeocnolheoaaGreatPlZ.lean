/-
  CheckTypes: both sides answer alike. No program is in sight.
-/
import Derived.Test.YtnfgeocnolheoaaGreatPlK
namespace Go.Proofs.YtnfgeocnolheoaaGreat.Ab
set_option linter.unusedVariables false
set_option maxHeartbeats 1000000
set_option linter.unusedSimpArgs false
open Go.RowKit
theorem So {t:Term} (ho:t.okS=true) (h9:t.kind=9) {k0:Term} {L:List Term} (hk:t.kids=k0::L):k0.kind≠10:=by
 have hc:=(LV ho).2.2
 rw [h9,hk,allp,Bool.and_eq_true] at hc
 grind [GC]
theorem d7 {p:TProgram} (hc:PCx p) {t:Term} (h9:t.kind=9) (ih:∀x ∈ t.kids,Pr p x) (ihg:∀x ∈ t.kids,∀y ∈ x.kids,Pr p y):Pr p t:=by
 intro htz h10 ho hn hcc e env sc lv lv' n m hR hE he1 he2 hd hcl hfn hfm
 have hB:Big=4294967296:=rfl
 obtain⟨k0,k1,rest,hk,hk1,hk2,hk3⟩:=PE ho h9
 have hx:k0 ∈ t.kids:=by rw [hk]; simp
 have hx1:k1 ∈ t.kids:=by rw [hk]; simp
 have hsz:=Fh hx
 have hdep:=He hx
 have hkl:2≤t.kids.length:=by rw [hk]; simp
 have hpz:=hc.z
 unfold TProgram.sz at hpz
 have hcon:=OM (I2 (BR hn hx1)) (Or.inr hk1)
 obtain⟨i,j,f1,f2,f3,f4,f5⟩:=KL hcon
 have hdc:=NG hc.d f4
 have hcas:Mg p.datas t.kids=true:=by
  grind [I2,ccL]
 rw [hk,Mg,Bool.and_eq_true,decide_eq_true_eq] at hcas
 obtain⟨n,rfl⟩:∃k,n=k+3:=⟨n - 3,by omega⟩
 obtain⟨m,rfl⟩:∃k,m=k+4:=⟨m - 4,by omega⟩
 obtain⟨T,b,nd,q1,q2,q3,q4⟩:=ih k0 hx (by omega) (So ho h9 hk) (Ei ho hx) (BR hn hx) (BR hcc hx) e env sc lv lv' (n+1) (m+1) hR
  hE he1 (by omega) (by omega)
  (by have:=Hc (pre:=[]) hcl hk; grind [Bk]) (by omega) (by omega)
 have hkd:=OL (p:=p) (a1:=⟨t,⟨0,ByteArray.empty,[]⟩,lv',[],[],none⟩) (sc:=sc) (lv:=lv') (x:=k0) (nd:=nd) (b:=b) (m:=m+1) (by rw [hk]; rfl) q2 (by grind)
 simp only [List.nil_append] at hkd
 have hcut:cutL t.kids 1 (t.kids.length:Int)=some (k1::rest):=by
  rw [hk,cutL,if_pos ⟨by decide,by grind,by simp⟩]; simp
 have qn:∀k:Int,t.kind≠k→¬ (decide (t.kind=k)=true):=fun k h=>by simp [h]
 have qp:decide (t.kind=9)=true:=by grind
 have ek0:at? t.kids 0=some k0:=by rw [hk]; rfl
 have ek1:at? t.kids 1=some k1:=by rw [hk]; rfl
 have main:∃T b nd,H6 (n+2) p t env lv=some (T,b)∧Ec (m+3) ⟨p⟩ ⟨t,⟨0,ByteArray.empty,[]⟩,lv',[],[],none⟩ sc=some (b,nd)∧b4 T∧(b=true→nd.typ=T∧T.okB=true∧T.sz≤e+4*t.sz+4):=by
  rw [H6,ek0,AA,q1,AA,ek1,AA,Jd p.datas (by omega),AA,f1,Ec]
  simp only [TType.eta,Term.eta]
  rw [hkd,AA,D2,ek1,AA,K1 p.datas (by omega),f1]
  simp only [cRes,AA,f2,H7]
  cases hb:b with
  |false=>
   have pb:(!false)=true:=rfl
   rw [if_pos pb,if_pos pb,CO,if_pos rfl,BL,if_pos rfl]
   exact⟨_,_,_,rfl,rfl,fun h=>by grind,fun h=>by cases h⟩
  | true=>
   obtain⟨r1,r2,r3⟩:=q4 hb
   have nb:¬ ((!true)=true):=by simp
   rw [if_neg nb,if_neg nb,r1,H8 T (by omega) _ fuel (EC (by omega)),AA]
   have heq:decide (T=⟨2,(cDat p.datas k1.name).name,[]⟩)=(decide (T.kind=2)&&sameStr T.name (cDat p.datas k1.name).name):=by
    rw [Bool.eq_iff_iff,decide_eq_true_eq,Bool.and_eq_true,decide_eq_true_eq,C2,TType.eq_iff]
    grind [nG]
   rw [heq]
   by_cases hgo:(decide (T.kind=2)&&sameStr T.name (cDat p.datas k1.name).name)=true
   ·rw [hgo]
    rw [Bool.and_eq_true,decide_eq_true_eq] at hgo
    have hq2:¬ ((!decide (T.kind=2))=true):=by grind
    rw [if_neg hq2,hgo.2]
    simp only [Bool.not_true]
    rw [CO,if_neg (by simp),BL,if_neg (by simp)]
    simp only [TType.eta,Term.eta]
    rw [hcut,AA]
    obtain⟨T2,b2,nd2,g1,g2,g3,g4⟩:=YI hc htz ihg h9 ho hn hcc (lv:=lv) (lv':=lv') hR hE he1 he2 hd hcl hk hk2 (ij:=((i:Int),(j:Int))) f2 f4 hcas.1 hcas.2 nd (k1::rest) [] [nd] ⟨0,ByteArray.empty,[]⟩ n m rfl rfl (fun h=>absurd rfl h) (fun h=>by cases h) (by omega) (by omega)
    rw [r1] at g2
    grind
   ·simp only [Bool.not_eq_true] at hgo
    rw [hgo]
    simp only [Bool.not_false]
    rw [BL,if_pos rfl]
    have hs:(if (!decide (T.kind=2))=true then CO (n+1) p t env lv true else CO (n+1) p t env lv (!sameStr T.name (cDat p.datas k1.name).name))=some (⟨0,ByteArray.empty,[]⟩,false):=by
     grind [CO]
    rw [hs]
    exact⟨_,_,_,rfl,rfl,fun h=>by grind,fun h=>by cases h⟩
 obtain⟨T2,b2,nd2,g1,g2,g3,g4⟩:=main
 rw [BQ,if_neg (qn 1 (by omega)),if_neg (qn 2 (by omega)),if_neg (qn 4 (by omega)),if_neg (qn 6 (by omega)),if_neg (qn 7 (by omega)),if_pos qp,g1,AA,
  AM,if_neg (qn 1 (by omega)),if_neg (qn 2 (by omega)),if_neg (qn 4 (by omega)),if_neg (qn 6 (by omega)),if_neg (qn 7 (by omega)),if_pos qp,g2,AA,AN]
 grind [TType.eta]
theorem dn {p:TProgram} (hc:PCx p):∀t:Term,Pr p t∧∀x ∈ t.kids,Pr p x:=by
 refine Term.ind fun t ih=>⟨?_,fun x hx=>(ih x hx).1⟩
 have ih1:∀x ∈ t.kids,Pr p x:=fun x hx=>(ih x hx).1
 rcases kind_cases t.kind with h|h|h|h|h|h|h|h|h|h|h|⟨h1,h2,h3,h4,h5,h6,h7,h8,h9,h10,h11⟩
 ·exact jQ hc h
 ·exact jR h
 ·grind [PB]
 ·grind [jS]
 ·grind [PB]
 ·grind [jT]
 ·grind [jU]
 ·grind [PB]
 ·grind [d7]
 ·intro _ h10; omega
 ·grind [PB]
 ·intro _ _ ho; have:=Wn ho; omega
theorem Sr {p:TProgram} (hz:p.sz≤1048576) (h0:H9 p=0) {d:Def} (hd:d ∈ p.defs):∃T b nd,BQ fuel p d.body ⟨[],[],[]⟩ 0=some (T,b)∧AM fuel ⟨p⟩ d.body [] 0=some (nd,b)∧(b=true→nd.typ=T∧T.okB=true∧T.sz≤100000000):=by
 have hB:Big=4294967296:=rfl
 unfold H9 at h0
 rcases Bool.eq_false_or_eq_true (K2 p) with hp|hp
 rotate_left
 ·rw [hp] at h0; grind
 rw [hp,if_pos rfl] at h0
 rcases Bool.eq_false_or_eq_true (p.defs.any fun d=>unkB p d) with hu|hu
 ·rw [hu] at h0; grind
 rw [hu,if_neg (by simp)] at h0
 rcases Bool.eq_false_or_eq_true (p.defs.any fun d=> !d.body.allT (ccL p.datas)) with hw|hw
 ·rw [hw] at h0; grind
 have hcc:d.body.allT (ccL p.datas)=true:=by grind
 have hun:unkB p d=false:=by grind
 have hnf:=VA hun
 have hpd:=Gl hp hd
 have hpc:PCx p:=⟨hz,by grind [K2],fun d' hd'=>Mf (Gl hp hd').1⟩
 have hz':=hz
 unfold TProgram.sz at hz'
 have hds:=Ac (s:=Def.sz) hd
 have hdz:d.sz=d.name.size+(d.typ.sz+(d.body.sz+0)):=rfl
 have hdep:=d.body.dep_le
 obtain⟨T,b,nd,q1,q2,q3,q4⟩:=(dn hpc d.body).1 (by omega) hpd.2.2.2 hpd.2.1 hnf.1 hcc 1048576 ⟨[],[],[]⟩ [] 0 0 fuel fuel ⟨rfl,rfl,rfl⟩ (fun b hb=>by cases hb) (Nat.le_refl _) (by omega) (by grind)
  (gz (fHas p.defs) d.body [] [] hnf.2.2).2 (A3 (by omega)) (A3 (by omega))
 grind
end Go.Proofs.YtnfgeocnolheoaaGreat.Ab
