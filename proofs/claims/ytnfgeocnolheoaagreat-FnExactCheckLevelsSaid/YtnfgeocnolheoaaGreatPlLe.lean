/-
  Typed nodes: what a node that has a type is made of. No program is in sight.
-/
import Derived.Test.YtnfgeocnolheoaaGreatPlZ
import Derived.Test.YtnfgeocnolheoaaGreatModL
namespace Go.Proofs.YtnfgeocnolheoaaGreat.Ab
set_option linter.unusedVariables false
set_option maxHeartbeats 1000000
set_option linter.unusedSimpArgs false
open Go.RowKit
theorem ZO {α:Type} {a b c:List α} (h:IN a b=some c):c=a++b:=by
 grind [IN]
theorem Sl {s b r:List Binder} (h:DH s b=some r):r=s++b:=by
 grind [DH]
abbrev T0:TType:=⟨0,ByteArray.empty,[]⟩
theorem LX {m:Nat} {y:Typer} {a1:Node} {sc:List Binder} {lv:Int} {r:TType × Bool × Node} (h:B6 m y a1 sc lv=some r):
  ∃k x nd,m=k+1∧at? a1.term.kids (a1.kids.length:Int)=some x∧AM k y x sc lv=some (nd,r.2.1)∧r.1 =nd.typ∧r.2.2 =⟨a1.term,a1.typ,a1.level,a1.kids++[nd],a1.binds,none⟩:=by
 cases m with
 |zero=>rw [B6] at h; cases h
 |succ k=>
  rw [B6] at h
  replace h:=AB h; obtain⟨x,hx,h⟩:=h
  replace h:=AB h; obtain⟨v,hv,h⟩:=h
  replace h:=AB h; grind [ZO]
theorem dd {m:Nat} {y:Typer} {t:Term} {sc:List Binder} {lv:Int} {nd:Node} (h1:t.kind=1) (h:AM m y t sc lv=some (nd,true)):nd.level=lv∧nd.kids=[] ∧nd.binder=findB sc t.name:=by
 cases m with
 |zero=>rw [AM] at h; cases h
 | succ m=>
  rw [AM,if_pos (by grind)] at h
  replace h:=AB h; obtain⟨v,hv,h⟩:=h
  rw [Ex] at hv
  replace hv:=AB hv; obtain⟨b,hb,hv⟩:=hv
  have hb:findB sc t.name=b:=by
   grind [Ha]
  rw [AN] at h
  simp only [Option.some.injEq,Prod.mk.injEq] at h
  obtain⟨rfl,-⟩:=h
  rw [hb]
  cases b with
  |none=>
   rw [TV] at hv
   replace hv:=AB hv; obtain⟨_,_,hv⟩:=hv
   replace hv:=AB hv; grind
  |some b=>
   rw [TV] at hv
   grind
theorem de {m:Nat} {y:Typer} {t:Term} {sc:List Binder} {lv:Int} {nd:Node} (h2:t.kind=2) (h:AM m y t sc lv=some (nd,true)):nd.level=lv∧nd.kids=[] ∧nd.binder=none:=by
 cases m with
 |zero=>rw [AM] at h; cases h
 |succ m=>
  rw [AM,if_neg (by grind),if_pos (by grind)] at h
  replace h:=AB h; grind [AN]
theorem dg {m:Nat} {y:Typer} {t:Term} {sc:List Binder} {lv:Int} {nd:Node} (h4:t.kind=4) (h:AM m y t sc lv=some (nd,true)):
  ∃k x a,m=k+2∧at? t.kids 0=some x∧AM k y x (sc++[⟨t.name,t.typ,lv⟩]) lv=some (a,true)∧nd.level=lv∧nd.kids=[a] ∧nd.binder=none:=by
 cases m with
 |zero=>rw [AM] at h; cases h
 |succ m=>
  rw [AM,if_neg (by grind),if_neg (by grind),if_pos (by grind)] at h
  replace h:=AB h; obtain⟨s,hs,h⟩:=h
  replace h:=AB h; grind [Sl,LX,FX,Ku,AN]
theorem dh {m:Nat} {y:Typer} {t:Term} {sc:List Binder} {lv:Int} {nd:Node} (h6:t.kind=6) (h:AM m y t sc lv=some (nd,true)):
  ∃k x a,m=k+2∧at? t.kids 0=some x∧AM k y x sc (IntKind.i64.wrap (lv+1))=some (a,true)∧nd.level=lv∧nd.kids=[a] ∧nd.binder=none:=by
 cases m with
 |zero=>rw [AM] at h; cases h
 |succ m=>
  rw [AM,if_neg (by grind),if_neg (by grind),if_neg (by grind),if_pos (by grind)] at h
  replace h:=AB h; grind [LX,Jb,AN]
theorem di {m:Nat} {y:Typer} {t:Term} {sc:List Binder} {lv lvl:Int} {a:Node} {T:TType} {v:TType × Bool × Node} {r:Node} {a1:Node} (ha1:a1.term=t) (ha2:a1.typ.kids=[]) (hv:v.2.2 =⟨t,T0,lv,[a],[],none⟩) (h:CP m y a1 sc v T.kind T.name T.kids lvl=some (true,r)):
  ∃k x b,m=k+2∧at? t.kids 1=some x∧AM k y x (sc++[⟨t.name,T,lvl⟩]) lv=some (b,true)∧r.level=lv∧r.kids=[a,b] :=by
 cases m with
 |zero=>rw [CP] at h; cases h
 |succ m=>
  rw [CP,hv,ha1,ha2] at h
  simp only [TType.eta,Term.eta] at h
  replace h:=AB h; obtain⟨s,hs,h⟩:=h
  have hs:=Sl hs
  subst hs
  replace h:=AB h; grind [LX]
theorem dj {m:Nat} {y:Typer} {t:Term} {sc:List Binder} {lv:Int} {nd:Node} (h7:t.kind=7) (h:AM m y t sc lv=some (nd,true)):
  ∃k x z a b T lvl,m=k+6∧at? t.kids 0=some x∧AM (k+3) y x sc lv=some (a,true)∧at? t.kids 1=some z∧((a.typ.kind=4∧at? a.typ.kids 0=some T∧lvl=IntKind.i64.wrap (lv+1))∨(a.typ.kind=1∧T=a.typ∧lvl=lv))∧
   AM k y z (sc++[⟨t.name,T,lvl⟩]) lv=some (b,true)∧nd.level=lv∧nd.kids=[a,b] ∧nd.binder=none:=by
 cases m with
 |zero=>rw [AM] at h; cases h
 | succ m=>
  rw [AM,if_neg (by grind),if_neg (by grind),if_neg (by grind),if_neg (by grind),if_pos (by grind)] at h
  replace h:=AB h; obtain⟨v,hv,h⟩:=h
  rw [AN] at h
  simp only [Option.some.injEq,Prod.mk.injEq] at h
  obtain⟨rfl,h⟩:=h
  cases m with
  |zero=>rw [F9] at hv; cases hv
  | succ m=>
   rw [F9] at hv
   replace hv:=AB hv; obtain⟨w,hw,hv⟩:=hv
   obtain⟨k,x,a,rfl,g1,g2,g3,g4⟩:=LX hw
   rw [Ey] at hv
   have fin:∀b:Bool,(b=false→w.1.kind =1∨w.1.kind =4)→BB k y ⟨t,T0,lv,[],[],none⟩ sc w b=some v→w.2.1 =true→∃k' z b T lvl,k=k'+3∧at? t.kids 1=some z∧((a.typ.kind=4∧at? a.typ.kids 0=some T∧lvl=IntKind.i64.wrap (lv+1))∨(a.typ.kind=1∧T=a.typ∧lvl=lv))∧
     AM k' y z (sc++[⟨t.name,T,lvl⟩]) lv=some (b,true)∧v.2.level =lv∧v.2.kids =[a,b] :=by
    intro b hb hj hw1
    obtain⟨v1,v2⟩:=v
    simp only at h
    subst h
    cases k with
    |zero=>rw [BB] at hj; cases hj
    | succ k=>
     rw [BB] at hj
     cases b with
     |true=>rw [if_pos rfl] at hj; cases hj
     | false=>
      rw [if_neg (by simp)] at hj
      by_cases k4:w.1.kind =4
      ·rw [if_pos (by grind)] at hj
       replace hj:=AB hj; obtain⟨T,hT,hj⟩:=hj
       obtain⟨k',z,b,rfl,q1,q2,q3,q4⟩:=di rfl rfl g4 hj
       rw [g4] at q2
       grind
      ·rw [if_neg (by grind)] at hj
       obtain⟨k',z,b,rfl,q1,q2,q3,q4⟩:=di rfl rfl g4 hj
       rw [g4] at q2
       have k1:w.1.kind =1:=(hb rfl).resolve_right k4
       exact⟨k',z,b,w.1,_,rfl,q1,Or.inr ⟨by rw [← g3]; exact k1,g3,rfl⟩,q2,q3,q4⟩
   have key:w.2.1 =true∧∃b:Bool,(b=false→w.1.kind =1∨w.1.kind =4)∧BB k y ⟨t,T0,lv,[],[],none⟩ sc w b=some v:=by
    obtain⟨v1,v2⟩:=v
    simp only at h
    subst h
    by_cases hk:w.2.1 =true
    ·rw [if_neg (by grind)] at hv
     grind
    ·rw [if_pos (by grind)] at hv
     cases k with
     |zero=>rw [BB] at hv; cases hv
     |succ k=>rw [BB,if_pos rfl] at hv; cases hv
   grind
theorem ae {y:Typer} {a1:Node} {sc:List Binder} {c2 c3 c5 c7 c11:Int} {c4 c6 c8:ByteArray} {nk:List Node} {tys:List TType} {i:Int} {m:Nat} {r:Node} (hi:¬ (decide (i<(a1.term.kids.length:Int))=true))
  (h:Aa m y a1 sc c2 c3 c4 c5 c6 c7 c8 c11 nk tys i=some (true,r)):r.level=c11∧r.kids=nk:=by
 cases m with
 |zero=>rw [Aa] at h; cases h
 | succ m=>
  rw [Aa,if_neg hi] at h
  have j9:∀b,Cf a1 c2 c3 c4 c5 c6 c7 c8 c11 nk tys b=some (true,r)→r.level=c11∧r.kids=nk:=by
   intro b h
   unfold Cf at h
   split at h
   ·cases h
   ·replace h:=AB h; grind [AB]
  split at h
  ·replace h:=AB h; grind [AB]
  ·split at h
   ·replace h:=AB h; obtain⟨_,_,h⟩:=h
    split at h
    ·grind
    ·replace h:=AB h; obtain⟨_,_,h⟩:=h
     replace h:=AB h; obtain⟨_,_,h⟩:=h
     replace h:=AB h; obtain⟨_,_,h⟩:=h
     replace h:=AB h; grind
   ·split at h
    ·replace h:=AB h; obtain⟨_,_,h⟩:=h
     replace h:=AB h; obtain⟨_,_,h⟩:=h
     replace h:=AB h; obtain⟨_,_,h⟩:=h
     replace h:=AB h; obtain⟨_,_,h⟩:=h
     replace h:=AB h; obtain⟨_,_,h⟩:=h
     replace h:=AB h; grind
    ·replace h:=AB h; obtain⟨_,_,h⟩:=h
     replace h:=AB h; obtain⟨_,_,h⟩:=h
     split at h
     ·replace h:=AB h; obtain⟨_,_,h⟩:=h
      replace h:=AB h; obtain⟨_,_,h⟩:=h
      replace h:=AB h; grind
     grind
def Each (R:Nat→Term→Node→Prop) (m:Nat) (c:Nat):List Term→List Node→Prop
 | [],[] =>True
 |x::l,a::l'=>(∃k,m≤k+c∧R k x a)∧Each R m c l l'
 |_,_=>False
theorem Each.mono {R:Nat→Term→Node→Prop} {m m' c c':Nat} (hm:m'+c≤m+c'):∀ {l:List Term} {l':List Node},Each R m c l l'→Each R m' c' l l'
 | [],[],_=>trivial
 |_::_,_::_,⟨⟨k,h1,h2⟩,h⟩=>⟨⟨k,by omega,h2⟩,Each.mono hm h⟩
 | [],_::_,h=>by cases h
 |_::_,[],h=>by cases h
theorem YJ {y:Typer} {t:Term} {sc:List Binder} {lv:Int} {r:Node} (htz:t.kids.length≤Big):
  ∀ (post pre:List Term) (nk:List Node) (tys:List TType) (m:Nat),t.kids=pre++post→nk.length=pre.length→
  Aa m y ⟨t,T0,lv,[],[],none⟩ sc t.kind t.num t.name t.typ.kind t.typ.name 0 ByteArray.empty lv nk tys (pre.length:Int)=some (true,r)→
  r.level=lv∧∃more,r.kids=nk++more∧Each (fun k x a=>AM k y x sc lv=some (a,true)) m (2*post.length) post more:=by
 intro post
 induction post with
 |nil=>
  intro pre nk tys m h1 h2 h
  have:=ae (by grind) h
  exact⟨this.1,[],by rw [this.2,List.append_nil],trivial⟩
 | cons x post ih=>
  intro pre nk tys m h1 h2 h
  cases m with
  |zero=>rw [Aa] at h; cases h
  | succ m=>
   rw [Aa] at h
   simp only [TType.eta,Term.eta] at h
   rw [if_pos (Ah h1)] at h
   replace h:=AB h; obtain⟨w,hw,h⟩:=h
   obtain⟨k,x',a,rfl,g1,g2,g3,g4⟩:=LX hw
   have hx:x'=x:=by
    grind [at?]
   subst hx
   rw [D1] at h
   by_cases hk:w.2.1 =true
   ·rw [if_neg (by grind),g4] at h
    replace h:=AB h; obtain⟨l,hl,h⟩:=h
    rw [AP h1 htz] at h
    obtain⟨q1,more,q2,q3⟩:=ih (pre++[x']) (nk++[a]) l k (by rw [h1]; simp) (by grind) h
    rw [hk] at g2
    exact⟨q1,a::more,by rw [q2]; simp,⟨k,by grind,g2⟩,q3.mono (by grind)⟩
   grind
theorem YK {m:Nat} {y:Typer} {t:Term} {sc:List Binder} {lv:Int} {nd:Node} (hkd:t.kind=3∨t.kind=5∨t.kind=8∨t.kind=11) (htz:t.kids.length≤Big) (h:AM m y t sc lv=some (nd,true)):
  nd.level=lv∧nd.binder=none∧Each (fun k x a=>AM k y x sc lv=some (a,true)) m (2*t.kids.length+2) t.kids nd.kids:=by
 cases m with
 |zero=>rw [AM] at h; cases h
 | succ m=>
  rw [AM,if_neg (by grind),if_neg (by grind),if_neg (by grind),if_neg (by grind),if_neg (by grind),if_neg (by grind)] at h
  replace h:=AB h; obtain⟨v,hv,h⟩:=h
  rw [AN] at h
  simp only [Option.some.injEq,Prod.mk.injEq] at h
  obtain⟨rfl,h⟩:=h
  cases m with
  |zero=>rw [Eb] at hv; cases hv
  |succ m=>
   rw [Eb] at hv
   obtain⟨v1,v2⟩:=v
   simp only at h
   subst h
   obtain⟨q1,more,q2,q3⟩:=YJ htz t.kids [] [] [] m rfl rfl hv
   rw [List.nil_append] at q2
   exact⟨q1,rfl,by show Each _ _ _ t.kids v2.kids; rw [q2]; exact q3.mono (by omega)⟩
def dk (y:Typer) (sc:List Binder) (lv:Int) (d:Data) (k:Nat) (x:Term) (cn:Node):Prop:=
 cn.level=lv∧cn.binder=none∧∃z a c,at? x.kids 0=some z∧c ∈ d.cons∧FY (x,c)=true∧cn.kids=[a] ∧AM k y z (sc++bsOf lv x.names c.fields) lv=some (a,true)
theorem ag {p:TProgram} {t:Term} {sc:List Binder} {lv:Int} {r:Node} {a0:Node} {L:List Term} {ij:Int × Int} {d:Data} {v:TType × Bool × Node} (hv:v.2.2 =⟨t,T0,lv,[a0],[],none⟩) (hd1:at? p.datas ij.1 =some d) (hlen:L.length=d.cons.length) (hzip:(L.zip d.cons).all FY=true) (hL:L.length≤Big) (hnm:∀x ∈ L,x.names.length≤3):
  ∀ (post pre:List Term) (nk:List Node) (P:TType) (m:Nat),L=pre++post→8*post.length+1≤m→
  Az m ⟨p⟩ ⟨t,T0,lv,[],[],none⟩ sc v ij L P.kind P.name P.kids nk (pre.length:Int)=some (true,r)→
  r.level=lv∧∃more,r.kids=nk++more∧Each (dk ⟨p⟩ sc lv d) m (8*post.length) post more:=by
 have hB:Big=4294967296:=rfl
 intro post
 induction post with
 |nil=>
  intro pre nk P m h1 hm h
  obtain⟨m,rfl⟩:∃k,m=k+1:=⟨m - 1,by omega⟩
  rw [Az,if_neg (by rw [Hb h1]; simp),hv] at h
  simp only [Option.some.injEq,Prod.mk.injEq] at h
  obtain⟨-,rfl⟩:=h
  exact⟨rfl,[],by rw [List.append_nil],trivial⟩
 | cons x post ih=>
  intro pre nk P m h1 hm h
  rw [List.length_cons] at hm
  have hxL:x ∈ L:=BE h1
  have hxn:=hnm x hxL
  obtain⟨c,c1,c2,c3⟩:=ZN hzip h1 hlen
  have c3':=c3
  unfold FY at c3'
  simp only [Bool.and_eq_true,decide_eq_true_eq] at c3'
  obtain⟨m,rfl⟩:∃k,m=(x.names.length+(k+1))+1:=⟨m - x.names.length - 2,by omega⟩
  have hcl2:=Qs (p:=p) (a1:=⟨t,T0,lv,[],[],none⟩) (sc:=sc) (k9:=P.kind) (nm9:=P.name) (ks9:=P.kids) (nk9:=nk) (q9:=(pre.length:Int)) (v:=v) (ij:=ij) (L:=L) (x:=x) hd1 c1 x.names c.fields [] [] m [] rfl rfl rfl c3'.2 (by grind) (by omega)
  rw [List.nil_append] at hcl2
  have hcl3:BD (x.names.length+(m+1)) ⟨p⟩ ⟨t,T0,lv,[],[],none⟩ sc P.kind P.name P.kids nk (pre.length:Int) v ij L x [] 0=_:=hcl2
  rw [Az,if_pos (Ah h1),AY h1,AA,hcl3,BD,if_neg (by simp)] at h
  replace h:=AB h; obtain⟨s,hs,h⟩:=h
  have hs:=Sl hs
  subst hs
  replace h:=AB h; obtain⟨w,hw,h⟩:=h
  obtain⟨k,z,a,rfl,g1,g2,g3,g4⟩:=LX hw
  replace h:=AB h; obtain⟨l,hl,h⟩:=h
  have hl:=ZO hl
  rw [hv] at g2 hl g4
  rw [g4] at hl
  simp only [List.nil_append] at hl g4
  have key:w.2.1 =true∧BP (k+1) ⟨p⟩ ⟨t,T0,lv,[],[],none⟩ sc P.kind P.name P.kids (pre.length:Int) (bsOf v.2.2.level x.names c.fields) v ij L x w l false=some (true,r):=by
   have no:∀ {q:Prop},BP (k+1) ⟨p⟩ ⟨t,T0,lv,[],[],none⟩ sc P.kind P.name P.kids (pre.length:Int) (bsOf v.2.2.level x.names c.fields) v ij L x w l true=some (true,r)→q:=fun h=>by
    rw [BP,if_pos rfl] at h; cases h
   by_cases hk:w.2.1 =true
   ·rw [if_neg (by grind)] at h
    refine⟨hk,?_⟩
    split at h
    ·replace h:=AB h; obtain⟨b,-,h⟩:=h
     cases b with
     |true=>exact h
     |false=>exact no h
    omega
   ·rw [if_pos (by grind)] at h
    exact no h
  obtain⟨hk,h⟩:=key
  rw [BP,if_neg (by simp),AP h1 hL] at h
  obtain⟨q1,more,q2,q3⟩:=ih (pre++[x]) l w.1 k (by rw [h1]; simp) (by omega) h
  rw [hk] at g2
  subst hl
  refine⟨q1,_::more,by rw [q2,List.append_assoc]; rfl,⟨k,by grind,rfl,rfl,z,a,c,?_,c2,c3,rfl,?_⟩,q3.mono (by grind)⟩
  ·exact g1
  omega
theorem YL {m:Nat} {p:TProgram} {t:Term} {sc:List Binder} {lv:Int} {nd:Node} {k0 k1:Term} {rest:List Term} {i j:Nat} {d:Data} (h9:t.kind=9) (hk:t.kids=k0::k1::rest) (hf:BZ p.datas k1.name=some ((i:Int),(j:Int))) (hd1:at? p.datas (i:Int)=some d) (hlen:(k1::rest).length =d.cons.length) (hzip:((k1::rest).zip d.cons).all FY=true)
  (hL:rest.length≤3) (hnm:∀x ∈ k1::rest,x.names.length≤3) (hm:64≤m) (h:AM m ⟨p⟩ t sc lv=some (nd,true)):
  nd.level=lv∧nd.binder=none∧∃a0 more k,m=k+3∧nd.kids=a0::more∧AM k ⟨p⟩ k0 sc lv=some (a0,true)∧Each (dk ⟨p⟩ sc lv d) m 64 (k1::rest) more:=by
 have hB:Big=4294967296:=rfl
 obtain⟨m,rfl⟩:∃k,m=k+2:=⟨m - 2,by omega⟩
 rw [AM,if_neg (by grind),if_neg (by grind),if_neg (by grind),if_neg (by grind),if_neg (by grind),if_pos (by grind)] at h
 replace h:=AB h; obtain⟨v,hv,h⟩:=h
 rw [AN] at h
 simp only [Option.some.injEq,Prod.mk.injEq] at h
 obtain⟨rfl,h⟩:=h
 obtain⟨v1,v2⟩:=v
 simp only at h
 subst h
 rw [Ec] at hv
 replace hv:=AB hv; obtain⟨w,hw,hv⟩:=hv
 obtain⟨k,x,a,e,g1,g2,g3,g4⟩:=LX hw
 have hx:x=k0:=by
  grind [at?]
 subst hx
 have ek1:at? t.kids 1=some k1:=by rw [hk]; rfl
 obtain⟨m,rfl⟩:∃k,m=k+2:=⟨m - 2,by omega⟩
 obtain rfl:k=m+1:=by omega
 rw [D2,ek1,AA,hf,AA] at hv
 have key:w.2.1 =true∧BL (m+1) ⟨p⟩ ⟨t,T0,lv,[],[],none⟩ sc w ((i:Int),(j:Int)) false=some (true,v2):=by
  have no:∀ {q:Prop},BL (m+1) ⟨p⟩ ⟨t,T0,lv,[],[],none⟩ sc w ((i:Int),(j:Int)) true=some (true,v2)→q:=fun h=>by
   rw [BL,if_pos rfl] at h; cases h
  by_cases hk:w.2.1 =true
  ·rw [if_neg (by grind)] at hv
   refine⟨hk,?_⟩
   replace hv:=AB hv; obtain⟨_,-,hv⟩:=hv
   replace hv:=AB hv; obtain⟨_,-,hv⟩:=hv
   replace hv:=AB hv; obtain⟨b,-,hv⟩:=hv
   cases b with
   |true=>exact hv
   |false=>exact no hv
  simp_all
 obtain⟨hk1,hv⟩:=key
 rw [BL,if_neg (by simp)] at hv
 replace hv:=AB hv; obtain⟨L,hL',hv⟩:=hv
 have hcut:cutL t.kids 1 (t.kids.length:Int)=some (k1::rest):=by
  rw [hk,cutL,if_pos ⟨by decide,by grind,by simp⟩]; simp
 have hL2:L=k1::rest:=by
  grind
 subst hL2
 rw [g4] at hv
 obtain⟨q1,more,q2,q3⟩:=ag (P:=T0) g4 hd1 hlen hzip (by grind) hnm (k1::rest) [] [a] m rfl (by grind) hv
 rw [hk1] at g2
 exact⟨q1,rfl,a,more,_,rfl,q2,g2,q3.mono (by grind)⟩
def Dt (sc:List Binder):L05Env:=⟨sc.map Binder.name,sc.map Binder.typ,sc.map Binder.level⟩
theorem gL (sc:List Binder):RelE sc (Dt sc):=⟨rfl,rfl,by simp [Dt]⟩
theorem U9 {sc:List Binder} (hl:sc.length+1≤Big) (nm:ByteArray) (T:TType) (lv:Int):F3 (Dt sc) nm T lv=some (Dt (sc++[⟨nm,T,lv⟩])):=by
 unfold F3 Dt
 rw [DC (by grind),AA,DC (by grind),AA,DC (by grind),AA,DC (by grind),AA,DC (by grind),AA,DC (by grind),AA]
 simp
theorem dl {p:TProgram} {x:Term} {lv:Int} {ij:Int × Int} {d:Data} {c:Constructor} (h1:at? p.datas ij.1 =some d) (h2:at? d.cons ij.2 =some c):
  ∀ (post:List ByteArray) (qf:List TType) (pre:List ByteArray) (pf:List TType) (n:Nat) (sc:List Binder),x.names=pre++post→c.fields=pf++qf→pre.length=pf.length→post.length=qf.length→sc.length+post.length≤100000→x.names.length≤100000→post.length+1≤n→
  Cy n p x lv ij (Dt sc).names (Dt sc).types (Dt sc).levels (pre.length:Int)=some (Dt (sc++bsOf lv post qf)):=by
 have hB:Big=4294967296:=rfl
 intro post
 induction post with
 |nil=>
  intro qf pre pf n sc g1 g2 g3 g4 hs hx hn
  obtain⟨n,rfl⟩:∃k,n=k+1:=⟨n - 1,by omega⟩
  rw [Cy,if_neg (by rw [g1]; simp)]
  simp [bsOf]
 | cons y post ih=>
  intro qf pre pf n sc g1 g2 g3 g4 hs hx hn
  cases qf with
  |nil=>grind
  |cons f qf=>
   simp only [List.length_cons] at hs hn g4
   obtain⟨n,rfl⟩:∃k,n=k+1:=⟨n - 1,by omega⟩
   rw [Cy,if_pos (Ah g1),AY g1,AA,h1,AA,h2,AA,g3,AY g2,AA,← g3]
   have hee:(⟨(Dt sc).names,(Dt sc).types,(Dt sc).levels⟩:L05Env)=Dt sc:=rfl
   rw [hee,U9 (by omega),AA,AP g1 (by omega),ih qf (pre++[y]) (pf++[f]) n (sc++[(⟨y,f,lv⟩:Binder)]) (by rw [g1]; simp) (by rw [g2]; simp) (by grind) (by omega) (by grind) hx (by omega),bsOf]
   simp
theorem find_lev (x:ByteArray):∀sc:List Binder,(Id (sc.map Binder.name) x=false∧findB sc x=none)∨(Id (sc.map Binder.name) x=true∧∃b,findB sc x=some b∧at? (sc.map Binder.level) (lidx (fun k=>sameStr k x) (sc.map Binder.name))=some b.level)
 | [] =>by grind [Id,findB]
 |b::sc=>by
  have ih:=find_lev x sc
  simp only [List.map_cons]
  grind [Id,findB,QC,at?]
theorem ah (l:List Node) (f:Node→Option Bool) (p:Node→Bool) (hl:l.length≤Big) (h:∀x ∈ l,f x=some (p x)):Ce l f=some (idx p l):=by
 unfold Ce
 refine Hg (L:=fun n i=>Ax n l i f) l 1 0 _ fuel (fun n pre x post hh _=>?_) (fun n _=>?_) (by rw [Bg]; grind)
 ·simp only [Ax]
  rw [if_pos (Ah hh),AY hh,AA,AP hh hl,h x (BE hh),AA]
 grind [Ax]
theorem UY (l:List Node) (f:Node→Option Bool) (p:Node→Bool) (hl:l.length≤Big) (h:∀x ∈ l,f x=some (p x)):BX l f=some (l.any p):=by
 unfold BX
 rw [ah l f p hl h,AA,J7]
def Ans (p:TProgram) (t:Term) (sc:List Binder) (lv:Int) (nd:Node) (v:Bool):Prop:=
 (∀n,64*t.sz+64≤n→s_l05LevelsFit n p t (Dt sc) lv=some v)∧(∀n,64*t.sz+64≤n→Ad n nd=some v)
theorem Sm {p:TProgram} {t:Term} {sc:List Binder} {lv:Int} {nd:Node} (h:8<lv) (hl:nd.level=lv):Ans p t sc lv nd false:=by
 refine⟨fun n hn=>?_,fun n hn=>?_⟩
 ·obtain⟨n,rfl⟩:∃k,n=k+1:=⟨n - 1,by omega⟩
  rw [s_l05LevelsFit,if_pos (by grind)]
 ·obtain⟨n,rfl⟩:∃k,n=k+2:=⟨n - 2,by omega⟩
  rw [Ad,if_pos (by grind),Bi,if_pos rfl]
theorem Sn {nd:Node} {n:Nat} {g:Node→Bool} {b:Bool} (h8:¬ 8<nd.level) (hb:(match nd.binder with|none=>true|some c=>decide (c.level=nd.level))=b) (hl:nd.kids.length≤Big) (hg:∀a ∈ nd.kids,Ad n a=some (g a)):
  Ad (n+3) nd=some (b&&nd.kids.all g):=by
 have hj:∀o c,Bi (n+2) nd o c=some (!c&&nd.kids.all g):=by
  intro o c
  rw [Bi]
  cases c with
  |true=>rfl
  |false=>
   rw [if_neg (by simp),UY nd.kids (fun y0=>Db (n+1) y0) (fun a=> !g a) hl (fun a ha=>by rw [Db,hg a ha,AA]),AA]
   grind
 rw [Ad,if_neg (by grind)]
 cases hn:nd.binder with
 |none=>rw [TV,hj]; rw [hn] at hb; rw [← hb]; rfl
 |some c=>rw [TV,hj]; rw [hn] at hb; rw [← hb,Bool.not_not]
theorem dm {p:TProgram} {t:Term} {sc:List Binder} {lv:Int} {f:Term→Bool} {K:Nat} (hl:t.kids.length≤Big) (hf:∀x ∈ t.kids,∀n,K≤n→s_l05LevelsFit n p x (Dt sc) lv=some (f x)) {n:Nat} (hn:K+t.kids.length+1≤n):
  Ba n p t (Dt sc) lv 0=some (t.kids.all f):=by
 refine If (L:=fun n i=>Ba n p t (Dt sc) lv i) t.kids 1 K f n (fun n pre x post hh hk=>?_) (fun n hk=>?_) (by omega)
 ·simp only [Ba]
  rw [if_pos (Ah hh),AY hh,AA,hf x (BE hh) n hk,AA,AP hh hl]
  cases f x <;> rfl
 grind [Ba]
theorem PC {R:Nat→Term→Node→Prop} {f:Term→Bool} {g:Node→Bool} {m c:Nat}:∀ {l:List Term} {l':List Node},Each R m c l l'→(∀x ∈ l,∀a ∈ l',∀k,m≤k+c→R k x a→f x=g a)→l.all f=l'.all g
 | [],[],_,_=>rfl
 |x::l,a::l',⟨⟨k,h1,h2⟩,h⟩,hf=>by
  rw [List.all_cons,List.all_cons,hf x (by simp) a (by simp) k h1 h2,PC h fun y hy b hb=>hf y (by grind) b (by grind)]
 | [],_::_,h,_=>by cases h
 |_::_,[],h,_=>by cases h
theorem Rb {R:Nat→Term→Node→Prop} {m c:Nat}:∀ {l:List Term} {l':List Node},Each R m c l l'→l.length=l'.length∧(∀x ∈ l,∃a ∈ l',∃k,m≤k+c∧R k x a)∧(∀a ∈ l',∃x ∈ l,∃k,m≤k+c∧R k x a)
 | [],[],_=>by simp
 |x::l,a::l',⟨⟨k,h1,h2⟩,h⟩=>by
  obtain⟨i1,i2,i3⟩:=Rb h
  grind
 | [],_::_,h=>by cases h
 |_::_,[],h=>by cases h
structure Hy (p:TProgram) (t:Term) (e:Nat) (sc:List Binder) (lv:Int) (m:Nat):Prop where
 z:t.sz≤1048576
 k:t.kind≠10
 o:t.okS=true
 n:t.allT (nfL p.datas)=true
 c:t.allT (ccL p.datas)=true
 E:∀b ∈ sc,b.typ.okB=true∧b.typ.sz≤e
 e1:1048576≤e
 e2:e+4*t.sz+4≤100000000
 d:sc.length+4*t.dep≤1000
 cl:t.clT (fHas p.defs) (sc.map Binder.name)=true
 m:64*t.sz+64≤m
 l0:0≤lv
 l9:lv≤9
def Lv (p:TProgram) (t:Term):Prop:=∀e sc lv m nd,Hy p t e sc lv m→AM m ⟨p⟩ t sc lv=some (nd,true)→∃v,Ans p t sc lv nd v
theorem jV {p:TProgram} (hc:PCx p) {t:Term} {e:Nat} {sc:List Binder} {lv:Int} {m:Nat} {nd:Node} (H:Hy p t e sc lv m) (h:AM m ⟨p⟩ t sc lv=some (nd,true)) (n:Nat) (hn:64*t.sz+64≤n) (lv':Int):
  BQ n p t (Dt sc) lv'=some (nd.typ,true)∧nd.typ.okB=true∧nd.typ.sz≤e+4*t.sz+4:=by
 obtain⟨T,b,nd',q1,q2,q3,q4⟩:=(dn hc t).1 H.z H.k H.o H.n H.c e (Dt sc) sc lv' lv n m (gL sc) H.E H.e1 H.e2 H.d H.cl hn H.m
 rw [h] at q2
 grind
theorem QF {p:TProgram} {t:Term} {e e':Nat} {sc bs:List Binder} {lv lv':Int} {m m':Nat} (H:Hy p t e sc lv m) {pre post:List Term} {x:Term} (hh:t.kids=pre++x::post) (h9:t.kind=9→x.kind≠10) (hbn:bs.map Binder.name=Bk t pre.length) (hbs:∀b ∈ bs,b.typ.okB=true∧b.typ.sz≤e') (hbl:bs.length≤3) (he:e≤e') (he':e'+4*x.sz≤e+4*t.sz) (hm:m≤m'+64) (h0:0≤lv') (h1:lv'≤9):
  Hy p x e' (sc++bs) lv' m':=by
 have hx:=BE hh
 have s1:=Fh hx
 have d1:=He hx
 have hl:1≤t.kids.length:=by rw [hh]; grind
 have hm0:=H.m
 have hz0:=H.z
 have hd0:=H.d
 have he1:=H.e1
 have he2:=H.e2
 refine⟨by omega,?_,Ei H.o hx,BR H.n hx,BR H.c hx,fun b hb=>?_,by omega,by omega,by grind,?_,by omega,h0,h1⟩
 ·by_cases h:t.kind=9
  ·omega
  ·exact Ie H.o h hx
 ·rcases List.mem_append.1 hb with h|h
  ·exact⟨(H.E b h).1,by have:=(H.E b h).2; omega⟩
  grind
 ·have:=Hc H.cl hh
  rw [List.map_append,hbn]; omega
theorem at0 {t:Term} {x y:Term} {l:List Term} (h:t.kids=x::l) (g:at? t.kids 0=some y):x=y:=by
 rw [h] at g; exact Option.some.inj g
theorem jW {p:TProgram} {t:Term} (h1:t.kind=1):Lv p t:=by
 intro e sc lv m nd H h
 have hB:Big=4294967296:=rfl
 obtain⟨g1,g2,g3⟩:=dd h1 h
 by_cases h8:8<lv
 ·simp_all [Sm]
 have hd:=H.d
 refine⟨(match findB sc t.name with|none=>true|some b=>decide (b.level=lv)),fun n hn=>?_,fun n hn=>?_⟩
 ·obtain⟨n,rfl⟩:∃k,n=k+1:=⟨n - 1,by omega⟩
  rw [s_l05LevelsFit,if_neg (by grind),if_pos (by grind),show (Dt sc).names =sc.map Binder.name from rfl,Ra _ _ (by grind),AA]
  have hany:=Jc (fun k=>sameStr k t.name) (sc.map Binder.name)
  rcases find_lev t.name sc with ⟨f1,f2⟩|⟨f1,b,f3,f4⟩
  ·unfold Id at f1
   rw [f1] at hany
   rw [if_pos (by grind),f2]
  grind [Id,Dt]
 ·obtain⟨n,rfl⟩:∃k,n=k+3:=⟨n - 3,by omega⟩
  rw [Sn (g:=fun _=>true) (b:=(match findB sc t.name with|none=>true|some b=>decide (b.level=lv))) (by rw [g1]; exact h8) (by rw [g3,g1] <;> (cases findB sc t.name <;> rfl)) (by rw [g2]; simp) (by rw [g2]; simp),g2]
  simp
theorem jX {p:TProgram} {t:Term} (h2:t.kind=2):Lv p t:=by
 intro e sc lv m nd H h
 obtain⟨g1,g2,g3⟩:=de h2 h
 by_cases h8:8<lv
 ·simp_all [Sm]
 have hk:t.kids=[] :=by
  have:=(Hf H.o).2
  rw [h2] at this
  have h':(t.kids.length:Int)≤0:=this
  simp_all
 refine⟨true,fun n hn=>?_,fun n hn=>?_⟩
 ·obtain⟨n,rfl⟩:∃k,n=k+2:=⟨n - 2,by omega⟩
  rw [s_l05LevelsFit,if_neg (by grind),if_neg (by grind),if_neg (by grind),if_neg (by grind),if_neg (by grind),if_neg (by grind),Ba,if_neg (by grind)]
 ·obtain⟨n,rfl⟩:∃k,n=k+3:=⟨n - 3,by omega⟩
  rw [Sn (g:=fun _=>true) (b:=true) (by rw [g1]; exact h8) (by rw [g3]) (by rw [g2]; simp) (by rw [g2]; simp),g2]
  rfl
theorem ZP {p:TProgram} {t x:Term} {sc sc':List Binder} {lv lv':Int} {nd a:Node} {v:Bool} (hx:x.sz+1≤t.sz) (h8:¬ 8<lv) (g1:nd.level=lv) (g2:nd.kids=[a]) (g3:nd.binder=none) (A:Ans p x sc' lv' a v)
  (hs:∀n,s_l05LevelsFit (n+1) p t (Dt sc) lv=s_l05LevelsFit n p x (Dt sc') lv'):Ans p t sc lv nd v:=by
 refine⟨fun n hn=>?_,fun n hn=>?_⟩
 ·obtain⟨n,rfl⟩:∃k,n=k+1:=⟨n - 1,by omega⟩
  rw [hs]; exact A.1 n (by omega)
 ·obtain⟨n,rfl⟩:∃k,n=k+3:=⟨n - 3,by omega⟩
  rw [Sn (g:=fun _=>v) (b:=true) (by rw [g1]; exact h8) (by rw [g3]) (by rw [g2]; grind) (by rw [g2]; intro b hb; rw [List.mem_singleton.1 hb]; exact A.2 n (by omega)),g2]
  simp
theorem jY {p:TProgram} {t:Term} (h4:t.kind=4) (ih:∀x ∈ t.kids,Lv p x):Lv p t:=by
 intro e sc lv m nd H h
 have hB:Big=4294967296:=rfl
 obtain⟨k,x,a,rfl,q1,q2,g1,g2,g3⟩:=dg h4 h
 by_cases h8:8<lv
 ·simp_all [Sm]
 obtain⟨x',hk⟩:=QE H.o (Or.inl h4)
 obtain rfl:=at0 hk q1
 have hx:x' ∈ t.kids:=by rw [hk]; simp
 have hsz:=Fh hx
 have hdd:=H.d
 have hkl:1≤t.kids.length:=by rw [hk]; simp
 have hty:=Mf (U8 H.o h4)
 have hts:=t.sz_eq
 have hz0:=H.z
 have he1:=H.e1
 obtain⟨v,A⟩:=ih x' hx e (sc++[⟨t.name,t.typ,lv⟩]) lv k a (QF (pre:=[]) (e':=e) H hk (fun h=>by omega) (by simp [Bk,h4]) (fun b hb=>by rw [List.mem_singleton.1 hb]; grind) (by simp) (Nat.le_refl _) (by omega) (by omega) H.l0 H.l9) q2
 refine⟨v,ZP (by omega) h8 g1 g2 g3 A fun n=>?_⟩
 rw [s_l05LevelsFit,if_neg (by grind),if_neg (by grind),if_pos (by grind),q1,AA,U9 (by omega),AA]
 cases s_l05LevelsFit n p x' (Dt (sc++[⟨t.name,t.typ,lv⟩])) lv <;> rfl
theorem jZ {p:TProgram} {t:Term} (h6:t.kind=6) (ih:∀x ∈ t.kids,Lv p x):Lv p t:=by
 intro e sc lv m nd H h
 have hB:Big=4294967296:=rfl
 obtain⟨k,x,a,rfl,q1,q2,g1,g2,g3⟩:=dh h6 h
 by_cases h8:8<lv
 ·simp_all [Sm]
 obtain⟨x',hk⟩:=QE H.o (Or.inr (Or.inl h6))
 obtain rfl:=at0 hk q1
 have hx:x' ∈ t.kids:=by rw [hk]; simp
 have hsz:=Fh hx
 have hkl:1≤t.kids.length:=by rw [hk]; simp
 have hl0:=H.l0
 have hw:IntKind.i64.wrap (lv+1)=lv+1:=w64 (by omega) (by omega)
 rw [hw] at q2
 obtain⟨v,A⟩:=ih x' hx e (sc++[]) (lv+1) k a (QF (pre:=[]) (e':=e) H hk (fun h=>by omega) (by simp [Bk,h6]) (fun b hb=>by cases hb) (by simp) (Nat.le_refl _) (by omega) (by omega) (by omega) (by omega)) (by rw [List.append_nil]; exact q2)
 rw [List.append_nil] at A
 refine⟨v,ZP (by omega) h8 g1 g2 g3 A fun n=>?_⟩
 rw [s_l05LevelsFit,if_neg (by grind),if_neg (by grind),if_neg (by grind),if_pos (by grind),q1,AA,hw]
 cases s_l05LevelsFit n p x' (Dt sc) (lv+1) <;> rfl
theorem ja {p:TProgram} (hc:PCx p) {t:Term} (h7:t.kind=7) (ih:∀x ∈ t.kids,Lv p x):Lv p t:=by
 intro e sc lv m nd H h
 have hB:Big=4294967296:=rfl
 obtain⟨k,x,z,a,b,T,lvl,rfl,q1,q2,q3,q4,q5,g1,g2,g3⟩:=dj h7 h
 by_cases h8:8<lv
 ·simp_all [Sm]
 obtain⟨x',z',hk⟩:=U7 H.o (Or.inr (Or.inr h7))
 obtain rfl:=at0 hk q1
 have hz:z'=z:=by rw [hk] at q3; exact Option.some.inj q3
 subst hz
 have hx:x' ∈ t.kids:=by rw [hk]; simp
 have hy:z' ∈ t.kids:=by rw [hk]; simp
 have hsx:=Fh hx
 have hsy:=Fh hy
 have hkl:2≤t.kids.length:=by rw [hk]; simp
 have hxy:x'.sz+z'.sz+2≤t.sz:=by have:=t.sz_eq; rw [hk] at this; grind [szl]
 have hl0:=H.l0
 have hd0:=H.d
 have hm0:=H.m
 have hz0:=H.z
 have he2:=H.e2
 have hw:IntKind.i64.wrap (lv+1)=lv+1:=w64 (by omega) (by omega)
 have H1:Hy p x' e (sc++[]) lv (k+3):=QF (pre:=[]) (e':=e) H hk (fun h=>by omega) (by simp [Bk,h7]) (fun b hb=>by cases hb) (by simp) (Nat.le_refl _) (by omega) (by omega) H.l0 H.l9
 rw [List.append_nil] at H1
 obtain⟨v1,A1⟩:=ih x' hx e sc lv (k+3) a H1 q2
 have ht:=jV hc H1 q2
 have hT:T.okB=true∧T.sz≤e+4*x'.sz+4∧0≤lvl∧lvl=(if a.typ.kind=4 then lv+1 else lv)∧Ct a.typ=some (T,true):=by
  obtain⟨-,t1,t2⟩:=ht fuel (A3 (by omega)) lv
  unfold Ct
  rcases q4 with ⟨k4,h0,rfl⟩|⟨k1,rfl,rfl⟩
  ·have hTm:T ∈ a.typ.kids:=List.mem_of_getElem? (U2 h0).2
   have hTs:=RZ hTm
   grind [Sh]
  grind
 obtain⟨t1,t2,t3,t4,t5⟩:=hT
 obtain⟨v2,A2⟩:=ih z' hy (e+4*x'.sz+4) (sc++[⟨t.name,T,lvl⟩]) lv k b (QF (pre:=[x']) H hk (fun h=>by omega) (by simp [Bk,h7]) (fun b hb=>by rw [List.mem_singleton.1 hb]; grind) (by simp) (by omega) (by omega) (by omega) H.l0 H.l9) q5
 refine⟨v1&&v2,fun n hn=>?_,fun n hn=>?_⟩
 ·obtain⟨n,rfl⟩:∃k,n=k+2:=⟨n - 2,by omega⟩
  have hj:Cu (n+1) p t (Dt sc) lv (T,true) lvl=some (v1&&v2):=by
   rw [Cu,q1,AA,A1.1 n (by omega),AA]
   cases v1 with
   |false=>rfl
   |true=>
    rw [if_pos rfl,q3,AA,U9 (by omega),AA,A2.1 n (by omega)]
    rfl
  rw [s_l05LevelsFit,if_neg (by grind),if_neg (by grind),if_neg (by grind),if_neg (by grind),if_pos (by grind),q1,AA,(ht fuel (A3 (by omega)) lv).1,AA]
  grind
 ·obtain⟨n,rfl⟩:∃k,n=k+3:=⟨n - 3,by omega⟩
  have ha:=A1.2 n (by omega)
  have hb:=A2.2 n (by omega)
  rw [Sn (g:=fun y=>(Ad n y).getD false) (b:=true) (by rw [g1]; exact h8) (by rw [g3]) (by rw [g2]; grind) (by
   rw [g2]; grind),g2]
  grind
theorem PD {p:TProgram} {t:Term} (hkd:t.kind=3∨t.kind=5∨t.kind=8∨t.kind=11) (ih:∀x ∈ t.kids,Lv p x):Lv p t:=by
 intro e sc lv m nd H h
 have hB:Big=4294967296:=rfl
 have hkl:t.kids.length≤3:=by
  have:=(Hf H.o).2
  have h3:kHi t.kind≤3:=by rcases hkd with h|h|h|h <;> rw [h] <;> decide
  omega
 obtain⟨g1,g3,E⟩:=YK hkd (by omega) h
 by_cases h8:8<lv
 ·simp_all [Sm]
 have hb0:∀i,Bk t i=[] :=fun i=>by
  unfold Bk; rcases hkd with h|h|h|h <;> simp [h]
 obtain⟨E1,E2,E3⟩:=Rb E
 have key:∀x ∈ t.kids,∀a ∈ nd.kids,∀k,m≤k+(2*t.kids.length+2)→AM k ⟨p⟩ x sc lv=some (a,true)→∃v,Ans p x sc lv a v:=fun x hx a ha k hk hn=>by
  obtain⟨pre,post,hh⟩:=List.append_of_mem hx
  have H1:Hy p x e (sc++[]) lv k:=QF (e':=e) H hh (fun h=>by omega) (by rw [hb0]; rfl) (fun b hb=>by cases hb) (by simp) (Nat.le_refl _) (by have:=Fh hx; omega) (by omega) H.l0 H.l9
  rw [List.append_nil] at H1
  exact ih x hx e sc lv k a H1 hn
 have hsz:∀x ∈ t.kids,64*x.sz+64≤64*t.sz:=fun x hx=>by
  have:=Fh hx
  grind
 refine⟨t.kids.all fun x=>(s_l05LevelsFit (64*t.sz) p x (Dt sc) lv).getD false,fun n hn=>?_,fun n hn=>?_⟩
 ·obtain⟨n,rfl⟩:∃k,n=k+1:=⟨n - 1,by omega⟩
  rw [s_l05LevelsFit,if_neg (by grind),if_neg (by grind),if_neg (by grind),if_neg (by grind),if_neg (by grind),if_neg (by grind)]
  refine dm (K:=64*t.sz) (by omega) (fun x hx n hn=>?_) (by omega)
  obtain⟨a,ha,k,hk,hn'⟩:=E2 x hx
  obtain⟨v,A⟩:=key x hx a ha k hk hn'
  rw [A.1 n (by grind),A.1 _ (hsz x hx)]; rfl
 ·obtain⟨n,rfl⟩:∃k,n=k+3:=⟨n - 3,by omega⟩
  rw [Sn (g:=fun y=>(Ad n y).getD false) (b:=true) (by rw [g1]; exact h8) (by rw [g3]) (by omega) (fun a ha=>by
   obtain⟨x,hx,k,hk,hn'⟩:=E3 a ha
   obtain⟨v,A⟩:=key x hx a ha k hk hn'
   rw [A.2 n (by grind)]; rfl),Bool.true_and]
  exact congrArg some (PC E fun x hx a ha k hk hn'=>by
   obtain⟨v,A⟩:=key x hx a ha k hk hn'
   rw [A.1 _ (hsz x hx),A.2 n (by grind)]).symm
theorem dp {p:TProgram} (hc:PCx p) {t:Term} (h9:t.kind=9) (ih:∀x ∈ t.kids,Lv p x) (ihg:∀x ∈ t.kids,∀y ∈ x.kids,Lv p y):Lv p t:=by
 intro e sc lv m nd H h
 have hB:Big=4294967296:=rfl
 obtain⟨k0,k1,rest,hk,hk1,hk2,hk3⟩:=PE H.o h9
 have hx1:k1 ∈ t.kids:=by rw [hk]; simp
 have hpz:=hc.z
 unfold TProgram.sz at hpz
 have hcon:=OM (I2 (BR H.n hx1)) (Or.inr hk1)
 obtain⟨i,j,f1,f2,f3,f4,f5⟩:=KL hcon
 have hdc:=NG hc.d f4
 have hcas:Mg p.datas t.kids=true:=by
  have:=I2 H.c
  grind [ccL]
 rw [hk,Mg,Bool.and_eq_true,decide_eq_true_eq] at hcas
 have hd0:=H.d
 have he1:=H.e1
 have he2:=H.e2
 have hm0:=H.m
 have hz0:=H.z
 have hmemL:∀x ∈ k1::rest,x ∈ t.kids:=fun x hx=>by rw [hk]; grind
 have hnm:∀x ∈ k1::rest,x.names.length≤3:=fun x hx=>by
  have:=(LV (Ei H.o (hmemL x hx))).2.1
  grind [fldB]
 obtain⟨g1,g3,a0,more,k,hm,g2,q2,E⟩:=YL h9 hk (by rw [K1 p.datas (by omega),f1]; rfl) f2 hcas.1 hcas.2 hk3 hnm (by omega) h
 by_cases h8:8<lv
 ·simp_all [Sm]
 have hx0:k0 ∈ t.kids:=by rw [hk]; simp
 have hsz:∀x ∈ t.kids,64*x.sz+64≤64*t.sz:=fun x hx=>by
  have:=Fh hx
  grind
 have hb0:∀i,Bk t i=[] :=fun i=>by grind [Bk]
 have H0:Hy p k0 e (sc++[]) lv k:=QF (pre:=[]) (e':=e) H hk (fun _=>So H.o h9 hk) (by rw [hb0]; rfl) (fun b hb=>by cases hb) (by simp) (Nat.le_refl _) (by grind) (by omega) H.l0 H.l9
 rw [List.append_nil] at H0
 obtain⟨v0,A0⟩:=ih k0 hx0 e sc lv k a0 H0 q2
 have key:∀x ∈ k1::rest,∀cn ∈ more,∀k,m≤k+64→dk ⟨p⟩ sc lv (cDat p.datas k1.name) k x cn→∃v,(∀n,64*t.sz≤n→s_l05LevelsFit n p x (Dt sc) lv=some v)∧(∀n,64*t.sz≤n→Ad n cn=some v):=by
  intro x hx cn hcn k hmk ⟨c1,c2,z,a,c,c3,c4,c5,c6,c7⟩
  have hxt:=hmemL x hx
  have hx10:=hk2 x hx
  have hox:=Ei H.o hxt
  obtain⟨z',hz⟩:=QE hox (Or.inr (Or.inr hx10))
  obtain rfl:=at0 hz c3
  have hzx:z' ∈ x.kids:=by rw [hz]; simp
  have s1:=Fh hxt
  have s2:=Fh hzx
  have d1:=He hxt
  have d2:=He hzx
  have hxn:=hnm x hx
  have hxl:1≤x.kids.length:=by rw [hz]; simp
  have htl:1≤t.kids.length:=List.length_pos_of_mem hxt
  unfold FY at c5
  simp only [Bool.and_eq_true,decide_eq_true_eq] at c5
  have hcn':x.name=c.name:=C2.1 c5.1
  obtain⟨u1,u2⟩:=Wj hc.d f4 c4
  rw [← hcn'] at u1 u2
  obtain⟨i2,j2,w1,w2,w3,w4,w5⟩:=KL u1
  rw [u2] at w3
  have hfs:∀f ∈ c.fields,f.okB=true∧f.sz≤e:=fun f hf=>by
   grind [Sf,Ac,Constructor.sz,Data.sz,cDat]
  have hcase:HK p x (Dt sc) lv=some (Dt (sc++bsOf lv x.names c.fields)):=by
   unfold HK
   rw [Jd p.datas (by omega),AA,w1]
   exact dl (p:=p) (x:=x) (lv:=lv) (ij:=((i2:Int),(j2:Int))) w2 w3 x.names c.fields [] [] fuel sc rfl rfl rfl c5.2 (by omega) (by omega) (A3 (by omega))
  have hbl:=Sj lv x.names c.fields c5.2
  have Hz:Hy p z' e (sc++bsOf lv x.names c.fields) lv k:=by
   obtain⟨pre,post,hh⟩:=List.append_of_mem hxt
   refine⟨by omega,Ie hox (by omega) hzx,Ei hox hzx,BR (BR H.n hxt) hzx,BR (BR H.c hxt) hzx,fun b hb=>?_,he1,by omega,by grind,?_,by omega,H.l0,H.l9⟩
   ·rcases List.mem_append.1 hb with h|h
    ·exact H.E b h
    grind [Sk]
   ·have a1:=Hc H.cl hh
    rw [hb0,List.append_nil] at a1
    have a2:=Hc (pre:=[]) a1 hz
    rw [show Bk x ([] :List Term).length =x.names from by grind [Bk]] at a2
    rw [List.map_append,ON lv x.names c.fields c5.2]; exact a2
  obtain⟨v,A⟩:=ihg x hxt z' hzx e _ lv k a Hz c7
  refine⟨v,fun n hn=>?_,fun n hn=>?_⟩
  ·obtain⟨n,rfl⟩:∃k,n=k+1:=⟨n - 1,by omega⟩
   rw [s_l05LevelsFit,if_neg (by grind),if_neg (by grind),if_neg (by grind),if_neg (by grind),if_neg (by grind),if_pos (by grind),c3,AA,hcase,AA,A.1 n (by omega),AA]
  ·obtain⟨n,rfl⟩:∃k,n=k+3:=⟨n - 3,by omega⟩
   rw [Sn (g:=fun _=>v) (b:=true) (by rw [c1]; exact h8) (by rw [c2]) (by rw [c6]; grind) (by rw [c6]; intro b hb; rw [List.mem_singleton.1 hb]; exact A.2 n (by omega)),c6]
   simp
 obtain⟨E1,E2,E3⟩:=Rb E
 have hkl:t.kids.length≤5:=by rw [hk]; grind
 have hml:more.length≤4:=by rw [← E1]; omega
 have h64:=hsz k0 hx0
 have hall:∀n,64*t.sz≤n→(k1::rest).all (fun x=>(s_l05LevelsFit (64*t.sz) p x (Dt sc) lv).getD false)=more.all (fun y=>(Ad n y).getD false):=fun n hn=>PC E fun x hx a ha k hk hn'=>by
  obtain⟨v,A1,A2⟩:=key x hx a ha k hk hn'
  rw [A1 _ (Nat.le_refl _),A2 n hn]
 refine⟨t.kids.all fun x=>(s_l05LevelsFit (64*t.sz) p x (Dt sc) lv).getD false,fun n hn=>?_,fun n hn=>?_⟩
 ·obtain⟨n,rfl⟩:∃k,n=k+1:=⟨n - 1,by omega⟩
  rw [s_l05LevelsFit,if_neg (by grind),if_neg (by grind),if_neg (by grind),if_neg (by grind),if_neg (by grind),if_neg (by grind)]
  refine dm (K:=64*t.sz) (by omega) (fun x hx n hn=>?_) (by omega)
  rw [hk] at hx
  rcases List.mem_cons.1 hx with rfl|hx
  ·rw [A0.1 n (by omega),A0.1 _ h64]; rfl
  grind
 ·obtain⟨n,rfl⟩:∃k,n=k+3:=⟨n - 3,by omega⟩
  rw [Sn (g:=fun y=>(Ad n y).getD false) (b:=true) (by rw [g1]; exact h8) (by rw [g3]) (by rw [g2]; grind) (by
   rw [g2]; intro a ha
   rcases List.mem_cons.1 ha with rfl|ha
   ·rw [A0.2 n (by omega)]; rfl
   grind),g2,hk,List.all_cons,List.all_cons,hall n (by omega),A0.1 _ h64,A0.2 n (by omega)]
  rfl
theorem jb {p:TProgram} (hc:PCx p):∀t:Term,Lv p t∧∀x ∈ t.kids,Lv p x:=by
 refine Term.ind fun t ih=>⟨?_,fun x hx=>(ih x hx).1⟩
 have ih1:∀x ∈ t.kids,Lv p x:=fun x hx=>(ih x hx).1
 rcases kind_cases t.kind with h|h|h|h|h|h|h|h|h|h|h|⟨h1,h2,h3,h4,h5,h6,h7,h8,h9,h10,h11⟩
 ·exact jW h
 ·exact jX h
 ·grind [PD]
 ·grind [jY]
 ·grind [PD]
 ·grind [jZ]
 ·grind [ja]
 ·grind [PD]
 ·grind [dp]
 ·intro e sc lv m nd H; exact absurd h H.k
 ·grind [PD]
 ·intro e sc lv m nd H; have:=Wn H.o; omega
theorem gM {p:TProgram} (hz:p.sz≤1048576) (h0:H9 p=0) {d:Def} (hd:d ∈ p.defs) {nd:Node} (h:AM fuel ⟨p⟩ d.body [] 0=some (nd,true)):∃v,s_l05LevelsFit fuel p d.body ⟨[],[],[]⟩ 0=some v∧Ad fuel nd=some v:=by
 have hB:Big=4294967296:=rfl
 unfold H9 at h0
 rcases Bool.eq_false_or_eq_true (K2 p) with hp|hp
 rotate_left
 ·rw [hp] at h0; grind
 rw [hp,if_pos rfl] at h0
 rcases Bool.eq_false_or_eq_true (p.defs.any fun d=>unkB p d) with hu|hu
 ·rw [hu] at h0; grind
 rw [hu,if_neg (by simp)] at h0
 rcases Bool.eq_false_or_eq_true (p.defs.any fun d=> !d.body.allT (ccL p.datas)) with hw|hw
 ·rw [hw] at h0; grind
 have hcc:d.body.allT (ccL p.datas)=true:=by grind
 have hun:unkB p d=false:=by grind
 have hnf:=VA hun
 have hpd:=Gl hp hd
 have hpc:PCx p:=⟨hz,by grind [K2],fun d' hd'=>Mf (Gl hp hd').1⟩
 have hz':=hz
 unfold TProgram.sz at hz'
 have hds:=Ac (s:=Def.sz) hd
 have hdz:d.sz=d.name.size+(d.typ.sz+(d.body.sz+0)):=rfl
 have hdep:=d.body.dep_le
 obtain⟨v,A⟩:=(jb hpc d.body).1 1048576 [] 0 fuel nd ⟨by omega,hpd.2.2.2,hpd.2.1,hnf.1,hcc,(fun b hb=>by cases hb),Nat.le_refl _,by omega,by grind,(gz (fHas p.defs) d.body [] [] hnf.2.2).2,A3 (by omega),by omega,by omega⟩ h
 exact⟨v,A.1 fuel (A3 (by omega)),A.2 fuel (A3 (by omega))⟩
theorem Wo (p:TProgram) (hz:p.sz≤1048576):∃v bs,Ja p=some v∧Gg p=some (bs,v)∧(v=0→H9 p=0∧Each (fun _ x a=>AM fuel ⟨p⟩ x [] 0=some (a,true)) 0 0 (p.defs.map Def.body) bs):=by
 have hB:Big=4294967296:=rfl
 unfold Ja Gg
 rw [Sp p (by omega),AA,Sq p (by omega),AA]
 by_cases h0:H9 p=0
 ·rw [if_neg (by grind),if_neg (by grind)]
  have hz':=hz
  unfold TProgram.sz at hz'
  have hfl:=AZ Def.sz p.defs
  have key:∀ (post pre:List Def) (bd:List Node) (n m:Nat),p.defs=pre++post→bd.length=pre.length→2*post.length+1≤n→2*post.length+1≤m→∃v bs,DI n p (pre.length:Int)=some v∧CC m p bd (pre.length:Int)=some (bs,v)∧(v=0→∃more,bs=bd++more∧Each (fun _ x a=>AM fuel ⟨p⟩ x [] 0=some (a,true)) 0 0 (post.map Def.body) more):=by
   intro post
   induction post with
   |nil=>
    intro pre bd n m h1 h2 hn hm
    obtain⟨n,rfl⟩:∃k,n=k+1:=⟨n - 1,by omega⟩
    obtain⟨m,rfl⟩:∃k,m=k+1:=⟨m - 1,by omega⟩
    rw [DI,Hb h1,CC,Hb h1]
    exact⟨_,_,rfl,rfl,fun _=>⟨[],by simp,trivial⟩⟩
   | cons d post ih=>
    intro pre bd n m h1 h2 hn hm
    rw [List.length_cons] at hn hm
    obtain⟨n,rfl⟩:∃k,n=k+2:=⟨n - 2,by omega⟩
    obtain⟨m,rfl⟩:∃k,m=k+2:=⟨m - 2,by omega⟩
    have hd:=BE h1
    have hpl:pre.length+1≤p.defs.length:=by rw [h1]; simp
    obtain⟨T,b,nd,q1,q2,q3⟩:=Sr hz h0 hd
    rw [DI,if_pos (Ah h1),CC,if_pos (Ah h1),AY h1]
    simp only [AA]
    rw [q1,q2]
    simp only [AA,Ff,D3]
    rw [AP h1 (by omega),DC (by grind)]
    simp only [AA]
    cases hb:b with
    |false=>simp_all
    | true=>
     obtain⟨a1,a2,a3⟩:=q3 hb
     rw [hb] at q2
     rw [if_neg (by simp),if_neg (by simp),K0 T (by omega) d.typ fuel (EC (by omega)),AA,a1,H8 T (by omega) d.typ fuel (EC (by omega)),AA]
     obtain⟨v,bs,e1,e2,e3⟩:=ih (pre++[d]) (bd++[nd]) n m (by rw [h1]; simp) (by grind) (by omega) (by omega)
     by_cases hT:T=d.typ
     ·rw [if_neg (by grind),if_neg (by grind)]
      refine⟨v,bs,e1,e2,fun hv=>?_⟩
      obtain⟨more,m1,m2⟩:=e3 hv
      exact⟨nd::more,by rw [m1]; simp,⟨0,by omega,q2⟩,m2⟩
     grind
  obtain⟨v,bs,e1,e2,e3⟩:=key p.defs [] [] fuel fuel rfl rfl (A3 (by omega)) (A3 (by omega))
  grind
 simp_all
theorem QG (p:TProgram) (hz:p.sz≤1048576):∃v,Gf p=some v∧Gi p=some v:=by
 have hB:Big=4294967296:=rfl
 obtain⟨v,bs,h1,h2,h3⟩:=Wo p hz
 unfold Gf J5 Gi Gu
 rw [h1,AA,h2,AA]
 by_cases hv:v=0
 ·obtain⟨h0,E⟩:=h3 hv
  subst hv
  have hz':=hz
  unfold TProgram.sz at hz'
  have hfl:=AZ Def.sz p.defs
  obtain⟨E1,E2,E3⟩:=Rb E
  rw [List.length_map] at E1
  have key:∀d ∈ p.defs,∀a,AM fuel ⟨p⟩ d.body [] 0=some (a,true)→(Ad fuel a).isSome =true∧s_l05LevelsFit fuel p d.body ⟨[],[],[]⟩ 0=Ad fuel a:=fun d hd a ha=>by
   grind [gM]
  have hs:∀d ∈ p.defs,s_l05LevelsFit fuel p d.body ⟨[],[],[]⟩ 0=some ((s_l05LevelsFit fuel p d.body ⟨[],[],[]⟩ 0).getD false):=fun d hd=>by
   grind [List.mem_map_of_mem,Option.isSome_iff_exists]
  have hi:∀a ∈ bs,ES a=some (!((Ad fuel a).getD false)):=fun a ha=>by
   grind [ES]
  have hall:=PC (f:=fun x=>(s_l05LevelsFit fuel p x ⟨[],[],[]⟩ 0).getD false) (g:=fun a=>(Ad fuel a).getD false) E fun x hx a ha k _ hn=>by
   obtain⟨d,hd,rfl⟩:=List.mem_map.1 hx
   rw [(key d hd a hn).2]
  have hsl:∀ (post pre:List Def) (n:Nat),p.defs=pre++post→post.length+1≤n→Cv n p (pre.length:Int)=some (if ((post.map Def.body).all fun x=>(s_l05LevelsFit fuel p x ⟨[],[],[]⟩ 0).getD false)=true then 0 else 9):=by
   intro post
   induction post with
   |nil=>
    intro pre n h1 hn
    obtain⟨n,rfl⟩:∃k,n=k+1:=⟨n - 1,by omega⟩
    rw [Cv,Hb h1]; rfl
   |cons d post ih=>
    intro pre n h1 hn
    rw [List.length_cons] at hn
    obtain⟨n,rfl⟩:∃k,n=k+1:=⟨n - 1,by omega⟩
    have hpl:pre.length+1≤p.defs.length:=by rw [h1]; simp
    rw [Cv,if_pos (Ah h1),AY h1,AA,hs d (BE h1),AA,AP h1 (by omega),List.map_cons,List.all_cons]
    grind
  have hsl0:Cv fuel p 0=_:=hsl p.defs [] fuel rfl (A3 (by omega))
  rw [if_neg (by simp),hsl0,hall]
  grind [UY,DB,List.not_all_eq_any_not]
 grind [DB]
end Go.Proofs.YtnfgeocnolheoaaGreat.Ab
