/-
  The abstract walk as a set of rules for 'simp only [go_sem]': heads that wait, their congruences, one rule an operation.
-/
import Derived.Test.YteckcjgpnegkjaaGreatDoorAbS
namespace Go.Proofs.YteckcjgpnegkjaaGreatDoor.Ab
set_option linter.unusedVariables false
set_option maxHeartbeats 1000000
open Go.RowKit
section
variable {P:Program}
theorem D4 {z}:∀ {vs} {σ} {K K'},(∀ds σ,K ds σ→K' ds σ)→BL z vs σ K→BL z vs σ K'
 | [],σ,K,K',hk,h=>by rw [BL] at h ⊢; grind
 | .int k n::vs,σ,K,K',hk,h=>by rw [BL] at h ⊢; exact D4 (fun ds σ=>hk _ σ) h
 | .bool b::vs,σ,K,K',hk,h=>by rw [BL] at h ⊢; exact D4 (fun ds σ=>hk _ σ) h
 | .str b::vs,σ,K,K',hk,h=>by rw [BL] at h ⊢; exact D4 (fun ds σ=>hk _ σ) h
 | .nils ::vs,σ,K,K',hk,h=>by rw [BL] at h ⊢; exact D4 (fun ds σ=>hk _ σ) h
 | .nilp ::vs,σ,K,K',hk,h=>by rw [BL] at h ⊢; exact D4 (fun ds σ=>hk _ σ) h
 | .ro _::vs,σ,K,K',hk,h=>by rw [BL] at h ⊢; exact⟨h.1,D4 (fun ds σ=>hk _ σ) h.2⟩
 | .rop _ _::vs,σ,K,K',hk,h=>by rw [BL] at h ⊢; obtain⟨h1,d,h2,h3⟩:=h; exact⟨h1,d,h2,D4 (fun ds σ=>hk _ σ) h3⟩
 | .bsl _ _ _::vs,σ,K,K',hk,h=>by
  rw [BL] at h ⊢
  split at h
  ·rename_i h0
   rw [if_pos h0]
   exact D4 (fun ds σ=>hk _ σ) h
  ·rename_i h0
   rw [if_neg h0]
   obtain⟨h1,h2,vs',h3,ds,h4,h5,h6⟩:=h
   exact⟨h1,h2,vs',h3,ds,h4,h5,D4 (fun ds σ=>hk _ σ) h6⟩
 | .own t::vs,σ,K,K',hk,h=>by rw [BL] at h ⊢; obtain⟨tk,h1,h2,h3⟩:=h; exact⟨tk,h1,h2,D4 (fun ds σ=>hk _ σ) h3⟩
 | .sub _ _ _::vs,σ,K,K',hk,h=>by grind [BL]
 | .els _ _ _ _ _ _::vs,σ,K,K',hk,h=>by grind [BL]
 | .any ::vs,σ,K,K',hk,h=>by grind [BL]
 | .box _ _::vs,σ,K,K',hk,h=>by grind [BL]
 | .elt _ _ _ _::vs,σ,K,K',hk,h=>by grind [BL]
 | .par _ _ _ _::vs,σ,K,K',hk,h=>by grind [BL]
 | .agg _::vs,σ,K,K',hk,h=>by grind [BL]
 | .tup _::vs,σ,K,K',hk,h=>by grind [BL]
 | .fn _ _::vs,σ,K,K',hk,h=>by grind [BL]
 | .mpr _::vs,σ,K,K',hk,h=>by grind [BL]
 | .mpc _ _::vs,σ,K,K',hk,h=>by grind [BL]
theorem Wj {t} {a x} {σ} {K K'} (hk:∀σ,K σ→K' σ) (h:Mr P t a x σ K):Mr P t a x σ K':=by
 unfold Mr at h ⊢
 split at h
 ·obtain⟨h1,h2,h3,h4⟩:=h
  refine⟨h1,h2,h3,?_⟩
  split at h4
  ·grind
  ·grind [D4]
  ·grind [D4]
  omega
 omega
theorem Y1 {z} {e} {sz} {x} {σ} {K K'} (hk:∀r σ,K r σ→K' r σ) (h:QH z e sz x σ K):QH z e sz x σ K':=by
 unfold QH at h ⊢
 split at h
 ·grind
 ·split at h
  ·grind
  ·rename_i h0
   rw [if_neg h0]
   obtain⟨h0,h1,h2,vs',h3,ds,h4,h5,h6⟩:=h
   exact⟨h0,h1,h2,vs',h3,ds,h4,h5,hk _ _ h6⟩
 ·grind
 omega
theorem Y2 {z} {sz} {x} {σ} {K K'} (hk:∀r σ,K r σ→K' r σ) (h:MO z sz x σ K):MO z sz x σ K':=by
 unfold MO at h ⊢
 split at h
 ·grind
 ·grind [D4]
 ·grind
 ·grind
 omega
theorem Y3 {pos} {t} {x y} {σ} {K K'} (hk:∀v σ,K v σ→K' v σ) (h:WI P pos t x y σ K):WI P pos t x y σ K':=by
 unfold WI at h ⊢
 split at h
 ·grind [Y1,Y2]
 omega
theorem Sg {t} {m i x} {σ} {K K'} (hk:∀σ,K σ→K' σ) (h:TA P t m i x σ K):TA P t m i x σ K':=by
 unfold TA at h ⊢
 grind
theorem aw {pos} {o} {σ} {K K'} (hk:∀σ,K σ→K' σ) (h:aop P pos o σ K):aop P pos o σ K':=by
 unfold aop at h ⊢
 split at h
 ·grind
 ·grind
 ·grind [Wj]
 ·grind [Sg]
 ·grind [Sg]
 ·grind [Y3]
 grind
theorem IQ {K K'} (hk:∀σ,K σ→K' σ):∀ {cv} {σ},Bu cv σ K→Bu cv σ K'
 | [],σ,h=>by rw [Bu] at h ⊢; grind
 | (n,a,z)::cv,σ,h=>by
  cases a with
  |sub t g p=>
   rw [Bu] at h ⊢
   obtain⟨h1,h2,h3,tk,rows,h4,h5,h6,h7,h8⟩:=h
   exact⟨h1,h2,h3,tk,rows,h4,h5,h6,h7,IQ hk h8⟩
  |nils=>rw [Bu] at h ⊢; exact⟨h.1,IQ hk h.2⟩
  |bsl b m sz=>rw [Bu] at h ⊢; exact⟨h.1,h.2.1,IQ hk h.2.2⟩
  |_=>simp [Bu] at h
theorem KI:∀ {cv} {σ} {K K'},(∀σ,K σ→K' σ)→BM cv σ K→BM cv σ K'
 | [],σ,K,K',hk,h=>by rw [BM] at h ⊢; grind
 | (n,a,z)::cv,σ,K,K',hk,h=>by
  cases a with
  | sub t g p=>
   rw [BM] at h ⊢
   refine KI (fun σ h=>?_) h
   cases hn:σ.T n with
   |none=>simp only [hn] at h ⊢; exact hk _ h
   |some tn=>
    simp only [hn] at h ⊢
    obtain⟨tk,h1,h2,h3,h4⟩:=h
    exact⟨tk,h1,h2,h3,hk _ h4⟩
  |_=>
   rw [BM] at h ⊢
   ·exact KI (fun σ h=>hk _ h) h
   all_goals (intros; simp_all)
theorem Wl {f} {args} {σ} {K K'} (hk:∀v σ,K v σ→K' v σ) (h:SF P f args σ K):SF P f args σ K':=by
 obtain⟨y,as,pt,pb,r,qt,qb,h1,h2⟩:=h
 exact⟨y,as,pt,pb,r,qt,qb,h1,IQ (fun σ h=>⟨h.1,h.2.1,h.2.2.1,h.2.2.2.1,h.2.2.2.2.1,h.2.2.2.2.2.1,h.2.2.2.2.2.2.1,h.2.2.2.2.2.2.2.1,KI (fun σ h=>hk _ _ h) h.2.2.2.2.2.2.2.2⟩) h2⟩
theorem Q0 {K K'} (hk:∀a σ,K a σ→K' a σ):∀ {bs} {args} {σ},FzK bs args σ K→FzK bs args σ K'
 | [],args,σ,h=>hk _ _ h
 |b::bs,args,σ,h=>by
  obtain⟨vs,h1,h2,h3⟩:=h
  exact⟨vs,h1,h2,Q0 hk h3⟩
theorem Wm {f} {args} {σ} {K K'} (hk:∀v σ,K v σ→K' v σ) (h:Xg P f args σ K):Xg P f args σ K':=by
 obtain⟨bs,h⟩:=h
 exact⟨bs,Q0 (fun _ _ h=>Wl hk h) h⟩
theorem Si {L} {pos} {o} {σ} {K K'} (hk:∀σ,K σ→K' σ) (h:QM P L pos o σ K):QM P L pos o σ K':=by
 rcases h with ⟨hA,h⟩|⟨hL,h⟩|⟨hL,hA,r,h1,h2,h3,h4⟩
 ·exact .inl ⟨hA,aw hk h⟩
 ·refine .inr (.inl ⟨hL,?_⟩)
  rcases h with h|h
  ·refine .inl ?_
   unfold Kw at h ⊢
   split at h
   ·grind [Wm]
   omega
  ·refine .inr ?_
   unfold SliK at h ⊢
   split at h
   ·split at h
    ·grind
    omega
   omega
 ·exact .inr (.inr ⟨hL,hA,r,h1,h2,h3,hk _ h4⟩)
theorem Gl {ops} {base cut} {K K'} (hk:∀σ,K σ→K' σ):∀ {l} {i} {σ},aops P ops base cut i l σ K→aops P ops base cut i l σ K'
 | [],i,σ,h=>by rw [aops] at h ⊢; grind
 | o::rest,i,σ,h=>by
  rw [aops] at h ⊢
  split at h
  ·exact Si (fun σ h=>Gl hk h) h
  ·obtain⟨s,h1,h⟩:=h
   refine⟨s,h1,?_⟩
   rcases h with ⟨b,h2,h3,h4⟩|⟨h2,h3⟩
   ·exact .inl ⟨b,h2,fun hb=>Si (fun σ h=>Gl hk h) (h3 hb),fun hb=>Gl hk (h4 hb)⟩
   ·exact .inr ⟨h2,Gl hk h3⟩
theorem Y4 {p} {K K'} (hk:∀σ,K σ→K' σ) {σ} (h:seqW p K σ):seqW p K' σ:=by
 unfold seqW at h ⊢
 grind
theorem Nt {P} {ops} {base} {ts}:∀ (tr:Tr) {σ} {K K'},(∀σ,K σ→K' σ)→aTr P ops base ts tr σ K→aTr P ops base ts tr σ K'
 | .fin,σ,K,K',hk,h=>hk σ h
 | .stop,σ,K,K',hk,h=>trivial
 | .fz t,σ,K,K',hk,h=>by
  simp only [aTr] at h ⊢
  obtain⟨σ1,hn,h⟩:=h
  exact⟨σ1,hn,Nt t hk h⟩
 | .br i t more,σ,K,K',hk,h=>by
  simp only [aTr] at h ⊢
  refine⟨?_,Nt more hk h.2⟩
  have h1:=h.1
  split at h1
  ·exact Gl (fun σ' h=>Nt t hk h) h1
  ·exact h1.elim
theorem Q1 {P} {ops} {base} {r} {i} {o} {acc} {σ} {K K'} (hk:∀acc σ,K acc σ→K' acc σ) (h:Kx P ops base r i o acc σ K):Kx P ops base r i o acc σ K':=by
 unfold Kx at h ⊢
 cases r with
 |no=>grind [Gl]
 |al=>
  grind
 |st k=>
  grind
theorem KJ {P} {ops} {base} {V}:∀ (l:List Oper) {E} {i} {ts} {acc} {σ} {K K'},(∀ts acc σ,K ts acc σ→K' ts acc σ)→Ec P ops base V E i l ts acc σ K→Ec P ops base V E i l ts acc σ K'
 | [],E,i,ts,acc,σ,K,K',hk,h=>by grind [Ec]
 |o::l,[],i,ts,acc,σ,K,K',hk,h=>by simp only [Ec] at h ⊢; exact Q1 (fun acc σ' h=>KJ l hk h) h
 |o::l,true::E,i,ts,acc,σ,K,K',hk,h=>by simp only [Ec] at h ⊢; exact KJ l hk h
 |o::l,false::E,i,ts,acc,σ,K,K',hk,h=>by simp only [Ec] at h ⊢; exact Q1 (fun acc σ' h=>KJ l hk h) h
theorem Y5 {P} {ops} {base} {draw} {σ} {K K'} (hk:∀σ,K σ→K' σ) (h:YX P ops base draw σ K):YX P ops base draw σ K':=by
 unfold YX at h ⊢
 cases draw with
 |false=>exact Gl hk h
 |true=>
  rcases h with ⟨E,V,tr,hE,h⟩|⟨F,ds,h1,h2,h3,h4⟩
  ·exact .inl ⟨E,V,tr,hE,KJ _ (fun ts acc σ h=>⟨h.1,Nt tr hk h.2⟩) h⟩
  ·exact .inr ⟨F,ds,h1,h2,h3,hk _ h4⟩
theorem IR:∀ {c} {Q Q'} {σ},(∀q σ,Q q σ→Q' q σ)→awp P c Q σ→awp P c Q' σ
 | .skip,Q,Q',σ,hq,h=>by rw [awp] at h ⊢; grind
 | .region id ops draw,Q,Q',σ,hq,h=>by rw [awp] at h ⊢; grind [Y5]
 | .seq a b,Q,Q',σ,hq,h=>by
  rw [awp] at h ⊢
  refine IR (fun q σ h=>?_) h
  cases q with
  |normal=>
   have h':seqW (Fx a) (awp P b Q) σ:=h
   exact Y4 (K:=awp P b Q) (K':=awp P b Q') (fun σ h=>IR hq h) h'
  |exit id=>exact hq _ _ h
  |ret=>exact hq _ _ h
 | .cond c a b,Q,Q',σ,hq,h=>by
  rw [awp] at h ⊢
  obtain⟨v,h1,h2,h3⟩:=h
  exact⟨v,h1,fun e=>IR hq (h2 e),fun e=>IR hq (h3 e)⟩
 | .block id b,Q,Q',σ,hq,h=>by
  rw [awp] at h ⊢
  refine IR (fun q σ h=>?_) h
  cases q with
  |normal=>exact hq _ _ h
  |exit i=>
   grind [AE.inBlock]
  |ret=>exact hq _ _ h
 | .loop b,Q,Q',σ,hq,h=>by
  rw [awp] at h ⊢
  intro L hL
  refine h L fun σ hσ=>hL σ (IR (fun q σ h=>?_) hσ)
  cases q with
  |normal=>exact h
  |exit id=>exact hq _ _ h
  |ret=>exact hq _ _ h
 | .exit id,Q,Q',σ,hq,h=>by rw [awp] at h ⊢; grind
 | .ret,Q,Q',σ,hq,h=>by rw [awp] at h ⊢; grind
 | .rangeFunc _ _ _ _,Q,Q',σ,hq,h=>by simp [awp] at h
 | .goto _,Q,Q',σ,hq,h=>by simp [awp] at h
 | .label _,Q,Q',σ,hq,h=>by simp [awp] at h
theorem Ux {b} {Q} {σ} (h:awp P b (AE.then (fun σ'=>∃σ1,Wk σ' σ1∧awp P (.loop b) Q σ1) Q) σ):awp P (.loop b) Q σ:=by
 rw [awp]
 intro L hL
 refine⟨σ,.nil σ,hL σ (IR (fun q σ h=>?_) h)⟩
 cases q with
 |normal=>
  obtain⟨σ1,h1,h2⟩:=h
  rw [awp] at h2
  obtain⟨σ0,h3,h4⟩:=h2 L hL
  exact⟨σ0,h1.trans h3,h4⟩
 |exit id=>exact h
 |ret=>exact h
end
def Am {α:Type} (v:α) (K:α→Prop):Prop:=K v
def optX {α:Type} (o:Option α) (K:α→Prop):Prop:=∃x,o=some x∧K x
def AP (p q:Prop):Prop:=p∧q
def LE (b:Bool) (p q:Prop):Prop:=(b=true∧p)∨(b=false∧q)
def Q2 (b:Bool) (p q:Prop):Prop:=(b=true→p)∧(b=false→q)
structure Wrap {α:Sort _} (a:α):Type where
def kU {α:Type} (v:α) (K:α→Prop) (_:Wrap K):Prop:=K v
def Y6 {α:Type} (o:Option α) (K:α→Prop) (_:Wrap K):Prop:=∃x,o=some x∧K x
def Uy (p q:Prop) (_:Wrap q):Prop:=p∧q
def Sj (b:Bool) (p q:Prop) (_:Wrap p) (_:Wrap q):Prop:=(b=true→p)∧(b=false→q)
def ax (b:Bool) (p q:Prop) (_:Wrap p) (_:Wrap q):Prop:=LE b p q
@[go_sem ↓] theorem nF {α:Type} {v:α} {K:α→Prop}:Am v K=kU v K ⟨⟩:=rfl
@[go_sem ↓] theorem nG {α:Type} {o:Option α} {K:α→Prop}:optX o K=Y6 o K ⟨⟩:=rfl
@[go_sem ↓] theorem nH {p q:Prop}:AP p q=Uy p q ⟨⟩:=rfl
@[go_sem ↓] theorem kV {b} {p q:Prop}:Q2 b p q=Sj b p q ⟨⟩ ⟨⟩:=rfl
@[go_sem ↓] theorem nI {b} {p q:Prop}:LE b p q=ax b p q ⟨⟩ ⟨⟩:=rfl
@[go_sem] theorem nJ {α:Type} {v:α} {K:α→Prop} {w:Wrap K}:kU v K w=K v:=propext Iff.rfl
@[go_sem] theorem jI {α:Type} {x:α} {K:α→Prop} {w:Wrap K}:Y6 (some x) K w=K x:=by simp [Y6]
@[go_sem] theorem jJ {α:Type} {K:α→Prop} {w:Wrap K}:Y6 none K w=False:=by simp [Y6]
@[go_sem] theorem jK {q:Prop} {w}:Uy True q w=q:=by simp [Uy]
@[go_sem] theorem gc {q:Prop} {w}:Uy False q w=False:=by simp [Uy]
@[go_sem] theorem pS {p:Prop} {w}:Uy p True w=p:=by simp [Uy]
@[go_sem] theorem gd {p q:Prop} {w} {w'}:Sj true p q w w'=p:=by simp [Sj]
@[go_sem] theorem fw {p q:Prop} {w} {w'}:Sj false p q w w'=q:=by simp [Sj]
@[go_sem] theorem jL {p q:Prop} {w} {w'}:ax true p q w w'=p:=by simp [LE,ax]
@[go_sem] theorem gf {p q:Prop} {w} {w'}:ax false p q w w'=q:=by simp [LE,ax]
theorem Gm {α:Type} {x:α} {K:α→Prop}:optX (some x) K=K x:=by simp [optX]
theorem Sk {α:Type} {K:α→Prop}:optX none K=False:=by simp [optX]
theorem Al {p q:Prop} {w} (hp:p) (hq:q):Uy p q w:=⟨hp,hq⟩
theorem Ac {α:Type} {o:Option α} {x:α} {K:α→Prop} {w:Wrap K} (h:o=some x) (hk:K x):Y6 o K w:=⟨x,h,hk⟩
@[go_sem] theorem jM:isMp [] =false:=rfl
@[go_sem] theorem jN {a}:isMp [a] =a.mp?:=rfl
@[go_sem] theorem jO {a b} {l}:isMp (a::b::l)=false:=rfl
@[go_sem] theorem jP:OX [] =true:=rfl
@[go_sem] theorem gh {a} {l}:OX (a::l)=(!a.mp?&&OX l):=rfl
attribute [go_sem] AV.mp?
@[go_sem] theorem gi {α:Type} {j:Nat} {x:α} {l:List (Nat × α)} {i:Nat}:look ((j,x)::l) i=if i=j then some x else look l i:=rfl
@[go_sem] theorem kW {α:Type} {i}:look ([] :List (Nat × α)) i=none:=rfl
@[go_sem] theorem St.T_mk {s t b} {i}:St.T ⟨s,t,b⟩ i=(look t i).join :=rfl
@[go_sem] theorem St.B_mk {s t b} {i}:St.B ⟨s,t,b⟩ i=(look b i).join :=rfl
@[go_sem] theorem St.g_mk {s t b} {i}:St.g ⟨s,t,b⟩ i=(look s i).getD .any :=rfl
@[go_sem] theorem St.t_mk {s t b}:St.t ⟨s,t,b⟩=t:=rfl
@[go_sem] theorem St.b_mk {s t b}:St.b ⟨s,t,b⟩=b:=rfl
@[go_sem] theorem St.s_mk {s t b}:St.s ⟨s,t,b⟩=s:=rfl
@[go_sem] theorem St.e_tmp {σ:St} {t:Tmp}:σ.e (.tmp t)=σ.g t:=rfl
@[go_sem] theorem St.e_func {σ:St} {f:FuncId}:σ.e (.func f)= .fn f [] :=rfl
@[go_sem] theorem St.e_const {σ:St} {v:Value}:σ.e (.const v)=BS v:=rfl
@[go_sem] theorem nK {k} {n}:BS (.int k n)= .int k n:=rfl
@[go_sem] theorem kX {b}:BS (.bool b)= .bool b:=rfl
@[go_sem] theorem nL {s}:BS (.string s)= .str s:=rfl
@[go_sem] theorem kY:BS (.slice none 0 0)= .nils :=rfl
@[go_sem] theorem kZ:BS (.pointer none)= .nilp :=rfl
@[go_sem] theorem nM {cs}:BS (.agg cs.toArray)= .agg (G5 cs):=by rfl
@[go_sem] theorem kc:G5 [] =[] :=rfl
@[go_sem] theorem jQ {v} {vs}:G5 (v::vs)=BS v::G5 vs:=rfl
@[go_sem] theorem ke {s t b} {d} {v}:St.put ⟨s,t,b⟩ (some d) v=⟨(d,v)::s,t,b⟩:=rfl
@[go_sem] theorem kf {σ} {v}:St.put σ none v=σ:=rfl
@[go_sem] theorem kh {s t b} {i}:St.killT ⟨s,t,b⟩ i=⟨s,(i,none)::t,b⟩:=rfl
@[go_sem] theorem nO {s t b} {i} {tk}:St.setT ⟨s,t,b⟩ i tk=⟨s,(i,some tk)::t,b⟩:=rfl
@[go_sem] theorem nP {s t b} {i} {vs}:St.setB ⟨s,t,b⟩ i vs=⟨s,t,(i,some vs)::b⟩:=rfl
attribute [go_sem] Option.join_some Option.join_none Option.getD_some Option.getD_none reduceIte eq_self and_self true_and and_true
attribute [go_sem] List.getElem?_cons_zero List.getElem?_cons_succ List.length_cons List.length_nil List.take_succ_cons List.take_zero List.take_nil List.drop_succ_cons List.drop_zero List.map_cons List.map_nil List.set_cons_zero List.set_cons_succ List.cons_append List.nil_append Option.some.injEq reduceCtorEq TI.isAgg TI.sc AV.one splice List.all_cons List.all_nil Bool.and_self Bool.true_and Bool.and_true
def I2 (P:Program) (ops:Array Oper) (base cut i:Nat) (l:List Oper) (σ:St) (K:St→Prop) (_:Wrap ops) (_:Wrap l) (_:Wrap K) (_:Wrap cut):Prop:=aops P ops base cut i l σ K
@[go_sem ↓] theorem nQ {P} {ops} {base cut i} {l} {K} {σ}:aops P ops base cut i l σ K=I2 P ops base cut i l σ K ⟨⟩ ⟨⟩ ⟨⟩ ⟨⟩:=rfl
section
variable {P:Program} {σ:St} {K:St→Prop} {Q:AE→St→Prop}
@[go_sem ↓] theorem pT:awp P .skip Q σ=Q .normal σ:=by rw [awp]
@[go_sem ↓] theorem kj {id} {l}:awp P (.region id l.toArray false) Q σ=aops P l.toArray (id*1000+1000) 0 0 l σ (Q .normal):=by rw [awp]; rfl
def ay (P:Program) (id:Nat) (l:List Oper) (Q:AE→St→Prop) (σ:St) (_:Wrap l) (_:Wrap Q) (_:Wrap σ):Prop:=YX P l.toArray (id*1000+1000) true σ (Q .normal)
@[go_sem ↓] theorem pU {id} {l}:awp P (.region id l.toArray true) Q σ=ay P id l Q σ ⟨⟩ ⟨⟩ ⟨⟩:=by rw [awp]; rfl
theorem az {id} {l} {w1} {w2} {w3} (E:List Bool) (V:List (Nat × Nat)) (tr:Tr) (h:KA E V tr l.toArray=true) (k:Ec P l.toArray (id*1000+1000) V E 0 l [] [] σ fun ts acc σ'=>WL acc σ' fun σ'=>aTr P l.toArray (id*1000+1000) ts tr σ' (Q .normal)):ay P id l Q σ w1 w2 w3:=.inl ⟨E,V,tr,h,k⟩
theorem Aa {id} {l} {w1} {w2} {w3} (E:List Bool) (tr:Tr) (h:KA E [] tr l.toArray=true) (k:Ec P l.toArray (id*1000+1000) [] E 0 l [] [] σ fun ts acc σ'=>WL acc σ' fun σ'=>aTr P l.toArray (id*1000+1000) ts tr σ' (Q .normal)):ay P id l Q σ w1 w2 w3:=.inl ⟨E,[],tr,h,k⟩
def dQ (s:List (Nat × AV)) (t:Nat) (v:AV):Prop:=v= .any ∨look s t=some v
@[go_sem] theorem nR {s}:leS s [] =True:=rfl
@[go_sem] theorem kl {s t v r}:leS s ((t,v)::r)=(dQ s t v∧leS s r):=rfl
@[go_sem] theorem nT {s:List (Nat × AV)} {t:Nat} {b:Bool} {v:AV}:dQ s t (if b=true then v else .any)=(b=true→dQ s t v):=propext (by cases b <;> simp [dQ])
def leO1 {α:Type} (s:List (Nat × Option α)) (t:Nat) (v:Option α):Prop:=v=none∨look s t=some v
@[go_sem] theorem nU {α:Type} {s:List (Nat × Option α)}:leO s [] =True:=rfl
@[go_sem] theorem km {α:Type} {s:List (Nat × Option α)} {t v r}:leO s ((t,v)::r)=(leO1 s t v∧leO s r):=rfl
@[go_sem] theorem gj {α:Type} {s:List (Nat × α)}:HR s [] =True:=rfl
@[go_sem] theorem fx {α:Type} {s:List (Nat × α)} {t v r}:HR s ((t,v)::r)=((look s t).isSome =true∧HR s r):=rfl
@[go_sem] theorem St.Le_mk {s t b s' t' b'}:St.Le ⟨s,t,b⟩ ⟨s',t',b'⟩=(leS s s'∧(leO t t'∧HR t' t)∧leO b b'∧HR b' b):=rfl
@[go_sem] theorem kn {S}:aF S [] =True:=rfl
@[go_sem] theorem jR {S j r}:aF S (j::r)=(S j=true∧aF S r):=rfl
def optK {α:Type} (b:Bool) (p:Nat × α) (r:List (Nat × α)):List (Nat × α):=if b=true then p::r else r
@[go_sem] theorem pV {α:Type} {p:Nat × α} {r}:optK true p r=p::r:=rfl
@[go_sem] theorem pW {α:Type} {p:Nat × α} {r}:optK false p r=r:=rfl
@[go_sem] theorem jS {α:Type} {b:Bool} {t:Nat} {v:α} {r} {x:Nat}:look (optK b (t,v) r) x=if x=t then (if b=true then some v else look r x) else look r x:=by
 grind [optK,AL]
@[go_sem] theorem ko {α:Type} {s:List (Nat × Option α)} {b:Bool} {t:Nat} {v:Option α} {r}:leO s (optK b (t,v) r)=((b=true→leO1 s t v)∧leO s r):=by
 cases b <;> simp [optK,leO,leO1]
@[go_sem] theorem fy {α:Type} {s:List (Nat × α)} {b:Bool} {t:Nat} {v:α} {r}:HR s (optK b (t,v) r)=((b=true→(look s t).isSome =true)∧HR s r):=by
 cases b <;> simp [optK,HR]
def dR (acc:List (Nat × List AV)) (σ:St) (K:St→Prop) (_:Wrap σ) (_:Wrap K):Prop:=WL acc σ K
@[go_sem ↓] theorem nV {acc} {σ} {K}:WL acc σ K=dR acc σ K ⟨⟩ ⟨⟩:=rfl
@[go_sem] theorem kq {σ} {K} {w1 w2}:dR [] σ K w1 w2=K σ:=by
 simp [dR,WL,Dn,addB]
theorem f6 {acc} {s} {t} {b} {K} {w1 w2} (h:Dn ⟨s,t,b⟩ acc) (k:K ⟨s,t,addB b acc⟩):dR acc ⟨s,t,b⟩ K w1 w2:=⟨h,k⟩
attribute [go_sem] addB
def HT (P:Program) (ops:Array Oper) (base:Nat) (V:List (Nat × Nat)) (E:List Bool) (i:Nat) (l:List Oper) (ts:List (Nat × Oper)) (acc:List (Nat × List AV)) (σ:St) (K:List (Nat × Oper)→List (Nat × List AV)→St→Prop) (_:Wrap ops) (_:Wrap l) (_:Wrap ts) (_:Wrap K) (_:Wrap V) (_:Wrap acc):Prop:=Ec P ops base V E i l ts acc σ K
def Wn (P:Program) (ops:Array Oper) (base:Nat) (r:VR) (i:Nat) (o:Oper) (acc:List (Nat × List AV)) (σ:St) (K:List (Nat × List AV)→St→Prop):Prop:=Kx P ops base r i o acc σ K
def TQ (P:Program) (ops:Array Oper) (base:Nat) (r:VR) (i:Nat) (o:Oper) (acc:List (Nat × List AV)) (σ:St) (K:List (Nat × List AV)→St→Prop) (_:Wrap ops) (_:Wrap o) (_:Wrap acc) (_:Wrap σ) (_:Wrap K):Prop:=Kx P ops base r i o acc σ K
section
variable {ops:Array Oper} {base i:Nat} {V:List (Nat × Nat)} {E:List Bool} {ts:List (Nat × Oper)} {acc:List (Nat × List AV)} {H:List (Nat × Oper)→List (Nat × List AV)→St→Prop} {o:Oper} {l:List Oper} {w1:Wrap ops} {w3:Wrap ts} {w4:Wrap H} {w5:Wrap V} {w6:Wrap acc}
@[go_sem ↓] theorem kr:Ec P ops base V E i l ts acc σ H=HT P ops base V E i l ts acc σ H ⟨⟩ ⟨⟩ ⟨⟩ ⟨⟩ ⟨⟩ ⟨⟩:=rfl
@[go_sem] theorem qY {w2}:HT P ops base V E i [] ts acc σ H w1 w2 w3 w4 w5 w6=H ts acc σ:=by rfl
@[go_sem] theorem pX {w2}:HT P ops base V (true::E) i (o::l) ts acc σ H w1 w2 w3 w4 w5 w6=Ec P ops base V E (i+1) l ((i,o)::ts) acc σ H:=rfl
@[go_sem] theorem nW {w2}:HT P ops base V (false::E) i (o::l) ts acc σ H w1 w2 w3 w4 w5 w6=Wn P ops base (B9 V i) i o acc σ fun acc' σ'=>Ec P ops base V E (i+1) l ts acc' σ' H:=rfl
@[go_sem] theorem qZ {w2}:HT P ops base V [] i (o::l) ts acc σ H w1 w2 w3 w4 w5 w6=Wn P ops base (B9 V i) i o acc σ fun acc' σ'=>Ec P ops base V [] (i+1) l ts acc' σ' H:=rfl
@[go_sem] theorem gm {x} {xs b} {w2}:HT P ops base V E i (List.append (x::xs) b) ts acc σ H w1 w2 w3 w4 w5 w6=HT P ops base V E i (x::List.append xs b) ts acc σ H w1 ⟨⟩ w3 w4 w5 w6:=rfl
@[go_sem] theorem jT {b} {w2}:HT P ops base V E i (List.append [] b) ts acc σ H w1 w2 w3 w4 w5 w6=HT P ops base V E i b ts acc σ H w1 ⟨⟩ w3 w4 w5 w6:=rfl
@[go_sem] theorem jU {a b c} {w2}:HT P ops base V E i (List.append (List.append a b) c) ts acc σ H w1 w2 w3 w4 w5 w6=HT P ops base V E i (List.append a (List.append b c)) ts acc σ H w1 ⟨⟩ w3 w4 w5 w6:=by
 unfold HT; rw [show List.append (List.append a b) c=List.append a (List.append b c) from List.append_assoc a b c]
@[go_sem ↓] theorem ku {r} {K}:Wn P ops base r i o acc σ K=TQ P ops base r i o acc σ K ⟨⟩ ⟨⟩ ⟨⟩ ⟨⟩ ⟨⟩:=rfl
attribute [go_sem] B9
@[go_sem] theorem kw {K} {w1 w2 w3 w4 w5}:TQ P ops base .no i o acc σ K w1 w2 w3 w4 w5=aops P ops base (i+1) i [o] σ (K acc):=rfl
@[go_sem] theorem kx {K} {dst} {t ty} {ps} {af} {w1 w2 w3 w4 w5}:TQ P ops base .al i ⟨dst,.alloc t,ty,ps,af,none⟩ acc σ K w1 w2 w3 w4 w5=AP (0<(tz P t).length ∧(tz P t).length =tsz P t∧isMp ((tz P t).map zAV)=false) (K acc (σ.put dst (.box (base+i) 0))):=rfl
def stV (P:Program) (base k:Nat) (t:TypeId) (x a:AV) (dst:Option Tmp) (acc:List (Nat × List AV)) (σ:St) (K:List (Nat × List AV)→St→Prop):Prop:=match cellsOf x with
 |some cs=>(cs.length=tsz P t∧0<tsz P t∧cs.all AV.one=true)∧a= .box (base+k) 0∧K ((base+k,cs)::acc) (σ.put dst .any)
 |none=>False
@[go_sem] theorem ky {K} {k} {dst} {t ty} {a x} {ps} {af} {w1 w2 w3 w4 w5}:TQ P ops base (.st k) i ⟨dst,.store t a x,ty,ps,af,none⟩ acc σ K w1 w2 w3 w4 w5=Am (σ.e x) fun x=>Am (σ.e a) fun a=>stV P base k t x a dst acc σ K:=rfl
def go (P:Program) (base k:Nat) (t:TypeId) (x a:AV) (dst:Option Tmp) (acc:List (Nat × List AV)) (σ:St) (K:List (Nat × List AV)→St→Prop) (_:Wrap x) (_:Wrap a) (_:Wrap acc) (_:Wrap σ) (_:Wrap K):Prop:=stV P base k t x a dst acc σ K
@[go_sem ↓] theorem pY {k} {t} {x a} {dst} {K}:stV P base k t x a dst acc σ K=go P base k t x a dst acc σ K ⟨⟩ ⟨⟩ ⟨⟩ ⟨⟩ ⟨⟩:=rfl
theorem X1 {k} {t} {x a} {dst} {K} {w1 w2 w3 w4 w5} (cs:List AV) (h1:cellsOf x=some cs) (h2:cs.length=tsz P t∧0<tsz P t∧cs.all AV.one=true) (h3:a= .box (base+k) 0) (h:K ((base+k,cs)::acc) (σ.put dst .any)):go P base k t x a dst acc σ K w1 w2 w3 w4 w5:=by
 grind [go,stV]
def trX (o:Option Oper) (f:Oper→Prop):Prop:=match o with
 |some o=>f o
 |none=>False
def trY (o:Option Oper) (f:Oper→Prop) (_:Wrap f):Prop:=trX o f
@[go_sem ↓] theorem pZ {x} {f}:trX x f=trY x f ⟨⟩:=rfl
@[go_sem] theorem kz {f} {w}:trY (some o) f w=f o:=rfl
def gp (p q:Prop):Prop:=p∧q
def lA (p q:Prop) (_:Wrap p) (_:Wrap q):Prop:=p∧q
@[go_sem ↓] theorem nX {p q:Prop}:gp p q=lA p q ⟨⟩ ⟨⟩:=rfl
theorem BZ {p q:Prop} {w} {w'} (hp:p) (hq:q):lA p q w w':=⟨hp,hq⟩
def Ro (P:Program) (ops:Array Oper) (base:Nat) (ts:List (Nat × Oper)) (tr:Tr) (σ:St) (K:St→Prop) (_:Wrap ops) (_:Wrap ts) (_:Wrap K):Prop:=aTr P ops base ts tr σ K
@[go_sem ↓] theorem pc {tr}:aTr P ops base ts tr σ K=Ro P ops base ts tr σ K ⟨⟩ ⟨⟩ ⟨⟩:=rfl
@[go_sem] theorem pd {w3} {w4}:Ro P ops base ts .fin σ K w1 w3 w4=K σ:=rfl
@[go_sem] theorem pe {t} {w3} {w4}:Ro P ops base ts (.br i t .stop) σ K w1 w3 w4=trX (look ts i) fun o=>aops P ops base 0 i [o] σ fun σ'=>aTr P ops base ts t σ' K:=by
 grind [Ro,trX,aTr]
@[go_sem] theorem pf {t u m} {j} {w3} {w4}:Ro P ops base ts (.br i t (.br j u m)) σ K w1 w3 w4=gp (aTr P ops base ts (.br i t .stop) σ K) (aTr P ops base ts (.br j u m) σ K):=by
 grind [Ro,gp,aTr]
@[go_sem] theorem pg {t} {w3} {w4}:Ro P ops base ts (Tr.sq [] t) σ K w1 w3 w4=Ro P ops base ts t σ K w1 w3 w4:=rfl
@[go_sem] theorem qa {t} {is} {w3} {w4}:Ro P ops base ts (Tr.sq (i::is) t) σ K w1 w3 w4=Ro P ops base ts (.br i (Tr.sq is t) .stop) σ K w1 w3 w4:=rfl
end
def Uz (p:Bool) (K:St→Prop) (σ:St):Prop:=seqW p K σ
def U0 (p:Bool) (K:St→Prop) (σ:St) (_:Wrap K) (_:Wrap σ):Prop:=seqW p K σ
@[go_sem ↓] theorem nY {p}:Uz p K σ=U0 p K σ ⟨⟩ ⟨⟩:=rfl
@[go_sem] theorem jV {w1} {w2}:U0 true K σ w1 w2=K σ:=rfl
theorem FY {w1} {w2} (h:K σ):U0 false K σ w1 w2:=⟨σ,.nil σ,h⟩
theorem Wo {w1} {w2} {σ1} (hn:Nils σ σ1) (h:K σ1):U0 false K σ w1 w2:=⟨σ1,.fz hn (.nil σ1),h⟩
theorem a6 {w1} {w2} {σ1} (h:K σ1) (hw:Wk σ σ1):U0 false K σ w1 w2:=⟨σ1,hw,h⟩
@[go_sem] theorem dS {id:Nat} {l:List Oper}:Fx (.region id l.toArray false)=l.all fun o=>o.guard.isNone&&gQ o.op:=rfl
attribute [go_sem] gQ Bool.and_true Bool.true_and Bool.and_false Bool.false_and
@[go_sem] theorem gq {id:Nat} {l:List Oper}:Fx (.region id l.toArray true)=false:=rfl
@[go_sem] theorem gr:Fx .skip =false:=rfl
@[go_sem] theorem jW {a b}:Fx (.seq a b)=false:=rfl
@[go_sem] theorem gu {c} {a b}:Fx (.cond c a b)=false:=rfl
@[go_sem] theorem f7 {id} {a}:Fx (.block id a)=false:=rfl
@[go_sem] theorem gv {a}:Fx (.loop a)=false:=rfl
@[go_sem] theorem gw {id}:Fx (.exit id)=false:=rfl
@[go_sem] theorem jX:Fx .ret =false:=rfl
attribute [go_sem] Option.isNone_none Option.isNone_some List.all_cons List.all_nil
@[go_sem ↓] theorem qc {a b}:awp P (.seq a b) Q σ=awp P a (AE.then (Uz (Fx a) (awp P b Q)) Q) σ:=by rw [awp]; rfl
@[go_sem ↓] theorem ph {c} {a b}:awp P (.cond c a b) Q σ=Am (σ.e c) fun v=>Xh v (awp P a Q σ) (awp P b Q σ):=by rw [awp]; rfl
@[go_sem ↓] theorem nZ {id} {c}:awp P (.block id c) Q σ=awp P c (AE.inBlock id Q) σ:=by rw [awp]
@[go_sem ↓] theorem pi {id}:awp P (.exit id) Q σ=Q (.exit id) σ:=by rw [awp]
@[go_sem ↓] theorem qd:awp P .ret Q σ=Q .ret σ:=by rw [awp]
@[go_sem] theorem Wp {b} {p q:Prop}:Xh (.bool b) p q=Q2 b p q:=by simp [Xh,Q2]
@[go_sem ↓] theorem f9 {n}:AE.then n Q .normal σ=n σ:=rfl
@[go_sem ↓] theorem jY {n} {id}:AE.then n Q (.exit id) σ=Q (.exit id) σ:=rfl
@[go_sem ↓] theorem lC {n}:AE.then n Q .ret σ=Q .ret σ:=rfl
@[go_sem ↓] theorem dT {id}:AE.inBlock id Q .normal σ=Q .normal σ:=rfl
@[go_sem ↓] theorem jZ {id}:AE.inBlock id Q .ret σ=Q .ret σ:=rfl
def U1 (P:Program) (b:Code) (Q:AE→St→Prop) (σ:St) (_:Wrap b) (_:Wrap Q):Prop:=awp P (.loop b) Q σ
def lpX (P:Program) (b:Code) (Q:AE→St→Prop) (σ:St):Prop:=∃σ1,Wk σ σ1∧awp P (.loop b) Q σ1
def lpY (P:Program) (b:Code) (Q:AE→St→Prop) (σ:St) (_:Wrap b) (_:Wrap Q) (_:Wrap σ):Prop:=∃σ1,Wk σ σ1∧awp P (.loop b) Q σ1
@[go_sem ↓] theorem pj {b}:lpX P b Q σ=lpY P b Q σ ⟨⟩ ⟨⟩ ⟨⟩:=rfl
theorem PU {b} {w1} {w2} {w3} {σ1} (h:awp P (.loop b) Q σ1) (hw:Wk σ σ1):lpY P b Q σ w1 w2 w3:=⟨σ1,hw,h⟩
theorem AZ {b} {w1} {w2} (h:awp P b (AE.then (lpX P b Q) Q) σ):U1 P b Q σ w1 w2:=Ux h
@[go_sem ↓] theorem ja {b}:awp P (.loop b) Q σ=U1 P b Q σ ⟨⟩ ⟨⟩:=rfl
@[go_sem ↓] theorem gy {id i}:AE.inBlock id Q (.exit i) σ=LE (decide (i=id)) (Q .normal σ) (Q (.exit i) σ):=by
 simp only [AE.inBlock,LE]
 by_cases h:i=id <;> simp [h]
attribute [go_sem] decide_true decide_false
def opX (P:Program) (pos:Nat) (dst:Option Tmp) (op:Op) (σ:St) (K:St→Prop):Prop:=aop P pos ⟨dst,op,0, "",#[],none⟩ σ K
def opL (P:Program) (L:Bool) (pos:Nat) (dst:Option Tmp) (op:Op) (σ:St) (K:St→Prop) (_:Wrap L):Prop:=QM P L pos ⟨dst,op,0, "",#[],none⟩ σ K
@[go_sem] theorem qe {ops} {base cut i} {w1} {w2} {w3} {w4}:I2 P ops base cut i [] σ K w1 w2 w3 w4=K σ:=by rw [I2,aops]
@[go_sem] theorem pm {ops} {base cut i} {dst} {op} {type} {ps} {after} {rest} {w1} {w2} {w3} {w4}:
  I2 P ops base cut i (⟨dst,op,type,ps,after,none⟩::rest) σ K w1 w2 w3 w4=opL P (decide (cut≤i)) (base+i) dst op σ (fun σ'=>aops P ops base cut (i+1) rest σ' K) ⟨⟩:=by
 rw [I2,aops]; rfl
def Jd (ops:Array Oper) (j:Nat) (K:Tmp→Prop):Prop:=optX (Hd ops j) K
@[go_sem ↓] theorem Wq {dst} {op} {type} {ps} {after} {g} {rest} {K}:Jd (List.toArray (⟨some dst,op,type,ps,after,g⟩::rest)) 0 K=K dst:=by
 simp [Jd,Hd,optX]
@[go_sem ↓] theorem Wr {o} {rest} {j} {K}:Jd (List.toArray (o::rest)) (j+1) K=Jd rest.toArray j K:=by
 simp [Jd,Hd]
def NC (v:AV) (want:Bool) (p q q':Prop):Prop:=(∃b,v= .bool b∧(b=want→p)∧(b= !want→q))∨(v= .tup [] ∧q')
@[go_sem ↓] theorem U2 {b} {p q q':Prop}:NC (.bool b) true p q q'=Q2 b p q:=by simp [NC,Q2]
@[go_sem ↓] theorem TR {b} {p q q':Prop}:NC (.bool b) false p q q'=Q2 b q p:=by
 grind [NC,Q2]
@[go_sem ↓] theorem Y7 {want} {p q q':Prop}:NC (.tup []) want p q q'=q':=by simp [NC]
@[go_sem] theorem na {ops} {base cut i} {dst} {op} {type} {ps} {after} {j} {want} {rest} {w1} {w2} {w3} {w4}:
  I2 P ops base cut i (⟨dst,op,type,ps,after,some (j,want)⟩::rest) σ K w1 w2 w3 w4=Jd ops j fun s=>Am (σ.g s) fun v=>NC v want
   (opL P (decide (cut≤i)) (base+i) dst op (σ.put (some s) (.bool want)) (fun σ'=>aops P ops base cut (i+1) rest σ' K) ⟨⟩)
   (aops P ops base cut (i+1) rest ((σ.put (some s) (.bool (!want))).put dst (.tup [])) K)
   (aops P ops base cut (i+1) rest (σ.put dst (.tup [])) K):=by
 rw [I2,aops]
 rfl
section
variable {L:Bool} {pos:Nat} {dst:Option Tmp} {wL:Wrap L}
theorem Cb {op} (h:∀ (σ:St) (K:St→Prop),Kw P ⟨dst,op,0, "",#[],none⟩ σ K=False) (hA:QL ⟨dst,op,0, "",#[],none⟩=false:=by rfl) (hS:SliK P pos ⟨dst,op,0, "",#[],none⟩ σ K=False:=by rfl):opL P L pos dst op σ K wL=opX P pos dst op σ K:=by
 grind [opL,QM,opX]
@[go_sem ↓] theorem lD {x}:opL P L pos dst (.move x) σ K wL=opX P pos dst (.move x) σ K:=Cb fun _ _=>rfl
@[go_sem ↓] theorem gz {x}:opL P L pos dst (.assign x) σ K wL=opX P pos dst (.assign x) σ K:=Cb fun _ _=>rfl
@[go_sem ↓] theorem lE {a b c}:opL P L pos dst (.pick c a b) σ K wL=opX P pos dst (.pick c a b) σ K:=Cb fun _ _=>rfl
@[go_sem ↓] theorem lF {t} {a}:opL P L pos dst (.load t a) σ K wL=opX P pos dst (.load t a) σ K:=Cb fun _ _=>rfl
@[go_sem ↓] theorem dU {x}:opL P L pos dst (.nilCheck x) σ K wL=opX P pos dst (.nilCheck x) σ K:=Cb fun _ _=>rfl
@[go_sem ↓] theorem nc {op} {t t'} {x y}:opL P L pos dst (.binOp op t x y t') σ K wL=opX P pos dst (.binOp op t x y t') σ K:=Cb fun _ _=>rfl
@[go_sem ↓] theorem po {op} {t} {x}:opL P L pos dst (.unOp op t x) σ K wL=opX P pos dst (.unOp op t x) σ K:=Cb fun _ _=>rfl
@[go_sem ↓] theorem gA {s d} {x}:opL P L pos dst (.convert s d x) σ K wL=opX P pos dst (.convert s d x) σ K:=Cb fun _ _=>rfl
@[go_sem ↓] theorem c9 {s} {x} {f}:opL P L pos dst (.fieldAddr s x f) σ K wL=opX P pos dst (.fieldAddr s x f) σ K:=Cb fun _ _=>rfl
@[go_sem ↓] theorem jb {s} {x} {f}:opL P L pos dst (.field s x f) σ K wL=opX P pos dst (.field s x f) σ K:=Cb fun _ _=>rfl
@[go_sem ↓] theorem dA {t} {x i}:opL P L pos dst (.indexAddr t x i) σ K wL=opX P pos dst (.indexAddr t x i) σ K:=Cb fun _ _=>rfl
@[go_sem ↓] theorem jc {t} {x i}:opL P L pos dst (.index t x i) σ K wL=opX P pos dst (.index t x i) σ K:=Cb fun _ _=>rfl
def Ws (P:Program) (L:Bool) (pos:Nat) (dst:Option Tmp) (op:Op) (v:AV) (σ:St) (K:St→Prop):Prop:=opX P pos dst op σ K∨(L=true∧(match v with| .own _=>True|_=>False)∧SliK P pos ⟨dst,op,0, "",#[],none⟩ σ K)
def Wt (P:Program) (L:Bool) (pos:Nat) (dst:Option Tmp) (op:Op) (v:AV) (σ:St) (K:St→Prop) (_:Wrap σ) (_:Wrap K) (_:Wrap op):Prop:=Ws P L pos dst op v σ K
@[go_sem ↓] theorem nf {op} {v}:Ws P L pos dst op v σ K=Wt P L pos dst op v σ K ⟨⟩ ⟨⟩ ⟨⟩:=rfl
@[go_sem] theorem ng {op} {rows} {w1 w2 w3}:Wt P L pos dst op (.ro rows) σ K w1 w2 w3=opX P pos dst op σ K:=by simp [Wt,Ws]
@[go_sem] theorem lG {op} {s} {w1 w2 w3}:Wt P L pos dst op (.str s) σ K w1 w2 w3=opX P pos dst op σ K:=by simp [Wt,Ws]
theorem Y8 {t} {x} {l h m}:opL P L pos dst (.slice t x l h m) σ K wL=Ws P L pos dst (.slice t x l h m) (σ.e x) σ K:=by
 have h1:Kw P ⟨dst,.slice t x l h m,0, "",#[],none⟩ σ K=False:=rfl
 have h2:QL ⟨dst,.slice t x l h m,0, "",#[],none⟩=false:=rfl
 have h3:SliK P pos ⟨dst,.slice t x l h m,0, "",#[],none⟩ σ K=((match σ.e x with| .own _=>True|_=>False)∧SliK P pos ⟨dst,.slice t x l h m,0, "",#[],none⟩ σ K):=by
  grind [SliK]
 grind [opL,QM,Ws,opX]
@[go_sem ↓] theorem g7 {t} {x} {l h m}:opL P L pos dst (.slice t x l h m) σ K wL=Am (σ.e x) fun v=>Ws P L pos dst (.slice t x l h m) v σ K:=Y8
theorem gB {t el} {x} {l h} {n} {tk} {i j} {r} {w1 w2 w3} (he:σ.e x= .own n) (hT:σ.T n=some tk) (hu:ti P t= .sl el) (hz:0<tsz P el) (hr:∀row ∈ tk.rows,row.length=tsz P el) (hi:bndI (l.map σ.e) 0=some i) (hj:bndI (h.map σ.e) tk.rows.length=some j) (hc:cutL tk.rows i j=some r) (hl:look σ.t (pos*16)=none)
  (k:K (St.put ⟨σ.s,(pos*16,some ⟨r,none,0,tk.z⟩)::(n,none)::σ.t,σ.b⟩ dst (.own (pos*16)))):Wt P true pos dst (.slice t x l h none) (.own n) σ K w1 w2 w3:=by
 refine .inr ⟨rfl,trivial,?_⟩
 grind [SliK]
@[go_sem ↓] theorem gC {x} {i}:opL P L pos dst (.extract x i) σ K wL=opX P pos dst (.extract x i) σ K:=Cb fun _ _=>rfl
@[go_sem ↓] theorem dV {c} {a b}:opL P L pos dst (.makeFunc c a b) σ K wL=opX P pos dst (.makeFunc c a b) σ K:=Cb fun _ _=>rfl
@[go_sem ↓] theorem nh {t} {x}:opL P L pos dst (.box t x) σ K wL=opX P pos dst (.box t x) σ K:=Cb fun _ _=>rfl
@[go_sem ↓] theorem jd {t}:opL P L pos dst (.alloc t) σ K wL=opX P pos dst (.alloc t) σ K:=Cb fun _ _=>rfl
@[go_sem ↓] theorem je {t} {ps}:opL P L pos dst (.build t ps) σ K wL=opX P pos dst (.build t ps) σ K:=Cb fun _ _=>rfl
@[go_sem ↓] theorem a7 {t} {n} {ps}:opL P L pos dst (.buildSlice t n ps) σ K wL=opX P pos dst (.buildSlice t n ps) σ K:=Cb fun _ _=>rfl
@[go_sem ↓] theorem dB {t} {l c}:opL P L pos dst (.makeSlice t l c) σ K wL=opX P pos dst (.makeSlice t l c) σ K:=Cb fun _ _=>rfl
@[go_sem ↓] theorem gD {t} {r}:opL P L pos dst (.makeMap t r) σ K wL=opX P pos dst (.makeMap t r) σ K:=Cb fun _ _=>rfl
@[go_sem ↓] theorem g8 {t} {x i} {ok}:opL P L pos dst (.lookup t x i ok) σ K wL=opX P pos dst (.lookup t x i ok) σ K:=Cb fun _ _=>rfl
@[go_sem ↓] theorem dC {t} {m i x}:opL P L pos dst (.mapUpdate t m i x) σ K wL=opX P pos dst (.mapUpdate t m i x) σ K:=Cb fun _ _=>rfl
@[go_sem ↓] theorem g9 {t} {m i x}:opL P L pos dst (.insert t m i x) σ K wL=opX P pos dst (.insert t m i x) σ K:=Cb fun _ _=>rfl
@[go_sem ↓] theorem jf {t} {a x}:opL P L pos dst (.store t a x) σ K wL=opX P pos dst (.store t a x) σ K:=Cb fun _ _=>rfl
@[go_sem ↓] theorem ni {as} {ts}:opL P L pos dst (.call ⟨.builtin .len,as,ts⟩) σ K wL=opX P pos dst (.call ⟨.builtin .len,as,ts⟩) σ K:=Cb fun _ _=>rfl
@[go_sem ↓] theorem nj {as} {ts}:opL P L pos dst (.call ⟨.builtin .max,as,ts⟩) σ K wL=opX P pos dst (.call ⟨.builtin .max,as,ts⟩) σ K:=Cb fun _ _=>rfl
@[go_sem ↓] theorem nk {as} {ts}:opL P L pos dst (.call ⟨.builtin .min,as,ts⟩) σ K wL=opX P pos dst (.call ⟨.builtin .min,as,ts⟩) σ K:=Cb fun _ _=>rfl
def opE (P:Program) (pos:Nat) (dst:Option Tmp) (op:Op) (σ:St) (K:St→Prop):Prop:=∃r,Ev P pos ⟨dst,op,0, "",#[],none⟩ σ.e σ.T σ.B r∧Ci σ r.t∧Dn σ r.b∧K (σ.add dst r)
def Y9 (L:Bool) (p q:Prop) (_:Wrap p) (_:Wrap q):Prop:=(L=true∧p)∨(L=false∧q)
@[go_sem] theorem jg {p q:Prop} {w1} {w2}:Y9 true p q w1 w2=p:=by simp [Y9]
@[go_sem] theorem hD {p q:Prop} {w1} {w2}:Y9 false p q w1 w2=q:=by simp [Y9]
@[go_sem ↓] theorem hJ {as} {ts}:opL P L pos dst (.call ⟨.builtin .append,as,ts⟩) σ K wL=Y9 L (opX P pos dst (.call ⟨.builtin .append,as,ts⟩) σ K) (opE P pos dst (.call ⟨.builtin .append,as,ts⟩) σ K) ⟨⟩ ⟨⟩:=by
 grind [Kw,QL,SliK,opL,QM,opX,Y9,opE]
end
attribute [go_sem] Bool.not_true Bool.not_false Nat.zero_le
theorem F3 {pos:Nat} {dst:Option Tmp} {op:Op} (h:∀K',aop P pos ⟨dst,op,0, "",#[],none⟩ σ K'=∃r,Ev P pos ⟨dst,op,0, "",#[],none⟩ σ.e σ.T σ.B r∧Ci σ r.t∧Dn σ r.b∧K' (σ.add dst r)) {p:AV→Prop} (hp:∀r,Ev P pos ⟨dst,op,0, "",#[],none⟩ σ.e σ.T σ.B r=∃v,p v∧r=⟨v,[],[]⟩):
  opX P pos dst op σ K=∃v,p v∧K (σ.put dst v):=by
 unfold opX
 rw [h]
 refine propext ⟨?_,?_⟩
 ·rintro ⟨r,h1,h2,h3,h4⟩
  rw [hp] at h1
  obtain⟨v,h5,rfl⟩:=h1
  exact⟨v,h5,by cases dst <;> exact h4⟩
 ·rintro ⟨v,h5,h4⟩
  exact⟨⟨v,[],[]⟩,by rw [hp]; grind,trivial,trivial,by cases dst <;> exact h4⟩
@[go_sem ↓] theorem pp {pos:Nat} {dst:Option Tmp} {x:Operand}:opX P pos dst (.move x) σ K=Am (σ.e x) fun v=>K (σ.put dst v):=by
 rw [F3 (p:=fun v=>v=σ.e x) (fun _=>by rfl) (fun r=>by simp [Ev])]
 simp [Am]
@[go_sem ↓] theorem lH {pos:Nat} {dst:Option Tmp} {x:Operand}:opX P pos dst (.assign x) σ K=Am (σ.e x) fun v=>K (σ.put dst v):=by
 rw [F3 (p:=fun v=>v=σ.e x) (fun _=>by rfl) (fun r=>by simp [Ev])]
 simp [Am]
def Q3 (c a b:AV) (K:AV→Prop):Prop:=∃t,c= .bool t∧K (if t=true then a else b)
@[go_sem] theorem Wu {a b} {K}:Q3 (.bool true) a b K=K a:=by simp [Q3]
@[go_sem] theorem U3 {a b} {K}:Q3 (.bool false) a b K=K b:=by simp [Q3]
theorem hU {pos:Nat} {dst:Option Tmp} {c a b:Operand}:opX P pos dst (.pick c a b) σ K=Q3 (σ.e c) (σ.e a) (σ.e b) fun v=>K (σ.put dst v):=by
 rw [F3 (p:=fun v=>∃t,σ.e c= .bool t∧v=if t=true then σ.e a else σ.e b) (fun _=>by rfl) (fun r=>by
  grind [Ev])]
 grind [Q3]
def LG (P:Program) (t:TypeId) (a:AV) (σ:St) (K:AV→Prop):Prop:=∃v,II P σ.T σ.B t a v∧K v
def ldX (P:Program) (t:TypeId) (off:Nat) (vs:List AV) (K:AV→Prop):Prop:=
 LE (ti P t).isAgg (AP (off+tsz P t≤vs.length) (Am (.agg (Ew vs off (tsz P t))) K)) (AP ((ti P t).sc =true) (optX vs[off]? K))
theorem hZ {pos:Nat} {dst:Option Tmp} {t:TypeId} {a:Operand}:opX P pos dst (.load t a) σ K=LG P t (σ.e a) σ fun v=>K (σ.put dst v):=
 F3 (p:=fun v=>II P σ.T σ.B t (σ.e a) v) (fun _=>by rfl) (fun r=>by rfl)
@[go_sem] theorem ZA {t} {b off} {K}:LG P t (.box b off) σ K=optX (σ.B b) fun vs=>AP (isMp vs=false) (ldX P t off vs K):=by
 grind [LG,II,optX,ldX,LE,AP,Am]
@[go_sem] theorem ZB {t} {vs} {off} {K}:LG P t (.rop vs off) σ K=ldX P t off vs K:=by
 grind [LG,II,optX,ldX,LE,AP,Am]
@[go_sem] theorem ZC {t} {t' sz i off} {K}:LG P t (.elt t' sz i off) σ K=
  optX (σ.T t') fun tk=>optX tk.rows[i]? fun row=>AP (row.length=sz) (LE (ti P t).isAgg (AP (off+tsz P t≤sz) (Am (.agg (Mo t' tk.gen [] sz i row off (tsz P t))) K)) (AP ((ti P t).sc =true) (optX row[off]? fun d=>K (ofT t' tk.gen [] sz i off d)))):=by
 grind [LG,II,optX,LE,AP,Am]
@[go_sem] theorem ZD {t} {t' g} {p} {sz i off} {K}:LG P t (.els t' g p sz i off) σ K=
  optX (subR σ.T t' g p) fun rows=>optX rows[i]? fun row=>AP (row.length=sz) (LE (ti P t).isAgg (AP (off+tsz P t≤sz) (Am (.agg (Mo t' g p sz i row off (tsz P t))) K)) (AP ((ti P t).sc =true) (optX row[off]? fun d=>K (ofT t' g p sz i off d)))):=by
 grind [LG,II,optX,LE,AP,Am]
def iA (o:Option Tok) (g:Nat) (p:Pth):Option (List (List D)):=match o with
 |some tk=>if tk.gen=g then getP p tk.rows else none
 |none=>none
@[go_sem ↓] theorem nu {T} {t g} {p}:subR T t g p=iA (T t) g p:=rfl
@[go_sem] theorem jh {rows} {ap} {g} {q} {p}:iA (some ⟨rows,ap,g,q⟩) g p=getP p rows:=by simp [iA]
def bA (o:Option Tok) (g:Nat) (p:Pth):Option (List (List D)):=match o with
 |some tk=>if tk.gen=g then (getP p tk.rows).map tk.er else none
 |none=>none
@[go_sem ↓] theorem nw {T} {t g} {p}:subE T t g p=bA (T t) g p:=rfl
@[go_sem] theorem iB {rows} {ap} {g} {q} {p}:bA (some ⟨rows,ap,g,q⟩) g p=(getP p rows).map (zer q):=by
 simp only [bA,if_true]; rfl
@[go_sem] theorem ji {r}:zer false r=r:=rfl
@[go_sem] theorem lI {r}:zer true r=erR r:=rfl
@[go_sem] theorem qf {rows} {ap} {g} {q}:Tok.rd ⟨rows,ap,g,q⟩=zer q rows:=rfl
@[go_sem] theorem qg {rows r} {ap} {g} {q}:Tok.er ⟨rows,ap,g,q⟩ r=zer q r:=rfl
@[go_sem] theorem jj {z} {rows} {ap} {g}:okZ z ⟨rows,ap,g,false⟩=true:=rfl
@[go_sem] theorem lJ {q} {rows} {ap} {g}:okZ true ⟨rows,ap,g,q⟩=true:=by cases q <;> rfl
@[go_sem] theorem lK {q} {rows} {ap} {g}:okZ q ⟨rows,ap,g,q⟩=true:=by cases q <;> rfl
@[go_sem] theorem lL {rows}:getP [] rows=some rows:=rfl
def iC (d:D) (K:List (List D)→Prop):Prop:=match d with| .sl r=>K r|_=>False
@[go_sem] theorem nz {r} {K}:iC (.sl r) K=K r:=rfl
@[go_sem ↓] theorem jk {sz i j} {p} {rows} {K}:optX (getP ((sz,i,j)::p) rows) K=optX rows[i]? fun row=>AP (row.length=sz) (optX row[j]? fun d=>iC d fun r=>optX (getP p r) K):=by
 simp only [getP,optX,AP]
 cases rows[i]? with
 |none=>simp
 | some row=>
  by_cases h:row.length=sz
  ·simp only [h,if_true,true_and,Option.some.injEq,exists_eq_left']
   cases row[j]? with
   |none=>simp
   |some d=>cases d <;> simp [iC]
  grind
@[go_sem] theorem iD {t g} {p} {sz i} {d} {ds} {off n}:Mo t g p sz i (d::ds) off n=UJ t g p sz i off (((d::ds).drop off).take n):=rfl
attribute [go_sem ↓] ldX
attribute [go_sem] Ew ofD Rj ofS ofT UJ
end
attribute [go_sem ↓] Wp U2 TR Y7 Wu U3 ZA ZB ZC ZD
end Go.Proofs.YteckcjgpnegkjaaGreatDoor.Ab
namespace Go.Proofs.YteckcjgpnegkjaaGreatDoor.Ab
set_option linter.unusedVariables false
set_option maxHeartbeats 1000000
open Go.RowKit
section
variable {P:Program} {σ:St} {K:St→Prop} {Q:AE→St→Prop}
theorem Oq {pos} {dst} {op} (h:∀K',aop P pos ⟨dst,op,0, "",#[],none⟩ σ K'=∃r,Ev P pos ⟨dst,op,0, "",#[],none⟩ σ.e σ.T σ.B r∧Ci σ r.t∧Dn σ r.b∧K' (σ.add dst r)):
  opX P pos dst op σ K=∃r,Ev P pos ⟨dst,op,0, "",#[],none⟩ σ.e σ.T σ.B r∧Ci σ r.t∧Dn σ r.b∧K (σ.add dst r):=h K
def TS (v:AV) (K:AV→Prop):Prop:=match v with
 | .box b off=>K (.box b off)
 | .rop ds off=>K (.rop ds off)
 | .elt t sz i off=>K (.elt t sz i off)
 | .els t g p sz i off=>K (.els t g p sz i off)
 |_=>False
@[go_sem] theorem bB {b off} {K}:TS (.box b off) K=K (.box b off):=rfl
@[go_sem] theorem bC {ds} {off} {K}:TS (.rop ds off) K=K (.rop ds off):=rfl
@[go_sem] theorem bD {t sz i off} {K}:TS (.elt t sz i off) K=K (.elt t sz i off):=rfl
@[go_sem] theorem bE {t g} {p} {sz i off} {K}:TS (.els t g p sz i off) K=K (.els t g p sz i off):=rfl
theorem Wv {pos} {dst} {x}:opX P pos dst (.nilCheck x) σ K=TS (σ.e x) fun v=>K (σ.put dst v):=by
 rw [F3 (p:=fun v=>TS (σ.e x) fun u=>v=u) (fun _=>by rfl) (fun r=>by
  simp only [Ev,TS]
  generalize σ.e x=v
  cases v <;> simp)]
 unfold TS
 generalize σ.e x=v
 cases v <;> simp
def Be (P:Program) (op:BinOp) (t:TypeId) (x y:AV) (K:AV→Prop):Prop:=∃v,Bin P op t x y v∧K v
def bF (op:BinOp) (y:Operand):Bool:=match op,y with
 | .eql,.const (.slice none 0 0)=>false
 | .neq,.const (.slice none 0 0)=>false
 |_,_=>true
theorem U4 {pos} {dst} {op} {t t'} {x y} (hn:bF op y=true):opX P pos dst (.binOp op t x y t') σ K=Be P op t (σ.e x) (σ.e y) fun v=>K (σ.put dst v):=
 F3 (p:=fun v=>Bin P op t (σ.e x) (σ.e y) v) (fun _=>by
  grind [aop,bF]) (fun r=>by rfl)
section
variable {pos:Nat} {dst:Option Tmp} {op:BinOp} {t t':TypeId} {x:Operand}
theorem ZE {y}:opX P pos dst (.binOp op t x (.tmp y) t') σ K=Be P op t (σ.e x) (σ.g y) fun v=>K (σ.put dst v):=U4 (by cases op <;> rfl)
theorem ZF {k} {n}:opX P pos dst (.binOp op t x (.const (.int k n)) t') σ K=Be P op t (σ.e x) (.int k n) fun v=>K (σ.put dst v):=U4 (by cases op <;> rfl)
theorem Ww {b}:opX P pos dst (.binOp op t x (.const (.bool b)) t') σ K=Be P op t (σ.e x) (.bool b) fun v=>K (σ.put dst v):=U4 (by cases op <;> rfl)
theorem ZG {s}:opX P pos dst (.binOp op t x (.const (.string s)) t') σ K=Be P op t (σ.e x) (.str s) fun v=>K (σ.put dst v):=U4 (by cases op <;> rfl)
theorem Wx:opX P pos dst (.binOp op t x (.const (.pointer none)) t') σ K=Be P op t (σ.e x) .nilp fun v=>K (σ.put dst v):=U4 (by cases op <;> rfl)
def U5 (P:Program) (t:TypeId) (v:AV) (σ:St) (K:Bool→Prop):Prop:=(∃e,ti P t= .sl e)∧J8 v=true∧∀b,YW σ.T v b→K b
def slP (t:TI):Prop:=∃e,t= .sl e
@[go_sem] theorem pr {e}:slP (.sl e)=True:=by simp [slP]
@[go_sem] theorem Sl {K}:U5 P t .nils σ K=AP (slP (ti P t)) (K true):=by simp [U5,J8,YW,AP,slP]
@[go_sem] theorem U6 {b n sz} {K}:U5 P t (.bsl b n sz) σ K=AP (slP (ti P t)) (K false):=by simp [U5,J8,YW,AP,slP]
theorem dW {rows} {K} (h:slP (ti P t)) (h0:rows=[] →K true) (h1:K false):U5 P t (.ro rows) σ K:=
 ⟨h,rfl,fun b hb=>by
  cases b with
  |false=>exact h1
  |true=>
   refine h0 ?_
   by_cases hr:rows=[]
   ·exact hr
   ·exact absurd (hb hr) (by simp)⟩
theorem bG:opX P pos dst (.binOp .eql t x (.const (.slice none 0 0)) t') σ K=U5 P t (σ.e x) σ fun b=>K (σ.put dst (.bool b)):=by
 rfl
theorem bH:opX P pos dst (.binOp .neq t x (.const (.slice none 0 0)) t') σ K=U5 P t (σ.e x) σ fun b=>K (σ.put dst (.bool !b)):=by
 rfl
end
section
variable {t:TypeId} {k:IntKind} {a b:Int} {K:AV→Prop}
@[go_sem] theorem dX:Be P .add t (.int k a) (.int k b) K=K (.int k (k.wrap (a+b))):=by simp [Be,Bin,Kc]
@[go_sem] theorem dY:Be P .sub t (.int k a) (.int k b) K=K (.int k (k.wrap (a - b))):=by simp [Be,Bin,Kc]
@[go_sem] theorem dZ:Be P .mul t (.int k a) (.int k b) K=K (.int k (k.wrap (a*b))):=by simp [Be,Bin,Kc]
@[go_sem] theorem da:Be P .eql t (.int k a) (.int k b) K=K (.bool (decide (a=b))):=by simp [Be,Bin,Kc]
@[go_sem] theorem db:Be P .neq t (.int k a) (.int k b) K=K (.bool (!decide (a=b))):=by simp [Be,Bin,Kc]
@[go_sem] theorem dc:Be P .lss t (.int k a) (.int k b) K=K (.bool (decide (a<b))):=by simp [Be,Bin,Kc]
@[go_sem] theorem dd:Be P .leq t (.int k a) (.int k b) K=K (.bool (decide (a≤b))):=by simp [Be,Bin,Kc]
@[go_sem] theorem de:Be P .gtr t (.int k a) (.int k b) K=K (.bool (decide (b<a))):=by simp [Be,Bin,Kc]
@[go_sem] theorem dg:Be P .geq t (.int k a) (.int k b) K=K (.bool (decide (b≤a))):=by simp [Be,Bin,Kc]
@[go_sem] theorem dh {k'}:Be P .shl t (.int k a) (.int k' b) K=AP (0≤b) (K (.int k (k.wrap (a*2 ^ min b.toNat k.bits)))):=by
 simp only [Be,Bin,AP]
 grind
@[go_sem] theorem di {k'}:Be P .shr t (.int k a) (.int k' b) K=AP (0≤b) (K (.int k (a / 2 ^ min b.toNat k.bits))):=by
 simp only [Be,Bin,AP]
 grind
@[go_sem] theorem dj:Be P .and t (.int k a) (.int k b) K=K (.int k (bits .and k a b)):=by simp [Be,Bin]
@[go_sem] theorem iE:Be P .or t (.int k a) (.int k b) K=K (.int k (bits .or k a b)):=by simp [Be,Bin]
@[go_sem] theorem dk:Be P .xor t (.int k a) (.int k b) K=K (.int k (bits .xor k a b)):=by simp [Be,Bin]
@[go_sem] theorem Wy:Be P .andNot t (.int k a) (.int k b) K=K (.int k (bits .andNot k a b)):=by simp [Be,Bin]
@[go_sem] theorem dl:Be P .quo t (.int k a) (.int k b) K=AP (b≠0) (K (.int k (k.wrap (a.tdiv b)))):=by
 simp only [Be,Bin,AP,true_and]
 grind
@[go_sem] theorem dp:Be P .rem t (.int k a) (.int k b) K=AP (b≠0) (K (.int k (a.tmod b))):=by
 simp only [Be,Bin,AP,true_and]
 grind
end
section
variable {t:TypeId} {a b:ByteArray} {c d:Bool} {K:AV→Prop}
def Gx (a b:ByteArray):Bool:=a.toList == b.toList
@[go_sem] theorem bI:Be P .eql t (.str a) (.str b) K=K (.bool (Gx a b)):=by simp [Be,Bin,Gx]
@[go_sem] theorem bJ:Be P .neq t (.str a) (.str b) K=K (.bool (!Gx a b)):=by simp [Be,Bin,Gx]
@[go_sem] theorem bK:Be P .add t (.str a) (.str b) K=AP (a.size+b.size≤maxLen) (K (.str (a++b))):=by
 simp only [Be,Bin,AP]
 grind
def ZH (o:Option (List KK)) (xs ys:List AV) (K:Bool→Prop):Prop:=∃ks b,o=some ks∧Bo ks xs ys=some b∧K b
def dq (o:Option Bool) (K:Bool→Prop):Prop:=∃b,o=some b∧K b
@[go_sem] theorem jl {ks} {xs ys} {K}:ZH (some ks) xs ys K=dq (Bo ks xs ys) K:=by
 simp [ZH,dq]
@[go_sem] theorem jm {b} {K}:dq (some b) K=K b:=by simp [dq]
@[go_sem] theorem jo {k} {ks} {a b} {xs ys}:Bo (.int k::ks) (.int k a::xs) (.int k b::ys)=(Bo ks xs ys).map (decide (a=b)&& ·):=by
 rw [Bo]; simp
@[go_sem] theorem jp {ks} {a b} {xs ys}:Bo (.bool ::ks) (.bool a::xs) (.bool b::ys)=(Bo ks xs ys).map (a == b&& ·):=by
 rw [Bo]
@[go_sem] theorem lM {ks} {a b} {xs ys}:Bo (.str ::ks) (.str a::xs) (.str b::ys)=(Bo ks xs ys).map (Gx a b&& ·):=by
 rw [Bo]; rfl
@[go_sem] theorem lN:Bo [] [] [] =some true:=by
 rw [Bo]
@[go_sem] theorem jq {α β:Type} {f:α→β} {a:α}:Option.map f (some a)=some (f a):=rfl
@[go_sem] theorem bL {xs ys}:Be P .eql t (.agg xs) (.agg ys) K=ZH (G6 P t) xs ys fun b=>K (.bool b):=by
 unfold Be Bin ZH
 grind
@[go_sem] theorem bM {xs ys}:Be P .neq t (.agg xs) (.agg ys) K=ZH (G6 P t) xs ys fun b=>K (.bool !b):=by
 unfold Be Bin ZH
 grind
def U7 (P:Program) (t:TypeId):Prop:=match ti P t with| .bool =>True|_=>False
@[go_sem] theorem bN:Be P .eql t (.bool c) (.bool d) K=AP (U7 P t) (K (.bool (c == d))):=by
 simp only [Be,Bin,AP,U7]
 split <;> simp_all
@[go_sem] theorem bO:Be P .neq t (.bool c) (.bool d) K=AP (U7 P t) (K (.bool (!(c == d)))):=by
 simp only [Be,Bin,AP,U7]
 split <;> simp_all
def Ot (P:Program) (t:TypeId):Prop:=match ti P t with| .ptr _=>True|_=>False
@[go_sem] theorem iF:Be P .eql t .nilp .nilp K=AP (Ot P t) (K (.bool true)):=by
 simp only [Be,Bin,AP,Ot]
 split <;> simp_all
@[go_sem] theorem dr:Be P .neq t .nilp .nilp K=AP (Ot P t) (K (.bool false)):=by
 simp only [Be,Bin,AP,Ot]
 split <;> simp_all
@[go_sem] theorem iG {x off}:Be P .eql t (.box x off) .nilp K=AP (Ot P t) (K (.bool false)):=by
 simp only [Be,Bin,AP,Ot]
 split <;> simp_all
@[go_sem] theorem dt {x off}:Be P .neq t (.box x off) .nilp K=AP (Ot P t) (K (.bool true)):=by
 simp only [Be,Bin,AP,Ot]
 split <;> simp_all
@[go_sem] theorem iH {ds} {off}:Be P .eql t (.rop ds off) .nilp K=AP (Ot P t) (K (.bool false)):=by
 simp only [Be,Bin,AP,Ot]
 split <;> simp_all
@[go_sem] theorem du {ds} {off}:Be P .neq t (.rop ds off) .nilp K=AP (Ot P t) (K (.bool true)):=by
 simp only [Be,Bin,AP,Ot]
 split <;> simp_all
attribute [go_sem] U7 Ot
end
def U8 (op:UnOp) (x:AV) (K:AV→Prop):Prop:=∃v,Uno op x v∧K v
theorem iI {pos} {dst} {op} {t} {x}:opX P pos dst (.unOp op t x) σ K=U8 op (σ.e x) fun v=>K (σ.put dst v):=
 F3 (p:=fun v=>Uno op (σ.e x) v) (fun _=>by rfl) (fun r=>by rfl)
@[go_sem] theorem dv {b} {K}:U8 .not (.bool b) K=K (.bool (!b)):=by simp [U8,Uno]
@[go_sem] theorem dw {k} {n} {K}:U8 .xor (.int k n) K=K (.int k (bits .xor k (if k.signed then -1 else k.max) n)):=by simp [U8,Uno]
@[go_sem] theorem dx {k} {n} {K}:U8 .neg (.int k n) K=K (.int k (k.wrap (0 - n))):=by simp [U8,Uno]
def LH (P:Program) (s d:TypeId) (x:AV) (σ:St) (K:AV→Prop):Prop:=match ti P d,x with
 | .int k,.int _ n=>(ti P s).sc =true∧K (.int k (k.wrap n))
 | .str,y=>∃el ns,ti P s= .sl el∧ti P el= .int .u8 ∧ns.length≤maxLen∧cl σ.T σ.B y=some (.ro (Gi ns))∧K (.str (strOfNums ns))
 |_,_=>False
def bP (P:Program) (s d:TypeId) (x:AV) (σ:St) (v:AV):Prop:=match ti P d,x with
 | .int k,.int _ n=>(ti P s).sc =true∧v= .int k (k.wrap n)
 | .str,y=>∃el ns,ti P s= .sl el∧ti P el= .int .u8 ∧ns.length≤maxLen∧cl σ.T σ.B y=some (.ro (Gi ns))∧v= .str (strOfNums ns)
 |_,_=>False
theorem ZI {pos} {dst} {s d} {x}:opX P pos dst (.convert s d x) σ K=LH P s d (σ.e x) σ fun v=>K (σ.put dst v):=by
 rw [F3 (p:=fun v=>bP P s d (σ.e x) σ v) (fun _=>by rfl) (fun r=>by
  simp only [Ev,bP]
  generalize σ.e x=v
  generalize ti P d=q
  cases q <;> cases v <;> first
   |(
    refine propext ⟨?_,?_⟩
    ·intro h; obtain⟨el,ns,h1,h2,h3,h4,rfl⟩:=h; exact⟨_,⟨el,ns,h1,h2,h3,h4,rfl⟩,rfl⟩
    ·intro h; obtain⟨_,⟨el,ns,h1,h2,h3,h4,rfl⟩,rfl⟩:=h; exact⟨el,ns,h1,h2,h3,h4,rfl⟩)
   |simp [and_assoc])]
 unfold LH bP
 generalize σ.e x=v
 generalize ti P d=q
 have key:∀y:AV,(∃v,(∃el ns,ti P s= .sl el∧ti P el= .int .u8 ∧ns.length≤maxLen∧cl σ.T σ.B y=some (.ro (Gi ns))∧v= .str (strOfNums ns))∧K (σ.put dst v))=∃el ns,ti P s= .sl el∧ti P el= .int .u8 ∧ns.length≤maxLen∧cl σ.T σ.B y=some (.ro (Gi ns))∧K (σ.put dst (.str (strOfNums ns))):=fun y=>by
  grind
 cases q <;> cases v <;> first|exact key _|simp [and_assoc]
def U9 (t:TI) (K:IntKind→Prop):Prop:=match t with| .int k=>K k|_=>False
@[go_sem] theorem ZJ {k} {K}:U9 (.int k) K=K k:=rfl
@[go_sem] theorem ZK {s d} {k'} {n} {K}:LH P s d (.int k' n) σ K=U9 (ti P d) fun k=>AP ((ti P s).sc =true) (K (.int k (k.wrap n))):=by
 unfold LH U9 AP
 generalize ti P d=q
 cases q <;> simp [cl,Gi]
def bQ (P:Program) (q:TI):Prop:=∃el,q= .sl el∧ti P el= .int .u8
def dy (q:TI):Prop:=q= .int .u8
@[go_sem] theorem lO:dy (.int .u8)=True:=by simp [dy]
@[go_sem] theorem n7 {el}:bQ P (.sl el)=dy (ti P el):=by simp [bQ,dy]
def VA (P:Program) (q qs:TI) (o:Option AV) (K:AV→Prop):Prop:=q= .str ∧bQ P qs∧∃ns,ns.length≤maxLen∧o=some (.ro (Gi ns))∧K (.str (strOfNums ns))
def iJ (o:Option AV) (K:AV→Prop) (_:Wrap K):Prop:=∃ns,ns.length≤maxLen∧o=some (.ro (Gi ns))∧K (.str (strOfNums ns))
@[go_sem] theorem lP {qs} {o} {K}:VA P .str qs o K=AP (bQ P qs) (iJ o K ⟨⟩):=by simp [VA,AP,iJ]
theorem Nu {s d} {x} {K} (hx:∀k n,x≠ .int k n):LH P s d x σ K=Am (cl σ.T σ.B x) fun o=>VA P (ti P d) (ti P s) o K:=by
 unfold LH VA Am bQ
 grind
@[go_sem] theorem jr {s d} {t} {K}:LH P s d (.own t) σ K=Am (cl σ.T σ.B (.own t)) fun o=>VA P (ti P d) (ti P s) o K:=Nu (by simp)
@[go_sem] theorem lQ {s d} {r} {K}:LH P s d (.ro r) σ K=Am (cl σ.T σ.B (.ro r)) fun o=>VA P (ti P d) (ti P s) o K:=Nu (by simp)
@[go_sem] theorem js {s d} {b n z} {K}:LH P s d (.bsl b n z) σ K=Am (cl σ.T σ.B (.bsl b n z)) fun o=>VA P (ti P d) (ti P s) o K:=Nu (by simp)
@[go_sem] theorem iK {s d} {K}:LH P s d .nils σ K=Am (cl σ.T σ.B .nils) fun o=>VA P (ti P d) (ti P s) o K:=Nu (by simp)
theorem lR {ns} {K} {w} (hl:ns.length≤maxLen) (hk:K (.str (strOfNums ns))):iJ (some (.ro (List.map (fun n=>[D.int .u8 n]) ns))) K w:=⟨ns,hl,rfl,hk⟩
def faX (P:Program) (s:TypeId) (v:AV) (f:Nat) (K:AV→Prop):Prop:=match v with
 | .box b off=>∃q,fOff P s f=some q∧0<tsz P q.2 ∧K (.box b (off+q.1))
 | .rop ds off=>∃q,fOff P s f=some q∧0<tsz P q.2 ∧K (.rop ds (off+q.1))
 | .elt t sz i off=>∃q,fOff P s f=some q∧0<tsz P q.2 ∧K (.elt t sz i (off+q.1))
 | .els t g p sz i off=>∃q,fOff P s f=some q∧0<tsz P q.2 ∧K (.els t g p sz i (off+q.1))
 |_=>False
theorem VB {pos} {dst} {s} {x} {f}:opX P pos dst (.fieldAddr s x f) σ K=faX P s (σ.e x) f fun v=>K (σ.put dst v):=by
 rw [F3 (p:=fun v=>faX P s (σ.e x) f fun u=>v=u) (fun _=>by rfl) (fun r=>by
  simp only [Ev,faX]
  generalize σ.e x=v
  grind)]
 unfold faX
 split
 ·grind
 ·grind
 ·grind
 ·grind
 ·simp
@[go_sem] theorem d6 {s} {b off f} {K}:faX P s (.box b off) f K=optX (fOff P s f) fun q=>AP (0<tsz P q.2) (Am (off+q.1) fun o=>K (.box b o)):=rfl
@[go_sem] theorem d7 {s} {ds} {off f} {K}:faX P s (.rop ds off) f K=optX (fOff P s f) fun q=>AP (0<tsz P q.2) (Am (off+q.1) fun o=>K (.rop ds o)):=rfl
@[go_sem] theorem d8 {s} {t g} {p} {sz i off f} {K}:faX P s (.els t g p sz i off) f K=optX (fOff P s f) fun q=>AP (0<tsz P q.2) (Am (off+q.1) fun o=>K (.els t g p sz i o)):=rfl
@[go_sem] theorem d9 {s} {t sz i off f} {K}:faX P s (.elt t sz i off) f K=optX (fOff P s f) fun q=>AP (0<tsz P q.2) (Am (off+q.1) fun o=>K (.elt t sz i o)):=rfl
def fdX (P:Program) (s:TypeId) (v:AV) (f:Nat) (K:AV→Prop):Prop:=match v with
 | .agg vs=>optX (fOff P s f) fun q=>LE (ti P q.2).isAgg (AP (q.1 +tsz P q.2 ≤vs.length) (Am (.agg (Ew vs q.1 (tsz P q.2))) K)) (AP ((ti P q.2).sc =true) (optX vs[q.1]? K))
 |_=>False
@[go_sem] theorem eA {s} {vs} {f} {K}:fdX P s (.agg vs) f K=optX (fOff P s f) fun q=>LE (ti P q.2).isAgg (AP (q.1 +tsz P q.2 ≤vs.length) (Am (.agg (Ew vs q.1 (tsz P q.2))) K)) (AP ((ti P q.2).sc =true) (optX vs[q.1]? K)):=rfl
theorem eC {pos} {dst} {s} {x} {f}:opX P pos dst (.field s x f) σ K=fdX P s (σ.e x) f fun v=>K (σ.put dst v):=by
 rw [F3 (p:=fun v=>fdX P s (σ.e x) f fun u=>v=u) (fun _=>by rfl) (fun r=>by
  grind [Ev,fdX,optX,LE,AP,Am])]
 unfold fdX
 split
 ·grind [optX,LE,AP,Am]
 ·simp
attribute [go_sem] fOff
def VC (rows:List (List D)) (n:Int) (sz:Nat) (K:List D→Prop):Prop:=∃row,Xd rows n sz row∧K row
def iaX (P:Program) (t:TypeId) (x i:AV) (σ:St) (K:AV→Prop):Prop:=∃v,Pf P σ.T t x i v∧K v
def slX (t:TI) (K:TypeId→Prop):Prop:=match t with| .sl e=>K e|_=>False
@[go_sem] theorem iL {e} {K}:slX (.sl e) K=K e:=rfl
def elX (P:Program) (t:TypeId) (x i:AV) (K:AV→Prop):Prop:=∃v,QF P t x i v∧K v
def arX (t:TI) (K:Nat→TypeId→Prop):Prop:=match t with| .arr n e=>K n e|_=>False
@[go_sem ↓] theorem n9 {n} {e} {K}:arX (.arr n e) K=K n e:=rfl
def inX (t:TI) (K:IntKind→Prop):Prop:=match t with| .int k=>K k|_=>False
@[go_sem ↓] theorem oA {k} {K}:inX (.int k) K=K k:=rfl
@[go_sem] theorem jt {k}:Mc k [] =some [] :=rfl
@[go_sem] theorem iM {k} {n} {vs}:Mc k (.int k n::vs)=(Mc k vs).map (n:: ·):=by rw [Mc,if_pos rfl]
theorem eD {pos} {dst} {t} {x i}:opX P pos dst (.index t x i) σ K=elX P t (σ.e x) (σ.e i) fun v=>K (σ.put dst v):=
 F3 (p:=fun v=>QF P t (σ.e x) (σ.e i) v) (fun _=>by rfl) (fun r=>by rfl)
def isX (t:TI) (K:IntKind→Prop) (K':Prop):Prop:=match t with| .int k=>K k| .str =>K'|_=>False
@[go_sem ↓] theorem oC {k} {K K'}:isX (.int k) K K'=K k:=rfl
@[go_sem ↓] theorem oD {K K'}:isX .str K K'=K':=rfl
@[go_sem] theorem ju:Md [] =some [] :=rfl
@[go_sem] theorem iN {s} {vs}:Md (.str s::vs)=(Md vs).map (s:: ·):=rfl
@[go_sem ↓] theorem oE {t} {vs} {k} {n} {K}:elX P t (.agg vs) (.int k n) K=arX (ti P t) fun l e=>isX (ti P e) (fun kd=>AP (tsz P e=1) (optX (Mc kd vs) fun ns=>AP (l=ns.length) (optX (atI ns n) fun m=>K (.int kd m)))) (AP (tsz P e=1) (optX (Md vs) fun ns=>AP (l=ns.length) (optX (atS ns n) fun m=>K (.str m)))):=by
 simp only [elX,QF,arX,isX,AP,optX]
 generalize ti P t=q
 cases q <;> grind
@[go_sem ↓] theorem oF {t} {s} {k} {n} {K}:elX P t (.str s) (.int k n) K=AP (ti P t= .str) (optX (atB s n) fun m=>K (.int .u8 m)):=by
 grind [elX,QF,AP,optX]
def ZL (P:Program) (T:Nat→Option Tok) (t:TypeId) (x:AV) (l h:Option AV) (K:AV→Prop):Prop:=∃v,(Mq P t x l h v∨Rk P T t x l h v)∧K v
theorem X2 {pos} {dst} {t} {x} {l h}:opX P pos dst (.slice t x l h none) σ K=ZL P σ.T t (σ.e x) (l.map σ.e) (h.map σ.e) fun v=>K (σ.put dst v):=
 F3 (p:=fun v=>Mq P t (σ.e x) (l.map σ.e) (h.map σ.e) v∨Rk P σ.T t (σ.e x) (l.map σ.e) (h.map σ.e) v) (fun _=>by rfl) (fun r=>by rfl)
@[go_sem ↓] theorem oG {t} {rows} {l h} {T} {K}:ZL P T t (.ro rows) l h K=slX (ti P t) fun el=>AP (0<tsz P el) (AP (∀row ∈ rows,row.length=tsz P el) (optX (bndI l 0) fun i=>optX (bndI h rows.length) fun j=>optX (cutL rows i j) fun r=>K (.ro r))):=by
 simp only [ZL,Mq,Rk,or_false,slX,AP,optX]
 grind
@[go_sem ↓] theorem lS {t} {s} {l h} {T} {K}:ZL P T t (.str s) l h K=AP (ti P t= .str) (optX (bndI l 0) fun i=>optX (bndI h s.size) fun j=>optX (gP s i j) fun r=>K (.str r)):=by
 grind [ZL,Mq,Rk,AP,optX]
@[go_sem] theorem lT {d}:bndI none d=some d:=rfl
@[go_sem] theorem lU {k} {n d}:bndI (some (.int k n)) d=some n:=rfl
theorem VD {pos} {dst} {t} {x i}:opX P pos dst (.indexAddr t x i) σ K=iaX P t (σ.e x) (σ.e i) σ fun v=>K (σ.put dst v):=
 F3 (p:=fun v=>Pf P σ.T t (σ.e x) (σ.e i) v) (fun _=>by rfl) (fun r=>by rfl)
@[go_sem] theorem iO {t} {rows} {k} {n} {K}:iaX P t (.ro rows) (.int k n) σ K=slX (ti P t) fun e=>AP (0<tsz P e) (VC rows n (tsz P e) fun row=>K (.rop (row.map ofD) 0)):=by
 simp only [iaX,Pf,slX,AP,VC]
 grind
def arI (t:TI) (K:Nat→TypeId→Prop):Prop:=match t with| .arr n e=>K n e|_=>False
@[go_sem ↓] theorem oH {n} {e} {K}:arI (.arr n e) K=K n e:=rfl
@[go_sem] theorem oI {t} {b off} {k} {n} {K}:iaX P t (.box b off) (.int k n) σ K=arI (ti P t) fun l e=>AP (0<tsz P e) (AP (0≤n∧n<(l:Int)) (K (.box b (off+n.toNat*tsz P e)))):=by
 simp only [iaX,Pf,arI,AP]
 grind
@[go_sem] theorem eE {t} {t'} {k} {n} {K}:iaX P t (.own t') (.int k n) σ K=slX (ti P t) fun e=>AP (0<tsz P e) (optX (σ.T t') fun tk=>VC tk.rows n (tsz P e) fun _=>K (.elt t' (tsz P e) n.toNat 0)):=by
 simp only [iaX,Pf,slX,AP,VC,optX]
 grind
@[go_sem] theorem eF {t} {t' g} {p} {k} {n} {K}:iaX P t (.sub t' g p) (.int k n) σ K=slX (ti P t) fun e=>AP (0<tsz P e) (optX (subR σ.T t' g p) fun rows=>VC rows n (tsz P e) fun _=>K (.els t' g p (tsz P e) n.toNat 0)):=by
 simp only [iaX,Pf,slX,AP,VC,optX]
 grind
def ZM (v:AV) (i:Nat) (K:AV→Prop):Prop:=match v with| .tup vs=>optX vs[i]? K|_=>False
@[go_sem] theorem bR {vs} {i} {K}:ZM (.tup vs) i K=optX vs[i]? K:=rfl
theorem ZN {pos} {dst} {x} {i}:opX P pos dst (.extract x i) σ K=ZM (σ.e x) i fun v=>K (σ.put dst v):=by
 rw [F3 (p:=fun v=>ZM (σ.e x) i fun u=>v=u) (fun _=>by rfl) (fun r=>by
  simp only [Ev,ZM]
  generalize σ.e x=v
  cases v <;> simp [optX])]
 unfold ZM
 generalize σ.e x=v
 cases v <;> simp [optX]
def evs (σ:St):List Operand→List AV
 | [] =>[]
 |x::xs=>σ.e x::evs σ xs
theorem TT {xs}:evs σ xs=xs.map σ.e:=by induction xs with|nil=>rfl|cons x xs ih=>simp [evs,ih]
attribute [go_sem] evs
@[go_sem ↓] theorem iP {pos} {dst} {f} {first caps}:opX P pos dst (.makeFunc (.func f) (List.toArray first) caps.toArray) σ K=Am (.fn f (.agg (evs σ first)::evs σ caps)) fun v=>K (σ.put dst v):=by
 rw [F3 (p:=fun v=>v= .fn f (.agg (evs σ first)::evs σ caps)) (fun _=>by rfl) (fun r=>by simp [Ev,TT])]
 simp [Am]
def MQ (P:Program) (t:TypeId) (x:AV) (σ:St) (K:AV→Prop):Prop:=∃v,Mp P σ.T σ.B t x v∧K v
theorem lV {pos} {dst} {x} {t}:opX P pos dst (.call ⟨.builtin .len,List.toArray [x],List.toArray [t]⟩) σ K=MQ P t (σ.e x) σ fun v=>K (σ.put dst v):=
 F3 (p:=fun v=>Mp P σ.T σ.B t (σ.e x) v) (fun _=>by rfl) (fun r=>by rfl)
def Pg (f:Int→Int→Int) (x y:AV) (K:AV→Prop):Prop:=match x,y with
 | .int k n,.int k' m=>k=k'∧K (.int k (f n m))
 |_,_=>False
@[go_sem] theorem bS {f} {k} {n m} {K}:Pg f (.int k n) (.int k m) K=Am (f n m) fun r=>K (.int k r):=by simp [Pg,Am]
theorem lW {pos} {dst} {x y} {ts}:opX P pos dst (.call ⟨.builtin .max,List.toArray [x,y],ts⟩) σ K=Pg (fun n m=>if n<m then m else n) (σ.e x) (σ.e y) fun v=>K (σ.put dst v):=by
 rw [F3 (p:=fun v=>Pg (fun n m=>if n<m then m else n) (σ.e x) (σ.e y) fun u=>v=u) (fun _=>by rfl) (fun r=>by
  simp only [Ev,Pg]
  generalize σ.e x=u
  generalize σ.e y=v
  cases u <;> cases v <;> simp [and_assoc])]
 unfold Pg
 generalize σ.e x=u
 generalize σ.e y=v
 cases u <;> cases v <;> simp [and_assoc]
theorem lX {pos} {dst} {x y} {ts}:opX P pos dst (.call ⟨.builtin .min,List.toArray [x,y],ts⟩) σ K=Pg (fun n m=>if m<n then m else n) (σ.e x) (σ.e y) fun v=>K (σ.put dst v):=by
 rw [F3 (p:=fun v=>Pg (fun n m=>if m<n then m else n) (σ.e x) (σ.e y) fun u=>v=u) (fun _=>by rfl) (fun r=>by
  simp only [Ev,Pg]
  generalize σ.e x=u
  generalize σ.e y=v
  cases u <;> cases v <;> simp [and_assoc])]
 unfold Pg
 generalize σ.e x=u
 generalize σ.e y=v
 cases u <;> cases v <;> simp [and_assoc]
end
attribute [go_sem ↓] bB bC bD bE Sl U6 dX dY dZ da db dc dd de dg dh di dj iE dk Wy dl dp bI bJ bK bN bO iF dr iG dt iH du bL bM dv dx dw ZJ ZK d6 d7 d9 d8 eA iL iO eE eF bR bS
end Go.Proofs.YteckcjgpnegkjaaGreatDoor.Ab
