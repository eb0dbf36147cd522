/-
  The abstract walk as a set of rules for 'simp only [go_sem]': heads that wait, their congruences, one rule an operation.
-/
import Derived.Test.YtnfgeocnolheoaaGreatAbS
namespace Go.Proofs.YtnfgeocnolheoaaGreat.Ab
set_option linter.unusedVariables false
set_option maxHeartbeats 1000000
open Go.RowKit
section
variable {P:Program}
theorem Em {z}:∀ {vs} {σ} {K K'},(∀ds σ,K ds σ→K' ds σ)→BU z vs σ K→BU z vs σ K'
 | [],σ,K,K',hk,h=>by rw [BU] at h ⊢; grind
 | .int k n::vs,σ,K,K',hk,h=>by rw [BU] at h ⊢; exact Em (fun ds σ=>hk _ σ) h
 | .bool b::vs,σ,K,K',hk,h=>by rw [BU] at h ⊢; exact Em (fun ds σ=>hk _ σ) h
 | .str b::vs,σ,K,K',hk,h=>by rw [BU] at h ⊢; exact Em (fun ds σ=>hk _ σ) h
 | .nils ::vs,σ,K,K',hk,h=>by rw [BU] at h ⊢; exact Em (fun ds σ=>hk _ σ) h
 | .nilp ::vs,σ,K,K',hk,h=>by rw [BU] at h ⊢; exact Em (fun ds σ=>hk _ σ) h
 | .ro _::vs,σ,K,K',hk,h=>by rw [BU] at h ⊢; exact⟨h.1,Em (fun ds σ=>hk _ σ) h.2⟩
 | .rop _ _::vs,σ,K,K',hk,h=>by rw [BU] at h ⊢; obtain⟨h1,d,h2,h3⟩:=h; exact⟨h1,d,h2,Em (fun ds σ=>hk _ σ) h3⟩
 | .bsl _ _ _::vs,σ,K,K',hk,h=>by
  rw [BU] at h ⊢
  split at h
  ·rename_i h0
   rw [if_pos h0]
   exact Em (fun ds σ=>hk _ σ) h
  ·rename_i h0
   rw [if_neg h0]
   obtain⟨h1,h2,vs',h3,ds,h4,h5,h6⟩:=h
   exact⟨h1,h2,vs',h3,ds,h4,h5,Em (fun ds σ=>hk _ σ) h6⟩
 | .own t::vs,σ,K,K',hk,h=>by rw [BU] at h ⊢; obtain⟨tk,h1,h2,h3⟩:=h; exact⟨tk,h1,h2,Em (fun ds σ=>hk _ σ) h3⟩
 | .sub _ _ _::vs,σ,K,K',hk,h=>by grind [BU]
 | .els _ _ _ _ _ _::vs,σ,K,K',hk,h=>by grind [BU]
 | .any ::vs,σ,K,K',hk,h=>by grind [BU]
 | .box _ _::vs,σ,K,K',hk,h=>by grind [BU]
 | .elt _ _ _ _::vs,σ,K,K',hk,h=>by grind [BU]
 | .par _ _ _ _::vs,σ,K,K',hk,h=>by grind [BU]
 | .agg _::vs,σ,K,K',hk,h=>by grind [BU]
 | .tup _::vs,σ,K,K',hk,h=>by grind [BU]
 | .fn _ _::vs,σ,K,K',hk,h=>by grind [BU]
 | .mpr _::vs,σ,K,K',hk,h=>by grind [BU]
 | .mpc _ _::vs,σ,K,K',hk,h=>by grind [BU]
theorem Xs {t} {a x} {σ} {K K'} (hk:∀σ,K σ→K' σ) (h:Nx P t a x σ K):Nx P t a x σ K':=by
 unfold Nx at h ⊢
 split at h
 ·obtain⟨h1,h2,h3,h4⟩:=h
  refine⟨h1,h2,h3,?_⟩
  split at h4
  ·grind
  ·grind [Em]
  ·grind [Em]
  omega
 omega
theorem Z2 {z} {e} {sz} {x} {σ} {K K'} (hk:∀r σ,K r σ→K' r σ) (h:Rj z e sz x σ K):Rj z e sz x σ K':=by
 unfold Rj at h ⊢
 split at h
 ·grind
 ·split at h
  ·grind
  ·rename_i h0
   rw [if_neg h0]
   obtain⟨h0,h1,h2,vs',h3,ds,h4,h5,h6⟩:=h
   exact⟨h0,h1,h2,vs',h3,ds,h4,h5,hk _ _ h6⟩
 ·grind
 omega
theorem Z3 {z} {sz} {x} {σ} {K K'} (hk:∀r σ,K r σ→K' r σ) (h:NJ z sz x σ K):NJ z sz x σ K':=by
 unfold NJ at h ⊢
 split at h
 ·grind
 ·grind [Em]
 ·grind
 ·grind
 omega
theorem Z4 {pos} {t} {x y} {σ} {K K'} (hk:∀v σ,K v σ→K' v σ) (h:XT P pos t x y σ K):XT P pos t x y σ K':=by
 unfold XT at h ⊢
 split at h
 ·grind [Z2,Z3]
 omega
theorem Z5 {t} {m i x} {σ} {K K'} (hk:∀σ,K σ→K' σ) (h:Vj P t m i x σ K):Vj P t m i x σ K':=by
 unfold Vj at h ⊢
 grind
theorem cE {pos} {o} {σ} {K K'} (hk:∀σ,K σ→K' σ) (h:aop P pos o σ K):aop P pos o σ K':=by
 unfold aop at h ⊢
 split at h
 ·grind
 ·grind
 ·grind [Xs]
 ·grind [Z5]
 ·grind [Z4]
 grind
theorem JT {K K'} (hk:∀σ,K σ→K' σ):∀ {cv} {σ},CX cv σ K→CX cv σ K'
 | [],σ,h=>by rw [CX] at h ⊢; grind
 | (n,a,z)::cv,σ,h=>by
  cases a with
  |sub t g p=>
   rw [CX] at h ⊢
   obtain⟨h1,h2,h3,tk,rows,h4,h5,h6,h7,h8⟩:=h
   exact⟨h1,h2,h3,tk,rows,h4,h5,h6,h7,JT hk h8⟩
  |nils=>rw [CX] at h ⊢; exact⟨h.1,JT hk h.2⟩
  |bsl b m sz=>rw [CX] at h ⊢; exact⟨h.1,h.2.1,JT hk h.2.2⟩
  |_=>simp [CX] at h
theorem LR:∀ {cv} {σ} {K K'},(∀σ,K σ→K' σ)→Bc cv σ K→Bc cv σ K'
 | [],σ,K,K',hk,h=>by rw [Bc] at h ⊢; grind
 | (n,a,z)::cv,σ,K,K',hk,h=>by
  cases a with
  | sub t g p=>
   rw [Bc] at h ⊢
   refine LR (fun σ h=>?_) h
   cases hn:σ.T n with
   |none=>simp only [hn] at h ⊢; exact hk _ h
   |some tn=>
    simp only [hn] at h ⊢
    obtain⟨tk,h1,h2,h3,h4⟩:=h
    exact⟨tk,h1,h2,h3,hk _ h4⟩
  |_=>
   rw [Bc] at h ⊢
   ·exact LR (fun σ h=>hk _ h) h
   all_goals (intros; simp_all)
theorem Xt {f} {args} {σ} {K K'} (hk:∀v σ,K v σ→K' v σ) (h:Ts P f args σ K):Ts P f args σ K':=by
 obtain⟨y,as,pt,pb,r,qt,qb,h1,h2⟩:=h
 exact⟨y,as,pt,pb,r,qt,qb,h1,JT (fun σ h=>⟨h.1,h.2.1,h.2.2.1,h.2.2.2.1,h.2.2.2.2.1,h.2.2.2.2.2.1,h.2.2.2.2.2.2.1,h.2.2.2.2.2.2.2.1,LR (fun σ h=>hk _ _ h) h.2.2.2.2.2.2.2.2⟩) h2⟩
theorem WM {K K'} (hk:∀a σ,K a σ→K' a σ):∀ {bs} {args} {σ},FzK bs args σ K→FzK bs args σ K'
 | [],args,σ,h=>hk _ _ h
 |b::bs,args,σ,h=>by
  obtain⟨vs,h1,h2,h3⟩:=h
  exact⟨vs,h1,h2,WM hk h3⟩
theorem Xu {f} {args} {σ} {K K'} (hk:∀v σ,K v σ→K' v σ) (h:Yi P f args σ K):Yi P f args σ K':=by
 obtain⟨bs,h⟩:=h
 exact⟨bs,WM (fun _ _ h=>Xt hk h) h⟩
theorem UK {L} {pos} {o} {σ} {K K'} (hk:∀σ,K σ→K' σ) (h:Ro P L pos o σ K):Ro P L pos o σ K':=by
 rcases h with ⟨hA,h⟩|⟨hL,h⟩|⟨hL,hA,r,h1,h2,h3,h4⟩
 ·exact .inl ⟨hA,cE hk h⟩
 ·refine .inr (.inl ⟨hL,?_⟩)
  rcases h with h|h
  ·refine .inl ?_
   unfold MC at h ⊢
   split at h
   ·grind [Xu]
   omega
  ·refine .inr ?_
   unfold SliK at h ⊢
   split at h
   ·split at h
    ·grind
    omega
   omega
 ·exact .inr (.inr ⟨hL,hA,r,h1,h2,h3,hk _ h4⟩)
theorem Hu {ops} {base cut} {K K'} (hk:∀σ,K σ→K' σ):∀ {l} {i} {σ},aops P ops base cut i l σ K→aops P ops base cut i l σ K'
 | [],i,σ,h=>by rw [aops] at h ⊢; grind
 | o::rest,i,σ,h=>by
  rw [aops] at h ⊢
  split at h
  ·exact UK (fun σ h=>Hu hk h) h
  ·obtain⟨s,h1,h⟩:=h
   refine⟨s,h1,?_⟩
   rcases h with ⟨b,h2,h3,h4⟩|⟨h2,h3⟩
   ·exact .inl ⟨b,h2,fun hb=>UK (fun σ h=>Hu hk h) (h3 hb),fun hb=>Hu hk (h4 hb)⟩
   ·exact .inr ⟨h2,Hu hk h3⟩
theorem Z6 {p} {K K'} (hk:∀σ,K σ→K' σ) {σ} (h:seqW p K σ):seqW p K' σ:=by
 unfold seqW at h ⊢
 grind
theorem Oz {P} {ops} {base} {ts}:∀ (tr:Tr) {σ} {K K'},(∀σ,K σ→K' σ)→aTr P ops base ts tr σ K→aTr P ops base ts tr σ K'
 | .fin,σ,K,K',hk,h=>hk σ h
 | .stop,σ,K,K',hk,h=>trivial
 | .fz t,σ,K,K',hk,h=>by
  simp only [aTr] at h ⊢
  obtain⟨σ1,hn,h⟩:=h
  exact⟨σ1,hn,Oz t hk h⟩
 | .br i t more,σ,K,K',hk,h=>by
  simp only [aTr] at h ⊢
  refine⟨?_,Oz more hk h.2⟩
  have h1:=h.1
  split at h1
  ·exact Hu (fun σ' h=>Oz t hk h) h1
  ·exact h1.elim
theorem SS {P} {ops} {base} {r} {i} {o} {acc} {σ} {K K'} (hk:∀acc σ,K acc σ→K' acc σ) (h:MD P ops base r i o acc σ K):MD P ops base r i o acc σ K':=by
 unfold MD at h ⊢
 cases r with
 |no=>grind [Hu]
 |al=>
  grind
 |st k=>
  grind
theorem LS {P} {ops} {base} {V}:∀ (l:List Oper) {E} {i} {ts} {acc} {σ} {K K'},(∀ts acc σ,K ts acc σ→K' ts acc σ)→Fi P ops base V E i l ts acc σ K→Fi P ops base V E i l ts acc σ K'
 | [],E,i,ts,acc,σ,K,K',hk,h=>by grind [Fi]
 |o::l,[],i,ts,acc,σ,K,K',hk,h=>by simp only [Fi] at h ⊢; exact SS (fun acc σ' h=>LS l hk h) h
 |o::l,true::E,i,ts,acc,σ,K,K',hk,h=>by simp only [Fi] at h ⊢; exact LS l hk h
 |o::l,false::E,i,ts,acc,σ,K,K',hk,h=>by simp only [Fi] at h ⊢; exact SS (fun acc σ' h=>LS l hk h) h
theorem Z7 {P} {ops} {base} {draw} {σ} {K K'} (hk:∀σ,K σ→K' σ) (h:ZX P ops base draw σ K):ZX P ops base draw σ K':=by
 unfold ZX at h ⊢
 cases draw with
 |false=>exact Hu hk h
 |true=>
  rcases h with ⟨E,V,tr,hE,h⟩|⟨F,ds,h1,h2,h3,h4⟩
  ·exact .inl ⟨E,V,tr,hE,LS _ (fun ts acc σ h=>⟨h.1,Oz tr hk h.2⟩) h⟩
  ·exact .inr ⟨F,ds,h1,h2,h3,hk _ h4⟩
theorem JU:∀ {c} {Q Q'} {σ},(∀q σ,Q q σ→Q' q σ)→awp P c Q σ→awp P c Q' σ
 | .skip,Q,Q',σ,hq,h=>by rw [awp] at h ⊢; grind
 | .region id ops draw,Q,Q',σ,hq,h=>by rw [awp] at h ⊢; grind [Z7]
 | .seq a b,Q,Q',σ,hq,h=>by
  rw [awp] at h ⊢
  refine JU (fun q σ h=>?_) h
  cases q with
  |normal=>
   have h':seqW (JN a) (awp P b Q) σ:=h
   exact Z6 (K:=awp P b Q) (K':=awp P b Q') (fun σ h=>JU hq h) h'
  |exit id=>exact hq _ _ h
  |ret=>exact hq _ _ h
 | .cond c a b,Q,Q',σ,hq,h=>by
  rw [awp] at h ⊢
  obtain⟨v,h1,h2,h3⟩:=h
  exact⟨v,h1,fun e=>JU hq (h2 e),fun e=>JU hq (h3 e)⟩
 | .block id b,Q,Q',σ,hq,h=>by
  rw [awp] at h ⊢
  refine JU (fun q σ h=>?_) h
  cases q with
  |normal=>exact hq _ _ h
  |exit i=>
   grind [AE.inBlock]
  |ret=>exact hq _ _ h
 | .loop b,Q,Q',σ,hq,h=>by
  rw [awp] at h ⊢
  intro L hL
  refine h L fun σ hσ=>hL σ (JU (fun q σ h=>?_) hσ)
  cases q with
  |normal=>exact h
  |exit id=>exact hq _ _ h
  |ret=>exact hq _ _ h
 | .exit id,Q,Q',σ,hq,h=>by rw [awp] at h ⊢; grind
 | .ret,Q,Q',σ,hq,h=>by rw [awp] at h ⊢; grind
 | .rangeFunc _ _ _ _,Q,Q',σ,hq,h=>by simp [awp] at h
 | .goto _,Q,Q',σ,hq,h=>by simp [awp] at h
 | .label _,Q,Q',σ,hq,h=>by simp [awp] at h
theorem WN {b} {Q} {σ} (h:awp P b (AE.then (fun σ'=>∃σ1,Wk σ' σ1∧awp P (.loop b) Q σ1) Q) σ):awp P (.loop b) Q σ:=by
 rw [awp]
 intro L hL
 refine⟨σ,.nil σ,hL σ (JU (fun q σ h=>?_) h)⟩
 cases q with
 |normal=>
  obtain⟨σ1,h1,h2⟩:=h
  rw [awp] at h2
  obtain⟨σ0,h3,h4⟩:=h2 L hL
  exact⟨σ0,h1.trans h3,h4⟩
 |exit id=>exact h
 |ret=>exact h
end
def Ay {α:Type} (v:α) (K:α→Prop):Prop:=K v
def optX {α:Type} (o:Option α) (K:α→Prop):Prop:=∃x,o=some x∧K x
def AR (p q:Prop):Prop:=p∧q
def MU (b:Bool) (p q:Prop):Prop:=(b=true∧p)∨(b=false∧q)
def ST (b:Bool) (p q:Prop):Prop:=(b=true→p)∧(b=false→q)
structure Wrap {α:Sort _} (a:α):Type where
def lD {α:Type} (v:α) (K:α→Prop) (_:Wrap K):Prop:=K v
def Z8 {α:Type} (o:Option α) (K:α→Prop) (_:Wrap K):Prop:=∃x,o=some x∧K x
def WO (p q:Prop) (_:Wrap q):Prop:=p∧q
def SU (b:Bool) (p q:Prop) (_:Wrap p) (_:Wrap q):Prop:=(b=true→p)∧(b=false→q)
def cF (b:Bool) (p q:Prop) (_:Wrap p) (_:Wrap q):Prop:=MU b p q
@[go_sem ↓] theorem nK {α:Type} {v:α} {K:α→Prop}:Ay v K=lD v K ⟨⟩:=rfl
@[go_sem ↓] theorem nL {α:Type} {o:Option α} {K:α→Prop}:optX o K=Z8 o K ⟨⟩:=rfl
@[go_sem ↓] theorem nM {p q:Prop}:AR p q=WO p q ⟨⟩:=rfl
@[go_sem ↓] theorem lE {b} {p q:Prop}:ST b p q=SU b p q ⟨⟩ ⟨⟩:=rfl
@[go_sem ↓] theorem nN {b} {p q:Prop}:MU b p q=cF b p q ⟨⟩ ⟨⟩:=rfl
@[go_sem] theorem nO {α:Type} {v:α} {K:α→Prop} {w:Wrap K}:lD v K w=K v:=propext Iff.rfl
@[go_sem] theorem jh {α:Type} {x:α} {K:α→Prop} {w:Wrap K}:Z8 (some x) K w=K x:=by simp [Z8]
@[go_sem] theorem ji {α:Type} {K:α→Prop} {w:Wrap K}:Z8 none K w=False:=by simp [Z8]
@[go_sem] theorem jj {q:Prop} {w}:WO True q w=q:=by simp [WO]
@[go_sem] theorem iD {q:Prop} {w}:WO False q w=False:=by simp [WO]
@[go_sem] theorem pH {p:Prop} {w}:WO p True w=p:=by simp [WO]
@[go_sem] theorem iE {p q:Prop} {w} {w'}:SU true p q w w'=p:=by simp [SU]
@[go_sem] theorem gb {p q:Prop} {w} {w'}:SU false p q w w'=q:=by simp [SU]
@[go_sem] theorem jk {p q:Prop} {w} {w'}:cF true p q w w'=p:=by simp [MU,cF]
@[go_sem] theorem iF {p q:Prop} {w} {w'}:cF false p q w w'=q:=by simp [MU,cF]
theorem Hv {α:Type} {x:α} {K:α→Prop}:optX (some x) K=K x:=by simp [optX]
theorem UL {α:Type} {K:α→Prop}:optX none K=False:=by simp [optX]
theorem Bl {p q:Prop} {w} (hp:p) (hq:q):WO p q w:=⟨hp,hq⟩
theorem Am {b} {p q:Prop} {w} {w'} (hp:b=true→p) (hq:b=false→q):SU b p q w w':=⟨hp,hq⟩
theorem Ai {α:Type} {o:Option α} {x:α} {K:α→Prop} {w:Wrap K} (h:o=some x) (hk:K x):Z8 o K w:=⟨x,h,hk⟩
@[go_sem] theorem jl:isMp [] =false:=rfl
@[go_sem] theorem jm {a}:isMp [a] =a.mp?:=rfl
@[go_sem] theorem jn {a b} {l}:isMp (a::b::l)=false:=rfl
@[go_sem] theorem jo:Po [] =true:=rfl
@[go_sem] theorem iG {a} {l}:Po (a::l)=(!a.mp?&&Po l):=rfl
attribute [go_sem] AV.mp?
@[go_sem] theorem iH {α:Type} {j:Nat} {x:α} {l:List (Nat × α)} {i:Nat}:look ((j,x)::l) i=if i=j then some x else look l i:=rfl
@[go_sem] theorem lF {α:Type} {i}:look ([] :List (Nat × α)) i=none:=rfl
@[go_sem] theorem St.T_mk {s t b} {i}:St.T ⟨s,t,b⟩ i=(look t i).join :=rfl
@[go_sem] theorem St.B_mk {s t b} {i}:St.B ⟨s,t,b⟩ i=(look b i).join :=rfl
@[go_sem] theorem St.g_mk {s t b} {i}:St.g ⟨s,t,b⟩ i=(look s i).getD .any :=rfl
@[go_sem] theorem St.t_mk {s t b}:St.t ⟨s,t,b⟩=t:=rfl
@[go_sem] theorem St.b_mk {s t b}:St.b ⟨s,t,b⟩=b:=rfl
@[go_sem] theorem St.s_mk {s t b}:St.s ⟨s,t,b⟩=s:=rfl
@[go_sem] theorem St.e_tmp {σ:St} {t:Tmp}:σ.e (.tmp t)=σ.g t:=rfl
@[go_sem] theorem St.e_func {σ:St} {f:FuncId}:σ.e (.func f)= .fn f [] :=rfl
@[go_sem] theorem St.e_const {σ:St} {v:Value}:σ.e (.const v)=Bf v:=rfl
@[go_sem] theorem nP {k} {n}:Bf (.int k n)= .int k n:=rfl
@[go_sem] theorem lG {b}:Bf (.bool b)= .bool b:=rfl
@[go_sem] theorem nQ {s}:Bf (.string s)= .str s:=rfl
@[go_sem] theorem lH:Bf (.slice none 0 0)= .nils :=rfl
@[go_sem] theorem lI:Bf (.pointer none)= .nilp :=rfl
@[go_sem] theorem nR {cs}:Bf (.agg cs.toArray)= .agg (II cs):=by rfl
@[go_sem] theorem lJ:II [] =[] :=rfl
@[go_sem] theorem jp {v} {vs}:II (v::vs)=Bf v::II vs:=rfl
@[go_sem] theorem lK {s t b} {d} {v}:St.put ⟨s,t,b⟩ (some d) v=⟨(d,v)::s,t,b⟩:=rfl
@[go_sem] theorem lL {σ} {v}:St.put σ none v=σ:=rfl
@[go_sem] theorem lM {s t b} {i}:St.killT ⟨s,t,b⟩ i=⟨s,(i,none)::t,b⟩:=rfl
@[go_sem] theorem nS {s t b} {i} {tk}:St.setT ⟨s,t,b⟩ i tk=⟨s,(i,some tk)::t,b⟩:=rfl
@[go_sem] theorem nT {s t b} {i} {vs}:St.setB ⟨s,t,b⟩ i vs=⟨s,t,(i,some vs)::b⟩:=rfl
attribute [go_sem] Option.join_some Option.join_none Option.getD_some Option.getD_none reduceIte eq_self and_self true_and and_true
attribute [go_sem] List.getElem?_cons_zero List.getElem?_cons_succ List.length_cons List.length_nil List.take_succ_cons List.take_zero List.take_nil List.drop_succ_cons List.drop_zero List.map_cons List.map_nil List.set_cons_zero List.set_cons_succ List.cons_append List.nil_append Option.some.injEq reduceCtorEq TI.isAgg TI.sc AV.one splice List.all_cons List.all_nil Bool.and_self Bool.true_and Bool.and_true
def J1 (P:Program) (ops:Array Oper) (base cut i:Nat) (l:List Oper) (σ:St) (K:St→Prop) (_:Wrap ops) (_:Wrap l) (_:Wrap K) (_:Wrap cut):Prop:=aops P ops base cut i l σ K
@[go_sem ↓] theorem nU {P} {ops} {base cut i} {l} {K} {σ}:aops P ops base cut i l σ K=J1 P ops base cut i l σ K ⟨⟩ ⟨⟩ ⟨⟩ ⟨⟩:=rfl
section
variable {P:Program} {σ:St} {K:St→Prop} {Q:AE→St→Prop}
@[go_sem ↓] theorem pI:awp P .skip Q σ=Q .normal σ:=by rw [awp]
@[go_sem ↓] theorem lN {id} {l}:awp P (.region id l.toArray false) Q σ=aops P l.toArray (id*1000+1000) 0 0 l σ (Q .normal):=by rw [awp]; rfl
def cG (P:Program) (id:Nat) (l:List Oper) (Q:AE→St→Prop) (σ:St) (_:Wrap l) (_:Wrap Q) (_:Wrap σ):Prop:=ZX P l.toArray (id*1000+1000) true σ (Q .normal)
@[go_sem ↓] theorem pJ {id} {l}:awp P (.region id l.toArray true) Q σ=cG P id l Q σ ⟨⟩ ⟨⟩ ⟨⟩:=by rw [awp]; rfl
theorem AW {id} {l} {w1} {w2} {w3} (E:List Bool) (tr:Tr) (h:Mz E [] tr l.toArray=true) (k:Fi P l.toArray (id*1000+1000) [] E 0 l [] [] σ fun ts acc σ'=>ZV acc σ' fun σ'=>aTr P l.toArray (id*1000+1000) ts tr σ' (Q .normal)):cG P id l Q σ w1 w2 w3:=.inl ⟨E,[],tr,h,k⟩
def Hm (s:List (Nat × AV)) (t:Nat) (v:AV):Prop:=v= .any ∨look s t=some v
@[go_sem] theorem nV {s}:leS s [] =True:=rfl
@[go_sem] theorem lO {s t v r}:leS s ((t,v)::r)=(Hm s t v∧leS s r):=rfl
@[go_sem] theorem nW {s:List (Nat × AV)} {t:Nat} {b:Bool} {v:AV}:Hm s t (if b=true then v else .any)=(b=true→Hm s t v):=propext (by cases b <;> simp [Hm])
def leO1 {α:Type} (s:List (Nat × Option α)) (t:Nat) (v:Option α):Prop:=v=none∨look s t=some v
@[go_sem] theorem nX {α:Type} {s:List (Nat × Option α)}:leO s [] =True:=rfl
@[go_sem] theorem lP {α:Type} {s:List (Nat × Option α)} {t v r}:leO s ((t,v)::r)=(leO1 s t v∧leO s r):=rfl
@[go_sem] theorem iI {α:Type} {s:List (Nat × α)}:Ij s [] =True:=rfl
@[go_sem] theorem gc {α:Type} {s:List (Nat × α)} {t v r}:Ij s ((t,v)::r)=((look s t).isSome =true∧Ij s r):=rfl
@[go_sem] theorem St.Le_mk {s t b s' t' b'}:St.Le ⟨s,t,b⟩ ⟨s',t',b'⟩=(leS s s'∧(leO t t'∧Ij t' t)∧leO b b'∧Ij b' b):=rfl
@[go_sem] theorem EL {S}:ZW S [] =True:=rfl
@[go_sem] theorem DX {S j r}:ZW S (j::r)=(S j=true∧ZW S r):=rfl
def optK {α:Type} (b:Bool) (p:Nat × α) (r:List (Nat × α)):List (Nat × α):=if b=true then p::r else r
@[go_sem] theorem pK {α:Type} {p:Nat × α} {r}:optK true p r=p::r:=rfl
@[go_sem] theorem pL {α:Type} {p:Nat × α} {r}:optK false p r=r:=rfl
@[go_sem] theorem jq {α:Type} {b:Bool} {t:Nat} {v:α} {r} {x:Nat}:look (optK b (t,v) r) x=if x=t then (if b=true then some v else look r x) else look r x:=by
 grind [optK,AJ]
@[go_sem] theorem lQ {α:Type} {s:List (Nat × Option α)} {b:Bool} {t:Nat} {v:Option α} {r}:leO s (optK b (t,v) r)=((b=true→leO1 s t v)∧leO s r):=by
 cases b <;> simp [optK,leO,leO1]
@[go_sem] theorem gd {α:Type} {s:List (Nat × α)} {b:Bool} {t:Nat} {v:α} {r}:Ij s (optK b (t,v) r)=((b=true→(look s t).isSome =true)∧Ij s r):=by
 cases b <;> simp [optK,Ij]
theorem Fq {ops:Array Oper} {base:Nat} {F:(Nat→Bool)→St} {i:Nat} {o:Oper} {os:List Oper} {d:List Nat} {ds:List (List Nat)} (h:(d.all fun j=>o.after.any fun e=>Region.binds .any e&&e.on == j)=true) (k:∀S:Nat→Bool,S i=false→ZW S d→aops P ops base 0 i [o] (F S) fun σ'=>St.Le σ' (F fun j=>if j=i then true else S j))
  (r:LH P ops base F (i+1) os ds):LH P ops base F i (o::os) (d::ds):=⟨⟨h,k⟩,r⟩
theorem lR {ops:Array Oper} {base:Nat} {F:(Nat→Bool)→St} {i:Nat} {ds:List (List Nat)}:LH P ops base F i [] ds:=trivial
theorem iJ {id} {l} {w1} {w2} {w3} (F:(Nat→Bool)→St) (ds:List (List Nat)) (h:eH l=true) (h1:St.Le σ (F fun j=>decide (l.length≤j))) (h2:LH P l.toArray (id*1000+1000) F 0 l ds) (k:Q .normal (F fun _=>true)):cG P id l Q σ w1 w2 w3:=.inr ⟨F,ds,h,h1,h2,k⟩
def iK (acc:List (Nat × List AV)) (σ:St) (K:St→Prop) (_:Wrap σ) (_:Wrap K):Prop:=ZV acc σ K
@[go_sem ↓] theorem nY {acc} {σ} {K}:ZV acc σ K=iK acc σ K ⟨⟩ ⟨⟩:=rfl
@[go_sem] theorem lS {σ} {K} {w1 w2}:iK [] σ K w1 w2=K σ:=by
 simp [iK,ZV,Ej,addB]
attribute [go_sem] addB
def Ik (P:Program) (ops:Array Oper) (base:Nat) (V:List (Nat × Nat)) (E:List Bool) (i:Nat) (l:List Oper) (ts:List (Nat × Oper)) (acc:List (Nat × List AV)) (σ:St) (K:List (Nat × Oper)→List (Nat × List AV)→St→Prop) (_:Wrap ops) (_:Wrap l) (_:Wrap ts) (_:Wrap K) (_:Wrap V) (_:Wrap acc):Prop:=Fi P ops base V E i l ts acc σ K
def Xv (P:Program) (ops:Array Oper) (base:Nat) (r:VR) (i:Nat) (o:Oper) (acc:List (Nat × List AV)) (σ:St) (K:List (Nat × List AV)→St→Prop):Prop:=MD P ops base r i o acc σ K
def Uv (P:Program) (ops:Array Oper) (base:Nat) (r:VR) (i:Nat) (o:Oper) (acc:List (Nat × List AV)) (σ:St) (K:List (Nat × List AV)→St→Prop) (_:Wrap ops) (_:Wrap o) (_:Wrap acc) (_:Wrap σ) (_:Wrap K):Prop:=MD P ops base r i o acc σ K
section
variable {ops:Array Oper} {base i:Nat} {V:List (Nat × Nat)} {E:List Bool} {ts:List (Nat × Oper)} {acc:List (Nat × List AV)} {H:List (Nat × Oper)→List (Nat × List AV)→St→Prop} {o:Oper} {l:List Oper} {w1:Wrap ops} {w3:Wrap ts} {w4:Wrap H} {w5:Wrap V} {w6:Wrap acc}
@[go_sem ↓] theorem lT:Fi P ops base V E i l ts acc σ H=Ik P ops base V E i l ts acc σ H ⟨⟩ ⟨⟩ ⟨⟩ ⟨⟩ ⟨⟩ ⟨⟩:=rfl
@[go_sem] theorem qI {w2}:Ik P ops base V E i [] ts acc σ H w1 w2 w3 w4 w5 w6=H ts acc σ:=by rfl
@[go_sem] theorem pM {w2}:Ik P ops base V (true::E) i (o::l) ts acc σ H w1 w2 w3 w4 w5 w6=Fi P ops base V E (i+1) l ((i,o)::ts) acc σ H:=rfl
@[go_sem] theorem nZ {w2}:Ik P ops base V (false::E) i (o::l) ts acc σ H w1 w2 w3 w4 w5 w6=Xv P ops base (CV V i) i o acc σ fun acc' σ'=>Fi P ops base V E (i+1) l ts acc' σ' H:=rfl
@[go_sem] theorem qJ {w2}:Ik P ops base V [] i (o::l) ts acc σ H w1 w2 w3 w4 w5 w6=Xv P ops base (CV V i) i o acc σ fun acc' σ'=>Fi P ops base V [] (i+1) l ts acc' σ' H:=rfl
@[go_sem] theorem iL {x} {xs b} {w2}:Ik P ops base V E i (List.append (x::xs) b) ts acc σ H w1 w2 w3 w4 w5 w6=Ik P ops base V E i (x::List.append xs b) ts acc σ H w1 ⟨⟩ w3 w4 w5 w6:=rfl
@[go_sem] theorem jr {b} {w2}:Ik P ops base V E i (List.append [] b) ts acc σ H w1 w2 w3 w4 w5 w6=Ik P ops base V E i b ts acc σ H w1 ⟨⟩ w3 w4 w5 w6:=rfl
@[go_sem] theorem js {a b c} {w2}:Ik P ops base V E i (List.append (List.append a b) c) ts acc σ H w1 w2 w3 w4 w5 w6=Ik P ops base V E i (List.append a (List.append b c)) ts acc σ H w1 ⟨⟩ w3 w4 w5 w6:=by
 unfold Ik; rw [show List.append (List.append a b) c=List.append a (List.append b c) from List.append_assoc a b c]
@[go_sem ↓] theorem lU {r} {K}:Xv P ops base r i o acc σ K=Uv P ops base r i o acc σ K ⟨⟩ ⟨⟩ ⟨⟩ ⟨⟩ ⟨⟩:=rfl
attribute [go_sem] CV
@[go_sem] theorem lV {K} {w1 w2 w3 w4 w5}:Uv P ops base .no i o acc σ K w1 w2 w3 w4 w5=aops P ops base (i+1) i [o] σ (K acc):=rfl
@[go_sem] theorem lW {K} {dst} {t ty} {ps} {af} {w1 w2 w3 w4 w5}:Uv P ops base .al i ⟨dst,.alloc t,ty,ps,af,none⟩ acc σ K w1 w2 w3 w4 w5=AR (0<(tz P t).length ∧(tz P t).length =tsz P t∧isMp ((tz P t).map zAV)=false) (K acc (σ.put dst (.box (base+i) 0))):=rfl
def stV (P:Program) (base k:Nat) (t:TypeId) (x a:AV) (dst:Option Tmp) (acc:List (Nat × List AV)) (σ:St) (K:List (Nat × List AV)→St→Prop):Prop:=match cellsOf x with
 |some cs=>(cs.length=tsz P t∧0<tsz P t∧cs.all AV.one=true)∧a= .box (base+k) 0∧K ((base+k,cs)::acc) (σ.put dst .any)
 |none=>False
@[go_sem] theorem lX {K} {k} {dst} {t ty} {a x} {ps} {af} {w1 w2 w3 w4 w5}:Uv P ops base (.st k) i ⟨dst,.store t a x,ty,ps,af,none⟩ acc σ K w1 w2 w3 w4 w5=Ay (σ.e x) fun x=>Ay (σ.e a) fun a=>stV P base k t x a dst acc σ K:=rfl
def pN (P:Program) (base k:Nat) (t:TypeId) (x a:AV) (dst:Option Tmp) (acc:List (Nat × List AV)) (σ:St) (K:List (Nat × List AV)→St→Prop) (_:Wrap x) (_:Wrap a) (_:Wrap acc) (_:Wrap σ) (_:Wrap K):Prop:=stV P base k t x a dst acc σ K
@[go_sem ↓] theorem pO {k} {t} {x a} {dst} {K}:stV P base k t x a dst acc σ K=pN P base k t x a dst acc σ K ⟨⟩ ⟨⟩ ⟨⟩ ⟨⟩ ⟨⟩:=rfl
def trX (o:Option Oper) (f:Oper→Prop):Prop:=match o with
 |some o=>f o
 |none=>False
def trY (o:Option Oper) (f:Oper→Prop) (_:Wrap f):Prop:=trX o f
@[go_sem ↓] theorem pP {x} {f}:trX x f=trY x f ⟨⟩:=rfl
@[go_sem] theorem lY {f} {w}:trY (some o) f w=f o:=rfl
def iM (p q:Prop):Prop:=p∧q
def lZ (p q:Prop) (_:Wrap p) (_:Wrap q):Prop:=p∧q
@[go_sem ↓] theorem na {p q:Prop}:iM p q=lZ p q ⟨⟩ ⟨⟩:=rfl
theorem Au {p q:Prop} {w} {w'} (hp:p) (hq:q):lZ p q w w':=⟨hp,hq⟩
def Q4 (P:Program) (ops:Array Oper) (base:Nat) (ts:List (Nat × Oper)) (tr:Tr) (σ:St) (K:St→Prop) (_:Wrap ops) (_:Wrap ts) (_:Wrap K):Prop:=aTr P ops base ts tr σ K
@[go_sem ↓] theorem pQ {tr}:aTr P ops base ts tr σ K=Q4 P ops base ts tr σ K ⟨⟩ ⟨⟩ ⟨⟩:=rfl
@[go_sem] theorem pR {w3} {w4}:Q4 P ops base ts .fin σ K w1 w3 w4=K σ:=rfl
theorem lc {t} {w1} {w3} {w4} {σ1} (hn:Nils σ σ1) (k:aTr P ops base ts t σ1 K):Q4 P ops base ts (.fz t) σ K w1 w3 w4:=by
 grind [Q4,aTr]
@[go_sem] theorem pS {t} {w3} {w4}:Q4 P ops base ts (.br i t .stop) σ K w1 w3 w4=trX (look ts i) fun o=>aops P ops base 0 i [o] σ fun σ'=>aTr P ops base ts t σ' K:=by
 grind [Q4,trX,aTr]
@[go_sem] theorem pT {t u m} {j} {w3} {w4}:Q4 P ops base ts (.br i t (.br j u m)) σ K w1 w3 w4=iM (aTr P ops base ts (.br i t .stop) σ K) (aTr P ops base ts (.br j u m) σ K):=by
 grind [Q4,iM,aTr]
@[go_sem] theorem pU {t} {w3} {w4}:Q4 P ops base ts (Tr.sq [] t) σ K w1 w3 w4=Q4 P ops base ts t σ K w1 w3 w4:=rfl
@[go_sem] theorem qK {t} {is} {w3} {w4}:Q4 P ops base ts (Tr.sq (i::is) t) σ K w1 w3 w4=Q4 P ops base ts (.br i (Tr.sq is t) .stop) σ K w1 w3 w4:=rfl
end
def eS (p:Bool) (K:St→Prop) (σ:St):Prop:=seqW p K σ
def WP (p:Bool) (K:St→Prop) (σ:St) (_:Wrap K) (_:Wrap σ):Prop:=seqW p K σ
@[go_sem ↓] theorem nc {p}:eS p K σ=WP p K σ ⟨⟩ ⟨⟩:=rfl
@[go_sem] theorem jt {w1} {w2}:WP true K σ w1 w2=K σ:=rfl
theorem BF {w1} {w2} (h:K σ):WP false K σ w1 w2:=⟨σ,.nil σ,h⟩
theorem SV {w1} {w2} {σ1} (hn:Nils σ σ1) (h:K σ1):WP false K σ w1 w2:=⟨σ1,.fz hn (.nil σ1),h⟩
theorem Xw {w1} {w2} {σ1} (h:K σ1) (hw:Wk σ σ1):WP false K σ w1 w2:=⟨σ1,hw,h⟩
@[go_sem] theorem eU {id:Nat} {l:List Oper}:JN (.region id l.toArray false)=l.all fun o=>o.guard.isNone&&hC o.op:=rfl
attribute [go_sem] hC Bool.and_true Bool.true_and Bool.and_false Bool.false_and
@[go_sem] theorem iN {id:Nat} {l:List Oper}:JN (.region id l.toArray true)=false:=rfl
@[go_sem] theorem iO:JN .skip =false:=rfl
@[go_sem] theorem ju {a b}:JN (.seq a b)=false:=rfl
@[go_sem] theorem iP {c} {a b}:JN (.cond c a b)=false:=rfl
@[go_sem] theorem gg {id} {a}:JN (.block id a)=false:=rfl
@[go_sem] theorem iQ {a}:JN (.loop a)=false:=rfl
@[go_sem] theorem iR {id}:JN (.exit id)=false:=rfl
@[go_sem] theorem jv:JN .ret =false:=rfl
attribute [go_sem] Option.isNone_none Option.isNone_some List.all_cons List.all_nil
@[go_sem ↓] theorem qL {a b}:awp P (.seq a b) Q σ=awp P a (AE.then (eS (JN a) (awp P b Q)) Q) σ:=by rw [awp]; rfl
@[go_sem ↓] theorem pV {c} {a b}:awp P (.cond c a b) Q σ=Ay (σ.e c) fun v=>Yj v (awp P a Q σ) (awp P b Q σ):=by rw [awp]; rfl
@[go_sem ↓] theorem nf {id} {c}:awp P (.block id c) Q σ=awp P c (AE.inBlock id Q) σ:=by rw [awp]
@[go_sem ↓] theorem pW {id}:awp P (.exit id) Q σ=Q (.exit id) σ:=by rw [awp]
@[go_sem ↓] theorem qM:awp P .ret Q σ=Q .ret σ:=by rw [awp]
@[go_sem] theorem Xx {b} {p q:Prop}:Yj (.bool b) p q=ST b p q:=by simp [Yj,ST]
@[go_sem ↓] theorem gh {n}:AE.then n Q .normal σ=n σ:=rfl
@[go_sem ↓] theorem jw {n} {id}:AE.then n Q (.exit id) σ=Q (.exit id) σ:=rfl
@[go_sem ↓] theorem ld {n}:AE.then n Q .ret σ=Q .ret σ:=rfl
@[go_sem ↓] theorem eV {id}:AE.inBlock id Q .normal σ=Q .normal σ:=rfl
@[go_sem ↓] theorem jx {id}:AE.inBlock id Q .ret σ=Q .ret σ:=rfl
def WQ (P:Program) (b:Code) (Q:AE→St→Prop) (σ:St) (_:Wrap b) (_:Wrap Q):Prop:=awp P (.loop b) Q σ
def lpX (P:Program) (b:Code) (Q:AE→St→Prop) (σ:St):Prop:=∃σ1,Wk σ σ1∧awp P (.loop b) Q σ1
def lpY (P:Program) (b:Code) (Q:AE→St→Prop) (σ:St) (_:Wrap b) (_:Wrap Q) (_:Wrap σ):Prop:=∃σ1,Wk σ σ1∧awp P (.loop b) Q σ1
@[go_sem ↓] theorem pX {b}:lpX P b Q σ=lpY P b Q σ ⟨⟩ ⟨⟩ ⟨⟩:=rfl
theorem Ne {b} {w1} {w2} {w3} {σ1} (h:awp P (.loop b) Q σ1) (hw:Wk σ σ1):lpY P b Q σ w1 w2 w3:=⟨σ1,hw,h⟩
theorem AT {b} {w1} {w2} (h:awp P b (AE.then (lpX P b Q) Q) σ):WQ P b Q σ w1 w2:=WN h
@[go_sem ↓] theorem jy {b}:awp P (.loop b) Q σ=WQ P b Q σ ⟨⟩ ⟨⟩:=rfl
@[go_sem ↓] theorem iS {id i}:AE.inBlock id Q (.exit i) σ=MU (decide (i=id)) (Q .normal σ) (Q (.exit i) σ):=by
 simp only [AE.inBlock,MU]
 by_cases h:i=id <;> simp [h]
attribute [go_sem] decide_true decide_false
def opX (P:Program) (pos:Nat) (dst:Option Tmp) (op:Op) (σ:St) (K:St→Prop):Prop:=aop P pos ⟨dst,op,0, "",#[],none⟩ σ K
def opL (P:Program) (L:Bool) (pos:Nat) (dst:Option Tmp) (op:Op) (σ:St) (K:St→Prop) (_:Wrap L):Prop:=Ro P L pos ⟨dst,op,0, "",#[],none⟩ σ K
@[go_sem] theorem qN {ops} {base cut i} {w1} {w2} {w3} {w4}:J1 P ops base cut i [] σ K w1 w2 w3 w4=K σ:=by rw [J1,aops]
@[go_sem] theorem pY {ops} {base cut i} {dst} {op} {type} {ps} {after} {rest} {w1} {w2} {w3} {w4}:
  J1 P ops base cut i (⟨dst,op,type,ps,after,none⟩::rest) σ K w1 w2 w3 w4=opL P (decide (cut≤i)) (base+i) dst op σ (fun σ'=>aops P ops base cut (i+1) rest σ' K) ⟨⟩:=by
 rw [J1,aops]; rfl
def Kh (ops:Array Oper) (j:Nat) (K:Tmp→Prop):Prop:=optX (Iv ops j) K
@[go_sem ↓] theorem Xy {dst} {op} {type} {ps} {after} {g} {rest} {K}:Kh (List.toArray (⟨some dst,op,type,ps,after,g⟩::rest)) 0 K=K dst:=by
 simp [Kh,Iv,optX]
@[go_sem ↓] theorem Xz {o} {rest} {j} {K}:Kh (List.toArray (o::rest)) (j+1) K=Kh rest.toArray j K:=by
 simp [Kh,Iv]
def OG (v:AV) (want:Bool) (p q q':Prop):Prop:=(∃b,v= .bool b∧(b=want→p)∧(b= !want→q))∨(v= .tup [] ∧q')
@[go_sem ↓] theorem WR {b} {p q q':Prop}:OG (.bool b) true p q q'=ST b p q:=by simp [OG,ST]
@[go_sem ↓] theorem Uw {b} {p q q':Prop}:OG (.bool b) false p q q'=ST b q p:=by
 grind [OG,ST]
@[go_sem ↓] theorem Z9 {want} {p q q':Prop}:OG (.tup []) want p q q'=q':=by simp [OG]
@[go_sem] theorem ng {ops} {base cut i} {dst} {op} {type} {ps} {after} {j} {want} {rest} {w1} {w2} {w3} {w4}:
  J1 P ops base cut i (⟨dst,op,type,ps,after,some (j,want)⟩::rest) σ K w1 w2 w3 w4=Kh ops j fun s=>Ay (σ.g s) fun v=>OG v want
   (opL P (decide (cut≤i)) (base+i) dst op (σ.put (some s) (.bool want)) (fun σ'=>aops P ops base cut (i+1) rest σ' K) ⟨⟩)
   (aops P ops base cut (i+1) rest ((σ.put (some s) (.bool (!want))).put dst (.tup [])) K)
   (aops P ops base cut (i+1) rest (σ.put dst (.tup [])) K):=by
 rw [J1,aops]
 rfl
section
variable {L:Bool} {pos:Nat} {dst:Option Tmp} {wL:Wrap L}
theorem DJ {op} (h:∀ (σ:St) (K:St→Prop),MC P ⟨dst,op,0, "",#[],none⟩ σ K=False) (hA:Rn ⟨dst,op,0, "",#[],none⟩=false:=by rfl) (hS:SliK P pos ⟨dst,op,0, "",#[],none⟩ σ K=False:=by rfl):opL P L pos dst op σ K wL=opX P pos dst op σ K:=by
 grind [opL,Ro,opX]
@[go_sem ↓] theorem lf {x}:opL P L pos dst (.move x) σ K wL=opX P pos dst (.move x) σ K:=DJ fun _ _=>rfl
@[go_sem ↓] theorem iT {x}:opL P L pos dst (.assign x) σ K wL=opX P pos dst (.assign x) σ K:=DJ fun _ _=>rfl
@[go_sem ↓] theorem lg {a b c}:opL P L pos dst (.pick c a b) σ K wL=opX P pos dst (.pick c a b) σ K:=DJ fun _ _=>rfl
@[go_sem ↓] theorem lh {t} {a}:opL P L pos dst (.load t a) σ K wL=opX P pos dst (.load t a) σ K:=DJ fun _ _=>rfl
@[go_sem ↓] theorem eW {x}:opL P L pos dst (.nilCheck x) σ K wL=opX P pos dst (.nilCheck x) σ K:=DJ fun _ _=>rfl
@[go_sem ↓] theorem nh {op} {t t'} {x y}:opL P L pos dst (.binOp op t x y t') σ K wL=opX P pos dst (.binOp op t x y t') σ K:=DJ fun _ _=>rfl
@[go_sem ↓] theorem pZ {op} {t} {x}:opL P L pos dst (.unOp op t x) σ K wL=opX P pos dst (.unOp op t x) σ K:=DJ fun _ _=>rfl
@[go_sem ↓] theorem gi {s d} {x}:opL P L pos dst (.convert s d x) σ K wL=opX P pos dst (.convert s d x) σ K:=DJ fun _ _=>rfl
@[go_sem ↓] theorem d9 {s} {x} {f}:opL P L pos dst (.fieldAddr s x f) σ K wL=opX P pos dst (.fieldAddr s x f) σ K:=DJ fun _ _=>rfl
@[go_sem ↓] theorem jz {s} {x} {f}:opL P L pos dst (.field s x f) σ K wL=opX P pos dst (.field s x f) σ K:=DJ fun _ _=>rfl
@[go_sem ↓] theorem eA {t} {x i}:opL P L pos dst (.indexAddr t x i) σ K wL=opX P pos dst (.indexAddr t x i) σ K:=DJ fun _ _=>rfl
@[go_sem ↓] theorem j0 {t} {x i}:opL P L pos dst (.index t x i) σ K wL=opX P pos dst (.index t x i) σ K:=DJ fun _ _=>rfl
def X0 (P:Program) (L:Bool) (pos:Nat) (dst:Option Tmp) (op:Op) (v:AV) (σ:St) (K:St→Prop):Prop:=opX P pos dst op σ K∨(L=true∧(match v with| .own _=>True|_=>False)∧SliK P pos ⟨dst,op,0, "",#[],none⟩ σ K)
def cH (P:Program) (L:Bool) (pos:Nat) (dst:Option Tmp) (op:Op) (v:AV) (σ:St) (K:St→Prop) (_:Wrap σ) (_:Wrap K) (_:Wrap op):Prop:=X0 P L pos dst op v σ K
@[go_sem ↓] theorem ni {op} {v}:X0 P L pos dst op v σ K=cH P L pos dst op v σ K ⟨⟩ ⟨⟩ ⟨⟩:=rfl
@[go_sem] theorem nj {op} {rows} {w1 w2 w3}:cH P L pos dst op (.ro rows) σ K w1 w2 w3=opX P pos dst op σ K:=by simp [cH,X0]
@[go_sem] theorem li {op} {s} {w1 w2 w3}:cH P L pos dst op (.str s) σ K w1 w2 w3=opX P pos dst op σ K:=by simp [cH,X0]
theorem aA {t} {x} {l h m}:opL P L pos dst (.slice t x l h m) σ K wL=X0 P L pos dst (.slice t x l h m) (σ.e x) σ K:=by
 have h1:MC P ⟨dst,.slice t x l h m,0, "",#[],none⟩ σ K=False:=rfl
 have h2:Rn ⟨dst,.slice t x l h m,0, "",#[],none⟩=false:=rfl
 have h3:SliK P pos ⟨dst,.slice t x l h m,0, "",#[],none⟩ σ K=((match σ.e x with| .own _=>True|_=>False)∧SliK P pos ⟨dst,.slice t x l h m,0, "",#[],none⟩ σ K):=by
  grind [SliK]
 grind [opL,Ro,X0,opX]
@[go_sem ↓] theorem iU {t} {x} {l h m}:opL P L pos dst (.slice t x l h m) σ K wL=Ay (σ.e x) fun v=>X0 P L pos dst (.slice t x l h m) v σ K:=aA
@[go_sem ↓] theorem gj {x} {i}:opL P L pos dst (.extract x i) σ K wL=opX P pos dst (.extract x i) σ K:=DJ fun _ _=>rfl
@[go_sem ↓] theorem eX {c} {a b}:opL P L pos dst (.makeFunc c a b) σ K wL=opX P pos dst (.makeFunc c a b) σ K:=DJ fun _ _=>rfl
@[go_sem ↓] theorem nl {t} {x}:opL P L pos dst (.box t x) σ K wL=opX P pos dst (.box t x) σ K:=DJ fun _ _=>rfl
@[go_sem ↓] theorem j5 {t}:opL P L pos dst (.alloc t) σ K wL=opX P pos dst (.alloc t) σ K:=DJ fun _ _=>rfl
@[go_sem ↓] theorem j6 {t} {ps}:opL P L pos dst (.build t ps) σ K wL=opX P pos dst (.build t ps) σ K:=DJ fun _ _=>rfl
@[go_sem ↓] theorem cI {t} {n} {ps}:opL P L pos dst (.buildSlice t n ps) σ K wL=opX P pos dst (.buildSlice t n ps) σ K:=DJ fun _ _=>rfl
@[go_sem ↓] theorem eC {t} {l c}:opL P L pos dst (.makeSlice t l c) σ K wL=opX P pos dst (.makeSlice t l c) σ K:=DJ fun _ _=>rfl
@[go_sem ↓] theorem gk {t} {r}:opL P L pos dst (.makeMap t r) σ K wL=opX P pos dst (.makeMap t r) σ K:=DJ fun _ _=>rfl
@[go_sem ↓] theorem iV {t} {x i} {ok}:opL P L pos dst (.lookup t x i ok) σ K wL=opX P pos dst (.lookup t x i ok) σ K:=DJ fun _ _=>rfl
@[go_sem ↓] theorem eD {t} {m i x}:opL P L pos dst (.mapUpdate t m i x) σ K wL=opX P pos dst (.mapUpdate t m i x) σ K:=DJ fun _ _=>rfl
@[go_sem ↓] theorem j7 {t} {a x}:opL P L pos dst (.store t a x) σ K wL=opX P pos dst (.store t a x) σ K:=DJ fun _ _=>rfl
@[go_sem ↓] theorem np {as} {ts}:opL P L pos dst (.call ⟨.builtin .len,as,ts⟩) σ K wL=opX P pos dst (.call ⟨.builtin .len,as,ts⟩) σ K:=DJ fun _ _=>rfl
@[go_sem ↓] theorem nq {as} {ts}:opL P L pos dst (.call ⟨.builtin .max,as,ts⟩) σ K wL=opX P pos dst (.call ⟨.builtin .max,as,ts⟩) σ K:=DJ fun _ _=>rfl
@[go_sem ↓] theorem nr {as} {ts}:opL P L pos dst (.call ⟨.builtin .min,as,ts⟩) σ K wL=opX P pos dst (.call ⟨.builtin .min,as,ts⟩) σ K:=DJ fun _ _=>rfl
def opE (P:Program) (pos:Nat) (dst:Option Tmp) (op:Op) (σ:St) (K:St→Prop):Prop:=∃r,Ev P pos ⟨dst,op,0, "",#[],none⟩ σ.e σ.T σ.B r∧Dd σ r.t∧Ej σ r.b∧K (σ.add dst r)
def aB (L:Bool) (p q:Prop) (_:Wrap p) (_:Wrap q):Prop:=(L=true∧p)∨(L=false∧q)
@[go_sem] theorem j8 {p q:Prop} {w1} {w2}:aB true p q w1 w2=p:=by simp [aB]
@[go_sem] theorem iW {p q:Prop} {w1} {w2}:aB false p q w1 w2=q:=by simp [aB]
@[go_sem ↓] theorem iX {as} {ts}:opL P L pos dst (.call ⟨.builtin .append,as,ts⟩) σ K wL=aB L (opX P pos dst (.call ⟨.builtin .append,as,ts⟩) σ K) (opE P pos dst (.call ⟨.builtin .append,as,ts⟩) σ K) ⟨⟩ ⟨⟩:=by
 grind [MC,Rn,SliK,opL,Ro,opX,aB,opE]
end
attribute [go_sem] Bool.not_true Bool.not_false Nat.zero_le
theorem G8 {pos:Nat} {dst:Option Tmp} {op:Op} (h:∀K',aop P pos ⟨dst,op,0, "",#[],none⟩ σ K'=∃r,Ev P pos ⟨dst,op,0, "",#[],none⟩ σ.e σ.T σ.B r∧Dd σ r.t∧Ej σ r.b∧K' (σ.add dst r)) {p:AV→Prop} (hp:∀r,Ev P pos ⟨dst,op,0, "",#[],none⟩ σ.e σ.T σ.B r=∃v,p v∧r=⟨v,[],[]⟩):
  opX P pos dst op σ K=∃v,p v∧K (σ.put dst v):=by
 unfold opX
 rw [h]
 refine propext ⟨?_,?_⟩
 ·rintro ⟨r,h1,h2,h3,h4⟩
  rw [hp] at h1
  obtain⟨v,h5,rfl⟩:=h1
  exact⟨v,h5,by cases dst <;> exact h4⟩
 ·rintro ⟨v,h5,h4⟩
  exact⟨⟨v,[],[]⟩,by rw [hp]; grind,trivial,trivial,by cases dst <;> exact h4⟩
@[go_sem ↓] theorem pa {pos:Nat} {dst:Option Tmp} {x:Operand}:opX P pos dst (.move x) σ K=Ay (σ.e x) fun v=>K (σ.put dst v):=by
 rw [G8 (p:=fun v=>v=σ.e x) (fun _=>by rfl) (fun r=>by simp [Ev])]
 simp [Ay]
@[go_sem ↓] theorem lj {pos:Nat} {dst:Option Tmp} {x:Operand}:opX P pos dst (.assign x) σ K=Ay (σ.e x) fun v=>K (σ.put dst v):=by
 rw [G8 (p:=fun v=>v=σ.e x) (fun _=>by rfl) (fun r=>by simp [Ev])]
 simp [Ay]
def SW (c a b:AV) (K:AV→Prop):Prop:=∃t,c= .bool t∧K (if t=true then a else b)
@[go_sem] theorem X1 {a b} {K}:SW (.bool true) a b K=K a:=by simp [SW]
@[go_sem] theorem WS {a b} {K}:SW (.bool false) a b K=K b:=by simp [SW]
theorem iY {pos:Nat} {dst:Option Tmp} {c a b:Operand}:opX P pos dst (.pick c a b) σ K=SW (σ.e c) (σ.e a) (σ.e b) fun v=>K (σ.put dst v):=by
 rw [G8 (p:=fun v=>∃t,σ.e c= .bool t∧v=if t=true then σ.e a else σ.e b) (fun _=>by rfl) (fun r=>by
  grind [Ev])]
 grind [SW]
def MV (P:Program) (t:TypeId) (a:AV) (σ:St) (K:AV→Prop):Prop:=∃v,JL P σ.T σ.B t a v∧K v
def ldX (P:Program) (t:TypeId) (off:Nat) (vs:List AV) (K:AV→Prop):Prop:=
 MU (ti P t).isAgg (AR (off+tsz P t≤vs.length) (Ay (.agg (Fg vs off (tsz P t))) K)) (AR ((ti P t).sc =true) (optX vs[off]? K))
theorem iZ {pos:Nat} {dst:Option Tmp} {t:TypeId} {a:Operand}:opX P pos dst (.load t a) σ K=MV P t (σ.e a) σ fun v=>K (σ.put dst v):=
 G8 (p:=fun v=>JL P σ.T σ.B t (σ.e a) v) (fun _=>by rfl) (fun r=>by rfl)
@[go_sem] theorem aC {t} {b off} {K}:MV P t (.box b off) σ K=optX (σ.B b) fun vs=>AR (isMp vs=false) (ldX P t off vs K):=by
 grind [MV,JL,optX,ldX,MU,AR,Ay]
@[go_sem] theorem aD {t} {vs} {off} {K}:MV P t (.rop vs off) σ K=ldX P t off vs K:=by
 grind [MV,JL,optX,ldX,MU,AR,Ay]
@[go_sem] theorem aE {t} {t' sz i off} {K}:MV P t (.elt t' sz i off) σ K=
  optX (σ.T t') fun tk=>optX tk.rows[i]? fun row=>AR (row.length=sz) (MU (ti P t).isAgg (AR (off+tsz P t≤sz) (Ay (.agg (Nu t' tk.gen [] sz i row off (tsz P t))) K)) (AR ((ti P t).sc =true) (optX row[off]? fun d=>K (ofT t' tk.gen [] sz i off d)))):=by
 grind [MV,JL,optX,MU,AR,Ay]
@[go_sem] theorem aF {t} {t' g} {p} {sz i off} {K}:MV P t (.els t' g p sz i off) σ K=
  optX (subR σ.T t' g p) fun rows=>optX rows[i]? fun row=>AR (row.length=sz) (MU (ti P t).isAgg (AR (off+tsz P t≤sz) (Ay (.agg (Nu t' g p sz i row off (tsz P t))) K)) (AR ((ti P t).sc =true) (optX row[off]? fun d=>K (ofT t' g p sz i off d)))):=by
 grind [MV,JL,optX,MU,AR,Ay]
def ia (o:Option Tok) (g:Nat) (p:Pth):Option (List (List D)):=match o with
 |some tk=>if tk.gen=g then getP p tk.rows else none
 |none=>none
@[go_sem ↓] theorem nu {T} {t g} {p}:subR T t g p=ia (T t) g p:=rfl
@[go_sem] theorem kA {rows} {ap} {g} {q} {p}:ia (some ⟨rows,ap,g,q⟩) g p=getP p rows:=by simp [ia]
def cJ (o:Option Tok) (g:Nat) (p:Pth):Option (List (List D)):=match o with
 |some tk=>if tk.gen=g then (getP p tk.rows).map tk.er else none
 |none=>none
@[go_sem ↓] theorem nv {T} {t g} {p}:subE T t g p=cJ (T t) g p:=rfl
@[go_sem] theorem ib {rows} {ap} {g} {q} {p}:cJ (some ⟨rows,ap,g,q⟩) g p=(getP p rows).map (zer q):=by
 simp only [cJ,if_true]; rfl
@[go_sem] theorem kC {r}:zer false r=r:=rfl
@[go_sem] theorem lk {r}:zer true r=erR r:=rfl
@[go_sem] theorem qO {rows} {ap} {g} {q}:Tok.rd ⟨rows,ap,g,q⟩=zer q rows:=rfl
@[go_sem] theorem qP {rows r} {ap} {g} {q}:Tok.er ⟨rows,ap,g,q⟩ r=zer q r:=rfl
@[go_sem] theorem kD {z} {rows} {ap} {g}:okZ z ⟨rows,ap,g,false⟩=true:=rfl
@[go_sem] theorem ll {q} {rows} {ap} {g}:okZ true ⟨rows,ap,g,q⟩=true:=by cases q <;> rfl
@[go_sem] theorem lm {q} {rows} {ap} {g}:okZ q ⟨rows,ap,g,q⟩=true:=by cases q <;> rfl
@[go_sem] theorem ln {rows}:getP [] rows=some rows:=rfl
def ic (d:D) (K:List (List D)→Prop):Prop:=match d with| .sl r=>K r|_=>False
@[go_sem] theorem nw {r} {K}:ic (.sl r) K=K r:=rfl
@[go_sem ↓] theorem kE {sz i j} {p} {rows} {K}:optX (getP ((sz,i,j)::p) rows) K=optX rows[i]? fun row=>AR (row.length=sz) (optX row[j]? fun d=>ic d fun r=>optX (getP p r) K):=by
 simp only [getP,optX,AR]
 cases rows[i]? with
 |none=>simp
 | some row=>
  by_cases h:row.length=sz
  ·simp only [h,if_true,true_and,Option.some.injEq,exists_eq_left']
   cases row[j]? with
   |none=>simp
   |some d=>cases d <;> simp [ic]
  grind
@[go_sem] theorem ie {t g} {p} {sz i} {d} {ds} {off n}:Nu t g p sz i (d::ds) off n=Vh t g p sz i off (((d::ds).drop off).take n):=rfl
attribute [go_sem ↓] ldX
attribute [go_sem] Fg ofD Rf ofS ofT Vh
end
attribute [go_sem ↓] Xx WR Uw Z9 X1 WS aC aD aE aF
end Go.Proofs.YtnfgeocnolheoaaGreat.Ab
namespace Go.Proofs.YtnfgeocnolheoaaGreat.Ab
set_option linter.unusedVariables false
set_option maxHeartbeats 1000000
open Go.RowKit
section
variable {P:Program} {σ:St} {K:St→Prop} {Q:AE→St→Prop}
theorem P6 {pos} {dst} {op} (h:∀K',aop P pos ⟨dst,op,0, "",#[],none⟩ σ K'=∃r,Ev P pos ⟨dst,op,0, "",#[],none⟩ σ.e σ.T σ.B r∧Dd σ r.t∧Ej σ r.b∧K' (σ.add dst r)):
  opX P pos dst op σ K=∃r,Ev P pos ⟨dst,op,0, "",#[],none⟩ σ.e σ.T σ.B r∧Dd σ r.t∧Ej σ r.b∧K (σ.add dst r):=h K
def Ux (v:AV) (K:AV→Prop):Prop:=match v with
 | .box b off=>K (.box b off)
 | .rop ds off=>K (.rop ds off)
 | .elt t sz i off=>K (.elt t sz i off)
 | .els t g p sz i off=>K (.els t g p sz i off)
 |_=>False
@[go_sem] theorem cK {b off} {K}:Ux (.box b off) K=K (.box b off):=rfl
@[go_sem] theorem cL {ds} {off} {K}:Ux (.rop ds off) K=K (.rop ds off):=rfl
@[go_sem] theorem cM {t sz i off} {K}:Ux (.elt t sz i off) K=K (.elt t sz i off):=rfl
@[go_sem] theorem cN {t g} {p} {sz i off} {K}:Ux (.els t g p sz i off) K=K (.els t g p sz i off):=rfl
theorem X2 {pos} {dst} {x}:opX P pos dst (.nilCheck x) σ K=Ux (σ.e x) fun v=>K (σ.put dst v):=by
 rw [G8 (p:=fun v=>Ux (σ.e x) fun u=>v=u) (fun _=>by rfl) (fun r=>by
  simp only [Ev,Ux]
  generalize σ.e x=v
  cases v <;> simp)]
 unfold Ux
 generalize σ.e x=v
 cases v <;> simp
def Bx (P:Program) (op:BinOp) (t:TypeId) (x y:AV) (K:AV→Prop):Prop:=∃v,Bin P op t x y v∧K v
def cO (op:BinOp) (y:Operand):Bool:=match op,y with
 | .eql,.const (.slice none 0 0)=>false
 | .neq,.const (.slice none 0 0)=>false
 |_,_=>true
theorem WT {pos} {dst} {op} {t t'} {x y} (hn:cO op y=true):opX P pos dst (.binOp op t x y t') σ K=Bx P op t (σ.e x) (σ.e y) fun v=>K (σ.put dst v):=
 G8 (p:=fun v=>Bin P op t (σ.e x) (σ.e y) v) (fun _=>by
  grind [aop,cO]) (fun r=>by rfl)
section
variable {pos:Nat} {dst:Option Tmp} {op:BinOp} {t t':TypeId} {x:Operand}
theorem aG {y}:opX P pos dst (.binOp op t x (.tmp y) t') σ K=Bx P op t (σ.e x) (σ.g y) fun v=>K (σ.put dst v):=WT (by cases op <;> rfl)
theorem aH {k} {n}:opX P pos dst (.binOp op t x (.const (.int k n)) t') σ K=Bx P op t (σ.e x) (.int k n) fun v=>K (σ.put dst v):=WT (by cases op <;> rfl)
theorem X3 {b}:opX P pos dst (.binOp op t x (.const (.bool b)) t') σ K=Bx P op t (σ.e x) (.bool b) fun v=>K (σ.put dst v):=WT (by cases op <;> rfl)
theorem aI {s}:opX P pos dst (.binOp op t x (.const (.string s)) t') σ K=Bx P op t (σ.e x) (.str s) fun v=>K (σ.put dst v):=WT (by cases op <;> rfl)
theorem X4:opX P pos dst (.binOp op t x (.const (.pointer none)) t') σ K=Bx P op t (σ.e x) .nilp fun v=>K (σ.put dst v):=WT (by cases op <;> rfl)
def X5 (P:Program) (t:TypeId) (v:AV) (σ:St) (K:Bool→Prop):Prop:=(∃e,ti P t= .sl e)∧LE v=true∧∀b,ZU σ.T v b→K b
def slP (t:TI):Prop:=∃e,t= .sl e
@[go_sem] theorem pd {e}:slP (.sl e)=True:=by simp [slP]
@[go_sem] theorem UM {K}:X5 P t .nils σ K=AR (slP (ti P t)) (K true):=by simp [X5,LE,ZU,AR,slP]
@[go_sem] theorem WU {b n sz} {K}:X5 P t (.bsl b n sz) σ K=AR (slP (ti P t)) (K false):=by simp [X5,LE,ZU,AR,slP]
theorem cP:opX P pos dst (.binOp .eql t x (.const (.slice none 0 0)) t') σ K=X5 P t (σ.e x) σ fun b=>K (σ.put dst (.bool b)):=by
 rfl
theorem cQ:opX P pos dst (.binOp .neq t x (.const (.slice none 0 0)) t') σ K=X5 P t (σ.e x) σ fun b=>K (σ.put dst (.bool !b)):=by
 rfl
end
section
variable {t:TypeId} {k:IntKind} {a b:Int} {K:AV→Prop}
@[go_sem] theorem eY:Bx P .add t (.int k a) (.int k b) K=K (.int k (k.wrap (a+b))):=by simp [Bx,Bin,Lp]
@[go_sem] theorem eZ:Bx P .sub t (.int k a) (.int k b) K=K (.int k (k.wrap (a - b))):=by simp [Bx,Bin,Lp]
@[go_sem] theorem eb:Bx P .mul t (.int k a) (.int k b) K=K (.int k (k.wrap (a*b))):=by simp [Bx,Bin,Lp]
@[go_sem] theorem ec:Bx P .eql t (.int k a) (.int k b) K=K (.bool (decide (a=b))):=by simp [Bx,Bin,Lp]
@[go_sem] theorem ed:Bx P .neq t (.int k a) (.int k b) K=K (.bool (!decide (a=b))):=by simp [Bx,Bin,Lp]
@[go_sem] theorem ee:Bx P .lss t (.int k a) (.int k b) K=K (.bool (decide (a<b))):=by simp [Bx,Bin,Lp]
@[go_sem] theorem ef:Bx P .leq t (.int k a) (.int k b) K=K (.bool (decide (a≤b))):=by simp [Bx,Bin,Lp]
@[go_sem] theorem eh:Bx P .gtr t (.int k a) (.int k b) K=K (.bool (decide (b<a))):=by simp [Bx,Bin,Lp]
@[go_sem] theorem ej:Bx P .geq t (.int k a) (.int k b) K=K (.bool (decide (b≤a))):=by simp [Bx,Bin,Lp]
@[go_sem] theorem ek {k'}:Bx P .shl t (.int k a) (.int k' b) K=AR (0≤b) (K (.int k (k.wrap (a*2 ^ min b.toNat k.bits)))):=by
 simp only [Bx,Bin,AR]
 grind
@[go_sem] theorem em {k'}:Bx P .shr t (.int k a) (.int k' b) K=AR (0≤b) (K (.int k (a / 2 ^ min b.toNat k.bits))):=by
 simp only [Bx,Bin,AR]
 grind
@[go_sem] theorem en:Bx P .and t (.int k a) (.int k b) K=K (.int k (bits .and k a b)):=by simp [Bx,Bin]
@[go_sem] theorem ig:Bx P .or t (.int k a) (.int k b) K=K (.int k (bits .or k a b)):=by simp [Bx,Bin]
@[go_sem] theorem eo:Bx P .xor t (.int k a) (.int k b) K=K (.int k (bits .xor k a b)):=by simp [Bx,Bin]
@[go_sem] theorem X6:Bx P .andNot t (.int k a) (.int k b) K=K (.int k (bits .andNot k a b)):=by simp [Bx,Bin]
@[go_sem] theorem ep:Bx P .quo t (.int k a) (.int k b) K=AR (b≠0) (K (.int k (k.wrap (a.tdiv b)))):=by
 simp only [Bx,Bin,AR,true_and]
 grind
@[go_sem] theorem eq:Bx P .rem t (.int k a) (.int k b) K=AR (b≠0) (K (.int k (a.tmod b))):=by
 simp only [Bx,Bin,AR,true_and]
 grind
end
section
variable {t:TypeId} {a b:ByteArray} {c d:Bool} {K:AV→Prop}
def sameStr (a b:ByteArray):Bool:=a.toList == b.toList
@[go_sem] theorem cR:Bx P .eql t (.str a) (.str b) K=K (.bool (sameStr a b)):=by simp [Bx,Bin,sameStr]
@[go_sem] theorem cS:Bx P .neq t (.str a) (.str b) K=K (.bool (!sameStr a b)):=by simp [Bx,Bin,sameStr]
@[go_sem] theorem cT:Bx P .add t (.str a) (.str b) K=AR (a.size+b.size≤maxLen) (K (.str (a++b))):=by
 simp only [Bx,Bin,AR]
 grind
def aJ (o:Option (List KK)) (xs ys:List AV) (K:Bool→Prop):Prop:=∃ks b,o=some ks∧CH ks xs ys=some b∧K b
def eu (o:Option Bool) (K:Bool→Prop):Prop:=∃b,o=some b∧K b
@[go_sem] theorem kF {ks} {xs ys} {K}:aJ (some ks) xs ys K=eu (CH ks xs ys) K:=by
 simp [aJ,eu]
@[go_sem] theorem kG {b} {K}:eu (some b) K=K b:=by simp [eu]
@[go_sem] theorem kH {k} {ks} {a b} {xs ys}:CH (.int k::ks) (.int k a::xs) (.int k b::ys)=(CH ks xs ys).map (decide (a=b)&& ·):=by
 rw [CH]; simp
@[go_sem] theorem kI {ks} {a b} {xs ys}:CH (.bool ::ks) (.bool a::xs) (.bool b::ys)=(CH ks xs ys).map (a == b&& ·):=by
 rw [CH]
@[go_sem] theorem lo {ks} {a b} {xs ys}:CH (.str ::ks) (.str a::xs) (.str b::ys)=(CH ks xs ys).map (sameStr a b&& ·):=by
 rw [CH]; rfl
@[go_sem] theorem lp:CH [] [] [] =some true:=by
 rw [CH]
@[go_sem] theorem kJ {α β:Type} {f:α→β} {a:α}:Option.map f (some a)=some (f a):=rfl
@[go_sem] theorem cU {xs ys}:Bx P .eql t (.agg xs) (.agg ys) K=aJ (L9 P t) xs ys fun b=>K (.bool b):=by
 unfold Bx Bin aJ
 grind
@[go_sem] theorem cV {xs ys}:Bx P .neq t (.agg xs) (.agg ys) K=aJ (L9 P t) xs ys fun b=>K (.bool !b):=by
 unfold Bx Bin aJ
 grind
def WV (P:Program) (t:TypeId):Prop:=match ti P t with| .bool =>True|_=>False
@[go_sem] theorem cW:Bx P .eql t (.bool c) (.bool d) K=AR (WV P t) (K (.bool (c == d))):=by
 simp only [Bx,Bin,AR,WV]
 split <;> simp_all
@[go_sem] theorem cX:Bx P .neq t (.bool c) (.bool d) K=AR (WV P t) (K (.bool (!(c == d)))):=by
 simp only [Bx,Bin,AR,WV]
 split <;> simp_all
def P7 (P:Program) (t:TypeId):Prop:=match ti P t with| .ptr _=>True|_=>False
@[go_sem] theorem ii:Bx P .eql t .nilp .nilp K=AR (P7 P t) (K (.bool true)):=by
 simp only [Bx,Bin,AR,P7]
 split <;> simp_all
@[go_sem] theorem e7:Bx P .neq t .nilp .nilp K=AR (P7 P t) (K (.bool false)):=by
 simp only [Bx,Bin,AR,P7]
 split <;> simp_all
@[go_sem] theorem ik {x off}:Bx P .eql t (.box x off) .nilp K=AR (P7 P t) (K (.bool false)):=by
 simp only [Bx,Bin,AR,P7]
 split <;> simp_all
@[go_sem] theorem e8 {x off}:Bx P .neq t (.box x off) .nilp K=AR (P7 P t) (K (.bool true)):=by
 simp only [Bx,Bin,AR,P7]
 split <;> simp_all
@[go_sem] theorem il {ds} {off}:Bx P .eql t (.rop ds off) .nilp K=AR (P7 P t) (K (.bool false)):=by
 simp only [Bx,Bin,AR,P7]
 split <;> simp_all
@[go_sem] theorem e9 {ds} {off}:Bx P .neq t (.rop ds off) .nilp K=AR (P7 P t) (K (.bool true)):=by
 simp only [Bx,Bin,AR,P7]
 split <;> simp_all
attribute [go_sem] WV P7
end
def WW (op:UnOp) (x:AV) (K:AV→Prop):Prop:=∃v,Uno op x v∧K v
theorem im {pos} {dst} {op} {t} {x}:opX P pos dst (.unOp op t x) σ K=WW op (σ.e x) fun v=>K (σ.put dst v):=
 G8 (p:=fun v=>Uno op (σ.e x) v) (fun _=>by rfl) (fun r=>by rfl)
@[go_sem] theorem fA {b} {K}:WW .not (.bool b) K=K (.bool (!b)):=by simp [WW,Uno]
@[go_sem] theorem fB {k} {n} {K}:WW .xor (.int k n) K=K (.int k (bits .xor k (if k.signed then -1 else k.max) n)):=by simp [WW,Uno]
@[go_sem] theorem fC {k} {n} {K}:WW .neg (.int k n) K=K (.int k (k.wrap (0 - n))):=by simp [WW,Uno]
def MW (P:Program) (s d:TypeId) (x:AV) (σ:St) (K:AV→Prop):Prop:=match ti P d,x with
 | .int k,.int _ n=>(ti P s).sc =true∧K (.int k (k.wrap n))
 | .str,y=>∃el ns,ti P s= .sl el∧ti P el= .int .u8 ∧ns.length≤maxLen∧cl σ.T σ.B y=some (.ro (Hr ns))∧K (.str (strOfNums ns))
 |_,_=>False
def cY (P:Program) (s d:TypeId) (x:AV) (σ:St) (v:AV):Prop:=match ti P d,x with
 | .int k,.int _ n=>(ti P s).sc =true∧v= .int k (k.wrap n)
 | .str,y=>∃el ns,ti P s= .sl el∧ti P el= .int .u8 ∧ns.length≤maxLen∧cl σ.T σ.B y=some (.ro (Hr ns))∧v= .str (strOfNums ns)
 |_,_=>False
theorem aK {pos} {dst} {s d} {x}:opX P pos dst (.convert s d x) σ K=MW P s d (σ.e x) σ fun v=>K (σ.put dst v):=by
 rw [G8 (p:=fun v=>cY P s d (σ.e x) σ v) (fun _=>by rfl) (fun r=>by
  simp only [Ev,cY]
  generalize σ.e x=v
  generalize ti P d=q
  cases q <;> cases v <;> first
   |(
    refine propext ⟨?_,?_⟩
    ·intro h; obtain⟨el,ns,h1,h2,h3,h4,rfl⟩:=h; exact⟨_,⟨el,ns,h1,h2,h3,h4,rfl⟩,rfl⟩
    ·intro h; obtain⟨_,⟨el,ns,h1,h2,h3,h4,rfl⟩,rfl⟩:=h; exact⟨el,ns,h1,h2,h3,h4,rfl⟩)
   |simp [and_assoc])]
 unfold MW cY
 generalize σ.e x=v
 generalize ti P d=q
 have key:∀y:AV,(∃v,(∃el ns,ti P s= .sl el∧ti P el= .int .u8 ∧ns.length≤maxLen∧cl σ.T σ.B y=some (.ro (Hr ns))∧v= .str (strOfNums ns))∧K (σ.put dst v))=∃el ns,ti P s= .sl el∧ti P el= .int .u8 ∧ns.length≤maxLen∧cl σ.T σ.B y=some (.ro (Hr ns))∧K (σ.put dst (.str (strOfNums ns))):=fun y=>by
  grind
 cases q <;> cases v <;> first|exact key _|simp [and_assoc]
def WX (t:TI) (K:IntKind→Prop):Prop:=match t with| .int k=>K k|_=>False
@[go_sem] theorem aL {k} {K}:WX (.int k) K=K k:=rfl
@[go_sem] theorem aM {s d} {k'} {n} {K}:MW P s d (.int k' n) σ K=WX (ti P d) fun k=>AR ((ti P s).sc =true) (K (.int k (k.wrap n))):=by
 unfold MW WX AR
 generalize ti P d=q
 cases q <;> simp [cl,Hr]
def cZ (P:Program) (q:TI):Prop:=∃el,q= .sl el∧ti P el= .int .u8
def fD (q:TI):Prop:=q= .int .u8
@[go_sem] theorem lq:fD (.int .u8)=True:=by simp [fD]
@[go_sem] theorem nx {el}:cZ P (.sl el)=fD (ti P el):=by simp [cZ,fD]
def WY (P:Program) (q qs:TI) (o:Option AV) (K:AV→Prop):Prop:=q= .str ∧cZ P qs∧∃ns,ns.length≤maxLen∧o=some (.ro (Hr ns))∧K (.str (strOfNums ns))
def io (o:Option AV) (K:AV→Prop) (_:Wrap K):Prop:=∃ns,ns.length≤maxLen∧o=some (.ro (Hr ns))∧K (.str (strOfNums ns))
@[go_sem] theorem lr {qs} {o} {K}:WY P .str qs o K=AR (cZ P qs) (io o K ⟨⟩):=by simp [WY,AR,io]
theorem O0 {s d} {x} {K} (hx:∀k n,x≠ .int k n):MW P s d x σ K=Ay (cl σ.T σ.B x) fun o=>WY P (ti P d) (ti P s) o K:=by
 unfold MW WY Ay cZ
 grind
@[go_sem] theorem kK {s d} {t} {K}:MW P s d (.own t) σ K=Ay (cl σ.T σ.B (.own t)) fun o=>WY P (ti P d) (ti P s) o K:=O0 (by simp)
@[go_sem] theorem lw {s d} {r} {K}:MW P s d (.ro r) σ K=Ay (cl σ.T σ.B (.ro r)) fun o=>WY P (ti P d) (ti P s) o K:=O0 (by simp)
@[go_sem] theorem kL {s d} {b n z} {K}:MW P s d (.bsl b n z) σ K=Ay (cl σ.T σ.B (.bsl b n z)) fun o=>WY P (ti P d) (ti P s) o K:=O0 (by simp)
@[go_sem] theorem ip {s d} {K}:MW P s d .nils σ K=Ay (cl σ.T σ.B .nils) fun o=>WY P (ti P d) (ti P s) o K:=O0 (by simp)
theorem lx {ns} {K} {w} (hl:ns.length≤maxLen) (hk:K (.str (strOfNums ns))):io (some (.ro (List.map (fun n=>[D.int .u8 n]) ns))) K w:=⟨ns,hl,rfl,hk⟩
def faX (P:Program) (s:TypeId) (v:AV) (f:Nat) (K:AV→Prop):Prop:=match v with
 | .box b off=>∃q,fOff P s f=some q∧0<tsz P q.2 ∧K (.box b (off+q.1))
 | .rop ds off=>∃q,fOff P s f=some q∧0<tsz P q.2 ∧K (.rop ds (off+q.1))
 | .elt t sz i off=>∃q,fOff P s f=some q∧0<tsz P q.2 ∧K (.elt t sz i (off+q.1))
 | .els t g p sz i off=>∃q,fOff P s f=some q∧0<tsz P q.2 ∧K (.els t g p sz i (off+q.1))
 |_=>False
theorem WZ {pos} {dst} {s} {x} {f}:opX P pos dst (.fieldAddr s x f) σ K=faX P s (σ.e x) f fun v=>K (σ.put dst v):=by
 rw [G8 (p:=fun v=>faX P s (σ.e x) f fun u=>v=u) (fun _=>by rfl) (fun r=>by
  simp only [Ev,faX]
  generalize σ.e x=v
  grind)]
 unfold faX
 split
 ·grind
 ·grind
 ·grind
 ·grind
 ·simp
@[go_sem] theorem fE {s} {b off f} {K}:faX P s (.box b off) f K=optX (fOff P s f) fun q=>AR (0<tsz P q.2) (Ay (off+q.1) fun o=>K (.box b o)):=rfl
@[go_sem] theorem fF {s} {ds} {off f} {K}:faX P s (.rop ds off) f K=optX (fOff P s f) fun q=>AR (0<tsz P q.2) (Ay (off+q.1) fun o=>K (.rop ds o)):=rfl
@[go_sem] theorem fG {s} {t g} {p} {sz i off f} {K}:faX P s (.els t g p sz i off) f K=optX (fOff P s f) fun q=>AR (0<tsz P q.2) (Ay (off+q.1) fun o=>K (.els t g p sz i o)):=rfl
@[go_sem] theorem fH {s} {t sz i off f} {K}:faX P s (.elt t sz i off) f K=optX (fOff P s f) fun q=>AR (0<tsz P q.2) (Ay (off+q.1) fun o=>K (.elt t sz i o)):=rfl
def fdX (P:Program) (s:TypeId) (v:AV) (f:Nat) (K:AV→Prop):Prop:=match v with
 | .agg vs=>optX (fOff P s f) fun q=>MU (ti P q.2).isAgg (AR (q.1 +tsz P q.2 ≤vs.length) (Ay (.agg (Fg vs q.1 (tsz P q.2))) K)) (AR ((ti P q.2).sc =true) (optX vs[q.1]? K))
 |_=>False
@[go_sem] theorem fI {s} {vs} {f} {K}:fdX P s (.agg vs) f K=optX (fOff P s f) fun q=>MU (ti P q.2).isAgg (AR (q.1 +tsz P q.2 ≤vs.length) (Ay (.agg (Fg vs q.1 (tsz P q.2))) K)) (AR ((ti P q.2).sc =true) (optX vs[q.1]? K)):=rfl
theorem fJ {pos} {dst} {s} {x} {f}:opX P pos dst (.field s x f) σ K=fdX P s (σ.e x) f fun v=>K (σ.put dst v):=by
 rw [G8 (p:=fun v=>fdX P s (σ.e x) f fun u=>v=u) (fun _=>by rfl) (fun r=>by
  grind [Ev,fdX,optX,MU,AR,Ay])]
 unfold fdX
 split
 ·grind [optX,MU,AR,Ay]
 ·simp
attribute [go_sem] fOff
def Wa (rows:List (List D)) (n:Int) (sz:Nat) (K:List D→Prop):Prop:=∃row,Yg rows n sz row∧K row
def iaX (P:Program) (t:TypeId) (x i:AV) (σ:St) (K:AV→Prop):Prop:=∃v,Rg P σ.T t x i v∧K v
def slX (t:TI) (K:TypeId→Prop):Prop:=match t with| .sl e=>K e|_=>False
@[go_sem] theorem iq {e} {K}:slX (.sl e) K=K e:=rfl
def elX (P:Program) (t:TypeId) (x i:AV) (K:AV→Prop):Prop:=∃v,Rh P t x i v∧K v
def arX (t:TI) (K:Nat→TypeId→Prop):Prop:=match t with| .arr n e=>K n e|_=>False
@[go_sem ↓] theorem ny {n} {e} {K}:arX (.arr n e) K=K n e:=rfl
def inX (t:TI) (K:IntKind→Prop):Prop:=match t with| .int k=>K k|_=>False
@[go_sem ↓] theorem nz {k} {K}:inX (.int k) K=K k:=rfl
@[go_sem] theorem kM {k}:Nb k [] =some [] :=rfl
@[go_sem] theorem ir {k} {n} {vs}:Nb k (.int k n::vs)=(Nb k vs).map (n:: ·):=by rw [Nb,if_pos rfl]
theorem fK {pos} {dst} {t} {x i}:opX P pos dst (.index t x i) σ K=elX P t (σ.e x) (σ.e i) fun v=>K (σ.put dst v):=
 G8 (p:=fun v=>Rh P t (σ.e x) (σ.e i) v) (fun _=>by rfl) (fun r=>by rfl)
@[go_sem ↓] theorem n5 {t} {vs} {k} {n} {K}:elX P t (.agg vs) (.int k n) K=arX (ti P t) fun l e=>inX (ti P e) fun kd=>AR (tsz P e=1) (optX (Nb kd vs) fun ns=>AR (l=ns.length) (optX (atI ns n) fun m=>K (.int kd m))):=by
 simp only [elX,Rh,arX,inX,AR,optX]
 grind
@[go_sem ↓] theorem n6 {t} {s} {k} {n} {K}:elX P t (.str s) (.int k n) K=AR (ti P t= .str) (optX (atB s n) fun m=>K (.int .u8 m)):=by
 grind [elX,Rh,AR,optX]
def aN (P:Program) (T:Nat→Option Tok) (t:TypeId) (x:AV) (l h:Option AV) (K:AV→Prop):Prop:=∃v,(Nw P t x l h v∨TS P T t x l h v)∧K v
theorem fL {pos} {dst} {t} {x} {l h}:opX P pos dst (.slice t x l h none) σ K=aN P σ.T t (σ.e x) (l.map σ.e) (h.map σ.e) fun v=>K (σ.put dst v):=
 G8 (p:=fun v=>Nw P t (σ.e x) (l.map σ.e) (h.map σ.e) v∨TS P σ.T t (σ.e x) (l.map σ.e) (h.map σ.e) v) (fun _=>by rfl) (fun r=>by rfl)
@[go_sem ↓] theorem n7 {t} {rows} {l h} {T} {K}:aN P T t (.ro rows) l h K=slX (ti P t) fun el=>AR (0<tsz P el) (AR (∀row ∈ rows,row.length=tsz P el) (optX (bndI l 0) fun i=>optX (bndI h rows.length) fun j=>optX (cutL rows i j) fun r=>K (.ro r))):=by
 simp only [aN,Nw,TS,or_false,slX,AR,optX]
 grind
@[go_sem ↓] theorem ly {t} {s} {l h} {T} {K}:aN P T t (.str s) l h K=AR (ti P t= .str) (optX (bndI l 0) fun i=>optX (bndI h s.size) fun j=>optX (g9 s i j) fun r=>K (.str r)):=by
 grind [aN,Nw,TS,AR,optX]
@[go_sem] theorem lz {d}:bndI none d=some d:=rfl
@[go_sem] theorem l5 {k} {n d}:bndI (some (.int k n)) d=some n:=rfl
theorem Wb {pos} {dst} {t} {x i}:opX P pos dst (.indexAddr t x i) σ K=iaX P t (σ.e x) (σ.e i) σ fun v=>K (σ.put dst v):=
 G8 (p:=fun v=>Rg P σ.T t (σ.e x) (σ.e i) v) (fun _=>by rfl) (fun r=>by rfl)
@[go_sem] theorem it {t} {rows} {k} {n} {K}:iaX P t (.ro rows) (.int k n) σ K=slX (ti P t) fun e=>AR (0<tsz P e) (Wa rows n (tsz P e) fun row=>K (.rop (row.map ofD) 0)):=by
 simp only [iaX,Rg,slX,AR,Wa]
 grind
@[go_sem] theorem fM {t} {t'} {k} {n} {K}:iaX P t (.own t') (.int k n) σ K=slX (ti P t) fun e=>AR (0<tsz P e) (optX (σ.T t') fun tk=>Wa tk.rows n (tsz P e) fun _=>K (.elt t' (tsz P e) n.toNat 0)):=by
 simp only [iaX,Rg,slX,AR,Wa,optX]
 grind
@[go_sem] theorem fN {t} {t' g} {p} {k} {n} {K}:iaX P t (.sub t' g p) (.int k n) σ K=slX (ti P t) fun e=>AR (0<tsz P e) (optX (subR σ.T t' g p) fun rows=>Wa rows n (tsz P e) fun _=>K (.els t' g p (tsz P e) n.toNat 0)):=by
 simp only [iaX,Rg,slX,AR,Wa,optX]
 grind
def aO (v:AV) (i:Nat) (K:AV→Prop):Prop:=match v with| .tup vs=>optX vs[i]? K|_=>False
@[go_sem] theorem ca {vs} {i} {K}:aO (.tup vs) i K=optX vs[i]? K:=rfl
theorem aP {pos} {dst} {x} {i}:opX P pos dst (.extract x i) σ K=aO (σ.e x) i fun v=>K (σ.put dst v):=by
 rw [G8 (p:=fun v=>aO (σ.e x) i fun u=>v=u) (fun _=>by rfl) (fun r=>by
  simp only [Ev,aO]
  generalize σ.e x=v
  cases v <;> simp [optX])]
 unfold aO
 generalize σ.e x=v
 cases v <;> simp [optX]
def evs (σ:St):List Operand→List AV
 | [] =>[]
 |x::xs=>σ.e x::evs σ xs
theorem Uy {xs}:evs σ xs=xs.map σ.e:=by induction xs with|nil=>rfl|cons x xs ih=>simp [evs,ih]
attribute [go_sem] evs
@[go_sem ↓] theorem iu {pos} {dst} {f} {first caps}:opX P pos dst (.makeFunc (.func f) (List.toArray first) caps.toArray) σ K=Ay (.fn f (.agg (evs σ first)::evs σ caps)) fun v=>K (σ.put dst v):=by
 rw [G8 (p:=fun v=>v= .fn f (.agg (evs σ first)::evs σ caps)) (fun _=>by rfl) (fun r=>by simp [Ev,Uy])]
 simp [Ay]
def NL (P:Program) (t:TypeId) (x:AV) (σ:St) (K:AV→Prop):Prop:=∃v,Nv P σ.T σ.B t x v∧K v
theorem l6 {pos} {dst} {x} {t}:opX P pos dst (.call ⟨.builtin .len,List.toArray [x],List.toArray [t]⟩) σ K=NL P t (σ.e x) σ fun v=>K (σ.put dst v):=
 G8 (p:=fun v=>Nv P σ.T σ.B t (σ.e x) v) (fun _=>by rfl) (fun r=>by rfl)
def Q5 (f:Int→Int→Int) (x y:AV) (K:AV→Prop):Prop:=match x,y with
 | .int k n,.int k' m=>k=k'∧K (.int k (f n m))
 |_,_=>False
@[go_sem] theorem cc {f} {k} {n m} {K}:Q5 f (.int k n) (.int k m) K=Ay (f n m) fun r=>K (.int k r):=by simp [Q5,Ay]
theorem l7 {pos} {dst} {x y} {ts}:opX P pos dst (.call ⟨.builtin .max,List.toArray [x,y],ts⟩) σ K=Q5 (fun n m=>if n<m then m else n) (σ.e x) (σ.e y) fun v=>K (σ.put dst v):=by
 rw [G8 (p:=fun v=>Q5 (fun n m=>if n<m then m else n) (σ.e x) (σ.e y) fun u=>v=u) (fun _=>by rfl) (fun r=>by
  simp only [Ev,Q5]
  generalize σ.e x=u
  generalize σ.e y=v
  cases u <;> cases v <;> simp [and_assoc])]
 unfold Q5
 generalize σ.e x=u
 generalize σ.e y=v
 cases u <;> cases v <;> simp [and_assoc]
theorem l8 {pos} {dst} {x y} {ts}:opX P pos dst (.call ⟨.builtin .min,List.toArray [x,y],ts⟩) σ K=Q5 (fun n m=>if m<n then m else n) (σ.e x) (σ.e y) fun v=>K (σ.put dst v):=by
 rw [G8 (p:=fun v=>Q5 (fun n m=>if m<n then m else n) (σ.e x) (σ.e y) fun u=>v=u) (fun _=>by rfl) (fun r=>by
  simp only [Ev,Q5]
  generalize σ.e x=u
  generalize σ.e y=v
  cases u <;> cases v <;> simp [and_assoc])]
 unfold Q5
 generalize σ.e x=u
 generalize σ.e y=v
 cases u <;> cases v <;> simp [and_assoc]
end
attribute [go_sem ↓] cK cL cM cN UM WU eY eZ eb ec ed ee ef eh ej ek em en ig eo X6 ep eq cR cS cT cW cX ii e7 ik e8 il e9 cU cV fA fC fB aL aM fE fF fH fG fI iq it fM fN ca cc
end Go.Proofs.YtnfgeocnolheoaaGreat.Ab
