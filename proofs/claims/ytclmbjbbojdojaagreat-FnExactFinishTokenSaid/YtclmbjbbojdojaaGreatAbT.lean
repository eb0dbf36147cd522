/-
  The abstract walk as a set of rules for 'simp only [go_sem]': heads that wait, their congruences, one rule an operation.
-/
import Derived.Test.YtclmbjbbojdojaaGreatAbS
namespace Go.Proofs.YtclmbjbbojdojaaGreat.Ab
set_option linter.unusedVariables false
set_option maxHeartbeats 1000000
open Go.RowKit
section
variable {P:Program}
theorem FU {z}:∀ {vs} {σ} {K K'},(∀ds σ,K ds σ→K' ds σ)→Be z vs σ K→Be z vs σ K'
 | [],σ,K,K',hk,h=>by rw [Be] at h ⊢; grind
 | .int k n::vs,σ,K,K',hk,h=>by rw [Be] at h ⊢; exact FU (fun ds σ=>hk _ σ) h
 | .bool b::vs,σ,K,K',hk,h=>by rw [Be] at h ⊢; exact FU (fun ds σ=>hk _ σ) h
 | .str b::vs,σ,K,K',hk,h=>by rw [Be] at h ⊢; exact FU (fun ds σ=>hk _ σ) h
 | .nils ::vs,σ,K,K',hk,h=>by rw [Be] at h ⊢; exact FU (fun ds σ=>hk _ σ) h
 | .nilp ::vs,σ,K,K',hk,h=>by rw [Be] at h ⊢; exact FU (fun ds σ=>hk _ σ) h
 | .ro _::vs,σ,K,K',hk,h=>by rw [Be] at h ⊢; exact⟨h.1,FU (fun ds σ=>hk _ σ) h.2⟩
 | .rop _ _::vs,σ,K,K',hk,h=>by rw [Be] at h ⊢; obtain⟨h1,d,h2,h3⟩:=h; exact⟨h1,d,h2,FU (fun ds σ=>hk _ σ) h3⟩
 | .bsl _ _ _::vs,σ,K,K',hk,h=>by
  rw [Be] at h ⊢
  split at h
  ·rename_i h0
   rw [if_pos h0]
   exact FU (fun ds σ=>hk _ σ) h
  ·rename_i h0
   rw [if_neg h0]
   obtain⟨h1,h2,vs',h3,ds,h4,h5,h6⟩:=h
   exact⟨h1,h2,vs',h3,ds,h4,h5,FU (fun ds σ=>hk _ σ) h6⟩
 | .own t::vs,σ,K,K',hk,h=>by rw [Be] at h ⊢; obtain⟨tk,h1,h2,h3⟩:=h; exact⟨tk,h1,h2,FU (fun ds σ=>hk _ σ) h3⟩
 | .sub _ _ _::vs,σ,K,K',hk,h=>by grind [Be]
 | .els _ _ _ _ _ _::vs,σ,K,K',hk,h=>by grind [Be]
 | .any ::vs,σ,K,K',hk,h=>by grind [Be]
 | .box _ _::vs,σ,K,K',hk,h=>by grind [Be]
 | .elt _ _ _ _::vs,σ,K,K',hk,h=>by grind [Be]
 | .par _ _ _ _::vs,σ,K,K',hk,h=>by grind [Be]
 | .agg _::vs,σ,K,K',hk,h=>by grind [Be]
 | .tup _::vs,σ,K,K',hk,h=>by grind [Be]
 | .fn _ _::vs,σ,K,K',hk,h=>by grind [Be]
 | .mpr _::vs,σ,K,K',hk,h=>by grind [Be]
 | .mpc _ _::vs,σ,K,K',hk,h=>by grind [Be]
theorem aC {t} {a x} {σ} {K K'} (hk:∀σ,K σ→K' σ) (h:Oy P t a x σ K):Oy P t a x σ K':=by
 unfold Oy at h ⊢
 split at h
 ·obtain⟨h1,h2,h3,h4⟩:=h
  refine⟨h1,h2,h3,?_⟩
  split at h4
  ·grind
  ·grind [FU]
  ·grind [FU]
  omega
 omega
theorem dH {z} {e} {sz} {x} {σ} {K K'} (hk:∀r σ,K r σ→K' r σ) (h:Ts z e sz x σ K):Ts z e sz x σ K':=by
 unfold Ts at h ⊢
 split at h
 ·grind
 ·split at h
  ·grind
  ·rename_i h0
   rw [if_neg h0]
   obtain⟨h0,h1,h2,vs',h3,ds,h4,h5,h6⟩:=h
   exact⟨h0,h1,h2,vs',h3,ds,h4,h5,hk _ _ h6⟩
 ·grind
 omega
theorem dI {z} {sz} {x} {σ} {K K'} (hk:∀r σ,K r σ→K' r σ) (h:Mw z sz x σ K):Mw z sz x σ K':=by
 unfold Mw at h ⊢
 split at h
 ·grind
 ·grind [FU]
 ·grind
 ·grind
 omega
theorem dJ {pos} {t} {x y} {σ} {K K'} (hk:∀v σ,K v σ→K' v σ) (h:Zk P pos t x y σ K):Zk P pos t x y σ K':=by
 unfold Zk at h ⊢
 split at h
 ·grind [dH,dI]
 omega
theorem Wb {t} {m i x} {σ} {K K'} (hk:∀σ,K σ→K' σ) (h:W3 P t m i x σ K):W3 P t m i x σ K':=by
 unfold W3 at h ⊢
 grind
theorem Yj {pos} {o} {σ} {K K'} (hk:∀σ,K σ→K' σ) (h:aop P pos o σ K):aop P pos o σ K':=by
 unfold aop at h ⊢
 split at h
 ·grind
 ·grind
 ·grind [aC]
 ·grind [Wb]
 ·grind [Wb]
 ·grind [dJ]
 grind
theorem J7 {K K'} (hk:∀σ,K σ→K' σ):∀ {cv} {σ},Ds cv σ K→Ds cv σ K'
 | [],σ,h=>by rw [Ds] at h ⊢; grind
 | (n,a,z)::cv,σ,h=>by
  cases a with
  |sub t g p=>
   rw [Ds] at h ⊢
   obtain⟨h1,h2,h3,tk,rows,h4,h5,h6,h7,h8⟩:=h
   exact⟨h1,h2,h3,tk,rows,h4,h5,h6,h7,J7 hk h8⟩
  |nils=>rw [Ds] at h ⊢; exact⟨h.1,J7 hk h.2⟩
  |bsl b m sz=>rw [Ds] at h ⊢; exact⟨h.1,h.2.1,J7 hk h.2.2⟩
  |_=>simp [Ds] at h
theorem MB:∀ {cv} {σ} {K K'},(∀σ,K σ→K' σ)→Ci cv σ K→Ci cv σ K'
 | [],σ,K,K',hk,h=>by rw [Ci] at h ⊢; grind
 | (n,a,z)::cv,σ,K,K',hk,h=>by
  cases a with
  | sub t g p=>
   rw [Ci] at h ⊢
   refine MB (fun σ h=>?_) h
   cases hn:σ.T n with
   |none=>simp only [hn] at h ⊢; exact hk _ h
   |some tn=>
    simp only [hn] at h ⊢
    obtain⟨tk,h1,h2,h3,h4⟩:=h
    exact⟨tk,h1,h2,h3,hk _ h4⟩
  |_=>
   rw [Ci] at h ⊢
   ·exact MB (fun σ h=>hk _ h) h
   all_goals (intros; simp_all)
theorem aD {f} {args} {σ} {K K'} (hk:∀v σ,K v σ→K' v σ) (h:V5 P f args σ K):V5 P f args σ K':=by
 obtain⟨y,as,pt,pb,r,qt,qb,h1,h2⟩:=h
 exact⟨y,as,pt,pb,r,qt,qb,h1,J7 (fun σ h=>⟨h.1,h.2.1,h.2.2.1,h.2.2.2.1,h.2.2.2.2.1,h.2.2.2.2.2.1,h.2.2.2.2.2.2.1,h.2.2.2.2.2.2.2.1,MB (fun σ h=>hk _ _ h) h.2.2.2.2.2.2.2.2⟩) h2⟩
theorem Yk {K K'} (hk:∀a σ,K a σ→K' a σ):∀ {bs} {args} {σ},FzK bs args σ K→FzK bs args σ K'
 | [],args,σ,h=>hk _ _ h
 |b::bs,args,σ,h=>by
  obtain⟨vs,h1,h2,h3⟩:=h
  exact⟨vs,h1,h2,Yk hk h3⟩
theorem aE {f} {args} {σ} {K K'} (hk:∀v σ,K v σ→K' v σ) (h:bA P f args σ K):bA P f args σ K':=by
 obtain⟨bs,h⟩:=h
 exact⟨bs,Yk (fun _ _ h=>aD hk h) h⟩
theorem Wc {L} {pos} {o} {σ} {K K'} (hk:∀σ,K σ→K' σ) (h:VQ P L pos o σ K):VQ P L pos o σ K':=by
 rcases h with ⟨hA,h⟩|⟨hL,h⟩|⟨hL,hA,r,h1,h2,h3,h4⟩
 ·exact .inl ⟨hA,Yj hk h⟩
 ·refine .inr (.inl ⟨hL,?_⟩)
  rcases h with h|h|⟨hs,σ1,hn,h⟩
  ·refine .inl ?_
   unfold Og at h ⊢
   split at h
   ·grind [aE]
   omega
  ·refine .inr (.inl ?_)
   unfold VP at h ⊢
   split at h
   ·split at h
    ·grind
    omega
   omega
  ·exact .inr (.inr ⟨hs,σ1,hn,Yj hk h⟩)
 ·exact .inr (.inr ⟨hL,hA,r,h1,h2,h3,hk _ h4⟩)
theorem Il {ops} {base cut} {K K'} (hk:∀σ,K σ→K' σ):∀ {l} {i} {σ},aops P ops base cut i l σ K→aops P ops base cut i l σ K'
 | [],i,σ,h=>by rw [aops] at h ⊢; grind
 | o::rest,i,σ,h=>by
  rw [aops] at h ⊢
  split at h
  ·exact Wc (fun σ h=>Il hk h) h
  ·obtain⟨s,h1,h⟩:=h
   refine⟨s,h1,?_⟩
   rcases h with ⟨b,h2,h3,h4⟩|⟨h2,h3⟩
   ·exact .inl ⟨b,h2,fun hb=>Wc (fun σ h=>Il hk h) (h3 hb),fun hb=>Il hk (h4 hb)⟩
   ·exact .inr ⟨h2,Il hk h3⟩
theorem dK {p} {K K'} (hk:∀σ,K σ→K' σ) {σ} (h:seqW p K σ):seqW p K' σ:=by
 unfold seqW at h ⊢
 grind
theorem QT {P} {ops} {base} {ts}:∀ (tr:Tr) {σ} {K K'},(∀σ,K σ→K' σ)→aTr P ops base ts tr σ K→aTr P ops base ts tr σ K'
 | .fin,σ,K,K',hk,h=>hk σ h
 | .stop,σ,K,K',hk,h=>trivial
 | .fz t,σ,K,K',hk,h=>by
  simp only [aTr] at h ⊢
  obtain⟨σ1,hn,h⟩:=h
  exact⟨σ1,hn,QT t hk h⟩
 | .br i t more,σ,K,K',hk,h=>by
  simp only [aTr] at h ⊢
  refine⟨?_,QT more hk h.2⟩
  have h1:=h.1
  split at h1
  ·exact Il (fun σ' h=>QT t hk h) h1
  ·exact h1.elim
theorem Ue {P} {ops} {base} {r} {i} {o} {acc} {σ} {K K'} (hk:∀acc σ,K acc σ→K' acc σ) (h:My P ops base r i o acc σ K):My P ops base r i o acc σ K':=by
 unfold My at h ⊢
 cases r with
 |no=>grind [Il]
 |al=>
  grind
 |st k=>
  grind
theorem MC {P} {ops} {base} {V}:∀ (l:List Oper) {E} {i} {ts} {acc} {σ} {K K'},(∀ts acc σ,K ts acc σ→K' ts acc σ)→GY P ops base V E i l ts acc σ K→GY P ops base V E i l ts acc σ K'
 | [],E,i,ts,acc,σ,K,K',hk,h=>by grind [GY]
 |o::l,[],i,ts,acc,σ,K,K',hk,h=>by simp only [GY] at h ⊢; exact Ue (fun acc σ' h=>MC l hk h) h
 |o::l,true::E,i,ts,acc,σ,K,K',hk,h=>by simp only [GY] at h ⊢; exact MC l hk h
 |o::l,false::E,i,ts,acc,σ,K,K',hk,h=>by simp only [GY] at h ⊢; exact Ue (fun acc σ' h=>MC l hk h) h
theorem dL {P} {ops} {base} {draw} {σ} {K K'} (hk:∀σ,K σ→K' σ) (h:cX P ops base draw σ K):cX P ops base draw σ K':=by
 unfold cX at h ⊢
 cases draw with
 |false=>exact Il hk h
 |true=>
  rcases h with ⟨E,V,tr,hE,h⟩|⟨F,ds,h1,h2,h3,h4⟩|h
  ·exact .inl ⟨E,V,tr,hE,MC _ (fun ts acc σ h=>⟨h.1,QT tr hk h.2⟩) h⟩
  ·exact .inr (.inl ⟨F,ds,h1,h2,h3,hk _ h4⟩)
  ·exact .inr (.inr fun cx N id a w hP hN hs=>wp_mono (h cx N id a w hP hN hs) fun e a' w' ⟨he,σ',hk',hs'⟩=>⟨he,σ',hk _ hk',hs'⟩)
theorem J8:∀ {c} {Q Q'} {σ},(∀q σ,Q q σ→Q' q σ)→awp P c Q σ→awp P c Q' σ
 | .skip,Q,Q',σ,hq,h=>by rw [awp] at h ⊢; grind
 | .region id ops draw,Q,Q',σ,hq,h=>by rw [awp] at h ⊢; grind [dL]
 | .seq a b,Q,Q',σ,hq,h=>by
  rw [awp] at h ⊢
  refine J8 (fun q σ h=>?_) h
  cases q with
  |normal=>
   have h':seqW (Jy a) (awp P b Q) σ:=h
   exact dK (K:=awp P b Q) (K':=awp P b Q') (fun σ h=>J8 hq h) h'
  |exit id=>exact hq _ _ h
  |ret=>exact hq _ _ h
 | .cond c a b,Q,Q',σ,hq,h=>by
  rw [awp] at h ⊢
  obtain⟨v,h1,h2,h3⟩:=h
  exact⟨v,h1,fun e=>J8 hq (h2 e),fun e=>J8 hq (h3 e)⟩
 | .block id b,Q,Q',σ,hq,h=>by
  rw [awp] at h ⊢
  refine J8 (fun q σ h=>?_) h
  cases q with
  |normal=>exact hq _ _ h
  |exit i=>
   grind [AE.inBlock]
  |ret=>exact hq _ _ h
 | .loop b,Q,Q',σ,hq,h=>by
  rw [awp] at h ⊢
  intro L hL
  refine h L fun σ hσ=>hL σ (J8 (fun q σ h=>?_) hσ)
  cases q with
  |normal=>exact h
  |exit id=>exact hq _ _ h
  |ret=>exact hq _ _ h
 | .exit id,Q,Q',σ,hq,h=>by rw [awp] at h ⊢; grind
 | .ret,Q,Q',σ,hq,h=>by rw [awp] at h ⊢; grind
 | .rangeFunc _ _ _ _,Q,Q',σ,hq,h=>by simp [awp] at h
 | .goto _,Q,Q',σ,hq,h=>by simp [awp] at h
 | .label _,Q,Q',σ,hq,h=>by simp [awp] at h
theorem Yl {b} {Q} {σ} (h:awp P b (AE.then (fun σ'=>∃σ1,Wk σ' σ1∧awp P (.loop b) Q σ1) Q) σ):awp P (.loop b) Q σ:=by
 rw [awp]
 intro L hL
 refine⟨σ,.nil σ,hL σ (J8 (fun q σ h=>?_) h)⟩
 cases q with
 |normal=>
  obtain⟨σ1,h1,h2⟩:=h
  rw [awp] at h2
  obtain⟨σ0,h3,h4⟩:=h2 L hL
  exact⟨σ0,h1.trans h3,h4⟩
 |exit id=>exact h
 |ret=>exact h
end
def BI {α:Type} (v:α) (K:α→Prop):Prop:=K v
def optX {α:Type} (o:Option α) (K:α→Prop):Prop:=∃x,o=some x∧K x
def Ac (p q:Prop):Prop:=p∧q
def PH (b:Bool) (p q:Prop):Prop:=(b=true∧p)∨(b=false∧q)
def Uf (b:Bool) (p q:Prop):Prop:=(b=true→p)∧(b=false→q)
structure Wrap {α:Sort _} (a:α):Type where
def nu {α:Type} (v:α) (K:α→Prop) (_:Wrap K):Prop:=K v
def dM {α:Type} (o:Option α) (K:α→Prop) (_:Wrap K):Prop:=∃x,o=some x∧K x
def dN (p q:Prop) (_:Wrap q):Prop:=p∧q
def Ug (b:Bool) (p q:Prop) (_:Wrap p) (_:Wrap q):Prop:=(b=true→p)∧(b=false→q)
def fI (b:Bool) (p q:Prop) (_:Wrap p) (_:Wrap q):Prop:=PH b p q
@[go_sem ↓] theorem p6 {α:Type} {v:α} {K:α→Prop}:BI v K=nu v K ⟨⟩:=rfl
@[go_sem ↓] theorem p7 {α:Type} {o:Option α} {K:α→Prop}:optX o K=dM o K ⟨⟩:=rfl
@[go_sem ↓] theorem p8 {p q:Prop}:Ac p q=dN p q ⟨⟩:=rfl
@[go_sem ↓] theorem nv {b} {p q:Prop}:Uf b p q=Ug b p q ⟨⟩ ⟨⟩:=rfl
@[go_sem ↓] theorem p9 {b} {p q:Prop}:PH b p q=fI b p q ⟨⟩ ⟨⟩:=rfl
@[go_sem] theorem qA {α:Type} {v:α} {K:α→Prop} {w:Wrap K}:nu v K w=K v:=propext Iff.rfl
@[go_sem] theorem mg {α:Type} {x:α} {K:α→Prop} {w:Wrap K}:dM (some x) K w=K x:=by simp [dM]
@[go_sem] theorem mh {q:Prop} {w}:dN True q w=q:=by simp [dN]
@[go_sem] theorem rf {p:Prop} {w}:dN p True w=p:=by simp [dN]
@[go_sem] theorem km {p q:Prop} {w} {w'}:Ug true p q w w'=p:=by simp [Ug]
@[go_sem] theorem jv {p q:Prop} {w} {w'}:Ug false p q w w'=q:=by simp [Ug]
@[go_sem] theorem mi {p q:Prop} {w} {w'}:fI true p q w w'=p:=by simp [PH,fI]
@[go_sem] theorem kn {p q:Prop} {w} {w'}:fI false p q w w'=q:=by simp [PH,fI]
theorem Jq {α:Type} {x:α} {K:α→Prop}:optX (some x) K=K x:=by simp [optX]
theorem Wd {α:Type} {K:α→Prop}:optX none K=False:=by simp [optX]
theorem Ad {p q:Prop} {w} (hp:p) (hq:q):dN p q w:=⟨hp,hq⟩
theorem Ai {α:Type} {o:Option α} {x:α} {K:α→Prop} {w:Wrap K} (h:o=some x) (hk:K x):dM o K w:=⟨x,h,hk⟩
@[go_sem] theorem mj:isMp [] =false:=rfl
@[go_sem] theorem ml {a}:isMp [a] =a.mp?:=rfl
@[go_sem] theorem mm {a b} {l}:isMp (a::b::l)=false:=rfl
@[go_sem] theorem mn:RQ [] =true:=rfl
@[go_sem] theorem ko {a} {l}:RQ (a::l)=(!a.mp?&&RQ l):=rfl
attribute [go_sem] AV.mp?
@[go_sem] theorem kq {α:Type} {j:Nat} {x:α} {l:List (Nat × α)} {i:Nat}:look ((j,x)::l) i=if i=j then some x else look l i:=rfl
@[go_sem] theorem nw {α:Type} {i}:look ([] :List (Nat × α)) i=none:=rfl
@[go_sem] theorem St.T_mk {s t b} {i}:St.T ⟨s,t,b⟩ i=(look t i).join :=rfl
@[go_sem] theorem St.B_mk {s t b} {i}:St.B ⟨s,t,b⟩ i=(look b i).join :=rfl
@[go_sem] theorem St.g_mk {s t b} {i}:St.g ⟨s,t,b⟩ i=(look s i).getD .any :=rfl
@[go_sem] theorem St.t_mk {s t b}:St.t ⟨s,t,b⟩=t:=rfl
@[go_sem] theorem St.b_mk {s t b}:St.b ⟨s,t,b⟩=b:=rfl
@[go_sem] theorem St.s_mk {s t b}:St.s ⟨s,t,b⟩=s:=rfl
@[go_sem] theorem St.e_tmp {σ:St} {t:Tmp}:σ.e (.tmp t)=σ.g t:=rfl
@[go_sem] theorem St.e_func {σ:St} {f:FuncId}:σ.e (.func f)= .fn f [] :=rfl
@[go_sem] theorem St.e_const {σ:St} {v:Value}:σ.e (.const v)=Bd v:=rfl
@[go_sem] theorem qB {k} {n}:Bd (.int k n)= .int k n:=rfl
@[go_sem] theorem nx {b}:Bd (.bool b)= .bool b:=rfl
@[go_sem] theorem qC {s}:Bd (.string s)= .str s:=rfl
@[go_sem] theorem ny:Bd (.slice none 0 0)= .nils :=rfl
@[go_sem] theorem nz:Bd (.pointer none)= .nilp :=rfl
@[go_sem] theorem qD {cs}:Bd (.agg cs.toArray)= .agg (I2 cs):=by rfl
@[go_sem] theorem n8:I2 [] =[] :=rfl
@[go_sem] theorem mo {v} {vs}:I2 (v::vs)=Bd v::I2 vs:=rfl
@[go_sem] theorem n9 {s t b} {d} {v}:St.put ⟨s,t,b⟩ (some d) v=⟨(d,v)::s,t,b⟩:=rfl
@[go_sem] theorem oA {σ} {v}:St.put σ none v=σ:=rfl
@[go_sem] theorem oC {s t b} {i}:St.killT ⟨s,t,b⟩ i=⟨s,(i,none)::t,b⟩:=rfl
@[go_sem] theorem qE {s t b} {i} {tk}:St.setT ⟨s,t,b⟩ i tk=⟨s,(i,some tk)::t,b⟩:=rfl
@[go_sem] theorem qF {s t b} {i} {vs}:St.setB ⟨s,t,b⟩ i vs=⟨s,t,(i,some vs)::b⟩:=rfl
attribute [go_sem] Option.join_some Option.join_none Option.getD_some Option.getD_none reduceIte eq_self and_self true_and and_true
attribute [go_sem] List.getElem?_cons_zero List.getElem?_cons_succ List.length_cons List.length_nil List.take_succ_cons List.take_zero List.take_nil List.drop_succ_cons List.drop_zero List.map_cons List.map_nil List.set_cons_zero List.set_cons_succ List.cons_append List.nil_append Option.some.injEq reduceCtorEq TI.isAgg TI.sc AV.one splice List.all_cons List.all_nil Bool.and_self Bool.true_and Bool.and_true
def NG (P:Program) (ops:Array Oper) (base cut i:Nat) (l:List Oper) (σ:St) (K:St→Prop) (_:Wrap ops) (_:Wrap l) (_:Wrap K) (_:Wrap cut):Prop:=aops P ops base cut i l σ K
@[go_sem ↓] theorem qG {P} {ops} {base cut i} {l} {K} {σ}:aops P ops base cut i l σ K=NG P ops base cut i l σ K ⟨⟩ ⟨⟩ ⟨⟩ ⟨⟩:=rfl
section
variable {P:Program} {σ:St} {K:St→Prop} {Q:AE→St→Prop}
@[go_sem ↓] theorem rg:awp P .skip Q σ=Q .normal σ:=by rw [awp]
@[go_sem ↓] theorem oD {id} {l}:awp P (.region id l.toArray false) Q σ=aops P l.toArray (id*1000+1000) 0 0 l σ (Q .normal):=by rw [awp]; rfl
def Ym (P:Program) (id:Nat) (l:List Oper) (Q:AE→St→Prop) (σ:St) (_:Wrap l) (_:Wrap Q) (_:Wrap σ):Prop:=cX P l.toArray (id*1000+1000) true σ (Q .normal)
@[go_sem ↓] theorem rh {id} {l}:awp P (.region id l.toArray true) Q σ=Ym P id l Q σ ⟨⟩ ⟨⟩ ⟨⟩:=by rw [awp]; rfl
theorem CT {id} {l} {w1} {w2} {w3} (E:List Bool) (tr:Tr) (h:Nu E [] tr l.toArray=true) (k:GY P l.toArray (id*1000+1000) [] E 0 l [] [] σ fun ts acc σ'=>cV acc σ' fun σ'=>aTr P l.toArray (id*1000+1000) ts tr σ' (Q .normal)):Ym P id l Q σ w1 w2 w3:=.inl ⟨E,[],tr,h,k⟩
def Fp (s:List (Nat × AV)) (t:Nat) (v:AV):Prop:=v= .any ∨look s t=some v
@[go_sem] theorem qH {s}:leS s [] =True:=rfl
@[go_sem] theorem oE {s t v r}:leS s ((t,v)::r)=(Fp s t v∧leS s r):=rfl
@[go_sem] theorem qI {s:List (Nat × AV)} {t:Nat} {b:Bool} {v:AV}:Fp s t (if b=true then v else .any)=(b=true→Fp s t v):=propext (by cases b <;> simp [Fp])
def leO1 {α:Type} (s:List (Nat × Option α)) (t:Nat) (v:Option α):Prop:=v=none∨look s t=some v
@[go_sem] theorem qJ {α:Type} {s:List (Nat × Option α)}:leO s [] =True:=rfl
@[go_sem] theorem oF {α:Type} {s:List (Nat × Option α)} {t v r}:leO s ((t,v)::r)=(leO1 s t v∧leO s r):=rfl
@[go_sem] theorem kr {α:Type} {s:List (Nat × α)}:JS s [] =True:=rfl
@[go_sem] theorem jw {α:Type} {s:List (Nat × α)} {t v r}:JS s ((t,v)::r)=((look s t).isSome =true∧JS s r):=rfl
@[go_sem] theorem St.Le_mk {s t b s' t' b'}:St.Le ⟨s,t,b⟩ ⟨s',t',b'⟩=(leS s s'∧(leO t t'∧JS t' t)∧leO b b'∧JS b' b):=rfl
@[go_sem] theorem Bs {S}:cW S [] =True:=rfl
@[go_sem] theorem BU {S}:noS S [] =True:=rfl
@[go_sem] theorem A6 {S j r}:noS S (j::r)=(S j=false∧noS S r):=rfl
@[go_sem] theorem BM {S j r}:cW S (j::r)=(S j=true∧cW S r):=rfl
def optK {α:Type} (b:Bool) (p:Nat × α) (r:List (Nat × α)):List (Nat × α):=if b=true then p::r else r
@[go_sem] theorem rj {α:Type} {p:Nat × α} {r}:optK true p r=p::r:=rfl
@[go_sem] theorem rk {α:Type} {p:Nat × α} {r}:optK false p r=r:=rfl
@[go_sem] theorem mq {α:Type} {b:Bool} {t:Nat} {v:α} {r} {x:Nat}:look (optK b (t,v) r) x=if x=t then (if b=true then some v else look r x) else look r x:=by
 grind [optK,AI]
@[go_sem] theorem oG {α:Type} {s:List (Nat × Option α)} {b:Bool} {t:Nat} {v:Option α} {r}:leO s (optK b (t,v) r)=((b=true→leO1 s t v)∧leO s r):=by
 cases b <;> simp [optK,leO,leO1]
@[go_sem] theorem jx {α:Type} {s:List (Nat × α)} {b:Bool} {t:Nat} {v:α} {r}:JS s (optK b (t,v) r)=((b=true→(look s t).isSome =true)∧JS s r):=by
 cases b <;> simp [optK,JS]
theorem Do {ops:Array Oper} {base:Nat} {F:(Nat→Bool)→St} {i:Nat} {o:Oper} {os:List Oper} {d u:List Nat} {ds:List (List Nat × List Nat)} (h:(d.all fun j=>o.after.any fun e=>Region.binds .any e&&e.on == j)=true) (hu:(u.all fun j=>decide (j<ops.size)&&((deps ops.toList).getD j 0).testBit i)=true) (k:∀S:Nat→Bool,S i=false→cW S d→noS S u→aops P ops base 0 i [o] (F S) fun σ'=>St.Le σ' (F fun j=>if j=i then true else S j))
  (r:L0 P ops base F (i+1) os ds):L0 P ops base F i (o::os) ((d,u)::ds):=⟨⟨⟨h,hu⟩,k⟩,r⟩
theorem jy {ops:Array Oper} {base:Nat} {F:(Nat→Bool)→St} {i:Nat} {ds:List (List Nat × List Nat)}:L0 P ops base F i [] ds:=trivial
theorem fJ {id} {l} {w1} {w2} {w3} (F:(Nat→Bool)→St) (ds:List (List Nat × List Nat)) (h:gy l=true) (h1:St.Le σ (F fun j=>decide (l.length≤j))) (h2:L0 P l.toArray (id*1000+1000) F 0 l ds) (k:Q .normal (F fun _=>true)):Ym P id l Q σ w1 w2 w3:=.inr (.inl ⟨F,ds,h,h1,h2,k⟩)
theorem kw {id} {l} {w1} {w2} {w3} {σ1} (h:kX P l.toArray σ fun σ'=>σ'=σ1) (k:Q .normal σ1):Ym P id l Q σ w1 w2 w3:=.inr (.inr fun cx N i a w hP hN hs=>wp_mono (h cx N i a w hP hN hs) fun e a' w' ⟨he,σ',hk',hs'⟩=>⟨he,σ',hk' ▸ k,hs'⟩)
def kx (acc:List (Nat × List AV)) (σ:St) (K:St→Prop) (_:Wrap σ) (_:Wrap K):Prop:=cV acc σ K
@[go_sem ↓] theorem qK {acc} {σ} {K}:cV acc σ K=kx acc σ K ⟨⟩ ⟨⟩:=rfl
@[go_sem] theorem oH {σ} {K} {w1 w2}:kx [] σ K w1 w2=K σ:=by
 simp [kx,cV,FS,addB]
attribute [go_sem] addB
def MD (P:Program) (ops:Array Oper) (base:Nat) (V:List (Nat × Nat)) (E:List Bool) (i:Nat) (l:List Oper) (ts:List (Nat × Oper)) (acc:List (Nat × List AV)) (σ:St) (K:List (Nat × Oper)→List (Nat × List AV)→St→Prop) (_:Wrap ops) (_:Wrap l) (_:Wrap ts) (_:Wrap K) (_:Wrap V) (_:Wrap acc):Prop:=GY P ops base V E i l ts acc σ K
def aF (P:Program) (ops:Array Oper) (base:Nat) (r:VR) (i:Nat) (o:Oper) (acc:List (Nat × List AV)) (σ:St) (K:List (Nat × List AV)→St→Prop):Prop:=My P ops base r i o acc σ K
def XH (P:Program) (ops:Array Oper) (base:Nat) (r:VR) (i:Nat) (o:Oper) (acc:List (Nat × List AV)) (σ:St) (K:List (Nat × List AV)→St→Prop) (_:Wrap ops) (_:Wrap o) (_:Wrap acc) (_:Wrap σ) (_:Wrap K):Prop:=My P ops base r i o acc σ K
section
variable {ops:Array Oper} {base i:Nat} {V:List (Nat × Nat)} {E:List Bool} {ts:List (Nat × Oper)} {acc:List (Nat × List AV)} {H:List (Nat × Oper)→List (Nat × List AV)→St→Prop} {o:Oper} {l:List Oper} {w1:Wrap ops} {w3:Wrap ts} {w4:Wrap H} {w5:Wrap V} {w6:Wrap acc}
@[go_sem ↓] theorem oI:GY P ops base V E i l ts acc σ H=MD P ops base V E i l ts acc σ H ⟨⟩ ⟨⟩ ⟨⟩ ⟨⟩ ⟨⟩ ⟨⟩:=rfl
@[go_sem] theorem tJ {w2}:MD P ops base V E i [] ts acc σ H w1 w2 w3 w4 w5 w6=H ts acc σ:=by rfl
@[go_sem] theorem rm {w2}:MD P ops base V (true::E) i (o::l) ts acc σ H w1 w2 w3 w4 w5 w6=GY P ops base V E (i+1) l ((i,o)::ts) acc σ H:=rfl
@[go_sem] theorem qL {w2}:MD P ops base V (false::E) i (o::l) ts acc σ H w1 w2 w3 w4 w5 w6=aF P ops base (Cd V i) i o acc σ fun acc' σ'=>GY P ops base V E (i+1) l ts acc' σ' H:=rfl
@[go_sem] theorem tK {w2}:MD P ops base V [] i (o::l) ts acc σ H w1 w2 w3 w4 w5 w6=aF P ops base (Cd V i) i o acc σ fun acc' σ'=>GY P ops base V [] (i+1) l ts acc' σ' H:=rfl
@[go_sem] theorem ky {x} {xs b} {w2}:MD P ops base V E i (List.append (x::xs) b) ts acc σ H w1 w2 w3 w4 w5 w6=MD P ops base V E i (x::List.append xs b) ts acc σ H w1 ⟨⟩ w3 w4 w5 w6:=rfl
@[go_sem] theorem mr {b} {w2}:MD P ops base V E i (List.append [] b) ts acc σ H w1 w2 w3 w4 w5 w6=MD P ops base V E i b ts acc σ H w1 ⟨⟩ w3 w4 w5 w6:=rfl
@[go_sem ↓] theorem oJ {r} {K}:aF P ops base r i o acc σ K=XH P ops base r i o acc σ K ⟨⟩ ⟨⟩ ⟨⟩ ⟨⟩ ⟨⟩:=rfl
attribute [go_sem] Cd
@[go_sem] theorem oK {K} {w1 w2 w3 w4 w5}:XH P ops base .no i o acc σ K w1 w2 w3 w4 w5=aops P ops base (i+1) i [o] σ (K acc):=rfl
@[go_sem] theorem oL {K} {dst} {t ty} {ps} {af} {w1 w2 w3 w4 w5}:XH P ops base .al i ⟨dst,.alloc t,ty,ps,af,none⟩ acc σ K w1 w2 w3 w4 w5=Ac (0<(tz P t).length ∧(tz P t).length =tsz P t∧isMp ((tz P t).map zAV)=false) (K acc (σ.put dst (.box (base+i) 0))):=rfl
def stV (P:Program) (base k:Nat) (t:TypeId) (x a:AV) (dst:Option Tmp) (acc:List (Nat × List AV)) (σ:St) (K:List (Nat × List AV)→St→Prop):Prop:=match cellsOf x with
 |some cs=>(cs.length=tsz P t∧0<tsz P t∧cs.all AV.one=true)∧a= .box (base+k) 0∧K ((base+k,cs)::acc) (σ.put dst .any)
 |none=>False
@[go_sem] theorem oM {K} {k} {dst} {t ty} {a x} {ps} {af} {w1 w2 w3 w4 w5}:XH P ops base (.st k) i ⟨dst,.store t a x,ty,ps,af,none⟩ acc σ K w1 w2 w3 w4 w5=BI (σ.e x) fun x=>BI (σ.e a) fun a=>stV P base k t x a dst acc σ K:=rfl
def rn (P:Program) (base k:Nat) (t:TypeId) (x a:AV) (dst:Option Tmp) (acc:List (Nat × List AV)) (σ:St) (K:List (Nat × List AV)→St→Prop) (_:Wrap x) (_:Wrap a) (_:Wrap acc) (_:Wrap σ) (_:Wrap K):Prop:=stV P base k t x a dst acc σ K
@[go_sem ↓] theorem rp {k} {t} {x a} {dst} {K}:stV P base k t x a dst acc σ K=rn P base k t x a dst acc σ K ⟨⟩ ⟨⟩ ⟨⟩ ⟨⟩ ⟨⟩:=rfl
def trX (o:Option Oper) (f:Oper→Prop):Prop:=match o with
 |some o=>f o
 |none=>False
def trY (o:Option Oper) (f:Oper→Prop) (_:Wrap f):Prop:=trX o f
@[go_sem ↓] theorem rq {x} {f}:trX x f=trY x f ⟨⟩:=rfl
@[go_sem] theorem oN {f} {w}:trY (some o) f w=f o:=rfl
def kz (p q:Prop):Prop:=p∧q
def oO (p q:Prop) (_:Wrap p) (_:Wrap q):Prop:=p∧q
@[go_sem ↓] theorem qM {p q:Prop}:kz p q=oO p q ⟨⟩ ⟨⟩:=rfl
theorem A3 {p q:Prop} {w} {w'} (hp:p) (hq:q):oO p q w w':=⟨hp,hq⟩
def VU (P:Program) (ops:Array Oper) (base:Nat) (ts:List (Nat × Oper)) (tr:Tr) (σ:St) (K:St→Prop) (_:Wrap ops) (_:Wrap ts) (_:Wrap K):Prop:=aTr P ops base ts tr σ K
@[go_sem ↓] theorem ru {tr}:aTr P ops base ts tr σ K=VU P ops base ts tr σ K ⟨⟩ ⟨⟩ ⟨⟩:=rfl
@[go_sem] theorem rx {w3} {w4}:VU P ops base ts .fin σ K w1 w3 w4=K σ:=rfl
@[go_sem] theorem ry {t} {w3} {w4}:VU P ops base ts (.br i t .stop) σ K w1 w3 w4=trX (look ts i) fun o=>aops P ops base 0 i [o] σ fun σ'=>aTr P ops base ts t σ' K:=by
 grind [VU,trX,aTr]
@[go_sem] theorem rz {t u m} {j} {w3} {w4}:VU P ops base ts (.br i t (.br j u m)) σ K w1 w3 w4=kz (aTr P ops base ts (.br i t .stop) σ K) (aTr P ops base ts (.br j u m) σ K):=by
 grind [VU,kz,aTr]
@[go_sem] theorem sA {t} {w3} {w4}:VU P ops base ts (Tr.sq [] t) σ K w1 w3 w4=VU P ops base ts t σ K w1 w3 w4:=rfl
@[go_sem] theorem tL {t} {is} {w3} {w4}:VU P ops base ts (Tr.sq (i::is) t) σ K w1 w3 w4=VU P ops base ts (.br i (Tr.sq is t) .stop) σ K w1 w3 w4:=rfl
end
def iB (p:Bool) (K:St→Prop) (σ:St):Prop:=seqW p K σ
def Uh (p:Bool) (K:St→Prop) (σ:St) (_:Wrap K) (_:Wrap σ):Prop:=seqW p K σ
@[go_sem ↓] theorem qN {p}:iB p K σ=Uh p K σ ⟨⟩ ⟨⟩:=rfl
@[go_sem] theorem ms {w1} {w2}:Uh true K σ w1 w2=K σ:=rfl
theorem Bv {w1} {w2} (h:K σ):Uh false K σ w1 w2:=⟨σ,.nil σ,h⟩
theorem lA {w1} {w2} {σ1} (hn:Nils σ σ1) (h:K σ1):Uh false K σ w1 w2:=⟨σ1,.fz hn (.nil σ1),h⟩
theorem fK {w1} {w2} {σ1} (h:K σ1) (hw:Wk σ σ1):Uh false K σ w1 w2:=⟨σ1,hw,h⟩
@[go_sem] theorem iC {id:Nat} {l:List Oper}:Jy (.region id l.toArray false)=l.all fun o=>o.guard.isNone&&kW o.op:=rfl
attribute [go_sem] kW Bool.and_true Bool.true_and Bool.and_false Bool.false_and
@[go_sem] theorem lC {id:Nat} {l:List Oper}:Jy (.region id l.toArray true)=false:=rfl
@[go_sem] theorem lD:Jy .skip =false:=rfl
@[go_sem] theorem mu {a b}:Jy (.seq a b)=false:=rfl
@[go_sem] theorem lE {c} {a b}:Jy (.cond c a b)=false:=rfl
@[go_sem] theorem jz {id} {a}:Jy (.block id a)=false:=rfl
@[go_sem] theorem lF {a}:Jy (.loop a)=false:=rfl
@[go_sem] theorem lG {id}:Jy (.exit id)=false:=rfl
@[go_sem] theorem mw:Jy .ret =false:=rfl
attribute [go_sem] Option.isNone_none Option.isNone_some List.all_cons List.all_nil
@[go_sem ↓] theorem tM {a b}:awp P (.seq a b) Q σ=awp P a (AE.then (iB (Jy a) (awp P b Q)) Q) σ:=by rw [awp]; rfl
@[go_sem ↓] theorem sB {c} {a b}:awp P (.cond c a b) Q σ=BI (σ.e c) fun v=>bC v (awp P a Q σ) (awp P b Q σ):=by rw [awp]; rfl
@[go_sem ↓] theorem qO {id} {c}:awp P (.block id c) Q σ=awp P c (AE.inBlock id Q) σ:=by rw [awp]
@[go_sem ↓] theorem sC {id}:awp P (.exit id) Q σ=Q (.exit id) σ:=by rw [awp]
@[go_sem ↓] theorem tN:awp P .ret Q σ=Q .ret σ:=by rw [awp]
@[go_sem] theorem aG {b} {p q:Prop}:bC (.bool b) p q=Uf b p q:=by simp [bC,Uf]
@[go_sem ↓] theorem j0 {n}:AE.then n Q .normal σ=n σ:=rfl
@[go_sem ↓] theorem mz {n} {id}:AE.then n Q (.exit id) σ=Q (.exit id) σ:=rfl
@[go_sem ↓] theorem oP {n}:AE.then n Q .ret σ=Q .ret σ:=rfl
@[go_sem ↓] theorem iD {id}:AE.inBlock id Q .normal σ=Q .normal σ:=rfl
@[go_sem ↓] theorem m5 {id}:AE.inBlock id Q .ret σ=Q .ret σ:=rfl
def Sl (P:Program) (b:Code) (Q:AE→St→Prop) (σ:St) (_:Wrap b) (_:Wrap Q):Prop:=awp P (.loop b) Q σ
def lpX (P:Program) (b:Code) (Q:AE→St→Prop) (σ:St):Prop:=∃σ1,Wk σ σ1∧awp P (.loop b) Q σ1
def lpY (P:Program) (b:Code) (Q:AE→St→Prop) (σ:St) (_:Wrap b) (_:Wrap Q) (_:Wrap σ):Prop:=∃σ1,Wk σ σ1∧awp P (.loop b) Q σ1
@[go_sem ↓] theorem sD {b}:lpX P b Q σ=lpY P b Q σ ⟨⟩ ⟨⟩ ⟨⟩:=rfl
theorem QU {b} {w1} {w2} {w3} {σ1} (h:awp P (.loop b) Q σ1) (hw:Wk σ σ1):lpY P b Q σ w1 w2 w3:=⟨σ1,hw,h⟩
theorem Ae {b} {w1} {w2} (h:awp P b (AE.then (lpX P b Q) Q) σ):Sl P b Q σ w1 w2:=Yl h
@[go_sem ↓] theorem m6 {b}:awp P (.loop b) Q σ=Sl P b Q σ ⟨⟩ ⟨⟩:=rfl
@[go_sem ↓] theorem lH {id i}:AE.inBlock id Q (.exit i) σ=PH (decide (i=id)) (Q .normal σ) (Q (.exit i) σ):=by
 simp only [AE.inBlock,PH]
 by_cases h:i=id <;> simp [h]
attribute [go_sem] decide_true decide_false
def opX (P:Program) (pos:Nat) (dst:Option Tmp) (op:Op) (σ:St) (K:St→Prop):Prop:=aop P pos ⟨dst,op,0, "",#[],none⟩ σ K
def opL (P:Program) (L:Bool) (pos:Nat) (dst:Option Tmp) (op:Op) (σ:St) (K:St→Prop) (_:Wrap L):Prop:=VQ P L pos ⟨dst,op,0, "",#[],none⟩ σ K
@[go_sem] theorem tO {ops} {base cut i} {w1} {w2} {w3} {w4}:NG P ops base cut i [] σ K w1 w2 w3 w4=K σ:=by rw [NG,aops]
@[go_sem] theorem sE {ops} {base cut i} {dst} {op} {type} {ps} {after} {rest} {w1} {w2} {w3} {w4}:
  NG P ops base cut i (⟨dst,op,type,ps,after,none⟩::rest) σ K w1 w2 w3 w4=opL P (decide (cut≤i)) (base+i) dst op σ (fun σ'=>aops P ops base cut (i+1) rest σ' K) ⟨⟩:=by
 rw [NG,aops]; rfl
def Sm (ops:Array Oper) (j:Nat) (K:Tmp→Prop):Prop:=optX (Ja ops j) K
@[go_sem ↓] theorem lI {dst} {op} {type} {ps} {after} {g} {rest} {K}:Sm (List.toArray (⟨some dst,op,type,ps,after,g⟩::rest)) 0 K=K dst:=by
 simp [Sm,Ja,optX]
@[go_sem ↓] theorem lJ {o} {rest} {j} {K}:Sm (List.toArray (o::rest)) (j+1) K=Sm rest.toArray j K:=by
 simp [Sm,Ja]
def PI (v:AV) (want:Bool) (p q q':Prop):Prop:=(∃b,v= .bool b∧(b=want→p)∧(b= !want→q))∨(v= .tup [] ∧q')
@[go_sem ↓] theorem Yn {b} {p q q':Prop}:PI (.bool b) true p q q'=Uf b p q:=by simp [PI,Uf]
@[go_sem ↓] theorem XI {b} {p q q':Prop}:PI (.bool b) false p q q'=Uf b q p:=by
 grind [PI,Uf]
@[go_sem ↓] theorem dO {want} {p q q':Prop}:PI (.tup []) want p q q'=q':=by simp [PI]
@[go_sem] theorem qP {ops} {base cut i} {dst} {op} {type} {ps} {after} {j} {want} {rest} {w1} {w2} {w3} {w4}:
  NG P ops base cut i (⟨dst,op,type,ps,after,some (j,want)⟩::rest) σ K w1 w2 w3 w4=Sm ops j fun s=>BI (σ.g s) fun v=>PI v want
   (opL P (decide (cut≤i)) (base+i) dst op (σ.put (some s) (.bool want)) (fun σ'=>aops P ops base cut (i+1) rest σ' K) ⟨⟩)
   (aops P ops base cut (i+1) rest ((σ.put (some s) (.bool (!want))).put dst (.tup [])) K)
   (aops P ops base cut (i+1) rest (σ.put dst (.tup [])) K):=by
 rw [NG,aops]
 rfl
section
variable {L:Bool} {pos:Nat} {dst:Option Tmp} {wL:Wrap L}
theorem dP {σ:St} {o:Oper} (h:SY o=false):Tx σ o=false:=by
 unfold Tx
 split
 ·rename_i h1; simp [SY,h1] at h
 ·rfl
theorem FA {op} (h:∀ (σ:St) (K:St→Prop),Og P ⟨dst,op,0, "",#[],none⟩ σ K=False) (hA:SY ⟨dst,op,0, "",#[],none⟩=false:=by rfl) (hS:VP P pos ⟨dst,op,0, "",#[],none⟩ σ K=False:=by rfl):opL P L pos dst op σ K wL=opX P pos dst op σ K:=by
 have:=dP (σ:=σ) hA
 grind [opL,VQ,opX]
@[go_sem ↓] theorem oQ {x}:opL P L pos dst (.move x) σ K wL=opX P pos dst (.move x) σ K:=FA fun _ _=>rfl
@[go_sem ↓] theorem lK {x}:opL P L pos dst (.assign x) σ K wL=opX P pos dst (.assign x) σ K:=FA fun _ _=>rfl
@[go_sem ↓] theorem oR {a b c}:opL P L pos dst (.pick c a b) σ K wL=opX P pos dst (.pick c a b) σ K:=FA fun _ _=>rfl
@[go_sem ↓] theorem oS {t} {a}:opL P L pos dst (.load t a) σ K wL=opX P pos dst (.load t a) σ K:=FA fun _ _=>rfl
@[go_sem ↓] theorem iE {x}:opL P L pos dst (.nilCheck x) σ K wL=opX P pos dst (.nilCheck x) σ K:=FA fun _ _=>rfl
@[go_sem ↓] theorem qQ {op} {t t'} {x y}:opL P L pos dst (.binOp op t x y t') σ K wL=opX P pos dst (.binOp op t x y t') σ K:=FA fun _ _=>rfl
@[go_sem ↓] theorem sF {op} {t} {x}:opL P L pos dst (.unOp op t x) σ K wL=opX P pos dst (.unOp op t x) σ K:=FA fun _ _=>rfl
@[go_sem ↓] theorem gp {s} {x} {f}:opL P L pos dst (.fieldAddr s x f) σ K wL=opX P pos dst (.fieldAddr s x f) σ K:=FA fun _ _=>rfl
@[go_sem ↓] theorem gq {t} {x i}:opL P L pos dst (.indexAddr t x i) σ K wL=opX P pos dst (.indexAddr t x i) σ K:=FA fun _ _=>rfl
@[go_sem ↓] theorem m7 {t} {x i}:opL P L pos dst (.index t x i) σ K wL=opX P pos dst (.index t x i) σ K:=FA fun _ _=>rfl
def oU (P:Program) (L:Bool) (pos:Nat) (dst:Option Tmp) (op:Op) (v:AV) (σ:St) (K:St→Prop):Prop:=opX P pos dst op σ K∨(L=true∧(match v with| .own _=>True|_=>False)∧VP P pos ⟨dst,op,0, "",#[],none⟩ σ K)
def sG (P:Program) (L:Bool) (pos:Nat) (dst:Option Tmp) (op:Op) (v:AV) (σ:St) (K:St→Prop) (_:Wrap σ) (_:Wrap K) (_:Wrap op):Prop:=oU P L pos dst op v σ K
@[go_sem ↓] theorem qR {op} {v}:oU P L pos dst op v σ K=sG P L pos dst op v σ K ⟨⟩ ⟨⟩ ⟨⟩:=rfl
@[go_sem ↓] theorem j5 {x} {i}:opL P L pos dst (.extract x i) σ K wL=opX P pos dst (.extract x i) σ K:=FA fun _ _=>rfl
@[go_sem ↓] theorem iF {c} {a b}:opL P L pos dst (.makeFunc c a b) σ K wL=opX P pos dst (.makeFunc c a b) σ K:=FA fun _ _=>rfl
@[go_sem ↓] theorem qS {t} {x}:opL P L pos dst (.box t x) σ K wL=opX P pos dst (.box t x) σ K:=FA fun _ _=>rfl
@[go_sem ↓] theorem m8 {t}:opL P L pos dst (.alloc t) σ K wL=opX P pos dst (.alloc t) σ K:=FA fun _ _=>rfl
@[go_sem ↓] theorem m9 {t} {ps}:opL P L pos dst (.build t ps) σ K wL=opX P pos dst (.build t ps) σ K:=FA fun _ _=>rfl
@[go_sem ↓] theorem fL {t} {n} {ps}:opL P L pos dst (.buildSlice t n ps) σ K wL=opX P pos dst (.buildSlice t n ps) σ K:=FA fun _ _=>rfl
@[go_sem ↓] theorem gr {t} {l c}:opL P L pos dst (.makeSlice t l c) σ K wL=opX P pos dst (.makeSlice t l c) σ K:=FA fun _ _=>rfl
@[go_sem ↓] theorem j6 {t} {r}:opL P L pos dst (.makeMap t r) σ K wL=opX P pos dst (.makeMap t r) σ K:=FA fun _ _=>rfl
@[go_sem ↓] theorem lL {t} {x i} {ok}:opL P L pos dst (.lookup t x i ok) σ K wL=opX P pos dst (.lookup t x i ok) σ K:=FA fun _ _=>rfl
@[go_sem ↓] theorem nA {t} {a x}:opL P L pos dst (.store t a x) σ K wL=opX P pos dst (.store t a x) σ K:=FA fun _ _=>rfl
@[go_sem ↓] theorem qT {as} {ts}:opL P L pos dst (.call ⟨.builtin .len,as,ts⟩) σ K wL=opX P pos dst (.call ⟨.builtin .len,as,ts⟩) σ K:=FA fun _ _=>rfl
def opE (P:Program) (pos:Nat) (dst:Option Tmp) (op:Op) (σ:St) (K:St→Prop):Prop:=∃r,Ev P pos ⟨dst,op,0, "",#[],none⟩ σ.e σ.T σ.B r∧DY σ r.t∧FS σ r.b∧K (σ.add dst r)
def dQ (L:Bool) (p q:Prop) (_:Wrap p) (_:Wrap q):Prop:=(L=true∧p)∨(L=false∧q)
@[go_sem] theorem nC {p q:Prop} {w1} {w2}:dQ true p q w1 w2=p:=by simp [dQ]
@[go_sem] theorem lM {p q:Prop} {w1} {w2}:dQ false p q w1 w2=q:=by simp [dQ]
def Yo (P:Program) (pos:Nat) (dst:Option Tmp) (op:Op) (u:AV) (σ:St) (K:St→Prop):Prop:=opX P pos dst op σ K∨(bB u=true∧∃σ1,Nils σ σ1∧opX P pos dst op σ1 K)
def naY (P:Program) (pos:Nat) (dst:Option Tmp) (op:Op) (u:AV) (σ:St) (K:St→Prop) (_:Wrap σ) (_:Wrap K) (_:Wrap op):Prop:=Yo P pos dst op u σ K
@[go_sem ↓] theorem qU {op} {t g p}:Yo P pos dst op (.sub t g p) σ K=naY P pos dst op (.sub t g p) σ K ⟨⟩ ⟨⟩ ⟨⟩:=rfl
theorem fM {op} {u} (h:bB u=false):Yo P pos dst op u σ K=opX P pos dst op σ K:=by simp [Yo,h]
@[go_sem ↓] theorem qV {op} {t}:Yo P pos dst op (.own t) σ K=opX P pos dst op σ K:=fM rfl
@[go_sem ↓] theorem qW {op} {b n sz}:Yo P pos dst op (.bsl b n sz) σ K=opX P pos dst op σ K:=fM rfl
theorem j7 {op} {t g p} {σ1:St} {w1 w2 w3} (h:Nils σ σ1) (k:opX P pos dst op σ1 K):naY P pos dst op (.sub t g p) σ K w1 w2 w3:=.inr ⟨rfl,σ1,h,k⟩
@[go_sem ↓] theorem lN {x y} {ts}:opL P L pos dst (.call ⟨.builtin .append,List.toArray [x,y],ts⟩) σ K wL=dQ L (BI (σ.e x) fun u=>Yo P pos dst (.call ⟨.builtin .append,List.toArray [x,y],ts⟩) u σ K) (opE P pos dst (.call ⟨.builtin .append,List.toArray [x,y],ts⟩) σ K) ⟨⟩ ⟨⟩:=by
 have h1:Tx σ ⟨dst,.call ⟨.builtin .append,List.toArray [x,y],ts⟩,0, "",#[],none⟩=bB (σ.e x):=rfl
 simp only [BI]
 grind [Og,SY,VP,opL,VQ,opX,dQ,opE,Yo]
end
attribute [go_sem] Bool.not_true Bool.not_false Nat.zero_le
theorem J9 {pos:Nat} {dst:Option Tmp} {op:Op} (h:∀K',aop P pos ⟨dst,op,0, "",#[],none⟩ σ K'=∃r,Ev P pos ⟨dst,op,0, "",#[],none⟩ σ.e σ.T σ.B r∧DY σ r.t∧FS σ r.b∧K' (σ.add dst r)) {p:AV→Prop} (hp:∀r,Ev P pos ⟨dst,op,0, "",#[],none⟩ σ.e σ.T σ.B r=∃v,p v∧r=⟨v,[],[]⟩):
  opX P pos dst op σ K=∃v,p v∧K (σ.put dst v):=by
 unfold opX
 rw [h]
 refine propext ⟨?_,?_⟩
 ·rintro ⟨r,h1,h2,h3,h4⟩
  rw [hp] at h1
  obtain⟨v,h5,rfl⟩:=h1
  exact⟨v,h5,by cases dst <;> exact h4⟩
 ·rintro ⟨v,h5,h4⟩
  exact⟨⟨v,[],[]⟩,by rw [hp]; grind,trivial,trivial,by cases dst <;> exact h4⟩
@[go_sem ↓] theorem sH {pos:Nat} {dst:Option Tmp} {x:Operand}:opX P pos dst (.move x) σ K=BI (σ.e x) fun v=>K (σ.put dst v):=by
 rw [J9 (p:=fun v=>v=σ.e x) (fun _=>by rfl) (fun r=>by simp [Ev])]
 simp [BI]
@[go_sem ↓] theorem oV {pos:Nat} {dst:Option Tmp} {x:Operand}:opX P pos dst (.assign x) σ K=BI (σ.e x) fun v=>K (σ.put dst v):=by
 rw [J9 (p:=fun v=>v=σ.e x) (fun _=>by rfl) (fun r=>by simp [Ev])]
 simp [BI]
def Ui (c a b:AV) (K:AV→Prop):Prop:=∃t,c= .bool t∧K (if t=true then a else b)
@[go_sem] theorem aH {a b} {K}:Ui (.bool true) a b K=K a:=by simp [Ui]
@[go_sem] theorem Yp {a b} {K}:Ui (.bool false) a b K=K b:=by simp [Ui]
theorem lO {pos:Nat} {dst:Option Tmp} {c a b:Operand}:opX P pos dst (.pick c a b) σ K=Ui (σ.e c) (σ.e a) (σ.e b) fun v=>K (σ.put dst v):=by
 rw [J9 (p:=fun v=>∃t,σ.e c= .bool t∧v=if t=true then σ.e a else σ.e b) (fun _=>by rfl) (fun r=>by
  grind [Ev])]
 grind [Ui]
def NH (P:Program) (t:TypeId) (a:AV) (σ:St) (K:AV→Prop):Prop:=∃v,Jx P σ.T σ.B t a v∧K v
def ldX (P:Program) (t:TypeId) (off:Nat) (vs:List AV) (K:AV→Prop):Prop:=
 PH (ti P t).isAgg (Ac (off+tsz P t≤vs.length) (BI (.agg (GS vs off (tsz P t))) K)) (Ac ((ti P t).sc =true) (optX vs[off]? K))
theorem lP {pos:Nat} {dst:Option Tmp} {t:TypeId} {a:Operand}:opX P pos dst (.load t a) σ K=NH P t (σ.e a) σ fun v=>K (σ.put dst v):=
 J9 (p:=fun v=>Jx P σ.T σ.B t (σ.e a) v) (fun _=>by rfl) (fun r=>by rfl)
@[go_sem] theorem dR {t} {b off} {K}:NH P t (.box b off) σ K=optX (σ.B b) fun vs=>Ac (isMp vs=false) (ldX P t off vs K):=by
 grind [NH,Jx,optX,ldX,PH,Ac,BI]
@[go_sem] theorem dS {t} {vs} {off} {K}:NH P t (.rop vs off) σ K=ldX P t off vs K:=by
 grind [NH,Jx,optX,ldX,PH,Ac,BI]
@[go_sem] theorem dT {t} {t' sz i off} {K}:NH P t (.elt t' sz i off) σ K=
  optX (σ.T t') fun tk=>optX tk.rows[i]? fun row=>Ac (row.length=sz) (PH (ti P t).isAgg (Ac (off+tsz P t≤sz) (BI (.agg (Ow t' tk.gen [] sz i row off (tsz P t))) K)) (Ac ((ti P t).sc =true) (optX row[off]? fun d=>K (ofT t' tk.gen [] sz i off d)))):=by
 grind [NH,Jx,optX,PH,Ac,BI]
@[go_sem] theorem dU {t} {t' g} {p} {sz i off} {K}:NH P t (.els t' g p sz i off) σ K=
  optX (subR σ.T t' g p) fun rows=>optX rows[i]? fun row=>Ac (row.length=sz) (PH (ti P t).isAgg (Ac (off+tsz P t≤sz) (BI (.agg (Ow t' g p sz i row off (tsz P t))) K)) (Ac ((ti P t).sc =true) (optX row[off]? fun d=>K (ofT t' g p sz i off d)))):=by
 grind [NH,Jx,optX,PH,Ac,BI]
def lQ (o:Option Tok) (g:Nat) (p:Pth):Option (List (List D)):=match o with
 |some tk=>if tk.gen=g then getP p tk.rows else none
 |none=>none
@[go_sem ↓] theorem qX {T} {t g} {p}:subR T t g p=lQ (T t) g p:=rfl
@[go_sem] theorem nD {rows} {ap} {g} {q} {p}:lQ (some ⟨rows,ap,g,q⟩) g p=getP p rows:=by simp [lQ]
def fN (o:Option Tok) (g:Nat) (p:Pth):Option (List (List D)):=match o with
 |some tk=>if tk.gen=g then (getP p tk.rows).map tk.er else none
 |none=>none
@[go_sem ↓] theorem qY {T} {t g} {p}:subE T t g p=fN (T t) g p:=rfl
@[go_sem] theorem lR {rows} {ap} {g} {q} {p}:fN (some ⟨rows,ap,g,q⟩) g p=(getP p rows).map (zer q):=by
 simp only [fN,if_true]; rfl
@[go_sem] theorem nE {r}:zer .no r=r:=rfl
@[go_sem] theorem oW {r}:zer .yes r=erR r:=rfl
@[go_sem] theorem sI {r}:zer .nl r=erR r:=rfl
@[go_sem] theorem tP {rows} {ap} {g} {q}:Tok.rd ⟨rows,ap,g,q⟩=zer q rows:=rfl
@[go_sem] theorem tQ {rows r} {ap} {g} {q}:Tok.er ⟨rows,ap,g,q⟩ r=zer q r:=rfl
@[go_sem] theorem nF {z} {rows} {ap} {g}:okZ z ⟨rows,ap,g,.no⟩=true:=rfl
@[go_sem] theorem sJ {z} {rows} {ap} {g}:okZ z ⟨rows,ap,g,.nl⟩=true:=rfl
@[go_sem] theorem oX {q} {rows} {ap} {g}:okZ q ⟨rows,ap,g,q⟩=true:=by cases q <;> rfl
@[go_sem] theorem oY {rows}:getP [] rows=some rows:=rfl
def oZ (d:D) (K:List (List D)→Prop):Prop:=match Ie d with|some r=>K r|none=>False
@[go_sem] theorem qZ {r} {K}:oZ (.sl r) K=K r:=rfl
@[go_sem] theorem qa {K}:oZ .nl K=K [] :=rfl
@[go_sem] theorem lS {t g} {p} {sz i} {d} {ds} {off n}:Ow t g p sz i (d::ds) off n=X1 t g p sz i off (((d::ds).drop off).take n):=rfl
attribute [go_sem ↓] ldX
attribute [go_sem] GS ofD Tn ofS X1
@[go_sem] theorem qc {t g} {p} {sz i j} {k} {n}:ofT t g p sz i j (.int k n)= .int k n:=rfl
@[go_sem] theorem oa {t g} {p} {sz i j} {b}:ofT t g p sz i j (.bool b)= .bool b:=rfl
@[go_sem] theorem qd {t g} {p} {sz i j} {s}:ofT t g p sz i j (.str s)= .str s:=rfl
@[go_sem] theorem sK {t g} {p} {sz i j} {r}:ofT t g p sz i j (.sl r)= .sub t g (p++[(sz,i,j)]):=rfl
@[go_sem] theorem ob {t g} {p} {sz i j}:ofT t g p sz i j .gone = .any :=rfl
@[go_sem] theorem sL {t g} {p} {sz i j} {r}:ofT t g p sz i j (.fz r)= .ro r:=rfl
@[go_sem] theorem qe {t g} {p} {sz i j} {ds}:ofT t g p sz i j (.ptr ds)= .rop (Tn ds) 0:=rfl
@[go_sem] theorem oc {t g} {p} {sz i j}:ofT t g p sz i j .nilp = .nilp :=rfl
@[go_sem] theorem sM {t g} {p} {sz i j}:ofT t g p sz i j .nl = .sub t g (p++[(sz,i,j)]):=rfl
end
attribute [go_sem ↓] aG Yn XI dO aH Yp dR dS dT dU
end Go.Proofs.YtclmbjbbojdojaaGreat.Ab
