/-
  The abstract walk as a set of rules for 'simp only [go_sem]': heads that wait, their congruences, one rule an operation.
-/
import Derived.Test.YtclmbjbbojdojaaGreatAbS
namespace Go.Proofs.YtclmbjbbojdojaaGreat.Ab
set_option linter.unusedVariables false
set_option maxHeartbeats 1000000
open Go.RowKit
section
variable {P:Program}
theorem D3 {z}:∀ {vs} {σ} {K K'},(∀ds σ,K ds σ→K' ds σ)→A0 z vs σ K→A0 z vs σ K'
 | [],σ,K,K',hk,h=>by rw [A0] at h ⊢; grind
 | .int k n::vs,σ,K,K',hk,h=>by rw [A0] at h ⊢; exact D3 (fun ds σ=>hk _ σ) h
 | .bool b::vs,σ,K,K',hk,h=>by rw [A0] at h ⊢; exact D3 (fun ds σ=>hk _ σ) h
 | .str b::vs,σ,K,K',hk,h=>by rw [A0] at h ⊢; exact D3 (fun ds σ=>hk _ σ) h
 | .nils ::vs,σ,K,K',hk,h=>by rw [A0] at h ⊢; exact D3 (fun ds σ=>hk _ σ) h
 | .nilp ::vs,σ,K,K',hk,h=>by rw [A0] at h ⊢; exact D3 (fun ds σ=>hk _ σ) h
 | .ro _::vs,σ,K,K',hk,h=>by rw [A0] at h ⊢; exact⟨h.1,D3 (fun ds σ=>hk _ σ) h.2⟩
 | .rop _ _::vs,σ,K,K',hk,h=>by rw [A0] at h ⊢; obtain⟨h1,d,h2,h3⟩:=h; exact⟨h1,d,h2,D3 (fun ds σ=>hk _ σ) h3⟩
 | .bsl _ _ _::vs,σ,K,K',hk,h=>by
  rw [A0] at h ⊢
  split at h
  ·rename_i h0
   rw [if_pos h0]
   exact D3 (fun ds σ=>hk _ σ) h
  ·rename_i h0
   rw [if_neg h0]
   obtain⟨h1,h2,vs',h3,ds,h4,h5,h6⟩:=h
   exact⟨h1,h2,vs',h3,ds,h4,h5,D3 (fun ds σ=>hk _ σ) h6⟩
 | .own t::vs,σ,K,K',hk,h=>by rw [A0] at h ⊢; obtain⟨tk,h1,h2,h3⟩:=h; exact⟨tk,h1,h2,D3 (fun ds σ=>hk _ σ) h3⟩
 | .sub _ _ _::vs,σ,K,K',hk,h=>by grind [A0]
 | .els _ _ _ _ _ _::vs,σ,K,K',hk,h=>by grind [A0]
 | .any ::vs,σ,K,K',hk,h=>by grind [A0]
 | .box _ _::vs,σ,K,K',hk,h=>by grind [A0]
 | .elt _ _ _ _::vs,σ,K,K',hk,h=>by grind [A0]
 | .par _ _ _ _::vs,σ,K,K',hk,h=>by grind [A0]
 | .agg _::vs,σ,K,K',hk,h=>by grind [A0]
 | .tup _::vs,σ,K,K',hk,h=>by grind [A0]
 | .fn _ _::vs,σ,K,K',hk,h=>by grind [A0]
 | .mpr _::vs,σ,K,K',hk,h=>by grind [A0]
 | .mpc _ _::vs,σ,K,K',hk,h=>by grind [A0]
theorem Un {t} {a x} {σ} {K K'} (hk:∀σ,K σ→K' σ) (h:Lg P t a x σ K):Lg P t a x σ K':=by
 unfold Lg at h ⊢
 split at h
 ·obtain⟨h1,h2,h3,h4⟩:=h
  refine⟨h1,h2,h3,?_⟩
  split at h4
  ·grind
  ·grind [D3]
  ·grind [D3]
  omega
 omega
theorem Wl {z} {e} {sz} {x} {σ} {K K'} (hk:∀r σ,K r σ→K' r σ) (h:PD z e sz x σ K):PD z e sz x σ K':=by
 unfold PD at h ⊢
 split at h
 ·grind
 ·split at h
  ·grind
  ·rename_i h0
   rw [if_neg h0]
   obtain⟨h0,h1,h2,vs',h3,ds,h4,h5,h6⟩:=h
   exact⟨h0,h1,h2,vs',h3,ds,h4,h5,hk _ _ h6⟩
 ·grind
 omega
theorem Wm {z} {sz} {x} {σ} {K K'} (hk:∀r σ,K r σ→K' r σ) (h:J2 z sz x σ K):J2 z sz x σ K':=by
 unfold J2 at h ⊢
 split at h
 ·grind
 ·grind [D3]
 ·grind
 ·grind
 omega
theorem Wn {pos} {t} {x y} {σ} {K K'} (hk:∀v σ,K v σ→K' v σ) (h:UN P pos t x y σ K):UN P pos t x y σ K':=by
 unfold UN at h ⊢
 split at h
 ·grind [Wl,Wm]
 omega
theorem RY {t} {m i x} {σ} {K K'} (hk:∀σ,K σ→K' σ) (h:Rt P t m i x σ K):Rt P t m i x σ K':=by
 unfold Rt at h ⊢
 grind
theorem TV {pos} {o} {σ} {K K'} (hk:∀σ,K σ→K' σ) (h:aop P pos o σ K):aop P pos o σ K':=by
 unfold aop at h ⊢
 split at h
 ·grind
 ·grind
 ·grind [Un]
 ·grind [RY]
 ·grind [RY]
 ·grind [Wn]
 grind
theorem Hk {K K'} (hk:∀σ,K σ→K' σ):∀ {cv} {σ},Bu cv σ K→Bu cv σ K'
 | [],σ,h=>by rw [Bu] at h ⊢; grind
 | (n,a,z)::cv,σ,h=>by
  cases a with
  |sub t g p=>
   rw [Bu] at h ⊢
   obtain⟨h1,h2,h3,tk,rows,h4,h5,h6,h7,h8⟩:=h
   exact⟨h1,h2,h3,tk,rows,h4,h5,h6,h7,Hk hk h8⟩
  |nils=>rw [Bu] at h ⊢; exact⟨h.1,Hk hk h.2⟩
  |bsl b m sz=>rw [Bu] at h ⊢; exact⟨h.1,h.2.1,Hk hk h.2.2⟩
  |_=>simp [Bu] at h
theorem JO:∀ {cv} {σ} {K K'},(∀σ,K σ→K' σ)→A3 cv σ K→A3 cv σ K'
 | [],σ,K,K',hk,h=>by rw [A3] at h ⊢; grind
 | (n,a,z)::cv,σ,K,K',hk,h=>by
  cases a with
  | sub t g p=>
   rw [A3] at h ⊢
   refine JO (fun σ h=>?_) h
   cases hn:σ.T n with
   |none=>simp only [hn] at h ⊢; exact hk _ h
   |some tn=>
    simp only [hn] at h ⊢
    obtain⟨tk,h1,h2,h3,h4⟩:=h
    exact⟨tk,h1,h2,h3,hk _ h4⟩
  |_=>
   rw [A3] at h ⊢
   ·exact JO (fun σ h=>hk _ h) h
   all_goals (intros; simp_all)
theorem Uo {f} {args} {σ} {K K'} (hk:∀v σ,K v σ→K' v σ) (h:Q6 P f args σ K):Q6 P f args σ K':=by
 obtain⟨y,as,pt,pb,r,qt,qb,h1,h2⟩:=h
 exact⟨y,as,pt,pb,r,qt,qb,h1,Hk (fun σ h=>⟨h.1,h.2.1,h.2.2.1,h.2.2.2.1,h.2.2.2.2.1,h.2.2.2.2.2.1,h.2.2.2.2.2.2.1,h.2.2.2.2.2.2.2.1,JO (fun σ h=>hk _ _ h) h.2.2.2.2.2.2.2.2⟩) h2⟩
theorem TW {K K'} (hk:∀a σ,K a σ→K' a σ):∀ {bs} {args} {σ},FzK bs args σ K→FzK bs args σ K'
 | [],args,σ,h=>hk _ _ h
 |b::bs,args,σ,h=>by
  obtain⟨vs,h1,h2,h3⟩:=h
  exact⟨vs,h1,h2,TW hk h3⟩
theorem Up {f} {args} {σ} {K K'} (hk:∀v σ,K v σ→K' v σ) (h:VT P f args σ K):VT P f args σ K':=by
 obtain⟨bs,h⟩:=h
 exact⟨bs,TW (fun _ _ h=>Uo hk h) h⟩
theorem RZ {L} {pos} {o} {σ} {K K'} (hk:∀σ,K σ→K' σ) (h:PJ P L pos o σ K):PJ P L pos o σ K':=by
 rcases h with ⟨hA,h⟩|⟨hL,h⟩|⟨hL,hA,r,h1,h2,h3,h4⟩
 ·exact .inl ⟨hA,TV hk h⟩
 ·refine .inr (.inl ⟨hL,?_⟩)
  rcases h with h|h|⟨hs,σ1,hn,h⟩
  ·refine .inl ?_
   unfold J4 at h ⊢
   split at h
   ·grind [Up]
   omega
  ·refine .inr (.inl ?_)
   unfold SliK at h ⊢
   split at h
   ·split at h
    ·grind
    omega
   omega
  ·exact .inr (.inr ⟨hs,σ1,hn,TV hk h⟩)
 ·exact .inr (.inr ⟨hL,hA,r,h1,h2,h3,hk _ h4⟩)
theorem GO {ops} {base cut} {K K'} (hk:∀σ,K σ→K' σ):∀ {l} {i} {σ},aops P ops base cut i l σ K→aops P ops base cut i l σ K'
 | [],i,σ,h=>by rw [aops] at h ⊢; grind
 | o::rest,i,σ,h=>by
  rw [aops] at h ⊢
  split at h
  ·exact RZ (fun σ h=>GO hk h) h
  ·obtain⟨s,h1,h⟩:=h
   refine⟨s,h1,?_⟩
   rcases h with ⟨b,h2,h3,h4⟩|⟨h2,h3⟩
   ·exact .inl ⟨b,h2,fun hb=>RZ (fun σ h=>GO hk h) (h3 hb),fun hb=>GO hk (h4 hb)⟩
   ·exact .inr ⟨h2,GO hk h3⟩
theorem Wo {p} {K K'} (hk:∀σ,K σ→K' σ) {σ} (h:seqW p K σ):seqW p K' σ:=by
 unfold seqW at h ⊢
 grind
theorem Mu {P} {ops} {base} {ts}:∀ (tr:Tr) {σ} {K K'},(∀σ,K σ→K' σ)→aTr P ops base ts tr σ K→aTr P ops base ts tr σ K'
 | .fin,σ,K,K',hk,h=>hk σ h
 | .stop,σ,K,K',hk,h=>trivial
 | .fz t,σ,K,K',hk,h=>by
  simp only [aTr] at h ⊢
  obtain⟨σ1,hn,h⟩:=h
  exact⟨σ1,hn,Mu t hk h⟩
 | .br i t more,σ,K,K',hk,h=>by
  simp only [aTr] at h ⊢
  refine⟨?_,Mu more hk h.2⟩
  have h1:=h.1
  split at h1
  ·exact GO (fun σ' h=>Mu t hk h) h1
  ·exact h1.elim
theorem Py {P} {ops} {base} {r} {i} {o} {acc} {σ} {K K'} (hk:∀acc σ,K acc σ→K' acc σ) (h:J5 P ops base r i o acc σ K):J5 P ops base r i o acc σ K':=by
 unfold J5 at h ⊢
 cases r with
 |no=>grind [GO]
 |al=>
  grind
 |st k=>
  grind
theorem JP {P} {ops} {base} {V}:∀ (l:List Oper) {E} {i} {ts} {acc} {σ} {K K'},(∀ts acc σ,K ts acc σ→K' ts acc σ)→Em P ops base V E i l ts acc σ K→Em P ops base V E i l ts acc σ K'
 | [],E,i,ts,acc,σ,K,K',hk,h=>by grind [Em]
 |o::l,[],i,ts,acc,σ,K,K',hk,h=>by simp only [Em] at h ⊢; exact Py (fun acc σ' h=>JP l hk h) h
 |o::l,true::E,i,ts,acc,σ,K,K',hk,h=>by simp only [Em] at h ⊢; exact JP l hk h
 |o::l,false::E,i,ts,acc,σ,K,K',hk,h=>by simp only [Em] at h ⊢; exact Py (fun acc σ' h=>JP l hk h) h
theorem Wp {P} {ops} {base} {draw} {σ} {K K'} (hk:∀σ,K σ→K' σ) (h:WF P ops base draw σ K):WF P ops base draw σ K':=by
 unfold WF at h ⊢
 cases draw with
 |false=>exact GO hk h
 |true=>
  rcases h with ⟨E,V,tr,hE,h⟩|⟨F,ds,h1,h2,h3,h4⟩
  ·exact .inl ⟨E,V,tr,hE,JP _ (fun ts acc σ h=>⟨h.1,Mu tr hk h.2⟩) h⟩
  ·exact .inr ⟨F,ds,h1,h2,h3,hk _ h4⟩
theorem Hl:∀ {c} {Q Q'} {σ},(∀q σ,Q q σ→Q' q σ)→awp P c Q σ→awp P c Q' σ
 | .skip,Q,Q',σ,hq,h=>by rw [awp] at h ⊢; grind
 | .region id ops draw,Q,Q',σ,hq,h=>by rw [awp] at h ⊢; grind [Wp]
 | .seq a b,Q,Q',σ,hq,h=>by
  rw [awp] at h ⊢
  refine Hl (fun q σ h=>?_) h
  cases q with
  |normal=>
   have h':seqW (Hc a) (awp P b Q) σ:=h
   exact Wo (K:=awp P b Q) (K':=awp P b Q') (fun σ h=>Hl hq h) h'
  |exit id=>exact hq _ _ h
  |ret=>exact hq _ _ h
 | .cond c a b,Q,Q',σ,hq,h=>by
  rw [awp] at h ⊢
  obtain⟨v,h1,h2,h3⟩:=h
  exact⟨v,h1,fun e=>Hl hq (h2 e),fun e=>Hl hq (h3 e)⟩
 | .block id b,Q,Q',σ,hq,h=>by
  rw [awp] at h ⊢
  refine Hl (fun q σ h=>?_) h
  cases q with
  |normal=>exact hq _ _ h
  |exit i=>
   grind [AE.inBlock]
  |ret=>exact hq _ _ h
 | .loop b,Q,Q',σ,hq,h=>by
  rw [awp] at h ⊢
  intro L hL
  refine h L fun σ hσ=>hL σ (Hl (fun q σ h=>?_) hσ)
  cases q with
  |normal=>exact h
  |exit id=>exact hq _ _ h
  |ret=>exact hq _ _ h
 | .exit id,Q,Q',σ,hq,h=>by rw [awp] at h ⊢; grind
 | .ret,Q,Q',σ,hq,h=>by rw [awp] at h ⊢; grind
 | .rangeFunc _ _ _ _,Q,Q',σ,hq,h=>by simp [awp] at h
 | .goto _,Q,Q',σ,hq,h=>by simp [awp] at h
 | .label _,Q,Q',σ,hq,h=>by simp [awp] at h
theorem TX {b} {Q} {σ} (h:awp P b (AE.then (fun σ'=>∃σ1,Wk σ' σ1∧awp P (.loop b) Q σ1) Q) σ):awp P (.loop b) Q σ:=by
 rw [awp]
 intro L hL
 refine⟨σ,.nil σ,hL σ (Hl (fun q σ h=>?_) h)⟩
 cases q with
 |normal=>
  obtain⟨σ1,h1,h2⟩:=h
  rw [awp] at h2
  obtain⟨σ0,h3,h4⟩:=h2 L hL
  exact⟨σ0,h1.trans h3,h4⟩
 |exit id=>exact h
 |ret=>exact h
end
def Ag {α:Type} (v:α) (K:α→Prop):Prop:=K v
def optX {α:Type} (o:Option α) (K:α→Prop):Prop:=∃x,o=some x∧K x
def AP (p q:Prop):Prop:=p∧q
def KO (b:Bool) (p q:Prop):Prop:=(b=true∧p)∨(b=false∧q)
def Pz (b:Bool) (p q:Prop):Prop:=(b=true→p)∧(b=false→q)
structure Wrap {α:Sort _} (a:α):Type where
def e9 {α:Type} (v:α) (K:α→Prop) (_:Wrap K):Prop:=K v
def Wq {α:Type} (o:Option α) (K:α→Prop) (_:Wrap K):Prop:=∃x,o=some x∧K x
def TY (p q:Prop) (_:Wrap q):Prop:=p∧q
def Ra (b:Bool) (p q:Prop) (_:Wrap p) (_:Wrap q):Prop:=(b=true→p)∧(b=false→q)
def X1 (b:Bool) (p q:Prop) (_:Wrap p) (_:Wrap q):Prop:=KO b p q
@[go_sem ↓] theorem hJ {α:Type} {v:α} {K:α→Prop}:Ag v K=e9 v K ⟨⟩:=rfl
@[go_sem ↓] theorem hO {α:Type} {o:Option α} {K:α→Prop}:optX o K=Wq o K ⟨⟩:=rfl
@[go_sem ↓] theorem hU {p q:Prop}:AP p q=TY p q ⟨⟩:=rfl
@[go_sem ↓] theorem fA {b} {p q:Prop}:Pz b p q=Ra b p q ⟨⟩ ⟨⟩:=rfl
@[go_sem ↓] theorem hY {b} {p q:Prop}:KO b p q=X1 b p q ⟨⟩ ⟨⟩:=rfl
@[go_sem] theorem iA {α:Type} {v:α} {K:α→Prop} {w:Wrap K}:e9 v K w=K v:=propext Iff.rfl
@[go_sem] theorem dY {α:Type} {x:α} {K:α→Prop} {w:Wrap K}:Wq (some x) K w=K x:=by simp [Wq]
@[go_sem] theorem dZ {α:Type} {K:α→Prop} {w:Wrap K}:Wq none K w=False:=by simp [Wq]
@[go_sem] theorem da {q:Prop} {w}:TY True q w=q:=by simp [TY]
@[go_sem] theorem cF {q:Prop} {w}:TY False q w=False:=by simp [TY]
@[go_sem] theorem jv {p:Prop} {w}:TY p True w=p:=by simp [TY]
@[go_sem] theorem cG {p q:Prop} {w} {w'}:Ra true p q w w'=p:=by simp [Ra]
@[go_sem] theorem bN {p q:Prop} {w} {w'}:Ra false p q w w'=q:=by simp [Ra]
@[go_sem] theorem db {p q:Prop} {w} {w'}:X1 true p q w w'=p:=by simp [KO,X1]
@[go_sem] theorem cH {p q:Prop} {w} {w'}:X1 false p q w w'=q:=by simp [KO,X1]
theorem GP {α:Type} {x:α} {K:α→Prop}:optX (some x) K=K x:=by simp [optX]
theorem Rb {α:Type} {K:α→Prop}:optX none K=False:=by simp [optX]
theorem Ad {p q:Prop} {w} (hp:p) (hq:q):TY p q w:=⟨hp,hq⟩
theorem AW {α:Type} {o:Option α} {x:α} {K:α→Prop} {w:Wrap K} (h:o=some x) (hk:K x):Wq o K w:=⟨x,h,hk⟩
@[go_sem] theorem dc:isMp [] =false:=rfl
@[go_sem] theorem dd {a}:isMp [a] =a.mp?:=rfl
@[go_sem] theorem de {a b} {l}:isMp (a::b::l)=false:=rfl
@[go_sem] theorem dg:NS [] =true:=rfl
@[go_sem] theorem cI {a} {l}:NS (a::l)=(!a.mp?&&NS l):=rfl
attribute [go_sem] AV.mp?
@[go_sem] theorem cJ {α:Type} {j:Nat} {x:α} {l:List (Nat × α)} {i:Nat}:look ((j,x)::l) i=if i=j then some x else look l i:=rfl
@[go_sem] theorem fB {α:Type} {i}:look ([] :List (Nat × α)) i=none:=rfl
@[go_sem] theorem St.T_mk {s t b} {i}:St.T ⟨s,t,b⟩ i=(look t i).join :=rfl
@[go_sem] theorem St.B_mk {s t b} {i}:St.B ⟨s,t,b⟩ i=(look b i).join :=rfl
@[go_sem] theorem St.g_mk {s t b} {i}:St.g ⟨s,t,b⟩ i=(look s i).getD .any :=rfl
@[go_sem] theorem St.t_mk {s t b}:St.t ⟨s,t,b⟩=t:=rfl
@[go_sem] theorem St.b_mk {s t b}:St.b ⟨s,t,b⟩=b:=rfl
@[go_sem] theorem St.s_mk {s t b}:St.s ⟨s,t,b⟩=s:=rfl
@[go_sem] theorem St.e_tmp {σ:St} {t:Tmp}:σ.e (.tmp t)=σ.g t:=rfl
@[go_sem] theorem St.e_func {σ:St} {f:FuncId}:σ.e (.func f)= .fn f [] :=rfl
@[go_sem] theorem St.e_const {σ:St} {v:Value}:σ.e (.const v)=A8 v:=rfl
@[go_sem] theorem iB {k} {n}:A8 (.int k n)= .int k n:=rfl
@[go_sem] theorem fC {b}:A8 (.bool b)= .bool b:=rfl
@[go_sem] theorem iC {s}:A8 (.string s)= .str s:=rfl
@[go_sem] theorem fD:A8 (.slice none 0 0)= .nils :=rfl
@[go_sem] theorem fE:A8 (.pointer none)= .nilp :=rfl
@[go_sem] theorem iD {cs}:A8 (.agg cs.toArray)= .agg (Gg cs):=by rfl
@[go_sem] theorem fF:Gg [] =[] :=rfl
@[go_sem] theorem dh {v} {vs}:Gg (v::vs)=A8 v::Gg vs:=rfl
@[go_sem] theorem fG {s t b} {d} {v}:St.put ⟨s,t,b⟩ (some d) v=⟨(d,v)::s,t,b⟩:=rfl
@[go_sem] theorem fH {σ} {v}:St.put σ none v=σ:=rfl
@[go_sem] theorem fI {s t b} {i}:St.killT ⟨s,t,b⟩ i=⟨s,(i,none)::t,b⟩:=rfl
@[go_sem] theorem iE {s t b} {i} {tk}:St.setT ⟨s,t,b⟩ i tk=⟨s,(i,some tk)::t,b⟩:=rfl
@[go_sem] theorem iF {s t b} {i} {vs}:St.setB ⟨s,t,b⟩ i vs=⟨s,t,(i,some vs)::b⟩:=rfl
attribute [go_sem] Option.join_some Option.join_none Option.getD_some Option.getD_none reduceIte eq_self and_self true_and and_true
attribute [go_sem] List.getElem?_cons_zero List.getElem?_cons_succ List.length_cons List.length_nil List.take_succ_cons List.take_zero List.take_nil List.drop_succ_cons List.drop_zero List.map_cons List.map_nil List.set_cons_zero List.set_cons_succ List.cons_append List.nil_append Option.some.injEq reduceCtorEq TI.isAgg TI.sc AV.one splice List.all_cons List.all_nil Bool.and_self Bool.true_and Bool.and_true
def IJ (P:Program) (ops:Array Oper) (base cut i:Nat) (l:List Oper) (σ:St) (K:St→Prop) (_:Wrap ops) (_:Wrap l) (_:Wrap K) (_:Wrap cut):Prop:=aops P ops base cut i l σ K
@[go_sem ↓] theorem iG {P} {ops} {base cut i} {l} {K} {σ}:aops P ops base cut i l σ K=IJ P ops base cut i l σ K ⟨⟩ ⟨⟩ ⟨⟩ ⟨⟩:=rfl
section
variable {P:Program} {σ:St} {K:St→Prop} {Q:AE→St→Prop}
@[go_sem ↓] theorem jw:awp P .skip Q σ=Q .normal σ:=by rw [awp]
@[go_sem ↓] theorem fJ {id} {l}:awp P (.region id l.toArray false) Q σ=aops P l.toArray (id*1000+1000) 0 0 l σ (Q .normal):=by rw [awp]; rfl
def bO (P:Program) (id:Nat) (l:List Oper) (Q:AE→St→Prop) (σ:St) (_:Wrap l) (_:Wrap Q) (_:Wrap σ):Prop:=WF P l.toArray (id*1000+1000) true σ (Q .normal)
@[go_sem ↓] theorem jx {id} {l}:awp P (.region id l.toArray true) Q σ=bO P id l Q σ ⟨⟩ ⟨⟩ ⟨⟩:=by rw [awp]; rfl
theorem Aa {id} {l} {w1} {w2} {w3} (E:List Bool) (tr:Tr) (h:Kr E [] tr l.toArray=true) (k:Em P l.toArray (id*1000+1000) [] E 0 l [] [] σ fun ts acc σ'=>WE acc σ' fun σ'=>aTr P l.toArray (id*1000+1000) ts tr σ' (Q .normal)):bO P id l Q σ w1 w2 w3:=.inl ⟨E,[],tr,h,k⟩
def ZY (s:List (Nat × AV)) (t:Nat) (v:AV):Prop:=v= .any ∨look s t=some v
@[go_sem] theorem iH {s}:leS s [] =True:=rfl
@[go_sem] theorem fK {s t v r}:leS s ((t,v)::r)=(ZY s t v∧leS s r):=rfl
@[go_sem] theorem iI {s:List (Nat × AV)} {t:Nat} {b:Bool} {v:AV}:ZY s t (if b=true then v else .any)=(b=true→ZY s t v):=propext (by cases b <;> simp [ZY])
def leO1 {α:Type} (s:List (Nat × Option α)) (t:Nat) (v:Option α):Prop:=v=none∨look s t=some v
@[go_sem] theorem iJ {α:Type} {s:List (Nat × Option α)}:leO s [] =True:=rfl
@[go_sem] theorem fL {α:Type} {s:List (Nat × Option α)} {t v r}:leO s ((t,v)::r)=(leO1 s t v∧leO s r):=rfl
@[go_sem] theorem cK {α:Type} {s:List (Nat × α)}:Gy s [] =True:=rfl
@[go_sem] theorem bP {α:Type} {s:List (Nat × α)} {t v r}:Gy s ((t,v)::r)=((look s t).isSome =true∧Gy s r):=rfl
@[go_sem] theorem St.Le_mk {s t b s' t' b'}:St.Le ⟨s,t,b⟩ ⟨s',t',b'⟩=(leS s s'∧(leO t t'∧Gy t' t)∧leO b b'∧Gy b' b):=rfl
@[go_sem] theorem fM {S}:XY S [] =True:=rfl
@[go_sem] theorem di {S j r}:XY S (j::r)=(S j=true∧XY S r):=rfl
def optK {α:Type} (b:Bool) (p:Nat × α) (r:List (Nat × α)):List (Nat × α):=if b=true then p::r else r
@[go_sem] theorem jy {α:Type} {p:Nat × α} {r}:optK true p r=p::r:=rfl
@[go_sem] theorem jz {α:Type} {p:Nat × α} {r}:optK false p r=r:=rfl
@[go_sem] theorem dj {α:Type} {b:Bool} {t:Nat} {v:α} {r} {x:Nat}:look (optK b (t,v) r) x=if x=t then (if b=true then some v else look r x) else look r x:=by
 grind [optK,AK]
@[go_sem] theorem fN {α:Type} {s:List (Nat × Option α)} {b:Bool} {t:Nat} {v:Option α} {r}:leO s (optK b (t,v) r)=((b=true→leO1 s t v)∧leO s r):=by
 cases b <;> simp [optK,leO,leO1]
@[go_sem] theorem bQ {α:Type} {s:List (Nat × α)} {b:Bool} {t:Nat} {v:α} {r}:Gy s (optK b (t,v) r)=((b=true→(look s t).isSome =true)∧Gy s r):=by
 cases b <;> simp [optK,Gy]
def cL (acc:List (Nat × List AV)) (σ:St) (K:St→Prop) (_:Wrap σ) (_:Wrap K):Prop:=WE acc σ K
@[go_sem ↓] theorem iK {acc} {σ} {K}:WE acc σ K=cL acc σ K ⟨⟩ ⟨⟩:=rfl
@[go_sem] theorem fO {σ} {K} {w1 w2}:cL [] σ K w1 w2=K σ:=by
 simp [cL,WE,D0,addB]
attribute [go_sem] addB
def Gz (P:Program) (ops:Array Oper) (base:Nat) (V:List (Nat × Nat)) (E:List Bool) (i:Nat) (l:List Oper) (ts:List (Nat × Oper)) (acc:List (Nat × List AV)) (σ:St) (K:List (Nat × Oper)→List (Nat × List AV)→St→Prop) (_:Wrap ops) (_:Wrap l) (_:Wrap ts) (_:Wrap K) (_:Wrap V) (_:Wrap acc):Prop:=Em P ops base V E i l ts acc σ K
def Uq (P:Program) (ops:Array Oper) (base:Nat) (r:VR) (i:Nat) (o:Oper) (acc:List (Nat × List AV)) (σ:St) (K:List (Nat × List AV)→St→Prop):Prop:=J5 P ops base r i o acc σ K
def R8 (P:Program) (ops:Array Oper) (base:Nat) (r:VR) (i:Nat) (o:Oper) (acc:List (Nat × List AV)) (σ:St) (K:List (Nat × List AV)→St→Prop) (_:Wrap ops) (_:Wrap o) (_:Wrap acc) (_:Wrap σ) (_:Wrap K):Prop:=J5 P ops base r i o acc σ K
section
variable {ops:Array Oper} {base i:Nat} {V:List (Nat × Nat)} {E:List Bool} {ts:List (Nat × Oper)} {acc:List (Nat × List AV)} {H:List (Nat × Oper)→List (Nat × List AV)→St→Prop} {o:Oper} {l:List Oper} {w1:Wrap ops} {w3:Wrap ts} {w4:Wrap H} {w5:Wrap V} {w6:Wrap acc}
@[go_sem ↓] theorem fP:Em P ops base V E i l ts acc σ H=Gz P ops base V E i l ts acc σ H ⟨⟩ ⟨⟩ ⟨⟩ ⟨⟩ ⟨⟩ ⟨⟩:=rfl
@[go_sem] theorem lN {w2}:Gz P ops base V E i [] ts acc σ H w1 w2 w3 w4 w5 w6=H ts acc σ:=by rfl
@[go_sem] theorem j0 {w2}:Gz P ops base V (true::E) i (o::l) ts acc σ H w1 w2 w3 w4 w5 w6=Em P ops base V E (i+1) l ((i,o)::ts) acc σ H:=rfl
@[go_sem] theorem iL {w2}:Gz P ops base V (false::E) i (o::l) ts acc σ H w1 w2 w3 w4 w5 w6=Uq P ops base (Bs V i) i o acc σ fun acc' σ'=>Em P ops base V E (i+1) l ts acc' σ' H:=rfl
@[go_sem] theorem lO {w2}:Gz P ops base V [] i (o::l) ts acc σ H w1 w2 w3 w4 w5 w6=Uq P ops base (Bs V i) i o acc σ fun acc' σ'=>Em P ops base V [] (i+1) l ts acc' σ' H:=rfl
@[go_sem] theorem cM {x} {xs b} {w2}:Gz P ops base V E i (List.append (x::xs) b) ts acc σ H w1 w2 w3 w4 w5 w6=Gz P ops base V E i (x::List.append xs b) ts acc σ H w1 ⟨⟩ w3 w4 w5 w6:=rfl
@[go_sem] theorem dk {b} {w2}:Gz P ops base V E i (List.append [] b) ts acc σ H w1 w2 w3 w4 w5 w6=Gz P ops base V E i b ts acc σ H w1 ⟨⟩ w3 w4 w5 w6:=rfl
@[go_sem] theorem dl {a b c} {w2}:Gz P ops base V E i (List.append (List.append a b) c) ts acc σ H w1 w2 w3 w4 w5 w6=Gz P ops base V E i (List.append a (List.append b c)) ts acc σ H w1 ⟨⟩ w3 w4 w5 w6:=by
 unfold Gz; rw [show List.append (List.append a b) c=List.append a (List.append b c) from List.append_assoc a b c]
@[go_sem ↓] theorem fQ {r} {K}:Uq P ops base r i o acc σ K=R8 P ops base r i o acc σ K ⟨⟩ ⟨⟩ ⟨⟩ ⟨⟩ ⟨⟩:=rfl
attribute [go_sem] Bs
@[go_sem] theorem fR {K} {w1 w2 w3 w4 w5}:R8 P ops base .no i o acc σ K w1 w2 w3 w4 w5=aops P ops base (i+1) i [o] σ (K acc):=rfl
@[go_sem] theorem fS {K} {dst} {t ty} {ps} {af} {w1 w2 w3 w4 w5}:R8 P ops base .al i ⟨dst,.alloc t,ty,ps,af,none⟩ acc σ K w1 w2 w3 w4 w5=AP (0<(tz P t).length ∧(tz P t).length =tsz P t∧isMp ((tz P t).map zAV)=false) (K acc (σ.put dst (.box (base+i) 0))):=rfl
def stV (P:Program) (base k:Nat) (t:TypeId) (x a:AV) (dst:Option Tmp) (acc:List (Nat × List AV)) (σ:St) (K:List (Nat × List AV)→St→Prop):Prop:=match cellsOf x with
 |some cs=>(cs.length=tsz P t∧0<tsz P t∧cs.all AV.one=true)∧a= .box (base+k) 0∧K ((base+k,cs)::acc) (σ.put dst .any)
 |none=>False
@[go_sem] theorem fT {K} {k} {dst} {t ty} {a x} {ps} {af} {w1 w2 w3 w4 w5}:R8 P ops base (.st k) i ⟨dst,.store t a x,ty,ps,af,none⟩ acc σ K w1 w2 w3 w4 w5=Ag (σ.e x) fun x=>Ag (σ.e a) fun a=>stV P base k t x a dst acc σ K:=rfl
def j5 (P:Program) (base k:Nat) (t:TypeId) (x a:AV) (dst:Option Tmp) (acc:List (Nat × List AV)) (σ:St) (K:List (Nat × List AV)→St→Prop) (_:Wrap x) (_:Wrap a) (_:Wrap acc) (_:Wrap σ) (_:Wrap K):Prop:=stV P base k t x a dst acc σ K
@[go_sem ↓] theorem j6 {k} {t} {x a} {dst} {K}:stV P base k t x a dst acc σ K=j5 P base k t x a dst acc σ K ⟨⟩ ⟨⟩ ⟨⟩ ⟨⟩ ⟨⟩:=rfl
def trX (o:Option Oper) (f:Oper→Prop):Prop:=match o with
 |some o=>f o
 |none=>False
def trY (o:Option Oper) (f:Oper→Prop) (_:Wrap f):Prop:=trX o f
@[go_sem ↓] theorem j7 {x} {f}:trX x f=trY x f ⟨⟩:=rfl
@[go_sem] theorem fU {f} {w}:trY (some o) f w=f o:=rfl
def cN (p q:Prop):Prop:=p∧q
def j8 (p q:Prop) (_:Wrap p) (_:Wrap q):Prop:=p∧q
@[go_sem ↓] theorem iM {p q:Prop}:cN p q=j8 p q ⟨⟩ ⟨⟩:=rfl
def QX (P:Program) (ops:Array Oper) (base:Nat) (ts:List (Nat × Oper)) (tr:Tr) (σ:St) (K:St→Prop) (_:Wrap ops) (_:Wrap ts) (_:Wrap K):Prop:=aTr P ops base ts tr σ K
@[go_sem ↓] theorem j9 {tr}:aTr P ops base ts tr σ K=QX P ops base ts tr σ K ⟨⟩ ⟨⟩ ⟨⟩:=rfl
@[go_sem] theorem kA {w3} {w4}:QX P ops base ts .fin σ K w1 w3 w4=K σ:=rfl
@[go_sem] theorem kC {t} {w3} {w4}:QX P ops base ts (.br i t .stop) σ K w1 w3 w4=trX (look ts i) fun o=>aops P ops base 0 i [o] σ fun σ'=>aTr P ops base ts t σ' K:=by
 grind [QX,trX,aTr]
@[go_sem] theorem kD {t u m} {j} {w3} {w4}:QX P ops base ts (.br i t (.br j u m)) σ K w1 w3 w4=cN (aTr P ops base ts (.br i t .stop) σ K) (aTr P ops base ts (.br j u m) σ K):=by
 grind [QX,cN,aTr]
@[go_sem] theorem kE {t} {w3} {w4}:QX P ops base ts (Tr.sq [] t) σ K w1 w3 w4=QX P ops base ts t σ K w1 w3 w4:=rfl
@[go_sem] theorem lP {t} {is} {w3} {w4}:QX P ops base ts (Tr.sq (i::is) t) σ K w1 w3 w4=QX P ops base ts (.br i (Tr.sq is t) .stop) σ K w1 w3 w4:=rfl
end
def ZZ (p:Bool) (K:St→Prop) (σ:St):Prop:=seqW p K σ
def TZ (p:Bool) (K:St→Prop) (σ:St) (_:Wrap K) (_:Wrap σ):Prop:=seqW p K σ
@[go_sem ↓] theorem iN {p}:ZZ p K σ=TZ p K σ ⟨⟩ ⟨⟩:=rfl
@[go_sem] theorem dp {w1} {w2}:TZ true K σ w1 w2=K σ:=rfl
theorem Cg {w1} {w2} (h:K σ):TZ false K σ w1 w2:=⟨σ,.nil σ,h⟩
theorem cO {w1} {w2} {σ1} (hn:Nils σ σ1) (h:K σ1):TZ false K σ w1 w2:=⟨σ1,.fz hn (.nil σ1),h⟩
theorem X2 {w1} {w2} {σ1} (h:K σ1) (hw:Wk σ σ1):TZ false K σ w1 w2:=⟨σ1,hw,h⟩
@[go_sem] theorem Za {id:Nat} {l:List Oper}:Hc (.region id l.toArray false)=l.all fun o=>o.guard.isNone&&bu o.op:=rfl
attribute [go_sem] bu Bool.and_true Bool.true_and Bool.and_false Bool.false_and
@[go_sem] theorem cP {id:Nat} {l:List Oper}:Hc (.region id l.toArray true)=false:=rfl
@[go_sem] theorem cQ:Hc .skip =false:=rfl
@[go_sem] theorem dq {a b}:Hc (.seq a b)=false:=rfl
@[go_sem] theorem cR {c} {a b}:Hc (.cond c a b)=false:=rfl
@[go_sem] theorem bR {id} {a}:Hc (.block id a)=false:=rfl
@[go_sem] theorem cS {a}:Hc (.loop a)=false:=rfl
@[go_sem] theorem cT {id}:Hc (.exit id)=false:=rfl
@[go_sem] theorem dr:Hc .ret =false:=rfl
attribute [go_sem] Option.isNone_none Option.isNone_some List.all_cons List.all_nil
@[go_sem ↓] theorem lQ {a b}:awp P (.seq a b) Q σ=awp P a (AE.then (ZZ (Hc a) (awp P b Q)) Q) σ:=by rw [awp]; rfl
@[go_sem ↓] theorem kF {c} {a b}:awp P (.cond c a b) Q σ=Ag (σ.e c) fun v=>VV v (awp P a Q σ) (awp P b Q σ):=by rw [awp]; rfl
@[go_sem ↓] theorem iO {id} {c}:awp P (.block id c) Q σ=awp P c (AE.inBlock id Q) σ:=by rw [awp]
@[go_sem ↓] theorem kG {id}:awp P (.exit id) Q σ=Q (.exit id) σ:=by rw [awp]
@[go_sem ↓] theorem lR:awp P .ret Q σ=Q .ret σ:=by rw [awp]
@[go_sem] theorem Ur {b} {p q:Prop}:VV (.bool b) p q=Pz b p q:=by simp [VV,Pz]
@[go_sem ↓] theorem bS {n}:AE.then n Q .normal σ=n σ:=rfl
@[go_sem ↓] theorem dt {n} {id}:AE.then n Q (.exit id) σ=Q (.exit id) σ:=rfl
@[go_sem ↓] theorem fV {n}:AE.then n Q .ret σ=Q .ret σ:=rfl
@[go_sem ↓] theorem Zb {id}:AE.inBlock id Q .normal σ=Q .normal σ:=rfl
@[go_sem ↓] theorem du {id}:AE.inBlock id Q .ret σ=Q .ret σ:=rfl
def Ta (P:Program) (b:Code) (Q:AE→St→Prop) (σ:St) (_:Wrap b) (_:Wrap Q):Prop:=awp P (.loop b) Q σ
def lpX (P:Program) (b:Code) (Q:AE→St→Prop) (σ:St):Prop:=∃σ1,Wk σ σ1∧awp P (.loop b) Q σ1
def lpY (P:Program) (b:Code) (Q:AE→St→Prop) (σ:St) (_:Wrap b) (_:Wrap Q) (_:Wrap σ):Prop:=∃σ1,Wk σ σ1∧awp P (.loop b) Q σ1
@[go_sem ↓] theorem kH {b}:lpX P b Q σ=lpY P b Q σ ⟨⟩ ⟨⟩ ⟨⟩:=rfl
theorem P0 {b} {w1} {w2} {w3} {σ1} (h:awp P (.loop b) Q σ1) (hw:Wk σ σ1):lpY P b Q σ w1 w2 w3:=⟨σ1,hw,h⟩
theorem AY {b} {w1} {w2} (h:awp P b (AE.then (lpX P b Q) Q) σ):Ta P b Q σ w1 w2:=TX h
@[go_sem ↓] theorem dv {b}:awp P (.loop b) Q σ=Ta P b Q σ ⟨⟩ ⟨⟩:=rfl
@[go_sem ↓] theorem cU {id i}:AE.inBlock id Q (.exit i) σ=KO (decide (i=id)) (Q .normal σ) (Q (.exit i) σ):=by
 simp only [AE.inBlock,KO]
 by_cases h:i=id <;> simp [h]
attribute [go_sem] decide_true decide_false
def opX (P:Program) (pos:Nat) (dst:Option Tmp) (op:Op) (σ:St) (K:St→Prop):Prop:=aop P pos ⟨dst,op,0, "",#[],none⟩ σ K
def opL (P:Program) (L:Bool) (pos:Nat) (dst:Option Tmp) (op:Op) (σ:St) (K:St→Prop) (_:Wrap L):Prop:=PJ P L pos ⟨dst,op,0, "",#[],none⟩ σ K
@[go_sem] theorem lS {ops} {base cut i} {w1} {w2} {w3} {w4}:IJ P ops base cut i [] σ K w1 w2 w3 w4=K σ:=by rw [IJ,aops]
@[go_sem] theorem kI {ops} {base cut i} {dst} {op} {type} {ps} {after} {rest} {w1} {w2} {w3} {w4}:
  IJ P ops base cut i (⟨dst,op,type,ps,after,none⟩::rest) σ K w1 w2 w3 w4=opL P (decide (cut≤i)) (base+i) dst op σ (fun σ'=>aops P ops base cut (i+1) rest σ' K) ⟨⟩:=by
 rw [IJ,aops]; rfl
def Io (ops:Array Oper) (j:Nat) (K:Tmp→Prop):Prop:=optX (HA ops j) K
@[go_sem ↓] theorem Us {dst} {op} {type} {ps} {after} {g} {rest} {K}:Io (List.toArray (⟨some dst,op,type,ps,after,g⟩::rest)) 0 K=K dst:=by
 simp [Io,HA,optX]
@[go_sem ↓] theorem Ut {o} {rest} {j} {K}:Io (List.toArray (o::rest)) (j+1) K=Io rest.toArray j K:=by
 simp [Io,HA]
def Lz (v:AV) (want:Bool) (p q q':Prop):Prop:=(∃b,v= .bool b∧(b=want→p)∧(b= !want→q))∨(v= .tup [] ∧q')
@[go_sem ↓] theorem Tb {b} {p q q':Prop}:Lz (.bool b) true p q q'=Pz b p q:=by simp [Lz,Pz]
@[go_sem ↓] theorem R9 {b} {p q q':Prop}:Lz (.bool b) false p q q'=Pz b q p:=by
 grind [Lz,Pz]
@[go_sem ↓] theorem Wr {want} {p q q':Prop}:Lz (.tup []) want p q q'=q':=by simp [Lz]
@[go_sem] theorem iP {ops} {base cut i} {dst} {op} {type} {ps} {after} {j} {want} {rest} {w1} {w2} {w3} {w4}:
  IJ P ops base cut i (⟨dst,op,type,ps,after,some (j,want)⟩::rest) σ K w1 w2 w3 w4=Io ops j fun s=>Ag (σ.g s) fun v=>Lz v want
   (opL P (decide (cut≤i)) (base+i) dst op (σ.put (some s) (.bool want)) (fun σ'=>aops P ops base cut (i+1) rest σ' K) ⟨⟩)
   (aops P ops base cut (i+1) rest ((σ.put (some s) (.bool (!want))).put dst (.tup [])) K)
   (aops P ops base cut (i+1) rest (σ.put dst (.tup [])) K):=by
 rw [IJ,aops]
 rfl
section
variable {L:Bool} {pos:Nat} {dst:Option Tmp} {wL:Wrap L}
theorem Rc {σ:St} {o:Oper} (h:Ma o=false):PI σ o=false:=by
 unfold PI
 split
 ·rename_i h1; simp [Ma,h1] at h
 ·rfl
theorem CT {op} (h:∀ (σ:St) (K:St→Prop),J4 P ⟨dst,op,0, "",#[],none⟩ σ K=False) (hA:Ma ⟨dst,op,0, "",#[],none⟩=false:=by rfl) (hS:SliK P pos ⟨dst,op,0, "",#[],none⟩ σ K=False:=by rfl):opL P L pos dst op σ K wL=opX P pos dst op σ K:=by
 have:=Rc (σ:=σ) hA
 grind [opL,PJ,opX]
@[go_sem ↓] theorem fW {x}:opL P L pos dst (.move x) σ K wL=opX P pos dst (.move x) σ K:=CT fun _ _=>rfl
@[go_sem ↓] theorem cV {x}:opL P L pos dst (.assign x) σ K wL=opX P pos dst (.assign x) σ K:=CT fun _ _=>rfl
@[go_sem ↓] theorem fX {a b c}:opL P L pos dst (.pick c a b) σ K wL=opX P pos dst (.pick c a b) σ K:=CT fun _ _=>rfl
@[go_sem ↓] theorem fY {t} {a}:opL P L pos dst (.load t a) σ K wL=opX P pos dst (.load t a) σ K:=CT fun _ _=>rfl
@[go_sem ↓] theorem Zc {x}:opL P L pos dst (.nilCheck x) σ K wL=opX P pos dst (.nilCheck x) σ K:=CT fun _ _=>rfl
@[go_sem ↓] theorem iQ {op} {t t'} {x y}:opL P L pos dst (.binOp op t x y t') σ K wL=opX P pos dst (.binOp op t x y t') σ K:=CT fun _ _=>rfl
@[go_sem ↓] theorem kJ {op} {t} {x}:opL P L pos dst (.unOp op t x) σ K wL=opX P pos dst (.unOp op t x) σ K:=CT fun _ _=>rfl
@[go_sem ↓] theorem bT {s d} {x}:opL P L pos dst (.convert s d x) σ K wL=opX P pos dst (.convert s d x) σ K:=CT fun _ _=>rfl
@[go_sem ↓] theorem ZE {s} {x} {f}:opL P L pos dst (.fieldAddr s x f) σ K wL=opX P pos dst (.fieldAddr s x f) σ K:=CT fun _ _=>rfl
@[go_sem ↓] theorem dw {s} {x} {f}:opL P L pos dst (.field s x f) σ K wL=opX P pos dst (.field s x f) σ K:=CT fun _ _=>rfl
@[go_sem ↓] theorem ZF {t} {x i}:opL P L pos dst (.indexAddr t x i) σ K wL=opX P pos dst (.indexAddr t x i) σ K:=CT fun _ _=>rfl
@[go_sem ↓] theorem dx {t} {x i}:opL P L pos dst (.index t x i) σ K wL=opX P pos dst (.index t x i) σ K:=CT fun _ _=>rfl
def Uu (P:Program) (L:Bool) (pos:Nat) (dst:Option Tmp) (op:Op) (v:AV) (σ:St) (K:St→Prop):Prop:=opX P pos dst op σ K∨(L=true∧(match v with| .own _=>True|_=>False)∧SliK P pos ⟨dst,op,0, "",#[],none⟩ σ K)
def X3 (P:Program) (L:Bool) (pos:Nat) (dst:Option Tmp) (op:Op) (v:AV) (σ:St) (K:St→Prop) (_:Wrap σ) (_:Wrap K) (_:Wrap op):Prop:=Uu P L pos dst op v σ K
@[go_sem ↓] theorem iR {op} {v}:Uu P L pos dst op v σ K=X3 P L pos dst op v σ K ⟨⟩ ⟨⟩ ⟨⟩:=rfl
@[go_sem] theorem iS {op} {rows} {w1 w2 w3}:X3 P L pos dst op (.ro rows) σ K w1 w2 w3=opX P pos dst op σ K:=by simp [X3,Uu]
@[go_sem] theorem fZ {op} {s} {w1 w2 w3}:X3 P L pos dst op (.str s) σ K w1 w2 w3=opX P pos dst op σ K:=by simp [X3,Uu]
theorem Ws {t} {x} {l h m}:opL P L pos dst (.slice t x l h m) σ K wL=Uu P L pos dst (.slice t x l h m) (σ.e x) σ K:=by
 have h1:J4 P ⟨dst,.slice t x l h m,0, "",#[],none⟩ σ K=False:=rfl
 have h2:Ma ⟨dst,.slice t x l h m,0, "",#[],none⟩=false:=rfl
 have h3:SliK P pos ⟨dst,.slice t x l h m,0, "",#[],none⟩ σ K=((match σ.e x with| .own _=>True|_=>False)∧SliK P pos ⟨dst,.slice t x l h m,0, "",#[],none⟩ σ K):=by
  grind [SliK]
 have h4:=Rc (σ:=σ) h2
 grind [opL,PJ,Uu,opX]
@[go_sem ↓] theorem cW {t} {x} {l h m}:opL P L pos dst (.slice t x l h m) σ K wL=Ag (σ.e x) fun v=>Uu P L pos dst (.slice t x l h m) v σ K:=Ws
@[go_sem ↓] theorem bU {x} {i}:opL P L pos dst (.extract x i) σ K wL=opX P pos dst (.extract x i) σ K:=CT fun _ _=>rfl
@[go_sem ↓] theorem Zd {c} {a b}:opL P L pos dst (.makeFunc c a b) σ K wL=opX P pos dst (.makeFunc c a b) σ K:=CT fun _ _=>rfl
@[go_sem ↓] theorem iT {t} {x}:opL P L pos dst (.box t x) σ K wL=opX P pos dst (.box t x) σ K:=CT fun _ _=>rfl
@[go_sem ↓] theorem dy {t}:opL P L pos dst (.alloc t) σ K wL=opX P pos dst (.alloc t) σ K:=CT fun _ _=>rfl
@[go_sem ↓] theorem d6 {t} {ps}:opL P L pos dst (.build t ps) σ K wL=opX P pos dst (.build t ps) σ K:=CT fun _ _=>rfl
@[go_sem ↓] theorem X4 {t} {n} {ps}:opL P L pos dst (.buildSlice t n ps) σ K wL=opX P pos dst (.buildSlice t n ps) σ K:=CT fun _ _=>rfl
@[go_sem ↓] theorem ZG {t} {l c}:opL P L pos dst (.makeSlice t l c) σ K wL=opX P pos dst (.makeSlice t l c) σ K:=CT fun _ _=>rfl
@[go_sem ↓] theorem bV {t} {r}:opL P L pos dst (.makeMap t r) σ K wL=opX P pos dst (.makeMap t r) σ K:=CT fun _ _=>rfl
@[go_sem ↓] theorem cX {t} {x i} {ok}:opL P L pos dst (.lookup t x i ok) σ K wL=opX P pos dst (.lookup t x i ok) σ K:=CT fun _ _=>rfl
@[go_sem ↓] theorem ZH {t} {m i x}:opL P L pos dst (.mapUpdate t m i x) σ K wL=opX P pos dst (.mapUpdate t m i x) σ K:=CT fun _ _=>rfl
@[go_sem ↓] theorem cY {t} {m i x}:opL P L pos dst (.insert t m i x) σ K wL=opX P pos dst (.insert t m i x) σ K:=CT fun _ _=>rfl
@[go_sem ↓] theorem d7 {t} {a x}:opL P L pos dst (.store t a x) σ K wL=opX P pos dst (.store t a x) σ K:=CT fun _ _=>rfl
@[go_sem ↓] theorem iU {as} {ts}:opL P L pos dst (.call ⟨.builtin .len,as,ts⟩) σ K wL=opX P pos dst (.call ⟨.builtin .len,as,ts⟩) σ K:=CT fun _ _=>rfl
@[go_sem ↓] theorem iV {as} {ts}:opL P L pos dst (.call ⟨.builtin .max,as,ts⟩) σ K wL=opX P pos dst (.call ⟨.builtin .max,as,ts⟩) σ K:=CT fun _ _=>rfl
@[go_sem ↓] theorem iW {as} {ts}:opL P L pos dst (.call ⟨.builtin .min,as,ts⟩) σ K wL=opX P pos dst (.call ⟨.builtin .min,as,ts⟩) σ K:=CT fun _ _=>rfl
def opE (P:Program) (pos:Nat) (dst:Option Tmp) (op:Op) (σ:St) (K:St→Prop):Prop:=∃r,Ev P pos ⟨dst,op,0, "",#[],none⟩ σ.e σ.T σ.B r∧Cq σ r.t∧D0 σ r.b∧K (σ.add dst r)
def Wt (L:Bool) (p q:Prop) (_:Wrap p) (_:Wrap q):Prop:=(L=true∧p)∨(L=false∧q)
@[go_sem] theorem d8 {p q:Prop} {w1} {w2}:Wt true p q w1 w2=p:=by simp [Wt]
@[go_sem] theorem cZ {p q:Prop} {w1} {w2}:Wt false p q w1 w2=q:=by simp [Wt]
def SA (P:Program) (pos:Nat) (dst:Option Tmp) (op:Op) (u:AV) (σ:St) (K:St→Prop):Prop:=opX P pos dst op σ K∨(VU u=true∧∃σ1,Nils σ σ1∧opX P pos dst op σ1 K)
def naY (P:Program) (pos:Nat) (dst:Option Tmp) (op:Op) (u:AV) (σ:St) (K:St→Prop) (_:Wrap σ) (_:Wrap K) (_:Wrap op):Prop:=SA P pos dst op u σ K
@[go_sem ↓] theorem iX {op} {t g p}:SA P pos dst op (.sub t g p) σ K=naY P pos dst op (.sub t g p) σ K ⟨⟩ ⟨⟩ ⟨⟩:=rfl
theorem Uv {op} {u} (h:VU u=false):SA P pos dst op u σ K=opX P pos dst op σ K:=by simp [SA,h]
@[go_sem ↓] theorem iY {op} {t}:SA P pos dst op (.own t) σ K=opX P pos dst op σ K:=Uv rfl
@[go_sem ↓] theorem fc {op}:SA P pos dst op .nils σ K=opX P pos dst op σ K:=Uv rfl
@[go_sem ↓] theorem iZ {op} {b n sz}:SA P pos dst op (.bsl b n sz) σ K=opX P pos dst op σ K:=Uv rfl
theorem Rd {op} {t g p} {σ1:St} {w1 w2 w3} (h:Nils σ σ1) (k:opX P pos dst op σ1 K):naY P pos dst op (.sub t g p) σ K w1 w2 w3:=.inr ⟨rfl,σ1,h,k⟩
@[go_sem ↓] theorem ca {x y} {ts}:opL P L pos dst (.call ⟨.builtin .append,List.toArray [x,y],ts⟩) σ K wL=Wt L (Ag (σ.e x) fun u=>SA P pos dst (.call ⟨.builtin .append,List.toArray [x,y],ts⟩) u σ K) (opE P pos dst (.call ⟨.builtin .append,List.toArray [x,y],ts⟩) σ K) ⟨⟩ ⟨⟩:=by
 have h1:PI σ ⟨dst,.call ⟨.builtin .append,List.toArray [x,y],ts⟩,0, "",#[],none⟩=VU (σ.e x):=rfl
 simp only [Ag]
 grind [J4,Ma,SliK,opL,PJ,opX,Wt,opE,SA]
end
attribute [go_sem] Bool.not_true Bool.not_false Nat.zero_le
theorem Fo {pos:Nat} {dst:Option Tmp} {op:Op} (h:∀K',aop P pos ⟨dst,op,0, "",#[],none⟩ σ K'=∃r,Ev P pos ⟨dst,op,0, "",#[],none⟩ σ.e σ.T σ.B r∧Cq σ r.t∧D0 σ r.b∧K' (σ.add dst r)) {p:AV→Prop} (hp:∀r,Ev P pos ⟨dst,op,0, "",#[],none⟩ σ.e σ.T σ.B r=∃v,p v∧r=⟨v,[],[]⟩):
  opX P pos dst op σ K=∃v,p v∧K (σ.put dst v):=by
 unfold opX
 rw [h]
 refine propext ⟨?_,?_⟩
 ·rintro ⟨r,h1,h2,h3,h4⟩
  rw [hp] at h1
  obtain⟨v,h5,rfl⟩:=h1
  exact⟨v,h5,by cases dst <;> exact h4⟩
 ·rintro ⟨v,h5,h4⟩
  exact⟨⟨v,[],[]⟩,by rw [hp]; grind,trivial,trivial,by cases dst <;> exact h4⟩
@[go_sem ↓] theorem kK {pos:Nat} {dst:Option Tmp} {x:Operand}:opX P pos dst (.move x) σ K=Ag (σ.e x) fun v=>K (σ.put dst v):=by
 rw [Fo (p:=fun v=>v=σ.e x) (fun _=>by rfl) (fun r=>by simp [Ev])]
 simp [Ag]
@[go_sem ↓] theorem fe {pos:Nat} {dst:Option Tmp} {x:Operand}:opX P pos dst (.assign x) σ K=Ag (σ.e x) fun v=>K (σ.put dst v):=by
 rw [Fo (p:=fun v=>v=σ.e x) (fun _=>by rfl) (fun r=>by simp [Ev])]
 simp [Ag]
def P1 (c a b:AV) (K:AV→Prop):Prop:=∃t,c= .bool t∧K (if t=true then a else b)
@[go_sem] theorem Uw {a b} {K}:P1 (.bool true) a b K=K a:=by simp [P1]
@[go_sem] theorem Tc {a b} {K}:P1 (.bool false) a b K=K b:=by simp [P1]
theorem cc {pos:Nat} {dst:Option Tmp} {c a b:Operand}:opX P pos dst (.pick c a b) σ K=P1 (σ.e c) (σ.e a) (σ.e b) fun v=>K (σ.put dst v):=by
 rw [Fo (p:=fun v=>∃t,σ.e c= .bool t∧v=if t=true then σ.e a else σ.e b) (fun _=>by rfl) (fun r=>by
  grind [Ev])]
 grind [P1]
def KP (P:Program) (t:TypeId) (a:AV) (σ:St) (K:AV→Prop):Prop:=∃v,Hb P σ.T σ.B t a v∧K v
def ldX (P:Program) (t:TypeId) (off:Nat) (vs:List AV) (K:AV→Prop):Prop:=
 KO (ti P t).isAgg (AP (off+tsz P t≤vs.length) (Ag (.agg (Ek vs off (tsz P t))) K)) (AP ((ti P t).sc =true) (optX vs[off]? K))
theorem cd {pos:Nat} {dst:Option Tmp} {t:TypeId} {a:Operand}:opX P pos dst (.load t a) σ K=KP P t (σ.e a) σ fun v=>K (σ.put dst v):=
 Fo (p:=fun v=>Hb P σ.T σ.B t (σ.e a) v) (fun _=>by rfl) (fun r=>by rfl)
@[go_sem] theorem Wu {t} {b off} {K}:KP P t (.box b off) σ K=optX (σ.B b) fun vs=>AP (isMp vs=false) (ldX P t off vs K):=by
 grind [KP,Hb,optX,ldX,KO,AP,Ag]
@[go_sem] theorem Wv {t} {vs} {off} {K}:KP P t (.rop vs off) σ K=ldX P t off vs K:=by
 grind [KP,Hb,optX,ldX,KO,AP,Ag]
@[go_sem] theorem Ww {t} {t' sz i off} {K}:KP P t (.elt t' sz i off) σ K=
  optX (σ.T t') fun tk=>optX tk.rows[i]? fun row=>AP (row.length=sz) (KO (ti P t).isAgg (AP (off+tsz P t≤sz) (Ag (.agg (Lc t' tk.gen [] sz i row off (tsz P t))) K)) (AP ((ti P t).sc =true) (optX row[off]? fun d=>K (ofT t' tk.gen [] sz i off d)))):=by
 grind [KP,Hb,optX,KO,AP,Ag]
@[go_sem] theorem Wx {t} {t' g} {p} {sz i off} {K}:KP P t (.els t' g p sz i off) σ K=
  optX (subR σ.T t' g p) fun rows=>optX rows[i]? fun row=>AP (row.length=sz) (KO (ti P t).isAgg (AP (off+tsz P t≤sz) (Ag (.agg (Lc t' g p sz i row off (tsz P t))) K)) (AP ((ti P t).sc =true) (optX row[off]? fun d=>K (ofT t' g p sz i off d)))):=by
 grind [KP,Hb,optX,KO,AP,Ag]
def ce (o:Option Tok) (g:Nat) (p:Pth):Option (List (List D)):=match o with
 |some tk=>if tk.gen=g then getP p tk.rows else none
 |none=>none
@[go_sem ↓] theorem ia {T} {t g} {p}:subR T t g p=ce (T t) g p:=rfl
@[go_sem] theorem d9 {rows} {ap} {g} {q} {p}:ce (some ⟨rows,ap,g,q⟩) g p=getP p rows:=by simp [ce]
def X5 (o:Option Tok) (g:Nat) (p:Pth):Option (List (List D)):=match o with
 |some tk=>if tk.gen=g then (getP p tk.rows).map tk.er else none
 |none=>none
@[go_sem ↓] theorem ib {T} {t g} {p}:subE T t g p=X5 (T t) g p:=rfl
@[go_sem] theorem cf {rows} {ap} {g} {q} {p}:X5 (some ⟨rows,ap,g,q⟩) g p=(getP p rows).map (zer q):=by
 simp only [X5,if_true]; rfl
@[go_sem] theorem eA {r}:zer .no r=r:=rfl
@[go_sem] theorem ff {r}:zer .yes r=erR r:=rfl
@[go_sem] theorem kL {r}:zer .nl r=erR r:=rfl
@[go_sem] theorem lT {rows} {ap} {g} {q}:Tok.rd ⟨rows,ap,g,q⟩=zer q rows:=rfl
@[go_sem] theorem lU {rows r} {ap} {g} {q}:Tok.er ⟨rows,ap,g,q⟩ r=zer q r:=rfl
@[go_sem] theorem eC {z} {rows} {ap} {g}:okZ z ⟨rows,ap,g,.no⟩=true:=rfl
@[go_sem] theorem kM {z} {rows} {ap} {g}:okZ z ⟨rows,ap,g,.nl⟩=true:=rfl
@[go_sem] theorem fg {q} {rows} {ap} {g}:okZ .yes ⟨rows,ap,g,q⟩=true:=by cases q <;> rfl
@[go_sem] theorem fh {q} {rows} {ap} {g}:okZ q ⟨rows,ap,g,q⟩=true:=by cases q <;> rfl
@[go_sem] theorem fi {rows}:getP [] rows=some rows:=rfl
def X6 (d:D) (K:List (List D)→Prop):Prop:=match FK d with|some r=>K r|none=>False
@[go_sem] theorem ic {r} {K}:X6 (.sl r) K=K r:=rfl
@[go_sem] theorem ie {K}:X6 .nl K=K [] :=rfl
@[go_sem ↓] theorem eD {sz i j} {p} {rows} {K}:optX (getP ((sz,i,j)::p) rows) K=optX rows[i]? fun row=>AP (row.length=sz) (optX row[j]? fun d=>X6 d fun r=>optX (getP p r) K):=by
 simp only [getP,optX,AP]
 cases rows[i]? with
 |none=>simp
 | some row=>
  by_cases h:row.length=sz
  ·simp only [h,if_true,true_and,Option.some.injEq,exists_eq_left']
   cases row[j]? with
   |none=>simp
   |some d=>cases d <;> simp [X6,FK]
  grind
@[go_sem] theorem cg {t g} {p} {sz i} {d} {ds} {off n}:Lc t g p sz i (d::ds) off n=Sn t g p sz i off (((d::ds).drop off).take n):=rfl
attribute [go_sem ↓] ldX
attribute [go_sem] Ek ofD PA ofS Sn
@[go_sem] theorem ig {t g} {p} {sz i j} {k} {n}:ofT t g p sz i j (.int k n)= .int k n:=rfl
@[go_sem] theorem fj {t g} {p} {sz i j} {b}:ofT t g p sz i j (.bool b)= .bool b:=rfl
@[go_sem] theorem ii {t g} {p} {sz i j} {s}:ofT t g p sz i j (.str s)= .str s:=rfl
@[go_sem] theorem kN {t g} {p} {sz i j} {r}:ofT t g p sz i j (.sl r)= .sub t g (p++[(sz,i,j)]):=rfl
@[go_sem] theorem fk {t g} {p} {sz i j}:ofT t g p sz i j .gone = .any :=rfl
@[go_sem] theorem kO {t g} {p} {sz i j} {r}:ofT t g p sz i j (.fz r)= .ro r:=rfl
@[go_sem] theorem ij {t g} {p} {sz i j} {ds}:ofT t g p sz i j (.ptr ds)= .rop (PA ds) 0:=rfl
@[go_sem] theorem fl {t g} {p} {sz i j}:ofT t g p sz i j .nilp = .nilp :=rfl
@[go_sem] theorem kP {t g} {p} {sz i j}:ofT t g p sz i j .nl = .sub t g (p++[(sz,i,j)]):=rfl
end
attribute [go_sem ↓] Ur Tb R9 Wr Uw Tc Wu Wv Ww Wx
end Go.Proofs.YtclmbjbbojdojaaGreat.Ab
