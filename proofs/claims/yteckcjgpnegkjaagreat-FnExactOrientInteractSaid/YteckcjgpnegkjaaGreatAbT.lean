/-
  The abstract walk as a set of rules for 'simp only [go_sem]': heads that wait, their congruences, one rule an operation.
-/
import Derived.Test.YteckcjgpnegkjaaGreatAbS
namespace Go.Proofs.YteckcjgpnegkjaaGreat.Ab
set_option linter.unusedVariables false
set_option maxHeartbeats 1000000
open Go.RowKit
section
variable {P:Program}
theorem Eb {z}:∀ {vs} {σ} {K K'},(∀ds σ,K ds σ→K' ds σ)→BQ z vs σ K→BQ z vs σ K'
 | [],σ,K,K',hk,h=>by rw [BQ] at h ⊢; grind
 | .int k n::vs,σ,K,K',hk,h=>by rw [BQ] at h ⊢; exact Eb (fun ds σ=>hk _ σ) h
 | .bool b::vs,σ,K,K',hk,h=>by rw [BQ] at h ⊢; exact Eb (fun ds σ=>hk _ σ) h
 | .str b::vs,σ,K,K',hk,h=>by rw [BQ] at h ⊢; exact Eb (fun ds σ=>hk _ σ) h
 | .nils ::vs,σ,K,K',hk,h=>by rw [BQ] at h ⊢; exact Eb (fun ds σ=>hk _ σ) h
 | .nilp ::vs,σ,K,K',hk,h=>by rw [BQ] at h ⊢; exact Eb (fun ds σ=>hk _ σ) h
 | .ro _::vs,σ,K,K',hk,h=>by rw [BQ] at h ⊢; exact⟨h.1,Eb (fun ds σ=>hk _ σ) h.2⟩
 | .rop _ _::vs,σ,K,K',hk,h=>by rw [BQ] at h ⊢; obtain⟨h1,d,h2,h3⟩:=h; exact⟨h1,d,h2,Eb (fun ds σ=>hk _ σ) h3⟩
 | .bsl _ _ _::vs,σ,K,K',hk,h=>by
  rw [BQ] at h ⊢
  split at h
  ·rename_i h0
   rw [if_pos h0]
   exact Eb (fun ds σ=>hk _ σ) h
  ·rename_i h0
   rw [if_neg h0]
   obtain⟨h1,h2,vs',h3,ds,h4,h5,h6⟩:=h
   exact⟨h1,h2,vs',h3,ds,h4,h5,Eb (fun ds σ=>hk _ σ) h6⟩
 | .own t::vs,σ,K,K',hk,h=>by rw [BQ] at h ⊢; obtain⟨tk,h1,h2,h3⟩:=h; exact⟨tk,h1,h2,Eb (fun ds σ=>hk _ σ) h3⟩
 | .sub _ _ _::vs,σ,K,K',hk,h=>by grind [BQ]
 | .els _ _ _ _ _ _::vs,σ,K,K',hk,h=>by grind [BQ]
 | .any ::vs,σ,K,K',hk,h=>by grind [BQ]
 | .box _ _::vs,σ,K,K',hk,h=>by grind [BQ]
 | .elt _ _ _ _::vs,σ,K,K',hk,h=>by grind [BQ]
 | .par _ _ _ _::vs,σ,K,K',hk,h=>by grind [BQ]
 | .agg _::vs,σ,K,K',hk,h=>by grind [BQ]
 | .tup _::vs,σ,K,K',hk,h=>by grind [BQ]
 | .fn _ _::vs,σ,K,K',hk,h=>by grind [BQ]
 | .mpr _::vs,σ,K,K',hk,h=>by grind [BQ]
 | .mpc _ _::vs,σ,K,K',hk,h=>by grind [BQ]
theorem X8 {t} {a x} {σ} {K K'} (hk:∀σ,K σ→K' σ) (h:N2 P t a x σ K):N2 P t a x σ K':=by
 unfold N2 at h ⊢
 split at h
 ·obtain⟨h1,h2,h3,h4⟩:=h
  refine⟨h1,h2,h3,?_⟩
  split at h4
  ·grind
  ·grind [Eb]
  ·grind [Eb]
  omega
 omega
theorem aI {z} {e} {sz} {x} {σ} {K K'} (hk:∀r σ,K r σ→K' r σ) (h:RS z e sz x σ K):RS z e sz x σ K':=by
 unfold RS at h ⊢
 split at h
 ·grind
 ·split at h
  ·grind
  ·rename_i h0
   rw [if_neg h0]
   obtain⟨h0,h1,h2,vs',h3,ds,h4,h5,h6⟩:=h
   exact⟨h0,h1,h2,vs',h3,ds,h4,h5,hk _ _ h6⟩
 ·grind
 omega
theorem aJ {z} {sz} {x} {σ} {K K'} (hk:∀r σ,K r σ→K' r σ) (h:NV z sz x σ K):NV z sz x σ K':=by
 unfold NV at h ⊢
 split at h
 ·grind
 ·grind [Eb]
 ·grind
 ·grind
 omega
theorem aK {pos} {t} {x y} {σ} {K K'} (hk:∀v σ,K v σ→K' v σ) (h:Xi P pos t x y σ K):Xi P pos t x y σ K':=by
 unfold Xi at h ⊢
 split at h
 ·grind [aI,aJ]
 omega
theorem UB {t} {m i x} {σ} {K K'} (hk:∀σ,K σ→K' σ) (h:Uc P t m i x σ K):Uc P t m i x σ K':=by
 unfold Uc at h ⊢
 grind
theorem cg {pos} {o} {σ} {K K'} (hk:∀σ,K σ→K' σ) (h:aop P pos o σ K):aop P pos o σ K':=by
 unfold aop at h ⊢
 split at h
 ·grind
 ·grind
 ·grind [X8]
 ·grind [UB]
 ·grind [UB]
 ·grind [aK]
 grind
theorem JN {K K'} (hk:∀σ,K σ→K' σ):∀ {cv} {σ},CC cv σ K→CC cv σ K'
 | [],σ,h=>by rw [CC] at h ⊢; grind
 | (n,a,z)::cv,σ,h=>by
  cases a with
  |sub t g p=>
   rw [CC] at h ⊢
   obtain⟨h1,h2,h3,tk,rows,h4,h5,h6,h7,h8⟩:=h
   exact⟨h1,h2,h3,tk,rows,h4,h5,h6,h7,JN hk h8⟩
  |nils=>rw [CC] at h ⊢; exact⟨h.1,JN hk h.2⟩
  |bsl b m sz=>rw [CC] at h ⊢; exact⟨h.1,h.2.1,JN hk h.2.2⟩
  |_=>simp [CC] at h
theorem LO:∀ {cv} {σ} {K K'},(∀σ,K σ→K' σ)→BR cv σ K→BR cv σ K'
 | [],σ,K,K',hk,h=>by rw [BR] at h ⊢; grind
 | (n,a,z)::cv,σ,K,K',hk,h=>by
  cases a with
  | sub t g p=>
   rw [BR] at h ⊢
   refine LO (fun σ h=>?_) h
   cases hn:σ.T n with
   |none=>simp only [hn] at h ⊢; exact hk _ h
   |some tn=>
    simp only [hn] at h ⊢
    obtain⟨tk,h1,h2,h3,h4⟩:=h
    exact⟨tk,h1,h2,h3,hk _ h4⟩
  |_=>
   rw [BR] at h ⊢
   ·exact LO (fun σ h=>hk _ h) h
   all_goals (intros; simp_all)
theorem X9 {f} {args} {σ} {K K'} (hk:∀v σ,K v σ→K' v σ) (h:Th P f args σ K):Th P f args σ K':=by
 obtain⟨y,as,pt,pb,r,qt,qb,h1,h2⟩:=h
 exact⟨y,as,pt,pb,r,qt,qb,h1,JN (fun σ h=>⟨h.1,h.2.1,h.2.2.1,h.2.2.2.1,h.2.2.2.2.1,h.2.2.2.2.2.1,h.2.2.2.2.2.2.1,h.2.2.2.2.2.2.2.1,LO (fun σ h=>hk _ _ h) h.2.2.2.2.2.2.2.2⟩) h2⟩
theorem SC {K K'} (hk:∀a σ,K a σ→K' a σ):∀ {bs} {args} {σ},FzK bs args σ K→FzK bs args σ K'
 | [],args,σ,h=>hk _ _ h
 |b::bs,args,σ,h=>by
  obtain⟨vs,h1,h2,h3⟩:=h
  exact⟨vs,h1,h2,SC hk h3⟩
theorem YA {f} {args} {σ} {K K'} (hk:∀v σ,K v σ→K' v σ) (h:Y1 P f args σ K):Y1 P f args σ K':=by
 obtain⟨bs,h⟩:=h
 exact⟨bs,SC (fun _ _ h=>X9 hk h) h⟩
theorem UC {L} {pos} {o} {σ} {K K'} (hk:∀σ,K σ→K' σ) (h:RY P L pos o σ K):RY P L pos o σ K':=by
 rcases h with ⟨hA,h⟩|⟨hL,h⟩|⟨hL,hA,r,h1,h2,h3,h4⟩
 ·exact .inl ⟨hA,cg hk h⟩
 ·refine .inr (.inl ⟨hL,?_⟩)
  rcases h with h|h
  ·refine .inl ?_
   unfold L8 at h ⊢
   split at h
   ·grind [YA]
   omega
  ·refine .inr ?_
   unfold SliK at h ⊢
   split at h
   ·split at h
    ·grind
    omega
   omega
 ·exact .inr (.inr ⟨hL,hA,r,h1,h2,h3,hk _ h4⟩)
theorem Hi {ops} {base cut} {K K'} (hk:∀σ,K σ→K' σ):∀ {l} {i} {σ},aops P ops base cut i l σ K→aops P ops base cut i l σ K'
 | [],i,σ,h=>by rw [aops] at h ⊢; grind
 | o::rest,i,σ,h=>by
  rw [aops] at h ⊢
  split at h
  ·exact UC (fun σ h=>Hi hk h) h
  ·obtain⟨s,h1,h⟩:=h
   refine⟨s,h1,?_⟩
   rcases h with ⟨b,h2,h3,h4⟩|⟨h2,h3⟩
   ·exact .inl ⟨b,h2,fun hb=>UC (fun σ h=>Hi hk h) (h3 hb),fun hb=>Hi hk (h4 hb)⟩
   ·exact .inr ⟨h2,Hi hk h3⟩
theorem aL {p} {K K'} (hk:∀σ,K σ→K' σ) {σ} (h:seqW p K σ):seqW p K' σ:=by
 unfold seqW at h ⊢
 grind
theorem O7 {P} {ops} {base} {ts}:∀ (tr:Tr) {σ} {K K'},(∀σ,K σ→K' σ)→aTr P ops base ts tr σ K→aTr P ops base ts tr σ K'
 | .fin,σ,K,K',hk,h=>hk σ h
 | .stop,σ,K,K',hk,h=>trivial
 | .fz t,σ,K,K',hk,h=>by
  simp only [aTr] at h ⊢
  obtain⟨σ1,hn,h⟩:=h
  exact⟨σ1,hn,O7 t hk h⟩
 | .br i t more,σ,K,K',hk,h=>by
  simp only [aTr] at h ⊢
  refine⟨?_,O7 more hk h.2⟩
  have h1:=h.1
  split at h1
  ·exact Hi (fun σ' h=>O7 t hk h) h1
  ·exact h1.elim
theorem SD {P} {ops} {base} {r} {i} {o} {acc} {σ} {K K'} (hk:∀acc σ,K acc σ→K' acc σ) (h:L9 P ops base r i o acc σ K):L9 P ops base r i o acc σ K':=by
 unfold L9 at h ⊢
 cases r with
 |no=>grind [Hi]
 |al=>
  grind
 |st k=>
  grind
theorem LP {P} {ops} {base} {V}:∀ (l:List Oper) {E} {i} {ts} {acc} {σ} {K K'},(∀ts acc σ,K ts acc σ→K' ts acc σ)→FH P ops base V E i l ts acc σ K→FH P ops base V E i l ts acc σ K'
 | [],E,i,ts,acc,σ,K,K',hk,h=>by grind [FH]
 |o::l,[],i,ts,acc,σ,K,K',hk,h=>by simp only [FH] at h ⊢; exact SD (fun acc σ' h=>LP l hk h) h
 |o::l,true::E,i,ts,acc,σ,K,K',hk,h=>by simp only [FH] at h ⊢; exact LP l hk h
 |o::l,false::E,i,ts,acc,σ,K,K',hk,h=>by simp only [FH] at h ⊢; exact SD (fun acc σ' h=>LP l hk h) h
theorem aM {P} {ops} {base} {draw} {σ} {K K'} (hk:∀σ,K σ→K' σ) (h:Zo P ops base draw σ K):Zo P ops base draw σ K':=by
 unfold Zo at h ⊢
 cases draw with
 |false=>exact Hi hk h
 |true=>
  rcases h with ⟨E,V,tr,hE,h⟩|⟨F,ds,h1,h2,h3,h4⟩
  ·exact .inl ⟨E,V,tr,hE,LP _ (fun ts acc σ h=>⟨h.1,O7 tr hk h.2⟩) h⟩
  ·exact .inr ⟨F,ds,h1,h2,h3,hk _ h4⟩
theorem JO:∀ {c} {Q Q'} {σ},(∀q σ,Q q σ→Q' q σ)→awp P c Q σ→awp P c Q' σ
 | .skip,Q,Q',σ,hq,h=>by rw [awp] at h ⊢; grind
 | .region id ops draw,Q,Q',σ,hq,h=>by rw [awp] at h ⊢; grind [aM]
 | .seq a b,Q,Q',σ,hq,h=>by
  rw [awp] at h ⊢
  refine JO (fun q σ h=>?_) h
  cases q with
  |normal=>
   have h':seqW (plain a) (awp P b Q) σ:=h
   exact aL (K:=awp P b Q) (K':=awp P b Q') (fun σ h=>JO hq h) h'
  |exit id=>exact hq _ _ h
  |ret=>exact hq _ _ h
 | .cond c a b,Q,Q',σ,hq,h=>by
  rw [awp] at h ⊢
  obtain⟨v,h1,h2,h3⟩:=h
  exact⟨v,h1,fun e=>JO hq (h2 e),fun e=>JO hq (h3 e)⟩
 | .block id b,Q,Q',σ,hq,h=>by
  rw [awp] at h ⊢
  refine JO (fun q σ h=>?_) h
  cases q with
  |normal=>exact hq _ _ h
  |exit i=>
   grind [AE.inBlock]
  |ret=>exact hq _ _ h
 | .loop b,Q,Q',σ,hq,h=>by
  rw [awp] at h ⊢
  intro L hL
  refine h L fun σ hσ=>hL σ (JO (fun q σ h=>?_) hσ)
  cases q with
  |normal=>exact h
  |exit id=>exact hq _ _ h
  |ret=>exact hq _ _ h
 | .exit id,Q,Q',σ,hq,h=>by rw [awp] at h ⊢; grind
 | .ret,Q,Q',σ,hq,h=>by rw [awp] at h ⊢; grind
 | .rangeFunc _ _ _ _,Q,Q',σ,hq,h=>by simp [awp] at h
 | .goto _,Q,Q',σ,hq,h=>by simp [awp] at h
 | .label _,Q,Q',σ,hq,h=>by simp [awp] at h
theorem WP {b} {Q} {σ} (h:awp P b (AE.then (fun σ'=>∃σ1,Wk σ' σ1∧awp P (.loop b) Q σ1) Q) σ):awp P (.loop b) Q σ:=by
 rw [awp]
 intro L hL
 refine⟨σ,.nil σ,hL σ (JO (fun q σ h=>?_) h)⟩
 cases q with
 |normal=>
  obtain⟨σ1,h1,h2⟩:=h
  rw [awp] at h2
  obtain⟨σ0,h3,h4⟩:=h2 L hL
  exact⟨σ0,h1.trans h3,h4⟩
 |exit id=>exact h
 |ret=>exact h
end
def Ap {α:Type} (v:α) (K:α→Prop):Prop:=K v
def optX {α:Type} (o:Option α) (K:α→Prop):Prop:=∃x,o=some x∧K x
def AP (p q:Prop):Prop:=p∧q
def MQ (b:Bool) (p q:Prop):Prop:=(b=true∧p)∨(b=false∧q)
def SF (b:Bool) (p q:Prop):Prop:=(b=true→p)∧(b=false→q)
structure Wrap {α:Sort _} (a:α):Type where
def l0 {α:Type} (v:α) (K:α→Prop) (_:Wrap K):Prop:=K v
def aN {α:Type} (o:Option α) (K:α→Prop) (_:Wrap K):Prop:=∃x,o=some x∧K x
def WQ (p q:Prop) (_:Wrap q):Prop:=p∧q
def UD (b:Bool) (p q:Prop) (_:Wrap p) (_:Wrap q):Prop:=(b=true→p)∧(b=false→q)
def ci (b:Bool) (p q:Prop) (_:Wrap p) (_:Wrap q):Prop:=MQ b p q
@[go_sem ↓] theorem oQ {α:Type} {v:α} {K:α→Prop}:Ap v K=l0 v K ⟨⟩:=rfl
@[go_sem ↓] theorem oR {α:Type} {o:Option α} {K:α→Prop}:optX o K=aN o K ⟨⟩:=rfl
@[go_sem ↓] theorem oS {p q:Prop}:AP p q=WQ p q ⟨⟩:=rfl
@[go_sem ↓] theorem l5 {b} {p q:Prop}:SF b p q=UD b p q ⟨⟩ ⟨⟩:=rfl
@[go_sem ↓] theorem oU {b} {p q:Prop}:MQ b p q=ci b p q ⟨⟩ ⟨⟩:=rfl
@[go_sem] theorem oV {α:Type} {v:α} {K:α→Prop} {w:Wrap K}:l0 v K w=K v:=propext Iff.rfl
@[go_sem] theorem kN {α:Type} {x:α} {K:α→Prop} {w:Wrap K}:aN (some x) K w=K x:=by simp [aN]
@[go_sem] theorem kO {α:Type} {K:α→Prop} {w:Wrap K}:aN none K w=False:=by simp [aN]
@[go_sem] theorem kP {q:Prop} {w}:WQ True q w=q:=by simp [WQ]
@[go_sem] theorem i3 {q:Prop} {w}:WQ False q w=False:=by simp [WQ]
@[go_sem] theorem qQ {p:Prop} {w}:WQ p True w=p:=by simp [WQ]
@[go_sem] theorem i4 {p q:Prop} {w} {w'}:UD true p q w w'=p:=by simp [UD]
@[go_sem] theorem iN {p q:Prop} {w} {w'}:UD false p q w w'=q:=by simp [UD]
@[go_sem] theorem kQ {p q:Prop} {w} {w'}:ci true p q w w'=p:=by simp [MQ,ci]
@[go_sem] theorem i5 {p q:Prop} {w} {w'}:ci false p q w w'=q:=by simp [MQ,ci]
theorem Hj {α:Type} {x:α} {K:α→Prop}:optX (some x) K=K x:=by simp [optX]
theorem UE {α:Type} {K:α→Prop}:optX none K=False:=by simp [optX]
theorem Al {p q:Prop} {w} (hp:p) (hq:q):WQ p q w:=⟨hp,hq⟩
theorem Aa {α:Type} {o:Option α} {x:α} {K:α→Prop} {w:Wrap K} (h:o=some x) (hk:K x):aN o K w:=⟨x,h,hk⟩
@[go_sem] theorem kR:isMp [] =false:=rfl
@[go_sem] theorem kS {a}:isMp [a] =a.mp?:=rfl
@[go_sem] theorem kU {a b} {l}:isMp (a::b::l)=false:=rfl
@[go_sem] theorem kV:Pq [] =true:=rfl
@[go_sem] theorem i6 {a} {l}:Pq (a::l)=(!a.mp?&&Pq l):=rfl
attribute [go_sem] AV.mp?
@[go_sem] theorem i7 {α:Type} {j:Nat} {x:α} {l:List (Nat × α)} {i:Nat}:look ((j,x)::l) i=if i=j then some x else look l i:=rfl
@[go_sem] theorem l6 {α:Type} {i}:look ([] :List (Nat × α)) i=none:=rfl
@[go_sem] theorem St.T_mk {s t b} {i}:St.T ⟨s,t,b⟩ i=(look t i).join :=rfl
@[go_sem] theorem St.B_mk {s t b} {i}:St.B ⟨s,t,b⟩ i=(look b i).join :=rfl
@[go_sem] theorem St.g_mk {s t b} {i}:St.g ⟨s,t,b⟩ i=(look s i).getD .any :=rfl
@[go_sem] theorem St.t_mk {s t b}:St.t ⟨s,t,b⟩=t:=rfl
@[go_sem] theorem St.b_mk {s t b}:St.b ⟨s,t,b⟩=b:=rfl
@[go_sem] theorem St.s_mk {s t b}:St.s ⟨s,t,b⟩=s:=rfl
@[go_sem] theorem St.e_tmp {σ:St} {t:Tmp}:σ.e (.tmp t)=σ.g t:=rfl
@[go_sem] theorem St.e_func {σ:St} {f:FuncId}:σ.e (.func f)= .fn f [] :=rfl
@[go_sem] theorem St.e_const {σ:St} {v:Value}:σ.e (.const v)=Bb v:=rfl
@[go_sem] theorem oW {k} {n}:Bb (.int k n)= .int k n:=rfl
@[go_sem] theorem l7 {b}:Bb (.bool b)= .bool b:=rfl
@[go_sem] theorem oX {s}:Bb (.string s)= .str s:=rfl
@[go_sem] theorem l8:Bb (.slice none 0 0)= .nils :=rfl
@[go_sem] theorem l9:Bb (.pointer none)= .nilp :=rfl
@[go_sem] theorem oY {cs}:Bb (.agg cs.toArray)= .agg (H7 cs):=by rfl
@[go_sem] theorem mA:H7 [] =[] :=rfl
@[go_sem] theorem kW {v} {vs}:H7 (v::vs)=Bb v::H7 vs:=rfl
@[go_sem] theorem mB {s t b} {d} {v}:St.put ⟨s,t,b⟩ (some d) v=⟨(d,v)::s,t,b⟩:=rfl
@[go_sem] theorem mC {σ} {v}:St.put σ none v=σ:=rfl
@[go_sem] theorem mD {s t b} {i}:St.killT ⟨s,t,b⟩ i=⟨s,(i,none)::t,b⟩:=rfl
@[go_sem] theorem oZ {s t b} {i} {tk}:St.setT ⟨s,t,b⟩ i tk=⟨s,(i,some tk)::t,b⟩:=rfl
@[go_sem] theorem oa {s t b} {i} {vs}:St.setB ⟨s,t,b⟩ i vs=⟨s,t,(i,some vs)::b⟩:=rfl
attribute [go_sem] Option.join_some Option.join_none Option.getD_some Option.getD_none reduceIte eq_self and_self true_and and_true
attribute [go_sem] List.getElem?_cons_zero List.getElem?_cons_succ List.length_cons List.length_nil List.take_succ_cons List.take_zero List.take_nil List.drop_succ_cons List.drop_zero List.map_cons List.map_nil List.set_cons_zero List.set_cons_succ List.cons_append List.nil_append Option.some.injEq reduceCtorEq TI.isAgg TI.sc AV.one splice List.all_cons List.all_nil Bool.and_self Bool.true_and Bool.and_true
def Jz (P:Program) (ops:Array Oper) (base cut i:Nat) (l:List Oper) (σ:St) (K:St→Prop) (_:Wrap ops) (_:Wrap l) (_:Wrap K) (_:Wrap cut):Prop:=aops P ops base cut i l σ K
@[go_sem ↓] theorem ob {P} {ops} {base cut i} {l} {K} {σ}:aops P ops base cut i l σ K=Jz P ops base cut i l σ K ⟨⟩ ⟨⟩ ⟨⟩ ⟨⟩:=rfl
section
variable {P:Program} {σ:St} {K:St→Prop} {Q:AE→St→Prop}
@[go_sem ↓] theorem qR:awp P .skip Q σ=Q .normal σ:=by rw [awp]
@[go_sem ↓] theorem mE {id} {l}:awp P (.region id l.toArray false) Q σ=aops P l.toArray (id*1000+1000) 0 0 l σ (Q .normal):=by rw [awp]; rfl
def cj (P:Program) (id:Nat) (l:List Oper) (Q:AE→St→Prop) (σ:St) (_:Wrap l) (_:Wrap Q) (_:Wrap σ):Prop:=Zo P l.toArray (id*1000+1000) true σ (Q .normal)
@[go_sem ↓] theorem qS {id} {l}:awp P (.region id l.toArray true) Q σ=cj P id l Q σ ⟨⟩ ⟨⟩ ⟨⟩:=by rw [awp]; rfl
theorem cm {id} {l} {w1} {w2} {w3} (E:List Bool) (V:List (Nat × Nat)) (tr:Tr) (h:LD E V tr l.toArray=true) (k:FH P l.toArray (id*1000+1000) V E 0 l [] [] σ fun ts acc σ'=>Xl acc σ' fun σ'=>aTr P l.toArray (id*1000+1000) ts tr σ' (Q .normal)):cj P id l Q σ w1 w2 w3:=.inl ⟨E,V,tr,h,k⟩
theorem AX {id} {l} {w1} {w2} {w3} (E:List Bool) (tr:Tr) (h:LD E [] tr l.toArray=true) (k:FH P l.toArray (id*1000+1000) [] E 0 l [] [] σ fun ts acc σ'=>Xl acc σ' fun σ'=>aTr P l.toArray (id*1000+1000) ts tr σ' (Q .normal)):cj P id l Q σ w1 w2 w3:=.inl ⟨E,[],tr,h,k⟩
def fC (s:List (Nat × AV)) (t:Nat) (v:AV):Prop:=v= .any ∨look s t=some v
@[go_sem] theorem oc {s}:leS s [] =True:=rfl
@[go_sem] theorem mF {s t v r}:leS s ((t,v)::r)=(fC s t v∧leS s r):=rfl
@[go_sem] theorem od {s:List (Nat × AV)} {t:Nat} {b:Bool} {v:AV}:fC s t (if b=true then v else .any)=(b=true→fC s t v):=propext (by cases b <;> simp [fC])
def leO1 {α:Type} (s:List (Nat × Option α)) (t:Nat) (v:Option α):Prop:=v=none∨look s t=some v
@[go_sem] theorem oe {α:Type} {s:List (Nat × Option α)}:leO s [] =True:=rfl
@[go_sem] theorem mG {α:Type} {s:List (Nat × Option α)} {t v r}:leO s ((t,v)::r)=(leO1 s t v∧leO s r):=rfl
@[go_sem] theorem i9 {α:Type} {s:List (Nat × α)}:IT s [] =True:=rfl
@[go_sem] theorem iO {α:Type} {s:List (Nat × α)} {t v r}:IT s ((t,v)::r)=((look s t).isSome =true∧IT s r):=rfl
@[go_sem] theorem St.Le_mk {s t b s' t' b'}:St.Le ⟨s,t,b⟩ ⟨s',t',b'⟩=(leS s s'∧(leO t t'∧IT t' t)∧leO b b'∧IT b' b):=rfl
@[go_sem] theorem mH {S}:bu S [] =True:=rfl
@[go_sem] theorem kX {S j r}:bu S (j::r)=(S j=true∧bu S r):=rfl
def optK {α:Type} (b:Bool) (p:Nat × α) (r:List (Nat × α)):List (Nat × α):=if b=true then p::r else r
@[go_sem] theorem qT {α:Type} {p:Nat × α} {r}:optK true p r=p::r:=rfl
@[go_sem] theorem qU {α:Type} {p:Nat × α} {r}:optK false p r=r:=rfl
@[go_sem] theorem kY {α:Type} {b:Bool} {t:Nat} {v:α} {r} {x:Nat}:look (optK b (t,v) r) x=if x=t then (if b=true then some v else look r x) else look r x:=by
 grind [optK,AM]
@[go_sem] theorem mI {α:Type} {s:List (Nat × Option α)} {b:Bool} {t:Nat} {v:Option α} {r}:leO s (optK b (t,v) r)=((b=true→leO1 s t v)∧leO s r):=by
 cases b <;> simp [optK,leO,leO1]
@[go_sem] theorem iP {α:Type} {s:List (Nat × α)} {b:Bool} {t:Nat} {v:α} {r}:IT s (optK b (t,v) r)=((b=true→(look s t).isSome =true)∧IT s r):=by
 cases b <;> simp [optK,IT]
def fD (acc:List (Nat × List AV)) (σ:St) (K:St→Prop) (_:Wrap σ) (_:Wrap K):Prop:=Xl acc σ K
@[go_sem ↓] theorem og {acc} {σ} {K}:Xl acc σ K=fD acc σ K ⟨⟩ ⟨⟩:=rfl
@[go_sem] theorem mJ {σ} {K} {w1 w2}:fD [] σ K w1 w2=K σ:=by
 simp [fD,Xl,EI,addB]
theorem iQ {acc} {s} {t} {b} {K} {w1 w2} (h:EI ⟨s,t,b⟩ acc) (k:K ⟨s,t,addB b acc⟩):fD acc ⟨s,t,b⟩ K w1 w2:=⟨h,k⟩
attribute [go_sem] addB
def IU (P:Program) (ops:Array Oper) (base:Nat) (V:List (Nat × Nat)) (E:List Bool) (i:Nat) (l:List Oper) (ts:List (Nat × Oper)) (acc:List (Nat × List AV)) (σ:St) (K:List (Nat × Oper)→List (Nat × List AV)→St→Prop) (_:Wrap ops) (_:Wrap l) (_:Wrap ts) (_:Wrap K) (_:Wrap V) (_:Wrap acc):Prop:=FH P ops base V E i l ts acc σ K
def YB (P:Program) (ops:Array Oper) (base:Nat) (r:VR) (i:Nat) (o:Oper) (acc:List (Nat × List AV)) (σ:St) (K:List (Nat × List AV)→St→Prop):Prop:=L9 P ops base r i o acc σ K
def Ur (P:Program) (ops:Array Oper) (base:Nat) (r:VR) (i:Nat) (o:Oper) (acc:List (Nat × List AV)) (σ:St) (K:List (Nat × List AV)→St→Prop) (_:Wrap ops) (_:Wrap o) (_:Wrap acc) (_:Wrap σ) (_:Wrap K):Prop:=L9 P ops base r i o acc σ K
section
variable {ops:Array Oper} {base i:Nat} {V:List (Nat × Nat)} {E:List Bool} {ts:List (Nat × Oper)} {acc:List (Nat × List AV)} {H:List (Nat × Oper)→List (Nat × List AV)→St→Prop} {o:Oper} {l:List Oper} {w1:Wrap ops} {w3:Wrap ts} {w4:Wrap H} {w5:Wrap V} {w6:Wrap acc}
@[go_sem ↓] theorem mK:FH P ops base V E i l ts acc σ H=IU P ops base V E i l ts acc σ H ⟨⟩ ⟨⟩ ⟨⟩ ⟨⟩ ⟨⟩ ⟨⟩:=rfl
@[go_sem] theorem rS {w2}:IU P ops base V E i [] ts acc σ H w1 w2 w3 w4 w5 w6=H ts acc σ:=by rfl
@[go_sem] theorem qV {w2}:IU P ops base V (true::E) i (o::l) ts acc σ H w1 w2 w3 w4 w5 w6=FH P ops base V E (i+1) l ((i,o)::ts) acc σ H:=rfl
@[go_sem] theorem oh {w2}:IU P ops base V (false::E) i (o::l) ts acc σ H w1 w2 w3 w4 w5 w6=YB P ops base (CN V i) i o acc σ fun acc' σ'=>FH P ops base V E (i+1) l ts acc' σ' H:=rfl
@[go_sem] theorem rT {w2}:IU P ops base V [] i (o::l) ts acc σ H w1 w2 w3 w4 w5 w6=YB P ops base (CN V i) i o acc σ fun acc' σ'=>FH P ops base V [] (i+1) l ts acc' σ' H:=rfl
@[go_sem] theorem jA {x} {xs b} {w2}:IU P ops base V E i (List.append (x::xs) b) ts acc σ H w1 w2 w3 w4 w5 w6=IU P ops base V E i (x::List.append xs b) ts acc σ H w1 ⟨⟩ w3 w4 w5 w6:=rfl
@[go_sem] theorem kZ {b} {w2}:IU P ops base V E i (List.append [] b) ts acc σ H w1 w2 w3 w4 w5 w6=IU P ops base V E i b ts acc σ H w1 ⟨⟩ w3 w4 w5 w6:=rfl
@[go_sem] theorem kc {a b c} {w2}:IU P ops base V E i (List.append (List.append a b) c) ts acc σ H w1 w2 w3 w4 w5 w6=IU P ops base V E i (List.append a (List.append b c)) ts acc σ H w1 ⟨⟩ w3 w4 w5 w6:=by
 unfold IU; rw [show List.append (List.append a b) c=List.append a (List.append b c) from List.append_assoc a b c]
@[go_sem ↓] theorem mL {r} {K}:YB P ops base r i o acc σ K=Ur P ops base r i o acc σ K ⟨⟩ ⟨⟩ ⟨⟩ ⟨⟩ ⟨⟩:=rfl
attribute [go_sem] CN
@[go_sem] theorem mM {K} {w1 w2 w3 w4 w5}:Ur P ops base .no i o acc σ K w1 w2 w3 w4 w5=aops P ops base (i+1) i [o] σ (K acc):=rfl
@[go_sem] theorem mN {K} {dst} {t ty} {ps} {af} {w1 w2 w3 w4 w5}:Ur P ops base .al i ⟨dst,.alloc t,ty,ps,af,none⟩ acc σ K w1 w2 w3 w4 w5=AP (0<(tz P t).length ∧(tz P t).length =tsz P t∧isMp ((tz P t).map zAV)=false) (K acc (σ.put dst (.box (base+i) 0))):=rfl
def stV (P:Program) (base k:Nat) (t:TypeId) (x a:AV) (dst:Option Tmp) (acc:List (Nat × List AV)) (σ:St) (K:List (Nat × List AV)→St→Prop):Prop:=match cellsOf x with
 |some cs=>(cs.length=tsz P t∧0<tsz P t∧cs.all AV.one=true)∧a= .box (base+k) 0∧K ((base+k,cs)::acc) (σ.put dst .any)
 |none=>False
@[go_sem] theorem mO {K} {k} {dst} {t ty} {a x} {ps} {af} {w1 w2 w3 w4 w5}:Ur P ops base (.st k) i ⟨dst,.store t a x,ty,ps,af,none⟩ acc σ K w1 w2 w3 w4 w5=Ap (σ.e x) fun x=>Ap (σ.e a) fun a=>stV P base k t x a dst acc σ K:=rfl
def jB (P:Program) (base k:Nat) (t:TypeId) (x a:AV) (dst:Option Tmp) (acc:List (Nat × List AV)) (σ:St) (K:List (Nat × List AV)→St→Prop) (_:Wrap x) (_:Wrap a) (_:Wrap acc) (_:Wrap σ) (_:Wrap K):Prop:=stV P base k t x a dst acc σ K
@[go_sem ↓] theorem qW {k} {t} {x a} {dst} {K}:stV P base k t x a dst acc σ K=jB P base k t x a dst acc σ K ⟨⟩ ⟨⟩ ⟨⟩ ⟨⟩ ⟨⟩:=rfl
theorem ZL {k} {t} {x a} {dst} {K} {w1 w2 w3 w4 w5} (cs:List AV) (h1:cellsOf x=some cs) (h2:cs.length=tsz P t∧0<tsz P t∧cs.all AV.one=true) (h3:a= .box (base+k) 0) (h:K ((base+k,cs)::acc) (σ.put dst .any)):jB P base k t x a dst acc σ K w1 w2 w3 w4 w5:=by
 grind [jB,stV]
def trX (o:Option Oper) (f:Oper→Prop):Prop:=match o with
 |some o=>f o
 |none=>False
def trY (o:Option Oper) (f:Oper→Prop) (_:Wrap f):Prop:=trX o f
@[go_sem ↓] theorem qX {x} {f}:trX x f=trY x f ⟨⟩:=rfl
@[go_sem] theorem mP {f} {w}:trY (some o) f w=f o:=rfl
def jC (p q:Prop):Prop:=p∧q
def mQ (p q:Prop) (_:Wrap p) (_:Wrap q):Prop:=p∧q
@[go_sem ↓] theorem om {p q:Prop}:jC p q=mQ p q ⟨⟩ ⟨⟩:=rfl
theorem Bj {p q:Prop} {w} {w'} (hp:p) (hq:q):mQ p q w w':=⟨hp,hq⟩
def TE (P:Program) (ops:Array Oper) (base:Nat) (ts:List (Nat × Oper)) (tr:Tr) (σ:St) (K:St→Prop) (_:Wrap ops) (_:Wrap ts) (_:Wrap K):Prop:=aTr P ops base ts tr σ K
@[go_sem ↓] theorem qY {tr}:aTr P ops base ts tr σ K=TE P ops base ts tr σ K ⟨⟩ ⟨⟩ ⟨⟩:=rfl
@[go_sem] theorem qZ {w3} {w4}:TE P ops base ts .fin σ K w1 w3 w4=K σ:=rfl
@[go_sem] theorem qa {t} {w3} {w4}:TE P ops base ts (.br i t .stop) σ K w1 w3 w4=trX (look ts i) fun o=>aops P ops base 0 i [o] σ fun σ'=>aTr P ops base ts t σ' K:=by
 grind [TE,trX,aTr]
@[go_sem] theorem qc {t u m} {j} {w3} {w4}:TE P ops base ts (.br i t (.br j u m)) σ K w1 w3 w4=jC (aTr P ops base ts (.br i t .stop) σ K) (aTr P ops base ts (.br j u m) σ K):=by
 grind [TE,jC,aTr]
@[go_sem] theorem qd {t} {w3} {w4}:TE P ops base ts (Tr.sq [] t) σ K w1 w3 w4=TE P ops base ts t σ K w1 w3 w4:=rfl
@[go_sem] theorem rU {t} {is} {w3} {w4}:TE P ops base ts (Tr.sq (i::is) t) σ K w1 w3 w4=TE P ops base ts (.br i (Tr.sq is t) .stop) σ K w1 w3 w4:=rfl
end
def fE (p:Bool) (K:St→Prop) (σ:St):Prop:=seqW p K σ
def WR (p:Bool) (K:St→Prop) (σ:St) (_:Wrap K) (_:Wrap σ):Prop:=seqW p K σ
@[go_sem ↓] theorem oq {p}:fE p K σ=WR p K σ ⟨⟩ ⟨⟩:=rfl
@[go_sem] theorem ke {w1} {w2}:WR true K σ w1 w2=K σ:=rfl
theorem GM {w1} {w2} (h:K σ):WR false K σ w1 w2:=⟨σ,.nil σ,h⟩
theorem YC {w1} {w2} {σ1} (hn:Nils σ σ1) (h:K σ1):WR false K σ w1 w2:=⟨σ1,.fz hn (.nil σ1),h⟩
theorem Us {w1} {w2} {σ1} (h:K σ1) (hw:Wk σ σ1):WR false K σ w1 w2:=⟨σ1,hw,h⟩
@[go_sem] theorem fF {id:Nat} {l:List Oper}:plain (.region id l.toArray false)=l.all fun o=>o.guard.isNone&&iq o.op:=rfl
attribute [go_sem] iq Bool.and_true Bool.true_and Bool.and_false Bool.false_and
@[go_sem] theorem jD {id:Nat} {l:List Oper}:plain (.region id l.toArray true)=false:=rfl
@[go_sem] theorem jE:plain .skip =false:=rfl
@[go_sem] theorem kf {a b}:plain (.seq a b)=false:=rfl
@[go_sem] theorem jF {c} {a b}:plain (.cond c a b)=false:=rfl
@[go_sem] theorem iR {id} {a}:plain (.block id a)=false:=rfl
@[go_sem] theorem jG {a}:plain (.loop a)=false:=rfl
@[go_sem] theorem jH {id}:plain (.exit id)=false:=rfl
@[go_sem] theorem kh:plain .ret =false:=rfl
attribute [go_sem] Option.isNone_none Option.isNone_some List.all_cons List.all_nil
@[go_sem ↓] theorem rV {a b}:awp P (.seq a b) Q σ=awp P a (AE.then (fE (plain a) (awp P b Q)) Q) σ:=by rw [awp]; rfl
@[go_sem ↓] theorem qe {c} {a b}:awp P (.cond c a b) Q σ=Ap (σ.e c) fun v=>Y2 v (awp P a Q σ) (awp P b Q σ):=by rw [awp]; rfl
@[go_sem ↓] theorem ov {id} {c}:awp P (.block id c) Q σ=awp P c (AE.inBlock id Q) σ:=by rw [awp]
@[go_sem ↓] theorem qf {id}:awp P (.exit id) Q σ=Q (.exit id) σ:=by rw [awp]
@[go_sem ↓] theorem rW:awp P .ret Q σ=Q .ret σ:=by rw [awp]
@[go_sem] theorem YD {b} {p q:Prop}:Y2 (.bool b) p q=SF b p q:=by simp [Y2,SF]
@[go_sem ↓] theorem iS {n}:AE.then n Q .normal σ=n σ:=rfl
@[go_sem ↓] theorem kj {n} {id}:AE.then n Q (.exit id) σ=Q (.exit id) σ:=rfl
@[go_sem ↓] theorem mR {n}:AE.then n Q .ret σ=Q .ret σ:=rfl
@[go_sem ↓] theorem fG {id}:AE.inBlock id Q .normal σ=Q .normal σ:=rfl
@[go_sem ↓] theorem km {id}:AE.inBlock id Q .ret σ=Q .ret σ:=rfl
def WS (P:Program) (b:Code) (Q:AE→St→Prop) (σ:St) (_:Wrap b) (_:Wrap Q):Prop:=awp P (.loop b) Q σ
def lpX (P:Program) (b:Code) (Q:AE→St→Prop) (σ:St):Prop:=∃σ1,Wk σ σ1∧awp P (.loop b) Q σ1
def lpY (P:Program) (b:Code) (Q:AE→St→Prop) (σ:St) (_:Wrap b) (_:Wrap Q) (_:Wrap σ):Prop:=∃σ1,Wk σ σ1∧awp P (.loop b) Q σ1
@[go_sem ↓] theorem qg {b}:lpX P b Q σ=lpY P b Q σ ⟨⟩ ⟨⟩ ⟨⟩:=rfl
theorem WT {b} {w1} {w2} {w3} {σ1} (h:awp P (.loop b) Q σ1) (hw:Wk σ σ1):lpY P b Q σ w1 w2 w3:=⟨σ1,hw,h⟩
theorem AY {b} {w1} {w2} (h:awp P b (AE.then (lpX P b Q) Q) σ):WS P b Q σ w1 w2:=WP h
@[go_sem ↓] theorem ko {b}:awp P (.loop b) Q σ=WS P b Q σ ⟨⟩ ⟨⟩:=rfl
@[go_sem ↓] theorem jI {id i}:AE.inBlock id Q (.exit i) σ=MQ (decide (i=id)) (Q .normal σ) (Q (.exit i) σ):=by
 simp only [AE.inBlock,MQ]
 by_cases h:i=id <;> simp [h]
attribute [go_sem] decide_true decide_false
def opX (P:Program) (pos:Nat) (dst:Option Tmp) (op:Op) (σ:St) (K:St→Prop):Prop:=aop P pos ⟨dst,op,0, "",#[],none⟩ σ K
def opL (P:Program) (L:Bool) (pos:Nat) (dst:Option Tmp) (op:Op) (σ:St) (K:St→Prop) (_:Wrap L):Prop:=RY P L pos ⟨dst,op,0, "",#[],none⟩ σ K
@[go_sem] theorem rX {ops} {base cut i} {w1} {w2} {w3} {w4}:Jz P ops base cut i [] σ K w1 w2 w3 w4=K σ:=by rw [Jz,aops]
@[go_sem] theorem qh {ops} {base cut i} {dst} {op} {type} {ps} {after} {rest} {w1} {w2} {w3} {w4}:
  Jz P ops base cut i (⟨dst,op,type,ps,after,none⟩::rest) σ K w1 w2 w3 w4=opL P (decide (cut≤i)) (base+i) dst op σ (fun σ'=>aops P ops base cut (i+1) rest σ' K) ⟨⟩:=by
 rw [Jz,aops]; rfl
def Kd (ops:Array Oper) (j:Nat) (K:Tmp→Prop):Prop:=optX (Id ops j) K
@[go_sem ↓] theorem YE {dst} {op} {type} {ps} {after} {g} {rest} {K}:Kd (List.toArray (⟨some dst,op,type,ps,after,g⟩::rest)) 0 K=K dst:=by
 simp [Kd,Id,optX]
@[go_sem ↓] theorem YF {o} {rest} {j} {K}:Kd (List.toArray (o::rest)) (j+1) K=Kd rest.toArray j K:=by
 simp [Kd,Id]
def OM (v:AV) (want:Bool) (p q q':Prop):Prop:=(∃b,v= .bool b∧(b=want→p)∧(b= !want→q))∨(v= .tup [] ∧q')
@[go_sem ↓] theorem WU {b} {p q q':Prop}:OM (.bool b) true p q q'=SF b p q:=by simp [OM,SF]
@[go_sem ↓] theorem Ut {b} {p q q':Prop}:OM (.bool b) false p q q'=SF b q p:=by
 grind [OM,SF]
@[go_sem ↓] theorem aO {want} {p q q':Prop}:OM (.tup []) want p q q'=q':=by simp [OM]
@[go_sem] theorem oz {ops} {base cut i} {dst} {op} {type} {ps} {after} {j} {want} {rest} {w1} {w2} {w3} {w4}:
  Jz P ops base cut i (⟨dst,op,type,ps,after,some (j,want)⟩::rest) σ K w1 w2 w3 w4=Kd ops j fun s=>Ap (σ.g s) fun v=>OM v want
   (opL P (decide (cut≤i)) (base+i) dst op (σ.put (some s) (.bool want)) (fun σ'=>aops P ops base cut (i+1) rest σ' K) ⟨⟩)
   (aops P ops base cut (i+1) rest ((σ.put (some s) (.bool (!want))).put dst (.tup [])) K)
   (aops P ops base cut (i+1) rest (σ.put dst (.tup [])) K):=by
 rw [Jz,aops]
 rfl
section
variable {L:Bool} {pos:Nat} {dst:Option Tmp} {wL:Wrap L}
theorem Cr {op} (h:∀ (σ:St) (K:St→Prop),L8 P ⟨dst,op,0, "",#[],none⟩ σ K=False) (hA:RX ⟨dst,op,0, "",#[],none⟩=false:=by rfl) (hS:SliK P pos ⟨dst,op,0, "",#[],none⟩ σ K=False:=by rfl):opL P L pos dst op σ K wL=opX P pos dst op σ K:=by
 grind [opL,RY,opX]
@[go_sem ↓] theorem mS {x}:opL P L pos dst (.move x) σ K wL=opX P pos dst (.move x) σ K:=Cr fun _ _=>rfl
@[go_sem ↓] theorem jJ {x}:opL P L pos dst (.assign x) σ K wL=opX P pos dst (.assign x) σ K:=Cr fun _ _=>rfl
@[go_sem ↓] theorem mT {a b c}:opL P L pos dst (.pick c a b) σ K wL=opX P pos dst (.pick c a b) σ K:=Cr fun _ _=>rfl
@[go_sem ↓] theorem mU {t} {a}:opL P L pos dst (.load t a) σ K wL=opX P pos dst (.load t a) σ K:=Cr fun _ _=>rfl
@[go_sem ↓] theorem fH {x}:opL P L pos dst (.nilCheck x) σ K wL=opX P pos dst (.nilCheck x) σ K:=Cr fun _ _=>rfl
@[go_sem ↓] theorem o0 {op} {t t'} {x y}:opL P L pos dst (.binOp op t x y t') σ K wL=opX P pos dst (.binOp op t x y t') σ K:=Cr fun _ _=>rfl
@[go_sem ↓] theorem qi {op} {t} {x}:opL P L pos dst (.unOp op t x) σ K wL=opX P pos dst (.unOp op t x) σ K:=Cr fun _ _=>rfl
@[go_sem ↓] theorem iT {s d} {x}:opL P L pos dst (.convert s d x) σ K wL=opX P pos dst (.convert s d x) σ K:=Cr fun _ _=>rfl
@[go_sem ↓] theorem ef {s} {x} {f}:opL P L pos dst (.fieldAddr s x f) σ K wL=opX P pos dst (.fieldAddr s x f) σ K:=Cr fun _ _=>rfl
@[go_sem ↓] theorem kq {s} {x} {f}:opL P L pos dst (.field s x f) σ K wL=opX P pos dst (.field s x f) σ K:=Cr fun _ _=>rfl
@[go_sem ↓] theorem eh {t} {x i}:opL P L pos dst (.indexAddr t x i) σ K wL=opX P pos dst (.indexAddr t x i) σ K:=Cr fun _ _=>rfl
@[go_sem ↓] theorem kr {t} {x i}:opL P L pos dst (.index t x i) σ K wL=opX P pos dst (.index t x i) σ K:=Cr fun _ _=>rfl
def YG (P:Program) (L:Bool) (pos:Nat) (dst:Option Tmp) (op:Op) (v:AV) (σ:St) (K:St→Prop):Prop:=opX P pos dst op σ K∨(L=true∧(match v with| .own _=>True|_=>False)∧SliK P pos ⟨dst,op,0, "",#[],none⟩ σ K)
def aP (P:Program) (L:Bool) (pos:Nat) (dst:Option Tmp) (op:Op) (v:AV) (σ:St) (K:St→Prop) (_:Wrap σ) (_:Wrap K) (_:Wrap op):Prop:=YG P L pos dst op v σ K
@[go_sem ↓] theorem o3 {op} {v}:YG P L pos dst op v σ K=aP P L pos dst op v σ K ⟨⟩ ⟨⟩ ⟨⟩:=rfl
@[go_sem] theorem o4 {op} {rows} {w1 w2 w3}:aP P L pos dst op (.ro rows) σ K w1 w2 w3=opX P pos dst op σ K:=by simp [aP,YG]
@[go_sem] theorem mV {op} {s} {w1 w2 w3}:aP P L pos dst op (.str s) σ K w1 w2 w3=opX P pos dst op σ K:=by simp [aP,YG]
theorem aQ {t} {x} {l h m}:opL P L pos dst (.slice t x l h m) σ K wL=YG P L pos dst (.slice t x l h m) (σ.e x) σ K:=by
 have h1:L8 P ⟨dst,.slice t x l h m,0, "",#[],none⟩ σ K=False:=rfl
 have h2:RX ⟨dst,.slice t x l h m,0, "",#[],none⟩=false:=rfl
 have h3:SliK P pos ⟨dst,.slice t x l h m,0, "",#[],none⟩ σ K=((match σ.e x with| .own _=>True|_=>False)∧SliK P pos ⟨dst,.slice t x l h m,0, "",#[],none⟩ σ K):=by
  grind [SliK]
 grind [opL,RY,YG,opX]
@[go_sem ↓] theorem jK {t} {x} {l h m}:opL P L pos dst (.slice t x l h m) σ K wL=Ap (σ.e x) fun v=>YG P L pos dst (.slice t x l h m) v σ K:=aQ
theorem cn {t el} {x} {l h} {n} {tk} {i j} {r} {w1 w2 w3} (he:σ.e x= .own n) (hT:σ.T n=some tk) (hu:ti P t= .sl el) (hz:0<tsz P el) (hr:∀row ∈ tk.rows,row.length=tsz P el) (hi:bndI (l.map σ.e) 0=some i) (hj:bndI (h.map σ.e) tk.rows.length=some j) (hc:cutL tk.rows i j=some r) (hl:look σ.t (pos*16)=none)
  (k:K (St.put ⟨σ.s,(pos*16,some ⟨r,none,0,tk.z⟩)::(n,none)::σ.t,σ.b⟩ dst (.own (pos*16)))):aP P true pos dst (.slice t x l h none) (.own n) σ K w1 w2 w3:=by
 refine .inr ⟨rfl,trivial,?_⟩
 grind [SliK]
@[go_sem ↓] theorem iU {x} {i}:opL P L pos dst (.extract x i) σ K wL=opX P pos dst (.extract x i) σ K:=Cr fun _ _=>rfl
@[go_sem ↓] theorem fI {c} {a b}:opL P L pos dst (.makeFunc c a b) σ K wL=opX P pos dst (.makeFunc c a b) σ K:=Cr fun _ _=>rfl
@[go_sem ↓] theorem o5 {t} {x}:opL P L pos dst (.box t x) σ K wL=opX P pos dst (.box t x) σ K:=Cr fun _ _=>rfl
@[go_sem ↓] theorem ku {t}:opL P L pos dst (.alloc t) σ K wL=opX P pos dst (.alloc t) σ K:=Cr fun _ _=>rfl
@[go_sem ↓] theorem kw {t} {ps}:opL P L pos dst (.build t ps) σ K wL=opX P pos dst (.build t ps) σ K:=Cr fun _ _=>rfl
@[go_sem ↓] theorem cp {t} {n} {ps}:opL P L pos dst (.buildSlice t n ps) σ K wL=opX P pos dst (.buildSlice t n ps) σ K:=Cr fun _ _=>rfl
@[go_sem ↓] theorem ei {t} {l c}:opL P L pos dst (.makeSlice t l c) σ K wL=opX P pos dst (.makeSlice t l c) σ K:=Cr fun _ _=>rfl
@[go_sem ↓] theorem iV {t} {r}:opL P L pos dst (.makeMap t r) σ K wL=opX P pos dst (.makeMap t r) σ K:=Cr fun _ _=>rfl
@[go_sem ↓] theorem jL {t} {x i} {ok}:opL P L pos dst (.lookup t x i ok) σ K wL=opX P pos dst (.lookup t x i ok) σ K:=Cr fun _ _=>rfl
@[go_sem ↓] theorem ej {t} {m i x}:opL P L pos dst (.mapUpdate t m i x) σ K wL=opX P pos dst (.mapUpdate t m i x) σ K:=Cr fun _ _=>rfl
@[go_sem ↓] theorem jM {t} {m i x}:opL P L pos dst (.insert t m i x) σ K wL=opX P pos dst (.insert t m i x) σ K:=Cr fun _ _=>rfl
@[go_sem ↓] theorem kx {t} {a x}:opL P L pos dst (.store t a x) σ K wL=opX P pos dst (.store t a x) σ K:=Cr fun _ _=>rfl
@[go_sem ↓] theorem o6 {as} {ts}:opL P L pos dst (.call ⟨.builtin .len,as,ts⟩) σ K wL=opX P pos dst (.call ⟨.builtin .len,as,ts⟩) σ K:=Cr fun _ _=>rfl
@[go_sem ↓] theorem o7 {as} {ts}:opL P L pos dst (.call ⟨.builtin .max,as,ts⟩) σ K wL=opX P pos dst (.call ⟨.builtin .max,as,ts⟩) σ K:=Cr fun _ _=>rfl
@[go_sem ↓] theorem o8 {as} {ts}:opL P L pos dst (.call ⟨.builtin .min,as,ts⟩) σ K wL=opX P pos dst (.call ⟨.builtin .min,as,ts⟩) σ K:=Cr fun _ _=>rfl
def opE (P:Program) (pos:Nat) (dst:Option Tmp) (op:Op) (σ:St) (K:St→Prop):Prop:=∃r,Ev P pos ⟨dst,op,0, "",#[],none⟩ σ.e σ.T σ.B r∧DA σ r.t∧EI σ r.b∧K (σ.add dst r)
def aR (L:Bool) (p q:Prop) (_:Wrap p) (_:Wrap q):Prop:=(L=true∧p)∨(L=false∧q)
@[go_sem] theorem ky {p q:Prop} {w1} {w2}:aR true p q w1 w2=p:=by simp [aR]
@[go_sem] theorem jN {p q:Prop} {w1} {w2}:aR false p q w1 w2=q:=by simp [aR]
@[go_sem ↓] theorem jO {as} {ts}:opL P L pos dst (.call ⟨.builtin .append,as,ts⟩) σ K wL=aR L (opX P pos dst (.call ⟨.builtin .append,as,ts⟩) σ K) (opE P pos dst (.call ⟨.builtin .append,as,ts⟩) σ K) ⟨⟩ ⟨⟩:=by
 grind [L8,RX,SliK,opL,RY,opX,aR,opE]
end
attribute [go_sem] Bool.not_true Bool.not_false Nat.zero_le
theorem Gs {pos:Nat} {dst:Option Tmp} {op:Op} (h:∀K',aop P pos ⟨dst,op,0, "",#[],none⟩ σ K'=∃r,Ev P pos ⟨dst,op,0, "",#[],none⟩ σ.e σ.T σ.B r∧DA σ r.t∧EI σ r.b∧K' (σ.add dst r)) {p:AV→Prop} (hp:∀r,Ev P pos ⟨dst,op,0, "",#[],none⟩ σ.e σ.T σ.B r=∃v,p v∧r=⟨v,[],[]⟩):
  opX P pos dst op σ K=∃v,p v∧K (σ.put dst v):=by
 unfold opX
 rw [h]
 refine propext ⟨?_,?_⟩
 ·rintro ⟨r,h1,h2,h3,h4⟩
  rw [hp] at h1
  obtain⟨v,h5,rfl⟩:=h1
  exact⟨v,h5,by cases dst <;> exact h4⟩
 ·rintro ⟨v,h5,h4⟩
  exact⟨⟨v,[],[]⟩,by rw [hp]; grind,trivial,trivial,by cases dst <;> exact h4⟩
@[go_sem ↓] theorem qj {pos:Nat} {dst:Option Tmp} {x:Operand}:opX P pos dst (.move x) σ K=Ap (σ.e x) fun v=>K (σ.put dst v):=by
 rw [Gs (p:=fun v=>v=σ.e x) (fun _=>by rfl) (fun r=>by simp [Ev])]
 simp [Ap]
@[go_sem ↓] theorem mW {pos:Nat} {dst:Option Tmp} {x:Operand}:opX P pos dst (.assign x) σ K=Ap (σ.e x) fun v=>K (σ.put dst v):=by
 rw [Gs (p:=fun v=>v=σ.e x) (fun _=>by rfl) (fun r=>by simp [Ev])]
 simp [Ap]
def SG (c a b:AV) (K:AV→Prop):Prop:=∃t,c= .bool t∧K (if t=true then a else b)
@[go_sem] theorem YH {a b} {K}:SG (.bool true) a b K=K a:=by simp [SG]
@[go_sem] theorem WV {a b} {K}:SG (.bool false) a b K=K b:=by simp [SG]
theorem jP {pos:Nat} {dst:Option Tmp} {c a b:Operand}:opX P pos dst (.pick c a b) σ K=SG (σ.e c) (σ.e a) (σ.e b) fun v=>K (σ.put dst v):=by
 rw [Gs (p:=fun v=>∃t,σ.e c= .bool t∧v=if t=true then σ.e a else σ.e b) (fun _=>by rfl) (fun r=>by
  grind [Ev])]
 grind [SG]
def MR (P:Program) (t:TypeId) (a:AV) (σ:St) (K:AV→Prop):Prop:=∃v,JF P σ.T σ.B t a v∧K v
def ldX (P:Program) (t:TypeId) (off:Nat) (vs:List AV) (K:AV→Prop):Prop:=
 MQ (ti P t).isAgg (AP (off+tsz P t≤vs.length) (Ap (.agg (FX vs off (tsz P t))) K)) (AP ((ti P t).sc =true) (optX vs[off]? K))
theorem jQ {pos:Nat} {dst:Option Tmp} {t:TypeId} {a:Operand}:opX P pos dst (.load t a) σ K=MR P t (σ.e a) σ fun v=>K (σ.put dst v):=
 Gs (p:=fun v=>JF P σ.T σ.B t (σ.e a) v) (fun _=>by rfl) (fun r=>by rfl)
@[go_sem] theorem aS {t} {b off} {K}:MR P t (.box b off) σ K=optX (σ.B b) fun vs=>AP (isMp vs=false) (ldX P t off vs K):=by
 grind [MR,JF,optX,ldX,MQ,AP,Ap]
@[go_sem] theorem aT {t} {vs} {off} {K}:MR P t (.rop vs off) σ K=ldX P t off vs K:=by
 grind [MR,JF,optX,ldX,MQ,AP,Ap]
@[go_sem] theorem aU {t} {t' sz i off} {K}:MR P t (.elt t' sz i off) σ K=
  optX (σ.T t') fun tk=>optX tk.rows[i]? fun row=>AP (row.length=sz) (MQ (ti P t).isAgg (AP (off+tsz P t≤sz) (Ap (.agg (Nz t' tk.gen [] sz i row off (tsz P t))) K)) (AP ((ti P t).sc =true) (optX row[off]? fun d=>K (ofT t' tk.gen [] sz i off d)))):=by
 grind [MR,JF,optX,MQ,AP,Ap]
@[go_sem] theorem aV {t} {t' g} {p} {sz i off} {K}:MR P t (.els t' g p sz i off) σ K=
  optX (subR σ.T t' g p) fun rows=>optX rows[i]? fun row=>AP (row.length=sz) (MQ (ti P t).isAgg (AP (off+tsz P t≤sz) (Ap (.agg (Nz t' g p sz i row off (tsz P t))) K)) (AP ((ti P t).sc =true) (optX row[off]? fun d=>K (ofT t' g p sz i off d)))):=by
 grind [MR,JF,optX,MQ,AP,Ap]
def jR (o:Option Tok) (g:Nat) (p:Pth):Option (List (List D)):=match o with
 |some tk=>if tk.gen=g then getP p tk.rows else none
 |none=>none
@[go_sem ↓] theorem o9 {T} {t g} {p}:subR T t g p=jR (T t) g p:=rfl
@[go_sem] theorem kz {rows} {ap} {g} {q} {p}:jR (some ⟨rows,ap,g,q⟩) g p=getP p rows:=by simp [jR]
def cq (o:Option Tok) (g:Nat) (p:Pth):Option (List (List D)):=match o with
 |some tk=>if tk.gen=g then (getP p tk.rows).map tk.er else none
 |none=>none
@[go_sem ↓] theorem pA {T} {t g} {p}:subE T t g p=cq (T t) g p:=rfl
@[go_sem] theorem jS {rows} {ap} {g} {q} {p}:cq (some ⟨rows,ap,g,q⟩) g p=(getP p rows).map (zer q):=by
 simp only [cq,if_true]; rfl
@[go_sem] theorem lA {r}:zer false r=r:=rfl
@[go_sem] theorem mX {r}:zer true r=erR r:=rfl
@[go_sem] theorem rY {rows} {ap} {g} {q}:Tok.rd ⟨rows,ap,g,q⟩=zer q rows:=rfl
@[go_sem] theorem rZ {rows r} {ap} {g} {q}:Tok.er ⟨rows,ap,g,q⟩ r=zer q r:=rfl
@[go_sem] theorem lC {z} {rows} {ap} {g}:okZ z ⟨rows,ap,g,false⟩=true:=rfl
@[go_sem] theorem mY {q} {rows} {ap} {g}:okZ true ⟨rows,ap,g,q⟩=true:=by cases q <;> rfl
@[go_sem] theorem mZ {q} {rows} {ap} {g}:okZ q ⟨rows,ap,g,q⟩=true:=by cases q <;> rfl
@[go_sem] theorem ma {rows}:getP [] rows=some rows:=rfl
def jT (d:D) (K:List (List D)→Prop):Prop:=match d with| .sl r=>K r|_=>False
@[go_sem] theorem pB {r} {K}:jT (.sl r) K=K r:=rfl
@[go_sem ↓] theorem lD {sz i j} {p} {rows} {K}:optX (getP ((sz,i,j)::p) rows) K=optX rows[i]? fun row=>AP (row.length=sz) (optX row[j]? fun d=>jT d fun r=>optX (getP p r) K):=by
 simp only [getP,optX,AP]
 cases rows[i]? with
 |none=>simp
 | some row=>
  by_cases h:row.length=sz
  ·simp only [h,if_true,true_and,Option.some.injEq,exists_eq_left']
   cases row[j]? with
   |none=>simp
   |some d=>cases d <;> simp [jT]
  grind
@[go_sem] theorem jU {t g} {p} {sz i} {d} {ds} {off n}:Nz t g p sz i (d::ds) off n=Vj t g p sz i off (((d::ds).drop off).take n):=rfl
attribute [go_sem ↓] ldX
attribute [go_sem] FX ofD TA ofS ofT Vj
end
attribute [go_sem ↓] YD WU Ut aO YH WV aS aT aU aV
end Go.Proofs.YteckcjgpnegkjaaGreat.Ab
