/-
  The abstract walk as a set of rules for 'simp only [go_sem]': heads that wait, their congruences, one rule an operation.
-/
import Derived.Test.YtaedfiifhjlmlaaGreatAbS
namespace Go.Proofs.YtaedfiifhjlmlaaGreat.Ab
set_option linter.unusedVariables false
open Go.RowKit
section
variable {P:Program}
theorem Dy {z}:∀ {vs} {σ} {K K'},(∀ds σ,K ds σ→K' ds σ)→Bl z vs σ K→Bl z vs σ K'
 | [],σ,K,K',hk,h=>by rw [Bl] at h ⊢; exact hk _ _ h
 | .int k n::vs,σ,K,K',hk,h=>by rw [Bl] at h ⊢; exact Dy (fun ds σ=>hk _ σ) h
 | .bool b::vs,σ,K,K',hk,h=>by rw [Bl] at h ⊢; exact Dy (fun ds σ=>hk _ σ) h
 | .str b::vs,σ,K,K',hk,h=>by rw [Bl] at h ⊢; exact Dy (fun ds σ=>hk _ σ) h
 | .nils ::vs,σ,K,K',hk,h=>by rw [Bl] at h ⊢; exact Dy (fun ds σ=>hk _ σ) h
 | .nilp ::vs,σ,K,K',hk,h=>by rw [Bl] at h ⊢; exact Dy (fun ds σ=>hk _ σ) h
 | .ro _::vs,σ,K,K',hk,h=>by rw [Bl] at h ⊢; exact⟨h.1,Dy (fun ds σ=>hk _ σ) h.2⟩
 | .rop _ _::vs,σ,K,K',hk,h=>by rw [Bl] at h ⊢; obtain⟨h1,d,h2,h3⟩:=h; exact⟨h1,d,h2,Dy (fun ds σ=>hk _ σ) h3⟩
 | .bsl _ _ _::vs,σ,K,K',hk,h=>by
  rw [Bl] at h ⊢
  split at h
  ·rename_i h0
   rw [if_pos h0]
   exact Dy (fun ds σ=>hk _ σ) h
  ·rename_i h0
   rw [if_neg h0]
   obtain⟨h1,h2,vs',h3,ds,h4,h5,h6⟩:=h
   exact⟨h1,h2,vs',h3,ds,h4,h5,Dy (fun ds σ=>hk _ σ) h6⟩
 | .own t::vs,σ,K,K',hk,h=>by rw [Bl] at h ⊢; obtain⟨tk,h1,h2,h3⟩:=h; exact⟨tk,h1,h2,Dy (fun ds σ=>hk _ σ) h3⟩
 | .sub _ _ _::vs,σ,K,K',hk,h=>by simp [Bl] at h
 | .els _ _ _ _ _ _::vs,σ,K,K',hk,h=>by simp [Bl] at h
 | .any ::vs,σ,K,K',hk,h=>by simp [Bl] at h
 | .box _ _::vs,σ,K,K',hk,h=>by simp [Bl] at h
 | .elt _ _ _ _::vs,σ,K,K',hk,h=>by simp [Bl] at h
 | .par _ _ _ _::vs,σ,K,K',hk,h=>by simp [Bl] at h
 | .agg _::vs,σ,K,K',hk,h=>by simp [Bl] at h
 | .tup _::vs,σ,K,K',hk,h=>by simp [Bl] at h
 | .fn _ _::vs,σ,K,K',hk,h=>by simp [Bl] at h
 | .mpr _::vs,σ,K,K',hk,h=>by simp [Bl] at h
 | .mpc _ _::vs,σ,K,K',hk,h=>by simp [Bl] at h
theorem VE {t} {a x} {σ} {K K'} (hk:∀σ,K σ→K' σ) (h:MF P t a x σ K):MF P t a x σ K':=by
 unfold MF at h ⊢
 split at h
 ·obtain⟨h1,h2,h3,h4⟩:=h
  refine⟨h1,h2,h3,?_⟩
  split at h4
  ·obtain⟨vs,h5,h6,h7,h8⟩:=h4; exact⟨vs,h5,h6,h7,hk _ h8⟩
  ·obtain⟨tk0,h5,h4⟩:=h4
   exact⟨tk0,h5,Dy (fun ds σ ⟨tk,row,k1,k2,k3,k4,k5⟩=>⟨tk,row,k1,k2,k3,k4,hk _ k5⟩) h4⟩
  ·exact Dy (fun ds σ ⟨rows,k1,row,k2,k3,tk,k4,k5⟩=>⟨rows,k1,row,k2,k3,tk,k4,hk _ k5⟩) h4
  ·exact h4
 ·exact h
theorem XK {z} {e} {sz} {x} {σ} {K K'} (hk:∀r σ,K r σ→K' r σ) (h:PY z e sz x σ K):PY z e sz x σ K':=by
 unfold PY at h ⊢
 split at h
 ·exact hk _ _ h
 ·split at h
  ·rename_i h0
   rw [if_pos h0]
   exact hk _ _ h
  ·rename_i h0
   rw [if_neg h0]
   obtain⟨h0,h1,h2,vs',h3,ds,h4,h5,h6⟩:=h
   exact⟨h0,h1,h2,vs',h3,ds,h4,h5,hk _ _ h6⟩
 ·obtain⟨tk,h1,h2,h3⟩:=h; exact⟨tk,h1,h2,hk _ _ h3⟩
 ·exact h
theorem XL {z} {sz} {x} {σ} {K K'} (hk:∀r σ,K r σ→K' r σ) (h:Mq z sz x σ K):Mq z sz x σ K':=by
 unfold Mq at h ⊢
 split at h
 ·exact hk _ _ h
 ·obtain⟨vs,h1,h2,h3,h4,h5⟩:=h; exact⟨vs,h1,h2,h3,h4,Dy (fun ds σ=>hk _ σ) h5⟩
 ·split at h
  ·exact⟨h.1,hk _ _ h.2⟩
  ·exact⟨h.1,hk _ _ h.2⟩
 ·obtain⟨tk,h1,h2,h3⟩:=h; exact⟨tk,h1,h2,hk _ _ h3⟩
 ·exact h
theorem XM {pos} {t} {x y} {σ} {K K'} (hk:∀v σ,K v σ→K' v σ) (h:Up P pos t x y σ K):Up P pos t x y σ K':=by
 unfold Up at h ⊢
 split at h
 ·obtain⟨h1,h2,z,h⟩:=h
  exact⟨h1,h2,z,XK (fun r σ h=>XL (fun r2 σ2 h=>⟨h.1,h.2.1,h.2.2.1,hk _ _ h.2.2.2⟩) h) h⟩
 ·exact h
theorem XN {t} {m i x} {σ} {K K'} (hk:∀σ,K σ→K' σ) (h:TC P t m i x σ K):TC P t m i x σ K':=by
 unfold TC at h ⊢
 split at h
 ·obtain⟨q,rows,h1,h2,h3,k,h4,h5,d,h6,h7⟩:=h; exact⟨q,rows,h1,h2,h3,k,h4,h5,d,h6,hk _ h7⟩
 ·exact h
theorem Ym {pos} {o} {σ} {K K'} (hk:∀σ,K σ→K' σ) (h:aop P pos o σ K):aop P pos o σ K':=by
 unfold aop at h ⊢
 split at h
 ·exact⟨h.1,h.2.1,fun b hb=>hk _ (h.2.2 b hb)⟩
 ·exact⟨h.1,h.2.1,fun b hb=>hk _ (h.2.2 b hb)⟩
 ·exact VE (fun σ=>hk _) h
 ·exact XN (fun σ=>hk _) h
 ·split at h
  ·exact⟨h.1,XM (fun v σ=>hk _) h.2⟩
  ·exact h
 ·obtain⟨r,h1,h2,h3,h4⟩:=h; exact⟨r,h1,h2,h3,hk _ h4⟩
theorem H6 {K K'} (hk:∀σ,K σ→K' σ):∀ {cv} {σ},Ct cv σ K→Ct cv σ K'
 | [],σ,h=>by rw [Ct] at h ⊢; exact hk _ h
 | (n,a,z)::cv,σ,h=>by
  cases a with
  |sub t g p=>
   rw [Ct] at h ⊢
   obtain⟨h1,h2,h3,tk,rows,h4,h5,h6,h7,h8⟩:=h
   exact⟨h1,h2,h3,tk,rows,h4,h5,h6,h7,H6 hk h8⟩
  |nils=>rw [Ct] at h ⊢; exact⟨h.1,H6 hk h.2⟩
  |bsl b m sz=>rw [Ct] at h ⊢; exact⟨h.1,h.2.1,H6 hk h.2.2⟩
  |_=>simp [Ct] at h
theorem Jt:∀ {cv} {σ} {K K'},(∀σ,K σ→K' σ)→CA cv σ K→CA cv σ K'
 | [],σ,K,K',hk,h=>by rw [CA] at h ⊢; exact hk _ h
 | (n,a,z)::cv,σ,K,K',hk,h=>by
  cases a with
  | sub t g p=>
   rw [CA] at h ⊢
   refine Jt (fun σ h=>?_) h
   cases hn:σ.T n with
   |none=>simp only [hn] at h ⊢; exact hk _ h
   |some tn=>
    simp only [hn] at h ⊢
    obtain⟨tk,h1,h2,h3,h4⟩:=h
    exact⟨tk,h1,h2,h3,hk _ h4⟩
  |_=>
   rw [CA] at h ⊢
   ·exact Jt (fun σ h=>hk _ h) h
   all_goals (intros; simp_all)
theorem VF {f} {args} {σ} {K K'} (hk:∀v σ,K v σ→K' v σ) (h:RU P f args σ K):RU P f args σ K':=by
 obtain⟨y,as,pt,pb,r,qt,qb,h1,h2⟩:=h
 exact⟨y,as,pt,pb,r,qt,qb,h1,H6 (fun σ h=>⟨h.1,h.2.1,h.2.2.1,h.2.2.2.1,h.2.2.2.2.1,h.2.2.2.2.2.1,h.2.2.2.2.2.2.1,h.2.2.2.2.2.2.2.1,Jt (fun σ h=>hk _ _ h) h.2.2.2.2.2.2.2.2⟩) h2⟩
theorem Tq {K K'} (hk:∀a σ,K a σ→K' a σ):∀ {bs} {args} {σ},FzK bs args σ K→FzK bs args σ K'
 | [],args,σ,h=>hk _ _ h
 |b::bs,args,σ,h=>by
  obtain⟨vs,h1,h2,h3⟩:=h
  exact⟨vs,h1,h2,Tq hk h3⟩
theorem VG {f} {args} {σ} {K K'} (hk:∀v σ,K v σ→K' v σ) (h:V7 P f args σ K):V7 P f args σ K':=by
 obtain⟨bs,h⟩:=h
 exact⟨bs,Tq (fun _ _ h=>VF hk h) h⟩
theorem Rw {L} {pos} {o} {σ} {K K'} (hk:∀σ,K σ→K' σ) (h:Oz P L pos o σ K):Oz P L pos o σ K':=by
 rcases h with ⟨hA,h⟩|⟨hL,h⟩|⟨hL,hA,r,h1,h2,h3,h4⟩
 ·exact .inl ⟨hA,Ym hk h⟩
 ·refine .inr (.inl ⟨hL,?_⟩)
  rcases h with h|h
  ·refine .inl ?_
   unfold Ka at h ⊢
   split at h
   ·split at h
    ·exact⟨h.1,VG (fun v σ=>hk _) h.2⟩
    ·exact h
   ·exact h
  ·refine .inr ?_
   unfold SliK at h ⊢
   split at h
   ·split at h
    ·obtain⟨tk,h1,el,h2,h3,i,h4,j,h5,r,h6,h7,h8⟩:=h
     exact⟨tk,h1,el,h2,h3,i,h4,j,h5,r,h6,h7,hk _ h8⟩
    ·exact h
   ·exact h
 ·exact .inr (.inr ⟨hL,hA,r,h1,h2,h3,hk _ h4⟩)
theorem Ge {ops} {base cut} {K K'} (hk:∀σ,K σ→K' σ):∀ {l} {i} {σ},aops P ops base cut i l σ K→aops P ops base cut i l σ K'
 | [],i,σ,h=>by rw [aops] at h ⊢; exact hk _ h
 | o::rest,i,σ,h=>by
  rw [aops] at h ⊢
  split at h
  ·exact Rw (fun σ h=>Ge hk h) h
  ·obtain⟨s,h1,h⟩:=h
   refine⟨s,h1,?_⟩
   rcases h with ⟨b,h2,h3,h4⟩|⟨h2,h3⟩
   ·exact .inl ⟨b,h2,fun hb=>Rw (fun σ h=>Ge hk h) (h3 hb),fun hb=>Ge hk (h4 hb)⟩
   ·exact .inr ⟨h2,Ge hk h3⟩
theorem XO {p} {K K'} (hk:∀σ,K σ→K' σ) {σ} (h:seqW p K σ):seqW p K' σ:=by
 unfold seqW at h ⊢
 split at h
 ·exact hk _ h
 ·obtain⟨σ1,h1,h2⟩:=h; exact⟨σ1,h1,hk _ h2⟩
theorem M6 {P} {ops} {base} {ts}:∀ (tr:Tr) {σ} {K K'},(∀σ,K σ→K' σ)→aTr P ops base ts tr σ K→aTr P ops base ts tr σ K'
 | .fin,σ,K,K',hk,h=>hk σ h
 | .stop,σ,K,K',hk,h=>trivial
 | .fz t,σ,K,K',hk,h=>by
  simp only [aTr] at h ⊢
  obtain⟨σ1,hn,h⟩:=h
  exact⟨σ1,hn,M6 t hk h⟩
 | .br i t more,σ,K,K',hk,h=>by
  simp only [aTr] at h ⊢
  refine⟨?_,M6 more hk h.2⟩
  have h1:=h.1
  split at h1
  ·exact Ge (fun σ' h=>M6 t hk h) h1
  ·exact h1.elim
theorem QH {P} {ops} {base} {r} {i} {o} {acc} {σ} {K K'} (hk:∀acc σ,K acc σ→K' acc σ) (h:Kc P ops base r i o acc σ K):Kc P ops base r i o acc σ K':=by
 unfold Kc at h ⊢
 cases r with
 |no=>exact Ge (hk acc) h
 |al=>
  dsimp only at h ⊢
  split at h
  ·exact⟨h.1,hk _ _ h.2⟩
  ·exact h.elim
 | st k=>
  dsimp only at h ⊢
  split at h
  ·split at h
   ·exact⟨h.1,h.2.1,hk _ _ h.2.2⟩
   ·exact h.elim
  ·exact h.elim
theorem Ju {P} {ops} {base} {V}:∀ (l:List Oper) {E} {i} {ts} {acc} {σ} {K K'},(∀ts acc σ,K ts acc σ→K' ts acc σ)→Ek P ops base V E i l ts acc σ K→Ek P ops base V E i l ts acc σ K'
 | [],E,i,ts,acc,σ,K,K',hk,h=>by simp only [Ek] at h ⊢; exact hk _ _ _ h
 |o::l,[],i,ts,acc,σ,K,K',hk,h=>by simp only [Ek] at h ⊢; exact QH (fun acc σ' h=>Ju l hk h) h
 |o::l,true::E,i,ts,acc,σ,K,K',hk,h=>by simp only [Ek] at h ⊢; exact Ju l hk h
 |o::l,false::E,i,ts,acc,σ,K,K',hk,h=>by simp only [Ek] at h ⊢; exact QH (fun acc σ' h=>Ju l hk h) h
theorem XP {P} {ops} {base} {draw} {σ} {K K'} (hk:∀σ,K σ→K' σ) (h:Wp P ops base draw σ K):Wp P ops base draw σ K':=by
 unfold Wp at h ⊢
 cases draw with
 |false=>exact Ge hk h
 |true=>
  rcases h with ⟨E,V,tr,hE,h⟩|⟨F,ds,h1,h2,h3,h4⟩
  ·exact .inl ⟨E,V,tr,hE,Ju _ (fun ts acc σ h=>⟨h.1,M6 tr hk h.2⟩) h⟩
  ·exact .inr ⟨F,ds,h1,h2,h3,hk _ h4⟩
theorem H7:∀ {c} {Q Q'} {σ},(∀q σ,Q q σ→Q' q σ)→awp P c Q σ→awp P c Q' σ
 | .skip,Q,Q',σ,hq,h=>by rw [awp] at h ⊢; exact hq _ _ h
 | .region id ops draw,Q,Q',σ,hq,h=>by rw [awp] at h ⊢; exact XP (hq _) h
 | .seq a b,Q,Q',σ,hq,h=>by
  rw [awp] at h ⊢
  refine H7 (fun q σ h=>?_) h
  cases q with
  |normal=>
   have h':seqW (Hz a) (awp P b Q) σ:=h
   exact XO (K:=awp P b Q) (K':=awp P b Q') (fun σ h=>H7 hq h) h'
  |exit id=>exact hq _ _ h
  |ret=>exact hq _ _ h
 | .cond c a b,Q,Q',σ,hq,h=>by
  rw [awp] at h ⊢
  obtain⟨v,h1,h2,h3⟩:=h
  exact⟨v,h1,fun e=>H7 hq (h2 e),fun e=>H7 hq (h3 e)⟩
 | .block id b,Q,Q',σ,hq,h=>by
  rw [awp] at h ⊢
  refine H7 (fun q σ h=>?_) h
  cases q with
  |normal=>exact hq _ _ h
  |exit i=>
   simp only [AE.inBlock] at h ⊢
   split at h
   ·rw [if_pos ‹_›]; exact hq _ _ h
   ·rw [if_neg ‹_›]; exact hq _ _ h
  |ret=>exact hq _ _ h
 | .loop b,Q,Q',σ,hq,h=>by
  rw [awp] at h ⊢
  intro L hL
  refine h L fun σ hσ=>hL σ (H7 (fun q σ h=>?_) hσ)
  cases q with
  |normal=>exact h
  |exit id=>exact hq _ _ h
  |ret=>exact hq _ _ h
 | .exit id,Q,Q',σ,hq,h=>by rw [awp] at h ⊢; exact hq _ _ h
 | .ret,Q,Q',σ,hq,h=>by rw [awp] at h ⊢; exact hq _ _ h
 | .rangeFunc _ _ _ _,Q,Q',σ,hq,h=>by simp [awp] at h
 | .goto _,Q,Q',σ,hq,h=>by simp [awp] at h
 | .label _,Q,Q',σ,hq,h=>by simp [awp] at h
theorem Ts {b} {Q} {σ} (h:awp P b (AE.then (fun σ'=>∃σ1,Wk σ' σ1∧awp P (.loop b) Q σ1) Q) σ):awp P (.loop b) Q σ:=by
 rw [awp]
 intro L hL
 refine⟨σ,.nil σ,hL σ (H7 (fun q σ h=>?_) h)⟩
 cases q with
 |normal=>
  obtain⟨σ1,h1,h2⟩:=h
  rw [awp] at h2
  obtain⟨σ0,h3,h4⟩:=h2 L hL
  exact⟨σ0,h1.trans h3,h4⟩
 |exit id=>exact h
 |ret=>exact h
end
def A9 {α:Type} (v:α) (K:α→Prop):Prop:=K v
def optX {α:Type} (o:Option α) (K:α→Prop):Prop:=∃x,o=some x∧K x
def Aa (p q:Prop):Prop:=p∧q
def N9 (b:Bool) (p q:Prop):Prop:=(b=true∧p)∨(b=false∧q)
def QI (b:Bool) (p q:Prop):Prop:=(b=true→p)∧(b=false→q)
structure Wrap {α:Sort _} (a:α):Type where
def eX {α:Type} (v:α) (K:α→Prop) (_:Wrap K):Prop:=K v
def Zt {α:Type} (o:Option α) (K:α→Prop) (_:Wrap K):Prop:=∃x,o=some x∧K x
def XQ (p q:Prop) (_:Wrap q):Prop:=p∧q
def QJ (b:Bool) (p q:Prop) (_:Wrap p) (_:Wrap q):Prop:=(b=true→p)∧(b=false→q)
def Yn (b:Bool) (p q:Prop) (_:Wrap p) (_:Wrap q):Prop:=N9 b p q
@[go_sem ↓] theorem gb {α:Type} {v:α} {K:α→Prop}:A9 v K=eX v K ⟨⟩:=rfl
@[go_sem ↓] theorem gc {α:Type} {o:Option α} {K:α→Prop}:optX o K=Zt o K ⟨⟩:=rfl
@[go_sem ↓] theorem gd {p q:Prop}:Aa p q=XQ p q ⟨⟩:=rfl
@[go_sem ↓] theorem eY {b} {p q:Prop}:QI b p q=QJ b p q ⟨⟩ ⟨⟩:=rfl
@[go_sem ↓] theorem gg {b} {p q:Prop}:N9 b p q=Yn b p q ⟨⟩ ⟨⟩:=rfl
@[go_sem] theorem gh {α:Type} {v:α} {K:α→Prop} {w:Wrap K}:eX v K w=K v:=propext Iff.rfl
@[go_sem] theorem dY {α:Type} {x:α} {K:α→Prop} {w:Wrap K}:Zt (some x) K w=K x:=by simp [Zt]
@[go_sem] theorem dZ {q:Prop} {w}:XQ True q w=q:=by simp [XQ]
@[go_sem] theorem i4 {p:Prop} {w}:XQ p True w=p:=by simp [XQ]
@[go_sem] theorem cH {p q:Prop} {w} {w'}:QJ true p q w w'=p:=by simp [QJ]
@[go_sem] theorem bV {p q:Prop} {w} {w'}:QJ false p q w w'=q:=by simp [QJ]
@[go_sem] theorem da {p q:Prop} {w} {w'}:Yn true p q w w'=p:=by simp [N9,Yn]
@[go_sem] theorem cI {p q:Prop} {w} {w'}:Yn false p q w w'=q:=by simp [N9,Yn]
theorem Hn {α:Type} {x:α} {K:α→Prop}:optX (some x) K=K x:=by simp [optX]
theorem Rx {α:Type} {K:α→Prop}:optX none K=False:=by simp [optX]
theorem Cd {p q:Prop} {w} (hp:p) (hq:q):XQ p q w:=⟨hp,hq⟩
theorem Ac {b} {p q:Prop} {w} {w'} (hp:b=true→p) (hq:b=false→q):QJ b p q w w':=⟨hp,hq⟩
theorem Bb {α:Type} {o:Option α} {x:α} {K:α→Prop} {w:Wrap K} (h:o=some x) (hk:K x):Zt o K w:=⟨x,h,hk⟩
@[go_sem] theorem db:isMp [] =false:=rfl
@[go_sem] theorem dc {a}:isMp [a] =a.mp?:=rfl
@[go_sem] theorem dd {a b} {l}:isMp (a::b::l)=false:=rfl
@[go_sem] theorem de:Nr [] =true:=rfl
@[go_sem] theorem cJ {a} {l}:Nr (a::l)=(!a.mp?&&Nr l):=rfl
attribute [go_sem] AV.mp?
@[go_sem] theorem cK {α:Type} {j:Nat} {x:α} {l:List (Nat × α)} {i:Nat}:look ((j,x)::l) i=if i=j then some x else look l i:=rfl
@[go_sem] theorem eZ {α:Type} {i}:look ([] :List (Nat × α)) i=none:=rfl
@[go_sem] theorem St.T_mk {s t b} {i}:St.T ⟨s,t,b⟩ i=(look t i).join :=rfl
@[go_sem] theorem St.B_mk {s t b} {i}:St.B ⟨s,t,b⟩ i=(look b i).join :=rfl
@[go_sem] theorem St.g_mk {s t b} {i}:St.g ⟨s,t,b⟩ i=(look s i).getD .any :=rfl
@[go_sem] theorem St.t_mk {s t b}:St.t ⟨s,t,b⟩=t:=rfl
@[go_sem] theorem St.b_mk {s t b}:St.b ⟨s,t,b⟩=b:=rfl
@[go_sem] theorem St.s_mk {s t b}:St.s ⟨s,t,b⟩=s:=rfl
@[go_sem] theorem St.e_tmp {σ:St} {t:Tmp}:σ.e (.tmp t)=σ.g t:=rfl
@[go_sem] theorem St.e_func {σ:St} {f:FuncId}:σ.e (.func f)= .fn f [] :=rfl
@[go_sem] theorem St.e_const {σ:St} {v:Value}:σ.e (.const v)=BB v:=rfl
@[go_sem] theorem gi {k} {n}:BB (.int k n)= .int k n:=rfl
@[go_sem] theorem eb {b}:BB (.bool b)= .bool b:=rfl
@[go_sem] theorem gj {s}:BB (.string s)= .str s:=rfl
@[go_sem] theorem ec:BB (.slice none 0 0)= .nils :=rfl
@[go_sem] theorem ed:BB (.pointer none)= .nilp :=rfl
@[go_sem] theorem ee:Gr [] =[] :=rfl
@[go_sem] theorem dg {v} {vs}:Gr (v::vs)=BB v::Gr vs:=rfl
@[go_sem] theorem ef {s t b} {d} {v}:St.put ⟨s,t,b⟩ (some d) v=⟨(d,v)::s,t,b⟩:=rfl
@[go_sem] theorem eh {σ} {v}:St.put σ none v=σ:=rfl
@[go_sem] theorem ej {s t b} {i}:St.killT ⟨s,t,b⟩ i=⟨s,(i,none)::t,b⟩:=rfl
@[go_sem] theorem gk {s t b} {i} {tk}:St.setT ⟨s,t,b⟩ i tk=⟨s,(i,some tk)::t,b⟩:=rfl
@[go_sem] theorem gm {s t b} {i} {vs}:St.setB ⟨s,t,b⟩ i vs=⟨s,t,(i,some vs)::b⟩:=rfl
attribute [go_sem] Option.join_some Option.join_none Option.getD_some Option.getD_none reduceIte eq_self and_self true_and and_true
attribute [go_sem] List.getElem?_cons_zero List.getElem?_cons_succ List.length_cons List.length_nil List.take_succ_cons List.take_zero List.take_nil List.drop_succ_cons List.drop_zero List.map_cons List.map_nil List.set_cons_zero List.set_cons_succ List.cons_append List.nil_append Option.some.injEq reduceCtorEq TI.isAgg TI.sc AV.one splice List.all_cons List.all_nil Bool.and_self Bool.true_and Bool.and_true
def Kt (P:Program) (ops:Array Oper) (base cut i:Nat) (l:List Oper) (σ:St) (K:St→Prop) (_:Wrap ops) (_:Wrap l) (_:Wrap K) (_:Wrap cut):Prop:=aops P ops base cut i l σ K
@[go_sem ↓] theorem go {P} {ops} {base cut i} {l} {K} {σ}:aops P ops base cut i l σ K=Kt P ops base cut i l σ K ⟨⟩ ⟨⟩ ⟨⟩ ⟨⟩:=rfl
section
variable {P:Program} {σ:St} {K:St→Prop} {Q:AE→St→Prop}
@[go_sem ↓] theorem i5:awp P .skip Q σ=Q .normal σ:=by rw [awp]
@[go_sem ↓] theorem ek {id} {l}:awp P (.region id l.toArray false) Q σ=aops P l.toArray (id*1000+1000) 0 0 l σ (Q .normal):=by rw [awp]; rfl
def Yo (P:Program) (id:Nat) (l:List Oper) (Q:AE→St→Prop) (σ:St) (_:Wrap l) (_:Wrap Q) (_:Wrap σ):Prop:=Wp P l.toArray (id*1000+1000) true σ (Q .normal)
@[go_sem ↓] theorem i6 {id} {l}:awp P (.region id l.toArray true) Q σ=Yo P id l Q σ ⟨⟩ ⟨⟩ ⟨⟩:=by rw [awp]; rfl
theorem AX {id} {l} {w1} {w2} {w3} (E:List Bool) (tr:Tr) (h:LN E [] tr l.toArray=true) (k:Ek P l.toArray (id*1000+1000) [] E 0 l [] [] σ fun ts acc σ'=>Wn acc σ' fun σ'=>aTr P l.toArray (id*1000+1000) ts tr σ' (Q .normal)):Yo P id l Q σ w1 w2 w3:=.inl ⟨E,[],tr,h,k⟩
def GZ (s:List (Nat × AV)) (t:Nat) (v:AV):Prop:=v= .any ∨look s t=some v
@[go_sem] theorem gp {s}:leS s [] =True:=rfl
@[go_sem] theorem em {s t v r}:leS s ((t,v)::r)=(GZ s t v∧leS s r):=rfl
@[go_sem] theorem gq {s:List (Nat × AV)} {t:Nat} {b:Bool} {v:AV}:GZ s t (if b=true then v else .any)=(b=true→GZ s t v):=propext (by cases b <;> simp [GZ])
def leO1 {α:Type} (s:List (Nat × Option α)) (t:Nat) (v:Option α):Prop:=v=none∨look s t=some v
@[go_sem] theorem gr {α:Type} {s:List (Nat × Option α)}:leO s [] =True:=rfl
@[go_sem] theorem en {α:Type} {s:List (Nat × Option α)} {t v r}:leO s ((t,v)::r)=(leO1 s t v∧leO s r):=rfl
@[go_sem] theorem cL {α:Type} {s:List (Nat × α)}:HB s [] =True:=rfl
@[go_sem] theorem bW {α:Type} {s:List (Nat × α)} {t v r}:HB s ((t,v)::r)=((look s t).isSome =true∧HB s r):=rfl
@[go_sem] theorem St.Le_mk {s t b s' t' b'}:St.Le ⟨s,t,b⟩ ⟨s',t',b'⟩=(leS s s'∧(leO t t'∧HB t' t)∧leO b b'∧HB b' b):=rfl
@[go_sem] theorem Db {S}:Wo S [] =True:=rfl
@[go_sem] theorem Cn {S j r}:Wo S (j::r)=(S j=true∧Wo S r):=rfl
def optK {α:Type} (b:Bool) (p:Nat × α) (r:List (Nat × α)):List (Nat × α):=if b=true then p::r else r
@[go_sem] theorem i7 {α:Type} {p:Nat × α} {r}:optK true p r=p::r:=rfl
@[go_sem] theorem i8 {α:Type} {p:Nat × α} {r}:optK false p r=r:=rfl
@[go_sem] theorem dh {α:Type} {b:Bool} {t:Nat} {v:α} {r} {x:Nat}:look (optK b (t,v) r) x=if x=t then (if b=true then some v else look r x) else look r x:=by
 cases b
 ·simp [optK]
 ·simp [optK,AJ]
@[go_sem] theorem eo {α:Type} {s:List (Nat × Option α)} {b:Bool} {t:Nat} {v:Option α} {r}:leO s (optK b (t,v) r)=((b=true→leO1 s t v)∧leO s r):=by
 cases b <;> simp [optK,leO,leO1]
@[go_sem] theorem bY {α:Type} {s:List (Nat × α)} {b:Bool} {t:Nat} {v:α} {r}:HB s (optK b (t,v) r)=((b=true→(look s t).isSome =true)∧HB s r):=by
 cases b <;> simp [optK,HB]
theorem Et {ops:Array Oper} {base:Nat} {F:(Nat→Bool)→St} {i:Nat} {o:Oper} {os:List Oper} {d:List Nat} {ds:List (List Nat)} (h:(d.all fun j=>o.after.any fun e=>Region.binds .any e&&e.on == j)=true) (k:∀S:Nat→Bool,S i=false→Wo S d→aops P ops base 0 i [o] (F S) fun σ'=>St.Le σ' (F fun j=>if j=i then true else S j))
  (r:Jj P ops base F (i+1) os ds):Jj P ops base F i (o::os) (d::ds):=⟨⟨h,k⟩,r⟩
theorem ep {ops:Array Oper} {base:Nat} {F:(Nat→Bool)→St} {i:Nat} {ds:List (List Nat)}:Jj P ops base F i [] ds:=trivial
theorem cM {id} {l} {w1} {w2} {w3} (F:(Nat→Bool)→St) (ds:List (List Nat)) (h:Zi l=true) (h1:St.Le σ (F fun j=>decide (l.length≤j))) (h2:Jj P l.toArray (id*1000+1000) F 0 l ds) (k:Q .normal (F fun _=>true)):Yo P id l Q σ w1 w2 w3:=.inr ⟨F,ds,h,h1,h2,k⟩
def cN (acc:List (Nat × List AV)) (σ:St) (K:St→Prop) (_:Wrap σ) (_:Wrap K):Prop:=Wn acc σ K
@[go_sem ↓] theorem gu {acc} {σ} {K}:Wn acc σ K=cN acc σ K ⟨⟩ ⟨⟩:=rfl
@[go_sem] theorem eq {σ} {K} {w1 w2}:cN [] σ K w1 w2=K σ:=by
 unfold cN Wn
 simp [Dw,addB]
attribute [go_sem] addB
def It (P:Program) (ops:Array Oper) (base:Nat) (V:List (Nat × Nat)) (E:List Bool) (i:Nat) (l:List Oper) (ts:List (Nat × Oper)) (acc:List (Nat × List AV)) (σ:St) (K:List (Nat × Oper)→List (Nat × List AV)→St→Prop) (_:Wrap ops) (_:Wrap l) (_:Wrap ts) (_:Wrap K) (_:Wrap V) (_:Wrap acc):Prop:=Ek P ops base V E i l ts acc σ K
def VH (P:Program) (ops:Array Oper) (base:Nat) (r:VR) (i:Nat) (o:Oper) (acc:List (Nat × List AV)) (σ:St) (K:List (Nat × List AV)→St→Prop):Prop:=Kc P ops base r i o acc σ K
def SS (P:Program) (ops:Array Oper) (base:Nat) (r:VR) (i:Nat) (o:Oper) (acc:List (Nat × List AV)) (σ:St) (K:List (Nat × List AV)→St→Prop) (_:Wrap ops) (_:Wrap o) (_:Wrap acc) (_:Wrap σ) (_:Wrap K):Prop:=Kc P ops base r i o acc σ K
section
variable {ops:Array Oper} {base i:Nat} {V:List (Nat × Nat)} {E:List Bool} {ts:List (Nat × Oper)} {acc:List (Nat × List AV)} {H:List (Nat × Oper)→List (Nat × List AV)→St→Prop} {o:Oper} {l:List Oper} {w1:Wrap ops} {w3:Wrap ts} {w4:Wrap H} {w5:Wrap V} {w6:Wrap acc}
@[go_sem ↓] theorem eu:Ek P ops base V E i l ts acc σ H=It P ops base V E i l ts acc σ H ⟨⟩ ⟨⟩ ⟨⟩ ⟨⟩ ⟨⟩ ⟨⟩:=rfl
@[go_sem] theorem jq {w2}:It P ops base V E i [] ts acc σ H w1 w2 w3 w4 w5 w6=H ts acc σ:=by unfold It; cases E with|nil=>rfl|cons b E=>cases b <;> rfl
@[go_sem] theorem i9 {w2}:It P ops base V (true::E) i (o::l) ts acc σ H w1 w2 w3 w4 w5 w6=Ek P ops base V E (i+1) l ((i,o)::ts) acc σ H:=rfl
@[go_sem] theorem gv {w2}:It P ops base V (false::E) i (o::l) ts acc σ H w1 w2 w3 w4 w5 w6=VH P ops base (B8 V i) i o acc σ fun acc' σ'=>Ek P ops base V E (i+1) l ts acc' σ' H:=rfl
@[go_sem] theorem jr {w2}:It P ops base V [] i (o::l) ts acc σ H w1 w2 w3 w4 w5 w6=VH P ops base (B8 V i) i o acc σ fun acc' σ'=>Ek P ops base V [] (i+1) l ts acc' σ' H:=rfl
@[go_sem] theorem cO {x} {xs b} {w2}:It P ops base V E i (List.append (x::xs) b) ts acc σ H w1 w2 w3 w4 w5 w6=It P ops base V E i (x::List.append xs b) ts acc σ H w1 ⟨⟩ w3 w4 w5 w6:=rfl
@[go_sem] theorem di {b} {w2}:It P ops base V E i (List.append [] b) ts acc σ H w1 w2 w3 w4 w5 w6=It P ops base V E i b ts acc σ H w1 ⟨⟩ w3 w4 w5 w6:=rfl
@[go_sem ↓] theorem e7 {r} {K}:VH P ops base r i o acc σ K=SS P ops base r i o acc σ K ⟨⟩ ⟨⟩ ⟨⟩ ⟨⟩ ⟨⟩:=rfl
attribute [go_sem] B8
@[go_sem] theorem e8 {K} {w1 w2 w3 w4 w5}:SS P ops base .no i o acc σ K w1 w2 w3 w4 w5=aops P ops base (i+1) i [o] σ (K acc):=rfl
@[go_sem] theorem e9 {K} {dst} {t ty} {ps} {af} {w1 w2 w3 w4 w5}:SS P ops base .al i ⟨dst,.alloc t,ty,ps,af,none⟩ acc σ K w1 w2 w3 w4 w5=Aa (0<(tz P t).length ∧(tz P t).length =tsz P t∧isMp ((tz P t).map zAV)=false) (K acc (σ.put dst (.box (base+i) 0))):=rfl
def stV (P:Program) (base k:Nat) (t:TypeId) (x a:AV) (dst:Option Tmp) (acc:List (Nat × List AV)) (σ:St) (K:List (Nat × List AV)→St→Prop):Prop:=match cellsOf x with
 |some cs=>(cs.length=tsz P t∧0<tsz P t∧cs.all AV.one=true)∧a= .box (base+k) 0∧K ((base+k,cs)::acc) (σ.put dst .any)
 |none=>False
@[go_sem] theorem fA {K} {k} {dst} {t ty} {a x} {ps} {af} {w1 w2 w3 w4 w5}:SS P ops base (.st k) i ⟨dst,.store t a x,ty,ps,af,none⟩ acc σ K w1 w2 w3 w4 w5=A9 (σ.e x) fun x=>A9 (σ.e a) fun a=>stV P base k t x a dst acc σ K:=rfl
def jA (P:Program) (base k:Nat) (t:TypeId) (x a:AV) (dst:Option Tmp) (acc:List (Nat × List AV)) (σ:St) (K:List (Nat × List AV)→St→Prop) (_:Wrap x) (_:Wrap a) (_:Wrap acc) (_:Wrap σ) (_:Wrap K):Prop:=stV P base k t x a dst acc σ K
@[go_sem ↓] theorem jB {k} {t} {x a} {dst} {K}:stV P base k t x a dst acc σ K=jA P base k t x a dst acc σ K ⟨⟩ ⟨⟩ ⟨⟩ ⟨⟩ ⟨⟩:=rfl
def trX (o:Option Oper) (f:Oper→Prop):Prop:=match o with
 |some o=>f o
 |none=>False
def trY (o:Option Oper) (f:Oper→Prop) (_:Wrap f):Prop:=trX o f
@[go_sem ↓] theorem jC {x} {f}:trX x f=trY x f ⟨⟩:=rfl
@[go_sem] theorem fB {f} {w}:trY (some o) f w=f o:=rfl
def cP (p q:Prop):Prop:=p∧q
def fC (p q:Prop) (_:Wrap p) (_:Wrap q):Prop:=p∧q
@[go_sem ↓] theorem gw {p q:Prop}:cP p q=fC p q ⟨⟩ ⟨⟩:=rfl
theorem Am {p q:Prop} {w} {w'} (hp:p) (hq:q):fC p q w w':=⟨hp,hq⟩
def O0 (P:Program) (ops:Array Oper) (base:Nat) (ts:List (Nat × Oper)) (tr:Tr) (σ:St) (K:St→Prop) (_:Wrap ops) (_:Wrap ts) (_:Wrap K):Prop:=aTr P ops base ts tr σ K
@[go_sem ↓] theorem jD {tr}:aTr P ops base ts tr σ K=O0 P ops base ts tr σ K ⟨⟩ ⟨⟩ ⟨⟩:=rfl
@[go_sem] theorem jE {w3} {w4}:O0 P ops base ts .fin σ K w1 w3 w4=K σ:=rfl
theorem fD {t} {w1} {w3} {w4} {σ1} (hn:Nils σ σ1) (k:aTr P ops base ts t σ1 K):O0 P ops base ts (.fz t) σ K w1 w3 w4:=by
 unfold O0
 rw [aTr]
 exact⟨σ1,hn,k⟩
@[go_sem] theorem jF {t} {w3} {w4}:O0 P ops base ts (.br i t .stop) σ K w1 w3 w4=trX (look ts i) fun o=>aops P ops base 0 i [o] σ fun σ'=>aTr P ops base ts t σ' K:=by
 unfold O0 trX
 rw [aTr,aTr,and_true]
 rfl
@[go_sem] theorem jG {t u m} {j} {w3} {w4}:O0 P ops base ts (.br i t (.br j u m)) σ K w1 w3 w4=cP (aTr P ops base ts (.br i t .stop) σ K) (aTr P ops base ts (.br j u m) σ K):=by
 unfold O0 cP
 simp only [aTr,and_true]
@[go_sem] theorem jH {t} {w3} {w4}:O0 P ops base ts (Tr.sq [] t) σ K w1 w3 w4=O0 P ops base ts t σ K w1 w3 w4:=rfl
@[go_sem] theorem js {t} {is} {w3} {w4}:O0 P ops base ts (Tr.sq (i::is) t) σ K w1 w3 w4=O0 P ops base ts (.br i (Tr.sq is t) .stop) σ K w1 w3 w4:=rfl
end
def Zu (p:Bool) (K:St→Prop) (σ:St):Prop:=seqW p K σ
def Tt (p:Bool) (K:St→Prop) (σ:St) (_:Wrap K) (_:Wrap σ):Prop:=seqW p K σ
@[go_sem ↓] theorem gx {p}:Zu p K σ=Tt p K σ ⟨⟩ ⟨⟩:=rfl
@[go_sem] theorem dj {w1} {w2}:Tt true K σ w1 w2=K σ:=rfl
theorem BA {w1} {w2} (h:K σ):Tt false K σ w1 w2:=⟨σ,.nil σ,h⟩
theorem ST {w1} {w2} {σ1} (hn:Nils σ σ1) (h:K σ1):Tt false K σ w1 w2:=⟨σ1,.fz hn (.nil σ1),h⟩
theorem VI {w1} {w2} {σ1} (h:K σ1) (hw:Wk σ σ1):Tt false K σ w1 w2:=⟨σ1,hw,h⟩
@[go_sem] theorem Zv {id:Nat} {l:List Oper}:Hz (.region id l.toArray false)=l.all fun o=>o.guard.isNone&&bx o.op:=rfl
attribute [go_sem] bx Bool.and_true Bool.true_and Bool.and_false Bool.false_and
@[go_sem] theorem cQ {id:Nat} {l:List Oper}:Hz (.region id l.toArray true)=false:=rfl
@[go_sem] theorem cR:Hz .skip =false:=rfl
@[go_sem] theorem dk {a b}:Hz (.seq a b)=false:=rfl
@[go_sem] theorem cS {c} {a b}:Hz (.cond c a b)=false:=rfl
@[go_sem] theorem bZ {id} {a}:Hz (.block id a)=false:=rfl
@[go_sem] theorem cT {a}:Hz (.loop a)=false:=rfl
@[go_sem] theorem cU {id}:Hz (.exit id)=false:=rfl
@[go_sem] theorem dl:Hz .ret =false:=rfl
attribute [go_sem] Option.isNone_none Option.isNone_some List.all_cons List.all_nil
@[go_sem ↓] theorem jt {a b}:awp P (.seq a b) Q σ=awp P a (AE.then (Zu (Hz a) (awp P b Q)) Q) σ:=by rw [awp]; rfl
@[go_sem ↓] theorem jI {c} {a b}:awp P (.cond c a b) Q σ=A9 (σ.e c) fun v=>V8 v (awp P a Q σ) (awp P b Q σ):=by rw [awp]; rfl
@[go_sem ↓] theorem gy {id} {c}:awp P (.block id c) Q σ=awp P c (AE.inBlock id Q) σ:=by rw [awp]
@[go_sem ↓] theorem jJ {id}:awp P (.exit id) Q σ=Q (.exit id) σ:=by rw [awp]
@[go_sem ↓] theorem ju:awp P .ret Q σ=Q .ret σ:=by rw [awp]
@[go_sem] theorem VJ {b} {p q:Prop}:V8 (.bool b) p q=QI b p q:=by simp [V8,QI]
@[go_sem ↓] theorem ba {n}:AE.then n Q .normal σ=n σ:=rfl
@[go_sem ↓] theorem dm {n} {id}:AE.then n Q (.exit id) σ=Q (.exit id) σ:=rfl
@[go_sem ↓] theorem fE {n}:AE.then n Q .ret σ=Q .ret σ:=rfl
@[go_sem ↓] theorem Zw {id}:AE.inBlock id Q .normal σ=Q .normal σ:=rfl
@[go_sem ↓] theorem dn {id}:AE.inBlock id Q .ret σ=Q .ret σ:=rfl
def Tu (P:Program) (b:Code) (Q:AE→St→Prop) (σ:St) (_:Wrap b) (_:Wrap Q):Prop:=awp P (.loop b) Q σ
def lpX (P:Program) (b:Code) (Q:AE→St→Prop) (σ:St):Prop:=∃σ1,Wk σ σ1∧awp P (.loop b) Q σ1
def lpY (P:Program) (b:Code) (Q:AE→St→Prop) (σ:St) (_:Wrap b) (_:Wrap Q) (_:Wrap σ):Prop:=∃σ1,Wk σ σ1∧awp P (.loop b) Q σ1
@[go_sem ↓] theorem jK {b}:lpX P b Q σ=lpY P b Q σ ⟨⟩ ⟨⟩ ⟨⟩:=rfl
theorem M7 {b} {w1} {w2} {w3} {σ1} (h:awp P (.loop b) Q σ1) (hw:Wk σ σ1):lpY P b Q σ w1 w2 w3:=⟨σ1,hw,h⟩
theorem AS {b} {w1} {w2} (h:awp P b (AE.then (lpX P b Q) Q) σ):Tu P b Q σ w1 w2:=Ts h
@[go_sem ↓] theorem dp {b}:awp P (.loop b) Q σ=Tu P b Q σ ⟨⟩ ⟨⟩:=rfl
@[go_sem ↓] theorem cV {id i}:AE.inBlock id Q (.exit i) σ=N9 (decide (i=id)) (Q .normal σ) (Q (.exit i) σ):=by
 simp only [AE.inBlock,N9]
 by_cases h:i=id <;> simp [h]
attribute [go_sem] decide_true decide_false
def opX (P:Program) (pos:Nat) (dst:Option Tmp) (op:Op) (σ:St) (K:St→Prop):Prop:=aop P pos ⟨dst,op,0, "",#[],none⟩ σ K
def opL (P:Program) (L:Bool) (pos:Nat) (dst:Option Tmp) (op:Op) (σ:St) (K:St→Prop) (_:Wrap L):Prop:=Oz P L pos ⟨dst,op,0, "",#[],none⟩ σ K
theorem Tv {L} {pos} {o}:Oz P L pos o σ K=opL P L pos o.dst o.op σ K ⟨⟩:=by
 obtain⟨dst,op,type,ps,after,guard⟩:=o
 rfl
@[go_sem] theorem jv {ops} {base cut i} {w1} {w2} {w3} {w4}:Kt P ops base cut i [] σ K w1 w2 w3 w4=K σ:=by rw [Kt,aops]
@[go_sem] theorem jL {ops} {base cut i} {dst} {op} {type} {ps} {after} {rest} {w1} {w2} {w3} {w4}:
  Kt P ops base cut i (⟨dst,op,type,ps,after,none⟩::rest) σ K w1 w2 w3 w4=opL P (decide (cut≤i)) (base+i) dst op σ (fun σ'=>aops P ops base cut (i+1) rest σ' K) ⟨⟩:=by
 rw [Kt,aops]; simp only [Tv]
def M8 (ops:Array Oper) (j:Nat) (K:Tmp→Prop):Prop:=optX (HP ops j) K
@[go_sem ↓] theorem cW {dst} {op} {type} {ps} {after} {g} {rest} {K}:M8 (List.toArray (⟨some dst,op,type,ps,after,g⟩::rest)) 0 K=K dst:=by
 simp [M8,HP,optX]
@[go_sem ↓] theorem cX {o} {rest} {j} {K}:M8 (List.toArray (o::rest)) (j+1) K=M8 rest.toArray j K:=by
 simp [M8,HP]
def Ku (v:AV) (want:Bool) (p q q':Prop):Prop:=(∃b,v= .bool b∧(b=want→p)∧(b= !want→q))∨(v= .tup [] ∧q')
@[go_sem ↓] theorem Tw {b} {p q q':Prop}:Ku (.bool b) true p q q'=QI b p q:=by simp [Ku,QI]
@[go_sem ↓] theorem SU {b} {p q q':Prop}:Ku (.bool b) false p q q'=QI b q p:=by
 simp only [Ku,QI,AV.bool.injEq,exists_eq_left',Bool.not_false,reduceCtorEq,false_and,or_false]
 exact propext And.comm
@[go_sem ↓] theorem XR {want} {p q q':Prop}:Ku (.tup []) want p q q'=q':=by simp [Ku]
@[go_sem] theorem gz {ops} {base cut i} {dst} {op} {type} {ps} {after} {j} {want} {rest} {w1} {w2} {w3} {w4}:
  Kt P ops base cut i (⟨dst,op,type,ps,after,some (j,want)⟩::rest) σ K w1 w2 w3 w4=M8 ops j fun s=>A9 (σ.g s) fun v=>Ku v want
   (opL P (decide (cut≤i)) (base+i) dst op (σ.put (some s) (.bool want)) (fun σ'=>aops P ops base cut (i+1) rest σ' K) ⟨⟩)
   (aops P ops base cut (i+1) rest ((σ.put (some s) (.bool (!want))).put dst (.tup [])) K)
   (aops P ops base cut (i+1) rest (σ.put dst (.tup [])) K):=by
 rw [Kt,aops]
 simp only [Tv,M8,optX,Ku,A9]
section
variable {L:Bool} {pos:Nat} {dst:Option Tmp} {wL:Wrap L}
theorem DM {op} (h:∀ (σ:St) (K:St→Prop),Ka P ⟨dst,op,0, "",#[],none⟩ σ K=False) (hA:Pc ⟨dst,op,0, "",#[],none⟩=false:=by rfl) (hS:SliK P pos ⟨dst,op,0, "",#[],none⟩ σ K=False:=by rfl):opL P L pos dst op σ K wL=opX P pos dst op σ K:=by
 unfold opL Oz opX
 rw [h,hA,hS]; simp
@[go_sem ↓] theorem fF {x}:opL P L pos dst (.move x) σ K wL=opX P pos dst (.move x) σ K:=DM fun _ _=>rfl
@[go_sem ↓] theorem cY {x}:opL P L pos dst (.assign x) σ K wL=opX P pos dst (.assign x) σ K:=DM fun _ _=>rfl
@[go_sem ↓] theorem fG {a b c}:opL P L pos dst (.pick c a b) σ K wL=opX P pos dst (.pick c a b) σ K:=DM fun _ _=>rfl
@[go_sem ↓] theorem fH {t} {a}:opL P L pos dst (.load t a) σ K wL=opX P pos dst (.load t a) σ K:=DM fun _ _=>rfl
@[go_sem ↓] theorem Zx {x}:opL P L pos dst (.nilCheck x) σ K wL=opX P pos dst (.nilCheck x) σ K:=DM fun _ _=>rfl
@[go_sem ↓] theorem g6 {op} {t t'} {x y}:opL P L pos dst (.binOp op t x y t') σ K wL=opX P pos dst (.binOp op t x y t') σ K:=DM fun _ _=>rfl
@[go_sem ↓] theorem jM {op} {t} {x}:opL P L pos dst (.unOp op t x) σ K wL=opX P pos dst (.unOp op t x) σ K:=DM fun _ _=>rfl
@[go_sem ↓] theorem Zc {s} {x} {f}:opL P L pos dst (.fieldAddr s x f) σ K wL=opX P pos dst (.fieldAddr s x f) σ K:=DM fun _ _=>rfl
@[go_sem ↓] theorem Zd {t} {x i}:opL P L pos dst (.indexAddr t x i) σ K wL=opX P pos dst (.indexAddr t x i) σ K:=DM fun _ _=>rfl
@[go_sem ↓] theorem dq {t} {x i}:opL P L pos dst (.index t x i) σ K wL=opX P pos dst (.index t x i) σ K:=DM fun _ _=>rfl
def XS (P:Program) (L:Bool) (pos:Nat) (dst:Option Tmp) (op:Op) (v:AV) (σ:St) (K:St→Prop):Prop:=opX P pos dst op σ K∨(L=true∧(match v with| .own _=>True|_=>False)∧SliK P pos ⟨dst,op,0, "",#[],none⟩ σ K)
def cZ (P:Program) (L:Bool) (pos:Nat) (dst:Option Tmp) (op:Op) (v:AV) (σ:St) (K:St→Prop) (_:Wrap σ) (_:Wrap K) (_:Wrap op):Prop:=XS P L pos dst op v σ K
@[go_sem ↓] theorem g7 {op} {v}:XS P L pos dst op v σ K=cZ P L pos dst op v σ K ⟨⟩ ⟨⟩ ⟨⟩:=rfl
@[go_sem] theorem g8 {op} {rows} {w1 w2 w3}:cZ P L pos dst op (.ro rows) σ K w1 w2 w3=opX P pos dst op σ K:=by simp [cZ,XS]
theorem XT {t} {x} {l h m}:opL P L pos dst (.slice t x l h m) σ K wL=XS P L pos dst (.slice t x l h m) (σ.e x) σ K:=by
 have h1:Ka P ⟨dst,.slice t x l h m,0, "",#[],none⟩ σ K=False:=rfl
 have h2:Pc ⟨dst,.slice t x l h m,0, "",#[],none⟩=false:=rfl
 have h3:SliK P pos ⟨dst,.slice t x l h m,0, "",#[],none⟩ σ K=((match σ.e x with| .own _=>True|_=>False)∧SliK P pos ⟨dst,.slice t x l h m,0, "",#[],none⟩ σ K):=by
  unfold SliK
  cases m with
  |some m=>simp
  |none=>
   simp only
   generalize σ.e x=v
   cases v <;> simp
 unfold opL Oz XS opX
 rw [h1,h2]
 refine propext ⟨?_,?_⟩
 ·rintro (⟨-,h⟩|⟨hL,h|h⟩|⟨-,h,-⟩)
  ·exact .inl h
  ·exact h.elim
  ·rw [h3] at h; exact .inr ⟨hL,h⟩
  ·cases h
 ·rintro (h|⟨hL,-,h⟩)
  ·exact .inl ⟨.inr rfl,h⟩
  ·exact .inr (.inl ⟨hL,.inr h⟩)
@[go_sem ↓] theorem ca {t} {x} {l h m}:opL P L pos dst (.slice t x l h m) σ K wL=A9 (σ.e x) fun v=>XS P L pos dst (.slice t x l h m) v σ K:=XT
@[go_sem ↓] theorem be {x} {i}:opL P L pos dst (.extract x i) σ K wL=opX P pos dst (.extract x i) σ K:=DM fun _ _=>rfl
@[go_sem ↓] theorem Zy {c} {a b}:opL P L pos dst (.makeFunc c a b) σ K wL=opX P pos dst (.makeFunc c a b) σ K:=DM fun _ _=>rfl
@[go_sem ↓] theorem g9 {t} {x}:opL P L pos dst (.box t x) σ K wL=opX P pos dst (.box t x) σ K:=DM fun _ _=>rfl
@[go_sem ↓] theorem dr {t}:opL P L pos dst (.alloc t) σ K wL=opX P pos dst (.alloc t) σ K:=DM fun _ _=>rfl
@[go_sem ↓] theorem dt {t} {ps}:opL P L pos dst (.build t ps) σ K wL=opX P pos dst (.build t ps) σ K:=DM fun _ _=>rfl
@[go_sem ↓] theorem Yp {t} {n} {ps}:opL P L pos dst (.buildSlice t n ps) σ K wL=opX P pos dst (.buildSlice t n ps) σ K:=DM fun _ _=>rfl
@[go_sem ↓] theorem Ze {t} {l c}:opL P L pos dst (.makeSlice t l c) σ K wL=opX P pos dst (.makeSlice t l c) σ K:=DM fun _ _=>rfl
@[go_sem ↓] theorem bf {t} {r}:opL P L pos dst (.makeMap t r) σ K wL=opX P pos dst (.makeMap t r) σ K:=DM fun _ _=>rfl
@[go_sem ↓] theorem cc {t} {x i} {ok}:opL P L pos dst (.lookup t x i ok) σ K wL=opX P pos dst (.lookup t x i ok) σ K:=DM fun _ _=>rfl
@[go_sem ↓] theorem Zf {t} {m i x}:opL P L pos dst (.mapUpdate t m i x) σ K wL=opX P pos dst (.mapUpdate t m i x) σ K:=DM fun _ _=>rfl
@[go_sem ↓] theorem du {t} {a x}:opL P L pos dst (.store t a x) σ K wL=opX P pos dst (.store t a x) σ K:=DM fun _ _=>rfl
@[go_sem ↓] theorem hC {as} {ts}:opL P L pos dst (.call ⟨.builtin .len,as,ts⟩) σ K wL=opX P pos dst (.call ⟨.builtin .len,as,ts⟩) σ K:=DM fun _ _=>rfl
@[go_sem ↓] theorem hH {as} {ts}:opL P L pos dst (.call ⟨.builtin .max,as,ts⟩) σ K wL=opX P pos dst (.call ⟨.builtin .max,as,ts⟩) σ K:=DM fun _ _=>rfl
def opE (P:Program) (pos:Nat) (dst:Option Tmp) (op:Op) (σ:St) (K:St→Prop):Prop:=∃r,Ev P pos ⟨dst,op,0, "",#[],none⟩ σ.e σ.T σ.B r∧Cs σ r.t∧Dw σ r.b∧K (σ.add dst r)
def Zz (L:Bool) (p q:Prop) (_:Wrap p) (_:Wrap q):Prop:=(L=true∧p)∨(L=false∧q)
@[go_sem] theorem dv {p q:Prop} {w1} {w2}:Zz true p q w1 w2=p:=by simp [Zz]
@[go_sem ↓] theorem cd {as} {ts}:opL P L pos dst (.call ⟨.builtin .append,as,ts⟩) σ K wL=Zz L (opX P pos dst (.call ⟨.builtin .append,as,ts⟩) σ K) (opE P pos dst (.call ⟨.builtin .append,as,ts⟩) σ K) ⟨⟩ ⟨⟩:=by
 have h1:Ka P ⟨dst,.call ⟨.builtin .append,as,ts⟩,0, "",#[],none⟩ σ K=False:=rfl
 have h2:Pc ⟨dst,.call ⟨.builtin .append,as,ts⟩,0, "",#[],none⟩=true:=rfl
 have h3:SliK P pos ⟨dst,.call ⟨.builtin .append,as,ts⟩,0, "",#[],none⟩ σ K=False:=rfl
 unfold opL Oz opX Zz opE
 rw [h1,h2,h3]
 simp
end
attribute [go_sem] Bool.not_true Bool.not_false Nat.zero_le
theorem Gv {pos:Nat} {dst:Option Tmp} {op:Op} (h:∀K',aop P pos ⟨dst,op,0, "",#[],none⟩ σ K'=∃r,Ev P pos ⟨dst,op,0, "",#[],none⟩ σ.e σ.T σ.B r∧Cs σ r.t∧Dw σ r.b∧K' (σ.add dst r)) {p:AV→Prop} (hp:∀r,Ev P pos ⟨dst,op,0, "",#[],none⟩ σ.e σ.T σ.B r=∃v,p v∧r=⟨v,[],[]⟩):
  opX P pos dst op σ K=∃v,p v∧K (σ.put dst v):=by
 unfold opX
 rw [h]
 refine propext ⟨?_,?_⟩
 ·rintro ⟨r,h1,h2,h3,h4⟩
  rw [hp] at h1
  obtain⟨v,h5,rfl⟩:=h1
  exact⟨v,h5,by cases dst <;> exact h4⟩
 ·rintro ⟨v,h5,h4⟩
  exact⟨⟨v,[],[]⟩,by rw [hp]; exact⟨v,h5,rfl⟩,trivial,trivial,by cases dst <;> exact h4⟩
@[go_sem ↓] theorem jN {pos:Nat} {dst:Option Tmp} {x:Operand}:opX P pos dst (.move x) σ K=A9 (σ.e x) fun v=>K (σ.put dst v):=by
 rw [Gv (p:=fun v=>v=σ.e x) (fun _=>by simp only [aop]) (fun r=>by simp [Ev])]
 simp [A9]
@[go_sem ↓] theorem fI {pos:Nat} {dst:Option Tmp} {x:Operand}:opX P pos dst (.assign x) σ K=A9 (σ.e x) fun v=>K (σ.put dst v):=by
 rw [Gv (p:=fun v=>v=σ.e x) (fun _=>by simp only [aop]) (fun r=>by simp [Ev])]
 simp [A9]
def QK (c a b:AV) (K:AV→Prop):Prop:=∃t,c= .bool t∧K (if t=true then a else b)
@[go_sem] theorem VK {a b} {K}:QK (.bool true) a b K=K a:=by simp [QK]
@[go_sem] theorem Tx {a b} {K}:QK (.bool false) a b K=K b:=by simp [QK]
theorem cf {pos:Nat} {dst:Option Tmp} {c a b:Operand}:opX P pos dst (.pick c a b) σ K=QK (σ.e c) (σ.e a) (σ.e b) fun v=>K (σ.put dst v):=by
 rw [Gv (p:=fun v=>∃t,σ.e c= .bool t∧v=if t=true then σ.e a else σ.e b) (fun _=>by simp only [aop]) (fun r=>by
  simp only [Ev]
  refine propext ⟨?_,?_⟩
  ·rintro ⟨t,h,rfl⟩; exact⟨_,⟨t,h,rfl⟩,rfl⟩
  ·rintro ⟨v,⟨t,h,rfl⟩,rfl⟩; exact⟨t,h,rfl⟩)]
 simp only [QK]
 refine propext ⟨?_,?_⟩
 ·rintro ⟨v,⟨t,h,rfl⟩,hk⟩; exact⟨t,h,hk⟩
 ·rintro ⟨t,h,hk⟩; exact⟨_,⟨t,h,rfl⟩,hk⟩
def M9 (P:Program) (t:TypeId) (a:AV) (σ:St) (K:AV→Prop):Prop:=∃v,If P σ.T σ.B t a v∧K v
def ldX (P:Program) (t:TypeId) (off:Nat) (vs:List AV) (K:AV→Prop):Prop:=
 N9 (ti P t).isAgg (Aa (off+tsz P t≤vs.length) (A9 (.agg (Eh vs off (tsz P t))) K)) (Aa ((ti P t).sc =true) (optX vs[off]? K))
theorem cg {pos:Nat} {dst:Option Tmp} {t:TypeId} {a:Operand}:opX P pos dst (.load t a) σ K=M9 P t (σ.e a) σ fun v=>K (σ.put dst v):=
 Gv (p:=fun v=>If P σ.T σ.B t (σ.e a) v) (fun _=>by simp only [aop]) (fun r=>by simp only [Ev])
@[go_sem] theorem XU {t} {b off} {K}:M9 P t (.box b off) σ K=optX (σ.B b) fun vs=>Aa (isMp vs=false) (ldX P t off vs K):=by
 simp only [M9,If,optX,ldX,N9,Aa,A9]
 by_cases h:(ti P t).isAgg =true
 ·simp only [h,if_true]
  refine propext ⟨?_,?_⟩
  ·rintro ⟨v,⟨vs,h1,hm,h2,rfl⟩,hk⟩; exact⟨vs,h1,hm,.inl ⟨trivial,h2,hk⟩⟩
  ·rintro ⟨vs,h1,hm,(⟨-,h2,hk⟩|⟨hh,-⟩)⟩
   ·exact⟨_,⟨vs,h1,hm,h2,rfl⟩,hk⟩
   ·cases hh
 ·have h':(ti P t).isAgg =false:=by simpa using h
  simp only [h',Bool.false_eq_true,if_false]
  refine propext ⟨?_,?_⟩
  ·rintro ⟨v,⟨vs,h1,hm,h2,h3⟩,hk⟩; exact⟨vs,h1,hm,.inr ⟨trivial,h2,v,h3,hk⟩⟩
  ·rintro ⟨vs,h1,hm,(⟨hh,-⟩|⟨-,h2,v,h3,hk⟩)⟩
   ·exact hh.elim
   ·exact⟨v,⟨vs,h1,hm,h2,h3⟩,hk⟩
@[go_sem] theorem XV {t} {vs} {off} {K}:M9 P t (.rop vs off) σ K=ldX P t off vs K:=by
 simp only [M9,If,optX,ldX,N9,Aa,A9]
 by_cases h:(ti P t).isAgg =true
 ·simp only [h,if_true]
  refine propext ⟨?_,?_⟩
  ·rintro ⟨v,⟨h2,rfl⟩,hk⟩; exact .inl ⟨trivial,h2,hk⟩
  ·rintro (⟨-,h2,hk⟩|⟨hh,-⟩)
   ·exact⟨_,⟨h2,rfl⟩,hk⟩
   ·cases hh
 ·have h':(ti P t).isAgg =false:=by simpa using h
  simp only [h',Bool.false_eq_true,if_false]
  refine propext ⟨?_,?_⟩
  ·rintro ⟨v,⟨h2,h3⟩,hk⟩; exact .inr ⟨trivial,h2,v,h3,hk⟩
  ·rintro (⟨hh,-⟩|⟨-,h2,v,h3,hk⟩)
   ·exact hh.elim
   ·exact⟨v,⟨h2,h3⟩,hk⟩
@[go_sem] theorem XW {t} {t' sz i off} {K}:M9 P t (.elt t' sz i off) σ K=
  optX (σ.T t') fun tk=>optX tk.rows[i]? fun row=>Aa (row.length=sz) (N9 (ti P t).isAgg (Aa (off+tsz P t≤sz) (A9 (.agg (MD t' tk.gen [] sz i row off (tsz P t))) K)) (Aa ((ti P t).sc =true) (optX row[off]? fun d=>K (ofT t' tk.gen [] sz i off d)))):=by
 simp only [M9,If,optX,N9,Aa,A9]
 by_cases h:(ti P t).isAgg =true
 ·simp only [h,if_true]
  refine propext ⟨?_,?_⟩
  ·rintro ⟨v,⟨tk,row,h1,h2,h3,h4,rfl⟩,hk⟩; exact⟨tk,h1,row,h2,h3,.inl ⟨trivial,h4,hk⟩⟩
  ·rintro ⟨tk,h1,row,h2,h3,(⟨-,h4,hk⟩|⟨hh,-⟩)⟩
   ·exact⟨_,⟨tk,row,h1,h2,h3,h4,rfl⟩,hk⟩
   ·cases hh
 ·have h':(ti P t).isAgg =false:=by simpa using h
  simp only [h',Bool.false_eq_true,if_false]
  refine propext ⟨?_,?_⟩
  ·rintro ⟨v,⟨tk,row,h1,h2,h3,h4,d,h5,rfl⟩,hk⟩; exact⟨tk,h1,row,h2,h3,.inr ⟨trivial,h4,d,h5,hk⟩⟩
  ·rintro ⟨tk,h1,row,h2,h3,(⟨hh,-⟩|⟨-,h4,d,h5,hk⟩)⟩
   ·exact hh.elim
   ·exact⟨_,⟨tk,row,h1,h2,h3,h4,d,h5,rfl⟩,hk⟩
def jO (o:Option Tok) (g:Nat) (p:Pth):Option (List (List D)):=match o with
 |some tk=>if tk.gen=g then getP p tk.rows else none
 |none=>none
@[go_sem ↓] theorem hM {T} {t g} {p}:subR T t g p=jO (T t) g p:=rfl
def fJ (o:Option Tok) (g:Nat) (p:Pth):Option (List (List D)):=match o with
 |some tk=>if tk.gen=g then (getP p tk.rows).map tk.er else none
 |none=>none
@[go_sem ↓] theorem hO {T} {t g} {p}:subE T t g p=fJ (T t) g p:=rfl
@[go_sem] theorem dw {r}:zer false r=r:=rfl
@[go_sem] theorem fK {r}:zer true r=erR r:=rfl
@[go_sem] theorem jw {rows} {ap} {g} {q}:Tok.rd ⟨rows,ap,g,q⟩=zer q rows:=rfl
@[go_sem] theorem jx {rows r} {ap} {g} {q}:Tok.er ⟨rows,ap,g,q⟩ r=zer q r:=rfl
@[go_sem] theorem dx {z} {rows} {ap} {g}:okZ z ⟨rows,ap,g,false⟩=true:=rfl
@[go_sem] theorem fL {q} {rows} {ap} {g}:okZ q ⟨rows,ap,g,q⟩=true:=by cases q <;> rfl
@[go_sem] theorem fM {rows}:getP [] rows=some rows:=rfl
def jP (d:D) (K:List (List D)→Prop):Prop:=match d with| .sl r=>K r|_=>False
@[go_sem] theorem hZ {r} {K}:jP (.sl r) K=K r:=rfl
@[go_sem] theorem ci {t g} {p} {sz i} {d} {ds} {off n}:MD t g p sz i (d::ds) off n=Q3 t g p sz i off (((d::ds).drop off).take n):=rfl
attribute [go_sem ↓] ldX
attribute [go_sem] Eh ofD Ns ofS ofT Q3
end
attribute [go_sem ↓] VJ Tw SU XR VK Tx XU XV XW
end Go.Proofs.YtaedfiifhjlmlaaGreat.Ab
namespace Go.Proofs.YtaedfiifhjlmlaaGreat.Ab
set_option linter.unusedVariables false
open Go.RowKit
section
variable {P:Program} {σ:St} {K:St→Prop} {Q:AE→St→Prop}
theorem OA {pos} {dst} {op} (h:∀K',aop P pos ⟨dst,op,0, "",#[],none⟩ σ K'=∃r,Ev P pos ⟨dst,op,0, "",#[],none⟩ σ.e σ.T σ.B r∧Cs σ r.t∧Dw σ r.b∧K' (σ.add dst r)):
  opX P pos dst op σ K=∃r,Ev P pos ⟨dst,op,0, "",#[],none⟩ σ.e σ.T σ.B r∧Cs σ r.t∧Dw σ r.b∧K (σ.add dst r):=h K
def SV (v:AV) (K:AV→Prop):Prop:=match v with
 | .box b off=>K (.box b off)
 | .rop ds off=>K (.rop ds off)
 | .elt t sz i off=>K (.elt t sz i off)
 | .els t g p sz i off=>K (.els t g p sz i off)
 |_=>False
@[go_sem] theorem Yq {b off} {K}:SV (.box b off) K=K (.box b off):=rfl
@[go_sem] theorem Yr {ds} {off} {K}:SV (.rop ds off) K=K (.rop ds off):=rfl
@[go_sem] theorem Ys {t sz i off} {K}:SV (.elt t sz i off) K=K (.elt t sz i off):=rfl
@[go_sem] theorem Yt {t g} {p} {sz i off} {K}:SV (.els t g p sz i off) K=K (.els t g p sz i off):=rfl
theorem VL {pos} {dst} {x}:opX P pos dst (.nilCheck x) σ K=SV (σ.e x) fun v=>K (σ.put dst v):=by
 rw [Gv (p:=fun v=>SV (σ.e x) fun u=>v=u) (fun _=>by simp only [aop]) (fun r=>by
  simp only [Ev,SV]
  generalize σ.e x=v
  cases v <;> simp)]
 unfold SV
 generalize σ.e x=v
 cases v <;> simp
def Eu (P:Program) (op:BinOp) (t:TypeId) (x y:AV) (K:AV→Prop):Prop:=∃v,Bin P op t x y v∧K v
def VM (op:BinOp) (y:Operand):Bool:=match op,y with
 | .eql,.const (.slice none 0 0)=>false
 | .neq,.const (.slice none 0 0)=>false
 |_,_=>true
theorem WR {pos} {dst} {op} {t t'} {x y} (hn:VM op y=true):opX P pos dst (.binOp op t x y t') σ K=Eu P op t (σ.e x) (σ.e y) fun v=>K (σ.put dst v):=
 Gv (p:=fun v=>Bin P op t (σ.e x) (σ.e y) v) (fun _=>by
  unfold aop
  dsimp only
  split
  ·rename_i h; simp only [Op.binOp.injEq] at h; obtain⟨rfl,rfl,rfl,rfl,rfl⟩:=h; simp [VM] at hn
  ·rename_i h; simp only [Op.binOp.injEq] at h; obtain⟨rfl,rfl,rfl,rfl,rfl⟩:=h; simp [VM] at hn
  ·rename_i h; cases h
  ·rename_i h; cases h
  ·rename_i h; cases h
  ·rfl) (fun r=>by simp only [Ev])
section
variable {pos:Nat} {dst:Option Tmp} {op:BinOp} {t t':TypeId} {x:Operand}
theorem XX {y}:opX P pos dst (.binOp op t x (.tmp y) t') σ K=Eu P op t (σ.e x) (σ.g y) fun v=>K (σ.put dst v):=WR (by cases op <;> rfl)
theorem XY {k} {n}:opX P pos dst (.binOp op t x (.const (.int k n)) t') σ K=Eu P op t (σ.e x) (.int k n) fun v=>K (σ.put dst v):=WR (by cases op <;> rfl)
theorem XZ {s}:opX P pos dst (.binOp op t x (.const (.string s)) t') σ K=Eu P op t (σ.e x) (.str s) fun v=>K (σ.put dst v):=WR (by cases op <;> rfl)
theorem VN:opX P pos dst (.binOp op t x (.const (.pointer none)) t') σ K=Eu P op t (σ.e x) .nilp fun v=>K (σ.put dst v):=WR (by cases op <;> rfl)
end
section
variable {t:TypeId} {k:IntKind} {a b:Int} {K:AV→Prop}
@[go_sem] theorem Z0:Eu P .add t (.int k a) (.int k b) K=K (.int k (k.wrap (a+b))):=by simp [Eu,Bin,KX]
@[go_sem] theorem Z1:Eu P .sub t (.int k a) (.int k b) K=K (.int k (k.wrap (a - b))):=by simp [Eu,Bin,KX]
@[go_sem] theorem Z2:Eu P .eql t (.int k a) (.int k b) K=K (.bool (decide (a=b))):=by simp [Eu,Bin,KX]
@[go_sem] theorem Z3:Eu P .neq t (.int k a) (.int k b) K=K (.bool (!decide (a=b))):=by simp [Eu,Bin,KX]
@[go_sem] theorem Z4:Eu P .lss t (.int k a) (.int k b) K=K (.bool (decide (a<b))):=by simp [Eu,Bin,KX]
@[go_sem] theorem Z5:Eu P .leq t (.int k a) (.int k b) K=K (.bool (decide (a≤b))):=by simp [Eu,Bin,KX]
@[go_sem] theorem Z6:Eu P .gtr t (.int k a) (.int k b) K=K (.bool (decide (b<a))):=by simp [Eu,Bin,KX]
@[go_sem] theorem Z7:Eu P .geq t (.int k a) (.int k b) K=K (.bool (decide (b≤a))):=by simp [Eu,Bin,KX]
end
section
variable {t:TypeId} {a b:ByteArray} {c d:Bool} {K:AV→Prop}
def sameStr (a b:ByteArray):Bool:=a.toList == b.toList
@[go_sem] theorem Yu:Eu P .eql t (.str a) (.str b) K=K (.bool (sameStr a b)):=by simp [Eu,Bin,sameStr]
@[go_sem] theorem Yv:Eu P .neq t (.str a) (.str b) K=K (.bool (!sameStr a b)):=by simp [Eu,Bin,sameStr]
@[go_sem] theorem dy {α β:Type} {f:α→β} {a:α}:Option.map f (some a)=some (f a):=rfl
def Yw (P:Program) (t:TypeId):Prop:=match ti P t with| .bool =>True|_=>False
@[go_sem] theorem Yx:Eu P .neq t (.bool c) (.bool d) K=Aa (Yw P t) (K (.bool (!(c == d)))):=by
 simp only [Eu,Bin,Aa,Yw]
 split <;> simp_all
def Yy (P:Program) (t:TypeId):Prop:=match ti P t with| .ptr _=>True|_=>False
@[go_sem] theorem Z8:Eu P .neq t .nilp .nilp K=Aa (Yy P t) (K (.bool false)):=by
 simp only [Eu,Bin,Aa,Yy]
 split <;> simp_all
@[go_sem] theorem Z9 {ds} {off}:Eu P .neq t (.rop ds off) .nilp K=Aa (Yy P t) (K (.bool true)):=by
 simp only [Eu,Bin,Aa,Yy]
 split <;> simp_all
attribute [go_sem] Yw Yy
end
def aA (op:UnOp) (x:AV) (K:AV→Prop):Prop:=∃v,Uno op x v∧K v
theorem cj {pos} {dst} {op} {t} {x}:opX P pos dst (.unOp op t x) σ K=aA op (σ.e x) fun v=>K (σ.put dst v):=
 Gv (p:=fun v=>Uno op (σ.e x) v) (fun _=>by simp only [aop]) (fun r=>by simp only [Ev])
@[go_sem] theorem aB {b} {K}:aA .not (.bool b) K=K (.bool (!b)):=by simp [aA,Uno]
def Yz (t:TI) (K:IntKind→Prop):Prop:=match t with| .int k=>K k|_=>False
@[go_sem] theorem Xa {k} {K}:Yz (.int k) K=K k:=rfl
def faX (P:Program) (s:TypeId) (v:AV) (f:Nat) (K:AV→Prop):Prop:=match v with
 | .box b off=>∃q,fOff P s f=some q∧0<tsz P q.2 ∧K (.box b (off+q.1))
 | .rop ds off=>∃q,fOff P s f=some q∧0<tsz P q.2 ∧K (.rop ds (off+q.1))
 | .elt t sz i off=>∃q,fOff P s f=some q∧0<tsz P q.2 ∧K (.elt t sz i (off+q.1))
 | .els t g p sz i off=>∃q,fOff P s f=some q∧0<tsz P q.2 ∧K (.els t g p sz i (off+q.1))
 |_=>False
theorem Ty {pos} {dst} {s} {x} {f}:opX P pos dst (.fieldAddr s x f) σ K=faX P s (σ.e x) f fun v=>K (σ.put dst v):=by
 rw [Gv (p:=fun v=>faX P s (σ.e x) f fun u=>v=u) (fun _=>by simp only [aop]) (fun r=>by
  simp only [Ev,faX]
  generalize σ.e x=v
  split
  ·exact propext ⟨fun ⟨q,h1,h2,h3⟩=>⟨_,⟨q,h1,h2,rfl⟩,h3⟩,fun ⟨v,⟨q,h1,h2,h4⟩,h3⟩=>⟨q,h1,h2,h4 ▸ h3⟩⟩
  ·exact propext ⟨fun ⟨q,h1,h2,h3⟩=>⟨_,⟨q,h1,h2,rfl⟩,h3⟩,fun ⟨v,⟨q,h1,h2,h4⟩,h3⟩=>⟨q,h1,h2,h4 ▸ h3⟩⟩
  ·exact propext ⟨fun ⟨q,h1,h2,h3⟩=>⟨_,⟨q,h1,h2,rfl⟩,h3⟩,fun ⟨v,⟨q,h1,h2,h4⟩,h3⟩=>⟨q,h1,h2,h4 ▸ h3⟩⟩
  ·exact propext ⟨fun ⟨q,h1,h2,h3⟩=>⟨_,⟨q,h1,h2,rfl⟩,h3⟩,fun ⟨v,⟨q,h1,h2,h4⟩,h3⟩=>⟨q,h1,h2,h4 ▸ h3⟩⟩
  ·simp)]
 unfold faX
 split
 ·exact propext ⟨fun ⟨v,⟨q,h1,h2,h4⟩,h3⟩=>⟨q,h1,h2,h4 ▸ h3⟩,fun ⟨q,h1,h2,h3⟩=>⟨_,⟨q,h1,h2,rfl⟩,h3⟩⟩
 ·exact propext ⟨fun ⟨v,⟨q,h1,h2,h4⟩,h3⟩=>⟨q,h1,h2,h4 ▸ h3⟩,fun ⟨q,h1,h2,h3⟩=>⟨_,⟨q,h1,h2,rfl⟩,h3⟩⟩
 ·exact propext ⟨fun ⟨v,⟨q,h1,h2,h4⟩,h3⟩=>⟨q,h1,h2,h4 ▸ h3⟩,fun ⟨q,h1,h2,h3⟩=>⟨_,⟨q,h1,h2,rfl⟩,h3⟩⟩
 ·exact propext ⟨fun ⟨v,⟨q,h1,h2,h4⟩,h3⟩=>⟨q,h1,h2,h4 ▸ h3⟩,fun ⟨q,h1,h2,h3⟩=>⟨_,⟨q,h1,h2,rfl⟩,h3⟩⟩
 ·simp
@[go_sem] theorem aC {s} {b off f} {K}:faX P s (.box b off) f K=optX (fOff P s f) fun q=>Aa (0<tsz P q.2) (A9 (off+q.1) fun o=>K (.box b o)):=rfl
@[go_sem] theorem aD {s} {ds} {off f} {K}:faX P s (.rop ds off) f K=optX (fOff P s f) fun q=>Aa (0<tsz P q.2) (A9 (off+q.1) fun o=>K (.rop ds o)):=rfl
@[go_sem] theorem aE {s} {t g} {p} {sz i off f} {K}:faX P s (.els t g p sz i off) f K=optX (fOff P s f) fun q=>Aa (0<tsz P q.2) (A9 (off+q.1) fun o=>K (.els t g p sz i o)):=rfl
@[go_sem] theorem aF {s} {t sz i off f} {K}:faX P s (.elt t sz i off) f K=optX (fOff P s f) fun q=>Aa (0<tsz P q.2) (A9 (off+q.1) fun o=>K (.elt t sz i o)):=rfl
def fdX (P:Program) (s:TypeId) (v:AV) (f:Nat) (K:AV→Prop):Prop:=match v with
 | .agg vs=>optX (fOff P s f) fun q=>N9 (ti P q.2).isAgg (Aa (q.1 +tsz P q.2 ≤vs.length) (A9 (.agg (Eh vs q.1 (tsz P q.2))) K)) (Aa ((ti P q.2).sc =true) (optX vs[q.1]? K))
 |_=>False
@[go_sem] theorem aG {s} {vs} {f} {K}:fdX P s (.agg vs) f K=optX (fOff P s f) fun q=>N9 (ti P q.2).isAgg (Aa (q.1 +tsz P q.2 ≤vs.length) (A9 (.agg (Eh vs q.1 (tsz P q.2))) K)) (Aa ((ti P q.2).sc =true) (optX vs[q.1]? K)):=rfl
attribute [go_sem] fOff
def Xb (rows:List (List D)) (n:Int) (sz:Nat) (K:List D→Prop):Prop:=∃row,V6 rows n sz row∧K row
def iaX (P:Program) (t:TypeId) (x i:AV) (σ:St) (K:AV→Prop):Prop:=∃v,Q4 P σ.T t x i v∧K v
def slX (t:TI) (K:TypeId→Prop):Prop:=match t with| .sl e=>K e|_=>False
@[go_sem] theorem ck {e} {K}:slX (.sl e) K=K e:=rfl
def elX (P:Program) (t:TypeId) (x i:AV) (K:AV→Prop):Prop:=∃v,RS P t x i v∧K v
def arX (t:TI) (K:Nat→TypeId→Prop):Prop:=match t with| .arr n e=>K n e|_=>False
@[go_sem ↓] theorem iA {n} {e} {K}:arX (.arr n e) K=K n e:=rfl
def inX (t:TI) (K:IntKind→Prop):Prop:=match t with| .int k=>K k|_=>False
@[go_sem ↓] theorem iB {k} {K}:inX (.int k) K=K k:=rfl
@[go_sem] theorem d7 {k}:RR k [] =some [] :=rfl
theorem aH {pos} {dst} {t} {x i}:opX P pos dst (.index t x i) σ K=elX P t (σ.e x) (σ.e i) fun v=>K (σ.put dst v):=
 Gv (p:=fun v=>RS P t (σ.e x) (σ.e i) v) (fun _=>by simp only [aop]) (fun r=>by simp only [Ev])
@[go_sem ↓] theorem iC {t} {s} {k} {n} {K}:elX P t (.str s) (.int k n) K=Aa (ti P t= .str) (optX (atB s n) fun m=>K (.int .u8 m)):=by
 simp only [elX,RS,Aa,optX]
 exact propext ⟨fun ⟨v,⟨h1,m,h2,h3⟩,h⟩=>⟨h1,m,h2,h3 ▸ h⟩,fun ⟨h1,m,h2,h⟩=>⟨_,⟨h1,m,h2,rfl⟩,h⟩⟩
def aI (P:Program) (T:Nat→Option Tok) (t:TypeId) (x:AV) (l h:Option AV) (K:AV→Prop):Prop:=∃v,(Nt P t x l h v∨SE P T t x l h v)∧K v
theorem aJ {pos} {dst} {t} {x} {l h}:opX P pos dst (.slice t x l h none) σ K=aI P σ.T t (σ.e x) (l.map σ.e) (h.map σ.e) fun v=>K (σ.put dst v):=
 Gv (p:=fun v=>Nt P t (σ.e x) (l.map σ.e) (h.map σ.e) v∨SE P σ.T t (σ.e x) (l.map σ.e) (h.map σ.e) v) (fun _=>by simp only [aop]) (fun r=>by simp only [Ev])
@[go_sem ↓] theorem iD {t} {rows} {l h} {T} {K}:aI P T t (.ro rows) l h K=slX (ti P t) fun el=>Aa (0<tsz P el) (Aa (∀row ∈ rows,row.length=tsz P el) (optX (bndI l 0) fun i=>optX (bndI h rows.length) fun j=>optX (cutL rows i j) fun r=>K (.ro r))):=by
 simp only [aI,Nt,SE,or_false,slX,Aa,optX]
 generalize ti P t=q
 cases q with
 |sl el=>exact propext ⟨fun ⟨v,⟨el',h0,⟨h1,h2⟩,i,h3,j,h4,r,h5,h6⟩,h7⟩=>by cases h0; exact⟨h1,h2,i,h3,j,h4,r,h5,h6 ▸ h7⟩,fun ⟨h1,h2,i,h3,j,h4,r,h5,h7⟩=>⟨_,⟨_,rfl,⟨h1,h2⟩,i,h3,j,h4,r,h5,rfl⟩,h7⟩⟩
 |_=>simp
@[go_sem] theorem fN {d}:bndI none d=some d:=rfl
@[go_sem] theorem fO {k} {n d}:bndI (some (.int k n)) d=some n:=rfl
theorem Tz {pos} {dst} {t} {x i}:opX P pos dst (.indexAddr t x i) σ K=iaX P t (σ.e x) (σ.e i) σ fun v=>K (σ.put dst v):=
 Gv (p:=fun v=>Q4 P σ.T t (σ.e x) (σ.e i) v) (fun _=>by simp only [aop]) (fun r=>by simp only [Ev])
@[go_sem] theorem cm {t} {rows} {k} {n} {K}:iaX P t (.ro rows) (.int k n) σ K=slX (ti P t) fun e=>Aa (0<tsz P e) (Xb rows n (tsz P e) fun row=>K (.rop (row.map ofD) 0)):=by
 simp only [iaX,Q4,slX,Aa,Xb]
 generalize ti P t=q
 cases q with
 |sl e=>exact propext ⟨fun ⟨v,⟨h1,row,h2,h3⟩,h4⟩=>⟨h1,row,h2,h3 ▸ h4⟩,fun ⟨h1,row,h2,h3⟩=>⟨_,⟨h1,row,h2,rfl⟩,h3⟩⟩
 |_=>simp
@[go_sem] theorem aK {t} {t'} {k} {n} {K}:iaX P t (.own t') (.int k n) σ K=slX (ti P t) fun e=>Aa (0<tsz P e) (optX (σ.T t') fun tk=>Xb tk.rows n (tsz P e) fun _=>K (.elt t' (tsz P e) n.toNat 0)):=by
 simp only [iaX,Q4,slX,Aa,Xb,optX]
 generalize ti P t=q
 cases q with
 |sl e=>exact propext ⟨fun ⟨v,⟨h1,tk,row,h0,h2,h3⟩,h4⟩=>⟨h1,tk,h0,row,h2,h3 ▸ h4⟩,fun ⟨h1,tk,h0,row,h2,h3⟩=>⟨_,⟨h1,tk,row,h0,h2,rfl⟩,h3⟩⟩
 |_=>simp
def Xc (v:AV) (i:Nat) (K:AV→Prop):Prop:=match v with| .tup vs=>optX vs[i]? K|_=>False
@[go_sem] theorem Y0 {vs} {i} {K}:Xc (.tup vs) i K=optX vs[i]? K:=rfl
theorem Xd {pos} {dst} {x} {i}:opX P pos dst (.extract x i) σ K=Xc (σ.e x) i fun v=>K (σ.put dst v):=by
 rw [Gv (p:=fun v=>Xc (σ.e x) i fun u=>v=u) (fun _=>by simp only [aop]) (fun r=>by
  simp only [Ev,Xc]
  generalize σ.e x=v
  cases v <;> simp [optX])]
 unfold Xc
 generalize σ.e x=v
 cases v <;> simp [optX]
def evs (σ:St):List Operand→List AV
 | [] =>[]
 |x::xs=>σ.e x::evs σ xs
theorem SW {xs}:evs σ xs=xs.map σ.e:=by induction xs with|nil=>rfl|cons x xs ih=>simp [evs,ih]
attribute [go_sem] evs
@[go_sem ↓] theorem cn {pos} {dst} {f} {first caps}:opX P pos dst (.makeFunc (.func f) (List.toArray first) caps.toArray) σ K=A9 (.fn f (.agg (evs σ first)::evs σ caps)) fun v=>K (σ.put dst v):=by
 rw [Gv (p:=fun v=>v= .fn f (.agg (evs σ first)::evs σ caps)) (fun _=>by simp only [aop]) (fun r=>by simp [Ev,SW])]
 simp [A9]
def T0 (P:Program) (t:TypeId) (x:AV) (σ:St) (K:AV→Prop):Prop:=∃v,PW P σ.T σ.B t x v∧K v
theorem fP {pos} {dst} {x} {t}:opX P pos dst (.call ⟨.builtin .len,List.toArray [x],List.toArray [t]⟩) σ K=T0 P t (σ.e x) σ fun v=>K (σ.put dst v):=
 Gv (p:=fun v=>PW P σ.T σ.B t (σ.e x) v) (fun _=>by simp only [aop]) (fun r=>by simp only [Ev])
def VO (f:Int→Int→Int) (x y:AV) (K:AV→Prop):Prop:=match x,y with
 | .int k n,.int k' m=>k=k'∧K (.int k (f n m))
 |_,_=>False
@[go_sem] theorem Y1 {f} {k} {n m} {K}:VO f (.int k n) (.int k m) K=A9 (f n m) fun r=>K (.int k r):=by simp [VO,A9]
theorem fQ {pos} {dst} {x y} {ts}:opX P pos dst (.call ⟨.builtin .max,List.toArray [x,y],ts⟩) σ K=VO (fun n m=>if n<m then m else n) (σ.e x) (σ.e y) fun v=>K (σ.put dst v):=by
 rw [Gv (p:=fun v=>VO (fun n m=>if n<m then m else n) (σ.e x) (σ.e y) fun u=>v=u) (fun _=>by simp only [aop]) (fun r=>by
  simp only [Ev,VO]
  generalize σ.e x=u
  generalize σ.e y=v
  cases u <;> cases v <;> simp [and_assoc])]
 unfold VO
 generalize σ.e x=u
 generalize σ.e y=v
 cases u <;> cases v <;> simp [and_assoc]
end
attribute [go_sem ↓] Yq Yr Ys Yt Z0 Z1 Z2 Z3 Z4 Z5 Z6 Z7 Yu Yv Yx Z8 Z9 aB Xa aC aD aF aE aG ck cm aK Y0 Y1
end Go.Proofs.YtaedfiifhjlmlaaGreat.Ab
