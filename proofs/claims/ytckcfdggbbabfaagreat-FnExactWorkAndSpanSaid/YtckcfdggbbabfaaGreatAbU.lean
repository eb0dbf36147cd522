/-
  The abstract walk as a set of rules for 'simp only [go_sem]': heads that wait, their congruences, one rule an operation.
-/
import Derived.Test.YtckcfdggbbabfaaGreatAbS
namespace Go.Proofs.YtckcfdggbbabfaaGreat.Ab
set_option linter.unusedVariables false
open Go.RowKit
section
variable {P:Program}
theorem EY {z}:∀ {vs} {σ} {K K'},(∀ds σ,K ds σ→K' ds σ)→Bo z vs σ K→Bo z vs σ K'
 | [],σ,K,K',hk,h=>by rw [Bo] at h ⊢; exact hk _ _ h
 | .int k n::vs,σ,K,K',hk,h=>by rw [Bo] at h ⊢; exact EY (fun ds σ=>hk _ σ) h
 | .bool b::vs,σ,K,K',hk,h=>by rw [Bo] at h ⊢; exact EY (fun ds σ=>hk _ σ) h
 | .str b::vs,σ,K,K',hk,h=>by rw [Bo] at h ⊢; exact EY (fun ds σ=>hk _ σ) h
 | .nils ::vs,σ,K,K',hk,h=>by rw [Bo] at h ⊢; exact EY (fun ds σ=>hk _ σ) h
 | .nilp ::vs,σ,K,K',hk,h=>by rw [Bo] at h ⊢; exact EY (fun ds σ=>hk _ σ) h
 | .ro _::vs,σ,K,K',hk,h=>by rw [Bo] at h ⊢; exact⟨h.1,EY (fun ds σ=>hk _ σ) h.2⟩
 | .rop _ _::vs,σ,K,K',hk,h=>by rw [Bo] at h ⊢; obtain⟨h1,d,h2,h3⟩:=h; exact⟨h1,d,h2,EY (fun ds σ=>hk _ σ) h3⟩
 | .bsl _ _ _::vs,σ,K,K',hk,h=>by
  rw [Bo] at h ⊢
  split at h
  ·rename_i h0
   rw [if_pos h0]
   exact EY (fun ds σ=>hk _ σ) h
  ·rename_i h0
   rw [if_neg h0]
   obtain⟨h1,h2,vs',h3,ds,h4,h5,h6⟩:=h
   exact⟨h1,h2,vs',h3,ds,h4,h5,EY (fun ds σ=>hk _ σ) h6⟩
 | .own t::vs,σ,K,K',hk,h=>by rw [Bo] at h ⊢; obtain⟨tk,h1,h2,h3⟩:=h; exact⟨tk,h1,h2,EY (fun ds σ=>hk _ σ) h3⟩
 | .sub _ _ _::vs,σ,K,K',hk,h=>by simp [Bo] at h
 | .els _ _ _ _ _ _::vs,σ,K,K',hk,h=>by simp [Bo] at h
 | .any ::vs,σ,K,K',hk,h=>by simp [Bo] at h
 | .box _ _::vs,σ,K,K',hk,h=>by simp [Bo] at h
 | .elt _ _ _ _::vs,σ,K,K',hk,h=>by simp [Bo] at h
 | .par _ _ _ _::vs,σ,K,K',hk,h=>by simp [Bo] at h
 | .agg _::vs,σ,K,K',hk,h=>by simp [Bo] at h
 | .tup _::vs,σ,K,K',hk,h=>by simp [Bo] at h
 | .fn _ _::vs,σ,K,K',hk,h=>by simp [Bo] at h
 | .mpr _::vs,σ,K,K',hk,h=>by simp [Bo] at h
 | .mpc _ _::vs,σ,K,K',hk,h=>by simp [Bo] at h
theorem Wq {t} {a x} {σ} {K K'} (hk:∀σ,K σ→K' σ) (h:NS P t a x σ K):NS P t a x σ K':=by
 unfold NS at h ⊢
 split at h
 ·obtain⟨h1,h2,h3,h4⟩:=h
  refine⟨h1,h2,h3,?_⟩
  split at h4
  ·obtain⟨vs,h5,h6,h7,h8⟩:=h4; exact⟨vs,h5,h6,h7,hk _ h8⟩
  ·obtain⟨tk0,h5,h4⟩:=h4
   exact⟨tk0,h5,EY (fun ds σ ⟨tk,row,k1,k2,k3,k4,k5⟩=>⟨tk,row,k1,k2,k3,k4,hk _ k5⟩) h4⟩
  ·exact EY (fun ds σ ⟨rows,k1,row,k2,k3,tk,k4,k5⟩=>⟨rows,k1,row,k2,k3,tk,k4,hk _ k5⟩) h4
  ·exact h4
 ·exact h
theorem Yt {z} {e} {sz} {x} {σ} {K K'} (hk:∀r σ,K r σ→K' r σ) (h:Qz z e sz x σ K):Qz z e sz x σ K':=by
 unfold Qz at h ⊢
 split at h
 ·exact hk _ _ h
 ·split at h
  ·rename_i h0
   rw [if_pos h0]
   exact hk _ _ h
  ·rename_i h0
   rw [if_neg h0]
   obtain⟨h0,h1,h2,vs',h3,ds,h4,h5,h6⟩:=h
   exact⟨h0,h1,h2,vs',h3,ds,h4,h5,hk _ _ h6⟩
 ·obtain⟨tk,h1,h2,h3⟩:=h; exact⟨tk,h1,h2,hk _ _ h3⟩
 ·exact h
theorem Yu {z} {sz} {x} {σ} {K K'} (hk:∀r σ,K r σ→K' r σ) (h:QO z sz x σ K):QO z sz x σ K':=by
 unfold QO at h ⊢
 split at h
 ·exact hk _ _ h
 ·obtain⟨vs,h1,h2,h3,h4,h5⟩:=h; exact⟨vs,h1,h2,h3,h4,EY (fun ds σ=>hk _ σ) h5⟩
 ·split at h
  ·exact⟨h.1,hk _ _ h.2⟩
  ·exact⟨h.1,hk _ _ h.2⟩
 ·obtain⟨tk,h1,h2,h3⟩:=h; exact⟨tk,h1,h2,hk _ _ h3⟩
 ·exact h
theorem Yv {pos} {t} {x y} {σ} {K K'} (hk:∀v σ,K v σ→K' v σ) (h:WP P pos t x y σ K):WP P pos t x y σ K':=by
 unfold WP at h ⊢
 split at h
 ·obtain⟨h1,h2,z,h⟩:=h
  exact⟨h1,h2,z,Yt (fun r σ h=>Yu (fun r2 σ2 h=>⟨h.1,h.2.1,h.2.2.1,hk _ _ h.2.2.2⟩) h) h⟩
 ·exact h
theorem Yw {t} {m i x} {σ} {K K'} (hk:∀σ,K σ→K' σ) (h:Un P t m i x σ K):Un P t m i x σ K':=by
 unfold Un at h ⊢
 split at h
 ·obtain⟨q,rows,h1,h2,h3,k,h4,h5,d,h6,h7⟩:=h; exact⟨q,rows,h1,h2,h3,k,h4,h5,d,h6,hk _ h7⟩
 ·exact h
theorem aS {pos} {o} {σ} {K K'} (hk:∀σ,K σ→K' σ) (h:aop P pos o σ K):aop P pos o σ K':=by
 unfold aop at h ⊢
 split at h
 ·exact⟨h.1,h.2.1,fun b hb=>hk _ (h.2.2 b hb)⟩
 ·exact⟨h.1,h.2.1,fun b hb=>hk _ (h.2.2 b hb)⟩
 ·exact Wq (fun σ=>hk _) h
 ·exact Yw (fun σ=>hk _) h
 ·split at h
  ·exact⟨h.1,Yv (fun v σ=>hk _) h.2⟩
  ·exact h
 ·obtain⟨r,h1,h2,h3,h4⟩:=h; exact⟨r,h1,h2,h3,hk _ h4⟩
theorem I1 {K K'} (hk:∀σ,K σ→K' σ):∀ {cv} {σ},Cs cv σ K→Cs cv σ K'
 | [],σ,h=>by rw [Cs] at h ⊢; exact hk _ h
 | (n,a,z)::cv,σ,h=>by
  cases a with
  |sub t g p=>
   rw [Cs] at h ⊢
   obtain⟨h1,h2,h3,tk,rows,h4,h5,h6,h7,h8⟩:=h
   exact⟨h1,h2,h3,tk,rows,h4,h5,h6,h7,I1 hk h8⟩
  |nils=>rw [Cs] at h ⊢; exact⟨h.1,I1 hk h.2⟩
  |bsl b m sz=>rw [Cs] at h ⊢; exact⟨h.1,h.2.1,I1 hk h.2.2⟩
  |_=>simp [Cs] at h
theorem K0:∀ {cv} {σ} {K K'},(∀σ,K σ→K' σ)→Bu cv σ K→Bu cv σ K'
 | [],σ,K,K',hk,h=>by rw [Bu] at h ⊢; exact hk _ h
 | (n,a,z)::cv,σ,K,K',hk,h=>by
  cases a with
  | sub t g p=>
   rw [Bu] at h ⊢
   refine K0 (fun σ h=>?_) h
   cases hn:σ.T n with
   |none=>simp only [hn] at h ⊢; exact hk _ h
   |some tn=>
    simp only [hn] at h ⊢
    obtain⟨tk,h1,h2,h3,h4⟩:=h
    exact⟨tk,h1,h2,h3,hk _ h4⟩
  |_=>
   rw [Bu] at h ⊢
   ·exact K0 (fun σ h=>hk _ h) h
   all_goals (intros; simp_all)
theorem Wr {f} {args} {σ} {K K'} (hk:∀v σ,K v σ→K' v σ) (h:Sw P f args σ K):Sw P f args σ K':=by
 obtain⟨y,as,pt,pb,r,qt,qb,h1,h2⟩:=h
 exact⟨y,as,pt,pb,r,qt,qb,h1,I1 (fun σ h=>⟨h.1,h.2.1,h.2.2.1,h.2.2.2.1,h.2.2.2.2.1,h.2.2.2.2.2.1,h.2.2.2.2.2.2.1,h.2.2.2.2.2.2.2.1,K0 (fun σ h=>hk _ _ h) h.2.2.2.2.2.2.2.2⟩) h2⟩
theorem Rj {K K'} (hk:∀a σ,K a σ→K' a σ):∀ {bs} {args} {σ},FzK bs args σ K→FzK bs args σ K'
 | [],args,σ,h=>hk _ _ h
 |b::bs,args,σ,h=>by
  obtain⟨vs,h1,h2,h3⟩:=h
  exact⟨vs,h1,h2,Rj hk h3⟩
theorem Ws {f} {args} {σ} {K K'} (hk:∀v σ,K v σ→K' v σ) (h:Xd P f args σ K):Xd P f args σ K':=by
 obtain⟨bs,h⟩:=h
 exact⟨bs,Rj (fun _ _ h=>Wr hk h) h⟩
theorem TO {L} {pos} {o} {σ} {K K'} (hk:∀σ,K σ→K' σ) (h:QQ P L pos o σ K):QQ P L pos o σ K':=by
 rcases h with ⟨hA,h⟩|⟨hL,h⟩|⟨hL,hA,r,h1,h2,h3,h4⟩
 ·exact .inl ⟨hA,aS hk h⟩
 ·refine .inr (.inl ⟨hL,?_⟩)
  rcases h with h|h
  ·refine .inl ?_
   unfold Lh at h ⊢
   split at h
   ·split at h
    ·exact Ws (fun v σ=>hk _) h
    ·exact h
   ·exact h
  ·refine .inr ?_
   unfold SliK at h ⊢
   split at h
   ·split at h
    ·obtain⟨tk,h1,el,h2,h3,i,h4,j,h5,r,h6,h7,h8⟩:=h
     exact⟨tk,h1,el,h2,h3,i,h4,j,h5,r,h6,h7,hk _ h8⟩
    ·exact h
   ·exact h
 ·exact .inr (.inr ⟨hL,hA,r,h1,h2,h3,hk _ h4⟩)
theorem HW {ops} {base cut} {K K'} (hk:∀σ,K σ→K' σ):∀ {l} {i} {σ},aops P ops base cut i l σ K→aops P ops base cut i l σ K'
 | [],i,σ,h=>by rw [aops] at h ⊢; exact hk _ h
 | o::rest,i,σ,h=>by
  rw [aops] at h ⊢
  split at h
  ·exact TO (fun σ h=>HW hk h) h
  ·obtain⟨s,h1,h⟩:=h
   refine⟨s,h1,?_⟩
   rcases h with ⟨b,h2,h3,h4⟩|⟨h2,h3⟩
   ·exact .inl ⟨b,h2,fun hb=>TO (fun σ h=>HW hk h) (h3 hb),fun hb=>HW hk (h4 hb)⟩
   ·exact .inr ⟨h2,HW hk h3⟩
theorem Yx {p} {K K'} (hk:∀σ,K σ→K' σ) {σ} (h:seqW p K σ):seqW p K' σ:=by
 unfold seqW at h ⊢
 split at h
 ·exact hk _ h
 ·obtain⟨σ1,h1,h2⟩:=h; exact⟨σ1,h1,hk _ h2⟩
theorem Rk {P} {ops} {base} {ts}:∀ (tr:Tr) {σ} {K K'},(∀σ,K σ→K' σ)→aTr P ops base ts tr σ K→aTr P ops base ts tr σ K'
 | .fin,σ,K,K',hk,h=>hk σ h
 | .stop,σ,K,K',hk,h=>trivial
 | .br i t more,σ,K,K',hk,h=>by
  simp only [aTr] at h ⊢
  refine⟨?_,Rk more hk h.2⟩
  have h1:=h.1
  split at h1
  ·exact HW (fun σ' h=>Rk t hk h) h1
  ·exact h1.elim
theorem Rl {P} {ops} {base} {r} {i} {o} {acc} {σ} {K K'} (hk:∀acc σ,K acc σ→K' acc σ) (h:Lj P ops base r i o acc σ K):Lj P ops base r i o acc σ K':=by
 unfold Lj at h ⊢
 cases r with
 |no=>exact HW (hk acc) h
 |al=>
  dsimp only at h ⊢
  split at h
  ·exact⟨h.1,hk _ _ h.2⟩
  ·exact h.elim
 | st k=>
  dsimp only at h ⊢
  split at h
  ·split at h
   ·exact⟨h.1,h.2.1,hk _ _ h.2.2⟩
   ·exact h.elim
  ·exact h.elim
theorem K1 {P} {ops} {base} {V}:∀ (l:List Oper) {E} {i} {ts} {acc} {σ} {K K'},(∀ts acc σ,K ts acc σ→K' ts acc σ)→E4 P ops base V E i l ts acc σ K→E4 P ops base V E i l ts acc σ K'
 | [],E,i,ts,acc,σ,K,K',hk,h=>by simp only [E4] at h ⊢; exact hk _ _ _ h
 |o::l,[],i,ts,acc,σ,K,K',hk,h=>by simp only [E4] at h ⊢; exact Rl (fun acc σ' h=>K1 l hk h) h
 |o::l,true::E,i,ts,acc,σ,K,K',hk,h=>by simp only [E4] at h ⊢; exact K1 l hk h
 |o::l,false::E,i,ts,acc,σ,K,K',hk,h=>by simp only [E4] at h ⊢; exact Rl (fun acc σ' h=>K1 l hk h) h
theorem Yy {P} {ops} {base} {draw} {σ} {K K'} (hk:∀σ,K σ→K' σ) (h:YQ P ops base draw σ K):YQ P ops base draw σ K':=by
 unfold YQ at h ⊢
 cases draw with
 |false=>exact HW hk h
 |true=>
  obtain⟨E,V,tr,hE,h⟩:=h
  exact⟨E,V,tr,hE,K1 _ (fun ts acc σ h=>⟨h.1,Rk tr hk h.2⟩) h⟩
theorem I2:∀ {c} {Q Q'} {σ},(∀q σ,Q q σ→Q' q σ)→awp P c Q σ→awp P c Q' σ
 | .skip,Q,Q',σ,hq,h=>by rw [awp] at h ⊢; exact hq _ _ h
 | .region id ops draw,Q,Q',σ,hq,h=>by rw [awp] at h ⊢; exact Yy (hq _) h
 | .seq a b,Q,Q',σ,hq,h=>by
  rw [awp] at h ⊢
  refine I2 (fun q σ h=>?_) h
  cases q with
  |normal=>
   have h':seqW (Iu a) (awp P b Q) σ:=h
   exact Yx (K:=awp P b Q) (K':=awp P b Q') (fun σ h=>I2 hq h) h'
  |exit id=>exact hq _ _ h
  |ret=>exact hq _ _ h
 | .cond c a b,Q,Q',σ,hq,h=>by
  rw [awp] at h ⊢
  obtain⟨v,h1,h2,h3⟩:=h
  exact⟨v,h1,fun e=>I2 hq (h2 e),fun e=>I2 hq (h3 e)⟩
 | .block id b,Q,Q',σ,hq,h=>by
  rw [awp] at h ⊢
  refine I2 (fun q σ h=>?_) h
  cases q with
  |normal=>exact hq _ _ h
  |exit i=>
   simp only [AE.inBlock] at h ⊢
   split at h
   ·rw [if_pos ‹_›]; exact hq _ _ h
   ·rw [if_neg ‹_›]; exact hq _ _ h
  |ret=>exact hq _ _ h
 | .loop b,Q,Q',σ,hq,h=>by
  rw [awp] at h ⊢
  intro L hL
  refine h L fun σ hσ=>hL σ (I2 (fun q σ h=>?_) hσ)
  cases q with
  |normal=>exact h
  |exit id=>exact hq _ _ h
  |ret=>exact hq _ _ h
 | .exit id,Q,Q',σ,hq,h=>by rw [awp] at h ⊢; exact hq _ _ h
 | .ret,Q,Q',σ,hq,h=>by rw [awp] at h ⊢; exact hq _ _ h
 | .rangeFunc _ _ _ _,Q,Q',σ,hq,h=>by simp [awp] at h
 | .goto _,Q,Q',σ,hq,h=>by simp [awp] at h
 | .label _,Q,Q',σ,hq,h=>by simp [awp] at h
theorem VQ {b} {Q} {σ} (h:awp P b (AE.then (fun σ'=>∃σ1,Wk σ' σ1∧awp P (.loop b) Q σ1) Q) σ):awp P (.loop b) Q σ:=by
 rw [awp]
 intro L hL
 refine⟨σ,.nil σ,hL σ (I2 (fun q σ h=>?_) h)⟩
 cases q with
 |normal=>
  obtain⟨σ1,h1,h2⟩:=h
  rw [awp] at h2
  obtain⟨σ0,h3,h4⟩:=h2 L hL
  exact⟨σ0,h1.trans h3,h4⟩
 |exit id=>exact h
 |ret=>exact h
end
def BA {α:Type} (v:α) (K:α→Prop):Prop:=K v
def optX {α:Type} (o:Option α) (K:α→Prop):Prop:=∃x,o=some x∧K x
def Ac (p q:Prop):Prop:=p∧q
def PU (b:Bool) (p q:Prop):Prop:=(b=true∧p)∨(b=false∧q)
def Rm (b:Bool) (p q:Prop):Prop:=(b=true→p)∧(b=false→q)
structure Wrap {α:Sort _} (a:α):Type where
def iT {α:Type} (v:α) (K:α→Prop) (_:Wrap K):Prop:=K v
def cZ {α:Type} (o:Option α) (K:α→Prop) (_:Wrap K):Prop:=∃x,o=some x∧K x
def Yz (p q:Prop) (_:Wrap q):Prop:=p∧q
def TP (b:Bool) (p q:Prop) (_:Wrap p) (_:Wrap q):Prop:=(b=true→p)∧(b=false→q)
def aT (b:Bool) (p q:Prop) (_:Wrap p) (_:Wrap q):Prop:=PU b p q
@[go_sem ↓] theorem kD {α:Type} {v:α} {K:α→Prop}:BA v K=iT v K ⟨⟩:=rfl
@[go_sem ↓] theorem kE {α:Type} {o:Option α} {K:α→Prop}:optX o K=cZ o K ⟨⟩:=rfl
@[go_sem ↓] theorem kF {p q:Prop}:Ac p q=Yz p q ⟨⟩:=rfl
@[go_sem ↓] theorem iU {b} {p q:Prop}:Rm b p q=TP b p q ⟨⟩ ⟨⟩:=rfl
@[go_sem ↓] theorem kG {b} {p q:Prop}:PU b p q=aT b p q ⟨⟩ ⟨⟩:=rfl
@[go_sem] theorem kH {α:Type} {v:α} {K:α→Prop} {w:Wrap K}:iT v K w=K v:=propext Iff.rfl
@[go_sem] theorem gS {α:Type} {x:α} {K:α→Prop} {w:Wrap K}:cZ (some x) K w=K x:=by simp [cZ]
@[go_sem] theorem gT {q:Prop} {w}:Yz True q w=q:=by simp [Yz]
@[go_sem] theorem lp {p:Prop} {w}:Yz p True w=p:=by simp [Yz]
@[go_sem] theorem fD {p q:Prop} {w} {w'}:TP true p q w w'=p:=by simp [TP]
@[go_sem] theorem eR {p q:Prop} {w} {w'}:TP false p q w w'=q:=by simp [TP]
@[go_sem] theorem gU {p q:Prop} {w} {w'}:aT true p q w w'=p:=by simp [PU,aT]
@[go_sem] theorem fE {p q:Prop} {w} {w'}:aT false p q w w'=q:=by simp [PU,aT]
theorem HX {α:Type} {x:α} {K:α→Prop}:optX (some x) K=K x:=by simp [optX]
theorem TQ {α:Type} {K:α→Prop}:optX none K=False:=by simp [optX]
theorem BC {p q:Prop} {w} (hp:p) (hq:q):Yz p q w:=⟨hp,hq⟩
theorem AZ {α:Type} {o:Option α} {x:α} {K:α→Prop} {w:Wrap K} (h:o=some x) (hk:K x):cZ o K w:=⟨x,h,hk⟩
@[go_sem] theorem gV:isMp [] =false:=rfl
@[go_sem] theorem gW {a}:isMp [a] =a.mp?:=rfl
@[go_sem] theorem gX {a b} {l}:isMp (a::b::l)=false:=rfl
@[go_sem] theorem gY:PF [] =true:=rfl
@[go_sem] theorem fF {a} {l}:PF (a::l)=(!a.mp?&&PF l):=rfl
attribute [go_sem] AV.mp?
@[go_sem] theorem fG {α:Type} {j:Nat} {x:α} {l:List (Nat × α)} {i:Nat}:look ((j,x)::l) i=if i=j then some x else look l i:=rfl
@[go_sem] theorem iV {α:Type} {i}:look ([] :List (Nat × α)) i=none:=rfl
@[go_sem] theorem St.T_mk {s t b} {i}:St.T ⟨s,t,b⟩ i=(look t i).join :=rfl
@[go_sem] theorem St.B_mk {s t b} {i}:St.B ⟨s,t,b⟩ i=(look b i).join :=rfl
@[go_sem] theorem St.g_mk {s t b} {i}:St.g ⟨s,t,b⟩ i=(look s i).getD .any :=rfl
@[go_sem] theorem St.t_mk {s t b}:St.t ⟨s,t,b⟩=t:=rfl
@[go_sem] theorem St.b_mk {s t b}:St.b ⟨s,t,b⟩=b:=rfl
@[go_sem] theorem St.s_mk {s t b}:St.s ⟨s,t,b⟩=s:=rfl
@[go_sem] theorem St.e_tmp {σ:St} {t:Tmp}:σ.e (.tmp t)=σ.g t:=rfl
@[go_sem] theorem St.e_func {σ:St} {f:FuncId}:σ.e (.func f)= .fn f [] :=rfl
@[go_sem] theorem St.e_const {σ:St} {v:Value}:σ.e (.const v)=BL v:=rfl
@[go_sem] theorem kI {k} {n}:BL (.int k n)= .int k n:=rfl
@[go_sem] theorem iW {b}:BL (.bool b)= .bool b:=rfl
@[go_sem] theorem kJ {s}:BL (.string s)= .str s:=rfl
@[go_sem] theorem iX:BL (.slice none 0 0)= .nils :=rfl
@[go_sem] theorem iY:BL (.pointer none)= .nilp :=rfl
@[go_sem] theorem iZ:Hp [] =[] :=rfl
@[go_sem] theorem gZ {v} {vs}:Hp (v::vs)=BL v::Hp vs:=rfl
@[go_sem] theorem ia {s t b} {d} {v}:St.put ⟨s,t,b⟩ (some d) v=⟨(d,v)::s,t,b⟩:=rfl
@[go_sem] theorem ib {σ} {v}:St.put σ none v=σ:=rfl
@[go_sem] theorem ic {s t b} {i}:St.killT ⟨s,t,b⟩ i=⟨s,(i,none)::t,b⟩:=rfl
@[go_sem] theorem kK {s t b} {i} {tk}:St.setT ⟨s,t,b⟩ i tk=⟨s,(i,some tk)::t,b⟩:=rfl
@[go_sem] theorem kL {s t b} {i} {vs}:St.setB ⟨s,t,b⟩ i vs=⟨s,t,(i,some vs)::b⟩:=rfl
attribute [go_sem] Option.join_some Option.join_none Option.getD_some Option.getD_none reduceIte eq_self and_self true_and and_true
attribute [go_sem] List.getElem?_cons_zero List.getElem?_cons_succ List.length_cons List.length_nil List.take_succ_cons List.take_zero List.take_nil List.drop_succ_cons List.drop_zero List.map_cons List.map_nil List.set_cons_zero List.set_cons_succ List.cons_append List.nil_append Option.some.injEq reduceCtorEq TI.isAgg TI.sc AV.one splice List.all_cons List.all_nil Bool.and_self Bool.true_and Bool.and_true
def Lz (P:Program) (ops:Array Oper) (base cut i:Nat) (l:List Oper) (σ:St) (K:St→Prop) (_:Wrap ops) (_:Wrap l) (_:Wrap K) (_:Wrap cut):Prop:=aops P ops base cut i l σ K
@[go_sem ↓] theorem kM {P} {ops} {base cut i} {l} {K} {σ}:aops P ops base cut i l σ K=Lz P ops base cut i l σ K ⟨⟩ ⟨⟩ ⟨⟩ ⟨⟩:=rfl
section
variable {P:Program} {σ:St} {K:St→Prop} {Q:AE→St→Prop}
@[go_sem ↓] theorem lq:awp P .skip Q σ=Q .normal σ:=by rw [awp]
@[go_sem ↓] theorem ie {id} {l}:awp P (.region id l.toArray false) Q σ=aops P l.toArray (id*1000+1000) 0 0 l σ (Q .normal):=by rw [awp]; rfl
def aU (P:Program) (id:Nat) (l:List Oper) (Q:AE→St→Prop) (σ:St) (_:Wrap l) (_:Wrap Q) (_:Wrap σ):Prop:=YQ P l.toArray (id*1000+1000) true σ (Q .normal)
@[go_sem ↓] theorem lr {id} {l}:awp P (.region id l.toArray true) Q σ=aU P id l Q σ ⟨⟩ ⟨⟩ ⟨⟩:=by rw [awp]; rfl
theorem aV {id} {l} {w1} {w2} {w3} (E:List Bool) (V:List (Nat × Nat)) (tr:Tr) (h:Kp E V tr l.toArray=true) (k:E4 P l.toArray (id*1000+1000) V E 0 l [] [] σ fun ts acc σ'=>WS acc σ' fun σ'=>aTr P l.toArray (id*1000+1000) ts tr σ' (Q .normal)):aU P id l Q σ w1 w2 w3:=⟨E,V,tr,h,k⟩
theorem AY {id} {l} {w1} {w2} {w3} (E:List Bool) (tr:Tr) (h:Kp E [] tr l.toArray=true) (k:E4 P l.toArray (id*1000+1000) [] E 0 l [] [] σ fun ts acc σ'=>WS acc σ' fun σ'=>aTr P l.toArray (id*1000+1000) ts tr σ' (Q .normal)):aU P id l Q σ w1 w2 w3:=⟨E,[],tr,h,k⟩
def cc (acc:List (Nat × List AV)) (σ:St) (K:St→Prop) (_:Wrap σ) (_:Wrap K):Prop:=WS acc σ K
@[go_sem ↓] theorem kN {acc} {σ} {K}:WS acc σ K=cc acc σ K ⟨⟩ ⟨⟩:=rfl
@[go_sem] theorem ig {σ} {K} {w1 w2}:cc [] σ K w1 w2=K σ:=by
 unfold cc WS
 simp [EF,addB]
theorem eS {acc} {s} {t} {b} {K} {w1 w2} (h:EF ⟨s,t,b⟩ acc) (k:K ⟨s,t,addB b acc⟩):cc acc ⟨s,t,b⟩ K w1 w2:=⟨h,k⟩
attribute [go_sem] addB
def Jx (P:Program) (ops:Array Oper) (base:Nat) (V:List (Nat × Nat)) (E:List Bool) (i:Nat) (l:List Oper) (ts:List (Nat × Oper)) (acc:List (Nat × List AV)) (σ:St) (K:List (Nat × Oper)→List (Nat × List AV)→St→Prop) (_:Wrap ops) (_:Wrap l) (_:Wrap ts) (_:Wrap K) (_:Wrap V) (_:Wrap acc):Prop:=E4 P ops base V E i l ts acc σ K
def Wt (P:Program) (ops:Array Oper) (base:Nat) (r:VR) (i:Nat) (o:Oper) (acc:List (Nat × List AV)) (σ:St) (K:List (Nat × List AV)→St→Prop):Prop:=Lj P ops base r i o acc σ K
def Tw (P:Program) (ops:Array Oper) (base:Nat) (r:VR) (i:Nat) (o:Oper) (acc:List (Nat × List AV)) (σ:St) (K:List (Nat × List AV)→St→Prop) (_:Wrap ops) (_:Wrap o) (_:Wrap acc) (_:Wrap σ) (_:Wrap K):Prop:=Lj P ops base r i o acc σ K
section
variable {ops:Array Oper} {base i:Nat} {V:List (Nat × Nat)} {E:List Bool} {ts:List (Nat × Oper)} {acc:List (Nat × List AV)} {H:List (Nat × Oper)→List (Nat × List AV)→St→Prop} {o:Oper} {l:List Oper} {w1:Wrap ops} {w3:Wrap ts} {w4:Wrap H} {w5:Wrap V} {w6:Wrap acc}
@[go_sem ↓] theorem ii:E4 P ops base V E i l ts acc σ H=Jx P ops base V E i l ts acc σ H ⟨⟩ ⟨⟩ ⟨⟩ ⟨⟩ ⟨⟩ ⟨⟩:=rfl
@[go_sem] theorem ml {w2}:Jx P ops base V E i [] ts acc σ H w1 w2 w3 w4 w5 w6=H ts acc σ:=by unfold Jx; cases E with|nil=>rfl|cons b E=>cases b <;> rfl
@[go_sem] theorem lw {w2}:Jx P ops base V (true::E) i (o::l) ts acc σ H w1 w2 w3 w4 w5 w6=E4 P ops base V E (i+1) l ((i,o)::ts) acc σ H:=rfl
@[go_sem] theorem kO {w2}:Jx P ops base V (false::E) i (o::l) ts acc σ H w1 w2 w3 w4 w5 w6=Wt P ops base (CE V i) i o acc σ fun acc' σ'=>E4 P ops base V E (i+1) l ts acc' σ' H:=rfl
@[go_sem] theorem mm {w2}:Jx P ops base V [] i (o::l) ts acc σ H w1 w2 w3 w4 w5 w6=Wt P ops base (CE V i) i o acc σ fun acc' σ'=>E4 P ops base V [] (i+1) l ts acc' σ' H:=rfl
@[go_sem] theorem fH {x} {xs b} {w2}:Jx P ops base V E i (List.append (x::xs) b) ts acc σ H w1 w2 w3 w4 w5 w6=Jx P ops base V E i (x::List.append xs b) ts acc σ H w1 ⟨⟩ w3 w4 w5 w6:=rfl
@[go_sem] theorem gc {b} {w2}:Jx P ops base V E i (List.append [] b) ts acc σ H w1 w2 w3 w4 w5 w6=Jx P ops base V E i b ts acc σ H w1 ⟨⟩ w3 w4 w5 w6:=rfl
@[go_sem ↓] theorem ij {r} {K}:Wt P ops base r i o acc σ K=Tw P ops base r i o acc σ K ⟨⟩ ⟨⟩ ⟨⟩ ⟨⟩ ⟨⟩:=rfl
attribute [go_sem] CE
@[go_sem] theorem ik {K} {w1 w2 w3 w4 w5}:Tw P ops base .no i o acc σ K w1 w2 w3 w4 w5=aops P ops base (i+1) i [o] σ (K acc):=rfl
@[go_sem] theorem il {K} {dst} {t ty} {ps} {af} {w1 w2 w3 w4 w5}:Tw P ops base .al i ⟨dst,.alloc t,ty,ps,af,none⟩ acc σ K w1 w2 w3 w4 w5=Ac (0<(tz P t).length ∧(tz P t).length =tsz P t∧isMp ((tz P t).map zAV)=false) (K acc (σ.put dst (.box (base+i) 0))):=rfl
def stV (P:Program) (base k:Nat) (t:TypeId) (x a:AV) (dst:Option Tmp) (acc:List (Nat × List AV)) (σ:St) (K:List (Nat × List AV)→St→Prop):Prop:=match cellsOf x with
 |some cs=>(cs.length=tsz P t∧0<tsz P t∧cs.all AV.one=true)∧a= .box (base+k) 0∧K ((base+k,cs)::acc) (σ.put dst .any)
 |none=>False
@[go_sem] theorem im {K} {k} {dst} {t ty} {a x} {ps} {af} {w1 w2 w3 w4 w5}:Tw P ops base (.st k) i ⟨dst,.store t a x,ty,ps,af,none⟩ acc σ K w1 w2 w3 w4 w5=BA (σ.e x) fun x=>BA (σ.e a) fun a=>stV P base k t x a dst acc σ K:=rfl
def fI (P:Program) (base k:Nat) (t:TypeId) (x a:AV) (dst:Option Tmp) (acc:List (Nat × List AV)) (σ:St) (K:List (Nat × List AV)→St→Prop) (_:Wrap x) (_:Wrap a) (_:Wrap acc) (_:Wrap σ) (_:Wrap K):Prop:=stV P base k t x a dst acc σ K
@[go_sem ↓] theorem lx {k} {t} {x a} {dst} {K}:stV P base k t x a dst acc σ K=fI P base k t x a dst acc σ K ⟨⟩ ⟨⟩ ⟨⟩ ⟨⟩ ⟨⟩:=rfl
theorem Xx {k} {t} {x a} {dst} {K} {w1 w2 w3 w4 w5} (cs:List AV) (h1:cellsOf x=some cs) (h2:cs.length=tsz P t∧0<tsz P t∧cs.all AV.one=true) (h3:a= .box (base+k) 0) (h:K ((base+k,cs)::acc) (σ.put dst .any)):fI P base k t x a dst acc σ K w1 w2 w3 w4 w5:=by
 unfold fI stV
 rw [h1]
 exact⟨h2,h3,h⟩
def trX (o:Option Oper) (f:Oper→Prop):Prop:=match o with
 |some o=>f o
 |none=>False
def trY (o:Option Oper) (f:Oper→Prop) (_:Wrap f):Prop:=trX o f
@[go_sem ↓] theorem ly {x} {f}:trX x f=trY x f ⟨⟩:=rfl
@[go_sem] theorem io {f} {w}:trY (some o) f w=f o:=rfl
def fJ (p q:Prop):Prop:=p∧q
def ip (p q:Prop) (_:Wrap p) (_:Wrap q):Prop:=p∧q
@[go_sem ↓] theorem kP {p q:Prop}:fJ p q=ip p q ⟨⟩ ⟨⟩:=rfl
theorem BW {p q:Prop} {w} {w'} (hp:p) (hq:q):ip p q w w':=⟨hp,hq⟩
def SU (P:Program) (ops:Array Oper) (base:Nat) (ts:List (Nat × Oper)) (tr:Tr) (σ:St) (K:St→Prop) (_:Wrap ops) (_:Wrap ts) (_:Wrap K):Prop:=aTr P ops base ts tr σ K
@[go_sem ↓] theorem lz {tr}:aTr P ops base ts tr σ K=SU P ops base ts tr σ K ⟨⟩ ⟨⟩ ⟨⟩:=rfl
@[go_sem] theorem l0 {w3} {w4}:SU P ops base ts .fin σ K w1 w3 w4=K σ:=rfl
@[go_sem] theorem l5 {t} {w3} {w4}:SU P ops base ts (.br i t .stop) σ K w1 w3 w4=trX (look ts i) fun o=>aops P ops base 0 i [o] σ fun σ'=>aTr P ops base ts t σ' K:=by
 unfold SU trX
 rw [aTr,aTr,and_true]
 rfl
@[go_sem] theorem l6 {t u m} {j} {w3} {w4}:SU P ops base ts (.br i t (.br j u m)) σ K w1 w3 w4=fJ (aTr P ops base ts (.br i t .stop) σ K) (aTr P ops base ts (.br j u m) σ K):=by
 unfold SU fJ
 simp only [aTr,and_true]
@[go_sem] theorem l7 {t} {w3} {w4}:SU P ops base ts (Tr.sq [] t) σ K w1 w3 w4=SU P ops base ts t σ K w1 w3 w4:=rfl
@[go_sem] theorem mn {t} {is} {w3} {w4}:SU P ops base ts (Tr.sq (i::is) t) σ K w1 w3 w4=SU P ops base ts (.br i (Tr.sq is t) .stop) σ K w1 w3 w4:=rfl
end
def cd (p:Bool) (K:St→Prop) (σ:St):Prop:=seqW p K σ
def VS (p:Bool) (K:St→Prop) (σ:St) (_:Wrap K) (_:Wrap σ):Prop:=seqW p K σ
@[go_sem ↓] theorem kQ {p}:cd p K σ=VS p K σ ⟨⟩ ⟨⟩:=rfl
@[go_sem] theorem gd {w1} {w2}:VS true K σ w1 w2=K σ:=rfl
theorem F3 {w1} {w2} (h:K σ):VS false K σ w1 w2:=⟨σ,.nil σ,h⟩
theorem Wu {w1} {w2} {σ1} (hn:Nils σ σ1) (h:K σ1):VS false K σ w1 w2:=⟨σ1,.fz hn (.nil σ1),h⟩
theorem aW {w1} {w2} {σ1} (h:K σ1) (hw:Wk σ σ1):VS false K σ w1 w2:=⟨σ1,hw,h⟩
@[go_sem] theorem ce {id:Nat} {l:List Oper}:Iu (.region id l.toArray false)=l.all fun o=>o.guard.isNone&&eq o.op:=rfl
attribute [go_sem] eq Bool.and_true Bool.true_and Bool.and_false Bool.false_and
@[go_sem] theorem fK {id:Nat} {l:List Oper}:Iu (.region id l.toArray true)=false:=rfl
@[go_sem] theorem fL:Iu .skip =false:=rfl
@[go_sem] theorem gf {a b}:Iu (.seq a b)=false:=rfl
@[go_sem] theorem fM {c} {a b}:Iu (.cond c a b)=false:=rfl
@[go_sem] theorem eU {id} {a}:Iu (.block id a)=false:=rfl
@[go_sem] theorem fN {a}:Iu (.loop a)=false:=rfl
@[go_sem] theorem fO {id}:Iu (.exit id)=false:=rfl
@[go_sem] theorem gh:Iu .ret =false:=rfl
attribute [go_sem] Option.isNone_none Option.isNone_some List.all_cons List.all_nil
@[go_sem ↓] theorem mo {a b}:awp P (.seq a b) Q σ=awp P a (AE.then (cd (Iu a) (awp P b Q)) Q) σ:=by rw [awp]; rfl
@[go_sem ↓] theorem l8 {c} {a b}:awp P (.cond c a b) Q σ=BA (σ.e c) fun v=>Xe v (awp P a Q σ) (awp P b Q σ):=by rw [awp]; rfl
@[go_sem ↓] theorem kR {id} {c}:awp P (.block id c) Q σ=awp P c (AE.inBlock id Q) σ:=by rw [awp]
@[go_sem ↓] theorem l9 {id}:awp P (.exit id) Q σ=Q (.exit id) σ:=by rw [awp]
@[go_sem ↓] theorem mq:awp P .ret Q σ=Q .ret σ:=by rw [awp]
@[go_sem] theorem Wv {b} {p q:Prop}:Xe (.bool b) p q=Rm b p q:=by simp [Xe,Rm]
@[go_sem ↓] theorem eV {n}:AE.then n Q .normal σ=n σ:=rfl
@[go_sem ↓] theorem gi {n} {id}:AE.then n Q (.exit id) σ=Q (.exit id) σ:=rfl
@[go_sem ↓] theorem iq {n}:AE.then n Q .ret σ=Q .ret σ:=rfl
@[go_sem ↓] theorem cf {id}:AE.inBlock id Q .normal σ=Q .normal σ:=rfl
@[go_sem ↓] theorem gj {id}:AE.inBlock id Q .ret σ=Q .ret σ:=rfl
def VT (P:Program) (b:Code) (Q:AE→St→Prop) (σ:St) (_:Wrap b) (_:Wrap Q):Prop:=awp P (.loop b) Q σ
def lpX (P:Program) (b:Code) (Q:AE→St→Prop) (σ:St):Prop:=∃σ1,Wk σ σ1∧awp P (.loop b) Q σ1
def lpY (P:Program) (b:Code) (Q:AE→St→Prop) (σ:St) (_:Wrap b) (_:Wrap Q) (_:Wrap σ):Prop:=∃σ1,Wk σ σ1∧awp P (.loop b) Q σ1
@[go_sem ↓] theorem mA {b}:lpX P b Q σ=lpY P b Q σ ⟨⟩ ⟨⟩ ⟨⟩:=rfl
theorem TR {b} {w1} {w2} {w3} {σ1} (h:awp P (.loop b) Q σ1) (hw:Wk σ σ1):lpY P b Q σ w1 w2 w3:=⟨σ1,hw,h⟩
theorem AX {b} {w1} {w2} (h:awp P b (AE.then (lpX P b Q) Q) σ):VT P b Q σ w1 w2:=VQ h
@[go_sem ↓] theorem gm {b}:awp P (.loop b) Q σ=VT P b Q σ ⟨⟩ ⟨⟩:=rfl
@[go_sem ↓] theorem fP {id i}:AE.inBlock id Q (.exit i) σ=PU (decide (i=id)) (Q .normal σ) (Q (.exit i) σ):=by
 simp only [AE.inBlock,PU]
 by_cases h:i=id <;> simp [h]
attribute [go_sem] decide_true decide_false
def opX (P:Program) (pos:Nat) (dst:Option Tmp) (op:Op) (σ:St) (K:St→Prop):Prop:=aop P pos ⟨dst,op,0, "",#[],none⟩ σ K
def opL (P:Program) (L:Bool) (pos:Nat) (dst:Option Tmp) (op:Op) (σ:St) (K:St→Prop) (_:Wrap L):Prop:=QQ P L pos ⟨dst,op,0, "",#[],none⟩ σ K
theorem VU {L} {pos} {o}:QQ P L pos o σ K=opL P L pos o.dst o.op σ K ⟨⟩:=by
 obtain⟨dst,op,type,ps,after,guard⟩:=o
 rfl
@[go_sem] theorem mr {ops} {base cut i} {w1} {w2} {w3} {w4}:Lz P ops base cut i [] σ K w1 w2 w3 w4=K σ:=by rw [Lz,aops]
@[go_sem] theorem mB {ops} {base cut i} {dst} {op} {type} {ps} {after} {rest} {w1} {w2} {w3} {w4}:
  Lz P ops base cut i (⟨dst,op,type,ps,after,none⟩::rest) σ K w1 w2 w3 w4=opL P (decide (cut≤i)) (base+i) dst op σ (fun σ'=>aops P ops base cut (i+1) rest σ' K) ⟨⟩:=by
 rw [Lz,aops]; simp only [VU]
def OU (ops:Array Oper) (j:Nat) (K:Tmp→Prop):Prop:=optX (IL ops j) K
@[go_sem ↓] theorem fQ {dst} {op} {type} {ps} {after} {g} {rest} {K}:OU (List.toArray (⟨some dst,op,type,ps,after,g⟩::rest)) 0 K=K dst:=by
 simp [OU,IL,optX]
@[go_sem ↓] theorem fR {o} {rest} {j} {K}:OU (List.toArray (o::rest)) (j+1) K=OU rest.toArray j K:=by
 simp [OU,IL]
def L0 (v:AV) (want:Bool) (p q q':Prop):Prop:=(∃b,v= .bool b∧(b=want→p)∧(b= !want→q))∨(v= .tup [] ∧q')
@[go_sem ↓] theorem VV {b} {p q q':Prop}:L0 (.bool b) true p q q'=Rm b p q:=by simp [L0,Rm]
@[go_sem ↓] theorem Tx {b} {p q q':Prop}:L0 (.bool b) false p q q'=Rm b q p:=by
 simp only [L0,Rm,AV.bool.injEq,exists_eq_left',Bool.not_false,reduceCtorEq,false_and,or_false]
 exact propext And.comm
@[go_sem ↓] theorem Y0 {want} {p q q':Prop}:L0 (.tup []) want p q q'=q':=by simp [L0]
@[go_sem] theorem kS {ops} {base cut i} {dst} {op} {type} {ps} {after} {j} {want} {rest} {w1} {w2} {w3} {w4}:
  Lz P ops base cut i (⟨dst,op,type,ps,after,some (j,want)⟩::rest) σ K w1 w2 w3 w4=OU ops j fun s=>BA (σ.g s) fun v=>L0 v want
   (opL P (decide (cut≤i)) (base+i) dst op (σ.put (some s) (.bool want)) (fun σ'=>aops P ops base cut (i+1) rest σ' K) ⟨⟩)
   (aops P ops base cut (i+1) rest ((σ.put (some s) (.bool (!want))).put dst (.tup [])) K)
   (aops P ops base cut (i+1) rest (σ.put dst (.tup [])) K):=by
 rw [Lz,aops]
 simp only [VU,OU,optX,L0,BA]
section
variable {L:Bool} {pos:Nat} {dst:Option Tmp} {wL:Wrap L}
theorem C9 {op} (h:∀ (σ:St) (K:St→Prop),Lh P ⟨dst,op,0, "",#[],none⟩ σ K=False) (hA:Q3 ⟨dst,op,0, "",#[],none⟩=false:=by rfl) (hS:SliK P pos ⟨dst,op,0, "",#[],none⟩ σ K=False:=by rfl):opL P L pos dst op σ K wL=opX P pos dst op σ K:=by
 unfold opL QQ opX
 rw [h,hA,hS]; simp
@[go_sem ↓] theorem ir {x}:opL P L pos dst (.move x) σ K wL=opX P pos dst (.move x) σ K:=C9 fun _ _=>rfl
@[go_sem ↓] theorem fS {x}:opL P L pos dst (.assign x) σ K wL=opX P pos dst (.assign x) σ K:=C9 fun _ _=>rfl
@[go_sem ↓] theorem it {a b c}:opL P L pos dst (.pick c a b) σ K wL=opX P pos dst (.pick c a b) σ K:=C9 fun _ _=>rfl
@[go_sem ↓] theorem iu {t} {a}:opL P L pos dst (.load t a) σ K wL=opX P pos dst (.load t a) σ K:=C9 fun _ _=>rfl
@[go_sem ↓] theorem cg {x}:opL P L pos dst (.nilCheck x) σ K wL=opX P pos dst (.nilCheck x) σ K:=C9 fun _ _=>rfl
@[go_sem ↓] theorem kU {op} {t t'} {x y}:opL P L pos dst (.binOp op t x y t') σ K wL=opX P pos dst (.binOp op t x y t') σ K:=C9 fun _ _=>rfl
@[go_sem ↓] theorem mC {op} {t} {x}:opL P L pos dst (.unOp op t x) σ K wL=opX P pos dst (.unOp op t x) σ K:=C9 fun _ _=>rfl
@[go_sem ↓] theorem eW {s d} {x}:opL P L pos dst (.convert s d x) σ K wL=opX P pos dst (.convert s d x) σ K:=C9 fun _ _=>rfl
@[go_sem ↓] theorem cI {s} {x} {f}:opL P L pos dst (.fieldAddr s x f) σ K wL=opX P pos dst (.fieldAddr s x f) σ K:=C9 fun _ _=>rfl
@[go_sem ↓] theorem cJ {t} {x i}:opL P L pos dst (.indexAddr t x i) σ K wL=opX P pos dst (.indexAddr t x i) σ K:=C9 fun _ _=>rfl
@[go_sem ↓] theorem go {t} {x i}:opL P L pos dst (.index t x i) σ K wL=opX P pos dst (.index t x i) σ K:=C9 fun _ _=>rfl
def Ww (P:Program) (L:Bool) (pos:Nat) (dst:Option Tmp) (op:Op) (v:AV) (σ:St) (K:St→Prop):Prop:=opX P pos dst op σ K∨(L=true∧(match v with| .own _=>True|_=>False)∧SliK P pos ⟨dst,op,0, "",#[],none⟩ σ K)
def Wx (P:Program) (L:Bool) (pos:Nat) (dst:Option Tmp) (op:Op) (v:AV) (σ:St) (K:St→Prop) (_:Wrap σ) (_:Wrap K) (_:Wrap op):Prop:=Ww P L pos dst op v σ K
@[go_sem ↓] theorem kV {op} {v}:Ww P L pos dst op v σ K=Wx P L pos dst op v σ K ⟨⟩ ⟨⟩ ⟨⟩:=rfl
@[go_sem] theorem kW {op} {rows} {w1 w2 w3}:Wx P L pos dst op (.ro rows) σ K w1 w2 w3=opX P pos dst op σ K:=by simp [Wx,Ww]
@[go_sem] theorem iw {op} {s} {w1 w2 w3}:Wx P L pos dst op (.str s) σ K w1 w2 w3=opX P pos dst op σ K:=by simp [Wx,Ww]
theorem Y1 {t} {x} {l h m}:opL P L pos dst (.slice t x l h m) σ K wL=Ww P L pos dst (.slice t x l h m) (σ.e x) σ K:=by
 have h1:Lh P ⟨dst,.slice t x l h m,0, "",#[],none⟩ σ K=False:=rfl
 have h2:Q3 ⟨dst,.slice t x l h m,0, "",#[],none⟩=false:=rfl
 have h3:SliK P pos ⟨dst,.slice t x l h m,0, "",#[],none⟩ σ K=((match σ.e x with| .own _=>True|_=>False)∧SliK P pos ⟨dst,.slice t x l h m,0, "",#[],none⟩ σ K):=by
  unfold SliK
  cases m with
  |some m=>simp
  |none=>
   simp only
   generalize σ.e x=v
   cases v <;> simp
 unfold opL QQ Ww opX
 rw [h1,h2]
 refine propext ⟨?_,?_⟩
 ·rintro (⟨-,h⟩|⟨hL,h|h⟩|⟨-,h,-⟩)
  ·exact .inl h
  ·exact h.elim
  ·rw [h3] at h; exact .inr ⟨hL,h⟩
  ·cases h
 ·rintro (h|⟨hL,-,h⟩)
  ·exact .inl ⟨.inr rfl,h⟩
  ·exact .inr (.inl ⟨hL,.inr h⟩)
@[go_sem ↓] theorem fT {t} {x} {l h m}:opL P L pos dst (.slice t x l h m) σ K wL=BA (σ.e x) fun v=>Ww P L pos dst (.slice t x l h m) v σ K:=Y1
theorem eX {t el} {x} {l h} {n} {tk} {i j} {r} {w1 w2 w3} (he:σ.e x= .own n) (hT:σ.T n=some tk) (hu:ti P t= .sl el) (hz:0<tsz P el) (hr:∀row ∈ tk.rows,row.length=tsz P el) (hi:bndI (l.map σ.e) 0=some i) (hj:bndI (h.map σ.e) tk.rows.length=some j) (hc:cutL tk.rows i j=some r) (hl:look σ.t (pos*16)=none)
  (k:K (St.put ⟨σ.s,(pos*16,some ⟨r,none,0,tk.z⟩)::(n,none)::σ.t,σ.b⟩ dst (.own (pos*16)))):Wx P true pos dst (.slice t x l h none) (.own n) σ K w1 w2 w3:=by
 refine .inr ⟨rfl,trivial,?_⟩
 unfold SliK
 simp only [he]
 exact⟨tk,hT,el,hu,⟨hz,hr⟩,i,hi,j,hj,r,hc,hl,k⟩
@[go_sem ↓] theorem eY {x} {i}:opL P L pos dst (.extract x i) σ K wL=opX P pos dst (.extract x i) σ K:=C9 fun _ _=>rfl
@[go_sem ↓] theorem ci {c} {a b}:opL P L pos dst (.makeFunc c a b) σ K wL=opX P pos dst (.makeFunc c a b) σ K:=C9 fun _ _=>rfl
@[go_sem ↓] theorem kX {t} {x}:opL P L pos dst (.box t x) σ K wL=opX P pos dst (.box t x) σ K:=C9 fun _ _=>rfl
@[go_sem ↓] theorem gp {t}:opL P L pos dst (.alloc t) σ K wL=opX P pos dst (.alloc t) σ K:=C9 fun _ _=>rfl
@[go_sem ↓] theorem gq {t} {ps}:opL P L pos dst (.build t ps) σ K wL=opX P pos dst (.build t ps) σ K:=C9 fun _ _=>rfl
@[go_sem ↓] theorem aX {t} {n} {ps}:opL P L pos dst (.buildSlice t n ps) σ K wL=opX P pos dst (.buildSlice t n ps) σ K:=C9 fun _ _=>rfl
@[go_sem ↓] theorem cK {t} {l c}:opL P L pos dst (.makeSlice t l c) σ K wL=opX P pos dst (.makeSlice t l c) σ K:=C9 fun _ _=>rfl
@[go_sem ↓] theorem eZ {t} {r}:opL P L pos dst (.makeMap t r) σ K wL=opX P pos dst (.makeMap t r) σ K:=C9 fun _ _=>rfl
@[go_sem ↓] theorem fU {t} {x i} {ok}:opL P L pos dst (.lookup t x i ok) σ K wL=opX P pos dst (.lookup t x i ok) σ K:=C9 fun _ _=>rfl
@[go_sem ↓] theorem cL {t} {m i x}:opL P L pos dst (.mapUpdate t m i x) σ K wL=opX P pos dst (.mapUpdate t m i x) σ K:=C9 fun _ _=>rfl
@[go_sem ↓] theorem gr {t} {a x}:opL P L pos dst (.store t a x) σ K wL=opX P pos dst (.store t a x) σ K:=C9 fun _ _=>rfl
@[go_sem ↓] theorem kY {as} {ts}:opL P L pos dst (.call ⟨.builtin .len,as,ts⟩) σ K wL=opX P pos dst (.call ⟨.builtin .len,as,ts⟩) σ K:=C9 fun _ _=>rfl
@[go_sem ↓] theorem kZ {as} {ts}:opL P L pos dst (.call ⟨.builtin .max,as,ts⟩) σ K wL=opX P pos dst (.call ⟨.builtin .max,as,ts⟩) σ K:=C9 fun _ _=>rfl
@[go_sem ↓] theorem kc {as} {ts}:opL P L pos dst (.call ⟨.builtin .min,as,ts⟩) σ K wL=opX P pos dst (.call ⟨.builtin .min,as,ts⟩) σ K:=C9 fun _ _=>rfl
def opE (P:Program) (pos:Nat) (dst:Option Tmp) (op:Op) (σ:St) (K:St→Prop):Prop:=∃r,Ev P pos ⟨dst,op,0, "",#[],none⟩ σ.e σ.T σ.B r∧Cr σ r.t∧EF σ r.b∧K (σ.add dst r)
def Y2 (L:Bool) (p q:Prop) (_:Wrap p) (_:Wrap q):Prop:=(L=true∧p)∨(L=false∧q)
@[go_sem] theorem gu {p q:Prop} {w1} {w2}:Y2 true p q w1 w2=p:=by simp [Y2]
@[go_sem] theorem fV {p q:Prop} {w1} {w2}:Y2 false p q w1 w2=q:=by simp [Y2]
@[go_sem ↓] theorem fW {as} {ts}:opL P L pos dst (.call ⟨.builtin .append,as,ts⟩) σ K wL=Y2 L (opX P pos dst (.call ⟨.builtin .append,as,ts⟩) σ K) (opE P pos dst (.call ⟨.builtin .append,as,ts⟩) σ K) ⟨⟩ ⟨⟩:=by
 have h1:Lh P ⟨dst,.call ⟨.builtin .append,as,ts⟩,0, "",#[],none⟩ σ K=False:=rfl
 have h2:Q3 ⟨dst,.call ⟨.builtin .append,as,ts⟩,0, "",#[],none⟩=true:=rfl
 have h3:SliK P pos ⟨dst,.call ⟨.builtin .append,as,ts⟩,0, "",#[],none⟩ σ K=False:=rfl
 unfold opL QQ opX Y2 opE
 rw [h1,h2,h3]
 simp
end
attribute [go_sem] Bool.not_true Bool.not_false Nat.zero_le
theorem Gx {pos:Nat} {dst:Option Tmp} {op:Op} (h:∀K',aop P pos ⟨dst,op,0, "",#[],none⟩ σ K'=∃r,Ev P pos ⟨dst,op,0, "",#[],none⟩ σ.e σ.T σ.B r∧Cr σ r.t∧EF σ r.b∧K' (σ.add dst r)) {p:AV→Prop} (hp:∀r,Ev P pos ⟨dst,op,0, "",#[],none⟩ σ.e σ.T σ.B r=∃v,p v∧r=⟨v,[],[]⟩):
  opX P pos dst op σ K=∃v,p v∧K (σ.put dst v):=by
 unfold opX
 rw [h]
 refine propext ⟨?_,?_⟩
 ·rintro ⟨r,h1,h2,h3,h4⟩
  rw [hp] at h1
  obtain⟨v,h5,rfl⟩:=h1
  exact⟨v,h5,by cases dst <;> exact h4⟩
 ·rintro ⟨v,h5,h4⟩
  exact⟨⟨v,[],[]⟩,by rw [hp]; exact⟨v,h5,rfl⟩,trivial,trivial,by cases dst <;> exact h4⟩
@[go_sem ↓] theorem mD {pos:Nat} {dst:Option Tmp} {x:Operand}:opX P pos dst (.move x) σ K=BA (σ.e x) fun v=>K (σ.put dst v):=by
 rw [Gx (p:=fun v=>v=σ.e x) (fun _=>by simp only [aop]) (fun r=>by simp [Ev])]
 simp [BA]
@[go_sem ↓] theorem iy {pos:Nat} {dst:Option Tmp} {x:Operand}:opX P pos dst (.assign x) σ K=BA (σ.e x) fun v=>K (σ.put dst v):=by
 rw [Gx (p:=fun v=>v=σ.e x) (fun _=>by simp only [aop]) (fun r=>by simp [Ev])]
 simp [BA]
def Rn (c a b:AV) (K:AV→Prop):Prop:=∃t,c= .bool t∧K (if t=true then a else b)
@[go_sem] theorem Wy {a b} {K}:Rn (.bool true) a b K=K a:=by simp [Rn]
@[go_sem] theorem VW {a b} {K}:Rn (.bool false) a b K=K b:=by simp [Rn]
theorem fX {pos:Nat} {dst:Option Tmp} {c a b:Operand}:opX P pos dst (.pick c a b) σ K=Rn (σ.e c) (σ.e a) (σ.e b) fun v=>K (σ.put dst v):=by
 rw [Gx (p:=fun v=>∃t,σ.e c= .bool t∧v=if t=true then σ.e a else σ.e b) (fun _=>by simp only [aop]) (fun r=>by
  simp only [Ev]
  refine propext ⟨?_,?_⟩
  ·rintro ⟨t,h,rfl⟩; exact⟨_,⟨t,h,rfl⟩,rfl⟩
  ·rintro ⟨v,⟨t,h,rfl⟩,rfl⟩; exact⟨t,h,rfl⟩)]
 simp only [Rn]
 refine propext ⟨?_,?_⟩
 ·rintro ⟨v,⟨t,h,rfl⟩,hk⟩; exact⟨t,h,hk⟩
 ·rintro ⟨t,h,hk⟩; exact⟨_,⟨t,h,rfl⟩,hk⟩
def OV (P:Program) (t:TypeId) (a:AV) (σ:St) (K:AV→Prop):Prop:=∃v,Je P σ.T σ.B t a v∧K v
def ldX (P:Program) (t:TypeId) (off:Nat) (vs:List AV) (K:AV→Prop):Prop:=
 PU (ti P t).isAgg (Ac (off+tsz P t≤vs.length) (BA (.agg (F1 vs off (tsz P t))) K)) (Ac ((ti P t).sc =true) (optX vs[off]? K))
theorem fY {pos:Nat} {dst:Option Tmp} {t:TypeId} {a:Operand}:opX P pos dst (.load t a) σ K=OV P t (σ.e a) σ fun v=>K (σ.put dst v):=
 Gx (p:=fun v=>Je P σ.T σ.B t (σ.e a) v) (fun _=>by simp only [aop]) (fun r=>by simp only [Ev])
@[go_sem] theorem Y3 {t} {b off} {K}:OV P t (.box b off) σ K=optX (σ.B b) fun vs=>Ac (isMp vs=false) (ldX P t off vs K):=by
 simp only [OV,Je,optX,ldX,PU,Ac,BA]
 by_cases h:(ti P t).isAgg =true
 ·simp only [h,if_true]
  refine propext ⟨?_,?_⟩
  ·rintro ⟨v,⟨vs,h1,hm,h2,rfl⟩,hk⟩; exact⟨vs,h1,hm,.inl ⟨trivial,h2,hk⟩⟩
  ·rintro ⟨vs,h1,hm,(⟨-,h2,hk⟩|⟨hh,-⟩)⟩
   ·exact⟨_,⟨vs,h1,hm,h2,rfl⟩,hk⟩
   ·cases hh
 ·have h':(ti P t).isAgg =false:=by simpa using h
  simp only [h',Bool.false_eq_true,if_false]
  refine propext ⟨?_,?_⟩
  ·rintro ⟨v,⟨vs,h1,hm,h2,h3⟩,hk⟩; exact⟨vs,h1,hm,.inr ⟨trivial,h2,v,h3,hk⟩⟩
  ·rintro ⟨vs,h1,hm,(⟨hh,-⟩|⟨-,h2,v,h3,hk⟩)⟩
   ·exact hh.elim
   ·exact⟨v,⟨vs,h1,hm,h2,h3⟩,hk⟩
@[go_sem] theorem Y4 {t} {vs} {off} {K}:OV P t (.rop vs off) σ K=ldX P t off vs K:=by
 simp only [OV,Je,optX,ldX,PU,Ac,BA]
 by_cases h:(ti P t).isAgg =true
 ·simp only [h,if_true]
  refine propext ⟨?_,?_⟩
  ·rintro ⟨v,⟨h2,rfl⟩,hk⟩; exact .inl ⟨trivial,h2,hk⟩
  ·rintro (⟨-,h2,hk⟩|⟨hh,-⟩)
   ·exact⟨_,⟨h2,rfl⟩,hk⟩
   ·cases hh
 ·have h':(ti P t).isAgg =false:=by simpa using h
  simp only [h',Bool.false_eq_true,if_false]
  refine propext ⟨?_,?_⟩
  ·rintro ⟨v,⟨h2,h3⟩,hk⟩; exact .inr ⟨trivial,h2,v,h3,hk⟩
  ·rintro (⟨hh,-⟩|⟨-,h2,v,h3,hk⟩)
   ·exact hh.elim
   ·exact⟨v,⟨h2,h3⟩,hk⟩
@[go_sem] theorem Y5 {t} {t' sz i off} {K}:OV P t (.elt t' sz i off) σ K=
  optX (σ.T t') fun tk=>optX tk.rows[i]? fun row=>Ac (row.length=sz) (PU (ti P t).isAgg (Ac (off+tsz P t≤sz) (BA (.agg (NQ t' tk.gen [] sz i row off (tsz P t))) K)) (Ac ((ti P t).sc =true) (optX row[off]? fun d=>K (ofT t' tk.gen [] sz i off d)))):=by
 simp only [OV,Je,optX,PU,Ac,BA]
 by_cases h:(ti P t).isAgg =true
 ·simp only [h,if_true]
  refine propext ⟨?_,?_⟩
  ·rintro ⟨v,⟨tk,row,h1,h2,h3,h4,rfl⟩,hk⟩; exact⟨tk,h1,row,h2,h3,.inl ⟨trivial,h4,hk⟩⟩
  ·rintro ⟨tk,h1,row,h2,h3,(⟨-,h4,hk⟩|⟨hh,-⟩)⟩
   ·exact⟨_,⟨tk,row,h1,h2,h3,h4,rfl⟩,hk⟩
   ·cases hh
 ·have h':(ti P t).isAgg =false:=by simpa using h
  simp only [h',Bool.false_eq_true,if_false]
  refine propext ⟨?_,?_⟩
  ·rintro ⟨v,⟨tk,row,h1,h2,h3,h4,d,h5,rfl⟩,hk⟩; exact⟨tk,h1,row,h2,h3,.inr ⟨trivial,h4,d,h5,hk⟩⟩
  ·rintro ⟨tk,h1,row,h2,h3,(⟨hh,-⟩|⟨-,h4,d,h5,hk⟩)⟩
   ·exact hh.elim
   ·exact⟨_,⟨tk,row,h1,h2,h3,h4,d,h5,rfl⟩,hk⟩
def fZ (o:Option Tok) (g:Nat) (p:Pth):Option (List (List D)):=match o with
 |some tk=>if tk.gen=g then getP p tk.rows else none
 |none=>none
@[go_sem ↓] theorem ke {T} {t g} {p}:subR T t g p=fZ (T t) g p:=rfl
@[go_sem] theorem gv {rows} {ap} {g} {q} {p}:fZ (some ⟨rows,ap,g,q⟩) g p=getP p rows:=by simp [fZ]
def aY (o:Option Tok) (g:Nat) (p:Pth):Option (List (List D)):=match o with
 |some tk=>if tk.gen=g then (getP p tk.rows).map tk.er else none
 |none=>none
@[go_sem ↓] theorem kf {T} {t g} {p}:subE T t g p=aY (T t) g p:=rfl
@[go_sem] theorem fc {rows} {ap} {g} {q} {p}:aY (some ⟨rows,ap,g,q⟩) g p=(getP p rows).map (zer q):=by
 simp only [aY,if_true]; rfl
@[go_sem] theorem gw {r}:zer false r=r:=rfl
@[go_sem] theorem iz {r}:zer true r=erR r:=rfl
@[go_sem] theorem ms {rows} {ap} {g} {q}:Tok.rd ⟨rows,ap,g,q⟩=zer q rows:=rfl
@[go_sem] theorem mt {rows r} {ap} {g} {q}:Tok.er ⟨rows,ap,g,q⟩ r=zer q r:=rfl
@[go_sem] theorem gy {z} {rows} {ap} {g}:okZ z ⟨rows,ap,g,false⟩=true:=rfl
@[go_sem] theorem i0 {q} {rows} {ap} {g}:okZ q ⟨rows,ap,g,q⟩=true:=by cases q <;> rfl
@[go_sem] theorem i3 {rows}:getP [] rows=some rows:=rfl
def mE (d:D) (K:List (List D)→Prop):Prop:=match d with| .sl r=>K r|_=>False
@[go_sem] theorem kh {r} {K}:mE (.sl r) K=K r:=rfl
@[go_sem] theorem fe {t g} {p} {sz i} {d} {ds} {off n}:NQ t g p sz i (d::ds) off n=SR t g p sz i off (((d::ds).drop off).take n):=rfl
attribute [go_sem ↓] ldX
attribute [go_sem] F1 ofD Qw ofS ofT SR
end
attribute [go_sem ↓] Wv VV Tx Y0 Wy VW Y3 Y4 Y5
end Go.Proofs.YtckcfdggbbabfaaGreat.Ab
namespace Go.Proofs.YtckcfdggbbabfaaGreat.Ab
set_option linter.unusedVariables false
open Go.RowKit
section
variable {P:Program} {σ:St} {K:St→Prop} {Q:AE→St→Prop}
theorem PV {pos} {dst} {op} (h:∀K',aop P pos ⟨dst,op,0, "",#[],none⟩ σ K'=∃r,Ev P pos ⟨dst,op,0, "",#[],none⟩ σ.e σ.T σ.B r∧Cr σ r.t∧EF σ r.b∧K' (σ.add dst r)):
  opX P pos dst op σ K=∃r,Ev P pos ⟨dst,op,0, "",#[],none⟩ σ.e σ.T σ.B r∧Cr σ r.t∧EF σ r.b∧K (σ.add dst r):=h K
def Ty (v:AV) (K:AV→Prop):Prop:=match v with
 | .box b off=>K (.box b off)
 | .rop ds off=>K (.rop ds off)
 | .elt t sz i off=>K (.elt t sz i off)
 | .els t g p sz i off=>K (.els t g p sz i off)
 |_=>False
@[go_sem] theorem aZ {b off} {K}:Ty (.box b off) K=K (.box b off):=rfl
@[go_sem] theorem aa {ds} {off} {K}:Ty (.rop ds off) K=K (.rop ds off):=rfl
@[go_sem] theorem ae {t sz i off} {K}:Ty (.elt t sz i off) K=K (.elt t sz i off):=rfl
@[go_sem] theorem ah {t g} {p} {sz i off} {K}:Ty (.els t g p sz i off) K=K (.els t g p sz i off):=rfl
theorem Wz {pos} {dst} {x}:opX P pos dst (.nilCheck x) σ K=Ty (σ.e x) fun v=>K (σ.put dst v):=by
 rw [Gx (p:=fun v=>Ty (σ.e x) fun u=>v=u) (fun _=>by simp only [aop]) (fun r=>by
  simp only [Ev,Ty]
  generalize σ.e x=v
  cases v <;> simp)]
 unfold Ty
 generalize σ.e x=v
 cases v <;> simp
def GS (P:Program) (op:BinOp) (t:TypeId) (x y:AV) (K:AV→Prop):Prop:=∃v,Bin P op t x y v∧K v
def W0 (op:BinOp) (y:Operand):Bool:=match op,y with
 | .eql,.const (.slice none 0 0)=>false
 | .neq,.const (.slice none 0 0)=>false
 |_,_=>true
theorem eb {pos} {dst} {op} {t t'} {x y} (hn:W0 op y=true):opX P pos dst (.binOp op t x y t') σ K=GS P op t (σ.e x) (σ.e y) fun v=>K (σ.put dst v):=
 Gx (p:=fun v=>Bin P op t (σ.e x) (σ.e y) v) (fun _=>by
  unfold aop
  dsimp only
  split
  ·rename_i h; simp only [Op.binOp.injEq] at h; obtain⟨rfl,rfl,rfl,rfl,rfl⟩:=h; simp [W0] at hn
  ·rename_i h; simp only [Op.binOp.injEq] at h; obtain⟨rfl,rfl,rfl,rfl,rfl⟩:=h; simp [W0] at hn
  ·rename_i h; cases h
  ·rename_i h; cases h
  ·rename_i h; cases h
  ·rfl) (fun r=>by simp only [Ev])
section
variable {pos:Nat} {dst:Option Tmp} {op:BinOp} {t t':TypeId} {x:Operand}
theorem Y6 {y}:opX P pos dst (.binOp op t x (.tmp y) t') σ K=GS P op t (σ.e x) (σ.g y) fun v=>K (σ.put dst v):=eb (by cases op <;> rfl)
theorem Y7 {k} {n}:opX P pos dst (.binOp op t x (.const (.int k n)) t') σ K=GS P op t (σ.e x) (.int k n) fun v=>K (σ.put dst v):=eb (by cases op <;> rfl)
def cj (P:Program) (t:TypeId) (v:AV) (σ:St) (K:Bool→Prop):Prop:=(∃e,ti P t= .sl e)∧OF v=true∧∀b,cN σ.T v b→K b
def slP (t:TI):Prop:=∃e,t= .sl e
@[go_sem] theorem mF {e}:slP (.sl e)=True:=by simp [slP]
theorem ck {rows} {K} (h:slP (ti P t)) (h0:rows=[] →K true) (h1:K false):cj P t (.ro rows) σ K:=
 ⟨h,rfl,fun b hb=>by
  cases b with
  |false=>exact h1
  |true=>
   refine h0 ?_
   by_cases hr:rows=[]
   ·exact hr
   ·exact absurd (hb hr) (by simp)⟩
theorem ai:opX P pos dst (.binOp .eql t x (.const (.slice none 0 0)) t') σ K=cj P t (σ.e x) σ fun b=>K (σ.put dst (.bool b)):=by
 unfold opX; simp only [aop,cj]
end
section
variable {t:TypeId} {k:IntKind} {a b:Int} {K:AV→Prop}
@[go_sem] theorem cm:GS P .add t (.int k a) (.int k b) K=K (.int k (k.wrap (a+b))):=by simp [GS,Bin,LM]
@[go_sem] theorem cn:GS P .sub t (.int k a) (.int k b) K=K (.int k (k.wrap (a - b))):=by simp [GS,Bin,LM]
@[go_sem] theorem cp:GS P .mul t (.int k a) (.int k b) K=K (.int k (k.wrap (a*b))):=by simp [GS,Bin,LM]
@[go_sem] theorem cq:GS P .eql t (.int k a) (.int k b) K=K (.bool (decide (a=b))):=by simp [GS,Bin,LM]
@[go_sem] theorem cr:GS P .neq t (.int k a) (.int k b) K=K (.bool (!decide (a=b))):=by simp [GS,Bin,LM]
@[go_sem] theorem ct:GS P .lss t (.int k a) (.int k b) K=K (.bool (decide (a<b))):=by simp [GS,Bin,LM]
@[go_sem] theorem cu:GS P .leq t (.int k a) (.int k b) K=K (.bool (decide (a≤b))):=by simp [GS,Bin,LM]
@[go_sem] theorem cw:GS P .gtr t (.int k a) (.int k b) K=K (.bool (decide (b<a))):=by simp [GS,Bin,LM]
@[go_sem] theorem cy:GS P .geq t (.int k a) (.int k b) K=K (.bool (decide (b≤a))):=by simp [GS,Bin,LM]
@[go_sem] theorem cz:GS P .quo t (.int k a) (.int k b) K=Ac (b≠0) (K (.int k (k.wrap (a.tdiv b)))):=by
 simp only [GS,Bin,Ac,true_and]
 exact propext ⟨fun ⟨v,⟨h1,h2⟩,h3⟩=>⟨h1,h2 ▸ h3⟩,fun ⟨h1,h2⟩=>⟨_,⟨h1,rfl⟩,h2⟩⟩
end
section
variable {t:TypeId} {a b:ByteArray} {c d:Bool} {K:AV→Prop}
def Xy (a b:ByteArray):Bool:=a.toList == b.toList
def Y8 (o:Option (List KK)) (xs ys:List AV) (K:Bool→Prop):Prop:=∃ks b,o=some ks∧C4 ks xs ys=some b∧K b
def c8 (o:Option Bool) (K:Bool→Prop):Prop:=∃b,o=some b∧K b
@[go_sem] theorem gz {ks} {xs ys} {K}:Y8 (some ks) xs ys K=c8 (C4 ks xs ys) K:=by
 simp [Y8,c8]
@[go_sem] theorem g7 {b} {K}:c8 (some b) K=K b:=by simp [c8]
@[go_sem] theorem g8 {k} {ks} {a b} {xs ys}:C4 (.int k::ks) (.int k a::xs) (.int k b::ys)=(C4 ks xs ys).map (decide (a=b)&& ·):=by
 rw [C4]; simp
@[go_sem] theorem i4:C4 [] [] [] =some true:=by
 rw [C4]
@[go_sem] theorem g9 {α β:Type} {f:α→β} {a:α}:Option.map f (some a)=some (f a):=rfl
@[go_sem] theorem aj {xs ys}:GS P .eql t (.agg xs) (.agg ys) K=Y8 (Hq P t) xs ys fun b=>K (.bool b):=by
 unfold GS Bin Y8
 exact propext ⟨fun ⟨v,⟨ks,b,h1,h2,h3⟩,h⟩=>⟨ks,b,h1,h2,by simp only at h3; subst h3; exact h⟩,fun ⟨ks,b,h1,h2,h⟩=>⟨_,⟨ks,b,h1,h2,rfl⟩,h⟩⟩
@[go_sem] theorem ak {xs ys}:GS P .neq t (.agg xs) (.agg ys) K=Y8 (Hq P t) xs ys fun b=>K (.bool !b):=by
 unfold GS Bin Y8
 exact propext ⟨fun ⟨v,⟨ks,b,h1,h2,h3⟩,h⟩=>⟨ks,b,h1,h2,by simp only at h3; subst h3; exact h⟩,fun ⟨ks,b,h1,h2,h⟩=>⟨_,⟨ks,b,h1,h2,rfl⟩,h⟩⟩
def am (P:Program) (t:TypeId):Prop:=match ti P t with| .bool =>True|_=>False
@[go_sem] theorem an:GS P .neq t (.bool c) (.bool d) K=Ac (am P t) (K (.bool (!(c == d)))):=by
 simp only [GS,Bin,Ac,am]
 split <;> simp_all
def mG (P:Program) (t:TypeId):Prop:=match ti P t with| .ptr _=>True|_=>False
attribute [go_sem] am mG
end
def c9 (op:UnOp) (x:AV) (K:AV→Prop):Prop:=∃v,Uno op x v∧K v
theorem ff {pos} {dst} {op} {t} {x}:opX P pos dst (.unOp op t x) σ K=c9 op (σ.e x) fun v=>K (σ.put dst v):=
 Gx (p:=fun v=>Uno op (σ.e x) v) (fun _=>by simp only [aop]) (fun r=>by simp only [Ev])
@[go_sem] theorem dA {b} {K}:c9 .not (.bool b) K=K (.bool (!b)):=by simp [c9,Uno]
def VX (P:Program) (s d:TypeId) (x:AV) (σ:St) (K:AV→Prop):Prop:=match ti P d,x with
 | .int k,.int _ n=>(ti P s).sc =true∧K (.int k (k.wrap n))
 | .str,y=>∃el ns,ti P s= .sl el∧ti P el= .int .u8 ∧ns.length≤maxLen∧cl σ.T σ.B y=some (.ro (IB ns))∧K (.str (strOfNums ns))
 |_,_=>False
def aq (P:Program) (s d:TypeId) (x:AV) (σ:St) (v:AV):Prop:=match ti P d,x with
 | .int k,.int _ n=>(ti P s).sc =true∧v= .int k (k.wrap n)
 | .str,y=>∃el ns,ti P s= .sl el∧ti P el= .int .u8 ∧ns.length≤maxLen∧cl σ.T σ.B y=some (.ro (IB ns))∧v= .str (strOfNums ns)
 |_,_=>False
theorem Y9 {pos} {dst} {s d} {x}:opX P pos dst (.convert s d x) σ K=VX P s d (σ.e x) σ fun v=>K (σ.put dst v):=by
 rw [Gx (p:=fun v=>aq P s d (σ.e x) σ v) (fun _=>by simp only [aop]) (fun r=>by
  simp only [Ev,aq]
  generalize σ.e x=v
  generalize ti P d=q
  cases q <;> cases v <;> first
   |(
    refine propext ⟨?_,?_⟩
    ·intro h; obtain⟨el,ns,h1,h2,h3,h4,rfl⟩:=h; exact⟨_,⟨el,ns,h1,h2,h3,h4,rfl⟩,rfl⟩
    ·intro h; obtain⟨_,⟨el,ns,h1,h2,h3,h4,rfl⟩,rfl⟩:=h; exact⟨el,ns,h1,h2,h3,h4,rfl⟩)
   |simp [and_assoc])]
 unfold VX aq
 generalize σ.e x=v
 generalize ti P d=q
 have key:∀y:AV,(∃v,(∃el ns,ti P s= .sl el∧ti P el= .int .u8 ∧ns.length≤maxLen∧cl σ.T σ.B y=some (.ro (IB ns))∧v= .str (strOfNums ns))∧K (σ.put dst v))=∃el ns,ti P s= .sl el∧ti P el= .int .u8 ∧ns.length≤maxLen∧cl σ.T σ.B y=some (.ro (IB ns))∧K (σ.put dst (.str (strOfNums ns))):=fun y=>by
  refine propext ⟨?_,?_⟩
  ·rintro ⟨v,⟨el,ns,h1,h2,h3,h4,rfl⟩,h5⟩; exact⟨el,ns,h1,h2,h3,h4,h5⟩
  ·rintro ⟨el,ns,h1,h2,h3,h4,h5⟩; exact⟨_,⟨el,ns,h1,h2,h3,h4,rfl⟩,h5⟩
 cases q <;> cases v <;> first|exact key _|simp [and_assoc]
def VY (t:TI) (K:IntKind→Prop):Prop:=match t with| .int k=>K k|_=>False
@[go_sem] theorem ZA {k} {K}:VY (.int k) K=K k:=rfl
@[go_sem] theorem ZB {s d} {k'} {n} {K}:VX P s d (.int k' n) σ K=VY (ti P d) fun k=>Ac ((ti P s).sc =true) (K (.int k (k.wrap n))):=by
 unfold VX VY Ac
 generalize ti P d=q
 cases q <;> simp [cl,IB]
def faX (P:Program) (s:TypeId) (v:AV) (f:Nat) (K:AV→Prop):Prop:=match v with
 | .box b off=>∃q,fOff P s f=some q∧0<tsz P q.2 ∧K (.box b (off+q.1))
 | .rop ds off=>∃q,fOff P s f=some q∧0<tsz P q.2 ∧K (.rop ds (off+q.1))
 | .elt t sz i off=>∃q,fOff P s f=some q∧0<tsz P q.2 ∧K (.elt t sz i (off+q.1))
 | .els t g p sz i off=>∃q,fOff P s f=some q∧0<tsz P q.2 ∧K (.els t g p sz i (off+q.1))
 |_=>False
theorem VZ {pos} {dst} {s} {x} {f}:opX P pos dst (.fieldAddr s x f) σ K=faX P s (σ.e x) f fun v=>K (σ.put dst v):=by
 rw [Gx (p:=fun v=>faX P s (σ.e x) f fun u=>v=u) (fun _=>by simp only [aop]) (fun r=>by
  simp only [Ev,faX]
  generalize σ.e x=v
  split
  ·exact propext ⟨fun ⟨q,h1,h2,h3⟩=>⟨_,⟨q,h1,h2,rfl⟩,h3⟩,fun ⟨v,⟨q,h1,h2,h4⟩,h3⟩=>⟨q,h1,h2,h4 ▸ h3⟩⟩
  ·exact propext ⟨fun ⟨q,h1,h2,h3⟩=>⟨_,⟨q,h1,h2,rfl⟩,h3⟩,fun ⟨v,⟨q,h1,h2,h4⟩,h3⟩=>⟨q,h1,h2,h4 ▸ h3⟩⟩
  ·exact propext ⟨fun ⟨q,h1,h2,h3⟩=>⟨_,⟨q,h1,h2,rfl⟩,h3⟩,fun ⟨v,⟨q,h1,h2,h4⟩,h3⟩=>⟨q,h1,h2,h4 ▸ h3⟩⟩
  ·exact propext ⟨fun ⟨q,h1,h2,h3⟩=>⟨_,⟨q,h1,h2,rfl⟩,h3⟩,fun ⟨v,⟨q,h1,h2,h4⟩,h3⟩=>⟨q,h1,h2,h4 ▸ h3⟩⟩
  ·simp)]
 unfold faX
 split
 ·exact propext ⟨fun ⟨v,⟨q,h1,h2,h4⟩,h3⟩=>⟨q,h1,h2,h4 ▸ h3⟩,fun ⟨q,h1,h2,h3⟩=>⟨_,⟨q,h1,h2,rfl⟩,h3⟩⟩
 ·exact propext ⟨fun ⟨v,⟨q,h1,h2,h4⟩,h3⟩=>⟨q,h1,h2,h4 ▸ h3⟩,fun ⟨q,h1,h2,h3⟩=>⟨_,⟨q,h1,h2,rfl⟩,h3⟩⟩
 ·exact propext ⟨fun ⟨v,⟨q,h1,h2,h4⟩,h3⟩=>⟨q,h1,h2,h4 ▸ h3⟩,fun ⟨q,h1,h2,h3⟩=>⟨_,⟨q,h1,h2,rfl⟩,h3⟩⟩
 ·exact propext ⟨fun ⟨v,⟨q,h1,h2,h4⟩,h3⟩=>⟨q,h1,h2,h4 ▸ h3⟩,fun ⟨q,h1,h2,h3⟩=>⟨_,⟨q,h1,h2,rfl⟩,h3⟩⟩
 ·simp
@[go_sem] theorem dB {s} {b off f} {K}:faX P s (.box b off) f K=optX (fOff P s f) fun q=>Ac (0<tsz P q.2) (BA (off+q.1) fun o=>K (.box b o)):=rfl
@[go_sem] theorem dC {s} {ds} {off f} {K}:faX P s (.rop ds off) f K=optX (fOff P s f) fun q=>Ac (0<tsz P q.2) (BA (off+q.1) fun o=>K (.rop ds o)):=rfl
@[go_sem] theorem dD {s} {t g} {p} {sz i off f} {K}:faX P s (.els t g p sz i off) f K=optX (fOff P s f) fun q=>Ac (0<tsz P q.2) (BA (off+q.1) fun o=>K (.els t g p sz i o)):=rfl
@[go_sem] theorem dE {s} {t sz i off f} {K}:faX P s (.elt t sz i off) f K=optX (fOff P s f) fun q=>Ac (0<tsz P q.2) (BA (off+q.1) fun o=>K (.elt t sz i o)):=rfl
def fdX (P:Program) (s:TypeId) (v:AV) (f:Nat) (K:AV→Prop):Prop:=match v with
 | .agg vs=>optX (fOff P s f) fun q=>PU (ti P q.2).isAgg (Ac (q.1 +tsz P q.2 ≤vs.length) (BA (.agg (F1 vs q.1 (tsz P q.2))) K)) (Ac ((ti P q.2).sc =true) (optX vs[q.1]? K))
 |_=>False
@[go_sem] theorem dF {s} {vs} {f} {K}:fdX P s (.agg vs) f K=optX (fOff P s f) fun q=>PU (ti P q.2).isAgg (Ac (q.1 +tsz P q.2 ≤vs.length) (BA (.agg (F1 vs q.1 (tsz P q.2))) K)) (Ac ((ti P q.2).sc =true) (optX vs[q.1]? K)):=rfl
attribute [go_sem] fOff
def Va (rows:List (List D)) (n:Int) (sz:Nat) (K:List D→Prop):Prop:=∃row,Xa rows n sz row∧K row
def iaX (P:Program) (t:TypeId) (x i:AV) (σ:St) (K:AV→Prop):Prop:=∃v,Qx P σ.T t x i v∧K v
def slX (t:TI) (K:TypeId→Prop):Prop:=match t with| .sl e=>K e|_=>False
@[go_sem] theorem fg {e} {K}:slX (.sl e) K=K e:=rfl
def elX (P:Program) (t:TypeId) (x i:AV) (K:AV→Prop):Prop:=∃v,Su P t x i v∧K v
def arX (t:TI) (K:Nat→TypeId→Prop):Prop:=match t with| .arr n e=>K n e|_=>False
@[go_sem ↓] theorem kj {n} {e} {K}:arX (.arr n e) K=K n e:=rfl
def inX (t:TI) (K:IntKind→Prop):Prop:=match t with| .int k=>K k|_=>False
@[go_sem ↓] theorem kl {k} {K}:inX (.int k) K=K k:=rfl
@[go_sem] theorem hD {k}:NA k [] =some [] :=rfl
@[go_sem] theorem fh {k} {n} {vs}:NA k (.int k n::vs)=(NA k vs).map (n:: ·):=by rw [NA,if_pos rfl]
theorem dG {pos} {dst} {t} {x i}:opX P pos dst (.index t x i) σ K=elX P t (σ.e x) (σ.e i) fun v=>K (σ.put dst v):=
 Gx (p:=fun v=>Su P t (σ.e x) (σ.e i) v) (fun _=>by simp only [aop]) (fun r=>by simp only [Ev])
@[go_sem ↓] theorem km {t} {vs} {k} {n} {K}:elX P t (.agg vs) (.int k n) K=arX (ti P t) fun l e=>inX (ti P e) fun kd=>Ac (tsz P e=1) (optX (NA kd vs) fun ns=>Ac (l=ns.length) (optX (atI ns n) fun m=>K (.int kd m))):=by
 simp only [elX,Su,arX,inX,Ac,optX]
 generalize ti P t=q
 cases q with
 |arr l e=>
  simp only
  generalize ti P e=q
  cases q with
  |int kd=>exact propext ⟨fun ⟨v,⟨h1,ns,h2,h3,m,h4,h5⟩,h⟩=>⟨h1,ns,h2,h3,m,h4,h5 ▸ h⟩,fun ⟨h1,ns,h2,h3,m,h4,h⟩=>⟨_,⟨h1,ns,h2,h3,m,h4,rfl⟩,h⟩⟩
  |_=>simp
 |_=>simp
def ZC (P:Program) (T:Nat→Option Tok) (t:TypeId) (x:AV) (l h:Option AV) (K:AV→Prop):Prop:=∃v,(NR P t x l h v∨SS P T t x l h v)∧K v
theorem Xz {pos} {dst} {t} {x} {l h}:opX P pos dst (.slice t x l h none) σ K=ZC P σ.T t (σ.e x) (l.map σ.e) (h.map σ.e) fun v=>K (σ.put dst v):=
 Gx (p:=fun v=>NR P t (σ.e x) (l.map σ.e) (h.map σ.e) v∨SS P σ.T t (σ.e x) (l.map σ.e) (h.map σ.e) v) (fun _=>by simp only [aop]) (fun r=>by simp only [Ev])
@[go_sem ↓] theorem kn {t} {rows} {l h} {T} {K}:ZC P T t (.ro rows) l h K=slX (ti P t) fun el=>Ac (0<tsz P el) (Ac (∀row ∈ rows,row.length=tsz P el) (optX (bndI l 0) fun i=>optX (bndI h rows.length) fun j=>optX (cutL rows i j) fun r=>K (.ro r))):=by
 simp only [ZC,NR,SS,or_false,slX,Ac,optX]
 generalize ti P t=q
 cases q with
 |sl el=>exact propext ⟨fun ⟨v,⟨el',h0,⟨h1,h2⟩,i,h3,j,h4,r,h5,h6⟩,h7⟩=>by cases h0; exact⟨h1,h2,i,h3,j,h4,r,h5,h6 ▸ h7⟩,fun ⟨h1,h2,i,h3,j,h4,r,h5,h7⟩=>⟨_,⟨_,rfl,⟨h1,h2⟩,i,h3,j,h4,r,h5,rfl⟩,h7⟩⟩
 |_=>simp
@[go_sem ↓] theorem i5 {t} {s} {l h} {T} {K}:ZC P T t (.str s) l h K=Ac (ti P t= .str) (optX (bndI l 0) fun i=>optX (bndI h s.size) fun j=>optX (eo s i j) fun r=>K (.str r)):=by
 simp only [ZC,NR,SS,or_false,Ac,optX]
 exact propext ⟨fun ⟨v,⟨h0,i,h3,j,h4,r,h5,h6⟩,h7⟩=>⟨h0,i,h3,j,h4,r,h5,h6 ▸ h7⟩,fun ⟨h0,i,h3,j,h4,r,h5,h7⟩=>⟨_,⟨h0,i,h3,j,h4,r,h5,rfl⟩,h7⟩⟩
@[go_sem] theorem i6 {d}:bndI none d=some d:=rfl
@[go_sem] theorem i7 {k} {n d}:bndI (some (.int k n)) d=some n:=rfl
theorem Vb {pos} {dst} {t} {x i}:opX P pos dst (.indexAddr t x i) σ K=iaX P t (σ.e x) (σ.e i) σ fun v=>K (σ.put dst v):=
 Gx (p:=fun v=>Qx P σ.T t (σ.e x) (σ.e i) v) (fun _=>by simp only [aop]) (fun r=>by simp only [Ev])
@[go_sem] theorem fi {t} {rows} {k} {n} {K}:iaX P t (.ro rows) (.int k n) σ K=slX (ti P t) fun e=>Ac (0<tsz P e) (Va rows n (tsz P e) fun row=>K (.rop (row.map ofD) 0)):=by
 simp only [iaX,Qx,slX,Ac,Va]
 generalize ti P t=q
 cases q with
 |sl e=>exact propext ⟨fun ⟨v,⟨h1,row,h2,h3⟩,h4⟩=>⟨h1,row,h2,h3 ▸ h4⟩,fun ⟨h1,row,h2,h3⟩=>⟨_,⟨h1,row,h2,rfl⟩,h3⟩⟩
 |_=>simp
@[go_sem] theorem dH {t} {t'} {k} {n} {K}:iaX P t (.own t') (.int k n) σ K=slX (ti P t) fun e=>Ac (0<tsz P e) (optX (σ.T t') fun tk=>Va tk.rows n (tsz P e) fun _=>K (.elt t' (tsz P e) n.toNat 0)):=by
 simp only [iaX,Qx,slX,Ac,Va,optX]
 generalize ti P t=q
 cases q with
 |sl e=>exact propext ⟨fun ⟨v,⟨h1,tk,row,h0,h2,h3⟩,h4⟩=>⟨h1,tk,h0,row,h2,h3 ▸ h4⟩,fun ⟨h1,tk,h0,row,h2,h3⟩=>⟨_,⟨h1,tk,row,h0,h2,rfl⟩,h3⟩⟩
 |_=>simp
@[go_sem] theorem dI {t} {t' g} {p} {k} {n} {K}:iaX P t (.sub t' g p) (.int k n) σ K=slX (ti P t) fun e=>Ac (0<tsz P e) (optX (subR σ.T t' g p) fun rows=>Va rows n (tsz P e) fun _=>K (.els t' g p (tsz P e) n.toNat 0)):=by
 simp only [iaX,Qx,slX,Ac,Va,optX]
 generalize ti P t=q
 cases q with
 |sl e=>exact propext ⟨fun ⟨v,⟨h1,tk,row,h0,h2,h3⟩,h4⟩=>⟨h1,tk,h0,row,h2,h3 ▸ h4⟩,fun ⟨h1,tk,h0,row,h2,h3⟩=>⟨_,⟨h1,tk,row,h0,h2,rfl⟩,h3⟩⟩
 |_=>simp
def ZD (v:AV) (i:Nat) (K:AV→Prop):Prop:=match v with| .tup vs=>optX vs[i]? K|_=>False
@[go_sem] theorem ar {vs} {i} {K}:ZD (.tup vs) i K=optX vs[i]? K:=rfl
theorem ZE {pos} {dst} {x} {i}:opX P pos dst (.extract x i) σ K=ZD (σ.e x) i fun v=>K (σ.put dst v):=by
 rw [Gx (p:=fun v=>ZD (σ.e x) i fun u=>v=u) (fun _=>by simp only [aop]) (fun r=>by
  simp only [Ev,ZD]
  generalize σ.e x=v
  cases v <;> simp [optX])]
 unfold ZD
 generalize σ.e x=v
 cases v <;> simp [optX]
def evs (σ:St):List Operand→List AV
 | [] =>[]
 |x::xs=>σ.e x::evs σ xs
theorem Tz {xs}:evs σ xs=xs.map σ.e:=by induction xs with|nil=>rfl|cons x xs ih=>simp [evs,ih]
attribute [go_sem] evs
@[go_sem ↓] theorem fj {pos} {dst} {f} {caps}:opX P pos dst (.makeFunc (.func f) (List.toArray []) caps.toArray) σ K=BA (.fn f (evs σ caps)) fun v=>K (σ.put dst v):=by
 rw [Gx (p:=fun v=>v= .fn f (evs σ caps)) (fun _=>by simp only [aop]) (fun r=>by simp [Ev,Tz])]
 simp [BA]
def SW (P:Program) (t:TypeId) (x:AV) (σ:St) (K:AV→Prop):Prop:=∃v,QN P σ.T σ.B t x v∧K v
theorem i8 {pos} {dst} {x} {t}:opX P pos dst (.call ⟨.builtin .len,List.toArray [x],List.toArray [t]⟩) σ K=SW P t (σ.e x) σ fun v=>K (σ.put dst v):=
 Gx (p:=fun v=>QN P σ.T σ.B t (σ.e x) v) (fun _=>by simp only [aop]) (fun r=>by simp only [Ev])
def QR (f:Int→Int→Int) (x y:AV) (K:AV→Prop):Prop:=match x,y with
 | .int k n,.int k' m=>k=k'∧K (.int k (f n m))
 |_,_=>False
@[go_sem] theorem au {f} {k} {n m} {K}:QR f (.int k n) (.int k m) K=BA (f n m) fun r=>K (.int k r):=by simp [QR,BA]
theorem i9 {pos} {dst} {x y} {ts}:opX P pos dst (.call ⟨.builtin .max,List.toArray [x,y],ts⟩) σ K=QR (fun n m=>if n<m then m else n) (σ.e x) (σ.e y) fun v=>K (σ.put dst v):=by
 rw [Gx (p:=fun v=>QR (fun n m=>if n<m then m else n) (σ.e x) (σ.e y) fun u=>v=u) (fun _=>by simp only [aop]) (fun r=>by
  simp only [Ev,QR]
  generalize σ.e x=u
  generalize σ.e y=v
  cases u <;> cases v <;> simp [and_assoc])]
 unfold QR
 generalize σ.e x=u
 generalize σ.e y=v
 cases u <;> cases v <;> simp [and_assoc]
theorem jA {pos} {dst} {x y} {ts}:opX P pos dst (.call ⟨.builtin .min,List.toArray [x,y],ts⟩) σ K=QR (fun n m=>if m<n then m else n) (σ.e x) (σ.e y) fun v=>K (σ.put dst v):=by
 rw [Gx (p:=fun v=>QR (fun n m=>if m<n then m else n) (σ.e x) (σ.e y) fun u=>v=u) (fun _=>by simp only [aop]) (fun r=>by
  simp only [Ev,QR]
  generalize σ.e x=u
  generalize σ.e y=v
  cases u <;> cases v <;> simp [and_assoc])]
 unfold QR
 generalize σ.e x=u
 generalize σ.e y=v
 cases u <;> cases v <;> simp [and_assoc]
end
attribute [go_sem ↓] aZ aa ae ah cm cn cp cq cr ct cu cw cy cz an aj ak dA ZA ZB dB dC dE dD dF fg fi dH dI ar au
end Go.Proofs.YtckcfdggbbabfaaGreat.Ab
