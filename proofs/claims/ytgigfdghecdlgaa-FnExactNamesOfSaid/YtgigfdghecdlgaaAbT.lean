/-
  The abstract walk as a set of rules for 'simp only [go_sem]': heads that wait, their congruences, one rule an operation.
-/
import Derived.Test.YtgigfdghecdlgaaAbS
namespace Go.Proofs.Ytgigfdghecdlgaa.Ab
set_option linter.unusedVariables false
open Go.RowKit
section
variable {P:Program}
theorem CN {z}:∀ {vs} {σ} {K K'},(∀ds σ,K ds σ→K' ds σ)→Ae z vs σ K→Ae z vs σ K'
 | [],σ,K,K',hk,h=>by rw [Ae] at h ⊢; exact hk _ _ h
 | .int k n::vs,σ,K,K',hk,h=>by rw [Ae] at h ⊢; exact CN (fun ds σ=>hk _ σ) h
 | .bool b::vs,σ,K,K',hk,h=>by rw [Ae] at h ⊢; exact CN (fun ds σ=>hk _ σ) h
 | .str b::vs,σ,K,K',hk,h=>by rw [Ae] at h ⊢; exact CN (fun ds σ=>hk _ σ) h
 | .nils ::vs,σ,K,K',hk,h=>by rw [Ae] at h ⊢; exact CN (fun ds σ=>hk _ σ) h
 | .nilp ::vs,σ,K,K',hk,h=>by rw [Ae] at h ⊢; exact CN (fun ds σ=>hk _ σ) h
 | .ro _::vs,σ,K,K',hk,h=>by rw [Ae] at h ⊢; exact⟨h.1,CN (fun ds σ=>hk _ σ) h.2⟩
 | .rop _ _::vs,σ,K,K',hk,h=>by rw [Ae] at h ⊢; obtain⟨h1,d,h2,h3⟩:=h; exact⟨h1,d,h2,CN (fun ds σ=>hk _ σ) h3⟩
 | .bsl _ _ _::vs,σ,K,K',hk,h=>by
  rw [Ae] at h ⊢
  split at h
  ·rename_i h0
   rw [if_pos h0]
   exact CN (fun ds σ=>hk _ σ) h
  ·rename_i h0
   rw [if_neg h0]
   obtain⟨h1,h2,vs',h3,ds,h4,h5,h6⟩:=h
   exact⟨h1,h2,vs',h3,ds,h4,h5,CN (fun ds σ=>hk _ σ) h6⟩
 | .own t::vs,σ,K,K',hk,h=>by rw [Ae] at h ⊢; obtain⟨tk,h1,h2,h3⟩:=h; exact⟨tk,h1,h2,CN (fun ds σ=>hk _ σ) h3⟩
 | .sub _ _ _::vs,σ,K,K',hk,h=>by simp [Ae] at h
 | .els _ _ _ _ _ _::vs,σ,K,K',hk,h=>by simp [Ae] at h
 | .any ::vs,σ,K,K',hk,h=>by simp [Ae] at h
 | .box _ _::vs,σ,K,K',hk,h=>by simp [Ae] at h
 | .elt _ _ _ _::vs,σ,K,K',hk,h=>by simp [Ae] at h
 | .par _ _ _ _::vs,σ,K,K',hk,h=>by simp [Ae] at h
 | .agg _::vs,σ,K,K',hk,h=>by simp [Ae] at h
 | .tup _::vs,σ,K,K',hk,h=>by simp [Ae] at h
 | .fn _ _::vs,σ,K,K',hk,h=>by simp [Ae] at h
 | .mpr _::vs,σ,K,K',hk,h=>by simp [Ae] at h
 | .mpc _ _::vs,σ,K,K',hk,h=>by simp [Ae] at h
theorem O0 {t} {a x} {σ} {K K'} (hk:∀σ,K σ→K' σ) (h:Hg P t a x σ K):Hg P t a x σ K':=by
 unfold Hg at h ⊢
 split at h
 ·obtain⟨h1,h2,h3,h4⟩:=h
  refine⟨h1,h2,h3,?_⟩
  split at h4
  ·obtain⟨vs,h5,h6,h7,h8⟩:=h4; exact⟨vs,h5,h6,h7,hk _ h8⟩
  ·obtain⟨tk0,h5,h4⟩:=h4
   exact⟨tk0,h5,CN (fun ds σ ⟨tk,row,k1,k2,k3,k4,k5⟩=>⟨tk,row,k1,k2,k3,k4,hk _ k5⟩) h4⟩
  ·exact CN (fun ds σ ⟨rows,k1,row,k2,k3,tk,k4,k5⟩=>⟨rows,k1,row,k2,k3,tk,k4,hk _ k5⟩) h4
  ·exact h4
 ·exact h
theorem Qn {z} {e} {sz} {x} {σ} {K K'} (hk:∀r σ,K r σ→K' r σ) (h:Js z e sz x σ K):Js z e sz x σ K':=by
 unfold Js at h ⊢
 split at h
 ·exact hk _ _ h
 ·split at h
  ·rename_i h0
   rw [if_pos h0]
   exact hk _ _ h
  ·rename_i h0
   rw [if_neg h0]
   obtain⟨h0,h1,h2,vs',h3,ds,h4,h5,h6⟩:=h
   exact⟨h0,h1,h2,vs',h3,ds,h4,h5,hk _ _ h6⟩
 ·obtain⟨tk,h1,h2,h3⟩:=h; exact⟨tk,h1,h2,hk _ _ h3⟩
 ·exact h
theorem Qo {z} {sz} {x} {σ} {K K'} (hk:∀r σ,K r σ→K' r σ) (h:HI z sz x σ K):HI z sz x σ K':=by
 unfold HI at h ⊢
 split at h
 ·exact hk _ _ h
 ·obtain⟨vs,h1,h2,h3,h4,h5⟩:=h; exact⟨vs,h1,h2,h3,h4,CN (fun ds σ=>hk _ σ) h5⟩
 ·split at h
  ·exact⟨h.1,hk _ _ h.2⟩
  ·exact⟨h.1,hk _ _ h.2⟩
 ·obtain⟨tk,h1,h2,h3⟩:=h; exact⟨tk,h1,h2,hk _ _ h3⟩
 ·exact h
theorem Qp {pos} {t} {x y} {σ} {K K'} (hk:∀v σ,K v σ→K' v σ) (h:OZ P pos t x y σ K):OZ P pos t x y σ K':=by
 unfold OZ at h ⊢
 split at h
 ·obtain⟨h1,h2,z,h⟩:=h
  exact⟨h1,h2,z,Qn (fun r σ h=>Qo (fun r2 σ2 h=>⟨h.1,h.2.1,h.2.2.1,hk _ _ h.2.2.2⟩) h) h⟩
 ·exact h
theorem Qq {t} {m i x} {σ} {K K'} (hk:∀σ,K σ→K' σ) (h:M3 P t m i x σ K):M3 P t m i x σ K':=by
 unfold M3 at h ⊢
 split at h
 ·obtain⟨q,rows,h1,h2,h3,k,h4,h5,d,h6,h7⟩:=h; exact⟨q,rows,h1,h2,h3,k,h4,h5,d,h6,hk _ h7⟩
 ·exact h
theorem R3 {pos} {o} {σ} {K K'} (hk:∀σ,K σ→K' σ) (h:aop P pos o σ K):aop P pos o σ K':=by
 unfold aop at h ⊢
 split at h
 ·exact⟨h.1,h.2.1,fun b hb=>hk _ (h.2.2 b hb)⟩
 ·exact⟨h.1,h.2.1,fun b hb=>hk _ (h.2.2 b hb)⟩
 ·exact O0 (fun σ=>hk _) h
 ·exact Qq (fun σ=>hk _) h
 ·split at h
  ·exact⟨h.1,Qp (fun v σ=>hk _) h.2⟩
  ·exact h
 ·obtain⟨r,h1,h2,h3,h4⟩:=h; exact⟨r,h1,h2,h3,hk _ h4⟩
theorem Ew {K K'} (hk:∀σ,K σ→K' σ):∀ {cv} {σ},A6 cv σ K→A6 cv σ K'
 | [],σ,h=>by rw [A6] at h ⊢; exact hk _ h
 | (n,a,z)::cv,σ,h=>by
  cases a with
  |sub t g p=>
   rw [A6] at h ⊢
   obtain⟨h1,h2,h3,tk,rows,h4,h5,h6,h7,h8⟩:=h
   exact⟨h1,h2,h3,tk,rows,h4,h5,h6,h7,Ew hk h8⟩
  |nils=>rw [A6] at h ⊢; exact⟨h.1,Ew hk h.2⟩
  |bsl b m sz=>rw [A6] at h ⊢; exact⟨h.1,h.2.1,Ew hk h.2.2⟩
  |_=>simp [A6] at h
theorem F4:∀ {cv} {σ} {K K'},(∀σ,K σ→K' σ)→Af cv σ K→Af cv σ K'
 | [],σ,K,K',hk,h=>by rw [Af] at h ⊢; exact hk _ h
 | (n,a,z)::cv,σ,K,K',hk,h=>by
  cases a with
  | sub t g p=>
   rw [Af] at h ⊢
   refine F4 (fun σ h=>?_) h
   cases hn:σ.T n with
   |none=>simp only [hn] at h ⊢; exact hk _ h
   |some tn=>
    simp only [hn] at h ⊢
    obtain⟨tk,h1,h2,h3,h4⟩:=h
    exact⟨tk,h1,h2,h3,hk _ h4⟩
  |_=>
   rw [Af] at h ⊢
   ·exact F4 (fun σ h=>hk _ h) h
   all_goals (intros; simp_all)
theorem O1 {f} {args} {σ} {K K'} (hk:∀v σ,K v σ→K' v σ) (h:Lb P f args σ K):Lb P f args σ K':=by
 obtain⟨y,as,pt,pb,r,qt,qb,h1,h2⟩:=h
 exact⟨y,as,pt,pb,r,qt,qb,h1,Ew (fun σ h=>⟨h.1,h.2.1,h.2.2.1,h.2.2.2.1,h.2.2.2.2.1,h.2.2.2.2.2.1,h.2.2.2.2.2.2.1,h.2.2.2.2.2.2.2.1,F4 (fun σ h=>hk _ _ h) h.2.2.2.2.2.2.2.2⟩) h2⟩
theorem Nh {K K'} (hk:∀a σ,K a σ→K' a σ):∀ {bs} {args} {σ},FzK bs args σ K→FzK bs args σ K'
 | [],args,σ,h=>hk _ _ h
 |b::bs,args,σ,h=>by
  obtain⟨vs,h1,h2,h3⟩:=h
  exact⟨vs,h1,h2,Nh hk h3⟩
theorem O2 {f} {args} {σ} {K K'} (hk:∀v σ,K v σ→K' v σ) (h:Pf P f args σ K):Pf P f args σ K':=by
 obtain⟨bs,h⟩:=h
 exact⟨bs,Nh (fun _ _ h=>O1 hk h) h⟩
theorem L4 {L} {pos} {o} {σ} {K K'} (hk:∀σ,K σ→K' σ) (h:JR P L pos o σ K):JR P L pos o σ K':=by
 rcases h with ⟨hA,h⟩|⟨hL,h⟩|⟨hL,hA,r,h1,h2,h3,h4⟩
 ·exact .inl ⟨hA,R3 hk h⟩
 ·refine .inr (.inl ⟨hL,?_⟩)
  rcases h with h|h
  ·refine .inl ?_
   unfold GQ at h ⊢
   split at h
   ·split at h
    ·exact O2 (fun v σ=>hk _) h
    ·exact h
   ·exact h
  ·refine .inr ?_
   unfold SliK at h ⊢
   split at h
   ·split at h
    ·obtain⟨tk,h1,el,h2,h3,i,h4,j,h5,r,h6,h7,h8⟩:=h
     exact⟨tk,h1,el,h2,h3,i,h4,j,h5,r,h6,h7,hk _ h8⟩
    ·exact h
   ·exact h
 ·exact .inr (.inr ⟨hL,hA,r,h1,h2,h3,hk _ h4⟩)
theorem D3 {ops} {base cut} {K K'} (hk:∀σ,K σ→K' σ):∀ {l} {i} {σ},aops P ops base cut i l σ K→aops P ops base cut i l σ K'
 | [],i,σ,h=>by rw [aops] at h ⊢; exact hk _ h
 | o::rest,i,σ,h=>by
  rw [aops] at h ⊢
  split at h
  ·exact L4 (fun σ h=>D3 hk h) h
  ·obtain⟨s,h1,h⟩:=h
   refine⟨s,h1,?_⟩
   rcases h with ⟨b,h2,h3,h4⟩|⟨h2,h3⟩
   ·exact .inl ⟨b,h2,fun hb=>L4 (fun σ h=>D3 hk h) (h3 hb),fun hb=>D3 hk (h4 hb)⟩
   ·exact .inr ⟨h2,D3 hk h3⟩
theorem Qr {p} {K K'} (hk:∀σ,K σ→K' σ) {σ} (h:seqW p K σ):seqW p K' σ:=by
 unfold seqW at h ⊢
 split at h
 ·exact hk _ h
 ·obtain⟨σ1,h1,h2⟩:=h; exact⟨σ1,h1,hk _ h2⟩
theorem Ke {P} {ops} {base} {ts}:∀ (tr:Tr) {σ} {K K'},(∀σ,K σ→K' σ)→aTr P ops base ts tr σ K→aTr P ops base ts tr σ K'
 | .fin,σ,K,K',hk,h=>hk σ h
 | .stop,σ,K,K',hk,h=>trivial
 | .br i t more,σ,K,K',hk,h=>by
  simp only [aTr] at h ⊢
  refine⟨?_,Ke more hk h.2⟩
  have h1:=h.1
  split at h1
  ·exact D3 (fun σ' h=>Ke t hk h) h1
  ·exact h1.elim
theorem Kf {P} {ops} {base} {r} {i} {o} {acc} {σ} {K K'} (hk:∀acc σ,K acc σ→K' acc σ) (h:GS P ops base r i o acc σ K):GS P ops base r i o acc σ K':=by
 unfold GS at h ⊢
 cases r with
 |no=>exact D3 (hk acc) h
 |al=>
  dsimp only at h ⊢
  split at h
  ·exact⟨h.1,hk _ _ h.2⟩
  ·exact h.elim
 | st k=>
  dsimp only at h ⊢
  split at h
  ·split at h
   ·exact⟨h.1,h.2.1,hk _ _ h.2.2⟩
   ·exact h.elim
  ·exact h.elim
theorem F5 {P} {ops} {base} {V}:∀ (l:List Oper) {E} {i} {ts} {acc} {σ} {K K'},(∀ts acc σ,K ts acc σ→K' ts acc σ)→Cn P ops base V E i l ts acc σ K→Cn P ops base V E i l ts acc σ K'
 | [],E,i,ts,acc,σ,K,K',hk,h=>by simp only [Cn] at h ⊢; exact hk _ _ _ h
 |o::l,[],i,ts,acc,σ,K,K',hk,h=>by simp only [Cn] at h ⊢; exact Kf (fun acc σ' h=>F5 l hk h) h
 |o::l,true::E,i,ts,acc,σ,K,K',hk,h=>by simp only [Cn] at h ⊢; exact F5 l hk h
 |o::l,false::E,i,ts,acc,σ,K,K',hk,h=>by simp only [Cn] at h ⊢; exact Kf (fun acc σ' h=>F5 l hk h) h
theorem Qs {P} {ops} {base} {draw} {σ} {K K'} (hk:∀σ,K σ→K' σ) (h:QK P ops base draw σ K):QK P ops base draw σ K':=by
 unfold QK at h ⊢
 cases draw with
 |false=>exact D3 hk h
 |true=>
  obtain⟨E,V,tr,hE,h⟩:=h
  exact⟨E,V,tr,hE,F5 _ (fun ts acc σ h=>⟨h.1,Ke tr hk h.2⟩) h⟩
theorem Ex:∀ {c} {Q Q'} {σ},(∀q σ,Q q σ→Q' q σ)→awp P c Q σ→awp P c Q' σ
 | .skip,Q,Q',σ,hq,h=>by rw [awp] at h ⊢; exact hq _ _ h
 | .region id ops draw,Q,Q',σ,hq,h=>by rw [awp] at h ⊢; exact Qs (hq _) h
 | .seq a b,Q,Q',σ,hq,h=>by
  rw [awp] at h ⊢
  refine Ex (fun q σ h=>?_) h
  cases q with
  |normal=>
   have h':seqW (En a) (awp P b Q) σ:=h
   exact Qr (K:=awp P b Q) (K':=awp P b Q') (fun σ h=>Ex hq h) h'
  |exit id=>exact hq _ _ h
  |ret=>exact hq _ _ h
 | .cond c a b,Q,Q',σ,hq,h=>by
  rw [awp] at h ⊢
  obtain⟨v,h1,h2,h3⟩:=h
  exact⟨v,h1,fun e=>Ex hq (h2 e),fun e=>Ex hq (h3 e)⟩
 | .block id b,Q,Q',σ,hq,h=>by
  rw [awp] at h ⊢
  refine Ex (fun q σ h=>?_) h
  cases q with
  |normal=>exact hq _ _ h
  |exit i=>
   simp only [AE.inBlock] at h ⊢
   split at h
   ·rw [if_pos ‹_›]; exact hq _ _ h
   ·rw [if_neg ‹_›]; exact hq _ _ h
  |ret=>exact hq _ _ h
 | .loop b,Q,Q',σ,hq,h=>by
  rw [awp] at h ⊢
  intro L hL
  refine h L fun σ hσ=>hL σ (Ex (fun q σ h=>?_) hσ)
  cases q with
  |normal=>exact h
  |exit id=>exact hq _ _ h
  |ret=>exact hq _ _ h
 | .exit id,Q,Q',σ,hq,h=>by rw [awp] at h ⊢; exact hq _ _ h
 | .ret,Q,Q',σ,hq,h=>by rw [awp] at h ⊢; exact hq _ _ h
 | .rangeFunc _ _ _ _,Q,Q',σ,hq,h=>by simp [awp] at h
 | .goto _,Q,Q',σ,hq,h=>by simp [awp] at h
 | .label _,Q,Q',σ,hq,h=>by simp [awp] at h
theorem Ni {b} {Q} {σ} (h:awp P b (AE.then (fun σ'=>∃σ1,Wk σ' σ1∧awp P (.loop b) Q σ1) Q) σ):awp P (.loop b) Q σ:=by
 rw [awp]
 intro L hL
 refine⟨σ,.nil σ,hL σ (Ex (fun q σ h=>?_) h)⟩
 cases q with
 |normal=>
  obtain⟨σ1,h1,h2⟩:=h
  rw [awp] at h2
  obtain⟨σ0,h3,h4⟩:=h2 L hL
  exact⟨σ0,h1.trans h3,h4⟩
 |exit id=>exact h
 |ret=>exact h
end
def AS {α:Type} (v:α) (K:α→Prop):Prop:=K v
def optX {α:Type} (o:Option α) (K:α→Prop):Prop:=∃x,o=some x∧K x
def AJ (p q:Prop):Prop:=p∧q
def Gj (b:Bool) (p q:Prop):Prop:=(b=true∧p)∨(b=false∧q)
def Kg (b:Bool) (p q:Prop):Prop:=(b=true→p)∧(b=false→q)
structure Wrap {α:Sort _} (a:α):Type where
def XK {α:Type} (v:α) (K:α→Prop) (_:Wrap K):Prop:=K v
def Qt {α:Type} (o:Option α) (K:α→Prop) (_:Wrap K):Prop:=∃x,o=some x∧K x
def Nj (p q:Prop) (_:Wrap q):Prop:=p∧q
def Kh (b:Bool) (p q:Prop) (_:Wrap p) (_:Wrap q):Prop:=(b=true→p)∧(b=false→q)
def R4 (b:Bool) (p q:Prop) (_:Wrap p) (_:Wrap q):Prop:=Gj b p q
@[go_sem ↓] theorem Ym {α:Type} {v:α} {K:α→Prop}:AS v K=XK v K ⟨⟩:=rfl
@[go_sem ↓] theorem Yn {α:Type} {o:Option α} {K:α→Prop}:optX o K=Qt o K ⟨⟩:=rfl
@[go_sem ↓] theorem Yo {p q:Prop}:AJ p q=Nj p q ⟨⟩:=rfl
@[go_sem ↓] theorem XL {b} {p q:Prop}:Kg b p q=Kh b p q ⟨⟩ ⟨⟩:=rfl
@[go_sem ↓] theorem Yp {b} {p q:Prop}:Gj b p q=R4 b p q ⟨⟩ ⟨⟩:=rfl
@[go_sem] theorem Yq {α:Type} {v:α} {K:α→Prop} {w:Wrap K}:XK v K w=K v:=propext Iff.rfl
@[go_sem] theorem WI {α:Type} {x:α} {K:α→Prop} {w:Wrap K}:Qt (some x) K w=K x:=by simp [Qt]
@[go_sem] theorem WJ {α:Type} {K:α→Prop} {w:Wrap K}:Qt none K w=False:=by simp [Qt]
@[go_sem] theorem WK {q:Prop} {w}:Nj True q w=q:=by simp [Nj]
@[go_sem] theorem VJ {q:Prop} {w}:Nj False q w=False:=by simp [Nj]
@[go_sem] theorem Z8 {p:Prop} {w}:Nj p True w=p:=by simp [Nj]
@[go_sem] theorem VK {p q:Prop} {w} {w'}:Kh true p q w w'=p:=by simp [Kh]
@[go_sem] theorem Us {p q:Prop} {w} {w'}:Kh false p q w w'=q:=by simp [Kh]
@[go_sem] theorem WL {p q:Prop} {w} {w'}:R4 true p q w w'=p:=by simp [Gj,R4]
@[go_sem] theorem VL {p q:Prop} {w} {w'}:R4 false p q w w'=q:=by simp [Gj,R4]
theorem D4 {α:Type} {x:α} {K:α→Prop}:optX (some x) K=K x:=by simp [optX]
theorem L5 {α:Type} {K:α→Prop}:optX none K=False:=by simp [optX]
theorem Ak {p q:Prop} {w} (hp:p) (hq:q):Nj p q w:=⟨hp,hq⟩
theorem FT {b} {p q:Prop} {w} {w'} (hp:b=true→p) (hq:b=false→q):Kh b p q w w':=⟨hp,hq⟩
theorem Fi {α:Type} {o:Option α} {x:α} {K:α→Prop} {w:Wrap K} (h:o=some x) (hk:K x):Qt o K w:=⟨x,h,hk⟩
@[go_sem] theorem WM:isMp [] =false:=rfl
@[go_sem] theorem WN {a}:isMp [a] =a.mp?:=rfl
@[go_sem] theorem WO {a b} {l}:isMp (a::b::l)=false:=rfl
@[go_sem] theorem WP:Ig [] =true:=rfl
@[go_sem] theorem VM {a} {l}:Ig (a::l)=(!a.mp?&&Ig l):=rfl
attribute [go_sem] AV.mp?
@[go_sem] theorem VN {α:Type} {j:Nat} {x:α} {l:List (Nat × α)} {i:Nat}:look ((j,x)::l) i=if i=j then some x else look l i:=rfl
@[go_sem] theorem XM {α:Type} {i}:look ([] :List (Nat × α)) i=none:=rfl
@[go_sem] theorem St.T_mk {s t b} {i}:St.T ⟨s,t,b⟩ i=(look t i).join :=rfl
@[go_sem] theorem St.B_mk {s t b} {i}:St.B ⟨s,t,b⟩ i=(look b i).join :=rfl
@[go_sem] theorem St.g_mk {s t b} {i}:St.g ⟨s,t,b⟩ i=(look s i).getD .any :=rfl
@[go_sem] theorem St.t_mk {s t b}:St.t ⟨s,t,b⟩=t:=rfl
@[go_sem] theorem St.b_mk {s t b}:St.b ⟨s,t,b⟩=b:=rfl
@[go_sem] theorem St.s_mk {s t b}:St.s ⟨s,t,b⟩=s:=rfl
@[go_sem] theorem St.e_tmp {σ:St} {t:Tmp}:σ.e (.tmp t)=σ.g t:=rfl
@[go_sem] theorem St.e_func {σ:St} {f:FuncId}:σ.e (.func f)= .fn f [] :=rfl
@[go_sem] theorem St.e_const {σ:St} {v:Value}:σ.e (.const v)=Aa v:=rfl
@[go_sem] theorem Yr {k} {n}:Aa (.int k n)= .int k n:=rfl
@[go_sem] theorem XN {b}:Aa (.bool b)= .bool b:=rfl
@[go_sem] theorem Ys {s}:Aa (.string s)= .str s:=rfl
@[go_sem] theorem XO:Aa (.slice none 0 0)= .nils :=rfl
@[go_sem] theorem XP:Aa (.pointer none)= .nilp :=rfl
@[go_sem] theorem Yt {cs}:Aa (.agg cs.toArray)= .agg (Dc cs):=by simp [Aa]
@[go_sem] theorem XQ:Dc [] =[] :=rfl
@[go_sem] theorem WQ {v} {vs}:Dc (v::vs)=Aa v::Dc vs:=rfl
@[go_sem] theorem XR {s t b} {d} {v}:St.put ⟨s,t,b⟩ (some d) v=⟨(d,v)::s,t,b⟩:=rfl
@[go_sem] theorem XS {σ} {v}:St.put σ none v=σ:=rfl
@[go_sem] theorem XT {s t b} {i}:St.killT ⟨s,t,b⟩ i=⟨s,(i,none)::t,b⟩:=rfl
@[go_sem] theorem Yu {s t b} {i} {tk}:St.setT ⟨s,t,b⟩ i tk=⟨s,(i,some tk)::t,b⟩:=rfl
@[go_sem] theorem Yv {s t b} {i} {vs}:St.setB ⟨s,t,b⟩ i vs=⟨s,t,(i,some vs)::b⟩:=rfl
attribute [go_sem] Option.join_some Option.join_none Option.getD_some Option.getD_none reduceIte eq_self and_self true_and and_true
attribute [go_sem] List.getElem?_cons_zero List.getElem?_cons_succ List.length_cons List.length_nil List.take_succ_cons List.take_zero List.take_nil List.drop_succ_cons List.drop_zero List.map_cons List.map_nil List.set_cons_zero List.set_cons_succ List.cons_append List.nil_append Option.some.injEq reduceCtorEq TI.isAgg TI.sc AV.one splice List.all_cons List.all_nil Bool.and_self Bool.true_and Bool.and_true
def FM (P:Program) (ops:Array Oper) (base cut i:Nat) (l:List Oper) (σ:St) (K:St→Prop) (_:Wrap ops) (_:Wrap l) (_:Wrap K) (_:Wrap cut):Prop:=aops P ops base cut i l σ K
@[go_sem ↓] theorem Yw {P} {ops} {base cut i} {l} {K} {σ}:aops P ops base cut i l σ K=FM P ops base cut i l σ K ⟨⟩ ⟨⟩ ⟨⟩ ⟨⟩:=rfl
section
variable {P:Program} {σ:St} {K:St→Prop} {Q:AE→St→Prop}
@[go_sem ↓] theorem Z9:awp P .skip Q σ=Q .normal σ:=by rw [awp]
@[go_sem ↓] theorem XU {id} {l}:awp P (.region id l.toArray false) Q σ=aops P l.toArray (id*1000+1000) 0 0 l σ (Q .normal):=by rw [awp]; rfl
def Ut (P:Program) (id:Nat) (l:List Oper) (Q:AE→St→Prop) (σ:St) (_:Wrap l) (_:Wrap Q) (_:Wrap σ):Prop:=QK P l.toArray (id*1000+1000) true σ (Q .normal)
@[go_sem ↓] theorem aA {id} {l}:awp P (.region id l.toArray true) Q σ=Ut P id l Q σ ⟨⟩ ⟨⟩ ⟨⟩:=by rw [awp]; rfl
theorem CO {id} {l} {w1} {w2} {w3} (E:List Bool) (tr:Tr) (h:Gy E [] tr l.toArray=true) (k:Cn P l.toArray (id*1000+1000) [] E 0 l [] [] σ fun ts acc σ'=>QJ acc σ' fun σ'=>aTr P l.toArray (id*1000+1000) ts tr σ' (Q .normal)):Ut P id l Q σ w1 w2 w3:=⟨E,[],tr,h,k⟩
def VO (acc:List (Nat × List AV)) (σ:St) (K:St→Prop) (_:Wrap σ) (_:Wrap K):Prop:=QJ acc σ K
@[go_sem ↓] theorem Yx {acc} {σ} {K}:QJ acc σ K=VO acc σ K ⟨⟩ ⟨⟩:=rfl
@[go_sem] theorem XV {σ} {K} {w1 w2}:VO [] σ K w1 w2=K σ:=by
 unfold VO QJ
 simp [CM,addB]
attribute [go_sem] addB
def D5 (P:Program) (ops:Array Oper) (base:Nat) (V:List (Nat × Nat)) (E:List Bool) (i:Nat) (l:List Oper) (ts:List (Nat × Oper)) (acc:List (Nat × List AV)) (σ:St) (K:List (Nat × Oper)→List (Nat × List AV)→St→Prop) (_:Wrap ops) (_:Wrap l) (_:Wrap ts) (_:Wrap K) (_:Wrap V) (_:Wrap acc):Prop:=Cn P ops base V E i l ts acc σ K
def O3 (P:Program) (ops:Array Oper) (base:Nat) (r:VR) (i:Nat) (o:Oper) (acc:List (Nat × List AV)) (σ:St) (K:List (Nat × List AV)→St→Prop):Prop:=GS P ops base r i o acc σ K
def MT (P:Program) (ops:Array Oper) (base:Nat) (r:VR) (i:Nat) (o:Oper) (acc:List (Nat × List AV)) (σ:St) (K:List (Nat × List AV)→St→Prop) (_:Wrap ops) (_:Wrap o) (_:Wrap acc) (_:Wrap σ) (_:Wrap K):Prop:=GS P ops base r i o acc σ K
section
variable {ops:Array Oper} {base i:Nat} {V:List (Nat × Nat)} {E:List Bool} {ts:List (Nat × Oper)} {acc:List (Nat × List AV)} {H:List (Nat × Oper)→List (Nat × List AV)→St→Prop} {o:Oper} {l:List Oper} {w1:Wrap ops} {w3:Wrap ts} {w4:Wrap H} {w5:Wrap V} {w6:Wrap acc}
@[go_sem ↓] theorem XW:Cn P ops base V E i l ts acc σ H=D5 P ops base V E i l ts acc σ H ⟨⟩ ⟨⟩ ⟨⟩ ⟨⟩ ⟨⟩ ⟨⟩:=rfl
@[go_sem] theorem a9 {w2}:D5 P ops base V E i [] ts acc σ H w1 w2 w3 w4 w5 w6=H ts acc σ:=by unfold D5; cases E with|nil=>rfl|cons b E=>cases b <;> rfl
@[go_sem] theorem aB {w2}:D5 P ops base V (true::E) i (o::l) ts acc σ H w1 w2 w3 w4 w5 w6=Cn P ops base V E (i+1) l ((i,o)::ts) acc σ H:=rfl
@[go_sem] theorem Yy {w2}:D5 P ops base V (false::E) i (o::l) ts acc σ H w1 w2 w3 w4 w5 w6=O3 P ops base (A5 V i) i o acc σ fun acc' σ'=>Cn P ops base V E (i+1) l ts acc' σ' H:=rfl
@[go_sem] theorem bA {w2}:D5 P ops base V [] i (o::l) ts acc σ H w1 w2 w3 w4 w5 w6=O3 P ops base (A5 V i) i o acc σ fun acc' σ'=>Cn P ops base V [] (i+1) l ts acc' σ' H:=rfl
@[go_sem] theorem VP {x} {xs b} {w2}:D5 P ops base V E i (List.append (x::xs) b) ts acc σ H w1 w2 w3 w4 w5 w6=D5 P ops base V E i (x::List.append xs b) ts acc σ H w1 ⟨⟩ w3 w4 w5 w6:=rfl
@[go_sem] theorem WR {b} {w2}:D5 P ops base V E i (List.append [] b) ts acc σ H w1 w2 w3 w4 w5 w6=D5 P ops base V E i b ts acc σ H w1 ⟨⟩ w3 w4 w5 w6:=rfl
@[go_sem] theorem WS {a b c} {w2}:D5 P ops base V E i (List.append (List.append a b) c) ts acc σ H w1 w2 w3 w4 w5 w6=D5 P ops base V E i (List.append a (List.append b c)) ts acc σ H w1 ⟨⟩ w3 w4 w5 w6:=by
 unfold D5; rw [show List.append (List.append a b) c=List.append a (List.append b c) from List.append_assoc a b c]
@[go_sem ↓] theorem XX {r} {K}:O3 P ops base r i o acc σ K=MT P ops base r i o acc σ K ⟨⟩ ⟨⟩ ⟨⟩ ⟨⟩ ⟨⟩:=rfl
attribute [go_sem] A5
@[go_sem] theorem XY {K} {w1 w2 w3 w4 w5}:MT P ops base .no i o acc σ K w1 w2 w3 w4 w5=aops P ops base (i+1) i [o] σ (K acc):=rfl
@[go_sem] theorem XZ {K} {dst} {t ty} {ps} {af} {w1 w2 w3 w4 w5}:MT P ops base .al i ⟨dst,.alloc t,ty,ps,af,none⟩ acc σ K w1 w2 w3 w4 w5=AJ (0<(tz P t).length ∧(tz P t).length =tsz P t∧isMp ((tz P t).map zAV)=false) (K acc (σ.put dst (.box (base+i) 0))):=rfl
def stV (P:Program) (base k:Nat) (t:TypeId) (x a:AV) (dst:Option Tmp) (acc:List (Nat × List AV)) (σ:St) (K:List (Nat × List AV)→St→Prop):Prop:=match cellsOf x with
 |some cs=>(cs.length=tsz P t∧0<tsz P t∧cs.all AV.one=true)∧a= .box (base+k) 0∧K ((base+k,cs)::acc) (σ.put dst .any)
 |none=>False
@[go_sem] theorem Xa {K} {k} {dst} {t ty} {a x} {ps} {af} {w1 w2 w3 w4 w5}:MT P ops base (.st k) i ⟨dst,.store t a x,ty,ps,af,none⟩ acc σ K w1 w2 w3 w4 w5=AS (σ.e x) fun x=>AS (σ.e a) fun a=>stV P base k t x a dst acc σ K:=rfl
def aC (P:Program) (base k:Nat) (t:TypeId) (x a:AV) (dst:Option Tmp) (acc:List (Nat × List AV)) (σ:St) (K:List (Nat × List AV)→St→Prop) (_:Wrap x) (_:Wrap a) (_:Wrap acc) (_:Wrap σ) (_:Wrap K):Prop:=stV P base k t x a dst acc σ K
@[go_sem ↓] theorem aD {k} {t} {x a} {dst} {K}:stV P base k t x a dst acc σ K=aC P base k t x a dst acc σ K ⟨⟩ ⟨⟩ ⟨⟩ ⟨⟩ ⟨⟩:=rfl
def trX (o:Option Oper) (f:Oper→Prop):Prop:=match o with
 |some o=>f o
 |none=>False
def trY (o:Option Oper) (f:Oper→Prop) (_:Wrap f):Prop:=trX o f
@[go_sem ↓] theorem aE {x} {f}:trX x f=trY x f ⟨⟩:=rfl
@[go_sem] theorem Xb {f} {w}:trY (some o) f w=f o:=rfl
def VQ (p q:Prop):Prop:=p∧q
def Xc (p q:Prop) (_:Wrap p) (_:Wrap q):Prop:=p∧q
@[go_sem ↓] theorem Yz {p q:Prop}:VQ p q=Xc p q ⟨⟩ ⟨⟩:=rfl
theorem Ar {p q:Prop} {w} {w'} (hp:p) (hq:q):Xc p q w w':=⟨hp,hq⟩
def K6 (P:Program) (ops:Array Oper) (base:Nat) (ts:List (Nat × Oper)) (tr:Tr) (σ:St) (K:St→Prop) (_:Wrap ops) (_:Wrap ts) (_:Wrap K):Prop:=aTr P ops base ts tr σ K
@[go_sem ↓] theorem aF {tr}:aTr P ops base ts tr σ K=K6 P ops base ts tr σ K ⟨⟩ ⟨⟩ ⟨⟩:=rfl
@[go_sem] theorem aG {w3} {w4}:K6 P ops base ts .fin σ K w1 w3 w4=K σ:=rfl
@[go_sem] theorem aH {t} {w3} {w4}:K6 P ops base ts (.br i t .stop) σ K w1 w3 w4=trX (look ts i) fun o=>aops P ops base 0 i [o] σ fun σ'=>aTr P ops base ts t σ' K:=by
 unfold K6 trX
 rw [aTr,aTr,and_true]
 rfl
@[go_sem] theorem aI {t u m} {j} {w3} {w4}:K6 P ops base ts (.br i t (.br j u m)) σ K w1 w3 w4=VQ (aTr P ops base ts (.br i t .stop) σ K) (aTr P ops base ts (.br j u m) σ K):=by
 unfold K6 VQ
 simp only [aTr,and_true]
@[go_sem] theorem aJ {t} {w3} {w4}:K6 P ops base ts (Tr.sq [] t) σ K w1 w3 w4=K6 P ops base ts t σ K w1 w3 w4:=rfl
@[go_sem] theorem bB {t} {is} {w3} {w4}:K6 P ops base ts (Tr.sq (i::is) t) σ K w1 w3 w4=K6 P ops base ts (.br i (Tr.sq is t) .stop) σ K w1 w3 w4:=rfl
end
def TR (p:Bool) (K:St→Prop) (σ:St):Prop:=seqW p K σ
def O4 (p:Bool) (K:St→Prop) (σ:St) (_:Wrap K) (_:Wrap σ):Prop:=seqW p K σ
@[go_sem ↓] theorem Y0 {p}:TR p K σ=O4 p K σ ⟨⟩ ⟨⟩:=rfl
@[go_sem] theorem WT {w1} {w2}:O4 true K σ w1 w2=K σ:=rfl
theorem CY {w1} {w2} (h:K σ):O4 false K σ w1 w2:=⟨σ,.nil σ,h⟩
theorem Cr {w1} {w2} {σ1} (h:K σ1) (hw:Wk σ σ1):O4 false K σ w1 w2:=⟨σ1,hw,h⟩
@[go_sem] theorem TS {id:Nat} {l:List Oper}:En (.region id l.toArray false)=l.all fun o=>o.guard.isNone&&VA o.op:=rfl
attribute [go_sem] VA Bool.and_true Bool.true_and Bool.and_false Bool.false_and
@[go_sem] theorem VS {id:Nat} {l:List Oper}:En (.region id l.toArray true)=false:=rfl
@[go_sem] theorem VT:En .skip =false:=rfl
@[go_sem] theorem WU {a b}:En (.seq a b)=false:=rfl
@[go_sem] theorem VU {c} {a b}:En (.cond c a b)=false:=rfl
@[go_sem] theorem Uu {id} {a}:En (.block id a)=false:=rfl
@[go_sem] theorem VV {a}:En (.loop a)=false:=rfl
@[go_sem] theorem VW {id}:En (.exit id)=false:=rfl
@[go_sem] theorem WV:En .ret =false:=rfl
attribute [go_sem] Option.isNone_none Option.isNone_some List.all_cons List.all_nil
@[go_sem ↓] theorem bC {a b}:awp P (.seq a b) Q σ=awp P a (AE.then (TR (En a) (awp P b Q)) Q) σ:=by rw [awp]; rfl
@[go_sem ↓] theorem aK {c} {a b}:awp P (.cond c a b) Q σ=AS (σ.e c) fun v=>Pg v (awp P a Q σ) (awp P b Q σ):=by rw [awp]; rfl
@[go_sem ↓] theorem Y1 {id} {c}:awp P (.block id c) Q σ=awp P c (AE.inBlock id Q) σ:=by rw [awp]
@[go_sem ↓] theorem aL {id}:awp P (.exit id) Q σ=Q (.exit id) σ:=by rw [awp]
@[go_sem ↓] theorem bD:awp P .ret Q σ=Q .ret σ:=by rw [awp]
@[go_sem] theorem O5 {b} {p q:Prop}:Pg (.bool b) p q=Kg b p q:=by simp [Pg,Kg]
@[go_sem ↓] theorem Uv {n}:AE.then n Q .normal σ=n σ:=rfl
@[go_sem ↓] theorem WW {n} {id}:AE.then n Q (.exit id) σ=Q (.exit id) σ:=rfl
@[go_sem ↓] theorem Xd {n}:AE.then n Q .ret σ=Q .ret σ:=rfl
@[go_sem ↓] theorem TT {id}:AE.inBlock id Q .normal σ=Q .normal σ:=rfl
@[go_sem ↓] theorem WX {id}:AE.inBlock id Q .ret σ=Q .ret σ:=rfl
def Nk (P:Program) (b:Code) (Q:AE→St→Prop) (σ:St) (_:Wrap b) (_:Wrap Q):Prop:=awp P (.loop b) Q σ
def lpX (P:Program) (b:Code) (Q:AE→St→Prop) (σ:St):Prop:=∃σ1,Wk σ σ1∧awp P (.loop b) Q σ1
def lpY (P:Program) (b:Code) (Q:AE→St→Prop) (σ:St) (_:Wrap b) (_:Wrap Q) (_:Wrap σ):Prop:=∃σ1,Wk σ σ1∧awp P (.loop b) Q σ1
@[go_sem ↓] theorem aM {b}:lpX P b Q σ=lpY P b Q σ ⟨⟩ ⟨⟩ ⟨⟩:=rfl
theorem Nl {b} {w1} {w2} {w3} {σ1} (h:awp P (.loop b) Q σ1) (hw:Wk σ σ1):lpY P b Q σ w1 w2 w3:=⟨σ1,hw,h⟩
theorem A1 {b} {w1} {w2} (h:awp P b (AE.then (lpX P b Q) Q) σ):Nk P b Q σ w1 w2:=Ni h
@[go_sem ↓] theorem WY {b}:awp P (.loop b) Q σ=Nk P b Q σ ⟨⟩ ⟨⟩:=rfl
@[go_sem ↓] theorem VX {id i}:AE.inBlock id Q (.exit i) σ=Gj (decide (i=id)) (Q .normal σ) (Q (.exit i) σ):=by
 simp only [AE.inBlock,Gj]
 by_cases h:i=id <;> simp [h]
attribute [go_sem] decide_true decide_false
def opX (P:Program) (pos:Nat) (dst:Option Tmp) (op:Op) (σ:St) (K:St→Prop):Prop:=aop P pos ⟨dst,op,0, "",#[],none⟩ σ K
def opL (P:Program) (L:Bool) (pos:Nat) (dst:Option Tmp) (op:Op) (σ:St) (K:St→Prop) (_:Wrap L):Prop:=JR P L pos ⟨dst,op,0, "",#[],none⟩ σ K
theorem Nm {L} {pos} {o}:JR P L pos o σ K=opL P L pos o.dst o.op σ K ⟨⟩:=by
 obtain⟨dst,op,type,ps,after,guard⟩:=o
 rfl
@[go_sem] theorem bE {ops} {base cut i} {w1} {w2} {w3} {w4}:FM P ops base cut i [] σ K w1 w2 w3 w4=K σ:=by rw [FM,aops]
@[go_sem] theorem aN {ops} {base cut i} {dst} {op} {type} {ps} {after} {rest} {w1} {w2} {w3} {w4}:
  FM P ops base cut i (⟨dst,op,type,ps,after,none⟩::rest) σ K w1 w2 w3 w4=opL P (decide (cut≤i)) (base+i) dst op σ (fun σ'=>aops P ops base cut (i+1) rest σ' K) ⟨⟩:=by
 rw [FM,aops]; simp only [Nm]
def EQ (ops:Array Oper) (j:Nat) (K:Tmp→Prop):Prop:=optX (EP ops j) K
@[go_sem ↓] theorem O6 {dst} {op} {type} {ps} {after} {g} {rest} {K}:EQ (List.toArray (⟨some dst,op,type,ps,after,g⟩::rest)) 0 K=K dst:=by
 simp [EQ,EP,optX]
@[go_sem ↓] theorem O7 {o} {rest} {j} {K}:EQ (List.toArray (o::rest)) (j+1) K=EQ rest.toArray j K:=by
 simp [EQ,EP]
def Gk (v:AV) (want:Bool) (p q q':Prop):Prop:=(∃b,v= .bool b∧(b=want→p)∧(b= !want→q))∨(v= .tup [] ∧q')
@[go_sem ↓] theorem Nn {b} {p q q':Prop}:Gk (.bool b) true p q q'=Kg b p q:=by simp [Gk,Kg]
@[go_sem ↓] theorem MU {b} {p q q':Prop}:Gk (.bool b) false p q q'=Kg b q p:=by
 simp only [Gk,Kg,AV.bool.injEq,exists_eq_left',Bool.not_false,reduceCtorEq,false_and,or_false]
 exact propext And.comm
@[go_sem ↓] theorem Qu {want} {p q q':Prop}:Gk (.tup []) want p q q'=q':=by simp [Gk]
@[go_sem] theorem Y2 {ops} {base cut i} {dst} {op} {type} {ps} {after} {j} {want} {rest} {w1} {w2} {w3} {w4}:
  FM P ops base cut i (⟨dst,op,type,ps,after,some (j,want)⟩::rest) σ K w1 w2 w3 w4=EQ ops j fun s=>AS (σ.g s) fun v=>Gk v want
   (opL P (decide (cut≤i)) (base+i) dst op (σ.put (some s) (.bool want)) (fun σ'=>aops P ops base cut (i+1) rest σ' K) ⟨⟩)
   (aops P ops base cut (i+1) rest ((σ.put (some s) (.bool (!want))).put dst (.tup [])) K)
   (aops P ops base cut (i+1) rest (σ.put dst (.tup [])) K):=by
 rw [FM,aops]
 simp only [Nm,EQ,optX,Gk,AS]
section
variable {L:Bool} {pos:Nat} {dst:Option Tmp} {wL:Wrap L}
theorem BP {op} (h:∀ (σ:St) (K:St→Prop),GQ P ⟨dst,op,0, "",#[],none⟩ σ K=False) (hA:Jw ⟨dst,op,0, "",#[],none⟩=false:=by rfl) (hS:SliK P pos ⟨dst,op,0, "",#[],none⟩ σ K=False:=by rfl):opL P L pos dst op σ K wL=opX P pos dst op σ K:=by
 unfold opL JR opX
 rw [h,hA,hS]; simp
@[go_sem ↓] theorem Xe {x}:opL P L pos dst (.move x) σ K wL=opX P pos dst (.move x) σ K:=BP fun _ _=>rfl
@[go_sem ↓] theorem VY {x}:opL P L pos dst (.assign x) σ K wL=opX P pos dst (.assign x) σ K:=BP fun _ _=>rfl
@[go_sem ↓] theorem Xf {a b c}:opL P L pos dst (.pick c a b) σ K wL=opX P pos dst (.pick c a b) σ K:=BP fun _ _=>rfl
@[go_sem ↓] theorem Xg {t} {a}:opL P L pos dst (.load t a) σ K wL=opX P pos dst (.load t a) σ K:=BP fun _ _=>rfl
@[go_sem ↓] theorem TU {x}:opL P L pos dst (.nilCheck x) σ K wL=opX P pos dst (.nilCheck x) σ K:=BP fun _ _=>rfl
@[go_sem ↓] theorem Y3 {op} {t t'} {x y}:opL P L pos dst (.binOp op t x y t') σ K wL=opX P pos dst (.binOp op t x y t') σ K:=BP fun _ _=>rfl
@[go_sem ↓] theorem aO {op} {t} {x}:opL P L pos dst (.unOp op t x) σ K wL=opX P pos dst (.unOp op t x) σ K:=BP fun _ _=>rfl
@[go_sem ↓] theorem Uw {s d} {x}:opL P L pos dst (.convert s d x) σ K wL=opX P pos dst (.convert s d x) σ K:=BP fun _ _=>rfl
@[go_sem ↓] theorem S9 {s} {x} {f}:opL P L pos dst (.fieldAddr s x f) σ K wL=opX P pos dst (.fieldAddr s x f) σ K:=BP fun _ _=>rfl
@[go_sem ↓] theorem WZ {s} {x} {f}:opL P L pos dst (.field s x f) σ K wL=opX P pos dst (.field s x f) σ K:=BP fun _ _=>rfl
@[go_sem ↓] theorem TA {t} {x i}:opL P L pos dst (.indexAddr t x i) σ K wL=opX P pos dst (.indexAddr t x i) σ K:=BP fun _ _=>rfl
@[go_sem ↓] theorem Wa {t} {x i}:opL P L pos dst (.index t x i) σ K wL=opX P pos dst (.index t x i) σ K:=BP fun _ _=>rfl
def O8 (P:Program) (L:Bool) (pos:Nat) (dst:Option Tmp) (op:Op) (v:AV) (σ:St) (K:St→Prop):Prop:=opX P pos dst op σ K∨(L=true∧(match v with| .own _=>True|_=>False)∧SliK P pos ⟨dst,op,0, "",#[],none⟩ σ K)
def R5 (P:Program) (L:Bool) (pos:Nat) (dst:Option Tmp) (op:Op) (v:AV) (σ:St) (K:St→Prop) (_:Wrap σ) (_:Wrap K) (_:Wrap op):Prop:=O8 P L pos dst op v σ K
@[go_sem ↓] theorem Y4 {op} {v}:O8 P L pos dst op v σ K=R5 P L pos dst op v σ K ⟨⟩ ⟨⟩ ⟨⟩:=rfl
@[go_sem] theorem Y5 {op} {rows} {w1 w2 w3}:R5 P L pos dst op (.ro rows) σ K w1 w2 w3=opX P pos dst op σ K:=by simp [R5,O8]
@[go_sem] theorem Xh {op} {s} {w1 w2 w3}:R5 P L pos dst op (.str s) σ K w1 w2 w3=opX P pos dst op σ K:=by simp [R5,O8]
theorem Qv {t} {x} {l h m}:opL P L pos dst (.slice t x l h m) σ K wL=O8 P L pos dst (.slice t x l h m) (σ.e x) σ K:=by
 have h1:GQ P ⟨dst,.slice t x l h m,0, "",#[],none⟩ σ K=False:=rfl
 have h2:Jw ⟨dst,.slice t x l h m,0, "",#[],none⟩=false:=rfl
 have h3:SliK P pos ⟨dst,.slice t x l h m,0, "",#[],none⟩ σ K=((match σ.e x with| .own _=>True|_=>False)∧SliK P pos ⟨dst,.slice t x l h m,0, "",#[],none⟩ σ K):=by
  unfold SliK
  cases m with
  |some m=>simp
  |none=>
   simp only
   generalize σ.e x=v
   cases v <;> simp
 unfold opL JR O8 opX
 rw [h1,h2]
 refine propext ⟨?_,?_⟩
 ·rintro (⟨-,h⟩|⟨hL,h|h⟩|⟨-,h,-⟩)
  ·exact .inl h
  ·exact h.elim
  ·rw [h3] at h; exact .inr ⟨hL,h⟩
  ·cases h
 ·rintro (h|⟨hL,-,h⟩)
  ·exact .inl ⟨.inr rfl,h⟩
  ·exact .inr (.inl ⟨hL,.inr h⟩)
@[go_sem ↓] theorem VZ {t} {x} {l h m}:opL P L pos dst (.slice t x l h m) σ K wL=AS (σ.e x) fun v=>O8 P L pos dst (.slice t x l h m) v σ K:=Qv
@[go_sem ↓] theorem Ux {x} {i}:opL P L pos dst (.extract x i) σ K wL=opX P pos dst (.extract x i) σ K:=BP fun _ _=>rfl
@[go_sem ↓] theorem TV {c} {a b}:opL P L pos dst (.makeFunc c a b) σ K wL=opX P pos dst (.makeFunc c a b) σ K:=BP fun _ _=>rfl
@[go_sem ↓] theorem Y6 {t} {x}:opL P L pos dst (.box t x) σ K wL=opX P pos dst (.box t x) σ K:=BP fun _ _=>rfl
@[go_sem ↓] theorem Wb {t}:opL P L pos dst (.alloc t) σ K wL=opX P pos dst (.alloc t) σ K:=BP fun _ _=>rfl
@[go_sem ↓] theorem Wc {t} {ps}:opL P L pos dst (.build t ps) σ K wL=opX P pos dst (.build t ps) σ K:=BP fun _ _=>rfl
@[go_sem ↓] theorem R6 {t} {n} {ps}:opL P L pos dst (.buildSlice t n ps) σ K wL=opX P pos dst (.buildSlice t n ps) σ K:=BP fun _ _=>rfl
@[go_sem ↓] theorem TB {t} {l c}:opL P L pos dst (.makeSlice t l c) σ K wL=opX P pos dst (.makeSlice t l c) σ K:=BP fun _ _=>rfl
@[go_sem ↓] theorem Uy {t} {r}:opL P L pos dst (.makeMap t r) σ K wL=opX P pos dst (.makeMap t r) σ K:=BP fun _ _=>rfl
@[go_sem ↓] theorem Va {t} {x i} {ok}:opL P L pos dst (.lookup t x i ok) σ K wL=opX P pos dst (.lookup t x i ok) σ K:=BP fun _ _=>rfl
@[go_sem ↓] theorem TC {t} {m i x}:opL P L pos dst (.mapUpdate t m i x) σ K wL=opX P pos dst (.mapUpdate t m i x) σ K:=BP fun _ _=>rfl
@[go_sem ↓] theorem Wd {t} {a x}:opL P L pos dst (.store t a x) σ K wL=opX P pos dst (.store t a x) σ K:=BP fun _ _=>rfl
@[go_sem ↓] theorem Y7 {as} {ts}:opL P L pos dst (.call ⟨.builtin .len,as,ts⟩) σ K wL=opX P pos dst (.call ⟨.builtin .len,as,ts⟩) σ K:=BP fun _ _=>rfl
@[go_sem ↓] theorem Y8 {as} {ts}:opL P L pos dst (.call ⟨.builtin .max,as,ts⟩) σ K wL=opX P pos dst (.call ⟨.builtin .max,as,ts⟩) σ K:=BP fun _ _=>rfl
@[go_sem ↓] theorem Y9 {as} {ts}:opL P L pos dst (.call ⟨.builtin .min,as,ts⟩) σ K wL=opX P pos dst (.call ⟨.builtin .min,as,ts⟩) σ K:=BP fun _ _=>rfl
def opE (P:Program) (pos:Nat) (dst:Option Tmp) (op:Op) (σ:St) (K:St→Prop):Prop:=∃r,Ev P pos ⟨dst,op,0, "",#[],none⟩ σ.e σ.T σ.B r∧BZ σ r.t∧CM σ r.b∧K (σ.add dst r)
def Qw (L:Bool) (p q:Prop) (_:Wrap p) (_:Wrap q):Prop:=(L=true∧p)∨(L=false∧q)
@[go_sem] theorem We {p q:Prop} {w1} {w2}:Qw true p q w1 w2=p:=by simp [Qw]
@[go_sem] theorem Vb {p q:Prop} {w1} {w2}:Qw false p q w1 w2=q:=by simp [Qw]
@[go_sem ↓] theorem Vc {as} {ts}:opL P L pos dst (.call ⟨.builtin .append,as,ts⟩) σ K wL=Qw L (opX P pos dst (.call ⟨.builtin .append,as,ts⟩) σ K) (opE P pos dst (.call ⟨.builtin .append,as,ts⟩) σ K) ⟨⟩ ⟨⟩:=by
 have h1:GQ P ⟨dst,.call ⟨.builtin .append,as,ts⟩,0, "",#[],none⟩ σ K=False:=rfl
 have h2:Jw ⟨dst,.call ⟨.builtin .append,as,ts⟩,0, "",#[],none⟩=true:=rfl
 have h3:SliK P pos ⟨dst,.call ⟨.builtin .append,as,ts⟩,0, "",#[],none⟩ σ K=False:=rfl
 unfold opL JR opX Qw opE
 rw [h1,h2,h3]
 simp
end
attribute [go_sem] Bool.not_true Bool.not_false Nat.zero_le
theorem DU {pos:Nat} {dst:Option Tmp} {op:Op} (h:∀K',aop P pos ⟨dst,op,0, "",#[],none⟩ σ K'=∃r,Ev P pos ⟨dst,op,0, "",#[],none⟩ σ.e σ.T σ.B r∧BZ σ r.t∧CM σ r.b∧K' (σ.add dst r)) {p:AV→Prop} (hp:∀r,Ev P pos ⟨dst,op,0, "",#[],none⟩ σ.e σ.T σ.B r=∃v,p v∧r=⟨v,[],[]⟩):
  opX P pos dst op σ K=∃v,p v∧K (σ.put dst v):=by
 unfold opX
 rw [h]
 refine propext ⟨?_,?_⟩
 ·rintro ⟨r,h1,h2,h3,h4⟩
  rw [hp] at h1
  obtain⟨v,h5,rfl⟩:=h1
  exact⟨v,h5,by cases dst <;> exact h4⟩
 ·rintro ⟨v,h5,h4⟩
  exact⟨⟨v,[],[]⟩,by rw [hp]; exact⟨v,h5,rfl⟩,trivial,trivial,by cases dst <;> exact h4⟩
@[go_sem ↓] theorem aP {pos:Nat} {dst:Option Tmp} {x:Operand}:opX P pos dst (.move x) σ K=AS (σ.e x) fun v=>K (σ.put dst v):=by
 rw [DU (p:=fun v=>v=σ.e x) (fun _=>by simp only [aop]) (fun r=>by simp [Ev])]
 simp [AS]
@[go_sem ↓] theorem Xi {pos:Nat} {dst:Option Tmp} {x:Operand}:opX P pos dst (.assign x) σ K=AS (σ.e x) fun v=>K (σ.put dst v):=by
 rw [DU (p:=fun v=>v=σ.e x) (fun _=>by simp only [aop]) (fun r=>by simp [Ev])]
 simp [AS]
def Ki (c a b:AV) (K:AV→Prop):Prop:=∃t,c= .bool t∧K (if t=true then a else b)
@[go_sem] theorem O9 {a b} {K}:Ki (.bool true) a b K=K a:=by simp [Ki]
@[go_sem] theorem No {a b} {K}:Ki (.bool false) a b K=K b:=by simp [Ki]
theorem Vd {pos:Nat} {dst:Option Tmp} {c a b:Operand}:opX P pos dst (.pick c a b) σ K=Ki (σ.e c) (σ.e a) (σ.e b) fun v=>K (σ.put dst v):=by
 rw [DU (p:=fun v=>∃t,σ.e c= .bool t∧v=if t=true then σ.e a else σ.e b) (fun _=>by simp only [aop]) (fun r=>by
  simp only [Ev]
  refine propext ⟨?_,?_⟩
  ·rintro ⟨t,h,rfl⟩; exact⟨_,⟨t,h,rfl⟩,rfl⟩
  ·rintro ⟨v,⟨t,h,rfl⟩,rfl⟩; exact⟨t,h,rfl⟩)]
 simp only [Ki]
 refine propext ⟨?_,?_⟩
 ·rintro ⟨v,⟨t,h,rfl⟩,hk⟩; exact⟨t,h,hk⟩
 ·rintro ⟨t,h,hk⟩; exact⟨_,⟨t,h,rfl⟩,hk⟩
def Gl (P:Program) (t:TypeId) (a:AV) (σ:St) (K:AV→Prop):Prop:=∃v,Ej P σ.T σ.B t a v∧K v
def ldX (P:Program) (t:TypeId) (off:Nat) (vs:List AV) (K:AV→Prop):Prop:=
 Gj (ti P t).isAgg (AJ (off+tsz P t≤vs.length) (AS (.agg (Cl vs off (tsz P t))) K)) (AJ ((ti P t).sc =true) (optX vs[off]? K))
theorem Ve {pos:Nat} {dst:Option Tmp} {t:TypeId} {a:Operand}:opX P pos dst (.load t a) σ K=Gl P t (σ.e a) σ fun v=>K (σ.put dst v):=
 DU (p:=fun v=>Ej P σ.T σ.B t (σ.e a) v) (fun _=>by simp only [aop]) (fun r=>by simp only [Ev])
@[go_sem] theorem Qx {t} {b off} {K}:Gl P t (.box b off) σ K=optX (σ.B b) fun vs=>AJ (isMp vs=false) (ldX P t off vs K):=by
 simp only [Gl,Ej,optX,ldX,Gj,AJ,AS]
 by_cases h:(ti P t).isAgg =true
 ·simp only [h,if_true]
  refine propext ⟨?_,?_⟩
  ·rintro ⟨v,⟨vs,h1,hm,h2,rfl⟩,hk⟩; exact⟨vs,h1,hm,.inl ⟨trivial,h2,hk⟩⟩
  ·rintro ⟨vs,h1,hm,(⟨-,h2,hk⟩|⟨hh,-⟩)⟩
   ·exact⟨_,⟨vs,h1,hm,h2,rfl⟩,hk⟩
   ·cases hh
 ·have h':(ti P t).isAgg =false:=by simpa using h
  simp only [h',Bool.false_eq_true,if_false]
  refine propext ⟨?_,?_⟩
  ·rintro ⟨v,⟨vs,h1,hm,h2,h3⟩,hk⟩; exact⟨vs,h1,hm,.inr ⟨trivial,h2,v,h3,hk⟩⟩
  ·rintro ⟨vs,h1,hm,(⟨hh,-⟩|⟨-,h2,v,h3,hk⟩)⟩
   ·exact hh.elim
   ·exact⟨v,⟨vs,h1,hm,h2,h3⟩,hk⟩
@[go_sem] theorem Qy {t} {vs} {off} {K}:Gl P t (.rop vs off) σ K=ldX P t off vs K:=by
 simp only [Gl,Ej,optX,ldX,Gj,AJ,AS]
 by_cases h:(ti P t).isAgg =true
 ·simp only [h,if_true]
  refine propext ⟨?_,?_⟩
  ·rintro ⟨v,⟨h2,rfl⟩,hk⟩; exact .inl ⟨trivial,h2,hk⟩
  ·rintro (⟨-,h2,hk⟩|⟨hh,-⟩)
   ·exact⟨_,⟨h2,rfl⟩,hk⟩
   ·cases hh
 ·have h':(ti P t).isAgg =false:=by simpa using h
  simp only [h',Bool.false_eq_true,if_false]
  refine propext ⟨?_,?_⟩
  ·rintro ⟨v,⟨h2,h3⟩,hk⟩; exact .inr ⟨trivial,h2,v,h3,hk⟩
  ·rintro (⟨hh,-⟩|⟨-,h2,v,h3,hk⟩)
   ·exact hh.elim
   ·exact⟨v,⟨h2,h3⟩,hk⟩
@[go_sem] theorem Qz {t} {t' sz i off} {K}:Gl P t (.elt t' sz i off) σ K=
  optX (σ.T t') fun tk=>optX tk.rows[i]? fun row=>AJ (row.length=sz) (Gj (ti P t).isAgg (AJ (off+tsz P t≤sz) (AS (.agg (GM t' tk.gen [] sz i row off (tsz P t))) K)) (AJ ((ti P t).sc =true) (optX row[off]? fun d=>K (ofT t' tk.gen [] sz i off d)))):=by
 simp only [Gl,Ej,optX,Gj,AJ,AS]
 by_cases h:(ti P t).isAgg =true
 ·simp only [h,if_true]
  refine propext ⟨?_,?_⟩
  ·rintro ⟨v,⟨tk,row,h1,h2,h3,h4,rfl⟩,hk⟩; exact⟨tk,h1,row,h2,h3,.inl ⟨trivial,h4,hk⟩⟩
  ·rintro ⟨tk,h1,row,h2,h3,(⟨-,h4,hk⟩|⟨hh,-⟩)⟩
   ·exact⟨_,⟨tk,row,h1,h2,h3,h4,rfl⟩,hk⟩
   ·cases hh
 ·have h':(ti P t).isAgg =false:=by simpa using h
  simp only [h',Bool.false_eq_true,if_false]
  refine propext ⟨?_,?_⟩
  ·rintro ⟨v,⟨tk,row,h1,h2,h3,h4,d,h5,rfl⟩,hk⟩; exact⟨tk,h1,row,h2,h3,.inr ⟨trivial,h4,d,h5,hk⟩⟩
  ·rintro ⟨tk,h1,row,h2,h3,(⟨hh,-⟩|⟨-,h4,d,h5,hk⟩)⟩
   ·exact hh.elim
   ·exact⟨_,⟨tk,row,h1,h2,h3,h4,d,h5,rfl⟩,hk⟩
@[go_sem] theorem Q0 {t} {t' g} {p} {sz i off} {K}:Gl P t (.els t' g p sz i off) σ K=
  optX (subR σ.T t' g p) fun rows=>optX rows[i]? fun row=>AJ (row.length=sz) (Gj (ti P t).isAgg (AJ (off+tsz P t≤sz) (AS (.agg (GM t' g p sz i row off (tsz P t))) K)) (AJ ((ti P t).sc =true) (optX row[off]? fun d=>K (ofT t' g p sz i off d)))):=by
 simp only [Gl,Ej,optX,Gj,AJ,AS]
 by_cases h:(ti P t).isAgg =true
 ·simp only [h,if_true]
  refine propext ⟨?_,?_⟩
  ·rintro ⟨v,⟨tk,row,h1,h2,h3,h4,rfl⟩,hk⟩; exact⟨tk,h1,row,h2,h3,.inl ⟨trivial,h4,hk⟩⟩
  ·rintro ⟨tk,h1,row,h2,h3,(⟨-,h4,hk⟩|⟨hh,-⟩)⟩
   ·exact⟨_,⟨tk,row,h1,h2,h3,h4,rfl⟩,hk⟩
   ·cases hh
 ·have h':(ti P t).isAgg =false:=by simpa using h
  simp only [h',Bool.false_eq_true,if_false]
  refine propext ⟨?_,?_⟩
  ·rintro ⟨v,⟨tk,row,h1,h2,h3,h4,d,h5,rfl⟩,hk⟩; exact⟨tk,h1,row,h2,h3,.inr ⟨trivial,h4,d,h5,hk⟩⟩
  ·rintro ⟨tk,h1,row,h2,h3,(⟨hh,-⟩|⟨-,h4,d,h5,hk⟩)⟩
   ·exact hh.elim
   ·exact⟨_,⟨tk,row,h1,h2,h3,h4,d,h5,rfl⟩,hk⟩
def Vf (o:Option Tok) (g:Nat) (p:Pth):Option (List (List D)):=match o with
 |some tk=>if tk.gen=g then getP p tk.rows else none
 |none=>none
@[go_sem ↓] theorem ZA {T} {t g} {p}:subR T t g p=Vf (T t) g p:=rfl
@[go_sem] theorem Wf {rows} {ap} {g} {q} {p}:Vf (some ⟨rows,ap,g,q⟩) g p=getP p rows:=by simp [Vf]
def R7 (o:Option Tok) (g:Nat) (p:Pth):Option (List (List D)):=match o with
 |some tk=>if tk.gen=g then (getP p tk.rows).map tk.er else none
 |none=>none
@[go_sem ↓] theorem ZB {T} {t g} {p}:subE T t g p=R7 (T t) g p:=rfl
@[go_sem] theorem Vg {rows} {ap} {g} {q} {p}:R7 (some ⟨rows,ap,g,q⟩) g p=(getP p rows).map (zer q):=by
 simp only [R7,if_true]; rfl
@[go_sem] theorem Wg {r}:zer false r=r:=rfl
@[go_sem] theorem Xj {r}:zer true r=erR r:=rfl
@[go_sem] theorem bF {rows} {ap} {g} {q}:Tok.rd ⟨rows,ap,g,q⟩=zer q rows:=rfl
@[go_sem] theorem bG {rows r} {ap} {g} {q}:Tok.er ⟨rows,ap,g,q⟩ r=zer q r:=rfl
@[go_sem] theorem Wh {z} {rows} {ap} {g}:okZ z ⟨rows,ap,g,false⟩=true:=rfl
@[go_sem] theorem Xk {q} {rows} {ap} {g}:okZ true ⟨rows,ap,g,q⟩=true:=by cases q <;> rfl
@[go_sem] theorem Xl {q} {rows} {ap} {g}:okZ q ⟨rows,ap,g,q⟩=true:=by cases q <;> rfl
@[go_sem] theorem Xm {rows}:getP [] rows=some rows:=rfl
def Vh (d:D) (K:List (List D)→Prop):Prop:=match d with| .sl r=>K r|_=>False
@[go_sem] theorem ZC {r} {K}:Vh (.sl r) K=K r:=rfl
@[go_sem ↓] theorem Wi {sz i j} {p} {rows} {K}:optX (getP ((sz,i,j)::p) rows) K=optX rows[i]? fun row=>AJ (row.length=sz) (optX row[j]? fun d=>Vh d fun r=>optX (getP p r) K):=by
 simp only [getP,optX,AJ]
 cases rows[i]? with
 |none=>simp
 | some row=>
  by_cases h:row.length=sz
  ·simp only [h,if_true,true_and,Option.some.injEq,exists_eq_left']
   cases row[j]? with
   |none=>simp
   |some d=>cases d <;> simp [Vh]
  ·simp [h]
@[go_sem] theorem Vi {t g} {p} {sz i} {d} {ds} {off n}:GM t g p sz i (d::ds) off n=K3 t g p sz i off (((d::ds).drop off).take n):=rfl
attribute [go_sem ↓] ldX
attribute [go_sem] Cl ofD Jo ofS ofT K3
end
attribute [go_sem ↓] O5 Nn MU Qu O9 No Qx Qy Qz Q0
end Go.Proofs.Ytgigfdghecdlgaa.Ab
