/- The abstract walk as a set of rules for 'simp only [go_sem]'. -/
import Derived.Test.YtjnifengdhcojaaGreatDoorAbS
namespace Go.Proofs.YtjnifengdhcojaaGreatDoor.Ab
set_option linter.unusedVariables false
set_option maxHeartbeats 1000000
open Go.RowKit
section
variable {P:Program}
theorem EU {z}:∀ {vs} {σ} {K K'},(∀j σ,K j σ→K' j σ)→A6 z vs σ K→A6 z vs σ K'
 | [],σ,K,K',hk,h=>by rw [A6] at h ⊢; grind
 | .int k n::vs,σ,K,K',hk,h=>by rw [A6] at h ⊢; exact EU (fun j σ=>hk _ σ) h
 | .bool b::vs,σ,K,K',hk,h=>by rw [A6] at h ⊢; exact EU (fun j σ=>hk _ σ) h
 | .str b::vs,σ,K,K',hk,h=>by rw [A6] at h ⊢; exact EU (fun j σ=>hk _ σ) h
 | .nils ::vs,σ,K,K',hk,h=>by rw [A6] at h ⊢; exact EU (fun j σ=>hk _ σ) h
 | .nilp ::vs,σ,K,K',hk,h=>by rw [A6] at h ⊢; exact EU (fun j σ=>hk _ σ) h
 | .ro _::vs,σ,K,K',hk,h=>by rw [A6] at h ⊢; exact⟨h.1,EU (fun j σ=>hk _ σ) h.2⟩
 | .rop _ _::vs,σ,K,K',hk,h=>by rw [A6] at h ⊢; obtain⟨h1,d,h2,h3⟩:=h; exact⟨h1,d,h2,EU (fun j σ=>hk _ σ) h3⟩
 | .bsl _ _ _::vs,σ,K,K',hk,h=>by
  rw [A6] at h ⊢
  split at h
  ·rename_i h0
   rw [if_pos h0]
   exact EU (fun j σ=>hk _ σ) h
  ·rename_i h0
   rw [if_neg h0]
   obtain⟨h1,h2,p,h3,j,q,v,u⟩:=h
   exact⟨h1,h2,p,h3,j,q,v,EU (fun j σ=>hk _ σ) u⟩
 | .own t::vs,σ,K,K',hk,h=>by rw [A6] at h ⊢; obtain⟨tk,h1,h2,h3⟩:=h; exact⟨tk,h1,h2,EU (fun j σ=>hk _ σ) h3⟩
 | .sub _ _ _::vs,σ,K,K',hk,h=>by grind [A6]
 | .els _ _ _ _ _ _::vs,σ,K,K',hk,h=>by grind [A6]
 | .any ::vs,σ,K,K',hk,h=>by grind [A6]
 | .box _ _::vs,σ,K,K',hk,h=>by grind [A6]
 | .elt _ _ _ _::vs,σ,K,K',hk,h=>by grind [A6]
 | .par _ _ _ _::vs,σ,K,K',hk,h=>by grind [A6]
 | .agg _::vs,σ,K,K',hk,h=>by grind [A6]
 | .tup _::vs,σ,K,K',hk,h=>by grind [A6]
 | .fn _ _::vs,σ,K,K',hk,h=>by grind [A6]
 | .mpr _::vs,σ,K,K',hk,h=>by grind [A6]
 | .mpc _ _::vs,σ,K,K',hk,h=>by grind [A6]
theorem bW {t} {a x} {σ} {K K'} (hk:∀σ,K σ→K' σ) (h:OE P t a x σ K):OE P t a x σ K':=by
 unfold OE at h ⊢
 split at h
 ·obtain⟨h1,h2,h3,j⟩:=h
  refine⟨h1,h2,h3,?_⟩
  split at j
  ·grind
  ·grind [EU]
  ·grind [EU]
  omega
 omega
theorem fI {z} {e} {sz} {x} {σ} {K K'} (hk:∀r σ,K r σ→K' r σ) (h:Tl z e sz x σ K):Tl z e sz x σ K':=by
 unfold Tl at h ⊢
 split at h
 ·grind
 ·split at h
  ·grind
  ·rename_i h0
   rw [if_neg h0]
   obtain⟨h0,h1,h2,j,h3,q,p,v,u⟩:=h
   exact⟨h0,h1,h2,j,h3,q,p,v,hk _ _ u⟩
 ·grind
 omega
theorem fJ {z} {sz} {x} {σ} {K K'} (hk:∀r σ,K r σ→K' r σ) (h:OF z sz x σ K):OF z sz x σ K':=by
 unfold OF at h ⊢
 split at h
 ·grind
 ·grind [EU]
 ·grind
 ·grind
 omega
theorem fK {pos} {t} {x y} {σ} {K K'} (hk:∀v σ,K v σ→K' v σ) (h:au P pos t x y σ K):au P pos t x y σ K':=by
 unfold au at h ⊢
 split at h
 ·grind [fI,fJ]
 omega
theorem Wz {t} {m i x} {σ} {K K'} (hk:∀σ,K σ→K' σ) (h:Ys P t m i x σ K):Ys P t m i x σ K':=by
 unfold Ys at h ⊢
 grind
theorem ZY {pos} {o} {σ} {K K'} (hk:∀σ,K σ→K' σ) (h:aop P pos o σ K):aop P pos o σ K':=by
 unfold aop at h ⊢
 split at h
 ·grind
 ·grind
 ·grind [bW]
 ·grind [Wz]
 ·grind [Wz]
 ·grind [fK]
 grind
theorem JN {K K'} (hk:∀σ,K σ→K' σ):∀ {cv} {σ},B5 cv σ K→B5 cv σ K'
 | [],σ,h=>by rw [B5] at h ⊢; grind
 | (n,a,z)::cv,σ,h=>by
  cases a with
  |sub t g p=>
   rw [B5] at h ⊢
   obtain⟨h1,h2,h3,tk,j,q,F,v,C,u⟩:=h
   exact⟨h1,h2,h3,tk,j,q,F,v,C,JN hk u⟩
  |nils=>rw [B5] at h ⊢; exact⟨h.1,JN hk h.2⟩
  |bsl b m sz=>rw [B5] at h ⊢; exact⟨h.1,h.2.1,JN hk h.2.2⟩
  |_=>simp [B5] at h
theorem LN:∀ {cv} {σ} {K K'},(∀σ,K σ→K' σ)→BM cv σ K→BM cv σ K'
 | [],σ,K,K',hk,h=>by rw [BM] at h ⊢; grind
 | (n,a,z)::cv,σ,K,K',hk,h=>by
  cases a with
  | sub t g p=>
   rw [BM] at h ⊢
   refine LN (fun σ h=>?_) h
   cases hn:σ.T n with
   |none=>simp only [hn] at h ⊢; exact hk _ h
   |some tn=>
    simp only [hn] at h ⊢
    obtain⟨tk,h1,h2,h3,j⟩:=h
    exact⟨tk,h1,h2,h3,hk _ j⟩
  |_=>
   rw [BM] at h ⊢
   ·exact LN (fun σ h=>hk _ h) h
   all_goals (intros; simp_all)
theorem bX {f} {args} {σ} {K K'} (hk:∀v σ,K v σ→K' v σ) (h:WP P f args σ K):WP P f args σ K':=by
 obtain⟨y,as,pt,pb,r,j,p,h1,h2⟩:=h
 exact⟨y,as,pt,pb,r,j,p,h1,JN (fun σ h=>⟨h.1,h.2.1,h.2.2.1,h.2.2.2.1,h.2.2.2.2.1,h.2.2.2.2.2.1,h.2.2.2.2.2.2.1,h.2.2.2.2.2.2.2.1,LN (fun σ h=>hk _ _ h) h.2.2.2.2.2.2.2.2⟩) h2⟩
theorem UZ {K K'} (hk:∀a σ,K a σ→K' a σ):∀ {bs} {args} {σ},FzK bs args σ K→FzK bs args σ K'
 | [],args,σ,h=>hk _ _ h
 |b::bs,args,σ,h=>by
  obtain⟨vs,h1,h2,h3⟩:=h
  exact⟨vs,h1,h2,UZ hk h3⟩
theorem bY {f} {args} {σ} {K K'} (hk:∀v σ,K v σ→K' v σ) (h:c9 P f args σ K):c9 P f args σ K':=by
 obtain⟨bs,h⟩:=h
 exact⟨bs,UZ (fun _ _ h=>bX hk h) h⟩
theorem W0 {L} {pos} {o} {σ} {K K'} (hk:∀σ,K σ→K' σ) (h:Ts P L pos o σ K):Ts P L pos o σ K':=by
 rcases h with ⟨hA,h⟩|⟨hL,h⟩|⟨hL,hA,r,h1,h2,h3,h4⟩
 ·exact .inl ⟨hA,ZY hk h⟩
 ·refine .inr (.inl ⟨hL,?_⟩)
  rcases h with h|h|⟨hs,σ1,hn,h⟩
  ·refine .inl ?_
   unfold MM at h ⊢
   split at h
   ·grind [bY]
   omega
  ·refine .inr (.inl ?_)
   unfold SliK at h ⊢
   split at h
   ·split at h
    ·grind
    omega
   omega
  ·exact .inr (.inr ⟨hs,σ1,hn,ZY hk h⟩)
 ·exact .inr (.inr ⟨hL,hA,r,h1,h2,h3,hk _ h4⟩)
theorem Hm {ops} {base cut} {K K'} (hk:∀σ,K σ→K' σ):∀ {l} {i} {σ},aops P ops base cut i l σ K→aops P ops base cut i l σ K'
 | [],i,σ,h=>by rw [aops] at h ⊢; grind
 | o::rest,i,σ,h=>by
  rw [aops] at h ⊢
  split at h
  ·exact W0 (fun σ h=>Hm hk h) h
  ·obtain⟨s,h1,h⟩:=h
   refine⟨s,h1,?_⟩
   rcases h with ⟨b,h2,h3,h4⟩|⟨h2,h3⟩
   ·exact .inl ⟨b,h2,fun hb=>W0 (fun σ h=>Hm hk h) (h3 hb),fun hb=>Hm hk (h4 hb)⟩
   ·exact .inr ⟨h2,Hm hk h3⟩
theorem fL {p} {K K'} (hk:∀σ,K σ→K' σ) {σ} (h:seqW p K σ):seqW p K' σ:=by
 unfold seqW at h ⊢
 grind
theorem Pf {P} {ops} {base} {ts}:∀ (tr:Tr) {σ} {K K'},(∀σ,K σ→K' σ)→aTr P ops base ts tr σ K→aTr P ops base ts tr σ K'
 | .fin,σ,K,K',hk,h=>hk σ h
 | .stop,σ,K,K',hk,h=>trivial
 | .fz t,σ,K,K',hk,h=>by
  simp only [aTr] at h ⊢
  obtain⟨σ1,j,h⟩:=h
  exact⟨σ1,j,Pf t hk h⟩
 | .br i t more,σ,K,K',hk,h=>by
  simp only [aTr] at h ⊢
  refine⟨?_,Pf more hk h.2⟩
  have h1:=h.1
  split at h1
  ·exact Hm (fun σ' h=>Pf t hk h) h1
  ·exact h1.elim
theorem Ua {P} {ops} {base} {r} {i} {o} {acc} {σ} {K K'} (hk:∀acc σ,K acc σ→K' acc σ) (h:MN P ops base r i o acc σ K):MN P ops base r i o acc σ K':=by
 unfold MN at h ⊢
 cases r with
 |no=>grind [Hm]
 |al=>
  grind
 |st k=>
  grind
theorem LO {P} {ops} {base} {V}:∀ (l:List Oper) {E} {i} {ts} {acc} {σ} {K K'},(∀ts acc σ,K ts acc σ→K' ts acc σ)→FE P ops base V E i l ts acc σ K→FE P ops base V E i l ts acc σ K'
 | [],E,i,ts,acc,σ,K,K',hk,h=>by grind [FE]
 |o::l,[],i,ts,acc,σ,K,K',hk,h=>by simp only [FE] at h ⊢; exact Ua (fun acc σ' h=>LO l hk h) h
 |o::l,true::E,i,ts,acc,σ,K,K',hk,h=>by simp only [FE] at h ⊢; exact LO l hk h
 |o::l,false::E,i,ts,acc,σ,K,K',hk,h=>by simp only [FE] at h ⊢; exact Ua (fun acc σ' h=>LO l hk h) h
theorem fM {P} {ops} {base} {draw} {σ} {K K'} (hk:∀σ,K σ→K' σ) (h:eQ P ops base draw σ K):eQ P ops base draw σ K':=by
 unfold eQ at h ⊢
 cases draw with
 |false=>exact Hm hk h
 |true=>
  rcases h with ⟨E,V,tr,hE,h⟩|⟨F,ds,h1,h2,h3,h4⟩|h
  ·exact .inl ⟨E,V,tr,hE,LO _ (fun ts acc σ h=>⟨h.1,Pf tr hk h.2⟩) h⟩
  ·exact .inr (.inl ⟨F,ds,h1,h2,h3,hk _ h4⟩)
  ·exact .inr (.inr fun cx N p a w u j q=>wp_mono (h cx N p a w u j q) fun e a' w' ⟨he,σ',hk',hs'⟩=>⟨he,σ',hk _ hk',hs'⟩)
theorem JO:∀ {c} {Q Q'} {σ},(∀q σ,Q q σ→Q' q σ)→awp P c Q σ→awp P c Q' σ
 | .skip,Q,Q',σ,hq,h=>by rw [awp] at h ⊢; grind
 | .region id ops draw,Q,Q',σ,hq,h=>by rw [awp] at h ⊢; grind [fM]
 | .seq a b,Q,Q',σ,hq,h=>by
  rw [awp] at h ⊢
  refine JO (fun q σ h=>?_) h
  cases q with
  |normal=>
   have u:seqW (JE a) (awp P b Q) σ:=h
   exact fL (K:=awp P b Q) (K':=awp P b Q') (fun σ h=>JO hq h) u
  |exit id=>exact hq _ _ h
  |ret=>exact hq _ _ h
 | .cond c a b,Q,Q',σ,hq,h=>by
  rw [awp] at h ⊢
  obtain⟨v,h1,h2,h3⟩:=h
  exact⟨v,h1,fun e=>JO hq (h2 e),fun e=>JO hq (h3 e)⟩
 | .block id b,Q,Q',σ,hq,h=>by
  rw [awp] at h ⊢
  refine JO (fun q σ h=>?_) h
  cases q with
  |normal=>exact hq _ _ h
  |exit i=>
   grind [AE.inBlock]
  |ret=>exact hq _ _ h
 | .loop b,Q,Q',σ,hq,h=>by
  rw [awp] at h ⊢
  intro L p
  refine h L fun σ j=>p σ (JO (fun q σ h=>?_) j)
  cases q with
  |normal=>exact h
  |exit id=>exact hq _ _ h
  |ret=>exact hq _ _ h
 | .exit id,Q,Q',σ,hq,h=>by rw [awp] at h ⊢; grind
 | .ret,Q,Q',σ,hq,h=>by rw [awp] at h ⊢; grind
 | .rangeFunc _ _ _ _,Q,Q',σ,hq,h=>by simp [awp] at h
 | .goto _,Q,Q',σ,hq,h=>by simp [awp] at h
 | .label _,Q,Q',σ,hq,h=>by simp [awp] at h
theorem ZZ {b} {Q} {σ} (h:awp P b (AE.then (fun σ'=>∃σ1,Wk σ' σ1∧awp P (.loop b) Q σ1) Q) σ):awp P (.loop b) Q σ:=by
 rw [awp]
 intro L j
 refine⟨σ,.nil σ,j σ (JO (fun q σ h=>?_) h)⟩
 cases q with
 |normal=>
  obtain⟨σ1,h1,h2⟩:=h
  rw [awp] at h2
  obtain⟨σ0,h3,p⟩:=h2 L j
  exact⟨σ0,h1.trans h3,p⟩
 |exit id=>exact h
 |ret=>exact h
end
def Ar {α:Type} (v:α) (K:α→Prop):Prop:=K v
def optX {α:Type} (o:Option α) (K:α→Prop):Prop:=∃x,o=some x∧K x
def AP (p q:Prop):Prop:=p∧q
def Q7 (b:Bool) (p q:Prop):Prop:=(b=true∧p)∨(b=false∧q)
def Ub (b:Bool) (p q:Prop):Prop:=(b=true→p)∧(b=false→q)
structure Wrap {α:Sort _} (a:α):Type where
def qN {α:Type} (v:α) (K:α→Prop) (_:Wrap K):Prop:=K v
def bZ {α:Type} (o:Option α) (K:α→Prop) (_:Wrap K):Prop:=∃x,o=some x∧K x
def ba (p q:Prop) (_:Wrap q):Prop:=p∧q
def SF (b:Bool) (p q:Prop) (_:Wrap p) (_:Wrap q):Prop:=(b=true→p)∧(b=false→q)
def iO (b:Bool) (p q:Prop) (_:Wrap p) (_:Wrap q):Prop:=Q7 b p q
@[go_sem ↓] theorem sd {α:Type} {v:α} {K:α→Prop}:Ar v K=qN v K ⟨⟩:=rfl
@[go_sem ↓] theorem se {α:Type} {o:Option α} {K:α→Prop}:optX o K=bZ o K ⟨⟩:=rfl
@[go_sem ↓] theorem sf {p q:Prop}:AP p q=ba p q ⟨⟩:=rfl
@[go_sem ↓] theorem qO {b} {p q:Prop}:Ub b p q=SF b p q ⟨⟩ ⟨⟩:=rfl
@[go_sem ↓] theorem sg {b} {p q:Prop}:Q7 b p q=iO b p q ⟨⟩ ⟨⟩:=rfl
@[go_sem] theorem si {α:Type} {v:α} {K:α→Prop} {w:Wrap K}:qN v K w=K v:=propext Iff.rfl
@[go_sem] theorem pE {α:Type} {x:α} {K:α→Prop} {w:Wrap K}:bZ (some x) K w=K x:=by simp [bZ]
@[go_sem] theorem pF {q:Prop} {w}:ba True q w=q:=by simp [ba]
@[go_sem] theorem vL {p:Prop} {w}:ba p True w=p:=by simp [ba]
@[go_sem] theorem nZ {p q:Prop} {w} {w'}:SF true p q w w'=p:=by simp [SF]
@[go_sem] theorem mu {p q:Prop} {w} {w'}:SF false p q w w'=q:=by simp [SF]
@[go_sem] theorem pG {p q:Prop} {w} {w'}:iO true p q w w'=p:=by simp [Q7,iO]
@[go_sem] theorem na {p q:Prop} {w} {w'}:iO false p q w w'=q:=by simp [Q7,iO]
theorem Iy {α:Type} {x:α} {K:α→Prop}:optX (some x) K=K x:=by simp [optX]
theorem W1 {α:Type} {K:α→Prop}:optX none K=False:=by simp [optX]
theorem Bu {p q:Prop} {w} (hp:p) (hq:q):ba p q w:=⟨hp,hq⟩
theorem Hn {b} {p q:Prop} {w} {w'} (hp:b=true→p) (hq:b=false→q):SF b p q w w':=⟨hp,hq⟩
theorem CM {α:Type} {o:Option α} {x:α} {K:α→Prop} {w:Wrap K} (h:o=some x) (hk:K x):bZ o K w:=⟨x,h,hk⟩
@[go_sem] theorem pH:isMp [] =false:=rfl
@[go_sem] theorem pI {a}:isMp [a] =a.mp?:=rfl
@[go_sem] theorem pJ {a b} {l}:isMp (a::b::l)=false:=rfl
@[go_sem] theorem pK:PA [] =true:=rfl
@[go_sem] theorem nc {a} {l}:PA (a::l)=(!a.mp?&&PA l):=rfl
@[go_sem] theorem vM:AV.mp? .any =false:=rfl
@[go_sem] theorem sj:AV.one .any =false:=rfl
@[go_sem] theorem vN {k} {n}:AV.mp? (.int k n)=false:=rfl
@[go_sem] theorem sm {k} {n}:AV.one (.int k n)=true:=rfl
@[go_sem] theorem sn {b}:AV.mp? (.bool b)=false:=rfl
@[go_sem] theorem qP {b}:AV.one (.bool b)=true:=rfl
@[go_sem] theorem vO {s}:AV.mp? (.str s)=false:=rfl
@[go_sem] theorem so {s}:AV.one (.str s)=true:=rfl
@[go_sem] theorem x9 {r}:AV.mp? (.ro r)=false:=rfl
@[go_sem] theorem vP {r}:AV.one (.ro r)=true:=rfl
@[go_sem] theorem vQ {t}:AV.mp? (.own t)=false:=rfl
@[go_sem] theorem sp {t}:AV.one (.own t)=true:=rfl
@[go_sem] theorem vR {b o}:AV.mp? (.box b o)=false:=rfl
@[go_sem] theorem sr {b o}:AV.one (.box b o)=true:=rfl
@[go_sem] theorem vS {vs} {o}:AV.mp? (.rop vs o)=false:=rfl
@[go_sem] theorem ss {vs} {o}:AV.one (.rop vs o)=true:=rfl
@[go_sem] theorem vT {b n z}:AV.mp? (.bsl b n z)=false:=rfl
@[go_sem] theorem su {b n z}:AV.one (.bsl b n z)=true:=rfl
@[go_sem] theorem vU {t z i o}:AV.mp? (.elt t z i o)=false:=rfl
@[go_sem] theorem sv {t z i o}:AV.one (.elt t z i o)=true:=rfl
@[go_sem] theorem vV {t g} {p}:AV.mp? (.sub t g p)=false:=rfl
@[go_sem] theorem s3 {t g} {p}:AV.one (.sub t g p)=true:=rfl
@[go_sem] theorem vW {t g} {p} {z i o}:AV.mp? (.els t g p z i o)=false:=rfl
@[go_sem] theorem s4 {t g} {p} {z i o}:AV.one (.els t g p z i o)=true:=rfl
@[go_sem] theorem vX {t z i n}:AV.mp? (.par t z i n)=false:=rfl
@[go_sem] theorem s5 {t z i n}:AV.one (.par t z i n)=true:=rfl
@[go_sem] theorem yA {f} {c}:AV.mp? (.fn f c)=false:=rfl
@[go_sem] theorem vY {f} {c}:AV.one (.fn f c)=true:=rfl
@[go_sem] theorem s6:AV.mp? .nilp =false:=rfl
@[go_sem] theorem qQ:AV.one .nilp =true:=rfl
@[go_sem] theorem s7:AV.mp? .nils =false:=rfl
@[go_sem] theorem qR:AV.one .nils =true:=rfl
@[go_sem] theorem vZ {b}:AV.mp? (.mpr b)=false:=rfl
@[go_sem] theorem s8 {b}:AV.one (.mpr b)=true:=rfl
@[go_sem] theorem vc {vs}:AV.mp? (.agg vs)=false:=rfl
@[go_sem] theorem s9 {vs}:AV.one (.agg vs)=false:=rfl
@[go_sem] theorem vd {vs}:AV.mp? (.tup vs)=false:=rfl
@[go_sem] theorem tA {vs}:AV.one (.tup vs)=false:=rfl
@[go_sem] theorem ve {q} {r}:AV.mp? (.mpc q r)=true:=rfl
@[go_sem] theorem tB {q} {r}:AV.one (.mpc q r)=false:=rfl
@[go_sem] theorem nf {α:Type} {j:Nat} {x:α} {l:List (Nat × α)} {i:Nat}:look ((j,x)::l) i=if i=j then some x else look l i:=rfl
@[go_sem] theorem qS {α:Type} {i}:look ([] :List (Nat × α)) i=none:=rfl
@[go_sem] theorem St.T_mk {s t b} {i}:St.T ⟨s,t,b⟩ i=(look t i).join :=rfl
@[go_sem] theorem St.B_mk {s t b} {i}:St.B ⟨s,t,b⟩ i=(look b i).join :=rfl
@[go_sem] theorem St.g_mk {s t b} {i}:St.g ⟨s,t,b⟩ i=(look s i).getD .any :=rfl
@[go_sem] theorem St.t_mk {s t b}:St.t ⟨s,t,b⟩=t:=rfl
@[go_sem] theorem St.b_mk {s t b}:St.b ⟨s,t,b⟩=b:=rfl
@[go_sem] theorem St.s_mk {s t b}:St.s ⟨s,t,b⟩=s:=rfl
@[go_sem] theorem St.e_tmp {σ:St} {t:Tmp}:σ.e (.tmp t)=σ.g t:=rfl
@[go_sem] theorem St.e_func {σ:St} {f:FuncId}:σ.e (.func f)= .fn f [] :=rfl
@[go_sem] theorem St.e_const {σ:St} {v:Value}:σ.e (.const v)=A8 v:=rfl
@[go_sem] theorem tC {k} {n}:A8 (.int k n)= .int k n:=rfl
@[go_sem] theorem qT {b}:A8 (.bool b)= .bool b:=rfl
@[go_sem] theorem tD {s}:A8 (.string s)= .str s:=rfl
@[go_sem] theorem qU:A8 (.slice none 0 0)= .nils :=rfl
@[go_sem] theorem qV:A8 (.pointer none)= .nilp :=rfl
@[go_sem] theorem tE {cs}:A8 (.agg cs.toArray)= .agg (IB cs):=by rfl
@[go_sem] theorem qW:IB [] =[] :=rfl
@[go_sem] theorem pL {v} {vs}:IB (v::vs)=A8 v::IB vs:=rfl
@[go_sem] theorem qX {s t b} {d} {v}:St.put ⟨s,t,b⟩ (some d) v=⟨(d,v)::s,t,b⟩:=rfl
@[go_sem] theorem qY {σ} {v}:St.put σ none v=σ:=rfl
@[go_sem] theorem qZ {s t b} {i}:St.killT ⟨s,t,b⟩ i=⟨s,(i,none)::t,b⟩:=rfl
@[go_sem] theorem tF {s t b} {i} {tk}:St.setT ⟨s,t,b⟩ i tk=⟨s,(i,some tk)::t,b⟩:=rfl
@[go_sem] theorem tG {s t b} {i} {vs}:St.setB ⟨s,t,b⟩ i vs=⟨s,t,(i,some vs)::b⟩:=rfl
attribute [go_sem] Option.join_some Option.join_none Option.getD_some Option.getD_none reduceIte eq_self and_self true_and and_true
attribute [go_sem] List.getElem?_cons_zero List.getElem?_cons_succ List.length_cons List.length_nil List.take_succ_cons List.take_zero List.take_nil List.drop_succ_cons List.drop_zero List.map_cons List.map_nil List.set_cons_zero List.set_cons_succ List.cons_append List.nil_append Option.some.injEq reduceCtorEq TI.isAgg TI.sc splice List.all_cons List.all_nil Bool.and_self Bool.true_and Bool.and_true
def Mc (P:Program) (ops:Array Oper) (base cut i:Nat) (l:List Oper) (σ:St) (K:St→Prop) (_:Wrap ops) (_:Wrap l) (_:Wrap K) (_:Wrap cut):Prop:=aops P ops base cut i l σ K
@[go_sem ↓] theorem tH {P} {ops} {base cut i} {l} {K} {σ}:aops P ops base cut i l σ K=Mc P ops base cut i l σ K ⟨⟩ ⟨⟩ ⟨⟩ ⟨⟩:=rfl
section
variable {P:Program} {σ:St} {K:St→Prop} {Q:AE→St→Prop}
@[go_sem ↓] theorem vf:awp P .skip Q σ=Q .normal σ:=by rw [awp]
@[go_sem ↓] theorem qa {id} {l}:awp P (.region id l.toArray false) Q σ=aops P l.toArray (id*1000+1000) 0 0 l σ (Q .normal):=by rw [awp]; rfl
def dY (P:Program) (id:Nat) (l:List Oper) (Q:AE→St→Prop) (σ:St) (_:Wrap l) (_:Wrap Q) (_:Wrap σ):Prop:=eQ P l.toArray (id*1000+1000) true σ (Q .normal)
@[go_sem ↓] theorem vg {id} {l}:awp P (.region id l.toArray true) Q σ=dY P id l Q σ ⟨⟩ ⟨⟩ ⟨⟩:=by rw [awp]; rfl
theorem ng {id} {l} {w1} {w2} {w3} (E:List Bool) (V:List (Nat × Nat)) (tr:Tr) (h:LA E V tr l.toArray=true) (k:FE P l.toArray (id*1000+1000) V E 0 l [] [] σ fun ts acc σ'=>az acc σ' fun σ'=>aTr P l.toArray (id*1000+1000) ts tr σ' (Q .normal)):dY P id l Q σ w1 w2 w3:=.inl ⟨E,V,tr,h,k⟩
theorem AY {id} {l} {w1} {w2} {w3} (E:List Bool) (tr:Tr) (h:LA E [] tr l.toArray=true) (k:FE P l.toArray (id*1000+1000) [] E 0 l [] [] σ fun ts acc σ'=>az acc σ' fun σ'=>aTr P l.toArray (id*1000+1000) ts tr σ' (Q .normal)):dY P id l Q σ w1 w2 w3:=.inl ⟨E,[],tr,h,k⟩
def Uc (s:List (Nat × AV)) (t:Nat) (v:AV):Prop:=v= .any ∨look s t=some v
@[go_sem] theorem tI {s}:leS s [] =True:=rfl
@[go_sem] theorem qc {s t v r}:leS s ((t,v)::r)=(Uc s t v∧leS s r):=rfl
@[go_sem] theorem tJ {s:List (Nat × AV)} {t:Nat} {b:Bool} {v:AV}:Uc s t (if b=true then v else .any)=(b=true→Uc s t v):=propext (by cases b <;> simp [Uc])
def leO1 {α:Type} (s:List (Nat × Option α)) (t:Nat) (v:Option α):Prop:=v=none∨look s t=some v
@[go_sem] theorem tK {α:Type} {s:List (Nat × Option α)}:leO s [] =True:=rfl
@[go_sem] theorem qd {α:Type} {s:List (Nat × Option α)} {t v r}:leO s ((t,v)::r)=(leO1 s t v∧leO s r):=rfl
@[go_sem] theorem nh {α:Type} {s:List (Nat × α)}:IY s [] =True:=rfl
@[go_sem] theorem mw {α:Type} {s:List (Nat × α)} {t v r}:IY s ((t,v)::r)=((look s t).isSome =true∧IY s r):=rfl
@[go_sem] theorem St.Le_mk {s t b s' t' b'}:St.Le ⟨s,t,b⟩ ⟨s',t',b'⟩=(leS s s'∧(leO t t'∧IY t' t)∧leO b b'∧IY b' b):=rfl
@[go_sem] theorem Ud {S}:a6 S [] =True:=rfl
@[go_sem] theorem Xh {S}:noS S [] =True:=rfl
@[go_sem] theorem Ue {S j r}:noS S (j::r)=(S j=false∧noS S r):=rfl
@[go_sem] theorem Q8 {S j r}:a6 S (j::r)=(S j=true∧a6 S r):=rfl
def optK {α:Type} (b:Bool) (p:Nat × α) (r:List (Nat × α)):List (Nat × α):=if b=true then p::r else r
@[go_sem] theorem vh {α:Type} {p:Nat × α} {r}:optK true p r=p::r:=rfl
@[go_sem] theorem vi {α:Type} {p:Nat × α} {r}:optK false p r=r:=rfl
@[go_sem] theorem pM {α:Type} {b:Bool} {t:Nat} {v:α} {r} {x:Nat}:look (optK b (t,v) r) x=if x=t then (if b=true then some v else look r x) else look r x:=by
 grind [optK,AI]
@[go_sem] theorem qe {α:Type} {s:List (Nat × Option α)} {b:Bool} {t:Nat} {v:Option α} {r}:leO s (optK b (t,v) r)=((b=true→leO1 s t v)∧leO s r):=by
 cases b <;> simp [optK,leO,leO1]
@[go_sem] theorem my {α:Type} {s:List (Nat × α)} {b:Bool} {t:Nat} {v:α} {r}:IY s (optK b (t,v) r)=((b=true→(look s t).isSome =true)∧IY s r):=by
 cases b <;> simp [optK,IY]
theorem iP {ops:Array Oper} {base:Nat} {F:(Nat→Bool)→St} {i:Nat} {o:Oper} {os:List Oper} {d u:List Nat} {ds:List (List Nat × List Nat)} (h:(d.all fun j=>o.after.any fun e=>Region.binds .any e&&e.on == j)=true) (hu:(u.all fun j=>decide (j<ops.size)&&((deps ops.toList).getD j 0).testBit i)=true) (k:∀S:Nat→Bool,S i=false→a6 S d→noS S u→aops P ops base 0 i [o] (F S) fun σ'=>St.Le σ' (F fun j=>if j=i then true else S j))
  (r:Ik P ops base F (i+1) os ds):Ik P ops base F i (o::os) ((d,u)::ds):=⟨⟨⟨h,hu⟩,k⟩,r⟩
theorem qf {ops:Array Oper} {base:Nat} {F:(Nat→Bool)→St} {i:Nat} {ds:List (List Nat × List Nat)}:Ik P ops base F i [] ds:=trivial
theorem ni {id} {l} {w1} {w2} {w3} (F:(Nat→Bool)→St) (ds:List (List Nat × List Nat)) (h:kR l=true) (h1:St.Le σ (F fun j=>decide (l.length≤j))) (h2:Ik P l.toArray (id*1000+1000) F 0 l ds) (k:Q .normal (F fun _=>true)):dY P id l Q σ w1 w2 w3:=.inr (.inl ⟨F,ds,h,h1,h2,k⟩)
def km (acc:List (Nat × List AV)) (σ:St) (K:St→Prop) (_:Wrap σ) (_:Wrap K):Prop:=az acc σ K
@[go_sem ↓] theorem tL {acc} {σ} {K}:az acc σ K=km acc σ K ⟨⟩ ⟨⟩:=rfl
@[go_sem] theorem qg {σ} {K} {w1 w2}:km [] σ K w1 w2=K σ:=by
 simp [km,az,EA,addB]
theorem qh {acc} {s} {t} {b} {K} {w1 w2} (h:EA ⟨s,t,b⟩ acc) (k:K ⟨s,t,addB b acc⟩):km acc ⟨s,t,b⟩ K w1 w2:=⟨h,k⟩
attribute [go_sem] addB
def LP (P:Program) (ops:Array Oper) (base:Nat) (V:List (Nat × Nat)) (E:List Bool) (i:Nat) (l:List Oper) (ts:List (Nat × Oper)) (acc:List (Nat × List AV)) (σ:St) (K:List (Nat × Oper)→List (Nat × List AV)→St→Prop) (_:Wrap ops) (_:Wrap l) (_:Wrap ts) (_:Wrap K) (_:Wrap V) (_:Wrap acc):Prop:=FE P ops base V E i l ts acc σ K
def be (P:Program) (ops:Array Oper) (base:Nat) (r:VR) (i:Nat) (o:Oper) (acc:List (Nat × List AV)) (σ:St) (K:List (Nat × List AV)→St→Prop):Prop:=MN P ops base r i o acc σ K
def Xi (P:Program) (ops:Array Oper) (base:Nat) (r:VR) (i:Nat) (o:Oper) (acc:List (Nat × List AV)) (σ:St) (K:List (Nat × List AV)→St→Prop) (_:Wrap ops) (_:Wrap o) (_:Wrap acc) (_:Wrap σ) (_:Wrap K):Prop:=MN P ops base r i o acc σ K
section
variable {ops:Array Oper} {base i:Nat} {V:List (Nat × Nat)} {E:List Bool} {ts:List (Nat × Oper)} {acc:List (Nat × List AV)} {H:List (Nat × Oper)→List (Nat × List AV)→St→Prop} {o:Oper} {l:List Oper} {w1:Wrap ops} {w3:Wrap ts} {w4:Wrap H} {w5:Wrap V} {w6:Wrap acc}
@[go_sem ↓] theorem qi:FE P ops base V E i l ts acc σ H=LP P ops base V E i l ts acc σ H ⟨⟩ ⟨⟩ ⟨⟩ ⟨⟩ ⟨⟩ ⟨⟩:=rfl
@[go_sem] theorem yB {w2}:LP P ops base V E i [] ts acc σ H w1 w2 w3 w4 w5 w6=H ts acc σ:=by rfl
@[go_sem] theorem vj {w2}:LP P ops base V (true::E) i (o::l) ts acc σ H w1 w2 w3 w4 w5 w6=FE P ops base V E (i+1) l ((i,o)::ts) acc σ H:=rfl
@[go_sem] theorem tM {w2}:LP P ops base V (false::E) i (o::l) ts acc σ H w1 w2 w3 w4 w5 w6=be P ops base (Bo V i) i o acc σ fun j σ'=>FE P ops base V E (i+1) l ts j σ' H:=rfl
@[go_sem] theorem yC {w2}:LP P ops base V [] i (o::l) ts acc σ H w1 w2 w3 w4 w5 w6=be P ops base (Bo V i) i o acc σ fun j σ'=>FE P ops base V [] (i+1) l ts j σ' H:=rfl
@[go_sem] theorem nj {x} {xs b} {w2}:LP P ops base V E i (List.append (x::xs) b) ts acc σ H w1 w2 w3 w4 w5 w6=LP P ops base V E i (x::List.append xs b) ts acc σ H w1 ⟨⟩ w3 w4 w5 w6:=rfl
@[go_sem] theorem pN {b} {w2}:LP P ops base V E i (List.append [] b) ts acc σ H w1 w2 w3 w4 w5 w6=LP P ops base V E i b ts acc σ H w1 ⟨⟩ w3 w4 w5 w6:=rfl
@[go_sem ↓] theorem qj {r} {K}:be P ops base r i o acc σ K=Xi P ops base r i o acc σ K ⟨⟩ ⟨⟩ ⟨⟩ ⟨⟩ ⟨⟩:=rfl
attribute [go_sem] Bo
@[go_sem] theorem qk {K} {w1 w2 w3 w4 w5}:Xi P ops base .no i o acc σ K w1 w2 w3 w4 w5=aops P ops base (i+1) i [o] σ (K acc):=rfl
@[go_sem] theorem ql {K} {dst} {t ty} {ps} {af} {w1 w2 w3 w4 w5}:Xi P ops base .al i ⟨dst,.alloc t,ty,ps,af,none⟩ acc σ K w1 w2 w3 w4 w5=AP (0<(tz P t).length ∧(tz P t).length =tsz P t∧isMp ((tz P t).map zAV)=false) (K acc (σ.put dst (.box (base+i) 0))):=rfl
def stV (P:Program) (base k:Nat) (t:TypeId) (x a:AV) (dst:Option Tmp) (acc:List (Nat × List AV)) (σ:St) (K:List (Nat × List AV)→St→Prop):Prop:=match cellsOf x with
 |some cs=>(cs.length=tsz P t∧0<tsz P t∧cs.all AV.one=true)∧a= .box (base+k) 0∧K ((base+k,cs)::acc) (σ.put dst .any)
 |none=>False
@[go_sem] theorem qm {K} {k} {dst} {t ty} {a x} {ps} {af} {w1 w2 w3 w4 w5}:Xi P ops base (.st k) i ⟨dst,.store t a x,ty,ps,af,none⟩ acc σ K w1 w2 w3 w4 w5=Ar (σ.e x) fun x=>Ar (σ.e a) fun a=>stV P base k t x a dst acc σ K:=rfl
def nk (P:Program) (base k:Nat) (t:TypeId) (x a:AV) (dst:Option Tmp) (acc:List (Nat × List AV)) (σ:St) (K:List (Nat × List AV)→St→Prop) (_:Wrap x) (_:Wrap a) (_:Wrap acc) (_:Wrap σ) (_:Wrap K):Prop:=stV P base k t x a dst acc σ K
@[go_sem ↓] theorem vk {k} {t} {x a} {dst} {K}:stV P base k t x a dst acc σ K=nk P base k t x a dst acc σ K ⟨⟩ ⟨⟩ ⟨⟩ ⟨⟩ ⟨⟩:=rfl
theorem mz {k} {t} {x a} {dst} {K} {w1 w2 w3 w4 w5} (cs:List AV) (h1:cellsOf x=some cs) (h2:cs.length=tsz P t∧0<tsz P t∧cs.all AV.one=true) (h3:a= .box (base+k) 0) (h:K ((base+k,cs)::acc) (σ.put dst .any)):nk P base k t x a dst acc σ K w1 w2 w3 w4 w5:=by
 grind [nk,stV]
def trX (o:Option Oper) (f:Oper→Prop):Prop:=match o with
 |some o=>f o
 |none=>False
def trY (o:Option Oper) (f:Oper→Prop) (_:Wrap f):Prop:=trX o f
@[go_sem ↓] theorem vl {x} {f}:trX x f=trY x f ⟨⟩:=rfl
@[go_sem] theorem qn {f} {w}:trY (some o) f w=f o:=rfl
def nm (p q:Prop):Prop:=p∧q
def iQ (p q:Prop) (_:Wrap p) (_:Wrap q):Prop:=p∧q
@[go_sem ↓] theorem tN {p q:Prop}:nm p q=iQ p q ⟨⟩ ⟨⟩:=rfl
theorem iR {p q:Prop} {w} {w'} (hp:p) (hq:q):iQ p q w w':=⟨hp,hq⟩
def Si (P:Program) (ops:Array Oper) (base:Nat) (ts:List (Nat × Oper)) (tr:Tr) (σ:St) (K:St→Prop) (_:Wrap ops) (_:Wrap ts) (_:Wrap K):Prop:=aTr P ops base ts tr σ K
@[go_sem ↓] theorem vm {tr}:aTr P ops base ts tr σ K=Si P ops base ts tr σ K ⟨⟩ ⟨⟩ ⟨⟩:=rfl
@[go_sem] theorem vo {w3} {w4}:Si P ops base ts .fin σ K w1 w3 w4=K σ:=rfl
theorem iS {t} {w1} {w3} {w4} {σ1} (hn:Nils σ σ1) (k:aTr P ops base ts t σ1 K):Si P ops base ts (.fz t) σ K w1 w3 w4:=by
 grind [Si,aTr]
@[go_sem] theorem vq {t} {w3} {w4}:Si P ops base ts (.br i t .stop) σ K w1 w3 w4=trX (look ts i) fun o=>aops P ops base 0 i [o] σ fun σ'=>aTr P ops base ts t σ' K:=by
 grind [Si,trX,aTr]
@[go_sem] theorem vt {t u m} {j} {w3} {w4}:Si P ops base ts (.br i t (.br j u m)) σ K w1 w3 w4=nm (aTr P ops base ts (.br i t .stop) σ K) (aTr P ops base ts (.br j u m) σ K):=by
 grind [Si,nm,aTr]
@[go_sem] theorem vu {t} {w3} {w4}:Si P ops base ts (Tr.sq [] t) σ K w1 w3 w4=Si P ops base ts t σ K w1 w3 w4:=rfl
@[go_sem] theorem yD {t} {is} {w3} {w4}:Si P ops base ts (Tr.sq (i::is) t) σ K w1 w3 w4=Si P ops base ts (.br i (Tr.sq is t) .stop) σ K w1 w3 w4:=rfl
end
def ko (p:Bool) (K:St→Prop) (σ:St):Prop:=seqW p K σ
def Uf (p:Bool) (K:St→Prop) (σ:St) (_:Wrap K) (_:Wrap σ):Prop:=seqW p K σ
@[go_sem ↓] theorem tO {p}:ko p K σ=Uf p K σ ⟨⟩ ⟨⟩:=rfl
@[go_sem] theorem pO {w1} {w2}:Uf true K σ w1 w2=K σ:=rfl
theorem CO {w1} {w2} (h:K σ):Uf false K σ w1 w2:=⟨σ,.nil σ,h⟩
theorem bf {w1} {w2} {σ1} (hn:Nils σ σ1) (h:K σ1):Uf false K σ w1 w2:=⟨σ1,.fz hn (.nil σ1),h⟩
theorem KD {w1} {w2} {σ1} (h:K σ1) (hw:Wk σ σ1):Uf false K σ w1 w2:=⟨σ1,hw,h⟩
@[go_sem] theorem kq {id:Nat} {l:List Oper}:JE (.region id l.toArray false)=l.all fun o=>o.guard.isNone&&nO o.op:=rfl
attribute [go_sem] nO Bool.and_true Bool.true_and Bool.and_false Bool.false_and
@[go_sem] theorem np {id:Nat} {l:List Oper}:JE (.region id l.toArray true)=false:=rfl
@[go_sem] theorem nr:JE .skip =false:=rfl
@[go_sem] theorem pP {a b}:JE (.seq a b)=false:=rfl
@[go_sem] theorem nu {c} {a b}:JE (.cond c a b)=false:=rfl
@[go_sem] theorem m5 {id} {a}:JE (.block id a)=false:=rfl
@[go_sem] theorem nv {a}:JE (.loop a)=false:=rfl
@[go_sem] theorem nw {id}:JE (.exit id)=false:=rfl
@[go_sem] theorem pQ:JE .ret =false:=rfl
attribute [go_sem] Option.isNone_none Option.isNone_some List.all_cons List.all_nil
@[go_sem ↓] theorem yE {a b}:awp P (.seq a b) Q σ=awp P a (AE.then (ko (JE a) (awp P b Q)) Q) σ:=by rw [awp]; rfl
@[go_sem ↓] theorem vv {c} {a b}:awp P (.cond c a b) Q σ=Ar (σ.e c) fun v=>dB v (awp P a Q σ) (awp P b Q σ):=by rw [awp]; rfl
@[go_sem ↓] theorem tP {id} {c}:awp P (.block id c) Q σ=awp P c (AE.inBlock id Q) σ:=by rw [awp]
@[go_sem ↓] theorem vx {id}:awp P (.exit id) Q σ=Q (.exit id) σ:=by rw [awp]
@[go_sem ↓] theorem yF:awp P .ret Q σ=Q .ret σ:=by rw [awp]
@[go_sem] theorem bg {b} {p q:Prop}:dB (.bool b) p q=Ub b p q:=by simp [dB,Ub]
@[go_sem ↓] theorem m6 {n}:AE.then n Q .normal σ=n σ:=rfl
@[go_sem ↓] theorem pR {n} {id}:AE.then n Q (.exit id) σ=Q (.exit id) σ:=rfl
@[go_sem ↓] theorem qo {n}:AE.then n Q .ret σ=Q .ret σ:=rfl
@[go_sem ↓] theorem kr {id}:AE.inBlock id Q .normal σ=Q .normal σ:=rfl
@[go_sem ↓] theorem pS {id}:AE.inBlock id Q .ret σ=Q .ret σ:=rfl
def SG (P:Program) (b:Code) (Q:AE→St→Prop) (σ:St) (_:Wrap b) (_:Wrap Q):Prop:=awp P (.loop b) Q σ
def lpX (P:Program) (b:Code) (Q:AE→St→Prop) (σ:St):Prop:=∃σ1,Wk σ σ1∧awp P (.loop b) Q σ1
def lpY (P:Program) (b:Code) (Q:AE→St→Prop) (σ:St) (_:Wrap b) (_:Wrap Q) (_:Wrap σ):Prop:=∃σ1,Wk σ σ1∧awp P (.loop b) Q σ1
@[go_sem ↓] theorem vy {b}:lpX P b Q σ=lpY P b Q σ ⟨⟩ ⟨⟩ ⟨⟩:=rfl
theorem W2 {b} {w1} {w2} {w3} {σ1} (h:awp P (.loop b) Q σ1) (hw:Wk σ σ1):lpY P b Q σ w1 w2 w3:=⟨σ1,hw,h⟩
theorem A5 {b} {w1} {w2} (h:awp P b (AE.then (lpX P b Q) Q) σ):SG P b Q σ w1 w2:=ZZ h
@[go_sem ↓] theorem pT {b}:awp P (.loop b) Q σ=SG P b Q σ ⟨⟩ ⟨⟩:=rfl
@[go_sem ↓] theorem nx {id i}:AE.inBlock id Q (.exit i) σ=Q7 (decide (i=id)) (Q .normal σ) (Q (.exit i) σ):=by
 simp only [AE.inBlock,Q7]
 by_cases h:i=id <;> simp [h]
attribute [go_sem] decide_true decide_false
def opX (P:Program) (pos:Nat) (dst:Option Tmp) (op:Op) (σ:St) (K:St→Prop):Prop:=aop P pos ⟨dst,op,0, "",#[],none⟩ σ K
def opL (P:Program) (L:Bool) (pos:Nat) (dst:Option Tmp) (op:Op) (σ:St) (K:St→Prop) (_:Wrap L):Prop:=Ts P L pos ⟨dst,op,0, "",#[],none⟩ σ K
@[go_sem] theorem yG {ops} {base cut i} {w1} {w2} {w3} {w4}:Mc P ops base cut i [] σ K w1 w2 w3 w4=K σ:=by rw [Mc,aops]
@[go_sem] theorem vz {ops} {base cut i} {dst} {op} {type} {ps} {after} {rest} {w1} {w2} {w3} {w4}:
  Mc P ops base cut i (⟨dst,op,type,ps,after,none⟩::rest) σ K w1 w2 w3 w4=opL P (decide (cut≤i)) (base+i) dst op σ (fun σ'=>aops P ops base cut (i+1) rest σ' K) ⟨⟩:=by
 rw [Mc,aops]; rfl
def SH (ops:Array Oper) (j:Nat) (K:Tmp→Prop):Prop:=optX (Ij ops j) K
@[go_sem ↓] theorem ny {dst} {op} {type} {ps} {after} {g} {rest} {K}:SH (List.toArray (⟨some dst,op,type,ps,after,g⟩::rest)) 0 K=K dst:=by
 simp [SH,Ij,optX]
@[go_sem ↓] theorem nz {o} {rest} {j} {K}:SH (List.toArray (o::rest)) (j+1) K=SH rest.toArray j K:=by
 simp [SH,Ij]
def OY (v:AV) (want:Bool) (p q q':Prop):Prop:=(∃b,v= .bool b∧(b=want→p)∧(b= !want→q))∨(v= .tup [] ∧q')
@[go_sem ↓] theorem Za {b} {p q q':Prop}:OY (.bool b) true p q q'=Ub b p q:=by simp [OY,Ub]
@[go_sem ↓] theorem Xj {b} {p q q':Prop}:OY (.bool b) false p q q'=Ub b q p:=by
 grind [OY,Ub]
@[go_sem ↓] theorem fO {want} {p q q':Prop}:OY (.tup []) want p q q'=q':=by simp [OY]
@[go_sem] theorem tQ {ops} {base cut i} {dst} {op} {type} {ps} {after} {j} {want} {rest} {w1} {w2} {w3} {w4}:
  Mc P ops base cut i (⟨dst,op,type,ps,after,some (j,want)⟩::rest) σ K w1 w2 w3 w4=SH ops j fun s=>Ar (σ.g s) fun v=>OY v want
   (opL P (decide (cut≤i)) (base+i) dst op (σ.put (some s) (.bool want)) (fun σ'=>aops P ops base cut (i+1) rest σ' K) ⟨⟩)
   (aops P ops base cut (i+1) rest ((σ.put (some s) (.bool (!want))).put dst (.tup [])) K)
   (aops P ops base cut (i+1) rest (σ.put dst (.tup [])) K):=by
 rw [Mc,aops]
 rfl
section
variable {L:Bool} {pos:Nat} {dst:Option Tmp} {wL:Wrap L}
theorem W3 {σ:St} {o:Oper} (h:PJ o=false):Tq σ o=false:=by
 unfold Tq
 split
 ·rename_i h1; simp [PJ,h1] at h
 ·rfl
theorem EE {op} (h:∀ (σ:St) (K:St→Prop),MM P ⟨dst,op,0, "",#[],none⟩ σ K=False) (hA:PJ ⟨dst,op,0, "",#[],none⟩=false:=by rfl) (hS:SliK P pos ⟨dst,op,0, "",#[],none⟩ σ K=False:=by rfl):opL P L pos dst op σ K wL=opX P pos dst op σ K:=by
 have:=W3 (σ:=σ) hA
 grind [opL,Ts,opX]
@[go_sem ↓] theorem qp {x}:opL P L pos dst (.move x) σ K wL=opX P pos dst (.move x) σ K:=EE fun _ _=>rfl
@[go_sem ↓] theorem n4 {x}:opL P L pos dst (.assign x) σ K wL=opX P pos dst (.assign x) σ K:=EE fun _ _=>rfl
@[go_sem ↓] theorem qq {a b c}:opL P L pos dst (.pick c a b) σ K wL=opX P pos dst (.pick c a b) σ K:=EE fun _ _=>rfl
@[go_sem ↓] theorem qr {t} {a}:opL P L pos dst (.load t a) σ K wL=opX P pos dst (.load t a) σ K:=EE fun _ _=>rfl
@[go_sem ↓] theorem kw {x}:opL P L pos dst (.nilCheck x) σ K wL=opX P pos dst (.nilCheck x) σ K:=EE fun _ _=>rfl
@[go_sem ↓] theorem tR {op} {t t'} {x y}:opL P L pos dst (.binOp op t x y t') σ K wL=opX P pos dst (.binOp op t x y t') σ K:=EE fun _ _=>rfl
@[go_sem ↓] theorem v6 {op} {t} {x}:opL P L pos dst (.unOp op t x) σ K wL=opX P pos dst (.unOp op t x) σ K:=EE fun _ _=>rfl
@[go_sem ↓] theorem m7 {s d} {x}:opL P L pos dst (.convert s d x) σ K wL=opX P pos dst (.convert s d x) σ K:=EE fun _ _=>rfl
@[go_sem ↓] theorem kK {s} {x} {f}:opL P L pos dst (.fieldAddr s x f) σ K wL=opX P pos dst (.fieldAddr s x f) σ K:=EE fun _ _=>rfl
@[go_sem ↓] theorem kL {t} {x i}:opL P L pos dst (.indexAddr t x i) σ K wL=opX P pos dst (.indexAddr t x i) σ K:=EE fun _ _=>rfl
@[go_sem ↓] theorem pU {t} {x i}:opL P L pos dst (.index t x i) σ K wL=opX P pos dst (.index t x i) σ K:=EE fun _ _=>rfl
def fP (P:Program) (L:Bool) (pos:Nat) (dst:Option Tmp) (op:Op) (v:AV) (σ:St) (K:St→Prop):Prop:=opX P pos dst op σ K∨(L=true∧(match v with| .own _=>True|_=>False)∧SliK P pos ⟨dst,op,0, "",#[],none⟩ σ K)
def n5 (P:Program) (L:Bool) (pos:Nat) (dst:Option Tmp) (op:Op) (v:AV) (σ:St) (K:St→Prop) (_:Wrap σ) (_:Wrap K) (_:Wrap op):Prop:=fP P L pos dst op v σ K
@[go_sem ↓] theorem tS {op} {v}:fP P L pos dst op v σ K=n5 P L pos dst op v σ K ⟨⟩ ⟨⟩ ⟨⟩:=rfl
@[go_sem] theorem tT {op} {rows} {w1 w2 w3}:n5 P L pos dst op (.ro rows) σ K w1 w2 w3=opX P pos dst op σ K:=by simp [n5,fP]
theorem fQ {t} {x} {l h m}:opL P L pos dst (.slice t x l h m) σ K wL=fP P L pos dst (.slice t x l h m) (σ.e x) σ K:=by
 have h1:MM P ⟨dst,.slice t x l h m,0, "",#[],none⟩ σ K=False:=rfl
 have h2:PJ ⟨dst,.slice t x l h m,0, "",#[],none⟩=false:=rfl
 have h3:SliK P pos ⟨dst,.slice t x l h m,0, "",#[],none⟩ σ K=((match σ.e x with| .own _=>True|_=>False)∧SliK P pos ⟨dst,.slice t x l h m,0, "",#[],none⟩ σ K):=by
  grind [SliK]
 have j:=W3 (σ:=σ) h2
 grind [opL,Ts,fP,opX]
@[go_sem ↓] theorem n6 {t} {x} {l h m}:opL P L pos dst (.slice t x l h m) σ K wL=Ar (σ.e x) fun v=>fP P L pos dst (.slice t x l h m) v σ K:=fQ
@[go_sem ↓] theorem m8 {x} {i}:opL P L pos dst (.extract x i) σ K wL=opX P pos dst (.extract x i) σ K:=EE fun _ _=>rfl
@[go_sem ↓] theorem kx {c} {a b}:opL P L pos dst (.makeFunc c a b) σ K wL=opX P pos dst (.makeFunc c a b) σ K:=EE fun _ _=>rfl
@[go_sem ↓] theorem tU {t} {x}:opL P L pos dst (.box t x) σ K wL=opX P pos dst (.box t x) σ K:=EE fun _ _=>rfl
@[go_sem ↓] theorem pV {t}:opL P L pos dst (.alloc t) σ K wL=opX P pos dst (.alloc t) σ K:=EE fun _ _=>rfl
@[go_sem ↓] theorem pW {t} {ps}:opL P L pos dst (.build t ps) σ K wL=opX P pos dst (.build t ps) σ K:=EE fun _ _=>rfl
@[go_sem ↓] theorem iT {t} {n} {ps}:opL P L pos dst (.buildSlice t n ps) σ K wL=opX P pos dst (.buildSlice t n ps) σ K:=EE fun _ _=>rfl
@[go_sem ↓] theorem kM {t} {l c}:opL P L pos dst (.makeSlice t l c) σ K wL=opX P pos dst (.makeSlice t l c) σ K:=EE fun _ _=>rfl
@[go_sem ↓] theorem pX {t} {a x}:opL P L pos dst (.store t a x) σ K wL=opX P pos dst (.store t a x) σ K:=EE fun _ _=>rfl
@[go_sem ↓] theorem tV {as} {ts}:opL P L pos dst (.call ⟨.builtin .len,as,ts⟩) σ K wL=opX P pos dst (.call ⟨.builtin .len,as,ts⟩) σ K:=EE fun _ _=>rfl
@[go_sem ↓] theorem tW {as} {ts}:opL P L pos dst (.call ⟨.builtin .max,as,ts⟩) σ K wL=opX P pos dst (.call ⟨.builtin .max,as,ts⟩) σ K:=EE fun _ _=>rfl
def opE (P:Program) (pos:Nat) (dst:Option Tmp) (op:Op) (σ:St) (K:St→Prop):Prop:=∃r,Ev P pos ⟨dst,op,0, "",#[],none⟩ σ.e σ.T σ.B r∧CY σ r.t∧EA σ r.b∧K (σ.add dst r)
def fR (L:Bool) (p q:Prop) (_:Wrap p) (_:Wrap q):Prop:=(L=true∧p)∨(L=false∧q)
@[go_sem] theorem pY {p q:Prop} {w1} {w2}:fR true p q w1 w2=p:=by simp [fR]
@[go_sem] theorem n7 {p q:Prop} {w1} {w2}:fR false p q w1 w2=q:=by simp [fR]
def Xk (P:Program) (pos:Nat) (dst:Option Tmp) (op:Op) (u:AV) (σ:St) (K:St→Prop):Prop:=opX P pos dst op σ K∨(dA u=true∧∃σ1,Nils σ σ1∧opX P pos dst op σ1 K)
def naY (P:Program) (pos:Nat) (dst:Option Tmp) (op:Op) (u:AV) (σ:St) (K:St→Prop) (_:Wrap σ) (_:Wrap K) (_:Wrap op):Prop:=Xk P pos dst op u σ K
@[go_sem ↓] theorem tX {op} {t g p}:Xk P pos dst op (.sub t g p) σ K=naY P pos dst op (.sub t g p) σ K ⟨⟩ ⟨⟩ ⟨⟩:=rfl
theorem bh {op} {u} (h:dA u=false):Xk P pos dst op u σ K=opX P pos dst op σ K:=by simp [Xk,h]
@[go_sem ↓] theorem tY {op} {t}:Xk P pos dst op (.own t) σ K=opX P pos dst op σ K:=bh rfl
@[go_sem ↓] theorem qu {op}:Xk P pos dst op .nils σ K=opX P pos dst op σ K:=bh rfl
@[go_sem ↓] theorem tZ {op} {b n sz}:Xk P pos dst op (.bsl b n sz) σ K=opX P pos dst op σ K:=bh rfl
@[go_sem ↓] theorem n8 {x y} {ts}:opL P L pos dst (.call ⟨.builtin .append,List.toArray [x,y],ts⟩) σ K wL=fR L (Ar (σ.e x) fun u=>Xk P pos dst (.call ⟨.builtin .append,List.toArray [x,y],ts⟩) u σ K) (opE P pos dst (.call ⟨.builtin .append,List.toArray [x,y],ts⟩) σ K) ⟨⟩ ⟨⟩:=by
 have h1:Tq σ ⟨dst,.call ⟨.builtin .append,List.toArray [x,y],ts⟩,0, "",#[],none⟩=dA (σ.e x):=rfl
 simp only [Ar]
 grind [MM,PJ,SliK,opL,Ts,opX,fR,opE,Xk]
end
attribute [go_sem] Bool.not_true Bool.not_false Nat.zero_le
theorem II {pos:Nat} {dst:Option Tmp} {op:Op} (h:∀K',aop P pos ⟨dst,op,0, "",#[],none⟩ σ K'=∃r,Ev P pos ⟨dst,op,0, "",#[],none⟩ σ.e σ.T σ.B r∧CY σ r.t∧EA σ r.b∧K' (σ.add dst r)) {p:AV→Prop} (hp:∀r,Ev P pos ⟨dst,op,0, "",#[],none⟩ σ.e σ.T σ.B r=∃v,p v∧r=⟨v,[],[]⟩):
  opX P pos dst op σ K=∃v,p v∧K (σ.put dst v):=by
 unfold opX
 rw [h]
 refine propext ⟨?_,?_⟩
 ·rintro ⟨r,h1,h2,h3,j⟩
  rw [hp] at h1
  obtain⟨v,q,rfl⟩:=h1
  exact⟨v,q,by cases dst <;> exact j⟩
 ·rintro ⟨v,q,j⟩
  exact⟨⟨v,[],[]⟩,by rw [hp]; grind,trivial,trivial,by cases dst <;> exact j⟩
@[go_sem ↓] theorem v7 {pos:Nat} {dst:Option Tmp} {x:Operand}:opX P pos dst (.move x) σ K=Ar (σ.e x) fun v=>K (σ.put dst v):=by
 rw [II (p:=fun v=>v=σ.e x) (fun _=>by rfl) (fun r=>by simp [Ev])]
 simp [Ar]
@[go_sem ↓] theorem qv {pos:Nat} {dst:Option Tmp} {x:Operand}:opX P pos dst (.assign x) σ K=Ar (σ.e x) fun v=>K (σ.put dst v):=by
 rw [II (p:=fun v=>v=σ.e x) (fun _=>by rfl) (fun r=>by simp [Ev])]
 simp [Ar]
def Ug (c a b:AV) (K:AV→Prop):Prop:=∃t,c= .bool t∧K (if t=true then a else b)
@[go_sem] theorem bi {a b} {K}:Ug (.bool true) a b K=K a:=by simp [Ug]
@[go_sem] theorem Zb {a b} {K}:Ug (.bool false) a b K=K b:=by simp [Ug]
theorem n9 {pos:Nat} {dst:Option Tmp} {c a b:Operand}:opX P pos dst (.pick c a b) σ K=Ug (σ.e c) (σ.e a) (σ.e b) fun v=>K (σ.put dst v):=by
 rw [II (p:=fun v=>∃t,σ.e c= .bool t∧v=if t=true then σ.e a else σ.e b) (fun _=>by rfl) (fun r=>by
  grind [Ev])]
 grind [Ug]
def Pg (P:Program) (t:TypeId) (a:AV) (σ:St) (K:AV→Prop):Prop:=∃v,Jw P σ.T σ.B t a v∧K v
def ldX (P:Program) (t:TypeId) (off:Nat) (vs:List AV) (K:AV→Prop):Prop:=
 Q7 (ti P t).isAgg (AP (off+tsz P t≤vs.length) (Ar (.agg (Fc vs off (tsz P t))) K)) (AP ((ti P t).sc =true) (optX vs[off]? K))
theorem oA {pos:Nat} {dst:Option Tmp} {t:TypeId} {a:Operand}:opX P pos dst (.load t a) σ K=Pg P t (σ.e a) σ fun v=>K (σ.put dst v):=
 II (p:=fun v=>Jw P σ.T σ.B t (σ.e a) v) (fun _=>by rfl) (fun r=>by rfl)
@[go_sem] theorem fS {t} {b off} {K}:Pg P t (.box b off) σ K=optX (σ.B b) fun vs=>AP (isMp vs=false) (ldX P t off vs K):=by
 grind [Pg,Jw,optX,ldX,Q7,AP,Ar]
@[go_sem] theorem fU {t} {vs} {off} {K}:Pg P t (.rop vs off) σ K=ldX P t off vs K:=by
 grind [Pg,Jw,optX,ldX,Q7,AP,Ar]
@[go_sem] theorem fV {t} {t' sz i off} {K}:Pg P t (.elt t' sz i off) σ K=
  optX (σ.T t') fun tk=>optX tk.rows[i]? fun j=>AP (j.length=sz) (Q7 (ti P t).isAgg (AP (off+tsz P t≤sz) (Ar (.agg (Qm t' tk.gen [] sz i j off (tsz P t))) K)) (AP ((ti P t).sc =true) (optX j[off]? fun d=>K (ofT t' tk.gen [] sz i off d)))):=by
 grind [Pg,Jw,optX,Q7,AP,Ar]
def v8 (o:Option Tok) (g:Nat) (p:Pth):Option (List (List D)):=match o with
 |some tk=>if tk.gen=g then getP p tk.rows else none
 |none=>none
@[go_sem ↓] theorem tc {T} {t g} {p}:subR T t g p=v8 (T t) g p:=rfl
def iU (o:Option Tok) (g:Nat) (p:Pth):Option (List (List D)):=match o with
 |some tk=>if tk.gen=g then (getP p tk.rows).map tk.er else none
 |none=>none
@[go_sem ↓] theorem tg {T} {t g} {p}:subE T t g p=iU (T t) g p:=rfl
@[go_sem] theorem oC {rows} {ap} {g} {q} {p}:iU (some ⟨rows,ap,g,q⟩) g p=(getP p rows).map (zer q):=by
 simp only [iU,if_true]; rfl
@[go_sem] theorem pZ {r}:zer .no r=r:=rfl
@[go_sem] theorem qw {r}:zer .yes r=erR r:=rfl
@[go_sem] theorem wA {r}:zer .nl r=erR r:=rfl
@[go_sem] theorem yH {rows} {ap} {g} {q}:Tok.rd ⟨rows,ap,g,q⟩=zer q rows:=rfl
@[go_sem] theorem yI {rows r} {ap} {g} {q}:Tok.er ⟨rows,ap,g,q⟩ r=zer q r:=rfl
@[go_sem] theorem pc {z} {rows} {ap} {g}:okZ z ⟨rows,ap,g,.no⟩=true:=rfl
@[go_sem] theorem wB {z} {rows} {ap} {g}:okZ z ⟨rows,ap,g,.nl⟩=true:=rfl
@[go_sem] theorem qx {q} {rows} {ap} {g}:okZ q ⟨rows,ap,g,q⟩=true:=by cases q <;> rfl
@[go_sem] theorem qy {rows}:getP [] rows=some rows:=rfl
def qz (d:D) (K:List (List D)→Prop):Prop:=match Hb d with|some r=>K r|none=>False
@[go_sem] theorem th {r} {K}:qz (.sl r) K=K r:=rfl
@[go_sem] theorem tj {K}:qz .nl K=K [] :=rfl
@[go_sem] theorem oD {t g} {p} {sz i} {d} {ds} {off n}:Qm t g p sz i (d::ds) off n=Yq t g p sz i off (((d::ds).drop off).take n):=rfl
attribute [go_sem ↓] ldX
attribute [go_sem] Fc ofD Ly ofS Yq
@[go_sem] theorem tt {t g} {p} {sz i j} {k} {n}:ofT t g p sz i j (.int k n)= .int k n:=rfl
@[go_sem] theorem q9 {t g} {p} {sz i j} {b}:ofT t g p sz i j (.bool b)= .bool b:=rfl
@[go_sem] theorem tu {t g} {p} {sz i j} {s}:ofT t g p sz i j (.str s)= .str s:=rfl
@[go_sem] theorem wC {t g} {p} {sz i j} {r}:ofT t g p sz i j (.sl r)= .sub t g (p++[(sz,i,j)]):=rfl
@[go_sem] theorem rA {t g} {p} {sz i j}:ofT t g p sz i j .gone = .any :=rfl
@[go_sem] theorem wD {t g} {p} {sz i j} {r}:ofT t g p sz i j (.fz r)= .ro r:=rfl
@[go_sem] theorem tw {t g} {p} {sz i j} {ds}:ofT t g p sz i j (.ptr ds)= .rop (Ly ds) 0:=rfl
@[go_sem] theorem rB {t g} {p} {sz i j}:ofT t g p sz i j .nilp = .nilp :=rfl
@[go_sem] theorem wE {t g} {p} {sz i j}:ofT t g p sz i j .nl = .sub t g (p++[(sz,i,j)]):=rfl
end
attribute [go_sem ↓] bg Za Xj fO bi Zb fS fU fV
section
variable {P:Program} {σ:St} {K:St→Prop} {Q:AE→St→Prop}
theorem Uh {pos} {dst} {op} (h:∀K',aop P pos ⟨dst,op,0, "",#[],none⟩ σ K'=∃r,Ev P pos ⟨dst,op,0, "",#[],none⟩ σ.e σ.T σ.B r∧CY σ r.t∧EA σ r.b∧K' (σ.add dst r)):
  opX P pos dst op σ K=∃r,Ev P pos ⟨dst,op,0, "",#[],none⟩ σ.e σ.T σ.B r∧CY σ r.t∧EA σ r.b∧K (σ.add dst r):=h K
def Xl (v:AV) (K:AV→Prop):Prop:=match v with
 | .box b off=>K (.box b off)
 | .rop ds off=>K (.rop ds off)
 | .elt t sz i off=>K (.elt t sz i off)
 | .els t g p sz i off=>K (.els t g p sz i off)
 |_=>False
@[go_sem] theorem iV {b off} {K}:Xl (.box b off) K=K (.box b off):=rfl
@[go_sem] theorem iW {ds} {off} {K}:Xl (.rop ds off) K=K (.rop ds off):=rfl
@[go_sem] theorem iX {t sz i off} {K}:Xl (.elt t sz i off) K=K (.elt t sz i off):=rfl
@[go_sem] theorem iY {t g} {p} {sz i off} {K}:Xl (.els t g p sz i off) K=K (.els t g p sz i off):=rfl
theorem bj {pos} {dst} {x}:opX P pos dst (.nilCheck x) σ K=Xl (σ.e x) fun v=>K (σ.put dst v):=by
 rw [II (p:=fun v=>Xl (σ.e x) fun u=>v=u) (fun _=>by rfl) (fun r=>by
  simp only [Ev,Xl]
  generalize σ.e x=v
  cases v <;> simp)]
 unfold Xl
 generalize σ.e x=v
 cases v <;> simp
def DQ (P:Program) (op:BinOp) (t:TypeId) (x y:AV) (K:AV→Prop):Prop:=∃v,Bin P op t x y v∧K v
def iZ (op:BinOp) (y:Operand):Bool:=match op,y with
 | .eql,.const (.slice none 0 0)=>false
 | .neq,.const (.slice none 0 0)=>false
 |_,_=>true
theorem dZ {pos} {dst} {op} {t t'} {x y} (hn:iZ op y=true):opX P pos dst (.binOp op t x y t') σ K=DQ P op t (σ.e x) (σ.e y) fun v=>K (σ.put dst v):=
 II (p:=fun v=>Bin P op t (σ.e x) (σ.e y) v) (fun _=>by
  grind [aop,iZ]) (fun r=>by rfl)
section
variable {pos:Nat} {dst:Option Tmp} {op:BinOp} {t t':TypeId} {x:Operand}
theorem fW {y}:opX P pos dst (.binOp op t x (.tmp y) t') σ K=DQ P op t (σ.e x) (σ.g y) fun v=>K (σ.put dst v):=dZ (by cases op <;> rfl)
theorem fX {k} {n}:opX P pos dst (.binOp op t x (.const (.int k n)) t') σ K=DQ P op t (σ.e x) (.int k n) fun v=>K (σ.put dst v):=dZ (by cases op <;> rfl)
theorem fY {s}:opX P pos dst (.binOp op t x (.const (.string s)) t') σ K=DQ P op t (σ.e x) (.str s) fun v=>K (σ.put dst v):=dZ (by cases op <;> rfl)
theorem bn:opX P pos dst (.binOp op t x (.const (.pointer none)) t') σ K=DQ P op t (σ.e x) .nilp fun v=>K (σ.put dst v):=dZ (by cases op <;> rfl)
def oE (P:Program) (t:TypeId) (v:AV) (σ:St) (K:Bool→Prop):Prop:=(∃e,ti P t= .sl e)∧PG v=true∧∀b,kO σ.T v b→K b
def slP (t:TI):Prop:=∃e,t= .sl e
@[go_sem] theorem wF {e}:slP (.sl e)=True:=by simp [slP]
theorem ky {rows} {K} (h:slP (ti P t)) (h0:rows=[] →K true) (h1:K false):oE P t (.ro rows) σ K:=
 ⟨h,rfl,fun b hb=>by
  cases b with
  |false=>exact h1
  |true=>
   refine h0 ?_
   by_cases hr:rows=[]
   ·exact hr
   ·exact absurd (hb hr) (by simp)⟩
theorem ia:opX P pos dst (.binOp .eql t x (.const (.slice none 0 0)) t') σ K=oE P t (σ.e x) σ fun b=>K (σ.put dst (.bool b)):=by
 rfl
end
section
variable {t:TypeId} {k:IntKind} {a b:Int} {K:AV→Prop}
@[go_sem] theorem kz:DQ P .add t (.int k a) (.int k b) K=K (.int k (k.wrap (a+b))):=by simp [DQ,Bin,Lt]
@[go_sem] theorem lA:DQ P .sub t (.int k a) (.int k b) K=K (.int k (k.wrap (a - b))):=by simp [DQ,Bin,Lt]
@[go_sem] theorem lC:DQ P .mul t (.int k a) (.int k b) K=K (.int k (k.wrap (a*b))):=by simp [DQ,Bin,Lt]
@[go_sem] theorem lD:DQ P .eql t (.int k a) (.int k b) K=K (.bool (decide (a=b))):=by simp [DQ,Bin,Lt]
@[go_sem] theorem lE:DQ P .neq t (.int k a) (.int k b) K=K (.bool (!decide (a=b))):=by simp [DQ,Bin,Lt]
@[go_sem] theorem lF:DQ P .lss t (.int k a) (.int k b) K=K (.bool (decide (a<b))):=by simp [DQ,Bin,Lt]
@[go_sem] theorem lG:DQ P .leq t (.int k a) (.int k b) K=K (.bool (decide (a≤b))):=by simp [DQ,Bin,Lt]
@[go_sem] theorem lH:DQ P .gtr t (.int k a) (.int k b) K=K (.bool (decide (b<a))):=by simp [DQ,Bin,Lt]
@[go_sem] theorem lI:DQ P .geq t (.int k a) (.int k b) K=K (.bool (decide (b≤a))):=by simp [DQ,Bin,Lt]
@[go_sem] theorem lJ:DQ P .quo t (.int k a) (.int k b) K=AP (b≠0) (K (.int k (k.wrap (a.tdiv b)))):=by
 simp only [DQ,Bin,AP,true_and]
 grind
@[go_sem] theorem lK:DQ P .rem t (.int k a) (.int k b) K=AP (b≠0) (K (.int k (a.tmod b))):=by
 simp only [DQ,Bin,AP,true_and]
 grind
end
section
variable {t:TypeId} {a b:ByteArray} {c d:Bool} {K:AV→Prop}
def db (a b:ByteArray):Bool:=a.toList == b.toList
@[go_sem] theorem ib:DQ P .add t (.str a) (.str b) K=AP (a.size+b.size≤maxLen) (K (.str (a++b))):=by
 simp only [DQ,Bin,AP]
 grind
def fZ (o:Option (List KK)) (xs ys:List AV) (K:Bool→Prop):Prop:=∃ks b,o=some ks∧Cl ks xs ys=some b∧K b
def lL (o:Option Bool) (K:Bool→Prop):Prop:=∃b,o=some b∧K b
@[go_sem] theorem pd {ks} {xs ys} {K}:fZ (some ks) xs ys K=lL (Cl ks xs ys) K:=by
 simp [fZ,lL]
@[go_sem] theorem pe {b} {K}:lL (some b) K=K b:=by simp [lL]
@[go_sem] theorem pg {k} {ks} {a b} {xs ys}:Cl (.int k::ks) (.int k a::xs) (.int k b::ys)=(Cl ks xs ys).map (decide (a=b)&& ·):=by
 rw [Cl]; simp
@[go_sem] theorem rC:Cl [] [] [] =some true:=by
 rw [Cl]
@[go_sem] theorem ph {α β:Type} {f:α→β} {a:α}:Option.map f (some a)=some (f a):=rfl
@[go_sem] theorem ic {xs ys}:DQ P .eql t (.agg xs) (.agg ys) K=fZ (IC P t) xs ys fun b=>K (.bool b):=by
 unfold DQ Bin fZ
 grind
@[go_sem] theorem ie {xs ys}:DQ P .neq t (.agg xs) (.agg ys) K=fZ (IC P t) xs ys fun b=>K (.bool !b):=by
 unfold DQ Bin fZ
 grind
def ig (P:Program) (t:TypeId):Prop:=match ti P t with| .bool =>True|_=>False
@[go_sem] theorem ii:DQ P .neq t (.bool c) (.bool d) K=AP (ig P t) (K (.bool (!(c == d)))):=by
 simp only [DQ,Bin,AP,ig]
 split <;> simp_all
def Xm (P:Program) (t:TypeId):Prop:=match ti P t with| .ptr _=>True|_=>False
@[go_sem] theorem oF:DQ P .eql t .nilp .nilp K=AP (Xm P t) (K (.bool true)):=by
 simp only [DQ,Bin,AP,Xm]
 split <;> simp_all
@[go_sem] theorem lM:DQ P .neq t .nilp .nilp K=AP (Xm P t) (K (.bool false)):=by
 simp only [DQ,Bin,AP,Xm]
 split <;> simp_all
@[go_sem] theorem oG {ds} {off}:DQ P .eql t (.rop ds off) .nilp K=AP (Xm P t) (K (.bool false)):=by
 simp only [DQ,Bin,AP,Xm]
 split <;> simp_all
@[go_sem] theorem lN {ds} {off}:DQ P .neq t (.rop ds off) .nilp K=AP (Xm P t) (K (.bool true)):=by
 simp only [DQ,Bin,AP,Xm]
 split <;> simp_all
attribute [go_sem] ig Xm
end
def fc (op:UnOp) (x:AV) (K:AV→Prop):Prop:=∃v,Uno op x v∧K v
theorem oH {pos} {dst} {op} {t} {x}:opX P pos dst (.unOp op t x) σ K=fc op (σ.e x) fun v=>K (σ.put dst v):=
 II (p:=fun v=>Uno op (σ.e x) v) (fun _=>by rfl) (fun r=>by rfl)
@[go_sem] theorem lO {b} {K}:fc .not (.bool b) K=K (.bool (!b)):=by simp [fc,Uno]
@[go_sem] theorem lP {k} {n} {K}:fc .neg (.int k n) K=K (.int k (k.wrap (0 - n))):=by simp [fc,Uno]
def SI (P:Program) (s d:TypeId) (x:AV) (σ:St) (K:AV→Prop):Prop:=match ti P d,x with
 | .int k,.int _ n=>(ti P s).sc =true∧K (.int k (k.wrap n))
 | .str,y=>∃el ns,ti P s= .sl el∧ti P el= .int .u8 ∧ns.length≤maxLen∧cl σ.T σ.B y=some (.ro (Hi ns))∧K (.str (strOfNums ns))
 |_,_=>False
def ik (P:Program) (s d:TypeId) (x:AV) (σ:St) (v:AV):Prop:=match ti P d,x with
 | .int k,.int _ n=>(ti P s).sc =true∧v= .int k (k.wrap n)
 | .str,y=>∃el ns,ti P s= .sl el∧ti P el= .int .u8 ∧ns.length≤maxLen∧cl σ.T σ.B y=some (.ro (Hi ns))∧v= .str (strOfNums ns)
 |_,_=>False
theorem fe {pos} {dst} {s d} {x}:opX P pos dst (.convert s d x) σ K=SI P s d (σ.e x) σ fun v=>K (σ.put dst v):=by
 rw [II (p:=fun v=>ik P s d (σ.e x) σ v) (fun _=>by rfl) (fun r=>by
  simp only [Ev,ik]
  generalize σ.e x=v
  generalize ti P d=q
  cases q <;> cases v <;> first
   |(
    refine propext ⟨?_,?_⟩
    ·intro h; obtain⟨j,ns,h1,h2,h3,u,rfl⟩:=h; exact⟨_,⟨j,ns,h1,h2,h3,u,rfl⟩,rfl⟩
    ·intro h; obtain⟨_,⟨j,ns,h1,h2,h3,u,rfl⟩,rfl⟩:=h; exact⟨j,ns,h1,h2,h3,u,rfl⟩)
   |simp [and_assoc])]
 unfold SI ik
 generalize σ.e x=v
 generalize ti P d=q
 have key:∀y:AV,(∃v,(∃j ns,ti P s= .sl j∧ti P j= .int .u8 ∧ns.length≤maxLen∧cl σ.T σ.B y=some (.ro (Hi ns))∧v= .str (strOfNums ns))∧K (σ.put dst v))=∃j ns,ti P s= .sl j∧ti P j= .int .u8 ∧ns.length≤maxLen∧cl σ.T σ.B y=some (.ro (Hi ns))∧K (σ.put dst (.str (strOfNums ns))):=fun y=>by
  grind
 cases q <;> cases v <;> first|exact key _|simp [and_assoc]
def Zc (t:TI) (K:IntKind→Prop):Prop:=match t with| .int k=>K k|_=>False
@[go_sem] theorem ff {k} {K}:Zc (.int k) K=K k:=rfl
@[go_sem] theorem fg {s d} {k'} {n} {K}:SI P s d (.int k' n) σ K=Zc (ti P d) fun k=>AP ((ti P s).sc =true) (K (.int k (k.wrap n))):=by
 unfold SI Zc AP
 generalize ti P d=q
 cases q <;> simp [cl,Hi]
def il (P:Program) (q:TI):Prop:=∃el,q= .sl el∧ti P el= .int .u8
def lQ (q:TI):Prop:=q= .int .u8
@[go_sem] theorem rD:lQ (.int .u8)=True:=by simp [lQ]
@[go_sem] theorem tx {el}:il P (.sl el)=lQ (ti P el):=by simp [il,lQ]
def im (P:Program) (q qs:TI) (o:Option AV) (K:AV→Prop):Prop:=q= .str ∧il P qs∧∃ns,ns.length≤maxLen∧o=some (.ro (Hi ns))∧K (.str (strOfNums ns))
def oI (o:Option AV) (K:AV→Prop) (_:Wrap K):Prop:=∃ns,ns.length≤maxLen∧o=some (.ro (Hi ns))∧K (.str (strOfNums ns))
@[go_sem] theorem rE {qs} {o} {K}:im P .str qs o K=AP (il P qs) (oI o K ⟨⟩):=by simp [im,AP,oI]
theorem io {s d} {x} {K} (hx:∀k n,x≠ .int k n):SI P s d x σ K=Ar (cl σ.T σ.B x) fun o=>im P (ti P d) (ti P s) o K:=by
 unfold SI im Ar il
 grind
@[go_sem] theorem pi {s d} {t} {K}:SI P s d (.own t) σ K=Ar (cl σ.T σ.B (.own t)) fun o=>im P (ti P d) (ti P s) o K:=io (by simp)
theorem rF {ns} {K} {w} (hl:ns.length≤maxLen) (hk:K (.str (strOfNums ns))):oI (some (.ro (List.map (fun n=>[D.int .u8 n]) ns))) K w:=⟨ns,hl,rfl,hk⟩
def faX (P:Program) (s:TypeId) (v:AV) (f:Nat) (K:AV→Prop):Prop:=match v with
 | .box b off=>∃q,fOff P s f=some q∧0<tsz P q.2 ∧K (.box b (off+q.1))
 | .rop ds off=>∃q,fOff P s f=some q∧0<tsz P q.2 ∧K (.rop ds (off+q.1))
 | .elt t sz i off=>∃q,fOff P s f=some q∧0<tsz P q.2 ∧K (.elt t sz i (off+q.1))
 | .els t g p sz i off=>∃q,fOff P s f=some q∧0<tsz P q.2 ∧K (.els t g p sz i (off+q.1))
 |_=>False
theorem Zd {pos} {dst} {s} {x} {f}:opX P pos dst (.fieldAddr s x f) σ K=faX P s (σ.e x) f fun v=>K (σ.put dst v):=by
 rw [II (p:=fun v=>faX P s (σ.e x) f fun u=>v=u) (fun _=>by rfl) (fun r=>by
  simp only [Ev,faX]
  generalize σ.e x=v
  grind)]
 unfold faX
 split
 ·grind
 ·grind
 ·grind
 ·grind
 ·simp
@[go_sem] theorem lR {s} {b off f} {K}:faX P s (.box b off) f K=optX (fOff P s f) fun q=>AP (0<tsz P q.2) (Ar (off+q.1) fun o=>K (.box b o)):=rfl
@[go_sem] theorem lS {s} {ds} {off f} {K}:faX P s (.rop ds off) f K=optX (fOff P s f) fun q=>AP (0<tsz P q.2) (Ar (off+q.1) fun o=>K (.rop ds o)):=rfl
@[go_sem] theorem lT {s} {t g} {p} {sz i off f} {K}:faX P s (.els t g p sz i off) f K=optX (fOff P s f) fun q=>AP (0<tsz P q.2) (Ar (off+q.1) fun o=>K (.els t g p sz i o)):=rfl
@[go_sem] theorem lU {s} {t sz i off f} {K}:faX P s (.elt t sz i off) f K=optX (fOff P s f) fun q=>AP (0<tsz P q.2) (Ar (off+q.1) fun o=>K (.elt t sz i o)):=rfl
def fdX (P:Program) (s:TypeId) (v:AV) (f:Nat) (K:AV→Prop):Prop:=match v with
 | .agg vs=>optX (fOff P s f) fun q=>Q7 (ti P q.2).isAgg (AP (q.1 +tsz P q.2 ≤vs.length) (Ar (.agg (Fc vs q.1 (tsz P q.2))) K)) (AP ((ti P q.2).sc =true) (optX vs[q.1]? K))
 |_=>False
@[go_sem] theorem lV {s} {vs} {f} {K}:fdX P s (.agg vs) f K=optX (fOff P s f) fun q=>Q7 (ti P q.2).isAgg (AP (q.1 +tsz P q.2 ≤vs.length) (Ar (.agg (Fc vs q.1 (tsz P q.2))) K)) (AP ((ti P q.2).sc =true) (optX vs[q.1]? K)):=rfl
attribute [go_sem] fOff
def fh (rows:List (List D)) (n:Int) (sz:Nat) (K:List D→Prop):Prop:=∃row,cw rows n sz row∧K row
def iaX (P:Program) (t:TypeId) (x i:AV) (σ:St) (K:AV→Prop):Prop:=∃v,Tj P σ.T t x i v∧K v
def slX (t:TI) (K:TypeId→Prop):Prop:=match t with| .sl e=>K e|_=>False
@[go_sem] theorem oJ {e} {K}:slX (.sl e) K=K e:=rfl
def elX (P:Program) (t:TypeId) (x i:AV) (K:AV→Prop):Prop:=∃v,WL P t x i v∧K v
def arX (t:TI) (K:Nat→TypeId→Prop):Prop:=match t with| .arr n e=>K n e|_=>False
@[go_sem ↓] theorem t6 {n} {e} {K}:arX (.arr n e) K=K n e:=rfl
def inX (t:TI) (K:IntKind→Prop):Prop:=match t with| .int k=>K k|_=>False
@[go_sem ↓] theorem t7 {k} {K}:inX (.int k) K=K k:=rfl
@[go_sem] theorem pj {k}:Nm k [] =some [] :=rfl
@[go_sem] theorem oK {k} {n} {vs}:Nm k (.int k n::vs)=(Nm k vs).map (n:: ·):=by rw [Nm,if_pos rfl]
theorem lW {pos} {dst} {t} {x i}:opX P pos dst (.index t x i) σ K=elX P t (σ.e x) (σ.e i) fun v=>K (σ.put dst v):=
 II (p:=fun v=>WL P t (σ.e x) (σ.e i) v) (fun _=>by rfl) (fun r=>by rfl)
def isX (t:TI) (K:IntKind→Prop) (K' K'':Prop):Prop:=match t with| .int k=>K k| .str =>K'| .ptr _=>K''|_=>False
@[go_sem ↓] theorem t8 {k} {K K' K''}:isX (.int k) K K' K''=K k:=rfl
@[go_sem ↓] theorem uA {K K' K''}:isX .str K K' K''=K':=rfl
@[go_sem ↓] theorem uB {e} {K K' K''}:isX (.ptr e) K K' K''=K'':=rfl
@[go_sem] theorem pk:PE [] =some [] :=rfl
@[go_sem] theorem oL {s} {vs}:PE (.str s::vs)=(PE vs).map (s:: ·):=rfl
@[go_sem ↓] theorem uC {t} {vs} {k} {n} {K}:elX P t (.agg vs) (.int k n) K=arX (ti P t) fun l e=>isX (ti P e) (fun j=>AP (tsz P e=1) (optX (Nm j vs) fun ns=>AP (l=ns.length) (optX (atI ns n) fun m=>K (.int j m)))) (AP (tsz P e=1) (optX (PE vs) fun ns=>AP (l=ns.length) (optX (atS ns n) fun m=>K (.str m)))) (AP (tsz P e=1) (AP (l=vs.length) (AP (0≤n) (optX (vs[n.toNat]?) K)))):=by
 simp only [elX,WL,arX,isX,AP,optX]
 generalize ti P t=q
 cases q <;> grind
def lX (P:Program) (T:Nat→Option Tok) (t:TypeId) (x:AV) (l h:Option AV) (K:AV→Prop):Prop:=∃v,(Qn P t x l h v∨XR P T t x l h v)∧K v
theorem lY {pos} {dst} {t} {x} {l h}:opX P pos dst (.slice t x l h none) σ K=lX P σ.T t (σ.e x) (l.map σ.e) (h.map σ.e) fun v=>K (σ.put dst v):=
 II (p:=fun v=>Qn P t (σ.e x) (l.map σ.e) (h.map σ.e) v∨XR P σ.T t (σ.e x) (l.map σ.e) (h.map σ.e) v) (fun _=>by rfl) (fun r=>by rfl)
@[go_sem ↓] theorem uD {t} {rows} {l h} {T} {K}:lX P T t (.ro rows) l h K=slX (ti P t) fun p=>AP (0<tsz P p) (AP (∀row ∈ rows,row.length=tsz P p) (optX (bndI l 0) fun i=>optX (bndI h rows.length) fun j=>optX (cutL rows i j) fun r=>K (.ro r))):=by
 simp only [lX,Qn,XR,or_false,slX,AP,optX]
 grind
@[go_sem] theorem rG {d}:bndI none d=some d:=rfl
@[go_sem] theorem rH {k} {n d}:bndI (some (.int k n)) d=some n:=rfl
theorem Ze {pos} {dst} {t} {x i}:opX P pos dst (.indexAddr t x i) σ K=iaX P t (σ.e x) (σ.e i) σ fun v=>K (σ.put dst v):=
 II (p:=fun v=>Tj P σ.T t (σ.e x) (σ.e i) v) (fun _=>by rfl) (fun r=>by rfl)
@[go_sem] theorem oM {t} {rows} {k} {n} {K}:iaX P t (.ro rows) (.int k n) σ K=slX (ti P t) fun e=>AP (0<tsz P e) (fh rows n (tsz P e) fun j=>K (.rop (j.map ofD) 0)):=by
 simp only [iaX,Tj,slX,AP,fh]
 grind
def arI (t:TI) (K:Nat→TypeId→Prop):Prop:=match t with| .arr n e=>K n e|_=>False
@[go_sem ↓] theorem uE {n} {e} {K}:arI (.arr n e) K=K n e:=rfl
@[go_sem] theorem uF {t} {b off} {k} {n} {K}:iaX P t (.box b off) (.int k n) σ K=arI (ti P t) fun l e=>AP (0<tsz P e) (AP (0≤n∧n<(l:Int)) (K (.box b (off+n.toNat*tsz P e)))):=by
 simp only [iaX,Tj,arI,AP]
 grind
@[go_sem] theorem lZ {t} {t'} {k} {n} {K}:iaX P t (.own t') (.int k n) σ K=slX (ti P t) fun e=>AP (0<tsz P e) (optX (σ.T t') fun tk=>fh tk.rows n (tsz P e) fun _=>K (.elt t' (tsz P e) n.toNat 0)):=by
 simp only [iaX,Tj,slX,AP,fh,optX]
 grind
def fj (v:AV) (i:Nat) (K:AV→Prop):Prop:=match v with| .tup vs=>optX vs[i]? K|_=>False
@[go_sem] theorem ip {vs} {i} {K}:fj (.tup vs) i K=optX vs[i]? K:=rfl
theorem fk {pos} {dst} {x} {i}:opX P pos dst (.extract x i) σ K=fj (σ.e x) i fun v=>K (σ.put dst v):=by
 rw [II (p:=fun v=>fj (σ.e x) i fun u=>v=u) (fun _=>by rfl) (fun r=>by
  simp only [Ev,fj]
  generalize σ.e x=v
  cases v <;> simp [optX])]
 unfold fj
 generalize σ.e x=v
 cases v <;> simp [optX]
def evs (σ:St):List Operand→List AV
 | [] =>[]
 |x::xs=>σ.e x::evs σ xs
theorem Xn {xs}:evs σ xs=xs.map σ.e:=by induction xs with|nil=>rfl|cons x xs ih=>simp [evs,ih]
attribute [go_sem] evs
@[go_sem ↓] theorem oN {pos} {dst} {f} {first caps}:opX P pos dst (.makeFunc (.func f) (List.toArray first) caps.toArray) σ K=Ar (.fn f (.agg (evs σ first)::evs σ caps)) fun v=>K (σ.put dst v):=by
 rw [II (p:=fun v=>v= .fn f (.agg (evs σ first)::evs σ caps)) (fun _=>by rfl) (fun r=>by simp [Ev,Xn])]
 simp [Ar]
def fl (P:Program) (t:TypeId) (x:AV) (σ:St) (K:AV→Prop):Prop:=∃v,Vi P σ.T σ.B t x v∧K v
theorem rI {pos} {dst} {x} {t}:opX P pos dst (.call ⟨.builtin .len,List.toArray [x],List.toArray [t]⟩) σ K=fl P t (σ.e x) σ fun v=>K (σ.put dst v):=
 II (p:=fun v=>Vi P σ.T σ.B t (σ.e x) v) (fun _=>by rfl) (fun r=>by rfl)
def bp (f:Int→Int→Int) (x y:AV) (K:AV→Prop):Prop:=match x,y with
 | .int k n,.int k' m=>k=k'∧K (.int k (f n m))
 |_,_=>False
@[go_sem] theorem iq {f} {k} {n m} {K}:bp f (.int k n) (.int k m) K=Ar (f n m) fun r=>K (.int k r):=by simp [bp,Ar]
theorem rJ {pos} {dst} {x y} {ts}:opX P pos dst (.call ⟨.builtin .max,List.toArray [x,y],ts⟩) σ K=bp (fun n m=>if n<m then m else n) (σ.e x) (σ.e y) fun v=>K (σ.put dst v):=by
 rw [II (p:=fun v=>bp (fun n m=>if n<m then m else n) (σ.e x) (σ.e y) fun u=>v=u) (fun _=>by rfl) (fun r=>by
  simp only [Ev,bp]
  generalize σ.e x=u
  generalize σ.e y=v
  cases u <;> cases v <;> simp [and_assoc])]
 unfold bp
 generalize σ.e x=u
 generalize σ.e y=v
 cases u <;> cases v <;> simp [and_assoc]
end
attribute [go_sem ↓] iV iW iX iY kz lA lC lD lE lF lG lH lI lJ lK ib ii oF lM oG lN ic ie lO lP ff fg lR lS lU lT lV oJ oM lZ ip iq
end Go.Proofs.YtjnifengdhcojaaGreatDoor.Ab
