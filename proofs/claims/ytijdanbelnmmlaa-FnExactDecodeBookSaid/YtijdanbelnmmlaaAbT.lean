/-
  The abstract walk as a set of rules for 'simp only [go_sem]': heads that wait, their congruences, one rule an operation.
-/
import Derived.Test.YtijdanbelnmmlaaAbS
namespace Go.Proofs.Ytijdanbelnmmlaa.Ab
set_option linter.unusedVariables false
open Go.RowKit
section
variable {P:Program}
theorem Cw {z}:∀ {vs} {σ} {K K'},(∀ds σ,K ds σ→K' ds σ)→Ax z vs σ K→Ax z vs σ K'
 | [],σ,K,K',hk,h=>by rw [Ax] at h ⊢; exact hk _ _ h
 | .int k n::vs,σ,K,K',hk,h=>by rw [Ax] at h ⊢; exact Cw (fun ds σ=>hk _ σ) h
 | .bool b::vs,σ,K,K',hk,h=>by rw [Ax] at h ⊢; exact Cw (fun ds σ=>hk _ σ) h
 | .str b::vs,σ,K,K',hk,h=>by rw [Ax] at h ⊢; exact Cw (fun ds σ=>hk _ σ) h
 | .nils ::vs,σ,K,K',hk,h=>by rw [Ax] at h ⊢; exact Cw (fun ds σ=>hk _ σ) h
 | .nilp ::vs,σ,K,K',hk,h=>by rw [Ax] at h ⊢; exact Cw (fun ds σ=>hk _ σ) h
 | .ro _::vs,σ,K,K',hk,h=>by rw [Ax] at h ⊢; exact⟨h.1,Cw (fun ds σ=>hk _ σ) h.2⟩
 | .rop _ _::vs,σ,K,K',hk,h=>by rw [Ax] at h ⊢; obtain⟨h1,d,h2,h3⟩:=h; exact⟨h1,d,h2,Cw (fun ds σ=>hk _ σ) h3⟩
 | .bsl _ _ _::vs,σ,K,K',hk,h=>by
  rw [Ax] at h ⊢
  split at h
  ·rename_i h0
   rw [if_pos h0]
   exact Cw (fun ds σ=>hk _ σ) h
  ·rename_i h0
   rw [if_neg h0]
   obtain⟨h1,h2,vs',h3,ds,h4,h5,h6⟩:=h
   exact⟨h1,h2,vs',h3,ds,h4,h5,Cw (fun ds σ=>hk _ σ) h6⟩
 | .own t::vs,σ,K,K',hk,h=>by rw [Ax] at h ⊢; obtain⟨tk,h1,h2,h3⟩:=h; exact⟨tk,h1,h2,Cw (fun ds σ=>hk _ σ) h3⟩
 | .sub _ _ _::vs,σ,K,K',hk,h=>by simp [Ax] at h
 | .els _ _ _ _ _ _::vs,σ,K,K',hk,h=>by simp [Ax] at h
 | .any ::vs,σ,K,K',hk,h=>by simp [Ax] at h
 | .box _ _::vs,σ,K,K',hk,h=>by simp [Ax] at h
 | .elt _ _ _ _::vs,σ,K,K',hk,h=>by simp [Ax] at h
 | .par _ _ _ _::vs,σ,K,K',hk,h=>by simp [Ax] at h
 | .agg _::vs,σ,K,K',hk,h=>by simp [Ax] at h
 | .tup _::vs,σ,K,K',hk,h=>by simp [Ax] at h
 | .fn _ _::vs,σ,K,K',hk,h=>by simp [Ax] at h
 | .mpr _::vs,σ,K,K',hk,h=>by simp [Ax] at h
 | .mpc _ _::vs,σ,K,K',hk,h=>by simp [Ax] at h
theorem PT {t} {a x} {σ} {K K'} (hk:∀σ,K σ→K' σ) (h:H8 P t a x σ K):H8 P t a x σ K':=by
 unfold H8 at h ⊢
 split at h
 ·obtain⟨h1,h2,h3,h4⟩:=h
  refine⟨h1,h2,h3,?_⟩
  split at h4
  ·obtain⟨vs,h5,h6,h7,h8⟩:=h4; exact⟨vs,h5,h6,h7,hk _ h8⟩
  ·obtain⟨tk0,h5,h4⟩:=h4
   exact⟨tk0,h5,Cw (fun ds σ ⟨tk,row,k1,k2,k3,k4,k5⟩=>⟨tk,row,k1,k2,k3,k4,hk _ k5⟩) h4⟩
  ·exact Cw (fun ds σ ⟨rows,k1,row,k2,k3,tk,k4,k5⟩=>⟨rows,k1,row,k2,k3,tk,k4,hk _ k5⟩) h4
  ·exact h4
 ·exact h
theorem RB {z} {e} {sz} {x} {σ} {K K'} (hk:∀r σ,K r σ→K' r σ) (h:KZ z e sz x σ K):KZ z e sz x σ K':=by
 unfold KZ at h ⊢
 split at h
 ·exact hk _ _ h
 ·split at h
  ·rename_i h0
   rw [if_pos h0]
   exact hk _ _ h
  ·rename_i h0
   rw [if_neg h0]
   obtain⟨h0,h1,h2,vs',h3,ds,h4,h5,h6⟩:=h
   exact⟨h0,h1,h2,vs',h3,ds,h4,h5,hk _ _ h6⟩
 ·obtain⟨tk,h1,h2,h3⟩:=h; exact⟨tk,h1,h2,hk _ _ h3⟩
 ·exact h
theorem RC {z} {sz} {x} {σ} {K K'} (hk:∀r σ,K r σ→K' r σ) (h:Hq z sz x σ K):Hq z sz x σ K':=by
 unfold Hq at h ⊢
 split at h
 ·exact hk _ _ h
 ·obtain⟨vs,h1,h2,h3,h4,h5⟩:=h; exact⟨vs,h1,h2,h3,h4,Cw (fun ds σ=>hk _ σ) h5⟩
 ·split at h
  ·exact⟨h.1,hk _ _ h.2⟩
  ·exact⟨h.1,hk _ _ h.2⟩
 ·obtain⟨tk,h1,h2,h3⟩:=h; exact⟨tk,h1,h2,hk _ _ h3⟩
 ·exact h
theorem RD {pos} {t} {x y} {σ} {K K'} (hk:∀v σ,K v σ→K' v σ) (h:O4 P pos t x y σ K):O4 P pos t x y σ K':=by
 unfold O4 at h ⊢
 split at h
 ·obtain⟨h1,h2,z,h⟩:=h
  exact⟨h1,h2,z,RB (fun r σ h=>RC (fun r2 σ2 h=>⟨h.1,h.2.1,h.2.2.1,hk _ _ h.2.2.2⟩) h) h⟩
 ·exact h
theorem RE {t} {m i x} {σ} {K K'} (hk:∀σ,K σ→K' σ) (h:Ni P t m i x σ K):Ni P t m i x σ K':=by
 unfold Ni at h ⊢
 split at h
 ·obtain⟨q,rows,h1,h2,h3,k,h4,h5,d,h6,h7⟩:=h; exact⟨q,rows,h1,h2,h3,k,h4,h5,d,h6,hk _ h7⟩
 ·exact h
theorem SW {pos} {o} {σ} {K K'} (hk:∀σ,K σ→K' σ) (h:aop P pos o σ K):aop P pos o σ K':=by
 unfold aop at h ⊢
 split at h
 ·exact⟨h.1,h.2.1,fun b hb=>hk _ (h.2.2 b hb)⟩
 ·exact⟨h.1,h.2.1,fun b hb=>hk _ (h.2.2 b hb)⟩
 ·exact PT (fun σ=>hk _) h
 ·exact RE (fun σ=>hk _) h
 ·split at h
  ·exact⟨h.1,RD (fun v σ=>hk _) h.2⟩
  ·exact h
 ·obtain⟨r,h1,h2,h3,h4⟩:=h; exact⟨r,h1,h2,h3,hk _ h4⟩
theorem FT {K K'} (hk:∀σ,K σ→K' σ):∀ {cv} {σ},BQ cv σ K→BQ cv σ K'
 | [],σ,h=>by rw [BQ] at h ⊢; exact hk _ h
 | (n,a,z)::cv,σ,h=>by
  cases a with
  |sub t g p=>
   rw [BQ] at h ⊢
   obtain⟨h1,h2,h3,tk,rows,h4,h5,h6,h7,h8⟩:=h
   exact⟨h1,h2,h3,tk,rows,h4,h5,h6,h7,FT hk h8⟩
  |nils=>rw [BQ] at h ⊢; exact⟨h.1,FT hk h.2⟩
  |bsl b m sz=>rw [BQ] at h ⊢; exact⟨h.1,h.2.1,FT hk h.2.2⟩
  |_=>simp [BQ] at h
theorem GT:∀ {cv} {σ} {K K'},(∀σ,K σ→K' σ)→Az cv σ K→Az cv σ K'
 | [],σ,K,K',hk,h=>by rw [Az] at h ⊢; exact hk _ h
 | (n,a,z)::cv,σ,K,K',hk,h=>by
  cases a with
  | sub t g p=>
   rw [Az] at h ⊢
   refine GT (fun σ h=>?_) h
   cases hn:σ.T n with
   |none=>simp only [hn] at h ⊢; exact hk _ h
   |some tn=>
    simp only [hn] at h ⊢
    obtain⟨tk,h1,h2,h3,h4⟩:=h
    exact⟨tk,h1,h2,h3,hk _ h4⟩
  |_=>
   rw [Az] at h ⊢
   ·exact GT (fun σ h=>hk _ h) h
   all_goals (intros; simp_all)
theorem PU {f} {args} {σ} {K K'} (hk:∀v σ,K v σ→K' v σ) (h:MD P f args σ K):MD P f args σ K':=by
 obtain⟨y,as,pt,pb,r,qt,qb,h1,h2⟩:=h
 exact⟨y,as,pt,pb,r,qt,qb,h1,FT (fun σ h=>⟨h.1,h.2.1,h.2.2.1,h.2.2.2.1,h.2.2.2.2.1,h.2.2.2.2.2.1,h.2.2.2.2.2.2.1,h.2.2.2.2.2.2.2.1,GT (fun σ h=>hk _ _ h) h.2.2.2.2.2.2.2.2⟩) h2⟩
theorem OL {K K'} (hk:∀a σ,K a σ→K' a σ):∀ {bs} {args} {σ},FzK bs args σ K→FzK bs args σ K'
 | [],args,σ,h=>hk _ _ h
 |b::bs,args,σ,h=>by
  obtain⟨vs,h1,h2,h3⟩:=h
  exact⟨vs,h1,h2,OL hk h3⟩
theorem PV {f} {args} {σ} {K K'} (hk:∀v σ,K v σ→K' v σ) (h:P4 P f args σ K):P4 P f args σ K':=by
 obtain⟨bs,h⟩:=h
 exact⟨bs,OL (fun _ _ h=>PU hk h) h⟩
theorem Me {L} {pos} {o} {σ} {K K'} (hk:∀σ,K σ→K' σ) (h:Jw P L pos o σ K):Jw P L pos o σ K':=by
 rcases h with ⟨hA,h⟩|⟨hL,h⟩|⟨hL,hA,r,h1,h2,h3,h4⟩
 ·exact .inl ⟨hA,SW hk h⟩
 ·refine .inr (.inl ⟨hL,?_⟩)
  rcases h with h|h
  ·refine .inl ?_
   unfold Gw at h ⊢
   split at h
   ·split at h
    ·exact PV (fun v σ=>hk _) h
    ·exact h
   ·exact h
  ·refine .inr ?_
   unfold SliK at h ⊢
   split at h
   ·split at h
    ·obtain⟨tk,h1,el,h2,h3,i,h4,j,h5,r,h6,h7,h8⟩:=h
     exact⟨tk,h1,el,h2,h3,i,h4,j,h5,r,h6,h7,hk _ h8⟩
    ·exact h
   ·exact h
 ·exact .inr (.inr ⟨hL,hA,r,h1,h2,h3,hk _ h4⟩)
theorem EW {ops} {base cut} {K K'} (hk:∀σ,K σ→K' σ):∀ {l} {i} {σ},aops P ops base cut i l σ K→aops P ops base cut i l σ K'
 | [],i,σ,h=>by rw [aops] at h ⊢; exact hk _ h
 | o::rest,i,σ,h=>by
  rw [aops] at h ⊢
  split at h
  ·exact Me (fun σ h=>EW hk h) h
  ·obtain⟨s,h1,h⟩:=h
   refine⟨s,h1,?_⟩
   rcases h with ⟨b,h2,h3,h4⟩|⟨h2,h3⟩
   ·exact .inl ⟨b,h2,fun hb=>Me (fun σ h=>EW hk h) (h3 hb),fun hb=>EW hk (h4 hb)⟩
   ·exact .inr ⟨h2,EW hk h3⟩
theorem RF {p} {K K'} (hk:∀σ,K σ→K' σ) {σ} (h:seqW p K σ):seqW p K' σ:=by
 unfold seqW at h ⊢
 split at h
 ·exact hk _ h
 ·obtain⟨σ1,h1,h2⟩:=h; exact⟨σ1,h1,hk _ h2⟩
theorem LJ {P} {ops} {base} {ts}:∀ (tr:Tr) {σ} {K K'},(∀σ,K σ→K' σ)→aTr P ops base ts tr σ K→aTr P ops base ts tr σ K'
 | .fin,σ,K,K',hk,h=>hk σ h
 | .stop,σ,K,K',hk,h=>trivial
 | .br i t more,σ,K,K',hk,h=>by
  simp only [aTr] at h ⊢
  refine⟨?_,LJ more hk h.2⟩
  have h1:=h.1
  split at h1
  ·exact EW (fun σ' h=>LJ t hk h) h1
  ·exact h1.elim
theorem LK {P} {ops} {base} {r} {i} {o} {acc} {σ} {K K'} (hk:∀acc σ,K acc σ→K' acc σ) (h:Gy P ops base r i o acc σ K):Gy P ops base r i o acc σ K':=by
 unfold Gy at h ⊢
 cases r with
 |no=>exact EW (hk acc) h
 |al=>
  dsimp only at h ⊢
  split at h
  ·exact⟨h.1,hk _ _ h.2⟩
  ·exact h.elim
 | st k=>
  dsimp only at h ⊢
  split at h
  ·split at h
   ·exact⟨h.1,h.2.1,hk _ _ h.2.2⟩
   ·exact h.elim
  ·exact h.elim
theorem GU {P} {ops} {base} {V}:∀ (l:List Oper) {E} {i} {ts} {acc} {σ} {K K'},(∀ts acc σ,K ts acc σ→K' ts acc σ)→DQ P ops base V E i l ts acc σ K→DQ P ops base V E i l ts acc σ K'
 | [],E,i,ts,acc,σ,K,K',hk,h=>by simp only [DQ] at h ⊢; exact hk _ _ _ h
 |o::l,[],i,ts,acc,σ,K,K',hk,h=>by simp only [DQ] at h ⊢; exact LK (fun acc σ' h=>GU l hk h) h
 |o::l,true::E,i,ts,acc,σ,K,K',hk,h=>by simp only [DQ] at h ⊢; exact GU l hk h
 |o::l,false::E,i,ts,acc,σ,K,K',hk,h=>by simp only [DQ] at h ⊢; exact LK (fun acc σ' h=>GU l hk h) h
theorem RG {P} {ops} {base} {draw} {σ} {K K'} (hk:∀σ,K σ→K' σ) (h:Qi P ops base draw σ K):Qi P ops base draw σ K':=by
 unfold Qi at h ⊢
 cases draw with
 |false=>exact EW hk h
 |true=>
  obtain⟨E,V,tr,hE,h⟩:=h
  exact⟨E,V,tr,hE,GU _ (fun ts acc σ h=>⟨h.1,LJ tr hk h.2⟩) h⟩
theorem FU:∀ {c} {Q Q'} {σ},(∀q σ,Q q σ→Q' q σ)→awp P c Q σ→awp P c Q' σ
 | .skip,Q,Q',σ,hq,h=>by rw [awp] at h ⊢; exact hq _ _ h
 | .region id ops draw,Q,Q',σ,hq,h=>by rw [awp] at h ⊢; exact RG (hq _) h
 | .seq a b,Q,Q',σ,hq,h=>by
  rw [awp] at h ⊢
  refine FU (fun q σ h=>?_) h
  cases q with
  |normal=>
   have h':seqW (FM a) (awp P b Q) σ:=h
   exact RF (K:=awp P b Q) (K':=awp P b Q') (fun σ h=>FU hq h) h'
  |exit id=>exact hq _ _ h
  |ret=>exact hq _ _ h
 | .cond c a b,Q,Q',σ,hq,h=>by
  rw [awp] at h ⊢
  obtain⟨v,h1,h2,h3⟩:=h
  exact⟨v,h1,fun e=>FU hq (h2 e),fun e=>FU hq (h3 e)⟩
 | .block id b,Q,Q',σ,hq,h=>by
  rw [awp] at h ⊢
  refine FU (fun q σ h=>?_) h
  cases q with
  |normal=>exact hq _ _ h
  |exit i=>
   simp only [AE.inBlock] at h ⊢
   split at h
   ·rw [if_pos ‹_›]; exact hq _ _ h
   ·rw [if_neg ‹_›]; exact hq _ _ h
  |ret=>exact hq _ _ h
 | .loop b,Q,Q',σ,hq,h=>by
  rw [awp] at h ⊢
  intro L hL
  refine h L fun σ hσ=>hL σ (FU (fun q σ h=>?_) hσ)
  cases q with
  |normal=>exact h
  |exit id=>exact hq _ _ h
  |ret=>exact hq _ _ h
 | .exit id,Q,Q',σ,hq,h=>by rw [awp] at h ⊢; exact hq _ _ h
 | .ret,Q,Q',σ,hq,h=>by rw [awp] at h ⊢; exact hq _ _ h
 | .rangeFunc _ _ _ _,Q,Q',σ,hq,h=>by simp [awp] at h
 | .goto _,Q,Q',σ,hq,h=>by simp [awp] at h
 | .label _,Q,Q',σ,hq,h=>by simp [awp] at h
theorem OM {b} {Q} {σ} (h:awp P b (AE.then (fun σ'=>∃σ1,Wk σ' σ1∧awp P (.loop b) Q σ1) Q) σ):awp P (.loop b) Q σ:=by
 rw [awp]
 intro L hL
 refine⟨σ,.nil σ,hL σ (FU (fun q σ h=>?_) h)⟩
 cases q with
 |normal=>
  obtain⟨σ1,h1,h2⟩:=h
  rw [awp] at h2
  obtain⟨σ0,h3,h4⟩:=h2 L hL
  exact⟨σ0,h1.trans h3,h4⟩
 |exit id=>exact h
 |ret=>exact h
end
def AY {α:Type} (v:α) (K:α→Prop):Prop:=K v
def optX {α:Type} (o:Option α) (K:α→Prop):Prop:=∃x,o=some x∧K x
def AJ (p q:Prop):Prop:=p∧q
def HE (b:Bool) (p q:Prop):Prop:=(b=true∧p)∨(b=false∧q)
def LL (b:Bool) (p q:Prop):Prop:=(b=true→p)∧(b=false→q)
structure Wrap {α:Sort _} (a:α):Type where
def X7 {α:Type} (v:α) (K:α→Prop) (_:Wrap K):Prop:=K v
def RH {α:Type} (o:Option α) (K:α→Prop) (_:Wrap K):Prop:=∃x,o=some x∧K x
def ON (p q:Prop) (_:Wrap q):Prop:=p∧q
def LM (b:Bool) (p q:Prop) (_:Wrap p) (_:Wrap q):Prop:=(b=true→p)∧(b=false→q)
def SX (b:Bool) (p q:Prop) (_:Wrap p) (_:Wrap q):Prop:=HE b p q
@[go_sem ↓] theorem Zd {α:Type} {v:α} {K:α→Prop}:AY v K=X7 v K ⟨⟩:=rfl
@[go_sem ↓] theorem Ze {α:Type} {o:Option α} {K:α→Prop}:optX o K=RH o K ⟨⟩:=rfl
@[go_sem ↓] theorem Zf {p q:Prop}:AJ p q=ON p q ⟨⟩:=rfl
@[go_sem ↓] theorem X8 {b} {p q:Prop}:LL b p q=LM b p q ⟨⟩ ⟨⟩:=rfl
@[go_sem ↓] theorem Zg {b} {p q:Prop}:HE b p q=SX b p q ⟨⟩ ⟨⟩:=rfl
@[go_sem] theorem Zh {α:Type} {v:α} {K:α→Prop} {w:Wrap K}:X7 v K w=K v:=propext Iff.rfl
@[go_sem] theorem W6 {α:Type} {x:α} {K:α→Prop} {w:Wrap K}:RH (some x) K w=K x:=by simp [RH]
@[go_sem] theorem W7 {α:Type} {K:α→Prop} {w:Wrap K}:RH none K w=False:=by simp [RH]
@[go_sem] theorem W8 {q:Prop} {w}:ON True q w=q:=by simp [ON]
@[go_sem] theorem V2 {q:Prop} {w}:ON False q w=False:=by simp [ON]
@[go_sem] theorem bD {p:Prop} {w}:ON p True w=p:=by simp [ON]
@[go_sem] theorem V3 {p q:Prop} {w} {w'}:LM true p q w w'=p:=by simp [LM]
@[go_sem] theorem Vc {p q:Prop} {w} {w'}:LM false p q w w'=q:=by simp [LM]
@[go_sem] theorem W9 {p q:Prop} {w} {w'}:SX true p q w w'=p:=by simp [HE,SX]
@[go_sem] theorem V4 {p q:Prop} {w} {w'}:SX false p q w w'=q:=by simp [HE,SX]
theorem EX {α:Type} {x:α} {K:α→Prop}:optX (some x) K=K x:=by simp [optX]
theorem Mf {α:Type} {K:α→Prop}:optX none K=False:=by simp [optX]
theorem Ak {p q:Prop} {w} (hp:p) (hq:q):ON p q w:=⟨hp,hq⟩
theorem GV {b} {p q:Prop} {w} {w'} (hp:b=true→p) (hq:b=false→q):LM b p q w w':=⟨hp,hq⟩
theorem Br {α:Type} {o:Option α} {x:α} {K:α→Prop} {w:Wrap K} (h:o=some x) (hk:K x):RH o K w:=⟨x,h,hk⟩
@[go_sem] theorem XA:isMp [] =false:=rfl
@[go_sem] theorem XB {a}:isMp [a] =a.mp?:=rfl
@[go_sem] theorem XC {a b} {l}:isMp (a::b::l)=false:=rfl
@[go_sem] theorem XD:I8 [] =true:=rfl
@[go_sem] theorem V5 {a} {l}:I8 (a::l)=(!a.mp?&&I8 l):=rfl
attribute [go_sem] AV.mp?
@[go_sem] theorem V6 {α:Type} {j:Nat} {x:α} {l:List (Nat × α)} {i:Nat}:look ((j,x)::l) i=if i=j then some x else look l i:=rfl
@[go_sem] theorem X9 {α:Type} {i}:look ([] :List (Nat × α)) i=none:=rfl
@[go_sem] theorem St.T_mk {s t b} {i}:St.T ⟨s,t,b⟩ i=(look t i).join :=rfl
@[go_sem] theorem St.B_mk {s t b} {i}:St.B ⟨s,t,b⟩ i=(look b i).join :=rfl
@[go_sem] theorem St.g_mk {s t b} {i}:St.g ⟨s,t,b⟩ i=(look s i).getD .any :=rfl
@[go_sem] theorem St.t_mk {s t b}:St.t ⟨s,t,b⟩=t:=rfl
@[go_sem] theorem St.b_mk {s t b}:St.b ⟨s,t,b⟩=b:=rfl
@[go_sem] theorem St.s_mk {s t b}:St.s ⟨s,t,b⟩=s:=rfl
@[go_sem] theorem St.e_tmp {σ:St} {t:Tmp}:σ.e (.tmp t)=σ.g t:=rfl
@[go_sem] theorem St.e_func {σ:St} {f:FuncId}:σ.e (.func f)= .fn f [] :=rfl
@[go_sem] theorem St.e_const {σ:St} {v:Value}:σ.e (.const v)=Ao v:=rfl
@[go_sem] theorem Zi {k} {n}:Ao (.int k n)= .int k n:=rfl
@[go_sem] theorem YA {b}:Ao (.bool b)= .bool b:=rfl
@[go_sem] theorem Zj {s}:Ao (.string s)= .str s:=rfl
@[go_sem] theorem YB:Ao (.slice none 0 0)= .nils :=rfl
@[go_sem] theorem YC:Ao (.pointer none)= .nilp :=rfl
@[go_sem] theorem Zk {cs}:Ao (.agg cs.toArray)= .agg (EC cs):=by simp [Ao]
@[go_sem] theorem YD:EC [] =[] :=rfl
@[go_sem] theorem XE {v} {vs}:EC (v::vs)=Ao v::EC vs:=rfl
@[go_sem] theorem YE {s t b} {d} {v}:St.put ⟨s,t,b⟩ (some d) v=⟨(d,v)::s,t,b⟩:=rfl
@[go_sem] theorem YF {σ} {v}:St.put σ none v=σ:=rfl
@[go_sem] theorem YG {s t b} {i}:St.killT ⟨s,t,b⟩ i=⟨s,(i,none)::t,b⟩:=rfl
@[go_sem] theorem Zl {s t b} {i} {tk}:St.setT ⟨s,t,b⟩ i tk=⟨s,(i,some tk)::t,b⟩:=rfl
@[go_sem] theorem Zm {s t b} {i} {vs}:St.setB ⟨s,t,b⟩ i vs=⟨s,t,(i,some vs)::b⟩:=rfl
attribute [go_sem] Option.join_some Option.join_none Option.getD_some Option.getD_none reduceIte eq_self and_self true_and and_true
attribute [go_sem] List.getElem?_cons_zero List.getElem?_cons_succ List.length_cons List.length_nil List.take_succ_cons List.take_zero List.take_nil List.drop_succ_cons List.drop_zero List.map_cons List.map_nil List.set_cons_zero List.set_cons_succ List.cons_append List.nil_append Option.some.injEq reduceCtorEq TI.isAgg TI.sc AV.one splice List.all_cons List.all_nil Bool.and_self Bool.true_and Bool.and_true
def Fn (P:Program) (ops:Array Oper) (base cut i:Nat) (l:List Oper) (σ:St) (K:St→Prop) (_:Wrap ops) (_:Wrap l) (_:Wrap K) (_:Wrap cut):Prop:=aops P ops base cut i l σ K
@[go_sem ↓] theorem Zn {P} {ops} {base cut i} {l} {K} {σ}:aops P ops base cut i l σ K=Fn P ops base cut i l σ K ⟨⟩ ⟨⟩ ⟨⟩ ⟨⟩:=rfl
section
variable {P:Program} {σ:St} {K:St→Prop} {Q:AE→St→Prop}
@[go_sem ↓] theorem bE:awp P .skip Q σ=Q .normal σ:=by rw [awp]
@[go_sem ↓] theorem YH {id} {l}:awp P (.region id l.toArray false) Q σ=aops P l.toArray (id*1000+1000) 0 0 l σ (Q .normal):=by rw [awp]; rfl
def Vd (P:Program) (id:Nat) (l:List Oper) (Q:AE→St→Prop) (σ:St) (_:Wrap l) (_:Wrap Q) (_:Wrap σ):Prop:=Qi P l.toArray (id*1000+1000) true σ (Q .normal)
@[go_sem ↓] theorem bF {id} {l}:awp P (.region id l.toArray true) Q σ=Vd P id l Q σ ⟨⟩ ⟨⟩ ⟨⟩:=by rw [awp]; rfl
theorem B3 {id} {l} {w1} {w2} {w3} (E:List Bool) (tr:Tr) (h:HY E [] tr l.toArray=true) (k:DQ P l.toArray (id*1000+1000) [] E 0 l [] [] σ fun ts acc σ'=>Qh acc σ' fun σ'=>aTr P l.toArray (id*1000+1000) ts tr σ' (Q .normal)):Vd P id l Q σ w1 w2 w3:=⟨E,[],tr,h,k⟩
def V7 (acc:List (Nat × List AV)) (σ:St) (K:St→Prop) (_:Wrap σ) (_:Wrap K):Prop:=Qh acc σ K
@[go_sem ↓] theorem Zo {acc} {σ} {K}:Qh acc σ K=V7 acc σ K ⟨⟩ ⟨⟩:=rfl
@[go_sem] theorem YI {σ} {K} {w1 w2}:V7 [] σ K w1 w2=K σ:=by
 unfold V7 Qh
 simp [Cv,addB]
attribute [go_sem] addB
def EY (P:Program) (ops:Array Oper) (base:Nat) (V:List (Nat × Nat)) (E:List Bool) (i:Nat) (l:List Oper) (ts:List (Nat × Oper)) (acc:List (Nat × List AV)) (σ:St) (K:List (Nat × Oper)→List (Nat × List AV)→St→Prop) (_:Wrap ops) (_:Wrap l) (_:Wrap ts) (_:Wrap K) (_:Wrap V) (_:Wrap acc):Prop:=DQ P ops base V E i l ts acc σ K
def PW (P:Program) (ops:Array Oper) (base:Nat) (r:VR) (i:Nat) (o:Oper) (acc:List (Nat × List AV)) (σ:St) (K:List (Nat × List AV)→St→Prop):Prop:=Gy P ops base r i o acc σ K
def M8 (P:Program) (ops:Array Oper) (base:Nat) (r:VR) (i:Nat) (o:Oper) (acc:List (Nat × List AV)) (σ:St) (K:List (Nat × List AV)→St→Prop) (_:Wrap ops) (_:Wrap o) (_:Wrap acc) (_:Wrap σ) (_:Wrap K):Prop:=Gy P ops base r i o acc σ K
section
variable {ops:Array Oper} {base i:Nat} {V:List (Nat × Nat)} {E:List Bool} {ts:List (Nat × Oper)} {acc:List (Nat × List AV)} {H:List (Nat × Oper)→List (Nat × List AV)→St→Prop} {o:Oper} {l:List Oper} {w1:Wrap ops} {w3:Wrap ts} {w4:Wrap H} {w5:Wrap V} {w6:Wrap acc}
@[go_sem ↓] theorem YJ:DQ P ops base V E i l ts acc σ H=EY P ops base V E i l ts acc σ H ⟨⟩ ⟨⟩ ⟨⟩ ⟨⟩ ⟨⟩ ⟨⟩:=rfl
@[go_sem] theorem cJ {w2}:EY P ops base V E i [] ts acc σ H w1 w2 w3 w4 w5 w6=H ts acc σ:=by unfold EY; cases E with|nil=>rfl|cons b E=>cases b <;> rfl
@[go_sem] theorem bG {w2}:EY P ops base V (true::E) i (o::l) ts acc σ H w1 w2 w3 w4 w5 w6=DQ P ops base V E (i+1) l ((i,o)::ts) acc σ H:=rfl
@[go_sem] theorem Zp {w2}:EY P ops base V (false::E) i (o::l) ts acc σ H w1 w2 w3 w4 w5 w6=PW P ops base (BP V i) i o acc σ fun acc' σ'=>DQ P ops base V E (i+1) l ts acc' σ' H:=rfl
@[go_sem] theorem cK {w2}:EY P ops base V [] i (o::l) ts acc σ H w1 w2 w3 w4 w5 w6=PW P ops base (BP V i) i o acc σ fun acc' σ'=>DQ P ops base V [] (i+1) l ts acc' σ' H:=rfl
@[go_sem] theorem V8 {x} {xs b} {w2}:EY P ops base V E i (List.append (x::xs) b) ts acc σ H w1 w2 w3 w4 w5 w6=EY P ops base V E i (x::List.append xs b) ts acc σ H w1 ⟨⟩ w3 w4 w5 w6:=rfl
@[go_sem] theorem XF {b} {w2}:EY P ops base V E i (List.append [] b) ts acc σ H w1 w2 w3 w4 w5 w6=EY P ops base V E i b ts acc σ H w1 ⟨⟩ w3 w4 w5 w6:=rfl
@[go_sem] theorem XG {a b c} {w2}:EY P ops base V E i (List.append (List.append a b) c) ts acc σ H w1 w2 w3 w4 w5 w6=EY P ops base V E i (List.append a (List.append b c)) ts acc σ H w1 ⟨⟩ w3 w4 w5 w6:=by
 unfold EY; rw [show List.append (List.append a b) c=List.append a (List.append b c) from List.append_assoc a b c]
@[go_sem ↓] theorem YK {r} {K}:PW P ops base r i o acc σ K=M8 P ops base r i o acc σ K ⟨⟩ ⟨⟩ ⟨⟩ ⟨⟩ ⟨⟩:=rfl
attribute [go_sem] BP
@[go_sem] theorem YL {K} {w1 w2 w3 w4 w5}:M8 P ops base .no i o acc σ K w1 w2 w3 w4 w5=aops P ops base (i+1) i [o] σ (K acc):=rfl
@[go_sem] theorem YM {K} {dst} {t ty} {ps} {af} {w1 w2 w3 w4 w5}:M8 P ops base .al i ⟨dst,.alloc t,ty,ps,af,none⟩ acc σ K w1 w2 w3 w4 w5=AJ (0<(tz P t).length ∧(tz P t).length =tsz P t∧isMp ((tz P t).map zAV)=false) (K acc (σ.put dst (.box (base+i) 0))):=rfl
def stV (P:Program) (base k:Nat) (t:TypeId) (x a:AV) (dst:Option Tmp) (acc:List (Nat × List AV)) (σ:St) (K:List (Nat × List AV)→St→Prop):Prop:=match cellsOf x with
 |some cs=>(cs.length=tsz P t∧0<tsz P t∧cs.all AV.one=true)∧a= .box (base+k) 0∧K ((base+k,cs)::acc) (σ.put dst .any)
 |none=>False
@[go_sem] theorem YN {K} {k} {dst} {t ty} {a x} {ps} {af} {w1 w2 w3 w4 w5}:M8 P ops base (.st k) i ⟨dst,.store t a x,ty,ps,af,none⟩ acc σ K w1 w2 w3 w4 w5=AY (σ.e x) fun x=>AY (σ.e a) fun a=>stV P base k t x a dst acc σ K:=rfl
def bH (P:Program) (base k:Nat) (t:TypeId) (x a:AV) (dst:Option Tmp) (acc:List (Nat × List AV)) (σ:St) (K:List (Nat × List AV)→St→Prop) (_:Wrap x) (_:Wrap a) (_:Wrap acc) (_:Wrap σ) (_:Wrap K):Prop:=stV P base k t x a dst acc σ K
@[go_sem ↓] theorem bI {k} {t} {x a} {dst} {K}:stV P base k t x a dst acc σ K=bH P base k t x a dst acc σ K ⟨⟩ ⟨⟩ ⟨⟩ ⟨⟩ ⟨⟩:=rfl
def trX (o:Option Oper) (f:Oper→Prop):Prop:=match o with
 |some o=>f o
 |none=>False
def trY (o:Option Oper) (f:Oper→Prop) (_:Wrap f):Prop:=trX o f
@[go_sem ↓] theorem bJ {x} {f}:trX x f=trY x f ⟨⟩:=rfl
@[go_sem] theorem YO {f} {w}:trY (some o) f w=f o:=rfl
def V9 (p q:Prop):Prop:=p∧q
def YP (p q:Prop) (_:Wrap p) (_:Wrap q):Prop:=p∧q
@[go_sem ↓] theorem Zq {p q:Prop}:V9 p q=YP p q ⟨⟩ ⟨⟩:=rfl
theorem Bm {p q:Prop} {w} {w'} (hp:p) (hq:q):YP p q w w':=⟨hp,hq⟩
def Lt (P:Program) (ops:Array Oper) (base:Nat) (ts:List (Nat × Oper)) (tr:Tr) (σ:St) (K:St→Prop) (_:Wrap ops) (_:Wrap ts) (_:Wrap K):Prop:=aTr P ops base ts tr σ K
@[go_sem ↓] theorem bK {tr}:aTr P ops base ts tr σ K=Lt P ops base ts tr σ K ⟨⟩ ⟨⟩ ⟨⟩:=rfl
@[go_sem] theorem bL {w3} {w4}:Lt P ops base ts .fin σ K w1 w3 w4=K σ:=rfl
@[go_sem] theorem bM {t} {w3} {w4}:Lt P ops base ts (.br i t .stop) σ K w1 w3 w4=trX (look ts i) fun o=>aops P ops base 0 i [o] σ fun σ'=>aTr P ops base ts t σ' K:=by
 unfold Lt trX
 rw [aTr,aTr,and_true]
 rfl
@[go_sem] theorem bN {t u m} {j} {w3} {w4}:Lt P ops base ts (.br i t (.br j u m)) σ K w1 w3 w4=V9 (aTr P ops base ts (.br i t .stop) σ K) (aTr P ops base ts (.br j u m) σ K):=by
 unfold Lt V9
 simp only [aTr,and_true]
@[go_sem] theorem bO {t} {w3} {w4}:Lt P ops base ts (Tr.sq [] t) σ K w1 w3 w4=Lt P ops base ts t σ K w1 w3 w4:=rfl
@[go_sem] theorem cL {t} {is} {w3} {w4}:Lt P ops base ts (Tr.sq (i::is) t) σ K w1 w3 w4=Lt P ops base ts (.br i (Tr.sq is t) .stop) σ K w1 w3 w4:=rfl
end
def Ty (p:Bool) (K:St→Prop) (σ:St):Prop:=seqW p K σ
def PX (p:Bool) (K:St→Prop) (σ:St) (_:Wrap K) (_:Wrap σ):Prop:=seqW p K σ
@[go_sem ↓] theorem Zr {p}:Ty p K σ=PX p K σ ⟨⟩ ⟨⟩:=rfl
@[go_sem] theorem XH {w1} {w2}:PX true K σ w1 w2=K σ:=rfl
theorem EI {w1} {w2} (h:K σ):PX false K σ w1 w2:=⟨σ,.nil σ,h⟩
theorem PY {w1} {w2} {σ1} (h:K σ1) (hw:Wk σ σ1):PX false K σ w1 w2:=⟨σ1,hw,h⟩
@[go_sem] theorem Tz {id:Nat} {l:List Oper}:FM (.region id l.toArray false)=l.all fun o=>o.guard.isNone&&Vt o.op:=rfl
attribute [go_sem] Vt Bool.and_true Bool.true_and Bool.and_false Bool.false_and
@[go_sem] theorem WA {id:Nat} {l:List Oper}:FM (.region id l.toArray true)=false:=rfl
@[go_sem] theorem WB:FM .skip =false:=rfl
@[go_sem] theorem XI {a b}:FM (.seq a b)=false:=rfl
@[go_sem] theorem WC {c} {a b}:FM (.cond c a b)=false:=rfl
@[go_sem] theorem Ve {id} {a}:FM (.block id a)=false:=rfl
@[go_sem] theorem WD {a}:FM (.loop a)=false:=rfl
@[go_sem] theorem WE {id}:FM (.exit id)=false:=rfl
@[go_sem] theorem XJ:FM .ret =false:=rfl
attribute [go_sem] Option.isNone_none Option.isNone_some List.all_cons List.all_nil
@[go_sem ↓] theorem cM {a b}:awp P (.seq a b) Q σ=awp P a (AE.then (Ty (FM a) (awp P b Q)) Q) σ:=by rw [awp]; rfl
@[go_sem ↓] theorem bP {c} {a b}:awp P (.cond c a b) Q σ=AY (σ.e c) fun v=>P5 v (awp P a Q σ) (awp P b Q σ):=by rw [awp]; rfl
@[go_sem ↓] theorem Zs {id} {c}:awp P (.block id c) Q σ=awp P c (AE.inBlock id Q) σ:=by rw [awp]
@[go_sem ↓] theorem bQ {id}:awp P (.exit id) Q σ=Q (.exit id) σ:=by rw [awp]
@[go_sem ↓] theorem cN:awp P .ret Q σ=Q .ret σ:=by rw [awp]
@[go_sem] theorem PZ {b} {p q:Prop}:P5 (.bool b) p q=LL b p q:=by simp [P5,LL]
@[go_sem ↓] theorem Vf {n}:AE.then n Q .normal σ=n σ:=rfl
@[go_sem ↓] theorem XK {n} {id}:AE.then n Q (.exit id) σ=Q (.exit id) σ:=rfl
@[go_sem ↓] theorem YQ {n}:AE.then n Q .ret σ=Q .ret σ:=rfl
@[go_sem ↓] theorem T0 {id}:AE.inBlock id Q .normal σ=Q .normal σ:=rfl
@[go_sem ↓] theorem XL {id}:AE.inBlock id Q .ret σ=Q .ret σ:=rfl
def OO (P:Program) (b:Code) (Q:AE→St→Prop) (σ:St) (_:Wrap b) (_:Wrap Q):Prop:=awp P (.loop b) Q σ
def lpX (P:Program) (b:Code) (Q:AE→St→Prop) (σ:St):Prop:=∃σ1,Wk σ σ1∧awp P (.loop b) Q σ1
def lpY (P:Program) (b:Code) (Q:AE→St→Prop) (σ:St) (_:Wrap b) (_:Wrap Q) (_:Wrap σ):Prop:=∃σ1,Wk σ σ1∧awp P (.loop b) Q σ1
@[go_sem ↓] theorem bR {b}:lpX P b Q σ=lpY P b Q σ ⟨⟩ ⟨⟩ ⟨⟩:=rfl
theorem QO {b} {w1} {w2} {w3} {σ1} (h:awp P (.loop b) Q σ1) (hw:Wk σ σ1):lpY P b Q σ w1 w2 w3:=⟨σ1,hw,h⟩
theorem A3 {b} {w1} {w2} (h:awp P b (AE.then (lpX P b Q) Q) σ):OO P b Q σ w1 w2:=OM h
@[go_sem ↓] theorem XM {b}:awp P (.loop b) Q σ=OO P b Q σ ⟨⟩ ⟨⟩:=rfl
@[go_sem ↓] theorem WF {id i}:AE.inBlock id Q (.exit i) σ=HE (decide (i=id)) (Q .normal σ) (Q (.exit i) σ):=by
 simp only [AE.inBlock,HE]
 by_cases h:i=id <;> simp [h]
attribute [go_sem] decide_true decide_false
def opX (P:Program) (pos:Nat) (dst:Option Tmp) (op:Op) (σ:St) (K:St→Prop):Prop:=aop P pos ⟨dst,op,0, "",#[],none⟩ σ K
def opL (P:Program) (L:Bool) (pos:Nat) (dst:Option Tmp) (op:Op) (σ:St) (K:St→Prop) (_:Wrap L):Prop:=Jw P L pos ⟨dst,op,0, "",#[],none⟩ σ K
theorem OP {L} {pos} {o}:Jw P L pos o σ K=opL P L pos o.dst o.op σ K ⟨⟩:=by
 obtain⟨dst,op,type,ps,after,guard⟩:=o
 rfl
@[go_sem] theorem cO {ops} {base cut i} {w1} {w2} {w3} {w4}:Fn P ops base cut i [] σ K w1 w2 w3 w4=K σ:=by rw [Fn,aops]
@[go_sem] theorem bS {ops} {base cut i} {dst} {op} {type} {ps} {after} {rest} {w1} {w2} {w3} {w4}:
  Fn P ops base cut i (⟨dst,op,type,ps,after,none⟩::rest) σ K w1 w2 w3 w4=opL P (decide (cut≤i)) (base+i) dst op σ (fun σ'=>aops P ops base cut (i+1) rest σ' K) ⟨⟩:=by
 rw [Fn,aops]; simp only [OP]
def E1 (ops:Array Oper) (j:Nat) (K:Tmp→Prop):Prop:=optX (E0 ops j) K
@[go_sem ↓] theorem Pa {dst} {op} {type} {ps} {after} {g} {rest} {K}:E1 (List.toArray (⟨some dst,op,type,ps,after,g⟩::rest)) 0 K=K dst:=by
 simp [E1,E0,optX]
@[go_sem ↓] theorem Pb {o} {rest} {j} {K}:E1 (List.toArray (o::rest)) (j+1) K=E1 rest.toArray j K:=by
 simp [E1,E0]
def HF (v:AV) (want:Bool) (p q q':Prop):Prop:=(∃b,v= .bool b∧(b=want→p)∧(b= !want→q))∨(v= .tup [] ∧q')
@[go_sem ↓] theorem OQ {b} {p q q':Prop}:HF (.bool b) true p q q'=LL b p q:=by simp [HF,LL]
@[go_sem ↓] theorem M9 {b} {p q q':Prop}:HF (.bool b) false p q q'=LL b q p:=by
 simp only [HF,LL,AV.bool.injEq,exists_eq_left',Bool.not_false,reduceCtorEq,false_and,or_false]
 exact propext And.comm
@[go_sem ↓] theorem RI {want} {p q q':Prop}:HF (.tup []) want p q q'=q':=by simp [HF]
@[go_sem] theorem Zt {ops} {base cut i} {dst} {op} {type} {ps} {after} {j} {want} {rest} {w1} {w2} {w3} {w4}:
  Fn P ops base cut i (⟨dst,op,type,ps,after,some (j,want)⟩::rest) σ K w1 w2 w3 w4=E1 ops j fun s=>AY (σ.g s) fun v=>HF v want
   (opL P (decide (cut≤i)) (base+i) dst op (σ.put (some s) (.bool want)) (fun σ'=>aops P ops base cut (i+1) rest σ' K) ⟨⟩)
   (aops P ops base cut (i+1) rest ((σ.put (some s) (.bool (!want))).put dst (.tup [])) K)
   (aops P ops base cut (i+1) rest (σ.put dst (.tup [])) K):=by
 rw [Fn,aops]
 simp only [OP,E1,optX,HF,AY]
section
variable {L:Bool} {pos:Nat} {dst:Option Tmp} {wL:Wrap L}
theorem Bs {op} (h:∀ (σ:St) (K:St→Prop),Gw P ⟨dst,op,0, "",#[],none⟩ σ K=False) (hA:Kd ⟨dst,op,0, "",#[],none⟩=false:=by rfl) (hS:SliK P pos ⟨dst,op,0, "",#[],none⟩ σ K=False:=by rfl):opL P L pos dst op σ K wL=opX P pos dst op σ K:=by
 unfold opL Jw opX
 rw [h,hA,hS]; simp
@[go_sem ↓] theorem YR {x}:opL P L pos dst (.move x) σ K wL=opX P pos dst (.move x) σ K:=Bs fun _ _=>rfl
@[go_sem ↓] theorem WG {x}:opL P L pos dst (.assign x) σ K wL=opX P pos dst (.assign x) σ K:=Bs fun _ _=>rfl
@[go_sem ↓] theorem YS {a b c}:opL P L pos dst (.pick c a b) σ K wL=opX P pos dst (.pick c a b) σ K:=Bs fun _ _=>rfl
@[go_sem ↓] theorem YT {t} {a}:opL P L pos dst (.load t a) σ K wL=opX P pos dst (.load t a) σ K:=Bs fun _ _=>rfl
@[go_sem ↓] theorem T1 {x}:opL P L pos dst (.nilCheck x) σ K wL=opX P pos dst (.nilCheck x) σ K:=Bs fun _ _=>rfl
@[go_sem ↓] theorem Zu {op} {t t'} {x y}:opL P L pos dst (.binOp op t x y t') σ K wL=opX P pos dst (.binOp op t x y t') σ K:=Bs fun _ _=>rfl
@[go_sem ↓] theorem bT {op} {t} {x}:opL P L pos dst (.unOp op t x) σ K wL=opX P pos dst (.unOp op t x) σ K:=Bs fun _ _=>rfl
@[go_sem ↓] theorem Vg {s d} {x}:opL P L pos dst (.convert s d x) σ K wL=opX P pos dst (.convert s d x) σ K:=Bs fun _ _=>rfl
@[go_sem ↓] theorem Tg {s} {x} {f}:opL P L pos dst (.fieldAddr s x f) σ K wL=opX P pos dst (.fieldAddr s x f) σ K:=Bs fun _ _=>rfl
@[go_sem ↓] theorem XN {s} {x} {f}:opL P L pos dst (.field s x f) σ K wL=opX P pos dst (.field s x f) σ K:=Bs fun _ _=>rfl
@[go_sem ↓] theorem Th {t} {x i}:opL P L pos dst (.indexAddr t x i) σ K wL=opX P pos dst (.indexAddr t x i) σ K:=Bs fun _ _=>rfl
@[go_sem ↓] theorem XO {t} {x i}:opL P L pos dst (.index t x i) σ K wL=opX P pos dst (.index t x i) σ K:=Bs fun _ _=>rfl
def Pc (P:Program) (L:Bool) (pos:Nat) (dst:Option Tmp) (op:Op) (v:AV) (σ:St) (K:St→Prop):Prop:=opX P pos dst op σ K∨(L=true∧(match v with| .own _=>True|_=>False)∧SliK P pos ⟨dst,op,0, "",#[],none⟩ σ K)
def SY (P:Program) (L:Bool) (pos:Nat) (dst:Option Tmp) (op:Op) (v:AV) (σ:St) (K:St→Prop) (_:Wrap σ) (_:Wrap K) (_:Wrap op):Prop:=Pc P L pos dst op v σ K
@[go_sem ↓] theorem Zv {op} {v}:Pc P L pos dst op v σ K=SY P L pos dst op v σ K ⟨⟩ ⟨⟩ ⟨⟩:=rfl
@[go_sem] theorem Zw {op} {rows} {w1 w2 w3}:SY P L pos dst op (.ro rows) σ K w1 w2 w3=opX P pos dst op σ K:=by simp [SY,Pc]
@[go_sem] theorem YU {op} {s} {w1 w2 w3}:SY P L pos dst op (.str s) σ K w1 w2 w3=opX P pos dst op σ K:=by simp [SY,Pc]
theorem RJ {t} {x} {l h m}:opL P L pos dst (.slice t x l h m) σ K wL=Pc P L pos dst (.slice t x l h m) (σ.e x) σ K:=by
 have h1:Gw P ⟨dst,.slice t x l h m,0, "",#[],none⟩ σ K=False:=rfl
 have h2:Kd ⟨dst,.slice t x l h m,0, "",#[],none⟩=false:=rfl
 have h3:SliK P pos ⟨dst,.slice t x l h m,0, "",#[],none⟩ σ K=((match σ.e x with| .own _=>True|_=>False)∧SliK P pos ⟨dst,.slice t x l h m,0, "",#[],none⟩ σ K):=by
  unfold SliK
  cases m with
  |some m=>simp
  |none=>
   simp only
   generalize σ.e x=v
   cases v <;> simp
 unfold opL Jw Pc opX
 rw [h1,h2]
 refine propext ⟨?_,?_⟩
 ·rintro (⟨-,h⟩|⟨hL,h|h⟩|⟨-,h,-⟩)
  ·exact .inl h
  ·exact h.elim
  ·rw [h3] at h; exact .inr ⟨hL,h⟩
  ·cases h
 ·rintro (h|⟨hL,-,h⟩)
  ·exact .inl ⟨.inr rfl,h⟩
  ·exact .inr (.inl ⟨hL,.inr h⟩)
@[go_sem ↓] theorem WH {t} {x} {l h m}:opL P L pos dst (.slice t x l h m) σ K wL=AY (σ.e x) fun v=>Pc P L pos dst (.slice t x l h m) v σ K:=RJ
@[go_sem ↓] theorem Vh {x} {i}:opL P L pos dst (.extract x i) σ K wL=opX P pos dst (.extract x i) σ K:=Bs fun _ _=>rfl
@[go_sem ↓] theorem T2 {c} {a b}:opL P L pos dst (.makeFunc c a b) σ K wL=opX P pos dst (.makeFunc c a b) σ K:=Bs fun _ _=>rfl
@[go_sem ↓] theorem Zx {t} {x}:opL P L pos dst (.box t x) σ K wL=opX P pos dst (.box t x) σ K:=Bs fun _ _=>rfl
@[go_sem ↓] theorem XP {t}:opL P L pos dst (.alloc t) σ K wL=opX P pos dst (.alloc t) σ K:=Bs fun _ _=>rfl
@[go_sem ↓] theorem XQ {t} {ps}:opL P L pos dst (.build t ps) σ K wL=opX P pos dst (.build t ps) σ K:=Bs fun _ _=>rfl
@[go_sem ↓] theorem SZ {t} {n} {ps}:opL P L pos dst (.buildSlice t n ps) σ K wL=opX P pos dst (.buildSlice t n ps) σ K:=Bs fun _ _=>rfl
@[go_sem ↓] theorem Ti {t} {l c}:opL P L pos dst (.makeSlice t l c) σ K wL=opX P pos dst (.makeSlice t l c) σ K:=Bs fun _ _=>rfl
@[go_sem ↓] theorem Vi {t} {r}:opL P L pos dst (.makeMap t r) σ K wL=opX P pos dst (.makeMap t r) σ K:=Bs fun _ _=>rfl
@[go_sem ↓] theorem WI {t} {x i} {ok}:opL P L pos dst (.lookup t x i ok) σ K wL=opX P pos dst (.lookup t x i ok) σ K:=Bs fun _ _=>rfl
@[go_sem ↓] theorem Tj {t} {m i x}:opL P L pos dst (.mapUpdate t m i x) σ K wL=opX P pos dst (.mapUpdate t m i x) σ K:=Bs fun _ _=>rfl
@[go_sem ↓] theorem XR {t} {a x}:opL P L pos dst (.store t a x) σ K wL=opX P pos dst (.store t a x) σ K:=Bs fun _ _=>rfl
@[go_sem ↓] theorem Zy {as} {ts}:opL P L pos dst (.call ⟨.builtin .len,as,ts⟩) σ K wL=opX P pos dst (.call ⟨.builtin .len,as,ts⟩) σ K:=Bs fun _ _=>rfl
@[go_sem ↓] theorem Zz {as} {ts}:opL P L pos dst (.call ⟨.builtin .max,as,ts⟩) σ K wL=opX P pos dst (.call ⟨.builtin .max,as,ts⟩) σ K:=Bs fun _ _=>rfl
@[go_sem ↓] theorem Z0 {as} {ts}:opL P L pos dst (.call ⟨.builtin .min,as,ts⟩) σ K wL=opX P pos dst (.call ⟨.builtin .min,as,ts⟩) σ K:=Bs fun _ _=>rfl
def opE (P:Program) (pos:Nat) (dst:Option Tmp) (op:Op) (σ:St) (K:St→Prop):Prop:=∃r,Ev P pos ⟨dst,op,0, "",#[],none⟩ σ.e σ.T σ.B r∧B1 σ r.t∧Cv σ r.b∧K (σ.add dst r)
def RK (L:Bool) (p q:Prop) (_:Wrap p) (_:Wrap q):Prop:=(L=true∧p)∨(L=false∧q)
@[go_sem] theorem XS {p q:Prop} {w1} {w2}:RK true p q w1 w2=p:=by simp [RK]
@[go_sem] theorem WJ {p q:Prop} {w1} {w2}:RK false p q w1 w2=q:=by simp [RK]
@[go_sem ↓] theorem WK {as} {ts}:opL P L pos dst (.call ⟨.builtin .append,as,ts⟩) σ K wL=RK L (opX P pos dst (.call ⟨.builtin .append,as,ts⟩) σ K) (opE P pos dst (.call ⟨.builtin .append,as,ts⟩) σ K) ⟨⟩ ⟨⟩:=by
 have h1:Gw P ⟨dst,.call ⟨.builtin .append,as,ts⟩,0, "",#[],none⟩ σ K=False:=rfl
 have h2:Kd ⟨dst,.call ⟨.builtin .append,as,ts⟩,0, "",#[],none⟩=true:=rfl
 have h3:SliK P pos ⟨dst,.call ⟨.builtin .append,as,ts⟩,0, "",#[],none⟩ σ K=False:=rfl
 unfold opL Jw opX RK opE
 rw [h1,h2,h3]
 simp
end
attribute [go_sem] Bool.not_true Bool.not_false Nat.zero_le
theorem D7 {pos:Nat} {dst:Option Tmp} {op:Op} (h:∀K',aop P pos ⟨dst,op,0, "",#[],none⟩ σ K'=∃r,Ev P pos ⟨dst,op,0, "",#[],none⟩ σ.e σ.T σ.B r∧B1 σ r.t∧Cv σ r.b∧K' (σ.add dst r)) {p:AV→Prop} (hp:∀r,Ev P pos ⟨dst,op,0, "",#[],none⟩ σ.e σ.T σ.B r=∃v,p v∧r=⟨v,[],[]⟩):
  opX P pos dst op σ K=∃v,p v∧K (σ.put dst v):=by
 unfold opX
 rw [h]
 refine propext ⟨?_,?_⟩
 ·rintro ⟨r,h1,h2,h3,h4⟩
  rw [hp] at h1
  obtain⟨v,h5,rfl⟩:=h1
  exact⟨v,h5,by cases dst <;> exact h4⟩
 ·rintro ⟨v,h5,h4⟩
  exact⟨⟨v,[],[]⟩,by rw [hp]; exact⟨v,h5,rfl⟩,trivial,trivial,by cases dst <;> exact h4⟩
@[go_sem ↓] theorem bU {pos:Nat} {dst:Option Tmp} {x:Operand}:opX P pos dst (.move x) σ K=AY (σ.e x) fun v=>K (σ.put dst v):=by
 rw [D7 (p:=fun v=>v=σ.e x) (fun _=>by simp only [aop]) (fun r=>by simp [Ev])]
 simp [AY]
@[go_sem ↓] theorem YV {pos:Nat} {dst:Option Tmp} {x:Operand}:opX P pos dst (.assign x) σ K=AY (σ.e x) fun v=>K (σ.put dst v):=by
 rw [D7 (p:=fun v=>v=σ.e x) (fun _=>by simp only [aop]) (fun r=>by simp [Ev])]
 simp [AY]
def LN (c a b:AV) (K:AV→Prop):Prop:=∃t,c= .bool t∧K (if t=true then a else b)
@[go_sem] theorem Pd {a b} {K}:LN (.bool true) a b K=K a:=by simp [LN]
@[go_sem] theorem OR {a b} {K}:LN (.bool false) a b K=K b:=by simp [LN]
theorem WL {pos:Nat} {dst:Option Tmp} {c a b:Operand}:opX P pos dst (.pick c a b) σ K=LN (σ.e c) (σ.e a) (σ.e b) fun v=>K (σ.put dst v):=by
 rw [D7 (p:=fun v=>∃t,σ.e c= .bool t∧v=if t=true then σ.e a else σ.e b) (fun _=>by simp only [aop]) (fun r=>by
  simp only [Ev]
  refine propext ⟨?_,?_⟩
  ·rintro ⟨t,h,rfl⟩; exact⟨_,⟨t,h,rfl⟩,rfl⟩
  ·rintro ⟨v,⟨t,h,rfl⟩,rfl⟩; exact⟨t,h,rfl⟩)]
 simp only [LN]
 refine propext ⟨?_,?_⟩
 ·rintro ⟨v,⟨t,h,rfl⟩,hk⟩; exact⟨t,h,hk⟩
 ·rintro ⟨t,h,hk⟩; exact⟨_,⟨t,h,rfl⟩,hk⟩
def HG (P:Program) (t:TypeId) (a:AV) (σ:St) (K:AV→Prop):Prop:=∃v,FI P σ.T σ.B t a v∧K v
def ldX (P:Program) (t:TypeId) (off:Nat) (vs:List AV) (K:AV→Prop):Prop:=
 HE (ti P t).isAgg (AJ (off+tsz P t≤vs.length) (AY (.agg (Dm vs off (tsz P t))) K)) (AJ ((ti P t).sc =true) (optX vs[off]? K))
theorem WM {pos:Nat} {dst:Option Tmp} {t:TypeId} {a:Operand}:opX P pos dst (.load t a) σ K=HG P t (σ.e a) σ fun v=>K (σ.put dst v):=
 D7 (p:=fun v=>FI P σ.T σ.B t (σ.e a) v) (fun _=>by simp only [aop]) (fun r=>by simp only [Ev])
@[go_sem] theorem RL {t} {b off} {K}:HG P t (.box b off) σ K=optX (σ.B b) fun vs=>AJ (isMp vs=false) (ldX P t off vs K):=by
 simp only [HG,FI,optX,ldX,HE,AJ,AY]
 by_cases h:(ti P t).isAgg =true
 ·simp only [h,if_true]
  refine propext ⟨?_,?_⟩
  ·rintro ⟨v,⟨vs,h1,hm,h2,rfl⟩,hk⟩; exact⟨vs,h1,hm,.inl ⟨trivial,h2,hk⟩⟩
  ·rintro ⟨vs,h1,hm,(⟨-,h2,hk⟩|⟨hh,-⟩)⟩
   ·exact⟨_,⟨vs,h1,hm,h2,rfl⟩,hk⟩
   ·cases hh
 ·have h':(ti P t).isAgg =false:=by simpa using h
  simp only [h',Bool.false_eq_true,if_false]
  refine propext ⟨?_,?_⟩
  ·rintro ⟨v,⟨vs,h1,hm,h2,h3⟩,hk⟩; exact⟨vs,h1,hm,.inr ⟨trivial,h2,v,h3,hk⟩⟩
  ·rintro ⟨vs,h1,hm,(⟨hh,-⟩|⟨-,h2,v,h3,hk⟩)⟩
   ·exact hh.elim
   ·exact⟨v,⟨vs,h1,hm,h2,h3⟩,hk⟩
@[go_sem] theorem RM {t} {vs} {off} {K}:HG P t (.rop vs off) σ K=ldX P t off vs K:=by
 simp only [HG,FI,optX,ldX,HE,AJ,AY]
 by_cases h:(ti P t).isAgg =true
 ·simp only [h,if_true]
  refine propext ⟨?_,?_⟩
  ·rintro ⟨v,⟨h2,rfl⟩,hk⟩; exact .inl ⟨trivial,h2,hk⟩
  ·rintro (⟨-,h2,hk⟩|⟨hh,-⟩)
   ·exact⟨_,⟨h2,rfl⟩,hk⟩
   ·cases hh
 ·have h':(ti P t).isAgg =false:=by simpa using h
  simp only [h',Bool.false_eq_true,if_false]
  refine propext ⟨?_,?_⟩
  ·rintro ⟨v,⟨h2,h3⟩,hk⟩; exact .inr ⟨trivial,h2,v,h3,hk⟩
  ·rintro (⟨hh,-⟩|⟨-,h2,v,h3,hk⟩)
   ·exact hh.elim
   ·exact⟨v,⟨h2,h3⟩,hk⟩
@[go_sem] theorem RN {t} {t' sz i off} {K}:HG P t (.elt t' sz i off) σ K=
  optX (σ.T t') fun tk=>optX tk.rows[i]? fun row=>AJ (row.length=sz) (HE (ti P t).isAgg (AJ (off+tsz P t≤sz) (AY (.agg (Gr t' tk.gen [] sz i row off (tsz P t))) K)) (AJ ((ti P t).sc =true) (optX row[off]? fun d=>K (ofT t' tk.gen [] sz i off d)))):=by
 simp only [HG,FI,optX,HE,AJ,AY]
 by_cases h:(ti P t).isAgg =true
 ·simp only [h,if_true]
  refine propext ⟨?_,?_⟩
  ·rintro ⟨v,⟨tk,row,h1,h2,h3,h4,rfl⟩,hk⟩; exact⟨tk,h1,row,h2,h3,.inl ⟨trivial,h4,hk⟩⟩
  ·rintro ⟨tk,h1,row,h2,h3,(⟨-,h4,hk⟩|⟨hh,-⟩)⟩
   ·exact⟨_,⟨tk,row,h1,h2,h3,h4,rfl⟩,hk⟩
   ·cases hh
 ·have h':(ti P t).isAgg =false:=by simpa using h
  simp only [h',Bool.false_eq_true,if_false]
  refine propext ⟨?_,?_⟩
  ·rintro ⟨v,⟨tk,row,h1,h2,h3,h4,d,h5,rfl⟩,hk⟩; exact⟨tk,h1,row,h2,h3,.inr ⟨trivial,h4,d,h5,hk⟩⟩
  ·rintro ⟨tk,h1,row,h2,h3,(⟨hh,-⟩|⟨-,h4,d,h5,hk⟩)⟩
   ·exact hh.elim
   ·exact⟨_,⟨tk,row,h1,h2,h3,h4,d,h5,rfl⟩,hk⟩
@[go_sem] theorem RO {t} {t' g} {p} {sz i off} {K}:HG P t (.els t' g p sz i off) σ K=
  optX (subR σ.T t' g p) fun rows=>optX rows[i]? fun row=>AJ (row.length=sz) (HE (ti P t).isAgg (AJ (off+tsz P t≤sz) (AY (.agg (Gr t' g p sz i row off (tsz P t))) K)) (AJ ((ti P t).sc =true) (optX row[off]? fun d=>K (ofT t' g p sz i off d)))):=by
 simp only [HG,FI,optX,HE,AJ,AY]
 by_cases h:(ti P t).isAgg =true
 ·simp only [h,if_true]
  refine propext ⟨?_,?_⟩
  ·rintro ⟨v,⟨tk,row,h1,h2,h3,h4,rfl⟩,hk⟩; exact⟨tk,h1,row,h2,h3,.inl ⟨trivial,h4,hk⟩⟩
  ·rintro ⟨tk,h1,row,h2,h3,(⟨-,h4,hk⟩|⟨hh,-⟩)⟩
   ·exact⟨_,⟨tk,row,h1,h2,h3,h4,rfl⟩,hk⟩
   ·cases hh
 ·have h':(ti P t).isAgg =false:=by simpa using h
  simp only [h',Bool.false_eq_true,if_false]
  refine propext ⟨?_,?_⟩
  ·rintro ⟨v,⟨tk,row,h1,h2,h3,h4,d,h5,rfl⟩,hk⟩; exact⟨tk,h1,row,h2,h3,.inr ⟨trivial,h4,d,h5,hk⟩⟩
  ·rintro ⟨tk,h1,row,h2,h3,(⟨hh,-⟩|⟨-,h4,d,h5,hk⟩)⟩
   ·exact hh.elim
   ·exact⟨_,⟨tk,row,h1,h2,h3,h4,d,h5,rfl⟩,hk⟩
def WN (o:Option Tok) (g:Nat) (p:Pth):Option (List (List D)):=match o with
 |some tk=>if tk.gen=g then getP p tk.rows else none
 |none=>none
@[go_sem ↓] theorem Z1 {T} {t g} {p}:subR T t g p=WN (T t) g p:=rfl
@[go_sem] theorem XT {rows} {ap} {g} {q} {p}:WN (some ⟨rows,ap,g,q⟩) g p=getP p rows:=by simp [WN]
def Sa (o:Option Tok) (g:Nat) (p:Pth):Option (List (List D)):=match o with
 |some tk=>if tk.gen=g then (getP p tk.rows).map tk.er else none
 |none=>none
@[go_sem ↓] theorem Z2 {T} {t g} {p}:subE T t g p=Sa (T t) g p:=rfl
@[go_sem] theorem WO {rows} {ap} {g} {q} {p}:Sa (some ⟨rows,ap,g,q⟩) g p=(getP p rows).map (zer q):=by
 simp only [Sa,if_true]; rfl
@[go_sem] theorem XU {r}:zer false r=r:=rfl
@[go_sem] theorem YW {r}:zer true r=erR r:=rfl
@[go_sem] theorem cP {rows} {ap} {g} {q}:Tok.rd ⟨rows,ap,g,q⟩=zer q rows:=rfl
@[go_sem] theorem cQ {rows r} {ap} {g} {q}:Tok.er ⟨rows,ap,g,q⟩ r=zer q r:=rfl
@[go_sem] theorem XV {z} {rows} {ap} {g}:okZ z ⟨rows,ap,g,false⟩=true:=rfl
@[go_sem] theorem YX {q} {rows} {ap} {g}:okZ true ⟨rows,ap,g,q⟩=true:=by cases q <;> rfl
@[go_sem] theorem YY {q} {rows} {ap} {g}:okZ q ⟨rows,ap,g,q⟩=true:=by cases q <;> rfl
@[go_sem] theorem YZ {rows}:getP [] rows=some rows:=rfl
def WP (d:D) (K:List (List D)→Prop):Prop:=match d with| .sl r=>K r|_=>False
@[go_sem] theorem Z3 {r} {K}:WP (.sl r) K=K r:=rfl
@[go_sem ↓] theorem XW {sz i j} {p} {rows} {K}:optX (getP ((sz,i,j)::p) rows) K=optX rows[i]? fun row=>AJ (row.length=sz) (optX row[j]? fun d=>WP d fun r=>optX (getP p r) K):=by
 simp only [getP,optX,AJ]
 cases rows[i]? with
 |none=>simp
 | some row=>
  by_cases h:row.length=sz
  ·simp only [h,if_true,true_and,Option.some.injEq,exists_eq_left']
   cases row[j]? with
   |none=>simp
   |some d=>cases d <;> simp [WP]
  ·simp [h]
@[go_sem] theorem WQ {t g} {p} {sz i} {d} {ds} {off n}:Gr t g p sz i (d::ds) off n=Lq t g p sz i off (((d::ds).drop off).take n):=rfl
attribute [go_sem ↓] ldX
attribute [go_sem] Dm ofD KV ofS ofT Lq
end
attribute [go_sem ↓] PZ OQ M9 RI Pd OR RL RM RN RO
end Go.Proofs.Ytijdanbelnmmlaa.Ab
