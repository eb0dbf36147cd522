/- The abstract walk as a set of rules for 'simp only [go_sem]'. -/
import Derived.Test.YthenkmapmnkelaaGreatDoorAbS
namespace Go.Proofs.YthenkmapmnkelaaGreatDoor.Ab
set_option linter.unusedVariables false
set_option maxHeartbeats 1000000
open Go.RowKit
section
variable {P:Program}
theorem Er {z}:∀ {vs} {σ} {K K'},(∀j σ,K j σ→K' j σ)→BR z vs σ K→BR z vs σ K'
 | [],σ,K,K',hk,h=>by rw [BR] at h ⊢; grind
 | .int k n::vs,σ,K,K',hk,h=>by rw [BR] at h ⊢; exact Er (fun j σ=>hk _ σ) h
 | .bool b::vs,σ,K,K',hk,h=>by rw [BR] at h ⊢; exact Er (fun j σ=>hk _ σ) h
 | .str b::vs,σ,K,K',hk,h=>by rw [BR] at h ⊢; exact Er (fun j σ=>hk _ σ) h
 | .nils ::vs,σ,K,K',hk,h=>by rw [BR] at h ⊢; exact Er (fun j σ=>hk _ σ) h
 | .nilp ::vs,σ,K,K',hk,h=>by rw [BR] at h ⊢; exact Er (fun j σ=>hk _ σ) h
 | .ro _::vs,σ,K,K',hk,h=>by rw [BR] at h ⊢; exact⟨h.1,Er (fun j σ=>hk _ σ) h.2⟩
 | .rop _ _::vs,σ,K,K',hk,h=>by rw [BR] at h ⊢; obtain⟨h1,d,h2,h3⟩:=h; exact⟨h1,d,h2,Er (fun j σ=>hk _ σ) h3⟩
 | .bsl _ _ _::vs,σ,K,K',hk,h=>by
  rw [BR] at h ⊢
  split at h
  ·rename_i p
   rw [if_pos p]
   exact Er (fun j σ=>hk _ σ) h
  ·rename_i p
   rw [if_neg p]
   obtain⟨h1,h2,q,h3,j,C,u,v⟩:=h
   exact⟨h1,h2,q,h3,j,C,u,Er (fun j σ=>hk _ σ) v⟩
 | .own t::vs,σ,K,K',hk,h=>by rw [BR] at h ⊢; obtain⟨tk,h1,h2,h3⟩:=h; exact⟨tk,h1,h2,Er (fun j σ=>hk _ σ) h3⟩
 | .sub _ _ _::vs,σ,K,K',hk,h=>by grind [BR]
 | .els _ _ _ _ _ _::vs,σ,K,K',hk,h=>by grind [BR]
 | .any ::vs,σ,K,K',hk,h=>by grind [BR]
 | .box _ _::vs,σ,K,K',hk,h=>by grind [BR]
 | .elt _ _ _ _::vs,σ,K,K',hk,h=>by grind [BR]
 | .par _ _ _ _::vs,σ,K,K',hk,h=>by grind [BR]
 | .agg _::vs,σ,K,K',hk,h=>by grind [BR]
 | .tup _::vs,σ,K,K',hk,h=>by grind [BR]
 | .fn _ _::vs,σ,K,K',hk,h=>by grind [BR]
 | .mpr _::vs,σ,K,K',hk,h=>by grind [BR]
 | .mpc _ _::vs,σ,K,K',hk,h=>by grind [BR]
theorem aF {t} {a x} {σ} {K K'} (hk:∀σ,K σ→K' σ) (h:OE P t a x σ K):OE P t a x σ K':=by
 unfold OE at h ⊢
 split at h
 ·obtain⟨h1,h2,h3,j⟩:=h
  refine⟨h1,h2,h3,?_⟩
  split at j
  ·grind
  ·grind [Er]
  ·grind [Er]
  omega
 omega
theorem dq {z} {e} {sz} {x} {σ} {K K'} (hk:∀r σ,K r σ→K' r σ) (h:TA z e sz x σ K):TA z e sz x σ K':=by
 unfold TA at h ⊢
 split at h
 ·grind
 ·split at h
  ·grind
  ·rename_i j
   rw [if_neg j]
   obtain⟨j,h1,h2,p,h3,q,C,u,v⟩:=h
   exact⟨j,h1,h2,p,h3,q,C,u,hk _ _ v⟩
 ·grind
 omega
theorem dr {z} {sz} {x} {σ} {K K'} (hk:∀r σ,K r σ→K' r σ) (h:OF z sz x σ K):OF z sz x σ K':=by
 unfold OF at h ⊢
 split at h
 ·grind
 ·grind [Er]
 ·grind
 ·grind
 omega
theorem dt {pos} {t} {x y} {σ} {K K'} (hk:∀v σ,K v σ→K' v σ) (h:Zl P pos t x y σ K):Zl P pos t x y σ K':=by
 unfold Zl at h ⊢
 split at h
 ·grind [dq,dr]
 omega
theorem V6 {t} {m i x} {σ} {K K'} (hk:∀σ,K σ→K' σ) (h:Wb P t m i x σ K):Wb P t m i x σ K':=by
 unfold Wb at h ⊢
 grind
theorem Ya {pos} {o} {σ} {K K'} (hk:∀σ,K σ→K' σ) (h:aop P pos o σ K):aop P pos o σ K':=by
 unfold aop at h ⊢
 split at h
 ·grind
 ·grind
 ·grind [aF]
 ·grind [V6]
 ·grind [V6]
 ·grind [dt]
 grind
theorem JI {K K'} (hk:∀σ,K σ→K' σ):∀ {cv} {σ},CT cv σ K→CT cv σ K'
 | [],σ,h=>by rw [CT] at h ⊢; grind
 | (n,a,z)::cv,σ,h=>by
  cases a with
  |sub t g p=>
   rw [CT] at h ⊢
   obtain⟨h1,h2,h3,tk,j,F,u,v,q,C⟩:=h
   exact⟨h1,h2,h3,tk,j,F,u,v,q,JI hk C⟩
  |nils=>rw [CT] at h ⊢; exact⟨h.1,JI hk h.2⟩
  |bsl b m sz=>rw [CT] at h ⊢; exact⟨h.1,h.2.1,JI hk h.2.2⟩
  |_=>simp [CT] at h
theorem LY:∀ {cv} {σ} {K K'},(∀σ,K σ→K' σ)→Bk cv σ K→Bk cv σ K'
 | [],σ,K,K',hk,h=>by rw [Bk] at h ⊢; grind
 | (n,a,z)::cv,σ,K,K',hk,h=>by
  cases a with
  | sub t g p=>
   rw [Bk] at h ⊢
   refine LY (fun σ h=>?_) h
   cases hn:σ.T n with
   |none=>simp only [hn] at h ⊢; exact hk _ h
   |some tn=>
    simp only [hn] at h ⊢
    obtain⟨tk,h1,h2,h3,j⟩:=h
    exact⟨tk,h1,h2,h3,hk _ j⟩
  |_=>
   rw [Bk] at h ⊢
   ·exact LY (fun σ h=>hk _ h) h
   all_goals (intros; simp_all)
theorem aG {f} {args} {σ} {K K'} (hk:∀v σ,K v σ→K' v σ) (h:VV P f args σ K):VV P f args σ K':=by
 obtain⟨y,as,pt,pb,r,p,j,h1,h2⟩:=h
 exact⟨y,as,pt,pb,r,p,j,h1,JI (fun σ h=>⟨h.1,h.2.1,h.2.2.1,h.2.2.2.1,h.2.2.2.2.1,h.2.2.2.2.2.1,h.2.2.2.2.2.2.1,h.2.2.2.2.2.2.2.1,LY (fun σ h=>hk _ _ h) h.2.2.2.2.2.2.2.2⟩) h2⟩
theorem Ty {K K'} (hk:∀a σ,K a σ→K' a σ):∀ {bs} {args} {σ},FzK bs args σ K→FzK bs args σ K'
 | [],args,σ,h=>hk _ _ h
 |b::bs,args,σ,h=>by
  obtain⟨vs,h1,h2,h3⟩:=h
  exact⟨vs,h1,h2,Ty hk h3⟩
theorem aH {f} {args} {σ} {K K'} (hk:∀v σ,K v σ→K' v σ) (h:bT P f args σ K):bT P f args σ K':=by
 obtain⟨bs,h⟩:=h
 exact⟨bs,Ty (fun _ _ h=>aG hk h) h⟩
theorem V7 {L} {pos} {o} {σ} {K K'} (hk:∀σ,K σ→K' σ) (h:TG P L pos o σ K):TG P L pos o σ K':=by
 rcases h with ⟨hA,h⟩|⟨hL,h⟩|⟨hL,hA,r,h1,h2,h3,h4⟩
 ·exact .inl ⟨hA,Ya hk h⟩
 ·refine .inr (.inl ⟨hL,?_⟩)
  rcases h with h|h|⟨hs,σ1,hn,h⟩
  ·refine .inl ?_
   unfold MP at h ⊢
   split at h
   ·grind [aH]
   omega
  ·refine .inr (.inl ?_)
   unfold SliK at h ⊢
   split at h
   ·split at h
    ·grind
    omega
   omega
  ·exact .inr (.inr ⟨hs,σ1,hn,Ya hk h⟩)
 ·exact .inr (.inr ⟨hL,hA,r,h1,h2,h3,hk _ h4⟩)
theorem Hq {ops} {base cut} {K K'} (hk:∀σ,K σ→K' σ):∀ {l} {i} {σ},aops P ops base cut i l σ K→aops P ops base cut i l σ K'
 | [],i,σ,h=>by rw [aops] at h ⊢; grind
 | o::rest,i,σ,h=>by
  rw [aops] at h ⊢
  split at h
  ·exact V7 (fun σ h=>Hq hk h) h
  ·obtain⟨s,h1,h⟩:=h
   refine⟨s,h1,?_⟩
   rcases h with ⟨b,h2,h3,h4⟩|⟨h2,h3⟩
   ·exact .inl ⟨b,h2,fun j=>V7 (fun σ h=>Hq hk h) (h3 j),fun j=>Hq hk (h4 j)⟩
   ·exact .inr ⟨h2,Hq hk h3⟩
theorem du {p} {K K'} (hk:∀σ,K σ→K' σ) {σ} (h:seqW p K σ):seqW p K' σ:=by
 unfold seqW at h ⊢
 grind
theorem Pi {P} {ops} {base} {ts}:∀ (tr:Tr) {σ} {K K'},(∀σ,K σ→K' σ)→aTr P ops base ts tr σ K→aTr P ops base ts tr σ K'
 | .fin,σ,K,K',hk,h=>hk σ h
 | .stop,σ,K,K',hk,h=>trivial
 | .fz t,σ,K,K',hk,h=>by
  simp only [aTr] at h ⊢
  obtain⟨σ1,j,h⟩:=h
  exact⟨σ1,j,Pi t hk h⟩
 | .br i t more,σ,K,K',hk,h=>by
  simp only [aTr] at h ⊢
  refine⟨?_,Pi more hk h.2⟩
  have h1:=h.1
  split at h1
  ·exact Hq (fun σ' h=>Pi t hk h) h1
  ·exact h1.elim
theorem Tz {P} {ops} {base} {r} {i} {o} {acc} {σ} {K K'} (hk:∀acc σ,K acc σ→K' acc σ) (h:MQ P ops base r i o acc σ K):MQ P ops base r i o acc σ K':=by
 unfold MQ at h ⊢
 cases r with
 |no=>grind [Hq]
 |al=>
  grind
 |st k=>
  grind
theorem LZ {P} {ops} {base} {V}:∀ (l:List Oper) {E} {i} {ts} {acc} {σ} {K K'},(∀ts acc σ,K ts acc σ→K' ts acc σ)→FS P ops base V E i l ts acc σ K→FS P ops base V E i l ts acc σ K'
 | [],E,i,ts,acc,σ,K,K',hk,h=>by grind [FS]
 |o::l,[],i,ts,acc,σ,K,K',hk,h=>by simp only [FS] at h ⊢; exact Tz (fun acc σ' h=>LZ l hk h) h
 |o::l,true::E,i,ts,acc,σ,K,K',hk,h=>by simp only [FS] at h ⊢; exact LZ l hk h
 |o::l,false::E,i,ts,acc,σ,K,K',hk,h=>by simp only [FS] at h ⊢; exact Tz (fun acc σ' h=>LZ l hk h) h
theorem dv {P} {ops} {base} {draw} {σ} {K K'} (hk:∀σ,K σ→K' σ) (h:dD P ops base draw σ K):dD P ops base draw σ K':=by
 unfold dD at h ⊢
 cases draw with
 |false=>exact Hq hk h
 |true=>
  rcases h with ⟨E,V,tr,hE,h⟩|⟨F,ds,h1,h2,h3,h4⟩|h
  ·exact .inl ⟨E,V,tr,hE,LZ _ (fun ts acc σ h=>⟨h.1,Pi tr hk h.2⟩) h⟩
  ·exact .inr (.inl ⟨F,ds,h1,h2,h3,hk _ h4⟩)
  ·exact .inr (.inr fun cx N p a w j q hs=>wp_mono (h cx N p a w j q hs) fun e a' w' ⟨he,σ',hk',hs'⟩=>⟨he,σ',hk _ hk',hs'⟩)
theorem JJ:∀ {c} {Q Q'} {σ},(∀q σ,Q q σ→Q' q σ)→awp P c Q σ→awp P c Q' σ
 | .skip,Q,Q',σ,hq,h=>by rw [awp] at h ⊢; grind
 | .region id ops draw,Q,Q',σ,hq,h=>by rw [awp] at h ⊢; grind [dv]
 | .seq a b,Q,Q',σ,hq,h=>by
  rw [awp] at h ⊢
  refine JJ (fun q σ h=>?_) h
  cases q with
  |normal=>
   have p:seqW (I9 a) (awp P b Q) σ:=h
   exact du (K:=awp P b Q) (K':=awp P b Q') (fun σ h=>JJ hq h) p
  |exit id=>exact hq _ _ h
  |ret=>exact hq _ _ h
 | .cond c a b,Q,Q',σ,hq,h=>by
  rw [awp] at h ⊢
  obtain⟨v,h1,h2,h3⟩:=h
  exact⟨v,h1,fun e=>JJ hq (h2 e),fun e=>JJ hq (h3 e)⟩
 | .block id b,Q,Q',σ,hq,h=>by
  rw [awp] at h ⊢
  refine JJ (fun q σ h=>?_) h
  cases q with
  |normal=>exact hq _ _ h
  |exit i=>
   grind [AE.inBlock]
  |ret=>exact hq _ _ h
 | .loop b,Q,Q',σ,hq,h=>by
  rw [awp] at h ⊢
  intro L u
  refine h L fun σ j=>u σ (JJ (fun q σ h=>?_) j)
  cases q with
  |normal=>exact h
  |exit id=>exact hq _ _ h
  |ret=>exact hq _ _ h
 | .exit id,Q,Q',σ,hq,h=>by rw [awp] at h ⊢; grind
 | .ret,Q,Q',σ,hq,h=>by rw [awp] at h ⊢; grind
 | .rangeFunc _ _ _ _,Q,Q',σ,hq,h=>by simp [awp] at h
 | .goto _,Q,Q',σ,hq,h=>by simp [awp] at h
 | .label _,Q,Q',σ,hq,h=>by simp [awp] at h
theorem Yb {b} {Q} {σ} (h:awp P b (AE.then (fun σ'=>∃σ1,Wk σ' σ1∧awp P (.loop b) Q σ1) Q) σ):awp P (.loop b) Q σ:=by
 rw [awp]
 intro L j
 refine⟨σ,.nil σ,j σ (JJ (fun q σ h=>?_) h)⟩
 cases q with
 |normal=>
  obtain⟨σ1,h1,h2⟩:=h
  rw [awp] at h2
  obtain⟨σ0,h3,p⟩:=h2 L j
  exact⟨σ0,h1.trans h3,p⟩
 |exit id=>exact h
 |ret=>exact h
end
def Ax {α:Type} (v:α) (K:α→Prop):Prop:=K v
def optX {α:Type} (o:Option α) (K:α→Prop):Prop:=∃x,o=some x∧K x
def AN (p q:Prop):Prop:=p∧q
def Qw (b:Bool) (p q:Prop):Prop:=(b=true∧p)∨(b=false∧q)
def T0 (b:Bool) (p q:Prop):Prop:=(b=true→p)∧(b=false→q)
structure Wrap {α:Sort _} (a:α):Type where
def pi {α:Type} (v:α) (K:α→Prop) (_:Wrap K):Prop:=K v
def aI {α:Type} (o:Option α) (K:α→Prop) (_:Wrap K):Prop:=∃x,o=some x∧K x
def aJ (p q:Prop) (_:Wrap q):Prop:=p∧q
def Rs (b:Bool) (p q:Prop) (_:Wrap p) (_:Wrap q):Prop:=(b=true→p)∧(b=false→q)
def gO (b:Bool) (p q:Prop) (_:Wrap p) (_:Wrap q):Prop:=Qw b p q
@[go_sem ↓] theorem sK {α:Type} {v:α} {K:α→Prop}:Ax v K=pi v K ⟨⟩:=rfl
@[go_sem ↓] theorem sL {α:Type} {o:Option α} {K:α→Prop}:optX o K=aI o K ⟨⟩:=rfl
@[go_sem ↓] theorem sM {p q:Prop}:AN p q=aJ p q ⟨⟩:=rfl
@[go_sem ↓] theorem pj {b} {p q:Prop}:T0 b p q=Rs b p q ⟨⟩ ⟨⟩:=rfl
@[go_sem ↓] theorem sN {b} {p q:Prop}:Qw b p q=gO b p q ⟨⟩ ⟨⟩:=rfl
@[go_sem] theorem sO {α:Type} {v:α} {K:α→Prop} {w:Wrap K}:pi v K w=K v:=propext Iff.rfl
@[go_sem] theorem oO {α:Type} {x:α} {K:α→Prop} {w:Wrap K}:aI (some x) K w=K x:=by simp [aI]
@[go_sem] theorem oP {q:Prop} {w}:aJ True q w=q:=by simp [aJ]
@[go_sem] theorem vC {p:Prop} {w}:aJ p True w=p:=by simp [aJ]
@[go_sem] theorem mX {p q:Prop} {w} {w'}:Rs true p q w w'=p:=by simp [Rs]
@[go_sem] theorem ly {p q:Prop} {w} {w'}:Rs false p q w w'=q:=by simp [Rs]
@[go_sem] theorem oQ {p q:Prop} {w} {w'}:gO true p q w w'=p:=by simp [Qw,gO]
@[go_sem] theorem mY {p q:Prop} {w} {w'}:gO false p q w w'=q:=by simp [Qw,gO]
theorem Hr {α:Type} {x:α} {K:α→Prop}:optX (some x) K=K x:=by simp [optX]
theorem V8 {α:Type} {K:α→Prop}:optX none K=False:=by simp [optX]
theorem BH {p q:Prop} {w} (hp:p) (hq:q):aJ p q w:=⟨hp,hq⟩
theorem aK {b} {p q:Prop} {w} {w'} (hp:b=true→p) (hq:b=false→q):Rs b p q w w':=⟨hp,hq⟩
theorem AX {α:Type} {o:Option α} {x:α} {K:α→Prop} {w:Wrap K} (h:o=some x) (hk:K x):aI o K w:=⟨x,h,hk⟩
@[go_sem] theorem oR:isMp [] =false:=rfl
@[go_sem] theorem oS {a}:isMp [a] =a.mp?:=rfl
@[go_sem] theorem oU {a b} {l}:isMp (a::b::l)=false:=rfl
@[go_sem] theorem oV:PD [] =true:=rfl
@[go_sem] theorem mZ {a} {l}:PD (a::l)=(!a.mp?&&PD l):=rfl
@[go_sem] theorem vD:AV.mp? .any =false:=rfl
@[go_sem] theorem sP:AV.one .any =false:=rfl
@[go_sem] theorem vE {k} {n}:AV.mp? (.int k n)=false:=rfl
@[go_sem] theorem sQ {k} {n}:AV.one (.int k n)=true:=rfl
@[go_sem] theorem sR {b}:AV.mp? (.bool b)=false:=rfl
@[go_sem] theorem pk {b}:AV.one (.bool b)=true:=rfl
@[go_sem] theorem vF {s}:AV.mp? (.str s)=false:=rfl
@[go_sem] theorem sS {s}:AV.one (.str s)=true:=rfl
@[go_sem] theorem xl {r}:AV.mp? (.ro r)=false:=rfl
@[go_sem] theorem vG {r}:AV.one (.ro r)=true:=rfl
@[go_sem] theorem vH {t}:AV.mp? (.own t)=false:=rfl
@[go_sem] theorem sT {t}:AV.one (.own t)=true:=rfl
@[go_sem] theorem vI {b o}:AV.mp? (.box b o)=false:=rfl
@[go_sem] theorem sU {b o}:AV.one (.box b o)=true:=rfl
@[go_sem] theorem vJ {vs} {o}:AV.mp? (.rop vs o)=false:=rfl
@[go_sem] theorem sV {vs} {o}:AV.one (.rop vs o)=true:=rfl
@[go_sem] theorem vK {b n z}:AV.mp? (.bsl b n z)=false:=rfl
@[go_sem] theorem sW {b n z}:AV.one (.bsl b n z)=true:=rfl
@[go_sem] theorem vL {t z i o}:AV.mp? (.elt t z i o)=false:=rfl
@[go_sem] theorem sX {t z i o}:AV.one (.elt t z i o)=true:=rfl
@[go_sem] theorem vM {t g} {p}:AV.mp? (.sub t g p)=false:=rfl
@[go_sem] theorem sY {t g} {p}:AV.one (.sub t g p)=true:=rfl
@[go_sem] theorem vN {t g} {p} {z i o}:AV.mp? (.els t g p z i o)=false:=rfl
@[go_sem] theorem sZ {t g} {p} {z i o}:AV.one (.els t g p z i o)=true:=rfl
@[go_sem] theorem vO {t z i n}:AV.mp? (.par t z i n)=false:=rfl
@[go_sem] theorem sd {t z i n}:AV.one (.par t z i n)=true:=rfl
@[go_sem] theorem xm {f} {c}:AV.mp? (.fn f c)=false:=rfl
@[go_sem] theorem vP {f} {c}:AV.one (.fn f c)=true:=rfl
@[go_sem] theorem se:AV.mp? .nilp =false:=rfl
@[go_sem] theorem pm:AV.one .nilp =true:=rfl
@[go_sem] theorem sf:AV.mp? .nils =false:=rfl
@[go_sem] theorem po:AV.one .nils =true:=rfl
@[go_sem] theorem vQ {b}:AV.mp? (.mpr b)=false:=rfl
@[go_sem] theorem sg {b}:AV.one (.mpr b)=true:=rfl
@[go_sem] theorem vR {vs}:AV.mp? (.agg vs)=false:=rfl
@[go_sem] theorem si {vs}:AV.one (.agg vs)=false:=rfl
@[go_sem] theorem vS {vs}:AV.mp? (.tup vs)=false:=rfl
@[go_sem] theorem sj {vs}:AV.one (.tup vs)=false:=rfl
@[go_sem] theorem vT {q} {r}:AV.mp? (.mpc q r)=true:=rfl
@[go_sem] theorem sm {q} {r}:AV.one (.mpc q r)=false:=rfl
@[go_sem] theorem ma {α:Type} {j:Nat} {x:α} {l:List (Nat × α)} {i:Nat}:look ((j,x)::l) i=if i=j then some x else look l i:=rfl
@[go_sem] theorem pv {α:Type} {i}:look ([] :List (Nat × α)) i=none:=rfl
@[go_sem] theorem St.T_mk {s t b} {i}:St.T ⟨s,t,b⟩ i=(look t i).join :=rfl
@[go_sem] theorem St.B_mk {s t b} {i}:St.B ⟨s,t,b⟩ i=(look b i).join :=rfl
@[go_sem] theorem St.g_mk {s t b} {i}:St.g ⟨s,t,b⟩ i=(look s i).getD .any :=rfl
@[go_sem] theorem St.t_mk {s t b}:St.t ⟨s,t,b⟩=t:=rfl
@[go_sem] theorem St.b_mk {s t b}:St.b ⟨s,t,b⟩=b:=rfl
@[go_sem] theorem St.s_mk {s t b}:St.s ⟨s,t,b⟩=s:=rfl
@[go_sem] theorem St.e_tmp {σ:St} {t:Tmp}:σ.e (.tmp t)=σ.g t:=rfl
@[go_sem] theorem St.e_func {σ:St} {f:FuncId}:σ.e (.func f)= .fn f [] :=rfl
@[go_sem] theorem St.e_const {σ:St} {v:Value}:σ.e (.const v)=BW v:=rfl
@[go_sem] theorem sr {k} {n}:BW (.int k n)= .int k n:=rfl
@[go_sem] theorem pw {b}:BW (.bool b)= .bool b:=rfl
@[go_sem] theorem ss {s}:BW (.string s)= .str s:=rfl
@[go_sem] theorem pz:BW (.slice none 0 0)= .nils :=rfl
@[go_sem] theorem p4:BW (.pointer none)= .nilp :=rfl
@[go_sem] theorem su {cs}:BW (.agg cs.toArray)= .agg (H7 cs):=by rfl
@[go_sem] theorem p5:H7 [] =[] :=rfl
@[go_sem] theorem oW {v} {vs}:H7 (v::vs)=BW v::H7 vs:=rfl
@[go_sem] theorem p6 {s t b} {d} {v}:St.put ⟨s,t,b⟩ (some d) v=⟨(d,v)::s,t,b⟩:=rfl
@[go_sem] theorem p8 {σ} {v}:St.put σ none v=σ:=rfl
@[go_sem] theorem p9 {s t b} {i}:St.killT ⟨s,t,b⟩ i=⟨s,(i,none)::t,b⟩:=rfl
@[go_sem] theorem s4 {s t b} {i} {tk}:St.setT ⟨s,t,b⟩ i tk=⟨s,(i,some tk)::t,b⟩:=rfl
@[go_sem] theorem s5 {s t b} {i} {vs}:St.setB ⟨s,t,b⟩ i vs=⟨s,t,(i,some vs)::b⟩:=rfl
attribute [go_sem] Option.join_some Option.join_none Option.getD_some Option.getD_none reduceIte eq_self and_self true_and and_true
attribute [go_sem] List.getElem?_cons_zero List.getElem?_cons_succ List.length_cons List.length_nil List.take_succ_cons List.take_zero List.take_nil List.drop_succ_cons List.drop_zero List.map_cons List.map_nil List.set_cons_zero List.set_cons_succ List.cons_append List.nil_append Option.some.injEq reduceCtorEq TI.isAgg TI.sc splice List.all_cons List.all_nil Bool.and_self Bool.true_and Bool.and_true
def Mf (P:Program) (ops:Array Oper) (base cut i:Nat) (l:List Oper) (σ:St) (K:St→Prop) (_:Wrap ops) (_:Wrap l) (_:Wrap K) (_:Wrap cut):Prop:=aops P ops base cut i l σ K
@[go_sem ↓] theorem s6 {P} {ops} {base cut i} {l} {K} {σ}:aops P ops base cut i l σ K=Mf P ops base cut i l σ K ⟨⟩ ⟨⟩ ⟨⟩ ⟨⟩:=rfl
section
variable {P:Program} {σ:St} {K:St→Prop} {Q:AE→St→Prop}
@[go_sem ↓] theorem vU:awp P .skip Q σ=Q .normal σ:=by rw [awp]
@[go_sem ↓] theorem qA {id} {l}:awp P (.region id l.toArray false) Q σ=aops P l.toArray (id*1000+1000) 0 0 l σ (Q .normal):=by rw [awp]; rfl
def cG (P:Program) (id:Nat) (l:List Oper) (Q:AE→St→Prop) (σ:St) (_:Wrap l) (_:Wrap Q) (_:Wrap σ):Prop:=dD P l.toArray (id*1000+1000) true σ (Q .normal)
@[go_sem ↓] theorem vV {id} {l}:awp P (.region id l.toArray true) Q σ=cG P id l Q σ ⟨⟩ ⟨⟩ ⟨⟩:=by rw [awp]; rfl
theorem gP {id} {l} {w1} {w2} {w3} (E:List Bool) (V:List (Nat × Nat)) (tr:Tr) (h:LN E V tr l.toArray=true) (k:FS P l.toArray (id*1000+1000) V E 0 l [] [] σ fun ts acc σ'=>Zp acc σ' fun σ'=>aTr P l.toArray (id*1000+1000) ts tr σ' (Q .normal)):cG P id l Q σ w1 w2 w3:=.inl ⟨E,V,tr,h,k⟩
theorem AW {id} {l} {w1} {w2} {w3} (E:List Bool) (tr:Tr) (h:LN E [] tr l.toArray=true) (k:FS P l.toArray (id*1000+1000) [] E 0 l [] [] σ fun ts acc σ'=>Zp acc σ' fun σ'=>aTr P l.toArray (id*1000+1000) ts tr σ' (Q .normal)):cG P id l Q σ w1 w2 w3:=.inl ⟨E,[],tr,h,k⟩
def T3 (s:List (Nat × AV)) (t:Nat) (v:AV):Prop:=v= .any ∨look s t=some v
@[go_sem] theorem s7 {s}:leS s [] =True:=rfl
@[go_sem] theorem qB {s t v r}:leS s ((t,v)::r)=(T3 s t v∧leS s r):=rfl
@[go_sem] theorem s8 {s:List (Nat × AV)} {t:Nat} {b:Bool} {v:AV}:T3 s t (if b=true then v else .any)=(b=true→T3 s t v):=propext (by cases b <;> simp [T3])
def leO1 {α:Type} (s:List (Nat × Option α)) (t:Nat) (v:Option α):Prop:=v=none∨look s t=some v
@[go_sem] theorem s9 {α:Type} {s:List (Nat × Option α)}:leO s [] =True:=rfl
@[go_sem] theorem qC {α:Type} {s:List (Nat × Option α)} {t v r}:leO s ((t,v)::r)=(leO1 s t v∧leO s r):=rfl
@[go_sem] theorem mc {α:Type} {s:List (Nat × α)}:IV s [] =True:=rfl
@[go_sem] theorem lz {α:Type} {s:List (Nat × α)} {t v r}:IV s ((t,v)::r)=((look s t).isSome =true∧IV s r):=rfl
@[go_sem] theorem St.Le_mk {s t b s' t' b'}:St.Le ⟨s,t,b⟩ ⟨s',t',b'⟩=(leS s s'∧(leO t t'∧IV t' t)∧leO b b'∧IV b' b):=rfl
@[go_sem] theorem T4 {S}:Zq S [] =True:=rfl
@[go_sem] theorem Wr {S}:noS S [] =True:=rfl
@[go_sem] theorem T5 {S j r}:noS S (j::r)=(S j=false∧noS S r):=rfl
@[go_sem] theorem Qx {S j r}:Zq S (j::r)=(S j=true∧Zq S r):=rfl
def optK {α:Type} (b:Bool) (p:Nat × α) (r:List (Nat × α)):List (Nat × α):=if b=true then p::r else r
@[go_sem] theorem vW {α:Type} {p:Nat × α} {r}:optK true p r=p::r:=rfl
@[go_sem] theorem vX {α:Type} {p:Nat × α} {r}:optK false p r=r:=rfl
@[go_sem] theorem oX {α:Type} {b:Bool} {t:Nat} {v:α} {r} {x:Nat}:look (optK b (t,v) r) x=if x=t then (if b=true then some v else look r x) else look r x:=by
 grind [optK,AJ]
@[go_sem] theorem qD {α:Type} {s:List (Nat × Option α)} {b:Bool} {t:Nat} {v:Option α} {r}:leO s (optK b (t,v) r)=((b=true→leO1 s t v)∧leO s r):=by
 cases b <;> simp [optK,leO,leO1]
@[go_sem] theorem l0 {α:Type} {s:List (Nat × α)} {b:Bool} {t:Nat} {v:α} {r}:IV s (optK b (t,v) r)=((b=true→(look s t).isSome =true)∧IV s r):=by
 cases b <;> simp [optK,IV]
theorem gQ {ops:Array Oper} {base:Nat} {F:(Nat→Bool)→St} {i:Nat} {o:Oper} {os:List Oper} {d u:List Nat} {ds:List (List Nat × List Nat)} (h:(d.all fun j=>o.after.any fun e=>Region.binds .any e&&e.on == j)=true) (hu:(u.all fun j=>decide (j<ops.size)&&((deps ops.toList).getD j 0).testBit i)=true) (k:∀S:Nat→Bool,S i=false→Zq S d→noS S u→aops P ops base 0 i [o] (F S) fun σ'=>St.Le σ' (F fun j=>if j=i then true else S j))
  (r:Ih P ops base F (i+1) os ds):Ih P ops base F i (o::os) ((d,u)::ds):=⟨⟨⟨h,hu⟩,k⟩,r⟩
theorem qE {ops:Array Oper} {base:Nat} {F:(Nat→Bool)→St} {i:Nat} {ds:List (List Nat × List Nat)}:Ih P ops base F i [] ds:=trivial
theorem me {id} {l} {w1} {w2} {w3} (F:(Nat→Bool)→St) (ds:List (List Nat × List Nat)) (h:jT l=true) (h1:St.Le σ (F fun j=>decide (l.length≤j))) (h2:Ih P l.toArray (id*1000+1000) F 0 l ds) (k:Q .normal (F fun _=>true)):cG P id l Q σ w1 w2 w3:=.inr (.inl ⟨F,ds,h,h1,h2,k⟩)
def jh (acc:List (Nat × List AV)) (σ:St) (K:St→Prop) (_:Wrap σ) (_:Wrap K):Prop:=Zp acc σ K
@[go_sem ↓] theorem tA {acc} {σ} {K}:Zp acc σ K=jh acc σ K ⟨⟩ ⟨⟩:=rfl
@[go_sem] theorem qF {σ} {K} {w1 w2}:jh [] σ K w1 w2=K σ:=by
 simp [jh,Zp,EV,addB]
theorem l5 {acc} {s} {t} {b} {K} {w1 w2} (h:EV ⟨s,t,b⟩ acc) (k:K ⟨s,t,addB b acc⟩):jh acc ⟨s,t,b⟩ K w1 w2:=⟨h,k⟩
attribute [go_sem] addB
def La (P:Program) (ops:Array Oper) (base:Nat) (V:List (Nat × Nat)) (E:List Bool) (i:Nat) (l:List Oper) (ts:List (Nat × Oper)) (acc:List (Nat × List AV)) (σ:St) (K:List (Nat × Oper)→List (Nat × List AV)→St→Prop) (_:Wrap ops) (_:Wrap l) (_:Wrap ts) (_:Wrap K) (_:Wrap V) (_:Wrap acc):Prop:=FS P ops base V E i l ts acc σ K
def aL (P:Program) (ops:Array Oper) (base:Nat) (r:VR) (i:Nat) (o:Oper) (acc:List (Nat × List AV)) (σ:St) (K:List (Nat × List AV)→St→Prop):Prop:=MQ P ops base r i o acc σ K
def Ws (P:Program) (ops:Array Oper) (base:Nat) (r:VR) (i:Nat) (o:Oper) (acc:List (Nat × List AV)) (σ:St) (K:List (Nat × List AV)→St→Prop) (_:Wrap ops) (_:Wrap o) (_:Wrap acc) (_:Wrap σ) (_:Wrap K):Prop:=MQ P ops base r i o acc σ K
section
variable {ops:Array Oper} {base i:Nat} {V:List (Nat × Nat)} {E:List Bool} {ts:List (Nat × Oper)} {acc:List (Nat × List AV)} {H:List (Nat × Oper)→List (Nat × List AV)→St→Prop} {o:Oper} {l:List Oper} {w1:Wrap ops} {w3:Wrap ts} {w4:Wrap H} {w5:Wrap V} {w6:Wrap acc}
@[go_sem ↓] theorem qG:FS P ops base V E i l ts acc σ H=La P ops base V E i l ts acc σ H ⟨⟩ ⟨⟩ ⟨⟩ ⟨⟩ ⟨⟩ ⟨⟩:=rfl
@[go_sem] theorem xr {w2}:La P ops base V E i [] ts acc σ H w1 w2 w3 w4 w5 w6=H ts acc σ:=by rfl
@[go_sem] theorem vY {w2}:La P ops base V (true::E) i (o::l) ts acc σ H w1 w2 w3 w4 w5 w6=FS P ops base V E (i+1) l ((i,o)::ts) acc σ H:=rfl
@[go_sem] theorem tB {w2}:La P ops base V (false::E) i (o::l) ts acc σ H w1 w2 w3 w4 w5 w6=aL P ops base (CK V i) i o acc σ fun j σ'=>FS P ops base V E (i+1) l ts j σ' H:=rfl
@[go_sem] theorem xu {w2}:La P ops base V [] i (o::l) ts acc σ H w1 w2 w3 w4 w5 w6=aL P ops base (CK V i) i o acc σ fun j σ'=>FS P ops base V [] (i+1) l ts j σ' H:=rfl
@[go_sem] theorem mf {x} {xs b} {w2}:La P ops base V E i (List.append (x::xs) b) ts acc σ H w1 w2 w3 w4 w5 w6=La P ops base V E i (x::List.append xs b) ts acc σ H w1 ⟨⟩ w3 w4 w5 w6:=rfl
@[go_sem] theorem oY {b} {w2}:La P ops base V E i (List.append [] b) ts acc σ H w1 w2 w3 w4 w5 w6=La P ops base V E i b ts acc σ H w1 ⟨⟩ w3 w4 w5 w6:=rfl
@[go_sem ↓] theorem qH {r} {K}:aL P ops base r i o acc σ K=Ws P ops base r i o acc σ K ⟨⟩ ⟨⟩ ⟨⟩ ⟨⟩ ⟨⟩:=rfl
attribute [go_sem] CK
@[go_sem] theorem qI {K} {w1 w2 w3 w4 w5}:Ws P ops base .no i o acc σ K w1 w2 w3 w4 w5=aops P ops base (i+1) i [o] σ (K acc):=rfl
@[go_sem] theorem qJ {K} {dst} {t ty} {ps} {af} {w1 w2 w3 w4 w5}:Ws P ops base .al i ⟨dst,.alloc t,ty,ps,af,none⟩ acc σ K w1 w2 w3 w4 w5=AN (0<(tz P t).length ∧(tz P t).length =tsz P t∧isMp ((tz P t).map zAV)=false) (K acc (σ.put dst (.box (base+i) 0))):=rfl
def stV (P:Program) (base k:Nat) (t:TypeId) (x a:AV) (dst:Option Tmp) (acc:List (Nat × List AV)) (σ:St) (K:List (Nat × List AV)→St→Prop):Prop:=match cellsOf x with
 |some cs=>(cs.length=tsz P t∧0<tsz P t∧cs.all AV.one=true)∧a= .box (base+k) 0∧K ((base+k,cs)::acc) (σ.put dst .any)
 |none=>False
@[go_sem] theorem qK {K} {k} {dst} {t ty} {a x} {ps} {af} {w1 w2 w3 w4 w5}:Ws P ops base (.st k) i ⟨dst,.store t a x,ty,ps,af,none⟩ acc σ K w1 w2 w3 w4 w5=Ax (σ.e x) fun x=>Ax (σ.e a) fun a=>stV P base k t x a dst acc σ K:=rfl
def mg (P:Program) (base k:Nat) (t:TypeId) (x a:AV) (dst:Option Tmp) (acc:List (Nat × List AV)) (σ:St) (K:List (Nat × List AV)→St→Prop) (_:Wrap x) (_:Wrap a) (_:Wrap acc) (_:Wrap σ) (_:Wrap K):Prop:=stV P base k t x a dst acc σ K
@[go_sem ↓] theorem vZ {k} {t} {x a} {dst} {K}:stV P base k t x a dst acc σ K=mg P base k t x a dst acc σ K ⟨⟩ ⟨⟩ ⟨⟩ ⟨⟩ ⟨⟩:=rfl
theorem cH {k} {t} {x a} {dst} {K} {w1 w2 w3 w4 w5} (cs:List AV) (h1:cellsOf x=some cs) (h2:cs.length=tsz P t∧0<tsz P t∧cs.all AV.one=true) (h3:a= .box (base+k) 0) (h:K ((base+k,cs)::acc) (σ.put dst .any)):mg P base k t x a dst acc σ K w1 w2 w3 w4 w5:=by
 grind [mg,stV]
def trX (o:Option Oper) (f:Oper→Prop):Prop:=match o with
 |some o=>f o
 |none=>False
def trY (o:Option Oper) (f:Oper→Prop) (_:Wrap f):Prop:=trX o f
@[go_sem ↓] theorem vc {x} {f}:trX x f=trY x f ⟨⟩:=rfl
@[go_sem] theorem qL {f} {w}:trY (some o) f w=f o:=rfl
def mh (p q:Prop):Prop:=p∧q
def aM (p q:Prop) (_:Wrap p) (_:Wrap q):Prop:=p∧q
@[go_sem ↓] theorem tC {p q:Prop}:mh p q=aM p q ⟨⟩ ⟨⟩:=rfl
theorem Yc {p q:Prop} {w} {w'} (hp:p) (hq:q):aM p q w w':=⟨hp,hq⟩
def SE (P:Program) (ops:Array Oper) (base:Nat) (ts:List (Nat × Oper)) (tr:Tr) (σ:St) (K:St→Prop) (_:Wrap ops) (_:Wrap ts) (_:Wrap K):Prop:=aTr P ops base ts tr σ K
@[go_sem ↓] theorem vd {tr}:aTr P ops base ts tr σ K=SE P ops base ts tr σ K ⟨⟩ ⟨⟩ ⟨⟩:=rfl
@[go_sem] theorem ve {w3} {w4}:SE P ops base ts .fin σ K w1 w3 w4=K σ:=rfl
theorem gR {t} {w1} {w3} {w4} {σ1} (hn:Nils σ σ1) (k:aTr P ops base ts t σ1 K):SE P ops base ts (.fz t) σ K w1 w3 w4:=by
 grind [SE,aTr]
@[go_sem] theorem vf {t} {w3} {w4}:SE P ops base ts (.br i t .stop) σ K w1 w3 w4=trX (look ts i) fun o=>aops P ops base 0 i [o] σ fun σ'=>aTr P ops base ts t σ' K:=by
 grind [SE,trX,aTr]
@[go_sem] theorem vg {t u m} {j} {w3} {w4}:SE P ops base ts (.br i t (.br j u m)) σ K w1 w3 w4=mh (aTr P ops base ts (.br i t .stop) σ K) (aTr P ops base ts (.br j u m) σ K):=by
 grind [SE,mh,aTr]
@[go_sem] theorem vh {t} {w3} {w4}:SE P ops base ts (Tr.sq [] t) σ K w1 w3 w4=SE P ops base ts t σ K w1 w3 w4:=rfl
@[go_sem] theorem xw {t} {is} {w3} {w4}:SE P ops base ts (Tr.sq (i::is) t) σ K w1 w3 w4=SE P ops base ts (.br i (Tr.sq is t) .stop) σ K w1 w3 w4:=rfl
end
def ji (p:Bool) (K:St→Prop) (σ:St):Prop:=seqW p K σ
def T6 (p:Bool) (K:St→Prop) (σ:St) (_:Wrap K) (_:Wrap σ):Prop:=seqW p K σ
@[go_sem ↓] theorem tD {p}:ji p K σ=T6 p K σ ⟨⟩ ⟨⟩:=rfl
@[go_sem] theorem oZ {w1} {w2}:T6 true K σ w1 w2=K σ:=rfl
theorem GT {w1} {w2} (h:K σ):T6 false K σ w1 w2:=⟨σ,.nil σ,h⟩
theorem Wt {w1} {w2} {σ1} (hn:Nils σ σ1) (h:K σ1):T6 false K σ w1 w2:=⟨σ1,.fz hn (.nil σ1),h⟩
theorem Mg {w1} {w2} {σ1} (h:K σ1) (hw:Wk σ σ1):T6 false K σ w1 w2:=⟨σ1,hw,h⟩
@[go_sem] theorem jj {id:Nat} {l:List Oper}:I9 (.region id l.toArray false)=l.all fun o=>o.guard.isNone&&mM o.op:=rfl
attribute [go_sem] mM Bool.and_true Bool.true_and Bool.and_false Bool.false_and
@[go_sem] theorem mi {id:Nat} {l:List Oper}:I9 (.region id l.toArray true)=false:=rfl
@[go_sem] theorem mj:I9 .skip =false:=rfl
@[go_sem] theorem oa {a b}:I9 (.seq a b)=false:=rfl
@[go_sem] theorem ml {c} {a b}:I9 (.cond c a b)=false:=rfl
@[go_sem] theorem l6 {id} {a}:I9 (.block id a)=false:=rfl
@[go_sem] theorem mm {a}:I9 (.loop a)=false:=rfl
@[go_sem] theorem mn {id}:I9 (.exit id)=false:=rfl
@[go_sem] theorem ob:I9 .ret =false:=rfl
attribute [go_sem] Option.isNone_none Option.isNone_some List.all_cons List.all_nil
@[go_sem ↓] theorem xx {a b}:awp P (.seq a b) Q σ=awp P a (AE.then (ji (I9 a) (awp P b Q)) Q) σ:=by rw [awp]; rfl
@[go_sem ↓] theorem vi {c} {a b}:awp P (.cond c a b) Q σ=Ax (σ.e c) fun v=>bV v (awp P a Q σ) (awp P b Q σ):=by rw [awp]; rfl
@[go_sem ↓] theorem tE {id} {c}:awp P (.block id c) Q σ=awp P c (AE.inBlock id Q) σ:=by rw [awp]
@[go_sem ↓] theorem vj {id}:awp P (.exit id) Q σ=Q (.exit id) σ:=by rw [awp]
@[go_sem ↓] theorem xy:awp P .ret Q σ=Q .ret σ:=by rw [awp]
@[go_sem] theorem aN {b} {p q:Prop}:bV (.bool b) p q=T0 b p q:=by simp [bV,T0]
@[go_sem ↓] theorem l7 {n}:AE.then n Q .normal σ=n σ:=rfl
@[go_sem ↓] theorem oc {n} {id}:AE.then n Q (.exit id) σ=Q (.exit id) σ:=rfl
@[go_sem ↓] theorem qM {n}:AE.then n Q .ret σ=Q .ret σ:=rfl
@[go_sem ↓] theorem jk {id}:AE.inBlock id Q .normal σ=Q .normal σ:=rfl
@[go_sem ↓] theorem od {id}:AE.inBlock id Q .ret σ=Q .ret σ:=rfl
def Rt (P:Program) (b:Code) (Q:AE→St→Prop) (σ:St) (_:Wrap b) (_:Wrap Q):Prop:=awp P (.loop b) Q σ
def lpX (P:Program) (b:Code) (Q:AE→St→Prop) (σ:St):Prop:=∃σ1,Wk σ σ1∧awp P (.loop b) Q σ1
def lpY (P:Program) (b:Code) (Q:AE→St→Prop) (σ:St) (_:Wrap b) (_:Wrap Q) (_:Wrap σ):Prop:=∃σ1,Wk σ σ1∧awp P (.loop b) Q σ1
@[go_sem ↓] theorem vk {b}:lpX P b Q σ=lpY P b Q σ ⟨⟩ ⟨⟩ ⟨⟩:=rfl
theorem V9 {b} {w1} {w2} {w3} {σ1} (h:awp P (.loop b) Q σ1) (hw:Wk σ σ1):lpY P b Q σ w1 w2 w3:=⟨σ1,hw,h⟩
theorem Ai {b} {w1} {w2} (h:awp P b (AE.then (lpX P b Q) Q) σ):Rt P b Q σ w1 w2:=Yb h
@[go_sem ↓] theorem oe {b}:awp P (.loop b) Q σ=Rt P b Q σ ⟨⟩ ⟨⟩:=rfl
@[go_sem ↓] theorem mo {id i}:AE.inBlock id Q (.exit i) σ=Qw (decide (i=id)) (Q .normal σ) (Q (.exit i) σ):=by
 simp only [AE.inBlock,Qw]
 by_cases h:i=id <;> simp [h]
attribute [go_sem] decide_true decide_false
def opX (P:Program) (pos:Nat) (dst:Option Tmp) (op:Op) (σ:St) (K:St→Prop):Prop:=aop P pos ⟨dst,op,0, "",#[],none⟩ σ K
def opL (P:Program) (L:Bool) (pos:Nat) (dst:Option Tmp) (op:Op) (σ:St) (K:St→Prop) (_:Wrap L):Prop:=TG P L pos ⟨dst,op,0, "",#[],none⟩ σ K
@[go_sem] theorem xz {ops} {base cut i} {w1} {w2} {w3} {w4}:Mf P ops base cut i [] σ K w1 w2 w3 w4=K σ:=by rw [Mf,aops]
@[go_sem] theorem vl {ops} {base cut i} {dst} {op} {type} {ps} {after} {rest} {w1} {w2} {w3} {w4}:
  Mf P ops base cut i (⟨dst,op,type,ps,after,none⟩::rest) σ K w1 w2 w3 w4=opL P (decide (cut≤i)) (base+i) dst op σ (fun σ'=>aops P ops base cut (i+1) rest σ' K) ⟨⟩:=by
 rw [Mf,aops]; rfl
def Ru (ops:Array Oper) (j:Nat) (K:Tmp→Prop):Prop:=optX (Ie ops j) K
@[go_sem ↓] theorem mq {dst} {op} {type} {ps} {after} {g} {rest} {K}:Ru (List.toArray (⟨some dst,op,type,ps,after,g⟩::rest)) 0 K=K dst:=by
 simp [Ru,Ie,optX]
@[go_sem ↓] theorem mr {o} {rest} {j} {K}:Ru (List.toArray (o::rest)) (j+1) K=Ru rest.toArray j K:=by
 simp [Ru,Ie]
def OY (v:AV) (want:Bool) (p q q':Prop):Prop:=(∃b,v= .bool b∧(b=want→p)∧(b= !want→q))∨(v= .tup [] ∧q')
@[go_sem ↓] theorem Yd {b} {p q q':Prop}:OY (.bool b) true p q q'=T0 b p q:=by simp [OY,T0]
@[go_sem ↓] theorem Wu {b} {p q q':Prop}:OY (.bool b) false p q q'=T0 b q p:=by
 grind [OY,T0]
@[go_sem ↓] theorem dw {want} {p q q':Prop}:OY (.tup []) want p q q'=q':=by simp [OY]
@[go_sem] theorem tF {ops} {base cut i} {dst} {op} {type} {ps} {after} {j} {want} {rest} {w1} {w2} {w3} {w4}:
  Mf P ops base cut i (⟨dst,op,type,ps,after,some (j,want)⟩::rest) σ K w1 w2 w3 w4=Ru ops j fun s=>Ax (σ.g s) fun v=>OY v want
   (opL P (decide (cut≤i)) (base+i) dst op (σ.put (some s) (.bool want)) (fun σ'=>aops P ops base cut (i+1) rest σ' K) ⟨⟩)
   (aops P ops base cut (i+1) rest ((σ.put (some s) (.bool (!want))).put dst (.tup [])) K)
   (aops P ops base cut (i+1) rest (σ.put dst (.tup [])) K):=by
 rw [Mf,aops]
 rfl
section
variable {L:Bool} {pos:Nat} {dst:Option Tmp} {wL:Wrap L}
theorem WA {σ:St} {o:Oper} (h:PM o=false):TF σ o=false:=by
 unfold TF
 split
 ·rename_i h1; simp [PM,h1] at h
 ·rfl
theorem Dv {op} (h:∀ (σ:St) (K:St→Prop),MP P ⟨dst,op,0, "",#[],none⟩ σ K=False) (hA:PM ⟨dst,op,0, "",#[],none⟩=false:=by rfl) (hS:SliK P pos ⟨dst,op,0, "",#[],none⟩ σ K=False:=by rfl):opL P L pos dst op σ K wL=opX P pos dst op σ K:=by
 have:=WA (σ:=σ) hA
 grind [opL,TG,opX]
@[go_sem ↓] theorem qN {x}:opL P L pos dst (.move x) σ K wL=opX P pos dst (.move x) σ K:=Dv fun _ _=>rfl
@[go_sem ↓] theorem ms {x}:opL P L pos dst (.assign x) σ K wL=opX P pos dst (.assign x) σ K:=Dv fun _ _=>rfl
@[go_sem ↓] theorem qO {a b c}:opL P L pos dst (.pick c a b) σ K wL=opX P pos dst (.pick c a b) σ K:=Dv fun _ _=>rfl
@[go_sem ↓] theorem qP {t} {a}:opL P L pos dst (.load t a) σ K wL=opX P pos dst (.load t a) σ K:=Dv fun _ _=>rfl
@[go_sem ↓] theorem jl {x}:opL P L pos dst (.nilCheck x) σ K wL=opX P pos dst (.nilCheck x) σ K:=Dv fun _ _=>rfl
@[go_sem ↓] theorem tG {op} {t t'} {x y}:opL P L pos dst (.binOp op t x y t') σ K wL=opX P pos dst (.binOp op t x y t') σ K:=Dv fun _ _=>rfl
@[go_sem ↓] theorem vm {op} {t} {x}:opL P L pos dst (.unOp op t x) σ K wL=opX P pos dst (.unOp op t x) σ K:=Dv fun _ _=>rfl
@[go_sem ↓] theorem l8 {s d} {x}:opL P L pos dst (.convert s d x) σ K wL=opX P pos dst (.convert s d x) σ K:=Dv fun _ _=>rfl
@[go_sem ↓] theorem jL {s} {x} {f}:opL P L pos dst (.fieldAddr s x f) σ K wL=opX P pos dst (.fieldAddr s x f) σ K:=Dv fun _ _=>rfl
@[go_sem ↓] theorem jM {t} {x i}:opL P L pos dst (.indexAddr t x i) σ K wL=opX P pos dst (.indexAddr t x i) σ K:=Dv fun _ _=>rfl
@[go_sem ↓] theorem oh {t} {x i}:opL P L pos dst (.index t x i) σ K wL=opX P pos dst (.index t x i) σ K:=Dv fun _ _=>rfl
def dx (P:Program) (L:Bool) (pos:Nat) (dst:Option Tmp) (op:Op) (v:AV) (σ:St) (K:St→Prop):Prop:=opX P pos dst op σ K∨(L=true∧(match v with| .own _=>True|_=>False)∧SliK P pos ⟨dst,op,0, "",#[],none⟩ σ K)
def jm (P:Program) (L:Bool) (pos:Nat) (dst:Option Tmp) (op:Op) (v:AV) (σ:St) (K:St→Prop) (_:Wrap σ) (_:Wrap K) (_:Wrap op):Prop:=dx P L pos dst op v σ K
@[go_sem ↓] theorem tH {op} {v}:dx P L pos dst op v σ K=jm P L pos dst op v σ K ⟨⟩ ⟨⟩ ⟨⟩:=rfl
@[go_sem] theorem tI {op} {rows} {w1 w2 w3}:jm P L pos dst op (.ro rows) σ K w1 w2 w3=opX P pos dst op σ K:=by simp [jm,dx]
theorem dy {t} {x} {l h m}:opL P L pos dst (.slice t x l h m) σ K wL=dx P L pos dst (.slice t x l h m) (σ.e x) σ K:=by
 have h1:MP P ⟨dst,.slice t x l h m,0, "",#[],none⟩ σ K=False:=rfl
 have h2:PM ⟨dst,.slice t x l h m,0, "",#[],none⟩=false:=rfl
 have h3:SliK P pos ⟨dst,.slice t x l h m,0, "",#[],none⟩ σ K=((match σ.e x with| .own _=>True|_=>False)∧SliK P pos ⟨dst,.slice t x l h m,0, "",#[],none⟩ σ K):=by
  grind [SliK]
 have j:=WA (σ:=σ) h2
 grind [opL,TG,dx,opX]
@[go_sem ↓] theorem mu {t} {x} {l h m}:opL P L pos dst (.slice t x l h m) σ K wL=Ax (σ.e x) fun v=>dx P L pos dst (.slice t x l h m) v σ K:=dy
theorem qQ {t el} {x} {l h} {n} {tk} {i j} {r} {w1 w2 w3} (he:σ.e x= .own n) (hT:σ.T n=some tk) (hu:ti P t= .sl el) (hz:0<tsz P el) (hr:∀row ∈ tk.rows,row.length=tsz P el) (hi:bndI (l.map σ.e) 0=some i) (hj:bndI (h.map σ.e) tk.rows.length=some j) (hc:cutL tk.rows i j=some r) (hl:look σ.t (pos*16)=none)
  (k:K (St.put ⟨σ.s,(pos*16,some ⟨r,none,0,tk.z⟩)::(n,none)::σ.t,σ.b⟩ dst (.own (pos*16)))):jm P true pos dst (.slice t x l h none) (.own n) σ K w1 w2 w3:=by
 refine .inr ⟨rfl,trivial,?_⟩
 grind [SliK]
@[go_sem ↓] theorem l9 {x} {i}:opL P L pos dst (.extract x i) σ K wL=opX P pos dst (.extract x i) σ K:=Dv fun _ _=>rfl
@[go_sem ↓] theorem jo {c} {a b}:opL P L pos dst (.makeFunc c a b) σ K wL=opX P pos dst (.makeFunc c a b) σ K:=Dv fun _ _=>rfl
@[go_sem ↓] theorem tJ {t} {x}:opL P L pos dst (.box t x) σ K wL=opX P pos dst (.box t x) σ K:=Dv fun _ _=>rfl
@[go_sem ↓] theorem ol {t}:opL P L pos dst (.alloc t) σ K wL=opX P pos dst (.alloc t) σ K:=Dv fun _ _=>rfl
@[go_sem ↓] theorem om {t} {ps}:opL P L pos dst (.build t ps) σ K wL=opX P pos dst (.build t ps) σ K:=Dv fun _ _=>rfl
@[go_sem ↓] theorem gS {t} {n} {ps}:opL P L pos dst (.buildSlice t n ps) σ K wL=opX P pos dst (.buildSlice t n ps) σ K:=Dv fun _ _=>rfl
@[go_sem ↓] theorem jN {t} {l c}:opL P L pos dst (.makeSlice t l c) σ K wL=opX P pos dst (.makeSlice t l c) σ K:=Dv fun _ _=>rfl
@[go_sem ↓] theorem mA {t} {r}:opL P L pos dst (.makeMap t r) σ K wL=opX P pos dst (.makeMap t r) σ K:=Dv fun _ _=>rfl
@[go_sem ↓] theorem mw {t} {x i} {ok}:opL P L pos dst (.lookup t x i ok) σ K wL=opX P pos dst (.lookup t x i ok) σ K:=Dv fun _ _=>rfl
@[go_sem ↓] theorem jO {t} {m i x}:opL P L pos dst (.mapUpdate t m i x) σ K wL=opX P pos dst (.mapUpdate t m i x) σ K:=Dv fun _ _=>rfl
@[go_sem ↓] theorem oq {t} {a x}:opL P L pos dst (.store t a x) σ K wL=opX P pos dst (.store t a x) σ K:=Dv fun _ _=>rfl
@[go_sem ↓] theorem tK {as} {ts}:opL P L pos dst (.call ⟨.builtin .len,as,ts⟩) σ K wL=opX P pos dst (.call ⟨.builtin .len,as,ts⟩) σ K:=Dv fun _ _=>rfl
def opE (P:Program) (pos:Nat) (dst:Option Tmp) (op:Op) (σ:St) (K:St→Prop):Prop:=∃r,Ev P pos ⟨dst,op,0, "",#[],none⟩ σ.e σ.T σ.B r∧Cq σ r.t∧EV σ r.b∧K (σ.add dst r)
def d6 (L:Bool) (p q:Prop) (_:Wrap p) (_:Wrap q):Prop:=(L=true∧p)∨(L=false∧q)
@[go_sem] theorem ou {p q:Prop} {w1} {w2}:d6 true p q w1 w2=p:=by simp [d6]
@[go_sem] theorem mx {p q:Prop} {w1} {w2}:d6 false p q w1 w2=q:=by simp [d6]
def Wv (P:Program) (pos:Nat) (dst:Option Tmp) (op:Op) (u:AV) (σ:St) (K:St→Prop):Prop:=opX P pos dst op σ K∨(bU u=true∧∃σ1,Nils σ σ1∧opX P pos dst op σ1 K)
def naY (P:Program) (pos:Nat) (dst:Option Tmp) (op:Op) (u:AV) (σ:St) (K:St→Prop) (_:Wrap σ) (_:Wrap K) (_:Wrap op):Prop:=Wv P pos dst op u σ K
@[go_sem ↓] theorem tL {op} {t g p}:Wv P pos dst op (.sub t g p) σ K=naY P pos dst op (.sub t g p) σ K ⟨⟩ ⟨⟩ ⟨⟩:=rfl
theorem aO {op} {u} (h:bU u=false):Wv P pos dst op u σ K=opX P pos dst op σ K:=by simp [Wv,h]
@[go_sem ↓] theorem tM {op} {t}:Wv P pos dst op (.own t) σ K=opX P pos dst op σ K:=aO rfl
@[go_sem ↓] theorem qR {op}:Wv P pos dst op .nils σ K=opX P pos dst op σ K:=aO rfl
@[go_sem ↓] theorem tN {op} {b n sz}:Wv P pos dst op (.bsl b n sz) σ K=opX P pos dst op σ K:=aO rfl
@[go_sem ↓] theorem my {x y} {ts}:opL P L pos dst (.call ⟨.builtin .append,List.toArray [x,y],ts⟩) σ K wL=d6 L (Ax (σ.e x) fun u=>Wv P pos dst (.call ⟨.builtin .append,List.toArray [x,y],ts⟩) u σ K) (opE P pos dst (.call ⟨.builtin .append,List.toArray [x,y],ts⟩) σ K) ⟨⟩ ⟨⟩:=by
 have h1:TF σ ⟨dst,.call ⟨.builtin .append,List.toArray [x,y],ts⟩,0, "",#[],none⟩=bU (σ.e x):=rfl
 simp only [Ax]
 grind [MP,PM,SliK,opL,TG,opX,d6,opE,Wv]
end
attribute [go_sem] Bool.not_true Bool.not_false Nat.zero_le
theorem IC {pos:Nat} {dst:Option Tmp} {op:Op} (h:∀K',aop P pos ⟨dst,op,0, "",#[],none⟩ σ K'=∃r,Ev P pos ⟨dst,op,0, "",#[],none⟩ σ.e σ.T σ.B r∧Cq σ r.t∧EV σ r.b∧K' (σ.add dst r)) {p:AV→Prop} (hp:∀r,Ev P pos ⟨dst,op,0, "",#[],none⟩ σ.e σ.T σ.B r=∃v,p v∧r=⟨v,[],[]⟩):
  opX P pos dst op σ K=∃v,p v∧K (σ.put dst v):=by
 unfold opX
 rw [h]
 refine propext ⟨?_,?_⟩
 ·rintro ⟨r,h1,h2,h3,j⟩
  rw [hp] at h1
  obtain⟨v,q,rfl⟩:=h1
  exact⟨v,q,by cases dst <;> exact j⟩
 ·rintro ⟨v,q,j⟩
  exact⟨⟨v,[],[]⟩,by rw [hp]; grind,trivial,trivial,by cases dst <;> exact j⟩
@[go_sem ↓] theorem vo {pos:Nat} {dst:Option Tmp} {x:Operand}:opX P pos dst (.move x) σ K=Ax (σ.e x) fun v=>K (σ.put dst v):=by
 rw [IC (p:=fun v=>v=σ.e x) (fun _=>by rfl) (fun r=>by simp [Ev])]
 simp [Ax]
@[go_sem ↓] theorem qS {pos:Nat} {dst:Option Tmp} {x:Operand}:opX P pos dst (.assign x) σ K=Ax (σ.e x) fun v=>K (σ.put dst v):=by
 rw [IC (p:=fun v=>v=σ.e x) (fun _=>by rfl) (fun r=>by simp [Ev])]
 simp [Ax]
def T7 (c a b:AV) (K:AV→Prop):Prop:=∃t,c= .bool t∧K (if t=true then a else b)
@[go_sem] theorem aP {a b} {K}:T7 (.bool true) a b K=K a:=by simp [T7]
@[go_sem] theorem Ye {a b} {K}:T7 (.bool false) a b K=K b:=by simp [T7]
theorem mz {pos:Nat} {dst:Option Tmp} {c a b:Operand}:opX P pos dst (.pick c a b) σ K=T7 (σ.e c) (σ.e a) (σ.e b) fun v=>K (σ.put dst v):=by
 rw [IC (p:=fun v=>∃t,σ.e c= .bool t∧v=if t=true then σ.e a else σ.e b) (fun _=>by rfl) (fun r=>by
  grind [Ev])]
 grind [T7]
def Pj (P:Program) (t:TypeId) (a:AV) (σ:St) (K:AV→Prop):Prop:=∃v,Ju P σ.T σ.B t a v∧K v
def ldX (P:Program) (t:TypeId) (off:Nat) (vs:List AV) (K:AV→Prop):Prop:=
 Qw (ti P t).isAgg (AN (off+tsz P t≤vs.length) (Ax (.agg (Fs vs off (tsz P t))) K)) (AN ((ti P t).sc =true) (optX vs[off]? K))
theorem m5 {pos:Nat} {dst:Option Tmp} {t:TypeId} {a:Operand}:opX P pos dst (.load t a) σ K=Pj P t (σ.e a) σ fun v=>K (σ.put dst v):=
 IC (p:=fun v=>Ju P σ.T σ.B t (σ.e a) v) (fun _=>by rfl) (fun r=>by rfl)
@[go_sem] theorem d7 {t} {b off} {K}:Pj P t (.box b off) σ K=optX (σ.B b) fun vs=>AN (isMp vs=false) (ldX P t off vs K):=by
 grind [Pj,Ju,optX,ldX,Qw,AN,Ax]
@[go_sem] theorem d8 {t} {vs} {off} {K}:Pj P t (.rop vs off) σ K=ldX P t off vs K:=by
 grind [Pj,Ju,optX,ldX,Qw,AN,Ax]
@[go_sem] theorem d9 {t} {t' sz i off} {K}:Pj P t (.elt t' sz i off) σ K=
  optX (σ.T t') fun tk=>optX tk.rows[i]? fun j=>AN (j.length=sz) (Qw (ti P t).isAgg (AN (off+tsz P t≤sz) (Ax (.agg (Qb t' tk.gen [] sz i j off (tsz P t))) K)) (AN ((ti P t).sc =true) (optX j[off]? fun d=>K (ofT t' tk.gen [] sz i off d)))):=by
 grind [Pj,Ju,optX,Qw,AN,Ax]
def m6 (o:Option Tok) (g:Nat) (p:Pth):Option (List (List D)):=match o with
 |some tk=>if tk.gen=g then getP p tk.rows else none
 |none=>none
@[go_sem ↓] theorem tO {T} {t g} {p}:subR T t g p=m6 (T t) g p:=rfl
@[go_sem] theorem ov {rows} {ap} {g} {q} {p}:m6 (some ⟨rows,ap,g,q⟩) g p=getP p rows:=by simp [m6]
def gT (o:Option Tok) (g:Nat) (p:Pth):Option (List (List D)):=match o with
 |some tk=>if tk.gen=g then (getP p tk.rows).map tk.er else none
 |none=>none
@[go_sem ↓] theorem tP {T} {t g} {p}:subE T t g p=gT (T t) g p:=rfl
@[go_sem] theorem m7 {rows} {ap} {g} {q} {p}:gT (some ⟨rows,ap,g,q⟩) g p=(getP p rows).map (zer q):=by
 simp only [gT,if_true]; rfl
@[go_sem] theorem oz {r}:zer .no r=r:=rfl
@[go_sem] theorem qT {r}:zer .yes r=erR r:=rfl
@[go_sem] theorem vq {r}:zer .nl r=erR r:=rfl
@[go_sem] theorem x5 {rows} {ap} {g} {q}:Tok.rd ⟨rows,ap,g,q⟩=zer q rows:=rfl
@[go_sem] theorem x6 {rows r} {ap} {g} {q}:Tok.er ⟨rows,ap,g,q⟩ r=zer q r:=rfl
@[go_sem] theorem o0 {z} {rows} {ap} {g}:okZ z ⟨rows,ap,g,.no⟩=true:=rfl
@[go_sem] theorem vu {z} {rows} {ap} {g}:okZ z ⟨rows,ap,g,.nl⟩=true:=rfl
@[go_sem] theorem qU {q} {rows} {ap} {g}:okZ q ⟨rows,ap,g,q⟩=true:=by cases q <;> rfl
@[go_sem] theorem qV {rows}:getP [] rows=some rows:=rfl
def qW (d:D) (K:List (List D)→Prop):Prop:=match Hf d with|some r=>K r|none=>False
@[go_sem] theorem tQ {r} {K}:qW (.sl r) K=K r:=rfl
@[go_sem] theorem tR {K}:qW .nl K=K [] :=rfl
@[go_sem] theorem m8 {t g} {p} {sz i} {d} {ds} {off n}:Qb t g p sz i (d::ds) off n=Xv t g p sz i off (((d::ds).drop off).take n):=rfl
attribute [go_sem ↓] ldX
attribute [go_sem] Fs ofD L5 ofS Xv
@[go_sem] theorem tS {t g} {p} {sz i j} {k} {n}:ofT t g p sz i j (.int k n)= .int k n:=rfl
@[go_sem] theorem qX {t g} {p} {sz i j} {b}:ofT t g p sz i j (.bool b)= .bool b:=rfl
@[go_sem] theorem tT {t g} {p} {sz i j} {s}:ofT t g p sz i j (.str s)= .str s:=rfl
@[go_sem] theorem vv {t g} {p} {sz i j} {r}:ofT t g p sz i j (.sl r)= .sub t g (p++[(sz,i,j)]):=rfl
@[go_sem] theorem qY {t g} {p} {sz i j}:ofT t g p sz i j .gone = .any :=rfl
@[go_sem] theorem vx {t g} {p} {sz i j} {r}:ofT t g p sz i j (.fz r)= .ro r:=rfl
@[go_sem] theorem tU {t g} {p} {sz i j} {ds}:ofT t g p sz i j (.ptr ds)= .rop (L5 ds) 0:=rfl
@[go_sem] theorem qZ {t g} {p} {sz i j}:ofT t g p sz i j .nilp = .nilp :=rfl
@[go_sem] theorem vy {t g} {p} {sz i j}:ofT t g p sz i j .nl = .sub t g (p++[(sz,i,j)]):=rfl
end
attribute [go_sem ↓] aN Yd Wu dw aP Ye d7 d8 d9
section
variable {P:Program} {σ:St} {K:St→Prop} {Q:AE→St→Prop}
theorem Qy {pos} {dst} {op} (h:∀K',aop P pos ⟨dst,op,0, "",#[],none⟩ σ K'=∃r,Ev P pos ⟨dst,op,0, "",#[],none⟩ σ.e σ.T σ.B r∧Cq σ r.t∧EV σ r.b∧K' (σ.add dst r)):
  opX P pos dst op σ K=∃r,Ev P pos ⟨dst,op,0, "",#[],none⟩ σ.e σ.T σ.B r∧Cq σ r.t∧EV σ r.b∧K (σ.add dst r):=h K
def Ww (v:AV) (K:AV→Prop):Prop:=match v with
 | .box b off=>K (.box b off)
 | .rop ds off=>K (.rop ds off)
 | .elt t sz i off=>K (.elt t sz i off)
 | .els t g p sz i off=>K (.els t g p sz i off)
 |_=>False
@[go_sem] theorem gU {b off} {K}:Ww (.box b off) K=K (.box b off):=rfl
@[go_sem] theorem gV {ds} {off} {K}:Ww (.rop ds off) K=K (.rop ds off):=rfl
@[go_sem] theorem gW {t sz i off} {K}:Ww (.elt t sz i off) K=K (.elt t sz i off):=rfl
@[go_sem] theorem gX {t g} {p} {sz i off} {K}:Ww (.els t g p sz i off) K=K (.els t g p sz i off):=rfl
theorem aQ {pos} {dst} {x}:opX P pos dst (.nilCheck x) σ K=Ww (σ.e x) fun v=>K (σ.put dst v):=by
 rw [IC (p:=fun v=>Ww (σ.e x) fun u=>v=u) (fun _=>by rfl) (fun r=>by
  simp only [Ev,Ww]
  generalize σ.e x=v
  cases v <;> simp)]
 unfold Ww
 generalize σ.e x=v
 cases v <;> simp
def Dw (P:Program) (op:BinOp) (t:TypeId) (x y:AV) (K:AV→Prop):Prop:=∃v,Bin P op t x y v∧K v
def gY (op:BinOp) (y:Operand):Bool:=match op,y with
 | .eql,.const (.slice none 0 0)=>false
 | .neq,.const (.slice none 0 0)=>false
 |_,_=>true
theorem cI {pos} {dst} {op} {t t'} {x y} (hn:gY op y=true):opX P pos dst (.binOp op t x y t') σ K=Dw P op t (σ.e x) (σ.e y) fun v=>K (σ.put dst v):=
 IC (p:=fun v=>Bin P op t (σ.e x) (σ.e y) v) (fun _=>by
  grind [aop,gY]) (fun r=>by rfl)
section
variable {pos:Nat} {dst:Option Tmp} {op:BinOp} {t t':TypeId} {x:Operand}
theorem eA {y}:opX P pos dst (.binOp op t x (.tmp y) t') σ K=Dw P op t (σ.e x) (σ.g y) fun v=>K (σ.put dst v):=cI (by cases op <;> rfl)
theorem eC {k} {n}:opX P pos dst (.binOp op t x (.const (.int k n)) t') σ K=Dw P op t (σ.e x) (.int k n) fun v=>K (σ.put dst v):=cI (by cases op <;> rfl)
theorem eD {s}:opX P pos dst (.binOp op t x (.const (.string s)) t') σ K=Dw P op t (σ.e x) (.str s) fun v=>K (σ.put dst v):=cI (by cases op <;> rfl)
theorem aR:opX P pos dst (.binOp op t x (.const (.pointer none)) t') σ K=Dw P op t (σ.e x) .nilp fun v=>K (σ.put dst v):=cI (by cases op <;> rfl)
def m9 (P:Program) (t:TypeId) (v:AV) (σ:St) (K:Bool→Prop):Prop:=(∃e,ti P t= .sl e)∧PJ v=true∧∀b,jQ σ.T v b→K b
def slP (t:TI):Prop:=∃e,t= .sl e
@[go_sem] theorem vz {e}:slP (.sl e)=True:=by simp [slP]
theorem jp {rows} {K} (h:slP (ti P t)) (h0:rows=[] →K true) (h1:K false):m9 P t (.ro rows) σ K:=
 ⟨h,rfl,fun b j=>by
  cases b with
  |false=>exact h1
  |true=>
   refine h0 ?_
   by_cases hr:rows=[]
   ·exact hr
   ·exact absurd (j hr) (by simp)⟩
theorem gZ:opX P pos dst (.binOp .eql t x (.const (.slice none 0 0)) t') σ K=m9 P t (σ.e x) σ fun b=>K (σ.put dst (.bool b)):=by
 rfl
end
section
variable {t:TypeId} {k:IntKind} {a b:Int} {K:AV→Prop}
@[go_sem] theorem jq:Dw P .add t (.int k a) (.int k b) K=K (.int k (k.wrap (a+b))):=by simp [Dw,Bin,Lx]
@[go_sem] theorem jr:Dw P .sub t (.int k a) (.int k b) K=K (.int k (k.wrap (a - b))):=by simp [Dw,Bin,Lx]
@[go_sem] theorem js:Dw P .mul t (.int k a) (.int k b) K=K (.int k (k.wrap (a*b))):=by simp [Dw,Bin,Lx]
@[go_sem] theorem jt:Dw P .eql t (.int k a) (.int k b) K=K (.bool (decide (a=b))):=by simp [Dw,Bin,Lx]
@[go_sem] theorem ju:Dw P .neq t (.int k a) (.int k b) K=K (.bool (!decide (a=b))):=by simp [Dw,Bin,Lx]
@[go_sem] theorem jv:Dw P .lss t (.int k a) (.int k b) K=K (.bool (decide (a<b))):=by simp [Dw,Bin,Lx]
@[go_sem] theorem jw:Dw P .leq t (.int k a) (.int k b) K=K (.bool (decide (a≤b))):=by simp [Dw,Bin,Lx]
@[go_sem] theorem jx:Dw P .gtr t (.int k a) (.int k b) K=K (.bool (decide (b<a))):=by simp [Dw,Bin,Lx]
@[go_sem] theorem jy:Dw P .geq t (.int k a) (.int k b) K=K (.bool (decide (b≤a))):=by simp [Dw,Bin,Lx]
@[go_sem] theorem jz:Dw P .quo t (.int k a) (.int k b) K=AN (b≠0) (K (.int k (k.wrap (a.tdiv b)))):=by
 simp only [Dw,Bin,AN,true_and]
 grind
@[go_sem] theorem j5:Dw P .rem t (.int k a) (.int k b) K=AN (b≠0) (K (.int k (a.tmod b))):=by
 simp only [Dw,Bin,AN,true_and]
 grind
end
section
variable {t:TypeId} {a b:ByteArray} {c d:Bool} {K:AV→Prop}
def cJ (a b:ByteArray):Bool:=a.toList == b.toList
@[go_sem] theorem gc:Dw P .add t (.str a) (.str b) K=AN (a.size+b.size≤maxLen) (K (.str (a++b))):=by
 simp only [Dw,Bin,AN]
 grind
def eE (o:Option (List KK)) (xs ys:List AV) (K:Bool→Prop):Prop:=∃ks b,o=some ks∧DJ ks xs ys=some b∧K b
def j6 (o:Option Bool) (K:Bool→Prop):Prop:=∃b,o=some b∧K b
@[go_sem] theorem o3 {ks} {xs ys} {K}:eE (some ks) xs ys K=j6 (DJ ks xs ys) K:=by
 simp [eE,j6]
@[go_sem] theorem o4 {b} {K}:j6 (some b) K=K b:=by simp [j6]
@[go_sem] theorem o5 {k} {ks} {a b} {xs ys}:DJ (.int k::ks) (.int k a::xs) (.int k b::ys)=(DJ ks xs ys).map (decide (a=b)&& ·):=by
 rw [DJ]; simp
@[go_sem] theorem qa:DJ [] [] [] =some true:=by
 rw [DJ]
@[go_sem] theorem o6 {α β:Type} {f:α→β} {a:α}:Option.map f (some a)=some (f a):=rfl
@[go_sem] theorem gd {xs ys}:Dw P .eql t (.agg xs) (.agg ys) K=eE (H8 P t) xs ys fun b=>K (.bool b):=by
 unfold Dw Bin eE
 grind
@[go_sem] theorem gf {xs ys}:Dw P .neq t (.agg xs) (.agg ys) K=eE (H8 P t) xs ys fun b=>K (.bool !b):=by
 unfold Dw Bin eE
 grind
def gh (P:Program) (t:TypeId):Prop:=match ti P t with| .bool =>True|_=>False
@[go_sem] theorem gi:Dw P .neq t (.bool c) (.bool d) K=AN (gh P t) (K (.bool (!(c == d)))):=by
 simp only [Dw,Bin,AN,gh]
 split <;> simp_all
def Wx (P:Program) (t:TypeId):Prop:=match ti P t with| .ptr _=>True|_=>False
@[go_sem] theorem nA:Dw P .eql t .nilp .nilp K=AN (Wx P t) (K (.bool true)):=by
 simp only [Dw,Bin,AN,Wx]
 split <;> simp_all
@[go_sem] theorem j7:Dw P .neq t .nilp .nilp K=AN (Wx P t) (K (.bool false)):=by
 simp only [Dw,Bin,AN,Wx]
 split <;> simp_all
@[go_sem] theorem nC {ds} {off}:Dw P .eql t (.rop ds off) .nilp K=AN (Wx P t) (K (.bool false)):=by
 simp only [Dw,Bin,AN,Wx]
 split <;> simp_all
@[go_sem] theorem j8 {ds} {off}:Dw P .neq t (.rop ds off) .nilp K=AN (Wx P t) (K (.bool true)):=by
 simp only [Dw,Bin,AN,Wx]
 split <;> simp_all
attribute [go_sem] gh Wx
end
def eF (op:UnOp) (x:AV) (K:AV→Prop):Prop:=∃v,Uno op x v∧K v
theorem nD {pos} {dst} {op} {t} {x}:opX P pos dst (.unOp op t x) σ K=eF op (σ.e x) fun v=>K (σ.put dst v):=
 IC (p:=fun v=>Uno op (σ.e x) v) (fun _=>by rfl) (fun r=>by rfl)
@[go_sem] theorem j9 {b} {K}:eF .not (.bool b) K=K (.bool (!b)):=by simp [eF,Uno]
@[go_sem] theorem kA {k} {n} {K}:eF .neg (.int k n) K=K (.int k (k.wrap (0 - n))):=by simp [eF,Uno]
def Rv (P:Program) (s d:TypeId) (x:AV) (σ:St) (K:AV→Prop):Prop:=match ti P d,x with
 | .int k,.int _ n=>(ti P s).sc =true∧K (.int k (k.wrap n))
 | .str,y=>∃el ns,ti P s= .sl el∧ti P el= .int .u8 ∧ns.length≤maxLen∧cl σ.T σ.B y=some (.ro (Hm ns))∧K (.str (strOfNums ns))
 |_,_=>False
def gj (P:Program) (s d:TypeId) (x:AV) (σ:St) (v:AV):Prop:=match ti P d,x with
 | .int k,.int _ n=>(ti P s).sc =true∧v= .int k (k.wrap n)
 | .str,y=>∃el ns,ti P s= .sl el∧ti P el= .int .u8 ∧ns.length≤maxLen∧cl σ.T σ.B y=some (.ro (Hm ns))∧v= .str (strOfNums ns)
 |_,_=>False
theorem eG {pos} {dst} {s d} {x}:opX P pos dst (.convert s d x) σ K=Rv P s d (σ.e x) σ fun v=>K (σ.put dst v):=by
 rw [IC (p:=fun v=>gj P s d (σ.e x) σ v) (fun _=>by rfl) (fun r=>by
  simp only [Ev,gj]
  generalize σ.e x=v
  generalize ti P d=q
  cases q <;> cases v <;> first
   |(
    refine propext ⟨?_,?_⟩
    ·intro h; obtain⟨j,ns,h1,h2,h3,u,rfl⟩:=h; exact⟨_,⟨j,ns,h1,h2,h3,u,rfl⟩,rfl⟩
    ·intro h; obtain⟨_,⟨j,ns,h1,h2,h3,u,rfl⟩,rfl⟩:=h; exact⟨j,ns,h1,h2,h3,u,rfl⟩)
   |simp [and_assoc])]
 unfold Rv gj
 generalize σ.e x=v
 generalize ti P d=q
 have key:∀y:AV,(∃v,(∃j ns,ti P s= .sl j∧ti P j= .int .u8 ∧ns.length≤maxLen∧cl σ.T σ.B y=some (.ro (Hm ns))∧v= .str (strOfNums ns))∧K (σ.put dst v))=∃j ns,ti P s= .sl j∧ti P j= .int .u8 ∧ns.length≤maxLen∧cl σ.T σ.B y=some (.ro (Hm ns))∧K (σ.put dst (.str (strOfNums ns))):=fun y=>by
  grind
 cases q <;> cases v <;> first|exact key _|simp [and_assoc]
def Yf (t:TI) (K:IntKind→Prop):Prop:=match t with| .int k=>K k|_=>False
@[go_sem] theorem eH {k} {K}:Yf (.int k) K=K k:=rfl
@[go_sem] theorem eI {s d} {k'} {n} {K}:Rv P s d (.int k' n) σ K=Yf (ti P d) fun k=>AN ((ti P s).sc =true) (K (.int k (k.wrap n))):=by
 unfold Rv Yf AN
 generalize ti P d=q
 cases q <;> simp [cl,Hm]
def gm (P:Program) (q:TI):Prop:=∃el,q= .sl el∧ti P el= .int .u8
def kC (q:TI):Prop:=q= .int .u8
@[go_sem] theorem qc:kC (.int .u8)=True:=by simp [kC]
@[go_sem] theorem tV {el}:gm P (.sl el)=kC (ti P el):=by simp [gm,kC]
def go (P:Program) (q qs:TI) (o:Option AV) (K:AV→Prop):Prop:=q= .str ∧gm P qs∧∃ns,ns.length≤maxLen∧o=some (.ro (Hm ns))∧K (.str (strOfNums ns))
def nE (o:Option AV) (K:AV→Prop) (_:Wrap K):Prop:=∃ns,ns.length≤maxLen∧o=some (.ro (Hm ns))∧K (.str (strOfNums ns))
@[go_sem] theorem qd {qs} {o} {K}:go P .str qs o K=AN (gm P qs) (nE o K ⟨⟩):=by simp [go,AN,nE]
theorem gp {s d} {x} {K} (hx:∀k n,x≠ .int k n):Rv P s d x σ K=Ax (cl σ.T σ.B x) fun o=>go P (ti P d) (ti P s) o K:=by
 unfold Rv go Ax gm
 grind
@[go_sem] theorem o7 {s d} {t} {K}:Rv P s d (.own t) σ K=Ax (cl σ.T σ.B (.own t)) fun o=>go P (ti P d) (ti P s) o K:=gp (by simp)
theorem qe {ns} {K} {w} (hl:ns.length≤maxLen) (hk:K (.str (strOfNums ns))):nE (some (.ro (List.map (fun n=>[D.int .u8 n]) ns))) K w:=⟨ns,hl,rfl,hk⟩
def faX (P:Program) (s:TypeId) (v:AV) (f:Nat) (K:AV→Prop):Prop:=match v with
 | .box b off=>∃q,fOff P s f=some q∧0<tsz P q.2 ∧K (.box b (off+q.1))
 | .rop ds off=>∃q,fOff P s f=some q∧0<tsz P q.2 ∧K (.rop ds (off+q.1))
 | .elt t sz i off=>∃q,fOff P s f=some q∧0<tsz P q.2 ∧K (.elt t sz i (off+q.1))
 | .els t g p sz i off=>∃q,fOff P s f=some q∧0<tsz P q.2 ∧K (.els t g p sz i (off+q.1))
 |_=>False
theorem Yg {pos} {dst} {s} {x} {f}:opX P pos dst (.fieldAddr s x f) σ K=faX P s (σ.e x) f fun v=>K (σ.put dst v):=by
 rw [IC (p:=fun v=>faX P s (σ.e x) f fun u=>v=u) (fun _=>by rfl) (fun r=>by
  simp only [Ev,faX]
  generalize σ.e x=v
  grind)]
 unfold faX
 split
 ·grind
 ·grind
 ·grind
 ·grind
 ·simp
@[go_sem] theorem kD {s} {b off f} {K}:faX P s (.box b off) f K=optX (fOff P s f) fun q=>AN (0<tsz P q.2) (Ax (off+q.1) fun o=>K (.box b o)):=rfl
@[go_sem] theorem kE {s} {ds} {off f} {K}:faX P s (.rop ds off) f K=optX (fOff P s f) fun q=>AN (0<tsz P q.2) (Ax (off+q.1) fun o=>K (.rop ds o)):=rfl
@[go_sem] theorem kF {s} {t g} {p} {sz i off f} {K}:faX P s (.els t g p sz i off) f K=optX (fOff P s f) fun q=>AN (0<tsz P q.2) (Ax (off+q.1) fun o=>K (.els t g p sz i o)):=rfl
@[go_sem] theorem kG {s} {t sz i off f} {K}:faX P s (.elt t sz i off) f K=optX (fOff P s f) fun q=>AN (0<tsz P q.2) (Ax (off+q.1) fun o=>K (.elt t sz i o)):=rfl
def fdX (P:Program) (s:TypeId) (v:AV) (f:Nat) (K:AV→Prop):Prop:=match v with
 | .agg vs=>optX (fOff P s f) fun q=>Qw (ti P q.2).isAgg (AN (q.1 +tsz P q.2 ≤vs.length) (Ax (.agg (Fs vs q.1 (tsz P q.2))) K)) (AN ((ti P q.2).sc =true) (optX vs[q.1]? K))
 |_=>False
@[go_sem] theorem kH {s} {vs} {f} {K}:fdX P s (.agg vs) f K=optX (fOff P s f) fun q=>Qw (ti P q.2).isAgg (AN (q.1 +tsz P q.2 ≤vs.length) (Ax (.agg (Fs vs q.1 (tsz P q.2))) K)) (AN ((ti P q.2).sc =true) (optX vs[q.1]? K)):=rfl
attribute [go_sem] fOff
def Yh (rows:List (List D)) (n:Int) (sz:Nat) (K:List D→Prop):Prop:=∃row,bO rows n sz row∧K row
def iaX (P:Program) (t:TypeId) (x i:AV) (σ:St) (K:AV→Prop):Prop:=∃v,SC P σ.T t x i v∧K v
def slX (t:TI) (K:TypeId→Prop):Prop:=match t with| .sl e=>K e|_=>False
@[go_sem] theorem nF {e} {K}:slX (.sl e) K=K e:=rfl
def elX (P:Program) (t:TypeId) (x i:AV) (K:AV→Prop):Prop:=∃v,VQ P t x i v∧K v
def arX (t:TI) (K:Nat→TypeId→Prop):Prop:=match t with| .arr n e=>K n e|_=>False
@[go_sem ↓] theorem tW {n} {e} {K}:arX (.arr n e) K=K n e:=rfl
def inX (t:TI) (K:IntKind→Prop):Prop:=match t with| .int k=>K k|_=>False
@[go_sem ↓] theorem tX {k} {K}:inX (.int k) K=K k:=rfl
@[go_sem] theorem o8 {k}:N2 k [] =some [] :=rfl
@[go_sem] theorem nG {k} {n} {vs}:N2 k (.int k n::vs)=(N2 k vs).map (n:: ·):=by rw [N2,if_pos rfl]
theorem kI {pos} {dst} {t} {x i}:opX P pos dst (.index t x i) σ K=elX P t (σ.e x) (σ.e i) fun v=>K (σ.put dst v):=
 IC (p:=fun v=>VQ P t (σ.e x) (σ.e i) v) (fun _=>by rfl) (fun r=>by rfl)
def isX (t:TI) (K:IntKind→Prop) (K' K'':Prop):Prop:=match t with| .int k=>K k| .str =>K'| .ptr _=>K''|_=>False
@[go_sem ↓] theorem tY {k} {K K' K''}:isX (.int k) K K' K''=K k:=rfl
@[go_sem ↓] theorem tZ {K K' K''}:isX .str K K' K''=K':=rfl
@[go_sem ↓] theorem tc {e} {K K' K''}:isX (.ptr e) K K' K''=K'':=rfl
@[go_sem] theorem o9:PI [] =some [] :=rfl
@[go_sem] theorem nH {s} {vs}:PI (.str s::vs)=(PI vs).map (s:: ·):=rfl
@[go_sem ↓] theorem tg {t} {vs} {k} {n} {K}:elX P t (.agg vs) (.int k n) K=arX (ti P t) fun l e=>isX (ti P e) (fun j=>AN (tsz P e=1) (optX (N2 j vs) fun ns=>AN (l=ns.length) (optX (atI ns n) fun m=>K (.int j m)))) (AN (tsz P e=1) (optX (PI vs) fun ns=>AN (l=ns.length) (optX (atS ns n) fun m=>K (.str m)))) (AN (tsz P e=1) (AN (l=vs.length) (AN (0≤n) (optX (vs[n.toNat]?) K)))):=by
 simp only [elX,VQ,arX,isX,AN,optX]
 generalize ti P t=q
 cases q <;> grind
def kJ (P:Program) (T:Nat→Option Tok) (t:TypeId) (x:AV) (l h:Option AV) (K:AV→Prop):Prop:=∃v,(Qc P t x l h v∨Wa P T t x l h v)∧K v
theorem kK {pos} {dst} {t} {x} {l h}:opX P pos dst (.slice t x l h none) σ K=kJ P σ.T t (σ.e x) (l.map σ.e) (h.map σ.e) fun v=>K (σ.put dst v):=
 IC (p:=fun v=>Qc P t (σ.e x) (l.map σ.e) (h.map σ.e) v∨Wa P σ.T t (σ.e x) (l.map σ.e) (h.map σ.e) v) (fun _=>by rfl) (fun r=>by rfl)
@[go_sem ↓] theorem th {t} {rows} {l h} {T} {K}:kJ P T t (.ro rows) l h K=slX (ti P t) fun p=>AN (0<tsz P p) (AN (∀row ∈ rows,row.length=tsz P p) (optX (bndI l 0) fun i=>optX (bndI h rows.length) fun j=>optX (cutL rows i j) fun r=>K (.ro r))):=by
 simp only [kJ,Qc,Wa,or_false,slX,AN,optX]
 grind
@[go_sem] theorem qf {d}:bndI none d=some d:=rfl
@[go_sem] theorem qg {k} {n d}:bndI (some (.int k n)) d=some n:=rfl
theorem Yi {pos} {dst} {t} {x i}:opX P pos dst (.indexAddr t x i) σ K=iaX P t (σ.e x) (σ.e i) σ fun v=>K (σ.put dst v):=
 IC (p:=fun v=>SC P σ.T t (σ.e x) (σ.e i) v) (fun _=>by rfl) (fun r=>by rfl)
@[go_sem] theorem nI {t} {rows} {k} {n} {K}:iaX P t (.ro rows) (.int k n) σ K=slX (ti P t) fun e=>AN (0<tsz P e) (Yh rows n (tsz P e) fun j=>K (.rop (j.map ofD) 0)):=by
 simp only [iaX,SC,slX,AN,Yh]
 grind
def arI (t:TI) (K:Nat→TypeId→Prop):Prop:=match t with| .arr n e=>K n e|_=>False
@[go_sem ↓] theorem tj {n} {e} {K}:arI (.arr n e) K=K n e:=rfl
@[go_sem] theorem tt {t} {b off} {k} {n} {K}:iaX P t (.box b off) (.int k n) σ K=arI (ti P t) fun l e=>AN (0<tsz P e) (AN (0≤n∧n<(l:Int)) (K (.box b (off+n.toNat*tsz P e)))):=by
 simp only [iaX,SC,arI,AN]
 grind
@[go_sem] theorem kL {t} {t'} {k} {n} {K}:iaX P t (.own t') (.int k n) σ K=slX (ti P t) fun e=>AN (0<tsz P e) (optX (σ.T t') fun tk=>Yh tk.rows n (tsz P e) fun _=>K (.elt t' (tsz P e) n.toNat 0)):=by
 simp only [iaX,SC,slX,AN,Yh,optX]
 grind
@[go_sem] theorem kM {t} {t' g} {p} {k} {n} {K}:iaX P t (.sub t' g p) (.int k n) σ K=slX (ti P t) fun e=>AN (0<tsz P e) (optX (subR σ.T t' g p) fun j=>Yh j n (tsz P e) fun _=>K (.els t' g p (tsz P e) n.toNat 0)):=by
 simp only [iaX,SC,slX,AN,Yh,optX]
 grind
def eJ (v:AV) (i:Nat) (K:AV→Prop):Prop:=match v with| .tup vs=>optX vs[i]? K|_=>False
@[go_sem] theorem gq {vs} {i} {K}:eJ (.tup vs) i K=optX vs[i]? K:=rfl
theorem eK {pos} {dst} {x} {i}:opX P pos dst (.extract x i) σ K=eJ (σ.e x) i fun v=>K (σ.put dst v):=by
 rw [IC (p:=fun v=>eJ (σ.e x) i fun u=>v=u) (fun _=>by rfl) (fun r=>by
  simp only [Ev,eJ]
  generalize σ.e x=v
  cases v <;> simp [optX])]
 unfold eJ
 generalize σ.e x=v
 cases v <;> simp [optX]
def evs (σ:St):List Operand→List AV
 | [] =>[]
 |x::xs=>σ.e x::evs σ xs
theorem Wy {xs}:evs σ xs=xs.map σ.e:=by induction xs with|nil=>rfl|cons x xs ih=>simp [evs,ih]
attribute [go_sem] evs
@[go_sem ↓] theorem nJ {pos} {dst} {f} {first caps}:opX P pos dst (.makeFunc (.func f) (List.toArray first) caps.toArray) σ K=Ax (.fn f (.agg (evs σ first)::evs σ caps)) fun v=>K (σ.put dst v):=by
 rw [IC (p:=fun v=>v= .fn f (.agg (evs σ first)::evs σ caps)) (fun _=>by rfl) (fun r=>by simp [Ev,Wy])]
 simp [Ax]
def U0 (P:Program) (t:TypeId) (x:AV) (σ:St) (K:AV→Prop):Prop:=∃v,SB P σ.T σ.B t x v∧K v
theorem qh {pos} {dst} {x} {t}:opX P pos dst (.call ⟨.builtin .len,List.toArray [x],List.toArray [t]⟩) σ K=U0 P t (σ.e x) σ fun v=>K (σ.put dst v):=
 IC (p:=fun v=>SB P σ.T σ.B t (σ.e x) v) (fun _=>by rfl) (fun r=>by rfl)
end
attribute [go_sem ↓] gU gV gW gX jq jr js jt ju jv jw jx jy jz j5 gc gi nA j7 nC j8 gd gf j9 kA eH eI kD kE kG kF kH nF nI kL kM gq
end Go.Proofs.YthenkmapmnkelaaGreatDoor.Ab
