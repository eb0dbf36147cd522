/-
  The abstract walk as a set of rules for 'simp only [go_sem]': heads that wait, their congruences, one rule an operation.
-/
import Derived.Test.YtoncbhomocgmcaaGreatDoorAbS
namespace Go.Proofs.YtoncbhomocgmcaaGreatDoor.Ab
set_option linter.unusedVariables false
set_option maxHeartbeats 1000000
open Go.RowKit
section
variable {P:Program}
theorem C6 {z}:∀ {vs} {σ} {K K'},(∀ds σ,K ds σ→K' ds σ)→Al z vs σ K→Al z vs σ K'
 | [],σ,K,K',hk,h=>by rw [Al] at h ⊢; grind
 | .int k n::vs,σ,K,K',hk,h=>by rw [Al] at h ⊢; exact C6 (fun ds σ=>hk _ σ) h
 | .bool b::vs,σ,K,K',hk,h=>by rw [Al] at h ⊢; exact C6 (fun ds σ=>hk _ σ) h
 | .str b::vs,σ,K,K',hk,h=>by rw [Al] at h ⊢; exact C6 (fun ds σ=>hk _ σ) h
 | .nils ::vs,σ,K,K',hk,h=>by rw [Al] at h ⊢; exact C6 (fun ds σ=>hk _ σ) h
 | .nilp ::vs,σ,K,K',hk,h=>by rw [Al] at h ⊢; exact C6 (fun ds σ=>hk _ σ) h
 | .ro _::vs,σ,K,K',hk,h=>by rw [Al] at h ⊢; exact⟨h.1,C6 (fun ds σ=>hk _ σ) h.2⟩
 | .rop _ _::vs,σ,K,K',hk,h=>by rw [Al] at h ⊢; obtain⟨h1,d,h2,h3⟩:=h; exact⟨h1,d,h2,C6 (fun ds σ=>hk _ σ) h3⟩
 | .bsl _ _ _::vs,σ,K,K',hk,h=>by
  rw [Al] at h ⊢
  split at h
  ·rename_i h0
   rw [if_pos h0]
   exact C6 (fun ds σ=>hk _ σ) h
  ·rename_i h0
   rw [if_neg h0]
   obtain⟨h1,h2,vs',h3,ds,h4,h5,h6⟩:=h
   exact⟨h1,h2,vs',h3,ds,h4,h5,C6 (fun ds σ=>hk _ σ) h6⟩
 | .own t::vs,σ,K,K',hk,h=>by rw [Al] at h ⊢; obtain⟨tk,h1,h2,h3⟩:=h; exact⟨tk,h1,h2,C6 (fun ds σ=>hk _ σ) h3⟩
 | .sub _ _ _::vs,σ,K,K',hk,h=>by grind [Al]
 | .els _ _ _ _ _ _::vs,σ,K,K',hk,h=>by grind [Al]
 | .any ::vs,σ,K,K',hk,h=>by grind [Al]
 | .box _ _::vs,σ,K,K',hk,h=>by grind [Al]
 | .elt _ _ _ _::vs,σ,K,K',hk,h=>by grind [Al]
 | .par _ _ _ _::vs,σ,K,K',hk,h=>by grind [Al]
 | .agg _::vs,σ,K,K',hk,h=>by grind [Al]
 | .tup _::vs,σ,K,K',hk,h=>by grind [Al]
 | .fn _ _::vs,σ,K,K',hk,h=>by grind [Al]
 | .mpr _::vs,σ,K,K',hk,h=>by grind [Al]
 | .mpc _ _::vs,σ,K,K',hk,h=>by grind [Al]
theorem TN {t} {a x} {σ} {K K'} (hk:∀σ,K σ→K' σ) (h:Jf P t a x σ K):Jf P t a x σ K':=by
 unfold Jf at h ⊢
 split at h
 ·obtain⟨h1,h2,h3,h4⟩:=h
  refine⟨h1,h2,h3,?_⟩
  split at h4
  ·grind
  ·grind [C6]
  ·grind [C6]
  omega
 omega
theorem Vd {z} {e} {sz} {x} {σ} {K K'} (hk:∀r σ,K r σ→K' r σ) (h:NI z e sz x σ K):NI z e sz x σ K':=by
 unfold NI at h ⊢
 split at h
 ·grind
 ·split at h
  ·grind
  ·rename_i h0
   rw [if_neg h0]
   obtain⟨h0,h1,h2,vs',h3,ds,h4,h5,h6⟩:=h
   exact⟨h0,h1,h2,vs',h3,ds,h4,h5,hk _ _ h6⟩
 ·grind
 omega
theorem Ve {z} {sz} {x} {σ} {K K'} (hk:∀r σ,K r σ→K' r σ) (h:IJ z sz x σ K):IJ z sz x σ K':=by
 unfold IJ at h ⊢
 split at h
 ·grind
 ·grind [C6]
 ·grind
 ·grind
 omega
theorem Vf {pos} {t} {x y} {σ} {K K'} (hk:∀v σ,K v σ→K' v σ) (h:Su P pos t x y σ K):Su P pos t x y σ K':=by
 unfold Su at h ⊢
 split at h
 ·grind [Vd,Ve]
 omega
theorem Pp {t} {m i x} {σ} {K K'} (hk:∀σ,K σ→K' σ) (h:QD P t m i x σ K):QD P t m i x σ K':=by
 unfold QD at h ⊢
 grind
theorem Rv {pos} {o} {σ} {K K'} (hk:∀σ,K σ→K' σ) (h:aop P pos o σ K):aop P pos o σ K':=by
 unfold aop at h ⊢
 split at h
 ·grind
 ·grind
 ·grind [TN]
 ·grind [Pp]
 ·grind [Pp]
 ·grind [Vf]
 grind
theorem F2 {K K'} (hk:∀σ,K σ→K' σ):∀ {cv} {σ},BR cv σ K→BR cv σ K'
 | [],σ,h=>by rw [BR] at h ⊢; grind
 | (n,a,z)::cv,σ,h=>by
  cases a with
  |sub t g p=>
   rw [BR] at h ⊢
   obtain⟨h1,h2,h3,tk,rows,h4,h5,h6,h7,h8⟩:=h
   exact⟨h1,h2,h3,tk,rows,h4,h5,h6,h7,F2 hk h8⟩
  |nils=>rw [BR] at h ⊢; exact⟨h.1,F2 hk h.2⟩
  |bsl b m sz=>rw [BR] at h ⊢; exact⟨h.1,h.2.1,F2 hk h.2.2⟩
  |_=>simp [BR] at h
theorem Hd:∀ {cv} {σ} {K K'},(∀σ,K σ→K' σ)→Ar cv σ K→Ar cv σ K'
 | [],σ,K,K',hk,h=>by rw [Ar] at h ⊢; grind
 | (n,a,z)::cv,σ,K,K',hk,h=>by
  cases a with
  | sub t g p=>
   rw [Ar] at h ⊢
   refine Hd (fun σ h=>?_) h
   cases hn:σ.T n with
   |none=>simp only [hn] at h ⊢; exact hk _ h
   |some tn=>
    simp only [hn] at h ⊢
    obtain⟨tk,h1,h2,h3,h4⟩:=h
    exact⟨tk,h1,h2,h3,hk _ h4⟩
  |_=>
   rw [Ar] at h ⊢
   ·exact Hd (fun σ h=>hk _ h) h
   all_goals (intros; simp_all)
theorem TO {f} {args} {σ} {K K'} (hk:∀v σ,K v σ→K' v σ) (h:PG P f args σ K):PG P f args σ K':=by
 obtain⟨y,as,pt,pb,r,qt,qb,h1,h2⟩:=h
 exact⟨y,as,pt,pb,r,qt,qb,h1,F2 (fun σ h=>⟨h.1,h.2.1,h.2.2.1,h.2.2.2.1,h.2.2.2.2.1,h.2.2.2.2.2.1,h.2.2.2.2.2.2.1,h.2.2.2.2.2.2.2.1,Hd (fun σ h=>hk _ _ h) h.2.2.2.2.2.2.2.2⟩) h2⟩
theorem Rw {K K'} (hk:∀a σ,K a σ→K' a σ):∀ {bs} {args} {σ},FzK bs args σ K→FzK bs args σ K'
 | [],args,σ,h=>hk _ _ h
 |b::bs,args,σ,h=>by
  obtain⟨vs,h1,h2,h3⟩:=h
  exact⟨vs,h1,h2,Rw hk h3⟩
theorem TP {f} {args} {σ} {K K'} (hk:∀v σ,K v σ→K' v σ) (h:UH P f args σ K):UH P f args σ K':=by
 obtain⟨bs,h⟩:=h
 exact⟨bs,Rw (fun _ _ h=>TO hk h) h⟩
theorem Pq {L} {pos} {o} {σ} {K K'} (hk:∀σ,K σ→K' σ) (h:NN P L pos o σ K):NN P L pos o σ K':=by
 rcases h with ⟨hA,h⟩|⟨hL,h⟩|⟨hL,hA,r,h1,h2,h3,h4⟩
 ·exact .inl ⟨hA,Rv hk h⟩
 ·refine .inr (.inl ⟨hL,?_⟩)
  rcases h with h|h|⟨hs,σ1,hn,h⟩
  ·refine .inl ?_
   unfold IL at h ⊢
   split at h
   ·grind [TP]
   omega
  ·refine .inr (.inl ?_)
   unfold SliK at h ⊢
   split at h
   ·split at h
    ·grind
    omega
   omega
  ·exact .inr (.inr ⟨hs,σ1,hn,Rv hk h⟩)
 ·exact .inr (.inr ⟨hL,hA,r,h1,h2,h3,hk _ h4⟩)
theorem Et {ops} {base cut} {K K'} (hk:∀σ,K σ→K' σ):∀ {l} {i} {σ},aops P ops base cut i l σ K→aops P ops base cut i l σ K'
 | [],i,σ,h=>by rw [aops] at h ⊢; grind
 | o::rest,i,σ,h=>by
  rw [aops] at h ⊢
  split at h
  ·exact Pq (fun σ h=>Et hk h) h
  ·obtain⟨s,h1,h⟩:=h
   refine⟨s,h1,?_⟩
   rcases h with ⟨b,h2,h3,h4⟩|⟨h2,h3⟩
   ·exact .inl ⟨b,h2,fun hb=>Pq (fun σ h=>Et hk h) (h3 hb),fun hb=>Et hk (h4 hb)⟩
   ·exact .inr ⟨h2,Et hk h3⟩
theorem Vh {p} {K K'} (hk:∀σ,K σ→K' σ) {σ} (h:seqW p K σ):seqW p K' σ:=by
 unfold seqW at h ⊢
 grind
theorem Ks {P} {ops} {base} {ts}:∀ (tr:Tr) {σ} {K K'},(∀σ,K σ→K' σ)→aTr P ops base ts tr σ K→aTr P ops base ts tr σ K'
 | .fin,σ,K,K',hk,h=>hk σ h
 | .stop,σ,K,K',hk,h=>trivial
 | .fz t,σ,K,K',hk,h=>by
  simp only [aTr] at h ⊢
  obtain⟨σ1,hn,h⟩:=h
  exact⟨σ1,hn,Ks t hk h⟩
 | .br i t more,σ,K,K',hk,h=>by
  simp only [aTr] at h ⊢
  refine⟨?_,Ks more hk h.2⟩
  have h1:=h.1
  split at h1
  ·exact Et (fun σ' h=>Ks t hk h) h1
  ·exact h1.elim
theorem N4 {P} {ops} {base} {r} {i} {o} {acc} {σ} {K K'} (hk:∀acc σ,K acc σ→K' acc σ) (h:IM P ops base r i o acc σ K):IM P ops base r i o acc σ K':=by
 unfold IM at h ⊢
 cases r with
 |no=>grind [Et]
 |al=>
  grind
 |st k=>
  grind
theorem He {P} {ops} {base} {V}:∀ (l:List Oper) {E} {i} {ts} {acc} {σ} {K K'},(∀ts acc σ,K ts acc σ→K' ts acc σ)→De P ops base V E i l ts acc σ K→De P ops base V E i l ts acc σ K'
 | [],E,i,ts,acc,σ,K,K',hk,h=>by grind [De]
 |o::l,[],i,ts,acc,σ,K,K',hk,h=>by simp only [De] at h ⊢; exact N4 (fun acc σ' h=>He l hk h) h
 |o::l,true::E,i,ts,acc,σ,K,K',hk,h=>by simp only [De] at h ⊢; exact He l hk h
 |o::l,false::E,i,ts,acc,σ,K,K',hk,h=>by simp only [De] at h ⊢; exact N4 (fun acc σ' h=>He l hk h) h
theorem Vi {P} {ops} {base} {draw} {σ} {K K'} (hk:∀σ,K σ→K' σ) (h:U6 P ops base draw σ K):U6 P ops base draw σ K':=by
 unfold U6 at h ⊢
 cases draw with
 |false=>exact Et hk h
 |true=>
  rcases h with ⟨E,V,tr,hE,h⟩|⟨F,ds,h1,h2,h3,h4⟩|h
  ·exact .inl ⟨E,V,tr,hE,He _ (fun ts acc σ h=>⟨h.1,Ks tr hk h.2⟩) h⟩
  ·exact .inr (.inl ⟨F,ds,h1,h2,h3,hk _ h4⟩)
  ·exact .inr (.inr fun cx N id a w hP hN hs=>wp_mono (h cx N id a w hP hN hs) fun e a' w' ⟨he,σ',hk',hs'⟩=>⟨he,σ',hk _ hk',hs'⟩)
theorem F3:∀ {c} {Q Q'} {σ},(∀q σ,Q q σ→Q' q σ)→awp P c Q σ→awp P c Q' σ
 | .skip,Q,Q',σ,hq,h=>by rw [awp] at h ⊢; grind
 | .region id ops draw,Q,Q',σ,hq,h=>by rw [awp] at h ⊢; grind [Vi]
 | .seq a b,Q,Q',σ,hq,h=>by
  rw [awp] at h ⊢
  refine F3 (fun q σ h=>?_) h
  cases q with
  |normal=>
   have h':seqW (Ft a) (awp P b Q) σ:=h
   exact Vh (K:=awp P b Q) (K':=awp P b Q') (fun σ h=>F3 hq h) h'
  |exit id=>exact hq _ _ h
  |ret=>exact hq _ _ h
 | .cond c a b,Q,Q',σ,hq,h=>by
  rw [awp] at h ⊢
  obtain⟨v,h1,h2,h3⟩:=h
  exact⟨v,h1,fun e=>F3 hq (h2 e),fun e=>F3 hq (h3 e)⟩
 | .block id b,Q,Q',σ,hq,h=>by
  rw [awp] at h ⊢
  refine F3 (fun q σ h=>?_) h
  cases q with
  |normal=>exact hq _ _ h
  |exit i=>
   grind [AE.inBlock]
  |ret=>exact hq _ _ h
 | .loop b,Q,Q',σ,hq,h=>by
  rw [awp] at h ⊢
  intro L hL
  refine h L fun σ hσ=>hL σ (F3 (fun q σ h=>?_) hσ)
  cases q with
  |normal=>exact h
  |exit id=>exact hq _ _ h
  |ret=>exact hq _ _ h
 | .exit id,Q,Q',σ,hq,h=>by rw [awp] at h ⊢; grind
 | .ret,Q,Q',σ,hq,h=>by rw [awp] at h ⊢; grind
 | .rangeFunc _ _ _ _,Q,Q',σ,hq,h=>by simp [awp] at h
 | .goto _,Q,Q',σ,hq,h=>by simp [awp] at h
 | .label _,Q,Q',σ,hq,h=>by simp [awp] at h
theorem Rx {b} {Q} {σ} (h:awp P b (AE.then (fun σ'=>∃σ1,Wk σ' σ1∧awp P (.loop b) Q σ1) Q) σ):awp P (.loop b) Q σ:=by
 rw [awp]
 intro L hL
 refine⟨σ,.nil σ,hL σ (F3 (fun q σ h=>?_) h)⟩
 cases q with
 |normal=>
  obtain⟨σ1,h1,h2⟩:=h
  rw [awp] at h2
  obtain⟨σ0,h3,h4⟩:=h2 L hL
  exact⟨σ0,h1.trans h3,h4⟩
 |exit id=>exact h
 |ret=>exact h
end
def AY {α:Type} (v:α) (K:α→Prop):Prop:=K v
def optX {α:Type} (o:Option α) (K:α→Prop):Prop:=∃x,o=some x∧K x
def AM (p q:Prop):Prop:=p∧q
def Ic (b:Bool) (p q:Prop):Prop:=(b=true∧p)∨(b=false∧q)
def N5 (b:Bool) (p q:Prop):Prop:=(b=true→p)∧(b=false→q)
structure Wrap {α:Sort _} (a:α):Type where
def eJ {α:Type} (v:α) (K:α→Prop) (_:Wrap K):Prop:=K v
def Ry {α:Type} (o:Option α) (K:α→Prop) (_:Wrap K):Prop:=∃x,o=some x∧K x
def Rz (p q:Prop) (_:Wrap q):Prop:=p∧q
def MP (b:Bool) (p q:Prop) (_:Wrap p) (_:Wrap q):Prop:=(b=true→p)∧(b=false→q)
def W1 (b:Bool) (p q:Prop) (_:Wrap p) (_:Wrap q):Prop:=Ic b p q
@[go_sem ↓] theorem gj {α:Type} {v:α} {K:α→Prop}:AY v K=eJ v K ⟨⟩:=rfl
@[go_sem ↓] theorem gk {α:Type} {o:Option α} {K:α→Prop}:optX o K=Ry o K ⟨⟩:=rfl
@[go_sem ↓] theorem gm {p q:Prop}:AM p q=Rz p q ⟨⟩:=rfl
@[go_sem ↓] theorem eK {b} {p q:Prop}:N5 b p q=MP b p q ⟨⟩ ⟨⟩:=rfl
@[go_sem ↓] theorem go {b} {p q:Prop}:Ic b p q=W1 b p q ⟨⟩ ⟨⟩:=rfl
@[go_sem] theorem gp {α:Type} {v:α} {K:α→Prop} {w:Wrap K}:eJ v K w=K v:=propext Iff.rfl
@[go_sem] theorem cj {α:Type} {x:α} {K:α→Prop} {w:Wrap K}:Ry (some x) K w=K x:=by simp [Ry]
@[go_sem] theorem ck {α:Type} {K:α→Prop} {w:Wrap K}:Ry none K w=False:=by simp [Ry]
@[go_sem] theorem cm {q:Prop} {w}:Rz True q w=q:=by simp [Rz]
@[go_sem] theorem aw {q:Prop} {w}:Rz False q w=False:=by simp [Rz]
@[go_sem] theorem j9 {p:Prop} {w}:Rz p True w=p:=by simp [Rz]
@[go_sem] theorem ax {p q:Prop} {w} {w'}:MP true p q w w'=p:=by simp [MP]
@[go_sem] theorem aD {p q:Prop} {w} {w'}:MP false p q w w'=q:=by simp [MP]
@[go_sem] theorem cn {p q:Prop} {w} {w'}:W1 true p q w w'=p:=by simp [Ic,W1]
@[go_sem] theorem ay {p q:Prop} {w} {w'}:W1 false p q w w'=q:=by simp [Ic,W1]
theorem Eu {α:Type} {x:α} {K:α→Prop}:optX (some x) K=K x:=by simp [optX]
theorem Pr {α:Type} {K:α→Prop}:optX none K=False:=by simp [optX]
theorem AK {p q:Prop} {w} (hp:p) (hq:q):Rz p q w:=⟨hp,hq⟩
theorem Hf {b} {p q:Prop} {w} {w'} (hp:b=true→p) (hq:b=false→q):MP b p q w w':=⟨hp,hq⟩
theorem BN {α:Type} {o:Option α} {x:α} {K:α→Prop} {w:Wrap K} (h:o=some x) (hk:K x):Ry o K w:=⟨x,h,hk⟩
@[go_sem] theorem cp:isMp [] =false:=rfl
@[go_sem] theorem cq {a}:isMp [a] =a.mp?:=rfl
@[go_sem] theorem cr {a b} {l}:isMp (a::b::l)=false:=rfl
@[go_sem] theorem ct:KO [] =true:=rfl
@[go_sem] theorem az {a} {l}:KO (a::l)=(!a.mp?&&KO l):=rfl
@[go_sem] theorem kA:AV.mp? .any =false:=rfl
@[go_sem] theorem gq:AV.one .any =false:=rfl
@[go_sem] theorem kC {k} {n}:AV.mp? (.int k n)=false:=rfl
@[go_sem] theorem gr {k} {n}:AV.one (.int k n)=true:=rfl
@[go_sem] theorem gu {b}:AV.mp? (.bool b)=false:=rfl
@[go_sem] theorem eL {b}:AV.one (.bool b)=true:=rfl
@[go_sem] theorem kD {s}:AV.mp? (.str s)=false:=rfl
@[go_sem] theorem gv {s}:AV.one (.str s)=true:=rfl
@[go_sem] theorem mz {r}:AV.mp? (.ro r)=false:=rfl
@[go_sem] theorem kE {r}:AV.one (.ro r)=true:=rfl
@[go_sem] theorem kF {t}:AV.mp? (.own t)=false:=rfl
@[go_sem] theorem gw {t}:AV.one (.own t)=true:=rfl
@[go_sem] theorem kG {b o}:AV.mp? (.box b o)=false:=rfl
@[go_sem] theorem gx {b o}:AV.one (.box b o)=true:=rfl
@[go_sem] theorem kH {vs} {o}:AV.mp? (.rop vs o)=false:=rfl
@[go_sem] theorem gy {vs} {o}:AV.one (.rop vs o)=true:=rfl
@[go_sem] theorem kI {b n z}:AV.mp? (.bsl b n z)=false:=rfl
@[go_sem] theorem gz {b n z}:AV.one (.bsl b n z)=true:=rfl
@[go_sem] theorem kJ {t z i o}:AV.mp? (.elt t z i o)=false:=rfl
@[go_sem] theorem g3 {t z i o}:AV.one (.elt t z i o)=true:=rfl
@[go_sem] theorem kK {t g} {p}:AV.mp? (.sub t g p)=false:=rfl
@[go_sem] theorem g4 {t g} {p}:AV.one (.sub t g p)=true:=rfl
@[go_sem] theorem kL {t g} {p} {z i o}:AV.mp? (.els t g p z i o)=false:=rfl
@[go_sem] theorem g5 {t g} {p} {z i o}:AV.one (.els t g p z i o)=true:=rfl
@[go_sem] theorem kM {t z i n}:AV.mp? (.par t z i n)=false:=rfl
@[go_sem] theorem g6 {t z i n}:AV.one (.par t z i n)=true:=rfl
@[go_sem] theorem m5 {f} {c}:AV.mp? (.fn f c)=false:=rfl
@[go_sem] theorem kN {f} {c}:AV.one (.fn f c)=true:=rfl
@[go_sem] theorem g7:AV.mp? .nilp =false:=rfl
@[go_sem] theorem eM:AV.one .nilp =true:=rfl
@[go_sem] theorem g8:AV.mp? .nils =false:=rfl
@[go_sem] theorem eN:AV.one .nils =true:=rfl
@[go_sem] theorem kO {b}:AV.mp? (.mpr b)=false:=rfl
@[go_sem] theorem g9 {b}:AV.one (.mpr b)=true:=rfl
@[go_sem] theorem kP {vs}:AV.mp? (.agg vs)=false:=rfl
@[go_sem] theorem hC {vs}:AV.one (.agg vs)=false:=rfl
@[go_sem] theorem kQ {vs}:AV.mp? (.tup vs)=false:=rfl
@[go_sem] theorem hD {vs}:AV.one (.tup vs)=false:=rfl
@[go_sem] theorem kR {q} {r}:AV.mp? (.mpc q r)=true:=rfl
@[go_sem] theorem hH {q} {r}:AV.one (.mpc q r)=false:=rfl
@[go_sem] theorem a6 {α:Type} {j:Nat} {x:α} {l:List (Nat × α)} {i:Nat}:look ((j,x)::l) i=if i=j then some x else look l i:=rfl
@[go_sem] theorem eO {α:Type} {i}:look ([] :List (Nat × α)) i=none:=rfl
@[go_sem] theorem St.T_mk {s t b} {i}:St.T ⟨s,t,b⟩ i=(look t i).join :=rfl
@[go_sem] theorem St.B_mk {s t b} {i}:St.B ⟨s,t,b⟩ i=(look b i).join :=rfl
@[go_sem] theorem St.g_mk {s t b} {i}:St.g ⟨s,t,b⟩ i=(look s i).getD .any :=rfl
@[go_sem] theorem St.t_mk {s t b}:St.t ⟨s,t,b⟩=t:=rfl
@[go_sem] theorem St.b_mk {s t b}:St.b ⟨s,t,b⟩=b:=rfl
@[go_sem] theorem St.s_mk {s t b}:St.s ⟨s,t,b⟩=s:=rfl
@[go_sem] theorem St.e_tmp {σ:St} {t:Tmp}:σ.e (.tmp t)=σ.g t:=rfl
@[go_sem] theorem St.e_func {σ:St} {f:FuncId}:σ.e (.func f)= .fn f [] :=rfl
@[go_sem] theorem St.e_const {σ:St} {v:Value}:σ.e (.const v)=Av v:=rfl
@[go_sem] theorem hI {k} {n}:Av (.int k n)= .int k n:=rfl
@[go_sem] theorem eP {b}:Av (.bool b)= .bool b:=rfl
@[go_sem] theorem hJ {s}:Av (.string s)= .str s:=rfl
@[go_sem] theorem eQ:Av (.slice none 0 0)= .nils :=rfl
@[go_sem] theorem eR:Av (.pointer none)= .nilp :=rfl
@[go_sem] theorem hM {cs}:Av (.agg cs.toArray)= .agg (E3 cs):=by rfl
@[go_sem] theorem eS:E3 [] =[] :=rfl
@[go_sem] theorem cu {v} {vs}:E3 (v::vs)=Av v::E3 vs:=rfl
@[go_sem] theorem eU {s t b} {d} {v}:St.put ⟨s,t,b⟩ (some d) v=⟨(d,v)::s,t,b⟩:=rfl
@[go_sem] theorem eV {σ} {v}:St.put σ none v=σ:=rfl
@[go_sem] theorem eW {s t b} {i}:St.killT ⟨s,t,b⟩ i=⟨s,(i,none)::t,b⟩:=rfl
@[go_sem] theorem hU {s t b} {i} {tk}:St.setT ⟨s,t,b⟩ i tk=⟨s,(i,some tk)::t,b⟩:=rfl
@[go_sem] theorem hY {s t b} {i} {vs}:St.setB ⟨s,t,b⟩ i vs=⟨s,t,(i,some vs)::b⟩:=rfl
attribute [go_sem] Option.join_some Option.join_none Option.getD_some Option.getD_none reduceIte eq_self and_self true_and and_true
attribute [go_sem] List.getElem?_cons_zero List.getElem?_cons_succ List.length_cons List.length_nil List.take_succ_cons List.take_zero List.take_nil List.drop_succ_cons List.drop_zero List.map_cons List.map_nil List.set_cons_zero List.set_cons_succ List.cons_append List.nil_append Option.some.injEq reduceCtorEq TI.isAgg TI.sc splice List.all_cons List.all_nil Bool.and_self Bool.true_and Bool.and_true
def GW (P:Program) (ops:Array Oper) (base cut i:Nat) (l:List Oper) (σ:St) (K:St→Prop) (_:Wrap ops) (_:Wrap l) (_:Wrap K) (_:Wrap cut):Prop:=aops P ops base cut i l σ K
@[go_sem ↓] theorem hZ {P} {ops} {base cut i} {l} {K} {σ}:aops P ops base cut i l σ K=GW P ops base cut i l σ K ⟨⟩ ⟨⟩ ⟨⟩ ⟨⟩:=rfl
section
variable {P:Program} {σ:St} {K:St→Prop} {Q:AE→St→Prop}
@[go_sem ↓] theorem kS:awp P .skip Q σ=Q .normal σ:=by rw [awp]
@[go_sem ↓] theorem eX {id} {l}:awp P (.region id l.toArray false) Q σ=aops P l.toArray (id*1000+1000) 0 0 l σ (Q .normal):=by rw [awp]; rfl
def W2 (P:Program) (id:Nat) (l:List Oper) (Q:AE→St→Prop) (σ:St) (_:Wrap l) (_:Wrap Q) (_:Wrap σ):Prop:=U6 P l.toArray (id*1000+1000) true σ (Q .normal)
@[go_sem ↓] theorem kU {id} {l}:awp P (.region id l.toArray true) Q σ=W2 P id l Q σ ⟨⟩ ⟨⟩ ⟨⟩:=by rw [awp]; rfl
theorem BS {id} {l} {w1} {w2} {w3} (E:List Bool) (tr:Tr) (h:Ix E [] tr l.toArray=true) (k:De P l.toArray (id*1000+1000) [] E 0 l [] [] σ fun ts acc σ'=>U4 acc σ' fun σ'=>aTr P l.toArray (id*1000+1000) ts tr σ' (Q .normal)):W2 P id l Q σ w1 w2 w3:=.inl ⟨E,[],tr,h,k⟩
def FJ (s:List (Nat × AV)) (t:Nat) (v:AV):Prop:=v= .any ∨look s t=some v
@[go_sem] theorem iA {s}:leS s [] =True:=rfl
@[go_sem] theorem eY {s t v r}:leS s ((t,v)::r)=(FJ s t v∧leS s r):=rfl
@[go_sem] theorem iB {s:List (Nat × AV)} {t:Nat} {b:Bool} {v:AV}:FJ s t (if b=true then v else .any)=(b=true→FJ s t v):=propext (by cases b <;> simp [FJ])
def leO1 {α:Type} (s:List (Nat × Option α)) (t:Nat) (v:Option α):Prop:=v=none∨look s t=some v
@[go_sem] theorem iC {α:Type} {s:List (Nat × Option α)}:leO s [] =True:=rfl
@[go_sem] theorem eZ {α:Type} {s:List (Nat × Option α)} {t v r}:leO s ((t,v)::r)=(leO1 s t v∧leO s r):=rfl
@[go_sem] theorem a7 {α:Type} {s:List (Nat × α)}:FI s [] =True:=rfl
@[go_sem] theorem aE {α:Type} {s:List (Nat × α)} {t v r}:FI s ((t,v)::r)=((look s t).isSome =true∧FI s r):=rfl
@[go_sem] theorem St.Le_mk {s t b s' t' b'}:St.Le ⟨s,t,b⟩ ⟨s',t',b'⟩=(leS s s'∧(leO t t'∧FI t' t)∧leO b b'∧FI b' b):=rfl
@[go_sem] theorem DV {S}:U5 S [] =True:=rfl
@[go_sem] theorem Cn {S}:noS S [] =True:=rfl
@[go_sem] theorem Bv {S j r}:noS S (j::r)=(S j=false∧noS S r):=rfl
@[go_sem] theorem Ci {S j r}:U5 S (j::r)=(S j=true∧U5 S r):=rfl
def optK {α:Type} (b:Bool) (p:Nat × α) (r:List (Nat × α)):List (Nat × α):=if b=true then p::r else r
@[go_sem] theorem kV {α:Type} {p:Nat × α} {r}:optK true p r=p::r:=rfl
@[go_sem] theorem kW {α:Type} {p:Nat × α} {r}:optK false p r=r:=rfl
@[go_sem] theorem cw {α:Type} {b:Bool} {t:Nat} {v:α} {r} {x:Nat}:look (optK b (t,v) r) x=if x=t then (if b=true then some v else look r x) else look r x:=by
 grind [optK,AF]
@[go_sem] theorem eb {α:Type} {s:List (Nat × Option α)} {b:Bool} {t:Nat} {v:Option α} {r}:leO s (optK b (t,v) r)=((b=true→leO1 s t v)∧leO s r):=by
 cases b <;> simp [optK,leO,leO1]
@[go_sem] theorem aF {α:Type} {s:List (Nat × α)} {b:Bool} {t:Nat} {v:α} {r}:FI s (optK b (t,v) r)=((b=true→(look s t).isSome =true)∧FI s r):=by
 cases b <;> simp [optK,FI]
theorem EL {ops:Array Oper} {base:Nat} {F:(Nat→Bool)→St} {i:Nat} {o:Oper} {os:List Oper} {d u:List Nat} {ds:List (List Nat × List Nat)} (h:(d.all fun j=>o.after.any fun e=>Region.binds .any e&&e.on == j)=true) (hu:(u.all fun j=>decide (j<ops.size)&&((deps ops.toList).getD j 0).testBit i)=true) (k:∀S:Nat→Bool,S i=false→U5 S d→noS S u→aops P ops base 0 i [o] (F S) fun σ'=>St.Le σ' (F fun j=>if j=i then true else S j))
  (r:HR P ops base F (i+1) os ds):HR P ops base F i (o::os) ((d,u)::ds):=⟨⟨⟨h,hu⟩,k⟩,r⟩
theorem ec {ops:Array Oper} {base:Nat} {F:(Nat→Bool)→St} {i:Nat} {ds:List (List Nat × List Nat)}:HR P ops base F i [] ds:=trivial
theorem a8 {id} {l} {w1} {w2} {w3} (F:(Nat→Bool)→St) (ds:List (List Nat × List Nat)) (h:YR l=true) (h1:St.Le σ (F fun j=>decide (l.length≤j))) (h2:HR P l.toArray (id*1000+1000) F 0 l ds) (k:Q .normal (F fun _=>true)):W2 P id l Q σ w1 w2 w3:=.inr (.inl ⟨F,ds,h,h1,h2,k⟩)
def bA (acc:List (Nat × List AV)) (σ:St) (K:St→Prop) (_:Wrap σ) (_:Wrap K):Prop:=U4 acc σ K
@[go_sem ↓] theorem iD {acc} {σ} {K}:U4 acc σ K=bA acc σ K ⟨⟩ ⟨⟩:=rfl
@[go_sem] theorem ed {σ} {K} {w1 w2}:bA [] σ K w1 w2=K σ:=by
 simp [bA,U4,C4,addB]
attribute [go_sem] addB
def FK (P:Program) (ops:Array Oper) (base:Nat) (V:List (Nat × Nat)) (E:List Bool) (i:Nat) (l:List Oper) (ts:List (Nat × Oper)) (acc:List (Nat × List AV)) (σ:St) (K:List (Nat × Oper)→List (Nat × List AV)→St→Prop) (_:Wrap ops) (_:Wrap l) (_:Wrap ts) (_:Wrap K) (_:Wrap V) (_:Wrap acc):Prop:=De P ops base V E i l ts acc σ K
def TQ (P:Program) (ops:Array Oper) (base:Nat) (r:VR) (i:Nat) (o:Oper) (acc:List (Nat × List AV)) (σ:St) (K:List (Nat × List AV)→St→Prop):Prop:=IM P ops base r i o acc σ K
def QS (P:Program) (ops:Array Oper) (base:Nat) (r:VR) (i:Nat) (o:Oper) (acc:List (Nat × List AV)) (σ:St) (K:List (Nat × List AV)→St→Prop) (_:Wrap ops) (_:Wrap o) (_:Wrap acc) (_:Wrap σ) (_:Wrap K):Prop:=IM P ops base r i o acc σ K
section
variable {ops:Array Oper} {base i:Nat} {V:List (Nat × Nat)} {E:List Bool} {ts:List (Nat × Oper)} {acc:List (Nat × List AV)} {H:List (Nat × Oper)→List (Nat × List AV)→St→Prop} {o:Oper} {l:List Oper} {w1:Wrap ops} {w3:Wrap ts} {w4:Wrap H} {w5:Wrap V} {w6:Wrap acc}
@[go_sem ↓] theorem ee:De P ops base V E i l ts acc σ H=FK P ops base V E i l ts acc σ H ⟨⟩ ⟨⟩ ⟨⟩ ⟨⟩ ⟨⟩ ⟨⟩:=rfl
@[go_sem] theorem m6 {w2}:FK P ops base V E i [] ts acc σ H w1 w2 w3 w4 w5 w6=H ts acc σ:=by rfl
@[go_sem] theorem kX {w2}:FK P ops base V (true::E) i (o::l) ts acc σ H w1 w2 w3 w4 w5 w6=De P ops base V E (i+1) l ((i,o)::ts) acc σ H:=rfl
@[go_sem] theorem iE {w2}:FK P ops base V (false::E) i (o::l) ts acc σ H w1 w2 w3 w4 w5 w6=TQ P ops base (BQ V i) i o acc σ fun acc' σ'=>De P ops base V E (i+1) l ts acc' σ' H:=rfl
@[go_sem] theorem m7 {w2}:FK P ops base V [] i (o::l) ts acc σ H w1 w2 w3 w4 w5 w6=TQ P ops base (BQ V i) i o acc σ fun acc' σ'=>De P ops base V [] (i+1) l ts acc' σ' H:=rfl
@[go_sem] theorem bB {x} {xs b} {w2}:FK P ops base V E i (List.append (x::xs) b) ts acc σ H w1 w2 w3 w4 w5 w6=FK P ops base V E i (x::List.append xs b) ts acc σ H w1 ⟨⟩ w3 w4 w5 w6:=rfl
@[go_sem] theorem cy {b} {w2}:FK P ops base V E i (List.append [] b) ts acc σ H w1 w2 w3 w4 w5 w6=FK P ops base V E i b ts acc σ H w1 ⟨⟩ w3 w4 w5 w6:=rfl
@[go_sem] theorem cz {a b c} {w2}:FK P ops base V E i (List.append (List.append a b) c) ts acc σ H w1 w2 w3 w4 w5 w6=FK P ops base V E i (List.append a (List.append b c)) ts acc σ H w1 ⟨⟩ w3 w4 w5 w6:=by
 unfold FK; rw [show List.append (List.append a b) c=List.append a (List.append b c) from List.append_assoc a b c]
@[go_sem ↓] theorem ef {r} {K}:TQ P ops base r i o acc σ K=QS P ops base r i o acc σ K ⟨⟩ ⟨⟩ ⟨⟩ ⟨⟩ ⟨⟩:=rfl
attribute [go_sem] BQ
@[go_sem] theorem eh {K} {w1 w2 w3 w4 w5}:QS P ops base .no i o acc σ K w1 w2 w3 w4 w5=aops P ops base (i+1) i [o] σ (K acc):=rfl
@[go_sem] theorem ei {K} {dst} {t ty} {ps} {af} {w1 w2 w3 w4 w5}:QS P ops base .al i ⟨dst,.alloc t,ty,ps,af,none⟩ acc σ K w1 w2 w3 w4 w5=AM (0<(tz P t).length ∧(tz P t).length =tsz P t∧isMp ((tz P t).map zAV)=false) (K acc (σ.put dst (.box (base+i) 0))):=rfl
def stV (P:Program) (base k:Nat) (t:TypeId) (x a:AV) (dst:Option Tmp) (acc:List (Nat × List AV)) (σ:St) (K:List (Nat × List AV)→St→Prop):Prop:=match cellsOf x with
 |some cs=>(cs.length=tsz P t∧0<tsz P t∧cs.all AV.one=true)∧a= .box (base+k) 0∧K ((base+k,cs)::acc) (σ.put dst .any)
 |none=>False
@[go_sem] theorem ej {K} {k} {dst} {t ty} {a x} {ps} {af} {w1 w2 w3 w4 w5}:QS P ops base (.st k) i ⟨dst,.store t a x,ty,ps,af,none⟩ acc σ K w1 w2 w3 w4 w5=AY (σ.e x) fun x=>AY (σ.e a) fun a=>stV P base k t x a dst acc σ K:=rfl
def kY (P:Program) (base k:Nat) (t:TypeId) (x a:AV) (dst:Option Tmp) (acc:List (Nat × List AV)) (σ:St) (K:List (Nat × List AV)→St→Prop) (_:Wrap x) (_:Wrap a) (_:Wrap acc) (_:Wrap σ) (_:Wrap K):Prop:=stV P base k t x a dst acc σ K
@[go_sem ↓] theorem kZ {k} {t} {x a} {dst} {K}:stV P base k t x a dst acc σ K=kY P base k t x a dst acc σ K ⟨⟩ ⟨⟩ ⟨⟩ ⟨⟩ ⟨⟩:=rfl
def trX (o:Option Oper) (f:Oper→Prop):Prop:=match o with
 |some o=>f o
 |none=>False
def trY (o:Option Oper) (f:Oper→Prop) (_:Wrap f):Prop:=trX o f
@[go_sem ↓] theorem kc {x} {f}:trX x f=trY x f ⟨⟩:=rfl
@[go_sem] theorem ek {f} {w}:trY (some o) f w=f o:=rfl
def bC (p q:Prop):Prop:=p∧q
def em (p q:Prop) (_:Wrap p) (_:Wrap q):Prop:=p∧q
@[go_sem ↓] theorem iF {p q:Prop}:bC p q=em p q ⟨⟩ ⟨⟩:=rfl
theorem AW {p q:Prop} {w} {w'} (hp:p) (hq:q):em p q w w':=⟨hp,hq⟩
def Mc (P:Program) (ops:Array Oper) (base:Nat) (ts:List (Nat × Oper)) (tr:Tr) (σ:St) (K:St→Prop) (_:Wrap ops) (_:Wrap ts) (_:Wrap K):Prop:=aTr P ops base ts tr σ K
@[go_sem ↓] theorem ke {tr}:aTr P ops base ts tr σ K=Mc P ops base ts tr σ K ⟨⟩ ⟨⟩ ⟨⟩:=rfl
@[go_sem] theorem kf {w3} {w4}:Mc P ops base ts .fin σ K w1 w3 w4=K σ:=rfl
theorem BB {t} {w1} {w3} {w4} {σ1} (hn:Nils σ σ1) (k:aTr P ops base ts t σ1 K):Mc P ops base ts (.fz t) σ K w1 w3 w4:=by
 grind [Mc,aTr]
@[go_sem] theorem kh {t} {w3} {w4}:Mc P ops base ts (.br i t .stop) σ K w1 w3 w4=trX (look ts i) fun o=>aops P ops base 0 i [o] σ fun σ'=>aTr P ops base ts t σ' K:=by
 grind [Mc,trX,aTr]
@[go_sem] theorem kj {t u m} {j} {w3} {w4}:Mc P ops base ts (.br i t (.br j u m)) σ K w1 w3 w4=bC (aTr P ops base ts (.br i t .stop) σ K) (aTr P ops base ts (.br j u m) σ K):=by
 grind [Mc,bC,aTr]
@[go_sem] theorem kl {t} {w3} {w4}:Mc P ops base ts (Tr.sq [] t) σ K w1 w3 w4=Mc P ops base ts t σ K w1 w3 w4:=rfl
@[go_sem] theorem m8 {t} {is} {w3} {w4}:Mc P ops base ts (Tr.sq (i::is) t) σ K w1 w3 w4=Mc P ops base ts (.br i (Tr.sq is t) .stop) σ K w1 w3 w4:=rfl
end
def Yf (p:Bool) (K:St→Prop) (σ:St):Prop:=seqW p K σ
def N6 (p:Bool) (K:St→Prop) (σ:St) (_:Wrap K) (_:Wrap σ):Prop:=seqW p K σ
@[go_sem ↓] theorem iG {p}:Yf p K σ=N6 p K σ ⟨⟩ ⟨⟩:=rfl
@[go_sem] theorem c7 {w1} {w2}:N6 true K σ w1 w2=K σ:=rfl
theorem D3 {w1} {w2} (h:K σ):N6 false K σ w1 w2:=⟨σ,.nil σ,h⟩
theorem bD {w1} {w2} {σ1} (hn:Nils σ σ1) (h:K σ1):N6 false K σ w1 w2:=⟨σ1,.fz hn (.nil σ1),h⟩
theorem Ie {w1} {w2} {σ1} (h:K σ1) (hw:Wk σ σ1):N6 false K σ w1 w2:=⟨σ1,hw,h⟩
@[go_sem] theorem Yg {id:Nat} {l:List Oper}:Ft (.region id l.toArray false)=l.all fun o=>o.guard.isNone&&aa o.op:=rfl
attribute [go_sem] aa Bool.and_true Bool.true_and Bool.and_false Bool.false_and
@[go_sem] theorem bE {id:Nat} {l:List Oper}:Ft (.region id l.toArray true)=false:=rfl
@[go_sem] theorem bF:Ft .skip =false:=rfl
@[go_sem] theorem c9 {a b}:Ft (.seq a b)=false:=rfl
@[go_sem] theorem bG {c} {a b}:Ft (.cond c a b)=false:=rfl
@[go_sem] theorem aG {id} {a}:Ft (.block id a)=false:=rfl
@[go_sem] theorem bH {a}:Ft (.loop a)=false:=rfl
@[go_sem] theorem bI {id}:Ft (.exit id)=false:=rfl
@[go_sem] theorem dA:Ft .ret =false:=rfl
attribute [go_sem] Option.isNone_none Option.isNone_some List.all_cons List.all_nil
@[go_sem ↓] theorem m9 {a b}:awp P (.seq a b) Q σ=awp P a (AE.then (Yf (Ft a) (awp P b Q)) Q) σ:=by rw [awp]; rfl
@[go_sem ↓] theorem km {c} {a b}:awp P (.cond c a b) Q σ=AY (σ.e c) fun v=>UJ v (awp P a Q σ) (awp P b Q σ):=by rw [awp]; rfl
@[go_sem ↓] theorem iH {id} {c}:awp P (.block id c) Q σ=awp P c (AE.inBlock id Q) σ:=by rw [awp]
@[go_sem ↓] theorem ko {id}:awp P (.exit id) Q σ=Q (.exit id) σ:=by rw [awp]
@[go_sem ↓] theorem nA:awp P .ret Q σ=Q .ret σ:=by rw [awp]
@[go_sem] theorem TR {b} {p q:Prop}:UJ (.bool b) p q=N5 b p q:=by simp [UJ,N5]
@[go_sem ↓] theorem aH {n}:AE.then n Q .normal σ=n σ:=rfl
@[go_sem ↓] theorem dB {n} {id}:AE.then n Q (.exit id) σ=Q (.exit id) σ:=rfl
@[go_sem ↓] theorem eo {n}:AE.then n Q .ret σ=Q .ret σ:=rfl
@[go_sem ↓] theorem Yh {id}:AE.inBlock id Q .normal σ=Q .normal σ:=rfl
@[go_sem ↓] theorem dC {id}:AE.inBlock id Q .ret σ=Q .ret σ:=rfl
def MQ (P:Program) (b:Code) (Q:AE→St→Prop) (σ:St) (_:Wrap b) (_:Wrap Q):Prop:=awp P (.loop b) Q σ
def lpX (P:Program) (b:Code) (Q:AE→St→Prop) (σ:St):Prop:=∃σ1,Wk σ σ1∧awp P (.loop b) Q σ1
def lpY (P:Program) (b:Code) (Q:AE→St→Prop) (σ:St) (_:Wrap b) (_:Wrap Q) (_:Wrap σ):Prop:=∃σ1,Wk σ σ1∧awp P (.loop b) Q σ1
@[go_sem ↓] theorem kq {b}:lpX P b Q σ=lpY P b Q σ ⟨⟩ ⟨⟩ ⟨⟩:=rfl
theorem R0 {b} {w1} {w2} {w3} {σ1} (h:awp P (.loop b) Q σ1) (hw:Wk σ σ1):lpY P b Q σ w1 w2 w3:=⟨σ1,hw,h⟩
theorem Bw {b} {w1} {w2} (h:awp P b (AE.then (lpX P b Q) Q) σ):MQ P b Q σ w1 w2:=Rx h
@[go_sem ↓] theorem dD {b}:awp P (.loop b) Q σ=MQ P b Q σ ⟨⟩ ⟨⟩:=rfl
@[go_sem ↓] theorem bJ {id i}:AE.inBlock id Q (.exit i) σ=Ic (decide (i=id)) (Q .normal σ) (Q (.exit i) σ):=by
 simp only [AE.inBlock,Ic]
 by_cases h:i=id <;> simp [h]
attribute [go_sem] decide_true decide_false
def opX (P:Program) (pos:Nat) (dst:Option Tmp) (op:Op) (σ:St) (K:St→Prop):Prop:=aop P pos ⟨dst,op,0, "",#[],none⟩ σ K
def opL (P:Program) (L:Bool) (pos:Nat) (dst:Option Tmp) (op:Op) (σ:St) (K:St→Prop) (_:Wrap L):Prop:=NN P L pos ⟨dst,op,0, "",#[],none⟩ σ K
@[go_sem] theorem nC {ops} {base cut i} {w1} {w2} {w3} {w4}:GW P ops base cut i [] σ K w1 w2 w3 w4=K σ:=by rw [GW,aops]
@[go_sem] theorem kr {ops} {base cut i} {dst} {op} {type} {ps} {after} {rest} {w1} {w2} {w3} {w4}:
  GW P ops base cut i (⟨dst,op,type,ps,after,none⟩::rest) σ K w1 w2 w3 w4=opL P (decide (cut≤i)) (base+i) dst op σ (fun σ'=>aops P ops base cut (i+1) rest σ' K) ⟨⟩:=by
 rw [GW,aops]; rfl
def G3 (ops:Array Oper) (j:Nat) (K:Tmp→Prop):Prop:=optX (FV ops j) K
@[go_sem ↓] theorem TS {dst} {op} {type} {ps} {after} {g} {rest} {K}:G3 (List.toArray (⟨some dst,op,type,ps,after,g⟩::rest)) 0 K=K dst:=by
 simp [G3,FV,optX]
@[go_sem ↓] theorem TT {o} {rest} {j} {K}:G3 (List.toArray (o::rest)) (j+1) K=G3 rest.toArray j K:=by
 simp [G3,FV]
def Jy (v:AV) (want:Bool) (p q q':Prop):Prop:=(∃b,v= .bool b∧(b=want→p)∧(b= !want→q))∨(v= .tup [] ∧q')
@[go_sem ↓] theorem R1 {b} {p q q':Prop}:Jy (.bool b) true p q q'=N5 b p q:=by simp [Jy,N5]
@[go_sem ↓] theorem QT {b} {p q q':Prop}:Jy (.bool b) false p q q'=N5 b q p:=by
 grind [Jy,N5]
@[go_sem ↓] theorem Vj {want} {p q q':Prop}:Jy (.tup []) want p q q'=q':=by simp [Jy]
@[go_sem] theorem iI {ops} {base cut i} {dst} {op} {type} {ps} {after} {j} {want} {rest} {w1} {w2} {w3} {w4}:
  GW P ops base cut i (⟨dst,op,type,ps,after,some (j,want)⟩::rest) σ K w1 w2 w3 w4=G3 ops j fun s=>AY (σ.g s) fun v=>Jy v want
   (opL P (decide (cut≤i)) (base+i) dst op (σ.put (some s) (.bool want)) (fun σ'=>aops P ops base cut (i+1) rest σ' K) ⟨⟩)
   (aops P ops base cut (i+1) rest ((σ.put (some s) (.bool (!want))).put dst (.tup [])) K)
   (aops P ops base cut (i+1) rest (σ.put dst (.tup [])) K):=by
 rw [GW,aops]
 rfl
section
variable {L:Bool} {pos:Nat} {dst:Option Tmp} {wL:Wrap L}
theorem Ps {σ:St} {o:Oper} (h:KW o=false):NM σ o=false:=by
 unfold NM
 split
 ·rename_i h1; simp [KW,h1] at h
 ·rfl
theorem Bk {op} (h:∀ (σ:St) (K:St→Prop),IL P ⟨dst,op,0, "",#[],none⟩ σ K=False) (hA:KW ⟨dst,op,0, "",#[],none⟩=false:=by rfl) (hS:SliK P pos ⟨dst,op,0, "",#[],none⟩ σ K=False:=by rfl):opL P L pos dst op σ K wL=opX P pos dst op σ K:=by
 have:=Ps (σ:=σ) hA
 grind [opL,NN,opX]
@[go_sem ↓] theorem ep {x}:opL P L pos dst (.move x) σ K wL=opX P pos dst (.move x) σ K:=Bk fun _ _=>rfl
@[go_sem ↓] theorem bK {x}:opL P L pos dst (.assign x) σ K wL=opX P pos dst (.assign x) σ K:=Bk fun _ _=>rfl
@[go_sem ↓] theorem eq {a b c}:opL P L pos dst (.pick c a b) σ K wL=opX P pos dst (.pick c a b) σ K:=Bk fun _ _=>rfl
@[go_sem ↓] theorem eu {t} {a}:opL P L pos dst (.load t a) σ K wL=opX P pos dst (.load t a) σ K:=Bk fun _ _=>rfl
@[go_sem ↓] theorem Yi {x}:opL P L pos dst (.nilCheck x) σ K wL=opX P pos dst (.nilCheck x) σ K:=Bk fun _ _=>rfl
@[go_sem ↓] theorem iJ {op} {t t'} {x y}:opL P L pos dst (.binOp op t x y t') σ K wL=opX P pos dst (.binOp op t x y t') σ K:=Bk fun _ _=>rfl
@[go_sem ↓] theorem kw {op} {t} {x}:opL P L pos dst (.unOp op t x) σ K wL=opX P pos dst (.unOp op t x) σ K:=Bk fun _ _=>rfl
@[go_sem ↓] theorem aI {s d} {x}:opL P L pos dst (.convert s d x) σ K wL=opX P pos dst (.convert s d x) σ K:=Bk fun _ _=>rfl
@[go_sem ↓] theorem YJ {s} {x} {f}:opL P L pos dst (.fieldAddr s x f) σ K wL=opX P pos dst (.fieldAddr s x f) σ K:=Bk fun _ _=>rfl
@[go_sem ↓] theorem dE {s} {x} {f}:opL P L pos dst (.field s x f) σ K wL=opX P pos dst (.field s x f) σ K:=Bk fun _ _=>rfl
@[go_sem ↓] theorem YK {t} {x i}:opL P L pos dst (.indexAddr t x i) σ K wL=opX P pos dst (.indexAddr t x i) σ K:=Bk fun _ _=>rfl
@[go_sem ↓] theorem dF {t} {x i}:opL P L pos dst (.index t x i) σ K wL=opX P pos dst (.index t x i) σ K:=Bk fun _ _=>rfl
def TU (P:Program) (L:Bool) (pos:Nat) (dst:Option Tmp) (op:Op) (v:AV) (σ:St) (K:St→Prop):Prop:=opX P pos dst op σ K∨(L=true∧(match v with| .own _=>True|_=>False)∧SliK P pos ⟨dst,op,0, "",#[],none⟩ σ K)
def W3 (P:Program) (L:Bool) (pos:Nat) (dst:Option Tmp) (op:Op) (v:AV) (σ:St) (K:St→Prop) (_:Wrap σ) (_:Wrap K) (_:Wrap op):Prop:=TU P L pos dst op v σ K
@[go_sem ↓] theorem iK {op} {v}:TU P L pos dst op v σ K=W3 P L pos dst op v σ K ⟨⟩ ⟨⟩ ⟨⟩:=rfl
@[go_sem] theorem iL {op} {rows} {w1 w2 w3}:W3 P L pos dst op (.ro rows) σ K w1 w2 w3=opX P pos dst op σ K:=by simp [W3,TU]
@[go_sem] theorem ew {op} {s} {w1 w2 w3}:W3 P L pos dst op (.str s) σ K w1 w2 w3=opX P pos dst op σ K:=by simp [W3,TU]
theorem Vk {t} {x} {l h m}:opL P L pos dst (.slice t x l h m) σ K wL=TU P L pos dst (.slice t x l h m) (σ.e x) σ K:=by
 have h1:IL P ⟨dst,.slice t x l h m,0, "",#[],none⟩ σ K=False:=rfl
 have h2:KW ⟨dst,.slice t x l h m,0, "",#[],none⟩=false:=rfl
 have h3:SliK P pos ⟨dst,.slice t x l h m,0, "",#[],none⟩ σ K=((match σ.e x with| .own _=>True|_=>False)∧SliK P pos ⟨dst,.slice t x l h m,0, "",#[],none⟩ σ K):=by
  grind [SliK]
 have h4:=Ps (σ:=σ) h2
 grind [opL,NN,TU,opX]
@[go_sem ↓] theorem bL {t} {x} {l h m}:opL P L pos dst (.slice t x l h m) σ K wL=AY (σ.e x) fun v=>TU P L pos dst (.slice t x l h m) v σ K:=Vk
@[go_sem ↓] theorem aJ {x} {i}:opL P L pos dst (.extract x i) σ K wL=opX P pos dst (.extract x i) σ K:=Bk fun _ _=>rfl
@[go_sem ↓] theorem Yj {c} {a b}:opL P L pos dst (.makeFunc c a b) σ K wL=opX P pos dst (.makeFunc c a b) σ K:=Bk fun _ _=>rfl
@[go_sem ↓] theorem iM {t} {x}:opL P L pos dst (.box t x) σ K wL=opX P pos dst (.box t x) σ K:=Bk fun _ _=>rfl
@[go_sem ↓] theorem dG {t}:opL P L pos dst (.alloc t) σ K wL=opX P pos dst (.alloc t) σ K:=Bk fun _ _=>rfl
@[go_sem ↓] theorem dH {t} {ps}:opL P L pos dst (.build t ps) σ K wL=opX P pos dst (.build t ps) σ K:=Bk fun _ _=>rfl
@[go_sem ↓] theorem W4 {t} {n} {ps}:opL P L pos dst (.buildSlice t n ps) σ K wL=opX P pos dst (.buildSlice t n ps) σ K:=Bk fun _ _=>rfl
@[go_sem ↓] theorem YL {t} {l c}:opL P L pos dst (.makeSlice t l c) σ K wL=opX P pos dst (.makeSlice t l c) σ K:=Bk fun _ _=>rfl
@[go_sem ↓] theorem aK {t} {r}:opL P L pos dst (.makeMap t r) σ K wL=opX P pos dst (.makeMap t r) σ K:=Bk fun _ _=>rfl
@[go_sem ↓] theorem bM {t} {x i} {ok}:opL P L pos dst (.lookup t x i ok) σ K wL=opX P pos dst (.lookup t x i ok) σ K:=Bk fun _ _=>rfl
@[go_sem ↓] theorem YM {t} {m i x}:opL P L pos dst (.mapUpdate t m i x) σ K wL=opX P pos dst (.mapUpdate t m i x) σ K:=Bk fun _ _=>rfl
@[go_sem ↓] theorem bN {t} {m i x}:opL P L pos dst (.insert t m i x) σ K wL=opX P pos dst (.insert t m i x) σ K:=Bk fun _ _=>rfl
@[go_sem ↓] theorem dI {t} {a x}:opL P L pos dst (.store t a x) σ K wL=opX P pos dst (.store t a x) σ K:=Bk fun _ _=>rfl
@[go_sem ↓] theorem iN {as} {ts}:opL P L pos dst (.call ⟨.builtin .len,as,ts⟩) σ K wL=opX P pos dst (.call ⟨.builtin .len,as,ts⟩) σ K:=Bk fun _ _=>rfl
@[go_sem ↓] theorem iO {as} {ts}:opL P L pos dst (.call ⟨.builtin .max,as,ts⟩) σ K wL=opX P pos dst (.call ⟨.builtin .max,as,ts⟩) σ K:=Bk fun _ _=>rfl
@[go_sem ↓] theorem iP {as} {ts}:opL P L pos dst (.call ⟨.builtin .min,as,ts⟩) σ K wL=opX P pos dst (.call ⟨.builtin .min,as,ts⟩) σ K:=Bk fun _ _=>rfl
def opE (P:Program) (pos:Nat) (dst:Option Tmp) (op:Op) (σ:St) (K:St→Prop):Prop:=∃r,Ev P pos ⟨dst,op,0, "",#[],none⟩ σ.e σ.T σ.B r∧Bt σ r.t∧C4 σ r.b∧K (σ.add dst r)
def Vl (L:Bool) (p q:Prop) (_:Wrap p) (_:Wrap q):Prop:=(L=true∧p)∨(L=false∧q)
@[go_sem] theorem dJ {p q:Prop} {w1} {w2}:Vl true p q w1 w2=p:=by simp [Vl]
@[go_sem] theorem bO {p q:Prop} {w1} {w2}:Vl false p q w1 w2=q:=by simp [Vl]
def QU (P:Program) (pos:Nat) (dst:Option Tmp) (op:Op) (u:AV) (σ:St) (K:St→Prop):Prop:=opX P pos dst op σ K∨(UI u=true∧∃σ1,Nils σ σ1∧opX P pos dst op σ1 K)
def naY (P:Program) (pos:Nat) (dst:Option Tmp) (op:Op) (u:AV) (σ:St) (K:St→Prop) (_:Wrap σ) (_:Wrap K) (_:Wrap op):Prop:=QU P pos dst op u σ K
@[go_sem ↓] theorem iQ {op} {t g p}:QU P pos dst op (.sub t g p) σ K=naY P pos dst op (.sub t g p) σ K ⟨⟩ ⟨⟩ ⟨⟩:=rfl
theorem TV {op} {u} (h:UI u=false):QU P pos dst op u σ K=opX P pos dst op σ K:=by simp [QU,h]
@[go_sem ↓] theorem iR {op} {t}:QU P pos dst op (.own t) σ K=opX P pos dst op σ K:=TV rfl
@[go_sem ↓] theorem e9 {op}:QU P pos dst op .nils σ K=opX P pos dst op σ K:=TV rfl
@[go_sem ↓] theorem iS {op} {b n sz}:QU P pos dst op (.bsl b n sz) σ K=opX P pos dst op σ K:=TV rfl
@[go_sem ↓] theorem bP {x y} {ts}:opL P L pos dst (.call ⟨.builtin .append,List.toArray [x,y],ts⟩) σ K wL=Vl L (AY (σ.e x) fun u=>QU P pos dst (.call ⟨.builtin .append,List.toArray [x,y],ts⟩) u σ K) (opE P pos dst (.call ⟨.builtin .append,List.toArray [x,y],ts⟩) σ K) ⟨⟩ ⟨⟩:=by
 have h1:NM σ ⟨dst,.call ⟨.builtin .append,List.toArray [x,y],ts⟩,0, "",#[],none⟩=UI (σ.e x):=rfl
 simp only [AY]
 grind [IL,KW,SliK,opL,NN,opX,Vl,opE,QU]
end
attribute [go_sem] Bool.not_true Bool.not_false Nat.zero_le
theorem EM {pos:Nat} {dst:Option Tmp} {op:Op} (h:∀K',aop P pos ⟨dst,op,0, "",#[],none⟩ σ K'=∃r,Ev P pos ⟨dst,op,0, "",#[],none⟩ σ.e σ.T σ.B r∧Bt σ r.t∧C4 σ r.b∧K' (σ.add dst r)) {p:AV→Prop} (hp:∀r,Ev P pos ⟨dst,op,0, "",#[],none⟩ σ.e σ.T σ.B r=∃v,p v∧r=⟨v,[],[]⟩):
  opX P pos dst op σ K=∃v,p v∧K (σ.put dst v):=by
 unfold opX
 rw [h]
 refine propext ⟨?_,?_⟩
 ·rintro ⟨r,h1,h2,h3,h4⟩
  rw [hp] at h1
  obtain⟨v,h5,rfl⟩:=h1
  exact⟨v,h5,by cases dst <;> exact h4⟩
 ·rintro ⟨v,h5,h4⟩
  exact⟨⟨v,[],[]⟩,by rw [hp]; grind,trivial,trivial,by cases dst <;> exact h4⟩
@[go_sem ↓] theorem kx {pos:Nat} {dst:Option Tmp} {x:Operand}:opX P pos dst (.move x) σ K=AY (σ.e x) fun v=>K (σ.put dst v):=by
 rw [EM (p:=fun v=>v=σ.e x) (fun _=>by rfl) (fun r=>by simp [Ev])]
 simp [AY]
@[go_sem ↓] theorem fA {pos:Nat} {dst:Option Tmp} {x:Operand}:opX P pos dst (.assign x) σ K=AY (σ.e x) fun v=>K (σ.put dst v):=by
 rw [EM (p:=fun v=>v=σ.e x) (fun _=>by rfl) (fun r=>by simp [Ev])]
 simp [AY]
def N7 (c a b:AV) (K:AV→Prop):Prop:=∃t,c= .bool t∧K (if t=true then a else b)
@[go_sem] theorem TW {a b} {K}:N7 (.bool true) a b K=K a:=by simp [N7]
@[go_sem] theorem R2 {a b} {K}:N7 (.bool false) a b K=K b:=by simp [N7]
theorem bQ {pos:Nat} {dst:Option Tmp} {c a b:Operand}:opX P pos dst (.pick c a b) σ K=N7 (σ.e c) (σ.e a) (σ.e b) fun v=>K (σ.put dst v):=by
 rw [EM (p:=fun v=>∃t,σ.e c= .bool t∧v=if t=true then σ.e a else σ.e b) (fun _=>by rfl) (fun r=>by
  grind [Ev])]
 grind [N7]
def If (P:Program) (t:TypeId) (a:AV) (σ:St) (K:AV→Prop):Prop:=∃v,Fs P σ.T σ.B t a v∧K v
def ldX (P:Program) (t:TypeId) (off:Nat) (vs:List AV) (K:AV→Prop):Prop:=
 Ic (ti P t).isAgg (AM (off+tsz P t≤vs.length) (AY (.agg (Db vs off (tsz P t))) K)) (AM ((ti P t).sc =true) (optX vs[off]? K))
theorem bR {pos:Nat} {dst:Option Tmp} {t:TypeId} {a:Operand}:opX P pos dst (.load t a) σ K=If P t (σ.e a) σ fun v=>K (σ.put dst v):=
 EM (p:=fun v=>Fs P σ.T σ.B t (σ.e a) v) (fun _=>by rfl) (fun r=>by rfl)
@[go_sem] theorem Vm {t} {b off} {K}:If P t (.box b off) σ K=optX (σ.B b) fun vs=>AM (isMp vs=false) (ldX P t off vs K):=by
 grind [If,Fs,optX,ldX,Ic,AM,AY]
@[go_sem] theorem Vn {t} {vs} {off} {K}:If P t (.rop vs off) σ K=ldX P t off vs K:=by
 grind [If,Fs,optX,ldX,Ic,AM,AY]
@[go_sem] theorem Vo {t} {t' sz i off} {K}:If P t (.elt t' sz i off) σ K=
  optX (σ.T t') fun tk=>optX tk.rows[i]? fun row=>AM (row.length=sz) (Ic (ti P t).isAgg (AM (off+tsz P t≤sz) (AY (.agg (Jc t' tk.gen [] sz i row off (tsz P t))) K)) (AM ((ti P t).sc =true) (optX row[off]? fun d=>K (ofT t' tk.gen [] sz i off d)))):=by
 grind [If,Fs,optX,Ic,AM,AY]
@[go_sem] theorem Vp {t} {t' g} {p} {sz i off} {K}:If P t (.els t' g p sz i off) σ K=
  optX (subR σ.T t' g p) fun rows=>optX rows[i]? fun row=>AM (row.length=sz) (Ic (ti P t).isAgg (AM (off+tsz P t≤sz) (AY (.agg (Jc t' g p sz i row off (tsz P t))) K)) (AM ((ti P t).sc =true) (optX row[off]? fun d=>K (ofT t' g p sz i off d)))):=by
 grind [If,Fs,optX,Ic,AM,AY]
def bS (o:Option Tok) (g:Nat) (p:Pth):Option (List (List D)):=match o with
 |some tk=>if tk.gen=g then getP p tk.rows else none
 |none=>none
@[go_sem ↓] theorem iT {T} {t g} {p}:subR T t g p=bS (T t) g p:=rfl
@[go_sem] theorem dK {rows} {ap} {g} {q} {p}:bS (some ⟨rows,ap,g,q⟩) g p=getP p rows:=by simp [bS]
def W5 (o:Option Tok) (g:Nat) (p:Pth):Option (List (List D)):=match o with
 |some tk=>if tk.gen=g then (getP p tk.rows).map tk.er else none
 |none=>none
@[go_sem ↓] theorem iU {T} {t g} {p}:subE T t g p=W5 (T t) g p:=rfl
@[go_sem] theorem bT {rows} {ap} {g} {q} {p}:W5 (some ⟨rows,ap,g,q⟩) g p=(getP p rows).map (zer q):=by
 simp only [W5,if_true]; rfl
@[go_sem] theorem dL {r}:zer .no r=r:=rfl
@[go_sem] theorem fB {r}:zer .yes r=erR r:=rfl
@[go_sem] theorem ky {r}:zer .nl r=erR r:=rfl
@[go_sem] theorem nD {rows} {ap} {g} {q}:Tok.rd ⟨rows,ap,g,q⟩=zer q rows:=rfl
@[go_sem] theorem nE {rows r} {ap} {g} {q}:Tok.er ⟨rows,ap,g,q⟩ r=zer q r:=rfl
@[go_sem] theorem dM {z} {rows} {ap} {g}:okZ z ⟨rows,ap,g,.no⟩=true:=rfl
@[go_sem] theorem kz {z} {rows} {ap} {g}:okZ z ⟨rows,ap,g,.nl⟩=true:=rfl
@[go_sem] theorem fC {q} {rows} {ap} {g}:okZ .yes ⟨rows,ap,g,q⟩=true:=by cases q <;> rfl
@[go_sem] theorem fD {q} {rows} {ap} {g}:okZ q ⟨rows,ap,g,q⟩=true:=by cases q <;> rfl
@[go_sem] theorem fE {rows}:getP [] rows=some rows:=rfl
def W6 (d:D) (K:List (List D)→Prop):Prop:=match ES d with|some r=>K r|none=>False
@[go_sem] theorem iV {r} {K}:W6 (.sl r) K=K r:=rfl
@[go_sem] theorem iW {K}:W6 .nl K=K [] :=rfl
@[go_sem ↓] theorem dN {sz i j} {p} {rows} {K}:optX (getP ((sz,i,j)::p) rows) K=optX rows[i]? fun row=>AM (row.length=sz) (optX row[j]? fun d=>W6 d fun r=>optX (getP p r) K):=by
 simp only [getP,optX,AM]
 cases rows[i]? with
 |none=>simp
 | some row=>
  by_cases h:row.length=sz
  ·simp only [h,if_true,true_and,Option.some.injEq,exists_eq_left']
   cases row[j]? with
   |none=>simp
   |some d=>cases d <;> simp [W6,ES]
  grind
@[go_sem] theorem bU {t g} {p} {sz i} {d} {ds} {off n}:Jc t g p sz i (d::ds) off n=RE t g p sz i off (((d::ds).drop off).take n):=rfl
attribute [go_sem ↓] ldX
attribute [go_sem] Db ofD H0 ofS RE
@[go_sem] theorem iX {t g} {p} {sz i j} {k} {n}:ofT t g p sz i j (.int k n)= .int k n:=rfl
@[go_sem] theorem fF {t g} {p} {sz i j} {b}:ofT t g p sz i j (.bool b)= .bool b:=rfl
@[go_sem] theorem iY {t g} {p} {sz i j} {s}:ofT t g p sz i j (.str s)= .str s:=rfl
@[go_sem] theorem lA {t g} {p} {sz i j} {r}:ofT t g p sz i j (.sl r)= .sub t g (p++[(sz,i,j)]):=rfl
@[go_sem] theorem fG {t g} {p} {sz i j}:ofT t g p sz i j .gone = .any :=rfl
@[go_sem] theorem lC {t g} {p} {sz i j} {r}:ofT t g p sz i j (.fz r)= .ro r:=rfl
@[go_sem] theorem iZ {t g} {p} {sz i j} {ds}:ofT t g p sz i j (.ptr ds)= .rop (H0 ds) 0:=rfl
@[go_sem] theorem fH {t g} {p} {sz i j}:ofT t g p sz i j .nilp = .nilp :=rfl
@[go_sem] theorem lD {t g} {p} {sz i j}:ofT t g p sz i j .nl = .sub t g (p++[(sz,i,j)]):=rfl
end
attribute [go_sem ↓] TR R1 QT Vj TW R2 Vm Vn Vo Vp
end Go.Proofs.YtoncbhomocgmcaaGreatDoor.Ab
namespace Go.Proofs.YtoncbhomocgmcaaGreatDoor.Ab
set_option linter.unusedVariables false
set_option maxHeartbeats 1000000
open Go.RowKit
section
variable {P:Program} {σ:St} {K:St→Prop} {Q:AE→St→Prop}
theorem Lk {pos} {dst} {op} (h:∀K',aop P pos ⟨dst,op,0, "",#[],none⟩ σ K'=∃r,Ev P pos ⟨dst,op,0, "",#[],none⟩ σ.e σ.T σ.B r∧Bt σ r.t∧C4 σ r.b∧K' (σ.add dst r)):
  opX P pos dst op σ K=∃r,Ev P pos ⟨dst,op,0, "",#[],none⟩ σ.e σ.T σ.B r∧Bt σ r.t∧C4 σ r.b∧K (σ.add dst r):=h K
def QV (v:AV) (K:AV→Prop):Prop:=match v with
 | .box b off=>K (.box b off)
 | .rop ds off=>K (.rop ds off)
 | .elt t sz i off=>K (.elt t sz i off)
 | .els t g p sz i off=>K (.els t g p sz i off)
 |_=>False
@[go_sem] theorem W7 {b off} {K}:QV (.box b off) K=K (.box b off):=rfl
@[go_sem] theorem W8 {ds} {off} {K}:QV (.rop ds off) K=K (.rop ds off):=rfl
@[go_sem] theorem W9 {t sz i off} {K}:QV (.elt t sz i off) K=K (.elt t sz i off):=rfl
@[go_sem] theorem XA {t g} {p} {sz i off} {K}:QV (.els t g p sz i off) K=K (.els t g p sz i off):=rfl
theorem TX {pos} {dst} {x}:opX P pos dst (.nilCheck x) σ K=QV (σ.e x) fun v=>K (σ.put dst v):=by
 rw [EM (p:=fun v=>QV (σ.e x) fun u=>v=u) (fun _=>by rfl) (fun r=>by
  simp only [Ev,QV]
  generalize σ.e x=v
  cases v <;> simp)]
 unfold QV
 generalize σ.e x=v
 cases v <;> simp
def BC (P:Program) (op:BinOp) (t:TypeId) (x y:AV) (K:AV→Prop):Prop:=∃v,Bin P op t x y v∧K v
def XB (op:BinOp) (y:Operand):Bool:=match op,y with
 | .eql,.const (.slice none 0 0)=>false
 | .neq,.const (.slice none 0 0)=>false
 |_,_=>true
theorem R3 {pos} {dst} {op} {t t'} {x y} (hn:XB op y=true):opX P pos dst (.binOp op t x y t') σ K=BC P op t (σ.e x) (σ.e y) fun v=>K (σ.put dst v):=
 EM (p:=fun v=>Bin P op t (σ.e x) (σ.e y) v) (fun _=>by
  grind [aop,XB]) (fun r=>by rfl)
section
variable {pos:Nat} {dst:Option Tmp} {op:BinOp} {t t':TypeId} {x:Operand}
theorem Vq {y}:opX P pos dst (.binOp op t x (.tmp y) t') σ K=BC P op t (σ.e x) (σ.g y) fun v=>K (σ.put dst v):=R3 (by cases op <;> rfl)
theorem Vr {k} {n}:opX P pos dst (.binOp op t x (.const (.int k n)) t') σ K=BC P op t (σ.e x) (.int k n) fun v=>K (σ.put dst v):=R3 (by cases op <;> rfl)
theorem TY {b}:opX P pos dst (.binOp op t x (.const (.bool b)) t') σ K=BC P op t (σ.e x) (.bool b) fun v=>K (σ.put dst v):=R3 (by cases op <;> rfl)
theorem Vs {s}:opX P pos dst (.binOp op t x (.const (.string s)) t') σ K=BC P op t (σ.e x) (.str s) fun v=>K (σ.put dst v):=R3 (by cases op <;> rfl)
theorem TZ:opX P pos dst (.binOp op t x (.const (.pointer none)) t') σ K=BC P op t (σ.e x) .nilp fun v=>K (σ.put dst v):=R3 (by cases op <;> rfl)
def R4 (P:Program) (t:TypeId) (v:AV) (σ:St) (K:Bool→Prop):Prop:=(∃e,ti P t= .sl e)∧HQ v=true∧∀b,U2 σ.T v b→K b
def slP (t:TI):Prop:=∃e,t= .sl e
@[go_sem] theorem lE {e}:slP (.sl e)=True:=by simp [slP]
@[go_sem] theorem Pt {K}:R4 P t .nils σ K=AM (slP (ti P t)) (K true):=by simp [R4,HQ,U2,AM,slP]
@[go_sem] theorem R5 {b n sz} {K}:R4 P t (.bsl b n sz) σ K=AM (slP (ti P t)) (K false):=by simp [R4,HQ,U2,AM,slP]
theorem Yk {rows} {K} (h:slP (ti P t)) (h0:rows=[] →K true) (h1:K false):R4 P t (.ro rows) σ K:=
 ⟨h,rfl,fun b hb=>by
  cases b with
  |false=>exact h1
  |true=>
   refine h0 ?_
   by_cases hr:rows=[]
   ·exact hr
   ·exact absurd (hb hr) (by simp)⟩
theorem XC:opX P pos dst (.binOp .eql t x (.const (.slice none 0 0)) t') σ K=R4 P t (σ.e x) σ fun b=>K (σ.put dst (.bool b)):=by
 rfl
theorem XD:opX P pos dst (.binOp .neq t x (.const (.slice none 0 0)) t') σ K=R4 P t (σ.e x) σ fun b=>K (σ.put dst (.bool !b)):=by
 rfl
end
section
variable {t:TypeId} {k:IntKind} {a b:Int} {K:AV→Prop}
@[go_sem] theorem Yl:BC P .add t (.int k a) (.int k b) K=K (.int k (k.wrap (a+b))):=by simp [BC,Bin,Ht]
@[go_sem] theorem Ym:BC P .sub t (.int k a) (.int k b) K=K (.int k (k.wrap (a - b))):=by simp [BC,Bin,Ht]
@[go_sem] theorem Yn:BC P .mul t (.int k a) (.int k b) K=K (.int k (k.wrap (a*b))):=by simp [BC,Bin,Ht]
@[go_sem] theorem Yo:BC P .eql t (.int k a) (.int k b) K=K (.bool (decide (a=b))):=by simp [BC,Bin,Ht]
@[go_sem] theorem Yp:BC P .neq t (.int k a) (.int k b) K=K (.bool (!decide (a=b))):=by simp [BC,Bin,Ht]
@[go_sem] theorem Yq:BC P .lss t (.int k a) (.int k b) K=K (.bool (decide (a<b))):=by simp [BC,Bin,Ht]
@[go_sem] theorem Yr:BC P .leq t (.int k a) (.int k b) K=K (.bool (decide (a≤b))):=by simp [BC,Bin,Ht]
@[go_sem] theorem Ys:BC P .gtr t (.int k a) (.int k b) K=K (.bool (decide (b<a))):=by simp [BC,Bin,Ht]
@[go_sem] theorem Yt:BC P .geq t (.int k a) (.int k b) K=K (.bool (decide (b≤a))):=by simp [BC,Bin,Ht]
@[go_sem] theorem Yu {k'}:BC P .shl t (.int k a) (.int k' b) K=AM (0≤b) (K (.int k (k.wrap (a*2 ^ min b.toNat k.bits)))):=by
 simp only [BC,Bin,AM]
 grind
@[go_sem] theorem Yv {k'}:BC P .shr t (.int k a) (.int k' b) K=AM (0≤b) (K (.int k (a / 2 ^ min b.toNat k.bits))):=by
 simp only [BC,Bin,AM]
 grind
@[go_sem] theorem Yw:BC P .and t (.int k a) (.int k b) K=K (.int k (bits .and k a b)):=by simp [BC,Bin]
@[go_sem] theorem bV:BC P .or t (.int k a) (.int k b) K=K (.int k (bits .or k a b)):=by simp [BC,Bin]
@[go_sem] theorem Yx:BC P .xor t (.int k a) (.int k b) K=K (.int k (bits .xor k a b)):=by simp [BC,Bin]
@[go_sem] theorem Ta:BC P .andNot t (.int k a) (.int k b) K=K (.int k (bits .andNot k a b)):=by simp [BC,Bin]
@[go_sem] theorem Yy:BC P .quo t (.int k a) (.int k b) K=AM (b≠0) (K (.int k (k.wrap (a.tdiv b)))):=by
 simp only [BC,Bin,AM,true_and]
 grind
@[go_sem] theorem Yz:BC P .rem t (.int k a) (.int k b) K=AM (b≠0) (K (.int k (a.tmod b))):=by
 simp only [BC,Bin,AM,true_and]
 grind
end
section
variable {t:TypeId} {a b:ByteArray} {c d:Bool} {K:AV→Prop}
def Df (a b:ByteArray):Bool:=a.toList == b.toList
@[go_sem] theorem XE:BC P .eql t (.str a) (.str b) K=K (.bool (Df a b)):=by simp [BC,Bin,Df]
@[go_sem] theorem XF:BC P .neq t (.str a) (.str b) K=K (.bool (!Df a b)):=by simp [BC,Bin,Df]
@[go_sem] theorem XG:BC P .add t (.str a) (.str b) K=AM (a.size+b.size≤maxLen) (K (.str (a++b))):=by
 simp only [BC,Bin,AM]
 grind
def Vt (o:Option (List KK)) (xs ys:List AV) (K:Bool→Prop):Prop:=∃ks b,o=some ks∧BI ks xs ys=some b∧K b
def Y0 (o:Option Bool) (K:Bool→Prop):Prop:=∃b,o=some b∧K b
@[go_sem] theorem dO {ks} {xs ys} {K}:Vt (some ks) xs ys K=Y0 (BI ks xs ys) K:=by
 simp [Vt,Y0]
@[go_sem] theorem dP {b} {K}:Y0 (some b) K=K b:=by simp [Y0]
@[go_sem] theorem dQ {k} {ks} {a b} {xs ys}:BI (.int k::ks) (.int k a::xs) (.int k b::ys)=(BI ks xs ys).map (decide (a=b)&& ·):=by
 rw [BI]; simp
@[go_sem] theorem dR {ks} {a b} {xs ys}:BI (.bool ::ks) (.bool a::xs) (.bool b::ys)=(BI ks xs ys).map (a == b&& ·):=by
 rw [BI]
@[go_sem] theorem fI {ks} {a b} {xs ys}:BI (.str ::ks) (.str a::xs) (.str b::ys)=(BI ks xs ys).map (Df a b&& ·):=by
 rw [BI]; rfl
@[go_sem] theorem fJ:BI [] [] [] =some true:=by
 rw [BI]
@[go_sem] theorem dS {α β:Type} {f:α→β} {a:α}:Option.map f (some a)=some (f a):=rfl
@[go_sem] theorem XH {xs ys}:BC P .eql t (.agg xs) (.agg ys) K=Vt (Fr P t) xs ys fun b=>K (.bool b):=by
 unfold BC Bin Vt
 grind
@[go_sem] theorem XI {xs ys}:BC P .neq t (.agg xs) (.agg ys) K=Vt (Fr P t) xs ys fun b=>K (.bool !b):=by
 unfold BC Bin Vt
 grind
def R6 (P:Program) (t:TypeId):Prop:=match ti P t with| .bool =>True|_=>False
@[go_sem] theorem XJ:BC P .eql t (.bool c) (.bool d) K=AM (R6 P t) (K (.bool (c == d))):=by
 simp only [BC,Bin,AM,R6]
 split <;> simp_all
@[go_sem] theorem XK:BC P .neq t (.bool c) (.bool d) K=AM (R6 P t) (K (.bool (!(c == d)))):=by
 simp only [BC,Bin,AM,R6]
 split <;> simp_all
def Ll (P:Program) (t:TypeId):Prop:=match ti P t with| .ptr _=>True|_=>False
@[go_sem] theorem bW:BC P .eql t .nilp .nilp K=AM (Ll P t) (K (.bool true)):=by
 simp only [BC,Bin,AM,Ll]
 split <;> simp_all
@[go_sem] theorem Y1:BC P .neq t .nilp .nilp K=AM (Ll P t) (K (.bool false)):=by
 simp only [BC,Bin,AM,Ll]
 split <;> simp_all
@[go_sem] theorem bX {x off}:BC P .eql t (.box x off) .nilp K=AM (Ll P t) (K (.bool false)):=by
 simp only [BC,Bin,AM,Ll]
 split <;> simp_all
@[go_sem] theorem Y2 {x off}:BC P .neq t (.box x off) .nilp K=AM (Ll P t) (K (.bool true)):=by
 simp only [BC,Bin,AM,Ll]
 split <;> simp_all
@[go_sem] theorem bY {ds} {off}:BC P .eql t (.rop ds off) .nilp K=AM (Ll P t) (K (.bool false)):=by
 simp only [BC,Bin,AM,Ll]
 split <;> simp_all
@[go_sem] theorem Y3 {ds} {off}:BC P .neq t (.rop ds off) .nilp K=AM (Ll P t) (K (.bool true)):=by
 simp only [BC,Bin,AM,Ll]
 split <;> simp_all
attribute [go_sem] R6 Ll
end
def R7 (op:UnOp) (x:AV) (K:AV→Prop):Prop:=∃v,Uno op x v∧K v
theorem bZ {pos} {dst} {op} {t} {x}:opX P pos dst (.unOp op t x) σ K=R7 op (σ.e x) fun v=>K (σ.put dst v):=
 EM (p:=fun v=>Uno op (σ.e x) v) (fun _=>by rfl) (fun r=>by rfl)
@[go_sem] theorem Y4 {b} {K}:R7 .not (.bool b) K=K (.bool (!b)):=by simp [R7,Uno]
@[go_sem] theorem Y5 {k} {n} {K}:R7 .xor (.int k n) K=K (.int k (bits .xor k (if k.signed then -1 else k.max) n)):=by simp [R7,Uno]
@[go_sem] theorem Y6 {k} {n} {K}:R7 .neg (.int k n) K=K (.int k (k.wrap (0 - n))):=by simp [R7,Uno]
def Ig (P:Program) (s d:TypeId) (x:AV) (σ:St) (K:AV→Prop):Prop:=match ti P d,x with
 | .int k,.int _ n=>(ti P s).sc =true∧K (.int k (k.wrap n))
 | .str,y=>∃el ns,ti P s= .sl el∧ti P el= .int .u8 ∧ns.length≤maxLen∧cl σ.T σ.B y=some (.ro (Eo ns))∧K (.str (strOfNums ns))
 |_,_=>False
def XL (P:Program) (s d:TypeId) (x:AV) (σ:St) (v:AV):Prop:=match ti P d,x with
 | .int k,.int _ n=>(ti P s).sc =true∧v= .int k (k.wrap n)
 | .str,y=>∃el ns,ti P s= .sl el∧ti P el= .int .u8 ∧ns.length≤maxLen∧cl σ.T σ.B y=some (.ro (Eo ns))∧v= .str (strOfNums ns)
 |_,_=>False
theorem Vu {pos} {dst} {s d} {x}:opX P pos dst (.convert s d x) σ K=Ig P s d (σ.e x) σ fun v=>K (σ.put dst v):=by
 rw [EM (p:=fun v=>XL P s d (σ.e x) σ v) (fun _=>by rfl) (fun r=>by
  simp only [Ev,XL]
  generalize σ.e x=v
  generalize ti P d=q
  cases q <;> cases v <;> first
   |(
    refine propext ⟨?_,?_⟩
    ·intro h; obtain⟨el,ns,h1,h2,h3,h4,rfl⟩:=h; exact⟨_,⟨el,ns,h1,h2,h3,h4,rfl⟩,rfl⟩
    ·intro h; obtain⟨_,⟨el,ns,h1,h2,h3,h4,rfl⟩,rfl⟩:=h; exact⟨el,ns,h1,h2,h3,h4,rfl⟩)
   |simp [and_assoc])]
 unfold Ig XL
 generalize σ.e x=v
 generalize ti P d=q
 have key:∀y:AV,(∃v,(∃el ns,ti P s= .sl el∧ti P el= .int .u8 ∧ns.length≤maxLen∧cl σ.T σ.B y=some (.ro (Eo ns))∧v= .str (strOfNums ns))∧K (σ.put dst v))=∃el ns,ti P s= .sl el∧ti P el= .int .u8 ∧ns.length≤maxLen∧cl σ.T σ.B y=some (.ro (Eo ns))∧K (σ.put dst (.str (strOfNums ns))):=fun y=>by
  grind
 cases q <;> cases v <;> first|exact key _|simp [and_assoc]
def R8 (t:TI) (K:IntKind→Prop):Prop:=match t with| .int k=>K k|_=>False
@[go_sem] theorem Vv {k} {K}:R8 (.int k) K=K k:=rfl
@[go_sem] theorem Vw {s d} {k'} {n} {K}:Ig P s d (.int k' n) σ K=R8 (ti P d) fun k=>AM ((ti P s).sc =true) (K (.int k (k.wrap n))):=by
 unfold Ig R8 AM
 generalize ti P d=q
 cases q <;> simp [cl,Eo]
def XM (P:Program) (q:TI):Prop:=∃el,q= .sl el∧ti P el= .int .u8
def Y7 (q:TI):Prop:=q= .int .u8
@[go_sem] theorem fK:Y7 (.int .u8)=True:=by simp [Y7]
@[go_sem] theorem ia {el}:XM P (.sl el)=Y7 (ti P el):=by simp [XM,Y7]
def R9 (P:Program) (q qs:TI) (o:Option AV) (K:AV→Prop):Prop:=q= .str ∧XM P qs∧∃ns,ns.length≤maxLen∧o=some (.ro (Eo ns))∧K (.str (strOfNums ns))
def ba (o:Option AV) (K:AV→Prop) (_:Wrap K):Prop:=∃ns,ns.length≤maxLen∧o=some (.ro (Eo ns))∧K (.str (strOfNums ns))
@[go_sem] theorem fL {qs} {o} {K}:R9 P .str qs o K=AM (XM P qs) (ba o K ⟨⟩):=by simp [R9,AM,ba]
theorem Kt {s d} {x} {K} (hx:∀k n,x≠ .int k n):Ig P s d x σ K=AY (cl σ.T σ.B x) fun o=>R9 P (ti P d) (ti P s) o K:=by
 unfold Ig R9 AY XM
 grind
@[go_sem] theorem dT {s d} {t} {K}:Ig P s d (.own t) σ K=AY (cl σ.T σ.B (.own t)) fun o=>R9 P (ti P d) (ti P s) o K:=Kt (by simp)
@[go_sem] theorem fM {s d} {r} {K}:Ig P s d (.ro r) σ K=AY (cl σ.T σ.B (.ro r)) fun o=>R9 P (ti P d) (ti P s) o K:=Kt (by simp)
@[go_sem] theorem dU {s d} {b n z} {K}:Ig P s d (.bsl b n z) σ K=AY (cl σ.T σ.B (.bsl b n z)) fun o=>R9 P (ti P d) (ti P s) o K:=Kt (by simp)
@[go_sem] theorem be {s d} {K}:Ig P s d .nils σ K=AY (cl σ.T σ.B .nils) fun o=>R9 P (ti P d) (ti P s) o K:=Kt (by simp)
theorem aL {ns} {K} {w} (hl:ns.length≤maxLen) (hk:K (.str (strOfNums ns))):ba (some (.ro (List.map (fun n=>[D.int .u8 n]) ns))) K w:=⟨ns,hl,rfl,hk⟩
def faX (P:Program) (s:TypeId) (v:AV) (f:Nat) (K:AV→Prop):Prop:=match v with
 | .box b off=>∃q,fOff P s f=some q∧0<tsz P q.2 ∧K (.box b (off+q.1))
 | .rop ds off=>∃q,fOff P s f=some q∧0<tsz P q.2 ∧K (.rop ds (off+q.1))
 | .elt t sz i off=>∃q,fOff P s f=some q∧0<tsz P q.2 ∧K (.elt t sz i (off+q.1))
 | .els t g p sz i off=>∃q,fOff P s f=some q∧0<tsz P q.2 ∧K (.els t g p sz i (off+q.1))
 |_=>False
theorem SA {pos} {dst} {s} {x} {f}:opX P pos dst (.fieldAddr s x f) σ K=faX P s (σ.e x) f fun v=>K (σ.put dst v):=by
 rw [EM (p:=fun v=>faX P s (σ.e x) f fun u=>v=u) (fun _=>by rfl) (fun r=>by
  simp only [Ev,faX]
  generalize σ.e x=v
  grind)]
 unfold faX
 split
 ·grind
 ·grind
 ·grind
 ·grind
 ·simp
@[go_sem] theorem Y8 {s} {b off f} {K}:faX P s (.box b off) f K=optX (fOff P s f) fun q=>AM (0<tsz P q.2) (AY (off+q.1) fun o=>K (.box b o)):=rfl
@[go_sem] theorem Y9 {s} {ds} {off f} {K}:faX P s (.rop ds off) f K=optX (fOff P s f) fun q=>AM (0<tsz P q.2) (AY (off+q.1) fun o=>K (.rop ds o)):=rfl
@[go_sem] theorem ZA {s} {t g} {p} {sz i off f} {K}:faX P s (.els t g p sz i off) f K=optX (fOff P s f) fun q=>AM (0<tsz P q.2) (AY (off+q.1) fun o=>K (.els t g p sz i o)):=rfl
@[go_sem] theorem ZB {s} {t sz i off f} {K}:faX P s (.elt t sz i off) f K=optX (fOff P s f) fun q=>AM (0<tsz P q.2) (AY (off+q.1) fun o=>K (.elt t sz i o)):=rfl
def fdX (P:Program) (s:TypeId) (v:AV) (f:Nat) (K:AV→Prop):Prop:=match v with
 | .agg vs=>optX (fOff P s f) fun q=>Ic (ti P q.2).isAgg (AM (q.1 +tsz P q.2 ≤vs.length) (AY (.agg (Db vs q.1 (tsz P q.2))) K)) (AM ((ti P q.2).sc =true) (optX vs[q.1]? K))
 |_=>False
@[go_sem] theorem ZC {s} {vs} {f} {K}:fdX P s (.agg vs) f K=optX (fOff P s f) fun q=>Ic (ti P q.2).isAgg (AM (q.1 +tsz P q.2 ≤vs.length) (AY (.agg (Db vs q.1 (tsz P q.2))) K)) (AM ((ti P q.2).sc =true) (optX vs[q.1]? K)):=rfl
theorem ZD {pos} {dst} {s} {x} {f}:opX P pos dst (.field s x f) σ K=fdX P s (σ.e x) f fun v=>K (σ.put dst v):=by
 rw [EM (p:=fun v=>fdX P s (σ.e x) f fun u=>v=u) (fun _=>by rfl) (fun r=>by
  grind [Ev,fdX,optX,Ic,AM,AY])]
 unfold fdX
 split
 ·grind [optX,Ic,AM,AY]
 ·simp
attribute [go_sem] fOff
def SB (rows:List (List D)) (n:Int) (sz:Nat) (K:List D→Prop):Prop:=∃row,UD rows n sz row∧K row
def iaX (P:Program) (t:TypeId) (x i:AV) (σ:St) (K:AV→Prop):Prop:=∃v,Mb P σ.T t x i v∧K v
def slX (t:TI) (K:TypeId→Prop):Prop:=match t with| .sl e=>K e|_=>False
@[go_sem] theorem bf {e} {K}:slX (.sl e) K=K e:=rfl
def elX (P:Program) (t:TypeId) (x i:AV) (K:AV→Prop):Prop:=∃v,NF P t x i v∧K v
def arX (t:TI) (K:Nat→TypeId→Prop):Prop:=match t with| .arr n e=>K n e|_=>False
@[go_sem ↓] theorem ib {n} {e} {K}:arX (.arr n e) K=K n e:=rfl
def inX (t:TI) (K:IntKind→Prop):Prop:=match t with| .int k=>K k|_=>False
@[go_sem ↓] theorem ic {k} {K}:inX (.int k) K=K k:=rfl
@[go_sem] theorem dV {k}:JN k [] =some [] :=rfl
@[go_sem] theorem bg {k} {n} {vs}:JN k (.int k n::vs)=(JN k vs).map (n:: ·):=by rw [JN,if_pos rfl]
theorem ZE {pos} {dst} {t} {x i}:opX P pos dst (.index t x i) σ K=elX P t (σ.e x) (σ.e i) fun v=>K (σ.put dst v):=
 EM (p:=fun v=>NF P t (σ.e x) (σ.e i) v) (fun _=>by rfl) (fun r=>by rfl)
def isX (t:TI) (K:IntKind→Prop) (K' K'':Prop):Prop:=match t with| .int k=>K k| .str =>K'| .ptr _=>K''|_=>False
@[go_sem ↓] theorem ie {k} {K K' K''}:isX (.int k) K K' K''=K k:=rfl
@[go_sem ↓] theorem ig {K K' K''}:isX .str K K' K''=K':=rfl
@[go_sem ↓] theorem ii {e} {K K' K''}:isX (.ptr e) K K' K''=K'':=rfl
@[go_sem] theorem dW:KS [] =some [] :=rfl
@[go_sem] theorem bh {s} {vs}:KS (.str s::vs)=(KS vs).map (s:: ·):=rfl
@[go_sem ↓] theorem ik {t} {vs} {k} {n} {K}:elX P t (.agg vs) (.int k n) K=arX (ti P t) fun l e=>isX (ti P e) (fun kd=>AM (tsz P e=1) (optX (JN kd vs) fun ns=>AM (l=ns.length) (optX (atI ns n) fun m=>K (.int kd m)))) (AM (tsz P e=1) (optX (KS vs) fun ns=>AM (l=ns.length) (optX (atS ns n) fun m=>K (.str m)))) (AM (tsz P e=1) (AM (l=vs.length) (AM (0≤n) (optX (vs[n.toNat]?) K)))):=by
 simp only [elX,NF,arX,isX,AM,optX]
 generalize ti P t=q
 cases q <;> grind
@[go_sem ↓] theorem il {t} {s} {k} {n} {K}:elX P t (.str s) (.int k n) K=AM (ti P t= .str) (optX (atB s n) fun m=>K (.int .u8 m)):=by
 grind [elX,NF,AM,optX]
def Vx (P:Program) (T:Nat→Option Tok) (t:TypeId) (x:AV) (l h:Option AV) (K:AV→Prop):Prop:=∃v,(Je P t x l h v∨Oc P T t x l h v)∧K v
theorem ZF {pos} {dst} {t} {x} {l h}:opX P pos dst (.slice t x l h none) σ K=Vx P σ.T t (σ.e x) (l.map σ.e) (h.map σ.e) fun v=>K (σ.put dst v):=
 EM (p:=fun v=>Je P t (σ.e x) (l.map σ.e) (h.map σ.e) v∨Oc P σ.T t (σ.e x) (l.map σ.e) (h.map σ.e) v) (fun _=>by rfl) (fun r=>by rfl)
@[go_sem ↓] theorem im {t} {rows} {l h} {T} {K}:Vx P T t (.ro rows) l h K=slX (ti P t) fun el=>AM (0<tsz P el) (AM (∀row ∈ rows,row.length=tsz P el) (optX (bndI l 0) fun i=>optX (bndI h rows.length) fun j=>optX (cutL rows i j) fun r=>K (.ro r))):=by
 simp only [Vx,Je,Oc,or_false,slX,AM,optX]
 grind
@[go_sem ↓] theorem fN {t} {s} {l h} {T} {K}:Vx P T t (.str s) l h K=AM (ti P t= .str) (optX (bndI l 0) fun i=>optX (bndI h s.size) fun j=>optX (aZ s i j) fun r=>K (.str r)):=by
 grind [Vx,Je,Oc,AM,optX]
@[go_sem] theorem fO {d}:bndI none d=some d:=rfl
@[go_sem] theorem fP {k} {n d}:bndI (some (.int k n)) d=some n:=rfl
theorem SC {pos} {dst} {t} {x i}:opX P pos dst (.indexAddr t x i) σ K=iaX P t (σ.e x) (σ.e i) σ fun v=>K (σ.put dst v):=
 EM (p:=fun v=>Mb P σ.T t (σ.e x) (σ.e i) v) (fun _=>by rfl) (fun r=>by rfl)
@[go_sem] theorem bi {t} {rows} {k} {n} {K}:iaX P t (.ro rows) (.int k n) σ K=slX (ti P t) fun e=>AM (0<tsz P e) (SB rows n (tsz P e) fun row=>K (.rop (row.map ofD) 0)):=by
 simp only [iaX,Mb,slX,AM,SB]
 grind
def arI (t:TI) (K:Nat→TypeId→Prop):Prop:=match t with| .arr n e=>K n e|_=>False
@[go_sem ↓] theorem io {n} {e} {K}:arI (.arr n e) K=K n e:=rfl
@[go_sem] theorem ip {t} {b off} {k} {n} {K}:iaX P t (.box b off) (.int k n) σ K=arI (ti P t) fun l e=>AM (0<tsz P e) (AM (0≤n∧n<(l:Int)) (K (.box b (off+n.toNat*tsz P e)))):=by
 simp only [iaX,Mb,arI,AM]
 grind
@[go_sem] theorem ZG {t} {t'} {k} {n} {K}:iaX P t (.own t') (.int k n) σ K=slX (ti P t) fun e=>AM (0<tsz P e) (optX (σ.T t') fun tk=>SB tk.rows n (tsz P e) fun _=>K (.elt t' (tsz P e) n.toNat 0)):=by
 simp only [iaX,Mb,slX,AM,SB,optX]
 grind
@[go_sem] theorem ZH {t} {t' g} {p} {k} {n} {K}:iaX P t (.sub t' g p) (.int k n) σ K=slX (ti P t) fun e=>AM (0<tsz P e) (optX (subR σ.T t' g p) fun rows=>SB rows n (tsz P e) fun _=>K (.els t' g p (tsz P e) n.toNat 0)):=by
 simp only [iaX,Mb,slX,AM,SB,optX]
 grind
def Vy (v:AV) (i:Nat) (K:AV→Prop):Prop:=match v with| .tup vs=>optX vs[i]? K|_=>False
@[go_sem] theorem XN {vs} {i} {K}:Vy (.tup vs) i K=optX vs[i]? K:=rfl
theorem Vz {pos} {dst} {x} {i}:opX P pos dst (.extract x i) σ K=Vy (σ.e x) i fun v=>K (σ.put dst v):=by
 rw [EM (p:=fun v=>Vy (σ.e x) i fun u=>v=u) (fun _=>by rfl) (fun r=>by
  simp only [Ev,Vy]
  generalize σ.e x=v
  cases v <;> simp [optX])]
 unfold Vy
 generalize σ.e x=v
 cases v <;> simp [optX]
def evs (σ:St):List Operand→List AV
 | [] =>[]
 |x::xs=>σ.e x::evs σ xs
theorem QW {xs}:evs σ xs=xs.map σ.e:=by induction xs with|nil=>rfl|cons x xs ih=>simp [evs,ih]
attribute [go_sem] evs
@[go_sem ↓] theorem bj {pos} {dst} {f} {first caps}:opX P pos dst (.makeFunc (.func f) (List.toArray first) caps.toArray) σ K=AY (.fn f (.agg (evs σ first)::evs σ caps)) fun v=>K (σ.put dst v):=by
 rw [EM (p:=fun v=>v= .fn f (.agg (evs σ first)::evs σ caps)) (fun _=>by rfl) (fun r=>by simp [Ev,QW])]
 simp [AY]
def JI (P:Program) (t:TypeId) (x:AV) (σ:St) (K:AV→Prop):Prop:=∃v,Jd P σ.T σ.B t x v∧K v
theorem fQ {pos} {dst} {x} {t}:opX P pos dst (.call ⟨.builtin .len,List.toArray [x],List.toArray [t]⟩) σ K=JI P t (σ.e x) σ fun v=>K (σ.put dst v):=
 EM (p:=fun v=>Jd P σ.T σ.B t (σ.e x) v) (fun _=>by rfl) (fun r=>by rfl)
def Md (f:Int→Int→Int) (x y:AV) (K:AV→Prop):Prop:=match x,y with
 | .int k n,.int k' m=>k=k'∧K (.int k (f n m))
 |_,_=>False
@[go_sem] theorem XO {f} {k} {n m} {K}:Md f (.int k n) (.int k m) K=AY (f n m) fun r=>K (.int k r):=by simp [Md,AY]
theorem fR {pos} {dst} {x y} {ts}:opX P pos dst (.call ⟨.builtin .max,List.toArray [x,y],ts⟩) σ K=Md (fun n m=>if n<m then m else n) (σ.e x) (σ.e y) fun v=>K (σ.put dst v):=by
 rw [EM (p:=fun v=>Md (fun n m=>if n<m then m else n) (σ.e x) (σ.e y) fun u=>v=u) (fun _=>by rfl) (fun r=>by
  simp only [Ev,Md]
  generalize σ.e x=u
  generalize σ.e y=v
  cases u <;> cases v <;> simp [and_assoc])]
 unfold Md
 generalize σ.e x=u
 generalize σ.e y=v
 cases u <;> cases v <;> simp [and_assoc]
theorem fS {pos} {dst} {x y} {ts}:opX P pos dst (.call ⟨.builtin .min,List.toArray [x,y],ts⟩) σ K=Md (fun n m=>if m<n then m else n) (σ.e x) (σ.e y) fun v=>K (σ.put dst v):=by
 rw [EM (p:=fun v=>Md (fun n m=>if m<n then m else n) (σ.e x) (σ.e y) fun u=>v=u) (fun _=>by rfl) (fun r=>by
  simp only [Ev,Md]
  generalize σ.e x=u
  generalize σ.e y=v
  cases u <;> cases v <;> simp [and_assoc])]
 unfold Md
 generalize σ.e x=u
 generalize σ.e y=v
 cases u <;> cases v <;> simp [and_assoc]
end
attribute [go_sem ↓] W7 W8 W9 XA Pt R5 Yl Ym Yn Yo Yp Yq Yr Ys Yt Yu Yv Yw bV Yx Ta Yy Yz XE XF XG XJ XK bW Y1 bX Y2 bY Y3 XH XI Y4 Y6 Y5 Vv Vw Y8 Y9 ZB ZA ZC bf bi ZG ZH XN XO
end Go.Proofs.YtoncbhomocgmcaaGreatDoor.Ab
