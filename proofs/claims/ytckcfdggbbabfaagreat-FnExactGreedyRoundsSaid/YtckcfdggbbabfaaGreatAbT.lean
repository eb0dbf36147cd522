/-
  The abstract walk as a set of rules for 'simp only [go_sem]': heads that wait, their congruences, one rule an operation.
-/
import Derived.Test.YtckcfdggbbabfaaGreatAbS
namespace Go.Proofs.YtckcfdggbbabfaaGreat.Ab
set_option linter.unusedVariables false
open Go.RowKit
section
variable {P:Program}
theorem Ds {z:Bool}:∀ {vs:List AV} {σ:St} {K K':List D→St→Prop},(∀ds σ,K ds σ→K' ds σ)→Bi z vs σ K→Bi z vs σ K'
 | [],σ,K,K',hk,h=>by rw [Bi] at h ⊢; exact hk _ _ h
 | .int k n::vs,σ,K,K',hk,h=>by rw [Bi] at h ⊢; exact Ds (fun ds σ=>hk _ σ) h
 | .bool b::vs,σ,K,K',hk,h=>by rw [Bi] at h ⊢; exact Ds (fun ds σ=>hk _ σ) h
 | .str b::vs,σ,K,K',hk,h=>by rw [Bi] at h ⊢; exact Ds (fun ds σ=>hk _ σ) h
 | .nils ::vs,σ,K,K',hk,h=>by rw [Bi] at h ⊢; exact Ds (fun ds σ=>hk _ σ) h
 | .nilp ::vs,σ,K,K',hk,h=>by rw [Bi] at h ⊢; exact Ds (fun ds σ=>hk _ σ) h
 | .ro _::vs,σ,K,K',hk,h=>by rw [Bi] at h ⊢; exact⟨h.1,Ds (fun ds σ=>hk _ σ) h.2⟩
 | .rop _ _::vs,σ,K,K',hk,h=>by rw [Bi] at h ⊢; obtain⟨h1,d,h2,h3⟩:=h; exact⟨h1,d,h2,Ds (fun ds σ=>hk _ σ) h3⟩
 | .bsl _ _ _::vs,σ,K,K',hk,h=>by
  rw [Bi] at h ⊢
  split at h
  ·rename_i h0
   rw [if_pos h0]
   exact Ds (fun ds σ=>hk _ σ) h
  ·rename_i h0
   rw [if_neg h0]
   obtain⟨h1,h2,vs',h3,ds,h4,h5,h6⟩:=h
   exact⟨h1,h2,vs',h3,ds,h4,h5,Ds (fun ds σ=>hk _ σ) h6⟩
 | .own t::vs,σ,K,K',hk,h=>by rw [Bi] at h ⊢; obtain⟨tk,h1,h2,h3⟩:=h; exact⟨tk,h1,h2,Ds (fun ds σ=>hk _ σ) h3⟩
 | .sub _ _ _::vs,σ,K,K',hk,h=>by simp [Bi] at h
 | .els _ _ _ _ _ _::vs,σ,K,K',hk,h=>by simp [Bi] at h
 | .any ::vs,σ,K,K',hk,h=>by simp [Bi] at h
 | .box _ _::vs,σ,K,K',hk,h=>by simp [Bi] at h
 | .elt _ _ _ _::vs,σ,K,K',hk,h=>by simp [Bi] at h
 | .par _ _ _ _::vs,σ,K,K',hk,h=>by simp [Bi] at h
 | .agg _::vs,σ,K,K',hk,h=>by simp [Bi] at h
 | .tup _::vs,σ,K,K',hk,h=>by simp [Bi] at h
 | .fn _ _::vs,σ,K,K',hk,h=>by simp [Bi] at h
 | .mpr _::vs,σ,K,K',hk,h=>by simp [Bi] at h
 | .mpc _ _::vs,σ,K,K',hk,h=>by simp [Bi] at h
theorem Ur {t:TypeId} {a x:AV} {σ:St} {K K':St→Prop} (hk:∀σ,K σ→K' σ) (h:Ly P t a x σ K):Ly P t a x σ K':=by
 unfold Ly at h ⊢
 split at h
 ·obtain⟨h1,h2,h3,h4⟩:=h
  refine⟨h1,h2,h3,?_⟩
  split at h4
  ·obtain⟨vs,h5,h6,h7,h8⟩:=h4; exact⟨vs,h5,h6,h7,hk _ h8⟩
  ·obtain⟨tk0,h5,h4⟩:=h4
   exact⟨tk0,h5,Ds (fun ds σ ⟨tk,row,k1,k2,k3,k4,k5⟩=>⟨tk,row,k1,k2,k3,k4,hk _ k5⟩) h4⟩
  ·exact Ds (fun ds σ ⟨rows,k1,row,k2,k3,tk,k4,k5⟩=>⟨rows,k1,row,k2,k3,tk,k4,hk _ k5⟩) h4
  ·exact h4
 ·exact h
theorem Wu {z:Bool} {e:TypeId} {sz:Nat} {x:AV} {σ:St} {K K':List (List D)→St→Prop} (hk:∀r σ,K r σ→K' r σ) (h:Ox z e sz x σ K):Ox z e sz x σ K':=by
 unfold Ox at h ⊢
 split at h
 ·exact hk _ _ h
 ·split at h
  ·rename_i h0
   rw [if_pos h0]
   exact hk _ _ h
  ·rename_i h0
   rw [if_neg h0]
   obtain⟨h0,h1,h2,vs',h3,ds,h4,h5,h6⟩:=h
   exact⟨h0,h1,h2,vs',h3,ds,h4,h5,hk _ _ h6⟩
 ·obtain⟨tk,h1,h2,h3⟩:=h; exact⟨tk,h1,h2,hk _ _ h3⟩
 ·exact h
theorem Wv {z:Bool} {sz:Nat} {x:AV} {σ:St} {K K':List (List D)→St→Prop} (hk:∀r σ,K r σ→K' r σ) (h:ON z sz x σ K):ON z sz x σ K':=by
 unfold ON at h ⊢
 split at h
 ·exact hk _ _ h
 ·obtain⟨vs,h1,h2,h3,h4,h5⟩:=h; exact⟨vs,h1,h2,h3,h4,Ds (fun ds σ=>hk _ σ) h5⟩
 ·split at h
  ·exact⟨h.1,hk _ _ h.2⟩
  ·exact⟨h.1,hk _ _ h.2⟩
 ·obtain⟨tk,h1,h2,h3⟩:=h; exact⟨tk,h1,h2,hk _ _ h3⟩
 ·exact h
theorem Ww {pos:Nat} {t:TypeId} {x y:AV} {σ:St} {K K':AV→St→Prop} (hk:∀v σ,K v σ→K' v σ) (h:UR P pos t x y σ K):UR P pos t x y σ K':=by
 unfold UR at h ⊢
 split at h
 ·obtain⟨h1,h2,z,h⟩:=h
  exact⟨h1,h2,z,Wu (fun r σ h=>Wv (fun r2 σ2 h=>⟨h.1,h.2.1,h.2.2.1,hk _ _ h.2.2.2⟩) h) h⟩
 ·exact h
theorem Wx {t:TypeId} {m i x:AV} {σ:St} {K K':St→Prop} (hk:∀σ,K σ→K' σ) (h:Sm P t m i x σ K):Sm P t m i x σ K':=by
 unfold Sm at h ⊢
 split at h
 ·obtain⟨q,rows,h1,h2,h3,k,h4,h5,d,h6,h7⟩:=h; exact⟨q,rows,h1,h2,h3,k,h4,h5,d,h6,hk _ h7⟩
 ·exact h
theorem YV {pos:Nat} {o:Oper} {σ:St} {K K':St→Prop} (hk:∀σ,K σ→K' σ) (h:aop P pos o σ K):aop P pos o σ K':=by
 unfold aop at h ⊢
 split at h
 ·exact⟨h.1,h.2.1,fun b hb=>hk _ (h.2.2 b hb)⟩
 ·exact⟨h.1,h.2.1,fun b hb=>hk _ (h.2.2 b hb)⟩
 ·exact Ur (fun σ=>hk _) h
 ·exact Wx (fun σ=>hk _) h
 ·split at h
  ·exact⟨h.1,Ww (fun v σ=>hk _) h.2⟩
  ·exact h
 ·obtain⟨r,h1,h2,h3,h4⟩:=h; exact⟨r,h1,h2,h3,hk _ h4⟩
theorem Hv {K K':St→Prop} (hk:∀σ,K σ→K' σ):∀ {cv:List (Nat × AV × Option Nat)} {σ:St},CW cv σ K→CW cv σ K'
 | [],σ,h=>by rw [CW] at h ⊢; exact hk _ h
 | (n,a,z)::cv,σ,h=>by
  cases a with
  |sub t g p=>
   rw [CW] at h ⊢
   obtain⟨h1,h2,h3,tk,rows,h4,h5,h6,h7,h8⟩:=h
   exact⟨h1,h2,h3,tk,rows,h4,h5,h6,h7,Hv hk h8⟩
  |nils=>rw [CW] at h ⊢; exact⟨h.1,Hv hk h.2⟩
  |bsl b m sz=>rw [CW] at h ⊢; exact⟨h.1,h.2.1,Hv hk h.2.2⟩
  |_=>simp [CW] at h
theorem Jf:∀ {cv:List (Nat × AV × Option Nat)} {σ:St} {K K':St→Prop},(∀σ,K σ→K' σ)→Bp cv σ K→Bp cv σ K'
 | [],σ,K,K',hk,h=>by rw [Bp] at h ⊢; exact hk _ h
 | (n,a,z)::cv,σ,K,K',hk,h=>by
  cases a with
  | sub t g p=>
   rw [Bp] at h ⊢
   refine Jf (fun σ h=>?_) h
   cases hn:σ.T n with
   |none=>simp only [hn] at h ⊢; exact hk _ h
   |some tn=>
    simp only [hn] at h ⊢
    obtain⟨tk,h1,h2,h3,h4⟩:=h
    exact⟨tk,h1,h2,h3,hk _ h4⟩
  |_=>
   rw [Bp] at h ⊢
   ·exact Jf (fun σ h=>hk _ h) h
   all_goals (intros; simp_all)
theorem Us {f:FuncId} {args:List AV} {σ:St} {K K':AV→St→Prop} (hk:∀v σ,K v σ→K' v σ) (h:Qv P f args σ K):Qv P f args σ K':=by
 obtain⟨y,as,pt,pb,r,qt,qb,h1,h2⟩:=h
 exact⟨y,as,pt,pb,r,qt,qb,h1,Hv (fun σ h=>⟨h.1,h.2.1,h.2.2.1,h.2.2.2.1,h.2.2.2.2.1,h.2.2.2.2.2.1,h.2.2.2.2.2.2.1,h.2.2.2.2.2.2.2.1,Jf (fun σ h=>hk _ _ h) h.2.2.2.2.2.2.2.2⟩) h2⟩
theorem Pg {K K':List AV→St→Prop} (hk:∀a σ,K a σ→K' a σ):∀ {bs:List Nat} {args:List AV} {σ:St},FzK bs args σ K→FzK bs args σ K'
 | [],args,σ,h=>hk _ _ h
 |b::bs,args,σ,h=>by
  obtain⟨vs,h1,h2,h3⟩:=h
  exact⟨vs,h1,h2,Pg hk h3⟩
theorem Ut {f:FuncId} {args:List AV} {σ:St} {K K':AV→St→Prop} (hk:∀v σ,K v σ→K' v σ) (h:Vc P f args σ K):Vc P f args σ K':=by
 obtain⟨bs,h⟩:=h
 exact⟨bs,Pg (fun _ _ h=>Us hk h) h⟩
theorem RM {L:Bool} {pos:Nat} {o:Oper} {σ:St} {K K':St→Prop} (hk:∀σ,K σ→K' σ) (h:OO P L pos o σ K):OO P L pos o σ K':=by
 rcases h with ⟨hA,h⟩|⟨hL,h⟩|⟨hL,hA,r,h1,h2,h3,h4⟩
 ·exact .inl ⟨hA,YV hk h⟩
 ·refine .inr (.inl ⟨hL,?_⟩)
  rcases h with h|h
  ·refine .inl ?_
   unfold KL at h ⊢
   split at h
   ·split at h
    ·exact Ut (fun v σ=>hk _) h
    ·exact h
   ·exact h
  ·refine .inr ?_
   unfold SliK at h ⊢
   split at h
   ·split at h
    ·obtain⟨tk,h1,el,h2,h3,i,h4,j,h5,r,h6,h7,h8⟩:=h
     exact⟨tk,h1,el,h2,h3,i,h4,j,h5,r,h6,h7,hk _ h8⟩
    ·exact h
   ·exact h
 ·exact .inr (.inr ⟨hL,hA,r,h1,h2,h3,hk _ h4⟩)
theorem GO {ops:Array Oper} {base cut:Nat} {K K':St→Prop} (hk:∀σ,K σ→K' σ):∀ {l:List Oper} {i:Nat} {σ:St},aops P ops base cut i l σ K→aops P ops base cut i l σ K'
 | [],i,σ,h=>by rw [aops] at h ⊢; exact hk _ h
 | o::rest,i,σ,h=>by
  rw [aops] at h ⊢
  split at h
  ·exact RM (fun σ h=>GO hk h) h
  ·obtain⟨s,h1,h⟩:=h
   refine⟨s,h1,?_⟩
   rcases h with ⟨b,h2,h3,h4⟩|⟨h2,h3⟩
   ·exact .inl ⟨b,h2,fun hb=>RM (fun σ h=>GO hk h) (h3 hb),fun hb=>GO hk (h4 hb)⟩
   ·exact .inr ⟨h2,GO hk h3⟩
theorem Wy {p:Bool} {K K':St→Prop} (hk:∀σ,K σ→K' σ) {σ:St} (h:seqW p K σ):seqW p K' σ:=by
 unfold seqW at h ⊢
 split at h
 ·exact hk _ h
 ·obtain⟨σ1,h1,h2⟩:=h; exact⟨σ1,h1,hk _ h2⟩
theorem Ph {P:Program} {ops:Array Oper} {base:Nat} {ts:List (Nat × Oper)}:∀ (tr:Tr) {σ:St} {K K':St→Prop},(∀σ,K σ→K' σ)→aTr P ops base ts tr σ K→aTr P ops base ts tr σ K'
 | .fin,σ,K,K',hk,h=>hk σ h
 | .stop,σ,K,K',hk,h=>trivial
 | .br i t more,σ,K,K',hk,h=>by
  simp only [aTr] at h ⊢
  refine⟨?_,Ph more hk h.2⟩
  have h1:=h.1
  split at h1
  ·exact GO (fun σ' h=>Ph t hk h) h1
  ·exact h1.elim
theorem Pi {P:Program} {ops:Array Oper} {base:Nat} {r:VR} {i:Nat} {o:Oper} {acc:List (Nat × List AV)} {σ:St} {K K':List (Nat × List AV)→St→Prop} (hk:∀acc σ,K acc σ→K' acc σ) (h:KN P ops base r i o acc σ K):KN P ops base r i o acc σ K':=by
 unfold KN at h ⊢
 cases r with
 |no=>exact GO (hk acc) h
 |al=>
  dsimp only at h ⊢
  split at h
  ·exact⟨h.1,hk _ _ h.2⟩
  ·exact h.elim
 | st k=>
  dsimp only at h ⊢
  split at h
  ·split at h
   ·exact⟨h.1,h.2.1,hk _ _ h.2.2⟩
   ·exact h.elim
  ·exact h.elim
theorem Jg {P:Program} {ops:Array Oper} {base:Nat} {V:List (Nat × Nat)}:∀ (l:List Oper) {E:List Bool} {i:Nat} {ts:List (Nat × Oper)} {acc:List (Nat × List AV)} {σ:St} {K K':List (Nat × Oper)→List (Nat × List AV)→St→Prop},(∀ts acc σ,K ts acc σ→K' ts acc σ)→EJ P ops base V E i l ts acc σ K→EJ P ops base V E i l ts acc σ K'
 | [],E,i,ts,acc,σ,K,K',hk,h=>by simp only [EJ] at h ⊢; exact hk _ _ _ h
 |o::l,[],i,ts,acc,σ,K,K',hk,h=>by simp only [EJ] at h ⊢; exact Pi (fun acc σ' h=>Jg l hk h) h
 |o::l,true::E,i,ts,acc,σ,K,K',hk,h=>by simp only [EJ] at h ⊢; exact Jg l hk h
 |o::l,false::E,i,ts,acc,σ,K,K',hk,h=>by simp only [EJ] at h ⊢; exact Pi (fun acc σ' h=>Jg l hk h) h
theorem Wz {P:Program} {ops:Array Oper} {base:Nat} {draw:Bool} {σ:St} {K K':St→Prop} (hk:∀σ,K σ→K' σ) (h:WQ P ops base draw σ K):WQ P ops base draw σ K':=by
 unfold WQ at h ⊢
 cases draw with
 |false=>exact GO hk h
 |true=>
  obtain⟨E,V,tr,hE,h⟩:=h
  exact⟨E,V,tr,hE,Jg _ (fun ts acc σ h=>⟨h.1,Ph tr hk h.2⟩) h⟩
theorem Hw:∀ {c:Code} {Q Q':AE→St→Prop} {σ:St},(∀q σ,Q q σ→Q' q σ)→awp P c Q σ→awp P c Q' σ
 | .skip,Q,Q',σ,hq,h=>by rw [awp] at h ⊢; exact hq _ _ h
 | .region id ops draw,Q,Q',σ,hq,h=>by rw [awp] at h ⊢; exact Wz (hq _) h
 | .seq a b,Q,Q',σ,hq,h=>by
  rw [awp] at h ⊢
  refine Hw (fun q σ h=>?_) h
  cases q with
  |normal=>
   have h':seqW (Ho a) (awp P b Q) σ:=h
   exact Wy (K:=awp P b Q) (K':=awp P b Q') (fun σ h=>Hw hq h) h'
  |exit id=>exact hq _ _ h
  |ret=>exact hq _ _ h
 | .cond c a b,Q,Q',σ,hq,h=>by
  rw [awp] at h ⊢
  obtain⟨v,h1,h2,h3⟩:=h
  exact⟨v,h1,fun e=>Hw hq (h2 e),fun e=>Hw hq (h3 e)⟩
 | .block id b,Q,Q',σ,hq,h=>by
  rw [awp] at h ⊢
  refine Hw (fun q σ h=>?_) h
  cases q with
  |normal=>exact hq _ _ h
  |exit i=>
   simp only [AE.inBlock] at h ⊢
   split at h
   ·rw [if_pos ‹_›]; exact hq _ _ h
   ·rw [if_neg ‹_›]; exact hq _ _ h
  |ret=>exact hq _ _ h
 | .loop b,Q,Q',σ,hq,h=>by
  rw [awp] at h ⊢
  intro L hL
  refine h L fun σ hσ=>hL σ (Hw (fun q σ h=>?_) hσ)
  cases q with
  |normal=>exact h
  |exit id=>exact hq _ _ h
  |ret=>exact hq _ _ h
 | .exit id,Q,Q',σ,hq,h=>by rw [awp] at h ⊢; exact hq _ _ h
 | .ret,Q,Q',σ,hq,h=>by rw [awp] at h ⊢; exact hq _ _ h
 | .rangeFunc _ _ _ _,Q,Q',σ,hq,h=>by simp [awp] at h
 | .goto _,Q,Q',σ,hq,h=>by simp [awp] at h
 | .label _,Q,Q',σ,hq,h=>by simp [awp] at h
theorem TR {b:Code} {Q:AE→St→Prop} {σ:St} (h:awp P b (AE.then (fun σ'=>∃σ1,Wk σ' σ1∧awp P (.loop b) Q σ1) Q) σ):awp P (.loop b) Q σ:=by
 rw [awp]
 intro L hL
 refine⟨σ,.nil σ,hL σ (Hw (fun q σ h=>?_) h)⟩
 cases q with
 |normal=>
  obtain⟨σ1,h1,h2⟩:=h
  rw [awp] at h2
  obtain⟨σ0,h3,h4⟩:=h2 L hL
  exact⟨σ0,h1.trans h3,h4⟩
 |exit id=>exact h
 |ret=>exact h
end
def Az {α:Type} (v:α) (K:α→Prop):Prop:=K v
def optX {α:Type} (o:Option α) (K:α→Prop):Prop:=∃x,o=some x∧K x
def AU (p q:Prop):Prop:=p∧q
def Ni (b:Bool) (p q:Prop):Prop:=(b=true∧p)∨(b=false∧q)
def Pj (b:Bool) (p q:Prop):Prop:=(b=true→p)∧(b=false→q)
structure Wrap {α:Sort _} (a:α):Type where
def eh {α:Type} (v:α) (K:α→Prop) (_:Wrap K):Prop:=K v
def Zs {α:Type} (o:Option α) (K:α→Prop) (_:Wrap K):Prop:=∃x,o=some x∧K x
def W0 (p q:Prop) (_:Wrap q):Prop:=p∧q
def RN (b:Bool) (p q:Prop) (_:Wrap p) (_:Wrap q):Prop:=(b=true→p)∧(b=false→q)
def YW (b:Bool) (p q:Prop) (_:Wrap p) (_:Wrap q):Prop:=Ni b p q
@[go_sem ↓] theorem gp {α:Type} {v:α} {K:α→Prop}:Az v K=eh v K ⟨⟩:=rfl
@[go_sem ↓] theorem gq {α:Type} {o:Option α} {K:α→Prop}:optX o K=Zs o K ⟨⟩:=rfl
@[go_sem ↓] theorem gr {p q:Prop}:AU p q=W0 p q ⟨⟩:=rfl
@[go_sem ↓] theorem ei {b:Bool} {p q:Prop}:Pj b p q=RN b p q ⟨⟩ ⟨⟩:=rfl
@[go_sem ↓] theorem gu {b:Bool} {p q:Prop}:Ni b p q=YW b p q ⟨⟩ ⟨⟩:=rfl
@[go_sem] theorem gv {α:Type} {v:α} {K:α→Prop} {w:Wrap K}:eh v K w=K v:=propext Iff.rfl
@[go_sem] theorem dd {α:Type} {x:α} {K:α→Prop} {w:Wrap K}:Zs (some x) K w=K x:=by simp [Zs]
@[go_sem] theorem de {q:Prop} {w:Wrap q}:W0 True q w=q:=by simp [W0]
@[go_sem] theorem jD {p:Prop} {w:Wrap True}:W0 p True w=p:=by simp [W0]
@[go_sem] theorem cQ {p q:Prop} {w:Wrap p} {w':Wrap q}:RN true p q w w'=p:=by simp [RN]
@[go_sem] theorem bh {p q:Prop} {w:Wrap p} {w':Wrap q}:RN false p q w w'=q:=by simp [RN]
@[go_sem] theorem dg {p q:Prop} {w:Wrap p} {w':Wrap q}:YW true p q w w'=p:=by simp [Ni,YW]
@[go_sem] theorem cR {p q:Prop} {w:Wrap p} {w':Wrap q}:YW false p q w w'=q:=by simp [Ni,YW]
theorem GP {α:Type} {x:α} {K:α→Prop}:optX (some x) K=K x:=by simp [optX]
theorem RO {α:Type} {K:α→Prop}:optX none K=False:=by simp [optX]
theorem BO {p q:Prop} {w:Wrap q} (hp:p) (hq:q):W0 p q w:=⟨hp,hq⟩
theorem Ai {α:Type} {o:Option α} {x:α} {K:α→Prop} {w:Wrap K} (h:o=some x) (hk:K x):Zs o K w:=⟨x,h,hk⟩
@[go_sem] theorem dh:isMp [] =false:=rfl
@[go_sem] theorem di {a:AV}:isMp [a] =a.mp?:=rfl
@[go_sem] theorem dj {a b:AV} {l:List AV}:isMp (a::b::l)=false:=rfl
@[go_sem] theorem dk:NS [] =true:=rfl
@[go_sem] theorem cS {a:AV} {l:List AV}:NS (a::l)=(!a.mp?&&NS l):=rfl
attribute [go_sem] AV.mp?
@[go_sem] theorem cT {α:Type} {j:Nat} {x:α} {l:List (Nat × α)} {i:Nat}:look ((j,x)::l) i=if i=j then some x else look l i:=rfl
@[go_sem] theorem ej {α:Type} {i:Nat}:look ([] :List (Nat × α)) i=none:=rfl
@[go_sem] theorem St.T_mk {s t b} {i:Nat}:St.T ⟨s,t,b⟩ i=(look t i).join :=rfl
@[go_sem] theorem St.B_mk {s t b} {i:Nat}:St.B ⟨s,t,b⟩ i=(look b i).join :=rfl
@[go_sem] theorem St.g_mk {s t b} {i:Nat}:St.g ⟨s,t,b⟩ i=(look s i).getD .any :=rfl
@[go_sem] theorem St.t_mk {s t b}:St.t ⟨s,t,b⟩=t:=rfl
@[go_sem] theorem St.b_mk {s t b}:St.b ⟨s,t,b⟩=b:=rfl
@[go_sem] theorem St.s_mk {s t b}:St.s ⟨s,t,b⟩=s:=rfl
@[go_sem] theorem St.e_tmp {σ:St} {t:Tmp}:σ.e (.tmp t)=σ.g t:=rfl
@[go_sem] theorem St.e_func {σ:St} {f:FuncId}:σ.e (.func f)= .fn f [] :=rfl
@[go_sem] theorem St.e_const {σ:St} {v:Value}:σ.e (.const v)=BF v:=rfl
@[go_sem] theorem gw {k:IntKind} {n:Int}:BF (.int k n)= .int k n:=rfl
@[go_sem] theorem ek {b:Bool}:BF (.bool b)= .bool b:=rfl
@[go_sem] theorem gy {s:ByteArray}:BF (.string s)= .str s:=rfl
@[go_sem] theorem em:BF (.slice none 0 0)= .nils :=rfl
@[go_sem] theorem en:BF (.pointer none)= .nilp :=rfl
@[go_sem] theorem eo:Gl [] =[] :=rfl
@[go_sem] theorem dl {v:Value} {vs:List Value}:Gl (v::vs)=BF v::Gl vs:=rfl
@[go_sem] theorem eq {s t b} {d:Tmp} {v:AV}:St.put ⟨s,t,b⟩ (some d) v=⟨(d,v)::s,t,b⟩:=rfl
@[go_sem] theorem eu {σ:St} {v:AV}:St.put σ none v=σ:=rfl
@[go_sem] theorem ew {s t b} {i:Nat}:St.killT ⟨s,t,b⟩ i=⟨s,(i,none)::t,b⟩:=rfl
@[go_sem] theorem gz {s t b} {i:Nat} {tk:Tok}:St.setT ⟨s,t,b⟩ i tk=⟨s,(i,some tk)::t,b⟩:=rfl
@[go_sem] theorem g7 {s t b} {i:Nat} {vs:List AV}:St.setB ⟨s,t,b⟩ i vs=⟨s,t,(i,some vs)::b⟩:=rfl
attribute [go_sem] Option.join_some Option.join_none Option.getD_some Option.getD_none reduceIte eq_self and_self true_and and_true
attribute [go_sem] List.getElem?_cons_zero List.getElem?_cons_succ List.length_cons List.length_nil List.take_succ_cons List.take_zero List.take_nil List.drop_succ_cons List.drop_zero List.map_cons List.map_nil List.set_cons_zero List.set_cons_succ List.cons_append List.nil_append Option.some.injEq reduceCtorEq TI.isAgg TI.sc AV.one splice List.all_cons List.all_nil Bool.and_self Bool.true_and Bool.and_true
def Ke (P:Program) (ops:Array Oper) (base cut i:Nat) (l:List Oper) (σ:St) (K:St→Prop) (_:Wrap ops) (_:Wrap l) (_:Wrap K) (_:Wrap cut):Prop:=aops P ops base cut i l σ K
@[go_sem ↓] theorem g8 {P:Program} {ops:Array Oper} {base cut i:Nat} {l:List Oper} {K:St→Prop} {σ:St}:aops P ops base cut i l σ K=Ke P ops base cut i l σ K ⟨⟩ ⟨⟩ ⟨⟩ ⟨⟩:=rfl
section
variable {P:Program} {σ:St} {K:St→Prop} {Q:AE→St→Prop}
@[go_sem ↓] theorem jE:awp P .skip Q σ=Q .normal σ:=by rw [awp]
@[go_sem ↓] theorem e7 {id:Nat} {l:List Oper}:awp P (.region id l.toArray false) Q σ=aops P l.toArray (id*1000+1000) 0 0 l σ (Q .normal):=by rw [awp]; rfl
def YX (P:Program) (id:Nat) (l:List Oper) (Q:AE→St→Prop) (σ:St) (_:Wrap l) (_:Wrap Q) (_:Wrap σ):Prop:=WQ P l.toArray (id*1000+1000) true σ (Q .normal)
@[go_sem ↓] theorem jF {id:Nat} {l:List Oper}:awp P (.region id l.toArray true) Q σ=YX P id l Q σ ⟨⟩ ⟨⟩ ⟨⟩:=by rw [awp]; rfl
theorem YY {id:Nat} {l:List Oper} {w1:Wrap l} {w2:Wrap Q} {w3:Wrap σ} (E:List Bool) (V:List (Nat × Nat)) (tr:Tr) (h:JU E V tr l.toArray=true) (k:EJ P l.toArray (id*1000+1000) V E 0 l [] [] σ fun ts acc σ'=>UU acc σ' fun σ'=>aTr P l.toArray (id*1000+1000) ts tr σ' (Q .normal)):YX P id l Q σ w1 w2 w3:=⟨E,V,tr,h,k⟩
theorem AX {id:Nat} {l:List Oper} {w1:Wrap l} {w2:Wrap Q} {w3:Wrap σ} (E:List Bool) (tr:Tr) (h:JU E [] tr l.toArray=true) (k:EJ P l.toArray (id*1000+1000) [] E 0 l [] [] σ fun ts acc σ'=>UU acc σ' fun σ'=>aTr P l.toArray (id*1000+1000) ts tr σ' (Q .normal)):YX P id l Q σ w1 w2 w3:=⟨E,[],tr,h,k⟩
def Zt (acc:List (Nat × List AV)) (σ:St) (K:St→Prop) (_:Wrap σ) (_:Wrap K):Prop:=UU acc σ K
@[go_sem ↓] theorem g9 {acc:List (Nat × List AV)} {σ:St} {K:St→Prop}:UU acc σ K=Zt acc σ K ⟨⟩ ⟨⟩:=rfl
@[go_sem] theorem e8 {σ:St} {K:St→Prop} {w1 w2}:Zt [] σ K w1 w2=K σ:=by
 unfold Zt UU
 simp [Dd,addB]
theorem bi {acc:List (Nat × List AV)} {s:List (Nat × AV)} {t:List (Nat × Option Tok)} {b:List (Nat × Option (List AV))} {K:St→Prop} {w1 w2} (h:Dd ⟨s,t,b⟩ acc) (k:K ⟨s,t,addB b acc⟩):Zt acc ⟨s,t,b⟩ K w1 w2:=⟨h,k⟩
attribute [go_sem] addB
def Ik (P:Program) (ops:Array Oper) (base:Nat) (V:List (Nat × Nat)) (E:List Bool) (i:Nat) (l:List Oper) (ts:List (Nat × Oper)) (acc:List (Nat × List AV)) (σ:St) (K:List (Nat × Oper)→List (Nat × List AV)→St→Prop) (_:Wrap ops) (_:Wrap l) (_:Wrap ts) (_:Wrap K) (_:Wrap V) (_:Wrap acc):Prop:=EJ P ops base V E i l ts acc σ K
def Uu (P:Program) (ops:Array Oper) (base:Nat) (r:VR) (i:Nat) (o:Oper) (acc:List (Nat × List AV)) (σ:St) (K:List (Nat × List AV)→St→Prop):Prop:=KN P ops base r i o acc σ K
def Rw (P:Program) (ops:Array Oper) (base:Nat) (r:VR) (i:Nat) (o:Oper) (acc:List (Nat × List AV)) (σ:St) (K:List (Nat × List AV)→St→Prop) (_:Wrap ops) (_:Wrap o) (_:Wrap acc) (_:Wrap σ) (_:Wrap K):Prop:=KN P ops base r i o acc σ K
section
variable {ops:Array Oper} {base i:Nat} {V:List (Nat × Nat)} {E:List Bool} {ts:List (Nat × Oper)} {acc:List (Nat × List AV)} {H:List (Nat × Oper)→List (Nat × List AV)→St→Prop} {o:Oper} {l:List Oper} {w1:Wrap ops} {w3:Wrap ts} {w4:Wrap H} {w5:Wrap V} {w6:Wrap acc}
@[go_sem ↓] theorem e9:EJ P ops base V E i l ts acc σ H=Ik P ops base V E i l ts acc σ H ⟨⟩ ⟨⟩ ⟨⟩ ⟨⟩ ⟨⟩ ⟨⟩:=rfl
@[go_sem] theorem j6 {w2:Wrap ([] :List Oper)}:Ik P ops base V E i [] ts acc σ H w1 w2 w3 w4 w5 w6=H ts acc σ:=by unfold Ik; cases E with|nil=>rfl|cons b E=>cases b <;> rfl
@[go_sem] theorem jG {w2:Wrap (o::l)}:Ik P ops base V (true::E) i (o::l) ts acc σ H w1 w2 w3 w4 w5 w6=EJ P ops base V E (i+1) l ((i,o)::ts) acc σ H:=rfl
@[go_sem] theorem hD {w2:Wrap (o::l)}:Ik P ops base V (false::E) i (o::l) ts acc σ H w1 w2 w3 w4 w5 w6=Uu P ops base (B5 V i) i o acc σ fun acc' σ'=>EJ P ops base V E (i+1) l ts acc' σ' H:=rfl
@[go_sem] theorem j7 {w2:Wrap (o::l)}:Ik P ops base V [] i (o::l) ts acc σ H w1 w2 w3 w4 w5 w6=Uu P ops base (B5 V i) i o acc σ fun acc' σ'=>EJ P ops base V [] (i+1) l ts acc' σ' H:=rfl
@[go_sem] theorem cU {x:Oper} {xs b:List Oper} {w2}:Ik P ops base V E i (List.append (x::xs) b) ts acc σ H w1 w2 w3 w4 w5 w6=Ik P ops base V E i (x::List.append xs b) ts acc σ H w1 ⟨⟩ w3 w4 w5 w6:=rfl
@[go_sem] theorem dn {b:List Oper} {w2}:Ik P ops base V E i (List.append [] b) ts acc σ H w1 w2 w3 w4 w5 w6=Ik P ops base V E i b ts acc σ H w1 ⟨⟩ w3 w4 w5 w6:=rfl
@[go_sem ↓] theorem fA {r:VR} {K:List (Nat × List AV)→St→Prop}:Uu P ops base r i o acc σ K=Rw P ops base r i o acc σ K ⟨⟩ ⟨⟩ ⟨⟩ ⟨⟩ ⟨⟩:=rfl
attribute [go_sem] B5
@[go_sem] theorem fB {K:List (Nat × List AV)→St→Prop} {w1 w2 w3 w4 w5}:Rw P ops base .no i o acc σ K w1 w2 w3 w4 w5=aops P ops base (i+1) i [o] σ (K acc):=rfl
@[go_sem] theorem fC {K:List (Nat × List AV)→St→Prop} {dst:Option Tmp} {t ty:TypeId} {ps:String} {af:Array Edge} {w1 w2 w3 w4 w5}:Rw P ops base .al i ⟨dst,.alloc t,ty,ps,af,none⟩ acc σ K w1 w2 w3 w4 w5=AU (0<(tz P t).length ∧(tz P t).length =tsz P t∧isMp ((tz P t).map zAV)=false) (K acc (σ.put dst (.box (base+i) 0))):=rfl
def stV (P:Program) (base k:Nat) (t:TypeId) (x a:AV) (dst:Option Tmp) (acc:List (Nat × List AV)) (σ:St) (K:List (Nat × List AV)→St→Prop):Prop:=match cellsOf x with
 |some cs=>(cs.length=tsz P t∧0<tsz P t∧cs.all AV.one=true)∧a= .box (base+k) 0∧K ((base+k,cs)::acc) (σ.put dst .any)
 |none=>False
@[go_sem] theorem fD {K:List (Nat × List AV)→St→Prop} {k:Nat} {dst:Option Tmp} {t ty:TypeId} {a x:Operand} {ps:String} {af:Array Edge} {w1 w2 w3 w4 w5}:Rw P ops base (.st k) i ⟨dst,.store t a x,ty,ps,af,none⟩ acc σ K w1 w2 w3 w4 w5=Az (σ.e x) fun x=>Az (σ.e a) fun a=>stV P base k t x a dst acc σ K:=rfl
def cV (P:Program) (base k:Nat) (t:TypeId) (x a:AV) (dst:Option Tmp) (acc:List (Nat × List AV)) (σ:St) (K:List (Nat × List AV)→St→Prop) (_:Wrap x) (_:Wrap a) (_:Wrap acc) (_:Wrap σ) (_:Wrap K):Prop:=stV P base k t x a dst acc σ K
@[go_sem ↓] theorem jH {k:Nat} {t:TypeId} {x a:AV} {dst:Option Tmp} {K:List (Nat × List AV)→St→Prop}:stV P base k t x a dst acc σ K=cV P base k t x a dst acc σ K ⟨⟩ ⟨⟩ ⟨⟩ ⟨⟩ ⟨⟩:=rfl
theorem Vx {k:Nat} {t:TypeId} {x a:AV} {dst:Option Tmp} {K:List (Nat × List AV)→St→Prop} {w1 w2 w3 w4 w5} (cs:List AV) (h1:cellsOf x=some cs) (h2:cs.length=tsz P t∧0<tsz P t∧cs.all AV.one=true) (h3:a= .box (base+k) 0) (h:K ((base+k,cs)::acc) (σ.put dst .any)):cV P base k t x a dst acc σ K w1 w2 w3 w4 w5:=by
 unfold cV stV
 rw [h1]
 exact⟨h2,h3,h⟩
def trX (o:Option Oper) (f:Oper→Prop):Prop:=match o with
 |some o=>f o
 |none=>False
def trY (o:Option Oper) (f:Oper→Prop) (_:Wrap f):Prop:=trX o f
@[go_sem ↓] theorem jI {x:Option Oper} {f:Oper→Prop}:trX x f=trY x f ⟨⟩:=rfl
@[go_sem] theorem fE {f:Oper→Prop} {w:Wrap f}:trY (some o) f w=f o:=rfl
def cW (p q:Prop):Prop:=p∧q
def fF (p q:Prop) (_:Wrap p) (_:Wrap q):Prop:=p∧q
@[go_sem ↓] theorem hH {p q:Prop}:cW p q=fF p q ⟨⟩ ⟨⟩:=rfl
theorem BS {p q:Prop} {w:Wrap p} {w':Wrap q} (hp:p) (hq:q):fF p q w w':=⟨hp,hq⟩
def QW (P:Program) (ops:Array Oper) (base:Nat) (ts:List (Nat × Oper)) (tr:Tr) (σ:St) (K:St→Prop) (_:Wrap ops) (_:Wrap ts) (_:Wrap K):Prop:=aTr P ops base ts tr σ K
@[go_sem ↓] theorem jJ {tr:Tr}:aTr P ops base ts tr σ K=QW P ops base ts tr σ K ⟨⟩ ⟨⟩ ⟨⟩:=rfl
@[go_sem] theorem jK {w3:Wrap ts} {w4:Wrap K}:QW P ops base ts .fin σ K w1 w3 w4=K σ:=rfl
@[go_sem] theorem jL {t:Tr} {w3:Wrap ts} {w4:Wrap K}:QW P ops base ts (.br i t .stop) σ K w1 w3 w4=trX (look ts i) fun o=>aops P ops base 0 i [o] σ fun σ'=>aTr P ops base ts t σ' K:=by
 unfold QW trX
 rw [aTr,aTr,and_true]
 rfl
@[go_sem] theorem jM {t u m:Tr} {j:Nat} {w3:Wrap ts} {w4:Wrap K}:QW P ops base ts (.br i t (.br j u m)) σ K w1 w3 w4=cW (aTr P ops base ts (.br i t .stop) σ K) (aTr P ops base ts (.br j u m) σ K):=by
 unfold QW cW
 simp only [aTr,and_true]
@[go_sem] theorem jN {t:Tr} {w3:Wrap ts} {w4:Wrap K}:QW P ops base ts (Tr.sq [] t) σ K w1 w3 w4=QW P ops base ts t σ K w1 w3 w4:=rfl
@[go_sem] theorem j8 {t:Tr} {is:List Nat} {w3:Wrap ts} {w4:Wrap K}:QW P ops base ts (Tr.sq (i::is) t) σ K w1 w3 w4=QW P ops base ts (.br i (Tr.sq is t) .stop) σ K w1 w3 w4:=rfl
end
def Zu (p:Bool) (K:St→Prop) (σ:St):Prop:=seqW p K σ
def TS (p:Bool) (K:St→Prop) (σ:St) (_:Wrap K) (_:Wrap σ):Prop:=seqW p K σ
@[go_sem ↓] theorem hJ {p:Bool}:Zu p K σ=TS p K σ ⟨⟩ ⟨⟩:=rfl
@[go_sem] theorem dp {w1:Wrap K} {w2:Wrap σ}:TS true K σ w1 w2=K σ:=rfl
theorem FD {w1:Wrap K} {w2:Wrap σ} (h:K σ):TS false K σ w1 w2:=⟨σ,.nil σ,h⟩
theorem Rx {w1:Wrap K} {w2:Wrap σ} {σ1:St} (hn:Nils σ σ1) (h:K σ1):TS false K σ w1 w2:=⟨σ1,.fz hn (.nil σ1),h⟩
theorem YZ {w1:Wrap K} {w2:Wrap σ} {σ1:St} (h:K σ1) (hw:Wk σ σ1):TS false K σ w1 w2:=⟨σ1,hw,h⟩
@[go_sem] theorem Zv {id:Nat} {l:List Oper}:Ho (.region id l.toArray false)=l.all fun o=>o.guard.isNone&&cH o.op:=rfl
attribute [go_sem] cH Bool.and_true Bool.true_and Bool.and_false Bool.false_and
@[go_sem] theorem cX {id:Nat} {l:List Oper}:Ho (.region id l.toArray true)=false:=rfl
@[go_sem] theorem cY:Ho .skip =false:=rfl
@[go_sem] theorem dq {a b:Code}:Ho (.seq a b)=false:=rfl
@[go_sem] theorem cZ {c:Operand} {a b:Code}:Ho (.cond c a b)=false:=rfl
@[go_sem] theorem bj {id:Nat} {a:Code}:Ho (.block id a)=false:=rfl
@[go_sem] theorem cc {a:Code}:Ho (.loop a)=false:=rfl
@[go_sem] theorem cd {id:Nat}:Ho (.exit id)=false:=rfl
@[go_sem] theorem dr:Ho .ret =false:=rfl
attribute [go_sem] Option.isNone_none Option.isNone_some List.all_cons List.all_nil
@[go_sem ↓] theorem j9 {a b:Code}:awp P (.seq a b) Q σ=awp P a (AE.then (Zu (Ho a) (awp P b Q)) Q) σ:=by rw [awp]; rfl
@[go_sem ↓] theorem jO {c:Operand} {a b:Code}:awp P (.cond c a b) Q σ=Az (σ.e c) fun v=>Vd v (awp P a Q σ) (awp P b Q σ):=by rw [awp]; rfl
@[go_sem ↓] theorem hU {id:Nat} {c:Code}:awp P (.block id c) Q σ=awp P c (AE.inBlock id Q) σ:=by rw [awp]
@[go_sem ↓] theorem jP {id:Nat}:awp P (.exit id) Q σ=Q (.exit id) σ:=by rw [awp]
@[go_sem ↓] theorem kA:awp P .ret Q σ=Q .ret σ:=by rw [awp]
@[go_sem] theorem Uv {b:Bool} {p q:Prop}:Vd (.bool b) p q=Pj b p q:=by simp [Vd,Pj]
@[go_sem ↓] theorem bn {n:St→Prop}:AE.then n Q .normal σ=n σ:=rfl
@[go_sem ↓] theorem dt {n:St→Prop} {id:Nat}:AE.then n Q (.exit id) σ=Q (.exit id) σ:=rfl
@[go_sem ↓] theorem fG {n:St→Prop}:AE.then n Q .ret σ=Q .ret σ:=rfl
@[go_sem ↓] theorem Zw {id:Nat}:AE.inBlock id Q .normal σ=Q .normal σ:=rfl
@[go_sem ↓] theorem du {id:Nat}:AE.inBlock id Q .ret σ=Q .ret σ:=rfl
def TT (P:Program) (b:Code) (Q:AE→St→Prop) (σ:St) (_:Wrap b) (_:Wrap Q):Prop:=awp P (.loop b) Q σ
def lpX (P:Program) (b:Code) (Q:AE→St→Prop) (σ:St):Prop:=∃σ1,Wk σ σ1∧awp P (.loop b) Q σ1
def lpY (P:Program) (b:Code) (Q:AE→St→Prop) (σ:St) (_:Wrap b) (_:Wrap Q) (_:Wrap σ):Prop:=∃σ1,Wk σ σ1∧awp P (.loop b) Q σ1
@[go_sem ↓] theorem jQ {b:Code}:lpX P b Q σ=lpY P b Q σ ⟨⟩ ⟨⟩ ⟨⟩:=rfl
theorem RP {b:Code} {w1:Wrap b} {w2:Wrap Q} {w3:Wrap σ} {σ1:St} (h:awp P (.loop b) Q σ1) (hw:Wk σ σ1):lpY P b Q σ w1 w2 w3:=⟨σ1,hw,h⟩
theorem Ad {b:Code} {w1:Wrap b} {w2:Wrap Q} (h:awp P b (AE.then (lpX P b Q) Q) σ):TT P b Q σ w1 w2:=TR h
@[go_sem ↓] theorem dv {b:Code}:awp P (.loop b) Q σ=TT P b Q σ ⟨⟩ ⟨⟩:=rfl
@[go_sem ↓] theorem ce {id i:Nat}:AE.inBlock id Q (.exit i) σ=Ni (decide (i=id)) (Q .normal σ) (Q (.exit i) σ):=by
 simp only [AE.inBlock,Ni]
 by_cases h:i=id <;> simp [h]
attribute [go_sem] decide_true decide_false
def opX (P:Program) (pos:Nat) (dst:Option Tmp) (op:Op) (σ:St) (K:St→Prop):Prop:=aop P pos ⟨dst,op,0, "",#[],none⟩ σ K
def opL (P:Program) (L:Bool) (pos:Nat) (dst:Option Tmp) (op:Op) (σ:St) (K:St→Prop) (_:Wrap L):Prop:=OO P L pos ⟨dst,op,0, "",#[],none⟩ σ K
theorem TU {L:Bool} {pos:Nat} {o:Oper}:OO P L pos o σ K=opL P L pos o.dst o.op σ K ⟨⟩:=by
 obtain⟨dst,op,type,ps,after,guard⟩:=o
 rfl
@[go_sem] theorem kC {ops:Array Oper} {base cut i:Nat} {w1:Wrap ops} {w2:Wrap ([] :List Oper)} {w3:Wrap K} {w4:Wrap cut}:Ke P ops base cut i [] σ K w1 w2 w3 w4=K σ:=by rw [Ke,aops]
@[go_sem] theorem jR {ops:Array Oper} {base cut i:Nat} {dst:Option Tmp} {op:Op} {type:TypeId} {ps:String} {after:Array Edge} {rest:List Oper} {w1:Wrap ops} {w2} {w3:Wrap K} {w4:Wrap cut}:
  Ke P ops base cut i (⟨dst,op,type,ps,after,none⟩::rest) σ K w1 w2 w3 w4=opL P (decide (cut≤i)) (base+i) dst op σ (fun σ'=>aops P ops base cut (i+1) rest σ' K) ⟨⟩:=by
 rw [Ke,aops]; simp only [TU]
def Mr (ops:Array Oper) (j:Nat) (K:Tmp→Prop):Prop:=optX (HH ops j) K
@[go_sem ↓] theorem cf {dst:Tmp} {op:Op} {type:TypeId} {ps:String} {after:Array Edge} {g:Option (Nat × Bool)} {rest:List Oper} {K:Tmp→Prop}:Mr (List.toArray (⟨some dst,op,type,ps,after,g⟩::rest)) 0 K=K dst:=by
 simp [Mr,HH,optX]
@[go_sem ↓] theorem cg {o:Oper} {rest:List Oper} {j:Nat} {K:Tmp→Prop}:Mr (List.toArray (o::rest)) (j+1) K=Mr rest.toArray j K:=by
 simp [Mr,HH]
def Kf (v:AV) (want:Bool) (p q q':Prop):Prop:=(∃b,v= .bool b∧(b=want→p)∧(b= !want→q))∨(v= .tup [] ∧q')
@[go_sem ↓] theorem TV {b:Bool} {p q q':Prop}:Kf (.bool b) true p q q'=Pj b p q:=by simp [Kf,Pj]
@[go_sem ↓] theorem Ry {b:Bool} {p q q':Prop}:Kf (.bool b) false p q q'=Pj b q p:=by
 simp only [Kf,Pj,AV.bool.injEq,exists_eq_left',Bool.not_false,reduceCtorEq,false_and,or_false]
 exact propext And.comm
@[go_sem ↓] theorem W1 {want:Bool} {p q q':Prop}:Kf (.tup []) want p q q'=q':=by simp [Kf]
@[go_sem] theorem hZ {ops:Array Oper} {base cut i:Nat} {dst:Option Tmp} {op:Op} {type:TypeId} {ps:String} {after:Array Edge} {j:Nat} {want:Bool} {rest:List Oper} {w1:Wrap ops} {w2} {w3:Wrap K} {w4:Wrap cut}:
  Ke P ops base cut i (⟨dst,op,type,ps,after,some (j,want)⟩::rest) σ K w1 w2 w3 w4=Mr ops j fun s=>Az (σ.g s) fun v=>Kf v want
   (opL P (decide (cut≤i)) (base+i) dst op (σ.put (some s) (.bool want)) (fun σ'=>aops P ops base cut (i+1) rest σ' K) ⟨⟩)
   (aops P ops base cut (i+1) rest ((σ.put (some s) (.bool (!want))).put dst (.tup [])) K)
   (aops P ops base cut (i+1) rest (σ.put dst (.tup [])) K):=by
 rw [Ke,aops]
 simp only [TU,Mr,optX,Kf,Az]
section
variable {L:Bool} {pos:Nat} {dst:Option Tmp} {wL:Wrap L}
theorem Ch {op:Op} (h:∀ (σ:St) (K:St→Prop),KL P ⟨dst,op,0, "",#[],none⟩ σ K=False) (hA:O1 ⟨dst,op,0, "",#[],none⟩=false:=by rfl) (hS:SliK P pos ⟨dst,op,0, "",#[],none⟩ σ K=False:=by rfl):opL P L pos dst op σ K wL=opX P pos dst op σ K:=by
 unfold opL OO opX
 rw [h,hA,hS]; simp
@[go_sem ↓] theorem fH {x:Operand}:opL P L pos dst (.move x) σ K wL=opX P pos dst (.move x) σ K:=Ch fun _ _=>rfl
@[go_sem ↓] theorem ci {x:Operand}:opL P L pos dst (.assign x) σ K wL=opX P pos dst (.assign x) σ K:=Ch fun _ _=>rfl
@[go_sem ↓] theorem fI {a b c:Operand}:opL P L pos dst (.pick c a b) σ K wL=opX P pos dst (.pick c a b) σ K:=Ch fun _ _=>rfl
@[go_sem ↓] theorem fJ {t:TypeId} {a:Operand}:opL P L pos dst (.load t a) σ K wL=opX P pos dst (.load t a) σ K:=Ch fun _ _=>rfl
@[go_sem ↓] theorem Zx {x:Operand}:opL P L pos dst (.nilCheck x) σ K wL=opX P pos dst (.nilCheck x) σ K:=Ch fun _ _=>rfl
@[go_sem ↓] theorem iA {op:BinOp} {t t':TypeId} {x y:Operand}:opL P L pos dst (.binOp op t x y t') σ K wL=opX P pos dst (.binOp op t x y t') σ K:=Ch fun _ _=>rfl
@[go_sem ↓] theorem jS {op:UnOp} {t:TypeId} {x:Operand}:opL P L pos dst (.unOp op t x) σ K wL=opX P pos dst (.unOp op t x) σ K:=Ch fun _ _=>rfl
@[go_sem ↓] theorem bp {s d:TypeId} {x:Operand}:opL P L pos dst (.convert s d x) σ K wL=opX P pos dst (.convert s d x) σ K:=Ch fun _ _=>rfl
@[go_sem ↓] theorem Zb {s:TypeId} {x:Operand} {f:Nat}:opL P L pos dst (.fieldAddr s x f) σ K wL=opX P pos dst (.fieldAddr s x f) σ K:=Ch fun _ _=>rfl
@[go_sem ↓] theorem Zc {t:TypeId} {x i:Operand}:opL P L pos dst (.indexAddr t x i) σ K wL=opX P pos dst (.indexAddr t x i) σ K:=Ch fun _ _=>rfl
@[go_sem ↓] theorem dw {t:TypeId} {x i:Operand}:opL P L pos dst (.index t x i) σ K wL=opX P pos dst (.index t x i) σ K:=Ch fun _ _=>rfl
def Uw (P:Program) (L:Bool) (pos:Nat) (dst:Option Tmp) (op:Op) (v:AV) (σ:St) (K:St→Prop):Prop:=opX P pos dst op σ K∨(L=true∧(match v with| .own _=>True|_=>False)∧SliK P pos ⟨dst,op,0, "",#[],none⟩ σ K)
def Ux (P:Program) (L:Bool) (pos:Nat) (dst:Option Tmp) (op:Op) (v:AV) (σ:St) (K:St→Prop) (_:Wrap σ) (_:Wrap K) (_:Wrap op):Prop:=Uw P L pos dst op v σ K
@[go_sem ↓] theorem iB {op:Op} {v:AV}:Uw P L pos dst op v σ K=Ux P L pos dst op v σ K ⟨⟩ ⟨⟩ ⟨⟩:=rfl
@[go_sem] theorem iC {op:Op} {rows:List (List D)} {w1 w2 w3}:Ux P L pos dst op (.ro rows) σ K w1 w2 w3=opX P pos dst op σ K:=by simp [Ux,Uw]
@[go_sem] theorem fK {op:Op} {s:ByteArray} {w1 w2 w3}:Ux P L pos dst op (.str s) σ K w1 w2 w3=opX P pos dst op σ K:=by simp [Ux,Uw]
theorem W2 {t:TypeId} {x:Operand} {l h m:Option Operand}:opL P L pos dst (.slice t x l h m) σ K wL=Uw P L pos dst (.slice t x l h m) (σ.e x) σ K:=by
 have h1:KL P ⟨dst,.slice t x l h m,0, "",#[],none⟩ σ K=False:=rfl
 have h2:O1 ⟨dst,.slice t x l h m,0, "",#[],none⟩=false:=rfl
 have h3:SliK P pos ⟨dst,.slice t x l h m,0, "",#[],none⟩ σ K=((match σ.e x with| .own _=>True|_=>False)∧SliK P pos ⟨dst,.slice t x l h m,0, "",#[],none⟩ σ K):=by
  unfold SliK
  cases m with
  |some m=>simp
  |none=>
   simp only
   generalize σ.e x=v
   cases v <;> simp
 unfold opL OO Uw opX
 rw [h1,h2]
 refine propext ⟨?_,?_⟩
 ·rintro (⟨-,h⟩|⟨hL,h|h⟩|⟨-,h,-⟩)
  ·exact .inl h
  ·exact h.elim
  ·rw [h3] at h; exact .inr ⟨hL,h⟩
  ·cases h
 ·rintro (h|⟨hL,-,h⟩)
  ·exact .inl ⟨.inr rfl,h⟩
  ·exact .inr (.inl ⟨hL,.inr h⟩)
@[go_sem ↓] theorem cj {t:TypeId} {x:Operand} {l h m:Option Operand}:opL P L pos dst (.slice t x l h m) σ K wL=Az (σ.e x) fun v=>Uw P L pos dst (.slice t x l h m) v σ K:=W2
theorem bq {t el:TypeId} {x:Operand} {l h:Option Operand} {n:Nat} {tk:Tok} {i j:Int} {r:List (List D)} {w1 w2 w3} (he:σ.e x= .own n) (hT:σ.T n=some tk) (hu:ti P t= .sl el) (hz:0<tsz P el) (hr:∀row ∈ tk.rows,row.length=tsz P el) (hi:bndI (l.map σ.e) 0=some i) (hj:bndI (h.map σ.e) tk.rows.length=some j) (hc:cutL tk.rows i j=some r) (hl:look σ.t (pos*16)=none)
  (k:K (St.put ⟨σ.s,(pos*16,some ⟨r,none,0,tk.z⟩)::(n,none)::σ.t,σ.b⟩ dst (.own (pos*16)))):Ux P true pos dst (.slice t x l h none) (.own n) σ K w1 w2 w3:=by
 refine .inr ⟨rfl,trivial,?_⟩
 unfold SliK
 simp only [he]
 exact⟨tk,hT,el,hu,⟨hz,hr⟩,i,hi,j,hj,r,hc,hl,k⟩
@[go_sem ↓] theorem bt {x:Operand} {i:Nat}:opL P L pos dst (.extract x i) σ K wL=opX P pos dst (.extract x i) σ K:=Ch fun _ _=>rfl
@[go_sem ↓] theorem Zy {c:Fn} {a b:Array Operand}:opL P L pos dst (.makeFunc c a b) σ K wL=opX P pos dst (.makeFunc c a b) σ K:=Ch fun _ _=>rfl
@[go_sem ↓] theorem iD {t:TypeId} {x:Operand}:opL P L pos dst (.box t x) σ K wL=opX P pos dst (.box t x) σ K:=Ch fun _ _=>rfl
@[go_sem ↓] theorem dx {t:TypeId}:opL P L pos dst (.alloc t) σ K wL=opX P pos dst (.alloc t) σ K:=Ch fun _ _=>rfl
@[go_sem ↓] theorem dy {t:TypeId} {ps:Array (Nat × Operand)}:opL P L pos dst (.build t ps) σ K wL=opX P pos dst (.build t ps) σ K:=Ch fun _ _=>rfl
@[go_sem ↓] theorem Ya {t:TypeId} {n:Nat} {ps:Array (Nat × Operand)}:opL P L pos dst (.buildSlice t n ps) σ K wL=opX P pos dst (.buildSlice t n ps) σ K:=Ch fun _ _=>rfl
@[go_sem ↓] theorem Zd {t:TypeId} {l c:Operand}:opL P L pos dst (.makeSlice t l c) σ K wL=opX P pos dst (.makeSlice t l c) σ K:=Ch fun _ _=>rfl
@[go_sem ↓] theorem bu {t:TypeId} {r:Option Operand}:opL P L pos dst (.makeMap t r) σ K wL=opX P pos dst (.makeMap t r) σ K:=Ch fun _ _=>rfl
@[go_sem ↓] theorem ck {t:TypeId} {x i:Operand} {ok:Bool}:opL P L pos dst (.lookup t x i ok) σ K wL=opX P pos dst (.lookup t x i ok) σ K:=Ch fun _ _=>rfl
@[go_sem ↓] theorem Ze {t:TypeId} {m i x:Operand}:opL P L pos dst (.mapUpdate t m i x) σ K wL=opX P pos dst (.mapUpdate t m i x) σ K:=Ch fun _ _=>rfl
@[go_sem ↓] theorem d6 {t:TypeId} {a x:Operand}:opL P L pos dst (.store t a x) σ K wL=opX P pos dst (.store t a x) σ K:=Ch fun _ _=>rfl
@[go_sem ↓] theorem iE {as:Array Operand} {ts:Array TypeId}:opL P L pos dst (.call ⟨.builtin .len,as,ts⟩) σ K wL=opX P pos dst (.call ⟨.builtin .len,as,ts⟩) σ K:=Ch fun _ _=>rfl
@[go_sem ↓] theorem iF {as:Array Operand} {ts:Array TypeId}:opL P L pos dst (.call ⟨.builtin .max,as,ts⟩) σ K wL=opX P pos dst (.call ⟨.builtin .max,as,ts⟩) σ K:=Ch fun _ _=>rfl
@[go_sem ↓] theorem iG {as:Array Operand} {ts:Array TypeId}:opL P L pos dst (.call ⟨.builtin .min,as,ts⟩) σ K wL=opX P pos dst (.call ⟨.builtin .min,as,ts⟩) σ K:=Ch fun _ _=>rfl
def opE (P:Program) (pos:Nat) (dst:Option Tmp) (op:Op) (σ:St) (K:St→Prop):Prop:=∃r,Ev P pos ⟨dst,op,0, "",#[],none⟩ σ.e σ.T σ.B r∧CV σ r.t∧Dd σ r.b∧K (σ.add dst r)
def W3 (L:Bool) (p q:Prop) (_:Wrap p) (_:Wrap q):Prop:=(L=true∧p)∨(L=false∧q)
@[go_sem] theorem d7 {p q:Prop} {w1:Wrap p} {w2:Wrap q}:W3 true p q w1 w2=p:=by simp [W3]
@[go_sem] theorem cm {p q:Prop} {w1:Wrap p} {w2:Wrap q}:W3 false p q w1 w2=q:=by simp [W3]
@[go_sem ↓] theorem cn {as:Array Operand} {ts:Array TypeId}:opL P L pos dst (.call ⟨.builtin .append,as,ts⟩) σ K wL=W3 L (opX P pos dst (.call ⟨.builtin .append,as,ts⟩) σ K) (opE P pos dst (.call ⟨.builtin .append,as,ts⟩) σ K) ⟨⟩ ⟨⟩:=by
 have h1:KL P ⟨dst,.call ⟨.builtin .append,as,ts⟩,0, "",#[],none⟩ σ K=False:=rfl
 have h2:O1 ⟨dst,.call ⟨.builtin .append,as,ts⟩,0, "",#[],none⟩=true:=rfl
 have h3:SliK P pos ⟨dst,.call ⟨.builtin .append,as,ts⟩,0, "",#[],none⟩ σ K=False:=rfl
 unfold opL OO opX W3 opE
 rw [h1,h2,h3]
 simp
end
attribute [go_sem] Bool.not_true Bool.not_false Nat.zero_le
theorem Fw {pos:Nat} {dst:Option Tmp} {op:Op} (h:∀K',aop P pos ⟨dst,op,0, "",#[],none⟩ σ K'=∃r,Ev P pos ⟨dst,op,0, "",#[],none⟩ σ.e σ.T σ.B r∧CV σ r.t∧Dd σ r.b∧K' (σ.add dst r)) {p:AV→Prop} (hp:∀r,Ev P pos ⟨dst,op,0, "",#[],none⟩ σ.e σ.T σ.B r=∃v,p v∧r=⟨v,[],[]⟩):
  opX P pos dst op σ K=∃v,p v∧K (σ.put dst v):=by
 unfold opX
 rw [h]
 refine propext ⟨?_,?_⟩
 ·rintro ⟨r,h1,h2,h3,h4⟩
  rw [hp] at h1
  obtain⟨v,h5,rfl⟩:=h1
  exact⟨v,h5,by cases dst <;> exact h4⟩
 ·rintro ⟨v,h5,h4⟩
  exact⟨⟨v,[],[]⟩,by rw [hp]; exact⟨v,h5,rfl⟩,trivial,trivial,by cases dst <;> exact h4⟩
@[go_sem ↓] theorem jT {pos:Nat} {dst:Option Tmp} {x:Operand}:opX P pos dst (.move x) σ K=Az (σ.e x) fun v=>K (σ.put dst v):=by
 rw [Fw (p:=fun v=>v=σ.e x) (fun _=>by simp only [aop]) (fun r=>by simp [Ev])]
 simp [Az]
@[go_sem ↓] theorem fL {pos:Nat} {dst:Option Tmp} {x:Operand}:opX P pos dst (.assign x) σ K=Az (σ.e x) fun v=>K (σ.put dst v):=by
 rw [Fw (p:=fun v=>v=σ.e x) (fun _=>by simp only [aop]) (fun r=>by simp [Ev])]
 simp [Az]
def Pk (c a b:AV) (K:AV→Prop):Prop:=∃t,c= .bool t∧K (if t=true then a else b)
@[go_sem] theorem Uy {a b:AV} {K:AV→Prop}:Pk (.bool true) a b K=K a:=by simp [Pk]
@[go_sem] theorem TW {a b:AV} {K:AV→Prop}:Pk (.bool false) a b K=K b:=by simp [Pk]
theorem cp {pos:Nat} {dst:Option Tmp} {c a b:Operand}:opX P pos dst (.pick c a b) σ K=Pk (σ.e c) (σ.e a) (σ.e b) fun v=>K (σ.put dst v):=by
 rw [Fw (p:=fun v=>∃t,σ.e c= .bool t∧v=if t=true then σ.e a else σ.e b) (fun _=>by simp only [aop]) (fun r=>by
  simp only [Ev]
  refine propext ⟨?_,?_⟩
  ·rintro ⟨t,h,rfl⟩; exact⟨_,⟨t,h,rfl⟩,rfl⟩
  ·rintro ⟨v,⟨t,h,rfl⟩,rfl⟩; exact⟨t,h,rfl⟩)]
 simp only [Pk]
 refine propext ⟨?_,?_⟩
 ·rintro ⟨v,⟨t,h,rfl⟩,hk⟩; exact⟨t,h,hk⟩
 ·rintro ⟨t,h,hk⟩; exact⟨_,⟨t,h,rfl⟩,hk⟩
def Ms (P:Program) (t:TypeId) (a:AV) (σ:St) (K:AV→Prop):Prop:=∃v,IR P σ.T σ.B t a v∧K v
def ldX (P:Program) (t:TypeId) (off:Nat) (vs:List AV) (K:AV→Prop):Prop:=
 Ni (ti P t).isAgg (AU (off+tsz P t≤vs.length) (Az (.agg (FB vs off (tsz P t))) K)) (AU ((ti P t).sc =true) (optX vs[off]? K))
theorem cq {pos:Nat} {dst:Option Tmp} {t:TypeId} {a:Operand}:opX P pos dst (.load t a) σ K=Ms P t (σ.e a) σ fun v=>K (σ.put dst v):=
 Fw (p:=fun v=>IR P σ.T σ.B t (σ.e a) v) (fun _=>by simp only [aop]) (fun r=>by simp only [Ev])
@[go_sem] theorem W4 {t:TypeId} {b off:Nat} {K:AV→Prop}:Ms P t (.box b off) σ K=optX (σ.B b) fun vs=>AU (isMp vs=false) (ldX P t off vs K):=by
 simp only [Ms,IR,optX,ldX,Ni,AU,Az]
 by_cases h:(ti P t).isAgg =true
 ·simp only [h,if_true]
  refine propext ⟨?_,?_⟩
  ·rintro ⟨v,⟨vs,h1,hm,h2,rfl⟩,hk⟩; exact⟨vs,h1,hm,.inl ⟨trivial,h2,hk⟩⟩
  ·rintro ⟨vs,h1,hm,(⟨-,h2,hk⟩|⟨hh,-⟩)⟩
   ·exact⟨_,⟨vs,h1,hm,h2,rfl⟩,hk⟩
   ·cases hh
 ·have h':(ti P t).isAgg =false:=by simpa using h
  simp only [h',Bool.false_eq_true,if_false]
  refine propext ⟨?_,?_⟩
  ·rintro ⟨v,⟨vs,h1,hm,h2,h3⟩,hk⟩; exact⟨vs,h1,hm,.inr ⟨trivial,h2,v,h3,hk⟩⟩
  ·rintro ⟨vs,h1,hm,(⟨hh,-⟩|⟨-,h2,v,h3,hk⟩)⟩
   ·exact hh.elim
   ·exact⟨v,⟨vs,h1,hm,h2,h3⟩,hk⟩
@[go_sem] theorem W5 {t:TypeId} {vs:List AV} {off:Nat} {K:AV→Prop}:Ms P t (.rop vs off) σ K=ldX P t off vs K:=by
 simp only [Ms,IR,optX,ldX,Ni,AU,Az]
 by_cases h:(ti P t).isAgg =true
 ·simp only [h,if_true]
  refine propext ⟨?_,?_⟩
  ·rintro ⟨v,⟨h2,rfl⟩,hk⟩; exact .inl ⟨trivial,h2,hk⟩
  ·rintro (⟨-,h2,hk⟩|⟨hh,-⟩)
   ·exact⟨_,⟨h2,rfl⟩,hk⟩
   ·cases hh
 ·have h':(ti P t).isAgg =false:=by simpa using h
  simp only [h',Bool.false_eq_true,if_false]
  refine propext ⟨?_,?_⟩
  ·rintro ⟨v,⟨h2,h3⟩,hk⟩; exact .inr ⟨trivial,h2,v,h3,hk⟩
  ·rintro (⟨hh,-⟩|⟨-,h2,v,h3,hk⟩)
   ·exact hh.elim
   ·exact⟨v,⟨h2,h3⟩,hk⟩
@[go_sem] theorem W6 {t:TypeId} {t' sz i off:Nat} {K:AV→Prop}:Ms P t (.elt t' sz i off) σ K=
  optX (σ.T t') fun tk=>optX tk.rows[i]? fun row=>AU (row.length=sz) (Ni (ti P t).isAgg (AU (off+tsz P t≤sz) (Az (.agg (Lw t' tk.gen [] sz i row off (tsz P t))) K)) (AU ((ti P t).sc =true) (optX row[off]? fun d=>K (ofT t' tk.gen [] sz i off d)))):=by
 simp only [Ms,IR,optX,Ni,AU,Az]
 by_cases h:(ti P t).isAgg =true
 ·simp only [h,if_true]
  refine propext ⟨?_,?_⟩
  ·rintro ⟨v,⟨tk,row,h1,h2,h3,h4,rfl⟩,hk⟩; exact⟨tk,h1,row,h2,h3,.inl ⟨trivial,h4,hk⟩⟩
  ·rintro ⟨tk,h1,row,h2,h3,(⟨-,h4,hk⟩|⟨hh,-⟩)⟩
   ·exact⟨_,⟨tk,row,h1,h2,h3,h4,rfl⟩,hk⟩
   ·cases hh
 ·have h':(ti P t).isAgg =false:=by simpa using h
  simp only [h',Bool.false_eq_true,if_false]
  refine propext ⟨?_,?_⟩
  ·rintro ⟨v,⟨tk,row,h1,h2,h3,h4,d,h5,rfl⟩,hk⟩; exact⟨tk,h1,row,h2,h3,.inr ⟨trivial,h4,d,h5,hk⟩⟩
  ·rintro ⟨tk,h1,row,h2,h3,(⟨hh,-⟩|⟨-,h4,d,h5,hk⟩)⟩
   ·exact hh.elim
   ·exact⟨_,⟨tk,row,h1,h2,h3,h4,d,h5,rfl⟩,hk⟩
def cr (o:Option Tok) (g:Nat) (p:Pth):Option (List (List D)):=match o with
 |some tk=>if tk.gen=g then getP p tk.rows else none
 |none=>none
@[go_sem ↓] theorem iH {T:Nat→Option Tok} {t g:Nat} {p:Pth}:subR T t g p=cr (T t) g p:=rfl
@[go_sem] theorem d8 {rows:List (List D)} {ap:Option Nat} {g:Nat} {q:Bool} {p:Pth}:cr (some ⟨rows,ap,g,q⟩) g p=getP p rows:=by simp [cr]
def Yb (o:Option Tok) (g:Nat) (p:Pth):Option (List (List D)):=match o with
 |some tk=>if tk.gen=g then (getP p tk.rows).map tk.er else none
 |none=>none
@[go_sem ↓] theorem iI {T:Nat→Option Tok} {t g:Nat} {p:Pth}:subE T t g p=Yb (T t) g p:=rfl
@[go_sem] theorem ct {rows:List (List D)} {ap:Option Nat} {g:Nat} {q:Bool} {p:Pth}:Yb (some ⟨rows,ap,g,q⟩) g p=(getP p rows).map (zer q):=by
 simp only [Yb,if_true]; rfl
@[go_sem] theorem d9 {r:List (List D)}:zer false r=r:=rfl
@[go_sem] theorem fM {r:List (List D)}:zer true r=erR r:=rfl
@[go_sem] theorem kD {rows:List (List D)} {ap:Option Nat} {g:Nat} {q:Bool}:Tok.rd ⟨rows,ap,g,q⟩=zer q rows:=rfl
@[go_sem] theorem kE {rows r:List (List D)} {ap:Option Nat} {g:Nat} {q:Bool}:Tok.er ⟨rows,ap,g,q⟩ r=zer q r:=rfl
@[go_sem] theorem eA {z:Bool} {rows:List (List D)} {ap:Option Nat} {g:Nat}:okZ z ⟨rows,ap,g,false⟩=true:=rfl
@[go_sem] theorem fN {q:Bool} {rows:List (List D)} {ap:Option Nat} {g:Nat}:okZ q ⟨rows,ap,g,q⟩=true:=by cases q <;> rfl
@[go_sem] theorem fO {rows:List (List D)}:getP [] rows=some rows:=rfl
def jU (d:D) (K:List (List D)→Prop):Prop:=match d with| .sl r=>K r|_=>False
@[go_sem] theorem iJ {r:List (List D)} {K:List (List D)→Prop}:jU (.sl r) K=K r:=rfl
@[go_sem] theorem cu {t g:Nat} {p:Pth} {sz i:Nat} {d:D} {ds:List D} {off n:Nat}:Lw t g p sz i (d::ds) off n=QS t g p sz i off (((d::ds).drop off).take n):=rfl
attribute [go_sem ↓] ldX
attribute [go_sem] FB ofD Ou ofS ofT QS
end
attribute [go_sem ↓] Uv TV Ry W1 Uy TW W4 W5 W6
end Go.Proofs.YtckcfdggbbabfaaGreat.Ab
