/-
  The abstract walk as a set of rules for 'simp only [go_sem]': heads that wait, their congruences, one rule an operation.
-/
import Derived.Test.YtckcfdggbbabfaaGreatAbS
namespace Go.Proofs.YtckcfdggbbabfaaGreat.Ab
set_option linter.unusedVariables false
open Go.RowKit
section
variable {P:Program}
theorem Dz {z:Bool}:∀ {vs:List AV} {σ:St} {K K':List D→St→Prop},(∀ds σ,K ds σ→K' ds σ)→Bp z vs σ K→Bp z vs σ K'
 | [],σ,K,K',hk,h=>by rw [Bp] at h ⊢; exact hk _ _ h
 | .int k n::vs,σ,K,K',hk,h=>by rw [Bp] at h ⊢; exact Dz (fun ds σ=>hk _ σ) h
 | .bool b::vs,σ,K,K',hk,h=>by rw [Bp] at h ⊢; exact Dz (fun ds σ=>hk _ σ) h
 | .str b::vs,σ,K,K',hk,h=>by rw [Bp] at h ⊢; exact Dz (fun ds σ=>hk _ σ) h
 | .nils ::vs,σ,K,K',hk,h=>by rw [Bp] at h ⊢; exact Dz (fun ds σ=>hk _ σ) h
 | .nilp ::vs,σ,K,K',hk,h=>by rw [Bp] at h ⊢; exact Dz (fun ds σ=>hk _ σ) h
 | .ro _::vs,σ,K,K',hk,h=>by rw [Bp] at h ⊢; exact⟨h.1,Dz (fun ds σ=>hk _ σ) h.2⟩
 | .rop _ _::vs,σ,K,K',hk,h=>by rw [Bp] at h ⊢; obtain⟨h1,d,h2,h3⟩:=h; exact⟨h1,d,h2,Dz (fun ds σ=>hk _ σ) h3⟩
 | .bsl _ _ _::vs,σ,K,K',hk,h=>by
  rw [Bp] at h ⊢
  split at h
  ·rename_i h0
   rw [if_pos h0]
   exact Dz (fun ds σ=>hk _ σ) h
  ·rename_i h0
   rw [if_neg h0]
   obtain⟨h1,h2,vs',h3,ds,h4,h5,h6⟩:=h
   exact⟨h1,h2,vs',h3,ds,h4,h5,Dz (fun ds σ=>hk _ σ) h6⟩
 | .own t::vs,σ,K,K',hk,h=>by rw [Bp] at h ⊢; obtain⟨tk,h1,h2,h3⟩:=h; exact⟨tk,h1,h2,Dz (fun ds σ=>hk _ σ) h3⟩
 | .sub _ _ _::vs,σ,K,K',hk,h=>by simp [Bp] at h
 | .els _ _ _ _ _ _::vs,σ,K,K',hk,h=>by simp [Bp] at h
 | .any ::vs,σ,K,K',hk,h=>by simp [Bp] at h
 | .box _ _::vs,σ,K,K',hk,h=>by simp [Bp] at h
 | .elt _ _ _ _::vs,σ,K,K',hk,h=>by simp [Bp] at h
 | .par _ _ _ _::vs,σ,K,K',hk,h=>by simp [Bp] at h
 | .agg _::vs,σ,K,K',hk,h=>by simp [Bp] at h
 | .tup _::vs,σ,K,K',hk,h=>by simp [Bp] at h
 | .fn _ _::vs,σ,K,K',hk,h=>by simp [Bp] at h
 | .mpr _::vs,σ,K,K',hk,h=>by simp [Bp] at h
 | .mpc _ _::vs,σ,K,K',hk,h=>by simp [Bp] at h
theorem Uh {t:TypeId} {a x:AV} {σ:St} {K K':St→Prop} (hk:∀σ,K σ→K' σ) (h:Lp P t a x σ K):Lp P t a x σ K':=by
 unfold Lp at h ⊢
 split at h
 ·obtain⟨h1,h2,h3,h4⟩:=h
  refine⟨h1,h2,h3,?_⟩
  split at h4
  ·obtain⟨vs,h5,h6,h7,h8⟩:=h4; exact⟨vs,h5,h6,h7,hk _ h8⟩
  ·obtain⟨tk0,h5,h4⟩:=h4
   exact⟨tk0,h5,Dz (fun ds σ ⟨tk,row,k1,k2,k3,k4,k5⟩=>⟨tk,row,k1,k2,k3,k4,hk _ k5⟩) h4⟩
  ·exact Dz (fun ds σ ⟨rows,k1,row,k2,k3,tk,k4,k5⟩=>⟨rows,k1,row,k2,k3,tk,k4,hk _ k5⟩) h4
  ·exact h4
 ·exact h
theorem Wq {z:Bool} {e:TypeId} {sz:Nat} {x:AV} {σ:St} {K K':List (List D)→St→Prop} (hk:∀r σ,K r σ→K' r σ) (h:O0 z e sz x σ K):O0 z e sz x σ K':=by
 unfold O0 at h ⊢
 split at h
 ·exact hk _ _ h
 ·split at h
  ·rename_i h0
   rw [if_pos h0]
   exact hk _ _ h
  ·rename_i h0
   rw [if_neg h0]
   obtain⟨h0,h1,h2,vs',h3,ds,h4,h5,h6⟩:=h
   exact⟨h0,h1,h2,vs',h3,ds,h4,h5,hk _ _ h6⟩
 ·obtain⟨tk,h1,h2,h3⟩:=h; exact⟨tk,h1,h2,hk _ _ h3⟩
 ·exact h
theorem Wr {z:Bool} {sz:Nat} {x:AV} {σ:St} {K K':List (List D)→St→Prop} (hk:∀r σ,K r σ→K' r σ) (h:OO z sz x σ K):OO z sz x σ K':=by
 unfold OO at h ⊢
 split at h
 ·exact hk _ _ h
 ·obtain⟨vs,h1,h2,h3,h4,h5⟩:=h; exact⟨vs,h1,h2,h3,h4,Dz (fun ds σ=>hk _ σ) h5⟩
 ·split at h
  ·exact⟨h.1,hk _ _ h.2⟩
  ·exact⟨h.1,hk _ _ h.2⟩
 ·obtain⟨tk,h1,h2,h3⟩:=h; exact⟨tk,h1,h2,hk _ _ h3⟩
 ·exact h
theorem Ws {pos:Nat} {t:TypeId} {x y:AV} {σ:St} {K K':AV→St→Prop} (hk:∀v σ,K v σ→K' v σ) (h:UG P pos t x y σ K):UG P pos t x y σ K':=by
 unfold UG at h ⊢
 split at h
 ·obtain⟨h1,h2,z,h⟩:=h
  exact⟨h1,h2,z,Wq (fun r σ h=>Wr (fun r2 σ2 h=>⟨h.1,h.2.1,h.2.2.1,hk _ _ h.2.2.2⟩) h) h⟩
 ·exact h
theorem Wt {t:TypeId} {m i x:AV} {σ:St} {K K':St→Prop} (hk:∀σ,K σ→K' σ) (h:Sd P t m i x σ K):Sd P t m i x σ K':=by
 unfold Sd at h ⊢
 split at h
 ·obtain⟨q,rows,h1,h2,h3,k,h4,h5,d,h6,h7⟩:=h; exact⟨q,rows,h1,h2,h3,k,h4,h5,d,h6,hk _ h7⟩
 ·exact h
theorem YP {pos:Nat} {o:Oper} {σ:St} {K K':St→Prop} (hk:∀σ,K σ→K' σ) (h:aop P pos o σ K):aop P pos o σ K':=by
 unfold aop at h ⊢
 split at h
 ·exact⟨h.1,h.2.1,fun b hb=>hk _ (h.2.2 b hb)⟩
 ·exact⟨h.1,h.2.1,fun b hb=>hk _ (h.2.2 b hb)⟩
 ·exact Uh (fun σ=>hk _) h
 ·exact Wt (fun σ=>hk _) h
 ·split at h
  ·exact⟨h.1,Ws (fun v σ=>hk _) h.2⟩
  ·exact h
 ·obtain⟨r,h1,h2,h3,h4⟩:=h; exact⟨r,h1,h2,h3,hk _ h4⟩
theorem Hu {K K':St→Prop} (hk:∀σ,K σ→K' σ):∀ {cv:List (Nat × AV × Option Nat)} {σ:St},Cr cv σ K→Cr cv σ K'
 | [],σ,h=>by rw [Cr] at h ⊢; exact hk _ h
 | (n,a,z)::cv,σ,h=>by
  cases a with
  |sub t g p=>
   rw [Cr] at h ⊢
   obtain⟨h1,h2,h3,tk,rows,h4,h5,h6,h7,h8⟩:=h
   exact⟨h1,h2,h3,tk,rows,h4,h5,h6,h7,Hu hk h8⟩
  |nils=>rw [Cr] at h ⊢; exact⟨h.1,Hu hk h.2⟩
  |bsl b m sz=>rw [Cr] at h ⊢; exact⟨h.1,h.2.1,Hu hk h.2.2⟩
  |_=>simp [Cr] at h
theorem Jg:∀ {cv:List (Nat × AV × Option Nat)} {σ:St} {K K':St→Prop},(∀σ,K σ→K' σ)→CB cv σ K→CB cv σ K'
 | [],σ,K,K',hk,h=>by rw [CB] at h ⊢; exact hk _ h
 | (n,a,z)::cv,σ,K,K',hk,h=>by
  cases a with
  | sub t g p=>
   rw [CB] at h ⊢
   refine Jg (fun σ h=>?_) h
   cases hn:σ.T n with
   |none=>simp only [hn] at h ⊢; exact hk _ h
   |some tn=>
    simp only [hn] at h ⊢
    obtain⟨tk,h1,h2,h3,h4⟩:=h
    exact⟨tk,h1,h2,h3,hk _ h4⟩
  |_=>
   rw [CB] at h ⊢
   ·exact Jg (fun σ h=>hk _ h) h
   all_goals (intros; simp_all)
theorem Ui {f:FuncId} {args:List AV} {σ:St} {K K':AV→St→Prop} (hk:∀v σ,K v σ→K' v σ) (h:Qv P f args σ K):Qv P f args σ K':=by
 obtain⟨y,as,pt,pb,r,qt,qb,h1,h2⟩:=h
 exact⟨y,as,pt,pb,r,qt,qb,h1,Hu (fun σ h=>⟨h.1,h.2.1,h.2.2.1,h.2.2.2.1,h.2.2.2.2.1,h.2.2.2.2.2.1,h.2.2.2.2.2.2.1,h.2.2.2.2.2.2.2.1,Jg (fun σ h=>hk _ _ h) h.2.2.2.2.2.2.2.2⟩) h2⟩
theorem Pj {K K':List AV→St→Prop} (hk:∀a σ,K a σ→K' a σ):∀ {bs:List Nat} {args:List AV} {σ:St},FzK bs args σ K→FzK bs args σ K'
 | [],args,σ,h=>hk _ _ h
 |b::bs,args,σ,h=>by
  obtain⟨vs,h1,h2,h3⟩:=h
  exact⟨vs,h1,h2,Pj hk h3⟩
theorem Uj {f:FuncId} {args:List AV} {σ:St} {K K':AV→St→Prop} (hk:∀v σ,K v σ→K' v σ) (h:VV P f args σ K):VV P f args σ K':=by
 obtain⟨bs,h⟩:=h
 exact⟨bs,Pj (fun _ _ h=>Ui hk h) h⟩
theorem RM {L:Bool} {pos:Nat} {o:Oper} {σ:St} {K K':St→Prop} (hk:∀σ,K σ→K' σ) (h:OQ P L pos o σ K):OQ P L pos o σ K':=by
 rcases h with ⟨hA,h⟩|⟨hL,h⟩|⟨hL,hA,r,h1,h2,h3,h4⟩
 ·exact .inl ⟨hA,YP hk h⟩
 ·refine .inr (.inl ⟨hL,?_⟩)
  rcases h with h|h
  ·refine .inl ?_
   unfold KI at h ⊢
   split at h
   ·split at h
    ·exact Uj (fun v σ=>hk _) h
    ·exact h
   ·exact h
  ·refine .inr ?_
   unfold SliK at h ⊢
   split at h
   ·split at h
    ·obtain⟨tk,h1,el,h2,h3,i,h4,j,h5,r,h6,h7,h8⟩:=h
     exact⟨tk,h1,el,h2,h3,i,h4,j,h5,r,h6,h7,hk _ h8⟩
    ·exact h
   ·exact h
 ·exact .inr (.inr ⟨hL,hA,r,h1,h2,h3,hk _ h4⟩)
theorem GV {ops:Array Oper} {base cut:Nat} {K K':St→Prop} (hk:∀σ,K σ→K' σ):∀ {l:List Oper} {i:Nat} {σ:St},aops P ops base cut i l σ K→aops P ops base cut i l σ K'
 | [],i,σ,h=>by rw [aops] at h ⊢; exact hk _ h
 | o::rest,i,σ,h=>by
  rw [aops] at h ⊢
  split at h
  ·exact RM (fun σ h=>GV hk h) h
  ·obtain⟨s,h1,h⟩:=h
   refine⟨s,h1,?_⟩
   rcases h with ⟨b,h2,h3,h4⟩|⟨h2,h3⟩
   ·exact .inl ⟨b,h2,fun hb=>RM (fun σ h=>GV hk h) (h3 hb),fun hb=>GV hk (h4 hb)⟩
   ·exact .inr ⟨h2,GV hk h3⟩
theorem Wu {p:Bool} {K K':St→Prop} (hk:∀σ,K σ→K' σ) {σ:St} (h:seqW p K σ):seqW p K' σ:=by
 unfold seqW at h ⊢
 split at h
 ·exact hk _ h
 ·obtain⟨σ1,h1,h2⟩:=h; exact⟨σ1,h1,hk _ h2⟩
theorem Pk {P:Program} {ops:Array Oper} {base:Nat} {ts:List (Nat × Oper)}:∀ (tr:Tr) {σ:St} {K K':St→Prop},(∀σ,K σ→K' σ)→aTr P ops base ts tr σ K→aTr P ops base ts tr σ K'
 | .fin,σ,K,K',hk,h=>hk σ h
 | .stop,σ,K,K',hk,h=>trivial
 | .br i t more,σ,K,K',hk,h=>by
  simp only [aTr] at h ⊢
  refine⟨?_,Pk more hk h.2⟩
  have h1:=h.1
  split at h1
  ·exact GV (fun σ' h=>Pk t hk h) h1
  ·exact h1.elim
theorem Pl {P:Program} {ops:Array Oper} {base:Nat} {r:VR} {i:Nat} {o:Oper} {acc:List (Nat × List AV)} {σ:St} {K K':List (Nat × List AV)→St→Prop} (hk:∀acc σ,K acc σ→K' acc σ) (h:KL P ops base r i o acc σ K):KL P ops base r i o acc σ K':=by
 unfold KL at h ⊢
 cases r with
 |no=>exact GV (hk acc) h
 |al=>
  dsimp only at h ⊢
  split at h
  ·exact⟨h.1,hk _ _ h.2⟩
  ·exact h.elim
 | st k=>
  dsimp only at h ⊢
  split at h
  ·split at h
   ·exact⟨h.1,h.2.1,hk _ _ h.2.2⟩
   ·exact h.elim
  ·exact h.elim
theorem Jh {P:Program} {ops:Array Oper} {base:Nat} {V:List (Nat × Nat)}:∀ (l:List Oper) {E:List Bool} {i:Nat} {ts:List (Nat × Oper)} {acc:List (Nat × List AV)} {σ:St} {K K':List (Nat × Oper)→List (Nat × List AV)→St→Prop},(∀ts acc σ,K ts acc σ→K' ts acc σ)→EO P ops base V E i l ts acc σ K→EO P ops base V E i l ts acc σ K'
 | [],E,i,ts,acc,σ,K,K',hk,h=>by simp only [EO] at h ⊢; exact hk _ _ _ h
 |o::l,[],i,ts,acc,σ,K,K',hk,h=>by simp only [EO] at h ⊢; exact Pl (fun acc σ' h=>Jh l hk h) h
 |o::l,true::E,i,ts,acc,σ,K,K',hk,h=>by simp only [EO] at h ⊢; exact Jh l hk h
 |o::l,false::E,i,ts,acc,σ,K,K',hk,h=>by simp only [EO] at h ⊢; exact Pl (fun acc σ' h=>Jh l hk h) h
theorem Wv {P:Program} {ops:Array Oper} {base:Nat} {draw:Bool} {σ:St} {K K':St→Prop} (hk:∀σ,K σ→K' σ) (h:WM P ops base draw σ K):WM P ops base draw σ K':=by
 unfold WM at h ⊢
 cases draw with
 |false=>exact GV hk h
 |true=>
  obtain⟨E,V,tr,hE,h⟩:=h
  exact⟨E,V,tr,hE,Jh _ (fun ts acc σ h=>⟨h.1,Pk tr hk h.2⟩) h⟩
theorem Hv:∀ {c:Code} {Q Q':AE→St→Prop} {σ:St},(∀q σ,Q q σ→Q' q σ)→awp P c Q σ→awp P c Q' σ
 | .skip,Q,Q',σ,hq,h=>by rw [awp] at h ⊢; exact hq _ _ h
 | .region id ops draw,Q,Q',σ,hq,h=>by rw [awp] at h ⊢; exact Wv (hq _) h
 | .seq a b,Q,Q',σ,hq,h=>by
  rw [awp] at h ⊢
  refine Hv (fun q σ h=>?_) h
  cases q with
  |normal=>
   have h':seqW (Hn a) (awp P b Q) σ:=h
   exact Wu (K:=awp P b Q) (K':=awp P b Q') (fun σ h=>Hv hq h) h'
  |exit id=>exact hq _ _ h
  |ret=>exact hq _ _ h
 | .cond c a b,Q,Q',σ,hq,h=>by
  rw [awp] at h ⊢
  obtain⟨v,h1,h2,h3⟩:=h
  exact⟨v,h1,fun e=>Hv hq (h2 e),fun e=>Hv hq (h3 e)⟩
 | .block id b,Q,Q',σ,hq,h=>by
  rw [awp] at h ⊢
  refine Hv (fun q σ h=>?_) h
  cases q with
  |normal=>exact hq _ _ h
  |exit i=>
   simp only [AE.inBlock] at h ⊢
   split at h
   ·rw [if_pos ‹_›]; exact hq _ _ h
   ·rw [if_neg ‹_›]; exact hq _ _ h
  |ret=>exact hq _ _ h
 | .loop b,Q,Q',σ,hq,h=>by
  rw [awp] at h ⊢
  intro L hL
  refine h L fun σ hσ=>hL σ (Hv (fun q σ h=>?_) hσ)
  cases q with
  |normal=>exact h
  |exit id=>exact hq _ _ h
  |ret=>exact hq _ _ h
 | .exit id,Q,Q',σ,hq,h=>by rw [awp] at h ⊢; exact hq _ _ h
 | .ret,Q,Q',σ,hq,h=>by rw [awp] at h ⊢; exact hq _ _ h
 | .rangeFunc _ _ _ _,Q,Q',σ,hq,h=>by simp [awp] at h
 | .goto _,Q,Q',σ,hq,h=>by simp [awp] at h
 | .label _,Q,Q',σ,hq,h=>by simp [awp] at h
theorem TJ {b:Code} {Q:AE→St→Prop} {σ:St} (h:awp P b (AE.then (fun σ'=>∃σ1,Wk σ' σ1∧awp P (.loop b) Q σ1) Q) σ):awp P (.loop b) Q σ:=by
 rw [awp]
 intro L hL
 refine⟨σ,.nil σ,hL σ (Hv (fun q σ h=>?_) h)⟩
 cases q with
 |normal=>
  obtain⟨σ1,h1,h2⟩:=h
  rw [awp] at h2
  obtain⟨σ0,h3,h4⟩:=h2 L hL
  exact⟨σ0,h1.trans h3,h4⟩
 |exit id=>exact h
 |ret=>exact h
end
def BK {α:Type} (v:α) (K:α→Prop):Prop:=K v
def optX {α:Type} (o:Option α) (K:α→Prop):Prop:=∃x,o=some x∧K x
def Aa (p q:Prop):Prop:=p∧q
def Nj (b:Bool) (p q:Prop):Prop:=(b=true∧p)∨(b=false∧q)
def Pm (b:Bool) (p q:Prop):Prop:=(b=true→p)∧(b=false→q)
structure Wrap {α:Sort _} (a:α):Type where
def eS {α:Type} (v:α) (K:α→Prop) (_:Wrap K):Prop:=K v
def Zr {α:Type} (o:Option α) (K:α→Prop) (_:Wrap K):Prop:=∃x,o=some x∧K x
def Ww (p q:Prop) (_:Wrap q):Prop:=p∧q
def RN (b:Bool) (p q:Prop) (_:Wrap p) (_:Wrap q):Prop:=(b=true→p)∧(b=false→q)
def YQ (b:Bool) (p q:Prop) (_:Wrap p) (_:Wrap q):Prop:=Nj b p q
@[go_sem ↓] theorem gP {α:Type} {v:α} {K:α→Prop}:BK v K=eS v K ⟨⟩:=rfl
@[go_sem ↓] theorem gQ {α:Type} {o:Option α} {K:α→Prop}:optX o K=Zr o K ⟨⟩:=rfl
@[go_sem ↓] theorem gR {p q:Prop}:Aa p q=Ww p q ⟨⟩:=rfl
@[go_sem ↓] theorem eU {b:Bool} {p q:Prop}:Pm b p q=RN b p q ⟨⟩ ⟨⟩:=rfl
@[go_sem ↓] theorem gS {b:Bool} {p q:Prop}:Nj b p q=YQ b p q ⟨⟩ ⟨⟩:=rfl
@[go_sem] theorem gT {α:Type} {v:α} {K:α→Prop} {w:Wrap K}:eS v K w=K v:=propext Iff.rfl
@[go_sem] theorem dQ {α:Type} {x:α} {K:α→Prop} {w:Wrap K}:Zr (some x) K w=K x:=by simp [Zr]
@[go_sem] theorem dR {q:Prop} {w:Wrap q}:Ww True q w=q:=by simp [Ww]
@[go_sem] theorem ii {p:Prop} {w:Wrap True}:Ww p True w=p:=by simp [Ww]
@[go_sem] theorem cK {p q:Prop} {w:Wrap p} {w':Wrap q}:RN true p q w w'=p:=by simp [RN]
@[go_sem] theorem ba {p q:Prop} {w:Wrap p} {w':Wrap q}:RN false p q w w'=q:=by simp [RN]
@[go_sem] theorem dS {p q:Prop} {w:Wrap p} {w':Wrap q}:YQ true p q w w'=p:=by simp [Nj,YQ]
@[go_sem] theorem cL {p q:Prop} {w:Wrap p} {w':Wrap q}:YQ false p q w w'=q:=by simp [Nj,YQ]
theorem GW {α:Type} {x:α} {K:α→Prop}:optX (some x) K=K x:=by simp [optX]
theorem RO {α:Type} {K:α→Prop}:optX none K=False:=by simp [optX]
theorem BW {p q:Prop} {w:Wrap q} (hp:p) (hq:q):Ww p q w:=⟨hp,hq⟩
theorem Ac {α:Type} {o:Option α} {x:α} {K:α→Prop} {w:Wrap K} (h:o=some x) (hk:K x):Zr o K w:=⟨x,h,hk⟩
@[go_sem] theorem dT:isMp [] =false:=rfl
@[go_sem] theorem dU {a:AV}:isMp [a] =a.mp?:=rfl
@[go_sem] theorem dV {a b:AV} {l:List AV}:isMp (a::b::l)=false:=rfl
@[go_sem] theorem dW:NT [] =true:=rfl
@[go_sem] theorem cM {a:AV} {l:List AV}:NT (a::l)=(!a.mp?&&NT l):=rfl
attribute [go_sem] AV.mp?
@[go_sem] theorem cN {α:Type} {j:Nat} {x:α} {l:List (Nat × α)} {i:Nat}:look ((j,x)::l) i=if i=j then some x else look l i:=rfl
@[go_sem] theorem eV {α:Type} {i:Nat}:look ([] :List (Nat × α)) i=none:=rfl
@[go_sem] theorem St.T_mk {s t b} {i:Nat}:St.T ⟨s,t,b⟩ i=(look t i).join :=rfl
@[go_sem] theorem St.B_mk {s t b} {i:Nat}:St.B ⟨s,t,b⟩ i=(look b i).join :=rfl
@[go_sem] theorem St.g_mk {s t b} {i:Nat}:St.g ⟨s,t,b⟩ i=(look s i).getD .any :=rfl
@[go_sem] theorem St.t_mk {s t b}:St.t ⟨s,t,b⟩=t:=rfl
@[go_sem] theorem St.b_mk {s t b}:St.b ⟨s,t,b⟩=b:=rfl
@[go_sem] theorem St.s_mk {s t b}:St.s ⟨s,t,b⟩=s:=rfl
@[go_sem] theorem St.e_tmp {σ:St} {t:Tmp}:σ.e (.tmp t)=σ.g t:=rfl
@[go_sem] theorem St.e_func {σ:St} {f:FuncId}:σ.e (.func f)= .fn f [] :=rfl
@[go_sem] theorem St.e_const {σ:St} {v:Value}:σ.e (.const v)=BJ v:=rfl
@[go_sem] theorem gU {k:IntKind} {n:Int}:BJ (.int k n)= .int k n:=rfl
@[go_sem] theorem eW {b:Bool}:BJ (.bool b)= .bool b:=rfl
@[go_sem] theorem gV {s:ByteArray}:BJ (.string s)= .str s:=rfl
@[go_sem] theorem eX:BJ (.slice none 0 0)= .nils :=rfl
@[go_sem] theorem eY:BJ (.pointer none)= .nilp :=rfl
@[go_sem] theorem eZ:Gs [] =[] :=rfl
@[go_sem] theorem dX {v:Value} {vs:List Value}:Gs (v::vs)=BJ v::Gs vs:=rfl
@[go_sem] theorem eb {s t b} {d:Tmp} {v:AV}:St.put ⟨s,t,b⟩ (some d) v=⟨(d,v)::s,t,b⟩:=rfl
@[go_sem] theorem ec {σ:St} {v:AV}:St.put σ none v=σ:=rfl
@[go_sem] theorem ed {s t b} {i:Nat}:St.killT ⟨s,t,b⟩ i=⟨s,(i,none)::t,b⟩:=rfl
@[go_sem] theorem gW {s t b} {i:Nat} {tk:Tok}:St.setT ⟨s,t,b⟩ i tk=⟨s,(i,some tk)::t,b⟩:=rfl
@[go_sem] theorem gX {s t b} {i:Nat} {vs:List AV}:St.setB ⟨s,t,b⟩ i vs=⟨s,t,(i,some vs)::b⟩:=rfl
attribute [go_sem] Option.join_some Option.join_none Option.getD_some Option.getD_none reduceIte eq_self and_self true_and and_true
attribute [go_sem] List.getElem?_cons_zero List.getElem?_cons_succ List.length_cons List.length_nil List.take_succ_cons List.take_zero List.take_nil List.drop_succ_cons List.drop_zero List.map_cons List.map_nil List.set_cons_zero List.set_cons_succ List.cons_append List.nil_append Option.some.injEq reduceCtorEq TI.isAgg TI.sc AV.one splice List.all_cons List.all_nil Bool.and_self Bool.true_and Bool.and_true
def Kc (P:Program) (ops:Array Oper) (base cut i:Nat) (l:List Oper) (σ:St) (K:St→Prop) (_:Wrap ops) (_:Wrap l) (_:Wrap K) (_:Wrap cut):Prop:=aops P ops base cut i l σ K
@[go_sem ↓] theorem gY {P:Program} {ops:Array Oper} {base cut i:Nat} {l:List Oper} {K:St→Prop} {σ:St}:aops P ops base cut i l σ K=Kc P ops base cut i l σ K ⟨⟩ ⟨⟩ ⟨⟩ ⟨⟩:=rfl
section
variable {P:Program} {σ:St} {K:St→Prop} {Q:AE→St→Prop}
@[go_sem ↓] theorem ij:awp P .skip Q σ=Q .normal σ:=by rw [awp]
@[go_sem ↓] theorem ee {id:Nat} {l:List Oper}:awp P (.region id l.toArray false) Q σ=aops P l.toArray (id*1000+1000) 0 0 l σ (Q .normal):=by rw [awp]; rfl
def YR (P:Program) (id:Nat) (l:List Oper) (Q:AE→St→Prop) (σ:St) (_:Wrap l) (_:Wrap Q) (_:Wrap σ):Prop:=WM P l.toArray (id*1000+1000) true σ (Q .normal)
@[go_sem ↓] theorem ik {id:Nat} {l:List Oper}:awp P (.region id l.toArray true) Q σ=YR P id l Q σ ⟨⟩ ⟨⟩ ⟨⟩:=by rw [awp]; rfl
theorem YS {id:Nat} {l:List Oper} {w1:Wrap l} {w2:Wrap Q} {w3:Wrap σ} (E:List Bool) (V:List (Nat × Nat)) (tr:Tr) (h:JW E V tr l.toArray=true) (k:EO P l.toArray (id*1000+1000) V E 0 l [] [] σ fun ts acc σ'=>UJ acc σ' fun σ'=>aTr P l.toArray (id*1000+1000) ts tr σ' (Q .normal)):YR P id l Q σ w1 w2 w3:=⟨E,V,tr,h,k⟩
theorem Ae {id:Nat} {l:List Oper} {w1:Wrap l} {w2:Wrap Q} {w3:Wrap σ} (E:List Bool) (tr:Tr) (h:JW E [] tr l.toArray=true) (k:EO P l.toArray (id*1000+1000) [] E 0 l [] [] σ fun ts acc σ'=>UJ acc σ' fun σ'=>aTr P l.toArray (id*1000+1000) ts tr σ' (Q .normal)):YR P id l Q σ w1 w2 w3:=⟨E,[],tr,h,k⟩
def Zs (acc:List (Nat × List AV)) (σ:St) (K:St→Prop) (_:Wrap σ) (_:Wrap K):Prop:=UJ acc σ K
@[go_sem ↓] theorem gZ {acc:List (Nat × List AV)} {σ:St} {K:St→Prop}:UJ acc σ K=Zs acc σ K ⟨⟩ ⟨⟩:=rfl
@[go_sem] theorem ef {σ:St} {K:St→Prop} {w1 w2}:Zs [] σ K w1 w2=K σ:=by
 unfold Zs UJ
 simp [Dl,addB]
theorem be {acc:List (Nat × List AV)} {s:List (Nat × AV)} {t:List (Nat × Option Tok)} {b:List (Nat × Option (List AV))} {K:St→Prop} {w1 w2} (h:Dl ⟨s,t,b⟩ acc) (k:K ⟨s,t,addB b acc⟩):Zs acc ⟨s,t,b⟩ K w1 w2:=⟨h,k⟩
attribute [go_sem] addB
def Ip (P:Program) (ops:Array Oper) (base:Nat) (V:List (Nat × Nat)) (E:List Bool) (i:Nat) (l:List Oper) (ts:List (Nat × Oper)) (acc:List (Nat × List AV)) (σ:St) (K:List (Nat × Oper)→List (Nat × List AV)→St→Prop) (_:Wrap ops) (_:Wrap l) (_:Wrap ts) (_:Wrap K) (_:Wrap V) (_:Wrap acc):Prop:=EO P ops base V E i l ts acc σ K
def Uk (P:Program) (ops:Array Oper) (base:Nat) (r:VR) (i:Nat) (o:Oper) (acc:List (Nat × List AV)) (σ:St) (K:List (Nat × List AV)→St→Prop):Prop:=KL P ops base r i o acc σ K
def Rt (P:Program) (ops:Array Oper) (base:Nat) (r:VR) (i:Nat) (o:Oper) (acc:List (Nat × List AV)) (σ:St) (K:List (Nat × List AV)→St→Prop) (_:Wrap ops) (_:Wrap o) (_:Wrap acc) (_:Wrap σ) (_:Wrap K):Prop:=KL P ops base r i o acc σ K
section
variable {ops:Array Oper} {base i:Nat} {V:List (Nat × Nat)} {E:List Bool} {ts:List (Nat × Oper)} {acc:List (Nat × List AV)} {H:List (Nat × Oper)→List (Nat × List AV)→St→Prop} {o:Oper} {l:List Oper} {w1:Wrap ops} {w3:Wrap ts} {w4:Wrap H} {w5:Wrap V} {w6:Wrap acc}
@[go_sem ↓] theorem eh:EO P ops base V E i l ts acc σ H=Ip P ops base V E i l ts acc σ H ⟨⟩ ⟨⟩ ⟨⟩ ⟨⟩ ⟨⟩ ⟨⟩:=rfl
@[go_sem] theorem jb {w2:Wrap ([] :List Oper)}:Ip P ops base V E i [] ts acc σ H w1 w2 w3 w4 w5 w6=H ts acc σ:=by unfold Ip; cases E with|nil=>rfl|cons b E=>cases b <;> rfl
@[go_sem] theorem il {w2:Wrap (o::l)}:Ip P ops base V (true::E) i (o::l) ts acc σ H w1 w2 w3 w4 w5 w6=EO P ops base V E (i+1) l ((i,o)::ts) acc σ H:=rfl
@[go_sem] theorem gc {w2:Wrap (o::l)}:Ip P ops base V (false::E) i (o::l) ts acc σ H w1 w2 w3 w4 w5 w6=Uk P ops base (B8 V i) i o acc σ fun acc' σ'=>EO P ops base V E (i+1) l ts acc' σ' H:=rfl
@[go_sem] theorem jc {w2:Wrap (o::l)}:Ip P ops base V [] i (o::l) ts acc σ H w1 w2 w3 w4 w5 w6=Uk P ops base (B8 V i) i o acc σ fun acc' σ'=>EO P ops base V [] (i+1) l ts acc' σ' H:=rfl
@[go_sem] theorem cO {x:Oper} {xs b:List Oper} {w2}:Ip P ops base V E i (List.append (x::xs) b) ts acc σ H w1 w2 w3 w4 w5 w6=Ip P ops base V E i (x::List.append xs b) ts acc σ H w1 ⟨⟩ w3 w4 w5 w6:=rfl
@[go_sem] theorem dY {b:List Oper} {w2}:Ip P ops base V E i (List.append [] b) ts acc σ H w1 w2 w3 w4 w5 w6=Ip P ops base V E i b ts acc σ H w1 ⟨⟩ w3 w4 w5 w6:=rfl
@[go_sem ↓] theorem ei {r:VR} {K:List (Nat × List AV)→St→Prop}:Uk P ops base r i o acc σ K=Rt P ops base r i o acc σ K ⟨⟩ ⟨⟩ ⟨⟩ ⟨⟩ ⟨⟩:=rfl
attribute [go_sem] B8
@[go_sem] theorem ej {K:List (Nat × List AV)→St→Prop} {w1 w2 w3 w4 w5}:Rt P ops base .no i o acc σ K w1 w2 w3 w4 w5=aops P ops base (i+1) i [o] σ (K acc):=rfl
@[go_sem] theorem ek {K:List (Nat × List AV)→St→Prop} {dst:Option Tmp} {t ty:TypeId} {ps:String} {af:Array Edge} {w1 w2 w3 w4 w5}:Rt P ops base .al i ⟨dst,.alloc t,ty,ps,af,none⟩ acc σ K w1 w2 w3 w4 w5=Aa (0<(tz P t).length ∧(tz P t).length =tsz P t∧isMp ((tz P t).map zAV)=false) (K acc (σ.put dst (.box (base+i) 0))):=rfl
def stV (P:Program) (base k:Nat) (t:TypeId) (x a:AV) (dst:Option Tmp) (acc:List (Nat × List AV)) (σ:St) (K:List (Nat × List AV)→St→Prop):Prop:=match cellsOf x with
 |some cs=>(cs.length=tsz P t∧0<tsz P t∧cs.all AV.one=true)∧a= .box (base+k) 0∧K ((base+k,cs)::acc) (σ.put dst .any)
 |none=>False
@[go_sem] theorem em {K:List (Nat × List AV)→St→Prop} {k:Nat} {dst:Option Tmp} {t ty:TypeId} {a x:Operand} {ps:String} {af:Array Edge} {w1 w2 w3 w4 w5}:Rt P ops base (.st k) i ⟨dst,.store t a x,ty,ps,af,none⟩ acc σ K w1 w2 w3 w4 w5=BK (σ.e x) fun x=>BK (σ.e a) fun a=>stV P base k t x a dst acc σ K:=rfl
def cP (P:Program) (base k:Nat) (t:TypeId) (x a:AV) (dst:Option Tmp) (acc:List (Nat × List AV)) (σ:St) (K:List (Nat × List AV)→St→Prop) (_:Wrap x) (_:Wrap a) (_:Wrap acc) (_:Wrap σ) (_:Wrap K):Prop:=stV P base k t x a dst acc σ K
@[go_sem ↓] theorem im {k:Nat} {t:TypeId} {x a:AV} {dst:Option Tmp} {K:List (Nat × List AV)→St→Prop}:stV P base k t x a dst acc σ K=cP P base k t x a dst acc σ K ⟨⟩ ⟨⟩ ⟨⟩ ⟨⟩ ⟨⟩:=rfl
theorem Vq {k:Nat} {t:TypeId} {x a:AV} {dst:Option Tmp} {K:List (Nat × List AV)→St→Prop} {w1 w2 w3 w4 w5} (cs:List AV) (h1:cellsOf x=some cs) (h2:cs.length=tsz P t∧0<tsz P t∧cs.all AV.one=true) (h3:a= .box (base+k) 0) (h:K ((base+k,cs)::acc) (σ.put dst .any)):cP P base k t x a dst acc σ K w1 w2 w3 w4 w5:=by
 unfold cP stV
 rw [h1]
 exact⟨h2,h3,h⟩
def trX (o:Option Oper) (f:Oper→Prop):Prop:=match o with
 |some o=>f o
 |none=>False
def trY (o:Option Oper) (f:Oper→Prop) (_:Wrap f):Prop:=trX o f
@[go_sem ↓] theorem io {x:Option Oper} {f:Oper→Prop}:trX x f=trY x f ⟨⟩:=rfl
@[go_sem] theorem en {f:Oper→Prop} {w:Wrap f}:trY (some o) f w=f o:=rfl
def cQ (p q:Prop):Prop:=p∧q
def eo (p q:Prop) (_:Wrap p) (_:Wrap q):Prop:=p∧q
@[go_sem ↓] theorem gd {p q:Prop}:cQ p q=eo p q ⟨⟩ ⟨⟩:=rfl
theorem Ba {p q:Prop} {w:Wrap p} {w':Wrap q} (hp:p) (hq:q):eo p q w w':=⟨hp,hq⟩
def QV (P:Program) (ops:Array Oper) (base:Nat) (ts:List (Nat × Oper)) (tr:Tr) (σ:St) (K:St→Prop) (_:Wrap ops) (_:Wrap ts) (_:Wrap K):Prop:=aTr P ops base ts tr σ K
@[go_sem ↓] theorem ip {tr:Tr}:aTr P ops base ts tr σ K=QV P ops base ts tr σ K ⟨⟩ ⟨⟩ ⟨⟩:=rfl
@[go_sem] theorem iq {w3:Wrap ts} {w4:Wrap K}:QV P ops base ts .fin σ K w1 w3 w4=K σ:=rfl
@[go_sem] theorem ir {t:Tr} {w3:Wrap ts} {w4:Wrap K}:QV P ops base ts (.br i t .stop) σ K w1 w3 w4=trX (look ts i) fun o=>aops P ops base 0 i [o] σ fun σ'=>aTr P ops base ts t σ' K:=by
 unfold QV trX
 rw [aTr,aTr,and_true]
 rfl
@[go_sem] theorem it {t u m:Tr} {j:Nat} {w3:Wrap ts} {w4:Wrap K}:QV P ops base ts (.br i t (.br j u m)) σ K w1 w3 w4=cQ (aTr P ops base ts (.br i t .stop) σ K) (aTr P ops base ts (.br j u m) σ K):=by
 unfold QV cQ
 simp only [aTr,and_true]
@[go_sem] theorem iu {t:Tr} {w3:Wrap ts} {w4:Wrap K}:QV P ops base ts (Tr.sq [] t) σ K w1 w3 w4=QV P ops base ts t σ K w1 w3 w4:=rfl
@[go_sem] theorem jd {t:Tr} {is:List Nat} {w3:Wrap ts} {w4:Wrap K}:QV P ops base ts (Tr.sq (i::is) t) σ K w1 w3 w4=QV P ops base ts (.br i (Tr.sq is t) .stop) σ K w1 w3 w4:=rfl
end
def Zt (p:Bool) (K:St→Prop) (σ:St):Prop:=seqW p K σ
def YT (p:Bool) (K:St→Prop) (σ:St) (_:Wrap K) (_:Wrap σ):Prop:=seqW p K σ
@[go_sem ↓] theorem gf {p:Bool}:Zt p K σ=YT p K σ ⟨⟩ ⟨⟩:=rfl
@[go_sem] theorem dZ {w1:Wrap K} {w2:Wrap σ}:YT true K σ w1 w2=K σ:=rfl
theorem AB {w1:Wrap K} {w2:Wrap σ} (h:K σ):YT false K σ w1 w2:=⟨σ,.nil σ,h⟩
theorem Ul {w1:Wrap K} {w2:Wrap σ} {σ1:St} (hn:Nils σ σ1) (h:K σ1):YT false K σ w1 w2:=⟨σ1,.fz hn (.nil σ1),h⟩
theorem AJ {w1:Wrap K} {w2:Wrap σ} {σ1:St} (h:K σ1) (hw:Wk σ σ1):YT false K σ w1 w2:=⟨σ1,hw,h⟩
@[go_sem] theorem Zu {id:Nat} {l:List Oper}:Hn (.region id l.toArray false)=l.all fun o=>o.guard.isNone&&cB o.op:=rfl
attribute [go_sem] cB Bool.and_true Bool.true_and Bool.and_false Bool.false_and
@[go_sem] theorem cR {id:Nat} {l:List Oper}:Hn (.region id l.toArray true)=false:=rfl
@[go_sem] theorem cS:Hn .skip =false:=rfl
@[go_sem] theorem da {a b:Code}:Hn (.seq a b)=false:=rfl
@[go_sem] theorem cT {c:Operand} {a b:Code}:Hn (.cond c a b)=false:=rfl
@[go_sem] theorem bf {id:Nat} {a:Code}:Hn (.block id a)=false:=rfl
@[go_sem] theorem cU {a:Code}:Hn (.loop a)=false:=rfl
@[go_sem] theorem cV {id:Nat}:Hn (.exit id)=false:=rfl
@[go_sem] theorem db:Hn .ret =false:=rfl
attribute [go_sem] Option.isNone_none Option.isNone_some List.all_cons List.all_nil
@[go_sem ↓] theorem je {a b:Code}:awp P (.seq a b) Q σ=awp P a (AE.then (Zt (Hn a) (awp P b Q)) Q) σ:=by rw [awp]; rfl
@[go_sem ↓] theorem iw {c:Operand} {a b:Code}:awp P (.cond c a b) Q σ=BK (σ.e c) fun v=>VW v (awp P a Q σ) (awp P b Q σ):=by rw [awp]; rfl
@[go_sem ↓] theorem gh {id:Nat} {c:Code}:awp P (.block id c) Q σ=awp P c (AE.inBlock id Q) σ:=by rw [awp]
@[go_sem ↓] theorem iy {id:Nat}:awp P (.exit id) Q σ=Q (.exit id) σ:=by rw [awp]
@[go_sem ↓] theorem jf:awp P .ret Q σ=Q .ret σ:=by rw [awp]
@[go_sem] theorem Um {b:Bool} {p q:Prop}:VW (.bool b) p q=Pm b p q:=by simp [VW,Pm]
@[go_sem ↓] theorem bg {n:St→Prop}:AE.then n Q .normal σ=n σ:=rfl
@[go_sem ↓] theorem dc {n:St→Prop} {id:Nat}:AE.then n Q (.exit id) σ=Q (.exit id) σ:=rfl
@[go_sem ↓] theorem ep {n:St→Prop}:AE.then n Q .ret σ=Q .ret σ:=rfl
@[go_sem ↓] theorem Zv {id:Nat}:AE.inBlock id Q .normal σ=Q .normal σ:=rfl
@[go_sem ↓] theorem dd {id:Nat}:AE.inBlock id Q .ret σ=Q .ret σ:=rfl
def YU (P:Program) (b:Code) (Q:AE→St→Prop) (σ:St) (_:Wrap b) (_:Wrap Q):Prop:=awp P (.loop b) Q σ
def lpX (P:Program) (b:Code) (Q:AE→St→Prop) (σ:St):Prop:=∃σ1,Wk σ σ1∧awp P (.loop b) Q σ1
def lpY (P:Program) (b:Code) (Q:AE→St→Prop) (σ:St) (_:Wrap b) (_:Wrap Q) (_:Wrap σ):Prop:=∃σ1,Wk σ σ1∧awp P (.loop b) Q σ1
@[go_sem ↓] theorem iz {b:Code}:lpX P b Q σ=lpY P b Q σ ⟨⟩ ⟨⟩ ⟨⟩:=rfl
theorem Am {b:Code} {w1:Wrap b} {w2:Wrap Q} {w3:Wrap σ} {σ1:St} (h:awp P (.loop b) Q σ1) (hw:Wk σ σ1):lpY P b Q σ w1 w2 w3:=⟨σ1,hw,h⟩
theorem Ag {b:Code} {w1:Wrap b} {w2:Wrap Q} (h:awp P b (AE.then (lpX P b Q) Q) σ):YU P b Q σ w1 w2:=TJ h
@[go_sem ↓] theorem de {b:Code}:awp P (.loop b) Q σ=YU P b Q σ ⟨⟩ ⟨⟩:=rfl
@[go_sem ↓] theorem cW {id i:Nat}:AE.inBlock id Q (.exit i) σ=Nj (decide (i=id)) (Q .normal σ) (Q (.exit i) σ):=by
 simp only [AE.inBlock,Nj]
 by_cases h:i=id <;> simp [h]
attribute [go_sem] decide_true decide_false
def opX (P:Program) (pos:Nat) (dst:Option Tmp) (op:Op) (σ:St) (K:St→Prop):Prop:=aop P pos ⟨dst,op,0, "",#[],none⟩ σ K
def opL (P:Program) (L:Bool) (pos:Nat) (dst:Option Tmp) (op:Op) (σ:St) (K:St→Prop) (_:Wrap L):Prop:=OQ P L pos ⟨dst,op,0, "",#[],none⟩ σ K
theorem TK {L:Bool} {pos:Nat} {o:Oper}:OQ P L pos o σ K=opL P L pos o.dst o.op σ K ⟨⟩:=by
 obtain⟨dst,op,type,ps,after,guard⟩:=o
 rfl
@[go_sem] theorem jg {ops:Array Oper} {base cut i:Nat} {w1:Wrap ops} {w2:Wrap ([] :List Oper)} {w3:Wrap K} {w4:Wrap cut}:Kc P ops base cut i [] σ K w1 w2 w3 w4=K σ:=by rw [Kc,aops]
@[go_sem] theorem i0 {ops:Array Oper} {base cut i:Nat} {dst:Option Tmp} {op:Op} {type:TypeId} {ps:String} {after:Array Edge} {rest:List Oper} {w1:Wrap ops} {w2} {w3:Wrap K} {w4:Wrap cut}:
  Kc P ops base cut i (⟨dst,op,type,ps,after,none⟩::rest) σ K w1 w2 w3 w4=opL P (decide (cut≤i)) (base+i) dst op σ (fun σ'=>aops P ops base cut (i+1) rest σ' K) ⟨⟩:=by
 rw [Kc,aops]; simp only [TK]
def Mm (ops:Array Oper) (j:Nat) (K:Tmp→Prop):Prop:=optX (HI ops j) K
@[go_sem ↓] theorem cX {dst:Tmp} {op:Op} {type:TypeId} {ps:String} {after:Array Edge} {g:Option (Nat × Bool)} {rest:List Oper} {K:Tmp→Prop}:Mm (List.toArray (⟨some dst,op,type,ps,after,g⟩::rest)) 0 K=K dst:=by
 simp [Mm,HI,optX]
@[go_sem ↓] theorem cY {o:Oper} {rest:List Oper} {j:Nat} {K:Tmp→Prop}:Mm (List.toArray (o::rest)) (j+1) K=Mm rest.toArray j K:=by
 simp [Mm,HI]
def Kd (v:AV) (want:Bool) (p q q':Prop):Prop:=(∃b,v= .bool b∧(b=want→p)∧(b= !want→q))∨(v= .tup [] ∧q')
@[go_sem ↓] theorem TL {b:Bool} {p q q':Prop}:Kd (.bool b) true p q q'=Pm b p q:=by simp [Kd,Pm]
@[go_sem ↓] theorem Ru {b:Bool} {p q q':Prop}:Kd (.bool b) false p q q'=Pm b q p:=by
 simp only [Kd,Pm,AV.bool.injEq,exists_eq_left',Bool.not_false,reduceCtorEq,false_and,or_false]
 exact propext And.comm
@[go_sem ↓] theorem Wx {want:Bool} {p q q':Prop}:Kd (.tup []) want p q q'=q':=by simp [Kd]
@[go_sem] theorem gi {ops:Array Oper} {base cut i:Nat} {dst:Option Tmp} {op:Op} {type:TypeId} {ps:String} {after:Array Edge} {j:Nat} {want:Bool} {rest:List Oper} {w1:Wrap ops} {w2} {w3:Wrap K} {w4:Wrap cut}:
  Kc P ops base cut i (⟨dst,op,type,ps,after,some (j,want)⟩::rest) σ K w1 w2 w3 w4=Mm ops j fun s=>BK (σ.g s) fun v=>Kd v want
   (opL P (decide (cut≤i)) (base+i) dst op (σ.put (some s) (.bool want)) (fun σ'=>aops P ops base cut (i+1) rest σ' K) ⟨⟩)
   (aops P ops base cut (i+1) rest ((σ.put (some s) (.bool (!want))).put dst (.tup [])) K)
   (aops P ops base cut (i+1) rest (σ.put dst (.tup [])) K):=by
 rw [Kc,aops]
 simp only [TK,Mm,optX,Kd,BK]
section
variable {L:Bool} {pos:Nat} {dst:Option Tmp} {wL:Wrap L}
theorem DO {op:Op} (h:∀ (σ:St) (K:St→Prop),KI P ⟨dst,op,0, "",#[],none⟩ σ K=False) (hA:O4 ⟨dst,op,0, "",#[],none⟩=false:=by rfl) (hS:SliK P pos ⟨dst,op,0, "",#[],none⟩ σ K=False:=by rfl):opL P L pos dst op σ K wL=opX P pos dst op σ K:=by
 unfold opL OQ opX
 rw [h,hA,hS]; simp
@[go_sem ↓] theorem eq {x:Operand}:opL P L pos dst (.move x) σ K wL=opX P pos dst (.move x) σ K:=DO fun _ _=>rfl
@[go_sem ↓] theorem cZ {x:Operand}:opL P L pos dst (.assign x) σ K wL=opX P pos dst (.assign x) σ K:=DO fun _ _=>rfl
@[go_sem ↓] theorem eu {a b c:Operand}:opL P L pos dst (.pick c a b) σ K wL=opX P pos dst (.pick c a b) σ K:=DO fun _ _=>rfl
@[go_sem ↓] theorem ew {t:TypeId} {a:Operand}:opL P L pos dst (.load t a) σ K wL=opX P pos dst (.load t a) σ K:=DO fun _ _=>rfl
@[go_sem ↓] theorem Zw {x:Operand}:opL P L pos dst (.nilCheck x) σ K wL=opX P pos dst (.nilCheck x) σ K:=DO fun _ _=>rfl
@[go_sem ↓] theorem gj {op:BinOp} {t t':TypeId} {x y:Operand}:opL P L pos dst (.binOp op t x y t') σ K wL=opX P pos dst (.binOp op t x y t') σ K:=DO fun _ _=>rfl
@[go_sem ↓] theorem i3 {op:UnOp} {t:TypeId} {x:Operand}:opL P L pos dst (.unOp op t x) σ K wL=opX P pos dst (.unOp op t x) σ K:=DO fun _ _=>rfl
@[go_sem ↓] theorem bh {s d:TypeId} {x:Operand}:opL P L pos dst (.convert s d x) σ K wL=opX P pos dst (.convert s d x) σ K:=DO fun _ _=>rfl
@[go_sem ↓] theorem Za {s:TypeId} {x:Operand} {f:Nat}:opL P L pos dst (.fieldAddr s x f) σ K wL=opX P pos dst (.fieldAddr s x f) σ K:=DO fun _ _=>rfl
@[go_sem ↓] theorem Zb {t:TypeId} {x i:Operand}:opL P L pos dst (.indexAddr t x i) σ K wL=opX P pos dst (.indexAddr t x i) σ K:=DO fun _ _=>rfl
@[go_sem ↓] theorem dg {t:TypeId} {x i:Operand}:opL P L pos dst (.index t x i) σ K wL=opX P pos dst (.index t x i) σ K:=DO fun _ _=>rfl
def YV (P:Program) (L:Bool) (pos:Nat) (dst:Option Tmp) (op:Op) (v:AV) (σ:St) (K:St→Prop):Prop:=opX P pos dst op σ K∨(L=true∧(match v with| .own _=>True|_=>False)∧SliK P pos ⟨dst,op,0, "",#[],none⟩ σ K)
def e7 (P:Program) (L:Bool) (pos:Nat) (dst:Option Tmp) (op:Op) (v:AV) (σ:St) (K:St→Prop) (_:Wrap σ) (_:Wrap K) (_:Wrap op):Prop:=YV P L pos dst op v σ K
@[go_sem ↓] theorem gm {op:Op} {v:AV}:YV P L pos dst op v σ K=e7 P L pos dst op v σ K ⟨⟩ ⟨⟩ ⟨⟩:=rfl
theorem Wy {t:TypeId} {x:Operand} {l h m:Option Operand}:opL P L pos dst (.slice t x l h m) σ K wL=YV P L pos dst (.slice t x l h m) (σ.e x) σ K:=by
 have h1:KI P ⟨dst,.slice t x l h m,0, "",#[],none⟩ σ K=False:=rfl
 have h2:O4 ⟨dst,.slice t x l h m,0, "",#[],none⟩=false:=rfl
 have h3:SliK P pos ⟨dst,.slice t x l h m,0, "",#[],none⟩ σ K=((match σ.e x with| .own _=>True|_=>False)∧SliK P pos ⟨dst,.slice t x l h m,0, "",#[],none⟩ σ K):=by
  unfold SliK
  cases m with
  |some m=>simp
  |none=>
   simp only
   generalize σ.e x=v
   cases v <;> simp
 unfold opL OQ YV opX
 rw [h1,h2]
 refine propext ⟨?_,?_⟩
 ·rintro (⟨-,h⟩|⟨hL,h|h⟩|⟨-,h,-⟩)
  ·exact .inl h
  ·exact h.elim
  ·rw [h3] at h; exact .inr ⟨hL,h⟩
  ·cases h
 ·rintro (h|⟨hL,-,h⟩)
  ·exact .inl ⟨.inr rfl,h⟩
  ·exact .inr (.inl ⟨hL,.inr h⟩)
@[go_sem ↓] theorem ca {t:TypeId} {x:Operand} {l h m:Option Operand}:opL P L pos dst (.slice t x l h m) σ K wL=BK (σ.e x) fun v=>YV P L pos dst (.slice t x l h m) v σ K:=Wy
theorem e8 {t el:TypeId} {x:Operand} {l h:Option Operand} {n:Nat} {tk:Tok} {i j:Int} {r:List (List D)} {w1 w2 w3} (he:σ.e x= .own n) (hT:σ.T n=some tk) (hu:ti P t= .sl el) (hz:0<tsz P el) (hr:∀row ∈ tk.rows,row.length=tsz P el) (hi:bndI (l.map σ.e) 0=some i) (hj:bndI (h.map σ.e) tk.rows.length=some j) (hc:cutL tk.rows i j=some r) (hl:look σ.t (pos*16)=none)
  (k:K (St.put ⟨σ.s,(pos*16,some ⟨r,none,0,tk.z⟩)::(n,none)::σ.t,σ.b⟩ dst (.own (pos*16)))):e7 P true pos dst (.slice t x l h none) (.own n) σ K w1 w2 w3:=by
 refine .inr ⟨rfl,trivial,?_⟩
 unfold SliK
 simp only [he]
 exact⟨tk,hT,el,hu,⟨hz,hr⟩,i,hi,j,hj,r,hc,hl,k⟩
@[go_sem ↓] theorem bi {x:Operand} {i:Nat}:opL P L pos dst (.extract x i) σ K wL=opX P pos dst (.extract x i) σ K:=DO fun _ _=>rfl
@[go_sem ↓] theorem Zx {c:Fn} {a b:Array Operand}:opL P L pos dst (.makeFunc c a b) σ K wL=opX P pos dst (.makeFunc c a b) σ K:=DO fun _ _=>rfl
@[go_sem ↓] theorem go {t:TypeId} {x:Operand}:opL P L pos dst (.box t x) σ K wL=opX P pos dst (.box t x) σ K:=DO fun _ _=>rfl
@[go_sem ↓] theorem dh {t:TypeId}:opL P L pos dst (.alloc t) σ K wL=opX P pos dst (.alloc t) σ K:=DO fun _ _=>rfl
@[go_sem ↓] theorem di {t:TypeId} {ps:Array (Nat × Operand)}:opL P L pos dst (.build t ps) σ K wL=opX P pos dst (.build t ps) σ K:=DO fun _ _=>rfl
@[go_sem ↓] theorem YW {t:TypeId} {n:Nat} {ps:Array (Nat × Operand)}:opL P L pos dst (.buildSlice t n ps) σ K wL=opX P pos dst (.buildSlice t n ps) σ K:=DO fun _ _=>rfl
@[go_sem ↓] theorem Zc {t:TypeId} {l c:Operand}:opL P L pos dst (.makeSlice t l c) σ K wL=opX P pos dst (.makeSlice t l c) σ K:=DO fun _ _=>rfl
@[go_sem ↓] theorem bj {t:TypeId} {r:Option Operand}:opL P L pos dst (.makeMap t r) σ K wL=opX P pos dst (.makeMap t r) σ K:=DO fun _ _=>rfl
@[go_sem ↓] theorem cc {t:TypeId} {x i:Operand} {ok:Bool}:opL P L pos dst (.lookup t x i ok) σ K wL=opX P pos dst (.lookup t x i ok) σ K:=DO fun _ _=>rfl
@[go_sem ↓] theorem Zd {t:TypeId} {m i x:Operand}:opL P L pos dst (.mapUpdate t m i x) σ K wL=opX P pos dst (.mapUpdate t m i x) σ K:=DO fun _ _=>rfl
@[go_sem ↓] theorem dj {t:TypeId} {a x:Operand}:opL P L pos dst (.store t a x) σ K wL=opX P pos dst (.store t a x) σ K:=DO fun _ _=>rfl
@[go_sem ↓] theorem gp {as:Array Operand} {ts:Array TypeId}:opL P L pos dst (.call ⟨.builtin .len,as,ts⟩) σ K wL=opX P pos dst (.call ⟨.builtin .len,as,ts⟩) σ K:=DO fun _ _=>rfl
def opE (P:Program) (pos:Nat) (dst:Option Tmp) (op:Op) (σ:St) (K:St→Prop):Prop:=∃r,Ev P pos ⟨dst,op,0, "",#[],none⟩ σ.e σ.T σ.B r∧Cd σ r.t∧Dl σ r.b∧K (σ.add dst r)
def Wz (L:Bool) (p q:Prop) (_:Wrap p) (_:Wrap q):Prop:=(L=true∧p)∨(L=false∧q)
@[go_sem] theorem dk {p q:Prop} {w1:Wrap p} {w2:Wrap q}:Wz true p q w1 w2=p:=by simp [Wz]
@[go_sem] theorem cd {p q:Prop} {w1:Wrap p} {w2:Wrap q}:Wz false p q w1 w2=q:=by simp [Wz]
@[go_sem ↓] theorem ce {as:Array Operand} {ts:Array TypeId}:opL P L pos dst (.call ⟨.builtin .append,as,ts⟩) σ K wL=Wz L (opX P pos dst (.call ⟨.builtin .append,as,ts⟩) σ K) (opE P pos dst (.call ⟨.builtin .append,as,ts⟩) σ K) ⟨⟩ ⟨⟩:=by
 have h1:KI P ⟨dst,.call ⟨.builtin .append,as,ts⟩,0, "",#[],none⟩ σ K=False:=rfl
 have h2:O4 ⟨dst,.call ⟨.builtin .append,as,ts⟩,0, "",#[],none⟩=true:=rfl
 have h3:SliK P pos ⟨dst,.call ⟨.builtin .append,as,ts⟩,0, "",#[],none⟩ σ K=False:=rfl
 unfold opL OQ opX Wz opE
 rw [h1,h2,h3]
 simp
end
attribute [go_sem] Bool.not_true Bool.not_false Nat.zero_le
theorem HJ {pos:Nat} {dst:Option Tmp} {op:Op} (h:∀K',aop P pos ⟨dst,op,0, "",#[],none⟩ σ K'=∃r,Ev P pos ⟨dst,op,0, "",#[],none⟩ σ.e σ.T σ.B r∧Cd σ r.t∧Dl σ r.b∧K' (σ.add dst r)) {p:AV→Prop} (hp:∀r,Ev P pos ⟨dst,op,0, "",#[],none⟩ σ.e σ.T σ.B r=∃v,p v∧r=⟨v,[],[]⟩):
  opX P pos dst op σ K=∃v,p v∧K (σ.put dst v):=by
 unfold opX
 rw [h]
 refine propext ⟨?_,?_⟩
 ·rintro ⟨r,h1,h2,h3,h4⟩
  rw [hp] at h1
  obtain⟨v,h5,rfl⟩:=h1
  exact⟨v,h5,by cases dst <;> exact h4⟩
 ·rintro ⟨v,h5,h4⟩
  exact⟨⟨v,[],[]⟩,by rw [hp]; exact⟨v,h5,rfl⟩,trivial,trivial,by cases dst <;> exact h4⟩
@[go_sem ↓] theorem i4 {pos:Nat} {dst:Option Tmp} {x:Operand}:opX P pos dst (.move x) σ K=BK (σ.e x) fun v=>K (σ.put dst v):=by
 rw [HJ (p:=fun v=>v=σ.e x) (fun _=>by simp only [aop]) (fun r=>by simp [Ev])]
 simp [BK]
@[go_sem ↓] theorem e9 {pos:Nat} {dst:Option Tmp} {x:Operand}:opX P pos dst (.assign x) σ K=BK (σ.e x) fun v=>K (σ.put dst v):=by
 rw [HJ (p:=fun v=>v=σ.e x) (fun _=>by simp only [aop]) (fun r=>by simp [Ev])]
 simp [BK]
def Pn (c a b:AV) (K:AV→Prop):Prop:=∃t,c= .bool t∧K (if t=true then a else b)
@[go_sem] theorem Un {a b:AV} {K:AV→Prop}:Pn (.bool true) a b K=K a:=by simp [Pn]
@[go_sem] theorem TM {a b:AV} {K:AV→Prop}:Pn (.bool false) a b K=K b:=by simp [Pn]
theorem cf {pos:Nat} {dst:Option Tmp} {c a b:Operand}:opX P pos dst (.pick c a b) σ K=Pn (σ.e c) (σ.e a) (σ.e b) fun v=>K (σ.put dst v):=by
 rw [HJ (p:=fun v=>∃t,σ.e c= .bool t∧v=if t=true then σ.e a else σ.e b) (fun _=>by simp only [aop]) (fun r=>by
  simp only [Ev]
  refine propext ⟨?_,?_⟩
  ·rintro ⟨t,h,rfl⟩; exact⟨_,⟨t,h,rfl⟩,rfl⟩
  ·rintro ⟨v,⟨t,h,rfl⟩,rfl⟩; exact⟨t,h,rfl⟩)]
 simp only [Pn]
 refine propext ⟨?_,?_⟩
 ·rintro ⟨v,⟨t,h,rfl⟩,hk⟩; exact⟨t,h,hk⟩
 ·rintro ⟨t,h,hk⟩; exact⟨_,⟨t,h,rfl⟩,hk⟩
def Mn (P:Program) (t:TypeId) (a:AV) (σ:St) (K:AV→Prop):Prop:=∃v,IX P σ.T σ.B t a v∧K v
def ldX (P:Program) (t:TypeId) (off:Nat) (vs:List AV) (K:AV→Prop):Prop:=
 Nj (ti P t).isAgg (Aa (off+tsz P t≤vs.length) (BK (.agg (FC vs off (tsz P t))) K)) (Aa ((ti P t).sc =true) (optX vs[off]? K))
theorem cg {pos:Nat} {dst:Option Tmp} {t:TypeId} {a:Operand}:opX P pos dst (.load t a) σ K=Mn P t (σ.e a) σ fun v=>K (σ.put dst v):=
 HJ (p:=fun v=>IX P σ.T σ.B t (σ.e a) v) (fun _=>by simp only [aop]) (fun r=>by simp only [Ev])
@[go_sem] theorem W0 {t:TypeId} {b off:Nat} {K:AV→Prop}:Mn P t (.box b off) σ K=optX (σ.B b) fun vs=>Aa (isMp vs=false) (ldX P t off vs K):=by
 simp only [Mn,IX,optX,ldX,Nj,Aa,BK]
 by_cases h:(ti P t).isAgg =true
 ·simp only [h,if_true]
  refine propext ⟨?_,?_⟩
  ·rintro ⟨v,⟨vs,h1,hm,h2,rfl⟩,hk⟩; exact⟨vs,h1,hm,.inl ⟨trivial,h2,hk⟩⟩
  ·rintro ⟨vs,h1,hm,(⟨-,h2,hk⟩|⟨hh,-⟩)⟩
   ·exact⟨_,⟨vs,h1,hm,h2,rfl⟩,hk⟩
   ·cases hh
 ·have h':(ti P t).isAgg =false:=by simpa using h
  simp only [h',Bool.false_eq_true,if_false]
  refine propext ⟨?_,?_⟩
  ·rintro ⟨v,⟨vs,h1,hm,h2,h3⟩,hk⟩; exact⟨vs,h1,hm,.inr ⟨trivial,h2,v,h3,hk⟩⟩
  ·rintro ⟨vs,h1,hm,(⟨hh,-⟩|⟨-,h2,v,h3,hk⟩)⟩
   ·exact hh.elim
   ·exact⟨v,⟨vs,h1,hm,h2,h3⟩,hk⟩
@[go_sem] theorem W1 {t:TypeId} {vs:List AV} {off:Nat} {K:AV→Prop}:Mn P t (.rop vs off) σ K=ldX P t off vs K:=by
 simp only [Mn,IX,optX,ldX,Nj,Aa,BK]
 by_cases h:(ti P t).isAgg =true
 ·simp only [h,if_true]
  refine propext ⟨?_,?_⟩
  ·rintro ⟨v,⟨h2,rfl⟩,hk⟩; exact .inl ⟨trivial,h2,hk⟩
  ·rintro (⟨-,h2,hk⟩|⟨hh,-⟩)
   ·exact⟨_,⟨h2,rfl⟩,hk⟩
   ·cases hh
 ·have h':(ti P t).isAgg =false:=by simpa using h
  simp only [h',Bool.false_eq_true,if_false]
  refine propext ⟨?_,?_⟩
  ·rintro ⟨v,⟨h2,h3⟩,hk⟩; exact .inr ⟨trivial,h2,v,h3,hk⟩
  ·rintro (⟨hh,-⟩|⟨-,h2,v,h3,hk⟩)
   ·exact hh.elim
   ·exact⟨v,⟨h2,h3⟩,hk⟩
@[go_sem] theorem W2 {t:TypeId} {t' sz i off:Nat} {K:AV→Prop}:Mn P t (.elt t' sz i off) σ K=
  optX (σ.T t') fun tk=>optX tk.rows[i]? fun row=>Aa (row.length=sz) (Nj (ti P t).isAgg (Aa (off+tsz P t≤sz) (BK (.agg (Lo t' tk.gen [] sz i row off (tsz P t))) K)) (Aa ((ti P t).sc =true) (optX row[off]? fun d=>K (ofT t' tk.gen [] sz i off d)))):=by
 simp only [Mn,IX,optX,Nj,Aa,BK]
 by_cases h:(ti P t).isAgg =true
 ·simp only [h,if_true]
  refine propext ⟨?_,?_⟩
  ·rintro ⟨v,⟨tk,row,h1,h2,h3,h4,rfl⟩,hk⟩; exact⟨tk,h1,row,h2,h3,.inl ⟨trivial,h4,hk⟩⟩
  ·rintro ⟨tk,h1,row,h2,h3,(⟨-,h4,hk⟩|⟨hh,-⟩)⟩
   ·exact⟨_,⟨tk,row,h1,h2,h3,h4,rfl⟩,hk⟩
   ·cases hh
 ·have h':(ti P t).isAgg =false:=by simpa using h
  simp only [h',Bool.false_eq_true,if_false]
  refine propext ⟨?_,?_⟩
  ·rintro ⟨v,⟨tk,row,h1,h2,h3,h4,d,h5,rfl⟩,hk⟩; exact⟨tk,h1,row,h2,h3,.inr ⟨trivial,h4,d,h5,hk⟩⟩
  ·rintro ⟨tk,h1,row,h2,h3,(⟨hh,-⟩|⟨-,h4,d,h5,hk⟩)⟩
   ·exact hh.elim
   ·exact⟨_,⟨tk,row,h1,h2,h3,h4,d,h5,rfl⟩,hk⟩
def ci (o:Option Tok) (g:Nat) (p:Pth):Option (List (List D)):=match o with
 |some tk=>if tk.gen=g then getP p tk.rows else none
 |none=>none
@[go_sem ↓] theorem gq {T:Nat→Option Tok} {t g:Nat} {p:Pth}:subR T t g p=ci (T t) g p:=rfl
@[go_sem] theorem dl {rows:List (List D)} {ap:Option Nat} {g:Nat} {q:Bool} {p:Pth}:ci (some ⟨rows,ap,g,q⟩) g p=getP p rows:=by simp [ci]
def YX (o:Option Tok) (g:Nat) (p:Pth):Option (List (List D)):=match o with
 |some tk=>if tk.gen=g then (getP p tk.rows).map tk.er else none
 |none=>none
@[go_sem ↓] theorem gr {T:Nat→Option Tok} {t g:Nat} {p:Pth}:subE T t g p=YX (T t) g p:=rfl
@[go_sem] theorem cj {rows:List (List D)} {ap:Option Nat} {g:Nat} {q:Bool} {p:Pth}:YX (some ⟨rows,ap,g,q⟩) g p=(getP p rows).map (zer q):=by
 simp only [YX,if_true]; rfl
@[go_sem] theorem dn {r:List (List D)}:zer false r=r:=rfl
@[go_sem] theorem fA {r:List (List D)}:zer true r=erR r:=rfl
@[go_sem] theorem jh {rows:List (List D)} {ap:Option Nat} {g:Nat} {q:Bool}:Tok.rd ⟨rows,ap,g,q⟩=zer q rows:=rfl
@[go_sem] theorem ji {rows r:List (List D)} {ap:Option Nat} {g:Nat} {q:Bool}:Tok.er ⟨rows,ap,g,q⟩ r=zer q r:=rfl
@[go_sem] theorem dp {z:Bool} {rows:List (List D)} {ap:Option Nat} {g:Nat}:okZ z ⟨rows,ap,g,false⟩=true:=rfl
@[go_sem] theorem fB {q:Bool} {rows:List (List D)} {ap:Option Nat} {g:Nat}:okZ q ⟨rows,ap,g,q⟩=true:=by cases q <;> rfl
@[go_sem] theorem fC {rows:List (List D)}:getP [] rows=some rows:=rfl
def i5 (d:D) (K:List (List D)→Prop):Prop:=match d with| .sl r=>K r|_=>False
@[go_sem] theorem gu {r:List (List D)} {K:List (List D)→Prop}:i5 (.sl r) K=K r:=rfl
@[go_sem] theorem ck {t g:Nat} {p:Pth} {sz i:Nat} {d:D} {ds:List D} {off n:Nat}:Lo t g p sz i (d::ds) off n=QT t g p sz i off (((d::ds).drop off).take n):=rfl
attribute [go_sem ↓] ldX
attribute [go_sem] FC ofD Ox ofS ofT QT
end
attribute [go_sem ↓] Um TL Ru Wx Un TM W0 W1 W2
end Go.Proofs.YtckcfdggbbabfaaGreat.Ab
