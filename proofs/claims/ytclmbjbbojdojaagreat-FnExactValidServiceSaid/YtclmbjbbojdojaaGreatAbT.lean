/-
  The abstract walk as a set of rules for 'simp only [go_sem]': heads that wait, their congruences, one rule an operation.
-/
import Derived.Test.YtclmbjbbojdojaaGreatAbS
namespace Go.Proofs.YtclmbjbbojdojaaGreat.Ab
set_option linter.unusedVariables false
set_option maxHeartbeats 1000000
open Go.RowKit
section
variable {P:Program}
theorem Ek {z}:∀ {vs} {σ} {K K'},(∀ds σ,K ds σ→K' ds σ)→BW z vs σ K→BW z vs σ K'
 | [],σ,K,K',hk,h=>by rw [BW] at h ⊢; grind
 | .int k n::vs,σ,K,K',hk,h=>by rw [BW] at h ⊢; exact Ek (fun ds σ=>hk _ σ) h
 | .bool b::vs,σ,K,K',hk,h=>by rw [BW] at h ⊢; exact Ek (fun ds σ=>hk _ σ) h
 | .str b::vs,σ,K,K',hk,h=>by rw [BW] at h ⊢; exact Ek (fun ds σ=>hk _ σ) h
 | .nils ::vs,σ,K,K',hk,h=>by rw [BW] at h ⊢; exact Ek (fun ds σ=>hk _ σ) h
 | .nilp ::vs,σ,K,K',hk,h=>by rw [BW] at h ⊢; exact Ek (fun ds σ=>hk _ σ) h
 | .ro _::vs,σ,K,K',hk,h=>by rw [BW] at h ⊢; exact⟨h.1,Ek (fun ds σ=>hk _ σ) h.2⟩
 | .rop _ _::vs,σ,K,K',hk,h=>by rw [BW] at h ⊢; obtain⟨h1,d,h2,h3⟩:=h; exact⟨h1,d,h2,Ek (fun ds σ=>hk _ σ) h3⟩
 | .bsl _ _ _::vs,σ,K,K',hk,h=>by
  rw [BW] at h ⊢
  split at h
  ·rename_i h0
   rw [if_pos h0]
   exact Ek (fun ds σ=>hk _ σ) h
  ·rename_i h0
   rw [if_neg h0]
   obtain⟨h1,h2,vs',h3,ds,h4,h5,h6⟩:=h
   exact⟨h1,h2,vs',h3,ds,h4,h5,Ek (fun ds σ=>hk _ σ) h6⟩
 | .own t::vs,σ,K,K',hk,h=>by rw [BW] at h ⊢; obtain⟨tk,h1,h2,h3⟩:=h; exact⟨tk,h1,h2,Ek (fun ds σ=>hk _ σ) h3⟩
 | .sub _ _ _::vs,σ,K,K',hk,h=>by grind [BW]
 | .els _ _ _ _ _ _::vs,σ,K,K',hk,h=>by grind [BW]
 | .any ::vs,σ,K,K',hk,h=>by grind [BW]
 | .box _ _::vs,σ,K,K',hk,h=>by grind [BW]
 | .elt _ _ _ _::vs,σ,K,K',hk,h=>by grind [BW]
 | .par _ _ _ _::vs,σ,K,K',hk,h=>by grind [BW]
 | .agg _::vs,σ,K,K',hk,h=>by grind [BW]
 | .tup _::vs,σ,K,K',hk,h=>by grind [BW]
 | .fn _ _::vs,σ,K,K',hk,h=>by grind [BW]
 | .mpr _::vs,σ,K,K',hk,h=>by grind [BW]
 | .mpc _ _::vs,σ,K,K',hk,h=>by grind [BW]
theorem Xt {t} {a x} {σ} {K K'} (hk:∀σ,K σ→K' σ) (h:NK P t a x σ K):NK P t a x σ K':=by
 unfold NK at h ⊢
 split at h
 ·obtain⟨h1,h2,h3,h4⟩:=h
  refine⟨h1,h2,h3,?_⟩
  split at h4
  ·grind
  ·grind [Ek]
  ·grind [Ek]
  omega
 omega
theorem Zt {z} {e} {sz} {x} {σ} {K K'} (hk:∀r σ,K r σ→K' r σ) (h:Re z e sz x σ K):Re z e sz x σ K':=by
 unfold Re at h ⊢
 split at h
 ·grind
 ·split at h
  ·grind
  ·rename_i h0
   rw [if_neg h0]
   obtain⟨h0,h1,h2,vs',h3,ds,h4,h5,h6⟩:=h
   exact⟨h0,h1,h2,vs',h3,ds,h4,h5,hk _ _ h6⟩
 ·grind
 omega
theorem Zu {z} {sz} {x} {σ} {K K'} (hk:∀r σ,K r σ→K' r σ) (h:NL z sz x σ K):NL z sz x σ K':=by
 unfold NL at h ⊢
 split at h
 ·grind
 ·grind [Ek]
 ·grind
 ·grind
 omega
theorem Zv {pos} {t} {x y} {σ} {K K'} (hk:∀v σ,K v σ→K' v σ) (h:XQ P pos t x y σ K):XQ P pos t x y σ K':=by
 unfold XQ at h ⊢
 split at h
 ·grind [Zt,Zu]
 omega
theorem UL {t} {m i x} {σ} {K K'} (hk:∀σ,K σ→K' σ) (h:Um P t m i x σ K):Um P t m i x σ K':=by
 unfold Um at h ⊢
 grind
theorem WO {pos} {o} {σ} {K K'} (hk:∀σ,K σ→K' σ) (h:aop P pos o σ K):aop P pos o σ K':=by
 unfold aop at h ⊢
 split at h
 ·grind
 ·grind
 ·grind [Xt]
 ·grind [UL]
 ·grind [UL]
 ·grind [Zv]
 grind
theorem JG {K K'} (hk:∀σ,K σ→K' σ):∀ {cv} {σ},D5 cv σ K→D5 cv σ K'
 | [],σ,h=>by rw [D5] at h ⊢; grind
 | (n,a,z)::cv,σ,h=>by
  cases a with
  |sub t g p=>
   rw [D5] at h ⊢
   obtain⟨h1,h2,h3,tk,rows,h4,h5,h6,h7,h8⟩:=h
   exact⟨h1,h2,h3,tk,rows,h4,h5,h6,h7,JG hk h8⟩
  |nils=>rw [D5] at h ⊢; exact⟨h.1,JG hk h.2⟩
  |bsl b m sz=>rw [D5] at h ⊢; exact⟨h.1,h.2.1,JG hk h.2.2⟩
  |_=>simp [D5] at h
theorem Ko:∀ {cv} {σ} {K K'},(∀σ,K σ→K' σ)→C0 cv σ K→C0 cv σ K'
 | [],σ,K,K',hk,h=>by rw [C0] at h ⊢; grind
 | (n,a,z)::cv,σ,K,K',hk,h=>by
  cases a with
  | sub t g p=>
   rw [C0] at h ⊢
   refine Ko (fun σ h=>?_) h
   cases hn:σ.T n with
   |none=>simp only [hn] at h ⊢; exact hk _ h
   |some tn=>
    simp only [hn] at h ⊢
    obtain⟨tk,h1,h2,h3,h4⟩:=h
    exact⟨tk,h1,h2,h3,hk _ h4⟩
  |_=>
   rw [C0] at h ⊢
   ·exact Ko (fun σ h=>hk _ h) h
   all_goals (intros; simp_all)
theorem Xu {f} {args} {σ} {K K'} (hk:∀v σ,K v σ→K' v σ) (h:To P f args σ K):To P f args σ K':=by
 obtain⟨y,as,pt,pb,r,qt,qb,h1,h2⟩:=h
 exact⟨y,as,pt,pb,r,qt,qb,h1,JG (fun σ h=>⟨h.1,h.2.1,h.2.2.1,h.2.2.2.1,h.2.2.2.2.1,h.2.2.2.2.2.1,h.2.2.2.2.2.2.1,h.2.2.2.2.2.2.2.1,Ko (fun σ h=>hk _ _ h) h.2.2.2.2.2.2.2.2⟩) h2⟩
theorem WP {K K'} (hk:∀a σ,K a σ→K' a σ):∀ {bs} {args} {σ},FzK bs args σ K→FzK bs args σ K'
 | [],args,σ,h=>hk _ _ h
 |b::bs,args,σ,h=>by
  obtain⟨vs,h1,h2,h3⟩:=h
  exact⟨vs,h1,h2,WP hk h3⟩
theorem Xv {f} {args} {σ} {K K'} (hk:∀v σ,K v σ→K' v σ) (h:YP P f args σ K):YP P f args σ K':=by
 obtain⟨bs,h⟩:=h
 exact⟨bs,WP (fun _ _ h=>Xu hk h) h⟩
theorem UM {L} {pos} {o} {σ} {K K'} (hk:∀σ,K σ→K' σ) (h:TD P L pos o σ K):TD P L pos o σ K':=by
 rcases h with ⟨hA,h⟩|⟨hL,h⟩|⟨hL,hA,r,h1,h2,h3,h4⟩
 ·exact .inl ⟨hA,WO hk h⟩
 ·refine .inr (.inl ⟨hL,?_⟩)
  rcases h with h|h|⟨hs,σ1,hn,h⟩
  ·refine .inl ?_
   unfold Mv at h ⊢
   split at h
   ·grind [Xv]
   omega
  ·refine .inr (.inl ?_)
   unfold TC at h ⊢
   split at h
   ·split at h
    ·grind
    omega
   omega
  ·exact .inr (.inr ⟨hs,σ1,hn,WO hk h⟩)
 ·exact .inr (.inr ⟨hL,hA,r,h1,h2,h3,hk _ h4⟩)
theorem Hj {ops} {base cut} {K K'} (hk:∀σ,K σ→K' σ):∀ {l} {i} {σ},aops P ops base cut i l σ K→aops P ops base cut i l σ K'
 | [],i,σ,h=>by rw [aops] at h ⊢; grind
 | o::rest,i,σ,h=>by
  rw [aops] at h ⊢
  split at h
  ·exact UM (fun σ h=>Hj hk h) h
  ·obtain⟨s,h1,h⟩:=h
   refine⟨s,h1,?_⟩
   rcases h with ⟨b,h2,h3,h4⟩|⟨h2,h3⟩
   ·exact .inl ⟨b,h2,fun hb=>UM (fun σ h=>Hj hk h) (h3 hb),fun hb=>Hj hk (h4 hb)⟩
   ·exact .inr ⟨h2,Hj hk h3⟩
theorem Zw {p} {K K'} (hk:∀σ,K σ→K' σ) {σ} (h:seqW p K σ):seqW p K' σ:=by
 unfold seqW at h ⊢
 grind
theorem Og {P} {ops} {base} {ts}:∀ (tr:Tr) {σ} {K K'},(∀σ,K σ→K' σ)→aTr P ops base ts tr σ K→aTr P ops base ts tr σ K'
 | .fin,σ,K,K',hk,h=>hk σ h
 | .stop,σ,K,K',hk,h=>trivial
 | .fz t,σ,K,K',hk,h=>by
  simp only [aTr] at h ⊢
  obtain⟨σ1,hn,h⟩:=h
  exact⟨σ1,hn,Og t hk h⟩
 | .br i t more,σ,K,K',hk,h=>by
  simp only [aTr] at h ⊢
  refine⟨?_,Og more hk h.2⟩
  have h1:=h.1
  split at h1
  ·exact Hj (fun σ' h=>Og t hk h) h1
  ·exact h1.elim
theorem SQ {P} {ops} {base} {r} {i} {o} {acc} {σ} {K K'} (hk:∀acc σ,K acc σ→K' acc σ) (h:LR P ops base r i o acc σ K):LR P ops base r i o acc σ K':=by
 unfold LR at h ⊢
 cases r with
 |no=>grind [Hj]
 |al=>
  grind
 |st k=>
  grind
theorem Kp {P} {ops} {base} {V}:∀ (l:List Oper) {E} {i} {ts} {acc} {σ} {K K'},(∀ts acc σ,K ts acc σ→K' ts acc σ)→Fe P ops base V E i l ts acc σ K→Fe P ops base V E i l ts acc σ K'
 | [],E,i,ts,acc,σ,K,K',hk,h=>by grind [Fe]
 |o::l,[],i,ts,acc,σ,K,K',hk,h=>by simp only [Fe] at h ⊢; exact SQ (fun acc σ' h=>Kp l hk h) h
 |o::l,true::E,i,ts,acc,σ,K,K',hk,h=>by simp only [Fe] at h ⊢; exact Kp l hk h
 |o::l,false::E,i,ts,acc,σ,K,K',hk,h=>by simp only [Fe] at h ⊢; exact SQ (fun acc σ' h=>Kp l hk h) h
theorem Zx {P} {ops} {base} {draw} {σ} {K K'} (hk:∀σ,K σ→K' σ) (h:ZO P ops base draw σ K):ZO P ops base draw σ K':=by
 unfold ZO at h ⊢
 cases draw with
 |false=>exact Hj hk h
 |true=>
  rcases h with ⟨E,V,tr,hE,h⟩|⟨F,ds,h1,h2,h3,h4⟩|h
  ·exact .inl ⟨E,V,tr,hE,Kp _ (fun ts acc σ h=>⟨h.1,Og tr hk h.2⟩) h⟩
  ·exact .inr (.inl ⟨F,ds,h1,h2,h3,hk _ h4⟩)
  ·exact .inr (.inr fun cx N id a w hP hN hs=>wp_mono (h cx N id a w hP hN hs) fun e a' w' ⟨he,σ',hk',hs'⟩=>⟨he,σ',hk _ hk',hs'⟩)
theorem JH:∀ {c} {Q Q'} {σ},(∀q σ,Q q σ→Q' q σ)→awp P c Q σ→awp P c Q' σ
 | .skip,Q,Q',σ,hq,h=>by rw [awp] at h ⊢; grind
 | .region id ops draw,Q,Q',σ,hq,h=>by rw [awp] at h ⊢; grind [Zx]
 | .seq a b,Q,Q',σ,hq,h=>by
  rw [awp] at h ⊢
  refine JH (fun q σ h=>?_) h
  cases q with
  |normal=>
   have h':seqW (I7 a) (awp P b Q) σ:=h
   exact Zw (K:=awp P b Q) (K':=awp P b Q') (fun σ h=>JH hq h) h'
  |exit id=>exact hq _ _ h
  |ret=>exact hq _ _ h
 | .cond c a b,Q,Q',σ,hq,h=>by
  rw [awp] at h ⊢
  obtain⟨v,h1,h2,h3⟩:=h
  exact⟨v,h1,fun e=>JH hq (h2 e),fun e=>JH hq (h3 e)⟩
 | .block id b,Q,Q',σ,hq,h=>by
  rw [awp] at h ⊢
  refine JH (fun q σ h=>?_) h
  cases q with
  |normal=>exact hq _ _ h
  |exit i=>
   grind [AE.inBlock]
  |ret=>exact hq _ _ h
 | .loop b,Q,Q',σ,hq,h=>by
  rw [awp] at h ⊢
  intro L hL
  refine h L fun σ hσ=>hL σ (JH (fun q σ h=>?_) hσ)
  cases q with
  |normal=>exact h
  |exit id=>exact hq _ _ h
  |ret=>exact hq _ _ h
 | .exit id,Q,Q',σ,hq,h=>by rw [awp] at h ⊢; grind
 | .ret,Q,Q',σ,hq,h=>by rw [awp] at h ⊢; grind
 | .rangeFunc _ _ _ _,Q,Q',σ,hq,h=>by simp [awp] at h
 | .goto _,Q,Q',σ,hq,h=>by simp [awp] at h
 | .label _,Q,Q',σ,hq,h=>by simp [awp] at h
theorem WQ {b} {Q} {σ} (h:awp P b (AE.then (fun σ'=>∃σ1,Wk σ' σ1∧awp P (.loop b) Q σ1) Q) σ):awp P (.loop b) Q σ:=by
 rw [awp]
 intro L hL
 refine⟨σ,.nil σ,hL σ (JH (fun q σ h=>?_) h)⟩
 cases q with
 |normal=>
  obtain⟨σ1,h1,h2⟩:=h
  rw [awp] at h2
  obtain⟨σ0,h3,h4⟩:=h2 L hL
  exact⟨σ0,h1.trans h3,h4⟩
 |exit id=>exact h
 |ret=>exact h
end
def BL {α:Type} (v:α) (K:α→Prop):Prop:=K v
def optX {α:Type} (o:Option α) (K:α→Prop):Prop:=∃x,o=some x∧K x
def Af (p q:Prop):Prop:=p∧q
def Nf (b:Bool) (p q:Prop):Prop:=(b=true∧p)∨(b=false∧q)
def SR (b:Bool) (p q:Prop):Prop:=(b=true→p)∧(b=false→q)
structure Wrap {α:Sort _} (a:α):Type where
def kG {α:Type} (v:α) (K:α→Prop) (_:Wrap K):Prop:=K v
def dc {α:Type} (o:Option α) (K:α→Prop) (_:Wrap K):Prop:=∃x,o=some x∧K x
def Zy (p q:Prop) (_:Wrap q):Prop:=p∧q
def SS (b:Bool) (p q:Prop) (_:Wrap p) (_:Wrap q):Prop:=(b=true→p)∧(b=false→q)
def bX (b:Bool) (p q:Prop) (_:Wrap p) (_:Wrap q):Prop:=Nf b p q
@[go_sem ↓] theorem mT {α:Type} {v:α} {K:α→Prop}:BL v K=kG v K ⟨⟩:=rfl
@[go_sem ↓] theorem mU {α:Type} {o:Option α} {K:α→Prop}:optX o K=dc o K ⟨⟩:=rfl
@[go_sem ↓] theorem mV {p q:Prop}:Af p q=Zy p q ⟨⟩:=rfl
@[go_sem ↓] theorem kH {b} {p q:Prop}:SR b p q=SS b p q ⟨⟩ ⟨⟩:=rfl
@[go_sem ↓] theorem mX {b} {p q:Prop}:Nf b p q=bX b p q ⟨⟩ ⟨⟩:=rfl
@[go_sem] theorem mY {α:Type} {v:α} {K:α→Prop} {w:Wrap K}:kG v K w=K v:=propext Iff.rfl
@[go_sem] theorem jI {α:Type} {x:α} {K:α→Prop} {w:Wrap K}:dc (some x) K w=K x:=by simp [dc]
@[go_sem] theorem jJ {q:Prop} {w}:Zy True q w=q:=by simp [Zy]
@[go_sem] theorem oI {p:Prop} {w}:Zy p True w=p:=by simp [Zy]
@[go_sem] theorem gZ {p q:Prop} {w} {w'}:SS true p q w w'=p:=by simp [SS]
@[go_sem] theorem fo {p q:Prop} {w} {w'}:SS false p q w w'=q:=by simp [SS]
@[go_sem] theorem jK {p q:Prop} {w} {w'}:bX true p q w w'=p:=by simp [Nf,bX]
@[go_sem] theorem gb {p q:Prop} {w} {w'}:bX false p q w w'=q:=by simp [Nf,bX]
theorem Iv {α:Type} {x:α} {K:α→Prop}:optX (some x) K=K x:=by simp [optX]
theorem UN {α:Type} {K:α→Prop}:optX none K=False:=by simp [optX]
theorem B4 {p q:Prop} {w} (hp:p) (hq:q):Zy p q w:=⟨hp,hq⟩
theorem GK {α:Type} {o:Option α} {x:α} {K:α→Prop} {w:Wrap K} (h:o=some x) (hk:K x):dc o K w:=⟨x,h,hk⟩
@[go_sem] theorem jL:isMp [] =false:=rfl
@[go_sem] theorem jM {a}:isMp [a] =a.mp?:=rfl
@[go_sem] theorem jN {a b} {l}:isMp (a::b::l)=false:=rfl
@[go_sem] theorem jO:Pg [] =true:=rfl
@[go_sem] theorem gc {a} {l}:Pg (a::l)=(!a.mp?&&Pg l):=rfl
attribute [go_sem] AV.mp?
@[go_sem] theorem gd {α:Type} {j:Nat} {x:α} {l:List (Nat × α)} {i:Nat}:look ((j,x)::l) i=if i=j then some x else look l i:=rfl
@[go_sem] theorem kI {α:Type} {i}:look ([] :List (Nat × α)) i=none:=rfl
@[go_sem] theorem St.T_mk {s t b} {i}:St.T ⟨s,t,b⟩ i=(look t i).join :=rfl
@[go_sem] theorem St.B_mk {s t b} {i}:St.B ⟨s,t,b⟩ i=(look b i).join :=rfl
@[go_sem] theorem St.g_mk {s t b} {i}:St.g ⟨s,t,b⟩ i=(look s i).getD .any :=rfl
@[go_sem] theorem St.t_mk {s t b}:St.t ⟨s,t,b⟩=t:=rfl
@[go_sem] theorem St.b_mk {s t b}:St.b ⟨s,t,b⟩=b:=rfl
@[go_sem] theorem St.s_mk {s t b}:St.s ⟨s,t,b⟩=s:=rfl
@[go_sem] theorem St.e_tmp {σ:St} {t:Tmp}:σ.e (.tmp t)=σ.g t:=rfl
@[go_sem] theorem St.e_func {σ:St} {f:FuncId}:σ.e (.func f)= .fn f [] :=rfl
@[go_sem] theorem St.e_const {σ:St} {v:Value}:σ.e (.const v)=BV v:=rfl
@[go_sem] theorem mZ {k} {n}:BV (.int k n)= .int k n:=rfl
@[go_sem] theorem kJ {b}:BV (.bool b)= .bool b:=rfl
@[go_sem] theorem ma {s}:BV (.string s)= .str s:=rfl
@[go_sem] theorem kK:BV (.slice none 0 0)= .nils :=rfl
@[go_sem] theorem kL:BV (.pointer none)= .nilp :=rfl
@[go_sem] theorem me {cs}:BV (.agg cs.toArray)= .agg (H4 cs):=by rfl
@[go_sem] theorem kM:H4 [] =[] :=rfl
@[go_sem] theorem jP {v} {vs}:H4 (v::vs)=BV v::H4 vs:=rfl
@[go_sem] theorem kN {s t b} {d} {v}:St.put ⟨s,t,b⟩ (some d) v=⟨(d,v)::s,t,b⟩:=rfl
@[go_sem] theorem kO {σ} {v}:St.put σ none v=σ:=rfl
@[go_sem] theorem kP {s t b} {i}:St.killT ⟨s,t,b⟩ i=⟨s,(i,none)::t,b⟩:=rfl
@[go_sem] theorem mf {s t b} {i} {tk}:St.setT ⟨s,t,b⟩ i tk=⟨s,(i,some tk)::t,b⟩:=rfl
@[go_sem] theorem mg {s t b} {i} {vs}:St.setB ⟨s,t,b⟩ i vs=⟨s,t,(i,some vs)::b⟩:=rfl
attribute [go_sem] Option.join_some Option.join_none Option.getD_some Option.getD_none reduceIte eq_self and_self true_and and_true
attribute [go_sem] List.getElem?_cons_zero List.getElem?_cons_succ List.length_cons List.length_nil List.take_succ_cons List.take_zero List.take_nil List.drop_succ_cons List.drop_zero List.map_cons List.map_nil List.set_cons_zero List.set_cons_succ List.cons_append List.nil_append Option.some.injEq reduceCtorEq TI.isAgg TI.sc AV.one splice List.all_cons List.all_nil Bool.and_self Bool.true_and Bool.and_true
def Lk (P:Program) (ops:Array Oper) (base cut i:Nat) (l:List Oper) (σ:St) (K:St→Prop) (_:Wrap ops) (_:Wrap l) (_:Wrap K) (_:Wrap cut):Prop:=aops P ops base cut i l σ K
@[go_sem ↓] theorem mh {P} {ops} {base cut i} {l} {K} {σ}:aops P ops base cut i l σ K=Lk P ops base cut i l σ K ⟨⟩ ⟨⟩ ⟨⟩ ⟨⟩:=rfl
section
variable {P:Program} {σ:St} {K:St→Prop} {Q:AE→St→Prop}
@[go_sem ↓] theorem oJ:awp P .skip Q σ=Q .normal σ:=by rw [awp]
@[go_sem ↓] theorem kQ {id} {l}:awp P (.region id l.toArray false) Q σ=aops P l.toArray (id*1000+1000) 0 0 l σ (Q .normal):=by rw [awp]; rfl
def WR (P:Program) (id:Nat) (l:List Oper) (Q:AE→St→Prop) (σ:St) (_:Wrap l) (_:Wrap Q) (_:Wrap σ):Prop:=ZO P l.toArray (id*1000+1000) true σ (Q .normal)
@[go_sem ↓] theorem oK {id} {l}:awp P (.region id l.toArray true) Q σ=WR P id l Q σ ⟨⟩ ⟨⟩ ⟨⟩:=by rw [awp]; rfl
theorem Ah {id} {l} {w1} {w2} {w3} (E:List Bool) (tr:Tr) (h:MM E [] tr l.toArray=true) (k:Fe P l.toArray (id*1000+1000) [] E 0 l [] [] σ fun ts acc σ'=>ZM acc σ' fun σ'=>aTr P l.toArray (id*1000+1000) ts tr σ' (Q .normal)):WR P id l Q σ w1 w2 w3:=.inl ⟨E,[],tr,h,k⟩
def Ey (s:List (Nat × AV)) (t:Nat) (v:AV):Prop:=v= .any ∨look s t=some v
@[go_sem] theorem mi {s}:leS s [] =True:=rfl
@[go_sem] theorem kR {s t v r}:leS s ((t,v)::r)=(Ey s t v∧leS s r):=rfl
@[go_sem] theorem mj {s:List (Nat × AV)} {t:Nat} {b:Bool} {v:AV}:Ey s t (if b=true then v else .any)=(b=true→Ey s t v):=propext (by cases b <;> simp [Ey])
def leO1 {α:Type} (s:List (Nat × Option α)) (t:Nat) (v:Option α):Prop:=v=none∨look s t=some v
@[go_sem] theorem ml {α:Type} {s:List (Nat × Option α)}:leO s [] =True:=rfl
@[go_sem] theorem kS {α:Type} {s:List (Nat × Option α)} {t v r}:leO s ((t,v)::r)=(leO1 s t v∧leO s r):=rfl
@[go_sem] theorem gf {α:Type} {s:List (Nat × α)}:IT s [] =True:=rfl
@[go_sem] theorem ft {α:Type} {s:List (Nat × α)} {t v r}:IT s ((t,v)::r)=((look s t).isSome =true∧IT s r):=rfl
@[go_sem] theorem St.Le_mk {s t b s' t' b'}:St.Le ⟨s,t,b⟩ ⟨s',t',b'⟩=(leS s s'∧(leO t t'∧IT t' t)∧leO b b'∧IT b' b):=rfl
@[go_sem] theorem Bj {S}:ZN S [] =True:=rfl
@[go_sem] theorem BR {S}:noS S [] =True:=rfl
@[go_sem] theorem A3 {S j r}:noS S (j::r)=(S j=false∧noS S r):=rfl
@[go_sem] theorem BI {S j r}:ZN S (j::r)=(S j=true∧ZN S r):=rfl
def optK {α:Type} (b:Bool) (p:Nat × α) (r:List (Nat × α)):List (Nat × α):=if b=true then p::r else r
@[go_sem] theorem oL {α:Type} {p:Nat × α} {r}:optK true p r=p::r:=rfl
@[go_sem] theorem oM {α:Type} {p:Nat × α} {r}:optK false p r=r:=rfl
@[go_sem] theorem jQ {α:Type} {b:Bool} {t:Nat} {v:α} {r} {x:Nat}:look (optK b (t,v) r) x=if x=t then (if b=true then some v else look r x) else look r x:=by
 grind [optK,AI]
@[go_sem] theorem kU {α:Type} {s:List (Nat × Option α)} {b:Bool} {t:Nat} {v:Option α} {r}:leO s (optK b (t,v) r)=((b=true→leO1 s t v)∧leO s r):=by
 cases b <;> simp [optK,leO,leO1]
@[go_sem] theorem fu {α:Type} {s:List (Nat × α)} {b:Bool} {t:Nat} {v:α} {r}:IT s (optK b (t,v) r)=((b=true→(look s t).isSome =true)∧IT s r):=by
 cases b <;> simp [optK,IT]
theorem DE {ops:Array Oper} {base:Nat} {F:(Nat→Bool)→St} {i:Nat} {o:Oper} {os:List Oper} {d u:List Nat} {ds:List (List Nat × List Nat)} (h:(d.all fun j=>o.after.any fun e=>Region.binds .any e&&e.on == j)=true) (hu:(u.all fun j=>decide (j<ops.size)&&((deps ops.toList).getD j 0).testBit i)=true) (k:∀S:Nat→Bool,S i=false→ZN S d→noS S u→aops P ops base 0 i [o] (F S) fun σ'=>St.Le σ' (F fun j=>if j=i then true else S j))
  (r:Ke P ops base F (i+1) os ds):Ke P ops base F i (o::os) ((d,u)::ds):=⟨⟨⟨h,hu⟩,k⟩,r⟩
theorem fv {ops:Array Oper} {base:Nat} {F:(Nat→Bool)→St} {i:Nat} {ds:List (List Nat × List Nat)}:Ke P ops base F i [] ds:=trivial
theorem bY {id} {l} {w1} {w2} {w3} (F:(Nat→Bool)→St) (ds:List (List Nat × List Nat)) (h:dP l=true) (h1:St.Le σ (F fun j=>decide (l.length≤j))) (h2:Ke P l.toArray (id*1000+1000) F 0 l ds) (k:Q .normal (F fun _=>true)):WR P id l Q σ w1 w2 w3:=.inr (.inl ⟨F,ds,h,h1,h2,k⟩)
theorem gg {id} {l} {w1} {w2} {w3} {σ1} (h:gQ P l.toArray σ fun σ'=>σ'=σ1) (k:Q .normal σ1):WR P id l Q σ w1 w2 w3:=.inr (.inr fun cx N i a w hP hN hs=>wp_mono (h cx N i a w hP hN hs) fun e a' w' ⟨he,σ',hk',hs'⟩=>⟨he,σ',hk' ▸ k,hs'⟩)
def gh (acc:List (Nat × List AV)) (σ:St) (K:St→Prop) (_:Wrap σ) (_:Wrap K):Prop:=ZM acc σ K
@[go_sem ↓] theorem mm {acc} {σ} {K}:ZM acc σ K=gh acc σ K ⟨⟩ ⟨⟩:=rfl
@[go_sem] theorem kV {σ} {K} {w1 w2}:gh [] σ K w1 w2=K σ:=by
 simp [gh,ZM,Ei,addB]
attribute [go_sem] addB
def Kq (P:Program) (ops:Array Oper) (base:Nat) (V:List (Nat × Nat)) (E:List Bool) (i:Nat) (l:List Oper) (ts:List (Nat × Oper)) (acc:List (Nat × List AV)) (σ:St) (K:List (Nat × Oper)→List (Nat × List AV)→St→Prop) (_:Wrap ops) (_:Wrap l) (_:Wrap ts) (_:Wrap K) (_:Wrap V) (_:Wrap acc):Prop:=Fe P ops base V E i l ts acc σ K
def Xw (P:Program) (ops:Array Oper) (base:Nat) (r:VR) (i:Nat) (o:Oper) (acc:List (Nat × List AV)) (σ:St) (K:List (Nat × List AV)→St→Prop):Prop:=LR P ops base r i o acc σ K
def Uz (P:Program) (ops:Array Oper) (base:Nat) (r:VR) (i:Nat) (o:Oper) (acc:List (Nat × List AV)) (σ:St) (K:List (Nat × List AV)→St→Prop) (_:Wrap ops) (_:Wrap o) (_:Wrap acc) (_:Wrap σ) (_:Wrap K):Prop:=LR P ops base r i o acc σ K
section
variable {ops:Array Oper} {base i:Nat} {V:List (Nat × Nat)} {E:List Bool} {ts:List (Nat × Oper)} {acc:List (Nat × List AV)} {H:List (Nat × Oper)→List (Nat × List AV)→St→Prop} {o:Oper} {l:List Oper} {w1:Wrap ops} {w3:Wrap ts} {w4:Wrap H} {w5:Wrap V} {w6:Wrap acc}
@[go_sem ↓] theorem kW:Fe P ops base V E i l ts acc σ H=Kq P ops base V E i l ts acc σ H ⟨⟩ ⟨⟩ ⟨⟩ ⟨⟩ ⟨⟩ ⟨⟩:=rfl
@[go_sem] theorem pY {w2}:Kq P ops base V E i [] ts acc σ H w1 w2 w3 w4 w5 w6=H ts acc σ:=by rfl
@[go_sem] theorem oN {w2}:Kq P ops base V (true::E) i (o::l) ts acc σ H w1 w2 w3 w4 w5 w6=Fe P ops base V E (i+1) l ((i,o)::ts) acc σ H:=rfl
@[go_sem] theorem mn {w2}:Kq P ops base V (false::E) i (o::l) ts acc σ H w1 w2 w3 w4 w5 w6=Xw P ops base (CG V i) i o acc σ fun acc' σ'=>Fe P ops base V E (i+1) l ts acc' σ' H:=rfl
@[go_sem] theorem pZ {w2}:Kq P ops base V [] i (o::l) ts acc σ H w1 w2 w3 w4 w5 w6=Xw P ops base (CG V i) i o acc σ fun acc' σ'=>Fe P ops base V [] (i+1) l ts acc' σ' H:=rfl
@[go_sem] theorem gi {x} {xs b} {w2}:Kq P ops base V E i (List.append (x::xs) b) ts acc σ H w1 w2 w3 w4 w5 w6=Kq P ops base V E i (x::List.append xs b) ts acc σ H w1 ⟨⟩ w3 w4 w5 w6:=rfl
@[go_sem] theorem jR {b} {w2}:Kq P ops base V E i (List.append [] b) ts acc σ H w1 w2 w3 w4 w5 w6=Kq P ops base V E i b ts acc σ H w1 ⟨⟩ w3 w4 w5 w6:=rfl
@[go_sem ↓] theorem kX {r} {K}:Xw P ops base r i o acc σ K=Uz P ops base r i o acc σ K ⟨⟩ ⟨⟩ ⟨⟩ ⟨⟩ ⟨⟩:=rfl
attribute [go_sem] CG
@[go_sem] theorem kY {K} {w1 w2 w3 w4 w5}:Uz P ops base .no i o acc σ K w1 w2 w3 w4 w5=aops P ops base (i+1) i [o] σ (K acc):=rfl
@[go_sem] theorem kZ {K} {dst} {t ty} {ps} {af} {w1 w2 w3 w4 w5}:Uz P ops base .al i ⟨dst,.alloc t,ty,ps,af,none⟩ acc σ K w1 w2 w3 w4 w5=Af (0<(tz P t).length ∧(tz P t).length =tsz P t∧isMp ((tz P t).map zAV)=false) (K acc (σ.put dst (.box (base+i) 0))):=rfl
def stV (P:Program) (base k:Nat) (t:TypeId) (x a:AV) (dst:Option Tmp) (acc:List (Nat × List AV)) (σ:St) (K:List (Nat × List AV)→St→Prop):Prop:=match cellsOf x with
 |some cs=>(cs.length=tsz P t∧0<tsz P t∧cs.all AV.one=true)∧a= .box (base+k) 0∧K ((base+k,cs)::acc) (σ.put dst .any)
 |none=>False
@[go_sem] theorem kc {K} {k} {dst} {t ty} {a x} {ps} {af} {w1 w2 w3 w4 w5}:Uz P ops base (.st k) i ⟨dst,.store t a x,ty,ps,af,none⟩ acc σ K w1 w2 w3 w4 w5=BL (σ.e x) fun x=>BL (σ.e a) fun a=>stV P base k t x a dst acc σ K:=rfl
def oO (P:Program) (base k:Nat) (t:TypeId) (x a:AV) (dst:Option Tmp) (acc:List (Nat × List AV)) (σ:St) (K:List (Nat × List AV)→St→Prop) (_:Wrap x) (_:Wrap a) (_:Wrap acc) (_:Wrap σ) (_:Wrap K):Prop:=stV P base k t x a dst acc σ K
@[go_sem ↓] theorem oP {k} {t} {x a} {dst} {K}:stV P base k t x a dst acc σ K=oO P base k t x a dst acc σ K ⟨⟩ ⟨⟩ ⟨⟩ ⟨⟩ ⟨⟩:=rfl
def trX (o:Option Oper) (f:Oper→Prop):Prop:=match o with
 |some o=>f o
 |none=>False
def trY (o:Option Oper) (f:Oper→Prop) (_:Wrap f):Prop:=trX o f
@[go_sem ↓] theorem oQ {x} {f}:trX x f=trY x f ⟨⟩:=rfl
@[go_sem] theorem ke {f} {w}:trY (some o) f w=f o:=rfl
def gj (p q:Prop):Prop:=p∧q
def kf (p q:Prop) (_:Wrap p) (_:Wrap q):Prop:=p∧q
@[go_sem ↓] theorem mo {p q:Prop}:gj p q=kf p q ⟨⟩ ⟨⟩:=rfl
theorem A0 {p q:Prop} {w} {w'} (hp:p) (hq:q):kf p q w w':=⟨hp,hq⟩
def TG (P:Program) (ops:Array Oper) (base:Nat) (ts:List (Nat × Oper)) (tr:Tr) (σ:St) (K:St→Prop) (_:Wrap ops) (_:Wrap ts) (_:Wrap K):Prop:=aTr P ops base ts tr σ K
@[go_sem ↓] theorem oR {tr}:aTr P ops base ts tr σ K=TG P ops base ts tr σ K ⟨⟩ ⟨⟩ ⟨⟩:=rfl
@[go_sem] theorem oS {w3} {w4}:TG P ops base ts .fin σ K w1 w3 w4=K σ:=rfl
@[go_sem] theorem oU {t} {w3} {w4}:TG P ops base ts (.br i t .stop) σ K w1 w3 w4=trX (look ts i) fun o=>aops P ops base 0 i [o] σ fun σ'=>aTr P ops base ts t σ' K:=by
 grind [TG,trX,aTr]
@[go_sem] theorem oV {t u m} {j} {w3} {w4}:TG P ops base ts (.br i t (.br j u m)) σ K w1 w3 w4=gj (aTr P ops base ts (.br i t .stop) σ K) (aTr P ops base ts (.br j u m) σ K):=by
 grind [TG,gj,aTr]
@[go_sem] theorem oW {t} {w3} {w4}:TG P ops base ts (Tr.sq [] t) σ K w1 w3 w4=TG P ops base ts t σ K w1 w3 w4:=rfl
@[go_sem] theorem pa {t} {is} {w3} {w4}:TG P ops base ts (Tr.sq (i::is) t) σ K w1 w3 w4=TG P ops base ts (.br i (Tr.sq is t) .stop) σ K w1 w3 w4:=rfl
end
def dd (p:Bool) (K:St→Prop) (σ:St):Prop:=seqW p K σ
def TH (p:Bool) (K:St→Prop) (σ:St) (_:Wrap K) (_:Wrap σ):Prop:=seqW p K σ
@[go_sem ↓] theorem mq {p}:dd p K σ=TH p K σ ⟨⟩ ⟨⟩:=rfl
@[go_sem] theorem jS {w1} {w2}:TH true K σ w1 w2=K σ:=rfl
theorem BF {w1} {w2} (h:K σ):TH false K σ w1 w2:=⟨σ,.nil σ,h⟩
theorem gk {w1} {w2} {σ1} (hn:Nils σ σ1) (h:K σ1):TH false K σ w1 w2:=⟨σ1,.fz hn (.nil σ1),h⟩
theorem bZ {w1} {w2} {σ1} (h:K σ1) (hw:Wk σ σ1):TH false K σ w1 w2:=⟨σ1,hw,h⟩
@[go_sem] theorem de {id:Nat} {l:List Oper}:I7 (.region id l.toArray false)=l.all fun o=>o.guard.isNone&&gP o.op:=rfl
attribute [go_sem] gP Bool.and_true Bool.true_and Bool.and_false Bool.false_and
@[go_sem] theorem gm {id:Nat} {l:List Oper}:I7 (.region id l.toArray true)=false:=rfl
@[go_sem] theorem gp:I7 .skip =false:=rfl
@[go_sem] theorem jT {a b}:I7 (.seq a b)=false:=rfl
@[go_sem] theorem gq {c} {a b}:I7 (.cond c a b)=false:=rfl
@[go_sem] theorem fw {id} {a}:I7 (.block id a)=false:=rfl
@[go_sem] theorem gr {a}:I7 (.loop a)=false:=rfl
@[go_sem] theorem gu {id}:I7 (.exit id)=false:=rfl
@[go_sem] theorem jU:I7 .ret =false:=rfl
attribute [go_sem] Option.isNone_none Option.isNone_some List.all_cons List.all_nil
@[go_sem ↓] theorem pd {a b}:awp P (.seq a b) Q σ=awp P a (AE.then (dd (I7 a) (awp P b Q)) Q) σ:=by rw [awp]; rfl
@[go_sem ↓] theorem oX {c} {a b}:awp P (.cond c a b) Q σ=BL (σ.e c) fun v=>YR v (awp P a Q σ) (awp P b Q σ):=by rw [awp]; rfl
@[go_sem ↓] theorem mr {id} {c}:awp P (.block id c) Q σ=awp P c (AE.inBlock id Q) σ:=by rw [awp]
@[go_sem ↓] theorem oY {id}:awp P (.exit id) Q σ=Q (.exit id) σ:=by rw [awp]
@[go_sem ↓] theorem pe:awp P .ret Q σ=Q .ret σ:=by rw [awp]
@[go_sem] theorem Xx {b} {p q:Prop}:YR (.bool b) p q=SR b p q:=by simp [YR,SR]
@[go_sem ↓] theorem fx {n}:AE.then n Q .normal σ=n σ:=rfl
@[go_sem ↓] theorem jV {n} {id}:AE.then n Q (.exit id) σ=Q (.exit id) σ:=rfl
@[go_sem ↓] theorem kh {n}:AE.then n Q .ret σ=Q .ret σ:=rfl
@[go_sem ↓] theorem dh {id}:AE.inBlock id Q .normal σ=Q .normal σ:=rfl
@[go_sem ↓] theorem jW {id}:AE.inBlock id Q .ret σ=Q .ret σ:=rfl
def ST (P:Program) (b:Code) (Q:AE→St→Prop) (σ:St) (_:Wrap b) (_:Wrap Q):Prop:=awp P (.loop b) Q σ
def lpX (P:Program) (b:Code) (Q:AE→St→Prop) (σ:St):Prop:=∃σ1,Wk σ σ1∧awp P (.loop b) Q σ1
def lpY (P:Program) (b:Code) (Q:AE→St→Prop) (σ:St) (_:Wrap b) (_:Wrap Q) (_:Wrap σ):Prop:=∃σ1,Wk σ σ1∧awp P (.loop b) Q σ1
@[go_sem ↓] theorem oZ {b}:lpX P b Q σ=lpY P b Q σ ⟨⟩ ⟨⟩ ⟨⟩:=rfl
theorem My {b} {w1} {w2} {w3} {σ1} (h:awp P (.loop b) Q σ1) (hw:Wk σ σ1):lpY P b Q σ w1 w2 w3:=⟨σ1,hw,h⟩
theorem AY {b} {w1} {w2} (h:awp P b (AE.then (lpX P b Q) Q) σ):ST P b Q σ w1 w2:=WQ h
@[go_sem ↓] theorem jX {b}:awp P (.loop b) Q σ=ST P b Q σ ⟨⟩ ⟨⟩:=rfl
@[go_sem ↓] theorem gv {id i}:AE.inBlock id Q (.exit i) σ=Nf (decide (i=id)) (Q .normal σ) (Q (.exit i) σ):=by
 simp only [AE.inBlock,Nf]
 by_cases h:i=id <;> simp [h]
attribute [go_sem] decide_true decide_false
def opX (P:Program) (pos:Nat) (dst:Option Tmp) (op:Op) (σ:St) (K:St→Prop):Prop:=aop P pos ⟨dst,op,0, "",#[],none⟩ σ K
def opL (P:Program) (L:Bool) (pos:Nat) (dst:Option Tmp) (op:Op) (σ:St) (K:St→Prop) (_:Wrap L):Prop:=TD P L pos ⟨dst,op,0, "",#[],none⟩ σ K
@[go_sem] theorem pf {ops} {base cut i} {w1} {w2} {w3} {w4}:Lk P ops base cut i [] σ K w1 w2 w3 w4=K σ:=by rw [Lk,aops]
@[go_sem] theorem oa {ops} {base cut i} {dst} {op} {type} {ps} {after} {rest} {w1} {w2} {w3} {w4}:
  Lk P ops base cut i (⟨dst,op,type,ps,after,none⟩::rest) σ K w1 w2 w3 w4=opL P (decide (cut≤i)) (base+i) dst op σ (fun σ'=>aops P ops base cut (i+1) rest σ' K) ⟨⟩:=by
 rw [Lk,aops]; rfl
def Qk (ops:Array Oper) (j:Nat) (K:Tmp→Prop):Prop:=optX (Ie ops j) K
@[go_sem ↓] theorem gx {dst} {op} {type} {ps} {after} {g} {rest} {K}:Qk (List.toArray (⟨some dst,op,type,ps,after,g⟩::rest)) 0 K=K dst:=by
 simp [Qk,Ie,optX]
@[go_sem ↓] theorem gy {o} {rest} {j} {K}:Qk (List.toArray (o::rest)) (j+1) K=Qk rest.toArray j K:=by
 simp [Qk,Ie]
def Ng (v:AV) (want:Bool) (p q q':Prop):Prop:=(∃b,v= .bool b∧(b=want→p)∧(b= !want→q))∨(v= .tup [] ∧q')
@[go_sem ↓] theorem WS {b} {p q q':Prop}:Ng (.bool b) true p q q'=SR b p q:=by simp [Ng,SR]
@[go_sem ↓] theorem U0 {b} {p q q':Prop}:Ng (.bool b) false p q q'=SR b q p:=by
 grind [Ng,SR]
@[go_sem ↓] theorem Zz {want} {p q q':Prop}:Ng (.tup []) want p q q'=q':=by simp [Ng]
@[go_sem] theorem mt {ops} {base cut i} {dst} {op} {type} {ps} {after} {j} {want} {rest} {w1} {w2} {w3} {w4}:
  Lk P ops base cut i (⟨dst,op,type,ps,after,some (j,want)⟩::rest) σ K w1 w2 w3 w4=Qk ops j fun s=>BL (σ.g s) fun v=>Ng v want
   (opL P (decide (cut≤i)) (base+i) dst op (σ.put (some s) (.bool want)) (fun σ'=>aops P ops base cut (i+1) rest σ' K) ⟨⟩)
   (aops P ops base cut (i+1) rest ((σ.put (some s) (.bool (!want))).put dst (.tup [])) K)
   (aops P ops base cut (i+1) rest (σ.put dst (.tup [])) K):=by
 rw [Lk,aops]
 rfl
section
variable {L:Bool} {pos:Nat} {dst:Option Tmp} {wL:Wrap L}
theorem Z0 {σ:St} {o:Oper} (h:QX o=false):Ri σ o=false:=by
 unfold Ri
 split
 ·rename_i h1; simp [QX,h1] at h
 ·rfl
theorem ER {op} (h:∀ (σ:St) (K:St→Prop),Mv P ⟨dst,op,0, "",#[],none⟩ σ K=False) (hA:QX ⟨dst,op,0, "",#[],none⟩=false:=by rfl) (hS:TC P pos ⟨dst,op,0, "",#[],none⟩ σ K=False:=by rfl):opL P L pos dst op σ K wL=opX P pos dst op σ K:=by
 have:=Z0 (σ:=σ) hA
 grind [opL,TD,opX]
@[go_sem ↓] theorem kj {x}:opL P L pos dst (.move x) σ K wL=opX P pos dst (.move x) σ K:=ER fun _ _=>rfl
@[go_sem ↓] theorem gz {x}:opL P L pos dst (.assign x) σ K wL=opX P pos dst (.assign x) σ K:=ER fun _ _=>rfl
@[go_sem ↓] theorem kl {a b c}:opL P L pos dst (.pick c a b) σ K wL=opX P pos dst (.pick c a b) σ K:=ER fun _ _=>rfl
@[go_sem ↓] theorem km {t} {a}:opL P L pos dst (.load t a) σ K wL=opX P pos dst (.load t a) σ K:=ER fun _ _=>rfl
@[go_sem ↓] theorem di {x}:opL P L pos dst (.nilCheck x) σ K wL=opX P pos dst (.nilCheck x) σ K:=ER fun _ _=>rfl
@[go_sem ↓] theorem mu {op} {t t'} {x y}:opL P L pos dst (.binOp op t x y t') σ K wL=opX P pos dst (.binOp op t x y t') σ K:=ER fun _ _=>rfl
@[go_sem ↓] theorem ob {op} {t} {x}:opL P L pos dst (.unOp op t x) σ K wL=opX P pos dst (.unOp op t x) σ K:=ER fun _ _=>rfl
@[go_sem ↓] theorem dI {s} {x} {f}:opL P L pos dst (.fieldAddr s x f) σ K wL=opX P pos dst (.fieldAddr s x f) σ K:=ER fun _ _=>rfl
@[go_sem ↓] theorem dJ {t} {x i}:opL P L pos dst (.indexAddr t x i) σ K wL=opX P pos dst (.indexAddr t x i) σ K:=ER fun _ _=>rfl
@[go_sem ↓] theorem jY {t} {x i}:opL P L pos dst (.index t x i) σ K wL=opX P pos dst (.index t x i) σ K:=ER fun _ _=>rfl
def kn (P:Program) (L:Bool) (pos:Nat) (dst:Option Tmp) (op:Op) (v:AV) (σ:St) (K:St→Prop):Prop:=opX P pos dst op σ K∨(L=true∧(match v with| .own _=>True|_=>False)∧TC P pos ⟨dst,op,0, "",#[],none⟩ σ K)
def oc (P:Program) (L:Bool) (pos:Nat) (dst:Option Tmp) (op:Op) (v:AV) (σ:St) (K:St→Prop) (_:Wrap σ) (_:Wrap K) (_:Wrap op):Prop:=kn P L pos dst op v σ K
@[go_sem ↓] theorem mw {op} {v}:kn P L pos dst op v σ K=oc P L pos dst op v σ K ⟨⟩ ⟨⟩ ⟨⟩:=rfl
@[go_sem ↓] theorem fy {x} {i}:opL P L pos dst (.extract x i) σ K wL=opX P pos dst (.extract x i) σ K:=ER fun _ _=>rfl
@[go_sem ↓] theorem dj {c} {a b}:opL P L pos dst (.makeFunc c a b) σ K wL=opX P pos dst (.makeFunc c a b) σ K:=ER fun _ _=>rfl
@[go_sem ↓] theorem mx {t} {x}:opL P L pos dst (.box t x) σ K wL=opX P pos dst (.box t x) σ K:=ER fun _ _=>rfl
@[go_sem ↓] theorem jZ {t}:opL P L pos dst (.alloc t) σ K wL=opX P pos dst (.alloc t) σ K:=ER fun _ _=>rfl
@[go_sem ↓] theorem ja {t} {ps}:opL P L pos dst (.build t ps) σ K wL=opX P pos dst (.build t ps) σ K:=ER fun _ _=>rfl
@[go_sem ↓] theorem ba {t} {n} {ps}:opL P L pos dst (.buildSlice t n ps) σ K wL=opX P pos dst (.buildSlice t n ps) σ K:=ER fun _ _=>rfl
@[go_sem ↓] theorem dK {t} {l c}:opL P L pos dst (.makeSlice t l c) σ K wL=opX P pos dst (.makeSlice t l c) σ K:=ER fun _ _=>rfl
@[go_sem ↓] theorem f5 {t} {r}:opL P L pos dst (.makeMap t r) σ K wL=opX P pos dst (.makeMap t r) σ K:=ER fun _ _=>rfl
@[go_sem ↓] theorem g4 {t} {x i} {ok}:opL P L pos dst (.lookup t x i ok) σ K wL=opX P pos dst (.lookup t x i ok) σ K:=ER fun _ _=>rfl
@[go_sem ↓] theorem jb {t} {a x}:opL P L pos dst (.store t a x) σ K wL=opX P pos dst (.store t a x) σ K:=ER fun _ _=>rfl
@[go_sem ↓] theorem my {as} {ts}:opL P L pos dst (.call ⟨.builtin .len,as,ts⟩) σ K wL=opX P pos dst (.call ⟨.builtin .len,as,ts⟩) σ K:=ER fun _ _=>rfl
def opE (P:Program) (pos:Nat) (dst:Option Tmp) (op:Op) (σ:St) (K:St→Prop):Prop:=∃r,Ev P pos ⟨dst,op,0, "",#[],none⟩ σ.e σ.T σ.B r∧Cz σ r.t∧Ei σ r.b∧K (σ.add dst r)
def dl (L:Bool) (p q:Prop) (_:Wrap p) (_:Wrap q):Prop:=(L=true∧p)∨(L=false∧q)
@[go_sem] theorem jc {p q:Prop} {w1} {w2}:dl true p q w1 w2=p:=by simp [dl]
def WT (P:Program) (pos:Nat) (dst:Option Tmp) (op:Op) (u:AV) (σ:St) (K:St→Prop):Prop:=opX P pos dst op σ K∨(YQ u=true∧∃σ1,Nils σ σ1∧opX P pos dst op σ1 K)
def naY (P:Program) (pos:Nat) (dst:Option Tmp) (op:Op) (u:AV) (σ:St) (K:St→Prop) (_:Wrap σ) (_:Wrap K) (_:Wrap op):Prop:=WT P pos dst op u σ K
@[go_sem ↓] theorem mz {op} {t g p}:WT P pos dst op (.sub t g p) σ K=naY P pos dst op (.sub t g p) σ K ⟨⟩ ⟨⟩ ⟨⟩:=rfl
theorem be {op} {u} (h:YQ u=false):WT P pos dst op u σ K=opX P pos dst op σ K:=by simp [WT,h]
@[go_sem ↓] theorem m6 {op} {t}:WT P pos dst op (.own t) σ K=opX P pos dst op σ K:=be rfl
@[go_sem ↓] theorem m7 {op} {b n sz}:WT P pos dst op (.bsl b n sz) σ K=opX P pos dst op σ K:=be rfl
theorem f6 {op} {t g p} {σ1:St} {w1 w2 w3} (h:Nils σ σ1) (k:opX P pos dst op σ1 K):naY P pos dst op (.sub t g p) σ K w1 w2 w3:=.inr ⟨rfl,σ1,h,k⟩
@[go_sem ↓] theorem g5 {x y} {ts}:opL P L pos dst (.call ⟨.builtin .append,List.toArray [x,y],ts⟩) σ K wL=dl L (BL (σ.e x) fun u=>WT P pos dst (.call ⟨.builtin .append,List.toArray [x,y],ts⟩) u σ K) (opE P pos dst (.call ⟨.builtin .append,List.toArray [x,y],ts⟩) σ K) ⟨⟩ ⟨⟩:=by
 have h1:Ri σ ⟨dst,.call ⟨.builtin .append,List.toArray [x,y],ts⟩,0, "",#[],none⟩=YQ (σ.e x):=rfl
 simp only [BL]
 grind [Mv,QX,TC,opL,TD,opX,dl,opE,WT]
end
attribute [go_sem] Bool.not_true Bool.not_false Nat.zero_le
theorem JI {pos:Nat} {dst:Option Tmp} {op:Op} (h:∀K',aop P pos ⟨dst,op,0, "",#[],none⟩ σ K'=∃r,Ev P pos ⟨dst,op,0, "",#[],none⟩ σ.e σ.T σ.B r∧Cz σ r.t∧Ei σ r.b∧K' (σ.add dst r)) {p:AV→Prop} (hp:∀r,Ev P pos ⟨dst,op,0, "",#[],none⟩ σ.e σ.T σ.B r=∃v,p v∧r=⟨v,[],[]⟩):
  opX P pos dst op σ K=∃v,p v∧K (σ.put dst v):=by
 unfold opX
 rw [h]
 refine propext ⟨?_,?_⟩
 ·rintro ⟨r,h1,h2,h3,h4⟩
  rw [hp] at h1
  obtain⟨v,h5,rfl⟩:=h1
  exact⟨v,h5,by cases dst <;> exact h4⟩
 ·rintro ⟨v,h5,h4⟩
  exact⟨⟨v,[],[]⟩,by rw [hp]; grind,trivial,trivial,by cases dst <;> exact h4⟩
@[go_sem ↓] theorem od {pos:Nat} {dst:Option Tmp} {x:Operand}:opX P pos dst (.move x) σ K=BL (σ.e x) fun v=>K (σ.put dst v):=by
 rw [JI (p:=fun v=>v=σ.e x) (fun _=>by rfl) (fun r=>by simp [Ev])]
 simp [BL]
@[go_sem ↓] theorem ko {pos:Nat} {dst:Option Tmp} {x:Operand}:opX P pos dst (.assign x) σ K=BL (σ.e x) fun v=>K (σ.put dst v):=by
 rw [JI (p:=fun v=>v=σ.e x) (fun _=>by rfl) (fun r=>by simp [Ev])]
 simp [BL]
def SU (c a b:AV) (K:AV→Prop):Prop:=∃t,c= .bool t∧K (if t=true then a else b)
@[go_sem] theorem Xy {a b} {K}:SU (.bool true) a b K=K a:=by simp [SU]
@[go_sem] theorem WU {a b} {K}:SU (.bool false) a b K=K b:=by simp [SU]
theorem g6 {pos:Nat} {dst:Option Tmp} {c a b:Operand}:opX P pos dst (.pick c a b) σ K=SU (σ.e c) (σ.e a) (σ.e b) fun v=>K (σ.put dst v):=by
 rw [JI (p:=fun v=>∃t,σ.e c= .bool t∧v=if t=true then σ.e a else σ.e b) (fun _=>by rfl) (fun r=>by
  grind [Ev])]
 grind [SU]
def Ll (P:Program) (t:TypeId) (a:AV) (σ:St) (K:AV→Prop):Prop:=∃v,I6 P σ.T σ.B t a v∧K v
def ldX (P:Program) (t:TypeId) (off:Nat) (vs:List AV) (K:AV→Prop):Prop:=
 Nf (ti P t).isAgg (Af (off+tsz P t≤vs.length) (BL (.agg (Fa vs off (tsz P t))) K)) (Af ((ti P t).sc =true) (optX vs[off]? K))
theorem g7 {pos:Nat} {dst:Option Tmp} {t:TypeId} {a:Operand}:opX P pos dst (.load t a) σ K=Ll P t (σ.e a) σ fun v=>K (σ.put dst v):=
 JI (p:=fun v=>I6 P σ.T σ.B t (σ.e a) v) (fun _=>by rfl) (fun r=>by rfl)
@[go_sem] theorem Z1 {t} {b off} {K}:Ll P t (.box b off) σ K=optX (σ.B b) fun vs=>Af (isMp vs=false) (ldX P t off vs K):=by
 grind [Ll,I6,optX,ldX,Nf,Af,BL]
@[go_sem] theorem Z2 {t} {vs} {off} {K}:Ll P t (.rop vs off) σ K=ldX P t off vs K:=by
 grind [Ll,I6,optX,ldX,Nf,Af,BL]
@[go_sem] theorem Z3 {t} {t' sz i off} {K}:Ll P t (.elt t' sz i off) σ K=
  optX (σ.T t') fun tk=>optX tk.rows[i]? fun row=>Af (row.length=sz) (Nf (ti P t).isAgg (Af (off+tsz P t≤sz) (BL (.agg (NI t' tk.gen [] sz i row off (tsz P t))) K)) (Af ((ti P t).sc =true) (optX row[off]? fun d=>K (ofT t' tk.gen [] sz i off d)))):=by
 grind [Ll,I6,optX,Nf,Af,BL]
@[go_sem] theorem Z4 {t} {t' g} {p} {sz i off} {K}:Ll P t (.els t' g p sz i off) σ K=
  optX (subR σ.T t' g p) fun rows=>optX rows[i]? fun row=>Af (row.length=sz) (Nf (ti P t).isAgg (Af (off+tsz P t≤sz) (BL (.agg (NI t' g p sz i row off (tsz P t))) K)) (Af ((ti P t).sc =true) (optX row[off]? fun d=>K (ofT t' g p sz i off d)))):=by
 grind [Ll,I6,optX,Nf,Af,BL]
def g8 (o:Option Tok) (g:Nat) (p:Pth):Option (List (List D)):=match o with
 |some tk=>if tk.gen=g then getP p tk.rows else none
 |none=>none
@[go_sem ↓] theorem m8 {T} {t g} {p}:subR T t g p=g8 (T t) g p:=rfl
@[go_sem] theorem jd {rows} {ap} {g} {q} {p}:g8 (some ⟨rows,ap,g,q⟩) g p=getP p rows:=by simp [g8]
def kq (o:Option Tok) (g:Nat) (p:Pth):Option (List (List D)):=match o with
 |some tk=>if tk.gen=g then (getP p tk.rows).map tk.er else none
 |none=>none
@[go_sem ↓] theorem m9 {T} {t g} {p}:subE T t g p=kq (T t) g p:=rfl
@[go_sem] theorem je {r}:zer .no r=r:=rfl
@[go_sem] theorem kr {r}:zer .yes r=erR r:=rfl
@[go_sem] theorem oe {r}:zer .nl r=erR r:=rfl
@[go_sem] theorem pg {rows} {ap} {g} {q}:Tok.rd ⟨rows,ap,g,q⟩=zer q rows:=rfl
@[go_sem] theorem ph {rows r} {ap} {g} {q}:Tok.er ⟨rows,ap,g,q⟩ r=zer q r:=rfl
@[go_sem] theorem jf {z} {rows} {ap} {g}:okZ z ⟨rows,ap,g,.no⟩=true:=rfl
@[go_sem] theorem og {z} {rows} {ap} {g}:okZ z ⟨rows,ap,g,.nl⟩=true:=rfl
@[go_sem] theorem kw {q} {rows} {ap} {g}:okZ q ⟨rows,ap,g,q⟩=true:=by cases q <;> rfl
@[go_sem] theorem kx {rows}:getP [] rows=some rows:=rfl
def ky (d:D) (K:List (List D)→Prop):Prop:=match HZ d with|some r=>K r|none=>False
@[go_sem] theorem nA {r} {K}:ky (.sl r) K=K r:=rfl
@[go_sem] theorem nC {K}:ky .nl K=K [] :=rfl
@[go_sem] theorem g9 {t g} {p} {sz i} {d} {ds} {off n}:NI t g p sz i (d::ds) off n=Vh t g p sz i off (((d::ds).drop off).take n):=rfl
attribute [go_sem ↓] ldX
attribute [go_sem] Fa ofD Ra ofS Vh
@[go_sem] theorem nD {t g} {p} {sz i j} {k} {n}:ofT t g p sz i j (.int k n)= .int k n:=rfl
@[go_sem] theorem kz {t g} {p} {sz i j} {b}:ofT t g p sz i j (.bool b)= .bool b:=rfl
@[go_sem] theorem nE {t g} {p} {sz i j} {s}:ofT t g p sz i j (.str s)= .str s:=rfl
@[go_sem] theorem oh {t g} {p} {sz i j} {r}:ofT t g p sz i j (.sl r)= .sub t g (p++[(sz,i,j)]):=rfl
@[go_sem] theorem lA {t g} {p} {sz i j}:ofT t g p sz i j .gone = .any :=rfl
@[go_sem] theorem ol {t g} {p} {sz i j} {r}:ofT t g p sz i j (.fz r)= .ro r:=rfl
@[go_sem] theorem nF {t g} {p} {sz i j} {ds}:ofT t g p sz i j (.ptr ds)= .rop (Ra ds) 0:=rfl
@[go_sem] theorem lC {t g} {p} {sz i j}:ofT t g p sz i j .nilp = .nilp :=rfl
@[go_sem] theorem om {t g} {p} {sz i j}:ofT t g p sz i j .nl = .sub t g (p++[(sz,i,j)]):=rfl
end
attribute [go_sem ↓] Xx WS U0 Zz Xy WU Z1 Z2 Z3 Z4
end Go.Proofs.YtclmbjbbojdojaaGreat.Ab
