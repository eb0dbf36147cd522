/-
  The abstract walk, sixth part: one operation.
-/
import Derived.Test.YtgigfdghecdlgaaAbE
import Derived.DeepKeys
namespace Go.Proofs.Ytgigfdghecdlgaa.Ab
set_option linter.unusedVariables false
set_option linter.unusedSimpArgs false
open Go.RowKit
theorem Ba {w0} {γ} {k} {n} (h:(Lit.int k n).wf =true):VSim w0 γ (.int k n) (.int k n):=by simp only [VSim,true_and]; exact h
theorem Bf {w0} {γ} {b}:VSim w0 γ (.bool b) (.bool b):=by simp only [VSim]
theorem MI {w0} {γ} {s} (h:s.size≤maxLen):VSim w0 γ (.str s) (.string s):=by simp only [VSim,true_and]; exact h
section
variable {P:Program} {w:World} {t:TypeId}
theorem JF (hu:P.underlying t=some .bool) (a b:Bool):(Op.equal t (.bool a) (.bool b)).run P w= .ok (a == b) w:=by
 unfold Op.equal Op.maxDepth
 show (Op.equalIn (9999+1) t _ _).run P w=_
 rw [Op.equalIn]
 simp [run_underlying hu]
theorem Fw {e} (hu:P.underlying t=some (.pointer e)) (b:Option Addr):(Op.equal t (.pointer none) (.pointer b)).run P w= .ok b.isNone w:=by
 unfold Op.equal Op.maxDepth
 show (Op.equalIn (9999+1) t _ _).run P w=_
 rw [Op.equalIn]
 simp [run_underlying hu]
theorem FK {e} (hu:P.underlying t=some (.pointer e)) (b:Addr):(Op.equal t (.pointer (some b)) (.pointer none)).run P w= .ok false w:=by
 unfold Op.equal Op.maxDepth
 show (Op.equalIn (9999+1) t _ _).run P w=_
 rw [Op.equalIn]
 simp [run_underlying hu]
end
def Bs:List KK→List AV→Option (List Lit)
 | [],[] =>some []
 | .int k::ks,.int k1 a::xs=>if k1=k then (Bs ks xs).map (.int k a:: ·) else none
 | .bool ::ks,.bool a::xs=>(Bs ks xs).map (.bool a:: ·)
 | .str ::ks,.str s::xs=>(Bs ks xs).map (.string s.data.toList:: ·)
 |_,_=>none
theorem Rc:∀ (ks:List KK) (xs ys:List AV) (b:Bool),Ax ks xs ys=some b→∃as bs,Bs ks xs=some as∧Bs ks ys=some bs∧(b=true↔as=bs):=by
 intro ks xs ys
 induction ks generalizing xs ys with
 |nil=>
  intro b h
  cases xs <;> cases ys <;> simp only [Ax] at h <;> try (cases h; done)
  cases h
  exact⟨[],[],rfl,rfl,by simp⟩
 | cons k ks ih=>
  intro b h
  cases xs with
  |nil=>cases k <;> simp [Ax] at h
  | cons x xs=>
   cases ys with
   |nil=>cases k <;> cases x <;> simp [Ax] at h
   | cons y ys=>
    cases k <;> cases x <;> first|(cases y <;> simp only [Ax] at h <;> cases h; done)|skip
    ·rename_i k k1 a
     cases y <;> simp only [Ax] at h <;> try (cases h; done)
     rename_i k2 c
     split at h
     ·rename_i hk
      obtain⟨rfl,rfl⟩:=hk
      simp only [Option.map_eq_some_iff] at h
      obtain⟨b',h1,rfl⟩:=h
      obtain⟨as,bs,h2,h3,h4⟩:=ih xs ys b' h1
      exact⟨.int _ a::as,.int _ c::bs,by rw [Bs,if_pos rfl,h2]; rfl,by rw [Bs,if_pos rfl,h3]; rfl,by simp [h4]⟩
     ·cases h
    ·rename_i a
     cases y <;> simp only [Ax] at h <;> try (cases h; done)
     rename_i c
     simp only [Option.map_eq_some_iff] at h
     obtain⟨b',h1,rfl⟩:=h
     obtain⟨as,bs,h2,h3,h4⟩:=ih xs ys b' h1
     exact⟨.bool a::as,.bool c::bs,by rw [Bs,h2]; rfl,by rw [Bs,h3]; rfl,by simp [h4]⟩
    ·rename_i a
     cases y <;> simp only [Ax] at h <;> try (cases h; done)
     rename_i c
     simp only [Option.map_eq_some_iff] at h
     obtain⟨b',h1,rfl⟩:=h
     obtain⟨as,bs,h2,h3,h4⟩:=ih xs ys b' h1
     refine⟨.string a.data.toList::as,.string c.data.toList::bs,by rw [Bs,h2]; rfl,by rw [Bs,h3]; rfl,?_⟩
     simp [h4,ByteArray.toList_eq,Array.ext_iff]
theorem G0:∀ {k1 k2} {xs} {l},Bs (k1++k2) xs=some l→∃l1 l2,Bs k1 (xs.take k1.length)=some l1∧Bs k2 (xs.drop k1.length)=some l2∧l=l1++l2
 | [],k2,xs,l,h=>⟨[],l,by simp [Bs],by simpa using h,rfl⟩
 |k::k1,k2,[],l,h=>by cases k <;> simp [Bs] at h
 | k::k1,k2,x::xs,l,h=>by
  cases k <;> cases x <;> simp only [List.cons_append,Bs] at h <;> try (cases h; done)
  ·split at h
   ·rename_i hk
    simp only [Option.map_eq_some_iff] at h
    obtain⟨l',h1,rfl⟩:=h
    obtain⟨l1,l2,h2,h3,rfl⟩:=G0 h1
    exact⟨_::l1,l2,by simp [Bs,hk,h2],by simpa using h3,rfl⟩
   ·cases h
  ·simp only [Option.map_eq_some_iff] at h
   obtain⟨l',h1,rfl⟩:=h
   obtain⟨l1,l2,h2,h3,rfl⟩:=G0 h1
   exact⟨_::l1,l2,by simp [Bs,h2],by simpa using h3,rfl⟩
  ·simp only [Option.map_eq_some_iff] at h
   obtain⟨l',h1,rfl⟩:=h
   obtain⟨l1,l2,h2,h3,rfl⟩:=G0 h1
   exact⟨_::l1,l2,by simp [Bs,h2],by simpa using h3,rfl⟩
theorem EX:∀ {ks} {xs} {l},Bs ks xs=some l→xs.length=ks.length
 | [],[],_,_=>rfl
 | [],_::_,_,h=>by simp [Bs] at h
 |k::_,[],_,h=>by cases k <;> simp [Bs] at h
 | k::ks,x::xs,l,h=>by
  cases k <;> cases x <;> simp only [Bs] at h <;> try (cases h; done)
  ·split at h
   ·simp only [Option.map_eq_some_iff] at h
    obtain⟨l',h1,rfl⟩:=h
    simp [EX h1]
   ·cases h
  ·simp only [Option.map_eq_some_iff] at h
   obtain⟨l',h1,rfl⟩:=h
   simp [EX h1]
  ·simp only [Option.map_eq_some_iff] at h
   obtain⟨l',h1,rfl⟩:=h
   simp [EX h1]
theorem G1 {w0} {γ}:∀ {xs} {us},AB w0 γ xs us→us.length=xs.length
 | [],us,h=>by simp only [AB] at h; subst h; rfl
 |x::xs,us,h=>by
  simp only [AB] at h
  obtain⟨u,us',rfl,-,h⟩:=h
  simp [G1 h]
theorem J5 {w0} {γ}:∀ (n:Nat) {xs} {us},AB w0 γ xs us→AB w0 γ (xs.take n) (us.take n)∧AB w0 γ (xs.drop n) (us.drop n)
 |0,xs,us,h=>by simp [AB,h]
 |n+1,[],us,h=>by simp only [AB] at h; subst h; simp [AB]
 |n+1,x::xs,us,h=>by
  simp only [AB] at h
  obtain⟨u,us',rfl,h1,h2⟩:=h
  obtain⟨h3,h4⟩:=J5 n h2
  exact⟨by simp only [List.take_succ_cons,AB]; exact⟨u,_,rfl,h1,h3⟩,by simpa using h4⟩
theorem Hm {P} {d} {t} {ks} (h:FR P d t=some ks):ks.length=P.cellsOf t:=by
 cases d with
 |zero=>simp [FR] at h
 | succ d=>
  rw [FR] at h
  split at h
  ·split at h
   ·rename_i hc; cases h; exact hc.symm
   ·cases h
  ·cases h
theorem J6 {P} {w0} {γ} {D} (IH:∀t ks xs us la,FR P D t=some ks→Bs ks xs=some la→AB w0 γ xs us→P.keyLits D t us=some la) (cs:List Value):
  ∀ (fs:List Field) (i:Nat) (ks:List KK) (xs:List AV) (us:List Value) (la:List Lit),H6 P (FR P D) i fs=some ks→Bs ks xs=some la→AB w0 γ xs us→cs.drop i=us→
  ∃ls,fs.mapM (fun f=>P.keyLits D f.type ((cs.drop f.offset).take (P.cellsOf f.type)))=some ls∧ls.flatten=la
 | [],i,ks,xs,us,la,h,h1,h2,h3=>by
  simp only [H6,Option.some.injEq] at h
  subst h
  cases xs <;> simp [Bs] at h1
  subst h1
  exact⟨[],rfl,rfl⟩
 | f::fs,i,ks,xs,us,la,h,h1,h2,h3=>by
  rw [H6] at h
  split at h
  ·rename_i hf
   split at h
   ·rename_i a b ha hb
    cases h
    obtain⟨l1,l2,h4,h5,rfl⟩:=G0 h1
    obtain⟨v1,v2⟩:=J5 a.length h2
    have hl:=Hm ha
    have k1:=IH _ _ _ _ _ ha h4 v1
    obtain⟨ls,hl1,hl2⟩:=J6 IH cs fs (i+P.cellsOf f.type) b _ _ l2 hb h5 v2 (by rw [← hl,← List.drop_drop,h3])
    refine⟨l1::ls,?_,by simp [hl2]⟩
    rw [List.mapM_cons,hl1,hf,h3,← hl,k1]
    rfl
   ·cases h
  ·cases h
theorem J7 {P} {w0} {γ}:∀ (D:Nat) (t:TypeId) (ks:List KK) (xs:List AV) (us:List Value) (la:List Lit),FR P D t=some ks→Bs ks xs=some la→AB w0 γ xs us→P.keyLits D t us=some la
 |0,_,_,_,_,_,h,_,_=>by simp [FR] at h
 | D + 1,t,ks,xs,us,la,h,h1,h2=>by
  have hlen:=Hm h
  have hxl:=EX h1
  have hul:=G1 h2
  rw [FR] at h
  split at h
  ·rename_i ks' hks
   split at h
   ·cases h
    split at hks
    ·rename_i hu
     cases hks
     match xs,us,h1,h2 with
     | [.bool b],us,h1,h2=>
      simp only [AB,VSim] at h2
      obtain⟨u,us',rfl,rfl,rfl⟩:=h2
      simp [Bs] at h1
      subst h1
      simp [Program.keyLits,hu]
    ·rename_i k hu
     cases hks
     match xs,us,h1,h2 with
     | [.int k1 n],us,h1,h2=>
      simp only [AB,VSim] at h2
      obtain⟨u,us',rfl,⟨rfl,hwf⟩,rfl⟩:=h2
      simp only [Bs] at h1
      split at h1
      ·rename_i hk
       subst hk
       simp at h1
       subst h1
       simp [Program.keyLits,hu,hwf]
      ·cases h1
    ·rename_i hu
     cases hks
     match xs,us,h1,h2 with
     | [.str s],us,h1,h2=>
      simp only [AB,VSim] at h2
      obtain⟨u,us',rfl,⟨rfl,hwf⟩,rfl⟩:=h2
      simp [Bs] at h1
      subst h1
      simp [Program.keyLits,hu,hwf]
    ·rename_i fs hu
     split at hks
     ·rename_i hn
      obtain⟨ls,hl1,hl2⟩:=J6 (D:=D) (fun t ks xs us la=>J7 D t ks xs us la) us fs.toList 0 ks xs us la hks h1 h2 (by simp)
      unfold Program.keyLits
      simp only [hu]
      rw [if_pos ⟨by omega,hn⟩,hl1,Option.map_some,hl2]
     ·cases hks
    ·cases hks
   ·cases h
  ·cases h
theorem K5 {P} {w w0} {γ} {t} {ks} {xs ys} {us vs} {b} (ht:GN P t=some ks) (hb:Ax ks xs ys=some b) (hx:AB w0 γ xs us) (hy:AB w0 γ ys vs):
  (Op.equal t (.agg us.toArray) (.agg vs.toArray)).run P w= .ok b w∧P.eqGuardType P.depth t=false:=by
 unfold GN at ht
 split at ht
 ·rename_i fs hu
  split at ht
  ·rename_i hc
   obtain⟨hc2,hc3⟩:=hc
   obtain⟨as,bs,ha,hb',hiff⟩:=Rc _ _ _ _ hb
   have hlen:=Hm ht
   have ka:=J7 4 t ks xs us as ht ha hx
   have kb:=J7 4 t ks ys vs bs ht hb' hy
   have lu:us.length=P.cellsOf t:=by rw [G1 hx,EX ha,hlen]
   have lv:vs.length=P.cellsOf t:=by rw [G1 hy,EX hb',hlen]
   obtain⟨r,hr,hri⟩:=run_equalIn_deep 9996 4 t hc2 w 4 4 (.agg us.toArray) (.agg vs.toArray) _ _ (by simp [Value.formed,hu,lu]) (by simp [Value.formed,hu,lv]) (by simpa [Value.cells] using ka) (by simpa [Value.cells] using kb)
   refine⟨?_,hc3⟩
   have:r=b:=by
    rw [Bool.eq_iff_iff,hri,hiff]
   rw [← this]
   unfold Op.equal Op.maxDepth
   exact hr
  ·cases ht
 ·cases ht
def EvK (cx:Cx) (γ:Gh) (T:Nat→Option Tok) (B:Nat→Option (List AV)) (o:Oper) (a:Act) (next:Act→World→Prop) (r:Res):Prop:=
 ∀v w' γ',Gh.Ext γ γ'→(∀t,γ'.tl t→γ.tl t∨∃x ∈ r.t,x.1 =t)→(∀b,γ'.bl b→γ.bl b∨∃x ∈ r.b,x.1 =b)→OSim cx γ' T B w'→VSim γ'.vw γ' r.v v→next (a.put o.dst v) w'
section
variable {cx:Cx} {γ:Gh} {T:Nat→Option Tok} {B:Nat→Option (List AV)} {w:World} {o:Oper} {a:Act} {next:Act→World→Prop} {Q:Exit→Act→World→Prop}
theorem AU (hs:OSim cx γ T B w) {av} {v} (hr:(execOp a.eval o).run cx.P w= .ok (.value v) w) (hv:VSim γ.vw γ av v) (hk:EvK cx γ T B o a next ⟨av,[],[]⟩):o.wp cx.P a w next Q:=
 Fv hr (hk v w γ (Gh.Ext.refl γ) (fun t h=>.inl h) (fun b h=>.inl h) hs hv)
theorem Lf {op} {t} {x y v} {u u'} {ox oy} (hx:VSim γ.vw γ x u) (hy:VSim γ.vw γ y u') (h:Bin cx.P op t x y v):
  ∃r,(do eqGuard op t ox oy u u'; binOp op t u u':Sem Value).run cx.P w= .ok r w∧VSim γ.vw γ v r:=by
 unfold Bin at h
 split at h
 ·simp only [VSim] at hx hy
  obtain⟨us,rfl,hx⟩:=hx
  obtain⟨vs,rfl,hy⟩:=hy
  obtain⟨ks,b,h1,h2,h⟩:=h
  obtain⟨h3,h4⟩:=K5 (w:=w) h1 h2 hx hy
  cases op <;> simp only at h
  case eql=>subst h; exact⟨.bool b,by simp [eqGuard,binOp,h3,h4],Bf⟩
  case neq=>subst h; exact⟨.bool !b,by simp [eqGuard,binOp,h3,h4],Bf⟩
  all_goals exact h.elim
 ·rename_i k a k' b
  simp only [VSim] at hx hy
  obtain⟨rfl,hwx⟩:=hx
  obtain⟨rfl,hwy⟩:=hy
  cases op <;> simp only [GD,Option.some.injEq] at h
  case shl=>obtain⟨hb,rfl⟩:=h; exact⟨_,by simp only [eqGuard_shl,binOp_shl,shift_shl_any _ _ _ _ hb]; rfl,Ba (DG _ _)⟩
  case shr=>obtain⟨hb,rfl⟩:=h; exact⟨_,by simp only [eqGuard_shr,binOp_shr,shift_shr_any _ _ _ _ hb]; rfl,Ba (VB hwx)⟩
  all_goals obtain⟨rfl,h⟩:=h
  case and=>subst h; exact⟨_,by simp only [eqGuard_and,binOp_and,intBits_and]; rfl,Ba (DG _ _)⟩
  case or=>subst h; exact⟨_,by simp only [eqGuard_or,binOp_or,intBits_or]; rfl,Ba (DG _ _)⟩
  case xor=>subst h; exact⟨_,by simp only [eqGuard_xor,binOp_xor,intBits_xor]; rfl,Ba (DG _ _)⟩
  case andNot=>subst h; exact⟨_,by simp only [eqGuard_andNot,binOp_andNot,intBits_andNot]; rfl,Ba (DG _ _)⟩
  case quo=>obtain⟨hb,rfl⟩:=h; exact⟨_,by simp [eqGuard,binOp,Op.intDiv,hb],Ba (DG _ _)⟩
  case rem=>obtain⟨hb,rfl⟩:=h; exact⟨_,by simp [eqGuard,binOp,Op.intDiv,hb],Ba (TH hwx)⟩
  case add=>subst h; exact⟨_,by simp [eqGuard,binOp,Op.intArith],Ba (DG _ _)⟩
  case sub=>subst h; exact⟨_,by simp [eqGuard,binOp,Op.intArith],Ba (DG _ _)⟩
  case mul=>subst h; exact⟨_,by simp [eqGuard,binOp,Op.intArith],Ba (DG _ _)⟩
  case eql=>subst h; exact⟨.bool (decide (a=b)),by simp [eqGuard,binOp,Op.intCmp,Bool.beq_eq_decide_eq],Bf⟩
  case neq=>subst h; exact⟨.bool (!decide (a=b)),by simp [eqGuard,binOp,Op.intCmp,bne,Bool.beq_eq_decide_eq],Bf⟩
  case lss=>subst h; exact⟨_,by simp [eqGuard,binOp,Op.intCmp],Bf⟩
  case leq=>subst h; exact⟨_,by simp [eqGuard,binOp,Op.intCmp],Bf⟩
  case gtr=>subst h; exact⟨_,by simp [eqGuard,binOp,Op.intCmp],Bf⟩
  case geq=>subst h; exact⟨_,by simp [eqGuard,binOp,Op.intCmp],Bf⟩
  all_goals cases h
 ·rename_i a b
  simp only [VSim] at hx hy
  subst hx hy
  split at h
  ·rename_i hu
   subst h
   exact⟨.bool (a == b),by
    have hu':cx.P.underlying t=some .bool :=by unfold ti at hu; split at hu <;> simp_all
    simp [eqGuard,binOp,JF hu'],Bf⟩
  ·rename_i hu
   subst h
   exact⟨.bool (!(a == b)),by
    have hu':cx.P.underlying t=some .bool :=by unfold ti at hu; split at hu <;> simp_all
    simp [eqGuard,binOp,JF hu'],Bf⟩
  ·exact h.elim
 ·rename_i a b
  simp only [VSim] at hx hy
  obtain⟨rfl,ha⟩:=hx
  obtain⟨rfl,hb⟩:=hy
  cases op <;> simp only at h
  case eql=>subst h; exact⟨_,by simp [eqGuard,binOp,Op.stringOp],Bf⟩
  case neq=>subst h; exact⟨_,by simp [eqGuard,binOp,Op.stringOp],Bf⟩
  case add=>
   obtain⟨hl,rfl⟩:=h
   refine⟨.string (a++b),?_,MI (by rw [ByteArray.size_append]; exact hl)⟩
   unfold maxLen at hl
   have:¬ (((a.size+b.size:Nat):Int) > IntKind.i64.max):=by simp only [IntKind.max,IntKind.signed,IntKind.bits]; omega
   simp only [eqGuard,binOp,Op.stringOp,if_neg this]
   rfl
  all_goals exact h.elim
 ·simp only [VSim] at hx hy
  subst hx hy
  split at h
  ·rename_i e hu
   subst h
   exact⟨.bool true,by
    have hu':cx.P.underlying t=some (.pointer e):=by unfold ti at hu; split at hu <;> simp_all
    simp [eqGuard,binOp,Fw hu',FK hu'],Bf⟩
  ·rename_i e hu
   subst h
   exact⟨.bool false,by
    have hu':cx.P.underlying t=some (.pointer e):=by unfold ti at hu; split at hu <;> simp_all
    simp [eqGuard,binOp,Fw hu',FK hu'],Bf⟩
  ·exact h.elim
 all_goals first
  |exact h.elim
  | (
   simp only [VSim] at hx hy
   obtain⟨p,hp⟩:∃p,(u= .pointer (some p)∧u'= .pointer none)∨(u= .pointer none∧u'= .pointer (some p)):=by
    first
     |exact⟨_,.inl ⟨hx.2,hy⟩⟩
     |exact⟨_,.inr ⟨hx,hy.2⟩⟩
     |(obtain⟨b,o,us,hx,-⟩:=hx; exact⟨_,.inl ⟨hx,hy⟩⟩)
     |(obtain⟨b,o,us,hy,-⟩:=hy; exact⟨_,.inr ⟨hx,hy⟩⟩)
   split at h
   ·rename_i e hu
    subst h
    have hu':cx.P.underlying t=some (.pointer e):=by unfold ti at hu; split at hu <;> simp_all
    refine⟨.bool false,?_,Bf⟩
    rcases hp with ⟨rfl,rfl⟩|⟨rfl,rfl⟩ <;> simp [eqGuard,binOp,Fw hu',FK hu']
   ·rename_i e hu
    subst h
    have hu':cx.P.underlying t=some (.pointer e):=by unfold ti at hu; split at hu <;> simp_all
    refine⟨.bool true,?_,Bf⟩
    rcases hp with ⟨rfl,rfl⟩|⟨rfl,rfl⟩ <;> simp [eqGuard,binOp,Fw hu',FK hu']
   ·exact h.elim)
theorem QQ {op} {x v} {u} (hx:VSim γ.vw γ x u) (h:Uno op x v):∃r,(Op.unary op u).run cx.P w= .ok r w∧VSim γ.vw γ v r:=by
 unfold Uno at h
 split at h
 ·simp only [VSim] at hx; subst hx h; exact⟨_,by simp [Op.unary],Bf⟩
 ·simp only [VSim] at hx; obtain⟨rfl,hw⟩:=hx; subst h; exact⟨_,by simp only [Op.unary,Op.intArith,Sem.run_pure],Ba (DG _ _)⟩
 ·simp only [VSim] at hx; obtain⟨rfl,hw⟩:=hx; subst h; exact⟨_,by simp only [Op.unary,intBits_xor,Sem.run_pure],Ba (DG _ _)⟩
 ·exact h.elim
theorem QR (hs:OSim cx γ T B w) {t} {x i v} {u u'} (hx:VSim γ.vw γ x u) (hi:VSim γ.vw γ i u') (h:Jp cx.P T t x i v):
  ∃r,(Instr.indexAt t u u').run cx.P w= .ok r w∧VSim γ.vw γ v r:=by
 unfold Jp at h
 split at h
 ·rename_i e rows k n hu
  obtain⟨hsz,row,⟨h0,hrow,hl⟩,rfl⟩:=h
  simp only [VSim] at hx hi
  obtain⟨rfl,-⟩:=hi
  have hlt:=AN hrow
  simp only [Rep] at hx
  obtain⟨ad,c,rfl,-,-,h3⟩:=hx
  rcases h3 with h3|⟨sz,b,off,rfl,hR⟩
  ·rw [h3] at hlt; simp at hlt
  ·have hn:n<rows.length:=by omega
   have hat:=hR.at _ hlt
   rw [List.getElem?_eq_getElem hlt] at hrow
   simp only [Option.some.injEq] at hrow
   rw [hrow] at hat
   have hsz':sz=tsz cx.P e:=by omega
   refine⟨.pointer (some ⟨b,off+n.toNat*tsz cx.P e,none⟩),?_,?_⟩
   ·simp [Instr.indexAt,run_underlying (ED hu),asIntOf,h0,hn,B2 hsz,Addr.add_lit]
   ·obtain⟨us,k1,k2⟩:=Ii (γ:=γ) hat.2
    simp only [VSim]
    exact⟨b,_,us,rfl,k1,by rw [← hsz']; exact k2⟩
 ·rename_i e t' k n hu
  obtain⟨hsz,tk,row,hT,⟨h0,hrow,hl⟩,rfl⟩:=h
  simp only [VSim] at hx hi
  obtain⟨rfl,-⟩:=hi
  obtain⟨⟨htl,-⟩,rfl⟩:=hx
  have hlt:=AN hrow
  have hown:=(hs.tok t' tk htl hT).own
  simp only [Own] at hown
  rcases hown with ⟨he,-,-⟩|⟨sz',g,o',c',e',cs,fps,hv,h1,h2,hb,h3,hr,-⟩
  ·rw [he] at hlt; simp at hlt
  ·have hn:n<tk.rows.length:=by omega
   refine⟨.pointer (some ⟨g,o'+n.toNat*tsz cx.P e,none⟩),?_,?_⟩
   ·rw [hv]
    simp [Instr.indexAt,run_underlying (ED hu),asIntOf,h0,hn,B2 hsz,Addr.add_lit]
   ·simp only [VSim]
    exact⟨htl,g,o',_,_,hv,rfl⟩
 ·rename_i e t' g p k n hu
  obtain⟨hsz,rows,row,hsub,⟨h0,hrow,hl⟩,rfl⟩:=h
  simp only [VSim] at hx hi
  obtain⟨rfl,-⟩:=hi
  obtain⟨⟨htl,hgl⟩,-,rfl⟩:=hx
  have hlt:=AN hrow
  obtain⟨tk,f1,f2,f3,-,-,-,-,-,hown,-⟩:=ER hs.see htl hsub
  simp only [Own] at hown
  rcases hown with ⟨he,-,-⟩|⟨sz',b,o',c',e',cs,fps,hv,h1,h2,hb,h3,hr,-⟩
  ·rw [he] at hlt; simp at hlt
  ·have hn:n<rows.length:=by omega
   refine⟨.pointer (some ⟨b,o'+n.toNat*tsz cx.P e,none⟩),?_,?_⟩
   ·rw [hv]
    simp [Instr.indexAt,run_underlying (ED hu),asIntOf,h0,hn,B2 hsz,Addr.add_lit]
   ·simp only [VSim]
    exact⟨⟨htl,hgl⟩,b,o',_,_,hv,rfl⟩
 ·exact h.elim
theorem Hn {P} {t k e} (h:ti P t= .map k e):P.underlying t=some (.map k e):=by
 unfold ti at h
 split at h <;> simp_all
theorem QS {a b} (h:Jm a=Jm b):a=b:=by
 unfold Jm at h
 simp only [Value.tuple.injEq] at h
 have h1:a.map (fun e=>Value.tuple #[e.1,e.2])=b.map fun e=>Value.tuple #[e.1,e.2] :=by simpa using h
 clear h
 induction a generalizing b with
 |nil=>cases b with
  |nil=>rfl
  |cons y b=>simp at h1
 | cons x a ih=>cases b with
  |nil=>simp at h1
  |cons y b=>
   simp only [List.map_cons,List.cons.injEq,Value.tuple.injEq,Array.mk.injEq,and_true] at h1
   rw [ih h1.2]
   congr 1
   exact Prod.ext h1.1.1 h1.1.2
theorem Av.length {q}:∀ {rows} {es},Av q rows es→es.length=rows.length
 | [],es,h=>by simp only [Av] at h; simp [h]
 |r::rs,es,h=>by
  simp only [Av] at h
  obtain⟨e,es',rfl,-,h⟩:=h
  simp [Av.length h]
theorem MJ (hs:OSim cx γ T B w) {b} {q} {rows} (hbl:γ.bl b) (hB:B b=some [.mpc q rows]):∃es k,w.heap[γ.bb b]? =some (.map es k)∧Av q rows (Ei es)∧rows.length≤68719476736:=by
 obtain⟨us,h1,h2⟩:=hs.box b _ hbl hB
 obtain⟨-,es,k,h3,h4⟩:=h2.map rfl
 simp only [AB,VSim] at h1
 obtain⟨u,us',rfl,⟨hle,es0,rfl,h5⟩,rfl⟩:=h1
 simp only [List.cons.injEq,and_true] at h4
 exact⟨es,k,h3,QS h4 ▸ h5,hle⟩
theorem Ho (n:Nat) (hn:n≤maxLen):(Lit.int .i64 (n:Int)).wf =true:=by
 unfold maxLen at hn
 simp [Lit.wf,IntKind.min,IntKind.max,IntKind.signed,IntKind.bits]; omega
theorem QT (hs:OSim cx γ T B w) {t ty} {x v} {u} (hx:VSim γ.vw γ x u) (h:He cx.P T B t x v):
  ∃r,(Builtin.len_ #[t] ty #[u]).run cx.P w= .ok r w∧VSim γ.vw γ v r:=by
 unfold He at h
 split at h
 ·rename_i s hu
  subst h
  simp only [VSim] at hx
  obtain⟨rfl,hs'⟩:=hx
  exact⟨_,by simp [Builtin.len_,run_underlying (MG hu)]; rfl,Ba (Ho _ hs')⟩
 ·rename_i rows hu
  subst h
  simp only [VSim,Rep] at hx
  obtain⟨ad,c,rfl,h1,h2,-⟩:=hx
  exact⟨_,by simp [Builtin.len_,run_underlying (ED hu)]; rfl,Ba (Ho _ (Nat.le_trans h1 h2))⟩
 ·rename_i hu
  subst h
  simp only [VSim] at hx
  subst hx
  exact⟨_,by simp [Builtin.len_,run_underlying (ED hu)]; rfl,Ba (Ho 0 (Nat.zero_le _))⟩
 ·rename_i hu
  subst h
  simp only [VSim] at hx
  obtain⟨-,hn,rfl⟩:=hx
  exact⟨_,by simp [Builtin.len_,run_underlying (ED hu)]; rfl,Ba (Ho _ hn)⟩
 ·rename_i t' hu
  obtain⟨tk,hT,rfl⟩:=h
  simp only [VSim] at hx
  obtain⟨⟨htl,-⟩,rfl⟩:=hx
  have hrep:=(hs.tok t' tk htl hT).rep hs.vw.k
  simp only [Rep] at hrep
  obtain⟨ad,c,hv,h1,h2,-⟩:=hrep
  exact⟨_,by rw [hv]; simp [Builtin.len_,run_underlying (ED hu)]; rfl,Ba (Ho _ (Nat.le_trans h1 h2))⟩
 ·rename_i t' g p hu
  obtain⟨rows,hsub,rfl⟩:=h
  simp only [VSim] at hx
  obtain⟨⟨htl,-⟩,-,rfl⟩:=hx
  obtain⟨tk,f1,f2,f3,-,-,-,-,-,hown,-⟩:=ER hs.see htl hsub
  have hrep:=hown.rep (Tok.vwk hs.vw.k)
  simp only [Rep] at hrep
  obtain⟨ad,c,hv,h1,h2,-⟩:=hrep
  exact⟨_,by rw [hv]; simp [Builtin.len_,run_underlying (ED hu)]; rfl,Ba (Ho _ (Nat.le_trans h1 h2))⟩
 ·rename_i kt et b hu
  obtain⟨q,rows,hB,rfl⟩:=h
  simp only [VSim] at hx
  obtain⟨hbl,rfl⟩:=hx
  obtain⟨es,k,h1,h2,h3⟩:=MJ hs hbl hB
  have hl:es.size=rows.length:=by have:=h2.length; simp [Ei] at this; omega
  exact⟨.int .i64 rows.length,by simp [Builtin.len_,run_underlying (Hn hu),MapKept.run_getObj_map h1,hl,goInt],Ba (Ho _ (by unfold maxLen; omega))⟩
 ·exact h.elim
end
end Go.Proofs.Ytgigfdghecdlgaa.Ab
