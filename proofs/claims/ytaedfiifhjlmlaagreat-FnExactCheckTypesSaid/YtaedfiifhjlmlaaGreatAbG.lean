/-
  The abstract walk, sixth part: one operation.
-/
import Derived.Test.YtaedfiifhjlmlaaGreatAbE
import Derived.DeepKeys
namespace Go.Proofs.YtaedfiifhjlmlaaGreat.Ab
set_option linter.unusedVariables false
set_option linter.unusedSimpArgs false
open Go.RowKit
theorem Cu {w0} {γ} {k} {n} (h:(Lit.int k n).wf =true):VSim w0 γ (.int k n) (.int k n):=by simp only [VSim,true_and]; exact h
theorem C1 {w0} {γ} {b}:VSim w0 γ (.bool b) (.bool b):=by simp only [VSim]
theorem SI {w0} {γ} {s} (h:s.size≤maxLen):VSim w0 γ (.str s) (.string s):=by simp only [VSim,true_and]; exact h
section
variable {P:Program} {w:World} {t:TypeId}
theorem Oc (hu:P.underlying t=some .bool) (a b:Bool):(Op.equal t (.bool a) (.bool b)).run P w= .ok (a == b) w:=by
 unfold Op.equal Op.maxDepth
 show (Op.equalIn (9999+1) t _ _).run P w=_
 rw [Op.equalIn]
 simp [run_underlying hu]
theorem Jl {e} (hu:P.underlying t=some (.pointer e)) (b:Option Addr):(Op.equal t (.pointer none) (.pointer b)).run P w= .ok b.isNone w:=by
 unfold Op.equal Op.maxDepth
 show (Op.equalIn (9999+1) t _ _).run P w=_
 rw [Op.equalIn]
 simp [run_underlying hu]
theorem Ig {e} (hu:P.underlying t=some (.pointer e)) (b:Addr):(Op.equal t (.pointer (some b)) (.pointer none)).run P w= .ok false w:=by
 unfold Op.equal Op.maxDepth
 show (Op.equalIn (9999+1) t _ _).run P w=_
 rw [Op.equalIn]
 simp [run_underlying hu]
end
def DL:List KK→List AV→Option (List Lit)
 | [],[] =>some []
 | .int k::ks,.int k1 a::xs=>if k1=k then (DL ks xs).map (.int k a:: ·) else none
 | .bool ::ks,.bool a::xs=>(DL ks xs).map (.bool a:: ·)
 | .str ::ks,.str s::xs=>(DL ks xs).map (.string s.data.toList:: ·)
 |_,_=>none
theorem YL:∀ (ks:List KK) (xs ys:List AV) (b:Bool),FJ ks xs ys=some b→∃as bs,DL ks xs=some as∧DL ks ys=some bs∧(b=true↔as=bs):=by
 intro ks xs ys
 induction ks generalizing xs ys with
 |nil=>
  intro b h
  cases xs <;> cases ys <;> simp only [FJ] at h <;> try (cases h; done)
  cases h
  exact⟨[],[],rfl,rfl,by simp⟩
 | cons k ks ih=>
  intro b h
  cases xs with
  |nil=>cases k <;> simp [FJ] at h
  | cons x xs=>
   cases ys with
   |nil=>cases k <;> cases x <;> simp [FJ] at h
   | cons y ys=>
    cases k <;> cases x <;> first|(cases y <;> simp only [FJ] at h <;> cases h; done)|skip
    ·rename_i k k1 a
     cases y <;> simp only [FJ] at h <;> try (cases h; done)
     rename_i k2 c
     split at h
     ·rename_i hk
      obtain⟨rfl,rfl⟩:=hk
      simp only [Option.map_eq_some_iff] at h
      obtain⟨b',h1,rfl⟩:=h
      obtain⟨as,bs,h2,h3,h4⟩:=ih xs ys b' h1
      exact⟨.int _ a::as,.int _ c::bs,by rw [DL,if_pos rfl,h2]; rfl,by rw [DL,if_pos rfl,h3]; rfl,by simp [h4]⟩
     ·cases h
    ·rename_i a
     cases y <;> simp only [FJ] at h <;> try (cases h; done)
     rename_i c
     simp only [Option.map_eq_some_iff] at h
     obtain⟨b',h1,rfl⟩:=h
     obtain⟨as,bs,h2,h3,h4⟩:=ih xs ys b' h1
     exact⟨.bool a::as,.bool c::bs,by rw [DL,h2]; rfl,by rw [DL,h3]; rfl,by simp [h4]⟩
    ·rename_i a
     cases y <;> simp only [FJ] at h <;> try (cases h; done)
     rename_i c
     simp only [Option.map_eq_some_iff] at h
     obtain⟨b',h1,rfl⟩:=h
     obtain⟨as,bs,h2,h3,h4⟩:=ih xs ys b' h1
     refine⟨.string a.data.toList::as,.string c.data.toList::bs,by rw [DL,h2]; rfl,by rw [DL,h3]; rfl,?_⟩
     simp [h4,ByteArray.toList_eq,Array.ext_iff]
theorem LP:∀ {k1 k2} {xs} {l},DL (k1++k2) xs=some l→∃l1 l2,DL k1 (xs.take k1.length)=some l1∧DL k2 (xs.drop k1.length)=some l2∧l=l1++l2
 | [],k2,xs,l,h=>⟨[],l,by simp [DL],by simpa using h,rfl⟩
 |k::k1,k2,[],l,h=>by cases k <;> simp [DL] at h
 | k::k1,k2,x::xs,l,h=>by
  cases k <;> cases x <;> simp only [List.cons_append,DL] at h <;> try (cases h; done)
  ·split at h
   ·rename_i hk
    simp only [Option.map_eq_some_iff] at h
    obtain⟨l',h1,rfl⟩:=h
    obtain⟨l1,l2,h2,h3,rfl⟩:=LP h1
    exact⟨_::l1,l2,by simp [DL,hk,h2],by simpa using h3,rfl⟩
   ·cases h
  ·simp only [Option.map_eq_some_iff] at h
   obtain⟨l',h1,rfl⟩:=h
   obtain⟨l1,l2,h2,h3,rfl⟩:=LP h1
   exact⟨_::l1,l2,by simp [DL,h2],by simpa using h3,rfl⟩
  ·simp only [Option.map_eq_some_iff] at h
   obtain⟨l',h1,rfl⟩:=h
   obtain⟨l1,l2,h2,h3,rfl⟩:=LP h1
   exact⟨_::l1,l2,by simp [DL,h2],by simpa using h3,rfl⟩
theorem Hi:∀ {ks} {xs} {l},DL ks xs=some l→xs.length=ks.length
 | [],[],_,_=>rfl
 | [],_::_,_,h=>by simp [DL] at h
 |k::_,[],_,h=>by cases k <;> simp [DL] at h
 | k::ks,x::xs,l,h=>by
  cases k <;> cases x <;> simp only [DL] at h <;> try (cases h; done)
  ·split at h
   ·simp only [Option.map_eq_some_iff] at h
    obtain⟨l',h1,rfl⟩:=h
    simp [Hi h1]
   ·cases h
  ·simp only [Option.map_eq_some_iff] at h
   obtain⟨l',h1,rfl⟩:=h
   simp [Hi h1]
  ·simp only [Option.map_eq_some_iff] at h
   obtain⟨l',h1,rfl⟩:=h
   simp [Hi h1]
theorem LQ {w0} {γ}:∀ {xs} {us},AI w0 γ xs us→us.length=xs.length
 | [],us,h=>by simp only [AI] at h; subst h; rfl
 |x::xs,us,h=>by
  simp only [AI] at h
  obtain⟨u,us',rfl,-,h⟩:=h
  simp [LQ h]
theorem Pl {w0} {γ}:∀ (n:Nat) {xs} {us},AI w0 γ xs us→AI w0 γ (xs.take n) (us.take n)∧AI w0 γ (xs.drop n) (us.drop n)
 |0,xs,us,h=>by simp [AI,h]
 |n+1,[],us,h=>by simp only [AI] at h; subst h; simp [AI]
 |n+1,x::xs,us,h=>by
  simp only [AI] at h
  obtain⟨u,us',rfl,h1,h2⟩:=h
  obtain⟨h3,h4⟩:=Pl n h2
  exact⟨by simp only [List.take_succ_cons,AI]; exact⟨u,_,rfl,h1,h3⟩,by simpa using h4⟩
theorem ML {P} {d} {t} {ks} (h:Ir P d t=some ks):ks.length=P.cellsOf t:=by
 cases d with
 |zero=>simp [Ir] at h
 | succ d=>
  rw [Ir] at h
  split at h
  ·split at h
   ·rename_i hc; cases h; exact hc.symm
   ·cases h
  ·cases h
theorem Pm {P} {w0} {γ} {D} (IH:∀t ks xs us la,Ir P D t=some ks→DL ks xs=some la→AI w0 γ xs us→P.keyLits D t us=some la) (cs:List Value):
  ∀ (fs:List Field) (i:Nat) (ks:List KK) (xs:List AV) (us:List Value) (la:List Lit),Mp P (Ir P D) i fs=some ks→DL ks xs=some la→AI w0 γ xs us→cs.drop i=us→
  ∃ls,fs.mapM (fun f=>P.keyLits D f.type ((cs.drop f.offset).take (P.cellsOf f.type)))=some ls∧ls.flatten=la
 | [],i,ks,xs,us,la,h,h1,h2,h3=>by
  simp only [Mp,Option.some.injEq] at h
  subst h
  cases xs <;> simp [DL] at h1
  subst h1
  exact⟨[],rfl,rfl⟩
 | f::fs,i,ks,xs,us,la,h,h1,h2,h3=>by
  rw [Mp] at h
  split at h
  ·rename_i hf
   split at h
   ·rename_i a b ha hb
    cases h
    obtain⟨l1,l2,h4,h5,rfl⟩:=LP h1
    obtain⟨v1,v2⟩:=Pl a.length h2
    have hl:=ML ha
    have k1:=IH _ _ _ _ _ ha h4 v1
    obtain⟨ls,hl1,hl2⟩:=Pm IH cs fs (i+P.cellsOf f.type) b _ _ l2 hb h5 v2 (by rw [← hl,← List.drop_drop,h3])
    refine⟨l1::ls,?_,by simp [hl2]⟩
    rw [List.mapM_cons,hl1,hf,h3,← hl,k1]
    rfl
   ·cases h
  ·cases h
theorem Pn {P} {w0} {γ}:∀ (D:Nat) (t:TypeId) (ks:List KK) (xs:List AV) (us:List Value) (la:List Lit),Ir P D t=some ks→DL ks xs=some la→AI w0 γ xs us→P.keyLits D t us=some la
 |0,_,_,_,_,_,h,_,_=>by simp [Ir] at h
 | D + 1,t,ks,xs,us,la,h,h1,h2=>by
  have hlen:=ML h
  have hxl:=Hi h1
  have hul:=LQ h2
  rw [Ir] at h
  split at h
  ·rename_i ks' hks
   split at h
   ·cases h
    split at hks
    ·rename_i hu
     cases hks
     match xs,us,h1,h2 with
     | [.bool b],us,h1,h2=>
      simp only [AI,VSim] at h2
      obtain⟨u,us',rfl,rfl,rfl⟩:=h2
      simp [DL] at h1
      subst h1
      simp [Program.keyLits,hu]
    ·rename_i k hu
     cases hks
     match xs,us,h1,h2 with
     | [.int k1 n],us,h1,h2=>
      simp only [AI,VSim] at h2
      obtain⟨u,us',rfl,⟨rfl,hwf⟩,rfl⟩:=h2
      simp only [DL] at h1
      split at h1
      ·rename_i hk
       subst hk
       simp at h1
       subst h1
       simp [Program.keyLits,hu,hwf]
      ·cases h1
    ·rename_i hu
     cases hks
     match xs,us,h1,h2 with
     | [.str s],us,h1,h2=>
      simp only [AI,VSim] at h2
      obtain⟨u,us',rfl,⟨rfl,hwf⟩,rfl⟩:=h2
      simp [DL] at h1
      subst h1
      simp [Program.keyLits,hu,hwf]
    ·rename_i fs hu
     split at hks
     ·rename_i hn
      obtain⟨ls,hl1,hl2⟩:=Pm (D:=D) (fun t ks xs us la=>Pn D t ks xs us la) us fs.toList 0 ks xs us la hks h1 h2 (by simp)
      unfold Program.keyLits
      simp only [hu]
      rw [if_pos ⟨by omega,hn⟩,hl1,Option.map_some,hl2]
     ·cases hks
    ·cases hks
   ·cases h
  ·cases h
theorem Q6 {P} {w w0} {γ} {t} {ks} {xs ys} {us vs} {b} (ht:PV P t=some ks) (hb:FJ ks xs ys=some b) (hx:AI w0 γ xs us) (hy:AI w0 γ ys vs):
  (Op.equal t (.agg us.toArray) (.agg vs.toArray)).run P w= .ok b w∧P.eqGuardType P.depth t=false:=by
 unfold PV at ht
 split at ht
 ·rename_i fs hu
  split at ht
  ·rename_i hc
   obtain⟨hc2,hc3⟩:=hc
   obtain⟨as,bs,ha,hb',hiff⟩:=YL _ _ _ _ hb
   have hlen:=ML ht
   have ka:=Pn 4 t ks xs us as ht ha hx
   have kb:=Pn 4 t ks ys vs bs ht hb' hy
   have lu:us.length=P.cellsOf t:=by rw [LQ hx,Hi ha,hlen]
   have lv:vs.length=P.cellsOf t:=by rw [LQ hy,Hi hb',hlen]
   obtain⟨r,hr,hri⟩:=run_equalIn_deep 9996 4 t hc2 w 4 4 (.agg us.toArray) (.agg vs.toArray) _ _ (by simp [Value.formed,hu,lu]) (by simp [Value.formed,hu,lv]) (by simpa [Value.cells] using ka) (by simpa [Value.cells] using kb)
   refine⟨?_,hc3⟩
   have:r=b:=by
    rw [Bool.eq_iff_iff,hri,hiff]
   rw [← this]
   unfold Op.equal Op.maxDepth
   exact hr
  ·cases ht
 ·cases ht
def EvK (cx:Cx) (γ:Gh) (T:Nat→Option Tok) (B:Nat→Option (List AV)) (o:Oper) (a:Act) (next:Act→World→Prop) (r:Res):Prop:=
 ∀v w' γ',Gh.Ext γ γ'→(∀t,γ'.tl t→γ.tl t∨∃x ∈ r.t,x.1 =t)→(∀b,γ'.bl b→γ.bl b∨∃x ∈ r.b,x.1 =b)→OSim cx γ' T B w'→VSim γ'.vw γ' r.v v→next (a.put o.dst v) w'
section
variable {cx:Cx} {γ:Gh} {T:Nat→Option Tok} {B:Nat→Option (List AV)} {w:World} {o:Oper} {a:Act} {next:Act→World→Prop} {Q:Exit→Act→World→Prop}
theorem Ax (hs:OSim cx γ T B w) {av} {v} (hr:(execOp a.eval o).run cx.P w= .ok (.value v) w) (hv:VSim γ.vw γ av v) (hk:EvK cx γ T B o a next ⟨av,[],[]⟩):o.wp cx.P a w next Q:=
 Jk hr (hk v w γ (Gh.Ext.refl γ) (fun t h=>.inl h) (fun b h=>.inl h) hs hv)
theorem RY {op} {t} {x y v} {u u'} {ox oy} (hx:VSim γ.vw γ x u) (hy:VSim γ.vw γ y u') (h:Bin cx.P op t x y v):
  ∃r,(do eqGuard op t ox oy u u'; binOp op t u u':Sem Value).run cx.P w= .ok r w∧VSim γ.vw γ v r:=by
 unfold Bin at h
 split at h
 ·simp only [VSim] at hx hy
  obtain⟨us,rfl,hx⟩:=hx
  obtain⟨vs,rfl,hy⟩:=hy
  obtain⟨ks,b,h1,h2,h⟩:=h
  obtain⟨h3,h4⟩:=Q6 (w:=w) h1 h2 hx hy
  cases op <;> simp only at h
  case eql=>subst h; exact⟨.bool b,by simp [eqGuard,binOp,h3,h4],C1⟩
  case neq=>subst h; exact⟨.bool !b,by simp [eqGuard,binOp,h3,h4],C1⟩
  all_goals exact h.elim
 ·rename_i k a k' b
  simp only [VSim] at hx hy
  obtain⟨rfl,hwx⟩:=hx
  obtain⟨rfl,hwy⟩:=hy
  cases op <;> simp only [KX,Option.some.injEq] at h
  case shl=>obtain⟨hb,rfl⟩:=h; exact⟨_,by simp only [eqGuard_shl,binOp_shl,shift_shl_any _ _ _ _ hb]; rfl,Cu (Fo _ _)⟩
  case shr=>obtain⟨hb,rfl⟩:=h; exact⟨_,by simp only [eqGuard_shr,binOp_shr,shift_shr_any _ _ _ _ hb]; rfl,Cu (bz hwx)⟩
  all_goals obtain⟨rfl,h⟩:=h
  case and=>subst h; exact⟨_,by simp only [eqGuard_and,binOp_and,intBits_and]; rfl,Cu (Fo _ _)⟩
  case or=>subst h; exact⟨_,by simp only [eqGuard_or,binOp_or,intBits_or]; rfl,Cu (Fo _ _)⟩
  case xor=>subst h; exact⟨_,by simp only [eqGuard_xor,binOp_xor,intBits_xor]; rfl,Cu (Fo _ _)⟩
  case andNot=>subst h; exact⟨_,by simp only [eqGuard_andNot,binOp_andNot,intBits_andNot]; rfl,Cu (Fo _ _)⟩
  case quo=>obtain⟨hb,rfl⟩:=h; exact⟨_,by simp [eqGuard,binOp,Op.intDiv,hb],Cu (Fo _ _)⟩
  case rem=>obtain⟨hb,rfl⟩:=h; exact⟨_,by simp [eqGuard,binOp,Op.intDiv,hb],Cu (Zk hwx)⟩
  case add=>subst h; exact⟨_,by simp [eqGuard,binOp,Op.intArith],Cu (Fo _ _)⟩
  case sub=>subst h; exact⟨_,by simp [eqGuard,binOp,Op.intArith],Cu (Fo _ _)⟩
  case mul=>subst h; exact⟨_,by simp [eqGuard,binOp,Op.intArith],Cu (Fo _ _)⟩
  case eql=>subst h; exact⟨.bool (decide (a=b)),by simp [eqGuard,binOp,Op.intCmp,Bool.beq_eq_decide_eq],C1⟩
  case neq=>subst h; exact⟨.bool (!decide (a=b)),by simp [eqGuard,binOp,Op.intCmp,bne,Bool.beq_eq_decide_eq],C1⟩
  case lss=>subst h; exact⟨_,by simp [eqGuard,binOp,Op.intCmp],C1⟩
  case leq=>subst h; exact⟨_,by simp [eqGuard,binOp,Op.intCmp],C1⟩
  case gtr=>subst h; exact⟨_,by simp [eqGuard,binOp,Op.intCmp],C1⟩
  case geq=>subst h; exact⟨_,by simp [eqGuard,binOp,Op.intCmp],C1⟩
  all_goals cases h
 ·rename_i a b
  simp only [VSim] at hx hy
  subst hx hy
  split at h
  ·rename_i hu
   subst h
   exact⟨.bool (a == b),by
    have hu':cx.P.underlying t=some .bool :=by unfold ti at hu; split at hu <;> simp_all
    simp [eqGuard,binOp,Oc hu'],C1⟩
  ·rename_i hu
   subst h
   exact⟨.bool (!(a == b)),by
    have hu':cx.P.underlying t=some .bool :=by unfold ti at hu; split at hu <;> simp_all
    simp [eqGuard,binOp,Oc hu'],C1⟩
  ·exact h.elim
 ·rename_i a b
  simp only [VSim] at hx hy
  obtain⟨rfl,ha⟩:=hx
  obtain⟨rfl,hb⟩:=hy
  cases op <;> simp only at h
  case eql=>subst h; exact⟨_,by simp [eqGuard,binOp,Op.stringOp],C1⟩
  case neq=>subst h; exact⟨_,by simp [eqGuard,binOp,Op.stringOp],C1⟩
  case add=>
   obtain⟨hl,rfl⟩:=h
   refine⟨.string (a++b),?_,SI (by rw [ByteArray.size_append]; exact hl)⟩
   unfold maxLen at hl
   have:¬ (((a.size+b.size:Nat):Int) > IntKind.i64.max):=by simp only [IntKind.max,IntKind.signed,IntKind.bits]; omega
   simp only [eqGuard,binOp,Op.stringOp,if_neg this]
   rfl
  all_goals exact h.elim
 ·simp only [VSim] at hx hy
  subst hx hy
  split at h
  ·rename_i e hu
   subst h
   exact⟨.bool true,by
    have hu':cx.P.underlying t=some (.pointer e):=by unfold ti at hu; split at hu <;> simp_all
    simp [eqGuard,binOp,Jl hu',Ig hu'],C1⟩
  ·rename_i e hu
   subst h
   exact⟨.bool false,by
    have hu':cx.P.underlying t=some (.pointer e):=by unfold ti at hu; split at hu <;> simp_all
    simp [eqGuard,binOp,Jl hu',Ig hu'],C1⟩
  ·exact h.elim
 all_goals first
  |exact h.elim
  | (
   simp only [VSim] at hx hy
   obtain⟨p,hp⟩:∃p,(u= .pointer (some p)∧u'= .pointer none)∨(u= .pointer none∧u'= .pointer (some p)):=by
    first
     |exact⟨_,.inl ⟨hx.2,hy⟩⟩
     |exact⟨_,.inr ⟨hx,hy.2⟩⟩
     |(obtain⟨b,o,us,hx,-⟩:=hx; exact⟨_,.inl ⟨hx,hy⟩⟩)
     |(obtain⟨b,o,us,hy,-⟩:=hy; exact⟨_,.inr ⟨hx,hy⟩⟩)
   split at h
   ·rename_i e hu
    subst h
    have hu':cx.P.underlying t=some (.pointer e):=by unfold ti at hu; split at hu <;> simp_all
    refine⟨.bool false,?_,C1⟩
    rcases hp with ⟨rfl,rfl⟩|⟨rfl,rfl⟩ <;> simp [eqGuard,binOp,Jl hu',Ig hu']
   ·rename_i e hu
    subst h
    have hu':cx.P.underlying t=some (.pointer e):=by unfold ti at hu; split at hu <;> simp_all
    refine⟨.bool true,?_,C1⟩
    rcases hp with ⟨rfl,rfl⟩|⟨rfl,rfl⟩ <;> simp [eqGuard,binOp,Jl hu',Ig hu']
   ·exact h.elim)
theorem Wv {op} {x v} {u} (hx:VSim γ.vw γ x u) (h:Uno op x v):∃r,(Op.unary op u).run cx.P w= .ok r w∧VSim γ.vw γ v r:=by
 unfold Uno at h
 split at h
 ·simp only [VSim] at hx; subst hx h; exact⟨_,by simp [Op.unary],C1⟩
 ·simp only [VSim] at hx; obtain⟨rfl,hw⟩:=hx; subst h; exact⟨_,by simp only [Op.unary,Op.intArith,Sem.run_pure],Cu (Fo _ _)⟩
 ·simp only [VSim] at hx; obtain⟨rfl,hw⟩:=hx; subst h; exact⟨_,by simp only [Op.unary,intBits_xor,Sem.run_pure],Cu (Fo _ _)⟩
 ·exact h.elim
theorem Ww (hs:OSim cx γ T B w) {t} {x i v} {u u'} (hx:VSim γ.vw γ x u) (hi:VSim γ.vw γ i u') (h:Q4 cx.P T t x i v):
  ∃r,(Instr.indexAt t u u').run cx.P w= .ok r w∧VSim γ.vw γ v r:=by
 unfold Q4 at h
 split at h
 ·rename_i e rows k n hu
  obtain⟨hsz,row,⟨h0,hrow,hl⟩,rfl⟩:=h
  simp only [VSim] at hx hi
  obtain⟨rfl,-⟩:=hi
  have hlt:=Af hrow
  simp only [Rep] at hx
  obtain⟨ad,c,rfl,-,-,h3⟩:=hx
  rcases h3 with h3|⟨sz,b,off,rfl,hR⟩
  ·rw [h3] at hlt; simp at hlt
  ·have hn:n<rows.length:=by omega
   have hat:=hR.at _ hlt
   rw [List.getElem?_eq_getElem hlt] at hrow
   simp only [Option.some.injEq] at hrow
   rw [hrow] at hat
   have hsz':sz=tsz cx.P e:=by omega
   refine⟨.pointer (some ⟨b,off+n.toNat*tsz cx.P e,none⟩),?_,?_⟩
   ·simp [Instr.indexAt,run_underlying (Gs hu),asIntOf,h0,hn,DY hsz,Addr.add_lit]
   ·obtain⟨us,k1,k2⟩:=Nv (γ:=γ) hat.2
    simp only [VSim]
    exact⟨b,_,us,rfl,k1,by rw [← hsz']; exact k2⟩
 ·rename_i e t' k n hu
  obtain⟨hsz,tk,row,hT,⟨h0,hrow,hl⟩,rfl⟩:=h
  simp only [VSim] at hx hi
  obtain⟨rfl,-⟩:=hi
  obtain⟨⟨htl,-⟩,rfl⟩:=hx
  have hlt:=Af hrow
  have hown:=(hs.tok t' tk htl hT).own
  simp only [Own] at hown
  rcases hown with ⟨he,-,-⟩|⟨sz',g,o',c',e',cs,fps,hv,h1,h2,hb,h3,hr,-⟩
  ·rw [he] at hlt; simp at hlt
  ·have hn:n<tk.rows.length:=by omega
   refine⟨.pointer (some ⟨g,o'+n.toNat*tsz cx.P e,none⟩),?_,?_⟩
   ·rw [hv]
    simp [Instr.indexAt,run_underlying (Gs hu),asIntOf,h0,hn,DY hsz,Addr.add_lit]
   ·simp only [VSim]
    exact⟨htl,g,o',_,_,hv,rfl⟩
 ·rename_i e t' g p k n hu
  obtain⟨hsz,rows,row,hsub,⟨h0,hrow,hl⟩,rfl⟩:=h
  simp only [VSim] at hx hi
  obtain⟨rfl,-⟩:=hi
  obtain⟨⟨htl,hgl⟩,-,rfl⟩:=hx
  have hlt:=Af hrow
  obtain⟨tk,f1,f2,f3,-,-,-,-,-,hown,-⟩:=HT hs.see htl hsub
  simp only [Own] at hown
  rcases hown with ⟨he,-,-⟩|⟨sz',b,o',c',e',cs,fps,hv,h1,h2,hb,h3,hr,-⟩
  ·rw [he] at hlt; simp at hlt
  ·have hn:n<rows.length:=by omega
   refine⟨.pointer (some ⟨b,o'+n.toNat*tsz cx.P e,none⟩),?_,?_⟩
   ·rw [hv]
    simp [Instr.indexAt,run_underlying (Gs hu),asIntOf,h0,hn,DY hsz,Addr.add_lit]
   ·simp only [VSim]
    exact⟨⟨htl,hgl⟩,b,o',_,_,hv,rfl⟩
 ·exact h.elim
theorem MM {P} {t k e} (h:ti P t= .map k e):P.underlying t=some (.map k e):=by
 unfold ti at h
 split at h <;> simp_all
theorem Wx {a b} (h:PT a=PT b):a=b:=by
 unfold PT at h
 simp only [Value.tuple.injEq] at h
 have h1:a.map (fun e=>Value.tuple #[e.1,e.2])=b.map fun e=>Value.tuple #[e.1,e.2] :=by simpa using h
 clear h
 induction a generalizing b with
 |nil=>cases b with
  |nil=>rfl
  |cons y b=>simp at h1
 | cons x a ih=>cases b with
  |nil=>simp at h1
  |cons y b=>
   simp only [List.map_cons,List.cons.injEq,Value.tuple.injEq,Array.mk.injEq,and_true] at h1
   rw [ih h1.2]
   congr 1
   exact Prod.ext h1.1.1 h1.1.2
theorem Bk.length {q}:∀ {rows} {es},Bk q rows es→es.length=rows.length
 | [],es,h=>by simp only [Bk] at h; simp [h]
 |r::rs,es,h=>by
  simp only [Bk] at h
  obtain⟨e,es',rfl,-,h⟩:=h
  simp [Bk.length h]
theorem SJ (hs:OSim cx γ T B w) {b} {q} {rows} (hbl:γ.bl b) (hB:B b=some [.mpc q rows]):∃es k,w.heap[γ.bb b]? =some (.map es k)∧Bk q rows (Hw es)∧rows.length≤68719476736:=by
 obtain⟨us,h1,h2⟩:=hs.box b _ hbl hB
 obtain⟨-,es,k,h3,h4⟩:=h2.map rfl
 simp only [AI,VSim] at h1
 obtain⟨u,us',rfl,⟨hle,es0,rfl,h5⟩,rfl⟩:=h1
 simp only [List.cons.injEq,and_true] at h4
 exact⟨es,k,h3,Wx h4 ▸ h5,hle⟩
theorem MN (n:Nat) (hn:n≤maxLen):(Lit.int .i64 (n:Int)).wf =true:=by
 unfold maxLen at hn
 simp [Lit.wf,IntKind.min,IntKind.max,IntKind.signed,IntKind.bits]; omega
theorem Wy (hs:OSim cx γ T B w) {t ty} {x v} {u} (hx:VSim γ.vw γ x u) (h:PW cx.P T B t x v):
  ∃r,(Builtin.len_ #[t] ty #[u]).run cx.P w= .ok r w∧VSim γ.vw γ v r:=by
 unfold PW at h
 split at h
 ·rename_i s hu
  subst h
  simp only [VSim] at hx
  obtain⟨rfl,hs'⟩:=hx
  exact⟨_,by simp [Builtin.len_,run_underlying (SG hu)]; rfl,Cu (MN _ hs')⟩
 ·rename_i rows hu
  subst h
  simp only [VSim,Rep] at hx
  obtain⟨ad,c,rfl,h1,h2,-⟩:=hx
  exact⟨_,by simp [Builtin.len_,run_underlying (Gs hu)]; rfl,Cu (MN _ (Nat.le_trans h1 h2))⟩
 ·rename_i hu
  subst h
  simp only [VSim] at hx
  subst hx
  exact⟨_,by simp [Builtin.len_,run_underlying (Gs hu)]; rfl,Cu (MN 0 (Nat.zero_le _))⟩
 ·rename_i hu
  subst h
  simp only [VSim] at hx
  obtain⟨-,hn,rfl⟩:=hx
  exact⟨_,by simp [Builtin.len_,run_underlying (Gs hu)]; rfl,Cu (MN _ hn)⟩
 ·rename_i t' hu
  obtain⟨tk,hT,rfl⟩:=h
  simp only [VSim] at hx
  obtain⟨⟨htl,-⟩,rfl⟩:=hx
  have hrep:=(hs.tok t' tk htl hT).rep hs.vw.k
  simp only [Rep] at hrep
  obtain⟨ad,c,hv,h1,h2,-⟩:=hrep
  exact⟨_,by rw [hv]; simp [Builtin.len_,run_underlying (Gs hu)]; rfl,Cu (MN _ (Nat.le_trans h1 h2))⟩
 ·rename_i t' g p hu
  obtain⟨rows,hsub,rfl⟩:=h
  simp only [VSim] at hx
  obtain⟨⟨htl,-⟩,-,rfl⟩:=hx
  obtain⟨tk,f1,f2,f3,-,-,-,-,-,hown,-⟩:=HT hs.see htl hsub
  have hrep:=hown.rep (Tok.vwk hs.vw.k)
  simp only [Rep] at hrep
  obtain⟨ad,c,hv,h1,h2,-⟩:=hrep
  exact⟨_,by rw [hv]; simp [Builtin.len_,run_underlying (Gs hu)]; rfl,Cu (MN _ (Nat.le_trans h1 h2))⟩
 ·rename_i kt et b hu
  obtain⟨q,rows,hB,rfl⟩:=h
  simp only [VSim] at hx
  obtain⟨hbl,rfl⟩:=hx
  obtain⟨es,k,h1,h2,h3⟩:=SJ hs hbl hB
  have hl:es.size=rows.length:=by have:=h2.length; simp [Hw] at this; omega
  exact⟨.int .i64 rows.length,by simp [Builtin.len_,run_underlying (MM hu),MapKept.run_getObj_map h1,hl,goInt],Cu (MN _ (by unfold maxLen; omega))⟩
 ·exact h.elim
end
end Go.Proofs.YtaedfiifhjlmlaaGreat.Ab
namespace Go.Proofs.YtaedfiifhjlmlaaGreat.Ab
set_option linter.unusedVariables false
set_option linter.unusedSimpArgs false
open Go.RowKit
theorem Eb {w0} {γ} {a} {u} {vs} (ha:VSim w0 γ a u) (h:cellsOf a=some vs):AI w0 γ vs u.cells.toList:=by
 cases a with
 |any=>simp [cellsOf] at h
 |tup vs=>simp [cellsOf] at h
 | agg vs'=>
  simp only [cellsOf] at h
  split at h
  ·simp only [Option.some.injEq] at h; subst h
   simp only [VSim] at ha
   obtain⟨us,rfl,h1⟩:=ha
   simpa [Value.cells] using h1
  ·cases h
 |mpc q rows=>simp [cellsOf] at h
 |mpr b=>simp only [cellsOf,Option.some.injEq] at h; subst h; have h2:=ha; simp only [VSim] at ha; obtain⟨-,rfl⟩:=ha; simp only [AI,Value.cells]; exact⟨_,_,rfl,h2,rfl⟩
 |int k n=>simp only [cellsOf,Option.some.injEq] at h; subst h; have h2:=ha; simp only [VSim] at ha; obtain⟨rfl,-⟩:=ha; simp only [AI,Value.cells]; exact⟨_,_,rfl,h2,rfl⟩
 |bool b=>simp only [cellsOf,Option.some.injEq] at h; subst h; have h2:=ha; simp only [VSim] at ha; subst ha; simp only [AI,Value.cells]; exact⟨_,_,rfl,h2,rfl⟩
 |str s=>simp only [cellsOf,Option.some.injEq] at h; subst h; have h2:=ha; simp only [VSim] at ha; obtain⟨rfl,-⟩:=ha; simp only [AI,Value.cells]; exact⟨_,_,rfl,h2,rfl⟩
 |nilp=>simp only [cellsOf,Option.some.injEq] at h; subst h; have h2:=ha; simp only [VSim] at ha; subst ha; simp only [AI,Value.cells]; exact⟨_,_,rfl,h2,rfl⟩
 |nils=>simp only [cellsOf,Option.some.injEq] at h; subst h; have h2:=ha; simp only [VSim] at ha; subst ha; simp only [AI,Value.cells]; exact⟨_,_,rfl,h2,rfl⟩
 |box b off=>simp only [cellsOf,Option.some.injEq] at h; subst h; have h2:=ha; simp only [VSim] at ha; obtain⟨-,rfl⟩:=ha; simp only [AI,Value.cells]; exact⟨_,_,rfl,h2,rfl⟩
 |bsl b n sz=>simp only [cellsOf,Option.some.injEq] at h; subst h; have h2:=ha; simp only [VSim] at ha; obtain⟨-,-,rfl⟩:=ha; simp only [AI,Value.cells]; exact⟨_,_,rfl,h2,rfl⟩
 |ro rows=>simp only [cellsOf,Option.some.injEq] at h; subst h; have h2:=ha; simp only [VSim,Rep] at ha; obtain⟨_,_,rfl,-⟩:=ha; simp only [AI,Value.cells]; exact⟨_,_,rfl,h2,rfl⟩
 |rop ds off=>simp only [cellsOf,Option.some.injEq] at h; subst h; have h2:=ha; simp only [VSim] at ha; obtain⟨_,_,_,rfl,-⟩:=ha; simp only [AI,Value.cells]; exact⟨_,_,rfl,h2,rfl⟩
 |elt t sz i off=>simp only [cellsOf,Option.some.injEq] at h; subst h; have h2:=ha; simp only [VSim] at ha; obtain⟨-,_,_,_,_,-,rfl⟩:=ha; simp only [AI,Value.cells]; exact⟨_,_,rfl,h2,rfl⟩
 |par t sz i n=>simp only [cellsOf,Option.some.injEq] at h; subst h; have h2:=ha; simp only [VSim] at ha; obtain⟨-,_,_,_,-,rfl⟩:=ha; simp only [AI,Value.cells]; exact⟨_,_,rfl,h2,rfl⟩
 |els t g p sz i off=>simp only [cellsOf,Option.some.injEq] at h; subst h; have h2:=ha; simp only [VSim] at ha; obtain⟨-,_,_,_,_,-,rfl⟩:=ha; simp only [AI,Value.cells]; exact⟨_,_,rfl,h2,rfl⟩
 |sub t g p=>simp only [cellsOf,Option.some.injEq] at h; subst h; have h2:=ha; simp only [VSim] at ha; obtain⟨-,⟨_,_,_,he⟩,hu⟩:=ha; rw [hu,he]; simp only [AI,Value.cells]; exact⟨_,_,rfl,by rw [← he,← hu]; exact h2,rfl⟩
 |fn f caps=>simp only [cellsOf,Option.some.injEq] at h; subst h; have h2:=ha; simp only [VSim] at ha; obtain⟨_,hf,-⟩:=ha; rcases hf with ⟨-,rfl⟩|⟨_,_,-,rfl⟩ <;> (simp only [AI,Value.cells]; exact⟨_,_,rfl,h2,rfl⟩)
 |own t=>simp only [cellsOf,Option.some.injEq] at h; subst h; have h2:=ha; simp only [VSim] at ha; obtain⟨⟨-,_,_,_,he⟩,hu⟩:=ha; rw [hu,he]; simp only [AI,Value.cells]; exact⟨_,_,rfl,by rw [← he,← hu]; exact h2,rfl⟩
theorem Po {a} {vs} (h:cellsOf a=some vs):Nr vs=true:=by
 cases a with
 |agg vs'=>
  simp only [cellsOf] at h
  split at h
  ·rename_i h0; cases h; exact h0
  ·cases h
 |any=>simp [cellsOf] at h
 |tup vs=>simp [cellsOf] at h
 |mpc q rows=>simp [cellsOf] at h
 |_=>simp only [cellsOf,Option.some.injEq] at h; subst h; rfl
theorem YM {a b}:Nr (a++b)=(Nr a&&Nr b):=by simp [Nr]
theorem I6 {w0} {γ} (u:Value):VSim w0 γ (zAV u) u:=by
 unfold zAV
 split
 ·rename_i k n
  split
  ·rename_i h; subst h; exact Cu (by cases k <;> simp [Lit.wf,IntKind.min,IntKind.max,IntKind.signed,IntKind.bits])
  ·trivial
 ·exact C1
 ·split
  ·rename_i s h; exact SI (by rw [h]; exact Nat.zero_le _)
  ·trivial
 ·simp only [VSim]
 ·simp only [VSim]
 ·trivial
theorem Nx:∀ (cs:List Value) (k:Nat) (A B C:List Value) (off:Nat),A.length=off+k→B.length=cs.length→
  (cs.zipIdx k).foldl (fun (acc:Array Value) (x:Value × Nat)=>acc.setIfInBounds (off+x.2) x.1) (A++(B++C)).toArray =(A++(cs++C)).toArray
 | [],k,A,B,C,off,hA,hB=>by
  have:B=[] :=List.eq_nil_of_length_eq_zero (by simpa using hB)
  subst this; rfl
 | c::cs,k,A,B,C,off,hA,hB=>by
  match B,hB with
  | b::B,hB=>
   simp only [List.zipIdx_cons,List.foldl_cons]
   have e:(A++(b::B++C)).toArray.setIfInBounds (off+k) c=((A++[c])++(B++C)).toArray :=by
    rw [List.setIfInBounds_toArray,← hA,List.set_append_right _ _ (Nat.le_refl _),Nat.sub_self]
    simp
   rw [e,Nx cs (k+1) (A++[c]) B C off (by simp; omega) (by simpa using hB)]
   simp
theorem TM (sz:Nat):∀ (vs:List Value) (k:Nat) (A B:List Value),(∀v ∈ vs,v.cells.size=sz)→A.length=k*sz→B.length=vs.length*sz→
  Instr.fill (fun i=>some (i*sz,sz)) (A++B).toArray ((vs.zipIdx k).map fun x=>(x.2,x.1))=some (A++(vs.map fun v=>v.cells.toList).flatten).toArray
 | [],k,A,B,hv,hA,hB=>by
  have:B=[] :=List.eq_nil_of_length_eq_zero (by simpa using hB)
  subst this; simp [Instr.fill]
 | v::vs,k,A,B,hv,hA,hB=>by
  have hs:=hv v (by simp)
  rw [List.length_cons,Nat.add_mul] at hB
  have hsz:v.cells.toList.length=sz:=by simpa using hs
  have key:Array.foldl (fun cs x=>match x with|(c,j)=>cs.setIfInBounds (k*sz+j) c) (A++B).toArray v.cells.zipIdx=((A++v.cells.toList)++B.drop sz).toArray :=by
   have h0:=Nx v.cells.toList 0 A (B.take sz) (B.drop sz) (k*sz) (by omega) (by rw [List.length_take]; omega)
   rw [List.take_append_drop] at h0
   rw [← Array.foldl_toList,Array.toList_zipIdx,List.append_assoc]
   exact h0
  simp only [List.zipIdx_cons,List.map_cons,Instr.fill]
  rw [if_neg]
  ·rw [key,TM sz vs (k+1) (A++v.cells.toList) (B.drop sz) (fun x hx=>hv x (by simp [hx])) (by rw [List.length_append,Nat.add_mul]; omega) (by rw [List.length_drop]; omega)]
   simp
  ·simp only [hs,ne_eq,not_true_eq_false,decide_false,Bool.false_or,decide_eq_true_eq]
   simp only [List.size_toArray,List.length_append]
   omega
theorem DU {α:Type}:∀ (cs vs:List α) (off:Nat),off+cs.length≤vs.length→splice vs off cs=vs.take off++(cs++vs.drop (off+cs.length))
 | [],vs,off,h=>by simp [splice]
 | c::cs,vs,off,h=>by
  rw [List.length_cons] at h
  rw [splice,DU cs (vs.set off c) (off+1) (by rw [List.length_set]; omega)]
  have h1:(vs.set off c).take (off+1)=vs.take off++[c] :=by
   rw [List.take_succ_eq_append_getElem (by rw [List.length_set]; omega)]
   simp [List.take_set_of_le]
  have h2:(vs.set off c).drop (off+1+cs.length)=vs.drop (off+(cs.length+1)):=by
   rw [List.drop_set_of_lt (by omega)]
   congr 1; omega
  rw [h1,h2]
  simp
theorem AI.splice {w0} {γ}:∀ {cs vs} {us ws} {off},AI w0 γ vs us→AI w0 γ cs ws→AI w0 γ (Ab.splice vs off cs) (Ab.splice us off ws)
 | [],vs,us,ws,off,h,hc=>by simp only [AI] at hc; subst hc; exact h
 |c::cs,vs,us,ws,off,h,hc=>by
  simp only [AI] at hc
  obtain⟨u,ws',rfl,h1,h2⟩:=hc
  rw [Ab.splice,Ab.splice]
  exact AI.splice (h.set h1 off) h2
theorem Jm {α:Type}:∀ (cs vs:List α) (off:Nat),(splice vs off cs).length =vs.length
 | [],vs,off=>rfl
 |c::cs,vs,off=>by rw [splice,Jm]; simp
theorem Wz {pl} {us} {f off size} {v} {rest} (hp:pl f=some (off,size)) (hs:v.cells.size=size) (hl:off+v.cells.size≤us.length):
  Instr.fill pl us.toArray ((f,v)::rest)=Instr.fill pl (splice us off v.cells.toList).toArray rest:=by
 have key:Array.foldl (fun cs x=>match x with|(c,j)=>cs.setIfInBounds (off+j) c) us.toArray v.cells.zipIdx=(splice us off v.cells.toList).toArray :=by
  have hcl:v.cells.toList.length=v.cells.size:=Array.length_toList
  have h0:=Nx v.cells.toList 0 (us.take off) ((us.drop off).take v.cells.size) (us.drop (off+v.cells.size)) off (by rw [List.length_take]; omega) (by rw [List.length_take,List.length_drop,hcl]; omega)
  have e1:us.take off++((us.drop off).take v.cells.size++us.drop (off+v.cells.size))=us:=by
   rw [← List.drop_drop,List.take_append_drop,List.take_append_drop]
  rw [e1] at h0
  rw [DU _ _ _ (by rw [hcl]; exact hl),hcl,← Array.foldl_toList,Array.toList_zipIdx]
  exact h0
 simp only [Instr.fill,hp]
 rw [if_neg,key]
 simp only [hs,ne_eq,not_true_eq_false,decide_false,Bool.false_or,decide_eq_true_eq,List.size_toArray]
 omega
theorem Kg {P:Program} {w0:World} {γ:Gh} {e:Operand→AV} {ρ:Operand→Value} {fs:List (Nat × TypeId)} {pl:Nat→Option (Nat × Nat)} (hpl:∀f q,fs[f]? =some q→pl f=some (q.1,tsz P q.2)):
  ∀ {parts:List (Nat × Operand)} {vs ws:List AV} {us:List Value},(∀x ∈ parts,VSim w0 γ (e x.2) (ρ x.2))→AI w0 γ vs us→Jg P fs vs (parts.map fun x=>(x.1,e x.2))=some ws→
   ∃us',Instr.fill pl us.toArray (parts.map fun x=>(x.1,ρ x.2))=some us'.toArray∧AI w0 γ ws us'
 | [],vs,ws,us,_,hv,h=>by
  simp only [List.map_nil,Jg,Option.some.injEq] at h
  subst h
  exact⟨us,rfl,hv⟩
 | (f,x)::parts,vs,ws,us,hx,hv,h=>by
  simp only [List.map_cons,Jg] at h
  cases hq:fs[f]? with
  |none=>simp [hq] at h
  | some q=>
   cases hc:cellsOf (e x) with
   |none=>simp [hq,hc] at h
   | some cs=>
    simp only [hq,hc] at h
    split at h
    ·rename_i hl
     have h1:=Eb (hx (f,x) (by simp)) hc
     have h2:=h1.length
     have h3:(ρ x).cells.toList.length =(ρ x).cells.size :=Array.length_toList
     have h2':(ρ x).cells.toList.length =cs.length:=h2
     have h4:=hv.length
     obtain⟨us',k1,k2⟩:=Kg hpl (parts:=parts) (fun y hy=>hx y (by simp [hy])) (hv.splice h1 (off:=q.1)) h
     refine⟨us',?_,k2⟩
     rw [List.map_cons]
     show Instr.fill pl us.toArray ((f,ρ x)::_)=_
     rw [Wz (hpl f q hq) (by omega) (by omega)]
     exact k1
    ·cases h
theorem cA {V w} {u} {d} (h:zD u=some d):Own V w d u [] :=by
 unfold zD at h
 split at h
 ·rename_i k n
  split at h
  ·rename_i hn
   simp only [Option.some.injEq] at h; subst h; subst hn
   rw [Own]
   exact⟨rfl,by cases k <;> simp [Lit.wf,IntKind.min,IntKind.max,IntKind.signed,IntKind.bits],rfl⟩
  ·cases h
 ·simp only [Option.some.injEq] at h; subst h; rw [Own]; exact⟨rfl,rfl⟩
 ·split at h
  ·rename_i s hs
   simp only [Option.some.injEq] at h; subst h; rw [Own]; exact⟨rfl,by rw [hs]; exact Nat.zero_le _,rfl⟩
  ·cases h
 ·simp only [Option.some.injEq] at h; subst h
  rw [Own]
  exact .inl ⟨rfl,⟨none,0,rfl,Nat.zero_le _⟩,rfl⟩
 ·simp only [Option.some.injEq] at h; subst h
  simp only [Own,and_self]
 ·cases h
theorem YN {V w} {cs}:∀ (zs:List Value) (ds:List D) (o:Nat),zDs zs=some ds→(∀j u,zs[j]? =some u→cs[o+j]? =some u)→OwnC V w cs o ds []
 | [],ds,o,h,_=>by simp only [zDs,Option.some.injEq] at h; subst h; simp [OwnC]
 | z::zs,ds,o,h,hc=>by
  simp only [zDs] at h
  cases h1:zD z with
  |none=>simp [h1] at h
  | some d=>
   cases h2:zDs zs with
   |none=>simp [h1,h2] at h
   |some ds'=>
    simp only [h1,h2,Option.some.injEq] at h
    subst h
    simp only [OwnC]
    refine⟨z,[],[],hc 0 z (by simp),cA h1,YN zs ds' (o+1) h2 fun j u hj=>?_,rfl⟩
    have:=hc (j+1) u (by simpa using hj)
    rw [← this]; congr 1; omega
theorem WC:∀ {zs} {ds},zDs zs=some ds→ds.length=zs.length
 | [],ds,h=>by simp only [zDs,Option.some.injEq] at h; subst h; rfl
 | z::zs,ds,h=>by
  simp only [zDs] at h
  split at h
  ·rename_i d ds' h1 h2
   simp only [Option.some.injEq] at h; subst h
   simp [WC h2]
  ·cases h
theorem YO {V w} {cs zs} {ds} {sz} (hz:zDs zs=some ds) (hl:zs.length=sz) (hsz:0<sz):∀ (n o:Nat),(∀j,j<n*sz→cs[o+j]? =zs[j % sz]?)→OwnR V w cs sz o (List.replicate n ds) []
 |0,o,_=>by simp [OwnR]
 | n+1,o,h=>by
  rw [List.replicate_succ]
  simp only [OwnR]
  have hmul:(n+1)*sz=n*sz+sz:=Nat.succ_mul n sz
  refine⟨[],[],by rw [WC hz,hl],YN zs ds o hz fun j u hj=>?_,YO hz hl hsz n (o+sz) fun j hj=>?_,rfl⟩
  ·have hj':j<sz:=by rw [← hl]; exact(List.getElem?_eq_some_iff.1 hj).1
   rw [h j (by omega),Nat.mod_eq_of_lt hj']; exact hj
  ·have:=h (sz+j) (by omega)
   rw [Nat.add_mod_left] at this
   rw [← this]; congr 1; omega
structure Chg (w w':World) (W:Nat→Prop):Prop where
 os:w'.os=w.os
 tape:w'.tape=w.tape
 output:w'.output=w.output
 size:w.heap.size≤w'.heap.size
 block:∀k,k<w.heap.size→¬W k→w'.heap[k]? =w.heap[k]?
 shape:∀b x,w.shape? b=some x→w'.shape? b=some x
theorem Chg.refl (w:World) (W:Nat→Prop):Chg w w W:=⟨rfl,rfl,rfl,Nat.le_refl _,fun _ _ _=>rfl,fun _ _ h=>h⟩
theorem Chg.below {w w'} (h:Below w.heap.size w w') (W:Nat→Prop):Chg w w' W:=⟨h.os,h.tape,h.output,h.size,fun k hk _=>h.block k hk,fun b x hx=>by
 have hlt:b<w.heap.size:=by
  unfold World.shape? at hx
  split at hx
  ·rename_i hh; exact lt_of_block hh
  ·cases hx
 unfold World.shape? at hx ⊢
 rw [h.block b hlt]; exact hx⟩
theorem Chg.setRow {w} {g} {cur cs} {e} (hg:w.heap[g]? =some (.cells cur e (0,0))) (hl:cs.size=cur.size):Chg w (w.setRow g cs) (· =g):=
 ⟨rfl,rfl,rfl,by simp,fun k _ hk=>setRow_other w g k cs hk,fun b x hx=>by
  by_cases hb:b=g
  ·subst hb
   unfold World.shape? at hx ⊢
   rw [hg] at hx
   rw [setRow_heap w b cur cs e (0,0) hg]
   simp only [hl]; exact hx
  ·unfold World.shape? at hx ⊢
   rw [setRow_other w g b cs hb]; exact hx⟩
theorem Od {P:Program} {w w':World} (h:w.ShapedOpen P) (same:∀i,i<P.low→i<w.heap.size→w'.heap[i]? =w.heap[i]?) (hsh:∀b x,w.shape? b=some x→w'.shape? b=some x):w'.ShapedOpen P:=by
 refine⟨fun g zero t hg hz=>?_,fun k hk1 hk2=>?_⟩
 ·obtain⟨cs,h1,h2,h3⟩:=h.1 g zero t hg hz
  have hlow:g<P.low:=by
   unfold Program.low
   rcases Nat.lt_or_ge g (begin P (fun _ _=>0) default).world.heap.size with h'|h'
   ·exact h'
   ·simp [Array.getElem?_eq_none h'] at hz
  exact⟨cs,(same g hlow (lt_of_block h1)).trans h1,h2,fun hb=>Row.ok_of_shape (fun b x=>hsh b x) (h3 hb)⟩
 ·obtain⟨o,o₀,h1,h2,h3⟩:=h.2 k hk1 hk2
  exact⟨o,o₀,(same k hk2 (lt_of_block h1)).trans h1,h2,h3⟩
structure Free (cx:Cx) (γ:Gh) (T:Nat→Option Tok) (B:Nat→Option (List AV)) (g:Nat):Prop where
 t:∀t tk,γ.tl t→T t=some tk→g ∉ γ.tf t
 b:∀b vs,γ.bl b→B b=some vs→γ.bb b≠g
 fr:cx.we.heap.size≤g∨(cx.LF g∧∀x ∈ cx.L,x.1 ≠g)
 vw:∀o,γ.vw.cell? ⟨g,o,none⟩=none
section
variable {cx:Cx} {γ:Gh} {T:Nat→Option Tok} {B:Nat→Option (List AV)} {w w':World}
theorem OSim.change (hs:OSim cx γ T B w) {W:Nat→Prop} (hc:Chg w w' W) (hW:∀g,W g→Free cx γ T B g):OSim cx γ T B w':=by
 have hkt:∀t tk,γ.tl t→T t=some tk→∀g ∈ γ.tf t,w'.heap[g]? =w.heap[g]? :=fun t tk h1 h2 g hg=>
  hc.block g ((hs.tok t tk h1 h2).lt g hg) fun hw=>(hW g hw).t t tk h1 h2 hg
 refine⟨⟨?_,hc.os.trans hs.frm.os,hc.tape.trans hs.frm.tape,hc.output.trans hs.frm.output,Nat.le_trans hs.frm.size hc.size,fun k hk h1 h2=>?_,fun x hx=>?_⟩,fun t tk h1 h2=>(hs.tok t tk h1 h2).keep (hkt t tk h1 h2),hs.tnd,hs.tds,fun b vs h1 h2=>?_,hs.bds,hs.btd,hs.tfr,hs.bfr,fun t tk h1 h2=>(hs.hds t tk h1 h2).keep (hs.tok t tk h1 h2).own (hkt t tk h1 h2),hs.beg,⟨fun a u hu=>?_,hs.vw.t,hs.vw.b,hs.vw.f⟩⟩
 ·refine Od hs.frm.sh (fun i hi hi'=>hc.block i hi' fun hw=>?_) hc.shape
  rcases (hW i hw).fr with h|⟨h,-⟩
  ·have:=cx.lowe; omega
  ·have:=cx.low i (.inl h); omega
 ·rw [hc.block k (Nat.lt_of_lt_of_le hk hs.frm.size) ?_]
  ·exact hs.frm.block k hk h1 h2
  ·intro hw
   rcases (hW k hw).fr with h|⟨h,-⟩
   ·omega
   ·exact h1 h
 ·have hl:=hs.frm.lent x hx
  refine hl.keep (hc.block x.1 hl.lt ?_)
  intro hw
  rcases (hW x.1 hw).fr with h|⟨-,h⟩
  ·have:=hl.lt0; omega
  ·exact h x hx rfl
 ·obtain⟨us,h3,h4⟩:=hs.box b vs h1 h2
  exact⟨us,h3,h4.keep (hc.block _ h4.lt fun hw=>(hW _ hw).b b vs h1 h2 rfl)⟩
 ·have h1:=hs.vw.k a u hu
  have hlt:=World.block_lt_of_cell? w a h1
  have hb:=hc.block a.block hlt fun hw=>by
   rw [I4 hu,(hW _ hw).vw] at hu; cases hu
  unfold World.cell? at h1 ⊢
  rw [hb]; exact h1
open Classical in
noncomputable def hvp (γ:Gh) (w:World) (t:Nat) (v:Value) (k x g:Nat):Pth→Value:=if x=t∧g=k∧¬ (γ.tl t∧γ.gl t k) then hdr w v else γ.hv x g
theorem SK {γ} {w} {t} {v} {k x g} (h:¬ (x=t∧g=k∧¬ (γ.tl t∧γ.gl t k))):hvp γ w t v k x g=γ.hv x g:=by unfold hvp; rw [if_neg h]
theorem Zl {γ} {w} {t} {v} {k x g} (h:x=t∧g=k∧¬ (γ.tl t∧γ.gl t k)):hvp γ w t v k x g=hdr w v:=by unfold hvp; rw [if_pos h]
noncomputable def Gh.tok (γ:Gh) (w:World) (t:Nat) (v:Value) (fp:List Nat) (k:Nat):Gh:= {γ with
 tl:=fun x=>γ.tl x∨x=t,tv:=fun x=>if x=t then v else γ.tv x,tf:=fun x=>if x=t then fp else γ.tf x,
 gl:=fun x g=>if x=t then (γ.tl t∧γ.gl t g)∨g=k else γ.gl x g,
 hv:=hvp γ w t v k}
theorem Gh.tok_ext {γ} {w} {t} {v} {fp} {k} (h:γ.tl t→γ.tv t=v):Gh.Ext γ (γ.tok w t v fp k):=
 ⟨fun _ h=>.inl h,fun x hx=>by
  show (if x=t then _ else _)=_
  split
  ·rename_i e; subst e; exact(h hx).symm
  ·rfl,fun _ h=>h,fun _ _=>rfl,fun _ _=>rfl,fun x g h1 h2=>by
  show (if x=t then _ else _)
  split
  ·rename_i e; subst e; exact .inl ⟨h1,h2⟩
  ·exact h2,fun x g h1 h2=>by
  exact SK fun e=>by obtain⟨rfl,rfl,e⟩:=e; exact e ⟨h1,h2⟩,AO.refl _⟩
theorem OSim.putTok (hs:OSim cx γ T B w) {t} {tk} {v} {fp} (hT:T t=none) (hv:γ.tl t→γ.tv t=v) (hok:Ar γ.vw w tk v fp) (hn:fp.Nodup) (hf:∀g ∈ fp,Free cx γ T B g)
  (hg1:γ.tl t→∀k,γ.gl t k→k≤tk.gen) (hg2:γ.tl t→γ.gl t tk.gen→∀q r,At q (.sl tk.rows) (.sl r)→hdr w v q=γ.hv t tk.gen q):
  OSim cx (γ.tok w t v fp tk.gen) (fun x=>if x=t then some tk else T x) B w:=by
 have he:=Gh.tok_ext (w:=w) (fp:=fp) (k:=tk.gen) hv
 have htf:∀x,(γ.tok w t v fp tk.gen).tf x=if x=t then fp else γ.tf x:=fun _=>rfl
 have htv:∀x,(γ.tok w t v fp tk.gen).tv x=if x=t then v else γ.tv x:=fun _=>rfl
 refine⟨hs.frm,fun x tk' h1 h2=>?_,fun x tk' h1 h2=>?_,fun x y tk1 tk2 hne h1 h2 h3 h4 g hg=>?_,fun b vs h1 h2=>?_,hs.bds,fun b x vs tk' h1 h2 h3 h4=>?_,fun x tk' h1 h2=>?_,hs.bfr,fun x tk' h1 h2=>?_,hs.beg.trans he,⟨hs.vw.k,fun x tk' h1 h2=>?_,hs.vw.b,hs.vw.f⟩⟩
 ·rw [htf,htv]
  by_cases hx:x=t
  ·simp only [if_pos hx,Option.some.injEq] at h2 ⊢; subst h2; exact hok
  ·simp only [if_neg hx] at h2 ⊢; exact hs.tok x tk' (h1.resolve_right hx) h2
 ·rw [htf]
  by_cases hx:x=t
  ·simp only [if_pos hx] at h2 ⊢; exact hn
  ·simp only [if_neg hx] at h2 ⊢; exact hs.tnd x tk' (h1.resolve_right hx) h2
 ·rw [htf] at hg ⊢
  by_cases hx:x=t
  ·have hy:y≠t:=fun e=>hne (hx.trans e.symm)
   simp only [if_pos hx] at hg
   simp only [if_neg hy] at h4 ⊢
   exact(hf g hg).t y tk2 (h2.resolve_right hy) h4
  ·simp only [if_neg hx] at h3 hg
   by_cases hy:y=t
   ·simp only [if_pos hy]
    intro hm
    exact(hf g hm).t x tk1 (h1.resolve_right hx) h3 hg
   ·simp only [if_neg hy] at h4 ⊢
    exact hs.tds x y tk1 tk2 hne (h1.resolve_right hx) (h2.resolve_right hy) h3 h4 g hg
 ·obtain⟨us,h3,h4⟩:=hs.box b vs h1 h2
  exact⟨us,AI.mono (AO.refl _) he h3,h4⟩
 ·rw [htf]
  by_cases hx:x=t
  ·simp only [if_pos hx]
   intro hm
   exact(hf _ hm).b b vs h1 h3 rfl
  ·simp only [if_neg hx] at h4 ⊢; exact hs.btd b x vs tk' h1 (h2.resolve_right hx) h3 h4
 ·rw [htf]
  by_cases hx:x=t
  ·simp only [if_pos hx]; exact fun g hg=>(hf g hg).fr
  ·simp only [if_neg hx] at h2 ⊢; exact hs.tfr x tk' (h1.resolve_right hx) h2
 ·by_cases hx:x=t
  ·subst hx
   have h2':(if x=x then some tk else T x)=some tk':=h2
   rw [if_pos rfl,Option.some.injEq] at h2'; subst h2'
   have e1:∀g,(γ.tok w x v fp tk.gen).gl x g=((γ.tl x∧γ.gl x g)∨g=tk.gen):=fun g=>by show (if x=x then _ else _)=_; rw [if_pos rfl]
   refine⟨by rw [e1]; exact .inr rfl,fun g hg=>?_,fun q r hq=>?_⟩
   ·rw [e1] at hg
    rcases hg with hg|hg
    ·exact hg1 hg.1 g hg.2
    ·omega
   ·rw [htv,if_pos rfl]
    show _=hvp γ w x v tk.gen x tk.gen q
    by_cases e:γ.tl x∧γ.gl x tk.gen
    ·rw [SK fun h=>h.2.2 e]; exact hg2 e.1 e.2 q r hq
    ·rw [Zl ⟨rfl,rfl,e⟩]
  ·simp only [if_neg hx] at h2
   have hh:=hs.hds x tk' (h1.resolve_right hx) h2
   have e1:∀g,(γ.tok w t v fp tk.gen).gl x g=γ.gl x g:=fun g=>by show (if x=t then _ else _)=_; rw [if_neg hx]
   have e2:∀g,(γ.tok w t v fp tk.gen).hv x g=γ.hv x g:=fun g=>SK fun h=>hx h.1
   have e3:(γ.tok w t v fp tk.gen).tv x=γ.tv x:=by rw [htv,if_neg hx]
   exact⟨by rw [e1]; exact hh.1,fun g hg=>by rw [e1] at hg; exact hh.2.1 g hg,fun q r hq=>by rw [e2,e3]; exact hh.2.2 q r hq⟩
 ·rw [htf]
  by_cases hx:x=t
  ·simp only [if_pos hx]; exact fun g hg=>(hf g hg).vw
  ·simp only [if_neg hx] at h2 ⊢; exact hs.vw.t x tk' (h1.resolve_right hx) h2
end
end Go.Proofs.YtaedfiifhjlmlaaGreat.Ab
