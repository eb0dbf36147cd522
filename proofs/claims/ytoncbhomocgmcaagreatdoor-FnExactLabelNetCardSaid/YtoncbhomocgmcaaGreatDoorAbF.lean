/-
  The abstract walk, sixth part: one operation.
-/
import Derived.Test.YtoncbhomocgmcaaGreatDoorAbE
import Derived.DeepKeys
import Derived.DeepKeys3
import Derived.WideKeyRuns
import Derived.WideKeyEntry
namespace Go.Proofs.YtoncbhomocgmcaaGreatDoor.Ab
set_option linter.unusedVariables false
set_option maxHeartbeats 1000000
set_option linter.unusedSimpArgs false
open Go.RowKit
theorem B9 {w0} {γ} {k} {n} (h:(Lit.int k n).wf =true):VSim w0 γ (.int k n) (.int k n):=by grind [VSim]
theorem Cz {w0} {γ} {b}:VSim w0 γ (.bool b) (.bool b):=by rfl
theorem QG {w0} {γ} {s} (h:s.size≤maxLen):VSim w0 γ (.str s) (.string s):=by grind [VSim]
section
variable {P:Program} {w:World} {t:TypeId}
theorem MB (hu:P.underlying t=some .bool) (a b:Bool):(Op.equal t (.bool a) (.bool b)).run P w= .ok (a == b) w:=by
 unfold Op.equal Op.maxDepth
 show (Op.equalIn (9999+1) t _ _).run P w=_
 rw [Op.equalIn]
 simp [run_underlying hu]
theorem HU {e} (hu:P.underlying t=some (.pointer e)) (b:Option Addr):(Op.equal t (.pointer none) (.pointer b)).run P w= .ok b.isNone w:=by
 unfold Op.equal Op.maxDepth
 show (Op.equalIn (9999+1) t _ _).run P w=_
 rw [Op.equalIn]
 simp [run_underlying hu]
theorem MC {e} (hu:P.underlying t=some (.pointer e)) (b:Addr):(Op.equal t (.pointer (some b)) (.pointer none)).run P w= .ok false w:=by
 unfold Op.equal Op.maxDepth
 show (Op.equalIn (9999+1) t _ _).run P w=_
 rw [Op.equalIn]
 simp [run_underlying hu]
end
def C5:List KK→List AV→Option (List Lit)
 | [],[] =>some []
 | .int k::ks,.int k1 a::xs=>if k1=k then (C5 ks xs).map (.int k a:: ·) else none
 | .bool ::ks,.bool a::xs=>(C5 ks xs).map (.bool a:: ·)
 | .str ::ks,.str s::xs=>(C5 ks xs).map (.string s.data.toList:: ·)
 |_,_=>none
theorem Wa:∀ (ks:List KK) (xs ys:List AV) (b:Bool),BI ks xs ys=some b→∃as bs,C5 ks xs=some as∧C5 ks ys=some bs∧(b=true↔as=bs):=by
 intro ks xs ys
 induction ks generalizing xs ys with
 |nil=>
  intro b h
  cases xs <;> cases ys <;> simp only [BI] at h <;> try (cases h; done)
  cases h
  exact⟨[],[],rfl,rfl,by simp⟩
 | cons k ks ih=>
  intro b h
  cases xs with
  |nil=>cases k <;> simp [BI] at h
  | cons x xs=>
   cases ys with
   |nil=>cases k <;> cases x <;> simp [BI] at h
   | cons y ys=>
    cases k <;> cases x <;> first|(cases y <;> simp only [BI] at h <;> cases h; done)|skip
    ·rename_i k k1 a
     cases y <;> simp only [BI] at h <;> try (cases h; done)
     grind [Option.map_eq_some_iff,C5]
    ·rename_i a
     cases y <;> simp only [BI] at h <;> try (cases h; done)
     grind [Option.map_eq_some_iff,C5]
    ·rename_i a
     cases y <;> simp only [BI] at h <;> try (cases h; done)
     grind [Option.map_eq_some_iff,C5,ByteArray.toList_eq]
theorem Iz:∀ {k1 k2} {xs} {l},C5 (k1++k2) xs=some l→∃l1 l2,C5 k1 (xs.take k1.length)=some l1∧C5 k2 (xs.drop k1.length)=some l2∧l=l1++l2
 | [],k2,xs,l,h=>⟨[],l,by rfl,by grind,rfl⟩
 |k::k1,k2,[],l,h=>by cases k <;> simp [C5] at h
 | k::k1,k2,x::xs,l,h=>by
  cases k <;> cases x <;> simp only [List.cons_append,C5] at h <;> try (cases h; done)
  ·split at h
   ·rename_i hk
    simp only [Option.map_eq_some_iff] at h
    obtain⟨l',h1,rfl⟩:=h
    obtain⟨l1,l2,h2,h3,rfl⟩:=Iz h1
    exact⟨_::l1,l2,by simp [C5,hk,h2],by simpa using h3,rfl⟩
   grind
  ·simp only [Option.map_eq_some_iff] at h
   obtain⟨l',h1,rfl⟩:=h
   obtain⟨l1,l2,h2,h3,rfl⟩:=Iz h1
   exact⟨_::l1,l2,by simp [C5,h2],by simpa using h3,rfl⟩
  ·simp only [Option.map_eq_some_iff] at h
   obtain⟨l',h1,rfl⟩:=h
   obtain⟨l1,l2,h2,h3,rfl⟩:=Iz h1
   exact⟨_::l1,l2,by simp [C5,h2],by simpa using h3,rfl⟩
theorem Fb:∀ {ks} {xs} {l},C5 ks xs=some l→xs.length=ks.length
 | [],[],_,_=>rfl
 | [],_::_,_,h=>by grind [C5]
 |k::_,[],_,h=>by cases k <;> simp [C5] at h
 | k::ks,x::xs,l,h=>by
  cases k <;> cases x <;> simp only [C5] at h <;> try (cases h; done)
  ·split at h
   ·simp only [Option.map_eq_some_iff] at h
    obtain⟨l',h1,rfl⟩:=h
    simp [Fb h1]
   ·cases h
  ·simp only [Option.map_eq_some_iff] at h
   obtain⟨l',h1,rfl⟩:=h
   simp [Fb h1]
  ·simp only [Option.map_eq_some_iff] at h
   obtain⟨l',h1,rfl⟩:=h
   simp [Fb h1]
theorem I0 {w0} {γ}:∀ {xs} {us},AD w0 γ xs us→us.length=xs.length
 | [],us,h=>by grind [AD]
 |x::xs,us,h=>by
  simp only [AD] at h
  obtain⟨u,us',rfl,-,h⟩:=h
  simp [I0 h]
theorem NX {w0} {γ}:∀ (n:Nat) {xs} {us},AD w0 γ xs us→AD w0 γ (xs.take n) (us.take n)∧AD w0 γ (xs.drop n) (us.drop n)
 |0,xs,us,h=>by simp [AD,h]
 |n+1,[],us,h=>by grind [AD]
 |n+1,x::xs,us,h=>by
  simp only [AD] at h
  obtain⟨u,us',rfl,h1,h2⟩:=h
  obtain⟨h3,h4⟩:=NX n h2
  exact⟨by simp only [List.take_succ_cons,AD]; exact⟨u,_,rfl,h1,h3⟩,by simpa using h4⟩
theorem Jl {P} {d} {t} {ks} (h:Gg P d t=some ks):ks.length=P.cellsOf t:=by
 cases d with
 |zero=>grind [Gg]
 |succ d=>
  rw [Gg] at h
  grind
theorem NY {P} {w0} {γ} {D} (IH:∀t ks xs us la,Gg P D t=some ks→C5 ks xs=some la→AD w0 γ xs us→P.keyLits D t us=some la) (cs:List Value):
  ∀ (fs:List Field) (i:Nat) (ks:List KK) (xs:List AV) (us:List Value) (la:List Lit),KR P (Gg P D) i fs=some ks→C5 ks xs=some la→AD w0 γ xs us→cs.drop i=us→
  ∃ls,fs.mapM (fun f=>P.keyLits D f.type ((cs.drop f.offset).take (P.cellsOf f.type)))=some ls∧ls.flatten=la
 | [],i,ks,xs,us,la,h,h1,h2,h3=>by
  simp only [KR,Option.some.injEq] at h
  subst h
  cases xs <;> simp [C5] at h1
  simp_all
 | f::fs,i,ks,xs,us,la,h,h1,h2,h3=>by
  rw [KR] at h
  split at h
  ·rename_i hf
   split at h
   ·rename_i a b ha hb
    cases h
    obtain⟨l1,l2,h4,h5,rfl⟩:=Iz h1
    obtain⟨v1,v2⟩:=NX a.length h2
    have hl:=Jl ha
    have k1:=IH _ _ _ _ _ ha h4 v1
    obtain⟨ls,hl1,hl2⟩:=NY IH cs fs (i+P.cellsOf f.type) b _ _ l2 hb h5 v2 (by rw [← hl,← List.drop_drop,h3])
    simp_all
   grind
  grind
theorem NZ {P} {w0} {γ}:∀ (D:Nat) (t:TypeId) (ks:List KK) (xs:List AV) (us:List Value) (la:List Lit),Gg P D t=some ks→C5 ks xs=some la→AD w0 γ xs us→P.keyLits D t us=some la
 |0,_,_,_,_,_,h,_,_=>by grind [Gg]
 | D + 1,t,ks,xs,us,la,h,h1,h2=>by
  have hlen:=Jl h
  have hxl:=Fb h1
  have hul:=I0 h2
  rw [Gg] at h
  split at h
  ·rename_i ks' hks
   split at h
   ·cases h
    split at hks
    ·rename_i hu
     cases hks
     match xs,us,h1,h2 with
     | [.bool b],us,h1,h2=>
      simp only [AD,VSim] at h2
      obtain⟨u,us',rfl,rfl,rfl⟩:=h2
      simp [C5] at h1
      subst h1
      simp [Program.keyLits,hu]
    ·rename_i k hu
     cases hks
     match xs,us,h1,h2 with
     | [.int k1 n],us,h1,h2=>
      simp only [AD,VSim] at h2
      obtain⟨u,us',rfl,⟨rfl,hwf⟩,rfl⟩:=h2
      simp only [C5] at h1
      split at h1
      ·rename_i hk
       subst hk
       simp at h1
       subst h1
       simp [Program.keyLits,hu,hwf]
      ·cases h1
    ·rename_i hu
     cases hks
     match xs,us,h1,h2 with
     | [.str s],us,h1,h2=>
      simp only [AD,VSim] at h2
      obtain⟨u,us',rfl,⟨rfl,hwf⟩,rfl⟩:=h2
      simp [C5] at h1
      subst h1
      simp [Program.keyLits,hu,hwf]
    ·rename_i fs hu
     split at hks
     ·rename_i hn
      obtain⟨ls,hl1,hl2⟩:=NY (D:=D) (fun t ks xs us la=>NZ D t ks xs us la) us fs.toList 0 ks xs us la hks h1 h2 (by simp)
      unfold Program.keyLits
      simp only [hu]
      rw [if_pos ⟨by omega,hn⟩,hl1,Option.map_some,hl2]
     ·cases hks
    ·cases hks
   ·cases h
  ·cases h
theorem Of {P} {w w0} {γ} {t} {ks} {xs ys} {us vs} {b} (ht:Fr P t=some ks) (hb:BI ks xs ys=some b) (hx:AD w0 γ xs us) (hy:AD w0 γ ys vs):
  (Op.equal t (.agg us.toArray) (.agg vs.toArray)).run P w= .ok b w∧P.eqGuardType P.depth t=false:=by
 unfold Fr at ht
 split at ht
 ·rename_i fs hu
  split at ht
  ·rename_i hc
   obtain⟨hc2,hc3⟩:=hc
   obtain⟨as,bs,ha,hb',hiff⟩:=Wa _ _ _ _ hb
   have hlen:=Jl ht
   have ka:=NZ 4 t ks xs us as ht ha hx
   have kb:=NZ 4 t ks ys vs bs ht hb' hy
   have lu:us.length=P.cellsOf t:=by rw [I0 hx,Fb ha,hlen]
   have lv:vs.length=P.cellsOf t:=by rw [I0 hy,Fb hb',hlen]
   obtain⟨r,hr,hri⟩:=run_equalIn_deep 9996 4 t hc2 w 4 4 (.agg us.toArray) (.agg vs.toArray) _ _ (by grind [Value.formed]) (by grind [Value.formed]) (by simpa [Value.cells] using ka) (by simpa [Value.cells] using kb)
   grind [Op.equal,Op.maxDepth]
  grind
 grind
def EvK (cx:Cx) (γ:Gh) (T:Nat→Option Tok) (B:Nat→Option (List AV)) (o:Oper) (a:Act) (next:Act→World→Prop) (r:Res):Prop:=
 ∀v w' γ',Gh.Ext γ γ'→(∀t,γ'.tl t→γ.tl t∨∃x ∈ r.t,x.1 =t)→(∀b,γ'.bl b→γ.bl b∨∃x ∈ r.b,x.1 =b)→OSim cx γ' T B w'→VSim γ'.vw γ' r.v v→next (a.put o.dst v) w'
section
variable {cx:Cx} {γ:Gh} {T:Nat→Option Tok} {B:Nat→Option (List AV)} {w:World} {o:Oper} {a:Act} {next:Act→World→Prop} {Q:Exit→Act→World→Prop}
theorem Ad (hs:OSim cx γ T B w) {av} {v} (hr:(execOp a.eval o).run cx.P w= .ok (.value v) w) (hv:VSim γ.vw γ av v) (hk:EvK cx γ T B o a next ⟨av,[],[]⟩):o.wp cx.P a w next Q:=
 HT hr (hk v w γ (Gh.Ext.refl γ) (fun t h=>.inl h) (fun b h=>.inl h) hs hv)
theorem PK {op} {t} {x y v} {u u'} {ox oy} (hx:VSim γ.vw γ x u) (hy:VSim γ.vw γ y u') (h:Bin cx.P op t x y v):
  ∃r,(do eqGuard op t ox oy u u'; binOp op t u u':Sem Value).run cx.P w= .ok r w∧VSim γ.vw γ v r:=by
 unfold Bin at h
 split at h
 ·simp only [VSim] at hx hy
  obtain⟨us,rfl,hx⟩:=hx
  obtain⟨vs,rfl,hy⟩:=hy
  obtain⟨ks,b,h1,h2,h⟩:=h
  obtain⟨h3,h4⟩:=Of (w:=w) h1 h2 hx hy
  cases op <;> simp only at h
  case eql=>simp_all [eqGuard,binOp,Cz]
  simp_all [eqGuard,binOp,Cz]
 ·rename_i k a k' b
  simp only [VSim] at hx hy
  obtain⟨rfl,hwx⟩:=hx
  obtain⟨rfl,hwy⟩:=hy
  cases op <;> simp only [Ht,Option.some.injEq] at h
  case shl=>obtain⟨hb,rfl⟩:=h; simp_all [eqGuard_shl,binOp_shl,shift_shl_any,B9,ED]
  case shr=>obtain⟨hb,rfl⟩:=h; simp_all [eqGuard_shr,binOp_shr,shift_shr_any,B9,ae]
  all_goals obtain⟨rfl,h⟩:=h
  case and=>subst h; exact⟨_,by simp [eqGuard_and,binOp_and,intBits_and],B9 (ED _ _)⟩
  case or=>subst h; exact⟨_,by simp [eqGuard_or,binOp_or,intBits_or],B9 (ED _ _)⟩
  case xor=>subst h; exact⟨_,by simp [eqGuard_xor,binOp_xor,intBits_xor],B9 (ED _ _)⟩
  case andNot=>subst h; exact⟨_,by simp [eqGuard_andNot,binOp_andNot,intBits_andNot],B9 (ED _ _)⟩
  case quo=>obtain⟨hb,rfl⟩:=h; simp_all [eqGuard,binOp,Op.intDiv,B9,ED]
  case rem=>obtain⟨hb,rfl⟩:=h; simp_all [eqGuard,binOp,Op.intDiv,B9,YU]
  case add=>subst h; simp [eqGuard,binOp,Op.intArith,B9,ED]
  case sub=>subst h; simp [eqGuard,binOp,Op.intArith,B9,ED]
  case mul=>subst h; simp [eqGuard,binOp,Op.intArith,B9,ED]
  case eql=>subst h; simp [eqGuard,binOp,Op.intCmp,Bool.beq_eq_decide_eq,Cz]
  case neq=>subst h; simp [eqGuard,binOp,Op.intCmp,bne,Bool.beq_eq_decide_eq,Cz]
  case lss=>subst h; simp [eqGuard,binOp,Op.intCmp,Cz]
  case leq=>subst h; simp [eqGuard,binOp,Op.intCmp,Cz]
  case gtr=>subst h; simp [eqGuard,binOp,Op.intCmp,Cz]
  case geq=>subst h; simp [eqGuard,binOp,Op.intCmp,Cz]
  all_goals cases h
 ·rename_i a b
  simp only [VSim] at hx hy
  subst hx hy
  split at h
  ·rename_i hu
   subst h
   exact⟨.bool (a == b),by
    have hu':cx.P.underlying t=some .bool :=by unfold ti at hu; split at hu <;> simp_all
    simp [eqGuard,binOp,MB hu'],Cz⟩
  ·rename_i hu
   subst h
   exact⟨.bool (!(a == b)),by
    have hu':cx.P.underlying t=some .bool :=by unfold ti at hu; split at hu <;> simp_all
    simp [eqGuard,binOp,MB hu'],Cz⟩
  grind
 ·rename_i a b
  simp only [VSim] at hx hy
  obtain⟨rfl,ha⟩:=hx
  obtain⟨rfl,hb⟩:=hy
  cases op <;> simp only at h
  case eql=>simp_all [eqGuard,binOp,Op.stringOp,Cz]
  case neq=>simp_all [eqGuard,binOp,Op.stringOp,Cz]
  case add=>
   obtain⟨hl,rfl⟩:=h
   refine⟨.string (a++b),?_,QG (by rw [ByteArray.size_append]; exact hl)⟩
   unfold maxLen at hl
   have:¬ (((a.size+b.size:Nat):Int) > IntKind.i64.max):=by grind [IntKind.max,IntKind.bits]
   simp_all [eqGuard,binOp,Op.stringOp]
  all_goals exact h.elim
 ·simp only [VSim] at hx hy
  subst hx hy
  split at h
  ·rename_i e hu
   subst h
   exact⟨.bool true,by
    have hu':cx.P.underlying t=some (.pointer e):=by unfold ti at hu; split at hu <;> simp_all
    simp_all [eqGuard,binOp,HU],Cz⟩
  ·rename_i e hu
   subst h
   exact⟨.bool false,by
    have hu':cx.P.underlying t=some (.pointer e):=by unfold ti at hu; split at hu <;> simp_all
    simp_all [eqGuard,binOp,HU],Cz⟩
  grind
 all_goals first
  |exact h.elim
  | (
   simp only [VSim] at hx hy
   obtain⟨p,hp⟩:∃p,(u= .pointer (some p)∧u'= .pointer none)∨(u= .pointer none∧u'= .pointer (some p)):=by
    first
     |exact⟨_,.inl ⟨hx.2,hy⟩⟩
     |exact⟨_,.inr ⟨hx,hy.2⟩⟩
     |(obtain⟨b,o,us,hx,-⟩:=hx; exact⟨_,.inl ⟨hx,hy⟩⟩)
     |(obtain⟨b,o,us,hy,-⟩:=hy; exact⟨_,.inr ⟨hx,hy⟩⟩)
   split at h
   ·rename_i e hu
    subst h
    have hu':cx.P.underlying t=some (.pointer e):=by unfold ti at hu; split at hu <;> simp_all
    refine⟨.bool false,?_,Cz⟩
    rcases hp with ⟨rfl,rfl⟩|⟨rfl,rfl⟩ <;> simp [eqGuard,binOp,HU hu',MC hu']
   ·rename_i e hu
    subst h
    have hu':cx.P.underlying t=some (.pointer e):=by unfold ti at hu; split at hu <;> simp_all
    refine⟨.bool true,?_,Cz⟩
    rcases hp with ⟨rfl,rfl⟩|⟨rfl,rfl⟩ <;> simp [eqGuard,binOp,HU hu',MC hu']
   ·exact h.elim)
theorem VB {op} {x v} {u} (hx:VSim γ.vw γ x u) (h:Uno op x v):∃r,(Op.unary op u).run cx.P w= .ok r w∧VSim γ.vw γ v r:=by
 unfold Uno at h
 split at h
 ·simp_all [VSim,Op.unary]
 ·simp only [VSim] at hx; obtain⟨rfl,hw⟩:=hx; simp_all [Op.unary,Op.intArith,B9,ED]
 ·simp only [VSim] at hx; obtain⟨rfl,hw⟩:=hx; subst h; exact⟨_,by rfl,B9 (ED _ _)⟩
 grind
theorem VC (hs:OSim cx γ T B w) {t} {x i v} {u u'} (hx:VSim γ.vw γ x u) (hi:VSim γ.vw γ i u') (h:Mb cx.P T t x i v):
  ∃r,(Instr.indexAt t u u').run cx.P w= .ok r w∧VSim γ.vw γ v r:=by
 unfold Mb at h
 split at h
 ·rename_i e rows k n hu
  obtain⟨hsz,row,⟨h0,hrow,hl⟩,rfl⟩:=h
  simp only [VSim] at hx hi
  obtain⟨rfl,-⟩:=hi
  have hlt:=Au hrow
  simp only [Rep] at hx
  obtain⟨ad,c,rfl,-,-,h3⟩:=hx
  rcases h3 with h3|⟨sz,b,off,rfl,hR⟩
  ·rw [h3] at hlt; grind
  ·have hn:n<rows.length:=by omega
   have hat:=hR.at _ hlt
   rw [List.getElem?_eq_getElem hlt] at hrow
   simp only [Option.some.injEq] at hrow
   rw [hrow] at hat
   have hsz':sz=tsz cx.P e:=by omega
   refine⟨.pointer (some ⟨b,off+n.toNat*tsz cx.P e,none⟩),?_,?_⟩
   ·simp [Instr.indexAt,run_underlying (E4 hu),asIntOf,h0,hn,Bu hsz,Addr.add_lit]
   ·obtain⟨us,k1,k2⟩:=LQ (γ:=γ) hat.2
    have k3:AV.pts (row.map ofD)=true→PF γ.vw b:=fun e=>IP hat.2 (by rw [KQ]; exact e)
    grind [VSim]
 ·rename_i e t' k n hu
  obtain⟨hsz,tk,row,hT,⟨h0,hrow,hl⟩,rfl⟩:=h
  simp only [VSim] at hx hi
  obtain⟨rfl,-⟩:=hi
  obtain⟨⟨htl,-⟩,rfl⟩:=hx
  have hlt:=Au hrow
  have hown:=(hs.tok t' tk htl hT).own
  simp only [Own] at hown
  rcases hown with ⟨he,-,-⟩|⟨sz',g,o',c',e',cs,fps,hv,h1,h2,hb,h3,hr,-⟩
  ·rw [he] at hlt; grind
  ·have hn:n<tk.rows.length:=by omega
   refine⟨.pointer (some ⟨g,o'+n.toNat*tsz cx.P e,none⟩),?_,?_⟩
   ·rw [hv]
    simp [Instr.indexAt,run_underlying (E4 hu),asIntOf,h0,hn,Bu hsz,Addr.add_lit]
   grind [VSim]
 ·rename_i e t' g p k n hu
  obtain⟨hsz,rows,row,hsub,⟨h0,hrow,hl⟩,rfl⟩:=h
  simp only [VSim] at hx hi
  obtain⟨rfl,-⟩:=hi
  obtain⟨⟨htl,hgl⟩,-,rfl⟩:=hx
  have hlt:=Au hrow
  obtain⟨tk,f1,f2,f3,-,-,-,-,-,hown,-⟩:=GU hs.see htl hsub
  simp only [Own] at hown
  rcases hown with ⟨he,-,-⟩|⟨sz',b,o',c',e',cs,fps,hv,h1,h2,hb,h3,hr,-⟩
  ·rw [he] at hlt; grind
  ·have hn:n<rows.length:=by omega
   refine⟨.pointer (some ⟨b,o'+n.toNat*tsz cx.P e,none⟩),?_,?_⟩
   ·rw [hv]
    simp [Instr.indexAt,run_underlying (E4 hu),asIntOf,h0,hn,Bu hsz,Addr.add_lit]
   grind [VSim]
 ·rename_i l e b off k n hu
  obtain⟨hsz,⟨h0,hn⟩,rfl⟩:=h
  simp only [VSim] at hx hi
  obtain⟨rfl,-⟩:=hi
  obtain⟨hbl,rfl⟩:=hx
  have hu':cx.P.underlying t=some (.array l e):=by
   unfold ti at hu
   split at hu <;> simp_all
  refine⟨.pointer (some ⟨γ.bb b,γ.bo b+(off+n.toNat*tsz cx.P e),none⟩),?_,?_⟩
  ·simp [Instr.indexAt,Instr.sureAddr,run_underlying hu',asIntOf,h0,hn,Bu hsz,Addr.add_lit,Nat.add_assoc]
  ·simp [VSim,hbl,Nat.add_assoc]
 grind
theorem Jm {P} {t k e} (h:ti P t= .map k e):P.underlying t=some (.map k e):=by
 unfold ti at h
 split at h <;> simp_all
theorem VD {a b} (h:ND a=ND b):a=b:=by
 unfold ND at h
 simp only [Value.tuple.injEq] at h
 have h1:a.map (fun e=>Value.tuple #[e.1,e.2])=b.map fun e=>Value.tuple #[e.1,e.2] :=by grind
 clear h
 induction a generalizing b with
 |nil=>simp_all
 | cons x a ih=>cases b with
  |nil=>grind
  |cons y b=>
   grind
theorem A0.length {q}:∀ {rows} {es},A0 q rows es→es.length=rows.length
 | [],es,h=>by grind [A0]
 |r::rs,es,h=>by
  simp only [A0] at h
  obtain⟨e,es',rfl,-,h⟩:=h
  simp [A0.length h]
theorem QH (hs:OSim cx γ T B w) {b} {q} {rows} (hbl:γ.bl b) (hB:B b=some [.mpc q rows]):∃es k,w.heap[γ.bb b]? =some (.map es k)∧A0 q rows (Fq es)∧rows.length≤68719476736∧MapKept.Stamped es k:=by
 obtain⟨us,h1,h2⟩:=hs.box b _ hbl hB
 obtain⟨-,es,k,h3,h4,h5⟩:=h2.map rfl
 grind [AD,VSim,VD]
theorem Jn (n:Nat) (hn:n≤maxLen):(Lit.int .i64 (n:Int)).wf =true:=by
 grind [maxLen,Lit.wf,IntKind.min,IntKind.max,IntKind.bits]
theorem VE (hs:OSim cx γ T B w) {t ty} {x v} {u} (hx:VSim γ.vw γ x u) (h:Jd cx.P T B t x v):
  ∃r,(Builtin.len_ #[t] ty #[u]).run cx.P w= .ok r w∧VSim γ.vw γ v r:=by
 unfold Jd at h
 split at h
 ·rename_i s hu
  subst h
  simp only [VSim] at hx
  obtain⟨rfl,hs'⟩:=hx
  exact⟨_,by simp [Builtin.len_,run_underlying (QE hu)]; rfl,B9 (Jn _ hs')⟩
 ·rename_i rows hu
  subst h
  simp only [VSim,Rep] at hx
  obtain⟨ad,c,rfl,h1,h2,-⟩:=hx
  exact⟨_,by simp [Builtin.len_,run_underlying (E4 hu)]; rfl,B9 (Jn _ (Nat.le_trans h1 h2))⟩
 ·rename_i hu
  subst h
  simp only [VSim] at hx
  subst hx
  exact⟨_,by simp [Builtin.len_,run_underlying (E4 hu)]; rfl,B9 (Jn 0 (Nat.zero_le _))⟩
 ·rename_i hu
  subst h
  simp only [VSim] at hx
  obtain⟨-,hn,rfl⟩:=hx
  exact⟨_,by simp [Builtin.len_,run_underlying (E4 hu)]; rfl,B9 (Jn _ hn)⟩
 ·rename_i t' hu
  obtain⟨tk,hT,rfl⟩:=h
  simp only [VSim] at hx
  obtain⟨⟨htl,-⟩,rfl⟩:=hx
  have hrep:=(hs.tok t' tk htl hT).rep hs.vw.k
  simp only [Rep] at hrep
  obtain⟨ad,c,hv,h1,h2,-⟩:=hrep
  exact⟨_,by rw [hv]; simp [Builtin.len_,run_underlying (E4 hu)]; rfl,B9 (Jn _ (Nat.le_trans h1 h2))⟩
 ·rename_i t' g p hu
  obtain⟨rows,hsub,rfl⟩:=h
  simp only [VSim] at hx
  obtain⟨⟨htl,-⟩,-,rfl⟩:=hx
  obtain⟨tk,f1,f2,f3,-,-,-,-,-,hown,-⟩:=GU hs.see htl hsub
  have hrep:=hown.rep (Tok.vwk hs.vw.k)
  simp only [Rep] at hrep
  obtain⟨ad,c,hv,h1,h2,-⟩:=hrep
  exact⟨_,by rw [hv]; simp [Builtin.len_,run_underlying (E4 hu)]; rfl,B9 (Jn _ (Nat.le_trans h1 h2))⟩
 ·rename_i kt et b hu
  obtain⟨q,rows,hB,rfl⟩:=h
  simp only [VSim] at hx
  obtain⟨hbl,rfl⟩:=hx
  obtain⟨es,k,h1,h2,h3⟩:=QH hs hbl hB
  have hl:es.size=rows.length:=by have:=h2.length; grind [Fq]
  exact⟨.int .i64 rows.length,by simp [Builtin.len_,run_underlying (Jm hu),MapKept.run_getObj_map h1,hl,goInt],B9 (Jn _ (by grind [maxLen]))⟩
 grind
end
end Go.Proofs.YtoncbhomocgmcaaGreatDoor.Ab
