/-
  The abstract walk, sixth part: one operation.
-/
import Derived.Test.YtclmbjbbojdojaaGreatAbE
import Derived.DeepKeys
import Derived.DeepKeys3
import Derived.WideKeyRuns
import Derived.WideKeyEntry
namespace Go.Proofs.YtclmbjbbojdojaaGreat.Ab
set_option linter.unusedVariables false
set_option maxHeartbeats 1000000
set_option linter.unusedSimpArgs false
open Go.RowKit
theorem Da {w0} {γ} {k} {n} (h:(Lit.int k n).wf =true):VSim w0 γ (.int k n) (.int k n):=by grind [VSim]
theorem FO {w0} {γ} {b}:VSim w0 γ (.bool b) (.bool b):=by rfl
theorem W6 {w0} {γ} {s} (h:s.size≤maxLen):VSim w0 γ (.str s) (.string s):=by grind [VSim]
section
variable {P:Program} {w:World} {t:TypeId}
theorem SZ (hu:P.underlying t=some .bool) (a b:Bool):(Op.equal t (.bool a) (.bool b)).run P w= .ok (a == b) w:=by
 unfold Op.equal Op.maxDepth
 show (Op.equalIn (9999+1) t _ _).run P w=_
 rw [Op.equalIn]
 simp [run_underlying hu]
theorem L3 {e} (hu:P.underlying t=some (.pointer e)) (b:Option Addr):(Op.equal t (.pointer none) (.pointer b)).run P w= .ok b.isNone w:=by
 unfold Op.equal Op.maxDepth
 show (Op.equalIn (9999+1) t _ _).run P w=_
 rw [Op.equalIn]
 simp [run_underlying hu]
theorem Sa {e} (hu:P.underlying t=some (.pointer e)) (b:Addr):(Op.equal t (.pointer (some b)) (.pointer none)).run P w= .ok false w:=by
 unfold Op.equal Op.maxDepth
 show (Op.equalIn (9999+1) t _ _).run P w=_
 rw [Op.equalIn]
 simp [run_underlying hu]
end
def FT:List KK→List AV→Option (List Lit)
 | [],[] =>some []
 | .int k::ks,.int k1 a::xs=>if k1=k then (FT ks xs).map (.int k a:: ·) else none
 | .bool ::ks,.bool a::xs=>(FT ks xs).map (.bool a:: ·)
 | .str ::ks,.str s::xs=>(FT ks xs).map (.string s.data.toList:: ·)
 |_,_=>none
theorem eX:∀ (ks:List KK) (xs ys:List AV) (b:Bool),Dm ks xs ys=some b→∃as bs,FT ks xs=some as∧FT ks ys=some bs∧(b=true↔as=bs):=by
 intro ks xs ys
 induction ks generalizing xs ys with
 |nil=>
  intro b h
  cases xs <;> cases ys <;> simp only [Dm] at h <;> try (cases h; done)
  cases h
  exact⟨[],[],rfl,rfl,by simp⟩
 | cons k ks ih=>
  intro b h
  cases xs with
  |nil=>cases k <;> simp [Dm] at h
  | cons x xs=>
   cases ys with
   |nil=>cases k <;> cases x <;> simp [Dm] at h
   | cons y ys=>
    cases k <;> cases x <;> first|(cases y <;> simp only [Dm] at h <;> cases h; done)|skip
    ·rename_i k k1 a
     cases y <;> simp only [Dm] at h <;> try (cases h; done)
     grind [Option.map_eq_some_iff,FT]
    ·rename_i a
     cases y <;> simp only [Dm] at h <;> try (cases h; done)
     grind [Option.map_eq_some_iff,FT]
    ·rename_i a
     cases y <;> simp only [Dm] at h <;> try (cases h; done)
     grind [Option.map_eq_some_iff,FT,ByteArray.toList_eq]
theorem Nw:∀ {k1 k2} {xs} {l},FT (k1++k2) xs=some l→∃l1 l2,FT k1 (xs.take k1.length)=some l1∧FT k2 (xs.drop k1.length)=some l2∧l=l1++l2
 | [],k2,xs,l,h=>⟨[],l,by rfl,by grind,rfl⟩
 |k::k1,k2,[],l,h=>by cases k <;> simp [FT] at h
 | k::k1,k2,x::xs,l,h=>by
  cases k <;> cases x <;> simp only [List.cons_append,FT] at h <;> try (cases h; done)
  ·split at h
   ·rename_i hk
    simp only [Option.map_eq_some_iff] at h
    obtain⟨l',h1,rfl⟩:=h
    obtain⟨l1,l2,h2,h3,rfl⟩:=Nw h1
    exact⟨_::l1,l2,by simp [FT,hk,h2],by simpa using h3,rfl⟩
   grind
  ·simp only [Option.map_eq_some_iff] at h
   obtain⟨l',h1,rfl⟩:=h
   obtain⟨l1,l2,h2,h3,rfl⟩:=Nw h1
   exact⟨_::l1,l2,by simp [FT,h2],by simpa using h3,rfl⟩
  ·simp only [Option.map_eq_some_iff] at h
   obtain⟨l',h1,rfl⟩:=h
   obtain⟨l1,l2,h2,h3,rfl⟩:=Nw h1
   exact⟨_::l1,l2,by simp [FT,h2],by simpa using h3,rfl⟩
theorem Jm:∀ {ks} {xs} {l},FT ks xs=some l→xs.length=ks.length
 | [],[],_,_=>rfl
 | [],_::_,_,h=>by grind [FT]
 |k::_,[],_,h=>by cases k <;> simp [FT] at h
 | k::ks,x::xs,l,h=>by
  cases k <;> cases x <;> simp only [FT] at h <;> try (cases h; done)
  ·split at h
   ·simp only [Option.map_eq_some_iff] at h
    obtain⟨l',h1,rfl⟩:=h
    simp [Jm h1]
   ·cases h
  ·simp only [Option.map_eq_some_iff] at h
   obtain⟨l',h1,rfl⟩:=h
   simp [Jm h1]
  ·simp only [Option.map_eq_some_iff] at h
   obtain⟨l',h1,rfl⟩:=h
   simp [Jm h1]
theorem Nx {w0} {γ}:∀ {xs} {us},AH w0 γ xs us→us.length=xs.length
 | [],us,h=>by grind [AH]
 |x::xs,us,h=>by
  simp only [AH] at h
  obtain⟨u,us',rfl,-,h⟩:=h
  simp [Nx h]
theorem T7 {w0} {γ}:∀ (n:Nat) {xs} {us},AH w0 γ xs us→AH w0 γ (xs.take n) (us.take n)∧AH w0 γ (xs.drop n) (us.drop n)
 |0,xs,us,h=>by simp [AH,h]
 |n+1,[],us,h=>by grind [AH]
 |n+1,x::xs,us,h=>by
  simp only [AH] at h
  obtain⟨u,us',rfl,h1,h2⟩:=h
  obtain⟨h3,h4⟩:=T7 n h2
  exact⟨by simp only [List.take_succ_cons,AH]; exact⟨u,_,rfl,h1,h3⟩,by simpa using h4⟩
theorem O4 {P} {d} {t} {ks} (h:K5 P d t=some ks):ks.length=P.cellsOf t:=by
 cases d with
 |zero=>grind [K5]
 |succ d=>
  rw [K5] at h
  grind
theorem T8 {P} {w0} {γ} {D} (IH:∀t ks xs us la,K5 P D t=some ks→FT ks xs=some la→AH w0 γ xs us→P.keyLits D t us=some la) (cs:List Value):
  ∀ (fs:List Field) (i:Nat) (ks:List KK) (xs:List AV) (us:List Value) (la:List Lit),P4 P (K5 P D) i fs=some ks→FT ks xs=some la→AH w0 γ xs us→cs.drop i=us→
  ∃ls,fs.mapM (fun f=>P.keyLits D f.type ((cs.drop f.offset).take (P.cellsOf f.type)))=some ls∧ls.flatten=la
 | [],i,ks,xs,us,la,h,h1,h2,h3=>by
  simp only [P4,Option.some.injEq] at h
  subst h
  cases xs <;> simp [FT] at h1
  simp_all
 | f::fs,i,ks,xs,us,la,h,h1,h2,h3=>by
  rw [P4] at h
  split at h
  ·rename_i hf
   split at h
   ·rename_i a b ha hb
    cases h
    obtain⟨l1,l2,h4,h5,rfl⟩:=Nw h1
    obtain⟨v1,v2⟩:=T7 a.length h2
    have hl:=O4 ha
    have k1:=IH _ _ _ _ _ ha h4 v1
    obtain⟨ls,hl1,hl2⟩:=T8 IH cs fs (i+P.cellsOf f.type) b _ _ l2 hb h5 v2 (by rw [← hl,← List.drop_drop,h3])
    simp_all
   grind
  grind
theorem T9 {P} {w0} {γ}:∀ (D:Nat) (t:TypeId) (ks:List KK) (xs:List AV) (us:List Value) (la:List Lit),K5 P D t=some ks→FT ks xs=some la→AH w0 γ xs us→P.keyLits D t us=some la
 |0,_,_,_,_,_,h,_,_=>by grind [K5]
 | D + 1,t,ks,xs,us,la,h,h1,h2=>by
  have hlen:=O4 h
  have hxl:=Jm h1
  have hul:=Nx h2
  rw [K5] at h
  split at h
  ·rename_i ks' hks
   split at h
   ·cases h
    split at hks
    ·rename_i hu
     cases hks
     match xs,us,h1,h2 with
     | [.bool b],us,h1,h2=>
      simp only [AH,VSim] at h2
      obtain⟨u,us',rfl,rfl,rfl⟩:=h2
      simp [FT] at h1
      subst h1
      simp [Program.keyLits,hu]
    ·rename_i k hu
     cases hks
     match xs,us,h1,h2 with
     | [.int k1 n],us,h1,h2=>
      simp only [AH,VSim] at h2
      obtain⟨u,us',rfl,⟨rfl,hwf⟩,rfl⟩:=h2
      simp only [FT] at h1
      split at h1
      ·rename_i hk
       subst hk
       simp at h1
       subst h1
       simp [Program.keyLits,hu,hwf]
      ·cases h1
    ·rename_i hu
     cases hks
     match xs,us,h1,h2 with
     | [.str s],us,h1,h2=>
      simp only [AH,VSim] at h2
      obtain⟨u,us',rfl,⟨rfl,hwf⟩,rfl⟩:=h2
      simp [FT] at h1
      subst h1
      simp [Program.keyLits,hu,hwf]
    ·rename_i fs hu
     split at hks
     ·rename_i hn
      obtain⟨ls,hl1,hl2⟩:=T8 (D:=D) (fun t ks xs us la=>T9 D t ks xs us la) us fs.toList 0 ks xs us la hks h1 h2 (by simp)
      unfold Program.keyLits
      simp only [hu]
      rw [if_pos ⟨by omega,hn⟩,hl1,Option.map_some,hl2]
     ·cases hks
    ·cases hks
   ·cases h
  ·cases h
theorem VT {P} {w w0} {γ} {t} {ks} {xs ys} {us vs} {b} (ht:Eo P t=some ks) (hb:Dm ks xs ys=some b) (hx:AH w0 γ xs us) (hy:AH w0 γ ys vs):
  (Op.equal t (.agg us.toArray) (.agg vs.toArray)).run P w= .ok b w∧P.eqGuardType P.depth t=false:=by
 unfold Eo at ht
 split at ht
 ·rename_i fs hu
  split at ht
  ·rename_i hc
   obtain⟨hc2,hc3⟩:=hc
   obtain⟨as,bs,ha,hb',hiff⟩:=eX _ _ _ _ hb
   have hlen:=O4 ht
   have ka:=T9 4 t ks xs us as ht ha hx
   have kb:=T9 4 t ks ys vs bs ht hb' hy
   have lu:us.length=P.cellsOf t:=by rw [Nx hx,Jm ha,hlen]
   have lv:vs.length=P.cellsOf t:=by rw [Nx hy,Jm hb',hlen]
   obtain⟨r,hr,hri⟩:=run_equalIn_deep 9996 4 t hc2 w 4 4 (.agg us.toArray) (.agg vs.toArray) _ _ (by grind [Value.formed]) (by grind [Value.formed]) (by simpa [Value.cells] using ka) (by simpa [Value.cells] using kb)
   grind [Op.equal,Op.maxDepth]
  grind
 grind
def EvK (cx:Cx) (γ:Gh) (T:Nat→Option Tok) (B:Nat→Option (List AV)) (o:Oper) (a:Act) (next:Act→World→Prop) (r:Res):Prop:=
 ∀v w' γ',Gh.Ext γ γ'→(∀t,γ'.tl t→γ.tl t∨∃x ∈ r.t,x.1 =t)→(∀b,γ'.bl b→γ.bl b∨∃x ∈ r.b,x.1 =b)→OSim cx γ' T B w'→VSim γ'.vw γ' r.v v→next (a.put o.dst v) w'
section
variable {cx:Cx} {γ:Gh} {T:Nat→Option Tok} {B:Nat→Option (List AV)} {w:World} {o:Oper} {a:Act} {next:Act→World→Prop} {Q:Exit→Act→World→Prop}
theorem A2 (hs:OSim cx γ T B w) {av} {v} (hr:(execOp a.eval o).run cx.P w= .ok (.value v) w) (hv:VSim γ.vw γ av v) (hk:EvK cx γ T B o a next ⟨av,[],[]⟩):o.wp cx.P a w next Q:=
 L2 hr (hk v w γ (Gh.Ext.refl γ) (fun t h=>.inl h) (fun b h=>.inl h) hs hv)
theorem V8 {op} {t} {x y v} {u u'} {ox oy} (hx:VSim γ.vw γ x u) (hy:VSim γ.vw γ y u') (h:Bin cx.P op t x y v):
  ∃r,(do eqGuard op t ox oy u u'; binOp op t u u':Sem Value).run cx.P w= .ok r w∧VSim γ.vw γ v r:=by
 unfold Bin at h
 split at h
 ·simp only [VSim] at hx hy
  obtain⟨us,rfl,hx⟩:=hx
  obtain⟨vs,rfl,hy⟩:=hy
  obtain⟨ks,b,h1,h2,h⟩:=h
  obtain⟨h3,h4⟩:=VT (w:=w) h1 h2 hx hy
  cases op <;> simp only at h
  case eql=>simp_all [eqGuard,binOp,FO]
  simp_all [eqGuard,binOp,FO]
 ·rename_i k a k' b
  simp only [VSim] at hx hy
  obtain⟨rfl,hwx⟩:=hx
  obtain⟨rfl,hwy⟩:=hy
  cases op <;> simp only [MR,Option.some.injEq] at h
  case shl=>obtain⟨hb,rfl⟩:=h; simp_all [eqGuard_shl,binOp_shl,shift_shl_any,Da,Gx]
  case shr=>obtain⟨hb,rfl⟩:=h; simp_all [eqGuard_shr,binOp_shr,shift_shr_any,Da,kY]
  all_goals obtain⟨rfl,h⟩:=h
  case and=>subst h; exact⟨_,by simp [eqGuard_and,binOp_and,intBits_and],Da (Gx _ _)⟩
  case or=>subst h; exact⟨_,by simp [eqGuard_or,binOp_or,intBits_or],Da (Gx _ _)⟩
  case xor=>subst h; exact⟨_,by simp [eqGuard_xor,binOp_xor,intBits_xor],Da (Gx _ _)⟩
  case andNot=>subst h; exact⟨_,by simp [eqGuard_andNot,binOp_andNot,intBits_andNot],Da (Gx _ _)⟩
  case quo=>obtain⟨hb,rfl⟩:=h; simp_all [eqGuard,binOp,Op.intDiv,Da,Gx]
  case rem=>obtain⟨hb,rfl⟩:=h; simp_all [eqGuard,binOp,Op.intDiv,Da,g4]
  case add=>subst h; simp [eqGuard,binOp,Op.intArith,Da,Gx]
  case sub=>subst h; simp [eqGuard,binOp,Op.intArith,Da,Gx]
  case mul=>subst h; simp [eqGuard,binOp,Op.intArith,Da,Gx]
  case eql=>subst h; simp [eqGuard,binOp,Op.intCmp,Bool.beq_eq_decide_eq,FO]
  case neq=>subst h; simp [eqGuard,binOp,Op.intCmp,bne,Bool.beq_eq_decide_eq,FO]
  case lss=>subst h; simp [eqGuard,binOp,Op.intCmp,FO]
  case leq=>subst h; simp [eqGuard,binOp,Op.intCmp,FO]
  case gtr=>subst h; simp [eqGuard,binOp,Op.intCmp,FO]
  case geq=>subst h; simp [eqGuard,binOp,Op.intCmp,FO]
  all_goals cases h
 ·rename_i a b
  simp only [VSim] at hx hy
  subst hx hy
  split at h
  ·rename_i hu
   subst h
   exact⟨.bool (a == b),by
    have hu':cx.P.underlying t=some .bool :=by unfold ti at hu; split at hu <;> simp_all
    simp [eqGuard,binOp,SZ hu'],FO⟩
  ·rename_i hu
   subst h
   exact⟨.bool (!(a == b)),by
    have hu':cx.P.underlying t=some .bool :=by unfold ti at hu; split at hu <;> simp_all
    simp [eqGuard,binOp,SZ hu'],FO⟩
  grind
 ·rename_i a b
  simp only [VSim] at hx hy
  obtain⟨rfl,ha⟩:=hx
  obtain⟨rfl,hb⟩:=hy
  cases op <;> simp only at h
  case eql=>simp_all [eqGuard,binOp,Op.stringOp,FO]
  case neq=>simp_all [eqGuard,binOp,Op.stringOp,FO]
  case add=>
   obtain⟨hl,rfl⟩:=h
   refine⟨.string (a++b),?_,W6 (by rw [ByteArray.size_append]; exact hl)⟩
   unfold maxLen at hl
   have:¬ (((a.size+b.size:Nat):Int) > IntKind.i64.max):=by grind [IntKind.max,IntKind.bits]
   simp_all [eqGuard,binOp,Op.stringOp]
  all_goals exact h.elim
 ·simp only [VSim] at hx hy
  subst hx hy
  split at h
  ·rename_i e hu
   subst h
   exact⟨.bool true,by
    have hu':cx.P.underlying t=some (.pointer e):=by unfold ti at hu; split at hu <;> simp_all
    simp_all [eqGuard,binOp,L3],FO⟩
  ·rename_i e hu
   subst h
   exact⟨.bool false,by
    have hu':cx.P.underlying t=some (.pointer e):=by unfold ti at hu; split at hu <;> simp_all
    simp_all [eqGuard,binOp,L3],FO⟩
  grind
 all_goals first
  |exact h.elim
  | (
   simp only [VSim] at hx hy
   obtain⟨p,hp⟩:∃p,(u= .pointer (some p)∧u'= .pointer none)∨(u= .pointer none∧u'= .pointer (some p)):=by
    first
     |exact⟨_,.inl ⟨hx.2,hy⟩⟩
     |exact⟨_,.inr ⟨hx,hy.2⟩⟩
     |(obtain⟨b,o,us,hx,-⟩:=hx; exact⟨_,.inl ⟨hx,hy⟩⟩)
     |(obtain⟨b,o,us,hy,-⟩:=hy; exact⟨_,.inr ⟨hx,hy⟩⟩)
   split at h
   ·rename_i e hu
    subst h
    have hu':cx.P.underlying t=some (.pointer e):=by unfold ti at hu; split at hu <;> simp_all
    refine⟨.bool false,?_,FO⟩
    rcases hp with ⟨rfl,rfl⟩|⟨rfl,rfl⟩ <;> simp [eqGuard,binOp,L3 hu',Sa hu']
   ·rename_i e hu
    subst h
    have hu':cx.P.underlying t=some (.pointer e):=by unfold ti at hu; split at hu <;> simp_all
    refine⟨.bool true,?_,FO⟩
    rcases hp with ⟨rfl,rfl⟩|⟨rfl,rfl⟩ <;> simp [eqGuard,binOp,L3 hu',Sa hu']
   ·exact h.elim)
theorem ce {op} {x v} {u} (hx:VSim γ.vw γ x u) (h:Uno op x v):∃r,(Op.unary op u).run cx.P w= .ok r w∧VSim γ.vw γ v r:=by
 unfold Uno at h
 split at h
 ·simp_all [VSim,Op.unary]
 ·simp only [VSim] at hx; obtain⟨rfl,hw⟩:=hx; simp_all [Op.unary,Op.intArith,Da,Gx]
 ·simp only [VSim] at hx; obtain⟨rfl,hw⟩:=hx; subst h; exact⟨_,by rfl,Da (Gx _ _)⟩
 grind
theorem cf (hs:OSim cx γ T B w) {t} {x i v} {u u'} (hx:VSim γ.vw γ x u) (hi:VSim γ.vw γ i u') (h:Tp cx.P T t x i v):
  ∃r,(Instr.indexAt t u u').run cx.P w= .ok r w∧VSim γ.vw γ v r:=by
 unfold Tp at h
 split at h
 ·rename_i e rows k n hu
  obtain⟨hsz,row,⟨h0,hrow,hl⟩,rfl⟩:=h
  simp only [VSim] at hx hi
  obtain⟨rfl,-⟩:=hi
  have hlt:=Bb hrow
  simp only [Rep] at hx
  obtain⟨ad,c,rfl,-,-,h3⟩:=hx
  rcases h3 with h3|⟨sz,b,off,rfl,hR⟩
  ·rw [h3] at hlt; grind
  ·have hn:n<rows.length:=by omega
   have hat:=hR.at _ hlt
   rw [List.getElem?_eq_getElem hlt] at hrow
   simp only [Option.some.injEq] at hrow
   rw [hrow] at hat
   have hsz':sz=tsz cx.P e:=by omega
   refine⟨.pointer (some ⟨b,off+n.toNat*tsz cx.P e,none⟩),?_,?_⟩
   ·simp [Instr.indexAt,run_underlying (I3 hu),asIntOf,h0,hn,DZ hsz,Addr.add_lit]
   ·obtain⟨us,k1,k2⟩:=RT (γ:=γ) hat.2
    grind [VSim]
 ·rename_i e t' k n hu
  obtain⟨hsz,tk,row,hT,⟨h0,hrow,hl⟩,rfl⟩:=h
  simp only [VSim] at hx hi
  obtain⟨rfl,-⟩:=hi
  obtain⟨⟨htl,-⟩,rfl⟩:=hx
  have hlt:=Bb hrow
  have hown:=(hs.tok t' tk htl hT).own
  simp only [Own] at hown
  rcases hown with ⟨he,-,-⟩|⟨sz',g,o',c',e',cs,fps,hv,h1,h2,hb,h3,hr,-⟩
  ·rw [he] at hlt; grind
  ·have hn:n<tk.rows.length:=by omega
   refine⟨.pointer (some ⟨g,o'+n.toNat*tsz cx.P e,none⟩),?_,?_⟩
   ·rw [hv]
    simp [Instr.indexAt,run_underlying (I3 hu),asIntOf,h0,hn,DZ hsz,Addr.add_lit]
   grind [VSim]
 ·rename_i e t' g p k n hu
  obtain⟨hsz,rows,row,hsub,⟨h0,hrow,hl⟩,rfl⟩:=h
  simp only [VSim] at hx hi
  obtain⟨rfl,-⟩:=hi
  obtain⟨⟨htl,hgl⟩,-,rfl⟩:=hx
  have hlt:=Bb hrow
  obtain⟨tk,f1,f2,f3,-,-,-,-,-,hown,-⟩:=Kp hs.see htl hsub
  simp only [Own] at hown
  rcases hown with ⟨he,-,-⟩|⟨sz',b,o',c',e',cs,fps,hv,h1,h2,hb,h3,hr,-⟩
  ·rw [he] at hlt; grind
  ·have hn:n<rows.length:=by omega
   refine⟨.pointer (some ⟨b,o'+n.toNat*tsz cx.P e,none⟩),?_,?_⟩
   ·rw [hv]
    simp [Instr.indexAt,run_underlying (I3 hu),asIntOf,h0,hn,DZ hsz,Addr.add_lit]
   grind [VSim]
 ·rename_i l e b off k n hu
  obtain⟨hsz,⟨h0,hn⟩,rfl⟩:=h
  simp only [VSim] at hx hi
  obtain⟨rfl,-⟩:=hi
  obtain⟨hbl,rfl⟩:=hx
  have hu':cx.P.underlying t=some (.array l e):=by
   unfold ti at hu
   split at hu <;> simp_all
  refine⟨.pointer (some ⟨γ.bb b,γ.bo b+(off+n.toNat*tsz cx.P e),none⟩),?_,?_⟩
  ·simp [Instr.indexAt,Instr.sureAddr,run_underlying hu',asIntOf,h0,hn,DZ hsz,Addr.add_lit,Nat.add_assoc]
  ·simp [VSim,hbl,Nat.add_assoc]
 grind
theorem M3 {P} {t k e} (h:ti P t= .map k e):P.underlying t=some (.map k e):=by
 unfold ti at h
 split at h <;> simp_all
theorem cg {a b} (h:Tm a=Tm b):a=b:=by
 unfold Tm at h
 simp only [Value.tuple.injEq] at h
 have h1:a.map (fun e=>Value.tuple #[e.1,e.2])=b.map fun e=>Value.tuple #[e.1,e.2] :=by grind
 clear h
 induction a generalizing b with
 |nil=>simp_all
 | cons x a ih=>cases b with
  |nil=>grind
  |cons y b=>
   grind
theorem BJ.length {q}:∀ {rows} {es},BJ q rows es→es.length=rows.length
 | [],es,h=>by grind [BJ]
 |r::rs,es,h=>by
  simp only [BJ] at h
  obtain⟨e,es',rfl,-,h⟩:=h
  simp [BJ.length h]
theorem Te (hs:OSim cx γ T B w) {b} {q} {rows} (hbl:γ.bl b) (hB:B b=some [.mpc q rows]):∃es k,w.heap[γ.bb b]? =some (.map es k)∧BJ q rows (Ga es)∧rows.length≤68719476736∧MapKept.Stamped es k:=by
 obtain⟨us,h1,h2⟩:=hs.box b _ hbl hB
 obtain⟨-,es,k,h3,h4,h5⟩:=h2.map rfl
 grind [AH,VSim,cg]
theorem O5 (n:Nat) (hn:n≤maxLen):(Lit.int .i64 (n:Int)).wf =true:=by
 grind [maxLen,Lit.wf,IntKind.min,IntKind.max,IntKind.bits]
theorem ci (hs:OSim cx γ T B w) {t ty} {x v} {u} (hx:VSim γ.vw γ x u) (h:To cx.P T B t x v):
  ∃r,(Builtin.len_ #[t] ty #[u]).run cx.P w= .ok r w∧VSim γ.vw γ v r:=by
 unfold To at h
 split at h
 ·rename_i s hu
  subst h
  simp only [VSim] at hx
  obtain⟨rfl,hs'⟩:=hx
  exact⟨_,by simp [Builtin.len_,run_underlying (W5 hu)]; rfl,Da (O5 _ hs')⟩
 ·rename_i rows hu
  subst h
  simp only [VSim,Rep] at hx
  obtain⟨ad,c,rfl,h1,h2,-⟩:=hx
  exact⟨_,by simp [Builtin.len_,run_underlying (I3 hu)]; rfl,Da (O5 _ (Nat.le_trans h1 h2))⟩
 ·rename_i hu
  subst h
  simp only [VSim] at hx
  subst hx
  exact⟨_,by simp [Builtin.len_,run_underlying (I3 hu)]; rfl,Da (O5 0 (Nat.zero_le _))⟩
 ·rename_i hu
  subst h
  simp only [VSim] at hx
  obtain⟨-,hn,rfl⟩:=hx
  exact⟨_,by simp [Builtin.len_,run_underlying (I3 hu)]; rfl,Da (O5 _ hn)⟩
 ·rename_i t' hu
  obtain⟨tk,hT,rfl⟩:=h
  simp only [VSim] at hx
  obtain⟨⟨htl,-⟩,rfl⟩:=hx
  have hrep:=(hs.tok t' tk htl hT).rep hs.vw.k
  simp only [Rep] at hrep
  obtain⟨ad,c,hv,h1,h2,-⟩:=hrep
  exact⟨_,by rw [hv]; simp [Builtin.len_,run_underlying (I3 hu)]; rfl,Da (O5 _ (Nat.le_trans h1 h2))⟩
 ·rename_i t' g p hu
  obtain⟨rows,hsub,rfl⟩:=h
  simp only [VSim] at hx
  obtain⟨⟨htl,-⟩,-,rfl⟩:=hx
  obtain⟨tk,f1,f2,f3,-,-,-,-,-,hown,-⟩:=Kp hs.see htl hsub
  have hrep:=hown.rep (Tok.vwk hs.vw.k)
  simp only [Rep] at hrep
  obtain⟨ad,c,hv,h1,h2,-⟩:=hrep
  exact⟨_,by rw [hv]; simp [Builtin.len_,run_underlying (I3 hu)]; rfl,Da (O5 _ (Nat.le_trans h1 h2))⟩
 ·rename_i kt et b hu
  obtain⟨q,rows,hB,rfl⟩:=h
  simp only [VSim] at hx
  obtain⟨hbl,rfl⟩:=hx
  obtain⟨es,k,h1,h2,h3⟩:=Te hs hbl hB
  have hl:es.size=rows.length:=by have:=h2.length; grind [Ga]
  exact⟨.int .i64 rows.length,by simp [Builtin.len_,run_underlying (M3 hu),MapKept.run_getObj_map h1,hl,goInt],Da (O5 _ (by grind [maxLen]))⟩
 grind
end
end Go.Proofs.YtclmbjbbojdojaaGreat.Ab
namespace Go.Proofs.YtclmbjbbojdojaaGreat.Ab
set_option linter.unusedVariables false
set_option maxHeartbeats 1000000
set_option linter.unusedSimpArgs false
open Go.RowKit
theorem GM {w0} {γ} {a} {u} {vs} (ha:VSim w0 γ a u) (h:cellsOf a=some vs):AH w0 γ vs u.cells.toList:=by
 cases a with
 |any=>grind [cellsOf]
 |tup vs=>grind [cellsOf]
 |agg vs'=>
  grind [cellsOf,VSim,Value.cells]
 |mpc q rows=>grind [cellsOf]
 |mpr b=>grind [cellsOf,VSim,AH,Value.cells]
 |int k n=>grind [cellsOf,VSim,AH,Value.cells]
 |bool b=>grind [cellsOf,VSim,AH,Value.cells]
 |str s=>grind [cellsOf,VSim,AH,Value.cells]
 |nilp=>grind [cellsOf,VSim,AH,Value.cells]
 |nils=>grind [cellsOf,VSim,AH,Value.cells]
 |box b off=>grind [cellsOf,VSim,AH,Value.cells]
 |bsl b n sz=>grind [cellsOf,VSim,AH,Value.cells]
 |ro rows=>grind [cellsOf,VSim,Rep,AH,Value.cells]
 |rop ds off=>grind [cellsOf,VSim,AH,Value.cells]
 |elt t sz i off=>grind [cellsOf,VSim,AH,Value.cells]
 |par t sz i n=>grind [cellsOf,VSim,AH,Value.cells]
 |els t g p sz i off=>grind [cellsOf,VSim,AH,Value.cells]
 |sub t g p=>grind [cellsOf,VSim,AH,Value.cells]
 |fn f caps=>simp only [cellsOf,Option.some.injEq] at h; subst h; have h2:=ha; simp only [VSim] at ha; obtain⟨_,hf,-⟩:=ha; rcases hf with ⟨-,rfl⟩|⟨_,_,-,rfl⟩ <;> (simp only [AH,Value.cells]; exact⟨_,_,rfl,h2,rfl⟩)
 |own t=>grind [cellsOf,VSim,AH,Value.cells]
theorem UA {a} {vs} (h:cellsOf a=some vs):RQ vs=true:=by
 cases a with
 |agg vs'=>
  grind [cellsOf]
 |any=>grind [cellsOf]
 |tup vs=>grind [cellsOf]
 |mpc q rows=>grind [cellsOf]
 |_=>simp only [cellsOf,Option.some.injEq] at h; subst h; rfl
theorem eY {a b}:RQ (a++b)=(RQ a&&RQ b):=by simp [RQ]
theorem LP {w0} {γ} (u:Value):VSim w0 γ (zAV u) u:=by
 unfold zAV
 split
 ·rename_i k n
  split
  ·rename_i h; subst h; exact Da (by cases k <;> simp [Lit.wf,IntKind.min,IntKind.max,IntKind.signed,IntKind.bits])
  ·trivial
 ·rfl
 ·split
  ·grind [W6]
  ·trivial
 ·rfl
 ·rfl
 ·trivial
theorem RW:∀ (cs:List Value) (k:Nat) (A B C:List Value) (off:Nat),A.length=off+k→B.length=cs.length→
  (cs.zipIdx k).foldl (fun (acc:Array Value) (x:Value × Nat)=>acc.setIfInBounds (off+x.2) x.1) (A++(B++C)).toArray =(A++(cs++C)).toArray
 | [],k,A,B,C,off,hA,hB=>by
  simp_all
 | c::cs,k,A,B,C,off,hA,hB=>by
  match B,hB with
  | b::B,hB=>
   simp only [List.zipIdx_cons,List.foldl_cons]
   have e:(A++(b::B++C)).toArray.setIfInBounds (off+k) c=((A++[c])++(B++C)).toArray :=by
    rw [List.setIfInBounds_toArray,← hA,List.set_append_right _ _ (Nat.le_refl _),Nat.sub_self]
    simp
   rw [e,RW cs (k+1) (A++[c]) B C off (by simp; omega) (by simpa using hB)]
   simp
theorem YE (sz:Nat):∀ (vs:List Value) (k:Nat) (A B:List Value),(∀v ∈ vs,v.cells.size=sz)→A.length=k*sz→B.length=vs.length*sz→
  Instr.fill (fun i=>some (i*sz,sz)) (A++B).toArray ((vs.zipIdx k).map fun x=>(x.2,x.1))=some (A++(vs.map fun v=>v.cells.toList).flatten).toArray
 | [],k,A,B,hv,hA,hB=>by
  simp_all [Instr.fill]
 | v::vs,k,A,B,hv,hA,hB=>by
  have hs:=hv v (by simp)
  rw [List.length_cons,Nat.add_mul] at hB
  have hsz:v.cells.toList.length=sz:=by simpa using hs
  have key:Array.foldl (fun cs x=>match x with|(c,j)=>cs.setIfInBounds (k*sz+j) c) (A++B).toArray v.cells.zipIdx=((A++v.cells.toList)++B.drop sz).toArray :=by
   have h0:=RW v.cells.toList 0 A (B.take sz) (B.drop sz) (k*sz) (by omega) (by rw [List.length_take]; omega)
   rw [List.take_append_drop] at h0
   rw [← Array.foldl_toList,Array.toList_zipIdx,List.append_assoc]
   exact h0
  simp only [List.zipIdx_cons,List.map_cons,Instr.fill]
  rw [if_neg]
  ·rw [key,YE sz vs (k+1) (A++v.cells.toList) (B.drop sz) (fun x hx=>hv x (by simp [hx])) (by rw [List.length_append,Nat.add_mul]; omega) (by rw [List.length_drop]; omega)]
   simp
  ·simp only [hs,ne_eq,not_true_eq_false,decide_false,Bool.false_or,decide_eq_true_eq]
   simp only [List.size_toArray,List.length_append]
   omega
theorem Ek {α:Type}:∀ (cs vs:List α) (off:Nat),off+cs.length≤vs.length→splice vs off cs=vs.take off++(cs++vs.drop (off+cs.length))
 | [],vs,off,h=>by simp [splice]
 | c::cs,vs,off,h=>by
  rw [List.length_cons] at h
  rw [splice,Ek cs (vs.set off c) (off+1) (by rw [List.length_set]; omega)]
  have h1:(vs.set off c).take (off+1)=vs.take off++[c] :=by
   rw [List.take_succ_eq_append_getElem (by rw [List.length_set]; omega)]
   simp [List.take_set_of_le]
  have h2:(vs.set off c).drop (off+1+cs.length)=vs.drop (off+(cs.length+1)):=by
   rw [List.drop_set_of_lt (by omega)]
   grind
  rw [h1,h2]
  simp
theorem AH.splice {w0} {γ}:∀ {cs vs} {us ws} {off},AH w0 γ vs us→AH w0 γ cs ws→AH w0 γ (Ab.splice vs off cs) (Ab.splice us off ws)
 | [],vs,us,ws,off,h,hc=>by simp only [AH] at hc; subst hc; exact h
 |c::cs,vs,us,ws,off,h,hc=>by
  simp only [AH] at hc
  obtain⟨u,ws',rfl,h1,h2⟩:=hc
  rw [Ab.splice,Ab.splice]
  exact AH.splice (h.set h1 off) h2
theorem L4 {α:Type}:∀ (cs vs:List α) (off:Nat),(splice vs off cs).length =vs.length
 | [],vs,off=>rfl
 |c::cs,vs,off=>by rw [splice,L4]; simp
theorem cj {pl} {us} {f off size} {v} {rest} (hp:pl f=some (off,size)) (hs:v.cells.size=size) (hl:off+v.cells.size≤us.length):
  Instr.fill pl us.toArray ((f,v)::rest)=Instr.fill pl (splice us off v.cells.toList).toArray rest:=by
 have key:Array.foldl (fun cs x=>match x with|(c,j)=>cs.setIfInBounds (off+j) c) us.toArray v.cells.zipIdx=(splice us off v.cells.toList).toArray :=by
  have hcl:v.cells.toList.length=v.cells.size:=Array.length_toList
  have h0:=RW v.cells.toList 0 (us.take off) ((us.drop off).take v.cells.size) (us.drop (off+v.cells.size)) off (by rw [List.length_take]; omega) (by rw [List.length_take,List.length_drop,hcl]; omega)
  have e1:us.take off++((us.drop off).take v.cells.size++us.drop (off+v.cells.size))=us:=by
   rw [← List.drop_drop,List.take_append_drop,List.take_append_drop]
  rw [e1] at h0
  rw [Ek _ _ _ (by rw [hcl]; exact hl),hcl,← Array.foldl_toList,Array.toList_zipIdx]
  exact h0
 grind [Instr.fill]
theorem M4 {P:Program} {w0:World} {γ:Gh} {e:Operand→AV} {ρ:Operand→Value} {fs:List (Nat × TypeId)} {pl:Nat→Option (Nat × Nat)} (hpl:∀f q,fs[f]? =some q→pl f=some (q.1,tsz P q.2)):
  ∀ {parts:List (Nat × Operand)} {vs ws:List AV} {us:List Value},(∀x ∈ parts,VSim w0 γ (e x.2) (ρ x.2))→AH w0 γ vs us→Lz P fs vs (parts.map fun x=>(x.1,e x.2))=some ws→
   ∃us',Instr.fill pl us.toArray (parts.map fun x=>(x.1,ρ x.2))=some us'.toArray∧AH w0 γ ws us'
 | [],vs,ws,us,_,hv,h=>by
  simp only [List.map_nil,Lz,Option.some.injEq] at h
  subst h
  exact⟨us,rfl,hv⟩
 | (f,x)::parts,vs,ws,us,hx,hv,h=>by
  simp only [List.map_cons,Lz] at h
  cases hq:fs[f]? with
  |none=>grind
  | some q=>
   cases hc:cellsOf (e x) with
   |none=>grind
   | some cs=>
    simp only [hq,hc] at h
    split at h
    ·rename_i hl
     have h1:=GM (hx (f,x) (by simp)) hc
     have h2:=h1.length
     have h3:(ρ x).cells.toList.length =(ρ x).cells.size :=Array.length_toList
     have h2':(ρ x).cells.toList.length =cs.length:=h2
     have h4:=hv.length
     obtain⟨us',k1,k2⟩:=M4 hpl (parts:=parts) (fun y hy=>hx y (by grind)) (hv.splice h1 (off:=q.1)) h
     grind [cj]
    grind
theorem kZ {q} {V w} {u} {d} (h:zD q u=some d):Own V w d u [] :=by
 unfold zD at h
 split at h
 ·rename_i k n
  split at h
  ·rename_i hn
   simp only [Option.some.injEq] at h; subst h; subst hn
   rw [Own]
   exact⟨rfl,by cases k <;> simp [Lit.wf,IntKind.min,IntKind.max,IntKind.signed,IntKind.bits],rfl⟩
  grind
 ·grind [Own]
 ·grind [Own]
 ·cases h; cases q
  ·exact .inl ⟨rfl,⟨none,0,rfl,Nat.zero_le _⟩,rfl⟩
  ·exact⟨⟨none,0,rfl,Nat.le_refl _,Nat.zero_le _,.inl rfl⟩,rfl⟩
  ·exact⟨⟨none,rfl⟩,rfl⟩
 ·grind [Own]
 grind
theorem eZ {q} {V w} {cs}:∀ (zs:List Value) (ds:List D) (o:Nat),zDs q zs=some ds→(∀j u,zs[j]? =some u→cs[o+j]? =some u)→OwnC V w cs o ds []
 | [],ds,o,h,_=>by grind [zDs,OwnC]
 | z::zs,ds,o,h,hc=>by
  simp only [zDs] at h
  cases h1:zD q z with
  |none=>simp [h1] at h
  | some d=>
   cases h2:zDs q zs with
   |none=>simp [h1,h2] at h
   |some ds'=>
    simp only [h1,h2,Option.some.injEq] at h
    subst h
    simp only [OwnC]
    refine⟨z,[],[],hc 0 z (by simp),kZ h1,eZ zs ds' (o+1) h2 fun j u hj=>?_,rfl⟩
    have:=hc (j+1) u (by simpa using hj)
    rw [← this]; congr 1; omega
theorem bG {q}:∀ {zs} {ds},zDs q zs=some ds→ds.length=zs.length
 | [],ds,h=>by grind [zDs]
 | z::zs,ds,h=>by
  simp only [zDs] at h
  split at h
  ·rename_i d ds' h1 h2
   simp only [Option.some.injEq] at h; subst h
   simp [bG h2]
  ·cases h
theorem ec {q} {V w} {cs zs} {ds} {sz} (hz:zDs q zs=some ds) (hl:zs.length=sz) (hsz:0<sz):∀ (n o:Nat),(∀j,j<n*sz→cs[o+j]? =zs[j % sz]?)→OwnR V w cs sz o (List.replicate n ds) []
 |0,o,_=>by rfl
 | n+1,o,h=>by
  rw [List.replicate_succ]
  simp only [OwnR]
  have hmul:(n+1)*sz=n*sz+sz:=Nat.succ_mul n sz
  refine⟨[],[],by rw [bG hz,hl],eZ zs ds o hz fun j u hj=>?_,ec hz hl hsz n (o+sz) fun j hj=>?_,rfl⟩
  ·have hj':j<sz:=by rw [← hl]; grind
   rw [h j (by omega),Nat.mod_eq_of_lt hj']; exact hj
  ·have:=h (sz+j) (by omega)
   rw [Nat.add_mod_left] at this
   rw [← this]; grind
structure Chg (w w':World) (W:Nat→Prop):Prop where
 os:w'.os=w.os
 tape:w'.tape=w.tape
 output:w'.output=w.output
 size:w.heap.size≤w'.heap.size
 block:∀k,k<w.heap.size→¬W k→w'.heap[k]? =w.heap[k]?
 shape:∀b x,w.shape? b=some x→w'.shape? b=some x
theorem Chg.refl (w:World) (W:Nat→Prop):Chg w w W:=⟨rfl,rfl,rfl,Nat.le_refl _,fun _ _ _=>rfl,fun _ _ h=>h⟩
theorem Chg.below {w w'} (h:Below w.heap.size w w') (W:Nat→Prop):Chg w w' W:=⟨h.os,h.tape,h.output,h.size,fun k hk _=>h.block k hk,fun b x hx=>by
 have hlt:b<w.heap.size:=by
  grind [World.shape?]
 unfold World.shape? at hx ⊢
 rw [h.block b hlt]; exact hx⟩
theorem Chg.setRow {w} {g} {cur cs} {e} (hg:w.heap[g]? =some (.cells cur e (0,0))) (hl:cs.size=cur.size):Chg w (w.setRow g cs) (· =g):=
 ⟨rfl,rfl,rfl,by simp,fun k _ hk=>setRow_other w g k cs hk,fun b x hx=>by
  by_cases hb:b=g
  ·subst hb
   unfold World.shape? at hx ⊢
   rw [hg] at hx
   rw [setRow_heap w b cur cs e (0,0) hg]
   grind
  grind [World.shape?,setRow_other]⟩
theorem Sb {P:Program} {w w':World} (h:w.ShapedOpen P) (same:∀i,i<P.low→i<w.heap.size→w'.heap[i]? =w.heap[i]?) (hsh:∀b x,w.shape? b=some x→w'.shape? b=some x):w'.ShapedOpen P:=by
 refine⟨fun g zero t hg hz=>?_,fun k hk1 hk2=>?_⟩
 ·obtain⟨cs,h1,h2,h3⟩:=h.1 g zero t hg hz
  have hlow:g<P.low:=by
   grind [Program.low]
  grind [Row.ok_of_shape]
 ·obtain⟨o,o₀,h1,h2,h3⟩:=h.2 k hk1 hk2
  exact⟨o,o₀,(same k hk2 (lt_of_block h1)).trans h1,h2,h3⟩
structure Free (cx:Cx) (γ:Gh) (T:Nat→Option Tok) (B:Nat→Option (List AV)) (g:Nat):Prop where
 t:∀t tk,γ.tl t→T t=some tk→g ∉ γ.tf t
 b:∀b vs,γ.bl b→B b=some vs→γ.bb b≠g
 fr:cx.we.heap.size≤g∨(cx.LF g∧∀x ∈ cx.L,x.1 ≠g)
 vw:∀o,γ.vw.cell? ⟨g,o,none⟩=none
section
variable {cx:Cx} {γ:Gh} {T:Nat→Option Tok} {B:Nat→Option (List AV)} {w w':World}
theorem OSim.change (hs:OSim cx γ T B w) {W:Nat→Prop} (hc:Chg w w' W) (hW:∀g,W g→Free cx γ T B g):OSim cx γ T B w':=by
 have hkt:∀t tk,γ.tl t→T t=some tk→∀g ∈ γ.tf t,w'.heap[g]? =w.heap[g]? :=fun t tk h1 h2 g hg=>
  hc.block g ((hs.tok t tk h1 h2).lt g hg) fun hw=>(hW g hw).t t tk h1 h2 hg
 refine⟨⟨?_,hc.os.trans hs.frm.os,hc.tape.trans hs.frm.tape,hc.output.trans hs.frm.output,Nat.le_trans hs.frm.size hc.size,fun k hk h1 h2=>?_,fun x hx=>?_⟩,fun t tk h1 h2=>(hs.tok t tk h1 h2).keep (hkt t tk h1 h2),hs.tnd,hs.tds,fun b vs h1 h2=>?_,hs.bds,hs.btd,hs.tfr,hs.bfr,fun t tk h1 h2=>(hs.hds t tk h1 h2).keep (hs.tok t tk h1 h2).own (hkt t tk h1 h2),hs.beg,⟨fun a u hu=>?_,hs.vw.t,hs.vw.b,hs.vw.f⟩⟩
 ·refine Sb hs.frm.sh (fun i hi hi'=>hc.block i hi' fun hw=>?_) hc.shape
  rcases (hW i hw).fr with h|⟨h,-⟩
  ·have:=cx.lowe; omega
  ·have:=cx.low i (.inl h); omega
 ·rw [hc.block k (Nat.lt_of_lt_of_le hk hs.frm.size) ?_]
  ·exact hs.frm.block k hk h1 h2
  ·intro hw
   rcases (hW k hw).fr with h|⟨h,-⟩
   ·omega
   grind
 ·have hl:=hs.frm.lent x hx
  refine hl.keep (hc.block x.1 hl.lt ?_)
  intro hw
  rcases (hW x.1 hw).fr with h|⟨-,h⟩
  ·have:=hl.lt0; omega
  grind
 ·obtain⟨us,h3,h4⟩:=hs.box b vs h1 h2
  exact⟨us,h3,h4.keep (hc.block _ h4.lt fun hw=>(hW _ hw).b b vs h1 h2 rfl)⟩
 ·have h1:=hs.vw.k a u hu
  have hlt:=World.block_lt_of_cell? w a h1
  have hb:=hc.block a.block hlt fun hw=>by
   rw [LN hu,(hW _ hw).vw] at hu; cases hu
  grind [World.cell?]
open Classical in
noncomputable def hvp (γ:Gh) (w:World) (t:Nat) (v:Value) (k x g:Nat):Pth→Value:=if x=t∧g=k∧¬ (γ.tl t∧γ.gl t k) then hdr w v else γ.hv x g
theorem W7 {γ} {w} {t} {v} {k x g} (h:¬ (x=t∧g=k∧¬ (γ.tl t∧γ.gl t k))):hvp γ w t v k x g=γ.hv x g:=by unfold hvp; rw [if_neg h]
theorem g5 {γ} {w} {t} {v} {k x g} (h:x=t∧g=k∧¬ (γ.tl t∧γ.gl t k)):hvp γ w t v k x g=hdr w v:=by unfold hvp; rw [if_pos h]
noncomputable def Gh.tok (γ:Gh) (w:World) (t:Nat) (v:Value) (fp:List Nat) (k:Nat):Gh:= {γ with
 tl:=fun x=>γ.tl x∨x=t,tv:=fun x=>if x=t then v else γ.tv x,tf:=fun x=>if x=t then fp else γ.tf x,
 gl:=fun x g=>if x=t then (γ.tl t∧γ.gl t g)∨g=k else γ.gl x g,
 hv:=hvp γ w t v k}
theorem Gh.tok_ext {γ} {w} {t} {v} {fp} {k} (h:γ.tl t→γ.tv t=v):Gh.Ext γ (γ.tok w t v fp k):=
 ⟨fun _ h=>.inl h,fun x hx=>by
  show (if x=t then _ else _)=_
  grind,fun _ h=>h,fun _ _=>rfl,fun _ _=>rfl,fun x g h1 h2=>by
  show (if x=t then _ else _)
  grind,fun x g h1 h2=>by
  exact W7 fun e=>by grind,AS.refl _⟩
theorem OSim.putTok (hs:OSim cx γ T B w) {t} {tk} {v} {fp} (hT:T t=none) (hv:γ.tl t→γ.tv t=v) (hok:Aj γ.vw w tk v fp) (hn:fp.Nodup) (hf:∀g ∈ fp,Free cx γ T B g)
  (hg1:γ.tl t→∀k,γ.gl t k→k≤tk.gen) (hg2:γ.tl t→γ.gl t tk.gen→∀q d,At q (.sl tk.rows) d→isSl d→hdr w v q=γ.hv t tk.gen q):
  OSim cx (γ.tok w t v fp tk.gen) (fun x=>if x=t then some tk else T x) B w:=by
 have he:=Gh.tok_ext (w:=w) (fp:=fp) (k:=tk.gen) hv
 have htf:∀x,(γ.tok w t v fp tk.gen).tf x=if x=t then fp else γ.tf x:=fun _=>rfl
 have htv:∀x,(γ.tok w t v fp tk.gen).tv x=if x=t then v else γ.tv x:=fun _=>rfl
 refine⟨hs.frm,fun x tk' h1 h2=>?_,fun x tk' h1 h2=>?_,fun x y tk1 tk2 hne h1 h2 h3 h4 g hg=>?_,fun b vs h1 h2=>?_,hs.bds,fun b x vs tk' h1 h2 h3 h4=>?_,fun x tk' h1 h2=>?_,hs.bfr,fun x tk' h1 h2=>?_,hs.beg.trans he,⟨hs.vw.k,fun x tk' h1 h2=>?_,hs.vw.b,hs.vw.f⟩⟩
 ·rw [htf,htv]
  by_cases hx:x=t
  ·simp only [if_pos hx,Option.some.injEq] at h2 ⊢; subst h2; exact hok
  ·simp only [if_neg hx] at h2 ⊢; exact hs.tok x tk' (h1.resolve_right hx) h2
 ·rw [htf]
  by_cases hx:x=t
  ·grind
  ·simp only [if_neg hx] at h2 ⊢; exact hs.tnd x tk' (h1.resolve_right hx) h2
 ·rw [htf] at hg ⊢
  by_cases hx:x=t
  ·have hy:y≠t:=fun e=>hne (hx.trans e.symm)
   simp only [if_pos hx] at hg
   simp only [if_neg hy] at h4 ⊢
   exact(hf g hg).t y tk2 (h2.resolve_right hy) h4
  ·simp only [if_neg hx] at h3 hg
   by_cases hy:y=t
   ·simp only [if_pos hy]
    intro hm
    exact(hf g hm).t x tk1 (h1.resolve_right hx) h3 hg
   ·simp only [if_neg hy] at h4 ⊢
    exact hs.tds x y tk1 tk2 hne (h1.resolve_right hx) (h2.resolve_right hy) h3 h4 g hg
 ·obtain⟨us,h3,h4⟩:=hs.box b vs h1 h2
  exact⟨us,AH.mono (AS.refl _) he h3,h4⟩
 ·rw [htf]
  by_cases hx:x=t
  ·simp only [if_pos hx]
   intro hm
   exact(hf _ hm).b b vs h1 h3 rfl
  ·simp only [if_neg hx] at h4 ⊢; exact hs.btd b x vs tk' h1 (h2.resolve_right hx) h3 h4
 ·rw [htf]
  by_cases hx:x=t
  ·simp only [if_pos hx]; exact fun g hg=>(hf g hg).fr
  ·simp only [if_neg hx] at h2 ⊢; exact hs.tfr x tk' (h1.resolve_right hx) h2
 ·by_cases hx:x=t
  ·subst hx
   have h2':(if x=x then some tk else T x)=some tk':=h2
   rw [if_pos rfl,Option.some.injEq] at h2'; subst h2'
   have e1:∀g,(γ.tok w x v fp tk.gen).gl x g=((γ.tl x∧γ.gl x g)∨g=tk.gen):=fun g=>by show (if x=x then _ else _)=_; rw [if_pos rfl]
   refine⟨by rw [e1]; omega,fun g hg=>?_,fun q r hq hs'=>?_⟩
   ·rw [e1] at hg
    grind
   ·rw [htv,if_pos rfl]
    show _=hvp γ w x v tk.gen x tk.gen q
    by_cases e:γ.tl x∧γ.gl x tk.gen
    ·rw [W7 fun h=>h.2.2 e]; grind
    ·rw [g5 ⟨rfl,rfl,e⟩]
  ·simp only [if_neg hx] at h2
   have hh:=hs.hds x tk' (h1.resolve_right hx) h2
   have e1:∀g,(γ.tok w t v fp tk.gen).gl x g=γ.gl x g:=fun g=>by show (if x=t then _ else _)=_; rw [if_neg hx]
   have e2:∀g,(γ.tok w t v fp tk.gen).hv x g=γ.hv x g:=fun g=>W7 fun h=>hx h.1
   have e3:(γ.tok w t v fp tk.gen).tv x=γ.tv x:=by rw [htv,if_neg hx]
   exact⟨by rw [e1]; exact hh.1,fun g hg=>by rw [e1] at hg; exact hh.2.1 g hg,fun q r hq hs'=>by rw [e2,e3]; exact hh.2.2 q r hq hs'⟩
 ·rw [htf]
  by_cases hx:x=t
  ·simp only [if_pos hx]; exact fun g hg=>(hf g hg).vw
  ·simp only [if_neg hx] at h2 ⊢; exact hs.vw.t x tk' (h1.resolve_right hx) h2
end
end Go.Proofs.YtclmbjbbojdojaaGreat.Ab
