/- The abstract walk, sixth part. -/
import Derived.Test.YthenkmapmnkelaaGreatDoorAbE
import Derived.DeepKeys
import Derived.DeepKeys3
import Derived.WideKeyRuns
import Derived.WideKeyEntry
namespace Go.Proofs.YthenkmapmnkelaaGreatDoor.Ab
set_option linter.unusedVariables false
set_option maxHeartbeats 1000000
set_option linter.unusedSimpArgs false
open Go.RowKit
theorem DQ {w0} {γ} {k} {n} (h:(Lit.int k n).wf =true):VSim w0 γ (.int k n) (.int k n):=by grind [VSim]
theorem En {w0} {γ} {b}:VSim w0 γ (.bool b) (.bool b):=by rfl
theorem We {w0} {γ} {s} (h:s.size≤maxLen):VSim w0 γ (.str s) (.string s):=by grind [VSim]
section
variable {P:Program} {w:World} {t:TypeId}
theorem Re (hu:P.underlying t=some .bool) (a b:Bool):(Op.equal t (.bool a) (.bool b)).run P w= .ok (a == b) w:=by
 unfold Op.equal Op.maxDepth
 show (Op.equalIn (9999+1) t _ _).run P w=_
 rw [Op.equalIn]
 simp [run_underlying hu]
theorem LP {e} (hu:P.underlying t=some (.pointer e)) (b:Option Addr):(Op.equal t (.pointer none) (.pointer b)).run P w= .ok b.isNone w:=by
 unfold Op.equal Op.maxDepth
 show (Op.equalIn (9999+1) t _ _).run P w=_
 rw [Op.equalIn]
 simp [run_underlying hu]
theorem Rf {e} (hu:P.underlying t=some (.pointer e)) (b:Addr):(Op.equal t (.pointer (some b)) (.pointer none)).run P w= .ok false w:=by
 unfold Op.equal Op.maxDepth
 show (Op.equalIn (9999+1) t _ _).run P w=_
 rw [Op.equalIn]
 simp [run_underlying hu]
end
def Ep:List KK→List AV→Option (List Lit)
 | [],[] =>some []
 | .int k::ks,.int k1 a::xs=>if k1=k then (Ep ks xs).map (.int k a:: ·) else none
 | .bool ::ks,.bool a::xs=>(Ep ks xs).map (.bool a:: ·)
 | .str ::ks,.str s::xs=>(Ep ks xs).map (.string s.data.toList:: ·)
 |_,_=>none
theorem fj:∀ (q:List KK) (j p:List AV) (b:Bool),DJ q j p=some b→∃as bs,Ep q j=some as∧Ep q p=some bs∧(b=true↔as=bs):=by
 intro q j p
 induction q generalizing j p with
 |nil=>
  intro b h
  cases j <;> cases p <;> simp only [DJ] at h <;> try (cases h; done)
  cases h
  exact⟨[],[],rfl,rfl,by simp⟩
 | cons k q ih=>
  intro b h
  cases j with
  |nil=>cases k <;> simp [DJ] at h
  | cons x j=>
   cases p with
   |nil=>cases k <;> cases x <;> simp [DJ] at h
   | cons y p=>
    cases k <;> cases x <;> first|(cases y <;> simp only [DJ] at h <;> cases h; done)|skip
    ·rename_i k k1 a
     cases y <;> simp only [DJ] at h <;> try (cases h; done)
     grind [Option.map_eq_some_iff,Ep]
    ·rename_i a
     cases y <;> simp only [DJ] at h <;> try (cases h; done)
     grind [Option.map_eq_some_iff,Ep]
    ·rename_i a
     cases y <;> simp only [DJ] at h <;> try (cases h; done)
     grind [Option.map_eq_some_iff,Ep,ByteArray.toList_eq]
theorem NR:∀ {k1 k2} {xs} {l},Ep (k1++k2) xs=some l→∃l1 l2,Ep k1 (xs.take k1.length)=some l1∧Ep k2 (xs.drop k1.length)=some l2∧l=l1++l2
 | [],k2,xs,l,h=>⟨[],l,by rfl,by grind,rfl⟩
 |k::k1,k2,[],l,h=>by cases k <;> simp [Ep] at h
 | k::k1,k2,x::xs,l,h=>by
  cases k <;> cases x <;> simp only [List.cons_append,Ep] at h <;> try (cases h; done)
  ·split at h
   ·rename_i hk
    simp only [Option.map_eq_some_iff] at h
    obtain⟨j,h1,rfl⟩:=h
    obtain⟨l1,l2,h2,h3,rfl⟩:=NR h1
    exact⟨_::l1,l2,by simp [Ep,hk,h2],by simpa using h3,rfl⟩
   grind
  ·simp only [Option.map_eq_some_iff] at h
   obtain⟨j,h1,rfl⟩:=h
   obtain⟨l1,l2,h2,h3,rfl⟩:=NR h1
   exact⟨_::l1,l2,by simp [Ep,h2],by simpa using h3,rfl⟩
  ·simp only [Option.map_eq_some_iff] at h
   obtain⟨j,h1,rfl⟩:=h
   obtain⟨l1,l2,h2,h3,rfl⟩:=NR h1
   exact⟨_::l1,l2,by simp [Ep,h2],by simpa using h3,rfl⟩
theorem Ip:∀ {ks} {xs} {l},Ep ks xs=some l→xs.length=ks.length
 | [],[],_,_=>rfl
 | [],_::_,_,h=>by grind [Ep]
 |k::_,[],_,h=>by cases k <;> simp [Ep] at h
 | k::ks,x::xs,l,h=>by
  cases k <;> cases x <;> simp only [Ep] at h <;> try (cases h; done)
  ·split at h
   ·simp only [Option.map_eq_some_iff] at h
    obtain⟨j,h1,rfl⟩:=h
    simp [Ip h1]
   ·cases h
  ·simp only [Option.map_eq_some_iff] at h
   obtain⟨j,h1,rfl⟩:=h
   simp [Ip h1]
  ·simp only [Option.map_eq_some_iff] at h
   obtain⟨j,h1,rfl⟩:=h
   simp [Ip h1]
theorem NS {w0} {γ}:∀ {xs} {us},AH w0 γ xs us→us.length=xs.length
 | [],us,h=>by grind [AH]
 |x::xs,us,h=>by
  simp only [AH] at h
  obtain⟨u,j,rfl,-,h⟩:=h
  simp [NS h]
theorem TR {w0} {γ}:∀ (n:Nat) {xs} {us},AH w0 γ xs us→AH w0 γ (xs.take n) (us.take n)∧AH w0 γ (xs.drop n) (us.drop n)
 |0,xs,us,h=>by simp [AH,h]
 |n+1,[],us,h=>by grind [AH]
 |n+1,x::xs,us,h=>by
  simp only [AH] at h
  obtain⟨u,p,rfl,h1,h2⟩:=h
  obtain⟨h3,j⟩:=TR n h2
  exact⟨by simp only [List.take_succ_cons,AH]; exact⟨u,_,rfl,h1,h3⟩,by simpa using j⟩
theorem OL {P} {d} {t} {ks} (h:KD P d t=some ks):ks.length=P.cellsOf t:=by
 cases d with
 |zero=>grind [KD]
 |succ d=>
  rw [KD] at h
  grind
theorem TS {P} {w0} {γ} {D} (IH:∀t ks xs us la,KD P D t=some ks→Ep ks xs=some la→AH w0 γ xs us→P.keyLits D t us=some la) (cs:List Value):
  ∀ (fs:List Field) (i:Nat) (ks:List KK) (xs:List AV) (us:List Value) (la:List Lit),PH P (KD P D) i fs=some ks→Ep ks xs=some la→AH w0 γ xs us→cs.drop i=us→
  ∃j,fs.mapM (fun f=>P.keyLits D f.type ((cs.drop f.offset).take (P.cellsOf f.type)))=some j∧j.flatten=la
 | [],i,ks,xs,us,la,h,h1,h2,h3=>by
  simp only [PH,Option.some.injEq] at h
  subst h
  cases xs <;> simp [Ep] at h1
  simp_all
 | f::fs,i,ks,xs,us,la,h,h1,h2,h3=>by
  rw [PH] at h
  split at h
  ·rename_i J
   split at h
   ·rename_i a b p v
    cases h
    obtain⟨l1,l2,F,q,rfl⟩:=NR h1
    obtain⟨v1,u⟩:=TR a.length h2
    have I:=OL p
    have k1:=IH _ _ _ _ _ p F v1
    obtain⟨j,G,C⟩:=TS IH cs fs (i+P.cellsOf f.type) b _ _ l2 v q u (by rw [← I,← List.drop_drop,h3])
    simp_all
   grind
  grind
theorem TT {P} {w0} {γ}:∀ (D:Nat) (t:TypeId) (C:List KK) (p:List AV) (us:List Value) (F:List Lit),KD P D t=some C→Ep C p=some F→AH w0 γ p us→P.keyLits D t us=some F
 |0,_,_,_,_,_,h,_,_=>by grind [KD]
 | D + 1,t,C,p,us,F,h,h1,h2=>by
  have O:=OL h
  have W:=Ip h1
  have U:=NS h2
  rw [KD] at h
  split at h
  ·rename_i ks' j
   split at h
   ·cases h
    split at j
    ·rename_i q
     cases j
     match p,us,h1,h2 with
     | [.bool b],us,h1,h2=>
      simp only [AH,VSim] at h2
      obtain⟨u,G,rfl,rfl,rfl⟩:=h2
      simp [Ep] at h1
      subst h1
      simp [Program.keyLits,q]
    ·rename_i k q
     cases j
     match p,us,h1,h2 with
     | [.int k1 n],us,h1,h2=>
      simp only [AH,VSim] at h2
      obtain⟨u,G,rfl,⟨rfl,v⟩,rfl⟩:=h2
      simp only [Ep] at h1
      split at h1
      ·rename_i hk
       subst hk
       simp at h1
       subst h1
       simp [Program.keyLits,q,v]
      ·cases h1
    ·rename_i q
     cases j
     match p,us,h1,h2 with
     | [.str s],us,h1,h2=>
      simp only [AH,VSim] at h2
      obtain⟨u,G,rfl,⟨rfl,v⟩,rfl⟩:=h2
      simp [Ep] at h1
      subst h1
      simp [Program.keyLits,q,v]
    ·rename_i fs q
     split at j
     ·rename_i Y
      obtain⟨ls,J,I⟩:=TS (D:=D) (fun t C p us F=>TT D t C p us F) us fs.toList 0 C p us F j h1 h2 (by simp)
      unfold Program.keyLits
      simp only [q]
      rw [if_pos ⟨by omega,Y⟩,J,Option.map_some,I]
     ·cases j
    ·cases j
   ·cases h
  ·cases h
theorem Uz {P} {w w0} {γ} {t} {ks} {xs ys} {us vs} {b} (ht:H8 P t=some ks) (hb:DJ ks xs ys=some b) (hx:AH w0 γ xs us) (hy:AH w0 γ ys vs):
  (Op.equal t (.agg us.toArray) (.agg vs.toArray)).run P w= .ok b w∧P.eqGuardType P.depth t=false:=by
 unfold H8 at ht
 split at ht
 ·rename_i fs U
  split at ht
  ·rename_i F
   obtain⟨q,G⟩:=F
   obtain⟨as,bs,v,p,u⟩:=fj _ _ _ _ hb
   have j:=OL ht
   have J:=TT 4 t ks xs us as ht v hx
   have I:=TT 4 t ks ys vs bs ht p hy
   have W:us.length=P.cellsOf t:=by rw [NS hx,Ip v,j]
   have Y:vs.length=P.cellsOf t:=by rw [NS hy,Ip p,j]
   obtain⟨r,O,C⟩:=run_equalIn_deep 9996 4 t q w 4 4 (.agg us.toArray) (.agg vs.toArray) _ _ (by grind [Value.formed]) (by grind [Value.formed]) (by simpa [Value.cells] using J) (by simpa [Value.cells] using I)
   grind [Op.equal,Op.maxDepth]
  grind
 grind
def EvK (cx:Cx) (γ:Gh) (T:Nat→Option Tok) (B:Nat→Option (List AV)) (o:Oper) (a:Act) (next:Act→World→Prop) (r:Res):Prop:=
 ∀v w' γ',Gh.Ext γ γ'→(∀t,γ'.tl t→γ.tl t∨∃x ∈ r.t,x.1 =t)→(∀b,γ'.bl b→γ.bl b∨∃x ∈ r.b,x.1 =b)→OSim cx γ' T B w'→VSim γ'.vw γ' r.v v→next (a.put o.dst v) w'
section
variable {cx:Cx} {γ:Gh} {T:Nat→Option Tok} {B:Nat→Option (List AV)} {w:World} {o:Oper} {a:Act} {next:Act→World→Prop} {Q:Exit→Act→World→Prop}
theorem Aq (hs:OSim cx γ T B w) {av} {v} (hr:(execOp a.eval o).run cx.P w= .ok (.value v) w) (hv:VSim γ.vw γ av v) (hk:EvK cx γ T B o a next ⟨av,[],[]⟩):o.wp cx.P a w next Q:=
 LO hr (hk v w γ (Gh.Ext.refl γ) (fun t h=>.inl h) (fun b h=>.inl h) hs hv)
theorem VZ {op} {t} {x y v} {u u'} {ox oy} (hx:VSim γ.vw γ x u) (hy:VSim γ.vw γ y u') (h:Bin cx.P op t x y v):
  ∃r,(do eqGuard op t ox oy u u'; binOp op t u u':Sem Value).run cx.P w= .ok r w∧VSim γ.vw γ v r:=by
 unfold Bin at h
 split at h
 ·simp only [VSim] at hx hy
  obtain⟨us,rfl,hx⟩:=hx
  obtain⟨vs,rfl,hy⟩:=hy
  obtain⟨J,b,h1,h2,h⟩:=h
  obtain⟨h3,U⟩:=Uz (w:=w) h1 h2 hx hy
  cases op <;> simp only at h
  case eql=>simp_all [eqGuard,binOp,En]
  simp_all [eqGuard,binOp,En]
 ·rename_i k a O b
  simp only [VSim] at hx hy
  obtain⟨rfl,I⟩:=hx
  obtain⟨rfl,G⟩:=hy
  cases op <;> simp only [Lx,Option.some.injEq] at h
  case shl=>obtain⟨C,rfl⟩:=h; simp_all [eqGuard_shl,binOp_shl,shift_shl_any,DQ,Gi]
  case shr=>obtain⟨C,rfl⟩:=h; simp_all [eqGuard_shr,binOp_shr,shift_shr_any,DQ,mN]
  all_goals obtain⟨rfl,h⟩:=h
  case and=>subst h; exact⟨_,by simp [eqGuard_and,binOp_and,intBits_and],DQ (Gi _ _)⟩
  case or=>subst h; exact⟨_,by simp [eqGuard_or,binOp_or,intBits_or],DQ (Gi _ _)⟩
  case xor=>subst h; exact⟨_,by simp [eqGuard_xor,binOp_xor,intBits_xor],DQ (Gi _ _)⟩
  case andNot=>subst h; exact⟨_,by simp [eqGuard_andNot,binOp_andNot,intBits_andNot],DQ (Gi _ _)⟩
  case quo=>obtain⟨C,rfl⟩:=h; simp_all [eqGuard,binOp,Op.intDiv,DQ,Gi]
  case rem=>obtain⟨C,rfl⟩:=h; simp_all [eqGuard,binOp,Op.intDiv,DQ,jW]
  case add=>subst h; simp [eqGuard,binOp,Op.intArith,DQ,Gi]
  case sub=>subst h; simp [eqGuard,binOp,Op.intArith,DQ,Gi]
  case mul=>subst h; simp [eqGuard,binOp,Op.intArith,DQ,Gi]
  case eql=>subst h; simp [eqGuard,binOp,Op.intCmp,Bool.beq_eq_decide_eq,En]
  case neq=>subst h; simp [eqGuard,binOp,Op.intCmp,bne,Bool.beq_eq_decide_eq,En]
  case lss=>subst h; simp [eqGuard,binOp,Op.intCmp,En]
  case leq=>subst h; simp [eqGuard,binOp,Op.intCmp,En]
  case gtr=>subst h; simp [eqGuard,binOp,Op.intCmp,En]
  case geq=>subst h; simp [eqGuard,binOp,Op.intCmp,En]
  all_goals cases h
 ·rename_i a b
  simp only [VSim] at hx hy
  subst hx hy
  split at h
  ·rename_i q
   subst h
   exact⟨.bool (a == b),by
    have j:cx.P.underlying t=some .bool :=by unfold ti at q; split at q <;> simp_all
    simp [eqGuard,binOp,Re j],En⟩
  ·rename_i q
   subst h
   exact⟨.bool (!(a == b)),by
    have j:cx.P.underlying t=some .bool :=by unfold ti at q; split at q <;> simp_all
    simp [eqGuard,binOp,Re j],En⟩
  grind
 ·rename_i a b
  simp only [VSim] at hx hy
  obtain⟨rfl,W⟩:=hx
  obtain⟨rfl,C⟩:=hy
  cases op <;> simp only at h
  case eql=>simp_all [eqGuard,binOp,Op.stringOp,En]
  case neq=>simp_all [eqGuard,binOp,Op.stringOp,En]
  case add=>
   obtain⟨F,rfl⟩:=h
   refine⟨.string (a++b),?_,We (by rw [ByteArray.size_append]; exact F)⟩
   unfold maxLen at F
   have:¬ (((a.size+b.size:Nat):Int) > IntKind.i64.max):=by grind [IntKind.max,IntKind.bits]
   simp_all [eqGuard,binOp,Op.stringOp]
  all_goals exact h.elim
 ·simp only [VSim] at hx hy
  subst hx hy
  split at h
  ·rename_i e q
   subst h
   exact⟨.bool true,by
    have j:cx.P.underlying t=some (.pointer e):=by unfold ti at q; split at q <;> simp_all
    simp_all [eqGuard,binOp,LP],En⟩
  ·rename_i e q
   subst h
   exact⟨.bool false,by
    have j:cx.P.underlying t=some (.pointer e):=by unfold ti at q; split at q <;> simp_all
    simp_all [eqGuard,binOp,LP],En⟩
  grind
 all_goals first
  |exact h.elim
  | (
   simp only [VSim] at hx hy
   obtain⟨p,hp⟩:∃p,(u= .pointer (some p)∧u'= .pointer none)∨(u= .pointer none∧u'= .pointer (some p)):=by
    first
     |exact⟨_,.inl ⟨hx.2,hy⟩⟩
     |exact⟨_,.inr ⟨hx,hy.2⟩⟩
     |(obtain⟨b,o,us,hx,-⟩:=hx; exact⟨_,.inl ⟨hx,hy⟩⟩)
     |(obtain⟨b,o,us,hy,-⟩:=hy; exact⟨_,.inr ⟨hx,hy⟩⟩)
   split at h
   ·rename_i e q
    subst h
    have j:cx.P.underlying t=some (.pointer e):=by unfold ti at q; split at q <;> simp_all
    refine⟨.bool false,?_,En⟩
    rcases hp with ⟨rfl,rfl⟩|⟨rfl,rfl⟩ <;> simp [eqGuard,binOp,LP j,Rf j]
   ·rename_i e q
    subst h
    have j:cx.P.underlying t=some (.pointer e):=by unfold ti at q; split at q <;> simp_all
    refine⟨.bool true,?_,En⟩
    rcases hp with ⟨rfl,rfl⟩|⟨rfl,rfl⟩ <;> simp [eqGuard,binOp,LP j,Rf j]
   ·exact h.elim)
theorem dI {op} {x v} {u} (hx:VSim γ.vw γ x u) (h:Uno op x v):∃r,(Op.unary op u).run cx.P w= .ok r w∧VSim γ.vw γ v r:=by
 unfold Uno at h
 split at h
 ·simp_all [VSim,Op.unary]
 ·simp only [VSim] at hx; obtain⟨rfl,j⟩:=hx; simp_all [Op.unary,Op.intArith,DQ,Gi]
 ·simp only [VSim] at hx; obtain⟨rfl,j⟩:=hx; subst h; exact⟨_,by rfl,DQ (Gi _ _)⟩
 grind
theorem dJ (hs:OSim cx γ T B w) {t} {x i v} {u u'} (hx:VSim γ.vw γ x u) (hi:VSim γ.vw γ i u') (h:SC cx.P T t x i v):
  ∃r,(Instr.indexAt t u u').run cx.P w= .ok r w∧VSim γ.vw γ v r:=by
 unfold SC at h
 split at h
 ·rename_i e rows k n G
  obtain⟨C,W,⟨U,j,hl⟩,rfl⟩:=h
  simp only [VSim] at hx hi
  obtain⟨rfl,-⟩:=hi
  have F:=BU j
  simp only [Rep] at hx
  obtain⟨ad,c,rfl,-,-,h3⟩:=hx
  rcases h3 with h3|⟨sz,b,off,rfl,hR⟩
  ·rw [h3] at F; grind
  ·have I:n<rows.length:=by omega
   have O:=hR.at _ F
   rw [List.getElem?_eq_getElem F] at j
   simp only [Option.some.injEq] at j
   rw [j] at O
   have hsz':sz=tsz cx.P e:=by omega
   refine⟨.pointer (some ⟨b,off+n.toNat*tsz cx.P e,none⟩),?_,?_⟩
   ·simp [Instr.indexAt,run_underlying (H9 G),asIntOf,U,I,C7 C,Addr.add_lit]
   ·obtain⟨us,k1,k2⟩:=Qe (γ:=γ) O.2
    have k3:AV.pts (W.map ofD)=true→PF γ.vw b:=fun e=>MS O.2 (by rw [PG]; exact e)
    grind [VSim]
 ·rename_i e t' k n G
  obtain⟨C,tk,W,hT,⟨U,j,hl⟩,rfl⟩:=h
  simp only [VSim] at hx hi
  obtain⟨rfl,-⟩:=hi
  obtain⟨⟨J,-⟩,rfl⟩:=hx
  have F:=BU j
  have q:=(hs.tok t' tk J hT).own
  simp only [Own] at q
  rcases q with ⟨he,-,-⟩|⟨sz',g,o',c',e',cs,fps,hv,h1,h2,hb,h3,hr,-⟩
  ·rw [he] at F; grind
  ·have I:n<tk.rows.length:=by omega
   refine⟨.pointer (some ⟨g,o'+n.toNat*tsz cx.P e,none⟩),?_,?_⟩
   ·rw [hv]
    simp [Instr.indexAt,run_underlying (H9 G),asIntOf,U,I,C7 C,Addr.add_lit]
   grind [VSim]
 ·rename_i e t' g p k n G
  obtain⟨C,rows,W,Y,⟨U,j,hl⟩,rfl⟩:=h
  simp only [VSim] at hx hi
  obtain⟨rfl,-⟩:=hi
  obtain⟨⟨J,hgl⟩,-,rfl⟩:=hx
  have F:=BU j
  obtain⟨tk,f1,f2,f3,-,-,-,-,-,q,-⟩:=Jw hs.see J Y
  simp only [Own] at q
  rcases q with ⟨he,-,-⟩|⟨sz',b,o',c',e',cs,fps,hv,h1,h2,hb,h3,hr,-⟩
  ·rw [he] at F; grind
  ·have I:n<rows.length:=by omega
   refine⟨.pointer (some ⟨b,o'+n.toNat*tsz cx.P e,none⟩),?_,?_⟩
   ·rw [hv]
    simp [Instr.indexAt,run_underlying (H9 G),asIntOf,U,I,C7 C,Addr.add_lit]
   grind [VSim]
 ·rename_i l e b off k n G
  obtain⟨C,⟨U,I⟩,rfl⟩:=h
  simp only [VSim] at hx hi
  obtain⟨rfl,-⟩:=hi
  obtain⟨hbl,rfl⟩:=hx
  have hu':cx.P.underlying t=some (.array l e):=by
   unfold ti at G
   split at G <;> simp_all
  refine⟨.pointer (some ⟨γ.bb b,γ.bo b+(off+n.toNat*tsz cx.P e),none⟩),?_,?_⟩
  ·simp [Instr.indexAt,Instr.sureAddr,run_underlying hu',asIntOf,U,I,C7 C,Addr.add_lit,Nat.add_assoc]
  ·simp [VSim,hbl,Nat.add_assoc]
 grind
theorem OM {P} {t k e} (h:ti P t= .map k e):P.underlying t=some (.map k e):=by
 unfold ti at h
 split at h <;> simp_all
theorem dK {a b} (h:S7 a=S7 b):a=b:=by
 unfold S7 at h
 simp only [Value.tuple.injEq] at h
 have h1:a.map (fun e=>Value.tuple #[e.1,e.2])=b.map fun e=>Value.tuple #[e.1,e.2] :=by grind
 clear h
 induction a generalizing b with
 |nil=>simp_all
 | cons x a ih=>cases b with
  |nil=>grind
  |cons y b=>
   grind
theorem Ba.length {q}:∀ {rows} {es},Ba q rows es→es.length=rows.length
 | [],es,h=>by grind [Ba]
 |r::rs,es,h=>by
  simp only [Ba] at h
  obtain⟨e,j,rfl,-,h⟩:=h
  simp [Ba.length h]
theorem Wf (hs:OSim cx γ T B w) {b} {q} {rows} (hbl:γ.bl b) (hB:B b=some [.mpc q rows]):∃j k,w.heap[γ.bb b]? =some (.map j k)∧Ba q rows (I7 j)∧rows.length≤68719476736∧MapKept.Stamped j k:=by
 obtain⟨us,h1,h2⟩:=hs.box b _ hbl hB
 obtain⟨-,j,k,h3,p,u⟩:=h2.map rfl
 grind [AH,VSim,dK]
theorem ON (n:Nat) (hn:n≤maxLen):(Lit.int .i64 (n:Int)).wf =true:=by
 grind [maxLen,Lit.wf,IntKind.min,IntKind.max,IntKind.bits]
theorem dL (hs:OSim cx γ T B w) {t ty} {x v} {u} (hx:VSim γ.vw γ x u) (h:SB cx.P T B t x v):
  ∃r,(Builtin.len_ #[t] ty #[u]).run cx.P w= .ok r w∧VSim γ.vw γ v r:=by
 unfold SB at h
 split at h
 ·rename_i s F
  subst h
  simp only [VSim] at hx
  obtain⟨rfl,O⟩:=hx
  exact⟨_,by simp [Builtin.len_,run_underlying (Wc F)]; rfl,DQ (ON _ O)⟩
 ·rename_i C F
  subst h
  simp only [VSim,Rep] at hx
  obtain⟨W,c,rfl,h1,h2,-⟩:=hx
  exact⟨_,by simp [Builtin.len_,run_underlying (H9 F)]; rfl,DQ (ON _ (Nat.le_trans h1 h2))⟩
 ·rename_i F
  subst h
  simp only [VSim] at hx
  subst hx
  exact⟨_,by simp [Builtin.len_,run_underlying (H9 F)]; rfl,DQ (ON 0 (Nat.zero_le _))⟩
 ·rename_i F
  subst h
  simp only [VSim] at hx
  obtain⟨-,Y,rfl⟩:=hx
  exact⟨_,by simp [Builtin.len_,run_underlying (H9 F)]; rfl,DQ (ON _ Y)⟩
 ·rename_i t' F
  obtain⟨tk,hT,rfl⟩:=h
  simp only [VSim] at hx
  obtain⟨⟨G,-⟩,rfl⟩:=hx
  have j:=(hs.tok t' tk G hT).rep hs.vw.k
  simp only [Rep] at j
  obtain⟨W,c,hv,h1,h2,-⟩:=j
  exact⟨_,by rw [hv]; simp [Builtin.len_,run_underlying (H9 F)]; rfl,DQ (ON _ (Nat.le_trans h1 h2))⟩
 ·rename_i t' g p F
  obtain⟨C,I,rfl⟩:=h
  simp only [VSim] at hx
  obtain⟨⟨G,-⟩,-,rfl⟩:=hx
  obtain⟨tk,f1,f2,f3,-,-,-,-,-,J,-⟩:=Jw hs.see G I
  have j:=J.rep (Tok.vwk hs.vw.k)
  simp only [Rep] at j
  obtain⟨W,c,hv,h1,h2,-⟩:=j
  exact⟨_,by rw [hv]; simp [Builtin.len_,run_underlying (H9 F)]; rfl,DQ (ON _ (Nat.le_trans h1 h2))⟩
 ·rename_i kt et b F
  obtain⟨q,C,hB,rfl⟩:=h
  simp only [VSim] at hx
  obtain⟨U,rfl⟩:=hx
  obtain⟨es,k,h1,h2,h3⟩:=Wf hs U hB
  have hl:es.size=C.length:=by have:=h2.length; grind [I7]
  exact⟨.int .i64 C.length,by simp [Builtin.len_,run_underlying (OM F),MapKept.run_getObj_map h1,hl,goInt],DQ (ON _ (by grind [maxLen]))⟩
 grind
end
end Go.Proofs.YthenkmapmnkelaaGreatDoor.Ab
