/- The abstract walk, sixth part. -/
import Derived.Test.YtjnifengdhcojaaGreatDoorAbE
import Derived.DeepKeys
import Derived.DeepKeys3
import Derived.WideKeyRuns
import Derived.WideKeyEntry
namespace Go.Proofs.YtjnifengdhcojaaGreatDoor.Ab
set_option linter.unusedVariables false
set_option maxHeartbeats 1000000
set_option linter.unusedSimpArgs false
open Go.RowKit
theorem Cr {w0} {γ} {k} {n} (h:(Lit.int k n).wf =true):VSim w0 γ (.int k n) (.int k n):=by grind [VSim]
theorem ER {w0} {γ} {b}:VSim w0 γ (.bool b) (.bool b):=by rfl
theorem XV {w0} {γ} {s} (h:s.size≤maxLen):VSim w0 γ (.str s) (.string s):=by grind [VSim]
section
variable {P:Program} {w:World} {t:TypeId}
theorem R1 (hu:P.underlying t=some .bool) (a b:Bool):(Op.equal t (.bool a) (.bool b)).run P w= .ok (a == b) w:=by
 unfold Op.equal Op.maxDepth
 show (Op.equalIn (9999+1) t _ _).run P w=_
 rw [Op.equalIn]
 simp [run_underlying hu]
theorem LC {e} (hu:P.underlying t=some (.pointer e)) (b:Option Addr):(Op.equal t (.pointer none) (.pointer b)).run P w= .ok b.isNone w:=by
 unfold Op.equal Op.maxDepth
 show (Op.equalIn (9999+1) t _ _).run P w=_
 rw [Op.equalIn]
 simp [run_underlying hu]
theorem R2 {e} (hu:P.underlying t=some (.pointer e)) (b:Addr):(Op.equal t (.pointer (some b)) (.pointer none)).run P w= .ok false w:=by
 unfold Op.equal Op.maxDepth
 show (Op.equalIn (9999+1) t _ _).run P w=_
 rw [Op.equalIn]
 simp [run_underlying hu]
end
def ET:List KK→List AV→Option (List Lit)
 | [],[] =>some []
 | .int k::ks,.int k1 a::xs=>if k1=k then (ET ks xs).map (.int k a:: ·) else none
 | .bool ::ks,.bool a::xs=>(ET ks xs).map (.bool a:: ·)
 | .str ::ks,.str s::xs=>(ET ks xs).map (.string s.data.toList:: ·)
 |_,_=>none
theorem g5:∀ (q:List KK) (p j:List AV) (b:Bool),Cl q p j=some b→∃as bs,ET q p=some as∧ET q j=some bs∧(b=true↔as=bs):=by
 intro q p j
 induction q generalizing p j with
 |nil=>
  intro b h
  cases p <;> cases j <;> simp only [Cl] at h <;> try (cases h; done)
  cases h
  exact⟨[],[],rfl,rfl,by simp⟩
 | cons k q ih=>
  intro b h
  cases p with
  |nil=>cases k <;> simp [Cl] at h
  | cons x p=>
   cases j with
   |nil=>cases k <;> cases x <;> simp [Cl] at h
   | cons y j=>
    cases k <;> cases x <;> first|(cases y <;> simp only [Cl] at h <;> cases h; done)|skip
    ·rename_i k k1 a
     cases y <;> simp only [Cl] at h <;> try (cases h; done)
     grind [Option.map_eq_some_iff,ET]
    ·rename_i a
     cases y <;> simp only [Cl] at h <;> try (cases h; done)
     grind [Option.map_eq_some_iff,ET]
    ·rename_i a
     cases y <;> simp only [Cl] at h <;> try (cases h; done)
     grind [Option.map_eq_some_iff,ET,ByteArray.toList_eq]
theorem ND:∀ {k1 k2} {xs} {l},ET (k1++k2) xs=some l→∃l1 l2,ET k1 (xs.take k1.length)=some l1∧ET k2 (xs.drop k1.length)=some l2∧l=l1++l2
 | [],k2,xs,l,h=>⟨[],l,by rfl,by grind,rfl⟩
 |k::k1,k2,[],l,h=>by cases k <;> simp [ET] at h
 | k::k1,k2,x::xs,l,h=>by
  cases k <;> cases x <;> simp only [List.cons_append,ET] at h <;> try (cases h; done)
  ·split at h
   ·rename_i hk
    simp only [Option.map_eq_some_iff] at h
    obtain⟨j,h1,rfl⟩:=h
    obtain⟨l1,l2,h2,h3,rfl⟩:=ND h1
    exact⟨_::l1,l2,by simp [ET,hk,h2],by simpa using h3,rfl⟩
   grind
  ·simp only [Option.map_eq_some_iff] at h
   obtain⟨j,h1,rfl⟩:=h
   obtain⟨l1,l2,h2,h3,rfl⟩:=ND h1
   exact⟨_::l1,l2,by simp [ET,h2],by simpa using h3,rfl⟩
  ·simp only [Option.map_eq_some_iff] at h
   obtain⟨j,h1,rfl⟩:=h
   obtain⟨l1,l2,h2,h3,rfl⟩:=ND h1
   exact⟨_::l1,l2,by simp [ET,h2],by simpa using h3,rfl⟩
theorem Iu:∀ {ks} {xs} {l},ET ks xs=some l→xs.length=ks.length
 | [],[],_,_=>rfl
 | [],_::_,_,h=>by grind [ET]
 |k::_,[],_,h=>by cases k <;> simp [ET] at h
 | k::ks,x::xs,l,h=>by
  cases k <;> cases x <;> simp only [ET] at h <;> try (cases h; done)
  ·split at h
   ·simp only [Option.map_eq_some_iff] at h
    obtain⟨j,h1,rfl⟩:=h
    simp [Iu h1]
   ·cases h
  ·simp only [Option.map_eq_some_iff] at h
   obtain⟨j,h1,rfl⟩:=h
   simp [Iu h1]
  ·simp only [Option.map_eq_some_iff] at h
   obtain⟨j,h1,rfl⟩:=h
   simp [Iu h1]
theorem NE {w0} {γ}:∀ {xs} {us},AH w0 γ xs us→us.length=xs.length
 | [],us,h=>by grind [AH]
 |x::xs,us,h=>by
  simp only [AH] at h
  obtain⟨u,j,rfl,-,h⟩:=h
  simp [NE h]
theorem T3 {w0} {γ}:∀ (n:Nat) {xs} {us},AH w0 γ xs us→AH w0 γ (xs.take n) (us.take n)∧AH w0 γ (xs.drop n) (us.drop n)
 |0,xs,us,h=>by simp [AH,h]
 |n+1,[],us,h=>by grind [AH]
 |n+1,x::xs,us,h=>by
  simp only [AH] at h
  obtain⟨u,j,rfl,h1,h2⟩:=h
  obtain⟨h3,p⟩:=T3 n h2
  exact⟨by simp only [List.take_succ_cons,AH]; exact⟨u,_,rfl,h1,h3⟩,by simpa using p⟩
theorem OL {P} {d} {t} {ks} (h:KA P d t=some ks):ks.length=P.cellsOf t:=by
 cases d with
 |zero=>grind [KA]
 |succ d=>
  rw [KA] at h
  grind
theorem T4 {P} {w0} {γ} {D} (IH:∀t ks xs us la,KA P D t=some ks→ET ks xs=some la→AH w0 γ xs us→P.keyLits D t us=some la) (cs:List Value):
  ∀ (fs:List Field) (i:Nat) (ks:List KK) (xs:List AV) (us:List Value) (la:List Lit),PD P (KA P D) i fs=some ks→ET ks xs=some la→AH w0 γ xs us→cs.drop i=us→
  ∃j,fs.mapM (fun f=>P.keyLits D f.type ((cs.drop f.offset).take (P.cellsOf f.type)))=some j∧j.flatten=la
 | [],i,ks,xs,us,la,h,h1,h2,h3=>by
  simp only [PD,Option.some.injEq] at h
  subst h
  cases xs <;> simp [ET] at h1
  simp_all
 | f::fs,i,ks,xs,us,la,h,h1,h2,h3=>by
  rw [PD] at h
  split at h
  ·rename_i I
   split at h
   ·rename_i a b p hb
    cases h
    obtain⟨l1,l2,u,G,rfl⟩:=ND h1
    obtain⟨v1,q⟩:=T3 a.length h2
    have C:=OL p
    have k1:=IH _ _ _ _ _ p u v1
    obtain⟨j,F,v⟩:=T4 IH cs fs (i+P.cellsOf f.type) b _ _ l2 hb G q (by rw [← C,← List.drop_drop,h3])
    simp_all
   grind
  grind
theorem T5 {P} {w0} {γ}:∀ (D:Nat) (t:TypeId) (F:List KK) (p:List AV) (us:List Value) (C:List Lit),KA P D t=some F→ET F p=some C→AH w0 γ p us→P.keyLits D t us=some C
 |0,_,_,_,_,_,h,_,_=>by grind [KA]
 | D + 1,t,F,p,us,C,h,h1,h2=>by
  have O:=OL h
  have U:=Iu h1
  have W:=NE h2
  rw [KA] at h
  split at h
  ·rename_i Y j
   split at h
   ·cases h
    split at j
    ·rename_i v
     cases j
     match p,us,h1,h2 with
     | [.bool b],us,h1,h2=>
      simp only [AH,VSim] at h2
      obtain⟨u,G,rfl,rfl,rfl⟩:=h2
      simp [ET] at h1
      subst h1
      simp [Program.keyLits,v]
    ·rename_i k v
     cases j
     match p,us,h1,h2 with
     | [.int k1 n],us,h1,h2=>
      simp only [AH,VSim] at h2
      obtain⟨u,G,rfl,⟨rfl,q⟩,rfl⟩:=h2
      simp only [ET] at h1
      split at h1
      ·rename_i hk
       subst hk
       simp at h1
       subst h1
       simp [Program.keyLits,v,q]
      ·cases h1
    ·rename_i v
     cases j
     match p,us,h1,h2 with
     | [.str s],us,h1,h2=>
      simp only [AH,VSim] at h2
      obtain⟨u,G,rfl,⟨rfl,q⟩,rfl⟩:=h2
      simp [ET] at h1
      subst h1
      simp [Program.keyLits,v,q]
    ·rename_i fs v
     split at j
     ·rename_i hn
      obtain⟨ls,J,I⟩:=T4 (D:=D) (fun t F p us C=>T5 D t F p us C) us fs.toList 0 F p us C j h1 h2 (by simp)
      unfold Program.keyLits
      simp only [v]
      rw [if_pos ⟨by omega,hn⟩,J,Option.map_some,I]
     ·cases j
    ·cases j
   ·cases h
  ·cases h
theorem Vk {P} {w w0} {γ} {t} {ks} {xs ys} {us vs} {b} (ht:IC P t=some ks) (hb:Cl ks xs ys=some b) (hx:AH w0 γ xs us) (hy:AH w0 γ ys vs):
  (Op.equal t (.agg us.toArray) (.agg vs.toArray)).run P w= .ok b w∧P.eqGuardType P.depth t=false:=by
 unfold IC at ht
 split at ht
 ·rename_i fs W
  split at ht
  ·rename_i G
   obtain⟨q,F⟩:=G
   obtain⟨as,bs,v,p,u⟩:=g5 _ _ _ _ hb
   have j:=OL ht
   have C:=T5 4 t ks xs us as ht v hx
   have J:=T5 4 t ks ys vs bs ht p hy
   have Y:us.length=P.cellsOf t:=by rw [NE hx,Iu v,j]
   have U:vs.length=P.cellsOf t:=by rw [NE hy,Iu p,j]
   obtain⟨r,O,I⟩:=run_equalIn_deep 9996 4 t q w 4 4 (.agg us.toArray) (.agg vs.toArray) _ _ (by grind [Value.formed]) (by grind [Value.formed]) (by simpa [Value.cells] using C) (by simpa [Value.cells] using J)
   grind [Op.equal,Op.maxDepth]
  grind
 grind
def EvK (cx:Cx) (γ:Gh) (T:Nat→Option Tok) (B:Nat→Option (List AV)) (o:Oper) (a:Act) (next:Act→World→Prop) (r:Res):Prop:=
 ∀v w' γ',Gh.Ext γ γ'→(∀t,γ'.tl t→γ.tl t∨∃x ∈ r.t,x.1 =t)→(∀b,γ'.bl b→γ.bl b∨∃x ∈ r.b,x.1 =b)→OSim cx γ' T B w'→VSim γ'.vw γ' r.v v→next (a.put o.dst v) w'
section
variable {cx:Cx} {γ:Gh} {T:Nat→Option Tok} {B:Nat→Option (List AV)} {w:World} {o:Oper} {a:Act} {next:Act→World→Prop} {Q:Exit→Act→World→Prop}
theorem Ak (hs:OSim cx γ T B w) {av} {v} (hr:(execOp a.eval o).run cx.P w= .ok (.value v) w) (hv:VSim γ.vw γ av v) (hk:EvK cx γ T B o a next ⟨av,[],[]⟩):o.wp cx.P a w next Q:=
 LB hr (hk v w γ (Gh.Ext.refl γ) (fun t h=>.inl h) (fun b h=>.inl h) hs hv)
theorem WT {op} {t} {x y v} {u u'} {ox oy} (hx:VSim γ.vw γ x u) (hy:VSim γ.vw γ y u') (h:Bin cx.P op t x y v):
  ∃r,(do eqGuard op t ox oy u u'; binOp op t u u':Sem Value).run cx.P w= .ok r w∧VSim γ.vw γ v r:=by
 unfold Bin at h
 split at h
 ·simp only [VSim] at hx hy
  obtain⟨us,rfl,hx⟩:=hx
  obtain⟨vs,rfl,hy⟩:=hy
  obtain⟨U,b,h1,h2,h⟩:=h
  obtain⟨h3,I⟩:=Vk (w:=w) h1 h2 hx hy
  cases op <;> simp only at h
  case eql=>simp_all [eqGuard,binOp,ER]
  simp_all [eqGuard,binOp,ER]
 ·rename_i k a J b
  simp only [VSim] at hx hy
  obtain⟨rfl,F⟩:=hx
  obtain⟨rfl,G⟩:=hy
  cases op <;> simp only [Lt,Option.some.injEq] at h
  case shl=>obtain⟨hb,rfl⟩:=h; simp_all [eqGuard_shl,binOp_shl,shift_shl_any,Cr,GX]
  case shr=>obtain⟨hb,rfl⟩:=h; simp_all [eqGuard_shr,binOp_shr,shift_shr_any,Cr,nP]
  all_goals obtain⟨rfl,h⟩:=h
  case and=>subst h; exact⟨_,by simp [eqGuard_and,binOp_and,intBits_and],Cr (GX _ _)⟩
  case or=>subst h; exact⟨_,by simp [eqGuard_or,binOp_or,intBits_or],Cr (GX _ _)⟩
  case xor=>subst h; exact⟨_,by simp [eqGuard_xor,binOp_xor,intBits_xor],Cr (GX _ _)⟩
  case andNot=>subst h; exact⟨_,by simp [eqGuard_andNot,binOp_andNot,intBits_andNot],Cr (GX _ _)⟩
  case quo=>obtain⟨hb,rfl⟩:=h; simp_all [eqGuard,binOp,Op.intDiv,Cr,GX]
  case rem=>obtain⟨hb,rfl⟩:=h; simp_all [eqGuard,binOp,Op.intDiv,Cr,kV]
  case add=>subst h; simp [eqGuard,binOp,Op.intArith,Cr,GX]
  case sub=>subst h; simp [eqGuard,binOp,Op.intArith,Cr,GX]
  case mul=>subst h; simp [eqGuard,binOp,Op.intArith,Cr,GX]
  case eql=>subst h; simp [eqGuard,binOp,Op.intCmp,Bool.beq_eq_decide_eq,ER]
  case neq=>subst h; simp [eqGuard,binOp,Op.intCmp,bne,Bool.beq_eq_decide_eq,ER]
  case lss=>subst h; simp [eqGuard,binOp,Op.intCmp,ER]
  case leq=>subst h; simp [eqGuard,binOp,Op.intCmp,ER]
  case gtr=>subst h; simp [eqGuard,binOp,Op.intCmp,ER]
  case geq=>subst h; simp [eqGuard,binOp,Op.intCmp,ER]
  all_goals cases h
 ·rename_i a b
  simp only [VSim] at hx hy
  subst hx hy
  split at h
  ·rename_i q
   subst h
   exact⟨.bool (a == b),by
    have j:cx.P.underlying t=some .bool :=by unfold ti at q; split at q <;> simp_all
    simp [eqGuard,binOp,R1 j],ER⟩
  ·rename_i q
   subst h
   exact⟨.bool (!(a == b)),by
    have j:cx.P.underlying t=some .bool :=by unfold ti at q; split at q <;> simp_all
    simp [eqGuard,binOp,R1 j],ER⟩
  grind
 ·rename_i a b
  simp only [VSim] at hx hy
  obtain⟨rfl,O⟩:=hx
  obtain⟨rfl,hb⟩:=hy
  cases op <;> simp only at h
  case eql=>simp_all [eqGuard,binOp,Op.stringOp,ER]
  case neq=>simp_all [eqGuard,binOp,Op.stringOp,ER]
  case add=>
   obtain⟨C,rfl⟩:=h
   refine⟨.string (a++b),?_,XV (by rw [ByteArray.size_append]; exact C)⟩
   unfold maxLen at C
   have:¬ (((a.size+b.size:Nat):Int) > IntKind.i64.max):=by grind [IntKind.max,IntKind.bits]
   simp_all [eqGuard,binOp,Op.stringOp]
  all_goals exact h.elim
 ·simp only [VSim] at hx hy
  subst hx hy
  split at h
  ·rename_i e q
   subst h
   exact⟨.bool true,by
    have j:cx.P.underlying t=some (.pointer e):=by unfold ti at q; split at q <;> simp_all
    simp_all [eqGuard,binOp,LC],ER⟩
  ·rename_i e q
   subst h
   exact⟨.bool false,by
    have j:cx.P.underlying t=some (.pointer e):=by unfold ti at q; split at q <;> simp_all
    simp_all [eqGuard,binOp,LC],ER⟩
  grind
 all_goals first
  |exact h.elim
  | (
   simp only [VSim] at hx hy
   obtain⟨p,hp⟩:∃p,(u= .pointer (some p)∧u'= .pointer none)∨(u= .pointer none∧u'= .pointer (some p)):=by
    first
     |exact⟨_,.inl ⟨hx.2,hy⟩⟩
     |exact⟨_,.inr ⟨hx,hy.2⟩⟩
     |(obtain⟨b,o,us,hx,-⟩:=hx; exact⟨_,.inl ⟨hx,hy⟩⟩)
     |(obtain⟨b,o,us,hy,-⟩:=hy; exact⟨_,.inr ⟨hx,hy⟩⟩)
   split at h
   ·rename_i e q
    subst h
    have j:cx.P.underlying t=some (.pointer e):=by unfold ti at q; split at q <;> simp_all
    refine⟨.bool false,?_,ER⟩
    rcases hp with ⟨rfl,rfl⟩|⟨rfl,rfl⟩ <;> simp [eqGuard,binOp,LC j,R2 j]
   ·rename_i e q
    subst h
    have j:cx.P.underlying t=some (.pointer e):=by unfold ti at q; split at q <;> simp_all
    refine⟨.bool true,?_,ER⟩
    rcases hp with ⟨rfl,rfl⟩|⟨rfl,rfl⟩ <;> simp [eqGuard,binOp,LC j,R2 j]
   ·exact h.elim)
theorem eW {op} {x v} {u} (hx:VSim γ.vw γ x u) (h:Uno op x v):∃r,(Op.unary op u).run cx.P w= .ok r w∧VSim γ.vw γ v r:=by
 unfold Uno at h
 split at h
 ·simp_all [VSim,Op.unary]
 ·simp only [VSim] at hx; obtain⟨rfl,j⟩:=hx; simp_all [Op.unary,Op.intArith,Cr,GX]
 ·simp only [VSim] at hx; obtain⟨rfl,j⟩:=hx; subst h; exact⟨_,by rfl,Cr (GX _ _)⟩
 grind
theorem eX (hs:OSim cx γ T B w) {t} {x i v} {u u'} (hx:VSim γ.vw γ x u) (hi:VSim γ.vw γ i u') (h:Tj cx.P T t x i v):
  ∃r,(Instr.indexAt t u u').run cx.P w= .ok r w∧VSim γ.vw γ v r:=by
 unfold Tj at h
 split at h
 ·rename_i e rows k n G
  obtain⟨C,O,⟨h0,j,hl⟩,rfl⟩:=h
  simp only [VSim] at hx hi
  obtain⟨rfl,-⟩:=hi
  have F:=A7 j
  simp only [Rep] at hx
  obtain⟨ad,c,rfl,-,-,h3⟩:=hx
  rcases h3 with h3|⟨sz,b,off,rfl,hR⟩
  ·rw [h3] at F; grind
  ·have J:n<rows.length:=by omega
   have U:=hR.at _ F
   rw [List.getElem?_eq_getElem F] at j
   simp only [Option.some.injEq] at j
   rw [j] at U
   have hsz':sz=tsz cx.P e:=by omega
   refine⟨.pointer (some ⟨b,off+n.toNat*tsz cx.P e,none⟩),?_,?_⟩
   ·simp [Instr.indexAt,run_underlying (IE G),asIntOf,h0,J,CZ C,Addr.add_lit]
   ·obtain⟨us,k1,k2⟩:=Qp (γ:=γ) U.2
    have k3:AV.pts (O.map ofD)=true→PF γ.vw b:=fun e=>MP U.2 (by rw [PC]; exact e)
    grind [VSim]
 ·rename_i e t' k n G
  obtain⟨C,tk,O,hT,⟨h0,j,hl⟩,rfl⟩:=h
  simp only [VSim] at hx hi
  obtain⟨rfl,-⟩:=hi
  obtain⟨⟨I,-⟩,rfl⟩:=hx
  have F:=A7 j
  have q:=(hs.tok t' tk I hT).own
  simp only [Own] at q
  rcases q with ⟨he,-,-⟩|⟨sz',g,o',c',e',cs,fps,hv,h1,h2,hb,h3,hr,-⟩
  ·rw [he] at F; grind
  ·have J:n<tk.rows.length:=by omega
   refine⟨.pointer (some ⟨g,o'+n.toNat*tsz cx.P e,none⟩),?_,?_⟩
   ·rw [hv]
    simp [Instr.indexAt,run_underlying (IE G),asIntOf,h0,J,CZ C,Addr.add_lit]
   grind [VSim]
 ·rename_i e t' g p k n G
  obtain⟨C,rows,O,W,⟨h0,j,hl⟩,rfl⟩:=h
  simp only [VSim] at hx hi
  obtain⟨rfl,-⟩:=hi
  obtain⟨⟨I,hgl⟩,-,rfl⟩:=hx
  have F:=A7 j
  obtain⟨tk,f1,f2,f3,-,-,-,-,-,q,-⟩:=Jy hs.see I W
  simp only [Own] at q
  rcases q with ⟨he,-,-⟩|⟨sz',b,o',c',e',cs,fps,hv,h1,h2,hb,h3,hr,-⟩
  ·rw [he] at F; grind
  ·have J:n<rows.length:=by omega
   refine⟨.pointer (some ⟨b,o'+n.toNat*tsz cx.P e,none⟩),?_,?_⟩
   ·rw [hv]
    simp [Instr.indexAt,run_underlying (IE G),asIntOf,h0,J,CZ C,Addr.add_lit]
   grind [VSim]
 ·rename_i l e b off k n G
  obtain⟨C,⟨h0,J⟩,rfl⟩:=h
  simp only [VSim] at hx hi
  obtain⟨rfl,-⟩:=hi
  obtain⟨hbl,rfl⟩:=hx
  have Y:cx.P.underlying t=some (.array l e):=by
   unfold ti at G
   split at G <;> simp_all
  refine⟨.pointer (some ⟨γ.bb b,γ.bo b+(off+n.toNat*tsz cx.P e),none⟩),?_,?_⟩
  ·simp [Instr.indexAt,Instr.sureAddr,run_underlying Y,asIntOf,h0,J,CZ C,Addr.add_lit,Nat.add_assoc]
  ·simp [VSim,hbl,Nat.add_assoc]
 grind
theorem OM {P} {t k e} (h:ti P t= .map k e):P.underlying t=some (.map k e):=by
 unfold ti at h
 split at h <;> simp_all
theorem eY {a b} (h:Th a=Th b):a=b:=by
 unfold Th at h
 simp only [Value.tuple.injEq] at h
 have h1:a.map (fun e=>Value.tuple #[e.1,e.2])=b.map fun e=>Value.tuple #[e.1,e.2] :=by grind
 clear h
 induction a generalizing b with
 |nil=>simp_all
 | cons x a ih=>cases b with
  |nil=>grind
  |cons y b=>
   grind
theorem BB.length {q}:∀ {rows} {es},BB q rows es→es.length=rows.length
 | [],es,h=>by grind [BB]
 |r::rs,es,h=>by
  simp only [BB] at h
  obtain⟨e,j,rfl,-,h⟩:=h
  simp [BB.length h]
theorem XW (hs:OSim cx γ T B w) {b} {q} {rows} (hbl:γ.bl b) (hB:B b=some [.mpc q rows]):∃j k,w.heap[γ.bb b]? =some (.map j k)∧BB q rows (JC j)∧rows.length≤68719476736∧MapKept.Stamped j k:=by
 obtain⟨us,h1,h2⟩:=hs.box b _ hbl hB
 obtain⟨-,j,k,h3,p,u⟩:=h2.map rfl
 grind [AH,VSim,eY]
theorem ON (n:Nat) (hn:n≤maxLen):(Lit.int .i64 (n:Int)).wf =true:=by
 grind [maxLen,Lit.wf,IntKind.min,IntKind.max,IntKind.bits]
theorem eZ (hs:OSim cx γ T B w) {t ty} {x v} {u} (hx:VSim γ.vw γ x u) (h:Vi cx.P T B t x v):
  ∃r,(Builtin.len_ #[t] ty #[u]).run cx.P w= .ok r w∧VSim γ.vw γ v r:=by
 unfold Vi at h
 split at h
 ·rename_i s F
  subst h
  simp only [VSim] at hx
  obtain⟨rfl,O⟩:=hx
  exact⟨_,by simp [Builtin.len_,run_underlying (XT F)]; rfl,Cr (ON _ O)⟩
 ·rename_i C F
  subst h
  simp only [VSim,Rep] at hx
  obtain⟨W,c,rfl,h1,h2,-⟩:=hx
  exact⟨_,by simp [Builtin.len_,run_underlying (IE F)]; rfl,Cr (ON _ (Nat.le_trans h1 h2))⟩
 ·rename_i F
  subst h
  simp only [VSim] at hx
  subst hx
  exact⟨_,by simp [Builtin.len_,run_underlying (IE F)]; rfl,Cr (ON 0 (Nat.zero_le _))⟩
 ·rename_i F
  subst h
  simp only [VSim] at hx
  obtain⟨-,hn,rfl⟩:=hx
  exact⟨_,by simp [Builtin.len_,run_underlying (IE F)]; rfl,Cr (ON _ hn)⟩
 ·rename_i t' F
  obtain⟨tk,hT,rfl⟩:=h
  simp only [VSim] at hx
  obtain⟨⟨G,-⟩,rfl⟩:=hx
  have j:=(hs.tok t' tk G hT).rep hs.vw.k
  simp only [Rep] at j
  obtain⟨W,c,hv,h1,h2,-⟩:=j
  exact⟨_,by rw [hv]; simp [Builtin.len_,run_underlying (IE F)]; rfl,Cr (ON _ (Nat.le_trans h1 h2))⟩
 ·rename_i t' g p F
  obtain⟨C,J,rfl⟩:=h
  simp only [VSim] at hx
  obtain⟨⟨G,-⟩,-,rfl⟩:=hx
  obtain⟨tk,f1,f2,f3,-,-,-,-,-,I,-⟩:=Jy hs.see G J
  have j:=I.rep (Tok.vwk hs.vw.k)
  simp only [Rep] at j
  obtain⟨W,c,hv,h1,h2,-⟩:=j
  exact⟨_,by rw [hv]; simp [Builtin.len_,run_underlying (IE F)]; rfl,Cr (ON _ (Nat.le_trans h1 h2))⟩
 ·rename_i kt et b F
  obtain⟨q,C,hB,rfl⟩:=h
  simp only [VSim] at hx
  obtain⟨U,rfl⟩:=hx
  obtain⟨Y,k,h1,h2,h3⟩:=XW hs U hB
  have hl:Y.size=C.length:=by have:=h2.length; grind [JC]
  exact⟨.int .i64 C.length,by simp [Builtin.len_,run_underlying (OM F),MapKept.run_getObj_map h1,hl,goInt],Cr (ON _ (by grind [maxLen]))⟩
 grind
end
end Go.Proofs.YtjnifengdhcojaaGreatDoor.Ab
