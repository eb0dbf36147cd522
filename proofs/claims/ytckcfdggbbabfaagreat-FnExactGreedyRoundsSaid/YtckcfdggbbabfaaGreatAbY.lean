/-
  The abstract walk: places in a function's text, values that name nothing of the call's own, steps of models.
-/
import Derived.Test.YtckcfdggbbabfaaGreatAbV
namespace Go.Proofs.YtckcfdggbbabfaaGreat.Ab
set_option linter.unusedVariables false
open Go.RowKit
def pos (P:Program):Code→List Nat→(AE→St→Prop)→St→Prop
 |c,[],Q=>awp P c Q
 | .seq a b,0::p,Q=>pos P a p (AE.then (Zu (Ho a) (awp P b Q)) Q)
 | .seq a b,_::p,Q=>pos P b p Q
 | .cond _ a b,0::p,Q=>pos P a p Q
 | .cond _ a b,_::p,Q=>pos P b p Q
 | .block id c,_::p,Q=>pos P c p (AE.inBlock id Q)
 | .loop c,_::p,Q=>pos P c p (AE.then (lpX P c Q) Q)
 |_,_,_=>fun _=>False
def Aw (P:Program) (fn:Func) (p:List Nat) (r:RV) (σ:St):Prop:=pos P (fn.body.getD .skip) p (endX P fn.results.toList r) σ
def Y4 (r:AV) (qt:List (Nat × Tok)) (qb:List (Nat × List AV)) (v:AV) (σ:St):Prop:=Wk ⟨[(0,v)],σ.t,σ.b⟩ ⟨[(0,r)],Kc qt,Kd qb⟩
def RS (r:AV) (qt:List (Nat × Tok)) (qb:List (Nat × List AV)) (σ:St) (vs:List AV):Prop:=Y4 r qt qb (oneA vs) σ
@[go_sem ↓] theorem gJ {r:AV} {qt:List (Nat × Tok)} {qb:List (Nat × List AV)} {σ:St}:RS r qt qb σ [] =Y4 r qt qb (.tup []) σ:=rfl
@[go_sem ↓] theorem gK {r v:AV} {qt:List (Nat × Tok)} {qb:List (Nat × List AV)} {σ:St}:RS r qt qb σ [v] =Y4 r qt qb v σ:=rfl
@[go_sem ↓] theorem gL {r v u:AV} {vs:List AV} {qt:List (Nat × Tok)} {qb:List (Nat × List AV)} {σ:St}:RS r qt qb σ (v::u::vs)=Y4 r qt qb (.tup (v::u::vs)) σ:=rfl
def Kh (P:Program) (l:List ResultVar) (r:AV) (qt:List (Nat × Tok)) (qb:List (Nat × List AV)) (q:AE) (σ:St):Prop:=match q with| .exit _=>False|_=>Ld P σ l (RS r qt qb σ)
@[go_sem ↓] theorem cE {P:Program} {l:List ResultVar} {r:AV} {qt:List (Nat × Tok)} {qb:List (Nat × List AV)} {σ:St}:Kh P l r qt qb .normal σ=Ld P σ l (RS r qt qb σ):=rfl
@[go_sem ↓] theorem gM {P:Program} {l:List ResultVar} {r:AV} {qt:List (Nat × Tok)} {qb:List (Nat × List AV)} {σ:St}:Kh P l r qt qb .ret σ=Ld P σ l (RS r qt qb σ):=rfl
theorem BD {r v:AV} {qt:List (Nat × Tok)} {qb:List (Nat × List AV)} {σ σ1:St} (hn:Nils ⟨[(0,v)],σ.t,σ.b⟩ σ1) (rt rb:List (Nat × Nat)) (h:JV rt rb σ1 ⟨[(0,r)],Kc qt,Kd qb⟩):Y4 r qt qb v σ:=.one ⟨σ1,hn,rt,rb,h⟩
attribute [go_sem] Kc Kd stG Xy Xz oneA
theorem gN {P:Program} (hm:P.follows .mixedOrders =true) {f:FuncId} {fn:Func} {c:Code} {l:List ResultVar} {args:List AV} {pt:List (Nat × Tok)} {pb:List (Nat × List AV)} {r:AV} {qt:List (Nat × Tok)} {qb:List (Nat × List AV)} (hf:P.funcs[f]? =some fn) (hb:fn.body=some c) (hr:fn.results=l.toArray) (hnm:(fn.name == "runtime.NumGoroutine")=false)
  (hn:decide (args.length≤fn.ntmps)=true) (hok:FC fn.ntmps c=true) (h:awp P c (Kh P l r qt qb) (stG args pt pb)):AG P f args pt pb r qt qb:=by
 refine Uq hm hf hb hnm (of_decide_eq_true hn) hok ?_
 have e:endG P fn.results.toList r qt qb=Kh P l r qt qb:=by
  rw [hr]
  funext q σ
  cases q <;> rfl
 rw [e]
 exact h
def DB (P:Program) (fn:Func) (p:List Nat) (r:AV) (qt:List (Nat × Tok)) (qb:List (Nat × List AV)) (σ:St):Prop:=pos P (fn.body.getD .skip) p (Kh P fn.results.toList r qt qb) σ
section
variable {P:Program} {σ:St} {Q:AE→St→Prop}
theorem Ay {fn:Func} {c:Code} {l:List ResultVar} {p:List Nat} {r:AV} {qt:List (Nat × Tok)} {qb:List (Nat × List AV)} (hb:fn.body=some c) (hr:fn.results=l.toArray) (h:pos P c p (Kh P l r qt qb) σ):DB P fn p r qt qb σ:=by
 unfold DB; rw [hb,hr]; exact h
theorem Gd {fn:Func} {c:Code} {l:List ResultVar} {p:List Nat} {r:AV} {qt:List (Nat × Tok)} {qb:List (Nat × List AV)} (hb:fn.body=some c) (hr:fn.results=l.toArray) (h:DB P fn p r qt qb σ):pos P c p (Kh P l r qt qb) σ:=by
 unfold DB at h; rw [hb,hr] at h; exact h
theorem AN {fn:Func} {c:Code} {l:List ResultVar} {p:List Nat} {r:RV} (hb:fn.body=some c) (hr:fn.results=l.toArray) (h:pos P c p (endX P l r) σ):Aw P fn p r σ:=by
 unfold Aw; rw [hb,hr]; exact h
theorem D8 {fn:Func} {c:Code} {l:List ResultVar} {p:List Nat} {r:RV} (hb:fn.body=some c) (hr:fn.results=l.toArray) (h:Aw P fn p r σ):pos P c p (endX P l r) σ:=by
 unfold Aw at h; rw [hb,hr] at h; exact h
@[go_sem ↓] theorem jB {c:Code}:pos P c [] Q σ=awp P c Q σ:=by cases c <;> rfl
@[go_sem ↓] theorem gO {a b:Code} {p:List Nat}:pos P (.seq a b) (0::p) Q σ=pos P a p (AE.then (Zu (Ho a) (awp P b Q)) Q) σ:=rfl
@[go_sem ↓] theorem gP {a b:Code} {p:List Nat}:pos P (.seq a b) (1::p) Q σ=pos P b p Q σ:=rfl
@[go_sem ↓] theorem eX {c:Operand} {a b:Code} {p:List Nat}:pos P (.cond c a b) (0::p) Q σ=pos P a p Q σ:=rfl
@[go_sem ↓] theorem eY {c:Operand} {a b:Code} {p:List Nat}:pos P (.cond c a b) (1::p) Q σ=pos P b p Q σ:=rfl
@[go_sem ↓] theorem eZ {id:Nat} {c:Code} {p:List Nat}:pos P (.block id c) (0::p) Q σ=pos P c p (AE.inBlock id Q) σ:=rfl
@[go_sem ↓] theorem gQ {c:Code} {p:List Nat}:pos P (.loop c) (0::p) Q σ=pos P c p (AE.then (lpX P c Q) Q) σ:=rfl
theorem dP {c:Code} {σ σ1:St} (hw:Wk σ σ1) (h:awp P (.loop c) Q σ1):awp P (.loop c) Q σ:=by
 rw [awp] at h ⊢
 intro L hL
 obtain⟨σ0,h1,h2⟩:=h L hL
 exact⟨σ0,hw.trans h1,h2⟩
theorem DT {b:Code} {w1:Wrap b} {w2:Wrap Q} {σ1:St} (h:awp P (.loop b) Q σ1) (hw:Wk σ σ1):TT P b Q σ w1 w2:=dP hw h
end
mutual
theorem U3 {rt rb:List (Nat × Nat)}:∀ {a:AV},GJ a=true→FG rt rb a=true∧ren rt rb a=a
 | .int _ _,_=>⟨rfl,rfl⟩
 | .bool _,_=>⟨rfl,rfl⟩
 | .str _,_=>⟨rfl,rfl⟩
 | .ro _,_=>⟨rfl,rfl⟩
 | .nilp,_=>⟨rfl,rfl⟩
 | .rop vs off,h=>by
  simp only [GJ] at h
  obtain⟨h1,h2⟩:=Ff (rt:=rt) (rb:=rb) h
  simp only [FG,ren]
  exact⟨h1,by rw [h2]⟩
 | .fn f vs,h=>by
  simp only [GJ] at h
  obtain⟨h1,h2⟩:=Ff (rt:=rt) (rb:=rb) h
  simp only [FG,ren]
  exact⟨h1,by rw [h2]⟩
 | .agg vs,h=>by
  simp only [GJ] at h
  obtain⟨h1,h2⟩:=Ff (rt:=rt) (rb:=rb) h
  simp only [FG,ren]
  exact⟨h1,by rw [h2]⟩
theorem Ff {rt rb:List (Nat × Nat)}:∀ {as:List AV},FS as=true→Ft rt rb as=true∧rens rt rb as=as
 | [],_=>⟨rfl,rfl⟩
 |a::as,h=>by
  simp only [FS,Bool.and_eq_true] at h
  obtain⟨h1,h2⟩:=U3 (rt:=rt) (rb:=rb) h.1
  obtain⟨h3,h4⟩:=Ff (rt:=rt) (rb:=rb) h.2
  simp only [Ft,rens,h1,h2,h3,h4,Bool.and_self,and_self]
end
mutual
theorem ay {T:Nat→Option Tok} {B:Nat→Option (List AV)}:∀ {a:AV},GJ a=true→cl T B a=some a
 | .int _ _,_=>rfl
 | .bool _,_=>rfl
 | .str _,_=>rfl
 | .ro _,_=>rfl
 | .nilp,_=>rfl
 | .rop vs off,h=>by simp only [GJ] at h; simp only [cl,Ki h,Option.map_some]
 | .fn f vs,h=>by simp only [GJ] at h; simp only [cl,Ki h,Option.map_some]
 | .agg vs,h=>by simp only [GJ] at h; simp only [cl,Ki h,Option.map_some]
theorem Ki {T:Nat→Option Tok} {B:Nat→Option (List AV)}:∀ {as:List AV},FS as=true→cls T B as=some as
 | [],_=>rfl
 |a::as,h=>by
  simp only [FS,Bool.and_eq_true] at h
  simp only [cls,ay h.1,Ki h.2]
end
structure Still (vs:List AV):Prop where
 p:FS vs=true
 k:∀rt rb,Ft rt rb vs=true
 r:∀rt rb,rens rt rb vs=vs
 c:∀T B,cls T B vs=some vs
theorem Still.of {vs:List AV} (h:FS vs=true):Still vs:=⟨h,fun _ _=>(Ff h).1,fun _ _=>(Ff h).2,fun _ _=>Ki h⟩
def Sub (a b:AV):Prop:=∀w v,VSim w Gh.none a v→VSim w Gh.none b v
theorem Sub.refl (a:AV):Sub a a:=fun _ _ h=>h
theorem Sub.rop {vs us:List AV} {off:Nat} (h:(vs.drop off).take us.length=us):Sub (.rop vs off) (.rop us 0):=fun w v hv=>by
 simp only [VSim] at hv ⊢
 obtain⟨b,o,xs,rfl,h1,h2⟩:=hv
 refine⟨b,o+off,(xs.drop off).take us.length,rfl,?_,fun j u hu=>?_⟩
 ·have:=h1.take_drop off us.length
  unfold FB at this
  rw [h] at this; exact this
 ·rw [List.getElem?_take] at hu
  split at hu
  ·rw [List.getElem?_drop] at hu
   rw [Nat.add_assoc]; exact h2 _ _ hu
  ·cases hu
def QY:List AV→List AV→Prop
 | [],[] =>True
 |a::as,b::bs=>Sub a b∧QY as bs
 |_,_=>False
theorem QY.nil:QY [] [] :=trivial
theorem QY.cons {a b:AV} {as bs:List AV} (h:Sub a b) (k:QY as bs):QY (a::as) (b::bs):=⟨h,k⟩
theorem QY.vsims {w:World}:∀ {as bs:List AV} {us:List Value},QY as bs→AK w Gh.none as us→AK w Gh.none bs us
 | [],[],us,_,h=>h
 |a::as,b::bs,us,h,hv=>by
  simp only [AK] at hv ⊢
  obtain⟨u,us',rfl,h1,h2⟩:=hv
  exact⟨u,us',rfl,h.1 _ _ h1,QY.vsims h.2 h2⟩
 | [],_::_,_,h,_=>h.elim
 |_::_,[],_,h,_=>h.elim
theorem MJ {P:Program} {f:FuncId} {as bs:List AV} {r:RV} (k:AC P f bs r) (h:QY as bs):AC P f as r:=
 ⟨k.1,fun w us h1 h2 ha h3=>k.2 w us h1 h2 ha (h.vsims h3)⟩
def prB (p:Int × Bool):List D:=[.int .i64 p.1,.bool p.2]
def prI (p:Int × Int):List D:=[.int .i64 p.1,.int .i64 p.2]
def Hx {β:Type}:List (Int × β)→Int→Option β
 | [],_=>none
 |p::l,k=>if k=p.1 then some p.2 else Hx l k
def Kj {β:Type}:List (Int × β)→Int→β→List (Int × β)
 | [],k,v=>[(k,v)]
 |p::l,k,v=>if k=p.1 then (k,v)::l else p::Kj l k v
def OE {β:Type} (l:List (Int × β)) (k:Int) (v:β):Option (List (Int × β)):=if l.length<68719476736 then some (Kj l k v) else none
theorem RT {β:Type} {l r:List (Int × β)} {k:Int} {v:β} (h:OE l k v=some r):l.length<68719476736∧Kj l k v=r:=by
 unfold OE at h
 split at h
 ·exact⟨‹_›,Option.some.inj h⟩
 ·cases h
theorem XK {l:List (Int × Bool)} {k:Int}:Hm (.int .i64 k) (List.map prB l)=(Hx l k).map D.bool:=by
 induction l with
 |nil=>rfl
 |cons p l ih=>
  simp only [List.map_cons,prB,Hm,Hx,Gn,beq_self_eq_true,Bool.true_and,decide_eq_true_eq]
  split
  ·rfl
  ·exact ih
theorem XL {l:List (Int × Int)} {k:Int}:Hm (.int .i64 k) (List.map prI l)=(Hx l k).map (D.int .i64):=by
 induction l with
 |nil=>rfl
 |cons p l ih=>
  simp only [List.map_cons,prI,Hm,Hx,Gn,beq_self_eq_true,Bool.true_and,decide_eq_true_eq]
  split
  ·rfl
  ·exact ih
theorem Y5 {l:List (Int × Bool)} {k:Int} {v:Bool}:mput (.int .i64 k) (.bool v) (List.map prB l)=List.map prB (Kj l k v):=by
 induction l with
 |nil=>rfl
 |cons p l ih=>
  simp only [List.map_cons,prB,mput,Kj,Gn,beq_self_eq_true,Bool.true_and,decide_eq_true_eq]
  split
  ·rfl
  ·rw [List.map_cons,← ih]; rfl
theorem Y6 {l:List (Int × Int)} {k v:Int}:mput (.int .i64 k) (.int .i64 v) (List.map prI l)=List.map prI (Kj l k v):=by
 induction l with
 |nil=>rfl
 |cons p l ih=>
  simp only [List.map_cons,prI,mput,Kj,Gn,beq_self_eq_true,Bool.true_and,decide_eq_true_eq]
  split
  ·rfl
  ·rw [List.map_cons,← ih]; rfl
attribute [go_sem] XK XL
@[go_sem] theorem jw {o:Option Bool} {z:Bool}:((o.map D.bool).map ofD).getD (.bool z)= .bool (o.getD z):=by cases o <;> rfl
@[go_sem] theorem jx {o:Option Int} {z:Int}:((o.map (D.int .i64)).map ofD).getD (.int .i64 z)= .int .i64 (o.getD z):=by cases o <;> rfl
@[irreducible] def fuel:Nat:=4611686018427387904
theorem Au:fuel=4611686018427387904:=by unfold fuel; rfl
def at? {α:Type} (l:List α) (i:Int):Option α:=if 0≤i then l[i.toNat]? else none
def app? {α:Type} (a b:List α):Option (List α):=if a.length+b.length≤68719476736 then some (a++b) else none
def Nk {α:Type} (n:Int) (z:α):Option (List α):=if 0≤n∧n≤68719476736 then some (List.replicate n.toNat z) else none
def XM {α:Type} (l:List α) (i:Int) (x:α):List α:=l.set i.toNat x
def D2 {α:Type} (l:List α) (i:Int) (x:α):Option (List α):=some (XM l i x)
theorem Bo {α:Type} {l:List α} {i:Int} {x:α} {r:List α} (h:D2 l i x=some r):l.set i.toNat x=r:=Option.some.inj h
def nz? (b:Int):Option Unit:=if b=0 then none else some ()
theorem V3 {b:Int} {u:Unit} (h:nz? b=some u):b≠0:=by
 unfold nz? at h
 split at h
 ·cases h
 ·assumption
theorem AD {α β:Type} {x:Option α} {k:α→Option β} {r:β} (h:Option.bind x k=some r):∃v,x=some v∧k v=some r:=by
 cases x with
 |none=>cases h
 |some v=>exact⟨v,rfl,h⟩
theorem ifT {α:Type} {c:Bool} {a b r:α} (hb:c=true) (h:(if c=true then a else b)=r):a=r:=by rw [if_pos hb] at h; exact h
theorem ifF {α:Type} {c:Bool} {a b r:α} (hb:c=false) (h:(if c=true then a else b)=r):b=r:=by subst hb; exact h
theorem AB {b:Bool} {p q:Prop} {w:Wrap p} {w':Wrap q} {α:Type} {x y r:α} (h:(if b=true then x else y)=r) (hp:x=r→p) (hq:y=r→q):RN b p q w w':=⟨fun e=>hp (ifT e h),fun e=>hq (ifF e h)⟩
theorem A5 {α:Type} {l:List α} {i:Int} {x:α} (h:at? l i=some x):0≤i∧l[i.toNat]? =some x:=by
 unfold at? at h
 split at h
 ·exact⟨‹_›,h⟩
 ·cases h
theorem BH {α:Type} {a b l:List α} (h:app? a b=some l):a.length+b.length≤68719476736∧a++b=l:=by
 unfold app? at h
 split at h
 ·exact⟨‹_›,Option.some.inj h⟩
 ·cases h
theorem Gs {α:Type} {n:Int} {z:α} {l:List α} (h:Nk n z=some l):0≤n∧n≤68719476736∧List.replicate n.toNat z=l:=by
 unfold Nk at h
 split at h
 ·exact⟨(‹_∧_› :_).1,(‹_∧_› :_).2,Option.some.inj h⟩
 ·cases h
theorem AM {α:Type} {f:α→List D} {l:List α} {n:Int} {sz:Nat} {K:List D→Prop} {w:Wrap K} {x:α} (h:at? l n=some x) (hl:(f x).length =sz) (hk:K (f x)):fl (List.map f l) n sz K w:=by
 obtain⟨h0,h1⟩:=A5 h
 exact⟨f x,⟨h0,by rw [List.getElem?_map,h1]; rfl,hl⟩,hk⟩
theorem Oj {α β:Type} {f:α→β} {l r:List α} {i j:Int} (h:cutL l i j=some r):cutL (List.map f l) i j=some (List.map f r):=by
 unfold cutL at h ⊢
 rw [List.length_map]
 split at h
 ·rename_i h0
  rw [if_pos h0]
  cases h
  simp only [List.map_take,List.map_drop]
 ·cases h
section
variable {P:Program} {σ:St} {Q:AE→St→Prop}
theorem A9 {K:St→Prop} {w1:Wrap K} {w2:Wrap σ} {σ1:St} {fn:Func} {c:Code} {l:List ResultVar} {p:List Nat} {r:AV} {qt:List (Nat × Tok)} {qb:List (Nat × List AV)} (h:DB P fn p r qt qb σ1) (rt rb:List (Nat × Nat)) (hb:fn.body=some c:=by rfl) (hr:fn.results=l.toArray:=by rfl) (e:pos P c p (Kh P l r qt qb) σ1→K σ1:=by exact fun h=>h) (hw:JV rt rb σ σ1:=by simp only [go_sem]):TS false K σ w1 w2:=YZ (e (Gd hb hr h)) (.one ⟨_,.done _,rt,rb,hw⟩)
theorem lpG {b:Code} {w1:Wrap b} {w2:Wrap Q} {w3:Wrap σ} {σ1:St} {fn:Func} {c:Code} {l:List ResultVar} {p:List Nat} {r:AV} {qt:List (Nat × Tok)} {qb:List (Nat × List AV)} (h:DB P fn p r qt qb σ1) (rt rb:List (Nat × Nat)) (hb:fn.body=some c:=by rfl) (hr:fn.results=l.toArray:=by rfl) (e:pos P c p (Kh P l r qt qb) σ1→awp P (.loop b) Q σ1:=by exact fun h=>h) (hw:JV rt rb σ σ1:=by simp only [go_sem]):lpY P b Q σ w1 w2 w3:=RP (e (Gd hb hr h)) (.one ⟨_,.done _,rt,rb,hw⟩)
theorem loG {b:Code} {w1:Wrap b} {w2:Wrap Q} {σ1:St} {fn:Func} {c:Code} {l:List ResultVar} {p:List Nat} {r:AV} {qt:List (Nat × Tok)} {qb:List (Nat × List AV)} (h:DB P fn p r qt qb σ1) (rt rb:List (Nat × Nat)) (hb:fn.body=some c:=by rfl) (hr:fn.results=l.toArray:=by rfl) (e:pos P c p (Kh P l r qt qb) σ1→awp P (.loop b) Q σ1:=by exact fun h=>h) (hw:JV rt rb σ σ1:=by simp only [go_sem]):TT P b Q σ w1 w2:=DT (e (Gd hb hr h)) (.one ⟨_,.done _,rt,rb,hw⟩)
theorem AT {K:St→Prop} {w1:Wrap K} {w2:Wrap σ} {σ1:St} {fn:Func} {c:Code} {l:List ResultVar} {p:List Nat} {r:RV} (h:Aw P fn p r σ1) (rt rb:List (Nat × Nat)) (hb:fn.body=some c:=by rfl) (hr:fn.results=l.toArray:=by rfl) (e:pos P c p (endX P l r) σ1→K σ1:=by exact fun h=>h) (hw:JV rt rb σ σ1:=by simp only [go_sem]):TS false K σ w1 w2:=YZ (e (D8 hb hr h)) (.one ⟨_,.done _,rt,rb,hw⟩)
theorem lpF {b:Code} {w1:Wrap b} {w2:Wrap Q} {w3:Wrap σ} {σ1:St} {fn:Func} {c:Code} {l:List ResultVar} {p:List Nat} {r:RV} (h:Aw P fn p r σ1) (rt rb:List (Nat × Nat)) (hb:fn.body=some c:=by rfl) (hr:fn.results=l.toArray:=by rfl) (e:pos P c p (endX P l r) σ1→awp P (.loop b) Q σ1:=by exact fun h=>h) (hw:JV rt rb σ σ1:=by simp only [go_sem]):lpY P b Q σ w1 w2 w3:=RP (e (D8 hb hr h)) (.one ⟨_,.done _,rt,rb,hw⟩)
theorem loF {b:Code} {w1:Wrap b} {w2:Wrap Q} {σ1:St} {fn:Func} {c:Code} {l:List ResultVar} {p:List Nat} {r:RV} (h:Aw P fn p r σ1) (rt rb:List (Nat × Nat)) (hb:fn.body=some c:=by rfl) (hr:fn.results=l.toArray:=by rfl) (e:pos P c p (endX P l r) σ1→awp P (.loop b) Q σ1:=by exact fun h=>h) (hw:JV rt rb σ σ1:=by simp only [go_sem]):TT P b Q σ w1 w2:=DT (e (D8 hb hr h)) (.one ⟨_,.done _,rt,rb,hw⟩)
theorem AF {K:St→Prop} {w1:Wrap K} {w2:Wrap σ} {q:Prop} (h:q) (e:q→K σ:=by first|(intro h; simp only [go_sem]; exact h)|exact fun h=>h):TS false K σ w1 w2:=FD (e h)
theorem acF {f:FuncId} {c:Code} {l:List ResultVar} {args:List AV} {r:RV} {fn:Func} (hf:P.funcs[f]? =some fn) (hm:P.follows .mixedOrders =true) (hb:fn.body=some c:=by rfl) (hr:fn.results=l.toArray:=by rfl) (hnm:(fn.name == "runtime.NumGoroutine")=false:=by rfl)
  (hn:decide (args.length≤fn.ntmps)=true:=by kernel_rfl) (hok:FC fn.ntmps c=true:=by kernel_rfl) (h:awp P c (endX P l r) (st0 args)):AC P f args r:=fj hm hf hb hr hnm hn hok h
theorem agF {f:FuncId} {c:Code} {l:List ResultVar} {args:List AV} {pt:List (Nat × Tok)} {pb:List (Nat × List AV)} {r:AV} {qt:List (Nat × Tok)} {qb:List (Nat × List AV)} {fn:Func} (hf:P.funcs[f]? =some fn) (hm:P.follows .mixedOrders =true) (hb:fn.body=some c:=by rfl) (hr:fn.results=l.toArray:=by rfl) (hnm:(fn.name == "runtime.NumGoroutine")=false:=by rfl)
  (hn:decide (args.length≤fn.ntmps)=true:=by kernel_rfl) (hok:FC fn.ntmps c=true:=by kernel_rfl) (h:awp P c (Kh P l r qt qb) (stG args pt pb)):AG P f args pt pb r qt qb:=gN hm hf hb hr hnm hn hok h
theorem caG {K:St→Prop} {pos:Nat} {dst:Option Tmp} {L:Bool} {wL:Wrap L} {f:FuncId} {args:List AV} {o:Option (List AV)} {w:Wrap K} {as:List AV} {pt:List (Nat × Tok)} {pb:List (Nat × List AV)} {r:AV} {qt:List (Nat × Tok)} {qb:List (Nat × List AV)} (y:Way) (h:AG P f as pt pb r qt qb)
  (hc:CW y.cv σ fun σ1=>AU (Tg y args as pt pb σ1) (Bp y.cv (σ1.after y qt qb) fun σ2=>K (σ2.put dst (bak y r)))) (hL:L=true:=by kernel_rfl) (hB:Tf y as pt pb qt qb=true:=by kernel_rfl):OC P L pos f args o dst σ K w wL:=dL y hL h hB hc
end
theorem Z {P Q:Prop} (h:Q) (e:Q→P:=by first|(intro h; simp only [go_sem]; exact h)|exact fun h=>h):P:=e h
theorem gR {α:Type} {f:α→List D} {xs ys:List α} {i j:Int} {sz:Nat} (h:cutL xs i j=some ys) (hf:∀x,(f x).length =sz):parR sz i.toNat (j - i).toNat (List.map f xs)=some (List.map f ys):=by
 unfold cutL at h
 unfold parR
 split at h
 ·rename_i h0
  cases h
  rw [if_pos ⟨fun row hr=>by obtain⟨x,-,rfl⟩:=List.mem_map.1 hr; exact hf x,by rw [List.length_map]; omega⟩]
  simp only [List.map_take,List.map_drop]
 ·cases h
theorem R1 {σ:St} {t g:Nat} {q:Pth} {tk:Tok} {r:List (List D)} (hT:σ.T t=some tk) (hg:tk.gen=g) (h:getP q tk.rows=some r):subR σ.T t g q=some r:=by
 unfold subR
 rw [hT]
 simp [hg,h]
attribute [go_sem] List.length_replicate
theorem AW {α:Type} {f:α→List D} {l:List α} {n:Int} {x:α} (h:at? l n=some x):(List.map f l)[n.toNat]? =some (f x):=by
 rw [List.getElem?_map,(A5 h).2]; rfl
def AY (n:Int):List D:=[.int .i64 n]
def u8D (n:Int):List D:=[.int .u8 n]
def gS (b:Bool):List D:=[.bool b]
def jy (s:ByteArray):List D:=[.str s]
def slD {α:Type} (f:α→List D) (l:List α):List D:=[.sl (List.map f l)]
attribute [go_sem] AY u8D gS jy slD List.map_cons List.map_nil List.length_map List.nodup_cons List.mem_cons List.not_mem_nil not_or or_false or_true true_or false_or not_false_eq_true
end Go.Proofs.YtckcfdggbbabfaaGreat.Ab
namespace Go.Proofs.YtckcfdggbbabfaaGreat.Ab
set_option linter.unusedVariables false
theorem Fx {α:Type} {f:α→List D} {sz:Nat} (h:∀x,(f x).length =sz∧∀d ∈ f x,d.flat=true) (l:List α):∀row ∈ List.map f l,row.length=sz∧∀d ∈ row,d.flat=true:=by
 intro row hr
 obtain⟨x,-,rfl⟩:=List.mem_map.1 hr
 exact h x
theorem IW {α:Type} {f:α→List D} {sz:Nat} (h:∀x,(f x).length =sz) (l:List α):∀row ∈ List.map f l,row.length=sz:=by
 intro row hr
 obtain⟨x,-,rfl⟩:=List.mem_map.1 hr
 exact h x
theorem LV {α:Type} {f g:α→List D} (h:∀x,erC (f x)=g x):∀l:List α,erR (List.map f l)=List.map g l
 | [] =>by simp only [List.map_nil,erR]
 |x::xs=>by rw [List.map_cons,List.map_cons,erR,h x,LV h xs]
attribute [go_sem] rpS rpB Hn FH only Sq
end Go.Proofs.YtckcfdggbbabfaaGreat.Ab
