/-
  The abstract walk: places in a function's text, values that name nothing of the call's own, steps of models.
-/
import Derived.Test.YtckcfdggbbabfaaGreatAbV
namespace Go.Proofs.YtckcfdggbbabfaaGreat.Ab
set_option linter.unusedVariables false
open Go.RowKit
def pos (P:Program):Code→List Nat→(AE→St→Prop)→St→Prop
 |c,[],Q=>awp P c Q
 | .seq a b,0::p,Q=>pos P a p (AE.then (Zt (Hn a) (awp P b Q)) Q)
 | .seq a b,_::p,Q=>pos P b p Q
 | .cond _ a b,0::p,Q=>pos P a p Q
 | .cond _ a b,_::p,Q=>pos P b p Q
 | .block id c,_::p,Q=>pos P c p (AE.inBlock id Q)
 | .loop c,_::p,Q=>pos P c p (AE.then (lpX P c Q) Q)
 |_,_,_=>fun _=>False
def A7 (P:Program) (fn:Func) (p:List Nat) (r:RV) (σ:St):Prop:=pos P (fn.body.getD .skip) p (endX P fn.results.toList r) σ
def Yy (r:AV) (qt:List (Nat × Tok)) (qb:List (Nat × List AV)) (v:AV) (σ:St):Prop:=Wk ⟨[(0,v)],σ.t,σ.b⟩ ⟨[(0,r)],Ka qt,Kb qb⟩
def RS (r:AV) (qt:List (Nat × Tok)) (qb:List (Nat × List AV)) (σ:St) (vs:List AV):Prop:=Yy r qt qb (oneA vs) σ
@[go_sem ↓] theorem fv {r:AV} {qt:List (Nat × Tok)} {qb:List (Nat × List AV)} {σ:St}:RS r qt qb σ [] =Yy r qt qb (.tup []) σ:=rfl
@[go_sem ↓] theorem fw {r v:AV} {qt:List (Nat × Tok)} {qb:List (Nat × List AV)} {σ:St}:RS r qt qb σ [v] =Yy r qt qb v σ:=rfl
@[go_sem ↓] theorem fx {r v u:AV} {vs:List AV} {qt:List (Nat × Tok)} {qb:List (Nat × List AV)} {σ:St}:RS r qt qb σ (v::u::vs)=Yy r qt qb (.tup (v::u::vs)) σ:=rfl
def Pp (P:Program) (l:List ResultVar) (r:AV) (qt:List (Nat × Tok)) (qb:List (Nat × List AV)) (q:AE) (σ:St):Prop:=match q with| .exit _=>False|_=>LU P σ l (RS r qt qb σ)
@[go_sem ↓] theorem bz {P:Program} {l:List ResultVar} {r:AV} {qt:List (Nat × Tok)} {qb:List (Nat × List AV)} {σ:St}:Pp P l r qt qb .normal σ=LU P σ l (RS r qt qb σ):=rfl
@[go_sem ↓] theorem fy {P:Program} {l:List ResultVar} {r:AV} {qt:List (Nat × Tok)} {qb:List (Nat × List AV)} {σ:St}:Pp P l r qt qb .ret σ=LU P σ l (RS r qt qb σ):=rfl
theorem Bb {r v:AV} {qt:List (Nat × Tok)} {qb:List (Nat × List AV)} {σ σ1:St} (hn:Nils ⟨[(0,v)],σ.t,σ.b⟩ σ1) (rt rb:List (Nat × Nat)) (h:UK rt rb σ1 ⟨[(0,r)],Ka qt,Kb qb⟩):Yy r qt qb v σ:=.one ⟨σ1,hn,rt,rb,h⟩
attribute [go_sem] Ka Kb stG Xs Xt oneA
theorem Co {P:Program} (hm:P.follows .mixedOrders =true) {f:FuncId} {fn:Func} {c:Code} {l:List ResultVar} {args:List AV} {pt:List (Nat × Tok)} {pb:List (Nat × List AV)} {r:AV} {qt:List (Nat × Tok)} {qb:List (Nat × List AV)} (hf:P.funcs[f]? =some fn) (hb:fn.body=some c) (hr:fn.results=l.toArray) (hnm:(fn.name == "runtime.NumGoroutine")=false)
  (hn:decide (args.length≤fn.ntmps)=true) (hok:Fw fn.ntmps c=true) (h:awp P c (Pp P l r qt qb) (stG args pt pb)):AG P f args pt pb r qt qb:=by
 refine Ug hm hf hb hnm (of_decide_eq_true hn) hok ?_
 have e:endG P fn.results.toList r qt qb=Pp P l r qt qb:=by
  rw [hr]
  funext q σ
  cases q <;> rfl
 rw [e]
 exact h
def Dx (P:Program) (fn:Func) (p:List Nat) (r:AV) (qt:List (Nat × Tok)) (qb:List (Nat × List AV)) (σ:St):Prop:=pos P (fn.body.getD .skip) p (Pp P fn.results.toList r qt qb) σ
section
variable {P:Program} {σ:St} {Q:AE→St→Prop}
theorem BB {fn:Func} {c:Code} {l:List ResultVar} {p:List Nat} {r:AV} {qt:List (Nat × Tok)} {qb:List (Nat × List AV)} (hb:fn.body=some c) (hr:fn.results=l.toArray) (h:pos P c p (Pp P l r qt qb) σ):Dx P fn p r qt qb σ:=by
 unfold Dx; rw [hb,hr]; exact h
theorem AN {fn:Func} {c:Code} {l:List ResultVar} {p:List Nat} {r:AV} {qt:List (Nat × Tok)} {qb:List (Nat × List AV)} (hb:fn.body=some c) (hr:fn.results=l.toArray) (h:Dx P fn p r qt qb σ):pos P c p (Pp P l r qt qb) σ:=by
 unfold Dx at h; rw [hb,hr] at h; exact h
theorem AS {fn:Func} {c:Code} {l:List ResultVar} {p:List Nat} {r:RV} (hb:fn.body=some c) (hr:fn.results=l.toArray) (h:pos P c p (endX P l r) σ):A7 P fn p r σ:=by
 unfold A7; rw [hb,hr]; exact h
theorem AH {fn:Func} {c:Code} {l:List ResultVar} {p:List Nat} {r:RV} (hb:fn.body=some c) (hr:fn.results=l.toArray) (h:A7 P fn p r σ):pos P c p (endX P l r) σ:=by
 unfold A7 at h; rw [hb,hr] at h; exact h
@[go_sem ↓] theorem ie {c:Code}:pos P c [] Q σ=awp P c Q σ:=by cases c <;> rfl
@[go_sem ↓] theorem f6 {a b:Code} {p:List Nat}:pos P (.seq a b) (0::p) Q σ=pos P a p (AE.then (Zt (Hn a) (awp P b Q)) Q) σ:=rfl
@[go_sem ↓] theorem f7 {a b:Code} {p:List Nat}:pos P (.seq a b) (1::p) Q σ=pos P b p Q σ:=rfl
@[go_sem ↓] theorem eJ {c:Operand} {a b:Code} {p:List Nat}:pos P (.cond c a b) (0::p) Q σ=pos P a p Q σ:=rfl
@[go_sem ↓] theorem eK {c:Operand} {a b:Code} {p:List Nat}:pos P (.cond c a b) (1::p) Q σ=pos P b p Q σ:=rfl
@[go_sem ↓] theorem eL {id:Nat} {c:Code} {p:List Nat}:pos P (.block id c) (0::p) Q σ=pos P c p (AE.inBlock id Q) σ:=rfl
@[go_sem ↓] theorem f8 {c:Code} {p:List Nat}:pos P (.loop c) (0::p) Q σ=pos P c p (AE.then (lpX P c Q) Q) σ:=rfl
theorem dG {c:Code} {σ σ1:St} (hw:Wk σ σ1) (h:awp P (.loop c) Q σ1):awp P (.loop c) Q σ:=by
 rw [awp] at h ⊢
 intro L hL
 obtain⟨σ0,h1,h2⟩:=h L hL
 exact⟨σ0,hw.trans h1,h2⟩
theorem AZ {b:Code} {w1:Wrap b} {w2:Wrap Q} {σ1:St} (h:awp P (.loop b) Q σ1) (hw:Wk σ σ1):YU P b Q σ w1 w2:=dG hw h
end
mutual
theorem Ut {rt rb:List (Nat × Nat)}:∀ {a:AV},GO a=true→FG rt rb a=true∧ren rt rb a=a
 | .int _ _,_=>⟨rfl,rfl⟩
 | .bool _,_=>⟨rfl,rfl⟩
 | .str _,_=>⟨rfl,rfl⟩
 | .ro _,_=>⟨rfl,rfl⟩
 | .nilp,_=>⟨rfl,rfl⟩
 | .rop vs off,h=>by
  simp only [GO] at h
  obtain⟨h1,h2⟩:=Ff (rt:=rt) (rb:=rb) h
  simp only [FG,ren]
  exact⟨h1,by rw [h2]⟩
 | .fn f vs,h=>by
  simp only [GO] at h
  obtain⟨h1,h2⟩:=Ff (rt:=rt) (rb:=rb) h
  simp only [FG,ren]
  exact⟨h1,by rw [h2]⟩
 | .agg vs,h=>by
  simp only [GO] at h
  obtain⟨h1,h2⟩:=Ff (rt:=rt) (rb:=rb) h
  simp only [FG,ren]
  exact⟨h1,by rw [h2]⟩
theorem Ff {rt rb:List (Nat × Nat)}:∀ {as:List AV},FT as=true→Ft rt rb as=true∧rens rt rb as=as
 | [],_=>⟨rfl,rfl⟩
 |a::as,h=>by
  simp only [FT,Bool.and_eq_true] at h
  obtain⟨h1,h2⟩:=Ut (rt:=rt) (rb:=rb) h.1
  obtain⟨h3,h4⟩:=Ff (rt:=rt) (rb:=rb) h.2
  simp only [Ft,rens,h1,h2,h3,h4,Bool.and_self,and_self]
end
mutual
theorem ax {T:Nat→Option Tok} {B:Nat→Option (List AV)}:∀ {a:AV},GO a=true→cl T B a=some a
 | .int _ _,_=>rfl
 | .bool _,_=>rfl
 | .str _,_=>rfl
 | .ro _,_=>rfl
 | .nilp,_=>rfl
 | .rop vs off,h=>by simp only [GO] at h; simp only [cl,Kf h,Option.map_some]
 | .fn f vs,h=>by simp only [GO] at h; simp only [cl,Kf h,Option.map_some]
 | .agg vs,h=>by simp only [GO] at h; simp only [cl,Kf h,Option.map_some]
theorem Kf {T:Nat→Option Tok} {B:Nat→Option (List AV)}:∀ {as:List AV},FT as=true→cls T B as=some as
 | [],_=>rfl
 |a::as,h=>by
  simp only [FT,Bool.and_eq_true] at h
  simp only [cls,ax h.1,Kf h.2]
end
structure Still (vs:List AV):Prop where
 p:FT vs=true
 k:∀rt rb,Ft rt rb vs=true
 r:∀rt rb,rens rt rb vs=vs
 c:∀T B,cls T B vs=some vs
theorem Still.of {vs:List AV} (h:FT vs=true):Still vs:=⟨h,fun _ _=>(Ff h).1,fun _ _=>(Ff h).2,fun _ _=>Kf h⟩
def Sub (a b:AV):Prop:=∀w v,VSim w Gh.none a v→VSim w Gh.none b v
theorem Sub.refl (a:AV):Sub a a:=fun _ _ h=>h
theorem Sub.rop {vs us:List AV} {off:Nat} (h:(vs.drop off).take us.length=us):Sub (.rop vs off) (.rop us 0):=fun w v hv=>by
 simp only [VSim] at hv ⊢
 obtain⟨b,o,xs,rfl,h1,h2⟩:=hv
 refine⟨b,o+off,(xs.drop off).take us.length,rfl,?_,fun j u hu=>?_⟩
 ·have:=h1.take_drop off us.length
  unfold FC at this
  rw [h] at this; exact this
 ·rw [List.getElem?_take] at hu
  split at hu
  ·rw [List.getElem?_drop] at hu
   rw [Nat.add_assoc]; exact h2 _ _ hu
  ·cases hu
def QX:List AV→List AV→Prop
 | [],[] =>True
 |a::as,b::bs=>Sub a b∧QX as bs
 |_,_=>False
theorem QX.nil:QX [] [] :=trivial
theorem QX.cons {a b:AV} {as bs:List AV} (h:Sub a b) (k:QX as bs):QX (a::as) (b::bs):=⟨h,k⟩
theorem QX.vsims {w:World}:∀ {as bs:List AV} {us:List Value},QX as bs→AM w Gh.none as us→AM w Gh.none bs us
 | [],[],us,_,h=>h
 |a::as,b::bs,us,h,hv=>by
  simp only [AM] at hv ⊢
  obtain⟨u,us',rfl,h1,h2⟩:=hv
  exact⟨u,us',rfl,h.1 _ _ h1,QX.vsims h.2 h2⟩
 | [],_::_,_,h,_=>h.elim
 |_::_,[],_,h,_=>h.elim
theorem Pq {P:Program} {f:FuncId} {as bs:List AV} {r:RV} (k:AC P f bs r) (h:QX as bs):AC P f as r:=
 ⟨k.1,fun w us h1 h2 ha h3=>k.2 w us h1 h2 ha (h.vsims h3)⟩
def prB (p:Int × Bool):List D:=[.int .i64 p.1,.bool p.2]
def prI (p:Int × Int):List D:=[.int .i64 p.1,.int .i64 p.2]
def Hw {β:Type}:List (Int × β)→Int→Option β
 | [],_=>none
 |p::l,k=>if k=p.1 then some p.2 else Hw l k
def Kg {β:Type}:List (Int × β)→Int→β→List (Int × β)
 | [],k,v=>[(k,v)]
 |p::l,k,v=>if k=p.1 then (k,v)::l else p::Kg l k v
def OF {β:Type} (l:List (Int × β)) (k:Int) (v:β):Option (List (Int × β)):=if l.length<68719476736 then some (Kg l k v) else none
theorem RT {β:Type} {l r:List (Int × β)} {k:Int} {v:β} (h:OF l k v=some r):l.length<68719476736∧Kg l k v=r:=by
 unfold OF at h
 split at h
 ·exact⟨‹_›,Option.some.inj h⟩
 ·cases h
theorem XF {l:List (Int × Bool)} {k:Int}:Hl (.int .i64 k) (List.map prB l)=(Hw l k).map D.bool:=by
 induction l with
 |nil=>rfl
 |cons p l ih=>
  simp only [List.map_cons,prB,Hl,Hw,Gu,beq_self_eq_true,Bool.true_and,decide_eq_true_eq]
  split
  ·rfl
  ·exact ih
theorem XG {l:List (Int × Int)} {k:Int}:Hl (.int .i64 k) (List.map prI l)=(Hw l k).map (D.int .i64):=by
 induction l with
 |nil=>rfl
 |cons p l ih=>
  simp only [List.map_cons,prI,Hl,Hw,Gu,beq_self_eq_true,Bool.true_and,decide_eq_true_eq]
  split
  ·rfl
  ·exact ih
theorem Yz {l:List (Int × Bool)} {k:Int} {v:Bool}:mput (.int .i64 k) (.bool v) (List.map prB l)=List.map prB (Kg l k v):=by
 induction l with
 |nil=>rfl
 |cons p l ih=>
  simp only [List.map_cons,prB,mput,Kg,Gu,beq_self_eq_true,Bool.true_and,decide_eq_true_eq]
  split
  ·rfl
  ·rw [List.map_cons,← ih]; rfl
theorem Y0 {l:List (Int × Int)} {k v:Int}:mput (.int .i64 k) (.int .i64 v) (List.map prI l)=List.map prI (Kg l k v):=by
 induction l with
 |nil=>rfl
 |cons p l ih=>
  simp only [List.map_cons,prI,mput,Kg,Gu,beq_self_eq_true,Bool.true_and,decide_eq_true_eq]
  split
  ·rfl
  ·rw [List.map_cons,← ih]; rfl
attribute [go_sem] XF XG
@[go_sem] theorem jW {o:Option Bool} {z:Bool}:((o.map D.bool).map ofD).getD (.bool z)= .bool (o.getD z):=by cases o <;> rfl
@[go_sem] theorem jX {o:Option Int} {z:Int}:((o.map (D.int .i64)).map ofD).getD (.int .i64 z)= .int .i64 (o.getD z):=by cases o <;> rfl
@[irreducible] def fuel:Nat:=4611686018427387904
theorem Aw:fuel=4611686018427387904:=by unfold fuel; rfl
def at? {α:Type} (l:List α) (i:Int):Option α:=if 0≤i then l[i.toNat]? else none
def app? {α:Type} (a b:List α):Option (List α):=if a.length+b.length≤68719476736 then some (a++b) else none
def OR {α:Type} (n:Int) (z:α):Option (List α):=if 0≤n∧n≤68719476736 then some (List.replicate n.toNat z) else none
def Uu {α:Type} (l:List α) (i:Int) (x:α):List α:=l.set i.toNat x
def CU {α:Type} (l:List α) (i:Int) (x:α):Option (List α):=some (Uu l i x)
theorem Az {α:Type} {l:List α} {i:Int} {x:α} {r:List α} (h:CU l i x=some r):l.set i.toNat x=r:=Option.some.inj h
def nz? (b:Int):Option Unit:=if b=0 then none else some ()
theorem Vx {b:Int} {u:Unit} (h:nz? b=some u):b≠0:=by
 unfold nz? at h
 split at h
 ·cases h
 ·assumption
theorem AF {α β:Type} {x:Option α} {k:α→Option β} {r:β} (h:Option.bind x k=some r):∃v,x=some v∧k v=some r:=by
 cases x with
 |none=>cases h
 |some v=>exact⟨v,rfl,h⟩
theorem ifT {α:Type} {c:Bool} {a b r:α} (hb:c=true) (h:(if c=true then a else b)=r):a=r:=by rw [if_pos hb] at h; exact h
theorem ifF {α:Type} {c:Bool} {a b r:α} (hb:c=false) (h:(if c=true then a else b)=r):b=r:=by subst hb; exact h
theorem AD {b:Bool} {p q:Prop} {w:Wrap p} {w':Wrap q} {α:Type} {x y r:α} (h:(if b=true then x else y)=r) (hp:x=r→p) (hq:y=r→q):RN b p q w w':=⟨fun e=>hp (ifT e h),fun e=>hq (ifF e h)⟩
theorem Be {α:Type} {l:List α} {i:Int} {x:α} (h:at? l i=some x):0≤i∧l[i.toNat]? =some x:=by
 unfold at? at h
 split at h
 ·exact⟨‹_›,h⟩
 ·cases h
theorem BX {α:Type} {a b l:List α} (h:app? a b=some l):a.length+b.length≤68719476736∧a++b=l:=by
 unfold app? at h
 split at h
 ·exact⟨‹_›,Option.some.inj h⟩
 ·cases h
theorem Hx {α:Type} {n:Int} {z:α} {l:List α} (h:OR n z=some l):0≤n∧n≤68719476736∧List.replicate n.toNat z=l:=by
 unfold OR at h
 split at h
 ·exact⟨(‹_∧_› :_).1,(‹_∧_› :_).2,Option.some.inj h⟩
 ·cases h
theorem AR {α:Type} {f:α→List D} {l:List α} {n:Int} {sz:Nat} {K:List D→Prop} {w:Wrap K} {x:α} (h:at? l n=some x) (hl:(f x).length =sz) (hk:K (f x)):fS (List.map f l) n sz K w:=by
 obtain⟨h0,h1⟩:=Be h
 exact⟨f x,⟨h0,by rw [List.getElem?_map,h1]; rfl,hl⟩,hk⟩
theorem ay {α β:Type} {f:α→β} {l r:List α} {i j:Int} (h:cutL l i j=some r):cutL (List.map f l) i j=some (List.map f r):=by
 unfold cutL at h ⊢
 rw [List.length_map]
 split at h
 ·rename_i h0
  rw [if_pos h0]
  cases h
  simp only [List.map_take,List.map_drop]
 ·cases h
theorem Z {P Q:Prop} (h:Q) (e:Q→P:=by first|(intro h; simp only [go_sem]; exact h)|exact fun h=>h):P:=e h
theorem Rx {σ:St} {t g:Nat} {q:Pth} {tk:Tok} {r:List (List D)} (hT:σ.T t=some tk) (hg:tk.gen=g) (h:getP q tk.rows=some r):subR σ.T t g q=some r:=by
 unfold subR
 rw [hT]
 simp [hg,h]
attribute [go_sem] List.length_replicate
theorem AU {α:Type} {f:α→List D} {l:List α} {n:Int} {x:α} (h:at? l n=some x):(List.map f l)[n.toNat]? =some (f x):=by
 rw [List.getElem?_map,(Be h).2]; rfl
def Au (n:Int):List D:=[.int .i64 n]
def u8D (n:Int):List D:=[.int .u8 n]
def f9 (b:Bool):List D:=[.bool b]
def jY (s:ByteArray):List D:=[.str s]
def slD {α:Type} (f:α→List D) (l:List α):List D:=[.sl (List.map f l)]
attribute [go_sem] Au u8D f9 jY slD List.map_cons List.map_nil List.length_map List.nodup_cons List.mem_cons List.not_mem_nil not_or or_false or_true true_or false_or not_false_eq_true
end Go.Proofs.YtckcfdggbbabfaaGreat.Ab
namespace Go.Proofs.YtckcfdggbbabfaaGreat.Ab
set_option linter.unusedVariables false
theorem Fx {α:Type} {f:α→List D} {sz:Nat} (h:∀x,(f x).length =sz∧∀d ∈ f x,d.flat=true) (l:List α):∀row ∈ List.map f l,row.length=sz∧∀d ∈ row,d.flat=true:=by
 intro row hr
 obtain⟨x,-,rfl⟩:=List.mem_map.1 hr
 exact h x
theorem TW {α:Type} {f:α→List D} {sz:Nat} (h:∀x,(f x).length =sz) (l:List α):∀row ∈ List.map f l,row.length=sz:=by
 intro row hr
 obtain⟨x,-,rfl⟩:=List.mem_map.1 hr
 exact h x
theorem Mr {α:Type} {f g:α→List D} (h:∀x,erC (f x)=g x):∀l:List α,erR (List.map f l)=List.map g l
 | [] =>by simp only [List.map_nil,erR]
 |x::xs=>by rw [List.map_cons,List.map_cons,erR,h x,Mr h xs]
attribute [go_sem] rpS rpB Hm FH only Si
end Go.Proofs.YtckcfdggbbabfaaGreat.Ab
