/-
  The abstract walk: places in a function's text, values that name nothing of the call's own, steps of models.
-/
import Derived.Test.YtclmbjbbojdojaaGreatAbV
namespace Go.Proofs.YtclmbjbbojdojaaGreat.Ab
set_option linter.unusedVariables false
set_option maxHeartbeats 1000000
open Go.RowKit
def pos (P:Program):Code→List Nat→(AE→St→Prop)→St→Prop
 |c,[],Q=>awp P c Q
 | .seq a b,0::p,Q=>pos P a p (AE.then (ZZ (Hc a) (awp P b Q)) Q)
 | .seq a b,_::p,Q=>pos P b p Q
 | .cond _ a b,0::p,Q=>pos P a p Q
 | .cond _ a b,_::p,Q=>pos P b p Q
 | .block id c,_::p,Q=>pos P c p (AE.inBlock id Q)
 | .loop c,_::p,Q=>pos P c p (AE.then (lpX P c Q) Q)
 |_,_,_=>fun _=>False
def Ax (P:Program) (fn:Func) (p:List Nat) (r:RV) (σ:St):Prop:=pos P (fn.body.getD .skip) p (endX P fn.results.toList r) σ
def Yo (r:AV) (qt:List (Nat × Tok)) (qb:List (Nat × List AV)) (v:AV) (σ:St):Prop:=Wk ⟨[(0,v)],σ.t,σ.b⟩ ⟨[(0,r)],KM qt,KN qb⟩
def Rh (r:AV) (qt:List (Nat × Tok)) (qb:List (Nat × List AV)) (σ:St) (vs:List AV):Prop:=Yo r qt qb (oneA vs) σ
@[go_sem ↓] theorem gv {r} {qt} {qb} {σ}:Rh r qt qb σ [] =Yo r qt qb (.tup []) σ:=rfl
@[go_sem ↓] theorem gw {r v} {qt} {qb} {σ}:Rh r qt qb σ [v] =Yo r qt qb v σ:=rfl
@[go_sem ↓] theorem gx {r v u} {vs} {qt} {qb} {σ}:Rh r qt qb σ (v::u::vs)=Yo r qt qb (.tup (v::u::vs)) σ:=rfl
def KR (P:Program) (l:List ResultVar) (r:AV) (qt:List (Nat × Tok)) (qb:List (Nat × List AV)) (q:AE) (σ:St):Prop:=match q with| .exit _=>False|_=>K9 P σ l (Rh r qt qb σ)
@[go_sem ↓] theorem bf {P} {l} {r} {qt} {qb} {σ}:KR P l r qt qb .normal σ=K9 P σ l (Rh r qt qb σ):=rfl
@[go_sem ↓] theorem gy {P} {l} {r} {qt} {qb} {σ}:KR P l r qt qb .ret σ=K9 P σ l (Rh r qt qb σ):=rfl
theorem Cc {r v} {qt} {qb} {σ σ1} (hn:Nils ⟨[(0,v)],σ.t,σ.b⟩ σ1) (rt rb:List (Nat × Nat)) (h:JE rt rb σ1 ⟨[(0,r)],KM qt,KN qb⟩):Yo r qt qb v σ:=.one ⟨σ1,hn,rt,rb,h⟩
attribute [go_sem] KM KN stG XW XX oneA
theorem gz {P} (hm:P.follows .mixedOrders =true) {f} {fn} {c} {l} {args} {pt} {pb} {r} {qt} {qb} (hf:P.funcs[f]? =some fn) (hb:fn.body=some c) (hr:fn.results=l.toArray) (hnm:(fn.name == "runtime.NumGoroutine")=false)
  (hn:decide (args.length≤fn.ntmps)=true) (hok:FJ fn.ntmps c=true) (h:awp P c (KR P l r qt qb) (stG args pt pb)):AG P f args pt pb r qt qb:=by
 refine Um hm hf hb hnm (of_decide_eq_true hn) hok ?_
 have e:endG P fn.results.toList r qt qb=KR P l r qt qb:=by
  rw [hr]
  funext q σ
  cases q <;> rfl
 rw [e]
 exact h
def E4 (P:Program) (fn:Func) (p:List Nat) (r:AV) (qt:List (Nat × Tok)) (qb:List (Nat × List AV)) (σ:St):Prop:=pos P (fn.body.getD .skip) p (KR P fn.results.toList r qt qb) σ
section
variable {P:Program} {σ:St} {Q:AE→St→Prop}
theorem Bo {fn} {c} {l} {p} {r} {qt} {qb} (hb:fn.body=some c) (hr:fn.results=l.toArray) (h:pos P c p (KR P l r qt qb) σ):E4 P fn p r qt qb σ:=by
 grind [E4]
theorem JQ {fn} {c} {l} {p} {r} {qt} {qb} (hb:fn.body=some c) (hr:fn.results=l.toArray) (h:E4 P fn p r qt qb σ):pos P c p (KR P l r qt qb) σ:=by
 grind [E4]
theorem AS {fn} {c} {l} {p} {r} (hb:fn.body=some c) (hr:fn.results=l.toArray) (h:pos P c p (endX P l r) σ):Ax P fn p r σ:=by
 grind [Ax]
theorem B9 {fn} {c} {l} {p} {r} (hb:fn.body=some c) (hr:fn.results=l.toArray) (h:Ax P fn p r σ):pos P c p (endX P l r) σ:=by
 grind [Ax]
@[go_sem ↓] theorem jm {c}:pos P c [] Q σ=awp P c Q σ:=by cases c <;> rfl
@[go_sem ↓] theorem g3 {a b} {p}:pos P (.seq a b) (0::p) Q σ=pos P a p (AE.then (ZZ (Hc a) (awp P b Q)) Q) σ:=rfl
@[go_sem ↓] theorem g4 {a b} {p}:pos P (.seq a b) (1::p) Q σ=pos P b p Q σ:=rfl
@[go_sem ↓] theorem em {c} {a b} {p}:pos P (.cond c a b) (0::p) Q σ=pos P a p Q σ:=rfl
@[go_sem ↓] theorem en {c} {a b} {p}:pos P (.cond c a b) (1::p) Q σ=pos P b p Q σ:=rfl
@[go_sem ↓] theorem eo {id} {c} {p}:pos P (.block id c) (0::p) Q σ=pos P c p (AE.inBlock id Q) σ:=rfl
@[go_sem ↓] theorem g5 {c} {p}:pos P (.loop c) (0::p) Q σ=pos P c p (AE.then (lpX P c Q) Q) σ:=rfl
theorem dO {c} {σ σ1} (hw:Wk σ σ1) (h:awp P (.loop c) Q σ1):awp P (.loop c) Q σ:=by
 rw [awp] at h ⊢
 intro L hL
 obtain⟨σ0,h1,h2⟩:=h L hL
 exact⟨σ0,hw.trans h1,h2⟩
theorem Cd {b} {w1} {w2} {σ1} (h:awp P (.loop b) Q σ1) (hw:Wk σ σ1):Ta P b Q σ w1 w2:=dO hw h
end
mutual
theorem U2 {rt rb}:∀ {a},FG a=true→FM rt rb a=true∧ren rt rb a=a
 | .int _ _,_=>⟨rfl,rfl⟩
 | .bool _,_=>⟨rfl,rfl⟩
 | .str _,_=>⟨rfl,rfl⟩
 | .ro _,_=>⟨rfl,rfl⟩
 | .nilp,_=>⟨rfl,rfl⟩
 | .rop vs off,h=>by
  simp only [FG] at h
  obtain⟨h1,h2⟩:=Fp (rt:=rt) (rb:=rb) h
  simp only [FM,ren]
  exact⟨h1,by rw [h2]⟩
 | .fn f vs,h=>by
  simp only [FG] at h
  obtain⟨h1,h2⟩:=Fp (rt:=rt) (rb:=rb) h
  simp only [FM,ren]
  exact⟨h1,by rw [h2]⟩
 | .agg vs,h=>by
  simp only [FG] at h
  obtain⟨h1,h2⟩:=Fp (rt:=rt) (rb:=rb) h
  simp only [FM,ren]
  exact⟨h1,by rw [h2]⟩
theorem Fp {rt rb}:∀ {as},Dz as=true→F1 rt rb as=true∧rens rt rb as=as
 | [],_=>⟨rfl,rfl⟩
 |a::as,h=>by
  simp only [Dz,Bool.and_eq_true] at h
  obtain⟨h1,h2⟩:=U2 (rt:=rt) (rb:=rb) h.1
  obtain⟨h3,h4⟩:=Fp (rt:=rt) (rb:=rb) h.2
  simp only [F1,rens,h1,h2,h3,h4,Bool.and_self,and_self]
end
mutual
theorem Vv {T} {B}:∀ {a},FG a=true→cl T B a=some a
 | .int _ _,_=>rfl
 | .bool _,_=>rfl
 | .str _,_=>rfl
 | .ro _,_=>rfl
 | .nilp,_=>rfl
 | .rop vs off,h=>by simp only [FG] at h; simp only [cl,Hm h,Option.map_some]
 | .fn f vs,h=>by simp only [FG] at h; simp only [cl,Hm h,Option.map_some]
 | .agg vs,h=>by simp only [FG] at h; simp only [cl,Hm h,Option.map_some]
theorem Hm {T} {B}:∀ {as},Dz as=true→cls T B as=some as
 | [],_=>rfl
 |a::as,h=>by
  simp only [Dz,Bool.and_eq_true] at h
  simp only [cls,Vv h.1,Hm h.2]
end
structure Still (vs:List AV):Prop where
 p:Dz vs=true
 o:LQ vs=true
 k:∀rt rb,F1 rt rb vs=true
 r:∀rt rb,rens rt rb vs=vs
 c:∀T B,cls T B vs=some vs
 f:∀T B as,cls T B (fnA vs as)=(cls T B as).map (fnA vs)
theorem L0 {T} {B}:∀ {as bs:List AV},cls T B (as++bs)=(cls T B as).bind fun xs=>(cls T B bs).map fun ys=>xs++ys
 | [],bs=>by simp only [List.nil_append,cls,Option.bind_some]; cases cls T B bs <;> rfl
 | a::as,bs=>by
  simp only [List.cons_append,cls,L0 (as:=as)]
  cases cl T B a with
  |none=>simp
  |some x=>
   cases cls T B as with
   |none=>simp
   |some xs=>cases cls T B bs <;> simp
theorem au {vs} (h:Dz vs=true) (T B as):cls T B (fnA vs as)=(cls T B as).map (fnA vs):=by
 have h0:∀ {us},Dz us=true→cls T B (as++us)=(cls T B as).map (· ++us):=fun hu=>by
  rw [L0,Hm hu]; cases cls T B as <;> rfl
 unfold fnA
 split
 ·rename_i fs cs
  simp only [Dz,FG,Bool.and_eq_true] at h
  rw [L0,Hm h.1,h0 h.2]
  cases cls T B as <;> rfl
 grind
theorem Still.of {vs} (h:Dz vs=true) (ho:LQ vs=true:=by rfl):Still vs:=⟨h,ho,fun _ _=>(Fp h).1,fun _ _=>(Fp h).2,fun _ _=>Hm h,au h⟩
def Sub (a b:AV):Prop:=∀w γ v,VSim w γ a v→VSim w γ b v
theorem Sub.refl (a:AV):Sub a a:=fun _ _ _ h=>h
theorem Sub.rop {vs us} {off} (h:(vs.drop off).take us.length=us):Sub (.rop vs off) (.rop us 0):=fun w γ v hv=>by
 simp only [VSim] at hv ⊢
 obtain⟨b,o,xs,rfl,h1,h2⟩:=hv
 refine⟨b,o+off,(xs.drop off).take us.length,rfl,?_,fun j u hu=>?_⟩
 ·have:=h1.take_drop off us.length
  grind [Ek]
 grind
def QY:List AV→List AV→Prop
 | [],[] =>True
 |a::as,b::bs=>Sub a b∧QY as bs
 |_,_=>False
theorem QY.nil:QY [] [] :=trivial
theorem QY.cons {a b} {as bs} (h:Sub a b) (k:QY as bs):QY (a::as) (b::bs):=⟨h,k⟩
theorem QY.vsims {w} {γ}:∀ {as bs} {us},QY as bs→AI w γ as us→AI w γ bs us
 | [],[],us,_,h=>h
 |a::as,b::bs,us,h,hv=>by
  simp only [AI] at hv ⊢
  obtain⟨u,us',rfl,h1,h2⟩:=hv
  exact⟨u,us',rfl,h.1 _ _ _ h1,QY.vsims h.2 h2⟩
 | [],_::_,_,h,_=>h.elim
 |_::_,[],_,h,_=>h.elim
theorem Yp {P} {f} {as bs} {r} (k:AC P f bs r) (h:QY as bs):AC P f as r:=
 ⟨k.1,fun w us h1 h2 ha h3=>k.2 w us h1 h2 ha (h.vsims h3)⟩
def prB (p:Int × Bool):List D:=[.int .i64 p.1,.bool p.2]
def prI (p:Int × Int):List D:=[.int .i64 p.1,.int .i64 p.2]
def Tt {β:Type}:List (Int × β)→Int→Option β
 | [],_=>none
 |p::l,k=>if k=p.1 then some p.2 else Tt l k
theorem XC {l} {k}:Gi (.int .i64 k) (List.map prB l)=(Tt l k).map D.bool:=by
 induction l with
 |nil=>rfl
 |cons p l ih=>
  grind [prB,Gi,Tt,IF]
theorem XD {l} {k}:Gi (.int .i64 k) (List.map prI l)=(Tt l k).map (D.int .i64):=by
 induction l with
 |nil=>rfl
 |cons p l ih=>
  grind [prI,Gi,Tt,IF]
attribute [go_sem] XC XD
def g6 (p:ByteArray × Bool):List D:=[.str p.1,.bool p.2]
def U3 {β:Type}:List (ByteArray × β)→ByteArray→Option β
 | [],_=>none
 |p::l,k=>if HC k p.1 =true then some p.2 else U3 l k
theorem XE {a b:ByteArray}:IF (.str a) (.str b)=HC a b:=by rfl
theorem U4 {l} {k}:Gi (.str k) (List.map g6 l)=(U3 l k).map D.bool:=by
 induction l with
 |nil=>rfl
 |cons p l ih=>
  grind [g6,Gi,U3,XE]
attribute [go_sem] U4
@[go_sem] theorem lD {o:Option Bool} {z:Bool}:((o.map D.bool).map ofD).getD (.bool z)= .bool (o.getD z):=by cases o <;> rfl
@[go_sem] theorem lE {o:Option Int} {z:Int}:((o.map (D.int .i64)).map ofD).getD (.int .i64 z)= .int .i64 (o.getD z):=by cases o <;> rfl
@[go_sem] theorem bg {α β:Type} {o:Option α} {f:α→β}:(o.map f).isSome =o.isSome:=by cases o <;> rfl
@[irreducible] def fuel:Nat:=4611686018427387904
theorem B3:fuel=4611686018427387904:=by grind [fuel]
def at? {α:Type} (l:List α) (i:Int):Option α:=if 0≤i then l[i.toNat]? else none
def app? {α:Type} (a b:List α):Option (List α):=if a.length+b.length≤68719476736 then some (a++b) else none
def rep? {α:Type} (n:Int) (z:α):Option (List α):=if 0≤n∧n≤68719476736 then some (List.replicate n.toNat z) else none
def aw {α:Type} (l:List α) (i:Int) (x:α):List α:=l.set i.toNat x
def Ah {α:Type} (l:List α) (i:Int) (x:α):Option (List α):=some (aw l i x)
theorem AN {α:Type} {l:List α} {i:Int} {x:α} {r:List α} (h:Ah l i x=some r):l.set i.toNat x=r:=Option.some.inj h
theorem AB {α β:Type} {x:Option α} {k:α→Option β} {r:β} (h:Option.bind x k=some r):∃v,x=some v∧k v=some r:=by
 cases x with
 |none=>cases h
 |some v=>grind
theorem ifT {α:Type} {c:Bool} {a b r:α} (hb:c=true) (h:(if c=true then a else b)=r):a=r:=by rw [if_pos hb] at h; exact h
theorem ifF {α:Type} {c:Bool} {a b r:α} (hb:c=false) (h:(if c=true then a else b)=r):b=r:=by grind
theorem AD {b:Bool} {p q:Prop} {w:Wrap p} {w':Wrap q} {α:Type} {x y r:α} (h:(if b=true then x else y)=r) (hp:x=r→p) (hq:y=r→q):Ra b p q w w':=⟨fun e=>hp (ifT e h),fun e=>hq (ifF e h)⟩
theorem JR {α:Type} {l:List α} {i:Int} {x:α} (h:at? l i=some x):0≤i∧l[i.toNat]? =some x:=by
 grind [at?]
theorem Au {α:Type} {a b l:List α} (h:app? a b=some l):a.length+b.length≤68719476736∧a++b=l:=by
 grind [app?]
theorem CS {α:Type} {n:Int} {z:α} {l:List α} (h:rep? n z=some l):0≤n∧n≤68719476736∧List.replicate n.toNat z=l:=by
 grind [rep?]
theorem AL {α:Type} {f:α→List D} {l:List α} {n:Int} {sz:Nat} {K:List D→Prop} {w:Wrap K} {x:α} (h:at? l n=some x) (hl:(f x).length =sz) (hk:K (f x)):dE (List.map f l) n sz K w:=by
 obtain⟨h0,h1⟩:=JR h
 exact⟨f x,⟨h0,by rw [List.getElem?_map,h1]; rfl,hl⟩,hk⟩
theorem ax {α β:Type} {f:α→β} {l r:List α} {i j:Int} (h:cutL l i j=some r):cutL (List.map f l) i j=some (List.map f r):=by
 grind [cutL,List.map_take,List.map_drop]
section
variable {P:Program} {σ:St} {Q:AE→St→Prop}
theorem P3 {K} {w1} {w2} {σ1} {fn} {c} {l} {p} {r} {qt} {qb} (h:E4 P fn p r qt qb σ1) (rt rb:List (Nat × Nat)) (hb:fn.body=some c:=by rfl) (hr:fn.results=l.toArray:=by rfl) (e:pos P c p (KR P l r qt qb) σ1→K σ1:=by exact fun h=>h) (hw:JE rt rb σ σ1:=by simp only [go_sem]):TZ false K σ w1 w2:=X2 (e (JQ hb hr h)) (.one ⟨_,.done _,rt,rb,hw⟩)
theorem lpG {b} {w1} {w2} {w3} {σ1} {fn} {c} {l} {p} {r} {qt} {qb} (h:E4 P fn p r qt qb σ1) (rt rb:List (Nat × Nat)) (hb:fn.body=some c:=by rfl) (hr:fn.results=l.toArray:=by rfl) (e:pos P c p (KR P l r qt qb) σ1→awp P (.loop b) Q σ1:=by exact fun h=>h) (hw:JE rt rb σ σ1:=by simp only [go_sem]):lpY P b Q σ w1 w2 w3:=P0 (e (JQ hb hr h)) (.one ⟨_,.done _,rt,rb,hw⟩)
theorem loG {b} {w1} {w2} {σ1} {fn} {c} {l} {p} {r} {qt} {qb} (h:E4 P fn p r qt qb σ1) (rt rb:List (Nat × Nat)) (hb:fn.body=some c:=by rfl) (hr:fn.results=l.toArray:=by rfl) (e:pos P c p (KR P l r qt qb) σ1→awp P (.loop b) Q σ1:=by exact fun h=>h) (hw:JE rt rb σ σ1:=by simp only [go_sem]):Ta P b Q σ w1 w2:=Cd (e (JQ hb hr h)) (.one ⟨_,.done _,rt,rb,hw⟩)
theorem BS {K} {w1} {w2} {σ1} {fn} {c} {l} {p} {r} (h:Ax P fn p r σ1) (rt rb:List (Nat × Nat)) (hb:fn.body=some c:=by rfl) (hr:fn.results=l.toArray:=by rfl) (e:pos P c p (endX P l r) σ1→K σ1:=by exact fun h=>h) (hw:JE rt rb σ σ1:=by simp only [go_sem]):TZ false K σ w1 w2:=X2 (e (B9 hb hr h)) (.one ⟨_,.done _,rt,rb,hw⟩)
theorem lpF {b} {w1} {w2} {w3} {σ1} {fn} {c} {l} {p} {r} (h:Ax P fn p r σ1) (rt rb:List (Nat × Nat)) (hb:fn.body=some c:=by rfl) (hr:fn.results=l.toArray:=by rfl) (e:pos P c p (endX P l r) σ1→awp P (.loop b) Q σ1:=by exact fun h=>h) (hw:JE rt rb σ σ1:=by simp only [go_sem]):lpY P b Q σ w1 w2 w3:=P0 (e (B9 hb hr h)) (.one ⟨_,.done _,rt,rb,hw⟩)
theorem loF {b} {w1} {w2} {σ1} {fn} {c} {l} {p} {r} (h:Ax P fn p r σ1) (rt rb:List (Nat × Nat)) (hb:fn.body=some c:=by rfl) (hr:fn.results=l.toArray:=by rfl) (e:pos P c p (endX P l r) σ1→awp P (.loop b) Q σ1:=by exact fun h=>h) (hw:JE rt rb σ σ1:=by simp only [go_sem]):Ta P b Q σ w1 w2:=Cd (e (B9 hb hr h)) (.one ⟨_,.done _,rt,rb,hw⟩)
theorem AF {K} {w1} {w2} {q:Prop} (h:q) (e:q→K σ:=by first|(intro h; simp only [go_sem]; exact h)|exact fun h=>h):TZ false K σ w1 w2:=Cg (e h)
theorem acF {f} {c} {l} {args} {r} {fn} (hf:P.funcs[f]? =some fn) (hm:P.follows .mixedOrders =true) (hb:fn.body=some c:=by rfl) (hr:fn.results=l.toArray:=by rfl) (hnm:(fn.name == "runtime.NumGoroutine")=false:=by rfl)
  (hn:decide (args.length≤fn.ntmps)=true:=by kernel_rfl) (hok:FJ fn.ntmps c=true:=by kernel_rfl) (h:awp P c (endX P l r) (st0 args)):AC P f args r:=gN hm hf hb hr hnm hn hok h
theorem agF {f} {c} {l} {args} {pt} {pb} {r} {qt} {qb} {fn} (hf:P.funcs[f]? =some fn) (hm:P.follows .mixedOrders =true) (hb:fn.body=some c:=by rfl) (hr:fn.results=l.toArray:=by rfl) (hnm:(fn.name == "runtime.NumGoroutine")=false:=by rfl)
  (hn:decide (args.length≤fn.ntmps)=true:=by kernel_rfl) (hok:FJ fn.ntmps c=true:=by kernel_rfl) (h:awp P c (KR P l r qt qb) (stG args pt pb)):AG P f args pt pb r qt qb:=gz hm hf hb hr hnm hn hok h
theorem caG {K} {pos} {dst} {L} {wL} {f} {args} {o} {w} {as} {pt} {pb} {r} {qt} {qb} (y:Way) (h:AG P f as pt pb r qt qb)
  (hc:Bu y.cv σ fun σ1=>AP (Vu y args as pt pb σ1) (A3 y.cv (σ1.after y qt qb) fun σ2=>K (σ2.put dst (bak y r)))) (hL:L=true:=by kernel_rfl) (hB:Vt y as pt pb qt qb=true:=by kernel_rfl):Tq P L pos f args o dst σ K w wL:=dH y hL h hB hc
end
theorem Z {P Q:Prop} (h:Q) (e:Q→P:=by first|(intro h; simp only [go_sem]; exact h)|exact fun h=>h):P:=e h
attribute [go_sem] List.length_replicate
theorem AM {α:Type} {f:α→List D} {l:List α} {n:Int} {x:α} (h:at? l n=some x):(List.map f l)[n.toNat]? =some (f x):=by
 rw [List.getElem?_map,(JR h).2]; rfl
def AJ (n:Int):List D:=[.int .i64 n]
def u8D (n:Int):List D:=[.int .u8 n]
def Ac (b:Bool):List D:=[.bool b]
def Yq (s:ByteArray):List D:=[.str s]
def slD {α:Type} (f:α→List D) (l:List α):List D:=[.sl (List.map f l)]
attribute [go_sem] AJ u8D Ac Yq slD List.map_cons List.map_nil List.length_map List.nodup_cons List.mem_cons List.not_mem_nil not_or or_false or_true true_or false_or not_false_eq_true
end Go.Proofs.YtclmbjbbojdojaaGreat.Ab
namespace Go.Proofs.YtclmbjbbojdojaaGreat.Ab
set_option linter.unusedVariables false
theorem De {α:Type} {f:α→List D} {sz:Nat} (h:∀x,(f x).length =sz∧∀d ∈ f x,d.flat=true) (l:List α):∀row ∈ List.map f l,row.length=sz∧∀d ∈ row,d.flat=true:=by
 grind
theorem Tu {α:Type} {f:α→List D} {sz:Nat} (h:∀x,(f x).length =sz) (l:List α):∀row ∈ List.map f l,row.length=sz:=by
 grind
theorem U5 {α:Type} {f:α→List D} {sz:Nat} (h:∀x,(f x).length =sz∧∀d ∈ f x,d≠ .gone) (l:List α):∀row ∈ List.map f l,row.length=sz∧∀d ∈ row,d≠ .gone :=by
 grind
theorem Vw {α:Type} {f g} (h:∀x,fzC (f x)=g x) (l:List α):fzR (List.map f l)=List.map g l:=by
 grind [fzR,List.map_congr_left]
theorem B4 {α:Type} {f g} (h:∀x,erC (f x)=g x):∀l:List α,erR (List.map f l)=List.map g l
 | [] =>by rfl
 |x::xs=>by rw [List.map_cons,List.map_cons,erR,h x,B4 h xs]
def D.ngb:D→Bool
 | .gone =>false
 |_=>true
theorem Hn {ds:List D} (h:ds.all D.ngb=true):∀d ∈ ds,d≠ .gone :=fun d hd e=>by
 have:=List.all_eq_true.1 h d hd
 rw [e] at this; cases this
@[go_sem] theorem jn:erR [] =[] :=by rfl
attribute [go_sem] rpS rpB G9 EW only Sq
def pD {α:Type} (f:α→List D) (x:α):List D:=[.ptr (f x)]
attribute [go_sem] pD
@[go_sem] theorem ld {α:Type} {f:α→List D} {l:List α}:erR (List.map (pD f) l)=List.map (pD f) l:=B4 (fun c=>by rfl) l
@[go_sem] theorem lf {α:Type} {f:α→List D} {l:List α}:fzR (List.map (pD f) l)=List.map (pD f) l:=Vw (fun _=>rfl) l
def nop {α:Type} (f:α→List AV):Option α→AV
 |none=>.nilp
 |some x=>.rop (f x) 0
@[go_sem] theorem lg {α:Type} {f:α→List AV}:nop f none= .nilp :=rfl
@[go_sem] theorem lh {α:Type} {f:α→List AV} {x:α}:nop f (some x)= .rop (f x) 0:=rfl
def Tv {α:Type} (f:α→List D):Option α→D
 |none=>.nilp
 |some x=>.ptr (f x)
@[go_sem] theorem jo {α:Type} {f:α→List D} {o}:er (Tv f o)=Tv f o:=by cases o <;> simp only [Tv,er]
structure NopOf {α:Type} (f:α→List D) (g:α→List AV):Prop where
 a:∀x,PA (f x)=g x
 b:∀x,unDs (g x)=some (f x)
 c:∀x,Dz (g x)=true
section
variable {α:Type} {f:α→List D} {g:α→List AV} (h:NopOf f g) (o:Option α)
include h
theorem NopOf.of:ofD (Tv f o)=nop g o:=by
 cases o
 ·rfl
 ·simp only [Tv,nop,ofD,h.a]
theorem NopOf.un:unD (nop g o)=some (Tv f o):=by
 cases o
 ·rfl
 ·simp only [Tv,nop,unD,h.b,Option.map_some]
theorem NopOf.pu:FG (nop g o)=true:=by
 cases o
 ·rfl
 ·simp only [nop,FG,h.c]
theorem NopOf.cl {T B}:Ab.cl T B (nop g o)=some (nop g o):=Vv (h.pu o)
theorem NopOf.toD {T}:Ab.toD T (nop g o)=some (Tv f o):=by
 have:=h.un o
 cases o
 ·rfl
 grind [nop,Ab.toD]
end
theorem NopOf.mp {α:Type} {f:α→List D} {g:α→List AV} (_:NopOf f g) (o:Option α):AV.mp? (nop g o)=false:=by cases o <;> rfl
theorem NopOf.on {α:Type} {f:α→List D} {g:α→List AV} (_:NopOf f g) (o:Option α):AV.one (nop g o)=true:=by cases o <;> rfl
def slN {α:Type} (f:α→List D):List α→D
 | [] =>.nl
 |x::xs=>.sl (List.map f (x::xs))
@[go_sem] theorem jp {α:Type} {f:α→List D}:slN f [] = .nl :=rfl
theorem IX {α:Type} {f:α→List D} {l:List α} (h:l≠ []):slN f l= .sl (List.map f l):=by
 cases l
 ·exact absurd rfl h
 ·rfl
theorem DH {α:Type} {f:α→List D} {l:List α}:FK (slN f l)=some (List.map f l):=by cases l <;> rfl
theorem K4 {α:Type} {f:α→List D} {l:List α} {sz:Nat} (h:∀x,(f x).length =sz):Sr sz (slN f l)=some (List.map f l):=by
 cases l with
 |nil=>rfl
 |cons x l=>simp [slN,Sr,h]
@[go_sem ↓ high] theorem lF {α:Type} {f:α→List D} {l:List α} {t g} {p} {sz i j}:ofT t g p sz i j (slN f l)= .sub t g (p++[(sz,i,j)]):=by cases l <;> rfl
@[go_sem] theorem jq {α:Type} {f:α→List D} {l:List α} {K}:X6 (slN f l) K=K (List.map f l):=by cases l <;> rfl
theorem bh {α:Type} {f:α→List D} {l:List α}:er (slN f l)= .sl (erR (List.map f l)):=by cases l <;> rfl
theorem bi {α:Type} {f:α→List D} {l:List α}:dn (slN f l)= .sl (dnR (List.map f l)):=by cases l <;> rfl
@[go_sem ↓ high] theorem jr {α:Type} {f:α→List D} {l:List α}:D.flat (slN f l)=false:=by cases l <;> rfl
def snD {α:Type} (f:α→List D) (l:List α):List D:=[slN f l]
attribute [go_sem] snD
theorem Ga {α:Type} {f g} (h:∀x,dnC (f x)=g x):∀l:List α,dnR (List.map f l)=List.map g l
 | [] =>by rfl
 |x::xs=>by rw [List.map_cons,List.map_cons,dnR,h x,Ga h xs]
@[go_sem] theorem dP {l}:erR (List.map AJ l)=List.map AJ l:=B4 (fun _=>rfl) l
@[go_sem] theorem js {l}:erR (List.map Ac l)=List.map Ac l:=B4 (fun _=>rfl) l
@[go_sem] theorem lG {l}:erR (List.map Yq l)=List.map Yq l:=B4 (fun _=>rfl) l
@[go_sem] theorem dQ {l}:dnR (List.map AJ l)=List.map AJ l:=Ga (fun _=>rfl) l
@[go_sem] theorem jt {l}:dnR (List.map Ac l)=List.map Ac l:=Ga (fun _=>rfl) l
@[go_sem] theorem lH {l}:dnR (List.map Yq l)=List.map Yq l:=Ga (fun _=>rfl) l
@[go_sem] theorem lI {l:List (List Int)}:erR (List.map (snD AJ) l)=List.map (slD AJ) l:=B4 (fun c=>by simp only [snD,slD,erC,bh,dP]) l
@[go_sem] theorem lJ {l:List (List Int)}:dnR (List.map (snD AJ) l)=List.map (slD AJ) l:=Ga (fun c=>by simp only [snD,slD,dnC,bi,dQ]) l
theorem My {α:Type} {f:α→List D} (h:∀x,Ss (f x)=true):∀l:List α,PH (List.map f l)=true
 | [] =>by rfl
 |x::xs=>by rw [List.map_cons,PH,h x,My h xs]; rfl
theorem ay (l:List Int):PH (List.map AJ l)=true:=My (fun _=>rfl) l
theorem az {α:Type} {f:α→List D} {l:List α} {n:Int} {sz:Nat} {K:List D→Prop} {w:Wrap K} {x:α} {row:List D} (h:at? l n=some x) (hl:row.length=sz) (hk:K row):dE (List.set (List.map f l) n.toNat row) n sz K w:=by
 obtain⟨h0,h1⟩:=JR h
 exact⟨row,⟨h0,C4 (AM h),hl⟩,hk⟩
theorem Vx {α:Type} {l:List α} {i:Int} {x:α} (h:at? l i=some x):l≠ [] :=fun e=>by
 subst e; have:=(JR h).2; simp at this
theorem Yr {α:Type} {l:List α} {i:Int} {x:α} {r:List α} (h:Ah l i x=some r) (hl:l≠ []):r≠ [] :=fun e=>by
 have:=AN h; rw [e] at this; simp at this; exact hl this
theorem Nk {α:Type} {a b r:List α} {x:α} (h:a++x::b=r):r≠ [] :=fun e=>by
 rw [e] at h; simp at h
end Go.Proofs.YtclmbjbbojdojaaGreat.Ab
