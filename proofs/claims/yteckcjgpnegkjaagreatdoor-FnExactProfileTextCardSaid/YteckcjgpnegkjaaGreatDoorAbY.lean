/-
  The abstract walk: places in a function's text, values that name nothing of the call's own, steps of models.
-/
import Derived.Test.YteckcjgpnegkjaaGreatDoorAbV
namespace Go.Proofs.YteckcjgpnegkjaaGreatDoor.Ab
set_option linter.unusedVariables false
set_option maxHeartbeats 1000000
open Go.RowKit
def pos (P:Program):Code→List Nat→(AE→St→Prop)→St→Prop
 |c,[],Q=>awp P c Q
 | .seq a b,0::p,Q=>pos P a p (AE.then (Uz (Fx a) (awp P b Q)) Q)
 | .seq a b,_::p,Q=>pos P b p Q
 | .cond _ a b,0::p,Q=>pos P a p Q
 | .cond _ a b,_::p,Q=>pos P b p Q
 | .block id c,_::p,Q=>pos P c p (AE.inBlock id Q)
 | .loop c,_::p,Q=>pos P c p (AE.then (lpX P c Q) Q)
 |_,_,_=>fun _=>False
def Aq (P:Program) (fn:Func) (p:List Nat) (r:RV) (σ:St):Prop:=pos P (fn.body.getD .skip) p (endX P fn.results.toList r) σ
def cD (r:AV) (qt:List (Nat × Tok)) (qb:List (Nat × List AV)) (v:AV) (σ:St):Prop:=Wk ⟨[(0,v)],σ.t,σ.b⟩ ⟨[(0,r)],LC qt,LD qb⟩
def So (r:AV) (qt:List (Nat × Tok)) (qb:List (Nat × List AV)) (σ:St) (vs:List AV):Prop:=cD r qt qb (oneA vs) σ
@[go_sem ↓] theorem mX {r} {qt} {qb} {σ}:So r qt qb σ [] =cD r qt qb (.tup []) σ:=rfl
@[go_sem ↓] theorem mY {r v} {qt} {qb} {σ}:So r qt qb σ [v] =cD r qt qb v σ:=rfl
@[go_sem ↓] theorem mZ {r v u} {vs} {qt} {qb} {σ}:So r qt qb σ (v::u::vs)=cD r qt qb (.tup (v::u::vs)) σ:=rfl
def LJ (P:Program) (l:List ResultVar) (r:AV) (qt:List (Nat × Tok)) (qb:List (Nat × List AV)) (q:AE) (σ:St):Prop:=match q with| .exit _=>False|_=>MP P σ l (So r qt qb σ)
@[go_sem ↓] theorem gK {P} {l} {r} {qt} {qb} {σ}:LJ P l r qt qb .normal σ=MP P σ l (So r qt qb σ):=rfl
@[go_sem ↓] theorem ma {P} {l} {r} {qt} {qb} {σ}:LJ P l r qt qb .ret σ=MP P σ l (So r qt qb σ):=rfl
theorem BB {r v} {qt} {qb} {σ σ1} (hn:Nils ⟨[(0,v)],σ.t,σ.b⟩ σ1) (rt rb:List (Nat × Nat)) (h:J9 rt rb σ1 ⟨[(0,r)],LC qt,LD qb⟩):cD r qt qb v σ:=.one ⟨σ1,hn,rt,rb,h⟩
attribute [go_sem] LC LD stG aD aE oneA
theorem mc {P} (hm:P.follows .mixedOrders =true) {f} {fn} {c} {l} {args} {pt} {pb} {r} {qt} {qb} (hf:P.funcs[f]? =some fn) (hb:fn.body=some c) (hr:fn.results=l.toArray) (hnm:(fn.name == "runtime.NumGoroutine")=false)
  (hn:decide (args.length≤fn.ntmps)=true) (hok:EN fn.ntmps c=true) (h:awp P c (LJ P l r qt qb) (stG args pt pb)):AG P f args pt pb r qt qb:=by
 refine Wi hm hf hb hnm (of_decide_eq_true hn) hok ?_
 have e:endG P fn.results.toList r qt qb=LJ P l r qt qb:=by
  rw [hr]
  funext q σ
  cases q <;> rfl
 rw [e]
 exact h
def DF (P:Program) (fn:Func) (p:List Nat) (r:AV) (qt:List (Nat × Tok)) (qb:List (Nat × List AV)) (σ:St):Prop:=pos P (fn.body.getD .skip) p (LJ P fn.results.toList r qt qb) σ
section
variable {P:Program} {σ:St} {Q:AE→St→Prop}
theorem A5 {fn} {c} {l} {p} {r} {qt} {qb} (hb:fn.body=some c) (hr:fn.results=l.toArray) (h:pos P c p (LJ P l r qt qb) σ):DF P fn p r qt qb σ:=by
 grind [DF]
theorem Fm {fn} {c} {l} {p} {r} {qt} {qb} (hb:fn.body=some c) (hr:fn.results=l.toArray) (h:DF P fn p r qt qb σ):pos P c p (LJ P l r qt qb) σ:=by
 grind [DF]
theorem AO {fn} {c} {l} {p} {r} (hb:fn.body=some c) (hr:fn.results=l.toArray) (h:pos P c p (endX P l r) σ):Aq P fn p r σ:=by
 grind [Aq]
theorem DU {fn} {c} {l} {p} {r} (hb:fn.body=some c) (hr:fn.results=l.toArray) (h:Aq P fn p r σ):pos P c p (endX P l r) σ:=by
 grind [Aq]
@[go_sem ↓] theorem pO {c}:pos P c [] Q σ=awp P c Q σ:=by cases c <;> rfl
@[go_sem ↓] theorem me {a b} {p}:pos P (.seq a b) (0::p) Q σ=pos P a p (AE.then (Uz (Fx a) (awp P b Q)) Q) σ:=rfl
@[go_sem ↓] theorem mf {a b} {p}:pos P (.seq a b) (1::p) Q σ=pos P b p Q σ:=rfl
@[go_sem ↓] theorem kK {c} {a b} {p}:pos P (.cond c a b) (0::p) Q σ=pos P a p Q σ:=rfl
@[go_sem ↓] theorem kL {c} {a b} {p}:pos P (.cond c a b) (1::p) Q σ=pos P b p Q σ:=rfl
@[go_sem ↓] theorem kM {id} {c} {p}:pos P (.block id c) (0::p) Q σ=pos P c p (AE.inBlock id Q) σ:=rfl
@[go_sem ↓] theorem mg {c} {p}:pos P (.loop c) (0::p) Q σ=pos P c p (AE.then (lpX P c Q) Q) σ:=rfl
theorem ip {c} {σ σ1} (hw:Wk σ σ1) (h:awp P (.loop c) Q σ1):awp P (.loop c) Q σ:=by
 rw [awp] at h ⊢
 intro L hL
 obtain⟨σ0,h1,h2⟩:=h L hL
 exact⟨σ0,hw.trans h1,h2⟩
theorem CF {b} {w1} {w2} {σ1} (h:awp P (.loop b) Q σ1) (hw:Wk σ σ1):U1 P b Q σ w1 w2:=ip hw h
end
mutual
theorem W2 {rt rb}:∀ {a},Fa a=true→Fb rt rb a=true∧ren rt rb a=a
 | .int _ _,_=>⟨rfl,rfl⟩
 | .bool _,_=>⟨rfl,rfl⟩
 | .str _,_=>⟨rfl,rfl⟩
 | .ro _,_=>⟨rfl,rfl⟩
 | .nilp,_=>⟨rfl,rfl⟩
 | .rop vs off,h=>by
  simp only [Fa] at h
  obtain⟨h1,h2⟩:=F4 (rt:=rt) (rb:=rb) h
  simp only [Fb,ren]
  exact⟨h1,by rw [h2]⟩
 | .fn f vs,h=>by
  simp only [Fa] at h
  obtain⟨h1,h2⟩:=F4 (rt:=rt) (rb:=rb) h
  simp only [Fb,ren]
  exact⟨h1,by rw [h2]⟩
 | .agg vs,h=>by
  simp only [Fa] at h
  obtain⟨h1,h2⟩:=F4 (rt:=rt) (rb:=rb) h
  simp only [Fb,ren]
  exact⟨h1,by rw [h2]⟩
theorem F4 {rt rb}:∀ {as},EL as=true→GF rt rb as=true∧rens rt rb as=as
 | [],_=>⟨rfl,rfl⟩
 |a::as,h=>by
  simp only [EL,Bool.and_eq_true] at h
  obtain⟨h1,h2⟩:=W2 (rt:=rt) (rb:=rb) h.1
  obtain⟨h3,h4⟩:=F4 (rt:=rt) (rb:=rb) h.2
  simp only [GF,rens,h1,h2,h3,h4,Bool.and_self,and_self]
end
mutual
theorem X6 {T} {B}:∀ {a},Fa a=true→cl T B a=some a
 | .int _ _,_=>rfl
 | .bool _,_=>rfl
 | .str _,_=>rfl
 | .ro _,_=>rfl
 | .nilp,_=>rfl
 | .rop vs off,h=>by simp only [Fa] at h; simp only [cl,IS h,Option.map_some]
 | .fn f vs,h=>by simp only [Fa] at h; simp only [cl,IS h,Option.map_some]
 | .agg vs,h=>by simp only [Fa] at h; simp only [cl,IS h,Option.map_some]
theorem IS {T} {B}:∀ {as},EL as=true→cls T B as=some as
 | [],_=>rfl
 |a::as,h=>by
  simp only [EL,Bool.and_eq_true] at h
  simp only [cls,X6 h.1,IS h.2]
end
structure Still (vs:List AV):Prop where
 p:EL vs=true
 o:Ma vs=true
 k:∀rt rb,GF rt rb vs=true
 r:∀rt rb,rens rt rb vs=vs
 c:∀T B,cls T B vs=some vs
 f:∀T B as,cls T B (fnA vs as)=(cls T B as).map (fnA vs)
theorem NE {T} {B}:∀ {as bs:List AV},cls T B (as++bs)=(cls T B as).bind fun xs=>(cls T B bs).map fun ys=>xs++ys
 | [],bs=>by simp only [List.nil_append,cls,Option.bind_some]; cases cls T B bs <;> rfl
 | a::as,bs=>by
  simp only [List.cons_append,cls,NE (as:=as)]
  cases cl T B a with
  |none=>simp
  |some x=>
   cases cls T B as with
   |none=>simp
   |some xs=>cases cls T B bs <;> simp
theorem fB {vs} (h:EL vs=true) (T B as):cls T B (fnA vs as)=(cls T B as).map (fnA vs):=by
 have h0:∀ {us},EL us=true→cls T B (as++us)=(cls T B as).map (· ++us):=fun hu=>by
  rw [NE,IS hu]; cases cls T B as <;> rfl
 unfold fnA
 split
 ·rename_i fs cs
  simp only [EL,Fa,Bool.and_eq_true] at h
  rw [NE,IS h.1,h0 h.2]
  cases cls T B as <;> rfl
 grind
theorem Still.of {vs} (h:EL vs=true) (ho:Ma vs=true:=by rfl):Still vs:=⟨h,ho,fun _ _=>(F4 h).1,fun _ _=>(F4 h).2,fun _ _=>IS h,fB h⟩
def Sub (a b:AV):Prop:=∀w γ v,VSim w γ a v→VSim w γ b v
theorem Sub.refl (a:AV):Sub a a:=fun _ _ _ h=>h
theorem Sub.rop {vs us} {off} (h:(vs.drop off).take us.length=us):Sub (.rop vs off) (.rop us 0):=fun w γ v hv=>by
 simp only [VSim] at hv ⊢
 obtain⟨b,o,xs,rfl,h1,h2⟩:=hv
 refine⟨b,o+off,(xs.drop off).take us.length,rfl,?_,fun j u hu=>?_⟩
 ·have:=h1.take_drop off us.length
  grind [Ew]
 grind
def Rp:List AV→List AV→Prop
 | [],[] =>True
 |a::as,b::bs=>Sub a b∧Rp as bs
 |_,_=>False
theorem Rp.nil:Rp [] [] :=trivial
theorem Rp.cons {a b} {as bs} (h:Sub a b) (k:Rp as bs):Rp (a::as) (b::bs):=⟨h,k⟩
theorem Rp.vsims {w} {γ}:∀ {as bs} {us},Rp as bs→AK w γ as us→AK w γ bs us
 | [],[],us,_,h=>h
 |a::as,b::bs,us,h,hv=>by
  simp only [AK] at hv ⊢
  obtain⟨u,us',rfl,h1,h2⟩:=hv
  exact⟨u,us',rfl,h.1 _ _ _ h1,Rp.vsims h.2 h2⟩
 | [],_::_,_,h,_=>h.elim
 |_::_,[],_,h,_=>h.elim
theorem NF {P} {f} {as bs} {r} (k:AC P f bs r) (h:Rp as bs):AC P f as r:=
 ⟨k.1,fun w us h1 h2 ha h3=>k.2 w us h1 h2 ha (h.vsims h3)⟩
def prB (p:Int × Bool):List D:=[.int .i64 p.1,.bool p.2]
def prI (p:Int × Int):List D:=[.int .i64 p.1,.int .i64 p.2]
def I4 {β:Type}:List (Int × β)→Int→Option β
 | [],_=>none
 |p::l,k=>if k=p.1 then some p.2 else I4 l k
def LK {β:Type}:List (Int × β)→Int→β→List (Int × β)
 | [],k,v=>[(k,v)]
 |p::l,k,v=>if k=p.1 then (k,v)::l else p::LK l k v
def PW {β:Type} (l:List (Int × β)) (k:Int) (v:β):Option (List (Int × β)):=if l.length<68719476736 then some (LK l k v) else none
theorem Sp {β:Type} {l r:List (Int × β)} {k:Int} {v:β} (h:PW l k v=some r):l.length<68719476736∧LK l k v=r:=by
 grind [PW]
theorem ZS {l} {k}:G7 (.int .i64 k) (List.map prB l)=(I4 l k).map D.bool:=by
 induction l with
 |nil=>rfl
 |cons p l ih=>
  grind [prB,G7,I4,Hc]
theorem ZT {l} {k}:G7 (.int .i64 k) (List.map prI l)=(I4 l k).map (D.int .i64):=by
 induction l with
 |nil=>rfl
 |cons p l ih=>
  grind [prI,G7,I4,Hc]
theorem cE {l} {k} {v}:mput (.int .i64 k) (.bool v) (List.map prB l)=List.map prB (LK l k v):=by
 induction l with
 |nil=>rfl
 |cons p l ih=>
  grind [prB,mput,LK,Hc]
theorem cF {l} {k v}:mput (.int .i64 k) (.int .i64 v) (List.map prI l)=List.map prI (LK l k v):=by
 induction l with
 |nil=>rfl
 |cons p l ih=>
  grind [prI,mput,LK,Hc]
attribute [go_sem] ZS ZT
def mh (p:ByteArray × Bool):List D:=[.str p.1,.bool p.2]
def W3 {β:Type}:List (ByteArray × β)→ByteArray→Option β
 | [],_=>none
 |p::l,k=>if Gx k p.1 =true then some p.2 else W3 l k
theorem ZU {a b:ByteArray}:Hc (.str a) (.str b)=Gx a b:=by rfl
theorem W4 {l} {k}:G7 (.str k) (List.map mh l)=(W3 l k).map D.bool:=by
 induction l with
 |nil=>rfl
 |cons p l ih=>
  grind [mh,G7,W3,ZU]
attribute [go_sem] W4
@[go_sem] theorem qR {o:Option Bool} {z:Bool}:((o.map D.bool).map ofD).getD (.bool z)= .bool (o.getD z):=by cases o <;> rfl
@[go_sem] theorem qS {o:Option Int} {z:Int}:((o.map (D.int .i64)).map ofD).getD (.int .i64 z)= .int .i64 (o.getD z):=by cases o <;> rfl
@[go_sem] theorem gL {α β:Type} {o:Option α} {f:α→β}:(o.map f).isSome =o.isSome:=by cases o <;> rfl
@[irreducible] def fuel:Nat:=4611686018427387904
theorem Af:fuel=4611686018427387904:=by grind [fuel]
def at? {α:Type} (l:List α) (i:Int):Option α:=if 0≤i then l[i.toNat]? else none
def app? {α:Type} (a b:List α):Option (List α):=if a.length+b.length≤68719476736 then some (a++b) else none
def Je (a b:ByteArray):Option ByteArray:=if a.size+b.size≤9223372036854775807 then some (a++b) else none
def rep? {α:Type} (n:Int) (z:α):Option (List α):=if 0≤n∧n≤68719476736 then some (List.replicate n.toNat z) else none
def VK {α:Type} (l:List α) (i:Int) (x:α):List α:=l.set i.toNat x
def C0 {α:Type} (l:List α) (i:Int) (x:α):Option (List α):=some (VK l i x)
theorem BW {α:Type} {l:List α} {i:Int} {x:α} {r:List α} (h:C0 l i x=some r):l.set i.toNat x=r:=Option.some.inj h
def nz? (b:Int):Option Unit:=if b=0 then none else some ()
theorem X7 {b} {u} (h:nz? b=some u):b≠0:=by
 grind [nz?]
def Sq (ns:List Int):Option ByteArray:=if ns.length≤9223372036854775807 then some (strOfNums ns) else none
theorem ZV {ns} {v} (h:Sq ns=some v):ns.length≤maxLen∧strOfNums ns=v:=by
 grind [Sq,maxLen]
theorem AB {α β:Type} {x:Option α} {k:α→Option β} {r:β} (h:Option.bind x k=some r):∃v,x=some v∧k v=some r:=by
 cases x with
 |none=>cases h
 |some v=>grind
theorem ifT {α:Type} {c:Bool} {a b r:α} (hb:c=true) (h:(if c=true then a else b)=r):a=r:=by rw [if_pos hb] at h; exact h
theorem ifF {α:Type} {c:Bool} {a b r:α} (hb:c=false) (h:(if c=true then a else b)=r):b=r:=by grind
theorem AD {b:Bool} {p q:Prop} {w:Wrap p} {w':Wrap q} {α:Type} {x y r:α} (h:(if b=true then x else y)=r) (hp:x=r→p) (hq:y=r→q):Sj b p q w w':=⟨fun e=>hp (ifT e h),fun e=>hq (ifF e h)⟩
theorem BN {α:Type} {l:List α} {i:Int} {x:α} (h:at? l i=some x):0≤i∧l[i.toNat]? =some x:=by
 grind [at?]
theorem Av {α:Type} {a b l:List α} (h:app? a b=some l):a.length+b.length≤68719476736∧a++b=l:=by
 grind [app?]
theorem FL {a b l} (h:Je a b=some l):a.size+b.size≤maxLen∧a++b=l:=by
 grind [Je,maxLen]
theorem Fc {α:Type} {n:Int} {z:α} {l:List α} (h:rep? n z=some l):0≤n∧n≤68719476736∧List.replicate n.toNat z=l:=by
 grind [rep?]
theorem AM {α:Type} {f:α→List D} {l:List α} {n:Int} {sz:Nat} {K:List D→Prop} {w:Wrap K} {x:α} (h:at? l n=some x) (hl:(f x).length =sz) (hk:K (f x)):lw (List.map f l) n sz K w:=by
 obtain⟨h0,h1⟩:=BN h
 exact⟨f x,⟨h0,by rw [List.getElem?_map,h1]; rfl,hl⟩,hk⟩
theorem TV {α β:Type} {f:α→β} {l r:List α} {i j:Int} (h:cutL l i j=some r):cutL (List.map f l) i j=some (List.map f r):=by
 grind [cutL,List.map_take,List.map_drop]
section
variable {P:Program} {σ:St} {Q:AE→St→Prop}
theorem BH {K} {w1} {w2} {σ1} {fn} {c} {l} {p} {r} {qt} {qb} (h:DF P fn p r qt qb σ1) (rt rb:List (Nat × Nat)) (hb:fn.body=some c:=by rfl) (hr:fn.results=l.toArray:=by rfl) (e:pos P c p (LJ P l r qt qb) σ1→K σ1:=by exact fun h=>h) (hw:J9 rt rb σ σ1:=by simp only [go_sem]):U0 false K σ w1 w2:=a6 (e (Fm hb hr h)) (.one ⟨_,.done _,rt,rb,hw⟩)
theorem lpG {b} {w1} {w2} {w3} {σ1} {fn} {c} {l} {p} {r} {qt} {qb} (h:DF P fn p r qt qb σ1) (rt rb:List (Nat × Nat)) (hb:fn.body=some c:=by rfl) (hr:fn.results=l.toArray:=by rfl) (e:pos P c p (LJ P l r qt qb) σ1→awp P (.loop b) Q σ1:=by exact fun h=>h) (hw:J9 rt rb σ σ1:=by simp only [go_sem]):lpY P b Q σ w1 w2 w3:=PU (e (Fm hb hr h)) (.one ⟨_,.done _,rt,rb,hw⟩)
theorem loG {b} {w1} {w2} {σ1} {fn} {c} {l} {p} {r} {qt} {qb} (h:DF P fn p r qt qb σ1) (rt rb:List (Nat × Nat)) (hb:fn.body=some c:=by rfl) (hr:fn.results=l.toArray:=by rfl) (e:pos P c p (LJ P l r qt qb) σ1→awp P (.loop b) Q σ1:=by exact fun h=>h) (hw:J9 rt rb σ σ1:=by simp only [go_sem]):U1 P b Q σ w1 w2:=CF (e (Fm hb hr h)) (.one ⟨_,.done _,rt,rb,hw⟩)
theorem AY {K} {w1} {w2} {σ1} {fn} {c} {l} {p} {r} (h:Aq P fn p r σ1) (rt rb:List (Nat × Nat)) (hb:fn.body=some c:=by rfl) (hr:fn.results=l.toArray:=by rfl) (e:pos P c p (endX P l r) σ1→K σ1:=by exact fun h=>h) (hw:J9 rt rb σ σ1:=by simp only [go_sem]):U0 false K σ w1 w2:=a6 (e (DU hb hr h)) (.one ⟨_,.done _,rt,rb,hw⟩)
theorem lpF {b} {w1} {w2} {w3} {σ1} {fn} {c} {l} {p} {r} (h:Aq P fn p r σ1) (rt rb:List (Nat × Nat)) (hb:fn.body=some c:=by rfl) (hr:fn.results=l.toArray:=by rfl) (e:pos P c p (endX P l r) σ1→awp P (.loop b) Q σ1:=by exact fun h=>h) (hw:J9 rt rb σ σ1:=by simp only [go_sem]):lpY P b Q σ w1 w2 w3:=PU (e (DU hb hr h)) (.one ⟨_,.done _,rt,rb,hw⟩)
theorem loF {b} {w1} {w2} {σ1} {fn} {c} {l} {p} {r} (h:Aq P fn p r σ1) (rt rb:List (Nat × Nat)) (hb:fn.body=some c:=by rfl) (hr:fn.results=l.toArray:=by rfl) (e:pos P c p (endX P l r) σ1→awp P (.loop b) Q σ1:=by exact fun h=>h) (hw:J9 rt rb σ σ1:=by simp only [go_sem]):U1 P b Q σ w1 w2:=CF (e (DU hb hr h)) (.one ⟨_,.done _,rt,rb,hw⟩)
theorem AF {K} {w1} {w2} {q:Prop} (h:q) (e:q→K σ:=by first|(intro h; simp only [go_sem]; exact h)|exact fun h=>h):U0 false K σ w1 w2:=FY (e h)
theorem acF {f} {c} {l} {args} {r} {fn} (hf:P.funcs[f]? =some fn) (hm:P.follows .mixedOrders =true) (hb:fn.body=some c:=by rfl) (hr:fn.results=l.toArray:=by rfl) (hnm:(fn.name == "runtime.NumGoroutine")=false:=by rfl)
  (hn:decide (args.length≤fn.ntmps)=true:=by kernel_rfl) (hok:EN fn.ntmps c=true:=by kernel_rfl) (h:awp P c (endX P l r) (st0 args)):AC P f args r:=lq hm hf hb hr hnm hn hok h
theorem agF {f} {c} {l} {args} {pt} {pb} {r} {qt} {qb} {fn} (hf:P.funcs[f]? =some fn) (hm:P.follows .mixedOrders =true) (hb:fn.body=some c:=by rfl) (hr:fn.results=l.toArray:=by rfl) (hnm:(fn.name == "runtime.NumGoroutine")=false:=by rfl)
  (hn:decide (args.length≤fn.ntmps)=true:=by kernel_rfl) (hok:EN fn.ntmps c=true:=by kernel_rfl) (h:awp P c (LJ P l r qt qb) (stG args pt pb)):AG P f args pt pb r qt qb:=mc hm hf hb hr hnm hn hok h
theorem caG {K} {pos} {dst} {L} {wL} {f} {args} {o} {w} {as} {pt} {pb} {r} {qt} {qb} (y:Way) (h:AG P f as pt pb r qt qb)
  (hc:Bu y.cv σ fun σ1=>AP (VI y args as pt pb σ1) (BM y.cv (σ1.after y qt qb) fun σ2=>K (σ2.put dst (bak y r)))) (hL:L=true:=by kernel_rfl) (hB:VH y as pt pb qt qb=true:=by kernel_rfl):Nv P L pos f args o dst σ K w wL:=ie y hL h hB hc
end
theorem Z {P Q:Prop} (h:Q) (e:Q→P:=by first|(intro h; simp only [go_sem]; exact h)|exact fun h=>h):P:=e h
theorem mi {α:Type} {f:α→List D} {xs ys:List α} {i j:Int} {sz:Nat} (h:cutL xs i j=some ys) (hf:∀x,(f x).length =sz):parR sz i.toNat (j - i).toNat (List.map f xs)=some (List.map f ys):=by
 grind [cutL,parR,List.map_take,List.map_drop]
theorem TW {σ:St} {t g:Nat} {q:Pth} {tk:Tok} {r:List (List D)} (hT:σ.T t=some tk) (hg:tk.gen=g) (h:getP q tk.rows=some r):subR σ.T t g q=some r:=by
 grind [subR]
attribute [go_sem] List.length_replicate
theorem AX {α:Type} {f:α→List D} {l:List α} {n:Int} {x:α} (h:at? l n=some x):(List.map f l)[n.toNat]? =some (f x):=by
 rw [List.getElem?_map,(BN h).2]; rfl
def AS (n:Int):List D:=[.int .i64 n]
def u8D (n:Int):List D:=[.int .u8 n]
def mj (b:Bool):List D:=[.bool b]
def ml (s:ByteArray):List D:=[.str s]
def slD {α:Type} (f:α→List D) (l:List α):List D:=[.sl (List.map f l)]
attribute [go_sem] AS u8D mj ml slD List.map_cons List.map_nil List.length_map List.nodup_cons List.mem_cons List.not_mem_nil not_or or_false or_true true_or false_or not_false_eq_true
end Go.Proofs.YteckcjgpnegkjaaGreatDoor.Ab
namespace Go.Proofs.YteckcjgpnegkjaaGreatDoor.Ab
set_option linter.unusedVariables false
theorem FM {α:Type} {f:α→List D} {sz:Nat} (h:∀x,(f x).length =sz∧∀d ∈ f x,d.flat=true) (l:List α):∀row ∈ List.map f l,row.length=sz∧∀d ∈ row,d.flat=true:=by
 grind
theorem LL {α:Type} {f:α→List D} {sz:Nat} (h:∀x,(f x).length =sz) (l:List α):∀row ∈ List.map f l,row.length=sz:=by
 grind
theorem fC {α:Type} {f g} (h:∀x,fzC (f x)=g x) (l:List α):fzR (List.map f l)=List.map g l:=by
 grind [fzR,List.map_congr_left]
theorem KL {α:Type} {f g} (h:∀x,erC (f x)=g x):∀l:List α,erR (List.map f l)=List.map g l
 | [] =>by rfl
 |x::xs=>by rw [List.map_cons,List.map_cons,erR,h x,KL h xs]
@[go_sem] theorem pP:erR [] =[] :=by rfl
attribute [go_sem] rpS rpB IJ FV only UN
def pD {α:Type} (f:α→List D) (x:α):List D:=[.ptr (f x)]
attribute [go_sem] pD
@[go_sem] theorem qp {α:Type} {f:α→List D} {l:List α}:erR (List.map (pD f) l)=List.map (pD f) l:=KL (fun c=>by rfl) l
@[go_sem] theorem qq {α:Type} {f:α→List D} {l:List α}:fzR (List.map (pD f) l)=List.map (pD f) l:=fC (fun _=>rfl) l
def nop {α:Type} (f:α→List AV):Option α→AV
 |none=>.nilp
 |some x=>.rop (f x) 0
@[go_sem] theorem qr {α:Type} {f:α→List AV}:nop f none= .nilp :=rfl
@[go_sem] theorem qu {α:Type} {f:α→List AV} {x:α}:nop f (some x)= .rop (f x) 0:=rfl
def VL {α:Type} (f:α→List D):Option α→D
 |none=>.nilp
 |some x=>.ptr (f x)
@[go_sem] theorem pQ {α:Type} {f:α→List D} {o}:er (VL f o)=VL f o:=by cases o <;> simp only [VL,er]
structure NopOf {α:Type} (f:α→List D) (g:α→List AV):Prop where
 a:∀x,Rj (f x)=g x
 b:∀x,unDs (g x)=some (f x)
 c:∀x,EL (g x)=true
section
variable {α:Type} {f:α→List D} {g:α→List AV} (h:NopOf f g) (o:Option α)
include h
theorem NopOf.of:ofD (VL f o)=nop g o:=by
 cases o
 ·rfl
 ·simp only [VL,nop,ofD,h.a]
theorem NopOf.un:unD (nop g o)=some (VL f o):=by
 cases o
 ·rfl
 ·simp only [VL,nop,unD,h.b,Option.map_some]
theorem NopOf.pu:Fa (nop g o)=true:=by
 cases o
 ·rfl
 ·simp only [nop,Fa,h.c]
theorem NopOf.cl {T B}:Ab.cl T B (nop g o)=some (nop g o):=X6 (h.pu o)
theorem NopOf.toD {T}:Ab.toD T (nop g o)=some (VL f o):=by
 have:=h.un o
 cases o
 ·rfl
 grind [nop,Ab.toD]
end
theorem NopOf.mp {α:Type} {f:α→List D} {g:α→List AV} (_:NopOf f g) (o:Option α):AV.mp? (nop g o)=false:=by cases o <;> rfl
theorem NopOf.on {α:Type} {f:α→List D} {g:α→List AV} (_:NopOf f g) (o:Option α):AV.one (nop g o)=true:=by cases o <;> rfl
theorem iq {l:List ByteArray} {i:Int} {x:ByteArray} (h:atS l i=some x):0≤i∧i<(l.length:Int):=by
 unfold atS at h
 split at h
 ·have:=(List.getElem?_eq_some_iff.1 h).1
  omega
 ·cases h
theorem fD {vs:List AV} {ns:List ByteArray} {i:Int} {m:ByteArray} (h:Md vs=some ns) (hm:atS ns i=some m):vs[i.toNat]? =some (.str m):=by
 unfold atS at hm
 split at hm
 ·exact Od h hm
 ·cases hm
end Go.Proofs.YteckcjgpnegkjaaGreatDoor.Ab
