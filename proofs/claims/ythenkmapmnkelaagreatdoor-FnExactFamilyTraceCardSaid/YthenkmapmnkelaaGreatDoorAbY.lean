/- The abstract walk. -/
import Derived.Test.YthenkmapmnkelaaGreatDoorAbV
namespace Go.Proofs.YthenkmapmnkelaaGreatDoor.Ab
set_option linter.unusedVariables false
set_option maxHeartbeats 1000000
open Go.RowKit
def pos (P:Program):Code→List Nat→(AE→St→Prop)→St→Prop
 |c,[],Q=>awp P c Q
 | .seq a b,0::p,Q=>pos P a p (AE.then (ji (I9 a) (awp P b Q)) Q)
 | .seq a b,_::p,Q=>pos P b p Q
 | .cond _ a b,0::p,Q=>pos P a p Q
 | .cond _ a b,_::p,Q=>pos P b p Q
 | .block id c,_::p,Q=>pos P c p (AE.inBlock id Q)
 | .loop c,_::p,Q=>pos P c p (AE.then (lpX P c Q) Q)
 |_,_,_=>fun _=>False
def Aa (P:Program) (fn:Func) (p:List Nat) (r:RV) (σ:St):Prop:=pos P (fn.body.getD .skip) p (endX P fn.results.toList r) σ
def Yp (r:AV) (qt:List (Nat × Tok)) (qb:List (Nat × List AV)) (v:AV) (σ:St):Prop:=Wk ⟨[(0,v)],σ.t,σ.b⟩ ⟨[(0,r)],Kf qt,Kg qb⟩
def WD (r:AV) (qt:List (Nat × Tok)) (qb:List (Nat × List AV)) (σ:St) (vs:List AV):Prop:=Yp r qt qb (oneA vs) σ
@[go_sem ↓] theorem rU {r} {qt} {qb} {σ}:WD r qt qb σ [] =Yp r qt qb (.tup []) σ:=rfl
@[go_sem ↓] theorem rV {r v} {qt} {qb} {σ}:WD r qt qb σ [v] =Yp r qt qb v σ:=rfl
@[go_sem ↓] theorem rW {r v u} {vs} {qt} {qb} {σ}:WD r qt qb σ (v::u::vs)=Yp r qt qb (.tup (v::u::vs)) σ:=rfl
def Jz (P:Program) (l:List ResultVar) (r:AV) (qt:List (Nat × Tok)) (qb:List (Nat × List AV)) (q:AE) (σ:St):Prop:=match q with| .exit _=>False|_=>Np P σ l (WD r qt qb σ)
@[go_sem ↓] theorem mH {P} {l} {r} {qt} {qb} {σ}:Jz P l r qt qb .normal σ=Np P σ l (WD r qt qb σ):=rfl
@[go_sem ↓] theorem rX {P} {l} {r} {qt} {qb} {σ}:Jz P l r qt qb .ret σ=Np P σ l (WD r qt qb σ):=rfl
theorem T9 {r v} {qt} {qb} {σ σ1} (hn:Nils ⟨[(0,v)],σ.t,σ.b⟩ σ1) (rt rb:List (Nat × Nat)) (h:I8 rt rb σ1 ⟨[(0,r)],Kf qt,Kg qb⟩):Yp r qt qb v σ:=.one ⟨σ1,hn,rt,rb,h⟩
attribute [go_sem] Kf Kg stG fc fe oneA
theorem rY {P} (hm:P.follows .mixedOrders =true) {f} {fn} {c} {l} {args} {pt} {pb} {r} {qt} {qb} (hf:P.funcs[f]? =some fn) (hb:fn.body=some c) (hr:fn.results=l.toArray) (hnm:(fn.name == "runtime.NumGoroutine")=false)
  (hn:decide (args.length≤fn.ntmps)=true) (hok:GS fn.ntmps c=true) (h:awp P c (Jz P l r qt qb) (stG args pt pb)):AG P f args pt pb r qt qb:=by
 refine aE hm hf hb hnm (of_decide_eq_true hn) hok ?_
 have e:endG P fn.results.toList r qt qb=Jz P l r qt qb:=by
  rw [hr]
  funext q σ
  cases q <;> rfl
 rw [e]
 exact h
def BK (P:Program) (fn:Func) (p:List Nat) (r:AV) (qt:List (Nat × Tok)) (qb:List (Nat × List AV)) (σ:St):Prop:=pos P (fn.body.getD .skip) p (Jz P fn.results.toList r qt qb) σ
section
variable {P:Program} {σ:St} {Q:AE→St→Prop}
theorem AM {fn} {c} {l} {p} {r} {qt} {qb} (hb:fn.body=some c) (hr:fn.results=l.toArray) (h:pos P c p (Jz P l r qt qb) σ):BK P fn p r qt qb σ:=by
 grind [BK]
theorem DL {fn} {c} {l} {p} {r} {qt} {qb} (hb:fn.body=some c) (hr:fn.results=l.toArray) (h:BK P fn p r qt qb σ):pos P c p (Jz P l r qt qb) σ:=by
 grind [BK]
theorem BL {fn} {c} {l} {p} {r} (hb:fn.body=some c) (hr:fn.results=l.toArray) (h:pos P c p (endX P l r) σ):Aa P fn p r σ:=by
 grind [Aa]
theorem DZ {fn} {c} {l} {p} {r} (hb:fn.body=some c) (hr:fn.results=l.toArray) (h:Aa P fn p r σ):pos P c p (endX P l r) σ:=by
 grind [Aa]
@[go_sem ↓] theorem ux {c}:pos P c [] Q σ=awp P c Q σ:=by cases c <;> rfl
@[go_sem ↓] theorem rZ {a b} {p}:pos P (.seq a b) (0::p) Q σ=pos P a p (AE.then (ji (I9 a) (awp P b Q)) Q) σ:=rfl
@[go_sem ↓] theorem rc {a b} {p}:pos P (.seq a b) (1::p) Q σ=pos P b p Q σ:=rfl
@[go_sem ↓] theorem pT {c} {a b} {p}:pos P (.cond c a b) (0::p) Q σ=pos P a p Q σ:=rfl
@[go_sem ↓] theorem pU {c} {a b} {p}:pos P (.cond c a b) (1::p) Q σ=pos P b p Q σ:=rfl
@[go_sem ↓] theorem pV {id} {c} {p}:pos P (.block id c) (0::p) Q σ=pos P c p (AE.inBlock id Q) σ:=rfl
@[go_sem ↓] theorem rf {c} {p}:pos P (.loop c) (0::p) Q σ=pos P c p (AE.then (lpX P c Q) Q) σ:=rfl
theorem nj {c} {σ σ1} (hw:Wk σ σ1) (h:awp P (.loop c) Q σ1):awp P (.loop c) Q σ:=by
 rw [awp] at h ⊢
 intro L j
 obtain⟨σ0,h1,h2⟩:=h L j
 exact⟨σ0,hw.trans h1,h2⟩
theorem CH {b} {w1} {w2} {σ1} (h:awp P (.loop b) Q σ1) (hw:Wk σ σ1):Rt P b Q σ w1 w2:=nj hw h
end
mutual
theorem Oa {rt rb}:∀ {a},CC a=true→FR rt rb a=true∧ren rt rb a=a
 | .int _ _,_=>⟨rfl,rfl⟩
 | .bool _,_=>⟨rfl,rfl⟩
 | .str _,_=>⟨rfl,rfl⟩
 | .ro _,_=>⟨rfl,rfl⟩
 | .nilp,_=>⟨rfl,rfl⟩
 | .rop vs off,h=>by
  simp only [CC] at h
  obtain⟨h1,h2⟩:=Gu (rt:=rt) (rb:=rb) h
  simp only [FR,ren]
  exact⟨h1,by rw [h2]⟩
 | .fn f vs,h=>by
  simp only [CC] at h
  obtain⟨h1,h2⟩:=Gu (rt:=rt) (rb:=rb) h
  simp only [FR,ren]
  exact⟨h1,by rw [h2]⟩
 | .agg vs,h=>by
  simp only [CC] at h
  obtain⟨h1,h2⟩:=Gu (rt:=rt) (rb:=rb) h
  simp only [FR,ren]
  exact⟨h1,by rw [h2]⟩
theorem Gu {rt rb}:∀ {as},Cp as=true→GR rt rb as=true∧rens rt rb as=as
 | [],_=>⟨rfl,rfl⟩
 |a::as,h=>by
  simp only [Cp,Bool.and_eq_true] at h
  obtain⟨h1,h2⟩:=Oa (rt:=rt) (rb:=rb) h.1
  obtain⟨h3,j⟩:=Gu (rt:=rt) (rb:=rb) h.2
  simp only [GR,rens,h1,h2,h3,j,Bool.and_self,and_self]
end
mutual
theorem S0 {T} {B}:∀ {a},CC a=true→cl T B a=some a
 | .int _ _,_=>rfl
 | .bool _,_=>rfl
 | .str _,_=>rfl
 | .ro _,_=>rfl
 | .nilp,_=>rfl
 | .rop vs off,h=>by simp only [CC] at h; simp only [cl,JK h,Option.map_some]
 | .fn f vs,h=>by simp only [CC] at h; simp only [cl,JK h,Option.map_some]
 | .agg vs,h=>by simp only [CC] at h; simp only [cl,JK h,Option.map_some]
theorem JK {T} {B}:∀ {as},Cp as=true→cls T B as=some as
 | [],_=>rfl
 |a::as,h=>by
  simp only [Cp,Bool.and_eq_true] at h
  simp only [cls,S0 h.1,JK h.2]
end
structure Still (vs:List AV):Prop where
 p:Cp vs=true
 o:N1 vs=true
 k:∀rt rb,GR rt rb vs=true
 r:∀rt rb,rens rt rb vs=vs
 c:∀T B,cls T B vs=some vs
 f:∀T B as,cls T B (fnA vs as)=(cls T B as).map (fnA vs)
theorem Ob {T} {B}:∀ {as bs:List AV},cls T B (as++bs)=(cls T B as).bind fun j=>(cls T B bs).map fun p=>j++p
 | [],bs=>by simp only [List.nil_append,cls,Option.bind_some]; cases cls T B bs <;> rfl
 | a::as,bs=>by
  simp only [List.cons_append,cls,Ob (as:=as)]
  cases cl T B a with
  |none=>simp
  |some x=>
   cases cls T B as with
   |none=>simp
   |some j=>cases cls T B bs <;> simp
theorem lH {vs} (h:Cp vs=true) (T B as):cls T B (fnA vs as)=(cls T B as).map (fnA vs):=by
 have j:∀ {us},Cp us=true→cls T B (as++us)=(cls T B as).map (· ++us):=fun p=>by
  rw [Ob,JK p]; cases cls T B as <;> rfl
 unfold fnA
 split
 ·rename_i fs cs
  simp only [Cp,CC,Bool.and_eq_true] at h
  rw [Ob,JK h.1,j h.2]
  cases cls T B as <;> rfl
 grind
theorem Still.of {vs} (h:Cp vs=true) (ho:N1 vs=true:=by rfl):Still vs:=⟨h,ho,fun _ _=>(Gu h).1,fun _ _=>(Gu h).2,fun _ _=>JK h,lH h⟩
def Sub (a b:AV):Prop:=∀w γ v,VSim w γ a v→VSim w γ b v
theorem Sub.refl (a:AV):Sub a a:=fun _ _ _ h=>h
theorem Sub.rop {vs us} {off} (h:(vs.drop off).take us.length=us):Sub (.rop vs off) (.rop us 0):=fun w γ v hv=>by
 simp only [VSim] at hv ⊢
 obtain⟨b,o,p,rfl,h1,h3,h2⟩:=hv
 refine⟨b,o+off,(p.drop off).take us.length,rfl,?_,fun e=>h3 ?_,fun j u q=>?_⟩
 ·have:=h1.take_drop off us.length
  grind [Fs]
 ·simp only [AV.pts,List.any_eq_true] at e ⊢
  obtain⟨x,hx,hp⟩:=e
  exact⟨x,List.mem_of_mem_drop (List.mem_of_mem_take (h ▸ hx)),hp⟩
 grind
def Oc:List AV→List AV→Prop
 | [],[] =>True
 |a::as,b::bs=>Sub a b∧Oc as bs
 |_,_=>False
theorem Oc.nil:Oc [] [] :=trivial
theorem Oc.cons {a b} {as bs} (h:Sub a b) (k:Oc as bs):Oc (a::as) (b::bs):=⟨h,k⟩
theorem Oc.vsims {w} {γ}:∀ {as bs} {us},Oc as bs→AH w γ as us→AH w γ bs us
 | [],[],us,_,h=>h
 |a::as,b::bs,us,h,hv=>by
  simp only [AH] at hv ⊢
  obtain⟨u,j,rfl,h1,h2⟩:=hv
  exact⟨u,j,rfl,h.1 _ _ _ h1,Oc.vsims h.2 h2⟩
 | [],_::_,_,h,_=>h.elim
 |_::_,[],_,h,_=>h.elim
theorem Q0 {P} {f} {as bs} {r} (k:AC P f bs r) (h:Oc as bs):AC P f as r:=
 ⟨k.1,fun w us h1 h2 j h3=>k.2 w us h1 h2 j (h.vsims h3)⟩
def prB (p:Int × Bool):List D:=[.int .i64 p.1,.bool p.2]
def prI (p:Int × Int):List D:=[.int .i64 p.1,.int .i64 p.2]
def J0 {β:Type}:List (Int × β)→Int→Option β
 | [],_=>none
 |p::l,k=>if k=p.1 then some p.2 else J0 l k
def Mi {β:Type}:List (Int × β)→Int→β→List (Int × β)
 | [],k,v=>[(k,v)]
 |p::l,k,v=>if k=p.1 then (k,v)::l else p::Mi l k v
def Rx {β:Type} (l:List (Int × β)) (k:Int) (v:β):Option (List (Int × β)):=if l.length<68719476736 then some (Mi l k v) else none
theorem WE {β:Type} {l r:List (Int × β)} {k:Int} {v:β} (h:Rx l k v=some r):l.length<68719476736∧Mi l k v=r:=by
 grind [Rx]
theorem eQ {l} {k}:GQ (.int .i64 k) (List.map prB l)=(J0 l k).map D.bool:=by
 induction l with
 |nil=>rfl
 |cons p l ih=>
  grind [prB,GQ,J0,Gp]
theorem eR {l} {k}:GQ (.int .i64 k) (List.map prI l)=(J0 l k).map (D.int .i64):=by
 induction l with
 |nil=>rfl
 |cons p l ih=>
  grind [prI,GQ,J0,Gp]
theorem iF {l} {k} {v}:mput (.int .i64 k) (.bool v) (List.map prB l)=List.map prB (Mi l k v):=by
 induction l with
 |nil=>rfl
 |cons p l ih=>
  grind [prB,mput,Mi,Gp]
theorem iG {l} {k v}:mput (.int .i64 k) (.int .i64 v) (List.map prI l)=List.map prI (Mi l k v):=by
 induction l with
 |nil=>rfl
 |cons p l ih=>
  grind [prI,mput,Mi,Gp]
attribute [go_sem] eQ eR
@[go_sem] theorem xV {o:Option Bool} {z:Bool}:((o.map D.bool).map ofD).getD (.bool z)= .bool (o.getD z):=by cases o <;> rfl
@[go_sem] theorem xW {o:Option Int} {z:Int}:((o.map (D.int .i64)).map ofD).getD (.int .i64 z)= .int .i64 (o.getD z):=by cases o <;> rfl
@[irreducible] def fuel:Nat:=4611686018427387904
theorem AY:fuel=4611686018427387904:=by grind [fuel]
def at? {α:Type} (l:List α) (i:Int):Option α:=if 0≤i then l[i.toNat]? else none
def app? {α:Type} (a b:List α):Option (List α):=if a.length+b.length≤68719476736 then some (a++b) else none
def Hi (a b:ByteArray):Option ByteArray:=if a.size+b.size≤9223372036854775807 then some (a++b) else none
def Pm {α:Type} (n:Int) (z:α):Option (List α):=if 0≤n∧n≤68719476736 then some (List.replicate n.toNat z) else none
def aV {α:Type} (l:List α) (i:Int) (x:α):List α:=l.set i.toNat x
def Br {α:Type} (l:List α) (i:Int) (x:α):Option (List α):=some (aV l i x)
theorem Ah {α:Type} {l:List α} {i:Int} {x:α} {r:List α} (h:Br l i x=some r):l.set i.toNat x=r:=Option.some.inj h
def nz? (b:Int):Option Unit:=if b=0 then none else some ()
theorem Nc {b} {u} (h:nz? b=some u):b≠0:=by
 grind [nz?]
def WF (ns:List Int):Option ByteArray:=if ns.length≤9223372036854775807 then some (strOfNums ns) else none
theorem eS {ns} {v} (h:WF ns=some v):ns.length≤maxLen∧strOfNums ns=v:=by
 grind [WF,maxLen]
theorem AB {α β:Type} {x:Option α} {k:α→Option β} {r:β} (h:Option.bind x k=some r):∃v,x=some v∧k v=some r:=by
 cases x with
 |none=>cases h
 |some v=>grind
theorem ifT {α:Type} {c:Bool} {a b r:α} (hb:c=true) (h:(if c=true then a else b)=r):a=r:=by rw [if_pos hb] at h; exact h
theorem ifF {α:Type} {c:Bool} {a b r:α} (hb:c=false) (h:(if c=true then a else b)=r):b=r:=by grind
theorem AI {b:Bool} {p q:Prop} {w:Wrap p} {w':Wrap q} {α:Type} {x y r:α} (h:(if b=true then x else y)=r) (hp:x=r→p) (hq:y=r→q):Rs b p q w w':=⟨fun e=>hp (ifT e h),fun e=>hq (ifF e h)⟩
theorem Au {α:Type} {l:List α} {i:Int} {x:α} (h:at? l i=some x):0≤i∧l[i.toNat]? =some x:=by
 grind [at?]
theorem J1 {α:Type} {l:List α} {i:Int} {x:α} (h:at? l i=some x):0≤i∧i<l.length:=by
 obtain⟨j,h1⟩:=Au h
 have:=(List.getElem?_eq_some_iff.1 h1).1
 omega
theorem cQ {α β:Type} {f:α→β} {l:List α} {n:Int} {x:α} (h:at? l n=some x):(List.map f l)[n.toNat]? =some (f x):=by
 rw [List.getElem?_map,(Au h).2]; rfl
theorem AT {α:Type} {a b l:List α} (h:app? a b=some l):a.length+b.length≤68719476736∧a++b=l:=by
 grind [app?]
theorem Fe {a b l} (h:Hi a b=some l):a.size+b.size≤maxLen∧a++b=l:=by
 grind [Hi,maxLen]
theorem G7 {α:Type} {n:Int} {z:α} {l:List α} (h:Pm n z=some l):0≤n∧n≤68719476736∧List.replicate n.toNat z=l:=by
 grind [Pm]
theorem AS {α:Type} {f:α→List D} {l:List α} {n:Int} {sz:Nat} {K:List D→Prop} {w:Wrap K} {x:α} (h:at? l n=some x) (hl:(f x).length =sz) (hk:K (f x)):eP (List.map f l) n sz K w:=by
 obtain⟨j,h1⟩:=Au h
 exact⟨f x,⟨j,by rw [List.getElem?_map,h1]; rfl,hl⟩,hk⟩
theorem Wz {α β:Type} {f:α→β} {l r:List α} {i j:Int} (h:cutL l i j=some r):cutL (List.map f l) i j=some (List.map f r):=by
 grind [cutL,List.map_take,List.map_drop]
@[go_sem] def r3 (a b:Nat) (l:List (Nat × Nat)):List (Nat × Nat):=(a,b)::(a+1,b+1)::(a+2,b+2)::l
@[go_sem] def r4 (a b:Nat) (l:List (Nat × Nat)):List (Nat × Nat):=(a,b)::r3 (a+1) (b+1) l
@[go_sem] def r5 (a b:Nat) (l:List (Nat × Nat)):List (Nat × Nat):=(a,b)::r4 (a+1) (b+1) l
@[go_sem] def r6 (a b:Nat) (l:List (Nat × Nat)):List (Nat × Nat):=(a,b)::r5 (a+1) (b+1) l
@[go_sem] def r7 (a b:Nat) (l:List (Nat × Nat)):List (Nat × Nat):=(a,b)::r6 (a+1) (b+1) l
@[go_sem] def r8 (a b:Nat) (l:List (Nat × Nat)):List (Nat × Nat):=(a,b)::r7 (a+1) (b+1) l
@[go_sem] def r9 (a b:Nat) (l:List (Nat × Nat)):List (Nat × Nat):=(a,b)::r8 (a+1) (b+1) l
@[go_sem] def r10 (a b:Nat) (l:List (Nat × Nat)):List (Nat × Nat):=(a,b)::r9 (a+1) (b+1) l
@[go_sem] def r11 (a b:Nat) (l:List (Nat × Nat)):List (Nat × Nat):=(a,b)::r10 (a+1) (b+1) l
@[go_sem] def r12 (a b:Nat) (l:List (Nat × Nat)):List (Nat × Nat):=(a,b)::r11 (a+1) (b+1) l
@[go_sem] def r13 (a b:Nat) (l:List (Nat × Nat)):List (Nat × Nat):=(a,b)::r12 (a+1) (b+1) l
@[go_sem] def r14 (a b:Nat) (l:List (Nat × Nat)):List (Nat × Nat):=(a,b)::r13 (a+1) (b+1) l
@[go_sem] def r15 (a b:Nat) (l:List (Nat × Nat)):List (Nat × Nat):=(a,b)::r14 (a+1) (b+1) l
@[go_sem] def r16 (a b:Nat) (l:List (Nat × Nat)):List (Nat × Nat):=(a,b)::r15 (a+1) (b+1) l
section
variable {P:Program} {σ:St} {Q:AE→St→Prop}
theorem xX {K} {w1} {w2} {σ1} {fn} {c} {l} {p} {r} {qt} {qb} (h:BK P fn p r qt qb σ1) (rt rb:List (Nat × Nat)) (hb:fn.body=some c:=by rfl) (hr:fn.results=l.toArray:=by rfl) (e:pos P c p (Jz P l r qt qb) σ1→K σ1:=by exact fun h=>h) (hw:I8 rt rb σ σ1:=by simp only [go_sem]):T6 false K σ w1 w2:=Mg (e (DL hb hr h)) (.one ⟨_,.done _,rt,rb,hw⟩)
theorem lpG {b} {w1} {w2} {w3} {σ1} {fn} {c} {l} {p} {r} {qt} {qb} (h:BK P fn p r qt qb σ1) (rt rb:List (Nat × Nat)) (hb:fn.body=some c:=by rfl) (hr:fn.results=l.toArray:=by rfl) (e:pos P c p (Jz P l r qt qb) σ1→awp P (.loop b) Q σ1:=by exact fun h=>h) (hw:I8 rt rb σ σ1:=by simp only [go_sem]):lpY P b Q σ w1 w2 w3:=V9 (e (DL hb hr h)) (.one ⟨_,.done _,rt,rb,hw⟩)
theorem loG {b} {w1} {w2} {σ1} {fn} {c} {l} {p} {r} {qt} {qb} (h:BK P fn p r qt qb σ1) (rt rb:List (Nat × Nat)) (hb:fn.body=some c:=by rfl) (hr:fn.results=l.toArray:=by rfl) (e:pos P c p (Jz P l r qt qb) σ1→awp P (.loop b) Q σ1:=by exact fun h=>h) (hw:I8 rt rb σ σ1:=by simp only [go_sem]):Rt P b Q σ w1 w2:=CH (e (DL hb hr h)) (.one ⟨_,.done _,rt,rb,hw⟩)
theorem xY {K} {w1} {w2} {σ1} {fn} {c} {l} {p} {r} (h:Aa P fn p r σ1) (rt rb:List (Nat × Nat)) (hb:fn.body=some c:=by rfl) (hr:fn.results=l.toArray:=by rfl) (e:pos P c p (endX P l r) σ1→K σ1:=by exact fun h=>h) (hw:I8 rt rb σ σ1:=by simp only [go_sem]):T6 false K σ w1 w2:=Mg (e (DZ hb hr h)) (.one ⟨_,.done _,rt,rb,hw⟩)
theorem lpF {b} {w1} {w2} {w3} {σ1} {fn} {c} {l} {p} {r} (h:Aa P fn p r σ1) (rt rb:List (Nat × Nat)) (hb:fn.body=some c:=by rfl) (hr:fn.results=l.toArray:=by rfl) (e:pos P c p (endX P l r) σ1→awp P (.loop b) Q σ1:=by exact fun h=>h) (hw:I8 rt rb σ σ1:=by simp only [go_sem]):lpY P b Q σ w1 w2 w3:=V9 (e (DZ hb hr h)) (.one ⟨_,.done _,rt,rb,hw⟩)
theorem loF {b} {w1} {w2} {σ1} {fn} {c} {l} {p} {r} (h:Aa P fn p r σ1) (rt rb:List (Nat × Nat)) (hb:fn.body=some c:=by rfl) (hr:fn.results=l.toArray:=by rfl) (e:pos P c p (endX P l r) σ1→awp P (.loop b) Q σ1:=by exact fun h=>h) (hw:I8 rt rb σ σ1:=by simp only [go_sem]):Rt P b Q σ w1 w2:=CH (e (DZ hb hr h)) (.one ⟨_,.done _,rt,rb,hw⟩)
theorem AK {K} {w1} {w2} {q:Prop} (h:q) (e:q→K σ:=by first|(intro h; simp only [go_sem]; exact h)|exact fun h=>h):T6 false K σ w1 w2:=GT (e h)
theorem acF {f} {c} {l} {args} {r} {fn} (hf:P.funcs[f]? =some fn) (hm:P.follows .mixedOrders =true) (hb:fn.body=some c:=by rfl) (hr:fn.results=l.toArray:=by rfl) (hnm:(fn.name == "runtime.NumGoroutine")=false:=by rfl)
  (hn:decide (args.length≤fn.ntmps)=true:=by kernel_rfl) (hok:GS fn.ntmps c=true:=by kernel_rfl) (h:awp P c (endX P l r) (st0 args)):AC P f args r:=qy hm hf hb hr hnm hn hok h
theorem agF {f} {c} {l} {args} {pt} {pb} {r} {qt} {qb} {fn} (hf:P.funcs[f]? =some fn) (hm:P.follows .mixedOrders =true) (hb:fn.body=some c:=by rfl) (hr:fn.results=l.toArray:=by rfl) (hnm:(fn.name == "runtime.NumGoroutine")=false:=by rfl)
  (hn:decide (args.length≤fn.ntmps)=true:=by kernel_rfl) (hok:GS fn.ntmps c=true:=by kernel_rfl) (h:awp P c (Jz P l r qt qb) (stG args pt pb)):AG P f args pt pb r qt qb:=rY hm hf hb hr hnm hn hok h
theorem caG {K} {pos} {dst} {L} {wL} {f} {args} {o} {w} {as} {pt} {pb} {r} {qt} {qb} (y:Way) (h:AG P f as pt pb r qt qb)
  (hc:CT y.cv σ fun σ1=>AN (Yn y args as pt pb σ1) (Bk y.cv (σ1.after y qt qb) fun σ2=>K (σ2.put dst (bak y r)))) (hL:L=true:=by kernel_rfl) (hB:Ym y as pt pb qt qb=true:=by kernel_rfl):Kh P L pos f args o dst σ K w wL:=nZ y hL h hB hc
end
theorem Z {P Q:Prop} (h:Q) (e:Q→P:=by first|(intro h; simp only [go_sem]; exact h)|exact fun h=>h):P:=e h
theorem W0 {σ:St} {t g:Nat} {q:Pth} {tk:Tok} {r:List (List D)} (hT:σ.T t=some tk) (hg:tk.gen=g) (h:getP q tk.rows=some r):subR σ.T t g q=some r:=by
 grind [subR]
attribute [go_sem] List.length_replicate
theorem AP {α:Type} {f:α→List D} {l:List α} {n:Int} {x:α} (h:at? l n=some x):(List.map f l)[n.toNat]? =some (f x):=by
 rw [List.getElem?_map,(Au h).2]; rfl
def AD (n:Int):List D:=[.int .i64 n]
def u8D (n:Int):List D:=[.int .u8 n]
def rg (b:Bool):List D:=[.bool b]
def Be (s:ByteArray):List D:=[.str s]
def slD {α:Type} (f:α→List D) (l:List α):List D:=[.sl (List.map f l)]
attribute [go_sem] AD u8D rg Be slD List.map_cons List.map_nil List.length_map List.nodup_cons List.mem_cons List.not_mem_nil not_or or_false or_true true_or false_or not_false_eq_true
theorem Nils.dp {σ σ1:St} (i t:Nat) (ap:Option Nat) (z:ZK) (p:List Nat) (h:Hg (σ.g i) p=some .nils :=by first|rfl|(simp only [go_sem]; rfl)) (ht:look σ.t t=none:=by simp only [go_sem]) (k:Nils ⟨(i,E3 (σ.g i) p (.own t))::σ.s,(t,some ⟨[],ap,0,z⟩)::σ.t,σ.b⟩ σ1):Nils σ σ1:=.deep i t ap z p h ht k
theorem Nils.lt {σ σ1:St} (i t b n sz:Nat) (z:ZK) (p:List Nat) {vs:List AV} {ds:List D} (h:Hg (σ.g i) p=some (.bsl b n sz):=by first|rfl|(simp only [go_sem]; rfl)) (hb:σ.B b=some vs:=by simp only [go_sem]; rfl) (hd:KU z vs=some ds:=by first|rfl|(simp only [go_sem]; rfl)) (hl:ds.length=n*sz:=by first|rfl|(simp only [go_sem]; rfl)) (hz:0<sz:=by decide) (hp:1000≤b:=by decide) (ht:look σ.t t=none:=by simp only [go_sem]) (k:Nils ⟨(i,E3 (σ.g i) p (.own t))::σ.s,(t,some ⟨BD sz n ds,some sz,0,z⟩)::σ.t,(b,none)::σ.b⟩ σ1):Nils σ σ1:=.lit i t b n sz z p vs ds h hb hd hl hz hp ht k
theorem Nils.ce {σ σ1:St} (b j t:Nat) (ap:Option Nat) (z:ZK) {vs:List AV} (hb:σ.B b=some vs:=by simp only [go_sem]; rfl) (h:vs[j]? =some .nils :=by rfl) (ht:look σ.t t=none:=by simp only [go_sem]) (k:Nils ⟨σ.s,(t,some ⟨[],ap,0,z⟩)::σ.t,(b,some (vs.set j (.own t)))::σ.b⟩ σ1):Nils σ σ1:=.cell b j t ap z vs hb h ht k
theorem Nils.fT {σ σ1:St} (t:Nat) (ps:List (Nat × List Nat)) (cs:List (Nat × Nat)) {tk:Tok} {s':List (Nat × AV)} {b':List (Nat × Option (List AV))} (hT:σ.T t=some tk:=by first|rfl|(simp only [go_sem]; rfl)) (hp:1000≤t:=by decide) (hs:rpS (cl (only t tk) fun _=>none) ps σ.s=some s':=by first|rfl|(simp only [go_sem]; rfl)) (hb:rpB (cl (only t tk) fun _=>none) cs σ.b=some b':=by first|rfl|(simp only [go_sem]; rfl)) (k:Nils ⟨s',(t,none)::σ.t,b'⟩ σ1):Nils σ σ1:=.frzT t ps cs tk s' b' hT hp hs hb k
theorem Nils.fN {σ σ1:St} (ps:List (Nat × List Nat)) (cs:List (Nat × Nat)) {s':List (Nat × AV)} {b':List (Nat × Option (List AV))} (hs:rpS TE ps σ.s=some s':=by first|rfl|(simp only [go_sem]; rfl)) (hb:rpB TE cs σ.b=some b':=by first|rfl|(simp only [go_sem]; rfl)) (k:Nils ⟨s',σ.t,b'⟩ σ1):Nils σ σ1:=.frzN ps cs s' b' hs hb k
theorem By {p q:Prop} {w} (hq:q) (hp:p:=by (try refine⟨?_,?_⟩) <;> (try simp only [List.length_map,List.length_append,List.length_cons,List.length_nil] at*) <;> (try unfold maxLen) <;> omega):aJ p q w:=⟨hp,hq⟩
theorem F0 {α β:Type} {a l:List α} {v:List β} {K} {w} (f:α→β) (e:a=l) (hk:K (List.map f l)) (h:v=List.map f a:=by simp only [List.map_append,List.map_cons,List.map_nil,List.nil_append,List.append_nil,go_sem,slD]):nV v K w:=Ar _ (e ▸ h) hk
theorem C8 {r v} {qt} {qb} {σ σ1} (hn:Nils ⟨[(0,v)],σ.t,σ.b⟩ σ1) (rt rb:List (Nat × Nat)) (h:I8 rt rb σ1 ⟨[(0,r)],Kf qt,Kg qb⟩:=by simp only [go_sem]; all_goals try rfl):Yp r qt qb v σ:=T9 hn rt rb h
theorem Hj {P:Program} {ops:Array Oper} {base:Nat} {F:(Nat→Bool)→St} {i:Nat} {o:Oper} {os:List Oper} {d u:List Nat} {ds:List (List Nat × List Nat)} (r:Ih P ops base F (i+1) os ds) (h:(d.all fun j=>o.after.any fun e=>Region.binds .any e&&e.on == j)=true:=by kernel_rfl) (q:(u.all fun j=>decide (j<ops.size)&&((deps ops.toList).getD j 0).testBit i)=true:=by kernel_rfl) (k:∀S:Nat→Bool,S i=false→Zq S d→noS S u→aops P ops base 0 i [o] (F S) fun σ'=>St.Le σ' (F fun j=>if j=i then true else S j):=by
  intro S p hd q
  try simp only [T4,Qx,and_true] at hd
  try simp only [Wr,T5,and_true] at q
  first|(simp only [go_sem,p,hd,q]; done)|(simp only [go_sem,p,q]; done)|(simp only [go_sem,p,hd]; done)|(try simp only [go_sem,p,hd,q])|(try simp only [go_sem,p,q])|(try simp only [go_sem,p,hd])|(try simp only [go_sem,p])
  first|done|(simp (config:= {contextual:=true}) [go_sem,T3,leO1,p,hd,q]; done)|(simp (config:= {contextual:=true}) [go_sem,T3,leO1,p,q]; done)|(simp (config:= {contextual:=true}) [go_sem,T3,leO1,p,hd]; done)|(simp (config:= {contextual:=true}) [go_sem,T3,leO1,p]; done)):Ih P ops base F i (o::os) ((d,u)::ds):=gQ h q k r
theorem G8 {α:Type} {f:α→List D} {sz:Nat} (h:∀x,(f x).length =sz∧∀d ∈ f x,d.flat=true) (l:List α):∀row ∈ List.map f l,row.length=sz∧∀d ∈ row,d.flat=true:=by
 grind
theorem Mj {α:Type} {f:α→List D} {sz:Nat} (h:∀x,(f x).length =sz) (l:List α):∀row ∈ List.map f l,row.length=sz:=by
 grind
theorem UA {α:Type} {f:α→List D} {sz:Nat} (h:∀x,(f x).length =sz∧∀d ∈ f x,d≠ .gone) (l:List α):∀row ∈ List.map f l,row.length=sz∧∀d ∈ row,d≠ .gone :=by
 grind
theorem cR {α:Type} {f g} (h:∀x,fzC (f x)=g x) (l:List α):fzR (List.map f l)=List.map g l:=by
 grind [fzR,List.map_congr_left]
theorem H2 {α:Type} {f g} (h:∀x,erC (f x)=g x):∀l:List α,erR (List.map f l)=List.map g l
 | [] =>by rfl
 |x::xs=>by rw [List.map_cons,List.map_cons,erR,h x,H2 h xs]
def D.ngb:D→Bool
 | .gone =>false
 |_=>true
theorem Od {ds:List D} (h:ds.all D.ngb=true):∀d ∈ ds,d≠ .gone :=fun d hd e=>by
 have:=List.all_eq_true.1 h d hd
 rw [e] at this; cases this
@[go_sem] theorem uy:erR [] =[] :=by rfl
attribute [go_sem] rpS rpB Hg E3 only TE
def pD {α:Type} (f:α→List D) (x:α):List D:=[.ptr (f x)]
attribute [go_sem] pD
def nop {α:Type} (f:α→List AV):Option α→AV
 |none=>.nilp
 |some x=>.rop (f x) 0
@[go_sem] theorem iH {α:Type} {f:α→List AV}:nop f none= .nilp :=rfl
@[go_sem] theorem cS {α:Type} {f:α→List AV} {x:α}:nop f (some x)= .rop (f x) 0:=rfl
def nopD {α:Type} (f:α→List D):Option α→D
 |none=>.nilp
 |some x=>.ptr (f x)
mutual
theorem iI {y:Way} (hy:y.md=true):∀a:AV,CC a=true→bak y a=a
 | .int _ _,_=>by rw [bak]
 | .bool _,_=>by rw [bak]
 | .str _,_=>by rw [bak]
 | .nilp,_=>by rw [bak]
 | .ro _,_=>by rw [bak,if_pos hy]
 | .rop vs o,h=>by rw [bak,if_pos hy,Ki hy vs (by rw [CC] at h; exact h)]
 | .fn f vs,h=>by rw [bak,Ki hy vs (by rw [CC] at h; exact h)]
 | .agg vs,h=>by rw [bak,Ki hy vs (by rw [CC] at h; exact h)]
 | .any,h=>by simp [CC] at h
 | .own _,h=>by simp [CC] at h
 | .box _ _,h=>by simp [CC] at h
 | .bsl _ _ _,h=>by simp [CC] at h
 | .elt _ _ _ _,h=>by simp [CC] at h
 | .sub _ _ _,h=>by simp [CC] at h
 | .els _ _ _ _ _ _,h=>by simp [CC] at h
 | .par _ _ _ _,h=>by simp [CC] at h
 | .tup _,h=>by simp [CC] at h
 | .nils,h=>by simp [CC] at h
 | .mpr _,h=>by simp [CC] at h
 | .mpc _ _,h=>by simp [CC] at h
theorem Ki {y:Way} (hy:y.md=true):∀vs:List AV,Cp vs=true→baks y vs=vs
 | [],_=>by rw [baks]
 |a::vs,h=>by
  rw [Cp,Bool.and_eq_true] at h
  rw [baks,iI hy a h.1,Ki hy vs h.2]
end
structure NopOf {α:Type} (f:α→List D) (g:α→List AV):Prop where
 a:∀x,L5 (f x)=g x
 b:∀x,unDs (g x)=some (f x)
 c:∀x,Cp (g x)=true
section
variable {α:Type} {f:α→List D} {g:α→List AV} (h:NopOf f g) (o:Option α)
include h
theorem NopOf.of:ofD (nopD f o)=nop g o:=by
 cases o
 ·rfl
 ·simp only [nopD,nop,ofD,h.a]
theorem NopOf.un:unD (nop g o)=some (nopD f o):=by
 cases o
 ·rfl
 ·simp only [nopD,nop,unD,h.b,Option.map_some]
theorem NopOf.pu:CC (nop g o)=true:=by
 cases o
 ·rfl
 ·simp only [nop,CC,h.c]
theorem NopOf.cl {T B}:Ab.cl T B (nop g o)=some (nop g o):=S0 (h.pu o)
theorem NopOf.toD {T}:Ab.toD T (nop g o)=some (nopD f o):=by
 have:=h.un o
 cases o
 ·rfl
 grind [nop,Ab.toD]
theorem NopOf.ta {T B}:toA T B (nop g o)=some (nop g o):=by
 cases o
 ·rfl
 ·simp only [nop,toA,h.c,if_true]
theorem NopOf.kn {rt rb}:FR rt rb (nop g o)=true:=(Oa (h.pu o)).1
theorem NopOf.pas {y} {σ0}:E2 y σ0 (nop g o) (nop g o)=True:=by
 refine eq_true ?_
 cases o with
 |none=>rw [iH,iB]; exact S0 rfl
 |some x=>
  rw [cS,lG,show clW y σ0 (.rop (g x) 0)=some (.rop (g x) 0) from S0 (by simp only [CC,h.c]),iA]
  exact .inl ⟨rfl,rfl⟩
theorem NopOf.bk {y:Way} (hy:y.md=true):bak y (nop g o)=nop g o:=by
 cases o with
 |none=>rfl
 |some x=>rw [cS,bak,if_pos hy,Ki hy _ (h.c x)]
theorem NopOf.re {rt rb}:ren rt rb (nop g o)=nop g o:=(Oa (h.pu o)).2
end
theorem NopOf.mp {α:Type} {f:α→List D} {g:α→List AV} (_:NopOf f g) (o:Option α):AV.mp? (nop g o)=false:=by cases o <;> rfl
theorem NopOf.on {α:Type} {f:α→List D} {g:α→List AV} (_:NopOf f g) (o:Option α):AV.one (nop g o)=true:=by cases o <;> rfl
theorem NopOf.ce {α:Type} {f:α→List D} {g:α→List AV} (_:NopOf f g) (o:Option α):cellsOf (nop g o)=some [nop g o] :=by cases o <;> rfl
def iJ {α β:Type} (o:Option α) (a:Option β) (k:α→Option β):Option β:=match o with
 |none=>a
 |some x=>k x
theorem mI {α β:Type} {a r:Option β} {k:α→Option β} (h:iJ none a k=r):a=r:=h
theorem mJ {α β:Type} {x:α} {a r:Option β} {k:α→Option β} (h:iJ (some x) a k=r):k x=r:=h
def szD {α:Type} (f:α→List D) (l:List α):List D:=[.fz (List.map f l)]
attribute [go_sem] szD
@[go_sem] theorem xZ {α:Type} {f:α→List D} {l:List (List α)}:erR (List.map (szD f) l)=List.map (slD f) l:=H2 (fun c=>by simp only [szD,slD,erC,er]) l
theorem nk {α:Type} {f:α→List D} (c:List α):fzC (slD f c)=szD f c:=by rfl
theorem nm {α:Type} {f:α→List D} (c:List α):∀d ∈ slD f c,d≠ .gone :=Od rfl
def slN {α:Type} (f:α→List D):List α→D
 | [] =>.nl
 |x::xs=>.sl (List.map f (x::xs))
@[go_sem] theorem uz {α:Type} {f:α→List D}:slN f [] = .nl :=rfl
def snD {α:Type} (f:α→List D) (l:List α):List D:=[slN f l]
attribute [go_sem] snD
theorem xc {α β:Type} {f:α→List D} {l:List α} {n:Int} {sz:Nat} {K:List D→Prop} {w:Wrap K} {k:α→Option β} {r:β} (h:Option.bind (at? l n) k=some r) (hl:∀x,(f x).length =sz) (hk:∀x,at? l n=some x→k x=some r→K (f x)):eP (List.map f l) n sz K w:=by
 obtain⟨x,h1,h2⟩:=AB h
 exact AS h1 (hl x) (hk x h1 h2)
theorem rh {α β:Type} {P:Program} {L:Bool} {pos:Nat} {σ:St} {dst} {f} {args} {bs bs'} {K} {w} {wL} {m:Option α} {k:α→Option β} {r:β} {rv:α→RV} (h:Option.bind m k=some r) (hc:∀u,m=some u→AC P f bs' (rv u)) (hb:Oc bs bs') (hk:∀u,m=some u→k u=some r→Ax (pos*16) fun j=>cv1 j (rv u) fun v ts=>AN (Cq σ ts) (K (σ.add dst ⟨v,ts,[]⟩))):Kh P L pos f args (some bs) dst σ K w wL:=by
 obtain⟨u,h1,h2⟩:=AB h
 exact AL (Q0 (hc u h1) hb) (hk u h1 h2)
theorem k1 {A:Prop} (a:A):A∧True:=⟨a,trivial⟩
theorem k2 {A B:Prop} (a:A) (b:B):A∧B∧True:=⟨a,b,trivial⟩
theorem k3 {A B C:Prop} (a:A) (b:B) (c:C):A∧B∧C∧True:=⟨a,b,c,trivial⟩
theorem k4 {A B C D:Prop} (a:A) (b:B) (c:C) (d:D):A∧B∧C∧D∧True:=⟨a,b,c,d,trivial⟩
theorem k5 {A B C D E:Prop} (a:A) (b:B) (c:C) (d:D) (e:E):A∧B∧C∧D∧E∧True:=⟨a,b,c,d,e,trivial⟩
theorem k6 {A B C D E F:Prop} (a:A) (b:B) (c:C) (d:D) (e:E) (f:F):A∧B∧C∧D∧E∧F∧True:=⟨a,b,c,d,e,f,trivial⟩
theorem k7 {A B C D E F G:Prop} (a:A) (b:B) (c:C) (d:D) (e:E) (f:F) (g:G):A∧B∧C∧D∧E∧F∧G∧True:=⟨a,b,c,d,e,f,g,trivial⟩
theorem k8 {A B C D E F G H:Prop} (a:A) (b:B) (c:C) (d:D) (e:E) (f:F) (g:G) (h:H):A∧B∧C∧D∧E∧F∧G∧H∧True:=⟨a,b,c,d,e,f,g,h,trivial⟩
def tT0 (v w:AV):List (Nat × Nat):=match v with
 | .own t=>(match w with| .own o=>[(t,o)] |_=>[])
 | .elt t _ _ _=>(match w with| .elt o _ _ _=>[(t,o)] |_=>[])
 |_=>[]
def tB0 (v w:AV):List (Nat × Nat):=match v with
 | .box b _=>(match w with| .box o _=>[(b,o)] |_=>[])
 | .bsl b _ _=>(match w with| .bsl o _ _=>[(b,o)] |_=>[])
 | .mpr b=>(match w with| .mpr o=>[(b,o)] |_=>[])
 |_=>[]
def zpA (f:AV→AV→List (Nat × Nat)):List AV→List AV→List (Nat × Nat)
 | [],_=>[]
 |_::_,[] =>[]
 |x::l,y::m=>f x y++zpA f l m
def tX1 (f:AV→AV→List (Nat × Nat)) (v w:AV):List (Nat × Nat):=match v with
 | .agg l=>(match w with| .agg m=>zpA f l m|_=>[])
 | .tup l=>(match w with| .tup m=>zpA f l m|_=>[])
 | .fn _ l=>(match w with| .fn _ m=>zpA f l m|_=>[])
 |_=>f v w
def tX2 (f:AV→AV→List (Nat × Nat)) (v w:AV):List (Nat × Nat):=match v with
 | .tup l=>(match w with| .tup m=>zpA (tX1 f) l m|_=>[])
 |_=>tX1 f v w
def onS (f:AV→AV→List (Nat × Nat)) (σ:St):List (Nat × AV)→List (Nat × Nat)
 | [] =>[]
 |(i,v)::l=>tX2 f v (σ.g i)++onS f σ l
def onB (f:AV→AV→List (Nat × Nat)) (σ:St) (rb:List (Nat × Nat)):List (Nat × Option (List AV))→List (Nat × Nat)
 | [] =>[]
 |(_,none)::l=>onB f σ rb l
 |(b,some vs)::l=>zpA (tX1 f) vs (((look rb b).bind σ.B).getD [])++onB f σ rb l
def rj (t:Nat):List (Nat × Nat):=if t<1000 then [(t,t)] else []
def pinned {α:Type}:List (Nat × α)→List (Nat × Nat)
 | [] =>[]
 |(t,_)::l=>rj t++pinned l
def rk (t o:Nat) (acc:List (Nat × Nat)):List (Nat × Nat):=if (look acc t).isSome =true then acc else (t,o)::acc
def uniq:List (Nat × Nat)→List (Nat × Nat)→List (Nat × Nat)
 | [],acc=>acc
 |(t,o)::l,acc=>uniq l (rk t o acc)
def nr (σ σ0:St):List (Nat × Nat):=uniq (onB tB0 σ (uniq (pinned σ0.b++onS tB0 σ σ0.s) []) σ0.b) (uniq (pinned σ0.b++onS tB0 σ σ0.s) [])
def rl (σ σ0:St) (rb:List (Nat × Nat)):List (Nat × Nat):=uniq (pinned σ0.t++(onS tT0 σ σ0.s++onB tT0 σ rb σ0.b)) []
@[go_sem ↓] theorem yI {α:Type} {f:α→List AV} {o} {w}:tT0 (nop f o) w=[] :=by cases o <;> rfl
@[go_sem ↓] theorem yJ {α:Type} {f:α→List AV} {o} {w}:tB0 (nop f o) w=[] :=by cases o <;> rfl
@[go_sem ↓] theorem yK {α:Type} {f:α→List AV} {o} {w}:tX1 tT0 (nop f o) w=[] :=by cases o <;> rfl
@[go_sem ↓] theorem yL {α:Type} {f:α→List AV} {o} {w}:tX1 tB0 (nop f o) w=[] :=by cases o <;> rfl
@[go_sem ↓] theorem yM {α:Type} {f:α→List AV} {o} {w}:tX2 tT0 (nop f o) w=[] :=by cases o <;> rfl
@[go_sem ↓] theorem yN {α:Type} {f:α→List AV} {o} {w}:tX2 tB0 (nop f o) w=[] :=by cases o <;> rfl
attribute [go_sem] tT0 tB0 zpA tX1 tX2 onS onB rj pinned rk uniq nr rl List.cons_append List.nil_append List.append_nil Option.isSome_some Option.isSome_none Option.bind_some Option.bind_none Bool.false_eq_true
def Ry (σ σ0:St):Prop:=I8 (rl σ σ0 (nr σ σ0)) (nr σ σ0) σ σ0
attribute [go_sem] Ry
section
variable {P:Program} {σ:St} {Q:AE→St→Prop}
theorem xd {K} {w1} {w2} {σ1} {fn} {c} {l} {p} {r} {qt} {qb} (h:BK P fn p r qt qb σ1) (hb:fn.body=some c:=by rfl) (hr:fn.results=l.toArray:=by rfl) (e:pos P c p (Jz P l r qt qb) σ1→K σ1:=by exact fun h=>h) (hw:Ry σ σ1:=by simp (maxSteps:=300000) only [go_sem]):T6 false K σ w1 w2:=xX h _ _ hb hr e hw
theorem iK {b} {w1} {w2} {w3} {σ1} {fn} {c} {l} {p} {r} {qt} {qb} (h:BK P fn p r qt qb σ1) (hb:fn.body=some c:=by rfl) (hr:fn.results=l.toArray:=by rfl) (e:pos P c p (Jz P l r qt qb) σ1→awp P (.loop b) Q σ1:=by exact fun h=>h) (hw:Ry σ σ1:=by simp (maxSteps:=300000) only [go_sem]):lpY P b Q σ w1 w2 w3:=lpG h _ _ hb hr e hw
theorem Yq {b} {w1} {w2} {σ1} {fn} {c} {l} {p} {r} {qt} {qb} (h:BK P fn p r qt qb σ1) (hb:fn.body=some c:=by rfl) (hr:fn.results=l.toArray:=by rfl) (e:pos P c p (Jz P l r qt qb) σ1→awp P (.loop b) Q σ1:=by exact fun h=>h) (hw:Ry σ σ1:=by simp (maxSteps:=300000) only [go_sem]):Rt P b Q σ w1 w2:=loG h _ _ hb hr e hw
theorem xe {K} {w1} {w2} {σ1} {fn} {c} {l} {p} {r} (h:Aa P fn p r σ1) (hb:fn.body=some c:=by rfl) (hr:fn.results=l.toArray:=by rfl) (e:pos P c p (endX P l r) σ1→K σ1:=by exact fun h=>h) (hw:Ry σ σ1:=by simp (maxSteps:=300000) only [go_sem]):T6 false K σ w1 w2:=xY h _ _ hb hr e hw
theorem xf {b} {w1} {w2} {w3} {σ1} {fn} {c} {l} {p} {r} (h:Aa P fn p r σ1) (hb:fn.body=some c:=by rfl) (hr:fn.results=l.toArray:=by rfl) (e:pos P c p (endX P l r) σ1→awp P (.loop b) Q σ1:=by exact fun h=>h) (hw:Ry σ σ1:=by simp (maxSteps:=300000) only [go_sem]):lpY P b Q σ w1 w2 w3:=lpF h _ _ hb hr e hw
theorem nu {b} {w1} {w2} {σ1} {fn} {c} {l} {p} {r} (h:Aa P fn p r σ1) (hb:fn.body=some c:=by rfl) (hr:fn.results=l.toArray:=by rfl) (e:pos P c p (endX P l r) σ1→awp P (.loop b) Q σ1:=by exact fun h=>h) (hw:Ry σ σ1:=by simp (maxSteps:=300000) only [go_sem]):Rt P b Q σ w1 w2:=loF h _ _ hb hr e hw
theorem xg {r v} {qt} {qb} (h:Ry ⟨[(0,v)],σ.t,σ.b⟩ ⟨[(0,r)],Kf qt,Kg qb⟩:=by simp (maxSteps:=300000) only [go_sem]):Yp r qt qb v σ:=T9 (.done _) _ _ h
theorem xh {α β:Type} {f:α→List D} {l:List α} {n:Int} {K:List D→Prop} {w:Wrap K} {k:α→Option β} {r:β} (h:Option.bind (at? l n) k=some r) (hk:∀x,at? l n=some x→k x=some r→K (f x)):aI ((List.map f l)[n.toNat]?) K w:=by
 obtain⟨x,h1,h2⟩:=AB h
 exact AX (AP h1) (hk x h1 h2)
end
theorem AF {p M:Prop} {C:Prop} (c:C) (h:M) (e:C→M→p:=by
 intro c h
 repeat' first
  |((with_reducible show T6 _ _ _ _ _); first|exact xe (by with_reducible first|(apply c.1; exact h)|(apply c.2.1; exact h)|(apply c.2.2.1; exact h)|(apply c.2.2.2.1; exact h)|(apply c.2.2.2.2.1; exact h)|(apply c.2.2.2.2.2.1; exact h)|(apply c.2.2.2.2.2.2.1; exact h)|(apply c.2.2.2.2.2.2.2.1; exact h))|exact xd (by with_reducible first|(apply c.1; exact h)|(apply c.2.1; exact h)|(apply c.2.2.1; exact h)|(apply c.2.2.2.1; exact h)|(apply c.2.2.2.2.1; exact h)|(apply c.2.2.2.2.2.1; exact h)|(apply c.2.2.2.2.2.2.1; exact h)|(apply c.2.2.2.2.2.2.2.1; exact h))|refine AK ?_)
  |((with_reducible show lpY _ _ _ _ _ _ _); first|exact xf (by with_reducible first|(apply c.1; exact h)|(apply c.2.1; exact h)|(apply c.2.2.1; exact h)|(apply c.2.2.2.1; exact h)|(apply c.2.2.2.2.1; exact h)|(apply c.2.2.2.2.2.1; exact h)|(apply c.2.2.2.2.2.2.1; exact h)|(apply c.2.2.2.2.2.2.2.1; exact h))|exact iK (by with_reducible first|(apply c.1; exact h)|(apply c.2.1; exact h)|(apply c.2.2.1; exact h)|(apply c.2.2.2.1; exact h)|(apply c.2.2.2.2.1; exact h)|(apply c.2.2.2.2.2.1; exact h)|(apply c.2.2.2.2.2.2.1; exact h)|(apply c.2.2.2.2.2.2.2.1; exact h)))
  |((with_reducible show Rt _ _ _ _ _ _); first|exact nu (by with_reducible first|(apply c.1; exact h)|(apply c.2.1; exact h)|(apply c.2.2.1; exact h)|(apply c.2.2.2.1; exact h)|(apply c.2.2.2.2.1; exact h)|(apply c.2.2.2.2.2.1; exact h)|(apply c.2.2.2.2.2.2.1; exact h)|(apply c.2.2.2.2.2.2.2.1; exact h))|exact Yq (by with_reducible first|(apply c.1; exact h)|(apply c.2.1; exact h)|(apply c.2.2.1; exact h)|(apply c.2.2.2.1; exact h)|(apply c.2.2.2.2.1; exact h)|(apply c.2.2.2.2.2.1; exact h)|(apply c.2.2.2.2.2.2.1; exact h)|(apply c.2.2.2.2.2.2.2.1; exact h))|refine Ai (Z ?_))
  |((with_reducible show Rs _ _ _ _ _); (with_reducible have j:ite _ _ _=_:=h); clear j; refine AI h (fun h=>Z ?_) (fun h=>Z ?_))
  |((with_reducible show eP _ _ _ _ _); first|((with_reducible have j:Option.bind _ _=_:=h); clear j; refine xc h (fun x=>by first|rfl|(cases x; rfl)) (fun u w h=>Z ?_))|refine AS (by assumption) rfl (Z ?_))
  |((with_reducible show aI _ _ _); first|refine AX (AP (by assumption)) (Z ?_)|((with_reducible have j:Option.bind _ _=_:=h); clear j; refine xh h (fun u w h=>Z ?_)))
  |((with_reducible show Kh _ _ _ _ _ _ _ _ _ _ _); first|((with_reducible have j:Option.bind _ _=_:=h); clear j; refine rh h (by with_reducible first|exact c.1 |exact c.1 _|exact c.1 _ _|exact c.1 _ _ _|exact c.1 _ _ _ _|exact c.1 _ _ _ _ _|exact c.2.1 |exact c.2.1 _|exact c.2.1 _ _|exact c.2.1 _ _ _|exact c.2.1 _ _ _ _|exact c.2.1 _ _ _ _ _|exact c.2.2.1 |exact c.2.2.1 _|exact c.2.2.1 _ _|exact c.2.2.1 _ _ _|exact c.2.2.1 _ _ _ _|exact c.2.2.1 _ _ _ _ _|exact c.2.2.2.1 |exact c.2.2.2.1 _|exact c.2.2.2.1 _ _|exact c.2.2.2.1 _ _ _|exact c.2.2.2.1 _ _ _ _|exact c.2.2.2.1 _ _ _ _ _|exact c.2.2.2.2.1 |exact c.2.2.2.2.1 _|exact c.2.2.2.2.1 _ _|exact c.2.2.2.2.1 _ _ _|exact c.2.2.2.2.1 _ _ _ _|exact c.2.2.2.2.1 _ _ _ _ _|exact c.2.2.2.2.2.1 |exact c.2.2.2.2.2.1 _|exact c.2.2.2.2.2.1 _ _|exact c.2.2.2.2.2.1 _ _ _|exact c.2.2.2.2.2.1 _ _ _ _|exact c.2.2.2.2.2.1 _ _ _ _ _|exact c.2.2.2.2.2.2.1 |exact c.2.2.2.2.2.2.1 _|exact c.2.2.2.2.2.2.1 _ _|exact c.2.2.2.2.2.2.1 _ _ _|exact c.2.2.2.2.2.2.1 _ _ _ _|exact c.2.2.2.2.2.2.1 _ _ _ _ _|exact c.2.2.2.2.2.2.2.1 |exact c.2.2.2.2.2.2.2.1 _|exact c.2.2.2.2.2.2.2.1 _ _|exact c.2.2.2.2.2.2.2.1 _ _ _|exact c.2.2.2.2.2.2.2.1 _ _ _ _|exact c.2.2.2.2.2.2.2.1 _ _ _ _ _) (by repeat' first|exact Oc.nil|refine Oc.cons (by first|exact Sub.refl _|exact Sub.rop rfl) ?_) (fun u w h=>Z ?_))|refine AL (Q0 (by with_reducible first|(apply c.1; assumption)|(apply c.2.1; assumption)|(apply c.2.2.1; assumption)|(apply c.2.2.2.1; assumption)|(apply c.2.2.2.2.1; assumption)|(apply c.2.2.2.2.2.1; assumption)|(apply c.2.2.2.2.2.2.1; assumption)|(apply c.2.2.2.2.2.2.2.1; assumption)) (by repeat' first|exact Oc.nil|refine Oc.cons (by first|exact Sub.refl _|exact Sub.rop rfl) ?_)) (Z ?_))
  |((with_reducible show Yp _ _ _ _ _); cases h; exact xg)
  |(cases h; simp only [go_sem]; done)
  |refine BL rfl rfl (Z ?_)
  |refine AM rfl rfl (Z ?_)
  |refine AW [] .fin (by kernel_rfl) (Z ?_)):p:=e c h
end Go.Proofs.YthenkmapmnkelaaGreatDoor.Ab
