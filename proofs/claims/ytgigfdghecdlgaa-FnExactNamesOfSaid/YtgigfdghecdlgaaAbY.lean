/-
  The abstract walk: places in a function's text, values that name nothing of the call's own, steps of models.
-/
import Derived.Test.YtgigfdghecdlgaaAbV
namespace Go.Proofs.Ytgigfdghecdlgaa.Ab
set_option linter.unusedVariables false
open Go.RowKit
def pos (P:Program):Code→List Nat→(AE→St→Prop)→St→Prop
 |c,[],Q=>awp P c Q
 | .seq a b,0::p,Q=>pos P a p (AE.then (TR (En a) (awp P b Q)) Q)
 | .seq a b,_::p,Q=>pos P b p Q
 | .cond _ a b,0::p,Q=>pos P a p Q
 | .cond _ a b,_::p,Q=>pos P b p Q
 | .block id c,_::p,Q=>pos P c p (AE.inBlock id Q)
 | .loop c,_::p,Q=>pos P c p (AE.then (lpX P c Q) Q)
 |_,_,_=>fun _=>False
def BY (P:Program) (fn:Func) (p:List Nat) (r:RV) (σ:St):Prop:=pos P (fn.body.getD .skip) p (endX P fn.results.toList r) σ
def Sp (r:AV) (qt:List (Nat × Tok)) (qb:List (Nat × List AV)) (v:AV) (σ:St):Prop:=Wk ⟨[(0,v)],σ.t,σ.b⟩ ⟨[(0,r)],Gg qt,Gi qb⟩
def L9 (r:AV) (qt:List (Nat × Tok)) (qb:List (Nat × List AV)) (σ:St) (vs:List AV):Prop:=Sp r qt qb (oneA vs) σ
@[go_sem ↓] theorem Yb {r} {qt} {qb} {σ}:L9 r qt qb σ [] =Sp r qt qb (.tup []) σ:=rfl
@[go_sem ↓] theorem Yc {r v} {qt} {qb} {σ}:L9 r qt qb σ [v] =Sp r qt qb v σ:=rfl
@[go_sem ↓] theorem Yd {r v u} {vs} {qt} {qb} {σ}:L9 r qt qb σ (v::u::vs)=Sp r qt qb (.tup (v::u::vs)) σ:=rfl
def Gn (P:Program) (l:List ResultVar) (r:AV) (qt:List (Nat × Tok)) (qb:List (Nat × List AV)) (q:AE) (σ:St):Prop:=match q with| .exit _=>False|_=>HJ P σ l (L9 r qt qb σ)
@[go_sem ↓] theorem U5 {P} {l} {r} {qt} {qb} {σ}:Gn P l r qt qb .normal σ=HJ P σ l (L9 r qt qb σ):=rfl
@[go_sem ↓] theorem Ye {P} {l} {r} {qt} {qb} {σ}:Gn P l r qt qb .ret σ=HJ P σ l (L9 r qt qb σ):=rfl
theorem EG {r v} {qt} {qb} {σ σ1} (hn:Nils ⟨[(0,v)],σ.t,σ.b⟩ σ1) (rt rb:List (Nat × Nat)) (h:Fu rt rb σ1 ⟨[(0,r)],Gg qt,Gi qb⟩):Sp r qt qb v σ:=.one ⟨σ1,hn,rt,rb,h⟩
attribute [go_sem] Gg Gi stG RW RX oneA
theorem Yf {P} (hm:P.follows .mixedOrders =true) {f} {fn} {c} {l} {args} {pt} {pb} {r} {qt} {qb} (hf:P.funcs[f]? =some fn) (hb:fn.body=some c) (hr:fn.results=l.toArray) (hnm:(fn.name == "runtime.NumGoroutine")=false)
  (hn:decide (args.length≤fn.ntmps)=true) (hok:C8 fn.ntmps c=true) (h:awp P c (Gn P l r qt qb) (stG args pt pb)):AG P f args pt pb r qt qb:=by
 refine Oz hm hf hb hnm (of_decide_eq_true hn) hok ?_
 have e:endG P fn.results.toList r qt qb=Gn P l r qt qb:=by
  rw [hr]
  funext q σ
  cases q <;> rfl
 rw [e]
 exact h
def F6 (P:Program) (fn:Func) (p:List Nat) (r:AV) (qt:List (Nat × Tok)) (qb:List (Nat × List AV)) (σ:St):Prop:=pos P (fn.body.getD .skip) p (Gn P fn.results.toList r qt qb) σ
section
variable {P:Program} {σ:St} {Q:AE→St→Prop}
theorem DH {fn} {c} {l} {p} {r} {qt} {qb} (hb:fn.body=some c) (hr:fn.results=l.toArray) (h:pos P c p (Gn P l r qt qb) σ):F6 P fn p r qt qb σ:=by
 unfold F6; rw [hb,hr]; exact h
theorem BM {fn} {c} {l} {p} {r} {qt} {qb} (hb:fn.body=some c) (hr:fn.results=l.toArray) (h:F6 P fn p r qt qb σ):pos P c p (Gn P l r qt qb) σ:=by
 unfold F6 at h; rw [hb,hr] at h; exact h
theorem AR {fn} {c} {l} {p} {r} (hb:fn.body=some c) (hr:fn.results=l.toArray) (h:pos P c p (endX P l r) σ):BY P fn p r σ:=by
 unfold BY; rw [hb,hr]; exact h
theorem EB {fn} {c} {l} {p} {r} (hb:fn.body=some c) (hr:fn.results=l.toArray) (h:BY P fn p r σ):pos P c p (endX P l r) σ:=by
 unfold BY at h; rw [hb,hr] at h; exact h
@[go_sem ↓] theorem Z5 {c}:pos P c [] Q σ=awp P c Q σ:=by cases c <;> rfl
@[go_sem ↓] theorem Yg {a b} {p}:pos P (.seq a b) (0::p) Q σ=pos P a p (AE.then (TR (En a) (awp P b Q)) Q) σ:=rfl
@[go_sem ↓] theorem Yh {a b} {p}:pos P (.seq a b) (1::p) Q σ=pos P b p Q σ:=rfl
@[go_sem ↓] theorem XC {c} {a b} {p}:pos P (.cond c a b) (0::p) Q σ=pos P a p Q σ:=rfl
@[go_sem ↓] theorem XD {c} {a b} {p}:pos P (.cond c a b) (1::p) Q σ=pos P b p Q σ:=rfl
@[go_sem ↓] theorem XE {id} {c} {p}:pos P (.block id c) (0::p) Q σ=pos P c p (AE.inBlock id Q) σ:=rfl
@[go_sem ↓] theorem Yi {c} {p}:pos P (.loop c) (0::p) Q σ=pos P c p (AE.then (lpX P c Q) Q) σ:=rfl
theorem WD {c} {σ σ1} (hw:Wk σ σ1) (h:awp P (.loop c) Q σ1):awp P (.loop c) Q σ:=by
 rw [awp] at h ⊢
 intro L hL
 obtain⟨σ0,h1,h2⟩:=h L hL
 exact⟨σ0,hw.trans h1,h2⟩
theorem EU {b} {w1} {w2} {σ1} (h:awp P (.loop b) Q σ1) (hw:Wk σ σ1):Nk P b Q σ w1 w2:=WD hw h
end
mutual
theorem PG {rt rb}:∀ {a},Dw a=true→DC rt rb a=true∧ren rt rb a=a
 | .int _ _,_=>⟨rfl,rfl⟩
 | .bool _,_=>⟨rfl,rfl⟩
 | .str _,_=>⟨rfl,rfl⟩
 | .ro _,_=>⟨rfl,rfl⟩
 | .nilp,_=>⟨rfl,rfl⟩
 | .rop vs off,h=>by
  simp only [Dw] at h
  obtain⟨h1,h2⟩:=DV (rt:=rt) (rb:=rb) h
  simp only [DC,ren]
  exact⟨h1,by rw [h2]⟩
 | .fn f vs,h=>by
  simp only [Dw] at h
  obtain⟨h1,h2⟩:=DV (rt:=rt) (rb:=rb) h
  simp only [DC,ren]
  exact⟨h1,by rw [h2]⟩
 | .agg vs,h=>by
  simp only [Dw] at h
  obtain⟨h1,h2⟩:=DV (rt:=rt) (rb:=rb) h
  simp only [DC,ren]
  exact⟨h1,by rw [h2]⟩
theorem DV {rt rb}:∀ {as},DL as=true→Df rt rb as=true∧rens rt rb as=as
 | [],_=>⟨rfl,rfl⟩
 |a::as,h=>by
  simp only [DL,Bool.and_eq_true] at h
  obtain⟨h1,h2⟩:=PG (rt:=rt) (rb:=rb) h.1
  obtain⟨h3,h4⟩:=DV (rt:=rt) (rb:=rb) h.2
  simp only [Df,rens,h1,h2,h3,h4,Bool.and_self,and_self]
end
mutual
theorem Ue {T} {B}:∀ {a},Dw a=true→cl T B a=some a
 | .int _ _,_=>rfl
 | .bool _,_=>rfl
 | .str _,_=>rfl
 | .ro _,_=>rfl
 | .nilp,_=>rfl
 | .rop vs off,h=>by simp only [Dw] at h; simp only [cl,Gp h,Option.map_some]
 | .fn f vs,h=>by simp only [Dw] at h; simp only [cl,Gp h,Option.map_some]
 | .agg vs,h=>by simp only [Dw] at h; simp only [cl,Gp h,Option.map_some]
theorem Gp {T} {B}:∀ {as},DL as=true→cls T B as=some as
 | [],_=>rfl
 |a::as,h=>by
  simp only [DL,Bool.and_eq_true] at h
  simp only [cls,Ue h.1,Gp h.2]
end
structure Still (vs:List AV):Prop where
 p:DL vs=true
 k:∀rt rb,Df rt rb vs=true
 r:∀rt rb,rens rt rb vs=vs
 c:∀T B,cls T B vs=some vs
theorem Still.of {vs} (h:DL vs=true):Still vs:=⟨h,fun _ _=>(DV h).1,fun _ _=>(DV h).2,fun _ _=>Gp h⟩
def Sub (a b:AV):Prop:=∀w v,VSim w Gh.none a v→VSim w Gh.none b v
theorem Sub.refl (a:AV):Sub a a:=fun _ _ h=>h
theorem Sub.rop {vs us} {off} (h:(vs.drop off).take us.length=us):Sub (.rop vs off) (.rop us 0):=fun w v hv=>by
 simp only [VSim] at hv ⊢
 obtain⟨b,o,xs,rfl,h1,h2⟩:=hv
 refine⟨b,o+off,(xs.drop off).take us.length,rfl,?_,fun j u hu=>?_⟩
 ·have:=h1.take_drop off us.length
  unfold Cl at this
  rw [h] at this; exact this
 ·rw [List.getElem?_take] at hu
  split at hu
  ·rw [List.getElem?_drop] at hu
   rw [Nat.add_assoc]; exact h2 _ _ hu
  ·cases hu
def K7:List AV→List AV→Prop
 | [],[] =>True
 |a::as,b::bs=>Sub a b∧K7 as bs
 |_,_=>False
theorem K7.nil:K7 [] [] :=trivial
theorem K7.cons {a b} {as bs} (h:Sub a b) (k:K7 as bs):K7 (a::as) (b::bs):=⟨h,k⟩
theorem K7.vsims {w}:∀ {as bs} {us},K7 as bs→AB w Gh.none as us→AB w Gh.none bs us
 | [],[],us,_,h=>h
 |a::as,b::bs,us,h,hv=>by
  simp only [AB] at hv ⊢
  obtain⟨u,us',rfl,h1,h2⟩:=hv
  exact⟨u,us',rfl,h.1 _ _ h1,K7.vsims h.2 h2⟩
 | [],_::_,_,h,_=>h.elim
 |_::_,[],_,h,_=>h.elim
theorem PH {P} {f} {as bs} {r} (k:AC P f bs r) (h:K7 as bs):AC P f as r:=
 ⟨k.1,fun w us h1 h2 ha h3=>k.2 w us h1 h2 ha (h.vsims h3)⟩
def prB (p:Int × Bool):List D:=[.int .i64 p.1,.bool p.2]
def prI (p:Int × Int):List D:=[.int .i64 p.1,.int .i64 p.2]
def N2 {β:Type}:List (Int × β)→Int→Option β
 | [],_=>none
 |p::l,k=>if k=p.1 then some p.2 else N2 l k
theorem RF {l} {k}:El (.int .i64 k) (List.map prB l)=(N2 l k).map D.bool:=by
 induction l with
 |nil=>rfl
 |cons p l ih=>
  simp only [List.map_cons,prB,El,N2,Ek,beq_self_eq_true,Bool.true_and,decide_eq_true_eq]
  split
  ·rfl
  ·exact ih
theorem RG {l} {k}:El (.int .i64 k) (List.map prI l)=(N2 l k).map (D.int .i64):=by
 induction l with
 |nil=>rfl
 |cons p l ih=>
  simp only [List.map_cons,prI,El,N2,Ek,beq_self_eq_true,Bool.true_and,decide_eq_true_eq]
  split
  ·rfl
  ·exact ih
attribute [go_sem] RF RG
@[go_sem] theorem a4 {o:Option Bool} {z:Bool}:((o.map D.bool).map ofD).getD (.bool z)= .bool (o.getD z):=by cases o <;> rfl
@[go_sem] theorem a5 {o:Option Int} {z:Int}:((o.map (D.int .i64)).map ofD).getD (.int .i64 z)= .int .i64 (o.getD z):=by cases o <;> rfl
@[go_sem] theorem U6 {α β:Type} {o:Option α} {f:α→β}:(o.map f).isSome =o.isSome:=by cases o <;> rfl
@[irreducible] def fuel:Nat:=4611686018427387904
theorem B5:fuel=4611686018427387904:=by unfold fuel; rfl
def at? {α:Type} (l:List α) (i:Int):Option α:=if 0≤i then l[i.toNat]? else none
def K8 {α:Type} (a b:List α):Option (List α):=if a.length+b.length≤68719476736 then some (a++b) else none
def HU (a b:ByteArray):Option ByteArray:=if a.size+b.size≤9223372036854775807 then some (a++b) else none
def PI {α:Type} (n:Int) (z:α):Option (List α):=if 0≤n∧n≤68719476736 then some (List.replicate n.toNat z) else none
def Uf {α:Type} (l:List α) (i:Int) (x:α):List α:=l.set i.toNat x
def FO {α:Type} (l:List α) (i:Int) (x:α):Option (List α):=some (Uf l i x)
theorem C1 {α:Type} {l:List α} {i:Int} {x:α} {r:List α} (h:FO l i x=some r):l.set i.toNat x=r:=Option.some.inj h
def P3 (ns:List Int):Option ByteArray:=if ns.length≤9223372036854775807 then some (strOfNums ns) else none
theorem RH {ns} {v} (h:P3 ns=some v):ns.length≤maxLen∧strOfNums ns=v:=by
 unfold P3 at h
 split at h
 ·exact⟨by unfold maxLen; assumption,Option.some.inj h⟩
 ·cases h
theorem AH {α β:Type} {x:Option α} {k:α→Option β} {r:β} (h:Option.bind x k=some r):∃v,x=some v∧k v=some r:=by
 cases x with
 |none=>cases h
 |some v=>exact⟨v,rfl,h⟩
theorem ifT {α:Type} {c:Bool} {a b r:α} (hb:c=true) (h:(if c=true then a else b)=r):a=r:=by rw [if_pos hb] at h; exact h
theorem ifF {α:Type} {c:Bool} {a b r:α} (hb:c=false) (h:(if c=true then a else b)=r):b=r:=by subst hb; exact h
theorem AD {b:Bool} {p q:Prop} {w:Wrap p} {w':Wrap q} {α:Type} {x y r:α} (h:(if b=true then x else y)=r) (hp:x=r→p) (hq:y=r→q):Kh b p q w w':=⟨fun e=>hp (ifT e h),fun e=>hq (ifF e h)⟩
theorem P4 {α:Type} {l:List α} {i:Int} {x:α} (h:at? l i=some x):0≤i∧l[i.toNat]? =some x:=by
 unfold at? at h
 split at h
 ·exact⟨‹_›,h⟩
 ·cases h
theorem AO {α:Type} {a b l:List α} (h:K8 a b=some l):a.length+b.length≤68719476736∧a++b=l:=by
 unfold K8 at h
 split at h
 ·exact⟨‹_›,Option.some.inj h⟩
 ·cases h
theorem Ec {a b l} (h:HU a b=some l):a.size+b.size≤maxLen∧a++b=l:=by
 unfold HU at h
 split at h
 ·refine⟨?_,Option.some.inj h⟩; unfold maxLen; omega
 ·cases h
theorem Kk {α:Type} {n:Int} {z:α} {l:List α} (h:PI n z=some l):0≤n∧n≤68719476736∧List.replicate n.toNat z=l:=by
 unfold PI at h
 split at h
 ·exact⟨(‹_∧_› :_).1,(‹_∧_› :_).2,Option.some.inj h⟩
 ·cases h
theorem AY {α:Type} {f:α→List D} {l:List α} {n:Int} {sz:Nat} {K:List D→Prop} {w:Wrap K} {x:α} (h:at? l n=some x) (hl:(f x).length =sz) (hk:K (f x)):YB (List.map f l) n sz K w:=by
 obtain⟨h0,h1⟩:=P4 h
 exact⟨f x,⟨h0,by rw [List.getElem?_map,h1]; rfl,hl⟩,hk⟩
section
variable {P:Program} {σ:St} {Q:AE→St→Prop}
theorem Ug {K} {w1} {w2} {σ1} {fn} {c} {l} {p} {r} {qt} {qb} (h:F6 P fn p r qt qb σ1) (rt rb:List (Nat × Nat)) (hb:fn.body=some c:=by rfl) (hr:fn.results=l.toArray:=by rfl) (e:pos P c p (Gn P l r qt qb) σ1→K σ1:=by exact fun h=>h) (hw:Fu rt rb σ σ1:=by simp only [go_sem]):O4 false K σ w1 w2:=Cr (e (BM hb hr h)) (.one ⟨_,.done _,rt,rb,hw⟩)
theorem lpG {b} {w1} {w2} {w3} {σ1} {fn} {c} {l} {p} {r} {qt} {qb} (h:F6 P fn p r qt qb σ1) (rt rb:List (Nat × Nat)) (hb:fn.body=some c:=by rfl) (hr:fn.results=l.toArray:=by rfl) (e:pos P c p (Gn P l r qt qb) σ1→awp P (.loop b) Q σ1:=by exact fun h=>h) (hw:Fu rt rb σ σ1:=by simp only [go_sem]):lpY P b Q σ w1 w2 w3:=Nl (e (BM hb hr h)) (.one ⟨_,.done _,rt,rb,hw⟩)
theorem loG {b} {w1} {w2} {σ1} {fn} {c} {l} {p} {r} {qt} {qb} (h:F6 P fn p r qt qb σ1) (rt rb:List (Nat × Nat)) (hb:fn.body=some c:=by rfl) (hr:fn.results=l.toArray:=by rfl) (e:pos P c p (Gn P l r qt qb) σ1→awp P (.loop b) Q σ1:=by exact fun h=>h) (hw:Fu rt rb σ σ1:=by simp only [go_sem]):Nk P b Q σ w1 w2:=EU (e (BM hb hr h)) (.one ⟨_,.done _,rt,rb,hw⟩)
theorem A4 {K} {w1} {w2} {σ1} {fn} {c} {l} {p} {r} (h:BY P fn p r σ1) (rt rb:List (Nat × Nat)) (hb:fn.body=some c:=by rfl) (hr:fn.results=l.toArray:=by rfl) (e:pos P c p (endX P l r) σ1→K σ1:=by exact fun h=>h) (hw:Fu rt rb σ σ1:=by simp only [go_sem]):O4 false K σ w1 w2:=Cr (e (EB hb hr h)) (.one ⟨_,.done _,rt,rb,hw⟩)
theorem lpF {b} {w1} {w2} {w3} {σ1} {fn} {c} {l} {p} {r} (h:BY P fn p r σ1) (rt rb:List (Nat × Nat)) (hb:fn.body=some c:=by rfl) (hr:fn.results=l.toArray:=by rfl) (e:pos P c p (endX P l r) σ1→awp P (.loop b) Q σ1:=by exact fun h=>h) (hw:Fu rt rb σ σ1:=by simp only [go_sem]):lpY P b Q σ w1 w2 w3:=Nl (e (EB hb hr h)) (.one ⟨_,.done _,rt,rb,hw⟩)
theorem loF {b} {w1} {w2} {σ1} {fn} {c} {l} {p} {r} (h:BY P fn p r σ1) (rt rb:List (Nat × Nat)) (hb:fn.body=some c:=by rfl) (hr:fn.results=l.toArray:=by rfl) (e:pos P c p (endX P l r) σ1→awp P (.loop b) Q σ1:=by exact fun h=>h) (hw:Fu rt rb σ σ1:=by simp only [go_sem]):Nk P b Q σ w1 w2:=EU (e (EB hb hr h)) (.one ⟨_,.done _,rt,rb,hw⟩)
theorem AF {K} {w1} {w2} {q:Prop} (h:q) (e:q→K σ:=by first|(intro h; simp only [go_sem]; exact h)|exact fun h=>h):O4 false K σ w1 w2:=CY (e h)
theorem acF {f} {c} {l} {args} {r} {fn} (hf:P.funcs[f]? =some fn) (hm:P.follows .mixedOrders =true) (hb:fn.body=some c:=by rfl) (hr:fn.results=l.toArray:=by rfl) (hnm:(fn.name == "runtime.NumGoroutine")=false:=by rfl)
  (hn:decide (args.length≤fn.ntmps)=true:=by kernel_rfl) (hok:C8 fn.ntmps c=true:=by kernel_rfl) (h:awp P c (endX P l r) (st0 args)):AC P f args r:=X9 hm hf hb hr hnm hn hok h
theorem agF {f} {c} {l} {args} {pt} {pb} {r} {qt} {qb} {fn} (hf:P.funcs[f]? =some fn) (hm:P.follows .mixedOrders =true) (hb:fn.body=some c:=by rfl) (hr:fn.results=l.toArray:=by rfl) (hnm:(fn.name == "runtime.NumGoroutine")=false:=by rfl)
  (hn:decide (args.length≤fn.ntmps)=true:=by kernel_rfl) (hok:C8 fn.ntmps c=true:=by kernel_rfl) (h:awp P c (Gn P l r qt qb) (stG args pt pb)):AG P f args pt pb r qt qb:=Yf hm hf hb hr hnm hn hok h
theorem caG {K} {pos} {dst} {L} {wL} {f} {args} {o} {w} {as} {pt} {pb} {r} {qt} {qb} (y:Way) (h:AG P f as pt pb r qt qb)
  (hc:A6 y.cv σ fun σ1=>AJ (P2 y args as pt pb σ1) (Af y.cv (σ1.after y qt qb) fun σ2=>K (σ2.put dst (bak y r)))) (hL:L=true:=by kernel_rfl) (hB:P1 y as pt pb qt qb=true:=by kernel_rfl):N1 P L pos f args o dst σ K w wL:=V6 y hL h hB hc
end
theorem Z {P Q:Prop} (h:Q) (e:Q→P:=by first|(intro h; simp only [go_sem]; exact h)|exact fun h=>h):P:=e h
attribute [go_sem] List.length_replicate
theorem Di {α:Type} {f:α→List D} {l:List α} {n:Int} {x:α} (h:at? l n=some x):(List.map f l)[n.toNat]? =some (f x):=by
 rw [List.getElem?_map,(P4 h).2]; rfl
def AM (n:Int):List D:=[.int .i64 n]
def u8D (n:Int):List D:=[.int .u8 n]
def Yj (b:Bool):List D:=[.bool b]
def A2 (s:ByteArray):List D:=[.str s]
def slD {α:Type} (f:α→List D) (l:List α):List D:=[.sl (List.map f l)]
attribute [go_sem] AM u8D Yj A2 slD List.map_cons List.map_nil List.length_map List.nodup_cons List.mem_cons List.not_mem_nil not_or or_false or_true true_or false_or not_false_eq_true
end Go.Proofs.Ytgigfdghecdlgaa.Ab
namespace Go.Proofs.Ytgigfdghecdlgaa.Ab
set_option linter.unusedVariables false
theorem Uh {α:Type} {f g} (h:∀x,fzC (f x)=g x) (l:List α):fzR (List.map f l)=List.map g l:=by
 unfold fzR
 rw [List.map_map]
 exact List.map_congr_left fun x _=>h x
theorem HC {α:Type} {f g} (h:∀x,erC (f x)=g x):∀l:List α,erR (List.map f l)=List.map g l
 | [] =>by simp only [List.map_nil,erR]
 |x::xs=>by rw [List.map_cons,List.map_cons,erR,h x,HC h xs]
@[go_sem] theorem Z6:erR [] =[] :=by simp only [erR]
attribute [go_sem] rpS rpB Em C7 only M7
def pD {α:Type} (f:α→List D) (x:α):List D:=[.ptr (f x)]
attribute [go_sem] pD
@[go_sem] theorem bO {α:Type} {f:α→List D} {l:List α}:erR (List.map (pD f) l)=List.map (pD f) l:=HC (fun c=>by simp only [pD,erC,er]) l
@[go_sem] theorem bP {α:Type} {f:α→List D} {l:List α}:fzR (List.map (pD f) l)=List.map (pD f) l:=Uh (fun _=>rfl) l
def nop {α:Type} (f:α→List AV):Option α→AV
 |none=>.nilp
 |some x=>.rop (f x) 0
@[go_sem] theorem bQ {α:Type} {f:α→List AV}:nop f none= .nilp :=rfl
@[go_sem] theorem bR {α:Type} {f:α→List AV} {x:α}:nop f (some x)= .rop (f x) 0:=rfl
end Go.Proofs.Ytgigfdghecdlgaa.Ab
