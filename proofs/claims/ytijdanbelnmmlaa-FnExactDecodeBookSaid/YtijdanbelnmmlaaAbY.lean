/-
  The abstract walk: places in a function's text, values that name nothing of the call's own, steps of models.
-/
import Derived.Test.YtijdanbelnmmlaaAbV
namespace Go.Proofs.Ytijdanbelnmmlaa.Ab
set_option linter.unusedVariables false
open Go.RowKit
def pos (P:Program):Code→List Nat→(AE→St→Prop)→St→Prop
 |c,[],Q=>awp P c Q
 | .seq a b,0::p,Q=>pos P a p (AE.then (Ty (FM a) (awp P b Q)) Q)
 | .seq a b,_::p,Q=>pos P b p Q
 | .cond _ a b,0::p,Q=>pos P a p Q
 | .cond _ a b,_::p,Q=>pos P b p Q
 | .block id c,_::p,Q=>pos P c p (AE.inBlock id Q)
 | .loop c,_::p,Q=>pos P c p (AE.then (lpX P c Q) Q)
 |_,_,_=>fun _=>False
def BX (P:Program) (fn:Func) (p:List Nat) (r:RV) (σ:St):Prop:=pos P (fn.body.getD .skip) p (endX P fn.results.toList r) σ
def TJ (r:AV) (qt:List (Nat × Tok)) (qb:List (Nat × List AV)) (v:AV) (σ:St):Prop:=Wk ⟨[(0,v)],σ.t,σ.b⟩ ⟨[(0,r)],HC qt,HD qb⟩
def Mk (r:AV) (qt:List (Nat × Tok)) (qb:List (Nat × List AV)) (σ:St) (vs:List AV):Prop:=TJ r qt qb (oneA vs) σ
@[go_sem ↓] theorem ZN {r} {qt} {qb} {σ}:Mk r qt qb σ [] =TJ r qt qb (.tup []) σ:=rfl
@[go_sem ↓] theorem ZO {r v} {qt} {qb} {σ}:Mk r qt qb σ [v] =TJ r qt qb v σ:=rfl
@[go_sem ↓] theorem ZP {r v u} {vs} {qt} {qb} {σ}:Mk r qt qb σ (v::u::vs)=TJ r qt qb (.tup (v::u::vs)) σ:=rfl
def HI (P:Program) (l:List ResultVar) (r:AV) (qt:List (Nat × Tok)) (qb:List (Nat × List AV)) (q:AE) (σ:St):Prop:=match q with| .exit _=>False|_=>Hr P σ l (Mk r qt qb σ)
@[go_sem ↓] theorem Vp {P} {l} {r} {qt} {qb} {σ}:HI P l r qt qb .normal σ=Hr P σ l (Mk r qt qb σ):=rfl
@[go_sem ↓] theorem ZQ {P} {l} {r} {qt} {qb} {σ}:HI P l r qt qb .ret σ=Hr P σ l (Mk r qt qb σ):=rfl
theorem CL {r v} {qt} {qb} {σ σ1} (hn:Nils ⟨[(0,v)],σ.t,σ.b⟩ σ1) (rt rb:List (Nat × Nat)) (h:GJ rt rb σ1 ⟨[(0,r)],HC qt,HD qb⟩):TJ r qt qb v σ:=.one ⟨σ1,hn,rt,rb,h⟩
attribute [go_sem] HC HD stG Rz R0 oneA
theorem ZR {P} (hm:P.follows .mixedOrders =true) {f} {fn} {c} {l} {args} {pt} {pb} {r} {qt} {qb} (hf:P.funcs[f]? =some fn) (hb:fn.body=some c) (hr:fn.results=l.toArray) (hnm:(fn.name == "runtime.NumGoroutine")=false)
  (hn:decide (args.length≤fn.ntmps)=true) (hok:Dn fn.ntmps c=true) (h:awp P c (HI P l r qt qb) (stG args pt pb)):AG P f args pt pb r qt qb:=by
 refine PS hm hf hb hnm (of_decide_eq_true hn) hok ?_
 have e:endG P fn.results.toList r qt qb=HI P l r qt qb:=by
  rw [hr]
  funext q σ
  cases q <;> rfl
 rw [e]
 exact h
def Cy (P:Program) (fn:Func) (p:List Nat) (r:AV) (qt:List (Nat × Tok)) (qb:List (Nat × List AV)) (σ:St):Prop:=pos P (fn.body.getD .skip) p (HI P fn.results.toList r qt qb) σ
section
variable {P:Program} {σ:St} {Q:AE→St→Prop}
theorem Av {fn} {c} {l} {p} {r} {qt} {qb} (hb:fn.body=some c) (hr:fn.results=l.toArray) (h:pos P c p (HI P l r qt qb) σ):Cy P fn p r qt qb σ:=by
 unfold Cy; rw [hb,hr]; exact h
theorem E7 {fn} {c} {l} {p} {r} {qt} {qb} (hb:fn.body=some c) (hr:fn.results=l.toArray) (h:Cy P fn p r qt qb σ):pos P c p (HI P l r qt qb) σ:=by
 unfold Cy at h; rw [hb,hr] at h; exact h
theorem AP {fn} {c} {l} {p} {r} (hb:fn.body=some c) (hr:fn.results=l.toArray) (h:pos P c p (endX P l r) σ):BX P fn p r σ:=by
 unfold BX; rw [hb,hr]; exact h
theorem Fp {fn} {c} {l} {p} {r} (hb:fn.body=some c) (hr:fn.results=l.toArray) (h:BX P fn p r σ):pos P c p (endX P l r) σ:=by
 unfold BX at h; rw [hb,hr] at h; exact h
@[go_sem ↓] theorem bA {c}:pos P c [] Q σ=awp P c Q σ:=by cases c <;> rfl
@[go_sem ↓] theorem ZS {a b} {p}:pos P (.seq a b) (0::p) Q σ=pos P a p (AE.then (Ty (FM a) (awp P b Q)) Q) σ:=rfl
@[go_sem ↓] theorem ZT {a b} {p}:pos P (.seq a b) (1::p) Q σ=pos P b p Q σ:=rfl
@[go_sem ↓] theorem Xz {c} {a b} {p}:pos P (.cond c a b) (0::p) Q σ=pos P a p Q σ:=rfl
@[go_sem ↓] theorem X0 {c} {a b} {p}:pos P (.cond c a b) (1::p) Q σ=pos P b p Q σ:=rfl
@[go_sem ↓] theorem X1 {id} {c} {p}:pos P (.block id c) (0::p) Q σ=pos P c p (AE.inBlock id Q) σ:=rfl
@[go_sem ↓] theorem ZU {c} {p}:pos P (.loop c) (0::p) Q σ=pos P c p (AE.then (lpX P c Q) Q) σ:=rfl
theorem Wv {c} {σ σ1} (hw:Wk σ σ1) (h:awp P (.loop c) Q σ1):awp P (.loop c) Q σ:=by
 rw [awp] at h ⊢
 intro L hL
 obtain⟨σ0,h1,h2⟩:=h L hL
 exact⟨σ0,hw.trans h1,h2⟩
theorem Ef {b} {w1} {w2} {σ1} (h:awp P (.loop b) Q σ1) (hw:Wk σ σ1):OO P b Q σ w1 w2:=Wv hw h
end
mutual
theorem Pk {rt rb}:∀ {a},Dg a=true→Dq rt rb a=true∧ren rt rb a=a
 | .int _ _,_=>⟨rfl,rfl⟩
 | .bool _,_=>⟨rfl,rfl⟩
 | .str _,_=>⟨rfl,rfl⟩
 | .ro _,_=>⟨rfl,rfl⟩
 | .nilp,_=>⟨rfl,rfl⟩
 | .rop vs off,h=>by
  simp only [Dg] at h
  obtain⟨h1,h2⟩:=D8 (rt:=rt) (rb:=rb) h
  simp only [Dq,ren]
  exact⟨h1,by rw [h2]⟩
 | .fn f vs,h=>by
  simp only [Dg] at h
  obtain⟨h1,h2⟩:=D8 (rt:=rt) (rb:=rb) h
  simp only [Dq,ren]
  exact⟨h1,by rw [h2]⟩
 | .agg vs,h=>by
  simp only [Dg] at h
  obtain⟨h1,h2⟩:=D8 (rt:=rt) (rb:=rb) h
  simp only [Dq,ren]
  exact⟨h1,by rw [h2]⟩
theorem D8 {rt rb}:∀ {as},C7 as=true→EF rt rb as=true∧rens rt rb as=as
 | [],_=>⟨rfl,rfl⟩
 |a::as,h=>by
  simp only [C7,Bool.and_eq_true] at h
  obtain⟨h1,h2⟩:=Pk (rt:=rt) (rb:=rb) h.1
  obtain⟨h3,h4⟩:=D8 (rt:=rt) (rb:=rb) h.2
  simp only [EF,rens,h1,h2,h3,h4,Bool.and_self,and_self]
end
mutual
theorem VB {T} {B}:∀ {a},Dg a=true→cl T B a=some a
 | .int _ _,_=>rfl
 | .bool _,_=>rfl
 | .str _,_=>rfl
 | .ro _,_=>rfl
 | .nilp,_=>rfl
 | .rop vs off,h=>by simp only [Dg] at h; simp only [cl,HJ h,Option.map_some]
 | .fn f vs,h=>by simp only [Dg] at h; simp only [cl,HJ h,Option.map_some]
 | .agg vs,h=>by simp only [Dg] at h; simp only [cl,HJ h,Option.map_some]
theorem HJ {T} {B}:∀ {as},C7 as=true→cls T B as=some as
 | [],_=>rfl
 |a::as,h=>by
  simp only [C7,Bool.and_eq_true] at h
  simp only [cls,VB h.1,HJ h.2]
end
structure Still (vs:List AV):Prop where
 p:C7 vs=true
 k:∀rt rb,EF rt rb vs=true
 r:∀rt rb,rens rt rb vs=vs
 c:∀T B,cls T B vs=some vs
theorem Still.of {vs} (h:C7 vs=true):Still vs:=⟨h,fun _ _=>(D8 h).1,fun _ _=>(D8 h).2,fun _ _=>HJ h⟩
def Sub (a b:AV):Prop:=∀w v,VSim w Gh.none a v→VSim w Gh.none b v
theorem Sub.refl (a:AV):Sub a a:=fun _ _ h=>h
theorem Sub.rop {vs us} {off} (h:(vs.drop off).take us.length=us):Sub (.rop vs off) (.rop us 0):=fun w v hv=>by
 simp only [VSim] at hv ⊢
 obtain⟨b,o,xs,rfl,h1,h2⟩:=hv
 refine⟨b,o+off,(xs.drop off).take us.length,rfl,?_,fun j u hu=>?_⟩
 ·have:=h1.take_drop off us.length
  unfold Dm at this
  rw [h] at this; exact this
 ·rw [List.getElem?_take] at hu
  split at hu
  ·rw [List.getElem?_drop] at hu
   rw [Nat.add_assoc]; exact h2 _ _ hu
  ·cases hu
def Rf:List AV→List AV→Prop
 | [],[] =>True
 |a::as,b::bs=>Sub a b∧Rf as bs
 |_,_=>False
theorem Rf.nil:Rf [] [] :=trivial
theorem Rf.cons {a b} {as bs} (h:Sub a b) (k:Rf as bs):Rf (a::as) (b::bs):=⟨h,k⟩
def prB (p:Int × Bool):List D:=[.int .i64 p.1,.bool p.2]
def prI (p:Int × Int):List D:=[.int .i64 p.1,.int .i64 p.2]
def Oe {β:Type}:List (Int × β)→Int→Option β
 | [],_=>none
 |p::l,k=>if k=p.1 then some p.2 else Oe l k
theorem Rg {l} {k}:FK (.int .i64 k) (List.map prB l)=(Oe l k).map D.bool:=by
 induction l with
 |nil=>rfl
 |cons p l ih=>
  simp only [List.map_cons,prB,FK,Oe,FJ,beq_self_eq_true,Bool.true_and,decide_eq_true_eq]
  split
  ·rfl
  ·exact ih
theorem Rh {l} {k}:FK (.int .i64 k) (List.map prI l)=(Oe l k).map (D.int .i64):=by
 induction l with
 |nil=>rfl
 |cons p l ih=>
  simp only [List.map_cons,prI,FK,Oe,FJ,beq_self_eq_true,Bool.true_and,decide_eq_true_eq]
  split
  ·rfl
  ·exact ih
attribute [go_sem] Rg Rh
@[go_sem] theorem cE {o:Option Bool} {z:Bool}:((o.map D.bool).map ofD).getD (.bool z)= .bool (o.getD z):=by cases o <;> rfl
@[go_sem] theorem cF {o:Option Int} {z:Int}:((o.map (D.int .i64)).map ofD).getD (.int .i64 z)= .int .i64 (o.getD z):=by cases o <;> rfl
@[go_sem] theorem Vq {α β:Type} {o:Option α} {f:α→β}:(o.map f).isSome =o.isSome:=by cases o <;> rfl
@[irreducible] def fuel:Nat:=4611686018427387904
theorem A7:fuel=4611686018427387904:=by unfold fuel; rfl
def at? {α:Type} (l:List α) (i:Int):Option α:=if 0≤i then l[i.toNat]? else none
def GX {α:Type} (a b:List α):Option (List α):=if a.length+b.length≤68719476736 then some (a++b) else none
def TK {α:Type} (n:Int) (z:α):Option (List α):=if 0≤n∧n≤68719476736 then some (List.replicate n.toNat z) else none
def VC {α:Type} (l:List α) (i:Int) (x:α):List α:=l.set i.toNat x
def Fq {α:Type} (l:List α) (i:Int) (x:α):Option (List α):=some (VC l i x)
theorem AX {α:Type} {l:List α} {i:Int} {x:α} {r:List α} (h:Fq l i x=some r):l.set i.toNat x=r:=Option.some.inj h
def nn? (b:Int):Option Unit:=if 0≤b then some () else none
theorem VD {b} {u} (h:nn? b=some u):0≤b:=by
 unfold nn? at h
 split at h
 ·assumption
 ·cases h
theorem AH {α β:Type} {x:Option α} {k:α→Option β} {r:β} (h:Option.bind x k=some r):∃v,x=some v∧k v=some r:=by
 cases x with
 |none=>cases h
 |some v=>exact⟨v,rfl,h⟩
theorem ifT {α:Type} {c:Bool} {a b r:α} (hb:c=true) (h:(if c=true then a else b)=r):a=r:=by rw [if_pos hb] at h; exact h
theorem ifF {α:Type} {c:Bool} {a b r:α} (hb:c=false) (h:(if c=true then a else b)=r):b=r:=by subst hb; exact h
theorem AB {b:Bool} {p q:Prop} {w:Wrap p} {w':Wrap q} {α:Type} {x y r:α} (h:(if b=true then x else y)=r) (hp:x=r→p) (hq:y=r→q):LM b p q w w':=⟨fun e=>hp (ifT e h),fun e=>hq (ifF e h)⟩
theorem QT {α:Type} {l:List α} {i:Int} {x:α} (h:at? l i=some x):0≤i∧l[i.toNat]? =some x:=by
 unfold at? at h
 split at h
 ·exact⟨‹_›,h⟩
 ·cases h
theorem AN {α:Type} {a b l:List α} (h:GX a b=some l):a.length+b.length≤68719476736∧a++b=l:=by
 unfold GX at h
 split at h
 ·exact⟨‹_›,Option.some.inj h⟩
 ·cases h
theorem TL {α:Type} {n:Int} {z:α} {l:List α} (h:TK n z=some l):0≤n∧n≤68719476736∧List.replicate n.toNat z=l:=by
 unfold TK at h
 split at h
 ·exact⟨(‹_∧_› :_).1,(‹_∧_› :_).2,Option.some.inj h⟩
 ·cases h
theorem Af {α:Type} {f:α→List D} {l:List α} {n:Int} {sz:Nat} {K:List D→Prop} {w:Wrap K} {x:α} (h:at? l n=some x) (hl:(f x).length =sz) (hk:K (f x)):Yy (List.map f l) n sz K w:=by
 obtain⟨h0,h1⟩:=QT h
 exact⟨f x,⟨h0,by rw [List.getElem?_map,h1]; rfl,hl⟩,hk⟩
theorem NH {α β:Type} {f:α→β} {l r:List α} {i j:Int} (h:Gt l i j=some r):Gt (List.map f l) i j=some (List.map f r):=by
 unfold Gt at h ⊢
 rw [List.length_map]
 split at h
 ·rename_i h0
  rw [if_pos h0]
  cases h
  simp only [List.map_take,List.map_drop]
 ·cases h
section
variable {P:Program} {σ:St} {Q:AE→St→Prop}
theorem By {K} {w1} {w2} {σ1} {fn} {c} {l} {p} {r} {qt} {qb} (h:Cy P fn p r qt qb σ1) (rt rb:List (Nat × Nat)) (hb:fn.body=some c:=by rfl) (hr:fn.results=l.toArray:=by rfl) (e:pos P c p (HI P l r qt qb) σ1→K σ1:=by exact fun h=>h) (hw:GJ rt rb σ σ1:=by simp only [go_sem]):PX false K σ w1 w2:=PY (e (E7 hb hr h)) (.one ⟨_,.done _,rt,rb,hw⟩)
theorem lpG {b} {w1} {w2} {w3} {σ1} {fn} {c} {l} {p} {r} {qt} {qb} (h:Cy P fn p r qt qb σ1) (rt rb:List (Nat × Nat)) (hb:fn.body=some c:=by rfl) (hr:fn.results=l.toArray:=by rfl) (e:pos P c p (HI P l r qt qb) σ1→awp P (.loop b) Q σ1:=by exact fun h=>h) (hw:GJ rt rb σ σ1:=by simp only [go_sem]):lpY P b Q σ w1 w2 w3:=QO (e (E7 hb hr h)) (.one ⟨_,.done _,rt,rb,hw⟩)
theorem loG {b} {w1} {w2} {σ1} {fn} {c} {l} {p} {r} {qt} {qb} (h:Cy P fn p r qt qb σ1) (rt rb:List (Nat × Nat)) (hb:fn.body=some c:=by rfl) (hr:fn.results=l.toArray:=by rfl) (e:pos P c p (HI P l r qt qb) σ1→awp P (.loop b) Q σ1:=by exact fun h=>h) (hw:GJ rt rb σ σ1:=by simp only [go_sem]):OO P b Q σ w1 w2:=Ef (e (E7 hb hr h)) (.one ⟨_,.done _,rt,rb,hw⟩)
theorem BS {K} {w1} {w2} {σ1} {fn} {c} {l} {p} {r} (h:BX P fn p r σ1) (rt rb:List (Nat × Nat)) (hb:fn.body=some c:=by rfl) (hr:fn.results=l.toArray:=by rfl) (e:pos P c p (endX P l r) σ1→K σ1:=by exact fun h=>h) (hw:GJ rt rb σ σ1:=by simp only [go_sem]):PX false K σ w1 w2:=PY (e (Fp hb hr h)) (.one ⟨_,.done _,rt,rb,hw⟩)
theorem lpF {b} {w1} {w2} {w3} {σ1} {fn} {c} {l} {p} {r} (h:BX P fn p r σ1) (rt rb:List (Nat × Nat)) (hb:fn.body=some c:=by rfl) (hr:fn.results=l.toArray:=by rfl) (e:pos P c p (endX P l r) σ1→awp P (.loop b) Q σ1:=by exact fun h=>h) (hw:GJ rt rb σ σ1:=by simp only [go_sem]):lpY P b Q σ w1 w2 w3:=QO (e (Fp hb hr h)) (.one ⟨_,.done _,rt,rb,hw⟩)
theorem loF {b} {w1} {w2} {σ1} {fn} {c} {l} {p} {r} (h:BX P fn p r σ1) (rt rb:List (Nat × Nat)) (hb:fn.body=some c:=by rfl) (hr:fn.results=l.toArray:=by rfl) (e:pos P c p (endX P l r) σ1→awp P (.loop b) Q σ1:=by exact fun h=>h) (hw:GJ rt rb σ σ1:=by simp only [go_sem]):OO P b Q σ w1 w2:=Ef (e (Fp hb hr h)) (.one ⟨_,.done _,rt,rb,hw⟩)
theorem AF {K} {w1} {w2} {q:Prop} (h:q) (e:q→K σ:=by first|(intro h; simp only [go_sem]; exact h)|exact fun h=>h):PX false K σ w1 w2:=EI (e h)
theorem acF {f} {c} {l} {args} {r} {fn} (hf:P.funcs[f]? =some fn) (hm:P.follows .mixedOrders =true) (hb:fn.body=some c:=by rfl) (hr:fn.results=l.toArray:=by rfl) (hnm:(fn.name == "runtime.NumGoroutine")=false:=by rfl)
  (hn:decide (args.length≤fn.ntmps)=true:=by kernel_rfl) (hok:Dn fn.ntmps c=true:=by kernel_rfl) (h:awp P c (endX P l r) (st0 args)):AC P f args r:=Yw hm hf hb hr hnm hn hok h
theorem agF {f} {c} {l} {args} {pt} {pb} {r} {qt} {qb} {fn} (hf:P.funcs[f]? =some fn) (hm:P.follows .mixedOrders =true) (hb:fn.body=some c:=by rfl) (hr:fn.results=l.toArray:=by rfl) (hnm:(fn.name == "runtime.NumGoroutine")=false:=by rfl)
  (hn:decide (args.length≤fn.ntmps)=true:=by kernel_rfl) (hok:Dn fn.ntmps c=true:=by kernel_rfl) (h:awp P c (HI P l r qt qb) (stG args pt pb)):AG P f args pt pb r qt qb:=ZR hm hf hb hr hnm hn hok h
theorem caG {K} {pos} {dst} {L} {wL} {f} {args} {o} {w} {as} {pt} {pb} {r} {qt} {qb} (y:Way) (h:AG P f as pt pb r qt qb)
  (hc:BQ y.cv σ fun σ1=>AJ (QS y args as pt pb σ1) (Az y.cv (σ1.after y qt qb) fun σ2=>K (σ2.put dst (bak y r)))) (hL:L=true:=by kernel_rfl) (hB:QR y as pt pb qt qb=true:=by kernel_rfl):Mi P L pos f args o dst σ K w wL:=Wo y hL h hB hc
end
theorem Z {P Q:Prop} (h:Q) (e:Q→P:=by first|(intro h; simp only [go_sem]; exact h)|exact fun h=>h):P:=e h
attribute [go_sem] List.length_replicate
theorem Ba {α:Type} {f:α→List D} {l:List α} {n:Int} {x:α} (h:at? l n=some x):(List.map f l)[n.toNat]? =some (f x):=by
 rw [List.getElem?_map,(QT h).2]; rfl
def BC (n:Int):List D:=[.int .i64 n]
def u8D (n:Int):List D:=[.int .u8 n]
def ZV (b:Bool):List D:=[.bool b]
def cG (s:ByteArray):List D:=[.str s]
def slD {α:Type} (f:α→List D) (l:List α):List D:=[.sl (List.map f l)]
attribute [go_sem] BC u8D ZV cG slD List.map_cons List.map_nil List.length_map List.nodup_cons List.mem_cons List.not_mem_nil not_or or_false or_true true_or false_or not_false_eq_true
end Go.Proofs.Ytijdanbelnmmlaa.Ab
namespace Go.Proofs.Ytijdanbelnmmlaa.Ab
set_option linter.unusedVariables false
theorem NI {α:Type} {f:α→List D} {sz:Nat} (h:∀x,(f x).length =sz∧∀d ∈ f x,d.flat=true) (l:List α):∀row ∈ List.map f l,row.length=sz∧∀d ∈ row,d.flat=true:=by
 intro row hr
 obtain⟨x,-,rfl⟩:=List.mem_map.1 hr
 exact h x
theorem HK {α:Type} {f:α→List D} {sz:Nat} (h:∀x,(f x).length =sz) (l:List α):∀row ∈ List.map f l,row.length=sz:=by
 intro row hr
 obtain⟨x,-,rfl⟩:=List.mem_map.1 hr
 exact h x
theorem Iv {α:Type} {f g} (h:∀x,erC (f x)=g x):∀l:List α,erR (List.map f l)=List.map g l
 | [] =>by simp only [List.map_nil,erR]
 |x::xs=>by rw [List.map_cons,List.map_cons,erR,h x,Iv h xs]
@[go_sem] theorem bB:erR [] =[] :=by simp only [erR]
attribute [go_sem] rpS rpB FL Dh only Nm
end Go.Proofs.Ytijdanbelnmmlaa.Ab
