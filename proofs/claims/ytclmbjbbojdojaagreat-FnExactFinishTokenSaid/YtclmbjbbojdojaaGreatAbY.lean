/-
  The abstract walk: places in a function's text, values that name nothing of the call's own, steps of models.
-/
import Derived.Test.YtclmbjbbojdojaaGreatAbV
namespace Go.Proofs.YtclmbjbbojdojaaGreat.Ab
set_option linter.unusedVariables false
set_option maxHeartbeats 1000000
open Go.RowKit
def pos (P:Program):Code→List Nat→(AE→St→Prop)→St→Prop
 |c,[],Q=>awp P c Q
 | .seq a b,0::p,Q=>pos P a p (AE.then (iB (Jy a) (awp P b Q)) Q)
 | .seq a b,_::p,Q=>pos P b p Q
 | .cond _ a b,0::p,Q=>pos P a p Q
 | .cond _ a b,_::p,Q=>pos P b p Q
 | .block id c,_::p,Q=>pos P c p (AE.inBlock id Q)
 | .loop c,_::p,Q=>pos P c p (AE.then (lpX P c Q) Q)
 |_,_,_=>fun _=>False
def Aa (P:Program) (fn:Func) (p:List Nat) (r:RV) (σ:St):Prop:=pos P (fn.body.getD .skip) p (endX P fn.results.toList r) σ
def aJ (r:AV) (qt:List (Nat × Tok)) (qb:List (Nat × List AV)) (v:AV) (σ:St):Prop:=Wk ⟨[(0,v)],σ.t,σ.b⟩ ⟨[(0,r)],MT qt,MU qb⟩
def Wg (r:AV) (qt:List (Nat × Tok)) (qb:List (Nat × List AV)) (σ:St) (vs:List AV):Prop:=aJ r qt qb (oneA vs) σ
@[go_sem ↓] theorem pW {r} {qt} {qb} {σ}:Wg r qt qb σ [] =aJ r qt qb (.tup []) σ:=rfl
@[go_sem ↓] theorem pX {r v} {qt} {qb} {σ}:Wg r qt qb σ [v] =aJ r qt qb v σ:=rfl
@[go_sem ↓] theorem pY {r v u} {vs} {qt} {qb} {σ}:Wg r qt qb σ (v::u::vs)=aJ r qt qb (.tup (v::u::vs)) σ:=rfl
def Ks (P:Program) (l:List ResultVar) (r:AV) (qt:List (Nat × Tok)) (qb:List (Nat × List AV)) (q:AE) (σ:St):Prop:=match q with| .exit _=>False|_=>OH P σ l (Wg r qt qb σ)
@[go_sem ↓] theorem kG {P} {l} {r} {qt} {qb} {σ}:Ks P l r qt qb .normal σ=OH P σ l (Wg r qt qb σ):=rfl
@[go_sem ↓] theorem pZ {P} {l} {r} {qt} {qb} {σ}:Ks P l r qt qb .ret σ=OH P σ l (Wg r qt qb σ):=rfl
theorem f8 {r v} {qt} {qb} {σ σ1} (hn:Nils ⟨[(0,v)],σ.t,σ.b⟩ σ1) (rt rb:List (Nat × Nat)) (h:K7 rt rb σ1 ⟨[(0,r)],MT qt,MU qb⟩):aJ r qt qb v σ:=.one ⟨σ1,hn,rt,rb,h⟩
attribute [go_sem] MT MU stG eS eU oneA
theorem pa {P} (hm:P.follows .mixedOrders =true) {f} {fn} {c} {l} {args} {pt} {pb} {r} {qt} {qb} (hf:P.funcs[f]? =some fn) (hb:fn.body=some c) (hr:fn.results=l.toArray) (hnm:(fn.name == "runtime.NumGoroutine")=false)
  (hn:decide (args.length≤fn.ntmps)=true) (hok:HA fn.ntmps c=true) (h:awp P c (Ks P l r qt qb) (stG args pt pb)):AG P f args pt pb r qt qb:=by
 refine aB hm hf hb hnm (of_decide_eq_true hn) hok ?_
 have e:endG P fn.results.toList r qt qb=Ks P l r qt qb:=by
  rw [hr]
  funext q σ
  cases q <;> rfl
 rw [e]
 exact h
def Dl (P:Program) (fn:Func) (p:List Nat) (r:AV) (qt:List (Nat × Tok)) (qb:List (Nat × List AV)) (σ:St):Prop:=pos P (fn.body.getD .skip) p (Ks P fn.results.toList r qt qb) σ
section
variable {P:Program} {σ:St} {Q:AE→St→Prop}
theorem BO {fn} {c} {l} {p} {r} {qt} {qb} (hb:fn.body=some c) (hr:fn.results=l.toArray) (h:pos P c p (Ks P l r qt qb) σ):Dl P fn p r qt qb σ:=by
 grind [Dl]
theorem Je {fn} {c} {l} {p} {r} {qt} {qb} (hb:fn.body=some c) (hr:fn.results=l.toArray) (h:Dl P fn p r qt qb σ):pos P c p (Ks P l r qt qb) σ:=by
 grind [Dl]
theorem Ah {fn} {c} {l} {p} {r} (hb:fn.body=some c) (hr:fn.results=l.toArray) (h:pos P c p (endX P l r) σ):Aa P fn p r σ:=by
 grind [Aa]
theorem CH {fn} {c} {l} {p} {r} (hb:fn.body=some c) (hr:fn.results=l.toArray) (h:Aa P fn p r σ):pos P c p (endX P l r) σ:=by
 grind [Aa]
@[go_sem ↓] theorem rY {c}:pos P c [] Q σ=awp P c Q σ:=by cases c <;> rfl
@[go_sem ↓] theorem pd {a b} {p}:pos P (.seq a b) (0::p) Q σ=pos P a p (AE.then (iB (Jy a) (awp P b Q)) Q) σ:=rfl
@[go_sem ↓] theorem pe {a b} {p}:pos P (.seq a b) (1::p) Q σ=pos P b p Q σ:=rfl
@[go_sem ↓] theorem nf {c} {a b} {p}:pos P (.cond c a b) (0::p) Q σ=pos P a p Q σ:=rfl
@[go_sem ↓] theorem ng {c} {a b} {p}:pos P (.cond c a b) (1::p) Q σ=pos P b p Q σ:=rfl
@[go_sem ↓] theorem nh {id} {c} {p}:pos P (.block id c) (0::p) Q σ=pos P c p (AE.inBlock id Q) σ:=rfl
@[go_sem ↓] theorem pf {c} {p}:pos P (.loop c) (0::p) Q σ=pos P c p (AE.then (lpX P c Q) Q) σ:=rfl
theorem lz {c} {σ σ1} (hw:Wk σ σ1) (h:awp P (.loop c) Q σ1):awp P (.loop c) Q σ:=by
 rw [awp] at h ⊢
 intro L hL
 obtain⟨σ0,h1,h2⟩:=h L hL
 exact⟨σ0,hw.trans h1,h2⟩
theorem CX {b} {w1} {w2} {σ1} (h:awp P (.loop b) Q σ1) (hw:Wk σ σ1):Sl P b Q σ w1 w2:=lz hw h
end
mutual
theorem aK {rt rb}:∀ {a},Gc a=true→HE rt rb a=true∧ren rt rb a=a
 | .int _ _,_=>⟨rfl,rfl⟩
 | .bool _,_=>⟨rfl,rfl⟩
 | .str _,_=>⟨rfl,rfl⟩
 | .ro _,_=>⟨rfl,rfl⟩
 | .nilp,_=>⟨rfl,rfl⟩
 | .rop vs off,h=>by
  simp only [Gc] at h
  obtain⟨h1,h2⟩:=Ho (rt:=rt) (rb:=rb) h
  simp only [HE,ren]
  exact⟨h1,by rw [h2]⟩
 | .fn f vs,h=>by
  simp only [Gc] at h
  obtain⟨h1,h2⟩:=Ho (rt:=rt) (rb:=rb) h
  simp only [HE,ren]
  exact⟨h1,by rw [h2]⟩
 | .agg vs,h=>by
  simp only [Gc] at h
  obtain⟨h1,h2⟩:=Ho (rt:=rt) (rb:=rb) h
  simp only [HE,ren]
  exact⟨h1,by rw [h2]⟩
theorem Ho {rt rb}:∀ {as},E6 as=true→H4 rt rb as=true∧rens rt rb as=as
 | [],_=>⟨rfl,rfl⟩
 |a::as,h=>by
  simp only [E6,Bool.and_eq_true] at h
  obtain⟨h1,h2⟩:=aK (rt:=rt) (rb:=rb) h.1
  obtain⟨h3,h4⟩:=Ho (rt:=rt) (rb:=rb) h.2
  simp only [H4,rens,h1,h2,h3,h4,Bool.and_self,and_self]
end
mutual
theorem bi {T} {B}:∀ {a},Gc a=true→cl T B a=some a
 | .int _ _,_=>rfl
 | .bool _,_=>rfl
 | .str _,_=>rfl
 | .ro _,_=>rfl
 | .nilp,_=>rfl
 | .rop vs off,h=>by simp only [Gc] at h; simp only [cl,KD h,Option.map_some]
 | .fn f vs,h=>by simp only [Gc] at h; simp only [cl,KD h,Option.map_some]
 | .agg vs,h=>by simp only [Gc] at h; simp only [cl,KD h,Option.map_some]
theorem KD {T} {B}:∀ {as},E6 as=true→cls T B as=some as
 | [],_=>rfl
 |a::as,h=>by
  simp only [E6,Bool.and_eq_true] at h
  simp only [cls,bi h.1,KD h.2]
end
structure Still (vs:List AV):Prop where
 p:E6 vs=true
 o:Oe vs=true
 k:∀rt rb,H4 rt rb vs=true
 r:∀rt rb,rens rt rb vs=vs
 c:∀T B,cls T B vs=some vs
 f:∀T B as,cls T B (fnA vs as)=(cls T B as).map (fnA vs)
theorem PJ {T} {B}:∀ {as bs:List AV},cls T B (as++bs)=(cls T B as).bind fun xs=>(cls T B bs).map fun ys=>xs++ys
 | [],bs=>by simp only [List.nil_append,cls,Option.bind_some]; cases cls T B bs <;> rfl
 | a::as,bs=>by
  simp only [List.cons_append,cls,PJ (as:=as)]
  cases cl T B a with
  |none=>simp
  |some x=>
   cases cls T B as with
   |none=>simp
   |some xs=>cases cls T B bs <;> simp
theorem jM {vs} (h:E6 vs=true) (T B as):cls T B (fnA vs as)=(cls T B as).map (fnA vs):=by
 have h0:∀ {us},E6 us=true→cls T B (as++us)=(cls T B as).map (· ++us):=fun hu=>by
  rw [PJ,KD hu]; cases cls T B as <;> rfl
 unfold fnA
 split
 ·rename_i fs cs
  simp only [E6,Gc,Bool.and_eq_true] at h
  rw [PJ,KD h.1,h0 h.2]
  cases cls T B as <;> rfl
 grind
theorem Still.of {vs} (h:E6 vs=true) (ho:Oe vs=true:=by rfl):Still vs:=⟨h,ho,fun _ _=>(Ho h).1,fun _ _=>(Ho h).2,fun _ _=>KD h,jM h⟩
def Sub (a b:AV):Prop:=∀w γ v,VSim w γ a v→VSim w γ b v
theorem Sub.refl (a:AV):Sub a a:=fun _ _ _ h=>h
theorem Sub.rop {vs us} {off} (h:(vs.drop off).take us.length=us):Sub (.rop vs off) (.rop us 0):=fun w γ v hv=>by
 simp only [VSim] at hv ⊢
 obtain⟨b,o,xs,rfl,h1,h2⟩:=hv
 refine⟨b,o+off,(xs.drop off).take us.length,rfl,?_,fun j u hu=>?_⟩
 ·have:=h1.take_drop off us.length
  grind [GS]
 grind
def PK:List AV→List AV→Prop
 | [],[] =>True
 |a::as,b::bs=>Sub a b∧PK as bs
 |_,_=>False
theorem PK.nil:PK [] [] :=trivial
theorem PK.cons {a b} {as bs} (h:Sub a b) (k:PK as bs):PK (a::as) (b::bs):=⟨h,k⟩
theorem PK.vsims {w} {γ}:∀ {as bs} {us},PK as bs→AH w γ as us→AH w γ bs us
 | [],[],us,_,h=>h
 |a::as,b::bs,us,h,hv=>by
  simp only [AH] at hv ⊢
  obtain⟨u,us',rfl,h1,h2⟩:=hv
  exact⟨u,us',rfl,h.1 _ _ _ h1,PK.vsims h.2 h2⟩
 | [],_::_,_,h,_=>h.elim
 |_::_,[],_,h,_=>h.elim
theorem XL {P} {f} {as bs} {r} (k:AC P f bs r) (h:PK as bs):AC P f as r:=
 ⟨k.1,fun w us h1 h2 ha h3=>k.2 w us h1 h2 ha (h.vsims h3)⟩
def keyI (k:List Int):List D:=k.map fun n=>.int .i64 n
def Im (p:List Int × Int):List D:=[.ptr (keyI p.1),.int .i64 p.2]
def EM {β:Type}:List (List Int × β)→List Int→Option β
 | [],_=>none
 |p::l,k=>if k=p.1 then some p.2 else EM l k
def JT {β:Type}:List (List Int × β)→List Int→β→List (List Int × β)
 | [],k,v=>[(k,v)]
 |p::l,k,v=>if k=p.1 then (k,v)::l else p::JT l k v
def PL {β:Type} (l:List (List Int × β)) (k:List Int) (v:β):Option (List (List Int × β)):=if l.length<68719476736 then some (JT l k v) else none
theorem aL {β:Type} {l r:List (List Int × β)} {k:List Int} {v:β} (h:PL l k v=some r):l.length<68719476736∧JT l k v=r:=by
 unfold PL at h
 split at h
 ·exact⟨by assumption,Option.some.inj h⟩
 ·cases h
theorem Wh:∀ {k k':List Int},JY (keyI k) (keyI k')=decide (k=k')
 | [],[] =>rfl
 | [],n::k'=>rfl
 |n::k,[] =>rfl
 |n::k,n'::k'=>by
  have:=Wh (k:=k) (k':=k')
  show (IntKind.i64 == IntKind.i64&&decide (n=n')&&JY (keyI k) (keyI k'))=_
  rw [this]
  by_cases h1:n=n' <;> by_cases h2:k=k' <;> simp [h1,h2]
theorem Wi {k k':List Int}:Hj (.ptr (keyI k)) (.ptr (keyI k'))=decide (k=k'):=Wh
theorem Ul {l} {k}:G8 (.ptr (keyI k)) (List.map Im l)=(EM l k).map (D.int .i64):=by
 induction l with
 |nil=>rfl
 |cons p l ih=>
  show (if Hj (.ptr (keyI k)) (.ptr (keyI p.1))=true then some (D.int .i64 p.2) else G8 (.ptr (keyI k)) (List.map Im l))=_
  rw [Wi,ih,EM]
  by_cases h:k=p.1 <;> simp [h]
theorem dh {l} {k v}:mput (.ptr (keyI k)) (.int .i64 v) (List.map Im l)=List.map Im (JT l k v):=by
 induction l with
 |nil=>rfl
 |cons p l ih=>
  show (if Hj (.ptr (keyI k)) (.ptr (keyI p.1))=true then [D.ptr (keyI k),.int .i64 v] ::List.map Im l else Im p::mput (.ptr (keyI k)) (.int .i64 v) (List.map Im l))=_
  rw [Wi,ih,JT]
  by_cases h:k=p.1
  ·simp [h,Im]
  ·simp [h]
@[go_sem] theorem kH {l} {a b c:Int}:G8 (.ptr [.int .i64 a,.int .i64 b,.int .i64 c]) (List.map Im l)=(EM l [a,b,c]).map (D.int .i64):=Ul (k:=[a,b,c])
@[go_sem] theorem sy {o:Option Int} {z:Int}:((o.map (D.int .i64)).map ofD).getD (.int .i64 z)= .int .i64 (o.getD z):=by cases o <;> rfl
@[irreducible] def fuel:Nat:=4611686018427387904
theorem Ax:fuel=4611686018427387904:=by grind [fuel]
def at? {α:Type} (l:List α) (i:Int):Option α:=if 0≤i then l[i.toNat]? else none
def Es {α:Type} (a b:List α):Option (List α):=if a.length+b.length≤68719476736 then some (a++b) else none
def rep? {α:Type} (n:Int) (z:α):Option (List α):=if 0≤n∧n≤68719476736 then some (List.replicate n.toNat z) else none
def jN {α:Type} (l:List α) (i:Int) (x:α):List α:=l.set i.toNat x
def A4 {α:Type} (l:List α) (i:Int) (x:α):Option (List α):=some (jN l i x)
theorem AL {α:Type} {l:List α} {i:Int} {x:α} {r:List α} (h:A4 l i x=some r):l.set i.toNat x=r:=Option.some.inj h
def nz? (b:Int):Option Unit:=if b=0 then none else some ()
theorem XM {b} {u} (h:nz? b=some u):b≠0:=by
 grind [nz?]
theorem AD {α β:Type} {x:Option α} {k:α→Option β} {r:β} (h:Option.bind x k=some r):∃v,x=some v∧k v=some r:=by
 cases x with
 |none=>cases h
 |some v=>grind
theorem ifT {α:Type} {c:Bool} {a b r:α} (hb:c=true) (h:(if c=true then a else b)=r):a=r:=by rw [if_pos hb] at h; exact h
theorem ifF {α:Type} {c:Bool} {a b r:α} (hb:c=false) (h:(if c=true then a else b)=r):b=r:=by grind
theorem AJ {b:Bool} {p q:Prop} {w:Wrap p} {w':Wrap q} {α:Type} {x y r:α} (h:(if b=true then x else y)=r) (hp:x=r→p) (hq:y=r→q):Ug b p q w w':=⟨fun e=>hp (ifT e h),fun e=>hq (ifF e h)⟩
theorem Tg {α:Type} {l:List α} {i:Int} {x:α} (h:at? l i=some x):0≤i∧l[i.toNat]? =some x:=by
 grind [at?]
theorem Al {α:Type} {a b l:List α} (h:Es a b=some l):a.length+b.length≤68719476736∧a++b=l:=by
 grind [Es]
theorem D6 {α:Type} {n:Int} {z:α} {l:List α} (h:rep? n z=some l):0≤n∧n≤68719476736∧List.replicate n.toNat z=l:=by
 grind [rep?]
theorem AO {α:Type} {f:α→List D} {l:List α} {n:Int} {sz:Nat} {K:List D→Prop} {w:Wrap K} {x:α} (h:at? l n=some x) (hl:(f x).length =sz) (hk:K (f x)):dg (List.map f l) n sz K w:=by
 obtain⟨h0,h1⟩:=Tg h
 exact⟨f x,⟨h0,by rw [List.getElem?_map,h1]; rfl,hl⟩,hk⟩
theorem bj {α:Type} {f:α→List D} {l:List α} {n:Int} {sz s0:Nat} {d y:D} {ys:List D} {K:List D→Prop} {w:Wrap K} {x:α} (h:at? l n=some x) (hy:f x=y::ys) (hl:ys.length+1=sz) (hk:K (d::ys)):dg (putR [(s0,n.toNat,0)] (List.map f l) d) n sz K w:=by
 obtain⟨h0,h1⟩:=Tg h
 have hr:(List.map f l)[n.toNat]? =some (y::ys):=by rw [List.getElem?_map,h1,← hy]; rfl
 have hlt:n.toNat<(List.map f l).length :=(List.getElem?_eq_some_iff.1 hr).1
 refine⟨d::ys,⟨h0,?_,hl⟩,hk⟩
 rw [Ei (d':=y) hr rfl,List.getElem?_set_self hlt]
 rfl
@[go_sem] def r3 (a b:Nat) (l:List (Nat × Nat)):List (Nat × Nat):=(a,b)::(a+1,b+1)::(a+2,b+2)::l
@[go_sem] def r4 (a b:Nat) (l:List (Nat × Nat)):List (Nat × Nat):=(a,b)::r3 (a+1) (b+1) l
@[go_sem] def r5 (a b:Nat) (l:List (Nat × Nat)):List (Nat × Nat):=(a,b)::r4 (a+1) (b+1) l
@[go_sem] def r6 (a b:Nat) (l:List (Nat × Nat)):List (Nat × Nat):=(a,b)::r5 (a+1) (b+1) l
@[go_sem] def r7 (a b:Nat) (l:List (Nat × Nat)):List (Nat × Nat):=(a,b)::r6 (a+1) (b+1) l
@[go_sem] def r8 (a b:Nat) (l:List (Nat × Nat)):List (Nat × Nat):=(a,b)::r7 (a+1) (b+1) l
@[go_sem] def r9 (a b:Nat) (l:List (Nat × Nat)):List (Nat × Nat):=(a,b)::r8 (a+1) (b+1) l
@[go_sem] def r10 (a b:Nat) (l:List (Nat × Nat)):List (Nat × Nat):=(a,b)::r9 (a+1) (b+1) l
@[go_sem] def r11 (a b:Nat) (l:List (Nat × Nat)):List (Nat × Nat):=(a,b)::r10 (a+1) (b+1) l
@[go_sem] def r12 (a b:Nat) (l:List (Nat × Nat)):List (Nat × Nat):=(a,b)::r11 (a+1) (b+1) l
@[go_sem] def r13 (a b:Nat) (l:List (Nat × Nat)):List (Nat × Nat):=(a,b)::r12 (a+1) (b+1) l
@[go_sem] def r14 (a b:Nat) (l:List (Nat × Nat)):List (Nat × Nat):=(a,b)::r13 (a+1) (b+1) l
@[go_sem] def r15 (a b:Nat) (l:List (Nat × Nat)):List (Nat × Nat):=(a,b)::r14 (a+1) (b+1) l
@[go_sem] def r16 (a b:Nat) (l:List (Nat × Nat)):List (Nat × Nat):=(a,b)::r15 (a+1) (b+1) l
section
variable {P:Program} {σ:St} {Q:AE→St→Prop}
theorem s4 {K} {w1} {w2} {σ1} {fn} {c} {l} {p} {r} {qt} {qb} (h:Dl P fn p r qt qb σ1) (rt rb:List (Nat × Nat)) (hb:fn.body=some c:=by rfl) (hr:fn.results=l.toArray:=by rfl) (e:pos P c p (Ks P l r qt qb) σ1→K σ1:=by exact fun h=>h) (hw:K7 rt rb σ σ1:=by simp only [go_sem]):Uh false K σ w1 w2:=fK (e (Je hb hr h)) (.one ⟨_,.done _,rt,rb,hw⟩)
theorem lpG {b} {w1} {w2} {w3} {σ1} {fn} {c} {l} {p} {r} {qt} {qb} (h:Dl P fn p r qt qb σ1) (rt rb:List (Nat × Nat)) (hb:fn.body=some c:=by rfl) (hr:fn.results=l.toArray:=by rfl) (e:pos P c p (Ks P l r qt qb) σ1→awp P (.loop b) Q σ1:=by exact fun h=>h) (hw:K7 rt rb σ σ1:=by simp only [go_sem]):lpY P b Q σ w1 w2 w3:=QU (e (Je hb hr h)) (.one ⟨_,.done _,rt,rb,hw⟩)
theorem loG {b} {w1} {w2} {σ1} {fn} {c} {l} {p} {r} {qt} {qb} (h:Dl P fn p r qt qb σ1) (rt rb:List (Nat × Nat)) (hb:fn.body=some c:=by rfl) (hr:fn.results=l.toArray:=by rfl) (e:pos P c p (Ks P l r qt qb) σ1→awp P (.loop b) Q σ1:=by exact fun h=>h) (hw:K7 rt rb σ σ1:=by simp only [go_sem]):Sl P b Q σ w1 w2:=CX (e (Je hb hr h)) (.one ⟨_,.done _,rt,rb,hw⟩)
theorem s5 {K} {w1} {w2} {σ1} {fn} {c} {l} {p} {r} (h:Aa P fn p r σ1) (rt rb:List (Nat × Nat)) (hb:fn.body=some c:=by rfl) (hr:fn.results=l.toArray:=by rfl) (e:pos P c p (endX P l r) σ1→K σ1:=by exact fun h=>h) (hw:K7 rt rb σ σ1:=by simp only [go_sem]):Uh false K σ w1 w2:=fK (e (CH hb hr h)) (.one ⟨_,.done _,rt,rb,hw⟩)
theorem lpF {b} {w1} {w2} {w3} {σ1} {fn} {c} {l} {p} {r} (h:Aa P fn p r σ1) (rt rb:List (Nat × Nat)) (hb:fn.body=some c:=by rfl) (hr:fn.results=l.toArray:=by rfl) (e:pos P c p (endX P l r) σ1→awp P (.loop b) Q σ1:=by exact fun h=>h) (hw:K7 rt rb σ σ1:=by simp only [go_sem]):lpY P b Q σ w1 w2 w3:=QU (e (CH hb hr h)) (.one ⟨_,.done _,rt,rb,hw⟩)
theorem loF {b} {w1} {w2} {σ1} {fn} {c} {l} {p} {r} (h:Aa P fn p r σ1) (rt rb:List (Nat × Nat)) (hb:fn.body=some c:=by rfl) (hr:fn.results=l.toArray:=by rfl) (e:pos P c p (endX P l r) σ1→awp P (.loop b) Q σ1:=by exact fun h=>h) (hw:K7 rt rb σ σ1:=by simp only [go_sem]):Sl P b Q σ w1 w2:=CX (e (CH hb hr h)) (.one ⟨_,.done _,rt,rb,hw⟩)
theorem AW {K} {w1} {w2} {q:Prop} (h:q) (e:q→K σ:=by first|(intro h; simp only [go_sem]; exact h)|exact fun h=>h):Uh false K σ w1 w2:=Bv (e h)
theorem acF {f} {c} {l} {args} {r} {fn} (hf:P.funcs[f]? =some fn) (hm:P.follows .mixedOrders =true) (hb:fn.body=some c:=by rfl) (hr:fn.results=l.toArray:=by rfl) (hnm:(fn.name == "runtime.NumGoroutine")=false:=by rfl)
  (hn:decide (args.length≤fn.ntmps)=true:=by kernel_rfl) (hok:HA fn.ntmps c=true:=by kernel_rfl) (h:awp P c (endX P l r) (st0 args)):AC P f args r:=o8 hm hf hb hr hnm hn hok h
theorem agF {f} {c} {l} {args} {pt} {pb} {r} {qt} {qb} {fn} (hf:P.funcs[f]? =some fn) (hm:P.follows .mixedOrders =true) (hb:fn.body=some c:=by rfl) (hr:fn.results=l.toArray:=by rfl) (hnm:(fn.name == "runtime.NumGoroutine")=false:=by rfl)
  (hn:decide (args.length≤fn.ntmps)=true:=by kernel_rfl) (hok:HA fn.ntmps c=true:=by kernel_rfl) (h:awp P c (Ks P l r qt qb) (stG args pt pb)):AG P f args pt pb r qt qb:=pa hm hf hb hr hnm hn hok h
theorem caG {K} {pos} {dst} {L} {wL} {f} {args} {o} {w} {as} {pt} {pb} {r} {qt} {qb} (y:Way) (h:AG P f as pt pb r qt qb)
  (hc:Ds y.cv σ fun σ1=>Ac (bg y args as pt pb σ1) (Ci y.cv (σ1.after y qt qb) fun σ2=>K (σ2.put dst (bak y r)))) (hL:L=true:=by kernel_rfl) (hB:bf y as pt pb qt qb=true:=by kernel_rfl):Uj P L pos f args o dst σ K w wL:=lp y hL h hB hc
end
theorem Z {P Q:Prop} (h:Q) (e:Q→P:=by first|(intro h; simp only [go_sem]; exact h)|exact fun h=>h):P:=e h
attribute [go_sem] List.length_replicate
theorem AU {α:Type} {f:α→List D} {l:List α} {n:Int} {x:α} (h:at? l n=some x):(List.map f l)[n.toNat]? =some (f x):=by
 rw [List.getElem?_map,(Tg h).2]; rfl
def AB (n:Int):List D:=[.int .i64 n]
def u8D (n:Int):List D:=[.int .u8 n]
def BA (b:Bool):List D:=[.bool b]
def s6 (s:ByteArray):List D:=[.str s]
def slD {α:Type} (f:α→List D) (l:List α):List D:=[.sl (List.map f l)]
attribute [go_sem] AB u8D BA s6 slD List.map_cons List.map_nil List.length_map List.nodup_cons List.mem_cons List.not_mem_nil not_or or_false or_true true_or false_or not_false_eq_true
end Go.Proofs.YtclmbjbbojdojaaGreat.Ab
namespace Go.Proofs.YtclmbjbbojdojaaGreat.Ab
set_option linter.unusedVariables false
theorem Cu {α:Type} {f:α→List D} {sz:Nat} (h:∀x,(f x).length =sz∧∀d ∈ f x,d.flat=true) (l:List α):∀row ∈ List.map f l,row.length=sz∧∀d ∈ row,d.flat=true:=by
 grind
theorem So {α:Type} {f:α→List D} {sz:Nat} (h:∀x,(f x).length =sz) (l:List α):∀row ∈ List.map f l,row.length=sz:=by
 grind
theorem aM {α:Type} {f:α→List D} {sz:Nat} (h:∀x,(f x).length =sz∧∀d ∈ f x,d≠ .gone) (l:List α):∀row ∈ List.map f l,row.length=sz∧∀d ∈ row,d≠ .gone :=by
 grind
theorem jO {α:Type} {f g} (h:∀x,fzC (f x)=g x) (l:List α):fzR (List.map f l)=List.map g l:=by
 grind [fzR,List.map_congr_left]
theorem HX {α:Type} {f g} (h:∀x,erC (f x)=g x):∀l:List α,erR (List.map f l)=List.map g l
 | [] =>by rfl
 |x::xs=>by rw [List.map_cons,List.map_cons,erR,h x,HX h xs]
def D.ngb:D→Bool
 | .gone =>false
 |_=>true
theorem MF {ds:List D} (h:ds.all D.ngb=true):∀d ∈ ds,d≠ .gone :=fun d hd e=>by
 have:=List.all_eq_true.1 h d hd
 rw [e] at this; cases this
@[go_sem] theorem rZ:erR [] =[] :=by rfl
attribute [go_sem] rpS rpB JZ GX only X4
def pD {α:Type} (f:α→List D) (x:α):List D:=[.ptr (f x)]
attribute [go_sem] pD
def nop {α:Type} (f:α→List AV):Option α→AV
 |none=>.nilp
 |some x=>.rop (f x) 0
@[go_sem] theorem tV {α:Type} {f:α→List AV}:nop f none= .nilp :=rfl
@[go_sem] theorem tW {α:Type} {f:α→List AV} {x:α}:nop f (some x)= .rop (f x) 0:=rfl
def gA {α:Type} (f:α→List D):Option α→D
 |none=>.nilp
 |some x=>.ptr (f x)
structure NopOf {α:Type} (f:α→List D) (g:α→List AV):Prop where
 a:∀x,Tn (f x)=g x
 b:∀x,unDs (g x)=some (f x)
 c:∀x,E6 (g x)=true
section
variable {α:Type} {f:α→List D} {g:α→List AV} (h:NopOf f g) (o:Option α)
include h
theorem NopOf.of:ofD (gA f o)=nop g o:=by
 cases o
 ·rfl
 ·simp only [gA,nop,ofD,h.a]
theorem NopOf.un:unD (nop g o)=some (gA f o):=by
 cases o
 ·rfl
 ·simp only [gA,nop,unD,h.b,Option.map_some]
theorem NopOf.pu:Gc (nop g o)=true:=by
 cases o
 ·rfl
 ·simp only [nop,Gc,h.c]
theorem NopOf.cl {T B}:Ab.cl T B (nop g o)=some (nop g o):=bi (h.pu o)
theorem NopOf.toD {T}:Ab.toD T (nop g o)=some (gA f o):=by
 have:=h.un o
 cases o
 ·rfl
 grind [nop,Ab.toD]
end
theorem NopOf.mp {α:Type} {f:α→List D} {g:α→List AV} (_:NopOf f g) (o:Option α):AV.mp? (nop g o)=false:=by cases o <;> rfl
theorem NopOf.on {α:Type} {f:α→List D} {g:α→List AV} (_:NopOf f g) (o:Option α):AV.one (nop g o)=true:=by cases o <;> rfl
def slN {α:Type} (f:α→List D):List α→D
 | [] =>.nl
 |x::xs=>.sl (List.map f (x::xs))
@[go_sem] theorem rc {α:Type} {f:α→List D}:slN f [] = .nl :=rfl
theorem gB {α:Type} {f:α→List D} {l:List α} (h:l≠ []):slN f l= .sl (List.map f l):=by
 cases l
 ·exact absurd rfl h
 ·rfl
theorem bk {α:Type} {f:α→List D} {l:List α} {sz:Nat} (h:∀x,(f x).length =sz):X5 sz (slN f l)=some (List.map f l):=by
 cases l with
 |nil=>rfl
 |cons x l=>simp [slN,X5,h]
@[go_sem ↓ high] theorem s7 {α:Type} {f:α→List D} {l:List α} {t g} {p} {sz i j}:ofT t g p sz i j (slN f l)= .sub t g (p++[(sz,i,j)]):=by cases l <;> rfl
theorem pg {α:Type} {f:α→List D} {l:List α}:er (slN f l)= .sl (erR (List.map f l)):=by cases l <;> rfl
def snD {α:Type} (f:α→List D) (l:List α):List D:=[slN f l]
attribute [go_sem] snD
@[go_sem] theorem l0 {l}:erR (List.map AB l)=List.map AB l:=HX (fun _=>rfl) l
@[go_sem] theorem s8 {l:List (List Int)}:erR (List.map (snD AB) l)=List.map (slD AB) l:=HX (fun c=>by simp only [snD,slD,erC,pg,l0]) l
theorem QX {α:Type} {f:α→List D} (h:∀x,X6 (f x)=true):∀l:List α,Tw (List.map f l)=true
 | [] =>by rfl
 |x::xs=>by rw [List.map_cons,Tw,h x,QX h xs]; rfl
theorem jP (l:List Int):Tw (List.map AB l)=true:=QX (fun _=>rfl) l
theorem jQ {α:Type} {f:α→List D} {l:List α} {n:Int} {sz:Nat} {K:List D→Prop} {w:Wrap K} {x:α} {row:List D} (h:at? l n=some x) (hl:row.length=sz) (hk:K row):dg (List.set (List.map f l) n.toNat row) n sz K w:=by
 obtain⟨h0,h1⟩:=Tg h
 exact⟨row,⟨h0,FV (AU h),hl⟩,hk⟩
theorem gC {α:Type} {a b r:List α} {x:α} (h:a++x::b=r):r≠ [] :=fun e=>by
 rw [e] at h; simp at h
theorem s9 {α β:Type} {f:α→List D} {l:List α} {n:Int} {sz:Nat} {K:List D→Prop} {w:Wrap K} {k:α→Option β} {r:β} (h:Option.bind (at? l n) k=some r) (hl:∀x,(f x).length =sz) (hk:∀x,at? l n=some x→k x=some r→K (f x)):dg (List.map f l) n sz K w:=by
 obtain⟨x,h1,h2⟩:=AD h
 exact AO h1 (hl x) (hk x h1 h2)
theorem ph {α β:Type} {P:Program} {L:Bool} {pos:Nat} {σ:St} {dst} {f} {args} {bs bs'} {K} {w} {wL} {m:Option α} {k:α→Option β} {r:β} {rv:α→RV} (h:Option.bind m k=some r) (hc:∀u,m=some u→AC P f bs' (rv u)) (hb:PK bs bs') (hk:∀u,m=some u→k u=some r→BI (pos*16) fun j=>cv1 j (rv u) fun v ts=>Ac (DY σ ts) (K (σ.add dst ⟨v,ts,[]⟩))):Uj P L pos f args (some bs) dst σ K w wL:=by
 obtain⟨u,h1,h2⟩:=AD h
 exact AY (XL (hc u h1) hb) (hk u h1 h2)
theorem k1 {A:Prop} (a:A):A∧True:=⟨a,trivial⟩
theorem k2 {A B:Prop} (a:A) (b:B):A∧B∧True:=⟨a,b,trivial⟩
theorem k3 {A B C:Prop} (a:A) (b:B) (c:C):A∧B∧C∧True:=⟨a,b,c,trivial⟩
theorem k4 {A B C D:Prop} (a:A) (b:B) (c:C) (d:D):A∧B∧C∧D∧True:=⟨a,b,c,d,trivial⟩
theorem k5 {A B C D E:Prop} (a:A) (b:B) (c:C) (d:D) (e:E):A∧B∧C∧D∧E∧True:=⟨a,b,c,d,e,trivial⟩
theorem k6 {A B C D E F:Prop} (a:A) (b:B) (c:C) (d:D) (e:E) (f:F):A∧B∧C∧D∧E∧F∧True:=⟨a,b,c,d,e,f,trivial⟩
theorem k7 {A B C D E F G:Prop} (a:A) (b:B) (c:C) (d:D) (e:E) (f:F) (g:G):A∧B∧C∧D∧E∧F∧G∧True:=⟨a,b,c,d,e,f,g,trivial⟩
theorem k8 {A B C D E F G H:Prop} (a:A) (b:B) (c:C) (d:D) (e:E) (f:F) (g:G) (h:H):A∧B∧C∧D∧E∧F∧G∧H∧True:=⟨a,b,c,d,e,f,g,h,trivial⟩
def tT0 (v w:AV):List (Nat × Nat):=match v with
 | .own t=>(match w with| .own o=>[(t,o)] |_=>[])
 | .elt t _ _ _=>(match w with| .elt o _ _ _=>[(t,o)] |_=>[])
 |_=>[]
def tB0 (v w:AV):List (Nat × Nat):=match v with
 | .box b _=>(match w with| .box o _=>[(b,o)] |_=>[])
 | .bsl b _ _=>(match w with| .bsl o _ _=>[(b,o)] |_=>[])
 | .mpr b=>(match w with| .mpr o=>[(b,o)] |_=>[])
 |_=>[]
def zpA (f:AV→AV→List (Nat × Nat)):List AV→List AV→List (Nat × Nat)
 | [],_=>[]
 |_::_,[] =>[]
 |x::l,y::m=>f x y++zpA f l m
def tX1 (f:AV→AV→List (Nat × Nat)) (v w:AV):List (Nat × Nat):=match v with
 | .agg l=>(match w with| .agg m=>zpA f l m|_=>[])
 | .tup l=>(match w with| .tup m=>zpA f l m|_=>[])
 | .fn _ l=>(match w with| .fn _ m=>zpA f l m|_=>[])
 |_=>f v w
def tX2 (f:AV→AV→List (Nat × Nat)) (v w:AV):List (Nat × Nat):=match v with
 | .tup l=>(match w with| .tup m=>zpA (tX1 f) l m|_=>[])
 |_=>tX1 f v w
def onS (f:AV→AV→List (Nat × Nat)) (σ:St):List (Nat × AV)→List (Nat × Nat)
 | [] =>[]
 |(i,v)::l=>tX2 f v (σ.g i)++onS f σ l
def onB (f:AV→AV→List (Nat × Nat)) (σ:St) (rb:List (Nat × Nat)):List (Nat × Option (List AV))→List (Nat × Nat)
 | [] =>[]
 |(_,none)::l=>onB f σ rb l
 |(b,some vs)::l=>zpA (tX1 f) vs (((look rb b).bind σ.B).getD [])++onB f σ rb l
def pi (t:Nat):List (Nat × Nat):=if t<1000 then [(t,t)] else []
def pinned {α:Type}:List (Nat × α)→List (Nat × Nat)
 | [] =>[]
 |(t,_)::l=>pi t++pinned l
def pj (t o:Nat) (acc:List (Nat × Nat)):List (Nat × Nat):=if (look acc t).isSome =true then acc else (t,o)::acc
def uniq:List (Nat × Nat)→List (Nat × Nat)→List (Nat × Nat)
 | [],acc=>acc
 |(t,o)::l,acc=>uniq l (pj t o acc)
def mA (σ σ0:St):List (Nat × Nat):=uniq (onB tB0 σ (uniq (pinned σ0.b++onS tB0 σ σ0.s) []) σ0.b) (uniq (pinned σ0.b++onS tB0 σ σ0.s) [])
def pk (σ σ0:St) (rb:List (Nat × Nat)):List (Nat × Nat):=uniq (pinned σ0.t++(onS tT0 σ σ0.s++onB tT0 σ rb σ0.b)) []
attribute [go_sem] tT0 tB0 zpA tX1 tX2 onS onB pi pinned pj uniq mA pk List.cons_append List.nil_append List.append_nil Option.isSome_some Option.isSome_none Option.bind_some Option.bind_none Bool.false_eq_true
def Sp (σ σ0:St):Prop:=K7 (pk σ σ0 (mA σ σ0)) (mA σ σ0) σ σ0
attribute [go_sem] Sp
section
variable {P:Program} {σ:St} {Q:AE→St→Prop}
theorem tA {K} {w1} {w2} {σ1} {fn} {c} {l} {p} {r} {qt} {qb} (h:Dl P fn p r qt qb σ1) (hb:fn.body=some c:=by rfl) (hr:fn.results=l.toArray:=by rfl) (e:pos P c p (Ks P l r qt qb) σ1→K σ1:=by exact fun h=>h) (hw:Sp σ σ1:=by simp (maxSteps:=300000) only [go_sem]):Uh false K σ w1 w2:=s4 h _ _ hb hr e hw
theorem Um {b} {w1} {w2} {w3} {σ1} {fn} {c} {l} {p} {r} {qt} {qb} (h:Dl P fn p r qt qb σ1) (hb:fn.body=some c:=by rfl) (hr:fn.results=l.toArray:=by rfl) (e:pos P c p (Ks P l r qt qb) σ1→awp P (.loop b) Q σ1:=by exact fun h=>h) (hw:Sp σ σ1:=by simp (maxSteps:=300000) only [go_sem]):lpY P b Q σ w1 w2 w3:=lpG h _ _ hb hr e hw
theorem Sw {b} {w1} {w2} {σ1} {fn} {c} {l} {p} {r} {qt} {qb} (h:Dl P fn p r qt qb σ1) (hb:fn.body=some c:=by rfl) (hr:fn.results=l.toArray:=by rfl) (e:pos P c p (Ks P l r qt qb) σ1→awp P (.loop b) Q σ1:=by exact fun h=>h) (hw:Sp σ σ1:=by simp (maxSteps:=300000) only [go_sem]):Sl P b Q σ w1 w2:=loG h _ _ hb hr e hw
theorem mB {K} {w1} {w2} {σ1} {fn} {c} {l} {p} {r} (h:Aa P fn p r σ1) (hb:fn.body=some c:=by rfl) (hr:fn.results=l.toArray:=by rfl) (e:pos P c p (endX P l r) σ1→K σ1:=by exact fun h=>h) (hw:Sp σ σ1:=by simp (maxSteps:=300000) only [go_sem]):Uh false K σ w1 w2:=s5 h _ _ hb hr e hw
theorem tB {b} {w1} {w2} {w3} {σ1} {fn} {c} {l} {p} {r} (h:Aa P fn p r σ1) (hb:fn.body=some c:=by rfl) (hr:fn.results=l.toArray:=by rfl) (e:pos P c p (endX P l r) σ1→awp P (.loop b) Q σ1:=by exact fun h=>h) (hw:Sp σ σ1:=by simp (maxSteps:=300000) only [go_sem]):lpY P b Q σ w1 w2 w3:=lpF h _ _ hb hr e hw
theorem tC {b} {w1} {w2} {σ1} {fn} {c} {l} {p} {r} (h:Aa P fn p r σ1) (hb:fn.body=some c:=by rfl) (hr:fn.results=l.toArray:=by rfl) (e:pos P c p (endX P l r) σ1→awp P (.loop b) Q σ1:=by exact fun h=>h) (hw:Sp σ σ1:=by simp (maxSteps:=300000) only [go_sem]):Sl P b Q σ w1 w2:=loF h _ _ hb hr e hw
theorem tD {r v} {qt} {qb} (h:Sp ⟨[(0,v)],σ.t,σ.b⟩ ⟨[(0,r)],MT qt,MU qb⟩:=by simp (maxSteps:=300000) only [go_sem]):aJ r qt qb v σ:=f8 (.done _) _ _ h
theorem tE {α β:Type} {f:α→List D} {l:List α} {n:Int} {K:List D→Prop} {w:Wrap K} {k:α→Option β} {r:β} (h:Option.bind (at? l n) k=some r) (hk:∀x,at? l n=some x→k x=some r→K (f x)):dM ((List.map f l)[n.toNat]?) K w:=by
 obtain⟨x,h1,h2⟩:=AD h
 exact Ai (AU h1) (hk x h1 h2)
end
theorem AF {p M:Prop} {C:Prop} (c:C) (h:M) (e:C→M→p:=by
 intro c h
 repeat' first
  |((with_reducible show Uh _ _ _ _ _); first|exact mB (by with_reducible first|(apply c.1; exact h)|(apply c.2.1; exact h)|(apply c.2.2.1; exact h)|(apply c.2.2.2.1; exact h)|(apply c.2.2.2.2.1; exact h)|(apply c.2.2.2.2.2.1; exact h)|(apply c.2.2.2.2.2.2.1; exact h)|(apply c.2.2.2.2.2.2.2.1; exact h))|exact tA (by with_reducible first|(apply c.1; exact h)|(apply c.2.1; exact h)|(apply c.2.2.1; exact h)|(apply c.2.2.2.1; exact h)|(apply c.2.2.2.2.1; exact h)|(apply c.2.2.2.2.2.1; exact h)|(apply c.2.2.2.2.2.2.1; exact h)|(apply c.2.2.2.2.2.2.2.1; exact h))|refine AW ?_)
  |((with_reducible show lpY _ _ _ _ _ _ _); first|exact tB (by with_reducible first|(apply c.1; exact h)|(apply c.2.1; exact h)|(apply c.2.2.1; exact h)|(apply c.2.2.2.1; exact h)|(apply c.2.2.2.2.1; exact h)|(apply c.2.2.2.2.2.1; exact h)|(apply c.2.2.2.2.2.2.1; exact h)|(apply c.2.2.2.2.2.2.2.1; exact h))|exact Um (by with_reducible first|(apply c.1; exact h)|(apply c.2.1; exact h)|(apply c.2.2.1; exact h)|(apply c.2.2.2.1; exact h)|(apply c.2.2.2.2.1; exact h)|(apply c.2.2.2.2.2.1; exact h)|(apply c.2.2.2.2.2.2.1; exact h)|(apply c.2.2.2.2.2.2.2.1; exact h)))
  |((with_reducible show Sl _ _ _ _ _ _); first|exact tC (by with_reducible first|(apply c.1; exact h)|(apply c.2.1; exact h)|(apply c.2.2.1; exact h)|(apply c.2.2.2.1; exact h)|(apply c.2.2.2.2.1; exact h)|(apply c.2.2.2.2.2.1; exact h)|(apply c.2.2.2.2.2.2.1; exact h)|(apply c.2.2.2.2.2.2.2.1; exact h))|exact Sw (by with_reducible first|(apply c.1; exact h)|(apply c.2.1; exact h)|(apply c.2.2.1; exact h)|(apply c.2.2.2.1; exact h)|(apply c.2.2.2.2.1; exact h)|(apply c.2.2.2.2.2.1; exact h)|(apply c.2.2.2.2.2.2.1; exact h)|(apply c.2.2.2.2.2.2.2.1; exact h))|refine Ae (Z ?_))
  |((with_reducible show Ug _ _ _ _ _); (with_reducible have hh:ite _ _ _=_:=h); clear hh; refine AJ h (fun h=>Z ?_) (fun h=>Z ?_))
  |((with_reducible show dg _ _ _ _ _); first|((with_reducible have hh:Option.bind _ _=_:=h); clear hh; refine s9 h (fun _=>rfl) (fun u w h=>Z ?_))|refine AO (by assumption) rfl (Z ?_))
  |((with_reducible show dM _ _ _); first|refine Ai (AU (by assumption)) (Z ?_)|((with_reducible have hh:Option.bind _ _=_:=h); clear hh; refine tE h (fun u w h=>Z ?_)))
  |((with_reducible show Uj _ _ _ _ _ _ _ _ _ _ _); first|((with_reducible have hh:Option.bind _ _=_:=h); clear hh; refine ph h (by with_reducible first|exact c.1 |exact c.1 _|exact c.1 _ _|exact c.1 _ _ _|exact c.1 _ _ _ _|exact c.1 _ _ _ _ _|exact c.2.1 |exact c.2.1 _|exact c.2.1 _ _|exact c.2.1 _ _ _|exact c.2.1 _ _ _ _|exact c.2.1 _ _ _ _ _|exact c.2.2.1 |exact c.2.2.1 _|exact c.2.2.1 _ _|exact c.2.2.1 _ _ _|exact c.2.2.1 _ _ _ _|exact c.2.2.1 _ _ _ _ _|exact c.2.2.2.1 |exact c.2.2.2.1 _|exact c.2.2.2.1 _ _|exact c.2.2.2.1 _ _ _|exact c.2.2.2.1 _ _ _ _|exact c.2.2.2.1 _ _ _ _ _|exact c.2.2.2.2.1 |exact c.2.2.2.2.1 _|exact c.2.2.2.2.1 _ _|exact c.2.2.2.2.1 _ _ _|exact c.2.2.2.2.1 _ _ _ _|exact c.2.2.2.2.1 _ _ _ _ _|exact c.2.2.2.2.2.1 |exact c.2.2.2.2.2.1 _|exact c.2.2.2.2.2.1 _ _|exact c.2.2.2.2.2.1 _ _ _|exact c.2.2.2.2.2.1 _ _ _ _|exact c.2.2.2.2.2.1 _ _ _ _ _|exact c.2.2.2.2.2.2.1 |exact c.2.2.2.2.2.2.1 _|exact c.2.2.2.2.2.2.1 _ _|exact c.2.2.2.2.2.2.1 _ _ _|exact c.2.2.2.2.2.2.1 _ _ _ _|exact c.2.2.2.2.2.2.1 _ _ _ _ _|exact c.2.2.2.2.2.2.2.1 |exact c.2.2.2.2.2.2.2.1 _|exact c.2.2.2.2.2.2.2.1 _ _|exact c.2.2.2.2.2.2.2.1 _ _ _|exact c.2.2.2.2.2.2.2.1 _ _ _ _|exact c.2.2.2.2.2.2.2.1 _ _ _ _ _) (by repeat' first|exact PK.nil|refine PK.cons (by first|exact Sub.refl _|exact Sub.rop rfl) ?_) (fun u w h=>Z ?_))|refine AY (XL (by with_reducible first|(apply c.1; assumption)|(apply c.2.1; assumption)|(apply c.2.2.1; assumption)|(apply c.2.2.2.1; assumption)|(apply c.2.2.2.2.1; assumption)|(apply c.2.2.2.2.2.1; assumption)|(apply c.2.2.2.2.2.2.1; assumption)|(apply c.2.2.2.2.2.2.2.1; assumption)) (by repeat' first|exact PK.nil|refine PK.cons (by first|exact Sub.refl _|exact Sub.rop rfl) ?_)) (Z ?_))
  |((with_reducible show aJ _ _ _ _ _); cases h; exact tD)
  |(cases h; simp only [go_sem]; done)
  |refine Ah rfl rfl (Z ?_)
  |refine BO rfl rfl (Z ?_)
  |refine CT [] .fin (by kernel_rfl) (Z ?_)):p:=e c h
end Go.Proofs.YtclmbjbbojdojaaGreat.Ab
