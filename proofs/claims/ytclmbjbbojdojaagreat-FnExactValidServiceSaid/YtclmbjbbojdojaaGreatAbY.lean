/-
  The abstract walk: places in a function's text, values that name nothing of the call's own, steps of models.
-/
import Derived.Test.YtclmbjbbojdojaaGreatAbV
namespace Go.Proofs.YtclmbjbbojdojaaGreat.Ab
set_option linter.unusedVariables false
set_option maxHeartbeats 1000000
open Go.RowKit
def pos (P:Program):Code→List Nat→(AE→St→Prop)→St→Prop
 |c,[],Q=>awp P c Q
 | .seq a b,0::p,Q=>pos P a p (AE.then (dd (I7 a) (awp P b Q)) Q)
 | .seq a b,_::p,Q=>pos P b p Q
 | .cond _ a b,0::p,Q=>pos P a p Q
 | .cond _ a b,_::p,Q=>pos P b p Q
 | .block id c,_::p,Q=>pos P c p (AE.inBlock id Q)
 | .loop c,_::p,Q=>pos P c p (AE.then (lpX P c Q) Q)
 |_,_,_=>fun _=>False
def Ac (P:Program) (fn:Func) (p:List Nat) (r:RV) (σ:St):Prop:=pos P (fn.body.getD .skip) p (endX P fn.results.toList r) σ
def cU (r:AV) (qt:List (Nat × Tok)) (qb:List (Nat × List AV)) (v:AV) (σ:St):Prop:=Wk ⟨[(0,v)],σ.t,σ.b⟩ ⟨[(0,r)],Li qt,Lj qb⟩
def UQ (r:AV) (qt:List (Nat × Tok)) (qb:List (Nat × List AV)) (σ:St) (vs:List AV):Prop:=cU r qt qb (oneA vs) σ
@[go_sem ↓] theorem ly {r} {qt} {qb} {σ}:UQ r qt qb σ [] =cU r qt qb (.tup []) σ:=rfl
@[go_sem ↓] theorem lz {r v} {qt} {qb} {σ}:UQ r qt qb σ [v] =cU r qt qb v σ:=rfl
@[go_sem ↓] theorem l0 {r v u} {vs} {qt} {qb} {σ}:UQ r qt qb σ (v::u::vs)=cU r qt qb (.tup (v::u::vs)) σ:=rfl
def Lm (P:Program) (l:List ResultVar) (r:AV) (qt:List (Nat × Tok)) (qb:List (Nat × List AV)) (q:AE) (σ:St):Prop:=match q with| .exit _=>False|_=>Mi P σ l (UQ r qt qb σ)
@[go_sem ↓] theorem gF {P} {l} {r} {qt} {qb} {σ}:Lm P l r qt qb .normal σ=Mi P σ l (UQ r qt qb σ):=rfl
@[go_sem ↓] theorem mA {P} {l} {r} {qt} {qb} {σ}:Lm P l r qt qb .ret σ=Mi P σ l (UQ r qt qb σ):=rfl
theorem Hb {r v} {qt} {qb} {σ σ1} (hn:Nils ⟨[(0,v)],σ.t,σ.b⟩ σ1) (rt rb:List (Nat × Nat)) (h:Kd rt rb σ1 ⟨[(0,r)],Li qt,Lj qb⟩):cU r qt qb v σ:=.one ⟨σ1,hn,rt,rb,h⟩
attribute [go_sem] Li Lj stG az a5 oneA
theorem mB {P} (hm:P.follows .mixedOrders =true) {f} {fn} {c} {l} {args} {pt} {pb} {r} {qt} {qb} (hf:P.funcs[f]? =some fn) (hb:fn.body=some c) (hr:fn.results=l.toArray) (hnm:(fn.name == "runtime.NumGoroutine")=false)
  (hn:decide (args.length≤fn.ntmps)=true) (hok:GM fn.ntmps c=true) (h:awp P c (Lm P l r qt qb) (stG args pt pb)):AG P f args pt pb r qt qb:=by
 refine Xs hm hf hb hnm (of_decide_eq_true hn) hok ?_
 have e:endG P fn.results.toList r qt qb=Lm P l r qt qb:=by
  rw [hr]
  funext q σ
  cases q <;> rfl
 rw [e]
 exact h
def F5 (P:Program) (fn:Func) (p:List Nat) (r:AV) (qt:List (Nat × Tok)) (qb:List (Nat × List AV)) (σ:St):Prop:=pos P (fn.body.getD .skip) p (Lm P fn.results.toList r qt qb) σ
section
variable {P:Program} {σ:St} {Q:AE→St→Prop}
theorem Cs {fn} {c} {l} {p} {r} {qt} {qb} (hb:fn.body=some c) (hr:fn.results=l.toArray) (h:pos P c p (Lm P l r qt qb) σ):F5 P fn p r qt qb σ:=by
 grind [F5]
theorem Ik {fn} {c} {l} {p} {r} {qt} {qb} (hb:fn.body=some c) (hr:fn.results=l.toArray) (h:F5 P fn p r qt qb σ):pos P c p (Lm P l r qt qb) σ:=by
 grind [F5]
theorem AR {fn} {c} {l} {p} {r} (hb:fn.body=some c) (hr:fn.results=l.toArray) (h:pos P c p (endX P l r) σ):Ac P fn p r σ:=by
 grind [Ac]
theorem Ck {fn} {c} {l} {p} {r} (hb:fn.body=some c) (hr:fn.results=l.toArray) (h:Ac P fn p r σ):pos P c p (endX P l r) σ:=by
 grind [Ac]
@[go_sem ↓] theorem oD {c}:pos P c [] Q σ=awp P c Q σ:=by cases c <;> rfl
@[go_sem ↓] theorem mC {a b} {p}:pos P (.seq a b) (0::p) Q σ=pos P a p (AE.then (dd (I7 a) (awp P b Q)) Q) σ:=rfl
@[go_sem ↓] theorem mD {a b} {p}:pos P (.seq a b) (1::p) Q σ=pos P b p Q σ:=rfl
@[go_sem ↓] theorem j6 {c} {a b} {p}:pos P (.cond c a b) (0::p) Q σ=pos P a p Q σ:=rfl
@[go_sem ↓] theorem j7 {c} {a b} {p}:pos P (.cond c a b) (1::p) Q σ=pos P b p Q σ:=rfl
@[go_sem ↓] theorem j8 {id} {c} {p}:pos P (.block id c) (0::p) Q σ=pos P c p (AE.inBlock id Q) σ:=rfl
@[go_sem ↓] theorem mE {c} {p}:pos P (.loop c) (0::p) Q σ=pos P c p (AE.then (lpX P c Q) Q) σ:=rfl
theorem iV {c} {σ σ1} (hw:Wk σ σ1) (h:awp P (.loop c) Q σ1):awp P (.loop c) Q σ:=by
 rw [awp] at h ⊢
 intro L hL
 obtain⟨σ0,h1,h2⟩:=h L hL
 exact⟨σ0,hw.trans h1,h2⟩
theorem DW {b} {w1} {w2} {σ1} (h:awp P (.loop b) Q σ1) (hw:Wk σ σ1):ST P b Q σ w1 w2:=iV hw h
end
mutual
theorem X0 {rt rb}:∀ {a},Fi a=true→GP rt rb a=true∧ren rt rb a=a
 | .int _ _,_=>⟨rfl,rfl⟩
 | .bool _,_=>⟨rfl,rfl⟩
 | .str _,_=>⟨rfl,rfl⟩
 | .ro _,_=>⟨rfl,rfl⟩
 | .nilp,_=>⟨rfl,rfl⟩
 | .rop vs off,h=>by
  simp only [Fi] at h
  obtain⟨h1,h2⟩:=Gr (rt:=rt) (rb:=rb) h
  simp only [GP,ren]
  exact⟨h1,by rw [h2]⟩
 | .fn f vs,h=>by
  simp only [Fi] at h
  obtain⟨h1,h2⟩:=Gr (rt:=rt) (rb:=rb) h
  simp only [GP,ren]
  exact⟨h1,by rw [h2]⟩
 | .agg vs,h=>by
  simp only [Fi] at h
  obtain⟨h1,h2⟩:=Gr (rt:=rt) (rb:=rb) h
  simp only [GP,ren]
  exact⟨h1,by rw [h2]⟩
theorem Gr {rt rb}:∀ {as},EN as=true→HD rt rb as=true∧rens rt rb as=as
 | [],_=>⟨rfl,rfl⟩
 |a::as,h=>by
  simp only [EN,Bool.and_eq_true] at h
  obtain⟨h1,h2⟩:=X0 (rt:=rt) (rb:=rb) h.1
  obtain⟨h3,h4⟩:=Gr (rt:=rt) (rb:=rb) h.2
  simp only [HD,rens,h1,h2,h3,h4,Bool.and_self,and_self]
end
mutual
theorem Yt {T} {B}:∀ {a},Fi a=true→cl T B a=some a
 | .int _ _,_=>rfl
 | .bool _,_=>rfl
 | .str _,_=>rfl
 | .ro _,_=>rfl
 | .nilp,_=>rfl
 | .rop vs off,h=>by simp only [Fi] at h; simp only [cl,JJ h,Option.map_some]
 | .fn f vs,h=>by simp only [Fi] at h; simp only [cl,JJ h,Option.map_some]
 | .agg vs,h=>by simp only [Fi] at h; simp only [cl,JJ h,Option.map_some]
theorem JJ {T} {B}:∀ {as},EN as=true→cls T B as=some as
 | [],_=>rfl
 |a::as,h=>by
  simp only [EN,Bool.and_eq_true] at h
  simp only [cls,Yt h.1,JJ h.2]
end
structure Still (vs:List AV):Prop where
 p:EN vs=true
 o:Mt vs=true
 k:∀rt rb,HD rt rb vs=true
 r:∀rt rb,rens rt rb vs=vs
 c:∀T B,cls T B vs=some vs
 f:∀T B as,cls T B (fnA vs as)=(cls T B as).map (fnA vs)
theorem Nh {T} {B}:∀ {as bs:List AV},cls T B (as++bs)=(cls T B as).bind fun xs=>(cls T B bs).map fun ys=>xs++ys
 | [],bs=>by simp only [List.nil_append,cls,Option.bind_some]; cases cls T B bs <;> rfl
 | a::as,bs=>by
  simp only [List.cons_append,cls,Nh (as:=as)]
  cases cl T B a with
  |none=>simp
  |some x=>
   cases cls T B as with
   |none=>simp
   |some xs=>cases cls T B bs <;> simp
theorem fF {vs} (h:EN vs=true) (T B as):cls T B (fnA vs as)=(cls T B as).map (fnA vs):=by
 have h0:∀ {us},EN us=true→cls T B (as++us)=(cls T B as).map (· ++us):=fun hu=>by
  rw [Nh,JJ hu]; cases cls T B as <;> rfl
 unfold fnA
 split
 ·rename_i fs cs
  simp only [EN,Fi,Bool.and_eq_true] at h
  rw [Nh,JJ h.1,h0 h.2]
  cases cls T B as <;> rfl
 grind
theorem Still.of {vs} (h:EN vs=true) (ho:Mt vs=true:=by rfl):Still vs:=⟨h,ho,fun _ _=>(Gr h).1,fun _ _=>(Gr h).2,fun _ _=>JJ h,fF h⟩
def Sub (a b:AV):Prop:=∀w γ v,VSim w γ a v→VSim w γ b v
theorem Sub.refl (a:AV):Sub a a:=fun _ _ _ h=>h
theorem Sub.rop {vs us} {off} (h:(vs.drop off).take us.length=us):Sub (.rop vs off) (.rop us 0):=fun w γ v hv=>by
 simp only [VSim] at hv ⊢
 obtain⟨b,o,xs,rfl,h1,h2⟩:=hv
 refine⟨b,o+off,(xs.drop off).take us.length,rfl,?_,fun j u hu=>?_⟩
 ·have:=h1.take_drop off us.length
  grind [Fa]
 grind
def TK:List AV→List AV→Prop
 | [],[] =>True
 |a::as,b::bs=>Sub a b∧TK as bs
 |_,_=>False
theorem TK.nil:TK [] [] :=trivial
theorem TK.cons {a b} {as bs} (h:Sub a b) (k:TK as bs):TK (a::as) (b::bs):=⟨h,k⟩
theorem TK.vsims {w} {γ}:∀ {as bs} {us},TK as bs→AF w γ as us→AF w γ bs us
 | [],[],us,_,h=>h
 |a::as,b::bs,us,h,hv=>by
  simp only [AF] at hv ⊢
  obtain⟨u,us',rfl,h1,h2⟩:=hv
  exact⟨u,us',rfl,h.1 _ _ _ h1,TK.vsims h.2 h2⟩
 | [],_::_,_,h,_=>h.elim
 |_::_,[],_,h,_=>h.elim
theorem As {P} {f} {as bs} {r} (k:AC P f bs r) (h:TK as bs):AC P f as r:=
 ⟨k.1,fun w us h1 h2 ha h3=>k.2 w us h1 h2 ha (h.vsims h3)⟩
def keyI (k:List Int):List D:=k.map fun n=>.int .i64 n
def Hk (p:List Int × Int):List D:=[.ptr (keyI p.1),.int .i64 p.2]
def Dl {β:Type}:List (List Int × β)→List Int→Option β
 | [],_=>none
 |p::l,k=>if k=p.1 then some p.2 else Dl l k
def IU {β:Type}:List (List Int × β)→List Int→β→List (List Int × β)
 | [],k,v=>[(k,v)]
 |p::l,k,v=>if k=p.1 then (k,v)::l else p::IU l k v
def Ni {β:Type} (l:List (List Int × β)) (k:List Int) (v:β):Option (List (List Int × β)):=if l.length<68719476736 then some (IU l k v) else none
theorem X1 {β:Type} {l r:List (List Int × β)} {k:List Int} {v:β} (h:Ni l k v=some r):l.length<68719476736∧IU l k v=r:=by
 unfold Ni at h
 split at h
 ·exact⟨by assumption,Option.some.inj h⟩
 ·cases h
theorem UR:∀ {k k':List Int},Ic (keyI k) (keyI k')=decide (k=k')
 | [],[] =>rfl
 | [],n::k'=>rfl
 |n::k,[] =>rfl
 |n::k,n'::k'=>by
  have:=UR (k:=k) (k':=k')
  show (IntKind.i64 == IntKind.i64&&decide (n=n')&&Ic (keyI k) (keyI k'))=_
  rw [this]
  by_cases h1:n=n' <;> by_cases h2:k=k' <;> simp [h1,h2]
theorem US {k k':List Int}:Gl (.ptr (keyI k)) (.ptr (keyI k'))=decide (k=k'):=UR
theorem SW {l} {k}:GJ (.ptr (keyI k)) (List.map Hk l)=(Dl l k).map (D.int .i64):=by
 induction l with
 |nil=>rfl
 |cons p l ih=>
  show (if Gl (.ptr (keyI k)) (.ptr (keyI p.1))=true then some (D.int .i64 p.2) else GJ (.ptr (keyI k)) (List.map Hk l))=_
  rw [US,ih,Dl]
  by_cases h:k=p.1 <;> simp [h]
theorem aF {l} {k v}:mput (.ptr (keyI k)) (.int .i64 v) (List.map Hk l)=List.map Hk (IU l k v):=by
 induction l with
 |nil=>rfl
 |cons p l ih=>
  show (if Gl (.ptr (keyI k)) (.ptr (keyI p.1))=true then [D.ptr (keyI k),.int .i64 v] ::List.map Hk l else Hk p::mput (.ptr (keyI k)) (.int .i64 v) (List.map Hk l))=_
  rw [US,ih,IU]
  by_cases h:k=p.1
  ·simp [h,Hk]
  ·simp [h]
@[go_sem] theorem gG {l} {a b c:Int}:GJ (.ptr [.int .i64 a,.int .i64 b,.int .i64 c]) (List.map Hk l)=(Dl l [a,b,c]).map (D.int .i64):=SW (k:=[a,b,c])
@[go_sem] theorem pO {o:Option Int} {z:Int}:((o.map (D.int .i64)).map ofD).getD (.int .i64 z)= .int .i64 (o.getD z):=by cases o <;> rfl
@[irreducible] def fuel:Nat:=4611686018427387904
theorem Ar:fuel=4611686018427387904:=by grind [fuel]
def at? {α:Type} (l:List α) (i:Int):Option α:=if 0≤i then l[i.toNat]? else none
def IV {α:Type} (a b:List α):Option (List α):=if a.length+b.length≤68719476736 then some (a++b) else none
def rep? {α:Type} (n:Int) (z:α):Option (List α):=if 0≤n∧n≤68719476736 then some (List.replicate n.toNat z) else none
def iW {α:Type} (l:List α) (i:Int) (x:α):List α:=l.set i.toNat x
def Hc {α:Type} (l:List α) (i:Int) (x:α):Option (List α):=some (iW l i x)
theorem D8 {α:Type} {l:List α} {i:Int} {x:α} {r:List α} (h:Hc l i x=some r):l.set i.toNat x=r:=Option.some.inj h
def nz? (b:Int):Option Unit:=if b=0 then none else some ()
theorem Oj {b} {u} (h:nz? b=some u):b≠0:=by
 grind [nz?]
theorem AD {α β:Type} {x:Option α} {k:α→Option β} {r:β} (h:Option.bind x k=some r):∃v,x=some v∧k v=some r:=by
 cases x with
 |none=>cases h
 |some v=>grind
theorem ifT {α:Type} {c:Bool} {a b r:α} (hb:c=true) (h:(if c=true then a else b)=r):a=r:=by rw [if_pos hb] at h; exact h
theorem ifF {α:Type} {c:Bool} {a b r:α} (hb:c=false) (h:(if c=true then a else b)=r):b=r:=by grind
theorem AH {b:Bool} {p q:Prop} {w:Wrap p} {w':Wrap q} {α:Type} {x y r:α} (h:(if b=true then x else y)=r) (hp:x=r→p) (hq:y=r→q):SS b p q w w':=⟨fun e=>hp (ifT e h),fun e=>hq (ifF e h)⟩
theorem U5 {α:Type} {l:List α} {i:Int} {x:α} (h:at? l i=some x):0≤i∧l[i.toNat]? =some x:=by
 grind [at?]
theorem B8 {α:Type} {a b l:List α} (h:IV a b=some l):a.length+b.length≤68719476736∧a++b=l:=by
 grind [IV]
theorem EF {α:Type} {n:Int} {z:α} {l:List α} (h:rep? n z=some l):0≤n∧n≤68719476736∧List.replicate n.toNat z=l:=by
 grind [rep?]
theorem Ad {α:Type} {f:α→List D} {l:List α} {n:Int} {sz:Nat} {K:List D→Prop} {w:Wrap K} {x:α} (h:at? l n=some x) (hl:(f x).length =sz) (hk:K (f x)):cL (List.map f l) n sz K w:=by
 obtain⟨h0,h1⟩:=U5 h
 exact⟨f x,⟨h0,by rw [List.getElem?_map,h1]; rfl,hl⟩,hk⟩
theorem Yu {α:Type} {f:α→List D} {l:List α} {n:Int} {sz s0:Nat} {d y:D} {ys:List D} {K:List D→Prop} {w:Wrap K} {x:α} (h:at? l n=some x) (hy:f x=y::ys) (hl:ys.length+1=sz) (hk:K (d::ys)):cL (putR [(s0,n.toNat,0)] (List.map f l) d) n sz K w:=by
 obtain⟨h0,h1⟩:=U5 h
 have hr:(List.map f l)[n.toNat]? =some (y::ys):=by rw [List.getElem?_map,h1,← hy]; rfl
 have hlt:n.toNat<(List.map f l).length :=(List.getElem?_eq_some_iff.1 hr).1
 refine⟨d::ys,⟨h0,?_,hl⟩,hk⟩
 rw [U4 (d':=y) hr rfl,List.getElem?_set_self hlt]
 rfl
@[go_sem] def r3 (a b:Nat) (l:List (Nat × Nat)):List (Nat × Nat):=(a,b)::(a+1,b+1)::(a+2,b+2)::l
@[go_sem] def r4 (a b:Nat) (l:List (Nat × Nat)):List (Nat × Nat):=(a,b)::r3 (a+1) (b+1) l
@[go_sem] def r5 (a b:Nat) (l:List (Nat × Nat)):List (Nat × Nat):=(a,b)::r4 (a+1) (b+1) l
@[go_sem] def r6 (a b:Nat) (l:List (Nat × Nat)):List (Nat × Nat):=(a,b)::r5 (a+1) (b+1) l
@[go_sem] def r7 (a b:Nat) (l:List (Nat × Nat)):List (Nat × Nat):=(a,b)::r6 (a+1) (b+1) l
@[go_sem] def r8 (a b:Nat) (l:List (Nat × Nat)):List (Nat × Nat):=(a,b)::r7 (a+1) (b+1) l
@[go_sem] def r9 (a b:Nat) (l:List (Nat × Nat)):List (Nat × Nat):=(a,b)::r8 (a+1) (b+1) l
@[go_sem] def r10 (a b:Nat) (l:List (Nat × Nat)):List (Nat × Nat):=(a,b)::r9 (a+1) (b+1) l
@[go_sem] def r11 (a b:Nat) (l:List (Nat × Nat)):List (Nat × Nat):=(a,b)::r10 (a+1) (b+1) l
@[go_sem] def r12 (a b:Nat) (l:List (Nat × Nat)):List (Nat × Nat):=(a,b)::r11 (a+1) (b+1) l
@[go_sem] def r13 (a b:Nat) (l:List (Nat × Nat)):List (Nat × Nat):=(a,b)::r12 (a+1) (b+1) l
@[go_sem] def r14 (a b:Nat) (l:List (Nat × Nat)):List (Nat × Nat):=(a,b)::r13 (a+1) (b+1) l
@[go_sem] def r15 (a b:Nat) (l:List (Nat × Nat)):List (Nat × Nat):=(a,b)::r14 (a+1) (b+1) l
@[go_sem] def r16 (a b:Nat) (l:List (Nat × Nat)):List (Nat × Nat):=(a,b)::r15 (a+1) (b+1) l
section
variable {P:Program} {σ:St} {Q:AE→St→Prop}
theorem Bf {K} {w1} {w2} {σ1} {fn} {c} {l} {p} {r} {qt} {qb} (h:F5 P fn p r qt qb σ1) (rt rb:List (Nat × Nat)) (hb:fn.body=some c:=by rfl) (hr:fn.results=l.toArray:=by rfl) (e:pos P c p (Lm P l r qt qb) σ1→K σ1:=by exact fun h=>h) (hw:Kd rt rb σ σ1:=by simp only [go_sem]):TH false K σ w1 w2:=bZ (e (Ik hb hr h)) (.one ⟨_,.done _,rt,rb,hw⟩)
theorem lpG {b} {w1} {w2} {w3} {σ1} {fn} {c} {l} {p} {r} {qt} {qb} (h:F5 P fn p r qt qb σ1) (rt rb:List (Nat × Nat)) (hb:fn.body=some c:=by rfl) (hr:fn.results=l.toArray:=by rfl) (e:pos P c p (Lm P l r qt qb) σ1→awp P (.loop b) Q σ1:=by exact fun h=>h) (hw:Kd rt rb σ σ1:=by simp only [go_sem]):lpY P b Q σ w1 w2 w3:=My (e (Ik hb hr h)) (.one ⟨_,.done _,rt,rb,hw⟩)
theorem loG {b} {w1} {w2} {σ1} {fn} {c} {l} {p} {r} {qt} {qb} (h:F5 P fn p r qt qb σ1) (rt rb:List (Nat × Nat)) (hb:fn.body=some c:=by rfl) (hr:fn.results=l.toArray:=by rfl) (e:pos P c p (Lm P l r qt qb) σ1→awp P (.loop b) Q σ1:=by exact fun h=>h) (hw:Kd rt rb σ σ1:=by simp only [go_sem]):ST P b Q σ w1 w2:=DW (e (Ik hb hr h)) (.one ⟨_,.done _,rt,rb,hw⟩)
theorem ES {K} {w1} {w2} {σ1} {fn} {c} {l} {p} {r} (h:Ac P fn p r σ1) (rt rb:List (Nat × Nat)) (hb:fn.body=some c:=by rfl) (hr:fn.results=l.toArray:=by rfl) (e:pos P c p (endX P l r) σ1→K σ1:=by exact fun h=>h) (hw:Kd rt rb σ σ1:=by simp only [go_sem]):TH false K σ w1 w2:=bZ (e (Ck hb hr h)) (.one ⟨_,.done _,rt,rb,hw⟩)
theorem lpF {b} {w1} {w2} {w3} {σ1} {fn} {c} {l} {p} {r} (h:Ac P fn p r σ1) (rt rb:List (Nat × Nat)) (hb:fn.body=some c:=by rfl) (hr:fn.results=l.toArray:=by rfl) (e:pos P c p (endX P l r) σ1→awp P (.loop b) Q σ1:=by exact fun h=>h) (hw:Kd rt rb σ σ1:=by simp only [go_sem]):lpY P b Q σ w1 w2 w3:=My (e (Ck hb hr h)) (.one ⟨_,.done _,rt,rb,hw⟩)
theorem loF {b} {w1} {w2} {σ1} {fn} {c} {l} {p} {r} (h:Ac P fn p r σ1) (rt rb:List (Nat × Nat)) (hb:fn.body=some c:=by rfl) (hr:fn.results=l.toArray:=by rfl) (e:pos P c p (endX P l r) σ1→awp P (.loop b) Q σ1:=by exact fun h=>h) (hw:Kd rt rb σ σ1:=by simp only [go_sem]):ST P b Q σ w1 w2:=DW (e (Ck hb hr h)) (.one ⟨_,.done _,rt,rb,hw⟩)
theorem AL {K} {w1} {w2} {q:Prop} (h:q) (e:q→K σ:=by first|(intro h; simp only [go_sem]; exact h)|exact fun h=>h):TH false K σ w1 w2:=BF (e h)
theorem acF {f} {c} {l} {args} {r} {fn} (hf:P.funcs[f]? =some fn) (hm:P.follows .mixedOrders =true) (hb:fn.body=some c:=by rfl) (hr:fn.results=l.toArray:=by rfl) (hnm:(fn.name == "runtime.NumGoroutine")=false:=by rfl)
  (hn:decide (args.length≤fn.ntmps)=true:=by kernel_rfl) (hok:GM fn.ntmps c=true:=by kernel_rfl) (h:awp P c (endX P l r) (st0 args)):AC P f args r:=lU hm hf hb hr hnm hn hok h
theorem agF {f} {c} {l} {args} {pt} {pb} {r} {qt} {qb} {fn} (hf:P.funcs[f]? =some fn) (hm:P.follows .mixedOrders =true) (hb:fn.body=some c:=by rfl) (hr:fn.results=l.toArray:=by rfl) (hnm:(fn.name == "runtime.NumGoroutine")=false:=by rfl)
  (hn:decide (args.length≤fn.ntmps)=true:=by kernel_rfl) (hok:GM fn.ntmps c=true:=by kernel_rfl) (h:awp P c (Lm P l r qt qb) (stG args pt pb)):AG P f args pt pb r qt qb:=mB hm hf hb hr hnm hn hok h
theorem caG {K} {pos} {dst} {L} {wL} {f} {args} {o} {w} {as} {pt} {pb} {r} {qt} {qb} (y:Way) (h:AG P f as pt pb r qt qb)
  (hc:D5 y.cv σ fun σ1=>Af (Yr y args as pt pb σ1) (C0 y.cv (σ1.after y qt qb) fun σ2=>K (σ2.put dst (bak y r)))) (hL:L=true:=by kernel_rfl) (hB:Yq y as pt pb qt qb=true:=by kernel_rfl):UP P L pos f args o dst σ K w wL:=iP y hL h hB hc
end
theorem Z {P Q:Prop} (h:Q) (e:Q→P:=by first|(intro h; simp only [go_sem]; exact h)|exact fun h=>h):P:=e h
theorem pP {α β:Type} {f:α→List D} {l:List α} {n:Int} {sz:Nat} {K:List D→Prop} {w:Wrap K} {k:α→Option β} {r:β} (h:Option.bind (at? l n) k=some r) (hl:∀x,(f x).length =sz) (hk:∀x,at? l n=some x→k x=some r→K (f x)):cL (List.map f l) n sz K w:=by
 obtain⟨x,h1,h2⟩:=AD h
 exact Ad h1 (hl x) (hk x h1 h2)
theorem mF {α β:Type} {P:Program} {L:Bool} {pos:Nat} {σ:St} {dst} {f} {args} {bs bs'} {K} {w} {wL} {m:Option α} {k:α→Option β} {r:β} {rv:α→RV} (h:Option.bind m k=some r) (hc:∀u,m=some u→AC P f bs' (rv u)) (hb:bs'=bs) (hk:∀u,m=some u→k u=some r→BL (pos*16) fun j=>cv1 j (rv u) fun v ts=>Af (Cz σ ts) (K (σ.add dst ⟨v,ts,[]⟩))):UP P L pos f args (some bs) dst σ K w wL:=by
 subst hb
 obtain⟨u,h1,h2⟩:=AD h
 exact AK (hc u h1) (hk u h1 h2)
theorem k1 {A:Prop} (a:A):A∧True:=⟨a,trivial⟩
theorem k2 {A B:Prop} (a:A) (b:B):A∧B∧True:=⟨a,b,trivial⟩
theorem k3 {A B C:Prop} (a:A) (b:B) (c:C):A∧B∧C∧True:=⟨a,b,c,trivial⟩
theorem k4 {A B C D:Prop} (a:A) (b:B) (c:C) (d:D):A∧B∧C∧D∧True:=⟨a,b,c,d,trivial⟩
theorem k5 {A B C D E:Prop} (a:A) (b:B) (c:C) (d:D) (e:E):A∧B∧C∧D∧E∧True:=⟨a,b,c,d,e,trivial⟩
theorem k6 {A B C D E F:Prop} (a:A) (b:B) (c:C) (d:D) (e:E) (f:F):A∧B∧C∧D∧E∧F∧True:=⟨a,b,c,d,e,f,trivial⟩
theorem k7 {A B C D E F G:Prop} (a:A) (b:B) (c:C) (d:D) (e:E) (f:F) (g:G):A∧B∧C∧D∧E∧F∧G∧True:=⟨a,b,c,d,e,f,g,trivial⟩
theorem k8 {A B C D E F G H:Prop} (a:A) (b:B) (c:C) (d:D) (e:E) (f:F) (g:G) (h:H):A∧B∧C∧D∧E∧F∧G∧H∧True:=⟨a,b,c,d,e,f,g,h,trivial⟩
theorem AJ {p M:Prop} {C:Prop} (c:C) (h:M) (e:C→M→p:=by
 intro c h
 repeat' first
  |((with_reducible show TH _ _ _ _ _); exact ES (by with_reducible first|(apply c.1; exact h)|(apply c.2.1; exact h)|(apply c.2.2.1; exact h)|(apply c.2.2.2.1; exact h)|(apply c.2.2.2.2.1; exact h)|(apply c.2.2.2.2.2.1; exact h)|(apply c.2.2.2.2.2.2.1; exact h)|(apply c.2.2.2.2.2.2.2.1; exact h)) [] [])
  |((with_reducible show lpY _ _ _ _ _ _ _); exact lpF (by with_reducible first|(apply c.1; exact h)|(apply c.2.1; exact h)|(apply c.2.2.1; exact h)|(apply c.2.2.2.1; exact h)|(apply c.2.2.2.2.1; exact h)|(apply c.2.2.2.2.2.1; exact h)|(apply c.2.2.2.2.2.2.1; exact h)|(apply c.2.2.2.2.2.2.2.1; exact h)) [] [])
  |((with_reducible show ST _ _ _ _ _ _); exact loF (by with_reducible first|(apply c.1; exact h)|(apply c.2.1; exact h)|(apply c.2.2.1; exact h)|(apply c.2.2.2.1; exact h)|(apply c.2.2.2.2.1; exact h)|(apply c.2.2.2.2.2.1; exact h)|(apply c.2.2.2.2.2.2.1; exact h)|(apply c.2.2.2.2.2.2.2.1; exact h)) [] [])
  |((with_reducible show TH _ _ _ _ _); refine AL ?_)
  |((with_reducible show SS _ _ _ _ _); (with_reducible have hh:ite _ _ _=_:=h); clear hh; refine AH h (fun h=>Z ?_) (fun h=>Z ?_))
  |((with_reducible show cL _ _ _ _ _); (with_reducible have hh:Option.bind _ _=_:=h); clear hh; refine pP h (fun _=>rfl) (fun u w h=>Z ?_))
  |((with_reducible show UP _ _ _ _ _ _ _ _ _ _ _); (with_reducible have hh:Option.bind _ _=_:=h); clear hh; refine mF h (by with_reducible first|exact c.1 |exact c.1 _|exact c.1 _ _|exact c.1 _ _ _|exact c.1 _ _ _ _|exact c.1 _ _ _ _ _|exact c.2.1 |exact c.2.1 _|exact c.2.1 _ _|exact c.2.1 _ _ _|exact c.2.1 _ _ _ _|exact c.2.1 _ _ _ _ _|exact c.2.2.1 |exact c.2.2.1 _|exact c.2.2.1 _ _|exact c.2.2.1 _ _ _|exact c.2.2.1 _ _ _ _|exact c.2.2.1 _ _ _ _ _|exact c.2.2.2.1 |exact c.2.2.2.1 _|exact c.2.2.2.1 _ _|exact c.2.2.2.1 _ _ _|exact c.2.2.2.1 _ _ _ _|exact c.2.2.2.1 _ _ _ _ _|exact c.2.2.2.2.1 |exact c.2.2.2.2.1 _|exact c.2.2.2.2.1 _ _|exact c.2.2.2.2.1 _ _ _|exact c.2.2.2.2.1 _ _ _ _|exact c.2.2.2.2.1 _ _ _ _ _|exact c.2.2.2.2.2.1 |exact c.2.2.2.2.2.1 _|exact c.2.2.2.2.2.1 _ _|exact c.2.2.2.2.2.1 _ _ _|exact c.2.2.2.2.2.1 _ _ _ _|exact c.2.2.2.2.2.1 _ _ _ _ _|exact c.2.2.2.2.2.2.1 |exact c.2.2.2.2.2.2.1 _|exact c.2.2.2.2.2.2.1 _ _|exact c.2.2.2.2.2.2.1 _ _ _|exact c.2.2.2.2.2.2.1 _ _ _ _|exact c.2.2.2.2.2.2.1 _ _ _ _ _|exact c.2.2.2.2.2.2.2.1 |exact c.2.2.2.2.2.2.2.1 _|exact c.2.2.2.2.2.2.2.1 _ _|exact c.2.2.2.2.2.2.2.1 _ _ _|exact c.2.2.2.2.2.2.2.1 _ _ _ _|exact c.2.2.2.2.2.2.2.1 _ _ _ _ _) (by rfl) (fun u w h=>Z ?_))
  |(cases h; simp only [go_sem]; done)
  |((with_reducible show ST _ _ _ _ _ _); refine AY (Z ?_))
  |refine AR rfl rfl (Z ?_)):p:=e c h
attribute [go_sem] List.length_replicate
theorem FL {α:Type} {f:α→List D} {l:List α} {n:Int} {x:α} (h:at? l n=some x):(List.map f l)[n.toNat]? =some (f x):=by
 rw [List.getElem?_map,(U5 h).2]; rfl
def AB (n:Int):List D:=[.int .i64 n]
def u8D (n:Int):List D:=[.int .u8 n]
def AN (b:Bool):List D:=[.bool b]
def pQ (s:ByteArray):List D:=[.str s]
def slD {α:Type} (f:α→List D) (l:List α):List D:=[.sl (List.map f l)]
attribute [go_sem] AB u8D AN pQ slD List.map_cons List.map_nil List.length_map List.nodup_cons List.mem_cons List.not_mem_nil not_or or_false or_true true_or false_or not_false_eq_true
end Go.Proofs.YtclmbjbbojdojaaGreat.Ab
namespace Go.Proofs.YtclmbjbbojdojaaGreat.Ab
set_option linter.unusedVariables false
theorem Kr {α:Type} {f:α→List D} {sz:Nat} (h:∀x,(f x).length =sz∧∀d ∈ f x,d.flat=true) (l:List α):∀row ∈ List.map f l,row.length=sz∧∀d ∈ row,d.flat=true:=by
 grind
theorem Qm {α:Type} {f:α→List D} {sz:Nat} (h:∀x,(f x).length =sz) (l:List α):∀row ∈ List.map f l,row.length=sz:=by
 grind
theorem Ff {α:Type} {f g} (h:∀x,erC (f x)=g x):∀l:List α,erR (List.map f l)=List.map g l
 | [] =>by rfl
 |x::xs=>by rw [List.map_cons,List.map_cons,erR,h x,Ff h xs]
@[go_sem] theorem oE:erR [] =[] :=by rfl
attribute [go_sem] rpS rpB Id Fd only Vk
def pD {α:Type} (f:α→List D) (x:α):List D:=[.ptr (f x)]
attribute [go_sem] pD
def nop {α:Type} (f:α→List AV):Option α→AV
 |none=>.nilp
 |some x=>.rop (f x) 0
@[go_sem] theorem pn {α:Type} {f:α→List AV}:nop f none= .nilp :=rfl
@[go_sem] theorem pp {α:Type} {f:α→List AV} {x:α}:nop f (some x)= .rop (f x) 0:=rfl
def cV {α:Type} (f:α→List D):Option α→D
 |none=>.nilp
 |some x=>.ptr (f x)
structure NopOf {α:Type} (f:α→List D) (g:α→List AV):Prop where
 a:∀x,Ra (f x)=g x
 b:∀x,unDs (g x)=some (f x)
 c:∀x,EN (g x)=true
section
variable {α:Type} {f:α→List D} {g:α→List AV} (h:NopOf f g) (o:Option α)
include h
theorem NopOf.of:ofD (cV f o)=nop g o:=by
 cases o
 ·rfl
 ·simp only [cV,nop,ofD,h.a]
theorem NopOf.un:unD (nop g o)=some (cV f o):=by
 cases o
 ·rfl
 ·simp only [cV,nop,unD,h.b,Option.map_some]
theorem NopOf.pu:Fi (nop g o)=true:=by
 cases o
 ·rfl
 ·simp only [nop,Fi,h.c]
theorem NopOf.cl {T B}:Ab.cl T B (nop g o)=some (nop g o):=Yt (h.pu o)
theorem NopOf.toD {T}:Ab.toD T (nop g o)=some (cV f o):=by
 have:=h.un o
 cases o
 ·rfl
 grind [nop,Ab.toD]
end
theorem NopOf.mp {α:Type} {f:α→List D} {g:α→List AV} (_:NopOf f g) (o:Option α):AV.mp? (nop g o)=false:=by cases o <;> rfl
theorem NopOf.on {α:Type} {f:α→List D} {g:α→List AV} (_:NopOf f g) (o:Option α):AV.one (nop g o)=true:=by cases o <;> rfl
def slN {α:Type} (f:α→List D):List α→D
 | [] =>.nl
 |x::xs=>.sl (List.map f (x::xs))
@[go_sem] theorem oF {α:Type} {f:α→List D}:slN f [] = .nl :=rfl
theorem cW {α:Type} {f:α→List D} {l:List α} (h:l≠ []):slN f l= .sl (List.map f l):=by
 cases l
 ·exact absurd rfl h
 ·rfl
theorem Yv {α:Type} {f:α→List D} {l:List α} {sz:Nat} (h:∀x,(f x).length =sz):Vl sz (slN f l)=some (List.map f l):=by
 cases l with
 |nil=>rfl
 |cons x l=>simp [slN,Vl,h]
@[go_sem ↓ high] theorem pR {α:Type} {f:α→List D} {l:List α} {t g} {p} {sz i j}:ofT t g p sz i j (slN f l)= .sub t g (p++[(sz,i,j)]):=by cases l <;> rfl
theorem mG {α:Type} {f:α→List D} {l:List α}:er (slN f l)= .sl (erR (List.map f l)):=by cases l <;> rfl
def snD {α:Type} (f:α→List D) (l:List α):List D:=[slN f l]
attribute [go_sem] snD
@[go_sem] theorem iX {l}:erR (List.map AB l)=List.map AB l:=Ff (fun _=>rfl) l
@[go_sem] theorem pS {l:List (List Int)}:erR (List.map (snD AB) l)=List.map (slD AB) l:=Ff (fun c=>by simp only [snD,slD,erC,mG,iX]) l
theorem cX {α:Type} {a b r:List α} {x:α} (h:a++x::b=r):r≠ [] :=fun e=>by
 rw [e] at h; simp at h
end Go.Proofs.YtclmbjbbojdojaaGreat.Ab
