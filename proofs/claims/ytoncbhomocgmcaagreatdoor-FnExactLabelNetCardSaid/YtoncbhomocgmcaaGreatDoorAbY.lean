/-
  The abstract walk: places in a function's text, values that name nothing of the call's own, steps of models.
-/
import Derived.Test.YtoncbhomocgmcaaGreatDoorAbV
namespace Go.Proofs.YtoncbhomocgmcaaGreatDoor.Ab
set_option linter.unusedVariables false
set_option maxHeartbeats 1000000
open Go.RowKit
def pos (P:Program):Code→List Nat→(AE→St→Prop)→St→Prop
 |c,[],Q=>awp P c Q
 | .seq a b,0::p,Q=>pos P a p (AE.then (Yf (Ft a) (awp P b Q)) Q)
 | .seq a b,_::p,Q=>pos P b p Q
 | .cond _ a b,0::p,Q=>pos P a p Q
 | .cond _ a b,_::p,Q=>pos P b p Q
 | .block id c,_::p,Q=>pos P c p (AE.inBlock id Q)
 | .loop c,_::p,Q=>pos P c p (AE.then (lpX P c Q) Q)
 |_,_,_=>fun _=>False
def BE (P:Program) (fn:Func) (p:List Nat) (r:RV) (σ:St):Prop:=pos P (fn.body.getD .skip) p (endX P fn.results.toList r) σ
def Tc (r:AV) (qt:List (Nat × Tok)) (qb:List (Nat × List AV)) (v:AV) (σ:St):Prop:=Wk ⟨[(0,v)],σ.t,σ.b⟩ ⟨[(0,r)],Hv qt,Hw qb⟩
def Pw (r:AV) (qt:List (Nat × Tok)) (qb:List (Nat × List AV)) (σ:St) (vs:List AV):Prop:=Tc r qt qb (oneA vs) σ
@[go_sem ↓] theorem gM {r} {qt} {qb} {σ}:Pw r qt qb σ [] =Tc r qt qb (.tup []) σ:=rfl
@[go_sem ↓] theorem gN {r v} {qt} {qb} {σ}:Pw r qt qb σ [v] =Tc r qt qb v σ:=rfl
@[go_sem ↓] theorem gO {r v u} {vs} {qt} {qb} {σ}:Pw r qt qb σ (v::u::vs)=Tc r qt qb (.tup (v::u::vs)) σ:=rfl
def GY (P:Program) (l:List ResultVar) (r:AV) (qt:List (Nat × Tok)) (qb:List (Nat × List AV)) (q:AE) (σ:St):Prop:=match q with| .exit _=>False|_=>JH P σ l (Pw r qt qb σ)
@[go_sem ↓] theorem aS {P} {l} {r} {qt} {qb} {σ}:GY P l r qt qb .normal σ=JH P σ l (Pw r qt qb σ):=rfl
@[go_sem ↓] theorem gP {P} {l} {r} {qt} {qb} {σ}:GY P l r qt qb .ret σ=JH P σ l (Pw r qt qb σ):=rfl
theorem CK {r v} {qt} {qb} {σ σ1} (hn:Nils ⟨[(0,v)],σ.t,σ.b⟩ σ1) (rt rb:List (Nat × Nat)) (h:Gj rt rb σ1 ⟨[(0,r)],Hv qt,Hw qb⟩):Tc r qt qb v σ:=.one ⟨σ1,hn,rt,rb,h⟩
attribute [go_sem] Hv Hw stG WV WW oneA
theorem gQ {P} (hm:P.follows .mixedOrders =true) {f} {fn} {c} {l} {args} {pt} {pb} {r} {qt} {qb} (hf:P.funcs[f]? =some fn) (hb:fn.body=some c) (hr:fn.results=l.toArray) (hnm:(fn.name == "runtime.NumGoroutine")=false)
  (hn:decide (args.length≤fn.ntmps)=true) (hok:D2 fn.ntmps c=true) (h:awp P c (GY P l r qt qb) (stG args pt pb)):AG P f args pt pb r qt qb:=by
 refine TM hm hf hb hnm (of_decide_eq_true hn) hok ?_
 have e:endG P fn.results.toList r qt qb=GY P l r qt qb:=by
  rw [hr]
  funext q σ
  cases q <;> rfl
 rw [e]
 exact h
def CF (P:Program) (fn:Func) (p:List Nat) (r:AV) (qt:List (Nat × Tok)) (qb:List (Nat × List AV)) (σ:St):Prop:=pos P (fn.body.getD .skip) p (GY P fn.results.toList r qt qb) σ
section
variable {P:Program} {σ:St} {Q:AE→St→Prop}
theorem Aj {fn} {c} {l} {p} {r} {qt} {qb} (hb:fn.body=some c) (hr:fn.results=l.toArray) (h:pos P c p (GY P l r qt qb) σ):CF P fn p r qt qb σ:=by
 grind [CF]
theorem EE {fn} {c} {l} {p} {r} {qt} {qb} (hb:fn.body=some c) (hr:fn.results=l.toArray) (h:CF P fn p r qt qb σ):pos P c p (GY P l r qt qb) σ:=by
 grind [CF]
theorem Bn {fn} {c} {l} {p} {r} (hb:fn.body=some c) (hr:fn.results=l.toArray) (h:pos P c p (endX P l r) σ):BE P fn p r σ:=by
 grind [BE]
theorem EF {fn} {c} {l} {p} {r} (hb:fn.body=some c) (hr:fn.results=l.toArray) (h:BE P fn p r σ):pos P c p (endX P l r) σ:=by
 grind [BE]
@[go_sem ↓] theorem ju {c}:pos P c [] Q σ=awp P c Q σ:=by cases c <;> rfl
@[go_sem ↓] theorem gR {a b} {p}:pos P (.seq a b) (0::p) Q σ=pos P a p (AE.then (Yf (Ft a) (awp P b Q)) Q) σ:=rfl
@[go_sem ↓] theorem gS {a b} {p}:pos P (.seq a b) (1::p) Q σ=pos P b p Q σ:=rfl
@[go_sem ↓] theorem d7 {c} {a b} {p}:pos P (.cond c a b) (0::p) Q σ=pos P a p Q σ:=rfl
@[go_sem ↓] theorem d8 {c} {a b} {p}:pos P (.cond c a b) (1::p) Q σ=pos P b p Q σ:=rfl
@[go_sem ↓] theorem d9 {id} {c} {p}:pos P (.block id c) (0::p) Q σ=pos P c p (AE.inBlock id Q) σ:=rfl
@[go_sem ↓] theorem gT {c} {p}:pos P (.loop c) (0::p) Q σ=pos P c p (AE.then (lpX P c Q) Q) σ:=rfl
theorem cO {c} {σ σ1} (hw:Wk σ σ1) (h:awp P (.loop c) Q σ1):awp P (.loop c) Q σ:=by
 rw [awp] at h ⊢
 intro L hL
 obtain⟨σ0,h1,h2⟩:=h L hL
 exact⟨σ0,hw.trans h1,h2⟩
theorem EX {b} {w1} {w2} {σ1} (h:awp P (.loop b) Q σ1) (hw:Wk σ σ1):MQ P b Q σ w1 w2:=cO hw h
end
mutual
theorem Jz {rt rb}:∀ {a},BM a=true→DU rt rb a=true∧ren rt rb a=a
 | .int _ _,_=>⟨rfl,rfl⟩
 | .bool _,_=>⟨rfl,rfl⟩
 | .str _,_=>⟨rfl,rfl⟩
 | .ro _,_=>⟨rfl,rfl⟩
 | .nilp,_=>⟨rfl,rfl⟩
 | .rop vs off,h=>by
  simp only [BM] at h
  obtain⟨h1,h2⟩:=EN (rt:=rt) (rb:=rb) h
  simp only [DU,ren]
  exact⟨h1,by rw [h2]⟩
 | .fn f vs,h=>by
  simp only [BM] at h
  obtain⟨h1,h2⟩:=EN (rt:=rt) (rb:=rb) h
  simp only [DU,ren]
  exact⟨h1,by rw [h2]⟩
 | .agg vs,h=>by
  simp only [BM] at h
  obtain⟨h1,h2⟩:=EN (rt:=rt) (rb:=rb) h
  simp only [DU,ren]
  exact⟨h1,by rw [h2]⟩
theorem EN {rt rb}:∀ {as},Bj as=true→D1 rt rb as=true∧rens rt rb as=as
 | [],_=>⟨rfl,rfl⟩
 |a::as,h=>by
  simp only [Bj,Bool.and_eq_true] at h
  obtain⟨h1,h2⟩:=Jz (rt:=rt) (rb:=rb) h.1
  obtain⟨h3,h4⟩:=EN (rt:=rt) (rb:=rb) h.2
  simp only [D1,rens,h1,h2,h3,h4,Bool.and_self,and_self]
end
mutual
theorem M8 {T} {B}:∀ {a},BM a=true→cl T B a=some a
 | .int _ _,_=>rfl
 | .bool _,_=>rfl
 | .str _,_=>rfl
 | .ro _,_=>rfl
 | .nilp,_=>rfl
 | .rop vs off,h=>by simp only [BM] at h; simp only [cl,F4 h,Option.map_some]
 | .fn f vs,h=>by simp only [BM] at h; simp only [cl,F4 h,Option.map_some]
 | .agg vs,h=>by simp only [BM] at h; simp only [cl,F4 h,Option.map_some]
theorem F4 {T} {B}:∀ {as},Bj as=true→cls T B as=some as
 | [],_=>rfl
 |a::as,h=>by
  simp only [Bj,Bool.and_eq_true] at h
  simp only [cls,M8 h.1,F4 h.2]
end
structure Still (vs:List AV):Prop where
 p:Bj vs=true
 o:JM vs=true
 k:∀rt rb,D1 rt rb vs=true
 r:∀rt rb,rens rt rb vs=vs
 c:∀T B,cls T B vs=some vs
 f:∀T B as,cls T B (fnA vs as)=(cls T B as).map (fnA vs)
theorem J0 {T} {B}:∀ {as bs:List AV},cls T B (as++bs)=(cls T B as).bind fun xs=>(cls T B bs).map fun ys=>xs++ys
 | [],bs=>by simp only [List.nil_append,cls,Option.bind_some]; cases cls T B bs <;> rfl
 | a::as,bs=>by
  simp only [List.cons_append,cls,J0 (as:=as)]
  cases cl T B a with
  |none=>simp
  |some x=>
   cases cls T B as with
   |none=>simp
   |some xs=>cases cls T B bs <;> simp
theorem Zt {vs} (h:Bj vs=true) (T B as):cls T B (fnA vs as)=(cls T B as).map (fnA vs):=by
 have h0:∀ {us},Bj us=true→cls T B (as++us)=(cls T B as).map (· ++us):=fun hu=>by
  rw [J0,F4 hu]; cases cls T B as <;> rfl
 unfold fnA
 split
 ·rename_i fs cs
  simp only [Bj,BM,Bool.and_eq_true] at h
  rw [J0,F4 h.1,h0 h.2]
  cases cls T B as <;> rfl
 grind
theorem Still.of {vs} (h:Bj vs=true) (ho:JM vs=true:=by rfl):Still vs:=⟨h,ho,fun _ _=>(EN h).1,fun _ _=>(EN h).2,fun _ _=>F4 h,Zt h⟩
def Sub (a b:AV):Prop:=∀w γ v,VSim w γ a v→VSim w γ b v
theorem Sub.refl (a:AV):Sub a a:=fun _ _ _ h=>h
theorem Sub.rop {vs us} {off} (h:(vs.drop off).take us.length=us):Sub (.rop vs off) (.rop us 0):=fun w γ v hv=>by
 simp only [VSim] at hv ⊢
 obtain⟨b,o,xs,rfl,h1,h3,h2⟩:=hv
 refine⟨b,o+off,(xs.drop off).take us.length,rfl,?_,fun e=>h3 ?_,fun j u hu=>?_⟩
 ·have:=h1.take_drop off us.length
  grind [Db]
 ·simp only [AV.pts,List.any_eq_true] at e ⊢
  obtain⟨x,hx,hp⟩:=e
  exact⟨x,List.mem_of_mem_drop (List.mem_of_mem_take (h ▸ hx)),hp⟩
 grind
def J1:List AV→List AV→Prop
 | [],[] =>True
 |a::as,b::bs=>Sub a b∧J1 as bs
 |_,_=>False
theorem J1.nil:J1 [] [] :=trivial
theorem J1.cons {a b} {as bs} (h:Sub a b) (k:J1 as bs):J1 (a::as) (b::bs):=⟨h,k⟩
theorem J1.vsims {w} {γ}:∀ {as bs} {us},J1 as bs→AD w γ as us→AD w γ bs us
 | [],[],us,_,h=>h
 |a::as,b::bs,us,h,hv=>by
  simp only [AD] at hv ⊢
  obtain⟨u,us',rfl,h1,h2⟩:=hv
  exact⟨u,us',rfl,h.1 _ _ _ h1,J1.vsims h.2 h2⟩
 | [],_::_,_,h,_=>h.elim
 |_::_,[],_,h,_=>h.elim
theorem Td {P} {f} {as bs} {r} (k:AC P f bs r) (h:J1 as bs):AC P f as r:=
 ⟨k.1,fun w us h1 h2 ha h3=>k.2 w us h1 h2 ha (h.vsims h3)⟩
def prB (p:Int × Bool):List D:=[.int .i64 p.1,.bool p.2]
def prI (p:Int × Int):List D:=[.int .i64 p.1,.int .i64 p.2]
def SG {β:Type}:List (Int × β)→Int→Option β
 | [],_=>none
 |p::l,k=>if k=p.1 then some p.2 else SG l k
theorem V4 {l} {k}:C3 (.int .i64 k) (List.map prB l)=(SG l k).map D.bool:=by
 induction l with
 |nil=>rfl
 |cons p l ih=>
  grind [prB,C3,SG,D5]
theorem V5 {l} {k}:C3 (.int .i64 k) (List.map prI l)=(SG l k).map (D.int .i64):=by
 induction l with
 |nil=>rfl
 |cons p l ih=>
  grind [prI,C3,SG,D5]
attribute [go_sem] V4 V5
def gU (p:ByteArray × Bool):List D:=[.str p.1,.bool p.2]
def Te {β:Type}:List (ByteArray × β)→ByteArray→Option β
 | [],_=>none
 |p::l,k=>if Df k p.1 =true then some p.2 else Te l k
theorem V6 {a b:ByteArray}:D5 (.str a) (.str b)=Df a b:=by rfl
theorem Tf {l} {k}:C3 (.str k) (List.map gU l)=(Te l k).map D.bool:=by
 induction l with
 |nil=>rfl
 |cons p l ih=>
  grind [gU,C3,Te,V6]
attribute [go_sem] Tf
def OA (k:List Int):List D:=k.map fun n=>.int .i64 n
def cP (p:List Int × Int):List D:=[.ptr (OA p.1),.int .i64 p.2]
def Qa {β:Type}:List (List Int × β)→List Int→Option β
 | [],_=>none
 |p::l,k=>if k=p.1 then some p.2 else Qa l k
theorem Px:∀ {k k':List Int},FT (OA k) (OA k')=decide (k=k')
 | [],[] =>rfl
 | [],n::k'=>rfl
 |n::k,[] =>rfl
 |n::k,n'::k'=>by
  have:=Px (k:=k) (k':=k')
  show (IntKind.i64 == IntKind.i64&&decide (n=n')&&FT (OA k) (OA k'))=_
  rw [this]
  by_cases h1:n=n' <;> by_cases h2:k=k' <;> simp [h1,h2]
theorem V7 {k k':List Int}:D5 (.ptr (OA k)) (.ptr (OA k'))=decide (k=k'):=Px
theorem Tg {l} {k}:C3 (.ptr (OA k)) (List.map cP l)=(Qa l k).map (D.int .i64):=by
 induction l with
 |nil=>rfl
 |cons p l ih=>
  show (if D5 (.ptr (OA k)) (.ptr (OA p.1))=true then some (D.int .i64 p.2) else C3 (.ptr (OA k)) (List.map cP l))=_
  rw [V7,ih,Qa]
  by_cases h:k=p.1 <;> simp [h]
@[go_sem] theorem aT {l} {a b c:Int}:C3 (.ptr [.int .i64 a,.int .i64 b,.int .i64 c]) (List.map cP l)=(Qa l [a,b,c]).map (D.int .i64):=Tg (k:=[a,b,c])
@[go_sem] theorem ma {o:Option Bool} {z:Bool}:((o.map D.bool).map ofD).getD (.bool z)= .bool (o.getD z):=by cases o <;> rfl
@[go_sem] theorem mc {o:Option Int} {z:Int}:((o.map (D.int .i64)).map ofD).getD (.int .i64 z)= .int .i64 (o.getD z):=by cases o <;> rfl
@[go_sem] theorem aU {α β:Type} {o:Option α} {f:α→β}:(o.map f).isSome =o.isSome:=by cases o <;> rfl
@[irreducible] def fuel:Nat:=4611686018427387904
theorem BF:fuel=4611686018427387904:=by grind [fuel]
def at? {α:Type} (l:List α) (i:Int):Option α:=if 0≤i then l[i.toNat]? else none
def app? {α:Type} (a b:List α):Option (List α):=if a.length+b.length≤68719476736 then some (a++b) else none
def D6 (a b:ByteArray):Option ByteArray:=if a.size+b.size≤9223372036854775807 then some (a++b) else none
def Qb {α:Type} (n:Int) (z:α):Option (List α):=if 0≤n∧n≤68719476736 then some (List.replicate n.toNat z) else none
def Zu {α:Type} (l:List α) (i:Int) (x:α):List α:=l.set i.toNat x
def CL {α:Type} (l:List α) (i:Int) (x:α):Option (List α):=some (Zu l i x)
theorem BG {α:Type} {l:List α} {i:Int} {x:α} {r:List α} (h:CL l i x=some r):l.set i.toNat x=r:=Option.some.inj h
def MS (ns:List Int):Option ByteArray:=if ns.length≤9223372036854775807 then some (strOfNums ns) else none
theorem Py {ns} {v} (h:MS ns=some v):ns.length≤maxLen∧strOfNums ns=v:=by
 grind [MS,maxLen]
theorem AJ {α β:Type} {x:Option α} {k:α→Option β} {r:β} (h:Option.bind x k=some r):∃v,x=some v∧k v=some r:=by
 cases x with
 |none=>cases h
 |some v=>grind
theorem ifT {α:Type} {c:Bool} {a b r:α} (hb:c=true) (h:(if c=true then a else b)=r):a=r:=by rw [if_pos hb] at h; exact h
theorem ifF {α:Type} {c:Bool} {a b r:α} (hb:c=false) (h:(if c=true then a else b)=r):b=r:=by grind
theorem AO {b:Bool} {p q:Prop} {w:Wrap p} {w':Wrap q} {α:Type} {x y r:α} (h:(if b=true then x else y)=r) (hp:x=r→p) (hq:y=r→q):MP b p q w w':=⟨fun e=>hp (ifT e h),fun e=>hq (ifF e h)⟩
theorem EY {α:Type} {l:List α} {i:Int} {x:α} (h:at? l i=some x):0≤i∧l[i.toNat]? =some x:=by
 grind [at?]
theorem GZ {α:Type} {l:List α} {i:Int} {x:α} (h:at? l i=some x):0≤i∧i<l.length:=by
 obtain⟨h0,h1⟩:=EY h
 have:=(List.getElem?_eq_some_iff.1 h1).1
 omega
theorem Ul {α β:Type} {f:α→β} {l:List α} {n:Int} {x:α} (h:at? l n=some x):(List.map f l)[n.toNat]? =some (f x):=by
 rw [List.getElem?_map,(EY h).2]; rfl
theorem AH {α:Type} {a b l:List α} (h:app? a b=some l):a.length+b.length≤68719476736∧a++b=l:=by
 grind [app?]
theorem Cj {a b l} (h:D6 a b=some l):a.size+b.size≤maxLen∧a++b=l:=by
 grind [D6,maxLen]
theorem Kw {α:Type} {n:Int} {z:α} {l:List α} (h:Qb n z=some l):0≤n∧n≤68719476736∧List.replicate n.toNat z=l:=by
 grind [Qb]
theorem Aq {α:Type} {f:α→List D} {l:List α} {n:Int} {sz:Nat} {K:List D→Prop} {w:Wrap K} {x:α} (h:at? l n=some x) (hl:(f x).length =sz) (hk:K (f x)):Zm (List.map f l) n sz K w:=by
 obtain⟨h0,h1⟩:=EY h
 exact⟨f x,⟨h0,by rw [List.getElem?_map,h1]; rfl,hl⟩,hk⟩
theorem Um {α β:Type} {f:α→β} {l r:List α} {i j:Int} (h:cutL l i j=some r):cutL (List.map f l) i j=some (List.map f r):=by
 grind [cutL,List.map_take,List.map_drop]
@[go_sem] def r3 (a b:Nat) (l:List (Nat × Nat)):List (Nat × Nat):=(a,b)::(a+1,b+1)::(a+2,b+2)::l
@[go_sem] def r4 (a b:Nat) (l:List (Nat × Nat)):List (Nat × Nat):=(a,b)::r3 (a+1) (b+1) l
@[go_sem] def r5 (a b:Nat) (l:List (Nat × Nat)):List (Nat × Nat):=(a,b)::r4 (a+1) (b+1) l
@[go_sem] def r6 (a b:Nat) (l:List (Nat × Nat)):List (Nat × Nat):=(a,b)::r5 (a+1) (b+1) l
@[go_sem] def r7 (a b:Nat) (l:List (Nat × Nat)):List (Nat × Nat):=(a,b)::r6 (a+1) (b+1) l
@[go_sem] def r8 (a b:Nat) (l:List (Nat × Nat)):List (Nat × Nat):=(a,b)::r7 (a+1) (b+1) l
@[go_sem] def r9 (a b:Nat) (l:List (Nat × Nat)):List (Nat × Nat):=(a,b)::r8 (a+1) (b+1) l
@[go_sem] def r10 (a b:Nat) (l:List (Nat × Nat)):List (Nat × Nat):=(a,b)::r9 (a+1) (b+1) l
@[go_sem] def r11 (a b:Nat) (l:List (Nat × Nat)):List (Nat × Nat):=(a,b)::r10 (a+1) (b+1) l
@[go_sem] def r12 (a b:Nat) (l:List (Nat × Nat)):List (Nat × Nat):=(a,b)::r11 (a+1) (b+1) l
@[go_sem] def r13 (a b:Nat) (l:List (Nat × Nat)):List (Nat × Nat):=(a,b)::r12 (a+1) (b+1) l
@[go_sem] def r14 (a b:Nat) (l:List (Nat × Nat)):List (Nat × Nat):=(a,b)::r13 (a+1) (b+1) l
@[go_sem] def r15 (a b:Nat) (l:List (Nat × Nat)):List (Nat × Nat):=(a,b)::r14 (a+1) (b+1) l
@[go_sem] def r16 (a b:Nat) (l:List (Nat × Nat)):List (Nat × Nat):=(a,b)::r15 (a+1) (b+1) l
section
variable {P:Program} {σ:St} {Q:AE→St→Prop}
theorem me {K} {w1} {w2} {σ1} {fn} {c} {l} {p} {r} {qt} {qb} (h:CF P fn p r qt qb σ1) (rt rb:List (Nat × Nat)) (hb:fn.body=some c:=by rfl) (hr:fn.results=l.toArray:=by rfl) (e:pos P c p (GY P l r qt qb) σ1→K σ1:=by exact fun h=>h) (hw:Gj rt rb σ σ1:=by simp only [go_sem]):N6 false K σ w1 w2:=Ie (e (EE hb hr h)) (.one ⟨_,.done _,rt,rb,hw⟩)
theorem lpG {b} {w1} {w2} {w3} {σ1} {fn} {c} {l} {p} {r} {qt} {qb} (h:CF P fn p r qt qb σ1) (rt rb:List (Nat × Nat)) (hb:fn.body=some c:=by rfl) (hr:fn.results=l.toArray:=by rfl) (e:pos P c p (GY P l r qt qb) σ1→awp P (.loop b) Q σ1:=by exact fun h=>h) (hw:Gj rt rb σ σ1:=by simp only [go_sem]):lpY P b Q σ w1 w2 w3:=R0 (e (EE hb hr h)) (.one ⟨_,.done _,rt,rb,hw⟩)
theorem loG {b} {w1} {w2} {σ1} {fn} {c} {l} {p} {r} {qt} {qb} (h:CF P fn p r qt qb σ1) (rt rb:List (Nat × Nat)) (hb:fn.body=some c:=by rfl) (hr:fn.results=l.toArray:=by rfl) (e:pos P c p (GY P l r qt qb) σ1→awp P (.loop b) Q σ1:=by exact fun h=>h) (hw:Gj rt rb σ σ1:=by simp only [go_sem]):MQ P b Q σ w1 w2:=EX (e (EE hb hr h)) (.one ⟨_,.done _,rt,rb,hw⟩)
theorem mf {K} {w1} {w2} {σ1} {fn} {c} {l} {p} {r} (h:BE P fn p r σ1) (rt rb:List (Nat × Nat)) (hb:fn.body=some c:=by rfl) (hr:fn.results=l.toArray:=by rfl) (e:pos P c p (endX P l r) σ1→K σ1:=by exact fun h=>h) (hw:Gj rt rb σ σ1:=by simp only [go_sem]):N6 false K σ w1 w2:=Ie (e (EF hb hr h)) (.one ⟨_,.done _,rt,rb,hw⟩)
theorem lpF {b} {w1} {w2} {w3} {σ1} {fn} {c} {l} {p} {r} (h:BE P fn p r σ1) (rt rb:List (Nat × Nat)) (hb:fn.body=some c:=by rfl) (hr:fn.results=l.toArray:=by rfl) (e:pos P c p (endX P l r) σ1→awp P (.loop b) Q σ1:=by exact fun h=>h) (hw:Gj rt rb σ σ1:=by simp only [go_sem]):lpY P b Q σ w1 w2 w3:=R0 (e (EF hb hr h)) (.one ⟨_,.done _,rt,rb,hw⟩)
theorem loF {b} {w1} {w2} {σ1} {fn} {c} {l} {p} {r} (h:BE P fn p r σ1) (rt rb:List (Nat × Nat)) (hb:fn.body=some c:=by rfl) (hr:fn.results=l.toArray:=by rfl) (e:pos P c p (endX P l r) σ1→awp P (.loop b) Q σ1:=by exact fun h=>h) (hw:Gj rt rb σ σ1:=by simp only [go_sem]):MQ P b Q σ w1 w2:=EX (e (EF hb hr h)) (.one ⟨_,.done _,rt,rb,hw⟩)
theorem AS {K} {w1} {w2} {q:Prop} (h:q) (e:q→K σ:=by first|(intro h; simp only [go_sem]; exact h)|exact fun h=>h):N6 false K σ w1 w2:=D3 (e h)
theorem acF {f} {c} {l} {args} {r} {fn} (hf:P.funcs[f]? =some fn) (hm:P.follows .mixedOrders =true) (hb:fn.body=some c:=by rfl) (hr:fn.results=l.toArray:=by rfl) (hnm:(fn.name == "runtime.NumGoroutine")=false:=by rfl)
  (hn:decide (args.length≤fn.ntmps)=true:=by kernel_rfl) (hok:D2 fn.ntmps c=true:=by kernel_rfl) (h:awp P c (endX P l r) (st0 args)):AC P f args r:=fk hm hf hb hr hnm hn hok h
theorem agF {f} {c} {l} {args} {pt} {pb} {r} {qt} {qb} {fn} (hf:P.funcs[f]? =some fn) (hm:P.follows .mixedOrders =true) (hb:fn.body=some c:=by rfl) (hr:fn.results=l.toArray:=by rfl) (hnm:(fn.name == "runtime.NumGoroutine")=false:=by rfl)
  (hn:decide (args.length≤fn.ntmps)=true:=by kernel_rfl) (hok:D2 fn.ntmps c=true:=by kernel_rfl) (h:awp P c (GY P l r qt qb) (stG args pt pb)):AG P f args pt pb r qt qb:=gQ hm hf hb hr hnm hn hok h
theorem caG {K} {pos} {dst} {L} {wL} {f} {args} {o} {w} {as} {pt} {pb} {r} {qt} {qb} (y:Way) (h:AG P f as pt pb r qt qb)
  (hc:BR y.cv σ fun σ1=>AM (Uk y args as pt pb σ1) (Ar y.cv (σ1.after y qt qb) fun σ2=>K (σ2.put dst (bak y r)))) (hL:L=true:=by kernel_rfl) (hB:Uj y as pt pb qt qb=true:=by kernel_rfl):N8 P L pos f args o dst σ K w wL:=cE y hL h hB hc
end
theorem Z {P Q:Prop} (h:Q) (e:Q→P:=by first|(intro h; simp only [go_sem]; exact h)|exact fun h=>h):P:=e h
attribute [go_sem] List.length_replicate
theorem A8 {α:Type} {f:α→List D} {l:List α} {n:Int} {x:α} (h:at? l n=some x):(List.map f l)[n.toNat]? =some (f x):=by
 rw [List.getElem?_map,(EY h).2]; rfl
def AB (n:Int):List D:=[.int .i64 n]
def u8D (n:Int):List D:=[.int .u8 n]
def SH (b:Bool):List D:=[.bool b]
def AT (s:ByteArray):List D:=[.str s]
def slD {α:Type} (f:α→List D) (l:List α):List D:=[.sl (List.map f l)]
attribute [go_sem] AB u8D SH AT slD List.map_cons List.map_nil List.length_map List.nodup_cons List.mem_cons List.not_mem_nil not_or or_false or_true true_or false_or not_false_eq_true
end Go.Proofs.YtoncbhomocgmcaaGreatDoor.Ab
namespace Go.Proofs.YtoncbhomocgmcaaGreatDoor.Ab
set_option linter.unusedVariables false
theorem Kx {α:Type} {f:α→List D} {sz:Nat} (h:∀x,(f x).length =sz∧∀d ∈ f x,d.flat=true) (l:List α):∀row ∈ List.map f l,row.length=sz∧∀d ∈ row,d.flat=true:=by
 grind
theorem As {α:Type} {f:α→List D} {sz:Nat} (h:∀x,(f x).length =sz) (l:List α):∀row ∈ List.map f l,row.length=sz:=by
 grind
theorem OB {α:Type} {f:α→List D} {sz:Nat} (h:∀x,(f x).length =sz∧∀d ∈ f x,d≠ .gone) (l:List α):∀row ∈ List.map f l,row.length=sz∧∀d ∈ row,d≠ .gone :=by
 grind
theorem Qc {α:Type} {f g} (h:∀x,fzC (f x)=g x) (l:List α):fzR (List.map f l)=List.map g l:=by
 grind [fzR,List.map_congr_left]
theorem C1 {α:Type} {f g} (h:∀x,erC (f x)=g x):∀l:List α,erR (List.map f l)=List.map g l
 | [] =>by rfl
 |x::xs=>by rw [List.map_cons,List.map_cons,erR,h x,C1 h xs]
def D.ngb:D→Bool
 | .gone =>false
 |_=>true
theorem Ik {ds:List D} (h:ds.all D.ngb=true):∀d ∈ ds,d≠ .gone :=fun d hd e=>by
 have:=List.all_eq_true.1 h d hd
 rw [e] at this; cases this
@[go_sem] theorem jv:erR [] =[] :=by rfl
attribute [go_sem] rpS rpB FU DT only RG
def pD {α:Type} (f:α→List D) (x:α):List D:=[.ptr (f x)]
attribute [go_sem] pD
@[go_sem] theorem nS {α:Type} {f:α→List D} {l:List α}:erR (List.map (pD f) l)=List.map (pD f) l:=C1 (fun c=>by rfl) l
@[go_sem] theorem nT {α:Type} {f:α→List D} {l:List α}:fzR (List.map (pD f) l)=List.map (pD f) l:=Qc (fun _=>rfl) l
def nop {α:Type} (f:α→List AV):Option α→AV
 |none=>.nilp
 |some x=>.rop (f x) 0
@[go_sem] theorem Xq {α:Type} {f:α→List AV}:nop f none= .nilp :=rfl
@[go_sem] theorem Un {α:Type} {f:α→List AV} {x:α}:nop f (some x)= .rop (f x) 0:=rfl
def nopD {α:Type} (f:α→List D):Option α→D
 |none=>.nilp
 |some x=>.ptr (f x)
@[go_sem] theorem jw {α:Type} {f:α→List D} {o}:er (nopD f o)=nopD f o:=by cases o <;> simp only [nopD,er]
mutual
theorem Xr {y:Way} (hy:y.md=true):∀a:AV,BM a=true→bak y a=a
 | .int _ _,_=>by rw [bak]
 | .bool _,_=>by rw [bak]
 | .str _,_=>by rw [bak]
 | .nilp,_=>by rw [bak]
 | .ro _,_=>by rw [bak,if_pos hy]
 | .rop vs o,h=>by rw [bak,if_pos hy,G4 hy vs (by rw [BM] at h; exact h)]
 | .fn f vs,h=>by rw [bak,G4 hy vs (by rw [BM] at h; exact h)]
 | .agg vs,h=>by rw [bak,G4 hy vs (by rw [BM] at h; exact h)]
 | .any,h=>by simp [BM] at h
 | .own _,h=>by simp [BM] at h
 | .box _ _,h=>by simp [BM] at h
 | .bsl _ _ _,h=>by simp [BM] at h
 | .elt _ _ _ _,h=>by simp [BM] at h
 | .sub _ _ _,h=>by simp [BM] at h
 | .els _ _ _ _ _ _,h=>by simp [BM] at h
 | .par _ _ _ _,h=>by simp [BM] at h
 | .tup _,h=>by simp [BM] at h
 | .nils,h=>by simp [BM] at h
 | .mpr _,h=>by simp [BM] at h
 | .mpc _ _,h=>by simp [BM] at h
theorem G4 {y:Way} (hy:y.md=true):∀vs:List AV,Bj vs=true→baks y vs=vs
 | [],_=>by rw [baks]
 |a::vs,h=>by
  rw [Bj,Bool.and_eq_true] at h
  rw [baks,Xr hy a h.1,G4 hy vs h.2]
end
structure NopOf {α:Type} (f:α→List D) (g:α→List AV):Prop where
 a:∀x,H0 (f x)=g x
 b:∀x,unDs (g x)=some (f x)
 c:∀x,Bj (g x)=true
section
variable {α:Type} {f:α→List D} {g:α→List AV} (h:NopOf f g) (o:Option α)
include h
theorem NopOf.of:ofD (nopD f o)=nop g o:=by
 cases o
 ·rfl
 ·simp only [nopD,nop,ofD,h.a]
theorem NopOf.un:unD (nop g o)=some (nopD f o):=by
 cases o
 ·rfl
 ·simp only [nopD,nop,unD,h.b,Option.map_some]
theorem NopOf.pu:BM (nop g o)=true:=by
 cases o
 ·rfl
 ·simp only [nop,BM,h.c]
theorem NopOf.cl {T B}:Ab.cl T B (nop g o)=some (nop g o):=M8 (h.pu o)
theorem NopOf.toD {T}:Ab.toD T (nop g o)=some (nopD f o):=by
 have:=h.un o
 cases o
 ·rfl
 grind [nop,Ab.toD]
theorem NopOf.ta {T B}:toA T B (nop g o)=some (nop g o):=by
 cases o
 ·rfl
 ·simp only [nop,toA,h.c,if_true]
theorem NopOf.kn {rt rb}:DU rt rb (nop g o)=true:=(Jz (h.pu o)).1
theorem NopOf.pas {y} {σ0}:CO y σ0 (nop g o) (nop g o)=True:=by
 refine eq_true ?_
 cases o with
 |none=>rw [Xq,Xk]; exact M8 rfl
 |some x=>
  rw [Un,Zs,show clW y σ0 (.rop (g x) 0)=some (.rop (g x) 0) from M8 (by simp only [BM,h.c]),Xj]
  exact .inl ⟨rfl,rfl⟩
theorem NopOf.bk {y:Way} (hy:y.md=true):bak y (nop g o)=nop g o:=by
 cases o with
 |none=>rfl
 |some x=>rw [Un,bak,if_pos hy,G4 hy _ (h.c x)]
theorem NopOf.re {rt rb}:ren rt rb (nop g o)=nop g o:=(Jz (h.pu o)).2
end
theorem NopOf.mp {α:Type} {f:α→List D} {g:α→List AV} (_:NopOf f g) (o:Option α):AV.mp? (nop g o)=false:=by cases o <;> rfl
theorem NopOf.on {α:Type} {f:α→List D} {g:α→List AV} (_:NopOf f g) (o:Option α):AV.one (nop g o)=true:=by cases o <;> rfl
theorem NopOf.ce {α:Type} {f:α→List D} {g:α→List AV} (_:NopOf f g) (o:Option α):cellsOf (nop g o)=some [nop g o] :=by cases o <;> rfl
def Xs {α β:Type} (o:Option α) (a:Option β) (k:α→Option β):Option β:=match o with
 |none=>a
 |some x=>k x
theorem aV {α β:Type} {a r:Option β} {k:α→Option β} (h:Xs none a k=r):a=r:=h
theorem aW {α β:Type} {x:α} {a r:Option β} {k:α→Option β} (h:Xs (some x) a k=r):k x=r:=h
def szD {α:Type} (f:α→List D) (l:List α):List D:=[.fz (List.map f l)]
attribute [go_sem] szD
@[go_sem] theorem mg {α:Type} {f:α→List D} {l:List (List α)}:erR (List.map (szD f) l)=List.map (slD f) l:=C1 (fun c=>by simp only [szD,slD,erC,er]) l
theorem cQ {α:Type} {f:α→List D} (c:List α):fzC (slD f c)=szD f c:=by rfl
theorem cR {α:Type} {f:α→List D} (c:List α):∀d ∈ slD f c,d≠ .gone :=Ik rfl
def slN {α:Type} (f:α→List D):List α→D
 | [] =>.nl
 |x::xs=>.sl (List.map f (x::xs))
@[go_sem] theorem jx {α:Type} {f:α→List D}:slN f [] = .nl :=rfl
@[go_sem ↓ high] theorem mh {α:Type} {f:α→List D} {l:List α} {t g} {p} {sz i j}:ofT t g p sz i j (slN f l)= .sub t g (p++[(sz,i,j)]):=by cases l <;> rfl
@[go_sem] theorem jy {α:Type} {f:α→List D} {l:List α} {K}:W6 (slN f l) K=K (List.map f l):=by cases l <;> rfl
theorem gV {α:Type} {f:α→List D} {l:List α}:er (slN f l)= .sl (erR (List.map f l)):=by cases l <;> rfl
theorem gW {α:Type} {f:α→List D} {l:List α}:dn (slN f l)= .sl (dnR (List.map f l)):=by cases l <;> rfl
@[go_sem ↓ high] theorem jz {α:Type} {f:α→List D} {l:List α}:D.flat (slN f l)=false:=by cases l <;> rfl
def snD {α:Type} (f:α→List D) (l:List α):List D:=[slN f l]
attribute [go_sem] snD
theorem Ky {α:Type} {f g} (h:∀x,dnC (f x)=g x):∀l:List α,dnR (List.map f l)=List.map g l
 | [] =>by rfl
 |x::xs=>by rw [List.map_cons,List.map_cons,dnR,h x,Ky h xs]
@[go_sem] theorem cS {l}:erR (List.map AB l)=List.map AB l:=C1 (fun _=>rfl) l
@[go_sem] theorem j5 {l}:erR (List.map SH l)=List.map SH l:=C1 (fun _=>rfl) l
@[go_sem] theorem mi {l}:erR (List.map AT l)=List.map AT l:=C1 (fun _=>rfl) l
@[go_sem] theorem cU {l}:dnR (List.map AB l)=List.map AB l:=Ky (fun _=>rfl) l
@[go_sem] theorem j6 {l}:dnR (List.map SH l)=List.map SH l:=Ky (fun _=>rfl) l
@[go_sem] theorem mj {l}:dnR (List.map AT l)=List.map AT l:=Ky (fun _=>rfl) l
@[go_sem] theorem ml {l:List (List Int)}:erR (List.map (snD AB) l)=List.map (slD AB) l:=C1 (fun c=>by simp only [snD,slD,erC,gV,cS]) l
@[go_sem] theorem mm {l:List (List Int)}:dnR (List.map (snD AB) l)=List.map (slD AB) l:=Ky (fun c=>by simp only [snD,slD,dnC,gW,cU]) l
theorem mn {α β:Type} {f:α→List D} {l:List α} {n:Int} {sz:Nat} {K:List D→Prop} {w:Wrap K} {k:α→Option β} {r:β} (h:Option.bind (at? l n) k=some r) (hl:∀x,(f x).length =sz) (hk:∀x,at? l n=some x→k x=some r→K (f x)):Zm (List.map f l) n sz K w:=by
 obtain⟨x,h1,h2⟩:=AJ h
 exact Aq h1 (hl x) (hk x h1 h2)
theorem gX {α β:Type} {P:Program} {L:Bool} {pos:Nat} {σ:St} {dst} {f} {args} {bs bs'} {K} {w} {wL} {m:Option α} {k:α→Option β} {r:β} {rv:α→RV} (h:Option.bind m k=some r) (hc:∀u,m=some u→AC P f bs' (rv u)) (hb:J1 bs bs') (hk:∀u,m=some u→k u=some r→AY (pos*16) fun j=>cv1 j (rv u) fun v ts=>AM (Bt σ ts) (K (σ.add dst ⟨v,ts,[]⟩))):N8 P L pos f args (some bs) dst σ K w wL:=by
 obtain⟨u,h1,h2⟩:=AJ h
 exact AU (Td (hc u h1) hb) (hk u h1 h2)
theorem k1 {A:Prop} (a:A):A∧True:=⟨a,trivial⟩
theorem k2 {A B:Prop} (a:A) (b:B):A∧B∧True:=⟨a,b,trivial⟩
theorem k3 {A B C:Prop} (a:A) (b:B) (c:C):A∧B∧C∧True:=⟨a,b,c,trivial⟩
theorem k4 {A B C D:Prop} (a:A) (b:B) (c:C) (d:D):A∧B∧C∧D∧True:=⟨a,b,c,d,trivial⟩
theorem k5 {A B C D E:Prop} (a:A) (b:B) (c:C) (d:D) (e:E):A∧B∧C∧D∧E∧True:=⟨a,b,c,d,e,trivial⟩
theorem k6 {A B C D E F:Prop} (a:A) (b:B) (c:C) (d:D) (e:E) (f:F):A∧B∧C∧D∧E∧F∧True:=⟨a,b,c,d,e,f,trivial⟩
theorem k7 {A B C D E F G:Prop} (a:A) (b:B) (c:C) (d:D) (e:E) (f:F) (g:G):A∧B∧C∧D∧E∧F∧G∧True:=⟨a,b,c,d,e,f,g,trivial⟩
theorem k8 {A B C D E F G H:Prop} (a:A) (b:B) (c:C) (d:D) (e:E) (f:F) (g:G) (h:H):A∧B∧C∧D∧E∧F∧G∧H∧True:=⟨a,b,c,d,e,f,g,h,trivial⟩
def tT0 (v w:AV):List (Nat × Nat):=match v with
 | .own t=>(match w with| .own o=>[(t,o)] |_=>[])
 | .elt t _ _ _=>(match w with| .elt o _ _ _=>[(t,o)] |_=>[])
 |_=>[]
def tB0 (v w:AV):List (Nat × Nat):=match v with
 | .box b _=>(match w with| .box o _=>[(b,o)] |_=>[])
 | .bsl b _ _=>(match w with| .bsl o _ _=>[(b,o)] |_=>[])
 | .mpr b=>(match w with| .mpr o=>[(b,o)] |_=>[])
 |_=>[]
def zpA (f:AV→AV→List (Nat × Nat)):List AV→List AV→List (Nat × Nat)
 | [],_=>[]
 |_::_,[] =>[]
 |x::l,y::m=>f x y++zpA f l m
def tX1 (f:AV→AV→List (Nat × Nat)) (v w:AV):List (Nat × Nat):=match v with
 | .agg l=>(match w with| .agg m=>zpA f l m|_=>[])
 | .tup l=>(match w with| .tup m=>zpA f l m|_=>[])
 | .fn _ l=>(match w with| .fn _ m=>zpA f l m|_=>[])
 |_=>f v w
def tX2 (f:AV→AV→List (Nat × Nat)) (v w:AV):List (Nat × Nat):=match v with
 | .tup l=>(match w with| .tup m=>zpA (tX1 f) l m|_=>[])
 |_=>tX1 f v w
def onS (f:AV→AV→List (Nat × Nat)) (σ:St):List (Nat × AV)→List (Nat × Nat)
 | [] =>[]
 |(i,v)::l=>tX2 f v (σ.g i)++onS f σ l
def onB (f:AV→AV→List (Nat × Nat)) (σ:St) (rb:List (Nat × Nat)):List (Nat × Option (List AV))→List (Nat × Nat)
 | [] =>[]
 |(_,none)::l=>onB f σ rb l
 |(b,some vs)::l=>zpA (tX1 f) vs (((look rb b).bind σ.B).getD [])++onB f σ rb l
def gY (t:Nat):List (Nat × Nat):=if t<1000 then [(t,t)] else []
def pinned {α:Type}:List (Nat × α)→List (Nat × Nat)
 | [] =>[]
 |(t,_)::l=>gY t++pinned l
def gZ (t o:Nat) (acc:List (Nat × Nat)):List (Nat × Nat):=if (look acc t).isSome =true then acc else (t,o)::acc
def uniq:List (Nat × Nat)→List (Nat × Nat)→List (Nat × Nat)
 | [],acc=>acc
 |(t,o)::l,acc=>uniq l (gZ t o acc)
def cV (σ σ0:St):List (Nat × Nat):=uniq (onB tB0 σ (uniq (pinned σ0.b++onS tB0 σ σ0.s) []) σ0.b) (uniq (pinned σ0.b++onS tB0 σ σ0.s) [])
def gb (σ σ0:St) (rb:List (Nat × Nat)):List (Nat × Nat):=uniq (pinned σ0.t++(onS tT0 σ σ0.s++onB tT0 σ rb σ0.b)) []
@[go_sem ↓] theorem nU {α:Type} {f:α→List AV} {o} {w}:tT0 (nop f o) w=[] :=by cases o <;> rfl
@[go_sem ↓] theorem nV {α:Type} {f:α→List AV} {o} {w}:tB0 (nop f o) w=[] :=by cases o <;> rfl
@[go_sem ↓] theorem nW {α:Type} {f:α→List AV} {o} {w}:tX1 tT0 (nop f o) w=[] :=by cases o <;> rfl
@[go_sem ↓] theorem nX {α:Type} {f:α→List AV} {o} {w}:tX1 tB0 (nop f o) w=[] :=by cases o <;> rfl
@[go_sem ↓] theorem nY {α:Type} {f:α→List AV} {o} {w}:tX2 tT0 (nop f o) w=[] :=by cases o <;> rfl
@[go_sem ↓] theorem nZ {α:Type} {f:α→List AV} {o} {w}:tX2 tB0 (nop f o) w=[] :=by cases o <;> rfl
attribute [go_sem] tT0 tB0 zpA tX1 tX2 onS onB gY pinned gZ uniq cV gb List.cons_append List.nil_append List.append_nil Option.isSome_some Option.isSome_none Option.bind_some Option.bind_none Bool.false_eq_true
def MT (σ σ0:St):Prop:=Gj (gb σ σ0 (cV σ σ0)) (cV σ σ0) σ σ0
attribute [go_sem] MT
section
variable {P:Program} {σ:St} {Q:AE→St→Prop}
theorem mo {K} {w1} {w2} {σ1} {fn} {c} {l} {p} {r} {qt} {qb} (h:CF P fn p r qt qb σ1) (hb:fn.body=some c:=by rfl) (hr:fn.results=l.toArray:=by rfl) (e:pos P c p (GY P l r qt qb) σ1→K σ1:=by exact fun h=>h) (hw:MT σ σ1:=by simp (maxSteps:=300000) only [go_sem]):N6 false K σ w1 w2:=me h _ _ hb hr e hw
theorem V8 {b} {w1} {w2} {w3} {σ1} {fn} {c} {l} {p} {r} {qt} {qb} (h:CF P fn p r qt qb σ1) (hb:fn.body=some c:=by rfl) (hr:fn.results=l.toArray:=by rfl) (e:pos P c p (GY P l r qt qb) σ1→awp P (.loop b) Q σ1:=by exact fun h=>h) (hw:MT σ σ1:=by simp (maxSteps:=300000) only [go_sem]):lpY P b Q σ w1 w2 w3:=lpG h _ _ hb hr e hw
theorem SI {b} {w1} {w2} {σ1} {fn} {c} {l} {p} {r} {qt} {qb} (h:CF P fn p r qt qb σ1) (hb:fn.body=some c:=by rfl) (hr:fn.results=l.toArray:=by rfl) (e:pos P c p (GY P l r qt qb) σ1→awp P (.loop b) Q σ1:=by exact fun h=>h) (hw:MT σ σ1:=by simp (maxSteps:=300000) only [go_sem]):MQ P b Q σ w1 w2:=loG h _ _ hb hr e hw
theorem mq {K} {w1} {w2} {σ1} {fn} {c} {l} {p} {r} (h:BE P fn p r σ1) (hb:fn.body=some c:=by rfl) (hr:fn.results=l.toArray:=by rfl) (e:pos P c p (endX P l r) σ1→K σ1:=by exact fun h=>h) (hw:MT σ σ1:=by simp (maxSteps:=300000) only [go_sem]):N6 false K σ w1 w2:=mf h _ _ hb hr e hw
theorem mr {b} {w1} {w2} {w3} {σ1} {fn} {c} {l} {p} {r} (h:BE P fn p r σ1) (hb:fn.body=some c:=by rfl) (hr:fn.results=l.toArray:=by rfl) (e:pos P c p (endX P l r) σ1→awp P (.loop b) Q σ1:=by exact fun h=>h) (hw:MT σ σ1:=by simp (maxSteps:=300000) only [go_sem]):lpY P b Q σ w1 w2 w3:=lpF h _ _ hb hr e hw
theorem gc {b} {w1} {w2} {σ1} {fn} {c} {l} {p} {r} (h:BE P fn p r σ1) (hb:fn.body=some c:=by rfl) (hr:fn.results=l.toArray:=by rfl) (e:pos P c p (endX P l r) σ1→awp P (.loop b) Q σ1:=by exact fun h=>h) (hw:MT σ σ1:=by simp (maxSteps:=300000) only [go_sem]):MQ P b Q σ w1 w2:=loF h _ _ hb hr e hw
theorem ms {r v} {qt} {qb} (h:MT ⟨[(0,v)],σ.t,σ.b⟩ ⟨[(0,r)],Hv qt,Hw qb⟩:=by simp (maxSteps:=300000) only [go_sem]):Tc r qt qb v σ:=CK (.done _) _ _ h
theorem mu {α β:Type} {f:α→List D} {l:List α} {n:Int} {K:List D→Prop} {w:Wrap K} {k:α→Option β} {r:β} (h:Option.bind (at? l n) k=some r) (hk:∀x,at? l n=some x→k x=some r→K (f x)):Ry ((List.map f l)[n.toNat]?) K w:=by
 obtain⟨x,h1,h2⟩:=AJ h
 exact BN (A8 h1) (hk x h1 h2)
end
theorem AI {p M:Prop} {C:Prop} (c:C) (h:M) (e:C→M→p:=by
 intro c h
 repeat' first
  |((with_reducible show N6 _ _ _ _ _); first|exact mq (by with_reducible first|(apply c.1; exact h)|(apply c.2.1; exact h)|(apply c.2.2.1; exact h)|(apply c.2.2.2.1; exact h)|(apply c.2.2.2.2.1; exact h)|(apply c.2.2.2.2.2.1; exact h)|(apply c.2.2.2.2.2.2.1; exact h)|(apply c.2.2.2.2.2.2.2.1; exact h))|exact mo (by with_reducible first|(apply c.1; exact h)|(apply c.2.1; exact h)|(apply c.2.2.1; exact h)|(apply c.2.2.2.1; exact h)|(apply c.2.2.2.2.1; exact h)|(apply c.2.2.2.2.2.1; exact h)|(apply c.2.2.2.2.2.2.1; exact h)|(apply c.2.2.2.2.2.2.2.1; exact h))|refine AS ?_)
  |((with_reducible show lpY _ _ _ _ _ _ _); first|exact mr (by with_reducible first|(apply c.1; exact h)|(apply c.2.1; exact h)|(apply c.2.2.1; exact h)|(apply c.2.2.2.1; exact h)|(apply c.2.2.2.2.1; exact h)|(apply c.2.2.2.2.2.1; exact h)|(apply c.2.2.2.2.2.2.1; exact h)|(apply c.2.2.2.2.2.2.2.1; exact h))|exact V8 (by with_reducible first|(apply c.1; exact h)|(apply c.2.1; exact h)|(apply c.2.2.1; exact h)|(apply c.2.2.2.1; exact h)|(apply c.2.2.2.2.1; exact h)|(apply c.2.2.2.2.2.1; exact h)|(apply c.2.2.2.2.2.2.1; exact h)|(apply c.2.2.2.2.2.2.2.1; exact h)))
  |((with_reducible show MQ _ _ _ _ _ _); first|exact gc (by with_reducible first|(apply c.1; exact h)|(apply c.2.1; exact h)|(apply c.2.2.1; exact h)|(apply c.2.2.2.1; exact h)|(apply c.2.2.2.2.1; exact h)|(apply c.2.2.2.2.2.1; exact h)|(apply c.2.2.2.2.2.2.1; exact h)|(apply c.2.2.2.2.2.2.2.1; exact h))|exact SI (by with_reducible first|(apply c.1; exact h)|(apply c.2.1; exact h)|(apply c.2.2.1; exact h)|(apply c.2.2.2.1; exact h)|(apply c.2.2.2.2.1; exact h)|(apply c.2.2.2.2.2.1; exact h)|(apply c.2.2.2.2.2.2.1; exact h)|(apply c.2.2.2.2.2.2.2.1; exact h))|refine Bw (Z ?_))
  |((with_reducible show MP _ _ _ _ _); (with_reducible have hh:ite _ _ _=_:=h); clear hh; refine AO h (fun h=>Z ?_) (fun h=>Z ?_))
  |((with_reducible show Zm _ _ _ _ _); first|((with_reducible have hh:Option.bind _ _=_:=h); clear hh; refine mn h (fun x=>by first|rfl|(cases x; rfl)) (fun u w h=>Z ?_))|refine Aq (by assumption) rfl (Z ?_))
  |((with_reducible show Ry _ _ _); first|refine BN (A8 (by assumption)) (Z ?_)|((with_reducible have hh:Option.bind _ _=_:=h); clear hh; refine mu h (fun u w h=>Z ?_)))
  |((with_reducible show N8 _ _ _ _ _ _ _ _ _ _ _); first|((with_reducible have hh:Option.bind _ _=_:=h); clear hh; refine gX h (by with_reducible first|exact c.1 |exact c.1 _|exact c.1 _ _|exact c.1 _ _ _|exact c.1 _ _ _ _|exact c.1 _ _ _ _ _|exact c.2.1 |exact c.2.1 _|exact c.2.1 _ _|exact c.2.1 _ _ _|exact c.2.1 _ _ _ _|exact c.2.1 _ _ _ _ _|exact c.2.2.1 |exact c.2.2.1 _|exact c.2.2.1 _ _|exact c.2.2.1 _ _ _|exact c.2.2.1 _ _ _ _|exact c.2.2.1 _ _ _ _ _|exact c.2.2.2.1 |exact c.2.2.2.1 _|exact c.2.2.2.1 _ _|exact c.2.2.2.1 _ _ _|exact c.2.2.2.1 _ _ _ _|exact c.2.2.2.1 _ _ _ _ _|exact c.2.2.2.2.1 |exact c.2.2.2.2.1 _|exact c.2.2.2.2.1 _ _|exact c.2.2.2.2.1 _ _ _|exact c.2.2.2.2.1 _ _ _ _|exact c.2.2.2.2.1 _ _ _ _ _|exact c.2.2.2.2.2.1 |exact c.2.2.2.2.2.1 _|exact c.2.2.2.2.2.1 _ _|exact c.2.2.2.2.2.1 _ _ _|exact c.2.2.2.2.2.1 _ _ _ _|exact c.2.2.2.2.2.1 _ _ _ _ _|exact c.2.2.2.2.2.2.1 |exact c.2.2.2.2.2.2.1 _|exact c.2.2.2.2.2.2.1 _ _|exact c.2.2.2.2.2.2.1 _ _ _|exact c.2.2.2.2.2.2.1 _ _ _ _|exact c.2.2.2.2.2.2.1 _ _ _ _ _|exact c.2.2.2.2.2.2.2.1 |exact c.2.2.2.2.2.2.2.1 _|exact c.2.2.2.2.2.2.2.1 _ _|exact c.2.2.2.2.2.2.2.1 _ _ _|exact c.2.2.2.2.2.2.2.1 _ _ _ _|exact c.2.2.2.2.2.2.2.1 _ _ _ _ _) (by repeat' first|exact J1.nil|refine J1.cons (by first|exact Sub.refl _|exact Sub.rop rfl) ?_) (fun u w h=>Z ?_))|refine AU (Td (by with_reducible first|(apply c.1; assumption)|(apply c.2.1; assumption)|(apply c.2.2.1; assumption)|(apply c.2.2.2.1; assumption)|(apply c.2.2.2.2.1; assumption)|(apply c.2.2.2.2.2.1; assumption)|(apply c.2.2.2.2.2.2.1; assumption)|(apply c.2.2.2.2.2.2.2.1; assumption)) (by repeat' first|exact J1.nil|refine J1.cons (by first|exact Sub.refl _|exact Sub.rop rfl) ?_)) (Z ?_))
  |((with_reducible show Tc _ _ _ _ _); cases h; exact ms)
  |(cases h; simp only [go_sem]; done)
  |refine Bn rfl rfl (Z ?_)
  |refine Aj rfl rfl (Z ?_)
  |refine BS [] .fin (by kernel_rfl) (Z ?_)):p:=e c h
end Go.Proofs.YtoncbhomocgmcaaGreatDoor.Ab
