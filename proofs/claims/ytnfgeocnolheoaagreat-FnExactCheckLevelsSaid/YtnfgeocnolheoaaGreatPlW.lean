/-
  Loops, and names. No program is in sight.
-/
import Derived.Test.YtnfgeocnolheoaaGreatPlTT
namespace Go.Proofs.YtnfgeocnolheoaaGreat.Ab
set_option linter.unusedVariables false
set_option maxHeartbeats 1000000
set_option linter.unusedSimpArgs false
open Go.RowKit
def run {α σ ρ:Type} (f:σ→α→Option ρ ⊕ σ) (e:σ→Option ρ):List α→σ→Option ρ
 | [],s=>e s
 |x::l,s=>match f s x with
  | .inl r=>r
  | .inr t=>run f e l t
theorem dv {α σ ρ:Type} (L:Nat→σ→Int→Option ρ) (l:List α) (c K:Nat) (I:List α→σ→Prop) (f:σ→α→Option ρ ⊕ σ) (e:σ→Option ρ)
  (hs:∀n pre x post s,l=pre++x::post→I pre s→K≤n→L (n+c) s (pre.length:Int)=match f s x with| .inl r=>r| .inr t=>L n t ((List.length (pre++[x]):Nat):Int))
  (hi:∀pre x post s t,l=pre++x::post→I pre s→f s x= .inr t→I (pre++[x]) t)
  (he:∀n s,I l s→K≤n→L (n+1) s (l.length:Int)=e s):
  ∀ (post pre:List α) (s:σ) (n:Nat),l=pre++post→I pre s→K+c*post.length+1≤n→L n s (pre.length:Int)=run f e post s:=by
 intro post
 induction post with
 |nil=>
  intro pre s n h hI hn
  obtain⟨n,rfl⟩:∃m,n=m+1:=⟨n - 1,by omega⟩
  rw [List.append_nil] at h
  subst h
  exact he n s hI (by omega)
 |cons x post ih=>
  intro pre s n h hI hn
  rw [List.length_cons,Nat.mul_add,Nat.mul_one] at hn
  obtain⟨n,rfl⟩:∃m,n=m+c:=⟨n - c,by omega⟩
  rw [hs n pre x post s h hI (by omega),run]
  grind
theorem a7 {α σ ρ:Type} {L:Nat→σ→Int→Option ρ} (l:List α) (c K:Nat) (f:σ→α→Option ρ ⊕ σ) (e:σ→Option ρ) (s:σ) (n:Nat)
  (hs:∀n pre x post s,l=pre++x::post→K≤n→L (n+c) s (pre.length:Int)=match f s x with| .inl r=>r| .inr t=>L n t ((List.length (pre++[x]):Nat):Int))
  (he:∀n s,K≤n→L (n+1) s (l.length:Int)=e s) (hn:K+c*l.length+1≤n):L n s 0=run f e l s:=
 dv L l c K (fun _ _=>True) f e (fun n pre x post s h _=>hs n pre x post s h) (fun _ _ _ _ _ _ _ _=>trivial) (fun n s _=>he n s) l [] s n rfl trivial hn
theorem If {α:Type} {L:Nat→Int→Option Bool} (l:List α) (c K:Nat) (p:α→Bool) (n:Nat)
  (hs:∀n pre x post,l=pre++x::post→K≤n→L (n+c) (pre.length:Int)=if p x=true then L n ((List.length (pre++[x]):Nat):Int) else some false)
  (he:∀n,K≤n→L (n+1) (l.length:Int)=some true) (hn:K+c*l.length+1≤n):L n 0=some (l.all p):=by
 have:=a7 (L:=fun n (_:Unit) i=>L n i) l c K (fun _ x=>if p x=true then .inr () else .inl (some false)) (fun _=>some true) () n
  (fun n pre x post s h hk=>by
   grind) (fun n s hk=>he n hk) hn
 refine this.trans ?_
 clear this hs he hn
 induction l with
 |nil=>rfl
 |cons x l ih=>
  rw [run,List.all_cons]
  grind
def idx {α:Type} (p:α→Bool):List α→Int
 | [] => -1
 |x::l=>if p x=true then 0 else if idx p l= -1 then -1 else idx p l+1
theorem Mh {α:Type} (p:α→Bool):∀l:List α,-1≤idx p l∧idx p l<l.length∧(idx p l= -1↔l.any p=false)
 | [] =>by simp [idx]
 |x::l=>by
  have ih:=Mh p l
  rw [idx]
  grind
theorem J7 {α:Type} (p:α→Bool) (l:List α):decide (0≤idx p l)=l.any p:=by
 have:=Mh p l
 grind
theorem VF {α:Type} (p:α→Bool) (l:List α):decide (idx p l<0)= !l.any p:=by
 have:=J7 p l
 rw [← this]; grind
theorem ZM {α:Type} {p:α→Bool} {l:List α} (h:l.any p=true):∃x,at? l (idx p l)=some x∧p x=true∧x ∈ l:=by
 induction l with
 |nil=>grind
 |cons x l ih=>
  rw [idx]
  grind [at?]
theorem Hg {α:Type} {L:Nat→Int→Option Int} (l:List α) (c K:Nat) (p:α→Bool) (n:Nat)
  (hs:∀n pre x post,l=pre++x::post→K≤n→L (n+c) (pre.length:Int)=if p x=true then some (pre.length:Int) else L n ((List.length (pre++[x]):Nat):Int))
  (he:∀n,K≤n→L (n+1) (l.length:Int)=some (-1)) (hn:K+c*l.length+1≤n):L n 0=some (idx p l):=by
 have key:∀ (post pre:List α) (n:Nat),l=pre++post→K+c*post.length+1≤n→L n (pre.length:Int)=some (if idx p post= -1 then -1 else idx p post+(pre.length:Nat)):=by
  intro post
  induction post with
  |nil=>
   intro pre n h hn
   obtain⟨n,rfl⟩:∃m,n=m+1:=⟨n - 1,by omega⟩
   rw [List.append_nil] at h
   grind [idx]
  | cons x post ih=>
   intro pre n h hn
   rw [List.length_cons,Nat.mul_add,Nat.mul_one] at hn
   obtain⟨n,rfl⟩:∃m,n=m+c:=⟨n - c,by omega⟩
   rw [hs n pre x post h (by omega),idx]
   by_cases hp:p x=true
   ·rw [if_pos hp,if_pos hp,if_neg (by omega)]; simp
   ·rw [if_neg hp,if_neg hp,ih (pre++[x]) n (by rw [h]; simp) (by omega)]
    have:=Mh p post
    grind
 have:=key l [] n rfl hn
 grind
def Jh (s:ByteArray):List Int:=s.data.toList.map (fun b=>(b.toNat:Int))
theorem IA (s:ByteArray):(Jh s).length =s.size:=by simp [Jh]
theorem YU (s:ByteArray) (i:Int):atB s i=at? (Jh s) i:=by
 unfold atB at? Jh
 split
 ·rw [List.getElem?_map]
  congr 1
  by_cases h:i.toNat<s.size
  ·rw [getElem?_pos s _ h,List.getElem?_eq_getElem (by simp_all)]; rfl
  simp_all
 ·rfl
def Fj (b:Int):Bool:=(decide (97≤b)&&decide (b≤122))||(decide (65≤b)&&decide (b≤90))
def Lb (b:Int):Bool:=decide (48≤b)&&decide (b≤57)
theorem XC (b:Int):HB b=some (Fj b):=by
 unfold HB Fj
 by_cases h1:97≤b <;> by_cases h2:b≤122 <;> by_cases h3:65≤b <;> simp [h1,h2,h3]
theorem ZQ (b:Int):JX b=some (Lb b):=by
 unfold JX Lb
 by_cases h1:48≤b <;> simp [h1]
theorem ZR (b:Int):Kn b=some (Lb b):=ZQ b
theorem ZS (b:Int):JF b=some (decide (97≤b)&&decide (b≤122)):=by
 unfold JF
 by_cases h1:97≤b <;> simp [h1]
theorem Ud (b:Int):HF b=some (decide (65≤b)&&decide (b≤90)):=by
 unfold HF
 by_cases h1:65≤b <;> simp [h1]
theorem je (b:Int):HV b=some (Fj b||Lb b):=by
 grind [HV,Fj,ZS,Ud,ZR]
def KW:List ByteArray:=[(ByteArray.mk #[100,97,116,97]),(ByteArray.mk #[100,101,102]),(ByteArray.mk #[108,101,116]),(ByteArray.mk #[105,110]),(ByteArray.mk #[109,97,116,99,104]),(ByteArray.mk #[105,102]),(ByteArray.mk #[116,104,101,110]),(ByteArray.mk #[101,108,115,101])]
def kwB (s:ByteArray):Bool:=KW.any fun k=>sameStr k s
theorem I3 (a b:ByteArray):sameStr a b=sameStr b a:=by grind [sameStr]
theorem qF (s:ByteArray):IS s=some (kwB s):=by
 unfold IS
 have h:Ga=some KW:=rfl
 have:=If (L:=fun n i=>(DK n s i).map not) KW 1 0 (fun k=> !sameStr k s) fuel
  (fun n pre x post hh _=>by
   simp only [DK,h,AA]
   rw [if_pos (Ah hh),AY hh,AA,AP hh (by decide)]
   grind)
  (fun n _=>by rfl) (by rw [Bg]; decide)
 cases hk:DK fuel s 0 with
 |none=>grind
 |some b=>
  grind [kwB]
theorem XD (l:List ByteArray) (s:ByteArray) (hl:l.length≤Big):FV l s=some (idx (fun k=>sameStr s k) l):=by
 unfold FV
 refine Hg (L:=fun n i=>B1 n l s i) l 1 0 _ fuel (fun n pre x post hh _=>?_) (fun n _=>?_) (by rw [Bg]; grind)
 ·simp only [B1]
  rw [if_pos (Ah hh),AY hh,AA,AP hh hl]
 grind [B1]
theorem Jg (l:List ByteArray) (s:ByteArray) (hl:l.length≤Big):Bh l s=some (l.any fun k=>sameStr s k):=by
 unfold Bh
 rw [XD l s hl,AA,J7]
theorem qG (s:ByteArray):IU s=some (kwB s):=by
 unfold IU
 rw [Jg _ _ (by decide),AA]
 grind [kwB,KW,I3]
def Mj (s:ByteArray):Int:=(Jh s).headD 0
theorem NH {s:ByteArray} (h:1≤s.size):atB s 0=some (Mj s):=by
 rw [YU,at?,if_pos (by decide),Mj]
 have:=IA s
 cases hb:Jh s with
 |nil=>rw [hb] at this; grind
 |cons x l=>rfl
theorem dw {s:ByteArray} (h:1≤s.size):Mj s ∈ Jh s:=by
 have:=IA s
 rw [Mj]
 cases hb:Jh s with
 |nil=>rw [hb] at this; grind
 |cons x l=>simp
def Qu (s:ByteArray):Bool:=decide (1≤s.size)&&decide (s.size≤12)&&Fj (Mj s)&& !kwB s&&(Jh s).all fun b=>Fj b||Lb b
theorem Qv (s:ByteArray):Kk s=some (Qu s):=by
 unfold Kk Ft Qu
 by_cases h1:s.size<1
 ·rw [if_pos (by grind),if_pos rfl]; grind
 ·rw [if_neg (by grind)]
  by_cases h2:12<s.size
  ·rw [if_pos (by grind),if_pos rfl]; grind
  ·rw [if_neg (by grind),NH (by omega),AA,XC,AA]
   have e1:decide (1≤s.size)=true:=by grind
   have e2:decide (s.size≤12)=true:=by grind
   rw [e1,e2]
   by_cases h3:Fj (Mj s)=true
   ·rw [h3,if_neg (by simp),qF,AA]
    by_cases h4:kwB s=true
    ·rw [if_pos h4,h4]; simp
    ·rw [if_neg h4]
     simp only [Bool.not_eq_true] at h4
     rw [h4]
     have hl:=IA s
     refine(If (L:=fun n i=>EO n s i) (Jh s) 2 0 (fun b=>Fj b||Lb b) fuel (fun n pre x post hh _=>?_) (fun n _=>?_) (by rw [Bg]; omega)).trans (by simp)
     ·simp only [EO]
      rw [← IA s,if_pos (Ah hh),YU,AY hh,AA,XC,AA]
      grind [HC,AP,ZQ]
     grind [EO]
   grind
theorem Qw (s:ByteArray):Ko s=some (Qu s):=by
 unfold Ko Fz Qu
 by_cases h1:s.size<1
 ·rw [if_pos (by grind),if_pos rfl]; grind
 ·rw [if_neg (by grind)]
  by_cases h2:12<s.size
  ·rw [if_pos (by grind),if_pos rfl]; grind
  ·rw [if_neg (by grind),NH (by omega),AA,ZR,AA]
   have e1:decide (1≤s.size)=true:=by grind
   have e2:decide (s.size≤12)=true:=by grind
   rw [e1,e2]
   by_cases h3:Lb (Mj s)=true
   ·have:Fj (Mj s)=false:=by
     grind [Lb,Fj]
    rw [if_pos h3,if_pos rfl,this]; simp
   ·rw [if_neg h3,qG,AA]
    simp only [Bool.not_eq_true] at h3
    by_cases h4:kwB s=true
    ·rw [if_pos h4,h4]; simp
    ·rw [if_neg h4]
     simp only [Bool.not_eq_true] at h4
     rw [h4]
     have hl:=IA s
     have hm:=dw (s:=s) (by omega)
     refine(If (L:=fun n i=>E5 n s i) (Jh s) 1 0 (fun b=>Fj b||Lb b) fuel (fun n pre x post hh _=>?_) (fun n _=>?_) (by rw [Bg]; omega)).trans ?_
     ·simp only [E5]
      rw [← IA s,if_pos (Ah hh),YU,AY hh,AA,je,AA]
      grind [AP]
     ·grind [E5]
     grind
theorem NI {s:ByteArray} (h:Qu s=true):1≤s.size∧Fj (Mj s)=true:=by
 grind [Qu]
def upB (s:ByteArray):Bool:=Qu s&&decide (Mj s≤90)
def lowB (s:ByteArray):Bool:=Qu s&&decide (97≤Mj s)
theorem I4 (s:ByteArray):GJ s=some (upB s):=by
 grind [GJ,upB,Qv,NH,NI]
theorem I5 (s:ByteArray):HG s=some (upB s):=by
 grind [HG,upB,Qw,NH,NI,Ud,Fj]
theorem LY (s:ByteArray):Hx s=some (lowB s):=by
 grind [Hx,lowB,Qv,NH,NI]
theorem LZ (s:ByteArray):H4 s=some (lowB s):=by
 grind [H4,lowB,Qw,NH,NI,ZS,Fj]
theorem K3 {α σ ρ:Type} {L:Nat→σ→Int→Option ρ} (l:List α) (c K:Nat) (S:List α→σ) (ok:α→Bool) (bad e:Option ρ) (n:Nat)
  (hs:∀n pre x post,l=pre++x::post→(∀y ∈ pre,ok y=true)→K≤n→L (n+c) (S pre) (pre.length:Int)=if ok x=true then L n (S (pre++[x])) ((List.length (pre++[x]):Nat):Int) else bad)
  (he:∀n,(∀y ∈ l,ok y=true)→K≤n→L (n+1) (S l) (l.length:Int)=e) (hn:K+c*l.length+1≤n):L n (S []) 0=if l.all ok=true then e else bad:=by
 have key:∀ (post pre:List α) (n:Nat),l=pre++post→(∀y ∈ pre,ok y=true)→K+c*post.length+1≤n→L n (S pre) (pre.length:Int)=if post.all ok=true then e else bad:=by
  intro post
  induction post with
  |nil=>
   intro pre n h hp hn
   obtain⟨n,rfl⟩:∃m,n=m+1:=⟨n - 1,by omega⟩
   rw [List.append_nil] at h
   grind
  |cons x post ih=>
   intro pre n h hp hn
   rw [List.length_cons,Nat.mul_add,Nat.mul_one] at hn
   obtain⟨n,rfl⟩:∃m,n=m+c:=⟨n - c,by omega⟩
   rw [hs n pre x post h hp (by omega),List.all_cons]
   grind
 exact key l [] n rfl (fun y hy=>by grind) hn
theorem Ac {α:Type} {s:α→Nat} {x:α}:∀ {l:List α},x ∈ l→s x+l.length≤szl s l
 | y::l,h=>by
  have h3:=AZ s l
  rcases List.mem_cons.1 h with rfl|h
  ·simp only [szl,List.length_cons]; omega
  ·have:=Ac (s:=s) h
   simp only [szl,List.length_cons]; omega
theorem BE {α:Type} {l pre post:List α} {x:α} (h:l=pre++x::post):x ∈ l:=by rw [h]; simp
theorem a8 (l:List TType) (f:TType→Option Bool) (p:TType→Bool) (hl:l.length≤Big) (h:∀x ∈ l,f x=some (p x)):Cp l f=some (idx p l):=by
 unfold Cp
 refine Hg (L:=fun n i=>A6 n l i f) l 1 0 _ fuel (fun n pre x post hh _=>?_) (fun n _=>?_) (by rw [Bg]; grind)
 ·simp only [A6]
  rw [if_pos (Ah hh),AY hh,AA,AP hh hl,h x (BE hh),AA]
 grind [A6]
theorem bA (l:List Data) (f:Data→Option Bool) (p:Data→Bool) (hl:l.length≤Big) (h:∀x ∈ l,f x=some (p x)):Co l f=some (idx p l):=by
 unfold Co
 refine Hg (L:=fun n i=>A5 n l i f) l 1 0 _ fuel (fun n pre x post hh _=>?_) (fun n _=>?_) (by rw [Bg]; grind)
 ·simp only [A5]
  rw [if_pos (Ah hh),AY hh,AA,AP hh hl,h x (BE hh),AA]
 grind [A5]
theorem XE (l:List Def) (f:Def→Option Bool) (p:Def→Bool) (hl:l.length≤Big) (h:∀x ∈ l,f x=some (p x)):CK l f=some (idx p l):=by
 unfold CK
 refine Hg (L:=fun n i=>BC n l i f) l 1 0 _ fuel (fun n pre x post hh _=>?_) (fun n _=>?_) (by rw [Bg]; grind)
 ·simp only [BC]
  rw [if_pos (Ah hh),AY hh,AA,AP hh hl,h x (BE hh),AA]
 grind [BC]
theorem bB (l:List Term) (f:Term→Option Bool) (p:Term→Bool) (hl:l.length≤Big) (h:∀x ∈ l,f x=some (p x)):Cr l f=some (idx p l):=by
 unfold Cr
 refine Hg (L:=fun n i=>A8 n l i f) l 1 0 _ fuel (fun n pre x post hh _=>?_) (fun n _=>?_) (by rw [Bg]; grind)
 ·simp only [A8]
  rw [if_pos (Ah hh),AY hh,AA,AP hh hl,h x (BE hh),AA]
 grind [A8]
theorem dx (l:List ByteArray) (f:ByteArray→Option Bool) (p:ByteArray→Bool) (hl:l.length≤Big) (h:∀x ∈ l,f x=some (p x)):Dh l f=some (idx p l):=by
 unfold Dh
 refine Hg (L:=fun n i=>BN n l i f) l 1 0 _ fuel (fun n pre x post hh _=>?_) (fun n _=>?_) (by rw [Bg]; grind)
 ·simp only [BN]
  rw [if_pos (Ah hh),AY hh,AA,AP hh hl,h x (BE hh),AA]
 grind [BN]
theorem Ue (l:List TType) (f:TType→Option Bool) (p:TType→Bool) (hl:l.length≤Big) (h:∀x ∈ l,f x=some (p x)):A7 l f=some (l.any p):=by
 unfold A7
 rw [a8 l f p hl h,AA,J7]
theorem Wy (l:List Def) (f:Def→Option Bool) (p:Def→Bool) (hl:l.length≤Big) (h:∀x ∈ l,f x=some (p x)):Bq l f=some (l.any p):=by
 unfold Bq
 rw [XE l f p hl h,AA,J7]
theorem am (l:List Term) (f:Term→Option Bool) (p:Term→Bool) (hl:l.length≤Big) (h:∀x ∈ l,f x=some (p x)):CD l f=some (l.any p):=by
 unfold CD
 rw [bB l f p hl h,AA,J7]
theorem dr (l:List ByteArray) (f:ByteArray→Option Bool) (p:ByteArray→Bool) (hl:l.length≤Big) (h:∀x ∈ l,f x=some (p x)):Cs l f=some (l.any p):=by
 unfold Cs
 rw [dx l f p hl h,AA,J7]
def dIdx (l:List Data) (s:ByteArray):Int:=idx (fun d=>sameStr d.name s) l
def fIdx (l:List Def) (s:ByteArray):Int:=idx (fun d=>sameStr d.name s) l
theorem Ni (l:List Data) (s:ByteArray) (hl:l.length≤Big):Hw l s=some (dIdx l s):=by
 unfold Hw dIdx
 refine Hg (L:=fun n i=>Dn n l s i) l 1 0 _ fuel (fun n pre x post hh _=>?_) (fun n _=>?_) (by rw [Bg]; grind)
 ·simp only [Dn]
  rw [if_pos (Ah hh),AY hh,AA,AP hh hl]
 grind [Dn]
theorem KM (l:List Def) (s:ByteArray) (hl:l.length≤Big):G1 l s=some (fIdx l s):=by
 unfold G1 fIdx
 refine Hg (L:=fun n i=>Dm n l s i) l 1 0 _ fuel (fun n pre x post hh _=>?_) (fun n _=>?_) (by rw [Bg]; grind)
 ·simp only [Dm]
  rw [if_pos (Ah hh),AY hh,AA,AP hh hl]
 grind [Dm]
theorem Nj (l:List Data) (s:ByteArray) (hl:l.length≤Big):H3 l s=some (dIdx l s):=by
 unfold H3 dIdx
 rw [bA l (fun y0=>I0 y0 s) (fun d=>sameStr d.name s) hl (fun x _=>rfl),AA]
theorem LW (p:TProgram) (s:ByteArray) (hl:p.defs.length≤Big):Cq p s=some (fIdx p.defs s):=by
 unfold Cq fIdx
 rw [XE p.defs (fun y0=>Eh y0 s) (fun d=>sameStr d.name s) hl (fun x _=>rfl),AA]
theorem ai (a b c:Int):IF a b c=some (decide (b≤a)&&decide (a≤c)):=by
 unfold IF
 by_cases h:b≤a <;> simp [h]
def U6 (s:ByteArray):Bool:=sameStr s (ByteArray.mk #[])
def Me (s:ByteArray):Bool:=sameStr s (ByteArray.mk #[73,110,116])
def locT (t:TType):Bool:=
 if t.kind=1 then U6 t.name&&decide (t.kids.length=0)
 else if t.kind=2 then upB t.name&& !Me t.name&&decide (t.kids.length=0)
 else if t.kind=3 then U6 t.name&&decide (t.kids.length=2)
 else if t.kind=4 then U6 t.name&&decide (t.kids.length=1)
 else false
mutual
def TType.okB:TType→Bool
 |⟨k,nm,ks⟩=>locT ⟨k,nm,ks⟩&&TType.okBs ks
def TType.okBs:List TType→Bool
 | [] =>true
 |x::l=>TType.okB x&&TType.okBs l
end
theorem TType.okBs_eq:∀l:List TType,TType.okBs l=l.all TType.okB
 | [] =>rfl
 |x::l=>by rw [TType.okBs,List.all_cons,TType.okBs_eq l]
theorem TType.okB_eq (t:TType):t.okB=(locT t&&t.kids.all TType.okB):=by cases t; rw [TType.okB,TType.okBs_eq]
mutual
def TType.dep:TType→Nat
 |⟨_,_,ks⟩=>TType.deps ks
def TType.deps:List TType→Nat
 | [] =>1
 |x::l=>max (TType.dep x+1) (TType.deps l)
end
mutual
def TType.cnt:TType→Nat
 |⟨_,_,ks⟩=>TType.cnts ks
def TType.cnts:List TType→Nat
 | [] =>1
 |x::l=>TType.cnt x+TType.cnts l
end
theorem TType.dep_eq (t:TType):t.dep=TType.deps t.kids:=by cases t; rfl
theorem TType.cnt_eq (t:TType):t.cnt=TType.cnts t.kids:=by cases t; rfl
theorem TType.deps_app (x:TType):∀l:List TType,TType.deps (l++[x])=max (TType.deps l) (x.dep+1)
 | [] =>by grind [TType.deps]
 |y::l=>by simp only [List.cons_append,TType.deps,TType.deps_app x l]; omega
theorem TType.cnts_app (x:TType):∀l:List TType,TType.cnts (l++[x])=TType.cnts l+x.cnt
 | [] =>by grind [TType.cnts]
 |y::l=>by simp only [List.cons_append,TType.cnts,TType.cnts_app x l]; omega
theorem TType.deps_le:∀ {l:List TType} {d:Nat},1≤d→(TType.deps l≤d↔∀x ∈ l,x.dep+1≤d)
 | [],d,h=>by grind [TType.deps]
 |y::l,d,h=>by
  have:=TType.deps_le (l:=l) h
  simp only [TType.deps,List.mem_cons,forall_eq_or_imp,← this]; omega
theorem TType.one_le (l:List TType):1≤TType.deps l∧1≤TType.cnts l:=by
 induction l with
 |nil=>simp [TType.deps,TType.cnts]
 |cons x l ih=>grind [TType.deps,TType.cnts]
theorem TType.cnts_le {l:List TType} (h:∀x ∈ l,x.cnt≤x.sz+1):TType.cnts l≤szl TType.sz l+1:=by
 induction l with
 |nil=>simp [TType.cnts]
 |cons x l ih=>
  grind [TType.cnts,szl]
theorem TType.cnt_le:∀t:TType,t.cnt≤t.sz+1:=by
 refine TType.ind fun t ih=>?_
 grind [TType.cnts_le,TType.cnt_eq,TType.sz_eq]
theorem TType.deps_cnts {l:List TType} (h:∀x ∈ l,x.dep≤x.cnt):TType.deps l≤TType.cnts l:=by
 induction l with
 |nil=>simp [TType.deps,TType.cnts]
 |cons x l ih=>
  grind [TType.one_le,TType.deps,TType.cnts]
theorem TType.dep_le:∀t:TType,t.dep≤t.cnt:=by
 refine TType.ind fun t ih=>?_
 rw [TType.cnt_eq,TType.dep_eq]; exact TType.deps_cnts ih
theorem TType.cnts_pre {l pre post:List TType} {x:TType} (h:l=pre++x::post):TType.cnts pre+x.cnt≤szl TType.sz l+1:=by
 have h1:TType.cnts l≤szl TType.sz l+1:=TType.cnts_le fun y _=>y.cnt_le
 rw [h] at h1 ⊢
 have:∀ (p:List TType),TType.cnts p+x.cnt≤TType.cnts (p++x::post):=by
  intro p
  induction p with
  |nil=>have:=TType.one_le post; grind [TType.cnts]
  |cons y p ih=>grind [TType.cnts]
 grind
theorem Uc {n:Nat} (h:n≤9223372036854775807):IntKind.i64.wrap ((n:Nat):Int)=(n:Int):=w64 (by omega) (by omega)
theorem YV:∀t:TType,t.sz≤Big→∀n,16*t.sz+16≤n→∃a b,E6 n t=some (a,b,t.okB)∧(t.okB=true→a=(t.dep:Int)∧b=(t.cnt:Int)):=by
 refine TType.ind fun t ih hz n hn=>?_
 obtain⟨n,rfl⟩:∃m,n=m+1:=⟨n - 1,by omega⟩
 have hsz:=t.sz_eq
 have hlen:=AZ TType.sz t.kids
 have hB:Big=4294967296:=rfl
 have hl:t.kids.length≤Big:=by omega
 rw [E6]
 have hend:∀m (p q:Int),B2 (m+1) t p q (t.kids.length:Int)=some (p,q,locT t):=by
  grind [B2,locT,BW,I5,U6,Me,decide]
 have main:=K3 (L:=fun n (s:Int × Int) i=>B2 n t s.1 s.2 i) t.kids 1 (16*szl TType.sz t.kids+8 - 6*t.kids.length) (fun pre=>((TType.deps pre:Int),(TType.cnts pre:Int))) TType.okB (some (0,0,false)) (some ((TType.deps t.kids:Int),(TType.cnts t.kids:Int),locT t)) n
  (fun m pre x post hh hp hk=>by
   have hx:=BE hh
   have hm:=Ac (s:=TType.sz) hx
   have hp1:1≤t.kids.length:=List.length_pos_of_mem hx
   obtain⟨a,b,e1,e2⟩:=ih x hx (by omega) m (by omega)
   show B2 (m+1) t _ _ _=_
   rw [B2,if_pos (Ah hh),AY hh,AA,e1,AA]
   by_cases ho:x.okB=true
   ·obtain⟨rfl,rfl⟩:=e2 ho
    have hc:=TType.cnts_pre hh
    have hd:=x.dep_le
    have hw:=AP hh hl
    simp only [ho,Bool.not_true,Bool.false_eq_true,if_false,if_true]
    rw [hw,show ((x.dep:Int)+1)=((x.dep+1:Nat):Int) from by simp,Uc (by omega),show ((TType.cnts pre:Int)+(x.cnt:Int))=((TType.cnts pre+x.cnt:Nat):Int) from by simp,Uc (by omega),TType.deps_app,TType.cnts_app]
    congr 1
    split <;> omega
   grind)
  (fun m hp hk=>hend m _ _) (by omega)
 have main':B2 n t 1 1 0=_:=main
 rw [main',TType.okB_eq]
 grind [TType.dep_eq,TType.cnt_eq]
theorem YW:∀t:TType,t.sz≤Big→∀ (n:Nat) (d:Int),0≤d→d≤100→16*t.sz+16≤n→FE n t d=some (if (t.okB&&decide ((t.dep:Int)≤d))=true then (t.cnt:Int) else -1):=by
 refine TType.ind fun t ih hz n d hd0 hd1 hn=>?_
 obtain⟨n,rfl⟩:∃m,n=m+5:=⟨n - 5,by omega⟩
 have hsz:=t.sz_eq
 have hlen:=AZ TType.sz t.kids
 have hB:Big=4294967296:=rfl
 have hl:t.kids.length≤Big:=by omega
 have h1d:1≤t.dep:=by rw [TType.dep_eq]; grind [TType.one_le]
 by_cases hd:d<1
 ·rw [FE,if_pos (by grind),if_neg (by grind)]
 let okd:TType→Bool:=fun x=>x.okB&&decide ((x.dep:Int)≤d - 1)
 have hl5:∀m,16*szl TType.sz t.kids+8 - 6*t.kids.length+1*t.kids.length+1≤m→Ci m t d 1 0=if t.kids.all okd=true then some ((TType.cnts t.kids:Nat):Int) else some (-1):=by
  intro m hm
  refine K3 (L:=fun n (s:Int) i=>Ci n t d s i) t.kids 1 (16*szl TType.sz t.kids+8 - 6*t.kids.length) (fun pre=>(TType.cnts pre:Int)) okd (some (-1)) _ m (fun m pre x post hh hp hk=>?_) (fun m hp hk=>?_) hm
  ·have hx:=BE hh
   have hm:=Ac (s:=TType.sz) hx
   have hp1:1≤t.kids.length:=List.length_pos_of_mem hx
   show Ci (m+1) t d _ _=_
   rw [Ci,if_pos (Ah hh),AY hh,AA,w64 (by omega) (by omega),ih x hx (by omega) m (d - 1) (by omega) (by omega) (by omega),AA]
   have ho:(x.okB&&decide ((x.dep:Int)≤d - 1))=okd x:=rfl
   rw [ho]
   by_cases hk:okd x=true
   ·have hc:=TType.cnts_pre hh
    rw [if_pos hk,if_pos hk,if_neg (by simp),AP hh hl,show ((TType.cnts pre:Int)+(x.cnt:Int))=((TType.cnts pre+x.cnt:Nat):Int) from by simp,Uc (by omega),TType.cnts_app]
   grind
  grind [Ci]
 have hall:(t.okB&&decide ((t.dep:Int)≤d))=(locT t&&t.kids.all okd):=by
  rw [TType.okB_eq,Bool.and_assoc]
  congr 1
  rw [Bool.eq_iff_iff]
  simp only [Bool.and_eq_true,List.all_eq_true,decide_eq_true_eq,okd]
  have:=TType.deps_le (l:=t.kids) (d:=d.toNat) (by omega)
  rw [TType.dep_eq]
  grind
 rw [hall,TType.cnt_eq]
 simp only [FE,Fb,Do,EX,I4,AA]
 rw [hl5 (n+1) (by omega),hl5 (n+2) (by omega),locT]
 have z0:decide ((t.kids.length:Int)=0)=decide (t.kids.length=0):=by grind
 have z1:decide ((t.kids.length:Int)=1)=decide (t.kids.length=1):=by grind
 have z2:decide ((t.kids.length:Int)=2)=decide (t.kids.length=2):=by grind
 grind [U6,Me]
def vtB (t:TType):Bool:=t.okB&&decide (t.dep≤6)&&decide (t.cnt≤16)
theorem EC {t:TType} (h:t.sz≤Big):16*t.sz+16≤fuel:=A3 (by grind)
theorem Je (t:TType) (h:t.sz≤Big):Fu t=some (vtB t):=by
 unfold Fu vtB
 rw [YW t h fuel 6 (by decide) (by decide) (EC h),AA,ai,AA]
 congr 1
 have hc:1≤t.cnt:=by rw [TType.cnt_eq]; simp [TType.one_le]
 grind
theorem Jf (t:TType) (h:t.sz≤Big):F0 t=some (vtB t):=by
 unfold F0 vtB
 obtain⟨a,b,e1,e2⟩:=YV t h fuel (EC h)
 rw [e1,AA]
 grind [decide]
theorem Mf {t:TType} (h:vtB t=true):t.okB=true:=by grind [vtB]
mutual
def TType.knB (P:ByteArray→Bool):TType→Bool
 |⟨k,nm,ks⟩=>if k=2 then P nm else TType.knBs P ks
def TType.knBs (P:ByteArray→Bool):List TType→Bool
 | [] =>true
 |x::l=>TType.knB P x&&TType.knBs P l
end
theorem TType.knBs_eq (P:ByteArray→Bool):∀l:List TType,TType.knBs P l=l.all (TType.knB P)
 | [] =>rfl
 |x::l=>by rw [TType.knBs,List.all_cons,TType.knBs_eq P l]
theorem TType.knB_eq (P:ByteArray→Bool) (t:TType):t.knB P=if t.kind=2 then P t.name else t.kids.all (TType.knB P):=by cases t; rw [TType.knB,TType.knBs_eq]
def dHas (l:List Data) (s:ByteArray):Bool:=l.any fun d=>sameStr d.name s
theorem W2 (l:List Data) (s:ByteArray):decide (0≤dIdx l s)=dHas l s:=J7 _ l
theorem dy (l:List Data) (s:ByteArray):decide (dIdx l s<0)= !dHas l s:=VF _ l
theorem OO (l:List Data) (hl:l.length≤Big):∀t:TType,t.sz≤Big→∀n,16*t.sz+16≤n→EW n l t=some (t.knB (dHas l)):=by
 refine TType.ind fun t ih hz n hn=>?_
 obtain⟨n,rfl⟩:∃m,n=m+1:=⟨n - 1,by omega⟩
 have hsz:=t.sz_eq
 have hlen:=AZ TType.sz t.kids
 have hB:Big=4294967296:=rfl
 have hl':t.kids.length≤Big:=by omega
 rw [EW,TType.knB_eq]
 by_cases hk:t.kind=2
 ·rw [if_pos (by grind),if_pos hk,Ni l _ hl,AA,W2]
 ·rw [if_neg (by grind),if_neg hk]
  refine If (L:=fun n i=>DD n l t i) t.kids 1 (16*szl TType.sz t.kids+8 - 6*t.kids.length) _ n (fun m pre x post hh hm=>?_) (fun m hm=>?_) (by omega)
  ·have hx:=BE hh
   have hm2:=Ac (s:=TType.sz) hx
   have hp1:1≤t.kids.length:=List.length_pos_of_mem hx
   show DD (m+1) l t _=_
   rw [DD,if_pos (Ah hh),AY hh,AA,ih x hx (by omega) m (by omega),AA,AP hh hl']
   grind
  grind [DD]
theorem KN (l:List Data) (hl:l.length≤Big):∀t:TType,t.sz≤Big→t.okB=true→∀n,16*t.sz+16≤n→EY n l t=some (t.knB (dHas l)):=by
 refine TType.ind fun t ih hz ho n hn=>?_
 obtain⟨n,rfl⟩:∃m,n=m+3:=⟨n - 3,by omega⟩
 have hsz:=t.sz_eq
 have hlen:=AZ TType.sz t.kids
 have hB:Big=4294967296:=rfl
 have hl':t.kids.length≤Big:=by omega
 rw [TType.okB_eq] at ho
 simp only [Bool.and_eq_true] at ho
 have hany:A7 t.kids (fun y0=>GO (n+1) y0 l)=some (t.kids.any fun x=> !x.knB (dHas l)):=by
  refine Ue _ _ _ hl' fun x hx=>?_
  have hm2:=Ac (s:=TType.sz) hx
  have hp1:1≤t.kids.length:=List.length_pos_of_mem hx
  rw [GO,ih x hx (by omega) (List.all_eq_true.1 ho.2 x hx) n (by omega),AA]
 rw [EY,TType.knB_eq]
 grind [Nj,dy,Fe,locT]
def conB (l:List Data) (c:Constructor):Bool:=upB c.name&&decide (c.fields.length≤3)&&c.fields.all fun f=>vtB f&&f.knB (dHas l)
theorem an (l:List Data) (hl:l.length≤Big) (c:Constructor) (hc:c.sz≤Big):Kl l c=some (conB l c):=by
 unfold Kl HR conB
 rw [I4,AA]
 unfold Constructor.sz at hc
 have hlen:=AZ TType.sz c.fields
 have hB:Big=4294967296:=rfl
 cases hu:upB c.name with
 |false=>simp
 | true=>
  by_cases h3:c.fields.length≤3
  ·simp only [Bool.not_true,Bool.false_eq_true,if_false,show decide ((3:Int)<(c.fields.length:Int))=false from by grind,h3,decide_true,Bool.true_and]
   refine If (L:=fun n i=>DE n l c i) c.fields 2 0 _ fuel (fun m pre x post hh hm=>?_) (fun m hm=>?_) (A3 (by omega))
   ·have hx:=BE hh
    have hm2:=Ac (s:=TType.sz) hx
    show DE (m+2) l c _=_
    rw [DE,if_pos (Ah hh),AY hh,AA,Je x (by omega),AA]
    grind [GK,OO,EC,AP]
   grind [DE]
  grind
theorem aq (l:List Data) (hl:l.length≤Big) (c:Constructor) (hc:c.sz≤Big):D6 l c=some (conB l c):=by
 unfold D6 C5 conB
 rw [I5,AA]
 unfold Constructor.sz at hc
 have hlen:=AZ TType.sz c.fields
 have hB:Big=4294967296:=rfl
 have hany:A7 c.fields (fun y0=>DN y0 l)=some (c.fields.any fun f=> !(vtB f&&f.knB (dHas l))):=by
  grind [Ue,Ac,DN,Jf,KN,Mf,EC]
 rw [hany,AA,List.all_eq_not_any_not]
 grind
end Go.Proofs.YtnfgeocnolheoaaGreat.Ab
