/-
  Loops, and names. No program is in sight.
-/
import Derived.Test.YtaedfiifhjlmlaaGreatPlTT
namespace Go.Proofs.YtaedfiifhjlmlaaGreat.Ab
set_option linter.unusedVariables false
set_option linter.unusedSimpArgs false
open Go.RowKit
theorem btf (b:Bool):b=true∨b=false:=Bool.eq_false_or_eq_true b
theorem bgE:Big=4294967296:=rfl
def run {α σ ρ:Type} (f:σ→α→Option ρ ⊕ σ) (e:σ→Option ρ):List α→σ→Option ρ
 | [],s=>e s
 |x::l,s=>match f s x with
  | .inl r=>r
  | .inr t=>run f e l t
theorem ZW {α σ ρ:Type} (L:Nat→σ→Int→Option ρ) (l:List α) (c K:Nat) (I:List α→σ→Prop) (f:σ→α→Option ρ ⊕ σ) (e:σ→Option ρ)
  (hs:∀n pre x post s,l=pre++x::post→I pre s→K≤n→L (n+c) s (pre.length:Int)=match f s x with| .inl r=>r| .inr t=>L n t ((List.length (pre++[x]):Nat):Int))
  (hi:∀pre x post s t,l=pre++x::post→I pre s→f s x= .inr t→I (pre++[x]) t)
  (he:∀n s,I l s→K≤n→L (n+1) s (l.length:Int)=e s):
  ∀ (post pre:List α) (s:σ) (n:Nat),l=pre++post→I pre s→K+c*post.length+1≤n→L n s (pre.length:Int)=run f e post s:=by
 intro post
 induction post with
 |nil=>
  intro pre s n h hI hn
  obtain⟨n,rfl⟩:∃m,n=m+1:=⟨n - 1,by omega⟩
  rw [List.append_nil] at h
  subst h
  exact he n s hI (by simp at hn; omega)
 |cons x post ih=>
  intro pre s n h hI hn
  rw [List.length_cons,Nat.mul_add,Nat.mul_one] at hn
  obtain⟨n,rfl⟩:∃m,n=m+c:=⟨n - c,by omega⟩
  rw [hs n pre x post s h hI (by omega),run]
  cases hf:f s x with
  |inl r=>rfl
  |inr t=>exact ih (pre++[x]) t n (by rw [h]; simp) (hi pre x post s t h hI hf) (by omega)
theorem X1 {α σ ρ:Type} {L:Nat→σ→Int→Option ρ} (l:List α) (c K:Nat) (f:σ→α→Option ρ ⊕ σ) (e:σ→Option ρ) (s:σ) (n:Nat)
  (hs:∀n pre x post s,l=pre++x::post→K≤n→L (n+c) s (pre.length:Int)=match f s x with| .inl r=>r| .inr t=>L n t ((List.length (pre++[x]):Nat):Int))
  (he:∀n s,K≤n→L (n+1) s (l.length:Int)=e s) (hn:K+c*l.length+1≤n):L n s 0=run f e l s:=
 ZW L l c K (fun _ _=>True) f e (fun n pre x post s h _=>hs n pre x post s h) (fun _ _ _ _ _ _ _ _=>trivial) (fun n s _=>he n s) l [] s n rfl trivial hn
theorem IK {α:Type} {L:Nat→Int→Option Bool} (l:List α) (c K:Nat) (p:α→Bool) (n:Nat)
  (hs:∀n pre x post,l=pre++x::post→K≤n→L (n+c) (pre.length:Int)=if p x=true then L n ((List.length (pre++[x]):Nat):Int) else some false)
  (he:∀n,K≤n→L (n+1) (l.length:Int)=some true) (hn:K+c*l.length+1≤n):L n 0=some (l.all p):=by
 have:=X1 (L:=fun n (_:Unit) i=>L n i) l c K (fun _ x=>if p x=true then .inr () else .inl (some false)) (fun _=>some true) () n
  (fun n pre x post s h hk=>by
   show L (n+c) _=_
   rw [hs n pre x post h hk]
   by_cases hp:p x=true
   ·simp only [hp,if_true]
   ·simp only [hp,if_false,Bool.false_eq_true]) (fun n s hk=>he n hk) hn
 refine this.trans ?_
 clear this hs he hn
 induction l with
 |nil=>rfl
 |cons x l ih=>
  rw [run,List.all_cons]
  by_cases hp:p x=true
  ·simp only [hp,if_true,Bool.true_and]; exact ih
  ·simp only [hp,if_false,Bool.false_eq_true]; simp [hp]
def idx {α:Type} (p:α→Bool):List α→Int
 | [] => -1
 |x::l=>if p x=true then 0 else if idx p l= -1 then -1 else idx p l+1
theorem J2 {α:Type} (p:α→Bool):∀l:List α,-1≤idx p l∧idx p l<l.length∧(idx p l= -1↔l.any p=false)
 | [] =>by simp [idx]
 | x::l=>by
  have ih:=J2 p l
  rw [idx]
  by_cases hp:p x=true
  ·simp [hp]
  ·by_cases h:idx p l= -1
   ·simp [hp,h]; refine⟨by omega,?_⟩; simpa using ih.2.2.1 h
   ·simp only [hp,h,if_false,List.length_cons,List.any_cons,Bool.false_or,Bool.false_eq_true]
    refine⟨by omega,by omega,?_⟩
    have:¬(l.any p=false):=fun h'=>h (ih.2.2.2 h')
    constructor
    ·intro h'; omega
    ·intro h'; exact absurd (by simpa [hp] using h') this
theorem J6 {α:Type} (p:α→Bool) (l:List α):decide (0≤idx p l)=l.any p:=by
 have:=J2 p l
 cases h:l.any p with
 |false=>have:=this.2.2.2 h; simp; omega
 |true=>
  have h2:idx p l≠ -1:=fun h'=>by rw [this.2.2.1 h'] at h; cases h
  simp; omega
theorem Sh {α:Type} (p:α→Bool) (l:List α):decide (idx p l<0)= !l.any p:=by
 have:=J6 p l
 rw [← this]; simp only [← decide_not]; congr 1; simp
theorem Wh {α:Type} {p:α→Bool} {l:List α} (h:l.any p=true):∃x,at? l (idx p l)=some x∧p x=true∧x ∈ l:=by
 induction l with
 |nil=>simp at h
 | cons x l ih=>
  rw [idx]
  by_cases hp:p x=true
  ·rw [if_pos hp]; exact⟨x,by simp [at?],hp,by simp⟩
  ·have h':l.any p=true:=by simpa [hp] using h
   have hi:=J2 p l
   have h2:idx p l≠ -1:=fun h'=>by have:=hi.2.2.1 h'; simp_all
   obtain⟨y,hy,hpy,hm⟩:=ih h'
   rw [if_neg hp,if_neg h2]
   refine⟨y,?_,hpy,List.mem_cons_of_mem _ hm⟩
   rw [at?,if_pos (by omega)] at hy ⊢
   rw [show (idx p l+1).toNat =(idx p l).toNat +1 from by omega,List.getElem?_cons_succ]; exact hy
theorem HA {α:Type} {L:Nat→Int→Option Int} (l:List α) (c K:Nat) (p:α→Bool) (n:Nat)
  (hs:∀n pre x post,l=pre++x::post→K≤n→L (n+c) (pre.length:Int)=if p x=true then some (pre.length:Int) else L n ((List.length (pre++[x]):Nat):Int))
  (he:∀n,K≤n→L (n+1) (l.length:Int)=some (-1)) (hn:K+c*l.length+1≤n):L n 0=some (idx p l):=by
 have key:∀ (post pre:List α) (n:Nat),l=pre++post→K+c*post.length+1≤n→L n (pre.length:Int)=some (if idx p post= -1 then -1 else idx p post+(pre.length:Nat)):=by
  intro post
  induction post with
  |nil=>
   intro pre n h hn
   obtain⟨n,rfl⟩:∃m,n=m+1:=⟨n - 1,by omega⟩
   rw [List.append_nil] at h
   subst h
   rw [he n (by simp at hn; omega)]; simp [idx]
  | cons x post ih=>
   intro pre n h hn
   rw [List.length_cons,Nat.mul_add,Nat.mul_one] at hn
   obtain⟨n,rfl⟩:∃m,n=m+c:=⟨n - c,by omega⟩
   rw [hs n pre x post h (by omega),idx]
   by_cases hp:p x=true
   ·rw [if_pos hp,if_pos hp,if_neg (by omega)]; simp
   ·rw [if_neg hp,if_neg hp,ih (pre++[x]) n (by rw [h]; simp) (by omega)]
    have:=J2 p post
    by_cases h1:idx p post= -1
    ·rw [if_pos h1,if_pos h1,if_pos rfl]
    ·rw [if_neg h1,if_neg h1,if_neg (by omega)]; congr 1; simp; omega
 have:=key l [] n rfl hn
 simp only [List.length_nil] at this
 refine Eq.trans this ?_
 congr 1
 by_cases h1:idx p l= -1
 ·rw [if_pos h1,h1]
 ·rw [if_neg h1]; simp
def HF (s:ByteArray):List Int:=s.data.toList.map (fun b=>(b.toNat:Int))
theorem FF (s:ByteArray):(HF s).length =s.size:=by unfold HF; simp
theorem Vs (s:ByteArray) (i:Int):atB s i=at? (HF s) i:=by
 unfold atB at? HF
 split
 ·rw [List.getElem?_map]
  congr 1
  by_cases h:i.toNat<s.size
  ·rw [getElem?_pos s _ h,List.getElem?_eq_getElem (by simpa using h)]; rfl
  ·rw [getElem?_neg s _ h,List.getElem?_eq_none (by simpa using h)]
 ·rfl
def Di (b:Int):Bool:=(decide (97≤b)&&decide (b≤122))||(decide (65≤b)&&decide (b≤90))
def HG (b:Int):Bool:=decide (48≤b)&&decide (b≤57)
theorem UX (b:Int):F4 b=some (Di b):=by
 unfold F4 Di
 by_cases h1:97≤b <;> by_cases h2:b≤122 <;> by_cases h3:65≤b <;> simp [h1,h2,h3]
theorem Wj (b:Int):IA b=some (HG b):=by
 unfold IA HG
 by_cases h1:48≤b <;> simp [h1]
theorem Wl (b:Int):JK b=some (HG b):=Wj b
theorem Wm (b:Int):Hq b=some (decide (97≤b)&&decide (b≤122)):=by
 unfold Hq
 by_cases h1:97≤b <;> simp [h1]
theorem SA (b:Int):F7 b=some (decide (65≤b)&&decide (b≤90)):=by
 unfold F7
 by_cases h1:65≤b <;> simp [h1]
theorem dV (b:Int):GK b=some (Di b||HG b):=by
 unfold GK Di
 rw [Wm,AA]
 by_cases h1:(decide (97≤b)&&decide (b≤122))=true
 ·rw [if_pos h1,h1]; simp
 ·rw [if_neg h1,SA,AA]
  simp only [Bool.not_eq_true] at h1
  rw [h1]
  by_cases h2:(decide (65≤b)&&decide (b≤90))=true
  ·rw [if_pos h2,h2]; simp
  ·rw [if_neg h2,Wl,AA]
   simp only [Bool.not_eq_true] at h2
   rw [h2]; simp
def KW:List ByteArray:=[(ByteArray.mk #[100,97,116,97]),(ByteArray.mk #[100,101,102]),(ByteArray.mk #[108,101,116]),(ByteArray.mk #[105,110]),(ByteArray.mk #[109,97,116,99,104]),(ByteArray.mk #[105,102]),(ByteArray.mk #[116,104,101,110]),(ByteArray.mk #[101,108,115,101])]
def kwB (s:ByteArray):Bool:=KW.any fun k=>sameStr k s
theorem Hc (a b:ByteArray):sameStr a b=sameStr b a:=by unfold sameStr; exact Bool.beq_comm
theorem jn (s:ByteArray):Gy s=some (kwB s):=by
 unfold Gy
 have h:Fe=some KW:=rfl
 have:=IK (L:=fun n i=>(CI n s i).map not) KW 1 0 (fun k=> !sameStr k s) fuel
  (fun n pre x post hh _=>by
   simp only [CI,h,AA]
   rw [if_pos (Ai hh),AW hh,AA,AP hh (by decide)]
   by_cases hx:sameStr x s=true
   ·simp [hx]
   ·simp [hx])
  (fun n _=>by simp only [CI,h,AA]; simp) (by rw [BL]; decide)
 cases hk:CI fuel s 0 with
 |none=>simp [hk] at this
 |some b=>
  simp only [hk,Option.map_some,Option.some.injEq] at this
  congr 1
  rw [← Bool.not_not b,this,kwB,List.all_eq_not_any_not]
  simp
theorem UY (l:List ByteArray) (s:ByteArray) (hl:l.length≤Big):EY l s=some (idx (fun k=>sameStr s k) l):=by
 unfold EY
 refine HA (L:=fun n i=>Bd n l s i) l 1 0 _ fuel (fun n pre x post hh _=>?_) (fun n _=>?_) (by rw [BL]; unfold Big at hl; omega)
 ·simp only [Bd]
  rw [if_pos (Ai hh),AW hh,AA,AP hh hl]
 ·simp only [Bd]; simp
theorem IJ (l:List ByteArray) (s:ByteArray) (hl:l.length≤Big):BM l s=some (l.any fun k=>sameStr s k):=by
 unfold BM
 rw [UY l s hl,AA,J6]
theorem jo (s:ByteArray):G0 s=some (kwB s):=by
 unfold G0
 rw [IJ _ _ (by decide),AA]
 congr 1
 unfold kwB KW
 simp only [Hc s]
def K9 (s:ByteArray):Int:=(HF s).headD 0
theorem Lj {s:ByteArray} (h:1≤s.size):atB s 0=some (K9 s):=by
 rw [Vs,at?,if_pos (by decide),K9]
 have:=FF s
 cases hb:HF s with
 |nil=>rw [hb] at this; simp at this; omega
 |cons x l=>rfl
theorem ZX {s:ByteArray} (h:1≤s.size):K9 s ∈ HF s:=by
 have:=FF s
 rw [K9]
 cases hb:HF s with
 |nil=>rw [hb] at this; simp at this; omega
 |cons x l=>simp
def KL (s:ByteArray):Bool:=decide (1≤s.size)&&decide (s.size≤12)&&Di (K9 s)&& !kwB s&&(HF s).all fun b=>Di b||HG b
theorem On (s:ByteArray):JH s=some (KL s):=by
 unfold JH Ey KL
 by_cases h1:s.size<1
 ·rw [if_pos (by simp; omega),if_pos rfl]; simp; omega
 ·rw [if_neg (by simp; omega)]
  by_cases h2:12<s.size
  ·rw [if_pos (by simp; omega),if_pos rfl]; simp; omega
  ·rw [if_neg (by simp; omega),Lj (by omega),AA,UX,AA]
   have e1:decide (1≤s.size)=true:=by simp; omega
   have e2:decide (s.size≤12)=true:=by simp; omega
   rw [e1,e2]
   by_cases h3:Di (K9 s)=true
   ·rw [h3,if_neg (by simp),jn,AA]
    by_cases h4:kwB s=true
    ·rw [if_pos h4,h4]; simp
    ·rw [if_neg h4]
     simp only [Bool.not_eq_true] at h4
     rw [h4]
     have hl:=FF s
     refine(IK (L:=fun n i=>Dc n s i) (HF s) 2 0 (fun b=>Di b||HG b) fuel (fun n pre x post hh _=>?_) (fun n _=>?_) (by rw [BL]; omega)).trans (by simp)
     ·simp only [Dc]
      rw [← FF s,if_pos (Ai hh),Vs,AW hh,AA,UX,AA]
      by_cases h5:Di x=true
      ·simp only [h5,Bool.not_true,Bool.true_or,if_true,if_false,Bool.false_eq_true,Ex]
       rw [AP hh (by unfold Big; omega)]
      ·simp only [Bool.not_eq_true] at h5
       simp only [h5,Bool.not_false,Bool.false_or,if_true,AA,Wj,Ex]
       by_cases h6:HG x=true
       ·simp only [h6,Bool.not_true,if_false,if_true,Bool.false_eq_true]
        rw [AP hh (by unfold Big; omega)]
       ·simp only [Bool.not_eq_true] at h6
        simp [h6]
     ·simp only [Dc]; rw [← FF s]; simp
   ·simp only [Bool.not_eq_true] at h3
    rw [h3,if_pos (by simp),if_pos rfl]; simp
theorem Oo (s:ByteArray):JL s=some (KL s):=by
 unfold JL E4 KL
 by_cases h1:s.size<1
 ·rw [if_pos (by simp; omega),if_pos rfl]; simp; omega
 ·rw [if_neg (by simp; omega)]
  by_cases h2:12<s.size
  ·rw [if_pos (by simp; omega),if_pos rfl]; simp; omega
  ·rw [if_neg (by simp; omega),Lj (by omega),AA,Wl,AA]
   have e1:decide (1≤s.size)=true:=by simp; omega
   have e2:decide (s.size≤12)=true:=by simp; omega
   rw [e1,e2]
   by_cases h3:HG (K9 s)=true
   ·have:Di (K9 s)=false:=by
     unfold HG at h3; unfold Di; simp at h3 ⊢; omega
    rw [if_pos h3,if_pos rfl,this]; simp
   ·rw [if_neg h3,jo,AA]
    simp only [Bool.not_eq_true] at h3
    by_cases h4:kwB s=true
    ·rw [if_pos h4,h4]; simp
    ·rw [if_neg h4]
     simp only [Bool.not_eq_true] at h4
     rw [h4]
     have hl:=FF s
     have hm:=ZX (s:=s) (by omega)
     refine(IK (L:=fun n i=>EB n s i) (HF s) 1 0 (fun b=>Di b||HG b) fuel (fun n pre x post hh _=>?_) (fun n _=>?_) (by rw [BL]; omega)).trans ?_
     ·simp only [EB]
      rw [← FF s,if_pos (Ai hh),Vs,AW hh,AA,dV,AA]
      by_cases h5:(Di x||HG x)=true
      ·rw [h5,if_neg (by simp),if_pos rfl,AP hh (by unfold Big; omega)]
      ·simp only [Bool.not_eq_true] at h5
       rw [h5]; simp
     ·simp only [EB]; rw [← FF s]; simp
     ·congr 1
      cases ha:(HF s).all fun b=>Di b||HG b with
      |false=>simp
      |true=>
       have:=List.all_eq_true.1 ha _ hm
       rw [h3] at this
       simp at this
       simp [this]
theorem Hv {s:ByteArray} (h:KL s=true):1≤s.size∧Di (K9 s)=true:=by
 unfold KL at h; simp at h; exact⟨by omega,h.1.1.2⟩
def upB (s:ByteArray):Bool:=KL s&&decide (K9 s≤90)
def lowB (s:ByteArray):Bool:=KL s&&decide (97≤K9 s)
theorem Hd (s:ByteArray):FM s=some (upB s):=by
 unfold FM upB
 rw [On,AA]
 by_cases h:KL s=true
 ·rw [if_pos h,Lj (Hv h).1,h]; simp
 ·rw [if_neg h]; simp only [Bool.not_eq_true] at h; rw [h]; rfl
theorem He (s:ByteArray):F8 s=some (upB s):=by
 unfold F8 upB
 rw [Oo,AA]
 by_cases h:KL s=true
 ·rw [if_pos h,Lj (Hv h).1,AA,SA,AA,h]
  have:=(Hv h).2
  unfold Di at this
  congr 1
  simp at this ⊢; intro; omega
 ·rw [if_neg h]; simp only [Bool.not_eq_true] at h; rw [h]; rfl
theorem J3 (s:ByteArray):Gi s=some (lowB s):=by
 unfold Gi lowB
 rw [On,AA]
 by_cases h:KL s=true
 ·rw [if_pos h,Lj (Hv h).1,h]; simp
 ·rw [if_neg h]; simp only [Bool.not_eq_true] at h; rw [h]; rfl
theorem J4 (s:ByteArray):Gk s=some (lowB s):=by
 unfold Gk lowB
 rw [Oo,AA]
 by_cases h:KL s=true
 ·rw [if_pos h,Lj (Hv h).1,AA,Wm,AA,h]
  have:=(Hv h).2
  unfold Di at this
  congr 1
  simp at this ⊢; intro; omega
 ·rw [if_neg h]; simp only [Bool.not_eq_true] at h; rw [h]; rfl
theorem NM {α σ ρ:Type} {L:Nat→σ→Int→Option ρ} (l:List α) (c K:Nat) (S:List α→σ) (ok:α→Bool) (bad e:Option ρ) (n:Nat)
  (hs:∀n pre x post,l=pre++x::post→(∀y ∈ pre,ok y=true)→K≤n→L (n+c) (S pre) (pre.length:Int)=if ok x=true then L n (S (pre++[x])) ((List.length (pre++[x]):Nat):Int) else bad)
  (he:∀n,(∀y ∈ l,ok y=true)→K≤n→L (n+1) (S l) (l.length:Int)=e) (hn:K+c*l.length+1≤n):L n (S []) 0=if l.all ok=true then e else bad:=by
 have key:∀ (post pre:List α) (n:Nat),l=pre++post→(∀y ∈ pre,ok y=true)→K+c*post.length+1≤n→L n (S pre) (pre.length:Int)=if post.all ok=true then e else bad:=by
  intro post
  induction post with
  |nil=>
   intro pre n h hp hn
   obtain⟨n,rfl⟩:∃m,n=m+1:=⟨n - 1,by omega⟩
   rw [List.append_nil] at h
   subst h
   rw [he n hp (by simp at hn; omega)]; simp
  | cons x post ih=>
   intro pre n h hp hn
   rw [List.length_cons,Nat.mul_add,Nat.mul_one] at hn
   obtain⟨n,rfl⟩:∃m,n=m+c:=⟨n - c,by omega⟩
   rw [hs n pre x post h hp (by omega),List.all_cons]
   by_cases hx:ok x=true
   ·rw [if_pos hx,hx,Bool.true_and]
    refine ih (pre++[x]) n (by rw [h]; simp) (fun y hy=>?_) (by omega)
    rcases List.mem_append.1 hy with h1|h1
    ·exact hp y h1
    ·rw [List.mem_singleton.1 h1]; exact hx
   ·rw [if_neg hx]
    simp only [Bool.not_eq_true] at hx
    rw [hx]; simp
 exact key l [] n rfl (fun y hy=>by simp at hy) hn
theorem Ah {α:Type} {s:α→Nat} {x:α}:∀ {l:List α},x ∈ l→s x+l.length≤szl s l
 | y::l,h=>by
  have h3:=AZ s l
  rcases List.mem_cons.1 h with rfl|h
  ·simp only [szl,List.length_cons]; omega
  ·have:=Ah (s:=s) h
   simp only [szl,List.length_cons]; omega
theorem BZ {α:Type} {l pre post:List α} {x:α} (h:l=pre++x::post):x ∈ l:=by rw [h]; simp
theorem X2 (l:List TType) (f:TType→Option Bool) (p:TType→Bool) (hl:l.length≤Big) (h:∀x ∈ l,f x=some (p x)):CN l f=some (idx p l):=by
 unfold CN
 refine HA (L:=fun n i=>Au n l i f) l 1 0 _ fuel (fun n pre x post hh _=>?_) (fun n _=>?_) (by rw [BL]; unfold Big at hl; omega)
 ·simp only [Au]
  rw [if_pos (Ai hh),AW hh,AA,AP hh hl,h x (BZ hh),AA]
 ·simp only [Au]; simp
theorem X3 (l:List Data) (f:Data→Option Bool) (p:Data→Bool) (hl:l.length≤Big) (h:∀x ∈ l,f x=some (p x)):CM l f=some (idx p l):=by
 unfold CM
 refine HA (L:=fun n i=>As n l i f) l 1 0 _ fuel (fun n pre x post hh _=>?_) (fun n _=>?_) (by rw [BL]; unfold Big at hl; omega)
 ·simp only [As]
  rw [if_pos (Ai hh),AW hh,AA,AP hh hl,h x (BZ hh),AA]
 ·simp only [As]; simp
theorem UZ (l:List Def) (f:Def→Option Bool) (p:Def→Bool) (hl:l.length≤Big) (h:∀x ∈ l,f x=some (p x)):Bz l f=some (idx p l):=by
 unfold Bz
 refine HA (L:=fun n i=>Az n l i f) l 1 0 _ fuel (fun n pre x post hh _=>?_) (fun n _=>?_) (by rw [BL]; unfold Big at hl; omega)
 ·simp only [Az]
  rw [if_pos (Ai hh),AW hh,AA,AP hh hl,h x (BZ hh),AA]
 ·simp only [Az]; simp
theorem X4 (l:List Term) (f:Term→Option Bool) (p:Term→Bool) (hl:l.length≤Big) (h:∀x ∈ l,f x=some (p x)):CP l f=some (idx p l):=by
 unfold CP
 refine HA (L:=fun n i=>Aw n l i f) l 1 0 _ fuel (fun n pre x post hh _=>?_) (fun n _=>?_) (by rw [BL]; unfold Big at hl; omega)
 ·simp only [Aw]
  rw [if_pos (Ai hh),AW hh,AA,AP hh hl,h x (BZ hh),AA]
 ·simp only [Aw]; simp
theorem ZY (l:List ByteArray) (f:ByteArray→Option Bool) (p:ByteArray→Bool) (hl:l.length≤Big) (h:∀x ∈ l,f x=some (p x)):Cz l f=some (idx p l):=by
 unfold Cz
 refine HA (L:=fun n i=>A7 n l i f) l 1 0 _ fuel (fun n pre x post hh _=>?_) (fun n _=>?_) (by rw [BL]; unfold Big at hl; omega)
 ·simp only [A7]
  rw [if_pos (Ai hh),AW hh,AA,AP hh hl,h x (BZ hh),AA]
 ·simp only [A7]; simp
theorem SB (l:List TType) (f:TType→Option Bool) (p:TType→Bool) (hl:l.length≤Big) (h:∀x ∈ l,f x=some (p x)):Av l f=some (l.any p):=by
 unfold Av
 rw [X2 l f p hl h,AA,J6]
theorem UK (l:List Def) (f:Def→Option Bool) (p:Def→Bool) (hl:l.length≤Big) (h:∀x ∈ l,f x=some (p x)):BQ l f=some (l.any p):=by
 unfold BQ
 rw [UZ l f p hl h,AA,J6]
theorem Xq (l:List Term) (f:Term→Option Bool) (p:Term→Bool) (hl:l.length≤Big) (h:∀x ∈ l,f x=some (p x)):Br l f=some (l.any p):=by
 unfold Br
 rw [X4 l f p hl h,AA,J6]
theorem ZT (l:List ByteArray) (f:ByteArray→Option Bool) (p:ByteArray→Bool) (hl:l.length≤Big) (h:∀x ∈ l,f x=some (p x)):CQ l f=some (l.any p):=by
 unfold CQ
 rw [ZY l f p hl h,AA,J6]
def dIdx (l:List Data) (s:ByteArray):Int:=idx (fun d=>sameStr d.name s) l
def fIdx (l:List Def) (s:ByteArray):Int:=idx (fun d=>sameStr d.name s) l
theorem L2 (l:List Data) (s:ByteArray) (hl:l.length≤Big):Gg l s=some (dIdx l s):=by
 unfold Gg dIdx
 refine HA (L:=fun n i=>C7 n l s i) l 1 0 _ fuel (fun n pre x post hh _=>?_) (fun n _=>?_) (by rw [BL]; unfold Big at hl; omega)
 ·simp only [C7]
  rw [if_pos (Ai hh),AW hh,AA,AP hh hl]
 ·simp only [C7]; simp
theorem Iw (l:List Def) (s:ByteArray) (hl:l.length≤Big):Fw l s=some (fIdx l s):=by
 unfold Fw fIdx
 refine HA (L:=fun n i=>C6 n l s i) l 1 0 _ fuel (fun n pre x post hh _=>?_) (fun n _=>?_) (by rw [BL]; unfold Big at hl; omega)
 ·simp only [C6]
  rw [if_pos (Ai hh),AW hh,AA,AP hh hl]
 ·simp only [C6]; simp
theorem L5 (l:List Data) (s:ByteArray) (hl:l.length≤Big):Gj l s=some (dIdx l s):=by
 unfold Gj dIdx
 rw [X3 l (fun y0=>HY y0 s) (fun d=>sameStr d.name s) hl (fun x _=>rfl),AA]
theorem J0 (p:TProgram) (s:ByteArray) (hl:p.defs.length≤Big):CO p s=some (fIdx p.defs s):=by
 unfold CO fIdx
 rw [UZ p.defs (fun y0=>Du y0 s) (fun d=>sameStr d.name s) hl (fun x _=>rfl),AA]
theorem ZR (a b c:Int):HW a b c=some (decide (b≤a)&&decide (a≤c)):=by
 unfold HW
 by_cases h:b≤a <;> simp [h]
def Sa (s:ByteArray):Bool:=sameStr s (ByteArray.mk #[])
def HE (s:ByteArray):Bool:=sameStr s (ByteArray.mk #[73,110,116])
def locT (t:TType):Bool:=
 if t.kind=1 then Sa t.name&&decide (t.kids.length=0)
 else if t.kind=2 then upB t.name&& !HE t.name&&decide (t.kids.length=0)
 else if t.kind=3 then Sa t.name&&decide (t.kids.length=2)
 else if t.kind=4 then Sa t.name&&decide (t.kids.length=1)
 else false
mutual
def TType.okB:TType→Bool
 |⟨k,nm,ks⟩=>locT ⟨k,nm,ks⟩&&TType.okBs ks
def TType.okBs:List TType→Bool
 | [] =>true
 |x::l=>TType.okB x&&TType.okBs l
end
theorem TType.okBs_eq:∀l:List TType,TType.okBs l=l.all TType.okB
 | [] =>rfl
 |x::l=>by rw [TType.okBs,List.all_cons,TType.okBs_eq l]
theorem TType.okB_eq (t:TType):t.okB=(locT t&&t.kids.all TType.okB):=by cases t; rw [TType.okB,TType.okBs_eq]
mutual
def TType.dep:TType→Nat
 |⟨_,_,ks⟩=>TType.deps ks
def TType.deps:List TType→Nat
 | [] =>1
 |x::l=>max (TType.dep x+1) (TType.deps l)
end
mutual
def TType.cnt:TType→Nat
 |⟨_,_,ks⟩=>TType.cnts ks
def TType.cnts:List TType→Nat
 | [] =>1
 |x::l=>TType.cnt x+TType.cnts l
end
theorem TType.dep_eq (t:TType):t.dep=TType.deps t.kids:=by cases t; rfl
theorem TType.cnt_eq (t:TType):t.cnt=TType.cnts t.kids:=by cases t; rfl
theorem TType.deps_app (x:TType):∀l:List TType,TType.deps (l++[x])=max (TType.deps l) (x.dep+1)
 | [] =>by simp only [List.nil_append,TType.deps]; omega
 |y::l=>by simp only [List.cons_append,TType.deps,TType.deps_app x l]; omega
theorem TType.cnts_app (x:TType):∀l:List TType,TType.cnts (l++[x])=TType.cnts l+x.cnt
 | [] =>by simp only [List.nil_append,TType.cnts]; omega
 |y::l=>by simp only [List.cons_append,TType.cnts,TType.cnts_app x l]; omega
theorem TType.deps_le:∀ {l:List TType} {d:Nat},1≤d→(TType.deps l≤d↔∀x ∈ l,x.dep+1≤d)
 | [],d,h=>by simp [TType.deps]; exact h
 |y::l,d,h=>by
  have:=TType.deps_le (l:=l) h
  simp only [TType.deps,List.mem_cons,forall_eq_or_imp,← this]; omega
theorem TType.one_le (l:List TType):1≤TType.deps l∧1≤TType.cnts l:=by
 induction l with
 |nil=>simp [TType.deps,TType.cnts]
 |cons x l ih=>simp only [TType.deps,TType.cnts]; omega
theorem TType.cnts_le {l:List TType} (h:∀x ∈ l,x.cnt≤x.sz+1):TType.cnts l≤szl TType.sz l+1:=by
 induction l with
 |nil=>simp [TType.cnts]
 |cons x l ih=>
  have h1:=h x (by simp)
  have h2:=ih fun y hy=>h y (by simp [hy])
  simp only [TType.cnts,szl]; omega
theorem TType.cnt_le:∀t:TType,t.cnt≤t.sz+1:=by
 refine TType.ind fun t ih=>?_
 have:=TType.cnts_le ih
 rw [TType.cnt_eq,TType.sz_eq]; omega
theorem TType.deps_cnts {l:List TType} (h:∀x ∈ l,x.dep≤x.cnt):TType.deps l≤TType.cnts l:=by
 induction l with
 |nil=>simp [TType.deps,TType.cnts]
 |cons x l ih=>
  have h1:=h x (by simp)
  have h2:=ih fun y hy=>h y (by simp [hy])
  have:=TType.one_le l
  simp only [TType.deps,TType.cnts]; omega
theorem TType.dep_le:∀t:TType,t.dep≤t.cnt:=by
 refine TType.ind fun t ih=>?_
 rw [TType.cnt_eq,TType.dep_eq]; exact TType.deps_cnts ih
theorem TType.cnts_pre {l pre post:List TType} {x:TType} (h:l=pre++x::post):TType.cnts pre+x.cnt≤szl TType.sz l+1:=by
 have h1:TType.cnts l≤szl TType.sz l+1:=TType.cnts_le fun y _=>y.cnt_le
 rw [h] at h1 ⊢
 have:∀ (p:List TType),TType.cnts p+x.cnt≤TType.cnts (p++x::post):=by
  intro p
  induction p with
  |nil=>have:=TType.one_le post; simp only [List.nil_append,TType.cnts]; omega
  |cons y p ih=>simp only [List.cons_append,TType.cnts]; omega
 have:=this pre
 omega
theorem R9 {n:Nat} (h:n≤9223372036854775807):IntKind.i64.wrap ((n:Nat):Int)=(n:Int):=w64 (by omega) (by omega)
theorem Vt:∀t:TType,t.sz≤Big→∀n,16*t.sz+16≤n→∃a b,EC n t=some (a,b,t.okB)∧(t.okB=true→a=(t.dep:Int)∧b=(t.cnt:Int)):=by
 refine TType.ind fun t ih hz n hn=>?_
 obtain⟨n,rfl⟩:∃m,n=m+1:=⟨n - 1,by omega⟩
 have hsz:=t.sz_eq
 have hlen:=AZ TType.sz t.kids
 have hB:=bgE
 have hl:t.kids.length≤Big:=by omega
 rw [EC]
 have hend:∀m (p q:Int),Be (m+1) t p q (t.kids.length:Int)=some (p,q,locT t):=by
  intro m p q
  rw [Be,if_neg (by simp)]
  simp only [locT,BH,He,AA,Sa,HE]
  have z0:decide ((t.kids.length:Int)=0)=decide (t.kids.length=0):=by congr 1; exact propext ⟨fun h=>by omega,fun h=>by omega⟩
  have z1:decide ((t.kids.length:Int)=1)=decide (t.kids.length=1):=by congr 1; exact propext ⟨fun h=>by omega,fun h=>by omega⟩
  have z2:decide ((t.kids.length:Int)=2)=decide (t.kids.length=2):=by congr 1; exact propext ⟨fun h=>by omega,fun h=>by omega⟩
  rw [z0,z1,z2]
  generalize decide (t.kids.length=0)=d0
  generalize decide (t.kids.length=1)=d1
  generalize decide (t.kids.length=2)=d2
  generalize sameStr t.name (ByteArray.mk #[])=A
  generalize sameStr t.name (ByteArray.mk #[73,110,116])=J
  generalize upB t.name=U
  rcases (by omega:t.kind=1∨t.kind=2∨t.kind=3∨t.kind=4∨(t.kind≠1∧t.kind≠2∧t.kind≠3∧t.kind≠4)) with h|h|h|h|⟨h1,h2,h3,h4⟩
  ·cases A <;> simp [h]
  ·cases U <;> cases J <;> simp [h]
  ·cases A <;> simp [h]
  ·cases A <;> simp [h]
  ·simp [h1,h2,h3,h4]
 have main:=NM (L:=fun n (s:Int × Int) i=>Be n t s.1 s.2 i) t.kids 1 (16*szl TType.sz t.kids+8 - 6*t.kids.length) (fun pre=>((TType.deps pre:Int),(TType.cnts pre:Int))) TType.okB (some (0,0,false)) (some ((TType.deps t.kids:Int),(TType.cnts t.kids:Int),locT t)) n
  (fun m pre x post hh hp hk=>by
   have hx:=BZ hh
   have hm:=Ah (s:=TType.sz) hx
   have hp1:1≤t.kids.length:=List.length_pos_of_mem hx
   obtain⟨a,b,e1,e2⟩:=ih x hx (by omega) m (by omega)
   show Be (m+1) t _ _ _=_
   rw [Be,if_pos (Ai hh),AW hh,AA,e1,AA]
   by_cases ho:x.okB=true
   ·obtain⟨rfl,rfl⟩:=e2 ho
    have hc:=TType.cnts_pre hh
    have hd:=x.dep_le
    have hw:=AP hh hl
    simp only [ho,Bool.not_true,Bool.false_eq_true,if_false,if_true]
    rw [hw,show ((x.dep:Int)+1)=((x.dep+1:Nat):Int) from by simp,R9 (by omega),show ((TType.cnts pre:Int)+(x.cnt:Int))=((TType.cnts pre+x.cnt:Nat):Int) from by simp,R9 (by omega),TType.deps_app,TType.cnts_app]
    congr 1
    split <;> omega
   ·simp only [Bool.not_eq_true] at ho
    simp [ho])
  (fun m hp hk=>hend m _ _) (by omega)
 have main':Be n t 1 1 0=_:=main
 rw [main',TType.okB_eq]
 by_cases ho:t.kids.all TType.okB=true
 ·rw [if_pos ho,ho,Bool.and_true]
  exact⟨_,_,rfl,fun _=>⟨by rw [TType.dep_eq],by rw [TType.cnt_eq]⟩⟩
 ·rw [if_neg ho]
  simp only [Bool.not_eq_true] at ho
  rw [ho,Bool.and_false]
  exact⟨_,_,rfl,fun h=>by cases h⟩
theorem Vu:∀t:TType,t.sz≤Big→∀ (n:Nat) (d:Int),0≤d→d≤100→16*t.sz+16≤n→EI n t d=some (if (t.okB&&decide ((t.dep:Int)≤d))=true then (t.cnt:Int) else -1):=by
 refine TType.ind fun t ih hz n d hd0 hd1 hn=>?_
 obtain⟨n,rfl⟩:∃m,n=m+5:=⟨n - 5,by omega⟩
 have hsz:=t.sz_eq
 have hlen:=AZ TType.sz t.kids
 have hB:=bgE
 have hl:t.kids.length≤Big:=by omega
 have h1d:1≤t.dep:=by rw [TType.dep_eq]; exact(TType.one_le _).1
 by_cases hd:d<1
 ·rw [EI,if_pos (by simpa using hd),if_neg (by simp; intro; omega)]
 let okd:TType→Bool:=fun x=>x.okB&&decide ((x.dep:Int)≤d - 1)
 have hl5:∀m,16*szl TType.sz t.kids+8 - 6*t.kids.length+1*t.kids.length+1≤m→B1 m t d 1 0=if t.kids.all okd=true then some ((TType.cnts t.kids:Nat):Int) else some (-1):=by
  intro m hm
  refine NM (L:=fun n (s:Int) i=>B1 n t d s i) t.kids 1 (16*szl TType.sz t.kids+8 - 6*t.kids.length) (fun pre=>(TType.cnts pre:Int)) okd (some (-1)) _ m (fun m pre x post hh hp hk=>?_) (fun m hp hk=>?_) hm
  ·have hx:=BZ hh
   have hm:=Ah (s:=TType.sz) hx
   have hp1:1≤t.kids.length:=List.length_pos_of_mem hx
   show B1 (m+1) t d _ _=_
   rw [B1,if_pos (Ai hh),AW hh,AA,w64 (by omega) (by omega),ih x hx (by omega) m (d - 1) (by omega) (by omega) (by omega),AA]
   have ho:(x.okB&&decide ((x.dep:Int)≤d - 1))=okd x:=rfl
   rw [ho]
   by_cases hk:okd x=true
   ·have hc:=TType.cnts_pre hh
    rw [if_pos hk,if_pos hk,if_neg (by simp),AP hh hl,show ((TType.cnts pre:Int)+(x.cnt:Int))=((TType.cnts pre+x.cnt:Nat):Int) from by simp,R9 (by omega),TType.cnts_app]
   ·rw [if_neg hk,if_neg hk,if_pos (by decide)]
  ·show B1 (m+1) t d _ _=_
   rw [B1,if_neg (by simp)]
 have hall:(t.okB&&decide ((t.dep:Int)≤d))=(locT t&&t.kids.all okd):=by
  rw [TType.okB_eq,Bool.and_assoc]
  congr 1
  rw [Bool.eq_iff_iff]
  simp only [Bool.and_eq_true,List.all_eq_true,decide_eq_true_eq,okd]
  have:=TType.deps_le (l:=t.kids) (d:=d.toNat) (by omega)
  rw [TType.dep_eq]
  constructor
  ·rintro ⟨h1,h2⟩ x hx
   have:=this.1 (by omega) x hx
   exact⟨h1 x hx,by omega⟩
  ·intro h
   refine⟨fun x hx=>(h x hx).1,?_⟩
   have:=this.2 fun x hx=>by have:=(h x hx).2; omega
   omega
 rw [hall,TType.cnt_eq]
 simp only [EI,Ec,C8,Dn,Hd,AA]
 rw [hl5 (n+1) (by omega),hl5 (n+2) (by omega),locT]
 have z0:decide ((t.kids.length:Int)=0)=decide (t.kids.length=0):=by congr 1; exact propext ⟨fun h=>by omega,fun h=>by omega⟩
 have z1:decide ((t.kids.length:Int)=1)=decide (t.kids.length=1):=by congr 1; exact propext ⟨fun h=>by omega,fun h=>by omega⟩
 have z2:decide ((t.kids.length:Int)=2)=decide (t.kids.length=2):=by congr 1; exact propext ⟨fun h=>by omega,fun h=>by omega⟩
 simp only [z0,z1,z2,Sa,HE,show decide (d<1)=false from by simp; omega]
 generalize decide (t.kids.length=0)=d0
 generalize decide (t.kids.length=1)=d1
 generalize decide (t.kids.length=2)=d2
 rcases (by omega:t.kind=1∨t.kind=2∨t.kind=3∨t.kind=4∨(t.kind≠1∧t.kind≠2∧t.kind≠3∧t.kind≠4)) with h|h|h|h|⟨h1,h2,h3,h4⟩
 ·rcases btf (sameStr t.name (ByteArray.mk #[])) with hA|hA <;> cases d0 <;> rcases btf (t.kids.all okd) with hW|hW <;> simp [h,hA,hW]
 ·rcases btf (upB t.name) with hU|hU <;> rcases btf (sameStr t.name (ByteArray.mk #[73,110,116])) with hJ|hJ <;> cases d0 <;> rcases btf (t.kids.all okd) with hW|hW <;> simp [h,hU,hJ,hW]
 ·rcases btf (sameStr t.name (ByteArray.mk #[])) with hA|hA <;> cases d2 <;> rcases btf (t.kids.all okd) with hW|hW <;> simp [h,hA,hW]
 ·rcases btf (sameStr t.name (ByteArray.mk #[])) with hA|hA <;> cases d1 <;> rcases btf (t.kids.all okd) with hW|hW <;> simp [h,hA,hW]
 ·simp [h1,h2,h3,h4]
def vtB (t:TType):Bool:=t.okB&&decide (t.dep≤6)&&decide (t.cnt≤16)
theorem D8 {t:TType} (h:t.sz≤Big):16*t.sz+16≤fuel:=CY (by unfold Big at h; omega)
theorem IG (t:TType) (h:t.sz≤Big):Ez t=some (vtB t):=by
 unfold Ez vtB
 rw [Vu t h fuel 6 (by decide) (by decide) (D8 h),AA,ZR,AA]
 congr 1
 have hc:1≤t.cnt:=by rw [TType.cnt_eq]; exact(TType.one_le _).2
 cases ho:t.okB with
 |false=>simp
 | true=>
  by_cases h6:t.dep≤6
  ·rw [if_pos (by simp; omega)]
   simp [h6]; rw [Bool.eq_iff_iff]; simp; omega
  ·rw [if_neg (by simp; omega)]; simp [h6]
theorem II (t:TType) (h:t.sz≤Big):E5 t=some (vtB t):=by
 unfold E5 vtB
 obtain⟨a,b,e1,e2⟩:=Vt t h fuel (D8 h)
 rw [e1,AA]
 cases ho:t.okB with
 |false=>simp
 | true=>
  obtain⟨rfl,rfl⟩:=e2 ho
  by_cases h6:t.dep≤6
  ·simp only [if_true,show decide ((t.dep:Int)≤6)=true from by simp; omega]
   simp [h6]; omega
  ·simp only [if_true,show decide ((t.dep:Int)≤6)=false from by simp; omega]
   simp [h6]
theorem OF {t:TType} (h:vtB t=true):t.okB=true:=by unfold vtB at h; simp at h; exact h.1.1
mutual
def TType.knB (P:ByteArray→Bool):TType→Bool
 |⟨k,nm,ks⟩=>if k=2 then P nm else TType.knBs P ks
def TType.knBs (P:ByteArray→Bool):List TType→Bool
 | [] =>true
 |x::l=>TType.knB P x&&TType.knBs P l
end
theorem TType.knBs_eq (P:ByteArray→Bool):∀l:List TType,TType.knBs P l=l.all (TType.knB P)
 | [] =>rfl
 |x::l=>by rw [TType.knBs,List.all_cons,TType.knBs_eq P l]
theorem TType.knB_eq (P:ByteArray→Bool) (t:TType):t.knB P=if t.kind=2 then P t.name else t.kids.all (TType.knB P):=by cases t; rw [TType.knB,TType.knBs_eq]
def dHas (l:List Data) (s:ByteArray):Bool:=l.any fun d=>sameStr d.name s
theorem UO (l:List Data) (s:ByteArray):decide (0≤dIdx l s)=dHas l s:=J6 _ l
theorem ZZ (l:List Data) (s:ByteArray):decide (dIdx l s<0)= !dHas l s:=Sh _ l
theorem Mb (l:List Data) (hl:l.length≤Big):∀t:TType,t.sz≤Big→∀n,16*t.sz+16≤n→Dm n l t=some (t.knB (dHas l)):=by
 refine TType.ind fun t ih hz n hn=>?_
 obtain⟨n,rfl⟩:∃m,n=m+1:=⟨n - 1,by omega⟩
 have hsz:=t.sz_eq
 have hlen:=AZ TType.sz t.kids
 have hB:=bgE
 have hl':t.kids.length≤Big:=by omega
 rw [Dm,TType.knB_eq]
 by_cases hk:t.kind=2
 ·rw [if_pos (by simpa using hk),if_pos hk,L2 l _ hl,AA,UO]
 ·rw [if_neg (by simpa using hk),if_neg hk]
  refine IK (L:=fun n i=>CF n l t i) t.kids 1 (16*szl TType.sz t.kids+8 - 6*t.kids.length) _ n (fun m pre x post hh hm=>?_) (fun m hm=>?_) (by omega)
  ·have hx:=BZ hh
   have hm2:=Ah (s:=TType.sz) hx
   have hp1:1≤t.kids.length:=List.length_pos_of_mem hx
   show CF (m+1) l t _=_
   rw [CF,if_pos (Ai hh),AW hh,AA,ih x hx (by omega) m (by omega),AA,AP hh hl']
   by_cases h:x.knB (dHas l)=true
   ·rw [h]; simp
   ·simp only [Bool.not_eq_true] at h; rw [h]; simp
  ·show CF (m+1) l t _=_
   rw [CF]; simp
theorem Ix (l:List Data) (hl:l.length≤Big):∀t:TType,t.sz≤Big→t.okB=true→∀n,16*t.sz+16≤n→Do n l t=some (t.knB (dHas l)):=by
 refine TType.ind fun t ih hz ho n hn=>?_
 obtain⟨n,rfl⟩:∃m,n=m+3:=⟨n - 3,by omega⟩
 have hsz:=t.sz_eq
 have hlen:=AZ TType.sz t.kids
 have hB:=bgE
 have hl':t.kids.length≤Big:=by omega
 rw [TType.okB_eq] at ho
 simp only [Bool.and_eq_true] at ho
 have hany:Av t.kids (fun y0=>FQ (n+1) y0 l)=some (t.kids.any fun x=> !x.knB (dHas l)):=by
  refine SB _ _ _ hl' fun x hx=>?_
  have hm2:=Ah (s:=TType.sz) hx
  have hp1:1≤t.kids.length:=List.length_pos_of_mem hx
  rw [FQ,ih x hx (by omega) (List.all_eq_true.1 ho.2 x hx) n (by omega),AA]
 rw [Do,TType.knB_eq]
 by_cases hk:t.kind=2
 ·rw [if_pos (by simpa using hk),if_pos hk,L5 l _ hl,AA,ZZ,Dp,hany,AA]
  have:t.kids=[] :=by
   have:=ho.1; unfold locT at this; rw [hk] at this; simp at this; exact this.2
  rw [this]
  cases dHas l t.name <;> simp
 ·rw [if_neg (by simpa using hk),if_neg hk,Dp,hany,AA,if_neg (by simp),List.all_eq_not_any_not]
def conB (l:List Data) (c:Constructor):Bool:=upB c.name&&decide (c.fields.length≤3)&&c.fields.all fun f=>vtB f&&f.knB (dHas l)
theorem Xr (l:List Data) (hl:l.length≤Big) (c:Constructor) (hc:c.sz≤Big):JI l c=some (conB l c):=by
 unfold JI GH conB
 rw [Hd,AA]
 unfold Constructor.sz at hc
 have hlen:=AZ TType.sz c.fields
 have hB:=bgE
 cases hu:upB c.name with
 |false=>simp
 | true=>
  by_cases h3:c.fields.length≤3
  ·simp only [Bool.not_true,Bool.false_eq_true,if_false,show decide ((3:Int)<(c.fields.length:Int))=false from by simp; omega,h3,decide_true,Bool.true_and]
   refine IK (L:=fun n i=>CJ n l c i) c.fields 2 0 _ fuel (fun m pre x post hh hm=>?_) (fun m hm=>?_) (CY (by omega))
   ·have hx:=BZ hh
    have hm2:=Ah (s:=TType.sz) hx
    show CJ (m+2) l c _=_
    rw [CJ,if_pos (Ai hh),AW hh,AA,IG x (by omega),AA]
    cases hv:vtB x with
    |false=>simp [EJ]
    |true=>
     simp only [Bool.not_true,Bool.false_eq_true,if_false,AA,Mb l hl x (by omega) fuel (D8 (by omega)),Bool.true_and,EJ]
     rw [AP hh (by omega)]
     cases x.knB (dHas l) <;> simp
   ·show CJ (m+1) l c _=_
    rw [CJ]; simp
  ·simp [h3]; omega
theorem Xs (l:List Data) (hl:l.length≤Big) (c:Constructor) (hc:c.sz≤Big):DO l c=some (conB l c):=by
 unfold DO Ca conB
 rw [He,AA]
 unfold Constructor.sz at hc
 have hlen:=AZ TType.sz c.fields
 have hB:=bgE
 have hany:Av c.fields (fun y0=>Ch y0 l)=some (c.fields.any fun f=> !(vtB f&&f.knB (dHas l))):=by
  refine SB _ _ _ (by omega) fun x hx=>?_
  have hm2:=Ah (s:=TType.sz) hx
  unfold Ch
  rw [II x (by omega),AA]
  cases hv:vtB x with
  |false=>simp
  |true=>simp only [Bool.not_true,Bool.false_eq_true,if_false,Bool.true_and]; rw [Ix l hl x (by omega) (OF hv) fuel (D8 (by omega)),AA]
 rw [hany,AA,List.all_eq_not_any_not]
 cases hu:upB c.name with
 |false=>simp
 |true=>
  by_cases h3:c.fields.length≤3
  ·simp only [Bool.not_true,Bool.false_eq_true,if_false,show decide ((3:Int)<(c.fields.length:Int))=false from by simp; omega,h3,decide_true,Bool.true_and]
  ·simp [h3]; omega
end Go.Proofs.YtaedfiifhjlmlaaGreat.Ab
