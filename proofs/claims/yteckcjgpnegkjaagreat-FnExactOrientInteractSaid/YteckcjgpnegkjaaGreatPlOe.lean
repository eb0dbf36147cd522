/-
  Orientations of nets: roles of ports, on both sides. No program is in sight.
-/
import Derived.Test.YteckcjgpnegkjaaGreatModO
import Derived.Test.YteckcjgpnegkjaaGreatPlTem
namespace Go.Proofs.YteckcjgpnegkjaaGreat.Ab
set_option linter.unusedVariables false
set_option maxHeartbeats 1000000
set_option linter.unusedSimpArgs false
open Go.RowKit
def tk (k:Int):Bool:=decide (k=4)||decide (k=5)
theorem NN (k:Int):Hm k=some (tk k):=by
 unfold Hm tk
 by_cases h:k=4 <;> simp [h]
theorem PF (k:Int):EF k=some (tk k):=NN k
def pl (k s:Int):Int:=
 if (if k=6∨k=12 then true else if k=2 then decide (s<2) else if k=9 then decide (s=0) else if k=3∨k=7 then decide (s=2) else if k=4∨k=8∨k=10∨k=11 then decide (0<s) else false)=true then 2 else 1
theorem a9 (k s:Int):JW k s=some (pl k s):=by
 unfold JW GV GU EN C6 pl
 grind
theorem ig (k s:Int):pl k s=1∨pl k s=2:=by
 grind [pl]
def rl (k s:Int) (r:Bool):Int:=if r=true then 3 - pl k s else pl k s
theorem d6 (k s:Int) (r:Bool):Kk k s r=some (rl k s r):=by
 grind [Kk,rl,a9,ig,w64]
theorem hD (k s:Int) (r:Bool):rl k s (!r)=3 - rl k s r:=by
 grind [rl]
theorem oE (k s:Int) (r:Bool):rl k s r=1∨rl k s r=2:=by
 have:=ig k s
 unfold rl; split <;> omega
theorem j7 {k s L:Int} {r:Bool} (hp:ports k (if k=9 then L - 1 else 0)=L) (h0:0≤s) (h1:s<L) (hk:1≤k∧k≤12) (hr:r=true→tk k=true):Hr k s r=some (rl k s r):=by
 unfold Hr GX
 rw [QB,QB,PF,AA,AA,AA]
 have hs:¬ (decide (s<0)=true):=by grind
 rw [if_neg hs,if_neg hs]
 unfold EP LS GW FU FT rl pl
 unfold ports at hp
 rcases kind_cases k with e|e|e|e|e|e|e|e|e|e|e|e|e
 all_goals first|omega|(subst e; simp [tk] at hp hr; cases r <;> simp [ports,tk] at hr ⊢ <;> grind)
theorem U8 {a:Agent} (h:agB a=true) {s:Int} (h0:0≤s) (h1:s<(a.ports.length:Int)) {r:Bool} (hr:r=true→tk a.kind=true):Hr a.kind s r=some (rl a.kind s r):=by
 have hk:1≤a.kind∧a.kind≤12:=by
  grind [agB,levB]
 grind [j7,QC]
def ro (A:List Agent) (f:Int→Bool) (p:Port):Int:=match at? A p.agent with
 |some a=>rl a.kind p.slot (f p.agent)
 |none=>0
def fn (rev:List Bool):Int→Bool:=fun k=>(at? rev k).getD false
theorem d7 {A:List Agent} {f:Int→Bool} {p q:Port} (h:get A p=some q):ro A f p=1∨ro A f p=2:=by
 grind [AZ,ro,oE]
theorem GZ {A:List Agent} {f g:Int→Bool} {p:Port} (h:f p.agent=g p.agent):ro A f p=ro A g p:=by
 unfold ro; rw [h]
theorem RL {A:List Agent} {f g:Int→Bool} {p q:Port} (hp:get A p=some q) (h:f p.agent= !g p.agent):ro A f p=3 - ro A g p:=by
 obtain⟨a,h1,-⟩:=AZ.1 hp
 unfold ro; rw [h1]; simp only; rw [h,hD]
theorem Fx {α:Type} {l:List α} {k:Int} (h0:0≤k) (h1:k<(l.length:Int)):∃x,at? l k=some x:=by
 obtain⟨x,hx,-⟩:=FF (l:=l) ⟨h0,h1⟩
 grind
theorem Mf {rev:List Bool} {k:Int} {b:Bool} (h:at? rev k=some b):fn rev k=b:=by grind [fn]
theorem SR {A:List Agent} {rev:List Bool} (hl:rev.length=A.length) {p q:Port} (h:get A p=some q):HL ⟨A⟩ rev p=some (ro A (fn rev) p):=by
 obtain⟨a,h1,-⟩:=AZ.1 h
 have hb:=Bk h1
 obtain⟨r,hr⟩:=Fx (l:=rev) hb.1 (by omega)
 unfold HL ro
 simp only
 rw [h1,AA,hr,AA,d6,AA,Mf hr]
def Fit (A:List Agent) (f:Int→Bool):Prop:=∀k a,at? A k=some a→f k=true→tk a.kind=true
theorem Kv {N:Nat} {A:List Agent} (hv:VnN N A) {rev:List Bool} (hl:rev.length=A.length) {p q:Port} (h:get A p=some q) (hf:∀a,at? A p.agent=some a→fn rev p.agent=true→tk a.kind=true):Bt ⟨A⟩ p rev=some (ro A (fn rev) p):=by
 obtain⟨a,h1,h2⟩:=AZ.1 h
 have hb:=Bk h1
 have hs:=Bk h2
 obtain⟨r,hr⟩:=Fx (l:=rev) hb.1 (by omega)
 unfold Bt ro
 simp only
 rw [h1,AA,hr,AA,U8 (hv.ag _ _ h1).1 hs.1 hs.2 (fun e=>hf a h1 (by rw [Mf hr]; exact e)),AA,Mf hr]
def Good (A:List Agent) (f:Int→Bool):Prop:=Fit A f∧∀p q,get A p=some q→ro A f p≠ro A f q
theorem EG {N:Nat} {A:List Agent} (hv:VnN N A) {p q:Port} (h:get A p=some q):get A q=some p∧p≠q:=by
 obtain⟨-,h2,h3⟩:=hv.m p q h (fun h=>h)
 grind
def fitB (A:List Agent):Nat→List Bool→Bool
 |_,[] =>true
 |i,r::rs=>(!r||(match A[i]? with|some a=>tk a.kind|none=>false))&&fitB A (i+1) rs
theorem Wy (A:List Agent) (rev:List Bool) (hB:A.length≤Big):Hn ⟨A⟩ rev=some (decide (rev.length=A.length)&&fitB A 0 rev):=by
 unfold Hn
 by_cases hl:rev.length=A.length
 ·have e:¬ ((!decide ((rev.length:Int)=(A.length:Int)))=true):=by grind
  rw [if_neg e]
  have key:∀ (post pre:List Bool) (n:Nat),rev=pre++post→2*post.length+1≤n→CL n ⟨A⟩ rev (pre.length:Int)=some (fitB A pre.length post):=by
   intro post
   induction post with
   |nil=>
    intro pre n h hn
    obtain⟨n,rfl⟩:∃k,n=k+1:=⟨n - 1,by omega⟩
    rw [CL,DL h]; rfl
   | cons r post ih=>
    intro pre n h hn
    rw [List.length_cons] at hn
    obtain⟨n,rfl⟩:∃k,n=k+2:=⟨n - 2,by omega⟩
    have hlen:pre.length<A.length:=by rw [← hl,h]; simp
    have ha:at? A (pre.length:Int)=some A[pre.length] :=Ie (by rw [List.getElem?_eq_getElem hlen])
    have hi:=ih (pre++[r]) n (by rw [h]; simp) (by omega)
    rw [List.length_append,List.length_singleton] at hi
    rw [CL,if_pos (CP h),BH h,AA,fitB,List.getElem?_eq_getElem hlen]
    cases r with
    |false=>
     rw [if_neg (by simp),C5,if_neg (by simp),Ay h (by omega)]
     grind
    |true=>
     rw [if_pos rfl]
     simp only
     rw [ha,AA,NN,AA,C5]
     cases ht:tk A[pre.length].kind with
     |false=>simp
     |true=>rw [if_neg (by simp),Ay h (by omega)]; grind
  have:=key rev [] fuel rfl (FZ (by grind))
  grind
 grind
theorem Ya (n:Net) (rev:List Bool):JX n rev=Hn n rev:=by
 have key:∀m i,C8 m n rev i=CL m n rev i∧∀b,Dh m n rev i b=C5 m n rev i b:=by
  intro m
  induction m with
  |zero=>grind [C8,CL,Dh,C5]
  |succ m ih=>
   grind [Dh,C5,C8,CL,PF,NN]
 unfold JX Hn
 rw [(key fuel 0).1]
theorem Wz (A:List Agent):∀ (rs:List Bool) (i:Nat),fitB A i rs=true↔∀j,rs[j]? =some true→∃a,A[i+j]? =some a∧tk a.kind=true
 | [],i=>by simp [fitB]
 | r::rs,i=>by
  rw [fitB,Bool.and_eq_true,Wz A rs (i+1)]
  constructor
  ·grind
  ·intro h
   refine⟨?_,fun j hj=>by have:=h (j+1) (by rw [List.getElem?_cons_succ]; exact hj); rw [show i+1+j=i+(j+1) from by omega]; omega⟩
   cases r with
   |false=>rfl
   |true=>
    obtain⟨a,h1,h2⟩:=h 0 rfl
    rw [Nat.add_zero] at h1
    rw [h1]; grind
theorem SS {A:List Agent} {rev:List Bool} (hl:rev.length=A.length):fitB A 0 rev=true↔Fit A (fn rev):=by
 rw [Wz]
 constructor
 ·intro h k a ha hk
  grind [fn,at?]
 ·intro h j hj
  have hlt:=(List.getElem?_eq_some_iff.1 hj).1
  have ha:at? A (j:Int)=some A[j] :=Ie (by rw [List.getElem?_eq_getElem (by omega)])
  exact⟨A[j],by rw [Nat.zero_add,List.getElem?_eq_getElem (by omega)],h j _ ha (by rw [Mf (Ie hj)])⟩
def bef (p q:Port):Bool:=decide (p.agent<q.agent)||(decide (p.agent=q.agent)&&decide (p.slot<q.slot))
theorem ST (p q:Port):IL p q=some (bef p q):=by
 grind [IL,bef]
theorem Yb (p q:Port):H3 p q=some (bef p q):=ST p q
theorem bef_or {p q:Port} (h:p≠q):bef p q=true∨bef q p=true:=by
 grind [bef,Ce]
def Jf (i:Nat):Nat→List Port→List Wire
 |_,[] =>[]
 |k,q::ps=>(if bef ⟨(i:Int),(k:Int)⟩ q=true then [⟨⟨(i:Int),(k:Int)⟩,q⟩] else [])++Jf i (k+1) ps
def allW:Nat→List Agent→List Wire
 |_,[] =>[]
 |i,x::xs=>Jf i 0 x.ports++allW (i+1) xs
theorem OR (i:Nat):∀ (ps:List Port) (k:Nat),(Jf i k ps).length ≤ps.length
 | [],_=>by simp [Jf]
 |_::ps,k=>by
  have:=OR i ps (k+1)
  rw [Jf,List.length_append,List.length_cons]; split <;> simp <;> omega
theorem PG:∀ (l:List Agent) (i:Nat),(allW i l).length ≤szl (fun a=>a.ports.length) l
 | [],_=>by grind [allW]
 |x::l,i=>by
  have h1:=PG l (i+1)
  grind [OR,allW,szl]
theorem d8 (A:List Agent) (i:Nat) (x:Agent) (hi:at? A (i:Int)=some x) (hx:x.Small) (Z:List Wire) (N:Nat):
  ∀ (post pre:List Port) (acc:List Wire) (m:Nat),x.ports=pre++post→acc.length+post.length≤Big→(∀m,N≤m→CF m ⟨A⟩ (acc++Jf i pre.length post) (IntKind.i64.wrap ((i:Int)+1))=some Z)→N+post.length+1≤m→CG m ⟨A⟩ (i:Int) acc (pre.length:Int)=some Z:=by
 intro post
 induction post with
 |nil=>
  intro pre acc m h hacc hR hm
  obtain⟨m,rfl⟩:∃k,m=k+1:=⟨m - 1,by omega⟩
  rw [CG]
  grind [Jf]
 | cons p post ih=>
  intro pre acc m h hacc hR hm
  simp only [List.length_cons] at hm hacc
  obtain⟨m,rfl⟩:∃k,m=k+1:=⟨m - 1,by omega⟩
  rw [CG]
  simp only
  rw [hi,AA,if_pos (CP h),AA,BH h,AA,ST,AA]
  have hnext:∀acc':List Wire,acc'=acc++(if bef ⟨(i:Int),(pre.length:Int)⟩ p=true then [⟨⟨(i:Int),(pre.length:Int)⟩,p⟩] else [])→CG m ⟨A⟩ (i:Int) acc' (IntKind.i64.wrap ((pre.length:Int)+1))=some Z:=by
   intro acc' e
   rw [Ay h hx.1]
   grind [Jf]
  by_cases hb:bef ⟨(i:Int),(pre.length:Int)⟩ p=true
  ·rw [if_pos hb,AA,BH h,AA,CQ (by grind),AA]
   grind
  grind
theorem d9 (A:List Agent) (hl:A.length≤Big) (hs:∀a ∈ A,a.Small):∀ (post pre:List Agent) (acc:List Wire) (m:Nat),A=pre++post→acc.length+szl (fun a=>a.ports.length) post≤Big→2*szl (fun a=>a.ports.length) post+1≤m→
  CF m ⟨A⟩ acc (pre.length:Int)=some (acc++allW pre.length post):=by
 intro post
 induction post with
 |nil=>
  intro pre acc m h hacc hm
  obtain⟨m,rfl⟩:∃k,m=k+1:=⟨m - 1,by omega⟩
  rw [CF]
  grind [allW]
 |cons x post ih=>
  intro pre acc m h hacc hm
  simp only [szl] at hm hacc
  obtain⟨m,rfl⟩:∃k,m=k+1:=⟨m - 1,by omega⟩
  rw [CF]
  simp only
  rw [if_pos (CP h)]
  refine d8 A pre.length x (BH h) (hs x (by rw [h]; simp)) _ (2*szl (fun a=>a.ports.length) post+1) x.ports [] acc m rfl (by omega) (fun k hk=>?_) (by omega)
  have:=OR pre.length x.ports 0
  rw [Ay h hl,ih (pre++[x]) _ k (CU h) (by grind) hk,List.length_append,List.length_singleton,allW,List.append_assoc]
  rfl
theorem UO (n:Net) (h:n.Small):Ho n=some (allW 0 n.agents):=by
 obtain⟨hl,hs⟩:=h.agents
 unfold Ho
 have:=d9 n.agents hl hs n.agents [] [] fuel rfl (by have:=h.1; grind) (by rw [BG]; have:=h.1; grind)
 simp_all
theorem SU (i:Nat):∀ (ps:List Port) (k:Nat) (w:Wire),w ∈ Jf i k ps↔∃j:Nat,ps[j]? =some w.b∧w.a=⟨(i:Int),((k+j:Nat):Int)⟩∧bef w.a w.b=true
 | [],k,w=>by simp [Jf]
 | q::ps,k,w=>by
  rw [Jf,List.mem_append,SU i ps (k+1) w]
  constructor
  ·rintro (h|⟨j,h1,h2,h3⟩)
   ·grind
   ·exact⟨j+1,by grind,by rw [h2]; grind,h3⟩
  ·rintro ⟨j,h1,h2,h3⟩
   cases j with
   |zero=>
    left
    rw [List.getElem?_cons_zero] at h1
    obtain rfl:=Option.some.inj h1
    rw [Nat.add_zero] at h2
    rw [← h2,if_pos h3]
    simp
   |succ j=>
    grind
theorem W0:∀ (l:List Agent) (i:Nat) (w:Wire),w ∈ allW i l↔∃ (j:Nat) (x:Agent),l[j]? =some x∧∃s:Nat,x.ports[s]? =some w.b∧w.a=⟨((i+j:Nat):Int),(s:Int)⟩∧bef w.a w.b=true
 | [],i,w=>by simp [allW]
 | x::l,i,w=>by
  rw [allW,List.mem_append,SU,W0 l (i+1) w]
  constructor
  ·rintro (⟨s,h1,h2,h3⟩|⟨j,y,h0,s,h1,h2,h3⟩)
   ·exact⟨0,x,rfl,s,h1,by rw [h2]; simp,h3⟩
   ·exact⟨j+1,y,by grind,s,h1,by rw [h2]; grind,h3⟩
  grind
theorem HU {A:List Agent} {w:Wire}:w ∈ allW 0 A↔get A w.a=some w.b∧bef w.a w.b=true:=by
 rw [W0]
 constructor
 ·grind [AZ,Ie]
 ·rintro ⟨h,h3⟩
  obtain⟨x,h0,h1⟩:=AZ.1 h
  obtain⟨a1,a2⟩:=BW h0
  obtain⟨b1,b2⟩:=BW h1
  exact⟨w.a.agent.toNat,x,a2,w.a.slot.toNat,b2,Ce (by grind) (by grind),h3⟩
theorem eA {A:List Agent} {p:Port}:p ∈ Bw 0 A→∃q,get A p=some q:=by
 intro h
 obtain⟨i,k,q,rfl,hq⟩:=U6 (l:=A) A [] rfl p h
 grind
theorem SW (i:Nat):∀ (ps:List Port) (k s:Nat),s<ps.length→(⟨(i:Int),((k+s:Nat):Int)⟩:Port) ∈ Gj i k ps
 | [],k,s,h=>by grind
 |q::ps,k,0,h=>by simp [Gj]
 |q::ps,k,s+1,h=>by
  rw [Gj]
  have:=SW i ps (k+1) s (by grind)
  rw [show k+(s+1)=k+1+s from by omega]
  grind
theorem PH:∀ (l:List Agent) (i j:Nat) (x:Agent) (s:Nat),l[j]? =some x→s<x.ports.length→(⟨((i+j:Nat):Int),(s:Int)⟩:Port) ∈ Bw i l
 | [],i,j,x,s,h,_=>by grind
 |y::l,i,0,x,s,h,hs=>by
  rw [List.getElem?_cons_zero] at h
  obtain rfl:=Option.some.inj h
  rw [Bw]
  have:=SW i y.ports 0 s hs
  rw [Nat.zero_add] at this
  grind
 |y::l,i,j+1,x,s,h,hs=>by
  rw [Bw]
  have:=PH l (i+1) j x s (by grind) hs
  rw [show i+(j+1)=i+1+j from by omega]
  grind
theorem eC {A:List Agent} {p q:Port} (h:get A p=some q):p ∈ Bw 0 A:=by
 obtain⟨x,h0,h1⟩:=AZ.1 h
 obtain⟨a1,a2⟩:=BW h0
 obtain⟨b1,b2⟩:=BW h1
 have:=PH A 0 p.agent.toNat x p.slot.toNat a2 (List.getElem?_eq_some_iff.1 b2).1
 have e:p=⟨((0+p.agent.toNat:Nat):Int),((p.slot.toNat:Nat):Int)⟩:=Ce (by grind) (by grind)
 rw [e]; omega
theorem UP {A:List Agent} {rev:List Bool} (hl:rev.length=A.length) {N:Nat} (hv:VnN N A) (hW:(allW 0 A).length ≤Big):∃k,Kl ⟨A⟩ rev (allW 0 A)=some k∧decide (k<0)=(allW 0 A).all fun w=>decide (ro A (fn rev) w.a≠ro A (fn rev) w.b):=by
 unfold Kl
 have key:∀ (post pre:List Wire) (n:Nat),allW 0 A=pre++post→post.length+1≤n→∃k,En n ⟨A⟩ rev (allW 0 A) (pre.length:Int)=some k∧decide (k<0)=post.all fun w=>decide (ro A (fn rev) w.a≠ro A (fn rev) w.b):=by
  intro post
  induction post with
  |nil=>
   intro pre n h hn
   obtain⟨n,rfl⟩:∃k,n=k+1:=⟨n - 1,by omega⟩
   rw [En,DL h,if_neg (by simp)]
   grind
  | cons w post ih=>
   intro pre n h hn
   rw [List.length_cons] at hn
   obtain⟨n,rfl⟩:∃k,n=k+1:=⟨n - 1,by omega⟩
   have hw:=(HU (A:=A)).1 (by rw [h]; simp:w ∈ allW 0 A)
   rw [En,if_pos (CP h),BH h,AA,SR hl hw.1,AA,AA,SR hl (EG hv hw.1).1,AA]
   by_cases e:ro A (fn rev) w.a=ro A (fn rev) w.b
   ·rw [if_pos (by grind)]
    grind
   ·rw [if_neg (by grind),Ay h hW]
    obtain⟨k,k1,k2⟩:=ih (pre++[w]) n (by rw [h]; simp) (by omega)
    grind
 exact key (allW 0 A) [] fuel rfl (FZ (by grind))
theorem UQ {A:List Agent} {N:Nat} (hv:VnN N A) {f:Int→Bool}:((allW 0 A).all fun w=>decide (ro A f w.a≠ro A f w.b))=true↔∀p q,get A p=some q→ro A f p≠ro A f q:=by
 rw [List.all_eq_true]
 constructor
 ·intro h p q hp
  obtain⟨h1,h2⟩:=EG hv hp
  rcases bef_or h2 with hb|hb
  ·have:=h ⟨p,q⟩ (HU.2 ⟨hp,hb⟩)
   grind
  ·have:=h ⟨q,p⟩ (HU.2 ⟨h1,hb⟩)
   grind
 grind [HU]
def PI (A:List Agent) (rev:List Bool):Bool:=decide (rev.length=A.length)&&fitB A 0 rev&&(allW 0 A).all fun w=>decide (ro A (fn rev) w.a≠ro A (fn rev) w.b)
theorem NO {A:List Agent} {N:Nat} (hv:VnN N A) {rev:List Bool}:PI A rev=true↔rev.length=A.length∧Good A (fn rev):=by
 unfold PI
 rw [Bool.and_eq_true,Bool.and_eq_true,decide_eq_true_eq,UQ hv]
 constructor
 ·rintro ⟨⟨h1,h2⟩,h3⟩; exact⟨h1,(SS h1).1 h2,h3⟩
 ·rintro ⟨h1,h2,h3⟩; grind [SS]
theorem small_of {A:List Agent} {N:Nat} (hv:VnN N A) (hN:N≤1000000):(⟨A⟩:Net).Small ∧A.length≤Big∧(allW 0 A).length ≤Big∧szl (fun a=>a.ports.length) A≤5000000:=by
 have h1:∀ (l:List Agent),(∀a ∈ l,agB a=true)→szl (fun a=>a.ports.length) l≤l.length*5:=by
  intro l
  induction l with
  |nil=>grind [szl]
  |cons a l ih=>
   grind [A9,szl]
 have h2:=h1 A fun a ha=>hv.mem ha
 have h3:=hv.len.2
 have h4:=PG A 0
 have h5:=Gb (fun a:Agent=>a.ports.length) A
 refine⟨⟨show szl (fun a:Agent=>a.ports.length) A≤Big by grind,fun a ha=>(hv.small a ha).2⟩,by grind,by grind,by omega⟩
theorem j8 {A:List Agent} {N:Nat} (hv:VnN N A) (hN:N≤1000000) (rev:List Bool):NJ ⟨A⟩ rev=some (PI A rev):=by
 obtain⟨g1,g2,g3,-⟩:=small_of hv hN
 unfold NJ PI
 rw [Wy A rev g2,AA]
 grind [UP,UO]
theorem bA {A:List Agent} {rev:List Bool} (hl:rev.length=A.length) (hf:Fit A (fn rev)) {N:Nat} (hv:VnN N A) (hN:N≤1000000):∃w b,GY ⟨A⟩ rev=some (w,b)∧(b=false↔∀p q,get A p=some q→ro A (fn rev) p≠ro A (fn rev) q):=by
 obtain⟨g1,g2,g3,g4⟩:=small_of hv hN
 have g5:=LW A 0
 unfold GY
 rw [PE ⟨A⟩ g1,AA]
 have role:∀p q,get A p=some q→Bt ⟨A⟩ p rev=some (ro A (fn rev) p):=fun p q h=>Kv hv hl h fun a ha e=>hf _ a ha e
 have key:∀ (post pre:List Port) (n:Nat),Bw 0 A=pre++post→2*post.length+1≤n→∃w b,Bd n ⟨A⟩ rev (Bw 0 A) (pre.length:Int)=some (w,b)∧(b=false↔∀p ∈ post,∀q,get A p=some q→bef p q=true→ro A (fn rev) p≠ro A (fn rev) q):=by
  intro post
  induction post with
  |nil=>
   intro pre n h hn
   obtain⟨n,rfl⟩:∃k,n=k+1:=⟨n - 1,by omega⟩
   rw [Bd,DL h,if_neg (by simp)]
   grind
  | cons p post ih=>
   intro pre n h hn
   rw [List.length_cons] at hn
   obtain⟨n,rfl⟩:∃k,n=k+2:=⟨n - 2,by omega⟩
   obtain⟨q,hq⟩:=eA (A:=A) (by rw [h]; simp:p ∈ Bw 0 A)
   obtain⟨hq1,hq2⟩:=EG hv hq
   rw [Bd,if_pos (CP h),BH h,AA,PJ,NP hq,AA,Yb,AA]
   obtain⟨w,b,k1,k2⟩:=ih (pre++[p]) n (by rw [h]; simp) (by omega)
   have cont:Bd n ⟨A⟩ rev (Bw 0 A) (IntKind.i64.wrap ((pre.length:Int)+1))=some (w,b):=by rw [Ay h (by grind)]; exact k1
   by_cases hb:bef p q=true
   ·rw [if_pos hb,role p q hq,AA,role q p hq1,AA,Cz]
    grind
   grind [Cz]
 obtain⟨w,b,k1,k2⟩:=key (Bw 0 A) [] fuel rfl (FZ (by omega))
 grind [EG,bef_or,eC]
theorem PK {A:List Agent} {N:Nat} (hv:VnN N A) (hN:N≤1000000) (rev:List Bool):C0 ⟨A⟩ rev=some (PI A rev):=by
 obtain⟨g1,g2,g3,-⟩:=small_of hv hN
 unfold C0
 rw [Ya,Wy A rev g2,AA]
 cases hf:(decide (rev.length=A.length)&&fitB A 0 rev) with
 |false=>grind [PI]
 |true=>
  rw [Bool.and_eq_true,decide_eq_true_eq] at hf
  have hF:=(SS hf.1).1 hf.2
  obtain⟨w,b,k1,k2⟩:=bA hf.1 hF hv hN
  rw [if_neg (by simp),k1,AA]
  congr 1
  rw [Bool.eq_iff_iff,NO hv]
  simp only
  rw [Bool.not_eq_true',k2]
  exact⟨fun h=>⟨hf.1,hF,h⟩,fun h=>h.2.2⟩
theorem FY {l:List Bool} {i:Int} {x y:Bool} (h:at? l i=some x) (k:Int):fn (l.set i.toNat y) k=if k=i then y else fn l k:=by
 unfold fn
 rw [QD h]
 split <;> rfl
def cF:List Bool→Nat
 | [] =>0
 |b::l=>(if b=true then 0 else 1)+cF l
theorem ii:∀l:List Bool,cF l≤l.length
 | [] =>Nat.le_refl _
 |b::l=>by
  have:=ii l
  rw [cF,List.length_cons]; split <;> omega
theorem eD:∀ (l:List Bool) (i:Nat),l[i]? =some false→cF (l.set i true)+1=cF l
 | [],i,h=>by grind
 |b::l,0,h=>by
  rw [List.getElem?_cons_zero] at h
  grind [cF]
 |b::l,i+1,h=>by
  have:=eD l i (by grind)
  rw [List.set_cons_succ,cF,cF]; omega
structure SI (A:List Agent) (kn rv:List Bool):Prop where
 kl:kn.length=A.length
 rl:rv.length=A.length
 nt:∀k a,at? A k=some a→tk a.kind=false→fn kn k=true
 un:∀k,fn kn k=false→fn rv k=false
 ft:Fit A (fn rv)
structure SE (A:List Agent) (kn rv kn' rv':List Bool):Prop where
 k:∀k,fn kn k=true→fn kn' k=true∧fn rv' k=fn rv k
 h:∀h,Good A h→(∀k,fn kn k=true→fn rv k=h k)→∀k,fn kn' k=true→fn rv' k=h k
 c:cF kn'≤cF kn
theorem SE.refl {A:List Agent} {kn rv:List Bool}:SE A kn rv kn rv:=⟨fun _ h=>⟨h,rfl⟩,fun _ _ h=>h,Nat.le_refl _⟩
theorem SE.trans {A:List Agent} {kn rv kn' rv' kn2 rv2:List Bool} (a:SE A kn rv kn' rv') (b:SE A kn' rv' kn2 rv2):SE A kn rv kn2 rv2:=
 ⟨fun k h=>⟨(b.k k (a.k k h).1).1,by rw [(b.k k (a.k k h).1).2,(a.k k h).2]⟩,fun h g e=>b.h h g (a.h h g e),Nat.le_trans b.c a.c⟩
def stp (A:List Agent) (kn rv:List Bool) (ag:Bool) (p q:Port):List Bool × List Bool × Bool:=
 if fn kn p.agent=true∧fn kn q.agent=false then (kn.set q.agent.toNat true,rv.set q.agent.toNat (decide (ro A (fn rv) p=ro A (fn rv) q)),true) else (kn,rv,ag)
theorem eE {A:List Agent} {kn rv:List Bool} (S:SI A kn rv) {p q:Port} (hp:get A p=some q) (hne:p≠q) (hq:get A q=some p) (ag:Bool):
  SI A (stp A kn rv ag p q).1 (stp A kn rv ag p q).2.1 ∧SE A kn rv (stp A kn rv ag p q).1 (stp A kn rv ag p q).2.1 ∧
   ((stp A kn rv ag p q).2.2 =true→ag=true∨cF (stp A kn rv ag p q).1 <cF kn)∧((stp A kn rv ag p q).2.2 =false→ag=false∧(stp A kn rv ag p q).1 =kn∧(stp A kn rv ag p q).2.1 =rv∧¬ (fn kn p.agent=true∧fn kn q.agent=false)):=by
 unfold stp
 by_cases hc:fn kn p.agent=true∧fn kn q.agent=false
 ·rw [if_pos hc]
  obtain⟨b,hb,-⟩:=AZ.1 hq
  have hbd:=Bk hb
  obtain⟨x,hx⟩:=Fx (l:=kn) hbd.1 (by have:=S.kl; omega)
  obtain⟨y,hy⟩:=Fx (l:=rv) hbd.1 (by have:=S.rl; omega)
  have hxf:x=false:=by rw [← Mf hx]; grind
  have hrq:=S.un _ hc.2
  have htk:tk b.kind=true:=by
   cases ht:tk b.kind with
   |true=>rfl
   |false=>have:=S.nt _ _ hb ht; rw [hc.2] at this; omega
  have hcf:=eD kn q.agent.toNat (by rw [hxf] at hx; grind [BW])
  simp only
  refine⟨⟨by rw [List.length_set]; exact S.kl,by rw [List.length_set]; exact S.rl,fun k a ha ht=>?_,fun k hk=>?_,fun k a ha hk=>?_⟩,⟨fun k hk=>?_,fun h hg he k hk=>?_,by omega⟩,fun _=>Or.inr (by omega),fun h=>by cases h⟩
  ·rw [FY hx]; split
   ·rfl
   ·exact S.nt k a ha ht
  ·rw [FY hx] at hk
   split at hk
   ·cases hk
   ·rename_i hne'; rw [FY hy,if_neg hne']; exact S.un k hk
  ·rw [FY hy] at hk
   split at hk
   ·grind
   ·exact S.ft k a ha hk
  ·grind [FY]
  ·rw [FY hx] at hk
   rw [FY hy]
   split
   ·rename_i e
    subst e
    have g1:=hg.2 p q hp
    grind [GZ,d7,RL]
   grind
 grind [SE.refl]
theorem eF {A:List Agent} {W:List Wire} {kn rv:List Bool} (S:SI A kn rv) {p q:Port} (hp:get A p=some q) (hq:get A q=some p) (ag:Bool) (j:Int) (n:Nat):
  DR (n+2) ⟨A⟩ W kn rv ag j p.agent p.slot q.agent q.slot=BA n ⟨A⟩ W (stp A kn rv ag p q).1 (stp A kn rv ag p q).2.1 (stp A kn rv ag p q).2.2 (IntKind.i64.wrap (j+1)):=by
 obtain⟨a,ha,-⟩:=AZ.1 hp
 obtain⟨b,hb,-⟩:=AZ.1 hq
 have hba:=Bk ha
 have hbb:=Bk hb
 obtain⟨x,hx⟩:=Fx (l:=kn) hba.1 (by have:=S.kl; omega)
 obtain⟨y,hy⟩:=Fx (l:=kn) hbb.1 (by have:=S.kl; omega)
 obtain⟨z,hz⟩:=Fx (l:=rv) hbb.1 (by have:=S.rl; omega)
 rw [DR,hx,AA]
 unfold stp
 rw [Mf hx,Mf hy]
 have hrp:HL ⟨A⟩ rv ⟨p.agent,p.slot⟩=some (ro A (fn rv) p):=SR S.rl hp
 have hrq:HL ⟨A⟩ rv ⟨q.agent,q.slot⟩=some (ro A (fn rv) q):=SR S.rl hq
 cases x with
 |false=>rw [if_neg (by simp),DS,if_neg (by simp),if_neg (by simp)]
 | true=>
  rw [if_pos rfl,hy,AA,DS]
  cases y with
  |true=>rw [if_neg (by simp),if_neg (by simp)]
  |false=>
   rw [if_pos (by rfl),hy,AA,Bm,AA,hrp,AA,hrq,AA,hz,AA,Bm,AA,if_pos ⟨rfl,rfl⟩]
   rfl
theorem W1 {A:List Agent} {N:Nat} (hv:VnN N A) (hW:(allW 0 A).length ≤5000000):
  ∀ (post pre:List Wire) (kn rv:List Bool) (ag:Bool) (n:Nat),allW 0 A=pre++post→SI A kn rv→6*post.length+1≤n→
  ∃kn' rv' ag' n',BA n ⟨A⟩ (allW 0 A) kn rv ag ((2*pre.length:Nat):Int)=BN n' ⟨A⟩ (allW 0 A) kn' rv' ag'∧n≤n'+6*post.length+1∧SI A kn' rv'∧SE A kn rv kn' rv'∧
   (ag'=true→ag=true∨cF kn'<cF kn)∧(ag'=false→ag=false∧kn'=kn∧rv'=rv∧∀w ∈ post,¬ (fn kn w.a.agent=true∧fn kn w.b.agent=false)∧¬ (fn kn w.b.agent=true∧fn kn w.a.agent=false)):=by
 intro post
 induction post with
 |nil=>
  intro pre kn rv ag n h S hn
  obtain⟨n,rfl⟩:∃k,n=k+1:=⟨n - 1,by omega⟩
  have hl:(allW 0 A).length =pre.length:=by rw [h]; simp
  rw [BA,hl,w64 (by omega) (by omega),if_neg (by simp)]
  grind [SE.refl]
 | cons w post ih=>
  intro pre kn rv ag n h S hn
  rw [List.length_cons] at hn
  obtain⟨n,rfl⟩:∃k,n=k+6:=⟨n - 6,by omega⟩
  have hw:=(HU (A:=A)).1 (by rw [h]; simp:w ∈ allW 0 A)
  obtain⟨hq,hne⟩:=EG hv hw.1
  have hlen:pre.length+1+post.length=(allW 0 A).length :=by rw [h]; grind
  have d1:IntKind.i64.wrap (Int.tdiv ((2*pre.length:Nat):Int) 2)=(pre.length:Int):=by
   have:Int.tdiv ((2*pre.length:Nat):Int) 2=(pre.length:Int):=by rw [Int.tdiv_eq_ediv_of_nonneg (by omega)]; omega
   rw [this,w64 (by omega) (by omega)]
  have d2:IntKind.i64.wrap (Int.tdiv ((2*pre.length+1:Nat):Int) 2)=(pre.length:Int):=by
   have:Int.tdiv ((2*pre.length+1:Nat):Int) 2=(pre.length:Int):=by rw [Int.tdiv_eq_ediv_of_nonneg (by omega)]; omega
   rw [this,w64 (by omega) (by omega)]
  have m1:¬ (decide (Int.tmod ((2*pre.length:Nat):Int) 2=1)=true):=by
   rw [Int.tmod_eq_emod_of_nonneg (by omega)]; simp
  have m2:decide (Int.tmod ((2*pre.length+1:Nat):Int) 2=1)=true:=by
   rw [Int.tmod_eq_emod_of_nonneg (by omega)]; simp
  have w1:IntKind.i64.wrap (((2*pre.length:Nat):Int)+1)=((2*pre.length+1:Nat):Int):=by rw [w64 (by omega) (by omega)]; rfl
  have w2:IntKind.i64.wrap (((2*pre.length+1:Nat):Int)+1)=((2*(pre++[w]).length :Nat):Int):=by rw [w64 (by omega) (by omega)]; grind
  have wl:IntKind.i64.wrap (2*((List.length (allW 0 A):Nat):Int))=((2*(allW 0 A).length :Nat):Int):=by rw [w64 (by omega) (by omega)]; rfl
  obtain⟨S1,E1,t1,f1⟩:=eE S hw.1 hne hq ag
  have e1:=eF (W:=allW 0 A) S hw.1 hq ag ((2*pre.length:Nat):Int) (n+3)
  obtain⟨S2,E2,t2,f2⟩:=eE S1 hq hne.symm hw.1 (stp A kn rv ag w.a w.b).2.2
  have e2:=eF (W:=allW 0 A) S1 hq hw.1 (stp A kn rv ag w.a w.b).2.2 ((2*pre.length+1:Nat):Int) n
  obtain⟨kn',rv',ag',n',g1,g2,g3,g4,g5,g6⟩:=ih (pre++[w]) _ _ (stp A (stp A kn rv ag w.a w.b).1 (stp A kn rv ag w.a w.b).2.1 (stp A kn rv ag w.a w.b).2.2 w.b w.a).2.2 n (by rw [h]; simp) S2 (by omega)
  refine⟨kn',rv',ag',n',?_,by rw [List.length_cons]; omega,g3,(E1.trans E2).trans g4,fun ht=>?_,fun hf=>?_⟩
  ·rw [← g1,← w2,← e2,BA,wl,if_pos (by grind),d1,BH h,AA,AA,if_neg m1,e1,w1,BA,wl,if_pos (by grind),d2,BH h,AA,AA,if_pos m2,AA,AA]
  ·have c1:=E1.c
   have c2:=E2.c
   have c3:=g4.c
   grind
  grind
def Clo (A:List Agent) (K:Int→Prop):Prop:=∀p q,get A p=some q→K p.agent→K q.agent
theorem j9 {A:List Agent} {N:Nat} (hv:VnN N A) (hN:N≤1000000):
  ∀ (c:Nat) (kn rv:List Bool) (n:Nat),cF kn≤c→SI A kn rv→(c+1)*(6*(allW 0 A).length +2)+1≤n→
  ∃kn' rv',BN n ⟨A⟩ (allW 0 A) kn rv true=some (kn',rv')∧SI A kn' rv'∧SE A kn rv kn' rv'∧Clo A fun k=>fn kn' k=true:=by
 obtain⟨-,-,g3,g4⟩:=small_of hv hN
 have hW:(allW 0 A).length ≤5000000:=by grind [PG]
 intro c
 induction c with
 | zero=>
  intro kn rv n hc S hn
  rw [Nat.zero_add,Nat.one_mul] at hn
  obtain⟨n,rfl⟩:∃k,n=k+1:=⟨n - 1,by omega⟩
  obtain⟨kn',rv',ag',n',e1,e2,e3,e4,e5,e6⟩:=W1 hv hW (allW 0 A) [] kn rv false n rfl S (by omega)
  have e1':BA n ⟨A⟩ (allW 0 A) kn rv false 0=_:=e1
  obtain⟨n',rfl⟩:∃k,n'=k+1:=⟨n' - 1,by omega⟩
  rw [BN,if_pos rfl,e1',BN]
  cases ag' with
  |true=>rcases e5 rfl with h|h <;> first|cases h|omega
  | false=>
   obtain⟨-,rfl,rfl,h⟩:=e6 rfl
   rw [if_neg (by simp)]
   refine⟨_,_,rfl,S,SE.refl,fun p q hp hk=>?_⟩
   obtain⟨h1,h2⟩:=EG hv hp
   rcases bef_or h2 with hb|hb
   ·have:=(h ⟨p,q⟩ (HU.2 ⟨hp,hb⟩)).1
    grind
   ·have:=(h ⟨q,p⟩ (HU.2 ⟨h1,hb⟩)).2
    grind
 | succ c ih=>
  intro kn rv n hc S hn
  rw [Nat.add_mul,Nat.one_mul] at hn
  obtain⟨n,rfl⟩:∃k,n=k+1:=⟨n - 1,by omega⟩
  obtain⟨kn',rv',ag',n',e1,e2,e3,e4,e5,e6⟩:=W1 hv hW (allW 0 A) [] kn rv false n rfl S (by omega)
  have e1':BA n ⟨A⟩ (allW 0 A) kn rv false 0=_:=e1
  rw [BN,if_pos rfl,e1']
  cases ag' with
  | true=>
   have hlt:cF kn'<cF kn:=by
    grind
   obtain⟨kn2,rv2,q1,q2,q3,q4⟩:=ih kn' rv' n' (by omega) e3 (by omega)
   exact⟨kn2,rv2,q1,q2,e4.trans q3,q4⟩
  | false=>
   obtain⟨-,rfl,rfl,h⟩:=e6 rfl
   obtain⟨n',rfl⟩:∃k,n'=k+1:=⟨n' - 1,by omega⟩
   rw [BN,if_neg (by simp)]
   refine⟨_,_,rfl,S,SE.refl,fun p q hp hk=>?_⟩
   obtain⟨h1,h2⟩:=EG hv hp
   rcases bef_or h2 with hb|hb
   ·have:=(h ⟨p,q⟩ (HU.2 ⟨hp,hb⟩)).1
    grind
   ·have:=(h ⟨q,p⟩ (HU.2 ⟨h1,hb⟩)).2
    grind
theorem UR {A:List Agent} {N:Nat} (hv:VnN N A) (hN:N≤100000) {kn rv:List Bool} (S:SI A kn rv):
  ∃kn' rv',Fn ⟨A⟩ kn rv (allW 0 A)=some (kn',rv')∧SI A kn' rv'∧SE A kn rv kn' rv'∧Clo A fun k=>fn kn' k=true:=by
 obtain⟨-,-,g3,g4⟩:=small_of hv (by omega)
 have hW:(allW 0 A).length ≤5000000:=by grind [PG]
 have h1:=ii kn
 have h2:=S.kl
 have h3:=hv.len.2
 unfold Fn
 refine j9 hv (by omega) (cF kn) kn rv fuel (Nat.le_refl _) S (FZ ?_)
 have:(cF kn+1)*(6*(allW 0 A).length +2)≤100001*30000002:=Nat.mul_le_mul (by omega) (by omega)
 omega
def W2 (A:List Agent) (f:Int→Bool):Prop:=Good A f∧∀ (K:Int→Prop) (i:Int),Clo A K→(∀k a,at? A k=some a→tk a.kind=false→K k)→(∀k,0≤k→k<i→K k)→¬K i→0≤i→i<(A.length:Int)→f i=false
theorem eG {l m:List Bool} (hl:l.length=m.length) (h:∀k,0≤k→k<(l.length:Int)→fn l k=fn m k):l=m:=by
 refine List.ext_getElem hl fun i h1 h2=>?_
 have:=h (i:Int) (by omega) (by omega)
 rw [Mf (Ie (List.getElem?_eq_getElem h1)),Mf (Ie (List.getElem?_eq_getElem h2))] at this
 omega
theorem bB {A:List Agent} {N:Nat} (hv:VnN N A) (hN:N≤100000):∀ (c:Nat) (i:Nat) (kn rv:List Bool) (n:Nat),A.length=i+c→SI A kn rv→(Clo A fun k=>fn kn k=true)→(∀k:Int,0≤k→k<(i:Int)→fn kn k=true)→c+1≤n→
  ∃rev ok,CH n ⟨A⟩ (allW 0 A) kn rv (i:Int)=some (rev,ok)∧rev.length=A.length∧(ok=true↔Good A (fn rev))∧∀h,W2 A h→(∀k,fn kn k=true→fn rv k=h k)→∀k,0≤k→k<(A.length:Int)→fn rev k=h k:=by
 obtain⟨-,g2,g3,g4⟩:=small_of hv (by omega)
 intro c
 induction c with
 |zero=>
  intro i kn rv n hl S hc hk hn
  obtain⟨n,rfl⟩:∃k,n=k+1:=⟨n - 1,by omega⟩
  obtain⟨k,k1,k2⟩:=UP S.rl hv g3
  have hkl:=S.kl
  rw [CH,if_neg (by grind),k1,AA]
  refine⟨_,_,rfl,S.rl,?_,fun h _ he k h0 h1=>he k (hk k h0 (by omega))⟩
  rw [k2,UQ hv]
  exact⟨fun h=>⟨S.ft,h⟩,fun h=>h.2⟩
 | succ c ih=>
  intro i kn rv n hl S hc hk hn
  obtain⟨n,rfl⟩:∃k,n=k+1:=⟨n - 1,by omega⟩
  have hkl:=S.kl
  have hwr:IntKind.i64.wrap ((i:Int)+1)=((i+1:Nat):Int):=by grind [w64]
  obtain⟨x,hx⟩:=Fx (l:=kn) (k:=(i:Int)) (by omega) (by omega)
  rw [CH,if_pos (by grind),hx,AA]
  cases x with
  | true=>
   rw [if_neg (by simp),hwr]
   exact ih (i+1) kn rv n (by omega) S hc (fun k h0 h1=>by
    grind [Mf]) (by omega)
  | false=>
   have hfi:fn kn (i:Int)=false:=Mf hx
   have S1:SI A (kn.set ((i:Int)).toNat true) rv:=⟨by rw [List.length_set]; omega,S.rl,fun k a ha ht=>by
     rw [FY hx]; split
     ·rfl
     ·exact S.nt k a ha ht,fun k hk'=>by
     rw [FY hx] at hk'
     split at hk'
     ·grind
     ·exact S.un k hk',S.ft⟩
   obtain⟨kn',rv',q1,q2,q3,q4⟩:=UR hv hN S1
   rw [if_pos (by rfl),AA,Bm,AA]
   simp only [SO]
   rw [q1,AA]
   simp only
   rw [hwr]
   obtain⟨rev,ok,r1,r2,r3,r4⟩:=ih (i+1) kn' rv' n (by omega) q2 q4 (fun k h0 h1=>by
    refine(q3.k k ?_).1
    rw [FY hx]
    grind) (by omega)
   refine⟨rev,ok,r1,r2,r3,fun h hC he=>r4 h hC (q3.h h hC.1 fun k hk'=>?_)⟩
   rw [FY hx] at hk'
   split at hk'
   ·rename_i e
    subst e
    rw [S.un _ hfi]
    exact(hC.2 (fun k=>fn kn k=true) _ hc (fun k a ha ht=>S.nt k a ha ht) (fun k h0 h1=>hk k h0 h1) (by rw [hfi]; simp) (by omega) (by omega)).symm
   grind
theorem bC {A:List Agent} {N:Nat} (hv:VnN N A) (hN:N≤100000):∀ (post pre:List Agent) (kn rv:List Bool) (n:Nat),A=pre++post→kn=pre.map (fun a=> !tk a.kind)→rv=List.replicate pre.length false→post.length+1≤n→
  Cb n ⟨A⟩ (allW 0 A) kn rv (pre.length:Int)=(Fn ⟨A⟩ (A.map fun a=> !tk a.kind) (List.replicate A.length false) (allW 0 A)).bind fun v=>CH fuel ⟨A⟩ (allW 0 A) v.1 v.2 0:=by
 obtain⟨-,g2,-,-⟩:=small_of hv (by omega)
 intro post
 induction post with
 |nil=>
  intro pre kn rv n h hk hr hn
  obtain⟨n,rfl⟩:∃k,n=k+1:=⟨n - 1,by omega⟩
  rw [List.append_nil] at h
  subst h hk hr
  rw [Cb,if_neg (by simp)]
 |cons a post ih=>
  intro pre kn rv n h hk hr hn
  rw [List.length_cons] at hn
  obtain⟨n,rfl⟩:∃k,n=k+1:=⟨n - 1,by omega⟩
  have hl:pre.length+1≤A.length:=by rw [h]; simp
  rw [Cb]
  simp only
  rw [if_pos (CP h),BH h,AA,NN,AA,CQ (by rw [hk]; grind),AA,CQ (by rw [hr]; grind),AA,Ay h g2]
  grind [List.length_singleton,List.replicate_succ']
theorem Yc {A:List Agent} {N:Nat} (hv:VnN N A) (hN:N≤100000):∃rev ok,Fo ⟨A⟩=some (rev,ok)∧rev.length=A.length∧(ok=true↔Good A (fn rev))∧∀h,W2 A h→∀k,0≤k→k<(A.length:Int)→fn rev k=h k:=by
 obtain⟨g1,g2,-,-⟩:=small_of hv (by omega)
 have hl2:=bC hv hN A [] [] [] fuel rfl rfl rfl (FZ (by grind))
 have hl2':Cb fuel ⟨A⟩ (allW 0 A) [] [] 0=_:=hl2
 unfold Fo
 rw [UO ⟨A⟩ g1,AA,hl2']
 have hkn:∀k,fn (A.map fun a=> !tk a.kind) k=true↔∃a,at? A k=some a∧tk a.kind=false:=fun k=>by
  grind [fn,at?]
 have hrv:∀k,fn (List.replicate A.length false) k=false:=fun k=>by
  grind [fn,at?]
 have S:SI A (A.map fun a=> !tk a.kind) (List.replicate A.length false):=⟨by simp,by simp,fun k a ha ht=>(hkn k).2 ⟨a,ha,ht⟩,fun k _=>hrv k,fun k a ha hk=>by rw [hrv] at hk; cases hk⟩
 obtain⟨kn',rv',q1,q2,q3,q4⟩:=UR hv hN S
 rw [q1,AA]
 obtain⟨rev,ok,r1,r2,r3,r4⟩:=bB hv hN A.length 0 kn' rv' fuel (by omega) q2 q4 (fun k h0 h1=>by omega) (FZ (by grind))
 refine⟨rev,ok,r1,r2,r3,fun h hC=>r4 h hC (q3.h h hC.1 fun k hk=>?_)⟩
 obtain⟨a,ha,ht⟩:=(hkn k).1 hk
 rw [hrv]
 cases hh:h k with
 |false=>rfl
 |true=>rw [hC.1.1 k a ha hh] at ht; cases ht
def tkA (A:List Agent) (k:Int):Prop:=∃a,at? A k=some a∧tk a.kind=true
def Nb (A:List Agent) (k k':Int):Prop:=∃p q,get A p=some q∧p.agent=k∧q.agent=k'
theorem Nb.symm {N:Nat} {A:List Agent} (hv:VnN N A) {k k':Int} (h:Nb A k k'):Nb A k' k:=by
 obtain⟨p,q,h1,h2,h3⟩:=h
 exact⟨q,p,(EG hv h1).1,h3,h2⟩
theorem SX:∀ (N:Nat) (l:List Int),l.Nodup→(∀x ∈ l,0≤x∧x<(N:Int))→l.length≤N
 |0,l,_,h=>by
  cases l with
  |nil=>simp
  |cons x l=>have:=h x (by simp); omega
 | N+1,l,hd,h=>by
  by_cases hm:(N:Int) ∈ l
  ·have h1:=SX N (l.erase (N:Int)) (hd.erase _) fun x hx=>by
    grind
   rw [List.length_erase_of_mem hm] at h1
   omega
  ·have:=SX N l hd fun x hx=>by
    grind
   omega
structure BI (A:List Agent) (st:Int) (o:List Int):Prop where
 hd:o[0]? =some st
 nd:o.Nodup
 tk:∀k ∈ o,tkA A k
 tr:∀ (m:Nat) (k:Int),0<m→o[m]? =some k→∃ (m':Nat) (k':Int),m'<m∧o[m']? =some k'∧Nb A k' k
theorem BI.len {A:List Agent} {st:Int} {o:List Int} (h:BI A st o):o.length≤A.length:=SX A.length o h.nd fun k hk=>by
 obtain⟨a,ha,-⟩:=h.tk k hk
 exact Bk ha
theorem BI.snoc {A:List Agent} {st:Int} {o:List Int} (h:BI A st o) {k k':Int} {i:Nat} (hi:o[i]? =some k) (hn:Nb A k k') (ht:tkA A k') (hk:k' ∉ o):BI A st (o++[k']):=by
 have hl:=(List.getElem?_eq_some_iff.1 hi).1
 refine⟨?_,?_,fun x hx=>?_,fun m x hm hx=>?_⟩
 ·rw [List.getElem?_append_left (by omega)]; exact h.hd
 ·rw [List.nodup_append]
  exact⟨h.nd,by simp,fun a ha b hb=>by rw [List.mem_singleton.1 hb]; grind⟩
 ·rcases List.mem_append.1 hx with h'|h'
  ·exact h.tk x h'
  grind
 ·by_cases hlt:m<o.length
  ·rw [List.getElem?_append_left hlt] at hx
   obtain⟨m',y,h1,h2,h3⟩:=h.tr m x hm hx
   exact⟨m',y,h1,by rw [List.getElem?_append_left (by omega)]; exact h2,h3⟩
  ·rw [List.getElem?_append_right (by omega)] at hx
   have hlt2:=(List.getElem?_eq_some_iff.1 hx).1
   simp only [List.length_singleton] at hlt2
   have e:m=o.length:=by omega
   grind
theorem BI.all {A:List Agent} {st:Int} {o:List Int} (h:BI A st o) {C:Int→Prop} (h0:C st) (hs:∀k k',C k→Nb A k k'→tkA A k'→C k'):∀k ∈ o,C k:=by
 have key:∀ (m:Nat) (k:Int),o[m]? =some k→C k:=by
  intro m
  induction m using Nat.strongRecOn with
  | ind m ih=>
   intro k hk
   cases m with
   |zero=>rw [h.hd] at hk; rw [← Option.some.inj hk]; exact h0
   |succ m=>
    obtain⟨m',k',h1,h2,h3⟩:=h.tr (m+1) k (by omega) hk
    exact hs k' k (ih m' h1 k' h2) h3 (h.tk k (List.mem_of_getElem? hk))
 grind [List.getElem?_of_mem]
theorem Za {A:List Agent} {N:Nat} (hv:VnN N A) {k:Int} {a:Agent} (ha:at? A k=some a) {pre post:List Port} {q:Port} (h:a.ports=pre++q::post):get A ⟨k,(pre.length:Int)⟩=some q:=AZ.2 ⟨a,ha,BH h⟩
theorem U9 {A:List Agent} {N:Nat} (hv:VnN N A) {p q:Port} (h:get A p=some q):∃b,at? A q.agent=some b:=by
 grind [AZ,EG]
theorem W3 {A:List Agent} {N:Nat} (hv:VnN N A) (hN:N≤100000) {st k:Int} {a:Agent} {i:Nat} (ha:at? A k=some a):
  ∀ (post pre:List Port) (o:List Int) (n:Nat),a.ports=pre++post→BI A st o→o[i]? =some k→2*post.length+1≤n→
  ∃o' n',BP n ⟨A⟩ (i:Int) a o (remM o) (pre.length:Int)=BO n' ⟨A⟩ o' (remM o') (IntKind.i64.wrap ((i:Int)+1))∧n≤n'+2*post.length+1∧BI A st o'∧(∃more,o'=o++more)∧∀q ∈ post,tkA A q.agent→q.agent ∈ o':=by
 have hp4:=(A9 (hv.ag _ _ ha).1).2
 have hAl:=hv.len.2
 intro post
 induction post with
 |nil=>
  intro pre o n h B hi hn
  obtain⟨n,rfl⟩:∃k,n=k+1:=⟨n - 1,by omega⟩
  rw [BP,DL h,if_neg (by simp)]
  exact⟨o,n,rfl,by simp,B,⟨[],by simp⟩,fun q hq=>by cases hq⟩
 | cons q post ih=>
  intro pre o n h B hi hn
  rw [List.length_cons] at hn
  obtain⟨n,rfl⟩:∃k,n=k+2:=⟨n - 2,by omega⟩
  have hg:=Za hv ha h
  obtain⟨b,hb⟩:=U9 hv hg
  have hnb:Nb A k q.agent:=⟨_,q,hg,rfl,rfl⟩
  have hol:=B.len
  rw [BP,if_pos (CP h),BH h,AA]
  simp only
  rw [hb,AA,PF,AA,Kw]
  have no:Cl (n+1) ⟨A⟩ (i:Int) o (remM o) (pre.length:Int) a q false=BP n ⟨A⟩ (i:Int) a o (remM o) ((List.length (pre++[q]):Nat):Int):=by
   rw [Cl,if_neg (by simp),Ay h (by grind)]
  have fin:∀o1,BI A st o1→(∃m,o1=o++m)→(tkA A q.agent→q.agent ∈ o1)→o1[i]? =some k→∃o' n',BP n ⟨A⟩ (i:Int) a o1 (remM o1) ((List.length (pre++[q]):Nat):Int)=BO n' ⟨A⟩ o' (remM o') (IntKind.i64.wrap ((i:Int)+1))∧n+2≤n'+2*(post.length+1)+1∧BI A st o'∧(∃more,o'=o++more)∧∀r ∈ q::post,tkA A r.agent→r.agent ∈ o':=by
   intro o1 B1 ⟨m1,hm1⟩ hq1 hi1
   obtain⟨o',n',e1,e2,e3,⟨m2,e4⟩,e5⟩:=ih (pre++[q]) o1 n (by rw [h]; simp) B1 hi1 (by omega)
   grind
  rw [List.length_cons]
  by_cases ht:tk b.kind=true
  ·rw [if_pos ht]
   by_cases hm:q.agent ∈ o
   ·rw [show (!decide (q.agent ∈ o))=false by grind,no]
    exact fin o B ⟨[],by simp⟩ (fun _=>hm) hi
   ·rw [show (!decide (q.agent ∈ o))=true by grind,Cl,if_pos rfl,Gy o _ hm (by grind),AA,CQ (by grind),AA,Ay h (by grind)]
    exact fin (o++[q.agent]) (B.snoc hi hnb ⟨b,hb,ht⟩ hm) ⟨_,rfl⟩ (fun _=>by simp) (by rw [List.getElem?_append_left (List.getElem?_eq_some_iff.1 hi).1]; exact hi)
  ·rw [if_neg ht,no]
   exact fin o B ⟨[],by simp⟩ (fun ⟨b',hb',ht'⟩=>by rw [hb] at hb'; rw [← Option.some.inj hb'] at ht'; grind) hi
theorem Yd {A:List Agent} {N:Nat} (hv:VnN N A) (hN:N≤100000) {st:Int}:
  ∀ (c i:Nat) (o:List Int) (n:Nat),A.length=i+c→BI A st o→i≤o.length→(∀ (j:Nat) (k:Int),j<i→o[j]? =some k→∀k',Nb A k k'→tkA A k'→k' ∈ o)→10*c+1≤n→
  ∃g,BO n ⟨A⟩ o (remM o) (i:Int)=some g∧BI A st g∧(∀k ∈ g,∀k',Nb A k k'→tkA A k'→k' ∈ g):=by
 have hAl:=hv.len.2
 intro c
 induction c with
 |zero=>
  intro i o n hl B hi hc hn
  obtain⟨n,rfl⟩:∃k,n=k+1:=⟨n - 1,by omega⟩
  have hol:=B.len
  rw [BO,if_neg (by grind)]
  grind [List.getElem?_of_mem]
 | succ c ih=>
  intro i o n hl B hi hc hn
  have hol:=B.len
  by_cases hio:i<o.length
  ·obtain⟨n,rfl⟩:∃k,n=k+1:=⟨n - 1,by omega⟩
   have hk:o[i]? =some o[i] :=List.getElem?_eq_getElem hio
   obtain⟨a,ha,hta⟩:=B.tk _ (List.mem_of_getElem? hk)
   have hp4:=(A9 (hv.ag _ _ ha).1).2
   rw [BO,if_pos (by grind),Ie hk,AA]
   simp only
   rw [ha,AA]
   obtain⟨o',n',e1,e2,e3,⟨more,e4⟩,e5⟩:=W3 hv hN ha a.ports [] o n rfl B hk (by omega)
   have e1':BP n ⟨A⟩ (i:Int) a o (remM o) 0=_:=e1
   rw [e1',w64 (by omega) (by omega)]
   have hsub:∀x ∈ o,x ∈ o':=fun x hx=>by rw [e4]; grind
   refine ih (i+1) o' n' (by omega) e3 (by rw [e4,List.length_append]; omega) (fun j k hj hjk k' hn' ht'=>?_) (by omega)
   rw [e4,List.getElem?_append_left (by omega)] at hjk
   by_cases e:j=i
   ·subst e
    rw [hk] at hjk
    obtain rfl:=Option.some.inj hjk
    obtain⟨p,q,g1,g2,g3⟩:=hn'
    obtain⟨a',b1,b2⟩:=AZ.1 g1
    rw [g2,ha] at b1
    obtain rfl:=Option.some.inj b1
    have hq:q ∈ a.ports:=List.mem_of_getElem? (BW b2).2
    rw [← g3] at ht' ⊢
    grind
   grind
  ·obtain⟨n,rfl⟩:∃k,n=k+1:=⟨n - 1,by omega⟩
   rw [BO,if_neg (by grind)]
   grind [List.getElem?_of_mem]
theorem eH {A:List Agent} {N:Nat} (hv:VnN N A) (hN:N≤100000) {st:Int} (ht:tkA A st):∃g,IM ⟨A⟩ st=some g∧BI A st g∧(∀k ∈ g,∀k',Nb A k k'→tkA A k'→k' ∈ g):=by
 have hAl:=hv.len.2
 unfold IM
 have h1:Lm ([] :List (Int × Bool)) st true=some (remM [st]):=Gy [] st (by simp) (by grind)
 rw [h1,AA]
 refine Yd hv hN A.length 0 [st] fuel (by omega) ⟨rfl,by simp,fun k hk=>by rw [List.mem_singleton.1 hk]; exact ht,fun m k hm hk=>?_⟩ (by simp) (fun j k hj=>by omega) (FZ (by omega))
 grind
def Jg (A:List Agent) (g:List Int) (h:Int→Bool):Prop:=∀p q,get A p=some q→p.agent ∈ g→ro A h p≠ro A h q
theorem VA {A:List Agent} {rv:List Bool} {k:Int} {x y:Bool} (hf:Fit A (fn rv)) (hk:tkA A k) (hx:at? rv k=some x):Fit A (fn (rv.set k.toNat y)):=by
 intro j a ha hj
 rw [FY hx] at hj
 split at hj
 ·rename_i e
  subst e
  obtain⟨b,hb,ht⟩:=hk
  rw [ha] at hb
  rw [Option.some.inj hb]; exact ht
 ·exact hf j a ha hj
structure VI (A:List Agent) (g:List Int) (st:Int) (first:Bool) (rv0:List Bool) (L:List Int) (rv:List Bool):Prop where
 rl:rv.length=A.length
 ft:Fit A (fn rv)
 ou:∀k,k ∉ g→fn rv k=fn rv0 k
 L0:st ∈ L
 Ln:L.Nodup
 Lg:∀k ∈ L,k ∈ g
 f0:fn rv st=first
 ca:∀h,Fit A h→Jg A g h→h st=first→∀k ∈ L,fn rv k=h k
def Seen (A:List Agent) (L:List Int) (rv:List Bool) (p q:Port):Prop:=p.agent ∈ L∧(tkA A q.agent→q.agent ∈ L)∧ro A (fn rv) p≠ro A (fn rv) q
theorem spread_ports {A:List Agent} {N:Nat} (hv:VnN N A) (hN:N≤100000) {g:List Int} {st:Int} {first:Bool} {rv0:List Bool} (hg:BI A st g) (hcl:∀k ∈ g,∀k',Nb A k k'→tkA A k'→k' ∈ g) {k:Int} {a:Agent} {i:Nat} (ha:at? A k=some a) (hkg:k ∈ g):
  ∀ (post pre:List Port) (L:List Int) (rv:List Bool) (n:Nat),a.ports=pre++post→VI A g st first rv0 L rv→k ∈ L→3*post.length+1≤n→
  (∃rv',Be n ⟨A⟩ g (i:Int) k a rv (remM L) (pre.length:Int)=some (false,rv')∧rv'.length=A.length∧Fit A (fn rv')∧(∀k,k ∉ g→fn rv' k=fn rv0 k)∧¬ ∃h,Fit A h∧Jg A g h∧h st=first)∨
  ∃L' rv' n',Be n ⟨A⟩ g (i:Int) k a rv (remM L) (pre.length:Int)=BS n' ⟨A⟩ g rv' (remM L') (IntKind.i64.wrap ((i:Int)+1))∧n≤n'+3*post.length+1∧VI A g st first rv0 L' rv'∧(∀x ∈ L,x ∈ L')∧(∀p q,Seen A L rv p q→Seen A L' rv' p q)∧
   ∀ (s:Nat) (q:Port),pre.length≤s→a.ports[s]? =some q→Seen A L' rv' ⟨k,(s:Int)⟩ q:=by
 have hp4:=(A9 (hv.ag _ _ ha).1).2
 have hAl:=hv.len.2
 intro post
 induction post with
 |nil=>
  intro pre L rv n h V hkL hn
  obtain⟨n,rfl⟩:∃k,n=k+1:=⟨n - 1,by omega⟩
  right
  rw [Be,DL h,if_neg (by simp)]
  grind
 | cons q post ih=>
  intro pre L rv n h V hkL hn
  rw [List.length_cons] at hn
  obtain⟨n,rfl⟩:∃k,n=k+3:=⟨n - 3,by omega⟩
  have hp:=Za hv ha h
  obtain⟨hq,hne⟩:=EG hv hp
  obtain⟨b,hb⟩:=U9 hv hp
  have hnb:Nb A k q.agent:=⟨_,q,hp,rfl,rfl⟩
  have hLl:L.length≤A.length:=SX A.length L V.Ln fun x hx=>by
   obtain⟨c,hc,-⟩:=hg.tk x (V.Lg x hx)
   exact Bk hc
  rw [Be,if_pos (CP h),BH h,AA]
  simp only
  rw [hb,AA,PF,AA,Kw]
  have look:∀L1 rv1,VI A g st first rv0 L1 rv1→k ∈ L1→(tkA A q.agent→q.agent ∈ L1)→(∀x ∈ L,x ∈ L1)→(∀p q,Seen A L rv p q→Seen A L1 rv1 p q)→
    (∃rv',B0 (n+1) ⟨A⟩ g (i:Int) (pre.length:Int) k a q rv1 (remM L1)=some (false,rv')∧rv'.length=A.length∧Fit A (fn rv')∧(∀k,k ∉ g→fn rv' k=fn rv0 k)∧¬ ∃h,Fit A h∧Jg A g h∧h st=first)∨
    ∃L' rv' n',B0 (n+1) ⟨A⟩ g (i:Int) (pre.length:Int) k a q rv1 (remM L1)=BS n' ⟨A⟩ g rv' (remM L') (IntKind.i64.wrap ((i:Int)+1))∧n+3≤n'+3*(post.length+1)+1∧VI A g st first rv0 L' rv'∧(∀x ∈ L,x ∈ L')∧(∀p q,Seen A L rv p q→Seen A L' rv' p q)∧
     ∀ (s:Nat) (q:Port),pre.length≤s→a.ports[s]? =some q→Seen A L' rv' ⟨k,(s:Int)⟩ q:=by
   intro L1 rv1 V1 hk1 hq1 hs1 hseen
   have r1:Bt ⟨A⟩ ⟨k,(pre.length:Int)⟩ rv1=some (ro A (fn rv1) ⟨k,(pre.length:Int)⟩):=Kv hv V1.rl hp fun c hc e=>V1.ft _ c hc e
   have r2:Bt ⟨A⟩ q rv1=some (ro A (fn rv1) q):=Kv hv V1.rl hq fun c hc e=>V1.ft _ c hc e
   rw [B0,r1,AA,r2,AA]
   by_cases e:ro A (fn rv1) ⟨k,(pre.length:Int)⟩=ro A (fn rv1) q
   ·left
    rw [if_pos (by grind)]
    refine⟨rv1,rfl,V1.rl,V1.ft,V1.ou,fun ⟨f,f1,f2,f3⟩=>f2 _ _ hp hkg ?_⟩
    have e1:fn rv1 k=f k:=V1.ca f f1 f2 f3 k hk1
    have e2:fn rv1 q.agent=f q.agent:=by
     by_cases ht:tk b.kind=true
     ·exact V1.ca f f1 f2 f3 _ (hq1 ⟨b,hb,ht⟩)
     ·have h1:fn rv1 q.agent=false:=by
       cases hh:fn rv1 q.agent with
       |false=>rfl
       |true=>exact absurd (V1.ft _ b hb hh) ht
      have h2:f q.agent=false:=by
       cases hh:f q.agent with
       |false=>rfl
       |true=>exact absurd (f1 _ b hb hh) ht
      rw [h1,h2]
    rw [← GZ (f:=fn rv1) (p:=⟨k,(pre.length:Int)⟩) e1,← GZ (f:=fn rv1) (p:=q) e2]
    exact e
   ·rw [if_neg (by grind),Ay h (by grind)]
    rcases ih (pre++[q]) L1 rv1 n (by rw [h]; simp) V1 hk1 (by omega) with ⟨rv',c1,c2⟩|⟨L',rv',n',c1,c2,c3,c4,c5,c6⟩
    ·grind
    ·refine Or.inr ⟨L',rv',n',c1,by omega,c3,fun x hx=>c4 x (hs1 x hx),fun p q hs=>c5 p q (hseen p q hs),fun s r hs hr=>?_⟩
     by_cases es:s=pre.length
     ·subst es
      rw [h,List.getElem?_append_right (Nat.le_refl _),Nat.sub_self,List.getElem?_cons_zero] at hr
      obtain rfl:=Option.some.inj hr
      exact c5 _ _ ⟨hk1,hq1,e⟩
     grind
  rw [List.length_cons]
  have plain:(tkA A q.agent→q.agent ∈ L)→∀z:Bool,z=false→_:=fun hql z hz=>by
   have:=look L rv V hkL hql (fun _ h=>h) (fun _ _ h=>h)
   rw [show B0 (n+1) ⟨A⟩ g (i:Int) (pre.length:Int) k a q rv (remM L)=CS (n+2) ⟨A⟩ g (i:Int) rv (remM L) (pre.length:Int) k a q z from by rw [CS,hz,if_neg (by simp)]] at this
   exact this
  by_cases ht:tk b.kind=true
  ·rw [if_pos ht]
   have htq:tkA A q.agent:=⟨b,hb,ht⟩
   by_cases hm:q.agent ∈ L
   ·grind
   ·have hkq:k≠q.agent:=fun e=>hm (e ▸ hkL)
    have hbd:=Bk hb
    obtain⟨x,hx⟩:=Fx (l:=rv) hbd.1 (by have:=V.rl; omega)
    have hx1:at? (rv.set q.agent.toNat false) q.agent=some false:=by rw [QD hx,if_pos rfl]
    have F1:=VA (y:=false) V.ft htq hx
    have l1:(rv.set q.agent.toNat false).length =A.length:=by rw [List.length_set]; exact V.rl
    have r1:Bt ⟨A⟩ ⟨k,(pre.length:Int)⟩ (rv.set q.agent.toNat false)=some (ro A (fn (rv.set q.agent.toNat false)) ⟨k,(pre.length:Int)⟩):=Kv hv l1 hp fun c hc e=>F1 _ c hc e
    have r2:Bt ⟨A⟩ q (rv.set q.agent.toNat false)=some (ro A (fn (rv.set q.agent.toNat false)) q):=Kv hv l1 hq fun c hc e=>F1 _ c hc e
    rw [show (!decide (q.agent ∈ L))=true by grind,CS,if_pos rfl,Gy L _ hm (by grind),AA,hx,AA,Bm,AA]
    simp only [SO]
    rw [r1,AA,r2,AA,hx1,AA,Bm,AA]
    simp only [SO,List.set_set]
    generalize hbv:decide (ro A (fn (rv.set q.agent.toNat false)) ⟨k,(pre.length:Int)⟩=ro A (fn (rv.set q.agent.toNat false)) q)=bv
    have fs:∀j,fn (rv.set q.agent.toNat bv) j=if j=q.agent then bv else fn rv j:=fun j=>FY hx j
    have same:∀ (z:Bool) (p:Port),p.agent≠q.agent→ro A (fn (rv.set q.agent.toNat z)) p=ro A (fn rv) p:=fun z p hp'=>GZ (by rw [FY hx,if_neg hp'])
    have b1:=d7 (f:=fn rv) hp
    have b2:=d7 (f:=fn (rv.set q.agent.toNat false)) hq
    have hqf:fn (rv.set q.agent.toNat false) q.agent=false:=by rw [FY hx,if_pos rfl]
    refine look (L++[q.agent]) (rv.set q.agent.toNat bv) ⟨by rw [List.length_set]; grind,VA V.ft htq hx,fun j hj=>?_,by simp [V.L0],?_,fun j hj=>?_,?_,fun f f1 f2 f3 j hj=>?_⟩ (by grind) (fun _=>by simp) (fun x hx'=>by grind) (fun p' q' hs=>?_)
    ·rw [fs,if_neg (fun e=>hj (by rw [e]; grind))]; exact V.ou j hj
    ·rw [List.nodup_append]
     exact⟨V.Ln,by simp,fun a ha' b hb'=>by rw [List.mem_singleton.1 hb']; grind⟩
    ·rcases List.mem_append.1 hj with h'|h'
     ·exact V.Lg j h'
     grind
    ·rw [fs,if_neg (fun e=>hm (by rw [← e]; exact V.L0))]; exact V.f0
    ·rcases List.mem_append.1 hj with h'|h'
     ·rw [fs,if_neg (fun e:j=q.agent=>hm (e ▸ h'))]; exact V.ca f f1 f2 f3 j h'
     ·rw [List.mem_singleton.1 h',fs,if_pos rfl,← hbv]
      have g1:=f2 _ _ hp hkg
      have e1:ro A (fn rv) ⟨k,(pre.length:Int)⟩=ro A f ⟨k,(pre.length:Int)⟩:=GZ (V.ca f f1 f2 f3 k hkL)
      rw [same false _ hkq,e1]
      grind [GZ,decide_eq_false_iff_not,RL]
    ·obtain⟨s1,s2,s3⟩:=hs
     have n1:p'.agent≠q.agent:=fun e=>hm (e ▸ s1)
     have n2:q'.agent≠q.agent:=fun e=>hm (by rw [← e]; grind)
     exact⟨by grind,fun h'=>by grind,by rw [same bv _ n1,same bv _ n2]; exact s3⟩
  ·rw [if_neg ht]
   exact plain (fun ⟨b',hb',ht'⟩=>by rw [hb] at hb'; rw [← Option.some.inj hb'] at ht'; grind) _ rfl
theorem W4 {A:List Agent} {N:Nat} (hv:VnN N A) (hN:N≤100000) {g:List Int} {st:Int} {first:Bool} {rv0:List Bool} (hg:BI A st g) (hcl:∀k ∈ g,∀k',Nb A k k'→tkA A k'→k' ∈ g):
  ∀ (post pre:List Int) (L:List Int) (rv:List Bool) (n:Nat),g=pre++post→VI A g st first rv0 L rv→(∀ (k:Int) (p q:Port),k ∈ pre→p.agent=k→get A p=some q→Seen A L rv p q)→14*post.length+1≤n→
  ∃b rv',BS n ⟨A⟩ g rv (remM L) (pre.length:Int)=some (b,rv')∧rv'.length=A.length∧Fit A (fn rv')∧(∀k,k ∉ g→fn rv' k=fn rv0 k)∧(b=true→fn rv' st=first∧Jg A g (fn rv'))∧(b=false→¬ ∃h,Fit A h∧Jg A g h∧h st=first):=by
 have hgl:=hg.len
 have hAl:=hv.len.2
 intro post
 induction post with
 |nil=>
  intro pre L rv n h V hs hn
  obtain⟨n,rfl⟩:∃k,n=k+1:=⟨n - 1,by omega⟩
  rw [BS,DL h,if_neg (by simp)]
  rw [List.append_nil] at h
  exact⟨true,rv,rfl,V.rl,V.ft,V.ou,fun _=>⟨V.f0,fun p q hp hpg=>(hs p.agent p q (h ▸ hpg) rfl hp).2.2⟩,fun h=>by cases h⟩
 | cons k post ih=>
  intro pre L rv n h V hs hn
  rw [List.length_cons] at hn
  obtain⟨n,rfl⟩:∃k,n=k+1:=⟨n - 1,by omega⟩
  have hkg:k ∈ g:=by rw [h]; simp
  obtain⟨a,ha,hta⟩:=hg.tk k hkg
  have hp4:=(A9 (hv.ag _ _ ha).1).2
  have hgk:g[pre.length]? =some k:=by rw [h]; simp
  have hkL:k ∈ L:=by
   by_cases h0:pre.length=0
   ·rw [h0,hg.hd] at hgk
    rw [← Option.some.inj hgk]; exact V.L0
   ·obtain⟨m',k',h1,h2,p,q,h3,h4,h5⟩:=hg.tr pre.length k (by omega) hgk
    have hk':k' ∈ pre:=by
     rw [h,List.getElem?_append_left h1] at h2
     grind
    have:=(hs k' p q hk' h4 h3).2.1
    rw [h5] at this
    exact this ⟨a,ha,hta⟩
  rw [BS,if_pos (CP h),BH h,AA]
  simp only
  rw [ha,AA]
  rcases spread_ports (i:=pre.length) hv hN hg hcl ha hkg a.ports [] L rv n rfl V hkL (by omega) with ⟨rv',c1,c2,c3,c4,c5⟩|⟨L',rv',n',c1,c2,c3,c4,c5,c6⟩
  ·grind
  ·have c1':Be n ⟨A⟩ g (pre.length:Int) k a rv (remM L) 0=_:=c1
   rw [c1',Ay h (by grind)]
   refine ih (pre++[k]) L' rv' n' (by rw [h]; simp) c3 (fun k1 p q hk1 hp1 hp=>?_) (by omega)
   rcases List.mem_append.1 hk1 with h'|h'
   ·grind
   ·rw [List.mem_singleton.1 h'] at hp1
    obtain⟨a',b1,b2⟩:=AZ.1 hp
    rw [hp1,ha] at b1
    obtain rfl:=Option.some.inj b1
    obtain⟨s0,s1⟩:=BW b2
    have:=c6 p.slot.toNat q (Nat.zero_le _) s1
    have e:p=⟨k,((p.slot.toNat:Nat):Int)⟩:=Ce hp1 (by grind)
    rw [e]; omega
theorem W5 {A:List Agent} {N:Nat} (hv:VnN N A) (hN:N≤100000) {g:List Int} {st:Int} (first:Bool) {rv:List Bool} (hg:BI A st g) (hcl:∀k ∈ g,∀k',Nb A k k'→tkA A k'→k' ∈ g) (hl:rv.length=A.length) (hf:Fit A (fn rv)):
  ∃b rv',F7 ⟨A⟩ g first rv=some (b,rv')∧rv'.length=A.length∧Fit A (fn rv')∧(∀k,k ∉ g→fn rv' k=fn rv k)∧(b=true→fn rv' st=first∧Jg A g (fn rv'))∧(b=false→¬ ∃h,Fit A h∧Jg A g h∧h st=first):=by
 have hgl:=hg.len
 have hAl:=hv.len.2
 have hst:st ∈ g:=List.mem_of_getElem? hg.hd
 obtain⟨a,ha,hta⟩:=hg.tk st hst
 have hbd:=Bk ha
 obtain⟨x,hx⟩:=Fx (l:=rv) hbd.1 (by omega)
 have hg0:at? g 0=some st:=Ie (k:=0) hg.hd
 have h1:Lm ([] :List (Int × Bool)) st true=some (remM [st]):=Gy [] st (by simp) (by grind)
 unfold F7
 rw [hg0,AA,h1,AA,AA,hx,AA,Bm,AA]
 simp only [SO]
 refine W4 hv hN hg hcl g [] [st] (rv.set st.toNat first) fuel rfl ⟨by rw [List.length_set]; exact hl,VA hf ⟨a,ha,hta⟩ hx,fun k hk=>?_,by simp,by simp,fun k hk=>by rw [List.mem_singleton.1 hk]; omega,by rw [FY hx,if_pos rfl],fun h _ _ h3 k hk=>?_⟩ (fun k p q hk=>by cases hk) (FZ (by omega))
 ·rw [FY hx,if_neg (fun e:k=st=>hk (e ▸ hst))]
 grind [FY]
structure OI (A:List Agent) (i:Nat) (D:List Int) (rv:List Bool):Prop where
 rl:rv.length=A.length
 ft:Fit A (fn rv)
 Dn:D.Nodup
 Dt:∀k ∈ D,tkA A k
 Dc:∀k ∈ D,∀k',Nb A k k'→tkA A k'→k' ∈ D
 Da:∀k:Int,0≤k→k<(i:Int)→tkA A k→k ∈ D
 ou:∀k,k ∉ D→fn rv k=false
 go:Jg A D (fn rv)
 ca:∀ (K:Int→Prop) (j:Int),Clo A K→(∀k a,at? A k=some a→tk a.kind=false→K k)→(∀k,0≤k→k<j→K k)→¬K j→j ∈ D→fn rv j=false
theorem bD {A:List Agent} {rv:List Bool} {i8:Int} {g:List Int} (hgl:g.length≤Big):∀ (post pre D:List Int) (n:Nat),g=pre++post→(∀k ∈ post,k ∉ D)→post.Nodup→D.length+post.length<Big→post.length+1≤n→
  ∃n',n≤n'+post.length∧Bg n ⟨A⟩ rv i8 g (remM D) (pre.length:Int)=Bg n' ⟨A⟩ rv i8 g (remM (D++post)) (g.length:Int):=by
 intro post
 induction post with
 |nil=>
  intro pre D n h _ _ _ hn
  rw [List.append_nil] at h
  exact⟨n,by simp,by rw [List.append_nil,h]⟩
 | cons k post ih=>
  intro pre D n h h1 h2 h3 hn
  rw [List.length_cons] at h3 hn
  obtain⟨n,rfl⟩:∃k,n=k+1:=⟨n - 1,by omega⟩
  rw [List.nodup_cons] at h2
  obtain⟨n',q1,q2⟩:=ih (pre++[k]) (D++[k]) n (by rw [h]; simp) (fun x hx=>by
   rw [List.mem_append,List.mem_singleton]
   grind) h2.2 (by grind) (by omega)
  refine⟨n',by rw [List.length_cons]; omega,?_⟩
  rw [Bg,if_pos (CP h),BH h,AA,Gy D k (h1 k (by simp)) (by omega),AA,Ay h hgl,q2,List.append_assoc]
  rfl
theorem W6 {A:List Agent} {N:Nat} (hv:VnN N A) (hN:N≤100000) {i:Nat} {D g:List Int} {rv:List Bool} (O:OI A i D rv) (hg:BI A (i:Int) g) (hcl:∀k ∈ g,∀k',Nb A k k'→tkA A k'→k' ∈ g) (hdis:∀k ∈ g,k ∉ D) (hi:i<A.length):
  ∀rv1,rv1.length=A.length→Fit A (fn rv1)→(∀k,k ∉ g→fn rv1 k=fn rv k)→Jg A g (fn rv1)→(fn rv1 (i:Int)=true→¬ ∃h,Fit A h∧Jg A g h∧h (i:Int)=false)→OI A (i+1) (D++g) rv1:=by
 intro rv1 l1 f1 same go1 hno
 have hig:(i:Int) ∈ g:=List.mem_of_getElem? hg.hd
 have hgD:∀k ∈ D,k ∉ g:=fun k hk h=>hdis k h hk
 refine⟨l1,f1,?_,fun k hk=>?_,fun k hk k' hn ht=>?_,fun k h0 h1 hk=>?_,fun k hk=>?_,fun p q hp hpD=>?_,fun K j k1 k2 k3 k4 hj=>?_⟩
 ·rw [List.nodup_append]
  exact⟨O.Dn,hg.nd,fun a ha b hb e=>hdis b hb (e ▸ ha)⟩
 ·rcases List.mem_append.1 hk with h|h
  ·exact O.Dt k h
  ·exact hg.tk k h
 ·rcases List.mem_append.1 hk with h|h
  ·exact List.mem_append_left _ (O.Dc k h k' hn ht)
  grind
 ·by_cases e:k=(i:Int)
  ·rw [e]; grind
  ·exact List.mem_append_left _ (O.Da k h0 (by omega) hk)
 ·rw [List.mem_append,not_or] at hk
  rw [same k hk.2]; exact O.ou k hk.1
 ·rcases List.mem_append.1 hpD with h|h
  ·have hq:=(EG hv hp).1
   have hqg:q.agent ∉ g:=fun hqg=>hdis _ hqg (O.Dc _ h _ ⟨p,q,hp,rfl,rfl⟩ (hg.tk _ hqg))
   rw [GZ (f:=fn rv1) (g:=fn rv) (same _ (hgD _ h)),GZ (f:=fn rv1) (g:=fn rv) (same _ hqg)]
   exact O.go p q hp h
  ·exact go1 p q hp h
 ·have hstep:∀k k',K k→Nb A k k'→K k':=fun k k' hk ⟨p,q,h1,h2,h3⟩=>by
   rw [← h3]; exact k1 p q h1 (by rw [h2]; exact hk)
  rcases List.mem_append.1 hj with h|h
  ·rw [same j (hgD j h)]; exact O.ca K j k1 k2 k3 k4 h
  ·by_cases e:j=(i:Int)
   ·subst e
    cases hb:fn rv1 (i:Int) with
    |false=>rfl
    | true=>
     exfalso
     refine hno hb ⟨fun k=>if k ∈ g then !fn rv1 k else fn rv1 k,fun k a ha hk=>?_,fun p q hp hpg=>?_,by grind⟩
     ·by_cases hkg:k ∈ g
      ·obtain⟨b,hb',ht⟩:=hg.tk k hkg
       rw [ha] at hb'; rw [Option.some.inj hb']; exact ht
      ·simp only [hkg,if_false] at hk
       exact f1 k a ha hk
     ·have hall:∀k ∈ g,¬K k:=hg.all k4 fun k k' hk hn _ hk'=>hk (hstep k' k hk' (hn.symm hv))
      have hq:=(EG hv hp).1
      have hqK:¬K q.agent:=fun h'=>hall _ hpg (hstep _ _ h' ⟨q,p,hq,rfl,rfl⟩)
      obtain⟨b,hb'⟩:=U9 hv hp
      have hqt:tkA A q.agent:=by
       refine⟨b,hb',?_⟩
       grind
      have hqg:=hcl _ hpg _ ⟨p,q,hp,rfl,rfl⟩ hqt
      have g1:=go1 p q hp hpg
      rw [RL (f:=fun k=>if k ∈ g then !fn rv1 k else fn rv1 k) (g:=fn rv1) hp (by grind),RL (f:=fun k=>if k ∈ g then !fn rv1 k else fn rv1 k) (g:=fn rv1) hq (by grind)]
      omega
   ·exfalso
    obtain⟨b,hb',ht⟩:=hg.tk j h
    have hbd:=Bk hb'
    have hij:(i:Int)<j:=by
     rcases Int.lt_or_gt_of_ne e with h'|h'
     ·exact absurd (O.Da j hbd.1 h' ⟨b,hb',ht⟩) (hdis j h)
     omega
    exact k4 (hg.all (C:=K) (k3 _ (by omega) hij) (fun k k' hk hn _=>hstep k k' hk hn) j h)
theorem eI {A:List Agent} {N:Nat} (hv:VnN N A) (hN:N≤100000):∀ (c i:Nat) (D:List Int) (rv:List Bool) (n:Nat),A.length=i+c→OI A i D rv→(A.length+8)*c+1≤n→
  ∃rev ok,Bf n ⟨A⟩ rv (remM D) (i:Int)=some (rev,ok)∧(ok=true→rev.length=A.length∧W2 A (fn rev))∧((∃h,Good A h)→ok=true):=by
 have hAl:=hv.len.2
 intro c
 induction c with
 | zero=>
  intro i D rv n hl O hn
  obtain⟨n,rfl⟩:∃k,n=k+1:=⟨n - 1,by omega⟩
  rw [Bf,if_neg (by grind),PK hv (by omega),AA]
  refine⟨_,_,rfl,fun ho=>?_,fun ⟨h,hh⟩=>?_⟩
  ·obtain⟨h1,h2⟩:=(NO hv).1 ho
   refine⟨h1,h2,fun K j k1 k2 k3 k4 k5 k6=>?_⟩
   by_cases hj:j ∈ D
   ·exact O.ca K j k1 k2 k3 k4 hj
   ·exact O.ou j hj
  ·refine(NO hv).2 ⟨O.rl,O.ft,fun p q hp=>?_⟩
   obtain⟨hq,hne⟩:=EG hv hp
   obtain⟨a,ha,-⟩:=AZ.1 hp
   obtain⟨b,hb,-⟩:=AZ.1 hq
   have hba:=Bk ha
   have hbb:=Bk hb
   by_cases hta:tk a.kind=true
   ·exact O.go p q hp (O.Da _ hba.1 (by omega) ⟨a,ha,hta⟩)
   ·by_cases htb:tk b.kind=true
    ·exact fun e=>O.go q p hq (O.Da _ hbb.1 (by omega) ⟨b,hb,htb⟩) e.symm
    ·have f1:∀f:Int→Bool,Fit A f→f p.agent=false:=fun f hf=>by
      cases hh':f p.agent with
      |false=>rfl
      |true=>exact absurd (hf _ a ha hh') hta
     have f2:∀f:Int→Bool,Fit A f→f q.agent=false:=fun f hf=>by
      cases hh':f q.agent with
      |false=>rfl
      |true=>exact absurd (hf _ b hb hh') htb
     rw [GZ (f:=fn rv) (g:=h) (by rw [f1 _ O.ft,f1 _ hh.1]),GZ (f:=fn rv) (g:=h) (by rw [f2 _ O.ft,f2 _ hh.1])]
     exact hh.2 p q hp
 | succ c ih=>
  intro i D rv n hl O hn
  rw [Nat.mul_add,Nat.mul_one] at hn
  obtain⟨n,rfl⟩:∃k,n=k+3:=⟨n - 3,by omega⟩
  obtain⟨a,ha⟩:=Fx (l:=A) (k:=(i:Int)) (by omega) (by omega)
  have hw:IntKind.i64.wrap ((i:Int)+1)=((i+1:Nat):Int):=by rw [w64 (by omega) (by omega)]; rfl
  have hDl:D.length≤A.length:=SX A.length D O.Dn fun x hx=>by
   obtain⟨c,hc,-⟩:=O.Dt x hx
   exact Bk hc
  rw [Bf,if_pos (by grind)]
  simp only
  rw [ha,AA,PF,AA,Kw]
  have skip:(tkA A (i:Int)→(i:Int) ∈ D)→∃rev ok,CT (n+2) ⟨A⟩ rv (remM D) (i:Int) true=some (rev,ok)∧(ok=true→rev.length=A.length∧W2 A (fn rev))∧((∃h,Good A h)→ok=true):=fun hs=>by
   rw [CT,if_pos rfl,hw]
   refine ih (i+1) D rv (n+1) (by omega) ⟨O.rl,O.ft,O.Dn,O.Dt,O.Dc,fun k h0 h1 hk=>?_,O.ou,O.go,O.ca⟩ (by omega)
   by_cases e:k=(i:Int)
   ·rw [e] at hk ⊢; grind
   ·exact O.Da k h0 (by omega) hk
  by_cases hta:tk a.kind=true
  ·rw [show (!tk a.kind)=false by grind,if_neg (by simp)]
   by_cases hm:(i:Int) ∈ D
   ·rw [show decide ((i:Int) ∈ D)=true by grind]
    grind
   ·rw [show decide ((i:Int) ∈ D)=false by grind,CT,if_neg (by simp)]
    have hti:tkA A (i:Int):=⟨a,ha,hta⟩
    obtain⟨g,e1,hg,hcl⟩:=eH hv hN hti
    have hgl:=hg.len
    have hig:(i:Int) ∈ g:=List.mem_of_getElem? hg.hd
    have hdis:∀k ∈ g,k ∉ D:=fun k hk=>(hg.all (C:=fun k=>tkA A k∧k ∉ D) ⟨hti,hm⟩ (fun k k' hk hn ht=>⟨ht,fun hk'=>hk.2 (O.Dc k' hk' k (hn.symm hv) hk.1)⟩) k hk).2
    have next:=W6 hv hN O hg hcl hdis (by omega)
    rw [e1,AA]
    obtain⟨n',q1,q2⟩:=bD (A:=A) (rv:=rv) (i8:=(i:Int)) (g:=g) (by grind) g [] D (n+1) rfl hdis hg.nd (by grind) (by omega)
    have q2':Bg (n+1) ⟨A⟩ rv (i:Int) g (remM D) 0=_:=q2
    obtain⟨n',rfl⟩:∃k,n'=k+2:=⟨n' - 2,by omega⟩
    obtain⟨b1,rv1,s1,s2,s3,s4,s5,s6⟩:=W5 hv hN false hg hcl O.rl O.ft
    rw [q2',Bg,if_neg (by simp),s1,AA]
    simp only
    cases b1 with
    |true=>
     obtain⟨t1,t2⟩:=s5 rfl
     rw [if_neg (by simp),C1,if_neg (by simp),hw]
     exact ih (i+1) (D++g) rv1 n' (by omega) (next rv1 s2 s3 s4 t2 (fun h=>by rw [t1] at h; cases h)) (by omega)
    | false=>
     have no1:=s6 rfl
     obtain⟨b2,rv2,u1,u2,u3,u4,u5,u6⟩:=W5 hv hN true hg hcl s2 s3
     rw [if_pos (by rfl),u1,AA,C1]
     simp only
     cases b2 with
     |true=>
      obtain⟨t1,t2⟩:=u5 rfl
      rw [if_neg (by simp),hw]
      exact ih (i+1) (D++g) rv2 n' (by omega) (next rv2 u2 u3 (fun k hk=>by rw [u4 k hk,s4 k hk]) t2 (fun _=>no1)) (by omega)
     |false=>
      have no2:=u6 rfl
      rw [if_pos (by rfl)]
      refine⟨[],false,rfl,(fun h=>by cases h),fun ⟨h,hh⟩=>?_⟩
      have hgo:Jg A g h:=fun p q hp _=>hh.2 p q hp
      cases hb:h (i:Int) with
      |false=>exact absurd ⟨h,hh.1,hgo,hb⟩ no1
      |true=>exact absurd ⟨h,hh.1,hgo,hb⟩ no2
  ·rw [show (!tk a.kind)=true by grind,if_pos rfl]
   exact skip fun ⟨b,hb,ht⟩=>by rw [ha] at hb; rw [← Option.some.inj hb] at ht; grind
theorem Ye {A:List Agent} {N:Nat} (hv:VnN N A) (hN:N≤100000):∃rev ok,E4 ⟨A⟩=some (rev,ok)∧(ok=true→rev.length=A.length∧W2 A (fn rev))∧((∃h,Good A h)→ok=true):=by
 have hAl:=hv.len.2
 unfold E4
 simp only
 rw [P9 (by grind),AA]
 have hrv:∀k,fn (List.replicate A.length false) k=false:=fun k=>by
  grind [fn,at?]
 refine eI hv hN A.length 0 [] (List.replicate A.length false) fuel (by omega) ⟨by simp,(fun k a ha hk=>by rw [hrv] at hk; cases hk),by simp,(fun k hk=>by cases hk),(fun k hk=>by cases hk),(fun k h0 h1=>by omega),(fun k _=>hrv k),(fun p q _ hp=>by cases hp),(fun K j _ _ _ _ hj=>by cases hj)⟩ (FZ ?_)
 have:(A.length+8)*A.length≤100008*100000:=Nat.mul_le_mul (by omega) (by omega)
 omega
theorem W7 {A:List Agent} {N:Nat} (hv:VnN N A) (hN:N≤100000):∃rs ri ok,Fo ⟨A⟩=some (rs,ok)∧E4 ⟨A⟩=some (ri,ok)∧rs.length=A.length∧(ok=true→ri=rs):=by
 obtain⟨rs,oks,a1,a2,a3,a4⟩:=Yc hv hN
 obtain⟨ri,oki,b1,b2,b3⟩:=Ye hv hN
 have e:oks=oki:=by
  cases hk:oki with
  |true=>
   obtain⟨c1,c2⟩:=b2 hk
   have:rs=ri:=eG (by rw [a2,c1]) fun k h0 h1=>a4 (fn ri) c2 k h0 (by omega)
   rw [this] at a3
   exact a3.2 c2.1
  |false=>
   grind
 grind [eG]
end Go.Proofs.YteckcjgpnegkjaaGreat.Ab
