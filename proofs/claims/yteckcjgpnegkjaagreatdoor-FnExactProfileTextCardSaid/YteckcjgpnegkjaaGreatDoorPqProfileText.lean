/-
  Rounds: what a state between two interactions is, what is left of it at the end of a round. No program is in sight.
-/
import Derived.Test.YteckcjgpnegkjaaGreatDoorPlRs
import Derived.Test.YteckcjgpnegkjaaGreatDoorPlTU
import Derived.Test.YteckcjgpnegkjaaGreatDoorModR
import Derived.Test.YteckcjgpnegkjaaGreatDoorModS
import Derived.Test.YteckcjgpnegkjaaGreatDoorModQ
import Derived.Test.YteckcjgpnegkjaaGreatDoorPlNet
import Derived.Test.YteckcjgpnegkjaaGreatDoorModP
import Derived.Test.YteckcjgpnegkjaaGreatDoorAbZ
namespace Go.Proofs.YteckcjgpnegkjaaGreatDoor.Ab
set_option linter.unusedVariables false
set_option linter.unusedSimpArgs false
open Go.RowKit
theorem VnN.stt {N} {l} (h:VnN N l):Stt [] l l:=by
 have hk:∀a ∈ l,a.kind≠0:=fun a ha=>by have:=La (h.mem ha); omega
 refine⟨⟨rfl,fun _ _=>rfl,fun k hk=>by simp at hk,h.m.mono fun p=>by simp,fun p hp=>hp⟩,by rw [ML hk]; rfl,fun a ha=>?_⟩
 have g:=h.mem ha
 exact⟨LZ g,(CP g).2,hk a ha⟩
theorem RI:∀ (l:List Agent) (i:Nat),(prs i l).Pairwise (fun p q=>p.a<q.a)∧∀p ∈ prs i l,(i:Int)≤p.a
 | [],i=>by simp [prs]
 | a::l,i=>by
  obtain⟨h1,h2⟩:=RI l (i+1)
  have h3:∀p ∈ pr1 i a,p.a=(i:Int):=fun p hp=>by
   unfold pr1 at hp
   split at hp
   ·split at hp
    ·rw [List.mem_singleton] at hp; subst hp; rfl
    ·cases hp
   ·cases hp
  have h4:(pr1 i a).Pairwise (fun p q=>p.a<q.a):=by
   unfold pr1
   split
   ·split
    ·exact List.pairwise_singleton _ _
    ·exact List.Pairwise.nil
   ·exact List.Pairwise.nil
  rw [prs]
  refine⟨List.pairwise_append.2 ⟨h4,h1,fun p hp q hq=>?_⟩,fun p hp=>?_⟩
  ·have:=h3 p hp
   have:=h2 q hq; omega
  ·rcases List.mem_append.1 hp with e|e
   ·have:=h3 p e; omega
   ·have:=h2 p e; omega
def Dj (p q:Pair):Prop:=p.a≠q.a∧p.a≠q.b∧p.b≠q.a∧p.b≠q.b
theorem cp {N} {l} (h:VnN N l):(prs 1 (l.drop 1)).Pairwise Dj:=by
 refine List.Pairwise.imp_of_mem (fun {p q} hp hq hlt=>?_) (RI (l.drop 1) 1).1
 have hab:∀p ∈ prs 1 (l.drop 1),p.a<p.b:=fun p hp=>by
  obtain⟨j,a,v,h1,h2,h3,h4,h5⟩:=Tp _ _ _ hp
  rw [h4] at h5 ⊢; exact h5
 obtain⟨a,b,P1,-⟩:=XP h hp
 obtain⟨c,d,P2,-⟩:=XP h hq
 have w1:=(h.m _ _ P1.w not_false).2.2
 have w2:=(h.m _ _ P2.w not_false).2.2
 have p1:=P1.w
 have p2:=P2.w
 have l1:=hab p hp
 have l2:=hab q hq
 have inj:∀ {u v:Int} {s:Port},Ab.get l s=some ⟨u,0⟩→Ab.get l s=some ⟨v,0⟩→u=v:=fun h1 h2=>by
  rw [h1] at h2
  exact congrArg Port.agent (Option.some.inj h2)
 refine⟨by omega,fun e=>?_,fun e=>?_,fun e=>?_⟩
 ·rw [← e] at w2
  have:=inj p1 w2; omega
 ·rw [e] at w1
  have:=inj w1 p2; omega
 ·rw [e] at w1
  have:=inj w1 w2; omega
def PrW (R:List Int) (A:List Agent) (p:Pair):Prop:=∃a b,Pr (fun k=>k ∈ R) A p.a p.b a b∧agB a=true∧agB b=true∧a.kind≠1∧b.kind≠1
theorem PrW.keep {R} {A B} (hst:Stt R A B) {x y} {R'} {A' B'} {new} (ho:Outc R A x y R' A' B' new) {p} (h:PrW R A p) (n1:p.a≠x) (n2:p.a≠y) (n3:p.b≠x) (n4:p.b≠y):PrW R' A' p:=by
 obtain⟨a,b,hp,ga,gb,ka,kb⟩:=h
 have e1:=B6 (m:=new) (DX hp.hx)
 have e2:=B6 (m:=new) (DX hp.hy)
 rw [← ho.shp] at e1 e2
 obtain⟨a',ha',sa⟩:=LW e1
 obtain⟨b',hb',sb⟩:=LW e2
 obtain⟨q1,q2⟩:=RC sa
 obtain⟨q3,q4⟩:=RC sb
 have r1:p.a ∉ R':=fun e=>by
  rcases (ho.mem _).1 e with e|e|e
  ·exact hp.sx e
  ·exact n1 e
  ·exact n2 e.1
 have r2:p.b ∉ R':=fun e=>by
  rcases (ho.mem _).1 e with e|e|e
  ·exact hp.sy e
  ·exact n3 e
  ·exact n4 e.1
 exact⟨a',b',⟨ha',hb',ho.fr _ _ hp.w (hst.ok.m _ _ hp.w hp.sx).2.2 r1 r2,r1,r2⟩,by rw [q1]; exact ga,by rw [q3]; exact gb,by rw [q2]; exact ka,by rw [q4]; exact kb⟩
theorem RJ (f:Int→Int):∀ (l:List Agent) (t:Nat) (a:Agent),l[t]? =some a→a.kind≠0→(Cr f l)[AW (l.take t)]? =some (rnA f a)
 | [],t,a,h,_=>by simp at h
 |b::l,0,a,h,hk=>by
  simp only [List.getElem?_cons_zero,Option.some.injEq] at h
  subst h
  rw [Cr,if_neg hk]; rfl
 |b::l,t+1,a,h,hk=>by
  rw [List.getElem?_cons_succ] at h
  have ih:=RJ f l t a h hk
  rw [List.take_succ_cons,AW,Cr]
  by_cases e:b.kind=0
  ·rw [if_pos e,if_pos e,Nat.zero_add]; exact ih
  ·rw [if_neg e,if_neg e,Nat.add_comm,List.getElem?_cons_succ]; exact ih
theorem MM (f:Int→Int):∀ (l:List Agent) (j:Nat) (v:Agent),(Cr f l)[j]? =some v→∃t a,l[t]? =some a∧a.kind≠0∧v=rnA f a∧j=AW (l.take t)
 | [],j,v,h=>by simp [Cr] at h
 | b::l,j,v,h=>by
  rw [Cr] at h
  by_cases e:b.kind=0
  ·rw [if_pos e] at h
   obtain⟨t,a,h1,h2,h3,h4⟩:=MM f l j v h
   exact⟨t+1,a,by simpa using h1,h2,h3,by rw [List.take_succ_cons,AW,if_pos e]; omega⟩
  ·rw [if_neg e] at h
   cases j with
   |zero=>
    simp only [List.getElem?_cons_zero,Option.some.injEq] at h
    exact⟨0,b,rfl,e,h.symm,rfl⟩
   |succ j=>
    rw [List.getElem?_cons_succ] at h
    obtain⟨t,a,h1,h2,h3,h4⟩:=MM f l j v h
    exact⟨t+1,a,by simpa using h1,h2,h3,by rw [List.take_succ_cons,AW,if_neg e]; omega⟩
theorem Tu:∀ (l:List Agent) (t u:Nat) (a:Agent),l[t]? =some a→a.kind≠0→t<u→AW (l.take t)<AW (l.take u)
 | [],t,u,a,h,_,_=>by simp at h
 |b::l,0,u+1,a,h,hk,_=>by
  simp only [List.getElem?_cons_zero,Option.some.injEq] at h
  subst h
  rw [List.take_succ_cons,AW,if_neg hk,List.take_zero,AW]; omega
 |b::l,t+1,u+1,a,h,hk,hlt=>by
  rw [List.getElem?_cons_succ] at h
  have:=Tu l t u a h hk (by omega)
  rw [List.take_succ_cons,List.take_succ_cons,AW,AW]; omega
theorem Vu {l:List Agent} {t u:Nat} {a b:Agent} (ha:l[t]? =some a) (hb:l[u]? =some b) (ka:a.kind≠0) (kb:b.kind≠0) (h:AW (l.take t)=AW (l.take u)):t=u:=by
 rcases Nat.lt_trichotomy t u with e|e|e
 ·have:=Tu l t u a ha ka e; omega
 ·exact e
 ·have:=Tu l u t b hb kb e; omega
theorem jB (f:Int→Int) (a:Agent):sh (rnA f a)=sh a:=by simp [sh,rnA]
structure Vst (R:List Int) (A B:List Agent):Prop where
 st:Stt R A B
 sv:∀k a,at? A k=some a→agB a=true∧(a.kind=1↔k=0)
 r0:(0:Int) ∉ R
 a0:1≤A.length
theorem VnN.vst {N} {l} (h:VnN N l):Vst [] l l:=⟨h.stt,h.ag,by simp,h.len.1⟩
theorem Vst.next {R R'} {A A' B B'} (h:Vst R A B) {x y} {new} {a b} (ha:at? A x=some a) (hb:at? A y=some b) (ka:a.kind≠1) (kb:b.kind≠1) (o:Outc R A x y R' A' B' new):Vst R' A' B':=by
 have hlen:=KU o.shp
 rw [List.length_append,List.length_map] at hlen
 have ha0:=h.a0
 refine⟨o.st,fun k c hc=>?_,fun e=>?_,by omega⟩
 ·have hl:=Cq hc
  by_cases hk:k<(A.length:Int)
  ·obtain⟨d,hd,-⟩:=EA (l:=A) (i:=k) (by omega)
   have e1:=B6 (m:=new) (DX hd)
   rw [← o.shp,DX hc] at e1
   obtain⟨q1,q2⟩:=RC (Option.some.inj e1)
   obtain⟨g1,g2⟩:=h.sv k d hd
   exact⟨by rw [q1]; exact g1,by rw [q2]; exact g2⟩
  ·obtain⟨i,hi⟩:∃i:Nat,k=((A.length+i:Nat):Int):=⟨(k - A.length).toNat,by omega⟩
   have hi2:i<new.length:=by omega
   have e1:=Fj (l:=A.map sh) (m:=new) (k:=i) (List.getElem?_eq_getElem hi2)
   rw [← o.shp,List.length_map,← hi,DX hc] at e1
   obtain⟨s1,s2⟩:=o.sv _ (List.getElem_mem hi2)
   rw [← Option.some.inj e1] at s1 s2
   rw [XJ] at s2
   refine⟨s2,fun e=>absurd e s1,fun e=>by omega⟩
 ·rcases (o.mem 0).1 e with e|e|e
  ·exact h.r0 e
  ·exact ka ((h.sv x a ha).2.2 e.symm)
  ·exact kb ((h.sv y b hb).2.2 e.1.symm)
theorem Vst.pack {R:List Int} {A B:List Agent} (h:Vst R A B) {N:Nat} (hN:B.length≤N):VnN N (Cr (posN B) B):=by
 have hlen:=h.st.ok.len
 have inR:∀ (t:Nat) (a:Agent),B[t]? =some a→a.kind≠0→(t:Int) ∉ R∧at? A (t:Int)=some a:=fun t a ht hk=>by
  have hb:=LU ht
  have hr:(t:Int) ∉ R:=fun e=>hk ((h.st.kinds _ _ hb).2 e)
  exact⟨hr,(h.st.ok.ag _ hr).trans hb⟩
 have pos:∀t:Nat,posN B (t:Int)=((AW (B.take t):Nat):Int):=fun t=>by unfold posN; rw [Int.toNat_natCast]
 obtain⟨a0,h0,k0⟩:∃a0,B[0]? =some a0∧a0.kind=1:=by
  obtain⟨d,hd,-⟩:=EA (l:=A) (i:=0) (by have:=h.a0; omega)
  have hb:=(h.st.ok.ag 0 h.r0).symm.trans hd
  exact⟨d,by have:=(BN hb).2; simpa using this,(h.sv 0 d hd).2.2 rfl⟩
 have hv0:=RJ (posN B) B 0 a0 h0 (by omega)
 rw [List.take_zero,AW] at hv0
 refine⟨⟨?_,?_⟩,fun k v hk=>?_,fun p q hp _=>?_⟩
 ·have:=(List.getElem?_eq_some_iff.1 hv0).1; omega
 ·have:=S1 (posN B) B; omega
 ·obtain⟨k1,k2⟩:=BN hk
  obtain⟨t,a,h1,h2,rfl,h4⟩:=MM _ _ _ _ k2
  obtain⟨hr,hA⟩:=inR t a h1 h2
  obtain⟨g1,g2⟩:=h.sv _ _ hA
  obtain⟨q1,q2⟩:=RC (jB (posN B) a)
  refine⟨by rw [q1]; exact g1,?_⟩
  rw [q2,g2]
  constructor
  ·intro e
   have:t=0:=by omega
   subst this
   rw [List.take_zero,AW] at h4; omega
  ·intro e
   have:t=0:=Vu h1 h0 h2 (by omega) (by rw [← h4,List.take_zero,AW]; omega)
   omega
 ·obtain⟨v,hv,hq⟩:=Aw.1 hp
  obtain⟨k1,k2⟩:=BN hv
  obtain⟨t,a,h1,h2,rfl,h4⟩:=MM _ _ _ _ k2
  obtain⟨hr,hA⟩:=inR t a h1 h2
  simp only [rnA] at hq
  rw [XO] at hq
  obtain⟨q0,hq0,rfl⟩:=Option.map_eq_some_iff.1 hq
  have hg:Ab.get A ⟨(t:Int),p.slot⟩=some q0:=Aw.2 ⟨a,hA,hq0⟩
  obtain⟨m1,m2,m3⟩:=h.st.ok.m _ _ hg hr
  obtain⟨b,hb,hbs⟩:=Aw.1 m3
  have hbB:=(h.st.ok.ag _ m1).symm.trans hb
  obtain⟨b1,b2⟩:=BN hbB
  have kb:b.kind≠0:=fun e=>m1 ((h.st.kinds _ _ hbB).1 e)
  have hpB:=RJ (posN B) B _ b b2 kb
  have e1:posN B q0.agent=((AW (B.take q0.agent.toNat):Nat):Int):=rfl
  have ep:p=⟨((AW (B.take t):Nat):Int),p.slot⟩:=Ca (by simp only; omega) rfl
  refine⟨not_false,fun e=>?_,?_⟩
  ·rw [ep] at e
   have ea:=congrArg Port.agent e
   have es:=congrArg Port.slot e
   simp only [rnP] at ea es
   rw [e1] at ea
   have:=Vu b2 h1 kb h2 (by omega)
   exact m2 (Ca (by simp only; omega) es)
  ·refine Aw.2 ⟨rnA (posN B) b,?_,?_⟩
   ·simp only [rnP,e1]
    exact LU hpB
   ·simp only [rnA,rnP]
    rw [XO,hbs]
    simp only [Option.map_some,rnP,pos]
    exact congrArg some ep.symm
theorem N6:∀l:List Agent,szl (fun a=>a.ports.length) l≤szl Agent.sz l
 | [] =>by simp [szl]
 |a::l=>by
  have:=N6 l
  simp only [szl,Agent.sz]; omega
theorem Net.small_of (n:Net) (h:n.sz≤Big):n.Small:=by
 unfold Net.sz at h
 refine⟨by have:=N6 n.agents; omega,fun a ha=>?_⟩
 have:=I9 (s:=Agent.sz) ha
 unfold Agent.sz at this h; omega
theorem NK (f:Int→Int):∀l:List Agent,(Cr f l).length =AW l
 | [] =>rfl
 |a::l=>by
  rw [Cr,AW]
  split
  ·rw [NK f l]; omega
  ·rw [List.length_cons,NK f l]; omega
theorem S2 (f:Int→Int):∀l:List Agent,(∀a ∈ l,a.kind≠0)→(∀a ∈ l,rnA f a=a)→Cr f l=l
 | [],_,_=>rfl
 |a::l,h,h2=>by
  rw [Cr,if_neg (h a List.mem_cons_self),h2 a List.mem_cons_self,S2 f l (fun b hb=>h b (List.mem_cons_of_mem _ hb)) fun b hb=>h2 b (List.mem_cons_of_mem _ hb)]
theorem VnN.packed {N} {l} (h:VnN N l):Cr (posN l) l=l:=by
 have hk:∀a ∈ l,a.kind≠0:=fun a ha=>by have:=La (h.mem ha); omega
 refine S2 _ l hk fun a ha=>?_
 have hq:=(h.stt.closed a ha (hk a ha)).2
 have:a.ports.map (rnP (posN l))=a.ports:=by
  refine(List.map_congr_left fun q hq'=>?_).trans (List.map_id _)
  obtain⟨b,hb,-⟩:=hq q hq'
  have hl:=Cq hb
  refine Ca ?_ rfl
  simp only [rnP,posN,id]
  rw [ML fun b hb=>hk b (List.mem_of_mem_take hb),List.length_take]
  omega
 unfold rnA
 rw [this]
def clsP (A:List Agent) (p:Pair):Int:=match at? A p.a,at? A p.b with
 |some a,some b=>kcl a b
 |_,_=>8
theorem jC {a b a' b'} (h:sh a=sh a') (h':sh b=sh b'):kcl a b=kcl a' b':=by
 simp only [sh,Prod.mk.injEq] at h h'
 obtain⟨h1,h2,h3,h4,h5⟩:=h
 obtain⟨k1,k2,k3,k4,k5⟩:=h'
 unfold kcl C7 pcl
 rw [h1,h2,h3,h4,k1,k2,k3,k4]
theorem Tv (a b:Agent):1≤kcl a b∧kcl a b≤8:=by
 have h1:=(Oz a b).1
 have h2:=(Oz b a).1
 unfold kcl pcl
 repeat' split
 all_goals omega
theorem Vv (A:List Agent) (p:Pair):1≤clsP A p∧clsP A p≤8:=by
 unfold clsP
 split
 ·exact Tv _ _
 ·omega
theorem QA {A} {p} {a b} (ha:at? A p.a=some a) (hb:at? A p.b=some b):clsP A p=kcl a b:=by unfold clsP; rw [ha,hb]
theorem Zz {A A'} {new} (h:A'.map sh=A.map sh++new) {p} {a b} (ha:at? A p.a=some a) (hb:at? A p.b=some b):clsP A' p=clsP A p:=by
 have e1:=B6 (m:=new) (DX ha)
 have e2:=B6 (m:=new) (DX hb)
 rw [← h] at e1 e2
 obtain⟨a',ha',sa⟩:=LW e1
 obtain⟨b',hb',sb⟩:=LW e2
 rw [QA ha hb,QA ha' hb',jC sa sb]
theorem jD (a b:Int):∃m,Eh a b=some m:=by unfold Eh; split <;> exact⟨_,rfl⟩
def Rx (bk:List Net):List Pair→List Agent→List (Int × Bool)→Option (Int × Rewriter)
 | [],A,rm=>some (0,⟨⟨A⟩,bk,rm⟩)
 |p::l,A,rm=>(Aj ⟨⟨A⟩,bk,rm⟩ p).bind fun v=>if (!decide (v.1 =0))=true then some v else Rx bk l v.2.net.agents v.2.removed
def Vw (bk:List Net):List Pair→L15Run→Option (Int × L15Run)
 | [],r=>some (0,r)
 |p::l,r=>(Gq bk r p).bind fun v=>if (!decide (v.1 =0))=true then some v else Vw bk l v.2
theorem run_both (bk:List Net) (hbk:∀T ∈ bk,Vn T.agents):∀ (post:List Pair) (R:List Int) (A B:List Agent) (tr:List Int) (pk:Int),Vst R A B→(∀p ∈ post,PrW R A p)→post.Pairwise Dj→A.length+600*post.length≤8000000→tr.length+post.length≤Big→
  (∃e r1 r2,e≠0∧Rx bk post A (remM R)=some (e,r1)∧Vw bk post ⟨⟨B⟩,tr,pk⟩=some (e,r2))∨
  (∃R' A' B' pk',Rx bk post A (remM R)=some (0,⟨⟨A'⟩,bk,remM R'⟩)∧Vw bk post ⟨⟨B⟩,tr,pk⟩=some (0,⟨⟨B'⟩,tr++post.map (clsP A),pk'⟩)∧Vst R' A' B'∧A'.length≤A.length+600*post.length∧(AW B≤600→AW B'≤600)∧∀p ∈ post,clsP A p≤7):=by
 intro post
 induction post with
 |nil=>
  intro R A B tr pk h hw hd hA ht
  exact .inr ⟨R,A,B,pk,rfl,by simp [Vw],h,by simp,fun x=>x,by simp⟩
 | cons x post ih=>
  intro R A B tr pk h hw hd hA ht
  rw [List.length_cons] at hA ht
  obtain⟨a,b,hp,ga,gb,ka,kb⟩:=hw x List.mem_cons_self
  obtain⟨hd1,hd2⟩:=List.pairwise_cons.1 hd
  have h2:Two a b:=⟨Hp ga,Hp gb,ka,kb⟩
  have hc:clsP A x=kcl a b:=QA hp.hx hp.hy
  have hS:∀ (v:Int × Net),Hk bk ⟨B⟩ x.a x.b=some v→Gq bk ⟨⟨B⟩,tr,pk⟩ x=(if (!decide (v.1 =0))=true then (some (v.1,(⟨v.2,tr,pk⟩:L15Run))) else (app? tr [kcl a b]).bind fun t=>(H6 v.2).bind fun q=>(Eh pk q).bind fun m=>some (0,⟨v.2,t,m⟩)):=fun v hv=>by
   unfold Gq
   rw [hp.bx h.st.ok,AA,hp.bY h.st.ok,AA,LX h2,AA,hv,AA]
  rw [Rx,Vw]
  rcases step h.st hp ga gb ka kb bk hbk (by omega) with ⟨e,h1,h4,h3⟩|⟨u,w,R',A',B',new,huw,⟨hk8,hlv⟩,h4,h3,h5⟩
  ·left
   have h4':Aj ⟨⟨A⟩,bk,remM R⟩ x=some (e,⟨⟨A⟩,bk,remM R⟩):=h4
   rw [h4',hS _ h3,AA,if_pos (by simpa using h1),if_pos (by simpa using h1),AA,if_pos (by simpa using h1)]
   exact⟨e,_,_,h1,rfl,rfl⟩
  ·have h4':Aj ⟨⟨A⟩,bk,remM R⟩ x=some (0,⟨⟨A'⟩,bk,remM R'⟩):=h4
   have hlen:=KU h5.shp
   rw [List.length_append,List.length_map] at hlen
   have hnl:=h5.nl
   have hlB:=h5.st.ok.len
   have hl':=Ju B'
   obtain⟨m,hm⟩:=jD pk ((AW B':Nat):Int)
   have hlive:=YQ ⟨B'⟩ (by simp only; unfold Big; omega)
   simp only at hlive
   rw [h4',hS _ h3,AA,if_neg (by simp),if_neg (by simp),CO (by simp; omega),AA,hlive,AA,hm,AA,AA,if_neg (by simp)]
   have hv':Vst R' A' B':=by
    rcases huw with ⟨e1,e2⟩|⟨e1,e2⟩
    ·exact h.next (by rw [e1]; exact hp.hx) (by rw [e2]; exact hp.hy) ka kb h5
    ·exact h.next (by rw [e1]; exact hp.hy) (by rw [e2]; exact hp.hx) kb ka h5
   have hck:∀p ∈ post,clsP A' p=clsP A p:=fun p hp'=>by
    obtain⟨c,d,q,-⟩:=hw p (List.mem_cons_of_mem _ hp')
    exact Zz h5.shp q.hx q.hy
   have hmap:post.map (clsP A')=post.map (clsP A):=List.map_congr_left hck
   have hr:=Tv a b
   rcases ih R' A' B' (tr++[kcl a b]) m hv' (fun p hp'=>by
     obtain⟨d1,d2,d3,d4⟩:=hd1 p hp'
     have hk:=hw p (List.mem_cons_of_mem _ hp')
     rcases huw with ⟨e1,e2⟩|⟨e1,e2⟩
     ·exact hk.keep h.st h5 (by rw [e1]; exact d1.symm) (by rw [e2]; exact d3.symm) (by rw [e1]; exact d2.symm) (by rw [e2]; exact d4.symm)
     ·exact hk.keep h.st h5 (by rw [e1]; exact d3.symm) (by rw [e2]; exact d1.symm) (by rw [e1]; exact d4.symm) (by rw [e2]; exact d2.symm)) hd2 (by omega) (by simp; omega) with ⟨e,r1,r2,q1,q2,q3⟩|⟨R2,A2,B2,pk2,q1,q2,q3,q4,q5,q6⟩
   ·exact .inl ⟨e,r1,r2,q1,q2,q3⟩
   ·refine .inr ⟨R2,A2,B2,pk2,q1,?_,q3,by rw [List.length_cons]; omega,fun _=>q5 hlv,fun p hp'=>?_⟩
    ·rw [q2,hmap,List.map_cons,hc,List.append_assoc,List.singleton_append]
    ·rcases List.mem_cons.1 hp' with e|e
     ·rw [e,hc]; omega
     ·rw [← hck p e]; exact q6 p e
theorem VnN.prW {N} {l} (h:VnN N l):∀p ∈ prs 1 (l.drop 1),PrW [] l p:=fun p hp=>XP h hp
theorem ff (bk:List Net) (most bud:Int) (tr0:List Int) (out:List (List Int)) (P:List Pair) (hP:P.length≤Big):∀ (post pre:List Pair) (B:List Agent) (tr:List Int) (pk:Int) (k:Nat),P=pre++post→
  CV (post.length+1+k) bk most bud tr0 out P B tr pk (pre.length:Int)=(Vw bk post ⟨⟨B⟩,tr,pk⟩).bind fun w=>if (!decide (w.1 =0))=true then some ([],w.1) else
   (cutL w.2.trace (tr0.length:Int) ((List.length w.2.trace :Nat):Int)).bind fun c=>(HI c).bind fun o=>(app? out [o]).bind fun q=>By k bk most bud w.2.n.agents w.2.trace w.2.peak q:=by
 intro post
 induction post with
 |nil=>
  intro pre B tr pk k h
  rw [show ([] :List Pair).length +1+k=k+1 from by simp; omega,CV,CY h,if_neg (by simp),Vw,AA,if_neg (by simp)]
 | cons x post ih=>
  intro pre B tr pk k h
  rw [show (x::post).length +1+k=(post.length+1+k)+1 from by simp; omega,CV,CB h,if_pos rfl,BI h,AA,Vw]
  cases hs:Gq bk ⟨⟨B⟩,tr,pk⟩ x with
  |none=>rfl
  | some v=>
   rw [AA,AA]
   by_cases h0:v.1 =0
   ·rw [if_neg (by simp [h0]),if_neg (by simp [h0]),A8 h hP]
    exact ih (pre++[x]) _ _ _ k (Ai h)
   ·rw [if_pos (by simp [h0]),if_pos (by simp [h0]),AA,if_pos (by simp [h0])]
theorem fg {α:Type} (a b:List α):cutL (a++b) (a.length:Int) ((List.length (a++b):Nat):Int)=some b:=by
 unfold cutL
 rw [if_pos ⟨by omega,by rw [List.length_append]; omega,Int.le_refl _⟩]
 congr 1
 rw [Int.toNat_natCast,List.drop_left,List.take_of_length_le (by rw [List.length_append]; omega)]
theorem cq (l:List Net) (n:Net) (b:Int) (hll:l.length≤Big) (hs:∀T ∈ l,T.Small) (hns:n.Small):∃c,IY l n [] b=some c∧HM l n [] b=some c∧(c=0→Lg l=true∧n.valid=true∧0≤b∧b≤4000):=by
 unfold IY HM
 rw [Zr l hll hs,Zq l hll hs,AA,AA]
 cases hT:Lg l with
 |false=>exact⟨1,by simp [Du],by simp [DP],by simp⟩
 | true=>
  rw [if_neg (by simp),if_neg (by simp),YG n hns,YK n hns,AA,AA]
  cases hv:n.valid with
  |false=>exact⟨1,by simp [Du],by simp [DP],by simp⟩
  | true=>
   have h1:Fh [] =some true:=by
    unfold Fh
    obtain⟨k,hk⟩:∃q,fuel=q+1:=⟨fuel - 1,by rw [Af]⟩
    rw [if_neg (by simp),hk,DJ,if_neg (by simp)]
   have h2:Ei [] =some true:=by
    unfold Ei
    rw [if_pos (by simp),PY [] _ (fun _=>false) (by simp) (by simp),AA]; rfl
   have h3:∀p,DO l n p=some (if p=true then 2 else 0):=fun p=>by
    unfold DO Hn
    cases p with
    |true=>rfl
    |false=>
     rw [if_neg (by simp),Vg l n hns.agents.1 hns.agents.2,AA]
     rfl
   unfold Du DP
   rw [if_neg (by simp),if_neg (by simp),h1,h2,AA,AA,if_neg (by simp),if_neg (by simp),FH,AA]
   unfold Fi
   by_cases hb:0≤b∧b≤4000
   ·refine⟨0,by simp [hb],?_,fun _=>⟨rfl,rfl,hb⟩⟩
    rw [if_neg (by simp; omega),h3]
    simp; omega
   ·refine⟨2,by simp; omega,?_,by simp⟩
    by_cases hn:b<0
    ·rw [if_pos (by simpa using hn),h3]; rfl
    ·rw [if_neg (by simpa using hn),h3]
     simp; omega
def bump (c:List Int) (k:Int):List Int:=c.set (k - 1).toNat ((c[(k - 1).toNat]?).getD 0+1)
def cntL (l:List Int):List Int:=l.foldl bump (List.replicate 7 0)
theorem Vx:∀ (c:List Int) (i:Nat),i<c.length→(c.set i ((c[i]?).getD 0+1)).sum =c.sum+1
 | [],i,h=>by simp at h
 |x::c,0,h=>by simp; omega
 |x::c,i+1,h=>by
  rw [List.length_cons] at h
  have:=Vx c i (by omega)
  rw [List.set_cons_succ,List.getElem?_cons_succ,List.sum_cons,List.sum_cons,this]; omega
theorem XW:∀ (c:List Int),(∀x ∈ c,0≤x)→0≤c.sum∧∀x ∈ c,x≤c.sum
 | [],_=>by simp
 |y::c,h=>by
  obtain⟨h1,h2⟩:=XW c fun x hx=>h x (List.mem_cons_of_mem _ hx)
  have h0:=h y List.mem_cons_self
  rw [List.sum_cons]
  refine⟨by omega,fun x hx=>?_⟩
  rcases List.mem_cons.1 hx with e|e
  ·omega
  ·have:=h2 x e; omega
theorem gN:∀ (l:List Int) (c:List Int),c.length=7→(∀x ∈ c,0≤x)→(∀k ∈ l,1≤k∧k≤7)→(l.foldl bump c).length =7∧(∀x ∈ l.foldl bump c,0≤x)∧(l.foldl bump c).sum =c.sum+(l.length:Int)
 | [],c,h1,h2,_=>⟨h1,h2,by simp⟩
 | k::l,c,h1,h2,h3=>by
  obtain⟨k1,k2⟩:=h3 k List.mem_cons_self
  have hi:(k - 1).toNat <c.length:=by omega
  have hb:∀x ∈ bump c k,0≤x:=fun x hx=>by
   rcases List.mem_or_eq_of_mem_set hx with e|e
   ·exact h2 x e
   ·rw [e,List.getElem?_eq_getElem hi]
    have:=h2 _ (List.getElem_mem hi)
    simp only [Option.getD_some]; omega
  obtain⟨q1,q2,q3⟩:=gN l (bump c k) (by unfold bump; rw [List.length_set]; exact h1) hb fun x hx=>h3 x (List.mem_cons_of_mem _ hx)
  refine⟨q1,q2,?_⟩
  rw [List.foldl_cons,q3,List.length_cons]
  unfold bump
  rw [Vx c _ hi]; omega
theorem N7 {l} (h:∀k ∈ l,1≤k∧k≤7):(cntL l).length =7∧(∀x ∈ cntL l,0≤x∧x≤(l.length:Int))∧(cntL l).sum =(l.length:Int):=by
 obtain⟨h1,h2,h3⟩:=gN l (List.replicate 7 0) (by simp) (fun x hx=>by rw [(List.mem_replicate.1 hx).2]; omega) h
 have h3':(cntL l).sum =(l.length:Int):=by unfold cntL; rw [h3]; simp
 refine⟨h1,fun x hx=>⟨h2 x hx,?_⟩,h3'⟩
 have:=(XW _ h2).2 x hx
 unfold cntL at h3'
 omega
theorem Z0 (l:List Int) (k:Int):cntL (l++[k])=bump (cntL l) k:=by unfold cntL; rw [List.foldl_append]; rfl
theorem Vy {l} (h:∀k ∈ l,1≤k∧k≤7) (hl:l.length≤Big) {k} (hk:1≤k∧k≤7):∃v,at? (cntL l) (IntKind.i64.wrap (k - 1))=some v∧C0 (cntL l) (IntKind.i64.wrap (k - 1)) (IntKind.i64.wrap (v+1))=some (cntL (l++[k])):=by
 obtain⟨h1,h2,-⟩:=N7 h
 rw [w64 (by omega) (by omega)]
 obtain⟨v,hv,hm⟩:=EA (l:=cntL l) (i:=k - 1) (by omega)
 refine⟨v,hv,?_⟩
 have hb:=h2 v hm
 rw [w64 (by omega) (by unfold Big at hl; omega),Z0]
 unfold C0 VK bump
 rw [(BN hv).2]; rfl
theorem fh (v:Rewriter) (P:List Pair) (hP:P.length≤Big):∀ (post pre:List Pair) (A:List Agent) (rm:List (Int × Bool)) (n:Nat),P=pre++post→post.length<n→
  Bh n v P A rm (pre.length:Int)=(Rx v.book post A rm).bind fun w=>if (!decide (w.1 =0))=true then some ((⟨[]⟩:Net),0,w.1) else (Bq w.2).bind fun u=>some (u,(P.length:Int),0):=by
 intro post
 induction post with
 |nil=>
  intro pre A rm n h hn
  obtain⟨n,rfl⟩:∃q,n=q+1:=⟨n - 1,by omega⟩
  rw [Bh,CY h,if_neg (by simp),Rx,AA,if_neg (by simp)]
 | cons x post ih=>
  intro pre A rm n h hn
  rw [List.length_cons] at hn
  obtain⟨n,rfl⟩:∃q,n=q+1:=⟨n - 1,by omega⟩
  rw [Bh,CB h,if_pos rfl,BI h,AA,Rx]
  cases hs:Aj ⟨⟨A⟩,v.book,rm⟩ x with
  |none=>rfl
  | some w=>
   rw [AA,AA]
   by_cases h0:w.1 =0
   ·rw [if_neg (by simp [h0]),if_neg (by simp [h0]),A8 h hP]
    exact ih (pre++[x]) _ _ n (Ai h) (by omega)
   ·rw [if_pos (by simp [h0]),if_pos (by simp [h0]),AA,if_pos (by simp [h0])]
theorem Z1 (bk:List Net) {V} (hV:Vn V):Db bk ⟨V⟩=(Rx bk (prs 1 (V.drop 1)) V []).bind fun w=>if (!decide (w.1 =0))=true then some ((⟨[]⟩:Net),0,w.1) else (Bq w.2).bind fun u=>some (u,((List.length (prs 1 (V.drop 1)):Nat):Int),0):=by
 have hVl:=hV.len
 have hpl:=To (V.drop 1) 1
 rw [List.length_drop] at hpl
 unfold Db
 rw [Vg bk ⟨V⟩ (by simp only; unfold Big; omega) hV.small,AA,O0 ⟨V⟩ hV (by omega),AA]
 exact fh ⟨⟨V⟩,bk,[]⟩ (prs 1 (V.drop 1)) (by unfold Big; omega) (prs 1 (V.drop 1)) [] V [] fuel rfl (by rw [Af]; omega)
def n8 (l:List Int):List Int:=l.filter fun c=> !decide (c=8)
theorem fi (bk:List Net) (b:Int) {V} (out:List (List Int)) (P:List Pair) (hP:P.length≤600) (hw:∀p ∈ P,PrW [] V p):∀ (post pre:List Pair) (k:Nat),P=pre++post→
  CK (post.length+1+k) bk b V out P (cntL (n8 (pre.map (clsP V)))) (pre.length:Int)=(Db bk ⟨V⟩).bind fun w=>if (!decide (w.2.2 =0))=true then some ([],w.2.2) else
   (app? out [cntL (n8 (P.map (clsP V)))]).bind fun o=>(EI w.1).bind fun ps=>Bz k bk (IntKind.i64.wrap (b - (P.length:Int))) w.1.agents o ps:=by
 have hPB:P.length≤Big:=by unfold Big; omega
 intro post
 induction post with
 |nil=>
  intro pre k h
  rw [show ([] :List Pair).length +1+k=k+1 from by simp; omega,CK,CY h,if_neg (by simp)]
  have e:pre=P:=by rw [h,List.append_nil]
  rw [e]
 | cons x post ih=>
  intro pre k h
  obtain⟨a,b',hp,ga,gb,ka,kb⟩:=hw x (by rw [h]; simp)
  have h2:Two a b':=⟨Hp ga,Hp gb,ka,kb⟩
  obtain⟨sw,hcl,-⟩:=PZ (i:=x.a) (j:=x.b) hp.hx hp.hy h2
  have hcl':Dq ⟨V⟩ x=some (kcl a b',sw):=hcl
  have hc:clsP V x=kcl a b':=QA hp.hx hp.hy
  have ih':=ih (pre++[x]) k (Ai h)
  rw [List.map_append,List.map_singleton,hc] at ih'
  have hr:=Tv a b'
  rw [show (x::post).length +1+k=(post.length+1+k)+1 from by simp; omega,CK,CB h,if_pos rfl,BI h,AA,hcl',AA,A8 h hPB]
  by_cases h8:kcl a b'=8
  ·rw [if_neg (by simp [h8])]
   have e:n8 (pre.map (clsP V)++[kcl a b'])=n8 (pre.map (clsP V)):=by unfold n8; rw [List.filter_append]; simp [h8]
   rw [e] at ih'
   exact ih'
  ·rw [if_pos (by simp [h8])]
   have e:n8 (pre.map (clsP V)++[kcl a b'])=n8 (pre.map (clsP V))++[kcl a b'] :=by unfold n8; rw [List.filter_append]; simp [h8]
   rw [e] at ih'
   have hpre:pre.length≤600:=by rw [h] at hP; simp at hP; omega
   obtain⟨v,q1,q2⟩:=Vy (l:=n8 (pre.map (clsP V))) (fun c hc=>by
    obtain⟨m1,m2⟩:=List.mem_filter.1 hc
    obtain⟨p,-,rfl⟩:=List.mem_map.1 m1
    have:=Vv V p
    simp at m2
    omega) (by have:=List.length_filter_le (fun c:Int=> !decide (c=8)) (pre.map (clsP V)); rw [List.length_map] at this; unfold n8; unfold Big; omega) (k:=kcl a b') (by omega)
   simp only
   rw [q1,AA,AA,q2,AA]
   exact ih'
def CL (c:List Int):Prop:=c.length≤600∧∀x ∈ c,1≤x∧x≤7
theorem Vz (bk:List Net) (hbk:∀T ∈ bk,Vn T.agents) (bud:Int) (hb:0≤bud∧bud≤4000):∀ (m k k':Nat) (V B:List Agent) (tr:List Int) (pk:Int) (out:List (List Int)),Vn V→F7 ⟨B⟩=some ⟨V⟩→(tr.length:Int)≤bud→bud - (tr.length:Int)<(m:Int)→700*m≤k→700*m≤k'→out.length≤tr.length→(∀c ∈ out,CL c)→
  (∃e,e≠0∧By k bk 600 bud B tr pk out=some ([],e)∧Bz k' bk (bud - (tr.length:Int)) V (out.map cntL) (prs 1 (V.drop 1))=some ([],e))∨
  (∃L,By k bk 600 bud B tr pk out=some (L,0)∧Bz k' bk (bud - (tr.length:Int)) V (out.map cntL) (prs 1 (V.drop 1))=some (L.map cntL,0)∧(L.length:Int)≤bud∧∀c ∈ L,CL c):=by
 intro m
 induction m with
 |zero=>intro k k' V B tr pk out hV hpk ht hm hk hk' ho hc; omega
 | succ m ih=>
  intro k k' V B tr pk out hV hpk ht hm hk hk' ho hc
  have hVl:=hV.len
  have hpl:=To (V.drop 1) 1
  rw [List.length_drop] at hpl
  have hw:=hV.prW
  have hd:=cp hV
  have hsp:Gp ⟨V⟩=some (prs 1 (V.drop 1)):=Zp ⟨V⟩ hV (by omega)
  have hrd:=Z1 bk hV
  generalize prs 1 (V.drop 1)=P at*
  obtain⟨k2,rfl⟩:∃q,k=(P.length+1+q)+1+1:=⟨k - P.length - 3,by omega⟩
  obtain⟨k2',rfl⟩:∃q,k'=(P.length+1+q)+1:=⟨k' - P.length - 2,by omega⟩
  rw [By,hpk,AA,hsp,AA,Bz]
  by_cases h0:P.length=0
  ·rw [if_pos (by simp [h0]),if_neg (by simp [h0])]
   exact .inr ⟨out,rfl,rfl,by omega,hc⟩
  ·rw [if_neg (by simp; intro e; exact h0 (by rw [e]; rfl)),if_neg (by simp; omega),if_pos (by simp; omega),D8,w64 (by omega) (by omega),w64 (by omega) (by omega)]
   by_cases h1:bud<(tr.length:Int)+(P.length:Int)
   ·rw [if_pos (by simpa using h1),if_pos (by simp; omega)]
    exact .inl ⟨12,by omega,rfl,rfl⟩
   ·rw [if_neg (by simpa using h1),if_neg (by simp; omega)]
    have hS:=ff bk 600 bud tr out P (by unfold Big; omega) P [] V tr pk k2 rfl
    have hI:=fi bk (bud - (tr.length:Int)) (out.map cntL) P (by omega) hw P [] k2' rfl
    simp only [List.length_nil,Int.natCast_zero,List.map_nil] at hS hI
    have hr7:rep? 7 (0:Int)=some (cntL (n8 [])):=rfl
    rw [hS,hr7,AA,hI,hrd]
    rcases run_both bk hbk P [] V V tr pk hV.vst hw hd (by omega) (by unfold Big; omega) with ⟨e,r1,r2,q0,q1,q2⟩|⟨R',A',B',pk',q1,q2,q3,q4,q5,q6⟩
    ·have q1':Rx bk P V [] =some (e,r1):=q1
     rw [q1',q2,AA,AA,if_pos (by simpa using q0),if_pos (by simpa using q0),AA,if_pos (by simpa using q0)]
     exact .inl ⟨e,q0,rfl,rfl⟩
    ·have q1':Rx bk P V [] =some (0,⟨⟨A'⟩,bk,remM R'⟩):=q1
     have hlB:=q3.st.ok.len
     obtain⟨z1,z2⟩:=q3.st.result (by omega) bk
     have hcs:CL (P.map (clsP V)):=⟨by rw [List.length_map]; omega,fun x hx=>by
      obtain⟨p,hp,rfl⟩:=List.mem_map.1 hx
      exact⟨(Vv V p).1,q6 p hp⟩⟩
     have hn8:n8 (P.map (clsP V))=P.map (clsP V):=List.filter_eq_self.2 fun x hx=>by
      have:=(hcs.2 x hx).2
      simp; omega
     have hliv:=q5 (by have:=Ju V; omega)
     have hV':Vn (Cr (posN B') B'):=by
      have h:=q3.pack (N:=B'.length) (Nat.le_refl _)
      exact⟨⟨h.len.1,by rw [NK]; exact hliv⟩,h.ag,h.m⟩
     rw [q1',q2,AA,AA,if_neg (by simp),if_neg (by simp),z1,AA,AA,if_neg (by simp),hn8]
     simp only
     rw [fg,AA,XE _ (by rw [List.length_map]; unfold Big; omega),AA,CO (by simp; unfold Big; omega),AA,CO (by simp; unfold Big; omega),AA,O0 ⟨Cr (posN B') B'⟩ hV' (by omega),AA,w64 (by omega) (by omega)]
     have:=ih k2 k2' (Cr (posN B') B') B' (tr++P.map (clsP V)) pk' (out++[P.map (clsP V)]) hV' z2 (by rw [List.length_append,List.length_map]; omega) (by rw [List.length_append,List.length_map]; omega) (by omega) (by omega) (by rw [List.length_append,List.length_append,List.length_map,List.length_singleton]; omega) (fun c hc'=>by
      rcases List.mem_append.1 hc' with e|e
      ·exact hc c e
      ·rw [List.mem_singleton] at e; rw [e]; exact hcs)
     rw [List.map_append,List.map_singleton,List.length_append,List.length_map,show bud - ((tr.length+P.length:Nat):Int)=bud - (tr.length:Int) - (P.length:Int) from by omega] at this
     exact this
theorem V0 (l:List Net) (n:Net) (b:Int) (hl:szl Net.sz l≤1048576) (hn:n.sz≤1048576):∃rs ri,HK l n 600 b=some rs∧IW l n b=some ri∧((rs.2 ≠0∧rs.1 =[] ∧ri=rs)∨(rs.2 =0∧ri=(rs.1.map cntL,0)∧rs.1.length ≤4000∧∀c ∈ rs.1,CL c)):=by
 have hs:∀T ∈ l,T.Small:=fun T hT=>Net.small_of T (by have:=I9 (s:=Net.sz) hT; unfold Big; omega)
 have hll:l.length≤Big:=by have:=Ho Net.sz l; unfold Big; omega
 have hns:n.Small:=Net.small_of n (by unfold Big; omega)
 obtain⟨c,c1,c2,c3⟩:=cq l n b hll hs hns
 unfold HK IW
 rw [c1,c2,AA,AA]
 by_cases h0:c=0
 ·obtain⟨hT,hv,hb⟩:=c3 h0
  have hbk:=Zs hT
  have hV:=Net.valid_vn hv
  have hVl:=hV.len
  have hpk:F7 ⟨n.agents⟩=some ⟨n.agents⟩:=by
   have:=(hV.stt.result (by omega) l).2
   rwa [hV.packed] at this
  rw [if_neg (by simp [h0]),if_neg (by simp [h0]),O0 n hV (by omega),AA]
  unfold KP
  rw [cg n hns.agents.1 hns.agents.2,AA,AA]
  have:=Vz l hbk b hb 4001 fuel fuel n.agents n.agents [] (n.agents.length:Int) [] hV hpk (by simp; omega) (by simp; omega) (by rw [Af]; omega) (by rw [Af]; omega) (by simp) (by simp)
  simp only [List.length_nil,Int.natCast_zero,Int.sub_zero,List.map_nil] at this
  rcases this with ⟨e,e1,e2,e3⟩|⟨L,e2,e3,e4,e5⟩
  ·exact⟨_,_,e2,e3,.inl ⟨e1,rfl,rfl⟩⟩
  ·exact⟨_,_,e2,e3,.inr ⟨rfl,rfl,by simp only; omega,e5⟩⟩
 ·rw [if_pos (by simpa using h0),if_pos (by simpa using h0)]
  exact⟨_,_,rfl,rfl,.inl ⟨h0,rfl,rfl⟩⟩
theorem Hq (n:Int):D7 n=some (I8 n):=by
 unfold D7 I5
 rw [if_pos rfl]
 rfl
def digs:Nat→Nat→List Int
 |0,_=>[]
 |k+1,u=>if u=0 then [] else (48+((u % 10:Nat):Int))::digs k (u / 10)
theorem Pc:∀k u,(digs k u).length ≤k
 |0,_=>by simp [digs]
 | k+1,u=>by
  unfold digs
  split
  ·simp
  ·have:=Pc k (u / 10)
   simp; omega
theorem Lh:∀k u,0<u→u<10 ^ k→Lib.decDigits u=(digs k u).reverse.map fun z=>UInt8.ofNat z.toNat
 |0,u,h0,h1=>by simp at h1; omega
 | k+1,u,h0,h1=>by
  rw [Nat.pow_succ] at h1
  rw [Lib.decDigits,digs,if_neg (by omega),List.reverse_cons,List.map_append]
  by_cases h:u<10
  ·rw [dif_pos h]
   have e:u / 10=0:=by omega
   have e2:digs k 0=[] :=by cases k with|zero=>rfl|succ k=>simp [digs]
   have e3:u % 10=u:=by omega
   rw [e,e2,e3]
   simp only [List.reverse_nil,List.map_nil,List.nil_append,List.map_cons]
   congr 2
  ·rw [dif_neg h,Lh k (u / 10) (by omega) (by omega)]
   simp only [List.map_cons,List.map_nil]
   congr 3
theorem cr (p:List Int) (hp:p.length≤Big):∀ (n k:Nat) (acc:List Int),k≤p.length→k<n→acc.length+k≤Big→Dt n p acc ((k:Int) - 1)=Sq (acc++(p.take k).reverse):=by
 intro n
 induction n with
 |zero=>intro k acc h1 h2; omega
 | succ n ih=>
  intro k acc h1 h2 h3
  rw [Dt]
  cases k with
  |zero=>
   rw [if_neg (by simp)]
   cases h:Sq (acc++(List.take 0 p).reverse) <;> simp at h <;> simp [h]
  | succ k=>
   have e:(((k+1:Nat):Int) - 1)=(k:Int):=by omega
   unfold Big at hp h3
   rw [e,if_pos (by simp)]
   unfold at?
   rw [if_pos (by omega),Int.toNat_natCast,List.getElem?_eq_getElem (by omega),AA,CO (by simp [Big]; omega),AA,w64 (by omega) (by omega),ih k _ (by omega) (by omega) (by simp [Big]; omega)]
   have e2:acc++[p[k]] ++(p.take k).reverse =acc++(p.take (k+1)).reverse :=by
    rw [List.take_succ_eq_append_getElem (by omega),List.reverse_append]
    simp
   rw [e2]
theorem fj (a:Int):∀ (k n:Nat) (acc:List Int) (m:Int),m.natAbs<10 ^ k→k≤25→2*k+3≤n→acc.length+k≤1000→(-9223372036854775808≤m∧m≤9223372036854775807)→
  C5 n a acc m=if a=0 then Cg a (acc++digs k m.natAbs++[48]) else Cg a (acc++digs k m.natAbs):=by
 intro k
 induction k with
 |zero=>
  intro n acc m h1 hk hn hl hm
  obtain⟨n,rfl⟩:∃q,n=q+1:=⟨n - 1,by omega⟩
  have:m=0:=by simp at h1; omega
  subst this
  rw [C5,if_neg (by simp)]
  simp only [digs,List.append_nil]
  by_cases h:a=0
  ·rw [if_pos (by simpa using h),if_pos h,CO (by simp [Big]; omega),AA]
  ·rw [if_neg (by simpa using h),if_neg h]
 | succ k ih=>
  intro n acc m h1 hk hn hl hm
  obtain⟨n,rfl⟩:∃q,n=q+2:=⟨n - 2,by omega⟩
  rw [C5]
  by_cases h0:m=0
  ·subst h0
   rw [if_neg (by simp)]
   have e:digs (k+1) (Int.natAbs 0)=[] :=by simp [digs]
   rw [e]
   simp only [List.append_nil]
   by_cases h:a=0
   ·rw [if_pos (by simpa using h),if_pos h,CO (by simp [Big]; omega),AA]
   ·rw [if_neg (by simpa using h),if_neg h]
  ·rw [if_pos (by simpa using h0)]
   have hd:(Int.tdiv m 10).natAbs =m.natAbs / 10:=by rw [Int.natAbs_tdiv]; rfl
   have hr:(Int.tmod m 10).natAbs =m.natAbs % 10:=by rw [Int.natAbs_tmod]; rfl
   have hw:IntKind.i64.wrap (Int.tdiv m 10)=Int.tdiv m 10:=w64 (by omega) (by omega)
   have step:∀z:Int,z=((m.natAbs % 10:Nat):Int)→ES (n+1) a acc m z=if a=0 then Cg a (acc++digs (k+1) m.natAbs++[48]) else Cg a (acc++digs (k+1) m.natAbs):=fun z hz=>by
    subst hz
    have hu:IntKind.u8.wrap (IntKind.i64.wrap (48+((m.natAbs % 10:Nat):Int)))=48+((m.natAbs % 10:Nat):Int):=by
     rw [w64 (by omega) (by omega)]
     simp only [IntKind.wrap,IntKind.signed,IntKind.bits]
     simp
     omega
    rw [ES,hu,CO (by simp [Big]; omega),AA,hw,ih n _ _ (by rw [hd]; rw [Nat.pow_succ] at h1; omega) (by omega) (by omega) (by simp; omega) (by omega),hd]
    have e:digs (k+1) m.natAbs=(48+((m.natAbs % 10:Nat):Int))::digs k (m.natAbs / 10):=by rw [digs,if_neg (by omega)]
    rw [e]
    simp only [List.append_assoc,List.cons_append,List.nil_append]
   by_cases hneg:(Int.tmod m 10)<0
   ·rw [if_pos (by simpa using hneg)]
    exact step _ (by rw [w64 (by omega) (by omega)]; omega)
   ·rw [if_neg (by simpa using hneg)]
    exact step _ (by omega)
theorem gO (a:Int) (l:List Int) (hl:l.length≤1000):Cg a l=some (strOfNums (if a<0 then 45::l.reverse else l.reverse)):=by
 have tail:∀q:List Int,q.length≤1001→Er q=some (strOfNums q.reverse):=fun q hq=>by
  unfold Er
  rw [w64 (by omega) (by omega),cr q (by unfold Big; omega) fuel q.length [] (Nat.le_refl _) (Nat.lt_of_lt_of_le (by omega) (YC (n:=2000) (by omega))) (by simp [Big]; omega)]
  unfold Sq
  rw [if_pos (by simp; omega),List.take_length,List.nil_append]
 unfold Cg
 by_cases h:a<0
 ·rw [if_pos (by simpa using h),CO (by simp [Big]; omega),AA,tail _ (by simp; omega),if_pos h]
  simp
 ·rw [if_neg (by simpa using h),tail _ (by omega),if_neg h]
theorem Hr (n:Int) (h:(Lit.int IntKind.i64 n).wf =true):F8 n=some (I8 n):=by
 have hr: -9223372036854775808≤n∧n≤9223372036854775807:=by simpa [Lit.wf,IntKind.min,IntKind.max,IntKind.signed,IntKind.bits] using h
 unfold F8
 rw [fj n 20 fuel [] n (by omega) (by omega) (YC (by omega)) (by simp) hr,List.nil_append]
 have hlen:=Pc 20 n.natAbs
 unfold I8 Lib.itoa
 by_cases h0:n=0
 ·subst h0
  rw [if_pos rfl,gO _ _ (by simp [digs]),if_neg (by omega),if_neg (by omega),show Int.toNat 0=0 from rfl,Lib.decDigits,dif_pos (by omega)]
  rfl
 ·rw [if_neg h0,gO _ _ (by omega)]
  have hd:=Lh 20 n.natAbs (by omega) (by omega)
  by_cases hneg:n<0
  ·rw [if_pos hneg,if_pos hneg,hd]
   unfold strOfNums
   rfl
  ·rw [if_neg hneg,if_neg hneg,show n.toNat=n.natAbs by omega,hd]
   unfold strOfNums
   rfl
theorem Ii (n:Int) (h:(Lit.int IntKind.i64 n).wf =true):(I8 n).size ≤21:=by
 have hr: -9223372036854775808≤n∧n≤9223372036854775807:=by simpa [Lit.wf,IntKind.min,IntKind.max,IntKind.signed,IntKind.bits] using h
 have:=Lib.itoa_length_le n hr.1 hr.2
 show (Lib.itoa n).toArray.size ≤21
 rw [List.size_toArray]
 omega
theorem YT {α:Type} (L:Nat→List α→Int→Int→Option Int) (f:α→Int) (hL:∀n l a i,L (n+1) l a i=(if (decide (i<(l.length:Int)))=true then ((at? l i).bind fun v=>L n l (IntKind.i64.wrap (a+f v)) (IntKind.i64.wrap (i+1))) else some a)) (l:List α) (h0:∀x ∈ l,0≤f x) (hs:(l.map f).sum ≤4294967296) (hl:l.length≤Big):L fuel l 0 0=some (l.map f).sum :=by
 have nn:∀m:List α,(∀x ∈ m,0≤f x)→0≤(m.map f).sum :=fun m hm=>(XW _ fun y hy=>by
  obtain⟨x,hx,rfl⟩:=List.mem_map.1 hy
  exact hm x hx).1
 have loop:∀ (post pre:List α) (n:Nat),l=pre++post→post.length<n→L n l (pre.map f).sum (pre.length:Int)=some (l.map f).sum :=by
  intro post
  induction post with
  |nil=>
   intro pre n h hn
   obtain⟨n,rfl⟩:∃q,n=q+1:=⟨n - 1,by omega⟩
   rw [hL,CY h,if_neg (by simp),h,List.append_nil]
  |cons x post ih=>
   intro pre n h hn
   rw [List.length_cons] at hn
   obtain⟨n,rfl⟩:∃q,n=q+1:=⟨n - 1,by omega⟩
   have e:(l.map f).sum =(pre.map f).sum +(f x+(post.map f).sum):=by rw [h]; simp
   have p1:=nn pre fun y hy=>h0 y (by rw [h]; simp [hy])
   have p2:=nn post fun y hy=>h0 y (by rw [h]; simp [hy])
   have p3:=h0 x (by rw [h]; simp)
   have ih':=ih (pre++[x]) n (Ai h) (by omega)
   rw [List.map_append,List.map_singleton,List.sum_append,List.sum_singleton] at ih'
   rw [hL,CB h,if_pos rfl,BI h,AA,A8 h hl,w64 (by omega) (by omega)]
   exact ih'
 exact loop l [] fuel rfl (by rw [Af]; unfold Big at hl; omega)
def lenI (c:List Int):Int:=(c.length:Int)
theorem V1 (l:List Int) (h0:∀x ∈ l,0≤x) (hs:l.sum≤4294967296) (hl:l.length≤Big):LR l=some l.sum:=by
 have hm:l.map (fun x=>x)=l:=List.map_id' _
 have:=YT IX (fun x=>x) (fun n l a i=>by rw [IX]) l h0 (by rw [hm]; exact hs) hl
 rw [hm] at this
 exact this
def Cls (c:List Int):Prop:=∀x ∈ c,1≤x∧x≤7
theorem XX {c:List Int} (h:Cls c) (hc:c.length≤2400000):Hl c=some (cntL c):=by
 have loop:∀ (post pre:List Int) (n:Nat),c=pre++post→post.length<n→CU n c (cntL pre) (pre.length:Int)=some (cntL c):=by
  intro post
  induction post with
  |nil=>
   intro pre n hh hn
   obtain⟨n,rfl⟩:∃q,n=q+1:=⟨n - 1,by omega⟩
   rw [CU,CY hh,if_neg (by simp),hh,List.append_nil]
  |cons x post ih=>
   intro pre n hh hn
   rw [List.length_cons] at hn
   obtain⟨n,rfl⟩:∃q,n=q+1:=⟨n - 1,by omega⟩
   have hp:pre.length<c.length:=by rw [hh]; simp
   obtain⟨v,q1,q2⟩:=Vy (l:=pre) (fun k hk=>h k (by rw [hh]; simp [hk])) (by unfold Big; omega) (h x (by rw [hh]; simp))
   rw [CU,CB hh,if_pos rfl,BI hh,AA,q1,AA,AA,q2,AA,A8 hh (by unfold Big; omega)]
   exact ih (pre++[x]) n (Ai hh) (by omega)
 exact loop c [] fuel rfl (by rw [Af]; omega)
theorem ct {x y:List Int} (h:x.length=y.length) {k:Int} (hk:(k - 1).toNat <y.length):bump (List.zipWith (· + ·) x y) k=List.zipWith (· + ·) x (bump y k):=by
 unfold bump
 apply List.ext_getElem?
 intro j
 have h1:(k - 1).toNat <x.length:=by omega
 simp only [List.getElem?_set,List.getElem?_zipWith,List.getElem?_eq_getElem h1,List.getElem?_eq_getElem hk,List.length_zipWith,Option.getD_some]
 by_cases hj:(k - 1).toNat =j
 ·subst hj
  rw [if_pos rfl,if_pos (by omega),if_pos rfl,if_pos hk,List.getElem?_eq_getElem h1]
  simp; omega
 ·rw [if_neg hj,if_neg hj]
theorem V2:∀ (b x y:List Int),x.length=7→y.length=7→Cls b→b.foldl bump (List.zipWith (· + ·) x y)=List.zipWith (· + ·) x (b.foldl bump y)
 | [],x,y,_,_,_=>rfl
 |k::b,x,y,hx,hy,h=>by
  have hk:=h k List.mem_cons_self
  rw [List.foldl_cons,List.foldl_cons,ct (by omega) (by omega)]
  exact V2 b x (bump y k) hx (by unfold bump; rw [List.length_set]; exact hy) fun z hz=>h z (List.mem_cons_of_mem _ hz)
theorem fk {a b:List Int} (ha:Cls a) (hb:Cls b):cntL (a++b)=List.zipWith (· + ·) (cntL a) (cntL b):=by
 have h1:=(N7 ha).1
 have e:cntL a=List.zipWith (· + ·) (cntL a) (List.replicate 7 0):=by
  generalize cntL a=x at*
  match x,h1 with
  | [a,b,c,d,e,f,g],_=>simp
 have:cntL (a++b)=b.foldl bump (cntL a):=by unfold cntL; rw [List.foldl_append]
 rw [this]
 conv=>lhs; rw [e]
 exact V2 b _ _ h1 (by simp) hb
def wid:Int→List (List Int)→Int
 |w,[] =>w
 |w,c::L=>wid (if w<lenI c then lenI c else w) L
theorem jE (a b:Int):Eh a b=some (if a<b then b else a):=by
 unfold Eh
 grind
theorem N8:∀L:List (List Int),(∀c ∈ L,c.length≤600)→L.flatten.length≤600*L.length
 | [],_=>by simp
 |c::L,h=>by
  have h1:=N8 L fun x hx=>h x (List.mem_cons_of_mem _ hx)
  have h2:=h c List.mem_cons_self
  rw [List.flatten_cons,List.length_append,List.length_cons]
  omega
theorem m9 (L:List (List Int)) (e:Int) (hL:L.length≤4000) (hc:∀c ∈ L,CL c):∀ (post pre:List (List Int)) (w:Int) (n:Nat),L=pre++post→post.length<n→BA n (L,e) w pre.flatten (pre.length:Int)=BA 1 (L,e) (wid w post) L.flatten (L.length:Int):=by
 intro post
 induction post with
 |nil=>
  intro pre w n h hn
  obtain⟨n,rfl⟩:∃q,n=q+1:=⟨n - 1,by omega⟩
  rw [List.append_nil] at h
  subst h
  rw [BA,BA,if_neg (by simp),if_neg (by simp),wid]
 |cons c post ih=>
  intro pre w n h hn
  rw [List.length_cons] at hn
  obtain⟨n,rfl⟩:∃q,n=q+1:=⟨n - 1,by omega⟩
  have hpl:pre.flatten.length≤600*pre.length:=N8 pre fun x hx=>(hc x (by rw [h]; simp [hx])).1
  have hcl:=(hc c (by rw [h]; simp)).1
  have hp:pre.length<L.length:=by rw [h]; simp
  have ih':=ih (pre++[c]) (if w<lenI c then lenI c else w) n (Ai h) (by omega)
  rw [List.flatten_append,List.flatten_singleton] at ih'
  rw [BA]
  simp only
  rw [CB h,if_pos rfl,BI h,AA,jE,AA,AA,CO (by unfold Big; omega),AA,A8 h (by unfold Big; omega)]
  exact ih'
theorem fl (a:List Int) (x y:Int) (b:List Int):C0 (a++x::b) (a.length:Int) y=some (a++y::b):=by
 unfold C0 VK
 simp
theorem nA (m:Nat) (w i s:Int) (v:List (List Int) × Int) (cs:List Int) (hcs:cs.length≤7) (hb:∀x ∈ cs,0≤x∧x≤4294967296):∀ (cs2 cs1 dn rest:List Int),cs=cs1++cs2→dn.length=cs1.length→rest.length=cs2.length→(∀x ∈ rest,0≤x∧x≤4294967296)→
  Bt (cs2.length+1+m) w i v cs s (dn++rest) (cs1.length:Int)=Ah (cs2.length+1+m - (cs2.length+1)) v (if w<s then s else w) (dn++List.zipWith (· + ·) rest cs2) (IntKind.i64.wrap (i+1)):=by
 intro cs2
 induction cs2 with
 |nil=>
  intro cs1 dn rest h hd hr hbr
  rw [List.length_nil] at hr
  rw [List.length_eq_zero_iff] at hr
  subst hr
  rw [List.append_nil] at h
  subst h
  rw [List.length_nil,show 0+1+m=m+1 by omega,Bt,if_neg (by simp)]
  simp
 | cons c cs2 ih=>
  intro cs1 dn rest h hd hr hbr
  cases rest with
  |nil=>cases hr
  |cons x rest=>
   have hr':rest.length=cs2.length:=by simpa using hr
   have b1:=hb c (by rw [h]; simp)
   have b2:=hbr x List.mem_cons_self
   have ih':=ih (cs1++[c]) (dn++[x+c]) rest (Ai h) (by simp [hd]) hr' fun z hz=>hbr z (List.mem_cons_of_mem _ hz)
   have e0:(cs1.length:Int)=(dn.length:Int):=by rw [hd]
   rw [List.length_cons,show cs2.length+1+1+m=(cs2.length+1+m)+1 by omega,Bt,CB h,if_pos rfl,BI h,AA,e0,BI (l:=dn++x::rest) rfl,AA,AA,w64 (by omega) (by omega),fl,AA,← e0,A8 h (by unfold Big; omega)]
   rw [List.append_assoc] at ih'
   rw [show cs2.length+1+m+1 - (cs2.length+1+1)=cs2.length+1+m - (cs2.length+1) by omega]
   simpa using ih'
theorem nC (L:List (List Int)) (e:Int) (hL:L.length≤4000) (hc:∀c ∈ L,CL c):∀ (post pre:List (List Int)) (w:Int) (n:Nat),L=pre++post→post.length*9<n→Ah n (L.map cntL,e) w (cntL pre.flatten) (pre.length:Int)=Ah 1 (L.map cntL,e) (wid w post) (cntL L.flatten) (L.length:Int):=by
 intro post
 induction post with
 |nil=>
  intro pre w n h hn
  obtain⟨n,rfl⟩:∃q,n=q+1:=⟨n - 1,by omega⟩
  rw [List.append_nil] at h
  subst h
  rw [Ah,Ah,if_neg (by simp),if_neg (by simp),wid]
 | cons c post ih=>
  intro pre w n h hn
  rw [List.length_cons] at hn
  obtain⟨m,rfl⟩:∃q,n=(7+1+q)+1:=⟨n - 9,by omega⟩
  have h':L.map cntL=pre.map cntL++cntL c::post.map cntL:=by rw [h]; simp
  have hpc:∀x ∈ pre,CL x:=fun x hx=>hc x (by rw [h]; simp [hx])
  have hpl:pre.flatten.length≤600*pre.length:=N8 pre fun x hx=>(hpc x hx).1
  have hpf:Cls pre.flatten:=fun x hx=>by
   obtain⟨l,hl,hx⟩:=List.mem_flatten.1 hx
   exact(hpc l hl).2 x hx
  obtain⟨hcl,hcc⟩:=hc c (by rw [h]; simp)
  have hp:pre.length<L.length:=by rw [h]; simp
  obtain⟨k1,k2,k3⟩:=N7 hcc
  obtain⟨p1,p2,p3⟩:=N7 hpf
  have e1:(pre.length:Int)=((List.length (pre.map cntL):Nat):Int):=by rw [List.length_map]
  have hs:LR (cntL c)=some (lenI c):=by
   rw [V1 _ (fun x hx=>(k2 x hx).1) (by rw [k3]; omega) (by rw [k1]; unfold Big; omega),k3]; rfl
  have hin:=nA m w (pre.length:Int) (lenI c) (L.map cntL,e) (cntL c) (by omega) (fun x hx=>by have:=k2 x hx; omega) (cntL c) [] [] (cntL pre.flatten) rfl rfl (by omega) fun x hx=>by have:=p2 x hx; omega
  rw [k1,List.nil_append,List.nil_append,List.length_nil,← fk hpf hcc,A8 h (by unfold Big; omega)] at hin
  have ih':=ih (pre++[c]) (if w<lenI c then lenI c else w) m (Ai h) (by omega)
  rw [List.flatten_append,List.flatten_singleton] at ih'
  rw [Ah]
  simp only
  rw [show at? (L.map cntL) (pre.length:Int)=some (cntL c) by rw [e1]; exact BI h',if_pos (by simp; omega),AA,hs,AA]
  rw [show 7+1+m - (7+1)=m by omega] at hin
  exact hin.trans ih'
def Z2 (k:Int):ByteArray:=((Hm.getD [])[(k - 1).toNat]?).getD ByteArray.empty
theorem cu {k:Int} (h1:1≤k) (h2:k≤8):I6 k=some (Z2 k)∧DD k=some (Z2 k)∧(Z2 k).size ≤10:=by
 have:k=1∨k=2∨k=3∨k=4∨k=5∨k=6∨k=7∨k=8:=by omega
 rcases this with rfl|rfl|rfl|rfl|rfl|rfl|rfl|rfl <;> exact⟨rfl,rfl,by decide⟩
theorem GY {a b:ByteArray} (h:a.size+b.size≤9223372036854775807):Je a b=some (a++b):=by
 unfold Je; rw [if_pos h]
def N9:Nat→List Int→ByteArray→ByteArray
 |_,[],b=>b
 |i,c::cs,b=>if 0<c then N9 (i+1) cs (b++HU (Z2 ((i:Int)+1)) (I8 c)) else N9 (i+1) cs b
theorem OA {x:Int} (h:0≤x) (h':x≤4294967296):(Lit.int IntKind.i64 x).wf =true:=by
 simp [Lit.wf,IntKind.min,IntKind.max,IntKind.signed,IntKind.bits]; omega
theorem V3 (a b:ByteArray):(HU a b).size =2+a.size+b.size:=by
 simp only [HU,ByteArray.size_append]
 have a:(⟨#[32]⟩:ByteArray).size =1:=rfl
 omega
theorem jF (cs:List Int) (hcs:cs.length≤7) (hb:∀x ∈ cs,0≤x∧x≤4294967296):∀ (post pre:List Int) (b:ByteArray) (n:Nat),cs=pre++post→post.length<n→b.size≤1000+40*pre.length→Bk n cs b (pre.length:Int)=some (N9 pre.length post b,0):=by
 intro post
 induction post with
 |nil=>
  intro pre b n h hn hs
  obtain⟨n,rfl⟩:∃q,n=q+1:=⟨n - 1,by omega⟩
  rw [Bk,CY h,if_neg (by simp),N9]
 | cons c post ih=>
  intro pre b n h hn hs
  rw [List.length_cons] at hn
  obtain⟨n,rfl⟩:∃q,n=q+1:=⟨n - 1,by omega⟩
  have hp:pre.length<cs.length:=by rw [h]; simp
  have hc:=hb c (by rw [h]; simp)
  have ih1:=fun b=>ih (pre++[c]) b n (Ai h) (by omega)
  simp only [List.length_append,List.length_singleton] at ih1
  rw [Bk,CB h,if_pos rfl,BI h,AA,N9,A8 h (by unfold Big; omega)]
  by_cases h0:0<c
  ·obtain⟨q1,-,q2⟩:=cu (k:=(pre.length:Int)+1) (by omega) (by omega)
   have q3:=Ii c (OA hc.1 hc.2)
   have s1:(ByteArray.mk #[32]).size =1:=rfl
   have hl:=V3 (Z2 ((pre.length:Int)+1)) (I8 c)
   rw [if_pos (by simpa using h0),if_pos h0]
   simp only [List.length_append,List.length_singleton,Int.natCast_add,Int.natCast_one] at*
   rw [q1,AA,GY (by omega),AA,GY (by rw [ByteArray.size_append]; omega),AA,AA,Hr c (OA hc.1 hc.2),AA,GY (by rw [ByteArray.size_append,ByteArray.size_append]; omega),AA,GY (by rw [ByteArray.size_append,ByteArray.size_append,ByteArray.size_append]; omega),AA]
   exact ih1 _ (by rw [ByteArray.size_append]; show b.size+(HU _ _).size ≤_; omega)
  ·rw [if_neg (by simpa using h0),if_neg h0]
   simp only [List.length_append,List.length_singleton,Int.natCast_add,Int.natCast_one] at*
   exact ih1 _ (by omega)
theorem XY:∀ (cs:List Int) (i:Nat) (b:ByteArray),i+cs.length≤7→(∀x ∈ cs,0≤x∧x≤4294967296)→b.size≤1000+40*i→G1 D7 DD i cs b=some (N9 i cs b)
 | [],i,b,_,_,_=>by rw [G1,N9]
 | c::cs,i,b,hi,hb,hs=>by
  rw [List.length_cons] at hi
  have hc:=hb c List.mem_cons_self
  have hb':=fun x hx=>hb x (List.mem_cons_of_mem c hx)
  rw [G1,N9]
  by_cases h0:0<c
  ·obtain⟨-,q1,q2⟩:=cu (k:=(i:Int)+1) (by omega) (by omega)
   have q3:=Ii c (OA hc.1 hc.2)
   have hl:=V3 (Z2 ((i:Int)+1)) (I8 c)
   rw [if_pos h0,if_pos h0,q1,AA,Hq,AA,if_pos (by omega)]
   exact XY cs (i+1) _ (by omega) hb' (by rw [ByteArray.size_append]; omega)
  ·rw [if_neg h0,if_neg h0]
   exact XY cs (i+1) _ (by omega) hb' (by omega)
theorem cw (d1 d2 d3:ByteArray):(JM d1 d2 d3).size =18+d1.size+d2.size+d3.size:=by
 simp only [JM,ByteArray.size_append]
 have a:(⟨#[119,111,114,107,32]⟩:ByteArray).size =5:=rfl
 have b:(⟨#[32,115,112,97,110,32]⟩:ByteArray).size =6:=rfl
 have c:(⟨#[32,119,105,100,116,104,32]⟩:ByteArray).size =7:=rfl
 omega
theorem cy:∀ (L:List (List Int)) (w:Int),(∀c ∈ L,CL c)→0≤w→w≤600→0≤wid w L∧wid w L≤600
 | [],w,_,h0,h1=>⟨h0,h1⟩
 |c::L,w,h,h0,h1=>by
  have hc:=(h c List.mem_cons_self).1
  refine cy L _ (fun x hx=>h x (List.mem_cons_of_mem _ hx)) ?_ ?_ <;> unfold lenI <;> split <;> omega
theorem RK:∀L:List (List Int),(L.map lenI).sum =(L.flatten.length:Int)
 | [] =>rfl
 |c::L=>by
  rw [List.map_cons,List.sum_cons,RK L,List.flatten_cons,List.length_append]
  unfold lenI; omega
theorem O1 (l:List Net) (n:Net) (b:Int) (hl:szl Net.sz l≤1048576) (hn:n.sz≤1048576):∃r,Ff l n b=some r∧Fg l n b=some r∧True:=by
 obtain⟨rs,ri,e1,e2,h⟩:=V0 l n b hl hn
 unfold Ff Fg
 rw [e1,e2,AA,AA]
 rcases h with ⟨h0,h1,rfl⟩|⟨h0,rfl,h2,h3⟩
 ·rw [if_pos (by simpa using h0),if_pos (by simpa using h0)]
  exact⟨_,rfl,rfl,trivial⟩
 ·obtain⟨L,e⟩:=rs
  simp only at h0 h2 h3
  subst h0
  have hfl:=N8 L fun x hx=>(h3 x hx).1
  have hff:Cls L.flatten:=fun x hx=>by
   obtain⟨c,hc,hx⟩:=List.mem_flatten.1 hx
   exact(h3 c hc).2 x hx
  obtain⟨k1,k2,k3⟩:=N7 hff
  obtain⟨w1,w2⟩:=cy L 0 h3 (by omega) (by omega)
  have hk:∀x ∈ cntL L.flatten,0≤x∧x≤4294967296:=fun x hx=>by have:=k2 x hx; omega
  have hS:=m9 L 0 h2 h3 L [] 0 fuel rfl (by rw [Af]; omega)
  have hI:=nC L 0 h2 h3 L [] 0 fuel rfl (by rw [Af]; omega)
  have hw:ME L=some (L.flatten.length:Int):=by
   rw [← RK]
   exact YT ER lenI (fun n l a i=>by rw [ER]; rfl) L (fun x hx=>by unfold lenI; omega) (by rw [RK]; omega) (by unfold Big; omega)
  have hi:LR (cntL L.flatten)=some (L.flatten.length:Int):=by
   rw [V1 _ (fun x hx=>(k2 x hx).1) (by rw [k3]; omega) (by rw [k1]; unfold Big; omega),k3]
  have d1:=Ii (L.flatten.length:Int) (OA (by omega) (by omega))
  have d2:=Ii (L.length:Int) (OA (by omega) (by omega))
  have d3:=Ii (wid 0 L) (OA w1 (by omega))
  have a1:(⟨#[119,111,114,107,32]⟩:ByteArray).size =5:=rfl
  have a2:(⟨#[32,115,112,97,110,32]⟩:ByteArray).size =6:=rfl
  have a3:(⟨#[32,119,105,100,116,104,32]⟩:ByteArray).size =7:=rfl
  have hz:=cw (I8 (L.flatten.length:Int)) (I8 (L.length:Int)) (I8 (wid 0 L))
  rw [if_neg (by simp),if_neg (by simp),show rep? 7 (0:Int)=some (cntL []) from rfl,AA]
  have hI':Ah fuel (L.map cntL,0) 0 (cntL []) 0=_:=hI
  have hS':BA fuel (L,0) 0 [] 0=_:=hS
  rw [hI',hS',BA,Ah,if_neg (by simp),if_neg (by simp)]
  simp only
  rw [hw,AA,Hr _ (OA (by omega) (by omega)),AA,GY (by omega),AA,GY (by rw [ByteArray.size_append]; omega),AA,Hr _ (OA (by omega) (by omega)),AA,GY (by simp only [ByteArray.size_append]; omega),AA,GY (by simp only [ByteArray.size_append]; omega),AA,Hr _ (OA w1 (by omega)),AA,GY (by simp only [ByteArray.size_append]; omega),AA,XX hff (by omega),AA]
  refine⟨(N9 0 (cntL L.flatten) (JM (I8 (L.flatten.length:Int)) (I8 (L.length:Int)) (I8 (wid 0 L))),0),jF _ (by omega) hk _ [] _ fuel rfl (by rw [Af]; omega) (by show (JM _ _ _).size ≤_; omega),?_,trivial⟩
  unfold Ou
  rw [hi,AA,Hq,AA,List.length_map,Hq,AA,Hq,AA,if_pos ⟨by omega,by omega⟩,XY _ 0 _ (by omega) hk (by omega)]
  rfl
theorem YU {α:Type} {f:α→List D} {l:List α} (h:Iv (slD f l)):l.length≤9223372036854775807∧∀e ∈ l,Iv (f e):=by
 simp only [slD,Iv,D.ok,List.length_map,and_true] at h
 exact⟨h.1,fun e he=>LM h.2 he⟩
theorem Nz (a0:List Net) (h0:Iv ((slD Net.ds a0))) (a1:Net) (h1:Iv (Net.ds a1)) (a2:Int) (w2:(Lit.int IntKind.i64 a2).wf =true):Dl a0 a1 a2=some true:=by
 unfold Dl
 refine cK (Zx a0 (YU h0).1 (fun e he=>Net.ok_of e ((YU h0).2 e he)) (1048576) (by omega)) fun z0=>?_
 refine cK (Vs a1 (Net.ok_of a1 h1) (1048576 - szl Net.sz a0) (by omega)) fun z1=>?_
 have b0:szl Net.sz a0≤Big:=by unfold Big; omega
 have b1:a1.sz≤Big:=by unfold Big; omega
 obtain⟨r,hs,hi,hr⟩:=O1 a0 a1 a2 (by omega) (by omega)
 have ft0:HL a0=some a0:=Zy a0 b0
 have fe0:Jj a0 a0=some true:=(Tt a0 a0 b0).true rfl
 have ft1:G2 a1=some a1:=Vt a1 b1
 have fe1:I7 a1 a1=some true:=(Pb a1 a1 b1).true rfl
 simp only [AA,hs,hi,ft0,fe0,ft1,fe1,CD,TZ,beq_self_eq_true,qV,eq_self,decide_true,decide_false,Bool.not_true,Bool.not_false,Bool.false_eq_true,reduceIte]
end Go.Proofs.YteckcjgpnegkjaaGreatDoor.Ab
