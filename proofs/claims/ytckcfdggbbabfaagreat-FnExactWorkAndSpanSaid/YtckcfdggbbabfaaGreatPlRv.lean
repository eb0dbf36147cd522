/-
  Rounds: what a state between two interactions is, what is left of it at the end of a round. No program is in sight.
-/
import Derived.Test.YtckcfdggbbabfaaGreatPlRs
import Derived.Test.YtckcfdggbbabfaaGreatPlTU
import Derived.Test.YtckcfdggbbabfaaGreatModR
import Derived.Test.YtckcfdggbbabfaaGreatModS
namespace Go.Proofs.YtckcfdggbbabfaaGreat.Ab
set_option linter.unusedVariables false
set_option linter.unusedSimpArgs false
open Go.RowKit
theorem VnN.stt {N} {l} (h:VnN N l):Stt [] l l:=by
 have hk:∀a ∈ l,a.kind≠0:=fun a ha=>by have:=Ka (h.mem ha); omega
 refine⟨⟨rfl,fun _ _=>rfl,fun k hk=>by simp at hk,h.m.mono fun p=>by simp,fun p hp=>hp⟩,by rw [Mz hk]; rfl,fun a ha=>?_⟩
 have g:=h.mem ha
 exact⟨MI g,(CW g).2,hk a ha⟩
theorem R3:∀ (l:List Agent) (i:Nat),(prs i l).Pairwise (fun p q=>p.a<q.a)∧∀p ∈ prs i l,(i:Int)≤p.a
 | [],i=>by simp [prs]
 | a::l,i=>by
  obtain⟨h1,h2⟩:=R3 l (i+1)
  have h3:∀p ∈ pr1 i a,p.a=(i:Int):=fun p hp=>by
   unfold pr1 at hp
   split at hp
   ·split at hp
    ·rw [List.mem_singleton] at hp; subst hp; rfl
    ·cases hp
   ·cases hp
  have h4:(pr1 i a).Pairwise (fun p q=>p.a<q.a):=by
   unfold pr1
   split
   ·split
    ·exact List.pairwise_singleton _ _
    ·exact List.Pairwise.nil
   ·exact List.Pairwise.nil
  rw [prs]
  refine⟨List.pairwise_append.2 ⟨h4,h1,fun p hp q hq=>?_⟩,fun p hp=>?_⟩
  ·have:=h3 p hp
   have:=h2 q hq; omega
  ·rcases List.mem_append.1 hp with e|e
   ·have:=h3 p e; omega
   ·have:=h2 p e; omega
def Dj (p q:Pair):Prop:=p.a≠q.a∧p.a≠q.b∧p.b≠q.a∧p.b≠q.b
theorem cC {N} {l} (h:VnN N l):(prs 1 (l.drop 1)).Pairwise Dj:=by
 refine List.Pairwise.imp_of_mem (fun {p q} hp hq hlt=>?_) (R3 (l.drop 1) 1).1
 have hab:∀p ∈ prs 1 (l.drop 1),p.a<p.b:=fun p hp=>by
  obtain⟨j,a,v,h1,h2,h3,h4,h5⟩:=UM _ _ _ hp
  rw [h4] at h5 ⊢; exact h5
 obtain⟨a,b,P1,-⟩:=XO h hp
 obtain⟨c,d,P2,-⟩:=XO h hq
 have w1:=(h.m _ _ P1.w not_false).2.2
 have w2:=(h.m _ _ P2.w not_false).2.2
 have p1:=P1.w
 have p2:=P2.w
 have l1:=hab p hp
 have l2:=hab q hq
 have inj:∀ {u v:Int} {s:Port},Ab.get l s=some ⟨u,0⟩→Ab.get l s=some ⟨v,0⟩→u=v:=fun h1 h2=>by
  rw [h1] at h2
  exact congrArg Port.agent (Option.some.inj h2)
 refine⟨by omega,fun e=>?_,fun e=>?_,fun e=>?_⟩
 ·rw [← e] at w2
  have:=inj p1 w2; omega
 ·rw [e] at w1
  have:=inj w1 p2; omega
 ·rw [e] at w1
  have:=inj w1 w2; omega
def PrW (R:List Int) (A:List Agent) (p:Pair):Prop:=∃a b,Pr (fun k=>k ∈ R) A p.a p.b a b∧agB a=true∧agB b=true∧a.kind≠1∧b.kind≠1
theorem PrW.keep {R} {A B} (hst:Stt R A B) {x y} {R'} {A' B'} {new} (ho:Outc R A x y R' A' B' new) {p} (h:PrW R A p) (n1:p.a≠x) (n2:p.a≠y) (n3:p.b≠x) (n4:p.b≠y):PrW R' A' p:=by
 obtain⟨a,b,hp,ga,gb,ka,kb⟩:=h
 have e1:=B8 (m:=new) (Dv hp.hx)
 have e2:=B8 (m:=new) (Dv hp.hy)
 rw [← ho.shp] at e1 e2
 obtain⟨a',ha',sa⟩:=MF e1
 obtain⟨b',hb',sb⟩:=MF e2
 obtain⟨q1,q2⟩:=Rv sa
 obtain⟨q3,q4⟩:=Rv sb
 have r1:p.a ∉ R':=fun e=>by
  rcases (ho.mem _).1 e with e|e|e
  ·exact hp.sx e
  ·exact n1 e
  ·exact n2 e.1
 have r2:p.b ∉ R':=fun e=>by
  rcases (ho.mem _).1 e with e|e|e
  ·exact hp.sy e
  ·exact n3 e
  ·exact n4 e.1
 exact⟨a',b',⟨ha',hb',ho.fr _ _ hp.w (hst.ok.m _ _ hp.w hp.sx).2.2 r1 r2,r1,r2⟩,by rw [q1]; exact ga,by rw [q3]; exact gb,by rw [q2]; exact ka,by rw [q4]; exact kb⟩
theorem R4 (f:Int→Int):∀ (l:List Agent) (t:Nat) (a:Agent),l[t]? =some a→a.kind≠0→(C7 f l)[AT (l.take t)]? =some (rnA f a)
 | [],t,a,h,_=>by simp at h
 |b::l,0,a,h,hk=>by
  simp only [List.getElem?_cons_zero,Option.some.injEq] at h
  subst h
  rw [C7,if_neg hk]; rfl
 |b::l,t+1,a,h,hk=>by
  rw [List.getElem?_cons_succ] at h
  have ih:=R4 f l t a h hk
  rw [List.take_succ_cons,AT,C7]
  by_cases e:b.kind=0
  ·rw [if_pos e,if_pos e,Nat.zero_add]; exact ih
  ·rw [if_neg e,if_neg e,Nat.add_comm,List.getElem?_cons_succ]; exact ih
theorem M0 (f:Int→Int):∀ (l:List Agent) (j:Nat) (v:Agent),(C7 f l)[j]? =some v→∃t a,l[t]? =some a∧a.kind≠0∧v=rnA f a∧j=AT (l.take t)
 | [],j,v,h=>by simp [C7] at h
 | b::l,j,v,h=>by
  rw [C7] at h
  by_cases e:b.kind=0
  ·rw [if_pos e] at h
   obtain⟨t,a,h1,h2,h3,h4⟩:=M0 f l j v h
   exact⟨t+1,a,by simpa using h1,h2,h3,by rw [List.take_succ_cons,AT,if_pos e]; omega⟩
  ·rw [if_neg e] at h
   cases j with
   |zero=>
    simp only [List.getElem?_cons_zero,Option.some.injEq] at h
    exact⟨0,b,rfl,e,h.symm,rfl⟩
   |succ j=>
    rw [List.getElem?_cons_succ] at h
    obtain⟨t,a,h1,h2,h3,h4⟩:=M0 f l j v h
    exact⟨t+1,a,by simpa using h1,h2,h3,by rw [List.take_succ_cons,AT,if_neg e]; omega⟩
theorem UO:∀ (l:List Agent) (t u:Nat) (a:Agent),l[t]? =some a→a.kind≠0→t<u→AT (l.take t)<AT (l.take u)
 | [],t,u,a,h,_,_=>by simp at h
 |b::l,0,u+1,a,h,hk,_=>by
  simp only [List.getElem?_cons_zero,Option.some.injEq] at h
  subst h
  rw [List.take_succ_cons,AT,if_neg hk,List.take_zero,AT]; omega
 |b::l,t+1,u+1,a,h,hk,hlt=>by
  rw [List.getElem?_cons_succ] at h
  have:=UO l t u a h hk (by omega)
  rw [List.take_succ_cons,List.take_succ_cons,AT,AT]; omega
theorem V8 {l:List Agent} {t u:Nat} {a b:Agent} (ha:l[t]? =some a) (hb:l[u]? =some b) (ka:a.kind≠0) (kb:b.kind≠0) (h:AT (l.take t)=AT (l.take u)):t=u:=by
 rcases Nat.lt_trichotomy t u with e|e|e
 ·have:=UO l t u a ha ka e; omega
 ·exact e
 ·have:=UO l u t b hb kb e; omega
theorem gO (f:Int→Int) (a:Agent):sh (rnA f a)=sh a:=by simp [sh,rnA]
structure Vst (R:List Int) (A B:List Agent):Prop where
 st:Stt R A B
 sv:∀k a,at? A k=some a→agB a=true∧(a.kind=1↔k=0)
 r0:(0:Int) ∉ R
 a0:1≤A.length
theorem VnN.vst {N} {l} (h:VnN N l):Vst [] l l:=⟨h.stt,h.ag,by simp,h.len.1⟩
theorem Vst.next {R R'} {A A' B B'} (h:Vst R A B) {x y} {new} {a b} (ha:at? A x=some a) (hb:at? A y=some b) (ka:a.kind≠1) (kb:b.kind≠1) (o:Outc R A x y R' A' B' new):Vst R' A' B':=by
 have hlen:=LB o.shp
 rw [List.length_append,List.length_map] at hlen
 have ha0:=h.a0
 refine⟨o.st,fun k c hc=>?_,fun e=>?_,by omega⟩
 ·have hl:=C6 hc
  by_cases hk:k<(A.length:Int)
  ·obtain⟨d,hd,-⟩:=Ef (l:=A) (i:=k) (by omega)
   have e1:=B8 (m:=new) (Dv hd)
   rw [← o.shp,Dv hc] at e1
   obtain⟨q1,q2⟩:=Rv (Option.some.inj e1)
   obtain⟨g1,g2⟩:=h.sv k d hd
   exact⟨by rw [q1]; exact g1,by rw [q2]; exact g2⟩
  ·obtain⟨i,hi⟩:∃i:Nat,k=((A.length+i:Nat):Int):=⟨(k - A.length).toNat,by omega⟩
   have hi2:i<new.length:=by omega
   have e1:=GJ (l:=A.map sh) (m:=new) (k:=i) (List.getElem?_eq_getElem hi2)
   rw [← o.shp,List.length_map,← hi,Dv hc] at e1
   obtain⟨s1,s2⟩:=o.sv _ (List.getElem_mem hi2)
   rw [← Option.some.inj e1] at s1 s2
   rw [XJ] at s2
   refine⟨s2,fun e=>absurd e s1,fun e=>by omega⟩
 ·rcases (o.mem 0).1 e with e|e|e
  ·exact h.r0 e
  ·exact ka ((h.sv x a ha).2.2 e.symm)
  ·exact kb ((h.sv y b hb).2.2 e.1.symm)
theorem Vst.pack {R:List Int} {A B:List Agent} (h:Vst R A B) {N:Nat} (hN:B.length≤N):VnN N (C7 (posN B) B):=by
 have hlen:=h.st.ok.len
 have inR:∀ (t:Nat) (a:Agent),B[t]? =some a→a.kind≠0→(t:Int) ∉ R∧at? A (t:Int)=some a:=fun t a ht hk=>by
  have hb:=MD ht
  have hr:(t:Int) ∉ R:=fun e=>hk ((h.st.kinds _ _ hb).2 e)
  exact⟨hr,(h.st.ok.ag _ hr).trans hb⟩
 have pos:∀t:Nat,posN B (t:Int)=((AT (B.take t):Nat):Int):=fun t=>by unfold posN; rw [Int.toNat_natCast]
 obtain⟨a0,h0,k0⟩:∃a0,B[0]? =some a0∧a0.kind=1:=by
  obtain⟨d,hd,-⟩:=Ef (l:=A) (i:=0) (by have:=h.a0; omega)
  have hb:=(h.st.ok.ag 0 h.r0).symm.trans hd
  exact⟨d,by have:=(A9 hb).2; simpa using this,(h.sv 0 d hd).2.2 rfl⟩
 have hv0:=R4 (posN B) B 0 a0 h0 (by omega)
 rw [List.take_zero,AT] at hv0
 refine⟨⟨?_,?_⟩,fun k v hk=>?_,fun p q hp _=>?_⟩
 ·have:=(List.getElem?_eq_some_iff.1 hv0).1; omega
 ·have:=Te (posN B) B; omega
 ·obtain⟨k1,k2⟩:=A9 hk
  obtain⟨t,a,h1,h2,rfl,h4⟩:=M0 _ _ _ _ k2
  obtain⟨hr,hA⟩:=inR t a h1 h2
  obtain⟨g1,g2⟩:=h.sv _ _ hA
  obtain⟨q1,q2⟩:=Rv (gO (posN B) a)
  refine⟨by rw [q1]; exact g1,?_⟩
  rw [q2,g2]
  constructor
  ·intro e
   have:t=0:=by omega
   subst this
   rw [List.take_zero,AT] at h4; omega
  ·intro e
   have:t=0:=V8 h1 h0 h2 (by omega) (by rw [← h4,List.take_zero,AT]; omega)
   omega
 ·obtain⟨v,hv,hq⟩:=Ay.1 hp
  obtain⟨k1,k2⟩:=A9 hv
  obtain⟨t,a,h1,h2,rfl,h4⟩:=M0 _ _ _ _ k2
  obtain⟨hr,hA⟩:=inR t a h1 h2
  simp only [rnA] at hq
  rw [Rz] at hq
  obtain⟨q0,hq0,rfl⟩:=Option.map_eq_some_iff.1 hq
  have hg:Ab.get A ⟨(t:Int),p.slot⟩=some q0:=Ay.2 ⟨a,hA,hq0⟩
  obtain⟨m1,m2,m3⟩:=h.st.ok.m _ _ hg hr
  obtain⟨b,hb,hbs⟩:=Ay.1 m3
  have hbB:=(h.st.ok.ag _ m1).symm.trans hb
  obtain⟨b1,b2⟩:=A9 hbB
  have kb:b.kind≠0:=fun e=>m1 ((h.st.kinds _ _ hbB).1 e)
  have hpB:=R4 (posN B) B _ b b2 kb
  have e1:posN B q0.agent=((AT (B.take q0.agent.toNat):Nat):Int):=rfl
  have ep:p=⟨((AT (B.take t):Nat):Int),p.slot⟩:=B7 (by simp only; omega) rfl
  refine⟨not_false,fun e=>?_,?_⟩
  ·rw [ep] at e
   have ea:=congrArg Port.agent e
   have es:=congrArg Port.slot e
   simp only [rnP] at ea es
   rw [e1] at ea
   have:=V8 b2 h1 kb h2 (by omega)
   exact m2 (B7 (by simp only; omega) es)
  ·refine Ay.2 ⟨rnA (posN B) b,?_,?_⟩
   ·simp only [rnP,e1]
    exact MD hpB
   ·simp only [rnA,rnP]
    rw [Rz,hbs]
    simp only [Option.map_some,rnP,pos]
    exact congrArg some ep.symm
end Go.Proofs.YtckcfdggbbabfaaGreat.Ab
namespace Go.Proofs.YtckcfdggbbabfaaGreat.Ab
set_option linter.unusedVariables false
set_option linter.unusedSimpArgs false
open Go.RowKit
theorem Oh:∀l:List Agent,szl (fun a=>a.ports.length) l≤szl Agent.sz l
 | [] =>by simp [szl]
 |a::l=>by
  have:=Oh l
  simp only [szl,Agent.sz]; omega
theorem Net.small_of (n:Net) (h:n.sz≤Big):n.Small:=by
 unfold Net.sz at h
 refine⟨by have:=Oh n.agents; omega,fun a ha=>?_⟩
 have:=HJ (s:=Agent.sz) ha
 unfold Agent.sz at this h; omega
theorem Nq (f:Int→Int):∀l:List Agent,(C7 f l).length =AT l
 | [] =>rfl
 |a::l=>by
  rw [C7,AT]
  split
  ·rw [Nq f l]; omega
  ·rw [List.length_cons,Nq f l]; omega
theorem Tf (f:Int→Int):∀l:List Agent,(∀a ∈ l,a.kind≠0)→(∀a ∈ l,rnA f a=a)→C7 f l=l
 | [],_,_=>rfl
 |a::l,h,h2=>by
  rw [C7,if_neg (h a List.mem_cons_self),h2 a List.mem_cons_self,Tf f l (fun b hb=>h b (List.mem_cons_of_mem _ hb)) fun b hb=>h2 b (List.mem_cons_of_mem _ hb)]
theorem VnN.packed {N} {l} (h:VnN N l):C7 (posN l) l=l:=by
 have hk:∀a ∈ l,a.kind≠0:=fun a ha=>by have:=Ka (h.mem ha); omega
 refine Tf _ l hk fun a ha=>?_
 have hq:=(h.stt.closed a ha (hk a ha)).2
 have:a.ports.map (rnP (posN l))=a.ports:=by
  refine(List.map_congr_left fun q hq'=>?_).trans (List.map_id _)
  obtain⟨b,hb,-⟩:=hq q hq'
  have hl:=C6 hb
  refine B7 ?_ rfl
  simp only [rnP,posN,id]
  rw [Mz fun b hb=>hk b (List.mem_of_mem_take hb),List.length_take]
  omega
 unfold rnA
 rw [this]
def clsP (A:List Agent) (p:Pair):Int:=match at? A p.a,at? A p.b with
 |some a,some b=>kcl a b
 |_,_=>8
theorem gP {a b a' b'} (h:sh a=sh a') (h':sh b=sh b'):kcl a b=kcl a' b':=by
 simp only [sh,Prod.mk.injEq] at h h'
 obtain⟨h1,h2,h3,h4,h5⟩:=h
 obtain⟨k1,k2,k3,k4,k5⟩:=h'
 unfold kcl DD pcl
 rw [h1,h2,h3,h4,k1,k2,k3,k4]
theorem UP (a b:Agent):1≤kcl a b∧kcl a b≤8:=by
 have h1:=(Pc a b).1
 have h2:=(Pc b a).1
 unfold kcl pcl
 repeat' split
 all_goals omega
theorem V9 (A:List Agent) (p:Pair):1≤clsP A p∧clsP A p≤8:=by
 unfold clsP
 split
 ·exact UP _ _
 ·omega
theorem Qs {A} {p} {a b} (ha:at? A p.a=some a) (hb:at? A p.b=some b):clsP A p=kcl a b:=by unfold clsP; rw [ha,hb]
theorem Zj {A A'} {new} (h:A'.map sh=A.map sh++new) {p} {a b} (ha:at? A p.a=some a) (hb:at? A p.b=some b):clsP A' p=clsP A p:=by
 have e1:=B8 (m:=new) (Dv ha)
 have e2:=B8 (m:=new) (Dv hb)
 rw [← h] at e1 e2
 obtain⟨a',ha',sa⟩:=MF e1
 obtain⟨b',hb',sb⟩:=MF e2
 rw [Qs ha hb,Qs ha' hb',gP sa sb]
theorem gQ (a b:Int):∃m,HD a b=some m:=by unfold HD; split <;> exact⟨_,rfl⟩
def Sc (bk:List Net):List Pair→List Agent→List (Int × Bool)→Option (Int × Rewriter)
 | [],A,rm=>some (0,⟨⟨A⟩,bk,rm⟩)
 |p::l,A,rm=>Option.bind (Ak ⟨⟨A⟩,bk,rm⟩ p) fun v=>if (!decide (v.1 =0))=true then some v else Sc bk l v.2.net.agents v.2.removed
def WA (bk:List Net):List Pair→L15Run→Option (Int × L15Run)
 | [],r=>some (0,r)
 |p::l,r=>Option.bind (Ha bk r p) fun v=>if (!decide (v.1 =0))=true then some v else WA bk l v.2
theorem run_both (bk:List Net) (hbk:∀T ∈ bk,Vn T.agents):∀ (post:List Pair) (R:List Int) (A B:List Agent) (tr:List Int) (pk:Int),Vst R A B→(∀p ∈ post,PrW R A p)→post.Pairwise Dj→A.length+600*post.length≤8000000→tr.length+post.length≤Big→
  (∃e r1 r2,e≠0∧Sc bk post A (remM R)=some (e,r1)∧WA bk post ⟨⟨B⟩,tr,pk⟩=some (e,r2))∨
  (∃R' A' B' pk',Sc bk post A (remM R)=some (0,⟨⟨A'⟩,bk,remM R'⟩)∧WA bk post ⟨⟨B⟩,tr,pk⟩=some (0,⟨⟨B'⟩,tr++post.map (clsP A),pk'⟩)∧Vst R' A' B'∧A'.length≤A.length+600*post.length∧(AT B≤600→AT B'≤600)∧∀p ∈ post,clsP A p≤7):=by
 intro post
 induction post with
 |nil=>
  intro R A B tr pk h hw hd hA ht
  exact .inr ⟨R,A,B,pk,rfl,by simp [WA],h,by simp,fun x=>x,by simp⟩
 | cons x post ih=>
  intro R A B tr pk h hw hd hA ht
  rw [List.length_cons] at hA ht
  obtain⟨a,b,hp,ga,gb,ka,kb⟩:=hw x List.mem_cons_self
  obtain⟨hd1,hd2⟩:=List.pairwise_cons.1 hd
  have h2:Two a b:=⟨IW ga,IW gb,ka,kb⟩
  have hc:clsP A x=kcl a b:=Qs hp.hx hp.hy
  have hS:∀ (v:Int × Net),IS bk ⟨B⟩ x.a x.b=some v→Ha bk ⟨⟨B⟩,tr,pk⟩ x=(if (!decide (v.1 =0))=true then (some (v.1,(⟨v.2,tr,pk⟩:L15Run))) else Option.bind (app? tr [kcl a b]) fun t=>Option.bind (Ik v.2) fun q=>Option.bind (HD pk q) fun m=>some (0,⟨v.2,t,m⟩)):=fun v hv=>by
   unfold Ha
   rw [hp.bx h.st.ok,AA,hp.bY h.st.ok,AA,MG h2,AA,hv,AA]
  rw [Sc,WA]
  rcases step h.st hp ga gb ka kb bk hbk (by omega) with ⟨e,h1,h4,h3⟩|⟨u,w,R',A',B',new,huw,⟨hk8,hlv⟩,h4,h3,h5⟩
  ·left
   have h4':Ak ⟨⟨A⟩,bk,remM R⟩ x=some (e,⟨⟨A⟩,bk,remM R⟩):=h4
   rw [h4',hS _ h3,AA,if_pos (by simpa using h1),if_pos (by simpa using h1),AA,if_pos (by simpa using h1)]
   exact⟨e,_,_,h1,rfl,rfl⟩
  ·have h4':Ak ⟨⟨A⟩,bk,remM R⟩ x=some (0,⟨⟨A'⟩,bk,remM R'⟩):=h4
   have hlen:=LB h5.shp
   rw [List.length_append,List.length_map] at hlen
   have hnl:=h5.nl
   have hlB:=h5.st.ok.len
   have hl':=Kb B'
   obtain⟨m,hm⟩:=gQ pk ((AT B':Nat):Int)
   have hlive:=YM ⟨B'⟩ (by simp only; unfold Big; omega)
   simp only at hlive
   rw [h4',hS _ h3,AA,if_neg (by simp),if_neg (by simp),C2 (by simp; omega),AA,hlive,AA,hm,AA,AA,if_neg (by simp)]
   have hv':Vst R' A' B':=by
    rcases huw with ⟨e1,e2⟩|⟨e1,e2⟩
    ·exact h.next (by rw [e1]; exact hp.hx) (by rw [e2]; exact hp.hy) ka kb h5
    ·exact h.next (by rw [e1]; exact hp.hy) (by rw [e2]; exact hp.hx) kb ka h5
   have hck:∀p ∈ post,clsP A' p=clsP A p:=fun p hp'=>by
    obtain⟨c,d,q,-⟩:=hw p (List.mem_cons_of_mem _ hp')
    exact Zj h5.shp q.hx q.hy
   have hmap:post.map (clsP A')=post.map (clsP A):=List.map_congr_left hck
   have hr:=UP a b
   rcases ih R' A' B' (tr++[kcl a b]) m hv' (fun p hp'=>by
     obtain⟨d1,d2,d3,d4⟩:=hd1 p hp'
     have hk:=hw p (List.mem_cons_of_mem _ hp')
     rcases huw with ⟨e1,e2⟩|⟨e1,e2⟩
     ·exact hk.keep h.st h5 (by rw [e1]; exact d1.symm) (by rw [e2]; exact d3.symm) (by rw [e1]; exact d2.symm) (by rw [e2]; exact d4.symm)
     ·exact hk.keep h.st h5 (by rw [e1]; exact d3.symm) (by rw [e2]; exact d1.symm) (by rw [e1]; exact d4.symm) (by rw [e2]; exact d2.symm)) hd2 (by omega) (by simp; omega) with ⟨e,r1,r2,q1,q2,q3⟩|⟨R2,A2,B2,pk2,q1,q2,q3,q4,q5,q6⟩
   ·exact .inl ⟨e,r1,r2,q1,q2,q3⟩
   ·refine .inr ⟨R2,A2,B2,pk2,q1,?_,q3,by rw [List.length_cons]; omega,fun _=>q5 hlv,fun p hp'=>?_⟩
    ·rw [q2,hmap,List.map_cons,hc,List.append_assoc,List.singleton_append]
    ·rcases List.mem_cons.1 hp' with e|e
     ·rw [e,hc]; omega
     ·rw [← hck p e]; exact q6 p e
theorem VnN.prW {N} {l} (h:VnN N l):∀p ∈ prs 1 (l.drop 1),PrW [] l p:=fun p hp=>XO h hp
theorem eJ (bk:List Net) (most bud:Int) (tr0:List Int) (out:List (List Int)) (P:List Pair) (hP:P.length≤Big):∀ (post pre:List Pair) (B:List Agent) (tr:List Int) (pk:Int) (k:Nat),P=pre++post→
  Ce (post.length+1+k) bk most bud tr0 out P B tr pk ((List.length pre:Nat):Int)=Option.bind (WA bk post ⟨⟨B⟩,tr,pk⟩) fun w=>if (!decide (w.1 =0))=true then some ([],w.1) else
   Option.bind (cutL w.2.trace ((List.length tr0:Nat):Int) ((List.length w.2.trace :Nat):Int)) fun c=>Option.bind (H2 c) fun o=>Option.bind (app? out [o]) fun q=>Bz k bk most bud w.2.n.agents w.2.trace w.2.peak q:=by
 intro post
 induction post with
 |nil=>
  intro pre B tr pk k h
  rw [show ([] :List Pair).length +1+k=k+1 from by simp; omega,Ce,CU h,if_neg (by simp),WA,AA,if_neg (by simp)]
 | cons x post ih=>
  intro pre B tr pk k h
  rw [show (x::post).length +1+k=(post.length+1+k)+1 from by simp; omega,Ce,CG h,if_pos rfl,BO h,AA,WA]
  cases hs:Ha bk ⟨⟨B⟩,tr,pk⟩ x with
  |none=>rfl
  | some v=>
   rw [AA,AA]
   by_cases h0:v.1 =0
   ·rw [if_neg (by simp [h0]),if_neg (by simp [h0]),Ax h hP]
    exact ih (pre++[x]) _ _ _ k (Ae h)
   ·rw [if_pos (by simp [h0]),if_pos (by simp [h0]),AA,if_pos (by simp [h0])]
theorem eK {α:Type} (a b:List α):cutL (a++b) ((List.length a:Nat):Int) ((List.length (a++b):Nat):Int)=some b:=by
 unfold cutL
 rw [if_pos ⟨by omega,by rw [List.length_append]; omega,Int.le_refl _⟩]
 congr 1
 rw [Int.toNat_natCast,List.drop_left,List.take_of_length_le (by rw [List.length_append]; omega)]
theorem cD (l:List Net) (n:Net) (b:Int) (hll:l.length≤Big) (hs:∀T ∈ l,T.Small) (hns:n.Small):∃c,JA l n [] b=some c∧H4 l n [] b=some c∧(c=0→MM l=true∧n.valid=true∧0≤b∧b≤4000):=by
 unfold JA H4
 rw [Zh l hll hs,Zg l hll hs,AA,AA]
 cases hT:MM l with
 |false=>exact⟨1,by simp [EP],by simp [Do],by simp⟩
 | true=>
  rw [if_neg (by simp),if_neg (by simp),YC n hns,YG n hns,AA,AA]
  cases hv:n.valid with
  |false=>exact⟨1,by simp [EP],by simp [Do],by simp⟩
  | true=>
   have h1:GD [] =some true:=by
    unfold GD
    obtain⟨k,hk⟩:∃q,fuel=q+1:=⟨fuel - 1,by rw [Ah]⟩
    rw [if_neg (by simp),hk,De,if_neg (by simp)]
   have h2:E9 [] =some true:=by
    unfold E9
    rw [if_pos (by simp),MC [] _ (fun _=>false) (by simp) (by simp),AA]; rfl
   have h3:∀p,Dn l n p=some (if p=true then 2 else 0):=fun p=>by
    unfold Dn IV
    cases p with
    |true=>rfl
    |false=>
     rw [if_neg (by simp),Vz l n hns.agents.1 hns.agents.2,AA]
     rfl
   unfold EP Do
   rw [if_neg (by simp),if_neg (by simp),h1,h2,AA,AA,if_neg (by simp),if_neg (by simp),Fi,AA]
   unfold GE
   by_cases hb:0≤b∧b≤4000
   ·refine⟨0,by simp [hb],?_,fun _=>⟨rfl,rfl,hb⟩⟩
    rw [if_neg (by simp; omega),h3]
    simp; omega
   ·refine⟨2,by simp; omega,?_,by simp⟩
    by_cases hn:b<0
    ·rw [if_pos (by simpa using hn),h3]; rfl
    ·rw [if_neg (by simpa using hn),h3]
     simp; omega
end Go.Proofs.YtckcfdggbbabfaaGreat.Ab
namespace Go.Proofs.YtckcfdggbbabfaaGreat.Ab
set_option linter.unusedVariables false
set_option linter.unusedSimpArgs false
open Go.RowKit
def bump (c:List Int) (k:Int):List Int:=c.set (k - 1).toNat ((c[(k - 1).toNat]?).getD 0+1)
def cntL (l:List Int):List Int:=l.foldl bump (List.replicate 7 0)
theorem WB:∀ (c:List Int) (i:Nat),i<c.length→(c.set i ((c[i]?).getD 0+1)).sum =c.sum+1
 | [],i,h=>by simp at h
 |x::c,0,h=>by simp; omega
 |x::c,i+1,h=>by
  rw [List.length_cons] at h
  have:=WB c i (by omega)
  rw [List.set_cons_succ,List.getElem?_cons_succ,List.sum_cons,List.sum_cons,this]; omega
theorem W5:∀ (c:List Int),(∀x ∈ c,0≤x)→0≤c.sum∧∀x ∈ c,x≤c.sum
 | [],_=>by simp
 |y::c,h=>by
  obtain⟨h1,h2⟩:=W5 c fun x hx=>h x (List.mem_cons_of_mem _ hx)
  have h0:=h y List.mem_cons_self
  rw [List.sum_cons]
  refine⟨by omega,fun x hx=>?_⟩
  rcases List.mem_cons.1 hx with e|e
  ·omega
  ·have:=h2 x e; omega
theorem em:∀ (l:List Int) (c:List Int),c.length=7→(∀x ∈ c,0≤x)→(∀k ∈ l,1≤k∧k≤7)→(l.foldl bump c).length =7∧(∀x ∈ l.foldl bump c,0≤x)∧(l.foldl bump c).sum =c.sum+(l.length:Int)
 | [],c,h1,h2,_=>⟨h1,h2,by simp⟩
 | k::l,c,h1,h2,h3=>by
  obtain⟨k1,k2⟩:=h3 k List.mem_cons_self
  have hi:(k - 1).toNat <c.length:=by omega
  have hb:∀x ∈ bump c k,0≤x:=fun x hx=>by
   rcases List.mem_or_eq_of_mem_set hx with e|e
   ·exact h2 x e
   ·rw [e,List.getElem?_eq_getElem hi]
    have:=h2 _ (List.getElem_mem hi)
    simp only [Option.getD_some]; omega
  obtain⟨q1,q2,q3⟩:=em l (bump c k) (by unfold bump; rw [List.length_set]; exact h1) hb fun x hx=>h3 x (List.mem_cons_of_mem _ hx)
  refine⟨q1,q2,?_⟩
  rw [List.foldl_cons,q3,List.length_cons]
  unfold bump
  rw [WB c _ hi]; omega
theorem T7 {l} (h:∀k ∈ l,1≤k∧k≤7):(cntL l).length =7∧(∀x ∈ cntL l,0≤x∧x≤(l.length:Int))∧(cntL l).sum =(l.length:Int):=by
 obtain⟨h1,h2,h3⟩:=em l (List.replicate 7 0) (by simp) (fun x hx=>by rw [(List.mem_replicate.1 hx).2]; omega) h
 have h3':(cntL l).sum =(l.length:Int):=by unfold cntL; rw [h3]; simp
 refine⟨h1,fun x hx=>⟨h2 x hx,?_⟩,h3'⟩
 have:=(W5 _ h2).2 x hx
 unfold cntL at h3'
 omega
theorem Zk (l:List Int) (k:Int):cntL (l++[k])=bump (cntL l) k:=by unfold cntL; rw [List.foldl_append]; rfl
theorem WC {l} (h:∀k ∈ l,1≤k∧k≤7) (hl:l.length≤Big) {k} (hk:1≤k∧k≤7):∃v,at? (cntL l) (IntKind.i64.wrap (k - 1))=some v∧CF (cntL l) (IntKind.i64.wrap (k - 1)) (IntKind.i64.wrap (v+1))=some (cntL (l++[k])):=by
 obtain⟨h1,h2,-⟩:=T7 h
 rw [w64 (by omega) (by omega)]
 obtain⟨v,hv,hm⟩:=Ef (l:=cntL l) (i:=k - 1) (by omega)
 refine⟨v,hv,?_⟩
 have hb:=h2 v hm
 rw [w64 (by omega) (by unfold Big at hl; omega),Zk]
 unfold CF Vi bump
 rw [(A9 hv).2]; rfl
theorem eL (v:Rewriter) (P:List Pair) (hP:P.length≤Big):∀ (post pre:List Pair) (A:List Agent) (rm:List (Int × Bool)) (n:Nat),P=pre++post→post.length<n→
  Bg n v P A rm ((List.length pre:Nat):Int)=Option.bind (Sc v.book post A rm) fun w=>if (!decide (w.1 =0))=true then some ((⟨[]⟩:Net),0,w.1) else Option.bind (Bq w.2) fun u=>some (u,((List.length P:Nat):Int),0):=by
 intro post
 induction post with
 |nil=>
  intro pre A rm n h hn
  obtain⟨n,rfl⟩:∃q,n=q+1:=⟨n - 1,by omega⟩
  rw [Bg,CU h,if_neg (by simp),Sc,AA,if_neg (by simp)]
 | cons x post ih=>
  intro pre A rm n h hn
  rw [List.length_cons] at hn
  obtain⟨n,rfl⟩:∃q,n=q+1:=⟨n - 1,by omega⟩
  rw [Bg,CG h,if_pos rfl,BO h,AA,Sc]
  cases hs:Ak ⟨⟨A⟩,v.book,rm⟩ x with
  |none=>rfl
  | some w=>
   rw [AA,AA]
   by_cases h0:w.1 =0
   ·rw [if_neg (by simp [h0]),if_neg (by simp [h0]),Ax h hP]
    exact ih (pre++[x]) _ _ n (Ae h) (by omega)
   ·rw [if_pos (by simp [h0]),if_pos (by simp [h0]),AA,if_pos (by simp [h0])]
theorem Zl (bk:List Net) {V} (hV:Vn V):Dz bk ⟨V⟩=Option.bind (Sc bk (prs 1 (V.drop 1)) V []) fun w=>if (!decide (w.1 =0))=true then some ((⟨[]⟩:Net),0,w.1) else Option.bind (Bq w.2) fun u=>some (u,((List.length (prs 1 (V.drop 1)):Nat):Int),0):=by
 have hVl:=hV.len
 have hpl:=UL (V.drop 1) 1
 rw [List.length_drop] at hpl
 unfold Dz
 rw [Vz bk ⟨V⟩ (by simp only; unfold Big; omega) hV.small,AA,Pd ⟨V⟩ hV (by omega),AA]
 exact eL ⟨⟨V⟩,bk,[]⟩ (prs 1 (V.drop 1)) (by unfold Big; omega) (prs 1 (V.drop 1)) [] V [] fuel rfl (by rw [Ah]; omega)
def n8 (l:List Int):List Int:=l.filter fun c=> !decide (c=8)
theorem eM (bk:List Net) (b:Int) {V} (out:List (List Int)) (P:List Pair) (hP:P.length≤600) (hw:∀p ∈ P,PrW [] V p):∀ (post pre:List Pair) (k:Nat),P=pre++post→
  CR (post.length+1+k) bk b V out P (cntL (n8 (pre.map (clsP V)))) ((List.length pre:Nat):Int)=Option.bind (Dz bk ⟨V⟩) fun w=>if (!decide (w.2.2 =0))=true then some ([],w.2.2) else
   Option.bind (app? out [cntL (n8 (P.map (clsP V)))]) fun o=>Option.bind (Ek w.1) fun ps=>B0 k bk (IntKind.i64.wrap (b - ((List.length P:Nat):Int))) w.1.agents o ps:=by
 have hPB:P.length≤Big:=by unfold Big; omega
 intro post
 induction post with
 |nil=>
  intro pre k h
  rw [show ([] :List Pair).length +1+k=k+1 from by simp; omega,CR,CU h,if_neg (by simp)]
  have e:pre=P:=by rw [h,List.append_nil]
  rw [e]
 | cons x post ih=>
  intro pre k h
  obtain⟨a,b',hp,ga,gb,ka,kb⟩:=hw x (by rw [h]; simp)
  have h2:Two a b':=⟨IW ga,IW gb,ka,kb⟩
  obtain⟨sw,hcl,-⟩:=QH (i:=x.a) (j:=x.b) hp.hx hp.hy h2
  have hcl':EK ⟨V⟩ x=some (kcl a b',sw):=hcl
  have hc:clsP V x=kcl a b':=Qs hp.hx hp.hy
  have ih':=ih (pre++[x]) k (Ae h)
  rw [List.map_append,List.map_singleton,hc] at ih'
  have hr:=UP a b'
  rw [show (x::post).length +1+k=(post.length+1+k)+1 from by simp; omega,CR,CG h,if_pos rfl,BO h,AA,hcl',AA,Ax h hPB]
  by_cases h8:kcl a b'=8
  ·rw [if_neg (by simp [h8])]
   have e:n8 (pre.map (clsP V)++[kcl a b'])=n8 (pre.map (clsP V)):=by unfold n8; rw [List.filter_append]; simp [h8]
   rw [e] at ih'
   exact ih'
  ·rw [if_pos (by simp [h8])]
   have e:n8 (pre.map (clsP V)++[kcl a b'])=n8 (pre.map (clsP V))++[kcl a b'] :=by unfold n8; rw [List.filter_append]; simp [h8]
   rw [e] at ih'
   have hpre:pre.length≤600:=by rw [h] at hP; simp at hP; omega
   obtain⟨v,q1,q2⟩:=WC (l:=n8 (pre.map (clsP V))) (fun c hc=>by
    obtain⟨m1,m2⟩:=List.mem_filter.1 hc
    obtain⟨p,-,rfl⟩:=List.mem_map.1 m1
    have:=V9 V p
    simp at m2
    omega) (by have:=List.length_filter_le (fun c:Int=> !decide (c=8)) (pre.map (clsP V)); rw [List.length_map] at this; unfold n8; unfold Big; omega) (k:=kcl a b') (by omega)
   simp only
   rw [q1,AA,AA,q2,AA]
   exact ih'
def CL (c:List Int):Prop:=c.length≤600∧∀x ∈ c,1≤x∧x≤7
theorem WD (bk:List Net) (hbk:∀T ∈ bk,Vn T.agents) (bud:Int) (hb:0≤bud∧bud≤4000):∀ (m k k':Nat) (V B:List Agent) (tr:List Int) (pk:Int) (out:List (List Int)),Vn V→Gk ⟨B⟩=some ⟨V⟩→(tr.length:Int)≤bud→bud - (tr.length:Int)<(m:Int)→700*m≤k→700*m≤k'→out.length≤tr.length→(∀c ∈ out,CL c)→
  (∃e,e≠0∧Bz k bk 600 bud B tr pk out=some ([],e)∧B0 k' bk (bud - (tr.length:Int)) V (out.map cntL) (prs 1 (V.drop 1))=some ([],e))∨
  (∃L,Bz k bk 600 bud B tr pk out=some (L,0)∧B0 k' bk (bud - (tr.length:Int)) V (out.map cntL) (prs 1 (V.drop 1))=some (L.map cntL,0)∧(L.length:Int)≤bud∧∀c ∈ L,CL c):=by
 intro m
 induction m with
 |zero=>intro k k' V B tr pk out hV hpk ht hm hk hk' ho hc; omega
 | succ m ih=>
  intro k k' V B tr pk out hV hpk ht hm hk hk' ho hc
  have hVl:=hV.len
  have hpl:=UL (V.drop 1) 1
  rw [List.length_drop] at hpl
  have hw:=hV.prW
  have hd:=cC hV
  have hsp:HY ⟨V⟩=some (prs 1 (V.drop 1)):=Zc ⟨V⟩ hV (by omega)
  have hrd:=Zl bk hV
  generalize prs 1 (V.drop 1)=P at*
  obtain⟨k2,rfl⟩:∃q,k=(P.length+1+q)+1+1:=⟨k - P.length - 3,by omega⟩
  obtain⟨k2',rfl⟩:∃q,k'=(P.length+1+q)+1:=⟨k' - P.length - 2,by omega⟩
  rw [Bz,hpk,AA,hsp,AA,B0]
  by_cases h0:P.length=0
  ·rw [if_pos (by simp [h0]),if_neg (by simp [h0])]
   exact .inr ⟨out,rfl,rfl,by omega,hc⟩
  ·rw [if_neg (by simp; intro e; exact h0 (by rw [e]; rfl)),if_neg (by simp; omega),if_pos (by simp; omega),Ec,w64 (by omega) (by omega),w64 (by omega) (by omega)]
   by_cases h1:bud<(tr.length:Int)+(P.length:Int)
   ·rw [if_pos (by simpa using h1),if_pos (by simp; omega)]
    exact .inl ⟨12,by omega,rfl,rfl⟩
   ·rw [if_neg (by simpa using h1),if_neg (by simp; omega)]
    have hS:=eJ bk 600 bud tr out P (by unfold Big; omega) P [] V tr pk k2 rfl
    have hI:=eM bk (bud - (tr.length:Int)) (out.map cntL) P (by omega) hw P [] k2' rfl
    simp only [List.length_nil,Int.natCast_zero,List.map_nil] at hS hI
    have hr7:rep? 7 (0:Int)=some (cntL (n8 [])):=rfl
    rw [hS,hr7,AA,hI,hrd]
    rcases run_both bk hbk P [] V V tr pk hV.vst hw hd (by omega) (by unfold Big; omega) with ⟨e,r1,r2,q0,q1,q2⟩|⟨R',A',B',pk',q1,q2,q3,q4,q5,q6⟩
    ·have q1':Sc bk P V [] =some (e,r1):=q1
     rw [q1',q2,AA,AA,if_pos (by simpa using q0),if_pos (by simpa using q0),AA,if_pos (by simpa using q0)]
     exact .inl ⟨e,q0,rfl,rfl⟩
    ·have q1':Sc bk P V [] =some (0,⟨⟨A'⟩,bk,remM R'⟩):=q1
     have hlB:=q3.st.ok.len
     obtain⟨z1,z2⟩:=q3.st.result (by omega) bk
     have hcs:CL (P.map (clsP V)):=⟨by rw [List.length_map]; omega,fun x hx=>by
      obtain⟨p,hp,rfl⟩:=List.mem_map.1 hx
      exact⟨(V9 V p).1,q6 p hp⟩⟩
     have hn8:n8 (P.map (clsP V))=P.map (clsP V):=List.filter_eq_self.2 fun x hx=>by
      have:=(hcs.2 x hx).2
      simp; omega
     have hliv:=q5 (by have:=Kb V; omega)
     have hV':Vn (C7 (posN B') B'):=by
      have h:=q3.pack (N:=B'.length) (Nat.le_refl _)
      exact⟨⟨h.len.1,by rw [Nq]; exact hliv⟩,h.ag,h.m⟩
     rw [q1',q2,AA,AA,if_neg (by simp),if_neg (by simp),z1,AA,AA,if_neg (by simp),hn8]
     simp only
     rw [eK,AA,XE _ (by rw [List.length_map]; unfold Big; omega),AA,C2 (by simp; unfold Big; omega),AA,C2 (by simp; unfold Big; omega),AA,Pd ⟨C7 (posN B') B'⟩ hV' (by omega),AA,w64 (by omega) (by omega)]
     have:=ih k2 k2' (C7 (posN B') B') B' (tr++P.map (clsP V)) pk' (out++[P.map (clsP V)]) hV' z2 (by rw [List.length_append,List.length_map]; omega) (by rw [List.length_append,List.length_map]; omega) (by omega) (by omega) (by rw [List.length_append,List.length_append,List.length_map,List.length_singleton]; omega) (fun c hc'=>by
      rcases List.mem_append.1 hc' with e|e
      ·exact hc c e
      ·rw [List.mem_singleton] at e; rw [e]; exact hcs)
     rw [List.map_append,List.map_singleton,List.length_append,List.length_map,show bud - ((tr.length+P.length:Nat):Int)=bud - (tr.length:Int) - (P.length:Int) from by omega] at this
     exact this
theorem QG (l:List Net) (n:Net) (b:Int) (hl:szl Net.sz l≤1048576) (hn:n.sz≤1048576):∃rs ri,En l n 600 b=some rs∧HZ l n b=some ri∧((rs.2 ≠0∧rs.1 =[] ∧ri=rs)∨(rs.2 =0∧ri=(rs.1.map cntL,0)∧rs.1.length ≤4000∧∀c ∈ rs.1,CL c)):=by
 have hs:∀T ∈ l,T.Small:=fun T hT=>Net.small_of T (by have:=HJ (s:=Net.sz) hT; unfold Big; omega)
 have hll:l.length≤Big:=by have:=FL Net.sz l; unfold Big; omega
 have hns:n.Small:=Net.small_of n (by unfold Big; omega)
 obtain⟨c,c1,c2,c3⟩:=cD l n b hll hs hns
 unfold En HZ
 rw [c1,c2,AA,AA]
 by_cases h0:c=0
 ·obtain⟨hT,hv,hb⟩:=c3 h0
  have hbk:=Zi hT
  have hV:=Net.valid_vn hv
  have hVl:=hV.len
  have hpk:Gk ⟨n.agents⟩=some ⟨n.agents⟩:=by
   have:=(hV.stt.result (by omega) l).2
   rwa [hV.packed] at this
  rw [if_neg (by simp [h0]),if_neg (by simp [h0]),Pd n hV (by omega),AA]
  unfold K4
  rw [bu n hns.agents.1 hns.agents.2,AA,AA]
  have:=WD l hbk b hb 4001 fuel fuel n.agents n.agents [] ((List.length n.agents:Nat):Int) [] hV hpk (by simp; omega) (by simp; omega) (by rw [Ah]; omega) (by rw [Ah]; omega) (by simp) (by simp)
  simp only [List.length_nil,Int.natCast_zero,Int.sub_zero,List.map_nil] at this
  rcases this with ⟨e,e1,e2,e3⟩|⟨L,e2,e3,e4,e5⟩
  ·exact⟨_,_,e2,e3,.inl ⟨e1,rfl,rfl⟩⟩
  ·exact⟨_,_,e2,e3,.inr ⟨rfl,rfl,by simp only; omega,e5⟩⟩
 ·rw [if_pos (by simpa using h0),if_pos (by simpa using h0)]
  exact⟨_,_,rfl,rfl,.inl ⟨h0,rfl,rfl⟩⟩
end Go.Proofs.YtckcfdggbbabfaaGreat.Ab
