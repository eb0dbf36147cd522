/-
  Rounds: what a state between two interactions is, what is left of it at the end of a round. No program is in sight.
-/
import Derived.Test.YtckcfdggbbabfaaGreatPlRs
import Derived.Test.YtckcfdggbbabfaaGreatPlTU
import Derived.Test.YtckcfdggbbabfaaGreatModR
import Derived.Test.YtckcfdggbbabfaaGreatModY
import Derived.Test.YtckcfdggbbabfaaGreatPlNet
import Derived.Test.YtckcfdggbbabfaaGreatAbZ
namespace Go.Proofs.YtckcfdggbbabfaaGreat.Ab
set_option linter.unusedVariables false
set_option linter.unusedSimpArgs false
open Go.RowKit
theorem VnN.stt {N:Nat} {l:List Agent} (h:VnN N l):Stt [] l l:=by
 have hk:∀a ∈ l,a.kind≠0:=fun a ha=>by have:=JH (h.mem ha); omega
 refine⟨⟨rfl,fun _ _=>rfl,fun k hk=>by simp at hk,h.m.mono fun p=>by simp,fun p hp=>hp⟩,by rw [Lb hk]; rfl,fun a ha=>?_⟩
 have g:=h.mem ha
 exact⟨Kv g,(CI g).2,hk a ha⟩
theorem P5:∀ (l:List Agent) (i:Nat),(prs i l).Pairwise (fun p q=>p.a<q.a)∧∀p ∈ prs i l,(i:Int)≤p.a
 | [],i=>by simp [prs]
 | a::l,i=>by
  obtain⟨h1,h2⟩:=P5 l (i+1)
  have h3:∀p ∈ pr1 i a,p.a=(i:Int):=fun p hp=>by
   unfold pr1 at hp
   split at hp
   ·split at hp
    ·rw [List.mem_singleton] at hp; subst hp; rfl
    ·cases hp
   ·cases hp
  have h4:(pr1 i a).Pairwise (fun p q=>p.a<q.a):=by
   unfold pr1
   split
   ·split
    ·exact List.pairwise_singleton _ _
    ·exact List.Pairwise.nil
   ·exact List.Pairwise.nil
  rw [prs]
  refine⟨List.pairwise_append.2 ⟨h4,h1,fun p hp q hq=>?_⟩,fun p hp=>?_⟩
  ·have:=h3 p hp
   have:=h2 q hq; omega
  ·rcases List.mem_append.1 hp with e|e
   ·have:=h3 p e; omega
   ·have:=h2 p e; omega
def Dj (p q:Pair):Prop:=p.a≠q.a∧p.a≠q.b∧p.b≠q.a∧p.b≠q.b
theorem ZZ {N:Nat} {l:List Agent} (h:VnN N l):(prs 1 (l.drop 1)).Pairwise Dj:=by
 refine List.Pairwise.imp_of_mem (fun {p q} hp hq hlt=>?_) (P5 (l.drop 1) 1).1
 have hab:∀p ∈ prs 1 (l.drop 1),p.a<p.b:=fun p hp=>by
  obtain⟨j,a,v,h1,h2,h3,h4,h5⟩:=SI _ _ _ hp
  rw [h4] at h5 ⊢; exact h5
 obtain⟨a,b,P1,-⟩:=VO h hp
 obtain⟨c,d,P2,-⟩:=VO h hq
 have w1:=(h.m _ _ P1.w not_false).2.2
 have w2:=(h.m _ _ P2.w not_false).2.2
 have p1:=P1.w
 have p2:=P2.w
 have l1:=hab p hp
 have l2:=hab q hq
 have inj:∀ {u v:Int} {s:Port},Ab.get l s=some ⟨u,0⟩→Ab.get l s=some ⟨v,0⟩→u=v:=fun h1 h2=>by
  rw [h1] at h2
  exact congrArg Port.agent (Option.some.inj h2)
 refine⟨by omega,fun e=>?_,fun e=>?_,fun e=>?_⟩
 ·rw [← e] at w2
  have:=inj p1 w2; omega
 ·rw [e] at w1
  have:=inj w1 p2; omega
 ·rw [e] at w1
  have:=inj w1 w2; omega
def PrW (R:List Int) (A:List Agent) (p:Pair):Prop:=∃a b,Pr (fun k=>k ∈ R) A p.a p.b a b∧agB a=true∧agB b=true∧a.kind≠1∧b.kind≠1
theorem PrW.keep {R:List Int} {A B:List Agent} (hst:Stt R A B) {x y:Int} {R':List Int} {A' B':List Agent} {new:List Sh} (ho:Outc R A x y R' A' B' new) {p:Pair} (h:PrW R A p) (n1:p.a≠x) (n2:p.a≠y) (n3:p.b≠x) (n4:p.b≠y):PrW R' A' p:=by
 obtain⟨a,b,hp,ga,gb,ka,kb⟩:=h
 have e1:=Bx (m:=new) (DM hp.hx)
 have e2:=Bx (m:=new) (DM hp.hy)
 rw [← ho.shp] at e1 e2
 obtain⟨a',ha',sa⟩:=Ks e1
 obtain⟨b',hb',sb⟩:=Ks e2
 obtain⟨q1,q2⟩:=Pu sa
 obtain⟨q3,q4⟩:=Pu sb
 have r1:p.a ∉ R':=fun e=>by
  rcases (ho.mem _).1 e with e|e|e
  ·exact hp.sx e
  ·exact n1 e
  ·exact n2 e.1
 have r2:p.b ∉ R':=fun e=>by
  rcases (ho.mem _).1 e with e|e|e
  ·exact hp.sy e
  ·exact n3 e
  ·exact n4 e.1
 exact⟨a',b',⟨ha',hb',ho.fr _ _ hp.w (hst.ok.m _ _ hp.w hp.sx).2.2 r1 r2,r1,r2⟩,by rw [q1]; exact ga,by rw [q3]; exact gb,by rw [q2]; exact ka,by rw [q4]; exact kb⟩
theorem P6 (f:Int→Int):∀ (l:List Agent) (t:Nat) (a:Agent),l[t]? =some a→a.kind≠0→(Cd f l)[AR (l.take t)]? =some (rnA f a)
 | [],t,a,h,_=>by simp at h
 |b::l,0,a,h,hk=>by
  simp only [List.getElem?_cons_zero,Option.some.injEq] at h
  subst h
  rw [Cd,if_neg hk]; rfl
 |b::l,t+1,a,h,hk=>by
  rw [List.getElem?_cons_succ] at h
  have ih:=P6 f l t a h hk
  rw [List.take_succ_cons,AR,Cd]
  by_cases e:b.kind=0
  ·rw [if_pos e,if_pos e,Nat.zero_add]; exact ih
  ·rw [if_neg e,if_neg e,Nat.add_comm,List.getElem?_cons_succ]; exact ih
theorem Lc (f:Int→Int):∀ (l:List Agent) (j:Nat) (v:Agent),(Cd f l)[j]? =some v→∃t a,l[t]? =some a∧a.kind≠0∧v=rnA f a∧j=AR (l.take t)
 | [],j,v,h=>by simp [Cd] at h
 | b::l,j,v,h=>by
  rw [Cd] at h
  by_cases e:b.kind=0
  ·rw [if_pos e] at h
   obtain⟨t,a,h1,h2,h3,h4⟩:=Lc f l j v h
   exact⟨t+1,a,by simpa using h1,h2,h3,by rw [List.take_succ_cons,AR,if_pos e]; omega⟩
  ·rw [if_neg e] at h
   cases j with
   |zero=>
    simp only [List.getElem?_cons_zero,Option.some.injEq] at h
    exact⟨0,b,rfl,e,h.symm,rfl⟩
   |succ j=>
    rw [List.getElem?_cons_succ] at h
    obtain⟨t,a,h1,h2,h3,h4⟩:=Lc f l j v h
    exact⟨t+1,a,by simpa using h1,h2,h3,by rw [List.take_succ_cons,AR,if_neg e]; omega⟩
theorem SM:∀ (l:List Agent) (t u:Nat) (a:Agent),l[t]? =some a→a.kind≠0→t<u→AR (l.take t)<AR (l.take u)
 | [],t,u,a,h,_,_=>by simp at h
 |b::l,0,u+1,a,h,hk,_=>by
  simp only [List.getElem?_cons_zero,Option.some.injEq] at h
  subst h
  rw [List.take_succ_cons,AR,if_neg hk,List.take_zero,AR]; omega
 |b::l,t+1,u+1,a,h,hk,hlt=>by
  rw [List.getElem?_cons_succ] at h
  have:=SM l t u a h hk (by omega)
  rw [List.take_succ_cons,List.take_succ_cons,AR,AR]; omega
theorem UF {l:List Agent} {t u:Nat} {a b:Agent} (ha:l[t]? =some a) (hb:l[u]? =some b) (ka:a.kind≠0) (kb:b.kind≠0) (h:AR (l.take t)=AR (l.take u)):t=u:=by
 rcases Nat.lt_trichotomy t u with e|e|e
 ·have:=SM l t u a ha ka e; omega
 ·exact e
 ·have:=SM l u t b hb kb e; omega
theorem da (f:Int→Int) (a:Agent):sh (rnA f a)=sh a:=by simp [sh,rnA]
structure Vst (R:List Int) (A B:List Agent):Prop where
 st:Stt R A B
 sv:∀k a,at? A k=some a→agB a=true∧(a.kind=1↔k=0)
 r0:(0:Int) ∉ R
 a0:1≤A.length
theorem VnN.vst {N:Nat} {l:List Agent} (h:VnN N l):Vst [] l l:=⟨h.stt,h.ag,by simp,h.len.1⟩
theorem Vst.next {R R':List Int} {A A' B B':List Agent} (h:Vst R A B) {x y:Int} {new:List Sh} {a b:Agent} (ha:at? A x=some a) (hb:at? A y=some b) (ka:a.kind≠1) (kb:b.kind≠1) (o:Outc R A x y R' A' B' new):Vst R' A' B':=by
 have hlen:=Jq o.shp
 rw [List.length_append,List.length_map] at hlen
 have ha0:=h.a0
 refine⟨o.st,fun k c hc=>?_,fun e=>?_,by omega⟩
 ·have hl:=Cf hc
  by_cases hk:k<(A.length:Int)
  ·obtain⟨d,hd,-⟩:=EI (l:=A) (i:=k) (by omega)
   have e1:=Bx (m:=new) (DM hd)
   rw [← o.shp,DM hc] at e1
   obtain⟨q1,q2⟩:=Pu (Option.some.inj e1)
   obtain⟨g1,g2⟩:=h.sv k d hd
   exact⟨by rw [q1]; exact g1,by rw [q2]; exact g2⟩
  ·obtain⟨i,hi⟩:∃i:Nat,k=((A.length+i:Nat):Int):=⟨(k - A.length).toNat,by omega⟩
   have hi2:i<new.length:=by omega
   have e1:=FN (l:=A.map sh) (m:=new) (k:=i) (List.getElem?_eq_getElem hi2)
   rw [← o.shp,List.length_map,← hi,DM hc] at e1
   obtain⟨s1,s2⟩:=o.sv _ (List.getElem_mem hi2)
   rw [← Option.some.inj e1] at s1 s2
   rw [VJ] at s2
   refine⟨s2,fun e=>absurd e s1,fun e=>by omega⟩
 ·rcases (o.mem 0).1 e with e|e|e
  ·exact h.r0 e
  ·exact ka ((h.sv x a ha).2.2 e.symm)
  ·exact kb ((h.sv y b hb).2.2 e.1.symm)
theorem Vst.pack {R:List Int} {A B:List Agent} (h:Vst R A B) {N:Nat} (hN:B.length≤N):VnN N (Cd (posN B) B):=by
 have hlen:=h.st.ok.len
 have inR:∀ (t:Nat) (a:Agent),B[t]? =some a→a.kind≠0→(t:Int) ∉ R∧at? A (t:Int)=some a:=fun t a ht hk=>by
  have hb:=Kq ht
  have hr:(t:Int) ∉ R:=fun e=>hk ((h.st.kinds _ _ hb).2 e)
  exact⟨hr,(h.st.ok.ag _ hr).trans hb⟩
 have pos:∀t:Nat,posN B (t:Int)=((AR (B.take t):Nat):Int):=fun t=>by unfold posN; rw [Int.toNat_natCast]
 obtain⟨a0,h0,k0⟩:∃a0,B[0]? =some a0∧a0.kind=1:=by
  obtain⟨d,hd,-⟩:=EI (l:=A) (i:=0) (by have:=h.a0; omega)
  have hb:=(h.st.ok.ag 0 h.r0).symm.trans hd
  exact⟨d,by have:=(A5 hb).2; simpa using this,(h.sv 0 d hd).2.2 rfl⟩
 have hv0:=P6 (posN B) B 0 a0 h0 (by omega)
 rw [List.take_zero,AR] at hv0
 refine⟨⟨?_,?_⟩,fun k v hk=>?_,fun p q hp _=>?_⟩
 ·have:=(List.getElem?_eq_some_iff.1 hv0).1; omega
 ·have:=Rf (posN B) B; omega
 ·obtain⟨k1,k2⟩:=A5 hk
  obtain⟨t,a,h1,h2,rfl,h4⟩:=Lc _ _ _ _ k2
  obtain⟨hr,hA⟩:=inR t a h1 h2
  obtain⟨g1,g2⟩:=h.sv _ _ hA
  obtain⟨q1,q2⟩:=Pu (da (posN B) a)
  refine⟨by rw [q1]; exact g1,?_⟩
  rw [q2,g2]
  constructor
  ·intro e
   have:t=0:=by omega
   subst this
   rw [List.take_zero,AR] at h4; omega
  ·intro e
   have:t=0:=UF h1 h0 h2 (by omega) (by rw [← h4,List.take_zero,AR]; omega)
   omega
 ·obtain⟨v,hv,hq⟩:=Aq.1 hp
  obtain⟨k1,k2⟩:=A5 hv
  obtain⟨t,a,h1,h2,rfl,h4⟩:=Lc _ _ _ _ k2
  obtain⟨hr,hA⟩:=inR t a h1 h2
  simp only [rnA] at hq
  rw [Py] at hq
  obtain⟨q0,hq0,rfl⟩:=Option.map_eq_some_iff.1 hq
  have hg:Ab.get A ⟨(t:Int),p.slot⟩=some q0:=Aq.2 ⟨a,hA,hq0⟩
  obtain⟨m1,m2,m3⟩:=h.st.ok.m _ _ hg hr
  obtain⟨b,hb,hbs⟩:=Aq.1 m3
  have hbB:=(h.st.ok.ag _ m1).symm.trans hb
  obtain⟨b1,b2⟩:=A5 hbB
  have kb:b.kind≠0:=fun e=>m1 ((h.st.kinds _ _ hbB).1 e)
  have hpB:=P6 (posN B) B _ b b2 kb
  have e1:posN B q0.agent=((AR (B.take q0.agent.toNat):Nat):Int):=rfl
  have ep:p=⟨((AR (B.take t):Nat):Int),p.slot⟩:=Bw (by simp only; omega) rfl
  refine⟨not_false,fun e=>?_,?_⟩
  ·rw [ep] at e
   have ea:=congrArg Port.agent e
   have es:=congrArg Port.slot e
   simp only [rnP] at ea es
   rw [e1] at ea
   have:=UF b2 h1 kb h2 (by omega)
   exact m2 (Bw (by simp only; omega) es)
  ·refine Aq.2 ⟨rnA (posN B) b,?_,?_⟩
   ·simp only [rnP,e1]
    exact Kq hpB
   ·simp only [rnA,rnP]
    rw [Py,hbs]
    simp only [Option.map_some,rnP,pos]
    exact congrArg some ep.symm
end Go.Proofs.YtckcfdggbbabfaaGreat.Ab
namespace Go.Proofs.YtckcfdggbbabfaaGreat.Ab
set_option linter.unusedVariables false
set_option linter.unusedSimpArgs false
open Go.RowKit
theorem M3:∀l:List Agent,szl (fun a=>a.ports.length) l≤szl Agent.sz l
 | [] =>by simp [szl]
 |a::l=>by
  have:=M3 l
  simp only [szl,Agent.sz]; omega
theorem Net.small_of (n:Net) (h:n.sz≤Big):n.Small:=by
 unfold Net.sz at h
 refine⟨by have:=M3 n.agents; omega,fun a ha=>?_⟩
 have:=IZ (s:=Agent.sz) ha
 unfold Agent.sz at this h; omega
theorem MO (f:Int→Int):∀l:List Agent,(Cd f l).length =AR l
 | [] =>rfl
 |a::l=>by
  rw [Cd,AR]
  split
  ·rw [MO f l]; omega
  ·rw [List.length_cons,MO f l]; omega
theorem Rg (f:Int→Int):∀l:List Agent,(∀a ∈ l,a.kind≠0)→(∀a ∈ l,rnA f a=a)→Cd f l=l
 | [],_,_=>rfl
 |a::l,h,h2=>by
  rw [Cd,if_neg (h a List.mem_cons_self),h2 a List.mem_cons_self,Rg f l (fun b hb=>h b (List.mem_cons_of_mem _ hb)) fun b hb=>h2 b (List.mem_cons_of_mem _ hb)]
theorem VnN.packed {N:Nat} {l:List Agent} (h:VnN N l):Cd (posN l) l=l:=by
 have hk:∀a ∈ l,a.kind≠0:=fun a ha=>by have:=JH (h.mem ha); omega
 refine Rg _ l hk fun a ha=>?_
 have hq:=(h.stt.closed a ha (hk a ha)).2
 have:a.ports.map (rnP (posN l))=a.ports:=by
  refine(List.map_congr_left fun q hq'=>?_).trans (List.map_id _)
  obtain⟨b,hb,-⟩:=hq q hq'
  have hl:=Cf hb
  refine Bw ?_ rfl
  simp only [rnP,posN,id]
  rw [Lb fun b hb=>hk b (List.mem_of_mem_take hb),List.length_take]
  omega
 unfold rnA
 rw [this]
def clsP (A:List Agent) (p:Pair):Int:=match at? A p.a,at? A p.b with
 |some a,some b=>kcl a b
 |_,_=>8
theorem db {a b a' b':Agent} (h:sh a=sh a') (h':sh b=sh b'):kcl a b=kcl a' b':=by
 simp only [sh,Prod.mk.injEq] at h h'
 obtain⟨h1,h2,h3,h4,h5⟩:=h
 obtain⟨k1,k2,k3,k4,k5⟩:=h'
 unfold kcl Cl pcl
 rw [h1,h2,h3,h4,k1,k2,k3,k4]
theorem bV (a b:Agent):1≤kcl a b∧kcl a b≤8:=by
 have h1:=(No a b).1
 have h2:=(No b a).1
 unfold kcl pcl
 repeat' split
 all_goals omega
theorem SN {A:List Agent} {p:Pair} {a b:Agent} (ha:at? A p.a=some a) (hb:at? A p.b=some b):clsP A p=kcl a b:=by unfold clsP; rw [ha,hb]
theorem Xp {A A':List Agent} {new:List Sh} (h:A'.map sh=A.map sh++new) {p:Pair} {a b:Agent} (ha:at? A p.a=some a) (hb:at? A p.b=some b):clsP A' p=clsP A p:=by
 have e1:=Bx (m:=new) (DM ha)
 have e2:=Bx (m:=new) (DM hb)
 rw [← h] at e1 e2
 obtain⟨a',ha',sa⟩:=Ks e1
 obtain⟨b',hb',sb⟩:=Ks e2
 rw [SN ha hb,SN ha' hb',db sa sb]
theorem dc (a b:Int):∃m,F8 a b=some m:=by unfold F8; split <;> exact⟨_,rfl⟩
def SO (bk:List Net):List Pair→List Agent→List (Int × Bool)→Option (Int × Rewriter)
 | [],A,rm=>some (0,⟨⟨A⟩,bk,rm⟩)
 |p::l,A,rm=>Option.bind (Ag ⟨⟨A⟩,bk,rm⟩ p) fun v=>if (!decide (v.1 =0))=true then some v else SO bk l v.2.net.agents v.2.removed
def UG (bk:List Net):List Pair→L15Run→Option (Int × L15Run)
 | [],r=>some (0,r)
 |p::l,r=>Option.bind (GS bk r p) fun v=>if (!decide (v.1 =0))=true then some v else UG bk l v.2
theorem run_both (bk:List Net) (hbk:∀T ∈ bk,Vn T.agents):∀ (post:List Pair) (R:List Int) (A B:List Agent) (tr:List Int) (pk:Int),Vst R A B→(∀p ∈ post,PrW R A p)→post.Pairwise Dj→A.length+600*post.length≤8000000→tr.length+post.length≤Big→
  (∃e r1 r2,e≠0∧SO bk post A (remM R)=some (e,r1)∧UG bk post ⟨⟨B⟩,tr,pk⟩=some (e,r2))∨
  (∃R' A' B' pk',SO bk post A (remM R)=some (0,⟨⟨A'⟩,bk,remM R'⟩)∧UG bk post ⟨⟨B⟩,tr,pk⟩=some (0,⟨⟨B'⟩,tr++post.map (clsP A),pk'⟩)∧Vst R' A' B'∧A'.length≤A.length+600*post.length∧(AR B≤600→AR B'≤600)∧∀p ∈ post,clsP A p≤7):=by
 intro post
 induction post with
 |nil=>
  intro R A B tr pk h hw hd hA ht
  exact .inr ⟨R,A,B,pk,rfl,by simp [UG],h,by simp,fun x=>x,by simp⟩
 | cons x post ih=>
  intro R A B tr pk h hw hd hA ht
  rw [List.length_cons] at hA ht
  obtain⟨a,b,hp,ga,gb,ka,kb⟩:=hw x List.mem_cons_self
  obtain⟨hd1,hd2⟩:=List.pairwise_cons.1 hd
  have h2:Two a b:=⟨Js ga,Js gb,ka,kb⟩
  have hc:clsP A x=kcl a b:=SN hp.hx hp.hy
  have hS:∀ (v:Int × Net),HN bk ⟨B⟩ x.a x.b=some v→GS bk ⟨⟨B⟩,tr,pk⟩ x=(if (!decide (v.1 =0))=true then (some (v.1,(⟨v.2,tr,pk⟩:L15Run))) else Option.bind (app? tr [kcl a b]) fun t=>Option.bind (He v.2) fun q=>Option.bind (F8 pk q) fun m=>some (0,⟨v.2,t,m⟩)):=fun v hv=>by
   unfold GS
   rw [hp.bx h.st.ok,AA,hp.bY h.st.ok,AA,Kt h2,AA,hv,AA]
  rw [SO,UG]
  rcases step h.st hp ga gb ka kb bk hbk (by omega) with ⟨e,h1,h4,h3⟩|⟨u,w,R',A',B',new,huw,⟨hk8,hlv⟩,h4,h3,h5⟩
  ·left
   have h4':Ag ⟨⟨A⟩,bk,remM R⟩ x=some (e,⟨⟨A⟩,bk,remM R⟩):=h4
   rw [h4',hS _ h3,AA,if_pos (by simpa using h1),if_pos (by simpa using h1),AA,if_pos (by simpa using h1)]
   exact⟨e,_,_,h1,rfl,rfl⟩
  ·have h4':Ag ⟨⟨A⟩,bk,remM R⟩ x=some (0,⟨⟨A'⟩,bk,remM R'⟩):=h4
   have hlen:=Jq h5.shp
   rw [List.length_append,List.length_map] at hlen
   have hnl:=h5.nl
   have hlB:=h5.st.ok.len
   have hl':=JI B'
   obtain⟨m,hm⟩:=dc pk ((AR B':Nat):Int)
   have hlive:=WL ⟨B'⟩ (by simp only; unfold Big; omega)
   simp only at hlive
   rw [h4',hS _ h3,AA,if_neg (by simp),if_neg (by simp),DO (by simp; omega),AA,hlive,AA,hm,AA,AA,if_neg (by simp)]
   have hv':Vst R' A' B':=by
    rcases huw with ⟨e1,e2⟩|⟨e1,e2⟩
    ·exact h.next (by rw [e1]; exact hp.hx) (by rw [e2]; exact hp.hy) ka kb h5
    ·exact h.next (by rw [e1]; exact hp.hy) (by rw [e2]; exact hp.hx) kb ka h5
   have hck:∀p ∈ post,clsP A' p=clsP A p:=fun p hp'=>by
    obtain⟨c,d,q,-⟩:=hw p (List.mem_cons_of_mem _ hp')
    exact Xp h5.shp q.hx q.hy
   have hmap:post.map (clsP A')=post.map (clsP A):=List.map_congr_left hck
   have hr:=bV a b
   rcases ih R' A' B' (tr++[kcl a b]) m hv' (fun p hp'=>by
     obtain⟨d1,d2,d3,d4⟩:=hd1 p hp'
     have hk:=hw p (List.mem_cons_of_mem _ hp')
     rcases huw with ⟨e1,e2⟩|⟨e1,e2⟩
     ·exact hk.keep h.st h5 (by rw [e1]; exact d1.symm) (by rw [e2]; exact d3.symm) (by rw [e1]; exact d2.symm) (by rw [e2]; exact d4.symm)
     ·exact hk.keep h.st h5 (by rw [e1]; exact d3.symm) (by rw [e2]; exact d1.symm) (by rw [e1]; exact d4.symm) (by rw [e2]; exact d2.symm)) hd2 (by omega) (by simp; omega) with ⟨e,r1,r2,q1,q2,q3⟩|⟨R2,A2,B2,pk2,q1,q2,q3,q4,q5,q6⟩
   ·exact .inl ⟨e,r1,r2,q1,q2,q3⟩
   ·refine .inr ⟨R2,A2,B2,pk2,q1,?_,q3,by rw [List.length_cons]; omega,fun _=>q5 hlv,fun p hp'=>?_⟩
    ·rw [q2,hmap,List.map_cons,hc,List.append_assoc,List.singleton_append]
    ·rcases List.mem_cons.1 hp' with e|e
     ·rw [e,hc]; omega
     ·rw [← hck p e]; exact q6 p e
theorem VnN.prW {N:Nat} {l:List Agent} (h:VnN N l):∀p ∈ prs 1 (l.drop 1),PrW [] l p:=fun p hp=>VO h hp
theorem bW (bk:List Net) (most bud:Int) (tr0:List Int) (out:List (List Int)) (P:List Pair) (hP:P.length≤Big):∀ (post pre:List Pair) (B:List Agent) (tr:List Int) (pk:Int) (k:Nat),P=pre++post→
  CN (post.length+1+k) bk most bud tr0 out P B tr pk ((List.length pre:Nat):Int)=Option.bind (UG bk post ⟨⟨B⟩,tr,pk⟩) fun w=>if (!decide (w.1 =0))=true then some ([],w.1) else
   Option.bind (cutL w.2.trace ((List.length tr0:Nat):Int) ((List.length w.2.trace :Nat):Int)) fun c=>Option.bind (Gz c) fun o=>Option.bind (app? out [o]) fun q=>Bs k bk most bud w.2.n.agents w.2.trace w.2.peak q:=by
 intro post
 induction post with
 |nil=>
  intro pre B tr pk k h
  rw [show ([] :List Pair).length +1+k=k+1 from by simp; omega,CN,Cv h,if_neg (by simp),UG,AA,if_neg (by simp)]
 | cons x post ih=>
  intro pre B tr pk k h
  rw [show (x::post).length +1+k=(post.length+1+k)+1 from by simp; omega,CN,Ck h,if_pos rfl,Bf h,AA,UG]
  cases hs:GS bk ⟨⟨B⟩,tr,pk⟩ x with
  |none=>rfl
  | some v=>
   rw [AA,AA]
   by_cases h0:v.1 =0
   ·rw [if_neg (by simp [h0]),if_neg (by simp [h0]),BI h hP]
    exact ih (pre++[x]) _ _ _ k (Aj h)
   ·rw [if_pos (by simp [h0]),if_pos (by simp [h0]),AA,if_pos (by simp [h0])]
theorem bX {α:Type} (a b:List α):cutL (a++b) ((List.length a:Nat):Int) ((List.length (a++b):Nat):Int)=some b:=by
 unfold cutL
 rw [if_pos ⟨by omega,by rw [List.length_append]; omega,Int.le_refl _⟩]
 congr 1
 rw [Int.toNat_natCast,List.drop_left,List.take_of_length_le (by rw [List.length_append]; omega)]
theorem Za (l:List Net) (n:Net) (b:Int) (hll:l.length≤Big) (hs:∀T ∈ l,T.Small) (hns:n.Small):∃c,GR l n [] b=some c∧G1 l n [] b=some c∧(c=0→Kz l=true∧n.valid=true∧0≤b∧b≤4000):=by
 unfold GR G1
 rw [Xk l hll hs,Xj l hll hs,AA,AA]
 cases hT:Kz l with
 |false=>exact⟨1,by simp [Dl],by simp [DF],by simp⟩
 | true=>
  rw [if_neg (by simp),if_neg (by simp),WB n hns,WF n hns,AA,AA]
  cases hv:n.valid with
  |false=>exact⟨1,by simp [Dl],by simp [DF],by simp⟩
  | true=>
   have h1:FL [] =some true:=by
    unfold FL
    obtain⟨k,hk⟩:∃q,fuel=q+1:=⟨fuel - 1,by rw [Au]⟩
    rw [if_neg (by simp),hk,C7,if_neg (by simp)]
   have h2:EO [] =some true:=by
    unfold EO
    rw [if_pos (by simp),OG [] _ (fun _=>false) (by simp) (by simp),AA]; rfl
   have h3:∀p,DE l n p=some (if p=true then 2 else 0):=fun p=>by
    unfold DE HO
    cases p with
    |true=>rfl
    |false=>
     rw [if_neg (by simp),T0 l n hns.agents.1 hns.agents.2,AA]
     rfl
   unfold Dl DF
   rw [if_neg (by simp),if_neg (by simp),h1,h2,AA,AA,if_neg (by simp),if_neg (by simp),EQ,AA]
   unfold FM
   by_cases hb:0≤b∧b≤4000
   ·refine⟨0,by simp [hb],?_,fun _=>⟨rfl,rfl,hb⟩⟩
    rw [if_neg (by simp; omega),h3]
    simp; omega
   ·refine⟨2,by simp; omega,?_,by simp⟩
    by_cases hn:b<0
    ·rw [if_pos (by simpa using hn),h3]; rfl
    ·rw [if_neg (by simpa using hn),h3]
     simp; omega
end Go.Proofs.YtckcfdggbbabfaaGreat.Ab
namespace Go.Proofs.YtckcfdggbbabfaaGreat.Ab
set_option linter.unusedVariables false
set_option linter.unusedSimpArgs false
open Go.RowKit
theorem bZ (bk:List Net) (wk b:Int) (V:List Agent) (cnt:Int) (v:Rewriter) (hv:v.book=bk) (P:List Pair) (hP:P.length≤Big):∀ (post pre:List Pair) (A:List Agent) (rm:List (Int × Bool)) (k:Nat),P=pre++post→
  Bb (post.length+1+k) bk wk b V cnt P v A rm ((List.length pre:Nat):Int)=Option.bind (SO bk post A rm) fun w=>if (!decide (w.1 =0))=true then some (0,w.1) else
   Option.bind (Bk ⟨w.2.net,bk,w.2.removed⟩) fun u=>Option.bind (Ei u) fun ps=>BC k bk wk (IntKind.i64.wrap (b - ((List.length P:Nat):Int))) u.agents (IntKind.i64.wrap (cnt+1)) ps:=by
 subst hv
 intro post
 induction post with
 |nil=>
  intro pre A rm k h
  rw [show ([] :List Pair).length +1+k=k+1 from by simp; omega,Bb,Cv h,if_neg (by simp),SO,AA,if_neg (by simp)]
 | cons x post ih=>
  intro pre A rm k h
  rw [show (x::post).length +1+k=(post.length+1+k)+1 from by simp; omega,Bb,Ck h,if_pos rfl,Bf h,AA,SO]
  cases hs:Ag ⟨⟨A⟩,v.book,rm⟩ x with
  |none=>rfl
  | some w=>
   rw [AA,AA]
   by_cases h0:w.1 =0
   ·rw [if_neg (by simp [h0]),if_neg (by simp [h0]),BI h hP]
    exact ih (pre++[x]) _ _ k (Aj h)
   ·rw [if_pos (by simp [h0]),if_pos (by simp [h0]),AA,if_pos (by simp [h0])]
theorem P7 {α:Type} (l:List α) {w:Int} (h0:0≤w) (h1:w≤(l.length:Int)):cutL l 0 w=some (l.take w.toNat):=by
 unfold cutL
 rw [if_pos ⟨by omega,h0,h1⟩]
 simp
theorem UH (bk:List Net) (hbk:∀T ∈ bk,Vn T.agents) (wk:Int) (hwk:1≤wk∧wk≤64) (bud:Int) (hb:0≤bud∧bud≤4000):∀ (m k k':Nat) (V B:List Agent) (tr:List Int) (pk:Int) (out:List (List Int)),Vn V→Fj ⟨B⟩=some ⟨V⟩→(tr.length:Int)≤bud→bud - (tr.length:Int)<(m:Int)→700*m≤k→700*m≤k'→out.length≤tr.length→
  (∃e,e≠0∧Bs k bk wk bud B tr pk out=some ([],e)∧BC k' bk wk (bud - (tr.length:Int)) V (out.length:Int) (prs 1 (V.drop 1))=some (0,e))∨
  (∃L,Bs k bk wk bud B tr pk out=some (L,0)∧BC k' bk wk (bud - (tr.length:Int)) V (out.length:Int) (prs 1 (V.drop 1))=some ((L.length:Int),0)):=by
 intro m
 induction m with
 |zero=>intro k k' V B tr pk out hV hpk ht hm hk hk' ho; omega
 | succ m ih=>
  intro k k' V B tr pk out hV hpk ht hm hk hk' ho
  have hVl:=hV.len
  have hpl:=WM (V.drop 1) 1
  rw [List.length_drop] at hpl
  have hw:=hV.prW
  have hd:=ZZ hV
  have hsp:GQ ⟨V⟩=some (prs 1 (V.drop 1)):=Xf ⟨V⟩ hV (by omega)
  generalize prs 1 (V.drop 1)=P0 at*
  obtain⟨P,hPd⟩:∃P,P=P0.take wk.toNat:=⟨_,rfl⟩
  have hPl:P.length=min wk.toNat P0.length:=by rw [hPd,List.length_take]
  have hPw:∀p ∈ P,PrW [] V p:=fun p hp=>hw p (List.mem_of_mem_take (by rw [← hPd]; exact hp))
  have hPdj:P.Pairwise Dj:=by rw [hPd]; exact hd.sublist (List.take_sublist _ _)
  obtain⟨k2,rfl⟩:∃q,k=(P.length+1+q)+1+1:=⟨k - P.length - 3,by omega⟩
  obtain⟨k2',rfl⟩:∃q,k'=(P.length+1+q)+1:=⟨k' - P.length - 2,by omega⟩
  rw [Bs,hpk,AA,hsp,AA,BC]
  by_cases h0:P0.length=0
  ·rw [if_pos (by simp [h0]),if_neg (by simp [h0])]
   exact .inr ⟨out,rfl,rfl⟩
  ·have hsJ:(if decide (wk<((List.length P0:Nat):Int))=true then Option.bind (cutL P0 0 wk) fun v=>CC (P.length+1+k2+1) bk wk bud tr pk out ⟨V⟩ v else CC (P.length+1+k2+1) bk wk bud tr pk out ⟨V⟩ P0)=CC (P.length+1+k2+1) bk wk bud tr pk out ⟨V⟩ P:=by
    by_cases h:wk<((List.length P0:Nat):Int)
    ·rw [if_pos (by simpa using h),P7 P0 (by omega) (by omega),AA,hPd]
    ·rw [if_neg (by simpa using h),hPd,List.take_of_length_le (by omega)]
   have hiC:cutL P0 0 (if wk<((List.length P0:Nat):Int) then wk else ((List.length P0:Nat):Int))=some P:=by
    by_cases h:wk<((List.length P0:Nat):Int)
    ·rw [if_pos h,P7 P0 (by omega) (by omega),hPd]
    ·rw [if_neg h,P7 P0 (by omega) (by omega),hPd,List.take_of_length_le (by omega),List.take_of_length_le (by omega)]
   rw [if_neg (by simp; intro e; exact h0 (by rw [e]; rfl)),hsJ,if_pos (by simp; omega),hiC,AA,CC,w64 (by omega) (by omega),w64 (by omega) (by omega)]
   by_cases h1:bud<(tr.length:Int)+(P.length:Int)
   ·rw [if_pos (by simpa using h1),if_pos (by simp; omega)]
    exact .inl ⟨12,by omega,rfl,rfl⟩
   ·rw [if_neg (by simpa using h1),if_neg (by simp; omega),T0 bk ⟨V⟩ (by simp only; unfold Big; omega) hV.small,AA]
    have hS:=bW bk wk bud tr out P (by unfold Big; omega) P [] V tr pk k2 rfl
    have hI:=bZ bk wk (bud - (tr.length:Int)) V (out.length:Int) ⟨⟨V⟩,bk,[]⟩ rfl P (by unfold Big; omega) P [] V [] k2' rfl
    simp only [List.length_nil,Int.natCast_zero] at hS hI
    rw [hS,hI]
    rcases run_both bk hbk P [] V V tr pk hV.vst hPw hPdj (by omega) (by unfold Big; omega) with ⟨e,r1,r2,q0,q1,q2⟩|⟨R',A',B',pk',q1,q2,q3,q4,q5,q6⟩
    ·have q1':SO bk P V [] =some (e,r1):=q1
     rw [q1',q2,AA,AA,if_pos (by simpa using q0),if_pos (by simpa using q0)]
     exact .inl ⟨e,q0,rfl,rfl⟩
    ·have q1':SO bk P V [] =some (0,⟨⟨A'⟩,bk,remM R'⟩):=q1
     have hlB:=q3.st.ok.len
     obtain⟨z1,z2⟩:=q3.st.result (by omega) bk
     have hliv:=q5 (by have:=JI V; omega)
     have hV':Vn (Cd (posN B') B'):=by
      have h:=q3.pack (N:=B'.length) (Nat.le_refl _)
      exact⟨⟨h.len.1,by rw [MO]; exact hliv⟩,h.ag,h.m⟩
     have z1':Bk ⟨(⟨⟨A'⟩,bk,remM R'⟩:Rewriter).net,bk,(⟨⟨A'⟩,bk,remM R'⟩:Rewriter).removed⟩=some ⟨Cd (posN B') B'⟩:=z1
     rw [q1',q2,AA,AA,if_neg (by simp),if_neg (by simp)]
     simp only
     rw [z1,AA,bX,AA,VE _ (by rw [List.length_map]; unfold Big; omega),AA,DO (by simp; unfold Big; omega),AA,Re ⟨Cd (posN B') B'⟩ hV' (by omega),AA,w64 (by omega) (by omega),w64 (by omega) (by omega)]
     have:=ih k2 k2' (Cd (posN B') B') B' (tr++P.map (clsP V)) pk' (out++[P.map (clsP V)]) hV' z2 (by rw [List.length_append,List.length_map]; omega) (by rw [List.length_append,List.length_map]; omega) (by omega) (by omega) (by rw [List.length_append,List.length_append,List.length_map,List.length_singleton]; omega)
     rw [List.length_append,List.length_append,List.length_map,List.length_singleton,show bud - ((tr.length+P.length:Nat):Int)=bud - (tr.length:Int) - (P.length:Int) from by omega,show ((out.length+1:Nat):Int)=(out.length:Int)+1 from by omega] at this
     exact this
theorem M4 (l:List Net) (n:Net) (wk b:Int) (hl:szl Net.sz l≤1048576) (hn:n.sz≤1048576):∃r,Ew l n wk b=some r∧Ex l n wk b=some r∧True:=by
 have hs:∀T ∈ l,T.Small:=fun T hT=>Net.small_of T (by have:=IZ (s:=Net.sz) hT; unfold Big; omega)
 have hll:l.length≤Big:=by have:=HP Net.sz l; unfold Big; omega
 have hns:n.Small:=Net.small_of n (by unfold Big; omega)
 obtain⟨c,c1,c2,c3⟩:=Za l n b hll hs hns
 unfold Ew Ex
 rw [c1,c2,AA,AA]
 by_cases h0:c=0
 ·obtain⟨hT,hv,hb⟩:=c3 h0
  have hbk:=Xl hT
  have hV:=Net.valid_vn hv
  have hVl:=hV.len
  rw [if_pos (by simp [h0]),if_neg (by simp [h0]),EQ,AA]
  by_cases hwk:1≤wk∧wk≤64
  ·have e1:(!decide (1≤wk∧wk≤64))=false:=by simp [hwk]
   have e2:decide (64<wk)=false:=by simp; omega
   rw [e1,e2,if_neg (by simp; omega)]
   unfold CG CF Da
   rw [if_neg (by simp),if_neg (by simp [h0]),if_neg (by simp),Re n hV (by omega),AA]
   unfold IX
   rw [c1,AA,if_neg (by simp [h0])]
   unfold Jj
   rw [ZT n hns.agents.1 hns.agents.2,AA,AA]
   have hpk:Fj ⟨n.agents⟩=some ⟨n.agents⟩:=by
    have:=(hV.stt.result (by omega) l).2
    rwa [hV.packed] at this
   have:=UH l hbk wk hwk b hb 4001 fuel fuel n.agents n.agents [] ((List.length n.agents:Nat):Int) [] hV hpk (by simp; omega) (by simp; omega) (by rw [Au]; omega) (by rw [Au]; omega) (by simp)
   simp only [List.length_nil,Int.natCast_zero,Int.sub_zero] at this
   rcases this with ⟨e,e1,e2,e3⟩|⟨L,e2,e3⟩
   ·simp only
    rw [e2,e3,AA,if_pos (by simpa using e1)]
    exact⟨_,rfl,rfl,trivial⟩
   ·simp only
    rw [e2,e3,AA,if_neg (by simp)]
    exact⟨_,rfl,rfl,trivial⟩
  ·have e1:(!decide (1≤wk∧wk≤64))=true:=by simp; omega
   rw [e1]
   refine⟨(0,2),by simp [CG,CF],?_,trivial⟩
   by_cases hw:wk<1
   ·rw [if_pos (by simpa using hw)]; rfl
   ·rw [if_neg (by simpa using hw),show decide (64<wk)=true from by simp; omega]; rfl
 ·rw [if_neg (by simpa using h0),if_pos (by simpa using h0)]
  refine⟨(0,c),?_,rfl,trivial⟩
  unfold CG CF
  rw [if_neg (by simp),if_pos (by simpa using h0)]
end Go.Proofs.YtckcfdggbbabfaaGreat.Ab
namespace Go.Proofs.YtckcfdggbbabfaaGreat.Ab
set_option linter.unusedVariables false
set_option linter.unusedSimpArgs false
open Go.RowKit
theorem WP {α:Type} {f:α→List D} {l:List α} (h:IL (slD f l)):l.length≤9223372036854775807∧∀e ∈ l,IL (f e):=by
 simp only [slD,IL,D.ok,List.length_map,and_true] at h
 exact⟨h.1,fun e he=>Kk h.2 he⟩
theorem MK (a0:List Net) (h0:IL ((slD Net.ds a0))) (a1:Net) (h1:IL (Net.ds a1)) (a2:Int) (w2:(Lit.int IntKind.i64 a2).wf =true) (a3:Int) (w3:(Lit.int IntKind.i64 a3).wf =true):DL a0 a1 a2 a3=some true:=by
 unfold DL
 refine ZA (Xn a0 (WP h0).1 (fun e he=>Net.ok_of e ((WP h0).2 e he)) (1048576) (by omega)) fun z0=>?_
 refine ZA (UD a1 (Net.ok_of a1 h1) (1048576 - szl Net.sz a0) (by omega)) fun z1=>?_
 have b0:szl Net.sz a0≤Big:=by unfold Big; omega
 have b1:a1.sz≤Big:=by unfold Big; omega
 obtain⟨r,hs,hi,hr⟩:=M4 a0 a1 a2 a3 (by omega) (by omega)
 have ft0:G2 a0=some a0:=Xo a0 b0
 have fe0:JB a0 a0=some true:=(SL a0 a0 b0).true rfl
 have ft1:Gg a1=some a1:=UE a1 b1
 have fe1:IY a1 a1=some true:=(OI a1 a1 b1).true rfl
 simp only [AA,hs,hi,ft0,fe0,ft1,fe1,Bv,R4,beq_self_eq_true,j5,eq_self,decide_true,decide_false,Bool.not_true,Bool.not_false,Bool.false_eq_true,reduceIte]
end Go.Proofs.YtckcfdggbbabfaaGreat.Ab
