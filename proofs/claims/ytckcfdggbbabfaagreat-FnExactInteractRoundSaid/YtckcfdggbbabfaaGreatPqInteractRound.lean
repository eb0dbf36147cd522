/-
  Both sides of Interact give the same. No program is in sight.
-/
import Derived.Test.YtckcfdggbbabfaaGreatPlRs
import Derived.Test.YtckcfdggbbabfaaGreatPlTU
import Derived.Test.YtckcfdggbbabfaaGreatModK
import Derived.Test.YtckcfdggbbabfaaGreatPlNet
import Derived.Test.YtckcfdggbbabfaaGreatAbZ
namespace Go.Proofs.YtckcfdggbbabfaaGreat.Ab
set_option linter.unusedVariables false
set_option linter.unusedSimpArgs false
open Go.RowKit
theorem M5:∀l:List Agent,szl (fun a=>a.ports.length) l≤szl Agent.sz l
 | [] =>by simp [szl]
 |a::l=>by
  have:=M5 l
  simp only [szl,Agent.sz]; omega
theorem Net.small_of (n:Net) (h:n.sz≤Big):n.Small:=by
 unfold Net.sz at h
 refine⟨by have:=M5 n.agents; omega,fun a ha=>?_⟩
 have:=GG (s:=Agent.sz) ha
 unfold Agent.sz at this h; omega
theorem T4 (f:Int→Int):∀l:List Agent,(∀a ∈ l,a.kind≠0→a.ports.length≤4∧a.data.length≤4)→szl Agent.sz (GJ f l)≤9*l.length
 | [],_=>by simp [GJ,szl]
 | a::l,h=>by
  have:=T4 f l fun b hb=>h b (List.mem_cons_of_mem _ hb)
  rw [GJ,List.length_cons]
  split
  ·omega
  ·rename_i h0
   have h1:=h a List.mem_cons_self h0
   simp only [szl,Agent.sz,rnA,List.length_map]
   omega
theorem Vn.stt {l:List Agent} (h:Vn l):Stt [] l l:=by
 have hk:∀a ∈ l,a.kind≠0:=fun a ha=>by have:=Kr (h.mem ha); omega
 refine⟨⟨rfl,fun _ _=>rfl,fun k hk=>by simp at hk,h.m.mono fun p=>by simp,fun p hp=>hp⟩,by rw [Nn hk]; rfl,fun a ha=>?_⟩
 have g:=h.mem ha
 exact⟨Kq g,(CK g).2,hk a ha⟩
end Go.Proofs.YtckcfdggbbabfaaGreat.Ab
namespace Go.Proofs.YtckcfdggbbabfaaGreat.Ab
set_option linter.unusedVariables false
set_option linter.unusedSimpArgs false
open Go.RowKit
theorem P8:∀ (l:List Agent) (i:Nat),(prs i l).Pairwise (fun p q=>p.a<q.a)∧∀p ∈ prs i l,(i:Int)≤p.a
 | [],i=>by simp [prs]
 | a::l,i=>by
  obtain⟨h1,h2⟩:=P8 l (i+1)
  have h3:∀p ∈ pr1 i a,p.a=(i:Int):=fun p hp=>by
   unfold pr1 at hp
   split at hp
   ·split at hp
    ·rw [List.mem_singleton] at hp; subst hp; rfl
    ·cases hp
   ·cases hp
  have h4:(pr1 i a).Pairwise (fun p q=>p.a<q.a):=by
   unfold pr1
   split
   ·split
    ·exact List.pairwise_singleton _ _
    ·exact List.Pairwise.nil
   ·exact List.Pairwise.nil
  rw [prs]
  refine⟨List.pairwise_append.2 ⟨h4,h1,fun p hp q hq=>?_⟩,fun p hp=>?_⟩
  ·have:=h3 p hp
   have:=h2 q hq; omega
  ·rcases List.mem_append.1 hp with e|e
   ·have:=h3 p e; omega
   ·have:=h2 p e; omega
def Dj (p q:Pair):Prop:=p.a≠q.a∧p.a≠q.b∧p.b≠q.a∧p.b≠q.b
theorem ZY {l:List Agent} (h:Vn l):(prs 1 (l.drop 1)).Pairwise Dj:=by
 refine List.Pairwise.imp_of_mem (fun {p q} hp hq hlt=>?_) (P8 (l.drop 1) 1).1
 have hab:∀p ∈ prs 1 (l.drop 1),p.a<p.b:=fun p hp=>by
  obtain⟨j,a,v,h1,h2,h3,h4,h5⟩:=SE _ _ _ hp
  rw [h4] at h5 ⊢; exact h5
 obtain⟨a,b,P1,-⟩:=VF h hp
 obtain⟨c,d,P2,-⟩:=VF h hq
 have w1:=(h.m _ _ P1.w not_false).2.2
 have w2:=(h.m _ _ P2.w not_false).2.2
 have p1:=P1.w
 have p2:=P2.w
 have l1:=hab p hp
 have l2:=hab q hq
 have inj:∀ {u v:Int} {s:Port},Ab.get l s=some ⟨u,0⟩→Ab.get l s=some ⟨v,0⟩→u=v:=fun h1 h2=>by
  rw [h1] at h2
  exact congrArg Port.agent (Option.some.inj h2)
 refine⟨by omega,fun e=>?_,fun e=>?_,fun e=>?_⟩
 ·rw [← e] at w2
  have:=inj p1 w2; omega
 ·rw [e] at w1
  have:=inj w1 p2; omega
 ·rw [e] at w1
  have:=inj w1 w2; omega
theorem ZZ {a b:Agent} (h:sh a=sh b):agB a=agB b∧a.kind=b.kind:=by
 simp only [sh,Prod.mk.injEq] at h
 obtain⟨h1,h2,h3,h4,h5⟩:=h
 refine⟨?_,h1⟩
 unfold agB Mu
 rw [h1,h2,h3,h4,h5]
def PrW (R:List Int) (A:List Agent) (p:Pair):Prop:=∃a b,Pr (fun k=>k ∈ R) A p.a p.b a b∧agB a=true∧agB b=true∧a.kind≠1∧b.kind≠1
theorem PrW.keep {R:List Int} {A B:List Agent} (hst:Stt R A B) {x y:Int} {R':List Int} {A' B':List Agent} {new:List Sh} (ho:Outc R A x y R' A' B' new) {p:Pair} (h:PrW R A p) (n1:p.a≠x) (n2:p.a≠y) (n3:p.b≠x) (n4:p.b≠y):PrW R' A' p:=by
 obtain⟨a,b,hp,ga,gb,ka,kb⟩:=h
 have e1:=CX (m:=new) (EX hp.hx)
 have e2:=CX (m:=new) (EX hp.hy)
 rw [← ho.shp] at e1 e2
 obtain⟨a',ha',sa⟩:=My e1
 obtain⟨b',hb',sb⟩:=My e2
 obtain⟨q1,q2⟩:=ZZ sa
 obtain⟨q3,q4⟩:=ZZ sb
 have r1:p.a ∉ R':=fun e=>by
  rcases (ho.mem _).1 e with e|e|e
  ·exact hp.sx e
  ·exact n1 e
  ·exact n2 e.1
 have r2:p.b ∉ R':=fun e=>by
  rcases (ho.mem _).1 e with e|e|e
  ·exact hp.sy e
  ·exact n3 e
  ·exact n4 e.1
 exact⟨a',b',⟨ha',hb',ho.fr _ _ hp.w (hst.ok.m _ _ hp.w hp.sx).2.2 r1 r2,r1,r2⟩,by rw [q1]; exact ga,by rw [q3]; exact gb,by rw [q2]; exact ka,by rw [q4]; exact kb⟩
theorem VN (v:Rewriter) (P:List Pair) (hbk:∀T ∈ v.book,Vn T.agents) (hP:P.length≤600):∀ (post pre:List Pair) (R:List Int) (A B:List Agent) (m m':Nat),P=pre++post→Stt R A B→(∀p ∈ post,PrW R A p)→post.Pairwise Dj→A.length+600*post.length≤1000000→post.length<m→post.length<m'→
  ∃r,BV m v P A (remM R) ((List.length pre:Nat):Int)=some r∧BU m' v.book P B ((List.length pre:Nat):Int)=some r∧r.1.sz ≤Big:=by
 intro post
 induction post with
 |nil=>
  intro pre R A B m m' h hst hw hd hA hm hm'
  obtain⟨m,rfl⟩:∃q,m=q+1:=⟨m - 1,by omega⟩
  obtain⟨m',rfl⟩:∃q,m'=q+1:=⟨m' - 1,by omega⟩
  obtain⟨r1,r2⟩:=hst.result (by omega) v.book
  rw [BV,BU,DT h,if_neg (by simp),if_neg (by simp),r1,r2,AA]
  refine⟨_,rfl,rfl,?_⟩
  have hz:=T4 (posN B) B fun a ha hk=>(hst.closed a ha hk).1
  have hle:=hst.ok.len
  simp only [Net.sz]
  unfold Big; omega
 | cons x post ih=>
  intro pre R A B m m' h hst hw hd hA hm hm'
  rw [List.length_cons] at hm hm' hA
  obtain⟨m,rfl⟩:∃q,m=q+1:=⟨m - 1,by omega⟩
  obtain⟨m',rfl⟩:∃q,m'=q+1:=⟨m' - 1,by omega⟩
  have hPB:P.length≤Big:=by unfold Big; omega
  obtain⟨a,b,hp,ga,gb,ka,kb⟩:=hw x List.mem_cons_self
  obtain⟨hd1,hd2⟩:=List.pairwise_cons.1 hd
  rw [BV,BU,if_pos (Cm h),if_pos (Cm h),Bq h,AA,AA,AA]
  rcases step hst hp ga gb ka kb v.book hbk (by omega) with ⟨e,h1,h2,h3⟩|⟨u,w,R',A',B',new,huw,h2,h3,h4⟩
  ·have h2':A6 ⟨⟨A⟩,v.book,remM R⟩ x=some (e,⟨⟨A⟩,v.book,remM R⟩):=h2
   rw [h2',h3,AA,AA,if_pos (by simpa using h1),if_pos (by simpa using h1)]
   exact⟨_,rfl,rfl,by simp [Net.sz,szl]⟩
  ·have h2':A6 ⟨⟨A⟩,v.book,remM R⟩ x=some (0,⟨⟨A'⟩,v.book,remM R'⟩):=h2
   have hlen:=Px h4.shp
   rw [List.length_append,List.length_map] at hlen
   have hnl:=h4.nl
   rw [h2',h3,AA,AA,if_neg (by simp),if_neg (by simp),BO h hPB]
   refine ih (pre++[x]) R' A' B' m m' (Ao h) h4.st (fun p hp'=>?_) hd2 (by omega) (by omega) (by omega)
   obtain⟨d1,d2,d3,d4⟩:=hd1 p hp'
   have hk:=hw p (List.mem_cons_of_mem _ hp')
   rcases huw with ⟨e1,e2⟩|⟨e1,e2⟩
   ·exact hk.keep hst h4 (by rw [e1]; exact d1.symm) (by rw [e2]; exact d3.symm) (by rw [e1]; exact d2.symm) (by rw [e2]; exact d4.symm)
   ·exact hk.keep hst h4 (by rw [e1]; exact d3.symm) (by rw [e2]; exact d1.symm) (by rw [e1]; exact d4.symm) (by rw [e2]; exact d2.symm)
theorem MF (l:List Net) (n:Net) (hl:szl Net.sz l≤1048576) (hn:n.sz≤1048576):∃r,ET l n=some r∧DZ l n=some r∧r.1.sz ≤Big:=by
 have hs:∀T ∈ l,T.Small:=fun T hT=>Net.small_of T (by have:=GG (s:=Net.sz) hT; unfold Big; omega)
 have hll:l.length≤Big:=by have:=FQ Net.sz l; unfold Big; omega
 have hns:n.Small:=Net.small_of n (by unfold Big; omega)
 have h0:∀c d:Int,((⟨[]⟩:Net),c,d).1.sz ≤Big:=fun c d=>by simp [Net.sz,szl]
 unfold ET DZ
 rw [Xf l hll hs,Xe l hll hs,AA,AA]
 cases hT:MC l with
 |false=>exact⟨(⟨[]⟩,0,1),by simp [B9],by simp [CA],h0 0 1⟩
 | true=>
  rw [if_neg (by simp),if_neg (by simp),V6 n hns,WA n hns,AA,AA]
  cases hv:n.valid with
  |false=>exact⟨(⟨[]⟩,0,1),by simp [B9],by simp [CA],h0 0 1⟩
  |true=>
   have hbk:=Xg hT
   have hV:=Net.valid_vn hv
   have hVl:=hV.len
   have hpl:=WG (n.agents.drop 1) 1
   rw [List.length_drop] at hpl
   unfold B9 CA FO
   rw [if_neg (by simp),if_neg (by simp),ZO n hns.agents.1 hns.agents.2,ZP l n hns.agents.1 hns.agents.2,XZ n hV,Xa n hV]
   simp only [AA]
   obtain⟨r,r1,r2,r3⟩:=VN ⟨n,l,[]⟩ (prs 1 (n.agents.drop 1)) hbk (by omega) (prs 1 (n.agents.drop 1)) [] [] n.agents n.agents fuel fuel rfl hV.stt (fun p hp=>VF hV hp) (ZY hV) (by omega) (by rw [Aw]; omega) (by rw [Aw]; omega)
   have r1':BV fuel ⟨n,l,[]⟩ (prs 1 (n.agents.drop 1)) n.agents [] 0=some r:=r1
   have r2':BU fuel l (prs 1 (n.agents.drop 1)) n.agents 0=some r:=r2
   rw [r1',r2',AA]
   exact⟨r,rfl,rfl,r3⟩
end Go.Proofs.YtckcfdggbbabfaaGreat.Ab
namespace Go.Proofs.YtckcfdggbbabfaaGreat.Ab
set_option linter.unusedVariables false
set_option linter.unusedSimpArgs false
open Go.RowKit
theorem WK {α:Type} {f:α→List D} {l:List α} (h:IR (slD f l)):l.length≤9223372036854775807∧∀e ∈ l,IR (f e):=by
 simp only [slD,IR,D.ok,List.length_map,and_true] at h
 exact⟨h.1,fun e he=>Kh h.2 he⟩
theorem LV (a0:List Net) (h0:IR ((slD Net.ds a0))) (a1:Net) (h1:IR (Net.ds a1)):C3 a0 a1=some true:=by
 unfold C3
 refine Y4 (Xi a0 (WK h0).1 (fun e he=>Net.ok_of e ((WK h0).2 e he)) (1048576) (by omega)) fun z0=>?_
 refine Y4 (Tz a1 (Net.ok_of a1 h1) (1048576 - szl Net.sz a0) (by omega)) fun z1=>?_
 have b0:szl Net.sz a0≤Big:=by unfold Big; omega
 have b1:a1.sz≤Big:=by unfold Big; omega
 obtain⟨r,hs,hi,hr⟩:=MF a0 a1 (by omega) (by omega)
 have ft0:F5 a0=some a0:=Xj a0 b0
 have fe0:I9 a0 a0=some true:=(SH a0 a0 b0).true rfl
 have ft1:F6 a1=some a1:=T0 a1 b1
 have fe1:FP a1 a1=some true:=(Kv a1 a1 b1).true rfl
 have br0:=hr
 have ge0:FP r.1 r.1 =some true:=(Kv r.1 r.1 br0).true rfl
 have fm0:Gb a0 1=some (((1+cnts Net.cnt a0:Nat):Int),mks Net.mk1 Net.cnt (1) a0):=T3 a0 (1) b0 (by have:=M3 (c:=Net.cnt) (s:=Net.sz) (l:=a0) (fun x=>Net.cnt_le x); have:=b0; unfold Big KB at*; omega)
 have fm1:Fh a1 ((1+cnts Net.cnt a0:Nat):Int)=some (((1+cnts Net.cnt a0+a1.cntV:Nat):Int),(Net.mkV (1+cnts Net.cnt a0) a1).agents):=P7 a1 (1+cnts Net.cnt a0) b1 (by have:=M3 (c:=Net.cnt) (s:=Net.sz) (l:=a0) (fun x=>Net.cnt_le x); have:=b0; have:=Net.cntV_le a1; have:=b1; unfold Big KB at*; omega)
 have gm0:Fh r.1 1=some (((1+r.1.cntV :Nat):Int),(Net.mkV (1) r.1).agents):=P7 r.1 (1) br0 (by have:=Net.cntV_le r.1; have:=br0; unfold Big KB at*; omega)
 have gh0:Ga ⟨(Net.mkV (1) r.1).agents⟩ 1=some (((1+r.1.cntV :Nat):Int)):=VM r.1 (1) br0 (by have:=Net.cntV_le r.1; have:=br0; unfold Big KB at*; omega)
 simp only [AA,hs,hi,ft0,fe0,ft1,fe1,ge0,fm0,fm1,gm0,gh0,BP,A8,BQ,Rz,beq_self_eq_true,ZV,eq_self,decide_true,decide_false,Bool.not_true,Bool.not_false,Bool.false_eq_true,reduceIte]
end Go.Proofs.YtckcfdggbbabfaaGreat.Ab
