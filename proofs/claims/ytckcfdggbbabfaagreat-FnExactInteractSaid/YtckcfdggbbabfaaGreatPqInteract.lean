/-
  Both sides of Interact give the same. No program is in sight.
-/
import Derived.Test.YtckcfdggbbabfaaGreatPlRs
import Derived.Test.YtckcfdggbbabfaaGreatPlTU
import Derived.Test.YtckcfdggbbabfaaGreatModI
import Derived.Test.YtckcfdggbbabfaaGreatPlNet
import Derived.Test.YtckcfdggbbabfaaGreatAbZ
namespace Go.Proofs.YtckcfdggbbabfaaGreat.Ab
set_option linter.unusedVariables false
set_option linter.unusedSimpArgs false
open Go.RowKit
theorem M1:∀l:List Agent,szl (fun a=>a.ports.length) l≤szl Agent.sz l
 | [] =>by simp [szl]
 |a::l=>by
  have:=M1 l
  simp only [szl,Agent.sz]; omega
theorem Net.small_of (n:Net) (h:n.sz≤Big):n.Small:=by
 unfold Net.sz at h
 refine⟨by have:=M1 n.agents; omega,fun a ha=>?_⟩
 have:=GD (s:=Agent.sz) ha
 unfold Agent.sz at this h; omega
theorem UB (f:Int→Int):∀l:List Agent,(∀a ∈ l,a.kind≠0→a.ports.length≤4∧a.data.length≤4)→szl Agent.sz (GG f l)≤9*l.length
 | [],_=>by simp [GG,szl]
 | a::l,h=>by
  have:=UB f l fun b hb=>h b (List.mem_cons_of_mem _ hb)
  rw [GG,List.length_cons]
  split
  ·omega
  ·rename_i h0
   have h1:=h a List.mem_cons_self h0
   simp only [szl,Agent.sz,rnA,List.length_map]
   omega
theorem Vn.stt {l:List Agent} (h:Vn l):Stt [] l l:=by
 have hk:∀a ∈ l,a.kind≠0:=fun a ha=>by have:=Kq (h.mem ha); omega
 refine⟨⟨rfl,fun _ _=>rfl,fun k hk=>by simp at hk,h.m.mono fun p=>by simp,fun p hp=>hp⟩,by rw [Nj hk]; rfl,fun a ha=>?_⟩
 have g:=h.mem ha
 exact⟨Kp g,(CH g).2,hk a ha⟩
theorem Qe (l:List Net) (n:Net) (i:Int) (hl:szl Net.sz l≤1048576) (hn:n.sz≤1048576):∃r,Hz l n i=some r∧GW l n i=some r∧r.1.sz ≤Big:=by
 have hs:∀T ∈ l,T.Small:=fun T hT=>Net.small_of T (by have:=GD (s:=Net.sz) hT; unfold Big; omega)
 have hll:l.length≤Big:=by have:=FJ Net.sz l; unfold Big; omega
 have hns:n.Small:=Net.small_of n (by unfold Big; omega)
 have h0:∀c:Int,((⟨[]⟩:Net),c).1.sz ≤Big:=fun c=>by simp [Net.sz,szl]
 unfold Hz GW
 rw [Xv l hll hs,Xu l hll hs,AA,AA]
 cases hT:MG l with
 |false=>exact⟨(⟨[]⟩,1),by simp,by simp,h0 1⟩
 | true=>
  rw [if_neg (by simp),if_neg (by simp)]
  have hbk:=Xw hT
  obtain⟨p,e1,e2,e3⟩:=Xq n hns i
  rw [e1,e2,AA,AA]
  by_cases hp:p.2 =0
  ·rw [if_neg (by simp [hp]),if_neg (by simp [hp])]
   obtain⟨hv,hm⟩:=e3 hp
   have hV:=Net.valid_vn hv
   have hVl:=hV.len
   rw [Zs n hns.agents.1 hns.agents.2,Zt l n hns.agents.1 hns.agents.2,AA,AA]
   obtain⟨a,b,hP,ga,gb,ka,kb⟩:=eY hV hm
   have hst:=hV.stt
   rcases step hst hP ga gb ka kb l hbk (by omega) with ⟨e,h1,h2,h3⟩|⟨x,y,R',A',B',new,-,h2,h3,h4⟩
   ·have h2':A7 ⟨n,l,[]⟩ p.1 =some (e,⟨n,l,[]⟩):=h2
    have h3':Gm l n p.1.a p.1.b =some (e,n):=h3
    rw [h2',h3',AA,AA,if_pos (by simpa using h1),if_pos (by simpa using h1)]
    exact⟨_,rfl,rfl,h0 e⟩
   ·have h2':A7 ⟨n,l,[]⟩ p.1 =some (0,⟨⟨A'⟩,l,remM R'⟩):=h2
    have h3':Gm l n p.1.a p.1.b =some (0,⟨B'⟩):=h3
    rw [h2',h3',AA,AA,if_neg (by simp),if_neg (by simp)]
    have hlen:=Px h4.shp
    rw [List.length_append,List.length_map] at hlen
    have hnl:=h4.nl
    obtain⟨r1,r2⟩:=h4.st.result (by omega) l
    simp only
    rw [r1,r2,AA]
    refine⟨_,rfl,rfl,?_⟩
    have hz:=UB (posN B') B' fun a ha hk=>(h4.st.closed a ha hk).1
    have hle:=h4.st.ok.len
    simp only [Net.sz]
    unfold Big; omega
  ·rw [if_pos (by simpa using hp),if_pos (by simpa using hp)]
   exact⟨_,rfl,rfl,h0 p.2⟩
end Go.Proofs.YtckcfdggbbabfaaGreat.Ab
namespace Go.Proofs.YtckcfdggbbabfaaGreat.Ab
set_option linter.unusedVariables false
set_option linter.unusedSimpArgs false
open Go.RowKit
theorem WU {α:Type} {f:α→List D} {l:List α} (h:IP (slD f l)):l.length≤9223372036854775807∧∀e ∈ l,IP (f e):=by
 simp only [slD,IP,D.ok,List.length_map,and_true] at h
 exact⟨h.1,fun e he=>Ke h.2 he⟩
theorem Ps (a0:List Net) (h0:IP ((slD Net.ds a0))) (a1:Net) (h1:IP (Net.ds a1)) (a2:Int) (w2:(Lit.int IntKind.i64 a2).wf =true):EY a0 a1 a2=some true:=by
 unfold EY
 refine ZY (Xy a0 (WU h0).1 (fun e he=>Net.ok_of e ((WU h0).2 e he)) (1048576) (by omega)) fun z0=>?_
 refine ZY (T8 a1 (Net.ok_of a1 h1) (1048576 - szl Net.sz a0) (by omega)) fun z1=>?_
 have b0:szl Net.sz a0≤Big:=by unfold Big; omega
 have b1:a1.sz≤Big:=by unfold Big; omega
 obtain⟨r,hs,hi,hr⟩:=Qe a0 a1 a2 (by omega) (by omega)
 have ft0:F2 a0=some a0:=Xz a0 b0
 have fe0:I4 a0 a0=some true:=(SJ a0 a0 b0).true rfl
 have ft1:F3 a1=some a1:=T9 a1 b1
 have fe1:FI a1 a1=some true:=(Ku a1 a1 b1).true rfl
 have br0:=hr
 have ge0:FI r.1 r.1 =some true:=(Ku r.1 r.1 br0).true rfl
 have fm0:GY a0 1=some (((1+cnts Net.cnt a0:Nat):Int),mks Net.mk1 Net.cnt (1) a0):=UA a0 (1) b0 (by have:=Mz (c:=Net.cnt) (s:=Net.sz) (l:=a0) (fun x=>Net.cnt_le x); have:=b0; unfold Big KB at*; omega)
 have fm1:Fb a1 ((1+cnts Net.cnt a0:Nat):Int)=some (((1+cnts Net.cnt a0+a1.cntV:Nat):Int),(Net.mkV (1+cnts Net.cnt a0) a1).agents):=P5 a1 (1+cnts Net.cnt a0) b1 (by have:=Mz (c:=Net.cnt) (s:=Net.sz) (l:=a0) (fun x=>Net.cnt_le x); have:=b0; have:=Net.cntV_le a1; have:=b1; unfold Big KB at*; omega)
 have gm0:Fb r.1 1=some (((1+r.1.cntV :Nat):Int),(Net.mkV (1) r.1).agents):=P5 r.1 (1) br0 (by have:=Net.cntV_le r.1; have:=br0; unfold Big KB at*; omega)
 have gh0:GX ⟨(Net.mkV (1) r.1).agents⟩ 1=some (((1+r.1.cntV :Nat):Int)):=VZ r.1 (1) br0 (by have:=Net.cntV_le r.1; have:=br0; unfold Big KB at*; omega)
 simp only [AA,hs,hi,ft0,fe0,ft1,fe1,ge0,fm0,fm1,gm0,gh0,Ce,B8,Cf,R2,beq_self_eq_true,Zz,eq_self,decide_true,decide_false,Bool.not_true,Bool.not_false,Bool.false_eq_true,reduceIte]
end Go.Proofs.YtckcfdggbbabfaaGreat.Ab
