/-
  The statement FnExactFamilyTrace: what reads at a law's type is a datum, the walk, the plain law, the row's frame. Printed by wip/ab/genlaw.py.
-/
import Derived.Test.YthenkmapmnkelaaGreatDoorRows
import Derived.Test.YthenkmapmnkelaaGreatDoorPlFm
import Derived.Test.YthenkmapmnkelaaGreatDoorWlkF
import Derived.Test.YthenkmapmnkelaaGreatDoorFcFamilyTrace
import Derived.Test.YthenkmapmnkelaaGreatDoorCards
import Derived.Test.YthenkmapmnkelaaGreatDoorTie
import Derived.Test.YthenkmapmnkelaaGreatDoorTied
import Derived.Lay
import Derived.Stop.Joined
namespace Go.Proofs.YthenkmapmnkelaaGreatDoor.Ab
set_option linter.unusedVariables false
set_option linter.unusedSimpArgs false
set_option maxHeartbeats 1000000
open Go.RowKit
theorem cY:∀ (l:List Agent) (i:Nat),(∀k a,l[k]? =some a→agB a=true∧(a.kind=1↔i+k=0))→agsB i l=true
 | [],_,_=>rfl
 | x::l,i,h=>by
  rw [agsB]
  have h0:=h 0 x rfl
  have e:decide (x.kind=1)=decide (i=0):=by
   rw [Bool.eq_iff_iff,decide_eq_true_eq,decide_eq_true_eq]
   omega
  rw [h0.1,e,cY l (i+1) fun k a hk=>by
   have:=h (k+1) a (by grind)
   grind]
  simp
theorem WG {l:List Agent} {i:Nat}:∀ (ps:List Port) (k:Nat),(∀j p,ps[j]? =some p→Mn l i (k+j) p=true)→Et l i k ps=true
 | [],_,_=>rfl
 | p::ps,k,h=>by
  rw [Et,show Mn l i k p=true from h 0 p rfl,WG ps (k+1) fun j q hq=>by
   have:=h (j+1) q (by grind)
   rwa [show k+1+j=k+(j+1) from by omega]]
  rfl
theorem Po {l:List Agent}:∀ (m:List Agent) (i:Nat),(∀k a,m[k]? =some a→Et l (i+k) 0 a.ports=true)→Cr l i m=true
 | [],_,_=>rfl
 | x::m,i,h=>by
  rw [Cr,show Et l i 0 x.ports=true from h 0 x rfl,Po m (i+1) fun k a hk=>by
   have:=h (k+1) a (by grind)
   rwa [show i+1+k=i+(k+1) from by omega]]
  rfl
theorem W1 {α:Type} {l:List α} {k:Nat} {x:α} (h:l[k]? =some x):at? l (k:Int)=some x:=by
 unfold at?
 rw [if_pos (by omega),Int.toNat_natCast,h]
theorem VnN.valid {l:List Agent} (h:VnN 600 l):(⟨l⟩:Net).valid =true:=by
 unfold Net.valid agentsB
 have h1:agsB 0 l=true:=cY l 0 fun k a hk=>by
  have:=h.ag k a (W1 hk)
  grind
 have h2:Cr l 0 l=true:=Po l 0 fun k a hk=>WG a.ports 0 fun j p hp=>by
  have hg:get l ⟨(k:Int),(j:Int)⟩=some p:=Aj.2 ⟨a,W1 hk,W1 hp⟩
  obtain⟨-,m2,m3⟩:=h.m _ _ hg (fun h=>h)
  grind [Fu,Mn]
 have hl:=h.len
 rw [h1,h2,decide_eq_true (show 1≤(⟨l⟩:Net).agents.length ∧(⟨l⟩:Net).agents.length ≤600 from hl)]
 rfl
theorem VnN.small' {l:List Agent} (h:VnN 600 l):(⟨l⟩:Net).Small :=by
 have hs:=VnN.small h
 refine⟨?_,fun a ha=>(hs a ha).2⟩
 have key:∀m:List Agent,(∀a ∈ m,a.ports.length≤4)→szl (fun a:Agent=>a.ports.length) m≤5*m.length:=by
  intro m
  induction m with
  |nil=>grind [szl]
  |cons x m ih=>
   grind [szl]
 have:=key l fun a ha=>by
  obtain⟨k,hk⟩:=List.getElem?_of_mem ha
  have:=agP (h.ag k a (W1 hk)).1
  omega
 have hl:=h.len
 grind
def schB (l:List Int):Bool:=decide (l.length≤200)&&l.all fun x=>decide (0≤x∧x≤600)
theorem eV (l:List Int) (hl:l.length≤Big):GV l=some (schB l):=by
 unfold GV schB
 by_cases h:l.length≤200
 ·rw [if_neg (by grind),decide_eq_true h,Bool.true_and]
  exact n7 (fun n i=>Cs n l i) (fun x=>CU x 0 600) (fun x=>decide (0≤x∧x≤600)) l (fun n i=>by rw [Cs]) hl fun x _=>FT x 0 600
 grind
theorem eW (l:List Int) (hl:l.length≤Big):FU l=some (schB l):=by
 unfold FU schB
 by_cases h:l.length≤200
 ·rw [if_pos (by grind),decide_eq_true h,Bool.true_and,R0 l _ (fun x=> !decide (0≤x∧x≤600)) hl (fun x _=>by
   unfold Fv
   by_cases h0:x<0
   ·rw [if_pos (by grind)]
    grind
   ·rw [if_neg (by grind)]
    by_cases h6:600<x
    ·simp [h6] <;> omega
    grind),AA,List.not_any_eq_all_not]
  simp
 grind
theorem eX (l:List Net) (n:Net) (s:List Int) (b:Int) (hll:l.length≤Big) (hs:∀T ∈ l,T.Small) (hns:n.Small) (hsl:s.length≤Big):∃c,JM l n s b=some c∧ID l n s b=some c∧(c=0→Mo l=true∧n.valid=true∧schB s=true∧0≤b∧b≤4000):=by
 unfold JM ID
 rw [eY l hll hs,eZ l hll hs,AA,AA]
 cases hT:Mo l with
 |false=>simp [EY,Dy]
 | true=>
  rw [if_neg (by simp),if_neg (by simp),cZ n hns,W2 n hns,AA,AA]
  cases hv:n.valid with
  |false=>simp [EY,Dy]
  | true=>
   have h3:∀p,Dz l n p=some (if p=true then 2 else 0):=fun p=>by
    unfold Dz Ik
    cases p with
    |true=>rfl
    |false=>
     rw [if_neg (by simp),Yr l n hns.agents.1 hns.agents.2,AA]
     rfl
   unfold EY Dy
   rw [if_neg (by simp),if_neg (by simp),eV s hsl,eW s hsl,AA,AA]
   unfold GW
   cases hsc:schB s with
   |false=>
    rw [if_pos (by simp),if_pos (by simp),h3]
    grind
   | true=>
    rw [if_neg (by simp),if_neg (by simp),FT,AA]
    by_cases hb:0≤b∧b≤4000
    ·refine⟨0,by grind,?_,fun _=>⟨rfl,rfl,rfl,hb⟩⟩
     rw [if_neg (by grind),h3]
     grind
    ·refine⟨2,by grind,?_,by simp⟩
     grind
theorem cc {α:Type} (P:List α) (hP:P≠ []) (z:Int) (hz:0≤z):∃p,p ∈ P∧nz? ((List.length P:Nat):Int)=some ()∧at? P (Int.tmod z ((List.length P:Nat):Int))=some p:=by
 have hl:0<P.length:=List.length_pos_iff.2 hP
 have h1:0≤Int.tmod z ((List.length P:Nat):Int):=Int.tmod_nonneg _ hz
 have h2:Int.tmod z ((List.length P:Nat):Int)<((List.length P:Nat):Int):=Int.tmod_lt_of_pos _ (by omega)
 obtain⟨x,hx,hm⟩:=EZ ⟨h1,h2⟩
 refine⟨x,hm,?_,hx⟩
 unfold nz?
 rw [if_neg (by omega)]
theorem UD (bk:List Net) (hbk:∀T ∈ bk,Vn T.agents) (s:List Int) (hs:schB s=true) (b:Int) (hb:b≤4000):∀ (m:Nat) (k:Int) (V:List Agent) (out:List Int) (fs fi:Nat),VnN 600 V→0≤k→b - k≤m→k≤4000→out.length≤k.toNat→3*m+4≤fs→3*m+4≤fi→
  ∃r,CO fs bk s b V out k=some r∧Ct fi bk s b V out k=some r∧r.1.length ≤4000
 | m, k,V,out,fs,fi,hV,hk,hm,hk4,ho,hfs,hfi=>by
  obtain⟨fs,rfl⟩:∃x,fs=x+2:=⟨fs - 2,by omega⟩
  obtain⟨fi,rfl⟩:∃x,fi=x+1:=⟨fi - 1,by omega⟩
  rw [CO,Ct]
  by_cases hlt:k<b
  ·rw [if_pos (decide_eq_true hlt),if_pos (decide_eq_true hlt),eb ⟨V⟩ hV (by omega),ec ⟨V⟩ hV (by omega),AA,AA]
   have hfam:∀p ∈ prs 1 (V.drop 1),_:=fun p hp=>Ys (n:=⟨V⟩) hV.valid hV.small' p hp
   have hPr:∀p ∈ prs 1 (V.drop 1),_:=fun p hp=>iN hV hp
   show ∃r,(if (decide (((List.length (prs 1 (V.drop 1)):Nat):Int)=0))=true then _ else _)=_∧(if (decide (((List.length (prs 1 (V.drop 1)):Nat):Int)=0))=true then _ else _)=_∧_
   generalize prs 1 (V.drop 1)=P at hfam hPr ⊢
   by_cases h0:P=[]
   ·subst h0
    rw [if_pos (by simp),if_pos (by simp)]
    grind
   ·have hPl:0<P.length:=List.length_pos_iff.2 h0
    have hc:¬ (decide (((List.length P:Nat):Int)=0))=true:=by grind
    rw [if_neg hc,if_neg hc]
    obtain⟨z,hz,hzs,hzi⟩:∃z:Int,0≤z∧(if (decide (0<((List.length s:Nat):Int)))=true then (Option.bind (nz? ((List.length s:Nat):Int)) fun v14004=>(Option.bind (at? s (Int.tmod k ((List.length s:Nat):Int))) fun v14005=>(Bz (fs+1) bk s b V out k P v14005))) else (Bz (fs+1) bk s b V out k P 0))=Bz (fs+1) bk s b V out k P z∧JN s P k=Ff P z:=by
     unfold JN
     by_cases hs0:s=[]
     ·grind
     ·have hsl:0<s.length:=List.length_pos_iff.2 hs0
      obtain⟨z,hzm,hn,hat⟩:=cc s hs0 k hk
      have hz0:0≤z:=by
       grind [schB]
      have hcs:(decide (0<((List.length s:Nat):Int)))=true:=by grind
      grind
    obtain⟨p,hp,hn,hat⟩:=cc P h0 z hz
    obtain⟨con,c,mk,code,k1,k2,k3,k4,k5⟩:=hfam p hp
    rw [hzs,hzi,Bz]
    unfold Ff
    rw [hn,AA,hat,AA,AA,AA,k1,AA,k2,AA,AA,k3,AA]
    dsimp only
    by_cases hcode:code=0
    ·have c1:¬ (!decide (code=0))=true:=by grind
     have hsm:=hV.small'
     obtain⟨a,d,hP,ga,gb,ka,kb⟩:=hPr p hp
     have hVl:=hV.len
     rw [if_neg c1,if_neg c1,Yr bk ⟨V⟩ hsm.agents.1 hsm.agents.2,AA]
     rcases step hV.stt hP ga gb ka kb bk hbk (by omega) with ⟨e,q1,q2,q3⟩|⟨x,y,R',A',B',new,q0,q1,q2,q3,q4⟩
     ·have q2':A6 ⟨⟨V⟩,bk,[]⟩ p=some (e,⟨⟨V⟩,bk,[]⟩):=q2
      rw [q2',q3,AA,AA,if_pos (by grind),if_pos (by grind)]
      grind
     ·have q2':A6 ⟨⟨V⟩,bk,[]⟩ p=some (0,⟨⟨A'⟩,bk,remM R'⟩):=q2
      have hlen:=Lc q4.shp
      rw [List.length_append,List.length_map] at hlen
      have hnl:=q4.nl
      obtain⟨r1,r2⟩:=q4.st.result (by omega) bk
      have hV':VnN 600 (DV (posN B') B'):=by
       have hx:∃xa xb,at? V x=some xa∧at? V y=some xb∧xa.kind≠1∧xb.kind≠1:=by
        rcases q0 with ⟨rfl,rfl⟩|⟨rfl,rfl⟩
        ·exact⟨a,d,hP.hx,hP.hy,ka,kb⟩
        ·exact⟨d,a,hP.hy,hP.hx,kb,ka⟩
       obtain⟨xa,xb,e1,e2,e3,e4⟩:=hx
       have h:=(hV.vst.next e1 e2 e3 e4 q4).pack (N:=B'.length) (Nat.le_refl _)
       exact⟨⟨h.len.1,by rw [Oe]; omega⟩,h.ag,h.m⟩
      rw [q2',q3,AA,AA,if_neg (by simp),if_neg (by simp)]
      dsimp only
      rw [r2,AA,A8 (by grind),AA,AA,r1,AA,w64 (by omega) (by omega)]
      obtain⟨m,rfl⟩:∃x,m=x+1:=⟨m - 1,by omega⟩
      exact UD bk hbk s hs b hb m (k+1) (DV (posN B') B') (out++[((List.length mk:Nat):Int)]) fs fi hV' (by omega) (by omega) (by omega) (by grind) (by omega) (by omega)
    simp_all
  ·rw [if_neg (by grind),if_neg (by grind)]
   grind
termination_by m=>m
theorem Q1 (l:List Net) (n:Net) (s:List Int) (b:Int) (hl:szl Net.sz l≤1048576) (hn:n.sz≤1048576) (hsl:s.length≤1048576):∃r,GX l n s b=some r∧Fg l n s b=some r∧r.1.length ≤Big:=by
 have hs:∀T ∈ l,T.Small:=fun T hT=>Net.small_of T (by grind [H3])
 have hll:l.length≤Big:=by grind [G9]
 have hns:n.Small:=Net.small_of n (by grind)
 obtain⟨c,h1,h2,h3⟩:=eX l n s b hll hs hns (by grind)
 unfold GX Fg
 rw [h1,h2,AA,AA]
 by_cases hc:c=0
 ·obtain⟨g1,g2,g3,g4,g5⟩:=h3 hc
  have c0:¬ (!decide (c=0))=true:=by grind
  rw [if_neg c0,if_neg c0,iO n hns.agents.1 hns.agents.2,AA]
  obtain⟨r,k1,k2,k3⟩:=UD l (ed g1) s g3 b g5 4000 0 n.agents [] fuel fuel (Net.valid_vn g2) (by omega) (by omega) (by omega) (by simp) (by rw [AY]; omega) (by rw [AY]; omega)
  grind
 simp_all
theorem lJ {n:Nat} {K:Option Bool} (h:n≤1048576→K=some true):(if (decide ((1048576:Int)<((n:Nat):Int)))=true then some true else K)=some true:=by
 grind
theorem cd {α:Type} {f:α→List D} {l:List α} (h:JL (slD f l)):l.length≤9223372036854775807∧∀e ∈ l,JL (f e):=by
 simp only [slD,JL,D.ok,List.length_map,and_true] at h
 exact⟨h.1,fun e he=>Mk h.2 he⟩
theorem Pp (a0:List Net) (h0:JL ((slD Net.ds a0))) (a1:Net) (h1:JL (Net.ds a1)) (a2:List Int) (h2:JL ((slD AD a2))) (a3:Int) (w3:(Lit.int IntKind.i64 a3).wf =true):EM a0 a1 a2 a3=some true:=by
 unfold EM
 refine lJ (n:=a2.length) fun z2=>?_
 refine iP (ee a0 (cd h0).1 (fun e he=>Net.ok_of e ((cd h0).2 e he)) (1048576) (by omega)) fun z0=>?_
 refine iP (Yt a1 (Net.ok_of a1 h1) (1048576 - szl Net.sz a0) (by omega)) fun z1=>?_
 have b0:szl Net.sz a0≤Big:=by grind
 have b1:a1.sz≤Big:=by grind
 have b2:a2.length≤Big:=by grind
 obtain⟨r,hs,hi,hr⟩:=Q1 a0 a1 a2 a3 (by omega) (by omega) (by omega)
 have ft0:HA a0=some a0:=ef a0 b0
 have fe0:Kj a0 a0=some true:=(W3 a0 a0 b0).true rfl
 have ft1:HC a1=some a1:=Yu a1 b1
 have fe1:J2 a1 a1=some true:=(R1 a1 a1 b1).true rfl
 have ft2:Ea a2=some a2:=R2 a2 b2
 have fe2:D0 a2 a2=some true:=(JO a2 a2 b2).true rfl
 have br0:=hr
 have ge0:D0 r.1 r.1 =some true:=(JO r.1 r.1 br0).true rfl
 have fm0:Hu a0 1=some (((1+cnts Net.cnt a0:Nat):Int),mks Net.mk1 Net.cnt (1) a0):=Yv a0 (1) b0 (by have:=Nd (c:=Net.cnt) (s:=Net.sz) (l:=a0) (fun x=>Net.cnt_le x); grind)
 have fm1:It a1 ((1+cnts Net.cnt a0:Nat):Int)=some (((1+cnts Net.cnt a0+a1.cntV:Nat):Int),(Net.mkV (1+cnts Net.cnt a0) a1).agents):=aY a1 (1+cnts Net.cnt a0) b1 (by have:=Nd (c:=Net.cnt) (s:=Net.sz) (l:=a0) (fun x=>Net.cnt_le x); grind [Net.cntV_le])
 have fm2:Da a2 ((1+cnts Net.cnt a0+a1.cntV:Nat):Int)=some (((1+cnts Net.cnt a0+a1.cntV+cnts one a2:Nat):Int),mks mkI one (1+cnts Net.cnt a0+a1.cntV) a2):=Fh a2 (1+cnts Net.cnt a0+a1.cntV) b2 (by have:=Nd (c:=Net.cnt) (s:=Net.sz) (l:=a0) (fun x=>Net.cnt_le x); have:=b0; have:=Net.cntV_le a1; have:=b1; have:=Gv (c:=one) (b:=1) (l:=a2) (fun x=>UE); grind)
 have gm0:Da r.1 1=some (((1+cnts one r.1 :Nat):Int),mks mkI one (1) r.1):=Fh r.1 (1) br0 (by have:=Gv (c:=one) (b:=1) (l:=r.1) (fun x=>UE); grind)
 have gh0:FC (mks mkI one (1) r.1) 1=some (((1+cnts one r.1 :Nat):Int)):=U2 r.1 (1) br0 (by have:=Gv (c:=one) (b:=1) (l:=r.1) (fun x=>UE); grind)
 simp only [AA,hs,hi,ft0,fe0,ft1,fe1,ft2,fe2,ge0,fm0,fm1,fm2,gm0,gh0,CP,Bo,CQ,W4,beq_self_eq_true,rm,eq_self,decide_true,decide_false,Bool.not_true,Bool.not_false,Bool.false_eq_true,reduceIte]
end Go.Proofs.YthenkmapmnkelaaGreatDoor.Ab
namespace Go.Proofs.YthenkmapmnkelaaGreatDoor.lawFamilyTrace
set_option linter.unusedVariables false
set_option linter.unusedSimpArgs false
open Go.ChangeShapes Go.WideShapes Go.ChangeAt Go.RowKit Go.Proofs.YthenkmapmnkelaaGreatDoor Go.Proofs.YthenkmapmnkelaaGreatDoor.Ab
open Go.ChangeMaps (open_string shut_string)
theorem aZ (n:Nat) (ds:List Go.Proofs.YthenkmapmnkelaaGreatDoor.D) (h:E6 Tryz.prog n 179 ds):∃x:Ab.Port,cvC ds=x.ds:=by
 obtain⟨m0,hm0,h⟩:=UB Tryz.underlying179 h
 simp only [Rz] at h
 obtain⟨d1,r1,h1,⟨d2,r2,h2,rfl,rfl⟩,rfl⟩:=h
 obtain⟨z1,rfl⟩:=Ht Tryz.underlying2 h1
 obtain⟨z2,rfl⟩:=Ht Tryz.underlying2 h2
 refine⟨⟨z1,z2⟩,?_⟩
 rw [Ab.Port.ds_eq]
 simp only [Lb,cvC,cv,List.cons_append,List.nil_append,List.append_nil]
theorem Yw (n:Nat) (ds:List Go.Proofs.YthenkmapmnkelaaGreatDoor.D) (h:E6 Tryz.prog n 78 ds):∃x:Ab.Agent,cvC ds=x.ds:=by
 obtain⟨m0,hm0,h⟩:=UB Tryz.underlying78 h
 simp only [Rz] at h
 obtain⟨d1,r1,h1,⟨d2,r2,h2,⟨d3,r3,h3,⟨d4,r4,h4,⟨d5,r5,h5,rfl,rfl⟩,rfl⟩,rfl⟩,rfl⟩,rfl⟩:=h
 obtain⟨z1,rfl⟩:=Ht Tryz.underlying2 h1
 obtain⟨z2,rfl⟩:=Ht Tryz.underlying2 h2
 obtain⟨z3,rfl⟩:=Ht Tryz.underlying2 h3
 obtain⟨z4,ez4⟩:=Ml AD Tryz.underlying26 (fun m x hm hx=>by obtain⟨z,rfl⟩:=Ht Tryz.underlying2 hx; exact⟨z,rfl⟩) h4
 obtain⟨z5,ez5⟩:=Ml Ab.Port.ds Tryz.underlying76 (fun m x hm hx=>aZ m x hx) h5
 refine⟨⟨z1,z2,z3,z4,z5⟩,?_⟩
 rw [Ab.Agent.ds_eq]
 simp only [Lb,ez4,ez5,cvC,cv,List.cons_append,List.nil_append,List.append_nil]
theorem WH (n:Nat) (ds:List Go.Proofs.YthenkmapmnkelaaGreatDoor.D) (h:E6 Tryz.prog n 25 ds):∃x:Ab.Net,cvC ds=x.ds:=by
 obtain⟨m0,hm0,h⟩:=UB Tryz.underlying25 h
 simp only [Rz] at h
 obtain⟨d1,r1,h1,rfl,rfl⟩:=h
 obtain⟨z1,ez1⟩:=Ml Ab.Agent.ds Tryz.underlying23 (fun m x hm hx=>Yw m x hx) h1
 refine⟨⟨z1⟩,?_⟩
 rw [Ab.Net.ds_eq]
 simp only [Lb,ez1,cvC,cv,List.cons_append,List.nil_append,List.append_nil]
theorem xi (a0:Option Addr) (len0 cap0:Nat) (dd0:List Go.Proofs.YthenkmapmnkelaaGreatDoor.D) (n0:Nat) (ht0:E6 Tryz.prog n0 22 dd0) (cs1:Array Value) (dd1:List Go.Proofs.YthenkmapmnkelaaGreatDoor.D) (n1:Nat) (ht1:E6 Tryz.prog n1 25 dd1) (a2:Option Addr) (len2 cap2:Nat) (dd2:List Go.Proofs.YthenkmapmnkelaaGreatDoor.D) (n2:Nat) (ht2:E6 Tryz.prog n2 26 dd2) (x3:Int) (wf3:(Lit.int IntKind.i64 x3).wf =true) (w:World) (hsh:w.ShapedOpen Tryz.prog) (hamb:Amb Tryz.prog w) (h0:Go.Proofs.YthenkmapmnkelaaGreatDoor.Reps w dd0 (Value.slice a0 len0 cap0).cells.toList) (h1:Go.Proofs.YthenkmapmnkelaaGreatDoor.Reps w dd1 (Value.agg cs1).cells.toList) (h2:Go.Proofs.YthenkmapmnkelaaGreatDoor.Reps w dd2 (Value.slice a2 len2 cap2).cells.toList):
  Calls Tryz.prog 3 #[.slice a0 len0 cap0,.agg cs1,.slice a2 len2 cap2,.int .i64 x3] w fun e w'=>e= .returned (.bool true)∧Below w.heap.size w w':=by
 obtain⟨y0,ey0⟩:=Ml Ab.Net.ds Tryz.underlying22 (fun m x hm hx=>WH m x hx) ht0
 obtain⟨hv0,hk0⟩:=Pn h0
 rw [ey0] at hv0 hk0
 obtain⟨u0,us0,eu0,hw0,-⟩:=hv0
 obtain rfl:u0= .slice a0 len0 cap0:=by simpa [Value.cells] using (List.cons.inj eu0).1.symm
 obtain⟨y1,ey1⟩:=WH _ _ ht1
 obtain⟨hv1,hk1⟩:=Pn h1
 rw [ey1] at hv1 hk1
 have ha1:(List.map ofD y1.ds)=y1.avs:=by rw [Ab.Net.ds_eq]; rfl
 rw [ha1] at hv1
 obtain⟨y2,ey2⟩:=Ml AD Tryz.underlying26 (fun m x hm hx=>by obtain⟨z,rfl⟩:=Ht Tryz.underlying2 hx; exact⟨z,rfl⟩) ht2
 obtain⟨hv2,hk2⟩:=Pn h2
 rw [ey2] at hv2 hk2
 obtain⟨u2,us2,eu2,hw2,-⟩:=hv2
 obtain rfl:u2= .slice a2 len2 cap2:=by simpa [Value.cells] using (List.cons.inj eu2).1.symm
 have hl:=Kk _ _ _ _ _ (Pp y0 hk0 y1 hk1 y2 hk2 x3 wf3)
 refine eU hl hsh (by kernel_rfl) hamb ?_
 simp only [AH]
 exact⟨_,_,rfl,hw0,⟨_,_,rfl,iM hv1,⟨_,_,rfl,hw2,⟨_,_,rfl,(VSim.of_rep (d:=.int .i64 x3) ⟨rfl,wf3⟩),rfl⟩⟩⟩⟩
theorem own:ownKnob Tryz.prog.godebug=none:=by kernel_rfl
theorem S1:laidOutB Tryz.prog=true:=by kernel_rfl
theorem okS:W5 Tryz.prog [22,25,23,78,2,26,76,179] =true:=by kernel_rfl
def laid:List (String × DataW Unit):=Rows.fnExactFamilyTraceRow.laid
set_option maxRecDepth 100000 in
theorem lifted (os:Os) (started:os.Started) (H:Type) (enc:TypeId × Value→H):
  ReturnsInHanded {} Tryz.checked os 3 .any (fun w args=>(Rows.fnExactFamilyTraceSpec.pre enc Tryz.prog Tryz.f3 Rows.fnExactFamilyTraceRow.domain false w args∧laidMetH Tryz.prog laid w)∧sizedMet enc Tryz.prog Tryz.f3 (OpenSpec.ofChange Rows.fnExactFamilyTraceSpec) false w args)
   (Rows.fnExactFamilyTraceSpec.post enc Tryz.prog Tryz.f3 false true false false):=by
 refine SF (C:=Tryz.checked) (X:=fun w _=>laidMetH Tryz.prog laid w) (fun _ _ _ hh h=>h.of_heap hh) own started (by kernel_rfl) Tryz.func3
  (ChangeSpec.witness_shaped (enc:=enc) (C:=Tryz.checked) (os:=os) (X:=fun w _=>laidMetH Tryz.prog laid w) false (World.laidAll Tryz.prog os laid) #[.slice none 0 0,.agg #[.slice none 0 0],.slice none 0 0,.int .i64 0] 8 (World.laidAll_os _ _ _)
   (World.shaped_of_ZipB (by kernel_rfl) (by kernel_rfl)) (by kernel_rfl) (by kernel_rfl) (by kernel_rfl)
   (by rw [MakeChecks.laidMetH_plain _ _ _ (by kernel_rfl)]; exact laidMet_laidAll _ (by kernel_rfl) (by kernel_rfl))) ?_
 intro W base args ds gs before hval0 hW hL hsh
 have hamb:Amb Tryz.prog W:=Yx hL
 have hval:∀ (j:Nat) t v,Tryz.f3.params[j]? =some t→args[j]? =some v→Value.okWide Tryz.prog W .any base t v:=hval0
 have hW':=hW
 obtain⟨p,q,hA0,hV,rfl,hfz,hnd⟩:=hW
 have hA:DataW.TrodAll enc Tryz.prog W 0 (fun _=>true) true Tryz.f3.params.toList args.toList ds p:=hA0
 rw [Tryz.params3] at hA hval
 obtain⟨v0,vs0,d0,ds0,p0,q0,hargs,rfl,rfl,h0,r0⟩:=trodAll_cons hA
 obtain⟨v1,vs1,d1,ds1,p1,q1,rfl,rfl,rfl,h1,r1⟩:=trodAll_cons r0
 obtain⟨v2,vs2,d2,ds2,p2,q2,rfl,rfl,rfl,h2,r2⟩:=trodAll_cons r1
 obtain⟨v3,vs3,d3,ds3,p3,q3,rfl,rfl,rfl,h3,r3⟩:=trodAll_cons r2
 obtain⟨rfl,rfl,rfl⟩:=trodAll_nil r3
 obtain rfl:args= #[v0,v1,v2,v3] :=by cases args; simp_all
 obtain⟨rfl,rfl⟩:=trodVars_none hV
 have k0:=h0
 have lt0:∀x ∈ p0,x.block<W.heap.size:=by obtain⟨m,hm⟩:=k0; exact DataW.trod_lt m _ _ _ hm
 obtain⟨a0,len0,cap0,rfl⟩:=okWide_slice Tryz.underlying22 (hval 0 22 v0 rfl rfl)
 obtain⟨fu0,hf0⟩:=h0
 obtain⟨dd0,ty0,re0⟩:=GY _ okS fu0 _ _ _ (by decide) hf0
 have k1:=h1
 have lt1:∀x ∈ p1,x.block<W.heap.size:=by obtain⟨m,hm⟩:=k1; exact DataW.trod_lt m _ _ _ hm
 obtain⟨cs1,rfl,-,-⟩:=U3 (by kernel_rfl) (hval 1 25 v1 rfl rfl)
 obtain⟨fu1,hf1⟩:=h1
 obtain⟨dd1,ty1,re1⟩:=GY _ okS fu1 _ _ _ (by decide) hf1
 have k2:=h2
 have lt2:∀x ∈ p2,x.block<W.heap.size:=by obtain⟨m,hm⟩:=k2; exact DataW.trod_lt m _ _ _ hm
 obtain⟨a2,len2,cap2,rfl⟩:=okWide_slice Tryz.underlying26 (hval 2 26 v2 rfl rfl)
 obtain⟨fu2,hf2⟩:=h2
 obtain⟨dd2,ty2,re2⟩:=GY _ okS fu2 _ _ _ (by decide) hf2
 have k3:=h3
 have lt3:∀x ∈ p3,x.block<W.heap.size:=by obtain⟨m,hm⟩:=k3; exact DataW.trod_lt m _ _ _ hm
 obtain⟨x3,rfl,rfl,rfl,wf3⟩:=open_int Tryz.underlying2 (hval 3 2 v3 rfl rfl) h3
 clear hA0 hval0
 refine(xi _ _ _ dd0 fu0 ty0 _ dd1 fu1 ty1 _ _ _ dd2 fu2 ty2 x3 wf3 W hsh hamb re0 re1 re2).mono fun e W' ⟨he,bel⟩=>?_
 subst he
 exact⟨_,rfl,_,_,_,[],_,[],hW',trodAll_mk1 (shut_bool Tryz.underlying4 _),(trodAll_cons_mk (Below.trod S1 (by kernel_rfl) (of_decide_eq_true (by kernel_rfl)) k0 bel lt0) (trodAll_cons_mk (Below.trod S1 (by kernel_rfl) (of_decide_eq_true (by kernel_rfl)) k1 bel lt1) (trodAll_cons_mk (Below.trod S1 (by kernel_rfl) (of_decide_eq_true (by kernel_rfl)) k2 bel lt2) (trodAll_cons_mk (Below.trod S1 (by kernel_rfl) (of_decide_eq_true (by kernel_rfl)) k3 bel lt3) trodAll_mk0)))),rfl,bel.frame _,fun h=>by cases h⟩
theorem xj:Rows.fnExactFamilyTraceRow.holds Tryz.pinned (OpenSpec.ofChange Rows.fnExactFamilyTraceSpec):=
 OpenClaim.holds_of_wide 3 Tryz.f3 rfl rfl rfl rfl rfl rfl rfl ⟨rfl,rfl,rfl,rfl,rfl⟩ rfl rfl rfl rfl rfl (by kernel_rfl) Tryz.func3 closed
  (of_decide_eq_true (by kernel_rfl)) (by unfold Func.isWrapper; first|(rw [if_pos (by decide+kernel)]; kernel_rfl)|(rw [if_neg (by decide+kernel)]; exact⟨rfl,rfl⟩))
  (fun os started H enc _=>lifted os started H enc)
theorem proved:Rows.FnExactFamilyTraceCardSaid:=
 Claim7.holds_tied_plain_at .later [] [.data,.data,.data] true (true, "8db938d0a39d4201f9b32e4a00d961c7835bfbaf2933d2489c4c992814f62fb2") false xj (fun _ h=>by cases h) (by kernel_rfl) (fun _ h=>by cases h) fnExactFamilyTrace_row_tie rfl ⟨rfl,rfl⟩ (by kernel_rfl) rfl
  (fun f fn hf hfn=>by
   obtain rfl:f=3:=Option.some.inj ((show Tryz.prog.funcNamed Rows.fnExactFamilyTraceRow.func=some 3 by kernel_rfl).symm.trans hf) |>.symm
   obtain rfl:fn=Tryz.f3:=(Option.some.inj (Tryz.func3.symm.trans hfn)).symm
   exact⟨by kernel_rfl,fun j t ht=>by
    rw [Tryz.params3] at ht
    rcases j with _|j
    ·simp at ht; subst ht; kernel_rfl
    rcases j with _|j
    ·simp at ht; subst ht; kernel_rfl
    rcases j with _|j
    ·simp at ht; subst ht; kernel_rfl
    rcases j with _|j
    ·simp at ht; subst ht; kernel_rfl
    simp at ht⟩) (by kernel_rfl)
end Go.Proofs.YthenkmapmnkelaaGreatDoor.lawFamilyTrace
