/-
  Both sides of RoundSizes give the same. No program is in sight.
-/
import Derived.Test.YtckcfdggbbabfaaGreatPlCounts
import Derived.Test.YtckcfdggbbabfaaGreatModP
import Derived.Test.YtckcfdggbbabfaaGreatPlNet
import Derived.Test.YtckcfdggbbabfaaGreatPlTU
import Derived.Test.YtckcfdggbbabfaaGreatAbZ
namespace Go.Proofs.YtckcfdggbbabfaaGreat.Ab
set_option linter.unusedVariables false
set_option linter.unusedSimpArgs false
open Go.RowKit
theorem gR (v:List (List Int) × Int) (hl:v.1.length ≤4000) (h:∀c ∈ v.1,CL c):CA fuel v [] 0=some (v.1.map lenI,0):=by
 have loop:∀ (post pre:List (List Int)) (n:Nat),v.1 =pre++post→post.length<n→CA n v (pre.map lenI) ((List.length pre:Nat):Int)=some (v.1.map lenI,0):=by
  intro post
  induction post with
  |nil=>
   intro pre n hh hn
   obtain⟨n,rfl⟩:∃q,n=q+1:=⟨n - 1,by omega⟩
   rw [CA,CU hh,if_neg (by simp),hh,List.append_nil]
  |cons x post ih=>
   intro pre n hh hn
   rw [List.length_cons] at hn
   obtain⟨n,rfl⟩:∃q,n=q+1:=⟨n - 1,by omega⟩
   have hp:pre.length<v.1.length :=by rw [hh]; simp
   have ih':=ih (pre++[x]) n (Ae hh) (by omega)
   rw [List.map_append,List.map_singleton] at ih'
   rw [CA,CG hh,if_pos rfl,BO hh,AA,C2 (by simp; unfold Big; omega),AA,Ax hh (by unfold Big; omega)]
   exact ih'
 exact loop v.1 [] fuel rfl (by rw [Ah]; omega)
theorem QT (l:List Net) (n:Net) (b:Int) (hl:szl Net.sz l≤1048576) (hn:n.sz≤1048576):∃r,HE l n b=some r∧EA l n b=some r∧r.1.length ≤Big:=by
 obtain⟨rs,e1,e2,h0,h2,h3⟩:=Rq l n b hl hn
 refine⟨_,?_,e2,by simp only [List.length_map]; unfold Big; omega⟩
 unfold HE
 rw [e1,AA]
 by_cases h:rs.2 =0
 ·rw [if_neg (by simp [h]),gR rs h2 h3,h]
 ·rw [if_pos (by simpa using h),h0 h]; rfl
end Go.Proofs.YtckcfdggbbabfaaGreat.Ab
namespace Go.Proofs.YtckcfdggbbabfaaGreat.Ab
set_option linter.unusedVariables false
set_option linter.unusedSimpArgs false
open Go.RowKit
theorem Jo {α:Type} {f:α→List D} {l:List α} (h:F9 (slD f l)):l.length≤9223372036854775807∧∀e ∈ l,F9 (f e):=by
 simp only [slD,F9,D.ok,List.length_map,and_true] at h
 exact⟨h.1,fun e he=>I4 h.2 he⟩
theorem PX (a0:List Net) (h0:F9 ((slD Net.ds a0))) (a1:Net) (h1:F9 (Net.ds a1)) (a2:Int) (w2:(Lit.int IntKind.i64 a2).wf =true):EX a0 a1 a2=some true:=by
 unfold EX
 refine PY (Pf a0 (Jo h0).1 (fun e he=>Net.ok_of e ((Jo h0).2 e he)) (1048576) (by omega)) fun z0=>?_
 refine PY (Oj a1 (Net.ok_of a1 h1) (1048576 - szl Net.sz a0) (by omega)) fun z1=>?_
 have b0:szl Net.sz a0≤Big:=by unfold Big; omega
 have b1:a1.sz≤Big:=by unfold Big; omega
 obtain⟨r,hs,hi,hr⟩:=QT a0 a1 a2 (by omega) (by omega)
 have ft0:Ck a0=some a0:=Pg a0 b0
 have fe0:GC a0 a0=some true:=(LD a0 a0 b0).true rfl
 have ft1:C5 a1=some a1:=Ol a1 b1
 have fe1:GM a1 a1=some true:=(Jn a1 a1 b1).true rfl
 have br0:=hr
 have ge0:Dk r.1 r.1 =some true:=(JJ r.1 r.1 br0).true rfl
 have fm0:Fc a0 1=some (((1+cnts Net.cnt a0:Nat):Int),mks Net.mk1 Net.cnt (1) a0):=QJ a0 (1) b0 (by have:=IX (c:=Net.cnt) (s:=Net.sz) (l:=a0) (fun x=>Net.cnt_le x); have:=b0; unfold Big KB at*; omega)
 have fm1:Gl a1 ((1+cnts Net.cnt a0:Nat):Int)=some (((1+cnts Net.cnt a0+a1.cntV:Nat):Int),(Net.mkV (1+cnts Net.cnt a0) a1).agents):=R6 a1 (1+cnts Net.cnt a0) b1 (by have:=IX (c:=Net.cnt) (s:=Net.sz) (l:=a0) (fun x=>Net.cnt_le x); have:=b0; have:=Net.cntV_le a1; have:=b1; unfold Big KB at*; omega)
 have gm0:D3 r.1 1=some (((1+cnts one r.1 :Nat):Int),mks mkI one (1) r.1):=FH r.1 (1) br0 (by have:=Fu (c:=one) (b:=1) (l:=r.1) (fun x=>Pe); have:=br0; unfold Big KB at*; omega)
 have gh0:D4 (mks mkI one (1) r.1) 1=some (((1+cnts one r.1 :Nat):Int)):=NG r.1 (1) br0 (by have:=Fu (c:=one) (b:=1) (l:=r.1) (fun x=>Pe); have:=br0; unfold Big KB at*; omega)
 simp only [AA,hs,hi,ft0,fe0,ft1,fe1,ge0,fm0,fm1,gm0,gh0,CP,Bk,CQ,K5,beq_self_eq_true,cE,eq_self,decide_true,decide_false,Bool.not_true,Bool.not_false,Bool.false_eq_true,reduceIte]
end Go.Proofs.YtckcfdggbbabfaaGreat.Ab
