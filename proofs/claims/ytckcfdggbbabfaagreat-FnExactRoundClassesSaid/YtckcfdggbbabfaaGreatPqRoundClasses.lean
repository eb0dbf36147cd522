/-
  Slices of slices of numbers: compared, marked, found again. No program is in sight.
-/
import Derived.Test.YtckcfdggbbabfaaGreatPlNet
import Derived.Test.YtckcfdggbbabfaaGreatPlTU
import Derived.Test.YtckcfdggbbabfaaGreatModQ
import Derived.Test.YtckcfdggbbabfaaGreatPlRv
import Derived.Test.YtckcfdggbbabfaaGreatAbZ
namespace Go.Proofs.YtckcfdggbbabfaaGreat.Ab
set_option linter.unusedVariables false
set_option linter.unusedSimpArgs false
open Go.RowKit
theorem XV {l:List (List Int)} (h:szl List.length l≤Big) {x:List Int} (hx:x ∈ l):x.length≤Big:=by have:=HJ (s:=List.length) hx; omega
theorem QS (l m:List (List Int)) (h:szl List.length l≤Big):DZ (Eo l m) (l=m):=by
 unfold Eo
 exact bR (fun n i=>Dm n l m i) (fun x y=>Dk x y) l m (fun n i=>by rw [Dm]) (Nat.le_trans (FL _ l) h) fun x hx y _=>JJ x y (XV h hx)
theorem R7 (l:List (List Int)) (k:Nat) (h:szl List.length l≤Big) (hk:k+cnts (cnts one) l≤KB):FF l (k:Int)=some (((k+cnts (cnts one) l:Nat):Int),mks (mks mkI one) (cnts one) k l):=by
 unfold FF
 refine WE (fun n l k i=>CI n l k i) (mks mkI one) (cnts one) (fun x=>x.length≤Big) ?_ ?_ l k (fun x hx=>XV h hx) (Nat.le_trans (FL _ l) h) hk
 ·intro n pre post x k hx hk hp
  rw [CI,if_pos Nr]
  simp (disch:=omega) only [F4,Oi,AA,JM,FH]
 ·intro n l k; rw [CI,if_neg (by rw [Ns]; decide)]
theorem R8 (l:List (List Int)) (k:Nat) (h:szl List.length l≤Big) (hk:k+cnts (cnts one) l≤KB):EO (mks (mks mkI one) (cnts one) k l) (k:Int)=some ((k+cnts (cnts one) l:Nat):Int):=by
 unfold EO
 refine en (fun n l k i=>CJ n l k i) (mks mkI one) (cnts one) (fun x=>x.length≤Big) ?_ ?_ l k (fun x hx=>XV h hx) (Nat.le_trans (FL _ l) h) hk
 ·intro n pre post x k hx hk hp
  rw [CJ,if_pos Nr]
  simp (disch:=omega) only [F4,AA,JM,NG,cE,Bool.false_eq_true,reduceIte]
 ·intro n l k; rw [CJ,if_neg (by rw [Ns]; decide)]
end Go.Proofs.YtckcfdggbbabfaaGreat.Ab
namespace Go.Proofs.YtckcfdggbbabfaaGreat.Ab
set_option linter.unusedVariables false
set_option linter.unusedSimpArgs false
open Go.RowKit
theorem XW {c:List Int} (h:CL c):IU c=some (cntL c):=by
 have hc:=h.1
 have loop:∀ (post pre:List Int) (n:Nat),c=pre++post→post.length<n→Cd n c (cntL pre) ((List.length pre:Nat):Int)=some (cntL c):=by
  intro post
  induction post with
  |nil=>
   intro pre n hh hn
   obtain⟨n,rfl⟩:∃q,n=q+1:=⟨n - 1,by omega⟩
   rw [Cd,CU hh,if_neg (by simp),hh,List.append_nil]
  |cons x post ih=>
   intro pre n hh hn
   rw [List.length_cons] at hn
   obtain⟨n,rfl⟩:∃q,n=q+1:=⟨n - 1,by omega⟩
   have hp:pre.length<c.length:=by rw [hh]; simp
   obtain⟨v,q1,q2⟩:=WC (l:=pre) (fun k hk=>h.2 k (by rw [hh]; simp [hk])) (by unfold Big; omega) (h.2 x (by rw [hh]; simp))
   rw [Cd,CG hh,if_pos rfl,BO hh,AA,q1,AA,AA,q2,AA,Ax hh (by unfold Big; omega)]
   exact ih (pre++[x]) n (Ae hh) (by omega)
 exact loop c [] fuel rfl (by rw [Ah]; omega)
theorem cF (v:List (List Int) × Int) (hl:v.1.length ≤4000) (h:∀c ∈ v.1,CL c):Ba fuel v [] 0=some (v.1.map cntL,0):=by
 have loop:∀ (post pre:List (List Int)) (n:Nat),v.1 =pre++post→post.length<n→Ba n v (pre.map cntL) ((List.length pre:Nat):Int)=some (v.1.map cntL,0):=by
  intro post
  induction post with
  |nil=>
   intro pre n hh hn
   obtain⟨n,rfl⟩:∃q,n=q+1:=⟨n - 1,by omega⟩
   rw [Ba,CU hh,if_neg (by simp),hh,List.append_nil]
  |cons x post ih=>
   intro pre n hh hn
   rw [List.length_cons] at hn
   obtain⟨n,rfl⟩:∃q,n=q+1:=⟨n - 1,by omega⟩
   have hp:pre.length<v.1.length :=by rw [hh]; simp
   have ih':=ih (pre++[x]) n (Ae hh) (by omega)
   rw [List.map_append,List.map_singleton] at ih'
   rw [Ba,CG hh,if_pos rfl,BO hh,AA,XW (h x (by rw [hh]; simp)),AA,C2 (by simp; unfold Big; omega),AA,Ax hh (by unfold Big; omega)]
   exact ih'
 exact loop v.1 [] fuel rfl (by rw [Ah]; omega)
theorem YP:∀L:List (List Int),(∀c ∈ L,CL c)→szl List.length (L.map cntL)≤8*L.length
 | [],_=>by simp [szl]
 |c::L,h=>by
  have h1:=YP L fun x hx=>h x (List.mem_cons_of_mem _ hx)
  have h2:=(T7 (h c List.mem_cons_self).2).1
  rw [List.map_cons,List.length_cons]
  simp only [szl,h2]
  omega
theorem Om (l:List Net) (n:Net) (b:Int) (hl:szl Net.sz l≤1048576) (hn:n.sz≤1048576):∃r,Fd l n b=some r∧Eb l n b=some r∧szl List.length r.1 ≤Big:=by
 obtain⟨rs,ri,e1,e2,h⟩:=QG l n b hl hn
 unfold Fd Eb
 rw [e1,e2,AA,AA]
 rcases h with ⟨h0,h1,rfl⟩|⟨h0,rfl,h2,h3⟩
 ·rw [if_pos (by simpa using h0)]
  refine⟨_,rfl,?_,by simp [szl]⟩
  rw [h1]
 ·rw [if_neg (by simp [h0]),cF rs h2 h3]
  refine⟨_,rfl,rfl,?_⟩
  have:=YP rs.1 h3
  simp only
  unfold Big; omega
end Go.Proofs.YtckcfdggbbabfaaGreat.Ab
namespace Go.Proofs.YtckcfdggbbabfaaGreat.Ab
set_option linter.unusedVariables false
set_option linter.unusedSimpArgs false
open Go.RowKit
theorem Jo {α:Type} {f:α→List D} {l:List α} (h:F9 (slD f l)):l.length≤9223372036854775807∧∀e ∈ l,F9 (f e):=by
 simp only [slD,F9,D.ok,List.length_map,and_true] at h
 exact⟨h.1,fun e he=>I4 h.2 he⟩
theorem Nm (a0:List Net) (h0:F9 ((slD Net.ds a0))) (a1:Net) (h1:F9 (Net.ds a1)) (a2:Int) (w2:(Lit.int IntKind.i64 a2).wf =true):Dt a0 a1 a2=some true:=by
 unfold Dt
 refine PY (Pf a0 (Jo h0).1 (fun e he=>Net.ok_of e ((Jo h0).2 e he)) (1048576) (by omega)) fun z0=>?_
 refine PY (Oj a1 (Net.ok_of a1 h1) (1048576 - szl Net.sz a0) (by omega)) fun z1=>?_
 have b0:szl Net.sz a0≤Big:=by unfold Big; omega
 have b1:a1.sz≤Big:=by unfold Big; omega
 obtain⟨r,hs,hi,hr⟩:=Om a0 a1 a2 (by omega) (by omega)
 have ft0:Ck a0=some a0:=Pg a0 b0
 have fe0:GC a0 a0=some true:=(LD a0 a0 b0).true rfl
 have ft1:C5 a1=some a1:=Ol a1 b1
 have fe1:GM a1 a1=some true:=(Jn a1 a1 b1).true rfl
 have br0:=hr
 have ge0:Eo r.1 r.1 =some true:=(QS r.1 r.1 br0).true rfl
 have fm0:Fc a0 1=some (((1+cnts Net.cnt a0:Nat):Int),mks Net.mk1 Net.cnt (1) a0):=QJ a0 (1) b0 (by have:=IX (c:=Net.cnt) (s:=Net.sz) (l:=a0) (fun x=>Net.cnt_le x); have:=b0; unfold Big KB at*; omega)
 have fm1:Gl a1 ((1+cnts Net.cnt a0:Nat):Int)=some (((1+cnts Net.cnt a0+a1.cntV:Nat):Int),(Net.mkV (1+cnts Net.cnt a0) a1).agents):=R6 a1 (1+cnts Net.cnt a0) b1 (by have:=IX (c:=Net.cnt) (s:=Net.sz) (l:=a0) (fun x=>Net.cnt_le x); have:=b0; have:=Net.cntV_le a1; have:=b1; unfold Big KB at*; omega)
 have gm0:FF r.1 1=some (((1+cnts (cnts one) r.1 :Nat):Int),mks (mks mkI one) (cnts one) (1) r.1):=R7 r.1 (1) br0 (by have:=IX (c:=(cnts one)) (s:=List.length) (b:=1) (l:=r.1) (fun x=>by have:=Fu (c:=one) (b:=1) (l:=x) (fun x=>Pe); omega); have:=br0; unfold Big KB at*; omega)
 have gh0:EO (mks (mks mkI one) (cnts one) (1) r.1) 1=some (((1+cnts (cnts one) r.1 :Nat):Int)):=R8 r.1 (1) br0 (by have:=IX (c:=(cnts one)) (s:=List.length) (b:=1) (l:=r.1) (fun x=>by have:=Fu (c:=one) (b:=1) (l:=x) (fun x=>Pe); omega); have:=br0; unfold Big KB at*; omega)
 simp only [AA,hs,hi,ft0,fe0,ft1,fe1,ge0,fm0,fm1,gm0,gh0,Bx,BU,By,K5,beq_self_eq_true,cE,eq_self,decide_true,decide_false,Bool.not_true,Bool.not_false,Bool.false_eq_true,reduceIte]
end Go.Proofs.YtckcfdggbbabfaaGreat.Ab
