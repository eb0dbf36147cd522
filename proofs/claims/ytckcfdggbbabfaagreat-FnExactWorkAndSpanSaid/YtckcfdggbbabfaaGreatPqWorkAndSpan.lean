/-
  Both sides of WorkAndSpan give the same. No program is in sight.
-/
import Derived.Test.YtckcfdggbbabfaaGreatPlCounts
import Derived.Test.YtckcfdggbbabfaaGreatModW
import Derived.Test.YtckcfdggbbabfaaGreatPlNet
import Derived.Test.YtckcfdggbbabfaaGreatPlTU
import Derived.Test.YtckcfdggbbabfaaGreatAbZ
namespace Go.Proofs.YtckcfdggbbabfaaGreat.Ab
set_option linter.unusedVariables false
set_option linter.unusedSimpArgs false
open Go.RowKit
theorem cG:∀L:List (List Int),(∀c ∈ L,CL c)→(L.map lenI).sum ≤600*(L.length:Int)
 | [],_=>by simp
 |c::L,h=>by
  have h1:=cG L fun x hx=>h x (List.mem_cons_of_mem _ hx)
  have h2:=(h c List.mem_cons_self).1
  rw [List.map_cons,List.sum_cons,List.length_cons]
  unfold lenI at h1 ⊢
  omega
theorem Ph (l:List Net) (n:Net) (b:Int) (hl:szl Net.sz l≤1048576) (hn:n.sz≤1048576):∃r,GH l n b=some r∧GI l n b=some r∧True:=by
 obtain⟨rs,e1,e2,h0,h2,h3⟩:=Rq l n b hl hn
 have hs:=cG rs.1 h3
 have hm:(rs.1.map lenI).map (fun x=>x)=rs.1.map lenI:=List.map_id' _
 have hw:Mu rs.1 =some (rs.1.map lenI).sum :=T6 E3 lenI (fun n l a i=>by rw [E3]; rfl) rs.1 (fun x hx=>by unfold lenI; omega) (by omega) (by unfold Big; omega)
 have hi:X8 (rs.1.map lenI)=some (rs.1.map lenI).sum :=by
  have:=T6 JI (fun x=>x) (fun n l a i=>by rw [JI]) (rs.1.map lenI) (fun x hx=>by
   obtain⟨c,-,rfl⟩:=List.mem_map.1 hx
   unfold lenI; omega) (by rw [hm]; omega) (by rw [List.length_map]; unfold Big; omega)
  rw [hm] at this
  exact this
 unfold GH GI
 rw [e1,e2,AA,AA]
 simp only
 rw [hi,AA,List.length_map]
 by_cases h:rs.2 =0
 ·rw [if_neg (by simp [h]),hw,AA,h]
  exact⟨_,rfl,rfl,trivial⟩
 ·rw [if_pos (by simpa using h),h0 h]
  exact⟨_,rfl,rfl,trivial⟩
end Go.Proofs.YtckcfdggbbabfaaGreat.Ab
namespace Go.Proofs.YtckcfdggbbabfaaGreat.Ab
set_option linter.unusedVariables false
set_option linter.unusedSimpArgs false
open Go.RowKit
theorem Jo {α:Type} {f:α→List D} {l:List α} (h:F9 (slD f l)):l.length≤9223372036854775807∧∀e ∈ l,F9 (f e):=by
 simp only [slD,F9,D.ok,List.length_map,and_true] at h
 exact⟨h.1,fun e he=>I4 h.2 he⟩
theorem Oa (a0:List Net) (h0:F9 ((slD Net.ds a0))) (a1:Net) (h1:F9 (Net.ds a1)) (a2:Int) (w2:(Lit.int IntKind.i64 a2).wf =true):EC a0 a1 a2=some true:=by
 unfold EC
 refine PY (Pf a0 (Jo h0).1 (fun e he=>Net.ok_of e ((Jo h0).2 e he)) (1048576) (by omega)) fun z0=>?_
 refine PY (Oj a1 (Net.ok_of a1 h1) (1048576 - szl Net.sz a0) (by omega)) fun z1=>?_
 have b0:szl Net.sz a0≤Big:=by unfold Big; omega
 have b1:a1.sz≤Big:=by unfold Big; omega
 obtain⟨r,hs,hi,hr⟩:=Ph a0 a1 a2 (by omega) (by omega)
 have ft0:Ck a0=some a0:=Pg a0 b0
 have fe0:GC a0 a0=some true:=(LD a0 a0 b0).true rfl
 have ft1:C5 a1=some a1:=Ol a1 b1
 have fe1:GM a1 a1=some true:=(Jn a1 a1 b1).true rfl
 simp only [AA,hs,hi,ft0,fe0,ft1,fe1,Bb,K5,beq_self_eq_true,cE,eq_self,decide_true,decide_false,Bool.not_true,Bool.not_false,Bool.false_eq_true,reduceIte]
end Go.Proofs.YtckcfdggbbabfaaGreat.Ab
