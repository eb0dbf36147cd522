/-
  The kinds of redexes, by a plain function, on both sides. No program is in sight.
-/
import Derived.Test.YtgigfdghecdlgaaPlC
import Derived.Test.YtgigfdghecdlgaaModS
namespace Go.Proofs.Ytgigfdghecdlgaa.Ab
set_option linter.unusedVariables false
set_option linter.unusedSimpArgs false
open Go.RowKit
def WH:Core:=⟨0,0,[],[]⟩
def kidC (l:List Core) (i:Nat):Core:=l.getD i WH
def rk (c:Core):Int:=
 if c.kind=5 then (if (kidC c.kids 0).kind =4 then 1 else if (kidC c.kids 0).kind =11 then 4 else 0)
 else if c.kind=3 then (if (kidC c.kids 0).kind =11 then 4 else if (kidC c.kids 0).kind =2 then (if (kidC c.kids 1).kind =2 then 2 else if (kidC c.kids 1).kind =11 then 4 else 0) else 0)
 else if c.kind=9 then (if (kidC c.kids 0).kind =8∧(kidC c.kids 0).value <(c.data.length:Int) then 3 else if (kidC c.kids 0).kind =11 then 4 else 0)
 else if c.kind=10 then (if (kidC c.kids 0).kind =2 then 3 else if (kidC c.kids 0).kind =11 then 4 else 0)
 else 0
theorem Gt {c:Core} (h:DA c=true):(c.kind=3∨c.kind=5→c.kids.length=2)∧(c.kind=4∨c.kind=9∨c.kind=10→c.kids.length=1)∧(c.kind=2∨c.kind=11→c.kids.length=0)∧(c.kind=8→c.kids.length≤3):=by
 unfold DA at h
 simp only [Bool.and_eq_true,decide_eq_true_eq] at h
 obtain⟨⟨⟨⟨h1,h2⟩,-⟩,-⟩,-⟩:=h
 have key:∀k a b p q,shape k=(a,b,p,q)→c.kind=k→a≤(c.kids.length:Int)∧(c.kids.length:Int)≤b:=fun k a b p q e hk=>by
  rw [hk,e] at h1 h2; exact⟨h1,h2⟩
 refine⟨fun hk=>?_,fun hk=>?_,fun hk=>?_,fun hk=>?_⟩
 ·rcases hk with hk|hk
  ·have:=key 3 2 2 0 0 (by decide) hk; omega
  ·have:=key 5 2 2 0 0 (by decide) hk; omega
 ·rcases hk with hk|hk|hk
  ·have:=key 4 1 1 0 0 (by decide) hk; omega
  ·have:=key 9 1 1 1 4 (by decide) hk; omega
  ·have:=key 10 1 1 2 2 (by decide) hk; omega
 ·rcases hk with hk|hk
  ·have:=key 2 0 0 0 0 (by decide) hk; omega
  ·have:=key 11 0 0 0 0 (by decide) hk; omega
 ·have:=key 8 0 3 0 0 (by decide) hk; omega
def actK (k:Int):Prop:=k=3∨k=5∨k=9∨k=10
theorem rk_kind {c:Core} (h:rk c≠0):c.kind=3∨c.kind=5∨c.kind=9∨c.kind=10:=by
 unfold rk at h
 by_cases h5:c.kind=5
 ·exact .inr (.inl h5)
 rw [if_neg h5] at h
 by_cases h3:c.kind=3
 ·exact .inl h3
 rw [if_neg h3] at h
 by_cases h9:c.kind=9
 ·exact .inr (.inr (.inl h9))
 rw [if_neg h9] at h
 by_cases h10:c.kind=10
 ·exact .inr (.inr (.inr h10))
 rw [if_neg h10] at h
 exact absurd rfl h
theorem PT {c:Core} (hk:c.kind=5):rk c=if (kidC c.kids 0).kind =4 then 1 else if (kidC c.kids 0).kind =11 then 4 else 0:=by unfold rk; rw [if_pos hk]
theorem PU {c:Core} (hk:c.kind=3):rk c=if (kidC c.kids 0).kind =11 then 4 else if (kidC c.kids 0).kind =2 then (if (kidC c.kids 1).kind =2 then 2 else if (kidC c.kids 1).kind =11 then 4 else 0) else 0:=by unfold rk; rw [if_neg (by omega),if_pos hk]
theorem PV {c:Core} (hk:c.kind=9):rk c=if (kidC c.kids 0).kind =8∧(kidC c.kids 0).value <(c.data.length:Int) then 3 else if (kidC c.kids 0).kind =11 then 4 else 0:=by unfold rk; rw [if_neg (by omega),if_neg (by omega),if_pos hk]
theorem Mr {c:Core} (hk:c.kind=10):rk c=if (kidC c.kids 0).kind =2 then 3 else if (kidC c.kids 0).kind =11 then 4 else 0:=by unfold rk; rw [if_neg (by omega),if_neg (by omega),if_neg (by omega),if_pos hk]
theorem rk_cases (c:Core):rk c=0∨(rk c=1∧c.kind=5∧(kidC c.kids 0).kind =4)∨(rk c=2∧c.kind=3∧(kidC c.kids 0).kind =2∧(kidC c.kids 1).kind =2)∨
  (rk c=3∧((c.kind=9∧(kidC c.kids 0).kind =8∧(kidC c.kids 0).value <(c.data.length:Int))∨(c.kind=10∧(kidC c.kids 0).kind =2)))∨
  (rk c=4∧actK c.kind∧((kidC c.kids 0).kind =11∨(c.kind=3∧(kidC c.kids 0).kind =2∧(kidC c.kids 1).kind =11))):=by
 rcases Classical.em (rk c=0) with h|h
 ·exact .inl h
 refine .inr ?_
 rcases rk_kind h with hk|hk|hk|hk
 ·rw [PU hk] at h ⊢
  by_cases h1:(kidC c.kids 0).kind =11
  ·rw [if_pos h1]; exact .inr (.inr (.inr ⟨rfl,.inl hk,.inl h1⟩))
  ·rw [if_neg h1] at h ⊢
   by_cases h2:(kidC c.kids 0).kind =2
   ·rw [if_pos h2] at h ⊢
    by_cases h3:(kidC c.kids 1).kind =2
    ·rw [if_pos h3]; exact .inr (.inl ⟨rfl,hk,h2,h3⟩)
    ·rw [if_neg h3] at h ⊢
     by_cases h4:(kidC c.kids 1).kind =11
     ·rw [if_pos h4]; exact .inr (.inr (.inr ⟨rfl,.inl hk,.inr ⟨hk,h2,h4⟩⟩))
     ·rw [if_neg h4] at h; exact absurd rfl h
   ·rw [if_neg h2] at h; exact absurd rfl h
 ·rw [PT hk] at h ⊢
  by_cases h1:(kidC c.kids 0).kind =4
  ·rw [if_pos h1]; exact .inl ⟨rfl,hk,h1⟩
  ·rw [if_neg h1] at h ⊢
   by_cases h4:(kidC c.kids 0).kind =11
   ·rw [if_pos h4]; exact .inr (.inr (.inr ⟨rfl,.inr (.inl hk),.inl h4⟩))
   ·rw [if_neg h4] at h; exact absurd rfl h
 ·rw [PV hk] at h ⊢
  by_cases h1:(kidC c.kids 0).kind =8∧(kidC c.kids 0).value <(c.data.length:Int)
  ·rw [if_pos h1]; exact .inr (.inr (.inl ⟨rfl,.inl ⟨hk,h1⟩⟩))
  ·rw [if_neg h1] at h ⊢
   by_cases h4:(kidC c.kids 0).kind =11
   ·rw [if_pos h4]; exact .inr (.inr (.inr ⟨rfl,.inr (.inr (.inl hk)),.inl h4⟩))
   ·rw [if_neg h4] at h; exact absurd rfl h
 ·rw [Mr hk] at h ⊢
  by_cases h1:(kidC c.kids 0).kind =2
  ·rw [if_pos h1]; exact .inr (.inr (.inl ⟨rfl,.inr ⟨hk,h1⟩⟩))
  ·rw [if_neg h1] at h ⊢
   by_cases h4:(kidC c.kids 0).kind =11
   ·rw [if_pos h4]; exact .inr (.inr (.inr ⟨rfl,.inr (.inr (.inr hk)),.inl h4⟩))
   ·rw [if_neg h4] at h; exact absurd rfl h
theorem QF {l:List Core} {i:Nat} (h:i<l.length):at? l (i:Int)=some (kidC l i):=by
 unfold at? kidC
 rw [if_pos (by omega),List.getD_eq_getElem?_getD,Int.toNat_natCast,List.getElem?_eq_getElem h]; rfl
theorem IZ {l:List Core} (h:0<l.length):at? l 0=some (kidC l 0):=QF (i:=0) h
theorem OS {l:List Core} (h:1<l.length):at? l 1=some (kidC l 1):=QF (i:=1) h
theorem Jk {c:Core} (hno:DA c=true) (hk:actK c.kind):0<c.kids.length:=by
 have hl:=Gt hno
 rcases hk with k|k|k|k
 ·have:=hl.1 (.inl k); omega
 ·have:=hl.1 (.inr k); omega
 ·have:=hl.2.1 (.inr (.inl k)); omega
 ·have:=hl.2.1 (.inr (.inr k)); omega
theorem HY (c:Core) (hno:DA c=true):DY c=some (rk c):=by
 unfold DY
 by_cases hk:actK c.kind
 ·have hlen:=Jk hno hk
  have hl:=Gt hno
  rw [decide_eq_false (by omega),if_neg (by simp),IZ hlen,AA]
  rcases hk with hk|hk|hk|hk
  ·rw [PU hk,OS (by have:=hl.1 (.inl hk); omega),AA]
   generalize kidC c.kids 0=f
   generalize kidC c.kids 1=a
   by_cases h1:f.kind=2 <;> by_cases h2:a.kind=2 <;> by_cases h3:f.kind=11 <;> by_cases h4:a.kind=11 <;> simp [hk,h1,h2,h3,h4,Cy,CP] <;> omega
  ·rw [PT hk]
   generalize kidC c.kids 0=f
   by_cases h1:f.kind=4 <;> by_cases h2:f.kind=11 <;> simp [hk,h1,h2] <;> omega
  ·rw [PV hk]
   generalize kidC c.kids 0=f
   by_cases h1:f.kind=8 <;> by_cases h2:f.kind=11 <;> by_cases h3:f.value<(c.data.length:Int) <;> simp [hk,h1,h2,h3,CQ,By,Bx] <;> omega
  ·rw [Mr hk]
   generalize kidC c.kids 0=f
   by_cases h1:f.kind=2 <;> by_cases h2:f.kind=11 <;> simp [hk,h1,h2,CQ,By,Bx] <;> omega
 ·have h0:rk c=0:=by
   rcases Classical.em (rk c=0) with h0|h0
   ·exact h0
   ·exact absurd (rk_kind h0) hk
  rw [h0]
  unfold actK at hk
  by_cases hz:((List.length c.kids:Nat):Int)=0
  ·rw [decide_eq_true hz,if_pos rfl]
  ·rw [decide_eq_false hz,if_neg (by simp),IZ (by omega),AA,decide_eq_false (by omega),if_neg (by simp),decide_eq_false (by omega),if_neg (by simp),decide_eq_false (by omega),if_neg (by simp),decide_eq_false (by omega)]
   rfl
theorem S7 (c:Core) (hno:DA c=true):Fj c=some (rk c):=by
 unfold Fj
 by_cases hk:actK c.kind
 ·have hlen:=Jk hno hk
  have hl:=Gt hno
  rw [IZ hlen]
  rcases hk with hk|hk|hk|hk
  ·rw [PU hk,OS (by have:=hl.1 (.inl hk); omega)]
   generalize kidC c.kids 0=f
   generalize kidC c.kids 1=a
   by_cases h1:f.kind=2 <;> by_cases h2:a.kind=2 <;> by_cases h3:f.kind=11 <;> by_cases h4:a.kind=11 <;> simp [hk,h1,h2,h3,h4] <;> omega
  ·rw [PT hk]
   generalize kidC c.kids 0=f
   by_cases h1:f.kind=4 <;> by_cases h2:f.kind=11 <;> simp [hk,h1,h2] <;> omega
  ·rw [PV hk]
   unfold Do
   rw [IZ hlen]
   generalize kidC c.kids 0=f
   by_cases h1:f.kind=8 <;> by_cases h2:f.kind=11 <;> by_cases h3:f.value<(c.data.length:Int) <;> simp [hk,h1,h2,h3] <;> omega
  ·rw [Mr hk]
   generalize kidC c.kids 0=f
   by_cases h1:f.kind=2 <;> by_cases h2:f.kind=11 <;> simp [hk,h1,h2] <;> omega
 ·have h0:rk c=0:=by
   rcases Classical.em (rk c=0) with h0|h0
   ·exact h0
   ·exact absurd (rk_kind h0) hk
  rw [h0]
  unfold actK at hk
  rw [decide_eq_false (by omega),if_neg (by simp),decide_eq_false (by omega),if_neg (by simp),decide_eq_false (by omega),if_neg (by simp),decide_eq_false (by omega),if_neg (by simp)]
end Go.Proofs.Ytgigfdghecdlgaa.Ab
