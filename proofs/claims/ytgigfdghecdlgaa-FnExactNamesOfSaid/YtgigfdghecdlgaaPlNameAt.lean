/-
  The name of the redex at a position: both sides answer alike. No program is in sight.
-/
import Derived.Test.YtgigfdghecdlgaaPlLu
namespace Go.Proofs.Ytgigfdghecdlgaa.Ab
set_option linter.unusedVariables false
set_option linter.unusedSimpArgs false
open Go.RowKit
mutual
theorem PS:∀ (c:Core),c.wf=true→∀e ∈ c.all,e.wf=true
 | ⟨k,v,d,ks⟩,h,e,he=>by
  rw [Core.all] at he
  rcases List.mem_cons.1 he with rfl|he
  ·exact h
  ·rw [Core.wf,Bool.and_eq_true] at h
   exact QD ks h.2 e he
theorem QD:∀ (l:List Core),Core.wfs l=true→∀e ∈ Core.alls l,e.wf=true
 | [],h,e,he=>by simp [Core.alls] at he
 |c::cs,h,e,he=>by
  rw [Core.wfs,Bool.and_eq_true] at h
  rw [Core.alls] at he
  rcases List.mem_append.1 he with he|he
  ·exact PS c h.1 e he
  ·exact QD cs h.2 e he
end
theorem QE {c:Core} (h:c.wf=true):DA c=true:=by
 rw [Core.wf_eq,Bool.and_eq_true] at h; exact h.1
def hd (x:Core):Core:=⟨x.kind,x.value,[],[]⟩
def amp:ByteArray:=ByteArray.mk #[38]
def FC (L:List ByteArray) (q:Nat):ByteArray:=L.getD q ByteArray.empty
def nm (L:List ByteArray) (c:Core) (p:Nat):ByteArray:=
 if c.kind=3∧(kidC c.kids 0).kind =2 then FC L (p+1)++(amp++FC L (p+1+(kidC c.kids 0).nodes)) else FC L (p+1)
theorem HH {a b:ByteArray} (h:a.size+b.size≤9223372036854775807):HU a b=some (a++b):=by unfold HU; rw [if_pos h]
theorem Fm {L:List ByteArray} (h:Dp L=true) (q:Nat):(FC L q).size ≤3000:=by
 unfold FC
 rw [List.getD_eq_getElem?_getD]
 cases hq:L[q]? with
 |none=>simp
 |some s=>
  unfold Dp at h
  rw [List.all_eq_true] at h
  have:=h s (List.mem_of_getElem? hq)
  simpa using this
theorem S5 (L:List ByteArray) (hL:Dp L=true) (c:Core) (p:Nat) (hno:DA c=true) (hr:rk c≠0):Az (c.ln L p)=some (nm L c p):=by
 have hact:actK c.kind:=rk_kind hr
 have hlen:=Jk hno hact
 have hl:=Gt hno
 obtain⟨f,r,hfr⟩:∃f r,c.kids=f::r:=List.exists_cons_of_length_pos hlen
 have hk0:kidC c.kids 0=f:=by rw [hfr]; rfl
 have ha0:(f.ln L (p+1)).label =FC L (p+1):=by rw [Core.ln_eq]; rfl
 unfold Az
 rw [Core.ln_eq]
 simp only
 rw [hfr,Core.lns,show ∀l,at? (f.ln L (p+1)::l) 0=some (f.ln L (p+1)) from fun _=>rfl,AA,HY c hno,AA]
 have hj:∀b,(b=true→c.kids.length=2)→AX ⟨c,L.getD p ByteArray.empty,(p:Int),f.ln L (p+1)::Core.lns L r (p+1+f.nodes)⟩ (f.ln L (p+1)) b=some (if b=true then FC L (p+1)++(amp++FC L (p+1+f.nodes)) else FC L (p+1)):=by
  intro b hb
  unfold AX
  cases b with
  |false=>rw [if_neg (by simp),if_neg (by simp),ha0]
  |true=>
   have h2:=hb rfl
   obtain⟨g,r',rfl⟩:∃g r',r=g::r':=List.exists_cons_of_length_pos (by rw [hfr] at h2; simp at h2; omega)
   have hg:(g.ln L (p+1+f.nodes)).label =FC L (p+1+f.nodes):=by rw [Core.ln_eq]; rfl
   rw [if_pos rfl,if_pos rfl]
   simp only
   rw [Core.lns,show ∀l,at? (f.ln L (p+1)::g.ln L (p+1+f.nodes)::l) 1=some (g.ln L (p+1+f.nodes)) from fun _=>rfl,AA,hg,ha0]
   have s1:=Fm hL (p+1)
   have s2:=Fm hL (p+1+f.nodes)
   have s3:(ByteArray.mk #[38]).size =1:=rfl
   rw [HH (by omega),AA,HH (by rw [ByteArray.size_append]; omega),AA]
   rfl
 have hfk:(f.ln L (p+1)).core.kind =f.kind:=by rw [Core.ln_eq]
 unfold nm
 rw [hk0]
 rcases rk_cases c with h|⟨h,h1,h2⟩|⟨h,h1,h2,h3⟩|⟨h,h1⟩|⟨h,h1,h2⟩
 ·exact absurd h hr
 ·rw [h,if_neg (by decide),if_neg (by decide),hj false (by simp),if_neg (by simp),if_neg (by omega)]
 ·rw [hk0] at h2
  rw [h,if_pos (by decide),hj true (fun _=>hl.1 (.inl h1)),if_pos rfl,if_pos ⟨h1,h2⟩]
 ·rw [h,if_neg (by decide),if_neg (by decide),hj false (by simp),if_neg (by simp),if_neg (by rcases h1 with ⟨h1,-⟩|⟨h1,-⟩ <;> omega)]
 ·rw [h,if_neg (by decide),if_pos (by decide)]
  by_cases h3:c.kind=3
  ·rw [if_pos (by simpa using h3),AA,hfk,hj _ (fun _=>hl.1 (.inl h3))]
   by_cases h4:f.kind=2
   ·rw [if_pos (by simpa using h4),if_pos ⟨h3,h4⟩]
   ·rw [if_neg (by simpa using h4),if_neg (fun h=>h4 h.2)]
  ·rw [if_neg (by simpa using h3),hj false (by simp),if_neg (by simp),if_neg (fun h=>h3 h.1)]
theorem S6 (L:List ByteArray) (hL:Dp L=true) (c:Core) (p:Nat) (hno:DA c=true) (hr:rk c≠0):Eg (c.lt L p)=some (nm L c p):=by
 have hact:actK c.kind:=rk_kind hr
 have hlen:=Jk hno hact
 have hl:=Gt hno
 obtain⟨f,r,hfr⟩:∃f r,c.kids=f::r:=List.exists_cons_of_length_pos hlen
 have hk0:kidC c.kids 0=f:=by rw [hfr]; rfl
 have ha0:(f.lt L (p+1)).label =FC L (p+1)∧(f.lt L (p+1)).kind =f.kind:=by rw [Core.lt_eq]; exact⟨rfl,rfl⟩
 unfold Eg
 rw [Core.lt_eq,hfr,Core.lts]
 have hj:∀b,(b=true→c.kids.length=2)→C6 ⟨c.kind,c.value,c.data,L.getD p ByteArray.empty,f.lt L (p+1)::Core.lts L r (p+1+f.nodes)⟩ b=some (if b=true then FC L (p+1)++(amp++FC L (p+1+f.nodes)) else FC L (p+1)):=by
  intro b hb
  unfold C6
  simp only
  rw [show ∀l,at? (f.lt L (p+1)::l) 0=some (f.lt L (p+1)) from fun _=>rfl]
  cases b with
  |false=>rw [if_neg (by simp),if_neg (by simp),AA,ha0.1]
  |true=>
   have h2:=hb rfl
   obtain⟨g,r',rfl⟩:∃g r',r=g::r':=List.exists_cons_of_length_pos (by rw [hfr] at h2; simp at h2; omega)
   have hg:(g.lt L (p+1+f.nodes)).label =FC L (p+1+f.nodes):=by rw [Core.lt_eq]; rfl
   have s1:=Fm hL (p+1)
   have s2:=Fm hL (p+1+f.nodes)
   have s3:(ByteArray.mk #[38]).size =1:=rfl
   rw [if_pos rfl,if_pos rfl,AA,ha0.1,HH (by omega),AA,Core.lts,show ∀l,at? (f.lt L (p+1)::g.lt L (p+1+f.nodes)::l) 1=some (g.lt L (p+1+f.nodes)) from fun _=>rfl,AA,hg,HH (by rw [ByteArray.size_append]; omega),AA,ByteArray.append_assoc]
   rfl
 unfold nm
 rw [hk0]
 simp only
 by_cases h3:c.kind=3
 ·rw [if_pos (by simpa using h3),show ∀l,at? (f.lt L (p+1)::l) 0=some (f.lt L (p+1)) from fun _=>rfl,AA,ha0.2,hj _ (fun _=>hl.1 (.inl h3))]
  by_cases h4:f.kind=2
  ·rw [if_pos (by simpa using h4),if_pos ⟨h3,h4⟩]
  ·rw [if_neg (by simpa using h4),if_neg (fun h=>h4 h.2)]
 ·rw [if_neg (by simpa using h3),hj false (by simp),if_neg (by simp),if_neg (fun h=>h3 h.1)]
theorem WG (x:Labelled) (hs:x.term.Small) (hN:x.term.nodes≤Big) (hl:x.labels.length≤Big):IT x=some x.valid:=by
 unfold IT Labelled.valid
 rw [Me _ hs hN,AA,Mi _ hs fuel (Ca hN),AA,PR _ hs _ fuel hl (Ca hN),AA,OK _ hl,AA]
 cases hc:x.term.closed with
 |false=>simp
 | true=>
  rw [if_pos rfl]
  cases x.term.anyC FA with
  |true=>simp
  |false=>
   rw [if_pos (by simp)]
   by_cases he:x.term.nodes=x.labels.length
   ·rw [if_pos (by rw [Gs (by omega)]; simp; omega)]; simp [he]
   ·rw [if_neg (by unfold szr; split <;> simp <;> omega)]; simp [he]
theorem OR (l:List Core) (p:Nat):(redl l p).length ≤l.length:=by
 have h1:∀ (l:List Core) (q:Nat),(Dx l q).length =l.length:=by
  intro l
  induction l with
  |nil=>intro q; rfl
  |cons a l ih=>intro q; rw [Dx,List.length_cons,List.length_cons,ih]
 have:=List.length_filter_le QA (Dx l p)
 rw [h1] at this
 exact this
end Go.Proofs.Ytgigfdghecdlgaa.Ab
