/-
  Redexes of core terms that are contracted at once,at marked positions: the plain function,and that what comes of it is such as a term must be. No program is in sight.
-/
import Derived.Test.YtjdinbgcgbigoaaGreatPlWf
namespace Go.Proofs.YtjdinbgcgbigoaaGreat.Ab
set_option linter.unusedVariables false
set_option linter.unusedSimpArgs false
open Go.RowKit
def Core.fit (c : Core) : Bool := decide (c.depth ≤ 80 ∧ c.nodes ≤ 400)
def fitO (c : Core) : Option Core := if c.fit = true then some c else none
structure Good (A : Nat) (e : Core) : Prop where
 wf : e.wf = true
 below : e.above A = false
 fit : e.fit = true
theorem Good.parts {A : Nat} {e : Core} (h : Good A e) : e.depth ≤ 80 ∧ e.nodes ≤ 400 := by have := h.fit; unfold Core.fit at this; simpa using this
theorem Good.small {A : Nat} {e : Core} (h : Good A e) : e.Small := small_of_wf e h.wf (by have := h.parts; unfold Big; omega)
def kidC (l : List Core) (i : Nat) : Core := l.getD i noCore
theorem getD_mem {α : Type} {l : List α} {i : Nat} {d : α} (h : i < l.length) : l.getD i d ∈ l := by
 rw [List.getD_eq_getElem?_getD,List.getElem?_eq_getElem h]
 exact List.getElem_mem h
theorem kidC_mem {l : List Core} {i : Nat} (h : i < l.length) : kidC l i ∈ l := getD_mem h
def rk (c : Core) : Int :=
 if c.kind = 5 then (if (kidC c.kids 0).kind = 4 then 1 else if (kidC c.kids 0).kind = 11 then 4 else 0)
 else if c.kind = 3 then (if (kidC c.kids 0).kind = 11 then 4 else if (kidC c.kids 0).kind = 2 then (if (kidC c.kids 1).kind = 2 then 2 else if (kidC c.kids 1).kind = 11 then 4 else 0) else 0)
 else if c.kind = 9 then (if (kidC c.kids 0).kind = 8 ∧ (kidC c.kids 0).value < (c.data.length : Int) then 3 else if (kidC c.kids 0).kind = 11 then 4 else 0)
 else if c.kind = 10 then (if (kidC c.kids 0).kind = 2 then 3 else if (kidC c.kids 0).kind = 11 then 4 else 0)
 else 0
def atC (c : Core) : Nat := if (kidC c.kids 0).kind = 11 then 0 else 1
def refC (d : Int) : Core := ⟨11,d,[],[]⟩
def appC (f a : Core) : Core := ⟨5,0,[],[f,a]⟩
def chosenC (d : Int) (l : List Core) : Core := l.foldl appC (refC d)
structure Env where
 defs : List Core
 op : Int → Int → Int → Int
def dvN (E : Env) (c : Core) (m : Bool) (l : List Core) : Core :=
 if m = true ∧ rk c = 1 then (kidC (kidC l 0).kids 0).mv (putF (kidC l 1)) 0
 else if m = true ∧ rk c = 2 then ⟨2,E.op c.value (kidC c.kids 0).value (kidC c.kids 1).value,[],[]⟩
 else if m = true ∧ rk c = 3 then (if c.kind = 9 then chosenC (c.data.getD (kidC c.kids 0).value.toNat 0) (kidC l 0).kids else refC (if (kidC c.kids 0).value = 0 then c.data.getD 1 0 else c.data.getD 0 0))
 else if m = true ∧ rk c = 4 then ⟨c.kind,c.value,c.data,l.set (atC c) (kidC E.defs (kidC c.kids (atC c)).value.toNat)⟩
 else ⟨c.kind,c.value,c.data,l⟩
mutual
def Core.dm (E : Env) (P : Nat → Bool) : Core → Nat → Option Core
 | ⟨k,v,d,ks⟩,p => (Core.dms E P ks (p + 1)).bind fun l => fitO (dvN E ⟨k,v,d,ks⟩ (P p) l)
def Core.dms (E : Env) (P : Nat → Bool) : List Core → Nat → Option (List Core)
 | [],_ => some []
 | c :: cs,p => (Core.dm E P c p).bind fun e => (Core.dms E P cs (p + c.nodes)).bind fun l => some (e :: l)
end
section
variable {E : Env} {P : Nat → Bool}
theorem Core.dm_eq (c : Core) (p : Nat) : c.dm E P p = (Core.dms E P c.kids (p + 1)).bind fun l => fitO (dvN E c (P p) l) := by cases c; rw [Core.dm]
theorem dms_append {x : Core} {post : List Core} : ∀ {pre : List Core} {acc : List Core} {p : Nat},Core.dms E P pre p = some acc → Core.dms E P (pre ++ x :: post) p = (x.dm E P (p + Core.nodess pre)).bind fun e => (Core.dms E P post (p + Core.nodess pre + x.nodes)).bind fun l => some (acc ++ e :: l)
 | [],acc,p,h => by rw [Core.dms] at h; cases h; rw [List.nil_append,Core.dms,Core.nodess,Nat.add_zero]; rfl
 | c :: cs,acc,p,h => by
  rw [Core.dms] at h
  cases hc : c.dm E P p with
  | none => rw [hc] at h; cases h
  | some e =>
   cases hcs : Core.dms E P cs (p + c.nodes) with
   | none => rw [hc,hcs] at h; cases h
   | some l =>
    rw [hc,hcs] at h
    cases h
    rw [List.cons_append,Core.dms,hc,dms_append hcs,Core.nodess,Nat.add_assoc p]
    cases x.dm E P (p + (c.nodes + Core.nodess cs)) with
    | none => rfl
    | some e2 => cases Core.dms E P post (p + (c.nodes + Core.nodess cs) + x.nodes) <;> rfl
theorem dms_snoc {x e : Core} {pre acc : List Core} {p : Nat} (h : Core.dms E P pre p = some acc) (hx : x.dm E P (p + Core.nodess pre) = some e) : Core.dms E P (pre ++ [x]) p = some (acc ++ [e]) := by
 rw [dms_append h,hx,Core.dms]; rfl
end
theorem node_len {c : Core} (h : nodeOk c = true) : (c.kind = 3 ∨ c.kind = 5 → c.kids.length = 2) ∧ (c.kind = 4 ∨ c.kind = 9 ∨ c.kind = 10 → c.kids.length = 1) ∧ (c.kind = 2 ∨ c.kind = 11 → c.kids.length = 0) ∧ (c.kind = 8 → c.kids.length ≤ 3) := by
 unfold nodeOk at h
 simp only [Bool.and_eq_true,decide_eq_true_eq] at h
 obtain ⟨⟨⟨⟨h1,h2⟩,-⟩,-⟩,-⟩ := h
 have key : ∀ k a b p q,shape k = (a,b,p,q) → c.kind = k → a ≤ (c.kids.length : Int) ∧ (c.kids.length : Int) ≤ b := fun k a b p q e hk => by
  rw [hk,e] at h1 h2; exact ⟨h1,h2⟩
 refine ⟨fun hk => ?_,fun hk => ?_,fun hk => ?_,fun hk => ?_⟩
 ·rcases hk with hk | hk
  ·have := key 3 2 2 0 0 (by decide) hk; omega
  ·have := key 5 2 2 0 0 (by decide) hk; omega
 ·rcases hk with hk | hk | hk
  ·have := key 4 1 1 0 0 (by decide) hk; omega
  ·have := key 9 1 1 1 4 (by decide) hk; omega
  ·have := key 10 1 1 2 2 (by decide) hk; omega
 ·rcases hk with hk | hk
  ·have := key 2 0 0 0 0 (by decide) hk; omega
  ·have := key 11 0 0 0 0 (by decide) hk; omega
 ·have := key 8 0 3 0 0 (by decide) hk; omega
theorem node_data {c : Core} (h : nodeOk c = true) : (∀ n ∈ c.data,0 ≤ n ∧ n ≤ 23) ∧ (c.kind = 10 → c.data.length = 2) := by
 unfold nodeOk at h
 simp only [Bool.and_eq_true,decide_eq_true_eq] at h
 obtain ⟨⟨⟨-,⟨h1,h2⟩⟩,-⟩,h3⟩ := h
 refine ⟨fun n hn => ?_,fun hk => ?_⟩
 ·have := List.all_eq_true.1 h3 n hn
  unfold inBook at this
  simpa using this
 ·have e : shape 10 = (1,1,2,2) := by decide
  rw [hk,e] at h1 h2
  have h1' : (2 : Int) ≤ (c.data.length : Int) := h1
  have h2' : (c.data.length : Int) ≤ 2 := h2
  omega
theorem node_val {c : Core} (h : nodeOk c = true) (hk : c.kind = 8 ∨ c.kind = 11) : 0 ≤ c.value := by
 unfold nodeOk at h
 simp only [Bool.and_eq_true] at h
 obtain ⟨⟨-,h1⟩,-⟩ := h
 unfold valOk at h1
 rcases hk with hk | hk <;> rw [hk] at h1 <;> simp at h1 <;> omega
theorem refC_wf {d : Int} (h : 0 ≤ d ∧ d ≤ 23) : (refC d).wf = true := by
 unfold refC
 rw [Core.wf,Core.wfs]
 simp [nodeOk,shape,valOk,h]
theorem refC_above {d : Int} {A : Nat} : (refC d).above A = false := by
 unfold refC
 rw [Core.above,if_neg (by omega),Core.aboves]
theorem appC_wf {f a : Core} (hf : f.wf = true) (ha : a.wf = true) : (appC f a).wf = true := by
 unfold appC
 rw [Core.wf,Core.wfs,Core.wfs,Core.wfs,hf,ha]
 simp [nodeOk,shape,valOk]
theorem appC_above {f a : Core} {A : Nat} (hf : f.above A = false) (ha : a.above A = false) : (appC f a).above A = false := by
 unfold appC
 rw [Core.above,if_neg (by omega),Core.aboves,Core.aboves,Core.aboves]
 have h0 : bnd 5 0 = 0 := rfl
 have h1 : bnd 5 (0 + 1) = 0 := rfl
 rw [h0,h1,Nat.add_zero,hf,ha]; rfl
theorem chosen_wf : ∀ {l : List Core} {f : Core},f.wf = true → (∀ x ∈ l,x.wf = true) → (l.foldl appC f).wf = true
 | [],f,hf,_ => hf
 | x :: l,f,hf,h => by
  rw [List.foldl_cons]
  exact chosen_wf (appC_wf hf (h x (by simp))) fun y hy => h y (by simp [hy])
theorem chosen_above {A : Nat} : ∀ {l : List Core} {f : Core},f.above A = false → (∀ x ∈ l,x.above A = false) → (l.foldl appC f).above A = false
 | [],f,hf,_ => hf
 | x :: l,f,hf,h => by
  rw [List.foldl_cons]
  exact chosen_above (appC_above hf (h x (by simp))) fun y hy => h y (by simp [hy])
theorem chosen_nodes : ∀ {l : List Core} {f : Core},(l.foldl appC f).nodes = f.nodes + Core.nodess l + l.length
 | [],f => by rw [Core.nodess]; simp
 | x :: l,f => by
  rw [List.foldl_cons,chosen_nodes,Core.nodess,List.length_cons]
  unfold appC
  rw [Core.nodes,Core.nodess,Core.nodess,Core.nodess]
  omega
theorem aboves_mem {k : Int} {x : Core} {A : Nat} (hk : ∀ i,bnd k i = 0) : ∀ {l : List Core} {i : Nat},Core.aboves k l i A = false → x ∈ l → x.above A = false
 | y :: l,i,h,hx => by
  rw [Core.aboves,Bool.or_eq_false_iff,hk,Nat.add_zero] at h
  rcases List.mem_cons.1 hx with rfl | hx
  ·exact h.1
  ·exact aboves_mem hk h.2 hx
theorem aboves_all {k : Int} {A : Nat} (hk : ∀ i,bnd k i = 0) : ∀ {l : List Core} {i : Nat},(∀ x ∈ l,x.above A = false) → Core.aboves k l i A = false
 | [],_,_ => by rw [Core.aboves]
 | y :: l,i,h => by
  rw [Core.aboves,hk,Nat.add_zero,h y (by simp),aboves_all hk fun x hx => h x (by simp [hx])]; rfl
theorem bnd_0 {k : Int} (h4 : k ≠ 4) (h7 : k ≠ 7) (i : Nat) : bnd k i = 0 := by
 unfold bnd
 rw [if_neg (by rintro (h | ⟨h,-⟩); exact h4 h; exact h7 h)]
mutual
theorem above_mono {A B : Nat} (hAB : A ≤ B) : ∀ {c : Core},c.above A = false → c.above B = false
 | ⟨k,v,d,ks⟩,h => by
  rw [Core.above] at h ⊢
  split
  ·rename_i h1
   rw [if_pos h1] at h
   simp at h ⊢
   omega
  ·rename_i h1
   rw [if_neg h1] at h
   exact aboves_mono hAB h
theorem aboves_mono {k : Int} {A B : Nat} (hAB : A ≤ B) : ∀ {l : List Core} {i : Nat},Core.aboves k l i A = false → Core.aboves k l i B = false
 | [],i,_ => by rw [Core.aboves]
 | c :: cs,i,h => by
  rw [Core.aboves,Bool.or_eq_false_iff] at h ⊢
  exact ⟨above_mono (by omega) h.1,aboves_mono hAB h.2⟩
end
structure EnvOk (E : Env) : Prop where
 defs : ∀ d ∈ E.defs,d.wf = true ∧ d.above 0 = false ∧ d.nodes ≤ 400 ∧ d.depth ≤ 80
 op : ∀ o a b,-2147483648 ≤ E.op o a b ∧ E.op o a b ≤ 2147483647
def actK (k : Int) : Prop := k = 3 ∨ k = 5 ∨ k = 9 ∨ k = 10
def Kept (c : Core) (l : List Core) : Prop := ∀ i,i < c.kids.length → ¬ actK (kidC c.kids i).kind → (kidC l i).kind = (kidC c.kids i).kind ∧ (kidC l i).value = (kidC c.kids i).value
theorem actK_no {k : Int} (h : k = 2 ∨ k = 4 ∨ k = 8 ∨ k = 11) : ¬ actK k := by unfold actK; omega
theorem rk_kind {c : Core} (h : rk c ≠ 0) : c.kind = 3 ∨ c.kind = 5 ∨ c.kind = 9 ∨ c.kind = 10 := by
 unfold rk at h
 by_cases h5 : c.kind = 5
 ·exact .inr (.inl h5)
 rw [if_neg h5] at h
 by_cases h3 : c.kind = 3
 ·exact .inl h3
 rw [if_neg h3] at h
 by_cases h9 : c.kind = 9
 ·exact .inr (.inr (.inl h9))
 rw [if_neg h9] at h
 by_cases h10 : c.kind = 10
 ·exact .inr (.inr (.inr h10))
 rw [if_neg h10] at h
 exact absurd rfl h
theorem rk_at5 {c : Core} (hk : c.kind = 5) : rk c = if (kidC c.kids 0).kind = 4 then 1 else if (kidC c.kids 0).kind = 11 then 4 else 0 := by unfold rk; rw [if_pos hk]
theorem rk_at3 {c : Core} (hk : c.kind = 3) : rk c = if (kidC c.kids 0).kind = 11 then 4 else if (kidC c.kids 0).kind = 2 then (if (kidC c.kids 1).kind = 2 then 2 else if (kidC c.kids 1).kind = 11 then 4 else 0) else 0 := by unfold rk; rw [if_neg (by omega),if_pos hk]
theorem rk_at9 {c : Core} (hk : c.kind = 9) : rk c = if (kidC c.kids 0).kind = 8 ∧ (kidC c.kids 0).value < (c.data.length : Int) then 3 else if (kidC c.kids 0).kind = 11 then 4 else 0 := by unfold rk; rw [if_neg (by omega),if_neg (by omega),if_pos hk]
theorem rk_at10 {c : Core} (hk : c.kind = 10) : rk c = if (kidC c.kids 0).kind = 2 then 3 else if (kidC c.kids 0).kind = 11 then 4 else 0 := by unfold rk; rw [if_neg (by omega),if_neg (by omega),if_neg (by omega),if_pos hk]
theorem rk_cases (c : Core) : rk c = 0 ∨ (rk c = 1 ∧ c.kind = 5 ∧ (kidC c.kids 0).kind = 4) ∨ (rk c = 2 ∧ c.kind = 3 ∧ (kidC c.kids 0).kind = 2 ∧ (kidC c.kids 1).kind = 2) ∨
  (rk c = 3 ∧ ((c.kind = 9 ∧ (kidC c.kids 0).kind = 8 ∧ (kidC c.kids 0).value < (c.data.length : Int)) ∨ (c.kind = 10 ∧ (kidC c.kids 0).kind = 2))) ∨
  (rk c = 4 ∧ actK c.kind ∧ ((kidC c.kids 0).kind = 11 ∨ (c.kind = 3 ∧ (kidC c.kids 0).kind = 2 ∧ (kidC c.kids 1).kind = 11))) := by
 rcases Classical.em (rk c = 0) with h | h
 ·exact .inl h
 refine .inr ?_
 rcases rk_kind h with hk | hk | hk | hk
 ·rw [rk_at3 hk] at h ⊢
  by_cases h1 : (kidC c.kids 0).kind = 11
  ·rw [if_pos h1]; exact .inr (.inr (.inr ⟨rfl,.inl hk,.inl h1⟩))
  ·rw [if_neg h1] at h ⊢
   by_cases h2 : (kidC c.kids 0).kind = 2
   ·rw [if_pos h2] at h ⊢
    by_cases h3 : (kidC c.kids 1).kind = 2
    ·rw [if_pos h3]; exact .inr (.inl ⟨rfl,hk,h2,h3⟩)
    ·rw [if_neg h3] at h ⊢
     by_cases h4 : (kidC c.kids 1).kind = 11
     ·rw [if_pos h4]; exact .inr (.inr (.inr ⟨rfl,.inl hk,.inr ⟨hk,h2,h4⟩⟩))
     ·rw [if_neg h4] at h; exact absurd rfl h
   ·rw [if_neg h2] at h; exact absurd rfl h
 ·rw [rk_at5 hk] at h ⊢
  by_cases h1 : (kidC c.kids 0).kind = 4
  ·rw [if_pos h1]; exact .inl ⟨rfl,hk,h1⟩
  ·rw [if_neg h1] at h ⊢
   by_cases h4 : (kidC c.kids 0).kind = 11
   ·rw [if_pos h4]; exact .inr (.inr (.inr ⟨rfl,.inr (.inl hk),.inl h4⟩))
   ·rw [if_neg h4] at h; exact absurd rfl h
 ·rw [rk_at9 hk] at h ⊢
  by_cases h1 : (kidC c.kids 0).kind = 8 ∧ (kidC c.kids 0).value < (c.data.length : Int)
  ·rw [if_pos h1]; exact .inr (.inr (.inl ⟨rfl,.inl ⟨hk,h1⟩⟩))
  ·rw [if_neg h1] at h ⊢
   by_cases h4 : (kidC c.kids 0).kind = 11
   ·rw [if_pos h4]; exact .inr (.inr (.inr ⟨rfl,.inr (.inr (.inl hk)),.inl h4⟩))
   ·rw [if_neg h4] at h; exact absurd rfl h
 ·rw [rk_at10 hk] at h ⊢
  by_cases h1 : (kidC c.kids 0).kind = 2
  ·rw [if_pos h1]; exact .inr (.inr (.inl ⟨rfl,.inr ⟨hk,h1⟩⟩))
  ·rw [if_neg h1] at h ⊢
   by_cases h4 : (kidC c.kids 0).kind = 11
   ·rw [if_pos h4]; exact .inr (.inr (.inr ⟨rfl,.inr (.inr (.inr hk)),.inl h4⟩))
   ·rw [if_neg h4] at h; exact absurd rfl h
theorem rk_1 {c : Core} (h : rk c = 1) : c.kind = 5 ∧ (kidC c.kids 0).kind = 4 := by
 rcases rk_cases c with k | k | k | k | k
 ·omega
 ·exact k.2
 ·omega
 ·omega
 ·omega
theorem rk_3 {c : Core} (h : rk c = 3) : (c.kind = 9 ∧ (kidC c.kids 0).kind = 8 ∧ (kidC c.kids 0).value < (c.data.length : Int)) ∨ (c.kind = 10 ∧ (kidC c.kids 0).kind = 2) := by
 rcases rk_cases c with k | k | k | k | k
 ·omega
 ·omega
 ·omega
 ·exact k.2
 ·omega
theorem rk_4 {c : Core} (h : rk c = 4) (hno : nodeOk c = true) : (kidC c.kids (atC c)).kind = 11 ∧ atC c < c.kids.length := by
 have hl := node_len hno
 rcases rk_cases c with k | k | k | k | ⟨-,k,k2⟩
 ·omega
 ·omega
 ·omega
 ·omega
 ·have hlen : 0 < c.kids.length := by
   rcases k with k | k | k | k
   ·have := hl.1 (.inl k); omega
   ·have := hl.1 (.inr k); omega
   ·have := hl.2.1 (.inr (.inl k)); omega
   ·have := hl.2.1 (.inr (.inr k)); omega
  unfold atC
  rcases k2 with k2 | ⟨k3,k4,k5⟩
  ·rw [if_pos k2]; exact ⟨k2,hlen⟩
  ·rw [if_neg (by omega)]
   have := hl.1 (.inl k3)
   exact ⟨k5,by omega⟩
theorem node_dv {E : Env} (hE : EnvOk E) (c : Core) (hw : c.wf = true) (A : Nat) (hA : A + c.depth ≤ 81) (ha : c.above A = false) (hn : ∀ x ∈ c.kids,x.kind = 11 → x.value < (E.defs.length : Int)) (m : Bool) (l : List Core) (hlen : l.length = c.kids.length) (hwl : Core.wfs l = true) (hal : c.kind ≠ 1 → Core.aboves c.kind l 0 A = false) (hfit : ∀ x ∈ l,x.wf = true ∧ x.fit = true) (hkept : Kept c l) :
  (dvN E c m l).wf = true ∧ (dvN E c m l).above A = false := by
 obtain ⟨hno,hwk⟩ := nodeOk_of hw
 have hl := node_len hno
 have hkid : ∀ i,i < c.kids.length → kidC l i ∈ l := fun i hi => kidC_mem (by omega)
 unfold dvN
 by_cases h1 : m = true ∧ rk c = 1
 ·rw [if_pos h1]
  obtain ⟨hk,hf⟩ := rk_1 h1.2
  have h2 := hl.1 (.inr hk)
  have ha' := hal (by omega)
  have hb : ∀ i,bnd c.kind i = 0 := bnd_0 (by omega) (by omega)
  have a0 := aboves_mem hb ha' (hkid 0 (by omega))
  have a1 := aboves_mem hb ha' (hkid 1 (by omega))
  obtain ⟨w0,f0⟩ := hfit _ (hkid 0 (by omega))
  obtain ⟨w1,f1⟩ := hfit _ (hkid 1 (by omega))
  have hk4 : (kidC l 0).kind = 4 := (hkept 0 (by omega) (actK_no (by omega))).1.trans hf
  obtain ⟨no0,wk0⟩ := nodeOk_of w0
  have hl0 := (node_len no0).2.1 (.inl hk4)
  have hmem : kidC (kidC l 0).kids 0 ∈ (kidC l 0).kids := kidC_mem (by omega)
  have wb := wfs_mem hmem wk0
  have ab : (kidC (kidC l 0).kids 0).above (A + 1) = false := by
   rw [Core.above_eq,if_neg (by omega),hk4] at a0
   match hq : (kidC l 0).kids,hl0 with
   | [b],_ =>
    rw [hq,Core.aboves,Core.aboves,Bool.or_false] at a0
    exact a0
  have hd := kid_depth hmem
  unfold Core.fit at f0 f1
  simp at f0 f1
  have hd0 := f0.1
  rw [Core.depth_eq] at hd0
  exact ⟨put_wf A _ w1 a1 (by omega) _ 0 wb (by rw [Nat.add_zero]; exact ab) (by omega),put_above A _ a1 _ 0 (by rw [Nat.add_zero]; exact ab)⟩
 rw [if_neg h1]
 by_cases h2 : m = true ∧ rk c = 2
 ·rw [if_pos h2]
  have := hE.op c.value (kidC c.kids 0).value (kidC c.kids 1).value
  refine ⟨?_,?_⟩
  ·rw [Core.wf,Core.wfs]
   simp [nodeOk,shape,valOk,this]
  ·rw [Core.above,if_neg (by omega),Core.aboves]
 rw [if_neg h2]
 by_cases h3 : m = true ∧ rk c = 3
 ·rw [if_pos h3]
  obtain ⟨hdat,hd10⟩ := node_data hno
  rcases rk_3 h3.2 with ⟨hk,hf,hv⟩ | ⟨hk,hf⟩
  ·rw [if_pos hk]
   have h1' := hl.2.1 (.inr (.inl hk))
   have hk8 : (kidC l 0).kind = 8 := (hkept 0 (by omega) (actK_no (by omega))).1.trans hf
   obtain ⟨w0,f0⟩ := hfit _ (hkid 0 (by omega))
   obtain ⟨no0,wk0⟩ := nodeOk_of w0
   have ha' := hal (by omega)
   have a0 := aboves_mem (bnd_0 (by omega) (by omega)) ha' (hkid 0 (by omega))
   rw [Core.above_eq,if_neg (by omega)] at a0
   have hv0 := node_val (nodeOk_of (wfs_mem (kidC_mem (show 0 < c.kids.length by omega)) hwk)).1 (.inl hf)
   have hdv : c.data.getD (kidC c.kids 0).value.toNat 0 ∈ c.data := by
    exact getD_mem (by omega)
   exact ⟨chosen_wf (refC_wf (hdat _ hdv)) fun x hx => wfs_mem hx wk0,chosen_above refC_above fun x hx => aboves_mem (bnd_0 (by omega) (by omega)) a0 hx⟩
  ·rw [if_neg (by omega)]
   have h2' := hd10 hk
   refine ⟨refC_wf ?_,refC_above⟩
   split
   ·exact hdat _ (getD_mem (by omega))
   ·exact hdat _ (getD_mem (by omega))
 rw [if_neg h3]
 by_cases h4 : m = true ∧ rk c = 4
 ·rw [if_pos h4]
  obtain ⟨hf,hlt⟩ := rk_4 h4.2 hno
  have hk := rk_kind (c := c) (by omega)
  have hmem := kidC_mem hlt
  have hv := hn _ hmem hf
  have hv0 := node_val (nodeOk_of (wfs_mem hmem hwk)).1 (.inr hf)
  have hdm : kidC E.defs (kidC c.kids (atC c)).value.toNat ∈ E.defs := kidC_mem (by omega)
  obtain ⟨d1,d2,-,-⟩ := hE.defs _ hdm
  have hb : ∀ i,bnd c.kind i = 0 := bnd_0 (by omega) (by omega)
  refine ⟨?_,?_⟩
  ·rw [Core.wf,nodeOk_len (b := c.kids) (by rw [List.length_set]; exact hlen),wfs_all fun x hx => by
    rcases List.mem_or_eq_of_mem_set hx with hx | rfl
    ·exact (hfit x hx).1
    ·exact d1]
   have : nodeOk ⟨c.kind,c.value,c.data,c.kids⟩ = true := hno
   rw [this]; rfl
  ·rw [Core.above,if_neg (by omega)]
   refine aboves_all hb fun x hx => ?_
   rcases List.mem_or_eq_of_mem_set hx with hx | rfl
   ·exact aboves_mem hb (hal (by omega)) hx
   ·exact above_mono (Nat.zero_le A) d2
 rw [if_neg h4]
 constructor
 ·rw [Core.wf,nodeOk_len hlen,hwl]
  have : nodeOk ⟨c.kind,c.value,c.data,c.kids⟩ = true := hno
  rw [this]; rfl
 ·rw [Core.above]
  by_cases h1 : c.kind = 1
  ·rw [Core.above_eq,if_pos h1] at ha
   rw [if_pos h1]; exact ha
  ·rw [if_neg h1]; exact hal h1
theorem names_kid {c : Core} {n : Nat} (h : c.anyC (names n) = false) {x : Core} (hx : x ∈ c.kids) : x.anyC (names n) = false := by
 rw [Core.anyC_eq,Bool.or_eq_false_iff,Core.anysC_any] at h
 have := List.any_eq_false.1 h.2 x hx
 simpa using this
theorem names_ref {x : Core} {n : Nat} (h : x.anyC (names n) = false) (hk : x.kind = 11) : x.value < (n : Int) := by
 rw [Core.anyC_eq,Bool.or_eq_false_iff] at h
 have := h.1
 unfold names at this
 simp [hk] at this
 omega
section
variable {E : Env} {P : Nat → Bool}
theorem dm_head {c e : Core} {p : Nat} (h : c.dm E P p = some e) (hk : ¬ actK c.kind) : e.kind = c.kind ∧ e.value = c.value := by
 rw [Core.dm_eq] at h
 cases hl : Core.dms E P c.kids (p + 1) with
 | none => rw [hl] at h; cases h
 | some l =>
  rw [hl] at h
  replace h : fitO (dvN E c (P p) l) = some e := h
  have h0 : rk c = 0 := by
   rcases Classical.em (rk c = 0) with h0 | h0
   ·exact h0
   ·exact absurd (rk_kind h0) hk
  unfold fitO at h
  split at h
  ·cases h
   unfold dvN
   rw [if_neg (by omega),if_neg (by omega),if_neg (by omega),if_neg (by omega)]
   exact ⟨rfl,rfl⟩
  ·cases h
theorem dms_good (k : Int) : ∀ (l l' : List Core) (i A p : Nat),(∀ x ∈ l,x.wf = true → ∀ A p,A + x.depth ≤ 81 → x.above A = false → ∀ e,x.dm E P p = some e → Good A e) → Core.wfs l = true → Core.aboves k l i A = false → A + Core.depths l ≤ 80 → Core.dms E P l p = some l' →
  l'.length = l.length ∧ Core.wfs l' = true ∧ Core.aboves k l' i A = false ∧ Core.nodess l' ≤ 400 * l.length ∧ (∀ x ∈ l',x.wf = true ∧ x.fit = true) ∧ ∀ j,j < l.length → ¬ actK (kidC l j).kind → (kidC l' j).kind = (kidC l j).kind ∧ (kidC l' j).value = (kidC l j).value
 | [],l',i,A,p,_,_,_,_,h => by rw [Core.dms] at h; cases h; exact ⟨rfl,by rw [Core.wfs],by rw [Core.aboves],by rw [Core.nodess]; omega,(fun x hx => by cases hx),fun j hj => by simp at hj⟩
 | c :: cs,l',i,A,p,ih,hw,ha,hd,h => by
  rw [Core.wfs,Bool.and_eq_true] at hw
  rw [Core.aboves,Bool.or_eq_false_iff] at ha
  rw [Core.depths] at hd
  rw [Core.dms] at h
  have hb := bnd_le k i
  cases hc : c.dm E P p with
  | none => rw [hc] at h; cases h
  | some e =>
   cases hcs : Core.dms E P cs (p + c.nodes) with
   | none => rw [hc,hcs] at h; cases h
   | some l =>
    rw [hc,hcs] at h
    cases h
    have g := ih c (by simp) hw.1 (A + bnd k i) p (by omega) ha.1 e hc
    obtain ⟨h1,h2,h3,h4,h5,h6⟩ := dms_good k cs l (i + 1) A (p + c.nodes) (fun x hx => ih x (by simp [hx])) hw.2 ha.2 (by omega) hcs
    have := g.parts
    refine ⟨by simp [h1],by rw [Core.wfs,g.wf,h2]; rfl,by rw [Core.aboves,g.below,h3]; rfl,by rw [Core.nodess,List.length_cons]; omega,(fun x hx => ?_),fun j hj hk => ?_⟩
    ·rcases List.mem_cons.1 hx with rfl | hx
     ·exact ⟨g.wf,g.fit⟩
     ·exact h5 x hx
    ·cases j with
     | zero => exact dm_head hc hk
     | succ j => exact h6 j (by simpa using hj) hk
theorem kids_dv (hE : EnvOk E) (c : Core) (hw : c.wf = true) (hnm : c.anyC (names E.defs.length) = false) (A p : Nat) (hA : A + c.depth ≤ 81) (ha : c.above A = false)
  (ih : ∀ x ∈ c.kids,x.wf = true → ∀ A p,A + x.depth ≤ 81 → x.above A = false → ∀ e,x.dm E P p = some e → Good A e) {l : List Core} (hl : Core.dms E P c.kids (p + 1) = some l) (m : Bool) :
  l.length = c.kids.length ∧ Core.nodess l ≤ 400 * c.kids.length ∧ (∀ x ∈ l,x.wf = true ∧ x.fit = true) ∧ Kept c l ∧ (dvN E c m l).wf = true ∧ (dvN E c m l).above A = false := by
 obtain ⟨hno,hwk⟩ := nodeOk_of hw
 have hn : ∀ x ∈ c.kids,x.kind = 11 → x.value < (E.defs.length : Int) := fun x hx hk => names_ref (names_kid hnm hx) hk
 by_cases h1 : c.kind = 1
 ·have hk := var_kids hno h1
  have hl' := hl
  rw [hk,Core.dms] at hl'
  cases hl'
  have hkept : Kept c [] := fun i hi => by rw [hk] at hi; simp at hi
  obtain ⟨g1,g2⟩ := node_dv hE c hw A hA ha hn m [] (by rw [hk]) (by rw [Core.wfs]) (fun h => absurd h1 h) (fun x hx => by cases hx) hkept
  exact ⟨by rw [hk],by rw [Core.nodess]; omega,(fun x hx => by cases hx),hkept,g1,g2⟩
 ·have hab : Core.aboves c.kind c.kids 0 A = false := by rw [Core.above_eq,if_neg h1] at ha; exact ha
  have hA' := hA
  rw [Core.depth_eq] at hA'
  obtain ⟨k1,k2,k3,k4,k5,k6⟩ := dms_good c.kind c.kids l 0 A (p + 1) ih hwk hab (by omega) hl
  obtain ⟨g1,g2⟩ := node_dv hE c hw A hA ha hn m l k1 k2 (fun _ => k3) k5 k6
  exact ⟨k1,k4,k5,k6,g1,g2⟩
theorem dm_good (hE : EnvOk E) : ∀ (c : Core),c.wf = true → c.anyC (names E.defs.length) = false → ∀ A p,A + c.depth ≤ 81 → c.above A = false → ∀ e,c.dm E P p = some e → Good A e := by
 refine Core.ind fun c ih hw hnm A p hA ha e he => ?_
 rw [Core.dm_eq] at he
 cases hl : Core.dms E P c.kids (p + 1) with
 | none => rw [hl] at he; cases he
 | some l =>
  rw [hl] at he
  replace he : fitO (dvN E c (P p) l) = some e := he
  obtain ⟨-,-,-,-,g1,g2⟩ := kids_dv hE c hw hnm A p hA ha (fun x hx hwx => ih x hx hwx (names_kid hnm hx)) hl (P p)
  unfold fitO at he
  split at he
  ·rename_i hf
   cases he
   exact ⟨g1,g2,hf⟩
  ·cases he
end
end Go.Proofs.YtjdinbgcgbigoaaGreat.Ab
