/-
  Redexes contracted at once: both sides,whole terms. No program is in sight.
-/
import Derived.Test.YtjdinbgcgbigoaaGreatPlDw
namespace Go.Proofs.YtjdinbgcgbigoaaGreat.Ab
set_option linter.unusedVariables false
set_option linter.unusedSimpArgs false
open Go.RowKit
theorem coreFits_fit (c : Core) (hs : c.Small) (hN : c.nodes ≤ Big) : i_coreFits c = some c.fit := coreFits_eq c hs hN
theorem l08Fits_eq (c : Core) (hs : c.Small) (hN : c.nodes ≤ Big) : s_l08Fits c = some c.fit := by
 unfold s_l08Fits
 have e := l08Left_eq c hs 400 fuel (by unfold Big; omega) (fuel_nodes hN)
 rw [show ((400 : Nat) : Int) = 400 from rfl] at e
 rw [e,bind_some',l06Depth_eq c hs hN fuel (fuel_nodes hN)]
 unfold Core.fit szr
 by_cases h : c.nodes ≤ 400
 ·rw [if_pos h,if_pos (by simp),bind_some']
  congr 1
  simp [h]
  omega
 ·rw [if_neg h,if_neg (by simp)]
  congr 1
  simp [h]
theorem nodess_app {x : Core} {post : List Core} : ∀ {pre : List Core},Core.nodess (pre ++ x :: post) = Core.nodess pre + (x.nodes + Core.nodess post)
 | [] => by rw [List.nil_append,Core.nodess,Core.nodess]; omega
 | c :: cs => by rw [List.cons_append,Core.nodess,Core.nodess,nodess_app]; omega
theorem nodess_set {x : Core} : ∀ {l : List Core} {i : Nat},Core.nodess (l.set i x) ≤ Core.nodess l + x.nodes
 | [],i => by simp [Core.nodess]
 | c :: cs,0 => by rw [List.set_cons_zero,Core.nodess,Core.nodess]; omega
 | c :: cs,i + 1 => by
  rw [List.set_cons_succ,Core.nodess,Core.nodess]
  have := nodess_set (x := x) (l := cs) (i := i)
  omega
section
variable {E : Env}
theorem dvN_nodes (hE : EnvOk E) (c : Core) (hw : c.wf = true) (hn : ∀ x ∈ c.kids,x.kind = 11 → x.value < (E.defs.length : Int)) (m : Bool) (l : List Core) (hlen : l.length = c.kids.length) (hN : c.kids.length ≤ 400) (hln : Core.nodess l ≤ 400 * c.kids.length) (hfit : ∀ x ∈ l,x.wf = true ∧ x.fit = true) :
  (dvN E c m l).nodes ≤ Big := by
 obtain ⟨hno,hwk⟩ := nodeOk_of hw
 have hl := node_len hno
 have hkid : ∀ i,i < c.kids.length → kidC l i ∈ l := fun i hi => kidC_mem (by omega)
 have hnode : (⟨c.kind,c.value,c.data,l⟩ : Core).nodes ≤ Big := by rw [Core.nodes]; unfold Big; omega
 cases m with
 | false => rw [dvN_0 (by simp)]; exact hnode
 | true =>
  rcases rk_cases c with k | ⟨k,k1,k2⟩ | ⟨k,-⟩ | ⟨k,k1⟩ | ⟨k,k1,k2⟩
  ·rw [dvN_0 (by simp [k])]; exact hnode
  ·rw [dvN_1 k]
   have h2 := hl.1 (.inr k1)
   obtain ⟨w0,f0⟩ := hfit _ (hkid 0 (by omega))
   obtain ⟨w1,f1⟩ := hfit _ (hkid 1 (by omega))
   unfold Core.fit at f0 f1
   simp at f0 f1
   obtain ⟨no0,wk0⟩ := nodeOk_of w0
   have hn0 := f0.2
   rw [Core.nodes_eq] at hn0
   by_cases hz : 0 < (kidC l 0).kids.length
   ·have hmem : kidC (kidC l 0).kids 0 ∈ (kidC l 0).kids := kidC_mem hz
    have hnb := nodess_mem hmem
    have wb := wfs_mem hmem wk0
    have ho := Core.occ_le (kidC (kidC l 0).kids 0) 0
    have hpn := put_nodes (kidC l 1) w1 (kidC (kidC l 0).kids 0) 0 wb
    have hmul : (kidC (kidC l 0).kids 0).occ 0 * (kidC l 1).nodes ≤ 160000 := Nat.le_trans (Nat.mul_le_mul (show (kidC (kidC l 0).kids 0).occ 0 ≤ 400 by omega) f1.2) (by decide)
    unfold Big; omega
   ·have e : kidC (kidC l 0).kids 0 = noCore := by
     unfold kidC at hz ⊢
     rw [List.getD_eq_getElem?_getD,List.getElem?_eq_none (by omega)]; rfl
    rw [e,Core.mv_eq]
    have : noCore.kind = 0 := rfl
    rw [if_neg (by omega)]
    have : noCore.kids = [] := rfl
    rw [this,Core.mvs,Core.nodes,Core.nodess]
    unfold Big; omega
  ·rw [dvN_2 k,Core.nodes,Core.nodess]; unfold Big; omega
  ·rw [dvN_3 k]
   split
   ·rename_i h9
    have h1 := hl.2.1 (.inr (.inl h9))
    obtain ⟨w0,f0⟩ := hfit _ (hkid 0 (by omega))
    unfold Core.fit at f0
    simp at f0
    have hn0 := f0.2
    rw [Core.nodes_eq] at hn0
    unfold chosenC
    rw [chosen_nodes]
    have := len_nodess (kidC l 0).kids
    unfold refC
    rw [Core.nodes,Core.nodess]
    unfold Big; omega
   ·unfold refC
    rw [Core.nodes,Core.nodess]; unfold Big; omega
  ·rw [dvN_4 k,Core.nodes]
   obtain ⟨hf,hlt⟩ := rk_4 k hno
   have hmem := kidC_mem hlt
   have hv := hn _ hmem hf
   have hv0 := node_val (nodeOk_of (wfs_mem hmem hwk)).1 (.inr hf)
   have hdm : kidC E.defs (kidC c.kids (atC c)).value.toNat ∈ E.defs := kidC_mem (by omega)
   obtain ⟨d1,d2,d3,-⟩ := hE.defs _ hdm
   have := nodess_set (x := kidC E.defs (kidC c.kids (atC c)).value.toNat) (l := l) (i := atC c)
   unfold Big; omega
end
section
variable {defs : List Core} {b : Book} (hb : b.defs = defs)
include hb
theorem sTail_eq {P : Nat → Bool} (hE : EnvOk ⟨defs,opF⟩) (c : Core) (hw : c.wf = true) (hnm : c.anyC (names defs.length) = false) (hN : c.nodes ≤ 400) (A p : Nat) (hA : A + c.depth ≤ 81) (ha : c.above A = false) {acc : List Core} (hacc : Core.dms ⟨defs,opF⟩ P c.kids (p + 1) = some acc) (q : Int) :
  ∃ x,(if (decide (rk c = 1)) = true then (Option.bind (at? acc 0) fun v17001 => (Option.bind (at? v17001.kids 0) fun v17004 => (Option.bind (at? acc 1) fun v17006 => (Option.bind (s_l06Instance v17004 v17006) fun v17007 => (s_l08Develop_j4 q v17007.1.kind v17007.1.value v17007.1.data v17007.1.kids v17007.2))))) else (if (decide (rk c = 2)) = true then (Option.bind (at? c.kids 0) fun v19008 => (Option.bind (at? c.kids 1) fun v19015 => (Option.bind (s_Operate c.value v19008.value v19015.value) fun v19018 => (Option.bind (s_l06N v19018) fun v19019 => (s_l08Develop_j4 q v19019.kind v19019.value v19019.data v19019.kids 0))))) else (if (decide (rk c = 3)) = true then (Option.bind (at? acc 0) fun v21002 => (Option.bind (s_l08Chosen c v21002.kids) fun v21005 => (s_l08Develop_j4 q v21005.kind v21005.value v21005.data v21005.kids 0))) else (if (decide (rk c = 4)) = true then (Option.bind (s_l08Expand b c acc) fun v23003 => (s_l08Develop_j4 q v23003.kind v23003.value v23003.data v23003.kids 0)) else (s_l08Develop_j4 q c.kind c.value c.data acc 0)))))
   = some (x,(if (dvN ⟨defs,opF⟩ c true acc).fit = true then 0 else 4),q) ∧ ((dvN ⟨defs,opF⟩ c true acc).fit = true → x = dvN ⟨defs,opF⟩ c true acc) := by
 obtain ⟨hno,hwk⟩ := nodeOk_of hw
 have hl := node_len hno
 have hN' := hN
 rw [Core.nodes_eq] at hN'
 have hkl : c.kids.length ≤ 400 := by have := len_nodess c.kids; omega
 have hnk : ∀ x ∈ c.kids,x.kind = 11 → x.value < (defs.length : Int) := fun x hx hk => names_ref (names_kid hnm hx) hk
 obtain ⟨k1,k2,k3,k4,k5,k6⟩ := kids_dv hE c hw hnm A p hA ha (fun x hx hwx => dm_good hE x hwx (names_kid hnm hx)) hacc true
 have hNd := dvN_nodes hE c hw hnk true acc k1 hkl k2 k3
 have hsm := small_of_wf _ k5 hNd
 have j4 : s_l08Develop_j4 q (dvN ⟨defs,opF⟩ c true acc).kind (dvN ⟨defs,opF⟩ c true acc).value (dvN ⟨defs,opF⟩ c true acc).data (dvN ⟨defs,opF⟩ c true acc).kids 0 = some (dvN ⟨defs,opF⟩ c true acc,(if (dvN ⟨defs,opF⟩ c true acc).fit = true then 0 else 4),q) := by
  unfold s_l08Develop_j4 s_l08Develop_j5 s_l08Develop_j6
  rw [core_eta,decide_eq_true rfl,if_pos rfl,l08Fits_eq _ hsm hNd,bind_some']
  cases (dvN ⟨defs,opF⟩ c true acc).fit <;> rfl
 rcases rk_cases c with k | ⟨k,q1,q2⟩ | ⟨k,q1,q2,q3⟩ | ⟨k,q1⟩ | ⟨k,q1,q2⟩
 ·rw [k]
  have e : dvN ⟨defs,opF⟩ c true acc = ⟨c.kind,c.value,c.data,acc⟩ := dvN_0 (by simp [k])
  refine ⟨dvN ⟨defs,opF⟩ c true acc,?_,fun _ => rfl⟩
  have j4' := j4
  rw [e] at j4'
  dsimp only at j4'
  rw [decide_eq_false (by omega),if_neg (by simp),decide_eq_false (by omega),if_neg (by simp),decide_eq_false (by omega),if_neg (by simp),decide_eq_false (by omega),if_neg (by simp),j4',← e]
 ·have h2 := hl.1 (.inr q1)
  obtain ⟨w0,f0⟩ := k3 _ (kidC_mem (show 0 < acc.length by omega))
  obtain ⟨w1,f1⟩ := k3 _ (kidC_mem (show 1 < acc.length by omega))
  unfold Core.fit at f0 f1
  simp at f0 f1
  have hk4 : (kidC acc 0).kind = 4 := (k4 0 (by omega) (actK_no (by omega))).1.trans q2
  obtain ⟨no0,wk0⟩ := nodeOk_of w0
  have hl0' := (node_len no0).2.1 (.inl hk4)
  have hmem : kidC (kidC acc 0).kids 0 ∈ (kidC acc 0).kids := kidC_mem (by omega)
  have wb := wfs_mem hmem wk0
  have hnb := nodess_mem hmem
  have hdb := kid_depth hmem
  have hn0 := f0.2
  have hd0 := f0.1
  rw [Core.nodes_eq] at hn0
  rw [Core.depth_eq] at hd0
  have hsb := small_of_wf _ wb (by unfold Big; omega)
  have hs1 := small_of_wf _ w1 (by unfold Big; omega)
  have hng := not_great _ k5
  rw [dvN_1 k] at j4 hng ⊢
  rw [k,decide_eq_true rfl,if_pos rfl,at_kidC0 (by omega),bind_some',at_kidC0 (by omega),bind_some',at_kidC1 (by omega),bind_some',l06Instance_eq _ _ hsb hs1 wb w1 (by omega) (by omega) f1.1 f1.2,bind_some',hng]
  by_cases hf : ((kidC (kidC acc 0).kids 0).mv (putF (kidC acc 1)) 0).depth ≤ 80 ∧ ((kidC (kidC acc 0).kids 0).mv (putF (kidC acc 1)) 0).nodes ≤ 400
  ·rw [if_pos hf,if_neg (by simp)]
   exact ⟨_,j4,fun _ => rfl⟩
  ·have hf' : ((kidC (kidC acc 0).kids 0).mv (putF (kidC acc 1)) 0).fit = false := by unfold Core.fit; exact decide_eq_false hf
   rw [if_neg hf,hf',if_neg (by simp)]
   exact ⟨noCore,rfl,fun h => by cases h⟩
 ·have h2 := hl.1 (.inl q1)
  refine ⟨dvN ⟨defs,opF⟩ c true acc,?_,fun _ => rfl⟩
  rw [k,decide_eq_false (by omega),if_neg (by simp),decide_eq_true rfl,if_pos rfl,at_kidC0 (by omega),bind_some',at_kidC1 (by omega),bind_some',sOperate_eq,bind_some']
  unfold s_l06N
  rw [bind_some',← j4,dvN_2 k]
 ·have h0 := act_len hno (rk_kind (c := c) (by omega))
  obtain ⟨w0,f0⟩ := k3 _ (kidC_mem (show 0 < acc.length by omega))
  unfold Core.fit at f0
  simp at f0
  obtain ⟨-,-,hk0,-⟩ := small_of_wf _ w0 (by unfold Big; omega)
  refine ⟨dvN ⟨defs,opF⟩ c true acc,?_,fun _ => rfl⟩
  have hch := sChosen_eq (defs := defs) c hw acc k1 hk0 k
  rw [k,decide_eq_false (by omega),if_neg (by simp),decide_eq_false (by omega),if_neg (by simp),decide_eq_true rfl,if_pos rfl,at_kidC0 (by omega),bind_some',hch,bind_some',j4]
 ·have hex := sExpand_eq hb c hw hnk acc k1 k
  refine ⟨dvN ⟨defs,opF⟩ c true acc,?_,fun _ => rfl⟩
  rw [k,decide_eq_false (by omega),if_neg (by simp),decide_eq_false (by omega),if_neg (by simp),decide_eq_false (by omega),if_neg (by simp),decide_eq_true rfl,if_pos rfl,hex,bind_some',j4]
end
end Go.Proofs.YtjdinbgcgbigoaaGreat.Ab
