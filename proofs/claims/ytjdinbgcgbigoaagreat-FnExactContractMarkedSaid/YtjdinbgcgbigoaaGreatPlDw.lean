/-
  Redexes contracted at once: the parts of both sides,by the plain function. No program is in sight.
-/
import Derived.Test.YtjdinbgcgbigoaaGreatPlDv
import Derived.Test.YtjdinbgcgbigoaaGreatPlEr
import Derived.Test.YtjdinbgcgbigoaaGreatPlLeft
import Derived.Test.YtjdinbgcgbigoaaGreatModD
namespace Go.Proofs.YtjdinbgcgbigoaaGreat.Ab
set_option linter.unusedVariables false
set_option linter.unusedSimpArgs false
open Go.RowKit
theorem at_kidC {l : List Core} {i : Nat} (h : i < l.length) : at? l (i : Int) = some (kidC l i) := by
 unfold at? kidC
 rw [if_pos (by omega),List.getD_eq_getElem?_getD,Int.toNat_natCast,List.getElem?_eq_getElem h]; rfl
theorem at_kidC0 {l : List Core} (h : 0 < l.length) : at? l 0 = some (kidC l 0) := at_kidC (i := 0) h
theorem at_kidC1 {l : List Core} (h : 1 < l.length) : at? l 1 = some (kidC l 1) := at_kidC (i := 1) h
theorem at_kidI {l : List Core} {n : Int} (h0 : 0 ≤ n) (h : n < (l.length : Int)) : at? l n = some (kidC l n.toNat) := by
 have := at_kidC (l := l) (i := n.toNat) (by omega)
 rw [Int.toNat_of_nonneg h0] at this; exact this
theorem at_getD {l : List Int} {n : Int} (h0 : 0 ≤ n) (h : n < (l.length : Int)) : at? l n = some (l.getD n.toNat 0) := by
 unfold at?
 rw [if_pos h0,List.getD_eq_getElem?_getD,List.getElem?_eq_getElem (show n.toNat < l.length by omega)]; rfl
theorem act_len {c : Core} (hno : nodeOk c = true) (hk : actK c.kind) : 0 < c.kids.length := by
 have hl := node_len hno
 rcases hk with k | k | k | k
 ·have := hl.1 (.inl k); omega
 ·have := hl.1 (.inr k); omega
 ·have := hl.2.1 (.inr (.inl k)); omega
 ·have := hl.2.1 (.inr (.inr k)); omega
theorem iRedexKind_eq (c : Core) (hno : nodeOk c = true) : i_redexKind c = some (rk c) := by
 unfold i_redexKind
 by_cases hk : actK c.kind
 ·have hlen := act_len hno hk
  have hl := node_len hno
  rw [decide_eq_false (by omega),if_neg (by simp),at_kidC0 hlen,bind_some']
  rcases hk with hk | hk | hk | hk
  ·rw [rk_at3 hk,at_kidC1 (by have := hl.1 (.inl hk); omega),bind_some']
   generalize kidC c.kids 0 = f
   generalize kidC c.kids 1 = a
   by_cases h1 : f.kind = 2 <;> by_cases h2 : a.kind = 2 <;> by_cases h3 : f.kind = 11 <;> by_cases h4 : a.kind = 11 <;> simp [hk,h1,h2,h3,h4,i_redexKind_j1,i_redexKind_j2] <;> omega
  ·rw [rk_at5 hk]
   generalize kidC c.kids 0 = f
   by_cases h1 : f.kind = 4 <;> by_cases h2 : f.kind = 11 <;> simp [hk,h1,h2] <;> omega
  ·rw [rk_at9 hk]
   generalize kidC c.kids 0 = f
   by_cases h1 : f.kind = 8 <;> by_cases h2 : f.kind = 11 <;> by_cases h3 : f.value < (c.data.length : Int) <;> simp [hk,h1,h2,h3,i_redexKind_j3,i_redexKind_j4,i_redexKind_j5] <;> omega
  ·rw [rk_at10 hk]
   generalize kidC c.kids 0 = f
   by_cases h1 : f.kind = 2 <;> by_cases h2 : f.kind = 11 <;> simp [hk,h1,h2,i_redexKind_j3,i_redexKind_j4,i_redexKind_j5] <;> omega
 ·have h0 : rk c = 0 := by
   rcases Classical.em (rk c = 0) with h0 | h0
   ·exact h0
   ·exact absurd (rk_kind h0) hk
  rw [h0]
  unfold actK at hk
  by_cases hz : ((List.length c.kids : Nat) : Int) = 0
  ·rw [decide_eq_true hz,if_pos rfl]
  ·rw [decide_eq_false hz,if_neg (by simp),at_kidC0 (by omega),bind_some',decide_eq_false (by omega),if_neg (by simp),decide_eq_false (by omega),if_neg (by simp),decide_eq_false (by omega),if_neg (by simp),decide_eq_false (by omega)]
   rfl
theorem sKind_eq (c : Core) (hno : nodeOk c = true) : s_l08Kind c = some (rk c) := by
 unfold s_l08Kind
 by_cases hk : actK c.kind
 ·have hlen := act_len hno hk
  have hl := node_len hno
  rw [at_kidC0 hlen]
  rcases hk with hk | hk | hk | hk
  ·rw [rk_at3 hk,at_kidC1 (by have := hl.1 (.inl hk); omega)]
   generalize kidC c.kids 0 = f
   generalize kidC c.kids 1 = a
   by_cases h1 : f.kind = 2 <;> by_cases h2 : a.kind = 2 <;> by_cases h3 : f.kind = 11 <;> by_cases h4 : a.kind = 11 <;> simp [hk,h1,h2,h3,h4] <;> omega
  ·rw [rk_at5 hk]
   generalize kidC c.kids 0 = f
   by_cases h1 : f.kind = 4 <;> by_cases h2 : f.kind = 11 <;> simp [hk,h1,h2] <;> omega
  ·rw [rk_at9 hk]
   unfold s_l08Kind_j1
   rw [at_kidC0 hlen]
   generalize kidC c.kids 0 = f
   by_cases h1 : f.kind = 8 <;> by_cases h2 : f.kind = 11 <;> by_cases h3 : f.value < (c.data.length : Int) <;> simp [hk,h1,h2,h3] <;> omega
  ·rw [rk_at10 hk]
   generalize kidC c.kids 0 = f
   by_cases h1 : f.kind = 2 <;> by_cases h2 : f.kind = 11 <;> simp [hk,h1,h2] <;> omega
 ·have h0 : rk c = 0 := by
   rcases Classical.em (rk c = 0) with h0 | h0
   ·exact h0
   ·exact absurd (rk_kind h0) hk
  rw [h0]
  unfold actK at hk
  rw [decide_eq_false (by omega),if_neg (by simp),decide_eq_false (by omega),if_neg (by simp),decide_eq_false (by omega),if_neg (by simp),decide_eq_false (by omega),if_neg (by simp)]
def W32 (x : Int) : Int := IntKind.i64.wrap (IntKind.i32.wrap x)
theorem i32_u (x : Int) : IntKind.i32.wrap (IntKind.u32.wrap (IntKind.u64.wrap x)) = IntKind.i32.wrap x := by
 have e : ∀ y,IntKind.i32.wrap y = if 2147483648 ≤ y % 4294967296 then y % 4294967296 - 4294967296 else y % 4294967296 := fun y => by
  simp [IntKind.wrap,IntKind.bits,IntKind.signed]
 have e1 : ∀ y,IntKind.u32.wrap y = y % 4294967296 := fun y => by simp [IntKind.wrap,IntKind.bits,IntKind.signed]
 have e2 : ∀ y,IntKind.u64.wrap y = y % 18446744073709551616 := fun y => by simp [IntKind.wrap,IntKind.bits,IntKind.signed]
 rw [e,e,e1,e2]
 have : x % 18446744073709551616 % 4294967296 % 4294967296 = x % 4294967296 := by omega
 rw [this]
theorem W32_range (x : Int) : -2147483648 ≤ W32 x ∧ W32 x ≤ 2147483647 := by
 have e : IntKind.i32.wrap x = if 2147483648 ≤ x % 4294967296 then x % 4294967296 - 4294967296 else x % 4294967296 := by
  simp [IntKind.wrap,IntKind.bits,IntKind.signed]
 have h : -2147483648 ≤ IntKind.i32.wrap x ∧ IntKind.i32.wrap x ≤ 2147483647 := by
  rw [e]; split <;> omega
 unfold W32
 rw [w64 (by omega) (by omega)]
 exact h
def opF (o a b : Int) : Int :=
 if o = 1 then W32 (IntKind.i64.wrap (W32 a + W32 b)) else if o = 2 then W32 (IntKind.i64.wrap (W32 a - W32 b)) else if o = 3 then W32 (IntKind.i64.wrap (W32 a * W32 b))
 else if o = 4 then (if W32 b = 0 then 0 else W32 (IntKind.i64.wrap (Int.tdiv (W32 a) (W32 b)))) else if o = 5 then (if W32 a < W32 b then 1 else 0) else if o = 6 then (if W32 a = W32 b then 1 else 0) else 0
theorem opF_range (o a b : Int) : -2147483648 ≤ opF o a b ∧ opF o a b ≤ 2147483647 := by
 have h := W32_range
 unfold opF
 repeat' split
 all_goals first | exact h _ | omega
theorem iOperate_eq (o a b : Int) : i_Operate o a b = some (opF o a b) := by
 unfold i_Operate i_Wrap32 i_truth opF
 simp only [bind_some']
 show (if _ then _ else _) = _
 by_cases h1 : o = 1
 ·simp [h1,W32]
 by_cases h2 : o = 2
 ·simp [h2,W32]
 by_cases h3 : o = 3
 ·simp [h3,W32]
 by_cases h4 : o = 4
 ·by_cases hz : W32 b = 0
  ·have hz' := hz
   unfold W32 at hz'
   simp [h4,hz,hz']
  ·have hz' := hz
   unfold W32 at hz'
   simp [h4,hz,hz',nz?,W32]
 by_cases h5 : o = 5
 ·by_cases hz : W32 a < W32 b
  ·have hz' := hz
   unfold W32 at hz'
   simp [h5,hz,hz']
  ·have hz' := hz
   unfold W32 at hz'
   simp [h5,hz,hz']
 by_cases h6 : o = 6
 ·by_cases hz : W32 a = W32 b
  ·have hz' := hz
   unfold W32 at hz'
   simp [h6,hz,hz']
  ·have hz' := hz
   unfold W32 at hz'
   simp [h6,hz,hz']
 simp [h1,h2,h3,h4,h5,h6]
theorem sOperate_eq (o a b : Int) : s_Operate o a b = some (opF o a b) := by
 unfold s_Operate s_Wrap32 s_l01Bool opF
 simp only [bind_some',i32_u]
 show (if _ then _ else _) = _
 by_cases h1 : o = 1
 ·simp [h1,W32]
 by_cases h2 : o = 2
 ·simp [h2,W32]
 by_cases h3 : o = 3
 ·simp [h3,W32]
 by_cases h4 : o = 4
 ·by_cases hz : W32 b = 0
  ·have hz' := hz
   unfold W32 at hz'
   simp [h4,hz,hz']
  ·have hz' := hz
   unfold W32 at hz'
   simp [h4,hz,hz',nz?,W32]
 by_cases h5 : o = 5
 ·by_cases hz : W32 a < W32 b
  ·have hz' := hz
   unfold W32 at hz'
   simp [h5,hz,hz']
  ·have hz' := hz
   unfold W32 at hz'
   simp [h5,hz,hz']
 by_cases h6 : o = 6
 ·by_cases hz : W32 a = W32 b
  ·have hz' := hz
   unfold W32 at hz'
   simp [h6,hz,hz']
  ·have hz' := hz
   unfold W32 at hz'
   simp [h6,hz,hz']
 simp [h1,h2,h3,h4,h5,h6]
theorem core_eta (f : Core) : (⟨f.kind,f.value,f.data,f.kids⟩ : Core) = f := by cases f; rfl
theorem iChosen_eq (d : Int) (l : List Core) (hl : l.length ≤ Big) : i_chosen d l = some (chosenC d l) := by
 unfold i_chosen i_coreRef chosenC
 rw [bind_some']
 have loop : ∀ (post pre : List Core) (n : Nat) (f : Core),l = pre ++ post → post.length < n → i_chosen_l2 n l f.kind f.value f.data f.kids ((List.length pre : Nat) : Int) = some (post.foldl appC f) := by
  intro post
  induction post with
  | nil =>
   intro pre n f h hn
   obtain ⟨n,rfl⟩ : ∃ m,n = m + 1 := ⟨n - 1,by omega⟩
   rw [i_chosen_l2,ge_app h,if_neg (by simp),core_eta]; rfl
  | cons x post ih =>
   intro pre n f h hn
   rw [List.length_cons] at hn
   obtain ⟨n,rfl⟩ : ∃ m,n = m + 1 := ⟨n - 1,by omega⟩
   rw [i_chosen_l2,if_pos (lt_app h),at_app h,bind_some']
   unfold i_coreApp
   rw [bind_some',wrap_app h hl,core_eta]
   exact ih (pre ++ [x]) n (appC f x) (next_app h) (by omega)
 exact loop l [] fuel (refC d) rfl (by rw [fuel_eq]; unfold Big at hl; omega)
theorem sChosen_loop (l : List Core) (hl : l.length ≤ Big) (d : Int) : s_l08Chosen_l2 fuel l 11 d [] [] 0 = some (chosenC d l) := by
 unfold chosenC
 have loop : ∀ (post pre : List Core) (n : Nat) (f : Core),l = pre ++ post → post.length < n → s_l08Chosen_l2 n l f.kind f.value f.data f.kids ((List.length pre : Nat) : Int) = some (post.foldl appC f) := by
  intro post
  induction post with
  | nil =>
   intro pre n f h hn
   obtain ⟨n,rfl⟩ : ∃ m,n = m + 1 := ⟨n - 1,by omega⟩
   rw [s_l08Chosen_l2,ge_app h,if_neg (by simp),core_eta]; rfl
  | cons x post ih =>
   intro pre n f h hn
   rw [List.length_cons] at hn
   obtain ⟨n,rfl⟩ : ∃ m,n = m + 1 := ⟨n - 1,by omega⟩
   rw [s_l08Chosen_l2,if_pos (lt_app h),at_app h,bind_some']
   unfold s_l06A s_l06C
   rw [bind_some',bind_some',wrap_app h hl,core_eta]
   exact ih (pre ++ [x]) n (appC f x) (next_app h) (by omega)
 exact loop l [] fuel (refC d) rfl (by rw [fuel_eq]; unfold Big at hl; omega)
section
variable {E : Env} {c : Core} {l : List Core}
theorem dvN_1 (h : rk c = 1) : dvN E c true l = (kidC (kidC l 0).kids 0).mv (putF (kidC l 1)) 0 := by
 unfold dvN; rw [if_pos ⟨rfl,h⟩]
theorem dvN_2 (h : rk c = 2) : dvN E c true l = ⟨2,E.op c.value (kidC c.kids 0).value (kidC c.kids 1).value,[],[]⟩ := by
 unfold dvN; rw [if_neg (fun h' => by have := h'.2; omega),if_pos ⟨rfl,h⟩]
theorem dvN_3 (h : rk c = 3) : dvN E c true l = (if c.kind = 9 then chosenC (c.data.getD (kidC c.kids 0).value.toNat 0) (kidC l 0).kids else refC (if (kidC c.kids 0).value = 0 then c.data.getD 1 0 else c.data.getD 0 0)) := by
 unfold dvN; rw [if_neg (fun h' => by have := h'.2; omega),if_neg (fun h' => by have := h'.2; omega),if_pos ⟨rfl,h⟩]
theorem dvN_4 (h : rk c = 4) : dvN E c true l = ⟨c.kind,c.value,c.data,l.set (atC c) (kidC E.defs (kidC c.kids (atC c)).value.toNat)⟩ := by
 unfold dvN; rw [if_neg (fun h' => by have := h'.2; omega),if_neg (fun h' => by have := h'.2; omega),if_neg (fun h' => by have := h'.2; omega),if_pos ⟨rfl,h⟩]
theorem dvN_0 {m : Bool} (h : ¬ (m = true ∧ rk c ≠ 0)) : dvN E c m l = ⟨c.kind,c.value,c.data,l⟩ := by
 have k : ∀ z : Int,z ≠ 0 → ¬ (m = true ∧ rk c = z) := fun z hz h' => h ⟨h'.1,by rw [h'.2]; exact hz⟩
 unfold dvN; rw [if_neg (k 1 (by omega)),if_neg (k 2 (by omega)),if_neg (k 3 (by omega)),if_neg (k 4 (by omega))]
end
theorem i_truth_eq (b : Bool) : i_truth b = some (if b = true then 1 else 0) := by
 unfold i_truth
 cases b <;> rfl
section
variable {defs : List Core} {b : Book} (hb : b.defs = defs)
include hb
theorem iContract_eq (hE : EnvOk ⟨defs,opF⟩) (c : Core) (hw : c.wf = true) (hn : ∀ x ∈ c.kids,x.kind = 11 → x.value < (defs.length : Int)) (l : List Core) (hlen : l.length = c.kids.length) (hfit : ∀ x ∈ l,x.wf = true ∧ x.fit = true) (hkept : Kept c l) (hr : rk c ≠ 0) :
  i_contract b (rk c) ⟨c.kind,c.value,c.data,l⟩ = some (dvN ⟨defs,opF⟩ c true l) := by
 obtain ⟨hno,hwk⟩ := nodeOk_of hw
 have hl := node_len hno
 have hact : actK c.kind := rk_kind hr
 have h0 := act_len hno hact
 have hl0 : at? l 0 = some (kidC l 0) := at_kidC0 (by omega)
 obtain ⟨w0,f0⟩ := hfit _ (kidC_mem (show 0 < l.length by omega))
 unfold Core.fit at f0
 simp at f0
 have s0 := small_of_wf _ w0 (by unfold Big; omega)
 obtain ⟨-,-,hk0,hks0⟩ := s0
 unfold i_contract
 dsimp only
 rcases rk_cases c with k | ⟨k,k1,k2⟩ | ⟨k,k1,k2,k3⟩ | ⟨k,k1⟩ | ⟨k,k1,k2⟩
 ·exact absurd k hr
 ·have h2 := hl.1 (.inr k1)
  have hl1 : at? l 1 = some (kidC l 1) := at_kidC1 (by omega)
  obtain ⟨w1,f1⟩ := hfit _ (kidC_mem (show 1 < l.length by omega))
  unfold Core.fit at f1
  simp at f1
  have hk4 : (kidC l 0).kind = 4 := (hkept 0 (by omega) (actK_no (by omega))).1.trans k2
  obtain ⟨no0,wk0⟩ := nodeOk_of w0
  have hl0' := (node_len no0).2.1 (.inl hk4)
  have hmem : kidC (kidC l 0).kids 0 ∈ (kidC l 0).kids := kidC_mem (by omega)
  have wb := wfs_mem hmem wk0
  have hnb := nodess_mem hmem
  have hn0 := f0.2
  rw [Core.nodes_eq] at hn0
  rw [dvN_1 k,k,decide_eq_true rfl,if_pos rfl,hl0,bind_some',at_kidC0 (by omega),bind_some',hl1,bind_some',i_instantiate_eq _ _ (hks0 _ hmem) wb (by unfold Big; omega) (small_of_wf _ w1 (by unfold Big; omega)) w1 (by unfold Big; omega),bind_some']
 ·have h2 := hl.1 (.inl k1)
  have hl1 : at? l 1 = some (kidC l 1) := at_kidC1 (by omega)
  have e0 := (hkept 0 (by omega) (actK_no (by omega))).2
  have e1 := (hkept 1 (by omega) (actK_no (by omega))).2
  rw [dvN_2 k,k,decide_eq_false (by omega),if_neg (by simp),decide_eq_true rfl,if_pos rfl,hl0,bind_some',hl1,bind_some',iOperate_eq,bind_some',e0,e1]
  rfl
 ·have e0 := (hkept 0 (by omega) (actK_no (by omega))).2
  rw [dvN_3 k,k,decide_eq_false (by omega),if_neg (by simp),decide_eq_false (by omega),if_neg (by simp),decide_eq_true rfl,if_pos rfl,hl0]
  obtain ⟨hdat,hd10⟩ := node_data hno
  rcases k1 with ⟨k1,k2,k3⟩ | ⟨k1,k2⟩
  ·have hv0 := node_val (nodeOk_of (wfs_mem (kidC_mem h0) hwk)).1 (.inl k2)
   rw [decide_eq_true k1,if_pos rfl,if_pos k1,bind_some',e0,at_getD hv0 k3,bind_some',bind_some',iChosen_eq _ _ hk0,bind_some']
  ·have h2' := hd10 k1
   have a0 : at? c.data 0 = some (c.data.getD 0 0) := at_getD (n := 0) (by omega) (by omega)
   have a1 : at? c.data 1 = some (c.data.getD 1 0) := at_getD (n := 1) (by omega) (by omega)
   have h9 : ¬ c.kind = 9 := by omega
   rw [decide_eq_false h9,if_neg (by simp),if_neg h9,bind_some',i_truth_eq,bind_some',e0]
   by_cases hz : (kidC c.kids 0).value = 0
   ·rw [decide_eq_true hz,if_pos rfl,if_pos hz,a1,bind_some']; rfl
   ·rw [decide_eq_false hz,if_neg (by simp),if_neg hz,a0,bind_some']; rfl
 ·obtain ⟨h11,hat⟩ := rk_4 k hno
  have hmem := kidC_mem hat
  have hv := hn _ hmem h11
  have hv0 := node_val (nodeOk_of (wfs_mem hmem hwk)).1 (.inr h11)
  have eA := (hkept (atC c) hat (actK_no (by omega))).2
  have hll : l.length ≤ Big := by
   rcases hact with q | q | q | q
   ·have := hl.1 (.inl q); unfold Big; omega
   ·have := hl.1 (.inr q); unfold Big; omega
   ·have := hl.2.1 (.inr (.inl q)); unfold Big; omega
   ·have := hl.2.1 (.inr (.inr q)); unfold Big; omega
  have hatv : (if (!decide ((kidC l 0).kind = 11)) = true then (1 : Int) else 0) = ((atC c : Nat) : Int) := by
   unfold atC
   rcases k2 with k2 | ⟨-,k3,-⟩
   ·have := (hkept 0 h0 (actK_no (by omega))).1
    rw [this]; simp [k2]
   ·have := (hkept 0 h0 (actK_no (by omega))).1
    rw [this]; simp [k3]
  rw [dvN_4 k,k,decide_eq_false (by omega),if_neg (by simp),decide_eq_false (by omega),if_neg (by simp),decide_eq_false (by omega),if_neg (by simp)]
  unfold g_Clone_simpl_Core
  rw [app_ok (by simpa using hll),bind_some',bind_some',hl0,bind_some',i_truth_eq,bind_some',hatv,List.nil_append,at_kidC (l := l) (i := atC c) (by omega),bind_some',eA,hb,at_kidI hv0 hv,bind_some',bind_some']
  rfl
theorem sExpand_eq (c : Core) (hw : c.wf = true) (hn : ∀ x ∈ c.kids,x.kind = 11 → x.value < (defs.length : Int)) (l : List Core) (hlen : l.length = c.kids.length) (hr : rk c = 4) :
  s_l08Expand b c l = some (dvN ⟨defs,opF⟩ c true l) := by
 obtain ⟨hno,hwk⟩ := nodeOk_of hw
 have hl := node_len hno
 have hact : actK c.kind := rk_kind (c := c) (by omega)
 have h0 := act_len hno hact
 obtain ⟨h11,hat⟩ := rk_4 hr hno
 have hmem := kidC_mem hat
 have hv := hn _ hmem h11
 have hv0 := node_val (nodeOk_of (wfs_mem hmem hwk)).1 (.inr h11)
 have hll : l.length ≤ Big := by
  rcases hact with q | q | q | q
  ·have := hl.1 (.inl q); unfold Big; omega
  ·have := hl.1 (.inr q); unfold Big; omega
  ·have := hl.2.1 (.inr (.inl q)); unfold Big; omega
  ·have := hl.2.1 (.inr (.inr q)); unfold Big; omega
 have j1 : s_l08Expand_j1 b c l ((atC c : Nat) : Int) = some (dvN ⟨defs,opF⟩ c true l) := by
  unfold s_l08Expand_j1
  rw [dvN_4 hr,at_kidC hat,bind_some',hb,at_kidI hv0 hv,bind_some',at_kidC (by omega),bind_some']
  rfl
 unfold s_l08Expand
 rw [app_ok (by simpa using hll),bind_some',at_kidC0 h0,bind_some',List.nil_append]
 by_cases h1 : (kidC c.kids 0).kind = 11
 ·have e : atC c = 0 := by unfold atC; rw [if_pos h1]
  rw [e] at j1
  rw [decide_eq_true h1,Bool.not_true,if_neg (by simp)]; exact j1
 ·have e : atC c = 1 := by unfold atC; rw [if_neg h1]
  rw [e] at j1
  rw [decide_eq_false h1,Bool.not_false,if_pos rfl]; exact j1
omit hb in
theorem sChosen_eq (c : Core) (hw : c.wf = true) (l : List Core) (hlen : l.length = c.kids.length) (hk0 : (kidC l 0).kids.length ≤ Big) (hr : rk c = 3) :
  s_l08Chosen c (kidC l 0).kids = some (dvN ⟨defs,opF⟩ c true l) := by
 obtain ⟨hno,hwk⟩ := nodeOk_of hw
 have hact : actK c.kind := rk_kind (c := c) (by omega)
 have h0 := act_len hno hact
 obtain ⟨hdat,hd10⟩ := node_data hno
 unfold s_l08Chosen s_l06R
 rw [dvN_3 hr,at_kidC0 h0]
 rcases rk_3 hr with ⟨k1,k2,k3⟩ | ⟨k1,k2⟩
 ·have hv0 := node_val (nodeOk_of (wfs_mem (kidC_mem h0) hwk)).1 (.inl k2)
  rw [decide_eq_false (by omega),if_neg (by simp),if_pos k1,bind_some',at_getD hv0 k3,bind_some',bind_some',sChosen_loop _ hk0]
 ·have h2' := hd10 k1
  have a0 : at? c.data 0 = some (c.data.getD 0 0) := at_getD (n := 0) (by omega) (by omega)
  have a1 : at? c.data 1 = some (c.data.getD 1 0) := at_getD (n := 1) (by omega) (by omega)
  rw [decide_eq_true k1,if_pos rfl,if_neg (show ¬ c.kind = 9 by omega),bind_some']
  by_cases hz : (kidC c.kids 0).value = 0
  ·rw [decide_eq_true hz,Bool.not_true,if_neg (by simp),if_pos hz,a1,bind_some']; rfl
  ·rw [decide_eq_false hz,Bool.not_false,if_pos rfl,if_neg hz,a0,bind_some']; rfl
end
end Go.Proofs.YtjdinbgcgbigoaaGreat.Ab
