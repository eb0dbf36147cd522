/-
  Core terms: both sides' checks, by one plain function each. No program is in sight.
-/
import Derived.Test.YtfbnlkaggggmiaaPlH
namespace Go.Proofs.Ytfbnlkaggggmiaa.Ab
set_option linter.unusedVariables false
set_option linter.unusedSimpArgs false
open Go.RowKit

/-! ### The library's searches -/
theorem indexFunc_go {α : Type} (L : Nat → List α → Int → (α → Option Bool) → Option Int) (hL : ∀ n l i f, L (n + 1) l i f = (if (decide (i < ((List.length l : Nat) : Int))) = true then (Option.bind (at? l i) fun x => (Option.bind (f x) fun b => (if b = true then (some i) else (L n l (IntKind.i64.wrap (i + 1)) f)))) else (some (-1))))
    (l : List α) (f : α → Option Bool) (p : α → Bool) (hl : l.length ≤ Big) (hf : ∀ x ∈ l, f x = some (p x)) : ∃ i : Int, L fuel l 0 f = some i ∧ (0 ≤ i ↔ l.any p = true) ∧ (l.any p = false → i = -1) := by
  have loop : ∀ (post pre : List α) (n : Nat), l = pre ++ post → post.length < n → ∃ i : Int, L n l ((List.length pre : Nat) : Int) f = some i ∧ (0 ≤ i ↔ post.any p = true) ∧ (post.any p = false → i = -1) := by
    intro post
    induction post with
    | nil =>
      intro pre n h hn
      obtain ⟨n, rfl⟩ : ∃ m, n = m + 1 := ⟨n - 1, by omega⟩
      rw [hL, ge_app h]
      exact ⟨-1, rfl, by simp, fun _ => rfl⟩
    | cons x post ih =>
      intro pre n h hn
      obtain ⟨n, rfl⟩ : ∃ m, n = m + 1 := ⟨n - 1, by omega⟩
      rw [hL, if_pos (lt_app h), at_app h, bind_some', hf x (by rw [h]; simp), bind_some']
      by_cases hp : p x = true
      · rw [if_pos hp]
        exact ⟨_, rfl, by simp [hp], by simp [hp]⟩
      · rw [if_neg hp, wrap_app h hl]
        obtain ⟨i, h1, h2, h3⟩ := ih (pre ++ [x]) n (next_app h) (by simp at hn; omega)
        have hp' : p x = false := by simpa using hp
        exact ⟨i, h1, by simpa [hp'] using h2, by simpa [hp'] using h3⟩
  exact loop l [] fuel (by simp) (by rw [fuel_eq]; unfold Big at hl; omega)
theorem containsInt (l : List Int) (f : Int → Option Bool) (p : Int → Bool) (hl : l.length ≤ Big) (hf : ∀ x ∈ l, f x = some (p x)) : g_ContainsFunc_sint64 l f = some (l.any p) := by
  obtain ⟨i, h1, h2, -⟩ := indexFunc_go g_IndexFunc_sint64_l1 (fun n l i f => by rw [g_IndexFunc_sint64_l1]) l f p hl hf
  unfold g_ContainsFunc_sint64 g_IndexFunc_sint64
  rw [h1, bind_some']
  congr 1
  rw [Bool.eq_iff_iff, decide_eq_true_eq]; exact h2
theorem containsCore (l : List Core) (f : Core → Option Bool) (p : Core → Bool) (hl : l.length ≤ Big) (hf : ∀ x ∈ l, f x = some (p x)) : g_ContainsFunc_simpl_Core l f = some (l.any p) := by
  obtain ⟨i, h1, h2, -⟩ := indexFunc_go g_IndexFunc_simpl_Core_l1 (fun n l i f => by rw [g_IndexFunc_simpl_Core_l1]) l f p hl hf
  unfold g_ContainsFunc_simpl_Core g_IndexFunc_simpl_Core
  rw [h1, bind_some']
  congr 1
  rw [Bool.eq_iff_iff, decide_eq_true_eq]; exact h2

/-! ### One node -/
def shape (k : Int) : Int × Int × Int × Int :=
  if k = 1 ∨ k = 2 ∨ k = 11 then (0, 0, 0, 0) else if k = 3 ∨ k = 5 ∨ k = 7 then (2, 2, 0, 0) else if k = 4 ∨ k = 6 then (1, 1, 0, 0)
  else if k = 8 then (0, 3, 0, 0) else if k = 9 then (1, 1, 1, 4) else if k = 10 then (1, 1, 2, 2) else (0, -1, 0, 0)
def valOk (c : Core) : Bool :=
  if c.kind = 1 then decide (0 ≤ c.value ∧ c.value ≤ 255) else if c.kind = 2 then decide (-2147483648 ≤ c.value ∧ c.value ≤ 2147483647) else if c.kind = 3 then decide (1 ≤ c.value ∧ c.value ≤ 6)
  else if c.kind = 8 then decide (0 ≤ c.value ∧ c.value ≤ 3) else if c.kind = 11 then decide (0 ≤ c.value ∧ c.value ≤ 23) else decide (c.value = 0)
def inBook (n : Int) : Bool := decide (0 ≤ n ∧ n ≤ 23)
def nodeOk (c : Core) : Bool :=
  decide ((shape c.kind).1 ≤ (c.kids.length : Int) ∧ (c.kids.length : Int) ≤ (shape c.kind).2.1) && decide ((shape c.kind).2.2.1 ≤ (c.data.length : Int) ∧ (c.data.length : Int) ≤ (shape c.kind).2.2.2) && valOk c && c.data.all inBook
theorem l00In_eq (n a b : Int) : s_l00In n a b = some (decide (a ≤ n ∧ n ≤ b)) := by
  unfold s_l00In
  by_cases h : a ≤ n <;> simp [h]
theorem isInt_eq (n : Int) : i_isInt n = some (decide (-2147483648 ≤ n ∧ n ≤ 2147483647)) := by
  unfold i_isInt
  by_cases h : -2147483648 ≤ n <;> simp [h]
theorem isOperator_eq (n : Int) : i_isOperator n = some (decide (1 ≤ n ∧ n ≤ 6)) := by
  unfold i_isOperator
  by_cases h : 1 ≤ n <;> simp [h]
theorem isDefIndex_eq (n : Int) : i_isDefIndex n = some (inBook n) := by
  unfold i_isDefIndex inBook
  by_cases h : 0 ≤ n
  · simp [h]; omega
  · simp [h]
theorem l06Shape_eq (k : Int) : s_l06Shape k = some (shape k) := by
  unfold s_l06Shape s_l06Shape_j1 s_l06Shape_j2 s_l06Shape_j3 shape
  by_cases h1 : k = 1
  · simp [h1]
  by_cases h2 : k = 2
  · simp [h2]
  by_cases h11 : k = 11
  · simp [h11]
  by_cases h3 : k = 3
  · simp [h3]
  by_cases h5 : k = 5
  · simp [h5]
  by_cases h7 : k = 7
  · simp [h7]
  by_cases h4 : k = 4
  · simp [h4]
  by_cases h6 : k = 6
  · simp [h6]
  by_cases h8 : k = 8
  · simp [h8]
  by_cases h9 : k = 9
  · simp [h9]
  by_cases h10 : k = 10
  · simp [h10]
  simp [*]
theorem l06Value_eq (c : Core) : s_l06Value c = some (valOk c) := by
  unfold s_l06Value valOk
  simp only [l00In_eq, bind_some', decide_eq_true_eq]
  repeat' split
  all_goals first | rfl | simp_all
theorem any_not {l : List Int} : l.any (fun k => !inBook k) = !l.all inBook := by
  induction l with
  | nil => rfl
  | cons x xs ih => simp only [List.any_cons, List.all_cons, ih, Bool.not_and]
theorem validCoreNode_eq (c : Core) (hd : c.data.length ≤ Big) : i_validCoreNode c = some (nodeOk c) := by
  have hc : g_ContainsFunc_sint64 c.data (fun y0 => i_validCoreNode_1 y0) = some (!c.data.all inBook) := by
    rw [containsInt c.data _ (fun k => !inBook k) hd (fun x _ => by unfold i_validCoreNode_1; rw [isDefIndex_eq, bind_some']), any_not]
  have hj : ∀ v d (n : Int), i_validCoreNode_j3 c v d n = some (v && d && decide ((c.kids.length : Int) = n) && c.data.all inBook) := by
    intro v d n
    unfold i_validCoreNode_j3
    rw [hc, bind_some', Bool.not_not]
    cases v <;> cases d <;> by_cases h : (c.kids.length : Int) = n <;> simp [h]
  unfold i_validCoreNode i_validCoreNode_j1 i_validCoreNode_j2
  simp only [hj, isInt_eq, isOperator_eq, isDefIndex_eq, bind_some']
  unfold nodeOk
  have hall : (c.data.length : Int) = 0 → (c.data.all inBook) = true := fun h => by
    have h0 : c.data = [] := List.eq_nil_of_length_eq_zero (by omega)
    rw [h0]; rfl
  have hD0 : 0 ≤ (c.data.length : Int) := by omega
  have hK0 : 0 ≤ (c.kids.length : Int) := by omega
  generalize c.data.all inBook = A at *
  unfold shape valOk inBook
  generalize (c.data.length : Int) = D at *
  generalize (c.kids.length : Int) = K at *
  generalize c.value = v at *
  generalize c.kind = k at *
  clear hc hj hd
  by_cases h1 : k = 1
  · by_cases h0 : 0 ≤ v <;> simp [h1, h0] <;> (rw [Bool.eq_iff_iff]; cases A <;> simp <;> omega)
  by_cases h2 : k = 2
  · simp [h2]; rw [Bool.eq_iff_iff]; cases A <;> simp <;> omega
  by_cases h3 : k = 3
  · simp [h3]; rw [Bool.eq_iff_iff]; cases A <;> simp <;> omega
  by_cases h4 : k = 4
  · simp [h4]; rw [Bool.eq_iff_iff]; cases A <;> simp <;> omega
  by_cases h6 : k = 6
  · simp [h6]; rw [Bool.eq_iff_iff]; cases A <;> simp <;> omega
  by_cases h5 : k = 5
  · simp [h5]; rw [Bool.eq_iff_iff]; cases A <;> simp <;> omega
  by_cases h7 : k = 7
  · simp [h7]; rw [Bool.eq_iff_iff]; cases A <;> simp <;> omega
  by_cases h11 : k = 11
  · simp [h11]; rw [Bool.eq_iff_iff]; cases A <;> simp <;> omega
  by_cases h10 : k = 10
  · simp [h10]; rw [Bool.eq_iff_iff]; cases A <;> simp <;> omega
  by_cases h9 : k = 9
  · by_cases h0 : 1 ≤ D <;> simp [h9, h0] <;> (try rw [Bool.eq_iff_iff]) <;> cases A <;> simp <;> omega
  by_cases h8 : k = 8
  · by_cases h0 : D = 0
    · have := hall h0
      by_cases h9 : 0 ≤ v <;> by_cases h10 : v < 4 <;> simp [h8, h0, h9, h10, this] <;> (try omega) <;> (rw [Bool.eq_iff_iff]; simp; omega)
    · simp [h8, h0]; cases A <;> simp <;> omega
  · simp [*]; omega

/-! ### Whole terms -/
mutual
def Core.wf : Core → Bool
  | ⟨k, v, d, ks⟩ => nodeOk ⟨k, v, d, ks⟩ && Core.wfs ks
def Core.wfs : List Core → Bool
  | [] => true
  | c :: cs => Core.wf c && Core.wfs cs
end
theorem Core.wf_eq (c : Core) : c.wf = (nodeOk c && Core.wfs c.kids) := by cases c; rw [Core.wf]
mutual
def Core.depth : Core → Nat
  | ⟨_, _, _, ks⟩ => Core.depths ks + 1
def Core.depths : List Core → Nat
  | [] => 0
  | c :: cs => max (Core.depth c) (Core.depths cs)
end
theorem Core.depth_eq (c : Core) : c.depth = Core.depths c.kids + 1 := by cases c; rw [Core.depth]
mutual
theorem Core.depth_le : ∀ c : Core, c.depth ≤ c.nodes
  | ⟨k, v, d, ks⟩ => by rw [Core.depth, Core.nodes]; have := Core.depths_le ks; omega
theorem Core.depths_le : ∀ l : List Core, Core.depths l ≤ Core.nodess l
  | [] => by simp [Core.depths, Core.nodess]
  | c :: cs => by rw [Core.depths, Core.nodess]; have := Core.depth_le c; have := Core.depths_le cs; omega
end
theorem maxI (a b : Nat) : (if (a : Int) < (b : Int) then (b : Int) else (a : Int)) = ((max a b : Nat) : Int) := by
  by_cases h : (a : Int) < b
  · rw [if_pos h]; omega
  · rw [if_neg h]; omega
theorem w64n {n : Nat} (h : n ≤ Big) : IntKind.i64.wrap (n : Int) = (n : Int) := w64 (by omega) (by unfold Big at h; omega)
theorem w64n1 {n : Nat} (h : n ≤ Big) : IntKind.i64.wrap ((n : Int) + 1) = ((n + 1 : Nat) : Int) := by
  rw [w64 (by omega) (by unfold Big at h; omega)]; omega
theorem w64nn {n m : Nat} (h : n + m ≤ Big) : IntKind.i64.wrap ((n : Int) + (m : Int)) = ((n + m : Nat) : Int) := by
  rw [w64 (by omega) (by unfold Big at h; omega)]; omega

theorem coreExtent_eq : ∀ (c : Core), c.Small → c.nodes ≤ Big → ∀ n, 4 * c.nodes ≤ n → i_coreExtent n c = some ((c.depth : Int), (c.nodes : Int)) := by
  refine Core.ind fun c ih hs hN n hn => ?_
  obtain ⟨_, hd, hk, hf⟩ := hs
  rw [Core.nodes_eq] at hn hN ⊢
  rw [Core.depth_eq]
  obtain ⟨n, rfl⟩ : ∃ m, n = m + 1 := ⟨n - 1, by omega⟩
  rw [i_coreExtent]
  have loop : ∀ (post pre : List Core) (n d s : Nat), c.kids = pre ++ post → 4 * Core.nodess post + 1 ≤ n → s + Core.nodess post ≤ Big →
      i_coreExtent_l1 n c d s ((List.length pre : Nat) : Int) = some (((max d (if post = [] then d else Core.depths post + 1) : Nat) : Int), ((s + Core.nodess post : Nat) : Int)) := by
    intro post
    induction post with
    | nil =>
      intro pre n d s h hn _
      obtain ⟨n, rfl⟩ : ∃ m, n = m + 1 := ⟨n - 1, by omega⟩
      rw [i_coreExtent_l1, ge_app h]; simp [Core.nodess]
    | cons x post ihp =>
      intro pre n d s h hn hsB
      rw [Core.nodess] at hn hsB
      have := x.nodes_pos
      have hdx := Core.depth_le x
      obtain ⟨n, rfl⟩ : ∃ m, n = m + 1 := ⟨n - 1, by omega⟩
      have hx : x ∈ c.kids := by rw [h]; simp
      rw [i_coreExtent_l1, if_pos (lt_app h), at_app h, bind_some', ih x hx (hf x hx) (by omega) n (by omega), bind_some', w64n1 (by omega), maxI, w64nn (by omega), wrap_app h hk,
        ihp (pre ++ [x]) n _ _ (next_app h) (by omega) (by omega)]
      rw [Core.nodess, Core.depths, if_neg (List.cons_ne_nil _ _)]
      congr 2
      · by_cases hp : post = []
        · subst hp; simp [Core.depths] <;> omega
        · rw [if_neg hp]; omega
      · omega
  have := loop c.kids [] n 1 1 (by simp) (by omega) (by omega)
  refine this.trans ?_
  congr 2
  by_cases hp : c.kids = []
  · simp [hp, Core.depths]
  · rw [if_neg hp]; omega
theorem coreShape_eq : ∀ (c : Core), c.Small → c.nodes ≤ Big → ∀ n, 4 * c.nodes ≤ n → i_coreShape n c = some (if c.wf = true then ((c.depth : Int), (c.nodes : Int), true) else (0, 0, false)) := by
  refine Core.ind fun c ih hs hN n hn => ?_
  obtain ⟨_, hd, hk, hf⟩ := hs
  rw [Core.nodes_eq] at hn hN ⊢
  rw [Core.depth_eq, Core.wf_eq]
  obtain ⟨n, rfl⟩ : ∃ m, n = m + 1 := ⟨n - 1, by omega⟩
  rw [i_coreShape, validCoreNode_eq c hd, bind_some']
  cases hno : nodeOk c with
  | false => simp
  | true =>
    rw [if_neg (by simp)]
    have loop : ∀ (post pre : List Core) (n d s : Nat), c.kids = pre ++ post → 4 * Core.nodess post + 1 ≤ n → s + Core.nodess post ≤ Big →
        i_coreShape_l1 n c d s ((List.length pre : Nat) : Int) = some (if Core.wfs post = true then (((max d (if post = [] then d else Core.depths post + 1) : Nat) : Int), ((s + Core.nodess post : Nat) : Int), true) else (0, 0, false)) := by
      intro post
      induction post with
      | nil =>
        intro pre n d s h hn _
        obtain ⟨n, rfl⟩ : ∃ m, n = m + 1 := ⟨n - 1, by omega⟩
        rw [i_coreShape_l1, ge_app h]; simp [Core.nodess, Core.wfs]
      | cons x post ihp =>
        intro pre n d s h hn hsB
        rw [Core.nodess] at hn hsB
        have := x.nodes_pos
        have hdx := Core.depth_le x
        obtain ⟨n, rfl⟩ : ∃ m, n = m + 1 := ⟨n - 1, by omega⟩
        have hx : x ∈ c.kids := by rw [h]; simp
        rw [i_coreShape_l1, if_pos (lt_app h), at_app h, bind_some', ih x hx (hf x hx) (by omega) n (by omega), bind_some', Core.wfs]
        cases hw : x.wf with
        | false => simp
        | true =>
          rw [if_pos rfl, if_neg (by simp)]
          dsimp only
          rw [w64n1 (by omega), maxI, w64nn (by omega), wrap_app h hk, ihp (pre ++ [x]) n _ _ (next_app h) (by omega) (by omega)]
          rw [Core.nodess, Core.depths, if_neg (List.cons_ne_nil _ _), Bool.true_and]
          congr 1
          split
          · congr 2
            · by_cases hp : post = []
              · subst hp; simp [Core.depths] <;> omega
              · rw [if_neg hp]; omega
            · congr 1; omega
          · rfl
    have := loop c.kids [] n 1 1 (by simp) (by omega) (by omega)
    refine this.trans ?_
    rw [Bool.true_and]
    congr 1
    split
    · congr 2
      by_cases hp : c.kids = []
      · simp [hp, Core.depths]
      · rw [if_neg hp]; omega
    · rfl
/-- A valid term. -/
def Core.valid (c : Core) : Bool := c.wf && decide (c.depth ≤ 80 ∧ c.nodes ≤ 400)
theorem fuel_nodes {c : Core} (h : c.nodes ≤ Big) : 16 * c.nodes ≤ fuel := by rw [fuel_eq]; unfold Big at h; omega
theorem coreFits_eq (c : Core) (hs : c.Small) (hN : c.nodes ≤ Big) : i_coreFits c = some (decide (c.depth ≤ 80 ∧ c.nodes ≤ 400)) := by
  unfold i_coreFits
  rw [coreExtent_eq c hs hN fuel (by have := fuel_nodes hN; omega), bind_some']
  dsimp only
  by_cases h : c.depth ≤ 80
  · rw [if_pos (by simp; omega)]; congr 1; rw [Bool.eq_iff_iff]; simp; omega
  · rw [if_neg (by simp; omega)]; congr 1; rw [Bool.eq_iff_iff]; simp; omega
theorem ValidCore_eq (c : Core) (hs : c.Small) (hN : c.nodes ≤ Big) : i_ValidCore c = some c.valid := by
  unfold i_ValidCore Core.valid
  rw [coreShape_eq c hs hN fuel (by have := fuel_nodes hN; omega), bind_some']
  cases c.wf with
  | false => simp
  | true => simp [coreFits_eq c hs hN]
end Go.Proofs.Ytfbnlkaggggmiaa.Ab
