/-
  Core terms and books: the reference's checks, closed terms, definitions named. No program is in sight.
-/
import Derived.Test.YtfbnlkaggggmiaaPlC
namespace Go.Proofs.Ytfbnlkaggggmiaa.Ab
set_option linter.unusedVariables false
set_option linter.unusedSimpArgs false
open Go.RowKit

theorem nodeOk_data {c : Core} (h : decide ((shape c.kind).2.2.1 ≤ (c.data.length : Int) ∧ (c.data.length : Int) ≤ (shape c.kind).2.2.2) = true) : c.data.length ≤ 4 := by
  have : (shape c.kind).2.2.2 ≤ 4 := by
    unfold shape
    repeat' split
    all_goals simp
  simp at h
  omega
theorem l06Nodes_eq : ∀ (c : Core), c.Small → ∀ (d l n : Nat), d ≤ Big → l ≤ Big → 16 * c.nodes ≤ n → s_l06Nodes n c d l = some (if c.wf = true ∧ c.depth ≤ d ∧ c.nodes ≤ l then ((c.nodes : Nat) : Int) else -1) := by
  refine Core.ind fun c ih hs d l n hd hl hn => ?_
  obtain ⟨_, hdl, hk, hf⟩ := hs
  rw [Core.nodes_eq] at hn ⊢
  rw [Core.depth_eq, Core.wf_eq]
  obtain ⟨n, rfl⟩ : ∃ m, n = m + 1 := ⟨n - 1, by omega⟩
  rw [s_l06Nodes, l06Shape_eq, bind_some']
  have hj : ∀ m, 1 ≤ m → s_l06Nodes_j1 m c d l true = some (-1) := by
    intro m hm
    obtain ⟨m, rfl⟩ : ∃ k, m = k + 1 := ⟨m - 1, by omega⟩
    rw [s_l06Nodes_j1, if_pos rfl]
  rw [hj n (by omega)]
  by_cases h1 : d < 1
  · rw [if_pos (by simp; omega), if_neg (by omega)]
  rw [if_neg (by simp; omega)]
  by_cases h2 : l < 1
  · rw [if_pos (by simp; omega), if_neg (by omega)]
  rw [if_neg (by simp; omega), l00In_eq, bind_some', l00In_eq, bind_some', l06Value_eq, bind_some']
  have hno : nodeOk c = (decide ((shape c.kind).1 ≤ (c.kids.length : Int) ∧ (c.kids.length : Int) ≤ (shape c.kind).2.1) && decide ((shape c.kind).2.2.1 ≤ (c.data.length : Int) ∧ (c.data.length : Int) ≤ (shape c.kind).2.2.2) && valOk c && c.data.all inBook) := rfl
  rw [hno]
  cases hA : decide ((shape c.kind).1 ≤ (c.kids.length : Int) ∧ (c.kids.length : Int) ≤ (shape c.kind).2.1) with
  | false => simp
  | true =>
  cases hB : decide ((shape c.kind).2.2.1 ≤ (c.data.length : Int) ∧ (c.data.length : Int) ≤ (shape c.kind).2.2.2) with
  | false => simp
  | true =>
  have hd4 := nodeOk_data hB
  cases hC : valOk c with
  | false => simp only [Bool.not_true, Bool.not_false, Bool.false_eq_true, if_false, hj n (by omega)]; simp
  | true =>
  simp only [Bool.not_true, Bool.false_eq_true, if_false, Bool.true_and]
  obtain ⟨n, rfl⟩ : ∃ m, n = m + 1 := ⟨n - 1, by omega⟩
  rw [s_l06Nodes_j1, if_neg (by simp)]
  have loop3 : ∀ (post pre : List Core) (n s : Nat), c.kids = pre ++ post → 16 * Core.nodess post + 1 ≤ n → s ≤ l →
      s_l06Nodes_l3 n c d l s ((List.length pre : Nat) : Int) = some (if Core.wfs post = true ∧ Core.depths post + 1 ≤ d ∧ s + Core.nodess post ≤ l then ((s + Core.nodess post : Nat) : Int) else -1) := by
    intro post
    induction post with
    | nil =>
      intro pre n s h hn hsl
      obtain ⟨n, rfl⟩ : ∃ m, n = m + 1 := ⟨n - 1, by omega⟩
      rw [s_l06Nodes_l3, ge_app h, if_neg (by simp), if_pos ⟨rfl, by simp [Core.depths]; omega, by simp [Core.nodess]; omega⟩]
      simp [Core.nodess]
    | cons x post ihp =>
      intro pre n s h hn hsl
      rw [Core.nodess] at hn
      have := x.nodes_pos
      obtain ⟨n, rfl⟩ : ∃ m, n = m + 1 := ⟨n - 1, by omega⟩
      have hx : x ∈ c.kids := by rw [h]; simp
      rw [s_l06Nodes_l3, if_pos (lt_app h), at_app h, bind_some', show IntKind.i64.wrap ((d : Int) - 1) = ((d - 1 : Nat) : Int) from by rw [w64 (by omega) (by unfold Big at hd; omega)]; omega,
        show IntKind.i64.wrap ((l : Int) - (s : Int)) = ((l - s : Nat) : Int) from by rw [w64 (by omega) (by unfold Big at hl; omega)]; omega,
        ih x hx (hf x hx) (d - 1) (l - s) n (by omega) (by omega) (by omega), bind_some', Core.wfs, Core.nodess, Core.depths]
      by_cases hw : x.wf = true ∧ x.depth ≤ d - 1 ∧ x.nodes ≤ l - s
      · rw [if_pos hw, if_neg (by simp), w64nn (by omega), wrap_app h hk, ihp (pre ++ [x]) n _ (next_app h) (by omega) (by omega)]
        congr 1
        by_cases hw2 : Core.wfs post = true ∧ Core.depths post + 1 ≤ d ∧ s + x.nodes + Core.nodess post ≤ l
        · rw [if_pos hw2, if_pos ⟨by simp [hw.1, hw2.1], by omega, by omega⟩]; omega
        · rw [if_neg hw2, if_neg]
          rintro ⟨k1, k2, k3⟩
          simp only [Bool.and_eq_true] at k1
          exact hw2 ⟨k1.2, by omega, by omega⟩
      · rw [if_neg hw, if_pos (by decide), if_neg]
        rintro ⟨k1, k2, k3⟩
        simp only [Bool.and_eq_true] at k1
        exact hw ⟨k1.1, by omega, by omega⟩
  have loop2 : ∀ (post pre : List Int) (n : Nat), c.data = pre ++ post → post.length + 16 * Core.nodess c.kids + 2 ≤ n →
      s_l06Nodes_l2 n c d l ((List.length pre : Nat) : Int) = some (if post.all inBook = true ∧ Core.wfs c.kids = true ∧ Core.depths c.kids + 1 ≤ d ∧ 1 + Core.nodess c.kids ≤ l then ((1 + Core.nodess c.kids : Nat) : Int) else -1) := by
    intro post
    induction post with
    | nil =>
      intro pre n h hn
      obtain ⟨n, rfl⟩ : ∃ m, n = m + 1 := ⟨n - 1, by omega⟩
      rw [s_l06Nodes_l2, ge_app h, if_neg (by simp)]
      have := loop3 c.kids [] n 1 (by simp) (by simp at hn; omega) (by omega)
      refine this.trans ?_
      simp
    | cons x post ihp =>
      intro pre n h hn
      obtain ⟨n, rfl⟩ : ∃ m, n = m + 1 := ⟨n - 1, by omega⟩
      rw [s_l06Nodes_l2, if_pos (lt_app h), at_app h, bind_some', l00In_eq, bind_some', List.all_cons]
      have e : inBook x = decide (0 ≤ x ∧ x ≤ 23) := rfl
      rw [← e]
      cases hx : inBook x with
      | false => simp
      | true =>
        rw [if_neg (by simp), wrap_app h hdl, ihp (pre ++ [x]) n (next_app h) (by simp at hn; omega), Bool.true_and]
  have := loop2 c.data [] n (by simp) (by omega)
  refine this.trans ?_
  congr 1
  by_cases hw : c.data.all inBook = true ∧ Core.wfs c.kids = true ∧ Core.depths c.kids + 1 ≤ d ∧ 1 + Core.nodess c.kids ≤ l
  · rw [if_pos hw, if_pos ⟨by rw [hw.1, hw.2.1]; rfl, hw.2.2.1, hw.2.2.2⟩]
  · rw [if_neg hw, if_neg]
    rintro ⟨k1, k2, k3⟩
    simp only [Bool.and_eq_true] at k1
    exact hw ⟨k1.1, k1.2, k2, k3⟩
theorem l06Ok_eq (c : Core) (hs : c.Small) (hN : c.nodes ≤ Big) : s_l06Ok c = some c.valid := by
  unfold s_l06Ok Core.valid
  have := l06Nodes_eq c hs 80 400 fuel (by unfold Big; omega) (by unfold Big; omega) (fuel_nodes hN)
  rw [show ((80 : Nat) : Int) = 80 from rfl, show ((400 : Nat) : Int) = 400 from rfl] at this
  rw [this, bind_some']
  congr 1
  have hp := c.nodes_pos
  by_cases h : c.wf = true ∧ c.depth ≤ 80 ∧ c.nodes ≤ 400
  · rw [if_pos h]; simp [h.1, h.2]; omega
  · rw [if_neg h]
    cases hw : c.wf with
    | false => simp
    | true => simp [hw] at h; simp; omega

/-! ### Closed terms -/
def bnd (k : Int) (i : Nat) : Nat := if k = 4 ∨ k = 7 ∧ i = 1 then 1 else 0
mutual
def Core.above : Core → Nat → Bool
  | ⟨k, v, _, ks⟩, a => if k = 1 then decide ((a : Int) ≤ v) else Core.aboves k ks 0 a
def Core.aboves (k : Int) : List Core → Nat → Nat → Bool
  | [], _, _ => false
  | c :: cs, i, a => Core.above c (a + bnd k i) || Core.aboves k cs (i + 1) a
end
theorem Core.above_eq (c : Core) (a : Nat) : c.above a = if c.kind = 1 then decide ((a : Int) ≤ c.value) else Core.aboves c.kind c.kids 0 a := by cases c; rw [Core.above]
theorem bnd_le (k : Int) (i : Nat) : bnd k i ≤ 1 := by unfold bnd; split <;> omega
theorem binds_eq (c : Core) (i : Nat) : i_Core_binds c i = some ((bnd c.kind i : Nat) : Int) := by
  unfold i_Core_binds i_truth bnd
  by_cases h4 : c.kind = 4
  · simp [h4]
  · by_cases h7 : c.kind = 7
    · by_cases h1 : i = 1
      · subst h1; simp [h7]
      · have : ¬ (i : Int) = 1 := by omega
        simp [h7, h1, this]
    · simp [h4, h7]
theorem l06Binds_eq (c : Core) (i : Nat) : s_l06Binds c i = some ((bnd c.kind i : Nat) : Int) := by
  unfold s_l06Binds s_l06Binds_j1 bnd
  by_cases h4 : c.kind = 4
  · simp [h4]
  · by_cases h7 : c.kind = 7
    · by_cases h1 : i = 1
      · subst h1; simp [h7]
      · have : ¬ (i : Int) = 1 := by omega
        simp [h7, h1, this]
    · simp [h4, h7]
theorem l06Above_eq : ∀ (c : Core), c.Small → ∀ (a n : Nat), a + c.depth ≤ Big → 16 * c.nodes ≤ n → s_l06Above n c a = some (c.above a) := by
  refine Core.ind fun c ih hs a n ha hn => ?_
  obtain ⟨_, hdl, hk, hf⟩ := hs
  rw [Core.nodes_eq] at hn
  rw [Core.depth_eq] at ha
  rw [Core.above_eq]
  obtain ⟨n, rfl⟩ : ∃ m, n = m + 1 := ⟨n - 1, by omega⟩
  rw [s_l06Above]
  by_cases h1 : c.kind = 1
  · rw [if_pos (by simpa using h1), if_pos h1]
  rw [if_neg (by simpa using h1), if_neg h1]
  have loop : ∀ (post pre : List Core) (n : Nat), c.kids = pre ++ post → 16 * Core.nodess post + 1 ≤ n → Core.depths post + a + 1 ≤ Big →
      s_l06Above_l1 n c a ((List.length pre : Nat) : Int) = some (Core.aboves c.kind post pre.length a) := by
    intro post
    induction post with
    | nil =>
      intro pre n h hn _
      obtain ⟨n, rfl⟩ : ∃ m, n = m + 1 := ⟨n - 1, by omega⟩
      rw [s_l06Above_l1, ge_app h, if_neg (by simp), Core.aboves]
    | cons x post ihp =>
      intro pre n h hn hB
      rw [Core.nodess] at hn
      rw [Core.depths] at hB
      have := x.nodes_pos
      have hb := bnd_le c.kind pre.length
      obtain ⟨n, rfl⟩ : ∃ m, n = m + 1 := ⟨n - 1, by omega⟩
      have hx : x ∈ c.kids := by rw [h]; simp
      rw [s_l06Above_l1, if_pos (lt_app h), at_app h, bind_some', l06Binds_eq, bind_some', w64nn (by omega), ih x hx (hf x hx) _ n (by omega) (by omega), bind_some', Core.aboves]
      cases x.above (a + bnd c.kind pre.length) with
      | true => simp
      | false =>
        rw [if_neg (by simp), wrap_app h hk, ihp (pre ++ [x]) n (next_app h) (by omega) (by omega)]
        simp
  exact loop c.kids [] n (by simp) (by omega) (by omega)
theorem wfs_mem {x : Core} : ∀ {l : List Core}, x ∈ l → Core.wfs l = true → x.wf = true
  | c :: cs, h, hw => by
    rw [Core.wfs, Bool.and_eq_true] at hw
    rcases List.mem_cons.1 h with rfl | h
    · exact hw.1
    · exact wfs_mem h hw.2
theorem var_kids {c : Core} (h : nodeOk c = true) (h1 : c.kind = 1) : c.kids = [] := by
  unfold nodeOk shape at h
  rw [h1] at h
  simp at h
  exact h.1.1.1
theorem closedBelow_eq : ∀ (c : Core), c.Small → c.wf = true → ∀ (a n : Nat), a + c.depth ≤ Big → 16 * c.nodes ≤ n → i_closedBelow n c a = some (!c.above a) := by
  refine Core.ind fun c ih hs hw a n ha hn => ?_
  obtain ⟨_, hdl, hk, hf⟩ := hs
  rw [Core.nodes_eq] at hn
  rw [Core.depth_eq] at ha
  rw [Core.wf_eq, Bool.and_eq_true] at hw
  rw [Core.above_eq]
  obtain ⟨n, rfl⟩ : ∃ m, n = m + 1 := ⟨n - 1, by omega⟩
  obtain ⟨n, rfl⟩ : ∃ m, n = m + 1 := ⟨n - 1, by omega⟩
  rw [i_closedBelow]
  have loop : ∀ (post pre : List Core) (n : Nat), c.kids = pre ++ post → 16 * Core.nodess post + 1 ≤ n → Core.depths post + a + 1 ≤ Big →
      i_closedBelow_l3 n c a ((List.length pre : Nat) : Int) = some (!Core.aboves c.kind post pre.length a) := by
    intro post
    induction post with
    | nil =>
      intro pre n h hn _
      obtain ⟨n, rfl⟩ : ∃ m, n = m + 1 := ⟨n - 1, by omega⟩
      rw [i_closedBelow_l3, ge_app h, if_neg (by simp), Core.aboves]; rfl
    | cons x post ihp =>
      intro pre n h hn hB
      rw [Core.nodess] at hn
      rw [Core.depths] at hB
      have := x.nodes_pos
      have hb := bnd_le c.kind pre.length
      obtain ⟨n, rfl⟩ : ∃ m, n = m + 1 := ⟨n - 1, by omega⟩
      have hx : x ∈ c.kids := by rw [h]; simp
      rw [i_closedBelow_l3, if_pos (lt_app h), at_app h, bind_some', binds_eq, bind_some', w64nn (by omega), ih x hx (hf x hx) (wfs_mem hx hw.2) _ n (by omega) (by omega), bind_some', Core.aboves]
      cases x.above (a + bnd c.kind pre.length) with
      | true => simp
      | false =>
        rw [if_neg (by simp), wrap_app h hk, ihp (pre ++ [x]) n (next_app h) (by omega) (by omega)]
        simp
  by_cases h1 : c.kind = 1
  · rw [if_pos (by simpa using h1), if_pos h1, i_closedBelow_j1]
    by_cases h2 : (a : Int) ≤ c.value
    · simp [h2]
    · rw [if_neg (by simpa using h2)]
      have := loop c.kids [] n (by simp) (by omega) (by omega)
      refine this.trans ?_
      rw [var_kids hw.1 h1]
      simp [Core.aboves, h2]
  · rw [if_neg (by simpa using h1), if_neg h1, i_closedBelow_j1, if_neg (by simp)]
    exact loop c.kids [] n (by simp) (by omega) (by omega)
def Core.closed (c : Core) : Bool := c.valid && !c.above 0
theorem IsClosed_eq (c : Core) (hs : c.Small) (hN : c.nodes ≤ Big) : i_IsClosed c = some c.closed := by
  unfold i_IsClosed Core.closed
  rw [ValidCore_eq c hs hN, bind_some']
  cases hv : c.valid with
  | false => simp
  | true =>
    unfold Core.valid at hv
    simp only [Bool.and_eq_true, decide_eq_true_eq] at hv
    have := closedBelow_eq c hs hv.1 0 fuel (by unfold Big; omega) (fuel_nodes hN)
    rw [show ((0 : Nat) : Int) = 0 from rfl] at this
    rw [if_pos rfl, this]; rfl
theorem l06Closed_eq (c : Core) (hs : c.Small) (hN : c.nodes ≤ Big) : s_l06Closed c = some c.closed := by
  unfold s_l06Closed Core.closed
  rw [l06Ok_eq c hs hN, bind_some']
  cases hv : c.valid with
  | false => simp
  | true =>
    unfold Core.valid at hv
    simp only [Bool.and_eq_true, decide_eq_true_eq] at hv
    have := l06Above_eq c hs 0 fuel (by unfold Big; omega) (fuel_nodes hN)
    rw [show ((0 : Nat) : Int) = 0 from rfl] at this
    rw [if_pos rfl, this]; rfl
end Go.Proofs.Ytfbnlkaggggmiaa.Ab
