/-
  Books, erased terms, labels: both sides by one plain function each; the laws on BookSize and ValidLabelled. No program is in sight.
-/
import Derived.Test.YtfbnlkaggggmiaaPlD
namespace Go.Proofs.Ytfbnlkaggggmiaa.Ab
set_option linter.unusedVariables false
set_option linter.unusedSimpArgs false
open Go.RowKit

mutual
def Core.anyC (p : Core → Bool) : Core → Bool
  | ⟨k, v, d, ks⟩ => p ⟨k, v, d, ks⟩ || Core.anysC p ks
def Core.anysC (p : Core → Bool) : List Core → Bool
  | [] => false
  | c :: cs => Core.anyC p c || Core.anysC p cs
end
theorem Core.anyC_eq (p : Core → Bool) (c : Core) : c.anyC p = (p c || Core.anysC p c.kids) := by cases c; rw [Core.anyC]
theorem Core.anysC_any (p : Core → Bool) : ∀ l : List Core, Core.anysC p l = l.any (Core.anyC p)
  | [] => by rw [Core.anysC]; rfl
  | c :: cs => by rw [Core.anysC, Core.anysC_any p cs]; rfl
theorem anyCore_eq (f : Core → Option Bool) (p : Core → Bool) : ∀ (c : Core), c.Small → (∀ x : Core, x.Small → f x = some (p x)) → ∀ n, 2 * c.nodes ≤ n → i_anyCore n c f = some (c.anyC p) := by
  refine Core.ind fun c ih hs hf n hn => ?_
  have hs0 := hs
  obtain ⟨_, hdl, hk, hk2⟩ := hs
  rw [Core.nodes_eq] at hn
  obtain ⟨n, rfl⟩ : ∃ m, n = m + 1 := ⟨n - 1, by omega⟩
  rw [i_anyCore, hf c hs0, bind_some', Core.anyC_eq]
  cases hp : p c with
  | true => simp
  | false =>
    rw [if_neg (by simp), containsCore c.kids _ (Core.anyC p) hk fun x hx => ?_, bind_some', Core.anysC_any]
    · rfl
    · have hle : x.nodes ≤ Core.nodess c.kids := by
        have key : ∀ l : List Core, x ∈ l → x.nodes ≤ Core.nodess l := by
          intro l
          induction l with
          | nil => intro h; cases h
          | cons y ys ih =>
            intro h
            rw [Core.nodess]
            rcases List.mem_cons.1 h with rfl | h
            · omega
            · have := ih h; omega
        exact key _ hx
      have := x.nodes_pos
      obtain ⟨n, rfl⟩ : ∃ m, n = m + 1 := ⟨n - 1, by omega⟩
      rw [i_anyCore_1, ih x hx (hk2 x hx) hf n (by omega), bind_some']

/-! ### Definitions named -/
def names (n : Nat) (c : Core) : Bool := (decide (c.kind = 11) && decide ((n : Int) ≤ c.value)) || c.data.any fun k => decide ((n : Int) ≤ k)
theorem namesOnly_eq (c : Core) (n : Nat) (hs : c.Small) (hN : c.nodes ≤ Big) : i_namesOnly c n = some (!c.anyC (names n)) := by
  unfold i_namesOnly
  rw [anyCore_eq _ (names n) c hs (fun x hx => ?_) fuel (by have := fuel_nodes hN; omega), bind_some']
  obtain ⟨_, hdl, -, -⟩ := hx
  unfold i_namesOnly_1 names
  rw [containsInt x.data _ (fun k => decide ((n : Int) ≤ k)) hdl (fun k _ => by unfold i_namesOnly_1_1; rfl), bind_some']
  by_cases h1 : x.kind = 11 <;> by_cases h2 : (n : Int) ≤ x.value <;> simp [h1, h2]
theorem l06Refs_eq (k : Nat) : ∀ (c : Core), c.Small → c.wf = true → ∀ n, 16 * c.nodes ≤ n → s_l06Refs n c k = some (!c.anyC (names k)) := by
  refine Core.ind fun c ih hs hw n hn => ?_
  obtain ⟨_, hdl, hk, hf⟩ := hs
  rw [Core.nodes_eq] at hn
  rw [Core.wf_eq, Bool.and_eq_true] at hw
  rw [Core.anyC_eq]
  obtain ⟨n, rfl⟩ : ∃ m, n = m + 1 := ⟨n - 1, by omega⟩
  obtain ⟨n, rfl⟩ : ∃ m, n = m + 1 := ⟨n - 1, by omega⟩
  have hd4 : c.data.length ≤ 4 := by
    have := hw.1
    unfold nodeOk at this
    simp only [Bool.and_eq_true] at this
    exact nodeOk_data this.1.1.2
  rw [s_l06Refs]
  have loop3 : ∀ (post pre : List Core) (n : Nat), c.kids = pre ++ post → 16 * Core.nodess post + 1 ≤ n → s_l06Refs_l3 n c k ((List.length pre : Nat) : Int) = some (!Core.anysC (names k) post) := by
    intro post
    induction post with
    | nil =>
      intro pre n h hn
      obtain ⟨n, rfl⟩ : ∃ m, n = m + 1 := ⟨n - 1, by omega⟩
      rw [s_l06Refs_l3, ge_app h, if_neg (by simp), Core.anysC]; rfl
    | cons x post ihp =>
      intro pre n h hn
      rw [Core.nodess] at hn
      have := x.nodes_pos
      obtain ⟨n, rfl⟩ : ∃ m, n = m + 1 := ⟨n - 1, by omega⟩
      have hx : x ∈ c.kids := by rw [h]; simp
      rw [s_l06Refs_l3, if_pos (lt_app h), at_app h, bind_some', ih x hx (hf x hx) (wfs_mem hx hw.2) n (by omega), bind_some', Core.anysC]
      cases x.anyC (names k) with
      | true => simp
      | false =>
        rw [if_neg (by simp), wrap_app h hk, ihp (pre ++ [x]) n (next_app h) (by omega)]
        simp
  have loop2 : ∀ (post pre : List Int) (n : Nat), c.data = pre ++ post → post.length + 16 * Core.nodess c.kids + 2 ≤ n →
      s_l06Refs_l2 n c k ((List.length pre : Nat) : Int) = some (!(post.any (fun j => decide ((k : Int) ≤ j)) || Core.anysC (names k) c.kids)) := by
    intro post
    induction post with
    | nil =>
      intro pre n h hn
      obtain ⟨n, rfl⟩ : ∃ m, n = m + 1 := ⟨n - 1, by omega⟩
      rw [s_l06Refs_l2, ge_app h, if_neg (by simp)]
      have := loop3 c.kids [] n (by simp) (by simp at hn; omega)
      refine this.trans ?_
      simp
    | cons x post ihp =>
      intro pre n h hn
      obtain ⟨n, rfl⟩ : ∃ m, n = m + 1 := ⟨n - 1, by omega⟩
      rw [s_l06Refs_l2, if_pos (lt_app h), at_app h, bind_some', List.any_cons]
      by_cases hx : (k : Int) ≤ x
      · simp [hx]
      · rw [if_neg (by simpa using hx), wrap_app h hdl, ihp (pre ++ [x]) n (next_app h) (by simp at hn; omega)]
        simp [hx]
  have hj : ∀ b, s_l06Refs_j1 (n + 1) c k b = some (!(b || (c.data.any (fun j => decide ((k : Int) ≤ j)) || Core.anysC (names k) c.kids))) := by
    intro b
    rw [s_l06Refs_j1]
    cases b with
    | true => simp
    | false =>
      rw [if_neg (by simp)]
      have := loop2 c.data [] n (by simp) (by omega)
      exact this
  rw [hj, hj]
  unfold names
  by_cases h1 : c.kind = 11
  · simp [h1, Bool.and_assoc]
  · simp [h1, Bool.and_assoc]

/-! ### Books -/
def defOk (k : Nat) (c : Core) : Bool := c.closed && !c.anyC (names k)
def Book.valid (b : Book) : Bool := decide (1 ≤ b.defs.length ∧ b.defs.length ≤ 24) && b.defs.all (defOk b.defs.length)
theorem closed_wf {c : Core} (h : c.closed = true) : c.wf = true := by
  unfold Core.closed Core.valid at h
  simp only [Bool.and_eq_true] at h
  exact h.1.1
theorem ValidBook_eq (b : Book) (hl : b.defs.length ≤ Big) (hs : ∀ c ∈ b.defs, c.Small ∧ c.nodes ≤ Big) : i_ValidBook b = some b.valid := by
  have hc : g_ContainsFunc_simpl_Core b.defs (fun y0 => i_ValidBook_1 y0 b) = some (b.defs.any fun c => !defOk b.defs.length c) := by
    refine containsCore b.defs _ _ hl fun c hc => ?_
    unfold i_ValidBook_1 defOk
    rw [IsClosed_eq c (hs c hc).1 (hs c hc).2, bind_some', namesOnly_eq c _ (hs c hc).1 (hs c hc).2, bind_some']
    cases c.closed <;> simp
  have hj : ∀ p, i_ValidBook_j1 b p = some (!p && b.defs.all (defOk b.defs.length)) := by
    intro p
    unfold i_ValidBook_j1
    rw [hc, bind_some']
    cases p with
    | true => simp
    | false =>
      rw [if_neg (by simp)]
      congr 1
      rw [List.not_any_eq_all_not]
      simp
  unfold i_ValidBook Book.valid
  rw [hj, hj]
  by_cases h1 : b.defs.length < 1
  · rw [if_pos (by simp; omega)]
    have : ¬ (1 ≤ b.defs.length ∧ b.defs.length ≤ 24) := by omega
    simp [this]
  · rw [if_neg (by simp; omega)]
    congr 1
    congr 1
    rw [Bool.eq_iff_iff]; simp; omega
theorem l06Book_eq (b : Book) (hl : b.defs.length ≤ Big) (hs : ∀ c ∈ b.defs, c.Small ∧ c.nodes ≤ Big) : s_l06Book b = some b.valid := by
  unfold s_l06Book Book.valid
  rw [l00In_eq, bind_some']
  have e : decide ((1 : Int) ≤ (b.defs.length : Int) ∧ (b.defs.length : Int) ≤ 24) = decide (1 ≤ b.defs.length ∧ b.defs.length ≤ 24) := by rw [Bool.eq_iff_iff]; simp; omega
  rw [e]
  cases decide (1 ≤ b.defs.length ∧ b.defs.length ≤ 24) with
  | false => simp
  | true =>
    rw [if_neg (by simp), Bool.true_and]
    have loop : ∀ (post pre : List Core) (n : Nat), b.defs = pre ++ post → 2 * post.length + 1 ≤ n → s_l06Book_l3 n b ((List.length pre : Nat) : Int) = some (post.all (defOk b.defs.length)) := by
      intro post
      induction post with
      | nil =>
        intro pre n h hn
        obtain ⟨n, rfl⟩ : ∃ m, n = m + 1 := ⟨n - 1, by omega⟩
        rw [s_l06Book_l3, ge_app h]; rfl
      | cons x post ihp =>
        intro pre n h hn
        rw [List.length_cons] at hn
        obtain ⟨n, rfl⟩ : ∃ m, n = m + 1 := ⟨n - 1, by omega⟩
        obtain ⟨n, rfl⟩ : ∃ m, n = m + 1 := ⟨n - 1, by omega⟩
        have hx : x ∈ b.defs := by rw [h]; simp
        rw [s_l06Book_l3, if_pos (lt_app h), at_app h, bind_some', l06Closed_eq x (hs x hx).1 (hs x hx).2, bind_some', List.all_cons]
        unfold defOk
        cases hc : x.closed with
        | false => rw [if_pos (by simp), s_l06Book_j4, if_pos rfl]; simp
        | true =>
          rw [if_neg (by simp), bind_some', l06Refs_eq _ x (hs x hx).1 (closed_wf hc) fuel (fuel_nodes (hs x hx).2), bind_some', s_l06Book_j4]
          cases x.anyC (names b.defs.length) with
          | true => simp
          | false =>
            rw [if_neg (by simp), wrap_app h hl, ihp (pre ++ [x]) n (next_app h) (by omega)]
            unfold defOk
            simp
    exact loop b.defs [] fuel (by simp) (by rw [fuel_eq]; unfold Big at hl; omega)
theorem CoreSize_eq (c : Core) (hs : c.Small) (hN : c.nodes ≤ Big) : i_CoreSize c = some (if c.valid = true then (c.nodes : Int) else 0) := by
  unfold i_CoreSize
  rw [ValidCore_eq c hs hN, bind_some']
  cases c.valid with
  | false => simp
  | true => rw [if_neg (by simp), coreExtent_eq c hs hN fuel (by have := fuel_nodes hN; omega), bind_some']; simp
theorem l08Size_eq : ∀ (c : Core), c.Small → c.nodes ≤ Big → ∀ n, 4 * c.nodes ≤ n → s_l08Size n c = some (c.nodes : Int) := by
  refine Core.ind fun c ih hs hN n hn => ?_
  obtain ⟨_, hd, hk, hf⟩ := hs
  rw [Core.nodes_eq] at hn hN ⊢
  obtain ⟨n, rfl⟩ : ∃ m, n = m + 1 := ⟨n - 1, by omega⟩
  rw [s_l08Size]
  have loop : ∀ (post pre : List Core) (n s : Nat), c.kids = pre ++ post → 4 * Core.nodess post + 1 ≤ n → s + Core.nodess post ≤ Big →
      s_l08Size_l1 n c s ((List.length pre : Nat) : Int) = some ((s + Core.nodess post : Nat) : Int) := by
    intro post
    induction post with
    | nil =>
      intro pre n s h hn _
      obtain ⟨n, rfl⟩ : ∃ m, n = m + 1 := ⟨n - 1, by omega⟩
      rw [s_l08Size_l1, ge_app h]; simp [Core.nodess]
    | cons x post ihp =>
      intro pre n s h hn hsB
      rw [Core.nodess] at hn hsB
      have := x.nodes_pos
      obtain ⟨n, rfl⟩ : ∃ m, n = m + 1 := ⟨n - 1, by omega⟩
      have hx : x ∈ c.kids := by rw [h]; simp
      rw [s_l08Size_l1, if_pos (lt_app h), at_app h, bind_some', ih x hx (hf x hx) (by omega) n (by omega), bind_some', w64nn (by omega), wrap_app h hk, ihp (pre ++ [x]) n _ (next_app h) (by omega) (by omega), Core.nodess]
      congr 1; omega
  exact loop c.kids [] n 1 (by simp) (by omega) (by omega)
theorem all_valid {k : Nat} {l : List Core} (h : l.all (defOk k) = true) {c : Core} (hc : c ∈ l) : c.valid = true := by
  rw [List.all_eq_true] at h
  have := h c hc
  unfold defOk Core.closed at this
  simp only [Bool.and_eq_true] at this
  exact this.1.1
theorem BookSize_same (b : Book) (hl : b.defs.length ≤ Big) (hs : ∀ c ∈ b.defs, c.Small ∧ c.nodes ≤ Big) (hB : Core.nodess b.defs ≤ Big) : ∃ r, i_BookSize b = some r ∧ s_BookSize b = some r := by
  unfold i_BookSize s_BookSize s_l37Size
  rw [ValidBook_eq b hl hs, l06Book_eq b hl hs, bind_some', bind_some']
  cases hv : b.valid with
  | false => exact ⟨(0, 1), by simp, by simp⟩
  | true =>
    unfold Book.valid at hv
    rw [Bool.and_eq_true] at hv
    rw [if_neg (by simp), if_neg (by simp)]
    have loop : ∀ (post pre : List Core) (n m s : Nat), b.defs = pre ++ post → post.length + 1 ≤ n → post.length + 1 ≤ m → s + Core.nodess post ≤ Big →
        i_BookSize_l1 n b s ((List.length pre : Nat) : Int) = some (((s + Core.nodess post : Nat) : Int), 0) ∧ s_l37Size_l1 m b s ((List.length pre : Nat) : Int) = some ((s + Core.nodess post : Nat) : Int) := by
      intro post
      induction post with
      | nil =>
        intro pre n m s h hn hm _
        obtain ⟨n, rfl⟩ : ∃ m, n = m + 1 := ⟨n - 1, by omega⟩
        obtain ⟨m, rfl⟩ : ∃ k, m = k + 1 := ⟨m - 1, by omega⟩
        rw [i_BookSize_l1, s_l37Size_l1, ge_app h]; simp [Core.nodess]
      | cons x post ihp =>
        intro pre n m s h hn hm hsB
        rw [List.length_cons] at hn hm
        rw [Core.nodess] at hsB
        obtain ⟨n, rfl⟩ : ∃ m, n = m + 1 := ⟨n - 1, by omega⟩
        obtain ⟨m, rfl⟩ : ∃ k, m = k + 1 := ⟨m - 1, by omega⟩
        have hx : x ∈ b.defs := by rw [h]; simp
        rw [i_BookSize_l1, s_l37Size_l1, if_pos (lt_app h), if_pos (lt_app h), at_app h, bind_some', bind_some', CoreSize_eq x (hs x hx).1 (hs x hx).2, bind_some', if_pos (all_valid hv.2 hx),
          l08Size_eq x (hs x hx).1 (hs x hx).2 fuel (by have := fuel_nodes (hs x hx).2; omega), bind_some', w64nn (by omega), wrap_app h hl]
        have := ihp (pre ++ [x]) n m (s + x.nodes) (next_app h) (by omega) (by omega) (by omega)
        rw [Core.nodess, ← Nat.add_assoc]
        exact this
    obtain ⟨h1, h2⟩ := loop b.defs [] fuel fuel 0 (by simp) (by rw [fuel_eq]; unfold Big at hl; omega) (by rw [fuel_eq]; unfold Big at hl; omega) (by omega)
    exact ⟨_, h1, by rw [show (0 : Int) = ((List.length ([] : List Core) : Nat) : Int) from rfl] at *; erw [h2]; rfl⟩

/-! ### The law -/
theorem szBook_eq (b : Book) (hk : b.defs.length ≤ 9223372036854775807) (hf : ∀ x ∈ b.defs, x.Fits) : l_szBook b 1048576 = some (szr (Core.szs b.defs) 1048576) := by
  unfold l_szBook
  have := szCoreS_eq b.defs hk hf 1048576 fuel (by omega) (by rw [fuel_eq]; omega)
  rw [show ((1048576 : Nat) : Int) = 1048576 from rfl] at this
  rw [this, bind_some', szr_neg]
  by_cases h : 1048576 < Core.szs b.defs
  · rw [if_pos (by simpa using h), szr_gt h]
  · rw [if_neg (by simpa using h)]
theorem szs_small {l : List Core} (h : Core.szs l ≤ 1048576) : l.length ≤ Big ∧ (∀ c ∈ l, c.Small ∧ c.nodes ≤ Big) ∧ Core.nodess l ≤ Big := by
  have h1 := Core.len_szs l
  have h2 := Core.nodess_le l
  refine ⟨by unfold Big; omega, fun c hc => ?_, by unfold Big; omega⟩
  have h3 := Core.szs_mem hc
  have h4 := Core.nodes_le c
  exact ⟨c.small_of (by unfold Big; omega), by unfold Big; omega⟩
theorem BookSize_law (b : Book) (hk : b.defs.length ≤ 9223372036854775807) (hf : ∀ x ∈ b.defs, x.Fits) : l_FnExactBookSize b = some true := by
  unfold l_FnExactBookSize
  rw [szBook_eq b hk hf, bind_some', szr_neg]
  by_cases h : 1048576 < Core.szs b.defs
  · rw [if_pos (by simpa using h)]
  rw [if_neg (by simpa using h)]
  obtain ⟨hl, hs, hB⟩ := szs_small (show Core.szs b.defs ≤ 1048576 by omega)
  have hto : l_toBook b = some b := by
    unfold l_toBook
    rw [toCoreS_eq b.defs hl (fun x hx => (hs x hx).1) fuel (by rw [fuel_eq]; unfold Big at hB; omega), bind_some']
  obtain ⟨r, h1, h2⟩ := BookSize_same b hl hs hB
  rw [hto, bind_some', h2, bind_some', bind_some', h1, bind_some']
  have heq : l_eqBook b b = some true := by
    unfold l_eqBook
    rw [eqCoreS_eq b.defs hl (fun x hx => (hs x hx).1) fuel (by rw [fuel_eq]; unfold Big at hB; omega), bind_some']
    rfl
  have hj : l_FnExactBookSize_j1 b b false = some true := by
    unfold l_FnExactBookSize_j1
    rw [if_neg (by simp), hto, bind_some', heq, bind_some']
    rfl
  simp [hj]
end Go.Proofs.Ytfbnlkaggggmiaa.Ab
