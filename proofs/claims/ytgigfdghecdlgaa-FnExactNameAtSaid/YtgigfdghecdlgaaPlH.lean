/-
  What the laws' helpers give: sizes, copies, comparisons. No program is in sight.
-/
import Derived.Test.YtgigfdghecdlgaaPl
import Derived.Test.YtgigfdghecdlgaaModN
namespace Go.Proofs.Ytgigfdghecdlgaa.Ab
set_option linter.unusedVariables false
set_option linter.unusedSimpArgs false
open Go.RowKit

/-- What a size gives: what is left, or -1. -/
def szr (z left : Nat) : Int := if z ≤ left then ((left - z : Nat) : Int) else -1
theorem szr_neg {z left : Nat} : decide (szr z left < 0) = decide (left < z) := by
  unfold szr
  by_cases h : z ≤ left
  · rw [if_pos h]; simp; omega
  · rw [if_neg h]; simp; omega
theorem szr_le {z left : Nat} (h : z ≤ left) : szr z left = ((left - z : Nat) : Int) := if_pos h
theorem szr_gt {z left : Nat} (h : left < z) : szr z left = -1 := if_neg (by omega)
theorem sub_len {n left : Nat} (h1 : left ≤ 1048576) (h2 : n ≤ 9223372036854775807) : IntKind.i64.wrap ((left : Int) - (n : Int)) = (left : Int) - n := w64 (by omega) (by omega)

theorem szInt64S_eq (l : List Int) (left : Nat) (h1 : left ≤ 1048576) (h2 : l.length ≤ 9223372036854775807) : l_szInt64S l left = some (szr l.length left) := by
  unfold l_szInt64S
  rw [sub_len h1 h2]
  by_cases h : l.length ≤ left
  · rw [if_neg (by simp; omega), szr_le h]; congr 1; omega
  · rw [if_pos (by simp; omega), szr_gt (by omega)]

/-! ### Core -/
mutual
def Core.sz : Core → Nat
  | ⟨_, _, d, ks⟩ => d.length + Core.szs ks
def Core.szs : List Core → Nat
  | [] => 0
  | c :: cs => 1 + Core.sz c + Core.szs cs
end
theorem Core.sz_eq (c : Core) : c.sz = c.data.length + Core.szs c.kids := by cases c; rw [Core.sz]
mutual
def Core.nodes : Core → Nat
  | ⟨_, _, _, ks⟩ => 1 + Core.nodess ks
def Core.nodess : List Core → Nat
  | [] => 0
  | c :: cs => Core.nodes c + Core.nodess cs
end
theorem Core.nodes_eq (c : Core) : c.nodes = 1 + Core.nodess c.kids := by cases c; rw [Core.nodes]
theorem Core.nodes_pos (c : Core) : 1 ≤ c.nodes := by rw [Core.nodes_eq]; omega
mutual
theorem Core.nodes_le : ∀ c : Core, c.nodes ≤ 1 + c.sz
  | ⟨k, v, d, ks⟩ => by rw [Core.nodes, Core.sz]; have := Core.nodess_le ks; omega
theorem Core.nodess_le : ∀ l : List Core, Core.nodess l ≤ Core.szs l
  | [] => by simp [Core.nodess, Core.szs]
  | c :: cs => by rw [Core.nodess, Core.szs]; have := Core.nodes_le c; have := Core.nodess_le cs; omega
end
theorem Core.len_szs : ∀ l : List Core, l.length ≤ Core.szs l
  | [] => by simp
  | c :: cs => by rw [Core.szs, List.length_cons]; have := Core.len_szs cs; omega
theorem Core.szs_append (a b : List Core) : Core.szs (a ++ b) = Core.szs a + Core.szs b := by
  induction a with
  | nil => simp [Core.szs]
  | cons c cs ih => rw [List.cons_append, Core.szs, Core.szs, ih]; omega
/-- Induction along the kids. -/
theorem Core.ind {P : Core → Prop} (h : ∀ c : Core, (∀ k ∈ c.kids, P k) → P c) : ∀ c, P c := by
  suffices ∀ n (c : Core), c.nodes ≤ n → P c from fun c => this _ c (Nat.le_refl _)
  intro n
  induction n with
  | zero => intro c hc; have := Core.nodes_pos c; omega
  | succ n ih =>
    intro c hc
    refine h c fun k hk => ih k ?_
    rw [Core.nodes_eq] at hc
    have key : ∀ l : List Core, k ∈ l → k.nodes ≤ Core.nodess l := by
      intro l
      induction l with
      | nil => intro h; cases h
      | cons x xs ih =>
        intro h
        rw [Core.nodess]
        rcases List.mem_cons.1 h with rfl | h
        · omega
        · have := ih h; omega
    have := key _ hk
    omega
/-- All lists of a term are such as memory can hold. -/
inductive Core.Fits : Core → Prop where
  | mk (c : Core) (hd : c.data.length ≤ 9223372036854775807) (hk : c.kids.length ≤ 9223372036854775807) (h : ∀ k ∈ c.kids, Core.Fits k) : Core.Fits c

theorem szCoreS_of (l : List Core) (hk : l.length ≤ 9223372036854775807) (ih : ∀ x ∈ l, ∀ (left n : Nat), left ≤ 1048576 → 4 * left + 4 ≤ n → l_szCore n x left = some (szr x.sz left))
    (left n : Nat) (h1 : left ≤ 1048576) (hn : 4 * left + 3 ≤ n) : l_szCoreS n l left = some (szr (Core.szs l) left) := by
  obtain ⟨n, rfl⟩ : ∃ m, n = m + 1 := ⟨n - 1, by omega⟩
  rw [l_szCoreS, sub_len h1 hk]
  have hlen := Core.len_szs l
  by_cases h3 : left < l.length
  · rw [if_pos (by simp; omega), szr_gt (by omega)]
  · rw [if_neg (by simp; omega)]
    have loop : ∀ (post pre : List Core) (n l3 : Nat), l = pre ++ post → l3 + l.length ≤ left → 1 ≤ n → (post.length ≠ 0 → 4 * l3 + 4 + post.length + 1 ≤ n) → l_szCoreS_l1 n l l3 ((List.length pre : Nat) : Int) = some (szr (Core.szs post - post.length) l3) := by
      intro post
      induction post with
      | nil =>
        intro pre n l3 h _ hn _
        obtain ⟨n, rfl⟩ : ∃ m, n = m + 1 := ⟨n - 1, by omega⟩
        rw [l_szCoreS_l1, ge_app h]
        simp [Core.szs, szr]
      | cons x post ihp =>
        intro pre n l3 h h4 hn1 hn
        obtain ⟨n, rfl⟩ : ∃ m, n = m + 1 := ⟨n - 1, by omega⟩
        have hx : x ∈ l := by rw [h]; simp
        rw [List.length_cons] at hn
        have hn := hn (by omega)
        rw [l_szCoreS_l1, if_pos (lt_app h), at_app h, bind_some', ih x hx l3 n (by omega) (by omega), bind_some', szr_neg, Core.szs, List.length_cons]
        have hp := Core.len_szs post
        by_cases h5 : l3 < x.sz
        · rw [if_pos (by simpa using h5), szr_gt (by omega)]
        · rw [if_neg (by simpa using h5), szr_le (by omega), wrap_app h (by unfold Big; omega), ihp (pre ++ [x]) n (l3 - x.sz) (next_app h) (by omega) (by omega) (by omega)]
          congr 1
          unfold szr
          by_cases h6 : Core.szs post - post.length ≤ l3 - x.sz
          · rw [if_pos h6, if_pos (by omega)]; congr 1; omega
          · rw [if_neg h6, if_neg (by omega)]
    have := loop l [] n (left - l.length) (by simp) (by omega) (by omega) (by omega)
    rw [show ((left : Int) - (l.length : Int)) = ((left - l.length : Nat) : Int) from by omega]
    rw [show (0 : Int) = ((List.length ([] : List Core) : Nat) : Int) from rfl, this]
    congr 1
    unfold szr
    by_cases h6 : Core.szs l ≤ left
    · rw [if_pos h6, if_pos (by omega)]; congr 1; omega
    · rw [if_neg h6, if_neg (by omega)]
theorem szCore_eq : ∀ (c : Core), c.Fits → ∀ (left n : Nat), left ≤ 1048576 → 4 * left + 4 ≤ n → l_szCore n c left = some (szr c.sz left) := by
  refine Core.ind fun c ih hf left n h1 hn => ?_
  obtain ⟨_, hd, hk, hf⟩ := hf
  obtain ⟨n, rfl⟩ : ∃ m, n = m + 1 := ⟨n - 1, by omega⟩
  rw [l_szCore, szInt64S_eq _ _ h1 hd, bind_some', szr_neg, Core.sz_eq]
  by_cases h2 : left < c.data.length
  · rw [if_pos (by simpa using h2), szr_gt (by omega)]
  · rw [if_neg (by simpa using h2), szr_le (by omega)]
    generalize hl2 : left - c.data.length = left2
    rw [szCoreS_of c.kids hk (fun x hx => ih x hx (hf x hx)) left2 n (by omega) (by omega), bind_some', szr_neg]
    by_cases h7 : left2 < Core.szs c.kids
    · rw [if_pos (by simpa using h7), szr_gt (by omega)]
    · rw [if_neg (by simpa using h7)]
      congr 1
      unfold szr
      rw [if_pos (by omega), if_pos (by omega)]; congr 1; omega
theorem szCoreS_eq (l : List Core) (hk : l.length ≤ 9223372036854775807) (hf : ∀ x ∈ l, x.Fits) (left n : Nat) (h1 : left ≤ 1048576) (hn : 4 * left + 3 ≤ n) : l_szCoreS n l left = some (szr (Core.szs l) left) :=
  szCoreS_of l hk (fun x hx => szCore_eq x (hf x hx)) left n h1 hn

/-! ### Copies -/
theorem toInt64S_loop (l : List Int) (hl : l.length ≤ Big) : ∀ (post pre : List Int) (n : Nat), l = pre ++ post → post.length < n → l_toInt64S_l2 n l (pre ++ List.replicate post.length 0) ((List.length pre : Nat) : Int) = some l := by
  intro post
  induction post with
  | nil =>
    intro pre n h hn
    obtain ⟨n, rfl⟩ : ∃ m, n = m + 1 := ⟨n - 1, by omega⟩
    rw [l_toInt64S_l2, ge_app h]; simp [h]
  | cons x post ih =>
    intro pre n h hn
    obtain ⟨n, rfl⟩ : ∃ m, n = m + 1 := ⟨n - 1, by omega⟩
    rw [l_toInt64S_l2, if_pos (lt_app h), at_app h, bind_some', List.length_cons, at_rep, bind_some', set1_app, bind_some', wrap_app h hl]
    exact ih (pre ++ [x]) n (next_app h) (by simp at hn; omega)
theorem toInt64S_eq (l : List Int) (hl : l.length ≤ Big) : l_toInt64S l = some l := by
  unfold l_toInt64S
  rw [rep_ok hl, bind_some']
  exact toInt64S_loop l hl l [] fuel (by simp) (by rw [fuel_eq]; unfold Big at hl; omega)
theorem toCoreS_of (l : List Core) (hl : l.length ≤ Big) (ih : ∀ x ∈ l, ∀ n, 4 * x.nodes ≤ n → l_toCore n x = some x) (n : Nat) (hn : 4 * Core.nodess l + 2 ≤ n) : l_toCoreS n l = some l := by
  obtain ⟨n, rfl⟩ : ∃ m, n = m + 1 := ⟨n - 1, by omega⟩
  rw [l_toCoreS, rep_ok hl, bind_some']
  have loop : ∀ (post pre : List Core) (n : Nat), l = pre ++ post → 4 * Core.nodess post + 1 ≤ n → l_toCoreS_l2 n l (pre ++ List.replicate post.length ⟨0, 0, [], []⟩) ((List.length pre : Nat) : Int) = some l := by
    intro post
    induction post with
    | nil =>
      intro pre n h hn
      obtain ⟨n, rfl⟩ : ∃ m, n = m + 1 := ⟨n - 1, by omega⟩
      rw [l_toCoreS_l2, ge_app h]; simp [h]
    | cons x post ihp =>
      intro pre n h hn
      rw [Core.nodess] at hn
      have := x.nodes_pos
      obtain ⟨n, rfl⟩ : ∃ m, n = m + 1 := ⟨n - 1, by omega⟩
      have hx : x ∈ l := by rw [h]; simp
      rw [l_toCoreS_l2, if_pos (lt_app h), at_app h, bind_some', ih x hx n (by omega), bind_some', List.length_cons, at_rep, bind_some', set1_app, bind_some', wrap_app h hl]
      exact ihp (pre ++ [x]) n (next_app h) (by omega)
  exact loop l [] n (by simp) (by omega)
/-- A term whose lists are not too long. -/
inductive Core.Small : Core → Prop where
  | mk (c : Core) (hd : c.data.length ≤ Big) (hk : c.kids.length ≤ Big) (h : ∀ k ∈ c.kids, Core.Small k) : Core.Small c
theorem Core.szs_mem {x : Core} : ∀ {l : List Core}, x ∈ l → x.sz ≤ Core.szs l
  | c :: cs, h => by
    rw [Core.szs]
    rcases List.mem_cons.1 h with rfl | h
    · omega
    · have := Core.szs_mem h; omega
theorem Core.small_of : ∀ (c : Core), c.sz ≤ Big → c.Small := by
  refine Core.ind fun c ih h => ?_
  rw [Core.sz_eq] at h
  have := Core.len_szs c.kids
  exact ⟨c, by omega, by omega, fun k hk => ih k hk (by have := Core.szs_mem hk; omega)⟩
theorem toCore_eq : ∀ (c : Core), c.Small → ∀ n, 4 * c.nodes ≤ n → l_toCore n c = some c := by
  refine Core.ind fun c ih hs n hn => ?_
  obtain ⟨_, hd, hk, hf⟩ := hs
  rw [Core.nodes_eq] at hn
  obtain ⟨n, rfl⟩ : ∃ m, n = m + 1 := ⟨n - 1, by omega⟩
  rw [l_toCore, toInt64S_eq _ hd, bind_some', toCoreS_of c.kids hk (fun x hx => ih x hx (hf x hx)) n (by omega), bind_some']
  cases c; rfl
theorem toCoreS_eq (l : List Core) (hl : l.length ≤ Big) (hs : ∀ x ∈ l, x.Small) (n : Nat) (hn : 4 * Core.nodess l + 2 ≤ n) : l_toCoreS n l = some l := toCoreS_of l hl (fun x hx => toCore_eq x (hs x hx)) n hn

/-! ### Comparisons of what is the same -/
theorem eqInt64S_eq (l : List Int) (hl : l.length ≤ Big) : l_eqInt64S l l = some true := by
  unfold l_eqInt64S
  rw [if_neg (by simp)]
  have loop : ∀ (post pre : List Int) (n : Nat), l = pre ++ post → post.length < n → l_eqInt64S_l1 n l l ((List.length pre : Nat) : Int) = some true := by
    intro post
    induction post with
    | nil =>
      intro pre n h hn
      obtain ⟨n, rfl⟩ : ∃ m, n = m + 1 := ⟨n - 1, by omega⟩
      rw [l_eqInt64S_l1, ge_app h]; rfl
    | cons x post ih =>
      intro pre n h hn
      obtain ⟨n, rfl⟩ : ∃ m, n = m + 1 := ⟨n - 1, by omega⟩
      rw [l_eqInt64S_l1, if_pos (lt_app h), at_app h, bind_some', bind_some', if_neg (by simp), wrap_app h hl]
      exact ih (pre ++ [x]) n (next_app h) (by simp at hn; omega)
  exact loop l [] fuel (by simp) (by rw [fuel_eq]; unfold Big at hl; omega)
theorem eqCoreS_of (l : List Core) (hl : l.length ≤ Big) (ih : ∀ x ∈ l, ∀ n, 4 * x.nodes ≤ n → l_eqCore n x x = some true) (n : Nat) (hn : 4 * Core.nodess l + 2 ≤ n) : l_eqCoreS n l l = some true := by
  obtain ⟨n, rfl⟩ : ∃ m, n = m + 1 := ⟨n - 1, by omega⟩
  rw [l_eqCoreS, if_neg (by simp)]
  have loop : ∀ (post pre : List Core) (n : Nat), l = pre ++ post → 4 * Core.nodess post + 1 ≤ n → l_eqCoreS_l1 n l l ((List.length pre : Nat) : Int) = some true := by
    intro post
    induction post with
    | nil =>
      intro pre n h hn
      obtain ⟨n, rfl⟩ : ∃ m, n = m + 1 := ⟨n - 1, by omega⟩
      rw [l_eqCoreS_l1, ge_app h]; rfl
    | cons x post ihp =>
      intro pre n h hn
      rw [Core.nodess] at hn
      have := x.nodes_pos
      obtain ⟨n, rfl⟩ : ∃ m, n = m + 1 := ⟨n - 1, by omega⟩
      have hx : x ∈ l := by rw [h]; simp
      rw [l_eqCoreS_l1, if_pos (lt_app h), at_app h, bind_some', bind_some', ih x hx n (by omega), bind_some', if_neg (by simp), wrap_app h hl]
      exact ihp (pre ++ [x]) n (next_app h) (by omega)
  exact loop l [] n (by simp) (by omega)
theorem eqCore_eq : ∀ (c : Core), c.Small → ∀ n, 4 * c.nodes ≤ n → l_eqCore n c c = some true := by
  refine Core.ind fun c ih hs n hn => ?_
  obtain ⟨_, hd, hk, hf⟩ := hs
  rw [Core.nodes_eq] at hn
  obtain ⟨n, rfl⟩ : ∃ m, n = m + 1 := ⟨n - 1, by omega⟩
  rw [l_eqCore, if_neg (by simp), if_neg (by simp), eqInt64S_eq _ hd, bind_some', if_neg (by simp), eqCoreS_of c.kids hk (fun x hx => ih x hx (hf x hx)) n (by omega), bind_some']
  rfl
theorem eqCoreS_eq (l : List Core) (hl : l.length ≤ Big) (hs : ∀ x ∈ l, x.Small) (n : Nat) (hn : 4 * Core.nodess l + 2 ≤ n) : l_eqCoreS n l l = some true := eqCoreS_of l hl (fun x hx => eqCore_eq x (hs x hx)) n hn
end Go.Proofs.Ytgigfdghecdlgaa.Ab
