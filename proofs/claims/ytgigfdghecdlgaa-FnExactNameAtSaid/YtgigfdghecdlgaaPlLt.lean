/-
  Labelled trees and their redexes: what both sides make of a term and its labels. No program is in sight.
-/
import Derived.Test.YtgigfdghecdlgaaPlRk
import Derived.Test.YtgigfdghecdlgaaPlL
namespace Go.Proofs.Ytgigfdghecdlgaa.Ab
set_option linter.unusedVariables false
set_option linter.unusedSimpArgs false
open Go.RowKit

mutual
/-- The program's tree. -/
def Core.ln (L : List ByteArray) : Core → Nat → LabelNode
  | ⟨k, v, d, ks⟩, p => ⟨⟨k, v, d, ks⟩, L.getD p ByteArray.empty, (p : Int), Core.lns L ks (p + 1)⟩
def Core.lns (L : List ByteArray) : List Core → Nat → List LabelNode
  | [], _ => []
  | c :: cs, p => Core.ln L c p :: Core.lns L cs (p + c.nodes)
end
mutual
/-- The reference's tree. -/
def Core.lt (L : List ByteArray) : Core → Nat → L38T
  | ⟨k, v, d, ks⟩, p => ⟨k, v, d, L.getD p ByteArray.empty, Core.lts L ks (p + 1)⟩
def Core.lts (L : List ByteArray) : List Core → Nat → List L38T
  | [], _ => []
  | c :: cs, p => Core.lt L c p :: Core.lts L cs (p + c.nodes)
end
mutual
/-- The terms within a term, in the order of their positions. -/
def Core.all : Core → List Core
  | ⟨k, v, d, ks⟩ => ⟨k, v, d, ks⟩ :: Core.alls ks
def Core.alls : List Core → List Core
  | [] => []
  | c :: cs => Core.all c ++ Core.alls cs
end
theorem Core.ln_eq (L : List ByteArray) (c : Core) (p : Nat) : c.ln L p = ⟨c, L.getD p ByteArray.empty, (p : Int), Core.lns L c.kids (p + 1)⟩ := by cases c; rw [Core.ln]
theorem Core.lt_eq (L : List ByteArray) (c : Core) (p : Nat) : c.lt L p = ⟨c.kind, c.value, c.data, L.getD p ByteArray.empty, Core.lts L c.kids (p + 1)⟩ := by cases c; rw [Core.lt]
theorem Core.all_eq (c : Core) : c.all = c :: Core.alls c.kids := by cases c; rw [Core.all]
theorem nodess_snoc (x : Core) : ∀ pre : List Core, Core.nodess (pre ++ [x]) = Core.nodess pre + x.nodes
  | [] => by simp [Core.nodess]
  | c :: cs => by rw [List.cons_append, Core.nodess, Core.nodess, nodess_snoc x cs]; omega
theorem nodess_app (b : List Core) : ∀ a : List Core, Core.nodess (a ++ b) = Core.nodess a + Core.nodess b
  | [] => by simp [Core.nodess]
  | c :: cs => by rw [List.cons_append, Core.nodess, Core.nodess, nodess_app b cs]; omega
theorem lns_snoc (L : List ByteArray) (x : Core) : ∀ (pre : List Core) (p : Nat), Core.lns L (pre ++ [x]) p = Core.lns L pre p ++ [x.ln L (p + Core.nodess pre)]
  | [], p => by simp [Core.lns, Core.nodess]
  | c :: cs, p => by rw [List.cons_append, Core.lns, Core.lns, lns_snoc L x cs, Core.nodess, Nat.add_assoc]; rfl
theorem lts_snoc (L : List ByteArray) (x : Core) : ∀ (pre : List Core) (p : Nat), Core.lts L (pre ++ [x]) p = Core.lts L pre p ++ [x.lt L (p + Core.nodess pre)]
  | [], p => by simp [Core.lts, Core.nodess]
  | c :: cs, p => by rw [List.cons_append, Core.lts, Core.lts, lts_snoc L x cs, Core.nodess, Nat.add_assoc]; rfl
theorem lns_len (L : List ByteArray) : ∀ (l : List Core) (p : Nat), (Core.lns L l p).length = l.length
  | [], p => by simp [Core.lns]
  | c :: cs, p => by rw [Core.lns, List.length_cons, List.length_cons, lns_len L cs]
theorem lts_len (L : List ByteArray) : ∀ (l : List Core) (p : Nat), (Core.lts L l p).length = l.length
  | [], p => by simp [Core.lts]
  | c :: cs, p => by rw [Core.lts, List.length_cons, List.length_cons, lts_len L cs]
theorem at_lab {L : List ByteArray} {p : Nat} (h : p < L.length) : at? L (p : Int) = some (L.getD p ByteArray.empty) := by
  unfold at?
  rw [if_pos (by omega), List.getD_eq_getElem?_getD, Int.toNat_natCast, List.getElem?_eq_getElem h]; rfl
theorem nodess_len : ∀ l : List Core, l.length ≤ Core.nodess l
  | [] => by simp
  | c :: cs => by rw [Core.nodess, List.length_cons]; have := nodess_len cs; have := c.nodes_pos; omega
theorem iTree_eq (x : Labelled) (hL : x.labels.length ≤ Big) : ∀ (c : Core) (n p : Nat), p + c.nodes ≤ x.labels.length → 4 * c.nodes ≤ n → i_Labelled_tree n x c (p : Int) = some (c.ln x.labels p, ((p + c.nodes : Nat) : Int)) := by
  refine Core.ind fun c ih n p hp hn => ?_
  have hnd := c.nodes_eq
  have hkl := nodess_len c.kids
  obtain ⟨n, rfl⟩ : ∃ m, n = m + 1 := ⟨n - 1, by omega⟩
  rw [i_Labelled_tree, at_lab (by omega), bind_some', w64 (by omega) (by unfold Big at hL; omega)]
  have loop : ∀ (post pre : List Core) (n : Nat), c.kids = pre ++ post → 4 * Core.nodess post + 1 ≤ n →
      i_Labelled_tree_l2 n x c (p : Int) (x.labels.getD p ByteArray.empty) ((p + 1 + Core.nodess pre : Nat) : Int) (Core.lns x.labels pre (p + 1)) ((List.length pre : Nat) : Int) = some (c.ln x.labels p, ((p + c.nodes : Nat) : Int)) := by
    intro post
    induction post with
    | nil =>
      intro pre n h hn
      obtain ⟨n, rfl⟩ : ∃ m, n = m + 1 := ⟨n - 1, by omega⟩
      have h' : c.kids = pre := by rw [h, List.append_nil]
      rw [i_Labelled_tree_l2, ge_app h, if_neg (by simp), Core.ln_eq, hnd, h']
      congr 2
      omega
    | cons y post ihp =>
      intro pre n h hn
      rw [Core.nodess] at hn
      have hy := y.nodes_pos
      obtain ⟨n, rfl⟩ : ∃ m, n = m + 1 := ⟨n - 1, by omega⟩
      have hm : y ∈ c.kids := by rw [h]; simp
      have hlen : c.kids.length ≤ Big := by omega
      have hpl : pre.length < c.kids.length := by rw [h]; simp
      have hsum : Core.nodess c.kids = Core.nodess pre + (y.nodes + Core.nodess post) := by rw [h, nodess_app, Core.nodess]
      rw [i_Labelled_tree_l2, if_pos (lt_app h), at_app h, bind_some', ih y hm n (p + 1 + Core.nodess pre) (by omega) (by omega), bind_some', app_ok (by rw [lns_len]; simp; unfold Big at *; omega), bind_some', wrap_app h hlen]
      have := ihp (pre ++ [y]) n (next_app h) (by omega)
      rw [nodess_snoc, lns_snoc] at this
      rw [show p + 1 + Core.nodess pre + y.nodes = p + 1 + (Core.nodess pre + y.nodes) from by omega]
      exact this
  have := loop c.kids [] n rfl (by omega)
  simpa [Core.lns, Core.nodess] using this
theorem sTree_eq (L : List ByteArray) (hL : L.length ≤ Big) : ∀ (c : Core) (n p : Nat), p + c.nodes ≤ L.length → 4 * c.nodes ≤ n → s_l38Tree n c L (p : Int) = some (c.lt L p, ((p + c.nodes : Nat) : Int)) := by
  refine Core.ind fun c ih n p hp hn => ?_
  have hnd := c.nodes_eq
  have hkl := nodess_len c.kids
  obtain ⟨n, rfl⟩ : ∃ m, n = m + 1 := ⟨n - 1, by omega⟩
  rw [s_l38Tree, at_lab (by omega), bind_some', w64 (by omega) (by unfold Big at hL; omega)]
  have loop : ∀ (post pre : List Core) (n : Nat), c.kids = pre ++ post → 4 * Core.nodess post + 1 ≤ n →
      s_l38Tree_l2 n c L (L.getD p ByteArray.empty) ((p + 1 + Core.nodess pre : Nat) : Int) (Core.lts L pre (p + 1)) ((List.length pre : Nat) : Int) = some (c.lt L p, ((p + c.nodes : Nat) : Int)) := by
    intro post
    induction post with
    | nil =>
      intro pre n h hn
      obtain ⟨n, rfl⟩ : ∃ m, n = m + 1 := ⟨n - 1, by omega⟩
      have h' : c.kids = pre := by rw [h, List.append_nil]
      rw [s_l38Tree_l2, ge_app h, if_neg (by simp), Core.lt_eq, hnd, h']
      congr 2
      omega
    | cons y post ihp =>
      intro pre n h hn
      rw [Core.nodess] at hn
      have hy := y.nodes_pos
      obtain ⟨n, rfl⟩ : ∃ m, n = m + 1 := ⟨n - 1, by omega⟩
      have hm : y ∈ c.kids := by rw [h]; simp
      have hlen : c.kids.length ≤ Big := by omega
      have hpl : pre.length < c.kids.length := by rw [h]; simp
      have hsum : Core.nodess c.kids = Core.nodess pre + (y.nodes + Core.nodess post) := by rw [h, nodess_app, Core.nodess]
      rw [s_l38Tree_l2, if_pos (lt_app h), at_app h, bind_some', ih y hm n (p + 1 + Core.nodess pre) (by omega) (by omega), bind_some', app_ok (by rw [lts_len]; simp; unfold Big at *; omega), bind_some', wrap_app h hlen]
      have := ihp (pre ++ [y]) n (next_app h) (by omega)
      rw [nodess_snoc, lts_snoc] at this
      rw [show p + 1 + Core.nodess pre + y.nodes = p + 1 + (Core.nodess pre + y.nodes) from by omega]
      exact this
  have := loop c.kids [] n rfl (by omega)
  simpa [Core.lts, Core.nodess] using this
end Go.Proofs.Ytgigfdghecdlgaa.Ab
