/-
  RowLine: both sides give the same line. No program is in sight.
-/
import Derived.Test.YtlmanchbpommaaaDoorPlTW
import Derived.Test.YtlmanchbpommaaaDoorPlDec
namespace Go.Proofs.YtlmanchbpommaaaDoor.Ab
set_option linter.unusedVariables false
set_option linter.unusedSimpArgs false
open Go.RowKit

theorem sapp_ok {a b : ByteArray} (h : a.size + b.size ≤ 9223372036854775807) : sapp? a b = some (a ++ b) := by
  unfold sapp?; rw [if_pos h]
def spAt : ByteArray := ByteArray.mk #[32, 64]
def useB (a : ByteArray) (v : Int) : ByteArray := a ++ (spAt ++ itoaB v)
theorem useB_size (a : ByteArray) (v : Int) (h : (Lit.int IntKind.i64 v).wf = true) : (useB a v).size ≤ a.size + 23 := by
  have := itoaB_size v h
  unfold useB
  rw [ByteArray.size_append, ByteArray.size_append]
  have : spAt.size = 2 := rfl
  omega
theorem uses_loop (L : Nat → ByteArray → Int → Option ByteArray) (D : Int → Option ByteArray) (l : List Int) (hl : l.length ≤ Big) (hw : ∀ v ∈ l, (Lit.int IntKind.i64 v).wf = true) (hD : ∀ v ∈ l, D v = some (itoaB v))
    (hL : ∀ n acc i, L (n + 1) acc i = (if (decide (i < ((List.length l : Nat) : Int))) = true then (Option.bind (at? l i) fun v => (Option.bind (D v) fun w => (Option.bind (sapp? (ByteArray.mk #[32, 64]) w) fun u => (Option.bind (sapp? acc u) fun z => (L n z (IntKind.i64.wrap (i + 1))))))) else (some acc))) (acc0 : ByteArray) (ha : acc0.size ≤ Big) :
    L fuel acc0 0 = some (l.foldl useB acc0) := by
  have loop : ∀ (post pre : List Int) (n : Nat) (acc : ByteArray), l = pre ++ post → post.length < n → acc.size ≤ Big + 23 * pre.length → L n acc ((List.length pre : Nat) : Int) = some (post.foldl useB acc) := by
    intro post
    induction post with
    | nil =>
      intro pre n acc h hn hac
      obtain ⟨n, rfl⟩ : ∃ m, n = m + 1 := ⟨n - 1, by omega⟩
      rw [hL, ge_app h, if_neg (by simp)]
      rfl
    | cons x post ih =>
      intro pre n acc h hn hac
      obtain ⟨n, rfl⟩ : ∃ m, n = m + 1 := ⟨n - 1, by omega⟩
      have hx : x ∈ l := by rw [h]; simp
      have hsz := itoaB_size x (hw x hx)
      have hpl : pre.length ≤ Big := by rw [h] at hl; simp at hl; omega
      have h2 : spAt.size = 2 := rfl
      have hu := useB_size acc x (hw x hx)
      unfold Big at hpl hac
      rw [hL, lt_app h, if_pos rfl, at_app h, bind_some', hD x hx, bind_some', sapp_ok (a := ByteArray.mk #[32, 64]) (by show spAt.size + _ ≤ _; omega), bind_some', sapp_ok (by rw [ByteArray.size_append]; show acc.size + (spAt.size + _) ≤ _; omega), bind_some', wrap_app h hl, ih (pre ++ [x]) n _ (next_app h) (by simpa using hn) (by simp only [List.length_append, List.length_cons, List.length_nil, Big]; exact Nat.le_trans hu (by omega))]
      rfl
  exact loop l [] fuel acc0 rfl (Nat.lt_of_le_of_lt hl (Nat.lt_of_lt_of_le (by unfold Big; omega) (fuel_ge (n := Big + 1) (by unfold Big; omega)))) (by simp; exact ha)

theorem RowLine_same (r : Row) (hz : r.sz ≤ 1048576) (h : r.Ok) : ∃ t, s_RowLine r = some t ∧ i_RowLine r = some t ∧ True := by
  unfold Row.sz at hz
  have w1 := itoaB_size _ h.size
  have w2 := itoaB_size _ h.agents
  have k1 : (ByteArray.mk #[32, 58, 32]).size = 3 := rfl
  have k2 : (ByteArray.mk #[32]).size = 1 := rfl
  have k3 : (ByteArray.mk #[47]).size = 1 := rfl
  have k4 : (ByteArray.mk #[63]).size = 1 := rfl
  have hsL : ∀ acc : ByteArray, acc.size ≤ Big → s_RowLine_l3 fuel r acc 0 = some (r.uses.foldl useB acc) := fun acc ha =>
    uses_loop (fun n acc i => s_RowLine_l3 n r acc i) s_Decimal r.uses (by unfold Big; omega) h.uses.2 (fun v hv => s_Decimal_eq v (h.uses.2 v hv)) (fun n acc i => by rw [s_RowLine_l3]) acc ha
  have hiL : ∀ acc : ByteArray, acc.size ≤ Big → i_RowLine_l2 fuel r acc 0 = some (r.uses.foldl useB acc) := fun acc ha =>
    uses_loop (fun n acc i => i_RowLine_l2 n r acc i) i_Decimal r.uses (by unfold Big; omega) h.uses.2 (fun v hv => i_Decimal_eq v) (fun n acc i => by rw [i_RowLine_l2]) acc ha
  have hs : ∀ t : ByteArray, t.size ≤ 1048576 → s_RowLine_j1 r t = some (r.uses.foldl useB ((((((r.name ++ ByteArray.mk #[32, 58, 32]) ++ t) ++ ByteArray.mk #[32]) ++ itoaB r.size) ++ ByteArray.mk #[47]) ++ itoaB r.agents)) := fun t ht => by
    unfold s_RowLine_j1
    rw [sapp_ok (by omega), bind_some', sapp_ok (by simp only [ByteArray.size_append]; omega), bind_some', sapp_ok (by simp only [ByteArray.size_append]; omega), bind_some', s_Decimal_eq _ h.size, bind_some', sapp_ok (by simp only [ByteArray.size_append]; omega), bind_some', sapp_ok (by simp only [ByteArray.size_append]; omega), bind_some', s_Decimal_eq _ h.agents, bind_some', sapp_ok (by simp only [ByteArray.size_append]; omega), bind_some', hsL _ (by simp only [ByteArray.size_append, Big]; omega)]
  have hi : ∀ p : ByteArray, p.size ≤ 1048676 → i_RowLine_j1 r p = some (r.uses.foldl useB (p ++ ((((r.typ ++ ByteArray.mk #[32]) ++ itoaB r.size) ++ ByteArray.mk #[47]) ++ itoaB r.agents))) := fun p hp => by
    unfold i_RowLine_j1
    rw [sapp_ok (by omega), bind_some', i_Decimal_eq, bind_some', sapp_ok (by simp only [ByteArray.size_append]; omega), bind_some', sapp_ok (by simp only [ByteArray.size_append]; omega), bind_some', i_Decimal_eq, bind_some', sapp_ok (by simp only [ByteArray.size_append]; omega), bind_some', sapp_ok (by simp only [ByteArray.size_append]; omega), bind_some', hiL _ (by simp only [ByteArray.size_append, Big]; omega)]
  unfold s_RowLine i_RowLine
  rw [sapp_ok (by omega), bind_some']
  by_cases ht : sameStr r.typ (ByteArray.mk #[]) = true
  · have e : r.typ = ByteArray.mk #[] := sameStr_iff.1 ht
    refine ⟨_, by rw [if_pos ht, hs _ (by omega)], ?_, trivial⟩
    rw [if_pos ht, sapp_ok (by simp only [ByteArray.size_append]; omega), bind_some', hi _ (by simp only [ByteArray.size_append]; omega), e]
    simp only [ByteArray.append_assoc]
    congr 3
  · refine ⟨_, by rw [if_neg ht, hs _ (by omega)], ?_, trivial⟩
    rw [if_neg ht, hi _ (by simp only [ByteArray.size_append]; omega)]
    simp only [ByteArray.append_assoc]
end Go.Proofs.YtlmanchbpommaaaDoor.Ab
