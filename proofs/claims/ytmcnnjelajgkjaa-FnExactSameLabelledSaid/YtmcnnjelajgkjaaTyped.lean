/-
  What reads at a type of the laws is a datum of that shape.
-/
import Derived.Test.YtmcnnjelajgkjaaRows
import Derived.Test.YtmcnnjelajgkjaaReads
import Derived.Test.YtmcnnjelajgkjaaTLabelled
namespace Go.Proofs.Ytmcnnjelajgkjaa
set_option linter.unusedVariables false
open Go.RowKit

theorem typed_int {P : Program} {n : Nat} {t : TypeId} {k : IntKind} {ds : List D} (ht : P.underlying t = some (.int k)) (h : Typed P n t ds) : ∃ z, ds = [.int k z] := by
  cases n with
  | zero => simp [Typed] at h
  | succ n => unfold Typed at h; rw [ht] at h; exact h
theorem typed_str {P : Program} {n : Nat} {t : TypeId} {ds : List D} (ht : P.underlying t = some .string) (h : Typed P n t ds) : ∃ s, ds = [.str s] := by
  cases n with
  | zero => simp [Typed] at h
  | succ n => unfold Typed at h; rw [ht] at h; exact h
theorem typed_bool {P : Program} {n : Nat} {t : TypeId} {ds : List D} (ht : P.underlying t = some .bool) (h : Typed P n t ds) : ∃ b, ds = [.bool b] := by
  cases n with
  | zero => simp [Typed] at h
  | succ n => unfold Typed at h; rw [ht] at h; exact h
theorem typed_sl {α : Type} (f : α → List D) {P : Program} {n : Nat} {t e : TypeId} {sz : Nat} {ds : List D} (ht : P.underlying t = some (.slice e)) (hc : P.cellsOf e = sz) (hx : ∀ m x, m < n → Typed P m e x → ∃ a, x = f a) (h : Typed P n t ds) :
    ∃ xs : List α, ds = [.sl sz (xs.map f)] := by
  cases n with
  | zero => simp [Typed] at h
  | succ n =>
    unfold Typed at h
    rw [ht] at h
    obtain ⟨xs, rfl, hxs⟩ := h
    rw [hc]
    suffices ∃ zs : List α, xs = zs.map f by
      obtain ⟨zs, rfl⟩ := this
      exact ⟨zs, rfl⟩
    induction xs with
    | nil => exact ⟨[], rfl⟩
    | cons x xs ih =>
      obtain ⟨z, rfl⟩ := hx n x (Nat.lt_succ_self n) (hxs x (by simp))
      obtain ⟨zs, rfl⟩ := ih fun y hy => hxs y (by simp [hy])
      exact ⟨z :: zs, rfl⟩

theorem typed_Core : ∀ (n : Nat) (ds : List D), Typed Try.prog n 38 ds → ∃ x : TCore, ds = x.toD := by
  intro n
  induction n using Nat.strongRecOn with
  | ind n ih =>
    intro ds h
    cases n with
    | zero => simp [Typed] at h
    | succ n =>
      unfold Typed at h
      rw [Try.underlying38] at h
      simp only [Parts] at h
      obtain ⟨d1, r1, h1, ⟨d2, r2, h2, ⟨d3, r3, h3, ⟨d4, r4, h4, rfl, rfl⟩, rfl⟩, rfl⟩, rfl⟩ := h
      obtain ⟨z1, rfl⟩ := typed_int Try.underlying2 h1
      obtain ⟨z2, rfl⟩ := typed_int Try.underlying2 h2
      obtain ⟨z3, rfl⟩ := typed_ints Try.underlying35 Try.underlying2 (by kernel_rfl) h3
      obtain ⟨z4, rfl⟩ := typed_sl TCore.toD (sz := 4) Try.underlying36 (by kernel_rfl) (fun m x hm hx => ih m (by omega) x hx) h4
      refine ⟨.mk z1 z2 z3 z4, ?_⟩
      rw [TCore.toD_eq]; simp [TCore.fKind, TCore.fValue, TCore.fData, TCore.fKids]

theorem typed_Labelled (n : Nat) (ds : List D) (h : Typed Try.prog n 41 ds) : ∃ x : TLabelled, ds = x.toD := by
  cases n with
  | zero => simp [Typed] at h
  | succ n =>
    unfold Typed at h
    rw [Try.underlying41] at h
    simp only [Parts] at h
    obtain ⟨d1, r1, h1, ⟨d2, r2, h2, rfl, rfl⟩, rfl⟩ := h
    obtain ⟨x1, rfl⟩ := typed_Core _ _ h1
    obtain ⟨z2, rfl⟩ := typed_sl (fun s => [D.str s]) (sz := 1) Try.underlying39 (by kernel_rfl) (fun m x hm hx => typed_str Try.underlying9 hx) h2
    exact ⟨⟨x1, z2⟩, by rw [TLabelled.toD_eq]; simp [strs]⟩

end Go.Proofs.Ytmcnnjelajgkjaa
