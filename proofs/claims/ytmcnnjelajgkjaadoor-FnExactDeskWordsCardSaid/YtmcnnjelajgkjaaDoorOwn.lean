/-
  Data in memory of the call's own ('Own'): with the list of the blocks that it takes up. What it reads as; that it is kept where its blocks are kept; rows taken apart and put together.
-/
import Derived.Test.YtmcnnjelajgkjaaDoorLib
import Derived.Test.YtmcnnjelajgkjaaDoorReads
import Derived.StillTailTactics
namespace Go.Proofs.YtmcnnjelajgkjaaDoor
set_option linter.unusedVariables false
open Go.RowKit

mutual
def Own (w : World) : D → Value → List Nat → Prop
  | .int k n, v, fp => v = .int k n ∧ (Lit.int k n).wf = true ∧ fp = []
  | .bool b, v, fp => v = .bool b ∧ fp = []
  | .str s, v, fp => v = .string s ∧ s.size ≤ maxLen ∧ fp = []
  | .sl sz xs, v, fp => ∃ e vs fps, w.ownsRow 0 e sz v xs.length vs ∧ OwnR w sz vs xs fps ∧ fp = v.ownBlock.toList ++ fps
def OwnR (w : World) (sz : Nat) : List Value → List (List D) → List Nat → Prop
  | vs, [], fp => vs = [] ∧ fp = []
  | vs, x :: xs, fp => ∃ v1 v2 f1 f2, vs = v1 ++ v2 ∧ v1.length = sz ∧ OwnC w v1 x f1 ∧ OwnR w sz v2 xs f2 ∧ fp = f1 ++ f2
def OwnC (w : World) : List Value → List D → List Nat → Prop
  | vs, [], fp => vs = [] ∧ fp = []
  | vs, d :: ds, fp => ∃ v vs' f1 f2, vs = v :: vs' ∧ Own w d v f1 ∧ OwnC w vs' ds f2 ∧ fp = f1 ++ f2
end

mutual
theorem Own.keep {w w' : World} : ∀ {d : D} {v : Value} {fp : List Nat}, Own w d v fp → (∀ g ∈ fp, w'.heap[g]? = w.heap[g]?) → Own w' d v fp
  | .int _ _, _, _, h, _ => by simpa [Own] using h
  | .bool _, _, _, h, _ => by simpa [Own] using h
  | .str _, _, _, h, _ => by simpa [Own] using h
  | .sl sz xs, v, fp, h, hk => by
    simp only [Own] at h ⊢
    obtain ⟨e, vs, fps, ho, hr, rfl⟩ := h
    refine ⟨e, vs, fps, ⟨ho.1, ?_⟩, OwnR.keep hr fun g hg => hk g (by simp [hg]), rfl⟩
    rcases ho.2 with h2 | ⟨g, cap, cur, rfl, hb, hh, h3⟩
    · exact .inl h2
    · exact .inr ⟨g, cap, cur, rfl, hb, by rw [hk g (by simp [Value.ownBlock])]; exact hh, h3⟩
theorem OwnR.keep {w w' : World} {sz : Nat} : ∀ {vs : List Value} {xs : List (List D)} {fp : List Nat}, OwnR w sz vs xs fp → (∀ g ∈ fp, w'.heap[g]? = w.heap[g]?) → OwnR w' sz vs xs fp
  | _, [], _, h, _ => by simpa [OwnR] using h
  | _, x :: xs, fp, h, hk => by
    simp only [OwnR] at h ⊢
    obtain ⟨v1, v2, f1, f2, rfl, hl, hc, hr, rfl⟩ := h
    exact ⟨v1, v2, f1, f2, rfl, hl, OwnC.keep hc fun g hg => hk g (by simp [hg]), OwnR.keep hr fun g hg => hk g (by simp [hg]), rfl⟩
theorem OwnC.keep {w w' : World} : ∀ {vs : List Value} {ds : List D} {fp : List Nat}, OwnC w vs ds fp → (∀ g ∈ fp, w'.heap[g]? = w.heap[g]?) → OwnC w' vs ds fp
  | _, [], _, h, _ => by simpa [OwnC] using h
  | _, d :: ds, fp, h, hk => by
    simp only [OwnC] at h ⊢
    obtain ⟨v, vs', f1, f2, rfl, ho, hc, rfl⟩ := h
    exact ⟨v, vs', f1, f2, rfl, Own.keep ho fun g hg => hk g (by simp [hg]), OwnC.keep hc fun g hg => hk g (by simp [hg]), rfl⟩
end

theorem OwnC.length {w : World} : ∀ {vs : List Value} {ds : List D} {fp : List Nat}, OwnC w vs ds fp → vs.length = ds.length
  | _, [], _, h => by simp [OwnC] at h; simp [h.1]
  | _, d :: ds, _, h => by
    simp only [OwnC] at h
    obtain ⟨v, vs', f1, f2, rfl, -, hc, -⟩ := h
    simp [OwnC.length hc]
theorem OwnR.length {w : World} {sz : Nat} : ∀ {vs : List Value} {xs : List (List D)} {fp : List Nat}, OwnR w sz vs xs fp → vs.length = xs.length * sz
  | _, [], _, h => by simp [OwnR] at h; simp [h.1]
  | _, x :: xs, _, h => by
    simp only [OwnR] at h
    obtain ⟨v1, v2, f1, f2, rfl, hl, -, hr, -⟩ := h
    simp [hl, OwnR.length hr, Nat.add_mul]; omega

theorem lt_of_get {α : Type} {l : List α} {i : Nat} {u : α} (h : l[i]? = some u) : i < l.length := by
  rcases Nat.lt_or_ge i l.length with h' | h'
  · exact h'
  · rw [List.getElem?_eq_none h'] at h; cases h
mutual
theorem Own.rep {w : World} : ∀ {d : D} {v : Value} {fp : List Nat}, Own w d v fp → Rep w d v
  | .int _ _, _, _, h => by simp only [Own] at h; exact ⟨h.1, h.2.1⟩
  | .bool _, _, _, h => by simp only [Own] at h; exact h.1
  | .str _, _, _, h => by simp only [Own] at h; exact ⟨h.1, h.2.1⟩
  | .sl sz xs, v, fp, h => by
    simp only [Own] at h
    obtain ⟨e, vs, fps, ho, hr, rfl⟩ := h
    simp only [Rep]
    rcases Blk.of_owns ho with ⟨rfl, hn, rfl⟩ | ⟨g, cap, rest, rfl, -, hb, hn, hc, h1, -⟩
    · have : xs = [] := List.eq_nil_of_length_eq_zero hn
      subst this
      exact ⟨none, 0, rfl, Nat.le_refl _, Nat.zero_le _, .inl rfl⟩
    · refine ⟨_, _, rfl, hn, hc, .inr ⟨g, 0, rfl, ?_⟩⟩
      exact OwnR.rep hr (off := 0) fun i u hu => by
        rw [hb.cell, Nat.zero_add, List.getElem?_append_left (lt_of_get hu)]
        exact hu
theorem OwnR.rep {w : World} {sz : Nat} {g : Nat} : ∀ {vs : List Value} {xs : List (List D)} {fp : List Nat} {off : Nat}, OwnR w sz vs xs fp → (∀ i u, vs[i]? = some u → w.cell? ⟨g, off + i, none⟩ = some u) → RepR w sz g off xs
  | _, [], _, _, _, _ => by simp [RepR]
  | _, x :: xs, fp, off, h, hc => by
    simp only [OwnR] at h
    obtain ⟨v1, v2, f1, f2, rfl, hl, ho, hr, rfl⟩ := h
    simp only [RepR]
    refine ⟨by rw [← hl]; exact ho.length.symm, OwnC.rep ho fun i u hu => hc i u ?_, OwnR.rep hr fun i u hu => ?_⟩
    · rw [List.getElem?_append_left (lt_of_get hu)]; exact hu
    · rw [Nat.add_assoc]
      refine hc (sz + i) u ?_
      rw [List.getElem?_append_right (by omega), hl, Nat.add_sub_cancel_left]
      exact hu
theorem OwnC.rep {w : World} {g : Nat} : ∀ {vs : List Value} {ds : List D} {fp : List Nat} {off : Nat}, OwnC w vs ds fp → (∀ i u, vs[i]? = some u → w.cell? ⟨g, off + i, none⟩ = some u) → RepC w g off ds
  | _, [], _, _, _, _ => by simp [RepC]
  | _, d :: ds, fp, off, h, hc => by
    simp only [OwnC] at h
    obtain ⟨v, vs', f1, f2, rfl, ho, hr, rfl⟩ := h
    simp only [RepC]
    refine ⟨⟨v, by simpa using hc 0 v rfl, Own.rep ho⟩, OwnC.rep hr fun i u hu => ?_⟩
    have := hc (i + 1) u (by simpa using hu)
    simpa [Nat.add_assoc, Nat.add_comm 1 i] using this
end
theorem OwnC.reps {w : World} : ∀ {vs : List Value} {ds : List D} {fp : List Nat}, OwnC w vs ds fp → Reps w ds vs
  | _, [], _, h => by simp only [OwnC] at h; rw [h.1]; trivial
  | _, d :: ds, _, h => by
    simp only [OwnC] at h
    obtain ⟨v, vs', f1, f2, rfl, ho, hc, -⟩ := h
    exact ⟨ho.rep, OwnC.reps hc⟩

/-- The blocks lie in memory newer than B, and none is met twice. -/
def Fresh (B : Nat) (fp : List Nat) : Prop := (∀ g ∈ fp, B ≤ g) ∧ fp.Nodup
theorem Fresh.nil (B : Nat) : Fresh B [] := ⟨by simp, List.nodup_nil⟩
theorem Fresh.mono {B C : Nat} {fp : List Nat} (h : Fresh B fp) (hc : C ≤ B) : Fresh C fp := ⟨fun g hg => Nat.le_trans hc (h.1 g hg), h.2⟩

mutual
theorem Own.lt {w : World} : ∀ {d : D} {v : Value} {fp : List Nat}, Own w d v fp → ∀ g ∈ fp, g < w.heap.size
  | .int _ _, _, _, h => by simp only [Own] at h; simp [h.2.2]
  | .bool _, _, _, h => by simp only [Own] at h; simp [h.2]
  | .str _, _, _, h => by simp only [Own] at h; simp [h.2.2]
  | .sl sz xs, v, fp, h => by
    simp only [Own] at h
    obtain ⟨e, vs, fps, ho, hr, rfl⟩ := h
    intro g hg
    rcases List.mem_append.1 hg with hg | hg
    · exact (ho.lt g (by cases hv : v.ownBlock <;> simp [hv] at hg; rw [hg])).2
    · exact OwnR.lt hr g hg
theorem OwnR.lt {w : World} {sz : Nat} : ∀ {vs : List Value} {xs : List (List D)} {fp : List Nat}, OwnR w sz vs xs fp → ∀ g ∈ fp, g < w.heap.size
  | _, [], _, h => by simp only [OwnR] at h; simp [h.2]
  | _, x :: xs, fp, h => by
    simp only [OwnR] at h
    obtain ⟨v1, v2, f1, f2, rfl, hl, hc, hr, rfl⟩ := h
    intro g hg
    rcases List.mem_append.1 hg with hg | hg
    · exact OwnC.lt hc g hg
    · exact OwnR.lt hr g hg
theorem OwnC.lt {w : World} : ∀ {vs : List Value} {ds : List D} {fp : List Nat}, OwnC w vs ds fp → ∀ g ∈ fp, g < w.heap.size
  | _, [], _, h => by simp only [OwnC] at h; simp [h.2]
  | _, d :: ds, fp, h => by
    simp only [OwnC] at h
    obtain ⟨v, vs', f1, f2, rfl, ho, hc, rfl⟩ := h
    intro g hg
    rcases List.mem_append.1 hg with hg | hg
    · exact Own.lt ho g hg
    · exact OwnC.lt hc g hg
end

/-- Two lots of blocks, the second made behind the first. -/
theorem Fresh.append {B C : Nat} {f1 f2 : List Nat} (h1 : Fresh B f1) (h2 : Fresh C f2) (hB : B ≤ C) (hlt : ∀ g ∈ f1, g < C) : Fresh B (f1 ++ f2) := by
  refine ⟨fun g hg => ?_, List.nodup_append.2 ⟨h1.2, h2.2, fun a ha b hb => ?_⟩⟩
  · rcases List.mem_append.1 hg with hg | hg
    · exact h1.1 g hg
    · exact Nat.le_trans hB (h2.1 g hg)
  · have h3 := hlt a ha
    have h4 := h2.1 b hb
    omega

/-- One element more. -/
theorem OwnR.snoc {w : World} {sz : Nat} : ∀ {vs : List Value} {xs : List (List D)} {fp : List Nat} {v1 : List Value} {x : List D} {f1 : List Nat}, OwnR w sz vs xs fp → OwnC w v1 x f1 → v1.length = sz → OwnR w sz (vs ++ v1) (xs ++ [x]) (fp ++ f1)
  | _, [], _, v1, x, f1, h, hc, hl => by
    simp only [OwnR] at h
    obtain ⟨rfl, rfl⟩ := h
    simp only [List.nil_append, OwnR]
    exact ⟨v1, [], f1, [], by simp, hl, hc, ⟨rfl, rfl⟩, by simp⟩
  | _, y :: ys, _, v1, x, f1, h, hc, hl => by
    simp only [OwnR] at h
    obtain ⟨u1, u2, g1, g2, rfl, hl2, ho, hr, rfl⟩ := h
    simp only [List.cons_append, OwnR]
    exact ⟨u1, u2 ++ v1, g1, g2 ++ f1, by simp, hl2, ho, OwnR.snoc hr hc hl, by simp⟩

/-- A row over its own block is a slice of the call's own. -/
theorem Own.of_blk {w : World} {g : Nat} {e : TypeId} {vs rest : List Value} {sz n cap : Nat} {xs : List (List D)} {fps : List Nat} (hb : Blk w g e (vs ++ rest)) (hr : OwnR w sz vs xs fps) (hn : n = xs.length) (hc : xs.length ≤ cap) (hm : cap ≤ maxLen) (h2 : (vs ++ rest).length = cap * sz) :
    Own w (.sl sz xs) (.slice (some ⟨g, 0, none⟩) n cap) (g :: fps) := by
  subst hn
  simp only [Own]
  exact ⟨e, vs, fps, owns_of_blk hb (Nat.zero_le _) hc hm hr.length h2, hr, rfl⟩
theorem Own.nil (w : World) (sz : Nat) : Own w (.sl sz []) (.slice none 0 0) [] := by
  simp only [Own]
  exact ⟨0, [], [], World.ownsRow_nil _ _ _ _, ⟨rfl, rfl⟩, rfl⟩
end Go.Proofs.YtmcnnjelajgkjaaDoor
