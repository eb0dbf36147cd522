/-
  Erasure of books: both sides the same. No program is in sight.
-/
import Derived.Test.YtffokcfdkkikmaaPlErase
import Derived.Test.YtffokcfdkkikmaaPlBookM
namespace Go.Proofs.Ytffokcfdkkikmaa.Ab
set_option linter.unusedVariables false
set_option linter.unusedSimpArgs false
open Go.RowKit

theorem sz_er {c e : Core} (hc : c.closed = true) (he : c.er = some e) : e.sz ≤ 2000 := by
  obtain ⟨hv, hab⟩ := closed_parts hc
  obtain ⟨hw, hd, hn⟩ := valid_parts hv
  have g := er_good c hw 0 (by omega) hab e he
  have := g.parts
  have := sz_wf e g.wf
  omega
theorem szs_ers : ∀ {l l' : List Core}, (∀ c ∈ l, c.closed = true) → Core.ers l = some l' → Core.szs l' ≤ 2001 * l.length
  | [], l', _, h => by rw [Core.ers] at h; cases h; simp [Core.szs]
  | c :: cs, l', hc, h => by
    rw [Core.ers] at h
    cases he : c.er with
    | none => rw [he] at h; cases h
    | some e =>
      cases hcs : Core.ers cs with
      | none => rw [he, hcs] at h; cases h
      | some l =>
        rw [he, hcs] at h
        cases h
        rw [Core.szs, List.length_cons]
        have := sz_er (hc c (by simp)) he
        have := szs_ers (fun x hx => hc x (by simp [hx])) hcs
        omega
theorem EraseBook_same (b : Book) (hb : b.sz ≤ 1048576) : ∃ r, s_EraseBook b = some r ∧ i_EraseBook b = some r ∧ r.1.sz ≤ Big := by
  obtain ⟨hl, hs, hN⟩ := szs_small (l := b.defs) hb
  unfold s_EraseBook i_EraseBook
  rw [l06Book_eq b hl hs, ValidBook_eq b hl hs, bind_some', bind_some']
  cases hv : b.valid with
  | false => exact ⟨(⟨[]⟩, 1), by simp, by simp, by show Core.szs [] ≤ Big; simp [Core.szs]⟩
  | true =>
    have hall : ∀ c ∈ b.defs, c.closed = true := fun c hc => by
      unfold Book.valid at hv
      rw [Bool.and_eq_true, List.all_eq_true] at hv
      have := hv.2 c hc
      unfold defOk at this
      rw [Bool.and_eq_true] at this
      exact this.1
    have hlen : b.defs.length ≤ 24 := by
      unfold Book.valid at hv
      simp at hv
      omega
    have one : ∀ c ∈ b.defs, s_l08Erase fuel c = some (match c.er with | some e => (e, 0) | none => (noCore, 4)) := fun c hc => by
      obtain ⟨hv, hab⟩ := closed_parts (hall c hc)
      obtain ⟨hw, hd, hn⟩ := valid_parts hv
      exact sErase_eq c (hs c hc).1 hw hn 0 fuel (by omega) hab (fuel_nodes (hs c hc).2)
    have two : ∀ c ∈ b.defs, i_EraseCore c = some (match c.er with | some e => (e, 0) | none => (noCore, 4)) := fun c hc => by
      obtain ⟨r, h1, h2, h3, h4⟩ := EraseCore_two c (hs c hc).1 (hs c hc).2
      have := h4 (hall c hc)
      rw [one c hc] at this
      rw [h2, ← this]
    have loop : ∀ (post pre acc : List Core) (n : Nat), b.defs = pre ++ post → acc.length = pre.length → post.length < n →
        s_l08EraseBook_l2 n b acc ((List.length pre : Nat) : Int) = some (match Core.ers post with | some l => (⟨acc ++ l⟩, 0) | none => (⟨[]⟩, 4)) ∧
        i_EraseBook_l2 n b acc ((List.length pre : Nat) : Int) = some (match Core.ers post with | some l => (⟨acc ++ l⟩, 0) | none => (⟨[]⟩, 4)) := by
      intro post
      induction post with
      | nil =>
        intro pre acc n h hal hn
        obtain ⟨n, rfl⟩ : ∃ m, n = m + 1 := ⟨n - 1, by omega⟩
        rw [s_l08EraseBook_l2, i_EraseBook_l2, ge_app h, if_neg (by simp), if_neg (by simp), Core.ers]
        simp
      | cons x post ihp =>
        intro pre acc n h hal hn
        rw [List.length_cons] at hn
        obtain ⟨n, rfl⟩ : ∃ m, n = m + 1 := ⟨n - 1, by omega⟩
        have hx : x ∈ b.defs := by rw [h]; simp
        have hpl : pre.length + 1 ≤ b.defs.length := by rw [h]; simp
        rw [s_l08EraseBook_l2, i_EraseBook_l2, if_pos (lt_app h), if_pos (lt_app h), at_app h, bind_some', bind_some', one x hx, two x hx, bind_some', bind_some', Core.ers]
        cases hxe : x.er with
        | none => exact ⟨rfl, rfl⟩
        | some e =>
          simp only [decide_true, Bool.not_true, Bool.false_eq_true, reduceIte]
          rw [app_ok (by simp; omega), wrap_app h hl]
          simp only [bind_some']
          have := ihp (pre ++ [x]) (acc ++ [e]) n (next_app h) (by simp [hal]) (by omega)
          rw [this.1, this.2]
          cases Core.ers post with
          | none => exact ⟨rfl, rfl⟩
          | some l => simp
    have hf : b.defs.length < fuel := by rw [fuel_eq]; omega
    obtain ⟨h1, h2⟩ := loop b.defs [] [] fuel (by simp) rfl hf
    rw [show ((List.length ([] : List Core) : Nat) : Int) = 0 from rfl] at h1 h2
    refine ⟨(match Core.ers b.defs with | some l => (⟨[] ++ l⟩, 0) | none => (⟨[]⟩, 4)), ?_, ?_, ?_⟩
    · simp only [Bool.not_true, Bool.false_eq_true, reduceIte]
      unfold s_l08EraseBook
      rw [h1, bind_some']
    · simp only [Bool.not_true, Bool.false_eq_true, reduceIte]
      exact h2
    · cases he : Core.ers b.defs with
      | none => show Core.szs [] ≤ Big; simp [Core.szs]
      | some l =>
        have := szs_ers hall he
        show Core.szs ([] ++ l) ≤ Big
        rw [List.nil_append]
        unfold Big; omega
end Go.Proofs.Ytffokcfdkkikmaa.Ab
