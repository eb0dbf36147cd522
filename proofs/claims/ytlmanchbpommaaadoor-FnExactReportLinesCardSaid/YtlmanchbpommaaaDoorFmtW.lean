/-
  strconv.FormatInt (base 10) and strings.Join: by the library's contracts.
-/
import Derived.Test.YtlmanchbpommaaaDoorAbS
import Derived.Test.YtlmanchbpommaaaDoorManF
import Derived.Test.YtlmanchbpommaaaDoorTi2
import Derived.Shelf.Strconv.Itoa4
import Derived.Shelf.Strings.OnBuilder
import Derived.Test.YtlmanchbpommaaaDoorShL
namespace Go.Proofs
open Go.Shelf
theorem Tryd.extraJoin : Builder.Extra Tryd.prog Tryd.layJoin_ren where
  sizeBuilder := by kernel_rfl
  liesBuilder := by kernel_rfl
  t5 := Tryd.underlying5
  a5 := Tryd.isAgg5
  z5 := Tryd.sizeOf5
  v5 := Tryd.zeroValue5
  infoByte := by kernel_rfl
  cellsByte := by kernel_rfl
  sizeByte := by kernel_rfl
  neB5 := by decide
end Go.Proofs
namespace Go.Proofs.YtlmanchbpommaaaDoor.Ab
set_option linter.unusedVariables false
set_option linter.unusedSimpArgs false
set_option maxRecDepth 20000
open Go.RowKit Go.Sort

theorem below_grow {w : World} {n : Nat} {os : Array Obj} : Below w.heap.size w (Sort.grow (w.drewN n) os) := by
  refine ⟨rfl, rfl, rfl, ?_, fun k hk => ?_⟩
  · show w.heap.size ≤ (w.heap ++ os).size
    simp
  · show (w.heap ++ os)[k]? = w.heap[k]?
    rw [Array.getElem?_append, if_pos hk]
theorem g_FormatInt_ok (a0 a1 : Int) (r : ByteArray) (h : g_FormatInt a0 a1 = some r) : AC Tryd.prog 34 [.int .i64 a0, .int .i64 a1] (.str r) := by
  unfold g_FormatInt at h
  split at h
  case isFalse => cases h
  rename_i h10
  subst h10
  cases h
  refine ⟨by kernel_rfl, fun w us hsh hlow hamb hv => ?_⟩
  simp only [VSims, VSim, Rep] at hv
  obtain ⟨u, us', rfl, ⟨rfl, hw⟩, u2, us2, rfl, ⟨rfl, -⟩, rfl⟩ := hv
  have hr : -9223372036854775808 ≤ a0 ∧ a0 ≤ 9223372036854775807 := by simpa [Lit.wf, IntKind.min, IntKind.max, IntKind.signed, IntKind.bits] using hw
  refine (show Calls Tryd.prog 34 #[.int .i64 a0, .int .i64 10] w _ from Any.strconv_FormatInt_10 Tryd.layFmt a0 hr.1 hr.2 w hamb.2).mono ?_
  rintro e w' ⟨rfl, k, os, rfl⟩
  refine ⟨_, [], rfl, ⟨rfl, ?_, rfl⟩, by simp, by simp, below_grow⟩
  have := Lib.itoa_length_le a0 hr.1 hr.2
  show (Lib.itoa a0).toArray.size ≤ maxLen
  rw [List.size_toArray]
  unfold maxLen
  omega
theorem g_Join_ok (a0 : List ByteArray) (a1 : ByteArray) (r : ByteArray) (h : g_Join a0 a1 = some r) : AC Tryd.prog 41 [.ro (List.map strD a0), .str a1] (.str r) := by
  unfold g_Join at h
  split at h
  case isFalse => cases h
  rename_i hc
  obtain ⟨hc1, hc2⟩ := hc
  cases h
  refine ⟨by kernel_rfl, fun w us hsh hlow hamb hv => ?_⟩
  simp only [VSims, VSim] at hv
  obtain ⟨u, us', rfl, h0, u2, us2, rfl, ⟨rfl, -⟩, rfl⟩ := hv
  simp only [Rep] at h0
  obtain ⟨a, c, rfl, hc0, hc3, hrow⟩ := h0
  rw [List.length_map] at hc0 ⊢
  have fin : ∀ w', Below w.heap.size w w' → ∃ v fp, Ending.returned (Value.string (joinB a0 a1)) = .returned v ∧ RSim w' (.str (joinB a0 a1)) v fp ∧ fp.Nodup ∧ (∀ g ∈ fp, w.heap.size ≤ g) ∧ Below w.heap.size w w' := fun w' hb => by
    refine ⟨_, [], rfl, ⟨rfl, ?_, rfl⟩, by simp, by simp, hb⟩
    show (Lib.join (a0.map (·.data.toList)) a1.data.toList).toArray.size ≤ maxLen
    rw [List.size_toArray]
    unfold maxLen
    omega
  by_cases hne : a0 = []
  · subst hne
    refine (show Calls Tryd.prog 41 #[.slice a 0 c, .string a1] w _ from Any.strings_Join_none Tryd.layJoin Tryd.extraJoin a c a1 w).mono ?_
    rintro e w' ⟨rfl, rfl⟩
    exact fin _ (Below.refl _ _)
  · obtain ⟨sz, b, off, rfl, hr⟩ := hrow.resolve_left (by simpa using hne)
    have hcell : ∀ (j : Nat) x, a0[j]? = some x → w.cell? ⟨b, off + j, none⟩ = some (.string x) := fun j x hx => by
      obtain ⟨hj, rfl⟩ := List.getElem?_eq_some_iff.1 hx
      have h2 := hr.at j (by simpa using hj)
      rw [List.getElem_map] at h2
      obtain ⟨h2, h3⟩ := h2
      have hs1 : sz = 1 := by rw [← h2]; rfl
      subst hs1
      simp only [strD, RepC, Rep, Nat.mul_one] at h3
      obtain ⟨⟨v, hv, rfl, -⟩, -⟩ := h3
      exact hv
    have hbk : b < w.heap.size := by
      obtain ⟨x, l, rfl⟩ : ∃ x l, a0 = x :: l := by cases a0 with | nil => exact absurd rfl hne | cons x l => exact ⟨x, l, rfl⟩
      have h4 := hcell 0 x rfl
      unfold World.cell? at h4
      by_cases hlt : b < w.heap.size
      · exact hlt
      · rw [Array.getElem?_eq_none (by simpa using hlt)] at h4
        simp at h4
    refine (show Calls Tryd.prog 41 #[.slice (some ⟨b, off, none⟩) a0.length c, .string a1] w _ from Any.strings_Join Tryd.layJoin Tryd.extraJoin b off c a0 a1 w hcell hbk (by omega) hc0 (by omega)).mono ?_
    rintro e w' ⟨rfl, hb⟩
    exact fin _ hb
end Go.Proofs.YtlmanchbpommaaaDoor.Ab
