/-
  Desks compared: both sides tell whether they are the same. No program is in sight.
-/
import Derived.Test.YtffokcfdkkikmaaPlTD
namespace Go.Proofs.Ytffokcfdkkikmaa.Ab
set_option linter.unusedVariables false
set_option linter.unusedSimpArgs false
open Go.RowKit

theorem fuel_sz {k : Nat} (h : k ≤ Big) : 16 * k + 8 ≤ fuel := by rw [fuel_eq]; unfold Big at h; omega
theorem l00Same_tells (l m : List Int) (hl : l.length ≤ Big) : Tells (s_l00Same l m) (l = m) := by
  unfold s_l00Same
  exact gEqS (fun n i => s_l00Same_l1 n l m i) (fun x y => some (decide (x = y))) l m (fun n i => by rw [s_l00Same_l1]; rfl) hl fun x _ y _ => .mk dec_iff
theorem equalInt_tells (l m : List Int) (hl : l.length ≤ Big) : Tells (g_Equal_sint64 l m) (l = m) := by
  unfold g_Equal_sint64
  exact gEqS (fun n i => g_Equal_sint64_l1 n l m i) (fun x y => some (decide (x = y))) l m (fun n i => by rw [g_Equal_sint64_l1]; rfl) hl fun x _ y _ => .mk dec_iff
theorem equalStr_tells (l m : List ByteArray) (hl : l.length ≤ Big) : Tells (g_Equal_sstring l m) (l = m) := by
  unfold g_Equal_sstring
  exact gEqS (fun n i => g_Equal_sstring_l1 n l m i) (fun x y => some (sameStr x y)) l m (fun n i => by rw [g_Equal_sstring_l1]; rfl) hl fun x _ y _ => .mk sameStr_iff
theorem sameNames_tells (l m : List ByteArray) (hl : l.length ≤ Big) : Tells (s_l03SameNames l m) (l = m) := by
  unfold s_l03SameNames
  exact gEqS (fun n i => s_l03SameNames_l1 n l m i) (fun x y => some (sameStr x y)) l m (fun n i => by rw [s_l03SameNames_l1]; rfl) hl fun x _ y _ => .mk sameStr_iff
/-! ### Types -/
theorem iSameType_tells : ∀ (x : TType), x.sz ≤ Big → ∀ (y : TType) n, 16 * x.sz + 8 ≤ n → Tells (i_SameType n x y) (x = y) := by
  refine TType.ind fun x ih h y n hn => ?_
  obtain ⟨n, rfl⟩ : ∃ m, n = m + 1 := ⟨n - 1, by omega⟩
  rw [TType.sz_eq] at h hn
  have hl := szl_len TType.sz x.kids
  rw [i_SameType]
  unfold g_EqualFunc_simpl_Type
  refine (tells_if dec_iff fun _ => tells_if sameStr_iff fun _ => tells_bind_some (gEqS (fun n i => g_EqualFunc_simpl_Type_l1 n x.kids y.kids i _) _ _ _ (fun n i => by rw [g_EqualFunc_simpl_Type_l1]) (by omega) fun a ha b _ => ?_)).iff (by rw [TType.eq_iff])
  have := szl_mem (s := TType.sz) ha
  exact ih a ha (by omega) b n (by omega)
theorem sSameType_tells : ∀ (x : TType), x.sz ≤ Big → ∀ (y : TType) n, 16 * x.sz + 8 ≤ n → Tells (s_SameType n x y) (x = y) := by
  refine TType.ind fun x ih h y n hn => ?_
  obtain ⟨n, rfl⟩ : ∃ m, n = m + 2 := ⟨n - 2, by omega⟩
  rw [TType.sz_eq] at h hn
  have hl := szl_len TType.sz x.kids
  rw [s_SameType]
  simp only [s_SameType_j1, eq_self, reduceIte]
  refine (tells_ifn dec_iff fun _ => tells_ifn sameStr_iff fun _ => tells_ifn len_iff fun hlen => gTellF (fun n i => s_SameType_l3 n x y i) x.kids y.kids TType.sz 15 1 True (fun n i a b q h1 h2 h3 ha hn hq => ?_) (fun n => ?_) (by omega) hlen n (by omega)).iff (by rw [TType.eq_iff]; exact ⟨fun ⟨a, b, _, c, _⟩ => ⟨a, b, c⟩, fun ⟨a, b, c⟩ => ⟨a, b, by rw [c], c, trivial⟩⟩)
  · have := szl_mem (s := TType.sz) ha
    rw [s_SameType_l3, if_pos h1, h2, bind_some', h3, bind_some']
    exact tells_bind_ifn (ih a ha (by omega) b n (by omega)) fun _ => hq
  · rw [s_SameType_l3, if_neg (by simp)]; exact tells_true
theorem sameTypes_tells (l m : List TType) (h : szl TType.sz l ≤ Big) : Tells (s_l03SameTypes l m) (l = m) := by
  have hl := szl_len TType.sz l
  unfold s_l03SameTypes
  exact gEqS (fun n i => s_l03SameTypes_l1 n l m i) _ l m (fun n i => by rw [s_l03SameTypes_l1]) (by omega) fun a ha b _ => (by have := szl_mem (s := TType.sz) ha; exact sSameType_tells a (by omega) b fuel (fuel_sz (by omega)))
theorem equalTypes_tells (l m : List TType) (h : szl TType.sz l ≤ Big) : Tells (g_EqualFunc_simpl_Type l m fun y0 y1 => i_SameType fuel y0 y1) (l = m) := by
  have hl := szl_len TType.sz l
  unfold g_EqualFunc_simpl_Type
  exact gEqS (fun n i => g_EqualFunc_simpl_Type_l1 n l m i _) _ l m (fun n i => by rw [g_EqualFunc_simpl_Type_l1]) (by omega) fun a ha b _ => (by have := szl_mem (s := TType.sz) ha; exact iSameType_tells a (by omega) b fuel (fuel_sz (by omega)))
/-! ### Terms -/
theorem iSameTerm_tells : ∀ (x : Term), x.sz ≤ Big → ∀ (y : Term) n, 16 * x.sz + 8 ≤ n → Tells (i_SameTerm n x y) (x = y) := by
  refine Term.ind fun x ih h y n hn => ?_
  obtain ⟨n, rfl⟩ : ∃ m, n = m + 1 := ⟨n - 1, by omega⟩
  rw [Term.sz_eq] at h hn
  have hl := szl_len Term.sz x.kids
  rw [i_SameTerm]
  unfold g_EqualFunc_simpl_Term
  refine (tells_if dec_iff fun _ => tells_if dec_iff fun _ => tells_if sameStr_iff fun _ => tells_bind_if (iSameType_tells _ (by omega) _ fuel (fuel_sz (by omega))) fun _ => tells_bind_if (equalStr_tells _ _ (by omega)) fun _ => tells_bind_some (gEqS (fun n i => g_EqualFunc_simpl_Term_l1 n x.kids y.kids i _) _ _ _ (fun n i => by rw [g_EqualFunc_simpl_Term_l1]) (by omega) fun a ha b _ => ?_)).iff (by rw [Term.eq_iff])
  have := szl_mem (s := Term.sz) ha
  exact ih a ha (by omega) b n (by omega)
theorem sSameTerm_tells : ∀ (x : Term), x.sz ≤ Big → ∀ (y : Term) n, 16 * x.sz + 8 ≤ n → Tells (s_SameTerm n x y) (x = y) := by
  refine Term.ind fun x ih h y n hn => ?_
  obtain ⟨n, rfl⟩ : ∃ m, n = m + 2 := ⟨n - 2, by omega⟩
  rw [Term.sz_eq] at h hn
  have hl := szl_len Term.sz x.kids
  rw [s_SameTerm]
  simp only [s_SameTerm_j1, eq_self, reduceIte]
  refine (tells_ifn dec_iff fun _ => tells_ifn dec_iff fun _ => tells_ifn sameStr_iff fun _ => tells_bind_ifn (sSameType_tells _ (by omega) _ fuel (fuel_sz (by omega))) fun _ => tells_bind_ifn (sameNames_tells _ _ (by omega)) fun _ => tells_ifn len_iff fun hlen => gTellF (fun n i => s_SameTerm_l3 n x y i) x.kids y.kids Term.sz 15 1 True (fun n i a b q h1 h2 h3 ha hn hq => ?_) (fun n => ?_) (by omega) hlen n (by omega)).iff (by rw [Term.eq_iff]; exact ⟨fun ⟨a, b, c, d, e, _, f, _⟩ => ⟨a, b, c, d, e, f⟩, fun ⟨a, b, c, d, e, f⟩ => ⟨a, b, c, d, e, by rw [f], f, trivial⟩⟩)
  · have := szl_mem (s := Term.sz) ha
    rw [s_SameTerm_l3, if_pos h1, h2, bind_some', h3, bind_some']
    exact tells_bind_ifn (ih a ha (by omega) b n (by omega)) fun _ => hq
  · rw [s_SameTerm_l3, if_neg (by simp)]; exact tells_true
/-! ### Constructors, data, definitions, programs, desks -/
theorem sameCons_tells (x y : Constructor) (h : x.sz ≤ Big) : Tells (i_sameData_1 x y) (x = y) := by
  simp only [Constructor.sz] at h
  unfold i_sameData_1
  exact (tells_if sameStr_iff fun _ => tells_bind_some (equalTypes_tells _ _ (by omega))).iff (by rw [Constructor.eq_iff])
theorem iSameData_tells (x y : Data) (h : x.sz ≤ Big) : Tells (i_sameData x y) (x = y) := by
  simp only [Data.sz] at h
  have hl := szl_len Constructor.sz x.cons
  unfold i_sameData g_EqualFunc_simpl_Constructor
  exact (tells_if sameStr_iff fun _ => tells_bind_some (gEqS (fun n i => g_EqualFunc_simpl_Constructor_l1 n x.cons y.cons i _) _ _ _ (fun n i => by rw [g_EqualFunc_simpl_Constructor_l1]) (by omega) fun a ha b _ => (by have := szl_mem (s := Constructor.sz) ha; exact sameCons_tells a b (by omega)))).iff (by rw [Data.eq_iff])
theorem sSameData_tells (x y : Data) (h : x.sz ≤ Big) : Tells (s_l03SameData x y) (x = y) := by
  simp only [Data.sz] at h
  have hl := szl_len Constructor.sz x.cons
  unfold s_l03SameData
  simp only [s_l03SameData_j1, eq_self, reduceIte]
  refine (tells_ifn sameStr_iff fun _ => tells_ifn len_iff fun hlen => gTellF (fun n i => s_l03SameData_l8 n x y i) x.cons y.cons Constructor.sz 1 2 True (fun n i a b q h1 h2 h3 ha hn hq => ?_) (fun n => ?_) (by omega) hlen fuel (by rw [fuel_eq]; unfold Big at h; omega)).iff (by rw [Data.eq_iff]; exact ⟨fun ⟨a, _, b, _⟩ => ⟨a, b⟩, fun ⟨a, b⟩ => ⟨a, by rw [b], b, trivial⟩⟩)
  · have := szl_mem (s := Constructor.sz) ha
    have hz : a.sz ≤ Big := by omega
    simp only [Constructor.sz] at hz
    show Tells (s_l03SameData_l8 (n + 2) x y i) (a = b ∧ q)
    rw [s_l03SameData_l8, if_pos h1]
    simp only [h2, h3, bind_some', s_l03SameData_j9, eq_self, reduceIte]
    exact (tells_ifn sameStr_iff fun _ => tells_bind_ifn (sameTypes_tells _ _ (by omega)) fun _ => hq).iff (by rw [Constructor.eq_iff, and_assoc])
  · show Tells (s_l03SameData_l8 (n + 1) x y _) True
    rw [s_l03SameData_l8, if_neg (by simp)]; exact tells_true
theorem sameDef_tells (x y : Def) (h : x.sz ≤ Big) : Tells (i_SameProgram_1 x y) (x = y) := by
  simp only [Def.sz] at h
  unfold i_SameProgram_1
  exact (tells_if sameStr_iff fun _ => tells_bind_if (iSameType_tells _ (by omega) _ fuel (fuel_sz (by omega))) fun _ => tells_bind_some (iSameTerm_tells _ (by omega) _ fuel (fuel_sz (by omega)))).iff (by rw [Def.eq_iff])
theorem iSameProgram_tells (x y : TProgram) (h : x.sz ≤ Big) : Tells (i_SameProgram x y) (x = y) := by
  simp only [TProgram.sz] at h
  have hl := szl_len Data.sz x.datas
  have hl2 := szl_len Def.sz x.defs
  unfold i_SameProgram g_EqualFunc_simpl_Data g_EqualFunc_simpl_Def
  exact (tells_bind_if (gEqS (fun n i => g_EqualFunc_simpl_Data_l1 n x.datas y.datas i _) _ _ _ (fun n i => by rw [g_EqualFunc_simpl_Data_l1]) (by omega) fun a ha b _ => (by have := szl_mem (s := Data.sz) ha; exact iSameData_tells a b (by omega))) fun _ =>
    tells_bind_some (gEqS (fun n i => g_EqualFunc_simpl_Def_l1 n x.defs y.defs i _) _ _ _ (fun n i => by rw [g_EqualFunc_simpl_Def_l1]) (by omega) fun a ha b _ => (by have := szl_mem (s := Def.sz) ha; exact sameDef_tells a b (by omega)))).iff (by rw [TProgram.eq_iff])
theorem sSameProgram_tells (x y : TProgram) (h : x.sz ≤ Big) : Tells (s_SameProgram x y) (x = y) := by
  simp only [TProgram.sz] at h
  have hl := szl_len Data.sz x.datas
  have hl2 := szl_len Def.sz x.defs
  unfold s_SameProgram
  simp only [s_SameProgram_j1, eq_self, reduceIte]
  refine (tells_ifn len_iff fun hlen1 => tells_ifn len_iff fun hlen2 => gTellF (fun n i => s_SameProgram_l3 n x y i) x.datas y.datas Data.sz 1 1 (x.defs = y.defs ∧ True) (fun n i a b q h1 h2 h3 ha hn hq => ?_) (fun n => ?_) (by omega) hlen1 fuel (by rw [fuel_eq]; unfold Big at h; omega)).iff (by rw [TProgram.eq_iff]; exact ⟨fun ⟨_, _, a, b, _⟩ => ⟨a, b⟩, fun ⟨a, b⟩ => ⟨by rw [a], by rw [b], a, b, trivial⟩⟩)
  · have := szl_mem (s := Data.sz) ha
    show Tells (s_SameProgram_l3 (n + 1) x y i) (a = b ∧ q)
    rw [s_SameProgram_l3, if_pos h1, h2, bind_some', h3, bind_some']
    exact tells_bind_ifn (sSameData_tells a b (by omega)) fun _ => hq
  · show Tells (s_SameProgram_l3 (n + 1) x y _) _
    rw [s_SameProgram_l3, if_neg (by simp)]
    refine gTellF (fun n i => s_SameProgram_l10 n x y i) x.defs y.defs Def.sz 1 2 True (fun n i a b q h1 h2 h3 ha hn hq => ?_) (fun n => ?_) (by omega) hlen2 fuel (by rw [fuel_eq]; unfold Big at h; omega)
    · have := szl_mem (s := Def.sz) ha
      have hz : a.sz ≤ Big := by omega
      simp only [Def.sz] at hz
      show Tells (s_SameProgram_l10 (n + 2) x y i) (a = b ∧ q)
      rw [s_SameProgram_l10, if_pos h1]
      simp only [h2, h3, bind_some', s_SameProgram_j11, eq_self, reduceIte]
      exact (tells_ifn sameStr_iff fun _ => tells_bind_ifn (sSameType_tells _ (by omega) _ fuel (fuel_sz (by omega))) fun _ => tells_bind_ifn (sSameTerm_tells _ (by omega) _ fuel (fuel_sz (by omega))) fun _ => hq).iff (by rw [Def.eq_iff, and_assoc, and_assoc])
    · show Tells (s_SameProgram_l10 (n + 1) x y _) True
      rw [s_SameProgram_l10, if_neg (by simp)]; exact tells_true
theorem iSameDesk_tells (x y : Desk) (h : x.sz ≤ Big) : Tells (i_SameDesk x y) (x = y) := by
  simp only [Desk.sz] at h
  unfold i_SameDesk
  exact (tells_if beq_iff_eq fun _ => tells_bind_if (iSameProgram_tells _ _ (by omega)) fun _ => tells_bind_if (equalInt_tells _ _ (by omega)) fun _ => .mk dec_iff).iff (by rw [Desk.eq_iff])
theorem sSameDesk_tells (x y : Desk) (h : x.sz ≤ Big) : Tells (s_SameDesk x y) (x = y) := by
  simp only [Desk.sz] at h
  unfold s_SameDesk
  exact (tells_if beq_iff_eq fun _ => tells_bind_if (sSameProgram_tells _ _ (by omega)) fun _ => tells_bind_if (l00Same_tells _ _ (by omega)) fun _ => .mk dec_iff).iff (by rw [Desk.eq_iff])
theorem SameDesk_same (x y : Desk) (hx : x.sz ≤ 1048576) (hy : y.sz ≤ 1048576) : ∃ r, s_SameDesk x y = some r ∧ i_SameDesk x y = some r ∧ True := by
  have h : x.sz ≤ Big := by unfold Big; omega
  obtain ⟨b, hb, -⟩ := sSameDesk_tells x y h
  exact ⟨b, hb, by rw [(iSameDesk_tells x y h).eq (sSameDesk_tells x y h), hb], trivial⟩
end Go.Proofs.Ytffokcfdkkikmaa.Ab
