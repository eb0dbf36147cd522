/-
  Decimal: both sides give the decimal numeral. No program is in sight.
-/
import Derived.Test.YtlmanchbpommaaaDoorModF
import Derived.Test.YtlmanchbpommaaaDoorPlG
namespace Go.Proofs.YtlmanchbpommaaaDoor.Ab
set_option linter.unusedVariables false
set_option linter.unusedSimpArgs false
open Go.RowKit

theorem i_Decimal_eq (n : Int) : i_Decimal n = some (itoaB n) := by
  unfold i_Decimal g_FormatInt
  rw [if_pos rfl]
  rfl
/-- The digits, the last first. -/
def digs : Nat → Nat → List Int
  | 0, _ => []
  | k + 1, u => if u = 0 then [] else (48 + ((u % 10 : Nat) : Int)) :: digs k (u / 10)
theorem digs_length : ∀ k u, (digs k u).length ≤ k
  | 0, _ => by simp [digs]
  | k + 1, u => by
    unfold digs
    split
    · simp
    · have := digs_length k (u / 10)
      simp; omega
theorem decDigits_digs : ∀ k u, 0 < u → u < 10 ^ k → Lib.decDigits u = (digs k u).reverse.map fun z => UInt8.ofNat z.toNat
  | 0, u, h0, h1 => by simp at h1; omega
  | k + 1, u, h0, h1 => by
    rw [Nat.pow_succ] at h1
    rw [Lib.decDigits, digs, if_neg (by omega), List.reverse_cons, List.map_append]
    by_cases h : u < 10
    · rw [dif_pos h]
      have e : u / 10 = 0 := by omega
      have e2 : digs k 0 = [] := by cases k with | zero => rfl | succ k => simp [digs]
      have e3 : u % 10 = u := by omega
      rw [e, e2, e3]
      simp only [List.reverse_nil, List.map_nil, List.nil_append, List.map_cons]
      congr 2
    · rw [dif_neg h, decDigits_digs k (u / 10) (by omega) (by omega)]
      simp only [List.map_cons, List.map_nil]
      congr 3
theorem s_l12_eq (p : List Int) (hp : p.length ≤ Big) : ∀ (n k : Nat) (acc : List Int), k ≤ p.length → k < n → acc.length + k ≤ Big → s_Decimal_l12 n p acc ((k : Int) - 1) = strN? (acc ++ (p.take k).reverse) := by
  intro n
  induction n with
  | zero => intro k acc h1 h2; omega
  | succ n ih =>
    intro k acc h1 h2 h3
    rw [s_Decimal_l12]
    cases k with
    | zero =>
      rw [if_neg (by simp)]
      cases h : strN? (acc ++ (List.take 0 p).reverse) <;> simp at h <;> simp [h]
    | succ k =>
      have e : (((k + 1 : Nat) : Int) - 1) = (k : Int) := by omega
      unfold Big at hp h3
      rw [e, if_pos (by simp)]
      unfold at?
      rw [if_pos (by omega), Int.toNat_natCast, List.getElem?_eq_getElem (by omega), bind_some', app_ok (by simp [Big]; omega), bind_some', w64 (by omega) (by omega), ih k _ (by omega) (by omega) (by simp [Big]; omega)]
      have e2 : acc ++ [p[k]] ++ (p.take k).reverse = acc ++ (p.take (k + 1)).reverse := by
        rw [List.take_succ_eq_append_getElem (by omega), List.reverse_append]
        simp
      rw [e2]
def sDecTail (a : Int) (l : List Int) : Option ByteArray := s_Decimal_j9 a l
theorem s_l7_eq (a : Int) : ∀ (k n : Nat) (acc : List Int) (m : Int), m.natAbs < 10 ^ k → k ≤ 25 → 2 * k + 3 ≤ n → acc.length + k ≤ 1000 → (-9223372036854775808 ≤ m ∧ m ≤ 9223372036854775807) →
    s_Decimal_l7 n a acc m = if a = 0 then s_Decimal_j9 a (acc ++ digs k m.natAbs ++ [48]) else s_Decimal_j9 a (acc ++ digs k m.natAbs) := by
  intro k
  induction k with
  | zero =>
    intro n acc m h1 hk hn hl hm
    obtain ⟨n, rfl⟩ : ∃ q, n = q + 1 := ⟨n - 1, by omega⟩
    have : m = 0 := by simp at h1; omega
    subst this
    rw [s_Decimal_l7, if_neg (by simp)]
    simp only [digs, List.append_nil]
    by_cases h : a = 0
    · rw [if_pos (by simpa using h), if_pos h, app_ok (by simp [Big]; omega), bind_some']
    · rw [if_neg (by simpa using h), if_neg h]
  | succ k ih =>
    intro n acc m h1 hk hn hl hm
    obtain ⟨n, rfl⟩ : ∃ q, n = q + 2 := ⟨n - 2, by omega⟩
    rw [s_Decimal_l7]
    by_cases h0 : m = 0
    · subst h0
      rw [if_neg (by simp)]
      have e : digs (k + 1) (Int.natAbs 0) = [] := by simp [digs]
      rw [e]
      simp only [List.append_nil]
      by_cases h : a = 0
      · rw [if_pos (by simpa using h), if_pos h, app_ok (by simp [Big]; omega), bind_some']
      · rw [if_neg (by simpa using h), if_neg h]
    · rw [if_pos (by simpa using h0)]
      have hd : (Int.tdiv m 10).natAbs = m.natAbs / 10 := by rw [Int.natAbs_tdiv]; rfl
      have hr : (Int.tmod m 10).natAbs = m.natAbs % 10 := by rw [Int.natAbs_tmod]; rfl
      have hw : IntKind.i64.wrap (Int.tdiv m 10) = Int.tdiv m 10 := w64 (by omega) (by omega)
      have step : ∀ z : Int, z = ((m.natAbs % 10 : Nat) : Int) → s_Decimal_j8 (n + 1) a acc m z = if a = 0 then s_Decimal_j9 a (acc ++ digs (k + 1) m.natAbs ++ [48]) else s_Decimal_j9 a (acc ++ digs (k + 1) m.natAbs) := fun z hz => by
        subst hz
        have hu : IntKind.u8.wrap (IntKind.i64.wrap (48 + ((m.natAbs % 10 : Nat) : Int))) = 48 + ((m.natAbs % 10 : Nat) : Int) := by
          rw [w64 (by omega) (by omega)]
          simp only [IntKind.wrap, IntKind.signed, IntKind.bits]
          simp
          omega
        rw [s_Decimal_j8, hu, app_ok (by simp [Big]; omega), bind_some', hw, ih n _ _ (by rw [hd]; rw [Nat.pow_succ] at h1; omega) (by omega) (by omega) (by simp; omega) (by omega), hd]
        have e : digs (k + 1) m.natAbs = (48 + ((m.natAbs % 10 : Nat) : Int)) :: digs k (m.natAbs / 10) := by rw [digs, if_neg (by omega)]
        rw [e]
        simp only [List.append_assoc, List.cons_append, List.nil_append]
      by_cases hneg : (Int.tmod m 10) < 0
      · rw [if_pos (by simpa using hneg)]
        exact step _ (by rw [w64 (by omega) (by omega)]; omega)
      · rw [if_neg (by simpa using hneg)]
        exact step _ (by omega)
theorem j9_eq (a : Int) (l : List Int) (hl : l.length ≤ 1000) : s_Decimal_j9 a l = some (strOfNums (if a < 0 then 45 :: l.reverse else l.reverse)) := by
  have tail : ∀ q : List Int, q.length ≤ 1001 → s_Decimal_j10 q = some (strOfNums q.reverse) := fun q hq => by
    unfold s_Decimal_j10
    rw [w64 (by omega) (by omega), s_l12_eq q (by unfold Big; omega) fuel q.length [] (Nat.le_refl _) (Nat.lt_of_lt_of_le (by omega) (fuel_ge (n := 2000) (by omega))) (by simp [Big]; omega)]
    unfold strN?
    rw [if_pos (by simp; omega), List.take_length, List.nil_append]
  unfold s_Decimal_j9
  by_cases h : a < 0
  · rw [if_pos (by simpa using h), app_ok (by simp [Big]; omega), bind_some', tail _ (by simp; omega), if_pos h]
    simp
  · rw [if_neg (by simpa using h), tail _ (by omega), if_neg h]
theorem s_Decimal_eq (n : Int) (h : (Lit.int IntKind.i64 n).wf = true) : s_Decimal n = some (itoaB n) := by
  have hr : -9223372036854775808 ≤ n ∧ n ≤ 9223372036854775807 := by simpa [Lit.wf, IntKind.min, IntKind.max, IntKind.signed, IntKind.bits] using h
  unfold s_Decimal
  rw [s_l7_eq n 20 fuel [] n (by omega) (by omega) (fuel_ge (by omega)) (by simp) hr, List.nil_append]
  have hlen := digs_length 20 n.natAbs
  unfold itoaB Lib.itoa
  by_cases h0 : n = 0
  · subst h0
    rw [if_pos rfl, j9_eq _ _ (by simp [digs]), if_neg (by omega), if_neg (by omega), show Int.toNat 0 = 0 from rfl, Lib.decDigits, dif_pos (by omega)]
    rfl
  · rw [if_neg h0, j9_eq _ _ (by omega)]
    have hd := decDigits_digs 20 n.natAbs (by omega) (by omega)
    by_cases hneg : n < 0
    · rw [if_pos hneg, if_pos hneg, hd]
      unfold strOfNums
      rfl
    · rw [if_neg hneg, if_neg hneg, show n.toNat = n.natAbs by omega, hd]
      unfold strOfNums
      rfl
theorem itoaB_size (n : Int) (h : (Lit.int IntKind.i64 n).wf = true) : (itoaB n).size ≤ 21 := by
  have hr : -9223372036854775808 ≤ n ∧ n ≤ 9223372036854775807 := by simpa [Lit.wf, IntKind.min, IntKind.max, IntKind.signed, IntKind.bits] using h
  have := Lib.itoa_length_le n hr.1 hr.2
  show (Lib.itoa n).toArray.size ≤ 21
  rw [List.size_toArray]
  omega
end Go.Proofs.YtlmanchbpommaaaDoor.Ab
