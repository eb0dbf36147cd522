/-
  Numbers in groups of seven bits, the checksum: both programs append and compute the same. No program is in sight.
-/
import Derived.Test.YtocpkbclcnjejaaPlC
import Derived.Test.YtocpkbclcnjejaaModC
namespace Go.Proofs.Ytocpkbclcnjejaa.Ab
set_option linter.unusedVariables false
set_option linter.unusedSimpArgs false
open Go.RowKit

/-- The groups of seven bits, the lowest first. -/
def varint (z : Nat) : List Int := if z < 128 then [(z : Int)] else ((z % 128 + 128 : Nat) : Int) :: varint (z / 128)
termination_by z
decreasing_by omega
/-- Twice the number; of a negative one 1 less than twice its size. -/
def zig (n : Int) : Nat := if n < 0 then (-2 * n - 1).toNat else (2 * n).toNat
theorem varint_small {z : Nat} (h : z < 128) : varint z = [(z : Int)] := by rw [varint, if_pos h]
theorem varint_big {z : Nat} (h : ¬ z < 128) : varint z = ((z % 128 + 128 : Nat) : Int) :: varint (z / 128) := by rw [varint, if_neg h]
theorem varint_len (z : Nat) : ∀ k, 1 ≤ k → z < 128 ^ k → (varint z).length ≤ k := by
  intro k
  induction k generalizing z with
  | zero => intro h; omega
  | succ k ih =>
    intro _ hz
    by_cases h : z < 128
    · rw [varint_small h]; simp
    · rw [varint_big h, List.length_cons]
      have hk : 1 ≤ k := by
        rcases Nat.eq_zero_or_pos k with rfl | h0
        · simp at hz; omega
        · exact h0
      have := ih (z / 128) hk (by rw [Nat.pow_succ] at hz; omega)
      omega
theorem varint_pos (z : Nat) : 1 ≤ (varint z).length := by
  rw [varint]; split <;> simp
theorem xor_max_u64 (x : Int) (h0 : 0 ≤ x) (h1 : x ≤ 18446744073709551615) : bits .xor .u64 IntKind.u64.max x = 18446744073709551615 - x := by
  obtain ⟨n, rfl⟩ := Int.eq_ofNat_of_zero_le h0
  have e : BitVec.ofInt 64 IntKind.u64.max = BitVec.allOnes 64 := by decide
  unfold bits
  show IntKind.u64.wrap ((BitVec.ofInt 64 IntKind.u64.max ^^^ BitVec.ofInt 64 (n : Int)).toNat : Int) = _
  rw [e, BitVec.allOnes_xor, BitVec.toNat_not, BitVec.toNat_ofInt, IntKind.wrap_u64]
  omega
theorem zig_le {n : Int} (h1 : -2147483648 ≤ n) (h2 : n ≤ 2147483647) : zig n ≤ 4294967295 := by unfold zig; split <;> omega
theorem zig_len {n : Int} (h1 : -2147483648 ≤ n) (h2 : n ≤ 2147483647) : (varint (zig n)).length ≤ 5 := varint_len _ 5 (by omega) (by have := zig_le h1 h2; omega)
theorem tmod_nat (z : Nat) : Int.tmod (z : Int) 128 = ((z % 128 : Nat) : Int) := by
  rw [Int.tmod_eq_emod_of_nonneg (by omega)]; omega
theorem tdiv_nat (z : Nat) : Int.tdiv (z : Int) 128 = ((z / 128 : Nat) : Int) := by
  rw [Int.tdiv_eq_ediv_of_nonneg (by omega)]; omega
theorem sNum_loop : ∀ (z : Nat) (a : List Int) (n : Nat), z ≤ 4294967295 → (varint z).length ≤ n → a.length + (varint z).length ≤ Big → s_l33Number_l3 n a (z : Int) = some (a ++ varint z) := by
  intro z
  induction z using Nat.strongRecOn with
  | _ z ih =>
    intro a n hz hn ha
    have hp := varint_pos z
    obtain ⟨n, rfl⟩ : ∃ q, n = q + 1 := ⟨n - 1, by omega⟩
    rw [s_l33Number_l3]
    by_cases h : z < 128
    · rw [varint_small h] at ha ⊢
      rw [if_neg (by simp; omega), IntKind.wrap_u8, show (z : Int) % 256 = z from by omega, app_ok ha, bind_some']
    · rw [varint_big h, List.length_cons] at ha hn
      rw [if_pos (by simp; omega), tmod_nat, tdiv_nat, IntKind.wrap_u64, IntKind.wrap_u8, IntKind.wrap_u64, show (((z % 128 : Nat) : Int) + 128) % 18446744073709551616 % 256 = ((z % 128 + 128 : Nat) : Int) from by omega,
        show ((z / 128 : Nat) : Int) % 18446744073709551616 = ((z / 128 : Nat) : Int) from by omega, app_ok (by simp; omega), bind_some', ih (z / 128) (by omega) _ n (by omega) (by omega) (by simp; omega), varint_big h]
      simp
theorem iNum_loop : ∀ (z : Nat) (a : List Int) (n : Nat), z ≤ 4294967295 → (varint z).length ≤ n → a.length + (varint z).length ≤ Big → i_appendNumber_l3 n a (z : Int) = some (a ++ varint z) := by
  intro z
  induction z using Nat.strongRecOn with
  | _ z ih =>
    intro a n hz hn ha
    have hp := varint_pos z
    obtain ⟨n, rfl⟩ : ∃ q, n = q + 1 := ⟨n - 1, by omega⟩
    rw [i_appendNumber_l3]
    by_cases h : z < 128
    · rw [varint_small h] at ha ⊢
      rw [if_neg (by simp; omega), IntKind.wrap_u8, show (z : Int) % 256 = z from by omega, app_ok ha, bind_some']
    · rw [varint_big h, List.length_cons] at ha hn
      rw [if_pos (by simp; omega), tmod_nat, tdiv_nat, IntKind.wrap_u8, IntKind.wrap_u8, w64 (by omega) (by omega), show ((((z % 128 : Nat) : Int) % 256) + 128) % 256 = ((z % 128 + 128 : Nat) : Int) from by omega,
        app_ok (by simp; omega), bind_some', ih (z / 128) (by omega) _ n (by omega) (by omega) (by simp; omega), varint_big h]
      simp
theorem num_fuel {z : Nat} (h : z ≤ 4294967295) : (varint z).length ≤ fuel := fuel_ge (Nat.le_trans (varint_len z 5 (by omega) (by omega)) (by omega))
theorem sNum_eq (a : List Int) (v : Int) (h1 : -2147483648 ≤ v) (h2 : v ≤ 2147483647) (ha : a.length + 5 ≤ Big) : s_l33Number a v = some (a ++ varint (zig v)) := by
  have hz := zig_le h1 h2
  have hl := zig_len h1 h2
  unfold s_l33Number s_l33Number_j1
  have e1 : (2 : Int) ^ min (Int.toNat 1) (IntKind.bits IntKind.u64) = 2 := rfl
  have e2 : (if IntKind.signed IntKind.u64 = true then -1 else IntKind.max IntKind.u64) = IntKind.u64.max := rfl
  rw [e1, e2]
  by_cases h : v < 0
  · rw [if_pos (by simpa using h)]
    have : bits BinOp.xor IntKind.u64 IntKind.u64.max (IntKind.u64.wrap (IntKind.u64.wrap v * 2)) = ((zig v : Nat) : Int) := by
      rw [IntKind.wrap_u64, IntKind.wrap_u64, xor_max_u64 _ (by omega) (by omega)]
      unfold zig
      rw [if_pos h]
      omega
    rw [this, sNum_loop _ _ _ hz (num_fuel hz) (by omega)]
  · rw [if_neg (by simpa using h)]
    have : IntKind.u64.wrap (IntKind.u64.wrap v * 2) = ((zig v : Nat) : Int) := by
      rw [IntKind.wrap_u64, IntKind.wrap_u64]
      unfold zig
      rw [if_neg h]
      omega
    rw [this, sNum_loop _ _ _ hz (num_fuel hz) (by omega)]
theorem iNum_eq (a : List Int) (v : Int) (h1 : -2147483648 ≤ v) (h2 : v ≤ 2147483647) (ha : a.length + 5 ≤ Big) : i_appendNumber a v = some (a ++ varint (zig v)) := by
  have hz := zig_le h1 h2
  have hl := zig_len h1 h2
  unfold i_appendNumber i_appendNumber_j1
  by_cases h : v < 0
  · rw [if_pos (by simpa using h)]
    have : IntKind.i64.wrap (IntKind.i64.wrap ((-2) * v) - 1) = ((zig v : Nat) : Int) := by
      rw [w64 (n := (-2) * v) (by omega) (by omega), w64 (by omega) (by omega)]
      unfold zig
      rw [if_pos h]
      omega
    rw [this, iNum_loop _ _ _ hz (num_fuel hz) (by omega)]
  · rw [if_neg (by simpa using h)]
    have : IntKind.i64.wrap (2 * v) = ((zig v : Nat) : Int) := by
      rw [w64 (by omega) (by omega)]
      unfold zig
      rw [if_neg h]
      omega
    rw [this, iNum_loop _ _ _ hz (num_fuel hz) (by omega)]

/-! ### The checksum -/
def crcBit (z : Int) : Int := if bits BinOp.and IntKind.u32 z 1 = 1 then bits BinOp.xor IntKind.u32 (z / 2) 3988292384 else z / 2
def crcN : Nat → Int → Int
  | 0, z => z
  | m + 1, z => crcN m (crcBit z)
def crcByte (z x : Int) : Int := crcN 8 (bits .xor .u32 z (IntKind.u32.wrap x))
def crcSum (zs : List Int) : Int := bits .xor .u32 (zs.foldl crcByte 4294967295) 4294967295
theorem crcSum_bd (zs : List Int) : 0 ≤ crcSum zs ∧ crcSum zs ≤ 4294967295 := ⟨bits_lo_u32 .., bits_hi_u32 ..⟩
theorem sSum_in (a : List Int) (i : Int) : ∀ (m k n : Nat) (p : Int), k + m = 8 → m + 1 ≤ n → s_l33Sum_l4 n a i p (k : Int) = s_l33Sum_l3 (n - (m + 1)) a (crcN m p) (IntKind.i64.wrap (i + 1)) := by
  intro m
  induction m with
  | zero =>
    intro k n p hk hn
    obtain ⟨n, rfl⟩ : ∃ q, n = q + 1 := ⟨n - 1, by omega⟩
    rw [s_l33Sum_l4, if_neg (by simp; omega)]; rfl
  | succ m ih =>
    intro k n p hk hn
    obtain ⟨n, rfl⟩ : ∃ q, n = q + 1 := ⟨n - 1, by omega⟩
    rw [s_l33Sum_l4, if_pos (by simp; omega), show IntKind.i64.wrap ((k : Int) + 1) = ((k + 1 : Nat) : Int) from w64n1 (by unfold Big; omega)]
    rw [ih (k + 1) n _ (by omega) (by omega), ih (k + 1) n _ (by omega) (by omega)]
    rw [show n + 1 - (m + 1 + 1) = n - (m + 1) from by omega, crcN, crcBit]
    by_cases h : bits BinOp.and IntKind.u32 p 1 = 1
    · rw [if_pos (by simpa using h), if_pos h]; rfl
    · rw [if_neg (by simpa using h), if_neg h]; rfl
theorem sSum_out (a : List Int) (ha : a.length ≤ Big) : ∀ (post pre : List Int) (p : Int) (n : Nat), a = pre ++ post → 10 * post.length + 1 ≤ n → s_l33Sum_l3 n a p ((List.length pre : Nat) : Int) = some (bits BinOp.xor IntKind.u32 (post.foldl crcByte p) 4294967295) := by
  intro post
  induction post with
  | nil =>
    intro pre p n h hn
    obtain ⟨n, rfl⟩ : ∃ q, n = q + 1 := ⟨n - 1, by omega⟩
    rw [s_l33Sum_l3, ge_app h]; rfl
  | cons x post ih =>
    intro pre p n h hn
    rw [List.length_cons] at hn
    obtain ⟨n, rfl⟩ : ∃ q, n = q + 1 := ⟨n - 1, by omega⟩
    rw [s_l33Sum_l3, if_pos (lt_app h), at_app h, bind_some', show (0 : Int) = ((0 : Nat) : Int) from rfl, sSum_in a _ 8 0 n _ (by omega) (by omega), wrap_app h ha, ih (pre ++ [x]) _ _ (next_app h) (by omega)]
    rfl
theorem iSum_in (a : List Int) (i : Int) : ∀ (m k n : Nat) (p : Int), k + m = 8 → m + 1 ≤ n → i_ChecksumOf_l4 n a i p (k : Int) = i_ChecksumOf_l3 (n - (m + 1)) a (crcN m p) (IntKind.i64.wrap (i + 1)) := by
  intro m
  induction m with
  | zero =>
    intro k n p hk hn
    obtain ⟨n, rfl⟩ : ∃ q, n = q + 1 := ⟨n - 1, by omega⟩
    rw [i_ChecksumOf_l4, if_neg (by simp; omega)]; rfl
  | succ m ih =>
    intro k n p hk hn
    obtain ⟨n, rfl⟩ : ∃ q, n = q + 1 := ⟨n - 1, by omega⟩
    rw [i_ChecksumOf_l4, if_pos (by simp; omega), show IntKind.i64.wrap ((k : Int) + 1) = ((k + 1 : Nat) : Int) from w64n1 (by unfold Big; omega)]
    rw [ih (k + 1) n _ (by omega) (by omega), ih (k + 1) n _ (by omega) (by omega)]
    rw [show n + 1 - (m + 1 + 1) = n - (m + 1) from by omega, crcN, crcBit]
    by_cases h : bits BinOp.and IntKind.u32 p 1 = 1
    · rw [if_pos (by simpa using h), if_pos h]; rfl
    · rw [if_neg (by simpa using h), if_neg h]; rfl
theorem iSum_out (a : List Int) (ha : a.length ≤ Big) : ∀ (post pre : List Int) (p : Int) (n : Nat), a = pre ++ post → 10 * post.length + 1 ≤ n → i_ChecksumOf_l3 n a p ((List.length pre : Nat) : Int) = some (IntKind.i64.wrap (bits BinOp.xor IntKind.u32 (if IntKind.signed IntKind.u32 = true then -1 else IntKind.max IntKind.u32) (post.foldl crcByte p))) := by
  intro post
  induction post with
  | nil =>
    intro pre p n h hn
    obtain ⟨n, rfl⟩ : ∃ q, n = q + 1 := ⟨n - 1, by omega⟩
    rw [i_ChecksumOf_l3, ge_app h]; rfl
  | cons x post ih =>
    intro pre p n h hn
    rw [List.length_cons] at hn
    obtain ⟨n, rfl⟩ : ∃ q, n = q + 1 := ⟨n - 1, by omega⟩
    rw [i_ChecksumOf_l3, if_pos (lt_app h), at_app h, bind_some', show (0 : Int) = ((0 : Nat) : Int) from rfl, iSum_in a _ 8 0 n _ (by omega) (by omega), wrap_app h ha, ih (pre ++ [x]) _ _ (next_app h) (by omega)]
    rfl
theorem sSum_eq (a : List Int) (ha : a.length ≤ Big) : s_l33Sum a = some (crcSum a) := by
  unfold s_l33Sum
  have := sSum_out a ha a [] 4294967295 fuel (by simp) (by rw [fuel_eq]; unfold Big at ha; omega)
  exact this
theorem iSum_eq (a : List Int) (ha : a.length ≤ Big) : i_ChecksumOf a = some (crcSum a) := by
  unfold i_ChecksumOf
  have := iSum_out a ha a [] 4294967295 fuel (by simp) (by rw [fuel_eq]; unfold Big at ha; omega)
  refine this.trans ?_
  have e : bits BinOp.xor IntKind.u32 (if IntKind.signed IntKind.u32 = true then -1 else IntKind.max IntKind.u32) (a.foldl crcByte 4294967295) = crcSum a := by
    unfold crcSum bits
    rw [show (if IntKind.signed IntKind.u32 = true then -1 else IntKind.max IntKind.u32) = 4294967295 from rfl]
    simp [BitVec.xor_comm]
  have hb := crcSum_bd a
  rw [e, w64 (by omega) (by omega)]

/-! ### Frames -/
theorem u8_wrap (x : Int) : IntKind.u8.wrap x = x % 256 := IntKind.wrap_u8 x
theorem iFrame_loop (s : Int) (hs : 0 ≤ s ∧ s ≤ 4294967295) (b : List Int) (hb : b.length + 4 ≤ Big) (n : Nat) (hn : 5 ≤ n) :
    i_framed_l2 n b s 0 = some (if 60000 < b.length + 4 then ([], 4) else (b ++ [s % 256, s / 256 % 256, s / 65536 % 256, s / 16777216 % 256], 0)) := by
  obtain ⟨n, rfl⟩ : ∃ m, n = m + 5 := ⟨n - 5, by omega⟩
  have t : ∀ x : Int, 0 ≤ x → Int.tmod x 256 = x % 256 := fun x h => Int.tmod_eq_emod_of_nonneg h
  have d : ∀ x : Int, 0 ≤ x → x ≤ 4294967295 → IntKind.i64.wrap (Int.tdiv x 256) = x / 256 := fun x h h' => by
    rw [Int.tdiv_eq_ediv_of_nonneg h, w64 (by omega) (by omega)]
  have w0 : IntKind.i64.wrap ((0 : Int) + 1) = 1 := by decide
  have w1 : IntKind.i64.wrap ((1 : Int) + 1) = 2 := by decide
  have w2 : IntKind.i64.wrap ((2 : Int) + 1) = 3 := by decide
  have w3 : IntKind.i64.wrap ((3 : Int) + 1) = 4 := by decide
  rw [i_framed_l2, if_pos (by decide), app_ok (by simp; omega), bind_some', t s hs.1, d s hs.1 hs.2, w0, u8_wrap,
    i_framed_l2, if_pos (by decide), app_ok (by simp; omega), bind_some', t _ (by omega), d _ (by omega) (by omega), w1, u8_wrap,
    i_framed_l2, if_pos (by decide), app_ok (by simp; omega), bind_some', t _ (by omega), d _ (by omega) (by omega), w2, u8_wrap,
    i_framed_l2, if_pos (by decide), app_ok (by simp; omega), bind_some', t _ (by omega), d _ (by omega) (by omega), w3, u8_wrap,
    i_framed_l2, if_neg (by decide)]
  have e1 : s / 256 / 256 = s / 65536 := by omega
  have e2 : s / 65536 / 256 = s / 16777216 := by omega
  have hl : (b ++ [s % 256 % 256] ++ [s / 256 % 256 % 256] ++ [s / 256 / 256 % 256 % 256] ++ [s / 256 / 256 / 256 % 256 % 256]).length = b.length + 4 := by simp
  have hm : ∀ x : Int, x % 256 % 256 = x % 256 := fun x => by omega
  rw [hl]
  by_cases h : 60000 < b.length + 4
  · rw [if_pos (by simp; omega), if_pos h]
  · rw [if_neg (by simp; omega), if_neg h]
    simp only [hm, e1, e2, List.append_assoc, List.cons_append, List.nil_append]
theorem frame_same (kind : Int) (a : List Int) (hk : 0 ≤ kind) (hk' : kind ≤ 255) (ha : a.length ≤ 16777300) : ∃ r, s_l33Close kind a = some r ∧ i_framed kind a = some r ∧ r.1.length ≤ Big := by
  have hbody : ([73, 78, 69, 84, 1, kind] ++ a).length = a.length + 6 := by simp
  have hs := crcSum_bd ([73, 78, 69, 84, 1, kind] ++ a)
  have hi : i_framed kind a = some (if 60000 < a.length + 10 then ([], 4) else ([73, 78, 69, 84, 1, kind] ++ a ++ [crcSum ([73, 78, 69, 84, 1, kind] ++ a) % 256, crcSum ([73, 78, 69, 84, 1, kind] ++ a) / 256 % 256, crcSum ([73, 78, 69, 84, 1, kind] ++ a) / 65536 % 256, crcSum ([73, 78, 69, 84, 1, kind] ++ a) / 16777216 % 256], 0)) := by
    unfold i_framed i_frameHead
    rw [bind_some', app_ok (by simp [Big]), bind_some', app_ok (by simp [Big]; omega), bind_some']
    have e : [73, 78, 69, 84, 1] ++ [kind] ++ a = [73, 78, 69, 84, 1, kind] ++ a := by simp
    rw [e, iSum_eq _ (by rw [hbody]; unfold Big; omega), bind_some', iFrame_loop _ hs _ (by rw [hbody]; unfold Big; omega) fuel (by rw [fuel_eq]; omega), hbody]
  have hsp : s_l33Close kind a = some (if 60000 < a.length + 10 then ([], 4) else ([73, 78, 69, 84, 1, kind] ++ a ++ [crcSum ([73, 78, 69, 84, 1, kind] ++ a) % 256, crcSum ([73, 78, 69, 84, 1, kind] ++ a) / 256 % 256, crcSum ([73, 78, 69, 84, 1, kind] ++ a) / 65536 % 256, crcSum ([73, 78, 69, 84, 1, kind] ++ a) / 16777216 % 256], 0)) := by
    unfold s_l33Close
    rw [w64 (by omega) (by omega)]
    by_cases h : 60000 < a.length + 10
    · rw [if_pos (by simp; omega), if_pos h]
    · rw [if_neg (by simp; omega), if_neg h]
      unfold s_l33Frame
      have ek : IntKind.u8.wrap kind = kind := by rw [u8_wrap]; omega
      have e8 : (2 : Int) ^ min (Int.toNat 8) (IntKind.bits IntKind.u32) = 256 := by decide
      have e16 : (2 : Int) ^ min (Int.toNat 16) (IntKind.bits IntKind.u32) = 65536 := by decide
      have e24 : (2 : Int) ^ min (Int.toNat 24) (IntKind.bits IntKind.u32) = 16777216 := by decide
      rw [ek, app_ok (by simp [Big]; omega), bind_some', sSum_eq _ (by rw [hbody]; unfold Big; omega), bind_some', e8, e16, e24, app_ok (by simp [Big]; omega), bind_some', bind_some']
      simp only [u8_wrap]
  refine ⟨_, hsp, hi, ?_⟩
  split
  · simp
  · simp [Big]; omega
end Go.Proofs.Ytocpkbclcnjejaa.Ab
