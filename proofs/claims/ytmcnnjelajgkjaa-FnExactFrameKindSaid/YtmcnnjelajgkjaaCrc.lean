/-
  The checksum's plain function, and the helpers over slices of bytes: copying, comparing; the two checksum functions compute the one plain function.
-/
import Derived.Test.YtmcnnjelajgkjaaRows
import Derived.Test.YtmcnnjelajgkjaaLib
namespace Go.Proofs.Ytmcnnjelajgkjaa
set_option linter.unusedVariables false
open Go.RowKit
def crcBit (z : Int) : Int := if (bits BinOp.and IntKind.u32 z 1 == 1) = true then bits BinOp.xor IntKind.u32 (z / 2) 3988292384 else z / 2
def crcBits : Nat → Int → Int
  | 0, z => z
  | m + 1, z => crcBit (crcBits m z)
def crcByte (z x : Int) : Int := crcBits 8 (bits .xor .u32 z (x % 4294967296))
def crcFold (zs : List Int) : Int := zs.foldl crcByte 4294967295
def crcSum (zs : List Int) : Int := bits .xor .u32 (crcFold zs) 4294967295
theorem crcFold_succ (zs : List Int) (k : Nat) (h : k < zs.length) : crcFold (zs.take (k + 1)) = crcByte (crcFold (zs.take k)) (zs.getD k 0) := by
  unfold crcFold
  rw [List.take_succ_eq_append_getElem h, List.foldl_append]
  simp [List.getElem?_eq_getElem h]
theorem crc_round (zs : List Int) (k : Nat) (h : k < zs.length) (z z' : Int) (m : Nat) (hm : m ≤ 8) (h8 : 8 ≤ (m : Int)) (hz : z = crcFold (zs.take k)) (hz' : z' = crcBits m (bits .xor .u32 z (zs.getD k 0 % 4294967296))) :
    z' = crcFold (zs.take (k + 1)) := by
  obtain rfl : m = 8 := by omega
  rw [crcFold_succ zs k h, ← hz, hz']; rfl
theorem crcSum_bd (zs : List Int) : 0 ≤ crcSum zs ∧ crcSum zs ≤ 4294967295 := ⟨bits_lo_u32 .., bits_hi_u32 ..⟩
theorem crcSum_w (zs : List Int) : wrap64 (crcSum zs) = crcSum zs := IntWalk.wrap64_in _ (by have := crcSum_bd zs; omega)
theorem crcSum_not (zs : List Int) : bits BinOp.xor IntKind.u32 IntKind.u32.max (crcFold zs) = crcSum zs := by
  unfold crcSum bits
  rw [show IntKind.u32.max = 4294967295 from rfl]
  simp [BitVec.xor_comm]

set_option maxHeartbeats 400000 in
theorem l33Sum_any (zs : List Int) (v : Value) (w : World) (hr : Rep w (ints .u8 zs) v) :
    Calls Try.prog 25 #[v] w fun e w' => e = .returned (.int .u32 (crcSum zs)) ∧ w = w' := by
  obtain ⟨a, len, cap, rfl, hmx, HL, HM, HC⟩ := hr.ints_open
  clear hr
  go_enter Try.func25, Try.ntmps25
  go_wp2
  go_loop [3, 4] (fun s i => ∃ (k : Nat) (z : Int), k ≤ len ∧ i = .int .i64 k ∧ s = .int .u32 z ∧ Hid (z = crcFold (zs.take k))) (fun _ i => len - (intOf i).toNat)
  case atStart => exact ⟨0, _, Nat.zero_le _, rfl, rfl, rfl⟩
  case round =>
    obtain ⟨k, z, hk, rfl, rfl, hz⟩ := hrel
    by_cases hlt : k < len
    · obtain ⟨b, off, rfl, hcc⟩ := HC.out k hlt
      obtain ⟨hw, hcell⟩ := hcc k hlt
      obtain ⟨x, hx⟩ : ∃ x, Hid (x = zs.getD k 0) := ⟨_, rfl⟩
      rw [← hx.out] at hcell hw
      clear hcc
      go_wp2
      go_loop [3, 5] (fun s i => ∃ (m : Nat) (z' : Int), m ≤ 8 ∧ i = .int .i64 m ∧ s = .int .u32 z' ∧ Hid (z' = crcBits m (bits .xor .u32 z (x % 4294967296)))) (fun _ i => 8 - (intOf i).toNat)
      case atStart => exact ⟨0, _, Nat.zero_le _, rfl, rfl, rfl⟩
      case round =>
        obtain ⟨m, z', hm, rfl, rfl, hz'⟩ := hrel
        go_wp2
        · go_round
          case rel => exact ⟨m + 1, _, by omega, by go_num, rfl, by rw [hz'.out] at *; simp only [Hid, crcBits, crcBit]; rw [if_pos ‹_›]⟩
          case measure => simp [intOf]; omega
        · go_round
          case rel => exact ⟨m + 1, _, by omega, by go_num, rfl, by rw [hz'.out] at *; simp only [Hid, crcBits, crcBit]; rw [if_neg (by simp_all)]⟩
          case measure => simp [intOf]; omega
        · go_round
          case rel => exact ⟨k + 1, _, by omega, by go_num, rfl, crc_round zs k (HL.out ▸ hlt) z z' m hm (by assumption) hz.out (hx.out ▸ hz'.out)⟩
          case measure => simp [intOf]; omega
    · go_wp2
      go_ret
      obtain rfl : k = zs.length := by have := HL.out; omega
      rw [hz.out, List.take_length]
      exact ⟨rfl, rfl⟩

set_option maxHeartbeats 400000 in
theorem implChecksumOf_any (zs : List Int) (v : Value) (w : World) (hr : Rep w (ints .u8 zs) v) :
    Calls Try.prog 10 #[v] w fun e w' => e = .returned (.int .i64 (crcSum zs)) ∧ w = w' := by
  obtain ⟨a, len, cap, rfl, hmx, HL, HM, HC⟩ := hr.ints_open
  clear hr
  go_enter Try.func10, Try.ntmps10
  go_wp2
  go_loop [3, 9] (fun s i => ∃ (k : Nat) (z : Int), k ≤ len ∧ i = .int .i64 k ∧ s = .int .u32 z ∧ Hid (z = crcFold (zs.take k))) (fun _ i => len - (intOf i).toNat)
  case atStart => exact ⟨0, _, Nat.zero_le _, rfl, rfl, rfl⟩
  case round =>
    obtain ⟨k, z, hk, rfl, rfl, hz⟩ := hrel
    by_cases hlt : k < len
    · obtain ⟨b, off, rfl, hcc⟩ := HC.out k hlt
      obtain ⟨hw, hcell⟩ := hcc k hlt
      obtain ⟨x, hx⟩ : ∃ x, Hid (x = zs.getD k 0) := ⟨_, rfl⟩
      rw [← hx.out] at hcell hw
      clear hcc
      go_wp2
      go_loop [3, 17] (fun s i => ∃ (m : Nat) (z' : Int), m ≤ 8 ∧ i = .int .i64 m ∧ s = .int .u32 z' ∧ Hid (z' = crcBits m (bits .xor .u32 z (x % 4294967296)))) (fun _ i => 8 - (intOf i).toNat)
      case atStart => exact ⟨0, _, Nat.zero_le _, rfl, rfl, rfl⟩
      case round =>
        obtain ⟨m, z', hm, rfl, rfl, hz'⟩ := hrel
        go_wp2
        · go_round
          case rel => exact ⟨m + 1, _, by omega, by go_num, rfl, by rw [hz'.out] at *; simp only [Hid, crcBits, crcBit]; rw [if_pos ‹_›]⟩
          case measure => simp [intOf]; omega
        · go_round
          case rel => exact ⟨m + 1, _, by omega, by go_num, rfl, by rw [hz'.out] at *; simp only [Hid, crcBits, crcBit]; rw [if_neg (by simp_all)]⟩
          case measure => simp [intOf]; omega
        · go_round
          case rel => exact ⟨k + 1, _, by omega, by go_num, rfl, crc_round zs k (HL.out ▸ hlt) z z' m hm (by assumption) hz.out (hx.out ▸ hz'.out)⟩
          case measure => simp [intOf]; omega
    · go_wp2
      go_ret
      obtain rfl : k = zs.length := by have := HL.out; omega
      refine ⟨congrArg (fun n => Ending.returned (.int .i64 n)) (?_ : wrap64 (bits BinOp.xor IntKind.u32 IntKind.u32.max z) = crcSum zs), rfl⟩
      rw [hz.out, List.take_length, crcSum_not, crcSum_w]

set_option maxHeartbeats 400000 in
theorem specChecksumOf_any (zs : List Int) (v : Value) (w : World) (hr : Rep w (ints .u8 zs) v) :
    Calls Try.prog 8 #[v] w fun e w' => e = .returned (.int .i64 (crcSum zs)) ∧ w = w' := by
  go_enter Try.func8, Try.ntmps8
  go_wp2_with (go_at_call 25; refine (l33Sum_any zs v w hr).mono ?_; rintro e w' ⟨rfl, rfl⟩)
  go_ret
  exact ⟨congrArg (fun n => Ending.returned (.int .i64 n)) (crcSum_w zs), rfl⟩

theorem info_u8 : (Try.prog.info? 5).map (fun i => (i.zero, i.size, i.bytes)) = some (some (.int .u8 0), 1, 1) := by kernel_rfl

theorem take_succ_eq {xs ys : List Int} {k : Nat} (hx : k < xs.length) (hy : k < ys.length) (h : xs.take k = ys.take k) (he : xs.getD k 0 = ys.getD k 0) : xs.take (k + 1) = ys.take (k + 1) := by
  rw [List.take_succ_eq_append_getElem hx, List.take_succ_eq_append_getElem hy, h]
  simp only [List.getD_eq_getElem?_getD, List.getElem?_eq_getElem hx, List.getElem?_eq_getElem hy, Option.getD_some] at he
  rw [he]
theorem copy_step {zs : List Int} {k : Nat} {cs : List Value} {f : Int → Value} (hk : k < zs.length) (hl : cs.length = zs.length) (h : cs.take k = (zs.take k).map f) : (cs.set k (f (zs.getD k 0))).take (k + 1) = (zs.take (k + 1)).map f := by
  rw [List.take_succ_eq_append_getElem (by simpa [hl] using hk), List.take_succ_eq_append_getElem hk, List.map_append, List.take_set, List.set_eq_of_length_le (by simp; omega), h]
  simp [List.getElem?_eq_getElem hk]

set_option maxHeartbeats 400000 in
/-- 'toByteS': a copy in a new block. -/
theorem toByteS_any (zs : List Int) (v : Value) (w : World) (hr : Rep w (ints .u8 zs) v) (hsz : zs.length ≤ 1048576) :
    Calls Try.prog 9 #[v] w fun e w' => e = .returned (.slice (some ⟨w.heap.size, 0, none⟩) zs.length zs.length) ∧ Blk w' w.heap.size 5 (zs.map (Value.int .u8)) ∧ Below w.heap.size w w' := by
  obtain ⟨a, len, cap, rfl, hmx, HL, HM, HC⟩ := hr.ints_open
  clear hr
  have hsz' : len ≤ 1048576 := by rw [HL.out]; exact hsz
  clear hmx
  have hmk := make_row (P := Try.prog) Try.underlying22 info_u8 len (by omega) (by omega)
  go_enter Try.func9, Try.ntmps9
  go_wp2_with fail
  clear hmk
  go_loopw [4] (fun i wr => ∃ (k : Nat) (cs : List Value), k ≤ len ∧ i = .int .i64 k ∧ Blk wr w.heap.size 5 cs ∧ Hid (cs.length = len) ∧ Hid (cs.take k = (zs.take k).map (Value.int .u8)) ∧ Below w.heap.size w wr) (fun i _ => len - (intOf i).toNat)
  case atStart => exact ⟨0, _, Nat.zero_le _, rfl, Blk.new w _ _, Lib.hid (by simp [zeroRow_length]), Lib.hid (by simp), (Below.refl _ _).alloc (Nat.le_refl _) _⟩
  case round =>
    obtain ⟨k, cs, hk, rfl, hb, hcl, hcs, hbel⟩ := hrel
    by_cases hlt : k < len
    · obtain ⟨b, off, rfl, hcc⟩ := HC.out k hlt
      obtain ⟨-, hcell⟩ := hcc k hlt
      obtain ⟨x, hx⟩ : ∃ x, Hid (x = zs.getD k 0) := ⟨_, rfl⟩
      rw [← hx.out] at hcell
      clear hcc
      have hcell' := Keeps.of_below hbel _ _ hcell
      clear hcell
      obtain ⟨u, hu⟩ : ∃ u, wr.cell? ⟨w.heap.size, k, none⟩ = some u := by rw [hb.cell, List.getElem?_eq_getElem (by rw [hcl.out]; exact hlt)]; exact ⟨_, rfl⟩
      have hfree := hb.free k
      go_wp2
      go_roundw
      case rel => exact ⟨k + 1, _, by omega, by go_num, hb.set k _, Lib.hid (by simpa using hcl.out), Lib.hid (by rw [hx.out]; exact copy_step (HL.out ▸ hlt) (HL.out ▸ hcl.out) hcs.out), hbel.setCell (Nat.le_refl _) _⟩
      case measure => simp [intOf]; omega
    · go_wp2
      go_ret
      obtain rfl : k = zs.length := by have := HL.out; omega
      obtain rfl : len = zs.length := HL.out
      have h1 := hcs.out
      rw [List.take_length, List.take_of_length_le (by rw [hcl.out]; exact Nat.le_refl _)] at h1
      exact ⟨rfl, h1 ▸ hb, hbel⟩

set_option maxHeartbeats 400000 in
/-- 'eqByteS' of two slices that read as one list: true. -/
theorem eqByteS_any (zs : List Int) (v v' : Value) (w : World) (hr : Rep w (ints .u8 zs) v) (hr' : Rep w (ints .u8 zs) v') :
    Calls Try.prog 11 #[v, v'] w fun e w' => e = .returned (.bool true) ∧ ∃ n, w' = w.drewN n := by
  obtain ⟨a, len, cap, rfl, hmx, HL, HM, HC⟩ := hr.ints_open
  obtain ⟨a', len', cap', rfl, hmx', HL', HM', HC'⟩ := hr'.ints_open
  clear hr hr'
  obtain rfl : len = len' := HL.out.trans HL'.out.symm
  go_enter Try.func11, Try.ntmps11
  go_wp2
  go_loopw [5] (fun i wr => ∃ (k n : Nat), k ≤ len ∧ i = .int .i64 k ∧ wr = w.drewN n) (fun i _ => len - (intOf i).toNat)
  case atStart => exact ⟨0, 0, Nat.zero_le _, rfl, rfl⟩
  case round =>
    obtain ⟨k, n, hk, rfl, rfl⟩ := hrel
    by_cases hlt : k < len
    · obtain ⟨b, off, rfl, hcc⟩ := HC.out k hlt
      obtain ⟨-, hcell⟩ := hcc k hlt
      obtain ⟨b', off', rfl, hcc'⟩ := HC'.out k hlt
      obtain ⟨-, hcell'⟩ := hcc' k hlt
      generalize zs.getD k 0 = x at hcell hcell'
      clear hcc hcc'
      have hki : (k : Int) < (len : Int) := by omega
      go_wp2_with fail
      go_quiet (fail)
      go_wp2
      go_roundw
      case rel => exact ⟨k + 1, n + nq, by omega, by go_num, rfl⟩
      case measure => simp [intOf]; omega
    · go_wp2
      go_ret
      exact ⟨rfl, n, rfl⟩

/-- A block of bytes of the call's own reads as its list. -/
theorem rep_bytes {w : World} {g : Nat} {e : TypeId} {k : IntKind} {zs : List Int} (h : Blk w g e (zs.map (Value.int k))) (hw : ∀ z ∈ zs, (Lit.int k z).wf = true) (hl : zs.length ≤ maxLen) :
    Rep w (ints k zs) (.slice (some ⟨g, 0, none⟩) zs.length zs.length) := by
  simp only [ints, Rep, List.length_map]
  refine ⟨_, _, rfl, Nat.le_refl _, hl, .inr ⟨g, 0, rfl, RepR.mk fun i hi => ?_⟩⟩
  have hi' : i < zs.length := by simpa using hi
  simp only [List.getElem_map, List.length_singleton, RepC, Rep, true_and, and_true]
  exact ⟨_, by rw [h.cell]; simp [hi'], rfl, hw _ (List.getElem_mem hi')⟩

theorem Rep.ints_wf {w : World} {k : IntKind} {zs : List Int} {v : Value} (h : Rep w (ints k zs) v) : ∀ z ∈ zs, (Lit.int k z).wf = true := by
  obtain ⟨a, n, c, rfl, -, HL, -, HC⟩ := h.ints_open
  intro z hz
  obtain ⟨i, hi, rfl⟩ := List.getElem_of_mem hz
  obtain ⟨b, off, -, h2⟩ := HC.out i (by rw [HL.out]; exact hi)
  have := (h2 i (by rw [HL.out]; exact hi)).1
  simpa [List.getElem?_eq_getElem hi] using this

/-- 'toByteS', as the laws use it. -/
def Copied (w : World) (zs : List Int) (e : Ending) (w' : World) : Prop := ∃ v, e = .returned v ∧ Rep w' (ints .u8 zs) v ∧ Below w.heap.size w w'
theorem toByteS_rep (zs : List Int) (v : Value) (w : World) (hr : Rep w (ints .u8 zs) v) (hsz : zs.length ≤ 1048576) :
    Calls Try.prog 9 #[v] w (Copied w zs) :=
  (toByteS_any zs v w hr hsz).mono fun e w' h => ⟨_, h.1, rep_bytes h.2.1 hr.ints_wf (by unfold maxLen; omega), h.2.2⟩
end Go.Proofs.Ytmcnnjelajgkjaa
