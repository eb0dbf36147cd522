/-
  The reader of bytes of the reference, and the plain functions of reading.
-/
import Derived.Test.YtmcnnjelajgkjaaRows
import Derived.Test.YtmcnnjelajgkjaaNum
import Derived.OpenShut
namespace Go.Proofs.Ytmcnnjelajgkjaa
set_option linter.unusedVariables false
open Go.RowKit

/-- The reader's state: where it stands, and whether something did not fit. -/
structure RS where
  at_ : Nat
  bad : Bool
/-- One byte. -/
def rdByte (zs : List Int) (s : RS) : Int × RS := if s.bad = true ∨ zs.length ≤ s.at_ then (0, ⟨s.at_, true⟩) else (zs.getD s.at_ 0, ⟨s.at_ + 1, false⟩)

/-- The reader lies in block g: over the bytes zs that lay in W already. -/
structure Rdr (W w : World) (g : Nat) (zs : List Int) (sv : Value) (s : RS) : Prop where
  rep : Rep W (ints .u8 zs) sv
  below : Below W.heap.size W w
  new : W.heap.size ≤ g
  blk : Blk w g 58 [sv, .int .i64 s.at_, .bool s.bad]
  le : s.at_ ≤ zs.length
  sm : zs.length ≤ 1048576

theorem Rdr.stored {W w w' : World} {g : Nat} {zs : List Int} {sv : Value} {s s' : RS} {cs : List Value} (h : Rdr W w g zs sv s) (hs : cs = [sv, .int .i64 s'.at_, .bool s'.bad]) (hb : Blk w' g 58 cs) (ho : Only [g] w w') (hle : s'.at_ ≤ zs.length) : Rdr W w' g zs sv s' :=
  ⟨h.rep, h.below.trans (ho.below h.below.size (by simpa using h.new)), h.new, hs ▸ hb, hle, h.sm⟩

set_option maxHeartbeats 400000 in
theorem rdByte_any (W w : World) (g : Nat) (zs : List Int) (sv : Value) (s : RS) (h : Rdr W w g zs sv s) :
    Calls Try.prog 42 #[.pointer (some ⟨g, 0, none⟩)] w fun e w' => e = .returned (.int .i64 (rdByte zs s).1) ∧ Rdr W w' g zs sv (rdByte zs s).2 ∧ Only [g] w w' := by
  have H := Lib.hid h
  obtain ⟨hrep, hbel, hnew, hblk, hle, hsm⟩ := h
  obtain ⟨a, len, cap, rfl, hmx, HL, HM, HC⟩ := hrep.ints_open
  clear hrep
  obtain ⟨at_, bad⟩ := s
  have c0 := hblk.cell 0
  have c1 := hblk.cell 1
  have c2 := hblk.cell 2
  simp only [List.getElem?_cons_zero, List.getElem?_cons_succ] at c0 c1 c2
  have f1 := hblk.free 1
  have f2 := hblk.free 2
  have hlt := hblk.lt
  have HB := Lib.hid hblk; clear hblk
  have hle' : at_ ≤ len := by rw [HL.out]; exact hle
  clear hle
  cases bad with
  | true =>
    go_enter Try.func42, Try.ntmps42
    go_wp2_with fail
    go_quiet (fail)
    go_wp2
    go_ret
    refine ⟨rfl, ?_, (Only.drewN (Only.refl _ _) nq).setCell (by simp) _⟩
    exact H.out.stored (by simp [rdByte]) ((HB.out.drewN nq).set 2 (.bool true)) ((Only.drewN (Only.refl _ _) nq).setCell (by simp) _) H.out.le
  | false =>
    by_cases hk : at_ < len
    · obtain ⟨b, off, rfl, hcc⟩ := HC.out at_ hk
      obtain ⟨hw, hcell⟩ := hcc at_ hk
      obtain ⟨x, hx⟩ : ∃ x, Hid (x = zs.getD at_ 0) := ⟨_, rfl⟩
      rw [← hx.out] at hcell hw
      have hx0 : 0 ≤ x ∧ x ≤ 255 := bounds_u8 hw
      obtain ⟨hx1, hx2⟩ := hx0
      clear hcc hw
      have hbg : b < W.heap.size := World.block_lt_of_cell? W _ hcell
      have hcell' := Keeps.of_below hbel _ _ hcell
      clear hcell
      have hki : (at_ : Int) < (len : Int) := by omega
      have hd : decide ((len : Int) ≤ (at_ : Int)) = false := by simp; omega
      go_enter Try.func42, Try.ntmps42
      go_wp2_with fail
      go_quiet (fail)
      go_wp2
      have hb3 := (HB.out.drewN nq).set 1 (.int .i64 (at_ + 1))
      have ho3 : Only [g] w ((w.drewN nq).setCell ⟨g, 1, none⟩ (.int .i64 (at_ + 1))) := (Only.drewN (Only.refl _ _) nq).setCell (by simp) _
      generalize (w.drewN nq).setCell ⟨g, 1, none⟩ (.int .i64 (at_ + 1)) = w3 at *
      have e0 := hb3.cell 0
      have e1 := hb3.cell 1
      simp only [List.set_cons_succ, List.set_cons_zero, List.getElem?_cons_zero, List.getElem?_cons_succ] at e0 e1
      have hcell3 : w3.cell? ⟨b, off + at_, none⟩ = some (.int .u8 x) := by
        rw [← hcell']; exact World.cell?_of_block (w := w) (ho3.block b (by have := hbel.size; omega) (by simp; omega))
      have HB3 := Lib.hid hb3; clear hb3
      clear c0 c1 c2 f1 f2 hcell'
      have hwrap : IntKind.i64.wrap ((at_ : Int) + 1 - 1) = (at_ : Int) := by rw [IntKind.wrap_i64]; omega
      go_quiet (fail)
      clear hwrap
      go_wp2
      go_ret
      have hkl : ¬ zs.length ≤ at_ := by rw [← HL.out]; omega
      refine ⟨by rw [hx.out]; simp [rdByte, hkl], ?_, ho3.drewN nq⟩
      exact H.out.stored (by simp [rdByte, hkl]) (HB3.out.drewN nq) (ho3.drewN nq) (by simp [rdByte, hkl]; omega)
    · have hd : decide ((len : Int) ≤ (at_ : Int)) = true := by simp; omega
      go_enter Try.func42, Try.ntmps42
      go_wp2_with fail
      go_quiet (fail)
      go_wp2
      go_ret
      have hkl : zs.length ≤ at_ := by rw [← HL.out]; omega
      refine ⟨by simp [rdByte, hkl], ?_, (Only.drewN (Only.refl _ _) nq).setCell (by simp) _⟩
      exact H.out.stored (by simp [rdByte, hkl]) ((HB.out.drewN nq).set 2 (.bool true)) ((Only.drewN (Only.refl _ _) nq).setCell (by simp) _) (by simp [rdByte, hkl]; exact H.out.le)

/-- A number in groups of seven bits, read from the k-th group on. -/
def rdNumF (zs : List Int) : Nat → Nat → Int → RS → Int × RS
  | 0, _, _, s => (0, ⟨s.at_, true⟩)
  | f + 1, k, z, s =>
    if (rdByte zs s).1 < 128 then
      (unzig (z + (rdByte zs s).1 % 128 * 128 ^ k), ⟨(rdByte zs s).2.at_, (rdByte zs s).2.bad || ((rdByte zs s).1 == 0 && decide (0 < k)) || !isInt (unzig (z + (rdByte zs s).1 % 128 * 128 ^ k))⟩)
    else rdNumF zs f (k + 1) (z + (rdByte zs s).1 % 128 * 128 ^ k) (rdByte zs s).2
def rdNum (zs : List Int) (s : RS) : Int × RS := rdNumF zs 5 0 0 s

theorem Rdr.stored' {W w w' : World} {g : Nat} {zs : List Int} {sv : Value} {s s' : RS} {cs : List Value} (h : Rdr W w g zs sv s) (hb : Blk w' g 58 cs) (hs : cs = [sv, .int .i64 s'.at_, .bool s'.bad]) (ho : Only [g] w w') (hle : s'.at_ ≤ zs.length) : Rdr W w' g zs sv s' :=
  h.stored hs hb ho hle
theorem rdByte_bd {zs : List Int} (hz : ∀ z ∈ zs, (Lit.int .u8 z).wf = true) (s : RS) : 0 ≤ (rdByte zs s).1 ∧ (rdByte zs s).1 ≤ 255 := by
  unfold rdByte
  split
  · simp
  · rename_i h
    have hl : s.at_ < zs.length := by omega
    have := hz (zs.getD s.at_ 0) (by simp only [List.getD_eq_getElem?_getD, List.getElem?_eq_getElem hl, Option.getD_some]; exact List.getElem_mem hl)
    exact bounds_u8 this

theorem num_bound {z x z1 : Int} {k : Nat} (hz : 0 ≤ z ∧ z < 128 ^ k) (hx : 0 ≤ x) (h : z1 = z + x % 128 * 128 ^ k) : 0 ≤ z1 ∧ z1 < 128 ^ (k + 1) := by
  have h1 : 0 ≤ x % 128 ∧ x % 128 ≤ 127 := by omega
  have hp : (0 : Int) < 128 ^ k := Int.pow_pos (by omega)
  rw [Int.pow_succ]
  generalize (128 : Int) ^ k = p at *
  have h2 : 0 ≤ x % 128 * p := Int.mul_nonneg h1.1 (by omega)
  have h3 : x % 128 * p ≤ 127 * p := Int.mul_le_mul_of_nonneg_right h1.2 (by omega)
  omega
theorem num_lt {z1 : Int} {k : Nat} (h : z1 < 128 ^ (k + 1)) (hk : k < 5) : z1 < 34359738368 := by
  have : (128 : Int) ^ (k + 1) ≤ 128 ^ 5 := by
    have := Nat.pow_le_pow_right (show 0 < 128 by omega) (show k + 1 ≤ 5 by omega)
    exact_mod_cast this
  omega
theorem num_wrap {z x z1 : Int} {k : Nat} (hz : 0 ≤ z ∧ z < 128 ^ k) (hx : 0 ≤ x) (h : z1 = z + x % 128 * 128 ^ k) (hk : k < 5) : IntKind.u64.wrap (z + IntKind.u64.wrap (x % 128 * 2 ^ (7 * k))) = z1 := by
  have hb := num_bound hz hx h
  have hl := num_lt hb.2 hk
  have e : (2 : Int) ^ (7 * k) = 128 ^ k := by rw [Int.pow_mul]; rfl
  have h1 : 0 ≤ x % 128 * 128 ^ k := Int.mul_nonneg (by omega) (Int.le_of_lt (Int.pow_pos (by omega)))
  rw [e, IntKind.wrap_u64, IntKind.wrap_u64]
  generalize x % 128 * 128 ^ k = q at *
  omega

theorem xor_neg1_i64 (x : Int) (h0 : 0 ≤ x) (h1 : x < 9223372036854775808) : bits .xor .i64 (-1) x = -x - 1 := by
  obtain ⟨n, rfl⟩ := Int.eq_ofNat_of_zero_le h0
  have e : BitVec.ofInt 64 (-1) = BitVec.allOnes 64 := by decide
  unfold bits
  show IntKind.i64.wrap ((BitVec.ofInt 64 (-1) ^^^ BitVec.ofInt 64 (n : Int)).toNat : Int) = _
  rw [e, BitVec.allOnes_xor, BitVec.toNat_not, BitVec.toNat_ofInt, IntKind.wrap_i64]
  omega
theorem unzig_odd {z : Int} (h : z % 2 = 1) (h0 : 0 ≤ z) (h1 : z < 34359738368) : bits .xor .i64 (-1) (z / 2) = unzig z := by
  rw [xor_neg1_i64 _ (by omega) (by omega)]
  unfold unzig
  rw [if_pos h]

set_option maxRecDepth 4000 in
set_option maxHeartbeats 2000000 in
theorem rdNum_any (W w : World) (g : Nat) (zs : List Int) (sv : Value) (s : RS) (h : Rdr W w g zs sv s) :
    Calls Try.prog 30 #[.pointer (some ⟨g, 0, none⟩)] w fun e w' => e = .returned (.int .i64 (rdNum zs s).1) ∧ Rdr W w' g zs sv (rdNum zs s).2 ∧ Only [g] w w' := by
  have HZ := Lib.hid h.rep.ints_wf
  have H := Lib.hid h; clear h
  go_enter Try.func30, Try.ntmps30
  go_wp2_with fail
  go_loopw [3, 4] (fun zv kv wr => ∃ (k : Nat) (z : Int) (s' : RS), k ≤ 5 ∧ kv = .int .i64 k ∧ zv = .int .u64 z ∧ Hid (0 ≤ z ∧ z < 128 ^ k) ∧ Hid (Rdr W wr g zs sv s') ∧ Only [g] w wr ∧ Hid (rdNumF zs (5 - k) k z s' = rdNum zs s)) (fun _ kv _ => 5 - (intOf kv).toNat)
  case atStart => exact ⟨0, 0, s, by omega, rfl, rfl, Lib.hid (by simp), H, Only.refl _ _, rfl⟩
  case round =>
    obtain ⟨k, z, s', hk, rfl, rfl, hz, hr, ho, he⟩ := hrel
    by_cases hlt : k < 5
    · go_wp2_with fail
      refine (rdByte_any W _ g zs sv s' hr.out).mono ?_
      rintro e w1 ⟨rfl, hr1, ho1⟩
      have HR1 := Lib.hid hr1; clear hr1
      obtain ⟨x, s1, hb⟩ : ∃ x s1, Hid (rdByte zs s' = (x, s1)) := ⟨_, _, rfl⟩
      have hx := rdByte_bd HZ.out s'
      rw [hb.out] at hx HR1 ⊢
      change 0 ≤ x ∧ x ≤ 255 at hx
      change Hid (Rdr W w1 g zs sv s1) at HR1
      simp only
      obtain ⟨hx1, hx2⟩ := hx
      obtain ⟨z1, hz1⟩ : ∃ z1, Hid (z1 = z + x % 128 * 128 ^ k) := ⟨_, rfl⟩
      have hb1 := num_bound hz.out hx1 hz1.out
      have hsum : IntKind.u64.wrap (z + IntKind.u64.wrap (x % 128 * 2 ^ (7 * k))) = z1 := num_wrap hz.out hx1 hz1.out hlt
      have Hz1 := Lib.hid hb1
      have hz0 := hb1.1
      have hz9 : z1 < 34359738368 := num_lt hb1.2 hlt
      clear hb1
      have blk := HR1.out.blk
      have f2 := blk.free 2
      have c2 := blk.cell 2
      simp only [List.getElem?_cons_zero, List.getElem?_cons_succ] at c2
      have BLK := Lib.hid blk; clear blk
      by_cases hx128 : x < 128
      · have HF : Hid (rdNum zs s = (unzig z1, ⟨s1.at_, s1.bad || ((x == 0) && decide (0 < k)) || !isInt (unzig z1)⟩)) := Lib.hid (by
          rw [← he.out, show 5 - k = (5 - (k + 1)) + 1 from by omega]
          conv => lhs; unfold rdNumF
          rw [hb.out]
          simp only
          rw [if_pos hx128, ← hz1.out])
        obtain ⟨n, hn⟩ : ∃ n, Hid (n = unzig z1) := ⟨_, rfl⟩
        rw [← hn.out] at HF
        have hnb : -17179869184 ≤ n ∧ n < 17179869184 := by rw [hn.out]; unfold unzig; split <;> omega
        obtain ⟨hn1, hn2⟩ := hnb
        have HO := Lib.hid (ho.trans ho1)
        by_cases hpar : z1 % 2 = 1
        · have hp : (z1 % 2 == 1) = true := by simpa using hpar
          have hxor : bits BinOp.xor IntKind.i64 (-1) (z1 / 2) = n := by rw [hn.out]; exact unzig_odd hpar hz0 hz9
          clear hpar
          rcases Bool.eq_false_or_eq_true (x == 0) with hxb | hxb <;> by_cases hk0 : 0 < k
          all_goals
            go_wp2_with fail
            refine (l00In_any _ _ _ _).mono ?_
            rintro e w2 ⟨rfl, rfl⟩
            obtain ⟨bi, hbi⟩ : ∃ bi, between n (-2147483648) 2147483647 = bi := ⟨_, rfl⟩
            have HBI := Lib.hid hbi
            rw [hbi]
            clear hbi
            cases bi
            all_goals
              go_wp2_with fail
              go_ret
              rw [HF.out]
              refine ⟨rfl, HR1.out.stored' (by first | exact BLK.out | exact BLK.out.set 2 (.bool true) | exact (BLK.out.set 2 (.bool true)).set 2 (.bool true)) (by simp [hxb, hk0, ← between_isInt, HBI.out]) (by first | exact Only.refl _ _ | exact (Only.refl _ _).setCell (by simp) _ | exact ((Only.refl _ _).setCell (by simp) _).setCell (by simp) _) HR1.out.le, ?_⟩
              first | exact HO.out | exact HO.out.setCell (by simp) _ | exact (HO.out.setCell (by simp) _).setCell (by simp) _
        · have hp : (z1 % 2 == 1) = false := by simpa using hpar
          have heven : z1 / 2 = n := by rw [hn.out]; unfold unzig; rw [if_neg hpar]
          clear hpar
          rcases Bool.eq_false_or_eq_true (x == 0) with hxb | hxb <;> by_cases hk0 : 0 < k
          all_goals
            go_wp2_with fail
            refine (l00In_any _ _ _ _).mono ?_
            rintro e w2 ⟨rfl, rfl⟩
            obtain ⟨bi, hbi⟩ : ∃ bi, between n (-2147483648) 2147483647 = bi := ⟨_, rfl⟩
            have HBI := Lib.hid hbi
            rw [hbi]
            clear hbi
            cases bi
            all_goals
              go_wp2_with fail
              go_ret
              rw [HF.out]
              refine ⟨rfl, HR1.out.stored' (by first | exact BLK.out | exact BLK.out.set 2 (.bool true) | exact (BLK.out.set 2 (.bool true)).set 2 (.bool true)) (by simp [hxb, hk0, ← between_isInt, HBI.out]) (by first | exact Only.refl _ _ | exact (Only.refl _ _).setCell (by simp) _ | exact ((Only.refl _ _).setCell (by simp) _).setCell (by simp) _) HR1.out.le, ?_⟩
              first | exact HO.out | exact HO.out.setCell (by simp) _ | exact (HO.out.setCell (by simp) _).setCell (by simp) _
      · go_wp2_with fail
        clear hsum
        go_roundw
        case rel => exact ⟨k + 1, z1, s1, by omega, by go_num, rfl, Hz1, HR1, ho.trans ho1, Lib.hid (by
          rw [← he.out, show 5 - k = (5 - (k + 1)) + 1 from by omega]
          conv => rhs; unfold rdNumF
          rw [hb.out]
          simp only
          rw [if_neg hx128, hz1.out])⟩
        case measure => simp [intOf]; omega
    · have blk := hr.out.blk
      have f2 := blk.free 2
      have c2 := blk.cell 2
      simp only [List.getElem?_cons_zero, List.getElem?_cons_succ] at c2
      have BLK := Lib.hid blk; clear blk
      go_wp2_with fail
      go_ret
      obtain rfl : k = 5 := by omega
      have h5 := he.out
      simp only [Nat.sub_self, rdNumF] at h5
      rw [← h5]
      refine ⟨rfl, hr.out.stored rfl (BLK.out.set 2 (.bool true)) ((Only.refl _ _).setCell (by simp) _) hr.out.le, ho.setCell (by simp) _⟩
end Go.Proofs.Ytmcnnjelajgkjaa
