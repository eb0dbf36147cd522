/-
  Numbers in groups of seven bits: the plain function, and that both programs append it.
-/
import Derived.Test.YtmcnnjelajgkjaaRows
import Derived.Test.YtmcnnjelajgkjaaCrc
namespace Go.Proofs.Ytmcnnjelajgkjaa
set_option linter.unusedVariables false
open Go.RowKit

/-- The groups of seven bits, the lowest first. -/
def varint (z : Nat) : List Int := if z < 128 then [(z : Int)] else ((z % 128 + 128 : Nat) : Int) :: varint (z / 128)
termination_by z
decreasing_by omega
/-- Twice the number; of a negative one 1 less than twice its size. -/
def zig (n : Int) : Nat := if n < 0 then (-2 * n - 1).toNat else (2 * n).toNat
/-- The number that the groups stand for. -/
def unzig (z : Int) : Int := if z % 2 = 1 then -(z / 2) - 1 else z / 2
theorem varint_small {z : Nat} (h : z < 128) : varint z = [(z : Int)] := by rw [varint, if_pos h]
theorem varint_big {z : Nat} (h : ¬ z < 128) : varint z = ((z % 128 + 128 : Nat) : Int) :: varint (z / 128) := by rw [varint, if_neg h]
theorem varint_len (z : Nat) : ∀ k, 1 ≤ k → z < 128 ^ k → (varint z).length ≤ k := by
  intro k
  induction k generalizing z with
  | zero => intro h; omega
  | succ k ih =>
    intro _ hz
    by_cases h : z < 128
    · rw [varint_small h]; simp
    · rw [varint_big h, List.length_cons]
      have hk : 1 ≤ k := by
        rcases Nat.eq_zero_or_pos k with rfl | h0
        · simp at hz; omega
        · exact h0
      have := ih (z / 128) hk (by rw [Nat.pow_succ] at hz; omega)
      omega
theorem varint_wf (z : Nat) : ∀ x ∈ varint z, 0 ≤ x ∧ x ≤ 255 := by
  induction z using Nat.strongRecOn with
  | _ z ih =>
    intro x hx
    by_cases h : z < 128
    · rw [varint_small h] at hx; simp at hx; omega
    · rw [varint_big h] at hx
      rcases List.mem_cons.1 hx with rfl | hx
      · omega
      · exact ih (z / 128) (by omega) x hx

theorem xor_max_u64 (x : Int) (h0 : 0 ≤ x) (h1 : x ≤ 18446744073709551615) : bits .xor .u64 IntKind.u64.max x = 18446744073709551615 - x := by
  obtain ⟨n, rfl⟩ := Int.eq_ofNat_of_zero_le h0
  have e : BitVec.ofInt 64 IntKind.u64.max = BitVec.allOnes 64 := by decide
  unfold bits
  show IntKind.u64.wrap ((BitVec.ofInt 64 IntKind.u64.max ^^^ BitVec.ofInt 64 (n : Int)).toNat : Int) = _
  rw [e, BitVec.allOnes_xor, BitVec.toNat_not, BitVec.toNat_ofInt, IntKind.wrap_u64]
  omega
theorem zig_neg {n : Int} (h1 : -2147483648 ≤ n) (h0 : n < 0) : bits .xor .u64 IntKind.u64.max (IntKind.u64.wrap (IntKind.u64.wrap n * 2)) = (zig n : Int) := by
  rw [IntKind.wrap_u64, IntKind.wrap_u64, xor_max_u64 _ (by omega) (by omega)]
  unfold zig
  rw [if_pos h0]
  omega
theorem zig_pos {n : Int} (h0 : 0 ≤ n) : n * 2 = (zig n : Int) := by
  unfold zig
  rw [if_neg (by omega)]
  omega

/-- What appending a number comes to. -/
def Appended (w : World) (v : Value) (n : Nat) (xs : List Value) (ys : List Int) (e : Ending) (w' : World) : Prop :=
  ∃ v', e = .returned v' ∧ w'.ownsRow 0 5 1 v' (n + ys.length) (xs ++ ys.map (Value.int .u8)) ∧ Grew w w' v v'

/-- What the rounds keep: the number's groups are those that are done and those of what is left. -/
structure NumLoop (w : World) (v : Value) (m : Nat) (xs : List Value) (n : Int) (b : Value) (z : Nat) (done : List Int) (wr : World) : Prop where
  owns : wr.ownsRow 0 5 1 b (m + done.length) (xs ++ done.map (Value.int .u8))
  grew : Grew w wr v b
  sum : done ++ varint z = varint (zig n)
  le : z ≤ zig n
theorem zig_le {n : Int} (h1 : -2147483648 ≤ n) (h2 : n ≤ 2147483647) : zig n ≤ 4294967295 := by unfold zig; split <;> omega
theorem NumLoop.open {w : World} {v : Value} {m : Nat} {xs : List Value} {n : Int} {b : Value} {z : Nat} {done : List Int} {wr : World} (h : NumLoop w v m xs n b z done wr) (h1 : -2147483648 ≤ n) (h2 : n ≤ 2147483647) :
    (z : Int) ≤ 4294967295 ∧ wr.ownsRow 0 5 1 b (m + done.length) (xs ++ done.map (Value.int .u8)) ∧ done.length ≤ 5 := by
  refine ⟨by have := h.le; have := zig_le h1 h2; omega, h.owns, ?_⟩
  have := varint_len (zig n) 5 (by omega) (by have := zig_le h1 h2; omega)
  have h3 := congrArg List.length h.sum
  simp at h3
  omega
theorem NumLoop.last {w : World} {v : Value} {m : Nat} {xs : List Value} {n : Int} {b : Value} {z : Nat} {done : List Int} {wr w1 : World} {v' : Value} {o : Obj} (h : NumLoop w v m xs n b z done wr) (hz : z < 128)
    (ho : w1.ownsRow 0 5 1 v' (m + done.length + 1) (xs ++ done.map (Value.int .u8) ++ [Value.int .u8 z])) (hg : Grew (wr.alloc o) w1 b v') :
    w1.ownsRow 0 5 1 v' (m + (varint (zig n)).length) (xs ++ (varint (zig n)).map (Value.int .u8)) ∧ Grew w w1 v v' := by
  refine ⟨?_, (h.grew.alloc o).trans hg⟩
  rw [← h.sum, varint_small hz]
  simpa [Nat.add_assoc] using ho
theorem NumLoop.more {w : World} {v : Value} {m : Nat} {xs : List Value} {n : Int} {b : Value} {z : Nat} {done : List Int} {wr w1 : World} {v' : Value} {o : Obj} (h : NumLoop w v m xs n b z done wr) (hz : ¬ z < 128)
    (ho : w1.ownsRow 0 5 1 v' (m + done.length + 1) (xs ++ done.map (Value.int .u8) ++ [Value.int .u8 ((z : Int) % 128 + 128)])) (hg : Grew (wr.alloc o) w1 b v') :
    NumLoop w v m xs n v' (z / 128) (done ++ [((z % 128 + 128 : Nat) : Int)]) w1 := by
  refine ⟨?_, (h.grew.alloc o).trans hg, ?_, ?_⟩
  · rw [show (((z % 128 + 128 : Nat) : Int)) = (z : Int) % 128 + 128 from by omega]
    simpa [Nat.add_assoc] using ho
  · rw [← h.sum, varint_big hz]; simp
  · have := h.le; omega
theorem NumLoop.start {w : World} {v : Value} {m : Nat} {xs : List Value} {n : Int} (h : w.ownsRow 0 5 1 v m xs) : NumLoop w v m xs n v (zig n) [] w :=
  ⟨by simpa using h, Grew.refl w v, rfl, Nat.le_refl _⟩

set_option maxRecDepth 4000 in
set_option maxHeartbeats 400000 in
theorem appendNumber_any (v : Value) (m : Nat) (xs : List Value) (n : Int) (w : World) (hown : w.ownsRow 0 5 1 v m xs) (hm : m ≤ 1000000000) (h1 : -2147483648 ≤ n) (h2 : n ≤ 2147483647) :
    Calls Try.prog 29 #[v, .int .i64 n] w (Appended w v m xs (varint (zig n))) := by
  have HO := Lib.hid hown; clear hown
  have HM := Lib.hid hm; clear hm
  by_cases h0 : n < 0
  all_goals
    go_enter Try.func29, Try.ntmps29
    go_wp2_with fail
    go_loopw [0, 5] (fun b zv wr => ∃ (z : Nat) (done : List Int), zv = .int .i64 z ∧ NumLoop w v m xs n b z done wr) (fun _ zv _ => (intOf zv).toNat)
    case atStart => exact ⟨zig n, [], congrArg (Value.int .i64) (by unfold zig; split <;> omega), NumLoop.start HO.out⟩
    case round =>
      obtain ⟨z, done, rfl, hI⟩ := hrel
      obtain ⟨hz, hown, hd⟩ := hI.open h1 h2
      have HI := Lib.hid hI; clear hI
      have HO' := Lib.hid hown; clear hown
      clear h0 h1 h2
      by_cases hlt : z < 128
      · go_wp2_with (at_builtin; refine wpList_append_grew rfl _ _ 22 rfl 5 (.int .u8 0) 1 1 Try.underlying22 info_u8 rfl (by decide) _ _ _ (HO'.out.alloc _) rfl ⟨wr.heap.size, 0, none⟩ 1 1 [.int .u8 z] rfl rfl (cell_one_new _ _ _) (by simp [Value.oneCell']) (by have := HM.out; unfold maxLen; omega) (by have := HM.out; omega) ?_; intro v' w1 hown1 hg1)
        go_ret
        exact ⟨_, rfl, HI.out.last hlt hown1 hg1⟩
      · go_wp2_with (at_builtin; refine wpList_append_grew rfl _ _ 22 rfl 5 (.int .u8 0) 1 1 Try.underlying22 info_u8 rfl (by decide) _ _ _ (HO'.out.alloc _) rfl ⟨wr.heap.size, 0, none⟩ 1 1 [.int .u8 (z % 128 + 128)] rfl rfl (cell_one_new _ _ _) (by simp [Value.oneCell']) (by have := HM.out; unfold maxLen; omega) (by have := HM.out; omega) ?_; intro v' w1 hown1 hg1)
        go_roundw
        case rel => exact ⟨z / 128, _, by go_num, HI.out.more hlt hown1 hg1⟩
        case measure => simp [intOf]; omega
set_option maxRecDepth 4000 in
set_option maxHeartbeats 400000 in
theorem l33Number_any (v : Value) (m : Nat) (xs : List Value) (n : Int) (w : World) (hown : w.ownsRow 0 5 1 v m xs) (hm : m ≤ 1000000000) (h1 : -2147483648 ≤ n) (h2 : n ≤ 2147483647) :
    Calls Try.prog 27 #[v, .int .i64 n] w (Appended w v m xs (varint (zig n))) := by
  have HO := Lib.hid hown; clear hown
  have HM := Lib.hid hm; clear hm
  by_cases h0 : n < 0
  all_goals
    go_enter Try.func27, Try.ntmps27
    go_wp2_with fail
    go_loopw [0, 5] (fun b zv wr => ∃ (z : Nat) (done : List Int), zv = .int .u64 z ∧ NumLoop w v m xs n b z done wr) (fun _ zv _ => (intOf zv).toNat)
    case atStart => exact ⟨zig n, [], congrArg (Value.int .u64) (by first | exact zig_neg h1 h0 | exact zig_pos (by omega)), NumLoop.start HO.out⟩
    case round =>
      obtain ⟨z, done, rfl, hI⟩ := hrel
      obtain ⟨hz, hown, hd⟩ := hI.open h1 h2
      have HI := Lib.hid hI; clear hI
      have HO' := Lib.hid hown; clear hown
      clear h0 h1 h2
      by_cases hlt : z < 128
      · go_wp2_with (at_builtin; refine wpList_append_grew rfl _ _ 22 rfl 5 (.int .u8 0) 1 1 Try.underlying22 info_u8 rfl (by decide) _ _ _ (HO'.out.alloc _) rfl ⟨wr.heap.size, 0, none⟩ 1 1 [.int .u8 z] rfl rfl (cell_one_new _ _ _) (by simp [Value.oneCell']) (by have := HM.out; unfold maxLen; omega) (by have := HM.out; omega) ?_; intro v' w1 hown1 hg1)
        go_ret
        exact ⟨_, rfl, HI.out.last hlt hown1 hg1⟩
      · go_wp2_with (at_builtin; refine wpList_append_grew rfl _ _ 22 rfl 5 (.int .u8 0) 1 1 Try.underlying22 info_u8 rfl (by decide) _ _ _ (HO'.out.alloc _) rfl ⟨wr.heap.size, 0, none⟩ 1 1 [.int .u8 (z % 128 + 128)] rfl rfl (cell_one_new _ _ _) (by simp [Value.oneCell']) (by have := HM.out; unfold maxLen; omega) (by have := HM.out; omega) ?_; intro v' w1 hown1 hg1)
        go_roundw
        case rel => exact ⟨z / 128, _, by go_num, HI.out.more hlt hown1 hg1⟩
        case measure => simp [intOf]; omega

/-- The range of the programs' numbers. -/
def isInt (n : Int) : Bool := decide (-2147483648 ≤ n) && decide (n ≤ 2147483647)
theorem isInt_yes {n : Int} (h : -2147483648 ≤ n ∧ n ≤ 2147483647) : isInt n = true := by simp [isInt, h]
theorem isInt_no {n : Int} (h : ¬ (-2147483648 ≤ n ∧ n ≤ 2147483647)) : isInt n = false := by simp [isInt]; omega

set_option maxHeartbeats 400000 in
theorem implIsInt_any (n : Int) (w : World) :
    Calls Try.prog 28 #[.int .i64 n] w fun e w' => e = .returned (.bool (isInt n)) ∧ w = w' := by
  by_cases h1 : -2147483648 ≤ n
  · by_cases h2 : n ≤ 2147483647
    · rw [isInt_yes ⟨h1, h2⟩]
      go_enter Try.func28, Try.ntmps28
      go_wp2
      go_ret
      exact ⟨rfl, rfl⟩
    · rw [isInt_no (by omega)]
      go_enter Try.func28, Try.ntmps28
      go_wp2
      go_ret
      exact ⟨rfl, rfl⟩
  · rw [isInt_no (by omega)]
    go_enter Try.func28, Try.ntmps28
    go_wp2
    go_ret
    exact ⟨rfl, rfl⟩

/-- 'l00In': between two bounds. -/
def between (n a b : Int) : Bool := decide (a ≤ n) && decide (n ≤ b)
theorem between_isInt (n : Int) : between n (-2147483648) 2147483647 = isInt n := rfl
set_option maxHeartbeats 400000 in
theorem l00In_any (n a b : Int) (w : World) :
    Calls Try.prog 26 #[.int .i64 n, .int .i64 a, .int .i64 b] w fun e w' => e = .returned (.bool (between n a b)) ∧ w = w' := by
  by_cases h1 : a ≤ n
  · by_cases h2 : n ≤ b
    · rw [show between n a b = true from by simp [between, h1, h2]]
      go_enter Try.func26, Try.ntmps26
      go_wp2
      go_ret
      exact ⟨rfl, rfl⟩
    · rw [show between n a b = false from by simp [between]; omega]
      go_enter Try.func26, Try.ntmps26
      go_wp2
      go_ret
      exact ⟨rfl, rfl⟩
  · rw [show between n a b = false from by simp [between]; omega]
    go_enter Try.func26, Try.ntmps26
    go_wp2
    go_ret
    exact ⟨rfl, rfl⟩

/-- The encoding of a number: nothing out of range. -/
def encNum (n : Int) : List Int := if isInt n then varint (zig n) else []
theorem encNum_len (n : Int) : (encNum n).length ≤ 5 := by
  unfold encNum
  split
  · rename_i h
    simp [isInt] at h
    have := zig_le h.1 h.2
    exact varint_len _ 5 (by omega) (by omega)
  · simp
theorem encNum_wf (n : Int) : ∀ z ∈ encNum n, (Lit.int .u8 z).wf = true := by
  intro z hz
  unfold encNum at hz
  split at hz
  · have := varint_wf _ z hz
    exact WalkArith.wf_u8 this
  · simp at hz

/-- A slice of bytes of the call's own. -/
def OwnBytes (w : World) (ys : List Int) (e : Ending) (w' : World) : Prop :=
  ∃ v, e = .returned v ∧ w'.ownsRow w.heap.size 5 1 v ys.length (ys.map (Value.int .u8)) ∧ Below w.heap.size w w'

theorem OwnBytes.of_grew {w w' : World} {v' : Value} {ys zs : List Int} (he : zs = ys) (ho : w'.ownsRow 0 5 1 v' (0 + ys.length) ([] ++ ys.map (Value.int .u8))) (hg : (∀ g, v'.ownBlock = some g → w.heap.size ≤ g) ∧ Below w.heap.size w w') :
    OwnBytes w zs (.returned v') w' := by
  subst he
  refine ⟨_, rfl, owns_base ?_ hg.1, hg.2⟩
  simpa using ho

set_option maxRecDepth 4000 in
set_option maxHeartbeats 400000 in
theorem implEncodeNumber_any (n : Int) (w : World) :
    Calls Try.prog 13 #[.int .i64 n] w (OwnBytes w (encNum n)) := by
  by_cases h : -2147483648 ≤ n ∧ n ≤ 2147483647
  · obtain ⟨h1, h2⟩ := h
    have hy := isInt_yes ⟨h1, h2⟩
    have HE : Hid (encNum n = varint (zig n)) := by simp [Hid, encNum, hy]
    go_enter Try.func13, Try.ntmps13
    go_wp2_with (go_at_call 28; refine (implIsInt_any n w).mono ?_; rintro e w1 ⟨rfl, rfl⟩)
    refine (appendNumber_any _ 0 [] n w (World.ownsRow_nil _ _ _ _) (by omega) h1 h2).mono ?_
    rintro e w1 ⟨v', rfl, ho, hg⟩
    go_wp2_with fail
    go_ret
    exact OwnBytes.of_grew HE.out ho (hg.fresh rfl)
  · have hy := isInt_no h
    have HE : Hid (encNum n = []) := by simp [Hid, encNum, hy]
    go_enter Try.func13, Try.ntmps13
    go_wp2_with (go_at_call 28; refine (implIsInt_any n w).mono ?_; rintro e w1 ⟨rfl, rfl⟩)
    go_ret
    exact ⟨_, rfl, by rw [HE.out]; exact World.ownsRow_nil _ _ _ _, Below.refl _ _⟩

set_option maxRecDepth 4000 in
set_option maxHeartbeats 400000 in
theorem specEncodeNumber_any (n : Int) (w : World) :
    Calls Try.prog 12 #[.int .i64 n] w (OwnBytes w (encNum n)) := by
  by_cases h : -2147483648 ≤ n ∧ n ≤ 2147483647
  · obtain ⟨h1, h2⟩ := h
    have hy := isInt_yes ⟨h1, h2⟩
    rw [← between_isInt] at hy
    have HE : Hid (encNum n = varint (zig n)) := by simp [Hid, encNum, isInt_yes ⟨h1, h2⟩]
    go_enter Try.func12, Try.ntmps12
    go_wp2_with (go_at_call 26; refine (l00In_any n _ _ w).mono ?_; rintro e w1 ⟨rfl, rfl⟩)
    refine (l33Number_any _ 0 [] n _ (owns_zero (owns_empty w _ _)) (by omega) h1 h2).mono ?_
    rintro e w1 ⟨v', rfl, ho, hg⟩
    go_wp2_with fail
    go_ret
    exact OwnBytes.of_grew HE.out ho (hg.newer ((Below.refl _ _).alloc (Nat.le_refl _) _) (by simp [Value.ownBlock]))
  · have hy := isInt_no h
    rw [← between_isInt] at hy
    have HE : Hid (encNum n = []) := by simp [Hid, encNum, isInt_no h]
    go_enter Try.func12, Try.ntmps12
    go_wp2_with (go_at_call 26; refine (l00In_any n _ _ w).mono ?_; rintro e w1 ⟨rfl, rfl⟩)
    go_ret
    exact ⟨_, rfl, by rw [HE.out]; exact owns_empty w _ _, (Below.refl _ _).alloc (Nat.le_refl _) _⟩

/-- The marks from k on. -/
def marks (kd : IntKind) (k : Int) (n : Nat) : List Value := (List.range n).map fun (i : Nat) => .int kd (kd.wrap (k + i))
theorem marks_length (kd : IntKind) (k : Int) (n : Nat) : (marks kd k n).length = n := by simp [marks]
theorem marks_get (kd : IntKind) (k : Int) (n i : Nat) (h : i < n) : (marks kd k n)[i]? = some (.int kd (kd.wrap (k + i))) := by simp [marks, h]
theorem marks_step {kd : IntKind} {k : Int} {n i : Nat} {cs : List Value} (hl : n ≤ cs.length) (hi : i < n) (h : cs.take i = marks kd k i) : (cs.set i (.int kd (kd.wrap (k + i)))).take (i + 1) = marks kd k (i + 1) := by
  rw [List.take_succ_eq_append_getElem (by simp; omega), List.take_set, List.set_eq_of_length_le (by simp; omega), h]
  simp [marks, List.range_succ]

set_option maxRecDepth 4000 in
set_option maxHeartbeats 400000 in
/-- 'markByteS' writes marks into a row of the call's own. -/
theorem markByteS_any (n : Nat) (xs : List Value) (v : Value) (k : Int) (B : Nat) (w : World) (ho : w.ownsRow B 5 1 v n xs) (hl : n ≤ 1000000) (h0 : 0 ≤ k) (hk : k ≤ 1000000) :
    Calls Try.prog 14 #[v, .int .i64 k] w fun e w' => e = .returned (.int .i64 (k + n)) ∧ w'.ownsRow B 5 1 v n (marks .u8 k n) ∧ Below B w w' := by
  rcases Blk.of_owns ho with ⟨rfl, rfl, rfl⟩ | ⟨g, cap, rest, rfl, hg, hb, hn, hc, h1, h2⟩
  · have HO := Lib.hid ho; clear ho
    go_enter Try.func14, Try.ntmps14
    go_wp2
    go_loop [1, 5] (fun kk i => i = .int .i64 0 ∧ kk = .int .i64 k) (fun _ _ => 0)
    case atStart => exact ⟨rfl, rfl⟩
    case round =>
      obtain ⟨rfl, rfl⟩ := hrel
      go_wp2
      go_ret
      exact ⟨by simp, World.ownsRow_nil _ _ _ _, Below.refl _ _⟩
  · clear ho
    have HB := Lib.hid hb; clear hb
    have HC := Lib.hid (And.intro hn (And.intro hc (And.intro h1 h2))); clear hn hc h1 h2
    have hgl := HB.out.lt
    go_enter Try.func14, Try.ntmps14
    go_wp2_with fail
    go_loopw [1, 5] (fun kk i wr => ∃ (j : Nat) (cs : List Value), j ≤ n ∧ i = .int .i64 j ∧ kk = .int .i64 (k + j) ∧ Blk wr g 5 (cs ++ rest) ∧ Hid (cs.length = n) ∧ Hid (cs.take j = marks .u8 k j) ∧ Below B w wr) (fun _ i _ => n - (intOf i).toNat)
    case atStart => exact ⟨0, xs, Nat.zero_le _, rfl, by simp, HB.out, Lib.hid (by simpa using HC.out.2.2.1), Lib.hid (by simp [marks]), Below.refl _ _⟩
    case round =>
      obtain ⟨j, cs, hj, rfl, rfl, hb, hcl, hcs, hbel⟩ := hrel
      by_cases hlt : j < n
      · obtain ⟨u, hu⟩ : ∃ u, wr.cell? ⟨g, j, none⟩ = some u := by rw [hb.cell, List.getElem?_eq_getElem (by simp [hcl.out]; omega)]; exact ⟨_, rfl⟩
        have hfree := hb.free j
        go_wp2
        go_roundw
        case rel =>
          refine ⟨j + 1, cs.set j (.int .u8 (IntKind.u8.wrap (k + j))), by omega, by go_num, by go_num, ?_, Lib.hid (by simpa using hcl.out), Lib.hid (marks_step (by rw [hcl.out]; exact Nat.le_refl _) hlt hcs.out), hbel.setCell hg _⟩
          rw [IntKind.wrap_u8]
          have := hb.set j (.int .u8 ((k + j) % 256))
          rwa [List.set_append_left _ _ (by rw [hcl.out]; exact hlt)] at this
        case measure => simp [intOf]; omega
      · go_wp2
        go_ret
        obtain rfl : j = n := by omega
        refine ⟨rfl, ?_, hbel⟩
        have h1 := hcs.out
        rw [List.take_of_length_le (by rw [hcl.out]; exact Nat.le_refl _)] at h1
        subst h1
        exact owns_of_blk hb hg HC.out.1 HC.out.2.1 (by simp [marks_length]) (by have := HC.out.2.2; simp [marks_length] at *; omega)

set_option maxRecDepth 4000 in
set_option maxHeartbeats 400000 in
/-- 'heldByteS' finds the marks. -/
theorem heldByteS_any (n : Nat) (v : Value) (k : Int) (B : Nat) (w : World) (ho : w.ownsRow B 5 1 v n (marks .u8 k n)) (hl : n ≤ 1000000) (h0 : 0 ≤ k) (hk : k ≤ 1000000) :
    Calls Try.prog 15 #[v, .int .i64 k] w fun e w' => e = .returned (.int .i64 (k + n)) ∧ w = w' := by
  rcases Blk.of_owns ho with ⟨rfl, rfl, hx⟩ | ⟨g, cap, rest, rfl, hg, hb, hn, hc, h1, h2⟩
  · clear ho hx
    go_enter Try.func15, Try.ntmps15
    go_wp2
    go_loop [1, 5] (fun kk i => i = .int .i64 0 ∧ kk = .int .i64 k) (fun _ _ => 0)
    case atStart => exact ⟨rfl, rfl⟩
    case round =>
      obtain ⟨rfl, rfl⟩ := hrel
      go_wp2
      go_ret
      exact ⟨by simp, rfl⟩
  · clear ho
    have HB := Lib.hid hb; clear hb
    clear hn hc h1 h2
    go_enter Try.func15, Try.ntmps15
    go_wp2
    go_loop [1, 5] (fun kk i => ∃ (j : Nat), j ≤ n ∧ i = .int .i64 j ∧ kk = .int .i64 (k + j)) (fun _ i => n - (intOf i).toNat)
    case atStart => exact ⟨0, Nat.zero_le _, rfl, by simp⟩
    case round =>
      obtain ⟨j, hj, rfl, rfl⟩ := hrel
      by_cases hlt : j < n
      · have hu : w.cell? ⟨g, j, none⟩ = some (.int .u8 ((k + j) % 256)) := by rw [HB.out.cell, List.getElem?_append_left (by simp [marks_length]; exact hlt), marks_get _ _ _ _ hlt, IntKind.wrap_u8]
        go_wp2
        go_round
        case rel => exact ⟨j + 1, by omega, by go_num, by go_num⟩
        case measure => simp [intOf]; omega
      · go_wp2
        go_ret
        obtain rfl : j = n := by omega
        exact ⟨rfl, rfl⟩

/-- A row of the call's own reads as its list. -/
theorem rep_of_owns {w : World} {B : Nat} {e : TypeId} {k : IntKind} {v : Value} {zs : List Int} (h : w.ownsRow B e 1 v zs.length (zs.map (Value.int k))) (hw : ∀ z ∈ zs, (Lit.int k z).wf = true) : Rep w (ints k zs) v := by
  rcases Blk.of_owns h with ⟨rfl, hn, -⟩ | ⟨g, cap, rest, rfl, -, hb, hn, hc, -, -⟩
  · have : zs = [] := List.eq_nil_of_length_eq_zero hn
    subst this
    exact ⟨none, 0, rfl, by simp, by simp [maxLen], .inl rfl⟩
  · simp only [ints, Rep, List.length_map]
    refine ⟨_, _, rfl, hn, hc, .inr ⟨g, 0, rfl, RepR.mk fun i hi => ?_⟩⟩
    have hi' : i < zs.length := by simpa using hi
    simp only [List.getElem_map, List.length_singleton, RepC, Rep, true_and, and_true]
    exact ⟨_, by rw [hb.cell, List.getElem?_append_left (by simpa using hi')]; simp [hi'], rfl, hw _ (List.getElem_mem hi')⟩
end Go.Proofs.Ytmcnnjelajgkjaa
