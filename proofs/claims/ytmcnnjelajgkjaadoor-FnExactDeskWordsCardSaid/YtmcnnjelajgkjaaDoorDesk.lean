/-
  Both DeskWords.
-/
import Derived.Test.YtmcnnjelajgkjaaDoorRows
import Derived.Test.YtmcnnjelajgkjaaDoorHeldStr
import Derived.Ground.NamesProg
import Derived.Shelf.Strings.SplitShaped
import Derived.Test.YtmcnnjelajgkjaaDoorSh
namespace Go.Proofs.YtmcnnjelajgkjaaDoor
set_option linter.unusedVariables false
open Go.RowKit

def dw : List ByteArray := [⟨#[99, 108, 117, 115, 116, 101, 114]⟩, ⟨#[99, 114, 97, 115, 104]⟩, ⟨#[101, 118, 97, 108]⟩, ⟨#[108, 97, 122, 121]⟩, ⟨#[108, 111, 97, 100]⟩, ⟨#[109, 97, 99, 104, 105, 110, 101, 115]⟩, ⟨#[109, 101, 109, 111, 114, 121]⟩, ⟨#[110, 101, 116]⟩, ⟨#[112, 114, 105, 110, 116]⟩, ⟨#[114, 101, 100, 117, 99, 101]⟩, ⟨#[114, 101, 112, 111, 114, 116]⟩, ⟨#[115, 99, 104, 101, 100, 117, 108, 101]⟩, ⟨#[116, 97, 98, 108, 101]⟩, ⟨#[119, 111, 114, 107]⟩]
theorem dw_small : ∀ x ∈ dw, x.size ≤ maxLen := by
  intro x hx
  have : x.size ≤ 10 := by revert x; decide
  unfold maxLen; omega
set_option maxRecDepth 8000 in
set_option maxHeartbeats 400000 in
theorem specDesk_any (w : World) : Calls Tryd.prog 4 #[] w (ToRet w (strs dw)) := by
  go_enter Tryd.func4, Tryd.ntmps4
  go_wp2_with fail
  go_ret
  exact ⟨_, _, _, [w.heap.size], rfl, Own.of_blk (rest := []) (by rw [List.append_nil]; exact Blk.new w _ (dw.map Value.string)) (own_row_strs dw_small) (by simp [dw]) (by simp [dw]) (by unfold maxLen; omega) (by simp [dw]), ⟨by simp, by simp⟩, alloc_below w _⟩

theorem split_dw : Lib.countB ⟨#[99, 108, 117, 115, 116, 101, 114, 32, 99, 114, 97, 115, 104, 32, 101, 118, 97, 108, 32, 108, 97, 122, 121, 32, 108, 111, 97, 100, 32, 109, 97, 99, 104, 105, 110, 101, 115, 32, 109, 101, 109, 111, 114, 121, 32, 110, 101, 116, 32, 112, 114, 105, 110, 116, 32, 114, 101, 100, 117, 99, 101, 32, 114, 101, 112, 111, 114, 116, 32, 115, 99, 104, 101, 100, 117, 108, 101, 32, 116, 97, 98, 108, 101, 32, 119, 111, 114, 107]⟩ ⟨#[32]⟩ + 1 = 14 ∧ Lib.splitB ⟨#[32]⟩ 0 (Lib.countB ⟨#[99, 108, 117, 115, 116, 101, 114, 32, 99, 114, 97, 115, 104, 32, 101, 118, 97, 108, 32, 108, 97, 122, 121, 32, 108, 111, 97, 100, 32, 109, 97, 99, 104, 105, 110, 101, 115, 32, 109, 101, 109, 111, 114, 121, 32, 110, 101, 116, 32, 112, 114, 105, 110, 116, 32, 114, 101, 100, 117, 99, 101, 32, 114, 101, 112, 111, 114, 116, 32, 115, 99, 104, 101, 100, 117, 108, 101, 32, 116, 97, 98, 108, 101, 32, 119, 111, 114, 107]⟩ ⟨#[32]⟩) ⟨#[99, 108, 117, 115, 116, 101, 114, 32, 99, 114, 97, 115, 104, 32, 101, 118, 97, 108, 32, 108, 97, 122, 121, 32, 108, 111, 97, 100, 32, 109, 97, 99, 104, 105, 110, 101, 115, 32, 109, 101, 109, 111, 114, 121, 32, 110, 101, 116, 32, 112, 114, 105, 110, 116, 32, 114, 101, 100, 117, 99, 101, 32, 114, 101, 112, 111, 114, 116, 32, 115, 99, 104, 101, 100, 117, 108, 101, 32, 116, 97, 98, 108, 101, 32, 119, 111, 114, 107]⟩ = dw := by
  constructor <;> kernel_rfl

set_option maxRecDepth 8000 in
set_option maxHeartbeats 400000 in
theorem implDesk_any (w : World) (hsh : w.ShapedOpen Tryd.prog) : Calls Tryd.prog 5 #[] w (ToRet w (strs dw)) := by
  have HC : Hid (Calls Tryd.prog 9 #[.string ⟨#[99, 108, 117, 115, 116, 101, 114, 32, 99, 114, 97, 115, 104, 32, 101, 118, 97, 108, 32, 108, 97, 122, 121, 32, 108, 111, 97, 100, 32, 109, 97, 99, 104, 105, 110, 101, 115, 32, 109, 101, 109, 111, 114, 121, 32, 110, 101, 116, 32, 112, 114, 105, 110, 116, 32, 114, 101, 100, 117, 99, 101, 32, 114, 101, 112, 111, 114, 116, 32, 115, 99, 104, 101, 100, 117, 108, 101, 32, 116, 97, 98, 108, 101, 32, 119, 111, 114, 107]⟩, .string ⟨#[32]⟩] w (ToRet w (strs dw))) := Lib.hid ((Any.strings_Split_shaped Tryd.laysM146 ⟨#[99, 108, 117, 115, 116, 101, 114, 32, 99, 114, 97, 115, 104, 32, 101, 118, 97, 108, 32, 108, 97, 122, 121, 32, 108, 111, 97, 100, 32, 109, 97, 99, 104, 105, 110, 101, 115, 32, 109, 101, 109, 111, 114, 121, 32, 110, 101, 116, 32, 112, 114, 105, 110, 116, 32, 114, 101, 100, 117, 99, 101, 32, 114, 101, 112, 111, 114, 116, 32, 115, 99, 104, 101, 100, 117, 108, 101, 32, 116, 97, 98, 108, 101, 32, 119, 111, 114, 107]⟩ ⟨#[32]⟩ w hsh (by decide) (by decide)).mono (by
    rw [split_dw.1, split_dw.2]
    rintro e w1 ⟨rfl, rfl⟩
    exact ⟨_, _, _, [w.heap.size], rfl, Own.of_blk (rest := []) (by rw [List.append_nil]; exact Blk.new w _ (dw.map Value.string)) (own_row_strs dw_small) (by simp [dw]) (by simp [dw]) (by unfold maxLen; omega) (by simp [dw]), ⟨by simp, by simp⟩, alloc_below w _⟩))
  go_enter Tryd.func5, Tryd.ntmps5
  go_wp2_with fail
  refine HC.out.mono ?_
  rintro e w1 ⟨a, n, c, fp, rfl, h⟩
  have HH := Lib.hid h; clear h
  go_wp2_with fail
  go_ret
  exact ⟨_, _, _, _, rfl, HH.out⟩
end Go.Proofs.YtmcnnjelajgkjaaDoor
