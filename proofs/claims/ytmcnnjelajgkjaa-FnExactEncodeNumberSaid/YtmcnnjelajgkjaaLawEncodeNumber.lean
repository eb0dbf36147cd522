/-
  The law FnExactEncodeNumber returns true for every number, and writes nothing that was there. No condition.
-/
import Derived.Test.YtmcnnjelajgkjaaRows
import Derived.Test.YtmcnnjelajgkjaaNum
import Derived.Test.YtmcnnjelajgkjaaReads
namespace Go.Proofs.Ytmcnnjelajgkjaa.lawEncodeNumber
open Go.ChangeShapes Go.WideShapes Go.ChangeAt Go.RowKit
open Go.ChangeMaps (open_string shut_string)
set_option linter.unusedVariables false

set_option maxRecDepth 4000 in
set_option maxHeartbeats 400000 in
theorem walk (n : Int) (hn : (Lit.int .i64 n).wf = true) (w : World) :
    Calls Try.prog 4 #[.int .i64 n] w fun e w' => e = .returned (.bool true) ∧ Below w.heap.size w w' := by
  have hlen := encNum_len n
  have HW := Lib.hid (encNum_wf n)
  clear hn
  go_enter Try.func4, Try.ntmps4
  go_wp2_with fail
  refine (specEncodeNumber_any n w).mono ?_
  rintro e w1 ⟨v1, rfl, ho1, hb1⟩
  have hr1 := Lib.hid (rep_of_owns ho1 HW.out); clear ho1
  go_wp2_with fail
  refine (implEncodeNumber_any n w1).mono ?_
  rintro e w2 ⟨v2, rfl, ho2, hb2⟩
  have HO2 := Lib.hid ho2; clear ho2
  go_wp2_with fail
  refine (eqByteS_any (encNum n) v2 v1 w2 (rep_of_owns HO2.out HW.out) (hr1.out.below hb2)).mono ?_
  rintro e w3 ⟨rfl, n3, rfl⟩
  go_wp2_with fail
  refine (markByteS_any _ _ v2 1 w1.heap.size _ (owns_drew HO2.out n3) (by omega) (by omega) (by omega)).mono ?_
  rintro e w4 ⟨rfl, ho4, hb4⟩
  have HO4 := Lib.hid ho4; clear ho4
  go_wp2_with fail
  refine (heldByteS_any _ v2 1 w1.heap.size _ HO4.out (by omega) (by omega) (by omega)).mono ?_
  rintro e w4 ⟨rfl, rfl⟩
  go_wp2_with fail
  refine (implEncodeNumber_any n w4).mono ?_
  rintro e w5 ⟨v5, rfl, ho5, hb5⟩
  have HO5 := Lib.hid ho5; clear ho5
  have hb25 : Below w1.heap.size w1 w5 := ((hb2.trans (bdrew n3)).trans hb4).trans (hb5.mono (by have := hb2.size; have := hb4.size; simp at *; omega))
  go_wp2_with fail
  refine (eqByteS_any (encNum n) v5 v1 w5 (rep_of_owns HO5.out HW.out) (hr1.out.below hb25)).mono ?_
  rintro e w6 ⟨rfl, n6, rfl⟩
  go_wp2_with fail
  refine (heldByteS_any _ v2 1 w1.heap.size _ (owns_below HO4.out (hb5.trans (bdrew n6)) (Nat.le_refl _)) (by omega) (by omega) (by omega)).mono ?_
  rintro e w7 ⟨rfl, rfl⟩
  go_wp2_with fail
  go_ret
  exact ⟨rfl, (bnext hb1 hb25).trans (bdrew n6)⟩

theorem own : ownKnob Try.prog.godebug = none := by kernel_rfl
theorem laidOut : laidOutB Try.prog = true := by kernel_rfl
set_option maxRecDepth 100000 in
theorem lifted (os : Os) (started : os.Started) (H : Type) (enc : TypeId × Value → H) :
    ReturnsInHanded {} Try.checked os 4 .any (Rows.fnExactEncodeNumberSpec.pre6 enc Try.prog Try.f4 Rows.fnExactEncodeNumberRow.domain false) (Rows.fnExactEncodeNumberSpec.post enc Try.prog Try.f4 false true false false) := by
  refine returnsInHanded_of_change (C := Try.checked) own started (by kernel_rfl) Try.func4
    (ChangeSpec.witness6 (enc := enc) (C := Try.checked) false ⟨#[], #[.int .i64 0], []⟩ 8 (by kernel_rfl) (by kernel_rfl) (by kernel_rfl) (by kernel_rfl)) ?_
  intro W base args ds gs before hval0 hW hcnd _
  have hval : ∀ (j : Nat) t v, Try.f4.params[j]? = some t → args[j]? = some v → Value.okWide Try.prog W .any base t v := hval0
  have hW' := hW
  obtain ⟨p, q, hA0, hV, rfl, hfz, hnd⟩ := hW
  have hA : DataW.TrodAll enc Try.prog W 0 (fun _ => true) true Try.f4.params.toList args.toList ds p := hA0
  rw [Try.params4] at hA hval
  obtain ⟨v0, vs0, d0, ds0, p0, q0, hargs, rfl, rfl, h0, r0⟩ := trodAll_cons hA
  obtain ⟨rfl, rfl, rfl⟩ := trodAll_nil r0
  obtain rfl : args = #[v0] := by cases args; simp_all
  obtain ⟨rfl, rfl⟩ := trodVars_none hV
  have k0 := h0
  have lt0 : ∀ x ∈ p0, x.block < W.heap.size := by obtain ⟨m, hm⟩ := k0; exact DataW.trod_lt m _ _ _ hm
  obtain ⟨x0, rfl, rfl, rfl, wf0⟩ := open_int Try.underlying2 (hval 0 2 v0 rfl rfl) h0
  clear hA0 hval0
  refine (walk x0 wf0 W ).mono fun e W' ⟨he, bel⟩ => ?_
  subst he
  exact ⟨_, rfl, _, _, _, [], _, [], hW', trodAll_mk1 (shut_bool Try.underlying4 _), (trodAll_cons_mk (Below.trod laidOut (by kernel_rfl) (of_decide_eq_true (by kernel_rfl)) k0 bel lt0) trodAll_mk0), rfl, bel.frame _, fun h => by cases h⟩

theorem over : Rows.fnExactEncodeNumberRow.holds Try.pinned (OpenSpec.ofChange Rows.fnExactEncodeNumberSpec) :=
  OpenClaim.holds_of_wide 4 Try.f4 rfl rfl rfl rfl rfl rfl rfl ⟨rfl, rfl, rfl, rfl, rfl⟩ rfl rfl rfl rfl rfl (by kernel_rfl) Try.func4 (by kernel_rfl)
    (of_decide_eq_true (by kernel_rfl)) (by unfold Func.isWrapper; first | (rw [if_pos (by decide +kernel)]; kernel_rfl) | (rw [if_neg (by decide +kernel)]; exact ⟨rfl, rfl⟩))
    (fun os started H enc _ => lifted os started H enc)

/-- THE STATEMENT. -/
theorem proved : Rows.FnExactEncodeNumberSaid := over
end Go.Proofs.Ytmcnnjelajgkjaa.lawEncodeNumber
