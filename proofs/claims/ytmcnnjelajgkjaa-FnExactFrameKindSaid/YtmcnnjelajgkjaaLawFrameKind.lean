/-
  The law FnExactFrameKind returns true for every slice of bytes, and writes nothing that was there. No condition.
-/
import Derived.Test.YtmcnnjelajgkjaaRows
import Derived.Test.YtmcnnjelajgkjaaOpen
import Derived.Test.YtmcnnjelajgkjaaContent
import Derived.Test.YtmcnnjelajgkjaaReads
namespace Go.Proofs.Ytmcnnjelajgkjaa.lawFrameKind
set_option linter.unusedVariables false
open Go.ChangeShapes Go.WideShapes Go.ChangeAt Go.RowKit
open Go.ChangeMaps (open_string shut_string)

set_option maxHeartbeats 400000 in
theorem specFrameKind_any (zs : List Int) (v : Value) (w : World) (hr : Rep w (ints .u8 zs) v) :
    Calls Try.prog 18 #[v] w (Gives w (.tuple #[.int .i64 (frameOpen zs).1, .int .i64 (frameOpen zs).2.2])) := by
  have HC := Lib.hid (l33Open_any zs v w hr)
  go_enter Try.func18, Try.ntmps18
  go_wp2_with fail
  refine HC.out.mono ?_
  rintro e w1 ⟨v1, rfl, -, hb⟩
  go_wp2_with fail
  go_ret2
  exact ⟨rfl, hb⟩

set_option maxHeartbeats 400000 in
theorem implFrameKind_any (zs : List Int) (v : Value) (w : World) (hr : Rep w (ints .u8 zs) v) :
    Calls Try.prog 19 #[v] w (Gives w (.tuple #[.int .i64 (frameOpen zs).1, .int .i64 (frameOpen zs).2.2])) := by
  have HC := Lib.hid (contentOf_any zs v w hr)
  go_enter Try.func19, Try.ntmps19
  go_wp2_with fail
  refine HC.out.mono ?_
  rintro e w1 ⟨v1, rfl, -, hb⟩
  go_wp2_with fail
  go_ret2
  exact ⟨rfl, hb⟩

set_option maxRecDepth 4000 in
set_option maxHeartbeats 400000 in
theorem walk0 (zs : List Int) (v : Value) (w : World) (hr : Rep w (ints .u8 zs) v) :
    Calls Try.prog 6 #[v] w fun e w' => e = .returned (.bool true) ∧ Below w.heap.size w w' := by
  have HR := Lib.hid hr
  obtain ⟨ad, len, cap, rfl, hmx, HL, HM, HC⟩ := hr.ints_open
  clear hr HC
  by_cases hbig : len ≤ 1048576
  · have hsz : zs.length ≤ 1048576 := by rw [← HL.out]; exact hbig
    obtain ⟨x, y, hd⟩ : ∃ x y, Hid ((frameOpen zs).1 = x ∧ (frameOpen zs).2.2 = y) := ⟨_, _, rfl, rfl⟩
    go_enter Try.func6, Try.ntmps6
    go_wp2_with fail
    refine (toByteS_rep zs _ w HR.out hsz).mono ?_
    rintro e w1 ⟨v1, rfl, hv1, hb1⟩
    go_wp2_with fail
    refine (specFrameKind_any zs v1 w1 hv1).mono ?_
    rw [hd.out.1, hd.out.2]
    rintro e w2 ⟨rfl, hb2⟩
    go_wp2_with fail
    refine (toByteS_rep zs _ w2 (HR.out.below (bnext hb1 hb2)) hsz).mono ?_
    rintro e w3 ⟨v3, rfl, hv3, hb3⟩
    go_wp2_with fail
    refine (implFrameKind_any zs v3 w3 hv3).mono ?_
    rw [hd.out.1, hd.out.2]
    rintro e w4 ⟨rfl, hb4⟩
    go_wp2_with fail
    refine (toByteS_rep zs _ w4 (HR.out.below (bnext (bnext (bnext hb1 hb2) hb3) hb4)) hsz).mono ?_
    rintro e w5 ⟨v5, rfl, hv5, hb5⟩
    go_wp2_with fail
    refine (eqByteS_any zs v3 v5 w5 (hv3.below (bnext hb4 hb5)) hv5).mono ?_
    rintro e w6 ⟨rfl, n, rfl⟩
    go_wp2_with fail
    go_ret
    exact ⟨rfl, bnext (bnext (bnext (bnext (bnext hb1 hb2) hb3) hb4) hb5) (bdrew n)⟩
  · go_enter Try.func6, Try.ntmps6
    go_wp2
    go_ret
    exact ⟨rfl, Below.refl _ _⟩

theorem walk (a : Option Addr) (len cap : Nat) (ds : List D) (n : Nat) (ht : Typed Try.prog n 22 ds) (w : World) (hr : Reps w ds (Value.slice a len cap).cells.toList) :
    Calls Try.prog 6 #[.slice a len cap] w fun e w' => e = .returned (.bool true) ∧ Below w.heap.size w w' := by
  obtain ⟨zs, rfl⟩ := typed_ints Try.underlying22 Try.underlying5 (by kernel_rfl) ht
  exact walk0 zs _ w hr.1

theorem own : ownKnob Try.prog.godebug = none := by kernel_rfl
theorem laidOut : laidOutB Try.prog = true := by kernel_rfl
theorem okS : okTypes Try.prog [22, 5] = true := by kernel_rfl
set_option maxRecDepth 100000 in
theorem lifted (os : Os) (started : os.Started) (H : Type) (enc : TypeId × Value → H) :
    ReturnsInHanded {} Try.checked os 6 .any (Rows.fnExactFrameKindSpec.pre6 enc Try.prog Try.f6 Rows.fnExactFrameKindRow.domain false) (Rows.fnExactFrameKindSpec.post enc Try.prog Try.f6 false true false false) := by
  refine returnsInHanded_of_change (C := Try.checked) own started (by kernel_rfl) Try.func6
    (ChangeSpec.witness6 (enc := enc) (C := Try.checked) false ⟨#[], #[.slice none 0 0], []⟩ 8 (by kernel_rfl) (by kernel_rfl) (by kernel_rfl) (by kernel_rfl)) ?_
  intro W base args ds gs before hval0 hW hcnd _
  have hval : ∀ (j : Nat) t v, Try.f6.params[j]? = some t → args[j]? = some v → Value.okWide Try.prog W .any base t v := hval0
  have hW' := hW
  obtain ⟨p, q, hA0, hV, rfl, hfz, hnd⟩ := hW
  have hA : DataW.TrodAll enc Try.prog W 0 (fun _ => true) true Try.f6.params.toList args.toList ds p := hA0
  rw [Try.params6] at hA hval
  obtain ⟨v0, vs0, d0, ds0, p0, q0, hargs, rfl, rfl, h0, r0⟩ := trodAll_cons hA
  obtain ⟨rfl, rfl, rfl⟩ := trodAll_nil r0
  obtain rfl : args = #[v0] := by cases args; simp_all
  obtain ⟨rfl, rfl⟩ := trodVars_none hV
  have k0 := h0
  have lt0 : ∀ x ∈ p0, x.block < W.heap.size := by obtain ⟨m, hm⟩ := k0; exact DataW.trod_lt m _ _ _ hm
  obtain ⟨a0, len0, cap0, rfl⟩ := okWide_slice Try.underlying22 (hval 0 22 v0 rfl rfl)
  obtain ⟨fu0, hf0⟩ := h0
  obtain ⟨dd0, ty0, re0⟩ := reads_of_trod _ okS fu0 _ _ _ (by decide) hf0
  clear hA0 hval0
  refine (walk _ _ _ dd0 fu0 ty0 W re0).mono fun e W' ⟨he, bel⟩ => ?_
  subst he
  exact ⟨_, rfl, _, _, _, [], _, [], hW', trodAll_mk1 (shut_bool Try.underlying4 _), (trodAll_cons_mk (Below.trod laidOut (by kernel_rfl) (of_decide_eq_true (by kernel_rfl)) k0 bel lt0) trodAll_mk0), rfl, bel.frame _, fun h => by cases h⟩

theorem over : Rows.fnExactFrameKindRow.holds Try.pinned (OpenSpec.ofChange Rows.fnExactFrameKindSpec) :=
  OpenClaim.holds_of_wide 6 Try.f6 rfl rfl rfl rfl rfl rfl rfl ⟨rfl, rfl, rfl, rfl, rfl⟩ rfl rfl rfl rfl rfl (by kernel_rfl) Try.func6 (by kernel_rfl)
    (of_decide_eq_true (by kernel_rfl)) (by unfold Func.isWrapper; first | (rw [if_pos (by decide +kernel)]; kernel_rfl) | (rw [if_neg (by decide +kernel)]; exact ⟨rfl, rfl⟩))
    (fun os started H enc _ => lifted os started H enc)

/-- THE STATEMENT. -/
theorem proved : Rows.FnExactFrameKindSaid := over
end Go.Proofs.Ytmcnnjelajgkjaa.lawFrameKind
