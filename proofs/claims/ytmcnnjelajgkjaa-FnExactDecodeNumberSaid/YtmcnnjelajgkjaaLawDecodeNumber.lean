/-
  The law FnExactDecodeNumber returns true for every slice of bytes and every offset, and writes nothing that was there. No condition.
-/
import Derived.Test.YtmcnnjelajgkjaaRows
import Derived.Test.YtmcnnjelajgkjaaDec
import Derived.Test.YtmcnnjelajgkjaaReads
namespace Go.Proofs.Ytmcnnjelajgkjaa.lawDecodeNumber
open Go.ChangeShapes Go.WideShapes Go.ChangeAt Go.RowKit
open Go.ChangeMaps (open_string shut_string)
set_option linter.unusedVariables false

theorem decNum_shape (zs : List Int) (a : Int) : ∃ x y z, decNum zs a = .tuple #[.int .i64 x, .int .i64 y, .int .i64 z] := by
  unfold decNum
  split
  · split <;> exact ⟨_, _, _, rfl⟩
  · exact ⟨_, _, _, rfl⟩

set_option maxRecDepth 4000 in
set_option maxHeartbeats 400000 in
theorem walk0 (zs : List Int) (v : Value) (a : Int) (w : World) (hr : Rep w (ints .u8 zs) v) :
    Calls Try.prog 5 #[v, .int .i64 a] w fun e w' => e = .returned (.bool true) ∧ Below w.heap.size w w' := by
  have HR := Lib.hid hr
  obtain ⟨ad, len, cap, rfl, hmx, HL, HM, HC⟩ := hr.ints_open
  clear hr HC
  by_cases hbig : len ≤ 1048576
  · have hsz : zs.length ≤ 1048576 := by rw [← HL.out]; exact hbig
    obtain ⟨x, y, z, hd⟩ := decNum_shape zs a
    have HD := Lib.hid hd; clear hd
    go_enter Try.func5, Try.ntmps5
    go_wp2_with fail
    refine (toByteS_rep zs _ w HR.out hsz).mono ?_
    rintro e w1 ⟨v1, rfl, hv1, hb1⟩
    go_wp2_with fail
    refine (specDecodeNumber_any zs v1 a w1 hv1 hsz).mono ?_
    rw [HD.out]
    rintro e w2 ⟨rfl, hb2⟩
    go_wp2_with fail
    refine (toByteS_rep zs _ w2 (HR.out.below (bnext hb1 hb2)) hsz).mono ?_
    rintro e w3 ⟨v3, rfl, hv3, hb3⟩
    go_wp2_with fail
    refine (implDecodeNumber_any zs v3 a w3 hv3 hsz).mono ?_
    rw [HD.out]
    rintro e w4 ⟨rfl, hb4⟩
    go_wp2_with fail
    refine (toByteS_rep zs _ w4 (HR.out.below (bnext (bnext (bnext hb1 hb2) hb3) hb4)) hsz).mono ?_
    rintro e w5 ⟨v5, rfl, hv5, hb5⟩
    go_wp2_with fail
    refine (eqByteS_any zs v3 v5 w5 (hv3.below (bnext hb4 hb5)) hv5).mono ?_
    rintro e w6 ⟨rfl, n, rfl⟩
    go_wp2_with fail
    go_ret
    exact ⟨rfl, bnext (bnext (bnext (bnext (bnext hb1 hb2) hb3) hb4) hb5) (bdrew n)⟩
  · go_enter Try.func5, Try.ntmps5
    go_wp2
    go_ret
    exact ⟨rfl, Below.refl _ _⟩

theorem walk (a : Option Addr) (len cap : Nat) (ds : List D) (n : Nat) (ht : Typed Try.prog n 22 ds) (x : Int) (_hx : (Lit.int .i64 x).wf = true) (w : World) (hr : Reps w ds (Value.slice a len cap).cells.toList) :
    Calls Try.prog 5 #[.slice a len cap, .int .i64 x] w fun e w' => e = .returned (.bool true) ∧ Below w.heap.size w w' := by
  obtain ⟨zs, rfl⟩ := typed_ints Try.underlying22 Try.underlying5 (by kernel_rfl) ht
  exact walk0 zs _ x w hr.1

theorem own : ownKnob Try.prog.godebug = none := by kernel_rfl
theorem laidOut : laidOutB Try.prog = true := by kernel_rfl
theorem okS : okTypes Try.prog [22, 5] = true := by kernel_rfl
set_option maxRecDepth 100000 in
theorem lifted (os : Os) (started : os.Started) (H : Type) (enc : TypeId × Value → H) :
    ReturnsInHanded {} Try.checked os 5 .any (Rows.fnExactDecodeNumberSpec.pre6 enc Try.prog Try.f5 Rows.fnExactDecodeNumberRow.domain false) (Rows.fnExactDecodeNumberSpec.post enc Try.prog Try.f5 false true false false) := by
  refine returnsInHanded_of_change (C := Try.checked) own started (by kernel_rfl) Try.func5
    (ChangeSpec.witness6 (enc := enc) (C := Try.checked) false ⟨#[], #[.slice none 0 0, .int .i64 0], []⟩ 8 (by kernel_rfl) (by kernel_rfl) (by kernel_rfl) (by kernel_rfl)) ?_
  intro W base args ds gs before hval0 hW hcnd _
  have hval : ∀ (j : Nat) t v, Try.f5.params[j]? = some t → args[j]? = some v → Value.okWide Try.prog W .any base t v := hval0
  have hW' := hW
  obtain ⟨p, q, hA0, hV, rfl, hfz, hnd⟩ := hW
  have hA : DataW.TrodAll enc Try.prog W 0 (fun _ => true) true Try.f5.params.toList args.toList ds p := hA0
  rw [Try.params5] at hA hval
  obtain ⟨v0, vs0, d0, ds0, p0, q0, hargs, rfl, rfl, h0, r0⟩ := trodAll_cons hA
  obtain ⟨v1, vs1, d1, ds1, p1, q1, rfl, rfl, rfl, h1, r1⟩ := trodAll_cons r0
  obtain ⟨rfl, rfl, rfl⟩ := trodAll_nil r1
  obtain rfl : args = #[v0, v1] := by cases args; simp_all
  obtain ⟨rfl, rfl⟩ := trodVars_none hV
  have k0 := h0
  have lt0 : ∀ x ∈ p0, x.block < W.heap.size := by obtain ⟨m, hm⟩ := k0; exact DataW.trod_lt m _ _ _ hm
  obtain ⟨a0, len0, cap0, rfl⟩ := okWide_slice Try.underlying22 (hval 0 22 v0 rfl rfl)
  obtain ⟨fu0, hf0⟩ := h0
  obtain ⟨dd0, ty0, re0⟩ := reads_of_trod _ okS fu0 _ _ _ (by decide) hf0
  have k1 := h1
  have lt1 : ∀ x ∈ p1, x.block < W.heap.size := by obtain ⟨m, hm⟩ := k1; exact DataW.trod_lt m _ _ _ hm
  obtain ⟨x1, rfl, rfl, rfl, wf1⟩ := open_int Try.underlying2 (hval 1 2 v1 rfl rfl) h1
  clear hA0 hval0
  refine (walk _ _ _ dd0 fu0 ty0 x1 wf1 W re0).mono fun e W' ⟨he, bel⟩ => ?_
  subst he
  exact ⟨_, rfl, _, _, _, [], _, [], hW', trodAll_mk1 (shut_bool Try.underlying4 _), (trodAll_cons_mk (Below.trod laidOut (by kernel_rfl) (of_decide_eq_true (by kernel_rfl)) k0 bel lt0) (trodAll_cons_mk (Below.trod laidOut (by kernel_rfl) (of_decide_eq_true (by kernel_rfl)) k1 bel lt1) trodAll_mk0)), rfl, bel.frame _, fun h => by cases h⟩

theorem over : Rows.fnExactDecodeNumberRow.holds Try.pinned (OpenSpec.ofChange Rows.fnExactDecodeNumberSpec) :=
  OpenClaim.holds_of_wide 5 Try.f5 rfl rfl rfl rfl rfl rfl rfl ⟨rfl, rfl, rfl, rfl, rfl⟩ rfl rfl rfl rfl rfl (by kernel_rfl) Try.func5 (by kernel_rfl)
    (of_decide_eq_true (by kernel_rfl)) (by unfold Func.isWrapper; first | (rw [if_pos (by decide +kernel)]; kernel_rfl) | (rw [if_neg (by decide +kernel)]; exact ⟨rfl, rfl⟩))
    (fun os started H enc _ => lifted os started H enc)

/-- THE STATEMENT. -/
theorem proved : Rows.FnExactDecodeNumberSaid := over
end Go.Proofs.Ytmcnnjelajgkjaa.lawDecodeNumber
