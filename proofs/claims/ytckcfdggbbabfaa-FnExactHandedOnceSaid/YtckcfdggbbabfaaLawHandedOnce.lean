/-
  The statement FnExactHandedOnce: what reads at a law's type is a datum, the walk, the plain law, the row's frame. Printed by wip/ab/genlaw.py.
-/
import Derived.Test.YtckcfdggbbabfaaRows
import Derived.Test.YtckcfdggbbabfaaWlkH
import Derived.Test.YtckcfdggbbabfaaAbZ
import Derived.Test.YtckcfdggbbabfaaFacts
import Derived.Test.YtckcfdggbbabfaaFcHandedOnce
import Derived.Test.YtckcfdggbbabfaaPqHandedOnce
namespace Go.Proofs.Ytckcfdggbbabfaa.lawHandedOnce
set_option linter.unusedVariables false
set_option linter.unusedSimpArgs false
open Go.ChangeShapes Go.WideShapes Go.ChangeAt Go.RowKit Go.Proofs.Ytckcfdggbbabfaa Go.Proofs.Ytckcfdggbbabfaa.Ab
open Go.ChangeMaps (open_string shut_string)

theorem typed_DequeActor (n : Nat) (ds : List Go.Proofs.Ytckcfdggbbabfaa.D) (h : Typed Try.prog n 53 ds) : ∃ x : Ab.DequeActor, cvC ds = x.ds := by
  obtain ⟨m0, hm0, h⟩ := typed_st Try.underlying53 h
  simp only [Parts] at h
  obtain ⟨d1, r1, h1, ⟨d2, r2, h2, ⟨d3, r3, h3, ⟨d4, r4, h4, ⟨d5, r5, h5, rfl, rfl⟩, rfl⟩, rfl⟩, rfl⟩, rfl⟩ := h
  obtain ⟨z1, ez1⟩ := typed_sl i64D Try.underlying22 (fun m x hm hx => by obtain ⟨z, rfl⟩ := typed_int Try.underlying2 hx; exact ⟨z, rfl⟩) h1
  obtain ⟨z2, rfl⟩ := typed_int Try.underlying2 h2
  obtain ⟨z3, rfl⟩ := typed_int Try.underlying2 h3
  obtain ⟨z4, rfl⟩ := typed_int Try.underlying2 h4
  obtain ⟨z5, rfl⟩ := typed_int Try.underlying2 h5
  refine ⟨⟨z1, z2, z3, z4, z5⟩, ?_⟩
  rw [Ab.DequeActor.ds_eq]
  simp only [cvC_append, ez1, cvC, cv, List.cons_append, List.nil_append, List.append_nil]

theorem typed_Handed (n : Nat) (ds : List Go.Proofs.Ytckcfdggbbabfaa.D) (h : Typed Try.prog n 63 ds) : ∃ x : Ab.Handed, cvC ds = x.ds := by
  obtain ⟨m0, hm0, h⟩ := typed_st Try.underlying63 h
  simp only [Parts] at h
  obtain ⟨d1, r1, h1, ⟨d2, r2, h2, rfl, rfl⟩, rfl⟩ := h
  obtain ⟨z1, rfl⟩ := typed_int Try.underlying2 h1
  obtain ⟨z2, rfl⟩ := typed_int Try.underlying2 h2
  refine ⟨⟨z1, z2⟩, ?_⟩
  rw [Ab.Handed.ds_eq]
  simp only [cvC_append, cvC, cv, List.cons_append, List.nil_append, List.append_nil]

theorem typed_Deque (n : Nat) (ds : List Go.Proofs.Ytckcfdggbbabfaa.D) (h : Typed Try.prog n 26 ds) : ∃ x : Ab.Deque, cvC ds = x.ds := by
  obtain ⟨m0, hm0, h⟩ := typed_st Try.underlying26 h
  simp only [Parts] at h
  obtain ⟨d1, r1, h1, ⟨d2, r2, h2, ⟨d3, r3, h3, ⟨d4, r4, h4, ⟨d5, r5, h5, ⟨d6, r6, h6, rfl, rfl⟩, rfl⟩, rfl⟩, rfl⟩, rfl⟩, rfl⟩ := h
  obtain ⟨z1, rfl⟩ := typed_int Try.underlying2 h1
  obtain ⟨z2, rfl⟩ := typed_int Try.underlying2 h2
  obtain ⟨z3, ez3⟩ := typed_sl i64D Try.underlying22 (fun m x hm hx => by obtain ⟨z, rfl⟩ := typed_int Try.underlying2 hx; exact ⟨z, rfl⟩) h3
  obtain ⟨z4, ez4⟩ := typed_sl Ab.DequeActor.ds Try.underlying23 (fun m x hm hx => typed_DequeActor m x hx) h4
  obtain ⟨z5, ez5⟩ := typed_sl Ab.Handed.ds Try.underlying24 (fun m x hm hx => typed_Handed m x hx) h5
  obtain ⟨z6, ez6⟩ := typed_sl i64D Try.underlying22 (fun m x hm hx => by obtain ⟨z, rfl⟩ := typed_int Try.underlying2 hx; exact ⟨z, rfl⟩) h6
  refine ⟨⟨z1, z2, z3, z4, z5, z6⟩, ?_⟩
  rw [Ab.Deque.ds_eq]
  simp only [cvC_append, ez3, ez4, ez5, ez6, cvC, cv, List.cons_append, List.nil_append, List.append_nil]

theorem walk (cs0 : Array Value) (dd0 : List Go.Proofs.Ytckcfdggbbabfaa.D) (n0 : Nat) (ht0 : Typed Try.prog n0 26 dd0) (a1 : Option Addr) (len1 cap1 : Nat) (dd1 : List Go.Proofs.Ytckcfdggbbabfaa.D) (n1 : Nat) (ht1 : Typed Try.prog n1 22 dd1) (w : World) (hsh : w.ShapedOpen Try.prog) (h0 : Go.Proofs.Ytckcfdggbbabfaa.Reps w dd0 (Value.agg cs0).cells.toList) (h1 : Go.Proofs.Ytckcfdggbbabfaa.Reps w dd1 (Value.slice a1 len1 cap1).cells.toList) :
    Calls Try.prog 3 #[.agg cs0, .slice a1 len1 cap1] w fun e w' => e = .returned (.bool true) ∧ Below w.heap.size w w' := by
  obtain ⟨y0, ey0⟩ := typed_Deque _ _ ht0
  obtain ⟨hv0, hk0⟩ := vsims_of h0
  rw [ey0] at hv0 hk0
  have ha0 : (List.map ofD y0.ds) = y0.avs := by rw [Ab.Deque.ds_eq]; rfl
  rw [ha0] at hv0
  obtain ⟨y1, ey1⟩ := typed_sl i64D Try.underlying22 (fun m x hm hx => by obtain ⟨z, rfl⟩ := typed_int Try.underlying2 hx; exact ⟨z, rfl⟩) ht1
  obtain ⟨hv1, hk1⟩ := vsims_of h1
  rw [ey1] at hv1 hk1
  obtain ⟨u1, us1, eu1, hw1, -⟩ := hv1
  obtain rfl : u1 = .slice a1 len1 cap1 := by simpa [Value.cells] using (List.cons.inj eu1).1.symm
  have hl := l_FnExactHandedOnce_ok _ _ _ (HandedOnce_plain y0 hk0 y1 hk1)
  refine law_calls hl hsh (by kernel_rfl) trivial ?_
  simp only [VSims]
  exact ⟨_, _, rfl, vsim_agg hv0, ⟨_, _, rfl, hw1, rfl⟩⟩

theorem own : ownKnob Try.prog.godebug = none := by kernel_rfl
theorem laidOut : laidOutB Try.prog = true := by kernel_rfl
theorem okS : okTypes Try.prog [26, 2, 22, 23, 53, 24, 63] = true := by kernel_rfl
set_option maxRecDepth 100000 in
theorem lifted (os : Os) (started : os.Started) (H : Type) (enc : TypeId × Value → H) :
    ReturnsInHanded {} Try.checked os 3 .any (Rows.fnExactHandedOnceSpec.pre6 enc Try.prog Try.f3 Rows.fnExactHandedOnceRow.domain false) (Rows.fnExactHandedOnceSpec.post enc Try.prog Try.f3 false true false false) := by
  refine returnsInHanded_of_change_shaped (C := Try.checked) own started (by kernel_rfl) Try.func3
    (ChangeSpec.witness6 (enc := enc) (C := Try.checked) false ⟨#[], #[.agg #[.int .i64 0, .int .i64 0, .slice none 0 0, .slice none 0 0, .slice none 0 0, .slice none 0 0], .slice none 0 0], []⟩ 8 (by kernel_rfl) (by kernel_rfl) (by kernel_rfl) (by kernel_rfl)) ?_
  intro W base args ds gs before hval0 hW hcnd _ hsh _
  have hval : ∀ (j : Nat) t v, Try.f3.params[j]? = some t → args[j]? = some v → Value.okWide Try.prog W .any base t v := hval0
  have hW' := hW
  obtain ⟨p, q, hA0, hV, rfl, hfz, hnd⟩ := hW
  have hA : DataW.TrodAll enc Try.prog W 0 (fun _ => true) true Try.f3.params.toList args.toList ds p := hA0
  rw [Try.params3] at hA hval
  obtain ⟨v0, vs0, d0, ds0, p0, q0, hargs, rfl, rfl, h0, r0⟩ := trodAll_cons hA
  obtain ⟨v1, vs1, d1, ds1, p1, q1, rfl, rfl, rfl, h1, r1⟩ := trodAll_cons r0
  obtain ⟨rfl, rfl, rfl⟩ := trodAll_nil r1
  obtain rfl : args = #[v0, v1] := by cases args; simp_all
  obtain ⟨rfl, rfl⟩ := trodVars_none hV
  have k0 := h0
  have lt0 : ∀ x ∈ p0, x.block < W.heap.size := by obtain ⟨m, hm⟩ := k0; exact DataW.trod_lt m _ _ _ hm
  obtain ⟨cs0, rfl, -, -⟩ := agg_of_okWide (by kernel_rfl) (hval 0 26 v0 rfl rfl)
  obtain ⟨fu0, hf0⟩ := h0
  obtain ⟨dd0, ty0, re0⟩ := reads_of_trod _ okS fu0 _ _ _ (by decide) hf0
  have k1 := h1
  have lt1 : ∀ x ∈ p1, x.block < W.heap.size := by obtain ⟨m, hm⟩ := k1; exact DataW.trod_lt m _ _ _ hm
  obtain ⟨a1, len1, cap1, rfl⟩ := okWide_slice Try.underlying22 (hval 1 22 v1 rfl rfl)
  obtain ⟨fu1, hf1⟩ := h1
  obtain ⟨dd1, ty1, re1⟩ := reads_of_trod _ okS fu1 _ _ _ (by decide) hf1
  clear hA0 hval0
  refine (walk _ dd0 fu0 ty0 _ _ _ dd1 fu1 ty1 W hsh re0 re1).mono fun e W' ⟨he, bel⟩ => ?_
  subst he
  exact ⟨_, rfl, _, _, _, [], _, [], hW', trodAll_mk1 (shut_bool Try.underlying4 _), (trodAll_cons_mk (Below.trod laidOut (by kernel_rfl) (of_decide_eq_true (by kernel_rfl)) k0 bel lt0) (trodAll_cons_mk (Below.trod laidOut (by kernel_rfl) (of_decide_eq_true (by kernel_rfl)) k1 bel lt1) trodAll_mk0)), rfl, bel.frame _, fun h => by cases h⟩

theorem over : Rows.fnExactHandedOnceRow.holds Try.pinned (OpenSpec.ofChange Rows.fnExactHandedOnceSpec) :=
  OpenClaim.holds_of_wide 3 Try.f3 rfl rfl rfl rfl rfl rfl rfl ⟨rfl, rfl, rfl, rfl, rfl⟩ rfl rfl rfl rfl rfl (by kernel_rfl) Try.func3 closed
    (of_decide_eq_true (by kernel_rfl)) (by unfold Func.isWrapper; first | (rw [if_pos (by decide +kernel)]; kernel_rfl) | (rw [if_neg (by decide +kernel)]; exact ⟨rfl, rfl⟩))
    (fun os started H enc _ => lifted os started H enc)

/-- THE STATEMENT. -/
theorem proved : Rows.FnExactHandedOnceSaid := over

end Go.Proofs.Ytckcfdggbbabfaa.lawHandedOnce
