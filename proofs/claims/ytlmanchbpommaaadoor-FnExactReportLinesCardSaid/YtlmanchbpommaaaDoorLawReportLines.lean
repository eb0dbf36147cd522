/-
  The statement FnExactReportLines: what reads at a law's type is a datum, the walk, the plain law, the row's frame. Printed by wip/ab/genlaw.py.
-/
import Derived.Test.YtlmanchbpommaaaDoorRows
import Derived.Test.YtlmanchbpommaaaDoorWlkP
import Derived.Test.YtlmanchbpommaaaDoorAbZ
import Derived.Test.YtlmanchbpommaaaDoorFacts
import Derived.Test.YtlmanchbpommaaaDoorFcReportLines
import Derived.Test.YtlmanchbpommaaaDoorPqReportLines
import Derived.Test.YtlmanchbpommaaaDoorCards
import Derived.Test.YtlmanchbpommaaaDoorTie
import Derived.Test.YtlmanchbpommaaaDoorTied
import Derived.Lay
import Derived.Stop.Joined
namespace Go.Proofs.YtlmanchbpommaaaDoor.lawReportLines
set_option linter.unusedVariables false
set_option linter.unusedSimpArgs false
open Go.ChangeShapes Go.WideShapes Go.ChangeAt Go.RowKit Go.Proofs.YtlmanchbpommaaaDoor Go.Proofs.YtlmanchbpommaaaDoor.Ab
open Go.ChangeMaps (open_string shut_string)

theorem typed_Core : ∀ (n : Nat) (ds : List Go.Proofs.YtlmanchbpommaaaDoor.D), Typed Tryd.prog n 33 ds → ∃ x : Ab.Core, cvC ds = x.ds := by
  intro n
  induction n using Nat.strongRecOn with
  | ind n ih =>
    intro ds h
    obtain ⟨m0, hm0, h⟩ := typed_st Tryd.underlying33 h
    simp only [Parts] at h
    obtain ⟨d1, r1, h1, ⟨d2, r2, h2, ⟨d3, r3, h3, ⟨d4, r4, h4, rfl, rfl⟩, rfl⟩, rfl⟩, rfl⟩ := h
    obtain ⟨z1, rfl⟩ := typed_int Tryd.underlying2 h1
    obtain ⟨z2, rfl⟩ := typed_int Tryd.underlying2 h2
    obtain ⟨z3, ez3⟩ := typed_sl i64D Tryd.underlying22 (fun m x hm hx => by obtain ⟨z, rfl⟩ := typed_int Tryd.underlying2 hx; exact ⟨z, rfl⟩) h3
    obtain ⟨z4, ez4⟩ := typed_sl Ab.Core.ds Tryd.underlying31 (fun m x hm hx => ih m (Nat.lt_trans hm hm0) x hx) h4
    refine ⟨⟨z1, z2, z3, z4⟩, ?_⟩
    rw [Ab.Core.ds_eq]
    simp only [cvC_append, ez3, ez4, cvC, cv, List.cons_append, List.nil_append, List.append_nil]

theorem typed_Report (n : Nat) (ds : List Go.Proofs.YtlmanchbpommaaaDoor.D) (h : Typed Tryd.prog n 35 ds) : ∃ x : Ab.Report, cvC ds = x.ds := by
  obtain ⟨m0, hm0, h⟩ := typed_st Tryd.underlying35 h
  simp only [Parts] at h
  obtain ⟨d1, r1, h1, ⟨d2, r2, h2, ⟨d3, r3, h3, ⟨d4, r4, h4, ⟨d5, r5, h5, ⟨d6, r6, h6, rfl, rfl⟩, rfl⟩, rfl⟩, rfl⟩, rfl⟩, rfl⟩ := h
  obtain ⟨z1, ez1⟩ := typed_Core _ _ h1
  obtain ⟨z2, ez2⟩ := typed_sl i64D Tryd.underlying22 (fun m x hm hx => by obtain ⟨z, rfl⟩ := typed_int Tryd.underlying2 hx; exact ⟨z, rfl⟩) h2
  obtain ⟨z3, ez3⟩ := typed_sl i64D Tryd.underlying22 (fun m x hm hx => by obtain ⟨z, rfl⟩ := typed_int Tryd.underlying2 hx; exact ⟨z, rfl⟩) h3
  obtain ⟨z4, rfl⟩ := typed_int Tryd.underlying2 h4
  obtain ⟨z5, rfl⟩ := typed_int Tryd.underlying2 h5
  obtain ⟨z6, rfl⟩ := typed_int Tryd.underlying2 h6
  refine ⟨⟨z1, z2, z3, z4, z5, z6⟩, ?_⟩
  rw [Ab.Report.ds_eq]
  simp only [cvC_append, ez1, ez2, ez3, Ab.Core.ds_eq, cvC, cv, List.cons_append, List.nil_append, List.append_nil]

theorem walk (cs0 : Array Value) (dd0 : List Go.Proofs.YtlmanchbpommaaaDoor.D) (n0 : Nat) (ht0 : Typed Tryd.prog n0 35 dd0) (w : World) (hsh : w.ShapedOpen Tryd.prog) (hamb : Amb Tryd.prog w) (h0 : Go.Proofs.YtlmanchbpommaaaDoor.Reps w dd0 (Value.agg cs0).cells.toList) :
    Calls Tryd.prog 4 #[.agg cs0] w fun e w' => e = .returned (.bool true) ∧ Below w.heap.size w w' := by
  obtain ⟨y0, ey0⟩ := typed_Report _ _ ht0
  obtain ⟨hv0, hk0⟩ := vsims_of h0
  rw [ey0] at hv0 hk0
  have ha0 : (List.map ofD y0.ds) = y0.avs := by rw [Ab.Report.ds_eq]; rfl
  rw [ha0] at hv0
  have hl := l_FnExactReportLines_ok _ _ (ReportLines_plain y0 hk0)
  refine law_calls hl hsh (by kernel_rfl) hamb ?_
  simp only [VSims]
  exact ⟨_, _, rfl, vsim_agg hv0, rfl⟩

theorem own : ownKnob Tryd.prog.godebug = none := by kernel_rfl
theorem laidOut : laidOutB Tryd.prog = true := by kernel_rfl
theorem okS : okTypes Tryd.prog [35, 33, 2, 22, 31] = true := by kernel_rfl
def laid : List (String × DataW Unit) := Rows.fnExactReportLinesRow.laid
set_option maxRecDepth 100000 in
theorem lifted (os : Os) (started : os.Started) (H : Type) (enc : TypeId × Value → H) :
    ReturnsInHanded {} Tryd.checked os 4 .any (fun w args => (Rows.fnExactReportLinesSpec.pre enc Tryd.prog Tryd.f4 Rows.fnExactReportLinesRow.domain false w args ∧ laidMetH Tryd.prog laid w) ∧ sizedMet enc Tryd.prog Tryd.f4 (OpenSpec.ofChange Rows.fnExactReportLinesSpec) false w args)
      (Rows.fnExactReportLinesSpec.post enc Tryd.prog Tryd.f4 false true false false) := by
  refine wrap_and_shaped (C := Tryd.checked) (X := fun w _ => laidMetH Tryd.prog laid w) (fun _ _ _ hh h => h.of_heap hh) own started (by kernel_rfl) Tryd.func4
    (ChangeSpec.witness_shaped (enc := enc) (C := Tryd.checked) (os := os) (X := fun w _ => laidMetH Tryd.prog laid w) false (World.laidAll Tryd.prog os laid) #[.agg #[.int .i64 0, .int .i64 0, .slice none 0 0, .slice none 0 0, .slice none 0 0, .slice none 0 0, .int .i64 0, .int .i64 0, .int .i64 0]] 8 (World.laidAll_os _ _ _)
      (World.shaped_of_ZipB (by kernel_rfl) (by kernel_rfl)) (by kernel_rfl) (by kernel_rfl) (by kernel_rfl)
      (by rw [MakeChecks.laidMetH_plain _ _ _ (by kernel_rfl)]; exact laidMet_laidAll _ (by kernel_rfl) (by kernel_rfl))) ?_
  intro W base args ds gs before hval0 hW hL hsh
  have hamb : Amb Tryd.prog W := amb_of_laid hL
  have hval : ∀ (j : Nat) t v, Tryd.f4.params[j]? = some t → args[j]? = some v → Value.okWide Tryd.prog W .any base t v := hval0
  have hW' := hW
  obtain ⟨p, q, hA0, hV, rfl, hfz, hnd⟩ := hW
  have hA : DataW.TrodAll enc Tryd.prog W 0 (fun _ => true) true Tryd.f4.params.toList args.toList ds p := hA0
  rw [Tryd.params4] at hA hval
  obtain ⟨v0, vs0, d0, ds0, p0, q0, hargs, rfl, rfl, h0, r0⟩ := trodAll_cons hA
  obtain ⟨rfl, rfl, rfl⟩ := trodAll_nil r0
  obtain rfl : args = #[v0] := by cases args; simp_all
  obtain ⟨rfl, rfl⟩ := trodVars_none hV
  have k0 := h0
  have lt0 : ∀ x ∈ p0, x.block < W.heap.size := by obtain ⟨m, hm⟩ := k0; exact DataW.trod_lt m _ _ _ hm
  obtain ⟨cs0, rfl, -, -⟩ := agg_of_okWide (by kernel_rfl) (hval 0 35 v0 rfl rfl)
  obtain ⟨fu0, hf0⟩ := h0
  obtain ⟨dd0, ty0, re0⟩ := reads_of_trod _ okS fu0 _ _ _ (by decide) hf0
  clear hA0 hval0
  refine (walk _ dd0 fu0 ty0 W hsh hamb re0).mono fun e W' ⟨he, bel⟩ => ?_
  subst he
  exact ⟨_, rfl, _, _, _, [], _, [], hW', trodAll_mk1 (shut_bool Tryd.underlying4 _), (trodAll_cons_mk (Below.trod laidOut (by kernel_rfl) (of_decide_eq_true (by kernel_rfl)) k0 bel lt0) trodAll_mk0), rfl, bel.frame _, fun h => by cases h⟩

theorem over : Rows.fnExactReportLinesRow.holds Tryd.pinned (OpenSpec.ofChange Rows.fnExactReportLinesSpec) :=
  OpenClaim.holds_of_wide 4 Tryd.f4 rfl rfl rfl rfl rfl rfl rfl ⟨rfl, rfl, rfl, rfl, rfl⟩ rfl rfl rfl rfl rfl (by kernel_rfl) Tryd.func4 closed
    (of_decide_eq_true (by kernel_rfl)) (by unfold Func.isWrapper; first | (rw [if_pos (by decide +kernel)]; kernel_rfl) | (rw [if_neg (by decide +kernel)]; exact ⟨rfl, rfl⟩))
    (fun os started H enc _ => lifted os started H enc)

/-- THE STATEMENT. -/
theorem proved : Rows.FnExactReportLinesCardSaid :=
  Claim7.holds_tied_plain_at .later [] [.data, .data, .data] true (true, "5b99ba1348b1fceb8072563a08e2d396f3ae228b876b9a703f06e901ebb7a579") false over (fun _ h => by cases h) (by kernel_rfl) (fun _ h => by cases h) fnExactReportLines_row_tie rfl ⟨rfl, rfl⟩ (by kernel_rfl) rfl
    (fun f fn hf hfn => by
      obtain rfl : f = 4 := Option.some.inj ((show Tryd.prog.funcNamed Rows.fnExactReportLinesRow.func = some 4 by kernel_rfl).symm.trans hf) |>.symm
      obtain rfl : fn = Tryd.f4 := (Option.some.inj (Tryd.func4.symm.trans hfn)).symm
      exact ⟨by kernel_rfl, fun j t ht => by
        rw [Tryd.params4] at ht
        rcases j with _ | j
        · simp at ht; subst ht; kernel_rfl
        simp at ht⟩) (by kernel_rfl)

end Go.Proofs.YtlmanchbpommaaaDoor.lawReportLines
