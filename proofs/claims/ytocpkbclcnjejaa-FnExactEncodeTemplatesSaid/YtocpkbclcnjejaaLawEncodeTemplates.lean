/-
  The statement FnExactEncodeTemplates: what reads at a law's type is a datum, the walk, the plain law, the row's frame. Printed by wip/ab/genlaw.py.
-/
import Derived.Test.YtocpkbclcnjejaaRows
import Derived.Test.YtocpkbclcnjejaaWlkH
import Derived.Test.YtocpkbclcnjejaaAbZ
import Derived.Test.YtocpkbclcnjejaaFacts
import Derived.Test.YtocpkbclcnjejaaFcEncodeTemplates
import Derived.Test.YtocpkbclcnjejaaPqEncodeTemplates
namespace Go.Proofs.Ytocpkbclcnjejaa.lawEncodeTemplates
set_option linter.unusedVariables false
set_option linter.unusedSimpArgs false
open Go.ChangeShapes Go.WideShapes Go.ChangeAt Go.RowKit Go.Proofs.Ytocpkbclcnjejaa Go.Proofs.Ytocpkbclcnjejaa.Ab
open Go.ChangeMaps (open_string shut_string)

theorem typed_Port (n : Nat) (ds : List Go.Proofs.Ytocpkbclcnjejaa.D) (h : Typed Try.prog n 231 ds) : ∃ x : Ab.Port, cvC ds = x.ds := by
  obtain ⟨m0, hm0, h⟩ := typed_st Try.underlying231 h
  simp only [Parts] at h
  obtain ⟨d1, r1, h1, ⟨d2, r2, h2, rfl, rfl⟩, rfl⟩ := h
  obtain ⟨z1, rfl⟩ := typed_int Try.underlying2 h1
  obtain ⟨z2, rfl⟩ := typed_int Try.underlying2 h2
  refine ⟨⟨z1, z2⟩, ?_⟩
  rw [Ab.Port.ds_eq]
  simp only [cvC_append, cvC, cv, List.cons_append, List.nil_append, List.append_nil]

theorem typed_Agent (n : Nat) (ds : List Go.Proofs.Ytocpkbclcnjejaa.D) (h : Typed Try.prog n 140 ds) : ∃ x : Ab.Agent, cvC ds = x.ds := by
  obtain ⟨m0, hm0, h⟩ := typed_st Try.underlying140 h
  simp only [Parts] at h
  obtain ⟨d1, r1, h1, ⟨d2, r2, h2, ⟨d3, r3, h3, ⟨d4, r4, h4, ⟨d5, r5, h5, rfl, rfl⟩, rfl⟩, rfl⟩, rfl⟩, rfl⟩ := h
  obtain ⟨z1, rfl⟩ := typed_int Try.underlying2 h1
  obtain ⟨z2, rfl⟩ := typed_int Try.underlying2 h2
  obtain ⟨z3, rfl⟩ := typed_int Try.underlying2 h3
  obtain ⟨z4, ez4⟩ := typed_sl i64D Try.underlying46 (fun m x hm hx => by obtain ⟨z, rfl⟩ := typed_int Try.underlying2 hx; exact ⟨z, rfl⟩) h4
  obtain ⟨z5, ez5⟩ := typed_sl Ab.Port.ds Try.underlying138 (fun m x hm hx => typed_Port m x hx) h5
  refine ⟨⟨z1, z2, z3, z4, z5⟩, ?_⟩
  rw [Ab.Agent.ds_eq]
  simp only [cvC_append, ez4, ez5, cvC, cv, List.cons_append, List.nil_append, List.append_nil]

theorem typed_Net (n : Nat) (ds : List Go.Proofs.Ytocpkbclcnjejaa.D) (h : Typed Try.prog n 24 ds) : ∃ x : Ab.Net, cvC ds = x.ds := by
  obtain ⟨m0, hm0, h⟩ := typed_st Try.underlying24 h
  simp only [Parts] at h
  obtain ⟨d1, r1, h1, rfl, rfl⟩ := h
  obtain ⟨z1, ez1⟩ := typed_sl Ab.Agent.ds Try.underlying22 (fun m x hm hx => typed_Agent m x hx) h1
  refine ⟨⟨z1⟩, ?_⟩
  rw [Ab.Net.ds_eq]
  simp only [cvC_append, ez1, cvC, cv, List.cons_append, List.nil_append, List.append_nil]

theorem walk (a0 : Option Addr) (len0 cap0 : Nat) (dd0 : List Go.Proofs.Ytocpkbclcnjejaa.D) (n0 : Nat) (ht0 : Typed Try.prog n0 38 dd0) (w : World) (hsh : w.ShapedOpen Try.prog) (h0 : Go.Proofs.Ytocpkbclcnjejaa.Reps w dd0 (Value.slice a0 len0 cap0).cells.toList) :
    Calls Try.prog 4 #[.slice a0 len0 cap0] w fun e w' => e = .returned (.bool true) ∧ Below w.heap.size w w' := by
  obtain ⟨y0, ey0⟩ := typed_sl Ab.Net.ds Try.underlying38 (fun m x hm hx => typed_Net m x hx) ht0
  obtain ⟨hv0, hk0⟩ := vsims_of h0
  rw [ey0] at hv0 hk0
  obtain ⟨u0, us0, eu0, hw0, -⟩ := hv0
  obtain rfl : u0 = .slice a0 len0 cap0 := by simpa [Value.cells] using (List.cons.inj eu0).1.symm
  have hl := l_FnExactEncodeTemplates_ok _ _ (EncodeTemplates_plain y0 hk0)
  refine law_calls hl hsh (by kernel_rfl) ?_
  simp only [VSims]
  exact ⟨_, _, rfl, hw0, rfl⟩

theorem own : ownKnob Try.prog.godebug = none := by kernel_rfl
theorem laidOut : laidOutB Try.prog = true := by kernel_rfl
theorem okS : okTypes Try.prog [38, 24, 22, 140, 2, 46, 138, 231] = true := by kernel_rfl
set_option maxRecDepth 100000 in
theorem lifted (os : Os) (started : os.Started) (H : Type) (enc : TypeId × Value → H) :
    ReturnsInHanded {} Try.checked os 4 .any (Rows.fnExactEncodeTemplatesSpec.pre6 enc Try.prog Try.f4 Rows.fnExactEncodeTemplatesRow.domain false) (Rows.fnExactEncodeTemplatesSpec.post enc Try.prog Try.f4 false true false false) := by
  refine returnsInHanded_of_change_shaped (C := Try.checked) own started (by kernel_rfl) Try.func4
    (ChangeSpec.witness6 (enc := enc) (C := Try.checked) false ⟨#[], #[.slice none 0 0], []⟩ 8 (by kernel_rfl) (by kernel_rfl) (by kernel_rfl) (by kernel_rfl)) ?_
  intro W base args ds gs before hval0 hW hcnd _ hsh _
  have hval : ∀ (j : Nat) t v, Try.f4.params[j]? = some t → args[j]? = some v → Value.okWide Try.prog W .any base t v := hval0
  have hW' := hW
  obtain ⟨p, q, hA0, hV, rfl, hfz, hnd⟩ := hW
  have hA : DataW.TrodAll enc Try.prog W 0 (fun _ => true) true Try.f4.params.toList args.toList ds p := hA0
  rw [Try.params4] at hA hval
  obtain ⟨v0, vs0, d0, ds0, p0, q0, hargs, rfl, rfl, h0, r0⟩ := trodAll_cons hA
  obtain ⟨rfl, rfl, rfl⟩ := trodAll_nil r0
  obtain rfl : args = #[v0] := by cases args; simp_all
  obtain ⟨rfl, rfl⟩ := trodVars_none hV
  have k0 := h0
  have lt0 : ∀ x ∈ p0, x.block < W.heap.size := by obtain ⟨m, hm⟩ := k0; exact DataW.trod_lt m _ _ _ hm
  obtain ⟨a0, len0, cap0, rfl⟩ := okWide_slice Try.underlying38 (hval 0 38 v0 rfl rfl)
  obtain ⟨fu0, hf0⟩ := h0
  obtain ⟨dd0, ty0, re0⟩ := reads_of_trod _ okS fu0 _ _ _ (by decide) hf0
  clear hA0 hval0
  refine (walk _ _ _ dd0 fu0 ty0 W hsh re0).mono fun e W' ⟨he, bel⟩ => ?_
  subst he
  exact ⟨_, rfl, _, _, _, [], _, [], hW', trodAll_mk1 (shut_bool Try.underlying4 _), (trodAll_cons_mk (Below.trod laidOut (by kernel_rfl) (of_decide_eq_true (by kernel_rfl)) k0 bel lt0) trodAll_mk0), rfl, bel.frame _, fun h => by cases h⟩

theorem over : Rows.fnExactEncodeTemplatesRow.holds Try.pinned (OpenSpec.ofChange Rows.fnExactEncodeTemplatesSpec) :=
  OpenClaim.holds_of_wide 4 Try.f4 rfl rfl rfl rfl rfl rfl rfl ⟨rfl, rfl, rfl, rfl, rfl⟩ rfl rfl rfl rfl rfl (by kernel_rfl) Try.func4 closed
    (of_decide_eq_true (by kernel_rfl)) (by unfold Func.isWrapper; first | (rw [if_pos (by decide +kernel)]; kernel_rfl) | (rw [if_neg (by decide +kernel)]; exact ⟨rfl, rfl⟩))
    (fun os started H enc _ => lifted os started H enc)

/-- THE STATEMENT. -/
theorem proved : Rows.FnExactEncodeTemplatesSaid := over

end Go.Proofs.Ytocpkbclcnjejaa.lawEncodeTemplates
