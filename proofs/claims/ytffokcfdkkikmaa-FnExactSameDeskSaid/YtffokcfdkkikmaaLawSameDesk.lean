/-
  The statement FnExactSameDesk: what reads at a law's type is a datum, the walk, the plain law, the row's frame. Printed by wip/ab/genlaw.py.
-/
import Derived.Test.YtffokcfdkkikmaaRows
import Derived.Test.YtffokcfdkkikmaaWlkD
import Derived.Test.YtffokcfdkkikmaaAbZ
import Derived.Test.YtffokcfdkkikmaaFacts
import Derived.Test.YtffokcfdkkikmaaPqSameDesk
namespace Go.Proofs.Ytffokcfdkkikmaa.lawSameDesk
set_option linter.unusedVariables false
set_option linter.unusedSimpArgs false
open Go.ChangeShapes Go.WideShapes Go.ChangeAt Go.RowKit Go.Proofs.Ytffokcfdkkikmaa Go.Proofs.Ytffokcfdkkikmaa.Ab
open Go.ChangeMaps (open_string shut_string)

theorem typed_TType : ∀ (n : Nat) (ds : List Go.Proofs.Ytffokcfdkkikmaa.D), Typed Try.prog n 297 ds → ∃ x : Ab.TType, cvC ds = x.ds := by
  intro n
  induction n using Nat.strongRecOn with
  | ind n ih =>
    intro ds h
    obtain ⟨m0, hm0, h⟩ := typed_st Try.underlying297 h
    simp only [Parts] at h
    obtain ⟨d1, r1, h1, ⟨d2, r2, h2, ⟨d3, r3, h3, rfl, rfl⟩, rfl⟩, rfl⟩ := h
    obtain ⟨z1, rfl⟩ := typed_int Try.underlying2 h1
    obtain ⟨z2, rfl⟩ := typed_str Try.underlying9 h2
    obtain ⟨z3, ez3⟩ := typed_sl Ab.TType.ds Try.underlying295 (fun m x hm hx => ih m (Nat.lt_trans hm hm0) x hx) h3
    refine ⟨⟨z1, z2, z3⟩, ?_⟩
    rw [Ab.TType.ds_eq]
    simp only [cvC_append, ez3, cvC, cv, List.cons_append, List.nil_append, List.append_nil]

theorem typed_Constructor (n : Nat) (ds : List Go.Proofs.Ytffokcfdkkikmaa.D) (h : Typed Try.prog n 418 ds) : ∃ x : Ab.Constructor, cvC ds = x.ds := by
  obtain ⟨m0, hm0, h⟩ := typed_st Try.underlying418 h
  simp only [Parts] at h
  obtain ⟨d1, r1, h1, ⟨d2, r2, h2, rfl, rfl⟩, rfl⟩ := h
  obtain ⟨z1, rfl⟩ := typed_str Try.underlying9 h1
  obtain ⟨z2, ez2⟩ := typed_sl Ab.TType.ds Try.underlying295 (fun m x hm hx => typed_TType m x hx) h2
  refine ⟨⟨z1, z2⟩, ?_⟩
  rw [Ab.Constructor.ds_eq]
  simp only [cvC_append, ez2, cvC, cv, List.cons_append, List.nil_append, List.append_nil]

theorem typed_Data (n : Nat) (ds : List Go.Proofs.Ytffokcfdkkikmaa.D) (h : Typed Try.prog n 293 ds) : ∃ x : Ab.Data, cvC ds = x.ds := by
  obtain ⟨m0, hm0, h⟩ := typed_st Try.underlying293 h
  simp only [Parts] at h
  obtain ⟨d1, r1, h1, ⟨d2, r2, h2, rfl, rfl⟩, rfl⟩ := h
  obtain ⟨z1, rfl⟩ := typed_str Try.underlying9 h1
  obtain ⟨z2, ez2⟩ := typed_sl Ab.Constructor.ds Try.underlying291 (fun m x hm hx => typed_Constructor m x hx) h2
  refine ⟨⟨z1, z2⟩, ?_⟩
  rw [Ab.Data.ds_eq]
  simp only [cvC_append, ez2, cvC, cv, List.cons_append, List.nil_append, List.append_nil]

theorem typed_Term : ∀ (n : Nat) (ds : List Go.Proofs.Ytffokcfdkkikmaa.D), Typed Try.prog n 300 ds → ∃ x : Ab.Term, cvC ds = x.ds := by
  intro n
  induction n using Nat.strongRecOn with
  | ind n ih =>
    intro ds h
    obtain ⟨m0, hm0, h⟩ := typed_st Try.underlying300 h
    simp only [Parts] at h
    obtain ⟨d1, r1, h1, ⟨d2, r2, h2, ⟨d3, r3, h3, ⟨d4, r4, h4, ⟨d5, r5, h5, ⟨d6, r6, h6, rfl, rfl⟩, rfl⟩, rfl⟩, rfl⟩, rfl⟩, rfl⟩ := h
    obtain ⟨z1, rfl⟩ := typed_int Try.underlying2 h1
    obtain ⟨z2, rfl⟩ := typed_int Try.underlying2 h2
    obtain ⟨z3, rfl⟩ := typed_str Try.underlying9 h3
    obtain ⟨z4, ez4⟩ := typed_TType _ _ h4
    obtain ⟨z5, ez5⟩ := typed_sl strD Try.underlying223 (fun m x hm hx => by obtain ⟨z, rfl⟩ := typed_str Try.underlying9 hx; exact ⟨z, rfl⟩) h5
    obtain ⟨z6, ez6⟩ := typed_sl Ab.Term.ds Try.underlying298 (fun m x hm hx => ih m (Nat.lt_trans hm hm0) x hx) h6
    refine ⟨⟨z1, z2, z3, z4, z5, z6⟩, ?_⟩
    rw [Ab.Term.ds_eq]
    simp only [cvC_append, ez4, ez5, ez6, Ab.TType.ds_eq, cvC, cv, List.cons_append, List.nil_append, List.append_nil]

theorem typed_Def (n : Nat) (ds : List Go.Proofs.Ytffokcfdkkikmaa.D) (h : Typed Try.prog n 302 ds) : ∃ x : Ab.Def, cvC ds = x.ds := by
  obtain ⟨m0, hm0, h⟩ := typed_st Try.underlying302 h
  simp only [Parts] at h
  obtain ⟨d1, r1, h1, ⟨d2, r2, h2, ⟨d3, r3, h3, rfl, rfl⟩, rfl⟩, rfl⟩ := h
  obtain ⟨z1, rfl⟩ := typed_str Try.underlying9 h1
  obtain ⟨z2, ez2⟩ := typed_TType _ _ h2
  obtain ⟨z3, ez3⟩ := typed_Term _ _ h3
  refine ⟨⟨z1, z2, z3⟩, ?_⟩
  rw [Ab.Def.ds_eq]
  simp only [cvC_append, ez2, ez3, Ab.TType.ds_eq, Ab.Term.ds_eq, cvC, cv, List.cons_append, List.nil_append, List.append_nil]

theorem typed_TProgram (n : Nat) (ds : List Go.Proofs.Ytffokcfdkkikmaa.D) (h : Typed Try.prog n 52 ds) : ∃ x : Ab.TProgram, cvC ds = x.ds := by
  obtain ⟨m0, hm0, h⟩ := typed_st Try.underlying52 h
  simp only [Parts] at h
  obtain ⟨d1, r1, h1, ⟨d2, r2, h2, rfl, rfl⟩, rfl⟩ := h
  obtain ⟨z1, ez1⟩ := typed_sl Ab.Data.ds Try.underlying49 (fun m x hm hx => typed_Data m x hx) h1
  obtain ⟨z2, ez2⟩ := typed_sl Ab.Def.ds Try.underlying50 (fun m x hm hx => typed_Def m x hx) h2
  refine ⟨⟨z1, z2⟩, ?_⟩
  rw [Ab.TProgram.ds_eq]
  simp only [cvC_append, ez1, ez2, cvC, cv, List.cons_append, List.nil_append, List.append_nil]

theorem typed_Desk (n : Nat) (ds : List Go.Proofs.Ytffokcfdkkikmaa.D) (h : Typed Try.prog n 54 ds) : ∃ x : Ab.Desk, cvC ds = x.ds := by
  obtain ⟨m0, hm0, h⟩ := typed_st Try.underlying54 h
  simp only [Parts] at h
  obtain ⟨d1, r1, h1, ⟨d2, r2, h2, ⟨d3, r3, h3, ⟨d4, r4, h4, rfl, rfl⟩, rfl⟩, rfl⟩, rfl⟩ := h
  obtain ⟨z1, rfl⟩ := typed_bool Try.underlying4 h1
  obtain ⟨z2, ez2⟩ := typed_TProgram _ _ h2
  obtain ⟨z3, ez3⟩ := typed_sl i64D Try.underlying22 (fun m x hm hx => by obtain ⟨z, rfl⟩ := typed_int Try.underlying2 hx; exact ⟨z, rfl⟩) h3
  obtain ⟨z4, rfl⟩ := typed_int Try.underlying2 h4
  refine ⟨⟨z1, z2, z3, z4⟩, ?_⟩
  rw [Ab.Desk.ds_eq]
  simp only [cvC_append, ez2, ez3, Ab.TProgram.ds_eq, cvC, cv, List.cons_append, List.nil_append, List.append_nil]

theorem walk (cs0 : Array Value) (dd0 : List Go.Proofs.Ytffokcfdkkikmaa.D) (n0 : Nat) (ht0 : Typed Try.prog n0 54 dd0) (cs1 : Array Value) (dd1 : List Go.Proofs.Ytffokcfdkkikmaa.D) (n1 : Nat) (ht1 : Typed Try.prog n1 54 dd1) (w : World) (hsh : w.ShapedOpen Try.prog) (h0 : Go.Proofs.Ytffokcfdkkikmaa.Reps w dd0 (Value.agg cs0).cells.toList) (h1 : Go.Proofs.Ytffokcfdkkikmaa.Reps w dd1 (Value.agg cs1).cells.toList) :
    Calls Try.prog 6 #[.agg cs0, .agg cs1] w fun e w' => e = .returned (.bool true) ∧ Below w.heap.size w w' := by
  obtain ⟨y0, ey0⟩ := typed_Desk _ _ ht0
  obtain ⟨hv0, hk0⟩ := vsims_of h0
  rw [ey0] at hv0 hk0
  have ha0 : (List.map ofD y0.ds) = y0.avs := by rw [Ab.Desk.ds_eq]; rfl
  rw [ha0] at hv0
  obtain ⟨y1, ey1⟩ := typed_Desk _ _ ht1
  obtain ⟨hv1, hk1⟩ := vsims_of h1
  rw [ey1] at hv1 hk1
  have ha1 : (List.map ofD y1.ds) = y1.avs := by rw [Ab.Desk.ds_eq]; rfl
  rw [ha1] at hv1
  have hl := l_FnExactSameDesk_ok _ _ _ (SameDesk_plain y0 hk0 y1 hk1)
  refine law_calls hl hsh (by kernel_rfl) ?_
  simp only [VSims]
  exact ⟨_, _, rfl, vsim_agg hv0, ⟨_, _, rfl, vsim_agg hv1, rfl⟩⟩

theorem own : ownKnob Try.prog.godebug = none := by kernel_rfl
theorem laidOut : laidOutB Try.prog = true := by kernel_rfl
theorem okS : okTypes Try.prog [54, 4, 52, 49, 293, 9, 291, 418, 295, 297, 2, 50, 302, 300, 223, 298, 22] = true := by kernel_rfl
set_option maxRecDepth 100000 in
theorem lifted (os : Os) (started : os.Started) (H : Type) (enc : TypeId × Value → H) :
    ReturnsInHanded {} Try.checked os 6 .any (Rows.fnExactSameDeskSpec.pre6 enc Try.prog Try.f6 Rows.fnExactSameDeskRow.domain false) (Rows.fnExactSameDeskSpec.post enc Try.prog Try.f6 false true false false) := by
  refine returnsInHanded_of_change_shaped (C := Try.checked) own started (by kernel_rfl) Try.func6
    (ChangeSpec.witness6 (enc := enc) (C := Try.checked) false ⟨#[], #[.agg #[.bool false, .slice none 0 0, .slice none 0 0, .slice none 0 0, .int .i64 0], .agg #[.bool false, .slice none 0 0, .slice none 0 0, .slice none 0 0, .int .i64 0]], []⟩ 8 (by kernel_rfl) (by kernel_rfl) (by kernel_rfl) (by kernel_rfl)) ?_
  intro W base args ds gs before hval0 hW hcnd _ hsh _
  have hval : ∀ (j : Nat) t v, Try.f6.params[j]? = some t → args[j]? = some v → Value.okWide Try.prog W .any base t v := hval0
  have hW' := hW
  obtain ⟨p, q, hA0, hV, rfl, hfz, hnd⟩ := hW
  have hA : DataW.TrodAll enc Try.prog W 0 (fun _ => true) true Try.f6.params.toList args.toList ds p := hA0
  rw [Try.params6] at hA hval
  obtain ⟨v0, vs0, d0, ds0, p0, q0, hargs, rfl, rfl, h0, r0⟩ := trodAll_cons hA
  obtain ⟨v1, vs1, d1, ds1, p1, q1, rfl, rfl, rfl, h1, r1⟩ := trodAll_cons r0
  obtain ⟨rfl, rfl, rfl⟩ := trodAll_nil r1
  obtain rfl : args = #[v0, v1] := by cases args; simp_all
  obtain ⟨rfl, rfl⟩ := trodVars_none hV
  have k0 := h0
  have lt0 : ∀ x ∈ p0, x.block < W.heap.size := by obtain ⟨m, hm⟩ := k0; exact DataW.trod_lt m _ _ _ hm
  obtain ⟨cs0, rfl, -, -⟩ := agg_of_okWide (by kernel_rfl) (hval 0 54 v0 rfl rfl)
  obtain ⟨fu0, hf0⟩ := h0
  obtain ⟨dd0, ty0, re0⟩ := reads_of_trod _ okS fu0 _ _ _ (by decide) hf0
  have k1 := h1
  have lt1 : ∀ x ∈ p1, x.block < W.heap.size := by obtain ⟨m, hm⟩ := k1; exact DataW.trod_lt m _ _ _ hm
  obtain ⟨cs1, rfl, -, -⟩ := agg_of_okWide (by kernel_rfl) (hval 1 54 v1 rfl rfl)
  obtain ⟨fu1, hf1⟩ := h1
  obtain ⟨dd1, ty1, re1⟩ := reads_of_trod _ okS fu1 _ _ _ (by decide) hf1
  clear hA0 hval0
  refine (walk _ dd0 fu0 ty0 _ dd1 fu1 ty1 W hsh re0 re1).mono fun e W' ⟨he, bel⟩ => ?_
  subst he
  exact ⟨_, rfl, _, _, _, [], _, [], hW', trodAll_mk1 (shut_bool Try.underlying4 _), (trodAll_cons_mk (Below.trod laidOut (by kernel_rfl) (of_decide_eq_true (by kernel_rfl)) k0 bel lt0) (trodAll_cons_mk (Below.trod laidOut (by kernel_rfl) (of_decide_eq_true (by kernel_rfl)) k1 bel lt1) trodAll_mk0)), rfl, bel.frame _, fun h => by cases h⟩

theorem closed : joinedFacts Try.checked.prog 6 Try.f6 Rows.fnExactSameDeskSpec Rows.fnExactSameDeskRow = true := by
  unfold joinedFacts
  exact (and_t (and_t (and_t (and_t (and_t (and_t (and_t (and_t (and_t (and_t (and_t (and_t (and_t (and_t (and_t (and_t (and_t (and_t (and_t (and_t (and_t (and_t (and_t (and_t (and_t (and_t (and_t (and_t (and_t (and_t (and_t (by kernel_rfl) (by kernel_rfl)) (by kernel_rfl)) (by kernel_rfl)) (by kernel_rfl)) (by kernel_rfl)) (by kernel_rfl)) (by kernel_rfl)) (by kernel_rfl)) (by kernel_rfl)) (by kernel_rfl)) (by kernel_rfl)) (by kernel_rfl)) (by kernel_rfl)) (by kernel_rfl)) (by kernel_rfl)) (by kernel_rfl)) (by kernel_rfl)) (by kernel_rfl)) (by kernel_rfl)) (by kernel_rfl)) (by kernel_rfl)) (by kernel_rfl)) (by kernel_rfl)) (by kernel_rfl)) mayEnter_t) lifts_t) make_t) (by kernel_rfl)) (by kernel_rfl)) (by kernel_rfl)) (by kernel_rfl))
theorem over : Rows.fnExactSameDeskRow.holds Try.pinned (OpenSpec.ofChange Rows.fnExactSameDeskSpec) :=
  OpenClaim.holds_of_wide 6 Try.f6 rfl rfl rfl rfl rfl rfl rfl ⟨rfl, rfl, rfl, rfl, rfl⟩ rfl rfl rfl rfl rfl (by kernel_rfl) Try.func6 closed
    (of_decide_eq_true (by kernel_rfl)) (by unfold Func.isWrapper; first | (rw [if_pos (by decide +kernel)]; kernel_rfl) | (rw [if_neg (by decide +kernel)]; exact ⟨rfl, rfl⟩))
    (fun os started H enc _ => lifted os started H enc)

/-- THE STATEMENT. -/
theorem proved : Rows.FnExactSameDeskSaid := over

end Go.Proofs.Ytffokcfdkkikmaa.lawSameDesk
