/-
  The statement FnExactSameService: what reads at a law's type is a datum, the walk, the plain law, the row's frame. Printed by wip/ab/genlaw.py.
-/
import Derived.Test.YtffokcfdkkikmaaRows
import Derived.Test.YtffokcfdkkikmaaWlkLV
import Derived.Test.YtffokcfdkkikmaaAbZ
import Derived.Test.YtffokcfdkkikmaaFacts
import Derived.Test.YtffokcfdkkikmaaFcSameService
import Derived.Test.YtffokcfdkkikmaaPqSameService
namespace Go.Proofs.Ytffokcfdkkikmaa.lawSameService
set_option linter.unusedVariables false
set_option linter.unusedSimpArgs false
open Go.ChangeShapes Go.WideShapes Go.ChangeAt Go.RowKit Go.Proofs.Ytffokcfdkkikmaa Go.Proofs.Ytffokcfdkkikmaa.Ab
open Go.ChangeMaps (open_string shut_string)

theorem typed_Address (n : Nat) (ds : List Go.Proofs.Ytffokcfdkkikmaa.D) (h : Typed Try.prog n 67 ds) : ∃ x : Ab.Address, cvC ds = x.ds := by
  obtain ⟨m0, hm0, h⟩ := typed_st Try.underlying67 h
  simp only [Parts] at h
  obtain ⟨d1, r1, h1, ⟨d2, r2, h2, ⟨d3, r3, h3, rfl, rfl⟩, rfl⟩, rfl⟩ := h
  obtain ⟨z1, rfl⟩ := typed_int Try.underlying2 h1
  obtain ⟨z2, rfl⟩ := typed_int Try.underlying2 h2
  obtain ⟨z3, rfl⟩ := typed_int Try.underlying2 h3
  refine ⟨⟨z1, z2, z3⟩, ?_⟩
  rw [Ab.Address.ds_eq]
  simp only [cvC_append, cvC, cv, List.cons_append, List.nil_append, List.append_nil]

theorem typed_ShardCell (n : Nat) (ds : List Go.Proofs.Ytffokcfdkkikmaa.D) (h : Typed Try.prog n 374 ds) : ∃ x : Ab.ShardCell, cvC ds = x.ds := by
  obtain ⟨m0, hm0, h⟩ := typed_st Try.underlying374 h
  simp only [Parts] at h
  obtain ⟨d1, r1, h1, ⟨d2, r2, h2, ⟨d3, r3, h3, ⟨d4, r4, h4, ⟨d5, r5, h5, rfl, rfl⟩, rfl⟩, rfl⟩, rfl⟩, rfl⟩ := h
  obtain ⟨z1, rfl⟩ := typed_int Try.underlying2 h1
  obtain ⟨z2, rfl⟩ := typed_int Try.underlying2 h2
  obtain ⟨z3, rfl⟩ := typed_int Try.underlying2 h3
  obtain ⟨z4, ez4⟩ := typed_sl i64D Try.underlying22 (fun m x hm hx => by obtain ⟨z, rfl⟩ := typed_int Try.underlying2 hx; exact ⟨z, rfl⟩) h4
  obtain ⟨z5, ez5⟩ := typed_sl Ab.Address.ds Try.underlying372 (fun m x hm hx => typed_Address m x hx) h5
  refine ⟨⟨z1, z2, z3, z4, z5⟩, ?_⟩
  rw [Ab.ShardCell.ds_eq]
  simp only [cvC_append, ez4, ez5, cvC, cv, List.cons_append, List.nil_append, List.append_nil]

theorem typed_ShardVar (n : Nat) (ds : List Go.Proofs.Ytffokcfdkkikmaa.D) (h : Typed Try.prog n 456 ds) : ∃ x : Ab.ShardVar, cvC ds = x.ds := by
  obtain ⟨m0, hm0, h⟩ := typed_st Try.underlying456 h
  simp only [Parts] at h
  obtain ⟨d1, r1, h1, ⟨d2, r2, h2, ⟨d3, r3, h3, rfl, rfl⟩, rfl⟩, rfl⟩ := h
  obtain ⟨z1, rfl⟩ := typed_bool Try.underlying4 h1
  obtain ⟨z2, rfl⟩ := typed_bool Try.underlying4 h2
  obtain ⟨z3, ez3⟩ := typed_Address _ _ h3
  refine ⟨⟨z1, z2, z3⟩, ?_⟩
  rw [Ab.ShardVar.ds_eq]
  simp only [cvC_append, ez3, Ab.Address.ds_eq, cvC, cv, List.cons_append, List.nil_append, List.append_nil]

theorem typed_ShardRedex (n : Nat) (ds : List Go.Proofs.Ytffokcfdkkikmaa.D) (h : Typed Try.prog n 459 ds) : ∃ x : Ab.ShardRedex, cvC ds = x.ds := by
  obtain ⟨m0, hm0, h⟩ := typed_st Try.underlying459 h
  simp only [Parts] at h
  obtain ⟨d1, r1, h1, ⟨d2, r2, h2, rfl, rfl⟩, rfl⟩ := h
  obtain ⟨z1, ez1⟩ := typed_Address _ _ h1
  obtain ⟨z2, ez2⟩ := typed_Address _ _ h2
  refine ⟨⟨z1, z2⟩, ?_⟩
  rw [Ab.ShardRedex.ds_eq]
  simp only [cvC_append, ez1, ez2, Ab.Address.ds_eq, cvC, cv, List.cons_append, List.nil_append, List.append_nil]

theorem typed_Shard (n : Nat) (ds : List Go.Proofs.Ytffokcfdkkikmaa.D) (h : Typed Try.prog n 370 ds) : ∃ x : Ab.Shard, cvC ds = x.ds := by
  obtain ⟨m0, hm0, h⟩ := typed_st Try.underlying370 h
  simp only [Parts] at h
  obtain ⟨d1, r1, h1, ⟨d2, r2, h2, ⟨d3, r3, h3, rfl, rfl⟩, rfl⟩, rfl⟩ := h
  obtain ⟨z1, ez1⟩ := typed_sl Ab.ShardCell.ds Try.underlying366 (fun m x hm hx => typed_ShardCell m x hx) h1
  obtain ⟨z2, ez2⟩ := typed_sl Ab.ShardVar.ds Try.underlying367 (fun m x hm hx => typed_ShardVar m x hx) h2
  obtain ⟨z3, ez3⟩ := typed_sl Ab.ShardRedex.ds Try.underlying368 (fun m x hm hx => typed_ShardRedex m x hx) h3
  refine ⟨⟨z1, z2, z3⟩, ?_⟩
  rw [Ab.Shard.ds_eq]
  simp only [cvC_append, ez1, ez2, ez3, cvC, cv, List.cons_append, List.nil_append, List.append_nil]

theorem typed_Grid (n : Nat) (ds : List Go.Proofs.Ytffokcfdkkikmaa.D) (h : Typed Try.prog n 69 ds) : ∃ x : Ab.Grid, cvC ds = x.ds := by
  obtain ⟨m0, hm0, h⟩ := typed_st Try.underlying69 h
  simp only [Parts] at h
  obtain ⟨d1, r1, h1, ⟨d2, r2, h2, rfl, rfl⟩, rfl⟩ := h
  obtain ⟨z1, ez1⟩ := typed_sl Ab.Shard.ds Try.underlying65 (fun m x hm hx => typed_Shard m x hx) h1
  obtain ⟨z2, ez2⟩ := typed_Address _ _ h2
  refine ⟨⟨z1, z2⟩, ?_⟩
  rw [Ab.Grid.ds_eq]
  simp only [cvC_append, ez1, ez2, Ab.Address.ds_eq, cvC, cv, List.cons_append, List.nil_append, List.append_nil]

theorem typed_Parcel (n : Nat) (ds : List Go.Proofs.Ytffokcfdkkikmaa.D) (h : Typed Try.prog n 376 ds) : ∃ x : Ab.Parcel, cvC ds = x.ds := by
  obtain ⟨m0, hm0, h⟩ := typed_st Try.underlying376 h
  simp only [Parts] at h
  obtain ⟨d1, r1, h1, ⟨d2, r2, h2, ⟨d3, r3, h3, ⟨d4, r4, h4, rfl, rfl⟩, rfl⟩, rfl⟩, rfl⟩ := h
  obtain ⟨z1, rfl⟩ := typed_int Try.underlying2 h1
  obtain ⟨z2, ez2⟩ := typed_ShardCell _ _ h2
  obtain ⟨z3, ez3⟩ := typed_Address _ _ h3
  obtain ⟨z4, ez4⟩ := typed_Address _ _ h4
  refine ⟨⟨z1, z2, z3, z4⟩, ?_⟩
  rw [Ab.Parcel.ds_eq]
  simp only [cvC_append, ez2, ez3, ez4, Ab.Address.ds_eq, Ab.ShardCell.ds_eq, cvC, cv, List.cons_append, List.nil_append, List.append_nil]

theorem typed_Cluster (n : Nat) (ds : List Go.Proofs.Ytffokcfdkkikmaa.D) (h : Typed Try.prog n 73 ds) : ∃ x : Ab.Cluster, cvC ds = x.ds := by
  obtain ⟨m0, hm0, h⟩ := typed_st Try.underlying73 h
  simp only [Parts] at h
  obtain ⟨d1, r1, h1, ⟨d2, r2, h2, ⟨d3, r3, h3, ⟨d4, r4, h4, ⟨d5, r5, h5, rfl, rfl⟩, rfl⟩, rfl⟩, rfl⟩, rfl⟩ := h
  obtain ⟨z1, ez1⟩ := typed_Grid _ _ h1
  obtain ⟨z2, ez2⟩ := typed_sl (slD Ab.Parcel.ds) Try.underlying70 (fun m x hm hx => by obtain ⟨z, hz⟩ := typed_sl Ab.Parcel.ds Try.underlying316 (fun m x hm hx => typed_Parcel m x hx) hx; exact ⟨z, by rw [hz]; rfl⟩) h2
  obtain ⟨z3, ez3⟩ := typed_sl (slD i64D) Try.underlying71 (fun m x hm hx => by obtain ⟨z, hz⟩ := typed_sl i64D Try.underlying22 (fun m x hm hx => by obtain ⟨z, rfl⟩ := typed_int Try.underlying2 hx; exact ⟨z, rfl⟩) hx; exact ⟨z, by rw [hz]; rfl⟩) h3
  obtain ⟨z4, ez4⟩ := typed_sl i64D Try.underlying22 (fun m x hm hx => by obtain ⟨z, rfl⟩ := typed_int Try.underlying2 hx; exact ⟨z, rfl⟩) h4
  obtain ⟨z5, ez5⟩ := typed_sl i64D Try.underlying22 (fun m x hm hx => by obtain ⟨z, rfl⟩ := typed_int Try.underlying2 hx; exact ⟨z, rfl⟩) h5
  refine ⟨⟨z1, z2, z3, z4, z5⟩, ?_⟩
  rw [Ab.Cluster.ds_eq]
  simp only [cvC_append, ez1, ez2, ez3, ez4, ez5, Ab.Grid.ds_eq, cvC, cv, List.cons_append, List.nil_append, List.append_nil]

theorem typed_Shot (n : Nat) (ds : List Go.Proofs.Ytffokcfdkkikmaa.D) (h : Typed Try.prog n 76 ds) : ∃ x : Ab.Shot, cvC ds = x.ds := by
  obtain ⟨m0, hm0, h⟩ := typed_st Try.underlying76 h
  simp only [Parts] at h
  obtain ⟨d1, r1, h1, ⟨d2, r2, h2, ⟨d3, r3, h3, ⟨d4, r4, h4, ⟨d5, r5, h5, rfl, rfl⟩, rfl⟩, rfl⟩, rfl⟩, rfl⟩ := h
  obtain ⟨z1, ez1⟩ := typed_sl boolD Try.underlying74 (fun m x hm hx => by obtain ⟨z, rfl⟩ := typed_bool Try.underlying4 hx; exact ⟨z, rfl⟩) h1
  obtain ⟨z2, ez2⟩ := typed_sl Ab.Shard.ds Try.underlying65 (fun m x hm hx => typed_Shard m x hx) h2
  obtain ⟨z3, ez3⟩ := typed_sl (slD i64D) Try.underlying71 (fun m x hm hx => by obtain ⟨z, hz⟩ := typed_sl i64D Try.underlying22 (fun m x hm hx => by obtain ⟨z, rfl⟩ := typed_int Try.underlying2 hx; exact ⟨z, rfl⟩) hx; exact ⟨z, by rw [hz]; rfl⟩) h3
  obtain ⟨z4, ez4⟩ := typed_sl boolD Try.underlying74 (fun m x hm hx => by obtain ⟨z, rfl⟩ := typed_bool Try.underlying4 hx; exact ⟨z, rfl⟩) h4
  obtain ⟨z5, ez5⟩ := typed_sl (slD Ab.Parcel.ds) Try.underlying70 (fun m x hm hx => by obtain ⟨z, hz⟩ := typed_sl Ab.Parcel.ds Try.underlying316 (fun m x hm hx => typed_Parcel m x hx) hx; exact ⟨z, by rw [hz]; rfl⟩) h5
  refine ⟨⟨z1, z2, z3, z4, z5⟩, ?_⟩
  rw [Ab.Shot.ds_eq]
  simp only [cvC_append, ez1, ez2, ez3, ez4, ez5, cvC, cv, List.cons_append, List.nil_append, List.append_nil]

theorem typed_Watched (n : Nat) (ds : List Go.Proofs.Ytffokcfdkkikmaa.D) (h : Typed Try.prog n 78 ds) : ∃ x : Ab.Watched, cvC ds = x.ds := by
  obtain ⟨m0, hm0, h⟩ := typed_st Try.underlying78 h
  simp only [Parts] at h
  obtain ⟨d1, r1, h1, ⟨d2, r2, h2, rfl, rfl⟩, rfl⟩ := h
  obtain ⟨z1, ez1⟩ := typed_Cluster _ _ h1
  obtain ⟨z2, ez2⟩ := typed_Shot _ _ h2
  refine ⟨⟨z1, z2⟩, ?_⟩
  rw [Ab.Watched.ds_eq]
  simp only [cvC_append, ez1, ez2, Ab.Cluster.ds_eq, Ab.Shot.ds_eq, cvC, cv, List.cons_append, List.nil_append, List.append_nil]

theorem typed_Service (n : Nat) (ds : List Go.Proofs.Ytffokcfdkkikmaa.D) (h : Typed Try.prog n 80 ds) : ∃ x : Ab.Service, cvC ds = x.ds := by
  obtain ⟨m0, hm0, h⟩ := typed_st Try.underlying80 h
  simp only [Parts] at h
  obtain ⟨d1, r1, h1, ⟨d2, r2, h2, ⟨d3, r3, h3, ⟨d4, r4, h4, rfl, rfl⟩, rfl⟩, rfl⟩, rfl⟩ := h
  obtain ⟨z1, ez1⟩ := typed_Watched _ _ h1
  obtain ⟨z2, ez2⟩ := typed_Cluster _ _ h2
  obtain ⟨z3, rfl⟩ := typed_int Try.underlying2 h3
  obtain ⟨z4, rfl⟩ := typed_int Try.underlying2 h4
  refine ⟨⟨z1, z2, z3, z4⟩, ?_⟩
  rw [Ab.Service.ds_eq]
  simp only [cvC_append, ez1, ez2, Ab.Cluster.ds_eq, Ab.Watched.ds_eq, cvC, cv, List.cons_append, List.nil_append, List.append_nil]

theorem walk (cs0 : Array Value) (dd0 : List Go.Proofs.Ytffokcfdkkikmaa.D) (n0 : Nat) (ht0 : Typed Try.prog n0 80 dd0) (cs1 : Array Value) (dd1 : List Go.Proofs.Ytffokcfdkkikmaa.D) (n1 : Nat) (ht1 : Typed Try.prog n1 80 dd1) (w : World) (hsh : w.ShapedOpen Try.prog) (h0 : Go.Proofs.Ytffokcfdkkikmaa.Reps w dd0 (Value.agg cs0).cells.toList) (h1 : Go.Proofs.Ytffokcfdkkikmaa.Reps w dd1 (Value.agg cs1).cells.toList) :
    Calls Try.prog 7 #[.agg cs0, .agg cs1] w fun e w' => e = .returned (.bool true) ∧ Below w.heap.size w w' := by
  obtain ⟨y0, ey0⟩ := typed_Service _ _ ht0
  obtain ⟨hv0, hk0⟩ := vsims_of h0
  rw [ey0] at hv0 hk0
  have ha0 : (List.map ofD y0.ds) = y0.avs := by rw [Ab.Service.ds_eq]; rfl
  rw [ha0] at hv0
  obtain ⟨y1, ey1⟩ := typed_Service _ _ ht1
  obtain ⟨hv1, hk1⟩ := vsims_of h1
  rw [ey1] at hv1 hk1
  have ha1 : (List.map ofD y1.ds) = y1.avs := by rw [Ab.Service.ds_eq]; rfl
  rw [ha1] at hv1
  have hl := l_FnExactSameService_ok _ _ _ (SameService_plain y0 hk0 y1 hk1)
  refine law_calls hl hsh (by kernel_rfl) ?_
  simp only [VSims]
  exact ⟨_, _, rfl, vsim_agg hv0, ⟨_, _, rfl, vsim_agg hv1, rfl⟩⟩

theorem own : ownKnob Try.prog.godebug = none := by kernel_rfl
theorem laidOut : laidOutB Try.prog = true := by kernel_rfl
theorem okS : okTypes Try.prog [80, 78, 73, 69, 65, 370, 366, 374, 2, 22, 372, 67, 367, 456, 4, 368, 459, 70, 316, 376, 71, 76, 74] = true := by kernel_rfl
set_option maxRecDepth 100000 in
theorem lifted (os : Os) (started : os.Started) (H : Type) (enc : TypeId × Value → H) :
    ReturnsInHanded {} Try.checked os 7 .any (Rows.fnExactSameServiceSpec.pre6 enc Try.prog Try.f7 Rows.fnExactSameServiceRow.domain false) (Rows.fnExactSameServiceSpec.post enc Try.prog Try.f7 false true false false) := by
  refine returnsInHanded_of_change_shaped (C := Try.checked) own started (by kernel_rfl) Try.func7
    (ChangeSpec.witness6 (enc := enc) (C := Try.checked) false ⟨#[], #[.agg #[.slice none 0 0, .int .i64 0, .int .i64 0, .int .i64 0, .slice none 0 0, .slice none 0 0, .slice none 0 0, .slice none 0 0, .slice none 0 0, .slice none 0 0, .slice none 0 0, .slice none 0 0, .slice none 0 0, .slice none 0 0, .int .i64 0, .int .i64 0, .int .i64 0, .slice none 0 0, .slice none 0 0, .slice none 0 0, .slice none 0 0, .int .i64 0, .int .i64 0], .agg #[.slice none 0 0, .int .i64 0, .int .i64 0, .int .i64 0, .slice none 0 0, .slice none 0 0, .slice none 0 0, .slice none 0 0, .slice none 0 0, .slice none 0 0, .slice none 0 0, .slice none 0 0, .slice none 0 0, .slice none 0 0, .int .i64 0, .int .i64 0, .int .i64 0, .slice none 0 0, .slice none 0 0, .slice none 0 0, .slice none 0 0, .int .i64 0, .int .i64 0]], []⟩ 8 (by kernel_rfl) (by kernel_rfl) (by kernel_rfl) (by kernel_rfl)) ?_
  intro W base args ds gs before hval0 hW hcnd _ hsh _
  have hval : ∀ (j : Nat) t v, Try.f7.params[j]? = some t → args[j]? = some v → Value.okWide Try.prog W .any base t v := hval0
  have hW' := hW
  obtain ⟨p, q, hA0, hV, rfl, hfz, hnd⟩ := hW
  have hA : DataW.TrodAll enc Try.prog W 0 (fun _ => true) true Try.f7.params.toList args.toList ds p := hA0
  rw [Try.params7] at hA hval
  obtain ⟨v0, vs0, d0, ds0, p0, q0, hargs, rfl, rfl, h0, r0⟩ := trodAll_cons hA
  obtain ⟨v1, vs1, d1, ds1, p1, q1, rfl, rfl, rfl, h1, r1⟩ := trodAll_cons r0
  obtain ⟨rfl, rfl, rfl⟩ := trodAll_nil r1
  obtain rfl : args = #[v0, v1] := by cases args; simp_all
  obtain ⟨rfl, rfl⟩ := trodVars_none hV
  have k0 := h0
  have lt0 : ∀ x ∈ p0, x.block < W.heap.size := by obtain ⟨m, hm⟩ := k0; exact DataW.trod_lt m _ _ _ hm
  obtain ⟨cs0, rfl, -, -⟩ := agg_of_okWide (by kernel_rfl) (hval 0 80 v0 rfl rfl)
  obtain ⟨fu0, hf0⟩ := h0
  obtain ⟨dd0, ty0, re0⟩ := reads_of_trod _ okS fu0 _ _ _ (by decide) hf0
  have k1 := h1
  have lt1 : ∀ x ∈ p1, x.block < W.heap.size := by obtain ⟨m, hm⟩ := k1; exact DataW.trod_lt m _ _ _ hm
  obtain ⟨cs1, rfl, -, -⟩ := agg_of_okWide (by kernel_rfl) (hval 1 80 v1 rfl rfl)
  obtain ⟨fu1, hf1⟩ := h1
  obtain ⟨dd1, ty1, re1⟩ := reads_of_trod _ okS fu1 _ _ _ (by decide) hf1
  clear hA0 hval0
  refine (walk _ dd0 fu0 ty0 _ dd1 fu1 ty1 W hsh re0 re1).mono fun e W' ⟨he, bel⟩ => ?_
  subst he
  exact ⟨_, rfl, _, _, _, [], _, [], hW', trodAll_mk1 (shut_bool Try.underlying4 _), (trodAll_cons_mk (Below.trod laidOut (by kernel_rfl) (of_decide_eq_true (by kernel_rfl)) k0 bel lt0) (trodAll_cons_mk (Below.trod laidOut (by kernel_rfl) (of_decide_eq_true (by kernel_rfl)) k1 bel lt1) trodAll_mk0)), rfl, bel.frame _, fun h => by cases h⟩

theorem over : Rows.fnExactSameServiceRow.holds Try.pinned (OpenSpec.ofChange Rows.fnExactSameServiceSpec) :=
  OpenClaim.holds_of_wide 7 Try.f7 rfl rfl rfl rfl rfl rfl rfl ⟨rfl, rfl, rfl, rfl, rfl⟩ rfl rfl rfl rfl rfl (by kernel_rfl) Try.func7 closed
    (of_decide_eq_true (by kernel_rfl)) (by unfold Func.isWrapper; first | (rw [if_pos (by decide +kernel)]; kernel_rfl) | (rw [if_neg (by decide +kernel)]; exact ⟨rfl, rfl⟩))
    (fun os started H enc _ => lifted os started H enc)

/-- THE STATEMENT. -/
theorem proved : Rows.FnExactSameServiceSaid := over

end Go.Proofs.Ytffokcfdkkikmaa.lawSameService
