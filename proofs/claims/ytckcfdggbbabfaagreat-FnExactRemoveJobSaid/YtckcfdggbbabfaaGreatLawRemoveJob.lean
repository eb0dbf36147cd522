/-
  The statement FnExactRemoveJob: what reads at a law's type is a datum, the walk, the plain law, the row's frame. Printed by wip/ab/genlaw.py.
-/
import Derived.Test.YtckcfdggbbabfaaGreatRows
import Derived.Test.YtckcfdggbbabfaaGreatWlkR
import Derived.Test.YtckcfdggbbabfaaGreatAbZ
import Derived.Test.YtckcfdggbbabfaaGreatFacts
import Derived.Test.YtckcfdggbbabfaaGreatFcRemoveJob
import Derived.Test.YtckcfdggbbabfaaGreatPqRemoveJob
namespace Go.Proofs.YtckcfdggbbabfaaGreat.lawRemoveJob
set_option linter.unusedVariables false
set_option linter.unusedSimpArgs false
open Go.ChangeShapes Go.WideShapes Go.ChangeAt Go.RowKit Go.Proofs.YtckcfdggbbabfaaGreat Go.Proofs.YtckcfdggbbabfaaGreat.Ab
open Go.ChangeMaps (open_string shut_string)
theorem typed_Port (n : Nat) (ds : List Go.Proofs.YtckcfdggbbabfaaGreat.D) (h : Typed Tryz.prog n 243 ds) : ∃ x : Ab.Port, cvC ds = x.ds := by
 obtain ⟨m0, hm0, h⟩ := typed_st Tryz.underlying243 h
 simp only [Parts] at h
 obtain ⟨d1, r1, h1, ⟨d2, r2, h2, rfl, rfl⟩, rfl⟩ := h
 obtain ⟨z1, rfl⟩ := typed_int Tryz.underlying2 h1
 obtain ⟨z2, rfl⟩ := typed_int Tryz.underlying2 h2
 refine ⟨⟨z1, z2⟩, ?_⟩
 rw [Ab.Port.ds_eq]
 simp only [cvC_append, cvC, cv, List.cons_append, List.nil_append, List.append_nil]
theorem typed_Agent (n : Nat) (ds : List Go.Proofs.YtckcfdggbbabfaaGreat.D) (h : Typed Tryz.prog n 151 ds) : ∃ x : Ab.Agent, cvC ds = x.ds := by
 obtain ⟨m0, hm0, h⟩ := typed_st Tryz.underlying151 h
 simp only [Parts] at h
 obtain ⟨d1, r1, h1, ⟨d2, r2, h2, ⟨d3, r3, h3, ⟨d4, r4, h4, ⟨d5, r5, h5, rfl, rfl⟩, rfl⟩, rfl⟩, rfl⟩, rfl⟩ := h
 obtain ⟨z1, rfl⟩ := typed_int Tryz.underlying2 h1
 obtain ⟨z2, rfl⟩ := typed_int Tryz.underlying2 h2
 obtain ⟨z3, rfl⟩ := typed_int Tryz.underlying2 h3
 obtain ⟨z4, ez4⟩ := typed_sl i64D Tryz.underlying29 (fun m x hm hx => by obtain ⟨z, rfl⟩ := typed_int Tryz.underlying2 hx; exact ⟨z, rfl⟩) h4
 obtain ⟨z5, ez5⟩ := typed_sl Ab.Port.ds Tryz.underlying149 (fun m x hm hx => typed_Port m x hx) h5
 refine ⟨⟨z1, z2, z3, z4, z5⟩, ?_⟩
 rw [Ab.Agent.ds_eq]
 simp only [cvC_append, ez4, ez5, cvC, cv, List.cons_append, List.nil_append, List.append_nil]
theorem typed_Net (n : Nat) (ds : List Go.Proofs.YtckcfdggbbabfaaGreat.D) (h : Typed Tryz.prog n 28 ds) : ∃ x : Ab.Net, cvC ds = x.ds := by
 obtain ⟨m0, hm0, h⟩ := typed_st Tryz.underlying28 h
 simp only [Parts] at h
 obtain ⟨d1, r1, h1, rfl, rfl⟩ := h
 obtain ⟨z1, ez1⟩ := typed_sl Ab.Agent.ds Tryz.underlying26 (fun m x hm hx => typed_Agent m x hx) h1
 refine ⟨⟨z1⟩, ?_⟩
 rw [Ab.Net.ds_eq]
 simp only [cvC_append, ez1, cvC, cv, List.cons_append, List.nil_append, List.append_nil]
theorem typed_Job (n : Nat) (ds : List Go.Proofs.YtckcfdggbbabfaaGreat.D) (h : Typed Tryz.prog n 147 ds) : ∃ x : Ab.Job, cvC ds = x.ds := by
 obtain ⟨m0, hm0, h⟩ := typed_st Tryz.underlying147 h
 simp only [Parts] at h
 obtain ⟨d1, r1, h1, ⟨d2, r2, h2, ⟨d3, r3, h3, ⟨d4, r4, h4, ⟨d5, r5, h5, ⟨d6, r6, h6, ⟨d7, r7, h7, ⟨d8, r8, h8, ⟨d9, r9, h9, ⟨d10, r10, h10, rfl, rfl⟩, rfl⟩, rfl⟩, rfl⟩, rfl⟩, rfl⟩, rfl⟩, rfl⟩, rfl⟩, rfl⟩ := h
 obtain ⟨z1, rfl⟩ := typed_int Tryz.underlying2 h1
 obtain ⟨z2, rfl⟩ := typed_int Tryz.underlying2 h2
 obtain ⟨z3, rfl⟩ := typed_int Tryz.underlying2 h3
 obtain ⟨z4, rfl⟩ := typed_int Tryz.underlying2 h4
 obtain ⟨z5, rfl⟩ := typed_int Tryz.underlying2 h5
 obtain ⟨z6, rfl⟩ := typed_int Tryz.underlying2 h6
 obtain ⟨z7, ez7⟩ := typed_sl i64D Tryz.underlying29 (fun m x hm hx => by obtain ⟨z, rfl⟩ := typed_int Tryz.underlying2 hx; exact ⟨z, rfl⟩) h7
 obtain ⟨z8, ez8⟩ := typed_sl i64D Tryz.underlying29 (fun m x hm hx => by obtain ⟨z, rfl⟩ := typed_int Tryz.underlying2 hx; exact ⟨z, rfl⟩) h8
 obtain ⟨z9, ez9⟩ := typed_sl Ab.Net.ds Tryz.underlying25 (fun m x hm hx => typed_Net m x hx) h9
 obtain ⟨z10, ez10⟩ := typed_Net _ _ h10
 refine ⟨⟨z1, z2, z3, z4, z5, z6, z7, z8, z9, z10⟩, ?_⟩
 rw [Ab.Job.ds_eq]
 simp only [cvC_append, ez7, ez8, ez9, ez10, Ab.Net.ds_eq, cvC, cv, List.cons_append, List.nil_append, List.append_nil]
theorem typed_Queue (n : Nat) (ds : List Go.Proofs.YtckcfdggbbabfaaGreat.D) (h : Typed Tryz.prog n 24 ds) : ∃ x : Ab.Queue, cvC ds = x.ds := by
 obtain ⟨m0, hm0, h⟩ := typed_st Tryz.underlying24 h
 simp only [Parts] at h
 obtain ⟨d1, r1, h1, ⟨d2, r2, h2, ⟨d3, r3, h3, ⟨d4, r4, h4, rfl, rfl⟩, rfl⟩, rfl⟩, rfl⟩ := h
 obtain ⟨z1, rfl⟩ := typed_int Tryz.underlying2 h1
 obtain ⟨z2, rfl⟩ := typed_int Tryz.underlying2 h2
 obtain ⟨z3, rfl⟩ := typed_int Tryz.underlying2 h3
 obtain ⟨z4, ez4⟩ := typed_sl Ab.Job.ds Tryz.underlying22 (fun m x hm hx => typed_Job m x hx) h4
 refine ⟨⟨z1, z2, z3, z4⟩, ?_⟩
 rw [Ab.Queue.ds_eq]
 simp only [cvC_append, ez4, cvC, cv, List.cons_append, List.nil_append, List.append_nil]
theorem walk (cs0 : Array Value) (dd0 : List Go.Proofs.YtckcfdggbbabfaaGreat.D) (n0 : Nat) (ht0 : Typed Tryz.prog n0 24 dd0) (x1 : Int) (wf1 : (Lit.int IntKind.i64 x1).wf = true) (w : World) (hsh : w.ShapedOpen Tryz.prog) (h0 : Go.Proofs.YtckcfdggbbabfaaGreat.Reps w dd0 (Value.agg cs0).cells.toList) :
  Calls Tryz.prog 11 #[.agg cs0, .int .i64 x1] w fun e w' => e = .returned (.bool true) ∧ Below w.heap.size w w' := by
 obtain ⟨y0, ey0⟩ := typed_Queue _ _ ht0
 obtain ⟨hv0, hk0⟩ := vsims_of h0
 rw [ey0] at hv0 hk0
 have ha0 : (List.map ofD y0.ds) = y0.avs := by rw [Ab.Queue.ds_eq]; rfl
 rw [ha0] at hv0
 have hl := l_FnExactRemoveJob_ok _ _ _ (RemoveJob_plain y0 hk0 x1 wf1)
 refine law_calls hl hsh (by kernel_rfl) trivial ?_
 simp only [VSims]
 exact ⟨_, _, rfl, vsim_agg hv0, ⟨_, _, rfl, (VSim.of_rep (d := .int .i64 x1) ⟨rfl, wf1⟩), rfl⟩⟩
theorem own : ownKnob Tryz.prog.godebug = none := by kernel_rfl
theorem laidOut : laidOutB Tryz.prog = true := by kernel_rfl
theorem okS : okTypes Tryz.prog [24, 2, 22, 147, 29, 25, 28, 26, 151, 149, 243] = true := by kernel_rfl
set_option maxRecDepth 100000 in
theorem lifted (os : Os) (started : os.Started) (H : Type) (enc : TypeId × Value → H) :
  ReturnsInHanded {} Tryz.checked os 11 .any (Rows.fnExactRemoveJobSpec.pre6 enc Tryz.prog Tryz.f11 Rows.fnExactRemoveJobRow.domain false) (Rows.fnExactRemoveJobSpec.post enc Tryz.prog Tryz.f11 false true false false) := by
 refine returnsInHanded_of_change_shaped (C := Tryz.checked) own started (by kernel_rfl) Tryz.func11
  (ChangeSpec.witness6 (enc := enc) (C := Tryz.checked) false ⟨#[], #[.agg #[.int .i64 0, .int .i64 0, .int .i64 0, .slice none 0 0], .int .i64 0], []⟩ 8 (by kernel_rfl) (by kernel_rfl) (by kernel_rfl) (by kernel_rfl)) ?_
 intro W base args ds gs before hval0 hW hcnd _ hsh _
 have hval : ∀ (j : Nat) t v, Tryz.f11.params[j]? = some t → args[j]? = some v → Value.okWide Tryz.prog W .any base t v := hval0
 have hW' := hW
 obtain ⟨p, q, hA0, hV, rfl, hfz, hnd⟩ := hW
 have hA : DataW.TrodAll enc Tryz.prog W 0 (fun _ => true) true Tryz.f11.params.toList args.toList ds p := hA0
 rw [Tryz.params11] at hA hval
 obtain ⟨v0, vs0, d0, ds0, p0, q0, hargs, rfl, rfl, h0, r0⟩ := trodAll_cons hA
 obtain ⟨v1, vs1, d1, ds1, p1, q1, rfl, rfl, rfl, h1, r1⟩ := trodAll_cons r0
 obtain ⟨rfl, rfl, rfl⟩ := trodAll_nil r1
 obtain rfl : args = #[v0, v1] := by cases args; simp_all
 obtain ⟨rfl, rfl⟩ := trodVars_none hV
 have k0 := h0
 have lt0 : ∀ x ∈ p0, x.block < W.heap.size := by obtain ⟨m, hm⟩ := k0; exact DataW.trod_lt m _ _ _ hm
 obtain ⟨cs0, rfl, -, -⟩ := agg_of_okWide (by kernel_rfl) (hval 0 24 v0 rfl rfl)
 obtain ⟨fu0, hf0⟩ := h0
 obtain ⟨dd0, ty0, re0⟩ := reads_of_trod _ okS fu0 _ _ _ (by decide) hf0
 have k1 := h1
 have lt1 : ∀ x ∈ p1, x.block < W.heap.size := by obtain ⟨m, hm⟩ := k1; exact DataW.trod_lt m _ _ _ hm
 obtain ⟨x1, rfl, rfl, rfl, wf1⟩ := open_int Tryz.underlying2 (hval 1 2 v1 rfl rfl) h1
 clear hA0 hval0
 refine (walk _ dd0 fu0 ty0 x1 wf1 W hsh re0).mono fun e W' ⟨he, bel⟩ => ?_
 subst he
 exact ⟨_, rfl, _, _, _, [], _, [], hW', trodAll_mk1 (shut_bool Tryz.underlying4 _), (trodAll_cons_mk (Below.trod laidOut (by kernel_rfl) (of_decide_eq_true (by kernel_rfl)) k0 bel lt0) (trodAll_cons_mk (Below.trod laidOut (by kernel_rfl) (of_decide_eq_true (by kernel_rfl)) k1 bel lt1) trodAll_mk0)), rfl, bel.frame _, fun h => by cases h⟩
theorem over : Rows.fnExactRemoveJobRow.holds Tryz.pinned (OpenSpec.ofChange Rows.fnExactRemoveJobSpec) :=
 OpenClaim.holds_of_wide 11 Tryz.f11 rfl rfl rfl rfl rfl rfl rfl ⟨rfl, rfl, rfl, rfl, rfl⟩ rfl rfl rfl rfl rfl (by kernel_rfl) Tryz.func11 closed
  (of_decide_eq_true (by kernel_rfl)) (by unfold Func.isWrapper; first | (rw [if_pos (by decide +kernel)]; kernel_rfl) | (rw [if_neg (by decide +kernel)]; exact ⟨rfl, rfl⟩))
  (fun os started H enc _ => lifted os started H enc)
theorem proved : Rows.FnExactRemoveJobSaid := over
end Go.Proofs.YtckcfdggbbabfaaGreat.lawRemoveJob
