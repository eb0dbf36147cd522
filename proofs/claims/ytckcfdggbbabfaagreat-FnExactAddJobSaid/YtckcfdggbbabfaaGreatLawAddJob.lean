/-
  The statement FnExactAddJob: what reads at a law's type is a datum, the walk, the plain law, the row's frame. Printed by wip/ab/genlaw.py.
-/
import Derived.Test.YtckcfdggbbabfaaGreatRows
import Derived.Test.YtckcfdggbbabfaaGreatWlkB
import Derived.Test.YtckcfdggbbabfaaGreatAbZ
import Derived.Test.YtckcfdggbbabfaaGreatFacts
import Derived.Test.YtckcfdggbbabfaaGreatFcAddJob
import Derived.Test.YtckcfdggbbabfaaGreatPqAddJob
namespace Go.Proofs.YtckcfdggbbabfaaGreat.lawAddJob
set_option linter.unusedVariables false
set_option linter.unusedSimpArgs false
open Go.ChangeShapes Go.WideShapes Go.ChangeAt Go.RowKit Go.Proofs.YtckcfdggbbabfaaGreat Go.Proofs.YtckcfdggbbabfaaGreat.Ab
open Go.ChangeMaps (open_string shut_string)
theorem typed_Port (n : Nat) (ds : List Go.Proofs.YtckcfdggbbabfaaGreat.D) (h : Typed Tryz.prog n 243 ds) : ∃ x : Ab.Port, cvC ds = x.ds := by
 obtain ⟨m0, hm0, h⟩ := typed_st Tryz.underlying243 h
 simp only [Parts] at h
 obtain ⟨d1, r1, h1, ⟨d2, r2, h2, rfl, rfl⟩, rfl⟩ := h
 obtain ⟨z1, rfl⟩ := typed_int Tryz.underlying2 h1
 obtain ⟨z2, rfl⟩ := typed_int Tryz.underlying2 h2
 refine ⟨⟨z1, z2⟩, ?_⟩
 rw [Ab.Port.ds_eq]
 simp only [cvC_append, cvC, cv, List.cons_append, List.nil_append, List.append_nil]
theorem typed_Agent (n : Nat) (ds : List Go.Proofs.YtckcfdggbbabfaaGreat.D) (h : Typed Tryz.prog n 151 ds) : ∃ x : Ab.Agent, cvC ds = x.ds := by
 obtain ⟨m0, hm0, h⟩ := typed_st Tryz.underlying151 h
 simp only [Parts] at h
 obtain ⟨d1, r1, h1, ⟨d2, r2, h2, ⟨d3, r3, h3, ⟨d4, r4, h4, ⟨d5, r5, h5, rfl, rfl⟩, rfl⟩, rfl⟩, rfl⟩, rfl⟩ := h
 obtain ⟨z1, rfl⟩ := typed_int Tryz.underlying2 h1
 obtain ⟨z2, rfl⟩ := typed_int Tryz.underlying2 h2
 obtain ⟨z3, rfl⟩ := typed_int Tryz.underlying2 h3
 obtain ⟨z4, ez4⟩ := typed_sl i64D Tryz.underlying29 (fun m x hm hx => by obtain ⟨z, rfl⟩ := typed_int Tryz.underlying2 hx; exact ⟨z, rfl⟩) h4
 obtain ⟨z5, ez5⟩ := typed_sl Ab.Port.ds Tryz.underlying149 (fun m x hm hx => typed_Port m x hx) h5
 refine ⟨⟨z1, z2, z3, z4, z5⟩, ?_⟩
 rw [Ab.Agent.ds_eq]
 simp only [cvC_append, ez4, ez5, cvC, cv, List.cons_append, List.nil_append, List.append_nil]
theorem typed_Net (n : Nat) (ds : List Go.Proofs.YtckcfdggbbabfaaGreat.D) (h : Typed Tryz.prog n 28 ds) : ∃ x : Ab.Net, cvC ds = x.ds := by
 obtain ⟨m0, hm0, h⟩ := typed_st Tryz.underlying28 h
 simp only [Parts] at h
 obtain ⟨d1, r1, h1, rfl, rfl⟩ := h
 obtain ⟨z1, ez1⟩ := typed_sl Ab.Agent.ds Tryz.underlying26 (fun m x hm hx => typed_Agent m x hx) h1
 refine ⟨⟨z1⟩, ?_⟩
 rw [Ab.Net.ds_eq]
 simp only [cvC_append, ez1, cvC, cv, List.cons_append, List.nil_append, List.append_nil]
theorem typed_Job (n : Nat) (ds : List Go.Proofs.YtckcfdggbbabfaaGreat.D) (h : Typed Tryz.prog n 147 ds) : ∃ x : Ab.Job, cvC ds = x.ds := by
 obtain ⟨m0, hm0, h⟩ := typed_st Tryz.underlying147 h
 simp only [Parts] at h
 obtain ⟨d1, r1, h1, ⟨d2, r2, h2, ⟨d3, r3, h3, ⟨d4, r4, h4, ⟨d5, r5, h5, ⟨d6, r6, h6, ⟨d7, r7, h7, ⟨d8, r8, h8, ⟨d9, r9, h9, ⟨d10, r10, h10, rfl, rfl⟩, rfl⟩, rfl⟩, rfl⟩, rfl⟩, rfl⟩, rfl⟩, rfl⟩, rfl⟩, rfl⟩ := h
 obtain ⟨z1, rfl⟩ := typed_int Tryz.underlying2 h1
 obtain ⟨z2, rfl⟩ := typed_int Tryz.underlying2 h2
 obtain ⟨z3, rfl⟩ := typed_int Tryz.underlying2 h3
 obtain ⟨z4, rfl⟩ := typed_int Tryz.underlying2 h4
 obtain ⟨z5, rfl⟩ := typed_int Tryz.underlying2 h5
 obtain ⟨z6, rfl⟩ := typed_int Tryz.underlying2 h6
 obtain ⟨z7, ez7⟩ := typed_sl i64D Tryz.underlying29 (fun m x hm hx => by obtain ⟨z, rfl⟩ := typed_int Tryz.underlying2 hx; exact ⟨z, rfl⟩) h7
 obtain ⟨z8, ez8⟩ := typed_sl i64D Tryz.underlying29 (fun m x hm hx => by obtain ⟨z, rfl⟩ := typed_int Tryz.underlying2 hx; exact ⟨z, rfl⟩) h8
 obtain ⟨z9, ez9⟩ := typed_sl Ab.Net.ds Tryz.underlying25 (fun m x hm hx => typed_Net m x hx) h9
 obtain ⟨z10, ez10⟩ := typed_Net _ _ h10
 refine ⟨⟨z1, z2, z3, z4, z5, z6, z7, z8, z9, z10⟩, ?_⟩
 rw [Ab.Job.ds_eq]
 simp only [cvC_append, ez7, ez8, ez9, ez10, Ab.Net.ds_eq, cvC, cv, List.cons_append, List.nil_append, List.append_nil]
theorem typed_Queue (n : Nat) (ds : List Go.Proofs.YtckcfdggbbabfaaGreat.D) (h : Typed Tryz.prog n 24 ds) : ∃ x : Ab.Queue, cvC ds = x.ds := by
 obtain ⟨m0, hm0, h⟩ := typed_st Tryz.underlying24 h
 simp only [Parts] at h
 obtain ⟨d1, r1, h1, ⟨d2, r2, h2, ⟨d3, r3, h3, ⟨d4, r4, h4, rfl, rfl⟩, rfl⟩, rfl⟩, rfl⟩ := h
 obtain ⟨z1, rfl⟩ := typed_int Tryz.underlying2 h1
 obtain ⟨z2, rfl⟩ := typed_int Tryz.underlying2 h2
 obtain ⟨z3, rfl⟩ := typed_int Tryz.underlying2 h3
 obtain ⟨z4, ez4⟩ := typed_sl Ab.Job.ds Tryz.underlying22 (fun m x hm hx => typed_Job m x hx) h4
 refine ⟨⟨z1, z2, z3, z4⟩, ?_⟩
 rw [Ab.Queue.ds_eq]
 simp only [cvC_append, ez4, cvC, cv, List.cons_append, List.nil_append, List.append_nil]
theorem walk (cs0 : Array Value) (dd0 : List Go.Proofs.YtckcfdggbbabfaaGreat.D) (n0 : Nat) (ht0 : Typed Tryz.prog n0 24 dd0) (a1 : Option Addr) (len1 cap1 : Nat) (dd1 : List Go.Proofs.YtckcfdggbbabfaaGreat.D) (n1 : Nat) (ht1 : Typed Tryz.prog n1 25 dd1) (cs2 : Array Value) (dd2 : List Go.Proofs.YtckcfdggbbabfaaGreat.D) (n2 : Nat) (ht2 : Typed Tryz.prog n2 28 dd2) (a3 : Option Addr) (len3 cap3 : Nat) (dd3 : List Go.Proofs.YtckcfdggbbabfaaGreat.D) (n3 : Nat) (ht3 : Typed Tryz.prog n3 29 dd3) (x4 : Int) (wf4 : (Lit.int IntKind.i64 x4).wf = true) (x5 : Int) (wf5 : (Lit.int IntKind.i64 x5).wf = true) (w : World) (hsh : w.ShapedOpen Tryz.prog) (h0 : Go.Proofs.YtckcfdggbbabfaaGreat.Reps w dd0 (Value.agg cs0).cells.toList) (h1 : Go.Proofs.YtckcfdggbbabfaaGreat.Reps w dd1 (Value.slice a1 len1 cap1).cells.toList) (h2 : Go.Proofs.YtckcfdggbbabfaaGreat.Reps w dd2 (Value.agg cs2).cells.toList) (h3 : Go.Proofs.YtckcfdggbbabfaaGreat.Reps w dd3 (Value.slice a3 len3 cap3).cells.toList) :
  Calls Tryz.prog 3 #[.agg cs0, .slice a1 len1 cap1, .agg cs2, .slice a3 len3 cap3, .int .i64 x4, .int .i64 x5] w fun e w' => e = .returned (.bool true) ∧ Below w.heap.size w w' := by
 obtain ⟨y0, ey0⟩ := typed_Queue _ _ ht0
 obtain ⟨hv0, hk0⟩ := vsims_of h0
 rw [ey0] at hv0 hk0
 have ha0 : (List.map ofD y0.ds) = y0.avs := by rw [Ab.Queue.ds_eq]; rfl
 rw [ha0] at hv0
 obtain ⟨y1, ey1⟩ := typed_sl Ab.Net.ds Tryz.underlying25 (fun m x hm hx => typed_Net m x hx) ht1
 obtain ⟨hv1, hk1⟩ := vsims_of h1
 rw [ey1] at hv1 hk1
 obtain ⟨u1, us1, eu1, hw1, -⟩ := hv1
 obtain rfl : u1 = .slice a1 len1 cap1 := by simpa [Value.cells] using (List.cons.inj eu1).1.symm
 obtain ⟨y2, ey2⟩ := typed_Net _ _ ht2
 obtain ⟨hv2, hk2⟩ := vsims_of h2
 rw [ey2] at hv2 hk2
 have ha2 : (List.map ofD y2.ds) = y2.avs := by rw [Ab.Net.ds_eq]; rfl
 rw [ha2] at hv2
 obtain ⟨y3, ey3⟩ := typed_sl i64D Tryz.underlying29 (fun m x hm hx => by obtain ⟨z, rfl⟩ := typed_int Tryz.underlying2 hx; exact ⟨z, rfl⟩) ht3
 obtain ⟨hv3, hk3⟩ := vsims_of h3
 rw [ey3] at hv3 hk3
 obtain ⟨u3, us3, eu3, hw3, -⟩ := hv3
 obtain rfl : u3 = .slice a3 len3 cap3 := by simpa [Value.cells] using (List.cons.inj eu3).1.symm
 have hl := l_FnExactAddJob_ok _ _ _ _ _ _ _ (AddJob_plain y0 hk0 y1 hk1 y2 hk2 y3 hk3 x4 wf4 x5 wf5)
 refine law_calls hl hsh (by kernel_rfl) trivial ?_
 simp only [VSims]
 exact ⟨_, _, rfl, vsim_agg hv0, ⟨_, _, rfl, hw1, ⟨_, _, rfl, vsim_agg hv2, ⟨_, _, rfl, hw3, ⟨_, _, rfl, (VSim.of_rep (d := .int .i64 x4) ⟨rfl, wf4⟩), ⟨_, _, rfl, (VSim.of_rep (d := .int .i64 x5) ⟨rfl, wf5⟩), rfl⟩⟩⟩⟩⟩⟩
theorem own : ownKnob Tryz.prog.godebug = none := by kernel_rfl
theorem laidOut : laidOutB Tryz.prog = true := by kernel_rfl
theorem okS : okTypes Tryz.prog [24, 2, 22, 147, 29, 25, 28, 26, 151, 149, 243] = true := by kernel_rfl
set_option maxRecDepth 100000 in
theorem lifted (os : Os) (started : os.Started) (H : Type) (enc : TypeId × Value → H) :
  ReturnsInHanded {} Tryz.checked os 3 .any (Rows.fnExactAddJobSpec.pre6 enc Tryz.prog Tryz.f3 Rows.fnExactAddJobRow.domain false) (Rows.fnExactAddJobSpec.post enc Tryz.prog Tryz.f3 false true false false) := by
 refine returnsInHanded_of_change_shaped (C := Tryz.checked) own started (by kernel_rfl) Tryz.func3
  (ChangeSpec.witness6 (enc := enc) (C := Tryz.checked) false ⟨#[], #[.agg #[.int .i64 0, .int .i64 0, .int .i64 0, .slice none 0 0], .slice none 0 0, .agg #[.slice none 0 0], .slice none 0 0, .int .i64 0, .int .i64 0], []⟩ 8 (by kernel_rfl) (by kernel_rfl) (by kernel_rfl) (by kernel_rfl)) ?_
 intro W base args ds gs before hval0 hW hcnd _ hsh _
 have hval : ∀ (j : Nat) t v, Tryz.f3.params[j]? = some t → args[j]? = some v → Value.okWide Tryz.prog W .any base t v := hval0
 have hW' := hW
 obtain ⟨p, q, hA0, hV, rfl, hfz, hnd⟩ := hW
 have hA : DataW.TrodAll enc Tryz.prog W 0 (fun _ => true) true Tryz.f3.params.toList args.toList ds p := hA0
 rw [Tryz.params3] at hA hval
 obtain ⟨v0, vs0, d0, ds0, p0, q0, hargs, rfl, rfl, h0, r0⟩ := trodAll_cons hA
 obtain ⟨v1, vs1, d1, ds1, p1, q1, rfl, rfl, rfl, h1, r1⟩ := trodAll_cons r0
 obtain ⟨v2, vs2, d2, ds2, p2, q2, rfl, rfl, rfl, h2, r2⟩ := trodAll_cons r1
 obtain ⟨v3, vs3, d3, ds3, p3, q3, rfl, rfl, rfl, h3, r3⟩ := trodAll_cons r2
 obtain ⟨v4, vs4, d4, ds4, p4, q4, rfl, rfl, rfl, h4, r4⟩ := trodAll_cons r3
 obtain ⟨v5, vs5, d5, ds5, p5, q5, rfl, rfl, rfl, h5, r5⟩ := trodAll_cons r4
 obtain ⟨rfl, rfl, rfl⟩ := trodAll_nil r5
 obtain rfl : args = #[v0, v1, v2, v3, v4, v5] := by cases args; simp_all
 obtain ⟨rfl, rfl⟩ := trodVars_none hV
 have k0 := h0
 have lt0 : ∀ x ∈ p0, x.block < W.heap.size := by obtain ⟨m, hm⟩ := k0; exact DataW.trod_lt m _ _ _ hm
 obtain ⟨cs0, rfl, -, -⟩ := agg_of_okWide (by kernel_rfl) (hval 0 24 v0 rfl rfl)
 obtain ⟨fu0, hf0⟩ := h0
 obtain ⟨dd0, ty0, re0⟩ := reads_of_trod _ okS fu0 _ _ _ (by decide) hf0
 have k1 := h1
 have lt1 : ∀ x ∈ p1, x.block < W.heap.size := by obtain ⟨m, hm⟩ := k1; exact DataW.trod_lt m _ _ _ hm
 obtain ⟨a1, len1, cap1, rfl⟩ := okWide_slice Tryz.underlying25 (hval 1 25 v1 rfl rfl)
 obtain ⟨fu1, hf1⟩ := h1
 obtain ⟨dd1, ty1, re1⟩ := reads_of_trod _ okS fu1 _ _ _ (by decide) hf1
 have k2 := h2
 have lt2 : ∀ x ∈ p2, x.block < W.heap.size := by obtain ⟨m, hm⟩ := k2; exact DataW.trod_lt m _ _ _ hm
 obtain ⟨cs2, rfl, -, -⟩ := agg_of_okWide (by kernel_rfl) (hval 2 28 v2 rfl rfl)
 obtain ⟨fu2, hf2⟩ := h2
 obtain ⟨dd2, ty2, re2⟩ := reads_of_trod _ okS fu2 _ _ _ (by decide) hf2
 have k3 := h3
 have lt3 : ∀ x ∈ p3, x.block < W.heap.size := by obtain ⟨m, hm⟩ := k3; exact DataW.trod_lt m _ _ _ hm
 obtain ⟨a3, len3, cap3, rfl⟩ := okWide_slice Tryz.underlying29 (hval 3 29 v3 rfl rfl)
 obtain ⟨fu3, hf3⟩ := h3
 obtain ⟨dd3, ty3, re3⟩ := reads_of_trod _ okS fu3 _ _ _ (by decide) hf3
 have k4 := h4
 have lt4 : ∀ x ∈ p4, x.block < W.heap.size := by obtain ⟨m, hm⟩ := k4; exact DataW.trod_lt m _ _ _ hm
 obtain ⟨x4, rfl, rfl, rfl, wf4⟩ := open_int Tryz.underlying2 (hval 4 2 v4 rfl rfl) h4
 have k5 := h5
 have lt5 : ∀ x ∈ p5, x.block < W.heap.size := by obtain ⟨m, hm⟩ := k5; exact DataW.trod_lt m _ _ _ hm
 obtain ⟨x5, rfl, rfl, rfl, wf5⟩ := open_int Tryz.underlying2 (hval 5 2 v5 rfl rfl) h5
 clear hA0 hval0
 refine (walk _ dd0 fu0 ty0 _ _ _ dd1 fu1 ty1 _ dd2 fu2 ty2 _ _ _ dd3 fu3 ty3 x4 wf4 x5 wf5 W hsh re0 re1 re2 re3).mono fun e W' ⟨he, bel⟩ => ?_
 subst he
 exact ⟨_, rfl, _, _, _, [], _, [], hW', trodAll_mk1 (shut_bool Tryz.underlying4 _), (trodAll_cons_mk (Below.trod laidOut (by kernel_rfl) (of_decide_eq_true (by kernel_rfl)) k0 bel lt0) (trodAll_cons_mk (Below.trod laidOut (by kernel_rfl) (of_decide_eq_true (by kernel_rfl)) k1 bel lt1) (trodAll_cons_mk (Below.trod laidOut (by kernel_rfl) (of_decide_eq_true (by kernel_rfl)) k2 bel lt2) (trodAll_cons_mk (Below.trod laidOut (by kernel_rfl) (of_decide_eq_true (by kernel_rfl)) k3 bel lt3) (trodAll_cons_mk (Below.trod laidOut (by kernel_rfl) (of_decide_eq_true (by kernel_rfl)) k4 bel lt4) (trodAll_cons_mk (Below.trod laidOut (by kernel_rfl) (of_decide_eq_true (by kernel_rfl)) k5 bel lt5) trodAll_mk0)))))), rfl, bel.frame _, fun h => by cases h⟩
theorem over : Rows.fnExactAddJobRow.holds Tryz.pinned (OpenSpec.ofChange Rows.fnExactAddJobSpec) :=
 OpenClaim.holds_of_wide 3 Tryz.f3 rfl rfl rfl rfl rfl rfl rfl ⟨rfl, rfl, rfl, rfl, rfl⟩ rfl rfl rfl rfl rfl (by kernel_rfl) Tryz.func3 closed
  (of_decide_eq_true (by kernel_rfl)) (by unfold Func.isWrapper; first | (rw [if_pos (by decide +kernel)]; kernel_rfl) | (rw [if_neg (by decide +kernel)]; exact ⟨rfl, rfl⟩))
  (fun os started H enc _ => lifted os started H enc)
theorem proved : Rows.FnExactAddJobSaid := over
end Go.Proofs.YtckcfdggbbabfaaGreat.lawAddJob
