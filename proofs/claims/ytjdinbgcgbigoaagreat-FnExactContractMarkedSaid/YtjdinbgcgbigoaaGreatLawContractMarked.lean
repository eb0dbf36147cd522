/-
  The statement FnExactContractMarked: what reads at a law's type is a datum,the walk,the plain law,the row's frame. Printed by wip/ab/genlaw.py.
-/
import Derived.Test.YtjdinbgcgbigoaaGreatRows
import Derived.Test.YtjdinbgcgbigoaaGreatWlkM
import Derived.Test.YtjdinbgcgbigoaaGreatAbZ
import Derived.Test.YtjdinbgcgbigoaaGreatFacts
import Derived.Test.YtjdinbgcgbigoaaGreatFcContractMarked
import Derived.Test.YtjdinbgcgbigoaaGreatPqContractMarked
namespace Go.Proofs.YtjdinbgcgbigoaaGreat.lawContractMarked
set_option linter.unusedVariables false
set_option linter.unusedSimpArgs false
open Go.ChangeShapes Go.WideShapes Go.ChangeAt Go.RowKit Go.Proofs.YtjdinbgcgbigoaaGreat Go.Proofs.YtjdinbgcgbigoaaGreat.Ab
open Go.ChangeMaps (open_string shut_string)
theorem typed_Core : ∀ (n : Nat) (ds : List Go.Proofs.YtjdinbgcgbigoaaGreat.D),Typed Tryz.prog n 27 ds → ∃ x : Ab.Core,cvC ds = x.ds := by
 intro n
 induction n using Nat.strongRecOn with
 | ind n ih =>
  intro ds h
  obtain ⟨m0,hm0,h⟩ := typed_st Tryz.underlying27 h
  simp only [Parts] at h
  obtain ⟨d1,r1,h1,⟨d2,r2,h2,⟨d3,r3,h3,⟨d4,r4,h4,rfl,rfl⟩,rfl⟩,rfl⟩,rfl⟩ := h
  obtain ⟨z1,rfl⟩ := typed_int Tryz.underlying2 h1
  obtain ⟨z2,rfl⟩ := typed_int Tryz.underlying2 h2
  obtain ⟨z3,ez3⟩ := typed_sl i64D Tryz.underlying25 (fun m x hm hx => by obtain ⟨z,rfl⟩ := typed_int Tryz.underlying2 hx; exact ⟨z,rfl⟩) h3
  obtain ⟨z4,ez4⟩ := typed_sl Ab.Core.ds Tryz.underlying22 (fun m x hm hx => ih m (Nat.lt_trans hm hm0) x hx) h4
  refine ⟨⟨z1,z2,z3,z4⟩,?_⟩
  rw [Ab.Core.ds_eq]
  simp only [cvC_append,ez3,ez4,cvC,cv,List.cons_append,List.nil_append,List.append_nil]
theorem typed_Book (n : Nat) (ds : List Go.Proofs.YtjdinbgcgbigoaaGreat.D) (h : Typed Tryz.prog n 24 ds) : ∃ x : Ab.Book,cvC ds = x.ds := by
 obtain ⟨m0,hm0,h⟩ := typed_st Tryz.underlying24 h
 simp only [Parts] at h
 obtain ⟨d1,r1,h1,rfl,rfl⟩ := h
 obtain ⟨z1,ez1⟩ := typed_sl Ab.Core.ds Tryz.underlying22 (fun m x hm hx => typed_Core m x hx) h1
 refine ⟨⟨z1⟩,?_⟩
 rw [Ab.Book.ds_eq]
 simp only [cvC_append,ez1,cvC,cv,List.cons_append,List.nil_append,List.append_nil]
theorem walk (cs0 : Array Value) (dd0 : List Go.Proofs.YtjdinbgcgbigoaaGreat.D) (n0 : Nat) (ht0 : Typed Tryz.prog n0 24 dd0) (cs1 : Array Value) (dd1 : List Go.Proofs.YtjdinbgcgbigoaaGreat.D) (n1 : Nat) (ht1 : Typed Tryz.prog n1 27 dd1) (a2 : Option Addr) (len2 cap2 : Nat) (dd2 : List Go.Proofs.YtjdinbgcgbigoaaGreat.D) (n2 : Nat) (ht2 : Typed Tryz.prog n2 25 dd2) (w : World) (hsh : w.ShapedOpen Tryz.prog) (h0 : Go.Proofs.YtjdinbgcgbigoaaGreat.Reps w dd0 (Value.agg cs0).cells.toList) (h1 : Go.Proofs.YtjdinbgcgbigoaaGreat.Reps w dd1 (Value.agg cs1).cells.toList) (h2 : Go.Proofs.YtjdinbgcgbigoaaGreat.Reps w dd2 (Value.slice a2 len2 cap2).cells.toList) :
  Calls Tryz.prog 4 #[.agg cs0,.agg cs1,.slice a2 len2 cap2] w fun e w' => e = .returned (.bool true) ∧ Below w.heap.size w w' := by
 obtain ⟨y0,ey0⟩ := typed_Book _ _ ht0
 obtain ⟨hv0,hk0⟩ := vsims_of h0
 rw [ey0] at hv0 hk0
 have ha0 : (List.map ofD y0.ds) = y0.avs := by rw [Ab.Book.ds_eq]; rfl
 rw [ha0] at hv0
 obtain ⟨y1,ey1⟩ := typed_Core _ _ ht1
 obtain ⟨hv1,hk1⟩ := vsims_of h1
 rw [ey1] at hv1 hk1
 have ha1 : (List.map ofD y1.ds) = y1.avs := by rw [Ab.Core.ds_eq]; rfl
 rw [ha1] at hv1
 obtain ⟨y2,ey2⟩ := typed_sl i64D Tryz.underlying25 (fun m x hm hx => by obtain ⟨z,rfl⟩ := typed_int Tryz.underlying2 hx; exact ⟨z,rfl⟩) ht2
 obtain ⟨hv2,hk2⟩ := vsims_of h2
 rw [ey2] at hv2 hk2
 obtain ⟨u2,us2,eu2,hw2,-⟩ := hv2
 obtain rfl : u2 = .slice a2 len2 cap2 := by simpa [Value.cells] using (List.cons.inj eu2).1.symm
 have hl := l_FnExactContractMarked_ok _ _ _ _ (ContractMarked_plain y0 hk0 y1 hk1 y2 hk2)
 refine law_calls hl hsh (by kernel_rfl) trivial ?_
 simp only [VSims]
 exact ⟨_,_,rfl,vsim_agg hv0,⟨_,_,rfl,vsim_agg hv1,⟨_,_,rfl,hw2,rfl⟩⟩⟩
theorem own : ownKnob Tryz.prog.godebug = none := by kernel_rfl
theorem laidOut : laidOutB Tryz.prog = true := by kernel_rfl
theorem okS : okTypes Tryz.prog [24,22,27,2,25] = true := by kernel_rfl
set_option maxRecDepth 100000 in
theorem lifted (os : Os) (started : os.Started) (H : Type) (enc : TypeId × Value → H) :
  ReturnsInHanded {} Tryz.checked os 4 .any (Rows.fnExactContractMarkedSpec.pre6 enc Tryz.prog Tryz.f4 Rows.fnExactContractMarkedRow.domain false) (Rows.fnExactContractMarkedSpec.post enc Tryz.prog Tryz.f4 false true false false) := by
 refine returnsInHanded_of_change_shaped (C := Tryz.checked) own started (by kernel_rfl) Tryz.func4
  (ChangeSpec.witness6 (enc := enc) (C := Tryz.checked) false ⟨#[],#[.agg #[.slice none 0 0],.agg #[.int .i64 0,.int .i64 0,.slice none 0 0,.slice none 0 0],.slice none 0 0],[]⟩ 8 (by kernel_rfl) (by kernel_rfl) (by kernel_rfl) (by kernel_rfl)) ?_
 intro W base args ds gs before hval0 hW hcnd _ hsh _
 have hval : ∀ (j : Nat) t v,Tryz.f4.params[j]? = some t → args[j]? = some v → Value.okWide Tryz.prog W .any base t v := hval0
 have hW' := hW
 obtain ⟨p,q,hA0,hV,rfl,hfz,hnd⟩ := hW
 have hA : DataW.TrodAll enc Tryz.prog W 0 (fun _ => true) true Tryz.f4.params.toList args.toList ds p := hA0
 rw [Tryz.params4] at hA hval
 obtain ⟨v0,vs0,d0,ds0,p0,q0,hargs,rfl,rfl,h0,r0⟩ := trodAll_cons hA
 obtain ⟨v1,vs1,d1,ds1,p1,q1,rfl,rfl,rfl,h1,r1⟩ := trodAll_cons r0
 obtain ⟨v2,vs2,d2,ds2,p2,q2,rfl,rfl,rfl,h2,r2⟩ := trodAll_cons r1
 obtain ⟨rfl,rfl,rfl⟩ := trodAll_nil r2
 obtain rfl : args = #[v0,v1,v2] := by cases args; simp_all
 obtain ⟨rfl,rfl⟩ := trodVars_none hV
 have k0 := h0
 have lt0 : ∀ x ∈ p0,x.block < W.heap.size := by obtain ⟨m,hm⟩ := k0; exact DataW.trod_lt m _ _ _ hm
 obtain ⟨cs0,rfl,-,-⟩ := agg_of_okWide (by kernel_rfl) (hval 0 24 v0 rfl rfl)
 obtain ⟨fu0,hf0⟩ := h0
 obtain ⟨dd0,ty0,re0⟩ := reads_of_trod _ okS fu0 _ _ _ (by decide) hf0
 have k1 := h1
 have lt1 : ∀ x ∈ p1,x.block < W.heap.size := by obtain ⟨m,hm⟩ := k1; exact DataW.trod_lt m _ _ _ hm
 obtain ⟨cs1,rfl,-,-⟩ := agg_of_okWide (by kernel_rfl) (hval 1 27 v1 rfl rfl)
 obtain ⟨fu1,hf1⟩ := h1
 obtain ⟨dd1,ty1,re1⟩ := reads_of_trod _ okS fu1 _ _ _ (by decide) hf1
 have k2 := h2
 have lt2 : ∀ x ∈ p2,x.block < W.heap.size := by obtain ⟨m,hm⟩ := k2; exact DataW.trod_lt m _ _ _ hm
 obtain ⟨a2,len2,cap2,rfl⟩ := okWide_slice Tryz.underlying25 (hval 2 25 v2 rfl rfl)
 obtain ⟨fu2,hf2⟩ := h2
 obtain ⟨dd2,ty2,re2⟩ := reads_of_trod _ okS fu2 _ _ _ (by decide) hf2
 clear hA0 hval0
 refine (walk _ dd0 fu0 ty0 _ dd1 fu1 ty1 _ _ _ dd2 fu2 ty2 W hsh re0 re1 re2).mono fun e W' ⟨he,bel⟩ => ?_
 subst he
 exact ⟨_,rfl,_,_,_,[],_,[],hW',trodAll_mk1 (shut_bool Tryz.underlying4 _),(trodAll_cons_mk (Below.trod laidOut (by kernel_rfl) (of_decide_eq_true (by kernel_rfl)) k0 bel lt0) (trodAll_cons_mk (Below.trod laidOut (by kernel_rfl) (of_decide_eq_true (by kernel_rfl)) k1 bel lt1) (trodAll_cons_mk (Below.trod laidOut (by kernel_rfl) (of_decide_eq_true (by kernel_rfl)) k2 bel lt2) trodAll_mk0))),rfl,bel.frame _,fun h => by cases h⟩
theorem over : Rows.fnExactContractMarkedRow.holds Tryz.pinned (OpenSpec.ofChange Rows.fnExactContractMarkedSpec) :=
 OpenClaim.holds_of_wide 4 Tryz.f4 rfl rfl rfl rfl rfl rfl rfl ⟨rfl,rfl,rfl,rfl,rfl⟩ rfl rfl rfl rfl rfl (by kernel_rfl) Tryz.func4 closed
  (of_decide_eq_true (by kernel_rfl)) (by unfold Func.isWrapper; first | (rw [if_pos (by decide +kernel)]; kernel_rfl) | (rw [if_neg (by decide +kernel)]; exact ⟨rfl,rfl⟩))
  (fun os started H enc _ => lifted os started H enc)
theorem proved : Rows.FnExactContractMarkedSaid := over
end Go.Proofs.YtjdinbgcgbigoaaGreat.lawContractMarked
