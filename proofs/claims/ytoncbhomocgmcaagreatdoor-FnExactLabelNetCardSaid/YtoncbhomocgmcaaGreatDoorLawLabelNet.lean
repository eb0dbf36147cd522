/-
  The statement FnExactLabelNet: what reads at a law's type is a datum, the walk, the plain law, the row's frame. Printed by wip/ab/genlaw.py.
-/
import Derived.Test.YtoncbhomocgmcaaGreatDoorRows
import Derived.Test.YtoncbhomocgmcaaGreatDoorWlkL
import Derived.Test.YtoncbhomocgmcaaGreatDoorAbZ
import Derived.Test.YtoncbhomocgmcaaGreatDoorFcLabelNet
import Derived.Test.YtoncbhomocgmcaaGreatDoorPqLabelNet
import Derived.Test.YtoncbhomocgmcaaGreatDoorCards
import Derived.Test.YtoncbhomocgmcaaGreatDoorTie
import Derived.Test.YtoncbhomocgmcaaGreatDoorTied
import Derived.Lay
import Derived.Stop.Joined
namespace Go.Proofs.YtoncbhomocgmcaaGreatDoor.lawLabelNet
set_option linter.unusedVariables false
set_option linter.unusedSimpArgs false
open Go.ChangeShapes Go.WideShapes Go.ChangeAt Go.RowKit Go.Proofs.YtoncbhomocgmcaaGreatDoor Go.Proofs.YtoncbhomocgmcaaGreatDoor.Ab
open Go.ChangeMaps (open_string shut_string)
theorem Tj (n:Nat) (ds:List Go.Proofs.YtoncbhomocgmcaaGreatDoor.D) (h:Dg Tryz.prog n 134 ds):∃x:Ab.Port,cvC ds=x.ds:=by
 obtain⟨m0,hm0,h⟩:=OC Tryz.underlying134 h
 simp only [MU] at h
 obtain⟨d1,r1,h1,⟨d2,r2,h2,rfl,rfl⟩,rfl⟩:=h
 obtain⟨z1,rfl⟩:=Fg Tryz.underlying2 h1
 obtain⟨z2,rfl⟩:=Fg Tryz.underlying2 h2
 refine⟨⟨z1,z2⟩,?_⟩
 rw [Ab.Port.ds_eq]
 simp only [Hg,cvC,cv,List.cons_append,List.nil_append,List.append_nil]
theorem SK (n:Nat) (ds:List Go.Proofs.YtoncbhomocgmcaaGreatDoor.D) (h:Dg Tryz.prog n 64 ds):∃x:Ab.Agent,cvC ds=x.ds:=by
 obtain⟨m0,hm0,h⟩:=OC Tryz.underlying64 h
 simp only [MU] at h
 obtain⟨d1,r1,h1,⟨d2,r2,h2,⟨d3,r3,h3,⟨d4,r4,h4,⟨d5,r5,h5,rfl,rfl⟩,rfl⟩,rfl⟩,rfl⟩,rfl⟩:=h
 obtain⟨z1,rfl⟩:=Fg Tryz.underlying2 h1
 obtain⟨z2,rfl⟩:=Fg Tryz.underlying2 h2
 obtain⟨z3,rfl⟩:=Fg Tryz.underlying2 h3
 obtain⟨z4,ez4⟩:=OD AB Tryz.underlying26 (fun m x hm hx=>by obtain⟨z,rfl⟩:=Fg Tryz.underlying2 hx; exact⟨z,rfl⟩) h4
 obtain⟨z5,ez5⟩:=OD Ab.Port.ds Tryz.underlying62 (fun m x hm hx=>Tj m x hx) h5
 refine⟨⟨z1,z2,z3,z4,z5⟩,?_⟩
 rw [Ab.Agent.ds_eq]
 simp only [Hg,ez4,ez5,cvC,cv,List.cons_append,List.nil_append,List.append_nil]
theorem WA (n:Nat) (ds:List Go.Proofs.YtoncbhomocgmcaaGreatDoor.D) (h:Dg Tryz.prog n 24 ds):∃x:Ab.Net,cvC ds=x.ds:=by
 obtain⟨m0,hm0,h⟩:=OC Tryz.underlying24 h
 simp only [MU] at h
 obtain⟨d1,r1,h1,rfl,rfl⟩:=h
 obtain⟨z1,ez1⟩:=OD Ab.Agent.ds Tryz.underlying22 (fun m x hm hx=>SK m x hx) h1
 refine⟨⟨z1⟩,?_⟩
 rw [Ab.Net.ds_eq]
 simp only [Hg,ez1,cvC,cv,List.cons_append,List.nil_append,List.append_nil]
theorem mw (cs0:Array Value) (dd0:List Go.Proofs.YtoncbhomocgmcaaGreatDoor.D) (n0:Nat) (ht0:Dg Tryz.prog n0 24 dd0) (w:World) (hsh:w.ShapedOpen Tryz.prog) (hamb:Amb Tryz.prog w) (h0:Go.Proofs.YtoncbhomocgmcaaGreatDoor.Reps w dd0 (Value.agg cs0).cells.toList):
  Calls Tryz.prog 3 #[.agg cs0] w fun e w'=>e= .returned (.bool true)∧Below w.heap.size w w':=by
 obtain⟨y0,ey0⟩:=WA _ _ ht0
 obtain⟨hv0,hk0⟩:=SJ h0
 rw [ey0] at hv0 hk0
 have ha0:(List.map ofD y0.ds)=y0.avs:=by rw [Ab.Net.ds_eq]; rfl
 rw [ha0] at hv0
 have hl:=Il _ _ (OF y0 hk0)
 refine V9 hl hsh (by kernel_rfl) hamb ?_
 simp only [AD]
 exact⟨_,_,rfl,Xu hv0,rfl⟩
theorem own:ownKnob Tryz.prog.godebug=none:=by kernel_rfl
theorem Zw:laidOutB Tryz.prog=true:=by kernel_rfl
theorem okS:Qd Tryz.prog [24,22,64,2,26,62,134] =true:=by kernel_rfl
def laid:List (String × DataW Unit):=Rows.fnExactLabelNetRow.laid
set_option maxRecDepth 100000 in
theorem lifted (os:Os) (started:os.Started) (H:Type) (enc:TypeId × Value→H):
  ReturnsInHanded {} Tryz.checked os 3 .any (fun w args=>(Rows.fnExactLabelNetSpec.pre enc Tryz.prog Tryz.f3 Rows.fnExactLabelNetRow.domain false w args∧laidMetH Tryz.prog laid w)∧sizedMet enc Tryz.prog Tryz.f3 (OpenSpec.ofChange Rows.fnExactLabelNetSpec) false w args)
   (Rows.fnExactLabelNetSpec.post enc Tryz.prog Tryz.f3 false true false false):=by
 refine Me (C:=Tryz.checked) (X:=fun w _=>laidMetH Tryz.prog laid w) (fun _ _ _ hh h=>h.of_heap hh) own started (by kernel_rfl) Tryz.func3
  (ChangeSpec.witness_shaped (enc:=enc) (C:=Tryz.checked) (os:=os) (X:=fun w _=>laidMetH Tryz.prog laid w) false (World.laidAll Tryz.prog os laid) #[.agg #[.slice none 0 0]] 8 (World.laidAll_os _ _ _)
   (World.shaped_of_ZipB (by kernel_rfl) (by kernel_rfl)) (by kernel_rfl) (by kernel_rfl) (by kernel_rfl)
   (by rw [MakeChecks.laidMetH_plain _ _ _ (by kernel_rfl)]; exact laidMet_laidAll _ (by kernel_rfl) (by kernel_rfl))) ?_
 intro W base args ds gs before hval0 hW hL hsh
 have hamb:Amb Tryz.prog W:=SL hL
 have hval:∀ (j:Nat) t v,Tryz.f3.params[j]? =some t→args[j]? =some v→Value.okWide Tryz.prog W .any base t v:=hval0
 have hW':=hW
 obtain⟨p,q,hA0,hV,rfl,hfz,hnd⟩:=hW
 have hA:DataW.TrodAll enc Tryz.prog W 0 (fun _=>true) true Tryz.f3.params.toList args.toList ds p:=hA0
 rw [Tryz.params3] at hA hval
 obtain⟨v0,vs0,d0,ds0,p0,q0,hargs,rfl,rfl,h0,r0⟩:=trodAll_cons hA
 obtain⟨rfl,rfl,rfl⟩:=trodAll_nil r0
 obtain rfl:args= #[v0] :=by cases args; simp_all
 obtain⟨rfl,rfl⟩:=trodVars_none hV
 have k0:=h0
 have lt0:∀x ∈ p0,x.block<W.heap.size:=by obtain⟨m,hm⟩:=k0; exact DataW.trod_lt m _ _ _ hm
 obtain⟨cs0,rfl,-,-⟩:=Oh (by kernel_rfl) (hval 0 24 v0 rfl rfl)
 obtain⟨fu0,hf0⟩:=h0
 obtain⟨dd0,ty0,re0⟩:=Gl _ okS fu0 _ _ _ (by decide) hf0
 clear hA0 hval0
 refine(mw _ dd0 fu0 ty0 W hsh hamb re0).mono fun e W' ⟨he,bel⟩=>?_
 subst he
 exact⟨_,rfl,_,_,_,[],_,[],hW',trodAll_mk1 (shut_bool Tryz.underlying4 _),(trodAll_cons_mk (Below.trod Zw (by kernel_rfl) (of_decide_eq_true (by kernel_rfl)) k0 bel lt0) trodAll_mk0),rfl,bel.frame _,fun h=>by cases h⟩
theorem mx:Rows.fnExactLabelNetRow.holds Tryz.pinned (OpenSpec.ofChange Rows.fnExactLabelNetSpec):=
 OpenClaim.holds_of_wide 3 Tryz.f3 rfl rfl rfl rfl rfl rfl rfl ⟨rfl,rfl,rfl,rfl,rfl⟩ rfl rfl rfl rfl rfl (by kernel_rfl) Tryz.func3 closed
  (of_decide_eq_true (by kernel_rfl)) (by unfold Func.isWrapper; first|(rw [if_pos (by decide+kernel)]; kernel_rfl)|(rw [if_neg (by decide+kernel)]; exact⟨rfl,rfl⟩))
  (fun os started H enc _=>lifted os started H enc)
theorem proved:Rows.FnExactLabelNetCardSaid:=
 Claim7.holds_tied_plain_at .later [] [.data,.data,.data] true (true, "3f6ede0fca271016660981af213a0cdedeb1e405ca4150beeedd743c3c203df6") false mx (fun _ h=>by cases h) (by kernel_rfl) (fun _ h=>by cases h) fnExactLabelNet_row_tie rfl ⟨rfl,rfl⟩ (by kernel_rfl) rfl
  (fun f fn hf hfn=>by
   obtain rfl:f=3:=Option.some.inj ((show Tryz.prog.funcNamed Rows.fnExactLabelNetRow.func=some 3 by kernel_rfl).symm.trans hf) |>.symm
   obtain rfl:fn=Tryz.f3:=(Option.some.inj (Tryz.func3.symm.trans hfn)).symm
   exact⟨by kernel_rfl,fun j t ht=>by
    rw [Tryz.params3] at ht
    rcases j with _|j
    ·simp at ht; subst ht; kernel_rfl
    simp at ht⟩) (by kernel_rfl)
end Go.Proofs.YtoncbhomocgmcaaGreatDoor.lawLabelNet
