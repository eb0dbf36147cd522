/-
  The statement FnExactNewService: what reads at a law's type is a datum, the walk, the plain law, the row's frame. Printed by wip/ab/genlaw.py.
-/
import Derived.Test.YtclmbjbbojdojaaGreatRows
import Derived.Test.YtclmbjbbojdojaaGreatWlkN
import Derived.Test.YtclmbjbbojdojaaGreatAbZ
import Derived.Test.YtclmbjbbojdojaaGreatFcNewService
import Derived.Test.YtclmbjbbojdojaaGreatPqNewService
namespace Go.Proofs.YtclmbjbbojdojaaGreat.lawNewService
set_option linter.unusedVariables false
set_option linter.unusedSimpArgs false
open Go.ChangeShapes Go.WideShapes Go.ChangeAt Go.RowKit Go.Proofs.YtclmbjbbojdojaaGreat Go.Proofs.YtclmbjbbojdojaaGreat.Ab
open Go.ChangeMaps (open_string shut_string)
theorem U7 (n:Nat) (ds:List Go.Proofs.YtclmbjbbojdojaaGreat.D) (h:EX Tryz.prog n 254 ds):∃x:Ab.Port,cvC ds=x.ds:=by
 obtain⟨m0,hm0,h⟩:=P5 Tryz.underlying254 h
 simp only [OT] at h
 obtain⟨d1,r1,h1,⟨d2,r2,h2,rfl,rfl⟩,rfl⟩:=h
 obtain⟨z1,rfl⟩:=GQ Tryz.underlying2 h1
 obtain⟨z2,rfl⟩:=GQ Tryz.underlying2 h2
 refine⟨⟨z1,z2⟩,?_⟩
 rw [Ab.Port.ds_eq]
 simp only [JS,cvC,cv,List.cons_append,List.nil_append,List.append_nil]
theorem Tw (n:Nat) (ds:List Go.Proofs.YtclmbjbbojdojaaGreat.D) (h:EX Tryz.prog n 123 ds):∃x:Ab.Agent,cvC ds=x.ds:=by
 obtain⟨m0,hm0,h⟩:=P5 Tryz.underlying123 h
 simp only [OT] at h
 obtain⟨d1,r1,h1,⟨d2,r2,h2,⟨d3,r3,h3,⟨d4,r4,h4,⟨d5,r5,h5,rfl,rfl⟩,rfl⟩,rfl⟩,rfl⟩,rfl⟩:=h
 obtain⟨z1,rfl⟩:=GQ Tryz.underlying2 h1
 obtain⟨z2,rfl⟩:=GQ Tryz.underlying2 h2
 obtain⟨z3,rfl⟩:=GQ Tryz.underlying2 h3
 obtain⟨z4,ez4⟩:=Mz AJ Tryz.underlying25 (fun m x hm hx=>by obtain⟨z,rfl⟩:=GQ Tryz.underlying2 hx; exact⟨z,rfl⟩) h4
 obtain⟨z5,ez5⟩:=Mz Ab.Port.ds Tryz.underlying121 (fun m x hm hx=>U7 m x hx) h5
 refine⟨⟨z1,z2,z3,z4,z5⟩,?_⟩
 rw [Ab.Agent.ds_eq]
 simp only [JS,ez4,ez5,cvC,cv,List.cons_append,List.nil_append,List.append_nil]
theorem XG (n:Nat) (ds:List Go.Proofs.YtclmbjbbojdojaaGreat.D) (h:EX Tryz.prog n 24 ds):∃x:Ab.Net,cvC ds=x.ds:=by
 obtain⟨m0,hm0,h⟩:=P5 Tryz.underlying24 h
 simp only [OT] at h
 obtain⟨d1,r1,h1,rfl,rfl⟩:=h
 obtain⟨z1,ez1⟩:=Mz Ab.Agent.ds Tryz.underlying22 (fun m x hm hx=>Tw m x hx) h1
 refine⟨⟨z1⟩,?_⟩
 rw [Ab.Net.ds_eq]
 simp only [JS,ez1,cvC,cv,List.cons_append,List.nil_append,List.append_nil]
theorem lK (cs0:Array Value) (dd0:List Go.Proofs.YtclmbjbbojdojaaGreat.D) (n0:Nat) (ht0:EX Tryz.prog n0 24 dd0) (a1:Option Addr) (len1 cap1:Nat) (dd1:List Go.Proofs.YtclmbjbbojdojaaGreat.D) (n1:Nat) (ht1:EX Tryz.prog n1 25 dd1) (x2:Int) (wf2:(Lit.int IntKind.i64 x2).wf =true) (w:World) (hsh:w.ShapedOpen Tryz.prog) (h0:Go.Proofs.YtclmbjbbojdojaaGreat.Reps w dd0 (Value.agg cs0).cells.toList) (h1:Go.Proofs.YtclmbjbbojdojaaGreat.Reps w dd1 (Value.slice a1 len1 cap1).cells.toList):
  Calls Tryz.prog 3 #[.agg cs0,.slice a1 len1 cap1,.int .i64 x2] w fun e w'=>e= .returned (.bool true)∧Below w.heap.size w w':=by
 obtain⟨y0,ey0⟩:=XG _ _ ht0
 obtain⟨hv0,hk0⟩:=P4 h0
 rw [ey0] at hv0 hk0
 have ha0:(List.map ofD y0.ds)=y0.avs:=by rw [Ab.Net.ds_eq]; rfl
 rw [ha0] at hv0
 obtain⟨y1,ey1⟩:=Mz AJ Tryz.underlying25 (fun m x hm hx=>by obtain⟨z,rfl⟩:=GQ Tryz.underlying2 hx; exact⟨z,rfl⟩) ht1
 obtain⟨hv1,hk1⟩:=P4 h1
 rw [ey1] at hv1 hk1
 obtain⟨u1,us1,eu1,hw1,-⟩:=hv1
 obtain rfl:u1= .slice a1 len1 cap1:=by simpa [Value.cells] using (List.cons.inj eu1).1.symm
 have hl:=JT _ _ _ _ (Nl y0 hk0 y1 hk1 x2 wf2)
 refine XF hl hsh (by kernel_rfl) trivial ?_
 simp only [AI]
 exact⟨_,_,rfl,Yt hv0,⟨_,_,rfl,hw1,⟨_,_,rfl,(VSim.of_rep (d:=.int .i64 x2) ⟨rfl,wf2⟩),rfl⟩⟩⟩
theorem own:ownKnob Tryz.prog.godebug=none:=by kernel_rfl
theorem SF:laidOutB Tryz.prog=true:=by kernel_rfl
theorem okS:SG Tryz.prog [24,22,123,2,25,121,254] =true:=by kernel_rfl
set_option maxRecDepth 100000 in
theorem lifted (os:Os) (started:os.Started) (H:Type) (enc:TypeId × Value→H):
  ReturnsInHanded {} Tryz.checked os 3 .any (Rows.fnExactNewServiceSpec.pre6 enc Tryz.prog Tryz.f3 Rows.fnExactNewServiceRow.domain false) (Rows.fnExactNewServiceSpec.post enc Tryz.prog Tryz.f3 false true false false):=by
 refine returnsInHanded_of_change_shaped (C:=Tryz.checked) own started (by kernel_rfl) Tryz.func3
  (ChangeSpec.witness6 (enc:=enc) (C:=Tryz.checked) false ⟨#[],#[.agg #[.slice none 0 0],.slice none 0 0,.int .i64 0],[]⟩ 8 (by kernel_rfl) (by kernel_rfl) (by kernel_rfl) (by kernel_rfl)) ?_
 intro W base args ds gs before hval0 hW hcnd _ hsh _
 have hval:∀ (j:Nat) t v,Tryz.f3.params[j]? =some t→args[j]? =some v→Value.okWide Tryz.prog W .any base t v:=hval0
 have hW':=hW
 obtain⟨p,q,hA0,hV,rfl,hfz,hnd⟩:=hW
 have hA:DataW.TrodAll enc Tryz.prog W 0 (fun _=>true) true Tryz.f3.params.toList args.toList ds p:=hA0
 rw [Tryz.params3] at hA hval
 obtain⟨v0,vs0,d0,ds0,p0,q0,hargs,rfl,rfl,h0,r0⟩:=trodAll_cons hA
 obtain⟨v1,vs1,d1,ds1,p1,q1,rfl,rfl,rfl,h1,r1⟩:=trodAll_cons r0
 obtain⟨v2,vs2,d2,ds2,p2,q2,rfl,rfl,rfl,h2,r2⟩:=trodAll_cons r1
 obtain⟨rfl,rfl,rfl⟩:=trodAll_nil r2
 obtain rfl:args= #[v0,v1,v2] :=by cases args; simp_all
 obtain⟨rfl,rfl⟩:=trodVars_none hV
 have k0:=h0
 have lt0:∀x ∈ p0,x.block<W.heap.size:=by obtain⟨m,hm⟩:=k0; exact DataW.trod_lt m _ _ _ hm
 obtain⟨cs0,rfl,-,-⟩:=Qa (by kernel_rfl) (hval 0 24 v0 rfl rfl)
 obtain⟨fu0,hf0⟩:=h0
 obtain⟨dd0,ty0,re0⟩:=Gb _ okS fu0 _ _ _ (by decide) hf0
 have k1:=h1
 have lt1:∀x ∈ p1,x.block<W.heap.size:=by obtain⟨m,hm⟩:=k1; exact DataW.trod_lt m _ _ _ hm
 obtain⟨a1,len1,cap1,rfl⟩:=okWide_slice Tryz.underlying25 (hval 1 25 v1 rfl rfl)
 obtain⟨fu1,hf1⟩:=h1
 obtain⟨dd1,ty1,re1⟩:=Gb _ okS fu1 _ _ _ (by decide) hf1
 have k2:=h2
 have lt2:∀x ∈ p2,x.block<W.heap.size:=by obtain⟨m,hm⟩:=k2; exact DataW.trod_lt m _ _ _ hm
 obtain⟨x2,rfl,rfl,rfl,wf2⟩:=open_int Tryz.underlying2 (hval 2 2 v2 rfl rfl) h2
 clear hA0 hval0
 refine(lK _ dd0 fu0 ty0 _ _ _ dd1 fu1 ty1 x2 wf2 W hsh re0 re1).mono fun e W' ⟨he,bel⟩=>?_
 subst he
 exact⟨_,rfl,_,_,_,[],_,[],hW',trodAll_mk1 (shut_bool Tryz.underlying4 _),(trodAll_cons_mk (Below.trod SF (by kernel_rfl) (of_decide_eq_true (by kernel_rfl)) k0 bel lt0) (trodAll_cons_mk (Below.trod SF (by kernel_rfl) (of_decide_eq_true (by kernel_rfl)) k1 bel lt1) (trodAll_cons_mk (Below.trod SF (by kernel_rfl) (of_decide_eq_true (by kernel_rfl)) k2 bel lt2) trodAll_mk0))),rfl,bel.frame _,fun h=>by cases h⟩
theorem lL:Rows.fnExactNewServiceRow.holds Tryz.pinned (OpenSpec.ofChange Rows.fnExactNewServiceSpec):=
 OpenClaim.holds_of_wide 3 Tryz.f3 rfl rfl rfl rfl rfl rfl rfl ⟨rfl,rfl,rfl,rfl,rfl⟩ rfl rfl rfl rfl rfl (by kernel_rfl) Tryz.func3 closed
  (of_decide_eq_true (by kernel_rfl)) (by unfold Func.isWrapper; first|(rw [if_pos (by decide+kernel)]; kernel_rfl)|(rw [if_neg (by decide+kernel)]; exact⟨rfl,rfl⟩))
  (fun os started H enc _=>lifted os started H enc)
theorem proved:Rows.FnExactNewServiceSaid:=lL
end Go.Proofs.YtclmbjbbojdojaaGreat.lawNewService
