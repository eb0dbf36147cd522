/-
  The statement FnExactOrientInteract: what reads at a law's type is a datum, the walk, the plain law, the row's frame. Printed by wip/ab/genlaw.py.
-/
import Derived.Test.YteckcjgpnegkjaaGreatRows
import Derived.Test.YteckcjgpnegkjaaGreatWlkO
import Derived.Test.YteckcjgpnegkjaaGreatAbZ
import Derived.Test.YteckcjgpnegkjaaGreatFcOrientInteract
import Derived.Test.YteckcjgpnegkjaaGreatPqOrientInteract
namespace Go.Proofs.YteckcjgpnegkjaaGreat.lawOrientInteract
set_option linter.unusedVariables false
set_option linter.unusedSimpArgs false
open Go.ChangeShapes Go.WideShapes Go.ChangeAt Go.RowKit Go.Proofs.YteckcjgpnegkjaaGreat Go.Proofs.YteckcjgpnegkjaaGreat.Ab
open Go.ChangeMaps (open_string shut_string)
theorem YT (n:Nat) (ds:List Go.Proofs.YteckcjgpnegkjaaGreat.D) (h:D8 Tryz.prog n 159 ds):∃x:Ab.Port,cvC ds=x.ds:=by
 obtain⟨m0,hm0,h⟩:=SP Tryz.underlying159 h
 simp only [Qm] at h
 obtain⟨d1,r1,h1,⟨d2,r2,h2,rfl,rfl⟩,rfl⟩:=h
 obtain⟨z1,rfl⟩:=I3 Tryz.underlying2 h1
 obtain⟨z2,rfl⟩:=I3 Tryz.underlying2 h2
 refine⟨⟨z1,z2⟩,?_⟩
 rw [Ab.Port.ds_eq]
 simp only [LR,cvC,cv,List.cons_append,List.nil_append,List.append_nil]
theorem Wo (n:Nat) (ds:List Go.Proofs.YteckcjgpnegkjaaGreat.D) (h:D8 Tryz.prog n 79 ds):∃x:Ab.Agent,cvC ds=x.ds:=by
 obtain⟨m0,hm0,h⟩:=SP Tryz.underlying79 h
 simp only [Qm] at h
 obtain⟨d1,r1,h1,⟨d2,r2,h2,⟨d3,r3,h3,⟨d4,r4,h4,⟨d5,r5,h5,rfl,rfl⟩,rfl⟩,rfl⟩,rfl⟩,rfl⟩:=h
 obtain⟨z1,rfl⟩:=I3 Tryz.underlying2 h1
 obtain⟨z2,rfl⟩:=I3 Tryz.underlying2 h2
 obtain⟨z3,rfl⟩:=I3 Tryz.underlying2 h3
 obtain⟨z4,ez4⟩:=MV Ar Tryz.underlying58 (fun m x hm hx=>by obtain⟨z,rfl⟩:=I3 Tryz.underlying2 hx; exact⟨z,rfl⟩) h4
 obtain⟨z5,ez5⟩:=MV Ab.Port.ds Tryz.underlying77 (fun m x hm hx=>YT m x hx) h5
 refine⟨⟨z1,z2,z3,z4,z5⟩,?_⟩
 rw [Ab.Agent.ds_eq]
 simp only [LR,ez4,ez5,cvC,cv,List.cons_append,List.nil_append,List.append_nil]
theorem UJ (n:Nat) (ds:List Go.Proofs.YteckcjgpnegkjaaGreat.D) (h:D8 Tryz.prog n 25 ds):∃x:Ab.Net,cvC ds=x.ds:=by
 obtain⟨m0,hm0,h⟩:=SP Tryz.underlying25 h
 simp only [Qm] at h
 obtain⟨d1,r1,h1,rfl,rfl⟩:=h
 obtain⟨z1,ez1⟩:=MV Ab.Agent.ds Tryz.underlying23 (fun m x hm hx=>Wo m x hx) h1
 refine⟨⟨z1⟩,?_⟩
 rw [Ab.Net.ds_eq]
 simp only [LR,ez1,cvC,cv,List.cons_append,List.nil_append,List.append_nil]
theorem rP (a0:Option Addr) (len0 cap0:Nat) (dd0:List Go.Proofs.YteckcjgpnegkjaaGreat.D) (n0:Nat) (ht0:D8 Tryz.prog n0 22 dd0) (cs1:Array Value) (dd1:List Go.Proofs.YteckcjgpnegkjaaGreat.D) (n1:Nat) (ht1:D8 Tryz.prog n1 25 dd1) (a2:Option Addr) (len2 cap2:Nat) (dd2:List Go.Proofs.YteckcjgpnegkjaaGreat.D) (n2:Nat) (ht2:D8 Tryz.prog n2 26 dd2) (x3:Int) (wf3:(Lit.int IntKind.i64 x3).wf =true) (w:World) (hsh:w.ShapedOpen Tryz.prog) (h0:Go.Proofs.YteckcjgpnegkjaaGreat.Reps w dd0 (Value.slice a0 len0 cap0).cells.toList) (h1:Go.Proofs.YteckcjgpnegkjaaGreat.Reps w dd1 (Value.agg cs1).cells.toList) (h2:Go.Proofs.YteckcjgpnegkjaaGreat.Reps w dd2 (Value.slice a2 len2 cap2).cells.toList):
  Calls Tryz.prog 3 #[.slice a0 len0 cap0,.agg cs1,.slice a2 len2 cap2,.int .i64 x3] w fun e w'=>e= .returned (.bool true)∧Below w.heap.size w w':=by
 obtain⟨y0,ey0⟩:=MV Ab.Net.ds Tryz.underlying22 (fun m x hm hx=>UJ m x hx) ht0
 obtain⟨hv0,hk0⟩:=PC h0
 rw [ey0] at hv0 hk0
 obtain⟨u0,us0,eu0,hw0,-⟩:=hv0
 obtain rfl:u0= .slice a0 len0 cap0:=by simpa [Value.cells] using (List.cons.inj eu0).1.symm
 obtain⟨y1,ey1⟩:=UJ _ _ ht1
 obtain⟨hv1,hk1⟩:=PC h1
 rw [ey1] at hv1 hk1
 have ha1:(List.map ofD y1.ds)=y1.avs:=by rw [Ab.Net.ds_eq]; rfl
 rw [ha1] at hv1
 obtain⟨y2,ey2⟩:=MV AO Tryz.underlying26 (fun m x hm hx=>by obtain⟨z,rfl⟩:=YR Tryz.underlying4 hx; exact⟨z,rfl⟩) ht2
 obtain⟨hv2,hk2⟩:=PC h2
 rw [ey2] at hv2 hk2
 obtain⟨u2,us2,eu2,hw2,-⟩:=hv2
 obtain rfl:u2= .slice a2 len2 cap2:=by simpa [Value.cells] using (List.cons.inj eu2).1.symm
 have hl:=JR _ _ _ _ _ (MW y0 hk0 y1 hk1 y2 hk2 x3 wf3)
 refine ay hl hsh (by kernel_rfl) trivial ?_
 simp only [AK]
 exact⟨_,_,rfl,hw0,⟨_,_,rfl,dn hv1,⟨_,_,rfl,hw2,⟨_,_,rfl,(VSim.of_rep (d:=.int .i64 x3) ⟨rfl,wf3⟩),rfl⟩⟩⟩⟩
theorem own:ownKnob Tryz.prog.godebug=none:=by kernel_rfl
theorem RJ:laidOutB Tryz.prog=true:=by kernel_rfl
theorem okS:Uz Tryz.prog [22,25,23,79,2,58,77,159,26,4] =true:=by kernel_rfl
set_option maxRecDepth 100000 in
theorem lifted (os:Os) (started:os.Started) (H:Type) (enc:TypeId × Value→H):
  ReturnsInHanded {} Tryz.checked os 3 .any (Rows.fnExactOrientInteractSpec.pre6 enc Tryz.prog Tryz.f3 Rows.fnExactOrientInteractRow.domain false) (Rows.fnExactOrientInteractSpec.post enc Tryz.prog Tryz.f3 false true false false):=by
 refine returnsInHanded_of_change_shaped (C:=Tryz.checked) own started (by kernel_rfl) Tryz.func3
  (ChangeSpec.witness6 (enc:=enc) (C:=Tryz.checked) false ⟨#[],#[.slice none 0 0,.agg #[.slice none 0 0],.slice none 0 0,.int .i64 0],[]⟩ 8 (by kernel_rfl) (by kernel_rfl) (by kernel_rfl) (by kernel_rfl)) ?_
 intro W base args ds gs before hval0 hW hcnd _ hsh _
 have hval:∀ (j:Nat) t v,Tryz.f3.params[j]? =some t→args[j]? =some v→Value.okWide Tryz.prog W .any base t v:=hval0
 have hW':=hW
 obtain⟨p,q,hA0,hV,rfl,hfz,hnd⟩:=hW
 have hA:DataW.TrodAll enc Tryz.prog W 0 (fun _=>true) true Tryz.f3.params.toList args.toList ds p:=hA0
 rw [Tryz.params3] at hA hval
 obtain⟨v0,vs0,d0,ds0,p0,q0,hargs,rfl,rfl,h0,r0⟩:=trodAll_cons hA
 obtain⟨v1,vs1,d1,ds1,p1,q1,rfl,rfl,rfl,h1,r1⟩:=trodAll_cons r0
 obtain⟨v2,vs2,d2,ds2,p2,q2,rfl,rfl,rfl,h2,r2⟩:=trodAll_cons r1
 obtain⟨v3,vs3,d3,ds3,p3,q3,rfl,rfl,rfl,h3,r3⟩:=trodAll_cons r2
 obtain⟨rfl,rfl,rfl⟩:=trodAll_nil r3
 obtain rfl:args= #[v0,v1,v2,v3] :=by cases args; simp_all
 obtain⟨rfl,rfl⟩:=trodVars_none hV
 have k0:=h0
 have lt0:∀x ∈ p0,x.block<W.heap.size:=by obtain⟨m,hm⟩:=k0; exact DataW.trod_lt m _ _ _ hm
 obtain⟨a0,len0,cap0,rfl⟩:=okWide_slice Tryz.underlying22 (hval 0 22 v0 rfl rfl)
 obtain⟨fu0,hf0⟩:=h0
 obtain⟨dd0,ty0,re0⟩:=GQ _ okS fu0 _ _ _ (by decide) hf0
 have k1:=h1
 have lt1:∀x ∈ p1,x.block<W.heap.size:=by obtain⟨m,hm⟩:=k1; exact DataW.trod_lt m _ _ _ hm
 obtain⟨cs1,rfl,-,-⟩:=TH (by kernel_rfl) (hval 1 25 v1 rfl rfl)
 obtain⟨fu1,hf1⟩:=h1
 obtain⟨dd1,ty1,re1⟩:=GQ _ okS fu1 _ _ _ (by decide) hf1
 have k2:=h2
 have lt2:∀x ∈ p2,x.block<W.heap.size:=by obtain⟨m,hm⟩:=k2; exact DataW.trod_lt m _ _ _ hm
 obtain⟨a2,len2,cap2,rfl⟩:=okWide_slice Tryz.underlying26 (hval 2 26 v2 rfl rfl)
 obtain⟨fu2,hf2⟩:=h2
 obtain⟨dd2,ty2,re2⟩:=GQ _ okS fu2 _ _ _ (by decide) hf2
 have k3:=h3
 have lt3:∀x ∈ p3,x.block<W.heap.size:=by obtain⟨m,hm⟩:=k3; exact DataW.trod_lt m _ _ _ hm
 obtain⟨x3,rfl,rfl,rfl,wf3⟩:=open_int Tryz.underlying2 (hval 3 2 v3 rfl rfl) h3
 clear hA0 hval0
 refine(rP _ _ _ dd0 fu0 ty0 _ dd1 fu1 ty1 _ _ _ dd2 fu2 ty2 x3 wf3 W hsh re0 re1 re2).mono fun e W' ⟨he,bel⟩=>?_
 subst he
 exact⟨_,rfl,_,_,_,[],_,[],hW',trodAll_mk1 (shut_bool Tryz.underlying4 _),(trodAll_cons_mk (Below.trod RJ (by kernel_rfl) (of_decide_eq_true (by kernel_rfl)) k0 bel lt0) (trodAll_cons_mk (Below.trod RJ (by kernel_rfl) (of_decide_eq_true (by kernel_rfl)) k1 bel lt1) (trodAll_cons_mk (Below.trod RJ (by kernel_rfl) (of_decide_eq_true (by kernel_rfl)) k2 bel lt2) (trodAll_cons_mk (Below.trod RJ (by kernel_rfl) (of_decide_eq_true (by kernel_rfl)) k3 bel lt3) trodAll_mk0)))),rfl,bel.frame _,fun h=>by cases h⟩
theorem rQ:Rows.fnExactOrientInteractRow.holds Tryz.pinned (OpenSpec.ofChange Rows.fnExactOrientInteractSpec):=
 OpenClaim.holds_of_wide 3 Tryz.f3 rfl rfl rfl rfl rfl rfl rfl ⟨rfl,rfl,rfl,rfl,rfl⟩ rfl rfl rfl rfl rfl (by kernel_rfl) Tryz.func3 closed
  (of_decide_eq_true (by kernel_rfl)) (by unfold Func.isWrapper; first|(rw [if_pos (by decide+kernel)]; kernel_rfl)|(rw [if_neg (by decide+kernel)]; exact⟨rfl,rfl⟩))
  (fun os started H enc _=>lifted os started H enc)
theorem proved:Rows.FnExactOrientInteractSaid:=rQ
end Go.Proofs.YteckcjgpnegkjaaGreat.lawOrientInteract
