/-
  The statement FnExactProfileText: what reads at a law's type is a datum, the walk, the plain law, the row's frame. Printed by wip/ab/genlaw.py.
-/
import Derived.Test.YteckcjgpnegkjaaGreatDoorRows
import Derived.Test.YteckcjgpnegkjaaGreatDoorWlkP
import Derived.Test.YteckcjgpnegkjaaGreatDoorAbZ
import Derived.Test.YteckcjgpnegkjaaGreatDoorFcProfileText
import Derived.Test.YteckcjgpnegkjaaGreatDoorPqProfileText
import Derived.Test.YteckcjgpnegkjaaGreatDoorCards
import Derived.Test.YteckcjgpnegkjaaGreatDoorTie
import Derived.Test.YteckcjgpnegkjaaGreatDoorTied
import Derived.Lay
import Derived.Stop.Joined
namespace Go.Proofs.YteckcjgpnegkjaaGreatDoor.lawProfileText
set_option linter.unusedVariables false
set_option linter.unusedSimpArgs false
open Go.ChangeShapes Go.WideShapes Go.ChangeAt Go.RowKit Go.Proofs.YteckcjgpnegkjaaGreatDoor Go.Proofs.YteckcjgpnegkjaaGreatDoor.Ab
open Go.ChangeMaps (open_string shut_string)
theorem W7 (n:Nat) (ds:List Go.Proofs.YteckcjgpnegkjaaGreatDoor.D) (h:Ed Tryz.prog n 210 ds):∃x:Ab.Port,cvC ds=x.ds:=by
 obtain⟨m0,hm0,h⟩:=Q6 Tryz.underlying210 h
 simp only [PX] at h
 obtain⟨d1,r1,h1,⟨d2,r2,h2,rfl,rfl⟩,rfl⟩:=h
 obtain⟨z1,rfl⟩:=H2 Tryz.underlying2 h1
 obtain⟨z2,rfl⟩:=H2 Tryz.underlying2 h2
 refine⟨⟨z1,z2⟩,?_⟩
 rw [Ab.Port.ds_eq]
 simp only [KM,cvC,cv,List.cons_append,List.nil_append,List.append_nil]
theorem VM (n:Nat) (ds:List Go.Proofs.YteckcjgpnegkjaaGreatDoor.D) (h:Ed Tryz.prog n 98 ds):∃x:Ab.Agent,cvC ds=x.ds:=by
 obtain⟨m0,hm0,h⟩:=Q6 Tryz.underlying98 h
 simp only [PX] at h
 obtain⟨d1,r1,h1,⟨d2,r2,h2,⟨d3,r3,h3,⟨d4,r4,h4,⟨d5,r5,h5,rfl,rfl⟩,rfl⟩,rfl⟩,rfl⟩,rfl⟩:=h
 obtain⟨z1,rfl⟩:=H2 Tryz.underlying2 h1
 obtain⟨z2,rfl⟩:=H2 Tryz.underlying2 h2
 obtain⟨z3,rfl⟩:=H2 Tryz.underlying2 h3
 obtain⟨z4,ez4⟩:=Ny AS Tryz.underlying26 (fun m x hm hx=>by obtain⟨z,rfl⟩:=H2 Tryz.underlying2 hx; exact⟨z,rfl⟩) h4
 obtain⟨z5,ez5⟩:=Ny Ab.Port.ds Tryz.underlying96 (fun m x hm hx=>W7 m x hx) h5
 refine⟨⟨z1,z2,z3,z4,z5⟩,?_⟩
 rw [Ab.Agent.ds_eq]
 simp only [KM,ez4,ez5,cvC,cv,List.cons_append,List.nil_append,List.append_nil]
theorem Sr (n:Nat) (ds:List Go.Proofs.YteckcjgpnegkjaaGreatDoor.D) (h:Ed Tryz.prog n 25 ds):∃x:Ab.Net,cvC ds=x.ds:=by
 obtain⟨m0,hm0,h⟩:=Q6 Tryz.underlying25 h
 simp only [PX] at h
 obtain⟨d1,r1,h1,rfl,rfl⟩:=h
 obtain⟨z1,ez1⟩:=Ny Ab.Agent.ds Tryz.underlying23 (fun m x hm hx=>VM m x hx) h1
 refine⟨⟨z1⟩,?_⟩
 rw [Ab.Net.ds_eq]
 simp only [KM,ez1,cvC,cv,List.cons_append,List.nil_append,List.append_nil]
theorem qT (a0:Option Addr) (len0 cap0:Nat) (dd0:List Go.Proofs.YteckcjgpnegkjaaGreatDoor.D) (n0:Nat) (ht0:Ed Tryz.prog n0 22 dd0) (cs1:Array Value) (dd1:List Go.Proofs.YteckcjgpnegkjaaGreatDoor.D) (n1:Nat) (ht1:Ed Tryz.prog n1 25 dd1) (x2:Int) (wf2:(Lit.int IntKind.i64 x2).wf =true) (w:World) (hsh:w.ShapedOpen Tryz.prog) (hamb:Amb Tryz.prog w) (h0:Go.Proofs.YteckcjgpnegkjaaGreatDoor.Reps w dd0 (Value.slice a0 len0 cap0).cells.toList) (h1:Go.Proofs.YteckcjgpnegkjaaGreatDoor.Reps w dd1 (Value.agg cs1).cells.toList):
  Calls Tryz.prog 4 #[.slice a0 len0 cap0,.agg cs1,.int .i64 x2] w fun e w'=>e= .returned (.bool true)∧Below w.heap.size w w':=by
 obtain⟨y0,ey0⟩:=Ny Ab.Net.ds Tryz.underlying22 (fun m x hm hx=>Sr m x hx) ht0
 obtain⟨hv0,hk0⟩:=Q5 h0
 rw [ey0] at hv0 hk0
 obtain⟨u0,us0,eu0,hw0,-⟩:=hv0
 obtain rfl:u0= .slice a0 len0 cap0:=by simpa [Value.cells] using (List.cons.inj eu0).1.symm
 obtain⟨y1,ey1⟩:=Sr _ _ ht1
 obtain⟨hv1,hk1⟩:=Q5 h1
 rw [ey1] at hv1 hk1
 have ha1:(List.map ofD y1.ds)=y1.avs:=by rw [Ab.Net.ds_eq]; rfl
 rw [ha1] at hv1
 have hl:=Jf _ _ _ _ (Nz y0 hk0 y1 hk1 x2 wf2)
 refine ZW hl hsh (by kernel_rfl) hamb ?_
 simp only [AK]
 exact⟨_,_,rfl,hw0,⟨_,_,rfl,cH hv1,⟨_,_,rfl,(VSim.of_rep (d:=.int .i64 x2) ⟨rfl,wf2⟩),rfl⟩⟩⟩
theorem own:ownKnob Tryz.prog.godebug=none:=by kernel_rfl
theorem TX:laidOutB Tryz.prog=true:=by kernel_rfl
theorem okS:TY Tryz.prog [22,25,23,98,2,26,96,210] =true:=by kernel_rfl
def laid:List (String × DataW Unit):=Rows.fnExactProfileTextRow.laid
set_option maxRecDepth 100000 in
theorem lifted (os:Os) (started:os.Started) (H:Type) (enc:TypeId × Value→H):
  ReturnsInHanded {} Tryz.checked os 4 .any (fun w args=>(Rows.fnExactProfileTextSpec.pre enc Tryz.prog Tryz.f4 Rows.fnExactProfileTextRow.domain false w args∧laidMetH Tryz.prog laid w)∧sizedMet enc Tryz.prog Tryz.f4 (OpenSpec.ofChange Rows.fnExactProfileTextSpec) false w args)
   (Rows.fnExactProfileTextSpec.post enc Tryz.prog Tryz.f4 false true false false):=by
 refine Ph (C:=Tryz.checked) (X:=fun w _=>laidMetH Tryz.prog laid w) (fun _ _ _ hh h=>h.of_heap hh) own started (by kernel_rfl) Tryz.func4
  (ChangeSpec.witness_shaped (enc:=enc) (C:=Tryz.checked) (os:=os) (X:=fun w _=>laidMetH Tryz.prog laid w) false (World.laidAll Tryz.prog os laid) #[.slice none 0 0,.agg #[.slice none 0 0],.int .i64 0] 8 (World.laidAll_os _ _ _)
   (World.shaped_of_ZipB (by kernel_rfl) (by kernel_rfl)) (by kernel_rfl) (by kernel_rfl) (by kernel_rfl)
   (by rw [MakeChecks.laidMetH_plain _ _ _ (by kernel_rfl)]; exact laidMet_laidAll _ (by kernel_rfl) (by kernel_rfl))) ?_
 intro W base args ds gs before hval0 hW hL hsh
 have hamb:Amb Tryz.prog W:=VN hL
 have hval:∀ (j:Nat) t v,Tryz.f4.params[j]? =some t→args[j]? =some v→Value.okWide Tryz.prog W .any base t v:=hval0
 have hW':=hW
 obtain⟨p,q,hA0,hV,rfl,hfz,hnd⟩:=hW
 have hA:DataW.TrodAll enc Tryz.prog W 0 (fun _=>true) true Tryz.f4.params.toList args.toList ds p:=hA0
 rw [Tryz.params4] at hA hval
 obtain⟨v0,vs0,d0,ds0,p0,q0,hargs,rfl,rfl,h0,r0⟩:=trodAll_cons hA
 obtain⟨v1,vs1,d1,ds1,p1,q1,rfl,rfl,rfl,h1,r1⟩:=trodAll_cons r0
 obtain⟨v2,vs2,d2,ds2,p2,q2,rfl,rfl,rfl,h2,r2⟩:=trodAll_cons r1
 obtain⟨rfl,rfl,rfl⟩:=trodAll_nil r2
 obtain rfl:args= #[v0,v1,v2] :=by cases args; simp_all
 obtain⟨rfl,rfl⟩:=trodVars_none hV
 have k0:=h0
 have lt0:∀x ∈ p0,x.block<W.heap.size:=by obtain⟨m,hm⟩:=k0; exact DataW.trod_lt m _ _ _ hm
 obtain⟨a0,len0,cap0,rfl⟩:=okWide_slice Tryz.underlying22 (hval 0 22 v0 rfl rfl)
 obtain⟨fu0,hf0⟩:=h0
 obtain⟨dd0,ty0,re0⟩:=Gz _ okS fu0 _ _ _ (by decide) hf0
 have k1:=h1
 have lt1:∀x ∈ p1,x.block<W.heap.size:=by obtain⟨m,hm⟩:=k1; exact DataW.trod_lt m _ _ _ hm
 obtain⟨cs1,rfl,-,-⟩:=Rr (by kernel_rfl) (hval 1 25 v1 rfl rfl)
 obtain⟨fu1,hf1⟩:=h1
 obtain⟨dd1,ty1,re1⟩:=Gz _ okS fu1 _ _ _ (by decide) hf1
 have k2:=h2
 have lt2:∀x ∈ p2,x.block<W.heap.size:=by obtain⟨m,hm⟩:=k2; exact DataW.trod_lt m _ _ _ hm
 obtain⟨x2,rfl,rfl,rfl,wf2⟩:=open_int Tryz.underlying2 (hval 2 2 v2 rfl rfl) h2
 clear hA0 hval0
 refine(qT _ _ _ dd0 fu0 ty0 _ dd1 fu1 ty1 x2 wf2 W hsh hamb re0 re1).mono fun e W' ⟨he,bel⟩=>?_
 subst he
 exact⟨_,rfl,_,_,_,[],_,[],hW',trodAll_mk1 (shut_bool Tryz.underlying4 _),(trodAll_cons_mk (Below.trod TX (by kernel_rfl) (of_decide_eq_true (by kernel_rfl)) k0 bel lt0) (trodAll_cons_mk (Below.trod TX (by kernel_rfl) (of_decide_eq_true (by kernel_rfl)) k1 bel lt1) (trodAll_cons_mk (Below.trod TX (by kernel_rfl) (of_decide_eq_true (by kernel_rfl)) k2 bel lt2) trodAll_mk0))),rfl,bel.frame _,fun h=>by cases h⟩
theorem qU:Rows.fnExactProfileTextRow.holds Tryz.pinned (OpenSpec.ofChange Rows.fnExactProfileTextSpec):=
 OpenClaim.holds_of_wide 4 Tryz.f4 rfl rfl rfl rfl rfl rfl rfl ⟨rfl,rfl,rfl,rfl,rfl⟩ rfl rfl rfl rfl rfl (by kernel_rfl) Tryz.func4 closed
  (of_decide_eq_true (by kernel_rfl)) (by unfold Func.isWrapper; first|(rw [if_pos (by decide+kernel)]; kernel_rfl)|(rw [if_neg (by decide+kernel)]; exact⟨rfl,rfl⟩))
  (fun os started H enc _=>lifted os started H enc)
theorem proved:Rows.FnExactProfileTextCardSaid:=
 Claim7.holds_tied_plain_at .later [] [.data,.data,.data] true (true, "e40a84a478573d8f7996449b15638ab7f93324579eb1184a43e39812bb5b2701") false qU (fun _ h=>by cases h) (by kernel_rfl) (fun _ h=>by cases h) fnExactProfileText_row_tie rfl ⟨rfl,rfl⟩ (by kernel_rfl) rfl
  (fun f fn hf hfn=>by
   obtain rfl:f=4:=Option.some.inj ((show Tryz.prog.funcNamed Rows.fnExactProfileTextRow.func=some 4 by kernel_rfl).symm.trans hf) |>.symm
   obtain rfl:fn=Tryz.f4:=(Option.some.inj (Tryz.func4.symm.trans hfn)).symm
   exact⟨by kernel_rfl,fun j t ht=>by
    rw [Tryz.params4] at ht
    rcases j with _|j
    ·simp at ht; subst ht; kernel_rfl
    rcases j with _|j
    ·simp at ht; subst ht; kernel_rfl
    rcases j with _|j
    ·simp at ht; subst ht; kernel_rfl
    simp at ht⟩) (by kernel_rfl)
end Go.Proofs.YteckcjgpnegkjaaGreatDoor.lawProfileText
