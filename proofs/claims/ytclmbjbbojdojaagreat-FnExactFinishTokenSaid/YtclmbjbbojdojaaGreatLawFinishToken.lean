/-
  The statement FnExactFinishToken: what reads at a law's type is a datum, the walk, the plain law, the row's frame. Printed by wip/ab/genlaw.py.
-/
import Derived.Test.YtclmbjbbojdojaaGreatRows
import Derived.Test.YtclmbjbbojdojaaGreatWlkF
import Derived.Test.YtclmbjbbojdojaaGreatAbZ
import Derived.Test.YtclmbjbbojdojaaGreatFcFinishToken
import Derived.Test.YtclmbjbbojdojaaGreatPqFinishToken
namespace Go.Proofs.YtclmbjbbojdojaaGreat.lawFinishToken
set_option linter.unusedVariables false
set_option linter.unusedSimpArgs false
open Go.ChangeShapes Go.WideShapes Go.ChangeAt Go.RowKit Go.Proofs.YtclmbjbbojdojaaGreat Go.Proofs.YtclmbjbbojdojaaGreat.Ab
open Go.ChangeMaps (open_string shut_string)
theorem FC (n:Nat) (ds:List Go.Proofs.YtclmbjbbojdojaaGreat.D) (h:D7 Tryz.prog n 58 ds):∃x:Ab.Address,cvC ds=x.ds:=by
 obtain⟨m0,hm0,h⟩:=H6 Tryz.underlying58 h
 simp only [Kt] at h
 obtain⟨d1,r1,h1,⟨d2,r2,h2,⟨d3,r3,h3,rfl,rfl⟩,rfl⟩,rfl⟩:=h
 obtain⟨z1,rfl⟩:=Dp Tryz.underlying2 h1
 obtain⟨z2,rfl⟩:=Dp Tryz.underlying2 h2
 obtain⟨z3,rfl⟩:=Dp Tryz.underlying2 h3
 refine⟨⟨z1,z2,z3⟩,?_⟩
 rw [Ab.Address.ds_eq]
 simp only [FB,cvC,cv,List.cons_append,List.nil_append,List.append_nil]
theorem MV (n:Nat) (ds:List Go.Proofs.YtclmbjbbojdojaaGreat.D) (h:D7 Tryz.prog n 281 ds):∃x:Ab.ShardCell,cvC ds=x.ds:=by
 obtain⟨m0,hm0,h⟩:=H6 Tryz.underlying281 h
 simp only [Kt] at h
 obtain⟨d1,r1,h1,⟨d2,r2,h2,⟨d3,r3,h3,⟨d4,r4,h4,⟨d5,r5,h5,rfl,rfl⟩,rfl⟩,rfl⟩,rfl⟩,rfl⟩:=h
 obtain⟨z1,rfl⟩:=Dp Tryz.underlying2 h1
 obtain⟨z2,rfl⟩:=Dp Tryz.underlying2 h2
 obtain⟨z3,rfl⟩:=Dp Tryz.underlying2 h3
 obtain⟨z4,ez4⟩:=FX AB Tryz.underlying25 (fun m x hm hx=>by obtain⟨z,rfl⟩:=Dp Tryz.underlying2 hx; exact⟨z,rfl⟩) h4
 obtain⟨z5,ez5⟩:=FX Ab.Address.ds Tryz.underlying279 (fun m x hm hx=>FC m x hx) h5
 refine⟨⟨z1,z2,z3,z4,z5⟩,?_⟩
 rw [Ab.ShardCell.ds_eq]
 simp only [FB,ez4,ez5,cvC,cv,List.cons_append,List.nil_append,List.append_nil]
theorem Un (n:Nat) (ds:List Go.Proofs.YtclmbjbbojdojaaGreat.D) (h:D7 Tryz.prog n 338 ds):∃x:Ab.ShardVar,cvC ds=x.ds:=by
 obtain⟨m0,hm0,h⟩:=H6 Tryz.underlying338 h
 simp only [Kt] at h
 obtain⟨d1,r1,h1,⟨d2,r2,h2,⟨d3,r3,h3,rfl,rfl⟩,rfl⟩,rfl⟩:=h
 obtain⟨z1,rfl⟩:=KE Tryz.underlying4 h1
 obtain⟨z2,rfl⟩:=KE Tryz.underlying4 h2
 obtain⟨z3,ez3⟩:=FC _ _ h3
 refine⟨⟨z1,z2,z3⟩,?_⟩
 rw [Ab.ShardVar.ds_eq]
 simp only [FB,ez3,Ab.Address.ds_eq,cvC,cv,List.cons_append,List.nil_append,List.append_nil]
theorem Rp (n:Nat) (ds:List Go.Proofs.YtclmbjbbojdojaaGreat.D) (h:D7 Tryz.prog n 341 ds):∃x:Ab.ShardRedex,cvC ds=x.ds:=by
 obtain⟨m0,hm0,h⟩:=H6 Tryz.underlying341 h
 simp only [Kt] at h
 obtain⟨d1,r1,h1,⟨d2,r2,h2,rfl,rfl⟩,rfl⟩:=h
 obtain⟨z1,ez1⟩:=FC _ _ h1
 obtain⟨z2,ez2⟩:=FC _ _ h2
 refine⟨⟨z1,z2⟩,?_⟩
 rw [Ab.ShardRedex.ds_eq]
 simp only [FB,ez1,ez2,Ab.Address.ds_eq,cvC,cv,List.cons_append,List.nil_append,List.append_nil]
theorem Yx (n:Nat) (ds:List Go.Proofs.YtclmbjbbojdojaaGreat.D) (h:D7 Tryz.prog n 277 ds):∃x:Ab.Shard,cvC ds=x.ds:=by
 obtain⟨m0,hm0,h⟩:=H6 Tryz.underlying277 h
 simp only [Kt] at h
 obtain⟨d1,r1,h1,⟨d2,r2,h2,⟨d3,r3,h3,rfl,rfl⟩,rfl⟩,rfl⟩:=h
 obtain⟨z1,ez1⟩:=FX Ab.ShardCell.ds Tryz.underlying273 (fun m x hm hx=>MV m x hx) h1
 obtain⟨z2,ez2⟩:=FX Ab.ShardVar.ds Tryz.underlying274 (fun m x hm hx=>Un m x hx) h2
 obtain⟨z3,ez3⟩:=FX Ab.ShardRedex.ds Tryz.underlying275 (fun m x hm hx=>Rp m x hx) h3
 refine⟨⟨z1,z2,z3⟩,?_⟩
 rw [Ab.Shard.ds_eq]
 simp only [FB,ez1,ez2,ez3,cvC,cv,List.cons_append,List.nil_append,List.append_nil]
theorem aO (n:Nat) (ds:List Go.Proofs.YtclmbjbbojdojaaGreat.D) (h:D7 Tryz.prog n 60 ds):∃x:Ab.Grid,cvC ds=x.ds:=by
 obtain⟨m0,hm0,h⟩:=H6 Tryz.underlying60 h
 simp only [Kt] at h
 obtain⟨d1,r1,h1,⟨d2,r2,h2,rfl,rfl⟩,rfl⟩:=h
 obtain⟨z1,ez1⟩:=FX Ab.Shard.ds Tryz.underlying57 (fun m x hm hx=>Yx m x hx) h1
 obtain⟨z2,ez2⟩:=FC _ _ h2
 refine⟨⟨z1,z2⟩,?_⟩
 rw [Ab.Grid.ds_eq]
 simp only [FB,ez1,ez2,Ab.Address.ds_eq,cvC,cv,List.cons_append,List.nil_append,List.append_nil]
theorem XN (n:Nat) (ds:List Go.Proofs.YtclmbjbbojdojaaGreat.D) (h:D7 Tryz.prog n 283 ds):∃x:Ab.Parcel,cvC ds=x.ds:=by
 obtain⟨m0,hm0,h⟩:=H6 Tryz.underlying283 h
 simp only [Kt] at h
 obtain⟨d1,r1,h1,⟨d2,r2,h2,⟨d3,r3,h3,⟨d4,r4,h4,rfl,rfl⟩,rfl⟩,rfl⟩,rfl⟩:=h
 obtain⟨z1,rfl⟩:=Dp Tryz.underlying2 h1
 obtain⟨z2,ez2⟩:=MV _ _ h2
 obtain⟨z3,ez3⟩:=FC _ _ h3
 obtain⟨z4,ez4⟩:=FC _ _ h4
 refine⟨⟨z1,z2,z3,z4⟩,?_⟩
 rw [Ab.Parcel.ds_eq]
 simp only [FB,ez2,ez3,ez4,Ab.Address.ds_eq,Ab.ShardCell.ds_eq,cvC,cv,List.cons_append,List.nil_append,List.append_nil]
theorem VW (n:Nat) (ds:List Go.Proofs.YtclmbjbbojdojaaGreat.D) (h:D7 Tryz.prog n 63 ds):∃x:Ab.Cluster,cvC ds=x.ds:=by
 obtain⟨m0,hm0,h⟩:=H6 Tryz.underlying63 h
 simp only [Kt] at h
 obtain⟨d1,r1,h1,⟨d2,r2,h2,⟨d3,r3,h3,⟨d4,r4,h4,⟨d5,r5,h5,rfl,rfl⟩,rfl⟩,rfl⟩,rfl⟩,rfl⟩:=h
 obtain⟨z1,ez1⟩:=aO _ _ h1
 obtain⟨z2,ez2⟩:=FX (slD Ab.Parcel.ds) Tryz.underlying61 (fun m x hm hx=>by obtain⟨z,hz⟩:=FX Ab.Parcel.ds Tryz.underlying212 (fun m x hm hx=>XN m x hx) hx; exact⟨z,by rw [hz]; rfl⟩) h2
 obtain⟨z3,ez3⟩:=FX (slD AB) Tryz.underlying33 (fun m x hm hx=>by obtain⟨z,hz⟩:=FX AB Tryz.underlying25 (fun m x hm hx=>by obtain⟨z,rfl⟩:=Dp Tryz.underlying2 hx; exact⟨z,rfl⟩) hx; exact⟨z,by rw [hz]; rfl⟩) h3
 obtain⟨z4,ez4⟩:=FX AB Tryz.underlying25 (fun m x hm hx=>by obtain⟨z,rfl⟩:=Dp Tryz.underlying2 hx; exact⟨z,rfl⟩) h4
 obtain⟨z5,ez5⟩:=FX AB Tryz.underlying25 (fun m x hm hx=>by obtain⟨z,rfl⟩:=Dp Tryz.underlying2 hx; exact⟨z,rfl⟩) h5
 refine⟨⟨z1,z2,z3,z4,z5⟩,?_⟩
 rw [Ab.Cluster.ds_eq]
 simp only [FB,ez1,ez2,ez3,ez4,ez5,Ab.Grid.ds_eq,cvC,cv,List.cons_append,List.nil_append,List.append_nil]
theorem Uo (n:Nat) (ds:List Go.Proofs.YtclmbjbbojdojaaGreat.D) (h:D7 Tryz.prog n 75 ds):∃x:Ab.Detector,cvC ds=x.ds:=by
 obtain⟨m0,hm0,h⟩:=H6 Tryz.underlying75 h
 simp only [Kt] at h
 obtain⟨d1,r1,h1,⟨d2,r2,h2,⟨d3,r3,h3,⟨d4,r4,h4,⟨d5,r5,h5,⟨d6,r6,h6,⟨d7,r7,h7,rfl,rfl⟩,rfl⟩,rfl⟩,rfl⟩,rfl⟩,rfl⟩,rfl⟩:=h
 obtain⟨z1,ez1⟩:=VW _ _ h1
 obtain⟨z2,rfl⟩:=Dp Tryz.underlying2 h2
 obtain⟨z3,rfl⟩:=Dp Tryz.underlying2 h3
 obtain⟨z4,rfl⟩:=KE Tryz.underlying4 h4
 obtain⟨z5,ez5⟩:=FX BA Tryz.underlying36 (fun m x hm hx=>by obtain⟨z,rfl⟩:=KE Tryz.underlying4 hx; exact⟨z,rfl⟩) h5
 obtain⟨z6,rfl⟩:=Dp Tryz.underlying2 h6
 obtain⟨z7,rfl⟩:=KE Tryz.underlying4 h7
 refine⟨⟨z1,z2,z3,z4,z5,z6,z7⟩,?_⟩
 rw [Ab.Detector.ds_eq]
 simp only [FB,ez1,ez5,Ab.Cluster.ds_eq,cvC,cv,List.cons_append,List.nil_append,List.append_nil]
theorem tF (cs0:Array Value) (dd0:List Go.Proofs.YtclmbjbbojdojaaGreat.D) (n0:Nat) (ht0:D7 Tryz.prog n0 75 dd0) (x1:Int) (wf1:(Lit.int IntKind.i64 x1).wf =true) (w:World) (hsh:w.ShapedOpen Tryz.prog) (h0:Go.Proofs.YtclmbjbbojdojaaGreat.Reps w dd0 (Value.agg cs0).cells.toList):
  Calls Tryz.prog 5 #[.agg cs0,.int .i64 x1] w fun e w'=>e= .returned (.bool true)∧Below w.heap.size w w':=by
 obtain⟨y0,ey0⟩:=Uo _ _ ht0
 obtain⟨hv0,hk0⟩:=Yw h0
 rw [ey0] at hv0 hk0
 have ha0:(List.map ofD y0.ds)=y0.avs:=by rw [Ab.Detector.ds_eq]; rfl
 rw [ha0] at hv0
 have hl:=LY _ _ _ (QY y0 hk0 x1 wf1)
 refine di hl hsh (by kernel_rfl) trivial ?_
 simp only [AH]
 exact⟨_,_,rfl,gE hv0,⟨_,_,rfl,(VSim.of_rep (d:=.int .i64 x1) ⟨rfl,wf1⟩),rfl⟩⟩
theorem own:ownKnob Tryz.prog.godebug=none:=by kernel_rfl
theorem bu:laidOutB Tryz.prog=true:=by kernel_rfl
theorem okS:XO Tryz.prog [75,63,60,57,277,273,281,2,25,279,58,274,338,4,275,341,61,212,283,33,36] =true:=by kernel_rfl
set_option maxRecDepth 100000 in
theorem lifted (os:Os) (started:os.Started) (H:Type) (enc:TypeId × Value→H):
  ReturnsInHanded {} Tryz.checked os 5 .any (Rows.fnExactFinishTokenSpec.pre6 enc Tryz.prog Tryz.f5 Rows.fnExactFinishTokenRow.domain false) (Rows.fnExactFinishTokenSpec.post enc Tryz.prog Tryz.f5 false true false false):=by
 refine returnsInHanded_of_change_shaped (C:=Tryz.checked) own started (by kernel_rfl) Tryz.func5
  (ChangeSpec.witness6 (enc:=enc) (C:=Tryz.checked) false ⟨#[],#[.agg #[.slice none 0 0,.int .i64 0,.int .i64 0,.int .i64 0,.slice none 0 0,.slice none 0 0,.slice none 0 0,.slice none 0 0,.int .i64 0,.int .i64 0,.bool false,.slice none 0 0,.int .i64 0,.bool false],.int .i64 0],[]⟩ 8 (by kernel_rfl) (by kernel_rfl) (by kernel_rfl) (by kernel_rfl)) ?_
 intro W base args ds gs before hval0 hW hcnd _ hsh _
 have hval:∀ (j:Nat) t v,Tryz.f5.params[j]? =some t→args[j]? =some v→Value.okWide Tryz.prog W .any base t v:=hval0
 have hW':=hW
 obtain⟨p,q,hA0,hV,rfl,hfz,hnd⟩:=hW
 have hA:DataW.TrodAll enc Tryz.prog W 0 (fun _=>true) true Tryz.f5.params.toList args.toList ds p:=hA0
 rw [Tryz.params5] at hA hval
 obtain⟨v0,vs0,d0,ds0,p0,q0,hargs,rfl,rfl,h0,r0⟩:=trodAll_cons hA
 obtain⟨v1,vs1,d1,ds1,p1,q1,rfl,rfl,rfl,h1,r1⟩:=trodAll_cons r0
 obtain⟨rfl,rfl,rfl⟩:=trodAll_nil r1
 obtain rfl:args= #[v0,v1] :=by cases args; simp_all
 obtain⟨rfl,rfl⟩:=trodVars_none hV
 have k0:=h0
 have lt0:∀x ∈ p0,x.block<W.heap.size:=by obtain⟨m,hm⟩:=k0; exact DataW.trod_lt m _ _ _ hm
 obtain⟨cs0,rfl,-,-⟩:=VX (by kernel_rfl) (hval 0 75 v0 rfl rfl)
 obtain⟨fu0,hf0⟩:=h0
 obtain⟨dd0,ty0,re0⟩:=K9 _ okS fu0 _ _ _ (by decide) hf0
 have k1:=h1
 have lt1:∀x ∈ p1,x.block<W.heap.size:=by obtain⟨m,hm⟩:=k1; exact DataW.trod_lt m _ _ _ hm
 obtain⟨x1,rfl,rfl,rfl,wf1⟩:=open_int Tryz.underlying2 (hval 1 2 v1 rfl rfl) h1
 clear hA0 hval0
 refine(tF _ dd0 fu0 ty0 x1 wf1 W hsh re0).mono fun e W' ⟨he,bel⟩=>?_
 subst he
 exact⟨_,rfl,_,_,_,[],_,[],hW',trodAll_mk1 (shut_bool Tryz.underlying4 _),(trodAll_cons_mk (Below.trod bu (by kernel_rfl) (of_decide_eq_true (by kernel_rfl)) k0 bel lt0) (trodAll_cons_mk (Below.trod bu (by kernel_rfl) (of_decide_eq_true (by kernel_rfl)) k1 bel lt1) trodAll_mk0)),rfl,bel.frame _,fun h=>by cases h⟩
theorem tG:Rows.fnExactFinishTokenRow.holds Tryz.pinned (OpenSpec.ofChange Rows.fnExactFinishTokenSpec):=
 OpenClaim.holds_of_wide 5 Tryz.f5 rfl rfl rfl rfl rfl rfl rfl ⟨rfl,rfl,rfl,rfl,rfl⟩ rfl rfl rfl rfl rfl (by kernel_rfl) Tryz.func5 closed
  (of_decide_eq_true (by kernel_rfl)) (by unfold Func.isWrapper; first|(rw [if_pos (by decide+kernel)]; kernel_rfl)|(rw [if_neg (by decide+kernel)]; exact⟨rfl,rfl⟩))
  (fun os started H enc _=>lifted os started H enc)
theorem proved:Rows.FnExactFinishTokenSaid:=tG
end Go.Proofs.YtclmbjbbojdojaaGreat.lawFinishToken
