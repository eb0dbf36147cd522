/-
  The statement FnExactValidService: what reads at a law's type is a datum, the walk, the plain law, the row's frame. Printed by wip/ab/genlaw.py.
-/
import Derived.Test.YtclmbjbbojdojaaGreatRows
import Derived.Test.YtclmbjbbojdojaaGreatWlkV
import Derived.Test.YtclmbjbbojdojaaGreatAbZ
import Derived.Test.YtclmbjbbojdojaaGreatFcValidService
import Derived.Test.YtclmbjbbojdojaaGreatPqValidService
namespace Go.Proofs.YtclmbjbbojdojaaGreat.lawValidService
set_option linter.unusedVariables false
set_option linter.unusedSimpArgs false
open Go.ChangeShapes Go.WideShapes Go.ChangeAt Go.RowKit Go.Proofs.YtclmbjbbojdojaaGreat Go.Proofs.YtclmbjbbojdojaaGreat.Ab
open Go.ChangeMaps (open_string shut_string)
theorem ET (n:Nat) (ds:List Go.Proofs.YtclmbjbbojdojaaGreat.D) (h:C4 Tryz.prog n 58 ds):∃x:Ab.Address,cvC ds=x.ds:=by
 obtain⟨m0,hm0,h⟩:=FnZ Tryz.underlying58 h
 simp only [If] at h
 obtain⟨d1,r1,h1,⟨d2,r2,h2,⟨d3,r3,h3,rfl,rfl⟩,rfl⟩,rfl⟩:=h
 obtain⟨z1,rfl⟩:=DF Tryz.underlying2 h1
 obtain⟨z2,rfl⟩:=DF Tryz.underlying2 h2
 obtain⟨z3,rfl⟩:=DF Tryz.underlying2 h3
 refine⟨⟨z1,z2,z3⟩,?_⟩
 rw [Ab.Address.ds_eq]
 simp only [DJ,cvC,cv,List.cons_append,List.nil_append,List.append_nil]
theorem K4 (n:Nat) (ds:List Go.Proofs.YtclmbjbbojdojaaGreat.D) (h:C4 Tryz.prog n 281 ds):∃x:Ab.ShardCell,cvC ds=x.ds:=by
 obtain⟨m0,hm0,h⟩:=FnZ Tryz.underlying281 h
 simp only [If] at h
 obtain⟨d1,r1,h1,⟨d2,r2,h2,⟨d3,r3,h3,⟨d4,r4,h4,⟨d5,r5,h5,rfl,rfl⟩,rfl⟩,rfl⟩,rfl⟩,rfl⟩:=h
 obtain⟨z1,rfl⟩:=DF Tryz.underlying2 h1
 obtain⟨z2,rfl⟩:=DF Tryz.underlying2 h2
 obtain⟨z3,rfl⟩:=DF Tryz.underlying2 h3
 obtain⟨z4,ez4⟩:=CP AB Tryz.underlying25 (fun m x hm hx=>by obtain⟨z,rfl⟩:=DF Tryz.underlying2 hx; exact⟨z,rfl⟩) h4
 obtain⟨z5,ez5⟩:=CP Ab.Address.ds Tryz.underlying279 (fun m x hm hx=>ET m x hx) h5
 refine⟨⟨z1,z2,z3,z4,z5⟩,?_⟩
 rw [Ab.ShardCell.ds_eq]
 simp only [DJ,ez4,ez5,cvC,cv,List.cons_append,List.nil_append,List.append_nil]
theorem SX (n:Nat) (ds:List Go.Proofs.YtclmbjbbojdojaaGreat.D) (h:C4 Tryz.prog n 338 ds):∃x:Ab.ShardVar,cvC ds=x.ds:=by
 obtain⟨m0,hm0,h⟩:=FnZ Tryz.underlying338 h
 simp only [If] at h
 obtain⟨d1,r1,h1,⟨d2,r2,h2,⟨d3,r3,h3,rfl,rfl⟩,rfl⟩,rfl⟩:=h
 obtain⟨z1,rfl⟩:=Ks Tryz.underlying4 h1
 obtain⟨z2,rfl⟩:=Ks Tryz.underlying4 h2
 obtain⟨z3,ez3⟩:=ET _ _ h3
 refine⟨⟨z1,z2,z3⟩,?_⟩
 rw [Ab.ShardVar.ds_eq]
 simp only [DJ,ez3,Ab.Address.ds_eq,cvC,cv,List.cons_append,List.nil_append,List.append_nil]
theorem P4 (n:Nat) (ds:List Go.Proofs.YtclmbjbbojdojaaGreat.D) (h:C4 Tryz.prog n 341 ds):∃x:Ab.ShardRedex,cvC ds=x.ds:=by
 obtain⟨m0,hm0,h⟩:=FnZ Tryz.underlying341 h
 simp only [If] at h
 obtain⟨d1,r1,h1,⟨d2,r2,h2,rfl,rfl⟩,rfl⟩:=h
 obtain⟨z1,ez1⟩:=ET _ _ h1
 obtain⟨z2,ez2⟩:=ET _ _ h2
 refine⟨⟨z1,z2⟩,?_⟩
 rw [Ab.ShardRedex.ds_eq]
 simp only [DJ,ez1,ez2,Ab.Address.ds_eq,cvC,cv,List.cons_append,List.nil_append,List.append_nil]
theorem Qn (n:Nat) (ds:List Go.Proofs.YtclmbjbbojdojaaGreat.D) (h:C4 Tryz.prog n 277 ds):∃x:Ab.Shard,cvC ds=x.ds:=by
 obtain⟨m0,hm0,h⟩:=FnZ Tryz.underlying277 h
 simp only [If] at h
 obtain⟨d1,r1,h1,⟨d2,r2,h2,⟨d3,r3,h3,rfl,rfl⟩,rfl⟩,rfl⟩:=h
 obtain⟨z1,ez1⟩:=CP Ab.ShardCell.ds Tryz.underlying273 (fun m x hm hx=>K4 m x hx) h1
 obtain⟨z2,ez2⟩:=CP Ab.ShardVar.ds Tryz.underlying274 (fun m x hm hx=>SX m x hx) h2
 obtain⟨z3,ez3⟩:=CP Ab.ShardRedex.ds Tryz.underlying275 (fun m x hm hx=>P4 m x hx) h3
 refine⟨⟨z1,z2,z3⟩,?_⟩
 rw [Ab.Shard.ds_eq]
 simp only [DJ,ez1,ez2,ez3,cvC,cv,List.cons_append,List.nil_append,List.append_nil]
theorem X3 (n:Nat) (ds:List Go.Proofs.YtclmbjbbojdojaaGreat.D) (h:C4 Tryz.prog n 60 ds):∃x:Ab.Grid,cvC ds=x.ds:=by
 obtain⟨m0,hm0,h⟩:=FnZ Tryz.underlying60 h
 simp only [If] at h
 obtain⟨d1,r1,h1,⟨d2,r2,h2,rfl,rfl⟩,rfl⟩:=h
 obtain⟨z1,ez1⟩:=CP Ab.Shard.ds Tryz.underlying57 (fun m x hm hx=>Qn m x hx) h1
 obtain⟨z2,ez2⟩:=ET _ _ h2
 refine⟨⟨z1,z2⟩,?_⟩
 rw [Ab.Grid.ds_eq]
 simp only [DJ,ez1,ez2,Ab.Address.ds_eq,cvC,cv,List.cons_append,List.nil_append,List.append_nil]
theorem Ol (n:Nat) (ds:List Go.Proofs.YtclmbjbbojdojaaGreat.D) (h:C4 Tryz.prog n 283 ds):∃x:Ab.Parcel,cvC ds=x.ds:=by
 obtain⟨m0,hm0,h⟩:=FnZ Tryz.underlying283 h
 simp only [If] at h
 obtain⟨d1,r1,h1,⟨d2,r2,h2,⟨d3,r3,h3,⟨d4,r4,h4,rfl,rfl⟩,rfl⟩,rfl⟩,rfl⟩:=h
 obtain⟨z1,rfl⟩:=DF Tryz.underlying2 h1
 obtain⟨z2,ez2⟩:=K4 _ _ h2
 obtain⟨z3,ez3⟩:=ET _ _ h3
 obtain⟨z4,ez4⟩:=ET _ _ h4
 refine⟨⟨z1,z2,z3,z4⟩,?_⟩
 rw [Ab.Parcel.ds_eq]
 simp only [DJ,ez2,ez3,ez4,Ab.Address.ds_eq,Ab.ShardCell.ds_eq,cvC,cv,List.cons_append,List.nil_append,List.append_nil]
theorem Mz (n:Nat) (ds:List Go.Proofs.YtclmbjbbojdojaaGreat.D) (h:C4 Tryz.prog n 63 ds):∃x:Ab.Cluster,cvC ds=x.ds:=by
 obtain⟨m0,hm0,h⟩:=FnZ Tryz.underlying63 h
 simp only [If] at h
 obtain⟨d1,r1,h1,⟨d2,r2,h2,⟨d3,r3,h3,⟨d4,r4,h4,⟨d5,r5,h5,rfl,rfl⟩,rfl⟩,rfl⟩,rfl⟩,rfl⟩:=h
 obtain⟨z1,ez1⟩:=X3 _ _ h1
 obtain⟨z2,ez2⟩:=CP (slD Ab.Parcel.ds) Tryz.underlying61 (fun m x hm hx=>by obtain⟨z,hz⟩:=CP Ab.Parcel.ds Tryz.underlying212 (fun m x hm hx=>Ol m x hx) hx; exact⟨z,by rw [hz]; rfl⟩) h2
 obtain⟨z3,ez3⟩:=CP (slD AB) Tryz.underlying33 (fun m x hm hx=>by obtain⟨z,hz⟩:=CP AB Tryz.underlying25 (fun m x hm hx=>by obtain⟨z,rfl⟩:=DF Tryz.underlying2 hx; exact⟨z,rfl⟩) hx; exact⟨z,by rw [hz]; rfl⟩) h3
 obtain⟨z4,ez4⟩:=CP AB Tryz.underlying25 (fun m x hm hx=>by obtain⟨z,rfl⟩:=DF Tryz.underlying2 hx; exact⟨z,rfl⟩) h4
 obtain⟨z5,ez5⟩:=CP AB Tryz.underlying25 (fun m x hm hx=>by obtain⟨z,rfl⟩:=DF Tryz.underlying2 hx; exact⟨z,rfl⟩) h5
 refine⟨⟨z1,z2,z3,z4,z5⟩,?_⟩
 rw [Ab.Cluster.ds_eq]
 simp only [DJ,ez1,ez2,ez3,ez4,ez5,Ab.Grid.ds_eq,cvC,cv,List.cons_append,List.nil_append,List.append_nil]
theorem X4 (n:Nat) (ds:List Go.Proofs.YtclmbjbbojdojaaGreat.D) (h:C4 Tryz.prog n 65 ds):∃x:Ab.Shot,cvC ds=x.ds:=by
 obtain⟨m0,hm0,h⟩:=FnZ Tryz.underlying65 h
 simp only [If] at h
 obtain⟨d1,r1,h1,⟨d2,r2,h2,⟨d3,r3,h3,⟨d4,r4,h4,⟨d5,r5,h5,rfl,rfl⟩,rfl⟩,rfl⟩,rfl⟩,rfl⟩:=h
 obtain⟨z1,ez1⟩:=CP AN Tryz.underlying36 (fun m x hm hx=>by obtain⟨z,rfl⟩:=Ks Tryz.underlying4 hx; exact⟨z,rfl⟩) h1
 obtain⟨z2,ez2⟩:=CP Ab.Shard.ds Tryz.underlying57 (fun m x hm hx=>Qn m x hx) h2
 obtain⟨z3,ez3⟩:=CP (slD AB) Tryz.underlying33 (fun m x hm hx=>by obtain⟨z,hz⟩:=CP AB Tryz.underlying25 (fun m x hm hx=>by obtain⟨z,rfl⟩:=DF Tryz.underlying2 hx; exact⟨z,rfl⟩) hx; exact⟨z,by rw [hz]; rfl⟩) h3
 obtain⟨z4,ez4⟩:=CP AN Tryz.underlying36 (fun m x hm hx=>by obtain⟨z,rfl⟩:=Ks Tryz.underlying4 hx; exact⟨z,rfl⟩) h4
 obtain⟨z5,ez5⟩:=CP (slD Ab.Parcel.ds) Tryz.underlying61 (fun m x hm hx=>by obtain⟨z,hz⟩:=CP Ab.Parcel.ds Tryz.underlying212 (fun m x hm hx=>Ol m x hx) hx; exact⟨z,by rw [hz]; rfl⟩) h5
 refine⟨⟨z1,z2,z3,z4,z5⟩,?_⟩
 rw [Ab.Shot.ds_eq]
 simp only [DJ,ez1,ez2,ez3,ez4,ez5,cvC,cv,List.cons_append,List.nil_append,List.append_nil]
theorem TM (n:Nat) (ds:List Go.Proofs.YtclmbjbbojdojaaGreat.D) (h:C4 Tryz.prog n 67 ds):∃x:Ab.Watched,cvC ds=x.ds:=by
 obtain⟨m0,hm0,h⟩:=FnZ Tryz.underlying67 h
 simp only [If] at h
 obtain⟨d1,r1,h1,⟨d2,r2,h2,rfl,rfl⟩,rfl⟩:=h
 obtain⟨z1,ez1⟩:=Mz _ _ h1
 obtain⟨z2,ez2⟩:=X4 _ _ h2
 refine⟨⟨z1,z2⟩,?_⟩
 rw [Ab.Watched.ds_eq]
 simp only [DJ,ez1,ez2,Ab.Cluster.ds_eq,Ab.Shot.ds_eq,cvC,cv,List.cons_append,List.nil_append,List.append_nil]
theorem TN (n:Nat) (ds:List Go.Proofs.YtclmbjbbojdojaaGreat.D) (h:C4 Tryz.prog n 69 ds):∃x:Ab.Service,cvC ds=x.ds:=by
 obtain⟨m0,hm0,h⟩:=FnZ Tryz.underlying69 h
 simp only [If] at h
 obtain⟨d1,r1,h1,⟨d2,r2,h2,⟨d3,r3,h3,⟨d4,r4,h4,rfl,rfl⟩,rfl⟩,rfl⟩,rfl⟩:=h
 obtain⟨z1,ez1⟩:=TM _ _ h1
 obtain⟨z2,ez2⟩:=Mz _ _ h2
 obtain⟨z3,rfl⟩:=DF Tryz.underlying2 h3
 obtain⟨z4,rfl⟩:=DF Tryz.underlying2 h4
 refine⟨⟨z1,z2,z3,z4⟩,?_⟩
 rw [Ab.Service.ds_eq]
 simp only [DJ,ez1,ez2,Ab.Cluster.ds_eq,Ab.Watched.ds_eq,cvC,cv,List.cons_append,List.nil_append,List.append_nil]
theorem pT (cs0:Array Value) (dd0:List Go.Proofs.YtclmbjbbojdojaaGreat.D) (n0:Nat) (ht0:C4 Tryz.prog n0 69 dd0) (w:World) (hsh:w.ShapedOpen Tryz.prog) (h0:Go.Proofs.YtclmbjbbojdojaaGreat.Reps w dd0 (Value.agg cs0).cells.toList):
  Calls Tryz.prog 4 #[.agg cs0] w fun e w'=>e= .returned (.bool true)∧Below w.heap.size w w':=by
 obtain⟨y0,ey0⟩:=TN _ _ ht0
 obtain⟨hv0,hk0⟩:=Wc h0
 rw [ey0] at hv0 hk0
 have ha0:(List.map ofD y0.ds)=y0.avs:=by rw [Ab.Service.ds_eq]; rfl
 rw [ha0] at hv0
 have hl:=J2 _ _ (Nj y0 hk0)
 refine aG hl hsh (by kernel_rfl) trivial ?_
 simp only [AF]
 exact⟨_,_,rfl,cZ hv0,rfl⟩
theorem own:ownKnob Tryz.prog.godebug=none:=by kernel_rfl
theorem fH:laidOutB Tryz.prog=true:=by kernel_rfl
theorem okS:U6 Tryz.prog [69,67,63,60,57,277,273,281,2,25,279,58,274,338,4,275,341,61,212,283,33,65,36] =true:=by kernel_rfl
set_option maxRecDepth 100000 in
theorem lifted (os:Os) (started:os.Started) (H:Type) (enc:TypeId × Value→H):
  ReturnsInHanded {} Tryz.checked os 4 .any (Rows.fnExactValidServiceSpec.pre6 enc Tryz.prog Tryz.f4 Rows.fnExactValidServiceRow.domain false) (Rows.fnExactValidServiceSpec.post enc Tryz.prog Tryz.f4 false true false false):=by
 refine returnsInHanded_of_change_shaped (C:=Tryz.checked) own started (by kernel_rfl) Tryz.func4
  (ChangeSpec.witness6 (enc:=enc) (C:=Tryz.checked) false ⟨#[],#[.agg #[.slice none 0 0,.int .i64 0,.int .i64 0,.int .i64 0,.slice none 0 0,.slice none 0 0,.slice none 0 0,.slice none 0 0,.slice none 0 0,.slice none 0 0,.slice none 0 0,.slice none 0 0,.slice none 0 0,.slice none 0 0,.int .i64 0,.int .i64 0,.int .i64 0,.slice none 0 0,.slice none 0 0,.slice none 0 0,.slice none 0 0,.int .i64 0,.int .i64 0]],[]⟩ 8 (by kernel_rfl) (by kernel_rfl) (by kernel_rfl) (by kernel_rfl)) ?_
 intro W base args ds gs before hval0 hW hcnd _ hsh _
 have hval:∀ (j:Nat) t v,Tryz.f4.params[j]? =some t→args[j]? =some v→Value.okWide Tryz.prog W .any base t v:=hval0
 have hW':=hW
 obtain⟨p,q,hA0,hV,rfl,hfz,hnd⟩:=hW
 have hA:DataW.TrodAll enc Tryz.prog W 0 (fun _=>true) true Tryz.f4.params.toList args.toList ds p:=hA0
 rw [Tryz.params4] at hA hval
 obtain⟨v0,vs0,d0,ds0,p0,q0,hargs,rfl,rfl,h0,r0⟩:=trodAll_cons hA
 obtain⟨rfl,rfl,rfl⟩:=trodAll_nil r0
 obtain rfl:args= #[v0] :=by cases args; simp_all
 obtain⟨rfl,rfl⟩:=trodVars_none hV
 have k0:=h0
 have lt0:∀x ∈ p0,x.block<W.heap.size:=by obtain⟨m,hm⟩:=k0; exact DataW.trod_lt m _ _ _ hm
 obtain⟨cs0,rfl,-,-⟩:=TO (by kernel_rfl) (hval 0 69 v0 rfl rfl)
 obtain⟨fu0,hf0⟩:=h0
 obtain⟨dd0,ty0,re0⟩:=J3 _ okS fu0 _ _ _ (by decide) hf0
 clear hA0 hval0
 refine(pT _ dd0 fu0 ty0 W hsh re0).mono fun e W' ⟨he,bel⟩=>?_
 subst he
 exact⟨_,rfl,_,_,_,[],_,[],hW',trodAll_mk1 (shut_bool Tryz.underlying4 _),(trodAll_cons_mk (Below.trod fH (by kernel_rfl) (of_decide_eq_true (by kernel_rfl)) k0 bel lt0) trodAll_mk0),rfl,bel.frame _,fun h=>by cases h⟩
theorem pU:Rows.fnExactValidServiceRow.holds Tryz.pinned (OpenSpec.ofChange Rows.fnExactValidServiceSpec):=
 OpenClaim.holds_of_wide 4 Tryz.f4 rfl rfl rfl rfl rfl rfl rfl ⟨rfl,rfl,rfl,rfl,rfl⟩ rfl rfl rfl rfl rfl (by kernel_rfl) Tryz.func4 closed
  (of_decide_eq_true (by kernel_rfl)) (by unfold Func.isWrapper; first|(rw [if_pos (by decide+kernel)]; kernel_rfl)|(rw [if_neg (by decide+kernel)]; exact⟨rfl,rfl⟩))
  (fun os started H enc _=>lifted os started H enc)
theorem proved:Rows.FnExactValidServiceSaid:=pU
end Go.Proofs.YtclmbjbbojdojaaGreat.lawValidService
