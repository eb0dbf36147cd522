/-
  The statement FnExactCheckLevels: what reads at a law's type is a datum, the walk, the plain law, the row's frame. Printed by wip/ab/genlaw.py.
-/
import Derived.Test.YtnfgeocnolheoaaGreatRows
import Derived.Test.YtnfgeocnolheoaaGreatWlkL
import Derived.Test.YtnfgeocnolheoaaGreatAbZ
import Derived.Test.YtnfgeocnolheoaaGreatFacts
import Derived.Test.YtnfgeocnolheoaaGreatFcCheckLevels
import Derived.Test.YtnfgeocnolheoaaGreatPqCheckLevels
namespace Go.Proofs.YtnfgeocnolheoaaGreat.lawCheckLevels
set_option linter.unusedVariables false
set_option linter.unusedSimpArgs false
open Go.ChangeShapes Go.WideShapes Go.ChangeAt Go.RowKit Go.Proofs.YtnfgeocnolheoaaGreat Go.Proofs.YtnfgeocnolheoaaGreat.Ab
open Go.ChangeMaps (open_string shut_string)
theorem Fs:∀ (n:Nat) (ds:List Go.Proofs.YtnfgeocnolheoaaGreat.D),C4 Tryz.prog n 90 ds→∃x:Ab.TType,cvC ds=x.ds:=by
 intro n
 induction n using Nat.strongRecOn with
 |ind n ih=>
  intro ds h
  obtain⟨m0,hm0,h⟩:=FT Tryz.underlying90 h
  simp only [IR] at h
  obtain⟨d1,r1,h1,⟨d2,r2,h2,⟨d3,r3,h3,rfl,rfl⟩,rfl⟩,rfl⟩:=h
  obtain⟨z1,rfl⟩:=JE Tryz.underlying2 h1
  obtain⟨z2,rfl⟩:=EE Tryz.underlying9 h2
  obtain⟨z3,ez3⟩:=EN Ab.TType.ds Tryz.underlying88 (fun m x hm hx=>ih m (Nat.lt_trans hm hm0) x hx) h3
  refine⟨⟨z1,z2,z3⟩,?_⟩
  rw [Ab.TType.ds_eq]
  simp only [C9,ez3,cvC,cv,List.cons_append,List.nil_append,List.append_nil]
theorem HQ (n:Nat) (ds:List Go.Proofs.YtnfgeocnolheoaaGreat.D) (h:C4 Tryz.prog n 169 ds):∃x:Ab.Constructor,cvC ds=x.ds:=by
 obtain⟨m0,hm0,h⟩:=FT Tryz.underlying169 h
 simp only [IR] at h
 obtain⟨d1,r1,h1,⟨d2,r2,h2,rfl,rfl⟩,rfl⟩:=h
 obtain⟨z1,rfl⟩:=EE Tryz.underlying9 h1
 obtain⟨z2,ez2⟩:=EN Ab.TType.ds Tryz.underlying88 (fun m x hm hx=>Fs m x hx) h2
 refine⟨⟨z1,z2⟩,?_⟩
 rw [Ab.Constructor.ds_eq]
 simp only [C9,ez2,cvC,cv,List.cons_append,List.nil_append,List.append_nil]
theorem OJ (n:Nat) (ds:List Go.Proofs.YtnfgeocnolheoaaGreat.D) (h:C4 Tryz.prog n 86 ds):∃x:Ab.Data,cvC ds=x.ds:=by
 obtain⟨m0,hm0,h⟩:=FT Tryz.underlying86 h
 simp only [IR] at h
 obtain⟨d1,r1,h1,⟨d2,r2,h2,rfl,rfl⟩,rfl⟩:=h
 obtain⟨z1,rfl⟩:=EE Tryz.underlying9 h1
 obtain⟨z2,ez2⟩:=EN Ab.Constructor.ds Tryz.underlying84 (fun m x hm hx=>HQ m x hx) h2
 refine⟨⟨z1,z2⟩,?_⟩
 rw [Ab.Data.ds_eq]
 simp only [C9,ez2,cvC,cv,List.cons_append,List.nil_append,List.append_nil]
theorem OK:∀ (n:Nat) (ds:List Go.Proofs.YtnfgeocnolheoaaGreat.D),C4 Tryz.prog n 93 ds→∃x:Ab.Term,cvC ds=x.ds:=by
 intro n
 induction n using Nat.strongRecOn with
 |ind n ih=>
  intro ds h
  obtain⟨m0,hm0,h⟩:=FT Tryz.underlying93 h
  simp only [IR] at h
  obtain⟨d1,r1,h1,⟨d2,r2,h2,⟨d3,r3,h3,⟨d4,r4,h4,⟨d5,r5,h5,⟨d6,r6,h6,rfl,rfl⟩,rfl⟩,rfl⟩,rfl⟩,rfl⟩,rfl⟩:=h
  obtain⟨z1,rfl⟩:=JE Tryz.underlying2 h1
  obtain⟨z2,rfl⟩:=JE Tryz.underlying2 h2
  obtain⟨z3,rfl⟩:=EE Tryz.underlying9 h3
  obtain⟨z4,ez4⟩:=Fs _ _ h4
  obtain⟨z5,ez5⟩:=EN strD Tryz.underlying59 (fun m x hm hx=>by obtain⟨z,rfl⟩:=EE Tryz.underlying9 hx; exact⟨z,rfl⟩) h5
  obtain⟨z6,ez6⟩:=EN Ab.Term.ds Tryz.underlying91 (fun m x hm hx=>ih m (Nat.lt_trans hm hm0) x hx) h6
  refine⟨⟨z1,z2,z3,z4,z5,z6⟩,?_⟩
  rw [Ab.Term.ds_eq]
  simp only [C9,ez4,ez5,ez6,Ab.TType.ds_eq,cvC,cv,List.cons_append,List.nil_append,List.append_nil]
theorem P8 (n:Nat) (ds:List Go.Proofs.YtnfgeocnolheoaaGreat.D) (h:C4 Tryz.prog n 95 ds):∃x:Ab.Def,cvC ds=x.ds:=by
 obtain⟨m0,hm0,h⟩:=FT Tryz.underlying95 h
 simp only [IR] at h
 obtain⟨d1,r1,h1,⟨d2,r2,h2,⟨d3,r3,h3,rfl,rfl⟩,rfl⟩,rfl⟩:=h
 obtain⟨z1,rfl⟩:=EE Tryz.underlying9 h1
 obtain⟨z2,ez2⟩:=Fs _ _ h2
 obtain⟨z3,ez3⟩:=OK _ _ h3
 refine⟨⟨z1,z2,z3⟩,?_⟩
 rw [Ab.Def.ds_eq]
 simp only [C9,ez2,ez3,Ab.TType.ds_eq,Ab.Term.ds_eq,cvC,cv,List.cons_append,List.nil_append,List.append_nil]
theorem JW (n:Nat) (ds:List Go.Proofs.YtnfgeocnolheoaaGreat.D) (h:C4 Tryz.prog n 25 ds):∃x:Ab.TProgram,cvC ds=x.ds:=by
 obtain⟨m0,hm0,h⟩:=FT Tryz.underlying25 h
 simp only [IR] at h
 obtain⟨d1,r1,h1,⟨d2,r2,h2,rfl,rfl⟩,rfl⟩:=h
 obtain⟨z1,ez1⟩:=EN Ab.Data.ds Tryz.underlying22 (fun m x hm hx=>OJ m x hx) h1
 obtain⟨z2,ez2⟩:=EN Ab.Def.ds Tryz.underlying23 (fun m x hm hx=>P8 m x hx) h2
 refine⟨⟨z1,z2⟩,?_⟩
 rw [Ab.TProgram.ds_eq]
 simp only [C9,ez1,ez2,cvC,cv,List.cons_append,List.nil_append,List.append_nil]
theorem jL (cs0:Array Value) (dd0:List Go.Proofs.YtnfgeocnolheoaaGreat.D) (n0:Nat) (ht0:C4 Tryz.prog n0 25 dd0) (w:World) (hsh:w.ShapedOpen Tryz.prog) (h0:Go.Proofs.YtnfgeocnolheoaaGreat.Reps w dd0 (Value.agg cs0).cells.toList):
  Calls Tryz.prog 4 #[.agg cs0] w fun e w'=>e= .returned (.bool true)∧Below w.heap.size w w':=by
 obtain⟨y0,ey0⟩:=JW _ _ ht0
 obtain⟨hv0,hk0⟩:=Sa h0
 rw [ey0] at hv0 hk0
 have ha0:(List.map ofD y0.ds)=y0.avs:=by rw [Ab.TProgram.ds_eq]; rfl
 rw [ha0] at hv0
 have hl:=Kj _ _ (O5 y0 hk0)
 refine UU hl hsh (by kernel_rfl) trivial ?_
 simp only [AI]
 exact⟨_,_,rfl,Wg hv0,rfl⟩
theorem own:ownKnob Tryz.prog.godebug=none:=by kernel_rfl
theorem RU:laidOutB Tryz.prog=true:=by kernel_rfl
theorem okS:RW Tryz.prog [25,22,86,9,84,169,88,90,2,23,95,93,59,91] =true:=by kernel_rfl
set_option maxRecDepth 100000 in
theorem lifted (os:Os) (started:os.Started) (H:Type) (enc:TypeId × Value→H):
  ReturnsInHanded {} Tryz.checked os 4 .any (Rows.fnExactCheckLevelsSpec.pre6 enc Tryz.prog Tryz.f4 Rows.fnExactCheckLevelsRow.domain false) (Rows.fnExactCheckLevelsSpec.post enc Tryz.prog Tryz.f4 false true false false):=by
 refine returnsInHanded_of_change_shaped (C:=Tryz.checked) own started (by kernel_rfl) Tryz.func4
  (ChangeSpec.witness6 (enc:=enc) (C:=Tryz.checked) false ⟨#[],#[.agg #[.slice none 0 0,.slice none 0 0]],[]⟩ 8 (by kernel_rfl) (by kernel_rfl) (by kernel_rfl) (by kernel_rfl)) ?_
 intro W base args ds gs before hval0 hW hcnd _ hsh _
 have hval:∀ (j:Nat) t v,Tryz.f4.params[j]? =some t→args[j]? =some v→Value.okWide Tryz.prog W .any base t v:=hval0
 have hW':=hW
 obtain⟨p,q,hA0,hV,rfl,hfz,hnd⟩:=hW
 have hA:DataW.TrodAll enc Tryz.prog W 0 (fun _=>true) true Tryz.f4.params.toList args.toList ds p:=hA0
 rw [Tryz.params4] at hA hval
 obtain⟨v0,vs0,d0,ds0,p0,q0,hargs,rfl,rfl,h0,r0⟩:=trodAll_cons hA
 obtain⟨rfl,rfl,rfl⟩:=trodAll_nil r0
 obtain rfl:args= #[v0] :=by cases args; simp_all
 obtain⟨rfl,rfl⟩:=trodVars_none hV
 have k0:=h0
 have lt0:∀x ∈ p0,x.block<W.heap.size:=by obtain⟨m,hm⟩:=k0; exact DataW.trod_lt m _ _ _ hm
 obtain⟨cs0,rfl,-,-⟩:=Nf (by kernel_rfl) (hval 0 25 v0 rfl rfl)
 obtain⟨fu0,hf0⟩:=h0
 obtain⟨dd0,ty0,re0⟩:=IE _ okS fu0 _ _ _ (by decide) hf0
 clear hA0 hval0
 refine(jL _ dd0 fu0 ty0 W hsh re0).mono fun e W' ⟨he,bel⟩=>?_
 subst he
 exact⟨_,rfl,_,_,_,[],_,[],hW',trodAll_mk1 (shut_bool Tryz.underlying4 _),(trodAll_cons_mk (Below.trod RU (by kernel_rfl) (of_decide_eq_true (by kernel_rfl)) k0 bel lt0) trodAll_mk0),rfl,bel.frame _,fun h=>by cases h⟩
theorem jM:Rows.fnExactCheckLevelsRow.holds Tryz.pinned (OpenSpec.ofChange Rows.fnExactCheckLevelsSpec):=
 OpenClaim.holds_of_wide 4 Tryz.f4 rfl rfl rfl rfl rfl rfl rfl ⟨rfl,rfl,rfl,rfl,rfl⟩ rfl rfl rfl rfl rfl (by kernel_rfl) Tryz.func4 closed
  (of_decide_eq_true (by kernel_rfl)) (by unfold Func.isWrapper; first|(rw [if_pos (by decide+kernel)]; kernel_rfl)|(rw [if_neg (by decide+kernel)]; exact⟨rfl,rfl⟩))
  (fun os started H enc _=>lifted os started H enc)
theorem proved:Rows.FnExactCheckLevelsSaid:=jM
end Go.Proofs.YtnfgeocnolheoaaGreat.lawCheckLevels
