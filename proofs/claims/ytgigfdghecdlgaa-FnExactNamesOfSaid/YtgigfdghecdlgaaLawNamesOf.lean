/-
  The statement FnExactNamesOf: what reads at a law's type is a datum, the walk, the plain law, the row's frame. Printed by wip/ab/genlaw.py.
-/
import Derived.Test.YtgigfdghecdlgaaRows
import Derived.Test.YtgigfdghecdlgaaWlkO
import Derived.Test.YtgigfdghecdlgaaAbZ
import Derived.Test.YtgigfdghecdlgaaFacts
import Derived.Test.YtgigfdghecdlgaaFcNamesOf
import Derived.Test.YtgigfdghecdlgaaPqNamesOf
namespace Go.Proofs.Ytgigfdghecdlgaa.lawNamesOf
set_option linter.unusedVariables false
set_option linter.unusedSimpArgs false
open Go.ChangeShapes Go.WideShapes Go.ChangeAt Go.RowKit Go.Proofs.Ytgigfdghecdlgaa Go.Proofs.Ytgigfdghecdlgaa.Ab
open Go.ChangeMaps (open_string shut_string)
theorem PK:∀ (n:Nat) (ds:List Go.Proofs.Ytgigfdghecdlgaa.D),CT Try.prog n 25 ds→∃x:Ab.Core,cvC ds=x.ds:=by
 intro n
 induction n using Nat.strongRecOn with
 |ind n ih=>
  intro ds h
  obtain⟨m0,hm0,h⟩:=N4 Try.underlying25 h
  simp only [Kn] at h
  obtain⟨d1,r1,h1,⟨d2,r2,h2,⟨d3,r3,h3,⟨d4,r4,h4,rfl,rfl⟩,rfl⟩,rfl⟩,rfl⟩:=h
  obtain⟨z1,rfl⟩:=Ix Try.underlying2 h1
  obtain⟨z2,rfl⟩:=Ix Try.underlying2 h2
  obtain⟨z3,ez3⟩:=Ko AM Try.underlying22 (fun m x hm hx=>by obtain⟨z,rfl⟩:=Ix Try.underlying2 hx; exact⟨z,rfl⟩) h3
  obtain⟨z4,ez4⟩:=Ko Ab.Core.ds Try.underlying23 (fun m x hm hx=>ih m (Nat.lt_trans hm hm0) x hx) h4
  refine⟨⟨z1,z2,z3,z4⟩,?_⟩
  rw [Ab.Core.ds_eq]
  simp only [Hx,ez3,ez4,cvC,cv,List.cons_append,List.nil_append,List.append_nil]
theorem Kp (n:Nat) (ds:List Go.Proofs.Ytgigfdghecdlgaa.D) (h:CT Try.prog n 28 ds):∃x:Ab.Labelled,cvC ds=x.ds:=by
 obtain⟨m0,hm0,h⟩:=N4 Try.underlying28 h
 simp only [Kn] at h
 obtain⟨d1,r1,h1,⟨d2,r2,h2,rfl,rfl⟩,rfl⟩:=h
 obtain⟨z1,ez1⟩:=PK _ _ h1
 obtain⟨z2,ez2⟩:=Ko A2 Try.underlying26 (fun m x hm hx=>by obtain⟨z,rfl⟩:=RI Try.underlying9 hx; exact⟨z,rfl⟩) h2
 refine⟨⟨z1,z2⟩,?_⟩
 rw [Ab.Labelled.ds_eq]
 simp only [Hx,ez1,ez2,Ab.Core.ds_eq,cvC,cv,List.cons_append,List.nil_append,List.append_nil]
theorem a6 (cs0:Array Value) (dd0:List Go.Proofs.Ytgigfdghecdlgaa.D) (n0:Nat) (ht0:CT Try.prog n0 28 dd0) (w:World) (hsh:w.ShapedOpen Try.prog) (h0:Go.Proofs.Ytgigfdghecdlgaa.Reps w dd0 (Value.agg cs0).cells.toList):
  Calls Try.prog 4 #[.agg cs0] w fun e w'=>e= .returned (.bool true)∧Below w.heap.size w w':=by
 obtain⟨y0,ey0⟩:=Kp _ _ ht0
 obtain⟨hv0,hk0⟩:=N3 h0
 rw [ey0] at hv0 hk0
 have ha0:(List.map ofD y0.ds)=y0.avs:=by rw [Ab.Labelled.ds_eq]; rfl
 rw [ha0] at hv0
 have hl:=HM _ _ (K9 y0 hk0)
 refine RJ hl hsh (by kernel_rfl) trivial ?_
 simp only [AB]
 exact⟨_,_,rfl,Sr hv0,rfl⟩
theorem own:ownKnob Try.prog.godebug=none:=by kernel_rfl
theorem Uj:laidOutB Try.prog=true:=by kernel_rfl
theorem okS:Mb Try.prog [28,25,2,22,23,26,9] =true:=by kernel_rfl
set_option maxRecDepth 100000 in
theorem lifted (os:Os) (started:os.Started) (H:Type) (enc:TypeId × Value→H):
  ReturnsInHanded {} Try.checked os 4 .any (Rows.fnExactNamesOfSpec.pre6 enc Try.prog Try.f4 Rows.fnExactNamesOfRow.domain false) (Rows.fnExactNamesOfSpec.post enc Try.prog Try.f4 false true false false):=by
 refine returnsInHanded_of_change_shaped (C:=Try.checked) own started (by kernel_rfl) Try.func4
  (ChangeSpec.witness6 (enc:=enc) (C:=Try.checked) false ⟨#[],#[.agg #[.int .i64 0,.int .i64 0,.slice none 0 0,.slice none 0 0,.slice none 0 0]],[]⟩ 8 (by kernel_rfl) (by kernel_rfl) (by kernel_rfl) (by kernel_rfl)) ?_
 intro W base args ds gs before hval0 hW hcnd _ hsh _
 have hval:∀ (j:Nat) t v,Try.f4.params[j]? =some t→args[j]? =some v→Value.okWide Try.prog W .any base t v:=hval0
 have hW':=hW
 obtain⟨p,q,hA0,hV,rfl,hfz,hnd⟩:=hW
 have hA:DataW.TrodAll enc Try.prog W 0 (fun _=>true) true Try.f4.params.toList args.toList ds p:=hA0
 rw [Try.params4] at hA hval
 obtain⟨v0,vs0,d0,ds0,p0,q0,hargs,rfl,rfl,h0,r0⟩:=trodAll_cons hA
 obtain⟨rfl,rfl,rfl⟩:=trodAll_nil r0
 obtain rfl:args= #[v0] :=by cases args; simp_all
 obtain⟨rfl,rfl⟩:=trodVars_none hV
 have k0:=h0
 have lt0:∀x ∈ p0,x.block<W.heap.size:=by obtain⟨m,hm⟩:=k0; exact DataW.trod_lt m _ _ _ hm
 obtain⟨cs0,rfl,-,-⟩:=LA (by kernel_rfl) (hval 0 28 v0 rfl rfl)
 obtain⟨fu0,hf0⟩:=h0
 obtain⟨dd0,ty0,re0⟩:=FU _ okS fu0 _ _ _ (by decide) hf0
 clear hA0 hval0
 refine(a6 _ dd0 fu0 ty0 W hsh re0).mono fun e W' ⟨he,bel⟩=>?_
 subst he
 exact⟨_,rfl,_,_,_,[],_,[],hW',trodAll_mk1 (shut_bool Try.underlying4 _),(trodAll_cons_mk (Below.trod Uj (by kernel_rfl) (of_decide_eq_true (by kernel_rfl)) k0 bel lt0) trodAll_mk0),rfl,bel.frame _,fun h=>by cases h⟩
theorem a7:Rows.fnExactNamesOfRow.holds Try.pinned (OpenSpec.ofChange Rows.fnExactNamesOfSpec):=
 OpenClaim.holds_of_wide 4 Try.f4 rfl rfl rfl rfl rfl rfl rfl ⟨rfl,rfl,rfl,rfl,rfl⟩ rfl rfl rfl rfl rfl (by kernel_rfl) Try.func4 closed
  (of_decide_eq_true (by kernel_rfl)) (by unfold Func.isWrapper; first|(rw [if_pos (by decide+kernel)]; kernel_rfl)|(rw [if_neg (by decide+kernel)]; exact⟨rfl,rfl⟩))
  (fun os started H enc _=>lifted os started H enc)
theorem proved:Rows.FnExactNamesOfSaid:=a7
end Go.Proofs.Ytgigfdghecdlgaa.lawNamesOf
