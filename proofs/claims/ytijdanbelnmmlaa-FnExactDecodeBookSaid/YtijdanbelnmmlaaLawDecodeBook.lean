/-
  The statement FnExactDecodeBook: what reads at a law's type is a datum, the walk, the plain law, the row's frame. Printed by wip/ab/genlaw.py.
-/
import Derived.Test.YtijdanbelnmmlaaRows
import Derived.Test.YtijdanbelnmmlaaWlkD
import Derived.Test.YtijdanbelnmmlaaAbZ
import Derived.Test.YtijdanbelnmmlaaFacts
import Derived.Test.YtijdanbelnmmlaaFcDecodeBook
import Derived.Test.YtijdanbelnmmlaaPqDecodeBook
namespace Go.Proofs.Ytijdanbelnmmlaa.lawDecodeBook
set_option linter.unusedVariables false
set_option linter.unusedSimpArgs false
open Go.ChangeShapes Go.WideShapes Go.ChangeAt Go.RowKit Go.Proofs.Ytijdanbelnmmlaa Go.Proofs.Ytijdanbelnmmlaa.Ab
open Go.ChangeMaps (open_string shut_string)
theorem cH (a0:Option Addr) (len0 cap0:Nat) (dd0:List Go.Proofs.Ytijdanbelnmmlaa.D) (n0:Nat) (ht0:El Try.prog n0 22 dd0) (w:World) (hsh:w.ShapedOpen Try.prog) (h0:Go.Proofs.Ytijdanbelnmmlaa.Reps w dd0 (Value.slice a0 len0 cap0).cells.toList):
  Calls Try.prog 3 #[.slice a0 len0 cap0] w fun e w'=>e= .returned (.bool true)∧Below w.heap.size w w':=by
 obtain⟨y0,ey0⟩:=TN u8D Try.underlying22 (fun m x hm hx=>by obtain⟨z,rfl⟩:=Ri Try.underlying5 hx; exact⟨z,rfl⟩) ht0
 obtain⟨hv0,hk0⟩:=Of h0
 rw [ey0] at hv0 hk0
 obtain⟨u0,us0,eu0,hw0,-⟩:=hv0
 obtain rfl:u0= .slice a0 len0 cap0:=by simpa [Value.cells] using (List.cons.inj eu0).1.symm
 have hl:=GY _ _ (JP y0 hk0)
 refine Rj hl hsh (by kernel_rfl) trivial ?_
 simp only [AD]
 exact⟨_,_,rfl,hw0,rfl⟩
theorem own:ownKnob Try.prog.godebug=none:=by kernel_rfl
theorem VF:laidOutB Try.prog=true:=by kernel_rfl
theorem okS:NJ Try.prog [22,5] =true:=by kernel_rfl
set_option maxRecDepth 100000 in
theorem lifted (os:Os) (started:os.Started) (H:Type) (enc:TypeId × Value→H):
  ReturnsInHanded {} Try.checked os 3 .any (Rows.fnExactDecodeBookSpec.pre6 enc Try.prog Try.f3 Rows.fnExactDecodeBookRow.domain false) (Rows.fnExactDecodeBookSpec.post enc Try.prog Try.f3 false true false false):=by
 refine returnsInHanded_of_change_shaped (C:=Try.checked) own started (by kernel_rfl) Try.func3
  (ChangeSpec.witness6 (enc:=enc) (C:=Try.checked) false ⟨#[],#[.slice none 0 0],[]⟩ 8 (by kernel_rfl) (by kernel_rfl) (by kernel_rfl) (by kernel_rfl)) ?_
 intro W base args ds gs before hval0 hW hcnd _ hsh _
 have hval:∀ (j:Nat) t v,Try.f3.params[j]? =some t→args[j]? =some v→Value.okWide Try.prog W .any base t v:=hval0
 have hW':=hW
 obtain⟨p,q,hA0,hV,rfl,hfz,hnd⟩:=hW
 have hA:DataW.TrodAll enc Try.prog W 0 (fun _=>true) true Try.f3.params.toList args.toList ds p:=hA0
 rw [Try.params3] at hA hval
 obtain⟨v0,vs0,d0,ds0,p0,q0,hargs,rfl,rfl,h0,r0⟩:=trodAll_cons hA
 obtain⟨rfl,rfl,rfl⟩:=trodAll_nil r0
 obtain rfl:args= #[v0] :=by cases args; simp_all
 obtain⟨rfl,rfl⟩:=trodVars_none hV
 have k0:=h0
 have lt0:∀x ∈ p0,x.block<W.heap.size:=by obtain⟨m,hm⟩:=k0; exact DataW.trod_lt m _ _ _ hm
 obtain⟨a0,len0,cap0,rfl⟩:=okWide_slice Try.underlying22 (hval 0 22 v0 rfl rfl)
 obtain⟨fu0,hf0⟩:=h0
 obtain⟨dd0,ty0,re0⟩:=Fy _ okS fu0 _ _ _ (by decide) hf0
 clear hA0 hval0
 refine(cH _ _ _ dd0 fu0 ty0 W hsh re0).mono fun e W' ⟨he,bel⟩=>?_
 subst he
 exact⟨_,rfl,_,_,_,[],_,[],hW',trodAll_mk1 (shut_bool Try.underlying4 _),(trodAll_cons_mk (Below.trod VF (by kernel_rfl) (of_decide_eq_true (by kernel_rfl)) k0 bel lt0) trodAll_mk0),rfl,bel.frame _,fun h=>by cases h⟩
theorem cI:Rows.fnExactDecodeBookRow.holds Try.pinned (OpenSpec.ofChange Rows.fnExactDecodeBookSpec):=
 OpenClaim.holds_of_wide 3 Try.f3 rfl rfl rfl rfl rfl rfl rfl ⟨rfl,rfl,rfl,rfl,rfl⟩ rfl rfl rfl rfl rfl (by kernel_rfl) Try.func3 closed
  (of_decide_eq_true (by kernel_rfl)) (by unfold Func.isWrapper; first|(rw [if_pos (by decide+kernel)]; kernel_rfl)|(rw [if_neg (by decide+kernel)]; exact⟨rfl,rfl⟩))
  (fun os started H enc _=>lifted os started H enc)
theorem proved:Rows.FnExactDecodeBookSaid:=cI
end Go.Proofs.Ytijdanbelnmmlaa.lawDecodeBook
