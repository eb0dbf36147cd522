/-
  The statement FnExactWorkAndSpan: what reads at a law's type is a datum, the walk, the plain law, the row's frame. Printed by wip/ab/genlaw.py.
-/
import Derived.Test.YtckcfdggbbabfaaGreatRows
import Derived.Test.YtckcfdggbbabfaaGreatWlkW
import Derived.Test.YtckcfdggbbabfaaGreatAbZ
import Derived.Test.YtckcfdggbbabfaaGreatFacts
import Derived.Test.YtckcfdggbbabfaaGreatFcWorkAndSpan
import Derived.Test.YtckcfdggbbabfaaGreatPqWorkAndSpan
namespace Go.Proofs.YtckcfdggbbabfaaGreat.lawWorkAndSpan
set_option linter.unusedVariables false
set_option linter.unusedSimpArgs false
open Go.ChangeShapes Go.WideShapes Go.ChangeAt Go.RowKit Go.Proofs.YtckcfdggbbabfaaGreat Go.Proofs.YtckcfdggbbabfaaGreat.Ab
open Go.ChangeMaps (open_string shut_string)
theorem I6 (n:Nat) (ds:List Go.Proofs.YtckcfdggbbabfaaGreat.D) (h:Ct Tryz.prog n 243 ds):∃x:Ab.Port,cvC ds=x.ds:=by
 obtain⟨m0,hm0,h⟩:=G1 Tryz.underlying243 h
 simp only [Jj] at h
 obtain⟨d1,r1,h1,⟨d2,r2,h2,rfl,rfl⟩,rfl⟩:=h
 obtain⟨z1,rfl⟩:=Bt Tryz.underlying2 h1
 obtain⟨z2,rfl⟩:=Bt Tryz.underlying2 h2
 refine⟨⟨z1,z2⟩,?_⟩
 rw [Ab.Port.ds_eq]
 simp only [EH,cvC,cv,List.cons_append,List.nil_append,List.append_nil]
theorem Hv (n:Nat) (ds:List Go.Proofs.YtckcfdggbbabfaaGreat.D) (h:Ct Tryz.prog n 151 ds):∃x:Ab.Agent,cvC ds=x.ds:=by
 obtain⟨m0,hm0,h⟩:=G1 Tryz.underlying151 h
 simp only [Jj] at h
 obtain⟨d1,r1,h1,⟨d2,r2,h2,⟨d3,r3,h3,⟨d4,r4,h4,⟨d5,r5,h5,rfl,rfl⟩,rfl⟩,rfl⟩,rfl⟩,rfl⟩:=h
 obtain⟨z1,rfl⟩:=Bt Tryz.underlying2 h1
 obtain⟨z2,rfl⟩:=Bt Tryz.underlying2 h2
 obtain⟨z3,rfl⟩:=Bt Tryz.underlying2 h3
 obtain⟨z4,ez4⟩:=E5 AO Tryz.underlying29 (fun m x hm hx=>by obtain⟨z,rfl⟩:=Bt Tryz.underlying2 hx; exact⟨z,rfl⟩) h4
 obtain⟨z5,ez5⟩:=E5 Ab.Port.ds Tryz.underlying149 (fun m x hm hx=>I6 m x hx) h5
 refine⟨⟨z1,z2,z3,z4,z5⟩,?_⟩
 rw [Ab.Agent.ds_eq]
 simp only [EH,ez4,ez5,cvC,cv,List.cons_append,List.nil_append,List.append_nil]
theorem Gf (n:Nat) (ds:List Go.Proofs.YtckcfdggbbabfaaGreat.D) (h:Ct Tryz.prog n 28 ds):∃x:Ab.Net,cvC ds=x.ds:=by
 obtain⟨m0,hm0,h⟩:=G1 Tryz.underlying28 h
 simp only [Jj] at h
 obtain⟨d1,r1,h1,rfl,rfl⟩:=h
 obtain⟨z1,ez1⟩:=E5 Ab.Agent.ds Tryz.underlying26 (fun m x hm hx=>Hv m x hx) h1
 refine⟨⟨z1⟩,?_⟩
 rw [Ab.Net.ds_eq]
 simp only [EH,ez1,cvC,cv,List.cons_append,List.nil_append,List.append_nil]
theorem bM (a0:Option Addr) (len0 cap0:Nat) (dd0:List Go.Proofs.YtckcfdggbbabfaaGreat.D) (n0:Nat) (ht0:Ct Tryz.prog n0 25 dd0) (cs1:Array Value) (dd1:List Go.Proofs.YtckcfdggbbabfaaGreat.D) (n1:Nat) (ht1:Ct Tryz.prog n1 28 dd1) (x2:Int) (wf2:(Lit.int IntKind.i64 x2).wf =true) (w:World) (hsh:w.ShapedOpen Tryz.prog) (h0:Go.Proofs.YtckcfdggbbabfaaGreat.Reps w dd0 (Value.slice a0 len0 cap0).cells.toList) (h1:Go.Proofs.YtckcfdggbbabfaaGreat.Reps w dd1 (Value.agg cs1).cells.toList):
  Calls Tryz.prog 7 #[.slice a0 len0 cap0,.agg cs1,.int .i64 x2] w fun e w'=>e= .returned (.bool true)∧Below w.heap.size w w':=by
 obtain⟨y0,ey0⟩:=E5 Ab.Net.ds Tryz.underlying25 (fun m x hm hx=>Gf m x hx) ht0
 obtain⟨hv0,hk0⟩:=I5 h0
 rw [ey0] at hv0 hk0
 obtain⟨u0,us0,eu0,hw0,-⟩:=hv0
 obtain rfl:u0= .slice a0 len0 cap0:=by simpa [Value.cells] using (List.cons.inj eu0).1.symm
 obtain⟨y1,ey1⟩:=Gf _ _ ht1
 obtain⟨hv1,hk1⟩:=I5 h1
 rw [ey1] at hv1 hk1
 have ha1:(List.map ofD y1.ds)=y1.avs:=by rw [Ab.Net.ds_eq]; rfl
 rw [ha1] at hv1
 have hl:=KJ _ _ _ _ (Oa y0 hk0 y1 hk1 x2 wf2)
 refine PW hl hsh (by kernel_rfl) trivial ?_
 simp only [AK]
 exact⟨_,_,rfl,hw0,⟨_,_,rfl,Rp hv1,⟨_,_,rfl,(VSim.of_rep (d:=.int .i64 x2) ⟨rfl,wf2⟩),rfl⟩⟩⟩
theorem own:ownKnob Tryz.prog.godebug=none:=by kernel_rfl
theorem G2:laidOutB Tryz.prog=true:=by kernel_rfl
theorem okS:OZ Tryz.prog [25,28,26,151,2,29,149,243] =true:=by kernel_rfl
set_option maxRecDepth 100000 in
theorem lifted (os:Os) (started:os.Started) (H:Type) (enc:TypeId × Value→H):
  ReturnsInHanded {} Tryz.checked os 7 .any (Rows.fnExactWorkAndSpanSpec.pre6 enc Tryz.prog Tryz.f7 Rows.fnExactWorkAndSpanRow.domain false) (Rows.fnExactWorkAndSpanSpec.post enc Tryz.prog Tryz.f7 false true false false):=by
 refine returnsInHanded_of_change_shaped (C:=Tryz.checked) own started (by kernel_rfl) Tryz.func7
  (ChangeSpec.witness6 (enc:=enc) (C:=Tryz.checked) false ⟨#[],#[.slice none 0 0,.agg #[.slice none 0 0],.int .i64 0],[]⟩ 8 (by kernel_rfl) (by kernel_rfl) (by kernel_rfl) (by kernel_rfl)) ?_
 intro W base args ds gs before hval0 hW hcnd _ hsh _
 have hval:∀ (j:Nat) t v,Tryz.f7.params[j]? =some t→args[j]? =some v→Value.okWide Tryz.prog W .any base t v:=hval0
 have hW':=hW
 obtain⟨p,q,hA0,hV,rfl,hfz,hnd⟩:=hW
 have hA:DataW.TrodAll enc Tryz.prog W 0 (fun _=>true) true Tryz.f7.params.toList args.toList ds p:=hA0
 rw [Tryz.params7] at hA hval
 obtain⟨v0,vs0,d0,ds0,p0,q0,hargs,rfl,rfl,h0,r0⟩:=trodAll_cons hA
 obtain⟨v1,vs1,d1,ds1,p1,q1,rfl,rfl,rfl,h1,r1⟩:=trodAll_cons r0
 obtain⟨v2,vs2,d2,ds2,p2,q2,rfl,rfl,rfl,h2,r2⟩:=trodAll_cons r1
 obtain⟨rfl,rfl,rfl⟩:=trodAll_nil r2
 obtain rfl:args= #[v0,v1,v2] :=by cases args; simp_all
 obtain⟨rfl,rfl⟩:=trodVars_none hV
 have k0:=h0
 have lt0:∀x ∈ p0,x.block<W.heap.size:=by obtain⟨m,hm⟩:=k0; exact DataW.trod_lt m _ _ _ hm
 obtain⟨a0,len0,cap0,rfl⟩:=okWide_slice Tryz.underlying25 (hval 0 25 v0 rfl rfl)
 obtain⟨fu0,hf0⟩:=h0
 obtain⟨dd0,ty0,re0⟩:=DS _ okS fu0 _ _ _ (by decide) hf0
 have k1:=h1
 have lt1:∀x ∈ p1,x.block<W.heap.size:=by obtain⟨m,hm⟩:=k1; exact DataW.trod_lt m _ _ _ hm
 obtain⟨cs1,rfl,-,-⟩:=J1 (by kernel_rfl) (hval 1 28 v1 rfl rfl)
 obtain⟨fu1,hf1⟩:=h1
 obtain⟨dd1,ty1,re1⟩:=DS _ okS fu1 _ _ _ (by decide) hf1
 have k2:=h2
 have lt2:∀x ∈ p2,x.block<W.heap.size:=by obtain⟨m,hm⟩:=k2; exact DataW.trod_lt m _ _ _ hm
 obtain⟨x2,rfl,rfl,rfl,wf2⟩:=open_int Tryz.underlying2 (hval 2 2 v2 rfl rfl) h2
 clear hA0 hval0
 refine(bM _ _ _ dd0 fu0 ty0 _ dd1 fu1 ty1 x2 wf2 W hsh re0 re1).mono fun e W' ⟨he,bel⟩=>?_
 subst he
 exact⟨_,rfl,_,_,_,[],_,[],hW',trodAll_mk1 (shut_bool Tryz.underlying4 _),(trodAll_cons_mk (Below.trod G2 (by kernel_rfl) (of_decide_eq_true (by kernel_rfl)) k0 bel lt0) (trodAll_cons_mk (Below.trod G2 (by kernel_rfl) (of_decide_eq_true (by kernel_rfl)) k1 bel lt1) (trodAll_cons_mk (Below.trod G2 (by kernel_rfl) (of_decide_eq_true (by kernel_rfl)) k2 bel lt2) trodAll_mk0))),rfl,bel.frame _,fun h=>by cases h⟩
theorem bN:Rows.fnExactWorkAndSpanRow.holds Tryz.pinned (OpenSpec.ofChange Rows.fnExactWorkAndSpanSpec):=
 OpenClaim.holds_of_wide 7 Tryz.f7 rfl rfl rfl rfl rfl rfl rfl ⟨rfl,rfl,rfl,rfl,rfl⟩ rfl rfl rfl rfl rfl (by kernel_rfl) Tryz.func7 closed
  (of_decide_eq_true (by kernel_rfl)) (by unfold Func.isWrapper; first|(rw [if_pos (by decide+kernel)]; kernel_rfl)|(rw [if_neg (by decide+kernel)]; exact⟨rfl,rfl⟩))
  (fun os started H enc _=>lifted os started H enc)
theorem proved:Rows.FnExactWorkAndSpanSaid:=bN
end Go.Proofs.YtckcfdggbbabfaaGreat.lawWorkAndSpan
