/-
  The statement FnExactPredictRead: what reads at a law's type is a datum, the walk, the plain law, the row's frame. Printed by wip/ab/genlaw.py.
-/
import Derived.Test.YtjnifengdhcojaaGreatDoorPlFm
import Derived.Test.YtjnifengdhcojaaGreatDoorPlContractMarked
import Derived.Test.YtjnifengdhcojaaGreatDoorPlBook
import Derived.Test.YtjnifengdhcojaaGreatDoorPlNet
import Derived.Test.YtjnifengdhcojaaGreatDoorAbZ
import Derived.Test.YtjnifengdhcojaaGreatDoorModL
import Derived.Test.YtjnifengdhcojaaGreatDoorRows
import Derived.Test.YtjnifengdhcojaaGreatDoorWlkL
import Derived.Test.YtjnifengdhcojaaGreatDoorFcPredictRead
import Derived.Test.YtjnifengdhcojaaGreatDoorCards
import Derived.Test.YtjnifengdhcojaaGreatDoorTie
import Derived.Test.YtjnifengdhcojaaGreatDoorTied
import Derived.Lay
import Derived.Stop.Joined
namespace Go.Proofs.YtjnifengdhcojaaGreatDoor.Ab
set_option linter.unusedVariables false
set_option linter.unusedSimpArgs false
set_option maxHeartbeats 1000000
open Go.RowKit
theorem Net.small_of (n:Net) (h:n.sz≤1048576):n.Small:=by
 unfold Net.sz at h
 refine⟨?_,fun a ha=>?_⟩
 ·have:∀l:List Agent,szl (fun a=>a.ports.length) l≤szl Agent.sz l:=by
   intro l
   induction l with
   |nil=>exact Nat.le_refl _
   |cons x l ih=>simp only [szl,Agent.sz]; omega
  have:=this n.agents
  unfold Big; omega
 ·have h1:a.sz<szl Agent.sz n.agents:=NP ha
  have h2:a.data.length≤a.sz:=by unfold Agent.sz; omega
  unfold Big; omega
theorem RA (b:Book) (n:Net) (i:Int) (hb:b.sz≤1048576) (h:n.sz≤1048576):∃r,GL b n i=some r∧FQ b n i=some r∧r.1.sz ≤Big:=by
 have hs:=Net.small_of n h
 obtain⟨p,h1,h2,h3⟩:=fy n hs i
 unfold GL FQ
 rw [h1,h2,AA,AA]
 by_cases hc:p.2 =0
 ·obtain⟨hv,hp⟩:=h3 hc
  obtain⟨con,c,m,code,k1,k2,k3,k4,k5⟩:=Zm hv hs p.1 hp
  have c0:¬ (!decide (p.2 =0))=true:=by simp [hc]
  rw [if_neg c0,if_neg c0,k1,AA,k2,AA,k3,AA]
  dsimp only
  by_cases hcode:code=0
  ·have c1:¬ (!decide (code=0))=true:=by simp [hcode]
   obtain⟨r,q1,q2,q3⟩:=Zn b c m hb (by omega) (by omega)
   rw [if_neg c1,if_neg c1,q1,AA,q2,AA]
   exact⟨r,rfl,rfl,q3⟩
  ·have c1:(!decide (code=0))=true:=by simp [hcode]
   rw [if_pos c1,if_pos c1]
   exact⟨_,rfl,rfl,by simp [Core.sz,Core.szs]⟩
 ·have c0:(!decide (p.2 =0))=true:=by simp [hc]
  rw [if_pos c0,if_pos c0]
  exact⟨_,rfl,rfl,by simp [Core.sz,Core.szs]⟩
theorem Pl (a0:Book) (h0:Io (Book.ds a0)) (a1:Net) (h1:Io (Net.ds a1)) (a2:Int) (w2:(Lit.int IntKind.i64 a2).wf =true):Dt a0 a1 a2=some true:=by
 unfold Dt
 refine jP (jQ a0 h0 (1048576) (by omega)) fun z0=>?_
 refine jP (jR a1 (Net.ok_of a1 h1) (1048576 - a0.sz) (by omega)) fun z1=>?_
 have b0:a0.sz≤Big:=by unfold Big; omega
 have b1:a1.sz≤Big:=by unfold Big; omega
 obtain⟨r,hs,hi,hr⟩:=RA a0 a1 a2 (by omega) (by omega)
 have ft0:G2 a0=some a0:=f5 a0 b0
 have fe0:Kg a0 a0=some true:=Zo a0 b0
 have ft1:Ip a1=some a1:=jS a1 b1
 have fe1:NQ a1 a1=some true:=(Zp a1 a1 b1).true rfl
 have br0:=hr
 have ge0:EW fuel r.1 r.1 =some true:=jT r.1 br0
 have fm0:Hp a0 1=some (((1+a0.cntV:Nat):Int),(Book.mkV (1) a0).defs):=Zq a0 (1) b0 (by have:=Book.cntV_le a0; have:=b0; unfold Big KB at*; omega)
 have fm1:Iz a1 ((1+a0.cntV:Nat):Int)=some (((1+a0.cntV+a1.cntV:Nat):Int),(Net.mkV (1+a0.cntV) a1).agents):=bw a1 (1+a0.cntV) b1 (by have:=Book.cntV_le a0; have:=b0; have:=Net.cntV_le a1; have:=b1; unfold Big KB at*; omega)
 have gm0:Hq r.1 1=some (((1+r.1.cntV :Nat):Int),(Core.mkV (1) r.1).data,(Core.mkV (1) r.1).kids):=Zr r.1 (1) br0 (by have:=Core.cntV_le r.1; have:=br0; unfold Big KB at*; omega)
 have gh0:Gb ⟨r.1.kind,r.1.value,(Core.mkV (1) r.1).data,(Core.mkV (1) r.1).kids⟩ 1=some (((1+r.1.cntV :Nat):Int)):=Zs r.1 (1) br0 (by have:=Core.cntV_le r.1; have:=br0; unfold Big KB at*; omega)
 simp only [AA,hs,hi,ft0,fe0,ft1,fe1,ge0,fm0,fm1,gm0,gh0,Bw,BQ,Bx,Xq,beq_self_eq_true,mK,eq_self,decide_true,decide_false,Bool.not_true,Bool.not_false,Bool.false_eq_true,reduceIte]
end Go.Proofs.YtjnifengdhcojaaGreatDoor.Ab
namespace Go.Proofs.YtjnifengdhcojaaGreatDoor.lawPredictRead
set_option linter.unusedVariables false
set_option linter.unusedSimpArgs false
open Go.ChangeShapes Go.WideShapes Go.ChangeAt Go.RowKit Go.Proofs.YtjnifengdhcojaaGreatDoor Go.Proofs.YtjnifengdhcojaaGreatDoor.Ab
open Go.ChangeMaps (open_string shut_string)
theorem bx:∀ (n:Nat) (ds:List Go.Proofs.YtjnifengdhcojaaGreatDoor.D),EV Tryz.prog n 157 ds→∃x:Ab.Core,cvC ds=x.ds:=by
 intro n
 induction n using Nat.strongRecOn with
 |ind n ih=>
  intro ds h
  obtain⟨m0,hm0,h⟩:=Mh Tryz.underlying157 h
  simp only [Np] at h
  obtain⟨d1,r1,h1,⟨d2,r2,h2,⟨d3,r3,h3,⟨d4,r4,h4,rfl,rfl⟩,rfl⟩,rfl⟩,rfl⟩:=h
  obtain⟨z1,rfl⟩:=F5 Tryz.underlying2 h1
  obtain⟨z2,rfl⟩:=F5 Tryz.underlying2 h2
  obtain⟨z3,ez3⟩:=Kf AD Tryz.underlying26 (fun m x hm hx=>by obtain⟨z,rfl⟩:=F5 Tryz.underlying2 hx; exact⟨z,rfl⟩) h3
  obtain⟨z4,ez4⟩:=Kf Ab.Core.ds Tryz.underlying45 (fun m x hm hx=>ih m (Nat.lt_trans hm hm0) x hx) h4
  refine⟨⟨z1,z2,z3,z4⟩,?_⟩
  rw [Ab.Core.ds_eq]
  simp only [Ho,ez3,ez4,cvC,cv,List.cons_append,List.nil_append,List.append_nil]
theorem bz (n:Nat) (ds:List Go.Proofs.YtjnifengdhcojaaGreatDoor.D) (h:EV Tryz.prog n 47 ds):∃x:Ab.Book,cvC ds=x.ds:=by
 obtain⟨m0,hm0,h⟩:=Mh Tryz.underlying47 h
 simp only [Np] at h
 obtain⟨d1,r1,h1,rfl,rfl⟩:=h
 obtain⟨z1,ez1⟩:=Kf Ab.Core.ds Tryz.underlying45 (fun m x hm hx=>bx m x hx) h1
 refine⟨⟨z1⟩,?_⟩
 rw [Ab.Book.ds_eq]
 simp only [Ho,ez1,cvC,cv,List.cons_append,List.nil_append,List.append_nil]
theorem cA (n:Nat) (ds:List Go.Proofs.YtjnifengdhcojaaGreatDoor.D) (h:EV Tryz.prog n 235 ds):∃x:Ab.Port,cvC ds=x.ds:=by
 obtain⟨m0,hm0,h⟩:=Mh Tryz.underlying235 h
 simp only [Np] at h
 obtain⟨d1,r1,h1,⟨d2,r2,h2,rfl,rfl⟩,rfl⟩:=h
 obtain⟨z1,rfl⟩:=F5 Tryz.underlying2 h1
 obtain⟨z2,rfl⟩:=F5 Tryz.underlying2 h2
 refine⟨⟨z1,z2⟩,?_⟩
 rw [Ab.Port.ds_eq]
 simp only [Ho,cvC,cv,List.cons_append,List.nil_append,List.append_nil]
theorem Zt (n:Nat) (ds:List Go.Proofs.YtjnifengdhcojaaGreatDoor.D) (h:EV Tryz.prog n 103 ds):∃x:Ab.Agent,cvC ds=x.ds:=by
 obtain⟨m0,hm0,h⟩:=Mh Tryz.underlying103 h
 simp only [Np] at h
 obtain⟨d1,r1,h1,⟨d2,r2,h2,⟨d3,r3,h3,⟨d4,r4,h4,⟨d5,r5,h5,rfl,rfl⟩,rfl⟩,rfl⟩,rfl⟩,rfl⟩:=h
 obtain⟨z1,rfl⟩:=F5 Tryz.underlying2 h1
 obtain⟨z2,rfl⟩:=F5 Tryz.underlying2 h2
 obtain⟨z3,rfl⟩:=F5 Tryz.underlying2 h3
 obtain⟨z4,ez4⟩:=Kf AD Tryz.underlying26 (fun m x hm hx=>by obtain⟨z,rfl⟩:=F5 Tryz.underlying2 hx; exact⟨z,rfl⟩) h4
 obtain⟨z5,ez5⟩:=Kf Ab.Port.ds Tryz.underlying101 (fun m x hm hx=>cA m x hx) h5
 refine⟨⟨z1,z2,z3,z4,z5⟩,?_⟩
 rw [Ab.Agent.ds_eq]
 simp only [Ho,ez4,ez5,cvC,cv,List.cons_append,List.nil_append,List.append_nil]
theorem f6 (n:Nat) (ds:List Go.Proofs.YtjnifengdhcojaaGreatDoor.D) (h:EV Tryz.prog n 25 ds):∃x:Ab.Net,cvC ds=x.ds:=by
 obtain⟨m0,hm0,h⟩:=Mh Tryz.underlying25 h
 simp only [Np] at h
 obtain⟨d1,r1,h1,rfl,rfl⟩:=h
 obtain⟨z1,ez1⟩:=Kf Ab.Agent.ds Tryz.underlying23 (fun m x hm hx=>Zt m x hx) h1
 refine⟨⟨z1⟩,?_⟩
 rw [Ab.Net.ds_eq]
 simp only [Ho,ez1,cvC,cv,List.cons_append,List.nil_append,List.append_nil]
theorem xy (cs0:Array Value) (dd0:List Go.Proofs.YtjnifengdhcojaaGreatDoor.D) (n0:Nat) (ht0:EV Tryz.prog n0 47 dd0) (cs1:Array Value) (dd1:List Go.Proofs.YtjnifengdhcojaaGreatDoor.D) (n1:Nat) (ht1:EV Tryz.prog n1 25 dd1) (x2:Int) (wf2:(Lit.int IntKind.i64 x2).wf =true) (w:World) (hsh:w.ShapedOpen Tryz.prog) (hamb:Amb Tryz.prog w) (h0:Go.Proofs.YtjnifengdhcojaaGreatDoor.Reps w dd0 (Value.agg cs0).cells.toList) (h1:Go.Proofs.YtjnifengdhcojaaGreatDoor.Reps w dd1 (Value.agg cs1).cells.toList):
  Calls Tryz.prog 4 #[.agg cs0,.agg cs1,.int .i64 x2] w fun e w'=>e= .returned (.bool true)∧Below w.heap.size w w':=by
 obtain⟨y0,ey0⟩:=bz _ _ ht0
 obtain⟨hv0,hk0⟩:=Uj h0
 rw [ey0] at hv0 hk0
 have ha0:(List.map ofD y0.ds)=y0.avs:=by rw [Ab.Book.ds_eq]; rfl
 rw [ha0] at hv0
 obtain⟨y1,ey1⟩:=f6 _ _ ht1
 obtain⟨hv1,hk1⟩:=Uj h1
 rw [ey1] at hv1 hk1
 have ha1:(List.map ofD y1.ds)=y1.avs:=by rw [Ab.Net.ds_eq]; rfl
 rw [ha1] at hv1
 have hl:=Kh _ _ _ _ (Pl y0 hk0 y1 hk1 x2 wf2)
 refine fx hl hsh (by kernel_rfl) hamb ?_
 simp only [AH]
 exact⟨_,_,rfl,Zl hv0,⟨_,_,rfl,Zl hv1,⟨_,_,rfl,(VSim.of_rep (d:=.int .i64 x2) ⟨rfl,wf2⟩),rfl⟩⟩⟩
theorem own:ownKnob Tryz.prog.godebug=none:=by kernel_rfl
theorem Xr:laidOutB Tryz.prog=true:=by kernel_rfl
theorem okS:Xs Tryz.prog [47,45,157,2,26,25,23,103,101,235] =true:=by kernel_rfl
def laid:List (String × DataW Unit):=Rows.fnExactPredictReadRow.laid
set_option maxRecDepth 100000 in
theorem lifted (os:Os) (started:os.Started) (H:Type) (enc:TypeId × Value→H):
  ReturnsInHanded {} Tryz.checked os 4 .any (fun w args=>(Rows.fnExactPredictReadSpec.pre enc Tryz.prog Tryz.f4 Rows.fnExactPredictReadRow.domain false w args∧laidMetH Tryz.prog laid w)∧sizedMet enc Tryz.prog Tryz.f4 (OpenSpec.ofChange Rows.fnExactPredictReadSpec) false w args)
   (Rows.fnExactPredictReadSpec.post enc Tryz.prog Tryz.f4 false true false false):=by
 refine Sj (C:=Tryz.checked) (X:=fun w _=>laidMetH Tryz.prog laid w) (fun _ _ _ hh h=>h.of_heap hh) own started (by kernel_rfl) Tryz.func4
  (ChangeSpec.witness_shaped (enc:=enc) (C:=Tryz.checked) (os:=os) (X:=fun w _=>laidMetH Tryz.prog laid w) false (World.laidAll Tryz.prog os laid) #[.agg #[.slice none 0 0],.agg #[.slice none 0 0],.int .i64 0] 8 (World.laidAll_os _ _ _)
   (World.shaped_of_ZipB (by kernel_rfl) (by kernel_rfl)) (by kernel_rfl) (by kernel_rfl) (by kernel_rfl)
   (by rw [MakeChecks.laidMetH_plain _ _ _ (by kernel_rfl)]; exact laidMet_laidAll _ (by kernel_rfl) (by kernel_rfl))) ?_
 intro W base args ds gs before hval0 hW hL hsh
 have hamb:Amb Tryz.prog W:=Zu hL
 have hval:∀ (j:Nat) t v,Tryz.f4.params[j]? =some t→args[j]? =some v→Value.okWide Tryz.prog W .any base t v:=hval0
 have hW':=hW
 obtain⟨p,q,hA0,hV,rfl,hfz,hnd⟩:=hW
 have hA:DataW.TrodAll enc Tryz.prog W 0 (fun _=>true) true Tryz.f4.params.toList args.toList ds p:=hA0
 rw [Tryz.params4] at hA hval
 obtain⟨v0,vs0,d0,ds0,p0,q0,hargs,rfl,rfl,h0,r0⟩:=trodAll_cons hA
 obtain⟨v1,vs1,d1,ds1,p1,q1,rfl,rfl,rfl,h1,r1⟩:=trodAll_cons r0
 obtain⟨v2,vs2,d2,ds2,p2,q2,rfl,rfl,rfl,h2,r2⟩:=trodAll_cons r1
 obtain⟨rfl,rfl,rfl⟩:=trodAll_nil r2
 obtain rfl:args= #[v0,v1,v2] :=by cases args; simp_all
 obtain⟨rfl,rfl⟩:=trodVars_none hV
 have k0:=h0
 have lt0:∀x ∈ p0,x.block<W.heap.size:=by obtain⟨m,hm⟩:=k0; exact DataW.trod_lt m _ _ _ hm
 obtain⟨cs0,rfl,-,-⟩:=Nq (by kernel_rfl) (hval 0 47 v0 rfl rfl)
 obtain⟨fu0,hf0⟩:=h0
 obtain⟨dd0,ty0,re0⟩:=H6 _ okS fu0 _ _ _ (by decide) hf0
 have k1:=h1
 have lt1:∀x ∈ p1,x.block<W.heap.size:=by obtain⟨m,hm⟩:=k1; exact DataW.trod_lt m _ _ _ hm
 obtain⟨cs1,rfl,-,-⟩:=Nq (by kernel_rfl) (hval 1 25 v1 rfl rfl)
 obtain⟨fu1,hf1⟩:=h1
 obtain⟨dd1,ty1,re1⟩:=H6 _ okS fu1 _ _ _ (by decide) hf1
 have k2:=h2
 have lt2:∀x ∈ p2,x.block<W.heap.size:=by obtain⟨m,hm⟩:=k2; exact DataW.trod_lt m _ _ _ hm
 obtain⟨x2,rfl,rfl,rfl,wf2⟩:=open_int Tryz.underlying2 (hval 2 2 v2 rfl rfl) h2
 clear hA0 hval0
 refine(xy _ dd0 fu0 ty0 _ dd1 fu1 ty1 x2 wf2 W hsh hamb re0 re1).mono fun e W' ⟨he,bel⟩=>?_
 subst he
 exact⟨_,rfl,_,_,_,[],_,[],hW',trodAll_mk1 (shut_bool Tryz.underlying4 _),(trodAll_cons_mk (Below.trod Xr (by kernel_rfl) (of_decide_eq_true (by kernel_rfl)) k0 bel lt0) (trodAll_cons_mk (Below.trod Xr (by kernel_rfl) (of_decide_eq_true (by kernel_rfl)) k1 bel lt1) (trodAll_cons_mk (Below.trod Xr (by kernel_rfl) (of_decide_eq_true (by kernel_rfl)) k2 bel lt2) trodAll_mk0))),rfl,bel.frame _,fun h=>by cases h⟩
theorem xz:Rows.fnExactPredictReadRow.holds Tryz.pinned (OpenSpec.ofChange Rows.fnExactPredictReadSpec):=
 OpenClaim.holds_of_wide 4 Tryz.f4 rfl rfl rfl rfl rfl rfl rfl ⟨rfl,rfl,rfl,rfl,rfl⟩ rfl rfl rfl rfl rfl (by kernel_rfl) Tryz.func4 closed
  (of_decide_eq_true (by kernel_rfl)) (by unfold Func.isWrapper; first|(rw [if_pos (by decide+kernel)]; kernel_rfl)|(rw [if_neg (by decide+kernel)]; exact⟨rfl,rfl⟩))
  (fun os started H enc _=>lifted os started H enc)
theorem proved:Rows.FnExactPredictReadCardSaid:=
 Claim7.holds_tied_plain_at .later [] [.data,.data,.data] true (true, "462a0d6c4583cbcf6a51e4a6c71f0f7b7c088ae94310043a60cef233bef2ac5a") false xz (fun _ h=>by cases h) (by kernel_rfl) (fun _ h=>by cases h) fnExactPredictRead_row_tie rfl ⟨rfl,rfl⟩ (by kernel_rfl) rfl
  (fun f fn hf hfn=>by
   obtain rfl:f=4:=Option.some.inj ((show Tryz.prog.funcNamed Rows.fnExactPredictReadRow.func=some 4 by kernel_rfl).symm.trans hf) |>.symm
   obtain rfl:fn=Tryz.f4:=(Option.some.inj (Tryz.func4.symm.trans hfn)).symm
   exact⟨by kernel_rfl,fun j t ht=>by
    rw [Tryz.params4] at ht
    rcases j with _|j
    ·simp at ht; subst ht; kernel_rfl
    rcases j with _|j
    ·simp at ht; subst ht; kernel_rfl
    rcases j with _|j
    ·simp at ht; subst ht; kernel_rfl
    simp at ht⟩) (by kernel_rfl)
end Go.Proofs.YtjnifengdhcojaaGreatDoor.lawPredictRead
