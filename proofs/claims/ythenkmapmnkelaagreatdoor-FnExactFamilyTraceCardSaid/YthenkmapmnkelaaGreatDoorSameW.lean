/- impl. -/
import Derived.Test.YthenkmapmnkelaaGreatDoorManL
import Derived.Test.YthenkmapmnkelaaGreatDoorAbS
import Derived.Test.YthenkmapmnkelaaGreatDoorTi2
import Derived.Deep.RegionHeld3
import Derived.WalkKit
import Derived.LaidEqlPtr
namespace Go.Proofs.YthenkmapmnkelaaGreatDoor.Ab
set_option linter.unusedVariables false
set_option maxRecDepth 20000
set_option maxHeartbeats 4000000
open Go.RowKit
theorem OA {P:Program} (w:World) {tp te:TypeId} {j:TypeInfo} {a b:Addr} {ca cb:Array Value} {ta tb:TypeId} (hp:P.underlying tp=some (.pointer te)) (hte:P.info? te=some j) (hsz:j.size≠0)
  (hne:a≠b) (ha:w.heap[a.block]? =some (.cells ca ta (0,0))) (hb:w.heap[b.block]? =some (.cells cb tb (0,0))):
  (binOp .neq tp (.pointer (some a)) (.pointer (some b))).run P w= .ok (.bool true) w:=by
 have h:∀d:Nat,(Op.equalIn (d+1) tp (.pointer (some a)) (.pointer (some b))).run P w= .ok false w:=fun d=>by
  simp [Op.equalIn,run_underlying hp,sizeOf,typeInfo,hte,hsz,run_sameAddr_other w hne ha hb]
 simp only [binOp]
 simp [Op.equal,Op.maxDepth,h 9999]
theorem XS {P:Program} (w:World) {tp te:TypeId} {j:TypeInfo} (a:Addr) (hp:P.underlying tp=some (.pointer te)) (hte:P.info? te=some j):
  (binOp .neq tp (.pointer (some a)) (.pointer (some a))).run P w= .ok (.bool false) w:=by
 have h:∀d:Nat,(Op.equalIn (d+1) tp (.pointer (some a)) (.pointer (some a))).run P w= .ok true w:=fun d=>by
  simp [Op.equalIn,run_underlying hp,sizeOf,typeInfo,hte,run_sameAddr_same]
 simp only [binOp]
 simp [Op.equal,Op.maxDepth,h 9999]
theorem ZW {P:Program} (w:World) {tp te:TypeId} (b:Addr) (hp:P.underlying tp=some (.pointer te)):
  (binOp .neq tp (.pointer none) (.pointer (some b))).run P w= .ok (.bool true) w:=by
 have h:∀d:Nat,(Op.equalIn (d+1) tp (.pointer none) (.pointer (some b))).run P w= .ok false w:=fun d=>by
  simp [Op.equalIn,run_underlying hp]
 simp only [binOp]
 simp [Op.equal,Op.maxDepth,h 9999]
theorem S5:Tryz.prog.underlying 151=some (.pointer 204):=by kernel_rfl
theorem oN:∃i,Tryz.prog.info? 204=some i∧i.size≠0:=by
 obtain⟨i,h1,h2⟩:=KW (P:=Tryz.prog) (t:=204) (by rw [show tsz Tryz.prog 204=2 from by kernel_rfl]; omega)
 exact⟨i,h1,by rw [h2,show tsz Tryz.prog 204=2 from by kernel_rfl]; omega⟩
def LL (w:World):List Int→Value→Prop
 | [],v=>v= .pointer none
 |p::l,v=>∃ (b o:Nat) (u:Value),v= .pointer (some ⟨b,o,none⟩)∧PF w b∧w.cell? ⟨b,o,none⟩=some (.int .i64 p)∧w.cell? ⟨b,o+1,none⟩=some u∧LL w l u
theorem LL.uniq {w:World}:∀ {l m:List Int} {v:Value},LL w l v→LL w m v→l=m
 | [],[],_,_,_=>rfl
 | [],_::_,_,h,⟨_,_,_,e,_⟩=>by cases h; cases e
 |_::_,[],_,⟨_,_,_,e,_⟩,h=>by cases h; cases e
 |p::l,q::m,_,⟨b,o,u,e,h0,h1,h2,h3⟩,⟨b',o',u',e',k0,k1,k2,k3⟩=>by
  subst e
  cases e'
  rw [h1] at k1
  rw [h2] at k2
  cases k1
  cases k2
  rw [LL.uniq h3 k3]
theorem LL.keep {w w':World} (hk:Keeps w w'):∀ {l:List Int} {v:Value},LL w l v→LL w' l v
 | [],_,h=>h
 |_::_,_,⟨b,o,u,e,h0,h1,h2,h3⟩=>⟨b,o,u,e,hk.pf _ _ h1 h0,hk _ _ h1,hk _ _ h2,h3.keep hk⟩
open Classical in
noncomputable def jJ (w:World) (v:Value):Nat:=if h:∃l,LL w l v then h.choose.length else 0
theorem ZX {w:World} {l:List Int} {v:Value} (h:LL w l v):jJ w v=l.length:=by
 have h':∃l,LL w l v:=⟨l,h⟩
 rw [jJ,dif_pos h',LL.uniq h'.choose_spec h]
theorem ZY {w:World} {γ:Gh}:∀ (s:Stack) (v:Value),VSim w γ (.rop s.avs 0) v→LL w s.li v
 |⟨p,none⟩,v,h=>by
  rw [Stack.avs] at h
  simp only [VSim,AH] at h
  obtain⟨b,o,us,rfl,⟨u,us',rfl,⟨rfl,-⟩,u2,us2,rfl,rfl,rfl⟩,hp,hc⟩:=h
  exact⟨b,o,_,rfl,hp rfl,hc 0 _ rfl,hc 1 _ rfl,rfl⟩
 |⟨p,some r⟩,v,h=>by
  rw [Stack.avs] at h
  rw [VSim] at h
  obtain⟨b,o,us,rfl,hs,hp,hc⟩:=h
  simp only [AH] at hs
  obtain⟨u,us',rfl,hu,u2,us2,rfl,h2,rfl⟩:=hs
  simp only [VSim] at hu
  obtain⟨rfl,-⟩:=hu
  exact⟨b,o,_,rfl,hp rfl,hc 0 _ rfl,hc 1 _ rfl,ZY r _ h2⟩
theorem jK {w:World} {γ:Gh} (s:Option Stack) (v:Value) (h:VSim w γ (nop Stack.avs s) v):LL w (stl s) v:=by
 cases s with
 |none=>simp only [nop,VSim] at h; exact h
 |some s=>exact ZY s v h
theorem bK (w:World) (l m:List Int) (v u:Value) (hl:LL w l v) (hm:LL w m u):
  Calls Tryz.prog 173 #[v,u] w (fun e w'=>e= .returned (.bool (decide (l=m)))∧Below w.heap.size w w'):=by
 obtain⟨ij,hij,hsz⟩:=oN
 have HI:=Lib.hid (And.intro hij hsz)
 clear hij hsz
 go_enter Tryz.func173,Tryz.ntmps173
 go_wp2_with fail
 go_loopw [0,1] (fun va vb wr=>∃ (l' m':List Int) (n:Nat),LL w l' va∧LL w m' vb∧Hid (decide (l'=m')=decide (l=m))∧wr=w.drewN n) (fun va vb wr=>jJ w va)
 case atStart=>exact⟨l,m,0,hl,hm,rfl,rfl⟩
 case round=>
  obtain⟨l',m',n,h1,h2,he,hwr⟩:=hrel
  have hk:Keeps w wr:=by rw [hwr]; exact Keeps.of_below (N5 n)
  have HW:=Lib.hid hwr
  clear hwr
  rcases l' with _|⟨p,l'⟩ <;> rcases m' with _|⟨q,m'⟩
  ·cases h1; cases h2
   go_wp2_with fail
   go_ret
   exact⟨by rw [← he.out]; rfl,by rw [HW.out]; exact N5 n⟩
  ·cases h1
   obtain⟨b,o,x,rfl,k0,k1,k2,k3⟩:=h2
   have K:=Lib.hid k3
   clear k3
   go_wp2_with fail
   rw [ZW wr _ S5]
   go_wp2_with fail
   go_quiet (fail)
   go_wp2_with fail
   go_ret
   exact⟨by rw [← he.out]; rfl,by rw [HW.out]; exact(N5 n).trans (N5 nq)⟩
  ·cases h2
   obtain⟨b,o,x,rfl,k0,k1,k2,k3⟩:=h1
   have K:=Lib.hid k3
   clear k3
   go_wp2_with fail
   go_quiet (fail)
   go_wp2_with fail
   go_ret
   exact⟨by rw [← he.out]; rfl,by rw [HW.out]; exact(N5 n).trans (N5 nq)⟩
  ·have hu1:=h1
   have hu2:=h2
   obtain⟨b,o,x,rfl,j0,j1,j2,j3⟩:=h1
   obtain⟨b',o',y,rfl,k0,k1,k2,k3⟩:=h2
   obtain⟨c1,t1,e1⟩:=hk.pf _ _ j1 j0
   obtain⟨c2,t2,e2⟩:=hk.pf _ _ k1 k0
   replace j1:=hk _ _ j1
   replace j2:=hk _ _ j2
   replace k1:=hk _ _ k1
   replace k2:=hk _ _ k2
   have U:=Lib.hid (And.intro hu1 hu2)
   clear hu1 hu2
   have J:=Lib.hid (And.intro j3 k3)
   clear j3 k3
   by_cases hb:Addr.mk b o none=Addr.mk b' o' none
   ·cases hb
    go_wp2_with fail
    rw [XS wr _ S5 HI.out.1]
    go_wp2_with fail
    go_ret
    exact⟨by rw [← he.out,LL.uniq U.out.1 U.out.2,decide_eq_true rfl]; rfl,by rw [HW.out]; exact N5 n⟩
   ·have HB:=Lib.hid hb
    clear hb
    by_cases hpq:p=q
    ·subst hpq
     have hg:(p != p)=false:=by simp
     go_wp2_with fail
     rw [OA wr S5 HI.out.1 HI.out.2 HB.out e1 e2]
     go_wp2_with fail
     go_quiet (fail)
     go_wp2_with fail
     go_quiet (fail)
     go_wp2_with fail
     rename_i nq1
     go_roundw
     case rel=>
      refine⟨l',m',n+(nq1+nq),J.out.1,J.out.2,Lib.hid (by rw [← he.out]; simp),?_⟩
      rw [HW.out,World.drewN_drewN,World.drewN_drewN]
     case measure=>rw [ZX J.out.1,ZX U.out.1,List.length_cons]; omega
    ·have hg:(p != q)=true:=by simpa using hpq
     have HP:=Lib.hid hpq
     clear hpq
     go_wp2_with fail
     rw [OA wr S5 HI.out.1 HI.out.2 HB.out e1 e2]
     go_wp2_with fail
     go_quiet (fail)
     go_wp2_with fail
     go_ret
     exact⟨by rw [← he.out,decide_eq_false (fun h=>HP.out (List.cons.inj h).1)]; rfl,by rw [HW.out]; exact(N5 n).trans (N5 nq)⟩
theorem UT (a0 a1:Option Stack) (r:Bool) (h:Mp a0 a1=some r):AC Tryz.prog 173 [nop Stack.avs a0,nop Stack.avs a1] (.bool r):=by
 cases h
 refine⟨by kernel_rfl,fun w us hsh hlow hamb hv=>?_⟩
 simp only [AH] at hv
 obtain⟨u,us',rfl,h1,u2,us2,rfl,h2,rfl⟩:=hv
 refine(bK w _ _ u u2 (jK _ _ h1) (jK _ _ h2)).mono ?_
 rintro e w' ⟨rfl,hb⟩
 exact⟨_,[],rfl,⟨rfl,rfl⟩,List.nodup_nil,by simp,hb⟩
end Go.Proofs.YthenkmapmnkelaaGreatDoor.Ab
