/- The functions do what their models say. -/
import Derived.Test.YthenkmapmnkelaaGreatDoorModR
import Derived.Test.YthenkmapmnkelaaGreatDoorTi2
import Derived.Test.YthenkmapmnkelaaGreatDoorWlkG
namespace Go.Proofs.YthenkmapmnkelaaGreatDoor.Ab
set_option linter.unusedVariables false
set_option linter.unusedSimpArgs false
set_option maxRecDepth 20000
set_option maxHeartbeats 4000000
open Go.RowKit _root_.Go.Proofs.Tryz
theorem Nz (n:Nat):(∀j u r,Cs n j u=some r→Aa prog f39 [1,1,0,1,0] (.bool r) ⟨[(0,.ro (j.map AD)),(3,.int .i64 u)],[],[]⟩):=by
 induction n with
 |zero=>exact((fun _ _ _ h=>by rw [Cs] at h; cases h))
 | succ n ih=>
  have p:=ih
  ·intro j u r h
   rw [Cs] at h
   exact AF (k2 DU p) h
theorem RN (a0 r) (h:GV a0=some r):AC prog 39 [.ro (a0.map AD)] (.bool r):=by
 unfold GV at h
 refine acF func39 mixed (h:=Z ?_)
 exact AF (k1 Nz) h
theorem RO (u:Bool) (r:Int) (h:GW u=some r):Aa prog f19 [1,1,0,1] (.int .i64 r) ⟨[(24,.bool u)],[],[]⟩:=by
 unfold GW at h
 exact AF trivial h
theorem RP (a2:List Int) (a3:Int) (u:Bool) (r:Int) (h:EY a2 a3 u=some r):Aa prog f19 [1,0,1] (.int .i64 r) ⟨[(2,.ro (a2.map AD)),(3,.int .i64 a3),(16,.bool u)],[],[]⟩:=by
 unfold EY at h
 exact AF (k3 RN RO DU) h
theorem VD (a0 a1 a2 a3 r) (h:JM a0 a1 a2 a3=some r):AC prog 19 [.ro (a0.map Net.ds),.rop (Net.avs a1) 0,.ro (a2.map AD),.int .i64 a3] (.int .i64 r):=by
 unfold JM at h
 refine acF func19 mixed (h:=Z ?_)
 exact AF (k3 Xg RP Uo) h
theorem NO (a0 r) (h:Fv a0=some r):AC prog 103 [.int .i64 a0] (.bool r):=by
 unfold Fv at h
 refine acF func103 mixed (h:=Z ?_)
 exact AF trivial h
theorem Oz (a0 r) (h:FU a0=some r):AC prog 59 [.ro (a0.map AD)] (.bool r):=by
 unfold FU at h
 refine acF func59 mixed (h:=Z ?_)
 refine AI h (fun h=>Z ?_) (fun h=>Z ?_)
 ·replace h:=AB h; obtain⟨u,w,h⟩:=h
  refine AL (Gg _ _ 103 [] (Still.of rfl) (fun j q p=>NO j  q p) _ w) (Z ?_)
  exact AF trivial h
 ·exact AF trivial h
theorem Sa (a0 a1 r) (h:Ik a0 a1=some r):AG prog 60 [.ro (a0.map Net.ds),.agg [.ro (a1.agents.map Agent.ds)]] [] [] (.any) [] [] :=by
 unfold Ik at h
 refine agF func60 mixed (h:=Z ?_)
 refine AW [] .fin (by kernel_rfl) (Z ?_)
 replace h:=AB h; obtain⟨u,w,h⟩:=h
 refine nY (K7 _ _ _ w) (by (first|rfl|(simp only [go_sem]; rfl))) (Z ?_)
 replace h:=AB h; obtain⟨y,q,h⟩:=h
 have C:=G7 q
 obtain⟨v,p,j⟩:=C
 refine BH (by refine⟨?_,?_,?_⟩ <;> omega) (Z ?_)
 refine BO .no (Z ?_)
 refine Ar (y.map AD) (by rw [← j]; simp only [List.map_replicate,go_sem,slD]) (Z ?_)
 refine AK ?_
 cases h
 refine T9 (.forget 0 [] _ (by (first|rfl|(simp only [go_sem]; rfl))) (.done _)) [] [] ?_
 simp only [go_sem]
 all_goals try rfl
theorem QS (a0:List Net) (a1:Net) (u:Bool) (r:Int) (h:Dz a0 a1 u=some r):BK prog f27 [1,0,0,1,1,1] (.tup [.any,.int .i64 r]) [] [] ⟨[(0,.ro (a0.map Net.ds)),(5,.box 1000001500 0),(19,.bool u)],[],[(1000001500,some [.ro (a1.agents.map Agent.ds)])]⟩:=by
 unfold Dz at h
 refine AM rfl rfl (Z ?_)
 refine AI h (fun h=>Z ?_) (fun h=>Z ?_)
 ·cases h
  refine T9 (.forget 0 [0] _ (by (first|rfl|(simp only [go_sem]; rfl))) (.done _)) [] [] ?_
  simp only [go_sem]
  all_goals try rfl
 ·refine AK ?_
  replace h:=AB h; obtain⟨w,y,h⟩:=h
  refine caG ⟨[],[],[],[],[],true⟩ (Sa _ _ _ y) (Z ?_)
  refine AK ?_
  cases h
  refine T9 (.forget 0 [0] _ (by (first|rfl|(simp only [go_sem]; rfl))) (.done _)) [] [] ?_
  simp only [go_sem]
  all_goals try rfl
theorem QT (a0:List Net) (a1:Net) (a2:List Int) (a3:Int) (u:Bool) (r:Int) (h:Dy a0 a1 a2 a3 u=some r):BK prog f27 [1,0,0,1] (.tup [.any,.int .i64 r]) [] [] ⟨[(0,.ro (a0.map Net.ds)),(2,.ro (a2.map AD)),(3,.int .i64 a3),(5,.box 1000000500 0),(10,.bool u)],[],[(1000000500,some [.ro (a1.agents.map Agent.ds)])]⟩:=by
 unfold Dy at h
 refine AM rfl rfl (Z ?_)
 refine AI h (fun h=>Z ?_) (fun h=>Z ?_)
 ·cases h
  refine T9 (.forget 0 [0] _ (by (first|rfl|(simp only [go_sem]; rfl))) (.done _)) [] [] ?_
  simp only [go_sem]
  all_goals try rfl
 ·exact AF (k2 Oz QS) h
theorem Ub (a0 a1 a2 a3 r) (h:ID a0 a1 a2 a3=some r):AG prog 27 [.ro (a0.map Net.ds),.agg [.ro (a1.agents.map Agent.ds)],.ro (a2.map AD),.int .i64 a3] [] [] (.tup [.any,.int .i64 r]) [] [] :=by
 unfold ID at h
 refine agF func27 mixed (h:=Z ?_)
 exact AF (k3 N0 QT H6) h
end Go.Proofs.YthenkmapmnkelaaGreatDoor.Ab
