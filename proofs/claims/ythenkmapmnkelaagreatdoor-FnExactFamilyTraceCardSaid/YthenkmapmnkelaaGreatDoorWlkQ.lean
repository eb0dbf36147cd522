/- The functions do what their models say. -/
import Derived.Test.YthenkmapmnkelaaGreatDoorModQ
import Derived.Test.YthenkmapmnkelaaGreatDoorTi2
import Derived.Test.YthenkmapmnkelaaGreatDoorFmtW
import Derived.Test.YthenkmapmnkelaaGreatDoorWlk
namespace Go.Proofs.YthenkmapmnkelaaGreatDoor.Ab
set_option linter.defProp false
set_option linter.unusedVariables false
set_option linter.unusedSimpArgs false
set_option maxRecDepth 20000
set_option maxHeartbeats 4000000
open Go.RowKit _root_.Go.Proofs.Tryz
theorem Ls (a0 r) (h:Hx a0=some r):AC prog 139 [.int .i64 a0] (.str r):=by
 unfold Hx at h
 refine acF func139 mixed (h:=Z ?_)
 exact AF (k1 UC) h
theorem RL (n:Nat):(∀u w y r,Eg n u w y=some r→Aa prog f122 [1,1,1,1,1,1,1,0,1,0] (.str r) ⟨[(3,.own 1000007000),(6,.own 1000007001),(7,.int .i64 y)],[(1000007000,some ⟨List.map u8D u,some 1,0,.no⟩),(1000007001,some ⟨List.map u8D w,some 1,0,.no⟩)],[]⟩):=by
 induction n with
 |zero=>exact((fun _ _ _ _ h=>by rw [Eg] at h; cases h))
 | succ n ih=>
  have I:=ih
  ·intro u w y r h
   rw [Eg] at h
   refine BL rfl rfl (Z ?_)
   refine Ai (Z ?_)
   refine AI h (fun h=>Z ?_) (fun h=>Z ?_)
   ·refine AK ?_
    replace h:=AB h; obtain⟨q,g,h⟩:=h
    refine AS g rfl (Z ?_)
    refine AX (AP g) (Z ?_)
    replace h:=AB h; obtain⟨j,k,h⟩:=h
    have F:=AT k
    obtain⟨G,C⟩:=F
    refine BO .no (Z ?_)
    refine By (Z ?_)
    refine F0 u8D C (Z ?_)
    exact AF (k1 I) h
   ·refine AK ?_
    replace h:=AB h; obtain⟨b,d,h⟩:=h
    have F:=eS d
    obtain⟨p,v⟩:=F
    refine qe (ns:=w) p ?_
    rw [v]
    try simp only [go_sem]
    exact AF trivial h
theorem LJ (u:List Int) (r:ByteArray) (h:Gb u=some r):Aa prog f122 [1,1,1,1,1,1] (.str r) ⟨[(3,.own 1000005000)],[(1000005000,some ⟨List.map u8D u,some 1,0,.no⟩)],[]⟩:=by
 unfold Gb at h
 refine BL rfl rfl (Z ?_)
 refine AK ?_
 refine CH (DZ rfl rfl (RL fuel u [] (IntKind.i64.wrap ((u.length:Int) - 1)) _ h):) (.one ⟨_,.lt 6 2000000000 14000 0 1 .no [] (k:=.done _),[(1000007000,1000005000),(1000007001,2000000000)],[],?_⟩)
 simp only [go_sem]
 all_goals try rfl
theorem Lz (a0:Int) (u:List Int) (r:ByteArray) (h:C3 a0 u=some r):Aa prog f122 [1,1,1,1,1] (.str r) ⟨[(0,.int .i64 a0),(3,.own 1000004000)],[(1000004000,some ⟨List.map u8D u,some 1,0,.no⟩)],[]⟩:=by
 unfold C3 at h
 refine BL rfl rfl (Z ?_)
 refine AI h (fun h=>Z ?_) (fun h=>Z ?_)
 ·replace h:=AB h; obtain⟨w,y,h⟩:=h
  have q:=AT y
  obtain⟨p,j⟩:=q
  refine BO .no (Z ?_)
  refine By (Z ?_)
  refine F0 u8D j (Z ?_)
  exact AF (k1 LJ) h
 ·exact AF (k1 LJ) h
theorem RM (n:Nat):(∀C u w r,De n C u w=some r→Aa prog f122 [1,1,1,0,0] (.str r) ⟨[(0,.int .i64 C),(3,.own 1000002000),(4,.int .i64 w)],[(1000002000,some ⟨List.map u8D u,some 1,0,.no⟩)],[]⟩)∧
    (∀C u w y r,FG n C u w y=some r→Aa prog f122 [1,1,1,0,0,0,1,0,1,1] (.str r) ⟨[(0,.int .i64 C),(3,.own 1000003000),(4,.int .i64 w),(5,.int .i64 y)],[(1000003000,some ⟨List.map u8D u,some 1,0,.no⟩)],[]⟩):=by
 induction n with
 |zero=>exact⟨(fun _ _ _ _ h=>by rw [De] at h; cases h),(fun _ _ _ _ _ h=>by rw [FG] at h; cases h)⟩
 | succ n ih=>
  obtain⟨J,O⟩:=ih
  refine⟨?_,?_⟩
  ·intro C u w r h
   rw [De] at h
   refine BL rfl rfl (Z ?_)
   refine Ai (Z ?_)
   refine AI h (fun h=>Z ?_) (fun h=>Z ?_)
   ·refine AK ?_
    refine BH (by decide) (Z ?_)
    exact AF (k1 O) h
   ·refine AK ?_
    refine AI h (fun h=>Z ?_) (fun h=>Z ?_)
    ·replace h:=AB h; obtain⟨q,g,h⟩:=h
     have F:=AT g
     obtain⟨G,p⟩:=F
     refine BO .no (Z ?_)
     refine By (Z ?_)
     refine F0 u8D p (Z ?_)
     exact AF (k1 Lz) h
    ·exact AF (k1 Lz) h
  ·intro C u w y r h
   rw [FG] at h
   refine BL rfl rfl (Z ?_)
   replace h:=AB h; obtain⟨j,k,h⟩:=h
   have F:=AT k
   obtain⟨I,v⟩:=F
   refine BO .no (Z ?_)
   refine By (Z ?_)
   refine F0 u8D v (Z ?_)
   refine AK ?_
   refine BH (by decide) (Z ?_)
   exact AF (k1 J) h
def SZ (n:Nat):=(RM n).1
theorem Lw (a0 r) (h:Hz a0=some r):AC prog 122 [.int .i64 a0] (.str r):=by
 unfold Hz at h
 refine acF func122 mixed (h:=Z ?_)
 refine AK ?_
 refine CH (DZ rfl rfl (SZ fuel a0 [] a0 _ h):) (.one ⟨_,.lt 3 2000000000 2000 0 1 .no [] (k:=.done _),[(1000002000,2000000000)],[],?_⟩)
 simp only [go_sem]
 all_goals try rfl
end Go.Proofs.YthenkmapmnkelaaGreatDoor.Ab
