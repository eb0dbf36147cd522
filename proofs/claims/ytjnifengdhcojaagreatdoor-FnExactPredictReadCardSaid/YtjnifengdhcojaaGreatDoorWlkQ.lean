/- The functions do what their models say. -/
import Derived.Test.YtjnifengdhcojaaGreatDoorModQ
import Derived.Test.YtjnifengdhcojaaGreatDoorTi2
import Derived.Test.YtjnifengdhcojaaGreatDoorFmtW
import Derived.Test.YtjnifengdhcojaaGreatDoorWlk
namespace Go.Proofs.YtjnifengdhcojaaGreatDoor.Ab
set_option linter.defProp false
set_option linter.unusedVariables false
set_option linter.unusedSimpArgs false
set_option maxRecDepth 20000
set_option maxHeartbeats 4000000
open Go.RowKit _root_.Go.Proofs.Tryz
theorem Lm (a0 r) (h:Hw a0=some r):AC prog 188 [.int .i64 a0] (.str r):=by
 unfold Hw at h
 refine acF func188 mixed (h:=Z ?_)
 exact AF (k1 Uk) h
theorem Ro (n:Nat):(∀u w y r,EL n u w y=some r→AR prog f173 [1,1,1,1,1,1,1,0,1,0] (.str r) ⟨[(3,.own 1000007000),(6,.own 1000007001),(7,.int .i64 y)],[(1000007000,some ⟨List.map u8D u,some 1,0,.no⟩),(1000007001,some ⟨List.map u8D w,some 1,0,.no⟩)],[]⟩):=by
 induction n with
 |zero=>exact((fun _ _ _ _ h=>by rw [EL] at h; cases h))
 | succ n ih=>
  have I:=ih
  ·intro u w y r h
   rw [EL] at h
   refine Am rfl rfl (Z ?_)
   refine A5 (Z ?_)
   refine AJ h (fun h=>Z ?_) (fun h=>Z ?_)
   ·refine AL ?_
    replace h:=AB h; obtain⟨q,g,h⟩:=h
    refine AS g rfl (Z ?_)
    refine CM (Bq g) (Z ?_)
    replace h:=AB h; obtain⟨j,k,h⟩:=h
    have F:=Ad k
    obtain⟨G,p⟩:=F
    refine Bp .no (Z ?_)
    refine CN (Z ?_)
    refine Hf u8D p (Z ?_)
    exact AF (k1 I) h
   ·refine AL ?_
    replace h:=AB h; obtain⟨b,d,h⟩:=h
    have F:=fw d
    obtain⟨C,v⟩:=F
    refine rF (ns:=w) C ?_
    rw [v]
    try simp only [go_sem]
    exact AF trivial h
theorem K8 (u:List Int) (r:ByteArray) (h:GR u=some r):AR prog f173 [1,1,1,1,1,1] (.str r) ⟨[(3,.own 1000005000)],[(1000005000,some ⟨List.map u8D u,some 1,0,.no⟩)],[]⟩:=by
 unfold GR at h
 refine Am rfl rfl (Z ?_)
 refine AL ?_
 refine CL (CS rfl rfl (Ro fuel u [] (IntKind.i64.wrap ((u.length:Int) - 1)) _ h):) (.one ⟨_,.lt 6 2000000000 14000 0 1 .no [] (k:=.done _),[(1000007000,1000005000),(1000007001,2000000000)],[],?_⟩)
 simp only [go_sem]
 all_goals try rfl
theorem Lx (a0:Int) (u:List Int) (r:ByteArray) (h:CW a0 u=some r):AR prog f173 [1,1,1,1,1] (.str r) ⟨[(0,.int .i64 a0),(3,.own 1000004000)],[(1000004000,some ⟨List.map u8D u,some 1,0,.no⟩)],[]⟩:=by
 unfold CW at h
 refine Am rfl rfl (Z ?_)
 refine AJ h (fun h=>Z ?_) (fun h=>Z ?_)
 ·replace h:=AB h; obtain⟨w,y,h⟩:=h
  have q:=Ad y
  obtain⟨p,j⟩:=q
  refine Bp .no (Z ?_)
  refine CN (Z ?_)
  refine Hf u8D j (Z ?_)
  exact AF (k1 K8) h
 ·exact AF (k1 K8) h
theorem Rp (n:Nat):(∀F u w r,C4 n F u w=some r→AR prog f173 [1,1,1,0,0] (.str r) ⟨[(0,.int .i64 F),(3,.own 1000002000),(4,.int .i64 w)],[(1000002000,some ⟨List.map u8D u,some 1,0,.no⟩)],[]⟩)∧
    (∀F u w y r,E4 n F u w y=some r→AR prog f173 [1,1,1,0,0,0,1,0,1,1] (.str r) ⟨[(0,.int .i64 F),(3,.own 1000003000),(4,.int .i64 w),(5,.int .i64 y)],[(1000003000,some ⟨List.map u8D u,some 1,0,.no⟩)],[]⟩):=by
 induction n with
 |zero=>exact⟨(fun _ _ _ _ h=>by rw [C4] at h; cases h),(fun _ _ _ _ _ h=>by rw [E4] at h; cases h)⟩
 | succ n ih=>
  obtain⟨J,O⟩:=ih
  refine⟨?_,?_⟩
  ·intro F u w r h
   rw [C4] at h
   refine Am rfl rfl (Z ?_)
   refine A5 (Z ?_)
   refine AJ h (fun h=>Z ?_) (fun h=>Z ?_)
   ·refine AL ?_
    refine Bu (by decide) (Z ?_)
    exact AF (k1 O) h
   ·refine AL ?_
    refine AJ h (fun h=>Z ?_) (fun h=>Z ?_)
    ·replace h:=AB h; obtain⟨q,g,h⟩:=h
     have C:=Ad g
     obtain⟨G,p⟩:=C
     refine Bp .no (Z ?_)
     refine CN (Z ?_)
     refine Hf u8D p (Z ?_)
     exact AF (k1 Lx) h
    ·exact AF (k1 Lx) h
  ·intro F u w y r h
   rw [E4] at h
   refine Am rfl rfl (Z ?_)
   replace h:=AB h; obtain⟨j,k,h⟩:=h
   have C:=Ad k
   obtain⟨I,v⟩:=C
   refine Bp .no (Z ?_)
   refine CN (Z ?_)
   refine Hf u8D v (Z ?_)
   refine AL ?_
   refine Bu (by decide) (Z ?_)
   exact AF (k1 J) h
def S9 (n:Nat):=(Rp n).1
theorem Ls (a0 r) (h:H0 a0=some r):AC prog 173 [.int .i64 a0] (.str r):=by
 unfold H0 at h
 refine acF func173 mixed (h:=Z ?_)
 refine AL ?_
 refine CL (CS rfl rfl (S9 fuel a0 [] a0 _ h):) (.one ⟨_,.lt 3 2000000000 2000 0 1 .no [] (k:=.done _),[(1000002000,2000000000)],[],?_⟩)
 simp only [go_sem]
 all_goals try rfl
end Go.Proofs.YtjnifengdhcojaaGreatDoor.Ab
