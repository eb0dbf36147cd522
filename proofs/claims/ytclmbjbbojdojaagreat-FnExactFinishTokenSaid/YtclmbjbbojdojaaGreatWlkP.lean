/-
 The functions do what their models say. Printed by wip/ab/gen.py.
-/
import Derived.Test.YtclmbjbbojdojaaGreatModP
import Derived.Test.YtclmbjbbojdojaaGreatTi2
import Derived.Test.YtclmbjbbojdojaaGreatWlkG
namespace Go.Proofs.YtclmbjbbojdojaaGreat.Ab
set_option linter.unusedVariables false
set_option linter.unusedSimpArgs false
set_option maxRecDepth 20000
set_option maxHeartbeats 4000000
open Go.RowKit
theorem Xs (a0 r) (h:Lg a0=some r):AC Tryz.prog 221 [.bool a0] (.int .i64 r):=by
 unfold Lg at h
 refine acF Tryz.func221 mixed (h:=Z ?_)
 exact AF trivial h
theorem Pi (n:Nat):(∀a0 u w r,C8 n a0 u w=some r→Aa Tryz.prog Tryz.f157 [1,1,0,1,0] (.int .i64 r) ⟨[(0,.ro (a0.map Parcel.ds)),(3,.int .i64 u),(4,.int .i64 w)],[],[]⟩):=by
 induction n with
 |zero=>exact((fun _ _ _ _ h=>by rw [C8] at h; cases h))
 | succ n ih=>
  have ih0:=ih
  ·intro a0 u w r h
   rw [C8] at h
   exact AF (k2 Xs ih0) h
theorem MY (a0 r) (h:H8 a0=some r):AC Tryz.prog 157 [.ro (a0.map Parcel.ds)] (.int .i64 r):=by
 unfold H8 at h
 refine acF Tryz.func157 mixed (h:=Z ?_)
 exact AF (k1 Pi) h
end Go.Proofs.YtclmbjbbojdojaaGreat.Ab
