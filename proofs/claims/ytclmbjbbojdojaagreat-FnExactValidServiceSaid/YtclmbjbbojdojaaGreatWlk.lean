/-
 The functions do what their models say. Printed by wip/ab/gen.py.
-/
import Derived.Test.YtclmbjbbojdojaaGreatMod
import Derived.Test.YtclmbjbbojdojaaGreatTi2
namespace Go.Proofs.YtclmbjbbojdojaaGreat.Ab
set_option linter.unusedVariables false
set_option linter.unusedSimpArgs false
set_option maxRecDepth 20000
set_option maxHeartbeats 4000000
open Go.RowKit
theorem J5 (a0 a1 r) (h:E3 a0 a1=some r):AC Tryz.prog 100 [.ro (a0.map AB),.int .i64 a1] (.int .i64 r):=by
 unfold E3 at h
 refine acF Tryz.func100 mixed (h:=Z ?_)
 exact AJ trivial h
theorem QE (n:Nat):(∀a0 u w r,De n a0 u w=some r→Ac Tryz.prog Tryz.f9 [1,1,0,1,0] (.ow (some 1) (r.map AB)) ⟨[(0,.ro (a0.map AB)),(3,.own 1000001000),(4,.int .i64 w)],[(1000001000,some ⟨List.map AB u,some 1,0,.no⟩)],[]⟩):=by
 induction n with
 |zero=>exact((fun _ _ _ _ h=>by rw [De] at h; cases h))
 | succ n ih=>
  have ih0:=ih
  ·intro a0 u w r h
   rw [De] at h
   refine AR rfl rfl (Z ?_)
   refine AY (Z ?_)
   refine AH h (fun h=>Z ?_) (fun h=>Z ?_)
   ·refine AL ?_
    replace h:=AD h; obtain⟨y,q,h⟩:=h
    refine Ad q rfl (Z ?_)
    replace h:=AD h; obtain⟨g,j,h⟩:=h
    refine Ad j rfl (Z ?_)
    replace h:=AD h; obtain⟨k,b,h⟩:=h
    refine GK (FL j) (Z ?_)
    refine Bo (k.map AB) (by rw [← D8 b]; simp only [List.map_set,go_sem,slD]) (Z ?_)
    refine AL ?_
    exact lpF (ih0 a0 k (IntKind.i64.wrap (w+1)) _ h) [(1000001000,1000001000)] []
   ·exact AJ trivial h
theorem J6 (a0 r) (h:E4 a0=some r):AC Tryz.prog 9 [.ro (a0.map AB)] (.ow (some 1) (r.map AB)):=by
 unfold E4 at h
 refine acF Tryz.func9 mixed (h:=Z ?_)
 replace h:=AD h; obtain⟨u,w,h⟩:=h
 have hq_:=EF w
 obtain⟨hv2002a,hv2002b,hv2002c⟩:=hq_
 refine B4 (by refine⟨?_,?_,?_⟩ <;> omega) (Z ?_)
 refine C3 .no (Z ?_)
 refine Bo (u.map AB) (by rw [← hv2002c]; simp only [List.map_replicate,go_sem,slD]) (Z ?_)
 refine AL ?_
 exact loF (QE fuel a0 u 0 _ h) [(1000001000,32032)] []
theorem QF (n:Nat):(∀a0 a1 u r,EU n a0 a1 u=some r→Ac Tryz.prog Tryz.f13 [1,1,0,1,0] (.bool r) ⟨[(0,.ro (a0.map AB)),(1,.ro (a1.map AB)),(5,.int .i64 u)],[],[]⟩):=by
 induction n with
 |zero=>exact((fun _ _ _ _ h=>by rw [EU] at h; cases h))
 | succ n ih=>
  have ih0:=ih
  ·intro a0 a1 u r h
   rw [EU] at h
   refine AR rfl rfl (Z ?_)
   refine AY (Z ?_)
   refine AH h (fun h=>Z ?_) (fun h=>Z ?_)
   ·refine AL ?_
    refine Ah [] .fin (by kernel_rfl) (Z ?_)
    exact AJ (k1 ih0) h
   ·exact AJ trivial h
theorem J7 (a0 a1 r) (h:E5 a0 a1=some r):AC Tryz.prog 13 [.ro (a0.map AB),.ro (a1.map AB)] (.bool r):=by
 unfold E5 at h
 refine acF Tryz.func13 mixed (h:=Z ?_)
 exact AJ (k1 QF) h
end Go.Proofs.YtclmbjbbojdojaaGreat.Ab
