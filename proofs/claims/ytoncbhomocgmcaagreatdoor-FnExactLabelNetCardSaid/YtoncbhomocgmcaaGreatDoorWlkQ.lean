/-
 The functions do what their models say. Printed by wip/ab/gen.py.
-/
import Derived.Test.YtoncbhomocgmcaaGreatDoorModQ
import Derived.Test.YtoncbhomocgmcaaGreatDoorTi2
import Derived.Test.YtoncbhomocgmcaaGreatDoorFmtW
import Derived.Test.YtoncbhomocgmcaaGreatDoorWlk
namespace Go.Proofs.YtoncbhomocgmcaaGreatDoor.Ab
set_option linter.defProp false
set_option linter.unusedVariables false
set_option linter.unusedSimpArgs false
set_option maxRecDepth 20000
set_option maxHeartbeats 4000000
open Go.RowKit
theorem Ho (a0 r) (h:EO a0=some r):AC Tryz.prog 64 [.int .i64 a0] (.str r):=by
 unfold EO at h
 refine acF Tryz.func64 mixed (h:=Z ?_)
 exact AI (k1 OE) h
theorem Lv (n:Nat):(∀u w y r,Ct n u w y=some r→BE Tryz.prog Tryz.f80 [1,1,1,1,1,1,1,0,1,0] (.str r) ⟨[(3,.own 1000007000),(6,.own 1000007001),(7,.int .i64 y)],[(1000007000,some ⟨List.map u8D u,some 1,0,.no⟩),(1000007001,some ⟨List.map u8D w,some 1,0,.no⟩)],[]⟩):=by
 induction n with
 |zero=>exact((fun _ _ _ _ h=>by rw [Ct] at h; cases h))
 | succ n ih=>
  have ih0:=ih
  ·intro u w y r h
   rw [Ct] at h
   refine Bn rfl rfl (Z ?_)
   refine Bw (Z ?_)
   refine AO h (fun h=>Z ?_) (fun h=>Z ?_)
   ·refine AS ?_
    replace h:=AJ h; obtain⟨q,g,h⟩:=h
    refine Aq g rfl (Z ?_)
    refine BN (A8 g) (Z ?_)
    replace h:=AJ h; obtain⟨j,k,h⟩:=h
    have hq_:=AH k
    obtain⟨hv18006a,hv18006b⟩:=hq_
    refine AP .no (Z ?_)
    refine AK (by refine⟨?_,?_⟩ <;> (try simp only [List.length_map,List.length_append,List.length_cons,List.length_nil] at*) <;> (try unfold maxLen) <;> omega) (Z ?_)
    refine AN (j.map u8D) (by rw [← hv18006b]; simp only [List.map_append,List.map_cons,List.map_nil,List.nil_append,List.append_nil,go_sem,slD]) (Z ?_)
    exact AI (k1 ih0) h
   ·refine AS ?_
    replace h:=AJ h; obtain⟨b,d,h⟩:=h
    have hq_:=Py d
    obtain⟨hv19001a,hv19001b⟩:=hq_
    refine aL (ns:=w) hv19001a ?_
    rw [hv19001b]
    try simp only [go_sem]
    exact AI trivial h
theorem HM (u:List Int) (r:ByteArray) (h:Da u=some r):BE Tryz.prog Tryz.f80 [1,1,1,1,1,1] (.str r) ⟨[(3,.own 1000005000)],[(1000005000,some ⟨List.map u8D u,some 1,0,.no⟩)],[]⟩:=by
 unfold Da at h
 refine Bn rfl rfl (Z ?_)
 refine AS ?_
 refine EX (EF rfl rfl (Lv fuel u [] (IntKind.i64.wrap ((u.length:Int) - 1)) _ h):) (.one ⟨_,.lit 6 2000000000 14000 0 1 .no [] _ _ (by (first|rfl|(simp only [go_sem]; rfl))) (by simp only [go_sem]; rfl) (by (first|rfl|(simp only [go_sem]; rfl))) (by (first|rfl|(simp only [go_sem]; rfl))) (by decide) (by decide) (by simp only [go_sem]) (.done _),[(1000007000,1000005000),(1000007001,2000000000)],[],?_⟩)
 simp only [go_sem]
 all_goals try rfl
theorem Hy (a0:Int) (u:List Int) (r:ByteArray) (h:Bq a0 u=some r):BE Tryz.prog Tryz.f80 [1,1,1,1,1] (.str r) ⟨[(0,.int .i64 a0),(3,.own 1000004000)],[(1000004000,some ⟨List.map u8D u,some 1,0,.no⟩)],[]⟩:=by
 unfold Bq at h
 refine Bn rfl rfl (Z ?_)
 refine AO h (fun h=>Z ?_) (fun h=>Z ?_)
 ·replace h:=AJ h; obtain⟨w,y,h⟩:=h
  have hq_:=AH y
  obtain⟨hv13002a,hv13002b⟩:=hq_
  refine AP .no (Z ?_)
  refine AK (by refine⟨?_,?_⟩ <;> (try simp only [List.length_map,List.length_append,List.length_cons,List.length_nil] at*) <;> (try unfold maxLen) <;> omega) (Z ?_)
  refine AN (w.map u8D) (by rw [← hv13002b]; simp only [List.map_append,List.map_cons,List.map_nil,List.nil_append,List.append_nil,go_sem,slD]) (Z ?_)
  exact AI (k1 HM) h
 ·exact AI (k1 HM) h
theorem Lw (n:Nat):(∀a0 u w r,CH n a0 u w=some r→BE Tryz.prog Tryz.f80 [1,1,1,0,0] (.str r) ⟨[(0,.int .i64 a0),(3,.own 1000002000),(4,.int .i64 w)],[(1000002000,some ⟨List.map u8D u,some 1,0,.no⟩)],[]⟩)∧
    (∀a0 u w y r,DJ n a0 u w y=some r→BE Tryz.prog Tryz.f80 [1,1,1,0,0,0,1,0,1,1] (.str r) ⟨[(0,.int .i64 a0),(3,.own 1000003000),(4,.int .i64 w),(5,.int .i64 y)],[(1000003000,some ⟨List.map u8D u,some 1,0,.no⟩)],[]⟩):=by
 induction n with
 |zero=>exact⟨(fun _ _ _ _ h=>by rw [CH] at h; cases h),(fun _ _ _ _ _ h=>by rw [DJ] at h; cases h)⟩
 | succ n ih=>
  obtain⟨ih0,ih1⟩:=ih
  refine⟨?_,?_⟩
  ·intro a0 u w r h
   rw [CH] at h
   refine Bn rfl rfl (Z ?_)
   refine Bw (Z ?_)
   refine AO h (fun h=>Z ?_) (fun h=>Z ?_)
   ·refine AS ?_
    refine AK (by decide) (Z ?_)
    exact AI (k1 ih1) h
   ·refine AS ?_
    refine AO h (fun h=>Z ?_) (fun h=>Z ?_)
    ·replace h:=AJ h; obtain⟨q,g,h⟩:=h
     have hq_:=AH g
     obtain⟨hv11002a,hv11002b⟩:=hq_
     refine AP .no (Z ?_)
     refine AK (by refine⟨?_,?_⟩ <;> (try simp only [List.length_map,List.length_append,List.length_cons,List.length_nil] at*) <;> (try unfold maxLen) <;> omega) (Z ?_)
     refine AN (q.map u8D) (by rw [← hv11002b]; simp only [List.map_append,List.map_cons,List.map_nil,List.nil_append,List.append_nil,go_sem,slD]) (Z ?_)
     exact AI (k1 Hy) h
    ·exact AI (k1 Hy) h
  ·intro a0 u w y r h
   rw [DJ] at h
   refine Bn rfl rfl (Z ?_)
   replace h:=AJ h; obtain⟨j,k,h⟩:=h
   have hq_:=AH k
   obtain⟨hv8005a,hv8005b⟩:=hq_
   refine AP .no (Z ?_)
   refine AK (by refine⟨?_,?_⟩ <;> (try simp only [List.length_map,List.length_append,List.length_cons,List.length_nil] at*) <;> (try unfold maxLen) <;> omega) (Z ?_)
   refine AN (j.map u8D) (by rw [← hv8005b]; simp only [List.map_append,List.map_cons,List.map_nil,List.nil_append,List.append_nil,go_sem,slD]) (Z ?_)
   refine AS ?_
   refine AK (by decide) (Z ?_)
   exact AI (k1 ih0) h
def Mj (n:Nat):=(Lw n).1
theorem Hs (a0 r) (h:Ey a0=some r):AC Tryz.prog 80 [.int .i64 a0] (.str r):=by
 unfold Ey at h
 refine acF Tryz.func80 mixed (h:=Z ?_)
 refine AS ?_
 refine EX (EF rfl rfl (Mj fuel a0 [] a0 _ h):) (.one ⟨_,.lit 3 2000000000 2000 0 1 .no [] _ _ (by (first|rfl|(simp only [go_sem]; rfl))) (by simp only [go_sem]; rfl) (by (first|rfl|(simp only [go_sem]; rfl))) (by (first|rfl|(simp only [go_sem]; rfl))) (by decide) (by decide) (by simp only [go_sem]) (.done _),[(1000002000,2000000000)],[],?_⟩)
 simp only [go_sem]
 all_goals try rfl
end Go.Proofs.YtoncbhomocgmcaaGreatDoor.Ab
