/-
 The functions do what their models say. Printed by wip/ab/gen.py.
-/
import Derived.Test.YteckcjgpnegkjaaGreatDoorModQ
import Derived.Test.YteckcjgpnegkjaaGreatDoorTi2
import Derived.Test.YteckcjgpnegkjaaGreatDoorFmtW
import Derived.Test.YteckcjgpnegkjaaGreatDoorWlk
namespace Go.Proofs.YteckcjgpnegkjaaGreatDoor.Ab
set_option linter.defProp false
set_option linter.unusedVariables false
set_option linter.unusedSimpArgs false
set_option maxRecDepth 20000
set_option maxHeartbeats 4000000
open Go.RowKit
theorem WE (n:Nat):(∀a0 u w r,IX n a0 u w=some r→Aq Tryz.prog Tryz.f46 [1,1,0,1,0] (.int .i64 r) ⟨[(3,.int .i64 u),(6,.ro (a0.map AS)),(7,.int .i64 (a0.length:Int)),(8,.int .i64 w)],[],[]⟩):=by
 induction n with
 |zero=>exact((fun _ _ _ _ h=>by rw [IX] at h; cases h))
 | succ n ih=>
  have ih0:=ih
  ·intro a0 u w r h
   rw [IX] at h
   refine AO rfl rfl (Z ?_)
   refine AZ (Z ?_)
   refine AD h (fun h=>Z ?_) (fun h=>Z ?_)
   ·refine AF ?_
    replace h:=AB h; obtain⟨y,q,h⟩:=h
    refine AM q rfl (Z ?_)
    refine AF ?_
    exact lpF (ih0 a0 (IntKind.i64.wrap (u+y)) (IntKind.i64.wrap (w+1)) _ h) [] []
   ·refine AF ?_
    cases h
    simp only [go_sem]
theorem V7 (a0 r) (h:LR a0=some r):AC Tryz.prog 46 [.ro (a0.map AS)] (.int .i64 r):=by
 unfold LR at h
 refine acF Tryz.func46 mixed (h:=Z ?_)
 exact loF (WE fuel a0 0 0 _ h) [] []
theorem Tw (a0 r) (h:D7 a0=some r):AC Tryz.prog 48 [.int .i64 a0] (.str r):=by
 unfold D7 at h
 refine acF Tryz.func48 mixed (h:=Z ?_)
 replace h:=AB h; obtain⟨u,w,h⟩:=h
 refine AI (Q7 _ _ _ w) (Z ?_)
 refine AF ?_
 cases h
 simp only [go_sem]
theorem JG (a0:Int) (u:Bool) (r:ByteArray) (h:GR a0 u=some r):Aq Tryz.prog Tryz.f49 [1,1,0,1] (.str r) ⟨[(0,.int .i64 a0),(3,.box 1000000500 0),(10,.bool u)],[],[(1000000500,some [.str (ByteArray.mk #[98,101,116,97]),.str (ByteArray.mk #[97,110,110,105,104,105,108,97,116,101]),.str (ByteArray.mk #[100,117,112,108,105,99,97,116,101]),.str (ByteArray.mk #[101,114,97,115,101]),.str (ByteArray.mk #[111,112,101,114,97,116,101]),.str (ByteArray.mk #[99,104,111,111,115,101]),.str (ByteArray.mk #[101,120,112,97,110,100]),.str (ByteArray.mk #[99,108,97,115,104])])]⟩:=by
 unfold GR at h
 refine AO rfl rfl (Z ?_)
 refine AD h (fun h=>Z ?_) (fun h=>Z ?_)
 ·cases h
  simp only [go_sem]
 ·refine AF ?_
  replace h:=AB h; obtain⟨w,y,h⟩:=h
  refine Al (by have hb_:=iq y; simpa using hb_) (Z ?_)
  refine Ac (by simp only [Nat.zero_add,Nat.mul_one]; exact fD (ns:=[(ByteArray.mk #[98,101,116,97]),(ByteArray.mk #[97,110,110,105,104,105,108,97,116,101]),(ByteArray.mk #[100,117,112,108,105,99,97,116,101]),(ByteArray.mk #[101,114,97,115,101]),(ByteArray.mk #[111,112,101,114,97,116,101]),(ByteArray.mk #[99,104,111,111,115,101]),(ByteArray.mk #[101,120,112,97,110,100]),(ByteArray.mk #[99,108,97,115,104])]) rfl y) (Z ?_)
  cases h
  simp only [go_sem]
theorem RM (a0 r) (h:DD a0=some r):AC Tryz.prog 49 [.int .i64 a0] (.str r):=by
 unfold DD at h
 refine acF Tryz.func49 mixed (h:=Z ?_)
 refine AF ?_
 refine AD h (fun h=>Z ?_) (fun h=>Z ?_)
 ·exact AY (JG a0 true _ h) [] [(1000000500,2001)]
 ·exact AY (JG a0 (decide (8<a0)) _ h) [] [(1000000500,2001)]
theorem O8 (n:Nat):(∀u w y r,Dt n u w y=some r→Aq Tryz.prog Tryz.f41 [1,1,1,1,1,1,1,0,1,0] (.str r) ⟨[(3,.own 1000007000),(6,.own 1000007001),(7,.int .i64 y)],[(1000007000,some ⟨List.map u8D u,some 1,0,false⟩),(1000007001,some ⟨List.map u8D w,some 1,0,false⟩)],[]⟩):=by
 induction n with
 |zero=>exact((fun _ _ _ _ h=>by rw [Dt] at h; cases h))
 | succ n ih=>
  have ih0:=ih
  ·intro u w y r h
   rw [Dt] at h
   refine AO rfl rfl (Z ?_)
   refine AZ (Z ?_)
   refine AD h (fun h=>Z ?_) (fun h=>Z ?_)
   ·refine AF ?_
    replace h:=AB h; obtain⟨q,g,h⟩:=h
    refine AM g rfl (Z ?_)
    refine Ac (AX g) (Z ?_)
    replace h:=AB h; obtain⟨j,k,h⟩:=h
    have hq_:=Av k
    obtain⟨hv18006a,hv18006b⟩:=hq_
    refine Cz false (Z ?_)
    refine Al (by refine⟨?_,?_⟩ <;> (try simp only [List.length_map,List.length_append,List.length_cons,List.length_nil] at*) <;> (try unfold maxLen) <;> omega) (Z ?_)
    refine A6 (j.map u8D) (by rw [← hv18006b]; simp only [List.map_append,List.map_cons,List.map_nil,List.nil_append,List.append_nil,go_sem,slD]) (Z ?_)
    refine AF ?_
    exact lpF (ih0 u j (IntKind.i64.wrap (y - 1)) _ h) [(1000007000,1000007000),(1000007001,288096)] []
   ·refine AF ?_
    replace h:=AB h; obtain⟨b,d,h⟩:=h
    have hq_:=ZV d
    obtain⟨hv19001a,hv19001b⟩:=hq_
    refine lR (ns:=w) hv19001a ?_
    rw [hv19001b]
    try simp only [go_sem]
    cases h
    simp only [go_sem]
theorem J3 (u:List Int) (r:ByteArray) (h:Er u=some r):Aq Tryz.prog Tryz.f41 [1,1,1,1,1,1] (.str r) ⟨[(3,.own 1000005000)],[(1000005000,some ⟨List.map u8D u,some 1,0,false⟩)],[]⟩:=by
 unfold Er at h
 refine AO rfl rfl (Z ?_)
 refine AF ?_
 refine CF (DU rfl rfl (O8 fuel u [] (IntKind.i64.wrap ((u.length:Int) - 1)) _ h):) (.one ⟨_,.lit 6 2000000000 14000 0 1 false [] _ _ (by (first|rfl|(simp only [go_sem]; rfl))) (by simp only [go_sem]; rfl) (by (first|rfl|(simp only [go_sem]; rfl))) (by (first|rfl|(simp only [go_sem]; rfl))) (by decide) (by decide) (by simp only [go_sem]) (.done _),[(1000007000,1000005000),(1000007001,2000000000)],[],?_⟩)
 simp only [go_sem]
 all_goals try rfl
theorem Kk (a0:Int) (u:List Int) (r:ByteArray) (h:Cg a0 u=some r):Aq Tryz.prog Tryz.f41 [1,1,1,1,1] (.str r) ⟨[(0,.int .i64 a0),(3,.own 1000004000)],[(1000004000,some ⟨List.map u8D u,some 1,0,false⟩)],[]⟩:=by
 unfold Cg at h
 refine AO rfl rfl (Z ?_)
 refine AD h (fun h=>Z ?_) (fun h=>Z ?_)
 ·replace h:=AB h; obtain⟨w,y,h⟩:=h
  have hq_:=Av y
  obtain⟨hv13002a,hv13002b⟩:=hq_
  refine Cz false (Z ?_)
  refine Al (by refine⟨?_,?_⟩ <;> (try simp only [List.length_map,List.length_append,List.length_cons,List.length_nil] at*) <;> (try unfold maxLen) <;> omega) (Z ?_)
  refine A6 (w.map u8D) (by rw [← hv13002b]; simp only [List.map_append,List.map_cons,List.map_nil,List.nil_append,List.append_nil,go_sem,slD]) (Z ?_)
  exact AY (J3 w _ h) [(1000005000,208032)] []
 ·exact AY (J3 u _ h) [(1000005000,1000004000)] []
theorem O9 (n:Nat):(∀a0 u w r,C5 n a0 u w=some r→Aq Tryz.prog Tryz.f41 [1,1,1,0,0] (.str r) ⟨[(0,.int .i64 a0),(3,.own 1000002000),(4,.int .i64 w)],[(1000002000,some ⟨List.map u8D u,some 1,0,false⟩)],[]⟩)∧
    (∀a0 u w y r,ES n a0 u w y=some r→Aq Tryz.prog Tryz.f41 [1,1,1,0,0,0,1,0,1,1] (.str r) ⟨[(0,.int .i64 a0),(3,.own 1000003000),(4,.int .i64 w),(5,.int .i64 y)],[(1000003000,some ⟨List.map u8D u,some 1,0,false⟩)],[]⟩):=by
 induction n with
 |zero=>exact⟨(fun _ _ _ _ h=>by rw [C5] at h; cases h),(fun _ _ _ _ _ h=>by rw [ES] at h; cases h)⟩
 | succ n ih=>
  obtain⟨ih0,ih1⟩:=ih
  refine⟨?_,?_⟩
  ·intro a0 u w r h
   rw [C5] at h
   refine AO rfl rfl (Z ?_)
   refine AZ (Z ?_)
   refine AD h (fun h=>Z ?_) (fun h=>Z ?_)
   ·refine AF ?_
    refine Al (by decide) (Z ?_)
    refine AD h (fun h=>Z ?_) (fun h=>Z ?_)
    ·exact AY (ih1 a0 u w (IntKind.i64.wrap (0 - (Int.tmod w 10))) _ h) [(1000003000,1000002000)] []
    ·exact AY (ih1 a0 u w (Int.tmod w 10) _ h) [(1000003000,1000002000)] []
   ·refine AF ?_
    refine AD h (fun h=>Z ?_) (fun h=>Z ?_)
    ·replace h:=AB h; obtain⟨q,g,h⟩:=h
     have hq_:=Av g
     obtain⟨hv11002a,hv11002b⟩:=hq_
     refine Cz false (Z ?_)
     refine Al (by refine⟨?_,?_⟩ <;> (try simp only [List.length_map,List.length_append,List.length_cons,List.length_nil] at*) <;> (try unfold maxLen) <;> omega) (Z ?_)
     refine A6 (q.map u8D) (by rw [← hv11002b]; simp only [List.map_append,List.map_cons,List.map_nil,List.nil_append,List.append_nil,go_sem,slD]) (Z ?_)
     exact AY (Kk a0 q _ h) [(1000004000,176032)] []
    ·exact AY (Kk a0 u _ h) [(1000004000,1000002000)] []
  ·intro a0 u w y r h
   rw [ES] at h
   refine AO rfl rfl (Z ?_)
   replace h:=AB h; obtain⟨j,k,h⟩:=h
   have hq_:=Av k
   obtain⟨hv8005a,hv8005b⟩:=hq_
   refine Cz false (Z ?_)
   refine Al (by refine⟨?_,?_⟩ <;> (try simp only [List.length_map,List.length_append,List.length_cons,List.length_nil] at*) <;> (try unfold maxLen) <;> omega) (Z ?_)
   refine A6 (j.map u8D) (by rw [← hv8005b]; simp only [List.map_append,List.map_cons,List.map_nil,List.nil_append,List.append_nil,go_sem,slD]) (Z ?_)
   refine AF ?_
   refine Al (by decide) (Z ?_)
   exact lpF (ih0 a0 j (IntKind.i64.wrap (Int.tdiv w 10)) _ h) [(1000002000,128080)] []
def Pw (n:Nat):=(O9 n).1
theorem Ht (a0 r) (h:F8 a0=some r):AC Tryz.prog 41 [.int .i64 a0] (.str r):=by
 unfold F8 at h
 refine acF Tryz.func41 mixed (h:=Z ?_)
 refine AF ?_
 refine CF (DU rfl rfl (Pw fuel a0 [] a0 _ h):) (.one ⟨_,.lit 3 2000000000 2000 0 1 false [] _ _ (by (first|rfl|(simp only [go_sem]; rfl))) (by simp only [go_sem]; rfl) (by (first|rfl|(simp only [go_sem]; rfl))) (by (first|rfl|(simp only [go_sem]; rfl))) (by decide) (by decide) (by simp only [go_sem]) (.done _),[(1000002000,2000000000)],[],?_⟩)
 simp only [go_sem]
 all_goals try rfl
end Go.Proofs.YteckcjgpnegkjaaGreatDoor.Ab
