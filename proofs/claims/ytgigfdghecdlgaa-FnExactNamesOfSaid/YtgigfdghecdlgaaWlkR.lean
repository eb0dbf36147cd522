/-
 The functions do what their models say. Printed by wip/ab/gen.py.
-/
import Derived.Test.YtgigfdghecdlgaaModR
import Derived.Test.YtgigfdghecdlgaaTi2
import Derived.Test.YtgigfdghecdlgaaWlkT
namespace Go.Proofs.Ytgigfdghecdlgaa.Ab
set_option linter.unusedVariables false
set_option linter.unusedSimpArgs false
set_option maxRecDepth 20000
set_option maxHeartbeats 4000000
open Go.RowKit
theorem Dt (u:Bool) (r:Int) (h:CP u=some r):BY Try.prog Try.f52 [1,1,1,0,1,0,1,1,1,0,1,0,1,1,1] (.int .i64 r) ⟨[(38,.bool u)],[],[]⟩:=by
 unfold CP at h
 refine AR rfl rfl (Z ?_)
 refine AD h (fun h=>Z ?_) (fun h=>Z ?_)
 ·cases h
  simp only [go_sem]
 ·refine AF ?_
  cases h
  simp only [go_sem]
theorem FP (u:Core) (w:Core) (y:Bool) (r:Int) (h:Cy u w y=some r):BY Try.prog Try.f52 [1,1,1,0,1,0,1,1,1,0,1,0,1] (.int .i64 r) ⟨[(3,.box 1000000500 0),(4,.box 1000000501 0),(29,.bool y)],[],[(1000000500,some [.int .i64 u.kind,.int .i64 u.value,.ro (List.map AM u.data),.ro (List.map Core.ds u.kids)]),(1000000501,some [.int .i64 w.kind,.int .i64 w.value,.ro (List.map AM w.data),.ro (List.map Core.ds w.kids)])]⟩:=by
 unfold Cy at h
 refine AR rfl rfl (Z ?_)
 refine AD h (fun h=>Z ?_) (fun h=>Z ?_)
 ·cases h
  simp only [go_sem]
 ·refine AD h (fun h=>Z ?_) (fun h=>Z ?_)
  ·exact A4 (Dt true _ h) [] []
  ·refine AD h (fun h=>Z ?_) (fun h=>Z ?_)
   ·exact A4 (Dt (decide (w.kind=11)) _ h) [] []
   ·exact A4 (Dt false _ h) [] []
theorem Du (u:Bool) (r:Int) (h:Bx u=some r):BY Try.prog Try.f52 [1,1,1,0,1,0,1,1,1,1,1,0,0,1,1,1] (.int .i64 r) ⟨[(59,.bool u)],[],[]⟩:=by
 unfold Bx at h
 refine AR rfl rfl (Z ?_)
 refine AD h (fun h=>Z ?_) (fun h=>Z ?_)
 ·cases h
  simp only [go_sem]
 ·refine AF ?_
  cases h
  simp only [go_sem]
theorem Dv (a0:Core) (u:Core) (w:Bool) (r:Int) (h:By a0 u w=some r):BY Try.prog Try.f52 [1,1,1,0,1,0,1,1,1,1,1,0,0,1,1,0,1] (.int .i64 r) ⟨[(1,.box 1000003500 0),(3,.box 1000003501 0),(59,.bool w)],[],[(1000003500,some [.int .i64 a0.kind,.int .i64 a0.value,.ro (List.map AM a0.data),.ro (List.map Core.ds a0.kids)]),(1000003501,some [.int .i64 u.kind,.int .i64 u.value,.ro (List.map AM u.data),.ro (List.map Core.ds u.kids)])]⟩:=by
 unfold By at h
 refine AR rfl rfl (Z ?_)
 refine AD h (fun h=>Z ?_) (fun h=>Z ?_)
 ·exact A4 (Du w _ h) [] []
 ·refine AD h (fun h=>Z ?_) (fun h=>Z ?_)
  ·exact A4 (Du (decide (u.kind=2)) _ h) [] []
  ·exact A4 (Du false _ h) [] []
theorem FQ (a0:Core) (u:Core) (w:Bool) (r:Int) (h:CQ a0 u w=some r):BY Try.prog Try.f52 [1,1,1,0,1,0,1,1,1,1,1] (.int .i64 r) ⟨[(1,.box 1000002500 0),(3,.box 1000002501 0),(52,.bool w)],[],[(1000002500,some [.int .i64 a0.kind,.int .i64 a0.value,.ro (List.map AM a0.data),.ro (List.map Core.ds a0.kids)]),(1000002501,some [.int .i64 u.kind,.int .i64 u.value,.ro (List.map AM u.data),.ro (List.map Core.ds u.kids)])]⟩:=by
 unfold CQ at h
 refine AR rfl rfl (Z ?_)
 refine AD h (fun h=>Z ?_) (fun h=>Z ?_)
 ·refine AD h (fun h=>Z ?_) (fun h=>Z ?_)
  ·cases h
   simp only [go_sem]
  ·refine AD h (fun h=>Z ?_) (fun h=>Z ?_)
   ·refine AD h (fun h=>Z ?_) (fun h=>Z ?_)
    ·exact A4 (Dv a0 u (decide (u.value<((List.length a0.data:Nat):Int))) _ h) [] [(1000003500,1000002500),(1000003501,1000002501)]
    ·exact A4 (Dv a0 u false _ h) [] [(1000003500,1000002500),(1000003501,1000002501)]
   ·exact A4 (Dv a0 u false _ h) [] [(1000003500,1000002500),(1000003501,1000002501)]
 ·refine AF ?_
  cases h
  simp only [go_sem]
theorem Gx (a0 r) (h:DY a0=some r):AC Try.prog 52 [.agg (Core.avs a0)] (.int .i64 r):=by
 unfold DY at h
 refine acF Try.func52 mixed (h:=Z ?_)
 refine AD h (fun h=>Z ?_) (fun h=>Z ?_)
 ·cases h
  simp only [go_sem]
 ·refine AF ?_
  replace h:=AH h; obtain⟨u,w,h⟩:=h
  refine AY w (Core.ds_len _) (Z ?_)
  refine AF ?_
  refine AD h (fun h=>Z ?_) (fun h=>Z ?_)
  ·refine AD h (fun h=>Z ?_) (fun h=>Z ?_)
   ·cases h
    simp only [go_sem]
   ·refine AD h (fun h=>Z ?_) (fun h=>Z ?_)
    ·cases h
     simp only [go_sem]
    ·refine AF ?_
     cases h
     simp only [go_sem]
  ·refine AD h (fun h=>Z ?_) (fun h=>Z ?_)
   ·replace h:=AH h; obtain⟨y,q,h⟩:=h
    refine AY q (Core.ds_len _) (Z ?_)
    refine AF ?_
    refine AD h (fun h=>Z ?_) (fun h=>Z ?_)
    ·exact A4 (FP u y (decide (y.kind=2)) _ h) [] [(1000000500,4004),(1000000501,13004)]
    ·exact A4 (FP u y false _ h) [] [(1000000500,4004),(1000000501,13004)]
   ·refine AD h (fun h=>Z ?_) (fun h=>Z ?_)
    ·exact A4 (FQ a0 u (decide (a0.kind=9)) _ h) [] [(1000002500,1000),(1000002501,4004)]
    ·exact A4 (FQ a0 u (decide (a0.kind=10)) _ h) [] [(1000002500,1000),(1000002501,4004)]
theorem Fq (n:Nat):(∀a0 a1 r,Ao n a0 a1=some r→AG Try.prog 27 [.rop [.int .i64 a0.core.kind,.int .i64 a0.core.value,.ro (List.map AM a0.core.data),.ro (List.map Core.ds a0.core.kids),.str a0.label,.int .i64 a0.att,.ro (List.map (pD LabelNode.ds) a0.kids)] 0,.own 1001] [(1001,⟨List.map (pD LabelNode.ds) a1,some 1,0,true⟩)] [] (.own 1501) [(1501,⟨List.map (pD LabelNode.ds) r,some 1,0,true⟩)] [])∧
    (∀a0 u r,Ai n a0 u=some r→F6 Try.prog Try.f27 [1,1] (.own 1501) [(1501,⟨List.map (pD LabelNode.ds) r,some 1,0,true⟩)] [] ⟨[(0,.rop [.int .i64 a0.core.kind,.int .i64 a0.core.value,.ro (List.map AM a0.core.data),.ro (List.map Core.ds a0.core.kids),.str a0.label,.int .i64 a0.att,.ro (List.map (pD LabelNode.ds) a0.kids)] 0),(1,.own 1000000000)],[(1000000000,some ⟨List.map (pD LabelNode.ds) u,some 1,0,true⟩)],[]⟩)∧
    (∀a0 w y r,Ac n a0 w y=some r→F6 Try.prog Try.f27 [1,1,0,1,0] (.own 1501) [(1501,⟨List.map (pD LabelNode.ds) r,some 1,0,true⟩)] [] ⟨[(1,.own 1000002000),(20,.ro (List.map (pD LabelNode.ds) a0.kids)),(21,.int .i64 ((List.length a0.kids:Nat):Int)),(22,.int .i64 y)],[(1000002000,some ⟨List.map (pD LabelNode.ds) w,some 1,0,true⟩)],[]⟩):=by
 induction n with
 |zero=>exact⟨(fun _ _ _ h=>by rw [Ao] at h; cases h),(fun _ _ _ h=>by rw [Ai] at h; cases h),(fun _ _ _ _ h=>by rw [Ac] at h; cases h)⟩
 | succ n ih=>
  obtain⟨ih0,ih1,ih2⟩:=ih
  refine⟨?_,?_,?_⟩
  ·intro a0 a1 r h
   rw [Ao] at h
   refine agF Try.func27 mixed (h:=Z ?_)
   replace h:=AH h; obtain⟨q,g,h⟩:=h
   refine AK (Gx _ _ g) (Z ?_)
   refine AF ?_
   refine AD h (fun h=>Z ?_) (fun h=>Z ?_)
   ·replace h:=AH h; obtain⟨j,k,h⟩:=h
    have hq_:=AO k
    obtain⟨hv3003a,hv3003b⟩:=hq_
    refine BE true (Z ?_)
    refine Ak (by refine⟨?_,?_⟩ <;> (try simp only [List.length_map,List.length_append,List.length_cons,List.length_nil] at*) <;> (try unfold maxLen) <;> omega) (Z ?_)
    refine Ag (List.map (pD LabelNode.ds) j) (by rw [← hv3003b]; simp only [List.map_append,List.map_cons,List.map_nil,List.nil_append,List.append_nil,go_sem,pD,LabelNode.ds_eq]) (Z ?_)
    exact Ug (ih1 a0 j _ h) [(1000000000,48048)] []
   ·exact Ug (ih1 a0 a1 _ h) [(1000000000,1001)] []
  ·intro a0 u r h
   rw [Ai] at h
   refine DH rfl rfl (Z ?_)
   exact loG (ih2 a0 u 0 _ h) [(1000002000,1000000000)] []
  ·intro a0 w y r h
   rw [Ac] at h
   refine DH rfl rfl (Z ?_)
   refine A1 (Z ?_)
   refine AD h (fun h=>Z ?_) (fun h=>Z ?_)
   ·refine AF ?_
    replace h:=AH h; obtain⟨b,d,h⟩:=h
    refine AY d rfl (Z ?_)
    replace h:=AH h; obtain⟨c,e,h⟩:=h
    refine caG ⟨[],[(1001,1000002000)],[],[(1501,112032)],[],true⟩ (ih0 _ _ _ e) (Z ?_)
    refine AF ?_
    exact lpG (ih2 a0 c (IntKind.i64.wrap (y+1)) _ h) [(1000002000,112032)] []
   ·refine AF ?_
    cases h
    refine EG (.done _) [(1501,1000002000)] [] ?_
    simp only [go_sem]
theorem GC (n:Nat):(∀a0 a1 r,Ao n a0 a1=some r→AG Try.prog 27 [.rop [.int .i64 a0.core.kind,.int .i64 a0.core.value,.ro (List.map AM a0.core.data),.ro (List.map Core.ds a0.core.kids),.str a0.label,.int .i64 a0.att,.ro (List.map (pD LabelNode.ds) a0.kids)] 0,.own 1001] [(1001,⟨List.map (pD LabelNode.ds) a1,some 1,0,true⟩)] [] (.own 1501) [(1501,⟨List.map (pD LabelNode.ds) r,some 1,0,true⟩)] []):=(Fq n).1
theorem BA (a0:LabelNode) (u:LabelNode) (w:Bool) (r:ByteArray) (h:AX a0 u w=some r):BY Try.prog Try.f28 [1,1,1,0,1] (.str r) ⟨[(0,.rop [.int .i64 a0.core.kind,.int .i64 a0.core.value,.ro (List.map AM a0.core.data),.ro (List.map Core.ds a0.core.kids),.str a0.label,.int .i64 a0.att,.ro (List.map (pD LabelNode.ds) a0.kids)] 0),(3,.str u.label),(45,.bool w)],[],[]⟩:=by
 unfold AX at h
 refine AR rfl rfl (Z ?_)
 refine AD h (fun h=>Z ?_) (fun h=>Z ?_)
 ·replace h:=AH h; obtain⟨y,q,h⟩:=h
  refine AY q rfl (Z ?_)
  replace h:=AH h; obtain⟨g,j,h⟩:=h
  have hq_:=Ec j
  obtain⟨hv5010a,hv5010b⟩:=hq_
  refine Ak hv5010a ?_
  rw [hv5010b]
  try simp only [go_sem]
  replace h:=AH h; obtain⟨k,b,h⟩:=h
  have hq_:=Ec b
  obtain⟨hv5011a,hv5011b⟩:=hq_
  refine Ak hv5011a ?_
  rw [hv5011b]
  try simp only [go_sem]
  refine AF ?_
  cases h
  simp only [go_sem]
 ·refine AF ?_
  cases h
  simp only [go_sem]
theorem FX (a0 r) (h:Az a0=some r):AC Try.prog 28 [.rop (LabelNode.avs a0) 0] (.str r):=by
 unfold Az at h
 refine acF Try.func28 mixed (h:=Z ?_)
 replace h:=AH h; obtain⟨u,w,h⟩:=h
 refine AY w rfl (Z ?_)
 replace h:=AH h; obtain⟨y,q,h⟩:=h
 refine AK (Gx _ _ q) (Z ?_)
 refine AF ?_
 refine AD h (fun h=>Z ?_) (fun h=>Z ?_)
 ·exact A4 (BA a0 u true _ h) [] []
 ·refine AD h (fun h=>Z ?_) (fun h=>Z ?_)
  ·refine AD h (fun h=>Z ?_) (fun h=>Z ?_)
   ·replace h:=AH h; obtain⟨g,j,h⟩:=h
    refine AY j rfl (Z ?_)
    exact A4 (BA a0 u (decide (g.core.kind=2)) _ h) [] []
   ·exact A4 (BA a0 u false _ h) [] []
  ·exact A4 (BA a0 u false _ h) [] []
end Go.Proofs.Ytgigfdghecdlgaa.Ab
