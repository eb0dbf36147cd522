/- The functions do what their models say. -/
import Derived.Test.YthenkmapmnkelaaGreatDoorModI
import Derived.Test.YthenkmapmnkelaaGreatDoorTi2
import Derived.Test.YthenkmapmnkelaaGreatDoorSameW
import Derived.Test.YthenkmapmnkelaaGreatDoorWlkS
namespace Go.Proofs.YthenkmapmnkelaaGreatDoor.Ab
set_option linter.defProp false
set_option linter.unusedVariables false
set_option linter.unusedSimpArgs false
set_option maxRecDepth 20000
set_option maxHeartbeats 4000000
open Go.RowKit _root_.Go.Proofs.Tryz
@[go_sem] def tkI2 (b:Nat) (x0:List Int) (x1:List Core) (x2:List Int):List (Nat×Tok):=[(b,⟨List.map AD x0,some 1,0,.no⟩),(b+1,⟨List.map Core.ds x1,some 4,0,.no⟩),(b+2,⟨List.map AD x2,some 1,0,.no⟩)]
theorem L8 (a0:Reading) (a1:Port) (u:Bool) (r:Int × Reading) (h:CL a0 a1 u=some r):BK prog f134 [1,1,1,0,1,1] (.int .i64 r.1) [(1501,⟨List.map AD r.2.origins,some 1,0,.no⟩),(1502,⟨List.map AD r.2.times,some 1,0,.no⟩),(1503,⟨List.map Be r.2.labels,some 1,0,.no⟩)] [(1,[.ro (a0.net.agents.map Agent.ds),.int .i64 r.2.entered,.int .i64 r.2.nodes,.own 1501,.own 1502,.own 1503])] ⟨[(0,.box 1 0),(3,.box 1000000500 0),(40,.bool u)],[(1000000000,some ⟨List.map AD a0.origins,some 1,0,.no⟩),(1000000001,some ⟨List.map AD a0.times,some 1,0,.no⟩),(1000000002,some ⟨List.map Be a0.labels,some 1,0,.no⟩)],[(1,some [.ro (a0.net.agents.map Agent.ds),.int .i64 (IntKind.i64.wrap (a0.entered+1)),.int .i64 a0.nodes,.own 1000000000,.own 1000000001,.own 1000000002]),(1000000500,some [.int .i64 a1.agent,.int .i64 a1.slot])]⟩:=by
 unfold CL at h
 refine AM rfl rfl (Z ?_)
 refine AI h (fun h=>Z ?_) (fun h=>Z ?_)
 ·refine AW [false,false,false,false,false,false,false,false,false,false,true] (Tr.sq [10] .fin) (by kernel_rfl) (Z ?_)
  replace h:=AB h; obtain⟨w,y,h⟩:=h
  refine AS y rfl (Z ?_)
  refine AX (AP y) (Z ?_)
  replace h:=AB h; obtain⟨q,g,h⟩:=h
  refine AS g rfl (Z ?_)
  replace h:=AB h; obtain⟨j,k,h⟩:=h
  refine AX (AP g) (Z ?_)
  refine Ar (j.map AD) (by rw [← Ah k]; simp only [List.map_set,go_sem,slD]) (Z ?_)
  exact AF trivial h
 ·exact AF trivial h
theorem Oo (a0 a1 r) (h:EJ a0 a1=some r):AG prog 134 [.box 1 0,.agg [.int .i64 a1.agent,.int .i64 a1.slot]] [(1001,⟨List.map AD a0.origins,some 1,0,.no⟩),(1002,⟨List.map AD a0.times,some 1,0,.no⟩),(1003,⟨List.map Be a0.labels,some 1,0,.no⟩)] [(1,[.ro (a0.net.agents.map Agent.ds),.int .i64 a0.entered,.int .i64 a0.nodes,.own 1001,.own 1002,.own 1003])] (.int .i64 r.1) [(1501,⟨List.map AD r.2.origins,some 1,0,.no⟩),(1502,⟨List.map AD r.2.times,some 1,0,.no⟩),(1503,⟨List.map Be r.2.labels,some 1,0,.no⟩)] [(1,[.ro (a0.net.agents.map Agent.ds),.int .i64 r.2.entered,.int .i64 r.2.nodes,.own 1501,.own 1502,.own 1503])] :=by
 unfold EJ at h
 refine agF func134 mixed (h:=Z ?_)
 refine AI h (fun h=>Z ?_) (fun h=>Z ?_)
 ·exact AF trivial h
 ·refine AK ?_
  refine AW [false,false,false,false,false,false,false,false,false,false,true] (Tr.sq [10] .fin) (by kernel_rfl) (Z ?_)
  exact AF (k1 L8) h
theorem Uf (a0 r) (h:IJ a0=some r):AC prog 135 [.agg (Port.avs a0)] (.str r):=by
 unfold IJ at h
 refine acF func135 mixed (h:=Z ?_)
 refine AW [] .fin (by kernel_rfl) (Z ?_)
 replace h:=AB h; obtain⟨u,w,h⟩:=h
 refine AL (Ls _ _ w) (Z ?_)
 replace h:=AB h; obtain⟨y,q,h⟩:=h
 have J:=Fe q
 obtain⟨G,C⟩:=J
 refine BH G ?_
 rw [C]
 try simp only [go_sem]
 replace h:=AB h; obtain⟨g,j,h⟩:=h
 refine AL (Ls _ _ j) (Z ?_)
 replace h:=AB h; obtain⟨k,b,h⟩:=h
 have J:=Fe b
 obtain⟨I,F⟩:=J
 refine BH I ?_
 rw [F]
 try simp only [go_sem]
 replace h:=AB h; obtain⟨d,c,h⟩:=h
 have J:=Fe c
 obtain⟨p,v⟩:=J
 refine BH p ?_
 rw [v]
 try simp only [go_sem]
 exact AF trivial h
theorem RG (a0 a1 a2 r) (h:C2 a0 a1 a2=some r):AG prog 136 [.box 1 0,.agg [.int .i64 a1.agent,.int .i64 a1.slot],.box 2 0] [(1001,⟨List.map AD a0.origins,some 1,0,.no⟩),(1002,⟨List.map AD a0.times,some 1,0,.no⟩),(1003,⟨List.map Be a0.labels,some 1,0,.no⟩)] [(1,[.ro (a0.net.agents.map Agent.ds),.int .i64 a0.entered,.int .i64 a0.nodes,.own 1001,.own 1002,.own 1003]),(2,[(nop Stack.avs a2.e0),(nop Stack.avs a2.e1),(nop Stack.avs a2.e2),(nop Stack.avs a2.e3),(nop Stack.avs a2.e4),(nop Stack.avs a2.e5),(nop Stack.avs a2.e6),(nop Stack.avs a2.e7),(nop Stack.avs a2.e8)])] (.tup [.agg [.int .i64 r.1.agent,.int .i64 r.1.slot],.bool r.2.1]) [(1501,⟨List.map AD a0.origins,some 1,0,.no⟩),(1502,⟨List.map AD a0.times,some 1,0,.no⟩),(1503,⟨List.map Be a0.labels,some 1,0,.no⟩)] [(2,[(nop Stack.avs r.2.2.e0),(nop Stack.avs r.2.2.e1),(nop Stack.avs r.2.2.e2),(nop Stack.avs r.2.2.e3),(nop Stack.avs r.2.2.e4),(nop Stack.avs r.2.2.e5),(nop Stack.avs r.2.2.e6),(nop Stack.avs r.2.2.e7),(nop Stack.avs r.2.2.e8)]),(1,[.ro (a0.net.agents.map Agent.ds),.int .i64 a0.entered,.int .i64 a0.nodes,.own 1501,.own 1502,.own 1503])] :=by
 unfold C2 at h
 refine agF func136 mixed (h:=Z ?_)
 refine AK ?_
 refine AW [] .fin (by kernel_rfl) (Z ?_)
 replace h:=AB h; obtain⟨u,w,h⟩:=h
 refine AS w (Agent.ds_len _) (Z ?_)
 refine AK ?_
 refine AI h (fun h=>Z ?_) (fun h=>Z ?_)
 ·refine AW [false,false,false,false,false,false,false,false,false,false,false,false,false,true] (.fz (Tr.sq [13] .fin)) (by kernel_rfl) (Z ?_)
  replace h:=AB h; obtain⟨y,q,h⟩:=h
  refine BH (by have p:=J1 q; simpa using p) (Z ?_)
  refine AX (x:=nop Stack.avs y) (by simp only [Nat.zero_add,Nat.mul_one]; exact cQ (f:=nop Stack.avs) (l:=[a2.e0,a2.e1,a2.e2,a2.e3,a2.e4,a2.e5,a2.e6,a2.e7,a2.e8]) q) (Z ?_)
  replace h:=AB h; obtain⟨g,j,h⟩:=h
  refine BH (by have p:=J1 j; simpa using p) (Z ?_)
  refine gR (.frzB 4010 [(33,[])] [] _ _ _ (by (first|rfl|(simp only [go_sem]; rfl))) (by decide) (by rfl) (by (first|rfl|(simp only [go_sem]; rfl))) (by (first|rfl|(simp only [go_sem]; rfl))) (.done _)) (Z ?_)
  all_goals try rfl
  replace h:=AB h; obtain⟨k,b,h⟩:=h
  replace h:=AB h; obtain⟨d,c,h⟩:=h
  refine BH (by have p:=J1 j; simp only [List.length_cons,List.length_nil] at p ⊢; omega) (Z ?_)
  refine Ar (Stacks.avs d) (by have v:=Stacks.put (s:=a2) (x:=(some (⟨a1.slot,y⟩:Stack))) b c; rw [Stack.nop_some] at v; simp only [Nat.zero_add,Nat.mul_one]; exact v) (Z ?_)
  refine AK ?_
  refine AW [false,false,false,false,false,false,false,true,true] (Tr.sq [7,8] .fin) (by kernel_rfl) (Z ?_)
  exact AF (k1 C5) h
 ·refine AK ?_
  replace h:=AB h; obtain⟨t,o,h⟩:=h
  refine BH (by have p:=J1 o; simpa using p) (Z ?_)
  refine AX (x:=nop Stack.avs t) (by simp only [Nat.zero_add,Nat.mul_one]; exact cQ (f:=nop Stack.avs) (l:=[a2.e0,a2.e1,a2.e2,a2.e3,a2.e4,a2.e5,a2.e6,a2.e7,a2.e8]) o) (Z ?_)
  rcases hqv7001_8n:t with _|v7001_8n
  ·rw [hqv7001_8n] at h
   replace h:=mI h
   try simp only [hqv7001_8n,iH]
   try simp only [go_sem]
   exact AF trivial h
  ·rw [hqv7001_8n] at h
   replace h:=mJ h
   try simp only [hqv7001_8n,cS]
   try simp only [go_sem]
   refine AK ?_
   refine AW [false,false,false,false,false,false,false,false,true] (Tr.sq [8] .fin) (by kernel_rfl) (Z ?_)
   replace h:=AB h; obtain⟨z,C,h⟩:=h
   refine BH (by have p:=J1 C; simpa using p) (Z ?_)
   replace h:=AB h; obtain⟨J,I,h⟩:=h
   replace h:=AB h; obtain⟨F,G,h⟩:=h
   refine BH (by have p:=J1 C; simp only [List.length_cons,List.length_nil] at p ⊢; omega) (Z ?_)
   refine Ar (Stacks.avs F) (by simp only [Nat.zero_add,Nat.mul_one]; exact Stacks.put (s:=a2) (x:=v7001_8n.rest) I G) (Z ?_)
   refine AK ?_
   refine AW [false,false,false,false,false,false,false,false,false,false,false,true,true] (Tr.sq [11,12] .fin) (by kernel_rfl) (Z ?_)
   exact AF (k1 C5) h
theorem QG (a0 r) (h:Hy a0=some r):AG prog 140 [.int .i64 a0] [] [] (.agg [.int .i64 r.kind,.int .i64 r.value,.nils,.nils]) [] [] :=by
 unfold Hy at h
 refine agF func140 mixed (h:=Z ?_)
 exact AF trivial h
theorem KL (n:Nat):(∀j p C u r,BJ n j p C u=some r→Aa prog f169 [1,0,1,0] (.bool r) ⟨[(3,.box 1000001500 0),(4,.box 1000001501 0),(8,.int .i64 C),(9,.int .i64 u)],[],[(1000001500,some [(nop Stack.avs j.e0),(nop Stack.avs j.e1),(nop Stack.avs j.e2),(nop Stack.avs j.e3),(nop Stack.avs j.e4),(nop Stack.avs j.e5),(nop Stack.avs j.e6),(nop Stack.avs j.e7),(nop Stack.avs j.e8)]),(1000001501,some [(nop Stack.avs p.e0),(nop Stack.avs p.e1),(nop Stack.avs p.e2),(nop Stack.avs p.e3),(nop Stack.avs p.e4),(nop Stack.avs p.e5),(nop Stack.avs p.e6),(nop Stack.avs p.e7),(nop Stack.avs p.e8)])]⟩):=by
 induction n with
 |zero=>exact((fun _ _ _ _ _ h=>by rw [BJ] at h; cases h))
 | succ n ih=>
  have F:=ih
  ·intro j p C u r h
   rw [BJ] at h
   refine BL rfl rfl (Z ?_)
   refine Ai (Z ?_)
   refine AI h (fun h=>Z ?_) (fun h=>Z ?_)
   ·refine AK ?_
    refine AW [] .fin (by kernel_rfl) (Z ?_)
    replace h:=AB h; obtain⟨w,y,h⟩:=h
    refine BH (by have v:=J1 y; simpa using v) (Z ?_)
    refine AX (x:=nop Stack.avs w) (by simp only [Nat.zero_add,Nat.mul_one]; exact cQ (f:=nop Stack.avs) (l:=[j.e0,j.e1,j.e2,j.e3,j.e4,j.e5,j.e6,j.e7,j.e8]) y) (Z ?_)
    replace h:=AB h; obtain⟨q,g,h⟩:=h
    refine BH (by have v:=J1 g; simpa using v) (Z ?_)
    refine AX (x:=nop Stack.avs q) (by simp only [Nat.zero_add,Nat.mul_one]; exact cQ (f:=nop Stack.avs) (l:=[p.e0,p.e1,p.e2,p.e3,p.e4,p.e5,p.e6,p.e7,p.e8]) g) (Z ?_)
    exact AF (k2 UT F) h
   ·exact AF trivial h
theorem L9 (a0 a1 a2 r) (h:D2 a0 a1 a2=some r):AC prog 169 [.agg (Stacks.avs a0),.agg (Stacks.avs a1),.int .i64 a2] (.bool r):=by
 unfold D2 at h
 refine acF func169 mixed (h:=Z ?_)
 exact AF (k1 KL) h
theorem Jr (n:Nat):(∀p q j u w r,Az n p q j u w=some r→Aa prog f159 [1,0,1,0] (.int .i64 r) ⟨[(0,.rop (Reading.avs p) 0),(1,.int .i64 q),(3,(nop ReadBinder.avs u)),(6,.box 1000002500 0),(9,.int .i64 w)],[],[(1000002500,some [(nop Stack.avs j.e0),(nop Stack.avs j.e1),(nop Stack.avs j.e2),(nop Stack.avs j.e3),(nop Stack.avs j.e4),(nop Stack.avs j.e5),(nop Stack.avs j.e6),(nop Stack.avs j.e7),(nop Stack.avs j.e8)])]⟩)∧
    (∀ (p:Reading) (q:Int) (j:Stacks) (w:Int) (v3001_8nnn:ReadBinder) (y:Bool) (r:Int),CB n p q j w v3001_8nnn y=some r→Aa prog f159 [1,0,1,0,0,1,0,0,1] (.int .i64 r) ⟨[(0,.rop (Reading.avs p) 0),(1,.int .i64 q),(3,.rop [.int .i64 v3001_8nnn.lam,(nop Stack.avs v3001_8nnn.stacks.e0),(nop Stack.avs v3001_8nnn.stacks.e1),(nop Stack.avs v3001_8nnn.stacks.e2),(nop Stack.avs v3001_8nnn.stacks.e3),(nop Stack.avs v3001_8nnn.stacks.e4),(nop Stack.avs v3001_8nnn.stacks.e5),(nop Stack.avs v3001_8nnn.stacks.e6),(nop Stack.avs v3001_8nnn.stacks.e7),(nop Stack.avs v3001_8nnn.stacks.e8),(nop ReadBinder.avs v3001_8nnn.rest)] 0),(6,.box 1000003500 0),(9,.int .i64 w),(40,.bool y)],[],[(1000003500,some [(nop Stack.avs j.e0),(nop Stack.avs j.e1),(nop Stack.avs j.e2),(nop Stack.avs j.e3),(nop Stack.avs j.e4),(nop Stack.avs j.e5),(nop Stack.avs j.e6),(nop Stack.avs j.e7),(nop Stack.avs j.e8)])]⟩):=by
 induction n with
 |zero=>exact⟨(fun _ _ _ _ _ _ h=>by rw [Az] at h; cases h),(fun _ _ _ _ _ _ _ h=>by rw [CB] at h; cases h)⟩
 | succ n ih=>
  obtain⟨v,C⟩:=ih
  refine⟨?_,?_⟩
  ·intro p q j u w r h
   rw [Az] at h
   refine BL rfl rfl (Z ?_)
   refine Ai (Z ?_)
   rcases hqv3001_8nnn:u with _|v3001_8nnn
   ·rw [hqv3001_8nnn] at h
    replace h:=mI h
    try simp only [hqv3001_8nnn,iH]
    try simp only [go_sem]
    exact AF trivial h
   ·rw [hqv3001_8nnn] at h
    replace h:=mJ h
    try simp only [hqv3001_8nnn,cS]
    try simp only [go_sem]
    exact AF (k2 L9 C) h
  ·intro p q j w v3001_8nnn y r h
   rw [CB] at h
   exact AF (k1 v) h
def KM (n:Nat):=(Jr n).1
theorem MA (a0 a1 a2 a3 r) (h:Cy a0 a1 a2 a3=some r):AC prog 159 [.rop (Reading.avs a0) 0,.int .i64 a1,.agg (Stacks.avs a2),(nop ReadBinder.avs a3)] (.int .i64 r):=by
 unfold Cy at h
 refine acF func159 mixed (h:=Z ?_)
 exact AF (k1 KM) h
theorem Xb (a0 r) (h:Nf a0=some r):AG prog 160 [.int .i64 a0] [] [] (.agg [.int .i64 r.kind,.int .i64 r.value,.nils,.nils]) [] [] :=by
 unfold Nf at h
 refine agF func160 mixed (h:=Z ?_)
 exact AF trivial h
theorem Xc (a0 r) (h:Ng a0=some r):AG prog 161 [.int .i64 a0] [] [] (.agg [.int .i64 r.kind,.int .i64 r.value,.nils,.nils]) [] [] :=by
 unfold Ng at h
 refine agF func161 mixed (h:=Z ?_)
 exact AF trivial h
theorem Lt (n:Nat):(∀u w y r,BM n u w y=some r→BK prog f137 [1,1,0,0,1,1,1,1,1,1,1,1,1,1,1,1,1,0,1,0,1,0] (.tup [.agg [.int .i64 r.1.kind,.int .i64 r.1.value,.own 1501,.own 1502],.own 1503,.bool r.2.2]) (tkI2 1501 r.1.data r.1.kids r.2.1) [] ⟨[(8,.box 1000011500 0),(11,.box 1000011501 0),(13,.own 1000011000),(14,.int .i64 y)],[(1000011000,some ⟨List.map AD w,some 1,0,.no⟩)],[(1000011500,some [.int .i64 0,.int .i64 0,.nils,.nils]),(1000011501,some (Agent.avs u))]⟩):=by
 induction n with
 |zero=>exact((fun _ _ _ _ h=>by rw [BM] at h; cases h))
 | succ n ih=>
  have C:=ih
  ·intro u w y r h
   rw [BM] at h
   refine AM rfl rfl (Z ?_)
   refine Ai (Z ?_)
   refine AI h (fun h=>Z ?_) (fun h=>Z ?_)
   ·refine AK ?_
    replace h:=AB h; obtain⟨q,g,h⟩:=h
    have v:=AT g
    obtain⟨p,j⟩:=v
    refine BO .no (Z ?_)
    refine By (Z ?_)
    refine F0 AD j (Z ?_)
    exact AF (k1 C) h
   ·refine AK ?_
    cases h
    exact C8 (.dp 0 2000000000 (some 1) .no [0,2] (k:=.dp 0 2000000001 (some 4) .no [0,3] (k:=.done _))) [(1501,2000000000),(1502,2000000001),(1503,1000011000)] []
theorem Lu (u:Agent) (w:Bool) (r:Core × (List Int) × Bool) (h:DY u w=some r):BK prog f137 [1,1,0,0,1,1,1,1,1,1,1,1,1,1,1,1,1,1,1,1,1] (.tup [.agg [.int .i64 r.1.kind,.int .i64 r.1.value,.own 1501,.own 1502],.own 1503,.bool r.2.2]) (tkI2 1501 r.1.data r.1.kids r.2.1) [] ⟨[(8,.box 1000009500 0),(11,.box 1000009501 0),(136,.bool w)],[],[(1000009500,some [.int .i64 0,.int .i64 0,.nils,.nils]),(1000009501,some (Agent.avs u))]⟩:=by
 unfold DY at h
 refine AM rfl rfl (Z ?_)
 refine AI h (fun h=>Z ?_) (fun h=>Z ?_)
 ·replace h:=AB h; obtain⟨y,q,h⟩:=h
  refine AL (Hd _ _ q) (Z ?_)
  refine AK ?_
  cases h
  exact C8 (.dp 0 2000000000 (some 4) .no [0,3] (k:=.lt 0 2000000001 26004 1 1 .no [1] (k:=.done _))) [(1501,416032),(1502,2000000000),(1503,2000000001)] []
 ·refine AI h (fun h=>Z ?_) (fun h=>Z ?_)
  ·replace h:=AB h; obtain⟨g,j,h⟩:=h
   refine IW (Xc _ _ j) (by (first|rfl|(simp only [go_sem]; rfl))) (by first|rfl|(simp only [go_sem])) (Z ?_)
   refine AK ?_
   cases h
   exact C8 (.dp 0 2000000000 (some 1) .no [0,2] (k:=.dp 0 2000000001 (some 4) .no [0,3] (k:=.dp 0 2000000002 (some 1) .no [1] (k:=.done _)))) (r3 1501 2000000000 []) []
  ·refine AK ?_
   cases h
   exact C8 (.dp 0 2000000000 (some 1) .no [0,2] (k:=.dp 0 2000000001 (some 4) .no [0,3] (k:=.dp 0 2000000002 (some 1) .no [1] (k:=.done _)))) (r3 1501 2000000000 []) []
theorem MB (a1:Port) (u:Agent) (w:Bool) (r:Core × (List Int) × Bool) (h:D3 a1 u w=some r):BK prog f137 [1,1,0,0,1,1,1,1,1,1,1,1,1,1,1,1,1,1,1] (.tup [.agg [.int .i64 r.1.kind,.int .i64 r.1.value,.own 1501,.own 1502],.own 1503,.bool r.2.2]) (tkI2 1501 r.1.data r.1.kids r.2.1) [] ⟨[(5,.box 1000008500 0),(8,.box 1000008501 0),(11,.box 1000008502 0),(122,.bool w)],[],[(1000008500,some [.int .i64 a1.agent,.int .i64 a1.slot]),(1000008501,some [.int .i64 0,.int .i64 0,.nils,.nils]),(1000008502,some (Agent.avs u))]⟩:=by
 unfold D3 at h
 refine AM rfl rfl (Z ?_)
 refine AI h (fun h=>Z ?_) (fun h=>Z ?_)
 ·replace h:=AB h; obtain⟨y,q,h⟩:=h
  refine AL (Hd _ _ q) (Z ?_)
  refine AK ?_
  cases h
  exact C8 (.dp 0 2000000000 (some 4) .no [0,3] (k:=.lt 0 2000000001 24004 1 1 .no [1] (k:=.done _))) [(1501,384032),(1502,2000000000),(1503,2000000001)] []
 ·exact AF (k1 Lu) h
theorem MC (a1:Port) (u:Agent) (w:Bool) (r:Core × (List Int) × Bool) (h:D4 a1 u w=some r):BK prog f137 [1,1,0,0,1,1,1,1,1,1,1,1,1,1,1,1,1] (.tup [.agg [.int .i64 r.1.kind,.int .i64 r.1.value,.own 1501,.own 1502],.own 1503,.bool r.2.2]) (tkI2 1501 r.1.data r.1.kids r.2.1) [] ⟨[(5,.box 1000005500 0),(8,.box 1000005501 0),(11,.box 1000005502 0),(98,.bool w)],[],[(1000005500,some [.int .i64 a1.agent,.int .i64 a1.slot]),(1000005501,some [.int .i64 0,.int .i64 0,.nils,.nils]),(1000005502,some (Agent.avs u))]⟩:=by
 unfold D4 at h
 refine AM rfl rfl (Z ?_)
 refine AI h (fun h=>Z ?_) (fun h=>Z ?_)
 ·refine CH (DL rfl rfl (Lt fuel u [] 1 _ h):) (.one ⟨_,.slot 13 2000000000 (some 1) .no (by simp only [go_sem]) (by simp only [go_sem]) (.done _),[(1000011000,2000000000)],[(1000011500,1000005501),(1000011501,1000005502)],?_⟩)
  simp only [go_sem]
  all_goals try rfl
 ·exact AF (k1 MB) h
theorem MD (a1:Port) (u:Agent) (w:Bool) (r:Core × (List Int) × Bool) (h:D5 a1 u w=some r):BK prog f137 [1,1,0,0,1,1,1,1,1,1,1,1,1,1,1] (.tup [.agg [.int .i64 r.1.kind,.int .i64 r.1.value,.own 1501,.own 1502],.own 1503,.bool r.2.2]) (tkI2 1501 r.1.data r.1.kids r.2.1) [] ⟨[(5,.box 1000004500 0),(8,.box 1000004501 0),(11,.box 1000004502 0),(85,.bool w)],[],[(1000004500,some [.int .i64 a1.agent,.int .i64 a1.slot]),(1000004501,some [.int .i64 0,.int .i64 0,.nils,.nils]),(1000004502,some (Agent.avs u))]⟩:=by
 unfold D5 at h
 refine AM rfl rfl (Z ?_)
 refine AI h (fun h=>Z ?_) (fun h=>Z ?_)
 ·refine AK ?_
  cases h
  exact C8 (.dp 0 2000000000 (some 1) .no [0,2] (k:=.dp 0 2000000001 (some 4) .no [0,3] (k:=.lt 0 2000000002 15003 1 1 .no [1] (k:=.done _)))) (r3 1501 2000000000 []) []
 ·exact AF (k1 MC) h
theorem ME (a1:Port) (u:Agent) (w:Bool) (r:Core × (List Int) × Bool) (h:D6 a1 u w=some r):BK prog f137 [1,1,0,0,1,1,1,1,1,1,1,1,1] (.tup [.agg [.int .i64 r.1.kind,.int .i64 r.1.value,.own 1501,.own 1502],.own 1503,.bool r.2.2]) (tkI2 1501 r.1.data r.1.kids r.2.1) [] ⟨[(5,.box 1000003500 0),(8,.box 1000003501 0),(11,.box 1000003502 0),(72,.bool w)],[],[(1000003500,some [.int .i64 a1.agent,.int .i64 a1.slot]),(1000003501,some [.int .i64 0,.int .i64 0,.nils,.nils]),(1000003502,some (Agent.avs u))]⟩:=by
 unfold D6 at h
 refine AM rfl rfl (Z ?_)
 refine AI h (fun h=>Z ?_) (fun h=>Z ?_)
 ·refine AK ?_
  cases h
  exact C8 (.dp 0 2000000000 (some 1) .no [0,2] (k:=.dp 0 2000000001 (some 4) .no [0,3] (k:=.lt 0 2000000002 13003 2 1 .no [1] (k:=.done _)))) (r3 1501 2000000000 []) []
 ·exact AF (k1 MD) h
theorem MF (a1:Port) (u:Agent) (w:Bool) (r:Core × (List Int) × Bool) (h:D7 a1 u w=some r):BK prog f137 [1,1,0,0,1,1,1,1,1] (.tup [.agg [.int .i64 r.1.kind,.int .i64 r.1.value,.own 1501,.own 1502],.own 1503,.bool r.2.2]) (tkI2 1501 r.1.data r.1.kids r.2.1) [] ⟨[(5,.box 1000002500 0),(8,.box 1000002501 0),(11,.box 1000002502 0),(54,.bool w)],[],[(1000002500,some [.int .i64 a1.agent,.int .i64 a1.slot]),(1000002501,some [.int .i64 0,.int .i64 0,.nils,.nils]),(1000002502,some (Agent.avs u))]⟩:=by
 unfold D7 at h
 refine AM rfl rfl (Z ?_)
 refine AI h (fun h=>Z ?_) (fun h=>Z ?_)
 ·refine AK ?_
  cases h
  exact C8 (.dp 0 2000000000 (some 1) .no [0,2] (k:=.dp 0 2000000001 (some 4) .no [0,3] (k:=.lt 0 2000000002 9001 2 1 .no [1] (k:=.done _)))) (r3 1501 2000000000 []) []
 ·refine AI h (fun h=>Z ?_) (fun h=>Z ?_)
  ·replace h:=AB h; obtain⟨y,q,h⟩:=h
   refine IW (QG _ _ q) (by (first|rfl|(simp only [go_sem]; rfl))) (by first|rfl|(simp only [go_sem])) (Z ?_)
   refine AK ?_
   cases h
   exact C8 (.dp 0 2000000000 (some 1) .no [0,2] (k:=.dp 0 2000000001 (some 4) .no [0,3] (k:=.dp 0 2000000002 (some 1) .no [1] (k:=.done _)))) (r3 1501 2000000000 []) []
  ·exact AF (k1 ME) h
theorem MG (a0:Reading) (a1:Port) (a2:Stacks) (a3:Option ReadBinder) (u:Agent) (w:Bool) (r:Core × (List Int) × Bool) (h:D8 a0 a1 a2 a3 u w=some r):BK prog f137 [1,1,0,0,1,1,1] (.tup [.agg [.int .i64 r.1.kind,.int .i64 r.1.value,.own 1501,.own 1502],.own 1503,.bool r.2.2]) (tkI2 1501 r.1.data r.1.kids r.2.1) [] ⟨[(0,.rop (Reading.avs a0) 0),(3,(nop ReadBinder.avs a3)),(5,.box 1000001500 0),(6,.box 1000001501 0),(8,.box 1000001502 0),(11,.box 1000001503 0),(35,.bool w)],[],[(1000001500,some [.int .i64 a1.agent,.int .i64 a1.slot]),(1000001501,some [(nop Stack.avs a2.e0),(nop Stack.avs a2.e1),(nop Stack.avs a2.e2),(nop Stack.avs a2.e3),(nop Stack.avs a2.e4),(nop Stack.avs a2.e5),(nop Stack.avs a2.e6),(nop Stack.avs a2.e7),(nop Stack.avs a2.e8)]),(1000001502,some [.int .i64 0,.int .i64 0,.nils,.nils]),(1000001503,some (Agent.avs u))]⟩:=by
 unfold D8 at h
 refine AM rfl rfl (Z ?_)
 refine AI h (fun h=>Z ?_) (fun h=>Z ?_)
 ·replace h:=AB h; obtain⟨y,q,h⟩:=h
  refine AL (MA _ _ _ _ _ q) (Z ?_)
  refine AK ?_
  replace h:=AB h; obtain⟨g,j,h⟩:=h
  refine IW (Xb _ _ j) (by (first|rfl|(simp only [go_sem]; rfl))) (by first|rfl|(simp only [go_sem])) (Z ?_)
  refine AK ?_
  cases h
  exact C8 (.dp 0 2000000000 (some 1) .no [0,2] (k:=.dp 0 2000000001 (some 4) .no [0,3] (k:=.dp 0 2000000002 (some 1) .no [1] (k:=.done _)))) (r3 1501 2000000000 []) []
 ·exact AF (k1 MF) h
theorem MH (a0:Reading) (a1:Port) (a2:Stacks) (a3:Option ReadBinder) (u:Agent) (w:Bool) (r:Core × (List Int) × Bool) (h:D9 a0 a1 a2 a3 u w=some r):BK prog f137 [1,1,0,0,1] (.tup [.agg [.int .i64 r.1.kind,.int .i64 r.1.value,.own 1501,.own 1502],.own 1503,.bool r.2.2]) (tkI2 1501 r.1.data r.1.kids r.2.1) [] ⟨[(0,.rop (Reading.avs a0) 0),(3,(nop ReadBinder.avs a3)),(5,.box 1000000500 0),(6,.box 1000000501 0),(8,.box 1000000502 0),(11,.box 1000000503 0),(24,.bool w)],[],[(1000000500,some [.int .i64 a1.agent,.int .i64 a1.slot]),(1000000501,some [(nop Stack.avs a2.e0),(nop Stack.avs a2.e1),(nop Stack.avs a2.e2),(nop Stack.avs a2.e3),(nop Stack.avs a2.e4),(nop Stack.avs a2.e5),(nop Stack.avs a2.e6),(nop Stack.avs a2.e7),(nop Stack.avs a2.e8)]),(1000000502,some [.int .i64 0,.int .i64 0,.nils,.nils]),(1000000503,some (Agent.avs u))]⟩:=by
 unfold D9 at h
 refine AM rfl rfl (Z ?_)
 refine AI h (fun h=>Z ?_) (fun h=>Z ?_)
 ·refine AK ?_
  cases h
  exact C8 (.dp 0 2000000000 (some 1) .no [0,2] (k:=.dp 0 2000000001 (some 4) .no [0,3] (k:=.lt 0 2000000002 4001 1 1 .no [1] (k:=.done _)))) (r3 1501 2000000000 []) []
 ·exact AF (k1 MG) h
theorem Oq (a0 a1 a2 a3 r) (h:FW a0 a1 a2 a3=some r):AG prog 137 [.rop (Reading.avs a0) 0,.agg [.int .i64 a1.agent,.int .i64 a1.slot],.agg [(nop Stack.avs a2.e0),(nop Stack.avs a2.e1),(nop Stack.avs a2.e2),(nop Stack.avs a2.e3),(nop Stack.avs a2.e4),(nop Stack.avs a2.e5),(nop Stack.avs a2.e6),(nop Stack.avs a2.e7),(nop Stack.avs a2.e8)],(nop ReadBinder.avs a3)] [] [] (.tup [.agg [.int .i64 r.1.kind,.int .i64 r.1.value,.own 1501,.own 1502],.own 1503,.bool r.2.2]) (tkI2 1501 r.1.data r.1.kids r.2.1) [] :=by
 unfold FW at h
 refine agF func137 mixed (h:=Z ?_)
 refine AK ?_
 refine AW [false,false,false,false,false,false,false,false,false,false,true] (Tr.sq [10] .fin) (by kernel_rfl) (Z ?_)
 exact AF (k1 MH) h
theorem NK (a0:Reading) (a1:Int) (a2:ByteArray) (u:Bool) (r:Int × Reading) (h:ES a0 a1 a2 u=some r):BK prog f138 [1,0,1] (.int .i64 r.1) [(1501,⟨List.map AD r.2.origins,some 1,0,.no⟩),(1502,⟨List.map AD r.2.times,some 1,0,.no⟩),(1503,⟨List.map Be r.2.labels,some 1,0,.no⟩)] [(1,[.ro (a0.net.agents.map Agent.ds),.int .i64 r.2.entered,.int .i64 r.2.nodes,.own 1501,.own 1502,.own 1503])] ⟨[(0,.box 1 0),(1,.int .i64 a1),(2,.str a2),(17,.bool u)],[(1000000000,some ⟨List.map AD a0.origins,some 1,0,.no⟩),(1000000001,some ⟨List.map AD a0.times,some 1,0,.no⟩),(1000000002,some ⟨List.map Be a0.labels,some 1,0,.no⟩)],[(1,some [.ro (a0.net.agents.map Agent.ds),.int .i64 a0.entered,.int .i64 a0.nodes,.own 1000000000,.own 1000000001,.own 1000000002])]⟩:=by
 unfold ES at h
 refine AM rfl rfl (Z ?_)
 refine AI h (fun h=>Z ?_) (fun h=>Z ?_)
 ·exact AF trivial h
 ·refine AK ?_
  replace h:=AB h; obtain⟨w,y,h⟩:=h
  have v:=AT y
  obtain⟨C,j⟩:=v
  refine BO .no (Z ?_)
  refine By (Z ?_)
  refine F0 AD j (Z ?_)
  refine AK ?_
  replace h:=AB h; obtain⟨q,g,h⟩:=h
  have v:=AT g
  obtain⟨F,p⟩:=v
  refine BO .no (Z ?_)
  refine By (Z ?_)
  refine F0 Be p (Z ?_)
  exact AF trivial h
theorem KA (a0 a1 a2 a3 r) (h:DC a0 a1 a2 a3=some r):AG prog 138 [.box 1 0,.int .i64 a1,.str a2,.int .i64 a3] [(1001,⟨List.map AD a0.origins,some 1,0,.no⟩),(1002,⟨List.map AD a0.times,some 1,0,.no⟩),(1003,⟨List.map Be a0.labels,some 1,0,.no⟩)] [(1,[.ro (a0.net.agents.map Agent.ds),.int .i64 a0.entered,.int .i64 a0.nodes,.own 1001,.own 1002,.own 1003])] (.int .i64 r.1) [(1501,⟨List.map AD r.2.origins,some 1,0,.no⟩),(1502,⟨List.map AD r.2.times,some 1,0,.no⟩),(1503,⟨List.map Be r.2.labels,some 1,0,.no⟩)] [(1,[.ro (a0.net.agents.map Agent.ds),.int .i64 r.2.entered,.int .i64 r.2.nodes,.own 1501,.own 1502,.own 1503])] :=by
 unfold DC at h
 refine agF func138 mixed (h:=Z ?_)
 exact AF (k1 NK) h
theorem Ot (n:Nat):(∀v a1 F a3 G r,DD n v a1 F a3 G=some r→AG prog 104 [.box 1 0,.agg [.int .i64 a1.agent,.int .i64 a1.slot],.agg [(nop Stack.avs F.e0),(nop Stack.avs F.e1),(nop Stack.avs F.e2),(nop Stack.avs F.e3),(nop Stack.avs F.e4),(nop Stack.avs F.e5),(nop Stack.avs F.e6),(nop Stack.avs F.e7),(nop Stack.avs F.e8)],(nop ReadBinder.avs a3),.int .i64 G] [(1001,⟨List.map AD v.origins,some 1,0,.no⟩),(1002,⟨List.map AD v.times,some 1,0,.no⟩),(1003,⟨List.map Be v.labels,some 1,0,.no⟩)] [(1,[.ro (v.net.agents.map Agent.ds),.int .i64 v.entered,.int .i64 v.nodes,.own 1001,.own 1002,.own 1003])] (.tup [.agg [.int .i64 r.1.kind,.int .i64 r.1.value,.own 1501,.own 1502],.int .i64 r.2.1]) [(1501,⟨List.map AD r.1.data,some 1,0,.no⟩),(1502,⟨List.map Core.ds r.1.kids,some 4,0,.no⟩),(1503,⟨List.map AD r.2.2.origins,some 1,0,.no⟩),(1504,⟨List.map AD r.2.2.times,some 1,0,.no⟩),(1505,⟨List.map Be r.2.2.labels,some 1,0,.no⟩)] [(1,[.ro (v.net.agents.map Agent.ds),.int .i64 r.2.2.entered,.int .i64 r.2.2.nodes,.own 1503,.own 1504,.own 1505])])∧
    (∀v a3 G u w y q g j k b d c e i l t s o (z:ByteArray) r,B8 n v a3 G u w y q g j k b d c e i l t s o z=some r→BK prog f104 [1,1,0,0] (.tup [.agg [.int .i64 r.1.kind,.int .i64 r.1.value,.own 1501,.own 1502],.int .i64 r.2.1]) [(1501,⟨List.map AD r.1.data,some 1,0,.no⟩),(1502,⟨List.map Core.ds r.1.kids,some 4,0,.no⟩),(1503,⟨List.map AD r.2.2.origins,some 1,0,.no⟩),(1504,⟨List.map AD r.2.2.times,some 1,0,.no⟩),(1505,⟨List.map Be r.2.2.labels,some 1,0,.no⟩)] [(1,[.ro (v.net.agents.map Agent.ds),.int .i64 r.2.2.entered,.int .i64 r.2.2.nodes,.own 1503,.own 1504,.own 1505])] ⟨[(0,.box 1 0),(3,(nop ReadBinder.avs a3)),(4,.int .i64 G),(6,.box 1000001500 0),(7,.box 1000001501 0),(10,.box 1000001502 0),(12,.str z)],[(1000001000,some ⟨List.map AD y,some 1,0,.no⟩),(1000001001,some ⟨List.map AD q,some 1,0,.no⟩),(1000001002,some ⟨List.map Be g,some 1,0,.no⟩)],[(1,some [.ro (v.net.agents.map Agent.ds),.int .i64 u,.int .i64 w,.own 1000001000,.own 1000001001,.own 1000001002]),(1000001500,some [.int .i64 j,.int .i64 k]),(1000001501,some [(nop Stack.avs b),(nop Stack.avs d),(nop Stack.avs c),(nop Stack.avs e),(nop Stack.avs i),(nop Stack.avs l),(nop Stack.avs t),(nop Stack.avs s),(nop Stack.avs o)]),(1000001502,some [.int .i64 0,.int .i64 0,.nils,.nils])]⟩)∧
    (∀v G j k b d c e i l t s o C u2 u3 u4 u5 u6 u7 u8 r,BC n v G j k b d c e i l t s o C u2 u3 u4 u5 u6 u7 u8=some r→BK prog f104 [1,1,1,1,1,1,1] (.tup [.agg [.int .i64 r.1.kind,.int .i64 r.1.value,.own 1501,.own 1502],.int .i64 r.2.1]) [(1501,⟨List.map AD r.1.data,some 1,0,.no⟩),(1502,⟨List.map Core.ds r.1.kids,some 4,0,.no⟩),(1503,⟨List.map AD r.2.2.origins,some 1,0,.no⟩),(1504,⟨List.map AD r.2.2.times,some 1,0,.no⟩),(1505,⟨List.map Be r.2.2.labels,some 1,0,.no⟩)] [(1,[.ro (v.net.agents.map Agent.ds),.int .i64 r.2.2.entered,.int .i64 r.2.2.nodes,.own 1503,.own 1504,.own 1505])] ⟨[(0,.box 1 0),(3,(nop ReadBinder.avs u7)),(4,.int .i64 G),(6,.box 1000002500 0),(7,.box 1000002501 0),(10,.box 1000002502 0),(16,.box 1000002503 0),(17,.own 1000002005)],[(1000002000,some ⟨List.map AD u4,some 1,0,.no⟩),(1000002001,some ⟨List.map AD u5,some 1,0,.no⟩),(1000002002,some ⟨List.map Be u6,some 1,0,.no⟩),(1000002003,some ⟨List.map AD C.1.data,some 1,0,.no⟩),(1000002004,some ⟨List.map Core.ds u8,some 4,0,.no⟩),(1000002005,some ⟨List.map AD C.2.1,some 1,0,.no⟩)],[(1,some [.ro (v.net.agents.map Agent.ds),.int .i64 u2,.int .i64 u3,.own 1000002000,.own 1000002001,.own 1000002002]),(1000002500,some [.int .i64 j,.int .i64 k]),(1000002501,some [(nop Stack.avs b),(nop Stack.avs d),(nop Stack.avs c),(nop Stack.avs e),(nop Stack.avs i),(nop Stack.avs l),(nop Stack.avs t),(nop Stack.avs s),(nop Stack.avs o)]),(1000002502,some [.int .i64 0,.int .i64 0,.nils,.nils]),(1000002503,some [.int .i64 C.1.kind,.int .i64 C.1.value,.own 1000002003,.own 1000002004])]⟩)∧
    (∀v G j k b d c e i l t s o u7 C u9 u10 u11 u12 u13 u14 u15 r,B9 n v G j k b d c e i l t s o u7 C u9 u10 u11 u12 u13 u14 u15=some r→BK prog f104 [1,1,1,1,1,1,1,0,1,0] (.tup [.agg [.int .i64 r.1.kind,.int .i64 r.1.value,.own 1501,.own 1502],.int .i64 r.2.1]) [(1501,⟨List.map AD r.1.data,some 1,0,.no⟩),(1502,⟨List.map Core.ds r.1.kids,some 4,0,.no⟩),(1503,⟨List.map AD r.2.2.origins,some 1,0,.no⟩),(1504,⟨List.map AD r.2.2.times,some 1,0,.no⟩),(1505,⟨List.map Be r.2.2.labels,some 1,0,.no⟩)] [(1,[.ro (v.net.agents.map Agent.ds),.int .i64 r.2.2.entered,.int .i64 r.2.2.nodes,.own 1503,.own 1504,.own 1505])] ⟨[(0,.box 1 0),(3,(nop ReadBinder.avs u7)),(4,.int .i64 G),(6,.box 1000004500 0),(7,.box 1000004501 0),(10,.box 1000004502 0),(16,.box 1000004503 0),(125,.own 1000004005),(126,.int .i64 ((List.length C.2.1 :Nat):Int)),(127,.int .i64 u15)],[(1000004000,some ⟨List.map AD u11,some 1,0,.no⟩),(1000004001,some ⟨List.map AD u12,some 1,0,.no⟩),(1000004002,some ⟨List.map Be u13,some 1,0,.no⟩),(1000004003,some ⟨List.map AD C.1.data,some 1,0,.no⟩),(1000004004,some ⟨List.map Core.ds u14,some 4,0,.no⟩),(1000004005,some ⟨List.map AD C.2.1,some 1,0,.no⟩)],[(1,some [.ro (v.net.agents.map Agent.ds),.int .i64 u9,.int .i64 u10,.own 1000004000,.own 1000004001,.own 1000004002]),(1000004500,some [.int .i64 j,.int .i64 k]),(1000004501,some [(nop Stack.avs b),(nop Stack.avs d),(nop Stack.avs c),(nop Stack.avs e),(nop Stack.avs i),(nop Stack.avs l),(nop Stack.avs t),(nop Stack.avs s),(nop Stack.avs o)]),(1000004502,some [.int .i64 0,.int .i64 0,.nils,.nils]),(1000004503,some [.int .i64 C.1.kind,.int .i64 C.1.value,.own 1000004003,.own 1000004004])]⟩):=by
 induction n with
 |zero=>exact⟨(fun _ _ _ _ _ _ h=>by rw [DD] at h; cases h),(fun _ _ _ _ _ _ _ _ _ _ _ _ _ _ _ _ _ _ _ _ _ h=>by rw [B8] at h; cases h),(fun _ _ _ _ _ _ _ _ _ _ _ _ _ _ _ _ _ _ _ _ _ _ h=>by rw [BC] at h; cases h),(fun _ _ _ _ _ _ _ _ _ _ _ _ _ _ _ _ _ _ _ _ _ _ _ h=>by rw [B9] at h; cases h)⟩
 | succ n ih=>
  obtain⟨ih0,ih1,ih2,ih3⟩:=ih
  refine⟨?_,?_,?_,?_⟩
  ·intro v a1 F a3 G r h
   rw [DD] at h
   refine agF func104 mixed (h:=Z ?_)
   refine AK ?_
   exact Yq (ih1 v a3 G v.entered v.nodes v.origins v.times v.labels a1.agent a1.slot F.e0 F.e1 F.e2 F.e3 F.e4 F.e5 F.e6 F.e7 F.e8 (ByteArray.mk #[]) _ h)
  ·intro v a3 G u w y q g j k b d c e i l t s o z r h
   rw [B8] at h
   refine AM rfl rfl (Z ?_)
   refine Ai (Z ?_)
   replace h:=AB h; obtain⟨u16,u17,h⟩:=h
   refine caG ⟨[],(r3 1001 1000001000 []),[(1,1,0)],(r3 1501 48032 []),[],true⟩ (Oo _ _ _ u17) (Z ?_)
   refine AK ?_
   refine AI h (fun h=>Z ?_) (fun h=>Z ?_)
   ·cases h
    exact C8 (.dp 0 2000000000 (some 1) .no [0,2] (k:=.dp 0 2000000001 (some 4) .no [0,3] (k:=.done _))) ((1501,2000000000)::(1502,2000000001)::r3 1503 48032 []) [(1,1)]
   ·refine AK ?_
    replace h:=AB h; obtain⟨u18,u19,h⟩:=h
    refine AL (Uf _ _ u19) (Z ?_)
    replace h:=AB h; obtain⟨u20,u21,h⟩:=h
    have O:=Fe u21
    obtain⟨hv6003a,hv6003b⟩:=O
    refine BH hv6003a ?_
    rw [hv6003b]
    try simp only [go_sem]
    refine AK ?_
    refine AW [] .fin (by kernel_rfl) (Z ?_)
    replace h:=AB h; obtain⟨u22,u23,h⟩:=h
    refine AS u23 (Agent.ds_len _) (Z ?_)
    refine AK ?_
    refine AI h (fun h=>Z ?_) (fun h=>Z ?_)
    ·refine AK ?_
     replace h:=AB h; obtain⟨C,u24,h⟩:=h
     refine caG ⟨[],[],[],(r3 1501 192064 []),[],false⟩ (Oq _ _ _ _ _ u24) (Z ?_)
     refine AK ?_
     refine AI h (fun h=>Z ?_) (fun h=>Z ?_)
     ·cases h
      exact C8 (.dp 0 2000000000 (some 1) .no [0,2] (k:=.dp 0 2000000001 (some 4) .no [0,3] (k:=.done _))) ((1501,2000000000)::(1502,2000000001)::r3 1503 48032 []) [(1,1)]
     ·refine AK ?_
      replace h:=AB h; obtain⟨u25,u26,h⟩:=h
      refine caG ⟨[],(r3 1001 48032 []),[(1,1,0)],(r3 1501 240080 []),[],true⟩ (KA _ _ _ _ _ u26) (Z ?_)
      refine AK ?_
      refine AI h (fun h=>Z ?_) (fun h=>Z ?_)
      ·cases h
       exact C8 (.dp 0 2000000000 (some 1) .no [0,2] (k:=.dp 0 2000000001 (some 4) .no [0,3] (k:=.done _))) ((1501,2000000000)::(1502,2000000001)::r3 1503 240080 []) [(1,1)]
      ·refine AK ?_
       refine AW [false,false,false,false,false,false,false,false,false,false,true] (Tr.sq [10] .fin) (by kernel_rfl) (Z ?_)
       replace h:=AB h; obtain⟨u27,u28,h⟩:=h
       refine AS u28 (Agent.ds_len _) (Z ?_)
       refine AK ?_
       refine AI h (fun h=>Z ?_) (fun h=>Z ?_)
       ·replace h:=AB h; obtain⟨u29,u30,h⟩:=h
        refine AL (Ls _ _ u30) (Z ?_)
        replace h:=AB h; obtain⟨u31,u32,h⟩:=h
        have O:=Fe u32
        obtain⟨W,Y⟩:=O
        refine BH W ?_
        rw [Y]
        try simp only [go_sem]
        replace h:=AB h; obtain⟨u33,u34,h⟩:=h
        refine caG ⟨[],(r3 1001 240080 []),[(1,1,0)],(r3 1501 320112 []),[],true⟩ (KA _ _ _ _ _ u34) (Z ?_)
        refine AK ?_
        refine AI h (fun h=>Z ?_) (fun h=>Z ?_)
        ·cases h
         exact C8 (.dp 0 2000000000 (some 1) .no [0,2] (k:=.dp 0 2000000001 (some 4) .no [0,3] (k:=.done _))) ((1501,2000000000)::(1502,2000000001)::r3 1503 320112 []) [(1,1)]
        ·refine AK ?_
         refine AW [false,false,false,false,false,false,false,false,true,true,true] (Tr.sq [8,9,10] .fin) (by kernel_rfl) (Z ?_)
         replace h:=AB h; obtain⟨u35,u36,h⟩:=h
         refine AS u36 rfl (Z ?_)
         replace h:=AB h; obtain⟨u37,u38,h⟩:=h
         refine IW (QG _ _ u38) (by (first|rfl|(simp only [go_sem]; rfl))) (by first|rfl|(simp only [go_sem])) (Z ?_)
         replace h:=AB h; obtain⟨u39,u40,h⟩:=h
         have O:=AT u40
         obtain⟨hv23008a,hv23008b⟩:=O
         refine BO .no (Z ?_)
         refine By (Z ?_)
         refine Ar (u39.map Core.ds) (by rw [← hv23008b]; simp only [List.map_append,List.map_cons,List.map_nil,List.nil_append,List.append_nil,go_sem,Core.ds_eq]) (Z ?_)
         exact AF (k1 ih2) h
       ·refine AI h (fun h=>Z ?_) (fun h=>Z ?_)
        ·refine Mg (DL rfl rfl (ih2 v G j k b d c e i l t s o C u25.2.entered u25.2.nodes u25.2.origins u25.2.times u25.2.labels (some (⟨j,(⟨b,d,c,e,i,l,t,s,o⟩:Stacks),a3⟩:ReadBinder)) C.1.kids _ h):) (.one ⟨_,.frzB 25005 [(3,[]),(124,[])] [] _ _ _ (by (first|rfl|(simp only [go_sem]; rfl))) (by decide) (by rfl) (by (first|rfl|(simp only [go_sem]; rfl))) (by (first|rfl|(simp only [go_sem]; rfl))) (.done _),(r3 1000002000 240080 (r3 1000002003 192064 [])),((1,1)::r3 1000002500 1000001500 [(1000002503,12009)]),?_⟩)
         simp only [go_sem]
         all_goals try rfl
        ·exact AF (k1 ih2) h
    ·refine AK ?_
     replace h:=AB h; obtain⟨u41,u42,h⟩:=h
     refine caG ⟨[],(r3 1001 48032 []),[(1,1,0),(2,1000001501,0)],(r3 1501 128032 []),[],true⟩ (RG _ _ _ _ u42) (Z ?_)
     refine AK ?_
     refine AI h (fun h=>Z ?_) (fun h=>Z ?_)
     ·cases h
      exact C8 (.dp 0 2000000000 (some 1) .no [0,2] (k:=.dp 0 2000000001 (some 4) .no [0,3] (k:=.done _))) ((1501,2000000000)::(1502,2000000001)::r3 1503 128032 []) [(1,1)]
     ·exact AF (k1 ih1) h
  ·intro v G j k b d c e i l t s o C u2 u3 u4 u5 u6 u7 u8 r h
   rw [BC] at h
   exact AF (k1 ih3) h
  ·intro v G j k b d c e i l t s o u7 C u9 u10 u11 u12 u13 u14 u15 r h
   rw [B9] at h
   refine AM rfl rfl (Z ?_)
   refine Ai (Z ?_)
   refine AI h (fun h=>Z ?_) (fun h=>Z ?_)
   ·refine AK ?_
    replace h:=AB h; obtain⟨u43,u44,h⟩:=h
    refine AS u44 rfl (Z ?_)
    refine AX (AP u44) (Z ?_)
    replace h:=AB h; obtain⟨u45,u46,h⟩:=h
    replace h:=AB h; obtain⟨p,u48,h⟩:=h
    refine me (fun S=>⟨[(132,if S 0=true then .box 1 0 else .any),(133,if S 1=true then .box 1 0 else .any),(134,if S 2=true then .box 1 0 else .any),(135,if S 3=true then .box 1 0 else .any),(136,if S 4=true then .box 1000004500 0 else .any),(137,if S 5=true then .int .i64 j else .any),(138,if S 6=true then .int .i64 u43 else .any),(139,if S 7=true then .agg [.int .i64 j,.int .i64 u43] else .any),(140,if S 8=true then .agg [.int .i64 u45.agent,.int .i64 u45.slot] else .any),(141,if S 9=true then .agg [(nop Stack.avs b),(nop Stack.avs d),(nop Stack.avs c),(nop Stack.avs e),(nop Stack.avs i),(nop Stack.avs l),(nop Stack.avs t),(nop Stack.avs s),(nop Stack.avs o)] else .any),(142,if S 10=true then (nop ReadBinder.avs u7) else .any),(143,if S 11=true then .int .i64 G else .any),(144,if S 12=true then .int .i64 (IntKind.i64.wrap (G+1)) else .any),(145,if S 13=true then .tup [.agg [.int .i64 p.1.kind,.int .i64 p.1.value,.own 464208,.own 464209],.int .i64 p.2.1] else .any),(131,if S 14=true then .tup [.agg [.int .i64 p.1.kind,.int .i64 p.1.value,.own 464208,.own 464209],.int .i64 p.2.1] else .any),(146,if S 15=true then .agg [.int .i64 p.1.kind,.int .i64 p.1.value,.own 464208,.own 464209] else .any),(147,if S 16=true then .int .i64 p.2.1 else .any),(24,if S 17=true then .box 29017 0 else .any),(25,if S 19=true then .int .i64 p.2.1 else .any),(0,.box 1 0),(3,(nop ReadBinder.avs u7)),(4,.int .i64 G),(6,.box 1000004500 0),(7,.box 1000004501 0),(10,.box 1000004502 0),(16,.box 1000004503 0),(125,.own 1000004005),(126,.int .i64 ((List.length C.2.1 :Nat):Int)),(127,.int .i64 u15),(128,.bool (decide (u15<((List.length C.2.1 :Nat):Int)))),(129,.elt 1000004005 1 (Int.toNat u15) 0),(130,.int .i64 u43),(23,.int .i64 u43)],(optK (S 13) (464212,(some ⟨List.map Be p.2.2.labels,some 1,0,.no⟩)) (optK (S 13) (464211,(some ⟨List.map AD p.2.2.times,some 1,0,.no⟩)) (optK (S 13) (464210,(some ⟨List.map AD p.2.2.origins,some 1,0,.no⟩)) (optK (S 13) (464209,(some ⟨List.map Core.ds p.1.kids,some 4,0,.no⟩)) (optK (S 13) (464208,(some ⟨List.map AD p.1.data,some 1,0,.no⟩)) [(1000004000,(if S 13=true then none else (some ⟨List.map AD u11,some 1,0,.no⟩))),(1000004001,(if S 13=true then none else (some ⟨List.map AD u12,some 1,0,.no⟩))),(1000004002,(if S 13=true then none else (some ⟨List.map Be u13,some 1,0,.no⟩))),(1000004003,(some ⟨List.map AD C.1.data,some 1,0,.no⟩)),(1000004004,(some ⟨List.map Core.ds u14,some 4,0,.no⟩)),(1000004005,(some ⟨List.map AD C.2.1,some 1,0,.no⟩))]))))),(optK (S 17) (29017,(if S 18=true then (some [.int .i64 p.1.kind,.int .i64 p.1.value,.own 464208,.own 464209]) else (some [.int .i64 0,.int .i64 0,.nils,.nils]))) [(1,(if S 13=true then (some [.ro (v.net.agents.map Agent.ds),.int .i64 p.2.2.entered,.int .i64 p.2.2.nodes,.own 464210,.own 464211,.own 464212]) else (some [.ro (v.net.agents.map Agent.ds),.int .i64 u9,.int .i64 u10,.own 1000004000,.own 1000004001,.own 1000004002]))),(1000004500,(some [.int .i64 j,.int .i64 k])),(1000004501,(some [(nop Stack.avs b),(nop Stack.avs d),(nop Stack.avs c),(nop Stack.avs e),(nop Stack.avs i),(nop Stack.avs l),(nop Stack.avs t),(nop Stack.avs s),(nop Stack.avs o)])),(1000004502,(some [.int .i64 0,.int .i64 0,.nils,.nils])),(1000004503,(some [.int .i64 C.1.kind,.int .i64 C.1.value,.own 1000004003,.own 1000004004]))])⟩) [([],[13,18]),([],[13,18]),([1],[13,18]),([2],[13,18]),([],[13,18]),([4],[13,18]),([],[13,18]),([5,6],[13,18]),([3,7],[13,18]),([],[13,18]),([],[13,18]),([],[13,18]),([11],[13,18]),([0,8,9,10,12],[18]),([13],[18]),([14],[18]),([14],[]),([],[18]),([0,1,2,3,4,5,6,7,8,9,10,11,12,13,14,15,17],[]),([0,1,2,3,4,5,6,7,8,9,10,11,12,13,14,15,16,17,18],[])] (by kernel_rfl) ?_ ?_ ?_
    ·(first|done|(simp (config:= {contextual:=true}) [go_sem,T3,leO1,decide_eq_true_eq]; done))
    ·refine Hj ?_
     refine Hj ?_
     refine Hj ?_
     refine Hj ?_
     refine Hj ?_
     refine Hj ?_
     refine Hj ?_
     refine Hj ?_
     refine gQ (by kernel_rfl) (by kernel_rfl) (fun S hS hd hu=>?_) ?_
     ·simp only [T4,Qx,and_true] at hd
      obtain⟨U,I⟩:=hd
      simp only [Wr,T5,and_true] at hu
      obtain⟨J,hu1⟩:=hu
      try simp only [go_sem,hS,U,I,J,hu1]
      refine AL (Q0 (C5 _ _ _ u46) (.cons (.rop rfl) (.cons (.refl _) .nil))) ?_
      try simp only [go_sem,hS,U,I,J,hu1]
      (first|done|(simp (config:= {contextual:=true}) [go_sem,T3,leO1,hS,U,I,J,hu1]; done))
     refine Hj ?_
     refine Hj ?_
     refine Hj ?_
     refine Hj ?_
     refine gQ (by kernel_rfl) (by kernel_rfl) (fun S hS hd hu=>?_) ?_
     ·simp only [T4,Qx,and_true] at hd
      obtain⟨U,I,hd2,hd3,hd4⟩:=hd
      simp only [Wr,T5,and_true] at hu
      have J:=hu
      try simp only [go_sem,hS,U,I,hd2,hd3,hd4,J]
      refine caG ⟨[],(r3 1001 1000004000 []),[(1,1,0)],(r5 1501 464208 []),[],true⟩ (ih0 _ _ _ _ _ _ u48) ?_
      try simp only [go_sem,hS,U,I,hd2,hd3,hd4,J]
      (first|done|(simp (config:= {contextual:=true}) [go_sem,T3,leO1,hS,U,I,hd2,hd3,hd4,J]; done))
     refine Hj ?_
     refine Hj ?_
     refine Hj ?_
     refine Hj ?_
     refine Hj ?_
     refine Hj ?_
     exact qE
    try simp only [go_sem]
    refine AK ?_
    refine AI h (fun h=>Z ?_) (fun h=>Z ?_)
    ·cases h
     exact C8 (.dp 0 2000000000 (some 1) .no [0,2] (k:=.dp 0 2000000001 (some 4) .no [0,3] (k:=.done _))) ((1501,2000000000)::(1502,2000000001)::r3 1503 464210 []) [(1,1)]
    ·refine AK ?_
     replace h:=AB h; obtain⟨u49,u50,h⟩:=h
     have O:=AT u50
     obtain⟨hv32004a,hv32004b⟩:=O
     refine BO .no (Z ?_)
     refine By (Z ?_)
     refine Ar (u49.map Core.ds) (by rw [← hv32004b]; simp only [List.map_append,List.map_cons,List.map_nil,List.nil_append,List.append_nil,go_sem,Core.ds_eq]) (Z ?_)
     exact AF (k1 ih3) h
   ·exact AF trivial h
def QH (n:Nat):=(Ot n).1
theorem XX (a0 r) (h:Hw a0=some r) (hc:EA a0=some true):AG prog 61 [.agg [.ro (a0.agents.map Agent.ds)]] [] [] (.tup [.box 1601 0,.agg [.int .i64 r.2.1.kind,.int .i64 r.2.1.value,.own 1504,.own 1505],.int .i64 r.2.2]) [(1501,⟨List.map AD r.1.origins,some 1,0,.no⟩),(1502,⟨List.map AD r.1.times,some 1,0,.no⟩),(1503,⟨List.map Be r.1.labels,some 1,0,.no⟩),(1504,⟨List.map AD r.2.1.data,some 1,0,.no⟩),(1505,⟨List.map Core.ds r.2.1.kids,some 4,0,.no⟩)] [(1601,[.ro (r.1.net.agents.map Agent.ds),.int .i64 r.1.entered,.int .i64 r.1.nodes,.own 1501,.own 1502,.own 1503])] :=by
 unfold Hw at h
 refine agF func61 mixed (h:=Z ?_)
 refine AK ?_
 replace h:=AB h; obtain⟨u,w,h⟩:=h
 refine AL (H6 _ _ w) (Z ?_)
 refine AK ?_
 refine aK (fun y=>?_) (fun y=>?_)
 ·rw [hc] at w
  cases w
  cases y
 ·replace h:=ifF (c:=(!u)) y h
  try simp only [go_sem]
  refine AK ?_
  refine AW [] .fin (by kernel_rfl) (Z ?_)
  replace h:=AB h; obtain⟨q,g,h⟩:=h
  have F:=G7 g
  obtain⟨v,C,p⟩:=F
  refine BH (by refine⟨?_,?_,?_⟩ <;> omega) (Z ?_)
  refine BO .no (Z ?_)
  refine Ar (q.map AD) (by rw [← p]; simp only [List.map_replicate,go_sem,slD]) (Z ?_)
  refine AK ?_
  replace h:=AB h; obtain⟨j,k,h⟩:=h
  refine AL (C5 _ _ _ k) (Z ?_)
  replace h:=AB h; obtain⟨b,d,h⟩:=h
  refine caG ⟨[(3000080064,.nils,some 1),(3000080065,.nils,some 1)],[(1001,3000080064),(1002,64064),(1003,3000080065)],[(1,4006,0)],(r5 1501 80064 []),[],true⟩ (QH fuel _ _ _ _ _ _ d) (Z ?_)
  refine AK ?_
  refine AW [false,false,false,false,true,true] (Tr.sq [4,5] .fin) (by kernel_rfl) (Z ?_)
  exact AF trivial h
theorem XY (a0:Net) (hc:EA a0=some false):AG prog 61 [.agg [.ro (a0.agents.map Agent.ds)]] [] [] (.tup [.nilp,.agg [.int .i64 0,.int .i64 0,.nils,.nils],.int .i64 1]) [] [] :=by
 refine agF func61 mixed (h:=Z ?_)
 refine AK ?_
 refine AL (H6 _ _ hc) (Z ?_)
 refine AK ?_
 refine T9 (.done _) [] [] ?_
 simp only [go_sem]
theorem readNet_cases {a0:Net} {v:Reading × Core × Int} (h:Hw a0=some v):EA a0=some true∨(EA a0=some false∧v=(⟨⟨[]⟩,0,0,[],[],[]⟩,⟨0,0,[],[]⟩,1)):=by
 unfold Hw at h
 replace h:=AB h; obtain⟨b,j,h⟩:=h
 cases b with
 |true=>exact .inl j
 |false=>exact .inr ⟨j,(Option.some.inj h).symm⟩
end Go.Proofs.YthenkmapmnkelaaGreatDoor.Ab
