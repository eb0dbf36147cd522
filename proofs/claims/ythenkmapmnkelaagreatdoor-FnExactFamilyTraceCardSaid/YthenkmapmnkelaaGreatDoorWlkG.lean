/- The functions do what their models say. -/
import Derived.Test.YthenkmapmnkelaaGreatDoorModG
import Derived.Test.YthenkmapmnkelaaGreatDoorTi2
import Derived.Test.YthenkmapmnkelaaGreatDoorWlkC
namespace Go.Proofs.YthenkmapmnkelaaGreatDoor.Ab
set_option linter.defProp false
set_option linter.unusedVariables false
set_option linter.unusedSimpArgs false
set_option maxRecDepth 20000
set_option maxHeartbeats 4000000
open Go.RowKit _root_.Go.Proofs.Tryz
theorem Bm (a0 a1 a2 a3 a4 a5 r) (h:Af a0 a1 a2 a3 a4 a5=some r):AG prog 70 [.box 1 0,.int .i64 a1,.int .i64 a2,.int .i64 a3,.ro (a4.map AD),.int .i64 a5] [(1001,⟨List.map Agent.dm a0.net.agents,some 5,0,.yes⟩)] [(2,[.mpc (.int .i64) (a0.removed.map prB)]),(1,[.own 1001,.ro (a0.book.map Net.ds),.mpr 2])] (.int .i64 r.1) [(1501,⟨List.map Agent.dm r.2.net.agents,some 5,0,.yes⟩)] [(1,[.own 1501,.ro (a0.book.map Net.ds),.mpr 2]),(2,[.mpc (.int .i64) (r.2.removed.map prB)])] :=by
 unfold Af at h
 refine agF func70 mixed (h:=Z ?_)
 refine AW [false,false,false,false,false,false,false,false,false,false,false,false,false,false,false,true,true,true,true,true] (Tr.sq [15,16,17,18,19] .fin) (by kernel_rfl) (Z ?_)
 replace h:=AB h; obtain⟨u,w,h⟩:=h
 refine IW (Ig _ _ w) (by (first|rfl|(simp only [go_sem]; rfl))) (by first|rfl|(simp only [go_sem])) (Z ?_)
 replace h:=AB h; obtain⟨y,q,h⟩:=h
 have C:=G7 q
 obtain⟨I,G,v⟩:=C
 refine BH (by refine⟨?_,?_,?_⟩ <;> omega) (Z ?_)
 refine BO .no (Z ?_)
 refine Ar (y.map Port.ds) (by rw [← v]; simp only [List.map_replicate,go_sem,Port.ds_eq]) (Z ?_)
 replace h:=AB h; obtain⟨g,j,h⟩:=h
 have C:=AT j
 obtain⟨F,p⟩:=C
 refine BO .yes (Z ?_)
 refine By (Z ?_)
 refine Ar (g.map Agent.dm) (by rw [← p]; simp only [List.map_append,List.map_cons,List.map_nil,List.nil_append,List.append_nil,go_sem,Agent.ds_eq,Agent.dm_eq]) (Z ?_)
 exact AF trivial h
theorem Jj (n:Nat):(∀p v u w y q r,A5 n p v u w y q=some r→BK prog f68 [1,1,1,1,1,1,1,1,0] (.tup []) [(1501,⟨List.map Agent.dm r.net.agents,some 5,0,.yes⟩)] [(1,[.own 1501,.ro (p.book.map Net.ds),.mpr 2]),(2,[.mpc (.int .i64) (r.removed.map prB)])] ⟨[(0,.box 1 0),(2,.int .i64 v),(100,.own 1000002001),(101,.int .i64 (u.length:Int)),(102,.int .i64 q)],[(1000002000,some ⟨List.map Agent.dm y,some 5,0,.yes⟩),(1000002001,some ⟨List.map AD u,some 1,0,.no⟩)],[(2,some [.mpc (.int .i64) (w.map prB)]),(1,some [.own 1000002000,.ro (p.book.map Net.ds),.mpr 2])]⟩):=by
 induction n with
 |zero=>exact((fun _ _ _ _ _ _ _ h=>by rw [A5] at h; cases h))
 | succ n ih=>
  have C:=ih
  ·intro p v u w y q r h
   rw [A5] at h
   refine AM rfl rfl (Z ?_)
   refine Ai (Z ?_)
   refine AI h (fun h=>Z ?_) (fun h=>Z ?_)
   ·refine AK ?_
    replace h:=AB h; obtain⟨g,j,h⟩:=h
    refine AS j rfl (Z ?_)
    refine AX (AP j) (Z ?_)
    replace h:=AB h; obtain⟨k,b,h⟩:=h
    refine caG ⟨[],[(1001,1000002000)],[(1,1,0),(2,2,0)],[(1501,272112)],[],true⟩ (Am _ _ _ _ b) (Z ?_)
    exact AF (k1 C) h
   ·exact AF trivial h
theorem Jk (n:Nat):(∀C I F u w y q g j k r,Ak n C I F u w y q g j k=some r→BK prog f68 [1,1,1,1,0,1,0] (.tup []) [(1501,⟨List.map Agent.dm r.net.agents,some 5,0,.yes⟩)] [(1,[.own 1501,.ro (C.book.map Net.ds),.mpr 2]),(2,[.mpc (.int .i64) (r.removed.map prB)])] ⟨[(0,.box 1 0),(1,.int .i64 I),(2,.int .i64 F),(6,.box 1000001500 0),(7,.int .i64 w.1),(8,.int .i64 y.1),(9,.own 1000001001),(10,.int .i64 k)],[(1000001000,some ⟨List.map Agent.dm g,some 5,0,.yes⟩),(1000001001,some ⟨List.map AD j,some 1,0,.no⟩)],[(2,some [.mpc (.int .i64) (q.map prB)]),(1,some [.own 1000001000,.ro (C.book.map Net.ds),.mpr 2]),(1000001500,some [.int .i64 u.kind,.int .i64 u.level,.int .i64 u.value,.ro (u.data.map AD),.ro (List.replicate (List.length u.ports) [])])]⟩):=by
 induction n with
 |zero=>exact((fun _ _ _ _ _ _ _ _ _ _ _ h=>by rw [Ak] at h; cases h))
 | succ n ih=>
  have G:=ih
  ·intro C I F u w y q g j k r h
   rw [Ak] at h
   refine AM rfl rfl (Z ?_)
   refine Ai (Z ?_)
   refine AI h (fun h=>Z ?_) (fun h=>Z ?_)
   ·refine AK ?_
    replace h:=AB h; obtain⟨b,d,h⟩:=h
    refine AS d (Agent.dm_len _) (Z ?_)
    refine AX (AP d) (Z ?_)
    replace h:=AB h; obtain⟨c,e,h⟩:=h
    refine caG ⟨[],[(1001,1000001000)],[(1,1,0),(2,2,0)],[(1501,128160)],[],true⟩ (Bm _ _ _ _ _ _ _ e) (Z ?_)
    refine AK ?_
    replace h:=AB h; obtain⟨i,l,h⟩:=h
    refine caG ⟨[],[(1001,128160)],[(1,1,0)],[(1501,144128)],[],true⟩ (Fq _ _ _ _ l) (Z ?_)
    refine AK ?_
    replace h:=AB h; obtain⟨t,s,h⟩:=h
    refine caG ⟨[],[(1001,144128)],[(1,1,0)],[(1501,160128)],[],true⟩ (Fq _ _ _ _ s) (Z ?_)
    refine AK ?_
    replace h:=AB h; obtain⟨o,z,h⟩:=h
    have J:=AT z
    obtain⟨v,p⟩:=J
    refine BO .no (Z ?_)
    refine By (Z ?_)
    refine F0 AD p (Z ?_)
    exact AF (k1 G) h
   ·refine AK ?_
    replace h:=AB h; obtain⟨W,O,h⟩:=h
    refine caG ⟨[],[(1001,1000001000)],[(1,1,0),(2,2,0)],[(1501,192080)],[],true⟩ (Am _ _ _ _ O) (Z ?_)
    refine AK ?_
    replace h:=AB h; obtain⟨Y,U,h⟩:=h
    refine caG ⟨[],[(1001,192080)],[(1,1,0),(2,2,0)],[(1501,208080)],[],true⟩ (Am _ _ _ _ U) (Z ?_)
    exact AF (k1 Jj) h
theorem LD (a0 a1 a2 r) (h:DB a0 a1 a2=some r):AG prog 68 [.box 1 0,.int .i64 a1,.int .i64 a2] [(1001,⟨List.map Agent.dm a0.net.agents,some 5,0,.yes⟩)] [(2,[.mpc (.int .i64) (a0.removed.map prB)]),(1,[.own 1001,.ro (a0.book.map Net.ds),.mpr 2])] (.tup []) [(1501,⟨List.map Agent.dm r.net.agents,some 5,0,.yes⟩)] [(1,[.own 1501,.ro (a0.book.map Net.ds),.mpr 2]),(2,[.mpc (.int .i64) (r.removed.map prB)])] :=by
 unfold DB at h
 refine agF func68 mixed (h:=Z ?_)
 replace h:=AB h; obtain⟨u,w,h⟩:=h
 refine AS w (Agent.dm_len _) (Z ?_)
 refine AX (AP w) (Z ?_)
 refine Wt (.chdr 1008 4 1001 0 (List.length u.ports) [(5,Int.toNat a2,4)] _ (u.ports.map Port.ds) (by (first|rfl|(simp only [go_sem]; rfl))) (by rfl) (W0 (tk:=⟨List.map Agent.dm a0.net.agents,some 5,0,.yes⟩) (by (first|rfl|(simp only [go_sem]; rfl))) rfl (Es (sz:=5) (j:=4) (r:=List.map Port.ds u.ports) (AP (f:=Agent.dm) w) (Agent.dm_len _) (by rw [Agent.dm_eq]; rfl))) (List.length_map _) (.done _)) (Z ?_)
 all_goals try rfl
 replace h:=AB h; obtain⟨y,q,h⟩:=h
 refine caG ⟨[],[(1001,1001)],[(1,1,0),(2,2,0)],[(1501,32192)],[],true⟩ (Bm _ _ _ _ _ _ _ q) (Z ?_)
 refine AK ?_
 replace h:=AB h; obtain⟨g,k,h⟩:=h
 refine caG ⟨[],[(1001,32192)],[(1,1,0),(2,2,0)],[(1501,48192)],[],true⟩ (Bm _ _ _ _ _ _ _ k) (Z ?_)
 refine AK ?_
 refine CH (DL rfl rfl (Jk fuel a0 a1 a2 u y g g.2.removed g.2.net.agents [] 1 _ h):) (.one ⟨_,.slot 9 2000000000 (some 1) .no (by simp only [go_sem]) (by simp only [go_sem]) (.done _),[(1000001000,48192),(1000001001,2000000000)],[(2,2),(1,1),(1000001500,1008)],?_⟩)
 simp only [go_sem]
 all_goals try rfl
theorem Ue (a0 r) (h:H4 a0=some r):AC prog 112 [.bool a0] (.int .i64 r):=by
 unfold H4 at h
 refine acF func112 mixed (h:=Z ?_)
 exact AF trivial h
theorem G1 (a0 r) (h:EP a0=some r):AC prog 144 [.int .i64 a0] (.int .i64 r):=by
 unfold EP at h
 refine acF func144 mixed (h:=Z ?_)
 exact AF trivial h
theorem Xa (a0 a1 a2 r) (h:GH a0 a1 a2=some r):AC prog 111 [.int .i64 a0,.int .i64 a1,.int .i64 a2] (.int .i64 r):=by
 unfold GH at h
 refine acF func111 mixed (h:=Z ?_)
 replace h:=AB h; obtain⟨u,w,h⟩:=h
 refine AL (G1 _ _ w) (Z ?_)
 replace h:=AB h; obtain⟨y,q,h⟩:=h
 refine AL (G1 _ _ q) (Z ?_)
 refine AK ?_
 refine AI h (fun h=>Z ?_) (fun h=>Z ?_)
 ·exact AF (k1 G1) h
 ·refine AI h (fun h=>Z ?_) (fun h=>Z ?_)
  ·exact AF (k1 G1) h
  ·refine AI h (fun h=>Z ?_) (fun h=>Z ?_)
   ·exact AF (k1 G1) h
   ·refine AI h (fun h=>Z ?_) (fun h=>Z ?_)
    ·refine AI h (fun h=>Z ?_) (fun h=>Z ?_)
     ·exact AF trivial h
     ·refine AK ?_
      replace h:=AB h; obtain⟨e,i,h⟩:=h
      refine BH (Nc i) (Z ?_)
      exact AF (k1 G1) h
    ·exact AF (k1 Ue) h
theorem L7 (a0 a1 a2 r) (h:Cw a0 a1 a2=some r):AG prog 71 [.box 1 0,.int .i64 a1,.int .i64 a2] [(1001,⟨List.map Agent.dm a0.net.agents,some 5,0,.yes⟩)] [(2,[.mpc (.int .i64) (a0.removed.map prB)]),(1,[.own 1001,.ro (a0.book.map Net.ds),.mpr 2])] (.tup []) [(1501,⟨List.map Agent.dm r.net.agents,some 5,0,.yes⟩)] [(1,[.own 1501,.ro (a0.book.map Net.ds),.mpr 2]),(2,[.mpc (.int .i64) (r.removed.map prB)])] :=by
 unfold Cw at h
 refine agF func71 mixed (h:=Z ?_)
 refine AW [false,false,false,false,false,false,false,false,false,false,false,false,false,false,false,false,false,false,false,true] (Tr.sq [19] .fin) (by kernel_rfl) (Z ?_)
 replace h:=AB h; obtain⟨u,w,h⟩:=h
 refine AS w (Agent.dm_len _) (Z ?_)
 refine AX (AP w) (Z ?_)
 replace h:=AB h; obtain⟨y,q,h⟩:=h
 refine AS q (Agent.dm_len _) (Z ?_)
 refine AX (AP q) (Z ?_)
 refine AK ?_
 refine AI h (fun h=>Z ?_) (fun h=>Z ?_)
 ·replace h:=AB h; obtain⟨g,j,h⟩:=h
  refine aT [3006] ⟨[],[(1001,1001)],[(1,1,0),(2,2,0)],[(1501,48112)],[],true⟩ (by kernel_rfl) (Bm _ _ _ _ _ _ _ j) (by kernel_rfl) (Z ?_)
  refine AK ?_
  replace h:=AB h; obtain⟨k,b,h⟩:=h
  refine caG ⟨[],[(1001,48112)],[(1,1,0),(2,2,0)],[(1501,64080)],[],true⟩ (Am _ _ _ _ b) (Z ?_)
  refine AK ?_
  replace h:=AB h; obtain⟨d,c,h⟩:=h
  refine caG ⟨[],[(1001,64080)],[(1,1,0),(2,2,0)],[(1501,80080)],[],true⟩ (Am _ _ _ _ c) (Z ?_)
  exact AF trivial h
 ·refine AK ?_
  refine AW [false,false,false,false,false,false,false,false,false,false,false,false,true,true,true] (Tr.sq [12,13,14] .fin) (by kernel_rfl) (Z ?_)
  replace h:=AB h; obtain⟨e,i,h⟩:=h
  refine AS i rfl (Z ?_)
  replace h:=AB h; obtain⟨l,t,h⟩:=h
  refine AL (Xa _ _ _ _ t) (Z ?_)
  replace h:=AB h; obtain⟨s,o,h⟩:=h
  refine caG ⟨[],[(1001,1001)],[(1,1,0),(2,2,0)],[(1501,96192)],[],true⟩ (Bm _ _ _ _ _ _ _ o) (Z ?_)
  replace h:=AB h; obtain⟨z,p,h⟩:=h
  refine caG ⟨[],[(1001,96192)],[(1,1,0),(2,2,0)],[(1501,96224)],[],true⟩ (Am _ _ _ _ p) (Z ?_)
  exact AF trivial h
theorem LG (n:Nat):(∀p C v u w y q g j r,BB n p C v u w y q g j=some r→BK prog f72 [1,1,1,1,1,0,1,0] (.tup []) [(1501,⟨List.map Agent.dm r.net.agents,some 5,0,.yes⟩)] [(1,[.own 1501,.ro (p.book.map Net.ds),.mpr 2]),(2,[.mpc (.int .i64) (r.removed.map prB)])] ⟨[(0,.box 1 0),(1,.int .i64 C),(2,.int .i64 v),(8,.box 1000004500 0),(84,.own 1000004001),(85,.int .i64 (y.length:Int)),(86,.int .i64 j)],[(1000004000,some ⟨List.map Agent.dm g,some 5,0,.yes⟩),(1000004001,some ⟨List.map AD y,some 1,0,.no⟩)],[(2,some [.mpc (.int .i64) (q.map prB)]),(1,some [.own 1000004000,.ro (p.book.map Net.ds),.mpr 2]),(1000004500,some [.int .i64 u,.int .i64 w])]⟩):=by
 induction n with
 |zero=>exact((fun _ _ _ _ _ _ _ _ _ _ h=>by rw [BB] at h; cases h))
 | succ n ih=>
  have F:=ih
  ·intro p C v u w y q g j r h
   rw [BB] at h
   refine AM rfl rfl (Z ?_)
   refine Ai (Z ?_)
   refine AI h (fun h=>Z ?_) (fun h=>Z ?_)
   ·refine AK ?_
    replace h:=AB h; obtain⟨k,b,h⟩:=h
    refine AS b rfl (Z ?_)
    refine AX (AP b) (Z ?_)
    replace h:=AB h; obtain⟨d,c,h⟩:=h
    refine caG ⟨[],[(1001,1000004000)],[(1,1,0),(2,2,0)],[(1501,256112)],[],true⟩ (Am _ _ _ _ c) (Z ?_)
    exact AF (k1 F) h
   ·refine AK ?_
    replace h:=AB h; obtain⟨e,i,h⟩:=h
    refine caG ⟨[],[(1001,1000004000)],[(1,1,0),(2,2,0)],[(1501,288064)],[],true⟩ (Am _ _ _ _ i) (Z ?_)
    exact AF trivial h
theorem LH (n:Nat):(∀C I F u w y q g j k b r,BS n C I F u w y q g j k b=some r→BK prog f72 [1,1,1,1,0,1,0] (.tup []) [(1501,⟨List.map Agent.dm r.net.agents,some 5,0,.yes⟩)] [(1,[.own 1501,.ro (C.book.map Net.ds),.mpr 2]),(2,[.mpc (.int .i64) (r.removed.map prB)])] ⟨[(0,.box 1 0),(1,.int .i64 I),(2,.int .i64 F),(7,.box 1000002500 0),(8,.box 1000002501 0),(9,.own 1000002001),(63,.int .i64 (IntKind.i64.wrap ((((List.length u.ports):Nat):Int) - 1))),(64,.int .i64 b)],[(1000002000,some ⟨List.map Agent.dm q,some 5,0,.yes⟩),(1000002001,some ⟨List.map AD k,some 1,0,.no⟩)],[(2,some [.mpc (.int .i64) (y.map prB)]),(1,some [.own 1000002000,.ro (C.book.map Net.ds),.mpr 2]),(1000002500,some [.int .i64 w.kind,.int .i64 w.level,.int .i64 w.value,.ro (w.data.map AD),.ro (List.replicate (List.length w.ports) [])]),(1000002501,some [.int .i64 g,.int .i64 j])]⟩):=by
 induction n with
 |zero=>exact((fun _ _ _ _ _ _ _ _ _ _ _ _ h=>by rw [BS] at h; cases h))
 | succ n ih=>
  have G:=ih
  ·intro C I F u w y q g j k b r h
   rw [BS] at h
   refine AM rfl rfl (Z ?_)
   refine Ai (Z ?_)
   refine AI h (fun h=>Z ?_) (fun h=>Z ?_)
   ·refine AK ?_
    replace h:=AB h; obtain⟨d,c,h⟩:=h
    refine caG ⟨[],[(1001,1000002000)],[(1,1,0),(2,2,0)],[(1501,128048)],[],true⟩ (Bm _ _ _ _ _ _ _ c) (Z ?_)
    refine AK ?_
    refine AW [false,false,false,false,false,false,true] (Tr.sq [6] .fin) (by kernel_rfl) (Z ?_)
    replace h:=AB h; obtain⟨e,i,h⟩:=h
    refine caG ⟨[],[(1001,128048)],[(1,1,0)],[(1501,144096)],[],true⟩ (Fq _ _ _ _ i) (Z ?_)
    refine AK ?_
    replace h:=AB h; obtain⟨l,t,h⟩:=h
    have J:=AT t
    obtain⟨v,p⟩:=J
    refine BO .no (Z ?_)
    refine By (Z ?_)
    refine F0 AD p (Z ?_)
    exact AF (k1 G) h
   ·exact AF (k1 LG) h
theorem LI (a0:Rewriter) (a1:Int) (a2:Int) (u:Agent) (w:Agent) (y:Int × Rewriter) (r:Rewriter) (h:EQ a0 a1 a2 u w y=some r):BK prog f72 [1,1,1] (.tup []) [(1501,⟨List.map Agent.dm r.net.agents,some 5,0,.yes⟩)] [(1,[.own 1501,.ro (a0.book.map Net.ds),.mpr 2]),(2,[.mpc (.int .i64) (r.removed.map prB)])] ⟨[(0,.box 1 0),(1,.int .i64 a1),(2,.int .i64 a2),(6,.box 1000000500 0),(7,.box 1000000501 0),(8,.box 1000000502 0)],[(1000000000,some ⟨List.map Agent.dm y.2.net.agents,some 5,0,.yes⟩)],[(2,some [.mpc (.int .i64) (y.2.removed.map prB)]),(1,some [.own 1000000000,.ro (a0.book.map Net.ds),.mpr 2]),(1000000500,some [.int .i64 u.kind,.int .i64 u.level,.int .i64 u.value,.ro (u.data.map AD),.ro (List.replicate (List.length u.ports) [])]),(1000000501,some [.int .i64 w.kind,.int .i64 w.level,.int .i64 w.value,.ro (w.data.map AD),.ro (List.replicate (List.length w.ports) [])]),(1000000502,some [.int .i64 y.1,.int .i64 0])]⟩:=by
 unfold EQ at h
 refine AM rfl rfl (Z ?_)
 refine CH (DL rfl rfl (LH fuel a0 a1 a2 u w y.2.removed y.2.net.agents y.1 0 [] 0 _ h):) (.one ⟨_,.slot 9 2000000000 (some 1) .no (by simp only [go_sem]) (by simp only [go_sem]) (.done _),[(1000002000,1000000000),(1000002001,2000000000)],[(2,2),(1,1),(1000002500,1000000501),(1000002501,1000000502)],?_⟩)
 simp only [go_sem]
 all_goals try rfl
theorem NI (a0 a1 a2 r) (h:B7 a0 a1 a2=some r):AG prog 72 [.box 1 0,.int .i64 a1,.int .i64 a2] [(1001,⟨List.map Agent.dm a0.net.agents,some 5,0,.yes⟩)] [(2,[.mpc (.int .i64) (a0.removed.map prB)]),(1,[.own 1001,.ro (a0.book.map Net.ds),.mpr 2])] (.tup []) [(1501,⟨List.map Agent.dm r.net.agents,some 5,0,.yes⟩)] [(1,[.own 1501,.ro (a0.book.map Net.ds),.mpr 2]),(2,[.mpc (.int .i64) (r.removed.map prB)])] :=by
 unfold B7 at h
 refine agF func72 mixed (h:=Z ?_)
 refine gP [] [(16,18),(17,19)] .fin (by kernel_rfl) (Z ?_)
 replace h:=AB h; obtain⟨u,w,h⟩:=h
 refine AS w (Agent.dm_len _) (Z ?_)
 refine AX (AP w) (Z ?_)
 replace h:=AB h; obtain⟨y,q,h⟩:=h
 refine AS q (Agent.dm_len _) (Z ?_)
 refine AX (AP q) (Z ?_)
 refine cH _ (by rfl) (by (first|(simp only [go_sem]; done)|(simp only [go_sem]; decide)|decide)) (by rfl) (Z ?_)
 refine cH _ (by rfl) (by (first|(simp only [go_sem]; done)|(simp only [go_sem]; decide)|decide)) (by rfl) (Z ?_)
 refine l5 (by refine⟨by rfl,by rfl,trivial⟩) (Z ?_)
 refine Wt (.chdr 1016 4 1001 0 (List.length u.ports) [(5,Int.toNat a1,4)] _ (u.ports.map Port.ds) (by (first|rfl|(simp only [go_sem]; rfl))) (by rfl) (W0 (tk:=⟨List.map Agent.dm a0.net.agents,some 5,0,.yes⟩) (by (first|rfl|(simp only [go_sem]; rfl))) rfl (Es (sz:=5) (j:=4) (r:=List.map Port.ds u.ports) (AP (f:=Agent.dm) w) (Agent.dm_len _) (by rw [Agent.dm_eq]; rfl))) (List.length_map _) (.chdr 1017 4 1001 0 (List.length y.ports) [(5,Int.toNat a2,4)] _ (y.ports.map Port.ds) (by (first|rfl|(simp only [go_sem]; rfl))) (by rfl) (W0 (tk:=⟨List.map Agent.dm a0.net.agents,some 5,0,.yes⟩) (by (first|rfl|(simp only [go_sem]; rfl))) rfl (Es (sz:=5) (j:=4) (r:=List.map Port.ds y.ports) (AP (f:=Agent.dm) q) (Agent.dm_len _) (by rw [Agent.dm_eq]; rfl))) (List.length_map _) (.done _))) (Z ?_)
 all_goals try rfl
 refine AI h (fun h=>Z ?_) (fun h=>Z ?_)
 ·refine AW [false,false,false,false,false,false,false,false,false,false,false,false,false,false,true,true,true] (Tr.sq [14,15,16] .fin) (by kernel_rfl) (Z ?_)
  replace h:=AB h; obtain⟨g,k,h⟩:=h
  refine AL (Ue _ _ k) (Z ?_)
  replace h:=AB h; obtain⟨b,d,h⟩:=h
  refine AS d rfl (Z ?_)
  replace h:=AB h; obtain⟨c,e,h⟩:=h
  refine caG ⟨[],[(1001,1001)],[(1,1,0),(2,2,0)],[(1501,48224)],[],true⟩ (Bm _ _ _ _ _ _ _ e) (Z ?_)
  replace h:=AB h; obtain⟨i,l,h⟩:=h
  refine caG ⟨[],[(1001,48224)],[(1,1,0),(2,2,0)],[(1501,48256)],[],true⟩ (Am _ _ _ _ l) (Z ?_)
  exact AF trivial h
 ·refine AK ?_
  replace h:=AB h; obtain⟨t,s,h⟩:=h
  replace h:=AB h; obtain⟨o,z,h⟩:=h
  refine AW [false,false,true,false,true,false,true,true,true,true,true,true,true] (.br 2 (.br 4 (.br 6 (Tr.sq [7] (.br 8 (.br 9 (Tr.sq [10,11,12] .fin) (.br 11 (Tr.sq [9,10,12] .fin) .stop)) (.br 11 (Tr.sq [8,9,10,12] .fin) .stop))) (.br 11 (Tr.sq [6,7,8,9,10,12] .fin) .stop)) (.br 6 (.br 4 (Tr.sq [7] (.br 8 (.br 9 (Tr.sq [10,11,12] .fin) (.br 11 (Tr.sq [9,10,12] .fin) .stop)) (.br 11 (Tr.sq [8,9,10,12] .fin) .stop))) (.br 11 (Tr.sq [4,7,8,9,10,12] .fin) .stop)) (.br 11 (.br 4 (Tr.sq [6,7,8,9,10,12] .fin) (.br 6 (Tr.sq [4,7,8,9,10,12] .fin) .stop)) .stop))) (.br 4 (.br 2 (.br 6 (Tr.sq [7] (.br 8 (.br 9 (Tr.sq [10,11,12] .fin) (.br 11 (Tr.sq [9,10,12] .fin) .stop)) (.br 11 (Tr.sq [8,9,10,12] .fin) .stop))) (.br 11 (Tr.sq [6,7,8,9,10,12] .fin) .stop)) (.br 6 (Tr.sq [7] (.br 2 (.br 8 (.br 9 (Tr.sq [10,11,12] .fin) (.br 11 (Tr.sq [9,10,12] .fin) .stop)) (.br 11 (Tr.sq [8,9,10,12] .fin) .stop)) (.br 8 (.br 2 (.br 9 (Tr.sq [10,11,12] .fin) (.br 11 (Tr.sq [9,10,12] .fin) .stop)) (.br 11 (Tr.sq [2,9,10,12] .fin) .stop)) (.br 11 (.br 2 (Tr.sq [8,9,10,12] .fin) (.br 8 (Tr.sq [2,9,10,12] .fin) .stop)) .stop)))) (.br 11 (.br 2 (Tr.sq [6,7,8,9,10,12] .fin) (.br 6 (Tr.sq [7] (.br 2 (Tr.sq [8,9,10,12] .fin) (.br 8 (Tr.sq [2,9,10,12] .fin) .stop))) .stop)) .stop))) (.br 6 (.br 2 (.br 4 (Tr.sq [7] (.br 8 (.br 9 (Tr.sq [10,11,12] .fin) (.br 11 (Tr.sq [9,10,12] .fin) .stop)) (.br 11 (Tr.sq [8,9,10,12] .fin) .stop))) (.br 11 (Tr.sq [4,7,8,9,10,12] .fin) .stop)) (.br 4 (Tr.sq [7] (.br 2 (.br 8 (.br 9 (Tr.sq [10,11,12] .fin) (.br 11 (Tr.sq [9,10,12] .fin) .stop)) (.br 11 (Tr.sq [8,9,10,12] .fin) .stop)) (.br 8 (.br 2 (.br 9 (Tr.sq [10,11,12] .fin) (.br 11 (Tr.sq [9,10,12] .fin) .stop)) (.br 11 (Tr.sq [2,9,10,12] .fin) .stop)) (.br 11 (.br 2 (Tr.sq [8,9,10,12] .fin) (.br 8 (Tr.sq [2,9,10,12] .fin) .stop)) .stop)))) (.br 11 (.br 2 (Tr.sq [4,7,8,9,10,12] .fin) (.br 4 (Tr.sq [7] (.br 2 (Tr.sq [8,9,10,12] .fin) (.br 8 (Tr.sq [2,9,10,12] .fin) .stop))) .stop)) .stop))) (.br 11 (.br 2 (.br 4 (Tr.sq [6,7,8,9,10,12] .fin) (.br 6 (Tr.sq [4,7,8,9,10,12] .fin) .stop)) (.br 4 (.br 2 (Tr.sq [6,7,8,9,10,12] .fin) (.br 6 (Tr.sq [7] (.br 2 (Tr.sq [8,9,10,12] .fin) (.br 8 (Tr.sq [2,9,10,12] .fin) .stop))) .stop)) (.br 6 (.br 2 (Tr.sq [4,7,8,9,10,12] .fin) (.br 4 (Tr.sq [7] (.br 2 (Tr.sq [8,9,10,12] .fin) (.br 8 (Tr.sq [2,9,10,12] .fin) .stop))) .stop)) .stop))) .stop)))) (by kernel_rfl) ?_
  try simp only [go_sem]
  repeat' first|((with_reducible show aM _ _ _ _); refine Yc (Z ?_) (Z ?_))|((with_reducible show eP _ _ _ _ _); refine AS s rfl (Z ?_))
  all_goals
   refine caG ⟨[],[(1001,1001)],[(1,1,0),(2,2,0)],[(1501,64144)],[],true⟩ (Bm _ _ _ _ _ _ _ z) (Z ?_)
   exact AF (k1 LI) h
theorem Jo (n:Nat):(∀p C u w y q g r,Al n p C u w y q g=some r→BK prog f73 [1,1,1,0,1,0] (.tup []) [(1501,⟨List.map Agent.dm r.net.agents,some 5,0,.yes⟩)] [(1,[.own 1501,.ro (p.book.map Net.ds),.mpr 2]),(2,[.mpc (.int .i64) (r.removed.map prB)])] ⟨[(0,.box 1 0),(2,.int .i64 C),(8,.int .i64 (IntKind.i64.wrap ((p.net.agents.length:Int) - 1))),(9,.box 1000005500 0),(52,.own 1000005001),(53,.int .i64 (w.length:Int)),(54,.int .i64 g)],[(1000005000,some ⟨List.map Agent.dm y,some 5,0,.yes⟩),(1000005001,some ⟨List.map HAgent.ds q,none,0,.no⟩)],[(2,some [.mpc (.int .i64) (p.removed.map prB)]),(1,some [.own 1000005000,.ro (p.book.map Net.ds),.mpr 2]),(1000005500,some [.int .i64 u.agent,.int .i64 u.slot])]⟩)∧
    (∀p C y q g u w j k b r,BI n p C y q g u w j k b=some r→BK prog f73 [1,1,1,0,1,0,0,1,1,0,0,1,0,1,0] (.tup []) [(1501,⟨List.map Agent.dm r.net.agents,some 5,0,.yes⟩)] [(1,[.own 1501,.ro (p.book.map Net.ds),.mpr 2]),(2,[.mpc (.int .i64) (r.removed.map prB)])] ⟨[(0,.box 1 0),(2,.int .i64 C),(8,.int .i64 (IntKind.i64.wrap ((p.net.agents.length:Int) - 1))),(9,.box 1000009500 0),(11,.box 1000009501 0),(52,.own 1000009002),(53,.int .i64 (w.length:Int)),(54,.int .i64 g),(60,.int .i64 (j.ports.length:Int)),(61,.int .i64 b)],[(1000009000,some ⟨List.map Agent.dm y,some 5,0,.yes⟩),(1000009001,some ⟨List.map Port.ds k,none,0,.no⟩),(1000009002,some ⟨List.map HAgent.ds (List.set q (Int.toNat g) (HAgent.gone j)),none,0,.no⟩)],[(2,some [.mpc (.int .i64) (p.removed.map prB)]),(1,some [.own 1000009000,.ro (p.book.map Net.ds),.mpr 2]),(1000009500,some [.int .i64 u.agent,.int .i64 u.slot]),(1000009501,some [.int .i64 j.kind,.int .i64 j.level,.int .i64 j.value,.ro (j.data.map AD),.own 1000009001])]⟩):=by
 induction n with
 |zero=>exact⟨(fun _ _ _ _ _ _ _ _ h=>by rw [Al] at h; cases h),(fun _ _ _ _ _ _ _ _ _ _ _ h=>by rw [BI] at h; cases h)⟩
 | succ n ih=>
  obtain⟨I,G⟩:=ih
  refine⟨?_,?_⟩
  ·intro p C u w y q g r h
   rw [Al] at h
   refine AM rfl rfl (Z ?_)
   refine Ai (Z ?_)
   refine AI h (fun h=>Z ?_) (fun h=>Z ?_)
   ·refine AK ?_
    replace h:=AB h; obtain⟨c,e,h⟩:=h
    refine AS e (HAgent.ds_len _) (Z ?_)
    replace h:=AB h; obtain⟨j,i,h⟩:=h
    replace i:=HAgent.full_some i
    subst i
    have i:=e
    refine AX (AP i) (Z ?_)
    refine Wt (.ctake 6002 3 1000005001 4000000800 0 _ [(5,Int.toNat g,3)] ⟨(q.map HAgent.ds),none,0,.no⟩ (j.data.map AD) (by simp only [go_sem]; rfl) (by rfl) (by (first|rfl|(simp only [go_sem]; rfl))) rfl (Es (r:=(j.data.map AD)) (AP (f:=HAgent.ds) i) (HAgent.ds_len _) (by rw [HAgent.ds_full]; rfl)) (by simp) (by decide) (by simp only [go_sem]) (.ctake 6002 4 1000005001 4000000801 0 _ [(5,Int.toNat g,4)] ⟨(putR [(5,Int.toNat g,3)] (q.map HAgent.ds) .gone),none,0,.no⟩ (j.ports.map Port.ds) (by simp only [go_sem]; rfl) (by rfl) (by (first|rfl|(simp only [go_sem]; rfl))) rfl (Es (r:=(j.ports.map Port.ds)) (lF (sz:=5) (d:=.gone) (AP (f:=HAgent.ds) i) (d':=.sl (j.data.map AD)) (by rw [HAgent.ds_full]; rfl)) (by simp only [List.length_set]; exact(HAgent.ds_len _)) (by rw [HAgent.ds_full]; rfl)) (by simp) (by decide) (by simp only [go_sem]) (.fT 4000000800 [] [(6002,3)] (k:=.done _)))) ?_
    try simp only [HAgent.puts i]
    try simp only [go_sem]
    all_goals try rfl
    exact AF (k1 G) h
   ·refine AK ?_
    refine AW [false,false,false,false,false,false,false,false,false,false,false,false,true] (Tr.sq [12] .fin) (by kernel_rfl) (Z ?_)
    replace h:=AB h; obtain⟨l,t,h⟩:=h
    refine caG ⟨[],[(1001,1000005000)],[(1,1,0)],[(1501,224192)],[],true⟩ (Fq _ _ _ _ t) (Z ?_)
    exact AF trivial h
  ·intro p C y q g u w j k b r h
   rw [BI] at h
   refine AM rfl rfl (Z ?_)
   refine Ai (Z ?_)
   refine AI h (fun h=>Z ?_) (fun h=>Z ?_)
   ·refine AK ?_
    replace h:=AB h; obtain⟨s,o,h⟩:=h
    refine AS o (Port.ds_len _) (Z ?_)
    refine AX (AP o) (Z ?_)
    replace h:=AB h; obtain⟨z,O,h⟩:=h
    refine AS O (Port.ds_len _) (Z ?_)
    replace h:=AB h; obtain⟨U,u3,h⟩:=h
    refine AX (AP O) (Z ?_)
    refine Ar (U.map Port.ds) (by rw [← Ah u3]; simp only [List.map_set,go_sem,Port.ds_eq]) (Z ?_)
    exact AF (k1 G) h
   ·refine AK ?_
    refine AW [false,false,false,false,false,false,false,false,true,true,true,true,true] (Tr.sq [8,9,10,11,12] .fin) (by kernel_rfl) (Z ?_)
    replace h:=AB h; obtain⟨W,Y,h⟩:=h
    have J:=AT Y
    obtain⟨F,v⟩:=J
    refine BO .yes (Z ?_)
    refine By (Z ?_)
    refine Ar (W.map Agent.dm) (by rw [← v]; simp only [List.map_append,List.map_cons,List.map_nil,List.nil_append,List.append_nil,go_sem,Agent.ds_eq,Agent.dm_eq]) (Z ?_)
    exact AF (k1 I) h
def KJ (n:Nat):=(Jo n).1
theorem NJ (a0 a1 a2 r) (h:ER a0 a1 a2=some r):AG prog 73 [.box 1 0,.int .i64 a1,.int .i64 a2] [(1001,⟨List.map Agent.dm a0.net.agents,some 5,0,.yes⟩)] [(2,[.mpc (.int .i64) (a0.removed.map prB)]),(1,[.own 1001,.ro (a0.book.map Net.ds),.mpr 2])] (.tup []) [(1501,⟨List.map Agent.dm r.net.agents,some 5,0,.yes⟩)] [(1,[.own 1501,.ro (a0.book.map Net.ds),.mpr 2]),(2,[.mpc (.int .i64) (r.removed.map prB)])] :=by
 unfold ER at h
 refine agF func73 mixed (h:=Z ?_)
 refine AW [false,false,false,false,false,false,false,false,false,false,false,false,false,false,false,false,false,false,false,false,false,false,false,false,false,false,false,false,false,true,true] (Tr.sq [29,30] .fin) (by kernel_rfl) (Z ?_)
 replace h:=AB h; obtain⟨u,w,h⟩:=h
 refine AS w (Agent.dm_len _) (Z ?_)
 refine AX (AP w) (Z ?_)
 replace h:=AB h; obtain⟨y,q,h⟩:=h
 refine AS q (Net.ds_len _) (Z ?_)
 replace h:=AB h; obtain⟨g,k,h⟩:=h
 refine AS k (Agent.dm_len _) (Z ?_)
 refine AX (AP k) (Z ?_)
 replace h:=AB h; obtain⟨b,d,h⟩:=h
 refine AL (QC _ _ _ d) (Z ?_)
 refine AK ?_
 replace h:=AB h; obtain⟨c,e,h⟩:=h
 refine AL (C5 _ _ _ e) (Z ?_)
 refine AK ?_
 replace h:=AB h; obtain⟨l,t,h⟩:=h
 refine qQ (i:=1) (j:=((List.length b.1.agents :Nat):Int)) (r:=List.map Agent.ds l) (by rfl) (by rfl) (by (first|(simp only [go_sem]; done)|(simp only [go_sem]; rfl)|rfl|(simp only [go_sem]; omega))) (by (first|(simp only [go_sem]; done)|(simp only [go_sem]; rfl)|rfl|(simp only [go_sem]; omega))) (by exact Mj (by intro x; exact(Agent.ds_len _)) _) (by rfl) (by simp only [go_sem,List.length_map]) (Wz t) (by rfl) (Z ?_)
 exact AF (k1 KJ) h
theorem BV (a0:Rewriter) (u:Int × Int × Int × Int) (w:List (Int × Bool)) (y:List Agent) (r:Int × Rewriter) (h:Ac a0 u w y=some r):BK prog f32 [1,1,1,1,1] (.int .i64 r.1) [(1501,⟨List.map Agent.dm r.2.net.agents,some 5,0,.yes⟩)] [(1,[.own 1501,.ro (a0.book.map Net.ds),.mpr 2]),(2,[.mpc (.int .i64) (r.2.removed.map prB)])] ⟨[(0,.box 1 0),(6,.int .i64 u.2.1),(7,.int .i64 u.2.2.1)],[(1000002000,some ⟨List.map Agent.dm y,some 5,0,.yes⟩)],[(2,some [.mpc (.int .i64) (w.map prB)]),(1,some [.own 1000002000,.ro (a0.book.map Net.ds),.mpr 2])]⟩:=by
 unfold Ac at h
 refine AM rfl rfl (Z ?_)
 replace h:=AB h; obtain⟨q,g,h⟩:=h
 refine aT [27003] ⟨[],[(1001,1000002000)],[(1,1,0),(2,2,0)],[(1501,432064)],[],true⟩ (by kernel_rfl) (IT _ _ _ g) (by kernel_rfl) (Z ?_)
 exact AF trivial h
theorem Jp (n:Nat):(∀p u w y q r,Ag n p u w y q=some r→BK prog f32 [1,1,1,1,0,1,0,1,1,1,1,1,0,1,0] (.int .i64 r.1) [(1501,⟨List.map Agent.dm r.2.net.agents,some 5,0,.yes⟩)] [(1,[.own 1501,.ro (p.book.map Net.ds),.mpr 2]),(2,[.mpc (.int .i64) (r.2.removed.map prB)])] ⟨[(0,.box 1 0),(6,.int .i64 u.2.1),(7,.int .i64 u.2.2.1),(9,.int .i64 q)],[(1000003000,some ⟨List.map Agent.dm y,some 5,0,.yes⟩)],[(2,some [.mpc (.int .i64) (w.map prB)]),(1,some [.own 1000003000,.ro (p.book.map Net.ds),.mpr 2])]⟩):=by
 induction n with
 |zero=>exact((fun _ _ _ _ _ _ h=>by rw [Ag] at h; cases h))
 | succ n ih=>
  have v:=ih
  ·intro p u w y q r h
   rw [Ag] at h
   refine AM rfl rfl (Z ?_)
   refine Ai (Z ?_)
   replace h:=AB h; obtain⟨g,k,h⟩:=h
   refine AS k (Agent.dm_len _) (Z ?_)
   refine AX (AP k) (Z ?_)
   refine AX (Es (sz:=5) (j:=4) (r:=List.map Port.ds g.ports) (AP (f:=Agent.dm) k) (Agent.dm_len _) (by rw [Agent.dm_eq]; rfl)) (Z ?_)
   refine AI h (fun h=>Z ?_) (fun h=>Z ?_)
   ·refine AK ?_
    replace h:=AB h; obtain⟨b,d,h⟩:=h
    refine caG ⟨[],[(1001,1000003000)],[(1,1,0),(2,2,0)],[(1501,288080)],[],true⟩ (Bm _ _ _ _ _ _ _ d) (Z ?_)
    replace h:=AB h; obtain⟨c,e,h⟩:=h
    refine caG ⟨[],[(1001,288080)],[(1,1,0),(2,2,0)],[(1501,288112)],[],true⟩ (Am _ _ _ _ e) (Z ?_)
    exact AF (k1 v) h
   ·exact AF (k1 BV) h
theorem Jq (a0:Rewriter) (u:Int × Int × Int × Int) (w:Bool) (r:Int × Rewriter) (h:BX a0 u w=some r):BK prog f32 [1,1,1,1,0,1,0,1] (.int .i64 r.1) [(1501,⟨List.map Agent.dm r.2.net.agents,some 5,0,.yes⟩)] [(1,[.own 1501,.ro (a0.book.map Net.ds),.mpr 2]),(2,[.mpc (.int .i64) (r.2.removed.map prB)])] ⟨[(0,.box 1 0),(6,.int .i64 u.2.1),(7,.int .i64 u.2.2.1),(30,.int .i64 u.1),(31,.bool w)],[(1000000000,some ⟨List.map Agent.dm a0.net.agents,some 5,0,.yes⟩)],[(2,some [.mpc (.int .i64) (a0.removed.map prB)]),(1,some [.own 1000000000,.ro (a0.book.map Net.ds),.mpr 2])]⟩:=by
 unfold BX at h
 refine AM rfl rfl (Z ?_)
 refine AI h (fun h=>Z ?_) (fun h=>Z ?_)
 ·replace h:=AB h; obtain⟨y,q,h⟩:=h
  refine caG ⟨[],[(1001,1000000000)],[(1,1,0),(2,2,0)],[(1501,160080)],[],true⟩ (Je _ _ _ _ q) (Z ?_)
  refine AK ?_
  replace h:=AB h; obtain⟨g,j,h⟩:=h
  refine caG ⟨[],[(1001,160080)],[(1,1,0),(2,2,0)],[(1501,176080)],[],true⟩ (Je _ _ _ _ j) (Z ?_)
  exact AF (k1 BV) h
 ·refine AI h (fun h=>Z ?_) (fun h=>Z ?_)
  ·replace h:=AB h; obtain⟨k,b,h⟩:=h
   refine caG ⟨[],[(1001,1000000000)],[(1,1,0),(2,2,0)],[(1501,208048)],[],true⟩ (LD _ _ _ _ b) (Z ?_)
   exact AF (k1 BV) h
  ·refine AI h (fun h=>Z ?_) (fun h=>Z ?_)
   ·exact AF (k1 Jp) h
   ·refine AI h (fun h=>Z ?_) (fun h=>Z ?_)
    ·replace h:=AB h; obtain⟨d,c,h⟩:=h
     refine caG ⟨[],[(1001,1000000000)],[(1,1,0),(2,2,0)],[(1501,320048)],[],true⟩ (L7 _ _ _ _ c) (Z ?_)
     exact AF (k1 BV) h
    ·refine AI h (fun h=>Z ?_) (fun h=>Z ?_)
     ·replace h:=AB h; obtain⟨e,i,h⟩:=h
      refine caG ⟨[],[(1001,1000000000)],[(1,1,0),(2,2,0)],[(1501,352048)],[],true⟩ (NI _ _ _ _ i) (Z ?_)
      exact AF (k1 BV) h
     ·refine AI h (fun h=>Z ?_) (fun h=>Z ?_)
      ·replace h:=AB h; obtain⟨l,t,h⟩:=h
       refine caG ⟨[],[(1001,1000000000)],[(1,1,0),(2,2,0)],[(1501,384048)],[],true⟩ (NJ _ _ _ _ t) (Z ?_)
       refine AK ?_
       replace h:=AB h; obtain⟨s,o,h⟩:=h
       refine aT [25002] ⟨[],[(1001,384048)],[(1,1,0),(2,2,0)],[(1501,400048)],[],true⟩ (by kernel_rfl) (IT _ _ _ o) (by kernel_rfl) (Z ?_)
       exact AF trivial h
      ·exact AF (k1 BV) h
theorem Lr (a0 a1 r) (h:A6 a0 a1=some r):AG prog 32 [.box 1 0,.agg [.int .i64 a1.a,.int .i64 a1.b]] [(1001,⟨List.map Agent.dm a0.net.agents,some 5,0,.yes⟩)] [(2,[.mpc (.int .i64) (a0.removed.map prB)]),(1,[.own 1001,.ro (a0.book.map Net.ds),.mpr 2])] (.int .i64 r.1) [(1501,⟨List.map Agent.dm r.2.net.agents,some 5,0,.yes⟩)] [(1,[.own 1501,.ro (a0.book.map Net.ds),.mpr 2]),(2,[.mpc (.int .i64) (r.2.removed.map prB)])] :=by
 unfold A6 at h
 refine agF func32 mixed (h:=Z ?_)
 replace h:=AB h; obtain⟨u,w,h⟩:=h
 refine caG ⟨[],[(1001,1001)],[(1,1,0),(2,2,0)],[(1501,32032)],[],true⟩ (Nt _ _ _ w) (Z ?_)
 refine AK ?_
 refine AI h (fun h=>Z ?_) (fun h=>Z ?_)
 ·exact AF trivial h
 ·refine AK ?_
  replace h:=AB h; obtain⟨y,q,h⟩:=h
  refine caG ⟨[],[(1001,32032)],[(1,1,0),(2,2,0)],[(1501,80016)],[],true⟩ (Ns _ _ q) (Z ?_)
  replace h:=AB h; obtain⟨g,j,h⟩:=h
  refine caG ⟨[],[(1001,80016)],[(1,1,0),(2,2,0)],[(1501,80096)],[],true⟩ (NG _ _ _ _ _ j) (Z ?_)
  exact AF (k1 Jq) h
end Go.Proofs.YthenkmapmnkelaaGreatDoor.Ab
