/- The functions do what their models say. -/
import Derived.Test.YthenkmapmnkelaaGreatDoorModC
import Derived.Test.YthenkmapmnkelaaGreatDoorTi2
import Derived.Test.YthenkmapmnkelaaGreatDoorWlkL
namespace Go.Proofs.YthenkmapmnkelaaGreatDoor.Ab
set_option linter.defProp false
set_option linter.unusedVariables false
set_option linter.unusedSimpArgs false
set_option maxRecDepth 20000
set_option maxHeartbeats 4000000
open Go.RowKit _root_.Go.Proofs.Tryz
theorem Om (a0:Int) (a1:Int) (a2:Int) (u:Bool) (r:Bool) (h:FV a0 a1 a2 u=some r):Aa prog f171 [1,0,1] (.bool r) ⟨[(0,.int .i64 a0),(1,.int .i64 a1),(2,.int .i64 a2),(15,.bool u)],[],[]⟩:=by
 unfold FV at h
 exact AF (k1 KG) h
theorem SG (a0 a1 a2 r) (h:HD a0 a1 a2=some r):AC prog 171 [.int .i64 a0,.int .i64 a1,.int .i64 a2] (.bool r):=by
 unfold HD at h
 refine acF func171 mixed (h:=Z ?_)
 exact AF (k3 P9 Om Jd) h
theorem SH (a0 r) (h:HE a0=some r):AC prog 172 [.int .i64 a0] (.bool r):=by
 unfold HE at h
 refine acF func172 mixed (h:=Z ?_)
 exact AF trivial h
theorem SI (a1:Int) (a2:Int) (a3:Int) (u:Bool) (r:Int) (h:HF a1 a2 a3 u=some r):Aa prog f163 [1,0,1,0,1,1,1,0,0,1] (.int .i64 r) ⟨[(1,.int .i64 a1),(2,.int .i64 a2),(3,.int .i64 a3),(14,.bool u)],[],[]⟩:=by
 unfold HF at h
 exact AF (k1 SG) h
theorem SJ (u:Bool) (r:Int) (h:HG u=some r):Aa prog f163 [1,0,1,0,1,1,1,1,1,0,1] (.int .i64 r) ⟨[(35,.bool u)],[],[]⟩:=by
 unfold HG at h
 exact AF trivial h
theorem SK (a2:Int) (u:Bool) (r:Int) (h:HH a2 u=some r):Aa prog f163 [1,0,1,0,1,1,1,1,1,1,1,0,1,0,1] (.int .i64 r) ⟨[(38,.int .i64 a2),(39,.bool u)],[],[]⟩:=by
 unfold HH at h
 exact AF trivial h
theorem XT (a0 a1 a2 a3 r) (h:Iu a0 a1 a2 a3=some r):AC prog 163 [.int .i64 a0,.int .i64 a1,.int .i64 a2,.int .i64 a3] (.int .i64 r):=by
 unfold Iu at h
 refine acF func163 mixed (h:=Z ?_)
 exact AF (k4 SI SJ SK SH) h
theorem UU (a0:Int) (a1:Int) (a2:Int) (a3:Int) (u:Bool) (r:Int × Int) (h:F1 a0 a1 a2 a3 u=some r):Aa prog f141 [1,0,1] (.tup [.int .i64 r.1,.int .i64 r.2]) ⟨[(0,.int .i64 a0),(1,.int .i64 a1),(2,.int .i64 a2),(3,.int .i64 a3),(29,.bool u)],[],[]⟩:=by
 unfold F1 at h
 exact AF (k1 XT) h
theorem ZZ (a0 a1 a2 a3 r) (h:Mq a0 a1 a2 a3=some r):AC prog 141 [.int .i64 a0,.int .i64 a1,.int .i64 a2,.int .i64 a3] (.tup [.int .i64 r.1,.int .i64 r.2]):=by
 unfold Mq at h
 refine acF func141 mixed (h:=Z ?_)
 exact AF (k2 UU Jd) h
theorem Nq (u:Int × Int) (w:Bool) (r:Int × Bool) (h:Dq u w=some r):Aa prog f105 [1,1,1,1,0,1] (.tup [.int .i64 r.1,.bool r.2]) ⟨[(8,.int .i64 u.1),(9,.int .i64 u.2),(56,.bool w)],[],[]⟩:=by
 unfold Dq at h
 exact AF trivial h
theorem Nr (u:Int × Int) (w:Int) (y:Int) (q:Int) (g:List Int) (j:List Port) (k:Int) (b:Int) (d:Int) (c:List Int) (e:List Port) (r:Int × Bool) (h:Dr u w y q g j k b d c e=some r):Aa prog f105 [1,1,1,1] (.tup [.int .i64 r.1,.bool r.2]) ⟨[(6,.box 1000000500 0),(7,.box 1000000501 0),(8,.int .i64 u.1),(9,.int .i64 u.2)],[],[(1000000500,some [.int .i64 w,.int .i64 y,.int .i64 q,.ro (g.map AD),.ro (j.map Port.ds)]),(1000000501,some [.int .i64 k,.int .i64 b,.int .i64 d,.ro (c.map AD),.ro (e.map Port.ds)])]⟩:=by
 unfold Dr at h
 exact AF (k1 Nq) h
theorem K6 (a0 a1 r) (h:Fi a0 a1=some r):AC prog 105 [.rop (Net.avs a0) 0,.agg (Pair.avs a1)] (.tup [.int .i64 r.1,.bool r.2]):=by
 unfold Fi at h
 refine acF func105 mixed (h:=Z ?_)
 refine gP [] [(16,18),(17,19)] .fin (by kernel_rfl) (Z ?_)
 replace h:=AB h; obtain⟨u,w,h⟩:=h
 refine AS w (Agent.ds_len _) (Z ?_)
 replace h:=AB h; obtain⟨y,q,h⟩:=h
 refine AS q (Agent.ds_len _) (Z ?_)
 refine cH _ (by rfl) (by (first|(simp only [go_sem]; done)|(simp only [go_sem]; decide)|decide)) (by rfl) (Z ?_)
 refine cH _ (by rfl) (by (first|(simp only [go_sem]; done)|(simp only [go_sem]; decide)|decide)) (by rfl) (Z ?_)
 refine l5 (by refine⟨by rfl,by rfl,trivial⟩) (Z ?_)
 exact AF (k2 ZZ Nr) h
theorem Hk (a0 r) (h:Cu a0=some r):AC prog 142 [.ro (a0.map Port.ds)] (.ow (some 2) (r.map Port.ds)):=by
 unfold Cu at h
 refine acF func142 mixed (h:=Z ?_)
 refine iC (by simp only [go_sem]) (fun v=>?_) ?_
 ·try simp only [go_sem]
  have p:=List.map_eq_nil_iff.1 v
  obtain rfl:=p
  obtain rfl:r=[] :=by cases h; rfl
  simp only [go_sem]
 ·try simp only [go_sem]
  refine AK ?_
  replace h:=AB h; obtain⟨u,w,h⟩:=h
  have p:=AT w
  obtain⟨q,j⟩:=p
  refine BO .no (Z ?_)
  refine BH (G8 (by intro x; exact⟨(Port.ds_len _),by simp [Port.ds_eq,D.flat]⟩) _) (Z ?_)
  refine By (Z ?_)
  refine Ar (u.map Port.ds) (by rw [← j]; simp only [List.map_append,List.map_cons,List.map_nil,List.nil_append,List.append_nil,go_sem,Port.ds_eq]) (Z ?_)
  exact AF trivial h
theorem Ig (a0 r) (h:Ds a0=some r):AG prog 110 [.ro (a0.map AD)] [] [] (.ro (r.map AD)) [] [] :=by
 unfold Ds at h
 refine agF func110 mixed (h:=Z ?_)
 refine iC (by simp only [go_sem]) (fun v=>?_) ?_
 ·try simp only [go_sem]
  have p:=List.map_eq_nil_iff.1 v
  obtain rfl:=p
  obtain rfl:r=[] :=by cases h; rfl
  simp only [go_sem]
  exact C8 (.fN [(0,[])] [] (k:=.done _)) [] []
 ·try simp only [go_sem]
  refine AK ?_
  replace h:=AB h; obtain⟨u,w,h⟩:=h
  have p:=AT w
  obtain⟨q,j⟩:=p
  refine BO .no (Z ?_)
  refine BH (G8 (by intro x; exact⟨rfl,by simp [go_sem,D.flat]⟩) _) (Z ?_)
  refine By (Z ?_)
  refine F0 AD j (Z ?_)
  refine AK ?_
  cases h
  exact C8 (.fT 64032 [(0,[])] [] (k:=.done _)) [] []
theorem RB (a0 r) (h:Fj a0=some r):AG prog 106 [.agg (Agent.avs a0)] [] [] (.agg [.int .i64 r.kind,.int .i64 r.level,.int .i64 r.value,.ro (r.data.map AD),.own 1501]) [(1501,⟨List.map Port.ds r.ports,some 2,0,.no⟩)] [] :=by
 unfold Fj at h
 refine agF func106 mixed (h:=Z ?_)
 refine AK ?_
 refine AW [false,false,false,false,false,false,false,true,true,true] (Tr.sq [7,8,9] .fin) (by kernel_rfl) (Z ?_)
 replace h:=AB h; obtain⟨u,w,h⟩:=h
 refine IW (Ig _ _ w) (by (first|rfl|(simp only [go_sem]; rfl))) (by first|rfl|(simp only [go_sem])) (Z ?_)
 exact AF (k1 Hk) h
theorem QA (n:Nat):(∀C u w r,D1 n C u w=some r→BK prog f63 [1,1,0,1,0] (.agg [.own 1501]) [(1501,⟨List.map Agent.dm r.agents,some 5,0,.yes⟩)] [] ⟨[(2,.box 1000001500 0),(3,.box 1000001501 0),(12,.ro (C.agents.map Agent.ds)),(13,.int .i64 (C.agents.length:Int)),(14,.int .i64 w)],[(1000001000,some ⟨List.map Agent.dm u,some 5,0,.yes⟩)],[(1000001500,some [.nils]),(1000001501,some [.own 1000001000])]⟩):=by
 induction n with
 |zero=>exact((fun _ _ _ _ h=>by rw [D1] at h; cases h))
 | succ n ih=>
  have F:=ih
  ·intro C u w r h
   rw [D1] at h
   refine AM rfl rfl (Z ?_)
   refine Ai (Z ?_)
   refine AI h (fun h=>Z ?_) (fun h=>Z ?_)
   ·refine AK ?_
    replace h:=AB h; obtain⟨y,q,h⟩:=h
    refine AS q (Agent.ds_len _) (Z ?_)
    refine AK ?_
    replace h:=AB h; obtain⟨g,j,h⟩:=h
    replace h:=AB h; obtain⟨k,b,h⟩:=h
    refine AW [false,true,true,true,true,true,true,true] (.br 1 (Tr.sq [2,3,4,5,6,7] .fin) (.br 2 (.br 1 (Tr.sq [3,4,5,6,7] .fin) (.br 3 (.br 1 (Tr.sq [4,5,6,7] .fin) (.br 4 (Tr.sq [1,5,6,7] .fin) .stop)) .stop)) .stop)) (by kernel_rfl) ?_
    try simp only [go_sem]
    repeat' first|((with_reducible show aM _ _ _ _); refine Yc (Z ?_) (Z ?_))|((with_reducible show Kh _ _ _ _ _ _ _ _ _ _ _); refine caG ⟨[],[],[],[(1501,96048)],[],true⟩ (RB _ _ j) (Z ?_))
    all_goals
     have G:=AT b
     obtain⟨v,p⟩:=G
     refine BO .yes (Z ?_)
     refine By (Z ?_)
     refine Ar (k.map Agent.dm) (by rw [← p]; simp only [List.map_append,List.map_cons,List.map_nil,List.nil_append,List.append_nil,go_sem,Agent.ds_eq,Agent.dm_eq]) (Z ?_)
     exact AF (k1 F) h
   ·exact AF trivial h
theorem UV (a0 r) (h:IE a0=some r):AG prog 63 [.agg [.ro (a0.agents.map Agent.ds)]] [] [] (.agg [.own 1501]) [(1501,⟨List.map Agent.dm r.agents,some 5,0,.yes⟩)] [] :=by
 unfold IE at h
 refine agF func63 mixed (h:=Z ?_)
 refine AK ?_
 replace h:=AB h; obtain⟨u,w,h⟩:=h
 have v:=G7 w
 obtain⟨q,p,j⟩:=v
 refine BH (by unfold leX; omega) (Z ?_)
 refine BH (by refine⟨?_,?_,?_⟩ <;> omega) (Z ?_)
 refine BO .no (Z ?_)
 refine Ar [] (by rfl) (Z ?_)
 refine AK ?_
 exact Yq (QA fuel a0 [] 0 _ h)
theorem K7 (a0 a1 r) (h:Fk a0 a1=some r):AG prog 31 [.ro (a0.map Net.ds),.agg [.ro (a1.agents.map Agent.ds)]] [] [] (.box 1601 0) [(1501,⟨List.map Agent.dm r.net.agents,some 5,0,.yes⟩)] [(1601,[.own 1501,.ro (r.book.map Net.ds),.mpr 1602]),(1602,[.mpc (.int .i64) (r.removed.map prB)])] :=by
 unfold Fk at h
 refine agF func31 mixed (h:=Z ?_)
 replace h:=AB h; obtain⟨u,w,h⟩:=h
 refine caG ⟨[],[],[],[(1501,32016)],[],true⟩ (UV _ _ w) (Z ?_)
 exact AF trivial h
theorem Fq (a0 a1 a2 r) (h:CV a0 a1 a2=some r):AG prog 109 [.box 1 0,.agg [.int .i64 a1.agent,.int .i64 a1.slot],.agg [.int .i64 a2.agent,.int .i64 a2.slot]] [(1001,⟨List.map Agent.dm a0.agents,some 5,0,.yes⟩)] [(1,[.own 1001])] (.tup []) [(1501,⟨List.map Agent.dm r.agents,some 5,0,.yes⟩)] [(1,[.own 1501])] :=by
 unfold CV at h
 refine agF func109 mixed (h:=Z ?_)
 refine AW [false,false,false,false,false,false,false,false,false,false,false,false,false,true] (Tr.sq [13] .fin) (by kernel_rfl) (Z ?_)
 replace h:=AB h; obtain⟨u,w,h⟩:=h
 refine AS w (Agent.dm_len _) (Z ?_)
 refine AX (AP w) (Z ?_)
 replace h:=AB h; obtain⟨y,q,h⟩:=h
 refine AX (Es (sz:=5) (j:=4) (r:=List.map Port.ds u.ports) (AP (f:=Agent.dm) w) (Agent.dm_len _) (by rw [Agent.dm_eq]; rfl)) (Z ?_)
 refine AS q (Port.ds_len _) (Z ?_)
 replace h:=AB h; obtain⟨g,k,h⟩:=h
 replace h:=AB h; obtain⟨b,d,h⟩:=h
 refine AX (Es (sz:=5) (j:=4) (r:=List.map Port.ds u.ports) (AP (f:=Agent.dm) w) (Agent.dm_len _) (by rw [Agent.dm_eq]; rfl)) (Z ?_)
 refine AX (AP q) (Z ?_)
 try refine BH ⟨List.cons_ne_nil _ _,by rfl,by decide,by rfl⟩ ?_
 try simp only [go_sem]
 refine Ar (b.map Agent.dm) ((Hs (AP (f:=Agent.dm) w) (d':=.sl (u.ports.map Port.ds)) (by simp only [go_sem,Agent.ds_eq,Agent.dm_eq])).trans (by rw [← Ah d,← Ah k]; simp only [List.map_set,List.set_cons_succ,List.set_cons_zero,go_sem,Agent.ds_eq,Agent.dm_eq,Port.ds_eq])) (Z ?_)
 refine AK ?_
 refine AW [false,false,false,false,false,false,false,false,false,false,false,false,false,true] (Tr.sq [13] .fin) (by kernel_rfl) (Z ?_)
 replace h:=AB h; obtain⟨c,e,h⟩:=h
 refine AS e (Agent.dm_len _) (Z ?_)
 refine AX (AP e) (Z ?_)
 replace h:=AB h; obtain⟨i,l,h⟩:=h
 refine AX (Es (sz:=5) (j:=4) (r:=List.map Port.ds c.ports) (AP (f:=Agent.dm) e) (Agent.dm_len _) (by rw [Agent.dm_eq]; rfl)) (Z ?_)
 refine AS l (Port.ds_len _) (Z ?_)
 replace h:=AB h; obtain⟨t,s,h⟩:=h
 replace h:=AB h; obtain⟨o,z,h⟩:=h
 refine AX (Es (sz:=5) (j:=4) (r:=List.map Port.ds c.ports) (AP (f:=Agent.dm) e) (Agent.dm_len _) (by rw [Agent.dm_eq]; rfl)) (Z ?_)
 refine AX (AP l) (Z ?_)
 try refine BH ⟨List.cons_ne_nil _ _,by rfl,by decide,by rfl⟩ ?_
 try simp only [go_sem]
 refine Ar (o.map Agent.dm) ((Hs (AP (f:=Agent.dm) e) (d':=.sl (c.ports.map Port.ds)) (by simp only [go_sem,Agent.ds_eq,Agent.dm_eq])).trans (by rw [← Ah z,← Ah s]; simp only [List.map_set,List.set_cons_succ,List.set_cons_zero,go_sem,Agent.ds_eq,Agent.dm_eq,Port.ds_eq])) (Z ?_)
 exact AF trivial h
theorem Je (a0 a1 a2 r) (h:CI a0 a1 a2=some r):AG prog 67 [.box 1 0,.agg [.int .i64 a1.agent,.int .i64 a1.slot],.agg [.int .i64 a2.agent,.int .i64 a2.slot]] [(1001,⟨List.map Agent.dm a0.net.agents,some 5,0,.yes⟩)] [(2,[.mpc (.int .i64) (a0.removed.map prB)]),(1,[.own 1001,.ro (a0.book.map Net.ds),.mpr 2])] (.tup []) [(1501,⟨List.map Agent.dm r.net.agents,some 5,0,.yes⟩)] [(1,[.own 1501,.ro (a0.book.map Net.ds),.mpr 2]),(2,[.mpc (.int .i64) (r.removed.map prB)])] :=by
 unfold CI at h
 refine agF func67 mixed (h:=Z ?_)
 refine AW [false,false,false,false,false,false,false,false,false,false,false,false,true,true] (Tr.sq [12,13] .fin) (by kernel_rfl) (Z ?_)
 replace h:=AB h; obtain⟨u,w,h⟩:=h
 refine AL (Q0 (C5 _ _ _ w) (.cons (.rop rfl) (.cons (.refl _) .nil))) (Z ?_)
 replace h:=AB h; obtain⟨y,q,h⟩:=h
 refine AL (Q0 (C5 _ _ _ q) (.cons (.rop rfl) (.cons (.refl _) .nil))) (Z ?_)
 refine AK ?_
 refine AI h (fun h=>Z ?_) (fun h=>Z ?_)
 ·refine AW [false,false,false,false,false,true] (Tr.sq [5] .fin) (by kernel_rfl) (Z ?_)
  replace h:=AB h; obtain⟨g,j,h⟩:=h
  refine caG ⟨[],[(1001,1001)],[(1,1,0)],[(1501,64080)],[],true⟩ (Fq _ _ _ _ j) (Z ?_)
  exact AF trivial h
 ·exact AF trivial h
theorem Am (a0 a1 a2 r) (h:AR a0 a1 a2=some r):AG prog 69 [.box 1 0,.agg [.int .i64 a1.agent,.int .i64 a1.slot],.agg [.int .i64 a2.agent,.int .i64 a2.slot]] [(1001,⟨List.map Agent.dm a0.net.agents,some 5,0,.yes⟩)] [(2,[.mpc (.int .i64) (a0.removed.map prB)]),(1,[.own 1001,.ro (a0.book.map Net.ds),.mpr 2])] (.tup []) [(1501,⟨List.map Agent.dm r.net.agents,some 5,0,.yes⟩)] [(1,[.own 1501,.ro (a0.book.map Net.ds),.mpr 2]),(2,[.mpc (.int .i64) (r.removed.map prB)])] :=by
 unfold AR at h
 refine agF func69 mixed (h:=Z ?_)
 refine AW [false,false,false,false,false,false,false,false,false,true] (Tr.sq [9] .fin) (by kernel_rfl) (Z ?_)
 replace h:=AB h; obtain⟨u,w,h⟩:=h
 refine AL (Q0 (C5 _ _ _ w) (.cons (.rop rfl) (.cons (.refl _) .nil))) (Z ?_)
 replace h:=AB h; obtain⟨y,q,h⟩:=h
 refine caG ⟨[],[(1001,1001)],[(1,1,0)],[(1501,32144)],[],true⟩ (Fq _ _ _ _ q) (Z ?_)
 exact AF trivial h
theorem K8 (n:Nat):(∀C F u w r,Av n C F u w=some r→BK prog f74 [1,0] (.tup []) [(1501,⟨List.map Agent.dm r.net.agents,some 5,0,.yes⟩)] [(1,[.own 1501,.ro (C.book.map Net.ds),.mpr 2]),(2,[.mpc (.int .i64) (r.removed.map prB)])] ⟨[(0,.box 1 0),(6,.ro (F.map AD)),(7,.int .i64 (F.length:Int)),(8,.int .i64 w)],[(1000000000,some ⟨List.map Agent.dm C.net.agents,some 5,0,.yes⟩)],[(2,some [.mpc (.int .i64) (u.map prB)]),(1,some [.own 1000000000,.ro (C.book.map Net.ds),.mpr 2])]⟩):=by
 induction n with
 |zero=>exact((fun _ _ _ _ _ h=>by rw [Av] at h; cases h))
 | succ n ih=>
  have G:=ih
  ·intro C F u w r h
   rw [Av] at h
   refine AM rfl rfl (Z ?_)
   refine Ai (Z ?_)
   refine AI h (fun h=>Z ?_) (fun h=>Z ?_)
   ·refine AK ?_
    replace h:=AB h; obtain⟨y,q,h⟩:=h
    refine AS q rfl (Z ?_)
    replace h:=AB h; obtain⟨g,j,h⟩:=h
    have I:=WE j
    obtain⟨p,v⟩:=I
    refine BH (by first|exact p|(rw [List.length_map]; exact p)) (Z ?_)
    refine Ar (g.map prB) (by rw [← v]; exact iF) (Z ?_)
    exact AF (k1 G) h
   ·exact AF trivial h
theorem IT (a0 a1 r) (h:BQ a0 a1=some r):AG prog 74 [.box 1 0,.ro (a1.map AD)] [(1001,⟨List.map Agent.dm a0.net.agents,some 5,0,.yes⟩)] [(2,[.mpc (.int .i64) (a0.removed.map prB)]),(1,[.own 1001,.ro (a0.book.map Net.ds),.mpr 2])] (.tup []) [(1501,⟨List.map Agent.dm r.net.agents,some 5,0,.yes⟩)] [(1,[.own 1501,.ro (a0.book.map Net.ds),.mpr 2]),(2,[.mpc (.int .i64) (r.removed.map prB)])] :=by
 unfold BQ at h
 refine agF func74 mixed (h:=Z ?_)
 exact AF (k1 K8) h
theorem Ns (a0 r) (h:Eu a0=some r):AG prog 65 [.box 1 0] [(1001,⟨List.map Agent.dm a0.net.agents,some 5,0,.yes⟩)] [(2,[.mpc (.int .i64) (a0.removed.map prB)]),(1,[.own 1001,.ro (a0.book.map Net.ds),.mpr 2])] (.int .i64 r) [(1501,⟨List.map Agent.dm a0.net.agents,some 5,0,.yes⟩)] [(1,[.own 1501,.ro (a0.book.map Net.ds),.mpr 2]),(2,[.mpc (.int .i64) (a0.removed.map prB)])] :=by
 unfold Eu at h
 refine agF func65 mixed (h:=Z ?_)
 exact AF trivial h
theorem Hd (a0 r) (h:CW a0=some r):AC prog 110 [.ro (a0.map AD)] (.ow (some 1) (r.map AD)):=by
 unfold CW at h
 refine acF func110 mixed (h:=Z ?_)
 refine iC (by simp only [go_sem]) (fun v=>?_) ?_
 ·try simp only [go_sem]
  have p:=List.map_eq_nil_iff.1 v
  obtain rfl:=p
  obtain rfl:r=[] :=by cases h; rfl
  simp only [go_sem]
 ·try simp only [go_sem]
  refine AK ?_
  replace h:=AB h; obtain⟨u,w,h⟩:=h
  have p:=AT w
  obtain⟨q,j⟩:=p
  refine BO .no (Z ?_)
  refine BH (G8 (by intro x; exact⟨rfl,by simp [go_sem,D.flat]⟩) _) (Z ?_)
  refine By (Z ?_)
  refine F0 AD j (Z ?_)
  exact AF trivial h
theorem ND (a0 r) (h:F2 a0=some r):AC prog 106 [.agg (Agent.avs a0)] (.agg (Agent.rv r)):=by
 unfold F2 at h
 refine acF func106 mixed (h:=Z ?_)
 refine AK ?_
 refine AW [false,false,false,false,false,false,false,true,true,true] (Tr.sq [7,8,9] .fin) (by kernel_rfl) (Z ?_)
 exact AF (k2 Hd Hk) h
theorem Ln (n:Nat):(∀C v u w y r,An n C v u w y=some r→Aa prog f75 [1,1,1,1,0,1,0] (.agg (Net.rv r)) ⟨[(0,.rop [.ro (C.agents.map Agent.ds)] 0),(4,.box 1000007500 0),(5,.mpr 1000007501),(8,.box 1000007502 0),(25,.ro (v.map AD)),(26,.int .i64 (v.length:Int)),(27,.int .i64 y)],[(1000007000,some ⟨List.map Agent.ds w,some 5,0,.no⟩)],[(1000007500,some [.nils]),(1000007501,some [.mpc (.int .i64) (u.map prI)]),(1000007502,some [.own 1000007000])]⟩)∧
    (∀C v u w y q g j r,Bs n C v u w y q g j=some r→Aa prog f75 [1,1,1,1,0,1,0,0,1,1,0,0,1,1,0,1,0] (.agg (Net.rv r)) ⟨[(0,.rop [.ro (C.agents.map Agent.ds)] 0),(4,.box 1000011500 0),(5,.mpr 1000011501),(8,.box 1000011502 0),(11,.box 1000011503 0),(25,.ro (v.map AD)),(26,.int .i64 (v.length:Int)),(27,.int .i64 y),(41,.int .i64 (q.ports.length:Int)),(42,.int .i64 j)],(tkL0 1000011000 w q.data g),[(1000011500,some [.nils]),(1000011501,some [.mpc (.int .i64) (u.map prI)]),(1000011502,some [.own 1000011000]),(1000011503,some [.int .i64 q.kind,.int .i64 q.level,.int .i64 q.value,.own 1000011001,.own 1000011002])]⟩):=by
 induction n with
 |zero=>exact⟨(fun _ _ _ _ _ _ h=>by rw [An] at h; cases h),(fun _ _ _ _ _ _ _ _ _ h=>by rw [Bs] at h; cases h)⟩
 | succ n ih=>
  obtain⟨I,G⟩:=ih
  refine⟨?_,?_⟩
  ·intro C v u w y r h
   rw [An] at h
   exact AF (k2 ND G) h
  ·intro C v u w y q g j r h
   rw [Bs] at h
   refine BL rfl rfl (Z ?_)
   refine Ai (Z ?_)
   refine AI h (fun h=>Z ?_) (fun h=>Z ?_)
   ·refine AK ?_
    refine AW [false,false,false,false,false,false,false,false,false,false,false,false,false,true] (Tr.sq [13] .fin) (by kernel_rfl) (Z ?_)
    replace h:=AB h; obtain⟨i,l,h⟩:=h
    refine AS l (Port.ds_len _) (Z ?_)
    refine AX (AP l) (Z ?_)
    replace h:=AB h; obtain⟨t,s,h⟩:=h
    refine AS s (Port.ds_len _) (Z ?_)
    replace h:=AB h; obtain⟨o,z,h⟩:=h
    refine AX (AP s) (Z ?_)
    refine Ar (o.map Port.ds) (by rw [← Ah z]; simp only [List.map_set,go_sem,Port.ds_eq]) (Z ?_)
    exact AF (k1 G) h
   ·refine AK ?_
    replace h:=AB h; obtain⟨U,O,h⟩:=h
    have J:=AT O
    obtain⟨F,p⟩:=J
    refine BO .no (Z ?_)
    refine By (Z ?_)
    refine Ar (U.map Agent.ds) (by rw [← p]; simp only [List.map_append,List.map_cons,List.map_nil,List.nil_append,List.append_nil,go_sem,Agent.ds_eq]) (Z ?_)
    exact AF (k1 I) h
def L6 (n:Nat):=(Ln n).1
theorem NE (n:Nat):(∀F C u w r,B6 n F C u w=some r→Aa prog f75 [1,1,0,1,0] (.agg (Net.rv r)) ⟨[(0,.rop [.ro (F.agents.map Agent.ds)] 0),(1,.ro (C.map AD)),(4,.box 1000001500 0),(5,.mpr 1000001501),(14,.ro (C.map AD)),(15,.int .i64 (C.length:Int)),(16,.int .i64 w)],[],[(1000001500,some [.nils]),(1000001501,some [.mpc (.int .i64) (u.map prI)])]⟩):=by
 induction n with
 |zero=>exact((fun _ _ _ _ _ h=>by rw [B6] at h; cases h))
 | succ n ih=>
  have G:=ih
  ·intro F C u w r h
   rw [B6] at h
   refine BL rfl rfl (Z ?_)
   refine Ai (Z ?_)
   refine AI h (fun h=>Z ?_) (fun h=>Z ?_)
   ·refine AK ?_
    replace h:=AB h; obtain⟨y,q,h⟩:=h
    refine AS q rfl (Z ?_)
    replace h:=AB h; obtain⟨g,j,h⟩:=h
    have I:=WE j
    obtain⟨p,v⟩:=I
    refine BH (by first|exact p|(rw [List.length_map]; exact p)) (Z ?_)
    refine Ar (g.map prI) (by rw [← v]; exact iG) (Z ?_)
    exact AF (k1 G) h
   ·refine AK ?_
    refine AK ?_
    refine CH (DZ rfl rfl (L6 fuel F C u [] 0 _ h):) (.one ⟨_,.ce 8000 0 2000000000 (some 5) .no (k:=.done _),[(1000007000,2000000000)],[(1000007500,1000001500),(1000007501,1000001501),(1000007502,8000)],?_⟩)
    simp only [go_sem]
    all_goals try rfl
theorem QB (a0 a1 r) (h:Ew a0 a1=some r):AC prog 75 [.rop (Net.avs a0) 0,.ro (a1.map AD)] (.agg (Net.rv r)):=by
 unfold Ew at h
 refine acF func75 mixed (h:=Z ?_)
 refine AK ?_
 exact nu (NE fuel a0 a1 [] 0 _ h)
theorem K9 (n:Nat):(∀p u w r,A9 n p u w=some r→BK prog f33 [1,1,0,1,0] (.agg [.own 1501]) [(1501,⟨List.map Agent.ds r.agents,some 5,0,.no⟩),(1502,⟨List.map Agent.dm p.net.agents,some 5,0,.yes⟩)] [(1,[.own 1502,.ro (p.book.map Net.ds),.mpr 2]),(2,[.mpc (.int .i64) (p.removed.map prB)])] ⟨[(0,.box 1 0),(2,.box 1000001500 0),(3,.own 1000001001),(10,.int .i64 (p.net.agents.length:Int)),(11,.int .i64 w)],[(1000001000,some ⟨List.map Agent.dm p.net.agents,some 5,0,.yes⟩),(1000001001,some ⟨List.map AD u,some 1,0,.no⟩)],[(2,some [.mpc (.int .i64) (p.removed.map prB)]),(1,some [.own 1000001000,.ro (p.book.map Net.ds),.mpr 2]),(1000001500,some [.nils])]⟩):=by
 induction n with
 |zero=>exact((fun _ _ _ _ h=>by rw [A9] at h; cases h))
 | succ n ih=>
  have v:=ih
  ·intro p u w r h
   rw [A9] at h
   refine AM rfl rfl (Z ?_)
   refine Ai (Z ?_)
   refine AI h (fun h=>Z ?_) (fun h=>Z ?_)
   ·refine AK ?_
    refine AI h (fun h=>Z ?_) (fun h=>Z ?_)
    ·replace h:=AB h; obtain⟨y,q,h⟩:=h
     have F:=AT q
     obtain⟨C,j⟩:=F
     refine BO .no (Z ?_)
     refine By (Z ?_)
     refine F0 AD j (Z ?_)
     exact AF (k1 v) h
    ·exact AF (k1 v) h
   ·exact AF (k1 QB) h
theorem NF (a0 r) (h:DM a0=some r):AG prog 33 [.box 1 0] [(1001,⟨List.map Agent.dm a0.net.agents,some 5,0,.yes⟩)] [(2,[.mpc (.int .i64) (a0.removed.map prB)]),(1,[.own 1001,.ro (a0.book.map Net.ds),.mpr 2])] (.agg [.own 1501]) [(1501,⟨List.map Agent.ds r.agents,some 5,0,.no⟩),(1502,⟨List.map Agent.dm a0.net.agents,some 5,0,.yes⟩)] [(1,[.own 1502,.ro (a0.book.map Net.ds),.mpr 2]),(2,[.mpc (.int .i64) (a0.removed.map prB)])] :=by
 unfold DM at h
 refine agF func33 mixed (h:=Z ?_)
 refine AK ?_
 refine CH (DL rfl rfl (K9 fuel a0 [] 0 _ h):) (.one ⟨_,.slot 3 2000000000 (some 1) .no (by simp only [go_sem]) (by simp only [go_sem]) (.done _),[(1000001000,1001),(1000001001,2000000000)],[(2,2),(1,1),(1000001500,1000)],?_⟩)
 simp only [go_sem]
 all_goals try rfl
theorem SL (n:Nat):(∀C u w r,FE n C u w=some r→Aa prog f63 [1,1,0,1,0] (.agg (Net.rv r)) ⟨[(2,.box 1000001500 0),(3,.box 1000001501 0),(12,.ro (C.agents.map Agent.ds)),(13,.int .i64 (C.agents.length:Int)),(14,.int .i64 w)],[(1000001000,some ⟨List.map Agent.ds u,some 5,0,.no⟩)],[(1000001500,some [.nils]),(1000001501,some [.own 1000001000])]⟩):=by
 induction n with
 |zero=>exact((fun _ _ _ _ h=>by rw [FE] at h; cases h))
 | succ n ih=>
  have F:=ih
  ·intro C u w r h
   rw [FE] at h
   refine BL rfl rfl (Z ?_)
   refine Ai (Z ?_)
   refine AI h (fun h=>Z ?_) (fun h=>Z ?_)
   ·refine AK ?_
    replace h:=AB h; obtain⟨y,q,h⟩:=h
    refine AS q (Agent.ds_len _) (Z ?_)
    refine AK ?_
    refine AW [false,false,false,false,false,true,true,true] (Tr.sq [5,6,7] .fin) (by kernel_rfl) (Z ?_)
    replace h:=AB h; obtain⟨g,j,h⟩:=h
    refine AL (ND _ _ j) (Z ?_)
    replace h:=AB h; obtain⟨k,b,h⟩:=h
    have G:=AT b
    obtain⟨v,p⟩:=G
    refine BO .no (Z ?_)
    refine By (Z ?_)
    refine Ar (k.map Agent.ds) (by rw [← p]; simp only [List.map_append,List.map_cons,List.map_nil,List.nil_append,List.append_nil,go_sem,Agent.ds_eq]) (Z ?_)
    exact AF (k1 F) h
   ·exact AF trivial h
theorem XU (a0 r) (h:Kl a0=some r):AC prog 63 [.agg (Net.avs a0)] (.agg (Net.rv r)):=by
 unfold Kl at h
 refine acF func63 mixed (h:=Z ?_)
 refine AK ?_
 replace h:=AB h; obtain⟨u,w,h⟩:=h
 have v:=G7 w
 obtain⟨q,p,j⟩:=v
 refine BH (by unfold leX; omega) (Z ?_)
 refine BH (by refine⟨?_,?_,?_⟩ <;> omega) (Z ?_)
 refine BO .no (Z ?_)
 refine Ar [] (by rfl) (Z ?_)
 refine AK ?_
 exact nu (SL fuel a0 [] 0 _ h)
theorem SM (n:Nat):(∀v u w y r,Db n v u w y=some r→Aa prog f107 [1,1,0,1,0] (.tup [.agg (Net.rv r.1),.bool r.2]) ⟨[(1,.int .i64 v),(4,.box 1000001500 0),(6,.box 1000001501 0),(13,.int .i64 (u.agents.length:Int)),(14,.int .i64 y)],[(1000001000,some ⟨List.map Agent.ds w,some 5,0,.no⟩)],[(1000001500,some [.nils]),(1000001501,some [.own 1000001000])]⟩):=by
 induction n with
 |zero=>exact((fun _ _ _ _ _ h=>by rw [Db] at h; cases h))
 | succ n ih=>
  have p:=ih
  ·intro v u w y r h
   rw [Db] at h
   refine BL rfl rfl (Z ?_)
   refine Ai (Z ?_)
   refine AI h (fun h=>Z ?_) (fun h=>Z ?_)
   ·refine AK ?_
    replace h:=AB h; obtain⟨q,g,h⟩:=h
    refine AS g (Agent.ds_len _) (Z ?_)
    refine AX (AP g) (Z ?_)
    replace h:=AB h; obtain⟨j,k,h⟩:=h
    refine AL (KG _ _ k) (Z ?_)
    refine AK ?_
    refine AI h (fun h=>Z ?_) (fun h=>Z ?_)
    ·exact AF (k1 p) h
    ·refine AK ?_
     refine AX (AP g) (Z ?_)
     replace h:=AB h; obtain⟨b,d,h⟩:=h
     refine AX (AP g) (Z ?_)
     refine Ar (b.map Agent.ds) (by rw [← Ah d]; simp only [List.map_set,go_sem,Agent.ds_eq]) (Z ?_)
     exact AF (k1 p) h
   ·exact AF trivial h
theorem QC (a0 a1 r) (h:Iv a0 a1=some r):AC prog 107 [.agg (Net.avs a0),.int .i64 a1] (.tup [.agg (Net.rv r.1),.bool r.2]):=by
 unfold Iv at h
 refine acF func107 mixed (h:=Z ?_)
 exact AF (k2 XU SM) h
theorem He (a0:Rewriter) (u:Int) (w:Int) (y:Int × Bool) (r:Int × Int × Int × Int) (h:DW a0 u w y=some r):BK prog f64 [1,1,1,1,1] (.tup [.int .i64 r.1,.int .i64 r.2.1,.int .i64 r.2.2.1,.int .i64 r.2.2.2]) [(1501,⟨List.map Agent.dm a0.net.agents,some 5,0,.yes⟩)] [(1,[.own 1501,.ro (a0.book.map Net.ds),.mpr 2]),(2,[.mpc (.int .i64) (a0.removed.map prB)])] ⟨[(4,.int .i64 y.1),(5,.int .i64 u),(6,.int .i64 w)],[(1000001000,some ⟨List.map Agent.dm a0.net.agents,some 5,0,.yes⟩)],[(2,some [.mpc (.int .i64) (a0.removed.map prB)]),(1,some [.own 1000001000,.ro (a0.book.map Net.ds),.mpr 2])]⟩:=by
 unfold DW at h
 exact AF trivial h
theorem Lo (a0:Rewriter) (u:Int × Bool) (w:Int) (y:Int) (r:Int × Int × Int × Int) (h:Cd a0 u w y=some r):BK prog f64 [1,1,1,1] (.tup [.int .i64 r.1,.int .i64 r.2.1,.int .i64 r.2.2.1,.int .i64 r.2.2.2]) [(1501,⟨List.map Agent.dm a0.net.agents,some 5,0,.yes⟩)] [(1,[.own 1501,.ro (a0.book.map Net.ds),.mpr 2]),(2,[.mpc (.int .i64) (a0.removed.map prB)])] ⟨[(0,.box 1 0),(4,.int .i64 u.1),(5,.int .i64 w),(6,.int .i64 y)],[(1000000000,some ⟨List.map Agent.dm a0.net.agents,some 5,0,.yes⟩)],[(2,some [.mpc (.int .i64) (a0.removed.map prB)]),(1,some [.own 1000000000,.ro (a0.book.map Net.ds),.mpr 2])]⟩:=by
 unfold Cd at h
 refine AM rfl rfl (Z ?_)
 refine AI h (fun h=>Z ?_) (fun h=>Z ?_)
 ·exact AF trivial h
 ·refine AI h (fun h=>Z ?_) (fun h=>Z ?_)
  ·replace h:=AB h; obtain⟨q,g,h⟩:=h
   refine AS g (Agent.dm_len _) (Z ?_)
   refine AX (AP g) (Z ?_)
   refine AK ?_
   refine AW [] .fin (by kernel_rfl) (Z ?_)
   refine AK ?_
   refine AI h (fun h=>Z ?_) (fun h=>Z ?_)
   ·exact AF trivial h
   ·refine AK ?_
    refine AW [false,false,false,false,false,false,false,false,false,false,false,false,false,false,false,true,true] (Tr.sq [15,16] .fin) (by kernel_rfl) (Z ?_)
    exact AF (k2 QC He) h
  ·exact AF (k1 He) h
theorem Nt (a0 a1 r) (h:CR a0 a1=some r):AG prog 64 [.box 1 0,.agg [.int .i64 a1.a,.int .i64 a1.b]] [(1001,⟨List.map Agent.dm a0.net.agents,some 5,0,.yes⟩)] [(2,[.mpc (.int .i64) (a0.removed.map prB)]),(1,[.own 1001,.ro (a0.book.map Net.ds),.mpr 2])] (.tup [.int .i64 r.1,.int .i64 r.2.1,.int .i64 r.2.2.1,.int .i64 r.2.2.2]) [(1501,⟨List.map Agent.dm a0.net.agents,some 5,0,.yes⟩)] [(1,[.own 1501,.ro (a0.book.map Net.ds),.mpr 2]),(2,[.mpc (.int .i64) (a0.removed.map prB)])] :=by
 unfold CR at h
 refine agF func64 mixed (h:=Z ?_)
 exact AF (k2 K6 Lo) h
theorem UW (a1:Int) (u:Int) (w:Bool) (r:Int × Int) (h:IF a1 u w=some r):Aa prog f108 [1,1,1,0,1] (.tup [.int .i64 r.1,.int .i64 r.2]) ⟨[(1,.int .i64 a1),(8,.int .i64 u),(30,.bool w)],[],[]⟩:=by
 unfold IF at h
 exact AF trivial h
theorem UX (a1:Int) (u:Int) (w:Int) (y:Int) (r:Int × Int) (h:Dj a1 u w y=some r):Aa prog f108 [1,1,1] (.tup [.int .i64 r.1,.int .i64 r.2]) ⟨[(1,.int .i64 a1),(6,.int .i64 u),(7,.int .i64 w),(8,.int .i64 y)],[],[]⟩:=by
 unfold Dj at h
 exact AF (k1 UW) h
theorem UY (a0:Int) (a1:Int) (u:Bool) (r:Int × Int) (h:IG a0 a1 u=some r):Aa prog f108 [1,1,0,1,0,1] (.tup [.int .i64 r.1,.int .i64 r.2]) ⟨[(1,.int .i64 a1),(6,.int .i64 0),(7,.int .i64 0),(8,.int .i64 0),(9,.int .i64 a0),(10,.bool u)],[],[]⟩:=by
 unfold IG at h
 exact AF (k1 UX) h
theorem Za (a0 a1 r) (h:Mr a0 a1=some r):AC prog 108 [.int .i64 a0,.int .i64 a1] (.tup [.int .i64 r.1,.int .i64 r.2]):=by
 unfold Mr at h
 refine acF func108 mixed (h:=Z ?_)
 exact AF (k1 UY) h
theorem DO (a0:Rewriter) (a1:Int) (u:Int) (r:Int) (h:BA a0 a1 u=some r):BK prog f66 [1,1,1] (.int .i64 r) [(1501,⟨List.map Agent.dm a0.net.agents,some 5,0,.yes⟩)] [(1,[.own 1501,.ro (a0.book.map Net.ds),.mpr 2]),(2,[.mpc (.int .i64) (a0.removed.map prB)])] ⟨[(1,.int .i64 a1),(9,.int .i64 u)],[(1000001000,some ⟨List.map Agent.dm a0.net.agents,some 5,0,.yes⟩)],[(2,some [.mpc (.int .i64) (a0.removed.map prB)]),(1,some [.own 1000001000,.ro (a0.book.map Net.ds),.mpr 2])]⟩:=by
 unfold BA at h
 exact AF (k1 Za) h
theorem LA (a0:Rewriter) (a1:Int) (a2:Int) (a3:Int) (u:Bool) (r:Int) (h:C9 a0 a1 a2 a3 u=some r):BK prog f66 [1,1,0,1,0,1] (.int .i64 r) [(1501,⟨List.map Agent.dm a0.net.agents,some 5,0,.yes⟩)] [(1,[.own 1501,.ro (a0.book.map Net.ds),.mpr 2]),(2,[.mpc (.int .i64) (a0.removed.map prB)])] ⟨[(0,.box 1 0),(1,.int .i64 a1),(2,.int .i64 a2),(3,.int .i64 a3),(9,.int .i64 0),(12,.int .i64 a1),(13,.bool u)],[(1000000000,some ⟨List.map Agent.dm a0.net.agents,some 5,0,.yes⟩)],[(2,some [.mpc (.int .i64) (a0.removed.map prB)]),(1,some [.own 1000000000,.ro (a0.book.map Net.ds),.mpr 2])]⟩:=by
 unfold C9 at h
 refine AM rfl rfl (Z ?_)
 refine AI h (fun h=>Z ?_) (fun h=>Z ?_)
 ·replace h:=AB h; obtain⟨w,y,h⟩:=h
  refine AS y (Agent.dm_len _) (Z ?_)
  refine AX (AP y) (Z ?_)
  refine AX (Es (sz:=5) (j:=4) (r:=List.map Port.ds w.ports) (AP (f:=Agent.dm) y) (Agent.dm_len _) (by rw [Agent.dm_eq]; rfl)) (Z ?_)
  exact AF (k1 DO) h
 ·refine AI h (fun h=>Z ?_) (fun h=>Z ?_)
  ·replace h:=AB h; obtain⟨q,g,h⟩:=h
   refine AS g (Agent.dm_len _) (Z ?_)
   refine AX (AP g) (Z ?_)
   refine AI h (fun h=>Z ?_) (fun h=>Z ?_)
   ·replace h:=AB h; obtain⟨k,b,h⟩:=h
    refine AS b (Agent.dm_len _) (Z ?_)
    refine AX (AP b) (Z ?_)
    refine AX (Es (sz:=5) (j:=4) (r:=List.map Port.ds k.ports) (AP (f:=Agent.dm) b) (Agent.dm_len _) (by rw [Agent.dm_eq]; rfl)) (Z ?_)
    exact AF (k1 DO) h
   ·exact AF (k1 DO) h
  ·exact AF (k1 DO) h
theorem NG (a0 a1 a2 a3 r) (h:EO a0 a1 a2 a3=some r):AG prog 66 [.box 1 0,.int .i64 a1,.int .i64 a2,.int .i64 a3] [(1001,⟨List.map Agent.dm a0.net.agents,some 5,0,.yes⟩)] [(2,[.mpc (.int .i64) (a0.removed.map prB)]),(1,[.own 1001,.ro (a0.book.map Net.ds),.mpr 2])] (.int .i64 r) [(1501,⟨List.map Agent.dm a0.net.agents,some 5,0,.yes⟩)] [(1,[.own 1501,.ro (a0.book.map Net.ds),.mpr 2]),(2,[.mpc (.int .i64) (a0.removed.map prB)])] :=by
 unfold EO at h
 refine agF func66 mixed (h:=Z ?_)
 exact AF (k1 LA) h
end Go.Proofs.YthenkmapmnkelaaGreatDoor.Ab
