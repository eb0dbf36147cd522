/- The functions do what their models say. -/
import Derived.Test.YthenkmapmnkelaaGreatDoorModL
import Derived.Test.YthenkmapmnkelaaGreatDoorTi2
import Derived.Test.YthenkmapmnkelaaGreatDoorWlkU
namespace Go.Proofs.YthenkmapmnkelaaGreatDoor.Ab
set_option linter.defProp false
set_option linter.unusedVariables false
set_option linter.unusedSimpArgs false
set_option maxRecDepth 20000
set_option maxHeartbeats 4000000
open Go.RowKit _root_.Go.Proofs.Tryz
@[go_sem] def tkL0 (b:Nat) (x0:List Agent) (x1:List Int) (x2:List Port):List (Nat×Option Tok):=[(b,some ⟨List.map Agent.ds x0,some 5,0,.no⟩),(b+1,some ⟨List.map AD x1,some 1,0,.no⟩),(b+2,some ⟨List.map Port.ds x2,some 2,0,.no⟩)]
@[go_sem] def tkL1 (b:Nat) (x0:List Agent) (x1:List Int) (x2:List Agent):List (Nat×Option Tok):=[(b,some ⟨List.map Agent.ds x0,some 5,0,.no⟩),(b+1,some ⟨List.map AD x1,some 1,0,.no⟩),(b+2,some ⟨List.map Agent.ds x2,some 5,0,.no⟩)]
theorem GO (a0 a1 a2 r) (h:s_l11Link a0 a1 a2=some r):AG prog 90 [.box 1 0,.agg [.int .i64 a1.agent,.int .i64 a1.slot],.agg [.int .i64 a2.agent,.int .i64 a2.slot]] [(1001,⟨List.map Agent.ds a0.agents,some 5,0,.no⟩)] [(1,[.own 1001])] (.tup []) [(1501,⟨List.map Agent.ds r.agents,some 5,0,.no⟩)] [(1,[.own 1501])] :=by
 unfold s_l11Link at h
 refine agF func90 mixed (h:=Z ?_)
 refine AW [false,false,false,false,false,false,false,false,false,false,false,false,false,true] (Tr.sq [13] .fin) (by kernel_rfl) (Z ?_)
 replace h:=AB h; obtain⟨u,w,h⟩:=h
 refine AS w (Agent.ds_len _) (Z ?_)
 refine AX (AP w) (Z ?_)
 replace h:=AB h; obtain⟨y,q,h⟩:=h
 refine AX (Es (sz:=5) (j:=4) (r:=List.map Port.ds u.ports) (AP (f:=Agent.ds) w) (Agent.ds_len _) (by rw [Agent.ds_eq]; rfl)) (Z ?_)
 refine AS q (Port.ds_len _) (Z ?_)
 replace h:=AB h; obtain⟨g,k,h⟩:=h
 replace h:=AB h; obtain⟨b,d,h⟩:=h
 refine AX (Es (sz:=5) (j:=4) (r:=List.map Port.ds u.ports) (AP (f:=Agent.ds) w) (Agent.ds_len _) (by rw [Agent.ds_eq]; rfl)) (Z ?_)
 refine AX (AP q) (Z ?_)
 try refine BH ⟨List.cons_ne_nil _ _,by rfl,by decide,by rfl⟩ ?_
 try simp only [go_sem]
 refine Ar (b.map Agent.ds) ((Hs (AP (f:=Agent.ds) w) (d':=.sl (u.ports.map Port.ds)) (by simp only [go_sem,Agent.ds_eq])).trans (by rw [← Ah d,← Ah k]; simp only [List.map_set,List.set_cons_succ,List.set_cons_zero,go_sem,Agent.ds_eq,Port.ds_eq])) (Z ?_)
 refine AK ?_
 refine AW [false,false,false,false,false,false,false,false,false,false,false,false,false,true] (Tr.sq [13] .fin) (by kernel_rfl) (Z ?_)
 replace h:=AB h; obtain⟨c,e,h⟩:=h
 refine AS e (Agent.ds_len _) (Z ?_)
 refine AX (AP e) (Z ?_)
 replace h:=AB h; obtain⟨i,l,h⟩:=h
 refine AX (Es (sz:=5) (j:=4) (r:=List.map Port.ds c.ports) (AP (f:=Agent.ds) e) (Agent.ds_len _) (by rw [Agent.ds_eq]; rfl)) (Z ?_)
 refine AS l (Port.ds_len _) (Z ?_)
 replace h:=AB h; obtain⟨t,s,h⟩:=h
 replace h:=AB h; obtain⟨o,z,h⟩:=h
 refine AX (Es (sz:=5) (j:=4) (r:=List.map Port.ds c.ports) (AP (f:=Agent.ds) e) (Agent.ds_len _) (by rw [Agent.ds_eq]; rfl)) (Z ?_)
 refine AX (AP l) (Z ?_)
 try refine BH ⟨List.cons_ne_nil _ _,by rfl,by decide,by rfl⟩ ?_
 try simp only [go_sem]
 refine Ar (o.map Agent.ds) ((Hs (AP (f:=Agent.ds) e) (d':=.sl (c.ports.map Port.ds)) (by simp only [go_sem,Agent.ds_eq])).trans (by rw [← Ah z,← Ah s]; simp only [List.map_set,List.set_cons_succ,List.set_cons_zero,go_sem,Agent.ds_eq,Port.ds_eq])) (Z ?_)
 exact AF trivial h
theorem Lv (a0 a1 r) (h:Gw a0 a1=some r):AC prog 89 [.rop (Net.avs a0) 0,.agg (Port.avs a1)] (.agg (Port.rv r)):=by
 unfold Gw at h
 refine acF func89 mixed (h:=Z ?_)
 refine AK ?_
 refine AW [false,false,false,false,false,false,false,false,false,false,false,false,false,true] (Tr.sq [13] .fin) (by kernel_rfl) (Z ?_)
 exact AF trivial h
theorem QI (a0 a1 a2 r) (h:GI a0 a1 a2=some r):AG prog 47 [.box 1 0,.agg [.int .i64 a1.agent,.int .i64 a1.slot],.agg [.int .i64 a2.agent,.int .i64 a2.slot]] [(1001,⟨List.map Agent.ds a0.agents,some 5,0,.no⟩)] [(1,[.own 1001])] (.tup []) [(1501,⟨List.map Agent.ds r.agents,some 5,0,.no⟩)] [(1,[.own 1501])] :=by
 unfold GI at h
 refine agF func47 mixed (h:=Z ?_)
 replace h:=AB h; obtain⟨u,w,h⟩:=h
 refine AL (Lv _ _ _ w) (Z ?_)
 refine AK ?_
 replace h:=AB h; obtain⟨y,q,h⟩:=h
 refine AL (Lv _ _ _ q) (Z ?_)
 refine AK ?_
 refine AI h (fun h=>Z ?_) (fun h=>Z ?_)
 ·replace h:=AB h; obtain⟨g,j,h⟩:=h
  refine caG ⟨[],[(1001,1001)],[(1,1,0)],[(1501,80048)],[],true⟩ (GO _ _ _ _ j) (Z ?_)
  exact AF trivial h
 ·exact AF trivial h
theorem C6 (a0 a1 a2 r) (h:B0 a0 a1 a2=some r):AG prog 51 [.box 1 0,.agg [.int .i64 a1.agent,.int .i64 a1.slot],.agg [.int .i64 a2.agent,.int .i64 a2.slot]] [(1001,⟨List.map Agent.ds a0.agents,some 5,0,.no⟩)] [(1,[.own 1001])] (.tup []) [(1501,⟨List.map Agent.ds r.agents,some 5,0,.no⟩)] [(1,[.own 1501])] :=by
 unfold B0 at h
 refine agF func51 mixed (h:=Z ?_)
 refine AW [false,false,false,false,false,true] (Tr.sq [5] .fin) (by kernel_rfl) (Z ?_)
 replace h:=AB h; obtain⟨u,w,h⟩:=h
 refine AL (Lv _ _ _ w) (Z ?_)
 replace h:=AB h; obtain⟨y,q,h⟩:=h
 refine caG ⟨[],[(1001,1001)],[(1,1,0)],[(1501,32080)],[],true⟩ (GO _ _ _ _ q) (Z ?_)
 exact AF trivial h
theorem QJ (a0 a1 a2 a3 r) (h:Ix a0 a1 a2 a3=some r):AC prog 124 [.int .i64 a0,.int .i64 a1,.int .i64 a2,.int .i64 a3] (.bool r):=by
 unfold Ix at h
 refine acF func124 mixed (h:=Z ?_)
 exact AF (k1 KN) h
theorem Ou (a0:Int) (a1:Int) (a2:Int) (u:Bool) (r:Bool) (h:FX a0 a1 a2 u=some r):Aa prog f150 [1,1,0,1] (.bool r) ⟨[(0,.int .i64 a0),(1,.int .i64 a1),(2,.int .i64 a2),(21,.bool u)],[],[]⟩:=by
 unfold FX at h
 exact AF (k1 KO) h
theorem Ov (a0:Int) (a1:Int) (a2:Int) (u:Bool) (r:Bool) (h:FY a0 a1 a2 u=some r):Aa prog f150 [1,0,1] (.bool r) ⟨[(0,.int .i64 a0),(1,.int .i64 a1),(2,.int .i64 a2),(15,.bool u)],[],[]⟩:=by
 unfold FY at h
 exact AF (k1 Ou) h
theorem SO (a0 a1 a2 r) (h:HJ a0 a1 a2=some r):AC prog 150 [.int .i64 a0,.int .i64 a1,.int .i64 a2] (.bool r):=by
 unfold HJ at h
 refine acF func150 mixed (h:=Z ?_)
 exact AF (k3 DU Ov KN) h
theorem Ow (u:Bool) (r:Bool) (h:Ch u=some r):Aa prog f151 [1,0,1,0,1] (.bool r) ⟨[(4,.bool u)],[],[]⟩:=by
 unfold Ch at h
 exact AF trivial h
theorem SP (a0 r) (h:HK a0=some r):AC prog 151 [.int .i64 a0] (.bool r):=by
 unfold HK at h
 refine acF func151 mixed (h:=Z ?_)
 exact AF (k1 Ow) h
theorem SQ (a1:Int) (a2:Int) (a3:Int) (u:Bool) (r:Int) (h:HL a1 a2 a3 u=some r):Aa prog f125 [1,0,1,0,1,1,1,0,0,1] (.int .i64 r) ⟨[(1,.int .i64 a1),(2,.int .i64 a2),(3,.int .i64 a3),(20,.bool u)],[],[]⟩:=by
 unfold HL at h
 exact AF (k1 SO) h
theorem SR (u:Bool) (r:Int) (h:HM u=some r):Aa prog f125 [1,0,1,0,1,1,1,1,1,0,1] (.int .i64 r) ⟨[(33,.bool u)],[],[]⟩:=by
 unfold HM at h
 exact AF trivial h
theorem SS (a2:Int) (u:Bool) (r:Int) (h:HN a2 u=some r):Aa prog f125 [1,0,1,0,1,1,1,1,1,1,1,0,1,0,1] (.int .i64 r) ⟨[(36,.int .i64 a2),(37,.bool u)],[],[]⟩:=by
 unfold HN at h
 exact AF trivial h
theorem QK (a0 a1 a2 a3 r) (h:Gx a0 a1 a2 a3=some r):AC prog 125 [.int .i64 a0,.int .i64 a1,.int .i64 a2,.int .i64 a3] (.int .i64 r):=by
 unfold Gx at h
 refine acF func125 mixed (h:=Z ?_)
 exact AF (k4 SQ SR SS SP) h
theorem RH (a0 a1 a2 a3 r) (h:GZ a0 a1 a2 a3=some r):AC prog 84 [.int .i64 a0,.int .i64 a1,.int .i64 a2,.int .i64 a3] (.int .i64 r):=by
 unfold GZ at h
 refine acF func84 mixed (h:=Z ?_)
 exact AF (k2 QJ QK) h
theorem KH (a0 a1 a2 r) (h:Ed a0 a1 a2=some r):AC prog 43 [.rop (Net.avs a0) 0,.int .i64 a1,.int .i64 a2] (.tup [.int .i64 r.1,.int .i64 r.2]):=by
 unfold Ed at h
 refine acF func43 mixed (h:=Z ?_)
 exact AF (k1 RH) h
theorem QL (u:Int) (r:Int) (h:F4 u=some r):Aa prog f85 [1,1,1,1] (.int .i64 r) ⟨[(9,.int .i64 u)],[],[]⟩:=by
 unfold F4 at h
 exact AF trivial h
theorem Ug (a0 a1 a2 a3 r) (h:IK a0 a1 a2 a3=some r):AC prog 85 [.int .i64 a0,.int .i64 a1,.int .i64 a2,.int .i64 a3] (.int .i64 r):=by
 unfold IK at h
 refine acF func85 mixed (h:=Z ?_)
 exact AF (k3 QJ QK QL) h
theorem RI (a0:Agent) (a1:Agent) (u:Bool) (r:Int) (h:Fo a0 a1 u=some r):Aa prog f44 [1,1,0,1] (.int .i64 r) ⟨[(0,.rop (Agent.avs a0) 0),(1,.rop (Agent.avs a1) 0),(52,.bool u)],[],[]⟩:=by
 unfold Fo at h
 exact AF (k1 Ug) h
theorem RJ (a0:Agent) (a1:Agent) (u:Bool) (r:Int) (h:Fp a0 a1 u=some r):Aa prog f44 [1,0,1] (.int .i64 r) ⟨[(0,.rop (Agent.avs a0) 0),(1,.rop (Agent.avs a1) 0),(28,.bool u)],[],[]⟩:=by
 unfold Fp at h
 exact AF (k1 RI) h
theorem KI (a0 a1 r) (h:Gk a0 a1=some r):AC prog 44 [.rop (Agent.avs a0) 0,.rop (Agent.avs a1) 0] (.int .i64 r):=by
 unfold Gk at h
 refine acF func44 mixed (h:=Z ?_)
 exact AF (k1 RJ) h
theorem Zf (a0 a1 r) (h:Mv a0 a1=some r):AC prog 126 [.int .i64 a0,.int .i64 a1] (.int .i64 r):=by
 unfold Mv at h
 refine acF func126 mixed (h:=Z ?_)
 exact AF trivial h
theorem Ox (n:Nat):(∀j u w r,Ci n j u w=some r→Aa prog f87 [1,1,0,1,0] (.int .i64 r) ⟨[(0,.rop [.ro (j.agents.map Agent.ds)] 0),(3,.int .i64 u),(4,.int .i64 w)],[],[]⟩):=by
 induction n with
 |zero=>exact((fun _ _ _ _ h=>by rw [Ci] at h; cases h))
 | succ n ih=>
  have p:=ih
  ·intro j u w r h
   rw [Ci] at h
   exact AF (k2 Zf p) h
theorem SU (a0 r) (h:Il a0=some r):AC prog 87 [.rop (Net.avs a0) 0] (.int .i64 r):=by
 unfold Il at h
 refine acF func87 mixed (h:=Z ?_)
 exact AF (k1 Ox) h
theorem Uh (a1:Int) (u:Int) (w:Int) (y:Int) (r:Int × Int) (h:Dl a1 u w y=some r):Aa prog f88 [1,1,1,1,1] (.tup [.int .i64 r.1,.int .i64 r.2]) ⟨[(1,.int .i64 a1),(6,.int .i64 u),(7,.int .i64 w),(8,.int .i64 y)],[],[]⟩:=by
 unfold Dl at h
 exact AF (k1 DU) h
theorem Ui (a0:Int) (a1:Int) (u:Bool) (r:Int × Int) (h:IL a0 a1 u=some r):Aa prog f88 [1,1,1,1,0,1,0,1] (.tup [.int .i64 r.1,.int .i64 r.2]) ⟨[(1,.int .i64 a1),(6,.int .i64 0),(7,.int .i64 0),(9,.int .i64 a0),(10,.bool u)],[],[]⟩:=by
 unfold IL at h
 exact AF (k1 Uh) h
theorem Zg (a0 a1 r) (h:Mw a0 a1=some r):AC prog 88 [.int .i64 a0,.int .i64 a1] (.tup [.int .i64 r.1,.int .i64 r.2]):=by
 unfold Mw at h
 refine acF func88 mixed (h:=Z ?_)
 exact AF (k1 Ui) h
theorem QM (u:Int) (w:Int) (r:Int × Int) (h:DE u w=some r):Aa prog f45 [1,1,1,1,1,1,1] (.tup [.int .i64 r.1,.int .i64 r.2]) ⟨[(12,.int .i64 u),(13,.int .i64 w)],[],[]⟩:=by
 unfold DE at h
 exact AF (k1 Zg) h
theorem QN (a0:List Net) (u:Agent) (w:Agent) (y:Int) (q:Bool) (r:Int × Int) (h:F5 a0 u w y q=some r):Aa prog f45 [1,1,1,1,1,1,0,1,0,1,1,1] (.tup [.int .i64 r.1,.int .i64 r.2]) ⟨[(0,.ro (a0.map Net.ds)),(10,.rop (Agent.avs u) 0),(11,.rop (Agent.avs w) 0),(12,.int .i64 y),(13,.int .i64 0),(38,.int .i64 y),(41,.bool q)],[],[]⟩:=by
 unfold F5 at h
 exact AF (k3 QM Jl SU) h
theorem Uj (a0 a1 a2 a3 r) (h:IM a0 a1 a2 a3=some r):AC prog 45 [.ro (a0.map Net.ds),.rop (Net.avs a1) 0,.int .i64 a2,.int .i64 a3] (.tup [.int .i64 r.1,.int .i64 r.2]):=by
 unfold IM at h
 refine acF func45 mixed (h:=Z ?_)
 exact AF (k3 KH KI QN) h
theorem SW (n:Nat):(∀j u w r,Dc n j u w=some r→Aa prog f46 [1,1,0,1,0] (.int .i64 r) ⟨[(0,.rop [.ro (j.agents.map Agent.ds)] 0),(3,.int .i64 u),(4,.int .i64 w)],[],[]⟩):=by
 induction n with
 |zero=>exact((fun _ _ _ _ h=>by rw [Dc] at h; cases h))
 | succ n ih=>
  have p:=ih
  ·intro j u w r h
   rw [Dc] at h
   exact AF (k1 p) h
theorem Xd (a0 r) (h:Nh a0=some r):AC prog 46 [.rop (Net.avs a0) 0] (.int .i64 r):=by
 unfold Nh at h
 refine acF func46 mixed (h:=Z ?_)
 exact AF (k1 SW) h
theorem AO (a0 a1 r) (h:AZ a0 a1=some r):AC prog 48 [.int .i64 a0,.int .i64 a1] (.agg (Port.rv r)):=by
 unfold AZ at h
 refine acF func48 mixed (h:=Z ?_)
 exact AF trivial h
theorem Uk (n:Nat):(∀U W I O u w y r,E7 n U W I O u w y=some r→BK prog f50 [1,1,0,1,0] (.int .i64 r.1) [(1501,⟨List.map Agent.ds r.2.agents,some 5,0,.no⟩)] [(1,[.own 1501])] ⟨[(0,.box 1 0),(13,.box 1000001500 0),(14,.int .i64 y)],(tkL0 1000001000 U.agents u w),[(1,some [.own 1000001000]),(1000001500,some [.int .i64 W,.int .i64 I,.int .i64 O,.own 1000001001,.own 1000001002])]⟩):=by
 induction n with
 |zero=>exact((fun _ _ _ _ _ _ _ _ h=>by rw [E7] at h; cases h))
 | succ n ih=>
  have J:=ih
  ·intro U W I O u w y r h
   rw [E7] at h
   refine AM rfl rfl (Z ?_)
   refine Ai (Z ?_)
   refine AI h (fun h=>Z ?_) (fun h=>Z ?_)
   ·refine AK ?_
    replace h:=AB h; obtain⟨q,g,h⟩:=h
    have C:=AT g
    obtain⟨F,p⟩:=C
    refine BO .no (Z ?_)
    refine By (Z ?_)
    refine Ar (q.map Port.ds) (by rw [← p]; simp only [List.map_append,List.map_cons,List.map_nil,List.nil_append,List.append_nil,go_sem,Port.ds_eq]) (Z ?_)
    exact AF (k1 J) h
   ·refine AK ?_
    refine AW [false,false,false,false,false,false,false,true,true,true,true] (Tr.sq [7,8,9,10] .fin) (by kernel_rfl) (Z ?_)
    replace h:=AB h; obtain⟨j,k,h⟩:=h
    have C:=AT k
    obtain⟨G,v⟩:=C
    refine BO .no (Z ?_)
    refine By (Z ?_)
    refine Ar (j.map Agent.ds) (by rw [← v]; simp only [List.map_append,List.map_cons,List.map_nil,List.nil_append,List.append_nil,go_sem,Agent.ds_eq]) (Z ?_)
    exact AF trivial h
theorem EU (a0 a1 a2 a3 a4 a5 r) (h:Cn a0 a1 a2 a3 a4 a5=some r):AG prog 50 [.box 1 0,.int .i64 a1,.int .i64 a2,.int .i64 a3,.ro (a4.map AD),.int .i64 a5] [(1001,⟨List.map Agent.ds a0.agents,some 5,0,.no⟩)] [(1,[.own 1001])] (.int .i64 r.1) [(1501,⟨List.map Agent.ds r.2.agents,some 5,0,.no⟩)] [(1,[.own 1501])] :=by
 unfold Cn at h
 refine agF func50 mixed (h:=Z ?_)
 replace h:=AB h; obtain⟨u,w,h⟩:=h
 refine AL (IU _ _ w) (Z ?_)
 refine AK ?_
 refine CH (DL rfl rfl (Uk fuel a0 a1 a2 a3 u [] a5 _ h):) (.one ⟨_,.ce 2006 4 2000000000 (some 2) .no (k:=.done _),[(1000001000,1001),(1000001001,32064),(1000001002,2000000000)],[(1,1),(1000001500,2006)],?_⟩)
 simp only [go_sem]
 all_goals try rfl
theorem NL (n:Nat):(∀p u w y q r,CA n p u w y q=some r→BK prog f49 [1,1,1,1,1,1,1,1,1,0] (.tup []) [(1501,⟨List.map Agent.ds r.agents,some 5,0,.no⟩)] [(1,[.own 1501])] ⟨[(0,.box 1 0),(2,.int .i64 p),(8,.int .i64 (u.ports.length:Int)),(10,.int .i64 w.1),(13,.int .i64 q)],[(1000002000,some ⟨List.map Agent.ds y,some 5,0,.no⟩)],[(1,some [.own 1000002000])]⟩):=by
 induction n with
 |zero=>exact((fun _ _ _ _ _ _ h=>by rw [CA] at h; cases h))
 | succ n ih=>
  have v:=ih
  ·intro p u w y q r h
   rw [CA] at h
   refine AM rfl rfl (Z ?_)
   refine Ai (Z ?_)
   refine AI h (fun h=>Z ?_) (fun h=>Z ?_)
   ·refine AK ?_
    replace h:=AB h; obtain⟨g,j,h⟩:=h
    refine AL (AO _ _ _ j) (Z ?_)
    replace h:=AB h; obtain⟨k,b,h⟩:=h
    refine AL (AO _ _ _ b) (Z ?_)
    replace h:=AB h; obtain⟨d,c,h⟩:=h
    refine caG ⟨[],[(1001,1000002000)],[(1,1,0)],[(1501,272128)],[],true⟩ (C6 _ _ _ _ c) (Z ?_)
    exact AF (k1 v) h
   ·exact AF trivial h
theorem NM (n:Nat):(∀G p u w y q g j r,Bl n G p u w y q g j=some r→BK prog f49 [1,1,1,1,1,0,1,0] (.tup []) [(1501,⟨List.map Agent.ds r.agents,some 5,0,.no⟩)] [(1,[.own 1501])] ⟨[(0,.box 1 0),(1,.int .i64 G),(2,.int .i64 p),(6,.int .i64 u.level),(8,.int .i64 (w.ports.length:Int)),(9,.int .i64 y.1),(10,.int .i64 q.1),(11,.int .i64 j)],[(1000001000,some ⟨List.map Agent.ds g,some 5,0,.no⟩)],[(1,some [.own 1000001000])]⟩):=by
 induction n with
 |zero=>exact((fun _ _ _ _ _ _ _ _ _ h=>by rw [Bl] at h; cases h))
 | succ n ih=>
  have C:=ih
  ·intro G p u w y q g j r h
   rw [Bl] at h
   refine AM rfl rfl (Z ?_)
   refine Ai (Z ?_)
   refine AI h (fun h=>Z ?_) (fun h=>Z ?_)
   ·refine AK ?_
    replace h:=AB h; obtain⟨k,b,h⟩:=h
    refine caG ⟨[],[(1001,1000001000)],[(1,1,0)],[(1501,144032)],[],true⟩ (EU _ _ _ _ _ _ _ b) (Z ?_)
    refine AK ?_
    replace h:=AB h; obtain⟨d,c,h⟩:=h
    refine AL (AO _ _ _ c) (Z ?_)
    replace h:=AB h; obtain⟨e,i,h⟩:=h
    refine AL (AO _ _ _ i) (Z ?_)
    replace h:=AB h; obtain⟨l,t,h⟩:=h
    refine caG ⟨[],[(1001,144032)],[(1,1,0)],[(1501,160096)],[],true⟩ (GO _ _ _ _ t) (Z ?_)
    refine AK ?_
    replace h:=AB h; obtain⟨s,o,h⟩:=h
    refine AL (AO _ _ _ o) (Z ?_)
    replace h:=AB h; obtain⟨z,Y,h⟩:=h
    refine AL (AO _ _ _ Y) (Z ?_)
    replace h:=AB h; obtain⟨u2,u3,h⟩:=h
    refine caG ⟨[],[(1001,160096)],[(1,1,0)],[(1501,176096)],[],true⟩ (GO _ _ _ _ u3) (Z ?_)
    exact AF (k1 C) h
   ·refine AK ?_
    replace h:=AB h; obtain⟨u4,W,h⟩:=h
    refine AL (AO _ _ _ W) (Z ?_)
    replace h:=AB h; obtain⟨u6,U,h⟩:=h
    refine AL (AO _ _ _ U) (Z ?_)
    replace h:=AB h; obtain⟨u8,J,h⟩:=h
    refine caG ⟨[],[(1001,1000001000)],[(1,1,0)],[(1501,192080)],[],true⟩ (C6 _ _ _ _ J) (Z ?_)
    refine AK ?_
    replace h:=AB h; obtain⟨u10,I,h⟩:=h
    refine AL (AO _ _ _ I) (Z ?_)
    replace h:=AB h; obtain⟨O,F,h⟩:=h
    refine AL (AO _ _ _ F) (Z ?_)
    replace h:=AB h; obtain⟨u14,v,h⟩:=h
    refine caG ⟨[],[(1001,192080)],[(1,1,0)],[(1501,208080)],[],true⟩ (C6 _ _ _ _ v) (Z ?_)
    exact AF (k1 NL) h
theorem QO (a0 a1 a2 r) (h:F6 a0 a1 a2=some r):AG prog 49 [.box 1 0,.int .i64 a1,.int .i64 a2] [(1001,⟨List.map Agent.ds a0.agents,some 5,0,.no⟩)] [(1,[.own 1001])] (.tup []) [(1501,⟨List.map Agent.ds r.agents,some 5,0,.no⟩)] [(1,[.own 1501])] :=by
 unfold F6 at h
 refine agF func49 mixed (h:=Z ?_)
 replace h:=AB h; obtain⟨u,w,h⟩:=h
 refine AS w (Agent.ds_len _) (Z ?_)
 refine AX (AP w) (Z ?_)
 replace h:=AB h; obtain⟨y,q,h⟩:=h
 refine AS q (Agent.ds_len _) (Z ?_)
 replace h:=AB h; obtain⟨g,j,h⟩:=h
 refine Qz (by simp only [AP q,Agent.ds_eq,go_sem,Nat.reduceEqDiff,reduceIte] <;> rfl) (Dt _ _ j) (Z ?_)
 refine AK ?_
 replace h:=AB h; obtain⟨k,b,h⟩:=h
 refine caG ⟨[],[(1001,1001)],[(1,1,0)],[(1501,64160)],[],false⟩ (EU _ _ _ _ _ _ _ b) (Z ?_)
 refine AK ?_
 replace h:=AB h; obtain⟨d,c,h⟩:=h
 refine caG ⟨[],[(1001,64160)],[(1,1,0)],[(1501,80160)],[],false⟩ (EU _ _ _ _ _ _ _ c) (Z ?_)
 exact AF (k1 NM) h
theorem G2 (a0 r) (h:Ga a0=some r):AC prog 127 [.int .i64 a0] (.int .i64 r):=by
 unfold Ga at h
 refine acF func127 mixed (h:=Z ?_)
 exact AF trivial h
theorem Xe (a0 r) (h:Kn a0=some r):AC prog 128 [.bool a0] (.int .i64 r):=by
 unfold Kn at h
 refine acF func128 mixed (h:=Z ?_)
 exact AF trivial h
theorem Xf (a0 a1 a2 r) (h:Ko a0 a1 a2=some r):AC prog 91 [.int .i64 a0,.int .i64 a1,.int .i64 a2] (.int .i64 r):=by
 unfold Ko at h
 refine acF func91 mixed (h:=Z ?_)
 replace h:=AB h; obtain⟨u,w,h⟩:=h
 refine AL (G2 _ _ w) (Z ?_)
 refine AK ?_
 replace h:=AB h; obtain⟨y,q,h⟩:=h
 refine AL (G2 _ _ q) (Z ?_)
 refine AK ?_
 refine AI h (fun h=>Z ?_) (fun h=>Z ?_)
 ·exact AF (k1 G2) h
 ·refine AI h (fun h=>Z ?_) (fun h=>Z ?_)
  ·exact AF (k1 G2) h
  ·refine AI h (fun h=>Z ?_) (fun h=>Z ?_)
   ·exact AF (k1 G2) h
   ·refine AI h (fun h=>Z ?_) (fun h=>Z ?_)
    ·refine AI h (fun h=>Z ?_) (fun h=>Z ?_)
     ·exact AF trivial h
     ·refine AK ?_
      replace h:=AB h; obtain⟨e,i,h⟩:=h
      refine BH (Nc i) (Z ?_)
      exact AF (k1 G2) h
    ·exact AF (k1 Xe) h
theorem SX (a0 a1 a2 r) (h:GJ a0 a1 a2=some r):AG prog 52 [.box 1 0,.int .i64 a1,.int .i64 a2] [(1001,⟨List.map Agent.ds a0.agents,some 5,0,.no⟩)] [(1,[.own 1001])] (.tup []) [(1501,⟨List.map Agent.ds r.agents,some 5,0,.no⟩)] [(1,[.own 1501])] :=by
 unfold GJ at h
 refine agF func52 mixed (h:=Z ?_)
 replace h:=AB h; obtain⟨u,w,h⟩:=h
 refine AS w (Agent.ds_len _) (Z ?_)
 replace h:=AB h; obtain⟨y,q,h⟩:=h
 refine Qz (by simp only [AP w,Agent.ds_eq,go_sem,Nat.reduceEqDiff,reduceIte] <;> rfl) (Dt _ _ q) (Z ?_)
 refine AK ?_
 replace h:=AB h; obtain⟨g,j,h⟩:=h
 refine AS j (Agent.ds_len _) (Z ?_)
 refine AX (AP j) (Z ?_)
 refine AI h (fun h=>Z ?_) (fun h=>Z ?_)
 ·refine AW [false,false,false,false,false,false,false,false,false,true,true] (Tr.sq [9,10] .fin) (by kernel_rfl) (Z ?_)
  replace h:=AB h; obtain⟨k,b,h⟩:=h
  refine AS b rfl (Z ?_)
  refine AX (AP b) (Z ?_)
  replace h:=AB h; obtain⟨d,c,h⟩:=h
  refine AL (Xf _ _ _ _ c) (Z ?_)
  replace h:=AB h; obtain⟨e,i,h⟩:=h
  refine caG ⟨[],[(1001,1001)],[(1,1,0)],[(1501,64144)],[],true⟩ (EU _ _ _ _ _ _ _ i) (Z ?_)
  refine AK ?_
  replace h:=AB h; obtain⟨l,t,h⟩:=h
  refine AL (AO _ _ _ t) (Z ?_)
  replace h:=AB h; obtain⟨s,o,h⟩:=h
  refine AL (AO _ _ _ o) (Z ?_)
  replace h:=AB h; obtain⟨z,O,h⟩:=h
  refine caG ⟨[],[(1001,64144)],[(1,1,0)],[(1501,80080)],[],true⟩ (C6 _ _ _ _ O) (Z ?_)
  exact AF trivial h
 ·refine AK ?_
  replace h:=AB h; obtain⟨u2,U,h⟩:=h
  refine caG ⟨[],[(1001,1001)],[(1,1,0)],[(1501,96112)],[],false⟩ (EU _ _ _ _ _ _ _ U) (Z ?_)
  refine AK ?_
  replace h:=AB h; obtain⟨u4,J,h⟩:=h
  refine AL (AO _ _ _ J) (Z ?_)
  replace h:=AB h; obtain⟨u6,I,h⟩:=h
  refine AL (AO _ _ _ I) (Z ?_)
  replace h:=AB h; obtain⟨u8,F,h⟩:=h
  refine caG ⟨[],[(1001,96112)],[(1,1,0)],[(1501,112080)],[],true⟩ (C6 _ _ _ _ F) (Z ?_)
  refine AK ?_
  replace h:=AB h; obtain⟨Y,C,h⟩:=h
  refine AL (AO _ _ _ C) (Z ?_)
  replace h:=AB h; obtain⟨G,v,h⟩:=h
  refine AL (AO _ _ _ v) (Z ?_)
  replace h:=AB h; obtain⟨W,p,h⟩:=h
  refine caG ⟨[],[(1001,112080)],[(1,1,0)],[(1501,128080)],[],true⟩ (C6 _ _ _ _ p) (Z ?_)
  exact AF trivial h
theorem QP (a0:Net) (a2:Int) (u:Agent) (w:Int) (r:Net) (h:F7 a0 a2 u w=some r):BK prog f53 [1,0,1,0,1,1] (.tup []) [(1501,⟨List.map Agent.ds r.agents,some 5,0,.no⟩)] [(1,[.own 1501])] ⟨[(0,.box 1 0),(2,.int .i64 a2),(6,.box 1000000500 0),(7,.int .i64 w)],(tkL0 1000000000 a0.agents u.data u.ports),[(1,some [.own 1000000000]),(1000000500,some [.int .i64 u.kind,.int .i64 u.level,.int .i64 u.value,.own 1000000001,.own 1000000002])]⟩:=by
 unfold F7 at h
 refine AM rfl rfl (Z ?_)
 replace h:=AB h; obtain⟨y,q,h⟩:=h
 refine caG ⟨[],[(1001,1000000000)],[(1,1,0)],[(1501,96064)],[],true⟩ (EU _ _ _ _ _ _ _ q) (Z ?_)
 refine AK ?_
 replace h:=AB h; obtain⟨g,j,h⟩:=h
 refine AL (AO _ _ _ j) (Z ?_)
 replace h:=AB h; obtain⟨k,b,h⟩:=h
 refine AL (AO _ _ _ b) (Z ?_)
 replace h:=AB h; obtain⟨d,c,h⟩:=h
 refine caG ⟨[],[(1001,96064)],[(1,1,0)],[(1501,112080)],[],true⟩ (C6 _ _ _ _ c) (Z ?_)
 exact AF trivial h
theorem QQ (n:Nat):(∀C p u w y q g j r,DF n C p u w y q g j=some r→BK prog f53 [1,1,1,1,1,0,1,0] (.tup []) [(1501,⟨List.map Agent.ds r.agents,some 5,0,.no⟩)] [(1,[.own 1501])] ⟨[(0,.box 1 0),(1,.int .i64 C),(2,.int .i64 p),(6,.box 1000002500 0),(9,.int .i64 w),(11,.box 1000002501 0),(12,.int .i64 j)],(tkL0 1000002000 y u.data u.ports),[(1,some [.own 1000002000]),(1000002500,some [.int .i64 u.kind,.int .i64 u.level,.int .i64 u.value,.own 1000002001,.own 1000002002]),(1000002501,some [.int .i64 q,.int .i64 g])]⟩):=by
 induction n with
 |zero=>exact((fun _ _ _ _ _ _ _ _ _ h=>by rw [DF] at h; cases h))
 | succ n ih=>
  have v:=ih
  ·intro C p u w y q g j r h
   rw [DF] at h
   refine AM rfl rfl (Z ?_)
   refine Ai (Z ?_)
   refine AI h (fun h=>Z ?_) (fun h=>Z ?_)
   ·refine AK ?_
    replace h:=AB h; obtain⟨k,b,h⟩:=h
    refine caG ⟨[],[(1001,1000002000)],[(1,1,0)],[(1501,224048)],[],true⟩ (EU _ _ _ _ _ _ _ b) (Z ?_)
    refine AK ?_
    refine AW [false,false,false,false,true] (Tr.sq [4] .fin) (by kernel_rfl) (Z ?_)
    replace h:=AB h; obtain⟨d,c,h⟩:=h
    refine AL (AO _ _ _ c) (Z ?_)
    replace h:=AB h; obtain⟨e,i,h⟩:=h
    refine caG ⟨[],[(1001,224048)],[(1,1,0)],[(1501,240064)],[],true⟩ (GO _ _ _ _ i) (Z ?_)
    refine AK ?_
    replace h:=AB h; obtain⟨l,t,h⟩:=h
    refine AL (AO _ _ _ t) (Z ?_)
    replace h:=AB h; obtain⟨s,o,h⟩:=h
    refine AL (AO _ _ _ o) (Z ?_)
    replace h:=AB h; obtain⟨z,I,h⟩:=h
    refine caG ⟨[],[(1001,240064)],[(1,1,0)],[(1501,256096)],[],true⟩ (C6 _ _ _ _ I) (Z ?_)
    exact AF (k2 AO v) h
   ·refine AK ?_
    refine AW [false,false,false,false,true] (Tr.sq [4] .fin) (by kernel_rfl) (Z ?_)
    replace h:=AB h; obtain⟨J,G,h⟩:=h
    refine AL (AO _ _ _ G) (Z ?_)
    replace h:=AB h; obtain⟨O,F,h⟩:=h
    refine caG ⟨[],[(1001,1000002000)],[(1,1,0)],[(1501,288064)],[],true⟩ (C6 _ _ _ _ F) (Z ?_)
    exact AF trivial h
theorem Ul (a0 a1 a2 r) (h:E8 a0 a1 a2=some r):AG prog 53 [.box 1 0,.int .i64 a1,.int .i64 a2] [(1001,⟨List.map Agent.ds a0.agents,some 5,0,.no⟩)] [(1,[.own 1001])] (.tup []) [(1501,⟨List.map Agent.ds r.agents,some 5,0,.no⟩)] [(1,[.own 1501])] :=by
 unfold E8 at h
 refine agF func53 mixed (h:=Z ?_)
 replace h:=AB h; obtain⟨u,w,h⟩:=h
 refine AS w (Agent.ds_len _) (Z ?_)
 replace h:=AB h; obtain⟨y,q,h⟩:=h
 refine Qz (by simp only [AP w,Agent.ds_eq,go_sem,Nat.reduceEqDiff,reduceIte] <;> rfl) (Dt _ _ q) (Z ?_)
 refine AK ?_
 refine AI h (fun h=>Z ?_) (fun h=>Z ?_)
 ·exact AF (k1 QP) h
 ·refine AK ?_
  replace h:=AB h; obtain⟨e,i,h⟩:=h
  refine AS i (Agent.ds_len _) (Z ?_)
  replace h:=AB h; obtain⟨l,t,h⟩:=h
  refine Qz (by simp only [AP i,Agent.ds_eq,go_sem,Nat.reduceEqDiff,reduceIte] <;> rfl) (Jl _ _ t) (Z ?_)
  refine AK ?_
  refine AW [false,false,false,false,false,false,false,false,false,false,false,false,false,false,false,true,true] (Tr.sq [15,16] .fin) (by kernel_rfl) (Z ?_)
  replace h:=AB h; obtain⟨s,o,h⟩:=h
  refine AS o (Agent.ds_len _) (Z ?_)
  refine AX (AP o) (Z ?_)
  replace h:=AB h; obtain⟨z,j,h⟩:=h
  refine AS j rfl (Z ?_)
  refine AX (AP j) (Z ?_)
  replace h:=AB h; obtain⟨v,p,h⟩:=h
  refine caG ⟨[],[(1001,1001)],[(1,1,0)],[(1501,144240)],[],true⟩ (EU _ _ _ _ _ _ _ p) (Z ?_)
  exact AF (k2 AO QQ) h
theorem Ny (n:Nat):(∀v F C u w y r,BN n v F C u w y=some r→BK prog f54 [1,1,0,1,0] (.tup []) [(1501,⟨List.map Agent.ds r.agents,some 5,0,.no⟩)] [(1,[.own 1501])] ⟨[(0,.rop [.ro (v.agents.map Agent.ds)] 0),(1,.box 1 0),(3,.int .i64 C),(8,.int .i64 u.level),(9,.int .i64 (IntKind.i64.wrap ((F.agents.length:Int) - 1))),(10,.int .i64 y)],[(1000006000,some ⟨List.map Agent.ds w,some 5,0,.no⟩)],[(1,some [.own 1000006000])]⟩)∧
    (∀v F C w y u q g r,DS n v F C w y u q g=some r→BK prog f54 [1,1,0,1,0,0,1,0,0,1,1] (.tup []) [(1501,⟨List.map Agent.ds r.agents,some 5,0,.no⟩)] [(1,[.own 1501])] ⟨[(0,.rop [.ro (v.agents.map Agent.ds)] 0),(1,.box 1 0),(3,.int .i64 C),(8,.int .i64 u.level),(9,.int .i64 (IntKind.i64.wrap ((F.agents.length:Int) - 1))),(10,.int .i64 y),(11,.box 1000007500 0)],(tkL0 1000007000 w q.data q.ports),[(1,some [.own 1000007000]),(1000007500,some [.int .i64 q.kind,.int .i64 g,.int .i64 q.value,.own 1000007001,.own 1000007002])]⟩)∧
    (∀v F C w y g u q j k r,Cj n v F C w y g u q j k=some r→BK prog f54 [1,1,0,1,0,0,1,0,0,1,1,0,1,0] (.tup []) [(1501,⟨List.map Agent.ds r.agents,some 5,0,.no⟩)] [(1,[.own 1501])] ⟨[(0,.rop [.ro (v.agents.map Agent.ds)] 0),(1,.box 1 0),(3,.int .i64 C),(8,.int .i64 u.level),(9,.int .i64 (IntKind.i64.wrap ((F.agents.length:Int) - 1))),(10,.int .i64 y),(11,.box 1000011500 0),(12,.int .i64 k)],(tkL0 1000011000 w q.data j),[(1,some [.own 1000011000]),(1000011500,some [.int .i64 q.kind,.int .i64 g,.int .i64 q.value,.own 1000011001,.own 1000011002])]⟩):=by
 induction n with
 |zero=>exact⟨(fun _ _ _ _ _ _ _ h=>by rw [BN] at h; cases h),(fun _ _ _ _ _ _ _ _ _ h=>by rw [DS] at h; cases h),(fun _ _ _ _ _ _ _ _ _ _ _ h=>by rw [Cj] at h; cases h)⟩
 | succ n ih=>
  obtain⟨J,W,I⟩:=ih
  refine⟨?_,?_,?_⟩
  ·intro v F C u w y r h
   rw [BN] at h
   refine AM rfl rfl (Z ?_)
   refine Ai (Z ?_)
   refine AI h (fun h=>Z ?_) (fun h=>Z ?_)
   ·exact AF (k3 Dt KO W) h
   ·refine AK ?_
    replace h:=AB h; obtain⟨l,t,h⟩:=h
    refine AS t (Agent.ds_len _) (Z ?_)
    replace h:=AB h; obtain⟨s,o,h⟩:=h
    refine AS o (Port.ds_len _) (Z ?_)
    refine AK ?_
    replace h:=AB h; obtain⟨z,u1,h⟩:=h
    refine AL (AO _ _ _ u1) (Z ?_)
    replace h:=AB h; obtain⟨u2,u3,h⟩:=h
    refine AL (AO _ _ _ u3) (Z ?_)
    replace h:=AB h; obtain⟨u4,u5,h⟩:=h
    refine caG ⟨[],[(1001,1000006000)],[(1,1,0)],[(1501,240160)],[],true⟩ (GO _ _ _ _ u5) (Z ?_)
    exact AF trivial h
  ·intro v F C w y u q g r h
   rw [DS] at h
   exact AF (k1 I) h
  ·intro v F C w y g u q j k r h
   rw [Cj] at h
   refine AM rfl rfl (Z ?_)
   refine Ai (Z ?_)
   refine AI h (fun h=>Z ?_) (fun h=>Z ?_)
   ·refine AK ?_
    replace h:=AB h; obtain⟨u6,u7,h⟩:=h
    refine AS u7 (Port.ds_len _) (Z ?_)
    refine AX (AP u7) (Z ?_)
    replace h:=AB h; obtain⟨u8,u9,h⟩:=h
    refine AS u9 (Port.ds_len _) (Z ?_)
    replace h:=AB h; obtain⟨O,u11,h⟩:=h
    refine AX (AP u9) (Z ?_)
    refine Ar (O.map Port.ds) (by rw [← Ah u11]; simp only [List.map_set,go_sem,Port.ds_eq]) (Z ?_)
    exact AF (k1 I) h
   ·refine AK ?_
    refine AW [false,false,false,false,false,false,false,true,true,true,true] (Tr.sq [7,8,9,10] .fin) (by kernel_rfl) (Z ?_)
    replace h:=AB h; obtain⟨Y,U,h⟩:=h
    have hq_:=AT U
    obtain⟨G,p⟩:=hq_
    refine BO .no (Z ?_)
    refine By (Z ?_)
    refine Ar (Y.map Agent.ds) (by rw [← p]; simp only [List.map_append,List.map_cons,List.map_nil,List.nil_append,List.append_nil,go_sem,Agent.ds_eq]) (Z ?_)
    exact AF (k1 J) h
def Oy (n:Nat):=(Ny n).1
theorem Um (a0 a1 a2 a3 r) (h:IN a0 a1 a2 a3=some r):AG prog 54 [.rop [.ro (a0.agents.map Agent.ds)] 0,.box 1 0,.int .i64 a2,.int .i64 a3] [(1001,⟨List.map Agent.ds a1.agents,some 5,0,.no⟩)] [(1,[.own 1001])] (.tup []) [(1501,⟨List.map Agent.ds r.agents,some 5,0,.no⟩)] [(1,[.own 1501])] :=by
 unfold IN at h
 refine agF func54 mixed (h:=Z ?_)
 exact AF (k1 Oy) h
theorem NN (a0 a1 r) (h:ET a0 a1=some r):AG prog 55 [.box 1 0,.int .i64 a1] [(1001,⟨List.map Agent.ds a0.agents,some 5,0,.no⟩)] [(1,[.own 1001])] (.tup []) [(1501,⟨List.map Agent.ds r.agents,some 5,0,.no⟩)] [(1,[.own 1501])] :=by
 unfold ET at h
 refine agF func55 mixed (h:=Z ?_)
 replace h:=AB h; obtain⟨u,w,h⟩:=h
 refine AS w (Agent.ds_len _) (Z ?_)
 replace h:=AB h; obtain⟨y,q,h⟩:=h
 refine AX (AP w) (Z ?_)
 refine Ar (y.map Agent.ds) (by rw [← Ah q]; simp only [List.map_set,go_sem,Agent.ds_eq]) (Z ?_)
 exact AF trivial h
theorem El (u:Int × Int) (w:Int) (y:List Agent) (r:Int × Net) (h:Cz u w y=some r):BK prog f24 [1,1,1,1,1,1,1] (.int .i64 r.1) [(1501,⟨List.map Agent.ds r.2.agents,some 5,0,.no⟩)] [(1,[.own 1501])] ⟨[(1,.box 1 0),(2,.int .i64 u.1),(3,.int .i64 u.2),(11,.int .i64 w)],[(1000002000,some ⟨List.map Agent.ds y,some 5,0,.no⟩)],[(1,some [.own 1000002000])]⟩:=by
 unfold Cz at h
 refine AM rfl rfl (Z ?_)
 replace h:=AB h; obtain⟨q,g,h⟩:=h
 refine caG ⟨[],[(1001,1000002000)],[(1,1,0)],[(1501,464032)],[],true⟩ (NN _ _ _ g) (Z ?_)
 refine AK ?_
 refine AI h (fun h=>Z ?_) (fun h=>Z ?_)
 ·replace h:=AB h; obtain⟨j,k,h⟩:=h
  refine caG ⟨[],[(1001,464032)],[(1,1,0)],[(1501,496032)],[],true⟩ (NN _ _ _ k) (Z ?_)
  exact AF trivial h
 ·exact AF trivial h
theorem VG (n:Nat):(∀u w y q g r,Ef n u w y q g=some r→BK prog f24 [1,1,1,1,1,1,0,1,0,1,1,1,1,1,0,1,1,0] (.int .i64 r.1) [(1501,⟨List.map Agent.ds r.2.agents,some 5,0,.no⟩)] [(1,[.own 1501])] ⟨[(1,.box 1 0),(2,.int .i64 u.1),(3,.int .i64 u.2),(11,.int .i64 w),(12,.int .i64 (y.ports.length:Int)),(13,.int .i64 g)],[(1000003000,some ⟨List.map Agent.ds q,some 5,0,.no⟩)],[(1,some [.own 1000003000])]⟩):=by
 induction n with
 |zero=>exact((fun _ _ _ _ _ _ h=>by rw [Ef] at h; cases h))
 | succ n ih=>
  have p:=ih
  ·intro u w y q g r h
   rw [Ef] at h
   refine AM rfl rfl (Z ?_)
   refine Ai (Z ?_)
   refine AI h (fun h=>Z ?_) (fun h=>Z ?_)
   ·refine AK ?_
    replace h:=AB h; obtain⟨j,k,h⟩:=h
    refine caG ⟨[],[(1001,1000003000)],[(1,1,0)],[(1501,336016)],[],true⟩ (EU _ _ _ _ _ _ _ k) (Z ?_)
    refine AK ?_
    replace h:=AB h; obtain⟨b,d,h⟩:=h
    refine AL (AO _ _ _ d) (Z ?_)
    replace h:=AB h; obtain⟨c,e,h⟩:=h
    refine AL (AO _ _ _ e) (Z ?_)
    replace h:=AB h; obtain⟨i,l,h⟩:=h
    refine caG ⟨[],[(1001,336016)],[(1,1,0)],[(1501,352096)],[],true⟩ (C6 _ _ _ _ l) (Z ?_)
    exact AF (k1 p) h
   ·exact AF (k1 El) h
theorem VH (a0:List Net) (a1:Net) (u:Int × Int) (w:Int) (y:Bool) (r:Int × Net) (h:Gl a0 a1 u w y=some r):BK prog f24 [1,1,1,1,1,1,0,1,0,1] (.int .i64 r.1) [(1501,⟨List.map Agent.ds r.2.agents,some 5,0,.no⟩)] [(1,[.own 1501])] ⟨[(0,.ro (a0.map Net.ds)),(1,.box 1 0),(2,.int .i64 u.1),(3,.int .i64 u.2),(11,.int .i64 w),(51,.int .i64 w),(52,.bool y)],[(1000000000,some ⟨List.map Agent.ds a1.agents,some 5,0,.no⟩)],[(1,some [.own 1000000000])]⟩:=by
 unfold Gl at h
 refine AM rfl rfl (Z ?_)
 refine AI h (fun h=>Z ?_) (fun h=>Z ?_)
 ·replace h:=AB h; obtain⟨q,g,h⟩:=h
  refine AL (AO _ _ _ g) (Z ?_)
  replace h:=AB h; obtain⟨k,b,h⟩:=h
  refine AL (AO _ _ _ b) (Z ?_)
  replace h:=AB h; obtain⟨d,c,h⟩:=h
  refine caG ⟨[],[(1001,1000000000)],[(1,1,0)],[(1501,192080)],[],true⟩ (QI _ _ _ _ c) (Z ?_)
  refine AK ?_
  replace h:=AB h; obtain⟨e,i,h⟩:=h
  refine AL (AO _ _ _ i) (Z ?_)
  replace h:=AB h; obtain⟨l,t,h⟩:=h
  refine AL (AO _ _ _ t) (Z ?_)
  replace h:=AB h; obtain⟨s,o,h⟩:=h
  refine caG ⟨[],[(1001,192080)],[(1,1,0)],[(1501,208080)],[],true⟩ (QI _ _ _ _ o) (Z ?_)
  exact AF (k1 El) h
 ·refine AI h (fun h=>Z ?_) (fun h=>Z ?_)
  ·replace h:=AB h; obtain⟨z,U,h⟩:=h
   refine caG ⟨[],[(1001,1000000000)],[(1,1,0)],[(1501,240048)],[],true⟩ (QO _ _ _ _ U) (Z ?_)
   exact AF (k1 El) h
  ·refine AI h (fun h=>Z ?_) (fun h=>Z ?_)
   ·replace h:=AB h; obtain⟨I,v,h⟩:=h
    refine AS v (Agent.ds_len _) (Z ?_)
    refine AX (AP v) (Z ?_)
    refine AX (Es (sz:=5) (j:=4) (r:=List.map Port.ds I.ports) (AP (f:=Agent.ds) v) (Agent.ds_len _) (by rw [Agent.ds_eq]; rfl)) (Z ?_)
    exact AF (k1 VG) h
   ·refine AI h (fun h=>Z ?_) (fun h=>Z ?_)
    ·replace h:=AB h; obtain⟨Y,O,h⟩:=h
     refine caG ⟨[],[(1001,1000000000)],[(1,1,0)],[(1501,384048)],[],true⟩ (SX _ _ _ _ O) (Z ?_)
     exact AF (k1 El) h
    ·refine AI h (fun h=>Z ?_) (fun h=>Z ?_)
     ·replace h:=AB h; obtain⟨u6,J,h⟩:=h
      refine caG ⟨[],[(1001,1000000000)],[(1,1,0)],[(1501,416048)],[],true⟩ (Ul _ _ _ _ J) (Z ?_)
      exact AF (k1 El) h
     ·refine AI h (fun h=>Z ?_) (fun h=>Z ?_)
      ·replace h:=AB h; obtain⟨u8,F,h⟩:=h
       refine AS F (Agent.ds_len _) (Z ?_)
       refine AX (AP F) (Z ?_)
       replace h:=AB h; obtain⟨W,C,h⟩:=h
       refine AS C (Net.ds_len _) (Z ?_)
       replace h:=AB h; obtain⟨G,p,h⟩:=h
       refine caG ⟨[],[(1001,1000000000)],[(1,1,0)],[(1501,448208)],[],true⟩ (Um _ _ _ _ _ p) (Z ?_)
       exact AF (k1 El) h
      ·exact AF (k1 El) h
theorem bL (a0 a1 a2 a3 r) (h:J3 a0 a1 a2 a3=some r):AG prog 24 [.ro (a0.map Net.ds),.box 1 0,.int .i64 a2,.int .i64 a3] [(1001,⟨List.map Agent.ds a1.agents,some 5,0,.no⟩)] [(1,[.own 1001])] (.int .i64 r.1) [(1501,⟨List.map Agent.ds r.2.agents,some 5,0,.no⟩)] [(1,[.own 1501])] :=by
 unfold J3 at h
 refine agF func24 mixed (h:=Z ?_)
 replace h:=AB h; obtain⟨u,w,h⟩:=h
 refine AL (Uj _ _ _ _ _ w) (Z ?_)
 refine AK ?_
 refine AI h (fun h=>Z ?_) (fun h=>Z ?_)
 ·exact AF trivial h
 ·refine AK ?_
  replace h:=AB h; obtain⟨y,q,h⟩:=h
  refine AL (Xd _ _ q) (Z ?_)
  refine AK ?_
  refine AI h (fun h=>Z ?_) (fun h=>Z ?_)
  ·exact AF trivial h
  ·refine AK ?_
   replace h:=AB h; obtain⟨g,j,h⟩:=h
   refine AL (KH _ _ _ _ j) (Z ?_)
   refine AK ?_
   refine AW [] .fin (by kernel_rfl) (Z ?_)
   replace h:=AB h; obtain⟨k,b,h⟩:=h
   refine AS b (Agent.ds_len _) (Z ?_)
   replace h:=AB h; obtain⟨d,c,h⟩:=h
   refine AS c (Agent.ds_len _) (Z ?_)
   replace h:=AB h; obtain⟨e,i,h⟩:=h
   refine Qz (by simp only [AP b,AP c,Agent.ds_eq,go_sem,Nat.reduceEqDiff,reduceIte] <;> rfl) (KI _ _ _ i) (Z ?_)
   exact AF (k1 VH) h
theorem QR (n:Nat):(∀v u w y r,Bc n v u w y=some r→BK prog f25 [1,1,1,1,0,1,0] (.tup []) [(1501,⟨List.map Agent.ds r.agents,some 5,0,.no⟩)] [(1,[.own 1501])] ⟨[(0,.box 1 0),(2,.own 1000007001),(5,.own 1000007002),(6,.int .i64 y)],(tkL1 1000007000 v.agents u w),[(1,some [.own 1000007000])]⟩)∧
    (∀v u w y q g j r,Dn n v u w y q g j=some r→BK prog f25 [1,1,1,1,0,1,0,0,1,0,0,1,0,1,0,1,0] (.tup []) [(1501,⟨List.map Agent.ds r.agents,some 5,0,.no⟩)] [(1,[.own 1501])] ⟨[(0,.box 1 0),(2,.own 1000011001),(5,.own 1000011002),(6,.int .i64 y),(7,.box 1000011500 0),(8,.int .i64 j)],[(1000011000,some ⟨List.map Agent.ds v.agents,some 5,0,.no⟩),(1000011001,some ⟨List.map AD u,some 1,0,.no⟩),(1000011002,some ⟨List.map Agent.ds w,some 5,0,.no⟩),(1000011003,some ⟨List.map AD q.data,some 1,0,.no⟩),(1000011004,some ⟨List.map Port.ds g,some 2,0,.no⟩)],[(1,some [.own 1000011000]),(1000011500,some [.int .i64 q.kind,.int .i64 q.level,.int .i64 q.value,.own 1000011003,.own 1000011004])]⟩):=by
 induction n with
 |zero=>exact⟨(fun _ _ _ _ _ h=>by rw [Bc] at h; cases h),(fun _ _ _ _ _ _ _ _ h=>by rw [Dn] at h; cases h)⟩
 | succ n ih=>
  obtain⟨F,G⟩:=ih
  refine⟨?_,?_⟩
  ·intro v u w y r h
   rw [Bc] at h
   refine AM rfl rfl (Z ?_)
   refine Ai (Z ?_)
   refine AI h (fun h=>Z ?_) (fun h=>Z ?_)
   ·refine AK ?_
    replace h:=AB h; obtain⟨k,b,h⟩:=h
    refine AS b (Agent.ds_len _) (Z ?_)
    refine AX (AP b) (Z ?_)
    refine AI h (fun h=>Z ?_) (fun h=>Z ?_)
    ·replace h:=AB h; obtain⟨d,c,h⟩:=h
     refine AS c (Agent.ds_len _) (Z ?_)
     replace h:=AB h; obtain⟨q,e,h⟩:=h
     refine Qz (by simp only [AP c,Agent.ds_eq,go_sem,Nat.reduceEqDiff,reduceIte] <;> rfl) (Dt _ _ e) (Z ?_)
     exact AF (k1 G) h
    ·exact AF (k1 F) h
   ·exact AF trivial h
  ·intro v u w y q g j r h
   rw [Dn] at h
   refine AM rfl rfl (Z ?_)
   refine Ai (Z ?_)
   refine AI h (fun h=>Z ?_) (fun h=>Z ?_)
   ·refine AK ?_
    refine AW [false,false,false,false,false,false,false,false,false,false,false,false,false,false,true] (Tr.sq [14] .fin) (by kernel_rfl) (Z ?_)
    replace h:=AB h; obtain⟨i,l,h⟩:=h
    refine AS l (Port.ds_len _) (Z ?_)
    refine AX (AP l) (Z ?_)
    replace h:=AB h; obtain⟨t,s,h⟩:=h
    refine AS s rfl (Z ?_)
    refine AX (AP s) (Z ?_)
    replace h:=AB h; obtain⟨o,z,h⟩:=h
    refine AS z (Port.ds_len _) (Z ?_)
    replace h:=AB h; obtain⟨U,J,h⟩:=h
    refine AX (AP z) (Z ?_)
    refine Ar (U.map Port.ds) (by rw [← Ah J]; simp only [List.map_set,go_sem,Port.ds_eq]) (Z ?_)
    exact AF (k1 G) h
   ·refine AK ?_
    replace h:=AB h; obtain⟨W,O,h⟩:=h
    have I:=AT O
    obtain⟨C,p⟩:=I
    refine BO .no (Z ?_)
    refine By (Z ?_)
    refine Ar (W.map Agent.ds) (by rw [← p]; simp only [List.map_append,List.map_cons,List.map_nil,List.nil_append,List.append_nil,go_sem,Agent.ds_eq]) (Z ?_)
    exact AF (k1 F) h
def RK (n:Nat):=(QR n).1
theorem SY (n:Nat):(∀v u w y r,Dd n v u w y=some r→BK prog f25 [1,1,0,1,0] (.tup []) [(1501,⟨List.map Agent.ds r.agents,some 5,0,.no⟩)] [(1,[.own 1501])] ⟨[(0,.box 1 0),(2,.own 1000001001),(3,.int .i64 w),(4,.int .i64 y)],[(1000001000,some ⟨List.map Agent.ds v.agents,some 5,0,.no⟩),(1000001001,some ⟨List.map AD u,some 1,0,.no⟩)],[(1,some [.own 1000001000])]⟩):=by
 induction n with
 |zero=>exact((fun _ _ _ _ _ h=>by rw [Dd] at h; cases h))
 | succ n ih=>
  have C:=ih
  ·intro v u w y r h
   rw [Dd] at h
   refine AM rfl rfl (Z ?_)
   refine Ai (Z ?_)
   refine AI h (fun h=>Z ?_) (fun h=>Z ?_)
   ·refine AK ?_
    replace h:=AB h; obtain⟨q,g,h⟩:=h
    have F:=AT g
    obtain⟨p,j⟩:=F
    refine BO .no (Z ?_)
    refine By (Z ?_)
    refine F0 AD j (Z ?_)
    exact AF (k1 C) h
   ·refine AK ?_
    refine AK ?_
    refine CH (DL rfl rfl (RK fuel v u [] 0 _ h):) (.one ⟨_,.lt 5 2000000000 9000 0 5 .no [] (k:=.done _),[(1000007000,1000001000),(1000007001,1000001001),(1000007002,2000000000)],[(1,1)],?_⟩)
    simp only [go_sem]
    all_goals try rfl
theorem XW (a0 r) (h:Iw a0=some r):AG prog 25 [.box 1 0] [(1001,⟨List.map Agent.ds a0.agents,some 5,0,.no⟩)] [(1,[.own 1001])] (.tup []) [(1501,⟨List.map Agent.ds r.agents,some 5,0,.no⟩)] [(1,[.own 1501])] :=by
 unfold Iw at h
 refine agF func25 mixed (h:=Z ?_)
 refine AK ?_
 refine CH (DL rfl rfl (SY fuel a0 [] 0 0 _ h):) (.one ⟨_,.lt 2 2000000000 1000 0 1 .no [] (k:=.done _),[(1000001000,1001),(1000001001,2000000000)],[(1,1)],?_⟩)
 simp only [go_sem]
 all_goals try rfl
theorem Un (n:Nat):(∀F u w r,F8 n F u w=some r→Aa prog f20 [1,1,0,1,0] (.agg (Net.rv r)) ⟨[(0,.rop [.ro (F.agents.map Agent.ds)] 0),(2,.box 1000001500 0),(3,.box 1000001501 0),(4,.int .i64 w)],[(1000001000,some ⟨List.map Agent.ds u,some 5,0,.no⟩)],[(1000001500,some [.nils]),(1000001501,some [.own 1000001000])]⟩):=by
 induction n with
 |zero=>exact((fun _ _ _ _ h=>by rw [F8] at h; cases h))
 | succ n ih=>
  have C:=ih
  ·intro F u w r h
   rw [F8] at h
   refine BL rfl rfl (Z ?_)
   refine Ai (Z ?_)
   refine AI h (fun h=>Z ?_) (fun h=>Z ?_)
   ·refine AK ?_
    refine AW [false,false,false,false,false,false,false,false,false,false,true,true,true] (Tr.sq [10,11,12] .fin) (by kernel_rfl) (Z ?_)
    replace h:=AB h; obtain⟨y,q,h⟩:=h
    refine AS q (Agent.ds_len _) (Z ?_)
    replace h:=AB h; obtain⟨g,j,h⟩:=h
    refine AL (Dt _ _ j) (Z ?_)
    replace h:=AB h; obtain⟨k,b,h⟩:=h
    have G:=AT b
    obtain⟨v,p⟩:=G
    refine BO .no (Z ?_)
    refine By (Z ?_)
    refine Ar (k.map Agent.ds) (by rw [← p]; simp only [List.map_append,List.map_cons,List.map_nil,List.nil_append,List.append_nil,go_sem,Agent.ds_eq]) (Z ?_)
    exact AF (k1 C) h
   ·exact AF trivial h
theorem Zb (a0 r) (h:Ms a0=some r):AC prog 20 [.rop (Net.avs a0) 0] (.agg (Net.rv r)):=by
 unfold Ms at h
 refine acF func20 mixed (h:=Z ?_)
 refine AK ?_
 refine AK ?_
 refine CH (DZ rfl rfl (Un fuel a0 [] 0 _ h):) (.one ⟨_,.ce 2001 0 2000000000 (some 5) .no (k:=.done _),[(1000001000,2000000000)],[(1000001500,1000),(1000001501,2001)],?_⟩)
 simp only [go_sem]
 all_goals try rfl
end Go.Proofs.YthenkmapmnkelaaGreatDoor.Ab
