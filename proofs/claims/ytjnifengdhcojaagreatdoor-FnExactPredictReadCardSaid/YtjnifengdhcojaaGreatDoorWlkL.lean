/- The functions do what their models say. -/
import Derived.Test.YtjnifengdhcojaaGreatDoorModL
import Derived.Test.YtjnifengdhcojaaGreatDoorTi2
import Derived.Test.YtjnifengdhcojaaGreatDoorWlkD
namespace Go.Proofs.YtjnifengdhcojaaGreatDoor.Ab
set_option linter.defProp false
set_option linter.unusedVariables false
set_option linter.unusedSimpArgs false
set_option maxRecDepth 20000
set_option maxHeartbeats 4000000
open Go.RowKit _root_.Go.Proofs.Tryz
@[go_sem] def tkL1 (b:Nat) (x0:List Int) (x1:List Core) (x2:List Int) (x3:List Int):List (Nat×Option Tok):=[(b,some ⟨List.map AD x0,some 1,0,.no⟩),(b+1,some ⟨List.map Core.ds x1,some 4,0,.no⟩),(b+2,some ⟨List.map AD x2,some 1,0,.no⟩),(b+3,some ⟨List.map AD x3,some 1,0,.no⟩)]
theorem QY (n:Nat):(∀p u w y r,B4 n p u w y=some r→AR prog f32 [1,1,1,1,0,1,0] (.tup [.ow (some 1) (r.1.map AD),.agg (Core.rv r.2.1),.int .i64 r.2.2]) ⟨[(1,.int .i64 p),(5,.box 1000002500 0),(7,.box 1000002501 0),(8,.box 1000002502 0),(9,.own 1000002005),(10,.int .i64 y)],[(1000002000,some ⟨List.map AD u.1.data,some 1,0,.no⟩),(1000002001,some ⟨List.map Core.ds u.1.kids,some 4,0,.no⟩),(1000002002,some ⟨List.map AD u.2.entered,some 1,0,.no⟩),(1000002003,some ⟨List.map AD u.2.origins,some 1,0,.no⟩),(1000002004,some ⟨List.map BI u.2.labels,some 1,0,.no⟩),(1000002005,some ⟨List.map AD w,some 1,0,.no⟩)],[(1000002500,some [.int .i64 0,.int .i64 0,.nils,.nils]),(1000002501,some [.int .i64 u.1.kind,.int .i64 u.1.value,.own 1000002000,.own 1000002001]),(1000002502,some [.rop [.ro (u.2.n.agents.map Agent.ds)] 0,.int .i64 u.2.steps,.int .i64 u.2.nodes,.own 1000002002,.own 1000002003,.own 1000002004,.int .i64 u.2.code])]⟩)∧
    (∀p w y u q r,EK n p w y u q=some r→AR prog f32 [1,1,1,1,0,1,0,0,1,0,0,1] (.tup [.ow (some 1) (r.1.map AD),.agg (Core.rv r.2.1),.int .i64 r.2.2]) ⟨[(1,.int .i64 p),(5,.box 1000003500 0),(7,.box 1000003501 0),(8,.box 1000003502 0),(9,.own 1000003005),(10,.int .i64 y),(49,.bool q)],[(1000003000,some ⟨List.map AD u.1.data,some 1,0,.no⟩),(1000003001,some ⟨List.map Core.ds u.1.kids,some 4,0,.no⟩),(1000003002,some ⟨List.map AD u.2.entered,some 1,0,.no⟩),(1000003003,some ⟨List.map AD u.2.origins,some 1,0,.no⟩),(1000003004,some ⟨List.map BI u.2.labels,some 1,0,.no⟩),(1000003005,some ⟨List.map AD w,some 1,0,.no⟩)],[(1000003500,some [.int .i64 0,.int .i64 0,.nils,.nils]),(1000003501,some [.int .i64 u.1.kind,.int .i64 u.1.value,.own 1000003000,.own 1000003001]),(1000003502,some [.rop [.ro (u.2.n.agents.map Agent.ds)] 0,.int .i64 u.2.steps,.int .i64 u.2.nodes,.own 1000003002,.own 1000003003,.own 1000003004,.int .i64 u.2.code])]⟩):=by
 induction n with
 |zero=>exact⟨(fun _ _ _ _ _ h=>by rw [B4] at h; cases h),(fun _ _ _ _ _ _ h=>by rw [EK] at h; cases h)⟩
 | succ n ih=>
  obtain⟨C,F⟩:=ih
  refine⟨?_,?_⟩
  ·intro p u w y r h
   rw [B4] at h
   refine Am rfl rfl (Z ?_)
   refine A5 (Z ?_)
   refine AJ h (fun h=>Z ?_) (fun h=>Z ?_)
   ·exact AF (k1 F) h
   ·refine AL ?_
    refine AY [false,false,false,true,true] (Tr.sq [3,4] .fin) (by kernel_rfl) (Z ?_)
    exact AF trivial h
  ·intro p w y u q r h
   rw [EK] at h
   refine Am rfl rfl (Z ?_)
   refine AJ h (fun h=>Z ?_) (fun h=>Z ?_)
   ·replace h:=AB h; obtain⟨k,b,h⟩:=h
    have G:=Ad b
    obtain⟨v,j⟩:=G
    refine Bp .no (Z ?_)
    refine CN (Z ?_)
    refine Hf AD j (Z ?_)
    exact AF (k1 C) h
   ·exact AF (k1 C) h
def Rg (n:Nat):=(QY n).1
theorem V9 (a0 a1 r) (h:JX a0 a1=some r):AC prog 32 [.rop (Net.avs a0) 0,.int .i64 a1] (.tup [.ow (some 1) (r.1.map AD),.agg (Core.rv r.2.1),.int .i64 r.2.2]):=by
 unfold JX at h
 refine acF func32 mixed (h:=Z ?_)
 refine AL ?_
 replace h:=AB h; obtain⟨u,w,h⟩:=h
 refine caG ⟨[],[],[],((1501,32016)::(1502,32017)::r3 1503 32019 []),[(1601,32018)],true⟩ (YY _ _ w) (Z ?_)
 refine AL ?_
 refine AJ h (fun h=>Z ?_) (fun h=>Z ?_)
 ·refine AY [true,false,false,true,true,true,true,true,true] (.br 0 (Tr.sq [6] (.br 3 (Tr.sq [4] (.br 5 (Tr.sq [7,8] .fin) (.br 7 (Tr.sq [5,8] .fin) .stop))) (.br 7 (Tr.sq [3,4,5,8] .fin) .stop))) (.br 3 (Tr.sq [4] (.br 0 (Tr.sq [6] (.br 5 (Tr.sq [7,8] .fin) (.br 7 (Tr.sq [5,8] .fin) .stop))) (.br 5 (Tr.sq [0,6,7,8] .fin) .stop))) .stop)) (by kernel_rfl) ?_
  try simp only [go_sem]
  repeat' first|((with_reducible show iQ _ _ _ _); refine iR (Z ?_) (Z ?_))
  all_goals
   exact AF trivial h
 ·refine AL ?_
  refine AL ?_
  refine CL (CS rfl rfl (Rg fuel a1 u [] 0 _ h):) (.one ⟨_,.lt 9 2000000000 5000 0 1 .no [] (k:=.done _),((1000002000,32016)::(1000002001,32017)::r3 1000002002 32019 [(1000002005,2000000000)]),[(1000002500,1001),(1000002501,2005),(1000002502,32018)],?_⟩)
  simp only [go_sem]
  all_goals try rfl
theorem QZ (a0 a1 a2 a3 r) (h:I3 a0 a1 a2 a3=some r):AC prog 174 [.int .i64 a0,.int .i64 a1,.int .i64 a2,.int .i64 a3] (.bool r):=by
 unfold I3 at h
 refine acF func174 mixed (h:=Z ?_)
 exact AF (k1 KL) h
theorem Oq (a0:Int) (a1:Int) (a2:Int) (u:Bool) (r:Bool) (h:FI a0 a1 a2 u=some r):AR prog f221 [1,1,0,1] (.bool r) ⟨[(0,.int .i64 a0),(1,.int .i64 a1),(2,.int .i64 a2),(21,.bool u)],[],[]⟩:=by
 unfold FI at h
 exact AF (k1 N8) h
theorem Ot (a0:Int) (a1:Int) (a2:Int) (u:Bool) (r:Bool) (h:FJ a0 a1 a2 u=some r):AR prog f221 [1,0,1] (.bool r) ⟨[(0,.int .i64 a0),(1,.int .i64 a1),(2,.int .i64 a2),(15,.bool u)],[],[]⟩:=by
 unfold FJ at h
 exact AF (k1 Oq) h
theorem Sy (a0 a1 a2 r) (h:G9 a0 a1 a2=some r):AC prog 221 [.int .i64 a0,.int .i64 a1,.int .i64 a2] (.bool r):=by
 unfold G9 at h
 refine acF func221 mixed (h:=Z ?_)
 exact AF (k3 CA Ot KL) h
theorem Ou (u:Bool) (r:Bool) (h:CH u=some r):AR prog f222 [1,0,1,0,1] (.bool r) ⟨[(4,.bool u)],[],[]⟩:=by
 unfold CH at h
 exact AF trivial h
theorem Sz (a0 r) (h:HA a0=some r):AC prog 222 [.int .i64 a0] (.bool r):=by
 unfold HA at h
 refine acF func222 mixed (h:=Z ?_)
 exact AF (k1 Ou) h
theorem S0 (a1:Int) (a2:Int) (a3:Int) (u:Bool) (r:Int) (h:HC a1 a2 a3 u=some r):AR prog f175 [1,0,1,0,1,1,1,0,0,1] (.int .i64 r) ⟨[(1,.int .i64 a1),(2,.int .i64 a2),(3,.int .i64 a3),(20,.bool u)],[],[]⟩:=by
 unfold HC at h
 exact AF (k1 Sy) h
theorem S1 (u:Bool) (r:Int) (h:HD u=some r):AR prog f175 [1,0,1,0,1,1,1,1,1,0,1] (.int .i64 r) ⟨[(33,.bool u)],[],[]⟩:=by
 unfold HD at h
 exact AF trivial h
theorem S2 (a2:Int) (u:Bool) (r:Int) (h:HE a2 u=some r):AR prog f175 [1,0,1,0,1,1,1,1,1,1,1,0,1,0,1] (.int .i64 r) ⟨[(36,.int .i64 a2),(37,.bool u)],[],[]⟩:=by
 unfold HE at h
 exact AF trivial h
theorem Qa (a0 a1 a2 a3 r) (h:Gu a0 a1 a2 a3=some r):AC prog 175 [.int .i64 a0,.int .i64 a1,.int .i64 a2,.int .i64 a3] (.int .i64 r):=by
 unfold Gu at h
 refine acF func175 mixed (h:=Z ?_)
 exact AF (k4 S0 S1 S2 Sz) h
theorem Rh (a0 a1 a2 a3 r) (h:GP a0 a1 a2 a3=some r):AC prog 118 [.int .i64 a0,.int .i64 a1,.int .i64 a2,.int .i64 a3] (.int .i64 r):=by
 unfold GP at h
 refine acF func118 mixed (h:=Z ?_)
 exact AF (k2 QZ Qa) h
theorem WA (a0 a1 a2 r) (h:LU a0 a1 a2=some r):AC prog 62 [.rop (Net.avs a0) 0,.int .i64 a1,.int .i64 a2] (.tup [.int .i64 r.1,.int .i64 r.2]):=by
 unfold LU at h
 refine acF func62 mixed (h:=Z ?_)
 exact AF (k1 Rh) h
theorem Qb (u:Int) (r:Int) (h:Ft u=some r):AR prog f119 [1,1,1,1] (.int .i64 r) ⟨[(9,.int .i64 u)],[],[]⟩:=by
 unfold Ft at h
 exact AF trivial h
theorem VW (a0 a1 a2 a3 r) (h:IP a0 a1 a2 a3=some r):AC prog 119 [.int .i64 a0,.int .i64 a1,.int .i64 a2,.int .i64 a3] (.int .i64 r):=by
 unfold IP at h
 refine acF func119 mixed (h:=Z ?_)
 exact AF (k3 QZ Qa Qb) h
theorem Ri (a0:Agent) (a1:Agent) (u:Bool) (r:Int) (h:FX a0 a1 u=some r):AR prog f63 [1,1,0,1] (.int .i64 r) ⟨[(0,.rop (Agent.avs a0) 0),(1,.rop (Agent.avs a1) 0),(52,.bool u)],[],[]⟩:=by
 unfold FX at h
 exact AF (k1 VW) h
theorem Rj (a0:Agent) (a1:Agent) (u:Bool) (r:Int) (h:FY a0 a1 u=some r):AR prog f63 [1,0,1] (.int .i64 r) ⟨[(0,.rop (Agent.avs a0) 0),(1,.rop (Agent.avs a1) 0),(28,.bool u)],[],[]⟩:=by
 unfold FY at h
 exact AF (k1 Ri) h
theorem WB (a0 a1 r) (h:JY a0 a1=some r):AC prog 63 [.rop (Agent.avs a0) 0,.rop (Agent.avs a1) 0] (.int .i64 r):=by
 unfold JY at h
 refine acF func63 mixed (h:=Z ?_)
 exact AF (k1 Rj) h
theorem Nh (a0:Net) (u:Int × Int) (w:Int) (y:Bool) (r:Int) (h:CR a0 u w y=some r):AR prog f33 [1,1,0,1,0,1] (.int .i64 r) ⟨[(0,.rop [.ro (a0.agents.map Agent.ds)] 0),(6,.int .i64 u.2),(28,.int .i64 w),(29,.bool y)],[],[]⟩:=by
 unfold CR at h
 exact AF trivial h
theorem Rk (a0 a1 r) (h:FZ a0 a1=some r):AC prog 33 [.rop (Net.avs a0) 0,.agg (Pair.avs a1)] (.int .i64 r):=by
 unfold FZ at h
 refine acF func33 mixed (h:=Z ?_)
 exact AF (k3 WA WB Nh) h
theorem Qc (n:Nat):(∀v u w r,Bk n v u w=some r→AR prog f31 [1,1,0,1,0] (.ow (some 2) (r.map Pair.ds)) ⟨[(0,.rop [.ro (v.agents.map Agent.ds)] 0),(3,.own 1000002000),(4,.int .i64 w)],[(1000002000,some ⟨List.map Pair.ds u,some 2,0,.no⟩)],[]⟩)∧
    (∀v u w y q r,Fa n v u w y q=some r→AR prog f31 [1,1,0,1,0,0,1,0,0,1,1,1] (.ow (some 2) (r.map Pair.ds)) ⟨[(0,.rop [.ro (v.agents.map Agent.ds)] 0),(3,.own 1000003000),(4,.int .i64 w),(5,.box 1000003500 0),(43,.bool q)],[(1000003000,some ⟨List.map Pair.ds u,some 2,0,.no⟩)],[(1000003500,some [.int .i64 y.agent,.int .i64 y.slot])]⟩):=by
 induction n with
 |zero=>exact⟨(fun _ _ _ _ h=>by rw [Bk] at h; cases h),(fun _ _ _ _ _ _ h=>by rw [Fa] at h; cases h)⟩
 | succ n ih=>
  obtain⟨p,F⟩:=ih
  refine⟨?_,?_⟩
  ·intro v u w r h
   rw [Bk] at h
   exact AF (k2 p F) h
  ·intro v u w y q r h
   rw [Fa] at h
   refine Am rfl rfl (Z ?_)
   refine AJ h (fun h=>Z ?_) (fun h=>Z ?_)
   ·replace h:=AB h; obtain⟨c,e,h⟩:=h
    have G:=Ad e
    obtain⟨C,j⟩:=G
    refine Bp .no (Z ?_)
    refine CN (Z ?_)
    refine A4 (c.map Pair.ds) (by rw [← j]; simp only [List.map_append,List.map_cons,List.map_nil,List.nil_append,List.append_nil,go_sem,Pair.ds_eq]) (Z ?_)
    exact AF (k1 p) h
   ·exact AF (k1 p) h
def Rl (n:Nat):=(Qc n).1
theorem WC (a0 r) (h:JZ a0=some r):AC prog 31 [.rop (Net.avs a0) 0] (.ow (some 2) (r.map Pair.ds)):=by
 unfold JZ at h
 refine acF func31 mixed (h:=Z ?_)
 refine AL ?_
 refine CL (CS rfl rfl (Rl fuel a0 [] 1 _ h):) (.one ⟨_,.lt 3 2000000000 2000 0 2 .no [] (k:=.done _),[(1000002000,2000000000)],[],?_⟩)
 simp only [go_sem]
 all_goals try rfl
theorem YZ (a0 a1 r) (h:Kp a0 a1=some r):AC prog 47 [.rop (Net.avs a0) 0,.int .i64 a1] (.tup [.agg (Pair.rv r.1),.int .i64 r.2]):=by
 unfold Kp at h
 refine acF func47 mixed (h:=Z ?_)
 exact AF (k3 cq WC CA) h
theorem Rm (a0 a1 a2 r) (h:GL a0 a1 a2=some r):AC prog 20 [.agg (Book.avs a0),.agg (Net.avs a1),.int .i64 a2] (.tup [.agg (Core.rv r.1),.int .i64 r.2]):=by
 unfold GL at h
 refine acF func20 mixed (h:=Z ?_)
 exact AF (k4 YZ Rk V9 VQ) h
theorem Ov (a0:Int) (a1:Int) (a2:Int) (u:Bool) (r:Bool) (h:FK a0 a1 a2 u=some r):AR prog f256 [1,0,1] (.bool r) ⟨[(0,.int .i64 a0),(1,.int .i64 a1),(2,.int .i64 a2),(15,.bool u)],[],[]⟩:=by
 unfold FK at h
 exact AF (k1 N9) h
theorem S3 (a0 a1 a2 r) (h:HF a0 a1 a2=some r):AC prog 256 [.int .i64 a0,.int .i64 a1,.int .i64 a2] (.bool r):=by
 unfold HF at h
 refine acF func256 mixed (h:=Z ?_)
 exact AF (k3 Qd Ov Jn) h
theorem S4 (a0 r) (h:HG a0=some r):AC prog 257 [.int .i64 a0] (.bool r):=by
 unfold HG at h
 refine acF func257 mixed (h:=Z ?_)
 exact AF trivial h
theorem S5 (a1:Int) (a2:Int) (a3:Int) (u:Bool) (r:Int) (h:HH a1 a2 a3 u=some r):AR prog f233 [1,0,1,0,1,1,1,0,0,1] (.int .i64 r) ⟨[(1,.int .i64 a1),(2,.int .i64 a2),(3,.int .i64 a3),(14,.bool u)],[],[]⟩:=by
 unfold HH at h
 exact AF (k1 S3) h
theorem S6 (u:Bool) (r:Int) (h:HJ u=some r):AR prog f233 [1,0,1,0,1,1,1,1,1,0,1] (.int .i64 r) ⟨[(35,.bool u)],[],[]⟩:=by
 unfold HJ at h
 exact AF trivial h
theorem S7 (a2:Int) (u:Bool) (r:Int) (h:HK a2 u=some r):AR prog f233 [1,0,1,0,1,1,1,1,1,1,1,0,1,0,1] (.int .i64 r) ⟨[(38,.int .i64 a2),(39,.bool u)],[],[]⟩:=by
 unfold HK at h
 exact AF trivial h
theorem Ya (a0 a1 a2 a3 r) (h:I4 a0 a1 a2 a3=some r):AC prog 233 [.int .i64 a0,.int .i64 a1,.int .i64 a2,.int .i64 a3] (.int .i64 r):=by
 unfold I4 at h
 refine acF func233 mixed (h:=Z ?_)
 exact AF (k4 S5 S6 S7 S4) h
theorem VX (a0:Int) (a1:Int) (a2:Int) (a3:Int) (u:Bool) (r:Int × Int) (h:Fv a0 a1 a2 a3 u=some r):AR prog f190 [1,0,1] (.tup [.int .i64 r.1,.int .i64 r.2]) ⟨[(0,.int .i64 a0),(1,.int .i64 a1),(2,.int .i64 a2),(3,.int .i64 a3),(29,.bool u)],[],[]⟩:=by
 unfold Fv at h
 exact AF (k1 Ya) h
theorem ai (a0 a1 a2 a3 r) (h:Mm a0 a1 a2 a3=some r):AC prog 190 [.int .i64 a0,.int .i64 a1,.int .i64 a2,.int .i64 a3] (.tup [.int .i64 r.1,.int .i64 r.2]):=by
 unfold Mm at h
 refine acF func190 mixed (h:=Z ?_)
 exact AF (k2 VX Jn) h
theorem Ni (u:Int × Int) (w:Bool) (r:Int × Bool) (h:DN u w=some r):AR prog f138 [1,1,1,1,0,1] (.tup [.int .i64 r.1,.bool r.2]) ⟨[(8,.int .i64 u.1),(9,.int .i64 u.2),(56,.bool w)],[],[]⟩:=by
 unfold DN at h
 exact AF trivial h
theorem Nj (u:Int × Int) (w:Int) (y:Int) (q:Int) (g:List Int) (j:List Port) (k:Int) (b:Int) (d:Int) (c:List Int) (e:List Port) (r:Int × Bool) (h:DO u w y q g j k b d c e=some r):AR prog f138 [1,1,1,1] (.tup [.int .i64 r.1,.bool r.2]) ⟨[(6,.box 1000000500 0),(7,.box 1000000501 0),(8,.int .i64 u.1),(9,.int .i64 u.2)],[],[(1000000500,some [.int .i64 w,.int .i64 y,.int .i64 q,.ro (g.map AD),.ro (j.map Port.ds)]),(1000000501,some [.int .i64 k,.int .i64 b,.int .i64 d,.ro (c.map AD),.ro (e.map Port.ds)])]⟩:=by
 unfold DO at h
 exact AF (k1 Ni) h
theorem Rn (a0 a1 r) (h:GQ a0 a1=some r):AC prog 138 [.rop (Net.avs a0) 0,.agg (Pair.avs a1)] (.tup [.int .i64 r.1,.bool r.2]):=by
 unfold GQ at h
 refine acF func138 mixed (h:=Z ?_)
 refine ng [] [(16,18),(17,19)] .fin (by kernel_rfl) (Z ?_)
 replace h:=AB h; obtain⟨u,w,h⟩:=h
 refine AS w (Agent.ds_len _) (Z ?_)
 replace h:=AB h; obtain⟨y,q,h⟩:=h
 refine AS q (Agent.ds_len _) (Z ?_)
 refine mz _ (by rfl) (by (first|(simp only [go_sem]; done)|(simp only [go_sem]; decide)|decide)) (by rfl) (Z ?_)
 refine mz _ (by rfl) (by (first|(simp only [go_sem]; done)|(simp only [go_sem]; decide)|decide)) (by rfl) (Z ?_)
 refine qh (by refine⟨by rfl,by rfl,trivial⟩) (Z ?_)
 exact AF (k2 ai Nj) h
theorem Lp (a0:Net) (u:Int) (w:Int × Bool) (y:Bool) (r:Int) (h:BH a0 u w y=some r):AR prog f81 [1,1,1,1,0,1,0,1] (.int .i64 r) ⟨[(0,.rop [.ro (a0.agents.map Agent.ds)] 0),(8,.int .i64 u),(22,.int .i64 w.1),(23,.bool y)],[],[]⟩:=by
 unfold BH at h
 exact AF trivial h
theorem Lq (a0:Net) (u:Int × Bool) (w:Int) (r:Int) (h:Bc a0 u w=some r):AR prog f81 [1,1,1,1] (.int .i64 r) ⟨[(0,.rop [.ro (a0.agents.map Agent.ds)] 0),(5,.int .i64 u.1),(8,.int .i64 w)],[],[]⟩:=by
 unfold Bc at h
 exact AF (k1 Lp) h
theorem Nk (a0 a1 r) (h:Ee a0 a1=some r):AC prog 81 [.rop (Net.avs a0) 0,.agg (Pair.avs a1)] (.int .i64 r):=by
 unfold Ee at h
 refine acF func81 mixed (h:=Z ?_)
 exact AF (k2 Rn Lq) h
theorem S8 (n:Nat):(∀u w y q r,DJ n u w y q=some r→AR prog f40 [1,1,1,1,1,0,1,0] (.tup [.agg (Core.rv r.1),.ow (some 1) (r.2.1.map AD),.int .i64 r.2.2]) ⟨[(4,.box 1000002500 0),(8,.box 1000002501 0),(10,.int .i64 w),(11,.own 1000002002),(29,.own 1000002003),(30,.int .i64 ((List.length u.1.origins :Nat):Int)),(31,.int .i64 q)],(tkL1 1000002000 u.2.1.data u.2.1.kids y u.1.origins),[(1000002500,some [.int .i64 0,.int .i64 0,.nils,.nils]),(1000002501,some [.int .i64 u.2.1.kind,.int .i64 u.2.1.value,.own 1000002000,.own 1000002001])]⟩)∧
    (∀y q u w g r,Fw n y q u w g=some r→AR prog f40 [1,1,1,1,1,0,1,0,0,1,1,0,0,1,1] (.tup [.agg (Core.rv r.1),.ow (some 1) (r.2.1.map AD),.int .i64 r.2.2]) ⟨[(4,.box 1000003500 0),(8,.box 1000003501 0),(10,.int .i64 w),(11,.own 1000003002),(12,.int .i64 q),(29,.own 1000003003),(30,.int .i64 ((List.length u.1.origins :Nat):Int)),(31,.int .i64 q),(42,.bool g)],(tkL1 1000003000 u.2.1.data u.2.1.kids y u.1.origins),[(1000003500,some [.int .i64 0,.int .i64 0,.nils,.nils]),(1000003501,some [.int .i64 u.2.1.kind,.int .i64 u.2.1.value,.own 1000003000,.own 1000003001])]⟩):=by
 induction n with
 |zero=>exact⟨(fun _ _ _ _ _ h=>by rw [DJ] at h; cases h),(fun _ _ _ _ _ _ h=>by rw [Fw] at h; cases h)⟩
 | succ n ih=>
  obtain⟨v,C⟩:=ih
  refine⟨?_,?_⟩
  ·intro u w y q r h
   rw [DJ] at h
   exact AF (k1 C) h
  ·intro y q u w g r h
   rw [Fw] at h
   refine Am rfl rfl (Z ?_)
   refine AJ h (fun h=>Z ?_) (fun h=>Z ?_)
   ·replace h:=AB h; obtain⟨b,d,h⟩:=h
    have F:=Ad d
    obtain⟨p,j⟩:=F
    refine Bp .no (Z ?_)
    refine CN (Z ?_)
    refine Hf AD j (Z ?_)
    exact AF (k1 v) h
   ·exact AF (k1 v) h
def VY (n:Nat):=(S8 n).1
theorem aj (a0 a1 r) (h:Mn a0 a1=some r):AC prog 40 [.agg (Net.avs a0),.agg (Pair.avs a1)] (.tup [.agg (Core.rv r.1),.ow (some 1) (r.2.1.map AD),.int .i64 r.2.2]):=by
 unfold Mn at h
 refine acF func40 mixed (h:=Z ?_)
 refine AL ?_
 replace h:=AB h; obtain⟨u,w,h⟩:=h
 rcases readNet_cases w with hc|⟨hc,hv⟩
 ·refine caG ⟨[],[],[],(r5 1501 32017 []),[(1601,32016)],true⟩ (YW _ _ w hc) (Z ?_)
  refine AL ?_
  refine Hn (fun y=>?_) (fun y=>?_)
  ·replace h:=ifT (c:=(!decide (u.2.2 =0))) y h
   try simp only [go_sem]
   exact AF trivial h
  ·replace h:=ifF (c:=(!decide (u.2.2 =0))) y h
   try simp only [go_sem]
   refine AL ?_
   replace h:=AB h; obtain⟨q,g,h⟩:=h
   refine AK (Nk _ _ _ g) (Z ?_)
   refine AL ?_
   refine CL (CS rfl rfl (VY fuel u q [] 0 _ h):) (.one ⟨_,.slot 11 2000000000 (some 1) .no (by simp only [go_sem]) (by simp only [go_sem]) (.done _),[(1000002000,32020),(1000002001,32021),(1000002002,2000000000),(1000002003,32017)],[(1000002500,1002),(1000002501,2006)],?_⟩)
   simp only [go_sem]
   all_goals try rfl
 ·subst hv
  refine DR (YX _ hc) (by (first|rfl|(simp only [go_sem]; rfl))) (by first|rfl|(simp only [go_sem])) (Z ?_)
  refine AL ?_
  refine Hn (fun y=>?_) (fun y=>absurd y (by decide))
  replace h:=ifT (c:=(!decide ((1:Int)=0))) y h
  try simp only [go_sem]
  exact AF trivial h
theorem Ow (n:Nat):(∀p u w r,BW n p u w=some r→AR prog f38 [1,1,0,1,0] (.ow (some 2) (r.map Pair.ds)) ⟨[(3,.own 1000000000),(10,.ro (p.agents.map Agent.ds)),(11,.int .i64 (p.agents.length:Int)),(12,.int .i64 w)],[(1000000000,some ⟨List.map Pair.ds u,some 2,0,.no⟩)],[]⟩)∧
    (∀p u w y q r,Cg n p u w y q=some r→AR prog f38 [1,1,0,1,0,0,1,1,0,0,1,1,1] (.ow (some 2) (r.map Pair.ds)) ⟨[(3,.own 1000001000),(4,.int .i64 w),(6,.box 1000001500 0),(10,.ro (p.agents.map Agent.ds)),(11,.int .i64 (p.agents.length:Int)),(12,.int .i64 w),(34,.bool q)],[(1000001000,some ⟨List.map Pair.ds u,some 2,0,.no⟩)],[(1000001500,some [.int .i64 y.agent,.int .i64 y.slot])]⟩):=by
 induction n with
 |zero=>exact⟨(fun _ _ _ _ h=>by rw [BW] at h; cases h),(fun _ _ _ _ _ _ h=>by rw [Cg] at h; cases h)⟩
 | succ n ih=>
  obtain⟨v,F⟩:=ih
  refine⟨?_,?_⟩
  ·intro p u w r h
   rw [BW] at h
   exact AF (k1 F) h
  ·intro p u w y q r h
   rw [Cg] at h
   refine Am rfl rfl (Z ?_)
   refine AJ h (fun h=>Z ?_) (fun h=>Z ?_)
   ·replace h:=AB h; obtain⟨b,d,h⟩:=h
    have G:=Ad d
    obtain⟨C,j⟩:=G
    refine Bp .no (Z ?_)
    refine CN (Z ?_)
    refine A4 (b.map Pair.ds) (by rw [← j]; simp only [List.map_append,List.map_cons,List.map_nil,List.nil_append,List.append_nil,go_sem,Pair.ds_eq]) (Z ?_)
    exact AF (k1 v) h
   ·exact AF (k1 v) h
def Qe (n:Nat):=(Ow n).1
theorem VZ (a0 r) (h:IQ a0=some r):AC prog 38 [.rop (Net.avs a0) 0] (.ow (some 2) (r.map Pair.ds)):=by
 unfold IQ at h
 refine acF func38 mixed (h:=Z ?_)
 refine CL (CS rfl rfl (Qe fuel a0 [] 0 _ h):) (.one ⟨_,.slot 3 2000000000 (some 2) .no (by simp only [go_sem]) (by simp only [go_sem]) (.done _),[(1000000000,2000000000)],[],?_⟩)
 simp only [go_sem]
 all_goals try rfl
theorem Va (a1:Int) (u:(List Pair)) (w:Bool) (r:Pair × Int) (h:Fx a1 u w=some r):AR prog f50 [1,1,1,0,1] (.tup [.agg (Pair.rv r.1),.int .i64 r.2]) ⟨[(1,.int .i64 a1),(4,.box 1000000500 0),(6,.own 1000000000),(19,.bool w)],[(1000000000,some ⟨List.map Pair.ds u,some 2,0,.no⟩)],[(1000000500,some [.int .i64 0,.int .i64 0])]⟩:=by
 unfold Fx at h
 exact AF trivial h
theorem ak (a0 a1 r) (h:Mo a0 a1=some r):AC prog 50 [.agg (Net.avs a0),.int .i64 a1] (.tup [.agg (Pair.rv r.1),.int .i64 r.2]):=by
 unfold Mo at h
 refine acF func50 mixed (h:=Z ?_)
 exact AF (k3 KJ VZ Va) h
theorem K7 (a0 a1 a2 r) (h:FQ a0 a1 a2=some r):AC prog 22 [.agg (Book.avs a0),.agg (Net.avs a1),.int .i64 a2] (.tup [.agg (Core.rv r.1),.int .i64 r.2]):=by
 unfold FQ at h
 refine acF func22 mixed (h:=Z ?_)
 exact AF (k3 ak aj Nd) h
theorem Jo (u:Core × Int) (w:Int × (List Int) × (List Core)) (y:Bool) (r:Bool) (h:Bw u w y=some r):AR prog Tryz.f4 [1,1,1,1,1,1,1,1,1,1,1,1,1,1,1,1,1,1,1,1,1,1,1,1,0,1] (.bool r) ⟨[(12,.box 1000002500 0),(15,.int .i64 w.1),(115,.bool y)],[(1000002000,some ⟨List.map AD w.2.1,some 1,0,.no⟩),(1000002001,some ⟨List.map Core.ds w.2.2,some 4,0,.no⟩)],[(1000002500,some [.int .i64 u.1.kind,.int .i64 u.1.value,.own 1000002000,.own 1000002001])]⟩:=by
 unfold Bw at h
 exact AF (k1 N2) h
theorem F2 (a0:Book) (a1:Net) (a2:Int) (u:Core × Int) (w:Core × Int) (y:Bool) (r:Bool) (h:BQ a0 a1 a2 u w y=some r):AR prog Tryz.f4 [1,1,1,1,1,1,1,1,1,1,1,1,1,1,1,1,0,1] (.bool r) ⟨[(2,.int .i64 a2),(3,.box 1000001500 0),(4,.box 1000001501 0),(8,.box 1000001502 0),(9,.int .i64 u.2),(12,.box 1000001503 0),(86,.bool y)],[(1000001000,some ⟨List.map AD u.1.data,some 1,0,.no⟩),(1000001001,some ⟨List.map Core.ds u.1.kids,some 4,0,.no⟩),(1000001002,some ⟨List.map AD w.1.data,some 1,0,.no⟩),(1000001003,some ⟨List.map Core.ds w.1.kids,some 4,0,.no⟩)],[(1000001500,some [.ro (a0.defs.map Core.ds)]),(1000001501,some [.ro (a1.agents.map Agent.ds)]),(1000001502,some [.int .i64 u.1.kind,.int .i64 u.1.value,.own 1000001000,.own 1000001001]),(1000001503,some [.int .i64 w.1.kind,.int .i64 w.1.value,.own 1000001002,.own 1000001003])]⟩:=by
 unfold BQ at h
 refine Am rfl rfl (Z ?_)
 refine AJ h (fun h=>Z ?_) (fun h=>Z ?_)
 ·exact AF trivial h
 ·refine AL ?_
  replace h:=AB h; obtain⟨q,g,h⟩:=h
  refine caG ⟨[],[(1,1000001002),(2,1000001003)],[],[],[],true⟩ (Vx _ _ (some 1) (some 4) _ g) (Z ?_)
  refine AL ?_
  replace h:=AB h; obtain⟨j,k,h⟩:=h
  refine AK (N2 _ _ _ k) (Z ?_)
  refine AL ?_
  refine AJ h (fun h=>Z ?_) (fun h=>Z ?_)
  ·exact AF trivial h
  ·refine AL ?_
   refine AJ h (fun h=>Z ?_) (fun h=>Z ?_)
   ·exact AF trivial h
   ·refine AL ?_
    refine AY [false,false,false,false,false,false,false,false,false,false,true,true] (Tr.sq [10,11] .fin) (by kernel_rfl) (Z ?_)
    replace h:=AB h; obtain⟨b,d,h⟩:=h
    refine AK (J7 _ _ d) (Z ?_)
    replace h:=AB h; obtain⟨c,e,h⟩:=h
    refine AK (Lr _ _ e) (Z ?_)
    replace h:=AB h; obtain⟨i,l,h⟩:=h
    refine AK (K7 _ _ _ _ l) (Z ?_)
    refine AL ?_
    replace h:=AB h; obtain⟨t,s,h⟩:=h
    refine AK (My fuel _ _ _ s) (Z ?_)
    exact AF (k1 Jo) h
theorem Jp (a0:Book) (a1:Net) (a2:Int) (u:Core × Int) (w:Book) (y:Net) (q:Core × Int) (g:Bool) (r:Bool) (h:Bx a0 a1 a2 u w y q g=some r):AR prog Tryz.f4 [1,1,1,1,1,1,1,1,1,1,0,1] (.bool r) ⟨[(2,.int .i64 a2),(3,.box 1000000500 0),(4,.box 1000000501 0),(8,.box 1000000502 0),(9,.int .i64 u.2),(10,.box 1000000503 0),(11,.box 1000000504 0),(12,.box 1000000505 0),(13,.int .i64 q.2),(57,.bool g)],[(1000000000,some ⟨List.map AD u.1.data,some 1,0,.no⟩),(1000000001,some ⟨List.map Core.ds u.1.kids,some 4,0,.no⟩),(1000000002,some ⟨List.map Core.ds w.defs,some 4,0,.no⟩),(1000000003,some ⟨List.map Agent.ds y.agents,some 5,0,.no⟩),(1000000004,some ⟨List.map AD q.1.data,some 1,0,.no⟩),(1000000005,some ⟨List.map Core.ds q.1.kids,some 4,0,.no⟩)],[(1000000500,some [.ro (a0.defs.map Core.ds)]),(1000000501,some [.ro (a1.agents.map Agent.ds)]),(1000000502,some [.int .i64 u.1.kind,.int .i64 u.1.value,.own 1000000000,.own 1000000001]),(1000000503,some [.own 1000000002]),(1000000504,some [.own 1000000003]),(1000000505,some [.int .i64 q.1.kind,.int .i64 q.1.value,.own 1000000004,.own 1000000005])]⟩:=by
 unfold Bx at h
 refine Am rfl rfl (Z ?_)
 refine AJ h (fun h=>Z ?_) (fun h=>Z ?_)
 ·exact AF trivial h
 ·refine AL ?_
  refine AY [] .fin (by kernel_rfl) (Z ?_)
  replace h:=AB h; obtain⟨j,k,h⟩:=h
  refine AK (J7 _ _ k) (Z ?_)
  replace h:=AB h; obtain⟨b,d,h⟩:=h
  refine AK (aZ _ _ _ d) (Z ?_)
  refine AL ?_
  refine AJ h (fun h=>Z ?_) (fun h=>Z ?_)
  ·exact AF trivial h
  ·refine AL ?_
   refine AY [] .fin (by kernel_rfl) (Z ?_)
   replace h:=AB h; obtain⟨c,e,h⟩:=h
   refine AK (Lr _ _ e) (Z ?_)
   replace h:=AB h; obtain⟨i,l,h⟩:=h
   refine AK (cr _ _ _ l) (Z ?_)
   refine AL ?_
   refine AJ h (fun h=>Z ?_) (fun h=>Z ?_)
   ·exact AF trivial h
   ·refine AL ?_
    replace h:=AB h; obtain⟨t,s,h⟩:=h
    refine caG ⟨[],[(1,1000000002)],[],[],[],true⟩ (V2 _ _ (some 4) _ s) (Z ?_)
    refine AL ?_
    replace h:=AB h; obtain⟨o,z,h⟩:=h
    refine caG ⟨[],[(1,1000000003)],[],[],[],true⟩ (Yb _ _ (some 5) _ z) (Z ?_)
    refine AL ?_
    refine AJ h (fun h=>Z ?_) (fun h=>Z ?_)
    ·exact AF (k1 F2) h
    ·replace h:=AB h; obtain⟨v,p,h⟩:=h
     refine AK (My fuel _ _ _ p) (Z ?_)
     exact AF (k1 F2) h
theorem Kh (a0 a1 a2 r) (h:Dt a0 a1 a2=some r):AC prog 4 [.agg (Book.avs a0),.agg (Net.avs a1),.int .i64 a2] (.bool r):=by
 unfold Dt at h
 refine acF func4 mixed (h:=Z ?_)
 replace h:=AB h; obtain⟨u,w,h⟩:=h
 refine AK (aY _ _ _ w) (Z ?_)
 refine AL ?_
 refine AJ h (fun h=>Z ?_) (fun h=>Z ?_)
 ·exact AF trivial h
 ·refine AL ?_
  replace h:=AB h; obtain⟨y,q,h⟩:=h
  refine AK (ct _ _ _ q) (Z ?_)
  refine AL ?_
  refine AJ h (fun h=>Z ?_) (fun h=>Z ?_)
  ·exact AF trivial h
  ·refine AL ?_
   refine AY [false,false,false,false,false,false,false,false,false,false,true,true] (Tr.sq [10,11] .fin) (by kernel_rfl) (Z ?_)
   replace h:=AB h; obtain⟨g,j,h⟩:=h
   refine AK (J7 _ _ j) (Z ?_)
   replace h:=AB h; obtain⟨k,b,h⟩:=h
   refine AK (Lr _ _ b) (Z ?_)
   replace h:=AB h; obtain⟨d,c,h⟩:=h
   refine AK (Rm _ _ _ _ c) (Z ?_)
   refine AL ?_
   replace h:=AB h; obtain⟨e,i,h⟩:=h
   refine AK (J7 _ _ i) (Z ?_)
   refine AL ?_
   replace h:=AB h; obtain⟨l,t,h⟩:=h
   refine AK (Lr _ _ t) (Z ?_)
   refine AL ?_
   replace h:=AB h; obtain⟨s,o,h⟩:=h
   refine AK (K7 _ _ _ _ o) (Z ?_)
   refine AL ?_
   replace h:=AB h; obtain⟨z,p,h⟩:=h
   refine AK (My fuel _ _ _ p) (Z ?_)
   exact AF (k1 Jp) h
end Go.Proofs.YtjnifengdhcojaaGreatDoor.Ab
