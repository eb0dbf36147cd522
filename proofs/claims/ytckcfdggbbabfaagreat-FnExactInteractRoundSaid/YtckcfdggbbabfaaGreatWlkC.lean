/-
 The functions do what their models say. Printed by wip/ab/gen.py.
-/
import Derived.Test.YtckcfdggbbabfaaGreatModC
import Derived.Test.YtckcfdggbbabfaaGreatTi2
import Derived.Test.YtckcfdggbbabfaaGreatWlkL
namespace Go.Proofs.YtckcfdggbbabfaaGreat.Ab
set_option linter.unusedVariables false
set_option linter.unusedSimpArgs false
set_option maxRecDepth 20000
set_option maxHeartbeats 4000000
open Go.RowKit
theorem IC (a0:Int) (a1:Int) (a2:Int) (u:Bool) (r:Bool) (h:ER a0 a1 a2 u=some r):A7 Tryz.prog Tryz.f248 [1,0,1] (.bool r) ⟨[(0,.int .i64 a0),(1,.int .i64 a1),(2,.int .i64 a2),(15,.bool u)],[],[]⟩:=by
 unfold ER at h
 refine AS rfl rfl (Z ?_)
 refine AD h (fun h=>Z ?_) (fun h=>Z ?_)
 ·cases h
  simp only [go_sem]
 ·refine AB (Z ?_)
  refine AD h (fun h=>Z ?_) (fun h=>Z ?_)
  ·refine AB (Z ?_)
   cases h
   simp only [go_sem]
  ·refine AD h (fun h=>Z ?_) (fun h=>Z ?_)
   ·refine AB (Z ?_)
    cases h
    simp only [go_sem]
   ·replace h:=AF h; obtain⟨w,y,h⟩:=h
    refine AK (Ir _ _ y) (Z ?_)
    refine AD h (fun h=>Z ?_) (fun h=>Z ?_)
    ·refine AB (Z ?_)
     cases h
     simp only [go_sem]
    ·refine AB (Z ?_)
     cases h
     simp only [go_sem]
theorem OU (a0 a1 a2 r) (h:F0 a0 a1 a2=some r):AC Tryz.prog 248 [.int .i64 a0,.int .i64 a1,.int .i64 a2] (.bool r):=by
 unfold F0 at h
 refine AY mixed Tryz.func248 rfl rfl rfl (by kernel_rfl) (by kernel_rfl) (Z ?_)
 replace h:=AF h; obtain⟨u,w,h⟩:=h
 refine AK (M6 _ _ w) (Z ?_)
 refine AD h (fun h=>Z ?_) (fun h=>Z ?_)
 ·refine AJ (AH rfl rfl (IC a0 a1 a2 true _ h):) (.one ⟨_,.done _,[],[],?_⟩)
  try simp only [go_sem]
 ·replace h:=AF h; obtain⟨y,q,h⟩:=h
  refine AK (GK _ _ _ q) (Z ?_)
  refine AJ (AH rfl rfl (IC a0 a1 a2 (!y) _ h):) (.one ⟨_,.done _,[],[],?_⟩)
  try simp only [go_sem]
theorem OV (a0 r) (h:F1 a0=some r):AC Tryz.prog 249 [.int .i64 a0] (.bool r):=by
 unfold F1 at h
 refine AY mixed Tryz.func249 rfl rfl rfl (by kernel_rfl) (by kernel_rfl) (Z ?_)
 refine AD h (fun h=>Z ?_) (fun h=>Z ?_)
 ·refine AB (Z ?_)
  cases h
  simp only [go_sem]
 ·refine AD h (fun h=>Z ?_) (fun h=>Z ?_)
  ·refine AB (Z ?_)
   cases h
   simp only [go_sem]
  ·refine AD h (fun h=>Z ?_) (fun h=>Z ?_)
   ·refine AB (Z ?_)
    cases h
    simp only [go_sem]
   ·refine AD h (fun h=>Z ?_) (fun h=>Z ?_)
    ·refine AB (Z ?_)
     cases h
     simp only [go_sem]
    ·refine AB (Z ?_)
     cases h
     simp only [go_sem]
theorem Jy (a1:Int) (a2:Int) (a3:Int) (u:Bool) (r:Int) (h:F2 a1 a2 a3 u=some r):A7 Tryz.prog Tryz.f238 [1,0,1,0,1,1,1,0,0,1] (.int .i64 r) ⟨[(1,.int .i64 a1),(2,.int .i64 a2),(3,.int .i64 a3),(14,.bool u)],[],[]⟩:=by
 unfold F2 at h
 refine AS rfl rfl (Z ?_)
 refine AD h (fun h=>Z ?_) (fun h=>Z ?_)
 ·cases h
  simp only [go_sem]
 ·replace h:=AF h; obtain⟨w,y,h⟩:=h
  refine AK (OU _ _ _ _ y) (Z ?_)
  refine AB (Z ?_)
  refine AD h (fun h=>Z ?_) (fun h=>Z ?_)
  ·cases h
   simp only [go_sem]
  ·refine AB (Z ?_)
   cases h
   simp only [go_sem]
theorem Jz (u:Bool) (r:Int) (h:F3 u=some r):A7 Tryz.prog Tryz.f238 [1,0,1,0,1,1,1,1,1,0,1] (.int .i64 r) ⟨[(35,.bool u)],[],[]⟩:=by
 unfold F3 at h
 refine AS rfl rfl (Z ?_)
 refine AD h (fun h=>Z ?_) (fun h=>Z ?_)
 ·cases h
  simp only [go_sem]
 ·refine AB (Z ?_)
  cases h
  simp only [go_sem]
theorem J0 (a2:Int) (u:Bool) (r:Int) (h:F4 a2 u=some r):A7 Tryz.prog Tryz.f238 [1,0,1,0,1,1,1,1,1,1,1,0,1,0,1] (.int .i64 r) ⟨[(38,.int .i64 a2),(39,.bool u)],[],[]⟩:=by
 unfold F4 at h
 refine AS rfl rfl (Z ?_)
 refine AD h (fun h=>Z ?_) (fun h=>Z ?_)
 ·cases h
  simp only [go_sem]
 ·refine AD h (fun h=>Z ?_) (fun h=>Z ?_)
  ·cases h
   simp only [go_sem]
  ·refine AB (Z ?_)
   cases h
   simp only [go_sem]
theorem M7 (a0 a1 a2 a3 r) (h:Ha a0 a1 a2 a3=some r):AC Tryz.prog 238 [.int .i64 a0,.int .i64 a1,.int .i64 a2,.int .i64 a3] (.int .i64 r):=by
 unfold Ha at h
 refine AY mixed Tryz.func238 rfl rfl rfl (by kernel_rfl) (by kernel_rfl) (Z ?_)
 refine AD h (fun h=>Z ?_) (fun h=>Z ?_)
 ·cases h
  simp only [go_sem]
 ·refine AD h (fun h=>Z ?_) (fun h=>Z ?_)
  ·refine AD h (fun h=>Z ?_) (fun h=>Z ?_)
   ·refine AJ (AH rfl rfl (Jy a1 a2 a3 (decide (a1=a3)) _ h):) (.one ⟨_,.done _,[],[],?_⟩)
    try simp only [go_sem]
   ·refine AJ (AH rfl rfl (Jy a1 a2 a3 false _ h):) (.one ⟨_,.done _,[],[],?_⟩)
    try simp only [go_sem]
  ·refine AD h (fun h=>Z ?_) (fun h=>Z ?_)
   ·refine AD h (fun h=>Z ?_) (fun h=>Z ?_)
    ·refine AJ (AH rfl rfl (Jz (decide (a1=a3)) _ h):) (.one ⟨_,.done _,[],[],?_⟩)
     try simp only [go_sem]
    ·refine AJ (AH rfl rfl (Jz false _ h):) (.one ⟨_,.done _,[],[],?_⟩)
     try simp only [go_sem]
   ·refine AD h (fun h=>Z ?_) (fun h=>Z ?_)
    ·refine AD h (fun h=>Z ?_) (fun h=>Z ?_)
     ·refine AJ (AH rfl rfl (J0 a2 (decide (a2=7)) _ h):) (.one ⟨_,.done _,[],[],?_⟩)
      try simp only [go_sem]
     ·refine AJ (AH rfl rfl (J0 a2 (decide (a2=8)) _ h):) (.one ⟨_,.done _,[],[],?_⟩)
      try simp only [go_sem]
    ·refine AD h (fun h=>Z ?_) (fun h=>Z ?_)
     ·refine AD h (fun h=>Z ?_) (fun h=>Z ?_)
      ·cases h
       simp only [go_sem]
      ·refine AB (Z ?_)
       cases h
       simp only [go_sem]
     ·refine AD h (fun h=>Z ?_) (fun h=>Z ?_)
      ·replace h:=AF h; obtain⟨u,w,h⟩:=h
       refine AK (OV _ _ w) (Z ?_)
       refine AB (Z ?_)
       refine AD h (fun h=>Z ?_) (fun h=>Z ?_)
       ·cases h
        simp only [go_sem]
       ·refine AB (Z ?_)
        cases h
        simp only [go_sem]
      ·refine AB (Z ?_)
       cases h
       simp only [go_sem]
theorem GL (a0:Int) (a1:Int) (a2:Int) (a3:Int) (u:Bool) (r:Int × Int) (h:El a0 a1 a2 a3 u=some r):A7 Tryz.prog Tryz.f203 [1,0,1] (.tup [.int .i64 r.1,.int .i64 r.2]) ⟨[(0,.int .i64 a0),(1,.int .i64 a1),(2,.int .i64 a2),(3,.int .i64 a3),(29,.bool u)],[],[]⟩:=by
 unfold El at h
 refine AS rfl rfl (Z ?_)
 refine AD h (fun h=>Z ?_) (fun h=>Z ?_)
 ·cases h
  simp only [go_sem]
 ·refine AB (Z ?_)
  replace h:=AF h; obtain⟨w,y,h⟩:=h
  refine AK (M7 _ _ _ _ _ y) (Z ?_)
  refine AB (Z ?_)
  refine AD h (fun h=>Z ?_) (fun h=>Z ?_)
  ·cases h
   simp only [go_sem]
  ·refine AB (Z ?_)
   replace h:=AF h; obtain⟨q,g,h⟩:=h
   refine AK (M7 _ _ _ _ _ g) (Z ?_)
   refine AB (Z ?_)
   refine AD h (fun h=>Z ?_) (fun h=>Z ?_)
   ·cases h
    simp only [go_sem]
   ·refine AB (Z ?_)
    cases h
    simp only [go_sem]
theorem T5 (a0 a1 a2 a3 r) (h:Ki a0 a1 a2 a3=some r):AC Tryz.prog 203 [.int .i64 a0,.int .i64 a1,.int .i64 a2,.int .i64 a3] (.tup [.int .i64 r.1,.int .i64 r.2]):=by
 unfold Ki at h
 refine AY mixed Tryz.func203 rfl rfl rfl (by kernel_rfl) (by kernel_rfl) (Z ?_)
 refine AD h (fun h=>Z ?_) (fun h=>Z ?_)
 ·refine AJ (AH rfl rfl (GL a0 a1 a2 a3 true _ h):) (.one ⟨_,.done _,[],[],?_⟩)
  try simp only [go_sem]
 ·refine AD h (fun h=>Z ?_) (fun h=>Z ?_)
  ·refine AJ (AH rfl rfl (GL a0 a1 a2 a3 true _ h):) (.one ⟨_,.done _,[],[],?_⟩)
   try simp only [go_sem]
  ·replace h:=AF h; obtain⟨u,w,h⟩:=h
   refine AK (GK _ _ _ w) (Z ?_)
   refine AD h (fun h=>Z ?_) (fun h=>Z ?_)
   ·refine AJ (AH rfl rfl (GL a0 a1 a2 a3 true _ h):) (.one ⟨_,.done _,[],[],?_⟩)
    try simp only [go_sem]
   ·replace h:=AF h; obtain⟨y,q,h⟩:=h
    refine AK (GK _ _ _ q) (Z ?_)
    refine AJ (AH rfl rfl (GL a0 a1 a2 a3 (!y) _ h):) (.one ⟨_,.done _,[],[],?_⟩)
    try simp only [go_sem]
theorem FE (u:Int × Int) (w:Bool) (r:Int × Bool) (h:DI u w=some r):A7 Tryz.prog Tryz.f160 [1,1,1,1,0,1] (.tup [.int .i64 r.1,.bool r.2]) ⟨[(8,.int .i64 u.1),(9,.int .i64 u.2),(56,.bool w)],[],[]⟩:=by
 unfold DI at h
 refine AS rfl rfl (Z ?_)
 refine AD h (fun h=>Z ?_) (fun h=>Z ?_)
 ·cases h
  simp only [go_sem]
 ·refine AB (Z ?_)
  cases h
  simp only [go_sem]
theorem HK (u:Int × Int) (w:Int) (y:Int) (q:Int) (g:List Int) (j:List Port) (k:Int) (b:Int) (d:Int) (c:List Int) (e:List Port) (r:Int × Bool) (h:DJ u w y q g j k b d c e=some r):A7 Tryz.prog Tryz.f160 [1,1,1,1] (.tup [.int .i64 r.1,.bool r.2]) ⟨[(6,.box 1000000500 0),(7,.box 1000000501 0),(8,.int .i64 u.1),(9,.int .i64 u.2)],[],[(1000000500,some [.int .i64 w,.int .i64 y,.int .i64 q,.ro (List.map Au g),.ro (List.map Port.ds j)]),(1000000501,some [.int .i64 k,.int .i64 b,.int .i64 d,.ro (List.map Au c),.ro (List.map Port.ds e)])]⟩:=by
 unfold DJ at h
 refine AS rfl rfl (Z ?_)
 refine AD h (fun h=>Z ?_) (fun h=>Z ?_)
 ·refine AD h (fun h=>Z ?_) (fun h=>Z ?_)
  ·refine AJ (AH rfl rfl (FE u (decide (((List.length c:Nat):Int)≤q)) _ h):) (.one ⟨_,.done _,[],[],?_⟩)
   try simp only [go_sem]
  ·refine AJ (AH rfl rfl (FE u false _ h):) (.one ⟨_,.done _,[],[],?_⟩)
   try simp only [go_sem]
 ·refine AJ (AH rfl rfl (FE u false _ h):) (.one ⟨_,.done _,[],[],?_⟩)
  try simp only [go_sem]
theorem Ns (a0 a1 r) (h:FI a0 a1=some r):AC Tryz.prog 160 [.rop (Net.avs a0) 0,.agg (Pair.avs a1)] (.tup [.int .i64 r.1,.bool r.2]):=by
 unfold FI at h
 refine AY mixed Tryz.func160 rfl rfl rfl (by kernel_rfl) (by kernel_rfl) (Z ?_)
 refine YS [] [(16,18),(17,19)] .fin (by kernel_rfl) (Z ?_)
 replace h:=AF h; obtain⟨u,w,h⟩:=h
 refine AR w (Agent.ds_len _) (Z ?_)
 replace h:=AF h; obtain⟨y,q,h⟩:=h
 refine AR q (Agent.ds_len _) (Z ?_)
 refine Vq _ (by rfl) (by (first|(simp only [go_sem]; done)|(simp only [go_sem]; decide)|decide)) (by rfl) (Z ?_)
 refine Vq _ (by rfl) (by (first|(simp only [go_sem]; done)|(simp only [go_sem]; decide)|decide)) (by rfl) (Z ?_)
 refine be (by refine⟨by rfl,by rfl,trivial⟩) (Z ?_)
 refine AB (Z ?_)
 replace h:=AF h; obtain⟨g,j,h⟩:=h
 refine AK (T5 _ _ _ _ _ j) (Z ?_)
 refine AB (Z ?_)
 refine AD h (fun h=>Z ?_) (fun h=>Z ?_)
 ·refine AJ (AH rfl rfl (HK g y.kind y.level y.value y.data y.ports u.kind u.level u.value u.data u.ports _ h):) (.one ⟨_,.done _,[],[(1000000500,2016),(1000000501,2017)],?_⟩)
  try simp only [go_sem]
 ·refine AJ (AH rfl rfl (HK g u.kind u.level u.value u.data u.ports y.kind y.level y.value y.data y.ports _ h):) (.one ⟨_,.done _,[],[(1000000500,2016),(1000000501,2017)],?_⟩)
  try simp only [go_sem]
theorem MI (n:Nat):(∀a0 u w r,Bg n a0 u w=some r→A7 Tryz.prog Tryz.f89 [1,1,0,1,0] (.ow (some 2) (List.map Pair.ds r)) ⟨[(3,.own 1000000000),(10,.ro (List.map Agent.ds a0.agents)),(11,.int .i64 ((List.length a0.agents:Nat):Int)),(12,.int .i64 w)],[(1000000000,some ⟨List.map Pair.ds u,some 2,0,false⟩)],[]⟩)∧
    (∀a0 u w y q r,Bh n a0 u w y q=some r→A7 Tryz.prog Tryz.f89 [1,1,0,1,0,0,1,1,0,0,1,1,1] (.ow (some 2) (List.map Pair.ds r)) ⟨[(3,.own 1000001000),(4,.int .i64 w),(6,.box 1000001500 0),(10,.ro (List.map Agent.ds a0.agents)),(11,.int .i64 ((List.length a0.agents:Nat):Int)),(12,.int .i64 w),(34,.bool q)],[(1000001000,some ⟨List.map Pair.ds u,some 2,0,false⟩)],[(1000001500,some [.int .i64 y.agent,.int .i64 y.slot])]⟩):=by
 induction n with
 |zero=>exact⟨(fun _ _ _ _ h=>by rw [Bg] at h; cases h),(fun _ _ _ _ _ _ h=>by rw [Bh] at h; cases h)⟩
 | succ n ih=>
  obtain⟨ih0,ih1⟩:=ih
  refine⟨?_,?_⟩
  ·intro a0 u w r h
   rw [Bg] at h
   refine AS rfl rfl (Z ?_)
   refine Ag (Z ?_)
   refine AD h (fun h=>Z ?_) (fun h=>Z ?_)
   ·refine AB (Z ?_)
    replace h:=AF h; obtain⟨g,j,h⟩:=h
    refine AR j (Agent.ds_len _) (Z ?_)
    refine AB (Z ?_)
    replace h:=AF h; obtain⟨y,k,h⟩:=h
    refine AR k (Port.ds_len _) (Z ?_)
    refine AB (Z ?_)
    refine AD h (fun h=>Z ?_) (fun h=>Z ?_)
    ·refine AD h (fun h=>Z ?_) (fun h=>Z ?_)
     ·refine AJ (AH rfl rfl (ih1 a0 u w y (!decide (g.kind=1)) _ h):) (.one ⟨_,.done _,[(1000001000,1000000000)],[(1000001500,6004)],?_⟩)
      try simp only [go_sem]
     ·refine AJ (AH rfl rfl (ih1 a0 u w y false _ h):) (.one ⟨_,.done _,[(1000001000,1000000000)],[(1000001500,6004)],?_⟩)
      try simp only [go_sem]
    ·refine AJ (AH rfl rfl (ih1 a0 u w y false _ h):) (.one ⟨_,.done _,[(1000001000,1000000000)],[(1000001500,6004)],?_⟩)
     try simp only [go_sem]
   ·refine AB (Z ?_)
    cases h
    simp only [go_sem]
  ·intro a0 u w y q r h
   rw [Bh] at h
   refine AS rfl rfl (Z ?_)
   refine AD h (fun h=>Z ?_) (fun h=>Z ?_)
   ·replace h:=AF h; obtain⟨b,d,h⟩:=h
    have hq_:=BX d
    obtain⟨hv8006a,hv8006b⟩:=hq_
    refine EP false (Z ?_)
    refine BW (by refine⟨?_,?_⟩ <;> (try simp only [List.length_map,List.length_append,List.length_cons,List.length_nil] at*) <;> (try unfold maxLen) <;> omega) (Z ?_)
    refine BA (List.map Pair.ds b) (by rw [← hv8006b]; simp only [List.map_append,List.map_cons,List.map_nil,List.nil_append,List.append_nil,go_sem,Pair.ds_eq]) (Z ?_)
    refine AB (Z ?_)
    refine Am (AH rfl rfl (ih0 a0 b (IntKind.i64.wrap (w+1)) _ h):) (.one ⟨_,.done _,[(1000000000,128096)],[],?_⟩)
    try simp only [go_sem]
   ·refine AB (Z ?_)
    refine Am (AH rfl rfl (ih0 a0 u (IntKind.i64.wrap (w+1)) _ h):) (.one ⟨_,.done _,[(1000000000,1000001000)],[],?_⟩)
    try simp only [go_sem]
theorem M8 (n:Nat):(∀a0 u w r,Bg n a0 u w=some r→A7 Tryz.prog Tryz.f89 [1,1,0,1,0] (.ow (some 2) (List.map Pair.ds r)) ⟨[(3,.own 1000000000),(10,.ro (List.map Agent.ds a0.agents)),(11,.int .i64 ((List.length a0.agents:Nat):Int)),(12,.int .i64 w)],[(1000000000,some ⟨List.map Pair.ds u,some 2,0,false⟩)],[]⟩):=(MI n).1
theorem P9 (a0 r) (h:Gy a0=some r):AC Tryz.prog 89 [.rop (Net.avs a0) 0] (.ow (some 2) (List.map Pair.ds r)):=by
 unfold Gy at h
 refine AY mixed Tryz.func89 rfl rfl rfl (by kernel_rfl) (by kernel_rfl) (Z ?_)
 refine AZ (AH rfl rfl (M8 fuel a0 [] 0 _ h):) (.one ⟨_,.slot 3 2000000000 (some 2) false (by simp only [go_sem]) (by simp only [go_sem]) (.done _),[(1000000000,2000000000)],[],?_⟩)
 simp only [go_sem]
 all_goals try rfl
theorem GP (a0 r) (h:CY a0=some r):AC Tryz.prog 221 [.ro (List.map Port.ds a0)] (.ow (some 2) (List.map Port.ds r)):=by
 unfold CY at h
 refine AY mixed Tryz.func221 rfl rfl rfl (by kernel_rfl) (by kernel_rfl) (Z ?_)
 refine Yv (by simp only [go_sem]) (fun h0=>?_) ?_
 ·try simp only [go_sem]
  have hq_:=List.map_eq_nil_iff.1 h0
  obtain rfl:=hq_
  obtain rfl:r=[] :=by cases h; rfl
  simp only [go_sem]
 ·try simp only [go_sem]
  refine AB (Z ?_)
  replace h:=AF h; obtain⟨u,w,h⟩:=h
  have hq_:=BX w
  obtain⟨hv4002a,hv4002b⟩:=hq_
  refine EP false (Z ?_)
  refine BW (Fx (by intro x; exact⟨(Port.ds_len _),by simp [Port.ds_eq,D.flat]⟩) _) (Z ?_)
  refine BW (by refine⟨?_,?_⟩ <;> (try simp only [List.length_map,List.length_append,List.length_cons,List.length_nil] at*) <;> (try unfold maxLen) <;> omega) (Z ?_)
  refine BA (List.map Port.ds u) (by rw [← hv4002b]; simp only [List.map_append,List.map_cons,List.map_nil,List.nil_append,List.append_nil,go_sem,Port.ds_eq]) (Z ?_)
  refine AB (Z ?_)
  cases h
  simp only [go_sem]
theorem HL (a0 r) (h:DK a0=some r):AG Tryz.prog 115 [.ro (List.map Au a0)] [] [] (.ro (List.map Au r)) [] [] :=by
 unfold DK at h
 refine Co mixed Tryz.func115 rfl rfl rfl (by kernel_rfl) (by kernel_rfl) (Z ?_)
 refine Yv (by simp only [go_sem]) (fun h0=>?_) ?_
 ·try simp only [go_sem]
  have hq_:=List.map_eq_nil_iff.1 h0
  obtain rfl:=hq_
  obtain rfl:r=[] :=by cases h; rfl
  simp only [go_sem]
  refine Bb (.frzN [(0,[])] [] _ _ (by (first|rfl|(simp only [go_sem]; rfl))) (by (first|rfl|(simp only [go_sem]; rfl))) (.done _)) [] [] ?_
  simp only [go_sem]
  all_goals try rfl
 ·try simp only [go_sem]
  refine AB (Z ?_)
  replace h:=AF h; obtain⟨u,w,h⟩:=h
  have hq_:=BX w
  obtain⟨hv4002a,hv4002b⟩:=hq_
  refine EP false (Z ?_)
  refine BW (Fx (by intro x; exact⟨rfl,by simp [go_sem,D.flat]⟩) _) (Z ?_)
  refine BW (by refine⟨?_,?_⟩ <;> (try simp only [List.length_map,List.length_append,List.length_cons,List.length_nil] at*) <;> (try unfold maxLen) <;> omega) (Z ?_)
  refine BA (List.map Au u) (by rw [← hv4002b]; simp only [List.map_append,List.map_cons,List.map_nil,List.nil_append,List.append_nil,go_sem,slD]) (Z ?_)
  refine AB (Z ?_)
  cases h
  refine Bb (.frzT 64032 [(0,[])] [] _ _ _ (by (first|rfl|(simp only [go_sem]; rfl))) (by decide) (by (first|rfl|(simp only [go_sem]; rfl))) (by (first|rfl|(simp only [go_sem]; rfl))) (.done _)) [] [] ?_
  simp only [go_sem]
  all_goals try rfl
theorem Gk (a0 r) (h:i_copyAgent_z a0=some r):AG Tryz.prog 186 [.agg [.int .i64 a0.kind,.int .i64 a0.level,.int .i64 a0.value,.ro (List.map Au a0.data),.ro (List.map Port.ds a0.ports)]] [] [] (.agg [.int .i64 r.kind,.int .i64 r.level,.int .i64 r.value,.ro (List.map Au r.data),.own 1501]) [(1501,⟨List.map Port.ds r.ports,some 2,0,false⟩)] [] :=by
 unfold i_copyAgent_z at h
 refine Co mixed Tryz.func186 rfl rfl rfl (by kernel_rfl) (by kernel_rfl) (Z ?_)
 refine AB (Z ?_)
 refine Ae [false,false,false,false,false,false,false,true,true,true] (Tr.sq [7,8,9] .fin) (by kernel_rfl) (Z ?_)
 replace h:=AF h; obtain⟨u,w,h⟩:=h
 refine Yu (HL _ _ w) (by (first|rfl|(simp only [go_sem]; rfl))) (by first|rfl|(simp only [go_sem])) (Z ?_)
 replace h:=AF h; obtain⟨y,q,h⟩:=h
 refine AK (GP _ _ q) (Z ?_)
 refine AB (Z ?_)
 cases h
 refine Bb (.done _) [(1501,32080)] [] ?_
 simp only [go_sem]
theorem M9 (n:Nat):(∀a0 u w r,DQ n a0 u w=some r→Dx Tryz.prog Tryz.f117 [1,1,0,1,0] (.agg [.own 1501]) [(1501,⟨List.map Agent.dm r.agents,some 5,0,true⟩)] [] ⟨[(2,.box 1000001500 0),(3,.box 1000001501 0),(12,.ro (List.map Agent.ds a0.agents)),(13,.int .i64 ((List.length a0.agents:Nat):Int)),(14,.int .i64 w)],[(1000001000,some ⟨List.map Agent.dm u,some 5,0,true⟩)],[(1000001500,some [.nils]),(1000001501,some [.own 1000001000])]⟩):=by
 induction n with
 |zero=>exact((fun _ _ _ _ h=>by rw [DQ] at h; cases h))
 | succ n ih=>
  have ih0:=ih
  ·intro a0 u w r h
   rw [DQ] at h
   refine BB rfl rfl (Z ?_)
   refine Ag (Z ?_)
   refine AD h (fun h=>Z ?_) (fun h=>Z ?_)
   ·refine AB (Z ?_)
    replace h:=AF h; obtain⟨y,q,h⟩:=h
    refine AR q (Agent.ds_len _) (Z ?_)
    refine AB (Z ?_)
    replace h:=AF h; obtain⟨g,j,h⟩:=h
    replace h:=AF h; obtain⟨k,b,h⟩:=h
    refine Ae [false,true,true,true,true,true,true,true] (.br 1 (Tr.sq [2,3,4,5,6,7] .fin) (.br 2 (.br 1 (Tr.sq [3,4,5,6,7] .fin) (.br 3 (.br 1 (Tr.sq [4,5,6,7] .fin) (.br 4 (Tr.sq [1,5,6,7] .fin) .stop)) .stop)) .stop)) (by kernel_rfl) ?_
    try simp only [go_sem]
    try simp only [go_sem]
    refine Ba ?_ ?_
    ·try simp only [go_sem]
     refine AP ⟨[],[],[],[(1501,96048)],[],true⟩ (by kernel_rfl) (Gk _ _ j) (by kernel_rfl) (Z ?_)
     have hq_:=BX b
     obtain⟨hv6005a,hv6005b⟩:=hq_
     refine EP true (Z ?_)
     refine BW (by refine⟨?_,?_⟩ <;> (try simp only [List.length_map,List.length_append,List.length_cons,List.length_nil] at*) <;> (try unfold maxLen) <;> omega) (Z ?_)
     refine BA (List.map Agent.dm k) (by rw [← hv6005b]; simp only [List.map_append,List.map_cons,List.map_nil,List.nil_append,List.append_nil,go_sem,Agent.ds_eq,Agent.dm_eq]) (Z ?_)
     refine AB (Z ?_)
     refine Am (AN rfl rfl (ih0 a0 k (IntKind.i64.wrap (w+1)) _ h):) (.one ⟨_,.done _,[(1000001000,96080)],[(1000001500,1000001500),(1000001501,1000001501)],?_⟩)
     try simp only [go_sem]
    ·try simp only [go_sem]
     try simp only [go_sem]
     refine Ba (Z ?_) (Z ?_)
     ·refine AP ⟨[],[],[],[(1501,96048)],[],true⟩ (by kernel_rfl) (Gk _ _ j) (by kernel_rfl) (Z ?_)
      have hq_:=BX b
      obtain⟨hv6005a,hv6005b⟩:=hq_
      refine EP true (Z ?_)
      refine BW (by refine⟨?_,?_⟩ <;> (try simp only [List.length_map,List.length_append,List.length_cons,List.length_nil] at*) <;> (try unfold maxLen) <;> omega) (Z ?_)
      refine BA (List.map Agent.dm k) (by rw [← hv6005b]; simp only [List.map_append,List.map_cons,List.map_nil,List.nil_append,List.append_nil,go_sem,Agent.ds_eq,Agent.dm_eq]) (Z ?_)
      refine AB (Z ?_)
      refine Am (AN rfl rfl (ih0 a0 k (IntKind.i64.wrap (w+1)) _ h):) (.one ⟨_,.done _,[(1000001000,96080)],[(1000001500,1000001500),(1000001501,1000001501)],?_⟩)
      try simp only [go_sem]
     ·refine AP ⟨[],[],[],[(1501,96048)],[],true⟩ (by kernel_rfl) (Gk _ _ j) (by kernel_rfl) ?_
      try simp only [go_sem]
      try simp only [go_sem]
      refine Ba (Z ?_) (Z ?_)
      ·have hq_:=BX b
       obtain⟨hv6005a,hv6005b⟩:=hq_
       refine EP true (Z ?_)
       refine BW (by refine⟨?_,?_⟩ <;> (try simp only [List.length_map,List.length_append,List.length_cons,List.length_nil] at*) <;> (try unfold maxLen) <;> omega) (Z ?_)
       refine BA (List.map Agent.dm k) (by rw [← hv6005b]; simp only [List.map_append,List.map_cons,List.map_nil,List.nil_append,List.append_nil,go_sem,Agent.ds_eq,Agent.dm_eq]) (Z ?_)
       refine AB (Z ?_)
       refine Am (AN rfl rfl (ih0 a0 k (IntKind.i64.wrap (w+1)) _ h):) (.one ⟨_,.done _,[(1000001000,96080)],[(1000001500,1000001500),(1000001501,1000001501)],?_⟩)
       try simp only [go_sem]
      ·have hq_:=BX b
       obtain⟨hv6005a,hv6005b⟩:=hq_
       refine EP true (Z ?_)
       refine BW (by refine⟨?_,?_⟩ <;> (try simp only [List.length_map,List.length_append,List.length_cons,List.length_nil] at*) <;> (try unfold maxLen) <;> omega) (Z ?_)
       refine BA (List.map Agent.dm k) (by rw [← hv6005b]; simp only [List.map_append,List.map_cons,List.map_nil,List.nil_append,List.append_nil,go_sem,Agent.ds_eq,Agent.dm_eq]) (Z ?_)
       refine AB (Z ?_)
       refine Am (AN rfl rfl (ih0 a0 k (IntKind.i64.wrap (w+1)) _ h):) (.one ⟨_,.done _,[(1000001000,96080)],[(1000001500,1000001500),(1000001501,1000001501)],?_⟩)
       try simp only [go_sem]
   ·refine AB (Z ?_)
    cases h
    refine Bb (.done _) [(1501,1000001000)] [] ?_
    simp only [go_sem]
theorem QA (a0 r) (h:Gz a0=some r):AG Tryz.prog 117 [.agg [.ro (List.map Agent.ds a0.agents)]] [] [] (.agg [.own 1501]) [(1501,⟨List.map Agent.dm r.agents,some 5,0,true⟩)] [] :=by
 unfold Gz at h
 refine Co mixed Tryz.func117 rfl rfl rfl (by kernel_rfl) (by kernel_rfl) (Z ?_)
 refine AB (Z ?_)
 replace h:=AF h; obtain⟨u,w,h⟩:=h
 have hq_:=Hx w
 obtain⟨hv2003a,hv2003b,hv2003c⟩:=hq_
 refine BW (by unfold leX; omega) (Z ?_)
 refine BW (by refine⟨?_,?_,?_⟩ <;> omega) (Z ?_)
 refine BA [] (by rfl) (Z ?_)
 refine AB (Z ?_)
 refine AZ (AN rfl rfl (M9 fuel a0 [] 0 _ h):) (.one ⟨_,.done _,[(1000001000,32048)],[(1000001500,1001),(1000001501,2005)],?_⟩)
 try simp only [go_sem]
theorem Nt (a0 a1 r) (h:FJ a0 a1=some r):AG Tryz.prog 80 [.ro (List.map Net.ds a0),.agg [.ro (List.map Agent.ds a1.agents)]] [] [] (.box 1601 0) [(1501,⟨List.map Agent.dm r.net.agents,some 5,0,true⟩)] [(1601,[.own 1501,.ro (List.map Net.ds r.book),.mpr 1602]),(1602,[.mpc (.int .i64) (List.map prB r.removed)])] :=by
 unfold FJ at h
 refine Co mixed Tryz.func80 rfl rfl rfl (by kernel_rfl) (by kernel_rfl) (Z ?_)
 replace h:=AF h; obtain⟨u,w,h⟩:=h
 refine AP ⟨[],[],[],[(1501,32016)],[],true⟩ (by kernel_rfl) (QA _ _ w) (by kernel_rfl) (Z ?_)
 refine AB (Z ?_)
 cases h
 refine Bb (.done _) [(1501,32016)] [(1601,2005),(1602,2003)] ?_
 simp only [go_sem]
theorem Ec (a0 a1 a2 r) (h:CG a0 a1 a2=some r):AG Tryz.prog 198 [.box 1 0,.agg [.int .i64 a1.agent,.int .i64 a1.slot],.agg [.int .i64 a2.agent,.int .i64 a2.slot]] [(1001,⟨List.map Agent.dm a0.agents,some 5,0,true⟩)] [(1,[.own 1001])] (.tup []) [(1501,⟨List.map Agent.dm r.agents,some 5,0,true⟩)] [(1,[.own 1501])] :=by
 unfold CG at h
 refine Co mixed Tryz.func198 rfl rfl rfl (by kernel_rfl) (by kernel_rfl) (Z ?_)
 refine Ae [false,false,false,false,false,false,false,false,false,false,false,false,false,true] (Tr.sq [13] .fin) (by kernel_rfl) (Z ?_)
 replace h:=AF h; obtain⟨u,w,h⟩:=h
 refine AR w (Agent.dm_len _) (Z ?_)
 refine Ac (AU w) (Z ?_)
 replace h:=AF h; obtain⟨y,q,h⟩:=h
 refine Ac (D0 (sz:=5) (j:=4) (r:=List.map Port.ds u.ports) (AU (f:=Agent.dm) w) (Agent.dm_len _) (by rw [Agent.dm_eq]; rfl)) (Z ?_)
 refine AR q (Port.ds_len _) (Z ?_)
 replace h:=AF h; obtain⟨g,k,h⟩:=h
 replace h:=AF h; obtain⟨b,d,h⟩:=h
 refine Ac (D0 (sz:=5) (j:=4) (r:=List.map Port.ds u.ports) (AU (f:=Agent.dm) w) (Agent.dm_len _) (by rw [Agent.dm_eq]; rfl)) (Z ?_)
 refine Ac (AU q) (Z ?_)
 try refine BW ⟨List.cons_ne_nil _ _,by rfl,by decide,by rfl⟩ ?_
 try simp only [go_sem]
 refine BA (List.map Agent.dm b) ((GX (AU (f:=Agent.dm) w) (d':=.sl (List.map Port.ds u.ports)) (by simp only [go_sem,Agent.ds_eq,Agent.dm_eq])).trans (by rw [← Az d,← Az k]; simp only [List.map_set,List.set_cons_succ,List.set_cons_zero,go_sem,Agent.ds_eq,Agent.dm_eq,Port.ds_eq])) (Z ?_)
 refine AB (Z ?_)
 refine Ae [false,false,false,false,false,false,false,false,false,false,false,false,false,true] (Tr.sq [13] .fin) (by kernel_rfl) (Z ?_)
 replace h:=AF h; obtain⟨c,e,h⟩:=h
 refine AR e (Agent.dm_len _) (Z ?_)
 refine Ac (AU e) (Z ?_)
 replace h:=AF h; obtain⟨i,l,h⟩:=h
 refine Ac (D0 (sz:=5) (j:=4) (r:=List.map Port.ds c.ports) (AU (f:=Agent.dm) e) (Agent.dm_len _) (by rw [Agent.dm_eq]; rfl)) (Z ?_)
 refine AR l (Port.ds_len _) (Z ?_)
 replace h:=AF h; obtain⟨t,s,h⟩:=h
 replace h:=AF h; obtain⟨o,z,h⟩:=h
 refine Ac (D0 (sz:=5) (j:=4) (r:=List.map Port.ds c.ports) (AU (f:=Agent.dm) e) (Agent.dm_len _) (by rw [Agent.dm_eq]; rfl)) (Z ?_)
 refine Ac (AU l) (Z ?_)
 try refine BW ⟨List.cons_ne_nil _ _,by rfl,by decide,by rfl⟩ ?_
 try simp only [go_sem]
 refine BA (List.map Agent.dm o) ((GX (AU (f:=Agent.dm) e) (d':=.sl (List.map Port.ds c.ports)) (by simp only [go_sem,Agent.ds_eq,Agent.dm_eq])).trans (by rw [← Az z,← Az s]; simp only [List.map_set,List.set_cons_succ,List.set_cons_zero,go_sem,Agent.ds_eq,Agent.dm_eq,Port.ds_eq])) (Z ?_)
 cases h
 refine Bb (.done _) [(1501,1001)] [(1,1)] ?_
 simp only [go_sem]
theorem ID (a0 a1 a2 r) (h:B0 a0 a1 a2=some r):AG Tryz.prog 140 [.box 1 0,.agg [.int .i64 a1.agent,.int .i64 a1.slot],.agg [.int .i64 a2.agent,.int .i64 a2.slot]] [(1001,⟨List.map Agent.dm a0.net.agents,some 5,0,true⟩)] [(2,[.mpc (.int .i64) (List.map prB a0.removed)]),(1,[.own 1001,.ro (List.map Net.ds a0.book),.mpr 2])] (.tup []) [(1501,⟨List.map Agent.dm r.net.agents,some 5,0,true⟩)] [(1,[.own 1501,.ro (List.map Net.ds a0.book),.mpr 2]),(2,[.mpc (.int .i64) (List.map prB r.removed)])] :=by
 unfold B0 at h
 refine Co mixed Tryz.func140 rfl rfl rfl (by kernel_rfl) (by kernel_rfl) (Z ?_)
 refine Ae [false,false,false,false,false,false,false,false,false,false,false,false,true,true] (Tr.sq [12,13] .fin) (by kernel_rfl) (Z ?_)
 replace h:=AF h; obtain⟨u,w,h⟩:=h
 refine AK (Pq (Ed _ _ _ w) (.cons (.rop rfl) (.cons (.refl _) .nil))) (Z ?_)
 replace h:=AF h; obtain⟨y,q,h⟩:=h
 refine AK (Pq (Ed _ _ _ q) (.cons (.rop rfl) (.cons (.refl _) .nil))) (Z ?_)
 refine AB (Z ?_)
 refine AD h (fun h=>Z ?_) (fun h=>Z ?_)
 ·refine Ae [false,false,false,false,false,true] (Tr.sq [5] .fin) (by kernel_rfl) (Z ?_)
  replace h:=AF h; obtain⟨g,j,h⟩:=h
  refine AP ⟨[],[(1001,1001)],[(1,1,0)],[(1501,64080)],[],true⟩ (by kernel_rfl) (Ec _ _ _ _ j) (by kernel_rfl) (Z ?_)
  cases h
  refine Bb (.done _) [(1501,64080)] [(2,2),(1,1)] ?_
  simp only [go_sem]
 ·cases h
  refine Bb (.done _) [(1501,1001)] [(2,2),(1,1)] ?_
  simp only [go_sem]
theorem Aq (a0 a1 a2 r) (h:AX a0 a1 a2=some r):AG Tryz.prog 142 [.box 1 0,.agg [.int .i64 a1.agent,.int .i64 a1.slot],.agg [.int .i64 a2.agent,.int .i64 a2.slot]] [(1001,⟨List.map Agent.dm a0.net.agents,some 5,0,true⟩)] [(2,[.mpc (.int .i64) (List.map prB a0.removed)]),(1,[.own 1001,.ro (List.map Net.ds a0.book),.mpr 2])] (.tup []) [(1501,⟨List.map Agent.dm r.net.agents,some 5,0,true⟩)] [(1,[.own 1501,.ro (List.map Net.ds a0.book),.mpr 2]),(2,[.mpc (.int .i64) (List.map prB r.removed)])] :=by
 unfold AX at h
 refine Co mixed Tryz.func142 rfl rfl rfl (by kernel_rfl) (by kernel_rfl) (Z ?_)
 refine Ae [false,false,false,false,false,false,false,false,false,true] (Tr.sq [9] .fin) (by kernel_rfl) (Z ?_)
 replace h:=AF h; obtain⟨u,w,h⟩:=h
 refine AK (Pq (Ed _ _ _ w) (.cons (.rop rfl) (.cons (.refl _) .nil))) (Z ?_)
 replace h:=AF h; obtain⟨y,q,h⟩:=h
 refine AP ⟨[],[(1001,1001)],[(1,1,0)],[(1501,32144)],[],true⟩ (by kernel_rfl) (Ec _ _ _ _ q) (by kernel_rfl) (Z ?_)
 cases h
 refine Bb (.done _) [(1501,32144)] [(2,2),(1,1)] ?_
 simp only [go_sem]
theorem JP (n:Nat):(∀a0 a1 u w r,Ay n a0 a1 u w=some r→Dx Tryz.prog Tryz.f147 [1,0] (.tup []) [(1501,⟨List.map Agent.dm r.net.agents,some 5,0,true⟩)] [(1,[.own 1501,.ro (List.map Net.ds a0.book),.mpr 2]),(2,[.mpc (.int .i64) (List.map prB r.removed)])] ⟨[(0,.box 1 0),(6,.ro (List.map Au a1)),(7,.int .i64 ((List.length a1:Nat):Int)),(8,.int .i64 w)],[(1000000000,some ⟨List.map Agent.dm a0.net.agents,some 5,0,true⟩)],[(2,some [.mpc (.int .i64) (List.map prB u)]),(1,some [.own 1000000000,.ro (List.map Net.ds a0.book),.mpr 2])]⟩):=by
 induction n with
 |zero=>exact((fun _ _ _ _ _ h=>by rw [Ay] at h; cases h))
 | succ n ih=>
  have ih0:=ih
  ·intro a0 a1 u w r h
   rw [Ay] at h
   refine BB rfl rfl (Z ?_)
   refine Ag (Z ?_)
   refine AD h (fun h=>Z ?_) (fun h=>Z ?_)
   ·refine AB (Z ?_)
    replace h:=AF h; obtain⟨y,q,h⟩:=h
    refine AR q rfl (Z ?_)
    replace h:=AF h; obtain⟨g,j,h⟩:=h
    have hq_:=RT j
    obtain⟨hv4005_6a,hv4005_6b⟩:=hq_
    refine BW (by first|exact hv4005_6a|(rw [List.length_map]; exact hv4005_6a)) (Z ?_)
    refine BA (List.map prB g) (by rw [← hv4005_6b]; exact Yz) (Z ?_)
    refine AB (Z ?_)
    refine Am (AN rfl rfl (ih0 a0 a1 g (IntKind.i64.wrap (w+1)) _ h):) (.one ⟨_,.done _,[(1000000000,1000000000)],[(2,2),(1,1)],?_⟩)
    try simp only [go_sem]
   ·cases h
    refine Bb (.done _) [(1501,1000000000)] [(2,2),(1,1)] ?_
    simp only [go_sem]
theorem HB (a0 a1 r) (h:BM a0 a1=some r):AG Tryz.prog 147 [.box 1 0,.ro (List.map Au a1)] [(1001,⟨List.map Agent.dm a0.net.agents,some 5,0,true⟩)] [(2,[.mpc (.int .i64) (List.map prB a0.removed)]),(1,[.own 1001,.ro (List.map Net.ds a0.book),.mpr 2])] (.tup []) [(1501,⟨List.map Agent.dm r.net.agents,some 5,0,true⟩)] [(1,[.own 1501,.ro (List.map Net.ds a0.book),.mpr 2]),(2,[.mpc (.int .i64) (List.map prB r.removed)])] :=by
 unfold BM at h
 refine Co mixed Tryz.func147 rfl rfl rfl (by kernel_rfl) (by kernel_rfl) (Z ?_)
 refine AZ (AN rfl rfl (JP fuel a0 a1 a0.removed 0 _ h):) (.one ⟨_,.done _,[(1000000000,1001)],[(2,2),(1,1)],?_⟩)
 try simp only [go_sem]
theorem LW (a0 r) (h:D1 a0=some r):AG Tryz.prog 138 [.box 1 0] [(1001,⟨List.map Agent.dm a0.net.agents,some 5,0,true⟩)] [(2,[.mpc (.int .i64) (List.map prB a0.removed)]),(1,[.own 1001,.ro (List.map Net.ds a0.book),.mpr 2])] (.int .i64 r) [(1501,⟨List.map Agent.dm a0.net.agents,some 5,0,true⟩)] [(1,[.own 1501,.ro (List.map Net.ds a0.book),.mpr 2]),(2,[.mpc (.int .i64) (List.map prB a0.removed)])] :=by
 unfold D1 at h
 refine Co mixed Tryz.func138 rfl rfl rfl (by kernel_rfl) (by kernel_rfl) (Z ?_)
 refine Ae [] .fin (by kernel_rfl) (Z ?_)
 refine AB (Z ?_)
 cases h
 refine Bb (.done _) [(1501,1001)] [(2,2),(1,1)] ?_
 simp only [go_sem]
theorem NA (a0 r) (h:Em a0=some r):AC Tryz.prog 115 [.ro (List.map Au a0)] (.ow (some 1) (List.map Au r)):=by
 unfold Em at h
 refine AY mixed Tryz.func115 rfl rfl rfl (by kernel_rfl) (by kernel_rfl) (Z ?_)
 refine Yv (by simp only [go_sem]) (fun h0=>?_) ?_
 ·try simp only [go_sem]
  have hq_:=List.map_eq_nil_iff.1 h0
  obtain rfl:=hq_
  obtain rfl:r=[] :=by cases h; rfl
  simp only [go_sem]
 ·try simp only [go_sem]
  refine AB (Z ?_)
  replace h:=AF h; obtain⟨u,w,h⟩:=h
  have hq_:=BX w
  obtain⟨hv4002a,hv4002b⟩:=hq_
  refine EP false (Z ?_)
  refine BW (Fx (by intro x; exact⟨rfl,by simp [go_sem,D.flat]⟩) _) (Z ?_)
  refine BW (by refine⟨?_,?_⟩ <;> (try simp only [List.length_map,List.length_append,List.length_cons,List.length_nil] at*) <;> (try unfold maxLen) <;> omega) (Z ?_)
  refine BA (List.map Au u) (by rw [← hv4002b]; simp only [List.map_append,List.map_cons,List.map_nil,List.nil_append,List.append_nil,go_sem,slD]) (Z ?_)
  refine AB (Z ?_)
  cases h
  simp only [go_sem]
theorem Kx (a0 r) (h:i_copyAgent a0=some r):AC Tryz.prog 186 [.agg (Agent.avs a0)] (.agg (Agent.rv r)):=by
 unfold i_copyAgent at h
 refine AY mixed Tryz.func186 rfl rfl rfl (by kernel_rfl) (by kernel_rfl) (Z ?_)
 refine AB (Z ?_)
 refine Ae [false,false,false,false,false,false,false,true,true,true] (Tr.sq [7,8,9] .fin) (by kernel_rfl) (Z ?_)
 replace h:=AF h; obtain⟨u,w,h⟩:=h
 refine AK (NA _ _ w) (Z ?_)
 replace h:=AF h; obtain⟨y,q,h⟩:=h
 refine AK (GP _ _ q) (Z ?_)
 refine AB (Z ?_)
 cases h
 simp only [go_sem]
theorem Jt (n:Nat):(∀a0 a1 u w y r,Ar n a0 a1 u w y=some r→A7 Tryz.prog Tryz.f148 [1,1,1,1,0,1,0] (.agg (Net.rv r)) ⟨[(0,.rop [.ro (List.map Agent.ds a0.agents)] 0),(4,.box 1000007500 0),(5,.mpr 1000007501),(8,.box 1000007502 0),(25,.ro (List.map Au a1)),(26,.int .i64 ((List.length a1:Nat):Int)),(27,.int .i64 y)],[(1000007000,some ⟨List.map Agent.ds w,some 5,0,false⟩)],[(1000007500,some [.nils]),(1000007501,some [.mpc (.int .i64) (List.map prI u)]),(1000007502,some [.own 1000007000])]⟩)∧
    (∀a0 a1 u w y q g j r,Bi n a0 a1 u w y q g j=some r→A7 Tryz.prog Tryz.f148 [1,1,1,1,0,1,0,0,1,1,0,0,1,1,0,1,0] (.agg (Net.rv r)) ⟨[(0,.rop [.ro (List.map Agent.ds a0.agents)] 0),(4,.box 1000011500 0),(5,.mpr 1000011501),(8,.box 1000011502 0),(11,.box 1000011503 0),(25,.ro (List.map Au a1)),(26,.int .i64 ((List.length a1:Nat):Int)),(27,.int .i64 y),(41,.int .i64 ((List.length q.ports:Nat):Int)),(42,.int .i64 j)],[(1000011000,some ⟨List.map Agent.ds w,some 5,0,false⟩),(1000011001,some ⟨List.map Au q.data,some 1,0,false⟩),(1000011002,some ⟨List.map Port.ds g,some 2,0,false⟩)],[(1000011500,some [.nils]),(1000011501,some [.mpc (.int .i64) (List.map prI u)]),(1000011502,some [.own 1000011000]),(1000011503,some [.int .i64 q.kind,.int .i64 q.level,.int .i64 q.value,.own 1000011001,.own 1000011002])]⟩):=by
 induction n with
 |zero=>exact⟨(fun _ _ _ _ _ _ h=>by rw [Ar] at h; cases h),(fun _ _ _ _ _ _ _ _ _ h=>by rw [Bi] at h; cases h)⟩
 | succ n ih=>
  obtain⟨ih0,ih1⟩:=ih
  refine⟨?_,?_⟩
  ·intro a0 a1 u w y r h
   rw [Ar] at h
   refine AS rfl rfl (Z ?_)
   refine Ag (Z ?_)
   refine AD h (fun h=>Z ?_) (fun h=>Z ?_)
   ·refine AB (Z ?_)
    replace h:=AF h; obtain⟨k,b,h⟩:=h
    refine AR b rfl (Z ?_)
    replace h:=AF h; obtain⟨d,c,h⟩:=h
    refine AR c (Agent.ds_len _) (Z ?_)
    replace h:=AF h; obtain⟨q,e,h⟩:=h
    refine AK (Kx _ _ e) (Z ?_)
    refine AB (Z ?_)
    refine AZ (AH rfl rfl (ih1 a0 a1 u w y q q.ports 0 _ h):) (.one ⟨_,.done _,[(1000011000,1000007000),(1000011001,192112),(1000011002,192113)],[(1000011500,1000007500),(1000011501,1000007501),(1000011502,1000007502),(1000011503,12008)],?_⟩)
    try simp only [go_sem]
   ·refine AB (Z ?_)
    cases h
    simp only [go_sem]
  ·intro a0 a1 u w y q g j r h
   rw [Bi] at h
   refine AS rfl rfl (Z ?_)
   refine Ag (Z ?_)
   refine AD h (fun h=>Z ?_) (fun h=>Z ?_)
   ·refine AB (Z ?_)
    refine Ae [false,false,false,false,false,false,false,false,false,false,false,false,false,true] (Tr.sq [13] .fin) (by kernel_rfl) (Z ?_)
    replace h:=AF h; obtain⟨i,l,h⟩:=h
    refine AR l (Port.ds_len _) (Z ?_)
    refine Ac (AU l) (Z ?_)
    replace h:=AF h; obtain⟨t,s,h⟩:=h
    refine AR s (Port.ds_len _) (Z ?_)
    replace h:=AF h; obtain⟨o,z,h⟩:=h
    refine Ac (AU s) (Z ?_)
    refine BA (List.map Port.ds o) (by rw [← Az z]; simp only [List.map_set,go_sem,Port.ds_eq]) (Z ?_)
    refine AB (Z ?_)
    refine Am (AH rfl rfl (ih1 a0 a1 u w y q o (IntKind.i64.wrap (j+1)) _ h):) (.one ⟨_,.done _,[(1000011000,1000011000),(1000011001,1000011001),(1000011002,1000011002)],[(1000011500,1000011500),(1000011501,1000011501),(1000011502,1000011502),(1000011503,1000011503)],?_⟩)
    try simp only [go_sem]
   ·refine AB (Z ?_)
    replace h:=AF h; obtain⟨u1,u2,h⟩:=h
    have hq_:=BX u2
    obtain⟨hv18004a,hv18004b⟩:=hq_
    refine EP false (Z ?_)
    refine BW (by refine⟨?_,?_⟩ <;> (try simp only [List.length_map,List.length_append,List.length_cons,List.length_nil] at*) <;> (try unfold maxLen) <;> omega) (Z ?_)
    refine BA (List.map Agent.ds u1) (by rw [← hv18004b]; simp only [List.map_append,List.map_cons,List.map_nil,List.nil_append,List.append_nil,go_sem,Agent.ds_eq]) (Z ?_)
    refine AB (Z ?_)
    refine Am (AH rfl rfl (ih0 a0 a1 u u1 (IntKind.i64.wrap (y+1)) _ h):) (.one ⟨_,.done _,[(1000007000,288064)],[(1000007500,1000011500),(1000007501,1000011501),(1000007502,1000011502)],?_⟩)
    try simp only [go_sem]
theorem J8 (n:Nat):(∀a0 a1 u w y r,Ar n a0 a1 u w y=some r→A7 Tryz.prog Tryz.f148 [1,1,1,1,0,1,0] (.agg (Net.rv r)) ⟨[(0,.rop [.ro (List.map Agent.ds a0.agents)] 0),(4,.box 1000007500 0),(5,.mpr 1000007501),(8,.box 1000007502 0),(25,.ro (List.map Au a1)),(26,.int .i64 ((List.length a1:Nat):Int)),(27,.int .i64 y)],[(1000007000,some ⟨List.map Agent.ds w,some 5,0,false⟩)],[(1000007500,some [.nils]),(1000007501,some [.mpc (.int .i64) (List.map prI u)]),(1000007502,some [.own 1000007000])]⟩):=(Jt n).1
theorem Ky (n:Nat):(∀a0 a1 u w r,Bs n a0 a1 u w=some r→A7 Tryz.prog Tryz.f148 [1,1,0,1,0] (.agg (Net.rv r)) ⟨[(0,.rop [.ro (List.map Agent.ds a0.agents)] 0),(1,.ro (List.map Au a1)),(4,.box 1000001500 0),(5,.mpr 1000001501),(14,.ro (List.map Au a1)),(15,.int .i64 ((List.length a1:Nat):Int)),(16,.int .i64 w)],[],[(1000001500,some [.nils]),(1000001501,some [.mpc (.int .i64) (List.map prI u)])]⟩):=by
 induction n with
 |zero=>exact((fun _ _ _ _ _ h=>by rw [Bs] at h; cases h))
 | succ n ih=>
  have ih0:=ih
  ·intro a0 a1 u w r h
   rw [Bs] at h
   refine AS rfl rfl (Z ?_)
   refine Ag (Z ?_)
   refine AD h (fun h=>Z ?_) (fun h=>Z ?_)
   ·refine AB (Z ?_)
    replace h:=AF h; obtain⟨y,q,h⟩:=h
    refine AR q rfl (Z ?_)
    replace h:=AF h; obtain⟨g,j,h⟩:=h
    have hq_:=RT j
    obtain⟨hv6003_12a,hv6003_12b⟩:=hq_
    refine BW (by first|exact hv6003_12a|(rw [List.length_map]; exact hv6003_12a)) (Z ?_)
    refine BA (List.map prI g) (by rw [← hv6003_12b]; exact Y0) (Z ?_)
    refine AB (Z ?_)
    refine Am (AH rfl rfl (ih0 a0 a1 g (IntKind.i64.wrap (w+1)) _ h):) (.one ⟨_,.done _,[],[(1000001500,1000001500),(1000001501,1000001501)],?_⟩)
    try simp only [go_sem]
   ·refine AB (Z ?_)
    refine AB (Z ?_)
    refine AZ (AH rfl rfl (J8 fuel a0 a1 u [] 0 _ h):) (.one ⟨_,.cell 8000 0 2000000000 (some 5) false _ (by simp only [go_sem]; rfl) (by rfl) (by simp only [go_sem]) (.done _),[(1000007000,2000000000)],[(1000007500,1000001500),(1000007501,1000001501),(1000007502,8000)],?_⟩)
    simp only [go_sem]
    all_goals try rfl
theorem NC (a0 a1 r) (h:D2 a0 a1=some r):AC Tryz.prog 148 [.rop (Net.avs a0) 0,.ro (List.map Au a1)] (.agg (Net.rv r)):=by
 unfold D2 at h
 refine AY mixed Tryz.func148 rfl rfl rfl (by kernel_rfl) (by kernel_rfl) (Z ?_)
 refine AB (Z ?_)
 refine AZ (AH rfl rfl (Ky fuel a0 a1 [] 0 _ h):) (.one ⟨_,.done _,[],[(1000001500,1000),(1000001501,2000)],?_⟩)
 try simp only [go_sem]
theorem JQ (n:Nat):(∀a0 u w r,BC n a0 u w=some r→Dx Tryz.prog Tryz.f82 [1,1,0,1,0] (.agg [.own 1501]) [(1501,⟨List.map Agent.ds r.agents,some 5,0,false⟩),(1502,⟨List.map Agent.dm a0.net.agents,some 5,0,true⟩)] [(1,[.own 1502,.ro (List.map Net.ds a0.book),.mpr 2]),(2,[.mpc (.int .i64) (List.map prB a0.removed)])] ⟨[(0,.box 1 0),(2,.box 1000001500 0),(3,.own 1000001001),(10,.int .i64 ((List.length a0.net.agents:Nat):Int)),(11,.int .i64 w)],[(1000001000,some ⟨List.map Agent.dm a0.net.agents,some 5,0,true⟩),(1000001001,some ⟨List.map Au u,some 1,0,false⟩)],[(2,some [.mpc (.int .i64) (List.map prB a0.removed)]),(1,some [.own 1000001000,.ro (List.map Net.ds a0.book),.mpr 2]),(1000001500,some [.nils])]⟩):=by
 induction n with
 |zero=>exact((fun _ _ _ _ h=>by rw [BC] at h; cases h))
 | succ n ih=>
  have ih0:=ih
  ·intro a0 u w r h
   rw [BC] at h
   refine BB rfl rfl (Z ?_)
   refine Ag (Z ?_)
   refine AD h (fun h=>Z ?_) (fun h=>Z ?_)
   ·refine AB (Z ?_)
    refine AD h (fun h=>Z ?_) (fun h=>Z ?_)
    ·replace h:=AF h; obtain⟨y,q,h⟩:=h
     have hq_:=BX q
     obtain⟨hv7003a,hv7003b⟩:=hq_
     refine EP false (Z ?_)
     refine BW (by refine⟨?_,?_⟩ <;> (try simp only [List.length_map,List.length_append,List.length_cons,List.length_nil] at*) <;> (try unfold maxLen) <;> omega) (Z ?_)
     refine BA (List.map Au y) (by rw [← hv7003b]; simp only [List.map_append,List.map_cons,List.map_nil,List.nil_append,List.append_nil,go_sem,slD]) (Z ?_)
     refine AB (Z ?_)
     refine Am (AN rfl rfl (ih0 a0 y (IntKind.i64.wrap (w+1)) _ h):) (.one ⟨_,.done _,[(1000001000,1000001000),(1000001001,112048)],[(2,2),(1,1),(1000001500,1000001500)],?_⟩)
     try simp only [go_sem]
    ·refine AB (Z ?_)
     refine Am (AN rfl rfl (ih0 a0 u (IntKind.i64.wrap (w+1)) _ h):) (.one ⟨_,.done _,[(1000001000,1000001000),(1000001001,1000001001)],[(2,2),(1,1),(1000001500,1000001500)],?_⟩)
     try simp only [go_sem]
   ·refine AB (Z ?_)
    replace h:=AF h; obtain⟨g,j,h⟩:=h
    refine AK (Pq (NC _ _ _ j) (.cons (.rop rfl) (.cons (.refl _) .nil))) (Z ?_)
    refine AB (Z ?_)
    cases h
    refine Bb (.done _) [(1501,144064),(1502,1000001000)] [(2,2),(1,1)] ?_
    simp only [go_sem]
theorem Kz (a0 r) (h:Cp a0=some r):AG Tryz.prog 82 [.box 1 0] [(1001,⟨List.map Agent.dm a0.net.agents,some 5,0,true⟩)] [(2,[.mpc (.int .i64) (List.map prB a0.removed)]),(1,[.own 1001,.ro (List.map Net.ds a0.book),.mpr 2])] (.agg [.own 1501]) [(1501,⟨List.map Agent.ds r.agents,some 5,0,false⟩),(1502,⟨List.map Agent.dm a0.net.agents,some 5,0,true⟩)] [(1,[.own 1502,.ro (List.map Net.ds a0.book),.mpr 2]),(2,[.mpc (.int .i64) (List.map prB a0.removed)])] :=by
 unfold Cp at h
 refine Co mixed Tryz.func82 rfl rfl rfl (by kernel_rfl) (by kernel_rfl) (Z ?_)
 refine AB (Z ?_)
 refine AZ (AN rfl rfl (JQ fuel a0 [] 0 _ h):) (.one ⟨_,.slot 3 2000000000 (some 1) false (by simp only [go_sem]) (by simp only [go_sem]) (.done _),[(1000001000,1001),(1000001001,2000000000)],[(2,2),(1,1),(1000001500,1000)],?_⟩)
 simp only [go_sem]
 all_goals try rfl
theorem OW (n:Nat):(∀a0 u w r,EF n a0 u w=some r→A7 Tryz.prog Tryz.f117 [1,1,0,1,0] (.agg (Net.rv r)) ⟨[(2,.box 1000001500 0),(3,.box 1000001501 0),(12,.ro (List.map Agent.ds a0.agents)),(13,.int .i64 ((List.length a0.agents:Nat):Int)),(14,.int .i64 w)],[(1000001000,some ⟨List.map Agent.ds u,some 5,0,false⟩)],[(1000001500,some [.nils]),(1000001501,some [.own 1000001000])]⟩):=by
 induction n with
 |zero=>exact((fun _ _ _ _ h=>by rw [EF] at h; cases h))
 | succ n ih=>
  have ih0:=ih
  ·intro a0 u w r h
   rw [EF] at h
   refine AS rfl rfl (Z ?_)
   refine Ag (Z ?_)
   refine AD h (fun h=>Z ?_) (fun h=>Z ?_)
   ·refine AB (Z ?_)
    replace h:=AF h; obtain⟨y,q,h⟩:=h
    refine AR q (Agent.ds_len _) (Z ?_)
    refine AB (Z ?_)
    refine Ae [false,false,false,false,false,true,true,true] (Tr.sq [5,6,7] .fin) (by kernel_rfl) (Z ?_)
    replace h:=AF h; obtain⟨g,j,h⟩:=h
    refine AK (Kx _ _ j) (Z ?_)
    replace h:=AF h; obtain⟨k,b,h⟩:=h
    have hq_:=BX b
    obtain⟨hv6005a,hv6005b⟩:=hq_
    refine EP false (Z ?_)
    refine BW (by refine⟨?_,?_⟩ <;> (try simp only [List.length_map,List.length_append,List.length_cons,List.length_nil] at*) <;> (try unfold maxLen) <;> omega) (Z ?_)
    refine BA (List.map Agent.ds k) (by rw [← hv6005b]; simp only [List.map_append,List.map_cons,List.map_nil,List.nil_append,List.append_nil,go_sem,Agent.ds_eq]) (Z ?_)
    refine AB (Z ?_)
    refine Am (AH rfl rfl (ih0 a0 k (IntKind.i64.wrap (w+1)) _ h):) (.one ⟨_,.done _,[(1000001000,96080)],[(1000001500,1000001500),(1000001501,1000001501)],?_⟩)
    try simp only [go_sem]
   ·refine AB (Z ?_)
    cases h
    simp only [go_sem]
theorem SJ (a0 r) (h:I7 a0=some r):AC Tryz.prog 117 [.agg (Net.avs a0)] (.agg (Net.rv r)):=by
 unfold I7 at h
 refine AY mixed Tryz.func117 rfl rfl rfl (by kernel_rfl) (by kernel_rfl) (Z ?_)
 refine AB (Z ?_)
 replace h:=AF h; obtain⟨u,w,h⟩:=h
 have hq_:=Hx w
 obtain⟨hv2003a,hv2003b,hv2003c⟩:=hq_
 refine BW (by unfold leX; omega) (Z ?_)
 refine BW (by refine⟨?_,?_,?_⟩ <;> omega) (Z ?_)
 refine BA [] (by rfl) (Z ?_)
 refine AB (Z ?_)
 refine AZ (AH rfl rfl (OW fuel a0 [] 0 _ h):) (.one ⟨_,.done _,[(1000001000,32048)],[(1000001500,1001),(1000001501,2005)],?_⟩)
 try simp only [go_sem]
theorem OX (n:Nat):(∀a1 u w y r,C2 n a1 u w y=some r→A7 Tryz.prog Tryz.f169 [1,1,0,1,0] (.tup [.agg (Net.rv r.1),.bool r.2]) ⟨[(1,.int .i64 a1),(4,.box 1000001500 0),(6,.box 1000001501 0),(13,.int .i64 ((List.length u.agents:Nat):Int)),(14,.int .i64 y)],[(1000001000,some ⟨List.map Agent.ds w,some 5,0,false⟩)],[(1000001500,some [.nils]),(1000001501,some [.own 1000001000])]⟩):=by
 induction n with
 |zero=>exact((fun _ _ _ _ _ h=>by rw [C2] at h; cases h))
 | succ n ih=>
  have ih0:=ih
  ·intro a1 u w y r h
   rw [C2] at h
   refine AS rfl rfl (Z ?_)
   refine Ag (Z ?_)
   refine AD h (fun h=>Z ?_) (fun h=>Z ?_)
   ·refine AB (Z ?_)
    replace h:=AF h; obtain⟨q,g,h⟩:=h
    refine AR g (Agent.ds_len _) (Z ?_)
    refine Ac (AU g) (Z ?_)
    replace h:=AF h; obtain⟨j,k,h⟩:=h
    refine AK (Ir _ _ k) (Z ?_)
    refine AB (Z ?_)
    refine AD h (fun h=>Z ?_) (fun h=>Z ?_)
    ·refine AB (Z ?_)
     refine Am (AH rfl rfl (ih0 a1 u w (IntKind.i64.wrap (y+1)) _ h):) (.one ⟨_,.done _,[(1000001000,1000001000)],[(1000001500,1000001500),(1000001501,1000001501)],?_⟩)
     try simp only [go_sem]
    ·refine AB (Z ?_)
     refine Ac (AU g) (Z ?_)
     replace h:=AF h; obtain⟨b,d,h⟩:=h
     refine Ac (AU g) (Z ?_)
     refine BA (List.map Agent.ds b) (by rw [← Az d]; simp only [List.map_set,go_sem,Agent.ds_eq]) (Z ?_)
     replace h:=AF h; obtain⟨c,e,h⟩:=h
     refine Ac (AU e) (Z ?_)
     refine AD h (fun h=>Z ?_) (fun h=>Z ?_)
     ·cases h
      simp only [go_sem]
     ·refine AB (Z ?_)
      refine Am (AH rfl rfl (ih0 a1 u b (IntKind.i64.wrap (y+1)) _ h):) (.one ⟨_,.done _,[(1000001000,1000001000)],[(1000001500,1000001500),(1000001501,1000001501)],?_⟩)
      try simp only [go_sem]
   ·refine AB (Z ?_)
    cases h
    simp only [go_sem]
theorem ND (a0 a1 r) (h:Hb a0 a1=some r):AC Tryz.prog 169 [.agg (Net.avs a0),.int .i64 a1] (.tup [.agg (Net.rv r.1),.bool r.2]):=by
 unfold Hb at h
 refine AY mixed Tryz.func169 rfl rfl rfl (by kernel_rfl) (by kernel_rfl) (Z ?_)
 refine AB (Z ?_)
 replace h:=AF h; obtain⟨u,w,h⟩:=h
 refine AK (SJ _ _ w) (Z ?_)
 refine AB (Z ?_)
 refine AZ (AH rfl rfl (OX fuel a1 u u.agents 0 _ h):) (.one ⟨_,.done _,[(1000001000,32016)],[(1000001500,1001),(1000001501,2002)],?_⟩)
 try simp only [go_sem]
theorem GM (a0:Rewriter) (u:Int) (w:Int) (y:Int × Bool) (r:Int × Int × Int × Int) (h:Cz a0 u w y=some r):Dx Tryz.prog Tryz.f98 [1,1,1,1,1] (.tup [.int .i64 r.1,.int .i64 r.2.1,.int .i64 r.2.2.1,.int .i64 r.2.2.2]) [(1501,⟨List.map Agent.dm a0.net.agents,some 5,0,true⟩)] [(1,[.own 1501,.ro (List.map Net.ds a0.book),.mpr 2]),(2,[.mpc (.int .i64) (List.map prB a0.removed)])] ⟨[(4,.int .i64 y.1),(5,.int .i64 u),(6,.int .i64 w)],[(1000001000,some ⟨List.map Agent.dm a0.net.agents,some 5,0,true⟩)],[(2,some [.mpc (.int .i64) (List.map prB a0.removed)]),(1,some [.own 1000001000,.ro (List.map Net.ds a0.book),.mpr 2])]⟩:=by
 unfold Cz at h
 refine BB rfl rfl (Z ?_)
 cases h
 refine Bb (.done _) [(1501,1000001000)] [(2,2),(1,1)] ?_
 simp only [go_sem]
theorem GN (a0:Rewriter) (u:Int × Bool) (w:Int) (y:Int) (r:Int × Int × Int × Int) (h:CL a0 u w y=some r):Dx Tryz.prog Tryz.f98 [1,1,1,1] (.tup [.int .i64 r.1,.int .i64 r.2.1,.int .i64 r.2.2.1,.int .i64 r.2.2.2]) [(1501,⟨List.map Agent.dm a0.net.agents,some 5,0,true⟩)] [(1,[.own 1501,.ro (List.map Net.ds a0.book),.mpr 2]),(2,[.mpc (.int .i64) (List.map prB a0.removed)])] ⟨[(0,.box 1 0),(4,.int .i64 u.1),(5,.int .i64 w),(6,.int .i64 y)],[(1000000000,some ⟨List.map Agent.dm a0.net.agents,some 5,0,true⟩)],[(2,some [.mpc (.int .i64) (List.map prB a0.removed)]),(1,some [.own 1000000000,.ro (List.map Net.ds a0.book),.mpr 2])]⟩:=by
 unfold CL at h
 refine BB rfl rfl (Z ?_)
 refine AD h (fun h=>Z ?_) (fun h=>Z ?_)
 ·cases h
  refine Bb (.done _) [(1501,1000000000)] [(2,2),(1,1)] ?_
  simp only [go_sem]
 ·refine AD h (fun h=>Z ?_) (fun h=>Z ?_)
  ·replace h:=AF h; obtain⟨q,g,h⟩:=h
   refine AR g (Agent.dm_len _) (Z ?_)
   refine Ac (AU g) (Z ?_)
   refine AB (Z ?_)
   refine Ae [] .fin (by kernel_rfl) (Z ?_)
   refine AB (Z ?_)
   refine AD h (fun h=>Z ?_) (fun h=>Z ?_)
   ·cases h
    refine Bb (.done _) [(1501,1000000000)] [(2,2),(1,1)] ?_
    simp only [go_sem]
   ·refine AB (Z ?_)
    refine Ae [false,false,false,false,false,false,false,false,false,false,false,false,false,false,false,true,true] (Tr.sq [15,16] .fin) (by kernel_rfl) (Z ?_)
    replace h:=AF h; obtain⟨j,k,h⟩:=h
    refine AR k (Net.ds_len _) (Z ?_)
    replace h:=AF h; obtain⟨b,d,h⟩:=h
    refine AK (ND _ _ _ d) (Z ?_)
    refine AB (Z ?_)
    refine AD h (fun h=>Z ?_) (fun h=>Z ?_)
    ·cases h
     refine Bb (.done _) [(1501,1000000000)] [(2,2),(1,1)] ?_
     simp only [go_sem]
    ·refine AJ (AN rfl rfl (GM a0 w y u _ h):) (.one ⟨_,.done _,[(1000001000,1000000000)],[(2,2),(1,1)],?_⟩)
     try simp only [go_sem]
  ·refine AJ (AN rfl rfl (GM a0 w y u _ h):) (.one ⟨_,.done _,[(1000001000,1000000000)],[(2,2),(1,1)],?_⟩)
   try simp only [go_sem]
theorem LX (a0 a1 r) (h:CC a0 a1=some r):AG Tryz.prog 98 [.box 1 0,.agg [.int .i64 a1.a,.int .i64 a1.b]] [(1001,⟨List.map Agent.dm a0.net.agents,some 5,0,true⟩)] [(2,[.mpc (.int .i64) (List.map prB a0.removed)]),(1,[.own 1001,.ro (List.map Net.ds a0.book),.mpr 2])] (.tup [.int .i64 r.1,.int .i64 r.2.1,.int .i64 r.2.2.1,.int .i64 r.2.2.2]) [(1501,⟨List.map Agent.dm a0.net.agents,some 5,0,true⟩)] [(1,[.own 1501,.ro (List.map Net.ds a0.book),.mpr 2]),(2,[.mpc (.int .i64) (List.map prB a0.removed)])] :=by
 unfold CC at h
 refine Co mixed Tryz.func98 rfl rfl rfl (by kernel_rfl) (by kernel_rfl) (Z ?_)
 refine Ae [] .fin (by kernel_rfl) (Z ?_)
 replace h:=AF h; obtain⟨u,w,h⟩:=h
 refine AK (Pq (Ns _ _ _ w) (.cons (.rop rfl) (.cons (.refl _) .nil))) (Z ?_)
 refine AB (Z ?_)
 refine Ae [] .fin (by kernel_rfl) (Z ?_)
 refine AB (Z ?_)
 refine AD h (fun h=>Z ?_) (fun h=>Z ?_)
 ·refine AJ (AN rfl rfl (GN a0 u a1.b a1.a _ h):) (.one ⟨_,.done _,[(1000000000,1001)],[(2,2),(1,1)],?_⟩)
  try simp only [go_sem]
 ·refine AJ (AN rfl rfl (GN a0 u a1.a a1.b _ h):) (.one ⟨_,.done _,[(1000000000,1001)],[(2,2),(1,1)],?_⟩)
  try simp only [go_sem]
theorem K0 (a1:Int) (u:Int) (w:Bool) (r:Int × Int) (h:G0 a1 u w=some r):A7 Tryz.prog Tryz.f197 [1,1,1,0,1] (.tup [.int .i64 r.1,.int .i64 r.2]) ⟨[(1,.int .i64 a1),(8,.int .i64 u),(30,.bool w)],[],[]⟩:=by
 unfold G0 at h
 refine AS rfl rfl (Z ?_)
 refine AD h (fun h=>Z ?_) (fun h=>Z ?_)
 ·cases h
  simp only [go_sem]
 ·refine AB (Z ?_)
  cases h
  simp only [go_sem]
theorem D6 (a1:Int) (u:Int) (w:Int) (y:Int) (r:Int × Int) (h:DC a1 u w y=some r):A7 Tryz.prog Tryz.f197 [1,1,1] (.tup [.int .i64 r.1,.int .i64 r.2]) ⟨[(1,.int .i64 a1),(6,.int .i64 u),(7,.int .i64 w),(8,.int .i64 y)],[],[]⟩:=by
 unfold DC at h
 refine AS rfl rfl (Z ?_)
 refine AD h (fun h=>Z ?_) (fun h=>Z ?_)
 ·refine AJ (AH rfl rfl (K0 a1 y true _ h):) (.one ⟨_,.done _,[],[],?_⟩)
  try simp only [go_sem]
 ·refine AJ (AH rfl rfl (K0 a1 y (decide (w<a1)) _ h):) (.one ⟨_,.done _,[],[],?_⟩)
  try simp only [go_sem]
theorem K1 (a0:Int) (a1:Int) (u:Bool) (r:Int × Int) (h:G1 a0 a1 u=some r):A7 Tryz.prog Tryz.f197 [1,1,0,1,0,1] (.tup [.int .i64 r.1,.int .i64 r.2]) ⟨[(1,.int .i64 a1),(6,.int .i64 0),(7,.int .i64 0),(8,.int .i64 0),(9,.int .i64 a0),(10,.bool u)],[],[]⟩:=by
 unfold G1 at h
 refine AS rfl rfl (Z ?_)
 refine AD h (fun h=>Z ?_) (fun h=>Z ?_)
 ·refine AJ (AH rfl rfl (D6 a1 0 0 (-2) _ h):) (.one ⟨_,.done _,[],[],?_⟩)
  try simp only [go_sem]
 ·refine AD h (fun h=>Z ?_) (fun h=>Z ?_)
  ·refine AJ (AH rfl rfl (D6 a1 0 3 0 _ h):) (.one ⟨_,.done _,[],[],?_⟩)
   try simp only [go_sem]
  ·refine AD h (fun h=>Z ?_) (fun h=>Z ?_)
   ·refine AJ (AH rfl rfl (D6 a1 0 3 (-2) _ h):) (.one ⟨_,.done _,[],[],?_⟩)
    try simp only [go_sem]
   ·refine AD h (fun h=>Z ?_) (fun h=>Z ?_)
    ·refine AJ (AH rfl rfl (D6 a1 0 0 (-1) _ h):) (.one ⟨_,.done _,[],[],?_⟩)
     try simp only [go_sem]
    ·refine AD h (fun h=>Z ?_) (fun h=>Z ?_)
     ·refine AJ (AH rfl rfl (D6 a1 0 3 (-1) _ h):) (.one ⟨_,.done _,[],[],?_⟩)
      try simp only [go_sem]
     ·refine AD h (fun h=>Z ?_) (fun h=>Z ?_)
      ·refine AJ (AH rfl rfl (D6 a1 2 600 (-2) _ h):) (.one ⟨_,.done _,[],[],?_⟩)
       try simp only [go_sem]
      ·cases h
       simp only [go_sem]
theorem T6 (a0 a1 r) (h:Kj a0 a1=some r):AC Tryz.prog 197 [.int .i64 a0,.int .i64 a1] (.tup [.int .i64 r.1,.int .i64 r.2]):=by
 unfold Kj at h
 refine AY mixed Tryz.func197 rfl rfl rfl (by kernel_rfl) (by kernel_rfl) (Z ?_)
 refine AD h (fun h=>Z ?_) (fun h=>Z ?_)
 ·refine AJ (AH rfl rfl (K1 a0 a1 (decide (a0=1)) _ h):) (.one ⟨_,.done _,[],[],?_⟩)
  try simp only [go_sem]
 ·refine AJ (AH rfl rfl (K1 a0 a1 (decide (a0=2)) _ h):) (.one ⟨_,.done _,[],[],?_⟩)
  try simp only [go_sem]
theorem CD (a0:Rewriter) (a1:Int) (u:Int) (r:Int) (h:BD a0 a1 u=some r):Dx Tryz.prog Tryz.f139 [1,1,1] (.int .i64 r) [(1501,⟨List.map Agent.dm a0.net.agents,some 5,0,true⟩)] [(1,[.own 1501,.ro (List.map Net.ds a0.book),.mpr 2]),(2,[.mpc (.int .i64) (List.map prB a0.removed)])] ⟨[(1,.int .i64 a1),(9,.int .i64 u)],[(1000001000,some ⟨List.map Agent.dm a0.net.agents,some 5,0,true⟩)],[(2,some [.mpc (.int .i64) (List.map prB a0.removed)]),(1,some [.own 1000001000,.ro (List.map Net.ds a0.book),.mpr 2])]⟩:=by
 unfold BD at h
 refine BB rfl rfl (Z ?_)
 replace h:=AF h; obtain⟨w,y,h⟩:=h
 refine AK (T6 _ _ _ y) (Z ?_)
 refine AB (Z ?_)
 cases h
 refine Bb (.done _) [(1501,1000001000)] [(2,2),(1,1)] ?_
 simp only [go_sem]
theorem Fm (a0:Rewriter) (a1:Int) (a2:Int) (a3:Int) (u:Bool) (r:Int) (h:Ce a0 a1 a2 a3 u=some r):Dx Tryz.prog Tryz.f139 [1,1,0,1,0,1] (.int .i64 r) [(1501,⟨List.map Agent.dm a0.net.agents,some 5,0,true⟩)] [(1,[.own 1501,.ro (List.map Net.ds a0.book),.mpr 2]),(2,[.mpc (.int .i64) (List.map prB a0.removed)])] ⟨[(0,.box 1 0),(1,.int .i64 a1),(2,.int .i64 a2),(3,.int .i64 a3),(9,.int .i64 0),(12,.int .i64 a1),(13,.bool u)],[(1000000000,some ⟨List.map Agent.dm a0.net.agents,some 5,0,true⟩)],[(2,some [.mpc (.int .i64) (List.map prB a0.removed)]),(1,some [.own 1000000000,.ro (List.map Net.ds a0.book),.mpr 2])]⟩:=by
 unfold Ce at h
 refine BB rfl rfl (Z ?_)
 refine AD h (fun h=>Z ?_) (fun h=>Z ?_)
 ·replace h:=AF h; obtain⟨w,y,h⟩:=h
  refine AR y (Agent.dm_len _) (Z ?_)
  refine Ac (AU y) (Z ?_)
  refine Ac (D0 (sz:=5) (j:=4) (r:=List.map Port.ds w.ports) (AU (f:=Agent.dm) y) (Agent.dm_len _) (by rw [Agent.dm_eq]; rfl)) (Z ?_)
  refine AJ (AN rfl rfl (CD a0 a1 (IntKind.i64.wrap (((List.length w.ports:Nat):Int) - 1)) _ h):) (.one ⟨_,.done _,[(1000001000,1000000000)],[(2,2),(1,1)],?_⟩)
  try simp only [go_sem]
 ·refine AD h (fun h=>Z ?_) (fun h=>Z ?_)
  ·replace h:=AF h; obtain⟨q,g,h⟩:=h
   refine AR g (Agent.dm_len _) (Z ?_)
   refine Ac (AU g) (Z ?_)
   refine AD h (fun h=>Z ?_) (fun h=>Z ?_)
   ·replace h:=AF h; obtain⟨k,b,h⟩:=h
    refine AR b (Agent.dm_len _) (Z ?_)
    refine Ac (AU b) (Z ?_)
    refine Ac (D0 (sz:=5) (j:=4) (r:=List.map Port.ds k.ports) (AU (f:=Agent.dm) b) (Agent.dm_len _) (by rw [Agent.dm_eq]; rfl)) (Z ?_)
    refine AJ (AN rfl rfl (CD a0 a1 (IntKind.i64.wrap (((List.length k.ports:Nat):Int) - 1)) _ h):) (.one ⟨_,.done _,[(1000001000,1000000000)],[(2,2),(1,1)],?_⟩)
    try simp only [go_sem]
   ·refine AJ (AN rfl rfl (CD a0 a1 0 _ h):) (.one ⟨_,.done _,[(1000001000,1000000000)],[(2,2),(1,1)],?_⟩)
    try simp only [go_sem]
  ·refine AD h (fun h=>Z ?_) (fun h=>Z ?_)
   ·refine Ae [] .fin (by kernel_rfl) (Z ?_)
    replace h:=AF h; obtain⟨d,c,h⟩:=h
    refine AR c (Agent.dm_len _) (Z ?_)
    refine Ac (AU c) (Z ?_)
    replace h:=AF h; obtain⟨e,i,h⟩:=h
    refine AR i (Net.ds_len _) (Z ?_)
    refine AJ (AN rfl rfl (CD a0 a1 ((List.length e.agents:Nat):Int) _ h):) (.one ⟨_,.done _,[(1000001000,1000000000)],[(2,2),(1,1)],?_⟩)
    try simp only [go_sem]
   ·refine AJ (AN rfl rfl (CD a0 a1 0 _ h):) (.one ⟨_,.done _,[(1000001000,1000000000)],[(2,2),(1,1)],?_⟩)
    try simp only [go_sem]
theorem K2 (a0 a1 a2 a3 r) (h:Dd a0 a1 a2 a3=some r):AG Tryz.prog 139 [.box 1 0,.int .i64 a1,.int .i64 a2,.int .i64 a3] [(1001,⟨List.map Agent.dm a0.net.agents,some 5,0,true⟩)] [(2,[.mpc (.int .i64) (List.map prB a0.removed)]),(1,[.own 1001,.ro (List.map Net.ds a0.book),.mpr 2])] (.int .i64 r) [(1501,⟨List.map Agent.dm a0.net.agents,some 5,0,true⟩)] [(1,[.own 1501,.ro (List.map Net.ds a0.book),.mpr 2]),(2,[.mpc (.int .i64) (List.map prB a0.removed)])] :=by
 unfold Dd at h
 refine Co mixed Tryz.func139 rfl rfl rfl (by kernel_rfl) (by kernel_rfl) (Z ?_)
 refine AD h (fun h=>Z ?_) (fun h=>Z ?_)
 ·refine AJ (AN rfl rfl (Fm a0 a1 a2 a3 (decide (a1=3)) _ h):) (.one ⟨_,.done _,[(1000000000,1001)],[(2,2),(1,1)],?_⟩)
  try simp only [go_sem]
 ·refine AJ (AN rfl rfl (Fm a0 a1 a2 a3 (decide (a1=4)) _ h):) (.one ⟨_,.done _,[(1000000000,1001)],[(2,2),(1,1)],?_⟩)
  try simp only [go_sem]
end Go.Proofs.YtckcfdggbbabfaaGreat.Ab
