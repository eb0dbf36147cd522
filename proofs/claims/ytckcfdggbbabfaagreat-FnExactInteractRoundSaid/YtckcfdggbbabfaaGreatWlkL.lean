/-
 The functions do what their models say. Printed by wip/ab/gen.py.
-/
import Derived.Test.YtckcfdggbbabfaaGreatModL
import Derived.Test.YtckcfdggbbabfaaGreatTi2
import Derived.Test.YtckcfdggbbabfaaGreatWlkU
namespace Go.Proofs.YtckcfdggbbabfaaGreat.Ab
set_option linter.unusedVariables false
set_option linter.unusedSimpArgs false
set_option maxRecDepth 20000
set_option maxHeartbeats 4000000
open Go.RowKit
theorem E9 (a0 a1 a2 r) (h:s_l11Link a0 a1 a2=some r):AG Tryz.prog 193 [.box 1 0,.agg [.int .i64 a1.agent,.int .i64 a1.slot],.agg [.int .i64 a2.agent,.int .i64 a2.slot]] [(1001,⟨List.map Agent.ds a0.agents,some 5,0,false⟩)] [(1,[.own 1001])] (.tup []) [(1501,⟨List.map Agent.ds r.agents,some 5,0,false⟩)] [(1,[.own 1501])] :=by
 unfold s_l11Link at h
 refine Co mixed Tryz.func193 rfl rfl rfl (by kernel_rfl) (by kernel_rfl) (Z ?_)
 refine Ae [false,false,false,false,false,false,false,false,false,false,false,false,false,true] (Tr.sq [13] .fin) (by kernel_rfl) (Z ?_)
 replace h:=AF h; obtain⟨u,w,h⟩:=h
 refine AR w (Agent.ds_len _) (Z ?_)
 refine Ac (AU w) (Z ?_)
 replace h:=AF h; obtain⟨y,q,h⟩:=h
 refine Ac (D0 (sz:=5) (j:=4) (r:=List.map Port.ds u.ports) (AU (f:=Agent.ds) w) (Agent.ds_len _) (by rw [Agent.ds_eq]; rfl)) (Z ?_)
 refine AR q (Port.ds_len _) (Z ?_)
 replace h:=AF h; obtain⟨g,k,h⟩:=h
 replace h:=AF h; obtain⟨b,d,h⟩:=h
 refine Ac (D0 (sz:=5) (j:=4) (r:=List.map Port.ds u.ports) (AU (f:=Agent.ds) w) (Agent.ds_len _) (by rw [Agent.ds_eq]; rfl)) (Z ?_)
 refine Ac (AU q) (Z ?_)
 try refine BW ⟨List.cons_ne_nil _ _,by rfl,by decide,by rfl⟩ ?_
 try simp only [go_sem]
 refine BA (List.map Agent.ds b) ((GX (AU (f:=Agent.ds) w) (d':=.sl (List.map Port.ds u.ports)) (by simp only [go_sem,Agent.ds_eq])).trans (by rw [← Az d,← Az k]; simp only [List.map_set,List.set_cons_succ,List.set_cons_zero,go_sem,Agent.ds_eq,Port.ds_eq])) (Z ?_)
 refine AB (Z ?_)
 refine Ae [false,false,false,false,false,false,false,false,false,false,false,false,false,true] (Tr.sq [13] .fin) (by kernel_rfl) (Z ?_)
 replace h:=AF h; obtain⟨c,e,h⟩:=h
 refine AR e (Agent.ds_len _) (Z ?_)
 refine Ac (AU e) (Z ?_)
 replace h:=AF h; obtain⟨i,l,h⟩:=h
 refine Ac (D0 (sz:=5) (j:=4) (r:=List.map Port.ds c.ports) (AU (f:=Agent.ds) e) (Agent.ds_len _) (by rw [Agent.ds_eq]; rfl)) (Z ?_)
 refine AR l (Port.ds_len _) (Z ?_)
 replace h:=AF h; obtain⟨t,s,h⟩:=h
 replace h:=AF h; obtain⟨o,z,h⟩:=h
 refine Ac (D0 (sz:=5) (j:=4) (r:=List.map Port.ds c.ports) (AU (f:=Agent.ds) e) (Agent.ds_len _) (by rw [Agent.ds_eq]; rfl)) (Z ?_)
 refine Ac (AU l) (Z ?_)
 try refine BW ⟨List.cons_ne_nil _ _,by rfl,by decide,by rfl⟩ ?_
 try simp only [go_sem]
 refine BA (List.map Agent.ds o) ((GX (AU (f:=Agent.ds) e) (d':=.sl (List.map Port.ds c.ports)) (by simp only [go_sem,Agent.ds_eq])).trans (by rw [← Az z,← Az s]; simp only [List.map_set,List.set_cons_succ,List.set_cons_zero,go_sem,Agent.ds_eq,Port.ds_eq])) (Z ?_)
 cases h
 refine Bb (.done _) [(1501,1001)] [(1,1)] ?_
 simp only [go_sem]
theorem Jv (a0 a1 r) (h:Fi a0 a1=some r):AC Tryz.prog 192 [.rop (Net.avs a0) 0,.agg (Port.avs a1)] (.agg (Port.rv r)):=by
 unfold Fi at h
 refine AY mixed Tryz.func192 rfl rfl rfl (by kernel_rfl) (by kernel_rfl) (Z ?_)
 refine AB (Z ?_)
 refine Ae [false,false,false,false,false,false,false,false,false,false,false,false,false,true] (Tr.sq [13] .fin) (by kernel_rfl) (Z ?_)
 replace h:=AF h; obtain⟨u,w,h⟩:=h
 refine AR w (Agent.ds_len _) (Z ?_)
 replace h:=AF h; obtain⟨y,q,h⟩:=h
 refine AR q (Port.ds_len _) (Z ?_)
 refine AB (Z ?_)
 cases h
 simp only [go_sem]
theorem NG (a0 a1 a2 r) (h:E3 a0 a1 a2=some r):AG Tryz.prog 127 [.box 1 0,.agg [.int .i64 a1.agent,.int .i64 a1.slot],.agg [.int .i64 a2.agent,.int .i64 a2.slot]] [(1001,⟨List.map Agent.ds a0.agents,some 5,0,false⟩)] [(1,[.own 1001])] (.tup []) [(1501,⟨List.map Agent.ds r.agents,some 5,0,false⟩)] [(1,[.own 1501])] :=by
 unfold E3 at h
 refine Co mixed Tryz.func127 rfl rfl rfl (by kernel_rfl) (by kernel_rfl) (Z ?_)
 replace h:=AF h; obtain⟨u,w,h⟩:=h
 refine AK (Jv _ _ _ w) (Z ?_)
 refine AB (Z ?_)
 replace h:=AF h; obtain⟨y,q,h⟩:=h
 refine AK (Jv _ _ _ q) (Z ?_)
 refine AB (Z ?_)
 refine AD h (fun h=>Z ?_) (fun h=>Z ?_)
 ·replace h:=AF h; obtain⟨g,j,h⟩:=h
  refine AP ⟨[],[(1001,1001)],[(1,1,0)],[(1501,80048)],[],true⟩ (by kernel_rfl) (E9 _ _ _ _ j) (by kernel_rfl) (Z ?_)
  cases h
  refine Bb (.done _) [(1501,80048)] [(1,1)] ?_
  simp only [go_sem]
 ·cases h
  refine Bb (.done _) [(1501,1001)] [(1,1)] ?_
  simp only [go_sem]
theorem Cc (a0 a1 a2 r) (h:Bl a0 a1 a2=some r):AG Tryz.prog 131 [.box 1 0,.agg [.int .i64 a1.agent,.int .i64 a1.slot],.agg [.int .i64 a2.agent,.int .i64 a2.slot]] [(1001,⟨List.map Agent.ds a0.agents,some 5,0,false⟩)] [(1,[.own 1001])] (.tup []) [(1501,⟨List.map Agent.ds r.agents,some 5,0,false⟩)] [(1,[.own 1501])] :=by
 unfold Bl at h
 refine Co mixed Tryz.func131 rfl rfl rfl (by kernel_rfl) (by kernel_rfl) (Z ?_)
 refine Ae [false,false,false,false,false,true] (Tr.sq [5] .fin) (by kernel_rfl) (Z ?_)
 replace h:=AF h; obtain⟨u,w,h⟩:=h
 refine AK (Jv _ _ _ w) (Z ?_)
 replace h:=AF h; obtain⟨y,q,h⟩:=h
 refine AP ⟨[],[(1001,1001)],[(1,1,0)],[(1501,32080)],[],true⟩ (by kernel_rfl) (E9 _ _ _ _ q) (by kernel_rfl) (Z ?_)
 cases h
 refine Bb (.done _) [(1501,32080)] [(1,1)] ?_
 simp only [go_sem]
theorem NH (a0 a1 a2 a3 r) (h:Hd a0 a1 a2 a3=some r):AC Tryz.prog 223 [.int .i64 a0,.int .i64 a1,.int .i64 a2,.int .i64 a3] (.bool r):=by
 unfold Hd at h
 refine AY mixed Tryz.func223 rfl rfl rfl (by kernel_rfl) (by kernel_rfl) (Z ?_)
 replace h:=AF h; obtain⟨u,w,h⟩:=h
 refine AK (Gr _ _ _ w) (Z ?_)
 refine AD h (fun h=>Z ?_) (fun h=>Z ?_)
 ·replace h:=AF h; obtain⟨y,q,h⟩:=h
  refine AK (Gr _ _ _ q) (Z ?_)
  refine AD h (fun h=>Z ?_) (fun h=>Z ?_)
  ·refine AD h (fun h=>Z ?_) (fun h=>Z ?_)
   ·refine AB (Z ?_)
    cases h
    simp only [go_sem]
   ·refine AB (Z ?_)
    cases h
    simp only [go_sem]
  ·refine AB (Z ?_)
   cases h
   simp only [go_sem]
 ·refine AB (Z ?_)
  cases h
  simp only [go_sem]
theorem IK (a0:Int) (a1:Int) (a2:Int) (u:Bool) (r:Bool) (h:EU a0 a1 a2 u=some r):A7 Tryz.prog Tryz.f243 [1,1,0,1] (.bool r) ⟨[(0,.int .i64 a0),(1,.int .i64 a1),(2,.int .i64 a2),(21,.bool u)],[],[]⟩:=by
 unfold EU at h
 refine AS rfl rfl (Z ?_)
 refine AD h (fun h=>Z ?_) (fun h=>Z ?_)
 ·cases h
  simp only [go_sem]
 ·refine AB (Z ?_)
  replace h:=AF h; obtain⟨w,y,h⟩:=h
  refine AK (It _ _ y) (Z ?_)
  refine AD h (fun h=>Z ?_) (fun h=>Z ?_)
  ·refine AB (Z ?_)
   cases h
   simp only [go_sem]
  ·refine AB (Z ?_)
   cases h
   simp only [go_sem]
theorem IL (a0:Int) (a1:Int) (a2:Int) (u:Bool) (r:Bool) (h:EV a0 a1 a2 u=some r):A7 Tryz.prog Tryz.f243 [1,0,1] (.bool r) ⟨[(0,.int .i64 a0),(1,.int .i64 a1),(2,.int .i64 a2),(15,.bool u)],[],[]⟩:=by
 unfold EV at h
 refine AS rfl rfl (Z ?_)
 refine AD h (fun h=>Z ?_) (fun h=>Z ?_)
 ·cases h
  simp only [go_sem]
 ·refine AB (Z ?_)
  refine AD h (fun h=>Z ?_) (fun h=>Z ?_)
  ·refine AJ (AH rfl rfl (IK a0 a1 a2 true _ h):) (.one ⟨_,.done _,[],[],?_⟩)
   try simp only [go_sem]
  ·refine AJ (AH rfl rfl (IK a0 a1 a2 (decide (a1=12)) _ h):) (.one ⟨_,.done _,[],[],?_⟩)
   try simp only [go_sem]
theorem OY (a0 a1 a2 r) (h:F7 a0 a1 a2=some r):AC Tryz.prog 243 [.int .i64 a0,.int .i64 a1,.int .i64 a2] (.bool r):=by
 unfold F7 at h
 refine AY mixed Tryz.func243 rfl rfl rfl (by kernel_rfl) (by kernel_rfl) (Z ?_)
 replace h:=AF h; obtain⟨u,w,h⟩:=h
 refine AK (Br _ _ _ _ w) (Z ?_)
 refine AD h (fun h=>Z ?_) (fun h=>Z ?_)
 ·refine AJ (AH rfl rfl (IL a0 a1 a2 true _ h):) (.one ⟨_,.done _,[],[],?_⟩)
  try simp only [go_sem]
 ·replace h:=AF h; obtain⟨y,q,h⟩:=h
  refine AK (Gr _ _ _ q) (Z ?_)
  refine AJ (AH rfl rfl (IL a0 a1 a2 (!y) _ h):) (.one ⟨_,.done _,[],[],?_⟩)
  try simp only [go_sem]
theorem DV (u:Bool) (r:Bool) (h:CO u=some r):A7 Tryz.prog Tryz.f244 [1,0,1,0,1] (.bool r) ⟨[(4,.bool u)],[],[]⟩:=by
 unfold CO at h
 refine AS rfl rfl (Z ?_)
 refine AD h (fun h=>Z ?_) (fun h=>Z ?_)
 ·cases h
  simp only [go_sem]
 ·refine AB (Z ?_)
  cases h
  simp only [go_sem]
theorem OZ (a0 r) (h:F8 a0=some r):AC Tryz.prog 244 [.int .i64 a0] (.bool r):=by
 unfold F8 at h
 refine AY mixed Tryz.func244 rfl rfl rfl (by kernel_rfl) (by kernel_rfl) (Z ?_)
 refine AD h (fun h=>Z ?_) (fun h=>Z ?_)
 ·refine AJ (AH rfl rfl (DV (decide (a0=3)) _ h):) (.one ⟨_,.done _,[],[],?_⟩)
  try simp only [go_sem]
 ·refine AD h (fun h=>Z ?_) (fun h=>Z ?_)
  ·refine AJ (AH rfl rfl (DV (decide (a0=7)) _ h):) (.one ⟨_,.done _,[],[],?_⟩)
   try simp only [go_sem]
  ·refine AD h (fun h=>Z ?_) (fun h=>Z ?_)
   ·refine AJ (AH rfl rfl (DV (decide (a0=8)) _ h):) (.one ⟨_,.done _,[],[],?_⟩)
    try simp only [go_sem]
   ·refine AD h (fun h=>Z ?_) (fun h=>Z ?_)
    ·refine AJ (AH rfl rfl (DV (decide (a0=10)) _ h):) (.one ⟨_,.done _,[],[],?_⟩)
     try simp only [go_sem]
    ·refine AJ (AH rfl rfl (DV (decide (a0=11)) _ h):) (.one ⟨_,.done _,[],[],?_⟩)
     try simp only [go_sem]
theorem J1 (a1:Int) (a2:Int) (a3:Int) (u:Bool) (r:Int) (h:F9 a1 a2 a3 u=some r):A7 Tryz.prog Tryz.f224 [1,0,1,0,1,1,1,0,0,1] (.int .i64 r) ⟨[(1,.int .i64 a1),(2,.int .i64 a2),(3,.int .i64 a3),(20,.bool u)],[],[]⟩:=by
 unfold F9 at h
 refine AS rfl rfl (Z ?_)
 refine AD h (fun h=>Z ?_) (fun h=>Z ?_)
 ·cases h
  simp only [go_sem]
 ·refine AB (Z ?_)
  replace h:=AF h; obtain⟨w,y,h⟩:=h
  refine AK (OY _ _ _ _ y) (Z ?_)
  refine AB (Z ?_)
  refine AD h (fun h=>Z ?_) (fun h=>Z ?_)
  ·cases h
   simp only [go_sem]
  ·refine AB (Z ?_)
   cases h
   simp only [go_sem]
theorem J2 (u:Bool) (r:Int) (h:GA u=some r):A7 Tryz.prog Tryz.f224 [1,0,1,0,1,1,1,1,1,0,1] (.int .i64 r) ⟨[(33,.bool u)],[],[]⟩:=by
 unfold GA at h
 refine AS rfl rfl (Z ?_)
 refine AD h (fun h=>Z ?_) (fun h=>Z ?_)
 ·cases h
  simp only [go_sem]
 ·refine AB (Z ?_)
  cases h
  simp only [go_sem]
theorem J3 (a2:Int) (u:Bool) (r:Int) (h:GB a2 u=some r):A7 Tryz.prog Tryz.f224 [1,0,1,0,1,1,1,1,1,1,1,0,1,0,1] (.int .i64 r) ⟨[(36,.int .i64 a2),(37,.bool u)],[],[]⟩:=by
 unfold GB at h
 refine AS rfl rfl (Z ?_)
 refine AD h (fun h=>Z ?_) (fun h=>Z ?_)
 ·cases h
  simp only [go_sem]
 ·refine AD h (fun h=>Z ?_) (fun h=>Z ?_)
  ·cases h
   simp only [go_sem]
  ·refine AB (Z ?_)
   cases h
   simp only [go_sem]
theorem HP (a0 a1 a2 a3 r) (h:Fj a0 a1 a2 a3=some r):AC Tryz.prog 224 [.int .i64 a0,.int .i64 a1,.int .i64 a2,.int .i64 a3] (.int .i64 r):=by
 unfold Fj at h
 refine AY mixed Tryz.func224 rfl rfl rfl (by kernel_rfl) (by kernel_rfl) (Z ?_)
 refine AD h (fun h=>Z ?_) (fun h=>Z ?_)
 ·cases h
  simp only [go_sem]
 ·refine AD h (fun h=>Z ?_) (fun h=>Z ?_)
  ·refine AD h (fun h=>Z ?_) (fun h=>Z ?_)
   ·refine AJ (AH rfl rfl (J1 a1 a2 a3 (decide (a1=a3)) _ h):) (.one ⟨_,.done _,[],[],?_⟩)
    try simp only [go_sem]
   ·refine AJ (AH rfl rfl (J1 a1 a2 a3 false _ h):) (.one ⟨_,.done _,[],[],?_⟩)
    try simp only [go_sem]
  ·refine AD h (fun h=>Z ?_) (fun h=>Z ?_)
   ·refine AD h (fun h=>Z ?_) (fun h=>Z ?_)
    ·refine AJ (AH rfl rfl (J2 (decide (a1=a3)) _ h):) (.one ⟨_,.done _,[],[],?_⟩)
     try simp only [go_sem]
    ·refine AJ (AH rfl rfl (J2 false _ h):) (.one ⟨_,.done _,[],[],?_⟩)
     try simp only [go_sem]
   ·refine AD h (fun h=>Z ?_) (fun h=>Z ?_)
    ·refine AD h (fun h=>Z ?_) (fun h=>Z ?_)
     ·refine AJ (AH rfl rfl (J3 a2 (decide (a2=7)) _ h):) (.one ⟨_,.done _,[],[],?_⟩)
      try simp only [go_sem]
     ·refine AJ (AH rfl rfl (J3 a2 (decide (a2=8)) _ h):) (.one ⟨_,.done _,[],[],?_⟩)
      try simp only [go_sem]
    ·refine AD h (fun h=>Z ?_) (fun h=>Z ?_)
     ·refine AD h (fun h=>Z ?_) (fun h=>Z ?_)
      ·cases h
       simp only [go_sem]
      ·refine AB (Z ?_)
       cases h
       simp only [go_sem]
     ·refine AD h (fun h=>Z ?_) (fun h=>Z ?_)
      ·replace h:=AF h; obtain⟨u,w,h⟩:=h
       refine AK (OZ _ _ w) (Z ?_)
       refine AB (Z ?_)
       refine AD h (fun h=>Z ?_) (fun h=>Z ?_)
       ·cases h
        simp only [go_sem]
       ·refine AB (Z ?_)
        cases h
        simp only [go_sem]
      ·refine AB (Z ?_)
       cases h
       simp only [go_sem]
theorem Nu (a0 a1 a2 a3 r) (h:FK a0 a1 a2 a3=some r):AC Tryz.prog 190 [.int .i64 a0,.int .i64 a1,.int .i64 a2,.int .i64 a3] (.int .i64 r):=by
 unfold FK at h
 refine AY mixed Tryz.func190 rfl rfl rfl (by kernel_rfl) (by kernel_rfl) (Z ?_)
 replace h:=AF h; obtain⟨u,w,h⟩:=h
 refine AK (NH _ _ _ _ _ w) (Z ?_)
 refine AB (Z ?_)
 refine AD h (fun h=>Z ?_) (fun h=>Z ?_)
 ·cases h
  simp only [go_sem]
 ·refine AB (Z ?_)
  replace h:=AF h; obtain⟨y,q,h⟩:=h
  refine AK (HP _ _ _ _ _ q) (Z ?_)
  refine AB (Z ?_)
  refine AD h (fun h=>Z ?_) (fun h=>Z ?_)
  ·cases h
   simp only [go_sem]
  ·refine AB (Z ?_)
   replace h:=AF h; obtain⟨g,j,h⟩:=h
   refine AK (HP _ _ _ _ _ j) (Z ?_)
   refine AB (Z ?_)
   refine AD h (fun h=>Z ?_) (fun h=>Z ?_)
   ·cases h
    simp only [go_sem]
   ·refine AB (Z ?_)
    cases h
    simp only [go_sem]
theorem Lj (a0 a1 a2 r) (h:En a0 a1 a2=some r):AC Tryz.prog 125 [.rop (Net.avs a0) 0,.int .i64 a1,.int .i64 a2] (.tup [.int .i64 r.1,.int .i64 r.2]):=by
 unfold En at h
 refine AY mixed Tryz.func125 rfl rfl rfl (by kernel_rfl) (by kernel_rfl) (Z ?_)
 replace h:=AF h; obtain⟨u,w,h⟩:=h
 refine AR w (Agent.ds_len _) (Z ?_)
 replace h:=AF h; obtain⟨y,q,h⟩:=h
 refine AR q (Agent.ds_len _) (Z ?_)
 refine Ae [] .fin (by kernel_rfl) (Z ?_)
 replace h:=AF h; obtain⟨g,j,h⟩:=h
 refine AK (Nu _ _ _ _ _ j) (Z ?_)
 refine AB (Z ?_)
 refine AD h (fun h=>Z ?_) (fun h=>Z ?_)
 ·cases h
  simp only [go_sem]
 ·refine AB (Z ?_)
  cases h
  simp only [go_sem]
theorem Ij (u:Int) (r:Int) (h:Eo u=some r):A7 Tryz.prog Tryz.f191 [1,1,1,1] (.int .i64 r) ⟨[(9,.int .i64 u)],[],[]⟩:=by
 unfold Eo at h
 refine AS rfl rfl (Z ?_)
 refine AD h (fun h=>Z ?_) (fun h=>Z ?_)
 ·cases h
  simp only [go_sem]
 ·refine AB (Z ?_)
  cases h
  simp only [go_sem]
theorem QD (a0 a1 a2 a3 r) (h:G2 a0 a1 a2 a3=some r):AC Tryz.prog 191 [.int .i64 a0,.int .i64 a1,.int .i64 a2,.int .i64 a3] (.int .i64 r):=by
 unfold G2 at h
 refine AY mixed Tryz.func191 rfl rfl rfl (by kernel_rfl) (by kernel_rfl) (Z ?_)
 replace h:=AF h; obtain⟨u,w,h⟩:=h
 refine AK (NH _ _ _ _ _ w) (Z ?_)
 refine AB (Z ?_)
 refine AD h (fun h=>Z ?_) (fun h=>Z ?_)
 ·cases h
  simp only [go_sem]
 ·refine AB (Z ?_)
  replace h:=AF h; obtain⟨y,q,h⟩:=h
  refine AK (HP _ _ _ _ _ q) (Z ?_)
  refine AB (Z ?_)
  refine AD h (fun h=>Z ?_) (fun h=>Z ?_)
  ·replace h:=AF h; obtain⟨g,j,h⟩:=h
   refine AK (HP _ _ _ _ _ j) (Z ?_)
   refine AJ (AH rfl rfl (Ij g _ h):) (.one ⟨_,.done _,[],[],?_⟩)
   try simp only [go_sem]
  ·refine AJ (AH rfl rfl (Ij y _ h):) (.one ⟨_,.done _,[],[],?_⟩)
   try simp only [go_sem]
theorem Gl (a0:Agent) (a1:Agent) (u:Bool) (r:Int) (h:EZ a0 a1 u=some r):A7 Tryz.prog Tryz.f126 [1,1,0,1] (.int .i64 r) ⟨[(0,.rop [.int .i64 a0.kind,.int .i64 a0.level,.int .i64 a0.value,.ro (List.map Au a0.data),.ro (List.map Port.ds a0.ports)] 0),(1,.rop [.int .i64 a1.kind,.int .i64 a1.level,.int .i64 a1.value,.ro (List.map Au a1.data),.ro (List.map Port.ds a1.ports)] 0),(52,.bool u)],[],[]⟩:=by
 unfold EZ at h
 refine AS rfl rfl (Z ?_)
 refine AD h (fun h=>Z ?_) (fun h=>Z ?_)
 ·cases h
  simp only [go_sem]
 ·refine AB (Z ?_)
  refine Ae [] .fin (by kernel_rfl) (Z ?_)
  replace h:=AF h; obtain⟨w,y,h⟩:=h
  refine AK (QD _ _ _ _ _ y) (Z ?_)
  refine AB (Z ?_)
  cases h
  simp only [go_sem]
theorem Gm (a0:Agent) (a1:Agent) (u:Bool) (r:Int) (h:Ea a0 a1 u=some r):A7 Tryz.prog Tryz.f126 [1,0,1] (.int .i64 r) ⟨[(0,.rop [.int .i64 a0.kind,.int .i64 a0.level,.int .i64 a0.value,.ro (List.map Au a0.data),.ro (List.map Port.ds a0.ports)] 0),(1,.rop [.int .i64 a1.kind,.int .i64 a1.level,.int .i64 a1.value,.ro (List.map Au a1.data),.ro (List.map Port.ds a1.ports)] 0),(28,.bool u)],[],[]⟩:=by
 unfold Ea at h
 refine AS rfl rfl (Z ?_)
 refine AD h (fun h=>Z ?_) (fun h=>Z ?_)
 ·cases h
  simp only [go_sem]
 ·refine AB (Z ?_)
  refine Ae [] .fin (by kernel_rfl) (Z ?_)
  refine AD h (fun h=>Z ?_) (fun h=>Z ?_)
  ·refine AD h (fun h=>Z ?_) (fun h=>Z ?_)
   ·refine AJ (AH rfl rfl (Gl a0 a1 (decide (((List.length a0.data:Nat):Int)≤a1.value)) _ h):) (.one ⟨_,.done _,[],[],?_⟩)
    try simp only [go_sem]
   ·refine AJ (AH rfl rfl (Gl a0 a1 false _ h):) (.one ⟨_,.done _,[],[],?_⟩)
    try simp only [go_sem]
  ·refine AJ (AH rfl rfl (Gl a0 a1 false _ h):) (.one ⟨_,.done _,[],[],?_⟩)
   try simp only [go_sem]
theorem Lk (a0 a1 r) (h:Gc a0 a1=some r):AC Tryz.prog 126 [.rop (Agent.avs a0) 0,.rop (Agent.avs a1) 0] (.int .i64 r):=by
 unfold Gc at h
 refine AY mixed Tryz.func126 rfl rfl rfl (by kernel_rfl) (by kernel_rfl) (Z ?_)
 refine Ae [] .fin (by kernel_rfl) (Z ?_)
 refine AD h (fun h=>Z ?_) (fun h=>Z ?_)
 ·refine AD h (fun h=>Z ?_) (fun h=>Z ?_)
  ·refine AJ (AH rfl rfl (Gm a0 a1 (decide (((List.length a1.data:Nat):Int)≤a0.value)) _ h):) (.one ⟨_,.done _,[],[],?_⟩)
   try simp only [go_sem]
  ·refine AJ (AH rfl rfl (Gm a0 a1 false _ h):) (.one ⟨_,.done _,[],[],?_⟩)
   try simp only [go_sem]
 ·refine AJ (AH rfl rfl (Gm a0 a1 false _ h):) (.one ⟨_,.done _,[],[],?_⟩)
  try simp only [go_sem]
theorem UA (a0 a1 r) (h:Km a0 a1=some r):AC Tryz.prog 105 [.int .i64 a0,.int .i64 a1] (.int .i64 r):=by
 unfold Km at h
 refine AY mixed Tryz.func105 rfl rfl rfl (by kernel_rfl) (by kernel_rfl) (Z ?_)
 refine AD h (fun h=>Z ?_) (fun h=>Z ?_)
 ·cases h
  simp only [go_sem]
 ·refine AB (Z ?_)
  cases h
  simp only [go_sem]
theorem MM (n:Nat):(∀a0 u w r,CP n a0 u w=some r→A7 Tryz.prog Tryz.f188 [1,1,0,1,0] (.int .i64 r) ⟨[(0,.rop [.ro (List.map Agent.ds a0.agents)] 0),(3,.int .i64 u),(4,.int .i64 w)],[],[]⟩):=by
 induction n with
 |zero=>exact((fun _ _ _ _ h=>by rw [CP] at h; cases h))
 | succ n ih=>
  have ih0:=ih
  ·intro a0 u w r h
   rw [CP] at h
   refine AS rfl rfl (Z ?_)
   refine Ag (Z ?_)
   refine AD h (fun h=>Z ?_) (fun h=>Z ?_)
   ·refine AB (Z ?_)
    replace h:=AF h; obtain⟨y,q,h⟩:=h
    refine AR q (Agent.ds_len _) (Z ?_)
    replace h:=AF h; obtain⟨g,j,h⟩:=h
    refine AK (UA _ _ _ j) (Z ?_)
    refine AB (Z ?_)
    refine Am (AH rfl rfl (ih0 a0 g (IntKind.i64.wrap (w+1)) _ h):) (.one ⟨_,.done _,[],[],?_⟩)
    try simp only [go_sem]
   ·refine AB (Z ?_)
    cases h
    simp only [go_sem]
theorem Oa (a0 r) (h:HO a0=some r):AC Tryz.prog 188 [.rop (Net.avs a0) 0] (.int .i64 r):=by
 unfold HO at h
 refine AY mixed Tryz.func188 rfl rfl rfl (by kernel_rfl) (by kernel_rfl) (Z ?_)
 refine AZ (AH rfl rfl (MM fuel a0 0 0 _ h):) (.one ⟨_,.done _,[],[],?_⟩)
 try simp only [go_sem]
theorem D7 (a1:Int) (u:Int) (w:Int) (y:Int) (r:Int × Int) (h:DD a1 u w y=some r):A7 Tryz.prog Tryz.f189 [1,1,1,1,1] (.tup [.int .i64 r.1,.int .i64 r.2]) ⟨[(1,.int .i64 a1),(6,.int .i64 u),(7,.int .i64 w),(8,.int .i64 y)],[],[]⟩:=by
 unfold DD at h
 refine AS rfl rfl (Z ?_)
 replace h:=AF h; obtain⟨q,g,h⟩:=h
 refine AK (Br _ _ _ _ g) (Z ?_)
 refine AB (Z ?_)
 refine AD h (fun h=>Z ?_) (fun h=>Z ?_)
 ·cases h
  simp only [go_sem]
 ·refine AB (Z ?_)
  cases h
  simp only [go_sem]
theorem K5 (a0:Int) (a1:Int) (u:Bool) (r:Int × Int) (h:G3 a0 a1 u=some r):A7 Tryz.prog Tryz.f189 [1,1,1,1,0,1,0,1] (.tup [.int .i64 r.1,.int .i64 r.2]) ⟨[(1,.int .i64 a1),(6,.int .i64 0),(7,.int .i64 0),(9,.int .i64 a0),(10,.bool u)],[],[]⟩:=by
 unfold G3 at h
 refine AS rfl rfl (Z ?_)
 refine AD h (fun h=>Z ?_) (fun h=>Z ?_)
 ·refine AJ (AH rfl rfl (D7 a1 0 0 (-2) _ h):) (.one ⟨_,.done _,[],[],?_⟩)
  try simp only [go_sem]
 ·refine AD h (fun h=>Z ?_) (fun h=>Z ?_)
  ·refine AJ (AH rfl rfl (D7 a1 0 3 a1 _ h):) (.one ⟨_,.done _,[],[],?_⟩)
   try simp only [go_sem]
  ·refine AD h (fun h=>Z ?_) (fun h=>Z ?_)
   ·refine AJ (AH rfl rfl (D7 a1 0 3 (IntKind.i64.wrap (a1 - 2)) _ h):) (.one ⟨_,.done _,[],[],?_⟩)
    try simp only [go_sem]
   ·refine AD h (fun h=>Z ?_) (fun h=>Z ?_)
    ·refine AJ (AH rfl rfl (D7 a1 0 0 (-1) _ h):) (.one ⟨_,.done _,[],[],?_⟩)
     try simp only [go_sem]
    ·refine AD h (fun h=>Z ?_) (fun h=>Z ?_)
     ·refine AJ (AH rfl rfl (D7 a1 0 3 (IntKind.i64.wrap (a1 - 1)) _ h):) (.one ⟨_,.done _,[],[],?_⟩)
      try simp only [go_sem]
     ·refine AD h (fun h=>Z ?_) (fun h=>Z ?_)
      ·refine AJ (AH rfl rfl (D7 a1 2 600 (IntKind.i64.wrap (a1 - 2)) _ h):) (.one ⟨_,.done _,[],[],?_⟩)
       try simp only [go_sem]
      ·cases h
       simp only [go_sem]
theorem UB (a0 a1 r) (h:Kn a0 a1=some r):AC Tryz.prog 189 [.int .i64 a0,.int .i64 a1] (.tup [.int .i64 r.1,.int .i64 r.2]):=by
 unfold Kn at h
 refine AY mixed Tryz.func189 rfl rfl rfl (by kernel_rfl) (by kernel_rfl) (Z ?_)
 refine AD h (fun h=>Z ?_) (fun h=>Z ?_)
 ·refine AJ (AH rfl rfl (K5 a0 a1 (decide (a0=1)) _ h):) (.one ⟨_,.done _,[],[],?_⟩)
  try simp only [go_sem]
 ·refine AJ (AH rfl rfl (K5 a0 a1 (decide (a0=2)) _ h):) (.one ⟨_,.done _,[],[],?_⟩)
  try simp only [go_sem]
theorem Eg (u:Int) (w:Int) (r:Int × Int) (h:Cg u w=some r):A7 Tryz.prog Tryz.f123 [1,1,1,1,1,1,1] (.tup [.int .i64 r.1,.int .i64 r.2]) ⟨[(12,.int .i64 u),(13,.int .i64 w)],[],[]⟩:=by
 unfold Cg at h
 refine AS rfl rfl (Z ?_)
 replace h:=AF h; obtain⟨y,q,h⟩:=h
 refine AK (UB _ _ _ q) (Z ?_)
 refine AB (Z ?_)
 cases h
 simp only [go_sem]
theorem Ik (a0:List Net) (u:Agent) (w:Agent) (y:Int) (q:Bool) (r:Int × Int) (h:Ep a0 u w y q=some r):A7 Tryz.prog Tryz.f123 [1,1,1,1,1,1,0,1,0,1,1,1] (.tup [.int .i64 r.1,.int .i64 r.2]) ⟨[(0,.ro (List.map Net.ds a0)),(10,.rop [.int .i64 u.kind,.int .i64 u.level,.int .i64 u.value,.ro (List.map Au u.data),.ro (List.map Port.ds u.ports)] 0),(11,.rop [.int .i64 w.kind,.int .i64 w.level,.int .i64 w.value,.ro (List.map Au w.data),.ro (List.map Port.ds w.ports)] 0),(12,.int .i64 y),(13,.int .i64 0),(38,.int .i64 y),(41,.bool q)],[],[]⟩:=by
 unfold Ep at h
 refine AS rfl rfl (Z ?_)
 refine AD h (fun h=>Z ?_) (fun h=>Z ?_)
 ·refine AJ (AH rfl rfl (Eg y (IntKind.i64.wrap (((List.length w.ports:Nat):Int) - 1)) _ h):) (.one ⟨_,.done _,[],[],?_⟩)
  try simp only [go_sem]
 ·refine AD h (fun h=>Z ?_) (fun h=>Z ?_)
  ·replace h:=AF h; obtain⟨g,j,h⟩:=h
   refine AK (IM _ _ j) (Z ?_)
   refine AJ (AH rfl rfl (Eg y g _ h):) (.one ⟨_,.done _,[],[],?_⟩)
   try simp only [go_sem]
  ·refine AD h (fun h=>Z ?_) (fun h=>Z ?_)
   ·refine AD h (fun h=>Z ?_) (fun h=>Z ?_)
    ·cases h
     simp only [go_sem]
    ·refine AB (Z ?_)
     replace h:=AF h; obtain⟨k,b,h⟩:=h
     refine AR b (Net.ds_len _) (Z ?_)
     refine Ae [] .fin (by kernel_rfl) (Z ?_)
     replace h:=AF h; obtain⟨d,c,h⟩:=h
     refine AR c (Net.ds_len _) (Z ?_)
     replace h:=AF h; obtain⟨e,i,h⟩:=h
     refine AK (Oa _ _ i) (Z ?_)
     refine AB (Z ?_)
     refine AD h (fun h=>Z ?_) (fun h=>Z ?_)
     ·cases h
      simp only [go_sem]
     ·refine AJ (AH rfl rfl (Eg y ((List.length k.agents:Nat):Int) _ h):) (.one ⟨_,.done _,[],[],?_⟩)
      try simp only [go_sem]
   ·refine AJ (AH rfl rfl (Eg y 0 _ h):) (.one ⟨_,.done _,[],[],?_⟩)
    try simp only [go_sem]
theorem QE (a0 a1 a2 a3 r) (h:G4 a0 a1 a2 a3=some r):AC Tryz.prog 123 [.ro (List.map Net.ds a0),.rop (Net.avs a1) 0,.int .i64 a2,.int .i64 a3] (.tup [.int .i64 r.1,.int .i64 r.2]):=by
 unfold G4 at h
 refine AY mixed Tryz.func123 rfl rfl rfl (by kernel_rfl) (by kernel_rfl) (Z ?_)
 replace h:=AF h; obtain⟨u,w,h⟩:=h
 refine AK (Lj _ _ _ _ w) (Z ?_)
 refine AB (Z ?_)
 replace h:=AF h; obtain⟨y,q,h⟩:=h
 refine AR q (Agent.ds_len _) (Z ?_)
 replace h:=AF h; obtain⟨g,j,h⟩:=h
 refine AR j (Agent.ds_len _) (Z ?_)
 replace h:=AF h; obtain⟨k,b,h⟩:=h
 refine AK (Lk _ _ _ b) (Z ?_)
 refine AB (Z ?_)
 refine AD h (fun h=>Z ?_) (fun h=>Z ?_)
 ·cases h
  simp only [go_sem]
 ·refine AD h (fun h=>Z ?_) (fun h=>Z ?_)
  ·refine AJ (AH rfl rfl (Ik a0 y g k (decide (k=3)) _ h):) (.one ⟨_,.done _,[],[],?_⟩)
   try simp only [go_sem]
  ·refine AJ (AH rfl rfl (Ik a0 y g k (decide (k=4)) _ h):) (.one ⟨_,.done _,[],[],?_⟩)
   try simp only [go_sem]
theorem Ob (n:Nat):(∀a0 u w r,C4 n a0 u w=some r→A7 Tryz.prog Tryz.f124 [1,1,0,1,0] (.int .i64 r) ⟨[(0,.rop [.ro (List.map Agent.ds a0.agents)] 0),(3,.int .i64 u),(4,.int .i64 w)],[],[]⟩):=by
 induction n with
 |zero=>exact((fun _ _ _ _ h=>by rw [C4] at h; cases h))
 | succ n ih=>
  have ih0:=ih
  ·intro a0 u w r h
   rw [C4] at h
   refine AS rfl rfl (Z ?_)
   refine Ag (Z ?_)
   refine AD h (fun h=>Z ?_) (fun h=>Z ?_)
   ·refine AB (Z ?_)
    replace h:=AF h; obtain⟨y,q,h⟩:=h
    refine AR q (Agent.ds_len _) (Z ?_)
    refine AD h (fun h=>Z ?_) (fun h=>Z ?_)
    ·refine AB (Z ?_)
     refine Am (AH rfl rfl (ih0 a0 (IntKind.i64.wrap (u+1)) (IntKind.i64.wrap (w+1)) _ h):) (.one ⟨_,.done _,[],[],?_⟩)
     try simp only [go_sem]
    ·refine AB (Z ?_)
     refine Am (AH rfl rfl (ih0 a0 u (IntKind.i64.wrap (w+1)) _ h):) (.one ⟨_,.done _,[],[],?_⟩)
     try simp only [go_sem]
   ·refine AB (Z ?_)
    cases h
    simp only [go_sem]
theorem SN (a0 r) (h:LO a0=some r):AC Tryz.prog 124 [.rop (Net.avs a0) 0] (.int .i64 r):=by
 unfold LO at h
 refine AY mixed Tryz.func124 rfl rfl rfl (by kernel_rfl) (by kernel_rfl) (Z ?_)
 refine AZ (AH rfl rfl (Ob fuel a0 0 0 _ h):) (.one ⟨_,.done _,[],[],?_⟩)
 try simp only [go_sem]
theorem AW (a0 a1 r) (h:Ad a0 a1=some r):AC Tryz.prog 128 [.int .i64 a0,.int .i64 a1] (.agg (Port.rv r)):=by
 unfold Ad at h
 refine AY mixed Tryz.func128 rfl rfl rfl (by kernel_rfl) (by kernel_rfl) (Z ?_)
 refine AB (Z ?_)
 cases h
 simp only [go_sem]
theorem QF (n:Nat):(∀a0 a1 a2 a3 u w y r,EA n a0 a1 a2 a3 u w y=some r→Dx Tryz.prog Tryz.f130 [1,1,0,1,0] (.int .i64 r.1) [(1501,⟨List.map Agent.ds r.2.agents,some 5,0,false⟩)] [(1,[.own 1501])] ⟨[(0,.box 1 0),(13,.box 1000001500 0),(14,.int .i64 y)],[(1000001000,some ⟨List.map Agent.ds a0.agents,some 5,0,false⟩),(1000001001,some ⟨List.map Au u,some 1,0,false⟩),(1000001002,some ⟨List.map Port.ds w,some 2,0,false⟩)],[(1,some [.own 1000001000]),(1000001500,some [.int .i64 a1,.int .i64 a2,.int .i64 a3,.own 1000001001,.own 1000001002])]⟩):=by
 induction n with
 |zero=>exact((fun _ _ _ _ _ _ _ _ h=>by rw [EA] at h; cases h))
 | succ n ih=>
  have ih0:=ih
  ·intro a0 a1 a2 a3 u w y r h
   rw [EA] at h
   refine BB rfl rfl (Z ?_)
   refine Ag (Z ?_)
   refine AD h (fun h=>Z ?_) (fun h=>Z ?_)
   ·refine AB (Z ?_)
    replace h:=AF h; obtain⟨q,g,h⟩:=h
    have hq_:=BX g
    obtain⟨hv6004a,hv6004b⟩:=hq_
    refine EP false (Z ?_)
    refine BW (by refine⟨?_,?_⟩ <;> (try simp only [List.length_map,List.length_append,List.length_cons,List.length_nil] at*) <;> (try unfold maxLen) <;> omega) (Z ?_)
    refine BA (List.map Port.ds q) (by rw [← hv6004b]; simp only [List.map_append,List.map_cons,List.map_nil,List.nil_append,List.append_nil,go_sem,Port.ds_eq]) (Z ?_)
    refine AB (Z ?_)
    refine Am (AN rfl rfl (ih0 a0 a1 a2 a3 u q (IntKind.i64.wrap (y - 1)) _ h):) (.one ⟨_,.done _,[(1000001000,1000001000),(1000001001,1000001001),(1000001002,96064)],[(1,1),(1000001500,1000001500)],?_⟩)
    try simp only [go_sem]
   ·refine AB (Z ?_)
    refine Ae [false,false,false,false,false,false,false,true,true,true,true] (Tr.sq [7,8,9,10] .fin) (by kernel_rfl) (Z ?_)
    replace h:=AF h; obtain⟨j,k,h⟩:=h
    have hq_:=BX k
    obtain⟨hv7007a,hv7007b⟩:=hq_
    refine EP false (Z ?_)
    refine BW (by refine⟨?_,?_⟩ <;> (try simp only [List.length_map,List.length_append,List.length_cons,List.length_nil] at*) <;> (try unfold maxLen) <;> omega) (Z ?_)
    refine BA (List.map Agent.ds j) (by rw [← hv7007b]; simp only [List.map_append,List.map_cons,List.map_nil,List.nil_append,List.append_nil,go_sem,Agent.ds_eq]) (Z ?_)
    refine AB (Z ?_)
    cases h
    refine Bb (.done _) [(1501,112112)] [(1,1)] ?_
    simp only [go_sem]
theorem Dk (a0 a1 a2 a3 a4 a5 r) (h:CV a0 a1 a2 a3 a4 a5=some r):AG Tryz.prog 130 [.box 1 0,.int .i64 a1,.int .i64 a2,.int .i64 a3,.ro (List.map Au a4),.int .i64 a5] [(1001,⟨List.map Agent.ds a0.agents,some 5,0,false⟩)] [(1,[.own 1001])] (.int .i64 r.1) [(1501,⟨List.map Agent.ds r.2.agents,some 5,0,false⟩)] [(1,[.own 1501])] :=by
 unfold CV at h
 refine Co mixed Tryz.func130 rfl rfl rfl (by kernel_rfl) (by kernel_rfl) (Z ?_)
 replace h:=AF h; obtain⟨u,w,h⟩:=h
 refine AK (OL _ _ w) (Z ?_)
 refine AB (Z ?_)
 refine AZ (AN rfl rfl (QF fuel a0 a1 a2 a3 u [] a5 _ h):) (.one ⟨_,.cell 2006 4 2000000000 (some 2) false _ (by simp only [go_sem]; rfl) (by rfl) (by simp only [go_sem]) (.done _),[(1000001000,1001),(1000001001,32064),(1000001002,2000000000)],[(1,1),(1000001500,2006)],?_⟩)
 simp only [go_sem]
 all_goals try rfl
theorem K6 (n:Nat):(∀a2 u w y q r,Bu n a2 u w y q=some r→Dx Tryz.prog Tryz.f129 [1,1,1,1,1,1,1,1,1,0] (.tup []) [(1501,⟨List.map Agent.ds r.agents,some 5,0,false⟩)] [(1,[.own 1501])] ⟨[(0,.box 1 0),(2,.int .i64 a2),(8,.int .i64 ((List.length u.ports:Nat):Int)),(10,.int .i64 w.1),(13,.int .i64 q)],[(1000002000,some ⟨List.map Agent.ds y,some 5,0,false⟩)],[(1,some [.own 1000002000])]⟩):=by
 induction n with
 |zero=>exact((fun _ _ _ _ _ _ h=>by rw [Bu] at h; cases h))
 | succ n ih=>
  have ih0:=ih
  ·intro a2 u w y q r h
   rw [Bu] at h
   refine BB rfl rfl (Z ?_)
   refine Ag (Z ?_)
   refine AD h (fun h=>Z ?_) (fun h=>Z ?_)
   ·refine AB (Z ?_)
    replace h:=AF h; obtain⟨g,j,h⟩:=h
    refine AK (AW _ _ _ j) (Z ?_)
    replace h:=AF h; obtain⟨k,b,h⟩:=h
    refine AK (AW _ _ _ b) (Z ?_)
    replace h:=AF h; obtain⟨d,c,h⟩:=h
    refine AP ⟨[],[(1001,1000002000)],[(1,1,0)],[(1501,272128)],[],true⟩ (by kernel_rfl) (Cc _ _ _ _ c) (by kernel_rfl) (Z ?_)
    refine AB (Z ?_)
    refine Am (AN rfl rfl (ih0 a2 u w d.agents (IntKind.i64.wrap (q+1)) _ h):) (.one ⟨_,.done _,[(1000002000,272128)],[(1,1)],?_⟩)
    try simp only [go_sem]
   ·cases h
    refine Bb (.done _) [(1501,1000002000)] [(1,1)] ?_
    simp only [go_sem]
theorem K7 (n:Nat):(∀a1 a2 u w y q g j r,Bd n a1 a2 u w y q g j=some r→Dx Tryz.prog Tryz.f129 [1,1,1,1,1,0,1,0] (.tup []) [(1501,⟨List.map Agent.ds r.agents,some 5,0,false⟩)] [(1,[.own 1501])] ⟨[(0,.box 1 0),(1,.int .i64 a1),(2,.int .i64 a2),(6,.int .i64 u.level),(8,.int .i64 ((List.length w.ports:Nat):Int)),(9,.int .i64 y.1),(10,.int .i64 q.1),(11,.int .i64 j)],[(1000001000,some ⟨List.map Agent.ds g,some 5,0,false⟩)],[(1,some [.own 1000001000])]⟩):=by
 induction n with
 |zero=>exact((fun _ _ _ _ _ _ _ _ _ h=>by rw [Bd] at h; cases h))
 | succ n ih=>
  have ih0:=ih
  ·intro a1 a2 u w y q g j r h
   rw [Bd] at h
   refine BB rfl rfl (Z ?_)
   refine Ag (Z ?_)
   refine AD h (fun h=>Z ?_) (fun h=>Z ?_)
   ·refine AB (Z ?_)
    replace h:=AF h; obtain⟨k,b,h⟩:=h
    refine AP ⟨[],[(1001,1000001000)],[(1,1,0)],[(1501,144032)],[],true⟩ (by kernel_rfl) (Dk _ _ _ _ _ _ _ b) (by kernel_rfl) (Z ?_)
    refine AB (Z ?_)
    replace h:=AF h; obtain⟨d,c,h⟩:=h
    refine AK (AW _ _ _ c) (Z ?_)
    replace h:=AF h; obtain⟨e,i,h⟩:=h
    refine AK (AW _ _ _ i) (Z ?_)
    replace h:=AF h; obtain⟨l,t,h⟩:=h
    refine AP ⟨[],[(1001,144032)],[(1,1,0)],[(1501,160096)],[],true⟩ (by kernel_rfl) (E9 _ _ _ _ t) (by kernel_rfl) (Z ?_)
    refine AB (Z ?_)
    replace h:=AF h; obtain⟨s,o,h⟩:=h
    refine AK (AW _ _ _ o) (Z ?_)
    replace h:=AF h; obtain⟨z,u1,h⟩:=h
    refine AK (AW _ _ _ u1) (Z ?_)
    replace h:=AF h; obtain⟨u2,u3,h⟩:=h
    refine AP ⟨[],[(1001,160096)],[(1,1,0)],[(1501,176096)],[],true⟩ (by kernel_rfl) (E9 _ _ _ _ u3) (by kernel_rfl) (Z ?_)
    refine AB (Z ?_)
    refine Am (AN rfl rfl (ih0 a1 a2 u w y q u2.agents (IntKind.i64.wrap (j+1)) _ h):) (.one ⟨_,.done _,[(1000001000,176096)],[(1,1)],?_⟩)
    try simp only [go_sem]
   ·refine AB (Z ?_)
    replace h:=AF h; obtain⟨u4,u5,h⟩:=h
    refine AK (AW _ _ _ u5) (Z ?_)
    replace h:=AF h; obtain⟨u6,u7,h⟩:=h
    refine AK (AW _ _ _ u7) (Z ?_)
    replace h:=AF h; obtain⟨u8,u9,h⟩:=h
    refine AP ⟨[],[(1001,1000001000)],[(1,1,0)],[(1501,192080)],[],true⟩ (by kernel_rfl) (Cc _ _ _ _ u9) (by kernel_rfl) (Z ?_)
    refine AB (Z ?_)
    replace h:=AF h; obtain⟨u10,u11,h⟩:=h
    refine AK (AW _ _ _ u11) (Z ?_)
    replace h:=AF h; obtain⟨u12,u13,h⟩:=h
    refine AK (AW _ _ _ u13) (Z ?_)
    replace h:=AF h; obtain⟨u14,u15,h⟩:=h
    refine AP ⟨[],[(1001,192080)],[(1,1,0)],[(1501,208080)],[],true⟩ (by kernel_rfl) (Cc _ _ _ _ u15) (by kernel_rfl) (Z ?_)
    refine AB (Z ?_)
    refine AZ (AN rfl rfl (K6 fuel a2 w q u14.agents 1 _ h):) (.one ⟨_,.done _,[(1000002000,208080)],[(1,1)],?_⟩)
    try simp only [go_sem]
theorem NI (a0 a1 a2 r) (h:Er a0 a1 a2=some r):AG Tryz.prog 129 [.box 1 0,.int .i64 a1,.int .i64 a2] [(1001,⟨List.map Agent.ds a0.agents,some 5,0,false⟩)] [(1,[.own 1001])] (.tup []) [(1501,⟨List.map Agent.ds r.agents,some 5,0,false⟩)] [(1,[.own 1501])] :=by
 unfold Er at h
 refine Co mixed Tryz.func129 rfl rfl rfl (by kernel_rfl) (by kernel_rfl) (Z ?_)
 replace h:=AF h; obtain⟨u,w,h⟩:=h
 refine AR w (Agent.ds_len _) (Z ?_)
 refine Ac (AU w) (Z ?_)
 replace h:=AF h; obtain⟨y,q,h⟩:=h
 refine AR q (Agent.ds_len _) (Z ?_)
 replace h:=AF h; obtain⟨g,j,h⟩:=h
 refine Nl (by simp only [AU q,Agent.ds_eq,go_sem,Nat.reduceEqDiff,reduceIte] <;> rfl) (DL _ _ j) (Z ?_)
 refine AB (Z ?_)
 replace h:=AF h; obtain⟨k,b,h⟩:=h
 refine AP ⟨[],[(1001,1001)],[(1,1,0)],[(1501,64160)],[],false⟩ (by kernel_rfl) (Dk _ _ _ _ _ _ _ b) (by kernel_rfl) (Z ?_)
 refine AB (Z ?_)
 replace h:=AF h; obtain⟨d,c,h⟩:=h
 refine AP ⟨[],[(1001,64160)],[(1,1,0)],[(1501,80160)],[],false⟩ (by kernel_rfl) (Dk _ _ _ _ _ _ _ c) (by kernel_rfl) (Z ?_)
 refine AB (Z ?_)
 refine AZ (AN rfl rfl (K7 fuel a1 a2 u g k d d.2.agents 1 _ h):) (.one ⟨_,.done _,[(1000001000,80160)],[(1,1)],?_⟩)
 try simp only [go_sem]
theorem Fp (a0 r) (h:FL a0=some r):AC Tryz.prog 225 [.int .i64 a0] (.int .i64 r):=by
 unfold FL at h
 refine AY mixed Tryz.func225 rfl rfl rfl (by kernel_rfl) (by kernel_rfl) (Z ?_)
 cases h
 simp only [go_sem]
theorem NJ (a0 r) (h:JB a0=some r):AC Tryz.prog 226 [.bool a0] (.int .i64 r):=by
 unfold JB at h
 refine AY mixed Tryz.func226 rfl rfl rfl (by kernel_rfl) (by kernel_rfl) (Z ?_)
 refine AD h (fun h=>Z ?_) (fun h=>Z ?_)
 ·cases h
  simp only [go_sem]
 ·refine AB (Z ?_)
  cases h
  simp only [go_sem]
theorem SO (a0 a1 a2 r) (h:JC a0 a1 a2=some r):AC Tryz.prog 194 [.int .i64 a0,.int .i64 a1,.int .i64 a2] (.int .i64 r):=by
 unfold JC at h
 refine AY mixed Tryz.func194 rfl rfl rfl (by kernel_rfl) (by kernel_rfl) (Z ?_)
 replace h:=AF h; obtain⟨u,w,h⟩:=h
 refine AK (Fp _ _ w) (Z ?_)
 refine AB (Z ?_)
 replace h:=AF h; obtain⟨y,q,h⟩:=h
 refine AK (Fp _ _ q) (Z ?_)
 refine AB (Z ?_)
 refine AD h (fun h=>Z ?_) (fun h=>Z ?_)
 ·replace h:=AF h; obtain⟨g,j,h⟩:=h
  refine AK (Fp _ _ j) (Z ?_)
  refine AB (Z ?_)
  cases h
  simp only [go_sem]
 ·refine AD h (fun h=>Z ?_) (fun h=>Z ?_)
  ·replace h:=AF h; obtain⟨k,b,h⟩:=h
   refine AK (Fp _ _ b) (Z ?_)
   refine AB (Z ?_)
   cases h
   simp only [go_sem]
  ·refine AD h (fun h=>Z ?_) (fun h=>Z ?_)
   ·replace h:=AF h; obtain⟨d,c,h⟩:=h
    refine AK (Fp _ _ c) (Z ?_)
    refine AB (Z ?_)
    cases h
    simp only [go_sem]
   ·refine AD h (fun h=>Z ?_) (fun h=>Z ?_)
    ·refine AD h (fun h=>Z ?_) (fun h=>Z ?_)
     ·cases h
      simp only [go_sem]
     ·refine AB (Z ?_)
      replace h:=AF h; obtain⟨e,i,h⟩:=h
      refine BW (Vx i) (Z ?_)
      replace h:=AF h; obtain⟨l,t,h⟩:=h
      refine AK (Fp _ _ t) (Z ?_)
      refine AB (Z ?_)
      cases h
      simp only [go_sem]
    ·refine AD h (fun h=>Z ?_) (fun h=>Z ?_)
     ·replace h:=AF h; obtain⟨s,o,h⟩:=h
      refine AK (NJ _ _ o) (Z ?_)
      refine AB (Z ?_)
      cases h
      simp only [go_sem]
     ·refine AD h (fun h=>Z ?_) (fun h=>Z ?_)
      ·replace h:=AF h; obtain⟨z,u1,h⟩:=h
       refine AK (NJ _ _ u1) (Z ?_)
       refine AB (Z ?_)
       cases h
       simp only [go_sem]
      ·refine AB (Z ?_)
       cases h
       simp only [go_sem]
theorem Oc (a0 a1 a2 r) (h:E4 a0 a1 a2=some r):AG Tryz.prog 132 [.box 1 0,.int .i64 a1,.int .i64 a2] [(1001,⟨List.map Agent.ds a0.agents,some 5,0,false⟩)] [(1,[.own 1001])] (.tup []) [(1501,⟨List.map Agent.ds r.agents,some 5,0,false⟩)] [(1,[.own 1501])] :=by
 unfold E4 at h
 refine Co mixed Tryz.func132 rfl rfl rfl (by kernel_rfl) (by kernel_rfl) (Z ?_)
 replace h:=AF h; obtain⟨u,w,h⟩:=h
 refine AR w (Agent.ds_len _) (Z ?_)
 replace h:=AF h; obtain⟨y,q,h⟩:=h
 refine Nl (by simp only [AU w,Agent.ds_eq,go_sem,Nat.reduceEqDiff,reduceIte] <;> rfl) (DL _ _ q) (Z ?_)
 refine AB (Z ?_)
 replace h:=AF h; obtain⟨g,j,h⟩:=h
 refine AR j (Agent.ds_len _) (Z ?_)
 refine Ac (AU j) (Z ?_)
 refine AD h (fun h=>Z ?_) (fun h=>Z ?_)
 ·refine Ae [false,false,false,false,false,false,false,false,false,true,true] (Tr.sq [9,10] .fin) (by kernel_rfl) (Z ?_)
  replace h:=AF h; obtain⟨k,b,h⟩:=h
  refine AR b rfl (Z ?_)
  refine Ac (AU b) (Z ?_)
  replace h:=AF h; obtain⟨d,c,h⟩:=h
  refine AK (SO _ _ _ _ c) (Z ?_)
  replace h:=AF h; obtain⟨e,i,h⟩:=h
  refine AP ⟨[],[(1001,1001)],[(1,1,0)],[(1501,64144)],[],true⟩ (by kernel_rfl) (Dk _ _ _ _ _ _ _ i) (by kernel_rfl) (Z ?_)
  refine AB (Z ?_)
  replace h:=AF h; obtain⟨l,t,h⟩:=h
  refine AK (AW _ _ _ t) (Z ?_)
  replace h:=AF h; obtain⟨s,o,h⟩:=h
  refine AK (AW _ _ _ o) (Z ?_)
  replace h:=AF h; obtain⟨z,u1,h⟩:=h
  refine AP ⟨[],[(1001,64144)],[(1,1,0)],[(1501,80080)],[],true⟩ (by kernel_rfl) (Cc _ _ _ _ u1) (by kernel_rfl) (Z ?_)
  refine AB (Z ?_)
  cases h
  refine Bb (.done _) [(1501,80080)] [(1,1)] ?_
  simp only [go_sem]
 ·refine AB (Z ?_)
  replace h:=AF h; obtain⟨u2,u3,h⟩:=h
  refine AP ⟨[],[(1001,1001)],[(1,1,0)],[(1501,96112)],[],false⟩ (by kernel_rfl) (Dk _ _ _ _ _ _ _ u3) (by kernel_rfl) (Z ?_)
  refine AB (Z ?_)
  replace h:=AF h; obtain⟨u4,u5,h⟩:=h
  refine AK (AW _ _ _ u5) (Z ?_)
  replace h:=AF h; obtain⟨u6,u7,h⟩:=h
  refine AK (AW _ _ _ u7) (Z ?_)
  replace h:=AF h; obtain⟨u8,u9,h⟩:=h
  refine AP ⟨[],[(1001,96112)],[(1,1,0)],[(1501,112080)],[],true⟩ (by kernel_rfl) (Cc _ _ _ _ u9) (by kernel_rfl) (Z ?_)
  refine AB (Z ?_)
  replace h:=AF h; obtain⟨u10,u11,h⟩:=h
  refine AK (AW _ _ _ u11) (Z ?_)
  replace h:=AF h; obtain⟨u12,u13,h⟩:=h
  refine AK (AW _ _ _ u13) (Z ?_)
  replace h:=AF h; obtain⟨u14,u15,h⟩:=h
  refine AP ⟨[],[(1001,112080)],[(1,1,0)],[(1501,128080)],[],true⟩ (by kernel_rfl) (Cc _ _ _ _ u15) (by kernel_rfl) (Z ?_)
  cases h
  refine Bb (.done _) [(1501,128080)] [(1,1)] ?_
  simp only [go_sem]
theorem Il (a0:Net) (a2:Int) (u:Agent) (w:Int) (r:Net) (h:Es a0 a2 u w=some r):Dx Tryz.prog Tryz.f133 [1,0,1,0,1,1] (.tup []) [(1501,⟨List.map Agent.ds r.agents,some 5,0,false⟩)] [(1,[.own 1501])] ⟨[(0,.box 1 0),(2,.int .i64 a2),(6,.box 1000000500 0),(7,.int .i64 w)],[(1000000000,some ⟨List.map Agent.ds a0.agents,some 5,0,false⟩),(1000000001,some ⟨List.map Au u.data,some 1,0,false⟩),(1000000002,some ⟨List.map Port.ds u.ports,some 2,0,false⟩)],[(1,some [.own 1000000000]),(1000000500,some [.int .i64 u.kind,.int .i64 u.level,.int .i64 u.value,.own 1000000001,.own 1000000002])]⟩:=by
 unfold Es at h
 refine BB rfl rfl (Z ?_)
 replace h:=AF h; obtain⟨y,q,h⟩:=h
 refine AP ⟨[],[(1001,1000000000)],[(1,1,0)],[(1501,96064)],[],true⟩ (by kernel_rfl) (Dk _ _ _ _ _ _ _ q) (by kernel_rfl) (Z ?_)
 refine AB (Z ?_)
 replace h:=AF h; obtain⟨g,j,h⟩:=h
 refine AK (AW _ _ _ j) (Z ?_)
 replace h:=AF h; obtain⟨k,b,h⟩:=h
 refine AK (AW _ _ _ b) (Z ?_)
 replace h:=AF h; obtain⟨d,c,h⟩:=h
 refine AP ⟨[],[(1001,96064)],[(1,1,0)],[(1501,112080)],[],true⟩ (by kernel_rfl) (Cc _ _ _ _ c) (by kernel_rfl) (Z ?_)
 refine AB (Z ?_)
 cases h
 refine Bb (.done _) [(1501,112080)] [(1,1)] ?_
 simp only [go_sem]
theorem NK (n:Nat):(∀a1 a2 u w y q g j r,Ci n a1 a2 u w y q g j=some r→Dx Tryz.prog Tryz.f133 [1,1,1,1,1,0,1,0] (.tup []) [(1501,⟨List.map Agent.ds r.agents,some 5,0,false⟩)] [(1,[.own 1501])] ⟨[(0,.box 1 0),(1,.int .i64 a1),(2,.int .i64 a2),(6,.box 1000002500 0),(9,.int .i64 w),(11,.box 1000002501 0),(12,.int .i64 j)],[(1000002000,some ⟨List.map Agent.ds y,some 5,0,false⟩),(1000002001,some ⟨List.map Au u.data,some 1,0,false⟩),(1000002002,some ⟨List.map Port.ds u.ports,some 2,0,false⟩)],[(1,some [.own 1000002000]),(1000002500,some [.int .i64 u.kind,.int .i64 u.level,.int .i64 u.value,.own 1000002001,.own 1000002002]),(1000002501,some [.int .i64 q,.int .i64 g])]⟩):=by
 induction n with
 |zero=>exact((fun _ _ _ _ _ _ _ _ _ h=>by rw [Ci] at h; cases h))
 | succ n ih=>
  have ih0:=ih
  ·intro a1 a2 u w y q g j r h
   rw [Ci] at h
   refine BB rfl rfl (Z ?_)
   refine Ag (Z ?_)
   refine AD h (fun h=>Z ?_) (fun h=>Z ?_)
   ·refine AB (Z ?_)
    replace h:=AF h; obtain⟨k,b,h⟩:=h
    refine AP ⟨[],[(1001,1000002000)],[(1,1,0)],[(1501,224048)],[],true⟩ (by kernel_rfl) (Dk _ _ _ _ _ _ _ b) (by kernel_rfl) (Z ?_)
    refine AB (Z ?_)
    refine Ae [false,false,false,false,true] (Tr.sq [4] .fin) (by kernel_rfl) (Z ?_)
    replace h:=AF h; obtain⟨d,c,h⟩:=h
    refine AK (AW _ _ _ c) (Z ?_)
    replace h:=AF h; obtain⟨e,i,h⟩:=h
    refine AP ⟨[],[(1001,224048)],[(1,1,0)],[(1501,240064)],[],true⟩ (by kernel_rfl) (E9 _ _ _ _ i) (by kernel_rfl) (Z ?_)
    refine AB (Z ?_)
    replace h:=AF h; obtain⟨l,t,h⟩:=h
    refine AK (AW _ _ _ t) (Z ?_)
    replace h:=AF h; obtain⟨s,o,h⟩:=h
    refine AK (AW _ _ _ o) (Z ?_)
    replace h:=AF h; obtain⟨z,u1,h⟩:=h
    refine AP ⟨[],[(1001,240064)],[(1,1,0)],[(1501,256096)],[],true⟩ (by kernel_rfl) (Cc _ _ _ _ u1) (by kernel_rfl) (Z ?_)
    refine AB (Z ?_)
    replace h:=AF h; obtain⟨u2,u3,h⟩:=h
    refine AK (AW _ _ _ u3) (Z ?_)
    refine AB (Z ?_)
    refine Am (AN rfl rfl (ih0 a1 a2 u w z.agents u2.agent u2.slot (IntKind.i64.wrap (j+1)) _ h):) (.one ⟨_,.done _,[(1000002000,256096),(1000002001,1000002001),(1000002002,1000002002)],[(1,1),(1000002500,1000002500),(1000002501,1000002501)],?_⟩)
    try simp only [go_sem]
   ·refine AB (Z ?_)
    refine Ae [false,false,false,false,true] (Tr.sq [4] .fin) (by kernel_rfl) (Z ?_)
    replace h:=AF h; obtain⟨u4,u5,h⟩:=h
    refine AK (AW _ _ _ u5) (Z ?_)
    replace h:=AF h; obtain⟨u6,u7,h⟩:=h
    refine AP ⟨[],[(1001,1000002000)],[(1,1,0)],[(1501,288064)],[],true⟩ (by kernel_rfl) (Cc _ _ _ _ u7) (by kernel_rfl) (Z ?_)
    cases h
    refine Bb (.done _) [(1501,288064)] [(1,1)] ?_
    simp only [go_sem]
theorem QG (a0 a1 a2 r) (h:EB a0 a1 a2=some r):AG Tryz.prog 133 [.box 1 0,.int .i64 a1,.int .i64 a2] [(1001,⟨List.map Agent.ds a0.agents,some 5,0,false⟩)] [(1,[.own 1001])] (.tup []) [(1501,⟨List.map Agent.ds r.agents,some 5,0,false⟩)] [(1,[.own 1501])] :=by
 unfold EB at h
 refine Co mixed Tryz.func133 rfl rfl rfl (by kernel_rfl) (by kernel_rfl) (Z ?_)
 replace h:=AF h; obtain⟨u,w,h⟩:=h
 refine AR w (Agent.ds_len _) (Z ?_)
 replace h:=AF h; obtain⟨y,q,h⟩:=h
 refine Nl (by simp only [AU w,Agent.ds_eq,go_sem,Nat.reduceEqDiff,reduceIte] <;> rfl) (DL _ _ q) (Z ?_)
 refine AB (Z ?_)
 refine AD h (fun h=>Z ?_) (fun h=>Z ?_)
 ·replace h:=AF h; obtain⟨g,j,h⟩:=h
  refine AR j rfl (Z ?_)
  refine Ac (AU j) (Z ?_)
  replace h:=AF h; obtain⟨k,b,h⟩:=h
  refine AR b (Agent.ds_len _) (Z ?_)
  refine Ac (AU b) (Z ?_)
  refine AD h (fun h=>Z ?_) (fun h=>Z ?_)
  ·replace h:=AF h; obtain⟨d,c,h⟩:=h
   refine AR c rfl (Z ?_)
   refine Ac (AU c) (Z ?_)
   refine AJ (AN rfl rfl (Il a0 a2 y d _ h):) (.one ⟨_,.done _,[(1000000000,1001),(1000000001,16096),(1000000002,16097)],[(1,1),(1000000500,1007)],?_⟩)
   try simp only [go_sem]
  ·refine AJ (AN rfl rfl (Il a0 a2 y g _ h):) (.one ⟨_,.done _,[(1000000000,1001),(1000000001,16096),(1000000002,16097)],[(1,1),(1000000500,1007)],?_⟩)
   try simp only [go_sem]
 ·refine AB (Z ?_)
  replace h:=AF h; obtain⟨e,i,h⟩:=h
  refine AR i (Agent.ds_len _) (Z ?_)
  replace h:=AF h; obtain⟨l,t,h⟩:=h
  refine Nl (by simp only [AU i,Agent.ds_eq,go_sem,Nat.reduceEqDiff,reduceIte] <;> rfl) (IM _ _ t) (Z ?_)
  refine AB (Z ?_)
  refine Ae [false,false,false,false,false,false,false,false,false,false,false,false,false,false,false,true,true] (Tr.sq [15,16] .fin) (by kernel_rfl) (Z ?_)
  replace h:=AF h; obtain⟨s,o,h⟩:=h
  refine AR o (Agent.ds_len _) (Z ?_)
  refine Ac (AU o) (Z ?_)
  replace h:=AF h; obtain⟨z,u1,h⟩:=h
  refine AR u1 rfl (Z ?_)
  refine Ac (AU u1) (Z ?_)
  replace h:=AF h; obtain⟨u2,u3,h⟩:=h
  refine AP ⟨[],[(1001,1001)],[(1,1,0)],[(1501,144240)],[],true⟩ (by kernel_rfl) (Dk _ _ _ _ _ _ _ u3) (by kernel_rfl) (Z ?_)
  refine AB (Z ?_)
  replace h:=AF h; obtain⟨u4,u5,h⟩:=h
  refine AK (AW _ _ _ u5) (Z ?_)
  refine AB (Z ?_)
  refine AZ (AN rfl rfl (NK fuel a1 a2 y l u2.2.agents u4.agent u4.slot 1 _ h):) (.one ⟨_,.done _,[(1000002000,144240),(1000002001,16096),(1000002002,16097)],[(1,1),(1000002500,1007),(1000002501,10002)],?_⟩)
  try simp only [go_sem]
theorem LZ (n:Nat):(∀a0 a1 a3 u w y r,BL n a0 a1 a3 u w y=some r→Dx Tryz.prog Tryz.f134 [1,1,0,1,0] (.tup []) [(1501,⟨List.map Agent.ds r.agents,some 5,0,false⟩)] [(1,[.own 1501])] ⟨[(0,.rop [.ro (List.map Agent.ds a0.agents)] 0),(1,.box 1 0),(3,.int .i64 a3),(8,.int .i64 u.level),(9,.int .i64 (IntKind.i64.wrap (((List.length a1.agents:Nat):Int) - 1))),(10,.int .i64 y)],[(1000006000,some ⟨List.map Agent.ds w,some 5,0,false⟩)],[(1,some [.own 1000006000])]⟩)∧
    (∀a0 a1 a3 w y u q g r,Cu n a0 a1 a3 w y u q g=some r→Dx Tryz.prog Tryz.f134 [1,1,0,1,0,0,1,0,0,1,1] (.tup []) [(1501,⟨List.map Agent.ds r.agents,some 5,0,false⟩)] [(1,[.own 1501])] ⟨[(0,.rop [.ro (List.map Agent.ds a0.agents)] 0),(1,.box 1 0),(3,.int .i64 a3),(8,.int .i64 u.level),(9,.int .i64 (IntKind.i64.wrap (((List.length a1.agents:Nat):Int) - 1))),(10,.int .i64 y),(11,.box 1000007500 0)],[(1000007000,some ⟨List.map Agent.ds w,some 5,0,false⟩),(1000007001,some ⟨List.map Au q.data,some 1,0,false⟩),(1000007002,some ⟨List.map Port.ds q.ports,some 2,0,false⟩)],[(1,some [.own 1000007000]),(1000007500,some [.int .i64 q.kind,.int .i64 g,.int .i64 q.value,.own 1000007001,.own 1000007002])]⟩)∧
    (∀a0 a1 a3 w y g u q j k r,CQ n a0 a1 a3 w y g u q j k=some r→Dx Tryz.prog Tryz.f134 [1,1,0,1,0,0,1,0,0,1,1,0,1,0] (.tup []) [(1501,⟨List.map Agent.ds r.agents,some 5,0,false⟩)] [(1,[.own 1501])] ⟨[(0,.rop [.ro (List.map Agent.ds a0.agents)] 0),(1,.box 1 0),(3,.int .i64 a3),(8,.int .i64 u.level),(9,.int .i64 (IntKind.i64.wrap (((List.length a1.agents:Nat):Int) - 1))),(10,.int .i64 y),(11,.box 1000011500 0),(12,.int .i64 k)],[(1000011000,some ⟨List.map Agent.ds w,some 5,0,false⟩),(1000011001,some ⟨List.map Au q.data,some 1,0,false⟩),(1000011002,some ⟨List.map Port.ds j,some 2,0,false⟩)],[(1,some [.own 1000011000]),(1000011500,some [.int .i64 q.kind,.int .i64 g,.int .i64 q.value,.own 1000011001,.own 1000011002])]⟩):=by
 induction n with
 |zero=>exact⟨(fun _ _ _ _ _ _ _ h=>by rw [BL] at h; cases h),(fun _ _ _ _ _ _ _ _ _ h=>by rw [Cu] at h; cases h),(fun _ _ _ _ _ _ _ _ _ _ _ h=>by rw [CQ] at h; cases h)⟩
 | succ n ih=>
  obtain⟨ih0,ih1,ih2⟩:=ih
  refine⟨?_,?_,?_⟩
  ·intro a0 a1 a3 u w y r h
   rw [BL] at h
   refine BB rfl rfl (Z ?_)
   refine Ag (Z ?_)
   refine AD h (fun h=>Z ?_) (fun h=>Z ?_)
   ·refine AB (Z ?_)
    replace h:=AF h; obtain⟨b,d,h⟩:=h
    refine AR d (Agent.ds_len _) (Z ?_)
    replace h:=AF h; obtain⟨q,c,h⟩:=h
    refine AK (DL _ _ c) (Z ?_)
    refine AB (Z ?_)
    replace h:=AF h; obtain⟨e,i,h⟩:=h
    refine AK (It _ _ i) (Z ?_)
    refine AB (Z ?_)
    refine AD h (fun h=>Z ?_) (fun h=>Z ?_)
    ·refine AJ (AN rfl rfl (ih1 a0 a1 a3 w y u q (IntKind.i64.wrap (q.level+u.level)) _ h):) (.one ⟨_,.done _,[(1000007000,1000006000),(1000007001,96096),(1000007002,96097)],[(1,1),(1000007500,6007)],?_⟩)
     try simp only [go_sem]
    ·refine AJ (AN rfl rfl (ih1 a0 a1 a3 w y u q q.level _ h):) (.one ⟨_,.done _,[(1000007000,1000006000),(1000007001,96096),(1000007002,96097)],[(1,1),(1000007500,6007)],?_⟩)
     try simp only [go_sem]
   ·refine AB (Z ?_)
    replace h:=AF h; obtain⟨l,t,h⟩:=h
    refine AR t (Agent.ds_len _) (Z ?_)
    replace h:=AF h; obtain⟨s,o,h⟩:=h
    refine AR o (Port.ds_len _) (Z ?_)
    refine AB (Z ?_)
    replace h:=AF h; obtain⟨z,u1,h⟩:=h
    refine AK (AW _ _ _ u1) (Z ?_)
    replace h:=AF h; obtain⟨u2,u3,h⟩:=h
    refine AK (AW _ _ _ u3) (Z ?_)
    replace h:=AF h; obtain⟨u4,u5,h⟩:=h
    refine AP ⟨[],[(1001,1000006000)],[(1,1,0)],[(1501,240160)],[],true⟩ (by kernel_rfl) (E9 _ _ _ _ u5) (by kernel_rfl) (Z ?_)
    cases h
    refine Bb (.done _) [(1501,240160)] [(1,1)] ?_
    simp only [go_sem]
  ·intro a0 a1 a3 w y u q g r h
   rw [Cu] at h
   refine BB rfl rfl (Z ?_)
   refine AZ (AN rfl rfl (ih2 a0 a1 a3 w y g u q q.ports 0 _ h):) (.one ⟨_,.done _,[(1000011000,1000007000),(1000011001,1000007001),(1000011002,1000007002)],[(1,1),(1000011500,1000007500)],?_⟩)
   try simp only [go_sem]
  ·intro a0 a1 a3 w y g u q j k r h
   rw [CQ] at h
   refine BB rfl rfl (Z ?_)
   refine Ag (Z ?_)
   refine AD h (fun h=>Z ?_) (fun h=>Z ?_)
   ·refine AB (Z ?_)
    replace h:=AF h; obtain⟨u6,u7,h⟩:=h
    refine AR u7 (Port.ds_len _) (Z ?_)
    refine Ac (AU u7) (Z ?_)
    replace h:=AF h; obtain⟨u8,u9,h⟩:=h
    refine AR u9 (Port.ds_len _) (Z ?_)
    replace h:=AF h; obtain⟨u10,u11,h⟩:=h
    refine Ac (AU u9) (Z ?_)
    refine BA (List.map Port.ds u10) (by rw [← Az u11]; simp only [List.map_set,go_sem,Port.ds_eq]) (Z ?_)
    refine AB (Z ?_)
    refine Am (AN rfl rfl (ih2 a0 a1 a3 w y g u q u10 (IntKind.i64.wrap (k+1)) _ h):) (.one ⟨_,.done _,[(1000011000,1000011000),(1000011001,1000011001),(1000011002,1000011002)],[(1,1),(1000011500,1000011500)],?_⟩)
    try simp only [go_sem]
   ·refine AB (Z ?_)
    refine Ae [false,false,false,false,false,false,false,true,true,true,true] (Tr.sq [7,8,9,10] .fin) (by kernel_rfl) (Z ?_)
    replace h:=AF h; obtain⟨u12,u13,h⟩:=h
    have hq_:=BX u13
    obtain⟨hv13007a,hv13007b⟩:=hq_
    refine EP false (Z ?_)
    refine BW (by refine⟨?_,?_⟩ <;> (try simp only [List.length_map,List.length_append,List.length_cons,List.length_nil] at*) <;> (try unfold maxLen) <;> omega) (Z ?_)
    refine BA (List.map Agent.ds u12) (by rw [← hv13007b]; simp only [List.map_append,List.map_cons,List.map_nil,List.nil_append,List.append_nil,go_sem,Agent.ds_eq]) (Z ?_)
    refine AB (Z ?_)
    refine Am (AN rfl rfl (ih0 a0 a1 a3 u u12 (IntKind.i64.wrap (y+1)) _ h):) (.one ⟨_,.done _,[(1000006000,208112)],[(1,1)],?_⟩)
    try simp only [go_sem]
theorem MN (n:Nat):(∀a0 a1 a3 u w y r,BL n a0 a1 a3 u w y=some r→Dx Tryz.prog Tryz.f134 [1,1,0,1,0] (.tup []) [(1501,⟨List.map Agent.ds r.agents,some 5,0,false⟩)] [(1,[.own 1501])] ⟨[(0,.rop [.ro (List.map Agent.ds a0.agents)] 0),(1,.box 1 0),(3,.int .i64 a3),(8,.int .i64 u.level),(9,.int .i64 (IntKind.i64.wrap (((List.length a1.agents:Nat):Int) - 1))),(10,.int .i64 y)],[(1000006000,some ⟨List.map Agent.ds w,some 5,0,false⟩)],[(1,some [.own 1000006000])]⟩):=(LZ n).1
theorem QH (a0 a1 a2 a3 r) (h:G5 a0 a1 a2 a3=some r):AG Tryz.prog 134 [.rop [.ro (List.map Agent.ds a0.agents)] 0,.box 1 0,.int .i64 a2,.int .i64 a3] [(1001,⟨List.map Agent.ds a1.agents,some 5,0,false⟩)] [(1,[.own 1001])] (.tup []) [(1501,⟨List.map Agent.ds r.agents,some 5,0,false⟩)] [(1,[.own 1501])] :=by
 unfold G5 at h
 refine Co mixed Tryz.func134 rfl rfl rfl (by kernel_rfl) (by kernel_rfl) (Z ?_)
 replace h:=AF h; obtain⟨u,w,h⟩:=h
 refine AR w (Agent.ds_len _) (Z ?_)
 refine Ac (AU w) (Z ?_)
 refine AZ (AN rfl rfl (MN fuel a0 a1 a3 u a1.agents 1 _ h):) (.one ⟨_,.done _,[(1000006000,1001)],[(1,1)],?_⟩)
 try simp only [go_sem]
theorem K8 (a0 a1 r) (h:Dg a0 a1=some r):AG Tryz.prog 135 [.box 1 0,.int .i64 a1] [(1001,⟨List.map Agent.ds a0.agents,some 5,0,false⟩)] [(1,[.own 1001])] (.tup []) [(1501,⟨List.map Agent.ds r.agents,some 5,0,false⟩)] [(1,[.own 1501])] :=by
 unfold Dg at h
 refine Co mixed Tryz.func135 rfl rfl rfl (by kernel_rfl) (by kernel_rfl) (Z ?_)
 replace h:=AF h; obtain⟨u,w,h⟩:=h
 refine AR w (Agent.ds_len _) (Z ?_)
 replace h:=AF h; obtain⟨y,q,h⟩:=h
 refine Ac (AU w) (Z ?_)
 refine BA (List.map Agent.ds y) (by rw [← Az q]; simp only [List.map_set,go_sem,Agent.ds_eq]) (Z ?_)
 cases h
 refine Bb (.done _) [(1501,1001)] [(1,1)] ?_
 simp only [go_sem]
theorem Dw (u:Int × Int) (w:Int) (y:List Agent) (r:Int × Net) (h:Ca u w y=some r):Dx Tryz.prog Tryz.f76 [1,1,1,1,1,1,1] (.int .i64 r.1) [(1501,⟨List.map Agent.ds r.2.agents,some 5,0,false⟩)] [(1,[.own 1501])] ⟨[(1,.box 1 0),(2,.int .i64 u.1),(3,.int .i64 u.2),(11,.int .i64 w)],[(1000002000,some ⟨List.map Agent.ds y,some 5,0,false⟩)],[(1,some [.own 1000002000])]⟩:=by
 unfold Ca at h
 refine BB rfl rfl (Z ?_)
 replace h:=AF h; obtain⟨q,g,h⟩:=h
 refine AP ⟨[],[(1001,1000002000)],[(1,1,0)],[(1501,464032)],[],true⟩ (by kernel_rfl) (K8 _ _ _ g) (by kernel_rfl) (Z ?_)
 refine AB (Z ?_)
 refine AD h (fun h=>Z ?_) (fun h=>Z ?_)
 ·replace h:=AF h; obtain⟨j,k,h⟩:=h
  refine AP ⟨[],[(1001,464032)],[(1,1,0)],[(1501,496032)],[],true⟩ (by kernel_rfl) (K8 _ _ _ k) (by kernel_rfl) (Z ?_)
  refine AB (Z ?_)
  cases h
  refine Bb (.done _) [(1501,496032)] [(1,1)] ?_
  simp only [go_sem]
 ·refine AB (Z ?_)
  cases h
  refine Bb (.done _) [(1501,464032)] [(1,1)] ?_
  simp only [go_sem]
theorem Ql (n:Nat):(∀u w y q g r,Dq n u w y q g=some r→Dx Tryz.prog Tryz.f76 [1,1,1,1,1,1,0,1,0,1,1,1,1,1,0,1,1,0] (.int .i64 r.1) [(1501,⟨List.map Agent.ds r.2.agents,some 5,0,false⟩)] [(1,[.own 1501])] ⟨[(1,.box 1 0),(2,.int .i64 u.1),(3,.int .i64 u.2),(11,.int .i64 w),(12,.int .i64 ((List.length y.ports:Nat):Int)),(13,.int .i64 g)],[(1000003000,some ⟨List.map Agent.ds q,some 5,0,false⟩)],[(1,some [.own 1000003000])]⟩):=by
 induction n with
 |zero=>exact((fun _ _ _ _ _ _ h=>by rw [Dq] at h; cases h))
 | succ n ih=>
  have ih0:=ih
  ·intro u w y q g r h
   rw [Dq] at h
   refine BB rfl rfl (Z ?_)
   refine Ag (Z ?_)
   refine AD h (fun h=>Z ?_) (fun h=>Z ?_)
   ·refine AB (Z ?_)
    replace h:=AF h; obtain⟨j,k,h⟩:=h
    refine AP ⟨[],[(1001,1000003000)],[(1,1,0)],[(1501,336016)],[],true⟩ (by kernel_rfl) (Dk _ _ _ _ _ _ _ k) (by kernel_rfl) (Z ?_)
    refine AB (Z ?_)
    replace h:=AF h; obtain⟨b,d,h⟩:=h
    refine AK (AW _ _ _ d) (Z ?_)
    replace h:=AF h; obtain⟨c,e,h⟩:=h
    refine AK (AW _ _ _ e) (Z ?_)
    replace h:=AF h; obtain⟨i,l,h⟩:=h
    refine AP ⟨[],[(1001,336016)],[(1,1,0)],[(1501,352096)],[],true⟩ (by kernel_rfl) (Cc _ _ _ _ l) (by kernel_rfl) (Z ?_)
    refine AB (Z ?_)
    refine Am (AN rfl rfl (ih0 u w y i.agents (IntKind.i64.wrap (g+1)) _ h):) (.one ⟨_,.done _,[(1000003000,352096)],[(1,1)],?_⟩)
    try simp only [go_sem]
   ·refine AJ (AN rfl rfl (Dw u w q _ h):) (.one ⟨_,.done _,[(1000002000,1000003000)],[(1,1)],?_⟩)
    try simp only [go_sem]
theorem Ll (a0:List Net) (a1:Net) (u:Int × Int) (w:Int) (y:Bool) (r:Int × Net) (h:FW a0 a1 u w y=some r):Dx Tryz.prog Tryz.f76 [1,1,1,1,1,1,0,1,0,1] (.int .i64 r.1) [(1501,⟨List.map Agent.ds r.2.agents,some 5,0,false⟩)] [(1,[.own 1501])] ⟨[(0,.ro (List.map Net.ds a0)),(1,.box 1 0),(2,.int .i64 u.1),(3,.int .i64 u.2),(11,.int .i64 w),(51,.int .i64 w),(52,.bool y)],[(1000000000,some ⟨List.map Agent.ds a1.agents,some 5,0,false⟩)],[(1,some [.own 1000000000])]⟩:=by
 unfold FW at h
 refine BB rfl rfl (Z ?_)
 refine AD h (fun h=>Z ?_) (fun h=>Z ?_)
 ·replace h:=AF h; obtain⟨q,g,h⟩:=h
  refine AK (AW _ _ _ g) (Z ?_)
  replace h:=AF h; obtain⟨k,b,h⟩:=h
  refine AK (AW _ _ _ b) (Z ?_)
  replace h:=AF h; obtain⟨d,c,h⟩:=h
  refine AP ⟨[],[(1001,1000000000)],[(1,1,0)],[(1501,192080)],[],true⟩ (by kernel_rfl) (NG _ _ _ _ c) (by kernel_rfl) (Z ?_)
  refine AB (Z ?_)
  replace h:=AF h; obtain⟨e,i,h⟩:=h
  refine AK (AW _ _ _ i) (Z ?_)
  replace h:=AF h; obtain⟨l,t,h⟩:=h
  refine AK (AW _ _ _ t) (Z ?_)
  replace h:=AF h; obtain⟨s,o,h⟩:=h
  refine AP ⟨[],[(1001,192080)],[(1,1,0)],[(1501,208080)],[],true⟩ (by kernel_rfl) (NG _ _ _ _ o) (by kernel_rfl) (Z ?_)
  refine AJ (AN rfl rfl (Dw u w s.agents _ h):) (.one ⟨_,.done _,[(1000002000,208080)],[(1,1)],?_⟩)
  try simp only [go_sem]
 ·refine AD h (fun h=>Z ?_) (fun h=>Z ?_)
  ·replace h:=AF h; obtain⟨z,u1,h⟩:=h
   refine AP ⟨[],[(1001,1000000000)],[(1,1,0)],[(1501,240048)],[],true⟩ (by kernel_rfl) (NI _ _ _ _ u1) (by kernel_rfl) (Z ?_)
   refine AJ (AN rfl rfl (Dw u w z.agents _ h):) (.one ⟨_,.done _,[(1000002000,240048)],[(1,1)],?_⟩)
   try simp only [go_sem]
  ·refine AD h (fun h=>Z ?_) (fun h=>Z ?_)
   ·replace h:=AF h; obtain⟨u2,u3,h⟩:=h
    refine AR u3 (Agent.ds_len _) (Z ?_)
    refine Ac (AU u3) (Z ?_)
    refine Ac (D0 (sz:=5) (j:=4) (r:=List.map Port.ds u2.ports) (AU (f:=Agent.ds) u3) (Agent.ds_len _) (by rw [Agent.ds_eq]; rfl)) (Z ?_)
    refine AZ (AN rfl rfl (Ql fuel u w u2 a1.agents 1 _ h):) (.one ⟨_,.done _,[(1000003000,1000000000)],[(1,1)],?_⟩)
    try simp only [go_sem]
   ·refine AD h (fun h=>Z ?_) (fun h=>Z ?_)
    ·replace h:=AF h; obtain⟨u4,u5,h⟩:=h
     refine AP ⟨[],[(1001,1000000000)],[(1,1,0)],[(1501,384048)],[],true⟩ (by kernel_rfl) (Oc _ _ _ _ u5) (by kernel_rfl) (Z ?_)
     refine AJ (AN rfl rfl (Dw u w u4.agents _ h):) (.one ⟨_,.done _,[(1000002000,384048)],[(1,1)],?_⟩)
     try simp only [go_sem]
    ·refine AD h (fun h=>Z ?_) (fun h=>Z ?_)
     ·replace h:=AF h; obtain⟨u6,u7,h⟩:=h
      refine AP ⟨[],[(1001,1000000000)],[(1,1,0)],[(1501,416048)],[],true⟩ (by kernel_rfl) (QG _ _ _ _ u7) (by kernel_rfl) (Z ?_)
      refine AJ (AN rfl rfl (Dw u w u6.agents _ h):) (.one ⟨_,.done _,[(1000002000,416048)],[(1,1)],?_⟩)
      try simp only [go_sem]
     ·refine AD h (fun h=>Z ?_) (fun h=>Z ?_)
      ·replace h:=AF h; obtain⟨u8,u9,h⟩:=h
       refine AR u9 (Agent.ds_len _) (Z ?_)
       refine Ac (AU u9) (Z ?_)
       replace h:=AF h; obtain⟨u10,u11,h⟩:=h
       refine AR u11 (Net.ds_len _) (Z ?_)
       replace h:=AF h; obtain⟨u12,u13,h⟩:=h
       refine AP ⟨[],[(1001,1000000000)],[(1,1,0)],[(1501,448208)],[],true⟩ (by kernel_rfl) (QH _ _ _ _ _ u13) (by kernel_rfl) (Z ?_)
       refine AJ (AN rfl rfl (Dw u w u12.agents _ h):) (.one ⟨_,.done _,[(1000002000,448208)],[(1,1)],?_⟩)
       try simp only [go_sem]
      ·refine AJ (AN rfl rfl (Dw u w a1.agents _ h):) (.one ⟨_,.done _,[(1000002000,1000000000)],[(1,1)],?_⟩)
       try simp only [go_sem]
theorem VP (a0 a1 a2 a3 r) (h:Id a0 a1 a2 a3=some r):AG Tryz.prog 76 [.ro (List.map Net.ds a0),.box 1 0,.int .i64 a2,.int .i64 a3] [(1001,⟨List.map Agent.ds a1.agents,some 5,0,false⟩)] [(1,[.own 1001])] (.int .i64 r.1) [(1501,⟨List.map Agent.ds r.2.agents,some 5,0,false⟩)] [(1,[.own 1501])] :=by
 unfold Id at h
 refine Co mixed Tryz.func76 rfl rfl rfl (by kernel_rfl) (by kernel_rfl) (Z ?_)
 replace h:=AF h; obtain⟨u,w,h⟩:=h
 refine AK (QE _ _ _ _ _ w) (Z ?_)
 refine AB (Z ?_)
 refine AD h (fun h=>Z ?_) (fun h=>Z ?_)
 ·cases h
  refine Bb (.done _) [(1501,1001)] [(1,1)] ?_
  simp only [go_sem]
 ·refine AB (Z ?_)
  replace h:=AF h; obtain⟨y,q,h⟩:=h
  refine AK (SN _ _ q) (Z ?_)
  refine AB (Z ?_)
  refine AD h (fun h=>Z ?_) (fun h=>Z ?_)
  ·cases h
   refine Bb (.done _) [(1501,1001)] [(1,1)] ?_
   simp only [go_sem]
  ·refine AB (Z ?_)
   replace h:=AF h; obtain⟨g,j,h⟩:=h
   refine AK (Lj _ _ _ _ j) (Z ?_)
   refine AB (Z ?_)
   refine Ae [] .fin (by kernel_rfl) (Z ?_)
   replace h:=AF h; obtain⟨k,b,h⟩:=h
   refine AR b (Agent.ds_len _) (Z ?_)
   replace h:=AF h; obtain⟨d,c,h⟩:=h
   refine AR c (Agent.ds_len _) (Z ?_)
   replace h:=AF h; obtain⟨e,i,h⟩:=h
   refine Nl (by simp only [AU b,AU c,Agent.ds_eq,go_sem,Nat.reduceEqDiff,reduceIte] <;> rfl) (Lk _ _ _ i) (Z ?_)
   refine AB (Z ?_)
   refine AD h (fun h=>Z ?_) (fun h=>Z ?_)
   ·refine AJ (AN rfl rfl (Ll a0 a1 g e (decide (e=1)) _ h):) (.one ⟨_,.done _,[(1000000000,1001)],[(1,1)],?_⟩)
    try simp only [go_sem]
   ·refine AJ (AN rfl rfl (Ll a0 a1 g e (decide (e=2)) _ h):) (.one ⟨_,.done _,[(1000000000,1001)],[(1,1)],?_⟩)
    try simp only [go_sem]
theorem NL (n:Nat):(∀a0 u w r,Bx n a0 u w=some r→A7 Tryz.prog Tryz.f85 [1,1,0,1,0] (.ow (some 2) (List.map Pair.ds r)) ⟨[(0,.rop [.ro (List.map Agent.ds a0.agents)] 0),(3,.own 1000002000),(4,.int .i64 w)],[(1000002000,some ⟨List.map Pair.ds u,some 2,0,false⟩)],[]⟩)∧
    (∀a0 u w y q r,Dr n a0 u w y q=some r→A7 Tryz.prog Tryz.f85 [1,1,0,1,0,0,1,0,0,1,1,1] (.ow (some 2) (List.map Pair.ds r)) ⟨[(0,.rop [.ro (List.map Agent.ds a0.agents)] 0),(3,.own 1000003000),(4,.int .i64 w),(5,.box 1000003500 0),(43,.bool q)],[(1000003000,some ⟨List.map Pair.ds u,some 2,0,false⟩)],[(1000003500,some [.int .i64 y.agent,.int .i64 y.slot])]⟩):=by
 induction n with
 |zero=>exact⟨(fun _ _ _ _ h=>by rw [Bx] at h; cases h),(fun _ _ _ _ _ _ h=>by rw [Dr] at h; cases h)⟩
 | succ n ih=>
  obtain⟨ih0,ih1⟩:=ih
  refine⟨?_,?_⟩
  ·intro a0 u w r h
   rw [Bx] at h
   refine AS rfl rfl (Z ?_)
   refine Ag (Z ?_)
   refine AD h (fun h=>Z ?_) (fun h=>Z ?_)
   ·refine AB (Z ?_)
    replace h:=AF h; obtain⟨g,j,h⟩:=h
    refine AR j (Agent.ds_len _) (Z ?_)
    refine AD h (fun h=>Z ?_) (fun h=>Z ?_)
    ·refine AB (Z ?_)
     refine Am (AH rfl rfl (ih0 a0 u (IntKind.i64.wrap (w+1)) _ h):) (.one ⟨_,.done _,[(1000002000,1000002000)],[],?_⟩)
     try simp only [go_sem]
    ·refine AB (Z ?_)
     replace h:=AF h; obtain⟨k,b,h⟩:=h
     refine AR b (Agent.ds_len _) (Z ?_)
     replace h:=AF h; obtain⟨y,d,h⟩:=h
     refine AR d (Port.ds_len _) (Z ?_)
     refine AB (Z ?_)
     refine AD h (fun h=>Z ?_) (fun h=>Z ?_)
     ·refine AJ (AH rfl rfl (ih1 a0 u w y (decide (w<y.agent)) _ h):) (.one ⟨_,.done _,[(1000003000,1000002000)],[(1000003500,7010)],?_⟩)
      try simp only [go_sem]
     ·refine AJ (AH rfl rfl (ih1 a0 u w y false _ h):) (.one ⟨_,.done _,[(1000003000,1000002000)],[(1000003500,7010)],?_⟩)
      try simp only [go_sem]
   ·refine AB (Z ?_)
    cases h
    simp only [go_sem]
  ·intro a0 u w y q r h
   rw [Dr] at h
   refine AS rfl rfl (Z ?_)
   refine AD h (fun h=>Z ?_) (fun h=>Z ?_)
   ·replace h:=AF h; obtain⟨c,e,h⟩:=h
    have hq_:=BX e
    obtain⟨hv9006a,hv9006b⟩:=hq_
    refine EP false (Z ?_)
    refine BW (by refine⟨?_,?_⟩ <;> (try simp only [List.length_map,List.length_append,List.length_cons,List.length_nil] at*) <;> (try unfold maxLen) <;> omega) (Z ?_)
    refine BA (List.map Pair.ds c) (by rw [← hv9006b]; simp only [List.map_append,List.map_cons,List.map_nil,List.nil_append,List.append_nil,go_sem,Pair.ds_eq]) (Z ?_)
    refine AB (Z ?_)
    refine Am (AH rfl rfl (ih0 a0 c (IntKind.i64.wrap (w+1)) _ h):) (.one ⟨_,.done _,[(1000002000,144096)],[],?_⟩)
    try simp only [go_sem]
   ·refine AB (Z ?_)
    refine Am (AH rfl rfl (ih0 a0 u (IntKind.i64.wrap (w+1)) _ h):) (.one ⟨_,.done _,[(1000002000,1000003000)],[],?_⟩)
    try simp only [go_sem]
theorem Nv (n:Nat):(∀a0 u w r,Bx n a0 u w=some r→A7 Tryz.prog Tryz.f85 [1,1,0,1,0] (.ow (some 2) (List.map Pair.ds r)) ⟨[(0,.rop [.ro (List.map Agent.ds a0.agents)] 0),(3,.own 1000002000),(4,.int .i64 w)],[(1000002000,some ⟨List.map Pair.ds u,some 2,0,false⟩)],[]⟩):=(NL n).1
theorem Qj (a0 r) (h:H1 a0=some r):AC Tryz.prog 85 [.rop (Net.avs a0) 0] (.ow (some 2) (List.map Pair.ds r)):=by
 unfold H1 at h
 refine AY mixed Tryz.func85 rfl rfl rfl (by kernel_rfl) (by kernel_rfl) (Z ?_)
 refine AZ (AH rfl rfl (Nv fuel a0 [] 1 _ h):) (.one ⟨_,.lit 3 2000000000 2000 0 2 false [] _ _ (by (first|rfl|(simp only [go_sem]; rfl))) (by simp only [go_sem]; rfl) (by (first|rfl|(simp only [go_sem]; rfl))) (by (first|rfl|(simp only [go_sem]; rfl))) (by decide) (by decide) (by simp only [go_sem]) (.done _),[(1000002000,2000000000)],[],?_⟩)
 simp only [go_sem]
 all_goals try rfl
theorem NM (n:Nat):(∀a0 u w y r,BY n a0 u w y=some r→Dx Tryz.prog Tryz.f77 [1,1,1,1,0,1,0] (.tup []) [(1501,⟨List.map Agent.ds r.agents,some 5,0,false⟩)] [(1,[.own 1501])] ⟨[(0,.box 1 0),(2,.own 1000007001),(5,.own 1000007002),(6,.int .i64 y)],[(1000007000,some ⟨List.map Agent.ds a0.agents,some 5,0,false⟩),(1000007001,some ⟨List.map Au u,some 1,0,false⟩),(1000007002,some ⟨List.map Agent.ds w,some 5,0,false⟩)],[(1,some [.own 1000007000])]⟩)∧
    (∀a0 u w y q g j r,DE n a0 u w y q g j=some r→Dx Tryz.prog Tryz.f77 [1,1,1,1,0,1,0,0,1,0,0,1,0,1,0,1,0] (.tup []) [(1501,⟨List.map Agent.ds r.agents,some 5,0,false⟩)] [(1,[.own 1501])] ⟨[(0,.box 1 0),(2,.own 1000011001),(5,.own 1000011002),(6,.int .i64 y),(7,.box 1000011500 0),(8,.int .i64 j)],[(1000011000,some ⟨List.map Agent.ds a0.agents,some 5,0,false⟩),(1000011001,some ⟨List.map Au u,some 1,0,false⟩),(1000011002,some ⟨List.map Agent.ds w,some 5,0,false⟩),(1000011003,some ⟨List.map Au q.data,some 1,0,false⟩),(1000011004,some ⟨List.map Port.ds g,some 2,0,false⟩)],[(1,some [.own 1000011000]),(1000011500,some [.int .i64 q.kind,.int .i64 q.level,.int .i64 q.value,.own 1000011003,.own 1000011004])]⟩):=by
 induction n with
 |zero=>exact⟨(fun _ _ _ _ _ h=>by rw [BY] at h; cases h),(fun _ _ _ _ _ _ _ _ h=>by rw [DE] at h; cases h)⟩
 | succ n ih=>
  obtain⟨ih0,ih1⟩:=ih
  refine⟨?_,?_⟩
  ·intro a0 u w y r h
   rw [BY] at h
   refine BB rfl rfl (Z ?_)
   refine Ag (Z ?_)
   refine AD h (fun h=>Z ?_) (fun h=>Z ?_)
   ·refine AB (Z ?_)
    replace h:=AF h; obtain⟨k,b,h⟩:=h
    refine AR b (Agent.ds_len _) (Z ?_)
    refine Ac (AU b) (Z ?_)
    refine AD h (fun h=>Z ?_) (fun h=>Z ?_)
    ·replace h:=AF h; obtain⟨d,c,h⟩:=h
     refine AR c (Agent.ds_len _) (Z ?_)
     replace h:=AF h; obtain⟨q,e,h⟩:=h
     refine Nl (by simp only [AU c,Agent.ds_eq,go_sem,Nat.reduceEqDiff,reduceIte] <;> rfl) (DL _ _ e) (Z ?_)
     refine AB (Z ?_)
     refine AZ (AN rfl rfl (ih1 a0 u w y q q.ports 0 _ h):) (.one ⟨_,.done _,[(1000011000,1000007000),(1000011001,1000007001),(1000011002,1000007002),(1000011003,224096),(1000011004,224097)],[(1,1),(1000011500,14007)],?_⟩)
     try simp only [go_sem]
    ·refine AB (Z ?_)
     refine Am (AN rfl rfl (ih0 a0 u w (IntKind.i64.wrap (y+1)) _ h):) (.one ⟨_,.done _,[(1000007000,1000007000),(1000007001,1000007001),(1000007002,1000007002)],[(1,1)],?_⟩)
     try simp only [go_sem]
   ·refine AB (Z ?_)
    cases h
    refine Bb (.done _) [(1501,1000007002)] [(1,1)] ?_
    simp only [go_sem]
  ·intro a0 u w y q g j r h
   rw [DE] at h
   refine BB rfl rfl (Z ?_)
   refine Ag (Z ?_)
   refine AD h (fun h=>Z ?_) (fun h=>Z ?_)
   ·refine AB (Z ?_)
    refine Ae [false,false,false,false,false,false,false,false,false,false,false,false,false,false,true] (Tr.sq [14] .fin) (by kernel_rfl) (Z ?_)
    replace h:=AF h; obtain⟨i,l,h⟩:=h
    refine AR l (Port.ds_len _) (Z ?_)
    refine Ac (AU l) (Z ?_)
    replace h:=AF h; obtain⟨t,s,h⟩:=h
    refine AR s rfl (Z ?_)
    refine Ac (AU s) (Z ?_)
    replace h:=AF h; obtain⟨o,z,h⟩:=h
    refine AR z (Port.ds_len _) (Z ?_)
    replace h:=AF h; obtain⟨u1,u2,h⟩:=h
    refine Ac (AU z) (Z ?_)
    refine BA (List.map Port.ds u1) (by rw [← Az u2]; simp only [List.map_set,go_sem,Port.ds_eq]) (Z ?_)
    refine AB (Z ?_)
    refine Am (AN rfl rfl (ih1 a0 u w y q u1 (IntKind.i64.wrap (j+1)) _ h):) (.one ⟨_,.done _,[(1000011000,1000011000),(1000011001,1000011001),(1000011002,1000011002),(1000011003,1000011003),(1000011004,1000011004)],[(1,1),(1000011500,1000011500)],?_⟩)
    try simp only [go_sem]
   ·refine AB (Z ?_)
    replace h:=AF h; obtain⟨u3,u4,h⟩:=h
    have hq_:=BX u4
    obtain⟨hv19003a,hv19003b⟩:=hq_
    refine EP false (Z ?_)
    refine BW (by refine⟨?_,?_⟩ <;> (try simp only [List.length_map,List.length_append,List.length_cons,List.length_nil] at*) <;> (try unfold maxLen) <;> omega) (Z ?_)
    refine BA (List.map Agent.ds u3) (by rw [← hv19003b]; simp only [List.map_append,List.map_cons,List.map_nil,List.nil_append,List.append_nil,go_sem,Agent.ds_eq]) (Z ?_)
    refine AB (Z ?_)
    refine Am (AN rfl rfl (ih0 a0 u u3 (IntKind.i64.wrap (y+1)) _ h):) (.one ⟨_,.done _,[(1000007000,1000011000),(1000007001,1000011001),(1000007002,304048)],[(1,1)],?_⟩)
    try simp only [go_sem]
theorem Nw (n:Nat):(∀a0 u w y r,BY n a0 u w y=some r→Dx Tryz.prog Tryz.f77 [1,1,1,1,0,1,0] (.tup []) [(1501,⟨List.map Agent.ds r.agents,some 5,0,false⟩)] [(1,[.own 1501])] ⟨[(0,.box 1 0),(2,.own 1000007001),(5,.own 1000007002),(6,.int .i64 y)],[(1000007000,some ⟨List.map Agent.ds a0.agents,some 5,0,false⟩),(1000007001,some ⟨List.map Au u,some 1,0,false⟩),(1000007002,some ⟨List.map Agent.ds w,some 5,0,false⟩)],[(1,some [.own 1000007000])]⟩):=(NM n).1
theorem Od (n:Nat):(∀a0 u w y r,C5 n a0 u w y=some r→Dx Tryz.prog Tryz.f77 [1,1,0,1,0] (.tup []) [(1501,⟨List.map Agent.ds r.agents,some 5,0,false⟩)] [(1,[.own 1501])] ⟨[(0,.box 1 0),(2,.own 1000001001),(3,.int .i64 w),(4,.int .i64 y)],[(1000001000,some ⟨List.map Agent.ds a0.agents,some 5,0,false⟩),(1000001001,some ⟨List.map Au u,some 1,0,false⟩)],[(1,some [.own 1000001000])]⟩):=by
 induction n with
 |zero=>exact((fun _ _ _ _ _ h=>by rw [C5] at h; cases h))
 | succ n ih=>
  have ih0:=ih
  ·intro a0 u w y r h
   rw [C5] at h
   refine BB rfl rfl (Z ?_)
   refine Ag (Z ?_)
   refine AD h (fun h=>Z ?_) (fun h=>Z ?_)
   ·refine AB (Z ?_)
    replace h:=AF h; obtain⟨q,g,h⟩:=h
    have hq_:=BX g
    obtain⟨hv6003a,hv6003b⟩:=hq_
    refine EP false (Z ?_)
    refine BW (by refine⟨?_,?_⟩ <;> (try simp only [List.length_map,List.length_append,List.length_cons,List.length_nil] at*) <;> (try unfold maxLen) <;> omega) (Z ?_)
    refine BA (List.map Au q) (by rw [← hv6003b]; simp only [List.map_append,List.map_cons,List.map_nil,List.nil_append,List.append_nil,go_sem,slD]) (Z ?_)
    refine AB (Z ?_)
    replace h:=AF h; obtain⟨j,k,h⟩:=h
    refine AR k (Agent.ds_len _) (Z ?_)
    refine Ac (AU k) (Z ?_)
    refine AD h (fun h=>Z ?_) (fun h=>Z ?_)
    ·refine AB (Z ?_)
     refine Am (AN rfl rfl (ih0 a0 q (IntKind.i64.wrap (w+1)) (IntKind.i64.wrap (y+1)) _ h):) (.one ⟨_,.done _,[(1000001000,1000001000),(1000001001,96048)],[(1,1)],?_⟩)
     try simp only [go_sem]
    ·refine AB (Z ?_)
     refine Am (AN rfl rfl (ih0 a0 q w (IntKind.i64.wrap (y+1)) _ h):) (.one ⟨_,.done _,[(1000001000,1000001000),(1000001001,96048)],[(1,1)],?_⟩)
     try simp only [go_sem]
   ·refine AB (Z ?_)
    refine AZ (AN rfl rfl (Nw fuel a0 u [] 0 _ h):) (.one ⟨_,.lit 5 2000000000 9000 0 5 false [] _ _ (by (first|rfl|(simp only [go_sem]; rfl))) (by simp only [go_sem]; rfl) (by (first|rfl|(simp only [go_sem]; rfl))) (by (first|rfl|(simp only [go_sem]; rfl))) (by decide) (by decide) (by simp only [go_sem]) (.done _),[(1000007000,1000001000),(1000007001,1000001001),(1000007002,2000000000)],[(1,1)],?_⟩)
    simp only [go_sem]
    all_goals try rfl
theorem SL (a0 r) (h:Hc a0=some r):AG Tryz.prog 77 [.box 1 0] [(1001,⟨List.map Agent.ds a0.agents,some 5,0,false⟩)] [(1,[.own 1001])] (.tup []) [(1501,⟨List.map Agent.ds r.agents,some 5,0,false⟩)] [(1,[.own 1501])] :=by
 unfold Hc at h
 refine Co mixed Tryz.func77 rfl rfl rfl (by kernel_rfl) (by kernel_rfl) (Z ?_)
 refine AZ (AN rfl rfl (Od fuel a0 [] 0 0 _ h):) (.one ⟨_,.lit 2 2000000000 1000 0 1 false [] _ _ (by (first|rfl|(simp only [go_sem]; rfl))) (by simp only [go_sem]; rfl) (by (first|rfl|(simp only [go_sem]; rfl))) (by (first|rfl|(simp only [go_sem]; rfl))) (by decide) (by decide) (by simp only [go_sem]) (.done _),[(1000001000,1001),(1000001001,2000000000)],[(1,1)],?_⟩)
 simp only [go_sem]
 all_goals try rfl
theorem QI (n:Nat):(∀a0 u w r,Et n a0 u w=some r→A7 Tryz.prog Tryz.f75 [1,1,0,1,0] (.agg (Net.rv r)) ⟨[(0,.rop [.ro (List.map Agent.ds a0.agents)] 0),(2,.box 1000001500 0),(3,.box 1000001501 0),(4,.int .i64 w)],[(1000001000,some ⟨List.map Agent.ds u,some 5,0,false⟩)],[(1000001500,some [.nils]),(1000001501,some [.own 1000001000])]⟩):=by
 induction n with
 |zero=>exact((fun _ _ _ _ h=>by rw [Et] at h; cases h))
 | succ n ih=>
  have ih0:=ih
  ·intro a0 u w r h
   rw [Et] at h
   refine AS rfl rfl (Z ?_)
   refine Ag (Z ?_)
   refine AD h (fun h=>Z ?_) (fun h=>Z ?_)
   ·refine AB (Z ?_)
    refine Ae [false,false,false,false,false,false,false,false,false,false,true,true,true] (Tr.sq [10,11,12] .fin) (by kernel_rfl) (Z ?_)
    replace h:=AF h; obtain⟨y,q,h⟩:=h
    refine AR q (Agent.ds_len _) (Z ?_)
    replace h:=AF h; obtain⟨g,j,h⟩:=h
    refine AK (DL _ _ j) (Z ?_)
    replace h:=AF h; obtain⟨k,b,h⟩:=h
    have hq_:=BX b
    obtain⟨hv6010a,hv6010b⟩:=hq_
    refine EP false (Z ?_)
    refine BW (by refine⟨?_,?_⟩ <;> (try simp only [List.length_map,List.length_append,List.length_cons,List.length_nil] at*) <;> (try unfold maxLen) <;> omega) (Z ?_)
    refine BA (List.map Agent.ds k) (by rw [← hv6010b]; simp only [List.map_append,List.map_cons,List.map_nil,List.nil_append,List.append_nil,go_sem,Agent.ds_eq]) (Z ?_)
    refine AB (Z ?_)
    refine Am (AH rfl rfl (ih0 a0 k (IntKind.i64.wrap (w+1)) _ h):) (.one ⟨_,.done _,[(1000001000,96160)],[(1000001500,1000001500),(1000001501,1000001501)],?_⟩)
    try simp only [go_sem]
   ·refine AB (Z ?_)
    cases h
    simp only [go_sem]
theorem T7 (a0 r) (h:Kk a0=some r):AC Tryz.prog 75 [.rop (Net.avs a0) 0] (.agg (Net.rv r)):=by
 unfold Kk at h
 refine AY mixed Tryz.func75 rfl rfl rfl (by kernel_rfl) (by kernel_rfl) (Z ?_)
 refine AB (Z ?_)
 refine AB (Z ?_)
 refine AZ (AH rfl rfl (QI fuel a0 [] 0 _ h):) (.one ⟨_,.cell 2001 0 2000000000 (some 5) false _ (by simp only [go_sem]; rfl) (by rfl) (by simp only [go_sem]) (.done _),[(1000001000,2000000000)],[(1000001500,1000),(1000001501,2001)],?_⟩)
 simp only [go_sem]
 all_goals try rfl
end Go.Proofs.YtckcfdggbbabfaaGreat.Ab
