/-
 The functions do what their models say. Printed by wip/ab/gen.py.
-/
import Derived.Test.YteckcjgpnegkjaaGreatDoorModC
import Derived.Test.YteckcjgpnegkjaaGreatDoorTi2
import Derived.Test.YteckcjgpnegkjaaGreatDoorWlkL
namespace Go.Proofs.YteckcjgpnegkjaaGreatDoor.Ab
set_option linter.defProp false
set_option linter.unusedVariables false
set_option linter.unusedSimpArgs false
set_option maxRecDepth 20000
set_option maxHeartbeats 4000000
open Go.RowKit
theorem Ik (a0:Int) (a1:Int) (a2:Int) (u:Bool) (r:Bool) (h:Ee a0 a1 a2 u=some r):Aq Tryz.prog Tryz.f189 [1,0,1] (.bool r) ⟨[(0,.int .i64 a0),(1,.int .i64 a1),(2,.int .i64 a2),(15,.bool u)],[],[]⟩:=by
 unfold Ee at h
 refine AO rfl rfl (Z ?_)
 refine AD h (fun h=>Z ?_) (fun h=>Z ?_)
 ·cases h
  simp only [go_sem]
 ·refine AF ?_
  refine AD h (fun h=>Z ?_) (fun h=>Z ?_)
  ·refine AF ?_
   cases h
   simp only [go_sem]
  ·refine AD h (fun h=>Z ?_) (fun h=>Z ?_)
   ·refine AF ?_
    cases h
    simp only [go_sem]
   ·replace h:=AB h; obtain⟨w,y,h⟩:=h
    refine AI (JN _ _ y) (Z ?_)
    refine AD h (fun h=>Z ?_) (fun h=>Z ?_)
    ·refine AF ?_
     cases h
     simp only [go_sem]
    ·refine AF ?_
     cases h
     simp only [go_sem]
theorem Pi (a0 a1 a2 r) (h:GH a0 a1 a2=some r):AC Tryz.prog 189 [.int .i64 a0,.int .i64 a1,.int .i64 a2] (.bool r):=by
 unfold GH at h
 refine acF Tryz.func189 mixed (h:=Z ?_)
 replace h:=AB h; obtain⟨u,w,h⟩:=h
 refine AI (OC _ _ w) (Z ?_)
 refine AD h (fun h=>Z ?_) (fun h=>Z ?_)
 ·exact AY (Ik a0 a1 a2 true _ h) [] []
 ·replace h:=AB h; obtain⟨y,q,h⟩:=h
  refine AI (GZ _ _ _ q) (Z ?_)
  exact AY (Ik a0 a1 a2 (!y) _ h) [] []
theorem Pj (a0 r) (h:GI a0=some r):AC Tryz.prog 190 [.int .i64 a0] (.bool r):=by
 unfold GI at h
 refine acF Tryz.func190 mixed (h:=Z ?_)
 refine AD h (fun h=>Z ?_) (fun h=>Z ?_)
 ·refine AF ?_
  cases h
  simp only [go_sem]
 ·refine AD h (fun h=>Z ?_) (fun h=>Z ?_)
  ·refine AF ?_
   cases h
   simp only [go_sem]
  ·refine AD h (fun h=>Z ?_) (fun h=>Z ?_)
   ·refine AF ?_
    cases h
    simp only [go_sem]
   ·refine AD h (fun h=>Z ?_) (fun h=>Z ?_)
    ·refine AF ?_
     cases h
     simp only [go_sem]
    ·refine AF ?_
     cases h
     simp only [go_sem]
theorem Ke (a1:Int) (a2:Int) (a3:Int) (u:Bool) (r:Int) (h:GJ a1 a2 a3 u=some r):Aq Tryz.prog Tryz.f167 [1,0,1,0,1,1,1,0,0,1] (.int .i64 r) ⟨[(1,.int .i64 a1),(2,.int .i64 a2),(3,.int .i64 a3),(14,.bool u)],[],[]⟩:=by
 unfold GJ at h
 refine AO rfl rfl (Z ?_)
 refine AD h (fun h=>Z ?_) (fun h=>Z ?_)
 ·cases h
  simp only [go_sem]
 ·replace h:=AB h; obtain⟨w,y,h⟩:=h
  refine AI (Pi _ _ _ _ y) (Z ?_)
  refine AF ?_
  refine AD h (fun h=>Z ?_) (fun h=>Z ?_)
  ·cases h
   simp only [go_sem]
  ·refine AF ?_
   cases h
   simp only [go_sem]
theorem Kf (u:Bool) (r:Int) (h:GK u=some r):Aq Tryz.prog Tryz.f167 [1,0,1,0,1,1,1,1,1,0,1] (.int .i64 r) ⟨[(35,.bool u)],[],[]⟩:=by
 unfold GK at h
 refine AO rfl rfl (Z ?_)
 refine AD h (fun h=>Z ?_) (fun h=>Z ?_)
 ·cases h
  simp only [go_sem]
 ·refine AF ?_
  cases h
  simp only [go_sem]
theorem Kg (a2:Int) (u:Bool) (r:Int) (h:GL a2 u=some r):Aq Tryz.prog Tryz.f167 [1,0,1,0,1,1,1,1,1,1,1,0,1,0,1] (.int .i64 r) ⟨[(38,.int .i64 a2),(39,.bool u)],[],[]⟩:=by
 unfold GL at h
 refine AO rfl rfl (Z ?_)
 refine AD h (fun h=>Z ?_) (fun h=>Z ?_)
 ·cases h
  simp only [go_sem]
 ·refine AD h (fun h=>Z ?_) (fun h=>Z ?_)
  ·cases h
   simp only [go_sem]
  ·refine AF ?_
   cases h
   simp only [go_sem]
theorem OD (a0 a1 a2 a3 r) (h:H3 a0 a1 a2 a3=some r):AC Tryz.prog 167 [.int .i64 a0,.int .i64 a1,.int .i64 a2,.int .i64 a3] (.int .i64 r):=by
 unfold H3 at h
 refine acF Tryz.func167 mixed (h:=Z ?_)
 refine AD h (fun h=>Z ?_) (fun h=>Z ?_)
 ·cases h
  simp only [go_sem]
 ·refine AD h (fun h=>Z ?_) (fun h=>Z ?_)
  ·refine AD h (fun h=>Z ?_) (fun h=>Z ?_)
   ·exact AY (Ke a1 a2 a3 (decide (a1=a3)) _ h) [] []
   ·exact AY (Ke a1 a2 a3 false _ h) [] []
  ·refine AD h (fun h=>Z ?_) (fun h=>Z ?_)
   ·refine AD h (fun h=>Z ?_) (fun h=>Z ?_)
    ·exact AY (Kf (decide (a1=a3)) _ h) [] []
    ·exact AY (Kf false _ h) [] []
   ·refine AD h (fun h=>Z ?_) (fun h=>Z ?_)
    ·refine AD h (fun h=>Z ?_) (fun h=>Z ?_)
     ·exact AY (Kg a2 (decide (a2=7)) _ h) [] []
     ·exact AY (Kg a2 (decide (a2=8)) _ h) [] []
    ·refine AD h (fun h=>Z ?_) (fun h=>Z ?_)
     ·refine AD h (fun h=>Z ?_) (fun h=>Z ?_)
      ·cases h
       simp only [go_sem]
      ·refine AF ?_
       cases h
       simp only [go_sem]
     ·refine AD h (fun h=>Z ?_) (fun h=>Z ?_)
      ·replace h:=AB h; obtain⟨u,w,h⟩:=h
       refine AI (Pj _ _ w) (Z ?_)
       refine AF ?_
       refine AD h (fun h=>Z ?_) (fun h=>Z ?_)
       ·cases h
        simp only [go_sem]
       ·refine AF ?_
        cases h
        simp only [go_sem]
      ·refine AF ?_
       cases h
       simp only [go_sem]
theorem Ga (a0:Int) (a1:Int) (a2:Int) (a3:Int) (u:Bool) (r:Int × Int) (h:E3 a0 a1 a2 a3 u=some r):Aq Tryz.prog Tryz.f135 [1,0,1] (.tup [.int .i64 r.1,.int .i64 r.2]) ⟨[(0,.int .i64 a0),(1,.int .i64 a1),(2,.int .i64 a2),(3,.int .i64 a3),(29,.bool u)],[],[]⟩:=by
 unfold E3 at h
 refine AO rfl rfl (Z ?_)
 refine AD h (fun h=>Z ?_) (fun h=>Z ?_)
 ·cases h
  simp only [go_sem]
 ·refine AF ?_
  replace h:=AB h; obtain⟨w,y,h⟩:=h
  refine AI (OD _ _ _ _ _ y) (Z ?_)
  refine AF ?_
  refine AD h (fun h=>Z ?_) (fun h=>Z ?_)
  ·cases h
   simp only [go_sem]
  ·refine AF ?_
   replace h:=AB h; obtain⟨q,g,h⟩:=h
   refine AI (OD _ _ _ _ _ g) (Z ?_)
   refine AF ?_
   refine AD h (fun h=>Z ?_) (fun h=>Z ?_)
   ·cases h
    simp only [go_sem]
   ·refine AF ?_
    cases h
    simp only [go_sem]
theorem V8 (a0 a1 a2 a3 r) (h:LN a0 a1 a2 a3=some r):AC Tryz.prog 135 [.int .i64 a0,.int .i64 a1,.int .i64 a2,.int .i64 a3] (.tup [.int .i64 r.1,.int .i64 r.2]):=by
 unfold LN at h
 refine acF Tryz.func135 mixed (h:=Z ?_)
 refine AD h (fun h=>Z ?_) (fun h=>Z ?_)
 ·exact AY (Ga a0 a1 a2 a3 true _ h) [] []
 ·refine AD h (fun h=>Z ?_) (fun h=>Z ?_)
  ·exact AY (Ga a0 a1 a2 a3 true _ h) [] []
  ·replace h:=AB h; obtain⟨u,w,h⟩:=h
   refine AI (GZ _ _ _ w) (Z ?_)
   refine AD h (fun h=>Z ?_) (fun h=>Z ?_)
   ·exact AY (Ga a0 a1 a2 a3 true _ h) [] []
   ·replace h:=AB h; obtain⟨y,q,h⟩:=h
    refine AI (GZ _ _ _ q) (Z ?_)
    exact AY (Ga a0 a1 a2 a3 (!y) _ h) [] []
theorem FZ (u:Int × Int) (w:Bool) (r:Int × Bool) (h:DG u w=some r):Aq Tryz.prog Tryz.f97 [1,1,1,1,0,1] (.tup [.int .i64 r.1,.bool r.2]) ⟨[(8,.int .i64 u.1),(9,.int .i64 u.2),(56,.bool w)],[],[]⟩:=by
 unfold DG at h
 refine AO rfl rfl (Z ?_)
 refine AD h (fun h=>Z ?_) (fun h=>Z ?_)
 ·cases h
  simp only [go_sem]
 ·refine AF ?_
  cases h
  simp only [go_sem]
theorem Hf (u:Int × Int) (w:Int) (y:Int) (q:Int) (g:List Int) (j:List Port) (k:Int) (b:Int) (d:Int) (c:List Int) (e:List Port) (r:Int × Bool) (h:DH u w y q g j k b d c e=some r):Aq Tryz.prog Tryz.f97 [1,1,1,1] (.tup [.int .i64 r.1,.bool r.2]) ⟨[(6,.box 1000000500 0),(7,.box 1000000501 0),(8,.int .i64 u.1),(9,.int .i64 u.2)],[],[(1000000500,some [.int .i64 w,.int .i64 y,.int .i64 q,.ro (g.map AS),.ro (j.map Port.ds)]),(1000000501,some [.int .i64 k,.int .i64 b,.int .i64 d,.ro (c.map AS),.ro (e.map Port.ds)])]⟩:=by
 unfold DH at h
 refine AO rfl rfl (Z ?_)
 refine AD h (fun h=>Z ?_) (fun h=>Z ?_)
 ·refine AD h (fun h=>Z ?_) (fun h=>Z ?_)
  ·exact AY (FZ u (decide ((c.length:Int)≤q)) _ h) [] []
  ·exact AY (FZ u false _ h) [] []
 ·exact AY (FZ u false _ h) [] []
theorem Jw (a0 a1 r) (h:Dq a0 a1=some r):AC Tryz.prog 97 [.rop (Net.avs a0) 0,.agg (Pair.avs a1)] (.tup [.int .i64 r.1,.bool r.2]):=by
 unfold Dq at h
 refine acF Tryz.func97 mixed (h:=Z ?_)
 refine az [] [(16,18),(17,19)] .fin (by kernel_rfl) (Z ?_)
 replace h:=AB h; obtain⟨u,w,h⟩:=h
 refine AM w (Agent.ds_len _) (Z ?_)
 replace h:=AB h; obtain⟨y,q,h⟩:=h
 refine AM q (Agent.ds_len _) (Z ?_)
 refine X1 _ (by rfl) (by (first|(simp only [go_sem]; done)|(simp only [go_sem]; decide)|decide)) (by rfl) (Z ?_)
 refine X1 _ (by rfl) (by (first|(simp only [go_sem]; done)|(simp only [go_sem]; decide)|decide)) (by rfl) (Z ?_)
 refine f6 (by refine⟨by rfl,by rfl,trivial⟩) (Z ?_)
 refine AF ?_
 replace h:=AB h; obtain⟨g,j,h⟩:=h
 refine AI (V8 _ _ _ _ _ j) (Z ?_)
 refine AF ?_
 refine AD h (fun h=>Z ?_) (fun h=>Z ?_)
 ·exact AY (Hf g y.kind y.level y.value y.data y.ports u.kind u.level u.value u.data u.ports _ h) [] [(1000000500,2016),(1000000501,2017)]
 ·exact AY (Hf g u.kind u.level u.value u.data u.ports y.kind y.level y.value y.data y.ports _ h) [] [(1000000500,2016),(1000000501,2017)]
theorem Gf (a0 r) (h:Cc a0=some r):AC Tryz.prog 162 [.ro (a0.map Port.ds)] (.ow (some 2) (r.map Port.ds)):=by
 unfold Cc at h
 refine acF Tryz.func162 mixed (h:=Z ?_)
 refine bw (by simp only [go_sem]) (fun h0=>?_) ?_
 ·try simp only [go_sem]
  have hq_:=List.map_eq_nil_iff.1 h0
  obtain rfl:=hq_
  obtain rfl:r=[] :=by cases h; rfl
  simp only [go_sem]
 ·try simp only [go_sem]
  refine AF ?_
  replace h:=AB h; obtain⟨u,w,h⟩:=h
  have hq_:=Av w
  obtain⟨hv4002a,hv4002b⟩:=hq_
  refine Cz false (Z ?_)
  refine Al (FM (by intro x; exact⟨(Port.ds_len _),by simp [Port.ds_eq,D.flat]⟩) _) (Z ?_)
  refine Al (by refine⟨?_,?_⟩ <;> (try simp only [List.length_map,List.length_append,List.length_cons,List.length_nil] at*) <;> (try unfold maxLen) <;> omega) (Z ?_)
  refine A6 (u.map Port.ds) (by rw [← hv4002b]; simp only [List.map_append,List.map_cons,List.map_nil,List.nil_append,List.append_nil,go_sem,Port.ds_eq]) (Z ?_)
  refine AF ?_
  cases h
  simp only [go_sem]
theorem Hg (a0 r) (h:DI a0=some r):AG Tryz.prog 131 [.ro (a0.map AS)] [] [] (.ro (r.map AS)) [] [] :=by
 unfold DI at h
 refine agF Tryz.func131 mixed (h:=Z ?_)
 refine bw (by simp only [go_sem]) (fun h0=>?_) ?_
 ·try simp only [go_sem]
  have hq_:=List.map_eq_nil_iff.1 h0
  obtain rfl:=hq_
  obtain rfl:r=[] :=by cases h; rfl
  simp only [go_sem]
  refine BB (.frzN [(0,[])] [] _ _ (by (first|rfl|(simp only [go_sem]; rfl))) (by (first|rfl|(simp only [go_sem]; rfl))) (.done _)) [] [] ?_
  simp only [go_sem]
  all_goals try rfl
 ·try simp only [go_sem]
  refine AF ?_
  replace h:=AB h; obtain⟨u,w,h⟩:=h
  have hq_:=Av w
  obtain⟨hv4002a,hv4002b⟩:=hq_
  refine Cz false (Z ?_)
  refine Al (FM (by intro x; exact⟨rfl,by simp [go_sem,D.flat]⟩) _) (Z ?_)
  refine Al (by refine⟨?_,?_⟩ <;> (try simp only [List.length_map,List.length_append,List.length_cons,List.length_nil] at*) <;> (try unfold maxLen) <;> omega) (Z ?_)
  refine A6 (u.map AS) (by rw [← hv4002b]; simp only [List.map_append,List.map_cons,List.map_nil,List.nil_append,List.append_nil,go_sem,slD]) (Z ?_)
  refine AF ?_
  cases h
  refine BB (.frzT 64032 [(0,[])] [] _ _ _ (by (first|rfl|(simp only [go_sem]; rfl))) (by decide) (by (first|rfl|(simp only [go_sem]; rfl))) (by (first|rfl|(simp only [go_sem]; rfl))) (.done _)) [] [] ?_
  simp only [go_sem]
  all_goals try rfl
theorem Gu (a0 r) (h:Em a0=some r):AG Tryz.prog 127 [.agg [.int .i64 a0.kind,.int .i64 a0.level,.int .i64 a0.value,.ro (a0.data.map AS),.ro (a0.ports.map Port.ds)]] [] [] (.agg [.int .i64 r.kind,.int .i64 r.level,.int .i64 r.value,.ro (r.data.map AS),.own 1501]) [(1501,⟨List.map Port.ds r.ports,some 2,0,false⟩)] [] :=by
 unfold Em at h
 refine agF Tryz.func127 mixed (h:=Z ?_)
 refine AF ?_
 refine Aa [false,false,false,false,false,false,false,true,true,true] (Tr.sq [7,8,9] .fin) (by kernel_rfl) (Z ?_)
 replace h:=AB h; obtain⟨u,w,h⟩:=h
 refine W0 (Hg _ _ w) (by (first|rfl|(simp only [go_sem]; rfl))) (by first|rfl|(simp only [go_sem])) (Z ?_)
 replace h:=AB h; obtain⟨y,q,h⟩:=h
 refine AI (Gf _ _ q) (Z ?_)
 refine AF ?_
 cases h
 refine BB (.done _) [(1501,32080)] [] ?_
 simp only [go_sem]
theorem OE (n:Nat):(∀a0 u w r,DN n a0 u w=some r→DF Tryz.prog Tryz.f78 [1,1,0,1,0] (.agg [.own 1501]) [(1501,⟨List.map Agent.dm r.agents,some 5,0,true⟩)] [] ⟨[(2,.box 1000001500 0),(3,.box 1000001501 0),(12,.ro (a0.agents.map Agent.ds)),(13,.int .i64 (a0.agents.length:Int)),(14,.int .i64 w)],[(1000001000,some ⟨List.map Agent.dm u,some 5,0,true⟩)],[(1000001500,some [.nils]),(1000001501,some [.own 1000001000])]⟩):=by
 induction n with
 |zero=>exact((fun _ _ _ _ h=>by rw [DN] at h; cases h))
 | succ n ih=>
  have ih0:=ih
  ·intro a0 u w r h
   rw [DN] at h
   refine A5 rfl rfl (Z ?_)
   refine AZ (Z ?_)
   refine AD h (fun h=>Z ?_) (fun h=>Z ?_)
   ·refine AF ?_
    replace h:=AB h; obtain⟨y,q,h⟩:=h
    refine AM q (Agent.ds_len _) (Z ?_)
    refine AF ?_
    replace h:=AB h; obtain⟨g,j,h⟩:=h
    replace h:=AB h; obtain⟨k,b,h⟩:=h
    refine Aa [false,true,true,true,true,true,true,true] (.br 1 (Tr.sq [2,3,4,5,6,7] .fin) (.br 2 (.br 1 (Tr.sq [3,4,5,6,7] .fin) (.br 3 (.br 1 (Tr.sq [4,5,6,7] .fin) (.br 4 (Tr.sq [1,5,6,7] .fin) .stop)) .stop)) .stop)) (by kernel_rfl) ?_
    try simp only [go_sem]
    refine BZ ?_ ?_
    ·try simp only [go_sem]
     refine caG ⟨[],[],[],[(1501,96048)],[],true⟩ (Gu _ _ j) (Z ?_)
     have hq_:=Av b
     obtain⟨hv6005a,hv6005b⟩:=hq_
     refine Cz true (Z ?_)
     refine Al (by refine⟨?_,?_⟩ <;> (try simp only [List.length_map,List.length_append,List.length_cons,List.length_nil] at*) <;> (try unfold maxLen) <;> omega) (Z ?_)
     refine A6 (k.map Agent.dm) (by rw [← hv6005b]; simp only [List.map_append,List.map_cons,List.map_nil,List.nil_append,List.append_nil,go_sem,Agent.ds_eq,Agent.dm_eq]) (Z ?_)
     refine AF ?_
     exact lpG (ih0 a0 k (IntKind.i64.wrap (w+1)) _ h) [(1000001000,96080)] [(1000001500,1000001500),(1000001501,1000001501)]
    ·try simp only [go_sem]
     refine BZ (Z ?_) (Z ?_)
     ·refine caG ⟨[],[],[],[(1501,96048)],[],true⟩ (Gu _ _ j) (Z ?_)
      have hq_:=Av b
      obtain⟨hv6005a,hv6005b⟩:=hq_
      refine Cz true (Z ?_)
      refine Al (by refine⟨?_,?_⟩ <;> (try simp only [List.length_map,List.length_append,List.length_cons,List.length_nil] at*) <;> (try unfold maxLen) <;> omega) (Z ?_)
      refine A6 (k.map Agent.dm) (by rw [← hv6005b]; simp only [List.map_append,List.map_cons,List.map_nil,List.nil_append,List.append_nil,go_sem,Agent.ds_eq,Agent.dm_eq]) (Z ?_)
      refine AF ?_
      exact lpG (ih0 a0 k (IntKind.i64.wrap (w+1)) _ h) [(1000001000,96080)] [(1000001500,1000001500),(1000001501,1000001501)]
     ·refine caG ⟨[],[],[],[(1501,96048)],[],true⟩ (Gu _ _ j) ?_
      try simp only [go_sem]
      refine BZ (Z ?_) (Z ?_)
      ·have hq_:=Av b
       obtain⟨hv6005a,hv6005b⟩:=hq_
       refine Cz true (Z ?_)
       refine Al (by refine⟨?_,?_⟩ <;> (try simp only [List.length_map,List.length_append,List.length_cons,List.length_nil] at*) <;> (try unfold maxLen) <;> omega) (Z ?_)
       refine A6 (k.map Agent.dm) (by rw [← hv6005b]; simp only [List.map_append,List.map_cons,List.map_nil,List.nil_append,List.append_nil,go_sem,Agent.ds_eq,Agent.dm_eq]) (Z ?_)
       refine AF ?_
       exact lpG (ih0 a0 k (IntKind.i64.wrap (w+1)) _ h) [(1000001000,96080)] [(1000001500,1000001500),(1000001501,1000001501)]
      ·have hq_:=Av b
       obtain⟨hv6005a,hv6005b⟩:=hq_
       refine Cz true (Z ?_)
       refine Al (by refine⟨?_,?_⟩ <;> (try simp only [List.length_map,List.length_append,List.length_cons,List.length_nil] at*) <;> (try unfold maxLen) <;> omega) (Z ?_)
       refine A6 (k.map Agent.dm) (by rw [← hv6005b]; simp only [List.map_append,List.map_cons,List.map_nil,List.nil_append,List.append_nil,go_sem,Agent.ds_eq,Agent.dm_eq]) (Z ?_)
       refine AF ?_
       exact lpG (ih0 a0 k (IntKind.i64.wrap (w+1)) _ h) [(1000001000,96080)] [(1000001500,1000001500),(1000001501,1000001501)]
   ·refine AF ?_
    cases h
    refine BB (.done _) [(1501,1000001000)] [] ?_
    simp only [go_sem]
theorem RN (a0 r) (h:HC a0=some r):AG Tryz.prog 78 [.agg [.ro (a0.agents.map Agent.ds)]] [] [] (.agg [.own 1501]) [(1501,⟨List.map Agent.dm r.agents,some 5,0,true⟩)] [] :=by
 unfold HC at h
 refine agF Tryz.func78 mixed (h:=Z ?_)
 refine AF ?_
 replace h:=AB h; obtain⟨u,w,h⟩:=h
 have hq_:=Fc w
 obtain⟨hv2003a,hv2003b,hv2003c⟩:=hq_
 refine Al (by unfold leX; omega) (Z ?_)
 refine Al (by refine⟨?_,?_,?_⟩ <;> omega) (Z ?_)
 refine A6 [] (by rfl) (Z ?_)
 refine AF ?_
 exact loG (OE fuel a0 [] 0 _ h) [(1000001000,32048)] [(1000001500,1001),(1000001501,2005)]
theorem Jx (a0 a1 r) (h:En a0 a1=some r):AG Tryz.prog 34 [.ro (a0.map Net.ds),.agg [.ro (a1.agents.map Agent.ds)]] [] [] (.box 1601 0) [(1501,⟨List.map Agent.dm r.net.agents,some 5,0,true⟩)] [(1601,[.own 1501,.ro (r.book.map Net.ds),.mpr 1602]),(1602,[.mpc (.int .i64) (r.removed.map prB)])] :=by
 unfold En at h
 refine agF Tryz.func34 mixed (h:=Z ?_)
 replace h:=AB h; obtain⟨u,w,h⟩:=h
 refine caG ⟨[],[],[],[(1501,32016)],[],true⟩ (RN _ _ w) (Z ?_)
 refine AF ?_
 cases h
 refine BB (.done _) [(1501,32016)] [(1601,2005),(1602,2003)] ?_
 simp only [go_sem]
theorem Et (a0 a1 a2 r) (h:CI a0 a1 a2=some r):AG Tryz.prog 130 [.box 1 0,.agg [.int .i64 a1.agent,.int .i64 a1.slot],.agg [.int .i64 a2.agent,.int .i64 a2.slot]] [(1001,⟨List.map Agent.dm a0.agents,some 5,0,true⟩)] [(1,[.own 1001])] (.tup []) [(1501,⟨List.map Agent.dm r.agents,some 5,0,true⟩)] [(1,[.own 1501])] :=by
 unfold CI at h
 refine agF Tryz.func130 mixed (h:=Z ?_)
 refine Aa [false,false,false,false,false,false,false,false,false,false,false,false,false,true] (Tr.sq [13] .fin) (by kernel_rfl) (Z ?_)
 replace h:=AB h; obtain⟨u,w,h⟩:=h
 refine AM w (Agent.dm_len _) (Z ?_)
 refine Ac (AX w) (Z ?_)
 replace h:=AB h; obtain⟨y,q,h⟩:=h
 refine Ac (E2 (sz:=5) (j:=4) (r:=List.map Port.ds u.ports) (AX (f:=Agent.dm) w) (Agent.dm_len _) (by rw [Agent.dm_eq]; rfl)) (Z ?_)
 refine AM q (Port.ds_len _) (Z ?_)
 replace h:=AB h; obtain⟨g,k,h⟩:=h
 replace h:=AB h; obtain⟨b,d,h⟩:=h
 refine Ac (E2 (sz:=5) (j:=4) (r:=List.map Port.ds u.ports) (AX (f:=Agent.dm) w) (Agent.dm_len _) (by rw [Agent.dm_eq]; rfl)) (Z ?_)
 refine Ac (AX q) (Z ?_)
 try refine Al ⟨List.cons_ne_nil _ _,by rfl,by decide,by rfl⟩ ?_
 try simp only [go_sem]
 refine A6 (b.map Agent.dm) ((ND (AX (f:=Agent.dm) w) (d':=.sl (u.ports.map Port.ds)) (by simp only [go_sem,Agent.ds_eq,Agent.dm_eq])).trans (by rw [← BW d,← BW k]; simp only [List.map_set,List.set_cons_succ,List.set_cons_zero,go_sem,Agent.ds_eq,Agent.dm_eq,Port.ds_eq])) (Z ?_)
 refine AF ?_
 refine Aa [false,false,false,false,false,false,false,false,false,false,false,false,false,true] (Tr.sq [13] .fin) (by kernel_rfl) (Z ?_)
 replace h:=AB h; obtain⟨c,e,h⟩:=h
 refine AM e (Agent.dm_len _) (Z ?_)
 refine Ac (AX e) (Z ?_)
 replace h:=AB h; obtain⟨i,l,h⟩:=h
 refine Ac (E2 (sz:=5) (j:=4) (r:=List.map Port.ds c.ports) (AX (f:=Agent.dm) e) (Agent.dm_len _) (by rw [Agent.dm_eq]; rfl)) (Z ?_)
 refine AM l (Port.ds_len _) (Z ?_)
 replace h:=AB h; obtain⟨t,s,h⟩:=h
 replace h:=AB h; obtain⟨o,z,h⟩:=h
 refine Ac (E2 (sz:=5) (j:=4) (r:=List.map Port.ds c.ports) (AX (f:=Agent.dm) e) (Agent.dm_len _) (by rw [Agent.dm_eq]; rfl)) (Z ?_)
 refine Ac (AX l) (Z ?_)
 try refine Al ⟨List.cons_ne_nil _ _,by rfl,by decide,by rfl⟩ ?_
 try simp only [go_sem]
 refine A6 (o.map Agent.dm) ((ND (AX (f:=Agent.dm) e) (d':=.sl (c.ports.map Port.ds)) (by simp only [go_sem,Agent.ds_eq,Agent.dm_eq])).trans (by rw [← BW z,← BW s]; simp only [List.map_set,List.set_cons_succ,List.set_cons_zero,go_sem,Agent.ds_eq,Agent.dm_eq,Port.ds_eq])) (Z ?_)
 cases h
 refine BB (.done _) [(1501,1001)] [(1,1)] ?_
 simp only [go_sem]
theorem Il (a0 a1 a2 r) (h:B7 a0 a1 a2=some r):AG Tryz.prog 82 [.box 1 0,.agg [.int .i64 a1.agent,.int .i64 a1.slot],.agg [.int .i64 a2.agent,.int .i64 a2.slot]] [(1001,⟨List.map Agent.dm a0.net.agents,some 5,0,true⟩)] [(2,[.mpc (.int .i64) (a0.removed.map prB)]),(1,[.own 1001,.ro (a0.book.map Net.ds),.mpr 2])] (.tup []) [(1501,⟨List.map Agent.dm r.net.agents,some 5,0,true⟩)] [(1,[.own 1501,.ro (a0.book.map Net.ds),.mpr 2]),(2,[.mpc (.int .i64) (r.removed.map prB)])] :=by
 unfold B7 at h
 refine agF Tryz.func82 mixed (h:=Z ?_)
 refine Aa [false,false,false,false,false,false,false,false,false,false,false,false,true,true] (Tr.sq [12,13] .fin) (by kernel_rfl) (Z ?_)
 replace h:=AB h; obtain⟨u,w,h⟩:=h
 refine AI (NF (Eu _ _ _ w) (.cons (.rop rfl) (.cons (.refl _) .nil))) (Z ?_)
 replace h:=AB h; obtain⟨y,q,h⟩:=h
 refine AI (NF (Eu _ _ _ q) (.cons (.rop rfl) (.cons (.refl _) .nil))) (Z ?_)
 refine AF ?_
 refine AD h (fun h=>Z ?_) (fun h=>Z ?_)
 ·refine Aa [false,false,false,false,false,true] (Tr.sq [5] .fin) (by kernel_rfl) (Z ?_)
  replace h:=AB h; obtain⟨g,j,h⟩:=h
  refine caG ⟨[],[(1001,1001)],[(1,1,0)],[(1501,64080)],[],true⟩ (Et _ _ _ _ j) (Z ?_)
  cases h
  refine BB (.done _) [(1501,64080)] [(2,2),(1,1)] ?_
  simp only [go_sem]
 ·cases h
  refine BB (.done _) [(1501,1001)] [(2,2),(1,1)] ?_
  simp only [go_sem]
theorem Ap (a0 a1 a2 r) (h:AU a0 a1 a2=some r):AG Tryz.prog 84 [.box 1 0,.agg [.int .i64 a1.agent,.int .i64 a1.slot],.agg [.int .i64 a2.agent,.int .i64 a2.slot]] [(1001,⟨List.map Agent.dm a0.net.agents,some 5,0,true⟩)] [(2,[.mpc (.int .i64) (a0.removed.map prB)]),(1,[.own 1001,.ro (a0.book.map Net.ds),.mpr 2])] (.tup []) [(1501,⟨List.map Agent.dm r.net.agents,some 5,0,true⟩)] [(1,[.own 1501,.ro (a0.book.map Net.ds),.mpr 2]),(2,[.mpc (.int .i64) (r.removed.map prB)])] :=by
 unfold AU at h
 refine agF Tryz.func84 mixed (h:=Z ?_)
 refine Aa [false,false,false,false,false,false,false,false,false,true] (Tr.sq [9] .fin) (by kernel_rfl) (Z ?_)
 replace h:=AB h; obtain⟨u,w,h⟩:=h
 refine AI (NF (Eu _ _ _ w) (.cons (.rop rfl) (.cons (.refl _) .nil))) (Z ?_)
 replace h:=AB h; obtain⟨y,q,h⟩:=h
 refine caG ⟨[],[(1001,1001)],[(1,1,0)],[(1501,32144)],[],true⟩ (Et _ _ _ _ q) (Z ?_)
 cases h
 refine BB (.done _) [(1501,32144)] [(2,2),(1,1)] ?_
 simp only [go_sem]
theorem Jy (n:Nat):(∀a0 a1 u w r,Ay n a0 a1 u w=some r→DF Tryz.prog Tryz.f89 [1,0] (.tup []) [(1501,⟨List.map Agent.dm r.net.agents,some 5,0,true⟩)] [(1,[.own 1501,.ro (a0.book.map Net.ds),.mpr 2]),(2,[.mpc (.int .i64) (r.removed.map prB)])] ⟨[(0,.box 1 0),(6,.ro (a1.map AS)),(7,.int .i64 (a1.length:Int)),(8,.int .i64 w)],[(1000000000,some ⟨List.map Agent.dm a0.net.agents,some 5,0,true⟩)],[(2,some [.mpc (.int .i64) (u.map prB)]),(1,some [.own 1000000000,.ro (a0.book.map Net.ds),.mpr 2])]⟩):=by
 induction n with
 |zero=>exact((fun _ _ _ _ _ h=>by rw [Ay] at h; cases h))
 | succ n ih=>
  have ih0:=ih
  ·intro a0 a1 u w r h
   rw [Ay] at h
   refine A5 rfl rfl (Z ?_)
   refine AZ (Z ?_)
   refine AD h (fun h=>Z ?_) (fun h=>Z ?_)
   ·refine AF ?_
    replace h:=AB h; obtain⟨y,q,h⟩:=h
    refine AM q rfl (Z ?_)
    replace h:=AB h; obtain⟨g,j,h⟩:=h
    have hq_:=Sp j
    obtain⟨hv4005_6a,hv4005_6b⟩:=hq_
    refine Al (by first|exact hv4005_6a|(rw [List.length_map]; exact hv4005_6a)) (Z ?_)
    refine A6 (g.map prB) (by rw [← hv4005_6b]; exact cE) (Z ?_)
    refine AF ?_
    exact lpG (ih0 a0 a1 g (IntKind.i64.wrap (w+1)) _ h) [(1000000000,1000000000)] [(2,2),(1,1)]
   ·cases h
    refine BB (.done _) [(1501,1000000000)] [(2,2),(1,1)] ?_
    simp only [go_sem]
theorem HQ (a0 a1 r) (h:BO a0 a1=some r):AG Tryz.prog 89 [.box 1 0,.ro (a1.map AS)] [(1001,⟨List.map Agent.dm a0.net.agents,some 5,0,true⟩)] [(2,[.mpc (.int .i64) (a0.removed.map prB)]),(1,[.own 1001,.ro (a0.book.map Net.ds),.mpr 2])] (.tup []) [(1501,⟨List.map Agent.dm r.net.agents,some 5,0,true⟩)] [(1,[.own 1501,.ro (a0.book.map Net.ds),.mpr 2]),(2,[.mpc (.int .i64) (r.removed.map prB)])] :=by
 unfold BO at h
 refine agF Tryz.func89 mixed (h:=Z ?_)
 exact loG (Jy fuel a0 a1 a0.removed 0 _ h) [(1000000000,1001)] [(2,2),(1,1)]
theorem MT (a0 r) (h:D5 a0=some r):AG Tryz.prog 80 [.box 1 0] [(1001,⟨List.map Agent.dm a0.net.agents,some 5,0,true⟩)] [(2,[.mpc (.int .i64) (a0.removed.map prB)]),(1,[.own 1001,.ro (a0.book.map Net.ds),.mpr 2])] (.int .i64 r) [(1501,⟨List.map Agent.dm a0.net.agents,some 5,0,true⟩)] [(1,[.own 1501,.ro (a0.book.map Net.ds),.mpr 2]),(2,[.mpc (.int .i64) (a0.removed.map prB)])] :=by
 unfold D5 at h
 refine agF Tryz.func80 mixed (h:=Z ?_)
 refine Aa [] .fin (by kernel_rfl) (Z ?_)
 refine AF ?_
 cases h
 refine BB (.done _) [(1501,1001)] [(2,2),(1,1)] ?_
 simp only [go_sem]
theorem OF (a0 r) (h:E4 a0=some r):AC Tryz.prog 131 [.ro (a0.map AS)] (.ow (some 1) (r.map AS)):=by
 unfold E4 at h
 refine acF Tryz.func131 mixed (h:=Z ?_)
 refine bw (by simp only [go_sem]) (fun h0=>?_) ?_
 ·try simp only [go_sem]
  have hq_:=List.map_eq_nil_iff.1 h0
  obtain rfl:=hq_
  obtain rfl:r=[] :=by cases h; rfl
  simp only [go_sem]
 ·try simp only [go_sem]
  refine AF ?_
  replace h:=AB h; obtain⟨u,w,h⟩:=h
  have hq_:=Av w
  obtain⟨hv4002a,hv4002b⟩:=hq_
  refine Cz false (Z ?_)
  refine Al (FM (by intro x; exact⟨rfl,by simp [go_sem,D.flat]⟩) _) (Z ?_)
  refine Al (by refine⟨?_,?_⟩ <;> (try simp only [List.length_map,List.length_append,List.length_cons,List.length_nil] at*) <;> (try unfold maxLen) <;> omega) (Z ?_)
  refine A6 (u.map AS) (by rw [← hv4002b]; simp only [List.map_append,List.map_cons,List.map_nil,List.nil_append,List.append_nil,go_sem,slD]) (Z ?_)
  refine AF ?_
  cases h
  simp only [go_sem]
theorem Li (a0 r) (h:E5 a0=some r):AC Tryz.prog 127 [.agg (Agent.avs a0)] (.agg (Agent.rv r)):=by
 unfold E5 at h
 refine acF Tryz.func127 mixed (h:=Z ?_)
 refine AF ?_
 refine Aa [false,false,false,false,false,false,false,true,true,true] (Tr.sq [7,8,9] .fin) (by kernel_rfl) (Z ?_)
 replace h:=AB h; obtain⟨u,w,h⟩:=h
 refine AI (OF _ _ w) (Z ?_)
 replace h:=AB h; obtain⟨y,q,h⟩:=h
 refine AI (Gf _ _ q) (Z ?_)
 refine AF ?_
 cases h
 simp only [go_sem]
theorem KY (n:Nat):(∀a0 a1 u w y r,Ar n a0 a1 u w y=some r→Aq Tryz.prog Tryz.f90 [1,1,1,1,0,1,0] (.agg (Net.rv r)) ⟨[(0,.rop [.ro (a0.agents.map Agent.ds)] 0),(4,.box 1000007500 0),(5,.mpr 1000007501),(8,.box 1000007502 0),(25,.ro (a1.map AS)),(26,.int .i64 (a1.length:Int)),(27,.int .i64 y)],[(1000007000,some ⟨List.map Agent.ds w,some 5,0,false⟩)],[(1000007500,some [.nils]),(1000007501,some [.mpc (.int .i64) (u.map prI)]),(1000007502,some [.own 1000007000])]⟩)∧
    (∀a0 a1 u w y q g j r,Bf n a0 a1 u w y q g j=some r→Aq Tryz.prog Tryz.f90 [1,1,1,1,0,1,0,0,1,1,0,0,1,1,0,1,0] (.agg (Net.rv r)) ⟨[(0,.rop [.ro (a0.agents.map Agent.ds)] 0),(4,.box 1000011500 0),(5,.mpr 1000011501),(8,.box 1000011502 0),(11,.box 1000011503 0),(25,.ro (a1.map AS)),(26,.int .i64 (a1.length:Int)),(27,.int .i64 y),(41,.int .i64 (q.ports.length:Int)),(42,.int .i64 j)],[(1000011000,some ⟨List.map Agent.ds w,some 5,0,false⟩),(1000011001,some ⟨List.map AS q.data,some 1,0,false⟩),(1000011002,some ⟨List.map Port.ds g,some 2,0,false⟩)],[(1000011500,some [.nils]),(1000011501,some [.mpc (.int .i64) (u.map prI)]),(1000011502,some [.own 1000011000]),(1000011503,some [.int .i64 q.kind,.int .i64 q.level,.int .i64 q.value,.own 1000011001,.own 1000011002])]⟩):=by
 induction n with
 |zero=>exact⟨(fun _ _ _ _ _ _ h=>by rw [Ar] at h; cases h),(fun _ _ _ _ _ _ _ _ _ h=>by rw [Bf] at h; cases h)⟩
 | succ n ih=>
  obtain⟨ih0,ih1⟩:=ih
  refine⟨?_,?_⟩
  ·intro a0 a1 u w y r h
   rw [Ar] at h
   refine AO rfl rfl (Z ?_)
   refine AZ (Z ?_)
   refine AD h (fun h=>Z ?_) (fun h=>Z ?_)
   ·refine AF ?_
    replace h:=AB h; obtain⟨k,b,h⟩:=h
    refine AM b rfl (Z ?_)
    replace h:=AB h; obtain⟨d,c,h⟩:=h
    refine AM c (Agent.ds_len _) (Z ?_)
    replace h:=AB h; obtain⟨q,e,h⟩:=h
    refine AI (Li _ _ e) (Z ?_)
    refine AF ?_
    exact loF (ih1 a0 a1 u w y q q.ports 0 _ h) [(1000011000,1000007000),(1000011001,192112),(1000011002,192113)] [(1000011500,1000007500),(1000011501,1000007501),(1000011502,1000007502),(1000011503,12008)]
   ·refine AF ?_
    cases h
    simp only [go_sem]
  ·intro a0 a1 u w y q g j r h
   rw [Bf] at h
   refine AO rfl rfl (Z ?_)
   refine AZ (Z ?_)
   refine AD h (fun h=>Z ?_) (fun h=>Z ?_)
   ·refine AF ?_
    refine Aa [false,false,false,false,false,false,false,false,false,false,false,false,false,true] (Tr.sq [13] .fin) (by kernel_rfl) (Z ?_)
    replace h:=AB h; obtain⟨i,l,h⟩:=h
    refine AM l (Port.ds_len _) (Z ?_)
    refine Ac (AX l) (Z ?_)
    replace h:=AB h; obtain⟨t,s,h⟩:=h
    refine AM s (Port.ds_len _) (Z ?_)
    replace h:=AB h; obtain⟨o,z,h⟩:=h
    refine Ac (AX s) (Z ?_)
    refine A6 (o.map Port.ds) (by rw [← BW z]; simp only [List.map_set,go_sem,Port.ds_eq]) (Z ?_)
    refine AF ?_
    exact lpF (ih1 a0 a1 u w y q o (IntKind.i64.wrap (j+1)) _ h) [(1000011000,1000011000),(1000011001,1000011001),(1000011002,1000011002)] [(1000011500,1000011500),(1000011501,1000011501),(1000011502,1000011502),(1000011503,1000011503)]
   ·refine AF ?_
    replace h:=AB h; obtain⟨u1,u2,h⟩:=h
    have hq_:=Av u2
    obtain⟨hv18004a,hv18004b⟩:=hq_
    refine Cz false (Z ?_)
    refine Al (by refine⟨?_,?_⟩ <;> (try simp only [List.length_map,List.length_append,List.length_cons,List.length_nil] at*) <;> (try unfold maxLen) <;> omega) (Z ?_)
    refine A6 (u1.map Agent.ds) (by rw [← hv18004b]; simp only [List.map_append,List.map_cons,List.map_nil,List.nil_append,List.append_nil,go_sem,Agent.ds_eq]) (Z ?_)
    refine AF ?_
    exact lpF (ih0 a0 a1 u u1 (IntKind.i64.wrap (y+1)) _ h) [(1000007000,288064)] [(1000007500,1000011500),(1000007501,1000011501),(1000007502,1000011502)]
def Kn (n:Nat):=(KY n).1
theorem Lj (n:Nat):(∀a0 a1 u w r,Bp n a0 a1 u w=some r→Aq Tryz.prog Tryz.f90 [1,1,0,1,0] (.agg (Net.rv r)) ⟨[(0,.rop [.ro (a0.agents.map Agent.ds)] 0),(1,.ro (a1.map AS)),(4,.box 1000001500 0),(5,.mpr 1000001501),(14,.ro (a1.map AS)),(15,.int .i64 (a1.length:Int)),(16,.int .i64 w)],[],[(1000001500,some [.nils]),(1000001501,some [.mpc (.int .i64) (u.map prI)])]⟩):=by
 induction n with
 |zero=>exact((fun _ _ _ _ _ h=>by rw [Bp] at h; cases h))
 | succ n ih=>
  have ih0:=ih
  ·intro a0 a1 u w r h
   rw [Bp] at h
   refine AO rfl rfl (Z ?_)
   refine AZ (Z ?_)
   refine AD h (fun h=>Z ?_) (fun h=>Z ?_)
   ·refine AF ?_
    replace h:=AB h; obtain⟨y,q,h⟩:=h
    refine AM q rfl (Z ?_)
    replace h:=AB h; obtain⟨g,j,h⟩:=h
    have hq_:=Sp j
    obtain⟨hv6003_12a,hv6003_12b⟩:=hq_
    refine Al (by first|exact hv6003_12a|(rw [List.length_map]; exact hv6003_12a)) (Z ?_)
    refine A6 (g.map prI) (by rw [← hv6003_12b]; exact cF) (Z ?_)
    refine AF ?_
    exact lpF (ih0 a0 a1 g (IntKind.i64.wrap (w+1)) _ h) [] [(1000001500,1000001500),(1000001501,1000001501)]
   ·refine AF ?_
    refine AF ?_
    refine CF (DU rfl rfl (Kn fuel a0 a1 u [] 0 _ h):) (.one ⟨_,.cell 8000 0 2000000000 (some 5) false _ (by simp only [go_sem]; rfl) (by rfl) (by simp only [go_sem]) (.done _),[(1000007000,2000000000)],[(1000007500,1000001500),(1000007501,1000001501),(1000007502,8000)],?_⟩)
    simp only [go_sem]
    all_goals try rfl
theorem OG (a0 a1 r) (h:D6 a0 a1=some r):AC Tryz.prog 90 [.rop (Net.avs a0) 0,.ro (a1.map AS)] (.agg (Net.rv r)):=by
 unfold D6 at h
 refine acF Tryz.func90 mixed (h:=Z ?_)
 refine AF ?_
 exact loF (Lj fuel a0 a1 [] 0 _ h) [] [(1000001500,1000),(1000001501,2000)]
theorem Jz (n:Nat):(∀a0 u w r,BC n a0 u w=some r→DF Tryz.prog Tryz.f36 [1,1,0,1,0] (.agg [.own 1501]) [(1501,⟨List.map Agent.ds r.agents,some 5,0,false⟩),(1502,⟨List.map Agent.dm a0.net.agents,some 5,0,true⟩)] [(1,[.own 1502,.ro (a0.book.map Net.ds),.mpr 2]),(2,[.mpc (.int .i64) (a0.removed.map prB)])] ⟨[(0,.box 1 0),(2,.box 1000001500 0),(3,.own 1000001001),(10,.int .i64 (a0.net.agents.length:Int)),(11,.int .i64 w)],[(1000001000,some ⟨List.map Agent.dm a0.net.agents,some 5,0,true⟩),(1000001001,some ⟨List.map AS u,some 1,0,false⟩)],[(2,some [.mpc (.int .i64) (a0.removed.map prB)]),(1,some [.own 1000001000,.ro (a0.book.map Net.ds),.mpr 2]),(1000001500,some [.nils])]⟩):=by
 induction n with
 |zero=>exact((fun _ _ _ _ h=>by rw [BC] at h; cases h))
 | succ n ih=>
  have ih0:=ih
  ·intro a0 u w r h
   rw [BC] at h
   refine A5 rfl rfl (Z ?_)
   refine AZ (Z ?_)
   refine AD h (fun h=>Z ?_) (fun h=>Z ?_)
   ·refine AF ?_
    refine AD h (fun h=>Z ?_) (fun h=>Z ?_)
    ·replace h:=AB h; obtain⟨y,q,h⟩:=h
     have hq_:=Av q
     obtain⟨hv7003a,hv7003b⟩:=hq_
     refine Cz false (Z ?_)
     refine Al (by refine⟨?_,?_⟩ <;> (try simp only [List.length_map,List.length_append,List.length_cons,List.length_nil] at*) <;> (try unfold maxLen) <;> omega) (Z ?_)
     refine A6 (y.map AS) (by rw [← hv7003b]; simp only [List.map_append,List.map_cons,List.map_nil,List.nil_append,List.append_nil,go_sem,slD]) (Z ?_)
     refine AF ?_
     exact lpG (ih0 a0 y (IntKind.i64.wrap (w+1)) _ h) [(1000001000,1000001000),(1000001001,112048)] [(2,2),(1,1),(1000001500,1000001500)]
    ·refine AF ?_
     exact lpG (ih0 a0 u (IntKind.i64.wrap (w+1)) _ h) [(1000001000,1000001000),(1000001001,1000001001)] [(2,2),(1,1),(1000001500,1000001500)]
   ·refine AF ?_
    replace h:=AB h; obtain⟨g,j,h⟩:=h
    refine AI (NF (OG _ _ _ j) (.cons (.rop rfl) (.cons (.refl _) .nil))) (Z ?_)
    refine AF ?_
    cases h
    refine BB (.done _) [(1501,144064),(1502,1000001000)] [(2,2),(1,1)] ?_
    simp only [go_sem]
theorem Lk (a0 r) (h:Bq a0=some r):AG Tryz.prog 36 [.box 1 0] [(1001,⟨List.map Agent.dm a0.net.agents,some 5,0,true⟩)] [(2,[.mpc (.int .i64) (a0.removed.map prB)]),(1,[.own 1001,.ro (a0.book.map Net.ds),.mpr 2])] (.agg [.own 1501]) [(1501,⟨List.map Agent.ds r.agents,some 5,0,false⟩),(1502,⟨List.map Agent.dm a0.net.agents,some 5,0,true⟩)] [(1,[.own 1502,.ro (a0.book.map Net.ds),.mpr 2]),(2,[.mpc (.int .i64) (a0.removed.map prB)])] :=by
 unfold Bq at h
 refine agF Tryz.func36 mixed (h:=Z ?_)
 refine AF ?_
 refine CF (Fm rfl rfl (Jz fuel a0 [] 0 _ h):) (.one ⟨_,.slot 3 2000000000 (some 1) false (by simp only [go_sem]) (by simp only [go_sem]) (.done _),[(1000001000,1001),(1000001001,2000000000)],[(2,2),(1,1),(1000001500,1000)],?_⟩)
 simp only [go_sem]
 all_goals try rfl
theorem Pk (n:Nat):(∀a0 u w r,EP n a0 u w=some r→Aq Tryz.prog Tryz.f78 [1,1,0,1,0] (.agg (Net.rv r)) ⟨[(2,.box 1000001500 0),(3,.box 1000001501 0),(12,.ro (a0.agents.map Agent.ds)),(13,.int .i64 (a0.agents.length:Int)),(14,.int .i64 w)],[(1000001000,some ⟨List.map Agent.ds u,some 5,0,false⟩)],[(1000001500,some [.nils]),(1000001501,some [.own 1000001000])]⟩):=by
 induction n with
 |zero=>exact((fun _ _ _ _ h=>by rw [EP] at h; cases h))
 | succ n ih=>
  have ih0:=ih
  ·intro a0 u w r h
   rw [EP] at h
   refine AO rfl rfl (Z ?_)
   refine AZ (Z ?_)
   refine AD h (fun h=>Z ?_) (fun h=>Z ?_)
   ·refine AF ?_
    replace h:=AB h; obtain⟨y,q,h⟩:=h
    refine AM q (Agent.ds_len _) (Z ?_)
    refine AF ?_
    refine Aa [false,false,false,false,false,true,true,true] (Tr.sq [5,6,7] .fin) (by kernel_rfl) (Z ?_)
    replace h:=AB h; obtain⟨g,j,h⟩:=h
    refine AI (Li _ _ j) (Z ?_)
    replace h:=AB h; obtain⟨k,b,h⟩:=h
    have hq_:=Av b
    obtain⟨hv6005a,hv6005b⟩:=hq_
    refine Cz false (Z ?_)
    refine Al (by refine⟨?_,?_⟩ <;> (try simp only [List.length_map,List.length_append,List.length_cons,List.length_nil] at*) <;> (try unfold maxLen) <;> omega) (Z ?_)
    refine A6 (k.map Agent.ds) (by rw [← hv6005b]; simp only [List.map_append,List.map_cons,List.map_nil,List.nil_append,List.append_nil,go_sem,Agent.ds_eq]) (Z ?_)
    refine AF ?_
    exact lpF (ih0 a0 k (IntKind.i64.wrap (w+1)) _ h) [(1000001000,96080)] [(1000001500,1000001500),(1000001501,1000001501)]
   ·refine AF ?_
    cases h
    simp only [go_sem]
theorem Ty (a0 r) (h:Jg a0=some r):AC Tryz.prog 78 [.agg (Net.avs a0)] (.agg (Net.rv r)):=by
 unfold Jg at h
 refine acF Tryz.func78 mixed (h:=Z ?_)
 refine AF ?_
 replace h:=AB h; obtain⟨u,w,h⟩:=h
 have hq_:=Fc w
 obtain⟨hv2003a,hv2003b,hv2003c⟩:=hq_
 refine Al (by unfold leX; omega) (Z ?_)
 refine Al (by refine⟨?_,?_,?_⟩ <;> omega) (Z ?_)
 refine A6 [] (by rfl) (Z ?_)
 refine AF ?_
 exact loF (Pk fuel a0 [] 0 _ h) [(1000001000,32048)] [(1000001500,1001),(1000001501,2005)]
theorem Pl (n:Nat):(∀a1 u w y r,C2 n a1 u w y=some r→Aq Tryz.prog Tryz.f128 [1,1,0,1,0] (.tup [.agg (Net.rv r.1),.bool r.2]) ⟨[(1,.int .i64 a1),(4,.box 1000001500 0),(6,.box 1000001501 0),(13,.int .i64 (u.agents.length:Int)),(14,.int .i64 y)],[(1000001000,some ⟨List.map Agent.ds w,some 5,0,false⟩)],[(1000001500,some [.nils]),(1000001501,some [.own 1000001000])]⟩):=by
 induction n with
 |zero=>exact((fun _ _ _ _ _ h=>by rw [C2] at h; cases h))
 | succ n ih=>
  have ih0:=ih
  ·intro a1 u w y r h
   rw [C2] at h
   refine AO rfl rfl (Z ?_)
   refine AZ (Z ?_)
   refine AD h (fun h=>Z ?_) (fun h=>Z ?_)
   ·refine AF ?_
    replace h:=AB h; obtain⟨q,g,h⟩:=h
    refine AM g (Agent.ds_len _) (Z ?_)
    refine Ac (AX g) (Z ?_)
    replace h:=AB h; obtain⟨j,k,h⟩:=h
    refine AI (JN _ _ k) (Z ?_)
    refine AF ?_
    refine AD h (fun h=>Z ?_) (fun h=>Z ?_)
    ·refine AF ?_
     exact lpF (ih0 a1 u w (IntKind.i64.wrap (y+1)) _ h) [(1000001000,1000001000)] [(1000001500,1000001500),(1000001501,1000001501)]
    ·refine AF ?_
     refine Ac (AX g) (Z ?_)
     replace h:=AB h; obtain⟨b,d,h⟩:=h
     refine Ac (AX g) (Z ?_)
     refine A6 (b.map Agent.ds) (by rw [← BW d]; simp only [List.map_set,go_sem,Agent.ds_eq]) (Z ?_)
     replace h:=AB h; obtain⟨c,e,h⟩:=h
     refine Ac (AX e) (Z ?_)
     refine AD h (fun h=>Z ?_) (fun h=>Z ?_)
     ·cases h
      simp only [go_sem]
     ·refine AF ?_
      exact lpF (ih0 a1 u b (IntKind.i64.wrap (y+1)) _ h) [(1000001000,1000001000)] [(1000001500,1000001500),(1000001501,1000001501)]
   ·refine AF ?_
    cases h
    simp only [go_sem]
theorem OH (a0 a1 r) (h:H4 a0 a1=some r):AC Tryz.prog 128 [.agg (Net.avs a0),.int .i64 a1] (.tup [.agg (Net.rv r.1),.bool r.2]):=by
 unfold H4 at h
 refine acF Tryz.func128 mixed (h:=Z ?_)
 refine AF ?_
 replace h:=AB h; obtain⟨u,w,h⟩:=h
 refine AI (Ty _ _ w) (Z ?_)
 refine AF ?_
 exact loF (Pl fuel a1 u u.agents 0 _ h) [(1000001000,32016)] [(1000001500,1001),(1000001501,2002)]
theorem Gb (a0:Rewriter) (u:Int) (w:Int) (y:Int × Bool) (r:Int × Int × Int × Int) (h:C1 a0 u w y=some r):DF Tryz.prog Tryz.f79 [1,1,1,1,1] (.tup [.int .i64 r.1,.int .i64 r.2.1,.int .i64 r.2.2.1,.int .i64 r.2.2.2]) [(1501,⟨List.map Agent.dm a0.net.agents,some 5,0,true⟩)] [(1,[.own 1501,.ro (a0.book.map Net.ds),.mpr 2]),(2,[.mpc (.int .i64) (a0.removed.map prB)])] ⟨[(4,.int .i64 y.1),(5,.int .i64 u),(6,.int .i64 w)],[(1000001000,some ⟨List.map Agent.dm a0.net.agents,some 5,0,true⟩)],[(2,some [.mpc (.int .i64) (a0.removed.map prB)]),(1,some [.own 1000001000,.ro (a0.book.map Net.ds),.mpr 2])]⟩:=by
 unfold C1 at h
 refine A5 rfl rfl (Z ?_)
 cases h
 refine BB (.done _) [(1501,1000001000)] [(2,2),(1,1)] ?_
 simp only [go_sem]
theorem Gc (a0:Rewriter) (u:Int × Bool) (w:Int) (y:Int) (r:Int × Int × Int × Int) (h:CQ a0 u w y=some r):DF Tryz.prog Tryz.f79 [1,1,1,1] (.tup [.int .i64 r.1,.int .i64 r.2.1,.int .i64 r.2.2.1,.int .i64 r.2.2.2]) [(1501,⟨List.map Agent.dm a0.net.agents,some 5,0,true⟩)] [(1,[.own 1501,.ro (a0.book.map Net.ds),.mpr 2]),(2,[.mpc (.int .i64) (a0.removed.map prB)])] ⟨[(0,.box 1 0),(4,.int .i64 u.1),(5,.int .i64 w),(6,.int .i64 y)],[(1000000000,some ⟨List.map Agent.dm a0.net.agents,some 5,0,true⟩)],[(2,some [.mpc (.int .i64) (a0.removed.map prB)]),(1,some [.own 1000000000,.ro (a0.book.map Net.ds),.mpr 2])]⟩:=by
 unfold CQ at h
 refine A5 rfl rfl (Z ?_)
 refine AD h (fun h=>Z ?_) (fun h=>Z ?_)
 ·cases h
  refine BB (.done _) [(1501,1000000000)] [(2,2),(1,1)] ?_
  simp only [go_sem]
 ·refine AD h (fun h=>Z ?_) (fun h=>Z ?_)
  ·replace h:=AB h; obtain⟨q,g,h⟩:=h
   refine AM g (Agent.dm_len _) (Z ?_)
   refine Ac (AX g) (Z ?_)
   refine AF ?_
   refine Aa [] .fin (by kernel_rfl) (Z ?_)
   refine AF ?_
   refine AD h (fun h=>Z ?_) (fun h=>Z ?_)
   ·cases h
    refine BB (.done _) [(1501,1000000000)] [(2,2),(1,1)] ?_
    simp only [go_sem]
   ·refine AF ?_
    refine Aa [false,false,false,false,false,false,false,false,false,false,false,false,false,false,false,true,true] (Tr.sq [15,16] .fin) (by kernel_rfl) (Z ?_)
    replace h:=AB h; obtain⟨j,k,h⟩:=h
    refine AM k (Net.ds_len _) (Z ?_)
    replace h:=AB h; obtain⟨b,d,h⟩:=h
    refine AI (OH _ _ _ d) (Z ?_)
    refine AF ?_
    refine AD h (fun h=>Z ?_) (fun h=>Z ?_)
    ·cases h
     refine BB (.done _) [(1501,1000000000)] [(2,2),(1,1)] ?_
     simp only [go_sem]
    ·exact BH (Gb a0 w y u _ h) [(1000001000,1000000000)] [(2,2),(1,1)]
  ·exact BH (Gb a0 w y u _ h) [(1000001000,1000000000)] [(2,2),(1,1)]
theorem MU (a0 a1 r) (h:CC a0 a1=some r):AG Tryz.prog 79 [.box 1 0,.agg [.int .i64 a1.a,.int .i64 a1.b]] [(1001,⟨List.map Agent.dm a0.net.agents,some 5,0,true⟩)] [(2,[.mpc (.int .i64) (a0.removed.map prB)]),(1,[.own 1001,.ro (a0.book.map Net.ds),.mpr 2])] (.tup [.int .i64 r.1,.int .i64 r.2.1,.int .i64 r.2.2.1,.int .i64 r.2.2.2]) [(1501,⟨List.map Agent.dm a0.net.agents,some 5,0,true⟩)] [(1,[.own 1501,.ro (a0.book.map Net.ds),.mpr 2]),(2,[.mpc (.int .i64) (a0.removed.map prB)])] :=by
 unfold CC at h
 refine agF Tryz.func79 mixed (h:=Z ?_)
 refine Aa [] .fin (by kernel_rfl) (Z ?_)
 replace h:=AB h; obtain⟨u,w,h⟩:=h
 refine AI (NF (Jw _ _ _ w) (.cons (.rop rfl) (.cons (.refl _) .nil))) (Z ?_)
 refine AF ?_
 refine Aa [] .fin (by kernel_rfl) (Z ?_)
 refine AF ?_
 refine AD h (fun h=>Z ?_) (fun h=>Z ?_)
 ·exact BH (Gc a0 u a1.b a1.a _ h) [(1000000000,1001)] [(2,2),(1,1)]
 ·exact BH (Gc a0 u a1.a a1.b _ h) [(1000000000,1001)] [(2,2),(1,1)]
theorem Ll (a1:Int) (u:Int) (w:Bool) (r:Int × Int) (h:HD a1 u w=some r):Aq Tryz.prog Tryz.f129 [1,1,1,0,1] (.tup [.int .i64 r.1,.int .i64 r.2]) ⟨[(1,.int .i64 a1),(8,.int .i64 u),(30,.bool w)],[],[]⟩:=by
 unfold HD at h
 refine AO rfl rfl (Z ?_)
 refine AD h (fun h=>Z ?_) (fun h=>Z ?_)
 ·cases h
  simp only [go_sem]
 ·refine AF ?_
  cases h
  simp only [go_sem]
theorem EC (a1:Int) (u:Int) (w:Int) (y:Int) (r:Int × Int) (h:C9 a1 u w y=some r):Aq Tryz.prog Tryz.f129 [1,1,1] (.tup [.int .i64 r.1,.int .i64 r.2]) ⟨[(1,.int .i64 a1),(6,.int .i64 u),(7,.int .i64 w),(8,.int .i64 y)],[],[]⟩:=by
 unfold C9 at h
 refine AO rfl rfl (Z ?_)
 refine AD h (fun h=>Z ?_) (fun h=>Z ?_)
 ·exact AY (Ll a1 y true _ h) [] []
 ·exact AY (Ll a1 y (decide (w<a1)) _ h) [] []
theorem Lm (a0:Int) (a1:Int) (u:Bool) (r:Int × Int) (h:HE a0 a1 u=some r):Aq Tryz.prog Tryz.f129 [1,1,0,1,0,1] (.tup [.int .i64 r.1,.int .i64 r.2]) ⟨[(1,.int .i64 a1),(6,.int .i64 0),(7,.int .i64 0),(8,.int .i64 0),(9,.int .i64 a0),(10,.bool u)],[],[]⟩:=by
 unfold HE at h
 refine AO rfl rfl (Z ?_)
 refine AD h (fun h=>Z ?_) (fun h=>Z ?_)
 ·exact AY (EC a1 0 0 (-2) _ h) [] []
 ·refine AD h (fun h=>Z ?_) (fun h=>Z ?_)
  ·exact AY (EC a1 0 3 0 _ h) [] []
  ·refine AD h (fun h=>Z ?_) (fun h=>Z ?_)
   ·exact AY (EC a1 0 3 (-2) _ h) [] []
   ·refine AD h (fun h=>Z ?_) (fun h=>Z ?_)
    ·exact AY (EC a1 0 0 (-1) _ h) [] []
    ·refine AD h (fun h=>Z ?_) (fun h=>Z ?_)
     ·exact AY (EC a1 0 3 (-1) _ h) [] []
     ·refine AD h (fun h=>Z ?_) (fun h=>Z ?_)
      ·exact AY (EC a1 2 600 (-2) _ h) [] []
      ·cases h
       simp only [go_sem]
theorem V9 (a0 a1 r) (h:LO a0 a1=some r):AC Tryz.prog 129 [.int .i64 a0,.int .i64 a1] (.tup [.int .i64 r.1,.int .i64 r.2]):=by
 unfold LO at h
 refine acF Tryz.func129 mixed (h:=Z ?_)
 refine AD h (fun h=>Z ?_) (fun h=>Z ?_)
 ·exact AY (Lm a0 a1 (decide (a0=1)) _ h) [] []
 ·exact AY (Lm a0 a1 (decide (a0=2)) _ h) [] []
theorem CE (a0:Rewriter) (a1:Int) (u:Int) (r:Int) (h:BD a0 a1 u=some r):DF Tryz.prog Tryz.f81 [1,1,1] (.int .i64 r) [(1501,⟨List.map Agent.dm a0.net.agents,some 5,0,true⟩)] [(1,[.own 1501,.ro (a0.book.map Net.ds),.mpr 2]),(2,[.mpc (.int .i64) (a0.removed.map prB)])] ⟨[(1,.int .i64 a1),(9,.int .i64 u)],[(1000001000,some ⟨List.map Agent.dm a0.net.agents,some 5,0,true⟩)],[(2,some [.mpc (.int .i64) (a0.removed.map prB)]),(1,some [.own 1000001000,.ro (a0.book.map Net.ds),.mpr 2])]⟩:=by
 unfold BD at h
 refine A5 rfl rfl (Z ?_)
 replace h:=AB h; obtain⟨w,y,h⟩:=h
 refine AI (V9 _ _ _ y) (Z ?_)
 refine AF ?_
 cases h
 refine BB (.done _) [(1501,1000001000)] [(2,2),(1,1)] ?_
 simp only [go_sem]
theorem GA (a0:Rewriter) (a1:Int) (a2:Int) (a3:Int) (u:Bool) (r:Int) (h:Cj a0 a1 a2 a3 u=some r):DF Tryz.prog Tryz.f81 [1,1,0,1,0,1] (.int .i64 r) [(1501,⟨List.map Agent.dm a0.net.agents,some 5,0,true⟩)] [(1,[.own 1501,.ro (a0.book.map Net.ds),.mpr 2]),(2,[.mpc (.int .i64) (a0.removed.map prB)])] ⟨[(0,.box 1 0),(1,.int .i64 a1),(2,.int .i64 a2),(3,.int .i64 a3),(9,.int .i64 0),(12,.int .i64 a1),(13,.bool u)],[(1000000000,some ⟨List.map Agent.dm a0.net.agents,some 5,0,true⟩)],[(2,some [.mpc (.int .i64) (a0.removed.map prB)]),(1,some [.own 1000000000,.ro (a0.book.map Net.ds),.mpr 2])]⟩:=by
 unfold Cj at h
 refine A5 rfl rfl (Z ?_)
 refine AD h (fun h=>Z ?_) (fun h=>Z ?_)
 ·replace h:=AB h; obtain⟨w,y,h⟩:=h
  refine AM y (Agent.dm_len _) (Z ?_)
  refine Ac (AX y) (Z ?_)
  refine Ac (E2 (sz:=5) (j:=4) (r:=List.map Port.ds w.ports) (AX (f:=Agent.dm) y) (Agent.dm_len _) (by rw [Agent.dm_eq]; rfl)) (Z ?_)
  exact BH (CE a0 a1 (IntKind.i64.wrap ((w.ports.length:Int) - 1)) _ h) [(1000001000,1000000000)] [(2,2),(1,1)]
 ·refine AD h (fun h=>Z ?_) (fun h=>Z ?_)
  ·replace h:=AB h; obtain⟨q,g,h⟩:=h
   refine AM g (Agent.dm_len _) (Z ?_)
   refine Ac (AX g) (Z ?_)
   refine AD h (fun h=>Z ?_) (fun h=>Z ?_)
   ·replace h:=AB h; obtain⟨k,b,h⟩:=h
    refine AM b (Agent.dm_len _) (Z ?_)
    refine Ac (AX b) (Z ?_)
    refine Ac (E2 (sz:=5) (j:=4) (r:=List.map Port.ds k.ports) (AX (f:=Agent.dm) b) (Agent.dm_len _) (by rw [Agent.dm_eq]; rfl)) (Z ?_)
    exact BH (CE a0 a1 (IntKind.i64.wrap ((k.ports.length:Int) - 1)) _ h) [(1000001000,1000000000)] [(2,2),(1,1)]
   ·exact BH (CE a0 a1 0 _ h) [(1000001000,1000000000)] [(2,2),(1,1)]
  ·refine AD h (fun h=>Z ?_) (fun h=>Z ?_)
   ·refine Aa [] .fin (by kernel_rfl) (Z ?_)
    replace h:=AB h; obtain⟨d,c,h⟩:=h
    refine AM c (Agent.dm_len _) (Z ?_)
    refine Ac (AX c) (Z ?_)
    replace h:=AB h; obtain⟨e,i,h⟩:=h
    refine AM i (Net.ds_len _) (Z ?_)
    exact BH (CE a0 a1 (e.agents.length:Int) _ h) [(1000001000,1000000000)] [(2,2),(1,1)]
   ·exact BH (CE a0 a1 0 _ h) [(1000001000,1000000000)] [(2,2),(1,1)]
theorem Ln (a0 a1 a2 a3 r) (h:Df a0 a1 a2 a3=some r):AG Tryz.prog 81 [.box 1 0,.int .i64 a1,.int .i64 a2,.int .i64 a3] [(1001,⟨List.map Agent.dm a0.net.agents,some 5,0,true⟩)] [(2,[.mpc (.int .i64) (a0.removed.map prB)]),(1,[.own 1001,.ro (a0.book.map Net.ds),.mpr 2])] (.int .i64 r) [(1501,⟨List.map Agent.dm a0.net.agents,some 5,0,true⟩)] [(1,[.own 1501,.ro (a0.book.map Net.ds),.mpr 2]),(2,[.mpc (.int .i64) (a0.removed.map prB)])] :=by
 unfold Df at h
 refine agF Tryz.func81 mixed (h:=Z ?_)
 refine AD h (fun h=>Z ?_) (fun h=>Z ?_)
 ·exact BH (GA a0 a1 a2 a3 (decide (a1=3)) _ h) [(1000000000,1001)] [(2,2),(1,1)]
 ·exact BH (GA a0 a1 a2 a3 (decide (a1=4)) _ h) [(1000000000,1001)] [(2,2),(1,1)]
end Go.Proofs.YteckcjgpnegkjaaGreatDoor.Ab
