/-
 The functions do what their models say. Printed by wip/ab/gen.py.
-/
import Derived.Test.YtckcfdggbbabfaaGreatModG
import Derived.Test.YtckcfdggbbabfaaGreatTi2
import Derived.Test.YtckcfdggbbabfaaGreatWlkL
namespace Go.Proofs.YtckcfdggbbabfaaGreat.Ab
set_option linter.unusedVariables false
set_option linter.unusedSimpArgs false
set_option maxRecDepth 20000
set_option maxHeartbeats 4000000
open Go.RowKit
theorem JN (a0:Int) (a1:Int) (a2:Int) (u:Bool) (r:Bool) (h:E6 a0 a1 a2 u=some r):Al Tryz.prog Tryz.f248 [1,0,1] (.bool r) ⟨[(0,.int .i64 a0),(1,.int .i64 a1),(2,.int .i64 a2),(15,.bool u)],[],[]⟩:=by
 unfold E6 at h
 refine AN rfl rfl (Z ?_)
 refine AD h (fun h=>Z ?_) (fun h=>Z ?_)
 ·cases h
  simp only [go_sem]
 ·refine AF ?_
  refine AD h (fun h=>Z ?_) (fun h=>Z ?_)
  ·refine AF ?_
   cases h
   simp only [go_sem]
  ·refine AD h (fun h=>Z ?_) (fun h=>Z ?_)
   ·refine AF ?_
    cases h
    simp only [go_sem]
   ·replace h:=AB h; obtain⟨w,y,h⟩:=h
    refine AH (J2 _ _ y) (Z ?_)
    refine AD h (fun h=>Z ?_) (fun h=>Z ?_)
    ·refine AF ?_
     cases h
     simp only [go_sem]
    ·refine AF ?_
     cases h
     simp only [go_sem]
theorem QU (a0 a1 a2 r) (h:G3 a0 a1 a2=some r):AC Tryz.prog 248 [.int .i64 a0,.int .i64 a1,.int .i64 a2] (.bool r):=by
 unfold G3 at h
 refine acF Tryz.func248 mixed (h:=Z ?_)
 replace h:=AB h; obtain⟨u,w,h⟩:=h
 refine AH (On _ _ w) (Z ?_)
 refine AD h (fun h=>Z ?_) (fun h=>Z ?_)
 ·exact AW (JN a0 a1 a2 true _ h) [] []
 ·replace h:=AB h; obtain⟨y,q,h⟩:=h
  refine AH (HL _ _ _ q) (Z ?_)
  exact AW (JN a0 a1 a2 (!y) _ h) [] []
theorem QV (a0 r) (h:G4 a0=some r):AC Tryz.prog 249 [.int .i64 a0] (.bool r):=by
 unfold G4 at h
 refine acF Tryz.func249 mixed (h:=Z ?_)
 refine AD h (fun h=>Z ?_) (fun h=>Z ?_)
 ·refine AF ?_
  cases h
  simp only [go_sem]
 ·refine AD h (fun h=>Z ?_) (fun h=>Z ?_)
  ·refine AF ?_
   cases h
   simp only [go_sem]
  ·refine AD h (fun h=>Z ?_) (fun h=>Z ?_)
   ·refine AF ?_
    cases h
    simp only [go_sem]
   ·refine AD h (fun h=>Z ?_) (fun h=>Z ?_)
    ·refine AF ?_
     cases h
     simp only [go_sem]
    ·refine AF ?_
     cases h
     simp only [go_sem]
theorem LO (a1:Int) (a2:Int) (a3:Int) (u:Bool) (r:Int) (h:G5 a1 a2 a3 u=some r):Al Tryz.prog Tryz.f238 [1,0,1,0,1,1,1,0,0,1] (.int .i64 r) ⟨[(1,.int .i64 a1),(2,.int .i64 a2),(3,.int .i64 a3),(14,.bool u)],[],[]⟩:=by
 unfold G5 at h
 refine AN rfl rfl (Z ?_)
 refine AD h (fun h=>Z ?_) (fun h=>Z ?_)
 ·cases h
  simp only [go_sem]
 ·replace h:=AB h; obtain⟨w,y,h⟩:=h
  refine AH (QU _ _ _ _ y) (Z ?_)
  refine AF ?_
  refine AD h (fun h=>Z ?_) (fun h=>Z ?_)
  ·cases h
   simp only [go_sem]
  ·refine AF ?_
   cases h
   simp only [go_sem]
theorem LP (u:Bool) (r:Int) (h:G6 u=some r):Al Tryz.prog Tryz.f238 [1,0,1,0,1,1,1,1,1,0,1] (.int .i64 r) ⟨[(35,.bool u)],[],[]⟩:=by
 unfold G6 at h
 refine AN rfl rfl (Z ?_)
 refine AD h (fun h=>Z ?_) (fun h=>Z ?_)
 ·cases h
  simp only [go_sem]
 ·refine AF ?_
  cases h
  simp only [go_sem]
theorem LQ (a2:Int) (u:Bool) (r:Int) (h:G7 a2 u=some r):Al Tryz.prog Tryz.f238 [1,0,1,0,1,1,1,1,1,1,1,0,1,0,1] (.int .i64 r) ⟨[(38,.int .i64 a2),(39,.bool u)],[],[]⟩:=by
 unfold G7 at h
 refine AN rfl rfl (Z ?_)
 refine AD h (fun h=>Z ?_) (fun h=>Z ?_)
 ·cases h
  simp only [go_sem]
 ·refine AD h (fun h=>Z ?_) (fun h=>Z ?_)
  ·cases h
   simp only [go_sem]
  ·refine AF ?_
   cases h
   simp only [go_sem]
theorem Oo (a0 a1 a2 a3 r) (h:Ih a0 a1 a2 a3=some r):AC Tryz.prog 238 [.int .i64 a0,.int .i64 a1,.int .i64 a2,.int .i64 a3] (.int .i64 r):=by
 unfold Ih at h
 refine acF Tryz.func238 mixed (h:=Z ?_)
 refine AD h (fun h=>Z ?_) (fun h=>Z ?_)
 ·cases h
  simp only [go_sem]
 ·refine AD h (fun h=>Z ?_) (fun h=>Z ?_)
  ·refine AD h (fun h=>Z ?_) (fun h=>Z ?_)
   ·exact AW (LO a1 a2 a3 (decide (a1=a3)) _ h) [] []
   ·exact AW (LO a1 a2 a3 false _ h) [] []
  ·refine AD h (fun h=>Z ?_) (fun h=>Z ?_)
   ·refine AD h (fun h=>Z ?_) (fun h=>Z ?_)
    ·exact AW (LP (decide (a1=a3)) _ h) [] []
    ·exact AW (LP false _ h) [] []
   ·refine AD h (fun h=>Z ?_) (fun h=>Z ?_)
    ·refine AD h (fun h=>Z ?_) (fun h=>Z ?_)
     ·exact AW (LQ a2 (decide (a2=7)) _ h) [] []
     ·exact AW (LQ a2 (decide (a2=8)) _ h) [] []
    ·refine AD h (fun h=>Z ?_) (fun h=>Z ?_)
     ·refine AD h (fun h=>Z ?_) (fun h=>Z ?_)
      ·cases h
       simp only [go_sem]
      ·refine AF ?_
       cases h
       simp only [go_sem]
     ·refine AD h (fun h=>Z ?_) (fun h=>Z ?_)
      ·replace h:=AB h; obtain⟨u,w,h⟩:=h
       refine AH (QV _ _ w) (Z ?_)
       refine AF ?_
       refine AD h (fun h=>Z ?_) (fun h=>Z ?_)
       ·cases h
        simp only [go_sem]
       ·refine AF ?_
        cases h
        simp only [go_sem]
      ·refine AF ?_
       cases h
       simp only [go_sem]
theorem HM (a0:Int) (a1:Int) (a2:Int) (a3:Int) (u:Bool) (r:Int × Int) (h:FU a0 a1 a2 a3 u=some r):Al Tryz.prog Tryz.f203 [1,0,1] (.tup [.int .i64 r.1,.int .i64 r.2]) ⟨[(0,.int .i64 a0),(1,.int .i64 a1),(2,.int .i64 a2),(3,.int .i64 a3),(29,.bool u)],[],[]⟩:=by
 unfold FU at h
 refine AN rfl rfl (Z ?_)
 refine AD h (fun h=>Z ?_) (fun h=>Z ?_)
 ·cases h
  simp only [go_sem]
 ·refine AF ?_
  replace h:=AB h; obtain⟨w,y,h⟩:=h
  refine AH (Oo _ _ _ _ _ y) (Z ?_)
  refine AF ?_
  refine AD h (fun h=>Z ?_) (fun h=>Z ?_)
  ·cases h
   simp only [go_sem]
  ·refine AF ?_
   replace h:=AB h; obtain⟨q,g,h⟩:=h
   refine AH (Oo _ _ _ _ _ g) (Z ?_)
   refine AF ?_
   refine AD h (fun h=>Z ?_) (fun h=>Z ?_)
   ·cases h
    simp only [go_sem]
   ·refine AF ?_
    cases h
    simp only [go_sem]
theorem WH (a0 a1 a2 a3 r) (h:L8 a0 a1 a2 a3=some r):AC Tryz.prog 203 [.int .i64 a0,.int .i64 a1,.int .i64 a2,.int .i64 a3] (.tup [.int .i64 r.1,.int .i64 r.2]):=by
 unfold L8 at h
 refine acF Tryz.func203 mixed (h:=Z ?_)
 refine AD h (fun h=>Z ?_) (fun h=>Z ?_)
 ·exact AW (HM a0 a1 a2 a3 true _ h) [] []
 ·refine AD h (fun h=>Z ?_) (fun h=>Z ?_)
  ·exact AW (HM a0 a1 a2 a3 true _ h) [] []
  ·replace h:=AB h; obtain⟨u,w,h⟩:=h
   refine AH (HL _ _ _ w) (Z ?_)
   refine AD h (fun h=>Z ?_) (fun h=>Z ?_)
   ·exact AW (HM a0 a1 a2 a3 true _ h) [] []
   ·replace h:=AB h; obtain⟨y,q,h⟩:=h
    refine AH (HL _ _ _ q) (Z ?_)
    exact AW (HM a0 a1 a2 a3 (!y) _ h) [] []
theorem F5 (u:Int × Int) (w:Bool) (r:Int × Bool) (h:Db u w=some r):Al Tryz.prog Tryz.f160 [1,1,1,1,0,1] (.tup [.int .i64 r.1,.bool r.2]) ⟨[(8,.int .i64 u.1),(9,.int .i64 u.2),(56,.bool w)],[],[]⟩:=by
 unfold Db at h
 refine AN rfl rfl (Z ?_)
 refine AD h (fun h=>Z ?_) (fun h=>Z ?_)
 ·cases h
  simp only [go_sem]
 ·refine AF ?_
  cases h
  simp only [go_sem]
theorem IM (u:Int × Int) (w:Int) (y:Int) (q:Int) (g:List Int) (j:List Port) (k:Int) (b:Int) (d:Int) (c:List Int) (e:List Port) (r:Int × Bool) (h:Dc u w y q g j k b d c e=some r):Al Tryz.prog Tryz.f160 [1,1,1,1] (.tup [.int .i64 r.1,.bool r.2]) ⟨[(6,.box 1000000500 0),(7,.box 1000000501 0),(8,.int .i64 u.1),(9,.int .i64 u.2)],[],[(1000000500,some [.int .i64 w,.int .i64 y,.int .i64 q,.ro (List.map AO g),.ro (List.map Port.ds j)]),(1000000501,some [.int .i64 k,.int .i64 b,.int .i64 d,.ro (List.map AO c),.ro (List.map Port.ds e)])]⟩:=by
 unfold Dc at h
 refine AN rfl rfl (Z ?_)
 refine AD h (fun h=>Z ?_) (fun h=>Z ?_)
 ·refine AD h (fun h=>Z ?_) (fun h=>Z ?_)
  ·exact AW (F5 u (decide (((List.length c:Nat):Int)≤q)) _ h) [] []
  ·exact AW (F5 u false _ h) [] []
 ·exact AW (F5 u false _ h) [] []
theorem Kd (a0 a1 r) (h:EK a0 a1=some r):AC Tryz.prog 160 [.rop (Net.avs a0) 0,.agg (Pair.avs a1)] (.tup [.int .i64 r.1,.bool r.2]):=by
 unfold EK at h
 refine acF Tryz.func160 mixed (h:=Z ?_)
 refine aV [] [(16,18),(17,19)] .fin (by kernel_rfl) (Z ?_)
 replace h:=AB h; obtain⟨u,w,h⟩:=h
 refine AM w (Agent.ds_len _) (Z ?_)
 replace h:=AB h; obtain⟨y,q,h⟩:=h
 refine AM q (Agent.ds_len _) (Z ?_)
 refine Xx _ (by rfl) (by (first|(simp only [go_sem]; done)|(simp only [go_sem]; decide)|decide)) (by rfl) (Z ?_)
 refine Xx _ (by rfl) (by (first|(simp only [go_sem]; done)|(simp only [go_sem]; decide)|decide)) (by rfl) (Z ?_)
 refine eS (by refine⟨by rfl,by rfl,trivial⟩) (Z ?_)
 refine AF ?_
 replace h:=AB h; obtain⟨g,j,h⟩:=h
 refine AH (WH _ _ _ _ _ j) (Z ?_)
 refine AF ?_
 refine AD h (fun h=>Z ?_) (fun h=>Z ?_)
 ·exact AW (IM g y.kind y.level y.value y.data y.ports u.kind u.level u.value u.data u.ports _ h) [] [(1000000500,2016),(1000000501,2017)]
 ·exact AW (IM g u.kind u.level u.value u.data u.ports y.kind y.level y.value y.data y.ports _ h) [] [(1000000500,2016),(1000000501,2017)]
theorem Nv (n:Nat):(∀a0 u w r,Bd n a0 u w=some r→Al Tryz.prog Tryz.f89 [1,1,0,1,0] (.ow (some 2) (List.map Pair.ds r)) ⟨[(3,.own 1000000000),(10,.ro (List.map Agent.ds a0.agents)),(11,.int .i64 ((List.length a0.agents:Nat):Int)),(12,.int .i64 w)],[(1000000000,some ⟨List.map Pair.ds u,some 2,0,false⟩)],[]⟩)∧
    (∀a0 u w y q r,Be n a0 u w y q=some r→Al Tryz.prog Tryz.f89 [1,1,0,1,0,0,1,1,0,0,1,1,1] (.ow (some 2) (List.map Pair.ds r)) ⟨[(3,.own 1000001000),(4,.int .i64 w),(6,.box 1000001500 0),(10,.ro (List.map Agent.ds a0.agents)),(11,.int .i64 ((List.length a0.agents:Nat):Int)),(12,.int .i64 w),(34,.bool q)],[(1000001000,some ⟨List.map Pair.ds u,some 2,0,false⟩)],[(1000001500,some [.int .i64 y.agent,.int .i64 y.slot])]⟩):=by
 induction n with
 |zero=>exact⟨(fun _ _ _ _ h=>by rw [Bd] at h; cases h),(fun _ _ _ _ _ _ h=>by rw [Be] at h; cases h)⟩
 | succ n ih=>
  obtain⟨ih0,ih1⟩:=ih
  refine⟨?_,?_⟩
  ·intro a0 u w r h
   rw [Bd] at h
   refine AN rfl rfl (Z ?_)
   refine AX (Z ?_)
   refine AD h (fun h=>Z ?_) (fun h=>Z ?_)
   ·refine AF ?_
    replace h:=AB h; obtain⟨g,j,h⟩:=h
    refine AM j (Agent.ds_len _) (Z ?_)
    refine AF ?_
    replace h:=AB h; obtain⟨y,k,h⟩:=h
    refine AM k (Port.ds_len _) (Z ?_)
    refine AF ?_
    refine AD h (fun h=>Z ?_) (fun h=>Z ?_)
    ·refine AD h (fun h=>Z ?_) (fun h=>Z ?_)
     ·exact AW (ih1 a0 u w y (!decide (g.kind=1)) _ h) [(1000001000,1000000000)] [(1000001500,6004)]
     ·exact AW (ih1 a0 u w y false _ h) [(1000001000,1000000000)] [(1000001500,6004)]
    ·exact AW (ih1 a0 u w y false _ h) [(1000001000,1000000000)] [(1000001500,6004)]
   ·refine AF ?_
    cases h
    simp only [go_sem]
  ·intro a0 u w y q r h
   rw [Be] at h
   refine AN rfl rfl (Z ?_)
   refine AD h (fun h=>Z ?_) (fun h=>Z ?_)
   ·replace h:=AB h; obtain⟨b,d,h⟩:=h
    have hq_:=A5 d
    obtain⟨hv8006a,hv8006b⟩:=hq_
    refine Di false (Z ?_)
    refine BC (by refine⟨?_,?_⟩ <;> (try simp only [List.length_map,List.length_append,List.length_cons,List.length_nil] at*) <;> (try unfold maxLen) <;> omega) (Z ?_)
    refine An (List.map Pair.ds b) (by rw [← hv8006b]; simp only [List.map_append,List.map_cons,List.map_nil,List.nil_append,List.append_nil,go_sem,Pair.ds_eq]) (Z ?_)
    refine AF ?_
    exact lpF (ih0 a0 b (IntKind.i64.wrap (w+1)) _ h) [(1000000000,128096)] []
   ·refine AF ?_
    exact lpF (ih0 a0 u (IntKind.i64.wrap (w+1)) _ h) [(1000000000,1000001000)] []
theorem Oq (n:Nat):(∀a0 u w r,Bd n a0 u w=some r→Al Tryz.prog Tryz.f89 [1,1,0,1,0] (.ow (some 2) (List.map Pair.ds r)) ⟨[(3,.own 1000000000),(10,.ro (List.map Agent.ds a0.agents)),(11,.int .i64 ((List.length a0.agents:Nat):Int)),(12,.int .i64 w)],[(1000000000,some ⟨List.map Pair.ds u,some 2,0,false⟩)],[]⟩):=(Nv n).1
theorem JO (a0 r) (h:Ek a0=some r):AC Tryz.prog 89 [.rop (Net.avs a0) 0] (.ow (some 2) (List.map Pair.ds r)):=by
 unfold Ek at h
 refine acF Tryz.func89 mixed (h:=Z ?_)
 refine Ch (DK rfl rfl (Oq fuel a0 [] 0 _ h):) (.one ⟨_,.slot 3 2000000000 (some 2) false (by simp only [go_sem]) (by simp only [go_sem]) (.done _),[(1000000000,2000000000)],[],?_⟩)
 simp only [go_sem]
 all_goals try rfl
theorem HR (a0 r) (h:Cl a0=some r):AC Tryz.prog 221 [.ro (List.map Port.ds a0)] (.ow (some 2) (List.map Port.ds r)):=by
 unfold Cl at h
 refine acF Tryz.func221 mixed (h:=Z ?_)
 refine bF (by simp only [go_sem]) (fun h0=>?_) ?_
 ·try simp only [go_sem]
  have hq_:=List.map_eq_nil_iff.1 h0
  obtain rfl:=hq_
  obtain rfl:r=[] :=by cases h; rfl
  simp only [go_sem]
 ·try simp only [go_sem]
  refine AF ?_
  replace h:=AB h; obtain⟨u,w,h⟩:=h
  have hq_:=A5 w
  obtain⟨hv4002a,hv4002b⟩:=hq_
  refine Di false (Z ?_)
  refine BC (G0 (by intro x; exact⟨(Port.ds_len _),by simp [Port.ds_eq,D.flat]⟩) _) (Z ?_)
  refine BC (by refine⟨?_,?_⟩ <;> (try simp only [List.length_map,List.length_append,List.length_cons,List.length_nil] at*) <;> (try unfold maxLen) <;> omega) (Z ?_)
  refine An (List.map Port.ds u) (by rw [← hv4002b]; simp only [List.map_append,List.map_cons,List.map_nil,List.nil_append,List.append_nil,go_sem,Port.ds_eq]) (Z ?_)
  refine AF ?_
  cases h
  simp only [go_sem]
theorem IN (a0 r) (h:Dd a0=some r):AG Tryz.prog 115 [.ro (List.map AO a0)] [] [] (.ro (List.map AO r)) [] [] :=by
 unfold Dd at h
 refine agF Tryz.func115 mixed (h:=Z ?_)
 refine bF (by simp only [go_sem]) (fun h0=>?_) ?_
 ·try simp only [go_sem]
  have hq_:=List.map_eq_nil_iff.1 h0
  obtain rfl:=hq_
  obtain rfl:r=[] :=by cases h; rfl
  simp only [go_sem]
  refine A7 (.frzN [(0,[])] [] _ _ (by (first|rfl|(simp only [go_sem]; rfl))) (by (first|rfl|(simp only [go_sem]; rfl))) (.done _)) [] [] ?_
  simp only [go_sem]
  all_goals try rfl
 ·try simp only [go_sem]
  refine AF ?_
  replace h:=AB h; obtain⟨u,w,h⟩:=h
  have hq_:=A5 w
  obtain⟨hv4002a,hv4002b⟩:=hq_
  refine Di false (Z ?_)
  refine BC (G0 (by intro x; exact⟨rfl,by simp [go_sem,D.flat]⟩) _) (Z ?_)
  refine BC (by refine⟨?_,?_⟩ <;> (try simp only [List.length_map,List.length_append,List.length_cons,List.length_nil] at*) <;> (try unfold maxLen) <;> omega) (Z ?_)
  refine An (List.map AO u) (by rw [← hv4002b]; simp only [List.map_append,List.map_cons,List.map_nil,List.nil_append,List.append_nil,go_sem,slD]) (Z ?_)
  refine AF ?_
  cases h
  refine A7 (.frzT 64032 [(0,[])] [] _ _ _ (by (first|rfl|(simp only [go_sem]; rfl))) (by decide) (by (first|rfl|(simp only [go_sem]; rfl))) (by (first|rfl|(simp only [go_sem]; rfl))) (.done _)) [] [] ?_
  simp only [go_sem]
  all_goals try rfl
theorem Hi (a0 r) (h:i_copyAgent_z a0=some r):AG Tryz.prog 186 [.agg [.int .i64 a0.kind,.int .i64 a0.level,.int .i64 a0.value,.ro (List.map AO a0.data),.ro (List.map Port.ds a0.ports)]] [] [] (.agg [.int .i64 r.kind,.int .i64 r.level,.int .i64 r.value,.ro (List.map AO r.data),.own 1501]) [(1501,⟨List.map Port.ds r.ports,some 2,0,false⟩)] [] :=by
 unfold i_copyAgent_z at h
 refine agF Tryz.func186 mixed (h:=Z ?_)
 refine AF ?_
 refine AY [false,false,false,false,false,false,false,true,true,true] (Tr.sq [7,8,9] .fin) (by kernel_rfl) (Z ?_)
 replace h:=AB h; obtain⟨u,w,h⟩:=h
 refine bE (IN _ _ w) (by (first|rfl|(simp only [go_sem]; rfl))) (by first|rfl|(simp only [go_sem])) (Z ?_)
 replace h:=AB h; obtain⟨y,q,h⟩:=h
 refine AH (HR _ _ q) (Z ?_)
 refine AF ?_
 cases h
 refine A7 (.done _) [(1501,32080)] [] ?_
 simp only [go_sem]
theorem Ot (n:Nat):(∀a0 u w r,Dl n a0 u w=some r→DA Tryz.prog Tryz.f117 [1,1,0,1,0] (.agg [.own 1501]) [(1501,⟨List.map Agent.dm r.agents,some 5,0,true⟩)] [] ⟨[(2,.box 1000001500 0),(3,.box 1000001501 0),(12,.ro (List.map Agent.ds a0.agents)),(13,.int .i64 ((List.length a0.agents:Nat):Int)),(14,.int .i64 w)],[(1000001000,some ⟨List.map Agent.dm u,some 5,0,true⟩)],[(1000001500,some [.nils]),(1000001501,some [.own 1000001000])]⟩):=by
 induction n with
 |zero=>exact((fun _ _ _ _ h=>by rw [Dl] at h; cases h))
 | succ n ih=>
  have ih0:=ih
  ·intro a0 u w r h
   rw [Dl] at h
   refine Av rfl rfl (Z ?_)
   refine AX (Z ?_)
   refine AD h (fun h=>Z ?_) (fun h=>Z ?_)
   ·refine AF ?_
    replace h:=AB h; obtain⟨y,q,h⟩:=h
    refine AM q (Agent.ds_len _) (Z ?_)
    refine AF ?_
    replace h:=AB h; obtain⟨g,j,h⟩:=h
    replace h:=AB h; obtain⟨k,b,h⟩:=h
    refine AY [false,true,true,true,true,true,true,true] (.br 1 (Tr.sq [2,3,4,5,6,7] .fin) (.br 2 (.br 1 (Tr.sq [3,4,5,6,7] .fin) (.br 3 (.br 1 (Tr.sq [4,5,6,7] .fin) (.br 4 (Tr.sq [1,5,6,7] .fin) .stop)) .stop)) .stop)) (by kernel_rfl) ?_
    try simp only [go_sem]
    try simp only [go_sem]
    refine BW ?_ ?_
    ·try simp only [go_sem]
     refine caG ⟨[],[],[],[(1501,96048)],[],true⟩ (Hi _ _ j) (Z ?_)
     have hq_:=A5 b
     obtain⟨hv6005a,hv6005b⟩:=hq_
     refine Di true (Z ?_)
     refine BC (by refine⟨?_,?_⟩ <;> (try simp only [List.length_map,List.length_append,List.length_cons,List.length_nil] at*) <;> (try unfold maxLen) <;> omega) (Z ?_)
     refine An (List.map Agent.dm k) (by rw [← hv6005b]; simp only [List.map_append,List.map_cons,List.map_nil,List.nil_append,List.append_nil,go_sem,Agent.ds_eq,Agent.dm_eq]) (Z ?_)
     refine AF ?_
     exact lpG (ih0 a0 k (IntKind.i64.wrap (w+1)) _ h) [(1000001000,96080)] [(1000001500,1000001500),(1000001501,1000001501)]
    ·try simp only [go_sem]
     try simp only [go_sem]
     refine BW (Z ?_) (Z ?_)
     ·refine caG ⟨[],[],[],[(1501,96048)],[],true⟩ (Hi _ _ j) (Z ?_)
      have hq_:=A5 b
      obtain⟨hv6005a,hv6005b⟩:=hq_
      refine Di true (Z ?_)
      refine BC (by refine⟨?_,?_⟩ <;> (try simp only [List.length_map,List.length_append,List.length_cons,List.length_nil] at*) <;> (try unfold maxLen) <;> omega) (Z ?_)
      refine An (List.map Agent.dm k) (by rw [← hv6005b]; simp only [List.map_append,List.map_cons,List.map_nil,List.nil_append,List.append_nil,go_sem,Agent.ds_eq,Agent.dm_eq]) (Z ?_)
      refine AF ?_
      exact lpG (ih0 a0 k (IntKind.i64.wrap (w+1)) _ h) [(1000001000,96080)] [(1000001500,1000001500),(1000001501,1000001501)]
     ·refine caG ⟨[],[],[],[(1501,96048)],[],true⟩ (Hi _ _ j) ?_
      try simp only [go_sem]
      try simp only [go_sem]
      refine BW (Z ?_) (Z ?_)
      ·have hq_:=A5 b
       obtain⟨hv6005a,hv6005b⟩:=hq_
       refine Di true (Z ?_)
       refine BC (by refine⟨?_,?_⟩ <;> (try simp only [List.length_map,List.length_append,List.length_cons,List.length_nil] at*) <;> (try unfold maxLen) <;> omega) (Z ?_)
       refine An (List.map Agent.dm k) (by rw [← hv6005b]; simp only [List.map_append,List.map_cons,List.map_nil,List.nil_append,List.append_nil,go_sem,Agent.ds_eq,Agent.dm_eq]) (Z ?_)
       refine AF ?_
       exact lpG (ih0 a0 k (IntKind.i64.wrap (w+1)) _ h) [(1000001000,96080)] [(1000001500,1000001500),(1000001501,1000001501)]
      ·have hq_:=A5 b
       obtain⟨hv6005a,hv6005b⟩:=hq_
       refine Di true (Z ?_)
       refine BC (by refine⟨?_,?_⟩ <;> (try simp only [List.length_map,List.length_append,List.length_cons,List.length_nil] at*) <;> (try unfold maxLen) <;> omega) (Z ?_)
       refine An (List.map Agent.dm k) (by rw [← hv6005b]; simp only [List.map_append,List.map_cons,List.map_nil,List.nil_append,List.append_nil,go_sem,Agent.ds_eq,Agent.dm_eq]) (Z ?_)
       refine AF ?_
       exact lpG (ih0 a0 k (IntKind.i64.wrap (w+1)) _ h) [(1000001000,96080)] [(1000001500,1000001500),(1000001501,1000001501)]
   ·refine AF ?_
    cases h
    refine A7 (.done _) [(1501,1000001000)] [] ?_
    simp only [go_sem]
theorem R9 (a0 r) (h:Hw a0=some r):AG Tryz.prog 117 [.agg [.ro (List.map Agent.ds a0.agents)]] [] [] (.agg [.own 1501]) [(1501,⟨List.map Agent.dm r.agents,some 5,0,true⟩)] [] :=by
 unfold Hw at h
 refine agF Tryz.func117 mixed (h:=Z ?_)
 refine AF ?_
 replace h:=AB h; obtain⟨u,w,h⟩:=h
 have hq_:=Gz w
 obtain⟨hv2003a,hv2003b,hv2003c⟩:=hq_
 refine BC (by unfold leX; omega) (Z ?_)
 refine BC (by refine⟨?_,?_,?_⟩ <;> omega) (Z ?_)
 refine An [] (by rfl) (Z ?_)
 refine AF ?_
 exact loG (Ot fuel a0 [] 0 _ h) [(1000001000,32048)] [(1000001500,1001),(1000001501,2005)]
theorem Ke (a0 a1 r) (h:FC a0 a1=some r):AG Tryz.prog 80 [.ro (List.map Net.ds a0),.agg [.ro (List.map Agent.ds a1.agents)]] [] [] (.box 1601 0) [(1501,⟨List.map Agent.dm r.net.agents,some 5,0,true⟩)] [(1601,[.own 1501,.ro (List.map Net.ds r.book),.mpr 1602]),(1602,[.mpc (.int .i64) (List.map prB r.removed)])] :=by
 unfold FC at h
 refine agF Tryz.func80 mixed (h:=Z ?_)
 replace h:=AB h; obtain⟨u,w,h⟩:=h
 refine caG ⟨[],[],[],[(1501,32016)],[],true⟩ (R9 _ _ w) (Z ?_)
 refine AF ?_
 cases h
 refine A7 (.done _) [(1501,32016)] [(1601,2005),(1602,2003)] ?_
 simp only [go_sem]
theorem FI (a0 a1 a2 r) (h:CO a0 a1 a2=some r):AG Tryz.prog 198 [.box 1 0,.agg [.int .i64 a1.agent,.int .i64 a1.slot],.agg [.int .i64 a2.agent,.int .i64 a2.slot]] [(1001,⟨List.map Agent.dm a0.agents,some 5,0,true⟩)] [(1,[.own 1001])] (.tup []) [(1501,⟨List.map Agent.dm r.agents,some 5,0,true⟩)] [(1,[.own 1501])] :=by
 unfold CO at h
 refine agF Tryz.func198 mixed (h:=Z ?_)
 refine AY [false,false,false,false,false,false,false,false,false,false,false,false,false,true] (Tr.sq [13] .fin) (by kernel_rfl) (Z ?_)
 replace h:=AB h; obtain⟨u,w,h⟩:=h
 refine AM w (Agent.dm_len _) (Z ?_)
 refine AZ (AP w) (Z ?_)
 replace h:=AB h; obtain⟨y,q,h⟩:=h
 refine AZ (DJ (sz:=5) (j:=4) (r:=List.map Port.ds u.ports) (AP (f:=Agent.dm) w) (Agent.dm_len _) (by rw [Agent.dm_eq]; rfl)) (Z ?_)
 refine AM q (Port.ds_len _) (Z ?_)
 replace h:=AB h; obtain⟨g,k,h⟩:=h
 replace h:=AB h; obtain⟨b,d,h⟩:=h
 refine AZ (DJ (sz:=5) (j:=4) (r:=List.map Port.ds u.ports) (AP (f:=Agent.dm) w) (Agent.dm_len _) (by rw [Agent.dm_eq]; rfl)) (Z ?_)
 refine AZ (AP q) (Z ?_)
 try refine BC ⟨List.cons_ne_nil _ _,by rfl,by decide,by rfl⟩ ?_
 try simp only [go_sem]
 refine An (List.map Agent.dm b) ((GT (AP (f:=Agent.dm) w) (d':=.sl (List.map Port.ds u.ports)) (by simp only [go_sem,Agent.ds_eq,Agent.dm_eq])).trans (by rw [← Ao d,← Ao k]; simp only [List.map_set,List.set_cons_succ,List.set_cons_zero,go_sem,Agent.ds_eq,Agent.dm_eq,Port.ds_eq])) (Z ?_)
 refine AF ?_
 refine AY [false,false,false,false,false,false,false,false,false,false,false,false,false,true] (Tr.sq [13] .fin) (by kernel_rfl) (Z ?_)
 replace h:=AB h; obtain⟨c,e,h⟩:=h
 refine AM e (Agent.dm_len _) (Z ?_)
 refine AZ (AP e) (Z ?_)
 replace h:=AB h; obtain⟨i,l,h⟩:=h
 refine AZ (DJ (sz:=5) (j:=4) (r:=List.map Port.ds c.ports) (AP (f:=Agent.dm) e) (Agent.dm_len _) (by rw [Agent.dm_eq]; rfl)) (Z ?_)
 refine AM l (Port.ds_len _) (Z ?_)
 replace h:=AB h; obtain⟨t,s,h⟩:=h
 replace h:=AB h; obtain⟨o,z,h⟩:=h
 refine AZ (DJ (sz:=5) (j:=4) (r:=List.map Port.ds c.ports) (AP (f:=Agent.dm) e) (Agent.dm_len _) (by rw [Agent.dm_eq]; rfl)) (Z ?_)
 refine AZ (AP l) (Z ?_)
 try refine BC ⟨List.cons_ne_nil _ _,by rfl,by decide,by rfl⟩ ?_
 try simp only [go_sem]
 refine An (List.map Agent.dm o) ((GT (AP (f:=Agent.dm) e) (d':=.sl (List.map Port.ds c.ports)) (by simp only [go_sem,Agent.ds_eq,Agent.dm_eq])).trans (by rw [← Ao z,← Ao s]; simp only [List.map_set,List.set_cons_succ,List.set_cons_zero,go_sem,Agent.ds_eq,Agent.dm_eq,Port.ds_eq])) (Z ?_)
 cases h
 refine A7 (.done _) [(1501,1001)] [(1,1)] ?_
 simp only [go_sem]
theorem JP (a0 a1 a2 r) (h:B9 a0 a1 a2=some r):AG Tryz.prog 140 [.box 1 0,.agg [.int .i64 a1.agent,.int .i64 a1.slot],.agg [.int .i64 a2.agent,.int .i64 a2.slot]] [(1001,⟨List.map Agent.dm a0.net.agents,some 5,0,true⟩)] [(2,[.mpc (.int .i64) (List.map prB a0.removed)]),(1,[.own 1001,.ro (List.map Net.ds a0.book),.mpr 2])] (.tup []) [(1501,⟨List.map Agent.dm r.net.agents,some 5,0,true⟩)] [(1,[.own 1501,.ro (List.map Net.ds a0.book),.mpr 2]),(2,[.mpc (.int .i64) (List.map prB r.removed)])] :=by
 unfold B9 at h
 refine agF Tryz.func140 mixed (h:=Z ?_)
 refine AY [false,false,false,false,false,false,false,false,false,false,false,false,true,true] (Tr.sq [12,13] .fin) (by kernel_rfl) (Z ?_)
 replace h:=AB h; obtain⟨u,w,h⟩:=h
 refine AH (Nk (FJ _ _ _ w) (.cons (.rop rfl) (.cons (.refl _) .nil))) (Z ?_)
 replace h:=AB h; obtain⟨y,q,h⟩:=h
 refine AH (Nk (FJ _ _ _ q) (.cons (.rop rfl) (.cons (.refl _) .nil))) (Z ?_)
 refine AF ?_
 refine AD h (fun h=>Z ?_) (fun h=>Z ?_)
 ·refine AY [false,false,false,false,false,true] (Tr.sq [5] .fin) (by kernel_rfl) (Z ?_)
  replace h:=AB h; obtain⟨g,j,h⟩:=h
  refine caG ⟨[],[(1001,1001)],[(1,1,0)],[(1501,64080)],[],true⟩ (FI _ _ _ _ j) (Z ?_)
  cases h
  refine A7 (.done _) [(1501,64080)] [(2,2),(1,1)] ?_
  simp only [go_sem]
 ·cases h
  refine A7 (.done _) [(1501,1001)] [(2,2),(1,1)] ?_
  simp only [go_sem]
theorem Ar (a0 a1 a2 r) (h:AU a0 a1 a2=some r):AG Tryz.prog 142 [.box 1 0,.agg [.int .i64 a1.agent,.int .i64 a1.slot],.agg [.int .i64 a2.agent,.int .i64 a2.slot]] [(1001,⟨List.map Agent.dm a0.net.agents,some 5,0,true⟩)] [(2,[.mpc (.int .i64) (List.map prB a0.removed)]),(1,[.own 1001,.ro (List.map Net.ds a0.book),.mpr 2])] (.tup []) [(1501,⟨List.map Agent.dm r.net.agents,some 5,0,true⟩)] [(1,[.own 1501,.ro (List.map Net.ds a0.book),.mpr 2]),(2,[.mpc (.int .i64) (List.map prB r.removed)])] :=by
 unfold AU at h
 refine agF Tryz.func142 mixed (h:=Z ?_)
 refine AY [false,false,false,false,false,false,false,false,false,true] (Tr.sq [9] .fin) (by kernel_rfl) (Z ?_)
 replace h:=AB h; obtain⟨u,w,h⟩:=h
 refine AH (Nk (FJ _ _ _ w) (.cons (.rop rfl) (.cons (.refl _) .nil))) (Z ?_)
 replace h:=AB h; obtain⟨y,q,h⟩:=h
 refine caG ⟨[],[(1001,1001)],[(1,1,0)],[(1501,32144)],[],true⟩ (FI _ _ _ _ q) (Z ?_)
 cases h
 refine A7 (.done _) [(1501,32144)] [(2,2),(1,1)] ?_
 simp only [go_sem]
theorem Kf (n:Nat):(∀a0 a1 u w r,A0 n a0 a1 u w=some r→DA Tryz.prog Tryz.f147 [1,0] (.tup []) [(1501,⟨List.map Agent.dm r.net.agents,some 5,0,true⟩)] [(1,[.own 1501,.ro (List.map Net.ds a0.book),.mpr 2]),(2,[.mpc (.int .i64) (List.map prB r.removed)])] ⟨[(0,.box 1 0),(6,.ro (List.map AO a1)),(7,.int .i64 ((List.length a1:Nat):Int)),(8,.int .i64 w)],[(1000000000,some ⟨List.map Agent.dm a0.net.agents,some 5,0,true⟩)],[(2,some [.mpc (.int .i64) (List.map prB u)]),(1,some [.own 1000000000,.ro (List.map Net.ds a0.book),.mpr 2])]⟩):=by
 induction n with
 |zero=>exact((fun _ _ _ _ _ h=>by rw [A0] at h; cases h))
 | succ n ih=>
  have ih0:=ih
  ·intro a0 a1 u w r h
   rw [A0] at h
   refine Av rfl rfl (Z ?_)
   refine AX (Z ?_)
   refine AD h (fun h=>Z ?_) (fun h=>Z ?_)
   ·refine AF ?_
    replace h:=AB h; obtain⟨y,q,h⟩:=h
    refine AM q rfl (Z ?_)
    replace h:=AB h; obtain⟨g,j,h⟩:=h
    have hq_:=TV j
    obtain⟨hv4005_6a,hv4005_6b⟩:=hq_
    refine BC (by first|exact hv4005_6a|(rw [List.length_map]; exact hv4005_6a)) (Z ?_)
    refine An (List.map prB g) (by rw [← hv4005_6b]; exact bJ) (Z ?_)
    refine AF ?_
    exact lpG (ih0 a0 a1 g (IntKind.i64.wrap (w+1)) _ h) [(1000000000,1000000000)] [(2,2),(1,1)]
   ·cases h
    refine A7 (.done _) [(1501,1000000000)] [(2,2),(1,1)] ?_
    simp only [go_sem]
theorem IA (a0 a1 r) (h:BN a0 a1=some r):AG Tryz.prog 147 [.box 1 0,.ro (List.map AO a1)] [(1001,⟨List.map Agent.dm a0.net.agents,some 5,0,true⟩)] [(2,[.mpc (.int .i64) (List.map prB a0.removed)]),(1,[.own 1001,.ro (List.map Net.ds a0.book),.mpr 2])] (.tup []) [(1501,⟨List.map Agent.dm r.net.agents,some 5,0,true⟩)] [(1,[.own 1501,.ro (List.map Net.ds a0.book),.mpr 2]),(2,[.mpc (.int .i64) (List.map prB r.removed)])] :=by
 unfold BN at h
 refine agF Tryz.func147 mixed (h:=Z ?_)
 exact loG (Kf fuel a0 a1 a0.removed 0 _ h) [(1000000000,1001)] [(2,2),(1,1)]
theorem M2 (a0 r) (h:EZ a0=some r):AG Tryz.prog 138 [.box 1 0] [(1001,⟨List.map Agent.dm a0.net.agents,some 5,0,true⟩)] [(2,[.mpc (.int .i64) (List.map prB a0.removed)]),(1,[.own 1001,.ro (List.map Net.ds a0.book),.mpr 2])] (.int .i64 r) [(1501,⟨List.map Agent.dm a0.net.agents,some 5,0,true⟩)] [(1,[.own 1501,.ro (List.map Net.ds a0.book),.mpr 2]),(2,[.mpc (.int .i64) (List.map prB a0.removed)])] :=by
 unfold EZ at h
 refine agF Tryz.func138 mixed (h:=Z ?_)
 refine AY [] .fin (by kernel_rfl) (Z ?_)
 refine AF ?_
 cases h
 refine A7 (.done _) [(1501,1001)] [(2,2),(1,1)] ?_
 simp only [go_sem]
theorem Ou (a0 r) (h:FV a0=some r):AC Tryz.prog 115 [.ro (List.map AO a0)] (.ow (some 1) (List.map AO r)):=by
 unfold FV at h
 refine acF Tryz.func115 mixed (h:=Z ?_)
 refine bF (by simp only [go_sem]) (fun h0=>?_) ?_
 ·try simp only [go_sem]
  have hq_:=List.map_eq_nil_iff.1 h0
  obtain rfl:=hq_
  obtain rfl:r=[] :=by cases h; rfl
  simp only [go_sem]
 ·try simp only [go_sem]
  refine AF ?_
  replace h:=AB h; obtain⟨u,w,h⟩:=h
  have hq_:=A5 w
  obtain⟨hv4002a,hv4002b⟩:=hq_
  refine Di false (Z ?_)
  refine BC (G0 (by intro x; exact⟨rfl,by simp [go_sem,D.flat]⟩) _) (Z ?_)
  refine BC (by refine⟨?_,?_⟩ <;> (try simp only [List.length_map,List.length_append,List.length_cons,List.length_nil] at*) <;> (try unfold maxLen) <;> omega) (Z ?_)
  refine An (List.map AO u) (by rw [← hv4002b]; simp only [List.map_append,List.map_cons,List.map_nil,List.nil_append,List.append_nil,go_sem,slD]) (Z ?_)
  refine AF ?_
  cases h
  simp only [go_sem]
theorem MN (a0 r) (h:i_copyAgent a0=some r):AC Tryz.prog 186 [.agg (Agent.avs a0)] (.agg (Agent.rv r)):=by
 unfold i_copyAgent at h
 refine acF Tryz.func186 mixed (h:=Z ?_)
 refine AF ?_
 refine AY [false,false,false,false,false,false,false,true,true,true] (Tr.sq [7,8,9] .fin) (by kernel_rfl) (Z ?_)
 replace h:=AB h; obtain⟨u,w,h⟩:=h
 refine AH (Ou _ _ w) (Z ?_)
 replace h:=AB h; obtain⟨y,q,h⟩:=h
 refine AH (HR _ _ q) (Z ?_)
 refine AF ?_
 cases h
 simp only [go_sem]
theorem LH (n:Nat):(∀a0 a1 u w y r,As n a0 a1 u w y=some r→Al Tryz.prog Tryz.f148 [1,1,1,1,0,1,0] (.agg (Net.rv r)) ⟨[(0,.rop [.ro (List.map Agent.ds a0.agents)] 0),(4,.box 1000007500 0),(5,.mpr 1000007501),(8,.box 1000007502 0),(25,.ro (List.map AO a1)),(26,.int .i64 ((List.length a1:Nat):Int)),(27,.int .i64 y)],[(1000007000,some ⟨List.map Agent.ds w,some 5,0,false⟩)],[(1000007500,some [.nils]),(1000007501,some [.mpc (.int .i64) (List.map prI u)]),(1000007502,some [.own 1000007000])]⟩)∧
    (∀a0 a1 u w y q g j r,Bf n a0 a1 u w y q g j=some r→Al Tryz.prog Tryz.f148 [1,1,1,1,0,1,0,0,1,1,0,0,1,1,0,1,0] (.agg (Net.rv r)) ⟨[(0,.rop [.ro (List.map Agent.ds a0.agents)] 0),(4,.box 1000011500 0),(5,.mpr 1000011501),(8,.box 1000011502 0),(11,.box 1000011503 0),(25,.ro (List.map AO a1)),(26,.int .i64 ((List.length a1:Nat):Int)),(27,.int .i64 y),(41,.int .i64 ((List.length q.ports:Nat):Int)),(42,.int .i64 j)],[(1000011000,some ⟨List.map Agent.ds w,some 5,0,false⟩),(1000011001,some ⟨List.map AO q.data,some 1,0,false⟩),(1000011002,some ⟨List.map Port.ds g,some 2,0,false⟩)],[(1000011500,some [.nils]),(1000011501,some [.mpc (.int .i64) (List.map prI u)]),(1000011502,some [.own 1000011000]),(1000011503,some [.int .i64 q.kind,.int .i64 q.level,.int .i64 q.value,.own 1000011001,.own 1000011002])]⟩):=by
 induction n with
 |zero=>exact⟨(fun _ _ _ _ _ _ h=>by rw [As] at h; cases h),(fun _ _ _ _ _ _ _ _ _ h=>by rw [Bf] at h; cases h)⟩
 | succ n ih=>
  obtain⟨ih0,ih1⟩:=ih
  refine⟨?_,?_⟩
  ·intro a0 a1 u w y r h
   rw [As] at h
   refine AN rfl rfl (Z ?_)
   refine AX (Z ?_)
   refine AD h (fun h=>Z ?_) (fun h=>Z ?_)
   ·refine AF ?_
    replace h:=AB h; obtain⟨k,b,h⟩:=h
    refine AM b rfl (Z ?_)
    replace h:=AB h; obtain⟨d,c,h⟩:=h
    refine AM c (Agent.ds_len _) (Z ?_)
    replace h:=AB h; obtain⟨q,e,h⟩:=h
    refine AH (MN _ _ e) (Z ?_)
    refine AF ?_
    exact loF (ih1 a0 a1 u w y q q.ports 0 _ h) [(1000011000,1000007000),(1000011001,192112),(1000011002,192113)] [(1000011500,1000007500),(1000011501,1000007501),(1000011502,1000007502),(1000011503,12008)]
   ·refine AF ?_
    cases h
    simp only [go_sem]
  ·intro a0 a1 u w y q g j r h
   rw [Bf] at h
   refine AN rfl rfl (Z ?_)
   refine AX (Z ?_)
   refine AD h (fun h=>Z ?_) (fun h=>Z ?_)
   ·refine AF ?_
    refine AY [false,false,false,false,false,false,false,false,false,false,false,false,false,true] (Tr.sq [13] .fin) (by kernel_rfl) (Z ?_)
    replace h:=AB h; obtain⟨i,l,h⟩:=h
    refine AM l (Port.ds_len _) (Z ?_)
    refine AZ (AP l) (Z ?_)
    replace h:=AB h; obtain⟨t,s,h⟩:=h
    refine AM s (Port.ds_len _) (Z ?_)
    replace h:=AB h; obtain⟨o,z,h⟩:=h
    refine AZ (AP s) (Z ?_)
    refine An (List.map Port.ds o) (by rw [← Ao z]; simp only [List.map_set,go_sem,Port.ds_eq]) (Z ?_)
    refine AF ?_
    exact lpF (ih1 a0 a1 u w y q o (IntKind.i64.wrap (j+1)) _ h) [(1000011000,1000011000),(1000011001,1000011001),(1000011002,1000011002)] [(1000011500,1000011500),(1000011501,1000011501),(1000011502,1000011502),(1000011503,1000011503)]
   ·refine AF ?_
    replace h:=AB h; obtain⟨u1,u2,h⟩:=h
    have hq_:=A5 u2
    obtain⟨hv18004a,hv18004b⟩:=hq_
    refine Di false (Z ?_)
    refine BC (by refine⟨?_,?_⟩ <;> (try simp only [List.length_map,List.length_append,List.length_cons,List.length_nil] at*) <;> (try unfold maxLen) <;> omega) (Z ?_)
    refine An (List.map Agent.ds u1) (by rw [← hv18004b]; simp only [List.map_append,List.map_cons,List.map_nil,List.nil_append,List.append_nil,go_sem,Agent.ds_eq]) (Z ?_)
    refine AF ?_
    exact lpF (ih0 a0 a1 u u1 (IntKind.i64.wrap (y+1)) _ h) [(1000007000,288064)] [(1000007500,1000011500),(1000007501,1000011501),(1000007502,1000011502)]
theorem LY (n:Nat):(∀a0 a1 u w y r,As n a0 a1 u w y=some r→Al Tryz.prog Tryz.f148 [1,1,1,1,0,1,0] (.agg (Net.rv r)) ⟨[(0,.rop [.ro (List.map Agent.ds a0.agents)] 0),(4,.box 1000007500 0),(5,.mpr 1000007501),(8,.box 1000007502 0),(25,.ro (List.map AO a1)),(26,.int .i64 ((List.length a1:Nat):Int)),(27,.int .i64 y)],[(1000007000,some ⟨List.map Agent.ds w,some 5,0,false⟩)],[(1000007500,some [.nils]),(1000007501,some [.mpc (.int .i64) (List.map prI u)]),(1000007502,some [.own 1000007000])]⟩):=(LH n).1
theorem MO (n:Nat):(∀a0 a1 u w r,Bp n a0 a1 u w=some r→Al Tryz.prog Tryz.f148 [1,1,0,1,0] (.agg (Net.rv r)) ⟨[(0,.rop [.ro (List.map Agent.ds a0.agents)] 0),(1,.ro (List.map AO a1)),(4,.box 1000001500 0),(5,.mpr 1000001501),(14,.ro (List.map AO a1)),(15,.int .i64 ((List.length a1:Nat):Int)),(16,.int .i64 w)],[],[(1000001500,some [.nils]),(1000001501,some [.mpc (.int .i64) (List.map prI u)])]⟩):=by
 induction n with
 |zero=>exact((fun _ _ _ _ _ h=>by rw [Bp] at h; cases h))
 | succ n ih=>
  have ih0:=ih
  ·intro a0 a1 u w r h
   rw [Bp] at h
   refine AN rfl rfl (Z ?_)
   refine AX (Z ?_)
   refine AD h (fun h=>Z ?_) (fun h=>Z ?_)
   ·refine AF ?_
    replace h:=AB h; obtain⟨y,q,h⟩:=h
    refine AM q rfl (Z ?_)
    replace h:=AB h; obtain⟨g,j,h⟩:=h
    have hq_:=TV j
    obtain⟨hv6003_12a,hv6003_12b⟩:=hq_
    refine BC (by first|exact hv6003_12a|(rw [List.length_map]; exact hv6003_12a)) (Z ?_)
    refine An (List.map prI g) (by rw [← hv6003_12b]; exact bK) (Z ?_)
    refine AF ?_
    exact lpF (ih0 a0 a1 g (IntKind.i64.wrap (w+1)) _ h) [] [(1000001500,1000001500),(1000001501,1000001501)]
   ·refine AF ?_
    refine AF ?_
    refine Ch (DK rfl rfl (LY fuel a0 a1 u [] 0 _ h):) (.one ⟨_,.cell 8000 0 2000000000 (some 5) false _ (by simp only [go_sem]; rfl) (by rfl) (by simp only [go_sem]) (.done _),[(1000007000,2000000000)],[(1000007500,1000001500),(1000007501,1000001501),(1000007502,8000)],?_⟩)
    simp only [go_sem]
    all_goals try rfl
theorem Ov (a0 a1 r) (h:Ea a0 a1=some r):AC Tryz.prog 148 [.rop (Net.avs a0) 0,.ro (List.map AO a1)] (.agg (Net.rv r)):=by
 unfold Ea at h
 refine acF Tryz.func148 mixed (h:=Z ?_)
 refine AF ?_
 exact loF (MO fuel a0 a1 [] 0 _ h) [] [(1000001500,1000),(1000001501,2000)]
theorem Kg (n:Nat):(∀a0 u w r,BD n a0 u w=some r→DA Tryz.prog Tryz.f82 [1,1,0,1,0] (.agg [.own 1501]) [(1501,⟨List.map Agent.ds r.agents,some 5,0,false⟩),(1502,⟨List.map Agent.dm a0.net.agents,some 5,0,true⟩)] [(1,[.own 1502,.ro (List.map Net.ds a0.book),.mpr 2]),(2,[.mpc (.int .i64) (List.map prB a0.removed)])] ⟨[(0,.box 1 0),(2,.box 1000001500 0),(3,.own 1000001001),(10,.int .i64 ((List.length a0.net.agents:Nat):Int)),(11,.int .i64 w)],[(1000001000,some ⟨List.map Agent.dm a0.net.agents,some 5,0,true⟩),(1000001001,some ⟨List.map AO u,some 1,0,false⟩)],[(2,some [.mpc (.int .i64) (List.map prB a0.removed)]),(1,some [.own 1000001000,.ro (List.map Net.ds a0.book),.mpr 2]),(1000001500,some [.nils])]⟩):=by
 induction n with
 |zero=>exact((fun _ _ _ _ h=>by rw [BD] at h; cases h))
 | succ n ih=>
  have ih0:=ih
  ·intro a0 u w r h
   rw [BD] at h
   refine Av rfl rfl (Z ?_)
   refine AX (Z ?_)
   refine AD h (fun h=>Z ?_) (fun h=>Z ?_)
   ·refine AF ?_
    refine AD h (fun h=>Z ?_) (fun h=>Z ?_)
    ·replace h:=AB h; obtain⟨y,q,h⟩:=h
     have hq_:=A5 q
     obtain⟨hv7003a,hv7003b⟩:=hq_
     refine Di false (Z ?_)
     refine BC (by refine⟨?_,?_⟩ <;> (try simp only [List.length_map,List.length_append,List.length_cons,List.length_nil] at*) <;> (try unfold maxLen) <;> omega) (Z ?_)
     refine An (List.map AO y) (by rw [← hv7003b]; simp only [List.map_append,List.map_cons,List.map_nil,List.nil_append,List.append_nil,go_sem,slD]) (Z ?_)
     refine AF ?_
     exact lpG (ih0 a0 y (IntKind.i64.wrap (w+1)) _ h) [(1000001000,1000001000),(1000001001,112048)] [(2,2),(1,1),(1000001500,1000001500)]
    ·refine AF ?_
     exact lpG (ih0 a0 u (IntKind.i64.wrap (w+1)) _ h) [(1000001000,1000001000),(1000001001,1000001001)] [(2,2),(1,1),(1000001500,1000001500)]
   ·refine AF ?_
    replace h:=AB h; obtain⟨g,j,h⟩:=h
    refine AH (Nk (Ov _ _ _ j) (.cons (.rop rfl) (.cons (.refl _) .nil))) (Z ?_)
    refine AF ?_
    cases h
    refine A7 (.done _) [(1501,144064),(1502,1000001000)] [(2,2),(1,1)] ?_
    simp only [go_sem]
theorem MP (a0 r) (h:Bq a0=some r):AG Tryz.prog 82 [.box 1 0] [(1001,⟨List.map Agent.dm a0.net.agents,some 5,0,true⟩)] [(2,[.mpc (.int .i64) (List.map prB a0.removed)]),(1,[.own 1001,.ro (List.map Net.ds a0.book),.mpr 2])] (.agg [.own 1501]) [(1501,⟨List.map Agent.ds r.agents,some 5,0,false⟩),(1502,⟨List.map Agent.dm a0.net.agents,some 5,0,true⟩)] [(1,[.own 1502,.ro (List.map Net.ds a0.book),.mpr 2]),(2,[.mpc (.int .i64) (List.map prB a0.removed)])] :=by
 unfold Bq at h
 refine agF Tryz.func82 mixed (h:=Z ?_)
 refine AF ?_
 refine Ch (Gy rfl rfl (Kg fuel a0 [] 0 _ h):) (.one ⟨_,.slot 3 2000000000 (some 1) false (by simp only [go_sem]) (by simp only [go_sem]) (.done _),[(1000001000,1001),(1000001001,2000000000)],[(2,2),(1,1),(1000001500,1000)],?_⟩)
 simp only [go_sem]
 all_goals try rfl
theorem QW (n:Nat):(∀a0 u w r,Et n a0 u w=some r→Al Tryz.prog Tryz.f117 [1,1,0,1,0] (.agg (Net.rv r)) ⟨[(2,.box 1000001500 0),(3,.box 1000001501 0),(12,.ro (List.map Agent.ds a0.agents)),(13,.int .i64 ((List.length a0.agents:Nat):Int)),(14,.int .i64 w)],[(1000001000,some ⟨List.map Agent.ds u,some 5,0,false⟩)],[(1000001500,some [.nils]),(1000001501,some [.own 1000001000])]⟩):=by
 induction n with
 |zero=>exact((fun _ _ _ _ h=>by rw [Et] at h; cases h))
 | succ n ih=>
  have ih0:=ih
  ·intro a0 u w r h
   rw [Et] at h
   refine AN rfl rfl (Z ?_)
   refine AX (Z ?_)
   refine AD h (fun h=>Z ?_) (fun h=>Z ?_)
   ·refine AF ?_
    replace h:=AB h; obtain⟨y,q,h⟩:=h
    refine AM q (Agent.ds_len _) (Z ?_)
    refine AF ?_
    refine AY [false,false,false,false,false,true,true,true] (Tr.sq [5,6,7] .fin) (by kernel_rfl) (Z ?_)
    replace h:=AB h; obtain⟨g,j,h⟩:=h
    refine AH (MN _ _ j) (Z ?_)
    replace h:=AB h; obtain⟨k,b,h⟩:=h
    have hq_:=A5 b
    obtain⟨hv6005a,hv6005b⟩:=hq_
    refine Di false (Z ?_)
    refine BC (by refine⟨?_,?_⟩ <;> (try simp only [List.length_map,List.length_append,List.length_cons,List.length_nil] at*) <;> (try unfold maxLen) <;> omega) (Z ?_)
    refine An (List.map Agent.ds k) (by rw [← hv6005b]; simp only [List.map_append,List.map_cons,List.map_nil,List.nil_append,List.append_nil,go_sem,Agent.ds_eq]) (Z ?_)
    refine AF ?_
    exact lpF (ih0 a0 k (IntKind.i64.wrap (w+1)) _ h) [(1000001000,96080)] [(1000001500,1000001500),(1000001501,1000001501)]
   ·refine AF ?_
    cases h
    simp only [go_sem]
theorem US (a0 r) (h:KL a0=some r):AC Tryz.prog 117 [.agg (Net.avs a0)] (.agg (Net.rv r)):=by
 unfold KL at h
 refine acF Tryz.func117 mixed (h:=Z ?_)
 refine AF ?_
 replace h:=AB h; obtain⟨u,w,h⟩:=h
 have hq_:=Gz w
 obtain⟨hv2003a,hv2003b,hv2003c⟩:=hq_
 refine BC (by unfold leX; omega) (Z ?_)
 refine BC (by refine⟨?_,?_,?_⟩ <;> omega) (Z ?_)
 refine An [] (by rfl) (Z ?_)
 refine AF ?_
 exact loF (QW fuel a0 [] 0 _ h) [(1000001000,32048)] [(1000001500,1001),(1000001501,2005)]
theorem QX (n:Nat):(∀a1 u w y r,DL n a1 u w y=some r→Al Tryz.prog Tryz.f169 [1,1,0,1,0] (.tup [.agg (Net.rv r.1),.bool r.2]) ⟨[(1,.int .i64 a1),(4,.box 1000001500 0),(6,.box 1000001501 0),(13,.int .i64 ((List.length u.agents:Nat):Int)),(14,.int .i64 y)],[(1000001000,some ⟨List.map Agent.ds w,some 5,0,false⟩)],[(1000001500,some [.nils]),(1000001501,some [.own 1000001000])]⟩):=by
 induction n with
 |zero=>exact((fun _ _ _ _ _ h=>by rw [DL] at h; cases h))
 | succ n ih=>
  have ih0:=ih
  ·intro a1 u w y r h
   rw [DL] at h
   refine AN rfl rfl (Z ?_)
   refine AX (Z ?_)
   refine AD h (fun h=>Z ?_) (fun h=>Z ?_)
   ·refine AF ?_
    replace h:=AB h; obtain⟨q,g,h⟩:=h
    refine AM g (Agent.ds_len _) (Z ?_)
    refine AZ (AP g) (Z ?_)
    replace h:=AB h; obtain⟨j,k,h⟩:=h
    refine AH (J2 _ _ k) (Z ?_)
    refine AF ?_
    refine AD h (fun h=>Z ?_) (fun h=>Z ?_)
    ·refine AF ?_
     exact lpF (ih0 a1 u w (IntKind.i64.wrap (y+1)) _ h) [(1000001000,1000001000)] [(1000001500,1000001500),(1000001501,1000001501)]
    ·refine AF ?_
     refine AZ (AP g) (Z ?_)
     replace h:=AB h; obtain⟨b,d,h⟩:=h
     refine AZ (AP g) (Z ?_)
     refine An (List.map Agent.ds b) (by rw [← Ao d]; simp only [List.map_set,go_sem,Agent.ds_eq]) (Z ?_)
     replace h:=AB h; obtain⟨c,e,h⟩:=h
     refine AZ (AP e) (Z ?_)
     refine AD h (fun h=>Z ?_) (fun h=>Z ?_)
     ·cases h
      simp only [go_sem]
     ·refine AF ?_
      exact lpF (ih0 a1 u b (IntKind.i64.wrap (y+1)) _ h) [(1000001000,1000001000)] [(1000001500,1000001500),(1000001501,1000001501)]
   ·refine AF ?_
    cases h
    simp only [go_sem]
theorem Ow (a0 a1 r) (h:Ii a0 a1=some r):AC Tryz.prog 169 [.agg (Net.avs a0),.int .i64 a1] (.tup [.agg (Net.rv r.1),.bool r.2]):=by
 unfold Ii at h
 refine acF Tryz.func169 mixed (h:=Z ?_)
 refine AF ?_
 replace h:=AB h; obtain⟨u,w,h⟩:=h
 refine AH (US _ _ w) (Z ?_)
 refine AF ?_
 exact loF (QX fuel a1 u u.agents 0 _ h) [(1000001000,32016)] [(1000001500,1001),(1000001501,2002)]
theorem HN (a0:Rewriter) (u:Int) (w:Int) (y:Int × Bool) (r:Int × Int × Int × Int) (h:DG a0 u w y=some r):DA Tryz.prog Tryz.f98 [1,1,1,1,1] (.tup [.int .i64 r.1,.int .i64 r.2.1,.int .i64 r.2.2.1,.int .i64 r.2.2.2]) [(1501,⟨List.map Agent.dm a0.net.agents,some 5,0,true⟩)] [(1,[.own 1501,.ro (List.map Net.ds a0.book),.mpr 2]),(2,[.mpc (.int .i64) (List.map prB a0.removed)])] ⟨[(4,.int .i64 y.1),(5,.int .i64 u),(6,.int .i64 w)],[(1000001000,some ⟨List.map Agent.dm a0.net.agents,some 5,0,true⟩)],[(2,some [.mpc (.int .i64) (List.map prB a0.removed)]),(1,some [.own 1000001000,.ro (List.map Net.ds a0.book),.mpr 2])]⟩:=by
 unfold DG at h
 refine Av rfl rfl (Z ?_)
 cases h
 refine A7 (.done _) [(1501,1000001000)] [(2,2),(1,1)] ?_
 simp only [go_sem]
theorem HO (a0:Rewriter) (u:Int × Bool) (w:Int) (y:Int) (r:Int × Int × Int × Int) (h:CX a0 u w y=some r):DA Tryz.prog Tryz.f98 [1,1,1,1] (.tup [.int .i64 r.1,.int .i64 r.2.1,.int .i64 r.2.2.1,.int .i64 r.2.2.2]) [(1501,⟨List.map Agent.dm a0.net.agents,some 5,0,true⟩)] [(1,[.own 1501,.ro (List.map Net.ds a0.book),.mpr 2]),(2,[.mpc (.int .i64) (List.map prB a0.removed)])] ⟨[(0,.box 1 0),(4,.int .i64 u.1),(5,.int .i64 w),(6,.int .i64 y)],[(1000000000,some ⟨List.map Agent.dm a0.net.agents,some 5,0,true⟩)],[(2,some [.mpc (.int .i64) (List.map prB a0.removed)]),(1,some [.own 1000000000,.ro (List.map Net.ds a0.book),.mpr 2])]⟩:=by
 unfold CX at h
 refine Av rfl rfl (Z ?_)
 refine AD h (fun h=>Z ?_) (fun h=>Z ?_)
 ·cases h
  refine A7 (.done _) [(1501,1000000000)] [(2,2),(1,1)] ?_
  simp only [go_sem]
 ·refine AD h (fun h=>Z ?_) (fun h=>Z ?_)
  ·replace h:=AB h; obtain⟨q,g,h⟩:=h
   refine AM g (Agent.dm_len _) (Z ?_)
   refine AZ (AP g) (Z ?_)
   refine AF ?_
   refine AY [] .fin (by kernel_rfl) (Z ?_)
   refine AF ?_
   refine AD h (fun h=>Z ?_) (fun h=>Z ?_)
   ·cases h
    refine A7 (.done _) [(1501,1000000000)] [(2,2),(1,1)] ?_
    simp only [go_sem]
   ·refine AF ?_
    refine AY [false,false,false,false,false,false,false,false,false,false,false,false,false,false,false,true,true] (Tr.sq [15,16] .fin) (by kernel_rfl) (Z ?_)
    replace h:=AB h; obtain⟨j,k,h⟩:=h
    refine AM k (Net.ds_len _) (Z ?_)
    replace h:=AB h; obtain⟨b,d,h⟩:=h
    refine AH (Ow _ _ _ d) (Z ?_)
    refine AF ?_
    refine AD h (fun h=>Z ?_) (fun h=>Z ?_)
    ·cases h
     refine A7 (.done _) [(1501,1000000000)] [(2,2),(1,1)] ?_
     simp only [go_sem]
    ·exact BI (HN a0 w y u _ h) [(1000001000,1000000000)] [(2,2),(1,1)]
  ·exact BI (HN a0 w y u _ h) [(1000001000,1000000000)] [(2,2),(1,1)]
theorem M3 (a0 a1 r) (h:CH a0 a1=some r):AG Tryz.prog 98 [.box 1 0,.agg [.int .i64 a1.a,.int .i64 a1.b]] [(1001,⟨List.map Agent.dm a0.net.agents,some 5,0,true⟩)] [(2,[.mpc (.int .i64) (List.map prB a0.removed)]),(1,[.own 1001,.ro (List.map Net.ds a0.book),.mpr 2])] (.tup [.int .i64 r.1,.int .i64 r.2.1,.int .i64 r.2.2.1,.int .i64 r.2.2.2]) [(1501,⟨List.map Agent.dm a0.net.agents,some 5,0,true⟩)] [(1,[.own 1501,.ro (List.map Net.ds a0.book),.mpr 2]),(2,[.mpc (.int .i64) (List.map prB a0.removed)])] :=by
 unfold CH at h
 refine agF Tryz.func98 mixed (h:=Z ?_)
 refine AY [] .fin (by kernel_rfl) (Z ?_)
 replace h:=AB h; obtain⟨u,w,h⟩:=h
 refine AH (Nk (Kd _ _ _ w) (.cons (.rop rfl) (.cons (.refl _) .nil))) (Z ?_)
 refine AF ?_
 refine AY [] .fin (by kernel_rfl) (Z ?_)
 refine AF ?_
 refine AD h (fun h=>Z ?_) (fun h=>Z ?_)
 ·exact BI (HO a0 u a1.b a1.a _ h) [(1000000000,1001)] [(2,2),(1,1)]
 ·exact BI (HO a0 u a1.a a1.b _ h) [(1000000000,1001)] [(2,2),(1,1)]
theorem MQ (a1:Int) (u:Int) (w:Bool) (r:Int × Int) (h:Hx a1 u w=some r):Al Tryz.prog Tryz.f197 [1,1,1,0,1] (.tup [.int .i64 r.1,.int .i64 r.2]) ⟨[(1,.int .i64 a1),(8,.int .i64 u),(30,.bool w)],[],[]⟩:=by
 unfold Hx at h
 refine AN rfl rfl (Z ?_)
 refine AD h (fun h=>Z ?_) (fun h=>Z ?_)
 ·cases h
  simp only [go_sem]
 ·refine AF ?_
  cases h
  simp only [go_sem]
theorem Eg (a1:Int) (u:Int) (w:Int) (y:Int) (r:Int × Int) (h:DV a1 u w y=some r):Al Tryz.prog Tryz.f197 [1,1,1] (.tup [.int .i64 r.1,.int .i64 r.2]) ⟨[(1,.int .i64 a1),(6,.int .i64 u),(7,.int .i64 w),(8,.int .i64 y)],[],[]⟩:=by
 unfold DV at h
 refine AN rfl rfl (Z ?_)
 refine AD h (fun h=>Z ?_) (fun h=>Z ?_)
 ·exact AW (MQ a1 y true _ h) [] []
 ·exact AW (MQ a1 y (decide (w<a1)) _ h) [] []
theorem MR (a0:Int) (a1:Int) (u:Bool) (r:Int × Int) (h:Hy a0 a1 u=some r):Al Tryz.prog Tryz.f197 [1,1,0,1,0,1] (.tup [.int .i64 r.1,.int .i64 r.2]) ⟨[(1,.int .i64 a1),(6,.int .i64 0),(7,.int .i64 0),(8,.int .i64 0),(9,.int .i64 a0),(10,.bool u)],[],[]⟩:=by
 unfold Hy at h
 refine AN rfl rfl (Z ?_)
 refine AD h (fun h=>Z ?_) (fun h=>Z ?_)
 ·exact AW (Eg a1 0 0 (-2) _ h) [] []
 ·refine AD h (fun h=>Z ?_) (fun h=>Z ?_)
  ·exact AW (Eg a1 0 3 0 _ h) [] []
  ·refine AD h (fun h=>Z ?_) (fun h=>Z ?_)
   ·exact AW (Eg a1 0 3 (-2) _ h) [] []
   ·refine AD h (fun h=>Z ?_) (fun h=>Z ?_)
    ·exact AW (Eg a1 0 0 (-1) _ h) [] []
    ·refine AD h (fun h=>Z ?_) (fun h=>Z ?_)
     ·exact AW (Eg a1 0 3 (-1) _ h) [] []
     ·refine AD h (fun h=>Z ?_) (fun h=>Z ?_)
      ·exact AW (Eg a1 2 600 (-2) _ h) [] []
      ·cases h
       simp only [go_sem]
theorem WI (a0 a1 r) (h:L9 a0 a1=some r):AC Tryz.prog 197 [.int .i64 a0,.int .i64 a1] (.tup [.int .i64 r.1,.int .i64 r.2]):=by
 unfold L9 at h
 refine acF Tryz.func197 mixed (h:=Z ?_)
 refine AD h (fun h=>Z ?_) (fun h=>Z ?_)
 ·exact AW (MR a0 a1 (decide (a0=1)) _ h) [] []
 ·exact AW (MR a0 a1 (decide (a0=2)) _ h) [] []
theorem CK (a0:Rewriter) (a1:Int) (u:Int) (r:Int) (h:BE a0 a1 u=some r):DA Tryz.prog Tryz.f139 [1,1,1] (.int .i64 r) [(1501,⟨List.map Agent.dm a0.net.agents,some 5,0,true⟩)] [(1,[.own 1501,.ro (List.map Net.ds a0.book),.mpr 2]),(2,[.mpc (.int .i64) (List.map prB a0.removed)])] ⟨[(1,.int .i64 a1),(9,.int .i64 u)],[(1000001000,some ⟨List.map Agent.dm a0.net.agents,some 5,0,true⟩)],[(2,some [.mpc (.int .i64) (List.map prB a0.removed)]),(1,some [.own 1000001000,.ro (List.map Net.ds a0.book),.mpr 2])]⟩:=by
 unfold BE at h
 refine Av rfl rfl (Z ?_)
 replace h:=AB h; obtain⟨w,y,h⟩:=h
 refine AH (WI _ _ _ y) (Z ?_)
 refine AF ?_
 cases h
 refine A7 (.done _) [(1501,1000001000)] [(2,2),(1,1)] ?_
 simp only [go_sem]
theorem Gp (a0:Rewriter) (a1:Int) (a2:Int) (a3:Int) (u:Bool) (r:Int) (h:Cu a0 a1 a2 a3 u=some r):DA Tryz.prog Tryz.f139 [1,1,0,1,0,1] (.int .i64 r) [(1501,⟨List.map Agent.dm a0.net.agents,some 5,0,true⟩)] [(1,[.own 1501,.ro (List.map Net.ds a0.book),.mpr 2]),(2,[.mpc (.int .i64) (List.map prB a0.removed)])] ⟨[(0,.box 1 0),(1,.int .i64 a1),(2,.int .i64 a2),(3,.int .i64 a3),(9,.int .i64 0),(12,.int .i64 a1),(13,.bool u)],[(1000000000,some ⟨List.map Agent.dm a0.net.agents,some 5,0,true⟩)],[(2,some [.mpc (.int .i64) (List.map prB a0.removed)]),(1,some [.own 1000000000,.ro (List.map Net.ds a0.book),.mpr 2])]⟩:=by
 unfold Cu at h
 refine Av rfl rfl (Z ?_)
 refine AD h (fun h=>Z ?_) (fun h=>Z ?_)
 ·replace h:=AB h; obtain⟨w,y,h⟩:=h
  refine AM y (Agent.dm_len _) (Z ?_)
  refine AZ (AP y) (Z ?_)
  refine AZ (DJ (sz:=5) (j:=4) (r:=List.map Port.ds w.ports) (AP (f:=Agent.dm) y) (Agent.dm_len _) (by rw [Agent.dm_eq]; rfl)) (Z ?_)
  exact BI (CK a0 a1 (IntKind.i64.wrap (((List.length w.ports:Nat):Int) - 1)) _ h) [(1000001000,1000000000)] [(2,2),(1,1)]
 ·refine AD h (fun h=>Z ?_) (fun h=>Z ?_)
  ·replace h:=AB h; obtain⟨q,g,h⟩:=h
   refine AM g (Agent.dm_len _) (Z ?_)
   refine AZ (AP g) (Z ?_)
   refine AD h (fun h=>Z ?_) (fun h=>Z ?_)
   ·replace h:=AB h; obtain⟨k,b,h⟩:=h
    refine AM b (Agent.dm_len _) (Z ?_)
    refine AZ (AP b) (Z ?_)
    refine AZ (DJ (sz:=5) (j:=4) (r:=List.map Port.ds k.ports) (AP (f:=Agent.dm) b) (Agent.dm_len _) (by rw [Agent.dm_eq]; rfl)) (Z ?_)
    exact BI (CK a0 a1 (IntKind.i64.wrap (((List.length k.ports:Nat):Int) - 1)) _ h) [(1000001000,1000000000)] [(2,2),(1,1)]
   ·exact BI (CK a0 a1 0 _ h) [(1000001000,1000000000)] [(2,2),(1,1)]
  ·refine AD h (fun h=>Z ?_) (fun h=>Z ?_)
   ·refine AY [] .fin (by kernel_rfl) (Z ?_)
    replace h:=AB h; obtain⟨d,c,h⟩:=h
    refine AM c (Agent.dm_len _) (Z ?_)
    refine AZ (AP c) (Z ?_)
    replace h:=AB h; obtain⟨e,i,h⟩:=h
    refine AM i (Net.ds_len _) (Z ?_)
    exact BI (CK a0 a1 ((List.length e.agents:Nat):Int) _ h) [(1000001000,1000000000)] [(2,2),(1,1)]
   ·exact BI (CK a0 a1 0 _ h) [(1000001000,1000000000)] [(2,2),(1,1)]
theorem MS (a0 a1 a2 a3 r) (h:D5 a0 a1 a2 a3=some r):AG Tryz.prog 139 [.box 1 0,.int .i64 a1,.int .i64 a2,.int .i64 a3] [(1001,⟨List.map Agent.dm a0.net.agents,some 5,0,true⟩)] [(2,[.mpc (.int .i64) (List.map prB a0.removed)]),(1,[.own 1001,.ro (List.map Net.ds a0.book),.mpr 2])] (.int .i64 r) [(1501,⟨List.map Agent.dm a0.net.agents,some 5,0,true⟩)] [(1,[.own 1501,.ro (List.map Net.ds a0.book),.mpr 2]),(2,[.mpc (.int .i64) (List.map prB a0.removed)])] :=by
 unfold D5 at h
 refine agF Tryz.func139 mixed (h:=Z ?_)
 refine AD h (fun h=>Z ?_) (fun h=>Z ?_)
 ·exact BI (Gp a0 a1 a2 a3 (decide (a1=3)) _ h) [(1000000000,1001)] [(2,2),(1,1)]
 ·exact BI (Gp a0 a1 a2 a3 (decide (a1=4)) _ h) [(1000000000,1001)] [(2,2),(1,1)]
end Go.Proofs.YtckcfdggbbabfaaGreat.Ab
