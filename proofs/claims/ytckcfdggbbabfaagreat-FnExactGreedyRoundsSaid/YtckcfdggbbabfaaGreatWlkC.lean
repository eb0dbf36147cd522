/-
 The functions do what their models say. Printed by wip/ab/gen.py.
-/
import Derived.Test.YtckcfdggbbabfaaGreatModC
import Derived.Test.YtckcfdggbbabfaaGreatTi2
import Derived.Test.YtckcfdggbbabfaaGreatWlkL
namespace Go.Proofs.YtckcfdggbbabfaaGreat.Ab
set_option linter.unusedVariables false
set_option linter.unusedSimpArgs false
set_option maxRecDepth 20000
set_option maxHeartbeats 4000000
open Go.RowKit
theorem IA (a0:Int) (a1:Int) (a2:Int) (u:Bool) (r:Bool) (h:EL a0 a1 a2 u=some r):Aw Tryz.prog Tryz.f248 [1,0,1] (.bool r) ⟨[(0,.int .i64 a0),(1,.int .i64 a1),(2,.int .i64 a2),(15,.bool u)],[],[]⟩:=by
 unfold EL at h
 refine AN rfl rfl (Z ?_)
 refine AB h (fun h=>Z ?_) (fun h=>Z ?_)
 ·cases h
  simp only [go_sem]
 ·refine AF ?_
  refine AB h (fun h=>Z ?_) (fun h=>Z ?_)
  ·refine AF ?_
   cases h
   simp only [go_sem]
  ·refine AB h (fun h=>Z ?_) (fun h=>Z ?_)
   ·refine AF ?_
    cases h
    simp only [go_sem]
   ·replace h:=AD h; obtain⟨w,y,h⟩:=h
    refine AI (Im _ _ y) (Z ?_)
    refine AB h (fun h=>Z ?_) (fun h=>Z ?_)
    ·refine AF ?_
     cases h
     simp only [go_sem]
    ·refine AF ?_
     cases h
     simp only [go_sem]
theorem OQ (a0 a1 a2 r) (h:Fy a0 a1 a2=some r):AC Tryz.prog 248 [.int .i64 a0,.int .i64 a1,.int .i64 a2] (.bool r):=by
 unfold Fy at h
 refine acF Tryz.func248 mixed (h:=Z ?_)
 replace h:=AD h; obtain⟨u,w,h⟩:=h
 refine AI (M5 _ _ w) (Z ?_)
 refine AB h (fun h=>Z ?_) (fun h=>Z ?_)
 ·exact AT (IA a0 a1 a2 true _ h) [] []
 ·replace h:=AD h; obtain⟨y,q,h⟩:=h
  refine AI (GE _ _ _ q) (Z ?_)
  exact AT (IA a0 a1 a2 (!y) _ h) [] []
theorem OR (a0 r) (h:Fz a0=some r):AC Tryz.prog 249 [.int .i64 a0] (.bool r):=by
 unfold Fz at h
 refine acF Tryz.func249 mixed (h:=Z ?_)
 refine AB h (fun h=>Z ?_) (fun h=>Z ?_)
 ·refine AF ?_
  cases h
  simp only [go_sem]
 ·refine AB h (fun h=>Z ?_) (fun h=>Z ?_)
  ·refine AF ?_
   cases h
   simp only [go_sem]
  ·refine AB h (fun h=>Z ?_) (fun h=>Z ?_)
   ·refine AF ?_
    cases h
    simp only [go_sem]
   ·refine AB h (fun h=>Z ?_) (fun h=>Z ?_)
    ·refine AF ?_
     cases h
     simp only [go_sem]
    ·refine AF ?_
     cases h
     simp only [go_sem]
theorem J2 (a1:Int) (a2:Int) (a3:Int) (u:Bool) (r:Int) (h:F0 a1 a2 a3 u=some r):Aw Tryz.prog Tryz.f238 [1,0,1,0,1,1,1,0,0,1] (.int .i64 r) ⟨[(1,.int .i64 a1),(2,.int .i64 a2),(3,.int .i64 a3),(14,.bool u)],[],[]⟩:=by
 unfold F0 at h
 refine AN rfl rfl (Z ?_)
 refine AB h (fun h=>Z ?_) (fun h=>Z ?_)
 ·cases h
  simp only [go_sem]
 ·replace h:=AD h; obtain⟨w,y,h⟩:=h
  refine AI (OQ _ _ _ _ y) (Z ?_)
  refine AF ?_
  refine AB h (fun h=>Z ?_) (fun h=>Z ?_)
  ·cases h
   simp only [go_sem]
  ·refine AF ?_
   cases h
   simp only [go_sem]
theorem J3 (u:Bool) (r:Int) (h:F1 u=some r):Aw Tryz.prog Tryz.f238 [1,0,1,0,1,1,1,1,1,0,1] (.int .i64 r) ⟨[(35,.bool u)],[],[]⟩:=by
 unfold F1 at h
 refine AN rfl rfl (Z ?_)
 refine AB h (fun h=>Z ?_) (fun h=>Z ?_)
 ·cases h
  simp only [go_sem]
 ·refine AF ?_
  cases h
  simp only [go_sem]
theorem J4 (a2:Int) (u:Bool) (r:Int) (h:F2 a2 u=some r):Aw Tryz.prog Tryz.f238 [1,0,1,0,1,1,1,1,1,1,1,0,1,0,1] (.int .i64 r) ⟨[(38,.int .i64 a2),(39,.bool u)],[],[]⟩:=by
 unfold F2 at h
 refine AN rfl rfl (Z ?_)
 refine AB h (fun h=>Z ?_) (fun h=>Z ?_)
 ·cases h
  simp only [go_sem]
 ·refine AB h (fun h=>Z ?_) (fun h=>Z ?_)
  ·cases h
   simp only [go_sem]
  ·refine AF ?_
   cases h
   simp only [go_sem]
theorem M6 (a0 a1 a2 a3 r) (h:Hb a0 a1 a2 a3=some r):AC Tryz.prog 238 [.int .i64 a0,.int .i64 a1,.int .i64 a2,.int .i64 a3] (.int .i64 r):=by
 unfold Hb at h
 refine acF Tryz.func238 mixed (h:=Z ?_)
 refine AB h (fun h=>Z ?_) (fun h=>Z ?_)
 ·cases h
  simp only [go_sem]
 ·refine AB h (fun h=>Z ?_) (fun h=>Z ?_)
  ·refine AB h (fun h=>Z ?_) (fun h=>Z ?_)
   ·exact AT (J2 a1 a2 a3 (decide (a1=a3)) _ h) [] []
   ·exact AT (J2 a1 a2 a3 false _ h) [] []
  ·refine AB h (fun h=>Z ?_) (fun h=>Z ?_)
   ·refine AB h (fun h=>Z ?_) (fun h=>Z ?_)
    ·exact AT (J3 (decide (a1=a3)) _ h) [] []
    ·exact AT (J3 false _ h) [] []
   ·refine AB h (fun h=>Z ?_) (fun h=>Z ?_)
    ·refine AB h (fun h=>Z ?_) (fun h=>Z ?_)
     ·exact AT (J4 a2 (decide (a2=7)) _ h) [] []
     ·exact AT (J4 a2 (decide (a2=8)) _ h) [] []
    ·refine AB h (fun h=>Z ?_) (fun h=>Z ?_)
     ·refine AB h (fun h=>Z ?_) (fun h=>Z ?_)
      ·cases h
       simp only [go_sem]
      ·refine AF ?_
       cases h
       simp only [go_sem]
     ·refine AB h (fun h=>Z ?_) (fun h=>Z ?_)
      ·replace h:=AD h; obtain⟨u,w,h⟩:=h
       refine AI (OR _ _ w) (Z ?_)
       refine AF ?_
       refine AB h (fun h=>Z ?_) (fun h=>Z ?_)
       ·cases h
        simp only [go_sem]
       ·refine AF ?_
        cases h
        simp only [go_sem]
      ·refine AF ?_
       cases h
       simp only [go_sem]
theorem GF (a0:Int) (a1:Int) (a2:Int) (a3:Int) (u:Bool) (r:Int × Int) (h:Eh a0 a1 a2 a3 u=some r):Aw Tryz.prog Tryz.f203 [1,0,1] (.tup [.int .i64 r.1,.int .i64 r.2]) ⟨[(0,.int .i64 a0),(1,.int .i64 a1),(2,.int .i64 a2),(3,.int .i64 a3),(29,.bool u)],[],[]⟩:=by
 unfold Eh at h
 refine AN rfl rfl (Z ?_)
 refine AB h (fun h=>Z ?_) (fun h=>Z ?_)
 ·cases h
  simp only [go_sem]
 ·refine AF ?_
  replace h:=AD h; obtain⟨w,y,h⟩:=h
  refine AI (M6 _ _ _ _ _ y) (Z ?_)
  refine AF ?_
  refine AB h (fun h=>Z ?_) (fun h=>Z ?_)
  ·cases h
   simp only [go_sem]
  ·refine AF ?_
   replace h:=AD h; obtain⟨q,g,h⟩:=h
   refine AI (M6 _ _ _ _ _ g) (Z ?_)
   refine AF ?_
   refine AB h (fun h=>Z ?_) (fun h=>Z ?_)
   ·cases h
    simp only [go_sem]
   ·refine AF ?_
    cases h
    simp only [go_sem]
theorem UI (a0 a1 a2 a3 r) (h:Kl a0 a1 a2 a3=some r):AC Tryz.prog 203 [.int .i64 a0,.int .i64 a1,.int .i64 a2,.int .i64 a3] (.tup [.int .i64 r.1,.int .i64 r.2]):=by
 unfold Kl at h
 refine acF Tryz.func203 mixed (h:=Z ?_)
 refine AB h (fun h=>Z ?_) (fun h=>Z ?_)
 ·exact AT (GF a0 a1 a2 a3 true _ h) [] []
 ·refine AB h (fun h=>Z ?_) (fun h=>Z ?_)
  ·exact AT (GF a0 a1 a2 a3 true _ h) [] []
  ·replace h:=AD h; obtain⟨u,w,h⟩:=h
   refine AI (GE _ _ _ w) (Z ?_)
   refine AB h (fun h=>Z ?_) (fun h=>Z ?_)
   ·exact AT (GF a0 a1 a2 a3 true _ h) [] []
   ·replace h:=AD h; obtain⟨y,q,h⟩:=h
    refine AI (GE _ _ _ q) (Z ?_)
    exact AT (GF a0 a1 a2 a3 (!y) _ h) [] []
theorem FE (u:Int × Int) (w:Bool) (r:Int × Bool) (h:C4 u w=some r):Aw Tryz.prog Tryz.f160 [1,1,1,1,0,1] (.tup [.int .i64 r.1,.bool r.2]) ⟨[(8,.int .i64 u.1),(9,.int .i64 u.2),(56,.bool w)],[],[]⟩:=by
 unfold C4 at h
 refine AN rfl rfl (Z ?_)
 refine AB h (fun h=>Z ?_) (fun h=>Z ?_)
 ·cases h
  simp only [go_sem]
 ·refine AF ?_
  cases h
  simp only [go_sem]
theorem HI (u:Int × Int) (w:Int) (y:Int) (q:Int) (g:List Int) (j:List Port) (k:Int) (b:Int) (d:Int) (c:List Int) (e:List Port) (r:Int × Bool) (h:C5 u w y q g j k b d c e=some r):Aw Tryz.prog Tryz.f160 [1,1,1,1] (.tup [.int .i64 r.1,.bool r.2]) ⟨[(6,.box 1000000500 0),(7,.box 1000000501 0),(8,.int .i64 u.1),(9,.int .i64 u.2)],[],[(1000000500,some [.int .i64 w,.int .i64 y,.int .i64 q,.ro (List.map AY g),.ro (List.map Port.ds j)]),(1000000501,some [.int .i64 k,.int .i64 b,.int .i64 d,.ro (List.map AY c),.ro (List.map Port.ds e)])]⟩:=by
 unfold C5 at h
 refine AN rfl rfl (Z ?_)
 refine AB h (fun h=>Z ?_) (fun h=>Z ?_)
 ·refine AB h (fun h=>Z ?_) (fun h=>Z ?_)
  ·exact AT (FE u (decide (((List.length c:Nat):Int)≤q)) _ h) [] []
  ·exact AT (FE u false _ h) [] []
 ·exact AT (FE u false _ h) [] []
theorem Nr (a0 a1 r) (h:FI a0 a1=some r):AC Tryz.prog 160 [.rop (Net.avs a0) 0,.agg (Pair.avs a1)] (.tup [.int .i64 r.1,.bool r.2]):=by
 unfold FI at h
 refine acF Tryz.func160 mixed (h:=Z ?_)
 refine YY [] [(16,18),(17,19)] .fin (by kernel_rfl) (Z ?_)
 replace h:=AD h; obtain⟨u,w,h⟩:=h
 refine AM w (Agent.ds_len _) (Z ?_)
 replace h:=AD h; obtain⟨y,q,h⟩:=h
 refine AM q (Agent.ds_len _) (Z ?_)
 refine Vx _ (by rfl) (by (first|(simp only [go_sem]; done)|(simp only [go_sem]; decide)|decide)) (by rfl) (Z ?_)
 refine Vx _ (by rfl) (by (first|(simp only [go_sem]; done)|(simp only [go_sem]; decide)|decide)) (by rfl) (Z ?_)
 refine bi (by refine⟨by rfl,by rfl,trivial⟩) (Z ?_)
 refine AF ?_
 replace h:=AD h; obtain⟨g,j,h⟩:=h
 refine AI (UI _ _ _ _ _ j) (Z ?_)
 refine AF ?_
 refine AB h (fun h=>Z ?_) (fun h=>Z ?_)
 ·exact AT (HI g y.kind y.level y.value y.data y.ports u.kind u.level u.value u.data u.ports _ h) [] [(1000000500,2016),(1000000501,2017)]
 ·exact AT (HI g u.kind u.level u.value u.data u.ports y.kind y.level y.value y.data y.ports _ h) [] [(1000000500,2016),(1000000501,2017)]
theorem MP (n:Nat):(∀a0 u w r,BY n a0 u w=some r→Aw Tryz.prog Tryz.f89 [1,1,0,1,0] (.ow (some 2) (List.map Pair.ds r)) ⟨[(3,.own 1000000000),(10,.ro (List.map Agent.ds a0.agents)),(11,.int .i64 ((List.length a0.agents:Nat):Int)),(12,.int .i64 w)],[(1000000000,some ⟨List.map Pair.ds u,some 2,0,false⟩)],[]⟩)∧
    (∀a0 u w y q r,BZ n a0 u w y q=some r→Aw Tryz.prog Tryz.f89 [1,1,0,1,0,0,1,1,0,0,1,1,1] (.ow (some 2) (List.map Pair.ds r)) ⟨[(3,.own 1000001000),(4,.int .i64 w),(6,.box 1000001500 0),(10,.ro (List.map Agent.ds a0.agents)),(11,.int .i64 ((List.length a0.agents:Nat):Int)),(12,.int .i64 w),(34,.bool q)],[(1000001000,some ⟨List.map Pair.ds u,some 2,0,false⟩)],[(1000001500,some [.int .i64 y.agent,.int .i64 y.slot])]⟩):=by
 induction n with
 |zero=>exact⟨(fun _ _ _ _ h=>by rw [BY] at h; cases h),(fun _ _ _ _ _ _ h=>by rw [BZ] at h; cases h)⟩
 | succ n ih=>
  obtain⟨ih0,ih1⟩:=ih
  refine⟨?_,?_⟩
  ·intro a0 u w r h
   rw [BY] at h
   refine AN rfl rfl (Z ?_)
   refine Ad (Z ?_)
   refine AB h (fun h=>Z ?_) (fun h=>Z ?_)
   ·refine AF ?_
    replace h:=AD h; obtain⟨g,j,h⟩:=h
    refine AM j (Agent.ds_len _) (Z ?_)
    refine AF ?_
    replace h:=AD h; obtain⟨y,k,h⟩:=h
    refine AM k (Port.ds_len _) (Z ?_)
    refine AF ?_
    refine AB h (fun h=>Z ?_) (fun h=>Z ?_)
    ·refine AB h (fun h=>Z ?_) (fun h=>Z ?_)
     ·exact AT (ih1 a0 u w y (!decide (g.kind=1)) _ h) [(1000001000,1000000000)] [(1000001500,6004)]
     ·exact AT (ih1 a0 u w y false _ h) [(1000001000,1000000000)] [(1000001500,6004)]
    ·exact AT (ih1 a0 u w y false _ h) [(1000001000,1000000000)] [(1000001500,6004)]
   ·refine AF ?_
    cases h
    simp only [go_sem]
  ·intro a0 u w y q r h
   rw [BZ] at h
   refine AN rfl rfl (Z ?_)
   refine AB h (fun h=>Z ?_) (fun h=>Z ?_)
   ·replace h:=AD h; obtain⟨b,d,h⟩:=h
    have hq_:=BH d
    obtain⟨hv8006a,hv8006b⟩:=hq_
    refine Dt false (Z ?_)
    refine BO (by refine⟨?_,?_⟩ <;> (try simp only [List.length_map,List.length_append,List.length_cons,List.length_nil] at*) <;> (try unfold maxLen) <;> omega) (Z ?_)
    refine BP (List.map Pair.ds b) (by rw [← hv8006b]; simp only [List.map_append,List.map_cons,List.map_nil,List.nil_append,List.append_nil,go_sem,Pair.ds_eq]) (Z ?_)
    refine AF ?_
    exact lpF (ih0 a0 b (IntKind.i64.wrap (w+1)) _ h) [(1000000000,128096)] []
   ·refine AF ?_
    exact lpF (ih0 a0 u (IntKind.i64.wrap (w+1)) _ h) [(1000000000,1000001000)] []
theorem M7 (n:Nat):(∀a0 u w r,BY n a0 u w=some r→Aw Tryz.prog Tryz.f89 [1,1,0,1,0] (.ow (some 2) (List.map Pair.ds r)) ⟨[(3,.own 1000000000),(10,.ro (List.map Agent.ds a0.agents)),(11,.int .i64 ((List.length a0.agents:Nat):Int)),(12,.int .i64 w)],[(1000000000,some ⟨List.map Pair.ds u,some 2,0,false⟩)],[]⟩):=(MP n).1
theorem K0 (a0 r) (h:Ei a0=some r):AC Tryz.prog 89 [.rop (Net.avs a0) 0] (.ow (some 2) (List.map Pair.ds r)):=by
 unfold Ei at h
 refine acF Tryz.func89 mixed (h:=Z ?_)
 refine DT (D8 rfl rfl (M7 fuel a0 [] 0 _ h):) (.one ⟨_,.slot 3 2000000000 (some 2) false (by simp only [go_sem]) (by simp only [go_sem]) (.done _),[(1000000000,2000000000)],[],?_⟩)
 simp only [go_sem]
 all_goals try rfl
theorem GK (a0 r) (h:CQ a0=some r):AC Tryz.prog 221 [.ro (List.map Port.ds a0)] (.ow (some 2) (List.map Port.ds r)):=by
 unfold CQ at h
 refine acF Tryz.func221 mixed (h:=Z ?_)
 refine Y1 (by simp only [go_sem]) (fun h0=>?_) ?_
 ·try simp only [go_sem]
  have hq_:=List.map_eq_nil_iff.1 h0
  obtain rfl:=hq_
  obtain rfl:r=[] :=by cases h; rfl
  simp only [go_sem]
 ·try simp only [go_sem]
  refine AF ?_
  replace h:=AD h; obtain⟨u,w,h⟩:=h
  have hq_:=BH w
  obtain⟨hv4002a,hv4002b⟩:=hq_
  refine Dt false (Z ?_)
  refine BO (Fx (by intro x; exact⟨(Port.ds_len _),by simp [Port.ds_eq,D.flat]⟩) _) (Z ?_)
  refine BO (by refine⟨?_,?_⟩ <;> (try simp only [List.length_map,List.length_append,List.length_cons,List.length_nil] at*) <;> (try unfold maxLen) <;> omega) (Z ?_)
  refine BP (List.map Port.ds u) (by rw [← hv4002b]; simp only [List.map_append,List.map_cons,List.map_nil,List.nil_append,List.append_nil,go_sem,Port.ds_eq]) (Z ?_)
  refine AF ?_
  cases h
  simp only [go_sem]
theorem HJ (a0 r) (h:C6 a0=some r):AG Tryz.prog 115 [.ro (List.map AY a0)] [] [] (.ro (List.map AY r)) [] [] :=by
 unfold C6 at h
 refine agF Tryz.func115 mixed (h:=Z ?_)
 refine Y1 (by simp only [go_sem]) (fun h0=>?_) ?_
 ·try simp only [go_sem]
  have hq_:=List.map_eq_nil_iff.1 h0
  obtain rfl:=hq_
  obtain rfl:r=[] :=by cases h; rfl
  simp only [go_sem]
  refine BD (.frzN [(0,[])] [] _ _ (by (first|rfl|(simp only [go_sem]; rfl))) (by (first|rfl|(simp only [go_sem]; rfl))) (.done _)) [] [] ?_
  simp only [go_sem]
  all_goals try rfl
 ·try simp only [go_sem]
  refine AF ?_
  replace h:=AD h; obtain⟨u,w,h⟩:=h
  have hq_:=BH w
  obtain⟨hv4002a,hv4002b⟩:=hq_
  refine Dt false (Z ?_)
  refine BO (Fx (by intro x; exact⟨rfl,by simp [go_sem,D.flat]⟩) _) (Z ?_)
  refine BO (by refine⟨?_,?_⟩ <;> (try simp only [List.length_map,List.length_append,List.length_cons,List.length_nil] at*) <;> (try unfold maxLen) <;> omega) (Z ?_)
  refine BP (List.map AY u) (by rw [← hv4002b]; simp only [List.map_append,List.map_cons,List.map_nil,List.nil_append,List.append_nil,go_sem,slD]) (Z ?_)
  refine AF ?_
  cases h
  refine BD (.frzT 64032 [(0,[])] [] _ _ _ (by (first|rfl|(simp only [go_sem]; rfl))) (by decide) (by (first|rfl|(simp only [go_sem]; rfl))) (by (first|rfl|(simp only [go_sem]; rfl))) (.done _)) [] [] ?_
  simp only [go_sem]
  all_goals try rfl
theorem Ga (a0 r) (h:i_copyAgent_z a0=some r):AG Tryz.prog 186 [.agg [.int .i64 a0.kind,.int .i64 a0.level,.int .i64 a0.value,.ro (List.map AY a0.data),.ro (List.map Port.ds a0.ports)]] [] [] (.agg [.int .i64 r.kind,.int .i64 r.level,.int .i64 r.value,.ro (List.map AY r.data),.own 1501]) [(1501,⟨List.map Port.ds r.ports,some 2,0,false⟩)] [] :=by
 unfold i_copyAgent_z at h
 refine agF Tryz.func186 mixed (h:=Z ?_)
 refine AF ?_
 refine AX [false,false,false,false,false,false,false,true,true,true] (Tr.sq [7,8,9] .fin) (by kernel_rfl) (Z ?_)
 replace h:=AD h; obtain⟨u,w,h⟩:=h
 refine Yz (HJ _ _ w) (by (first|rfl|(simp only [go_sem]; rfl))) (by first|rfl|(simp only [go_sem])) (Z ?_)
 replace h:=AD h; obtain⟨y,q,h⟩:=h
 refine AI (GK _ _ q) (Z ?_)
 refine AF ?_
 cases h
 refine BD (.done _) [(1501,32080)] [] ?_
 simp only [go_sem]
theorem M8 (n:Nat):(∀a0 u w r,DD n a0 u w=some r→DB Tryz.prog Tryz.f117 [1,1,0,1,0] (.agg [.own 1501]) [(1501,⟨List.map Agent.dm r.agents,some 5,0,true⟩)] [] ⟨[(2,.box 1000001500 0),(3,.box 1000001501 0),(12,.ro (List.map Agent.ds a0.agents)),(13,.int .i64 ((List.length a0.agents:Nat):Int)),(14,.int .i64 w)],[(1000001000,some ⟨List.map Agent.dm u,some 5,0,true⟩)],[(1000001500,some [.nils]),(1000001501,some [.own 1000001000])]⟩):=by
 induction n with
 |zero=>exact((fun _ _ _ _ h=>by rw [DD] at h; cases h))
 | succ n ih=>
  have ih0:=ih
  ·intro a0 u w r h
   rw [DD] at h
   refine Ay rfl rfl (Z ?_)
   refine Ad (Z ?_)
   refine AB h (fun h=>Z ?_) (fun h=>Z ?_)
   ·refine AF ?_
    replace h:=AD h; obtain⟨y,q,h⟩:=h
    refine AM q (Agent.ds_len _) (Z ?_)
    refine AF ?_
    replace h:=AD h; obtain⟨g,j,h⟩:=h
    replace h:=AD h; obtain⟨k,b,h⟩:=h
    refine AX [false,true,true,true,true,true,true,true] (.br 1 (Tr.sq [2,3,4,5,6,7] .fin) (.br 2 (.br 1 (Tr.sq [3,4,5,6,7] .fin) (.br 3 (.br 1 (Tr.sq [4,5,6,7] .fin) (.br 4 (Tr.sq [1,5,6,7] .fin) .stop)) .stop)) .stop)) (by kernel_rfl) ?_
    try simp only [go_sem]
    try simp only [go_sem]
    refine BS ?_ ?_
    ·try simp only [go_sem]
     refine caG ⟨[],[],[],[(1501,96048)],[],true⟩ (Ga _ _ j) (Z ?_)
     have hq_:=BH b
     obtain⟨hv6005a,hv6005b⟩:=hq_
     refine Dt true (Z ?_)
     refine BO (by refine⟨?_,?_⟩ <;> (try simp only [List.length_map,List.length_append,List.length_cons,List.length_nil] at*) <;> (try unfold maxLen) <;> omega) (Z ?_)
     refine BP (List.map Agent.dm k) (by rw [← hv6005b]; simp only [List.map_append,List.map_cons,List.map_nil,List.nil_append,List.append_nil,go_sem,Agent.ds_eq,Agent.dm_eq]) (Z ?_)
     refine AF ?_
     exact lpG (ih0 a0 k (IntKind.i64.wrap (w+1)) _ h) [(1000001000,96080)] [(1000001500,1000001500),(1000001501,1000001501)]
    ·try simp only [go_sem]
     try simp only [go_sem]
     refine BS (Z ?_) (Z ?_)
     ·refine caG ⟨[],[],[],[(1501,96048)],[],true⟩ (Ga _ _ j) (Z ?_)
      have hq_:=BH b
      obtain⟨hv6005a,hv6005b⟩:=hq_
      refine Dt true (Z ?_)
      refine BO (by refine⟨?_,?_⟩ <;> (try simp only [List.length_map,List.length_append,List.length_cons,List.length_nil] at*) <;> (try unfold maxLen) <;> omega) (Z ?_)
      refine BP (List.map Agent.dm k) (by rw [← hv6005b]; simp only [List.map_append,List.map_cons,List.map_nil,List.nil_append,List.append_nil,go_sem,Agent.ds_eq,Agent.dm_eq]) (Z ?_)
      refine AF ?_
      exact lpG (ih0 a0 k (IntKind.i64.wrap (w+1)) _ h) [(1000001000,96080)] [(1000001500,1000001500),(1000001501,1000001501)]
     ·refine caG ⟨[],[],[],[(1501,96048)],[],true⟩ (Ga _ _ j) ?_
      try simp only [go_sem]
      try simp only [go_sem]
      refine BS (Z ?_) (Z ?_)
      ·have hq_:=BH b
       obtain⟨hv6005a,hv6005b⟩:=hq_
       refine Dt true (Z ?_)
       refine BO (by refine⟨?_,?_⟩ <;> (try simp only [List.length_map,List.length_append,List.length_cons,List.length_nil] at*) <;> (try unfold maxLen) <;> omega) (Z ?_)
       refine BP (List.map Agent.dm k) (by rw [← hv6005b]; simp only [List.map_append,List.map_cons,List.map_nil,List.nil_append,List.append_nil,go_sem,Agent.ds_eq,Agent.dm_eq]) (Z ?_)
       refine AF ?_
       exact lpG (ih0 a0 k (IntKind.i64.wrap (w+1)) _ h) [(1000001000,96080)] [(1000001500,1000001500),(1000001501,1000001501)]
      ·have hq_:=BH b
       obtain⟨hv6005a,hv6005b⟩:=hq_
       refine Dt true (Z ?_)
       refine BO (by refine⟨?_,?_⟩ <;> (try simp only [List.length_map,List.length_append,List.length_cons,List.length_nil] at*) <;> (try unfold maxLen) <;> omega) (Z ?_)
       refine BP (List.map Agent.dm k) (by rw [← hv6005b]; simp only [List.map_append,List.map_cons,List.map_nil,List.nil_append,List.append_nil,go_sem,Agent.ds_eq,Agent.dm_eq]) (Z ?_)
       refine AF ?_
       exact lpG (ih0 a0 k (IntKind.i64.wrap (w+1)) _ h) [(1000001000,96080)] [(1000001500,1000001500),(1000001501,1000001501)]
   ·refine AF ?_
    cases h
    refine BD (.done _) [(1501,1000001000)] [] ?_
    simp only [go_sem]
theorem P8 (a0 r) (h:Gt a0=some r):AG Tryz.prog 117 [.agg [.ro (List.map Agent.ds a0.agents)]] [] [] (.agg [.own 1501]) [(1501,⟨List.map Agent.dm r.agents,some 5,0,true⟩)] [] :=by
 unfold Gt at h
 refine agF Tryz.func117 mixed (h:=Z ?_)
 refine AF ?_
 replace h:=AD h; obtain⟨u,w,h⟩:=h
 have hq_:=Gs w
 obtain⟨hv2003a,hv2003b,hv2003c⟩:=hq_
 refine BO (by unfold leX; omega) (Z ?_)
 refine BO (by refine⟨?_,?_,?_⟩ <;> omega) (Z ?_)
 refine BP [] (by rfl) (Z ?_)
 refine AF ?_
 exact loG (M8 fuel a0 [] 0 _ h) [(1000001000,32048)] [(1000001500,1001),(1000001501,2005)]
theorem JK (a0 a1 r) (h:ES a0 a1=some r):AG Tryz.prog 80 [.ro (List.map Net.ds a0),.agg [.ro (List.map Agent.ds a1.agents)]] [] [] (.box 1601 0) [(1501,⟨List.map Agent.dm r.net.agents,some 5,0,true⟩)] [(1601,[.own 1501,.ro (List.map Net.ds r.book),.mpr 1602]),(1602,[.mpc (.int .i64) (List.map prB r.removed)])] :=by
 unfold ES at h
 refine agF Tryz.func80 mixed (h:=Z ?_)
 replace h:=AD h; obtain⟨u,w,h⟩:=h
 refine caG ⟨[],[],[],[(1501,32016)],[],true⟩ (P8 _ _ w) (Z ?_)
 refine AF ?_
 cases h
 refine BD (.done _) [(1501,32016)] [(1601,2005),(1602,2003)] ?_
 simp only [go_sem]
theorem EW (a0 a1 a2 r) (h:CA a0 a1 a2=some r):AG Tryz.prog 198 [.box 1 0,.agg [.int .i64 a1.agent,.int .i64 a1.slot],.agg [.int .i64 a2.agent,.int .i64 a2.slot]] [(1001,⟨List.map Agent.dm a0.agents,some 5,0,true⟩)] [(1,[.own 1001])] (.tup []) [(1501,⟨List.map Agent.dm r.agents,some 5,0,true⟩)] [(1,[.own 1501])] :=by
 unfold CA at h
 refine agF Tryz.func198 mixed (h:=Z ?_)
 refine AX [false,false,false,false,false,false,false,false,false,false,false,false,false,true] (Tr.sq [13] .fin) (by kernel_rfl) (Z ?_)
 replace h:=AD h; obtain⟨u,w,h⟩:=h
 refine AM w (Agent.dm_len _) (Z ?_)
 refine Ai (AW w) (Z ?_)
 replace h:=AD h; obtain⟨y,q,h⟩:=h
 refine Ai (Eg (sz:=5) (j:=4) (r:=List.map Port.ds u.ports) (AW (f:=Agent.dm) w) (Agent.dm_len _) (by rw [Agent.dm_eq]; rfl)) (Z ?_)
 refine AM q (Port.ds_len _) (Z ?_)
 replace h:=AD h; obtain⟨g,k,h⟩:=h
 replace h:=AD h; obtain⟨b,d,h⟩:=h
 refine Ai (Eg (sz:=5) (j:=4) (r:=List.map Port.ds u.ports) (AW (f:=Agent.dm) w) (Agent.dm_len _) (by rw [Agent.dm_eq]; rfl)) (Z ?_)
 refine Ai (AW q) (Z ?_)
 try refine BO ⟨List.cons_ne_nil _ _,by rfl,by decide,by rfl⟩ ?_
 try simp only [go_sem]
 refine BP (List.map Agent.dm b) ((MI (AW (f:=Agent.dm) w) (d':=.sl (List.map Port.ds u.ports)) (by simp only [go_sem,Agent.ds_eq,Agent.dm_eq])).trans (by rw [← Bo d,← Bo k]; simp only [List.map_set,List.set_cons_succ,List.set_cons_zero,go_sem,Agent.ds_eq,Agent.dm_eq,Port.ds_eq])) (Z ?_)
 refine AF ?_
 refine AX [false,false,false,false,false,false,false,false,false,false,false,false,false,true] (Tr.sq [13] .fin) (by kernel_rfl) (Z ?_)
 replace h:=AD h; obtain⟨c,e,h⟩:=h
 refine AM e (Agent.dm_len _) (Z ?_)
 refine Ai (AW e) (Z ?_)
 replace h:=AD h; obtain⟨i,l,h⟩:=h
 refine Ai (Eg (sz:=5) (j:=4) (r:=List.map Port.ds c.ports) (AW (f:=Agent.dm) e) (Agent.dm_len _) (by rw [Agent.dm_eq]; rfl)) (Z ?_)
 refine AM l (Port.ds_len _) (Z ?_)
 replace h:=AD h; obtain⟨t,s,h⟩:=h
 replace h:=AD h; obtain⟨o,z,h⟩:=h
 refine Ai (Eg (sz:=5) (j:=4) (r:=List.map Port.ds c.ports) (AW (f:=Agent.dm) e) (Agent.dm_len _) (by rw [Agent.dm_eq]; rfl)) (Z ?_)
 refine Ai (AW l) (Z ?_)
 try refine BO ⟨List.cons_ne_nil _ _,by rfl,by decide,by rfl⟩ ?_
 try simp only [go_sem]
 refine BP (List.map Agent.dm o) ((MI (AW (f:=Agent.dm) e) (d':=.sl (List.map Port.ds c.ports)) (by simp only [go_sem,Agent.ds_eq,Agent.dm_eq])).trans (by rw [← Bo z,← Bo s]; simp only [List.map_set,List.set_cons_succ,List.set_cons_zero,go_sem,Agent.ds_eq,Agent.dm_eq,Port.ds_eq])) (Z ?_)
 cases h
 refine BD (.done _) [(1501,1001)] [(1,1)] ?_
 simp only [go_sem]
theorem IB (a0 a1 a2 r) (h:By a0 a1 a2=some r):AG Tryz.prog 140 [.box 1 0,.agg [.int .i64 a1.agent,.int .i64 a1.slot],.agg [.int .i64 a2.agent,.int .i64 a2.slot]] [(1001,⟨List.map Agent.dm a0.net.agents,some 5,0,true⟩)] [(2,[.mpc (.int .i64) (List.map prB a0.removed)]),(1,[.own 1001,.ro (List.map Net.ds a0.book),.mpr 2])] (.tup []) [(1501,⟨List.map Agent.dm r.net.agents,some 5,0,true⟩)] [(1,[.own 1501,.ro (List.map Net.ds a0.book),.mpr 2]),(2,[.mpc (.int .i64) (List.map prB r.removed)])] :=by
 unfold By at h
 refine agF Tryz.func140 mixed (h:=Z ?_)
 refine AX [false,false,false,false,false,false,false,false,false,false,false,false,true,true] (Tr.sq [12,13] .fin) (by kernel_rfl) (Z ?_)
 replace h:=AD h; obtain⟨u,w,h⟩:=h
 refine AI (MJ (EX _ _ _ w) (.cons (.rop rfl) (.cons (.refl _) .nil))) (Z ?_)
 replace h:=AD h; obtain⟨y,q,h⟩:=h
 refine AI (MJ (EX _ _ _ q) (.cons (.rop rfl) (.cons (.refl _) .nil))) (Z ?_)
 refine AF ?_
 refine AB h (fun h=>Z ?_) (fun h=>Z ?_)
 ·refine AX [false,false,false,false,false,true] (Tr.sq [5] .fin) (by kernel_rfl) (Z ?_)
  replace h:=AD h; obtain⟨g,j,h⟩:=h
  refine caG ⟨[],[(1001,1001)],[(1,1,0)],[(1501,64080)],[],true⟩ (EW _ _ _ _ j) (Z ?_)
  cases h
  refine BD (.done _) [(1501,64080)] [(2,2),(1,1)] ?_
  simp only [go_sem]
 ·cases h
  refine BD (.done _) [(1501,1001)] [(2,2),(1,1)] ?_
  simp only [go_sem]
theorem Am (a0 a1 a2 r) (h:AS a0 a1 a2=some r):AG Tryz.prog 142 [.box 1 0,.agg [.int .i64 a1.agent,.int .i64 a1.slot],.agg [.int .i64 a2.agent,.int .i64 a2.slot]] [(1001,⟨List.map Agent.dm a0.net.agents,some 5,0,true⟩)] [(2,[.mpc (.int .i64) (List.map prB a0.removed)]),(1,[.own 1001,.ro (List.map Net.ds a0.book),.mpr 2])] (.tup []) [(1501,⟨List.map Agent.dm r.net.agents,some 5,0,true⟩)] [(1,[.own 1501,.ro (List.map Net.ds a0.book),.mpr 2]),(2,[.mpc (.int .i64) (List.map prB r.removed)])] :=by
 unfold AS at h
 refine agF Tryz.func142 mixed (h:=Z ?_)
 refine AX [false,false,false,false,false,false,false,false,false,true] (Tr.sq [9] .fin) (by kernel_rfl) (Z ?_)
 replace h:=AD h; obtain⟨u,w,h⟩:=h
 refine AI (MJ (EX _ _ _ w) (.cons (.rop rfl) (.cons (.refl _) .nil))) (Z ?_)
 replace h:=AD h; obtain⟨y,q,h⟩:=h
 refine caG ⟨[],[(1001,1001)],[(1,1,0)],[(1501,32144)],[],true⟩ (EW _ _ _ _ q) (Z ?_)
 cases h
 refine BD (.done _) [(1501,32144)] [(2,2),(1,1)] ?_
 simp only [go_sem]
theorem JL (n:Nat):(∀a0 a1 u w r,As n a0 a1 u w=some r→DB Tryz.prog Tryz.f147 [1,0] (.tup []) [(1501,⟨List.map Agent.dm r.net.agents,some 5,0,true⟩)] [(1,[.own 1501,.ro (List.map Net.ds a0.book),.mpr 2]),(2,[.mpc (.int .i64) (List.map prB r.removed)])] ⟨[(0,.box 1 0),(6,.ro (List.map AY a1)),(7,.int .i64 ((List.length a1:Nat):Int)),(8,.int .i64 w)],[(1000000000,some ⟨List.map Agent.dm a0.net.agents,some 5,0,true⟩)],[(2,some [.mpc (.int .i64) (List.map prB u)]),(1,some [.own 1000000000,.ro (List.map Net.ds a0.book),.mpr 2])]⟩):=by
 induction n with
 |zero=>exact((fun _ _ _ _ _ h=>by rw [As] at h; cases h))
 | succ n ih=>
  have ih0:=ih
  ·intro a0 a1 u w r h
   rw [As] at h
   refine Ay rfl rfl (Z ?_)
   refine Ad (Z ?_)
   refine AB h (fun h=>Z ?_) (fun h=>Z ?_)
   ·refine AF ?_
    replace h:=AD h; obtain⟨y,q,h⟩:=h
    refine AM q rfl (Z ?_)
    replace h:=AD h; obtain⟨g,j,h⟩:=h
    have hq_:=RT j
    obtain⟨hv4005_6a,hv4005_6b⟩:=hq_
    refine BO (by first|exact hv4005_6a|(rw [List.length_map]; exact hv4005_6a)) (Z ?_)
    refine BP (List.map prB g) (by rw [← hv4005_6b]; exact Y5) (Z ?_)
    refine AF ?_
    exact lpG (ih0 a0 a1 g (IntKind.i64.wrap (w+1)) _ h) [(1000000000,1000000000)] [(2,2),(1,1)]
   ·cases h
    refine BD (.done _) [(1501,1000000000)] [(2,2),(1,1)] ?_
    simp only [go_sem]
theorem G7 (a0 a1 r) (h:BJ a0 a1=some r):AG Tryz.prog 147 [.box 1 0,.ro (List.map AY a1)] [(1001,⟨List.map Agent.dm a0.net.agents,some 5,0,true⟩)] [(2,[.mpc (.int .i64) (List.map prB a0.removed)]),(1,[.own 1001,.ro (List.map Net.ds a0.book),.mpr 2])] (.tup []) [(1501,⟨List.map Agent.dm r.net.agents,some 5,0,true⟩)] [(1,[.own 1501,.ro (List.map Net.ds a0.book),.mpr 2]),(2,[.mpc (.int .i64) (List.map prB r.removed)])] :=by
 unfold BJ at h
 refine agF Tryz.func147 mixed (h:=Z ?_)
 exact loG (JL fuel a0 a1 a0.removed 0 _ h) [(1000000000,1001)] [(2,2),(1,1)]
theorem Lf (a0 r) (h:Du a0=some r):AG Tryz.prog 138 [.box 1 0] [(1001,⟨List.map Agent.dm a0.net.agents,some 5,0,true⟩)] [(2,[.mpc (.int .i64) (List.map prB a0.removed)]),(1,[.own 1001,.ro (List.map Net.ds a0.book),.mpr 2])] (.int .i64 r) [(1501,⟨List.map Agent.dm a0.net.agents,some 5,0,true⟩)] [(1,[.own 1501,.ro (List.map Net.ds a0.book),.mpr 2]),(2,[.mpc (.int .i64) (List.map prB a0.removed)])] :=by
 unfold Du at h
 refine agF Tryz.func138 mixed (h:=Z ?_)
 refine AX [] .fin (by kernel_rfl) (Z ?_)
 refine AF ?_
 cases h
 refine BD (.done _) [(1501,1001)] [(2,2),(1,1)] ?_
 simp only [go_sem]
theorem M9 (a0 r) (h:Ej a0=some r):AC Tryz.prog 115 [.ro (List.map AY a0)] (.ow (some 1) (List.map AY r)):=by
 unfold Ej at h
 refine acF Tryz.func115 mixed (h:=Z ?_)
 refine Y1 (by simp only [go_sem]) (fun h0=>?_) ?_
 ·try simp only [go_sem]
  have hq_:=List.map_eq_nil_iff.1 h0
  obtain rfl:=hq_
  obtain rfl:r=[] :=by cases h; rfl
  simp only [go_sem]
 ·try simp only [go_sem]
  refine AF ?_
  replace h:=AD h; obtain⟨u,w,h⟩:=h
  have hq_:=BH w
  obtain⟨hv4002a,hv4002b⟩:=hq_
  refine Dt false (Z ?_)
  refine BO (Fx (by intro x; exact⟨rfl,by simp [go_sem,D.flat]⟩) _) (Z ?_)
  refine BO (by refine⟨?_,?_⟩ <;> (try simp only [List.length_map,List.length_append,List.length_cons,List.length_nil] at*) <;> (try unfold maxLen) <;> omega) (Z ?_)
  refine BP (List.map AY u) (by rw [← hv4002b]; simp only [List.map_append,List.map_cons,List.map_nil,List.nil_append,List.append_nil,go_sem,slD]) (Z ?_)
  refine AF ?_
  cases h
  simp only [go_sem]
theorem K1 (a0 r) (h:i_copyAgent a0=some r):AC Tryz.prog 186 [.agg (Agent.avs a0)] (.agg (Agent.rv r)):=by
 unfold i_copyAgent at h
 refine acF Tryz.func186 mixed (h:=Z ?_)
 refine AF ?_
 refine AX [false,false,false,false,false,false,false,true,true,true] (Tr.sq [7,8,9] .fin) (by kernel_rfl) (Z ?_)
 replace h:=AD h; obtain⟨u,w,h⟩:=h
 refine AI (M9 _ _ w) (Z ?_)
 replace h:=AD h; obtain⟨y,q,h⟩:=h
 refine AI (GK _ _ q) (Z ?_)
 refine AF ?_
 cases h
 simp only [go_sem]
theorem Jv (n:Nat):(∀a0 a1 u w y r,An n a0 a1 u w y=some r→Aw Tryz.prog Tryz.f148 [1,1,1,1,0,1,0] (.agg (Net.rv r)) ⟨[(0,.rop [.ro (List.map Agent.ds a0.agents)] 0),(4,.box 1000007500 0),(5,.mpr 1000007501),(8,.box 1000007502 0),(25,.ro (List.map AY a1)),(26,.int .i64 ((List.length a1:Nat):Int)),(27,.int .i64 y)],[(1000007000,some ⟨List.map Agent.ds w,some 5,0,false⟩)],[(1000007500,some [.nils]),(1000007501,some [.mpc (.int .i64) (List.map prI u)]),(1000007502,some [.own 1000007000])]⟩)∧
    (∀a0 a1 u w y q g j r,Ba n a0 a1 u w y q g j=some r→Aw Tryz.prog Tryz.f148 [1,1,1,1,0,1,0,0,1,1,0,0,1,1,0,1,0] (.agg (Net.rv r)) ⟨[(0,.rop [.ro (List.map Agent.ds a0.agents)] 0),(4,.box 1000011500 0),(5,.mpr 1000011501),(8,.box 1000011502 0),(11,.box 1000011503 0),(25,.ro (List.map AY a1)),(26,.int .i64 ((List.length a1:Nat):Int)),(27,.int .i64 y),(41,.int .i64 ((List.length q.ports:Nat):Int)),(42,.int .i64 j)],[(1000011000,some ⟨List.map Agent.ds w,some 5,0,false⟩),(1000011001,some ⟨List.map AY q.data,some 1,0,false⟩),(1000011002,some ⟨List.map Port.ds g,some 2,0,false⟩)],[(1000011500,some [.nils]),(1000011501,some [.mpc (.int .i64) (List.map prI u)]),(1000011502,some [.own 1000011000]),(1000011503,some [.int .i64 q.kind,.int .i64 q.level,.int .i64 q.value,.own 1000011001,.own 1000011002])]⟩):=by
 induction n with
 |zero=>exact⟨(fun _ _ _ _ _ _ h=>by rw [An] at h; cases h),(fun _ _ _ _ _ _ _ _ _ h=>by rw [Ba] at h; cases h)⟩
 | succ n ih=>
  obtain⟨ih0,ih1⟩:=ih
  refine⟨?_,?_⟩
  ·intro a0 a1 u w y r h
   rw [An] at h
   refine AN rfl rfl (Z ?_)
   refine Ad (Z ?_)
   refine AB h (fun h=>Z ?_) (fun h=>Z ?_)
   ·refine AF ?_
    replace h:=AD h; obtain⟨k,b,h⟩:=h
    refine AM b rfl (Z ?_)
    replace h:=AD h; obtain⟨d,c,h⟩:=h
    refine AM c (Agent.ds_len _) (Z ?_)
    replace h:=AD h; obtain⟨q,e,h⟩:=h
    refine AI (K1 _ _ e) (Z ?_)
    refine AF ?_
    exact loF (ih1 a0 a1 u w y q q.ports 0 _ h) [(1000011000,1000007000),(1000011001,192112),(1000011002,192113)] [(1000011500,1000007500),(1000011501,1000007501),(1000011502,1000007502),(1000011503,12008)]
   ·refine AF ?_
    cases h
    simp only [go_sem]
  ·intro a0 a1 u w y q g j r h
   rw [Ba] at h
   refine AN rfl rfl (Z ?_)
   refine Ad (Z ?_)
   refine AB h (fun h=>Z ?_) (fun h=>Z ?_)
   ·refine AF ?_
    refine AX [false,false,false,false,false,false,false,false,false,false,false,false,false,true] (Tr.sq [13] .fin) (by kernel_rfl) (Z ?_)
    replace h:=AD h; obtain⟨i,l,h⟩:=h
    refine AM l (Port.ds_len _) (Z ?_)
    refine Ai (AW l) (Z ?_)
    replace h:=AD h; obtain⟨t,s,h⟩:=h
    refine AM s (Port.ds_len _) (Z ?_)
    replace h:=AD h; obtain⟨o,z,h⟩:=h
    refine Ai (AW s) (Z ?_)
    refine BP (List.map Port.ds o) (by rw [← Bo z]; simp only [List.map_set,go_sem,Port.ds_eq]) (Z ?_)
    refine AF ?_
    exact lpF (ih1 a0 a1 u w y q o (IntKind.i64.wrap (j+1)) _ h) [(1000011000,1000011000),(1000011001,1000011001),(1000011002,1000011002)] [(1000011500,1000011500),(1000011501,1000011501),(1000011502,1000011502),(1000011503,1000011503)]
   ·refine AF ?_
    replace h:=AD h; obtain⟨u1,u2,h⟩:=h
    have hq_:=BH u2
    obtain⟨hv18004a,hv18004b⟩:=hq_
    refine Dt false (Z ?_)
    refine BO (by refine⟨?_,?_⟩ <;> (try simp only [List.length_map,List.length_append,List.length_cons,List.length_nil] at*) <;> (try unfold maxLen) <;> omega) (Z ?_)
    refine BP (List.map Agent.ds u1) (by rw [← hv18004b]; simp only [List.map_append,List.map_cons,List.map_nil,List.nil_append,List.append_nil,go_sem,Agent.ds_eq]) (Z ?_)
    refine AF ?_
    exact lpF (ih0 a0 a1 u u1 (IntKind.i64.wrap (y+1)) _ h) [(1000007000,288064)] [(1000007500,1000011500),(1000007501,1000011501),(1000007502,1000011502)]
theorem KC (n:Nat):(∀a0 a1 u w y r,An n a0 a1 u w y=some r→Aw Tryz.prog Tryz.f148 [1,1,1,1,0,1,0] (.agg (Net.rv r)) ⟨[(0,.rop [.ro (List.map Agent.ds a0.agents)] 0),(4,.box 1000007500 0),(5,.mpr 1000007501),(8,.box 1000007502 0),(25,.ro (List.map AY a1)),(26,.int .i64 ((List.length a1:Nat):Int)),(27,.int .i64 y)],[(1000007000,some ⟨List.map Agent.ds w,some 5,0,false⟩)],[(1000007500,some [.nils]),(1000007501,some [.mpc (.int .i64) (List.map prI u)]),(1000007502,some [.own 1000007000])]⟩):=(Jv n).1
theorem K2 (n:Nat):(∀a0 a1 u w r,Bj n a0 a1 u w=some r→Aw Tryz.prog Tryz.f148 [1,1,0,1,0] (.agg (Net.rv r)) ⟨[(0,.rop [.ro (List.map Agent.ds a0.agents)] 0),(1,.ro (List.map AY a1)),(4,.box 1000001500 0),(5,.mpr 1000001501),(14,.ro (List.map AY a1)),(15,.int .i64 ((List.length a1:Nat):Int)),(16,.int .i64 w)],[],[(1000001500,some [.nils]),(1000001501,some [.mpc (.int .i64) (List.map prI u)])]⟩):=by
 induction n with
 |zero=>exact((fun _ _ _ _ _ h=>by rw [Bj] at h; cases h))
 | succ n ih=>
  have ih0:=ih
  ·intro a0 a1 u w r h
   rw [Bj] at h
   refine AN rfl rfl (Z ?_)
   refine Ad (Z ?_)
   refine AB h (fun h=>Z ?_) (fun h=>Z ?_)
   ·refine AF ?_
    replace h:=AD h; obtain⟨y,q,h⟩:=h
    refine AM q rfl (Z ?_)
    replace h:=AD h; obtain⟨g,j,h⟩:=h
    have hq_:=RT j
    obtain⟨hv6003_12a,hv6003_12b⟩:=hq_
    refine BO (by first|exact hv6003_12a|(rw [List.length_map]; exact hv6003_12a)) (Z ?_)
    refine BP (List.map prI g) (by rw [← hv6003_12b]; exact Y6) (Z ?_)
    refine AF ?_
    exact lpF (ih0 a0 a1 g (IntKind.i64.wrap (w+1)) _ h) [] [(1000001500,1000001500),(1000001501,1000001501)]
   ·refine AF ?_
    refine AF ?_
    refine DT (D8 rfl rfl (KC fuel a0 a1 u [] 0 _ h):) (.one ⟨_,.cell 8000 0 2000000000 (some 5) false _ (by simp only [go_sem]; rfl) (by rfl) (by simp only [go_sem]) (.done _),[(1000007000,2000000000)],[(1000007500,1000001500),(1000007501,1000001501),(1000007502,8000)],?_⟩)
    simp only [go_sem]
    all_goals try rfl
theorem NA (a0 a1 r) (h:Dv a0 a1=some r):AC Tryz.prog 148 [.rop (Net.avs a0) 0,.ro (List.map AY a1)] (.agg (Net.rv r)):=by
 unfold Dv at h
 refine acF Tryz.func148 mixed (h:=Z ?_)
 refine AF ?_
 exact loF (K2 fuel a0 a1 [] 0 _ h) [] [(1000001500,1000),(1000001501,2000)]
theorem JM (n:Nat):(∀a0 u w r,A6 n a0 u w=some r→DB Tryz.prog Tryz.f82 [1,1,0,1,0] (.agg [.own 1501]) [(1501,⟨List.map Agent.ds r.agents,some 5,0,false⟩),(1502,⟨List.map Agent.dm a0.net.agents,some 5,0,true⟩)] [(1,[.own 1502,.ro (List.map Net.ds a0.book),.mpr 2]),(2,[.mpc (.int .i64) (List.map prB a0.removed)])] ⟨[(0,.box 1 0),(2,.box 1000001500 0),(3,.own 1000001001),(10,.int .i64 ((List.length a0.net.agents:Nat):Int)),(11,.int .i64 w)],[(1000001000,some ⟨List.map Agent.dm a0.net.agents,some 5,0,true⟩),(1000001001,some ⟨List.map AY u,some 1,0,false⟩)],[(2,some [.mpc (.int .i64) (List.map prB a0.removed)]),(1,some [.own 1000001000,.ro (List.map Net.ds a0.book),.mpr 2]),(1000001500,some [.nils])]⟩):=by
 induction n with
 |zero=>exact((fun _ _ _ _ h=>by rw [A6] at h; cases h))
 | succ n ih=>
  have ih0:=ih
  ·intro a0 u w r h
   rw [A6] at h
   refine Ay rfl rfl (Z ?_)
   refine Ad (Z ?_)
   refine AB h (fun h=>Z ?_) (fun h=>Z ?_)
   ·refine AF ?_
    refine AB h (fun h=>Z ?_) (fun h=>Z ?_)
    ·replace h:=AD h; obtain⟨y,q,h⟩:=h
     have hq_:=BH q
     obtain⟨hv7003a,hv7003b⟩:=hq_
     refine Dt false (Z ?_)
     refine BO (by refine⟨?_,?_⟩ <;> (try simp only [List.length_map,List.length_append,List.length_cons,List.length_nil] at*) <;> (try unfold maxLen) <;> omega) (Z ?_)
     refine BP (List.map AY y) (by rw [← hv7003b]; simp only [List.map_append,List.map_cons,List.map_nil,List.nil_append,List.append_nil,go_sem,slD]) (Z ?_)
     refine AF ?_
     exact lpG (ih0 a0 y (IntKind.i64.wrap (w+1)) _ h) [(1000001000,1000001000),(1000001001,112048)] [(2,2),(1,1),(1000001500,1000001500)]
    ·refine AF ?_
     exact lpG (ih0 a0 u (IntKind.i64.wrap (w+1)) _ h) [(1000001000,1000001000),(1000001001,1000001001)] [(2,2),(1,1),(1000001500,1000001500)]
   ·refine AF ?_
    replace h:=AD h; obtain⟨g,j,h⟩:=h
    refine AI (MJ (NA _ _ _ j) (.cons (.rop rfl) (.cons (.refl _) .nil))) (Z ?_)
    refine AF ?_
    cases h
    refine BD (.done _) [(1501,144064),(1502,1000001000)] [(2,2),(1,1)] ?_
    simp only [go_sem]
theorem K3 (a0 r) (h:Bk a0=some r):AG Tryz.prog 82 [.box 1 0] [(1001,⟨List.map Agent.dm a0.net.agents,some 5,0,true⟩)] [(2,[.mpc (.int .i64) (List.map prB a0.removed)]),(1,[.own 1001,.ro (List.map Net.ds a0.book),.mpr 2])] (.agg [.own 1501]) [(1501,⟨List.map Agent.ds r.agents,some 5,0,false⟩),(1502,⟨List.map Agent.dm a0.net.agents,some 5,0,true⟩)] [(1,[.own 1502,.ro (List.map Net.ds a0.book),.mpr 2]),(2,[.mpc (.int .i64) (List.map prB a0.removed)])] :=by
 unfold Bk at h
 refine agF Tryz.func82 mixed (h:=Z ?_)
 refine AF ?_
 refine DT (Gd rfl rfl (JM fuel a0 [] 0 _ h):) (.one ⟨_,.slot 3 2000000000 (some 1) false (by simp only [go_sem]) (by simp only [go_sem]) (.done _),[(1000001000,1001),(1000001001,2000000000)],[(2,2),(1,1),(1000001500,1000)],?_⟩)
 simp only [go_sem]
 all_goals try rfl
theorem OS (n:Nat):(∀a0 u w r,D9 n a0 u w=some r→Aw Tryz.prog Tryz.f117 [1,1,0,1,0] (.agg (Net.rv r)) ⟨[(2,.box 1000001500 0),(3,.box 1000001501 0),(12,.ro (List.map Agent.ds a0.agents)),(13,.int .i64 ((List.length a0.agents:Nat):Int)),(14,.int .i64 w)],[(1000001000,some ⟨List.map Agent.ds u,some 5,0,false⟩)],[(1000001500,some [.nils]),(1000001501,some [.own 1000001000])]⟩):=by
 induction n with
 |zero=>exact((fun _ _ _ _ h=>by rw [D9] at h; cases h))
 | succ n ih=>
  have ih0:=ih
  ·intro a0 u w r h
   rw [D9] at h
   refine AN rfl rfl (Z ?_)
   refine Ad (Z ?_)
   refine AB h (fun h=>Z ?_) (fun h=>Z ?_)
   ·refine AF ?_
    replace h:=AD h; obtain⟨y,q,h⟩:=h
    refine AM q (Agent.ds_len _) (Z ?_)
    refine AF ?_
    refine AX [false,false,false,false,false,true,true,true] (Tr.sq [5,6,7] .fin) (by kernel_rfl) (Z ?_)
    replace h:=AD h; obtain⟨g,j,h⟩:=h
    refine AI (K1 _ _ j) (Z ?_)
    replace h:=AD h; obtain⟨k,b,h⟩:=h
    have hq_:=BH b
    obtain⟨hv6005a,hv6005b⟩:=hq_
    refine Dt false (Z ?_)
    refine BO (by refine⟨?_,?_⟩ <;> (try simp only [List.length_map,List.length_append,List.length_cons,List.length_nil] at*) <;> (try unfold maxLen) <;> omega) (Z ?_)
    refine BP (List.map Agent.ds k) (by rw [← hv6005b]; simp only [List.map_append,List.map_cons,List.map_nil,List.nil_append,List.append_nil,go_sem,Agent.ds_eq]) (Z ?_)
    refine AF ?_
    exact lpF (ih0 a0 k (IntKind.i64.wrap (w+1)) _ h) [(1000001000,96080)] [(1000001500,1000001500),(1000001501,1000001501)]
   ·refine AF ?_
    cases h
    simp only [go_sem]
theorem SQ (a0 r) (h:I2 a0=some r):AC Tryz.prog 117 [.agg (Net.avs a0)] (.agg (Net.rv r)):=by
 unfold I2 at h
 refine acF Tryz.func117 mixed (h:=Z ?_)
 refine AF ?_
 replace h:=AD h; obtain⟨u,w,h⟩:=h
 have hq_:=Gs w
 obtain⟨hv2003a,hv2003b,hv2003c⟩:=hq_
 refine BO (by unfold leX; omega) (Z ?_)
 refine BO (by refine⟨?_,?_,?_⟩ <;> omega) (Z ?_)
 refine BP [] (by rfl) (Z ?_)
 refine AF ?_
 exact loF (OS fuel a0 [] 0 _ h) [(1000001000,32048)] [(1000001500,1001),(1000001501,2005)]
theorem OT (n:Nat):(∀a1 u w y r,Cq n a1 u w y=some r→Aw Tryz.prog Tryz.f169 [1,1,0,1,0] (.tup [.agg (Net.rv r.1),.bool r.2]) ⟨[(1,.int .i64 a1),(4,.box 1000001500 0),(6,.box 1000001501 0),(13,.int .i64 ((List.length u.agents:Nat):Int)),(14,.int .i64 y)],[(1000001000,some ⟨List.map Agent.ds w,some 5,0,false⟩)],[(1000001500,some [.nils]),(1000001501,some [.own 1000001000])]⟩):=by
 induction n with
 |zero=>exact((fun _ _ _ _ _ h=>by rw [Cq] at h; cases h))
 | succ n ih=>
  have ih0:=ih
  ·intro a1 u w y r h
   rw [Cq] at h
   refine AN rfl rfl (Z ?_)
   refine Ad (Z ?_)
   refine AB h (fun h=>Z ?_) (fun h=>Z ?_)
   ·refine AF ?_
    replace h:=AD h; obtain⟨q,g,h⟩:=h
    refine AM g (Agent.ds_len _) (Z ?_)
    refine Ai (AW g) (Z ?_)
    replace h:=AD h; obtain⟨j,k,h⟩:=h
    refine AI (Im _ _ k) (Z ?_)
    refine AF ?_
    refine AB h (fun h=>Z ?_) (fun h=>Z ?_)
    ·refine AF ?_
     exact lpF (ih0 a1 u w (IntKind.i64.wrap (y+1)) _ h) [(1000001000,1000001000)] [(1000001500,1000001500),(1000001501,1000001501)]
    ·refine AF ?_
     refine Ai (AW g) (Z ?_)
     replace h:=AD h; obtain⟨b,d,h⟩:=h
     refine Ai (AW g) (Z ?_)
     refine BP (List.map Agent.ds b) (by rw [← Bo d]; simp only [List.map_set,go_sem,Agent.ds_eq]) (Z ?_)
     replace h:=AD h; obtain⟨c,e,h⟩:=h
     refine Ai (AW e) (Z ?_)
     refine AB h (fun h=>Z ?_) (fun h=>Z ?_)
     ·cases h
      simp only [go_sem]
     ·refine AF ?_
      exact lpF (ih0 a1 u b (IntKind.i64.wrap (y+1)) _ h) [(1000001000,1000001000)] [(1000001500,1000001500),(1000001501,1000001501)]
   ·refine AF ?_
    cases h
    simp only [go_sem]
theorem NC (a0 a1 r) (h:Hc a0 a1=some r):AC Tryz.prog 169 [.agg (Net.avs a0),.int .i64 a1] (.tup [.agg (Net.rv r.1),.bool r.2]):=by
 unfold Hc at h
 refine acF Tryz.func169 mixed (h:=Z ?_)
 refine AF ?_
 replace h:=AD h; obtain⟨u,w,h⟩:=h
 refine AI (SQ _ _ w) (Z ?_)
 refine AF ?_
 exact loF (OT fuel a1 u u.agents 0 _ h) [(1000001000,32016)] [(1000001500,1001),(1000001501,2002)]
theorem GG (a0:Rewriter) (u:Int) (w:Int) (y:Int × Bool) (r:Int × Int × Int × Int) (h:Cn a0 u w y=some r):DB Tryz.prog Tryz.f98 [1,1,1,1,1] (.tup [.int .i64 r.1,.int .i64 r.2.1,.int .i64 r.2.2.1,.int .i64 r.2.2.2]) [(1501,⟨List.map Agent.dm a0.net.agents,some 5,0,true⟩)] [(1,[.own 1501,.ro (List.map Net.ds a0.book),.mpr 2]),(2,[.mpc (.int .i64) (List.map prB a0.removed)])] ⟨[(4,.int .i64 y.1),(5,.int .i64 u),(6,.int .i64 w)],[(1000001000,some ⟨List.map Agent.dm a0.net.agents,some 5,0,true⟩)],[(2,some [.mpc (.int .i64) (List.map prB a0.removed)]),(1,some [.own 1000001000,.ro (List.map Net.ds a0.book),.mpr 2])]⟩:=by
 unfold Cn at h
 refine Ay rfl rfl (Z ?_)
 cases h
 refine BD (.done _) [(1501,1000001000)] [(2,2),(1,1)] ?_
 simp only [go_sem]
theorem GH (a0:Rewriter) (u:Int × Bool) (w:Int) (y:Int) (r:Int × Int × Int × Int) (h:CJ a0 u w y=some r):DB Tryz.prog Tryz.f98 [1,1,1,1] (.tup [.int .i64 r.1,.int .i64 r.2.1,.int .i64 r.2.2.1,.int .i64 r.2.2.2]) [(1501,⟨List.map Agent.dm a0.net.agents,some 5,0,true⟩)] [(1,[.own 1501,.ro (List.map Net.ds a0.book),.mpr 2]),(2,[.mpc (.int .i64) (List.map prB a0.removed)])] ⟨[(0,.box 1 0),(4,.int .i64 u.1),(5,.int .i64 w),(6,.int .i64 y)],[(1000000000,some ⟨List.map Agent.dm a0.net.agents,some 5,0,true⟩)],[(2,some [.mpc (.int .i64) (List.map prB a0.removed)]),(1,some [.own 1000000000,.ro (List.map Net.ds a0.book),.mpr 2])]⟩:=by
 unfold CJ at h
 refine Ay rfl rfl (Z ?_)
 refine AB h (fun h=>Z ?_) (fun h=>Z ?_)
 ·cases h
  refine BD (.done _) [(1501,1000000000)] [(2,2),(1,1)] ?_
  simp only [go_sem]
 ·refine AB h (fun h=>Z ?_) (fun h=>Z ?_)
  ·replace h:=AD h; obtain⟨q,g,h⟩:=h
   refine AM g (Agent.dm_len _) (Z ?_)
   refine Ai (AW g) (Z ?_)
   refine AF ?_
   refine AX [] .fin (by kernel_rfl) (Z ?_)
   refine AF ?_
   refine AB h (fun h=>Z ?_) (fun h=>Z ?_)
   ·cases h
    refine BD (.done _) [(1501,1000000000)] [(2,2),(1,1)] ?_
    simp only [go_sem]
   ·refine AF ?_
    refine AX [false,false,false,false,false,false,false,false,false,false,false,false,false,false,false,true,true] (Tr.sq [15,16] .fin) (by kernel_rfl) (Z ?_)
    replace h:=AD h; obtain⟨j,k,h⟩:=h
    refine AM k (Net.ds_len _) (Z ?_)
    replace h:=AD h; obtain⟨b,d,h⟩:=h
    refine AI (NC _ _ _ d) (Z ?_)
    refine AF ?_
    refine AB h (fun h=>Z ?_) (fun h=>Z ?_)
    ·cases h
     refine BD (.done _) [(1501,1000000000)] [(2,2),(1,1)] ?_
     simp only [go_sem]
    ·exact A9 (GG a0 w y u _ h) [(1000001000,1000000000)] [(2,2),(1,1)]
  ·exact A9 (GG a0 w y u _ h) [(1000001000,1000000000)] [(2,2),(1,1)]
theorem Lg (a0 a1 r) (h:B6 a0 a1=some r):AG Tryz.prog 98 [.box 1 0,.agg [.int .i64 a1.a,.int .i64 a1.b]] [(1001,⟨List.map Agent.dm a0.net.agents,some 5,0,true⟩)] [(2,[.mpc (.int .i64) (List.map prB a0.removed)]),(1,[.own 1001,.ro (List.map Net.ds a0.book),.mpr 2])] (.tup [.int .i64 r.1,.int .i64 r.2.1,.int .i64 r.2.2.1,.int .i64 r.2.2.2]) [(1501,⟨List.map Agent.dm a0.net.agents,some 5,0,true⟩)] [(1,[.own 1501,.ro (List.map Net.ds a0.book),.mpr 2]),(2,[.mpc (.int .i64) (List.map prB a0.removed)])] :=by
 unfold B6 at h
 refine agF Tryz.func98 mixed (h:=Z ?_)
 refine AX [] .fin (by kernel_rfl) (Z ?_)
 replace h:=AD h; obtain⟨u,w,h⟩:=h
 refine AI (MJ (Nr _ _ _ w) (.cons (.rop rfl) (.cons (.refl _) .nil))) (Z ?_)
 refine AF ?_
 refine AX [] .fin (by kernel_rfl) (Z ?_)
 refine AF ?_
 refine AB h (fun h=>Z ?_) (fun h=>Z ?_)
 ·exact A9 (GH a0 u a1.b a1.a _ h) [(1000000000,1001)] [(2,2),(1,1)]
 ·exact A9 (GH a0 u a1.a a1.b _ h) [(1000000000,1001)] [(2,2),(1,1)]
theorem K4 (a1:Int) (u:Int) (w:Bool) (r:Int × Int) (h:Gu a1 u w=some r):Aw Tryz.prog Tryz.f197 [1,1,1,0,1] (.tup [.int .i64 r.1,.int .i64 r.2]) ⟨[(1,.int .i64 a1),(8,.int .i64 u),(30,.bool w)],[],[]⟩:=by
 unfold Gu at h
 refine AN rfl rfl (Z ?_)
 refine AB h (fun h=>Z ?_) (fun h=>Z ?_)
 ·cases h
  simp only [go_sem]
 ·refine AF ?_
  cases h
  simp only [go_sem]
theorem Dy (a1:Int) (u:Int) (w:Int) (y:Int) (r:Int × Int) (h:C0 a1 u w y=some r):Aw Tryz.prog Tryz.f197 [1,1,1] (.tup [.int .i64 r.1,.int .i64 r.2]) ⟨[(1,.int .i64 a1),(6,.int .i64 u),(7,.int .i64 w),(8,.int .i64 y)],[],[]⟩:=by
 unfold C0 at h
 refine AN rfl rfl (Z ?_)
 refine AB h (fun h=>Z ?_) (fun h=>Z ?_)
 ·exact AT (K4 a1 y true _ h) [] []
 ·exact AT (K4 a1 y (decide (w<a1)) _ h) [] []
theorem K5 (a0:Int) (a1:Int) (u:Bool) (r:Int × Int) (h:Gv a0 a1 u=some r):Aw Tryz.prog Tryz.f197 [1,1,0,1,0,1] (.tup [.int .i64 r.1,.int .i64 r.2]) ⟨[(1,.int .i64 a1),(6,.int .i64 0),(7,.int .i64 0),(8,.int .i64 0),(9,.int .i64 a0),(10,.bool u)],[],[]⟩:=by
 unfold Gv at h
 refine AN rfl rfl (Z ?_)
 refine AB h (fun h=>Z ?_) (fun h=>Z ?_)
 ·exact AT (Dy a1 0 0 (-2) _ h) [] []
 ·refine AB h (fun h=>Z ?_) (fun h=>Z ?_)
  ·exact AT (Dy a1 0 3 0 _ h) [] []
  ·refine AB h (fun h=>Z ?_) (fun h=>Z ?_)
   ·exact AT (Dy a1 0 3 (-2) _ h) [] []
   ·refine AB h (fun h=>Z ?_) (fun h=>Z ?_)
    ·exact AT (Dy a1 0 0 (-1) _ h) [] []
    ·refine AB h (fun h=>Z ?_) (fun h=>Z ?_)
     ·exact AT (Dy a1 0 3 (-1) _ h) [] []
     ·refine AB h (fun h=>Z ?_) (fun h=>Z ?_)
      ·exact AT (Dy a1 2 600 (-2) _ h) [] []
      ·cases h
       simp only [go_sem]
theorem UJ (a0 a1 r) (h:Km a0 a1=some r):AC Tryz.prog 197 [.int .i64 a0,.int .i64 a1] (.tup [.int .i64 r.1,.int .i64 r.2]):=by
 unfold Km at h
 refine acF Tryz.func197 mixed (h:=Z ?_)
 refine AB h (fun h=>Z ?_) (fun h=>Z ?_)
 ·exact AT (K5 a0 a1 (decide (a0=1)) _ h) [] []
 ·exact AT (K5 a0 a1 (decide (a0=2)) _ h) [] []
theorem B7 (a0:Rewriter) (a1:Int) (u:Int) (r:Int) (h:A7 a0 a1 u=some r):DB Tryz.prog Tryz.f139 [1,1,1] (.int .i64 r) [(1501,⟨List.map Agent.dm a0.net.agents,some 5,0,true⟩)] [(1,[.own 1501,.ro (List.map Net.ds a0.book),.mpr 2]),(2,[.mpc (.int .i64) (List.map prB a0.removed)])] ⟨[(1,.int .i64 a1),(9,.int .i64 u)],[(1000001000,some ⟨List.map Agent.dm a0.net.agents,some 5,0,true⟩)],[(2,some [.mpc (.int .i64) (List.map prB a0.removed)]),(1,some [.own 1000001000,.ro (List.map Net.ds a0.book),.mpr 2])]⟩:=by
 unfold A7 at h
 refine Ay rfl rfl (Z ?_)
 replace h:=AD h; obtain⟨w,y,h⟩:=h
 refine AI (UJ _ _ _ y) (Z ?_)
 refine AF ?_
 cases h
 refine BD (.done _) [(1501,1000001000)] [(2,2),(1,1)] ?_
 simp only [go_sem]
theorem Fm (a0:Rewriter) (a1:Int) (a2:Int) (a3:Int) (u:Bool) (r:Int) (h:CX a0 a1 a2 a3 u=some r):DB Tryz.prog Tryz.f139 [1,1,0,1,0,1] (.int .i64 r) [(1501,⟨List.map Agent.dm a0.net.agents,some 5,0,true⟩)] [(1,[.own 1501,.ro (List.map Net.ds a0.book),.mpr 2]),(2,[.mpc (.int .i64) (List.map prB a0.removed)])] ⟨[(0,.box 1 0),(1,.int .i64 a1),(2,.int .i64 a2),(3,.int .i64 a3),(9,.int .i64 0),(12,.int .i64 a1),(13,.bool u)],[(1000000000,some ⟨List.map Agent.dm a0.net.agents,some 5,0,true⟩)],[(2,some [.mpc (.int .i64) (List.map prB a0.removed)]),(1,some [.own 1000000000,.ro (List.map Net.ds a0.book),.mpr 2])]⟩:=by
 unfold CX at h
 refine Ay rfl rfl (Z ?_)
 refine AB h (fun h=>Z ?_) (fun h=>Z ?_)
 ·replace h:=AD h; obtain⟨w,y,h⟩:=h
  refine AM y (Agent.dm_len _) (Z ?_)
  refine Ai (AW y) (Z ?_)
  refine Ai (Eg (sz:=5) (j:=4) (r:=List.map Port.ds w.ports) (AW (f:=Agent.dm) y) (Agent.dm_len _) (by rw [Agent.dm_eq]; rfl)) (Z ?_)
  exact A9 (B7 a0 a1 (IntKind.i64.wrap (((List.length w.ports:Nat):Int) - 1)) _ h) [(1000001000,1000000000)] [(2,2),(1,1)]
 ·refine AB h (fun h=>Z ?_) (fun h=>Z ?_)
  ·replace h:=AD h; obtain⟨q,g,h⟩:=h
   refine AM g (Agent.dm_len _) (Z ?_)
   refine Ai (AW g) (Z ?_)
   refine AB h (fun h=>Z ?_) (fun h=>Z ?_)
   ·replace h:=AD h; obtain⟨k,b,h⟩:=h
    refine AM b (Agent.dm_len _) (Z ?_)
    refine Ai (AW b) (Z ?_)
    refine Ai (Eg (sz:=5) (j:=4) (r:=List.map Port.ds k.ports) (AW (f:=Agent.dm) b) (Agent.dm_len _) (by rw [Agent.dm_eq]; rfl)) (Z ?_)
    exact A9 (B7 a0 a1 (IntKind.i64.wrap (((List.length k.ports:Nat):Int) - 1)) _ h) [(1000001000,1000000000)] [(2,2),(1,1)]
   ·exact A9 (B7 a0 a1 0 _ h) [(1000001000,1000000000)] [(2,2),(1,1)]
  ·refine AB h (fun h=>Z ?_) (fun h=>Z ?_)
   ·refine AX [] .fin (by kernel_rfl) (Z ?_)
    replace h:=AD h; obtain⟨d,c,h⟩:=h
    refine AM c (Agent.dm_len _) (Z ?_)
    refine Ai (AW c) (Z ?_)
    replace h:=AD h; obtain⟨e,i,h⟩:=h
    refine AM i (Net.ds_len _) (Z ?_)
    exact A9 (B7 a0 a1 ((List.length e.agents:Nat):Int) _ h) [(1000001000,1000000000)] [(2,2),(1,1)]
   ·exact A9 (B7 a0 a1 0 _ h) [(1000001000,1000000000)] [(2,2),(1,1)]
theorem K6 (a0 a1 a2 a3 r) (h:DU a0 a1 a2 a3=some r):AG Tryz.prog 139 [.box 1 0,.int .i64 a1,.int .i64 a2,.int .i64 a3] [(1001,⟨List.map Agent.dm a0.net.agents,some 5,0,true⟩)] [(2,[.mpc (.int .i64) (List.map prB a0.removed)]),(1,[.own 1001,.ro (List.map Net.ds a0.book),.mpr 2])] (.int .i64 r) [(1501,⟨List.map Agent.dm a0.net.agents,some 5,0,true⟩)] [(1,[.own 1501,.ro (List.map Net.ds a0.book),.mpr 2]),(2,[.mpc (.int .i64) (List.map prB a0.removed)])] :=by
 unfold DU at h
 refine agF Tryz.func139 mixed (h:=Z ?_)
 refine AB h (fun h=>Z ?_) (fun h=>Z ?_)
 ·exact A9 (Fm a0 a1 a2 a3 (decide (a1=3)) _ h) [(1000000000,1001)] [(2,2),(1,1)]
 ·exact A9 (Fm a0 a1 a2 a3 (decide (a1=4)) _ h) [(1000000000,1001)] [(2,2),(1,1)]
end Go.Proofs.YtckcfdggbbabfaaGreat.Ab
