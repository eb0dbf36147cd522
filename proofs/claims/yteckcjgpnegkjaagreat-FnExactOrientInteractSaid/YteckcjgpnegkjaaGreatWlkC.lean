/-
 The functions do what their models say. Printed by wip/ab/gen.py.
-/
import Derived.Test.YteckcjgpnegkjaaGreatModC
import Derived.Test.YteckcjgpnegkjaaGreatTi2
import Derived.Test.YteckcjgpnegkjaaGreatWlkL
namespace Go.Proofs.YteckcjgpnegkjaaGreat.Ab
set_option linter.defProp false
set_option linter.unusedVariables false
set_option linter.unusedSimpArgs false
set_option maxRecDepth 20000
set_option maxHeartbeats 4000000
open Go.RowKit
theorem Jj (a0:Int) (a1:Int) (a2:Int) (u:Bool) (r:Bool) (h:FI a0 a1 a2 u=some r):Af Tryz.prog Tryz.f158 [1,0,1] (.bool r) ⟨[(0,.int .i64 a0),(1,.int .i64 a1),(2,.int .i64 a2),(15,.bool u)],[],[]⟩:=by
 unfold FI at h
 refine AN rfl rfl (Z ?_)
 refine AB h (fun h=>Z ?_) (fun h=>Z ?_)
 ·cases h
  simp only [go_sem]
 ·refine AF ?_
  refine AB h (fun h=>Z ?_) (fun h=>Z ?_)
  ·refine AF ?_
   cases h
   simp only [go_sem]
  ·refine AB h (fun h=>Z ?_) (fun h=>Z ?_)
   ·refine AF ?_
    cases h
    simp only [go_sem]
   ·replace h:=AD h; obtain⟨w,y,h⟩:=h
    refine AH (KI _ _ y) (Z ?_)
    refine AB h (fun h=>Z ?_) (fun h=>Z ?_)
    ·refine AF ?_
     cases h
     simp only [go_sem]
    ·refine AF ?_
     cases h
     simp only [go_sem]
theorem Qx (a0 a1 a2 r) (h:HB a0 a1 a2=some r):AC Tryz.prog 158 [.int .i64 a0,.int .i64 a1,.int .i64 a2] (.bool r):=by
 unfold HB at h
 refine acF Tryz.func158 mixed (h:=Z ?_)
 replace h:=AD h; obtain⟨u,w,h⟩:=h
 refine AH (PS _ _ w) (Z ?_)
 refine AB h (fun h=>Z ?_) (fun h=>Z ?_)
 ·exact AR (Jj a0 a1 a2 true _ h) [] []
 ·replace h:=AD h; obtain⟨y,q,h⟩:=h
  refine AH (HW _ _ _ q) (Z ?_)
  exact AR (Jj a0 a1 a2 (!y) _ h) [] []
theorem Qy (a0 r) (h:HC a0=some r):AC Tryz.prog 159 [.int .i64 a0] (.bool r):=by
 unfold HC at h
 refine acF Tryz.func159 mixed (h:=Z ?_)
 refine AB h (fun h=>Z ?_) (fun h=>Z ?_)
 ·refine AF ?_
  cases h
  simp only [go_sem]
 ·refine AB h (fun h=>Z ?_) (fun h=>Z ?_)
  ·refine AF ?_
   cases h
   simp only [go_sem]
  ·refine AB h (fun h=>Z ?_) (fun h=>Z ?_)
   ·refine AF ?_
    cases h
    simp only [go_sem]
   ·refine AB h (fun h=>Z ?_) (fun h=>Z ?_)
    ·refine AF ?_
     cases h
     simp only [go_sem]
    ·refine AF ?_
     cases h
     simp only [go_sem]
theorem Lo (a1:Int) (a2:Int) (a3:Int) (u:Bool) (r:Int) (h:HD a1 a2 a3 u=some r):Af Tryz.prog Tryz.f141 [1,0,1,0,1,1,1,0,0,1] (.int .i64 r) ⟨[(1,.int .i64 a1),(2,.int .i64 a2),(3,.int .i64 a3),(14,.bool u)],[],[]⟩:=by
 unfold HD at h
 refine AN rfl rfl (Z ?_)
 refine AB h (fun h=>Z ?_) (fun h=>Z ?_)
 ·cases h
  simp only [go_sem]
 ·replace h:=AD h; obtain⟨w,y,h⟩:=h
  refine AH (Qx _ _ _ _ y) (Z ?_)
  refine AF ?_
  refine AB h (fun h=>Z ?_) (fun h=>Z ?_)
  ·cases h
   simp only [go_sem]
  ·refine AF ?_
   cases h
   simp only [go_sem]
theorem Lp (u:Bool) (r:Int) (h:HE u=some r):Af Tryz.prog Tryz.f141 [1,0,1,0,1,1,1,1,1,0,1] (.int .i64 r) ⟨[(35,.bool u)],[],[]⟩:=by
 unfold HE at h
 refine AN rfl rfl (Z ?_)
 refine AB h (fun h=>Z ?_) (fun h=>Z ?_)
 ·cases h
  simp only [go_sem]
 ·refine AF ?_
  cases h
  simp only [go_sem]
theorem Lq (a2:Int) (u:Bool) (r:Int) (h:HF a2 u=some r):Af Tryz.prog Tryz.f141 [1,0,1,0,1,1,1,1,1,1,1,0,1,0,1] (.int .i64 r) ⟨[(38,.int .i64 a2),(39,.bool u)],[],[]⟩:=by
 unfold HF at h
 refine AN rfl rfl (Z ?_)
 refine AB h (fun h=>Z ?_) (fun h=>Z ?_)
 ·cases h
  simp only [go_sem]
 ·refine AB h (fun h=>Z ?_) (fun h=>Z ?_)
  ·cases h
   simp only [go_sem]
  ·refine AF ?_
   cases h
   simp only [go_sem]
theorem PT (a0 a1 a2 a3 r) (h:I4 a0 a1 a2 a3=some r):AC Tryz.prog 141 [.int .i64 a0,.int .i64 a1,.int .i64 a2,.int .i64 a3] (.int .i64 r):=by
 unfold I4 at h
 refine acF Tryz.func141 mixed (h:=Z ?_)
 refine AB h (fun h=>Z ?_) (fun h=>Z ?_)
 ·cases h
  simp only [go_sem]
 ·refine AB h (fun h=>Z ?_) (fun h=>Z ?_)
  ·refine AB h (fun h=>Z ?_) (fun h=>Z ?_)
   ·exact AR (Lo a1 a2 a3 (decide (a1=a3)) _ h) [] []
   ·exact AR (Lo a1 a2 a3 false _ h) [] []
  ·refine AB h (fun h=>Z ?_) (fun h=>Z ?_)
   ·refine AB h (fun h=>Z ?_) (fun h=>Z ?_)
    ·exact AR (Lp (decide (a1=a3)) _ h) [] []
    ·exact AR (Lp false _ h) [] []
   ·refine AB h (fun h=>Z ?_) (fun h=>Z ?_)
    ·refine AB h (fun h=>Z ?_) (fun h=>Z ?_)
     ·exact AR (Lq a2 (decide (a2=7)) _ h) [] []
     ·exact AR (Lq a2 (decide (a2=8)) _ h) [] []
    ·refine AB h (fun h=>Z ?_) (fun h=>Z ?_)
     ·refine AB h (fun h=>Z ?_) (fun h=>Z ?_)
      ·cases h
       simp only [go_sem]
      ·refine AF ?_
       cases h
       simp only [go_sem]
     ·refine AB h (fun h=>Z ?_) (fun h=>Z ?_)
      ·replace h:=AD h; obtain⟨u,w,h⟩:=h
       refine AH (Qy _ _ w) (Z ?_)
       refine AF ?_
       refine AB h (fun h=>Z ?_) (fun h=>Z ?_)
       ·cases h
        simp only [go_sem]
       ·refine AF ?_
        cases h
        simp only [go_sem]
      ·refine AF ?_
       cases h
       simp only [go_sem]
theorem HX (a0:Int) (a1:Int) (a2:Int) (a3:Int) (u:Bool) (r:Int × Int) (h:Fe a0 a1 a2 a3 u=some r):Af Tryz.prog Tryz.f113 [1,0,1] (.tup [.int .i64 r.1,.int .i64 r.2]) ⟨[(0,.int .i64 a0),(1,.int .i64 a1),(2,.int .i64 a2),(3,.int .i64 a3),(29,.bool u)],[],[]⟩:=by
 unfold Fe at h
 refine AN rfl rfl (Z ?_)
 refine AB h (fun h=>Z ?_) (fun h=>Z ?_)
 ·cases h
  simp only [go_sem]
 ·refine AF ?_
  replace h:=AD h; obtain⟨w,y,h⟩:=h
  refine AH (PT _ _ _ _ _ y) (Z ?_)
  refine AF ?_
  refine AB h (fun h=>Z ?_) (fun h=>Z ?_)
  ·cases h
   simp only [go_sem]
  ·refine AF ?_
   replace h:=AD h; obtain⟨q,g,h⟩:=h
   refine AH (PT _ _ _ _ _ g) (Z ?_)
   refine AF ?_
   refine AB h (fun h=>Z ?_) (fun h=>Z ?_)
   ·cases h
    simp only [go_sem]
   ·refine AF ?_
    cases h
    simp only [go_sem]
theorem XX (a0 a1 a2 a3 r) (h:MX a0 a1 a2 a3=some r):AC Tryz.prog 113 [.int .i64 a0,.int .i64 a1,.int .i64 a2,.int .i64 a3] (.tup [.int .i64 r.1,.int .i64 r.2]):=by
 unfold MX at h
 refine acF Tryz.func113 mixed (h:=Z ?_)
 refine AB h (fun h=>Z ?_) (fun h=>Z ?_)
 ·exact AR (HX a0 a1 a2 a3 true _ h) [] []
 ·refine AB h (fun h=>Z ?_) (fun h=>Z ?_)
  ·exact AR (HX a0 a1 a2 a3 true _ h) [] []
  ·replace h:=AD h; obtain⟨u,w,h⟩:=h
   refine AH (HW _ _ _ w) (Z ?_)
   refine AB h (fun h=>Z ?_) (fun h=>Z ?_)
   ·exact AR (HX a0 a1 a2 a3 true _ h) [] []
   ·replace h:=AD h; obtain⟨y,q,h⟩:=h
    refine AH (HW _ _ _ q) (Z ?_)
    exact AR (HX a0 a1 a2 a3 (!y) _ h) [] []
theorem GN (u:Int × Int) (w:Bool) (r:Int × Bool) (h:Dl u w=some r):Af Tryz.prog Tryz.f68 [1,1,1,1,0,1] (.tup [.int .i64 r.1,.bool r.2]) ⟨[(8,.int .i64 u.1),(9,.int .i64 u.2),(56,.bool w)],[],[]⟩:=by
 unfold Dl at h
 refine AN rfl rfl (Z ?_)
 refine AB h (fun h=>Z ?_) (fun h=>Z ?_)
 ·cases h
  simp only [go_sem]
 ·refine AF ?_
  cases h
  simp only [go_sem]
theorem Ig (u:Int × Int) (w:Int) (y:Int) (q:Int) (g:List Int) (j:List Port) (k:Int) (b:Int) (d:Int) (c:List Int) (e:List Port) (r:Int × Bool) (h:Dm u w y q g j k b d c e=some r):Af Tryz.prog Tryz.f68 [1,1,1,1] (.tup [.int .i64 r.1,.bool r.2]) ⟨[(6,.box 1000000500 0),(7,.box 1000000501 0),(8,.int .i64 u.1),(9,.int .i64 u.2)],[],[(1000000500,some [.int .i64 w,.int .i64 y,.int .i64 q,.ro (g.map Ar),.ro (j.map Port.ds)]),(1000000501,some [.int .i64 k,.int .i64 b,.int .i64 d,.ro (c.map Ar),.ro (e.map Port.ds)])]⟩:=by
 unfold Dm at h
 refine AN rfl rfl (Z ?_)
 refine AB h (fun h=>Z ?_) (fun h=>Z ?_)
 ·refine AB h (fun h=>Z ?_) (fun h=>Z ?_)
  ·exact AR (GN u (decide ((c.length:Int)≤q)) _ h) [] []
  ·exact AR (GN u false _ h) [] []
 ·exact AR (GN u false _ h) [] []
theorem QJ (a0 a1 r) (h:GR a0 a1=some r):AC Tryz.prog 68 [.rop (Net.avs a0) 0,.agg (Pair.avs a1)] (.tup [.int .i64 r.1,.bool r.2]):=by
 unfold GR at h
 refine acF Tryz.func68 mixed (h:=Z ?_)
 refine cm [] [(16,18),(17,19)] .fin (by kernel_rfl) (Z ?_)
 replace h:=AD h; obtain⟨u,w,h⟩:=h
 refine AL w (Agent.ds_len _) (Z ?_)
 replace h:=AD h; obtain⟨y,q,h⟩:=h
 refine AL q (Agent.ds_len _) (Z ?_)
 refine ZL _ (by rfl) (by (first|(simp only [go_sem]; done)|(simp only [go_sem]; decide)|decide)) (by rfl) (Z ?_)
 refine ZL _ (by rfl) (by (first|(simp only [go_sem]; done)|(simp only [go_sem]; decide)|decide)) (by rfl) (Z ?_)
 refine iQ (by refine⟨by rfl,by rfl,trivial⟩) (Z ?_)
 refine AF ?_
 replace h:=AD h; obtain⟨g,j,h⟩:=h
 refine AH (XX _ _ _ _ _ j) (Z ?_)
 refine AF ?_
 refine AB h (fun h=>Z ?_) (fun h=>Z ?_)
 ·exact AR (Ig g y.kind y.level y.value y.data y.ports u.kind u.level u.value u.data u.ports _ h) [] [(1000000500,2016),(1000000501,2017)]
 ·exact AR (Ig g u.kind u.level u.value u.data u.ports y.kind y.level y.value y.data y.ports _ h) [] [(1000000500,2016),(1000000501,2017)]
theorem OW (n:Nat):(∀a0 u w r,Bs n a0 u w=some r→Af Tryz.prog Tryz.f66 [1,1,0,1,0] (.ow (some 2) (r.map Pair.ds)) ⟨[(3,.own 1000000000),(10,.ro (a0.agents.map Agent.ds)),(11,.int .i64 (a0.agents.length:Int)),(12,.int .i64 w)],[(1000000000,some ⟨List.map Pair.ds u,some 2,0,false⟩)],[]⟩)∧
    (∀a0 u w y q r,DC n a0 u w y q=some r→Af Tryz.prog Tryz.f66 [1,1,0,1,0,0,1,1,0,0,1,1,1] (.ow (some 2) (r.map Pair.ds)) ⟨[(3,.own 1000001000),(4,.int .i64 w),(6,.box 1000001500 0),(10,.ro (a0.agents.map Agent.ds)),(11,.int .i64 (a0.agents.length:Int)),(12,.int .i64 w),(34,.bool q)],[(1000001000,some ⟨List.map Pair.ds u,some 2,0,false⟩)],[(1000001500,some [.int .i64 y.agent,.int .i64 y.slot])]⟩):=by
 induction n with
 |zero=>exact⟨(fun _ _ _ _ h=>by rw [Bs] at h; cases h),(fun _ _ _ _ _ _ h=>by rw [DC] at h; cases h)⟩
 | succ n ih=>
  obtain⟨ih0,ih1⟩:=ih
  refine⟨?_,?_⟩
  ·intro a0 u w r h
   rw [Bs] at h
   refine AN rfl rfl (Z ?_)
   refine AY (Z ?_)
   refine AB h (fun h=>Z ?_) (fun h=>Z ?_)
   ·refine AF ?_
    replace h:=AD h; obtain⟨g,j,h⟩:=h
    refine AL j (Agent.ds_len _) (Z ?_)
    refine AF ?_
    replace h:=AD h; obtain⟨y,k,h⟩:=h
    refine AL k (Port.ds_len _) (Z ?_)
    refine AF ?_
    refine AB h (fun h=>Z ?_) (fun h=>Z ?_)
    ·refine AB h (fun h=>Z ?_) (fun h=>Z ?_)
     ·exact AR (ih1 a0 u w y (!decide (g.kind=1)) _ h) [(1000001000,1000000000)] [(1000001500,6004)]
     ·exact AR (ih1 a0 u w y false _ h) [(1000001000,1000000000)] [(1000001500,6004)]
    ·exact AR (ih1 a0 u w y false _ h) [(1000001000,1000000000)] [(1000001500,6004)]
   ·refine AF ?_
    cases h
    simp only [go_sem]
  ·intro a0 u w y q r h
   rw [DC] at h
   refine AN rfl rfl (Z ?_)
   refine AB h (fun h=>Z ?_) (fun h=>Z ?_)
   ·replace h:=AD h; obtain⟨b,d,h⟩:=h
    have hq_:=An d
    obtain⟨hv8006a,hv8006b⟩:=hq_
    refine C3 false (Z ?_)
    refine Al (by refine⟨?_,?_⟩ <;> (try simp only [List.length_map,List.length_append,List.length_cons,List.length_nil] at*) <;> (try unfold maxLen) <;> omega) (Z ?_)
    refine Ag (b.map Pair.ds) (by rw [← hv8006b]; simp only [List.map_append,List.map_cons,List.map_nil,List.nil_append,List.append_nil,go_sem,Pair.ds_eq]) (Z ?_)
    refine AF ?_
    exact lpF (ih0 a0 b (IntKind.i64.wrap (w+1)) _ h) [(1000000000,128096)] []
   ·refine AF ?_
    exact lpF (ih0 a0 u (IntKind.i64.wrap (w+1)) _ h) [(1000000000,1000001000)] []
def PU (n:Nat):=(OW n).1
theorem Sk (a0 r) (h:IC a0=some r):AC Tryz.prog 66 [.rop (Net.avs a0) 0] (.ow (some 2) (r.map Pair.ds)):=by
 unfold IC at h
 refine acF Tryz.func66 mixed (h:=Z ?_)
 refine D0 (DN rfl rfl (PU fuel a0 [] 0 _ h):) (.one ⟨_,.slot 3 2000000000 (some 2) false (by simp only [go_sem]) (by simp only [go_sem]) (.done _),[(1000000000,2000000000)],[],?_⟩)
 simp only [go_sem]
 all_goals try rfl
theorem Mn (a1:Int) (u:(List Pair)) (w:Bool) (r:Pair × Int) (h:Ff a1 u w=some r):Af Tryz.prog Tryz.f29 [1,1,1,0,1] (.tup [.agg (Pair.rv r.1),.int .i64 r.2]) ⟨[(1,.int .i64 a1),(4,.box 1000000500 0),(6,.own 1000000000),(19,.bool w)],[(1000000000,some ⟨List.map Pair.ds u,some 2,0,false⟩)],[(1000000500,some [.int .i64 0,.int .i64 0])]⟩:=by
 unfold Ff at h
 refine AN rfl rfl (Z ?_)
 refine AB h (fun h=>Z ?_) (fun h=>Z ?_)
 ·cases h
  simp only [go_sem]
 ·refine AF ?_
  replace h:=AD h; obtain⟨y,q,h⟩:=h
  refine AL q (Pair.ds_len _) (Z ?_)
  refine Aa (AS q) (Z ?_)
  cases h
  simp only [go_sem]
theorem XY (a0 a1 r) (h:MY a0 a1=some r):AC Tryz.prog 29 [.agg (Net.avs a0),.int .i64 a1] (.tup [.agg (Pair.rv r.1),.int .i64 r.2]):=by
 unfold MY at h
 refine acF Tryz.func29 mixed (h:=Z ?_)
 refine AF ?_
 replace h:=AD h; obtain⟨u,w,h⟩:=h
 refine AH (KJ _ _ w) (Z ?_)
 refine AF ?_
 refine AB h (fun h=>Z ?_) (fun h=>Z ?_)
 ·cases h
  simp only [go_sem]
 ·refine AF ?_
  replace h:=AD h; obtain⟨y,q,h⟩:=h
  refine AH (Sk _ _ q) (Z ?_)
  refine AF ?_
  refine AB h (fun h=>Z ?_) (fun h=>Z ?_)
  ·exact AR (Mn a1 y true _ h) [(1000000000,64000)] [(1000000500,1001)]
  ·exact AR (Mn a1 y (decide ((y.length:Int)≤a1)) _ h) [(1000000000,64000)] [(1000000500,1001)]
theorem Hd (a0 r) (h:Cs a0=some r):AC Tryz.prog 139 [.ro (a0.map Port.ds)] (.ow (some 2) (r.map Port.ds)):=by
 unfold Cs at h
 refine acF Tryz.func139 mixed (h:=Z ?_)
 refine de (by simp only [go_sem]) (fun h0=>?_) ?_
 ·try simp only [go_sem]
  have hq_:=List.map_eq_nil_iff.1 h0
  obtain rfl:=hq_
  obtain rfl:r=[] :=by cases h; rfl
  simp only [go_sem]
 ·try simp only [go_sem]
  refine AF ?_
  replace h:=AD h; obtain⟨u,w,h⟩:=h
  have hq_:=An w
  obtain⟨hv4002a,hv4002b⟩:=hq_
  refine C3 false (Z ?_)
  refine Al (G9 (by intro x; exact⟨(Port.ds_len _),by simp [Port.ds_eq,D.flat]⟩) _) (Z ?_)
  refine Al (by refine⟨?_,?_⟩ <;> (try simp only [List.length_map,List.length_append,List.length_cons,List.length_nil] at*) <;> (try unfold maxLen) <;> omega) (Z ?_)
  refine Ag (u.map Port.ds) (by rw [← hv4002b]; simp only [List.map_append,List.map_cons,List.map_nil,List.nil_append,List.append_nil,go_sem,Port.ds_eq]) (Z ?_)
  refine AF ?_
  cases h
  simp only [go_sem]
theorem Ih (a0 r) (h:Do a0=some r):AG Tryz.prog 117 [.ro (a0.map Ar)] [] [] (.ro (r.map Ar)) [] [] :=by
 unfold Do at h
 refine agF Tryz.func117 mixed (h:=Z ?_)
 refine de (by simp only [go_sem]) (fun h0=>?_) ?_
 ·try simp only [go_sem]
  have hq_:=List.map_eq_nil_iff.1 h0
  obtain rfl:=hq_
  obtain rfl:r=[] :=by cases h; rfl
  simp only [go_sem]
  refine BJ (.frzN [(0,[])] [] _ _ (by (first|rfl|(simp only [go_sem]; rfl))) (by (first|rfl|(simp only [go_sem]; rfl))) (.done _)) [] [] ?_
  simp only [go_sem]
  all_goals try rfl
 ·try simp only [go_sem]
  refine AF ?_
  replace h:=AD h; obtain⟨u,w,h⟩:=h
  have hq_:=An w
  obtain⟨hv4002a,hv4002b⟩:=hq_
  refine C3 false (Z ?_)
  refine Al (G9 (by intro x; exact⟨rfl,by simp [go_sem,D.flat]⟩) _) (Z ?_)
  refine Al (by refine⟨?_,?_⟩ <;> (try simp only [List.length_map,List.length_append,List.length_cons,List.length_nil] at*) <;> (try unfold maxLen) <;> omega) (Z ?_)
  refine Ag (u.map Ar) (by rw [← hv4002b]; simp only [List.map_append,List.map_cons,List.map_nil,List.nil_append,List.append_nil,go_sem,slD]) (Z ?_)
  refine AF ?_
  cases h
  refine BJ (.frzT 64032 [(0,[])] [] _ _ _ (by (first|rfl|(simp only [go_sem]; rfl))) (by decide) (by (first|rfl|(simp only [go_sem]; rfl))) (by (first|rfl|(simp only [go_sem]; rfl))) (.done _)) [] [] ?_
  simp only [go_sem]
  all_goals try rfl
theorem Hv (a0 r) (h:FO a0=some r):AG Tryz.prog 112 [.agg [.int .i64 a0.kind,.int .i64 a0.level,.int .i64 a0.value,.ro (a0.data.map Ar),.ro (a0.ports.map Port.ds)]] [] [] (.agg [.int .i64 r.kind,.int .i64 r.level,.int .i64 r.value,.ro (r.data.map Ar),.own 1501]) [(1501,⟨List.map Port.ds r.ports,some 2,0,false⟩)] [] :=by
 unfold FO at h
 refine agF Tryz.func112 mixed (h:=Z ?_)
 refine AF ?_
 refine AX [false,false,false,false,false,false,false,true,true,true] (Tr.sq [7,8,9] .fin) (by kernel_rfl) (Z ?_)
 replace h:=AD h; obtain⟨u,w,h⟩:=h
 refine db (Ih _ _ w) (by (first|rfl|(simp only [go_sem]; rfl))) (by first|rfl|(simp only [go_sem])) (Z ?_)
 replace h:=AD h; obtain⟨y,q,h⟩:=h
 refine AH (Hd _ _ q) (Z ?_)
 refine AF ?_
 cases h
 refine BJ (.done _) [(1501,32080)] [] ?_
 simp only [go_sem]
theorem PV (n:Nat):(∀a0 u w r,Du n a0 u w=some r→DB Tryz.prog Tryz.f67 [1,1,0,1,0] (.agg [.own 1501]) [(1501,⟨List.map Agent.dm r.agents,some 5,0,true⟩)] [] ⟨[(2,.box 1000001500 0),(3,.box 1000001501 0),(12,.ro (a0.agents.map Agent.ds)),(13,.int .i64 (a0.agents.length:Int)),(14,.int .i64 w)],[(1000001000,some ⟨List.map Agent.dm u,some 5,0,true⟩)],[(1000001500,some [.nils]),(1000001501,some [.own 1000001000])]⟩):=by
 induction n with
 |zero=>exact((fun _ _ _ _ h=>by rw [Du] at h; cases h))
 | succ n ih=>
  have ih0:=ih
  ·intro a0 u w r h
   rw [Du] at h
   refine Aq rfl rfl (Z ?_)
   refine AY (Z ?_)
   refine AB h (fun h=>Z ?_) (fun h=>Z ?_)
   ·refine AF ?_
    replace h:=AD h; obtain⟨y,q,h⟩:=h
    refine AL q (Agent.ds_len _) (Z ?_)
    refine AF ?_
    replace h:=AD h; obtain⟨g,j,h⟩:=h
    replace h:=AD h; obtain⟨k,b,h⟩:=h
    refine AX [false,true,true,true,true,true,true,true] (.br 1 (Tr.sq [2,3,4,5,6,7] .fin) (.br 2 (.br 1 (Tr.sq [3,4,5,6,7] .fin) (.br 3 (.br 1 (Tr.sq [4,5,6,7] .fin) (.br 4 (Tr.sq [1,5,6,7] .fin) .stop)) .stop)) .stop)) (by kernel_rfl) ?_
    try simp only [go_sem]
    refine Bj ?_ ?_
    ·try simp only [go_sem]
     refine caG ⟨[],[],[],[(1501,96048)],[],true⟩ (Hv _ _ j) (Z ?_)
     have hq_:=An b
     obtain⟨hv6005a,hv6005b⟩:=hq_
     refine C3 true (Z ?_)
     refine Al (by refine⟨?_,?_⟩ <;> (try simp only [List.length_map,List.length_append,List.length_cons,List.length_nil] at*) <;> (try unfold maxLen) <;> omega) (Z ?_)
     refine Ag (k.map Agent.dm) (by rw [← hv6005b]; simp only [List.map_append,List.map_cons,List.map_nil,List.nil_append,List.append_nil,go_sem,Agent.ds_eq,Agent.dm_eq]) (Z ?_)
     refine AF ?_
     exact lpG (ih0 a0 k (IntKind.i64.wrap (w+1)) _ h) [(1000001000,96080)] [(1000001500,1000001500),(1000001501,1000001501)]
    ·try simp only [go_sem]
     refine Bj (Z ?_) (Z ?_)
     ·refine caG ⟨[],[],[],[(1501,96048)],[],true⟩ (Hv _ _ j) (Z ?_)
      have hq_:=An b
      obtain⟨hv6005a,hv6005b⟩:=hq_
      refine C3 true (Z ?_)
      refine Al (by refine⟨?_,?_⟩ <;> (try simp only [List.length_map,List.length_append,List.length_cons,List.length_nil] at*) <;> (try unfold maxLen) <;> omega) (Z ?_)
      refine Ag (k.map Agent.dm) (by rw [← hv6005b]; simp only [List.map_append,List.map_cons,List.map_nil,List.nil_append,List.append_nil,go_sem,Agent.ds_eq,Agent.dm_eq]) (Z ?_)
      refine AF ?_
      exact lpG (ih0 a0 k (IntKind.i64.wrap (w+1)) _ h) [(1000001000,96080)] [(1000001500,1000001500),(1000001501,1000001501)]
     ·refine caG ⟨[],[],[],[(1501,96048)],[],true⟩ (Hv _ _ j) ?_
      try simp only [go_sem]
      refine Bj (Z ?_) (Z ?_)
      ·have hq_:=An b
       obtain⟨hv6005a,hv6005b⟩:=hq_
       refine C3 true (Z ?_)
       refine Al (by refine⟨?_,?_⟩ <;> (try simp only [List.length_map,List.length_append,List.length_cons,List.length_nil] at*) <;> (try unfold maxLen) <;> omega) (Z ?_)
       refine Ag (k.map Agent.dm) (by rw [← hv6005b]; simp only [List.map_append,List.map_cons,List.map_nil,List.nil_append,List.append_nil,go_sem,Agent.ds_eq,Agent.dm_eq]) (Z ?_)
       refine AF ?_
       exact lpG (ih0 a0 k (IntKind.i64.wrap (w+1)) _ h) [(1000001000,96080)] [(1000001500,1000001500),(1000001501,1000001501)]
      ·have hq_:=An b
       obtain⟨hv6005a,hv6005b⟩:=hq_
       refine C3 true (Z ?_)
       refine Al (by refine⟨?_,?_⟩ <;> (try simp only [List.length_map,List.length_append,List.length_cons,List.length_nil] at*) <;> (try unfold maxLen) <;> omega) (Z ?_)
       refine Ag (k.map Agent.dm) (by rw [← hv6005b]; simp only [List.map_append,List.map_cons,List.map_nil,List.nil_append,List.append_nil,go_sem,Agent.ds_eq,Agent.dm_eq]) (Z ?_)
       refine AF ?_
       exact lpG (ih0 a0 k (IntKind.i64.wrap (w+1)) _ h) [(1000001000,96080)] [(1000001500,1000001500),(1000001501,1000001501)]
   ·refine AF ?_
    cases h
    refine BJ (.done _) [(1501,1000001000)] [] ?_
    simp only [go_sem]
theorem Sl (a0 r) (h:ID a0=some r):AG Tryz.prog 67 [.agg [.ro (a0.agents.map Agent.ds)]] [] [] (.agg [.own 1501]) [(1501,⟨List.map Agent.dm r.agents,some 5,0,true⟩)] [] :=by
 unfold ID at h
 refine agF Tryz.func67 mixed (h:=Z ?_)
 refine AF ?_
 replace h:=AD h; obtain⟨u,w,h⟩:=h
 have hq_:=G8 w
 obtain⟨hv2003a,hv2003b,hv2003c⟩:=hq_
 refine Al (by unfold leX; omega) (Z ?_)
 refine Al (by refine⟨?_,?_,?_⟩ <;> omega) (Z ?_)
 refine Ag [] (by rfl) (Z ?_)
 refine AF ?_
 exact loG (PV fuel a0 [] 0 _ h) [(1000001000,32048)] [(1000001500,1001),(1000001501,2005)]
theorem Kz (a0 a1 r) (h:FP a0 a1=some r):AG Tryz.prog 30 [.ro (a0.map Net.ds),.agg [.ro (a1.agents.map Agent.ds)]] [] [] (.box 1601 0) [(1501,⟨List.map Agent.dm r.net.agents,some 5,0,true⟩)] [(1601,[.own 1501,.ro (r.book.map Net.ds),.mpr 1602]),(1602,[.mpc (.int .i64) (r.removed.map prB)])] :=by
 unfold FP at h
 refine agF Tryz.func30 mixed (h:=Z ?_)
 replace h:=AD h; obtain⟨u,w,h⟩:=h
 refine caG ⟨[],[],[],[(1501,32016)],[],true⟩ (Sl _ _ w) (Z ?_)
 refine AF ?_
 cases h
 refine BJ (.done _) [(1501,32016)] [(1601,2005),(1602,2003)] ?_
 simp only [go_sem]
theorem FW (a0 a1 a2 r) (h:Ca a0 a1 a2=some r):AG Tryz.prog 116 [.box 1 0,.agg [.int .i64 a1.agent,.int .i64 a1.slot],.agg [.int .i64 a2.agent,.int .i64 a2.slot]] [(1001,⟨List.map Agent.dm a0.agents,some 5,0,true⟩)] [(1,[.own 1001])] (.tup []) [(1501,⟨List.map Agent.dm r.agents,some 5,0,true⟩)] [(1,[.own 1501])] :=by
 unfold Ca at h
 refine agF Tryz.func116 mixed (h:=Z ?_)
 refine AX [false,false,false,false,false,false,false,false,false,false,false,false,false,true] (Tr.sq [13] .fin) (by kernel_rfl) (Z ?_)
 replace h:=AD h; obtain⟨u,w,h⟩:=h
 refine AL w (Agent.dm_len _) (Z ?_)
 refine Aa (AS w) (Z ?_)
 replace h:=AD h; obtain⟨y,q,h⟩:=h
 refine Aa (Ec (sz:=5) (j:=4) (r:=List.map Port.ds u.ports) (AS (f:=Agent.dm) w) (Agent.dm_len _) (by rw [Agent.dm_eq]; rfl)) (Z ?_)
 refine AL q (Port.ds_len _) (Z ?_)
 replace h:=AD h; obtain⟨g,k,h⟩:=h
 replace h:=AD h; obtain⟨b,d,h⟩:=h
 refine Aa (Ec (sz:=5) (j:=4) (r:=List.map Port.ds u.ports) (AS (f:=Agent.dm) w) (Agent.dm_len _) (by rw [Agent.dm_eq]; rfl)) (Z ?_)
 refine Aa (AS q) (Z ?_)
 try refine Al ⟨List.cons_ne_nil _ _,by rfl,by decide,by rfl⟩ ?_
 try simp only [go_sem]
 refine Ag (b.map Agent.dm) ((Hk (AS (f:=Agent.dm) w) (d':=.sl (u.ports.map Port.ds)) (by simp only [go_sem,Agent.ds_eq,Agent.dm_eq])).trans (by rw [← Ai d,← Ai k]; simp only [List.map_set,List.set_cons_succ,List.set_cons_zero,go_sem,Agent.ds_eq,Agent.dm_eq,Port.ds_eq])) (Z ?_)
 refine AF ?_
 refine AX [false,false,false,false,false,false,false,false,false,false,false,false,false,true] (Tr.sq [13] .fin) (by kernel_rfl) (Z ?_)
 replace h:=AD h; obtain⟨c,e,h⟩:=h
 refine AL e (Agent.dm_len _) (Z ?_)
 refine Aa (AS e) (Z ?_)
 replace h:=AD h; obtain⟨i,l,h⟩:=h
 refine Aa (Ec (sz:=5) (j:=4) (r:=List.map Port.ds c.ports) (AS (f:=Agent.dm) e) (Agent.dm_len _) (by rw [Agent.dm_eq]; rfl)) (Z ?_)
 refine AL l (Port.ds_len _) (Z ?_)
 replace h:=AD h; obtain⟨t,s,h⟩:=h
 replace h:=AD h; obtain⟨o,z,h⟩:=h
 refine Aa (Ec (sz:=5) (j:=4) (r:=List.map Port.ds c.ports) (AS (f:=Agent.dm) e) (Agent.dm_len _) (by rw [Agent.dm_eq]; rfl)) (Z ?_)
 refine Aa (AS l) (Z ?_)
 try refine Al ⟨List.cons_ne_nil _ _,by rfl,by decide,by rfl⟩ ?_
 try simp only [go_sem]
 refine Ag (o.map Agent.dm) ((Hk (AS (f:=Agent.dm) e) (d':=.sl (c.ports.map Port.ds)) (by simp only [go_sem,Agent.ds_eq,Agent.dm_eq])).trans (by rw [← Ai z,← Ai s]; simp only [List.map_set,List.set_cons_succ,List.set_cons_zero,go_sem,Agent.ds_eq,Agent.dm_eq,Port.ds_eq])) (Z ?_)
 cases h
 refine BJ (.done _) [(1501,1001)] [(1,1)] ?_
 simp only [go_sem]
theorem Jk (a0 a1 a2 r) (h:CK a0 a1 a2=some r):AG Tryz.prog 72 [.box 1 0,.agg [.int .i64 a1.agent,.int .i64 a1.slot],.agg [.int .i64 a2.agent,.int .i64 a2.slot]] [(1001,⟨List.map Agent.dm a0.net.agents,some 5,0,true⟩)] [(2,[.mpc (.int .i64) (a0.removed.map prB)]),(1,[.own 1001,.ro (a0.book.map Net.ds),.mpr 2])] (.tup []) [(1501,⟨List.map Agent.dm r.net.agents,some 5,0,true⟩)] [(1,[.own 1501,.ro (a0.book.map Net.ds),.mpr 2]),(2,[.mpc (.int .i64) (r.removed.map prB)])] :=by
 unfold CK at h
 refine agF Tryz.func72 mixed (h:=Z ?_)
 refine AX [false,false,false,false,false,false,false,false,false,false,false,false,true,true] (Tr.sq [12,13] .fin) (by kernel_rfl) (Z ?_)
 replace h:=AD h; obtain⟨u,w,h⟩:=h
 refine AH (SM (EU _ _ _ w) (.cons (.rop rfl) (.cons (.refl _) .nil))) (Z ?_)
 replace h:=AD h; obtain⟨y,q,h⟩:=h
 refine AH (SM (EU _ _ _ q) (.cons (.rop rfl) (.cons (.refl _) .nil))) (Z ?_)
 refine AF ?_
 refine AB h (fun h=>Z ?_) (fun h=>Z ?_)
 ·refine AX [false,false,false,false,false,true] (Tr.sq [5] .fin) (by kernel_rfl) (Z ?_)
  replace h:=AD h; obtain⟨g,j,h⟩:=h
  refine caG ⟨[],[(1001,1001)],[(1,1,0)],[(1501,64080)],[],true⟩ (FW _ _ _ _ j) (Z ?_)
  cases h
  refine BJ (.done _) [(1501,64080)] [(2,2),(1,1)] ?_
  simp only [go_sem]
 ·cases h
  refine BJ (.done _) [(1501,1001)] [(2,2),(1,1)] ?_
  simp only [go_sem]
theorem Av (a0 a1 a2 r) (h:AW a0 a1 a2=some r):AG Tryz.prog 74 [.box 1 0,.agg [.int .i64 a1.agent,.int .i64 a1.slot],.agg [.int .i64 a2.agent,.int .i64 a2.slot]] [(1001,⟨List.map Agent.dm a0.net.agents,some 5,0,true⟩)] [(2,[.mpc (.int .i64) (a0.removed.map prB)]),(1,[.own 1001,.ro (a0.book.map Net.ds),.mpr 2])] (.tup []) [(1501,⟨List.map Agent.dm r.net.agents,some 5,0,true⟩)] [(1,[.own 1501,.ro (a0.book.map Net.ds),.mpr 2]),(2,[.mpc (.int .i64) (r.removed.map prB)])] :=by
 unfold AW at h
 refine agF Tryz.func74 mixed (h:=Z ?_)
 refine AX [false,false,false,false,false,false,false,false,false,true] (Tr.sq [9] .fin) (by kernel_rfl) (Z ?_)
 replace h:=AD h; obtain⟨u,w,h⟩:=h
 refine AH (SM (EU _ _ _ w) (.cons (.rop rfl) (.cons (.refl _) .nil))) (Z ?_)
 replace h:=AD h; obtain⟨y,q,h⟩:=h
 refine caG ⟨[],[(1001,1001)],[(1,1,0)],[(1501,32144)],[],true⟩ (FW _ _ _ _ q) (Z ?_)
 cases h
 refine BJ (.done _) [(1501,32144)] [(2,2),(1,1)] ?_
 simp only [go_sem]
theorem K0 (n:Nat):(∀a0 a1 u w r,A0 n a0 a1 u w=some r→DB Tryz.prog Tryz.f79 [1,0] (.tup []) [(1501,⟨List.map Agent.dm r.net.agents,some 5,0,true⟩)] [(1,[.own 1501,.ro (a0.book.map Net.ds),.mpr 2]),(2,[.mpc (.int .i64) (r.removed.map prB)])] ⟨[(0,.box 1 0),(6,.ro (a1.map Ar)),(7,.int .i64 (a1.length:Int)),(8,.int .i64 w)],[(1000000000,some ⟨List.map Agent.dm a0.net.agents,some 5,0,true⟩)],[(2,some [.mpc (.int .i64) (u.map prB)]),(1,some [.own 1000000000,.ro (a0.book.map Net.ds),.mpr 2])]⟩):=by
 induction n with
 |zero=>exact((fun _ _ _ _ _ h=>by rw [A0] at h; cases h))
 | succ n ih=>
  have ih0:=ih
  ·intro a0 a1 u w r h
   rw [A0] at h
   refine Aq rfl rfl (Z ?_)
   refine AY (Z ?_)
   refine AB h (fun h=>Z ?_) (fun h=>Z ?_)
   ·refine AF ?_
    replace h:=AD h; obtain⟨y,q,h⟩:=h
    refine AL q rfl (Z ?_)
    replace h:=AD h; obtain⟨g,j,h⟩:=h
    have hq_:=I2 j
    obtain⟨hv4005_6a,hv4005_6b⟩:=hq_
    refine Al (by first|exact hv4005_6a|(rw [List.length_map]; exact hv4005_6a)) (Z ?_)
    refine Ag (g.map prB) (by rw [← hv4005_6b]; exact Ke) (Z ?_)
    refine AF ?_
    exact lpG (ih0 a0 a1 g (IntKind.i64.wrap (w+1)) _ h) [(1000000000,1000000000)] [(2,2),(1,1)]
   ·cases h
    refine BJ (.done _) [(1501,1000000000)] [(2,2),(1,1)] ?_
    simp only [go_sem]
theorem IS (a0 a1 r) (h:BX a0 a1=some r):AG Tryz.prog 79 [.box 1 0,.ro (a1.map Ar)] [(1001,⟨List.map Agent.dm a0.net.agents,some 5,0,true⟩)] [(2,[.mpc (.int .i64) (a0.removed.map prB)]),(1,[.own 1001,.ro (a0.book.map Net.ds),.mpr 2])] (.tup []) [(1501,⟨List.map Agent.dm r.net.agents,some 5,0,true⟩)] [(1,[.own 1501,.ro (a0.book.map Net.ds),.mpr 2]),(2,[.mpc (.int .i64) (r.removed.map prB)])] :=by
 unfold BX at h
 refine agF Tryz.func79 mixed (h:=Z ?_)
 exact loG (K0 fuel a0 a1 a0.removed 0 _ h) [(1000000000,1001)] [(2,2),(1,1)]
theorem Na (a0 r) (h:Cu a0=some r):AG Tryz.prog 70 [.box 1 0] [(1001,⟨List.map Agent.dm a0.net.agents,some 5,0,true⟩)] [(2,[.mpc (.int .i64) (a0.removed.map prB)]),(1,[.own 1001,.ro (a0.book.map Net.ds),.mpr 2])] (.int .i64 r) [(1501,⟨List.map Agent.dm a0.net.agents,some 5,0,true⟩)] [(1,[.own 1501,.ro (a0.book.map Net.ds),.mpr 2]),(2,[.mpc (.int .i64) (a0.removed.map prB)])] :=by
 unfold Cu at h
 refine agF Tryz.func70 mixed (h:=Z ?_)
 refine AX [] .fin (by kernel_rfl) (Z ?_)
 refine AF ?_
 cases h
 refine BJ (.done _) [(1501,1001)] [(2,2),(1,1)] ?_
 simp only [go_sem]
theorem PW (a0 r) (h:Fg a0=some r):AC Tryz.prog 117 [.ro (a0.map Ar)] (.ow (some 1) (r.map Ar)):=by
 unfold Fg at h
 refine acF Tryz.func117 mixed (h:=Z ?_)
 refine de (by simp only [go_sem]) (fun h0=>?_) ?_
 ·try simp only [go_sem]
  have hq_:=List.map_eq_nil_iff.1 h0
  obtain rfl:=hq_
  obtain rfl:r=[] :=by cases h; rfl
  simp only [go_sem]
 ·try simp only [go_sem]
  refine AF ?_
  replace h:=AD h; obtain⟨u,w,h⟩:=h
  have hq_:=An w
  obtain⟨hv4002a,hv4002b⟩:=hq_
  refine C3 false (Z ?_)
  refine Al (G9 (by intro x; exact⟨rfl,by simp [go_sem,D.flat]⟩) _) (Z ?_)
  refine Al (by refine⟨?_,?_⟩ <;> (try simp only [List.length_map,List.length_append,List.length_cons,List.length_nil] at*) <;> (try unfold maxLen) <;> omega) (Z ?_)
  refine Ag (u.map Ar) (by rw [← hv4002b]; simp only [List.map_append,List.map_cons,List.map_nil,List.nil_append,List.append_nil,go_sem,slD]) (Z ?_)
  refine AF ?_
  cases h
  simp only [go_sem]
theorem Sm (a0 r) (h:Gu a0=some r):AC Tryz.prog 112 [.agg (Agent.avs a0)] (.agg (Agent.rv r)):=by
 unfold Gu at h
 refine acF Tryz.func112 mixed (h:=Z ?_)
 refine AF ?_
 refine AX [false,false,false,false,false,false,false,true,true,true] (Tr.sq [7,8,9] .fin) (by kernel_rfl) (Z ?_)
 replace h:=AD h; obtain⟨u,w,h⟩:=h
 refine AH (PW _ _ w) (Z ?_)
 replace h:=AD h; obtain⟨y,q,h⟩:=h
 refine AH (Hd _ _ q) (Z ?_)
 refine AF ?_
 cases h
 simp only [go_sem]
theorem Qz (n:Nat):(∀a0 u w r,Ey n a0 u w=some r→Af Tryz.prog Tryz.f67 [1,1,0,1,0] (.agg (Net.rv r)) ⟨[(2,.box 1000001500 0),(3,.box 1000001501 0),(12,.ro (a0.agents.map Agent.ds)),(13,.int .i64 (a0.agents.length:Int)),(14,.int .i64 w)],[(1000001000,some ⟨List.map Agent.ds u,some 5,0,false⟩)],[(1000001500,some [.nils]),(1000001501,some [.own 1000001000])]⟩):=by
 induction n with
 |zero=>exact((fun _ _ _ _ h=>by rw [Ey] at h; cases h))
 | succ n ih=>
  have ih0:=ih
  ·intro a0 u w r h
   rw [Ey] at h
   refine AN rfl rfl (Z ?_)
   refine AY (Z ?_)
   refine AB h (fun h=>Z ?_) (fun h=>Z ?_)
   ·refine AF ?_
    replace h:=AD h; obtain⟨y,q,h⟩:=h
    refine AL q (Agent.ds_len _) (Z ?_)
    refine AF ?_
    refine AX [false,false,false,false,false,true,true,true] (Tr.sq [5,6,7] .fin) (by kernel_rfl) (Z ?_)
    replace h:=AD h; obtain⟨g,j,h⟩:=h
    refine AH (Sm _ _ j) (Z ?_)
    replace h:=AD h; obtain⟨k,b,h⟩:=h
    have hq_:=An b
    obtain⟨hv6005a,hv6005b⟩:=hq_
    refine C3 false (Z ?_)
    refine Al (by refine⟨?_,?_⟩ <;> (try simp only [List.length_map,List.length_append,List.length_cons,List.length_nil] at*) <;> (try unfold maxLen) <;> omega) (Z ?_)
    refine Ag (k.map Agent.ds) (by rw [← hv6005b]; simp only [List.map_append,List.map_cons,List.map_nil,List.nil_append,List.append_nil,go_sem,Agent.ds_eq]) (Z ?_)
    refine AF ?_
    exact lpF (ih0 a0 k (IntKind.i64.wrap (w+1)) _ h) [(1000001000,96080)] [(1000001500,1000001500),(1000001501,1000001501)]
   ·refine AF ?_
    cases h
    simp only [go_sem]
theorem VO (a0 r) (h:Kf a0=some r):AC Tryz.prog 67 [.agg (Net.avs a0)] (.agg (Net.rv r)):=by
 unfold Kf at h
 refine acF Tryz.func67 mixed (h:=Z ?_)
 refine AF ?_
 replace h:=AD h; obtain⟨u,w,h⟩:=h
 have hq_:=G8 w
 obtain⟨hv2003a,hv2003b,hv2003c⟩:=hq_
 refine Al (by unfold leX; omega) (Z ?_)
 refine Al (by refine⟨?_,?_,?_⟩ <;> omega) (Z ?_)
 refine Ag [] (by rfl) (Z ?_)
 refine AF ?_
 exact loF (Qz fuel a0 [] 0 _ h) [(1000001000,32048)] [(1000001500,1001),(1000001501,2005)]
theorem Q0 (n:Nat):(∀a1 u w y r,DX n a1 u w y=some r→Af Tryz.prog Tryz.f69 [1,1,0,1,0] (.tup [.agg (Net.rv r.1),.bool r.2]) ⟨[(1,.int .i64 a1),(4,.box 1000001500 0),(6,.box 1000001501 0),(13,.int .i64 (u.agents.length:Int)),(14,.int .i64 y)],[(1000001000,some ⟨List.map Agent.ds w,some 5,0,false⟩)],[(1000001500,some [.nils]),(1000001501,some [.own 1000001000])]⟩):=by
 induction n with
 |zero=>exact((fun _ _ _ _ _ h=>by rw [DX] at h; cases h))
 | succ n ih=>
  have ih0:=ih
  ·intro a1 u w y r h
   rw [DX] at h
   refine AN rfl rfl (Z ?_)
   refine AY (Z ?_)
   refine AB h (fun h=>Z ?_) (fun h=>Z ?_)
   ·refine AF ?_
    replace h:=AD h; obtain⟨q,g,h⟩:=h
    refine AL g (Agent.ds_len _) (Z ?_)
    refine Aa (AS g) (Z ?_)
    replace h:=AD h; obtain⟨j,k,h⟩:=h
    refine AH (KI _ _ k) (Z ?_)
    refine AF ?_
    refine AB h (fun h=>Z ?_) (fun h=>Z ?_)
    ·refine AF ?_
     exact lpF (ih0 a1 u w (IntKind.i64.wrap (y+1)) _ h) [(1000001000,1000001000)] [(1000001500,1000001500),(1000001501,1000001501)]
    ·refine AF ?_
     refine Aa (AS g) (Z ?_)
     replace h:=AD h; obtain⟨b,d,h⟩:=h
     refine Aa (AS g) (Z ?_)
     refine Ag (b.map Agent.ds) (by rw [← Ai d]; simp only [List.map_set,go_sem,Agent.ds_eq]) (Z ?_)
     replace h:=AD h; obtain⟨c,e,h⟩:=h
     refine Aa (AS e) (Z ?_)
     refine AB h (fun h=>Z ?_) (fun h=>Z ?_)
     ·cases h
      simp only [go_sem]
     ·refine AF ?_
      exact lpF (ih0 a1 u b (IntKind.i64.wrap (y+1)) _ h) [(1000001000,1000001000)] [(1000001500,1000001500),(1000001501,1000001501)]
   ·refine AF ?_
    cases h
    simp only [go_sem]
theorem PX (a0 a1 r) (h:I5 a0 a1=some r):AC Tryz.prog 69 [.agg (Net.avs a0),.int .i64 a1] (.tup [.agg (Net.rv r.1),.bool r.2]):=by
 unfold I5 at h
 refine acF Tryz.func69 mixed (h:=Z ?_)
 refine AF ?_
 replace h:=AD h; obtain⟨u,w,h⟩:=h
 refine AH (VO _ _ w) (Z ?_)
 refine AF ?_
 exact loF (Q0 fuel a1 u u.agents 0 _ h) [(1000001000,32016)] [(1000001500,1001),(1000001501,2002)]
theorem HY (a0:Rewriter) (u:Int) (w:Int) (y:Int × Bool) (r:Int × Int × Int × Int) (h:DV a0 u w y=some r):DB Tryz.prog Tryz.f31 [1,1,1,1,1] (.tup [.int .i64 r.1,.int .i64 r.2.1,.int .i64 r.2.2.1,.int .i64 r.2.2.2]) [(1501,⟨List.map Agent.dm a0.net.agents,some 5,0,true⟩)] [(1,[.own 1501,.ro (a0.book.map Net.ds),.mpr 2]),(2,[.mpc (.int .i64) (a0.removed.map prB)])] ⟨[(4,.int .i64 y.1),(5,.int .i64 u),(6,.int .i64 w)],[(1000001000,some ⟨List.map Agent.dm a0.net.agents,some 5,0,true⟩)],[(2,some [.mpc (.int .i64) (a0.removed.map prB)]),(1,some [.own 1000001000,.ro (a0.book.map Net.ds),.mpr 2])]⟩:=by
 unfold DV at h
 refine Aq rfl rfl (Z ?_)
 cases h
 refine BJ (.done _) [(1501,1000001000)] [(2,2),(1,1)] ?_
 simp only [go_sem]
theorem HZ (a0:Rewriter) (u:Int × Bool) (w:Int) (y:Int) (r:Int × Int × Int × Int) (h:Cf a0 u w y=some r):DB Tryz.prog Tryz.f31 [1,1,1,1] (.tup [.int .i64 r.1,.int .i64 r.2.1,.int .i64 r.2.2.1,.int .i64 r.2.2.2]) [(1501,⟨List.map Agent.dm a0.net.agents,some 5,0,true⟩)] [(1,[.own 1501,.ro (a0.book.map Net.ds),.mpr 2]),(2,[.mpc (.int .i64) (a0.removed.map prB)])] ⟨[(0,.box 1 0),(4,.int .i64 u.1),(5,.int .i64 w),(6,.int .i64 y)],[(1000000000,some ⟨List.map Agent.dm a0.net.agents,some 5,0,true⟩)],[(2,some [.mpc (.int .i64) (a0.removed.map prB)]),(1,some [.own 1000000000,.ro (a0.book.map Net.ds),.mpr 2])]⟩:=by
 unfold Cf at h
 refine Aq rfl rfl (Z ?_)
 refine AB h (fun h=>Z ?_) (fun h=>Z ?_)
 ·cases h
  refine BJ (.done _) [(1501,1000000000)] [(2,2),(1,1)] ?_
  simp only [go_sem]
 ·refine AB h (fun h=>Z ?_) (fun h=>Z ?_)
  ·replace h:=AD h; obtain⟨q,g,h⟩:=h
   refine AL g (Agent.dm_len _) (Z ?_)
   refine Aa (AS g) (Z ?_)
   refine AF ?_
   refine AX [] .fin (by kernel_rfl) (Z ?_)
   refine AF ?_
   refine AB h (fun h=>Z ?_) (fun h=>Z ?_)
   ·cases h
    refine BJ (.done _) [(1501,1000000000)] [(2,2),(1,1)] ?_
    simp only [go_sem]
   ·refine AF ?_
    refine AX [false,false,false,false,false,false,false,false,false,false,false,false,false,false,false,true,true] (Tr.sq [15,16] .fin) (by kernel_rfl) (Z ?_)
    replace h:=AD h; obtain⟨j,k,h⟩:=h
    refine AL k (Net.ds_len _) (Z ?_)
    replace h:=AD h; obtain⟨b,d,h⟩:=h
    refine AH (PX _ _ _ d) (Z ?_)
    refine AF ?_
    refine AB h (fun h=>Z ?_) (fun h=>Z ?_)
    ·cases h
     refine BJ (.done _) [(1501,1000000000)] [(2,2),(1,1)] ?_
     simp only [go_sem]
    ·exact BB (HY a0 w y u _ h) [(1000001000,1000000000)] [(2,2),(1,1)]
  ·exact BB (HY a0 w y u _ h) [(1000001000,1000000000)] [(2,2),(1,1)]
theorem Ii (a0 a1 r) (h:Ad a0 a1=some r):AG Tryz.prog 31 [.box 1 0,.agg [.int .i64 a1.a,.int .i64 a1.b]] [(1001,⟨List.map Agent.dm a0.net.agents,some 5,0,true⟩)] [(2,[.mpc (.int .i64) (a0.removed.map prB)]),(1,[.own 1001,.ro (a0.book.map Net.ds),.mpr 2])] (.tup [.int .i64 r.1,.int .i64 r.2.1,.int .i64 r.2.2.1,.int .i64 r.2.2.2]) [(1501,⟨List.map Agent.dm a0.net.agents,some 5,0,true⟩)] [(1,[.own 1501,.ro (a0.book.map Net.ds),.mpr 2]),(2,[.mpc (.int .i64) (a0.removed.map prB)])] :=by
 unfold Ad at h
 refine agF Tryz.func31 mixed (h:=Z ?_)
 refine AX [] .fin (by kernel_rfl) (Z ?_)
 replace h:=AD h; obtain⟨u,w,h⟩:=h
 refine AH (SM (QJ _ _ _ w) (.cons (.rop rfl) (.cons (.refl _) .nil))) (Z ?_)
 refine AF ?_
 refine AX [] .fin (by kernel_rfl) (Z ?_)
 refine AF ?_
 refine AB h (fun h=>Z ?_) (fun h=>Z ?_)
 ·exact BB (HZ a0 u a1.b a1.a _ h) [(1000000000,1001)] [(2,2),(1,1)]
 ·exact BB (HZ a0 u a1.a a1.b _ h) [(1000000000,1001)] [(2,2),(1,1)]
theorem Mo (a1:Int) (u:Int) (w:Bool) (r:Int × Int) (h:IE a1 u w=some r):Af Tryz.prog Tryz.f115 [1,1,1,0,1] (.tup [.int .i64 r.1,.int .i64 r.2]) ⟨[(1,.int .i64 a1),(8,.int .i64 u),(30,.bool w)],[],[]⟩:=by
 unfold IE at h
 refine AN rfl rfl (Z ?_)
 refine AB h (fun h=>Z ?_) (fun h=>Z ?_)
 ·cases h
  simp only [go_sem]
 ·refine AF ?_
  cases h
  simp only [go_sem]
theorem Ef (a1:Int) (u:Int) (w:Int) (y:Int) (r:Int × Int) (h:De a1 u w y=some r):Af Tryz.prog Tryz.f115 [1,1,1] (.tup [.int .i64 r.1,.int .i64 r.2]) ⟨[(1,.int .i64 a1),(6,.int .i64 u),(7,.int .i64 w),(8,.int .i64 y)],[],[]⟩:=by
 unfold De at h
 refine AN rfl rfl (Z ?_)
 refine AB h (fun h=>Z ?_) (fun h=>Z ?_)
 ·exact AR (Mo a1 y true _ h) [] []
 ·exact AR (Mo a1 y (decide (w<a1)) _ h) [] []
theorem Mp (a0:Int) (a1:Int) (u:Bool) (r:Int × Int) (h:IF a0 a1 u=some r):Af Tryz.prog Tryz.f115 [1,1,0,1,0,1] (.tup [.int .i64 r.1,.int .i64 r.2]) ⟨[(1,.int .i64 a1),(6,.int .i64 0),(7,.int .i64 0),(8,.int .i64 0),(9,.int .i64 a0),(10,.bool u)],[],[]⟩:=by
 unfold IF at h
 refine AN rfl rfl (Z ?_)
 refine AB h (fun h=>Z ?_) (fun h=>Z ?_)
 ·exact AR (Ef a1 0 0 (-2) _ h) [] []
 ·refine AB h (fun h=>Z ?_) (fun h=>Z ?_)
  ·exact AR (Ef a1 0 3 0 _ h) [] []
  ·refine AB h (fun h=>Z ?_) (fun h=>Z ?_)
   ·exact AR (Ef a1 0 3 (-2) _ h) [] []
   ·refine AB h (fun h=>Z ?_) (fun h=>Z ?_)
    ·exact AR (Ef a1 0 0 (-1) _ h) [] []
    ·refine AB h (fun h=>Z ?_) (fun h=>Z ?_)
     ·exact AR (Ef a1 0 3 (-1) _ h) [] []
     ·refine AB h (fun h=>Z ?_) (fun h=>Z ?_)
      ·exact AR (Ef a1 2 600 (-2) _ h) [] []
      ·cases h
       simp only [go_sem]
theorem XZ (a0 a1 r) (h:MZ a0 a1=some r):AC Tryz.prog 115 [.int .i64 a0,.int .i64 a1] (.tup [.int .i64 r.1,.int .i64 r.2]):=by
 unfold MZ at h
 refine acF Tryz.func115 mixed (h:=Z ?_)
 refine AB h (fun h=>Z ?_) (fun h=>Z ?_)
 ·exact AR (Mp a0 a1 (decide (a0=1)) _ h) [] []
 ·exact AR (Mp a0 a1 (decide (a0=2)) _ h) [] []
theorem CV (a0:Rewriter) (a1:Int) (u:Int) (r:Int) (h:BC a0 a1 u=some r):DB Tryz.prog Tryz.f71 [1,1,1] (.int .i64 r) [(1501,⟨List.map Agent.dm a0.net.agents,some 5,0,true⟩)] [(1,[.own 1501,.ro (a0.book.map Net.ds),.mpr 2]),(2,[.mpc (.int .i64) (a0.removed.map prB)])] ⟨[(1,.int .i64 a1),(9,.int .i64 u)],[(1000001000,some ⟨List.map Agent.dm a0.net.agents,some 5,0,true⟩)],[(2,some [.mpc (.int .i64) (a0.removed.map prB)]),(1,some [.own 1000001000,.ro (a0.book.map Net.ds),.mpr 2])]⟩:=by
 unfold BC at h
 refine Aq rfl rfl (Z ?_)
 replace h:=AD h; obtain⟨w,y,h⟩:=h
 refine AH (XZ _ _ _ y) (Z ?_)
 refine AF ?_
 cases h
 refine BJ (.done _) [(1501,1000001000)] [(2,2),(1,1)] ?_
 simp only [go_sem]
theorem G0 (a0:Rewriter) (a1:Int) (a2:Int) (a3:Int) (u:Bool) (r:Int) (h:DD a0 a1 a2 a3 u=some r):DB Tryz.prog Tryz.f71 [1,1,0,1,0,1] (.int .i64 r) [(1501,⟨List.map Agent.dm a0.net.agents,some 5,0,true⟩)] [(1,[.own 1501,.ro (a0.book.map Net.ds),.mpr 2]),(2,[.mpc (.int .i64) (a0.removed.map prB)])] ⟨[(0,.box 1 0),(1,.int .i64 a1),(2,.int .i64 a2),(3,.int .i64 a3),(9,.int .i64 0),(12,.int .i64 a1),(13,.bool u)],[(1000000000,some ⟨List.map Agent.dm a0.net.agents,some 5,0,true⟩)],[(2,some [.mpc (.int .i64) (a0.removed.map prB)]),(1,some [.own 1000000000,.ro (a0.book.map Net.ds),.mpr 2])]⟩:=by
 unfold DD at h
 refine Aq rfl rfl (Z ?_)
 refine AB h (fun h=>Z ?_) (fun h=>Z ?_)
 ·replace h:=AD h; obtain⟨w,y,h⟩:=h
  refine AL y (Agent.dm_len _) (Z ?_)
  refine Aa (AS y) (Z ?_)
  refine Aa (Ec (sz:=5) (j:=4) (r:=List.map Port.ds w.ports) (AS (f:=Agent.dm) y) (Agent.dm_len _) (by rw [Agent.dm_eq]; rfl)) (Z ?_)
  exact BB (CV a0 a1 (IntKind.i64.wrap ((w.ports.length:Int) - 1)) _ h) [(1000001000,1000000000)] [(2,2),(1,1)]
 ·refine AB h (fun h=>Z ?_) (fun h=>Z ?_)
  ·replace h:=AD h; obtain⟨q,g,h⟩:=h
   refine AL g (Agent.dm_len _) (Z ?_)
   refine Aa (AS g) (Z ?_)
   refine AB h (fun h=>Z ?_) (fun h=>Z ?_)
   ·replace h:=AD h; obtain⟨k,b,h⟩:=h
    refine AL b (Agent.dm_len _) (Z ?_)
    refine Aa (AS b) (Z ?_)
    refine Aa (Ec (sz:=5) (j:=4) (r:=List.map Port.ds k.ports) (AS (f:=Agent.dm) b) (Agent.dm_len _) (by rw [Agent.dm_eq]; rfl)) (Z ?_)
    exact BB (CV a0 a1 (IntKind.i64.wrap ((k.ports.length:Int) - 1)) _ h) [(1000001000,1000000000)] [(2,2),(1,1)]
   ·exact BB (CV a0 a1 0 _ h) [(1000001000,1000000000)] [(2,2),(1,1)]
  ·refine AB h (fun h=>Z ?_) (fun h=>Z ?_)
   ·refine AX [] .fin (by kernel_rfl) (Z ?_)
    replace h:=AD h; obtain⟨d,c,h⟩:=h
    refine AL c (Agent.dm_len _) (Z ?_)
    refine Aa (AS c) (Z ?_)
    replace h:=AD h; obtain⟨e,i,h⟩:=h
    refine AL i (Net.ds_len _) (Z ?_)
    exact BB (CV a0 a1 (e.agents.length:Int) _ h) [(1000001000,1000000000)] [(2,2),(1,1)]
   ·exact BB (CV a0 a1 0 _ h) [(1000001000,1000000000)] [(2,2),(1,1)]
theorem Mq (a0 a1 a2 a3 r) (h:EA a0 a1 a2 a3=some r):AG Tryz.prog 71 [.box 1 0,.int .i64 a1,.int .i64 a2,.int .i64 a3] [(1001,⟨List.map Agent.dm a0.net.agents,some 5,0,true⟩)] [(2,[.mpc (.int .i64) (a0.removed.map prB)]),(1,[.own 1001,.ro (a0.book.map Net.ds),.mpr 2])] (.int .i64 r) [(1501,⟨List.map Agent.dm a0.net.agents,some 5,0,true⟩)] [(1,[.own 1501,.ro (a0.book.map Net.ds),.mpr 2]),(2,[.mpc (.int .i64) (a0.removed.map prB)])] :=by
 unfold EA at h
 refine agF Tryz.func71 mixed (h:=Z ?_)
 refine AB h (fun h=>Z ?_) (fun h=>Z ?_)
 ·exact BB (G0 a0 a1 a2 a3 (decide (a1=3)) _ h) [(1000000000,1001)] [(2,2),(1,1)]
 ·exact BB (G0 a0 a1 a2 a3 (decide (a1=4)) _ h) [(1000000000,1001)] [(2,2),(1,1)]
end Go.Proofs.YteckcjgpnegkjaaGreat.Ab
