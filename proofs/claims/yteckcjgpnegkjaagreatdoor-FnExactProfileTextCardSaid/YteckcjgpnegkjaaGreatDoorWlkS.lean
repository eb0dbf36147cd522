/-
 The functions do what their models say. Printed by wip/ab/gen.py.
-/
import Derived.Test.YteckcjgpnegkjaaGreatDoorModS
import Derived.Test.YteckcjgpnegkjaaGreatDoorTi2
import Derived.Test.YteckcjgpnegkjaaGreatDoorWlkR
namespace Go.Proofs.YteckcjgpnegkjaaGreatDoor.Ab
set_option linter.defProp false
set_option linter.unusedVariables false
set_option linter.unusedSimpArgs false
set_option maxRecDepth 20000
set_option maxHeartbeats 4000000
open Go.RowKit
theorem NT (n:Nat):(∀a0 u w r,Bg n a0 u w=some r→Aq Tryz.prog Tryz.f31 [1,1,0,1,0] (.ow (some 2) (r.map Pair.ds)) ⟨[(3,.own 1000000000),(10,.ro (a0.agents.map Agent.ds)),(11,.int .i64 (a0.agents.length:Int)),(12,.int .i64 w)],[(1000000000,some ⟨List.map Pair.ds u,some 2,0,false⟩)],[]⟩)∧
    (∀a0 u w y q r,Cn n a0 u w y q=some r→Aq Tryz.prog Tryz.f31 [1,1,0,1,0,0,1,1,0,0,1,1,1] (.ow (some 2) (r.map Pair.ds)) ⟨[(3,.own 1000001000),(4,.int .i64 w),(6,.box 1000001500 0),(10,.ro (a0.agents.map Agent.ds)),(11,.int .i64 (a0.agents.length:Int)),(12,.int .i64 w),(34,.bool q)],[(1000001000,some ⟨List.map Pair.ds u,some 2,0,false⟩)],[(1000001500,some [.int .i64 y.agent,.int .i64 y.slot])]⟩):=by
 induction n with
 |zero=>exact⟨(fun _ _ _ _ h=>by rw [Bg] at h; cases h),(fun _ _ _ _ _ _ h=>by rw [Cn] at h; cases h)⟩
 | succ n ih=>
  obtain⟨ih0,ih1⟩:=ih
  refine⟨?_,?_⟩
  ·intro a0 u w r h
   rw [Bg] at h
   refine AO rfl rfl (Z ?_)
   refine AZ (Z ?_)
   refine AD h (fun h=>Z ?_) (fun h=>Z ?_)
   ·refine AF ?_
    replace h:=AB h; obtain⟨g,j,h⟩:=h
    refine AM j (Agent.ds_len _) (Z ?_)
    refine AF ?_
    replace h:=AB h; obtain⟨y,k,h⟩:=h
    refine AM k (Port.ds_len _) (Z ?_)
    refine AF ?_
    refine AD h (fun h=>Z ?_) (fun h=>Z ?_)
    ·refine AD h (fun h=>Z ?_) (fun h=>Z ?_)
     ·exact AY (ih1 a0 u w y (!decide (g.kind=1)) _ h) [(1000001000,1000000000)] [(1000001500,6004)]
     ·exact AY (ih1 a0 u w y false _ h) [(1000001000,1000000000)] [(1000001500,6004)]
    ·exact AY (ih1 a0 u w y false _ h) [(1000001000,1000000000)] [(1000001500,6004)]
   ·refine AF ?_
    cases h
    simp only [go_sem]
  ·intro a0 u w y q r h
   rw [Cn] at h
   refine AO rfl rfl (Z ?_)
   refine AD h (fun h=>Z ?_) (fun h=>Z ?_)
   ·replace h:=AB h; obtain⟨b,d,h⟩:=h
    have hq_:=Av d
    obtain⟨hv8006a,hv8006b⟩:=hq_
    refine Cz false (Z ?_)
    refine Al (by refine⟨?_,?_⟩ <;> (try simp only [List.length_map,List.length_append,List.length_cons,List.length_nil] at*) <;> (try unfold maxLen) <;> omega) (Z ?_)
    refine A6 (b.map Pair.ds) (by rw [← hv8006b]; simp only [List.map_append,List.map_cons,List.map_nil,List.nil_append,List.append_nil,go_sem,Pair.ds_eq]) (Z ?_)
    refine AF ?_
    exact lpF (ih0 a0 b (IntKind.i64.wrap (w+1)) _ h) [(1000000000,128096)] []
   ·refine AF ?_
    exact lpF (ih0 a0 u (IntKind.i64.wrap (w+1)) _ h) [(1000000000,1000001000)] []
def OR (n:Nat):=(NT n).1
theorem Ir (a0 r) (h:EI a0=some r):AC Tryz.prog 31 [.rop (Net.avs a0) 0] (.ow (some 2) (r.map Pair.ds)):=by
 unfold EI at h
 refine acF Tryz.func31 mixed (h:=Z ?_)
 refine CF (DU rfl rfl (OR fuel a0 [] 0 _ h):) (.one ⟨_,.slot 3 2000000000 (some 2) false (by simp only [go_sem]) (by simp only [go_sem]) (.done _),[(1000000000,2000000000)],[],?_⟩)
 simp only [go_sem]
 all_goals try rfl
theorem Kq (n:Nat):(∀u w y q g r,Bh n u w y q g=some r→Aq Tryz.prog Tryz.f98 [1,1,1,0,1,0] (.tup [.agg (Net.rv r.1),.int .i64 r.2.1,.int .i64 r.2.2]) ⟨[(4,.box 1000001500 0),(7,.box 1000001501 0),(8,.own 1000001001),(16,.own 1000001001),(17,.int .i64 (w.length:Int)),(18,.int .i64 g)],[(1000001000,some ⟨List.map Agent.dm y,some 5,0,true⟩),(1000001001,some ⟨List.map Pair.ds w,some 2,0,false⟩)],[(1000001500,some [.nils]),(1000001501,some [.own 1000001000,.ro (u.book.map Net.ds),.mpr 1000001502]),(1000001502,some [.mpc (.int .i64) (q.map prB)])]⟩):=by
 induction n with
 |zero=>exact((fun _ _ _ _ _ _ h=>by rw [Bh] at h; cases h))
 | succ n ih=>
  have ih0:=ih
  ·intro u w y q g r h
   rw [Bh] at h
   refine AO rfl rfl (Z ?_)
   refine AZ (Z ?_)
   refine AD h (fun h=>Z ?_) (fun h=>Z ?_)
   ·refine AF ?_
    replace h:=AB h; obtain⟨j,k,h⟩:=h
    refine AM k (Pair.ds_len _) (Z ?_)
    refine Ac (AX k) (Z ?_)
    refine AF ?_
    replace h:=AB h; obtain⟨b,d,h⟩:=h
    refine caG ⟨[],[(1001,1000001000)],[(1,1000001501,0),(2,1000001502,0)],[(1501,112032)],[],true⟩ (KZ _ _ _ d) (Z ?_)
    refine AF ?_
    refine AD h (fun h=>Z ?_) (fun h=>Z ?_)
    ·cases h
     simp only [go_sem]
    ·refine AF ?_
     exact lpF (ih0 u w b.2.net.agents b.2.removed (IntKind.i64.wrap (g+1)) _ h) [(1000001000,112032),(1000001001,1000001001)] [(1000001500,1000001500),(1000001501,1000001501),(1000001502,1000001502)]
   ·refine AF ?_
    replace h:=AB h; obtain⟨c,e,h⟩:=h
    refine caG ⟨[],[(1001,1000001000)],[(1,1000001501,0),(2,1000001502,0)],[(1501,176016),(1502,176017)],[],true⟩ (Lk _ _ e) (Z ?_)
    refine AF ?_
    cases h
    simp only [go_sem]
theorem NU (a0 a1 r) (h:Db a0 a1=some r):AC Tryz.prog 98 [.ro (a0.map Net.ds),.agg (Net.avs a1)] (.tup [.agg (Net.rv r.1),.int .i64 r.2.1,.int .i64 r.2.2]):=by
 unfold Db at h
 refine acF Tryz.func98 mixed (h:=Z ?_)
 refine AF ?_
 replace h:=AB h; obtain⟨u,w,h⟩:=h
 refine caG ⟨[],[],[],[(1501,32033)],[(1601,32032),(1602,32034)],true⟩ (Jx _ _ _ w) (Z ?_)
 refine AF ?_
 replace h:=AB h; obtain⟨y,q,h⟩:=h
 refine AI (Ir _ _ q) (Z ?_)
 refine AF ?_
 exact loF (Kq fuel u y u.net.agents u.removed 0 _ h) [(1000001000,32033),(1000001001,48000)] [(1000001500,1001),(1000001501,32032),(1000001502,32034)]
theorem NV (n:Nat):(∀a0 u w y q r,Bz n a0 u w y q=some r→DF Tryz.prog Tryz.f45 [1,1,1,0,1,0] (.tup [.ro (List.map (slD AS) r.1),.int .i64 r.2]) [] [] ⟨[(0,.ro (a0.map Net.ds)),(2,.int .i64 u),(4,.box 1000005500 0),(10,.own 1000005000),(11,.own 1000005001)],[(1000005000,some ⟨List.map (slD AS) y,some 1,0,false⟩),(1000005001,some ⟨List.map Pair.ds q,some 2,0,false⟩)],[(1000005500,some [.ro (w.map Agent.ds)])]⟩)∧
    (∀a0 u w y q g j r,CK n a0 u w y q g j=some r→DF Tryz.prog Tryz.f45 [1,1,1,0,1,0,0,1,0,0,1,1,1,0,1,0] (.tup [.ro (List.map (slD AS) r.1),.int .i64 r.2]) [] [] ⟨[(0,.ro (a0.map Net.ds)),(2,.int .i64 (IntKind.i64.wrap (u - (q.length:Int)))),(4,.box 1000009500 0),(10,.own 1000009000),(12,.own 1000009001),(42,.own 1000009002),(43,.int .i64 (q.length:Int)),(44,.int .i64 j)],[(1000009000,some ⟨List.map (slD AS) y,some 1,0,false⟩),(1000009001,some ⟨List.map AS g,some 1,0,false⟩),(1000009002,some ⟨List.map Pair.ds q,some 2,0,false⟩)],[(1000009500,some [.ro (w.map Agent.ds)])]⟩):=by
 induction n with
 |zero=>exact⟨(fun _ _ _ _ _ _ h=>by rw [Bz] at h; cases h),(fun _ _ _ _ _ _ _ _ h=>by rw [CK] at h; cases h)⟩
 | succ n ih=>
  obtain⟨ih0,ih1⟩:=ih
  refine⟨?_,?_⟩
  ·intro a0 u w y q r h
   rw [Bz] at h
   refine A5 rfl rfl (Z ?_)
   refine AZ (Z ?_)
   refine AD h (fun h=>Z ?_) (fun h=>Z ?_)
   ·refine AF ?_
    refine AD h (fun h=>Z ?_) (fun h=>Z ?_)
    ·cases h
     refine BB (.frzN [(0,[0])] [] _ _ (by (first|rfl|(simp only [go_sem]; rfl))) (by (first|rfl|(simp only [go_sem]; rfl))) (.done _)) [] [] ?_
     simp only [go_sem]
     all_goals try rfl
    ·refine AF ?_
     replace h:=AB h; obtain⟨k,b,h⟩:=h
     have hq_:=Fc b
     obtain⟨hv12000a,hv12000b,hv12000c⟩:=hq_
     refine Al (by refine⟨?_,?_,?_⟩ <;> omega) (Z ?_)
     refine A6 (k.map AS) (by rw [← hv12000c]; simp only [List.map_replicate,go_sem,slD]) (Z ?_)
     refine AF ?_
     exact loG (ih1 a0 u w y q k 0 _ h) [(1000009000,1000005000),(1000009001,192000),(1000009002,1000005001)] [(1000009500,1000005500)]
   ·refine AF ?_
    cases h
    refine BB (.frzT 1000005000 [(0,[0])] [] _ _ _ (by (first|rfl|(simp only [go_sem]; rfl))) (by decide) (by (first|rfl|(simp only [go_sem]; rfl))) (by (first|rfl|(simp only [go_sem]; rfl))) (.done _)) [] [] ?_
    simp only [go_sem]
    all_goals try rfl
  ·intro a0 u w y q g j r h
   rw [CK] at h
   refine A5 rfl rfl (Z ?_)
   refine AZ (Z ?_)
   refine AD h (fun h=>Z ?_) (fun h=>Z ?_)
   ·refine AF ?_
    replace h:=AB h; obtain⟨d,c,h⟩:=h
    refine AM c (Pair.ds_len _) (Z ?_)
    refine Ac (AX c) (Z ?_)
    refine AF ?_
    replace h:=AB h; obtain⟨e,i,h⟩:=h
    refine AI (Jw _ _ _ i) (Z ?_)
    refine AF ?_
    refine AD h (fun h=>Z ?_) (fun h=>Z ?_)
    ·replace h:=AB h; obtain⟨l,t,h⟩:=h
     refine AM t rfl (Z ?_)
     refine Ac (AX t) (Z ?_)
     replace h:=AB h; obtain⟨s,o,h⟩:=h
     refine AM o rfl (Z ?_)
     replace h:=AB h; obtain⟨z,u1,h⟩:=h
     refine Ac (AX o) (Z ?_)
     refine A6 (z.map AS) (by rw [← BW u1]; simp only [List.map_set,go_sem,slD]) (Z ?_)
     refine AF ?_
     exact lpG (ih1 a0 u w y q z (IntKind.i64.wrap (j+1)) _ h) [(1000009000,1000009000),(1000009001,1000009001),(1000009002,1000009002)] [(1000009500,1000009500)]
    ·refine AF ?_
     exact lpG (ih1 a0 u w y q g (IntKind.i64.wrap (j+1)) _ h) [(1000009000,1000009000),(1000009001,1000009001),(1000009002,1000009002)] [(1000009500,1000009500)]
   ·refine AF ?_
    replace h:=AB h; obtain⟨u2,u3,h⟩:=h
    refine AI (NU _ _ _ u3) (Z ?_)
    refine AF ?_
    refine AD h (fun h=>Z ?_) (fun h=>Z ?_)
    ·cases h
     refine BB (.frzN [(0,[0])] [] _ _ (by (first|rfl|(simp only [go_sem]; rfl))) (by (first|rfl|(simp only [go_sem]; rfl))) (.done _)) [] [] ?_
     simp only [go_sem]
     all_goals try rfl
    ·refine AF ?_
     replace h:=AB h; obtain⟨u4,u5,h⟩:=h
     have hq_:=Av u5
     obtain⟨hv23003a,hv23003b⟩:=hq_
     refine Cz false (Z ?_)
     refine Al (by refine⟨?_,?_⟩ <;> (try simp only [List.length_map,List.length_append,List.length_cons,List.length_nil] at*) <;> (try unfold maxLen) <;> omega) (Z ?_)
     refine A6 (List.map (slD AS) u4) (by rw [← hv23003b]; simp only [List.map_append,List.map_cons,List.map_nil,List.nil_append,List.append_nil,go_sem,slD]) (Z ?_)
     refine AF ?_
     refine AF ?_
     replace h:=AB h; obtain⟨u6,u7,h⟩:=h
     refine AI (Ir _ _ u7) (Z ?_)
     refine PU (Fm rfl rfl (ih0 a0 (IntKind.i64.wrap (u - (q.length:Int))) u2.1.agents u4 u6 _ h):) (.one ⟨_,.frzT 320032 [(66,[0,0]),(63,[0,0]),(67,[0]),(77,[0])] [(1000009500,0),(20007,0)] _ _ _ (by (first|rfl|(simp only [go_sem]; rfl))) (by decide) (by (first|rfl|(simp only [go_sem]; rfl))) (by (first|rfl|(simp only [go_sem]; rfl))) (.done _),[(1000005000,368048),(1000005001,128000)],[(1000005500,1000009500)],?_⟩)
     simp only [go_sem]
     all_goals try rfl
def OS (n:Nat):=(NV n).1
theorem R3 (a0 a1 a2 r) (h:IW a0 a1 a2=some r):AG Tryz.prog 45 [.ro (a0.map Net.ds),.agg [.ro (a1.agents.map Agent.ds)],.int .i64 a2] [] [] (.tup [.ro (List.map (slD AS) r.1),.int .i64 r.2]) [] [] :=by
 unfold IW at h
 refine agF Tryz.func45 mixed (h:=Z ?_)
 replace h:=AB h; obtain⟨u,w,h⟩:=h
 refine caG ⟨[],[],[],[],[],true⟩ (Ra _ _ _ _ _ w) (Z ?_)
 refine AF ?_
 refine AD h (fun h=>Z ?_) (fun h=>Z ?_)
 ·cases h
  refine BB (.frzN [(0,[0])] [] _ _ (by (first|rfl|(simp only [go_sem]; rfl))) (by (first|rfl|(simp only [go_sem]; rfl))) (.done _)) [] [] ?_
  simp only [go_sem]
  all_goals try rfl
 ·refine AF ?_
  replace h:=AB h; obtain⟨y,q,h⟩:=h
  refine AI (Ir _ _ q) (Z ?_)
  refine AF ?_
  refine CF (Fm rfl rfl (OS fuel a0 a2 a1.agents [] y _ h):) (.one ⟨_,.slot 10 2000000000 (some 1) false (by simp only [go_sem]) (by simp only [go_sem]) (.done _),[(1000005000,2000000000),(1000005001,96000)],[(1000005500,1000)],?_⟩)
  simp only [go_sem]
  all_goals try rfl
end Go.Proofs.YteckcjgpnegkjaaGreatDoor.Ab
