/-
 The functions do what their models say. Printed by wip/ab/gen.py.
-/
import Derived.Test.YtckcfdggbbabfaaGreatModS
import Derived.Test.YtckcfdggbbabfaaGreatTi2
import Derived.Test.YtckcfdggbbabfaaGreatWlkR
namespace Go.Proofs.YtckcfdggbbabfaaGreat.Ab
set_option linter.unusedVariables false
set_option linter.unusedSimpArgs false
set_option maxRecDepth 20000
set_option maxHeartbeats 4000000
open Go.RowKit
theorem La (n:Nat):(∀u w y q g r,Bg n u w y q g=some r→Al Tryz.prog Tryz.f87 [1,1,1,0,1,0] (.tup [.agg (Net.rv r.1),.int .i64 r.2.1,.int .i64 r.2.2]) ⟨[(4,.box 1000001500 0),(7,.box 1000001501 0),(8,.own 1000001001),(16,.own 1000001001),(17,.int .i64 ((List.length w:Nat):Int)),(18,.int .i64 g)],[(1000001000,some ⟨List.map Agent.dm y,some 5,0,true⟩),(1000001001,some ⟨List.map Pair.ds w,some 2,0,false⟩)],[(1000001500,some [.nils]),(1000001501,some [.own 1000001000,.ro (List.map Net.ds u.book),.mpr 1000001502]),(1000001502,some [.mpc (.int .i64) (List.map prB q)])]⟩):=by
 induction n with
 |zero=>exact((fun _ _ _ _ _ _ h=>by rw [Bg] at h; cases h))
 | succ n ih=>
  have ih0:=ih
  ·intro u w y q g r h
   rw [Bg] at h
   refine AN rfl rfl (Z ?_)
   refine AX (Z ?_)
   refine AD h (fun h=>Z ?_) (fun h=>Z ?_)
   ·refine AF ?_
    replace h:=AB h; obtain⟨j,k,h⟩:=h
    refine AM k (Pair.ds_len _) (Z ?_)
    refine AZ (AP k) (Z ?_)
    refine AF ?_
    replace h:=AB h; obtain⟨b,d,h⟩:=h
    refine caG ⟨[],[(1001,1000001000)],[(1,1000001501,0),(2,1000001502,0)],[(1501,112032)],[],true⟩ (LI _ _ _ d) (Z ?_)
    refine AF ?_
    refine AD h (fun h=>Z ?_) (fun h=>Z ?_)
    ·cases h
     simp only [go_sem]
    ·refine AF ?_
     exact lpF (ih0 u w b.2.net.agents b.2.removed (IntKind.i64.wrap (g+1)) _ h) [(1000001000,112032),(1000001001,1000001001)] [(1000001500,1000001500),(1000001501,1000001501),(1000001502,1000001502)]
   ·refine AF ?_
    replace h:=AB h; obtain⟨c,e,h⟩:=h
    refine caG ⟨[],[(1001,1000001000)],[(1,1000001501,0),(2,1000001502,0)],[(1501,176016),(1502,176017)],[],true⟩ (MP _ _ e) (Z ?_)
    refine AF ?_
    cases h
    simp only [go_sem]
theorem N3 (a0 a1 r) (h:Dz a0 a1=some r):AC Tryz.prog 87 [.ro (List.map Net.ds a0),.agg (Net.avs a1)] (.tup [.agg (Net.rv r.1),.int .i64 r.2.1,.int .i64 r.2.2]):=by
 unfold Dz at h
 refine acF Tryz.func87 mixed (h:=Z ?_)
 refine AF ?_
 replace h:=AB h; obtain⟨u,w,h⟩:=h
 refine caG ⟨[],[],[],[(1501,32033)],[(1601,32032),(1602,32034)],true⟩ (Ke _ _ _ w) (Z ?_)
 refine AF ?_
 replace h:=AB h; obtain⟨y,q,h⟩:=h
 refine AH (JO _ _ q) (Z ?_)
 refine AF ?_
 exact loF (La fuel u y u.net.agents u.removed 0 _ h) [(1000001000,32033),(1000001001,48000)] [(1000001500,1001),(1000001501,32032),(1000001502,32034)]
theorem N4 (n:Nat):(∀a0 u w y q r,B0 n a0 u w y q=some r→DA Tryz.prog Tryz.f92 [1,1,1,0,1,0] (.tup [.own 1501,.int .i64 r.2]) [(1501,⟨List.map (slD AO) r.1,some 1,0,false⟩)] [] ⟨[(0,.ro (List.map Net.ds a0)),(2,.int .i64 u),(4,.box 1000005500 0),(10,.own 1000005000),(11,.own 1000005001)],[(1000005000,some ⟨List.map (slD AO) y,some 1,0,false⟩),(1000005001,some ⟨List.map Pair.ds q,some 2,0,false⟩)],[(1000005500,some [.ro (List.map Agent.ds w)])]⟩)∧
    (∀a0 u w y q g j r,CR n a0 u w y q g j=some r→DA Tryz.prog Tryz.f92 [1,1,1,0,1,0,0,1,0,0,1,1,1,0,1,0] (.tup [.own 1501,.int .i64 r.2]) [(1501,⟨List.map (slD AO) r.1,some 1,0,false⟩)] [] ⟨[(0,.ro (List.map Net.ds a0)),(2,.int .i64 (IntKind.i64.wrap (u - ((List.length q:Nat):Int)))),(4,.box 1000009500 0),(10,.own 1000009000),(12,.own 1000009001),(42,.own 1000009002),(43,.int .i64 ((List.length q:Nat):Int)),(44,.int .i64 j)],[(1000009000,some ⟨List.map (slD AO) y,some 1,0,false⟩),(1000009001,some ⟨List.map AO g,some 1,0,false⟩),(1000009002,some ⟨List.map Pair.ds q,some 2,0,false⟩)],[(1000009500,some [.ro (List.map Agent.ds w)])]⟩):=by
 induction n with
 |zero=>exact⟨(fun _ _ _ _ _ _ h=>by rw [B0] at h; cases h),(fun _ _ _ _ _ _ _ _ h=>by rw [CR] at h; cases h)⟩
 | succ n ih=>
  obtain⟨ih0,ih1⟩:=ih
  refine⟨?_,?_⟩
  ·intro a0 u w y q r h
   rw [B0] at h
   refine Av rfl rfl (Z ?_)
   refine AX (Z ?_)
   refine AD h (fun h=>Z ?_) (fun h=>Z ?_)
   ·refine AF ?_
    refine AD h (fun h=>Z ?_) (fun h=>Z ?_)
    ·cases h
     refine A7 (.deep 0 2000000000 (some 1) false [0] (by (first|rfl|(simp only [go_sem]; rfl))) (by simp only [go_sem]) (.done _)) [(1501,2000000000)] [] ?_
     simp only [go_sem]
     all_goals try rfl
    ·refine AF ?_
     replace h:=AB h; obtain⟨k,b,h⟩:=h
     have hq_:=Gz b
     obtain⟨hv12000a,hv12000b,hv12000c⟩:=hq_
     refine BC (by refine⟨?_,?_,?_⟩ <;> omega) (Z ?_)
     refine An (List.map AO k) (by rw [← hv12000c]; simp only [List.map_replicate,go_sem,slD]) (Z ?_)
     refine AF ?_
     exact loG (ih1 a0 u w y q k 0 _ h) [(1000009000,1000005000),(1000009001,192000),(1000009002,1000005001)] [(1000009500,1000005500)]
   ·refine AF ?_
    cases h
    refine A7 (.done _) [(1501,1000005000)] [] ?_
    simp only [go_sem]
  ·intro a0 u w y q g j r h
   rw [CR] at h
   refine Av rfl rfl (Z ?_)
   refine AX (Z ?_)
   refine AD h (fun h=>Z ?_) (fun h=>Z ?_)
   ·refine AF ?_
    replace h:=AB h; obtain⟨d,c,h⟩:=h
    refine AM c (Pair.ds_len _) (Z ?_)
    refine AZ (AP c) (Z ?_)
    refine AF ?_
    replace h:=AB h; obtain⟨e,i,h⟩:=h
    refine AH (Kd _ _ _ i) (Z ?_)
    refine AF ?_
    refine AD h (fun h=>Z ?_) (fun h=>Z ?_)
    ·replace h:=AB h; obtain⟨l,t,h⟩:=h
     refine AM t rfl (Z ?_)
     refine AZ (AP t) (Z ?_)
     replace h:=AB h; obtain⟨s,o,h⟩:=h
     refine AM o rfl (Z ?_)
     replace h:=AB h; obtain⟨z,u1,h⟩:=h
     refine AZ (AP o) (Z ?_)
     refine An (List.map AO z) (by rw [← Ao u1]; simp only [List.map_set,go_sem,slD]) (Z ?_)
     refine AF ?_
     exact lpG (ih1 a0 u w y q z (IntKind.i64.wrap (j+1)) _ h) [(1000009000,1000009000),(1000009001,1000009001),(1000009002,1000009002)] [(1000009500,1000009500)]
    ·refine AF ?_
     exact lpG (ih1 a0 u w y q g (IntKind.i64.wrap (j+1)) _ h) [(1000009000,1000009000),(1000009001,1000009001),(1000009002,1000009002)] [(1000009500,1000009500)]
   ·refine AF ?_
    replace h:=AB h; obtain⟨u2,u3,h⟩:=h
    refine AH (N3 _ _ _ u3) (Z ?_)
    refine AF ?_
    refine AD h (fun h=>Z ?_) (fun h=>Z ?_)
    ·cases h
     refine A7 (.deep 0 2000000000 (some 1) false [0] (by (first|rfl|(simp only [go_sem]; rfl))) (by simp only [go_sem]) (.done _)) [(1501,2000000000)] [] ?_
     simp only [go_sem]
     all_goals try rfl
    ·refine AF ?_
     replace h:=AB h; obtain⟨u4,u5,h⟩:=h
     have hq_:=A5 u5
     obtain⟨hv23003a,hv23003b⟩:=hq_
     refine Di false (Z ?_)
     refine BC (by refine⟨?_,?_⟩ <;> (try simp only [List.length_map,List.length_append,List.length_cons,List.length_nil] at*) <;> (try unfold maxLen) <;> omega) (Z ?_)
     refine An (List.map (slD AO) u4) (by rw [← hv23003b]; simp only [List.map_append,List.map_cons,List.map_nil,List.nil_append,List.append_nil,go_sem,slD]) (Z ?_)
     refine AF ?_
     refine AF ?_
     replace h:=AB h; obtain⟨u6,u7,h⟩:=h
     refine AH (JO _ _ u7) (Z ?_)
     refine TR (Gy rfl rfl (ih0 a0 (IntKind.i64.wrap (u - ((List.length q:Nat):Int))) u2.1.agents u4 u6 _ h):) (.one ⟨_,.frzT 320032 [(66,[0,0]),(63,[0,0]),(67,[0]),(77,[0])] [(1000009500,0),(20007,0)] _ _ _ (by (first|rfl|(simp only [go_sem]; rfl))) (by decide) (by (first|rfl|(simp only [go_sem]; rfl))) (by (first|rfl|(simp only [go_sem]; rfl))) (.done _),[(1000005000,368048),(1000005001,128000)],[(1000005500,1000009500)],?_⟩)
     simp only [go_sem]
     all_goals try rfl
theorem O9 (n:Nat):(∀a0 u w y q r,B0 n a0 u w y q=some r→DA Tryz.prog Tryz.f92 [1,1,1,0,1,0] (.tup [.own 1501,.int .i64 r.2]) [(1501,⟨List.map (slD AO) r.1,some 1,0,false⟩)] [] ⟨[(0,.ro (List.map Net.ds a0)),(2,.int .i64 u),(4,.box 1000005500 0),(10,.own 1000005000),(11,.own 1000005001)],[(1000005000,some ⟨List.map (slD AO) y,some 1,0,false⟩),(1000005001,some ⟨List.map Pair.ds q,some 2,0,false⟩)],[(1000005500,some [.ro (List.map Agent.ds w)])]⟩):=(N4 n).1
theorem NM (a0 a1 a2 r) (h:HZ a0 a1 a2=some r):AG Tryz.prog 92 [.ro (List.map Net.ds a0),.agg [.ro (List.map Agent.ds a1.agents)],.int .i64 a2] [] [] (.tup [.own 1501,.int .i64 r.2]) [(1501,⟨List.map (slD AO) r.1,some 1,0,false⟩)] [] :=by
 unfold HZ at h
 refine agF Tryz.func92 mixed (h:=Z ?_)
 replace h:=AB h; obtain⟨u,w,h⟩:=h
 refine caG ⟨[],[],[],[],[],true⟩ (SH _ _ _ _ _ w) (Z ?_)
 refine AF ?_
 refine AD h (fun h=>Z ?_) (fun h=>Z ?_)
 ·cases h
  refine A7 (.deep 0 2000000000 (some 1) false [0] (by (first|rfl|(simp only [go_sem]; rfl))) (by simp only [go_sem]) (.done _)) [(1501,2000000000)] [] ?_
  simp only [go_sem]
  all_goals try rfl
 ·refine AF ?_
  replace h:=AB h; obtain⟨y,q,h⟩:=h
  refine AH (JO _ _ q) (Z ?_)
  refine AF ?_
  refine Ch (Gy rfl rfl (O9 fuel a0 a2 a1.agents [] y _ h):) (.one ⟨_,.slot 10 2000000000 (some 1) false (by simp only [go_sem]) (by simp only [go_sem]) (.done _),[(1000005000,2000000000),(1000005001,96000)],[(1000005500,1000)],?_⟩)
  simp only [go_sem]
  all_goals try rfl
end Go.Proofs.YtckcfdggbbabfaaGreat.Ab
